import Derived.Test.YtbbicpheoakeeaaGreatDoorX5
set_option linter.all false
set_option maxRecDepth 100000
set_option maxHeartbeats 4000000
namespace Go.Sx
variable {ds:List Deferred}{d:Option Tmp}{o p:Oper}{lg':Lg}{i j:Nat}{q:List Bool}{r:Option (Ex×S)}{g:Value}{x:Operand}{me:FuncId}{ps:Array Tmp}{as bd:Code}
section
open Go
variable [Ora]
section
variable {P:Program} {base gl nt:Nat}
def GR(gl:Nat)(ρ:Ren):Prop:=∀ g,g<gl->ρ g=some (lc g 0 0)
def GR.mono{ρ a:Ren}(h:GR gl ρ)(he:∀ b l,ρ b=some l->a b=some l):GR gl a:=fun g c=>he _ _ (h g c)
structure At (P:Program) (base gl:Nat) (ρ:Ren) (m:Mem) (hi:Nat) (w:World):Prop where
 hr:HR P base ρ m.H w
 bs:base<=w.heap.size
 fr:J9 ρ m.n hi
 gr:GR gl ρ
 nh:m.n<=m.hi
 wb:∀ b ∈ m.W,∀ l,ρ b=some l->l.on=true->base<=l.blk
 gf:∀ k o,Ora.G k=some o->k<base/\w.heap[k]? = some o
def At.wbs{ρ e:Ren}{m m':Mem}{hi:Nat}{w w':World}(h:At P base gl ρ m hi w)(st:St P base ρ e m m' w w'):∀ b ∈ m'.W,∀ l,ρ b=some l->l.on=true->base<=l.blk:=fun b f l c a=>by
 by_cases hm:b ∈ m.W
 .exact h.wb b hm l c a
 .obtain⟨ab,h1,k⟩:=st.wrw b f hm l c;exact((h.hr.atl c h1).2 k a).1
def At.below{ρ c:Ren}{m m':Mem}{hi:Nat}{w w':World}(h:At P base gl ρ m hi w)(st:St P base ρ c m m' w w'){k:Nat}(n:k<base):w'.heap[k]? = w.heap[k]? :=
 st.keep k (D4 n h.bs) fun b f l s a e=>by have:=h.wbs st b f l s a;omega
def At.step{ρ a:Ren}{m m':Mem}{hi:Nat}{w w':World}(h:At P base gl ρ m hi w)(st:St P base ρ a m m' w w'):At P base gl a m' hi w' :=
 ⟨st.hr,B8 h.bs st.size,fun b h1 f=>by
  cases s:a b with
  | none=>rfl
  | some l =>
    cases h0:ρ b with
    | some l0=>rw[h.fr b (B8 st.nle h1) f]at h0;cases h0
    | none=>have:=(st.new b l s h0).2;omega,h.gr.mono st.ext,st.nhi h.nh,fun b s l t c=>by
  cases h0:ρ b with
  | some l0 =>
    have:=st.ext b l0 h0;rw[t]at this
    have:=A8 this;subst this;exact h.wbs st b s l h0 c
  | none =>
    rcases st.blk b l t h0 c with h1|⟨u,h1,l0,f,e,h3⟩
    .have:=h.bs;omega
    .rw[<- h3];exact h.wbs st u h1 l0 f e,fun k o n=>⟨(h.gf k o n).1,(h.below st (h.gf k o n).1).trans (h.gf k o n).2⟩⟩
def At.less{ρ:Ren}{m:Mem}{hi hi':Nat}{w:World}(h:At P base gl ρ m hi w)(c:hi'<=hi):At P base gl ρ m hi' w:=⟨h.hr,h.bs,fun b h1 a=>h.fr b h1 (D4 a c),h.gr,h.nh,h.wb,h.gf⟩
def At.wLg{ρ:Ren}{m:Mem}{hi:Nat}{w:World}(h:At P base gl ρ m hi w)(lg:Lg):At P base gl ρ (m.wLg lg) hi w:=by
 cases m;exact⟨h.hr,h.bs,h.fr,h.gr,h.nh,h.wb,h.gf⟩
def A1Y(P:Program)(base:Nat)(ρ:Ren)(m m':Mem)(w:World)(v:Value):Ending->World->Prop:=fun e w'=>∃ v' a,e=.returned v'/\VR a v v'/\St P base ρ a m m' w w'
structure lZ (P:Program) (base gl:Nat) (f:FuncId) (c:FnC):Prop where
 lg:∀ (vs:List Value) (m m':Mem) (v:Value),c.run vs m=some (v,m')->m.lg.le m'.lg
 ok:∀ (ρ:Ren) (m m':Mem) (w:World) (vs vs':List Value) (v:Value),c.run vs m=some (v,m')->Sat m'.lg->At P base gl ρ m m'.hi w->LR ρ vs vs' ->
  ((callFunc f ⟨vs'⟩).run P w=.ok (.enter f ⟨vs'⟩) w/\Calls P f ⟨vs'⟩ w (A1Y P base ρ m m' w v)) ∨
  (∃ v' ρ' w',(callFunc f ⟨vs'⟩).run P w=.ok (.value v') w'/\VR ρ' v v'/\St P base ρ ρ' m m' w w')
structure Zn where
 rd:Option Nat
 D:List Deferred
def A7x(l:Loc):Deferred:={ target:=.collected l.blk,args:=#[] }
def DfR(ρ:Ren)(ids:List Nat)(ds:List Deferred):Prop:=ids.length=ds.length/\∀ (i:Nat) (id:Nat) (d:Deferred),ids[i]? = some id->ds[i]? = some d->∃ l,ρ id=some l/\d=A7x l
def DfR.mono{ρ f:Ren}{ids:G9}(h:DfR ρ ids ds)(he:∀ b l,ρ b=some l->f b=some l):DfR f ids ds:=⟨h.1,fun i id d a b=>let ⟨l,c,e⟩:=h.2 i id d a b;⟨l,he _ _ c,e⟩⟩
def DfR.nil{ρ:Ren}:DfR ρ [] []:=⟨rfl,fun i id d h=>by simp at h⟩
structure FrR (z:Zn) (ρ:Ren) (nt:Nat) (fr:Fr) (a:Act):Prop where
 size:a.tmps.size=nt
 le:nt<=512
 df:∃ ds,a.defers=ds++z.D/\DfR ρ (dvG nt fr) ds
 rd:nt<=510->(mT (fr.get 511)=true->z.rd=none)/\∀ b,dU (fr.get 511)=some b->∃ l,ρ b=some l/\z.rd=some l.blk
 get:∀ t,t<nt->VR ρ (fr.get t) (a.tmps.getD t undef)
variable {z:Zn}
def FrR.mono{ρ f:Ren}{fr:Fr}{a:Act}(h:FrR z ρ nt fr a)(he:∀ b l,ρ b=some l->f b=some l):FrR z f nt fr a :=
 ⟨h.size,h.le,let ⟨ds,a,b⟩:=h.df;⟨ds,a,b.mono he⟩,fun k=>⟨(h.rd k).1,fun b m=>let ⟨l,c,e⟩:=(h.rd k).2 b m;⟨l,he _ _ c,e⟩⟩,fun t n=>(h.get t n).mono he⟩
def FrR.put{ρ:Ren}{fr:Fr}{a:Act}{d:Nat}{v v':Value}(h:FrR z ρ nt fr a)(l:d<nt)(hv:VR ρ v v'):FrR z ρ nt (fr.set d v) (a.put (some d) v'):=by
 have hle:=h.le;have b:∀ t,t<512->t≠d->(fr.set d v).get t=fr.get t:=fun t h1 s=>by rw[L6 _ _ _ _ A2 h1,A6 s]
 refine⟨by simp[Act.put,h.size],h.le,?_,fun m=>?_,fun t k=>?_⟩
 .obtain⟨ds,n,c⟩:=h.df;refine⟨ds,n,?_⟩;unfold dvG at c ⊢;cases f:Nat.ble nt 510 with
  | true =>
    have:=A1 f;rw[f]at c;rw[b 510 F5 A2];exact c
  | false=>rw[f]at c;exact c
 .rw[b 511 F5 A2];exact h.rd m
 .rw[L6 _ _ _ _ (D4 l h.le) (D4 k h.le)];simp only[Act.put,B6,F8];by_cases e:t=d
  .subst e;rw[A9 rfl,A9 rfl,A9 (by rw[h.size];exact l)];exact hv
  .rw[A6 e,A6 (fun h=>e h.symm)]
   have:=h.get t k
   simpa [B6]using this
def ZR(z:Zn)(ρ:Ren)(nt:Nat)(fr:Fr)(a:List Deferred):Prop:=(∃ ds,a=ds++z.D/\DfR ρ (dvG nt fr) ds)/\(nt<=510->(mT (fr.get 511)=true->z.rd=none)/\∀ b,dU (fr.get 511)=some b->∃ l,ρ b=some l/\z.rd=some l.blk)
def FrR.zr{ρ:Ren}{fr:Fr}{a:Act}(h:FrR z ρ nt fr a):ZR z ρ nt fr a.defers:=⟨h.df,h.rd⟩
def ZR.congr{ρ f:Ren}{fr a:Fr}(h:ZR z ρ nt fr ds)(he:∀ b l,ρ b=some l->f b=some l)(n:nt<=510->a.get 510=fr.get 510/\a.get 511=fr.get 511):ZR z f nt a ds:=by
 obtain⟨⟨m,h1,t⟩,h3⟩:=h;refine⟨⟨m,h1,?_⟩,fun k=>?_⟩
 .have:dvG nt a=dvG nt fr:=by
   unfold dvG;cases u:Nat.ble nt 510 with
   | true=>rw[(n (A1 u)).1]
   | false=>rfl
  rw[this];exact t.mono he
 .rw[(n k).2];exact⟨(h3 k).1,fun b s=>let ⟨l,c,e⟩:=(h3 k).2 b s;⟨l,he _ _ c,e⟩⟩
def eE(a:Act)(d:Option Tmp)(v:Value):(a.put d v).defers=a.defers:=by cases d<;>rfl
def FrR.ev{ρ:Ren}{fr:Fr}{a:Act}(h:FrR z ρ nt fr a)(c:GR gl ρ){x:Operand}(hx:okX nt gl x=true):VR ρ (ev fr x) (a.eval x):=by
 cases x with
 | tmp t=>exact h.get t (A1 hx)
 | const v=>exact VR.ofC hx
 | global g =>
   have:=VR.ptr (o:=0) (c g (A1 hx));exact this
 | func f=>exact .func (a:=[]) (b:=[]) (a':=[]) (b':=[]) rfl rfl (fun i v v' h=>by simp at h) (fun i v v' h=>by simp at h)
def FrR.ops{ρ:Ren}{fr:Fr}{a:Act}(h:FrR z ρ nt fr a)(b:GR gl ρ){o:Op}(c:MU nt gl o=true):FR ρ fr a.eval o:=fun x hx=>h.ev b (D3.1 c x hx)
def yV{o:Op}{c:Callee}{xs:Array Operand}{tys:Array TypeId}(h:o=.call ⟨c,xs,tys⟩):∀ x ∈ xs.toList,x ∈ o.operands.toList:=fun x hx=>by
 subst h;show x ∈ ((match c with|.value f=>#[f]|.invoke r _=>#[r]|.builtin _=>#[])++xs:Array Operand).toList;simp;exact .inr (by simpa using hx)
structure A7D (P:Program) (base gl:Nat) (c:FnC):Prop where
 lg:∀ (vs:List Value) (m m':Mem) (v:Value),c.run vs m=some (v,m')->m.lg.le m'.lg
 ok:∀ (ρ:Ren) (m m':Mem) (w:World) (b:Nat) (args args':List Value) (v:Value) (l:Loc),c.run (yv b::args) m=some (v,m')->Sat m'.lg->At P base gl ρ m m'.hi w->LR ρ args args'->ρ b=some l ->
  ∃ f tmps assign body,(Instr.yield l.blk ⟨args'⟩).run P w=.ok (.round l.blk f tmps assign body) w/\RoundIn Fence.wide 0 P l.blk f tmps assign body w (A1Y P base ρ m m' w v)
structure V2 (P:Program) (base gl:Nat) (call:O2):Prop where
 fn:∀ f,lZ P base gl f (call.fn f)
 yl:A7D P base gl call.yl
def AJ{v:Value}{b:Nat}(h:dU v=some b):v=yv b:=by
 unfold dU at h;split at h
 .cases h;rfl
 .cases h
def pI{ρ:Ren}{m m':Mem}{w:World}{call:O2}{fr:Fr}{a:Act}{v:Value}{K:Act->World->Prop}{Q:Exit->Act->World->Prop}(n:V2 P base gl call)(k:(W3 P call o).run fr m=some (v,m'))(F:Sat m'.lg)
  (h:At P base gl ρ m m'.hi w) (C:FR ρ fr a.eval o.op) (G:∀ v' s w',VR s v v'->St P base ρ s m m' w w'->K (a.put o.dst v') w'):wpO P z.rd o a w K Q:=by
 have H:∀ (f:FuncId) (vs B:List Value),(∀ c,o.op≠.defer c)->(call.fn f).run vs m=some (v,m')->LR ρ vs B->(execOp a.eval o).run P w=(callFunc f ⟨B⟩).run P w->wpO P z.rd o a w K Q:=fun f vs B J hr hv he=>by
  refine⟨fun _ _=>trivial,?_⟩;rw[Oper.semAt_eq _ _ _ J,he];rcases(n.fn f).ok ρ m m' w vs B v hr F h hv with⟨h1,A⟩|⟨v',s,w',h1,A,h3⟩
  .rw[h1,Oper.uponIn_enter];refine⟨qX,oI.2 (A.mono fun e w' ⟨v',s,he,hv,M⟩=>?_)⟩;subst he;exact G v' s w' hv M
  .rw[h1,Oper.uponIn_value];exact G v' s w' A h3
 have t:∀ (J:∀ c,o.op≠.defer c),NOk P base ρ m w (execOp a.eval o) v m'->wpO P z.rd o a w K Q:=fun J O=>by
  obtain⟨v',s,w',h1,A,h3⟩:=O;refine⟨fun _ _=>trivial,?_⟩;rw[Oper.semAt_eq _ _ _ J];rcases h1 with h1|⟨h1,rfl⟩
  .rw[h1,Oper.uponIn_value];exact G v' s w' A h3
  .rw[h1,Oper.uponIn_skip];exact G undef s w' A h3
 obtain⟨dst,op,ty,pos,V,W⟩:=o;unfold W3 at k;simp only at k C;split at k
 .rename_i f xs tys;have l1:=cS (ρ:=ρ) (fr:=fr) (g:=a.eval) (xs:=xs.toList) fun x hx=>C x (yV rfl x hx)
  have k:(call.fn f).run ((uE xs.toList).run fr) m=some (v,m'):=k;rw[nA]at k;refine H f _ _ (fun c n=>by cases n) k l1 ?_;have I:xs.map a.eval=⟨xs.toList.map a.eval⟩:=by apply I7;simp
  simp only[execOp,resolve,Act.eval,Deferred.ofValue,pure_bind,invoke,I];simp
 .rename_i x xs tys N;have l1:=cS (ρ:=ρ) (fr:=fr) (g:=a.eval) (xs:=xs.toList) fun y L=>C y (yV rfl y L)
  have hx:VR ρ (ev fr x) (a.eval x):=C x (by show x ∈ (#[x]++xs:Array Operand).toList;simp);have k:IL call m ((R5 x).run fr) ((uE xs.toList).run fr)=some (v,m'):=k;rw[nA,dT]at k;have I:xs.map a.eval=⟨xs.toList.map a.eval⟩:=by apply I7;simp
  unfold IL at k;split at k
  .rename_i f vs u;unfold vQ at u;split at u
   .rename_i f0 p q E;cases u;rw[E]at hx;generalize D:a.eval x=gx at hx;cases hx with
    | pure hp=>simp[I1]at hp
    | func U Y h1 A =>
      rename_i p q R Z;have lp:LR ρ p R:=⟨U,h1⟩;have T:LR ρ q Z:=⟨Y,A⟩;refine H f _ _ (fun c n=>by cases n) k (lp.append (l1.append T)) ?_;simp only[execOp,resolve,D,Deferred.ofValue,pure_bind,invoke,I];simp
   .cases u
  .split at k
   .rename_i b L;have E:=AJ L;rw[E]at hx k;obtain⟨l,X,D⟩:=A0P hx;obtain⟨f,tmps,as,bd,h1,A⟩:=n.yl.ok ρ m m' w b _ _ v l k F h l1 X;refine⟨fun _ _=>trivial,?_⟩;have he:(execOp a.eval ⟨dst,.call ⟨.value x,xs,tys⟩,ty,pos,V,W⟩).run P w=(Instr.yield l.blk ⟨xs.toList.map a.eval⟩).run P w:=by
     simp only[execOp,resolve,D,Deferred.ofValue,pure_bind,invoke,I];simp
    rw[Oper.semAt_eq _ _ _ (fun c n=>by cases n),he,h1,Oper.uponIn_round];refine⟨qX,?_⟩;have A:RoundIn (fw z.rd) 0 P l.blk f tmps as bd w (A1Y P base ρ m m' w v):=A;refine A.mono fun e w' ⟨v',s,he,hv,M⟩=>?_
    subst he;exact G v' s w' hv M
   .cases k
 .have k:ZQ P (yT P _) _ fr m=some (v,m'):=k;unfold ZQ at k;rw[yS]at k;split at k
  .rename_i r hr;cases k;exact t (fun c n=>by have n:op=.defer c:=n;subst n;cases hr) (A6I h.hr h.bs hr h.fr C)
  .split at k
   .rename_i r hr;cases k;exact t (fun c n=>by have n:op=.defer c:=n;subst n;cases hr) (A1r h.hr hr C F)
   .split at k
    .rename_i r hr;cases k;exact t (fun c n=>by have n:op=.defer c:=n;subst n;cases hr) (A63 h.hr h.bs hr h.fr C F)
    .exact t (fun c n=>by have n:op=.defer c:=n;subst n;cases k) (A5m h.hr h.bs k h.fr C F)
def x9{m m':Mem}{call:O2}{fr:Fr}{v:Value}(b:V2 P base gl call)(a:(W3 P call o).run fr m=some (v,m')):m.lg.le m'.lg:=by
 unfold W3 at a;split at a
 .exact(b.fn _).lg _ _ _ _ a
 .have a:IL call m _ _=some (v,m'):=a;unfold IL at a;split at a
  .exact(b.fn _).lg _ _ _ _ a
  .split at a
   .exact b.yl.lg _ _ _ _ a
   .cases a
 .have a:ZQ P (yT P _) _ fr m=some (v,m'):=a;unfold ZQ at a;rw[yS]at a;split at a
  .rename_i r hr;cases a;show m.lg.le _;rw[A6J hr];exact .refl _
  .split at a
   .rename_i r hr;cases a;exact(OU hr).1
   .split at a
    .rename_i r hr;cases a;exact A64 hr
    .exact A5n a
def UW{lg:Lg}{v:Value}{b c:Bool}(h:GE lg v b=some (c,lg')):lg.le lg':=by
 unfold GE at h;split at h
 .cases h;exact .refl _
 .split at h
  .rename_i a;cases h;exact eS a
  .cases h
 .obtain⟨_,h⟩:=A3 h;cases h;exact .refl _
def gJ{lg:Lg}{fr:Fr}{all:List Oper}{b:Bool}(h:aW nt fr lg all o=some (b,lg')):lg.le lg':=by
 unfold aW at h;split at h
 .cases h;exact .refl _
 .split at h
  .split at h
   .obtain⟨_,h⟩:=A3 h;exact UW h
   .cases h
  .cases h
def oU{ρ:Ren}{lg:Lg}{v v':Value}{b c:Bool}(h:GE lg v b=some (c,lg'))(hv:VR ρ v v')(f:Sat lg'):(v'=.bool (c == b)∨(c=false/\v'=.tuple ⟨[]⟩)):=by
 unfold GE at h;split at h
 .rename_i d;cases h;left;rw[cF hv];cases d<;>cases b<;>rfl
 .split at h
  .rename_i d l m;cases h;left
   rw[lT m hv f];cases d<;>cases b<;>rfl
  .cases h
 .rename_i u _ _;obtain⟨h3,a⟩:=A3 h;cases a;right
  have hu:v=.tuple ⟨[]⟩:=by
   unfold mT at h3;split at h3
   .rfl
   .cases h3
  rw[hu]at hv;obtain⟨cs',e,k⟩:=sK hv;cases k.nil_inv;exact⟨rfl,e⟩
def mD{all:Array Oper}{tmps:V9}{want b:Bool}{t:Tmp}(k:o.guard=some (j,want))(hp:all.toList[j]? = some p)(l:p.dst=some t)(c:t<tmps.size)
  (hv:tmps.getD t undef=.bool (b == want)∨(b=false/\tmps.getD t undef=.tuple ⟨[]⟩)):Region.wanted o (yielded all tmps)=b:=by
 have a:tmps[t]? = some (tmps.getD t undef):=by simp[B6,c]
 have f:(all[j]?).bind (·.dst)=some t:=by
  have:all[j]? = some p:=by simpa using hp
  simp[this,l]
 unfold Region.wanted;simp only[k];rcases hv with e|⟨rfl,e⟩
 .have:yielded all tmps j=some (b == want):=by simp[yielded,f,a,e]
  rw[this];cases b<;>cases want<;>rfl
 .have:yielded all tmps j=none:=by simp[yielded,f,a,e]
  rw[this];rfl
def GF{ρ:Ren}{lg:Lg}{all:Array Oper}{fr:Fr}{a:Act}{b:Bool}(h:FrR z ρ nt fr a)(hw:aW nt fr lg all.toList o=some (b,lg'))(k:Sat lg'):Region.wanted o (yielded all a.tmps)=b:=by
 unfold aW at hw;split at hw
 .rename_i c;cases hw;simp[Region.wanted,c]
 .rename_i j want c;split at hw
  .rename_i p hp;split at hw
   .rename_i t f;obtain⟨h1,e⟩:=A3 hw;have h1:t<nt:=A1 h1;exact mD c hp f (by rw[h.size];exact h1) (oU e (h.get t h1) k)
   .cases hw
  .cases hw
def wK{β:Type}(t:Nat)(v:Value)(fr:Fr)(k:Fr->β):uT (sel (t / 64%8)) (sel (t / 8%8)) (sel (t%8)) v fr k=k (fr.set t v):=DM t v fr k
def uV(d:Option Tmp)(v:Value)(fr:Fr):Fr:=match d with|some t=>fr.set t v|none=>fr
def cI(d:Option Tmp)(v:Value)(fr:Fr)(k:Fr->Option S):(uW d).run v fr k=k (uV d v fr):=by
 cases d with
 | none=>rfl
 | some t=>exact wK t v fr k
def FrR.dst{ρ:Ren}{fr:Fr}{a:Act}{v v':Value}(h:FrR z ρ nt fr a)(b:yP nt d=true)(hv:VR ρ v v'):FrR z ρ nt (uV d v fr) (a.put d v'):=by
 cases d with
 | none=>exact h
 | some t=>exact h.put (A1 b) hv
def s5{c:OpC}{next:A1X}{s b:S}(h:kN c (uW d) next s=some b):∃ v m',c.run s.fr s.m=some (v,m')/\s.m.hi<=m'.hi/\next.run ⟨uV d v s.fr,m'⟩=some b:=by
 unfold kN at h;obtain⟨fr,m⟩:=s;simp only at h;split at h
 .rename_i v m' hr;obtain⟨h1,a⟩:=A3 h;rw[cI]at a;exact⟨v,m',hr,A1 h1,a⟩
 .cases h
def rZ{call:O2}{all:List Oper}:∀ (r:List Oper) (s a:S),(U6 P nt gl call all r).run s=some a->s.m.hi<=a.m.hi
 | [],s,a,h=>by
   have h:some s=some a:=h;cases h;exact A7 _
 | o::r,s,a,h=>by
   unfold U6 at h;cases c:yP nt o.dst && MU nt gl o.op with
   | false=>rw[c]at h;cases h
   | true =>
     rw[c]at h;simp only[E1]at h;split at h
     .obtain⟨v,m',_,h1,b⟩:=s5 h;exact B8 h1 (rZ r _ _ b)
     .have h:eC nt all o (W3 P call o) (uW o.dst) (U6 P nt gl call all r) s=some a:=h;unfold eC at h;obtain⟨fr,⟨H,n,W,hi,lg⟩⟩:=s;simp only at h;split at h
      .obtain⟨v,m',_,h1,b⟩:=s5 h;exact B8 h1 (rZ r _ _ b)
      .rename_i lg' _;rw[cI]at h;exact rZ r ⟨uV o.dst undef fr,⟨H,n,W,hi,lg'⟩⟩ a h
      .cases h
def kV{call:O2}(b:V2 P base gl call){all:List Oper}:∀ (r:List Oper) (s a:S),(U6 P nt gl call all r).run s=some a->s.m.lg.le a.m.lg
 | [],s,a,h=>by
   have h:some s=some a:=h;cases h;exact .refl _
 | o::r,s,a,h=>by
   unfold U6 at h;cases e:yP nt o.dst && MU nt gl o.op with
   | false=>rw[e]at h;cases h
   | true =>
     rw[e]at h;simp only[E1]at h;split at h
     .obtain⟨v,m',h0,h1,c⟩:=s5 h;exact(x9 b h0).trans (kV b r _ _ c)
     .have h:eC nt all o (W3 P call o) (uW o.dst) (U6 P nt gl call all r) s=some a:=h;unfold eC at h;obtain⟨fr,⟨H,n,W,hi,lg⟩⟩:=s;simp only at h;split at h
      .rename_i lg' hw;obtain⟨v,m',h0,h1,c⟩:=s5 h;exact(gJ hw).trans ((x9 b h0).trans (kV b r _ _ c))
      .rename_i lg' hw;rw[cI]at h;exact(gJ hw).trans (kV b r ⟨uV o.dst undef fr,⟨H,n,W,hi,lg'⟩⟩ a h)
      .cases h
def DY{call:O2}{all:Array Oper}{Q:Exit->Act->World->Prop}(u:V2 P base gl call):∀ (r:List Oper) (ρ:Ren) (s c:S) (a:Act) (w:World),(U6 P nt gl call all.toList r).run s=some c->Sat c.m.lg->At P base gl ρ s.m c.m.hi w->FrR z ρ nt s.fr a ->
  (∀ e a' w',FrR z e nt c.fr a'->St P base ρ e s.m c.m w w'->Q .normal a' w')->wpL P z.rd all Q r a w
 | [],ρ,s,c,a,w,h,hS,b,l,y=>by
   have h:some s=some c:=h;cases h;exact y ρ a w l (.refl b.hr)
 | o::r,ρ,s,c,a,w,h,hS,b,l,y=>by
   unfold U6 at h;cases B:yP nt o.dst && MU nt gl o.op with
   | false=>rw[B]at h;cases h
   | true =>
     rw[B]at h;simp only[E1]at h;obtain⟨A,C⟩:=B4 B;have plain:∀ (s:S),At P base gl ρ s.m c.m.hi w->FrR z ρ nt s.fr a->(∀ e a' w',FrR z e nt c.fr a'->St P base ρ e s.m c.m w w'->Q .normal a' w') ->
       kN (W3 P call o) (uW o.dst) (U6 P nt gl call all.toList r) s=some c->Region.wanted o (yielded all a.tmps)=true->wpL P z.rd all Q (o::r) a w:=fun s b l y hr hw=>by
      obtain⟨v,m',h1,E,h3⟩:=s5 hr;have hh:=rZ r _ _ h3;have f:Sat m'.lg:=R2.le hS (kV u r _ _ h3);refine GC fun K D=>?_
      rw[A9 hw];refine pI u h1 f (b.less hh) (l.ops b.gr C) fun v' e w' hv st=>D _ _ ?_
      refine DY u r e _ c _ _ h3 hS (b.step st) ((l.mono st.ext).dst A hv) fun ρ2 a2 w2 f2 k=>y ρ2 a2 w2 f2 (St.trans b.fr st k)
     split at h
     .rename_i F;exact plain s b l y h (by simp[Region.wanted,F])
     .have h:eC nt all.toList o (W3 P call o) (uW o.dst) (U6 P nt gl call all.toList r) s=some c:=h;unfold eC at h;obtain⟨fr,m⟩:=s;obtain⟨H,n,W,hi,lg⟩:=m;simp only at h;split at h
      .rename_i lg' hw;have t:St P base ρ ρ ⟨H,n,W,hi,lg⟩ ⟨H,n,W,hi,lg'⟩ w w:=St.wLg (m:=⟨H,n,W,hi,lg⟩) b.hr lg';obtain⟨v,m',h0,h1,E⟩:=s5 h;have f:Sat lg':=R2.le hS ((x9 u h0).trans (kV u r _ _ E));exact plain ⟨fr,⟨H,n,W,hi,lg'⟩⟩ (b.wLg lg') l (fun ρ2 a2 w2 f2 k=>y ρ2 a2 w2 f2 (St.trans b.fr t k)) h (GF l hw f)
      .rename_i lg' hw;have t:St P base ρ ρ ⟨H,n,W,hi,lg⟩ ⟨H,n,W,hi,lg'⟩ w w:=St.wLg (m:=⟨H,n,W,hi,lg⟩) b.hr lg';rw[cI]at h;have f:Sat lg':=R2.le hS (kV u r ⟨uV o.dst undef fr,⟨H,n,W,hi,lg'⟩⟩ c h);refine GC fun K D=>?_
       rw[A6 (by rw[GF l hw f];simp)];exact D _ _ (DY u r ρ ⟨uV o.dst undef fr,⟨H,n,W,hi,lg'⟩⟩ c _ _ h hS (b.wLg lg') (l.dst A (oW ρ)) fun ρ2 a2 w2 f2 k=>y ρ2 a2 w2 f2 (St.trans b.fr t k))
      .cases h
def Ex.out:Ex->Exit
 | .normal=>.normal
 | .exit id=>.exit id
 | .ret=>.ret
def A2l{ops:List Oper}{z:Zn}{ρ:Ren}{s:S}{a:Act}{w:World}(hm:lC P nt gl s.fr s.m.H ops=true)(hr:HR P base ρ s.m.H w)(L:GR gl ρ)(hf:FrR z ρ nt s.fr a):LH P ops (a,w):=by
 obtain⟨h1,h2⟩:=B4 hm;have key:∀ o ∈ ops,∀ t x,lV o.op=some (t,x)->∃ b l cs T,ev s.fr x=.pointer (some b)/\ρ b.block=some l/\a.eval x=.pointer (some ⟨l.blk,b.off+l.sh,none⟩)/\Hp.get s.m.H b.block=some (.cells cs T false)/\b.block<=H5/\l.on=true/\AH P w t (a.eval x):=fun o J t x hx=>by
  have hp:=D3.1 h1 o J;unfold XY at hp;rw[hx]at hp;simp only at hp;cases v:okX nt gl x with
  | false=>rw[v]at hp;cases hp
  | true =>
    rw[v]at hp;simp only[P7,D7]at hp;split at hp
    .rename_i b g sz A B e3;split at hp
     .rename_i cs T az f;obtain⟨N,hp⟩:=B4 hp;obtain⟨D,I⟩:=B4 hp;have N:=A1 N;have D:b.off<cs.length:=A1 D;have I:=A1 I;have hv:=hf.ev L v;rw[A]at hv;obtain⟨l,l1,_,O⟩:=O0 hv;obtain⟨⟨F,C,fz,R,c1,Z,_⟩,_⟩:=hr.atl l1 f;have n:∀ k,k<cs.length->l.sh+k<C.size:=fun k v=>by
       obtain⟨v',K,_⟩:=Z k cs[k] (A5 v);exact(C6.1 K).1
      refine⟨b,l,cs,T,A,l1,O,f,I,F,l.blk,b.off+l.sh,C,R,fz,sz,g,O,c1,e3,B,?_,?_⟩
      .have:=n b.off D;by_cases h0:sz=0
       .omega
       .have:=n (b.off+sz-1) A2;omega
      .have:=n b.off D;omega
     .cases hp
    .cases hp
 refine⟨fun o J t x hx=>by obtain⟨_,_,_,_,_,_,_,_,_,_,h⟩:=key o J t x hx;exact h,fun i j o p G hi Q he E t x u y hx M X ay A B=>?_⟩;obtain⟨b,l,cs,T,k1,W,k3,k4,k5,k6,_⟩:=key o (C7 hi) t x hx;obtain⟨bd,r,ds,V,n1,n2,n3,Y,n5,U,_⟩:=key p (C7 Q) u y M;have c:=HN h2 G hi Q he;unfold A1S at c;rw[E]at c;simp only[E1,hx,M,k1,n1]at c;rw[k3]at A;rw[n3]at B;cases A;cases B;show l.blk≠r.blk;intro e;obtain⟨_,hu⟩:=hr.atl W k4;obtain⟨_,hu⟩:=hu rfl k6
 have:=hu bd.block n5 _ r Y n2 (.inl ⟨rfl,U,e.symm⟩);rw[this,dJ]at c;cases c
def At.drew{ρ:Ren}{m:Mem}{hi:Nat}{w:World}(a:At P base gl ρ m hi w)(d:Nat):At P base gl ρ m hi { w with drawn:=d } :=
 ⟨⟨fun b l h=>a.hr.dom b l h,fun id hid ab c=>by
  obtain⟨l,f,k,e⟩:=a.hr.at_ id hid ab c;exact⟨l,f,BR.mono (w:=w) (fun _ _ h=>h) (fun _ _=>rfl) k,e⟩⟩,a.bs,a.fr,a.gr,a.nh,a.wb,a.gf⟩
def St.undrew{ρ a:Ren}{m m':Mem}{w w':World}{d:Nat}(st:St P base ρ a m m' { w with drawn:=d } w'):St P base ρ a m m' w w' :=
 ⟨st.ext,st.new,st.nle,st.hle,st.nhi,st.hr,st.wsub,st.wrw,st.keep,st.size,st.os,st.blk,st.same,st.tch⟩
def ML{call:O2}{ops:Array Oper}{z:Zn}{id:Nat}(k:P.follows .mixedOrders=true)(B:V2 P base gl call){ρ:Ren}{s f:S}{a:Act}{w:World}{Q:Exit->Act->World->Prop}(hr:kO ops.toList=true)(hm:lC P nt gl s.fr s.m.H ops.toList=true)(h:(U6 P nt gl call ops.toList ops.toList).run s=some f)(v:Sat f.m.lg)(e:At P base gl ρ s.m f.m.hi w)(u:FrR z ρ nt s.fr a)
  (E:∀ c a' w',FrR z c nt f.fr a'->St P base ρ c s.m f.m w w'->Q .normal a' w'):(Code.region id ops true).wpIn (fw z.rd) 0 P Q a w:=by
 refine kF k (A19 hr (fun w' l=>?_) (fun d=>?_) _)
 .have n:=A2l hm e.hr e.gr u;refine⟨fun o F t x hx=>?_,n.ap⟩;obtain⟨b,o',C,T,fz,sz,g,A,D,y⟩:=n.pl o F t x hx;exact⟨b,o',C,T,fz,sz,g,A,by show w'.heap[b]? = _;rw[l];exact D,y⟩
 .exact DY B ops.toList ρ s f a { w with drawn:=d } h v (e.drew d) u fun c a' w' f1 st=>⟨rfl,E c a' w' f1 st.undrew⟩
def fT(P:Program)(base gl:Nat)(call:O2):Prop :=
 P.follows .mixedOrders=true/\∀ (nt:Nat) (ops:Array Oper),FJ ops=true->∀ (s b:S),l6 P nt gl call ops.toList ops.toList 0 (Y1 ops.toList []) [] [] s=some b->(s.m.hi<=b.m.hi/\s.m.lg.le b.m.lg) /\
  ∀ (z:Zn) (ρ:Ren) (a:Act) (w:World) (id:Nat) (Q:Exit->Act->World->Prop),Sat b.m.lg->At P base gl ρ s.m b.m.hi w->FrR z ρ nt s.fr a ->
   (∀ c a' w',FrR z c nt b.fr a'->St P base ρ c s.m b.m w w'->Q .normal a' w')->(Code.region id ops true).wpIn (fw z.rd) 0 P Q a w
def N6:∀ (q r:List Bool) (c:Code),H9 (q++r) c=(H9 q c).bind (H9 r)
 | [],r,c=>rfl
 | false::q,r,.seq a b=>N6 q r a
 | true::q,r,.seq a b=>N6 q r b
 | false::q,r,.cond _ a b=>N6 q r a
 | true::q,r,.cond _ a b=>N6 q r b
 | false::q,r,.block _ c=>N6 q r c
 | false::q,r,.loop c=>N6 q r c
 | false::q,r,.scope c=>N6 q r c
 | true::q,r,.scope c=>rfl
 | true::q,r,.block _ c=>rfl
 | true::q,r,.loop c=>rfl
 | b::q,r,.skip=>by cases b<;>rfl
 | b::q,r,.region _ _ _=>by cases b<;>rfl
 | false::q,r,.rangeFunc _ _ a _=>N6 q r a
 | true::q,r,.rangeFunc _ _ _ b=>N6 q r b
 | b::q,r,.exit _=>by cases b<;>rfl
 | b::q,r,.label _=>by cases b<;>rfl
 | b::q,r,.goto _=>by cases b<;>rfl
 | b::q,r,.ret=>by cases b<;>rfl
 | b::q,r,.refuse _=>by cases b<;>rfl
def I0{b:Bool}{body c d:Code}(h:H9 q body=some c)(a:H9 [b] c=some d):H9 (q++[b]) body=some d:=by
 rw[N6,h];exact a
structure V8 (P:Program) (base gl nt:Nat) (c:Code) (L:S->Option (Ex×S)):Prop where
 lg:∀ (s s':S) (e:Ex),L s=some (e,s')->s.m.hi<=s'.m.hi/\s.m.lg.le s'.m.lg
 ok:∀ (s s':S) (e:Ex),L s=some (e,s')->Sat s'.m.lg->∃ N,∀ (z:Zn) (ρ:Ren) (a:Act) (w:World) (Q:Exit->Act->World->Prop),At P base gl ρ s.m s'.m.hi w->FrR z ρ nt s.fr a ->
  (∀ ρ' a' w',FrR z ρ' nt s'.fr a'->St P base ρ ρ' s.m s'.m w w'->Q e.out a' w')->Code.roundsIn (fw z.rd) 0 P c Q N a w
def orL(a b:S->Option (Ex×S))(s:S):Option (Ex×S) :=
 match a s with
 | some r=>some r
 | none=>b s
def V8.or{nt:Nat}{c:Code}{a b:S->Option (Ex×S)}(l:V8 P base gl nt c a)(f:V8 P base gl nt c b):V8 P base gl nt c (orL a b):=by
 refine⟨fun s m e h=>?_,fun s m e h k=>?_⟩
 .unfold orL at h;split at h
  .rename_i r hr;cases h;exact l.lg _ _ _ hr
  .exact f.lg _ _ _ h
 .unfold orL at h;split at h
  .rename_i r hr;cases h;exact l.ok _ _ _ hr k
  .exact f.ok _ _ _ h k
def OL(P:Program)(base gl nt:Nat)(body:Code)(lp:LpT):Prop :=
 (∃ fn,P.funcs[lp.me]? = some fn/\fn.body=some body/\fn.ntmps=nt)/\∀ q x L,H9 q body=some (.loop x)->lp.look q=some L->V8 P base gl nt x L
def mN{m m':Mem}{ab:AB}{k:Nat->Value}{v:Value}(h:Y6 m ab k=some (v,m')):v=k m.n/\m.hi<=m'.hi/\m'.lg=m.lg:=by
 obtain⟨_,a,rfl⟩:=L3 h;exact⟨a,(K7 _ _).1,rfl⟩
def mH{m m':Mem}{id:Nat}{ab:AB}(h:cA m id ab=some m'):m'.hi=m.hi/\m'.lg=m.lg:=by
 obtain⟨_,rfl⟩:=U4 h;exact⟨rfl,rfl⟩
def tQ{fr:Fr}{hi b:Nat}{r:Res}{e:Ex}{a:S}(h:pX fr hi b r=some (e,a)):∃ v m f q vs st m',r=some (v,m)/\Hp.get m.H b=some (.lp f q vs st)/\nEx st=some e/\hi<=m.hi/\cA m b (.lp f q vs 3)=some m'/\a=⟨fr,m'⟩:=by
 unfold pX at h;split at h
 .rename_i v m;split at h
  .rename_i f q vs st c;split at h
   .rename_i k he;obtain⟨h1,h⟩:=A3 h;split at h
    .rename_i m' hm;cases h;exact⟨_,_,_,_,_,_,_,rfl,c,he,A1 h1,hm,rfl⟩
    .cases h
   .cases h
  .cases h
 .cases h
def wY{call:O2}{f:FuncId}{fr:Fr}{m:Mem}{e:Ex}{s:S}(h:bV P nt call f q g fr m=some (e,s)) :
  ∃ m1 k a b,Y6 m (.lp f q (frL fr 0 nt) 0) yv=some (yv m.n,m1)/\g=.func (.func k) a b/\qU P k=true/\pX fr m1.hi m.n ((call.fn k).run (a.toList++([yv m.n]++b.toList)) m1)=some (e,s):=by
 unfold bV at h;rw[H8]at h;split at h
 .rename_i v m1 l;have hv:=(mN l).1;subst hv;have u:dU (yv m.n)=some m.n:=rfl;split at h
  .rename_i k as b c t;rw[u]at t;cases t;obtain⟨h1,h⟩:=A3 h;unfold vQ at c;split at c
   .cases c;exact⟨m1,_,_,_,l,rfl,h1,h⟩
   .cases c
  .cases h
 .cases h
def nV{call:O2}(t:V2 P base gl call){f:FuncId}{fr:Fr}{m:Mem}{e:Ex}{c:S}(h:bV P nt call f q g fr m=some (e,c)):m.hi<=c.m.hi/\m.lg.le c.m.lg:=by
 obtain⟨m1,k,a,b,h1,_,_,w⟩:=wY h;obtain⟨v,m2,f,q,vs,st,m3,s,_,_,u,n,rfl⟩:=tQ w
 have:=(t.fn k).lg _ _ _ _ s;obtain⟨g1,g2⟩:=mH n;obtain⟨_,y,l⟩:=mN h1;refine⟨by show m.hi<=m3.hi;rw[g1];exact B8 y u,?_⟩;show m.lg.le m3.lg;rw[g2,<- l];exact this
def CS{call:O2}{f:FuncId}{x:XC}{s u:S}{e:Ex}(h:yY P nt call f q x s=some (e,u)):nt<=510 /\
  ((∃ k f0 t c,dU (s.fr.get 511)=some k/\Hp.get s.m.H k=some (.lp f0 t c 1)/\bV P nt call f q (x.run s.fr) s.fr s.m=some (e,u)) ∨
    (mT (s.fr.get 511)=true/\∃ m1,Y6 s.m (.dfr true) (fun b=>.pointer (some ⟨b,0,none⟩))=some (.pointer (some ⟨s.m.n,0,none⟩),m1) /\
      bV P nt call f q (x.run s.fr) (s.fr.set 510 (dv (s.m.n::hY (s.fr.get 510)))) m1=some (e,u))):=by
 unfold yY at h;obtain⟨fr,m⟩:=s;obtain⟨h1,h⟩:=A3 h;refine⟨A1 h1,?_⟩;split at h
 .rename_i k A;split at h
  .rename_i f0 t c w;exact .inl ⟨k,f0,t,c,A,w,h⟩
  .cases h
 .obtain⟨y,h⟩:=A3 h;refine .inr ⟨y,?_⟩;split at h
  .rename_i a m1 v;have hv:=(mN v).1;cases hv;rw[H8]at h;have:uT (sel 7) (sel 7) (sel 6) (dv (m.n::hY (fr.get 510))) fr (fun l=>bV P nt call f q (x.run fr) l m1)=bV P nt call f q (x.run fr) (fr.set 510 (dv (m.n::hY (fr.get 510)))) m1:=wK 510 _ _ _;rw[this]at h;exact⟨m1,v,h⟩
  .cases h
def UL{call:O2}(b:V2 P base gl call){f:FuncId}{x:XC}{s a:S}{e:Ex}(h:yY P nt call f q x s=some (e,a)):s.m.hi<=a.m.hi/\s.m.lg.le a.m.lg:=by
 obtain⟨_,⟨_,_,_,_,_,_,h⟩|⟨_,m1,c,h⟩⟩:=CS h
 .exact nV b h
 .have:=nV b h;obtain⟨_,k,l⟩:=mN c;rw[l]at this;exact⟨B8 k this.1,this.2⟩
def RK(fr:Fr):∀ (n i j:Nat),(frL fr i n)[j]? = if j<n then some (fr.get (i+j))else none
 | 0,i,j=>by simp[frL]
 | n+1,i,0=>by simp[frL]
 | n+1,i,j+1=>by
   rw[frL,Q3,RK fr n (i+1) j];have:i+1+j=i+(j+1):=A2;rw[this];by_cases h:j<n
   .rw[A9 h,A9 A2]
   .rw[A6 h,A6 A2]
def EW(fr:Fr):∀ (n i:Nat),(frL fr i n).length=n
 | 0,i=>rfl
 | n+1,i=>by simp[frL,EW fr n]
def FrR.list{ρ:Ren}{fr:Fr}{a:Act}(h:FrR z ρ nt fr a):LR ρ (frL fr 0 nt) a.tmps.toList:=by
 refine⟨by rw[EW];simpa using h.size.symm,fun i v v' h1 b=>?_⟩;rw[RK]at h1;split at h1
 .rename_i hi;cases h1
  have:=h.get i hi;rw[F1];have h3:a.tmps.getD i undef=v':=by
   have:a.tmps[i]? = some v':=by simpa using b
   simp[B6,this]
  rw[h3]at this;exact this
 .cases h1
def NN{k:FuncId}(h:qU P k=true):∃ fn c,P.funcs[k]? = some fn/\fn.body=some c:=by
 unfold qU at h;split at h
 .rename_i fn b;split at h
  .rename_i c a;exact⟨fn,c,by simpa using b,a⟩
  .cases h
 .cases h
def nP{k:FuncId}{args:V9}{w w':World}{v:Value}(h:qU P k=true):(callFunc k args).run P w≠.ok (.value v) w':=by
 obtain⟨fn,c,h1,b⟩:=NN h;by_cases a:fn.name = "runtime.NumGoroutine"
 .simp[callFunc,h1,a]
 .simp[callFunc,h1,a,b]
def iO{w:World}{l:Nat}{o:Obj}(h:l<w.heap.size):(w.putObj l o).heap.size=w.heap.size/\(w.putObj l o).heap[l]? = some o/\∀ k,k≠l->(w.putObj l o).heap[k]? = w.heap[k]? := ⟨by simp[World.putObj],World.putObj_heap_same h,fun k a=>World.putObj_heap_other a⟩
def wX{call:O2}(hc:V2 P base gl call){fn:Func}{body:Code}(f1:P.funcs[me]? = some fn)(f2:fn.body=some body)(f3:fn.ntmps=nt)(hq:H9 q body=some (.rangeFunc x ps as bd))
  {fr:Fr} {m:Mem} {e:Ex} {O:S} (h:bV P nt call me q g fr m=some (e,O)) (hS:Sat O.m.lg) {ρ:Ren} {a:Act} {w:World} {r:Loop} (C:At P base gl ρ m O.m.hi w) (hf:FrR z ρ nt fr a) (hg:VR ρ g (a.eval x))
  (hr:r.state=.ready/\r.pending=none/\r.tmps=a.tmps/\r.params=ps/\r.assign=as/\r.body=bd) {Q:Exit->Act->World->Prop}
  (hQ:∀ D w',FrR z D nt O.fr a->St P base ρ D m O.m w w'->Q e.out a w') :
  ∃ k args d,(resolve a.eval (rangeCall x w.heap.size) 0).run P (w.alloc (.loop r))=.ok d (w.alloc (.loop r))/\(invoke d.target d.args).run P (w.alloc (.loop r))=.ok (.enter k args) (w.alloc (.loop r)) /\
   CallsIn (fw z.rd) 0 P k args (w.alloc (.loop r)) (rangePost (fw z.rd) 0 P w.heap.size Q a):=by
 obtain⟨m1,k,A,B,h1,W,H,h2⟩:=wY h;obtain⟨v,m2,ff,qq,vs,st,m3,e1,e2,G,e4,Z,rfl⟩:=tQ h2;obtain⟨g1,g2⟩:=mH Z;obtain⟨_,g3,g4⟩:=mN h1;have N:Sat m2.lg:=by have:Sat m3.lg:=hS;rwa[g2]at this
 have f:J9 ρ m.n m3.hi:=C.fr;have hle:m1.hi<=m3.hi:=by rw[g1];exact e4
 obtain⟨r1,r2,r3,r4,r5,r6⟩:=hr;subst r4;subst r5;subst r6;have s:(w.alloc (.loop r)).heap=w.heap.push (.loop r):=rfl;have E:ρ m.n=none:=f m.n (A7 _) (by
  obtain⟨_,_,q⟩:=L3 h1;have:m1.hi=upN m.hi m.n:=by rw[q]
  have h3:=(K7 m.hi m.n).2;omega)
 obtain⟨_,k1,u⟩:=St.alloc (w':=w.alloc (.loop r)) (o:=.loop r) (l:=lc w.heap.size 0 0) C.hr C.bs h1 (f.less hle) ⟨rfl,rfl,rfl⟩ s rfl (by
  refine⟨⟨rfl,rfl⟩,r,by simp[s],⟨fn,body,x,f1,f2,hq,by rw[EW,f3]⟩,?_,⟨r1,r2⟩⟩;rw[r3];exact hf.list.mono (W5 E))
 have t:=C.step u;obtain⟨A,rfl⟩:∃ l:C9,A=⟨l⟩:=⟨A.toList,rfl⟩;obtain⟨B,rfl⟩:∃ l:C9,B=⟨l⟩:=⟨B.toList,rfl⟩;subst W;generalize Y:a.eval x=gx at hg;cases hg with
 | pure hp=>simp[I1]at hp
 | func ha M q1 q2 =>
   rename_i L R;have lA:LR ρ A L:=⟨ha,q1⟩;have lB:LR ρ B R:=⟨M,q2⟩;have hy:VR (upd ρ m.n (lc w.heap.size 0 0)) (yv m.n) (.func (.yield w.heap.size) #[] #[]):=VR.yv k1;have hl:=(lA.mono u.ext).append ((LR.cons hy .nil).append (lB.mono u.ext));refine⟨k,⟨L++([.func (.yield w.heap.size) #[] #[]]++R)⟩,{ target:=.fn (.func k) ⟨R⟩,args:=⟨L⟩++#[.func (.yield w.heap.size) #[] #[]] },?_,?_,?_⟩
   .show(Deferred.ofValue (a.eval x) _).run P _=_;rw[Y];simp[Deferred.ofValue,Act.eval]
   .have X:(callFunc k ⟨L++([.func (.yield w.heap.size) #[] #[]]++R)⟩).run P (w.alloc (.loop r))=.ok (.enter k ⟨L++([.func (.yield w.heap.size) #[] #[]]++R)⟩) (w.alloc (.loop r)):=by
     rcases(hc.fn k).ok _ m1 m2 _ _ _ v e1 N (t.less (by show m2.hi<=m3.hi;rw[g1];exact A7 _)) hl with⟨K,_⟩|⟨v',D,w',K,_⟩
     .exact K
     .exact absurd K (nP H)
    rw[<- X];show(callFunc k _).run P _=_;congr 2;apply I7;simp
   .rcases(hc.fn k).ok _ m1 m2 _ _ _ v e1 N (t.less (by show m2.hi<=m3.hi;rw[g1];exact A7 _)) hl with⟨_,c2⟩|⟨v',D,w',K,_⟩
    .refine oI.2 (c2.mono fun en w2 ⟨v',ρ2,he,hv,y⟩=>?_);subst he;have k2:=y.ext _ _ k1;obtain⟨b1,b2⟩:=y.hr.atl k2 e2;obtain⟨⟨b3,b4⟩,F,T,U⟩:=b1;have T:w2.heap[w.heap.size]? = some (.loop F):=T;have I:F.state≠.busy:=by
      have c:=U.st;intro M
      match st,c,G with
      | 0,c,_=>rw[M]at c;cases c.1
      | 2,c,_=>rw[M]at c;cases c.1
      | k+4,c,_=>rw[M]at c;cases c.1
     obtain⟨p1,p2,p3⟩:=iO (o:=.loop { F with state:=.exhausted }) (C6.1 T).1;have V:St P base ρ2 ρ2 m2 m3 w2 (w2.putObj w.heap.size (.loop { F with state:=.exhausted })):=St.write y.hr Z e2 rfl k2 rfl ⟨rfl,rfl,rfl⟩ p1 p3 ⟨⟨rfl,rfl⟩,_,p2,U.code,U.fr,trivial⟩;have J:St P base ρ ρ2 m m3 w _:=St.trans f u (St.trans t.fr y V);have b:=hQ ρ2 _ (hf.mono J.ext) J;refine⟨F.pending,_,run_endLoop T I,?_⟩;have c:=U.st
     match st,c,G with
     | 0,c,G=>cases G;rw[show F.pending=none from c.2]at b ⊢;exact b
     | 2,c,G=>cases G;rw[show F.pending=some .ret from c.2]at b ⊢;exact wpIn_ret b
     | k+4,c,G=>cases G;rw[show F.pending=some (.exit k)from c.2]at b ⊢;exact wpIn_exit b
    .exact absurd K (nP H)
def XG{call:O2}(O:V2 P base gl call){fn:Func}{body:Code}(f1:P.funcs[me]? = some fn)(f2:fn.body=some body)(f3:fn.ntmps=nt)(Y:H9 q body=some (.rangeFunc x ps as bd))(hx:okX nt gl x=true)
  {s E:S} {e:Ex} {ρ:Ren} {a:Act} {w:World} {Q:Exit->Act->World->Prop} (h:yY P nt call me q (R5 x) s=some (e,E)) (W:Sat E.m.lg) (f:At P base gl ρ s.m E.m.hi w) (F:FrR z ρ nt s.fr a)
  (V:∀ u a' w',FrR z u nt E.fr a'->St P base ρ u s.m E.m w w'->Q e.out a' w'):(Code.rangeFunc x ps as bd).wpIn (fw z.rd) 0 P Q a w:=by
 obtain⟨I,h⟩:=CS h;refine wpIn_rangeFunc fun b _=>?_
 have hv:=F.ev f.gr hx;rcases h with⟨b0,f0,q0,Z,hy,hg,h⟩|⟨hu,m1,C,h⟩
 .obtain⟨l0,e1,e2⟩:=(F.rd I).2 b0 hy;obtain⟨⟨_,X,b1,_⟩,_⟩:=f.hr.atl e1 hg;have D:(Instr.enterLoop b a.tmps ps as bd (fw z.rd).round).run P w=.ok (w.heap.size,[]) (w.alloc (.loop { state:=.ready,pending:=none,fn:=b,tmps:=a.tmps,params:=ps,assign:=as,body:=bd,defers:=X.defers })):=by
   show(Instr.enterLoop b a.tmps ps as bd z.rd).run P w=_;rw[e2];unfold Instr.enterLoop;simp only[A4,run_getLoop b1,run_newObj_alloc,Result.andThen,Sem.run_pure]
  rw[dT]at h;obtain⟨k,args,d,J,L,K⟩:=wX (r:={ state:=.ready,pending:=none,fn:=b,tmps:=a.tmps,params:=ps,assign:=as,body:=bd,defers:=X.defers }) O f1 f2 f3 Y h W f F hv ⟨rfl,rfl,rfl,rfl,rfl,rfl⟩ (Q:=Q) fun u w' g1 g2=>V u a w' g1 g2
  exact⟨_,_,_,d,_,k,args,_,D,J,fun _ _=>trivial,L,qX,K⟩
 .have M:=(F.rd I).1 hu;have v:J9 ρ s.m.n E.m.hi:=f.fr;have U:=nV O h;obtain⟨_,g3,g4⟩:=mN C;have D:(Instr.enterLoop b a.tmps ps as bd (fw z.rd).round).run P w=.ok (w.heap.size+1,[{ target:=.collected w.heap.size,args:=#[] }]) ((w.alloc (.deferred (some []))).alloc (.loop { state:=.ready,pending:=none,fn:=b,tmps:=a.tmps,params:=ps,assign:=as,body:=bd,defers:=w.heap.size })):=by
   show(Instr.enterLoop b a.tmps ps as bd z.rd).run P w=_;rw[M];exact run_enterLoop_outer b a.tmps ps as bd
  have c:(w.alloc (.deferred (some []))).heap=w.heap.push (.deferred (some [])):=rfl;obtain⟨_,k1,A⟩:=St.alloc (w':=w.alloc (.deferred (some []))) (o:=.deferred (some [])) (l:=lc w.heap.size 0 0) f.hr f.bs C (v.less U.1) ⟨rfl,rfl,rfl⟩ c rfl ⟨⟨rfl,rfl⟩,_,by simp[c],fun _=>rfl⟩;have H:=f.step A;have N:(w.alloc (.deferred (some []))).heap.size=w.heap.size+1:=by simp[c]
  let a2:Act:={ a with defers:={ target:=.collected w.heap.size,args:=#[] }::a.defers }
  have T:FrR z (upd ρ s.m.n (lc w.heap.size 0 0)) nt (s.fr.set 510 (dv (s.m.n::hY (s.fr.get 510)))) a2:=by
   have y:=F.mono A.ext;have B:∀ t,t<512->t≠510->(s.fr.set 510 (dv (s.m.n::hY (s.fr.get 510)))).get t=s.fr.get t:=fun t h1 G=>by rw[L6 _ _ _ _ F5 h1,A6 G]
   refine⟨y.size,y.le,?_,fun _=>by rw[B 511 F5 F5];exact y.rd I,fun t ht=>by rw[B t A2 A2];exact y.get t ht⟩;obtain⟨ds,d1,d2⟩:=y.df;refine⟨{ target:=.collected w.heap.size,args:=#[] }::ds,by show _::a.defers=_;rw[d1];rfl,?_⟩;unfold dvG at d2 ⊢;have hb:Nat.ble nt 510=true:=C4 I;rw[hb]at d2 ⊢;rw[L6 _ _ _ _ F5 F5,A9 rfl];have hd:hY (dv (s.m.n::hY (s.fr.get 510)))=s.m.n::hY (s.fr.get 510):=by
    simp[hY,dv,A4A,Function.comp_def]
   simp only[E1,hd]at d2 ⊢;refine⟨by simp[d2.1],fun i id d h1 G=>?_⟩;cases i with
   | zero =>
     simp only[Q2,D2]at h1 G;subst h1;subst G;exact⟨_,k1,rfl⟩
   | succ i=>exact d2.2 i id d (by simpa using h1) (by simpa using G)
  have R:VR (upd ρ s.m.n (lc w.heap.size 0 0)) ((R5 x).run s.fr) (a2.eval x):=by
   rw[dT];exact hv.mono A.ext
  obtain⟨k,args,d,J,L,K⟩:=wX (r:={ state:=.ready,pending:=none,fn:=b,tmps:=a.tmps,params:=ps,assign:=as,body:=bd,defers:=w.heap.size }) O f1 f2 f3 Y h W H T R ⟨rfl,rfl,rfl,rfl,rfl,rfl⟩ (Q:=Q) fun u w' g1 g2=>V u a2 w' g1 (St.trans v A g2)
  rw[N]at J K;exact⟨_,_,_,d,_,k,args,_,D,J,fun _ _=>trivial,L,qX,K⟩
def xM{call:O2}{lp:LpT}{q:List Bool}{x:Code}(hx:∀ (s c:S) (e:Ex),(M9 P nt gl call lp q x).run s=some (e,c)->s.m.hi<=c.m.hi/\s.m.lg.le c.m.lg):∀ (n:Nat) (s c:S) (e:Ex),BN (M9 P nt gl call lp q x) n s=some (e,c)->s.m.hi<=c.m.hi/\s.m.lg.le c.m.lg
 | 0,s,c,e,h=>by cases h
 | n+1,s,c,e,h=>by
   unfold BN at h;split at h
   .rename_i s1 h1;have a:=hx _ _ _ h1;have b:=xM hx n _ _ _ h;exact⟨B8 a.1 b.1,a.2.trans b.2⟩
   .exact hx _ _ _ h
def xN{call:O2}{lp:LpT}{q:List Bool}{x:Code}{L:S->Option (Ex×S)}(hx:∀ (s c:S) (e:Ex),(M9 P nt gl call lp q x).run s=some (e,c)->s.m.hi<=c.m.hi/\s.m.lg.le c.m.lg)
  (f:∀ (s c:S) (e:Ex),L s=some (e,c)->s.m.hi<=c.m.hi/\s.m.lg.le c.m.lg):∀ (n:Nat) (s c:S) (e:Ex),BO (M9 P nt gl call lp q x) L n s=some (e,c)->s.m.hi<=c.m.hi/\s.m.lg.le c.m.lg
 | 0,s,c,e,h=>by cases h
 | n+1,s,c,e,h=>by
   unfold BO at h;split at h
   .rename_i r hr;cases h;exact f _ _ _ hr
   .split at h
    .rename_i s1 h1;have a:=hx _ _ _ h1;have b:=xN hx f n _ _ _ h;exact⟨B8 a.1 b.1,a.2.trans b.2⟩
    .exact hx _ _ _ h
def KP{c:XC}{a b:fU}{s l:S}{e:Ex}(h:KQ c a b s=some (e,l)):∃ t lg,brL s.m.lg (c.run s.fr)=some (t,lg)/\(bif t then a.run ⟨s.fr,s.m.wLg lg⟩else b.run ⟨s.fr,s.m.wLg lg⟩)=some (e,l):=by
 obtain⟨fr,⟨H,n,W,hi,lg⟩⟩:=s;unfold KQ at h;split at h
 .rename_i f;exact⟨true,lg,by rw[f];rfl,h⟩
 .rename_i f;exact⟨false,lg,by rw[f];rfl,h⟩
 .simp only at h;split at h
  .rename_i lg' k;exact⟨true,lg',k,h⟩
  .rename_i lg' k;exact⟨false,lg',k,h⟩
  .cases h
def S9{call:O2}{lp:LpT}{body:Code}(u:V2 P base gl call)(v:fT P base gl call)(l:OL P base gl nt body lp):∀ (c:Code) (q:List Bool),H9 q body=some c->∀ (s k:S) (e:Ex),(M9 P nt gl call lp q c).run s=some (e,k)->s.m.hi<=k.m.hi/\s.m.lg.le k.m.lg
 | .skip,q,f,s,k,e,h=>by have h:some (Ex.normal,s)=some (e,k):=h;cases h;exact⟨A7 _,.refl _⟩
 | .label _,q,f,s,k,e,h=>by have h:some (Ex.normal,s)=some (e,k):=h;cases h;exact⟨A7 _,.refl _⟩
 | .exit id,q,f,s,k,e,h=>by have h:some (Ex.exit id,s)=some (e,k):=h;cases h;exact⟨A7 _,.refl _⟩
 | .ret,q,f,s,k,e,h=>by have h:some (Ex.ret,s)=some (e,k):=h;cases h;exact⟨A7 _,.refl _⟩
 | .region id ops d,q,f,s,k,e,h=>by
   cases d with
   | false =>
     have h:X9 (U6 P nt gl call ops.toList ops.toList) s=some (e,k):=h;unfold X9 at h;split at h
     .rename_i s1 h1;cases h;exact⟨rZ _ _ _ h1,kV u _ _ _ h1⟩
     .cases h
   | true =>
     unfold M9 at h;simp only at h;cases f:FJ ops with
     | false=>rw[f]at h;cases h
     | true =>
       rw[f]at h;have go:X9 ⟨l6 P nt gl call ops.toList ops.toList 0 (Y1 ops.toList []) [] []⟩ s=some (e,k)->s.m.hi<=k.m.hi/\s.m.lg.le k.m.lg:=fun h=>by
        unfold X9 at h;split at h
        .rename_i s1 h1;cases h;exact(v.2 nt ops f _ _ h1).1
        .cases h
       simp only[E1]at h;cases hr:kO ops.toList with
       | false=>rw[hr]at h;exact go h
       | true =>
         rw[hr]at h;simp only[E1]at h;cases hm:lC P nt gl s.fr s.m.H ops.toList with
         | false=>rw[hm]at h;exact go h
         | true =>
           rw[hm]at h;simp only[E1]at h;unfold X9 at h;split at h
           .rename_i s1 h1;cases h;exact⟨rZ _ _ _ h1,kV u _ _ _ h1⟩
           .cases h
 | .seq x y,q,f,s,k,e,h=>by
   have w:=S9 u v l x (q++[false]) (I0 f rfl);have A:=S9 u v l y (q++[true]) (I0 f rfl);have h:A1I (M9 P nt gl call lp (q++[false]) x) (M9 P nt gl call lp (q++[true]) y) s=some (e,k):=h;unfold A1I at h;split at h
   .rename_i s1 h1;have a:=w _ _ _ h1;have b:=A _ _ _ h;exact⟨B8 a.1 b.1,a.2.trans b.2⟩
   .exact w _ _ _ h
 | .cond c x y,q,f,s,k,e,h=>by
   have w:=S9 u v l x (q++[false]) (I0 f rfl);have A:=S9 u v l y (q++[true]) (I0 f rfl);unfold M9 at h;cases f:okX nt gl c with
   | false=>rw[f]at h;cases h
   | true =>
     rw[f]at h;have h:KQ (R5 c) (M9 P nt gl call lp (q++[false]) x) (M9 P nt gl call lp (q++[true]) y) s=some (e,k):=h;obtain⟨t,lg,h1,B⟩:=KP h;have C:=eS h1;obtain⟨fr,⟨H,n,W,hi,l0⟩⟩:=s;cases t with
     | true=>have a:=w _ _ _ B;exact⟨a.1,C.trans a.2⟩
     | false=>have b:=A _ _ _ B;exact⟨b.1,C.trans b.2⟩
 | .block id x,q,f,s,k,e,h=>by
   have w:=S9 u v l x (q++[false]) (I0 f rfl);have h:yZ id (M9 P nt gl call lp (q++[false]) x) s=some (e,k):=h;unfold yZ at h;split at h
   .rename_i j s1 h1
    have:=w _ _ _ h1;cases f:Nat.beq j id<;>rw[f]at h<;>cases h<;>exact this
   .exact w _ _ _ h
 | .loop x,q,f,s,k,e,h=>by
   have h:KO (M9 P nt gl call lp (q++[false]) x) (lp.look q) s=some (e,k):=h;unfold KO at h;split at h
   .rename_i L D;exact xN (S9 u v l x (q++[false]) (I0 f rfl)) (l.2 q x L f D).lg _ _ _ _ h
   .exact xM (S9 u v l x (q++[false]) (I0 f rfl)) _ _ _ _ h
 | .rangeFunc x _ _ _,q,f,s,k,e,h=>by
   unfold M9 at h;cases hx:okX nt gl x with
   | false=>rw[hx]at h;cases h
   | true=>rw[hx]at h;exact UL u h
 | .scope x,q,f,s,k,e,h=>S9 u v l x (q++[false]) (I0 f rfl) s k e h
 | .goto _,q,f,s,k,e,h=>by cases h
 | .refuse _,q,f,s,k,e,h=>by cases h
def S8{call:O2}{lp:LpT}{body:Code}(D:V2 P base gl call)(E:fT P base gl call)(l:OL P base gl nt body lp):∀ (c:Code) (q:List Bool),H9 q body=some c->∀ (ρ:Ren) (s f:S) (e:Ex) (a:Act) (w:World) (Q:Exit->Act->World->Prop),(M9 P nt gl call lp q c).run s=some (e,f)->Sat f.m.lg->At P base gl ρ s.m f.m.hi w->FrR z ρ nt s.fr a ->
  (∀ J a' w',FrR z J nt f.fr a'->St P base ρ J s.m f.m w w'->Q e.out a' w')->c.wpIn (fw z.rd) 0 P Q a w
 | .skip,q,C,ρ,s,f,e,a,w,Q,h,hS,b,v,A=>by have h:some (Ex.normal,s)=some (e,f):=h;cases h;exact wpIn_skip (A ρ a w v (.refl b.hr))
 | .label _,q,C,ρ,s,f,e,a,w,Q,h,hS,b,v,A=>by have h:some (Ex.normal,s)=some (e,f):=h;cases h;exact wpIn_label (A ρ a w v (.refl b.hr))
 | .exit id,q,C,ρ,s,f,e,a,w,Q,h,hS,b,v,A=>by have h:some (Ex.exit id,s)=some (e,f):=h;cases h;exact wpIn_exit (A ρ a w v (.refl b.hr))
 | .ret,q,C,ρ,s,f,e,a,w,Q,h,hS,b,v,A=>by have h:some (Ex.ret,s)=some (e,f):=h;cases h;exact wpIn_ret (A ρ a w v (.refl b.hr))
 | .region id ops d,q,C,ρ,s,f,e,a,w,Q,h,hS,b,v,A=>by
   cases d with
   | false =>
     have h:X9 (U6 P nt gl call ops.toList ops.toList) s=some (e,f):=h;unfold X9 at h;split at h
     .rename_i s1 h1;cases h;exact uM (DY D _ ρ s f a w h1 hS b v A)
     .cases h
   | true =>
     unfold M9 at h;simp only at h;cases C:FJ ops with
     | false=>rw[C]at h;cases h
     | true =>
       rw[C]at h;have go:X9 ⟨l6 P nt gl call ops.toList ops.toList 0 (Y1 ops.toList []) [] []⟩ s=some (e,f)->(Code.region id ops true).wpIn (fw z.rd) 0 P Q a w:=fun h=>by
        unfold X9 at h;split at h
        .rename_i s1 h1;cases h;exact(E.2 nt ops C _ _ h1).2 z ρ a w id Q hS b v A
        .cases h
       simp only[E1]at h;cases hr:kO ops.toList with
       | false=>rw[hr]at h;exact go h
       | true =>
         rw[hr]at h;simp only[E1]at h;cases hm:lC P nt gl s.fr s.m.H ops.toList with
         | false=>rw[hm]at h;exact go h
         | true =>
           rw[hm]at h;simp only[E1]at h;unfold X9 at h;split at h
           .rename_i s1 h1;cases h;exact ML E.1 D hr hm h1 hS b v A
           .cases h
 | .seq x y,q,C,ρ,s,f,e,a,w,Q,h,hS,b,v,A=>by
   have B:H9 (q++[false]) body=some x:=I0 C rfl;have K:H9 (q++[true]) body=some y:=I0 C rfl;have h:A1I (M9 P nt gl call lp (q++[false]) x) (M9 P nt gl call lp (q++[true]) y) s=some (e,f):=h;unfold A1I at h;split at h
   .rename_i s1 h1;have hh:=S9 D E l y _ K _ _ _ h;refine wpIn_seq (S8 D E l x _ B ρ s s1 .normal a w _ h1 (R2.le hS hh.2) (b.less hh.1) v fun u F w1 f1 k=>?_);exact S8 D E l y _ K u s1 f e F w1 Q h hS (b.step k) f1 fun ρ2 a2 w2 f2 G=>A ρ2 a2 w2 f2 (St.trans b.fr k G)
   .rename_i I;refine wpIn_seq (S8 D E l x _ B ρ s f e a w _ h hS b v fun u F w1 f1 k=>?_)
    have:=A u F w1 f1 k;cases e with
    | normal=>exact absurd h (I f)
    | exit id=>exact this
    | ret=>exact this
 | .cond c x y,q,C,ρ,s,f,e,a,w,Q,h,hS,b,v,A=>by
   have B:H9 (q++[false]) body=some x:=I0 C rfl;have K:H9 (q++[true]) body=some y:=I0 C rfl;unfold M9 at h;cases O:okX nt gl c with
   | false=>rw[O]at h;cases h
   | true =>
     rw[O]at h;have h:KQ (R5 c) (M9 P nt gl call lp (q++[false]) x) (M9 P nt gl call lp (q++[true]) y) s=some (e,f):=h;have hv:=v.ev b.gr O;obtain⟨t,lg,h1,V⟩:=KP h;rw[dT]at h1;have T:St P base ρ ρ s.m (s.m.wLg lg) w w:=St.wLg b.hr lg;cases t with
     | true =>
       have hh:=S9 D E l x _ B _ _ _ V;have Z:Sat lg:=R2.le hS (by obtain⟨fr,⟨H,n,W,hi,l0⟩⟩:=s;exact hh.2);exact wpIn_cond_true (lT h1 hv Z) (S8 D E l x _ B ρ ⟨s.fr,s.m.wLg lg⟩ f e a w Q V hS (b.wLg lg) v fun ρ2 a2 w2 f2 G=>A ρ2 a2 w2 f2 (St.trans b.fr T G))
     | false =>
       have hh:=S9 D E l y _ K _ _ _ V;have Z:Sat lg:=R2.le hS (by obtain⟨fr,⟨H,n,W,hi,l0⟩⟩:=s;exact hh.2);exact wpIn_cond_false (lT h1 hv Z) (S8 D E l y _ K ρ ⟨s.fr,s.m.wLg lg⟩ f e a w Q V hS (b.wLg lg) v fun ρ2 a2 w2 f2 G=>A ρ2 a2 w2 f2 (St.trans b.fr T G))
 | .block id x,q,C,ρ,s,f,e,a,w,Q,h,hS,b,v,A=>by
   have B:H9 (q++[false]) body=some x:=I0 C rfl;have h:yZ id (M9 P nt gl call lp (q++[false]) x) s=some (e,f):=h;unfold yZ at h;split at h
   .rename_i j s1 h1;cases M:Nat.beq j id with
    | true =>
      rw[M]at h;cases h;have Y:=A0 M;refine wpIn_block (S8 D E l x _ B ρ s f (.exit j) a w _ h1 hS b v fun u F w1 f1 k=>?_)
      have:=A u F w1 f1 k
      simpa [Exit.inBlock,Ex.out,Y]using this
    | false =>
      rw[M]at h;cases h;have Y:j≠id:=fun e=>by subst e;simp at M
      refine wpIn_block (S8 D E l x _ B ρ s f (.exit j) a w _ h1 hS b v fun u F w1 f1 k=>?_)
      have:=A u F w1 f1 k
      simpa [Exit.inBlock,Ex.out,Y]using this
   .rename_i I;refine wpIn_block (S8 D E l x _ B ρ s f e a w _ h hS b v fun u F w1 f1 k=>?_)
    have:=A u F w1 f1 k;cases e with
    | normal=>exact this
    | exit j=>exact absurd h (I j f)
    | ret=>exact this
 | .loop x,q,C,ρ,s,f,e,a,w,Q,h,hS,b,v,A=>by
   have B:H9 (q++[false]) body=some x:=I0 C rfl;replace h:KO (M9 P nt gl call lp (q++[false]) x) (lp.look q) s=some (e,f):=h;unfold KO at h;split at h
   .rename_i L hL;have U:=l.2 q x L C hL;have key:∀ (n:Nat) (s:S),BO (M9 P nt gl call lp (q++[false]) x) L n s=some (e,f)->∃ N,∀ (ρ:Ren) (a:Act) (w:World) (Q:Exit->Act->World->Prop),At P base gl ρ s.m f.m.hi w->FrR z ρ nt s.fr a ->
      (∀ J a' w',FrR z J nt f.fr a'->St P base ρ J s.m f.m w w'->Q e.out a' w')->Code.roundsIn (fw z.rd) 0 P x Q N a w:=by
     intro n;induction n with
     | zero=>intro s h;cases h
     | succ n X =>
       intro s h;unfold BO at h;split at h
       .rename_i r hr;cases h;obtain⟨N,R⟩:=U.ok s f e hr hS;exact⟨N,R z⟩
       .split at h
        .rename_i s1 h1;obtain⟨N,R⟩:=X s1 h;have hh:=xN (S9 D E l x _ B) U.lg _ _ _ _ h;refine⟨N+1,fun ρ a w Q b v A=>?_⟩;show x.wpIn (fw z.rd) 0 P (Exit.then (Code.roundsIn (fw z.rd) 0 P x Q N) Q) a w;refine S8 D E l x _ B ρ s s1 .normal a w _ h1 (R2.le hS hh.2) (b.less hh.1) v fun u F w1 f1 k=>?_
         exact R u F w1 Q (b.step k) f1 fun ρ2 a2 w2 f2 G=>A ρ2 a2 w2 f2 (St.trans b.fr k G)
        .rename_i I;refine⟨1,fun ρ a w Q b v A=>?_⟩;show x.wpIn (fw z.rd) 0 P (Exit.then (Code.roundsIn (fw z.rd) 0 P x Q 0) Q) a w;refine S8 D E l x _ B ρ s f e a w _ h hS b v fun u F w1 f1 k=>?_
         have:=A u F w1 f1 k;cases e with
         | normal=>exact absurd h (I f)
         | exit id=>exact this
         | ret=>exact this
    obtain⟨N,R⟩:=key _ s h;exact wpIn_loop_rounds N (R ρ a w Q b v A)
   obtain⟨n,h0⟩:∃ n,BN (M9 P nt gl call lp (q++[false]) x) n s=some (e,f):=⟨_,h⟩;clear h;have h:=h0;clear h0;refine wpIn_loop_rounds n ?_;induction n generalizing s ρ a w with
   | zero=>cases h
   | succ n X =>
     unfold BN at h;show x.wpIn (fw z.rd) 0 P (Exit.then (Code.roundsIn (fw z.rd) 0 P x Q n) Q) a w;split at h
     .rename_i s1 h1;have hh:=xM (S9 D E l x _ B) _ _ _ _ h;refine S8 D E l x _ B ρ s s1 .normal a w _ h1 (R2.le hS hh.2) (b.less hh.1) v fun u F w1 f1 k=>?_
      exact X u s1 F w1 (b.step k) f1 (fun ρ2 a2 w2 f2 G=>A ρ2 a2 w2 f2 (St.trans b.fr k G)) h
     .rename_i I;refine S8 D E l x _ B ρ s f e a w _ h hS b v fun u F w1 f1 k=>?_
      have:=A u F w1 f1 k;cases e with
      | normal=>exact absurd h (I f)
      | exit id=>exact this
      | ret=>exact this
 | .rangeFunc x ps as bd,q,C,ρ,s,f,e,a,w,Q,h,hS,b,v,A=>by
   unfold M9 at h;cases hx:okX nt gl x with
   | false=>rw[hx]at h;cases h
   | true =>
     rw[hx]at h;obtain⟨fn,f1,f2,f3⟩:=l.1;exact XG D f1 f2 f3 C hx h hS b v A
 | .scope x,q,C,ρ,s,f,e,a,w,Q,h,hS,b,v,A=>LK (S8 D E l x _ (I0 C rfl) ρ s f e a w _ h hS b v fun u F w1 f1 k=>by cases e<;>exact A u F w1 f1 k)
 | .goto _,q,C,ρ,s,f,e,a,w,Q,h,hS,b,v,A=>by cases h
 | .refuse _,q,C,ρ,s,f,e,a,w,Q,h,hS,b,v,A=>by cases h
end
end
section
open Go
variable [Ora]
def sI{c:Hp AB}:∀ (l:List Nat) (H:Hp AB),(∀ b ∈ l,b<=H5)->∀ id,id<=H5->Hp.get (eK c H l) id=if id ∈ l then Hp.get c id else Hp.get H id
 | [],H,_,id,_=>by simp[eK]
 | b::r,H,hl,id,hid=>by
   have e:=hl b B2;rw[eK,eD,sI r _ (fun x hx=>hl x (C3 _ hx)) id hid,E8 _ _ _ _ e hid];by_cases h1:id ∈ r
   .rw[A9 h1,A9 (C3 _ h1)]
   .rw[A6 h1];by_cases a:id=b
    .subst a;rw[A9 rfl,A9 B2]
    .rw[A6 a,A6 (by simp[h1,a])]
theorem V6{l:G9}{b:Nat}:u9 l b=true↔b ∈ l:=by
 unfold u9;rw[P3];constructor
 .rintro⟨x,hx,h⟩;rw[A0 h];exact hx
 .intro h;exact⟨b,h,by simp⟩
def sC:∀ (l acc:List Nat) (b:Nat),b ∈ nO l acc↔b ∈ l∨b ∈ acc
 | [],acc,b=>by simp[nO]
 | x::r,acc,b=>by
   unfold nO;cases h:u9 acc x with
   | true =>
     have hx:=V6.1 h;simp only[E1];rw[sC r acc b];constructor
     .rintro(h|h)
      .exact .inl (C3 _ h)
      .exact .inr h
     .rintro(h|h)
      .rcases B3.1 h with rfl|h
       .exact .inr hx
       .exact .inl h
      .exact .inr h
   | false =>
     simp only[D7];rw[sC r (x::acc) b];simp only[B3];constructor
     .rintro(h|h|h)
      .exact .inl (.inr h)
      .exact .inl (.inl h)
      .exact .inr h
     .rintro((h|h)|h)
      .exact .inr (.inl h)
      .exact .inl h
      .exact .inr (.inr h)
def tA{l:G9}(h:FT l=true):∀ b ∈ l,b<=H5:=fun b a=>A1 (D3.1 h b a)
section
variable {P:Program} {base gl nt:Nat}
def EH{ρ u:Ren}{n:Nat}(f:∀ b l,b<n->u b=some l->ρ b=some l){v v':Value}(h:VR u v v'):∀ (d:Nat),Z9 n d v=true->VR ρ v v':=by
 have A:∀ (low:Value->Bool) (a:List Value),nH low a=true->∀ (i:Nat) (v:Value),a[i]? = some v->low v=true:=fun low a=>by
  induction a with
  | nil=>intro _ i v h;simp at h
  | cons x r t =>
    intro h i v hi;obtain⟨h1,m⟩:=B4 (show(low x && nH low r)=true from h);cases i with
    | zero=>simp at hi;subst hi;exact h1
    | succ i=>exact t m i v (by simpa using hi)
 induction h with
 | pure h=>intro d _;exact .pure h
 | hole h G=>intro d _;exact .hole h G
 | junk h=>intro d _;exact .junk h
 | ixp h D hi J hv =>
   intro d e;cases d with
   | zero=>cases e
   | succ d =>
     obtain⟨g1,_⟩:=B4 e;obtain⟨g1,_⟩:=B4 (show(Z9 n d _ && _)=true from g1);cases d with
     | zero=>cases g1
     | succ d=>exact .ixp (f _ _ (A1 g1) h) D hi J hv
 | dat h h1 m h3 B =>
   intro d e;cases d with
   | zero=>cases e
   | succ d =>
     obtain⟨g1,_⟩:=B4 e;obtain⟨g1,_⟩:=B4 (show(Z9 n d _ && _)=true from g1);cases d with
     | zero=>cases g1
     | succ d=>exact .dat (f _ _ (A1 g1) h) h1 m h3 B
 | clp h h1 m h3 B I =>
   intro d e;cases d with
   | zero=>cases e
   | succ d =>
     obtain⟨g1,_⟩:=B4 e;obtain⟨g1,_⟩:=B4 (show(Z9 n d _ && _)=true from g1);cases d with
     | zero=>cases g1
     | succ d=>exact .clp (f _ _ (A1 g1) h) h1 m h3 B I
 | own h h1 m =>
   intro d e;cases d with
   | zero=>cases e
   | succ d =>
     obtain⟨g1,_⟩:=B4 e;obtain⟨g1,_⟩:=B4 (show(Z9 n d _ && _)=true from g1);cases d with
     | zero=>cases g1
     | succ d=>exact .own (h.imp (fun⟨l,w,a,b⟩=>⟨l,w,f _ _ (A1 g1) a,b⟩) fun⟨l,w,rows,a,b⟩=>⟨l,w,rows,f _ _ (A1 g1) a,b⟩) h1 m
 | dpt h h1 m =>
   intro d e;cases d with
   | zero=>cases e
   | succ d =>
     obtain⟨g1,_⟩:=B4 e;obtain⟨g1,_⟩:=B4 (show(Z9 n d _ && _)=true from g1);cases d with
     | zero=>cases g1
     | succ d=>exact .dpt (let ⟨l,w,rows,a,s,c,k,h0,r⟩:=h;⟨l,w,rows,a,s,c,k,f _ _ (A1 g1) h0,r⟩) h1 m
 | opt h h1 m =>
   intro d e;cases d with
   | zero=>cases e
   | succ d =>
     obtain⟨g1,_⟩:=B4 e;obtain⟨g1,_⟩:=B4 (show(Z9 n d _ && _)=true from g1);cases d with
     | zero=>cases g1
     | succ d=>exact .opt (let ⟨l,w,rows,k,h0,r⟩:=h;⟨l,w,rows,k,f _ _ (A1 g1) h0,r⟩) h1 m
 | ptr h=>intro d e;cases d with|zero=>cases e|succ d=>exact .ptr (f _ _ (A1 e) h)
 | sl h hm=>intro d e;cases d with|zero=>cases e|succ d=>exact .sl (f _ _ (A1 e) h) hm
 | op h hm F H=>intro d e;cases d with|zero=>cases e|succ d=>exact .op (f _ _ (A1 e) h) hm F H
 | opE D=>intro d _;exact .opE D
 | map h=>intro d e;cases d with|zero=>cases e|succ d=>exact .map (f _ _ (A1 e) h)
 | sdt h =>
   intro d e;cases d with
   | zero=>cases e
   | succ d =>
     obtain⟨g1,_⟩:=B4 e;obtain⟨g1,_⟩:=B4 (show(Z9 n d _ && _)=true from g1);cases d with
     | zero=>cases g1
     | succ d=>exact .sdt (let ⟨l,a,b⟩:=h;⟨l,f _ _ (A1 g1) a,b⟩)
 | yv h =>
   intro d e;cases d with
   | zero=>cases e
   | succ d =>
     obtain⟨g1,_⟩:=B4 e;obtain⟨g1,_⟩:=B4 (show(Z9 n d _ && _)=true from g1);cases d with
     | zero=>cases g1
     | succ d=>exact .yv (f _ _ (A1 g1) h)
 | func y K h1 m C E =>
   intro d e;cases d with
   | zero=>cases e
   | succ d =>
     obtain⟨g1,g2⟩:=B4 e;exact .func y K (fun i v v' a b=>C i v v' a b d (A _ _ g1 i v a)) (fun i v v' a b=>E i v v' a b d (A _ _ g2 i v a))
 | iface h t=>intro d e;cases d with|zero=>cases e|succ d=>exact .iface (t d e)
 | agg y h t=>intro d e;cases d with|zero=>cases e|succ d=>exact .agg y (fun i v v' a b=>t i v v' a b d (A _ _ e i v a))
 | tuple y h t=>intro d e;cases d with|zero=>cases e|succ d=>exact .tuple y (fun i v v' a b=>t i v v' a b d (A _ _ e i v a))
def A6T{ρ A:Ren}{n:Nat}(B:∀ b l,b<n->A b=some l->ρ b=some l){ab:AB}{l:Loc}{w:World}(h:BR P A ab l w)(a:A2Y n (some ab)=true):BR P ρ ab l w:=by
 cases ab with
 | cells cs T ro =>
   obtain⟨h0,C,fz,E,h1,k,h3⟩:=h;refine⟨h0,C,fz,E,h1,fun i v hi=>?_,h3⟩;obtain⟨v',g1,g2⟩:=k i v hi;have hv:Z9 n 10 v=true:=by
    have e:nH (Z9 n 10) cs=true:=a;clear k g1 g2 a;induction cs generalizing i with
    | nil=>simp at hi
    | cons x r m =>
      obtain⟨u,y⟩:=B4 (show(Z9 n 10 x && nH (Z9 n 10) r)=true from e);cases i with
      | zero=>simp at hi;subst hi;exact u
      | succ i=>exact m i (by simpa using hi) y
   exact⟨v',g1,EH B g2 10 hv⟩
 | mp c t T=>exact h
 | iter vs =>
   obtain⟨h0,s,K,h1,k⟩:=h;refine⟨h0,s,K,h1,k.1,fun i v v' g1 g2=>?_⟩;have hv:Z9 n 10 v=true:=by
    have e:nH (Z9 n 10) vs=true:=a;clear k g2 a;induction vs generalizing i with
    | nil=>simp at g1
    | cons x r m =>
      obtain⟨u,y⟩:=B4 (show(Z9 n 10 x && nH (Z9 n 10) r)=true from e);cases i with
      | zero=>simp at g1;subst g1;exact u
      | succ i=>exact m i (by simpa using g1) y
   exact EH B (k.2 i v v' g1 g2) 10 hv
 | lp f q vs st =>
   obtain⟨h0,r,h1,k⟩:=h;refine⟨h0,r,h1,k.code,⟨k.fr.1,fun i v v' g1 g2=>?_⟩,k.st⟩;have hv:Z9 n 10 v=true:=by
    have e:nH (Z9 n 10) vs=true:=a;clear k g2 a;induction vs generalizing i with
    | nil=>simp at g1
    | cons x r m =>
      obtain⟨u,y⟩:=B4 (show(Z9 n 10 x && nH (Z9 n 10) r)=true from e);cases i with
      | zero=>simp at g1;subst g1;exact u
      | succ i=>exact m i (by simpa using g1) y
   exact EH B (k.fr.2 i v v' g1 g2) 10 hv
 | dfr b=>exact h
 | sq c t T g ro =>
   obtain⟨wd,inf,h1,k,h3,D⟩:=SqR.ex h;refine⟨⟨wd,inf,h1,k,h3,D.imp (fun x=>x) fun⟨F,G⟩=>⟨F,?_⟩⟩⟩;obtain⟨C,fz,E,rows,lg,h1,k,h3,D,G,I,J,L,H⟩:=G;exact⟨C,fz,E,rows,lg,h1,k,h3,D,G,I,B _ _ (A1 a) J,L,H⟩
 | frz=>exact h
def IS{n:Nat}{H:Hp AB}:∀ {l:G9},NA n H l=true->∀ b ∈ l,A2Y n (Hp.get H b)=true
 | [],_,b,h=>by cases h
 | x::r,h,b,a=>by
   obtain⟨h1,c⟩:=B4 (show(A2Y n (Hp.get H x) && NA n H r)=true from h);rcases B3.1 a with rfl|a
   .exact h1
   .exact IS c b a
def A8T{ρ J:Ren}{m m1 m':Mem}{w w1:World}{v v':Value}(C:gcM m m1 v=some m')(st:St P base ρ J ⟨m.H,m.n,[],m.hi,m.lg⟩ m1 w w1)(A:At P base gl ρ m m'.hi w)(hv:VR J v v') :
  m'.hi=m1.hi/\∃ ρ2,VR ρ2 v v'/\St P base ρ ρ2 m m' w w1:=by
 have ax:m1.n<=m1.hi:=st.nhi A.nh;have hle:m.hi<=m1.hi:=st.hle;have e:∀ b,b ∈ nO (m1.W.filter fun b=>Nat.blt b m.n || Nat.ble m1.hi b) []↔b ∈ m1.W/\(b<m.n∨m1.hi<=b):=fun b=>by
  rw[sC];simp only[O6,L1,or_false,I5];constructor
  .rintro⟨h1,f⟩;exact⟨h1,f.imp (fun h=>A1 h) (fun h=>A1 h)⟩
  .rintro⟨h1,f⟩;exact⟨h1,f.imp (fun h=>C4 h) (fun h=>C4 h)⟩
 unfold gcM at C;generalize hW:nO (m1.W.filter fun b=>Nat.blt b m.n || Nat.ble m1.hi b) []=W at C e;simp only[E5,H8,dQ]at C;have hold:m1.hi=m'.hi->∀ b l,ρ b=some l->b<m.n∨m1.hi<=b:=fun he b l y=>by
  rcases F6 b m.n with h1|h1
  .exact .inl h1
  .rcases F6 b m1.hi with f|f
   .rw[A.fr b h1 (he▸f)]at y;cases y
   .exact .inr f
 have D:m1.hi=m'.hi->∀ id,id<=H5->id ∉ W->∀ ab,Hp.get m.H id=some ab->id ∉ m1.W/\Hp.get m1.H id=some ab:=fun he id hid az ab c=>by
  obtain⟨l,h1,_,_⟩:=A.hr.at_ id hid ab c;have F:=hold he id l h1;have f:id ∉ m1.W:=fun h=>az ((e id).2 ⟨h,F⟩)
  exact⟨f,by rw[st.same id hid f F];exact c⟩
 have G:∀ b ∈ W,∀ l,ρ b=some l->∃ ab,Hp.get m.H b=some ab/\ab.rw=true:=fun b y l t=>st.wrw b ((e b).1 y).1 (by simp) l t
 cases K:Z9 m.n 10 v && NA m.n m1.H W with
 | true =>
   rw[K]at C;simp only[E1]at C;obtain⟨u,C⟩:=A3 C;cases C;obtain⟨q1,q2⟩:=B4 K;have u:=tA u;have F:∀ b l,b<m.n->J b=some l->ρ b=some l:=fun b l y t=>by
    cases h0:ρ b with
    | some l0=>rw[st.ext b l0 h0]at t;exact t
    | none=>have h:=(st.new b l t h0).1;exact absurd y (Nat.not_lt.2 h)
   have s:∀ id,id<=H5->Hp.get (eK m1.H m.H W) id=if id ∈ W then Hp.get m1.H id else Hp.get m.H id:=fun id hid=>sI W _ u id hid
   have E:∀ id,id<=H5->∀ ab,Hp.get (eK m1.H m.H W) id=some ab->Hp.get m1.H id=some ab:=fun id hid ab c=>by
    rw[s id hid]at c;by_cases h:id ∈ W
    .rw[A9 h]at c;exact c
    .rw[A6 h]at c;exact(D rfl id hid h ab c).2
   have Z:=st.hr.sub E;have aw:∀ id,id<=H5->∀ ab,Hp.get (eK m1.H m.H W) id=some ab->∀ l,J id=some l->ρ id=some l:=fun id hid ab c l t=>by
    cases h0:ρ id with
    | some l0=>rw[st.ext id l0 h0]at t;exact t
    | none =>
      exfalso;have hn:=st.new id l t h0;rw[s id hid]at c;by_cases h:id ∈ W
      .have:=((e id).1 h).2;have h1:m.n<=id:=hn.1;have f:=hn.2;omega
      .rw[A6 h]at c;obtain⟨l0,h1,_⟩:=A.hr.at_ id hid ab c;rw[h1]at h0;cases h0
   refine⟨rfl,ρ,EH F hv 10 q1,⟨fun _ _ h=>h,fun b k h1 f=>(by rw[h1]at f;cases f),A7 _,hle,fun h=>B8 h hle,⟨A.hr.dom,fun id hid ab c=>?_⟩,fun b y=>B7.2 (.inr y),fun b h1 f l t=>?_,fun k N y=>?_,st.size,st.os,fun b k h1 f=>(by rw[h1]at f;cases f),fun id hid h1 f=>?_,fun k ⟨id,a,q,hid,B,K,O⟩=>?_⟩⟩
   .obtain⟨l,g1,g2,g3⟩:=Z.at_ id hid ab c;have t:=aw id hid ab c l g1;refine⟨l,t,?_,fun R Q=>⟨(g3 R Q).1,fun Y T ay l2 f1 f2 f3=>(g3 R Q).2 Y T ay l2 f1 (st.ext _ _ f2) f3⟩⟩;have au:=c;rw[s id hid]at c;by_cases h:id ∈ W
    .rw[A9 h]at c
     have:=IS q2 id h;rw[c]at this;exact A6T F g2 this
    .rw[A6 h]at c;obtain⟨l0,U,e2,e3⟩:=A.hr.at_ id hid ab c;rw[t]at U
     have:=A8 U;subst this;refine e2.mono (fun _ _ h=>h) (fun k N=>st.keep k (e2.tc N) fun b y lb M av heq=>?_);have V:b ∈ W:=(e b).2 ⟨y,hold rfl b lb M⟩;obtain⟨ar,c1,c2⟩:=G b V lb M
     have:=((A.hr.atl M c1).2 c2 av).2 id hid ab l c t (heq▸N);subst this;exact h V
   .rcases B7.1 h1 with h|h
    .exact G b h l t
    .exact absurd h f
   .exact st.keep k N fun b L l t F=>y b (B7.2 (.inl ((e b).2 ⟨L,hold rfl b l t⟩))) l t F
   .show Hp.get (eK m1.H m.H W) id=_;rw[s id hid,A6 (fun h=>h1 (B7.2 (.inl h)))]
   .have B:Hp.get (eK m1.H m.H W) id=some a:=B;rw[s id hid]at B;by_cases h:id ∈ W
    .rw[A9 h]at B;exact st.tch k ⟨id,a,q,hid,B,st.ext _ _ K,O⟩
    .rw[A6 h]at B;exact .inr ⟨id,a,q,hid,B,K,O⟩
 | false =>
   rw[K]at C;simp only[D7]at C;generalize hI:(HQ m.n m1.H 100000 (AE 10 v++wOf m1.H W) []).filter (fun b=>Nat.ble m.n b && Nat.blt b m1.hi)=I at C;have X:∀ b ∈ I,m.n<=b/\b<m1.hi:=fun b y=>by
    subst hI;obtain⟨_,h⟩:=O6.1 y;obtain⟨h1,f⟩:=B4 h;exact⟨A1 h1,A1 f⟩
   obtain⟨u,C⟩:=A3 C;cases C;have u:=tA u;have s:∀ id,id<=H5->Hp.get (eK m1.H m.H (W++I)) id=if id ∈ W++I then Hp.get m1.H id else Hp.get m.H id:=fun id hid=>sI _ _ u id hid
   have E:∀ id,id<=H5->∀ ab,Hp.get (eK m1.H m.H (W++I)) id=some ab->Hp.get m1.H id=some ab:=fun id hid ab c=>by
    rw[s id hid]at c;by_cases h:id ∈ W++I
    .rw[A9 h]at c;exact c
    .rw[A6 h]at c;exact(D rfl id hid (fun hh=>h (B7.2 (.inl hh))) ab c).2
   refine⟨rfl,J,hv,⟨st.ext,st.new,st.nle,hle,fun _=>ax,st.hr.sub E,fun b y=>B7.2 (.inr y),fun b h1 f l t=>?_,fun k N y=>?_,st.size,st.os,fun b l h1 f F=>?_,fun id hid h1 f=>?_,fun k ⟨id,a,q,hid,B,K,O⟩=>?_⟩⟩
   .rcases B7.1 h1 with h|h
    .exact G b h l t
    .exact absurd h f
   .exact st.keep k N fun b L l t F=>y b (B7.2 (.inl ((e b).2 ⟨L,hold rfl b l t⟩))) l t F
   .rcases st.blk b l h1 f F with h|⟨b0,h3,l0,h4,h5⟩
    .exact .inl h
    .exact .inr ⟨b0,B7.2 (.inl ((e b0).2 ⟨h3,hold rfl b0 l0 h4⟩)),l0,h4,h5⟩
   .show Hp.get (eK m1.H m.H (W++I)) id=_;rw[s id hid,A6];intro h;rcases B7.1 h with h|h
    .exact h1 (B7.2 (.inl h))
    .have:=X id h;have f:id<m.n∨m1.hi<=id:=f;omega
   .have B:Hp.get (eK m1.H m.H (W++I)) id=some a:=B;rw[s id hid]at B;by_cases h:id ∈ W++I
    .rw[A9 h]at B;exact st.tch k ⟨id,a,q,hid,B,K,O⟩
    .rw[A6 h]at B;obtain⟨l0,U,_⟩:=A.hr.at_ id hid a B;rw[st.ext _ _ U]at K
     have:=A8 K;subst this;exact .inr ⟨id,a,l0,hid,B,U,O⟩
def iC:∀ (vs:List Value) (fr:Fr) (i t:Nat),i+vs.length<=512->t<512->(eT fr i vs).get t=if i<=t/\t<i+vs.length then vs.getD (t-i) undef else fr.get t
 | [],fr,i,t,_,_=>by simp[eT];intro h1 a;omega
 | v::r,fr,i,t,h,ht=>by
   simp only[D8]at h ⊢;rw[eT,wK,iC r _ (i+1) t A2 ht,L6 _ _ _ _ A2 ht];by_cases h1:i+1<=t/\t<i+1+r.length
   .rw[A9 h1,A9 A2,show t-i=(t-(i+1))+1 by omega];rfl
   .rw[A6 h1];by_cases a:t=i
    .subst a;rw[A9 rfl,A9 A2,jG];rfl
    .rw[A6 a,A6 A2]
def TI(tmps:Array Value):ResultVar->Sem Value
 | .tmp t=>pure (tmps.getD t undef)
 | .cell a t=>do loadVar t (<- asAddr (tmps.getD a undef))
variable {z:Zn}
def PQ{ρ:Ren}{s:S}{a:Act}{w:World}(h:HR P base ρ s.m.H w)(C:FrR z ρ nt s.fr a):∀ (rs:List ResultVar) (vs:List Value),TK P nt s rs=some vs->∃ b,LR ρ vs b /\
  (rs.mapM (TI a.tmps)).run P w=.ok b w
 | [],vs,hr=>by
   simp only[TK,D2]at hr;subst hr;exact⟨[],.nil,rfl⟩
 | r::rs,vs,hr=>by
   unfold TK at hr;split at hr
   .rename_i v n h1 D;cases hr;obtain⟨b,g1,g2⟩:=PQ h C rs n D;have f:∃ v',VR ρ v v'/\(TI a.tmps r).run P w=.ok v' w:=by
     unfold A7b at h1;split at h1
     .rename_i t;obtain⟨A,k⟩:=A3 h1;cases k;exact⟨_,C.get t (A1 A),rfl⟩
     .rename_i c t;obtain⟨A,k⟩:=A3 h1;have hv:=C.get c (A1 A);split at k
      .rename_i F y;rw[y]at hv;obtain⟨l,E,_,e⟩:=O0 hv;obtain⟨v',u,B⟩:=IV h k E;exact⟨v',B,by simp[TI,e,asAddr,u]⟩
      .cases k
    obtain⟨v',u,B⟩:=f;refine⟨v'::b,.cons u g1,?_⟩;simp only[List.mapM_cons,A4,B,g2,Result.andThen,Sem.run_pure]
   .cases hr
def A1_{ρ:Ren}{fn:Func}{s:S}{a:Act}{w:World}{v:Value}(h:HR P base ρ s.m.H w)(n:FrR z ρ fn.ntmps s.fr a)(hr:TJ fn P s=some v):∃ v',VR ρ v v'/\(results fn a.tmps).run P w=.ok v' w:=by
 unfold TJ at hr;have key:∀ vs,TK P fn.ntmps s fn.results.toList=some vs->∃ b,LR ρ vs b/\(results fn a.tmps).run P w=.ok (if h:b.toArray.size=1 then b.toArray[0]else .tuple b.toArray) w:=fun vs e=>by
  obtain⟨b,g1,g2⟩:=PQ h n _ vs e;refine⟨b,g1,?_⟩;have he:results fn a.tmps=(do let vs <- fn.results.mapM (TI a.tmps);pure (if h:vs.size=1 then vs[0]else .tuple vs)):=by
   unfold results;rfl
  have hm:(fn.results.mapM (TI a.tmps)).run P w=.ok b.toArray w:=by
   rw[fC];show(Sem.bind (fn.results.toList.mapM (TI a.tmps)) fun l=>Sem.pure l.toArray).run P w=_;have y:∀ (x:Sem C9) (k:C9->Sem V9),(Sem.bind x k).run P w=(x >>= k).run P w:=fun _ _=>rfl
   rw[y,A4,g2];rfl
  rw[he,A4,hm];rfl
 split at hr
 .rename_i u f;cases hr;obtain⟨b,g1,g2⟩:=key _ f;obtain⟨v',A,rfl,g3,g4⟩:=g1.tail;cases g4.nil_inv;exact⟨v',g3,g2⟩
 .rename_i vs c f;cases hr;obtain⟨b,g1,g2⟩:=key _ f;refine⟨.tuple ⟨b⟩,.tuple g1.1 g1.2,?_⟩;rw[g2,dif_neg];intro h1;have h1:b.length=1:=by simpa using h1
  have t:vs.length=1:=by rw[g1.1];exact h1
  obtain⟨x,rfl⟩:=List.length_eq_one_iff.1 t;exact c x rfl
 .cases hr
def FY(P:Program):Prop:=∀ (f:Nat) (fn:Func),P.funcs[f]? = some fn->(fn.name == "runtime.NumGoroutine")=false
def A0Z{m m1 m':Mem}{v:Value}(a:gcM m m1 v=some m'):m'.lg=m1.lg:=by
 unfold gcM at a;simp only[E5,H8,dQ]at a;cases c:Z9 m.n 10 v && NA m.n m1.H (nO (m1.W.filter fun b=>Nat.blt b m.n || Nat.ble m1.hi b) [])with
 | true=>rw[c]at a;obtain⟨_,q⟩:=A3 a;cases q;rfl
 | false=>rw[c]at a;obtain⟨_,q⟩:=A3 a;cases q;rfl
def wC:∀ {l:G9} {m m':Mem},pB l m=some m'->m'.hi=m.hi/\m'.n=m.n/\m'.lg=m.lg
 | [],m,m',h=>by cases h;exact⟨rfl,rfl,rfl⟩
 | b::r,m,m',h=>by
   unfold pB at h;split at h
   .split at h
    .rename_i m1 hm;obtain⟨_,e⟩:=U4 hm;obtain⟨h1,a,h3⟩:=wC h;subst e;exact⟨h1,a,h3⟩
    .cases h
   .cases h
def RX{fn:Func}{m m':Mem}{v:Value}(h:A60 fn P m r=some (v,m')):∃ e s m1,r=some (e,s)/\(e=.normal∨e=.ret)/\pB (dvG fn.ntmps s.fr) s.m=some m1/\TJ fn P ⟨s.fr,m1⟩=some v/\gcM m m1 v=some m':=by
 have key:∀ (fr:Fr) (m0:Mem),(match pB (dvG fn.ntmps fr) m0 with
  | some m1=>match TJ fn P ⟨fr,m1⟩with
    | some v=>match gcM m m1 v with
      | some m=>some (v,m)
      | none=>none
    | none=>none
  | none=>none)=some (v,m')->∃ m1,pB (dvG fn.ntmps fr) m0=some m1/\TJ fn P ⟨fr,m1⟩=some v/\gcM m m1 v=some m':=fun fr m0 h=>by
  split at h
  .rename_i m1 h1;split at h
   .rename_i u f;split at h
    .rename_i m2 h3;cases h;exact⟨m1,h1,f,h3⟩
    .cases h
   .cases h
  .cases h
 unfold A60 at h;split at h
 .rename_i fr m1;obtain⟨m2,a,b,c⟩:=key _ _ h;exact⟨_,_,m2,rfl,.inl rfl,a,b,c⟩
 .rename_i fr m1;obtain⟨m2,a,b,c⟩:=key _ _ h;exact⟨_,_,m2,rfl,.inr rfl,a,b,c⟩
 .cases h
structure jE (P:Program) (base gl nt:Nat) (c:Code) (L:S->Option (Ex×S)):Prop where
 lg:∀ (s s':S) (e:Ex),L s=some (e,s')->s.m.hi<=s'.m.hi/\s.m.lg.le s'.m.lg
 ok:∀ (s s':S) (e:Ex),L s=some (e,s')->Sat s'.m.lg->∀ (z:Zn) (ρ:Ren) (a:Act) (w:World) (Q:Exit->Act->World->Prop),At P base gl ρ s.m s'.m.hi w->FrR z ρ nt s.fr a ->
  (∀ a' w',Q Ex.ret.out a' w'->Q Ex.normal.out a' w')->(∀ ρ' a' w',FrR z ρ' nt s'.fr a'->St P base ρ ρ' s.m s'.m w w'->Q e.out a' w')->c.wpIn (fw z.rd) 0 P Q a w
def jE.or{nt:Nat}{c:Code}{a b:S->Option (Ex×S)}(l:jE P base gl nt c a)(f:jE P base gl nt c b):jE P base gl nt c (orL a b):=by
 refine⟨fun s m e h=>?_,fun s m e h k=>?_⟩
 .unfold orL at h;split at h
  .rename_i r hr;cases h;exact l.lg _ _ _ hr
  .exact f.lg _ _ _ h
 .unfold orL at h;split at h
  .rename_i r hr;cases h;exact l.ok _ _ _ hr k
  .exact f.ok _ _ _ h k
def jE.code{nt:Nat}{c:Code}{call:O2}(k:V2 P base gl call)(l:fT P base gl call){lp:LpT}(b:OL P base gl nt c lp):jE P base gl nt c (M9 P nt gl call lp [] c).run :=
 ⟨fun _ _ _ h=>S9 k l b c [] rfl _ _ _ h,fun s u e h m z ρ a w Q f n _ t=>S8 (z:=z) k l b c [] rfl ρ s u e a w Q h m f n t⟩
def A3K{fn:Func}{c:Code}{L:fU}(f:jE P base gl fn.ntmps c L.run){vs:C9}{m m':Mem}{v:Value}
  (hr:zC fn P L vs m=some (v,m')):m.lg.le m'.lg:=by
 unfold zC at hr;obtain⟨_,hr⟩:=A3 hr;obtain⟨e,s,m1,h1,_,k,h3,b⟩:=RX hr;have a:MC L (eT fr0 0 vs) m=L.run ⟨eT fr0 0 vs,⟨m.H,m.n,[],m.hi,m.lg⟩⟩:=rfl;rw[a]at h1;have l:=(f.lg _ _ _ h1).2;rw[A0Z b,(wC k).2.2];exact l
def BQ{fn:Func}{tmps:V9}{R:Ending->World->Prop}{ρ:Ren}{hi:Nat}:∀ (ids:List Nat) (ds:List Deferred) (m md:Mem) (w:World),pB ids m=some md->DfR ρ ids ds->HR P base ρ m.H w->J9 ρ m.n md.hi ->
  (∀ w',St P base ρ ρ m md w w'->∃ v,(results fn tmps).run P w'=.ok v w'/\R (.returned v) w')->LeavesInM (fw none) 0 P fn tmps R ds .returning w
 | [],ds,m,md,w,h,hd,hr,hf,hR=>by
   cases h;have:ds=[]:=G1.1 hd.1.symm;subst this;exact hR w (.refl hr)
 | b::r,[],m,md,w,h,hd,hr,hf,hR=>by have:=hd.1;simp at this
 | b::r,d::ds,m,md,w,h,hd,hr,hf,hR=>by
   unfold pB at h;split at h
   .rename_i s;split at h
    .rename_i m1 hm;obtain⟨l,u,e⟩:=hd.2 0 b d rfl rfl;obtain⟨⟨⟨k,y⟩,x,t,D⟩,_⟩:=hr.atl u s
     have:=D rfl;subst this;obtain⟨E,F,B⟩:=iO (o:=.deferred none) (C6.1 t).1;have c:St P base ρ ρ m m1 w (w.putObj l.blk (.deferred none)):=St.write hr hm s rfl u k ⟨rfl,rfl,rfl⟩ E B ⟨⟨k,y⟩,_,F,fun h=>by cases h⟩;obtain⟨G,C⟩:=U4 hm;have A:m1.n=m.n:=by rw[C]
     refine⟨(by intro h;cases h),.inl ⟨l.blk,_,by rw[e];rfl,run_takeDeferred t,?_⟩⟩;exact BQ (hi:=hi) r ds m1 md _ h ⟨by have:=hd.1;simpa using this,fun i id d a b=>hd.2 (i+1) id d (by simpa using a) (by simpa using b)⟩ c.hr (by rw[A];exact hf) fun w' f=>hR w' (St.trans hf c f)
    .cases h
   .cases h
def A1K{f:FuncId}{fn:Func}{c:Code}{L:fU}(hf:P.funcs[f]? = some fn)(C:fn.body=some c)(U:(fn.name == "runtime.NumGoroutine")=false)(hL:jE P base gl fn.ntmps c L.run) :
  lZ P base gl f ⟨zC fn P L⟩:=by
 refine⟨fun vs m m' v hr=>A3K hL hr,?_⟩;intro ρ m m' w vs k v hr hS l hl;have hr:zC fn P L vs m=some (v,m'):=hr;unfold zC at hr;obtain⟨h1,hr⟩:=A3 hr;obtain⟨h1,V⟩:=B4 h1;have h1:=A1 h1;have V:=A1 V;left;constructor
 .have hn:fn.name ≠ "runtime.NumGoroutine":=by simpa using U
  simp[callFunc,hf,hn,C]
 .obtain⟨e,s,m1,A,he,G,J,a⟩:=RX hr;have Q:MC L (eT fr0 0 vs) m=L.run ⟨eT fr0 0 vs,⟨m.H,m.n,[],m.hi,m.lg⟩⟩:=rfl;rw[Q]at A;have K:∀ t,vs.length<=t->t<512->(eT fr0 0 vs).get t=undef:=fun t k1 k2=>by
   rw[iC _ _ _ _ A2 k2,A6 A2,EV]
  have T:FrR ⟨none,[]⟩ ρ fn.ntmps (eT fr0 0 vs) { tmps:=⟨k⟩++Array.replicate (fn.ntmps-(Array.mk k).size) undef,defers:=[] }:=by
   have hlen:=hl.1;refine⟨by simp;omega,V,⟨[],rfl,?_⟩,fun hn=>⟨fun _=>rfl,fun b C=>?_⟩,fun t ht=>?_⟩
   .unfold dvG;cases N:Nat.ble fn.ntmps 510 with
    | true =>
      have:=A1 N;rw[K 510 A2 F5];exact .nil
    | false=>exact .nil
   .rw[K 511 A2 F5]at C;cases C
   .rw[iC _ _ _ _ A2 A2];by_cases D:t<vs.length
    .rw[A9 A2];have u:t<k.length:=A2
     have:=hl.2 t vs[t] k[t] (A5 D) (A5 u)
     simpa [B6,Array.getElem?_append,D,u,B1]using this
    .rw[A6 A2,EV];have u:¬ t<k.length:=A2;have:(({ toList:=k }:Array Value)++Array.replicate (fn.ntmps-(Array.mk k).size) undef).getD t undef=undef:=by
      simp[B6,Array.getElem?_append,u,gG];split<;>rfl
     rw[this];exact oW ρ
  have Y:m1.hi=m'.hi:=by
   have a:=a;unfold gcM at a;simp only[E5,H8,dQ]at a;cases N:Z9 m.n 10 v && NA m.n m1.H (nO (m1.W.filter fun b=>Nat.blt b m.n || Nat.ble m1.hi b) [])with
   | true=>rw[N]at a;obtain⟨_,q⟩:=A3 a;cases q;rfl
   | false=>rw[N]at a;obtain⟨_,q⟩:=A3 a;cases q;rfl
  obtain⟨t1,t2,t3⟩:=wC G;have y:At P base gl ρ ⟨m.H,m.n,[],m.hi,m.lg⟩ s.m.hi w:=⟨l.hr,l.bs,fun b q1 q2=>l.fr b q1 (by rw[<- Y,t1];exact q2),l.gr,l.nh,fun b C=>(by cases C),l.gf⟩;have R:Sat s.m.lg:=by rw[<- t3,<- A0Z a];exact hS
  refine oI.1 (callsIn_of_wp_marks (F:=fw none) (n:=0) hf C trivial ?_ rfl);refine hL.ok _ s e A R ⟨none,[]⟩ ρ _ w _ y T (fun _ _ h=>h) fun Z O w1 f1 B=>?_
  obtain⟨ds,d1,d2⟩:=f1.df;have d1:O.defers=ds:=by rw[d1];simp
  have E:LeavesInM (fw none) 0 P fn O.tmps (A1Y P base ρ m m' w v) O.defers .returning w1:=by
   rw[d1];have I:=y.step B;refine BQ (base:=base) (ρ:=Z) (hi:=0) _ _ _ _ _ G d2 B.hr (by rw[t1];exact I.fr) fun w' M=>?_
   have X:=St.trans (by have:=y.fr;rw[t1];exact this) B M;obtain⟨v',g1,g2⟩:=A1_ (s:=⟨s.fr,m1⟩) M.hr f1 J;obtain⟨_,ρ2,g3,g4⟩:=A8T a X l g1;exact⟨v',g2,v',ρ2,rfl,g3,g4⟩
  rcases he with rfl|rfl
  .exact E
  .exact E
def SG{f:FuncId}{fn:Func}{c:Code}{call:O2}(m:P.funcs[f]? = some fn)(e:fn.body=some c)(a:(fn.name == "runtime.NumGoroutine")=false)(k:V2 P base gl call)(l:fT P base gl call){lp:LpT}(b:OL P base gl fn.ntmps c lp) :
  lZ P base gl f ⟨zC fn P (M9 P fn.ntmps gl call lp [] c)⟩:=A1K m e a (jE.code k l b)
def HW{ρ:Ren}{nt:Nat}(f:nt<=512):∀ (ps:List Tmp) (args b:List Value) (fr c:Fr) (tmps:Array Value),tS ps args fr=some c->LR ρ args b->(∀ t ∈ ps,t<nt)->tmps.size=nt->(∀ t,t<nt->VR ρ (fr.get t) (tmps.getD t undef)) ->
  ps.length=b.length/\((ps.zip b).foldl (fun tmps (t,a)=>tmps.setIfInBounds t a) tmps).size=nt/\(∀ t,t<nt->VR ρ (c.get t) (((ps.zip b).foldl (fun tmps (t,a)=>tmps.setIfInBounds t a) tmps).getD t undef))/\∀ t,nt<=t->t<512->c.get t=fr.get t
 | [],[],b,fr,c,tmps,h,hl,hp,hs,hg=>by
   cases h;rw[hl.nil_inv];exact⟨rfl,hs,hg,fun _ _ _=>rfl⟩
 | [],_::_,_,_,_,_,h,_,_,_,_=>by cases h
 | _::_,[],_,_,_,_,h,_,_,_,_=>by cases h
 | t::ps,v::vs,b,fr,c,tmps,h,hl,hp,hs,hg=>by
   obtain⟨v',s,rfl,h1,w⟩:=hl.tail;have k:t<nt:=hp t B2;have h:tS ps vs (fr.set t v)=some c:=by
    have e:tS (t::ps) (v::vs) fr=tS ps vs (fr.set t v):=DM t v fr (fun fr=>tS ps vs fr);rw[<- e];exact h
   obtain⟨A,m,n,y⟩:=HW f ps vs s (fr.set t v) c (tmps.setIfInBounds t v') h w (fun u hu=>hp u (C3 _ hu)) (by simp[hs]) (fun u hu=>by
    rw[L6 _ _ _ _ (D4 k f) (D4 hu f)];simp only[B6,F8];by_cases e:u=t
    .subst e;rw[A9 rfl,A9 rfl,A9 (by rw[hs];exact hu)];exact h1
    .rw[A6 e,A6 (fun h=>e h.symm)]
     have:=hg u hu
     simpa [B6]using this)
   refine⟨by simp[A],m,n,fun u h3 l=>?_⟩;rw[y u h3 l,L6 _ _ _ _ (D4 k f) l,A6 (fun e=>by subst e;exact absurd k (Nat.not_lt.2 h3))]
def tP{b:Nat}{v:Value}{m':Mem}(h:pS b r=some (v,m')):∃ e s f q vs,r=some (e,s)/\Hp.get s.m.H b=some (.lp f q vs 1)/\cA s.m b (.lp f q vs (exN e))=some m'/\v=.bool (EN e):=by
 unfold pS at h;split at h
 .rename_i e fr m;split at h
  .rename_i f q vs a;rw[E5]at h;split at h
   .rename_i m1 hm;cases h;exact⟨e,⟨fr,m⟩,f,q,vs,rfl,a,hm,rfl⟩
   .cases h
  .cases h
 .cases h
def tO{b:Nat}{c:fU}{v:Value}{m':Mem}(h:pP b c r=some (v,m')):∃ s f q vs m1,r=some (.normal,s)/\Hp.get s.m.H b=some (.lp f q vs 0)/\cA s.m b (.lp f q vs 1)=some m1/\pS b (c.run ⟨s.fr,m1⟩)=some (v,m'):=by
 unfold pP at h;split at h
 .rename_i fr m;split at h
  .rename_i f q vs a;split at h
   .rename_i m1 hm;exact⟨⟨fr,m⟩,f,q,vs,m1,rfl,a,hm,h⟩
   .cases h
  .cases h
 .cases h
def AZ{C:Cx}{call:O2}{vs:C9}{m m':Mem}{v:Value}(h:(DR C call).run vs m=some (v,m')):∃ b args f q a fn body x ps as bd fr,vs=yv b::args/\Hp.get m.H b=some (.lp f q a 0)/\C.P.funcs[f]? = some fn/\fn.body=some body/\H9 q body=some (.rangeFunc x ps as bd) /\
  fn.ntmps<=510/\(∀ t ∈ ps.toList,t<fn.ntmps)/\tS ps.toList args (eT fr0 0 a)=some fr /\
  pP b (M9 C.P fn.ntmps C.gl call (C.lp f) (q++[true]) bd) ((M9 C.P fn.ntmps C.gl call (C.lp f) (q++[false]) as).run ⟨fr.set 511 (yv b),m⟩)=some (v,m'):=by
 unfold DR at h;simp only at h;split at h
 .cases h
 .rename_i u args;split at h
  .cases h
  .rename_i b B
   have:=AJ B;subst this;split at h
   .rename_i f q a w;split at h
    .cases h
    .rename_i fn y;split at h
     .cases h
     .rename_i body c;split at h
      .rename_i x ps as bd s;obtain⟨h1,h⟩:=A3 h;obtain⟨h1,A⟩:=B4 h1;split at h
       .rename_i fr l;refine⟨b,args,f,q,a,fn,body,x,ps,as,bd,fr,rfl,w,by simpa using y,c,s,A1 h1,fun t n=>A1 (D3.1 A t n),l,?_⟩;have e:∀ (k:Fr->Res),uT (sel 7) (sel 7) (sel 7) (yv b) fr k=k (fr.set 511 (yv b)):=fun k=>DM 511 (yv b) fr k
        rw[e]at h;exact h
       .cases h
      .cases h
   .cases h
def WP{C:Cx}{call:O2}(O:V2 C.P base C.gl call)(Q:fT C.P base C.gl call)(s:∀ f fn body,C.P.funcs[f]? = some fn->fn.body=some body->OL C.P base C.gl fn.ntmps body (C.lp f)):A7D C.P base C.gl (DR C call):=by
 refine⟨fun vs m m' v h=>?_,fun ρ m m' w b args c v l h hS y hl K=>?_⟩
 .obtain⟨b,args,f,q,N,fn,body,x,ps,as,bd,fr,rfl,_,h1,D,h3,_,_,_,h⟩:=AZ h;obtain⟨s1,f2,q2,aq,m2,g1,_,g3,h⟩:=tO h;obtain⟨e,s2,f3,q3,aw,Y,_,k3,_⟩:=tP h;have a1:=(S9 O Q (s f fn body h1 D) as (q++[false]) (I0 h3 rfl) _ _ _ g1).2;have a2:=(S9 O Q (s f fn body h1 D) bd (q++[true]) (I0 h3 rfl) _ _ _ Y).2;rw[(mH k3).2];have a2:m2.lg.le s2.m.lg:=a2;rw[(mH g3).2]at a2;exact a1.trans a2
 .obtain⟨b',ax,f,q,N,fn,body,x,ps,as,bd,fr,e0,hg,h1,D,h3,h4,h5,h6,h⟩:=AZ h;cases e0;obtain⟨s1,f2,q2,aq,m2,g1,g2,g3,h⟩:=tO h;obtain⟨e,s2,f3,q3,aw,Y,k2,k3,rfl⟩:=tP h;have c1:=S9 O Q (s f fn body h1 D) as (q++[false]) (I0 h3 rfl) _ _ _ g1;have c2:=S9 O Q (s f fn body h1 D) bd (q++[true]) (I0 h3 rfl) _ _ _ Y;obtain⟨j1,j2⟩:=mH g3;obtain⟨j3,j4⟩:=mH k3;have W:Sat s2.m.lg:=by rw[<- j4];exact hS
  have av:Sat s1.m.lg:=by rw[<- j2];exact R2.le W c2.2
  have an:m2.hi<=s2.m.hi:=c2.1;obtain⟨⟨⟨Z,b2⟩,r,b3,b4⟩,_⟩:=y.hr.atl K hg;obtain⟨ao,az,x',e1,e2,e3,e4⟩:=b4.code;rw[h1]at e1;cases e1;rw[D]at e2;cases e2;rw[h3]at e3;cases e3;have hlen:=b4.fr.1;have au:∀ t,N.length<=t->t<512->(eT fr0 0 N).get t=undef:=fun t q1 q2=>by
   rw[iC _ _ _ _ A2 q2,A6 A2,EV]
  obtain⟨p1,p2,p3,p4⟩:=HW (ρ:=ρ) (nt:=fn.ntmps) A2 r.params.toList args c (eT fr0 0 N) fr r.tmps h6 hl h5 (by simpa [e4]using hlen.symm) (fun t ht=>by
   rw[iC _ _ _ _ A2 A2,A9 A2];have X:t<N.length:=A2;have B:t<r.tmps.toList.length:=A2
   have:=b4.fr.2 t N[t] _ (A5 X) (A5 B);have R:t<r.tmps.size:=by simpa using B
   simpa [B6,X,R,B1]using this)
  have L:(r.params.zip ⟨c⟩).foldl (fun tmps (t,a)=>tmps.setIfInBounds t a) r.tmps=(r.params.toList.zip c).foldl (fun tmps (t,a)=>tmps.setIfInBounds t a) r.tmps:=by
   rw[<- Array.foldl_toList];simp
  refine⟨r.fn,_,r.assign,r.body,run_yield b3 (by show c.length=_;rw[<- p1];simp),?_⟩;rw[L];refine roundIn_of_wpIn (F:=Fence.wide) (n:=0) trivial ?_;have H:∀ t,t<511->(fr.set 511 (yv b)).get t=fr.get t:=fun t ht=>by rw[L6 _ _ _ _ F5 A2,A6 A2]
  have ay:FrR ⟨some l.blk,[]⟩ ρ fn.ntmps (fr.set 511 (yv b)) { tmps:=(r.params.toList.zip c).foldl (fun tmps (t,a)=>tmps.setIfInBounds t a) r.tmps,defers:=[] }:=by
   refine⟨p2,A2,⟨[],rfl,?_⟩,fun _=>?_,fun t ht=>by rw[H t A2];exact p3 t ht⟩
   .unfold dvG;rw[H 510 F5,p4 510 h4 F5,au 510 A2 F5];cases Nat.ble fn.ntmps 510<;>exact .nil
   .rw[L6 _ _ _ _ F5 F5,A9 rfl];refine⟨fun hu=>(by cases hu),fun b0 V=>?_⟩;have:b0=b:=by
     have:dU (yv b)=some b:=rfl;rw[this]at V;exact(A8 V).symm
    subst this;exact⟨l,K,rfl⟩
  have I:J9 ρ m.n m'.hi:=y.fr;refine S8 (z:=⟨some l.blk,[]⟩) O Q (s f fn body h1 D) r.assign (q++[false]) (I0 h3 rfl) ρ ⟨fr.set 511 (yv b),m⟩ s1 .normal _ w _ g1 av (y.less (by rw[j3];omega)) ay fun M a1 w1 f1 u=>?_
  have J:=u.ext _ _ K;obtain⟨⟨⟨_,_⟩,r2,d3,d4⟩,_⟩:=u.hr.atl J g2;obtain⟨o1,o2,o3⟩:=iO (o:=.loop { r2 with state:=.busy }) (C6.1 d3).1;have U:St C.P base M M s1.m m2 w1 (w1.putObj l.blk (.loop { r2 with state:=.busy })):=St.write u.hr g3 g2 rfl J Z ⟨rfl,rfl,rfl⟩ o1 o3 ⟨⟨Z,b2⟩,_,o2,d4.code,d4.fr,rfl⟩;refine⟨_,run_beginRound d3 d4.st.1,?_⟩;have G:=(y.step u);have E:=G.step U;refine S8 (z:=⟨some l.blk,[]⟩) O Q (s f fn body h1 D) r.body (q++[true]) (I0 h3 rfl) M ⟨s1.fr,m2⟩ s2 e _ _ _ Y W (E.less (by rw[j3];exact A7 _)) f1 fun ρ2 a2 w3 f3 A=>?_
  have T:=A.ext _ _ J;obtain⟨⟨⟨_,_⟩,r3,d5,d6⟩,_⟩:=A.hr.atl T k2;have fin:∀ (jump:Option Code),StR (exN e) (if jump.isNone then .ready else .done) jump->jump.isNone=EN e->∃ v w',(Instr.endRound l.blk jump).run C.P w3=.ok v w'/\A1Y C.P base ρ m m' w (.bool (EN e)) (.returned v) w':=fun jump hj he=>by
   refine⟨_,_,run_endRound jump d5,?_⟩;obtain⟨o4,o5,o6⟩:=iO (o:=.loop { r3 with state:=if jump.isNone then .ready else .done,pending:=jump }) (C6.1 d5).1;have ar:St C.P base ρ2 ρ2 s2.m m' w3 (w3.putObj l.blk (.loop { r3 with state:=if jump.isNone then .ready else .done,pending:=jump })):=St.write A.hr k3 k2 rfl T Z ⟨rfl,rfl,rfl⟩ o4 o6 ⟨⟨Z,b2⟩,_,o5,d6.code,d6.fr,hj⟩;exact⟨_,ρ2,rfl,by rw[he];exact .pure rfl,St.trans I u (St.trans G.fr U (St.trans E.fr A ar))⟩
  cases e with
  | normal=>exact fin none ⟨rfl,rfl⟩ rfl
  | ret=>exact fin (some .ret) ⟨rfl,rfl⟩ rfl
  | exit k=>exact fin (some (.exit k)) ⟨rfl,rfl⟩ rfl
structure A3Y (C:Cx) (base:Nat):Prop where
 names:FY C.P
 ext:∀ f k fn,C.P.funcs[f]? = some fn->fn.body=none->JW C.ext f=some k->lZ C.P base C.gl f ⟨oC k⟩
 con:∀ f c,C.con f=some c->lZ C.P base C.gl f c
 lp:∀ f fn body,C.P.funcs[f]? = some fn->fn.body=some body->OL C.P base C.gl fn.ntmps body (C.lp f)
 draws:∀ call,V2 C.P base C.gl call->fT C.P base C.gl call
def mM(f:FuncId):lZ P base gl f ⟨fun _ _=>none⟩:=⟨fun vs m m' v hr=>(by cases hr),fun ρ m m' w vs a v hr=>(by cases hr)⟩
def A2M:A7D P base gl ⟨fun _ _=>none⟩:=⟨fun vs m m' v hr=>(by cases hr),fun ρ m m' w b args a v l hr=>(by cases hr)⟩
def yW{C:Cx}(h:A3Y C base):∀ (d:Nat),V2 C.P base C.gl (uG C d)
 | 0=>⟨fun f=>mM f,A2M⟩
 | d+1=>by
   have e:=yW h d;refine⟨fun f=>?_,WP e (h.draws _ e) h.lp⟩;show lZ C.P base C.gl f (CR C (uG C d) f);unfold CR;split
   .exact mM f
   .rename_i fn a;have a:C.P.funcs[f]? = some fn:=by simpa using a
    split
    .rename_i c b;exact h.con f c b
    .split
     .rename_i l;split
      .rename_i k m;exact h.ext f k fn a l m
      .exact mM f
     .rename_i c l;exact SG (gl:=C.gl) a l (h.names f fn a) e (h.draws _ e) (h.lp f fn c a l)
end
end
section
open Go
variable [Ora]
def FX(P:Program)(nt gl:Nat)(call:O2)(all:List Oper)(b:List Nat)(rs:List Rec)(c:Bool)(o:Oper)(fr e:Fr)(m m2:Mem)(v:Value):Prop :=
 yP nt o.dst=true/\MU nt gl o.op=true/\e=uV o.dst v fr /\
 ((c=false/\∃ lg,aW nt fr m.lg all o=some (false,lg)/\v=undef/\m2=m.wLg lg) ∨
   (c=false/\∃ lg a,aW nt fr m.lg all o=some (true,lg)/\kS fr (m.wLg lg) o b rs (W3 P call o)=some (v,a)/\m2=m.wLg a) ∨
   (c=true/\∃ lg,aW nt fr m.lg all o=some (true,lg)/\(W3 P call o).run fr (m.wLg lg)=some (v,m2)/\m.hi<=m2.hi) ∨
   (c=false/\y5 o.op=false/\∃ lg,aW nt fr m.lg all o=some (true,lg)/\∃ mv m',AM (m.wLg lg) (A8t fr o.op) (BL b rs)=some mv/\(W3 P call o).run fr mv=some (v,m')/\m'.W=[]/\m.hi<=m'.hi/\kY (m.wLg lg) m'=some m2))
def UH{α:Type}{c:Bool}{x:Option α}{y:α}(h:(bif c then none else x)=some y):c=false/\x=some y:=by cases c<;>first|exact⟨rfl,h⟩|cases h
def dI(nt:Nat)(all:List Oper)(op:OpC)(b:List Nat)(rs:List Rec)(fr:Fr)(o:Oper)(m m2:Mem)(v:Value)(r:Option (Nat×AB)):Prop :=
 (∃ lg,aW nt fr m.lg all o=some (false,lg)/\v=undef/\m2=m.wLg lg/\r=none)∨(∃ lg a,aW nt fr m.lg all o=some (true,lg)/\kS fr (m.wLg lg) o b rs op=some (v,a)/\m2=m.wLg a/\r=JP m.H fr o.op)
def QsN(e:Bool)(i nt:Nat)(all:List Oper)(op:OpC)(b:List Nat)(rs:List Rec)(fr:Fr)(o:Oper)(m m2:Mem)(v:Value)(c a:Qs):Prop :=
 (e=true/\a=c/\ZO b m2.H c=true)∨(e=false/\a=c)∨(e=false/\∃ r,a=(i,r)::c/\dI nt all op b rs fr o m m2 v r)
def A1W(P:Program)(nt gl:Nat)(call:O2)(all:List Oper)(r:List Oper)(i:Nat)(bs:List G9)(rs:List Rec)(b:Qs)(s a:S):Prop :=
  ∃ (F:Nat->Fr) (M:Nat->Mem) (V:Nat->Value) (R:Nat->List Rec) (X:Nat->Qs) (B:Nat->Bool),F i=s.fr/\M i=s.m/\R i=rs/\X i=b/\F (i+r.length)=a.fr/\M (i+r.length)=a.m /\
   ∀ j o,r[j]? = some o->FX P nt gl call all (bs.getD j []) (R (i+j)) (B (i+j)) o (F (i+j)) (F (i+j+1)) (M (i+j)) (M (i+j+1)) (V (i+j))/\(B (i+j)=true->HE o.op (i+j) (bs.getD j []) (bs.drop (j+1)) (r.drop (j+1)) (X (i+j))=true) /\
    ((R (i+j+1)=R (i+j)/\∃ lg,M (i+j+1)=(M (i+j)).wLg lg)∨(B (i+j)=true/\R (i+j+1)=[])∨R (i+j+1)=⟨i+j,(M (i+j)).n,(M (i+j+1)).n⟩::R (i+j)) /\
    QsN (B (i+j)) (i+j) nt all (W3 P call o) (bs.getD j []) (R (i+j)) (F (i+j)) o (M (i+j)) (M (i+j+1)) (V (i+j)) (X (i+j)) (X (i+j+1))
def A3d{P:Program}{nt gl:Nat}{call:O2}{all:List Oper}:∀ (r:List Oper) (i:Nat) (bs:List G9) (rs:List Rec) (c:Qs) (s k:S),l6 P nt gl call all r i bs rs c s=some k->A1W P nt gl call all r i bs rs c s k
 | [],i,bs,rs,c,s,k,h=>by
   have h:some s=some k:=by cases bs<;>exact h
   cases h;exact⟨fun _=>s.fr,fun _=>s.m,fun _=>undef,fun _=>rs,fun _=>c,fun _=>false,rfl,rfl,rfl,rfl,rfl,rfl,fun j o A=>by simp at A⟩
 | o::r,i,[],rs,c,s,k,h=>by obtain⟨fr,m⟩:=s;cases h
 | o::r,i,b::bs,rs,c,⟨fr,⟨H0,n0,W0,hi0,lg0⟩⟩,k,h=>by
   generalize u:(⟨H0,n0,W0,hi0,lg0⟩:Mem)=m at h;have glue:∀ (w:Bool),(w=true->HE o.op i b bs r c=true)->∀ (v:Value) (m2:Mem) (a:List Rec) (f:Qs),FX P nt gl call all b rs w o fr (uV o.dst v fr) m m2 v->((a=rs/\∃ lg,m2=m.wLg lg)∨(w=true/\a=[])∨a=⟨i,m.n,m2.n⟩::rs)->QsN w i nt all (W3 P call o) b rs fr o m m2 v c f->l6 P nt gl call all r (i+1) bs a f ⟨uV o.dst v fr,m2⟩=some k->A1W P nt gl call all (o::r) i (b::bs) rs c ⟨fr,m⟩ k:=fun w J v m2 a f E L K y=>by
    obtain⟨F,M,V,R,X,B,f1,f2,f3,G,f4,f5,f6⟩:=A3d r (i+1) bs a f _ k y;refine⟨fun j=>if j<=i then fr else F j,fun j=>if j<=i then m else M j,fun j=>if j<=i then v else V j,fun j=>if j<=i then rs else R j,fun j=>if j<=i then c else X j,fun j=>if j<=i then w else B j,by simp,by simp,by simp,by simp,?_,?_,?_⟩
    .simp only[D8];rw[A6 A2,show i+(r.length+1)=i+1+r.length by omega];exact f4
    .simp only[D8];rw[A6 A2,show i+(r.length+1)=i+1+r.length by omega];exact f5
    .intro j o' A;cases j with
     | zero =>
       simp at A;subst A;simp only[jJ,A7,if_true,Nat.not_succ_le_self,if_false,f1,f2,f3,G];exact⟨E,J,L,K⟩
     | succ j =>
       have D:r[j]? = some o':=by simpa using A
       have:=f6 j o' D;simp only[show ¬ i+(j+1)<=i by omega,show ¬ i+(j+1)+1<=i by omega,if_false];rw[show i+(j+1)=i+1+j by omega]
       simpa using this
   subst u;unfold l6 at h;split at h
   .rename_i lg hw I;obtain⟨d1,d2⟩:=B4 I;cases t:HE o.op i b bs r c with
    | true =>
      rw[t]at h;simp only[E1]at h;split at h
      .rename_i v m2 hr;obtain⟨e,h⟩:=A3 h;obtain⟨e,N⟩:=B4 e;rw[cI]at h;exact glue true (fun _=>t) v m2 _ _ ⟨d1,d2,rfl,.inr (.inr (.inl ⟨rfl,lg,hw,hr,A1 e⟩))⟩ (.inr (.inl ⟨rfl,rfl⟩)) (.inl ⟨rfl,rfl,N⟩) h
      .cases h
    | false =>
      rw[t]at h;simp only[D7]at h;split at h
      .rename_i v l C;obtain⟨Q,C⟩:=A3 C;rw[cI]at h;exact glue false (fun h=>by cases h) v _ _ _ ⟨d1,d2,rfl,.inr (.inl ⟨rfl,lg,l,hw,C,rfl⟩)⟩ (.inl ⟨rfl,l,rfl⟩) (.inr (.inr ⟨rfl,_,rfl,.inr ⟨lg,l,hw,C,rfl,rfl⟩⟩)) h
      .obtain⟨H,h⟩:=UH h;unfold SA at h;simp only at h;split at h
       .rename_i mv hv;split at h
        .rename_i v m' hr;split at h
         .rename_i O e;split at h
          .rename_i m2 hm;rw[cI]at h;exact glue false (fun h=>by cases h) v m2 _ _ ⟨d1,d2,rfl,.inr (.inr (.inr ⟨rfl,H,lg,hw,mv,m',hv,hr,O,A1 e,hm⟩))⟩ (.inr (.inr rfl)) (.inr (.inl ⟨rfl,rfl⟩)) h
          .cases h
         .cases h
        .cases h
       .cases h
   .rename_i lg hw I;obtain⟨d1,d2⟩:=B4 I;rw[cI]at h;exact glue false (fun h=>by cases h) undef _ _ _ ⟨d1,d2,rfl,.inl ⟨rfl,lg,hw,rfl,rfl⟩⟩ (.inl ⟨rfl,lg,rfl⟩) (.inr (.inr ⟨rfl,_,rfl,.inl ⟨lg,hw,rfl,rfl,rfl⟩⟩)) h
   .cases h
def LB{l:G9}{b k:Nat}(h:k ∈ A1U l b):k=b∨k ∈ l:=by
 unfold A1U at h;cases e:u9 l b with
 | true=>rw[e]at h;exact .inr h
 | false=>rw[e,D7,E5]at h;exact B3.1 h
def BT:∀ {a b:G9} {k:Nat},k ∈ QV a b->k ∈ a∨k ∈ b
 | [],b,k,h=>.inr h
 | x::a,b,k,h=>by
   rcases LB (show k ∈ A1U (QV a b) x from h)with rfl|h
   .exact .inl B2
   .rcases BT h with h|h
    .exact .inl (C3 _ h)
    .exact .inr h
def tE{acc:List G9}:∀ {es:List Edge} {k:Nat},k ∈ rT acc es->∃ e ∈ es,Region.binds .any e=true/\(k=e.on∨k ∈ acc.getD e.on [])
 | [],k,h=>by cases h
 | e::r,k,h=>by
   unfold rT at h;cases a:Region.binds .any e with
   | true =>
     rw[a]at h;rw[E1]at h;rcases(LB h).imp_right BT with h|h|h
     .exact⟨e,B2,a,.inl h⟩
     .exact⟨e,B2,a,.inr h⟩
     .obtain⟨e',h1,b⟩:=tE h;exact⟨e',C3 _ h1,b⟩
   | false =>
     rw[a]at h;obtain⟨e',h1,b⟩:=tE h;exact⟨e',C3 _ h1,b⟩
def tD:∀ (r:List Oper) (acc:List G9),∃ a,Y1 r acc=acc++a/\a.length=r.length/\∀ j o,r[j]? = some o->∃ pre,pre=(acc++a).take (acc.length+j)/\a[j]? = some (rT pre o.after.toList)
 | [],acc=>⟨[],by simp[Y1],rfl,fun j o h=>by simp at h⟩
 | o::r,acc=>by
   obtain⟨a,h1,c,h3⟩:=tD r (acc++[rT acc o.after.toList]);refine⟨rT acc o.after.toList::a,by rw[Y1,H8,h1];simp,by simp[c],fun j o' b=>?_⟩;cases j with
   | zero =>
     simp at b;subst b;exact⟨_,rfl,by simp⟩
   | succ j =>
     obtain⟨pre,g1,g2⟩:=h3 j o' (by simpa using b);refine⟨pre,?_,by simpa using g2⟩;rw[g1];simp[bY,jK 1 j]
def A3T{ops:List Oper}{k:Nat}(m:ops[i]? = some o)(he:∀ e ∈ o.after.toList,Region.binds .any e=true->e.on<i)(a:k ∈ (Y1 ops []).getD i []) :
  ∃ e ∈ o.after.toList,Region.binds .any e=true/\(k=e.on∨k ∈ (Y1 ops []).getD e.on []):=by
 obtain⟨s,h1,n,h3⟩:=tD ops [];simp only[G3]at h1 h3;obtain⟨pre,g1,g2⟩:=h3 i o m;rw[h1]at a ⊢;rw[B1,g2]at a;obtain⟨e,c,f,l⟩:=tE (show k ∈ rT pre o.after.toList from a);refine⟨e,c,f,l.imp id fun h=>?_⟩;have b:=he e c f;rw[g1]at h;simp only[I4,F1,B1]at h ⊢;rw[F2 b]at h;exact h
def mA(ops:List Oper)(D:Nat->Prop):Prop:=∀ i o,ops[i]? = some o->D i->∀ e ∈ o.after.toList,Region.binds .any e=true->D e.on
def zH{ops:List Oper}{D:Nat->Prop}(m:mA ops D)(l:∀ i o,ops[i]? = some o->∀ e ∈ o.after.toList,Region.binds .any e=true->e.on<i) :
  ∀ (n i k:Nat) (o:Oper),i<n->ops[i]? = some o->(∀ e ∈ o.after.toList,Region.binds .any e=true->D e.on)->k ∈ (Y1 ops []).getD i []->D k
 | 0,i,k,o,h,_,_,_=>by omega
 | n+1,i,k,o,h,ho,he,hk=>by
   obtain⟨e,c,f,a⟩:=A3T ho (l i o ho) hk;rcases a with rfl|a
   .exact he e c f
   .have b:=l i o ho e c f;have hlen:e.on<ops.length:=Nat.lt_trans b (B0.1 ho).1;refine zH m l n e.on k ops[e.on] A2 (A5 hlen) (fun e' h1 s=>m e.on _ (A5 hlen) (he e c f) e' h1 s) a
def CZ{H0:Hp AB}:∀ (l:List Nat) (H:Hp AB),(∀ b ∈ l,b<=H5)->∀ id,id<=H5->Hp.get (DA H0 H l) id=if id ∈ l then Hp.get H0 id else Hp.get H id
 | [],H,_,id,_=>by simp[DA]
 | b::r,H,hl,id,hid=>by
   have c:=hl b B2;rw[DA,eD,CZ r _ (fun x hx=>hl x (C3 _ hx)) id hid,E8 _ _ _ _ c hid];by_cases h1:id ∈ r
   .rw[A9 h1,A9 (C3 _ h1)]
   .rw[A6 h1];by_cases a:id=b
    .subst a;rw[A9 rfl,A9 B2]
    .rw[A6 a,A6 (by simp[h1,a])]
def BX:∀ (l:List Nat) (H:Hp AB),(∀ b ∈ l,b<=H5)->∀ id,id<=H5->Hp.get (BY H l) id=if id ∈ l then none else Hp.get H id
 | [],H,_,id,_=>by simp[BY]
 | b::r,H,hl,id,hid=>by
   have c:=hl b B2;rw[BY,eD,BX r _ (fun x hx=>hl x (C3 _ hx)) id hid,E8 _ _ _ _ c hid];by_cases h1:id ∈ r
   .rw[A9 h1,A9 (C3 _ h1)]
   .rw[A6 h1];by_cases a:id=b
    .subst a;rw[A9 rfl,A9 B2]
    .rw[A6 a,A6 (by simp[h1,a])]
def kZ:∀ (n a b:Nat),b ∈ MD a n↔a<=b/\b<a+n
 | 0,a,b=>by simp[MD]
 | n+1,a,b=>by
   simp only[MD,B3,kZ n (a+1) b];omega
def IP{m m' m2:Mem}(h:kY m m'=some m2)(s:m.n<=m.hi)(c:m.hi<=m'.hi):m.n<=m2.n/\m.hi<=m2.hi/\m2.n<=m2.hi/\m2.W=m.W/\(m2.n=m'.hi∨(m2.n=m.n/\m'.hi<=m.n))/\m2.hi=m'.hi/\m2.lg=m'.lg /\
  ∀ id,id<=H5->Hp.get m2.H id=if m.n<=id/\id<m2.n then Hp.get m'.H id else Hp.get m.H id:=by
 unfold kY at h;cases a:Nat.ble m'.hi m.n with
 | true =>
   have a:=A1 a;have f:Nat.ble m'.hi m.n=true:=C4 a;rw[f]at h;cases h;refine⟨A7 _,A7 _,s,rfl,.inr ⟨rfl,a⟩,by show m.hi=m'.hi;omega,rfl,fun id hid=>?_⟩;rw[A6 (by show ¬ (m.n<=id/\id<m.n);omega)]
 | false =>
   have e:m.n<m'.hi:=by
    rcases F6 m.n m'.hi with h1|h1
    .exact h1
    .rw[show Nat.ble m'.hi m.n=true from C4 h1]at a;cases a
   rw[a]at h;simp only[D7]at h;obtain⟨l,h⟩:=A3 h;have l:=A1 l;simp only[E5,dQ]at h;cases h;refine⟨jH e,c,A7 _,rfl,.inl rfl,rfl,rfl,fun id hid=>?_⟩;show Hp.get (DA m'.H m.H (MD m.n (m'.hi-m.n))) id=_;rw[CZ _ _ (fun b k=>by have:=(kZ _ _ _).1 k;omega) id hid];by_cases h1:m.n<=id/\id<m'.hi
   .rw[A9 ((kZ _ _ _).2 A2),A9 h1]
   .rw[A6 (fun h=>h1 (by have:=(kZ _ _ _).1 h;omega)),A6 h1]
def aF(D:Nat->Bool)(dst:Nat->Option Tmp)(V:Nat->Value)(f0:Tmp->Value)(t:Tmp):Nat->Value
 | 0=>f0 t
 | n+1=>if D n=true/\dst n=some t then V n else aF D dst V f0 t n
def eP{D D':Nat->Bool}{dst:Nat->Option Tmp}{V:Nat->Value}{f0:Tmp->Value}{t:Tmp}:∀ (n:Nat),(∀ k,k<n->dst k=some t->D k=D' k)->aF D dst V f0 t n=aF D' dst V f0 t n
 | 0,_=>rfl
 | n+1,h=>by
   unfold aF;have b:=eP (V:=V) (f0:=f0) n fun k c=>h k (Nat.lt_succ_of_lt c)
   by_cases a:dst n=some t
   .rw[h n (I9 n) a,b]
   .rw[A6 (fun hh=>a hh.2),A6 (fun hh=>a hh.2),b]
def qY{D D':Nat->Bool}{dst:Nat->Option Tmp}{V:Nat->Value}{f0:Tmp->Value}{t:Tmp}{i:Nat}(hD:∀ k,k≠i->D' k=D k)(hi:D' i=true):∀ (n:Nat),i<n->dst i=some t->(∀ k,i<k->k<n->dst k=some t->D k=false)->aF D' dst V f0 t n=V i
 | 0,h,_,_=>by omega
 | n+1,h,hd,hl=>by
   unfold aF;by_cases e:n=i
   .subst e;rw[A9 ⟨hi,hd⟩]
   .have a:i<n:=A2;rw[A6 (fun hh=>by
     have h1:=hl n a (I9 n) hh.2;rw[hD n e,h1]at hh;exact absurd hh.1 (by simp))]
    exact qY hD hi n a hd fun k c b=>hl k c (Nat.lt_succ_of_lt b)
def nZ{D D':Nat->Bool}{dst:Nat->Option Tmp}{V:Nat->Value}{f0:Tmp->Value}{t:Tmp}(hD:∀ k,k≠i->D' k=D k)(b:dst i≠some t)(n:Nat):aF D' dst V f0 t n=aF D dst V f0 t n :=
 eP n fun k _ a=>hD k fun e=>b (e▸a)
structure HRf (P:Program) (base:Nat) (ρ:Ren) (G:Nat->Option AB) (w:World):Prop where
 dom:∀ b l,ρ b=some l->b<=H5
 at_:∀ id,id<=H5->∀ ab,G id=some ab->∃ l,ρ id=some l/\BR P ρ ab l w/\(ab.rw=true->l.on=true->base<=l.blk/\∀ id2,id2<=H5->∀ ab2 l2,G id2=some ab2->ρ id2=some l2->Tc ab2 l2 l.blk->id2=id)
def HRf.hr{P:Program}{base:Nat}{ρ:Ren}{G:Nat->Option AB}{H:Hp AB}{w:World}(h:HRf P base ρ G w)(n:∀ id,id<=H5->∀ ab,Hp.get H id=some ab->G id=some ab):HR P base ρ H w :=
 ⟨h.dom,fun id hid ab m=>let ⟨l,a,b,c⟩:=h.at_ id hid ab (n id hid ab m);⟨l,a,b,fun hr s=>⟨(c hr s).1,fun k e f l2 g=>(c hr s).2 k e f l2 (n k e f g)⟩⟩⟩
def HR.f{P:Program}{base:Nat}{ρ:Ren}{H:Hp AB}{w:World}(h:HR P base ρ H w){G:Nat->Option AB}(s:∀ id,id<=H5->∀ ab,G id=some ab->Hp.get H id=some ab):HRf P base ρ G w :=
 ⟨h.dom,fun id hid ab n=>let ⟨l,a,b,c⟩:=h.at_ id hid ab (s id hid ab n);⟨l,a,b,fun hr t=>⟨(c hr t).1,fun m e k l2 g=>(c hr t).2 m e k l2 (s m e k g)⟩⟩⟩
def Ff(ρ:Ren)(G:Nat->Option AB)(k:Nat):Prop:=∃ id ab l,id<=H5/\G id=some ab/\ρ id=some l/\Tf ab l k
end
end Go.Sx
