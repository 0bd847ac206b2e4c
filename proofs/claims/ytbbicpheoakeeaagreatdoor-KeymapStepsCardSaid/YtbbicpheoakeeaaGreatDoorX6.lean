import Derived.Test.YtbbicpheoakeeaaGreatDoorX5
set_option linter.all false
set_option maxRecDepth 100000
set_option maxHeartbeats 4000000
namespace Go.Sx
variable {ds:List Deferred}{d:Option Tmp}{o p:Oper}{lg':Lg}{i j:Nat}{q:List Bool}{r:Option (Ex×S)}{g:Value}{x:Operand}{me:FuncId}{ps:Array Tmp}{as bd:Code}
section
open Go
variable [Ora]
section
variable {P:Program} {base gl nt:Nat}
def GR(gl:Nat)(ρ:Ren):Prop:=∀ g,g<gl->ρ g=some (lc g 0 0)
def GR.mono{ρ a:Ren}(h:GR gl ρ)(he:∀ b l,ρ b=some l->a b=some l):GR gl a:=fun g c=>he _ _ (h g c)
structure At (P:Program) (base gl:Nat) (ρ:Ren) (m:Mem) (hi:Nat) (w:World):Prop where
 hr:HR P base ρ m.H w
 bs:base<=w.heap.size
 fr:K4 ρ m.n hi
 gr:GR gl ρ
 nh:m.n<=m.hi
 wb:∀ b ∈ m.W,∀ l,ρ b=some l->l.on=true->base<=l.blk
 gf:∀ k o,Ora.G k=some o->k<base/\w.heap[k]? = some o
def At.wbs{ρ c:Ren}{m m':Mem}{hi:Nat}{w w':World}(h:At P base gl ρ m hi w)(st:St P base ρ c m m' w w'):∀ b ∈ m'.W,∀ l,ρ b=some l->l.on=true->base<=l.blk:=fun b k l e a=>by
 by_cases hm:b ∈ m.W
 .exact h.wb b hm l e a
 .obtain⟨ab,h1,f⟩:=st.wrw b k hm l e;exact((h.hr.atl e h1).2 f a).1
def At.below{ρ c:Ren}{m m':Mem}{hi:Nat}{w w':World}(h:At P base gl ρ m hi w)(st:St P base ρ c m m' w w'){k:Nat}(f:k<base):w'.heap[k]? = w.heap[k]? :=
 st.keep k (D7 f h.bs) fun b n l s a e=>by have:=h.wbs st b n l s a;omega
def At.step{ρ a:Ren}{m m':Mem}{hi:Nat}{w w':World}(h:At P base gl ρ m hi w)(st:St P base ρ a m m' w w'):At P base gl a m' hi w' :=
 ⟨st.hr,C6 h.bs st.size,fun b h1 e=>by
  cases f:a b with
  | none=>rfl
  | some l =>
    cases h0:ρ b with
    | some l0=>rw[h.fr b (C6 st.nle h1) e]at h0;cases h0
    | none=>have:=(st.new b l f h0).2;omega,h.gr.mono st.ext,st.nhi h.nh,fun b f l t c=>by
  cases h0:ρ b with
  | some l0 =>
    have:=st.ext b l0 h0;rw[t]at this
    have:=A9 this;subst this;exact h.wbs st b f l h0 c
  | none =>
    rcases st.blk b l t h0 c with h1|⟨u,h1,l0,e,n,h3⟩
    .have:=h.bs;omega
    .rw[<- h3];exact h.wbs st u h1 l0 e n,fun k o s=>⟨(h.gf k o s).1,(h.below st (h.gf k o s).1).trans (h.gf k o s).2⟩⟩
def At.less{ρ:Ren}{m:Mem}{hi hi':Nat}{w:World}(h:At P base gl ρ m hi w)(c:hi'<=hi):At P base gl ρ m hi' w:=⟨h.hr,h.bs,fun b h1 a=>h.fr b h1 (D7 a c),h.gr,h.nh,h.wb,h.gf⟩
def At.wLg{ρ:Ren}{m:Mem}{hi:Nat}{w:World}(h:At P base gl ρ m hi w)(lg:Lg):At P base gl ρ (m.wLg lg) hi w:=by
 cases m;exact⟨h.hr,h.bs,h.fr,h.gr,h.nh,h.wb,h.gf⟩
def A3f(P:Program)(base:Nat)(ρ:Ren)(m m':Mem)(w:World)(v:Value):Ending->World->Prop:=fun e w'=>∃ v' a,e=.returned v'/\VR a v v'/\St P base ρ a m m' w w'
structure mY (P:Program) (base gl:Nat) (f:FuncId) (c:FnC):Prop where
 lg:∀ (vs:List Value) (m m':Mem) (v:Value),c.run vs m=some (v,m')->m.lg.le m'.lg
 ok:∀ (ρ:Ren) (m m':Mem) (w:World) (vs vs':List Value) (v:Value),c.run vs m=some (v,m')->Sat m'.lg->At P base gl ρ m m'.hi w->LR ρ vs vs' ->
  ((callFunc f ⟨vs'⟩).run P w=.ok (.enter f ⟨vs'⟩) w/\Calls P f ⟨vs'⟩ w (A3f P base ρ m m' w v)) ∨
  (∃ v' ρ' w',(callFunc f ⟨vs'⟩).run P w=.ok (.value v') w'/\VR ρ' v v'/\St P base ρ ρ' m m' w w')
structure Zn where
 rd:Option Nat
 D:List Deferred
def B0s(l:Loc):Deferred:={ target:=.collected l.blk,args:=#[] }
def DfR(ρ:Ren)(ids:List Nat)(ds:List Deferred):Prop:=ids.length=ds.length/\∀ (i:Nat) (id:Nat) (d:Deferred),ids[i]? = some id->ds[i]? = some d->∃ l,ρ id=some l/\d=B0s l
def DfR.mono{ρ f:Ren}{ids:H6}(h:DfR ρ ids ds)(he:∀ b l,ρ b=some l->f b=some l):DfR f ids ds:=⟨h.1,fun i id d a b=>let ⟨l,c,e⟩:=h.2 i id d a b;⟨l,he _ _ c,e⟩⟩
def DfR.nil{ρ:Ren}:DfR ρ [] []:=⟨rfl,fun i id d h=>by simp at h⟩
structure FrR (z:Zn) (ρ:Ren) (nt:Nat) (fr:Fr) (a:Act):Prop where
 size:a.tmps.size=nt
 le:nt<=512
 df:∃ ds,a.defers=ds++z.D/\DfR ρ (dvG nt fr) ds
 rd:nt<=510->(nW (fr.get 511)=true->z.rd=none)/\∀ b,eM (fr.get 511)=some b->∃ l,ρ b=some l/\z.rd=some l.blk
 get:∀ t,t<nt->VR ρ (fr.get t) (a.tmps.getD t undef)
variable {z:Zn}
def FrR.mono{ρ f:Ren}{fr:Fr}{a:Act}(h:FrR z ρ nt fr a)(he:∀ b l,ρ b=some l->f b=some l):FrR z f nt fr a :=
 ⟨h.size,h.le,let ⟨ds,a,b⟩:=h.df;⟨ds,a,b.mono he⟩,fun k=>⟨(h.rd k).1,fun b m=>let ⟨l,c,e⟩:=(h.rd k).2 b m;⟨l,he _ _ c,e⟩⟩,fun t n=>(h.get t n).mono he⟩
def FrR.put{ρ:Ren}{fr:Fr}{a:Act}{d:Nat}{v v':Value}(h:FrR z ρ nt fr a)(l:d<nt)(hv:VR ρ v v'):FrR z ρ nt (fr.set d v) (a.put (some d) v'):=by
 have hle:=h.le;have b:∀ t,t<512->t≠d->(fr.set d v).get t=fr.get t:=fun t h1 n=>by rw[M3 _ _ _ _ A2 h1,A8 n]
 refine⟨by simp[Act.put,h.size],h.le,?_,fun m=>?_,fun t k=>?_⟩
 .obtain⟨ds,s,c⟩:=h.df;refine⟨ds,s,?_⟩;unfold dvG at c ⊢;cases f:Nat.ble nt 510 with
  | true =>
    have:=A1 f;rw[f]at c;rw[b 510 F0 A2];exact c
  | false=>rw[f]at c;exact c
 .rw[b 511 F0 A2];exact h.rd m
 .rw[M3 _ _ _ _ (D7 l h.le) (D7 k h.le)];simp only[Act.put,B8,G6];by_cases e:t=d
  .subst e;rw[B0 rfl,B0 rfl,B0 (by rw[h.size];exact l)];exact hv
  .rw[A8 e,A8 (fun h=>e h.symm)]
   have:=h.get t k
   simpa [B8]using this
def ZR(z:Zn)(ρ:Ren)(nt:Nat)(fr:Fr)(a:List Deferred):Prop:=(∃ ds,a=ds++z.D/\DfR ρ (dvG nt fr) ds)/\(nt<=510->(nW (fr.get 511)=true->z.rd=none)/\∀ b,eM (fr.get 511)=some b->∃ l,ρ b=some l/\z.rd=some l.blk)
def FrR.zr{ρ:Ren}{fr:Fr}{a:Act}(h:FrR z ρ nt fr a):ZR z ρ nt fr a.defers:=⟨h.df,h.rd⟩
def ZR.congr{ρ f:Ren}{fr a:Fr}(h:ZR z ρ nt fr ds)(he:∀ b l,ρ b=some l->f b=some l)(n:nt<=510->a.get 510=fr.get 510/\a.get 511=fr.get 511):ZR z f nt a ds:=by
 obtain⟨⟨m,h1,t⟩,h3⟩:=h;refine⟨⟨m,h1,?_⟩,fun k=>?_⟩
 .have:dvG nt a=dvG nt fr:=by
   unfold dvG;cases s:Nat.ble nt 510 with
   | true=>rw[(n (A1 s)).1]
   | false=>rfl
  rw[this];exact t.mono he
 .rw[(n k).2];exact⟨(h3 k).1,fun b u=>let ⟨l,c,e⟩:=(h3 k).2 b u;⟨l,he _ _ c,e⟩⟩
def eW(a:Act)(d:Option Tmp)(v:Value):(a.put d v).defers=a.defers:=by cases d<;>rfl
def FrR.ev{ρ:Ren}{fr:Fr}{a:Act}(h:FrR z ρ nt fr a)(c:GR gl ρ){x:Operand}(hx:okX nt gl x=true):VR ρ (ev fr x) (a.eval x):=by
 cases x with
 | tmp t=>exact h.get t (A1 hx)
 | const v=>exact VR.ofC hx
 | global g =>
   have:=VR.ptr (o:=0) (c g (A1 hx));exact this
 | func f=>exact .func (a:=[]) (b:=[]) (a':=[]) (b':=[]) rfl rfl (fun i v v' h=>by simp at h) (fun i v v' h=>by simp at h)
def FrR.ops{ρ:Ren}{fr:Fr}{a:Act}(h:FrR z ρ nt fr a)(c:GR gl ρ){o:Op}(b:PI nt gl o=true):FR ρ fr a.eval o:=fun x hx=>h.ev c (D6.1 b x hx)
def AT{o:Op}{c:Callee}{xs:Array Operand}{tys:Array TypeId}(h:o=.call ⟨c,xs,tys⟩):∀ x ∈ xs.toList,x ∈ o.operands.toList:=fun x hx=>by
 subst h;show x ∈ ((match c with|.value f=>#[f]|.invoke r _=>#[r]|.builtin _=>#[])++xs:Array Operand).toList;simp;exact .inr (by simpa using hx)
structure A9y (P:Program) (base gl:Nat) (c:FnC):Prop where
 lg:∀ (vs:List Value) (m m':Mem) (v:Value),c.run vs m=some (v,m')->m.lg.le m'.lg
 ok:∀ (ρ:Ren) (m m':Mem) (w:World) (b:Nat) (args args':List Value) (v:Value) (l:Loc),c.run (yv b::args) m=some (v,m')->Sat m'.lg->At P base gl ρ m m'.hi w->LR ρ args args'->ρ b=some l ->
  ∃ f tmps assign body,(Instr.yield l.blk ⟨args'⟩).run P w=.ok (.round l.blk f tmps assign body) w/\RoundIn Fence.wide 0 P l.blk f tmps assign body w (A3f P base ρ m m' w v)
structure V7 (P:Program) (base gl:Nat) (call:P1):Prop where
 fn:∀ f,mY P base gl f (call.fn f)
 yl:A9y P base gl call.yl
def CJ{v:Value}{b:Nat}(h:eM v=some b):v=yv b:=by
 unfold eM at h;split at h
 .cases h;rfl
 .cases h
def qO{ρ:Ren}{m m':Mem}{w:World}{call:P1}{fr:Fr}{a:Act}{v:Value}{K:Act->World->Prop}{Q:Exit->Act->World->Prop}(n:V7 P base gl call)(k:(W9 P call o).run fr m=some (v,m'))(F:Sat m'.lg)
  (h:At P base gl ρ m m'.hi w) (C:FR ρ fr a.eval o.op) (G:∀ v' s w',VR s v v'->St P base ρ s m m' w w'->K (a.put o.dst v') w'):wpO P z.rd o a w K Q:=by
 have H:∀ (f:FuncId) (vs B:List Value),(∀ c,o.op≠.defer c)->(call.fn f).run vs m=some (v,m')->LR ρ vs B->(execOp a.eval o).run P w=(callFunc f ⟨B⟩).run P w->wpO P z.rd o a w K Q:=fun f vs B J hr hv he=>by
  refine⟨fun _ _=>trivial,?_⟩;rw[Oper.semAt_eq _ _ _ J,he];rcases(n.fn f).ok ρ m m' w vs B v hr F h hv with⟨h1,A⟩|⟨v',s,w',h1,A,h3⟩
  .rw[h1,Oper.uponIn_enter];refine⟨sU,pS.2 (A.mono fun e w' ⟨v',s,he,hv,M⟩=>?_)⟩;subst he;exact G v' s w' hv M
  .rw[h1,Oper.uponIn_value];exact G v' s w' A h3
 have t:∀ (J:∀ c,o.op≠.defer c),NOk P base ρ m w (execOp a.eval o) v m'->wpO P z.rd o a w K Q:=fun J O=>by
  obtain⟨v',s,w',h1,A,h3⟩:=O;refine⟨fun _ _=>trivial,?_⟩;rw[Oper.semAt_eq _ _ _ J];rcases h1 with h1|⟨h1,rfl⟩
  .rw[h1,Oper.uponIn_value];exact G v' s w' A h3
  .rw[h1,Oper.uponIn_skip];exact G undef s w' A h3
 obtain⟨dst,op,ty,pos,R,Z⟩:=o;unfold W9 at k;simp only at k C;split at k
 .rename_i f xs tys;have l1:=dK (ρ:=ρ) (fr:=fr) (g:=a.eval) (xs:=xs.toList) fun x hx=>C x (AT rfl x hx)
  have k:(call.fn f).run ((wB xs.toList).run fr) m=some (v,m'):=k;rw[oD]at k;refine H f _ _ (fun c n=>by cases n) k l1 ?_;have I:xs.map a.eval=⟨xs.toList.map a.eval⟩:=by apply J2;simp
  simp only[execOp,resolve,Act.eval,Deferred.ofValue,pure_bind,invoke,I];simp
 .rename_i x xs tys W;have l1:=dK (ρ:=ρ) (fr:=fr) (g:=a.eval) (xs:=xs.toList) fun y L=>C y (AT rfl y L)
  have hx:VR ρ (ev fr x) (a.eval x):=C x (by show x ∈ (#[x]++xs:Array Operand).toList;simp);have k:LB call m ((S5 x).run fr) ((wB xs.toList).run fr)=some (v,m'):=k;rw[oD,eL]at k;have I:xs.map a.eval=⟨xs.toList.map a.eval⟩:=by apply J2;simp
  unfold LB at k;split at k
  .rename_i f vs u;unfold xL at u;split at u
   .rename_i f0 p q E;cases u;rw[E]at hx;generalize D:a.eval x=gx at hx;cases hx with
    | pure hp=>simp[I8]at hp
    | func N T h1 A =>
      rename_i p q U Y;have lp:LR ρ p U:=⟨N,h1⟩;have V:LR ρ q Y:=⟨T,A⟩;refine H f _ _ (fun c n=>by cases n) k (lp.append (l1.append V)) ?_;simp only[execOp,resolve,D,Deferred.ofValue,pure_bind,invoke,I];simp
   .cases u
  .split at k
   .rename_i b L;have E:=CJ L;rw[E]at hx k;obtain⟨l,X,D⟩:=A2S hx;obtain⟨f,tmps,as,bd,h1,A⟩:=n.yl.ok ρ m m' w b _ _ v l k F h l1 X;refine⟨fun _ _=>trivial,?_⟩;have he:(execOp a.eval ⟨dst,.call ⟨.value x,xs,tys⟩,ty,pos,R,Z⟩).run P w=(Instr.yield l.blk ⟨xs.toList.map a.eval⟩).run P w:=by
     simp only[execOp,resolve,D,Deferred.ofValue,pure_bind,invoke,I];simp
    rw[Oper.semAt_eq _ _ _ (fun c n=>by cases n),he,h1,Oper.uponIn_round];refine⟨sU,?_⟩;have A:RoundIn (fw z.rd) 0 P l.blk f tmps as bd w (A3f P base ρ m m' w v):=A;refine A.mono fun e w' ⟨v',s,he,hv,M⟩=>?_
    subst he;exact G v' s w' hv M
   .cases k
 .have k:A15 P (AQ P _) _ fr m=some (v,m'):=k;unfold A15 at k;rw[AP]at k;split at k
  .rename_i r hr;cases k;exact t (fun c n=>by have n:op=.defer c:=n;subst n;cases hr) (A8w h.hr h.bs hr h.fr C)
  .split at k
   .rename_i r hr;cases k;exact t (fun c n=>by have n:op=.defer c:=n;subst n;cases hr) (A35 h.hr hr C F)
   .split at k
    .rename_i r hr;cases k;exact t (fun c n=>by have n:op=.defer c:=n;subst n;cases hr) (A9k h.hr h.bs hr h.fr C F)
    .exact t (fun c n=>by have n:op=.defer c:=n;subst n;cases k) (A8I h.hr h.bs k h.fr C F)
def aO{m m':Mem}{call:P1}{fr:Fr}{v:Value}(b:V7 P base gl call)(a:(W9 P call o).run fr m=some (v,m')):m.lg.le m'.lg:=by
 unfold W9 at a;split at a
 .exact(b.fn _).lg _ _ _ _ a
 .have a:LB call m _ _=some (v,m'):=a;unfold LB at a;split at a
  .exact(b.fn _).lg _ _ _ _ a
  .split at a
   .exact b.yl.lg _ _ _ _ a
   .cases a
 .have a:A15 P (AQ P _) _ fr m=some (v,m'):=a;unfold A15 at a;rw[AP]at a;split at a
  .rename_i r hr;cases a;show m.lg.le _;rw[A8x hr];exact .refl _
  .split at a
   .rename_i r hr;cases a;exact(RX hr).1
   .split at a
    .rename_i r hr;cases a;exact A9l hr
    .exact A8J a
def YE{lg:Lg}{v:Value}{b c:Bool}(h:IU lg v b=some (c,lg')):lg.le lg':=by
 unfold IU at h;split at h
 .cases h;exact .refl _
 .split at h
  .rename_i a;cases h;exact fM a
  .cases h
 .obtain⟨_,h⟩:=A3 h;cases h;exact .refl _
def hP{lg:Lg}{fr:Fr}{all:List Oper}{b:Bool}(h:bO nt fr lg all o=some (b,lg')):lg.le lg':=by
 unfold bO at h;split at h
 .cases h;exact .refl _
 .split at h
  .split at h
   .obtain⟨_,h⟩:=A3 h;exact YE h
   .cases h
  .cases h
def qD{ρ:Ren}{lg:Lg}{v v':Value}{b c:Bool}(h:IU lg v b=some (c,lg'))(hv:VR ρ v v')(a:Sat lg'):(v'=.bool (c == b)∨(c=false/\v'=.tuple ⟨[]⟩)):=by
 unfold IU at h;split at h
 .rename_i d;cases h;left;rw[cW hv];cases d<;>cases b<;>rfl
 .split at h
  .rename_i d l f;cases h;left
   rw[mS f hv a];cases d<;>cases b<;>rfl
  .cases h
 .rename_i u _ _;obtain⟨h3,m⟩:=A3 h;cases m;right
  have hu:v=.tuple ⟨[]⟩:=by
   unfold nW at h3;split at h3
   .rfl
   .cases h3
  rw[hu]at hv;obtain⟨cs',e,k⟩:=uE hv;cases k.nil_inv;exact⟨rfl,e⟩
def nG{all:Array Oper}{tmps:W4}{want b:Bool}{t:Tmp}(l:o.guard=some (j,want))(hp:all.toList[j]? = some p)(k:p.dst=some t)(c:t<tmps.size)
  (hv:tmps.getD t undef=.bool (b == want)∨(b=false/\tmps.getD t undef=.tuple ⟨[]⟩)):Region.wanted o (yielded all tmps)=b:=by
 have a:tmps[t]? = some (tmps.getD t undef):=by simp[B8,c]
 have f:(all[j]?).bind (·.dst)=some t:=by
  have:all[j]? = some p:=by simpa using hp
  simp[this,k]
 unfold Region.wanted;simp only[l];rcases hv with e|⟨rfl,e⟩
 .have:yielded all tmps j=some (b == want):=by simp[yielded,f,a,e]
  rw[this];cases b<;>cases want<;>rfl
 .have:yielded all tmps j=none:=by simp[yielded,f,a,e]
  rw[this];rfl
def IV{ρ:Ren}{lg:Lg}{all:Array Oper}{fr:Fr}{a:Act}{b:Bool}(h:FrR z ρ nt fr a)(hw:bO nt fr lg all.toList o=some (b,lg'))(e:Sat lg'):Region.wanted o (yielded all a.tmps)=b:=by
 unfold bO at hw;split at hw
 .rename_i c;cases hw;simp[Region.wanted,c]
 .rename_i j want c;split at hw
  .rename_i p hp;split at hw
   .rename_i t k;obtain⟨h1,f⟩:=A3 hw;have h1:t<nt:=A1 h1;exact nG c hp k (by rw[h.size];exact h1) (qD f (h.get t h1) e)
   .cases hw
  .cases hw
def yG{β:Type}(t:Nat)(v:Value)(fr:Fr)(k:Fr->β):wQ (sel (t / 64%8)) (sel (t / 8%8)) (sel (t%8)) v fr k=k (fr.set t v):=GA t v fr k
def wS(d:Option Tmp)(v:Value)(fr:Fr):Fr:=match d with|some t=>fr.set t v|none=>fr
def cZ(d:Option Tmp)(v:Value)(fr:Fr)(k:Fr->Option S):(wT d).run v fr k=k (wS d v fr):=by
 cases d with
 | none=>rfl
 | some t=>exact yG t v fr k
def FrR.dst{ρ:Ren}{fr:Fr}{a:Act}{v v':Value}(h:FrR z ρ nt fr a)(b:AL nt d=true)(hv:VR ρ v v'):FrR z ρ nt (wS d v fr) (a.put d v'):=by
 cases d with
 | none=>exact h
 | some t=>exact h.put (A1 b) hv
def u9{c:OpC}{next:A3e}{s b:S}(h:lK c (wT d) next s=some b):∃ v m',c.run s.fr s.m=some (v,m')/\s.m.hi<=m'.hi/\next.run ⟨wS d v s.fr,m'⟩=some b:=by
 unfold lK at h;obtain⟨fr,m⟩:=s;simp only at h;split at h
 .rename_i v m' hr;obtain⟨h1,a⟩:=A3 h;rw[cZ]at a;exact⟨v,m',hr,A1 h1,a⟩
 .cases h
def tU{call:P1}{all:List Oper}:∀ (r:List Oper) (s a:S),(V1 P nt gl call all r).run s=some a->s.m.hi<=a.m.hi
 | [],s,a,h=>by
   have h:some s=some a:=h;cases h;exact A6 _
 | o::r,s,a,h=>by
   unfold V1 at h;cases c:AL nt o.dst && PI nt gl o.op with
   | false=>rw[c]at h;cases h
   | true =>
     rw[c]at h;simp only[E5]at h;split at h
     .obtain⟨v,m',_,h1,b⟩:=u9 h;exact C6 h1 (tU r _ _ b)
     .have h:eU nt all o (W9 P call o) (wT o.dst) (V1 P nt gl call all r) s=some a:=h;unfold eU at h;obtain⟨fr,⟨H,n,W,hi,lg⟩⟩:=s;simp only at h;split at h
      .obtain⟨v,m',_,h1,b⟩:=u9 h;exact C6 h1 (tU r _ _ b)
      .rename_i lg' _;rw[cZ]at h;exact tU r ⟨wS o.dst undef fr,⟨H,n,W,hi,lg'⟩⟩ a h
      .cases h
def lQ{call:P1}(b:V7 P base gl call){all:List Oper}:∀ (r:List Oper) (s a:S),(V1 P nt gl call all r).run s=some a->s.m.lg.le a.m.lg
 | [],s,a,h=>by
   have h:some s=some a:=h;cases h;exact .refl _
 | o::r,s,a,h=>by
   unfold V1 at h;cases e:AL nt o.dst && PI nt gl o.op with
   | false=>rw[e]at h;cases h
   | true =>
     rw[e]at h;simp only[E5]at h;split at h
     .obtain⟨v,m',h0,h1,c⟩:=u9 h;exact(aO b h0).trans (lQ b r _ _ c)
     .have h:eU nt all o (W9 P call o) (wT o.dst) (V1 P nt gl call all r) s=some a:=h;unfold eU at h;obtain⟨fr,⟨H,n,W,hi,lg⟩⟩:=s;simp only at h;split at h
      .rename_i lg' hw;obtain⟨v,m',h0,h1,c⟩:=u9 h;exact(hP hw).trans ((aO b h0).trans (lQ b r _ _ c))
      .rename_i lg' hw;rw[cZ]at h;exact(hP hw).trans (lQ b r ⟨wS o.dst undef fr,⟨H,n,W,hi,lg'⟩⟩ a h)
      .cases h
def GN{call:P1}{all:Array Oper}{Q:Exit->Act->World->Prop}(y:V7 P base gl call):∀ (r:List Oper) (ρ:Ren) (s c:S) (a:Act) (w:World),(V1 P nt gl call all.toList r).run s=some c->Sat c.m.lg->At P base gl ρ s.m c.m.hi w->FrR z ρ nt s.fr a ->
  (∀ e a' w',FrR z e nt c.fr a'->St P base ρ e s.m c.m w w'->Q .normal a' w')->wpL P z.rd all Q r a w
 | [],ρ,s,c,a,w,h,hS,b,l,u=>by
   have h:some s=some c:=h;cases h;exact u ρ a w l (.refl b.hr)
 | o::r,ρ,s,c,a,w,h,hS,b,l,u=>by
   unfold V1 at h;cases D:AL nt o.dst && PI nt gl o.op with
   | false=>rw[D]at h;cases h
   | true =>
     rw[D]at h;simp only[E5]at h;obtain⟨A,C⟩:=B6 D;have plain:∀ (s:S),At P base gl ρ s.m c.m.hi w->FrR z ρ nt s.fr a->(∀ e a' w',FrR z e nt c.fr a'->St P base ρ e s.m c.m w w'->Q .normal a' w') ->
       lK (W9 P call o) (wT o.dst) (V1 P nt gl call all.toList r) s=some c->Region.wanted o (yielded all a.tmps)=true->wpL P z.rd all Q (o::r) a w:=fun s b l u hr hw=>by
      obtain⟨v,m',h1,E,h3⟩:=u9 hr;have hh:=tU r _ _ h3;have k:Sat m'.lg:=S2.le hS (lQ y r _ _ h3);refine IS fun K B=>?_
      rw[B0 hw];refine qO y h1 k (b.less hh) (l.ops b.gr C) fun v' e w' hv st=>B _ _ ?_
      refine GN y r e _ c _ _ h3 hS (b.step st) ((l.mono st.ext).dst A hv) fun ρ2 a2 w2 f2 f=>u ρ2 a2 w2 f2 (St.trans b.fr st f)
     split at h
     .rename_i F;exact plain s b l u h (by simp[Region.wanted,F])
     .have h:eU nt all.toList o (W9 P call o) (wT o.dst) (V1 P nt gl call all.toList r) s=some c:=h;unfold eU at h;obtain⟨fr,m⟩:=s;obtain⟨H,n,W,hi,lg⟩:=m;simp only at h;split at h
      .rename_i lg' hw;have t:St P base ρ ρ ⟨H,n,W,hi,lg⟩ ⟨H,n,W,hi,lg'⟩ w w:=St.wLg (m:=⟨H,n,W,hi,lg⟩) b.hr lg';obtain⟨v,m',h0,h1,E⟩:=u9 h;have k:Sat lg':=S2.le hS ((aO y h0).trans (lQ y r _ _ E));exact plain ⟨fr,⟨H,n,W,hi,lg'⟩⟩ (b.wLg lg') l (fun ρ2 a2 w2 f2 f=>u ρ2 a2 w2 f2 (St.trans b.fr t f)) h (IV l hw k)
      .rename_i lg' hw;have t:St P base ρ ρ ⟨H,n,W,hi,lg⟩ ⟨H,n,W,hi,lg'⟩ w w:=St.wLg (m:=⟨H,n,W,hi,lg⟩) b.hr lg';rw[cZ]at h;have k:Sat lg':=S2.le hS (lQ y r ⟨wS o.dst undef fr,⟨H,n,W,hi,lg'⟩⟩ c h);refine IS fun K B=>?_
       rw[A8 (by rw[IV l hw k];simp)];exact B _ _ (GN y r ρ ⟨wS o.dst undef fr,⟨H,n,W,hi,lg'⟩⟩ c _ _ h hS (b.wLg lg') (l.dst A (qF ρ)) fun ρ2 a2 w2 f2 f=>u ρ2 a2 w2 f2 (St.trans b.fr t f))
      .cases h
def Ex.out:Ex->Exit
 | .normal=>.normal
 | .exit id=>.exit id
 | .ret=>.ret
def A4x{ops:List Oper}{z:Zn}{ρ:Ren}{s:S}{a:Act}{w:World}(hm:lW P nt gl s.fr s.m.H ops=true)(hr:HR P base ρ s.m.H w)(K:GR gl ρ)(hf:FrR z ρ nt s.fr a):NU P ops (a,w):=by
 obtain⟨h1,h2⟩:=B6 hm;have key:∀ o ∈ ops,∀ t x,mU o.op=some (t,x)->∃ b l cs T,ev s.fr x=.pointer (some b)/\ρ b.block=some l/\a.eval x=.pointer (some ⟨l.blk,b.off+l.sh,none⟩)/\Hp.get s.m.H b.block=some (.cells cs T false)/\b.block<=I2/\l.on=true/\CH P w t (a.eval x):=fun o J t x hx=>by
  have hp:=D6.1 h1 o J;unfold A0x at hp;rw[hx]at hp;simp only at hp;cases A:okX nt gl x with
  | false=>rw[A]at hp;cases hp
  | true =>
    rw[A]at hp;simp only[Q8,E0]at hp;split at hp
    .rename_i b g sz v B U;split at hp
     .rename_i cs T az f;obtain⟨N,hp⟩:=B6 hp;obtain⟨D,I⟩:=B6 hp;have N:=A1 N;have D:b.off<cs.length:=A1 D;have I:=A1 I;have hv:=hf.ev K A;rw[v]at hv;obtain⟨l,l1,_,Q⟩:=O9 hv;obtain⟨⟨L,C,fz,T',c1,Y,_⟩,_⟩:=hr.atl l1 f;have n:∀ k,k<cs.length->l.sh+k<C.size:=fun k A=>by
       obtain⟨v',G,_⟩:=Y k cs[k] (A5 A);exact(C9.1 G).1
      refine⟨b,l,cs,T,v,l1,Q,f,I,L,l.blk,b.off+l.sh,C,T',fz,sz,g,Q,c1,U,B,?_,?_⟩
      .have:=n b.off D;by_cases h0:sz=0
       .omega
       .have:=n (b.off+sz-1) A2;omega
      .have:=n b.off D;omega
     .cases hp
    .cases hp
 refine⟨fun o J t x hx=>by obtain⟨_,_,_,_,_,_,_,_,_,_,h⟩:=key o J t x hx;exact h,fun i j o p F hi O he E t x u y hx M ay X v B=>?_⟩;obtain⟨b,l,cs,T,k1,Z,k3,k4,k5,k6,_⟩:=key o (D0 hi) t x hx;obtain⟨bd,r,ds,V,R,n2,n3,n4,n5,W,_⟩:=key p (D0 O) u y M;have c:=KE h2 F hi O he;unfold A3Z at c;rw[E]at c;simp only[E5,hx,M,k1,R]at c;rw[k3]at v;rw[n3]at B;cases v;cases B;show l.blk≠r.blk;intro e;obtain⟨_,hu⟩:=hr.atl Z k4;obtain⟨_,hu⟩:=hu rfl k6
 have:=hu bd.block n5 _ r n4 n2 (.inl ⟨rfl,W,e.symm⟩);rw[this,eF]at c;cases c
def At.drew{ρ:Ren}{m:Mem}{hi:Nat}{w:World}(a:At P base gl ρ m hi w)(d:Nat):At P base gl ρ m hi { w with drawn:=d } :=
 ⟨⟨fun b l h=>a.hr.dom b l h,fun id hid ab c=>by
  obtain⟨l,k,e,f⟩:=a.hr.at_ id hid ab c;exact⟨l,k,BR.mono (w:=w) (fun _ _ h=>h) (fun _ _=>rfl) e,f⟩⟩,a.bs,a.fr,a.gr,a.nh,a.wb,a.gf⟩
def St.undrew{ρ a:Ren}{m m':Mem}{w w':World}{d:Nat}(st:St P base ρ a m m' { w with drawn:=d } w'):St P base ρ a m m' w w' :=
 ⟨st.ext,st.new,st.nle,st.hle,st.nhi,st.hr,st.wsub,st.wrw,st.keep,st.size,st.os,st.blk,st.same,st.tch⟩
def OY{call:P1}{ops:Array Oper}{z:Zn}{id:Nat}(l:P.follows .mixedOrders=true)(D:V7 P base gl call){ρ:Ren}{s f:S}{a:Act}{w:World}{Q:Exit->Act->World->Prop}(hr:lL ops.toList=true)(hm:lW P nt gl s.fr s.m.H ops.toList=true)(h:(V1 P nt gl call ops.toList ops.toList).run s=some f)(y:Sat f.m.lg)(e:At P base gl ρ s.m f.m.hi w)(u:FrR z ρ nt s.fr a)
  (A:∀ c a' w',FrR z c nt f.fr a'->St P base ρ c s.m f.m w w'->Q .normal a' w'):(Code.region id ops true).wpIn (fw z.rd) 0 P Q a w:=by
 refine kZ l (A4N hr (fun w' k=>?_) (fun d=>?_) _)
 .have n:=A4x hm e.hr e.gr u;refine⟨fun o B t x hx=>?_,n.ap⟩;obtain⟨b,o',C,T,fz,sz,g,F,v,E⟩:=n.pl o B t x hx;exact⟨b,o',C,T,fz,sz,g,F,by show w'.heap[b]? = _;rw[k];exact v,E⟩
 .exact GN D ops.toList ρ s f a { w with drawn:=d } h y (e.drew d) u fun c a' w' f1 st=>⟨rfl,A c a' w' f1 st.undrew⟩
def gO(P:Program)(base gl:Nat)(call:P1):Prop :=
 P.follows .mixedOrders=true/\∀ (nt:Nat) (ops:Array Oper),IA ops=true->∀ (s b:S),p9 P nt gl call ops.toList ops.toList 0 (Y9 ops.toList []) [] [] s=some b->(s.m.hi<=b.m.hi/\s.m.lg.le b.m.lg) /\
  ∀ (z:Zn) (ρ:Ren) (a:Act) (w:World) (id:Nat) (Q:Exit->Act->World->Prop),Sat b.m.lg->At P base gl ρ s.m b.m.hi w->FrR z ρ nt s.fr a ->
   (∀ c a' w',FrR z c nt b.fr a'->St P base ρ c s.m b.m w w'->Q .normal a' w')->(Code.region id ops true).wpIn (fw z.rd) 0 P Q a w
def O6:∀ (q r:List Bool) (c:Code),G5 (q++r) c=(G5 q c).bind (G5 r)
 | [],r,c=>rfl
 | false::q,r,.seq a b=>O6 q r a
 | true::q,r,.seq a b=>O6 q r b
 | false::q,r,.cond _ a b=>O6 q r a
 | true::q,r,.cond _ a b=>O6 q r b
 | false::q,r,.block _ c=>O6 q r c
 | false::q,r,.loop c=>O6 q r c
 | false::q,r,.scope c=>O6 q r c
 | true::q,r,.scope c=>rfl
 | true::q,r,.block _ c=>rfl
 | true::q,r,.loop c=>rfl
 | b::q,r,.skip=>by cases b<;>rfl
 | b::q,r,.region _ _ _=>by cases b<;>rfl
 | false::q,r,.rangeFunc _ _ a _=>O6 q r a
 | true::q,r,.rangeFunc _ _ _ b=>O6 q r b
 | b::q,r,.exit _=>by cases b<;>rfl
 | b::q,r,.label _=>by cases b<;>rfl
 | b::q,r,.goto _=>by cases b<;>rfl
 | b::q,r,.ret=>by cases b<;>rfl
 | b::q,r,.refuse _=>by cases b<;>rfl
def I7{b:Bool}{body c d:Code}(h:G5 q body=some c)(a:G5 [b] c=some d):G5 (q++[b]) body=some d:=by
 rw[O6,h];exact a
structure L9 (P:Program) (base gl nt:Nat) (c:Code) (L:S->Option (Ex×S)):Prop where
 lg:∀ (s s':S) (e:Ex),L s=some (e,s')->s.m.hi<=s'.m.hi/\s.m.lg.le s'.m.lg
 ok:∀ (s s':S) (e:Ex),L s=some (e,s')->Sat s'.m.lg->∃ N,∀ (z:Zn) (ρ:Ren) (a:Act) (w:World) (Q:Exit->Act->World->Prop),At P base gl ρ s.m s'.m.hi w->FrR z ρ nt s.fr a ->
  (∀ ρ' a' w',FrR z ρ' nt s'.fr a'->St P base ρ ρ' s.m s'.m w w'->Q e.out a' w')->Code.roundsIn (fw z.rd) 0 P c Q N a w
def orL(a b:S->Option (Ex×S))(s:S):Option (Ex×S) :=
 match a s with
 | some r=>some r
 | none=>b s
def L9.or{nt:Nat}{c:Code}{a b:S->Option (Ex×S)}(l:L9 P base gl nt c a)(k:L9 P base gl nt c b):L9 P base gl nt c (orL a b):=by
 refine⟨fun s m e h=>?_,fun s m e h f=>?_⟩
 .unfold orL at h;split at h
  .rename_i r hr;cases h;exact l.lg _ _ _ hr
  .exact k.lg _ _ _ h
 .unfold orL at h;split at h
  .rename_i r hr;cases h;exact l.ok _ _ _ hr f
  .exact k.ok _ _ _ h f
def RP(P:Program)(base gl nt:Nat)(body:Code)(lp:LpT):Prop :=
 (∃ fn,P.funcs[lp.me]? = some fn/\fn.body=some body/\fn.ntmps=nt)/\∀ q x L,G5 q body=some (.loop x)->lp.look q=some L->L9 P base gl nt x L
def nQ{m m':Mem}{ab:AB}{k:Nat->Value}{v:Value}(h:Z4 m ab k=some (v,m')):v=k m.n/\m.hi<=m'.hi/\m'.lg=m.lg:=by
 obtain⟨_,a,rfl⟩:=M0 h;exact⟨a,(L3 _ _).1,rfl⟩
def nK{m m':Mem}{id:Nat}{ab:AB}(h:cQ m id ab=some m'):m'.hi=m.hi/\m'.lg=m.lg:=by
 obtain⟨_,rfl⟩:=U9 h;exact⟨rfl,rfl⟩
def vM{fr:Fr}{hi b:Nat}{r:Res}{e:Ex}{a:S}(h:rL fr hi b r=some (e,a)):∃ v m f q vs st m',r=some (v,m)/\Hp.get m.H b=some (.lp f q vs st)/\nEx st=some e/\hi<=m.hi/\cQ m b (.lp f q vs 3)=some m'/\a=⟨fr,m'⟩:=by
 unfold rL at h;split at h
 .rename_i v m;split at h
  .rename_i f q vs st c;split at h
   .rename_i k he;obtain⟨h1,h⟩:=A3 h;split at h
    .rename_i m' hm;cases h;exact⟨_,_,_,_,_,_,_,rfl,c,he,A1 h1,hm,rfl⟩
    .cases h
   .cases h
  .cases h
 .cases h
def yU{call:P1}{f:FuncId}{fr:Fr}{m:Mem}{e:Ex}{t:S}(h:cL P nt call f q g fr m=some (e,t)) :
  ∃ m1 k a b,Z4 m (.lp f q (frL fr 0 nt) 0) yv=some (yv m.n,m1)/\g=.func (.func k) a b/\sR P k=true/\rL fr m1.hi m.n ((call.fn k).run (a.toList++([yv m.n]++b.toList)) m1)=some (e,t):=by
 unfold cL at h;rw[I5]at h;split at h
 .rename_i v m1 l;have hv:=(nQ l).1;subst hv;have u:eM (yv m.n)=some m.n:=rfl;split at h
  .rename_i k as b c s;rw[u]at s;cases s;obtain⟨h1,h⟩:=A3 h;unfold xL at c;split at c
   .cases c;exact⟨m1,_,_,_,l,rfl,h1,h⟩
   .cases c
  .cases h
 .cases h
def oX{call:P1}(u:V7 P base gl call){f:FuncId}{fr:Fr}{m:Mem}{e:Ex}{c:S}(h:cL P nt call f q g fr m=some (e,c)):m.hi<=c.m.hi/\m.lg.le c.m.lg:=by
 obtain⟨m1,k,a,b,h1,_,_,s⟩:=yU h;obtain⟨v,m2,f,q,vs,st,m3,y,_,_,l,w,rfl⟩:=vM s
 have:=(u.fn k).lg _ _ _ _ y;obtain⟨g1,g2⟩:=nK w;obtain⟨_,t,n⟩:=nQ h1;refine⟨by show m.hi<=m3.hi;rw[g1];exact C6 t l,?_⟩;show m.lg.le m3.lg;rw[g2,<- n];exact this
def ES{call:P1}{f:FuncId}{x:XC}{s u:S}{e:Ex}(h:AW P nt call f q x s=some (e,u)):nt<=510 /\
  ((∃ k f0 l c,eM (s.fr.get 511)=some k/\Hp.get s.m.H k=some (.lp f0 l c 1)/\cL P nt call f q (x.run s.fr) s.fr s.m=some (e,u)) ∨
    (nW (s.fr.get 511)=true/\∃ m1,Z4 s.m (.dfr true) (fun b=>.pointer (some ⟨b,0,none⟩))=some (.pointer (some ⟨s.m.n,0,none⟩),m1) /\
      cL P nt call f q (x.run s.fr) (s.fr.set 510 (dv (s.m.n::iO (s.fr.get 510)))) m1=some (e,u))):=by
 unfold AW at h;obtain⟨fr,m⟩:=s;obtain⟨h1,h⟩:=A3 h;refine⟨A1 h1,?_⟩;split at h
 .rename_i k y;split at h
  .rename_i f0 l c A;exact .inl ⟨k,f0,l,c,y,A,h⟩
  .cases h
 .obtain⟨w,h⟩:=A3 h;refine .inr ⟨w,?_⟩;split at h
  .rename_i a m1 v;have hv:=(nQ v).1;cases hv;rw[I5]at h;have:wQ (sel 7) (sel 7) (sel 6) (dv (m.n::iO (fr.get 510))) fr (fun t=>cL P nt call f q (x.run fr) t m1)=cL P nt call f q (x.run fr) (fr.set 510 (dv (m.n::iO (fr.get 510)))) m1:=yG 510 _ _ _;rw[this]at h;exact⟨m1,v,h⟩
  .cases h
def XS{call:P1}(b:V7 P base gl call){f:FuncId}{x:XC}{s a:S}{e:Ex}(h:AW P nt call f q x s=some (e,a)):s.m.hi<=a.m.hi/\s.m.lg.le a.m.lg:=by
 obtain⟨_,⟨_,_,_,_,_,_,h⟩|⟨_,m1,c,h⟩⟩:=ES h
 .exact oX b h
 .have:=oX b h;obtain⟨_,k,l⟩:=nQ c;rw[l]at this;exact⟨C6 k this.1,this.2⟩
def UP(fr:Fr):∀ (n i j:Nat),(frL fr i n)[j]? = if j<n then some (fr.get (i+j))else none
 | 0,i,j=>by simp[frL]
 | n+1,i,0=>by simp[frL]
 | n+1,i,j+1=>by
   rw[frL,R6,UP fr n (i+1) j];have:i+1+j=i+(j+1):=A2;rw[this];by_cases h:j<n
   .rw[B0 h,B0 A2]
   .rw[A8 h,A8 A2]
def HP(fr:Fr):∀ (n i:Nat),(frL fr i n).length=n
 | 0,i=>rfl
 | n+1,i=>by simp[frL,HP fr n]
def FrR.list{ρ:Ren}{fr:Fr}{a:Act}(h:FrR z ρ nt fr a):LR ρ (frL fr 0 nt) a.tmps.toList:=by
 refine⟨by rw[HP];simpa using h.size.symm,fun i v v' h1 b=>?_⟩;rw[UP]at h1;split at h1
 .rename_i hi;cases h1
  have:=h.get i hi;rw[F5];have h3:a.tmps.getD i undef=v':=by
   have:a.tmps[i]? = some v':=by simpa using b
   simp[B8,this]
  rw[h3]at this;exact this
 .cases h1
def QS{k:FuncId}(h:sR P k=true):∃ fn c,P.funcs[k]? = some fn/\fn.body=some c:=by
 unfold sR at h;split at h
 .rename_i fn b;split at h
  .rename_i c a;exact⟨fn,c,by simpa using b,a⟩
  .cases h
 .cases h
def oS{k:FuncId}{args:W4}{w w':World}{v:Value}(h:sR P k=true):(callFunc k args).run P w≠.ok (.value v) w':=by
 obtain⟨fn,c,h1,b⟩:=QS h;by_cases a:fn.name = "runtime.NumGoroutine"
 .simp[callFunc,h1,a]
 .simp[callFunc,h1,a,b]
def jC{w:World}{l:Nat}{o:Obj}(h:l<w.heap.size):(w.putObj l o).heap.size=w.heap.size/\(w.putObj l o).heap[l]? = some o/\∀ k,k≠l->(w.putObj l o).heap[k]? = w.heap[k]? := ⟨by simp[World.putObj],World.putObj_heap_same h,fun k a=>World.putObj_heap_other a⟩
def yT{call:P1}(Z:V7 P base gl call){fn:Func}{body:Code}(f1:P.funcs[me]? = some fn)(f2:fn.body=some body)(f3:fn.ntmps=nt)(hq:G5 q body=some (.rangeFunc x ps as bd))
  {fr:Fr} {m:Mem} {e:Ex} {K:S} (h:cL P nt call me q g fr m=some (e,K)) (hS:Sat K.m.lg) {ρ:Ren} {a:Act} {w:World} {r:Loop} (u:At P base gl ρ m K.m.hi w) (hf:FrR z ρ nt fr a) (hg:VR ρ g (a.eval x))
  (hr:r.state=.ready/\r.pending=none/\r.tmps=a.tmps/\r.params=ps/\r.assign=as/\r.body=bd) {Q:Exit->Act->World->Prop}
  (hQ:∀ y w',FrR z y nt K.fr a->St P base ρ y m K.m w w'->Q e.out a w') :
  ∃ k args d,(resolve a.eval (rangeCall x w.heap.size) 0).run P (w.alloc (.loop r))=.ok d (w.alloc (.loop r))/\(invoke d.target d.args).run P (w.alloc (.loop r))=.ok (.enter k args) (w.alloc (.loop r)) /\
   CallsIn (fw z.rd) 0 P k args (w.alloc (.loop r)) (rangePost (fw z.rd) 0 P w.heap.size Q a):=by
 obtain⟨m1,k,A,B,h1,W,G,h2⟩:=yU h;obtain⟨v,m2,ff,qq,vs,st,m3,e1,e2,F,e4,e5,rfl⟩:=vM h2;obtain⟨g1,g2⟩:=nK e5;obtain⟨_,g3,g4⟩:=nQ h1;have O:Sat m2.lg:=by have:Sat m3.lg:=hS;rwa[g2]at this
 have f:K4 ρ m.n m3.hi:=u.fr;have hle:m1.hi<=m3.hi:=by rw[g1];exact e4
 obtain⟨r1,r2,r3,r4,r5,r6⟩:=hr;subst r4;subst r5;subst r6;have t:(w.alloc (.loop r)).heap=w.heap.push (.loop r):=rfl;have C:ρ m.n=none:=f m.n (A6 _) (by
  obtain⟨_,_,q⟩:=M0 h1;have:m1.hi=upN m.hi m.n:=by rw[q]
  have h3:=(L3 m.hi m.n).2;omega)
 obtain⟨_,k1,E⟩:=St.alloc (w':=w.alloc (.loop r)) (o:=.loop r) (l:=lc w.heap.size 0 0) u.hr u.bs h1 (f.less hle) ⟨rfl,rfl,rfl⟩ t rfl (by
  refine⟨⟨rfl,rfl⟩,r,by simp[t],⟨fn,body,x,f1,f2,hq,by rw[HP,f3]⟩,?_,⟨r1,r2⟩⟩;rw[r3];exact hf.list.mono (X4 C))
 have s:=u.step E;obtain⟨A,rfl⟩:∃ l:D2,A=⟨l⟩:=⟨A.toList,rfl⟩;obtain⟨B,rfl⟩:∃ l:D2,B=⟨l⟩:=⟨B.toList,rfl⟩;subst W;generalize Y:a.eval x=gx at hg;cases hg with
 | pure hp=>simp[I8]at hp
 | func ha L q1 q2 =>
   rename_i R M;have lA:LR ρ A R:=⟨ha,q1⟩;have lB:LR ρ B M:=⟨L,q2⟩;have hy:VR (upd ρ m.n (lc w.heap.size 0 0)) (yv m.n) (.func (.yield w.heap.size) #[] #[]):=VR.yv k1;have hl:=(lA.mono E.ext).append ((LR.cons hy .nil).append (lB.mono E.ext));refine⟨k,⟨R++([.func (.yield w.heap.size) #[] #[]]++M)⟩,{ target:=.fn (.func k) ⟨M⟩,args:=⟨R⟩++#[.func (.yield w.heap.size) #[] #[]] },?_,?_,?_⟩
   .show(Deferred.ofValue (a.eval x) _).run P _=_;rw[Y];simp[Deferred.ofValue,Act.eval]
   .have V:(callFunc k ⟨R++([.func (.yield w.heap.size) #[] #[]]++M)⟩).run P (w.alloc (.loop r))=.ok (.enter k ⟨R++([.func (.yield w.heap.size) #[] #[]]++M)⟩) (w.alloc (.loop r)):=by
     rcases(Z.fn k).ok _ m1 m2 _ _ _ v e1 O (s.less (by show m2.hi<=m3.hi;rw[g1];exact A6 _)) hl with⟨N,_⟩|⟨v',y,w',N,_⟩
     .exact N
     .exact absurd N (oS G)
    rw[<- V];show(callFunc k _).run P _=_;congr 2;apply J2;simp
   .rcases(Z.fn k).ok _ m1 m2 _ _ _ v e1 O (s.less (by show m2.hi<=m3.hi;rw[g1];exact A6 _)) hl with⟨_,c2⟩|⟨v',y,w',N,_⟩
    .refine pS.2 (c2.mono fun en w2 ⟨v',ρ2,he,hv,D⟩=>?_);subst he;have k2:=D.ext _ _ k1;obtain⟨b1,b2⟩:=D.hr.atl k2 e2;obtain⟨⟨b3,b4⟩,H,U,T⟩:=b1;have U:w2.heap[w.heap.size]? = some (.loop H):=U;have I:H.state≠.busy:=by
      have c:=T.st;intro L
      match st,c,F with
      | 0,c,_=>rw[L]at c;cases c.1
      | 2,c,_=>rw[L]at c;cases c.1
      | k+4,c,_=>rw[L]at c;cases c.1
     obtain⟨p1,p2,p3⟩:=jC (o:=.loop { H with state:=.exhausted }) (C9.1 U).1;have X:St P base ρ2 ρ2 m2 m3 w2 (w2.putObj w.heap.size (.loop { H with state:=.exhausted })):=St.write D.hr e5 e2 rfl k2 rfl ⟨rfl,rfl,rfl⟩ p1 p3 ⟨⟨rfl,rfl⟩,_,p2,T.code,T.fr,trivial⟩;have J:St P base ρ ρ2 m m3 w _:=St.trans f E (St.trans s.fr D X);have b:=hQ ρ2 _ (hf.mono J.ext) J;refine⟨H.pending,_,run_endLoop U I,?_⟩;have c:=T.st
     match st,c,F with
     | 0,c,F=>cases F;rw[show H.pending=none from c.2]at b ⊢;exact b
     | 2,c,F=>cases F;rw[show H.pending=some .ret from c.2]at b ⊢;exact wpIn_ret b
     | k+4,c,F=>cases F;rw[show H.pending=some (.exit k)from c.2]at b ⊢;exact wpIn_exit b
    .exact absurd N (oS G)
def A0f{call:P1}(L:V7 P base gl call){fn:Func}{body:Code}(f1:P.funcs[me]? = some fn)(f2:fn.body=some body)(f3:fn.ntmps=nt)(X:G5 q body=some (.rangeFunc x ps as bd))(hx:okX nt gl x=true)
  {s E:S} {e:Ex} {ρ:Ren} {a:Act} {w:World} {Q:Exit->Act->World->Prop} (h:AW P nt call me q (S5 x) s=some (e,E)) (W:Sat E.m.lg) (c:At P base gl ρ s.m E.m.hi w) (H:FrR z ρ nt s.fr a)
  (V:∀ u a' w',FrR z u nt E.fr a'->St P base ρ u s.m E.m w w'->Q e.out a' w'):(Code.rangeFunc x ps as bd).wpIn (fw z.rd) 0 P Q a w:=by
 obtain⟨J,h⟩:=ES h;refine wpIn_rangeFunc fun b _=>?_
 have hv:=H.ev c.gr hx;rcases h with⟨b0,f0,q0,az,hy,hg,h⟩|⟨hu,m1,B,h⟩
 .obtain⟨l0,e1,e2⟩:=(H.rd J).2 b0 hy;obtain⟨⟨_,Y,b1,_⟩,_⟩:=c.hr.atl e1 hg;have D:(Instr.enterLoop b a.tmps ps as bd (fw z.rd).round).run P w=.ok (w.heap.size,[]) (w.alloc (.loop { state:=.ready,pending:=none,fn:=b,tmps:=a.tmps,params:=ps,assign:=as,body:=bd,defers:=Y.defers })):=by
   show(Instr.enterLoop b a.tmps ps as bd z.rd).run P w=_;rw[e2];unfold Instr.enterLoop;simp only[A4,run_getLoop b1,run_newObj_alloc,Result.andThen,Sem.run_pure]
  rw[eL]at h;obtain⟨k,args,d,K,M,I⟩:=yT (r:={ state:=.ready,pending:=none,fn:=b,tmps:=a.tmps,params:=ps,assign:=as,body:=bd,defers:=Y.defers }) L f1 f2 f3 X h W c H hv ⟨rfl,rfl,rfl,rfl,rfl,rfl⟩ (Q:=Q) fun u w' g1 g2=>V u a w' g1 g2
  exact⟨_,_,_,d,_,k,args,_,D,K,fun _ _=>trivial,M,sU,I⟩
 .have N:=(H.rd J).1 hu;have v:K4 ρ s.m.n E.m.hi:=c.fr;have U:=oX L h;obtain⟨_,g3,g4⟩:=nQ B;have D:(Instr.enterLoop b a.tmps ps as bd (fw z.rd).round).run P w=.ok (w.heap.size+1,[{ target:=.collected w.heap.size,args:=#[] }]) ((w.alloc (.deferred (some []))).alloc (.loop { state:=.ready,pending:=none,fn:=b,tmps:=a.tmps,params:=ps,assign:=as,body:=bd,defers:=w.heap.size })):=by
   show(Instr.enterLoop b a.tmps ps as bd z.rd).run P w=_;rw[N];exact run_enterLoop_outer b a.tmps ps as bd
  have f:(w.alloc (.deferred (some []))).heap=w.heap.push (.deferred (some [])):=rfl;obtain⟨_,k1,A⟩:=St.alloc (w':=w.alloc (.deferred (some []))) (o:=.deferred (some [])) (l:=lc w.heap.size 0 0) c.hr c.bs B (v.less U.1) ⟨rfl,rfl,rfl⟩ f rfl ⟨⟨rfl,rfl⟩,_,by simp[f],fun _=>rfl⟩;have F:=c.step A;have T:(w.alloc (.deferred (some []))).heap.size=w.heap.size+1:=by simp[f]
  let a2:Act:={ a with defers:={ target:=.collected w.heap.size,args:=#[] }::a.defers }
  have O:FrR z (upd ρ s.m.n (lc w.heap.size 0 0)) nt (s.fr.set 510 (dv (s.m.n::iO (s.fr.get 510)))) a2:=by
   have y:=H.mono A.ext;have C:∀ t,t<512->t≠510->(s.fr.set 510 (dv (s.m.n::iO (s.fr.get 510)))).get t=s.fr.get t:=fun t h1 G=>by rw[M3 _ _ _ _ F0 h1,A8 G]
   refine⟨y.size,y.le,?_,fun _=>by rw[C 511 F0 F0];exact y.rd J,fun t Z=>by rw[C t A2 A2];exact y.get t Z⟩;obtain⟨ds,d1,d2⟩:=y.df;refine⟨{ target:=.collected w.heap.size,args:=#[] }::ds,by show _::a.defers=_;rw[d1];rfl,?_⟩;unfold dvG at d2 ⊢;have hb:Nat.ble nt 510=true:=C8 J;rw[hb]at d2 ⊢;rw[M3 _ _ _ _ F0 F0,B0 rfl];have hd:iO (dv (s.m.n::iO (s.fr.get 510)))=s.m.n::iO (s.fr.get 510):=by
    simp[iO,dv,A6i,Function.comp_def]
   simp only[E5,hd]at d2 ⊢;refine⟨by simp[d2.1],fun i id d h1 G=>?_⟩;cases i with
   | zero =>
     simp only[R5,D5]at h1 G;subst h1;subst G;exact⟨_,k1,rfl⟩
   | succ i=>exact d2.2 i id d (by simpa using h1) (by simpa using G)
  have R:VR (upd ρ s.m.n (lc w.heap.size 0 0)) ((S5 x).run s.fr) (a2.eval x):=by
   rw[eL];exact hv.mono A.ext
  obtain⟨k,args,d,K,M,I⟩:=yT (r:={ state:=.ready,pending:=none,fn:=b,tmps:=a.tmps,params:=ps,assign:=as,body:=bd,defers:=w.heap.size }) L f1 f2 f3 X h W F O R ⟨rfl,rfl,rfl,rfl,rfl,rfl⟩ (Q:=Q) fun u w' g1 g2=>V u a2 w' g1 (St.trans v A g2)
  rw[T]at K I;exact⟨_,_,_,d,_,k,args,_,D,K,fun _ _=>trivial,M,sU,I⟩
def zH{call:P1}{lp:LpT}{q:List Bool}{x:Code}(hx:∀ (s c:S) (e:Ex),(N6 P nt gl call lp q x).run s=some (e,c)->s.m.hi<=c.m.hi/\s.m.lg.le c.m.lg):∀ (n:Nat) (s c:S) (e:Ex),DM (N6 P nt gl call lp q x) n s=some (e,c)->s.m.hi<=c.m.hi/\s.m.lg.le c.m.lg
 | 0,s,c,e,h=>by cases h
 | n+1,s,c,e,h=>by
   unfold DM at h;split at h
   .rename_i s1 h1;have a:=hx _ _ _ h1;have b:=zH hx n _ _ _ h;exact⟨C6 a.1 b.1,a.2.trans b.2⟩
   .exact hx _ _ _ h
def zI{call:P1}{lp:LpT}{q:List Bool}{x:Code}{L:S->Option (Ex×S)}(hx:∀ (s c:S) (e:Ex),(N6 P nt gl call lp q x).run s=some (e,c)->s.m.hi<=c.m.hi/\s.m.lg.le c.m.lg)
  (f:∀ (s c:S) (e:Ex),L s=some (e,c)->s.m.hi<=c.m.hi/\s.m.lg.le c.m.lg):∀ (n:Nat) (s c:S) (e:Ex),DN (N6 P nt gl call lp q x) L n s=some (e,c)->s.m.hi<=c.m.hi/\s.m.lg.le c.m.lg
 | 0,s,c,e,h=>by cases h
 | n+1,s,c,e,h=>by
   unfold DN at h;split at h
   .rename_i r hr;cases h;exact f _ _ _ hr
   .split at h
    .rename_i s1 h1;have a:=hx _ _ _ h1;have b:=zI hx f n _ _ _ h;exact⟨C6 a.1 b.1,a.2.trans b.2⟩
    .exact hx _ _ _ h
def NE{c:XC}{a b:gS}{s l:S}{e:Ex}(h:NG c a b s=some (e,l)):∃ t lg,brL s.m.lg (c.run s.fr)=some (t,lg)/\(bif t then a.run ⟨s.fr,s.m.wLg lg⟩else b.run ⟨s.fr,s.m.wLg lg⟩)=some (e,l):=by
 obtain⟨fr,⟨H,n,W,hi,lg⟩⟩:=s;unfold NG at h;split at h
 .rename_i f;exact⟨true,lg,by rw[f];rfl,h⟩
 .rename_i f;exact⟨false,lg,by rw[f];rfl,h⟩
 .simp only at h;split at h
  .rename_i lg' k;exact⟨true,lg',k,h⟩
  .rename_i lg' k;exact⟨false,lg',k,h⟩
  .cases h
def T7{call:P1}{lp:LpT}{body:Code}(u:V7 P base gl call)(v:gO P base gl call)(l:RP P base gl nt body lp):∀ (c:Code) (q:List Bool),G5 q body=some c->∀ (s k:S) (e:Ex),(N6 P nt gl call lp q c).run s=some (e,k)->s.m.hi<=k.m.hi/\s.m.lg.le k.m.lg
 | .skip,q,f,s,k,e,h=>by have h:some (Ex.normal,s)=some (e,k):=h;cases h;exact⟨A6 _,.refl _⟩
 | .label _,q,f,s,k,e,h=>by have h:some (Ex.normal,s)=some (e,k):=h;cases h;exact⟨A6 _,.refl _⟩
 | .exit id,q,f,s,k,e,h=>by have h:some (Ex.exit id,s)=some (e,k):=h;cases h;exact⟨A6 _,.refl _⟩
 | .ret,q,f,s,k,e,h=>by have h:some (Ex.ret,s)=some (e,k):=h;cases h;exact⟨A6 _,.refl _⟩
 | .region id ops d,q,f,s,k,e,h=>by
   cases d with
   | false =>
     have h:Y7 (V1 P nt gl call ops.toList ops.toList) s=some (e,k):=h;unfold Y7 at h;split at h
     .rename_i s1 h1;cases h;exact⟨tU _ _ _ h1,lQ u _ _ _ h1⟩
     .cases h
   | true =>
     unfold N6 at h;simp only at h;cases f:IA ops with
     | false=>rw[f]at h;cases h
     | true =>
       rw[f]at h;have go:Y7 ⟨p9 P nt gl call ops.toList ops.toList 0 (Y9 ops.toList []) [] []⟩ s=some (e,k)->s.m.hi<=k.m.hi/\s.m.lg.le k.m.lg:=fun h=>by
        unfold Y7 at h;split at h
        .rename_i s1 h1;cases h;exact(v.2 nt ops f _ _ h1).1
        .cases h
       simp only[E5]at h;cases hr:lL ops.toList with
       | false=>rw[hr]at h;exact go h
       | true =>
         rw[hr]at h;simp only[E5]at h;cases hm:lW P nt gl s.fr s.m.H ops.toList with
         | false=>rw[hm]at h;exact go h
         | true =>
           rw[hm]at h;simp only[E5]at h;unfold Y7 at h;split at h
           .rename_i s1 h1;cases h;exact⟨tU _ _ _ h1,lQ u _ _ _ h1⟩
           .cases h
 | .seq x y,q,f,s,k,e,h=>by
   have w:=T7 u v l x (q++[false]) (I7 f rfl);have A:=T7 u v l y (q++[true]) (I7 f rfl);have h:A3O (N6 P nt gl call lp (q++[false]) x) (N6 P nt gl call lp (q++[true]) y) s=some (e,k):=h;unfold A3O at h;split at h
   .rename_i s1 h1;have a:=w _ _ _ h1;have b:=A _ _ _ h;exact⟨C6 a.1 b.1,a.2.trans b.2⟩
   .exact w _ _ _ h
 | .cond c x y,q,f,s,k,e,h=>by
   have w:=T7 u v l x (q++[false]) (I7 f rfl);have A:=T7 u v l y (q++[true]) (I7 f rfl);unfold N6 at h;cases f:okX nt gl c with
   | false=>rw[f]at h;cases h
   | true =>
     rw[f]at h;have h:NG (S5 c) (N6 P nt gl call lp (q++[false]) x) (N6 P nt gl call lp (q++[true]) y) s=some (e,k):=h;obtain⟨t,lg,h1,B⟩:=NE h;have C:=fM h1;obtain⟨fr,⟨H,n,W,hi,l0⟩⟩:=s;cases t with
     | true=>have a:=w _ _ _ B;exact⟨a.1,C.trans a.2⟩
     | false=>have b:=A _ _ _ B;exact⟨b.1,C.trans b.2⟩
 | .block id x,q,f,s,k,e,h=>by
   have w:=T7 u v l x (q++[false]) (I7 f rfl);have h:AY id (N6 P nt gl call lp (q++[false]) x) s=some (e,k):=h;unfold AY at h;split at h
   .rename_i j s1 h1
    have:=w _ _ _ h1;cases f:Nat.beq j id<;>rw[f]at h<;>cases h<;>exact this
   .exact w _ _ _ h
 | .loop x,q,f,s,k,e,h=>by
   have h:ND (N6 P nt gl call lp (q++[false]) x) (lp.look q) s=some (e,k):=h;unfold ND at h;split at h
   .rename_i L D;exact zI (T7 u v l x (q++[false]) (I7 f rfl)) (l.2 q x L f D).lg _ _ _ _ h
   .exact zH (T7 u v l x (q++[false]) (I7 f rfl)) _ _ _ _ h
 | .rangeFunc x _ _ _,q,f,s,k,e,h=>by
   unfold N6 at h;cases hx:okX nt gl x with
   | false=>rw[hx]at h;cases h
   | true=>rw[hx]at h;exact XS u h
 | .scope x,q,f,s,k,e,h=>T7 u v l x (q++[false]) (I7 f rfl) s k e h
 | .goto _,q,f,s,k,e,h=>by cases h
 | .refuse _,q,f,s,k,e,h=>by cases h
def T6{call:P1}{lp:LpT}{body:Code}(D:V7 P base gl call)(E:gO P base gl call)(l:RP P base gl nt body lp):∀ (c:Code) (q:List Bool),G5 q body=some c->∀ (ρ:Ren) (s f:S) (e:Ex) (a:Act) (w:World) (Q:Exit->Act->World->Prop),(N6 P nt gl call lp q c).run s=some (e,f)->Sat f.m.lg->At P base gl ρ s.m f.m.hi w->FrR z ρ nt s.fr a ->
  (∀ J a' w',FrR z J nt f.fr a'->St P base ρ J s.m f.m w w'->Q e.out a' w')->c.wpIn (fw z.rd) 0 P Q a w
 | .skip,q,C,ρ,s,f,e,a,w,Q,h,hS,b,v,A=>by have h:some (Ex.normal,s)=some (e,f):=h;cases h;exact wpIn_skip (A ρ a w v (.refl b.hr))
 | .label _,q,C,ρ,s,f,e,a,w,Q,h,hS,b,v,A=>by have h:some (Ex.normal,s)=some (e,f):=h;cases h;exact wpIn_label (A ρ a w v (.refl b.hr))
 | .exit id,q,C,ρ,s,f,e,a,w,Q,h,hS,b,v,A=>by have h:some (Ex.exit id,s)=some (e,f):=h;cases h;exact wpIn_exit (A ρ a w v (.refl b.hr))
 | .ret,q,C,ρ,s,f,e,a,w,Q,h,hS,b,v,A=>by have h:some (Ex.ret,s)=some (e,f):=h;cases h;exact wpIn_ret (A ρ a w v (.refl b.hr))
 | .region id ops d,q,C,ρ,s,f,e,a,w,Q,h,hS,b,v,A=>by
   cases d with
   | false =>
     have h:Y7 (V1 P nt gl call ops.toList ops.toList) s=some (e,f):=h;unfold Y7 at h;split at h
     .rename_i s1 h1;cases h;exact wJ (GN D _ ρ s f a w h1 hS b v A)
     .cases h
   | true =>
     unfold N6 at h;simp only at h;cases C:IA ops with
     | false=>rw[C]at h;cases h
     | true =>
       rw[C]at h;have go:Y7 ⟨p9 P nt gl call ops.toList ops.toList 0 (Y9 ops.toList []) [] []⟩ s=some (e,f)->(Code.region id ops true).wpIn (fw z.rd) 0 P Q a w:=fun h=>by
        unfold Y7 at h;split at h
        .rename_i s1 h1;cases h;exact(E.2 nt ops C _ _ h1).2 z ρ a w id Q hS b v A
        .cases h
       simp only[E5]at h;cases hr:lL ops.toList with
       | false=>rw[hr]at h;exact go h
       | true =>
         rw[hr]at h;simp only[E5]at h;cases hm:lW P nt gl s.fr s.m.H ops.toList with
         | false=>rw[hm]at h;exact go h
         | true =>
           rw[hm]at h;simp only[E5]at h;unfold Y7 at h;split at h
           .rename_i s1 h1;cases h;exact OY E.1 D hr hm h1 hS b v A
           .cases h
 | .seq x y,q,C,ρ,s,f,e,a,w,Q,h,hS,b,v,A=>by
   have B:G5 (q++[false]) body=some x:=I7 C rfl;have K:G5 (q++[true]) body=some y:=I7 C rfl;have h:A3O (N6 P nt gl call lp (q++[false]) x) (N6 P nt gl call lp (q++[true]) y) s=some (e,f):=h;unfold A3O at h;split at h
   .rename_i s1 h1;have hh:=T7 D E l y _ K _ _ _ h;refine wpIn_seq (T6 D E l x _ B ρ s s1 .normal a w _ h1 (S2.le hS hh.2) (b.less hh.1) v fun u G w1 f1 k=>?_);exact T6 D E l y _ K u s1 f e G w1 Q h hS (b.step k) f1 fun ρ2 a2 w2 f2 F=>A ρ2 a2 w2 f2 (St.trans b.fr k F)
   .rename_i I;refine wpIn_seq (T6 D E l x _ B ρ s f e a w _ h hS b v fun u G w1 f1 k=>?_)
    have:=A u G w1 f1 k;cases e with
    | normal=>exact absurd h (I f)
    | exit id=>exact this
    | ret=>exact this
 | .cond c x y,q,C,ρ,s,f,e,a,w,Q,h,hS,b,v,A=>by
   have B:G5 (q++[false]) body=some x:=I7 C rfl;have K:G5 (q++[true]) body=some y:=I7 C rfl;unfold N6 at h;cases O:okX nt gl c with
   | false=>rw[O]at h;cases h
   | true =>
     rw[O]at h;have h:NG (S5 c) (N6 P nt gl call lp (q++[false]) x) (N6 P nt gl call lp (q++[true]) y) s=some (e,f):=h;have hv:=v.ev b.gr O;obtain⟨t,lg,h1,V⟩:=NE h;rw[eL]at h1;have U:St P base ρ ρ s.m (s.m.wLg lg) w w:=St.wLg b.hr lg;cases t with
     | true =>
       have hh:=T7 D E l x _ B _ _ _ V;have Y:Sat lg:=S2.le hS (by obtain⟨fr,⟨H,n,W,hi,l0⟩⟩:=s;exact hh.2);exact wpIn_cond_true (mS h1 hv Y) (T6 D E l x _ B ρ ⟨s.fr,s.m.wLg lg⟩ f e a w Q V hS (b.wLg lg) v fun ρ2 a2 w2 f2 F=>A ρ2 a2 w2 f2 (St.trans b.fr U F))
     | false =>
       have hh:=T7 D E l y _ K _ _ _ V;have Y:Sat lg:=S2.le hS (by obtain⟨fr,⟨H,n,W,hi,l0⟩⟩:=s;exact hh.2);exact wpIn_cond_false (mS h1 hv Y) (T6 D E l y _ K ρ ⟨s.fr,s.m.wLg lg⟩ f e a w Q V hS (b.wLg lg) v fun ρ2 a2 w2 f2 F=>A ρ2 a2 w2 f2 (St.trans b.fr U F))
 | .block id x,q,C,ρ,s,f,e,a,w,Q,h,hS,b,v,A=>by
   have B:G5 (q++[false]) body=some x:=I7 C rfl;have h:AY id (N6 P nt gl call lp (q++[false]) x) s=some (e,f):=h;unfold AY at h;split at h
   .rename_i j s1 h1;cases M:Nat.beq j id with
    | true =>
      rw[M]at h;cases h;have X:=A0 M;refine wpIn_block (T6 D E l x _ B ρ s f (.exit j) a w _ h1 hS b v fun u G w1 f1 k=>?_)
      have:=A u G w1 f1 k
      simpa [Exit.inBlock,Ex.out,X]using this
    | false =>
      rw[M]at h;cases h;have X:j≠id:=fun e=>by subst e;simp at M
      refine wpIn_block (T6 D E l x _ B ρ s f (.exit j) a w _ h1 hS b v fun u G w1 f1 k=>?_)
      have:=A u G w1 f1 k
      simpa [Exit.inBlock,Ex.out,X]using this
   .rename_i I;refine wpIn_block (T6 D E l x _ B ρ s f e a w _ h hS b v fun u G w1 f1 k=>?_)
    have:=A u G w1 f1 k;cases e with
    | normal=>exact this
    | exit j=>exact absurd h (I j f)
    | ret=>exact this
 | .loop x,q,C,ρ,s,f,e,a,w,Q,h,hS,b,v,A=>by
   have B:G5 (q++[false]) body=some x:=I7 C rfl;replace h:ND (N6 P nt gl call lp (q++[false]) x) (lp.look q) s=some (e,f):=h;unfold ND at h;split at h
   .rename_i L hL;have R:=l.2 q x L C hL;have key:∀ (n:Nat) (s:S),DN (N6 P nt gl call lp (q++[false]) x) L n s=some (e,f)->∃ N,∀ (ρ:Ren) (a:Act) (w:World) (Q:Exit->Act->World->Prop),At P base gl ρ s.m f.m.hi w->FrR z ρ nt s.fr a ->
      (∀ J a' w',FrR z J nt f.fr a'->St P base ρ J s.m f.m w w'->Q e.out a' w')->Code.roundsIn (fw z.rd) 0 P x Q N a w:=by
     intro n;induction n with
     | zero=>intro s h;cases h
     | succ n Z =>
       intro s h;unfold DN at h;split at h
       .rename_i r hr;cases h;obtain⟨N,T⟩:=R.ok s f e hr hS;exact⟨N,T z⟩
       .split at h
        .rename_i s1 h1;obtain⟨N,T⟩:=Z s1 h;have hh:=zI (T7 D E l x _ B) R.lg _ _ _ _ h;refine⟨N+1,fun ρ a w Q b v A=>?_⟩;show x.wpIn (fw z.rd) 0 P (Exit.then (Code.roundsIn (fw z.rd) 0 P x Q N) Q) a w;refine T6 D E l x _ B ρ s s1 .normal a w _ h1 (S2.le hS hh.2) (b.less hh.1) v fun u G w1 f1 k=>?_
         exact T u G w1 Q (b.step k) f1 fun ρ2 a2 w2 f2 F=>A ρ2 a2 w2 f2 (St.trans b.fr k F)
        .rename_i I;refine⟨1,fun ρ a w Q b v A=>?_⟩;show x.wpIn (fw z.rd) 0 P (Exit.then (Code.roundsIn (fw z.rd) 0 P x Q 0) Q) a w;refine T6 D E l x _ B ρ s f e a w _ h hS b v fun u G w1 f1 k=>?_
         have:=A u G w1 f1 k;cases e with
         | normal=>exact absurd h (I f)
         | exit id=>exact this
         | ret=>exact this
    obtain⟨N,T⟩:=key _ s h;exact wpIn_loop_rounds N (T ρ a w Q b v A)
   obtain⟨n,h0⟩:∃ n,DM (N6 P nt gl call lp (q++[false]) x) n s=some (e,f):=⟨_,h⟩;clear h;have h:=h0;clear h0;refine wpIn_loop_rounds n ?_;induction n generalizing s ρ a w with
   | zero=>cases h
   | succ n Z =>
     unfold DM at h;show x.wpIn (fw z.rd) 0 P (Exit.then (Code.roundsIn (fw z.rd) 0 P x Q n) Q) a w;split at h
     .rename_i s1 h1;have hh:=zH (T7 D E l x _ B) _ _ _ _ h;refine T6 D E l x _ B ρ s s1 .normal a w _ h1 (S2.le hS hh.2) (b.less hh.1) v fun u G w1 f1 k=>?_
      exact Z u s1 G w1 (b.step k) f1 (fun ρ2 a2 w2 f2 F=>A ρ2 a2 w2 f2 (St.trans b.fr k F)) h
     .rename_i I;refine T6 D E l x _ B ρ s f e a w _ h hS b v fun u G w1 f1 k=>?_
      have:=A u G w1 f1 k;cases e with
      | normal=>exact absurd h (I f)
      | exit id=>exact this
      | ret=>exact this
 | .rangeFunc x ps as bd,q,C,ρ,s,f,e,a,w,Q,h,hS,b,v,A=>by
   unfold N6 at h;cases hx:okX nt gl x with
   | false=>rw[hx]at h;cases h
   | true =>
     rw[hx]at h;obtain⟨fn,f1,f2,f3⟩:=l.1;exact A0f D f1 f2 f3 C hx h hS b v A
 | .scope x,q,C,ρ,s,f,e,a,w,Q,h,hS,b,v,A=>NX (T6 D E l x _ (I7 C rfl) ρ s f e a w _ h hS b v fun u G w1 f1 k=>by cases e<;>exact A u G w1 f1 k)
 | .goto _,q,C,ρ,s,f,e,a,w,Q,h,hS,b,v,A=>by cases h
 | .refuse _,q,C,ρ,s,f,e,a,w,Q,h,hS,b,v,A=>by cases h
end
end
section
open Go
variable [Ora]
def uC{c:Hp AB}:∀ (l:List Nat) (H:Hp AB),(∀ b ∈ l,b<=I2)->∀ id,id<=I2->Hp.get (fB c H l) id=if id ∈ l then Hp.get c id else Hp.get H id
 | [],H,_,id,_=>by simp[fB]
 | b::r,H,hl,id,hid=>by
   have e:=hl b B5;rw[fB,eV,uC r _ (fun x hx=>hl x (C7 _ hx)) id hid,F1 _ _ _ _ e hid];by_cases h1:id ∈ r
   .rw[B0 h1,B0 (C7 _ h1)]
   .rw[A8 h1];by_cases a:id=b
    .subst a;rw[B0 rfl,B0 B5]
    .rw[A8 a,A8 (by simp[h1,a])]
theorem W3{l:H6}{b:Nat}:aC l b=true↔b ∈ l:=by
 unfold aC;rw[Q4];constructor
 .rintro⟨x,hx,h⟩;rw[A0 h];exact hx
 .intro h;exact⟨b,h,by simp⟩
def tX:∀ (l acc:List Nat) (b:Nat),b ∈ oR l acc↔b ∈ l∨b ∈ acc
 | [],acc,b=>by simp[oR]
 | x::r,acc,b=>by
   unfold oR;cases h:aC acc x with
   | true =>
     have hx:=W3.1 h;simp only[E5];rw[tX r acc b];constructor
     .rintro(h|h)
      .exact .inl (C7 _ h)
      .exact .inr h
     .rintro(h|h)
      .rcases B4.1 h with rfl|h
       .exact .inr hx
       .exact .inl h
      .exact .inr h
   | false =>
     simp only[E0];rw[tX r (x::acc) b];simp only[B4];constructor
     .rintro(h|h|h)
      .exact .inl (.inr h)
      .exact .inl (.inl h)
      .exact .inr h
     .rintro((h|h)|h)
      .exact .inr (.inl h)
      .exact .inl h
      .exact .inr (.inr h)
def uW{l:H6}(h:II l=true):∀ b ∈ l,b<=I2:=fun b a=>A1 (D6.1 h b a)
section
variable {P:Program} {base gl nt:Nat}
def GX{ρ y:Ren}{n:Nat}(f:∀ b l,b<n->y b=some l->ρ b=some l){v v':Value}(h:VR y v v'):∀ (d:Nat),g9 n d v=true->VR ρ v v':=by
 have A:∀ (low:Value->Bool) (a:List Value),oJ low a=true->∀ (i:Nat) (v:Value),a[i]? = some v->low v=true:=fun low a=>by
  induction a with
  | nil=>intro _ i v h;simp at h
  | cons x r t =>
    intro h i v hi;obtain⟨h1,m⟩:=B6 (show(low x && oJ low r)=true from h);cases i with
    | zero=>simp at hi;subst hi;exact h1
    | succ i=>exact t m i v (by simpa using hi)
 induction h with
 | pure h=>intro d _;exact .pure h
 | hole h J=>intro d _;exact .hole h J
 | junk h=>intro d _;exact .junk h
 | ixp h E hi K hv =>
   intro d e;cases d with
   | zero=>cases e
   | succ d =>
     obtain⟨g1,_⟩:=B6 e;obtain⟨g1,_⟩:=B6 (show(g9 n d _ && _)=true from g1);cases d with
     | zero=>cases g1
     | succ d=>exact .ixp (f _ _ (A1 g1) h) E hi K hv
 | dat h h1 m h3 D =>
   intro d e;cases d with
   | zero=>cases e
   | succ d =>
     obtain⟨g1,_⟩:=B6 e;obtain⟨g1,_⟩:=B6 (show(g9 n d _ && _)=true from g1);cases d with
     | zero=>cases g1
     | succ d=>exact .dat (f _ _ (A1 g1) h) h1 m h3 D
 | clp h h1 m h3 D H =>
   intro d e;cases d with
   | zero=>cases e
   | succ d =>
     obtain⟨g1,_⟩:=B6 e;obtain⟨g1,_⟩:=B6 (show(g9 n d _ && _)=true from g1);cases d with
     | zero=>cases g1
     | succ d=>exact .clp (f _ _ (A1 g1) h) h1 m h3 D H
 | own h h1 m =>
   intro d e;cases d with
   | zero=>cases e
   | succ d =>
     obtain⟨g1,_⟩:=B6 e;obtain⟨g1,_⟩:=B6 (show(g9 n d _ && _)=true from g1);cases d with
     | zero=>cases g1
     | succ d=>exact .own (h.imp (fun⟨l,w,a,b⟩=>⟨l,w,f _ _ (A1 g1) a,b⟩) fun⟨l,w,rows,a,b⟩=>⟨l,w,rows,f _ _ (A1 g1) a,b⟩) h1 m
 | dpt h h1 m =>
   intro d e;cases d with
   | zero=>cases e
   | succ d =>
     obtain⟨g1,_⟩:=B6 e;obtain⟨g1,_⟩:=B6 (show(g9 n d _ && _)=true from g1);cases d with
     | zero=>cases g1
     | succ d=>exact .dpt (let ⟨l,w,rows,a,s,c,k,h0,r⟩:=h;⟨l,w,rows,a,s,c,k,f _ _ (A1 g1) h0,r⟩) h1 m
 | opt h h1 m =>
   intro d e;cases d with
   | zero=>cases e
   | succ d =>
     obtain⟨g1,_⟩:=B6 e;obtain⟨g1,_⟩:=B6 (show(g9 n d _ && _)=true from g1);cases d with
     | zero=>cases g1
     | succ d=>exact .opt (let ⟨l,w,rows,k,h0,r⟩:=h;⟨l,w,rows,k,f _ _ (A1 g1) h0,r⟩) h1 m
 | ptr h=>intro d e;cases d with|zero=>cases e|succ d=>exact .ptr (f _ _ (A1 e) h)
 | sl h hm=>intro d e;cases d with|zero=>cases e|succ d=>exact .sl (f _ _ (A1 e) h) hm
 | op h hm F I=>intro d e;cases d with|zero=>cases e|succ d=>exact .op (f _ _ (A1 e) h) hm F I
 | opE E=>intro d _;exact .opE E
 | map h=>intro d e;cases d with|zero=>cases e|succ d=>exact .map (f _ _ (A1 e) h)
 | sdt h =>
   intro d e;cases d with
   | zero=>cases e
   | succ d =>
     obtain⟨g1,_⟩:=B6 e;obtain⟨g1,_⟩:=B6 (show(g9 n d _ && _)=true from g1);cases d with
     | zero=>cases g1
     | succ d=>exact .sdt (let ⟨l,a,b⟩:=h;⟨l,f _ _ (A1 g1) a,b⟩)
 | yv h =>
   intro d e;cases d with
   | zero=>cases e
   | succ d =>
     obtain⟨g1,_⟩:=B6 e;obtain⟨g1,_⟩:=B6 (show(g9 n d _ && _)=true from g1);cases d with
     | zero=>cases g1
     | succ d=>exact .yv (f _ _ (A1 g1) h)
 | func u G h1 m B C =>
   intro d e;cases d with
   | zero=>cases e
   | succ d =>
     obtain⟨g1,g2⟩:=B6 e;exact .func u G (fun i v v' a b=>B i v v' a b d (A _ _ g1 i v a)) (fun i v v' a b=>C i v v' a b d (A _ _ g2 i v a))
 | iface h t=>intro d e;cases d with|zero=>cases e|succ d=>exact .iface (t d e)
 | agg u h t=>intro d e;cases d with|zero=>cases e|succ d=>exact .agg u (fun i v v' a b=>t i v v' a b d (A _ _ e i v a))
 | tuple u h t=>intro d e;cases d with|zero=>cases e|succ d=>exact .tuple u (fun i v v' a b=>t i v v' a b d (A _ _ e i v a))
def A88{ρ A:Ren}{n:Nat}(B:∀ b l,b<n->A b=some l->ρ b=some l){ab:AB}{l:Loc}{w:World}(h:BR P A ab l w)(a:A4k n (some ab)=true):BR P ρ ab l w:=by
 cases ab with
 | cells cs T ro =>
   obtain⟨h0,C,fz,D,h1,k,h3⟩:=h;refine⟨h0,C,fz,D,h1,fun i v hi=>?_,h3⟩;obtain⟨v',g1,g2⟩:=k i v hi;have hv:g9 n 10 v=true:=by
    have e:oJ (g9 n 10) cs=true:=a;clear k g1 g2 a;induction cs generalizing i with
    | nil=>simp at hi
    | cons x r y =>
      obtain⟨m,u⟩:=B6 (show(g9 n 10 x && oJ (g9 n 10) r)=true from e);cases i with
      | zero=>simp at hi;subst hi;exact m
      | succ i=>exact y i (by simpa using hi) u
   exact⟨v',g1,GX B g2 10 hv⟩
 | mp c t T=>exact h
 | iter vs =>
   obtain⟨h0,s,J,h1,k⟩:=h;refine⟨h0,s,J,h1,k.1,fun i v v' g1 g2=>?_⟩;have hv:g9 n 10 v=true:=by
    have e:oJ (g9 n 10) vs=true:=a;clear k g2 a;induction vs generalizing i with
    | nil=>simp at g1
    | cons x r y =>
      obtain⟨m,u⟩:=B6 (show(g9 n 10 x && oJ (g9 n 10) r)=true from e);cases i with
      | zero=>simp at g1;subst g1;exact m
      | succ i=>exact y i (by simpa using g1) u
   exact GX B (k.2 i v v' g1 g2) 10 hv
 | lp f q vs st =>
   obtain⟨h0,r,h1,k⟩:=h;refine⟨h0,r,h1,k.code,⟨k.fr.1,fun i v v' g1 g2=>?_⟩,k.st⟩;have hv:g9 n 10 v=true:=by
    have e:oJ (g9 n 10) vs=true:=a;clear k g2 a;induction vs generalizing i with
    | nil=>simp at g1
    | cons x r y =>
      obtain⟨m,u⟩:=B6 (show(g9 n 10 x && oJ (g9 n 10) r)=true from e);cases i with
      | zero=>simp at g1;subst g1;exact m
      | succ i=>exact y i (by simpa using g1) u
   exact GX B (k.fr.2 i v v' g1 g2) 10 hv
 | dfr b=>exact h
 | sq c t T g ro =>
   obtain⟨wd,inf,h1,k,h3,G⟩:=SqR.ex h;refine⟨⟨wd,inf,h1,k,h3,G.imp (fun x=>x) fun⟨F,E⟩=>⟨F,?_⟩⟩⟩;obtain⟨C,fz,D,rows,lg,h1,k,h3,G,E,L,H,I,K⟩:=E;exact⟨C,fz,D,rows,lg,h1,k,h3,G,E,L,B _ _ (A1 a) H,I,K⟩
 | frz=>exact h
def LI{n:Nat}{H:Hp AB}:∀ {l:H6},PO n H l=true->∀ b ∈ l,A4k n (Hp.get H b)=true
 | [],_,b,h=>by cases h
 | x::r,h,b,a=>by
   obtain⟨h1,c⟩:=B6 (show(A4k n (Hp.get H x) && PO n H r)=true from h);rcases B4.1 a with rfl|a
   .exact h1
   .exact LI c b a
def B1P{ρ J:Ren}{m m1 m':Mem}{w w1:World}{v v':Value}(C:gcM m m1 v=some m')(st:St P base ρ J ⟨m.H,m.n,[],m.hi,m.lg⟩ m1 w w1)(A:At P base gl ρ m m'.hi w)(hv:VR J v v') :
  m'.hi=m1.hi/\∃ ρ2,VR ρ2 v v'/\St P base ρ ρ2 m m' w w1:=by
 have az:m1.n<=m1.hi:=st.nhi A.nh;have hle:m.hi<=m1.hi:=st.hle;have e:∀ b,b ∈ oR (m1.W.filter fun b=>Nat.blt b m.n || Nat.ble m1.hi b) []↔b ∈ m1.W/\(b<m.n∨m1.hi<=b):=fun b=>by
  rw[tX];simp only[P6,K7,or_false,J1];constructor
  .rintro⟨h1,s⟩;exact⟨h1,s.imp (fun h=>A1 h) (fun h=>A1 h)⟩
  .rintro⟨h1,s⟩;exact⟨h1,s.imp (fun h=>C8 h) (fun h=>C8 h)⟩
 unfold gcM at C;generalize hW:oR (m1.W.filter fun b=>Nat.blt b m.n || Nat.ble m1.hi b) []=W at C e;simp only[E9,I5,eK]at C;have hold:m1.hi=m'.hi->∀ b l,ρ b=some l->b<m.n∨m1.hi<=b:=fun he b l y=>by
  rcases G1 b m.n with h1|h1
  .exact .inl h1
  .rcases G1 b m1.hi with s|s
   .rw[A.fr b h1 (he▸s)]at y;cases y
   .exact .inr s
 have D:m1.hi=m'.hi->∀ id,id<=I2->id ∉ W->∀ ab,Hp.get m.H id=some ab->id ∉ m1.W/\Hp.get m1.H id=some ab:=fun he id hid Y ab c=>by
  obtain⟨l,h1,_,_⟩:=A.hr.at_ id hid ab c;have E:=hold he id l h1;have s:id ∉ m1.W:=fun h=>Y ((e id).2 ⟨h,E⟩)
  exact⟨s,by rw[st.same id hid s E];exact c⟩
 have G:∀ b ∈ W,∀ l,ρ b=some l->∃ ab,Hp.get m.H b=some ab/\ab.rw=true:=fun b y l u=>st.wrw b ((e b).1 y).1 (by simp) l u
 cases K:g9 m.n 10 v && PO m.n m1.H W with
 | true =>
   rw[K]at C;simp only[E5]at C;obtain⟨t,C⟩:=A3 C;cases C;obtain⟨q1,q2⟩:=B6 K;have t:=uW t;have E:∀ b l,b<m.n->J b=some l->ρ b=some l:=fun b l y u=>by
    cases h0:ρ b with
    | some l0=>rw[st.ext b l0 h0]at u;exact u
    | none=>have h:=(st.new b l u h0).1;exact absurd y (Nat.not_lt.2 h)
   have f:∀ id,id<=I2->Hp.get (fB m1.H m.H W) id=if id ∈ W then Hp.get m1.H id else Hp.get m.H id:=fun id hid=>uC W _ t id hid
   have F:∀ id,id<=I2->∀ ab,Hp.get (fB m1.H m.H W) id=some ab->Hp.get m1.H id=some ab:=fun id hid ab c=>by
    rw[f id hid]at c;by_cases h:id ∈ W
    .rw[B0 h]at c;exact c
    .rw[A8 h]at c;exact(D rfl id hid h ab c).2
   have X:=st.hr.sub F;have av:∀ id,id<=I2->∀ ab,Hp.get (fB m1.H m.H W) id=some ab->∀ l,J id=some l->ρ id=some l:=fun id hid ab c l u=>by
    cases h0:ρ id with
    | some l0=>rw[st.ext id l0 h0]at u;exact u
    | none =>
      exfalso;have hn:=st.new id l u h0;rw[f id hid]at c;by_cases h:id ∈ W
      .have:=((e id).1 h).2;have h1:m.n<=id:=hn.1;have s:=hn.2;omega
      .rw[A8 h]at c;obtain⟨l0,h1,_⟩:=A.hr.at_ id hid ab c;rw[h1]at h0;cases h0
   refine⟨rfl,ρ,GX E hv 10 q1,⟨fun _ _ h=>h,fun b k h1 s=>(by rw[h1]at s;cases s),A6 _,hle,fun h=>C6 h hle,⟨A.hr.dom,fun id hid ab c=>?_⟩,fun b y=>B7.2 (.inr y),fun b h1 s l u=>?_,fun k N y=>?_,st.size,st.os,fun b k h1 s=>(by rw[h1]at s;cases s),fun id hid h1 s=>?_,fun k ⟨id,a,q,hid,B,K,O⟩=>?_⟩⟩
   .obtain⟨l,g1,g2,g3⟩:=X.at_ id hid ab c;have u:=av id hid ab c l g1;refine⟨l,u,?_,fun V U=>⟨(g3 V U).1,fun Z R aw l2 f1 f2 f3=>(g3 V U).2 Z R aw l2 f1 (st.ext _ _ f2) f3⟩⟩;have au:=c;rw[f id hid]at c;by_cases h:id ∈ W
    .rw[B0 h]at c
     have:=LI q2 id h;rw[c]at this;exact A88 E g2 this
    .rw[A8 h]at c;obtain⟨l0,Q,e2,e3⟩:=A.hr.at_ id hid ab c;rw[u]at Q
     have:=A9 Q;subst this;refine e2.mono (fun _ _ h=>h) (fun k N=>st.keep k (e2.tc N) fun b y lb M ax heq=>?_);have T:b ∈ W:=(e b).2 ⟨y,hold rfl b lb M⟩;obtain⟨ar,c1,c2⟩:=G b T lb M
     have:=((A.hr.atl M c1).2 c2 ax).2 id hid ab l c u (heq▸N);subst this;exact h T
   .rcases B7.1 h1 with h|h
    .exact G b h l u
    .exact absurd h s
   .exact st.keep k N fun b L l u E=>y b (B7.2 (.inl ((e b).2 ⟨L,hold rfl b l u⟩))) l u E
   .show Hp.get (fB m1.H m.H W) id=_;rw[f id hid,A8 (fun h=>h1 (B7.2 (.inl h)))]
   .have B:Hp.get (fB m1.H m.H W) id=some a:=B;rw[f id hid]at B;by_cases h:id ∈ W
    .rw[B0 h]at B;exact st.tch k ⟨id,a,q,hid,B,st.ext _ _ K,O⟩
    .rw[A8 h]at B;exact .inr ⟨id,a,q,hid,B,K,O⟩
 | false =>
   rw[K]at C;simp only[E0]at C;generalize hI:(KH m.n m1.H 100000 (CD 10 v++wOf m1.H W) []).filter (fun b=>Nat.ble m.n b && Nat.blt b m1.hi)=I at C;have ay:∀ b ∈ I,m.n<=b/\b<m1.hi:=fun b y=>by
    subst hI;obtain⟨_,h⟩:=P6.1 y;obtain⟨h1,s⟩:=B6 h;exact⟨A1 h1,A1 s⟩
   obtain⟨t,C⟩:=A3 C;cases C;have t:=uW t;have f:∀ id,id<=I2->Hp.get (fB m1.H m.H (W++I)) id=if id ∈ W++I then Hp.get m1.H id else Hp.get m.H id:=fun id hid=>uC _ _ t id hid
   have F:∀ id,id<=I2->∀ ab,Hp.get (fB m1.H m.H (W++I)) id=some ab->Hp.get m1.H id=some ab:=fun id hid ab c=>by
    rw[f id hid]at c;by_cases h:id ∈ W++I
    .rw[B0 h]at c;exact c
    .rw[A8 h]at c;exact(D rfl id hid (fun hh=>h (B7.2 (.inl hh))) ab c).2
   refine⟨rfl,J,hv,⟨st.ext,st.new,st.nle,hle,fun _=>az,st.hr.sub F,fun b y=>B7.2 (.inr y),fun b h1 s l u=>?_,fun k N y=>?_,st.size,st.os,fun b l h1 s E=>?_,fun id hid h1 s=>?_,fun k ⟨id,a,q,hid,B,K,O⟩=>?_⟩⟩
   .rcases B7.1 h1 with h|h
    .exact G b h l u
    .exact absurd h s
   .exact st.keep k N fun b L l u E=>y b (B7.2 (.inl ((e b).2 ⟨L,hold rfl b l u⟩))) l u E
   .rcases st.blk b l h1 s E with h|⟨b0,h3,l0,h4,h5⟩
    .exact .inl h
    .exact .inr ⟨b0,B7.2 (.inl ((e b0).2 ⟨h3,hold rfl b0 l0 h4⟩)),l0,h4,h5⟩
   .show Hp.get (fB m1.H m.H (W++I)) id=_;rw[f id hid,A8];intro h;rcases B7.1 h with h|h
    .exact h1 (B7.2 (.inl h))
    .have:=ay id h;have s:id<m.n∨m1.hi<=id:=s;omega
   .have B:Hp.get (fB m1.H m.H (W++I)) id=some a:=B;rw[f id hid]at B;by_cases h:id ∈ W++I
    .rw[B0 h]at B;exact st.tch k ⟨id,a,q,hid,B,K,O⟩
    .rw[A8 h]at B;obtain⟨l0,Q,_⟩:=A.hr.at_ id hid a B;rw[st.ext _ _ Q]at K
     have:=A9 K;subst this;exact .inr ⟨id,a,l0,hid,B,Q,O⟩
def iQ:∀ (vs:List Value) (fr:Fr) (i t:Nat),i+vs.length<=512->t<512->(fN fr i vs).get t=if i<=t/\t<i+vs.length then vs.getD (t-i) undef else fr.get t
 | [],fr,i,t,_,_=>by simp[fN];intro h1 a;omega
 | v::r,fr,i,t,h,ht=>by
   simp only[E6]at h ⊢;rw[fN,yG,iQ r _ (i+1) t A2 ht,M3 _ _ _ _ A2 ht];by_cases h1:i+1<=t/\t<i+1+r.length
   .rw[B0 h1,B0 A2,show t-i=(t-(i+1))+1 by omega];rfl
   .rw[A8 h1];by_cases a:t=i
    .subst a;rw[B0 rfl,B0 A2,jX];rfl
    .rw[A8 a,A8 A2]
def WM(tmps:Array Value):ResultVar->Sem Value
 | .tmp t=>pure (tmps.getD t undef)
 | .cell a t=>do loadVar t (<- asAddr (tmps.getD a undef))
variable {z:Zn}
def SN{ρ:Ren}{s:S}{a:Act}{w:World}(h:HR P base ρ s.m.H w)(C:FrR z ρ nt s.fr a):∀ (rs:List ResultVar) (vs:List Value),WO P nt s rs=some vs->∃ b,LR ρ vs b /\
  (rs.mapM (WM a.tmps)).run P w=.ok b w
 | [],vs,hr=>by
   simp only[WO,D5]at hr;subst hr;exact⟨[],.nil,rfl⟩
 | r::rs,vs,hr=>by
   unfold WO at hr;split at hr
   .rename_i v A h1 D;cases hr;obtain⟨b,g1,g2⟩:=SN h C rs A D;have f:∃ v',VR ρ v v'/\(WM a.tmps r).run P w=.ok v' w:=by
     unfold B0W at h1;split at h1
     .rename_i t;obtain⟨u,k⟩:=A3 h1;cases k;exact⟨_,C.get t (A1 u),rfl⟩
     .rename_i c t;obtain⟨u,k⟩:=A3 h1;have hv:=C.get c (A1 u);split at k
      .rename_i F y;rw[y]at hv;obtain⟨l,E,_,e⟩:=O9 hv;obtain⟨v',B,n⟩:=LL h k E;exact⟨v',n,by simp[WM,e,asAddr,B]⟩
      .cases k
    obtain⟨v',B,n⟩:=f;refine⟨v'::b,.cons B g1,?_⟩;simp only[List.mapM_cons,A4,n,g2,Result.andThen,Sem.run_pure]
   .cases hr
def A4O{ρ:Ren}{fn:Func}{s:S}{a:Act}{w:World}{v:Value}(h:HR P base ρ s.m.H w)(y:FrR z ρ fn.ntmps s.fr a)(hr:WN fn P s=some v):∃ v',VR ρ v v'/\(results fn a.tmps).run P w=.ok v' w:=by
 unfold WN at hr;have key:∀ vs,WO P fn.ntmps s fn.results.toList=some vs->∃ b,LR ρ vs b/\(results fn a.tmps).run P w=.ok (if h:b.toArray.size=1 then b.toArray[0]else .tuple b.toArray) w:=fun vs f=>by
  obtain⟨b,g1,g2⟩:=SN h y _ vs f;refine⟨b,g1,?_⟩;have he:results fn a.tmps=(do let vs <- fn.results.mapM (WM a.tmps);pure (if h:vs.size=1 then vs[0]else .tuple vs)):=by
   unfold results;rfl
  have hm:(fn.results.mapM (WM a.tmps)).run P w=.ok b.toArray w:=by
   rw[fW];show(Sem.bind (fn.results.toList.mapM (WM a.tmps)) fun l=>Sem.pure l.toArray).run P w=_;have t:∀ (x:Sem D2) (k:D2->Sem W4),(Sem.bind x k).run P w=(x >>= k).run P w:=fun _ _=>rfl
   rw[t,A4,g2];rfl
  rw[he,A4,hm];rfl
 split at hr
 .rename_i u e;cases hr;obtain⟨b,g1,g2⟩:=key _ e;obtain⟨v',A,rfl,g3,g4⟩:=g1.tail;cases g4.nil_inv;exact⟨v',g3,g2⟩
 .rename_i vs c e;cases hr;obtain⟨b,g1,g2⟩:=key _ e;refine⟨.tuple ⟨b⟩,.tuple g1.1 g1.2,?_⟩;rw[g2,dif_neg];intro h1;have h1:b.length=1:=by simpa using h1
  have n:vs.length=1:=by rw[g1.1];exact h1
  obtain⟨x,rfl⟩:=List.length_eq_one_iff.1 n;exact c x rfl
 .cases hr
def IN(P:Program):Prop:=∀ (f:Nat) (fn:Func),P.funcs[f]? = some fn->(fn.name == "runtime.NumGoroutine")=false
def A2a{m m1 m':Mem}{v:Value}(a:gcM m m1 v=some m'):m'.lg=m1.lg:=by
 unfold gcM at a;simp only[E9,I5,eK]at a;cases c:g9 m.n 10 v && PO m.n m1.H (oR (m1.W.filter fun b=>Nat.blt b m.n || Nat.ble m1.hi b) [])with
 | true=>rw[c]at a;obtain⟨_,q⟩:=A3 a;cases q;rfl
 | false=>rw[c]at a;obtain⟨_,q⟩:=A3 a;cases q;rfl
def xW:∀ {l:H6} {m m':Mem},qK l m=some m'->m'.hi=m.hi/\m'.n=m.n/\m'.lg=m.lg
 | [],m,m',h=>by cases h;exact⟨rfl,rfl,rfl⟩
 | b::r,m,m',h=>by
   unfold qK at h;split at h
   .split at h
    .rename_i m1 hm;obtain⟨_,e⟩:=U9 hm;obtain⟨h1,a,h3⟩:=xW h;subst e;exact⟨h1,a,h3⟩
    .cases h
   .cases h
def UZ{fn:Func}{m m':Mem}{v:Value}(h:A9h fn P m r=some (v,m')):∃ e s m1,r=some (e,s)/\(e=.normal∨e=.ret)/\qK (dvG fn.ntmps s.fr) s.m=some m1/\WN fn P ⟨s.fr,m1⟩=some v/\gcM m m1 v=some m':=by
 have key:∀ (fr:Fr) (m0:Mem),(match qK (dvG fn.ntmps fr) m0 with
  | some m1=>match WN fn P ⟨fr,m1⟩with
    | some v=>match gcM m m1 v with
      | some m=>some (v,m)
      | none=>none
    | none=>none
  | none=>none)=some (v,m')->∃ m1,qK (dvG fn.ntmps fr) m0=some m1/\WN fn P ⟨fr,m1⟩=some v/\gcM m m1 v=some m':=fun fr m0 h=>by
  split at h
  .rename_i m1 h1;split at h
   .rename_i u f;split at h
    .rename_i m2 h3;cases h;exact⟨m1,h1,f,h3⟩
    .cases h
   .cases h
  .cases h
 unfold A9h at h;split at h
 .rename_i fr m1;obtain⟨m2,a,b,c⟩:=key _ _ h;exact⟨_,_,m2,rfl,.inl rfl,a,b,c⟩
 .rename_i fr m1;obtain⟨m2,a,b,c⟩:=key _ _ h;exact⟨_,_,m2,rfl,.inr rfl,a,b,c⟩
 .cases h
structure jV (P:Program) (base gl nt:Nat) (c:Code) (L:S->Option (Ex×S)):Prop where
 lg:∀ (s s':S) (e:Ex),L s=some (e,s')->s.m.hi<=s'.m.hi/\s.m.lg.le s'.m.lg
 ok:∀ (s s':S) (e:Ex),L s=some (e,s')->Sat s'.m.lg->∀ (z:Zn) (ρ:Ren) (a:Act) (w:World) (Q:Exit->Act->World->Prop),At P base gl ρ s.m s'.m.hi w->FrR z ρ nt s.fr a ->
  (∀ a' w',Q Ex.ret.out a' w'->Q Ex.normal.out a' w')->(∀ ρ' a' w',FrR z ρ' nt s'.fr a'->St P base ρ ρ' s.m s'.m w w'->Q e.out a' w')->c.wpIn (fw z.rd) 0 P Q a w
def jV.or{nt:Nat}{c:Code}{a b:S->Option (Ex×S)}(l:jV P base gl nt c a)(k:jV P base gl nt c b):jV P base gl nt c (orL a b):=by
 refine⟨fun s m e h=>?_,fun s m e h f=>?_⟩
 .unfold orL at h;split at h
  .rename_i r hr;cases h;exact l.lg _ _ _ hr
  .exact k.lg _ _ _ h
 .unfold orL at h;split at h
  .rename_i r hr;cases h;exact l.ok _ _ _ hr f
  .exact k.ok _ _ _ h f
def jV.code{nt:Nat}{c:Code}{call:P1}(k:V7 P base gl call)(l:gO P base gl call){lp:LpT}(b:RP P base gl nt c lp):jV P base gl nt c (N6 P nt gl call lp [] c).run :=
 ⟨fun _ _ _ h=>T7 k l b c [] rfl _ _ _ h,fun s t e h m z ρ a w Q f u _ n=>T6 (z:=z) k l b c [] rfl ρ s t e a w Q h m f u n⟩
def A5Y{fn:Func}{c:Code}{L:gS}(b:jV P base gl fn.ntmps c L.run){vs:D2}{m m':Mem}{v:Value}
  (hr:BB fn P L vs m=some (v,m')):m.lg.le m'.lg:=by
 unfold BB at hr;obtain⟨_,hr⟩:=A3 hr;obtain⟨e,s,m1,h1,_,f,h3,l⟩:=UZ hr;have a:OO L (fN fr0 0 vs) m=L.run ⟨fN fr0 0 vs,⟨m.H,m.n,[],m.hi,m.lg⟩⟩:=rfl;rw[a]at h1;have k:=(b.lg _ _ _ h1).2;rw[A2a l,(xW f).2.2];exact k
def DP{fn:Func}{tmps:W4}{R:Ending->World->Prop}{ρ:Ren}{hi:Nat}:∀ (ids:List Nat) (ds:List Deferred) (m md:Mem) (w:World),qK ids m=some md->DfR ρ ids ds->HR P base ρ m.H w->K4 ρ m.n md.hi ->
  (∀ w',St P base ρ ρ m md w w'->∃ v,(results fn tmps).run P w'=.ok v w'/\R (.returned v) w')->LeavesInM (fw none) 0 P fn tmps R ds .returning w
 | [],ds,m,md,w,h,hd,hr,hf,hR=>by
   cases h;have:ds=[]:=G4.1 hd.1.symm;subst this;exact hR w (.refl hr)
 | b::r,[],m,md,w,h,hd,hr,hf,hR=>by have:=hd.1;simp at this
 | b::r,d::ds,m,md,w,h,hd,hr,hf,hR=>by
   unfold qK at h;split at h
   .rename_i s;split at h
    .rename_i m1 hm;obtain⟨l,t,f⟩:=hd.2 0 b d rfl rfl;obtain⟨⟨⟨u,C⟩,x,k,E⟩,_⟩:=hr.atl t s
     have:=E rfl;subst this;obtain⟨y,F,D⟩:=jC (o:=.deferred none) (C9.1 k).1;have c:St P base ρ ρ m m1 w (w.putObj l.blk (.deferred none)):=St.write hr hm s rfl t u ⟨rfl,rfl,rfl⟩ y D ⟨⟨u,C⟩,_,F,fun h=>by cases h⟩;obtain⟨G,A⟩:=U9 hm;have B:m1.n=m.n:=by rw[A]
     refine⟨(by intro h;cases h),.inl ⟨l.blk,_,by rw[f];rfl,run_takeDeferred k,?_⟩⟩;exact DP (hi:=hi) r ds m1 md _ h ⟨by have:=hd.1;simpa using this,fun i id d a b=>hd.2 (i+1) id d (by simpa using a) (by simpa using b)⟩ c.hr (by rw[B];exact hf) fun w' e=>hR w' (St.trans hf c e)
    .cases h
   .cases h
def A3Q{f:FuncId}{fn:Func}{c:Code}{L:gS}(hf:P.funcs[f]? = some fn)(B:fn.body=some c)(R:(fn.name == "runtime.NumGoroutine")=false)(hL:jV P base gl fn.ntmps c L.run) :
  mY P base gl f ⟨BB fn P L⟩:=by
 refine⟨fun vs m m' v hr=>A5Y hL hr,?_⟩;intro ρ m m' w vs k v hr hS l hl;have hr:BB fn P L vs m=some (v,m'):=hr;unfold BB at hr;obtain⟨h1,hr⟩:=A3 hr;obtain⟨h1,T⟩:=B6 h1;have h1:=A1 h1;have T:=A1 T;left;constructor
 .have hn:fn.name ≠ "runtime.NumGoroutine":=by simpa using R
  simp[callFunc,hf,hn,B]
 .obtain⟨e,s,m1,A,he,M,K,a⟩:=UZ hr;have Q:OO L (fN fr0 0 vs) m=L.run ⟨fN fr0 0 vs,⟨m.H,m.n,[],m.hi,m.lg⟩⟩:=rfl;rw[Q]at A;have I:∀ t,vs.length<=t->t<512->(fN fr0 0 vs).get t=undef:=fun t k1 k2=>by
   rw[iQ _ _ _ _ A2 k2,A8 A2,HO]
  have V:FrR ⟨none,[]⟩ ρ fn.ntmps (fN fr0 0 vs) { tmps:=⟨k⟩++Array.replicate (fn.ntmps-(Array.mk k).size) undef,defers:=[] }:=by
   have hlen:=hl.1;refine⟨by simp;omega,T,⟨[],rfl,?_⟩,fun hn=>⟨fun _=>rfl,fun b B=>?_⟩,fun t ht=>?_⟩
   .unfold dvG;cases N:Nat.ble fn.ntmps 510 with
    | true =>
      have:=A1 N;rw[I 510 A2 F0];exact .nil
    | false=>exact .nil
   .rw[I 511 A2 F0]at B;cases B
   .rw[iQ _ _ _ _ A2 A2];by_cases G:t<vs.length
    .rw[B0 A2];have u:t<k.length:=A2
     have:=hl.2 t vs[t] k[t] (A5 G) (A5 u)
     simpa [B8,Array.getElem?_append,G,u,B2]using this
    .rw[A8 A2,HO];have u:¬ t<k.length:=A2;have:(({ toList:=k }:Array Value)++Array.replicate (fn.ntmps-(Array.mk k).size) undef).getD t undef=undef:=by
      simp[B8,Array.getElem?_append,u,hH];split<;>rfl
     rw[this];exact qF ρ
  have O:m1.hi=m'.hi:=by
   have a:=a;unfold gcM at a;simp only[E9,I5,eK]at a;cases N:g9 m.n 10 v && PO m.n m1.H (oR (m1.W.filter fun b=>Nat.blt b m.n || Nat.ble m1.hi b) [])with
   | true=>rw[N]at a;obtain⟨_,q⟩:=A3 a;cases q;rfl
   | false=>rw[N]at a;obtain⟨_,q⟩:=A3 a;cases q;rfl
  obtain⟨t1,t2,t3⟩:=xW M;have y:At P base gl ρ ⟨m.H,m.n,[],m.hi,m.lg⟩ s.m.hi w:=⟨l.hr,l.bs,fun b q1 q2=>l.fr b q1 (by rw[<- O,t1];exact q2),l.gr,l.nh,fun b B=>(by cases B),l.gf⟩;have X:Sat s.m.lg:=by rw[<- t3,<- A2a a];exact hS
  refine pS.1 (callsIn_of_wp_marks (F:=fw none) (n:=0) hf B trivial ?_ rfl);refine hL.ok _ s e A X ⟨none,[]⟩ ρ _ w _ y V (fun _ _ h=>h) fun Z U w1 f1 C=>?_
  obtain⟨ds,d1,d2⟩:=f1.df;have d1:U.defers=ds:=by rw[d1];simp
  have J:LeavesInM (fw none) 0 P fn U.tmps (A3f P base ρ m m' w v) U.defers .returning w1:=by
   rw[d1];have D:=y.step C;refine DP (base:=base) (ρ:=Z) (hi:=0) _ _ _ _ _ M d2 C.hr (by rw[t1];exact D.fr) fun w' E=>?_
   have Y:=St.trans (by have:=y.fr;rw[t1];exact this) C E;obtain⟨v',g1,g2⟩:=A4O (s:=⟨s.fr,m1⟩) E.hr f1 K;obtain⟨_,ρ2,g3,g4⟩:=B1P a Y l g1;exact⟨v',g2,v',ρ2,rfl,g3,g4⟩
  rcases he with rfl|rfl
  .exact J
  .exact J
def VJ{f:FuncId}{fn:Func}{c:Code}{call:P1}(m:P.funcs[f]? = some fn)(k:fn.body=some c)(b:(fn.name == "runtime.NumGoroutine")=false)(e:V7 P base gl call)(l:gO P base gl call){lp:LpT}(a:RP P base gl fn.ntmps c lp) :
  mY P base gl f ⟨BB fn P (N6 P fn.ntmps gl call lp [] c)⟩:=A3Q m k b (jV.code e l a)
def KN{ρ:Ren}{nt:Nat}(f:nt<=512):∀ (ps:List Tmp) (args b:List Value) (fr c:Fr) (tmps:Array Value),vN ps args fr=some c->LR ρ args b->(∀ t ∈ ps,t<nt)->tmps.size=nt->(∀ t,t<nt->VR ρ (fr.get t) (tmps.getD t undef)) ->
  ps.length=b.length/\((ps.zip b).foldl (fun tmps (t,a)=>tmps.setIfInBounds t a) tmps).size=nt/\(∀ t,t<nt->VR ρ (c.get t) (((ps.zip b).foldl (fun tmps (t,a)=>tmps.setIfInBounds t a) tmps).getD t undef))/\∀ t,nt<=t->t<512->c.get t=fr.get t
 | [],[],b,fr,c,tmps,h,hl,hp,hs,hg=>by
   cases h;rw[hl.nil_inv];exact⟨rfl,hs,hg,fun _ _ _=>rfl⟩
 | [],_::_,_,_,_,_,h,_,_,_,_=>by cases h
 | _::_,[],_,_,_,_,h,_,_,_,_=>by cases h
 | t::ps,v::vs,b,fr,c,tmps,h,hl,hp,hs,hg=>by
   obtain⟨v',n,rfl,h1,w⟩:=hl.tail;have k:t<nt:=hp t B5;have h:vN ps vs (fr.set t v)=some c:=by
    have e:vN (t::ps) (v::vs) fr=vN ps vs (fr.set t v):=GA t v fr (fun fr=>vN ps vs fr);rw[<- e];exact h
   obtain⟨y,m,s,A⟩:=KN f ps vs n (fr.set t v) c (tmps.setIfInBounds t v') h w (fun u hu=>hp u (C7 _ hu)) (by simp[hs]) (fun u hu=>by
    rw[M3 _ _ _ _ (D7 k f) (D7 hu f)];simp only[B8,G6];by_cases e:u=t
    .subst e;rw[B0 rfl,B0 rfl,B0 (by rw[hs];exact hu)];exact h1
    .rw[A8 e,A8 (fun h=>e h.symm)]
     have:=hg u hu
     simpa [B8]using this)
   refine⟨by simp[y],m,s,fun u h3 l=>?_⟩;rw[A u h3 l,M3 _ _ _ _ (D7 k f) l,A8 (fun e=>by subst e;exact absurd k (Nat.not_lt.2 h3))]
def vL{b:Nat}{v:Value}{m':Mem}(h:rE b r=some (v,m')):∃ e s f q vs,r=some (e,s)/\Hp.get s.m.H b=some (.lp f q vs 1)/\cQ s.m b (.lp f q vs (exN e))=some m'/\v=.bool (HH e):=by
 unfold rE at h;split at h
 .rename_i e fr m;split at h
  .rename_i f q vs a;rw[E9]at h;split at h
   .rename_i m1 hm;cases h;exact⟨e,⟨fr,m⟩,f,q,vs,rfl,a,hm,rfl⟩
   .cases h
  .cases h
 .cases h
def vK{b:Nat}{c:gS}{v:Value}{m':Mem}(h:rA b c r=some (v,m')):∃ s f q vs m1,r=some (.normal,s)/\Hp.get s.m.H b=some (.lp f q vs 0)/\cQ s.m b (.lp f q vs 1)=some m1/\rE b (c.run ⟨s.fr,m1⟩)=some (v,m'):=by
 unfold rA at h;split at h
 .rename_i fr m;split at h
  .rename_i f q vs a;split at h
   .rename_i m1 hm;exact⟨⟨fr,m⟩,f,q,vs,m1,rfl,a,hm,h⟩
   .cases h
  .cases h
 .cases h
def DA{C:Cx}{call:P1}{vs:D2}{m m':Mem}{v:Value}(h:(GH C call).run vs m=some (v,m')):∃ b args f q a fn body x ps as bd fr,vs=yv b::args/\Hp.get m.H b=some (.lp f q a 0)/\C.P.funcs[f]? = some fn/\fn.body=some body/\G5 q body=some (.rangeFunc x ps as bd) /\
  fn.ntmps<=510/\(∀ t ∈ ps.toList,t<fn.ntmps)/\vN ps.toList args (fN fr0 0 a)=some fr /\
  rA b (N6 C.P fn.ntmps C.gl call (C.lp f) (q++[true]) bd) ((N6 C.P fn.ntmps C.gl call (C.lp f) (q++[false]) as).run ⟨fr.set 511 (yv b),m⟩)=some (v,m'):=by
 unfold GH at h;simp only at h;split at h
 .cases h
 .rename_i u args;split at h
  .cases h
  .rename_i b s
   have:=CJ s;subst this;split at h
   .rename_i f q a A;split at h
    .cases h
    .rename_i fn B;split at h
     .cases h
     .rename_i body c;split at h
      .rename_i x ps as bd y;obtain⟨h1,h⟩:=A3 h;obtain⟨h1,n⟩:=B6 h1;split at h
       .rename_i fr l;refine⟨b,args,f,q,a,fn,body,x,ps,as,bd,fr,rfl,A,by simpa using B,c,y,A1 h1,fun t w=>A1 (D6.1 n t w),l,?_⟩;have e:∀ (k:Fr->Res),wQ (sel 7) (sel 7) (sel 7) (yv b) fr k=k (fr.set 511 (yv b)):=fun k=>GA 511 (yv b) fr k
        rw[e]at h;exact h
       .cases h
      .cases h
   .cases h
def A0Q{C:Cx}{call:P1}(N:V7 C.P base C.gl call)(O:gO C.P base C.gl call)(s:∀ f fn body,C.P.funcs[f]? = some fn->fn.body=some body->RP C.P base C.gl fn.ntmps body (C.lp f)):A9y C.P base C.gl (GH C call):=by
 refine⟨fun vs m m' v h=>?_,fun ρ m m' w b args c v l h hS y hl J=>?_⟩
 .obtain⟨b,args,f,q,Q,fn,body,x,ps,as,bd,fr,rfl,_,h1,G,h3,_,_,_,h⟩:=DA h;obtain⟨s1,f2,q2,aq,m2,g1,_,g3,h⟩:=vK h;obtain⟨e,s2,f3,q3,ar,Z,_,k3,_⟩:=vL h;have a1:=(T7 N O (s f fn body h1 G) as (q++[false]) (I7 h3 rfl) _ _ _ g1).2;have a2:=(T7 N O (s f fn body h1 G) bd (q++[true]) (I7 h3 rfl) _ _ _ Z).2;rw[(nK k3).2];have a2:m2.lg.le s2.m.lg:=a2;rw[(nK g3).2]at a2;exact a1.trans a2
 .obtain⟨b',au,f,q,Q,fn,body,x,ps,as,bd,fr,e0,hg,h1,G,h3,h4,h5,h6,h⟩:=DA h;cases e0;obtain⟨s1,f2,q2,aq,m2,g1,g2,g3,h⟩:=vK h;obtain⟨e,s2,f3,q3,ar,Z,k2,k3,rfl⟩:=vL h;have c1:=T7 N O (s f fn body h1 G) as (q++[false]) (I7 h3 rfl) _ _ _ g1;have c2:=T7 N O (s f fn body h1 G) bd (q++[true]) (I7 h3 rfl) _ _ _ Z;obtain⟨j1,j2⟩:=nK g3;obtain⟨j3,j4⟩:=nK k3;have W:Sat s2.m.lg:=by rw[<- j4];exact hS
  have ax:Sat s1.m.lg:=by rw[<- j2];exact S2.le W c2.2
  have ao:m2.hi<=s2.m.hi:=c2.1;obtain⟨⟨⟨Y,b2⟩,r,b3,b4⟩,_⟩:=y.hr.atl J hg;obtain⟨an,aw,x',e1,e2,e3,e4⟩:=b4.code;rw[h1]at e1;cases e1;rw[G]at e2;cases e2;rw[h3]at e3;cases e3;have hlen:=b4.fr.1;have ay:∀ t,Q.length<=t->t<512->(fN fr0 0 Q).get t=undef:=fun t q1 q2=>by
   rw[iQ _ _ _ _ A2 q2,A8 A2,HO]
  obtain⟨p1,p2,p3,p4⟩:=KN (ρ:=ρ) (nt:=fn.ntmps) A2 r.params.toList args c (fN fr0 0 Q) fr r.tmps h6 hl h5 (by simpa [e4]using hlen.symm) (fun t ht=>by
   rw[iQ _ _ _ _ A2 A2,B0 A2];have X:t<Q.length:=A2;have B:t<r.tmps.toList.length:=A2
   have:=b4.fr.2 t Q[t] _ (A5 X) (A5 B);have U:t<r.tmps.size:=by simpa using B
   simpa [B8,X,U,B2]using this)
  have I:(r.params.zip ⟨c⟩).foldl (fun tmps (t,a)=>tmps.setIfInBounds t a) r.tmps=(r.params.toList.zip c).foldl (fun tmps (t,a)=>tmps.setIfInBounds t a) r.tmps:=by
   rw[<- Array.foldl_toList];simp
  refine⟨r.fn,_,r.assign,r.body,run_yield b3 (by show c.length=_;rw[<- p1];simp),?_⟩;rw[I];refine roundIn_of_wpIn (F:=Fence.wide) (n:=0) trivial ?_;have D:∀ t,t<511->(fr.set 511 (yv b)).get t=fr.get t:=fun t ht=>by rw[M3 _ _ _ _ F0 A2,A8 A2]
  have az:FrR ⟨some l.blk,[]⟩ ρ fn.ntmps (fr.set 511 (yv b)) { tmps:=(r.params.toList.zip c).foldl (fun tmps (t,a)=>tmps.setIfInBounds t a) r.tmps,defers:=[] }:=by
   refine⟨p2,A2,⟨[],rfl,?_⟩,fun _=>?_,fun t ht=>by rw[D t A2];exact p3 t ht⟩
   .unfold dvG;rw[D 510 F0,p4 510 h4 F0,ay 510 A2 F0];cases Nat.ble fn.ntmps 510<;>exact .nil
   .rw[M3 _ _ _ _ F0 F0,B0 rfl];refine⟨fun hu=>(by cases hu),fun b0 T=>?_⟩;have:b0=b:=by
     have:eM (yv b)=some b:=rfl;rw[this]at T;exact(A9 T).symm
    subst this;exact⟨l,J,rfl⟩
  have K:K4 ρ m.n m'.hi:=y.fr;refine T6 (z:=⟨some l.blk,[]⟩) N O (s f fn body h1 G) r.assign (q++[false]) (I7 h3 rfl) ρ ⟨fr.set 511 (yv b),m⟩ s1 .normal _ w _ g1 ax (y.less (by rw[j3];omega)) az fun L a1 w1 f1 u=>?_
  have M:=u.ext _ _ J;obtain⟨⟨⟨_,_⟩,r2,d3,d4⟩,_⟩:=u.hr.atl M g2;obtain⟨o1,o2,o3⟩:=jC (o:=.loop { r2 with state:=.busy }) (C9.1 d3).1;have R:St C.P base L L s1.m m2 w1 (w1.putObj l.blk (.loop { r2 with state:=.busy })):=St.write u.hr g3 g2 rfl M Y ⟨rfl,rfl,rfl⟩ o1 o3 ⟨⟨Y,b2⟩,_,o2,d4.code,d4.fr,rfl⟩;refine⟨_,run_beginRound d3 d4.st.1,?_⟩;have E:=(y.step u);have H:=E.step R;refine T6 (z:=⟨some l.blk,[]⟩) N O (s f fn body h1 G) r.body (q++[true]) (I7 h3 rfl) L ⟨s1.fr,m2⟩ s2 e _ _ _ Z W (H.less (by rw[j3];exact A6 _)) f1 fun ρ2 a2 w3 f3 A=>?_
  have V:=A.ext _ _ M;obtain⟨⟨⟨_,_⟩,r3,d5,d6⟩,_⟩:=A.hr.atl V k2;have fin:∀ (jump:Option Code),StR (exN e) (if jump.isNone then .ready else .done) jump->jump.isNone=HH e->∃ v w',(Instr.endRound l.blk jump).run C.P w3=.ok v w'/\A3f C.P base ρ m m' w (.bool (HH e)) (.returned v) w':=fun jump hj he=>by
   refine⟨_,_,run_endRound jump d5,?_⟩;obtain⟨o4,o5,o6⟩:=jC (o:=.loop { r3 with state:=if jump.isNone then .ready else .done,pending:=jump }) (C9.1 d5).1;have av:St C.P base ρ2 ρ2 s2.m m' w3 (w3.putObj l.blk (.loop { r3 with state:=if jump.isNone then .ready else .done,pending:=jump })):=St.write A.hr k3 k2 rfl V Y ⟨rfl,rfl,rfl⟩ o4 o6 ⟨⟨Y,b2⟩,_,o5,d6.code,d6.fr,hj⟩;exact⟨_,ρ2,rfl,by rw[he];exact .pure rfl,St.trans K u (St.trans E.fr R (St.trans H.fr A av))⟩
  cases e with
  | normal=>exact fin none ⟨rfl,rfl⟩ rfl
  | ret=>exact fin (some .ret) ⟨rfl,rfl⟩ rfl
  | exit k=>exact fin (some (.exit k)) ⟨rfl,rfl⟩ rfl
structure A5o (C:Cx) (base:Nat):Prop where
 names:IN C.P
 ext:∀ f k fn,C.P.funcs[f]? = some fn->fn.body=none->MN C.ext f=some k->mY C.P base C.gl f ⟨pL k⟩
 con:∀ f c,C.con f=some c->mY C.P base C.gl f c
 lp:∀ f fn body,C.P.funcs[f]? = some fn->fn.body=some body->RP C.P base C.gl fn.ntmps body (C.lp f)
 draws:∀ call,V7 C.P base C.gl call->gO C.P base C.gl call
def nP(f:FuncId):mY P base gl f ⟨fun _ _=>none⟩:=⟨fun vs m m' v hr=>(by cases hr),fun ρ m m' w vs a v hr=>(by cases hr)⟩
def A4Z:A9y P base gl ⟨fun _ _=>none⟩:=⟨fun vs m m' v hr=>(by cases hr),fun ρ m m' w b args a v l hr=>(by cases hr)⟩
def AU{C:Cx}(h:A5o C base):∀ (d:Nat),V7 C.P base C.gl (wD C d)
 | 0=>⟨fun f=>nP f,A4Z⟩
 | d+1=>by
   have e:=AU h d;refine⟨fun f=>?_,A0Q e (h.draws _ e) h.lp⟩;show mY C.P base C.gl f (ER C (wD C d) f);unfold ER;split
   .exact nP f
   .rename_i fn a;have a:C.P.funcs[f]? = some fn:=by simpa using a
    split
    .rename_i c b;exact h.con f c b
    .split
     .rename_i l;split
      .rename_i k m;exact h.ext f k fn a l m
      .exact nP f
     .rename_i c l;exact VJ (gl:=C.gl) a l (h.names f fn a) e (h.draws _ e) (h.lp f fn c a l)
end
end
section
open Go
variable [Ora]
def IM(P:Program)(nt gl:Nat)(call:P1)(all:List Oper)(b:List Nat)(rs:List Rec)(c:Bool)(o:Oper)(fr e:Fr)(m m2:Mem)(v:Value):Prop :=
 AL nt o.dst=true/\PI nt gl o.op=true/\e=wS o.dst v fr /\
 ((c=false/\∃ lg,bO nt fr m.lg all o=some (false,lg)/\v=undef/\m2=m.wLg lg) ∨
   (c=false/\∃ lg a,bO nt fr m.lg all o=some (true,lg)/\lN fr (m.wLg lg) o b rs (W9 P call o)=some (v,a)/\m2=m.wLg a) ∨
   (c=true/\∃ lg,bO nt fr m.lg all o=some (true,lg)/\(W9 P call o).run fr (m.wLg lg)=some (v,m2)/\m.hi<=m2.hi) ∨
   (c=false/\aT o.op=false/\∃ lg,bO nt fr m.lg all o=some (true,lg)/\∃ mv m',CL (m.wLg lg) (B1r fr o.op) (DK b rs)=some mv/\(W9 P call o).run fr mv=some (v,m')/\m'.W=[]/\m.hi<=m'.hi/\lU (m.wLg lg) m'=some m2))
def XO{α:Type}{c:Bool}{x:Option α}{y:α}(h:(bif c then none else x)=some y):c=false/\x=some y:=by cases c<;>first|exact⟨rfl,h⟩|cases h
def eE(nt:Nat)(all:List Oper)(op:OpC)(b:List Nat)(rs:List Rec)(fr:Fr)(o:Oper)(m m2:Mem)(v:Value)(r:Option (Nat×AB)):Prop :=
 (∃ lg,bO nt fr m.lg all o=some (false,lg)/\v=undef/\m2=m.wLg lg/\r=none)∨(∃ lg a,bO nt fr m.lg all o=some (true,lg)/\lN fr (m.wLg lg) o b rs op=some (v,a)/\m2=m.wLg a/\r=MG m.H fr o.op)
def QsN(e:Bool)(i nt:Nat)(all:List Oper)(op:OpC)(b:List Nat)(rs:List Rec)(fr:Fr)(o:Oper)(m m2:Mem)(v:Value)(c a:Qs):Prop :=
 (e=true/\a=c/\A10 b m2.H c=true)∨(e=false/\a=c)∨(e=false/\∃ r,a=(i,r)::c/\eE nt all op b rs fr o m m2 v r)
def A3d(P:Program)(nt gl:Nat)(call:P1)(all:List Oper)(r:List Oper)(i:Nat)(bs:List H6)(rs:List Rec)(b:Qs)(s a:S):Prop :=
  ∃ (F:Nat->Fr) (M:Nat->Mem) (V:Nat->Value) (R:Nat->List Rec) (X:Nat->Qs) (B:Nat->Bool),F i=s.fr/\M i=s.m/\R i=rs/\X i=b/\F (i+r.length)=a.fr/\M (i+r.length)=a.m /\
   ∀ j o,r[j]? = some o->IM P nt gl call all (bs.getD j []) (R (i+j)) (B (i+j)) o (F (i+j)) (F (i+j+1)) (M (i+j)) (M (i+j+1)) (V (i+j))/\(B (i+j)=true->JU o.op (i+j) (bs.getD j []) (bs.drop (j+1)) (r.drop (j+1)) (X (i+j))=true) /\
    ((R (i+j+1)=R (i+j)/\∃ lg,M (i+j+1)=(M (i+j)).wLg lg)∨(B (i+j)=true/\R (i+j+1)=[])∨R (i+j+1)=⟨i+j,(M (i+j)).n,(M (i+j+1)).n⟩::R (i+j)) /\
    QsN (B (i+j)) (i+j) nt all (W9 P call o) (bs.getD j []) (R (i+j)) (F (i+j)) o (M (i+j)) (M (i+j+1)) (V (i+j)) (X (i+j)) (X (i+j+1))
def A5t{P:Program}{nt gl:Nat}{call:P1}{all:List Oper}:∀ (r:List Oper) (i:Nat) (bs:List H6) (rs:List Rec) (e:Qs) (s k:S),p9 P nt gl call all r i bs rs e s=some k->A3d P nt gl call all r i bs rs e s k
 | [],i,bs,rs,e,s,k,h=>by
   have h:some s=some k:=by cases bs<;>exact h
   cases h;exact⟨fun _=>s.fr,fun _=>s.m,fun _=>undef,fun _=>rs,fun _=>e,fun _=>false,rfl,rfl,rfl,rfl,rfl,rfl,fun j o y=>by simp at y⟩
 | o::r,i,[],rs,e,s,k,h=>by obtain⟨fr,m⟩:=s;cases h
 | o::r,i,b::bs,rs,e,⟨fr,⟨H0,n0,W0,hi0,lg0⟩⟩,k,h=>by
   generalize u:(⟨H0,n0,W0,hi0,lg0⟩:Mem)=m at h;have glue:∀ (w:Bool),(w=true->JU o.op i b bs r e=true)->∀ (v:Value) (m2:Mem) (a:List Rec) (f:Qs),IM P nt gl call all b rs w o fr (wS o.dst v fr) m m2 v->((a=rs/\∃ lg,m2=m.wLg lg)∨(w=true/\a=[])∨a=⟨i,m.n,m2.n⟩::rs)->QsN w i nt all (W9 P call o) b rs fr o m m2 v e f->p9 P nt gl call all r (i+1) bs a f ⟨wS o.dst v fr,m2⟩=some k->A3d P nt gl call all (o::r) i (b::bs) rs e ⟨fr,m⟩ k:=fun w G v m2 a f H K N A=>by
    obtain⟨F,M,V,R,X,B,f1,f2,f3,L,f4,f5,f6⟩:=A5t r (i+1) bs a f _ k A;refine⟨fun j=>if j<=i then fr else F j,fun j=>if j<=i then m else M j,fun j=>if j<=i then v else V j,fun j=>if j<=i then rs else R j,fun j=>if j<=i then e else X j,fun j=>if j<=i then w else B j,by simp,by simp,by simp,by simp,?_,?_,?_⟩
    .simp only[E6];rw[A8 A2,show i+(r.length+1)=i+1+r.length by omega];exact f4
    .simp only[E6];rw[A8 A2,show i+(r.length+1)=i+1+r.length by omega];exact f5
    .intro j o' y;cases j with
     | zero =>
       simp at y;subst y;simp only[jZ,A6,if_true,Nat.not_succ_le_self,if_false,f1,f2,f3,L];exact⟨H,G,K,N⟩
     | succ j =>
       have E:r[j]? = some o':=by simpa using y
       have:=f6 j o' E;simp only[show ¬ i+(j+1)<=i by omega,show ¬ i+(j+1)+1<=i by omega,if_false];rw[show i+(j+1)=i+1+j by omega]
       simpa using this
   subst u;unfold p9 at h;split at h
   .rename_i lg hw J;obtain⟨d1,d2⟩:=B6 J;cases l:JU o.op i b bs r e with
    | true =>
      rw[l]at h;simp only[E5]at h;split at h
      .rename_i v m2 hr;obtain⟨c,h⟩:=A3 h;obtain⟨c,D⟩:=B6 c;rw[cZ]at h;exact glue true (fun _=>l) v m2 _ _ ⟨d1,d2,rfl,.inr (.inr (.inl ⟨rfl,lg,hw,hr,A1 c⟩))⟩ (.inr (.inl ⟨rfl,rfl⟩)) (.inl ⟨rfl,rfl,D⟩) h
      .cases h
    | false =>
      rw[l]at h;simp only[E0]at h;split at h
      .rename_i v t C;obtain⟨Q,C⟩:=A3 C;rw[cZ]at h;exact glue false (fun h=>by cases h) v _ _ _ ⟨d1,d2,rfl,.inr (.inl ⟨rfl,lg,t,hw,C,rfl⟩)⟩ (.inl ⟨rfl,t,rfl⟩) (.inr (.inr ⟨rfl,_,rfl,.inr ⟨lg,t,hw,C,rfl,rfl⟩⟩)) h
      .obtain⟨I,h⟩:=XO h;unfold VD at h;simp only at h;split at h
       .rename_i mv hv;split at h
        .rename_i v m' hr;split at h
         .rename_i O c;split at h
          .rename_i m2 hm;rw[cZ]at h;exact glue false (fun h=>by cases h) v m2 _ _ ⟨d1,d2,rfl,.inr (.inr (.inr ⟨rfl,I,lg,hw,mv,m',hv,hr,O,A1 c,hm⟩))⟩ (.inr (.inr rfl)) (.inr (.inl ⟨rfl,rfl⟩)) h
          .cases h
         .cases h
        .cases h
       .cases h
   .rename_i lg hw J;obtain⟨d1,d2⟩:=B6 J;rw[cZ]at h;exact glue false (fun h=>by cases h) undef _ _ _ ⟨d1,d2,rfl,.inl ⟨rfl,lg,hw,rfl,rfl⟩⟩ (.inl ⟨rfl,lg,rfl⟩) (.inr (.inr ⟨rfl,_,rfl,.inl ⟨lg,hw,rfl,rfl,rfl⟩⟩)) h
   .cases h
def NP{l:H6}{b k:Nat}(h:k ∈ A3b l b):k=b∨k ∈ l:=by
 unfold A3b at h;cases e:aC l b with
 | true=>rw[e]at h;exact .inr h
 | false=>rw[e,E0,E9]at h;exact B4.1 h
def DS:∀ {a b:H6} {k:Nat},k ∈ TZ a b->k ∈ a∨k ∈ b
 | [],b,k,h=>.inr h
 | x::a,b,k,h=>by
   rcases NP (show k ∈ A3b (TZ a b) x from h)with rfl|h
   .exact .inl B5
   .rcases DS h with h|h
    .exact .inl (C7 _ h)
    .exact .inr h
def uZ{acc:List H6}:∀ {es:List Edge} {k:Nat},k ∈ tL acc es->∃ e ∈ es,Region.binds .any e=true/\(k=e.on∨k ∈ acc.getD e.on [])
 | [],k,h=>by cases h
 | e::r,k,h=>by
   unfold tL at h;cases a:Region.binds .any e with
   | true =>
     rw[a]at h;rw[E5]at h;rcases(NP h).imp_right DS with h|h|h
     .exact⟨e,B5,a,.inl h⟩
     .exact⟨e,B5,a,.inr h⟩
     .obtain⟨e',h1,b⟩:=uZ h;exact⟨e',C7 _ h1,b⟩
   | false =>
     rw[a]at h;obtain⟨e',h1,b⟩:=uZ h;exact⟨e',C7 _ h1,b⟩
def uY:∀ (r:List Oper) (acc:List H6),∃ a,Y9 r acc=acc++a/\a.length=r.length/\∀ j o,r[j]? = some o->∃ pre,pre=(acc++a).take (acc.length+j)/\a[j]? = some (tL pre o.after.toList)
 | [],acc=>⟨[],by simp[Y9],rfl,fun j o h=>by simp at h⟩
 | o::r,acc=>by
   obtain⟨a,h1,c,h3⟩:=uY r (acc++[tL acc o.after.toList]);refine⟨tL acc o.after.toList::a,by rw[Y9,I5,h1];simp,by simp[c],fun j o' b=>?_⟩;cases j with
   | zero =>
     simp at b;subst b;exact⟨_,rfl,by simp⟩
   | succ j =>
     obtain⟨pre,g1,g2⟩:=h3 j o' (by simpa using b);refine⟨pre,?_,by simpa using g2⟩;rw[g1];simp[cO,kA 1 j]
def A5j{ops:List Oper}{k:Nat}(m:ops[i]? = some o)(he:∀ e ∈ o.after.toList,Region.binds .any e=true->e.on<i)(b:k ∈ (Y9 ops []).getD i []) :
  ∃ e ∈ o.after.toList,Region.binds .any e=true/\(k=e.on∨k ∈ (Y9 ops []).getD e.on []):=by
 obtain⟨n,h1,s,h3⟩:=uY ops [];simp only[G9]at h1 h3;obtain⟨pre,g1,g2⟩:=h3 i o m;rw[h1]at b ⊢;rw[B2,g2]at b;obtain⟨e,f,c,l⟩:=uZ (show k ∈ tL pre o.after.toList from b);refine⟨e,f,c,l.imp id fun h=>?_⟩;have a:=he e f c;rw[g1]at h;simp only[Y5,F5,B2]at h ⊢;rw[E8 a]at h;exact h
def mZ(ops:List Oper)(D:Nat->Prop):Prop:=∀ i o,ops[i]? = some o->D i->∀ e ∈ o.after.toList,Region.binds .any e=true->D e.on
def BH{ops:List Oper}{D:Nat->Prop}(m:mZ ops D)(c:∀ i o,ops[i]? = some o->∀ e ∈ o.after.toList,Region.binds .any e=true->e.on<i) :
  ∀ (n i k:Nat) (o:Oper),i<n->ops[i]? = some o->(∀ e ∈ o.after.toList,Region.binds .any e=true->D e.on)->k ∈ (Y9 ops []).getD i []->D k
 | 0,i,k,o,h,_,_,_=>by omega
 | n+1,i,k,o,h,ho,he,hk=>by
   obtain⟨e,l,a,b⟩:=A5j ho (c i o ho) hk;rcases b with rfl|b
   .exact he e l a
   .have f:=c i o ho e l a;have hlen:e.on<ops.length:=Nat.lt_trans f (B3.1 ho).1;refine BH m c n e.on k ops[e.on] A2 (A5 hlen) (fun e' h1 s=>m e.on _ (A5 hlen) (he e l a) e' h1 s) b
def FA{H0:Hp AB}:∀ (l:List Nat) (H:Hp AB),(∀ b ∈ l,b<=I2)->∀ id,id<=I2->Hp.get (FB H0 H l) id=if id ∈ l then Hp.get H0 id else Hp.get H id
 | [],H,_,id,_=>by simp[FB]
 | b::r,H,hl,id,hid=>by
   have c:=hl b B5;rw[FB,eV,FA r _ (fun x hx=>hl x (C7 _ hx)) id hid,F1 _ _ _ _ c hid];by_cases h1:id ∈ r
   .rw[B0 h1,B0 (C7 _ h1)]
   .rw[A8 h1];by_cases a:id=b
    .subst a;rw[B0 rfl,B0 B5]
    .rw[A8 a,A8 (by simp[h1,a])]
def DX:∀ (l:List Nat) (H:Hp AB),(∀ b ∈ l,b<=I2)->∀ id,id<=I2->Hp.get (DY H l) id=if id ∈ l then none else Hp.get H id
 | [],H,_,id,_=>by simp[DY]
 | b::r,H,hl,id,hid=>by
   have c:=hl b B5;rw[DY,eV,DX r _ (fun x hx=>hl x (C7 _ hx)) id hid,F1 _ _ _ _ c hid];by_cases h1:id ∈ r
   .rw[B0 h1,B0 (C7 _ h1)]
   .rw[A8 h1];by_cases a:id=b
    .subst a;rw[B0 rfl,B0 B5]
    .rw[A8 a,A8 (by simp[h1,a])]
def lV:∀ (n a b:Nat),b ∈ OP a n↔a<=b/\b<a+n
 | 0,a,b=>by simp[OP]
 | n+1,a,b=>by
   simp only[OP,B4,lV n (a+1) b];omega
def LF{m m' m2:Mem}(h:lU m m'=some m2)(s:m.n<=m.hi)(c:m.hi<=m'.hi):m.n<=m2.n/\m.hi<=m2.hi/\m2.n<=m2.hi/\m2.W=m.W/\(m2.n=m'.hi∨(m2.n=m.n/\m'.hi<=m.n))/\m2.hi=m'.hi/\m2.lg=m'.lg /\
  ∀ id,id<=I2->Hp.get m2.H id=if m.n<=id/\id<m2.n then Hp.get m'.H id else Hp.get m.H id:=by
 unfold lU at h;cases a:Nat.ble m'.hi m.n with
 | true =>
   have a:=A1 a;have e:Nat.ble m'.hi m.n=true:=C8 a;rw[e]at h;cases h;refine⟨A6 _,A6 _,s,rfl,.inr ⟨rfl,a⟩,by show m.hi=m'.hi;omega,rfl,fun id hid=>?_⟩;rw[A8 (by show ¬ (m.n<=id/\id<m.n);omega)]
 | false =>
   have k:m.n<m'.hi:=by
    rcases G1 m.n m'.hi with h1|h1
    .exact h1
    .rw[show Nat.ble m'.hi m.n=true from C8 h1]at a;cases a
   rw[a]at h;simp only[E0]at h;obtain⟨l,h⟩:=A3 h;have l:=A1 l;simp only[E9,eK]at h;cases h;refine⟨jY k,c,A6 _,rfl,.inl rfl,rfl,rfl,fun id hid=>?_⟩;show Hp.get (FB m'.H m.H (OP m.n (m'.hi-m.n))) id=_;rw[FA _ _ (fun b f=>by have:=(lV _ _ _).1 f;omega) id hid];by_cases h1:m.n<=id/\id<m'.hi
   .rw[B0 ((lV _ _ _).2 A2),B0 h1]
   .rw[A8 (fun h=>h1 (by have:=(lV _ _ _).1 h;omega)),A8 h1]
def bA(D:Nat->Bool)(dst:Nat->Option Tmp)(V:Nat->Value)(f0:Tmp->Value)(t:Tmp):Nat->Value
 | 0=>f0 t
 | n+1=>if D n=true/\dst n=some t then V n else bA D dst V f0 t n
def fH{D D':Nat->Bool}{dst:Nat->Option Tmp}{V:Nat->Value}{f0:Tmp->Value}{t:Tmp}:∀ (n:Nat),(∀ k,k<n->dst k=some t->D k=D' k)->bA D dst V f0 t n=bA D' dst V f0 t n
 | 0,_=>rfl
 | n+1,h=>by
   unfold bA;have b:=fH (V:=V) (f0:=f0) n fun k c=>h k (Nat.lt_succ_of_lt c)
   by_cases a:dst n=some t
   .rw[h n (J4 n) a,b]
   .rw[A8 (fun hh=>a hh.2),A8 (fun hh=>a hh.2),b]
def sV{D D':Nat->Bool}{dst:Nat->Option Tmp}{V:Nat->Value}{f0:Tmp->Value}{t:Tmp}{i:Nat}(hD:∀ k,k≠i->D' k=D k)(hi:D' i=true):∀ (n:Nat),i<n->dst i=some t->(∀ k,i<k->k<n->dst k=some t->D k=false)->bA D' dst V f0 t n=V i
 | 0,h,_,_=>by omega
 | n+1,h,hd,hl=>by
   unfold bA;by_cases e:n=i
   .subst e;rw[B0 ⟨hi,hd⟩]
   .have a:i<n:=A2;rw[A8 (fun hh=>by
     have h1:=hl n a (J4 n) hh.2;rw[hD n e,h1]at hh;exact absurd hh.1 (by simp))]
    exact sV hD hi n a hd fun k c b=>hl k c (Nat.lt_succ_of_lt b)
def pF{D D':Nat->Bool}{dst:Nat->Option Tmp}{V:Nat->Value}{f0:Tmp->Value}{t:Tmp}(hD:∀ k,k≠i->D' k=D k)(a:dst i≠some t)(n:Nat):bA D' dst V f0 t n=bA D dst V f0 t n :=
 fH n fun k _ b=>hD k fun e=>a (e▸b)
structure HRf (P:Program) (base:Nat) (ρ:Ren) (G:Nat->Option AB) (w:World):Prop where
 dom:∀ b l,ρ b=some l->b<=I2
 at_:∀ id,id<=I2->∀ ab,G id=some ab->∃ l,ρ id=some l/\BR P ρ ab l w/\(ab.rw=true->l.on=true->base<=l.blk/\∀ id2,id2<=I2->∀ ab2 l2,G id2=some ab2->ρ id2=some l2->Tc ab2 l2 l.blk->id2=id)
def HRf.hr{P:Program}{base:Nat}{ρ:Ren}{G:Nat->Option AB}{H:Hp AB}{w:World}(h:HRf P base ρ G w)(s:∀ id,id<=I2->∀ ab,Hp.get H id=some ab->G id=some ab):HR P base ρ H w :=
 ⟨h.dom,fun id hid ab m=>let ⟨l,a,b,c⟩:=h.at_ id hid ab (s id hid ab m);⟨l,a,b,fun hr n=>⟨(c hr n).1,fun k e f l2 g=>(c hr n).2 k e f l2 (s k e f g)⟩⟩⟩
def HR.f{P:Program}{base:Nat}{ρ:Ren}{H:Hp AB}{w:World}(h:HR P base ρ H w){G:Nat->Option AB}(t:∀ id,id<=I2->∀ ab,G id=some ab->Hp.get H id=some ab):HRf P base ρ G w :=
 ⟨h.dom,fun id hid ab n=>let ⟨l,a,b,c⟩:=h.at_ id hid ab (t id hid ab n);⟨l,a,b,fun hr s=>⟨(c hr s).1,fun m e k l2 g=>(c hr s).2 m e k l2 (t m e k g)⟩⟩⟩
def Ff(ρ:Ren)(G:Nat->Option AB)(k:Nat):Prop:=∃ id ab l,id<=I2/\G id=some ab/\ρ id=some l/\Tf ab l k
end
end Go.Sx
