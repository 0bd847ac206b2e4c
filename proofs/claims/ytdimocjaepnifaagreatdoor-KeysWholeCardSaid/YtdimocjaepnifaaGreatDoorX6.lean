import Derived.Test.YtdimocjaepnifaaGreatDoorX5
set_option linter.all false
set_option maxRecDepth 100000
set_option maxHeartbeats 4000000
namespace Go.Sx
variable {ds:List Deferred}{d:Option Tmp}{o p:Oper}{lg':Lg}{i j:Nat}{q:List Bool}{r:Option (Ex×S)}{g:Value}{x:Operand}{me:FuncId}{ps:Array Tmp}{as bd:Code}
section
open Go
variable [Ora]
section
variable {P:Program} {base gl nt:Nat}
def GR(gl:Nat)(ρ:Ren):Prop:=∀ g,g<gl->ρ g=some (lc g 0 0)
def GR.mono{ρ a:Ren}(h:GR gl ρ)(he:∀ b l,ρ b=some l->a b=some l):GR gl a:=fun g c=>he _ _ (h g c)
structure At (P:Program) (base gl:Nat) (ρ:Ren) (m:Mem) (hi:Nat) (w:World):Prop where
 hr:HR P base ρ m.H w
 bs:base<=w.heap.size
 fr:M8 ρ m.n hi
 gr:GR gl ρ
 nh:m.n<=m.hi
 wb:∀ b ∈ m.W,∀ l,ρ b=some l->l.on=true->base<=l.blk
 gf:∀ k o,Ora.G k=some o->k<base/\w.heap[k]? = some o
def At.wbs{ρ c:Ren}{m m':Mem}{hi:Nat}{w w':World}(h:At P base gl ρ m hi w)(st:St P base ρ c m m' w w'):∀ b ∈ m'.W,∀ l,ρ b=some l->l.on=true->base<=l.blk:=fun b f l e a=>by
 by_cases hm:b ∈ m.W
 .exact h.wb b hm l e a
 .obtain⟨ab,h1,k⟩:=st.wrw b f hm l e;exact((h.hr.atl e h1).2 k a).1
def At.below{ρ c:Ren}{m m':Mem}{hi:Nat}{w w':World}(h:At P base gl ρ m hi w)(st:St P base ρ c m m' w w'){k:Nat}(n:k<base):w'.heap[k]? = w.heap[k]? :=
 st.keep k (E5 n h.bs) fun b f l s a e=>by have:=h.wbs st b f l s a;omega
def At.step{ρ a:Ren}{m m':Mem}{hi:Nat}{w w':World}(h:At P base gl ρ m hi w)(st:St P base ρ a m m' w w'):At P base gl a m' hi w' :=
 ⟨st.hr,B9 h.bs st.size,fun b h1 n=>by
  cases s:a b with
  | none=>rfl
  | some l =>
    cases h0:ρ b with
    | some l0=>rw[h.fr b (B9 st.nle h1) n]at h0;cases h0
    | none=>have:=(st.new b l s h0).2;omega,h.gr.mono st.ext,st.nhi h.nh,fun b s l t c=>by
  cases h0:ρ b with
  | some l0 =>
    have:=st.ext b l0 h0;rw[t]at this
    have:=A9 this;subst this;exact h.wbs st b s l h0 c
  | none =>
    rcases st.blk b l t h0 c with h1|⟨u,h1,l0,n,e,h3⟩
    .have:=h.bs;omega
    .rw[<- h3];exact h.wbs st u h1 l0 n e,fun k o f=>⟨(h.gf k o f).1,(h.below st (h.gf k o f).1).trans (h.gf k o f).2⟩⟩
def At.less{ρ:Ren}{m:Mem}{hi hi':Nat}{w:World}(h:At P base gl ρ m hi w)(c:hi'<=hi):At P base gl ρ m hi' w:=⟨h.hr,h.bs,fun b h1 a=>h.fr b h1 (E5 a c),h.gr,h.nh,h.wb,h.gf⟩
def At.wLg{ρ:Ren}{m:Mem}{hi:Nat}{w:World}(h:At P base gl ρ m hi w)(lg:Lg):At P base gl ρ (m.wLg lg) hi w:=by
 cases m;exact⟨h.hr,h.bs,h.fr,h.gr,h.nh,h.wb,h.gf⟩
def A7T(P:Program)(base:Nat)(ρ:Ren)(m m':Mem)(w:World)(v:Value):Ending->World->Prop:=fun e w'=>∃ v' a,e=.returned v'/\VR a v v'/\St P base ρ a m m' w w'
structure nW (P:Program) (base gl:Nat) (f:FuncId) (c:FnC):Prop where
 lg:∀ (vs:List Value) (m m':Mem) (v:Value),c.run vs m=some (v,m')->m.lg.le m'.lg
 ok:∀ (ρ:Ren) (m m':Mem) (w:World) (vs vs':List Value) (v:Value),c.run vs m=some (v,m')->Sat m'.lg->At P base gl ρ m m'.hi w->LR ρ vs vs' ->
  ((callFunc f ⟨vs'⟩).run P w=.ok (.enter f ⟨vs'⟩) w/\Calls P f ⟨vs'⟩ w (A7T P base ρ m m' w v)) ∨
  (∃ v' ρ' w',(callFunc f ⟨vs'⟩).run P w=.ok (.value v') w'/\VR ρ' v v'/\St P base ρ ρ' m m' w w')
structure Zn where
 rd:Option Nat
 D:List Deferred
def B73(l:Loc):Deferred:={ target:=.collected l.blk,args:=#[] }
def DfR(ρ:Ren)(ids:List Nat)(ds:List Deferred):Prop:=ids.length=ds.length/\∀ (i:Nat) (id:Nat) (d:Deferred),ids[i]? = some id->ds[i]? = some d->∃ l,ρ id=some l/\d=B73 l
def DfR.mono{ρ f:Ren}{ids:I9}(h:DfR ρ ids ds)(he:∀ b l,ρ b=some l->f b=some l):DfR f ids ds:=⟨h.1,fun i id d a b=>let ⟨l,c,e⟩:=h.2 i id d a b;⟨l,he _ _ c,e⟩⟩
def DfR.nil{ρ:Ren}:DfR ρ [] []:=⟨rfl,fun i id d h=>by simp at h⟩
structure FrR (z:Zn) (ρ:Ren) (nt:Nat) (fr:Fr) (a:Act):Prop where
 size:a.tmps.size=nt
 le:nt<=512
 df:∃ ds,a.defers=ds++z.D/\DfR ρ (dvG nt fr) ds
 rd:nt<=510->(sH (fr.get 511)=true->z.rd=none)/\∀ b,hO (fr.get 511)=some b->∃ l,ρ b=some l/\z.rd=some l.blk
 get:∀ t,t<nt->VR ρ (fr.get t) (a.tmps.getD t undef)
variable {z:Zn}
def FrR.mono{ρ f:Ren}{fr:Fr}{a:Act}(h:FrR z ρ nt fr a)(he:∀ b l,ρ b=some l->f b=some l):FrR z f nt fr a :=
 ⟨h.size,h.le,let ⟨ds,a,b⟩:=h.df;⟨ds,a,b.mono he⟩,fun k=>⟨(h.rd k).1,fun b m=>let ⟨l,c,e⟩:=(h.rd k).2 b m;⟨l,he _ _ c,e⟩⟩,fun t n=>(h.get t n).mono he⟩
def FrR.put{ρ:Ren}{fr:Fr}{a:Act}{d:Nat}{v v':Value}(h:FrR z ρ nt fr a)(k:d<nt)(s:VR ρ v v'):FrR z ρ nt (fr.set d v) (a.put (some d) v'):=by
 have hle:=h.le;have b:∀ t,t<512->t≠d->(fr.set d v).get t=fr.get t:=fun t h1 u=>by rw[Q4 _ _ _ _ A0 h1,A3 u]
 refine⟨by simp[Act.put,h.size],h.le,?_,fun m=>?_,fun t l=>?_⟩
 .obtain⟨ds,n,c⟩:=h.df;refine⟨ds,n,?_⟩;unfold dvG at c ⊢;cases f:Nat.ble nt 510 with
  | true =>
    have:=A2 f;rw[f]at c;rw[b 510 B8 A0];exact c
  | false=>rw[f]at c;exact c
 .rw[b 511 B8 A0];exact h.rd m
 .rw[Q4 _ _ _ _ (E5 k h.le) (E5 l h.le)];simp only[Act.put,C6,H4];by_cases e:t=d
  .subst e;rw[A4 rfl,A4 rfl,A4 (by rw[h.size];exact k)];exact s
  .rw[A3 e,A3 (fun h=>e h.symm)]
   have:=h.get t l
   simpa [C6]using this
def ZR(z:Zn)(ρ:Ren)(nt:Nat)(fr:Fr)(a:List Deferred):Prop:=(∃ ds,a=ds++z.D/\DfR ρ (dvG nt fr) ds)/\(nt<=510->(sH (fr.get 511)=true->z.rd=none)/\∀ b,hO (fr.get 511)=some b->∃ l,ρ b=some l/\z.rd=some l.blk)
def FrR.zr{ρ:Ren}{fr:Fr}{a:Act}(h:FrR z ρ nt fr a):ZR z ρ nt fr a.defers:=⟨h.df,h.rd⟩
def ZR.congr{ρ f:Ren}{fr a:Fr}(h:ZR z ρ nt fr ds)(he:∀ b l,ρ b=some l->f b=some l)(n:nt<=510->a.get 510=fr.get 510/\a.get 511=fr.get 511):ZR z f nt a ds:=by
 obtain⟨⟨k,h1,u⟩,h3⟩:=h;refine⟨⟨k,h1,?_⟩,fun m=>?_⟩
 .have:dvG nt a=dvG nt fr:=by
   unfold dvG;cases s:Nat.ble nt 510 with
   | true=>rw[(n (A2 s)).1]
   | false=>rfl
  rw[this];exact u.mono he
 .rw[(n m).2];exact⟨(h3 m).1,fun b t=>let ⟨l,c,e⟩:=(h3 m).2 b t;⟨l,he _ _ c,e⟩⟩
def iP(a:Act)(d:Option Tmp)(v:Value):(a.put d v).defers=a.defers:=by cases d<;>rfl
def FrR.ev{ρ:Ren}{fr:Fr}{a:Act}(h:FrR z ρ nt fr a)(e:GR gl ρ){x:Operand}(c:okX nt gl x=true):VR ρ (ev fr x) (a.eval x):=by
 cases x with
 | tmp t=>exact h.get t (A2 c)
 | const v=>exact VR.ofC c
 | global g =>
   have:=VR.ptr (o:=0) (e g (A2 c));exact this
 | func f=>exact .func (a:=[]) (b:=[]) (a':=[]) (b':=[]) rfl rfl (fun i v v' h=>by simp at h) (fun i v v' h=>by simp at h)
def FrR.ops{ρ:Ren}{fr:Fr}{a:Act}(h:FrR z ρ nt fr a)(b:GR gl ρ){o:Op}(c:XI nt gl o=true):FR ρ fr a.eval o:=fun x e=>h.ev b (D7.1 c x e)
def GA{o:Op}{c:Callee}{xs:Array Operand}{tys:Array TypeId}(h:o=.call ⟨c,xs,tys⟩):∀ x ∈ xs.toList,x ∈ o.operands.toList:=fun x a=>by
 subst h;show x ∈ ((match c with|.value f=>#[f]|.invoke r _=>#[r]|.builtin _=>#[])++xs:Array Operand).toList;simp;exact .inr (by simpa using a)
structure B58 (P:Program) (base gl:Nat) (c:FnC):Prop where
 lg:∀ (vs:List Value) (m m':Mem) (v:Value),c.run vs m=some (v,m')->m.lg.le m'.lg
 ok:∀ (ρ:Ren) (m m':Mem) (w:World) (b:Nat) (args args':List Value) (v:Value) (l:Loc),c.run (yv b::args) m=some (v,m')->Sat m'.lg->At P base gl ρ m m'.hi w->LR ρ args args'->ρ b=some l ->
  ∃ f tmps assign body,(Instr.yield l.blk ⟨args'⟩).run P w=.ok (.round l.blk f tmps assign body) w/\RoundIn Fence.wide 0 P l.blk f tmps assign body w (A7T P base ρ m m' w v)
structure l7 (P:Program) (base gl:Nat) (call:U1):Prop where
 fn:∀ f,nW P base gl f (call.fn f)
 yl:B58 P base gl call.yl
def HW{v:Value}{b:Nat}(h:hO v=some b):v=yv b:=by
 unfold hO at h;split at h
 .cases h;rfl
 .cases h
def vC{ρ:Ren}{m m':Mem}{w:World}{call:U1}{fr:Fr}{a:Act}{v:Value}{K:Act->World->Prop}{Q:Exit->Act->World->Prop}(n:l7 P base gl call)(k:(t7 P call o).run fr m=some (v,m'))(J:Sat m'.lg)
  (h:At P base gl ρ m m'.hi w) (C:FR ρ fr a.eval o.op) (H:∀ v' s w',VR s v v'->St P base ρ s m m' w w'->K (a.put o.dst v') w'):wpO P z.rd o a w K Q:=by
 have G:∀ (f:FuncId) (vs B:List Value),(∀ c,o.op≠.defer c)->(call.fn f).run vs m=some (v,m')->LR ρ vs B->(execOp a.eval o).run P w=(callFunc f ⟨B⟩).run P w->wpO P z.rd o a w K Q:=fun f vs B L hr I he=>by
  refine⟨fun _ _=>trivial,?_⟩;rw[Oper.semAt_eq _ _ _ L,he];rcases(n.fn f).ok ρ m m' w vs B v hr J h I with⟨h1,A⟩|⟨v',s,w',h1,A,h3⟩
  .rw[h1,Oper.uponIn_enter];refine⟨wP,tW.2 (A.mono fun e w' ⟨v',s,he,I,N⟩=>?_)⟩;subst he;exact H v' s w' I N
  .rw[h1,Oper.uponIn_value];exact H v' s w' A h3
 have u:∀ (L:∀ c,o.op≠.defer c),NOk P base ρ m w (execOp a.eval o) v m'->wpO P z.rd o a w K Q:=fun L V=>by
  obtain⟨v',s,w',h1,A,h3⟩:=V;refine⟨fun _ _=>trivial,?_⟩;rw[Oper.semAt_eq _ _ _ L];rcases h1 with h1|⟨h1,rfl⟩
  .rw[h1,Oper.uponIn_value];exact H v' s w' A h3
  .rw[h1,Oper.uponIn_skip];exact H undef s w' A h3
 obtain⟨dst,op,ty,pos,Z,R⟩:=o;unfold t7 at k;simp only at k C;split at k
 .rename_i f xs tys;have l1:=fW (ρ:=ρ) (fr:=fr) (g:=a.eval) (xs:=xs.toList) fun x E=>C x (GA rfl x E)
  have k:(call.fn f).run ((AJ xs.toList).run fr) m=some (v,m'):=k;rw[sO]at k;refine G f _ _ (fun c n=>by cases n) k l1 ?_;have M:xs.map a.eval=⟨xs.toList.map a.eval⟩:=by apply L3;simp
  simp only[execOp,resolve,Act.eval,Deferred.ofValue,pure_bind,invoke,M];simp
 .rename_i x xs tys T;have l1:=fW (ρ:=ρ) (fr:=fr) (g:=a.eval) (xs:=xs.toList) fun y O=>C y (GA rfl y O)
  have E:VR ρ (ev fr x) (a.eval x):=C x (by show x ∈ (#[x]++xs:Array Operand).toList;simp);have k:SM call m ((Y5 x).run fr) ((AJ xs.toList).run fr)=some (v,m'):=k;rw[sO,hJ]at k;have M:xs.map a.eval=⟨xs.toList.map a.eval⟩:=by apply L3;simp
  unfold SM at k;split at k
  .rename_i f vs t;unfold CP at t;split at t
   .rename_i f0 p q D;cases t;rw[D]at E;generalize F:a.eval x=gx at E;cases E with
    | pure hp=>simp[K5]at hp
    | func W Y h1 A =>
      rename_i p q X q';have lp:LR ρ p X:=⟨W,h1⟩;have U:LR ρ q q':=⟨Y,A⟩;refine G f _ _ (fun c n=>by cases n) k (lp.append (l1.append U)) ?_;simp only[execOp,resolve,F,Deferred.ofValue,pure_bind,invoke,M];simp
   .cases t
  .split at k
   .rename_i b O;have D:=HW O;rw[D]at E k;obtain⟨l,hl,F⟩:=A55 E;obtain⟨f,tmps,as,bd,h1,A⟩:=n.yl.ok ρ m m' w b _ _ v l k J h l1 hl;refine⟨fun _ _=>trivial,?_⟩;have he:(execOp a.eval ⟨dst,.call ⟨.value x,xs,tys⟩,ty,pos,Z,R⟩).run P w=(Instr.yield l.blk ⟨xs.toList.map a.eval⟩).run P w:=by
     simp only[execOp,resolve,F,Deferred.ofValue,pure_bind,invoke,M];simp
    rw[Oper.semAt_eq _ _ _ (fun c n=>by cases n),he,h1,Oper.uponIn_round];refine⟨wP,?_⟩;have A:RoundIn (fw z.rd) 0 P l.blk f tmps as bd w (A7T P base ρ m m' w v):=A;refine A.mono fun e w' ⟨v',s,he,I,N⟩=>?_
    subst he;exact H v' s w' I N
   .cases k
 .have k:A5w P (FY P _) _ fr m=some (v,m'):=k;unfold A5w at k;rw[FX]at k;split at k
  .rename_i r hr;cases k;exact u (fun c n=>by have n:op=.defer c:=n;subst n;cases hr) (B5D h.hr h.bs hr h.fr C)
  .split at k
   .rename_i r hr;cases k;exact u (fun c n=>by have n:op=.defer c:=n;subst n;cases hr) (A7v h.hr hr C J)
   .split at k
    .rename_i r hr;cases k;exact u (fun c n=>by have n:op=.defer c:=n;subst n;cases hr) (B52 h.hr h.bs hr h.fr C J)
    .exact u (fun c n=>by have n:op=.defer c:=n;subst n;cases k) (B4V h.hr h.bs k h.fr C J)
def dA{m m':Mem}{call:U1}{fr:Fr}{v:Value}(b:l7 P base gl call)(a:(t7 P call o).run fr m=some (v,m')):m.lg.le m'.lg:=by
 unfold t7 at a;split at a
 .exact(b.fn _).lg _ _ _ _ a
 .have a:SM call m _ _=some (v,m'):=a;unfold SM at a;split at a
  .exact(b.fn _).lg _ _ _ _ a
  .split at a
   .exact b.yl.lg _ _ _ _ a
   .cases a
 .have a:A5w P (FY P _) _ fr m=some (v,m'):=a;unfold A5w at a;rw[FX]at a;split at a
  .rename_i r hr;cases a;show m.lg.le _;rw[B5E hr];exact .refl _
  .split at a
   .rename_i r hr;cases a;exact(ZL hr).1
   .split at a
    .rename_i r hr;cases a;exact B53 hr
    .exact B4W a
def A2m{lg:Lg}{v:Value}{b c:Bool}(h:PL lg v b=some (c,lg')):lg.le lg':=by
 unfold PL at h;split at h
 .cases h;exact .refl _
 .split at h
  .rename_i a;cases h;exact qU a
  .cases h
 .obtain⟨_,h⟩:=A6 h;cases h;exact .refl _
def lF{lg:Lg}{fr:Fr}{all:List Oper}{b:Bool}(h:dX nt fr lg all o=some (b,lg')):lg.le lg':=by
 unfold dX at h;split at h
 .cases h;exact .refl _
 .split at h
  .split at h
   .obtain⟨_,h⟩:=A6 h;exact A2m h
   .cases h
  .cases h
def uL{ρ:Ren}{lg:Lg}{v v':Value}{b c:Bool}(h:PL lg v b=some (c,lg'))(a:VR ρ v v')(n:Sat lg'):(v'=.bool (c == b)∨(c=false/\v'=.tuple ⟨[]⟩)):=by
 unfold PL at h;split at h
 .rename_i d;cases h;left;rw[fH a];cases d<;>cases b<;>rfl
 .split at h
  .rename_i d l k;cases h;left
   rw[tY k a n];cases d<;>cases b<;>rfl
  .cases h
 .rename_i u _ _;obtain⟨h3,f⟩:=A6 h;cases f;right
  have hu:v=.tuple ⟨[]⟩:=by
   unfold sH at h3;split at h3
   .rfl
   .cases h3
  rw[hu]at a;obtain⟨cs',e,m⟩:=yE a;cases m.nil_inv;exact⟨rfl,e⟩
def rA{all:Array Oper}{tmps:r7}{want b:Bool}{t:Tmp}(k:o.guard=some (j,want))(hp:all.toList[j]? = some p)(m:p.dst=some t)(c:t<tmps.size)
  (l:tmps.getD t undef=.bool (b == want)∨(b=false/\tmps.getD t undef=.tuple ⟨[]⟩)):Region.wanted o (yielded all tmps)=b:=by
 have a:tmps[t]? = some (tmps.getD t undef):=by simp[C6,c]
 have f:(all[j]?).bind (·.dst)=some t:=by
  have:all[j]? = some p:=by simpa using hp
  simp[this,m]
 unfold Region.wanted;simp only[k];rcases l with e|⟨rfl,e⟩
 .have:yielded all tmps j=some (b == want):=by simp[yielded,f,a,e]
  rw[this];cases b<;>cases want<;>rfl
 .have:yielded all tmps j=none:=by simp[yielded,f,a,e]
  rw[this];rfl
def PM{ρ:Ren}{lg:Lg}{all:Array Oper}{fr:Fr}{a:Act}{b:Bool}(h:FrR z ρ nt fr a)(hw:dX nt fr lg all.toList o=some (b,lg'))(k:Sat lg'):Region.wanted o (yielded all a.tmps)=b:=by
 unfold dX at hw;split at hw
 .rename_i c;cases hw;simp[Region.wanted,c]
 .rename_i j want c;split at hw
  .rename_i p hp;split at hw
   .rename_i t f;obtain⟨h1,e⟩:=A6 hw;have h1:t<nt:=A2 h1;exact rA c hp f (by rw[h.size];exact h1) (uL e (h.get t h1) k)
   .cases hw
  .cases hw
def DJ{β:Type}(t:Nat)(v:Value)(fr:Fr)(k:Fr->β):AU (sel (t / 64%8)) (sel (t / 8%8)) (sel (t%8)) v fr k=k (fr.set t v):=MJ t v fr k
def BA(d:Option Tmp)(v:Value)(fr:Fr):Fr:=match d with|some t=>fr.set t v|none=>fr
def fK(d:Option Tmp)(v:Value)(fr:Fr)(k:Fr->Option S):(BB d).run v fr k=k (BA d v fr):=by
 cases d with
 | none=>rfl
 | some t=>exact DJ t v fr k
def FrR.dst{ρ:Ren}{fr:Fr}{a:Act}{v v':Value}(h:FrR z ρ nt fr a)(c:FP nt d=true)(b:VR ρ v v'):FrR z ρ nt (BA d v fr) (a.put d v'):=by
 cases d with
 | none=>exact h
 | some t=>exact h.put (A2 c) b
def cN{c:OpC}{next:A7S}{s a:S}(h:pG c (BB d) next s=some a):∃ v m',c.run s.fr s.m=some (v,m')/\s.m.hi<=m'.hi/\next.run ⟨BA d v s.fr,m'⟩=some a:=by
 unfold pG at h;obtain⟨fr,m⟩:=s;simp only at h;split at h
 .rename_i v m' hr;obtain⟨h1,b⟩:=A6 h;rw[fK]at b;exact⟨v,m',hr,A2 h1,b⟩
 .cases h
def xU{call:U1}{all:List Oper}:∀ (r:List Oper) (s a:S),(e9 P nt gl call all r).run s=some a->s.m.hi<=a.m.hi
 | [],s,a,h=>by
   have h:some s=some a:=h;cases h;exact B0 _
 | o::r,s,a,h=>by
   unfold e9 at h;cases c:FP nt o.dst && XI nt gl o.op with
   | false=>rw[c]at h;cases h
   | true =>
     rw[c]at h;simp only[F7]at h;split at h
     .obtain⟨v,m',_,h1,b⟩:=cN h;exact B9 h1 (xU r _ _ b)
     .have h:iL nt all o (t7 P call o) (BB o.dst) (e9 P nt gl call all r) s=some a:=h;unfold iL at h;obtain⟨fr,⟨H,n,W,hi,lg⟩⟩:=s;simp only at h;split at h
      .obtain⟨v,m',_,h1,b⟩:=cN h;exact B9 h1 (xU r _ _ b)
      .rename_i lg' _;rw[fK]at h;exact xU r ⟨BA o.dst undef fr,⟨H,n,W,hi,lg'⟩⟩ a h
      .cases h
def pO{call:U1}(b:l7 P base gl call){all:List Oper}:∀ (r:List Oper) (s a:S),(e9 P nt gl call all r).run s=some a->s.m.lg.le a.m.lg
 | [],s,a,h=>by
   have h:some s=some a:=h;cases h;exact .refl _
 | o::r,s,a,h=>by
   unfold e9 at h;cases e:FP nt o.dst && XI nt gl o.op with
   | false=>rw[e]at h;cases h
   | true =>
     rw[e]at h;simp only[F7]at h;split at h
     .obtain⟨v,m',h0,h1,c⟩:=cN h;exact(dA b h0).trans (pO b r _ _ c)
     .have h:iL nt all o (t7 P call o) (BB o.dst) (e9 P nt gl call all r) s=some a:=h;unfold iL at h;obtain⟨fr,⟨H,n,W,hi,lg⟩⟩:=s;simp only at h;split at h
      .rename_i lg' hw;obtain⟨v,m',h0,h1,c⟩:=cN h;exact(lF hw).trans ((dA b h0).trans (pO b r _ _ c))
      .rename_i lg' hw;rw[fK]at h;exact(lF hw).trans (pO b r ⟨BA o.dst undef fr,⟨H,n,W,hi,lg'⟩⟩ a h)
      .cases h
def NC{call:U1}{all:Array Oper}{Q:Exit->Act->World->Prop}(u:l7 P base gl call):∀ (r:List Oper) (ρ:Ren) (s c:S) (a:Act) (w:World),(e9 P nt gl call all.toList r).run s=some c->Sat c.m.lg->At P base gl ρ s.m c.m.hi w->FrR z ρ nt s.fr a ->
  (∀ e a' w',FrR z e nt c.fr a'->St P base ρ e s.m c.m w w'->Q .normal a' w')->wpL P z.rd all Q r a w
 | [],ρ,s,c,a,w,h,hS,b,l,t=>by
   have h:some s=some c:=h;cases h;exact t ρ a w l (.refl b.hr)
 | o::r,ρ,s,c,a,w,h,hS,b,l,t=>by
   unfold e9 at h;cases C:FP nt o.dst && XI nt gl o.op with
   | false=>rw[C]at h;cases h
   | true =>
     rw[C]at h;simp only[F7]at h;obtain⟨A,B⟩:=C5 C;have plain:∀ (s:S),At P base gl ρ s.m c.m.hi w->FrR z ρ nt s.fr a->(∀ e a' w',FrR z e nt c.fr a'->St P base ρ e s.m c.m w w'->Q .normal a' w') ->
       pG (t7 P call o) (BB o.dst) (e9 P nt gl call all.toList r) s=some c->Region.wanted o (yielded all a.tmps)=true->wpL P z.rd all Q (o::r) a w:=fun s b l t hr hw=>by
      obtain⟨v,m',h1,E,h3⟩:=cN hr;have hh:=xU r _ _ h3;have f:Sat m'.lg:=V3.le hS (pO u r _ _ h3);refine PJ fun K D=>?_
      rw[A4 hw];refine vC u h1 f (b.less hh) (l.ops b.gr B) fun v' e w' G st=>D _ _ ?_
      refine NC u r e _ c _ _ h3 hS (b.step st) ((l.mono st.ext).dst A G) fun ρ2 a2 w2 f2 k=>t ρ2 a2 w2 f2 (St.trans b.fr st k)
     split at h
     .rename_i F;exact plain s b l t h (by simp[Region.wanted,F])
     .have h:iL nt all.toList o (t7 P call o) (BB o.dst) (e9 P nt gl call all.toList r) s=some c:=h;unfold iL at h;obtain⟨fr,m⟩:=s;obtain⟨H,n,W,hi,lg⟩:=m;simp only at h;split at h
      .rename_i lg' hw;have y:St P base ρ ρ ⟨H,n,W,hi,lg⟩ ⟨H,n,W,hi,lg'⟩ w w:=St.wLg (m:=⟨H,n,W,hi,lg⟩) b.hr lg';obtain⟨v,m',h0,h1,E⟩:=cN h;have f:Sat lg':=V3.le hS ((dA u h0).trans (pO u r _ _ E));exact plain ⟨fr,⟨H,n,W,hi,lg'⟩⟩ (b.wLg lg') l (fun ρ2 a2 w2 f2 k=>t ρ2 a2 w2 f2 (St.trans b.fr y k)) h (PM l hw f)
      .rename_i lg' hw;have y:St P base ρ ρ ⟨H,n,W,hi,lg⟩ ⟨H,n,W,hi,lg'⟩ w w:=St.wLg (m:=⟨H,n,W,hi,lg⟩) b.hr lg';rw[fK]at h;have f:Sat lg':=V3.le hS (pO u r ⟨BA o.dst undef fr,⟨H,n,W,hi,lg'⟩⟩ c h);refine PJ fun K D=>?_
       rw[A3 (by rw[PM l hw f];simp)];exact D _ _ (NC u r ρ ⟨BA o.dst undef fr,⟨H,n,W,hi,lg'⟩⟩ c _ _ h hS (b.wLg lg') (l.dst A (uM ρ)) fun ρ2 a2 w2 f2 k=>t ρ2 a2 w2 f2 (St.trans b.fr y k))
      .cases h
def Ex.out:Ex->Exit
 | .normal=>.normal
 | .exit id=>.exit id
 | .ret=>.ret
def A89{ops:List Oper}{z:Zn}{ρ:Ren}{s:S}{a:Act}{w:World}(hm:pU P nt gl s.fr s.m.H ops=true)(hr:HR P base ρ s.m.H w)(I:GR gl ρ)(hf:FrR z ρ nt s.fr a):VN P ops (a,w):=by
 obtain⟨h1,h2⟩:=C5 hm;have key:∀ o ∈ ops,∀ t x,qW o.op=some (t,x)->∃ b l cs T,ev s.fr x=.pointer (some b)/\ρ b.block=some l/\a.eval x=.pointer (some ⟨l.blk,b.off+l.sh,none⟩)/\Hp.get s.m.H b.block=some (.cells cs T false)/\b.block<=J0/\l.on=true/\HU P w t (a.eval x):=fun o K t x v=>by
  have hp:=D7.1 h1 o K;unfold A5B at hp;rw[v]at hp;simp only at hp;cases B:okX nt gl x with
  | false=>rw[B]at hp;cases hp
  | true =>
    rw[B]at hp;simp only[V8,E8]at hp;split at hp
    .rename_i b g sz A D e3;split at hp
     .rename_i cs T Z f;obtain⟨Q,hp⟩:=C5 hp;obtain⟨E,M⟩:=C5 hp;have Q:=A2 Q;have E:b.off<cs.length:=A2 E;have M:=A2 M;have R:=hf.ev I B;rw[A]at R;obtain⟨l,l1,_,l3⟩:=V0 R;obtain⟨⟨G,C,fz,T',c1,c2,_⟩,_⟩:=hr.atl l1 f;have n:∀ k,k<cs.length->l.sh+k<C.size:=fun k B=>by
       obtain⟨v',J,_⟩:=c2 k cs[k] (A7 B);exact(E4.1 J).1
      refine⟨b,l,cs,T,A,l1,l3,f,M,G,l.blk,b.off+l.sh,C,T',fz,sz,g,l3,c1,e3,D,?_,?_⟩
      .have:=n b.off E;by_cases h0:sz=0
       .omega
       .have:=n (b.off+sz-1) A0;omega
      .have:=n b.off E;omega
     .cases hp
    .cases hp
 refine⟨fun o K t x v=>by obtain⟨_,_,_,_,_,_,_,_,_,_,h⟩:=key o K t x v;exact h,fun i j o p L hi O he F t x u y v N az ay A D=>?_⟩;obtain⟨b,l,cs,T,X,W,k3,k4,k5,k6,_⟩:=key o (E6 hi) t x v;obtain⟨bd,r,ds,V,Y,n2,n3,n4,U,n6,_⟩:=key p (E6 O) u y N;have c:=RK h2 L hi O he;unfold A7L at c;rw[F]at c;simp only[F7,v,N,X,Y]at c;rw[k3]at A;rw[n3]at D;cases A;cases D;show l.blk≠r.blk;intro e;obtain⟨_,hu⟩:=hr.atl W k4;obtain⟨_,hu⟩:=hu rfl k6
 have:=hu bd.block U _ r n4 n2 (.inl ⟨rfl,n6,e.symm⟩);rw[this,gT]at c;cases c
def At.drew{ρ:Ren}{m:Mem}{hi:Nat}{w:World}(a:At P base gl ρ m hi w)(d:Nat):At P base gl ρ m hi { w with drawn:=d } :=
 ⟨⟨fun b l h=>a.hr.dom b l h,fun id hid ab c=>by
  obtain⟨l,e,k,f⟩:=a.hr.at_ id hid ab c;exact⟨l,e,BR.mono (w:=w) (fun _ _ h=>h) (fun _ _=>rfl) k,f⟩⟩,a.bs,a.fr,a.gr,a.nh,a.wb,a.gf⟩
def St.undrew{ρ a:Ren}{m m':Mem}{w w':World}{d:Nat}(st:St P base ρ a m m' { w with drawn:=d } w'):St P base ρ a m m' w w' :=
 ⟨st.ext,st.new,st.nle,st.hle,st.nhi,st.hr,st.wsub,st.wrw,st.keep,st.size,st.os,st.blk,st.same,st.tch⟩
def XA{call:U1}{ops:Array Oper}{z:Zn}{id:Nat}(k:P.follows .mixedOrders=true)(B:l7 P base gl call){ρ:Ren}{s f:S}{a:Act}{w:World}{Q:Exit->Act->World->Prop}(hr:pK ops.toList=true)(hm:pU P nt gl s.fr s.m.H ops.toList=true)(h:(e9 P nt gl call ops.toList ops.toList).run s=some f)(G:Sat f.m.lg)(e:At P base gl ρ s.m f.m.hi w)(u:FrR z ρ nt s.fr a)
  (v:∀ c a' w',FrR z c nt f.fr a'->St P base ρ c s.m f.m w w'->Q .normal a' w'):(Code.region id ops true).wpIn (fw z.rd) 0 P Q a w:=by
 refine oU k (A8R hr (fun w' l=>?_) (fun d=>?_) _)
 .have n:=A89 hm e.hr e.gr u;refine⟨fun o F t x E=>?_,n.ap⟩;obtain⟨b,o',C,T,fz,sz,g,D,A,y⟩:=n.pl o F t x E;exact⟨b,o',C,T,fz,sz,g,D,by show w'.heap[b]? = _;rw[l];exact A,y⟩
 .exact NC B ops.toList ρ s f a { w with drawn:=d } h G (e.drew d) u fun c a' w' f1 st=>⟨rfl,v c a' w' f1 st.undrew⟩
def gR(P:Program)(base gl:Nat)(call:U1):Prop :=
 P.follows .mixedOrders=true/\∀ (nt:Nat) (ops:Array Oper),OM ops=true->∀ (s b:S),bX P nt gl call ops.toList ops.toList 0 (y7 ops.toList []) [] [] s=some b->(s.m.hi<=b.m.hi/\s.m.lg.le b.m.lg) /\
  ∀ (z:Zn) (ρ:Ren) (a:Act) (w:World) (id:Nat) (Q:Exit->Act->World->Prop),Sat b.m.lg->At P base gl ρ s.m b.m.hi w->FrR z ρ nt s.fr a ->
   (∀ c a' w',FrR z c nt b.fr a'->St P base ρ c s.m b.m w w'->Q .normal a' w')->(Code.region id ops true).wpIn (fw z.rd) 0 P Q a w
def T6:∀ (q r:List Bool) (c:Code),H5 (q++r) c=(H5 q c).bind (H5 r)
 | [],r,c=>rfl
 | false::q,r,.seq a b=>T6 q r a
 | true::q,r,.seq a b=>T6 q r b
 | false::q,r,.cond _ a b=>T6 q r a
 | true::q,r,.cond _ a b=>T6 q r b
 | false::q,r,.block _ c=>T6 q r c
 | false::q,r,.loop c=>T6 q r c
 | false::q,r,.scope c=>T6 q r c
 | true::q,r,.scope c=>rfl
 | true::q,r,.block _ c=>rfl
 | true::q,r,.loop c=>rfl
 | b::q,r,.skip=>by cases b<;>rfl
 | b::q,r,.region _ _ _=>by cases b<;>rfl
 | false::q,r,.rangeFunc _ _ a _=>T6 q r a
 | true::q,r,.rangeFunc _ _ _ b=>T6 q r b
 | b::q,r,.exit _=>by cases b<;>rfl
 | b::q,r,.label _=>by cases b<;>rfl
 | b::q,r,.goto _=>by cases b<;>rfl
 | b::q,r,.ret=>by cases b<;>rfl
 | b::q,r,.refuse _=>by cases b<;>rfl
def K9{b:Bool}{body c d:Code}(h:H5 q body=some c)(a:H5 [b] c=some d):H5 (q++[b]) body=some d:=by
 rw[T6,h];exact a
structure U0 (P:Program) (base gl nt:Nat) (c:Code) (L:S->Option (Ex×S)):Prop where
 lg:∀ (s s':S) (e:Ex),L s=some (e,s')->s.m.hi<=s'.m.hi/\s.m.lg.le s'.m.lg
 ok:∀ (s s':S) (e:Ex),L s=some (e,s')->Sat s'.m.lg->∃ N,∀ (z:Zn) (ρ:Ren) (a:Act) (w:World) (Q:Exit->Act->World->Prop),At P base gl ρ s.m s'.m.hi w->FrR z ρ nt s.fr a ->
  (∀ ρ' a' w',FrR z ρ' nt s'.fr a'->St P base ρ ρ' s.m s'.m w w'->Q e.out a' w')->Code.roundsIn (fw z.rd) 0 P c Q N a w
def orL(a b:S->Option (Ex×S))(s:S):Option (Ex×S) :=
 match a s with
 | some r=>some r
 | none=>b s
def U0.or{nt:Nat}{c:Code}{a b:S->Option (Ex×S)}(k:U0 P base gl nt c a)(f:U0 P base gl nt c b):U0 P base gl nt c (orL a b):=by
 refine⟨fun s m e h=>?_,fun s m e h l=>?_⟩
 .unfold orL at h;split at h
  .rename_i r hr;cases h;exact k.lg _ _ _ hr
  .exact f.lg _ _ _ h
 .unfold orL at h;split at h
  .rename_i r hr;cases h;exact k.ok _ _ _ hr l
  .exact f.ok _ _ _ h l
def YX(P:Program)(base gl nt:Nat)(body:Code)(lp:LpT):Prop :=
 (∃ fn,P.funcs[lp.me]? = some fn/\fn.body=some body/\fn.ntmps=nt)/\∀ q x L,H5 q body=some (.loop x)->lp.look q=some L->U0 P base gl nt x L
def rZ{m m':Mem}{ab:AB}{k:Nat->Value}{v:Value}(h:y6 m ab k=some (v,m')):v=k m.n/\m.hi<=m'.hi/\m'.lg=m.lg:=by
 obtain⟨_,a,rfl⟩:=N1 h;exact⟨a,(L9 _ _).1,rfl⟩
def rR{m m':Mem}{id:Nat}{ab:AB}(h:iJ m id ab=some m'):m'.hi=m.hi/\m'.lg=m.lg:=by
 obtain⟨_,rfl⟩:=d8 h;exact⟨rfl,rfl⟩
def zS{fr:Fr}{hi b:Nat}{r:Res}{e:Ex}{a:S}(h:vR fr hi b r=some (e,a)):∃ v m f q vs st m',r=some (v,m)/\Hp.get m.H b=some (.lp f q vs st)/\nEx st=some e/\hi<=m.hi/\iJ m b (.lp f q vs 3)=some m'/\a=⟨fr,m'⟩:=by
 unfold vR at h;split at h
 .rename_i v m;split at h
  .rename_i f q vs st c;split at h
   .rename_i k he;obtain⟨h1,h⟩:=A6 h;split at h
    .rename_i m' hm;cases h;exact⟨_,_,_,_,_,_,_,rfl,c,he,A2 h1,hm,rfl⟩
    .cases h
   .cases h
  .cases h
 .cases h
def EA{call:U1}{f:FuncId}{fr:Fr}{m:Mem}{e:Ex}{t:S}(h:eV P nt call f q g fr m=some (e,t)) :
  ∃ m1 k a b,y6 m (.lp f q (frL fr 0 nt) 0) yv=some (yv m.n,m1)/\g=.func (.func k) a b/\wN P k=true/\vR fr m1.hi m.n ((call.fn k).run (a.toList++([yv m.n]++b.toList)) m1)=some (e,t):=by
 unfold eV at h;rw[J2]at h;split at h
 .rename_i v m1 l;have w:=(rZ l).1;subst w;have u:hO (yv m.n)=some m.n:=rfl;split at h
  .rename_i k as b c s;rw[u]at s;cases s;obtain⟨h1,h⟩:=A6 h;unfold CP at c;split at c
   .cases c;exact⟨m1,_,_,_,l,rfl,h1,h⟩
   .cases c
  .cases h
 .cases h
def tL{call:U1}(s:l7 P base gl call){f:FuncId}{fr:Fr}{m:Mem}{e:Ex}{c:S}(h:eV P nt call f q g fr m=some (e,c)):m.hi<=c.m.hi/\m.lg.le c.m.lg:=by
 obtain⟨m1,k,a,b,h1,_,_,w⟩:=EA h;obtain⟨v,m2,f,q,vs,st,m3,t,_,_,n,l,rfl⟩:=zS w
 have:=(s.fn k).lg _ _ _ _ t;obtain⟨g1,g2⟩:=rR l;obtain⟨_,y,u⟩:=rZ h1;refine⟨by show m.hi<=m3.hi;rw[g1];exact B9 y n,?_⟩;show m.lg.le m3.lg;rw[g2,<- u];exact this
def KU{call:U1}{f:FuncId}{x:XC}{s t:S}{e:Ex}(h:GE P nt call f q x s=some (e,t)):nt<=510 /\
  ((∃ k f0 u c,hO (s.fr.get 511)=some k/\Hp.get s.m.H k=some (.lp f0 u c 1)/\eV P nt call f q (x.run s.fr) s.fr s.m=some (e,t)) ∨
    (sH (s.fr.get 511)=true/\∃ m1,y6 s.m (.dfr true) (fun b=>.pointer (some ⟨b,0,none⟩))=some (.pointer (some ⟨s.m.n,0,none⟩),m1) /\
      eV P nt call f q (x.run s.fr) (s.fr.set 510 (dv (s.m.n::mC (s.fr.get 510)))) m1=some (e,t))):=by
 unfold GE at h;obtain⟨fr,m⟩:=s;obtain⟨h1,h⟩:=A6 h;refine⟨A2 h1,?_⟩;split at h
 .rename_i k B;split at h
  .rename_i f0 u c w;exact .inl ⟨k,f0,u,c,B,w,h⟩
  .cases h
 .obtain⟨A,h⟩:=A6 h;refine .inr ⟨A,?_⟩;split at h
  .rename_i a m1 v;have y:=(rZ v).1;cases y;rw[J2]at h;have:AU (sel 7) (sel 7) (sel 6) (dv (m.n::mC (fr.get 510))) fr (fun l=>eV P nt call f q (x.run fr) l m1)=eV P nt call f q (x.run fr) (fr.set 510 (dv (m.n::mC (fr.get 510)))) m1:=DJ 510 _ _ _;rw[this]at h;exact⟨m1,v,h⟩
  .cases h
def A2a{call:U1}(b:l7 P base gl call){f:FuncId}{x:XC}{s a:S}{e:Ex}(h:GE P nt call f q x s=some (e,a)):s.m.hi<=a.m.hi/\s.m.lg.le a.m.lg:=by
 obtain⟨_,⟨_,_,_,_,_,_,h⟩|⟨_,m1,l,h⟩⟩:=KU h
 .exact tL b h
 .have:=tL b h;obtain⟨_,c,k⟩:=rZ l;rw[k]at this;exact⟨B9 c this.1,this.2⟩
def A03(fr:Fr):∀ (n i j:Nat),(frL fr i n)[j]? = if j<n then some (fr.get (i+j))else none
 | 0,i,j=>by simp[frL]
 | n+1,i,0=>by simp[frL]
 | n+1,i,j+1=>by
   rw[frL,W8,A03 fr n (i+1) j];have:i+1+j=i+(j+1):=A0;rw[this];by_cases h:j<n
   .rw[A4 h,A4 A0]
   .rw[A3 h,A3 A0]
def OC(fr:Fr):∀ (n i:Nat),(frL fr i n).length=n
 | 0,i=>rfl
 | n+1,i=>by simp[frL,OC fr n]
def FrR.list{ρ:Ren}{fr:Fr}{a:Act}(h:FrR z ρ nt fr a):LR ρ (frL fr 0 nt) a.tmps.toList:=by
 refine⟨by rw[OC];simpa using h.size.symm,fun i v v' h1 b=>?_⟩;rw[A03]at h1;split at h1
 .rename_i hi;cases h1
  have:=h.get i hi;rw[G0];have h3:a.tmps.getD i undef=v':=by
   have:a.tmps[i]? = some v':=by simpa using b
   simp[C6,this]
  rw[h3]at this;exact this
 .cases h1
def XY{k:FuncId}(h:wN P k=true):∃ fn c,P.funcs[k]? = some fn/\fn.body=some c:=by
 unfold wN at h;split at h
 .rename_i fn b;split at h
  .rename_i c a;exact⟨fn,c,by simpa using b,a⟩
  .cases h
 .cases h
def tH{k:FuncId}{args:r7}{w w':World}{v:Value}(h:wN P k=true):(callFunc k args).run P w≠.ok (.value v) w':=by
 obtain⟨fn,c,h1,b⟩:=XY h;by_cases a:fn.name = "runtime.NumGoroutine"
 .simp[callFunc,h1,a]
 .simp[callFunc,h1,a,b]
def nF{w:World}{l:Nat}{o:Obj}(h:l<w.heap.size):(w.putObj l o).heap.size=w.heap.size/\(w.putObj l o).heap[l]? = some o/\∀ k,k≠l->(w.putObj l o).heap[k]? = w.heap[k]? := ⟨by simp[World.putObj],World.putObj_heap_same h,fun k a=>World.putObj_heap_other a⟩
def DZ{call:U1}(Z:l7 P base gl call){fn:Func}{body:Code}(f1:P.funcs[me]? = some fn)(f2:fn.body=some body)(f3:fn.ntmps=nt)(hq:H5 q body=some (.rangeFunc x ps as bd))
  {fr:Fr} {m:Mem} {e:Ex} {L:S} (h:eV P nt call me q g fr m=some (e,L)) (hS:Sat L.m.lg) {ρ:Ren} {a:Act} {w:World} {r:Loop} (y:At P base gl ρ m L.m.hi w) (hf:FrR z ρ nt fr a) (hg:VR ρ g (a.eval x))
  (hr:r.state=.ready/\r.pending=none/\r.tmps=a.tmps/\r.params=ps/\r.assign=as/\r.body=bd) {Q:Exit->Act->World->Prop}
  (hQ:∀ C w',FrR z C nt L.fr a->St P base ρ C m L.m w w'->Q e.out a w') :
  ∃ k args d,(resolve a.eval (rangeCall x w.heap.size) 0).run P (w.alloc (.loop r))=.ok d (w.alloc (.loop r))/\(invoke d.target d.args).run P (w.alloc (.loop r))=.ok (.enter k args) (w.alloc (.loop r)) /\
   CallsIn (fw z.rd) 0 P k args (w.alloc (.loop r)) (rangePost (fw z.rd) 0 P w.heap.size Q a):=by
 obtain⟨m1,k,A,B,h1,V,F,h2⟩:=EA h;obtain⟨v,m2,ff,qq,vs,st,m3,e1,e2,H,e4,e5,rfl⟩:=zS h2;obtain⟨g1,g2⟩:=rR e5;obtain⟨_,g3,g4⟩:=rZ h1;have N:Sat m2.lg:=by have:Sat m3.lg:=hS;rwa[g2]at this
 have f:M8 ρ m.n m3.hi:=y.fr;have hle:m1.hi<=m3.hi:=by rw[g1];exact e4
 obtain⟨r1,r2,r3,r4,r5,r6⟩:=hr;subst r4;subst r5;subst r6;have t:(w.alloc (.loop r)).heap=w.heap.push (.loop r):=rfl;have u:ρ m.n=none:=f m.n (B0 _) (by
  obtain⟨_,_,q⟩:=N1 h1;have:m1.hi=upN m.hi m.n:=by rw[q]
  have h3:=(L9 m.hi m.n).2;omega)
 obtain⟨_,k1,D⟩:=St.alloc (w':=w.alloc (.loop r)) (o:=.loop r) (l:=lc w.heap.size 0 0) y.hr y.bs h1 (f.less hle) ⟨rfl,rfl,rfl⟩ t rfl (by
  refine⟨⟨rfl,rfl⟩,r,by simp[t],⟨fn,body,x,f1,f2,hq,by rw[OC,f3]⟩,?_,⟨r1,r2⟩⟩;rw[r3];exact hf.list.mono (u5 u))
 have s:=y.step D;obtain⟨A,rfl⟩:∃ l:D6,A=⟨l⟩:=⟨A.toList,rfl⟩;obtain⟨B,rfl⟩:∃ l:D6,B=⟨l⟩:=⟨B.toList,rfl⟩;subst V;generalize X:a.eval x=gx at hg;cases hg with
 | pure hp=>simp[K5]at hp
 | func ha R q1 q2 =>
   rename_i K M;have lA:LR ρ A K:=⟨ha,q1⟩;have lB:LR ρ B M:=⟨R,q2⟩;have hy:VR (upd ρ m.n (lc w.heap.size 0 0)) (yv m.n) (.func (.yield w.heap.size) #[] #[]):=VR.yv k1;have hl:=(lA.mono D.ext).append ((LR.cons hy .nil).append (lB.mono D.ext));refine⟨k,⟨K++([.func (.yield w.heap.size) #[] #[]]++M)⟩,{ target:=.fn (.func k) ⟨M⟩,args:=⟨K⟩++#[.func (.yield w.heap.size) #[] #[]] },?_,?_,?_⟩
   .show(Deferred.ofValue (a.eval x) _).run P _=_;rw[X];simp[Deferred.ofValue,Act.eval]
   .have Y:(callFunc k ⟨K++([.func (.yield w.heap.size) #[] #[]]++M)⟩).run P (w.alloc (.loop r))=.ok (.enter k ⟨K++([.func (.yield w.heap.size) #[] #[]]++M)⟩) (w.alloc (.loop r)):=by
     rcases(Z.fn k).ok _ m1 m2 _ _ _ v e1 N (s.less (by show m2.hi<=m3.hi;rw[g1];exact B0 _)) hl with⟨O,_⟩|⟨v',C,w',O,_⟩
     .exact O
     .exact absurd O (tH F)
    rw[<- Y];show(callFunc k _).run P _=_;congr 2;apply L3;simp
   .rcases(Z.fn k).ok _ m1 m2 _ _ _ v e1 N (s.less (by show m2.hi<=m3.hi;rw[g1];exact B0 _)) hl with⟨_,c2⟩|⟨v',C,w',O,_⟩
    .refine tW.2 (c2.mono fun en w2 ⟨v',ρ2,he,hv,E⟩=>?_);subst he;have k2:=E.ext _ _ k1;obtain⟨b1,b2⟩:=E.hr.atl k2 e2;obtain⟨⟨b3,b4⟩,G,U,T⟩:=b1;have U:w2.heap[w.heap.size]? = some (.loop G):=U;have I:G.state≠.busy:=by
      have c:=T.st;intro R
      match st,c,H with
      | 0,c,_=>rw[R]at c;cases c.1
      | 2,c,_=>rw[R]at c;cases c.1
      | k+4,c,_=>rw[R]at c;cases c.1
     obtain⟨p1,p2,p3⟩:=nF (o:=.loop { G with state:=.exhausted }) (E4.1 U).1;have W:St P base ρ2 ρ2 m2 m3 w2 (w2.putObj w.heap.size (.loop { G with state:=.exhausted })):=St.write E.hr e5 e2 rfl k2 rfl ⟨rfl,rfl,rfl⟩ p1 p3 ⟨⟨rfl,rfl⟩,_,p2,T.code,T.fr,trivial⟩;have J:St P base ρ ρ2 m m3 w _:=St.trans f D (St.trans s.fr E W);have b:=hQ ρ2 _ (hf.mono J.ext) J;refine⟨G.pending,_,run_endLoop U I,?_⟩;have c:=T.st
     match st,c,H with
     | 0,c,H=>cases H;rw[show G.pending=none from c.2]at b ⊢;exact b
     | 2,c,H=>cases H;rw[show G.pending=some .ret from c.2]at b ⊢;exact wpIn_ret b
     | k+4,c,H=>cases H;rw[show G.pending=some (.exit k)from c.2]at b ⊢;exact wpIn_exit b
    .exact absurd O (tH F)
def A42{call:U1}(M:l7 P base gl call){fn:Func}{body:Code}(f1:P.funcs[me]? = some fn)(f2:fn.body=some body)(f3:fn.ntmps=nt)(V:H5 q body=some (.rangeFunc x ps as bd))(hx:okX nt gl x=true)
  {s E:S} {e:Ex} {ρ:Ren} {a:Act} {w:World} {Q:Exit->Act->World->Prop} (h:GE P nt call me q (Y5 x) s=some (e,E)) (W:Sat E.m.lg) (c:At P base gl ρ s.m E.m.hi w) (G:FrR z ρ nt s.fr a)
  (X:∀ u a' w',FrR z u nt E.fr a'->St P base ρ u s.m E.m w w'->Q e.out a' w'):(Code.rangeFunc x ps as bd).wpIn (fw z.rd) 0 P Q a w:=by
 obtain⟨I,h⟩:=KU h;refine wpIn_rangeFunc fun b _=>?_
 have Z:=G.ev c.gr hx;rcases h with⟨b0,f0,q0,az,hy,hg,h⟩|⟨hu,m1,B,h⟩
 .obtain⟨l0,e1,e2⟩:=(G.rd I).2 b0 hy;obtain⟨⟨_,Y,b1,_⟩,_⟩:=c.hr.atl e1 hg;have D:(Instr.enterLoop b a.tmps ps as bd (fw z.rd).round).run P w=.ok (w.heap.size,[]) (w.alloc (.loop { state:=.ready,pending:=none,fn:=b,tmps:=a.tmps,params:=ps,assign:=as,body:=bd,defers:=Y.defers })):=by
   show(Instr.enterLoop b a.tmps ps as bd z.rd).run P w=_;rw[e2];unfold Instr.enterLoop;simp only[A8,run_getLoop b1,run_newObj_alloc,Result.andThen,Sem.run_pure]
  rw[hJ]at h;obtain⟨k,args,d,K,R,J⟩:=DZ (r:={ state:=.ready,pending:=none,fn:=b,tmps:=a.tmps,params:=ps,assign:=as,body:=bd,defers:=Y.defers }) M f1 f2 f3 V h W c G Z ⟨rfl,rfl,rfl,rfl,rfl,rfl⟩ (Q:=Q) fun u w' g1 g2=>X u a w' g1 g2
  exact⟨_,_,_,d,_,k,args,_,D,K,fun _ _=>trivial,R,wP,J⟩
 .have T:=(G.rd I).1 hu;have y:M8 ρ s.m.n E.m.hi:=c.fr;have U:=tL M h;obtain⟨_,g3,g4⟩:=rZ B;have D:(Instr.enterLoop b a.tmps ps as bd (fw z.rd).round).run P w=.ok (w.heap.size+1,[{ target:=.collected w.heap.size,args:=#[] }]) ((w.alloc (.deferred (some []))).alloc (.loop { state:=.ready,pending:=none,fn:=b,tmps:=a.tmps,params:=ps,assign:=as,body:=bd,defers:=w.heap.size })):=by
   show(Instr.enterLoop b a.tmps ps as bd z.rd).run P w=_;rw[T];exact run_enterLoop_outer b a.tmps ps as bd
  have f:(w.alloc (.deferred (some []))).heap=w.heap.push (.deferred (some [])):=rfl;obtain⟨_,k1,A⟩:=St.alloc (w':=w.alloc (.deferred (some []))) (o:=.deferred (some [])) (l:=lc w.heap.size 0 0) c.hr c.bs B (y.less U.1) ⟨rfl,rfl,rfl⟩ f rfl ⟨⟨rfl,rfl⟩,_,by simp[f],fun _=>rfl⟩;have F:=c.step A;have L:(w.alloc (.deferred (some []))).heap.size=w.heap.size+1:=by simp[f]
  let a2:Act:={ a with defers:={ target:=.collected w.heap.size,args:=#[] }::a.defers }
  have O:FrR z (upd ρ s.m.n (lc w.heap.size 0 0)) nt (s.fr.set 510 (dv (s.m.n::mC (s.fr.get 510)))) a2:=by
   have v:=G.mono A.ext;have C:∀ t,t<512->t≠510->(s.fr.set 510 (dv (s.m.n::mC (s.fr.get 510)))).get t=s.fr.get t:=fun t h1 H=>by rw[Q4 _ _ _ _ B8 h1,A3 H]
   refine⟨v.size,v.le,?_,fun _=>by rw[C 511 B8 B8];exact v.rd I,fun t ht=>by rw[C t A0 A0];exact v.get t ht⟩;obtain⟨ds,d1,d2⟩:=v.df;refine⟨{ target:=.collected w.heap.size,args:=#[] }::ds,by show _::a.defers=_;rw[d1];rfl,?_⟩;unfold dvG at d2 ⊢;have hb:Nat.ble nt 510=true:=D2 I;rw[hb]at d2 ⊢;rw[Q4 _ _ _ _ B8 B8,A4 rfl];have hd:mC (dv (s.m.n::mC (s.fr.get 510)))=s.m.n::mC (s.fr.get 510):=by
    simp[mC,dv,B2P,Function.comp_def]
   simp only[F7,hd]at d2 ⊢;refine⟨by simp[d2.1],fun i id d h1 H=>?_⟩;cases i with
   | zero =>
     simp only[W7,D9]at h1 H;subst h1;subst H;exact⟨_,k1,rfl⟩
   | succ i=>exact d2.2 i id d (by simpa using h1) (by simpa using H)
  have N:VR (upd ρ s.m.n (lc w.heap.size 0 0)) ((Y5 x).run s.fr) (a2.eval x):=by
   rw[hJ];exact Z.mono A.ext
  obtain⟨k,args,d,K,R,J⟩:=DZ (r:={ state:=.ready,pending:=none,fn:=b,tmps:=a.tmps,params:=ps,assign:=as,body:=bd,defers:=w.heap.size }) M f1 f2 f3 V h W F O N ⟨rfl,rfl,rfl,rfl,rfl,rfl⟩ (Q:=Q) fun u w' g1 g2=>X u a2 w' g1 (St.trans y A g2)
  rw[L]at K J;exact⟨_,_,_,d,_,k,args,_,D,K,fun _ _=>trivial,R,wP,J⟩
def EL{call:U1}{lp:LpT}{q:List Bool}{x:Code}(f:∀ (s c:S) (e:Ex),(R9 P nt gl call lp q x).run s=some (e,c)->s.m.hi<=c.m.hi/\s.m.lg.le c.m.lg):∀ (n:Nat) (s c:S) (e:Ex),JL (R9 P nt gl call lp q x) n s=some (e,c)->s.m.hi<=c.m.hi/\s.m.lg.le c.m.lg
 | 0,s,c,e,h=>by cases h
 | n+1,s,c,e,h=>by
   unfold JL at h;split at h
   .rename_i s1 h1;have a:=f _ _ _ h1;have b:=EL f n _ _ _ h;exact⟨B9 a.1 b.1,a.2.trans b.2⟩
   .exact f _ _ _ h
def EM{call:U1}{lp:LpT}{q:List Bool}{x:Code}{L:S->Option (Ex×S)}(f:∀ (s c:S) (e:Ex),(R9 P nt gl call lp q x).run s=some (e,c)->s.m.hi<=c.m.hi/\s.m.lg.le c.m.lg)
  (k:∀ (s c:S) (e:Ex),L s=some (e,c)->s.m.hi<=c.m.hi/\s.m.lg.le c.m.lg):∀ (n:Nat) (s c:S) (e:Ex),JM (R9 P nt gl call lp q x) L n s=some (e,c)->s.m.hi<=c.m.hi/\s.m.lg.le c.m.lg
 | 0,s,c,e,h=>by cases h
 | n+1,s,c,e,h=>by
   unfold JM at h;split at h
   .rename_i r hr;cases h;exact k _ _ _ hr
   .split at h
    .rename_i s1 h1;have a:=f _ _ _ h1;have b:=EM f k n _ _ _ h;exact⟨B9 a.1 b.1,a.2.trans b.2⟩
    .exact f _ _ _ h
def UV{c:XC}{a b:kM}{s l:S}{e:Ex}(h:UW c a b s=some (e,l)):∃ t lg,brL s.m.lg (c.run s.fr)=some (t,lg)/\(bif t then a.run ⟨s.fr,s.m.wLg lg⟩else b.run ⟨s.fr,s.m.wLg lg⟩)=some (e,l):=by
 obtain⟨fr,⟨H,n,W,hi,lg⟩⟩:=s;unfold UW at h;split at h
 .rename_i f;exact⟨true,lg,by rw[f];rfl,h⟩
 .rename_i f;exact⟨false,lg,by rw[f];rfl,h⟩
 .simp only at h;split at h
  .rename_i lg' k;exact⟨true,lg',k,h⟩
  .rename_i lg' k;exact⟨false,lg',k,h⟩
  .cases h
def Z5{call:U1}{lp:LpT}{body:Code}(u:l7 P base gl call)(v:gR P base gl call)(l:YX P base gl nt body lp):∀ (c:Code) (q:List Bool),H5 q body=some c->∀ (s k:S) (e:Ex),(R9 P nt gl call lp q c).run s=some (e,k)->s.m.hi<=k.m.hi/\s.m.lg.le k.m.lg
 | .skip,q,f,s,k,e,h=>by have h:some (Ex.normal,s)=some (e,k):=h;cases h;exact⟨B0 _,.refl _⟩
 | .label _,q,f,s,k,e,h=>by have h:some (Ex.normal,s)=some (e,k):=h;cases h;exact⟨B0 _,.refl _⟩
 | .exit id,q,f,s,k,e,h=>by have h:some (Ex.exit id,s)=some (e,k):=h;cases h;exact⟨B0 _,.refl _⟩
 | .ret,q,f,s,k,e,h=>by have h:some (Ex.ret,s)=some (e,k):=h;cases h;exact⟨B0 _,.refl _⟩
 | .region id ops d,q,f,s,k,e,h=>by
   cases d with
   | false =>
     have h:x9 (e9 P nt gl call ops.toList ops.toList) s=some (e,k):=h;unfold x9 at h;split at h
     .rename_i s1 h1;cases h;exact⟨xU _ _ _ h1,pO u _ _ _ h1⟩
     .cases h
   | true =>
     unfold R9 at h;simp only at h;cases f:OM ops with
     | false=>rw[f]at h;cases h
     | true =>
       rw[f]at h;have go:x9 ⟨bX P nt gl call ops.toList ops.toList 0 (y7 ops.toList []) [] []⟩ s=some (e,k)->s.m.hi<=k.m.hi/\s.m.lg.le k.m.lg:=fun h=>by
        unfold x9 at h;split at h
        .rename_i s1 h1;cases h;exact(v.2 nt ops f _ _ h1).1
        .cases h
       simp only[F7]at h;cases hr:pK ops.toList with
       | false=>rw[hr]at h;exact go h
       | true =>
         rw[hr]at h;simp only[F7]at h;cases hm:pU P nt gl s.fr s.m.H ops.toList with
         | false=>rw[hm]at h;exact go h
         | true =>
           rw[hm]at h;simp only[F7]at h;unfold x9 at h;split at h
           .rename_i s1 h1;cases h;exact⟨xU _ _ _ h1,pO u _ _ _ h1⟩
           .cases h
 | .seq x y,q,f,s,k,e,h=>by
   have w:=Z5 u v l x (q++[false]) (K9 f rfl);have A:=Z5 u v l y (q++[true]) (K9 f rfl);have h:A7A (R9 P nt gl call lp (q++[false]) x) (R9 P nt gl call lp (q++[true]) y) s=some (e,k):=h;unfold A7A at h;split at h
   .rename_i s1 h1;have a:=w _ _ _ h1;have b:=A _ _ _ h;exact⟨B9 a.1 b.1,a.2.trans b.2⟩
   .exact w _ _ _ h
 | .cond c x y,q,f,s,k,e,h=>by
   have w:=Z5 u v l x (q++[false]) (K9 f rfl);have A:=Z5 u v l y (q++[true]) (K9 f rfl);unfold R9 at h;cases f:okX nt gl c with
   | false=>rw[f]at h;cases h
   | true =>
     rw[f]at h;have h:UW (Y5 c) (R9 P nt gl call lp (q++[false]) x) (R9 P nt gl call lp (q++[true]) y) s=some (e,k):=h;obtain⟨t,lg,h1,B⟩:=UV h;have D:=qU h1;obtain⟨fr,⟨H,n,W,hi,l0⟩⟩:=s;cases t with
     | true=>have a:=w _ _ _ B;exact⟨a.1,D.trans a.2⟩
     | false=>have b:=A _ _ _ B;exact⟨b.1,D.trans b.2⟩
 | .block id x,q,f,s,k,e,h=>by
   have w:=Z5 u v l x (q++[false]) (K9 f rfl);have h:GG id (R9 P nt gl call lp (q++[false]) x) s=some (e,k):=h;unfold GG at h;split at h
   .rename_i j s1 h1
    have:=w _ _ _ h1;cases f:Nat.beq j id<;>rw[f]at h<;>cases h<;>exact this
   .exact w _ _ _ h
 | .loop x,q,f,s,k,e,h=>by
   have h:UU (R9 P nt gl call lp (q++[false]) x) (lp.look q) s=some (e,k):=h;unfold UU at h;split at h
   .rename_i L E;exact EM (Z5 u v l x (q++[false]) (K9 f rfl)) (l.2 q x L f E).lg _ _ _ _ h
   .exact EL (Z5 u v l x (q++[false]) (K9 f rfl)) _ _ _ _ h
 | .rangeFunc x _ _ _,q,f,s,k,e,h=>by
   unfold R9 at h;cases C:okX nt gl x with
   | false=>rw[C]at h;cases h
   | true=>rw[C]at h;exact A2a u h
 | .scope x,q,f,s,k,e,h=>Z5 u v l x (q++[false]) (K9 f rfl) s k e h
 | .goto _,q,f,s,k,e,h=>by cases h
 | .refuse _,q,f,s,k,e,h=>by cases h
def Y1{call:U1}{lp:LpT}{body:Code}(D:l7 P base gl call)(E:gR P base gl call)(l:YX P base gl nt body lp):∀ (c:Code) (q:List Bool),H5 q body=some c->∀ (ρ:Ren) (s f:S) (e:Ex) (a:Act) (w:World) (Q:Exit->Act->World->Prop),(R9 P nt gl call lp q c).run s=some (e,f)->Sat f.m.lg->At P base gl ρ s.m f.m.hi w->FrR z ρ nt s.fr a ->
  (∀ K a' w',FrR z K nt f.fr a'->St P base ρ K s.m f.m w w'->Q e.out a' w')->c.wpIn (fw z.rd) 0 P Q a w
 | .skip,q,C,ρ,s,f,e,a,w,Q,h,hS,b,v,A=>by have h:some (Ex.normal,s)=some (e,f):=h;cases h;exact wpIn_skip (A ρ a w v (.refl b.hr))
 | .label _,q,C,ρ,s,f,e,a,w,Q,h,hS,b,v,A=>by have h:some (Ex.normal,s)=some (e,f):=h;cases h;exact wpIn_label (A ρ a w v (.refl b.hr))
 | .exit id,q,C,ρ,s,f,e,a,w,Q,h,hS,b,v,A=>by have h:some (Ex.exit id,s)=some (e,f):=h;cases h;exact wpIn_exit (A ρ a w v (.refl b.hr))
 | .ret,q,C,ρ,s,f,e,a,w,Q,h,hS,b,v,A=>by have h:some (Ex.ret,s)=some (e,f):=h;cases h;exact wpIn_ret (A ρ a w v (.refl b.hr))
 | .region id ops d,q,C,ρ,s,f,e,a,w,Q,h,hS,b,v,A=>by
   cases d with
   | false =>
     have h:x9 (e9 P nt gl call ops.toList ops.toList) s=some (e,f):=h;unfold x9 at h;split at h
     .rename_i s1 h1;cases h;exact AQ (NC D _ ρ s f a w h1 hS b v A)
     .cases h
   | true =>
     unfold R9 at h;simp only at h;cases C:OM ops with
     | false=>rw[C]at h;cases h
     | true =>
       rw[C]at h;have go:x9 ⟨bX P nt gl call ops.toList ops.toList 0 (y7 ops.toList []) [] []⟩ s=some (e,f)->(Code.region id ops true).wpIn (fw z.rd) 0 P Q a w:=fun h=>by
        unfold x9 at h;split at h
        .rename_i s1 h1;cases h;exact(E.2 nt ops C _ _ h1).2 z ρ a w id Q hS b v A
        .cases h
       simp only[F7]at h;cases hr:pK ops.toList with
       | false=>rw[hr]at h;exact go h
       | true =>
         rw[hr]at h;simp only[F7]at h;cases hm:pU P nt gl s.fr s.m.H ops.toList with
         | false=>rw[hm]at h;exact go h
         | true =>
           rw[hm]at h;simp only[F7]at h;unfold x9 at h;split at h
           .rename_i s1 h1;cases h;exact XA E.1 D hr hm h1 hS b v A
           .cases h
 | .seq x y,q,C,ρ,s,f,e,a,w,Q,h,hS,b,v,A=>by
   have B:H5 (q++[false]) body=some x:=K9 C rfl;have J:H5 (q++[true]) body=some y:=K9 C rfl;have h:A7A (R9 P nt gl call lp (q++[false]) x) (R9 P nt gl call lp (q++[true]) y) s=some (e,f):=h;unfold A7A at h;split at h
   .rename_i s1 h1;have hh:=Z5 D E l y _ J _ _ _ h;refine wpIn_seq (Y1 D E l x _ B ρ s s1 .normal a w _ h1 (V3.le hS hh.2) (b.less hh.1) v fun u G w1 f1 k=>?_);exact Y1 D E l y _ J u s1 f e G w1 Q h hS (b.step k) f1 fun ρ2 a2 w2 f2 F=>A ρ2 a2 w2 f2 (St.trans b.fr k F)
   .rename_i I;refine wpIn_seq (Y1 D E l x _ B ρ s f e a w _ h hS b v fun u G w1 f1 k=>?_)
    have:=A u G w1 f1 k;cases e with
    | normal=>exact absurd h (I f)
    | exit id=>exact this
    | ret=>exact this
 | .cond c x y,q,C,ρ,s,f,e,a,w,Q,h,hS,b,v,A=>by
   have B:H5 (q++[false]) body=some x:=K9 C rfl;have J:H5 (q++[true]) body=some y:=K9 C rfl;unfold R9 at h;cases O:okX nt gl c with
   | false=>rw[O]at h;cases h
   | true =>
     rw[O]at h;have h:UW (Y5 c) (R9 P nt gl call lp (q++[false]) x) (R9 P nt gl call lp (q++[true]) y) s=some (e,f):=h;have hv:=v.ev b.gr O;obtain⟨t,lg,h1,V⟩:=UV h;rw[hJ]at h1;have T:St P base ρ ρ s.m (s.m.wLg lg) w w:=St.wLg b.hr lg;cases t with
     | true =>
       have hh:=Z5 D E l x _ B _ _ _ V;have hl:Sat lg:=V3.le hS (by obtain⟨fr,⟨H,n,W,hi,l0⟩⟩:=s;exact hh.2);exact wpIn_cond_true (tY h1 hv hl) (Y1 D E l x _ B ρ ⟨s.fr,s.m.wLg lg⟩ f e a w Q V hS (b.wLg lg) v fun ρ2 a2 w2 f2 F=>A ρ2 a2 w2 f2 (St.trans b.fr T F))
     | false =>
       have hh:=Z5 D E l y _ J _ _ _ V;have hl:Sat lg:=V3.le hS (by obtain⟨fr,⟨H,n,W,hi,l0⟩⟩:=s;exact hh.2);exact wpIn_cond_false (tY h1 hv hl) (Y1 D E l y _ J ρ ⟨s.fr,s.m.wLg lg⟩ f e a w Q V hS (b.wLg lg) v fun ρ2 a2 w2 f2 F=>A ρ2 a2 w2 f2 (St.trans b.fr T F))
 | .block id x,q,C,ρ,s,f,e,a,w,Q,h,hS,b,v,A=>by
   have B:H5 (q++[false]) body=some x:=K9 C rfl;have h:GG id (R9 P nt gl call lp (q++[false]) x) s=some (e,f):=h;unfold GG at h;split at h
   .rename_i j s1 h1;cases M:Nat.beq j id with
    | true =>
      rw[M]at h;cases h;have Y:=A1 M;refine wpIn_block (Y1 D E l x _ B ρ s f (.exit j) a w _ h1 hS b v fun u G w1 f1 k=>?_)
      have:=A u G w1 f1 k
      simpa [Exit.inBlock,Ex.out,Y]using this
    | false =>
      rw[M]at h;cases h;have Y:j≠id:=fun e=>by subst e;simp at M
      refine wpIn_block (Y1 D E l x _ B ρ s f (.exit j) a w _ h1 hS b v fun u G w1 f1 k=>?_)
      have:=A u G w1 f1 k
      simpa [Exit.inBlock,Ex.out,Y]using this
   .rename_i I;refine wpIn_block (Y1 D E l x _ B ρ s f e a w _ h hS b v fun u G w1 f1 k=>?_)
    have:=A u G w1 f1 k;cases e with
    | normal=>exact this
    | exit j=>exact absurd h (I j f)
    | ret=>exact this
 | .loop x,q,C,ρ,s,f,e,a,w,Q,h,hS,b,v,A=>by
   have B:H5 (q++[false]) body=some x:=K9 C rfl;replace h:UU (R9 P nt gl call lp (q++[false]) x) (lp.look q) s=some (e,f):=h;unfold UU at h;split at h
   .rename_i L hL;have U:=l.2 q x L C hL;have key:∀ (n:Nat) (s:S),JM (R9 P nt gl call lp (q++[false]) x) L n s=some (e,f)->∃ N,∀ (ρ:Ren) (a:Act) (w:World) (Q:Exit->Act->World->Prop),At P base gl ρ s.m f.m.hi w->FrR z ρ nt s.fr a ->
      (∀ K a' w',FrR z K nt f.fr a'->St P base ρ K s.m f.m w w'->Q e.out a' w')->Code.roundsIn (fw z.rd) 0 P x Q N a w:=by
     intro n;induction n with
     | zero=>intro s h;cases h
     | succ n X =>
       intro s h;unfold JM at h;split at h
       .rename_i r hr;cases h;obtain⟨N,R⟩:=U.ok s f e hr hS;exact⟨N,R z⟩
       .split at h
        .rename_i s1 h1;obtain⟨N,R⟩:=X s1 h;have hh:=EM (Z5 D E l x _ B) U.lg _ _ _ _ h;refine⟨N+1,fun ρ a w Q b v A=>?_⟩;show x.wpIn (fw z.rd) 0 P (Exit.then (Code.roundsIn (fw z.rd) 0 P x Q N) Q) a w;refine Y1 D E l x _ B ρ s s1 .normal a w _ h1 (V3.le hS hh.2) (b.less hh.1) v fun u G w1 f1 k=>?_
         exact R u G w1 Q (b.step k) f1 fun ρ2 a2 w2 f2 F=>A ρ2 a2 w2 f2 (St.trans b.fr k F)
        .rename_i I;refine⟨1,fun ρ a w Q b v A=>?_⟩;show x.wpIn (fw z.rd) 0 P (Exit.then (Code.roundsIn (fw z.rd) 0 P x Q 0) Q) a w;refine Y1 D E l x _ B ρ s f e a w _ h hS b v fun u G w1 f1 k=>?_
         have:=A u G w1 f1 k;cases e with
         | normal=>exact absurd h (I f)
         | exit id=>exact this
         | ret=>exact this
    obtain⟨N,R⟩:=key _ s h;exact wpIn_loop_rounds N (R ρ a w Q b v A)
   obtain⟨n,h0⟩:∃ n,JL (R9 P nt gl call lp (q++[false]) x) n s=some (e,f):=⟨_,h⟩;clear h;have h:=h0;clear h0;refine wpIn_loop_rounds n ?_;induction n generalizing s ρ a w with
   | zero=>cases h
   | succ n X =>
     unfold JL at h;show x.wpIn (fw z.rd) 0 P (Exit.then (Code.roundsIn (fw z.rd) 0 P x Q n) Q) a w;split at h
     .rename_i s1 h1;have hh:=EL (Z5 D E l x _ B) _ _ _ _ h;refine Y1 D E l x _ B ρ s s1 .normal a w _ h1 (V3.le hS hh.2) (b.less hh.1) v fun u G w1 f1 k=>?_
      exact X u s1 G w1 (b.step k) f1 (fun ρ2 a2 w2 f2 F=>A ρ2 a2 w2 f2 (St.trans b.fr k F)) h
     .rename_i I;refine Y1 D E l x _ B ρ s f e a w _ h hS b v fun u G w1 f1 k=>?_
      have:=A u G w1 f1 k;cases e with
      | normal=>exact absurd h (I f)
      | exit id=>exact this
      | ret=>exact this
 | .rangeFunc x ps as bd,q,C,ρ,s,f,e,a,w,Q,h,hS,b,v,A=>by
   unfold R9 at h;cases Z:okX nt gl x with
   | false=>rw[Z]at h;cases h
   | true =>
     rw[Z]at h;obtain⟨fn,f1,f2,f3⟩:=l.1;exact A42 D f1 f2 f3 C Z h hS b v A
 | .scope x,q,C,ρ,s,f,e,a,w,Q,h,hS,b,v,A=>VQ (Y1 D E l x _ (K9 C rfl) ρ s f e a w _ h hS b v fun u G w1 f1 k=>by cases e<;>exact A u G w1 f1 k)
 | .goto _,q,C,ρ,s,f,e,a,w,Q,h,hS,b,v,A=>by cases h
 | .refuse _,q,C,ρ,s,f,e,a,w,Q,h,hS,b,v,A=>by cases h
end
end
section
open Go
variable [Ora]
def yC{c:Hp AB}:∀ (l:List Nat) (H:Hp AB),(∀ b ∈ l,b<=J0)->∀ id,id<=J0->Hp.get (iW c H l) id=if id ∈ l then Hp.get c id else Hp.get H id
 | [],H,_,id,_=>by simp[iW]
 | b::r,H,hl,id,hid=>by
   have e:=hl b C7;rw[iW,iO,yC r _ (fun x f=>hl x (D1 _ f)) id hid,F5 _ _ _ _ e hid];by_cases h1:id ∈ r
   .rw[A4 h1,A4 (D1 _ h1)]
   .rw[A3 h1];by_cases a:id=b
    .subst a;rw[A4 rfl,A4 C7]
    .rw[A3 a,A3 (by simp[h1,a])]
theorem p9{l:I9}{b:Nat}:cV l b=true↔b ∈ l:=by
 unfold cV;rw[Y7];constructor
 .rintro⟨x,a,h⟩;rw[A1 h];exact a
 .intro h;exact⟨b,h,by simp⟩
def xX:∀ (l acc:List Nat) (b:Nat),b ∈ tF l acc↔b ∈ l∨b ∈ acc
 | [],acc,b=>by simp[tF]
 | x::r,acc,b=>by
   unfold tF;cases h:cV acc x with
   | true =>
     have a:=p9.1 h;simp only[F7];rw[xX r acc b];constructor
     .rintro(h|h)
      .exact .inl (D1 _ h)
      .exact .inr h
     .rintro(h|h)
      .rcases B7.1 h with rfl|h
       .exact .inr a
       .exact .inl h
      .exact .inr h
   | false =>
     simp only[E8];rw[xX r (x::acc) b];simp only[B7];constructor
     .rintro(h|h|h)
      .exact .inl (.inr h)
      .exact .inl (.inl h)
      .exact .inr h
     .rintro((h|h)|h)
      .exact .inr (.inl h)
      .exact .inl h
      .exact .inr (.inr h)
def yT{l:I9}(h:OY l=true):∀ b ∈ l,b<=J0:=fun b a=>A2 (D7.1 h b a)
section
variable {P:Program} {base gl nt:Nat}
def XN{ρ y:Ren}{n:Nat}(f:∀ b l,b<n->y b=some l->ρ b=some l){v v':Value}(h:VR y v v'):∀ (d:Nat),dW n d v=true->VR ρ v v':=by
 have A:∀ (low:Value->Bool) (a:List Value),xZ low a=true->∀ (i:Nat) (v:Value),a[i]? = some v->low v=true:=fun low a=>by
  induction a with
  | nil=>intro _ i v h;simp at h
  | cons x r t =>
    intro h i v hi;obtain⟨h1,m⟩:=C5 (show(low x && xZ low r)=true from h);cases i with
    | zero=>simp at hi;subst hi;exact h1
    | succ i=>exact t m i v (by simpa using hi)
 induction h with
 | pure h=>intro d _;exact .pure h
 | hole h H=>intro d _;exact .hole h H
 | junk h=>intro d _;exact .junk h
 | ixp h B hi L J =>
   intro d e;cases d with
   | zero=>cases e
   | succ d =>
     obtain⟨g1,_⟩:=C5 e;obtain⟨g1,_⟩:=C5 (show(dW n d _ && _)=true from g1);cases d with
     | zero=>cases g1
     | succ d=>exact .ixp (f _ _ (A2 g1) h) B hi L J
 | dat h h1 m h3 C =>
   intro d e;cases d with
   | zero=>cases e
   | succ d =>
     obtain⟨g1,_⟩:=C5 e;obtain⟨g1,_⟩:=C5 (show(dW n d _ && _)=true from g1);cases d with
     | zero=>cases g1
     | succ d=>exact .dat (f _ _ (A2 g1) h) h1 m h3 C
 | clp h h1 m h3 C F =>
   intro d e;cases d with
   | zero=>cases e
   | succ d =>
     obtain⟨g1,_⟩:=C5 e;obtain⟨g1,_⟩:=C5 (show(dW n d _ && _)=true from g1);cases d with
     | zero=>cases g1
     | succ d=>exact .clp (f _ _ (A2 g1) h) h1 m h3 C F
 | own h h1 m =>
   intro d e;cases d with
   | zero=>cases e
   | succ d =>
     obtain⟨g1,_⟩:=C5 e;obtain⟨g1,_⟩:=C5 (show(dW n d _ && _)=true from g1);cases d with
     | zero=>cases g1
     | succ d=>exact .own (h.imp (fun⟨l,w,a,b⟩=>⟨l,w,f _ _ (A2 g1) a,b⟩) fun⟨l,w,rows,a,b⟩=>⟨l,w,rows,f _ _ (A2 g1) a,b⟩) h1 m
 | dpt h h1 m =>
   intro d e;cases d with
   | zero=>cases e
   | succ d =>
     obtain⟨g1,_⟩:=C5 e;obtain⟨g1,_⟩:=C5 (show(dW n d _ && _)=true from g1);cases d with
     | zero=>cases g1
     | succ d=>exact .dpt (let ⟨l,w,rows,a,s,c,k,h0,r⟩:=h;⟨l,w,rows,a,s,c,k,f _ _ (A2 g1) h0,r⟩) h1 m
 | opt h h1 m =>
   intro d e;cases d with
   | zero=>cases e
   | succ d =>
     obtain⟨g1,_⟩:=C5 e;obtain⟨g1,_⟩:=C5 (show(dW n d _ && _)=true from g1);cases d with
     | zero=>cases g1
     | succ d=>exact .opt (let ⟨l,w,rows,k,h0,r⟩:=h;⟨l,w,rows,k,f _ _ (A2 g1) h0,r⟩) h1 m
 | ptr h=>intro d e;cases d with|zero=>cases e|succ d=>exact .ptr (f _ _ (A2 e) h)
 | sl h hm=>intro d e;cases d with|zero=>cases e|succ d=>exact .sl (f _ _ (A2 e) h) hm
 | op h hm I G=>intro d e;cases d with|zero=>cases e|succ d=>exact .op (f _ _ (A2 e) h) hm I G
 | opE B=>intro d _;exact .opE B
 | map h=>intro d e;cases d with|zero=>cases e|succ d=>exact .map (f _ _ (A2 e) h)
 | sdt h =>
   intro d e;cases d with
   | zero=>cases e
   | succ d =>
     obtain⟨g1,_⟩:=C5 e;obtain⟨g1,_⟩:=C5 (show(dW n d _ && _)=true from g1);cases d with
     | zero=>cases g1
     | succ d=>exact .sdt (let ⟨l,a,b⟩:=h;⟨l,f _ _ (A2 g1) a,b⟩)
 | yv h =>
   intro d e;cases d with
   | zero=>cases e
   | succ d =>
     obtain⟨g1,_⟩:=C5 e;obtain⟨g1,_⟩:=C5 (show(dW n d _ && _)=true from g1);cases d with
     | zero=>cases g1
     | succ d=>exact .yv (f _ _ (A2 g1) h)
 | func u K h1 m D E =>
   intro d e;cases d with
   | zero=>cases e
   | succ d =>
     obtain⟨g1,g2⟩:=C5 e;exact .func u K (fun i v v' a b=>D i v v' a b d (A _ _ g1 i v a)) (fun i v v' a b=>E i v v' a b d (A _ _ g2 i v a))
 | iface h t=>intro d e;cases d with|zero=>cases e|succ d=>exact .iface (t d e)
 | agg u h t=>intro d e;cases d with|zero=>cases e|succ d=>exact .agg u (fun i v v' a b=>t i v v' a b d (A _ _ e i v a))
 | tuple u h t=>intro d e;cases d with|zero=>cases e|succ d=>exact .tuple u (fun i v v' a b=>t i v v' a b d (A _ _ e i v a))
def B5N{ρ m:Ren}{n:Nat}(H:∀ b l,b<n->m b=some l->ρ b=some l){ab:AB}{l:Loc}{w:World}(h:BR P m ab l w)(a:A8w n (some ab)=true):BR P ρ ab l w:=by
 cases ab with
 | cells cs T ro =>
   obtain⟨h0,C,fz,F,h1,k,h3⟩:=h;refine⟨h0,C,fz,F,h1,fun i v hi=>?_,h3⟩;obtain⟨v',g1,g2⟩:=k i v hi;have E:dW n 10 v=true:=by
    have e:xZ (dW n 10) cs=true:=a;clear k g1 g2 a;induction cs generalizing i with
    | nil=>simp at hi
    | cons x r y =>
      obtain⟨D,G⟩:=C5 (show(dW n 10 x && xZ (dW n 10) r)=true from e);cases i with
      | zero=>simp at hi;subst hi;exact D
      | succ i=>exact y i (by simpa using hi) G
   exact⟨v',g1,XN H g2 10 E⟩
 | mp c t T=>exact h
 | iter s pos=>exact h
 | lp f q vs st =>
   obtain⟨h0,r,h1,k⟩:=h;refine⟨h0,r,h1,k.code,⟨k.fr.1,fun i v v' g1 g2=>?_⟩,k.st⟩;have E:dW n 10 v=true:=by
    have e:xZ (dW n 10) vs=true:=a;clear k g2 a;induction vs generalizing i with
    | nil=>simp at g1
    | cons x r y =>
      obtain⟨D,G⟩:=C5 (show(dW n 10 x && xZ (dW n 10) r)=true from e);cases i with
      | zero=>simp at g1;subst g1;exact D
      | succ i=>exact y i (by simpa using g1) G
   exact XN H (k.fr.2 i v v' g1 g2) 10 E
 | dfr b=>exact h
 | sq c t T g ro =>
   obtain⟨wd,inf,h1,k,h3,B⟩:=SqR.ex h;refine⟨⟨wd,inf,h1,k,h3,B.imp (fun x=>x) fun⟨A,u⟩=>⟨A,?_⟩⟩⟩;obtain⟨C,fz,F,rows,lg,h1,k,h3,B,u,L,I,K,J⟩:=u;exact⟨C,fz,F,rows,lg,h1,k,h3,B,u,L,H _ _ (A2 a) I,K,J⟩
 | frz=>exact h
def ST{n:Nat}{H:Hp AB}:∀ {l:I9},XO n H l=true->∀ b ∈ l,A8w n (Hp.get H b)=true
 | [],_,b,h=>by cases h
 | x::r,h,b,a=>by
   obtain⟨h1,c⟩:=C5 (show(A8w n (Hp.get H x) && XO n H r)=true from h);rcases B7.1 a with rfl|a
   .exact h1
   .exact ST c b a
def B8i{ρ D:Ren}{m m1 m':Mem}{w w1:World}{v v':Value}(C:gcM m m1 v=some m')(st:St P base ρ D ⟨m.H,m.n,[],m.hi,m.lg⟩ m1 w w1)(A:At P base gl ρ m m'.hi w)(hv:VR D v v') :
  m'.hi=m1.hi/\∃ ρ2,VR ρ2 v v'/\St P base ρ ρ2 m m' w w1:=by
 have X:m1.n<=m1.hi:=st.nhi A.nh;have hle:m.hi<=m1.hi:=st.hle;have e:∀ b,b ∈ tF (m1.W.filter fun b=>Nat.blt b m.n || Nat.ble m1.hi b) []↔b ∈ m1.W/\(b<m.n∨m1.hi<=b):=fun b=>by
  rw[xX];simp only[X5,H7,or_false,K6];constructor
  .rintro⟨h1,s⟩;exact⟨h1,s.imp (fun h=>A2 h) (fun h=>A2 h)⟩
  .rintro⟨h1,s⟩;exact⟨h1,s.imp (fun h=>D2 h) (fun h=>D2 h)⟩
 unfold gcM at C;generalize hW:tF (m1.W.filter fun b=>Nat.blt b m.n || Nat.ble m1.hi b) []=W at C e;simp only[G5,J2,hH]at C;have hold:m1.hi=m'.hi->∀ b l,ρ b=some l->b<m.n∨m1.hi<=b:=fun he b l y=>by
  rcases G7 b m.n with h1|h1
  .exact .inl h1
  .rcases G7 b m1.hi with s|s
   .rw[A.fr b h1 (he▸s)]at y;cases y
   .exact .inr s
 have J:m1.hi=m'.hi->∀ id,id<=J0->id ∉ W->∀ ab,Hp.get m.H id=some ab->id ∉ m1.W/\Hp.get m1.H id=some ab:=fun he id hid aw ab c=>by
  obtain⟨l,h1,_,_⟩:=A.hr.at_ id hid ab c;have F:=hold he id l h1;have s:id ∉ m1.W:=fun h=>aw ((e id).2 ⟨h,F⟩)
  exact⟨s,by rw[st.same id hid s F];exact c⟩
 have E:∀ b ∈ W,∀ l,ρ b=some l->∃ ab,Hp.get m.H b=some ab/\ab.rw=true:=fun b y l u=>st.wrw b ((e b).1 y).1 (by simp) l u
 cases K:dW m.n 10 v && XO m.n m1.H W with
 | true =>
   rw[K]at C;simp only[F7]at C;obtain⟨t,C⟩:=A6 C;cases C;obtain⟨q1,q2⟩:=C5 K;have t:=yT t;have F:∀ b l,b<m.n->D b=some l->ρ b=some l:=fun b l y u=>by
    cases h0:ρ b with
    | some l0=>rw[st.ext b l0 h0]at u;exact u
    | none=>have h:=(st.new b l u h0).1;exact absurd y (Nat.not_lt.2 h)
   have f:∀ id,id<=J0->Hp.get (iW m1.H m.H W) id=if id ∈ W then Hp.get m1.H id else Hp.get m.H id:=fun id hid=>yC W _ t id hid
   have G:∀ id,id<=J0->∀ ab,Hp.get (iW m1.H m.H W) id=some ab->Hp.get m1.H id=some ab:=fun id hid ab c=>by
    rw[f id hid]at c;by_cases h:id ∈ W
    .rw[A4 h]at c;exact c
    .rw[A3 h]at c;exact(J rfl id hid h ab c).2
   have Y:=st.hr.sub G;have az:∀ id,id<=J0->∀ ab,Hp.get (iW m1.H m.H W) id=some ab->∀ l,D id=some l->ρ id=some l:=fun id hid ab c l u=>by
    cases h0:ρ id with
    | some l0=>rw[st.ext id l0 h0]at u;exact u
    | none =>
      exfalso;have hn:=st.new id l u h0;rw[f id hid]at c;by_cases h:id ∈ W
      .have:=((e id).1 h).2;have h1:m.n<=id:=hn.1;have s:=hn.2;omega
      .rw[A3 h]at c;obtain⟨l0,h1,_⟩:=A.hr.at_ id hid ab c;rw[h1]at h0;cases h0
   refine⟨rfl,ρ,XN F hv 10 q1,⟨fun _ _ h=>h,fun b k h1 s=>(by rw[h1]at s;cases s),B0 _,hle,fun h=>B9 h hle,⟨A.hr.dom,fun id hid ab c=>?_⟩,fun b y=>B5.2 (.inr y),fun b h1 s l u=>?_,fun k N y=>?_,st.size,st.os,fun b k h1 s=>(by rw[h1]at s;cases s),fun id hid h1 s=>?_,fun k ⟨id,a,q,hid,B,K,T⟩=>?_⟩⟩
   .obtain⟨l,g1,g2,g3⟩:=Y.at_ id hid ab c;have u:=az id hid ab c l g1;refine⟨l,u,?_,fun V O=>⟨(g3 V O).1,fun ay R ax l2 f1 f2 f3=>(g3 V O).2 ay R ax l2 f1 (st.ext _ _ f2) f3⟩⟩;have au:=c;rw[f id hid]at c;by_cases h:id ∈ W
    .rw[A4 h]at c
     have:=ST q2 id h;rw[c]at this;exact B5N F g2 this
    .rw[A3 h]at c;obtain⟨l0,Q,e2,e3⟩:=A.hr.at_ id hid ab c;rw[u]at Q
     have:=A9 Q;subst this;refine e2.mono (fun _ _ h=>h) (fun k N=>st.keep k (e2.tc N) fun b y lb L Z heq=>?_);have U:b ∈ W:=(e b).2 ⟨y,hold rfl b lb L⟩;obtain⟨ar,c1,c2⟩:=E b U lb L
     have:=((A.hr.atl L c1).2 c2 Z).2 id hid ab l c u (heq▸N);subst this;exact h U
   .rcases B5.1 h1 with h|h
    .exact E b h l u
    .exact absurd h s
   .exact st.keep k N fun b M l u F=>y b (B5.2 (.inl ((e b).2 ⟨M,hold rfl b l u⟩))) l u F
   .show Hp.get (iW m1.H m.H W) id=_;rw[f id hid,A3 (fun h=>h1 (B5.2 (.inl h)))]
   .have B:Hp.get (iW m1.H m.H W) id=some a:=B;rw[f id hid]at B;by_cases h:id ∈ W
    .rw[A4 h]at B;exact st.tch k ⟨id,a,q,hid,B,st.ext _ _ K,T⟩
    .rw[A3 h]at B;exact .inr ⟨id,a,q,hid,B,K,T⟩
 | false =>
   rw[K]at C;simp only[E8]at C;generalize hI:(RO m.n m1.H 100000 (NW 10 v++wOf m1.H W) []).filter (fun b=>Nat.ble m.n b && Nat.blt b m1.hi)=I at C;have av:∀ b ∈ I,m.n<=b/\b<m1.hi:=fun b y=>by
    subst hI;obtain⟨_,h⟩:=X5.1 y;obtain⟨h1,s⟩:=C5 h;exact⟨A2 h1,A2 s⟩
   obtain⟨t,C⟩:=A6 C;cases C;have t:=yT t;have f:∀ id,id<=J0->Hp.get (iW m1.H m.H (W++I)) id=if id ∈ W++I then Hp.get m1.H id else Hp.get m.H id:=fun id hid=>yC _ _ t id hid
   have G:∀ id,id<=J0->∀ ab,Hp.get (iW m1.H m.H (W++I)) id=some ab->Hp.get m1.H id=some ab:=fun id hid ab c=>by
    rw[f id hid]at c;by_cases h:id ∈ W++I
    .rw[A4 h]at c;exact c
    .rw[A3 h]at c;exact(J rfl id hid (fun hh=>h (B5.2 (.inl hh))) ab c).2
   refine⟨rfl,D,hv,⟨st.ext,st.new,st.nle,hle,fun _=>X,st.hr.sub G,fun b y=>B5.2 (.inr y),fun b h1 s l u=>?_,fun k N y=>?_,st.size,st.os,fun b l h1 s F=>?_,fun id hid h1 s=>?_,fun k ⟨id,a,q,hid,B,K,T⟩=>?_⟩⟩
   .rcases B5.1 h1 with h|h
    .exact E b h l u
    .exact absurd h s
   .exact st.keep k N fun b M l u F=>y b (B5.2 (.inl ((e b).2 ⟨M,hold rfl b l u⟩))) l u F
   .rcases st.blk b l h1 s F with h|⟨b0,h3,l0,h4,h5⟩
    .exact .inl h
    .exact .inr ⟨b0,B5.2 (.inl ((e b0).2 ⟨h3,hold rfl b0 l0 h4⟩)),l0,h4,h5⟩
   .show Hp.get (iW m1.H m.H (W++I)) id=_;rw[f id hid,A3];intro h;rcases B5.1 h with h|h
    .exact h1 (B5.2 (.inl h))
    .have:=av id h;have s:id<m.n∨m1.hi<=id:=s;omega
   .have B:Hp.get (iW m1.H m.H (W++I)) id=some a:=B;rw[f id hid]at B;by_cases h:id ∈ W++I
    .rw[A4 h]at B;exact st.tch k ⟨id,a,q,hid,B,K,T⟩
    .rw[A3 h]at B;obtain⟨l0,Q,_⟩:=A.hr.at_ id hid a B;rw[st.ext _ _ Q]at K
     have:=A9 K;subst this;exact .inr ⟨id,a,l0,hid,B,Q,T⟩
def mI:∀ (vs:List Value) (fr:Fr) (i t:Nat),i+vs.length<=512->t<512->(jH fr i vs).get t=if i<=t/\t<i+vs.length then vs.getD (t-i) undef else fr.get t
 | [],fr,i,t,_,_=>by simp[jH];intro h1 a;omega
 | v::r,fr,i,t,h,ht=>by
   simp only[B6]at h ⊢;rw[jH,DJ,mI r _ (i+1) t A0 ht,Q4 _ _ _ _ A0 ht];by_cases h1:i+1<=t/\t<i+1+r.length
   .rw[A4 h1,A4 A0,show t-i=(t-(i+1))+1 by omega];rfl
   .rw[A3 h1];by_cases a:t=i
    .subst a;rw[A4 rfl,A4 A0,nY];rfl
    .rw[A3 a,A3 A0]
def A18(tmps:Array Value):ResultVar->Sem Value
 | .tmp t=>pure (tmps.getD t undef)
 | .cell a t=>do loadVar t (<- asAddr (tmps.getD a undef))
variable {z:Zn}
def A0F{ρ:Ren}{s:S}{a:Act}{w:World}(h:HR P base ρ s.m.H w)(C:FrR z ρ nt s.fr a):∀ (rs:List ResultVar) (vs:List Value),A1_ P nt s rs=some vs->∃ b,LR ρ vs b /\
  (rs.mapM (A18 a.tmps)).run P w=.ok b w
 | [],vs,hr=>by
   simp only[A1_,D9]at hr;subst hr;exact⟨[],.nil,rfl⟩
 | r::rs,vs,hr=>by
   unfold A1_ at hr;split at hr
   .rename_i v n h1 E;cases hr;obtain⟨b,g1,g2⟩:=A0F h C rs n E;have k:∃ v',VR ρ v v'/\(A18 a.tmps r).run P w=.ok v' w:=by
     unfold B7I at h1;split at h1
     .rename_i t;obtain⟨y,f⟩:=A6 h1;cases f;exact⟨_,C.get t (A2 y),rfl⟩
     .rename_i c t;obtain⟨y,f⟩:=A6 h1;have D:=C.get c (A2 y);split at f
      .rename_i G B;rw[B]at D;obtain⟨l,F,_,e⟩:=V0 D;obtain⟨v',A,u⟩:=SV h f F;exact⟨v',u,by simp[A18,e,asAddr,A]⟩
      .cases f
    obtain⟨v',A,u⟩:=k;refine⟨v'::b,.cons A g1,?_⟩;simp only[List.mapM_cons,A8,u,g2,Result.andThen,Sem.run_pure]
   .cases hr
def A8S{ρ:Ren}{fn:Func}{s:S}{a:Act}{w:World}{v:Value}(h:HR P base ρ s.m.H w)(t:FrR z ρ fn.ntmps s.fr a)(hr:A19 fn P s=some v):∃ v',VR ρ v v'/\(results fn a.tmps).run P w=.ok v' w:=by
 unfold A19 at hr;have key:∀ vs,A1_ P fn.ntmps s fn.results.toList=some vs->∃ b,LR ρ vs b/\(results fn a.tmps).run P w=.ok (if h:b.toArray.size=1 then b.toArray[0]else .tuple b.toArray) w:=fun vs c=>by
  obtain⟨b,g1,g2⟩:=A0F h t _ vs c;refine⟨b,g1,?_⟩;have he:results fn a.tmps=(do let vs <- fn.results.mapM (A18 a.tmps);pure (if h:vs.size=1 then vs[0]else .tuple vs)):=by
   unfold results;rfl
  have hm:(fn.results.mapM (A18 a.tmps)).run P w=.ok b.toArray w:=by
   rw[jQ];show(Sem.bind (fn.results.toList.mapM (A18 a.tmps)) fun l=>Sem.pure l.toArray).run P w=_;have y:∀ (x:Sem D6) (k:D6->Sem r7),(Sem.bind x k).run P w=(x >>= k).run P w:=fun _ _=>rfl
   rw[y,A8,g2];rfl
  rw[he,A8,hm];rfl
 split at hr
 .rename_i u f;cases hr;obtain⟨b,g1,g2⟩:=key _ f;obtain⟨v',A,rfl,g3,g4⟩:=g1.tail;cases g4.nil_inv;exact⟨v',g3,g2⟩
 .rename_i vs e f;cases hr;obtain⟨b,g1,g2⟩:=key _ f;refine⟨.tuple ⟨b⟩,.tuple g1.1 g1.2,?_⟩;rw[g2,dif_neg];intro h1;have h1:b.length=1:=by simpa using h1
  have n:vs.length=1:=by rw[g1.1];exact h1
  obtain⟨x,rfl⟩:=List.length_eq_one_iff.1 n;exact e x rfl
 .cases hr
def PG(P:Program):Prop:=∀ (f:Nat) (fn:Func),P.funcs[f]? = some fn->(fn.name == "runtime.NumGoroutine")=false
def A6C{m m1 m':Mem}{v:Value}(a:gcM m m1 v=some m'):m'.lg=m1.lg:=by
 unfold gcM at a;simp only[G5,J2,hH]at a;cases c:dW m.n 10 v && XO m.n m1.H (tF (m1.W.filter fun b=>Nat.blt b m.n || Nat.ble m1.hi b) [])with
 | true=>rw[c]at a;obtain⟨_,q⟩:=A6 a;cases q;rfl
 | false=>rw[c]at a;obtain⟨_,q⟩:=A6 a;cases q;rfl
def CY:∀ {l:I9} {m m':Mem},uY l m=some m'->m'.hi=m.hi/\m'.n=m.n/\m'.lg=m.lg
 | [],m,m',h=>by cases h;exact⟨rfl,rfl,rfl⟩
 | b::r,m,m',h=>by
   unfold uY at h;split at h
   .split at h
    .rename_i m1 hm;obtain⟨_,e⟩:=d8 hm;obtain⟨h1,a,h3⟩:=CY h;subst e;exact⟨h1,a,h3⟩
    .cases h
   .cases h
def A1D{fn:Func}{m m':Mem}{v:Value}(h:B5y fn P m r=some (v,m')):∃ e s m1,r=some (e,s)/\(e=.normal∨e=.ret)/\uY (dvG fn.ntmps s.fr) s.m=some m1/\A19 fn P ⟨s.fr,m1⟩=some v/\gcM m m1 v=some m':=by
 have key:∀ (fr:Fr) (m0:Mem),(match uY (dvG fn.ntmps fr) m0 with
  | some m1=>match A19 fn P ⟨fr,m1⟩with
    | some v=>match gcM m m1 v with
      | some m=>some (v,m)
      | none=>none
    | none=>none
  | none=>none)=some (v,m')->∃ m1,uY (dvG fn.ntmps fr) m0=some m1/\A19 fn P ⟨fr,m1⟩=some v/\gcM m m1 v=some m':=fun fr m0 h=>by
  split at h
  .rename_i m1 h1;split at h
   .rename_i u f;split at h
    .rename_i m2 h3;cases h;exact⟨m1,h1,f,h3⟩
    .cases h
   .cases h
  .cases h
 unfold B5y at h;split at h
 .rename_i fr m1;obtain⟨m2,a,b,c⟩:=key _ _ h;exact⟨_,_,m2,rfl,.inl rfl,a,b,c⟩
 .rename_i fr m1;obtain⟨m2,a,b,c⟩:=key _ _ h;exact⟨_,_,m2,rfl,.inr rfl,a,b,c⟩
 .cases h
structure kY (P:Program) (base gl nt:Nat) (c:Code) (L:S->Option (Ex×S)):Prop where
 lg:∀ (s s':S) (e:Ex),L s=some (e,s')->s.m.hi<=s'.m.hi/\s.m.lg.le s'.m.lg
 ok:∀ (s s':S) (e:Ex),L s=some (e,s')->Sat s'.m.lg->∀ (z:Zn) (ρ:Ren) (a:Act) (w:World) (Q:Exit->Act->World->Prop),At P base gl ρ s.m s'.m.hi w->FrR z ρ nt s.fr a ->
  (∀ a' w',Q Ex.ret.out a' w'->Q Ex.normal.out a' w')->(∀ ρ' a' w',FrR z ρ' nt s'.fr a'->St P base ρ ρ' s.m s'.m w w'->Q e.out a' w')->c.wpIn (fw z.rd) 0 P Q a w
def kY.or{nt:Nat}{c:Code}{a b:S->Option (Ex×S)}(k:kY P base gl nt c a)(f:kY P base gl nt c b):kY P base gl nt c (orL a b):=by
 refine⟨fun s m e h=>?_,fun s m e h l=>?_⟩
 .unfold orL at h;split at h
  .rename_i r hr;cases h;exact k.lg _ _ _ hr
  .exact f.lg _ _ _ h
 .unfold orL at h;split at h
  .rename_i r hr;cases h;exact k.ok _ _ _ hr l
  .exact f.ok _ _ _ h l
def kY.code{nt:Nat}{c:Code}{call:U1}(k:l7 P base gl call)(l:gR P base gl call){lp:LpT}(b:YX P base gl nt c lp):kY P base gl nt c (R9 P nt gl call lp [] c).run :=
 ⟨fun _ _ _ h=>Z5 k l b c [] rfl _ _ _ h,fun s t e h u z ρ a w Q f n _ m=>Y1 (z:=z) k l b c [] rfl ρ s t e a w Q h u f n m⟩
def A9w{fn:Func}{c:Code}{L:kM}(b:kY P base gl fn.ntmps c L.run){vs:D6}{m m':Mem}{v:Value}
  (hr:AL fn P L vs m=some (v,m')):m.lg.le m'.lg:=by
 unfold AL at hr;obtain⟨_,hr⟩:=A6 hr;obtain⟨e,s,m1,h1,_,k,h3,f⟩:=A1D hr;have a:WL L (jH fr0 0 vs) m=L.run ⟨jH fr0 0 vs,⟨m.H,m.n,[],m.hi,m.lg⟩⟩:=rfl;rw[a]at h1;have l:=(b.lg _ _ _ h1).2;rw[A6C f,(CY k).2.2];exact l
def JO{fn:Func}{tmps:r7}{R:Ending->World->Prop}{ρ:Ren}{hi:Nat}:∀ (ids:List Nat) (ds:List Deferred) (m md:Mem) (w:World),uY ids m=some md->DfR ρ ids ds->HR P base ρ m.H w->M8 ρ m.n md.hi ->
  (∀ w',St P base ρ ρ m md w w'->∃ v,(results fn tmps).run P w'=.ok v w'/\R (.returned v) w')->LeavesInM (fw none) 0 P fn tmps R ds .returning w
 | [],ds,m,md,w,h,hd,hr,hf,hR=>by
   cases h;have:ds=[]:=D5.1 hd.1.symm;subst this;exact hR w (.refl hr)
 | b::r,[],m,md,w,h,hd,hr,hf,hR=>by have:=hd.1;simp at this
 | b::r,d::ds,m,md,w,h,hd,hr,hf,hR=>by
   unfold uY at h;split at h
   .rename_i k;split at h
    .rename_i m1 hm;obtain⟨l,t,e⟩:=hd.2 0 b d rfl rfl;obtain⟨⟨⟨s,E⟩,x,u,B⟩,_⟩:=hr.atl t k
     have:=B rfl;subst this;obtain⟨y,F,A⟩:=nF (o:=.deferred none) (E4.1 u).1;have c:St P base ρ ρ m m1 w (w.putObj l.blk (.deferred none)):=St.write hr hm k rfl t s ⟨rfl,rfl,rfl⟩ y A ⟨⟨s,E⟩,_,F,fun h=>by cases h⟩;obtain⟨G,C⟩:=d8 hm;have D:m1.n=m.n:=by rw[C]
     refine⟨(by intro h;cases h),.inl ⟨l.blk,_,by rw[e];rfl,run_takeDeferred u,?_⟩⟩;exact JO (hi:=hi) r ds m1 md _ h ⟨by have:=hd.1;simpa using this,fun i id d a b=>hd.2 (i+1) id d (by simpa using a) (by simpa using b)⟩ c.hr (by rw[D];exact hf) fun w' f=>hR w' (St.trans hf c f)
    .cases h
   .cases h
def VD{f:FuncId}{fn:Func}{c:Code}{L:kM}(hf:P.funcs[f]? = some fn)(C:fn.body=some c)(X:(fn.name == "runtime.NumGoroutine")=false)(hL:kY P base gl fn.ntmps c L.run) :
  nW P base gl f ⟨AL fn P L⟩:=by
 refine⟨fun vs m m' v hr=>A9w hL hr,?_⟩;intro ρ m m' w vs l v hr hS k hl;have hr:AL fn P L vs m=some (v,m'):=hr;unfold AL at hr;obtain⟨h1,hr⟩:=A6 hr;obtain⟨h1,U⟩:=C5 h1;have h1:=A2 h1;have U:=A2 U;left;constructor
 .have hn:fn.name ≠ "runtime.NumGoroutine":=by simpa using X
  simp[callFunc,hf,hn,C]
 .obtain⟨e,s,m1,A,he,G,K,a⟩:=A1D hr;have T:WL L (jH fr0 0 vs) m=L.run ⟨jH fr0 0 vs,⟨m.H,m.n,[],m.hi,m.lg⟩⟩:=rfl;rw[T]at A;have E:∀ t,vs.length<=t->t<512->(jH fr0 0 vs).get t=undef:=fun t k1 k2=>by
   rw[mI _ _ _ _ A0 k2,A3 A0,OB]
  have R:FrR ⟨none,[]⟩ ρ fn.ntmps (jH fr0 0 vs) { tmps:=⟨l⟩++Array.replicate (fn.ntmps-(Array.mk l).size) undef,defers:=[] }:=by
   have hlen:=hl.1;refine⟨by simp;omega,U,⟨[],rfl,?_⟩,fun hn=>⟨fun _=>rfl,fun b C=>?_⟩,fun t ht=>?_⟩
   .unfold dvG;cases N:Nat.ble fn.ntmps 510 with
    | true =>
      have:=A2 N;rw[E 510 A0 B8];exact .nil
    | false=>exact .nil
   .rw[E 511 A0 B8]at C;cases C
   .rw[mI _ _ _ _ A0 A0];by_cases I:t<vs.length
    .rw[A4 A0];have u:t<l.length:=A0
     have:=hl.2 t vs[t] l[t] (A7 I) (A7 u)
     simpa [C6,Array.getElem?_append,I,u,B4]using this
    .rw[A3 A0,OB];have u:¬ t<l.length:=A0;have:(({ toList:=l }:Array Value)++Array.replicate (fn.ntmps-(Array.mk l).size) undef).getD t undef=undef:=by
      simp[C6,Array.getElem?_append,u,lD];split<;>rfl
     rw[this];exact uM ρ
  have Q:m1.hi=m'.hi:=by
   have a:=a;unfold gcM at a;simp only[G5,J2,hH]at a;cases N:dW m.n 10 v && XO m.n m1.H (tF (m1.W.filter fun b=>Nat.blt b m.n || Nat.ble m1.hi b) [])with
   | true=>rw[N]at a;obtain⟨_,q⟩:=A6 a;cases q;rfl
   | false=>rw[N]at a;obtain⟨_,q⟩:=A6 a;cases q;rfl
  obtain⟨t1,t2,t3⟩:=CY G;have y:At P base gl ρ ⟨m.H,m.n,[],m.hi,m.lg⟩ s.m.hi w:=⟨k.hr,k.bs,fun b q1 q2=>k.fr b q1 (by rw[<- Q,t1];exact q2),k.gr,k.nh,fun b C=>(by cases C),k.gf⟩;have Z:Sat s.m.lg:=by rw[<- t3,<- A6C a];exact hS
  refine tW.1 (callsIn_of_wp_marks (F:=fw none) (n:=0) hf C trivial ?_ rfl);refine hL.ok _ s e A Z ⟨none,[]⟩ ρ _ w _ y R (fun _ _ h=>h) fun Y V w1 f1 B=>?_
  obtain⟨ds,d1,d2⟩:=f1.df;have d1:V.defers=ds:=by rw[d1];simp
  have J:LeavesInM (fw none) 0 P fn V.tmps (A7T P base ρ m m' w v) V.defers .returning w1:=by
   rw[d1];have D:=y.step B;refine JO (base:=base) (ρ:=Y) (hi:=0) _ _ _ _ _ G d2 B.hr (by rw[t1];exact D.fr) fun w' M=>?_
   have O:=St.trans (by have:=y.fr;rw[t1];exact this) B M;obtain⟨v',g1,g2⟩:=A8S (s:=⟨s.fr,m1⟩) M.hr f1 K;obtain⟨_,ρ2,g3,g4⟩:=B8i a O k g1;exact⟨v',g2,v',ρ2,rfl,g3,g4⟩
  rcases he with rfl|rfl
  .exact J
  .exact J
def A1X{f:FuncId}{fn:Func}{c:Code}{call:U1}(m:P.funcs[f]? = some fn)(k:fn.body=some c)(a:(fn.name == "runtime.NumGoroutine")=false)(e:l7 P base gl call)(l:gR P base gl call){lp:LpT}(b:YX P base gl fn.ntmps c lp) :
  nW P base gl f ⟨AL fn P (R9 P fn.ntmps gl call lp [] c)⟩:=VD m k a (kY.code e l b)
def RV{ρ:Ren}{nt:Nat}(f:nt<=512):∀ (ps:List Tmp) (args b:List Value) (fr c:Fr) (tmps:Array Value),zT ps args fr=some c->LR ρ args b->(∀ t ∈ ps,t<nt)->tmps.size=nt->(∀ t,t<nt->VR ρ (fr.get t) (tmps.getD t undef)) ->
  ps.length=b.length/\((ps.zip b).foldl (fun tmps (t,a)=>tmps.setIfInBounds t a) tmps).size=nt/\(∀ t,t<nt->VR ρ (c.get t) (((ps.zip b).foldl (fun tmps (t,a)=>tmps.setIfInBounds t a) tmps).getD t undef))/\∀ t,nt<=t->t<512->c.get t=fr.get t
 | [],[],b,fr,c,tmps,h,hl,hp,hs,hg=>by
   cases h;rw[hl.nil_inv];exact⟨rfl,hs,hg,fun _ _ _=>rfl⟩
 | [],_::_,_,_,_,_,h,_,_,_,_=>by cases h
 | _::_,[],_,_,_,_,h,_,_,_,_=>by cases h
 | t::ps,v::vs,b,fr,c,tmps,h,hl,hp,hs,hg=>by
   obtain⟨v',y,rfl,h1,w⟩:=hl.tail;have k:t<nt:=hp t C7;have h:zT ps vs (fr.set t v)=some c:=by
    have e:zT (t::ps) (v::vs) fr=zT ps vs (fr.set t v):=MJ t v fr (fun fr=>zT ps vs fr);rw[<- e];exact h
   obtain⟨A,s,n,m⟩:=RV f ps vs y (fr.set t v) c (tmps.setIfInBounds t v') h w (fun u hu=>hp u (D1 _ hu)) (by simp[hs]) (fun u hu=>by
    rw[Q4 _ _ _ _ (E5 k f) (E5 hu f)];simp only[C6,H4];by_cases e:u=t
    .subst e;rw[A4 rfl,A4 rfl,A4 (by rw[hs];exact hu)];exact h1
    .rw[A3 e,A3 (fun h=>e h.symm)]
     have:=hg u hu
     simpa [C6]using this)
   refine⟨by simp[A],s,n,fun u h3 l=>?_⟩;rw[m u h3 l,Q4 _ _ _ _ (E5 k f) l,A3 (fun e=>by subst e;exact absurd k (Nat.not_lt.2 h3))]
def zO{b:Nat}{v:Value}{m':Mem}(h:vL b r=some (v,m')):∃ e s f q vs,r=some (e,s)/\Hp.get s.m.H b=some (.lp f q vs 1)/\iJ s.m b (.lp f q vs (exN e))=some m'/\v=.bool (NR e):=by
 unfold vL at h;split at h
 .rename_i e fr m;split at h
  .rename_i f q vs a;rw[G5]at h;split at h
   .rename_i m1 hm;cases h;exact⟨e,⟨fr,m⟩,f,q,vs,rfl,a,hm,rfl⟩
   .cases h
  .cases h
 .cases h
def zN{b:Nat}{c:kM}{v:Value}{m':Mem}(h:vK b c r=some (v,m')):∃ s f q vs m1,r=some (.normal,s)/\Hp.get s.m.H b=some (.lp f q vs 0)/\iJ s.m b (.lp f q vs 1)=some m1/\vL b (c.run ⟨s.fr,m1⟩)=some (v,m'):=by
 unfold vK at h;split at h
 .rename_i fr m;split at h
  .rename_i f q vs a;split at h
   .rename_i m1 hm;exact⟨⟨fr,m⟩,f,q,vs,m1,rfl,a,hm,h⟩
   .cases h
  .cases h
 .cases h
def IU{C:Cx}{call:U1}{vs:D6}{m m':Mem}{v:Value}(h:(MR C call).run vs m=some (v,m')):∃ b args f q a fn body x ps as bd fr,vs=yv b::args/\Hp.get m.H b=some (.lp f q a 0)/\C.P.funcs[f]? = some fn/\fn.body=some body/\H5 q body=some (.rangeFunc x ps as bd) /\
  fn.ntmps<=510/\(∀ t ∈ ps.toList,t<fn.ntmps)/\zT ps.toList args (jH fr0 0 a)=some fr /\
  vK b (R9 C.P fn.ntmps C.gl call (C.lp f) (q++[true]) bd) ((R9 C.P fn.ntmps C.gl call (C.lp f) (q++[false]) as).run ⟨fr.set 511 (yv b),m⟩)=some (v,m'):=by
 unfold MR at h;simp only at h;split at h
 .cases h
 .rename_i u args;split at h
  .cases h
  .rename_i b A
   have:=HW A;subst this;split at h
   .rename_i f q a n;split at h
    .cases h
    .rename_i fn y;split at h
     .cases h
     .rename_i body l;split at h
      .rename_i x ps as bd s;obtain⟨h1,h⟩:=A6 h;obtain⟨h1,w⟩:=C5 h1;split at h
       .rename_i fr c;refine⟨b,args,f,q,a,fn,body,x,ps,as,bd,fr,rfl,n,by simpa using y,l,s,A2 h1,fun t B=>A2 (D7.1 w t B),c,?_⟩;have e:∀ (k:Fr->Res),AU (sel 7) (sel 7) (sel 7) (yv b) fr k=k (fr.set 511 (yv b)):=fun k=>MJ 511 (yv b) fr k
        rw[e]at h;exact h
       .cases h
      .cases h
   .cases h
def A4D{C:Cx}{call:U1}(N:l7 C.P base C.gl call)(O:gR C.P base C.gl call)(s:∀ f fn body,C.P.funcs[f]? = some fn->fn.body=some body->YX C.P base C.gl fn.ntmps body (C.lp f)):B58 C.P base C.gl (MR C call):=by
 refine⟨fun vs m m' v h=>?_,fun ρ m m' w b args c v l h hS y hl J=>?_⟩
 .obtain⟨b,args,f,q,Q,fn,body,x,ps,as,bd,fr,rfl,_,h1,G,h3,_,_,_,h⟩:=IU h;obtain⟨s1,f2,q2,ax,m2,g1,_,g3,h⟩:=zN h;obtain⟨e,s2,f3,q3,ar,Z,_,k3,_⟩:=zO h;have a1:=(Z5 N O (s f fn body h1 G) as (q++[false]) (K9 h3 rfl) _ _ _ g1).2;have a2:=(Z5 N O (s f fn body h1 G) bd (q++[true]) (K9 h3 rfl) _ _ _ Z).2;rw[(rR k3).2];have a2:m2.lg.le s2.m.lg:=a2;rw[(rR g3).2]at a2;exact a1.trans a2
 .obtain⟨b',au,f,q,Q,fn,body,x,ps,as,bd,fr,e0,hg,h1,G,h3,h4,h5,h6,h⟩:=IU h;cases e0;obtain⟨s1,f2,q2,ax,m2,g1,g2,g3,h⟩:=zN h;obtain⟨e,s2,f3,q3,ar,Z,k2,k3,rfl⟩:=zO h;have c1:=Z5 N O (s f fn body h1 G) as (q++[false]) (K9 h3 rfl) _ _ _ g1;have c2:=Z5 N O (s f fn body h1 G) bd (q++[true]) (K9 h3 rfl) _ _ _ Z;obtain⟨j1,j2⟩:=rR g3;obtain⟨j3,j4⟩:=rR k3;have W:Sat s2.m.lg:=by rw[<- j4];exact hS
  have aw:Sat s1.m.lg:=by rw[<- j2];exact V3.le W c2.2
  have ao:m2.hi<=s2.m.hi:=c2.1;obtain⟨⟨⟨Y,b2⟩,r,b3,b4⟩,_⟩:=y.hr.atl J hg;obtain⟨an,aq,x',e1,e2,e3,e4⟩:=b4.code;rw[h1]at e1;cases e1;rw[G]at e2;cases e2;rw[h3]at e3;cases e3;have hlen:=b4.fr.1;have av:∀ t,Q.length<=t->t<512->(jH fr0 0 Q).get t=undef:=fun t q1 q2=>by
   rw[mI _ _ _ _ A0 q2,A3 A0,OB]
  obtain⟨p1,p2,p3,p4⟩:=RV (ρ:=ρ) (nt:=fn.ntmps) A0 r.params.toList args c (jH fr0 0 Q) fr r.tmps h6 hl h5 (by simpa [e4]using hlen.symm) (fun t ht=>by
   rw[mI _ _ _ _ A0 A0,A4 A0];have U:t<Q.length:=A0;have H:t<r.tmps.toList.length:=A0
   have:=b4.fr.2 t Q[t] _ (A7 U) (A7 H);have V:t<r.tmps.size:=by simpa using H
   simpa [C6,U,V,B4]using this)
  have M:(r.params.zip ⟨c⟩).foldl (fun tmps (t,a)=>tmps.setIfInBounds t a) r.tmps=(r.params.toList.zip c).foldl (fun tmps (t,a)=>tmps.setIfInBounds t a) r.tmps:=by
   rw[<- Array.foldl_toList];simp
  refine⟨r.fn,_,r.assign,r.body,run_yield b3 (by show c.length=_;rw[<- p1];simp),?_⟩;rw[M];refine roundIn_of_wpIn (F:=Fence.wide) (n:=0) trivial ?_;have E:∀ t,t<511->(fr.set 511 (yv b)).get t=fr.get t:=fun t ht=>by rw[Q4 _ _ _ _ B8 A0,A3 A0]
  have az:FrR ⟨some l.blk,[]⟩ ρ fn.ntmps (fr.set 511 (yv b)) { tmps:=(r.params.toList.zip c).foldl (fun tmps (t,a)=>tmps.setIfInBounds t a) r.tmps,defers:=[] }:=by
   refine⟨p2,A0,⟨[],rfl,?_⟩,fun _=>?_,fun t ht=>by rw[E t A0];exact p3 t ht⟩
   .unfold dvG;rw[E 510 B8,p4 510 h4 B8,av 510 A0 B8];cases Nat.ble fn.ntmps 510<;>exact .nil
   .rw[Q4 _ _ _ _ B8 B8,A4 rfl];refine⟨fun hu=>(by cases hu),fun b0 R=>?_⟩;have:b0=b:=by
     have:hO (yv b)=some b:=rfl;rw[this]at R;exact(A9 R).symm
    subst this;exact⟨l,J,rfl⟩
  have K:M8 ρ m.n m'.hi:=y.fr;refine Y1 (z:=⟨some l.blk,[]⟩) N O (s f fn body h1 G) r.assign (q++[false]) (K9 h3 rfl) ρ ⟨fr.set 511 (yv b),m⟩ s1 .normal _ w _ g1 aw (y.less (by rw[j3];omega)) az fun I a1 w1 f1 u=>?_
  have L:=u.ext _ _ J;obtain⟨⟨⟨_,_⟩,r2,d3,d4⟩,_⟩:=u.hr.atl L g2;obtain⟨o1,o2,o3⟩:=nF (o:=.loop { r2 with state:=.busy }) (E4.1 d3).1;have X:St C.P base I I s1.m m2 w1 (w1.putObj l.blk (.loop { r2 with state:=.busy })):=St.write u.hr g3 g2 rfl L Y ⟨rfl,rfl,rfl⟩ o1 o3 ⟨⟨Y,b2⟩,_,o2,d4.code,d4.fr,rfl⟩;refine⟨_,run_beginRound d3 d4.st.1,?_⟩;have B:=(y.step u);have D:=B.step X;refine Y1 (z:=⟨some l.blk,[]⟩) N O (s f fn body h1 G) r.body (q++[true]) (K9 h3 rfl) I ⟨s1.fr,m2⟩ s2 e _ _ _ Z W (D.less (by rw[j3];exact B0 _)) f1 fun ρ2 a2 w3 f3 A=>?_
  have T:=A.ext _ _ L;obtain⟨⟨⟨_,_⟩,r3,d5,d6⟩,_⟩:=A.hr.atl T k2;have fin:∀ (jump:Option Code),StR (exN e) (if jump.isNone then .ready else .done) jump->jump.isNone=NR e->∃ v w',(Instr.endRound l.blk jump).run C.P w3=.ok v w'/\A7T C.P base ρ m m' w (.bool (NR e)) (.returned v) w':=fun jump hj he=>by
   refine⟨_,_,run_endRound jump d5,?_⟩;obtain⟨o4,o5,o6⟩:=nF (o:=.loop { r3 with state:=if jump.isNone then .ready else .done,pending:=jump }) (E4.1 d5).1;have ay:St C.P base ρ2 ρ2 s2.m m' w3 (w3.putObj l.blk (.loop { r3 with state:=if jump.isNone then .ready else .done,pending:=jump })):=St.write A.hr k3 k2 rfl T Y ⟨rfl,rfl,rfl⟩ o4 o6 ⟨⟨Y,b2⟩,_,o5,d6.code,d6.fr,hj⟩;exact⟨_,ρ2,rfl,by rw[he];exact .pure rfl,St.trans K u (St.trans B.fr X (St.trans D.fr A ay))⟩
  cases e with
  | normal=>exact fin none ⟨rfl,rfl⟩ rfl
  | ret=>exact fin (some .ret) ⟨rfl,rfl⟩ rfl
  | exit k=>exact fin (some (.exit k)) ⟨rfl,rfl⟩ rfl
structure A9_ (C:Cx) (base:Nat):Prop where
 names:PG C.P
 ext:∀ f k fn,C.P.funcs[f]? = some fn->fn.body=none->TY C.ext f=some k->nW C.P base C.gl f ⟨tR k⟩
 con:∀ f c,C.con f=some c->nW C.P base C.gl f c
 lp:∀ f fn body,C.P.funcs[f]? = some fn->fn.body=some body->YX C.P base C.gl fn.ntmps body (C.lp f)
 draws:∀ call,l7 C.P base C.gl call->gR C.P base C.gl call
def rY(f:FuncId):nW P base gl f ⟨fun _ _=>none⟩:=⟨fun vs m m' v hr=>(by cases hr),fun ρ m m' w vs a v hr=>(by cases hr)⟩
def A8m:B58 P base gl ⟨fun _ _=>none⟩:=⟨fun vs m m' v hr=>(by cases hr),fun ρ m m' w b args a v l hr=>(by cases hr)⟩
def xB{C:Cx}(h:A9_ C base):∀ (d:Nat),l7 C.P base C.gl (tG C d)
 | 0=>⟨fun f=>rY f,A8m⟩
 | d+1=>by
   have e:=xB h d;refine⟨fun f=>?_,A4D e (h.draws _ e) h.lp⟩;show nW C.P base C.gl f (KT C (tG C d) f);unfold KT;split
   .exact rY f
   .rename_i fn a;have a:C.P.funcs[f]? = some fn:=by simpa using a
    split
    .rename_i c b;exact h.con f c b
    .split
     .rename_i l;split
      .rename_i k m;exact h.ext f k fn a l m
      .exact rY f
     .rename_i c l;exact A1X (gl:=C.gl) a l (h.names f fn a) e (h.draws _ e) (h.lp f fn c a l)
end
end
section
open Go
variable [Ora]
def PF(P:Program)(nt gl:Nat)(call:U1)(all:List Oper)(b:List Nat)(rs:List Rec)(c:Bool)(o:Oper)(fr e:Fr)(m m2:Mem)(v:Value):Prop :=
 FP nt o.dst=true/\XI nt gl o.op=true/\e=BA o.dst v fr /\
 ((c=false/\∃ lg,dX nt fr m.lg all o=some (false,lg)/\v=undef/\m2=m.wLg lg) ∨
   (c=false/\∃ lg a,dX nt fr m.lg all o=some (true,lg)/\pM fr (m.wLg lg) o b rs (t7 P call o)=some (v,a)/\m2=m.wLg a) ∨
   (c=true/\∃ lg,dX nt fr m.lg all o=some (true,lg)/\(t7 P call o).run fr (m.wLg lg)=some (v,m2)/\m.hi<=m2.hi) ∨
   (c=false/\dC o.op=false/\∃ lg,dX nt fr m.lg all o=some (true,lg)/\∃ mv m',HY (m.wLg lg) (B9d fr o.op) (JI b rs)=some mv/\(t7 P call o).run fr mv=some (v,m')/\m'.W=[]/\m.hi<=m'.hi/\pS (m.wLg lg) m'=some m2))
def A2X{α:Type}{c:Bool}{x:Option α}{y:α}(h:(bif c then none else x)=some y):c=false/\x=some y:=by cases c<;>first|exact⟨rfl,h⟩|cases h
def gQ(nt:Nat)(all:List Oper)(op:OpC)(b:List Nat)(rs:List Rec)(fr:Fr)(o:Oper)(m m2:Mem)(v:Value)(r:Option (Nat×AB)):Prop :=
 (∃ lg,dX nt fr m.lg all o=some (false,lg)/\v=undef/\m2=m.wLg lg/\r=none)∨(∃ lg a,dX nt fr m.lg all o=some (true,lg)/\pM fr (m.wLg lg) o b rs op=some (v,a)/\m2=m.wLg a/\r=TS m.H fr o.op)
def QsN(e:Bool)(i nt:Nat)(all:List Oper)(op:OpC)(b:List Nat)(rs:List Rec)(fr:Fr)(o:Oper)(m m2:Mem)(v:Value)(c a:Qs):Prop :=
 (e=true/\a=c/\A5q b m2.H c=true)∨(e=false/\a=c)∨(e=false/\∃ r,a=(i,r)::c/\gQ nt all op b rs fr o m m2 v r)
def A7R(P:Program)(nt gl:Nat)(call:U1)(all:List Oper)(r:List Oper)(i:Nat)(bs:List I9)(rs:List Rec)(b:Qs)(s a:S):Prop :=
  ∃ (F:Nat->Fr) (M:Nat->Mem) (V:Nat->Value) (R:Nat->List Rec) (X:Nat->Qs) (B:Nat->Bool),F i=s.fr/\M i=s.m/\R i=rs/\X i=b/\F (i+r.length)=a.fr/\M (i+r.length)=a.m /\
   ∀ j o,r[j]? = some o->PF P nt gl call all (bs.getD j []) (R (i+j)) (B (i+j)) o (F (i+j)) (F (i+j+1)) (M (i+j)) (M (i+j+1)) (V (i+j))/\(B (i+j)=true->QS o.op (i+j) (bs.getD j []) (bs.drop (j+1)) (r.drop (j+1)) (X (i+j))=true) /\
    ((R (i+j+1)=R (i+j)/\∃ lg,M (i+j+1)=(M (i+j)).wLg lg)∨(B (i+j)=true/\R (i+j+1)=[])∨R (i+j+1)=⟨i+j,(M (i+j)).n,(M (i+j+1)).n⟩::R (i+j)) /\
    QsN (B (i+j)) (i+j) nt all (t7 P call o) (bs.getD j []) (R (i+j)) (F (i+j)) o (M (i+j)) (M (i+j+1)) (V (i+j)) (X (i+j)) (X (i+j+1))
def B0e{P:Program}{nt gl:Nat}{call:U1}{all:List Oper}:∀ (r:List Oper) (i:Nat) (bs:List I9) (rs:List Rec) (e:Qs) (s k:S),bX P nt gl call all r i bs rs e s=some k->A7R P nt gl call all r i bs rs e s k
 | [],i,bs,rs,e,s,k,h=>by
   have h:some s=some k:=by cases bs<;>exact h
   cases h;exact⟨fun _=>s.fr,fun _=>s.m,fun _=>undef,fun _=>rs,fun _=>e,fun _=>false,rfl,rfl,rfl,rfl,rfl,rfl,fun j o y=>by simp at y⟩
 | o::r,i,[],rs,e,s,k,h=>by obtain⟨fr,m⟩:=s;cases h
 | o::r,i,b::bs,rs,e,⟨fr,⟨H0,n0,W0,hi0,lg0⟩⟩,k,h=>by
   generalize l:(⟨H0,n0,W0,hi0,lg0⟩:Mem)=m at h;have glue:∀ (w:Bool),(w=true->QS o.op i b bs r e=true)->∀ (v:Value) (m2:Mem) (a:List Rec) (f:Qs),PF P nt gl call all b rs w o fr (BA o.dst v fr) m m2 v->((a=rs/\∃ lg,m2=m.wLg lg)∨(w=true/\a=[])∨a=⟨i,m.n,m2.n⟩::rs)->QsN w i nt all (t7 P call o) b rs fr o m m2 v e f->bX P nt gl call all r (i+1) bs a f ⟨BA o.dst v fr,m2⟩=some k->A7R P nt gl call all (o::r) i (b::bs) rs e ⟨fr,m⟩ k:=fun w K v m2 a f E L G A=>by
    obtain⟨F,M,V,R,X,B,f1,f2,f3,D,f4,f5,f6⟩:=B0e r (i+1) bs a f _ k A;refine⟨fun j=>if j<=i then fr else F j,fun j=>if j<=i then m else M j,fun j=>if j<=i then v else V j,fun j=>if j<=i then rs else R j,fun j=>if j<=i then e else X j,fun j=>if j<=i then w else B j,by simp,by simp,by simp,by simp,?_,?_,?_⟩
    .simp only[B6];rw[A3 A0,show i+(r.length+1)=i+1+r.length by omega];exact f4
    .simp only[B6];rw[A3 A0,show i+(r.length+1)=i+1+r.length by omega];exact f5
    .intro j o' y;cases j with
     | zero =>
       simp at y;subst y;simp only[Nat.add_zero,B0,if_true,Nat.not_succ_le_self,if_false,f1,f2,f3,D];exact⟨E,K,L,G⟩
     | succ j =>
       have J:r[j]? = some o':=by simpa using y
       have:=f6 j o' J;simp only[show ¬ i+(j+1)<=i by omega,show ¬ i+(j+1)+1<=i by omega,if_false];rw[show i+(j+1)=i+1+j by omega]
       simpa using this
   subst l;unfold bX at h;split at h
   .rename_i lg hw H;obtain⟨d1,d2⟩:=C5 H;cases u:QS o.op i b bs r e with
    | true =>
      rw[u]at h;simp only[F7]at h;split at h
      .rename_i v m2 hr;obtain⟨c,h⟩:=A6 h;obtain⟨c,I⟩:=C5 c;rw[fK]at h;exact glue true (fun _=>u) v m2 _ _ ⟨d1,d2,rfl,.inr (.inr (.inl ⟨rfl,lg,hw,hr,A2 c⟩))⟩ (.inr (.inl ⟨rfl,rfl⟩)) (.inl ⟨rfl,rfl,I⟩) h
      .cases h
    | false =>
      rw[u]at h;simp only[E8]at h;split at h
      .rename_i v t C;obtain⟨O,C⟩:=A6 C;rw[fK]at h;exact glue false (fun h=>by cases h) v _ _ _ ⟨d1,d2,rfl,.inr (.inl ⟨rfl,lg,t,hw,C,rfl⟩)⟩ (.inl ⟨rfl,t,rfl⟩) (.inr (.inr ⟨rfl,_,rfl,.inr ⟨lg,t,hw,C,rfl,rfl⟩⟩)) h
      .obtain⟨N,h⟩:=A2X h;unfold A1I at h;simp only at h;split at h
       .rename_i mv T;split at h
        .rename_i v m' hr;split at h
         .rename_i Q c;split at h
          .rename_i m2 hm;rw[fK]at h;exact glue false (fun h=>by cases h) v m2 _ _ ⟨d1,d2,rfl,.inr (.inr (.inr ⟨rfl,N,lg,hw,mv,m',T,hr,Q,A2 c,hm⟩))⟩ (.inr (.inr rfl)) (.inr (.inl ⟨rfl,rfl⟩)) h
          .cases h
         .cases h
        .cases h
       .cases h
   .rename_i lg hw H;obtain⟨d1,d2⟩:=C5 H;rw[fK]at h;exact glue false (fun h=>by cases h) undef _ _ _ ⟨d1,d2,rfl,.inl ⟨rfl,lg,hw,rfl,rfl⟩⟩ (.inl ⟨rfl,lg,rfl⟩) (.inr (.inr ⟨rfl,_,rfl,.inl ⟨lg,hw,rfl,rfl,rfl⟩⟩)) h
   .cases h
def VG{l:I9}{b k:Nat}(h:k ∈ A7P l b):k=b∨k ∈ l:=by
 unfold A7P at h;cases e:cV l b with
 | true=>rw[e]at h;exact .inr h
 | false=>rw[e,E8,G5]at h;exact B7.1 h
def JQ:∀ {a b:I9} {k:Nat},k ∈ A0u a b->k ∈ a∨k ∈ b
 | [],b,k,h=>.inr h
 | x::a,b,k,h=>by
   rcases VG (show k ∈ A7P (A0u a b) x from h)with rfl|h
   .exact .inl C7
   .rcases JQ h with h|h
    .exact .inl (D1 _ h)
    .exact .inr h
def yW{acc:List I9}:∀ {es:List Edge} {k:Nat},k ∈ xH acc es->∃ e ∈ es,Region.binds .any e=true/\(k=e.on∨k ∈ acc.getD e.on [])
 | [],k,h=>by cases h
 | e::r,k,h=>by
   unfold xH at h;cases a:Region.binds .any e with
   | true =>
     rw[a]at h;rw[F7]at h;rcases(VG h).imp_right JQ with h|h|h
     .exact⟨e,C7,a,.inl h⟩
     .exact⟨e,C7,a,.inr h⟩
     .obtain⟨e',h1,b⟩:=yW h;exact⟨e',D1 _ h1,b⟩
   | false =>
     rw[a]at h;obtain⟨e',h1,b⟩:=yW h;exact⟨e',D1 _ h1,b⟩
def yV:∀ (r:List Oper) (acc:List I9),∃ a,y7 r acc=acc++a/\a.length=r.length/\∀ j o,r[j]? = some o->∃ pre,pre=(acc++a).take (acc.length+j)/\a[j]? = some (xH pre o.after.toList)
 | [],acc=>⟨[],by simp[y7],rfl,fun j o h=>by simp at h⟩
 | o::r,acc=>by
   obtain⟨a,h1,c,h3⟩:=yV r (acc++[xH acc o.after.toList]);refine⟨xH acc o.after.toList::a,by rw[y7,J2,h1];simp,by simp[c],fun j o' b=>?_⟩;cases j with
   | zero =>
     simp at b;subst b;exact⟨_,rfl,by simp⟩
   | succ j =>
     obtain⟨pre,g1,g2⟩:=h3 j o' (by simpa using b);refine⟨pre,?_,by simpa using g2⟩;rw[g1];simp[fC,oA 1 j]
def A93{ops:List Oper}{k:Nat}(m:ops[i]? = some o)(he:∀ e ∈ o.after.toList,Region.binds .any e=true->e.on<i)(b:k ∈ (y7 ops []).getD i []) :
  ∃ e ∈ o.after.toList,Region.binds .any e=true/\(k=e.on∨k ∈ (y7 ops []).getD e.on []):=by
 obtain⟨s,h1,n,h3⟩:=yV ops [];simp only[X4]at h1 h3;obtain⟨pre,g1,g2⟩:=h3 i o m;rw[h1]at b ⊢;rw[B4,g2]at b;obtain⟨e,c,f,l⟩:=yW (show k ∈ xH pre o.after.toList from b);refine⟨e,c,f,l.imp id fun h=>?_⟩;have a:=he e c f;rw[g1]at h;simp only[E0,G0,B4]at h ⊢;rw[G4 a]at h;exact h
def qY(ops:List Oper)(D:Nat->Prop):Prop:=∀ i o,ops[i]? = some o->D i->∀ e ∈ o.after.toList,Region.binds .any e=true->D e.on
def GQ{ops:List Oper}{D:Nat->Prop}(m:qY ops D)(b:∀ i o,ops[i]? = some o->∀ e ∈ o.after.toList,Region.binds .any e=true->e.on<i) :
  ∀ (n i k:Nat) (o:Oper),i<n->ops[i]? = some o->(∀ e ∈ o.after.toList,Region.binds .any e=true->D e.on)->k ∈ (y7 ops []).getD i []->D k
 | 0,i,k,o,h,_,_,_=>by omega
 | n+1,i,k,o,h,ho,he,hk=>by
   obtain⟨e,a,l,f⟩:=A93 ho (b i o ho) hk;rcases f with rfl|f
   .exact he e a l
   .have c:=b i o ho e a l;have hlen:e.on<ops.length:=Nat.lt_trans c (B3.1 ho).1;refine GQ m b n e.on k ops[e.on] A0 (A7 hlen) (fun e' h1 s=>m e.on _ (A7 hlen) (he e a l) e' h1 s) f
def LB{H0:Hp AB}:∀ (l:List Nat) (H:Hp AB),(∀ b ∈ l,b<=J0)->∀ id,id<=J0->Hp.get (LD H0 H l) id=if id ∈ l then Hp.get H0 id else Hp.get H id
 | [],H,_,id,_=>by simp[LD]
 | b::r,H,hl,id,hid=>by
   have c:=hl b C7;rw[LD,iO,LB r _ (fun x e=>hl x (D1 _ e)) id hid,F5 _ _ _ _ c hid];by_cases h1:id ∈ r
   .rw[A4 h1,A4 (D1 _ h1)]
   .rw[A3 h1];by_cases a:id=b
    .subst a;rw[A4 rfl,A4 C7]
    .rw[A3 a,A3 (by simp[h1,a])]
def JW:∀ (l:List Nat) (H:Hp AB),(∀ b ∈ l,b<=J0)->∀ id,id<=J0->Hp.get (JX H l) id=if id ∈ l then none else Hp.get H id
 | [],H,_,id,_=>by simp[JX]
 | b::r,H,hl,id,hid=>by
   have c:=hl b C7;rw[JX,iO,JW r _ (fun x e=>hl x (D1 _ e)) id hid,F5 _ _ _ _ c hid];by_cases h1:id ∈ r
   .rw[A4 h1,A4 (D1 _ h1)]
   .rw[A3 h1];by_cases a:id=b
    .subst a;rw[A4 rfl,A4 C7]
    .rw[A3 a,A3 (by simp[h1,a])]
def pT:∀ (n lo b:Nat),b ∈ WM lo n↔lo<=b/\b<lo+n
 | 0,lo,b=>by simp[WM]
 | n+1,lo,b=>by
   simp only[WM,B7,pT n (lo+1) b];omega
def SQ{m m' m2:Mem}(h:pS m m'=some m2)(s:m.n<=m.hi)(c:m.hi<=m'.hi):m.n<=m2.n/\m.hi<=m2.hi/\m2.n<=m2.hi/\m2.W=m.W/\(m2.n=m'.hi∨(m2.n=m.n/\m'.hi<=m.n))/\m2.hi=m'.hi/\m2.lg=m'.lg /\
  ∀ id,id<=J0->Hp.get m2.H id=if m.n<=id/\id<m2.n then Hp.get m'.H id else Hp.get m.H id:=by
 unfold pS at h;cases a:Nat.ble m'.hi m.n with
 | true =>
   have a:=A2 a;have e:Nat.ble m'.hi m.n=true:=D2 a;rw[e]at h;cases h;refine⟨B0 _,B0 _,s,rfl,.inr ⟨rfl,a⟩,by show m.hi=m'.hi;omega,rfl,fun id hid=>?_⟩;rw[A3 (by show ¬ (m.n<=id/\id<m.n);omega)]
 | false =>
   have k:m.n<m'.hi:=by
    rcases G7 m.n m'.hi with h1|h1
    .exact h1
    .rw[show Nat.ble m'.hi m.n=true from D2 h1]at a;cases a
   rw[a]at h;simp only[E8]at h;obtain⟨l,h⟩:=A6 h;have l:=A2 l;simp only[G5,hH]at h;cases h;refine⟨nZ k,c,B0 _,rfl,.inl rfl,rfl,rfl,fun id hid=>?_⟩;show Hp.get (LD m'.H m.H (WM m.n (m'.hi-m.n))) id=_;rw[LB _ _ (fun b f=>by have:=(pT _ _ _).1 f;omega) id hid];by_cases h1:m.n<=id/\id<m'.hi
   .rw[A4 ((pT _ _ _).2 A0),A4 h1]
   .rw[A3 (fun h=>h1 (by have:=(pT _ _ _).1 h;omega)),A3 h1]
def dH(D:Nat->Bool)(dst:Nat->Option Tmp)(V:Nat->Value)(f0:Tmp->Value)(t:Tmp):Nat->Value
 | 0=>f0 t
 | n+1=>if D n=true/\dst n=some t then V n else dH D dst V f0 t n
def jA{D D':Nat->Bool}{dst:Nat->Option Tmp}{V:Nat->Value}{f0:Tmp->Value}{t:Tmp}:∀ (n:Nat),(∀ k,k<n->dst k=some t->D k=D' k)->dH D dst V f0 t n=dH D' dst V f0 t n
 | 0,_=>rfl
 | n+1,h=>by
   unfold dH;have b:=jA (V:=V) (f0:=f0) n fun k c=>h k (kP c)
   by_cases a:dst n=some t
   .rw[h n (K4 n) a,b]
   .rw[A3 (fun hh=>a hh.2),A3 (fun hh=>a hh.2),b]
def wQ{D D':Nat->Bool}{dst:Nat->Option Tmp}{V:Nat->Value}{f0:Tmp->Value}{t:Tmp}{i:Nat}(c:∀ k,k≠i->D' k=D k)(hi:D' i=true):∀ (n:Nat),i<n->dst i=some t->(∀ k,i<k->k<n->dst k=some t->D k=false)->dH D' dst V f0 t n=V i
 | 0,h,_,_=>by omega
 | n+1,h,hd,hl=>by
   unfold dH;by_cases e:n=i
   .subst e;rw[A4 ⟨hi,hd⟩]
   .have a:i<n:=A0;rw[A3 (fun hh=>by
     have h1:=hl n a (K4 n) hh.2;rw[c n e,h1]at hh;exact absurd hh.1 (by simp))]
    exact wQ c hi n a hd fun k f b=>hl k f (kP b)
def tP{D D':Nat->Bool}{dst:Nat->Option Tmp}{V:Nat->Value}{f0:Tmp->Value}{t:Tmp}(b:∀ k,k≠i->D' k=D k)(c:dst i≠some t)(n:Nat):dH D' dst V f0 t n=dH D dst V f0 t n :=
 jA n fun k _ a=>b k fun e=>c (e▸a)
structure HRf (P:Program) (base:Nat) (ρ:Ren) (G:Nat->Option AB) (w:World):Prop where
 dom:∀ b l,ρ b=some l->b<=J0
 at_:∀ id,id<=J0->∀ ab,G id=some ab->∃ l,ρ id=some l/\BR P ρ ab l w/\(ab.rw=true->l.on=true->base<=l.blk/\∀ id2,id2<=J0->∀ ab2 l2,G id2=some ab2->ρ id2=some l2->Tc ab2 l2 l.blk->id2=id)
def HRf.hr{P:Program}{base:Nat}{ρ:Ren}{G:Nat->Option AB}{H:Hp AB}{w:World}(h:HRf P base ρ G w)(n:∀ id,id<=J0->∀ ab,Hp.get H id=some ab->G id=some ab):HR P base ρ H w :=
 ⟨h.dom,fun id hid ab m=>let ⟨l,a,b,c⟩:=h.at_ id hid ab (n id hid ab m);⟨l,a,b,fun hr s=>⟨(c hr s).1,fun k e f l2 g=>(c hr s).2 k e f l2 (n k e f g)⟩⟩⟩
def HR.f{P:Program}{base:Nat}{ρ:Ren}{H:Hp AB}{w:World}(h:HR P base ρ H w){G:Nat->Option AB}(s:∀ id,id<=J0->∀ ab,G id=some ab->Hp.get H id=some ab):HRf P base ρ G w :=
 ⟨h.dom,fun id hid ab n=>let ⟨l,a,b,c⟩:=h.at_ id hid ab (s id hid ab n);⟨l,a,b,fun hr t=>⟨(c hr t).1,fun m e k l2 g=>(c hr t).2 m e k l2 (s m e k g)⟩⟩⟩
def Ff(ρ:Ren)(G:Nat->Option AB)(k:Nat):Prop:=∃ id ab l,id<=J0/\G id=some ab/\ρ id=some l/\Tf ab l k
end
end Go.Sx
