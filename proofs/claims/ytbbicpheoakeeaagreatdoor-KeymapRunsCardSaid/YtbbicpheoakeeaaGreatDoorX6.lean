import Derived.Test.YtbbicpheoakeeaaGreatDoorX5
set_option linter.all false
set_option maxRecDepth 100000
set_option maxHeartbeats 4000000
namespace Go.Sx
variable {ds:List Deferred}{d:Option Tmp}{o p:Oper}{lg':Lg}{i j:Nat}{q:List Bool}{r:Option (Ex×S)}{g:Value}{x:Operand}{me:FuncId}{ps:Array Tmp}{as bd:Code}
section
open Go
variable [Ora]
section
variable {P:Program} {base gl nt:Nat}
def GR(gl:Nat)(ρ:Ren):Prop:=∀ g,g<gl->ρ g=some (lc g 0 0)
def GR.mono{ρ a:Ren}(h:GR gl ρ)(he:∀ b l,ρ b=some l->a b=some l):GR gl a:=fun g c=>he _ _ (h g c)
structure At (P:Program) (base gl:Nat) (ρ:Ren) (m:Mem) (hi:Nat) (w:World):Prop where
 hr:HR P base ρ m.H w
 bs:base<=w.heap.size
 fr:K2 ρ m.n hi
 gr:GR gl ρ
 nh:m.n<=m.hi
 wb:∀ b ∈ m.W,∀ l,ρ b=some l->l.on=true->base<=l.blk
 gf:∀ k o,Ora.G k=some o->k<base/\w.heap[k]? = some o
def At.wbs{ρ c:Ren}{m m':Mem}{hi:Nat}{w w':World}(h:At P base gl ρ m hi w)(st:St P base ρ c m m' w w'):∀ b ∈ m'.W,∀ l,ρ b=some l->l.on=true->base<=l.blk:=fun b k l e a=>by
 by_cases hm:b ∈ m.W
 .exact h.wb b hm l e a
 .obtain⟨ab,h1,f⟩:=st.wrw b k hm l e;exact((h.hr.atl e h1).2 f a).1
def At.below{ρ a:Ren}{m m':Mem}{hi:Nat}{w w':World}(h:At P base gl ρ m hi w)(st:St P base ρ a m m' w w'){k:Nat}(f:k<base):w'.heap[k]? = w.heap[k]? :=
 st.keep k (D3 f h.bs) fun b n l s c e=>by have:=h.wbs st b n l s c;omega
def At.step{ρ a:Ren}{m m':Mem}{hi:Nat}{w w':World}(h:At P base gl ρ m hi w)(st:St P base ρ a m m' w w'):At P base gl a m' hi w' :=
 ⟨st.hr,B9 h.bs st.size,fun b h1 e=>by
  cases n:a b with
  | none=>rfl
  | some l =>
    cases h0:ρ b with
    | some l0=>rw[h.fr b (B9 st.nle h1) e]at h0;cases h0
    | none=>have:=(st.new b l n h0).2;omega,h.gr.mono st.ext,st.nhi h.nh,fun b n l t c=>by
  cases h0:ρ b with
  | some l0 =>
    have:=st.ext b l0 h0;rw[t]at this
    have:=A8 this;subst this;exact h.wbs st b n l h0 c
  | none =>
    rcases st.blk b l t h0 c with h1|⟨u,h1,l0,e,s,h3⟩
    .have:=h.bs;omega
    .rw[<- h3];exact h.wbs st u h1 l0 e s,fun k o f=>⟨(h.gf k o f).1,(h.below st (h.gf k o f).1).trans (h.gf k o f).2⟩⟩
def At.less{ρ:Ren}{m:Mem}{hi hi':Nat}{w:World}(h:At P base gl ρ m hi w)(c:hi'<=hi):At P base gl ρ m hi' w:=⟨h.hr,h.bs,fun b h1 a=>h.fr b h1 (D3 a c),h.gr,h.nh,h.wb,h.gf⟩
def At.wLg{ρ:Ren}{m:Mem}{hi:Nat}{w:World}(h:At P base gl ρ m hi w)(lg:Lg):At P base gl ρ (m.wLg lg) hi w:=by
 cases m;exact⟨h.hr,h.bs,h.fr,h.gr,h.nh,h.wb,h.gf⟩
def A2O(P:Program)(base:Nat)(ρ:Ren)(m m':Mem)(w:World)(v:Value):Ending->World->Prop:=fun e w'=>∃ v' a,e=.returned v'/\VR a v v'/\St P base ρ a m m' w w'
structure mN (P:Program) (base gl:Nat) (f:FuncId) (c:FnC):Prop where
 lg:∀ (vs:List Value) (m m':Mem) (v:Value),c.run vs m=some (v,m')->m.lg.le m'.lg
 ok:∀ (ρ:Ren) (m m':Mem) (w:World) (vs vs':List Value) (v:Value),c.run vs m=some (v,m')->Sat m'.lg->At P base gl ρ m m'.hi w->LR ρ vs vs' ->
  ((callFunc f ⟨vs'⟩).run P w=.ok (.enter f ⟨vs'⟩) w/\Calls P f ⟨vs'⟩ w (A2O P base ρ m m' w v)) ∨
  (∃ v' ρ' w',(callFunc f ⟨vs'⟩).run P w=.ok (.value v') w'/\VR ρ' v v'/\St P base ρ ρ' m m' w w')
structure Zn where
 rd:Option Nat
 D:List Deferred
def A9G(l:Loc):Deferred:={ target:=.collected l.blk,args:=#[] }
def DfR(ρ:Ren)(ids:List Nat)(ds:List Deferred):Prop:=ids.length=ds.length/\∀ (i:Nat) (id:Nat) (d:Deferred),ids[i]? = some id->ds[i]? = some d->∃ l,ρ id=some l/\d=A9G l
def DfR.mono{ρ f:Ren}{ids:H4}(h:DfR ρ ids ds)(he:∀ b l,ρ b=some l->f b=some l):DfR f ids ds:=⟨h.1,fun i id d a b=>let ⟨l,c,e⟩:=h.2 i id d a b;⟨l,he _ _ c,e⟩⟩
def DfR.nil{ρ:Ren}:DfR ρ [] []:=⟨rfl,fun i id d h=>by simp at h⟩
structure FrR (z:Zn) (ρ:Ren) (nt:Nat) (fr:Fr) (a:Act):Prop where
 size:a.tmps.size=nt
 le:nt<=512
 df:∃ ds,a.defers=ds++z.D/\DfR ρ (dvG nt fr) ds
 rd:nt<=510->(nL (fr.get 511)=true->z.rd=none)/\∀ b,eH (fr.get 511)=some b->∃ l,ρ b=some l/\z.rd=some l.blk
 get:∀ t,t<nt->VR ρ (fr.get t) (a.tmps.getD t undef)
variable {z:Zn}
def FrR.mono{ρ f:Ren}{fr:Fr}{a:Act}(h:FrR z ρ nt fr a)(he:∀ b l,ρ b=some l->f b=some l):FrR z f nt fr a :=
 ⟨h.size,h.le,let ⟨ds,a,b⟩:=h.df;⟨ds,a,b.mono he⟩,fun k=>⟨(h.rd k).1,fun b n=>let ⟨l,c,e⟩:=(h.rd k).2 b n;⟨l,he _ _ c,e⟩⟩,fun t m=>(h.get t m).mono he⟩
def FrR.put{ρ:Ren}{fr:Fr}{a:Act}{d:Nat}{v v':Value}(h:FrR z ρ nt fr a)(k:d<nt)(hv:VR ρ v v'):FrR z ρ nt (fr.set d v) (a.put (some d) v'):=by
 have hle:=h.le;have b:∀ t,t<512->t≠d->(fr.set d v).get t=fr.get t:=fun t h1 m=>by rw[L8 _ _ _ _ A2 h1,A7 m]
 refine⟨by simp[Act.put,h.size],h.le,?_,fun s=>?_,fun t l=>?_⟩
 .obtain⟨ds,n,c⟩:=h.df;refine⟨ds,n,?_⟩;unfold dvG at c ⊢;cases f:Nat.ble nt 510 with
  | true =>
    have:=A1 f;rw[f]at c;rw[b 510 E7 A2];exact c
  | false=>rw[f]at c;exact c
 .rw[b 511 E7 A2];exact h.rd s
 .rw[L8 _ _ _ _ (D3 k h.le) (D3 l h.le)];simp only[Act.put,B8,G1];by_cases e:t=d
  .subst e;rw[A9 rfl,A9 rfl,A9 (by rw[h.size];exact k)];exact hv
  .rw[A7 e,A7 (fun h=>e h.symm)]
   have:=h.get t l
   simpa [B8]using this
def ZR(z:Zn)(ρ:Ren)(nt:Nat)(fr:Fr)(a:List Deferred):Prop:=(∃ ds,a=ds++z.D/\DfR ρ (dvG nt fr) ds)/\(nt<=510->(nL (fr.get 511)=true->z.rd=none)/\∀ b,eH (fr.get 511)=some b->∃ l,ρ b=some l/\z.rd=some l.blk)
def FrR.zr{ρ:Ren}{fr:Fr}{a:Act}(h:FrR z ρ nt fr a):ZR z ρ nt fr a.defers:=⟨h.df,h.rd⟩
def ZR.congr{ρ f:Ren}{fr a:Fr}(h:ZR z ρ nt fr ds)(he:∀ b l,ρ b=some l->f b=some l)(n:nt<=510->a.get 510=fr.get 510/\a.get 511=fr.get 511):ZR z f nt a ds:=by
 obtain⟨⟨m,h1,t⟩,h3⟩:=h;refine⟨⟨m,h1,?_⟩,fun k=>?_⟩
 .have:dvG nt a=dvG nt fr:=by
   unfold dvG;cases s:Nat.ble nt 510 with
   | true=>rw[(n (A1 s)).1]
   | false=>rfl
  rw[this];exact t.mono he
 .rw[(n k).2];exact⟨(h3 k).1,fun b u=>let ⟨l,c,e⟩:=(h3 k).2 b u;⟨l,he _ _ c,e⟩⟩
def eQ(a:Act)(d:Option Tmp)(v:Value):(a.put d v).defers=a.defers:=by cases d<;>rfl
def FrR.ev{ρ:Ren}{fr:Fr}{a:Act}(h:FrR z ρ nt fr a)(c:GR gl ρ){x:Operand}(hx:okX nt gl x=true):VR ρ (ev fr x) (a.eval x):=by
 cases x with
 | tmp t=>exact h.get t (A1 hx)
 | const v=>exact VR.ofC hx
 | global g =>
   have:=VR.ptr (o:=0) (c g (A1 hx));exact this
 | func f=>exact .func (a:=[]) (b:=[]) (a':=[]) (b':=[]) rfl rfl (fun i v v' h=>by simp at h) (fun i v v' h=>by simp at h)
def FrR.ops{ρ:Ren}{fr:Fr}{a:Act}(h:FrR z ρ nt fr a)(c:GR gl ρ){o:Op}(b:NZ nt gl o=true):FR ρ fr a.eval o:=fun x hx=>h.ev c (D4.1 b x hx)
def zU{o:Op}{c:Callee}{xs:Array Operand}{tys:Array TypeId}(h:o=.call ⟨c,xs,tys⟩):∀ x ∈ xs.toList,x ∈ o.operands.toList:=fun x hx=>by
 subst h;show x ∈ ((match c with|.value f=>#[f]|.invoke r _=>#[r]|.builtin _=>#[])++xs:Array Operand).toList;simp;exact .inr (by simpa using hx)
structure A8Y (P:Program) (base gl:Nat) (c:FnC):Prop where
 lg:∀ (vs:List Value) (m m':Mem) (v:Value),c.run vs m=some (v,m')->m.lg.le m'.lg
 ok:∀ (ρ:Ren) (m m':Mem) (w:World) (b:Nat) (args args':List Value) (v:Value) (l:Loc),c.run (yv b::args) m=some (v,m')->Sat m'.lg->At P base gl ρ m m'.hi w->LR ρ args args'->ρ b=some l ->
  ∃ f tmps assign body,(Instr.yield l.blk ⟨args'⟩).run P w=.ok (.round l.blk f tmps assign body) w/\RoundIn Fence.wide 0 P l.blk f tmps assign body w (A2O P base ρ m m' w v)
structure V3 (P:Program) (base gl:Nat) (call:O8):Prop where
 fn:∀ f,mN P base gl f (call.fn f)
 yl:A8Y P base gl call.yl
def BJ{v:Value}{b:Nat}(h:eH v=some b):v=yv b:=by
 unfold eH at h;split at h
 .cases h;rfl
 .cases h
def qE{ρ:Ren}{m m':Mem}{w:World}{call:O8}{fr:Fr}{a:Act}{v:Value}{K:Act->World->Prop}{Q:Exit->Act->World->Prop}(n:V3 P base gl call)(k:(W4 P call o).run fr m=some (v,m'))(F:Sat m'.lg)
  (h:At P base gl ρ m m'.hi w) (C:FR ρ fr a.eval o.op) (G:∀ v' s w',VR s v v'->St P base ρ s m m' w w'->K (a.put o.dst v') w'):wpO P z.rd o a w K Q:=by
 have H:∀ (f:FuncId) (vs B:List Value),(∀ c,o.op≠.defer c)->(call.fn f).run vs m=some (v,m')->LR ρ vs B->(execOp a.eval o).run P w=(callFunc f ⟨B⟩).run P w->wpO P z.rd o a w K Q:=fun f vs B I hr hv he=>by
  refine⟨fun _ _=>trivial,?_⟩;rw[Oper.semAt_eq _ _ _ I,he];rcases(n.fn f).ok ρ m m' w vs B v hr F h hv with⟨h1,A⟩|⟨v',s,w',h1,A,h3⟩
  .rw[h1,Oper.uponIn_enter];refine⟨rY,pA.2 (A.mono fun e w' ⟨v',s,he,hv,M⟩=>?_)⟩;subst he;exact G v' s w' hv M
  .rw[h1,Oper.uponIn_value];exact G v' s w' A h3
 have u:∀ (I:∀ c,o.op≠.defer c),NOk P base ρ m w (execOp a.eval o) v m'->wpO P z.rd o a w K Q:=fun I Z=>by
  obtain⟨v',s,w',h1,A,h3⟩:=Z;refine⟨fun _ _=>trivial,?_⟩;rw[Oper.semAt_eq _ _ _ I];rcases h1 with h1|⟨h1,rfl⟩
  .rw[h1,Oper.uponIn_value];exact G v' s w' A h3
  .rw[h1,Oper.uponIn_skip];exact G undef s w' A h3
 obtain⟨dst,op,ty,pos,W,R⟩:=o;unfold W4 at k;simp only at k C;split at k
 .rename_i f xs tys;have l1:=dF (ρ:=ρ) (fr:=fr) (g:=a.eval) (xs:=xs.toList) fun x hx=>C x (zU rfl x hx)
  have k:(call.fn f).run ((vE xs.toList).run fr) m=some (v,m'):=k;rw[nT]at k;refine H f _ _ (fun c n=>by cases n) k l1 ?_;have J:xs.map a.eval=⟨xs.toList.map a.eval⟩:=by apply J1;simp
  simp only[execOp,resolve,Act.eval,Deferred.ofValue,pure_bind,invoke,J];simp
 .rename_i x xs tys U;have l1:=dF (ρ:=ρ) (fr:=fr) (g:=a.eval) (xs:=xs.toList) fun y L=>C y (zU rfl y L)
  have hx:VR ρ (ev fr x) (a.eval x):=C x (by show x ∈ (#[x]++xs:Array Operand).toList;simp);have k:JR call m ((R9 x).run fr) ((vE xs.toList).run fr)=some (v,m'):=k;rw[nT,eG]at k;have J:xs.map a.eval=⟨xs.toList.map a.eval⟩:=by apply J1;simp
  unfold JR at k;split at k
  .rename_i f vs t;unfold wO at t;split at t
   .rename_i f0 p q D;cases t;rw[D]at hx;generalize E:a.eval x=gx at hx;cases hx with
    | pure hp=>simp[I4]at hp
    | func X Y h1 A =>
      rename_i p q V O;have lp:LR ρ p V:=⟨X,h1⟩;have N:LR ρ q O:=⟨Y,A⟩;refine H f _ _ (fun c n=>by cases n) k (lp.append (l1.append N)) ?_;simp only[execOp,resolve,E,Deferred.ofValue,pure_bind,invoke,J];simp
   .cases t
  .split at k
   .rename_i b L;have D:=BJ L;rw[D]at hx k;obtain⟨l,T,E⟩:=A1G hx;obtain⟨f,tmps,as,bd,h1,A⟩:=n.yl.ok ρ m m' w b _ _ v l k F h l1 T;refine⟨fun _ _=>trivial,?_⟩;have he:(execOp a.eval ⟨dst,.call ⟨.value x,xs,tys⟩,ty,pos,W,R⟩).run P w=(Instr.yield l.blk ⟨xs.toList.map a.eval⟩).run P w:=by
     simp only[execOp,resolve,E,Deferred.ofValue,pure_bind,invoke,J];simp
    rw[Oper.semAt_eq _ _ _ (fun c n=>by cases n),he,h1,Oper.uponIn_round];refine⟨rY,?_⟩;have A:RoundIn (fw z.rd) 0 P l.blk f tmps as bd w (A2O P base ρ m m' w v):=A;refine A.mono fun e w' ⟨v',s,he,hv,M⟩=>?_
    subst he;exact G v' s w' hv M
   .cases k
 .have k:A0u P (zS P _) _ fr m=some (v,m'):=k;unfold A0u at k;rw[zR]at k;split at k
  .rename_i r hr;cases k;exact u (fun c n=>by have n:op=.defer c:=n;subst n;cases hr) (A7U h.hr h.bs hr h.fr C)
  .split at k
   .rename_i r hr;cases k;exact u (fun c n=>by have n:op=.defer c:=n;subst n;cases hr) (A2i h.hr hr C F)
   .split at k
    .rename_i r hr;cases k;exact u (fun c n=>by have n:op=.defer c:=n;subst n;cases hr) (A8J h.hr h.bs hr h.fr C F)
    .exact u (fun c n=>by have n:op=.defer c:=n;subst n;cases k) (A6r h.hr h.bs k h.fr C F)
def aC{m m':Mem}{call:O8}{fr:Fr}{v:Value}(b:V3 P base gl call)(a:(W4 P call o).run fr m=some (v,m')):m.lg.le m'.lg:=by
 unfold W4 at a;split at a
 .exact(b.fn _).lg _ _ _ _ a
 .have a:JR call m _ _=some (v,m'):=a;unfold JR at a;split at a
  .exact(b.fn _).lg _ _ _ _ a
  .split at a
   .exact b.yl.lg _ _ _ _ a
   .cases a
 .have a:A0u P (zS P _) _ fr m=some (v,m'):=a;unfold A0u at a;rw[zR]at a;split at a
  .rename_i r hr;cases a;show m.lg.le _;rw[A7V hr];exact .refl _
  .split at a
   .rename_i r hr;cases a;exact(QB hr).1
   .split at a
    .rename_i r hr;cases a;exact A8K hr
    .exact A6s a
def WB{lg:Lg}{v:Value}{b c:Bool}(h:HL lg v b=some (c,lg')):lg.le lg':=by
 unfold HL at h;split at h
 .cases h;exact .refl _
 .split at h
  .rename_i a;cases h;exact fE a
  .cases h
 .obtain⟨_,h⟩:=A3 h;cases h;exact .refl _
def gX{lg:Lg}{fr:Fr}{all:List Oper}{b:Bool}(h:bG nt fr lg all o=some (b,lg')):lg.le lg':=by
 unfold bG at h;split at h
 .cases h;exact .refl _
 .split at h
  .split at h
   .obtain⟨_,h⟩:=A3 h;exact WB h
   .cases h
  .cases h
def pS{ρ:Ren}{lg:Lg}{v v':Value}{b c:Bool}(h:HL lg v b=some (c,lg'))(hv:VR ρ v v')(a:Sat lg'):(v'=.bool (c == b)∨(c=false/\v'=.tuple ⟨[]⟩)):=by
 unfold HL at h;split at h
 .rename_i d;cases h;left;rw[cP hv];cases d<;>cases b<;>rfl
 .split at h
  .rename_i d l k;cases h;left
   rw[mH k hv a];cases d<;>cases b<;>rfl
  .cases h
 .rename_i u _ _;obtain⟨h3,m⟩:=A3 h;cases m;right
  have hu:v=.tuple ⟨[]⟩:=by
   unfold nL at h3;split at h3
   .rfl
   .cases h3
  rw[hu]at hv;obtain⟨cs',e,f⟩:=tJ hv;cases f.nil_inv;exact⟨rfl,e⟩
def mT{all:Array Oper}{tmps:V8}{want b:Bool}{t:Tmp}(k:o.guard=some (j,want))(hp:all.toList[j]? = some p)(l:p.dst=some t)(c:t<tmps.size)
  (hv:tmps.getD t undef=.bool (b == want)∨(b=false/\tmps.getD t undef=.tuple ⟨[]⟩)):Region.wanted o (yielded all tmps)=b:=by
 have a:tmps[t]? = some (tmps.getD t undef):=by simp[B8,c]
 have f:(all[j]?).bind (·.dst)=some t:=by
  have:all[j]? = some p:=by simpa using hp
  simp[this,l]
 unfold Region.wanted;simp only[k];rcases hv with e|⟨rfl,e⟩
 .have:yielded all tmps j=some (b == want):=by simp[yielded,f,a,e]
  rw[this];cases b<;>cases want<;>rfl
 .have:yielded all tmps j=none:=by simp[yielded,f,a,e]
  rw[this];rfl
def HM{ρ:Ren}{lg:Lg}{all:Array Oper}{fr:Fr}{a:Act}{b:Bool}(h:FrR z ρ nt fr a)(hw:bG nt fr lg all.toList o=some (b,lg'))(e:Sat lg'):Region.wanted o (yielded all a.tmps)=b:=by
 unfold bG at hw;split at hw
 .rename_i c;cases hw;simp[Region.wanted,c]
 .rename_i j want c;split at hw
  .rename_i p hp;split at hw
   .rename_i t k;obtain⟨h1,f⟩:=A3 hw;have h1:t<nt:=A1 h1;exact mT c hp k (by rw[h.size];exact h1) (pS f (h.get t h1) e)
   .cases hw
  .cases hw
def xG{β:Type}(t:Nat)(v:Value)(fr:Fr)(k:Fr->β):vS (sel (t / 64%8)) (sel (t / 8%8)) (sel (t%8)) v fr k=k (fr.set t v):=ER t v fr k
def vU(d:Option Tmp)(v:Value)(fr:Fr):Fr:=match d with|some t=>fr.set t v|none=>fr
def cU(d:Option Tmp)(v:Value)(fr:Fr)(k:Fr->Option S):(vV d).run v fr k=k (vU d v fr):=by
 cases d with
 | none=>rfl
 | some t=>exact xG t v fr k
def FrR.dst{ρ:Ren}{fr:Fr}{a:Act}{v v':Value}(h:FrR z ρ nt fr a)(b:zO nt d=true)(hv:VR ρ v v'):FrR z ρ nt (vU d v fr) (a.put d v'):=by
 cases d with
 | none=>exact h
 | some t=>exact h.put (A1 b) hv
def t7{c:OpC}{next:A2N}{s b:S}(h:lE c (vV d) next s=some b):∃ v m',c.run s.fr s.m=some (v,m')/\s.m.hi<=m'.hi/\next.run ⟨vU d v s.fr,m'⟩=some b:=by
 unfold lE at h;obtain⟨fr,m⟩:=s;simp only at h;split at h
 .rename_i v m' hr;obtain⟨h1,a⟩:=A3 h;rw[cU]at a;exact⟨v,m',hr,A1 h1,a⟩
 .cases h
def sZ{call:O8}{all:List Oper}:∀ (r:List Oper) (s a:S),(U7 P nt gl call all r).run s=some a->s.m.hi<=a.m.hi
 | [],s,a,h=>by
   have h:some s=some a:=h;cases h;exact A6 _
 | o::r,s,a,h=>by
   unfold U7 at h;cases c:zO nt o.dst && NZ nt gl o.op with
   | false=>rw[c]at h;cases h
   | true =>
     rw[c]at h;simp only[E3]at h;split at h
     .obtain⟨v,m',_,h1,b⟩:=t7 h;exact B9 h1 (sZ r _ _ b)
     .have h:eO nt all o (W4 P call o) (vV o.dst) (U7 P nt gl call all r) s=some a:=h;unfold eO at h;obtain⟨fr,⟨H,n,W,hi,lg⟩⟩:=s;simp only at h;split at h
      .obtain⟨v,m',_,h1,b⟩:=t7 h;exact B9 h1 (sZ r _ _ b)
      .rename_i lg' _;rw[cU]at h;exact sZ r ⟨vU o.dst undef fr,⟨H,n,W,hi,lg'⟩⟩ a h
      .cases h
def lK{call:O8}(b:V3 P base gl call){all:List Oper}:∀ (r:List Oper) (s a:S),(U7 P nt gl call all r).run s=some a->s.m.lg.le a.m.lg
 | [],s,a,h=>by
   have h:some s=some a:=h;cases h;exact .refl _
 | o::r,s,a,h=>by
   unfold U7 at h;cases e:zO nt o.dst && NZ nt gl o.op with
   | false=>rw[e]at h;cases h
   | true =>
     rw[e]at h;simp only[E3]at h;split at h
     .obtain⟨v,m',h0,h1,c⟩:=t7 h;exact(aC b h0).trans (lK b r _ _ c)
     .have h:eO nt all o (W4 P call o) (vV o.dst) (U7 P nt gl call all r) s=some a:=h;unfold eO at h;obtain⟨fr,⟨H,n,W,hi,lg⟩⟩:=s;simp only at h;split at h
      .rename_i lg' hw;obtain⟨v,m',h0,h1,c⟩:=t7 h;exact(gX hw).trans ((aC b h0).trans (lK b r _ _ c))
      .rename_i lg' hw;rw[cU]at h;exact(gX hw).trans (lK b r ⟨vU o.dst undef fr,⟨H,n,W,hi,lg'⟩⟩ a h)
      .cases h
def FE{call:O8}{all:Array Oper}{Q:Exit->Act->World->Prop}(y:V3 P base gl call):∀ (r:List Oper) (ρ:Ren) (s c:S) (a:Act) (w:World),(U7 P nt gl call all.toList r).run s=some c->Sat c.m.lg->At P base gl ρ s.m c.m.hi w->FrR z ρ nt s.fr a ->
  (∀ e a' w',FrR z e nt c.fr a'->St P base ρ e s.m c.m w w'->Q .normal a' w')->wpL P z.rd all Q r a w
 | [],ρ,s,c,a,w,h,hS,b,l,u=>by
   have h:some s=some c:=h;cases h;exact u ρ a w l (.refl b.hr)
 | o::r,ρ,s,c,a,w,h,hS,b,l,u=>by
   unfold U7 at h;cases C:zO nt o.dst && NZ nt gl o.op with
   | false=>rw[C]at h;cases h
   | true =>
     rw[C]at h;simp only[E3]at h;obtain⟨A,B⟩:=B6 C;have plain:∀ (s:S),At P base gl ρ s.m c.m.hi w->FrR z ρ nt s.fr a->(∀ e a' w',FrR z e nt c.fr a'->St P base ρ e s.m c.m w w'->Q .normal a' w') ->
       lE (W4 P call o) (vV o.dst) (U7 P nt gl call all.toList r) s=some c->Region.wanted o (yielded all a.tmps)=true->wpL P z.rd all Q (o::r) a w:=fun s b l u hr hw=>by
      obtain⟨v,m',h1,E,h3⟩:=t7 hr;have hh:=sZ r _ _ h3;have k:Sat m'.lg:=R6.le hS (lK y r _ _ h3);refine HJ fun K D=>?_
      rw[A9 hw];refine qE y h1 k (b.less hh) (l.ops b.gr B) fun v' e w' hv st=>D _ _ ?_
      refine FE y r e _ c _ _ h3 hS (b.step st) ((l.mono st.ext).dst A hv) fun ρ2 a2 w2 f2 f=>u ρ2 a2 w2 f2 (St.trans b.fr st f)
     split at h
     .rename_i F;exact plain s b l u h (by simp[Region.wanted,F])
     .have h:eO nt all.toList o (W4 P call o) (vV o.dst) (U7 P nt gl call all.toList r) s=some c:=h;unfold eO at h;obtain⟨fr,m⟩:=s;obtain⟨H,n,W,hi,lg⟩:=m;simp only at h;split at h
      .rename_i lg' hw;have t:St P base ρ ρ ⟨H,n,W,hi,lg⟩ ⟨H,n,W,hi,lg'⟩ w w:=St.wLg (m:=⟨H,n,W,hi,lg⟩) b.hr lg';obtain⟨v,m',h0,h1,E⟩:=t7 h;have k:Sat lg':=R6.le hS ((aC y h0).trans (lK y r _ _ E));exact plain ⟨fr,⟨H,n,W,hi,lg'⟩⟩ (b.wLg lg') l (fun ρ2 a2 w2 f2 f=>u ρ2 a2 w2 f2 (St.trans b.fr t f)) h (HM l hw k)
      .rename_i lg' hw;have t:St P base ρ ρ ⟨H,n,W,hi,lg⟩ ⟨H,n,W,hi,lg'⟩ w w:=St.wLg (m:=⟨H,n,W,hi,lg⟩) b.hr lg';rw[cU]at h;have k:Sat lg':=R6.le hS (lK y r ⟨vU o.dst undef fr,⟨H,n,W,hi,lg'⟩⟩ c h);refine HJ fun K D=>?_
       rw[A7 (by rw[HM l hw k];simp)];exact D _ _ (FE y r ρ ⟨vU o.dst undef fr,⟨H,n,W,hi,lg'⟩⟩ c _ _ h hS (b.wLg lg') (l.dst A (pU ρ)) fun ρ2 a2 w2 f2 f=>u ρ2 a2 w2 f2 (St.trans b.fr t f))
      .cases h
def Ex.out:Ex->Exit
 | .normal=>.normal
 | .exit id=>.exit id
 | .ret=>.ret
def A3Z{ops:List Oper}{z:Zn}{ρ:Ren}{s:S}{a:Act}{w:World}(hm:lQ P nt gl s.fr s.m.H ops=true)(hr:HR P base ρ s.m.H w)(L:GR gl ρ)(hf:FrR z ρ nt s.fr a):MM P ops (a,w):=by
 obtain⟨h1,h2⟩:=B6 hm;have key:∀ o ∈ ops,∀ t x,mJ o.op=some (t,x)->∃ b l cs T,ev s.fr x=.pointer (some b)/\ρ b.block=some l/\a.eval x=.pointer (some ⟨l.blk,b.off+l.sh,none⟩)/\Hp.get s.m.H b.block=some (.cells cs T false)/\b.block<=H7/\l.on=true/\BH P w t (a.eval x):=fun o J t x hx=>by
  have hp:=D4.1 h1 o J;unfold ZP at hp;rw[hx]at hp;simp only at hp;cases v:okX nt gl x with
  | false=>rw[v]at hp;cases hp
  | true =>
    rw[v]at hp;simp only[P9,D6]at hp;split at hp
    .rename_i b g sz A B Y;split at hp
     .rename_i cs T U f;obtain⟨N,hp⟩:=B6 hp;obtain⟨D,G⟩:=B6 hp;have N:=A1 N;have D:b.off<cs.length:=A1 D;have G:=A1 G;have hv:=hf.ev L v;rw[A]at hv;obtain⟨l,l1,_,O⟩:=O6 hv;obtain⟨⟨K,C,fz,T',R,c2,_⟩,_⟩:=hr.atl l1 f;have n:∀ k,k<cs.length->l.sh+k<C.size:=fun k v=>by
       obtain⟨v',F,_⟩:=c2 k cs[k] (A5 v);exact(C7.1 F).1
      refine⟨b,l,cs,T,A,l1,O,f,G,K,l.blk,b.off+l.sh,C,T',fz,sz,g,O,R,Y,B,?_,?_⟩
      .have:=n b.off D;by_cases h0:sz=0
       .omega
       .have:=n (b.off+sz-1) A2;omega
      .have:=n b.off D;omega
     .cases hp
    .cases hp
 refine⟨fun o J t x hx=>by obtain⟨_,_,_,_,_,_,_,_,_,_,h⟩:=key o J t x hx;exact h,fun i j o p E hi Q he I t x u y hx M W az A B=>?_⟩;obtain⟨b,l,cs,T,k1,X,k3,k4,k5,k6,_⟩:=key o (C8 hi) t x hx;obtain⟨bd,r,ds,V,n1,Z,n3,n4,n5,n6,_⟩:=key p (C8 Q) u y M;have c:=IW h2 E hi Q he;unfold A2I at c;rw[I]at c;simp only[E3,hx,M,k1,n1]at c;rw[k3]at A;rw[n3]at B;cases A;cases B;show l.blk≠r.blk;intro e;obtain⟨_,hu⟩:=hr.atl X k4;obtain⟨_,hu⟩:=hu rfl k6
 have:=hu bd.block n5 _ r n4 Z (.inl ⟨rfl,n6,e.symm⟩);rw[this,eA]at c;cases c
def At.drew{ρ:Ren}{m:Mem}{hi:Nat}{w:World}(a:At P base gl ρ m hi w)(d:Nat):At P base gl ρ m hi { w with drawn:=d } :=
 ⟨⟨fun b l h=>a.hr.dom b l h,fun id hid ab c=>by
  obtain⟨l,e,f,k⟩:=a.hr.at_ id hid ab c;exact⟨l,e,BR.mono (w:=w) (fun _ _ h=>h) (fun _ _=>rfl) f,k⟩⟩,a.bs,a.fr,a.gr,a.nh,a.wb,a.gf⟩
def St.undrew{ρ a:Ren}{m m':Mem}{w w':World}{d:Nat}(st:St P base ρ a m m' { w with drawn:=d } w'):St P base ρ a m m' w w' :=
 ⟨st.ext,st.new,st.nle,st.hle,st.nhi,st.hr,st.wsub,st.wrw,st.keep,st.size,st.os,st.blk,st.same,st.tch⟩
def NP{call:O8}{ops:Array Oper}{z:Zn}{id:Nat}(k:P.follows .mixedOrders=true)(E:V3 P base gl call){ρ:Ren}{s f:S}{a:Act}{w:World}{Q:Exit->Act->World->Prop}(hr:lF ops.toList=true)(hm:lQ P nt gl s.fr s.m.H ops.toList=true)(h:(U7 P nt gl call ops.toList ops.toList).run s=some f)(v:Sat f.m.lg)(e:At P base gl ρ s.m f.m.hi w)(n:FrR z ρ nt s.fr a)
  (A:∀ c a' w',FrR z c nt f.fr a'->St P base ρ c s.m f.m w w'->Q .normal a' w'):(Code.region id ops true).wpIn (fw z.rd) 0 P Q a w:=by
 refine kT k (A20 hr (fun w' l=>?_) (fun d=>?_) _)
 .have u:=A3Z hm e.hr e.gr n;refine⟨fun o y t x hx=>?_,u.ap⟩;obtain⟨b,o',C,T,fz,sz,g,F,D,B⟩:=u.pl o y t x hx;exact⟨b,o',C,T,fz,sz,g,F,by show w'.heap[b]? = _;rw[l];exact D,B⟩
 .exact FE E ops.toList ρ s f a { w with drawn:=d } h v (e.drew d) n fun c a' w' f1 st=>⟨rfl,A c a' w' f1 st.undrew⟩
def gG(P:Program)(base gl:Nat)(call:O8):Prop :=
 P.follows .mixedOrders=true/\∀ (nt:Nat) (ops:Array Oper),GS ops=true->∀ (s b:S),o8 P nt gl call ops.toList ops.toList 0 (Z0 ops.toList []) [] [] s=some b->(s.m.hi<=b.m.hi/\s.m.lg.le b.m.lg) /\
  ∀ (z:Zn) (ρ:Ren) (a:Act) (w:World) (id:Nat) (Q:Exit->Act->World->Prop),Sat b.m.lg->At P base gl ρ s.m b.m.hi w->FrR z ρ nt s.fr a ->
   (∀ c a' w',FrR z c nt b.fr a'->St P base ρ c s.m b.m w w'->Q .normal a' w')->(Code.region id ops true).wpIn (fw z.rd) 0 P Q a w
def O2:∀ (q r:List Bool) (c:Code),G6 (q++r) c=(G6 q c).bind (G6 r)
 | [],r,c=>rfl
 | false::q,r,.seq a b=>O2 q r a
 | true::q,r,.seq a b=>O2 q r b
 | false::q,r,.cond _ a b=>O2 q r a
 | true::q,r,.cond _ a b=>O2 q r b
 | false::q,r,.block _ c=>O2 q r c
 | false::q,r,.loop c=>O2 q r c
 | false::q,r,.scope c=>O2 q r c
 | true::q,r,.scope c=>rfl
 | true::q,r,.block _ c=>rfl
 | true::q,r,.loop c=>rfl
 | b::q,r,.skip=>by cases b<;>rfl
 | b::q,r,.region _ _ _=>by cases b<;>rfl
 | false::q,r,.rangeFunc _ _ a _=>O2 q r a
 | true::q,r,.rangeFunc _ _ _ b=>O2 q r b
 | b::q,r,.exit _=>by cases b<;>rfl
 | b::q,r,.label _=>by cases b<;>rfl
 | b::q,r,.goto _=>by cases b<;>rfl
 | b::q,r,.ret=>by cases b<;>rfl
 | b::q,r,.refuse _=>by cases b<;>rfl
def I3{b:Bool}{body c d:Code}(h:G6 q body=some c)(a:G6 [b] c=some d):G6 (q++[b]) body=some d:=by
 rw[O2,h];exact a
structure R0 (P:Program) (base gl nt:Nat) (c:Code) (L:S->Option (Ex×S)):Prop where
 lg:∀ (s s':S) (e:Ex),L s=some (e,s')->s.m.hi<=s'.m.hi/\s.m.lg.le s'.m.lg
 ok:∀ (s s':S) (e:Ex),L s=some (e,s')->Sat s'.m.lg->∃ N,∀ (z:Zn) (ρ:Ren) (a:Act) (w:World) (Q:Exit->Act->World->Prop),At P base gl ρ s.m s'.m.hi w->FrR z ρ nt s.fr a ->
  (∀ ρ' a' w',FrR z ρ' nt s'.fr a'->St P base ρ ρ' s.m s'.m w w'->Q e.out a' w')->Code.roundsIn (fw z.rd) 0 P c Q N a w
def orL(a b:S->Option (Ex×S))(s:S):Option (Ex×S) :=
 match a s with
 | some r=>some r
 | none=>b s
def R0.or{nt:Nat}{c:Code}{a b:S->Option (Ex×S)}(k:R0 P base gl nt c a)(l:R0 P base gl nt c b):R0 P base gl nt c (orL a b):=by
 refine⟨fun s m e h=>?_,fun s m e h f=>?_⟩
 .unfold orL at h;split at h
  .rename_i r hr;cases h;exact k.lg _ _ _ hr
  .exact l.lg _ _ _ h
 .unfold orL at h;split at h
  .rename_i r hr;cases h;exact k.ok _ _ _ hr f
  .exact l.ok _ _ _ h f
def PT(P:Program)(base gl nt:Nat)(body:Code)(lp:LpT):Prop :=
 (∃ fn,P.funcs[lp.me]? = some fn/\fn.body=some body/\fn.ntmps=nt)/\∀ q x L,G6 q body=some (.loop x)->lp.look q=some L->R0 P base gl nt x L
def nF{m m':Mem}{ab:AB}{k:Nat->Value}{v:Value}(h:Z4 m ab k=some (v,m')):v=k m.n/\m.hi<=m'.hi/\m'.lg=m.lg:=by
 obtain⟨_,a,rfl⟩:=L5 h;exact⟨a,(K9 _ _).1,rfl⟩
def mX{m m':Mem}{id:Nat}{ab:AB}(h:cK m id ab=some m'):m'.hi=m.hi/\m'.lg=m.lg:=by
 obtain⟨_,rfl⟩:=U4 h;exact⟨rfl,rfl⟩
def uQ{fr:Fr}{hi b:Nat}{r:Res}{e:Ex}{a:S}(h:qV fr hi b r=some (e,a)):∃ v m f q vs st m',r=some (v,m)/\Hp.get m.H b=some (.lp f q vs st)/\nEx st=some e/\hi<=m.hi/\cK m b (.lp f q vs 3)=some m'/\a=⟨fr,m'⟩:=by
 unfold qV at h;split at h
 .rename_i v m;split at h
  .rename_i f q vs st c;split at h
   .rename_i k he;obtain⟨h1,h⟩:=A3 h;split at h
    .rename_i m' hm;cases h;exact⟨_,_,_,_,_,_,_,rfl,c,he,A1 h1,hm,rfl⟩
    .cases h
   .cases h
  .cases h
 .cases h
def xT{call:O8}{f:FuncId}{fr:Fr}{m:Mem}{e:Ex}{l:S}(h:cG P nt call f q g fr m=some (e,l)) :
  ∃ m1 k a b,Z4 m (.lp f q (frL fr 0 nt) 0) yv=some (yv m.n,m1)/\g=.func (.func k) a b/\rV P k=true/\qV fr m1.hi m.n ((call.fn k).run (a.toList++([yv m.n]++b.toList)) m1)=some (e,l):=by
 unfold cG at h;rw[I1]at h;split at h
 .rename_i v m1 t;have hv:=(nF t).1;subst hv;have u:eH (yv m.n)=some m.n:=rfl;split at h
  .rename_i k as b c s;rw[u]at s;cases s;obtain⟨h1,h⟩:=A3 h;unfold wO at c;split at c
   .cases c;exact⟨m1,_,_,_,t,rfl,h1,h⟩
   .cases c
  .cases h
 .cases h
def oO{call:O8}(u:V3 P base gl call){f:FuncId}{fr:Fr}{m:Mem}{e:Ex}{c:S}(h:cG P nt call f q g fr m=some (e,c)):m.hi<=c.m.hi/\m.lg.le c.m.lg:=by
 obtain⟨m1,k,a,b,h1,_,_,l⟩:=xT h;obtain⟨v,m2,f,q,vs,st,m3,w,_,_,t,s,rfl⟩:=uQ l
 have:=(u.fn k).lg _ _ _ _ w;obtain⟨g1,g2⟩:=mX s;obtain⟨_,y,n⟩:=nF h1;refine⟨by show m.hi<=m3.hi;rw[g1];exact B9 y t,?_⟩;show m.lg.le m3.lg;rw[g2,<- n];exact this
def DT{call:O8}{f:FuncId}{x:XC}{s t:S}{e:Ex}(h:zY P nt call f q x s=some (e,t)):nt<=510 /\
  ((∃ k f0 l c,eH (s.fr.get 511)=some k/\Hp.get s.m.H k=some (.lp f0 l c 1)/\cG P nt call f q (x.run s.fr) s.fr s.m=some (e,t)) ∨
    (nL (s.fr.get 511)=true/\∃ m1,Z4 s.m (.dfr true) (fun b=>.pointer (some ⟨b,0,none⟩))=some (.pointer (some ⟨s.m.n,0,none⟩),m1) /\
      cG P nt call f q (x.run s.fr) (s.fr.set 510 (dv (s.m.n::iI (s.fr.get 510)))) m1=some (e,t))):=by
 unfold zY at h;obtain⟨fr,m⟩:=s;obtain⟨h1,h⟩:=A3 h;refine⟨A1 h1,?_⟩;split at h
 .rename_i k y;split at h
  .rename_i f0 l c A;exact .inl ⟨k,f0,l,c,y,A,h⟩
  .cases h
 .obtain⟨w,h⟩:=A3 h;refine .inr ⟨w,?_⟩;split at h
  .rename_i a m1 v;have hv:=(nF v).1;cases hv;rw[I1]at h;have:vS (sel 7) (sel 7) (sel 6) (dv (m.n::iI (fr.get 510))) fr (fun u=>cG P nt call f q (x.run fr) u m1)=cG P nt call f q (x.run fr) (fr.set 510 (dv (m.n::iI (fr.get 510)))) m1:=xG 510 _ _ _;rw[this]at h;exact⟨m1,v,h⟩
  .cases h
def VO{call:O8}(b:V3 P base gl call){f:FuncId}{x:XC}{s a:S}{e:Ex}(h:zY P nt call f q x s=some (e,a)):s.m.hi<=a.m.hi/\s.m.lg.le a.m.lg:=by
 obtain⟨_,⟨_,_,_,_,_,_,h⟩|⟨_,m1,l,h⟩⟩:=DT h
 .exact oO b h
 .have:=oO b h;obtain⟨_,k,c⟩:=nF l;rw[c]at this;exact⟨B9 k this.1,this.2⟩
def SP(fr:Fr):∀ (n i j:Nat),(frL fr i n)[j]? = if j<n then some (fr.get (i+j))else none
 | 0,i,j=>by simp[frL]
 | n+1,i,0=>by simp[frL]
 | n+1,i,j+1=>by
   rw[frL,Q8,SP fr n (i+1) j];have:i+1+j=i+(j+1):=A2;rw[this];by_cases h:j<n
   .rw[A9 h,A9 A2]
   .rw[A7 h,A7 A2]
def GF(fr:Fr):∀ (n i:Nat),(frL fr i n).length=n
 | 0,i=>rfl
 | n+1,i=>by simp[frL,GF fr n]
def FrR.list{ρ:Ren}{fr:Fr}{a:Act}(h:FrR z ρ nt fr a):LR ρ (frL fr 0 nt) a.tmps.toList:=by
 refine⟨by rw[GF];simpa using h.size.symm,fun i v v' h1 b=>?_⟩;rw[SP]at h1;split at h1
 .rename_i hi;cases h1
  have:=h.get i hi;rw[F4];have h3:a.tmps.getD i undef=v':=by
   have:a.tmps[i]? = some v':=by simpa using b
   simp[B8,this]
  rw[h3]at this;exact this
 .cases h1
def OU{k:FuncId}(h:rV P k=true):∃ fn c,P.funcs[k]? = some fn/\fn.body=some c:=by
 unfold rV at h;split at h
 .rename_i fn a;split at h
  .rename_i c b;exact⟨fn,c,by simpa using a,b⟩
  .cases h
 .cases h
def oH{k:FuncId}{args:V8}{w w':World}{v:Value}(h:rV P k=true):(callFunc k args).run P w≠.ok (.value v) w':=by
 obtain⟨fn,c,h1,b⟩:=OU h;by_cases a:fn.name = "runtime.NumGoroutine"
 .simp[callFunc,h1,a]
 .simp[callFunc,h1,a,b]
def iV{w:World}{l:Nat}{o:Obj}(h:l<w.heap.size):(w.putObj l o).heap.size=w.heap.size/\(w.putObj l o).heap[l]? = some o/\∀ k,k≠l->(w.putObj l o).heap[k]? = w.heap[k]? := ⟨by simp[World.putObj],World.putObj_heap_same h,fun k a=>World.putObj_heap_other a⟩
def xS{call:O8}(hc:V3 P base gl call){fn:Func}{body:Code}(f1:P.funcs[me]? = some fn)(f2:fn.body=some body)(f3:fn.ntmps=nt)(hq:G6 q body=some (.rangeFunc x ps as bd))
  {fr:Fr} {m:Mem} {e:Ex} {L:S} (h:cG P nt call me q g fr m=some (e,L)) (hS:Sat L.m.lg) {ρ:Ren} {a:Act} {w:World} {r:Loop} (y:At P base gl ρ m L.m.hi w) (hf:FrR z ρ nt fr a) (Z:VR ρ g (a.eval x))
  (hr:r.state=.ready/\r.pending=none/\r.tmps=a.tmps/\r.params=ps/\r.assign=as/\r.body=bd) {Q:Exit->Act->World->Prop}
  (hQ:∀ D w',FrR z D nt L.fr a->St P base ρ D m L.m w w'->Q e.out a w') :
  ∃ k args d,(resolve a.eval (rangeCall x w.heap.size) 0).run P (w.alloc (.loop r))=.ok d (w.alloc (.loop r))/\(invoke d.target d.args).run P (w.alloc (.loop r))=.ok (.enter k args) (w.alloc (.loop r)) /\
   CallsIn (fw z.rd) 0 P k args (w.alloc (.loop r)) (rangePost (fw z.rd) 0 P w.heap.size Q a):=by
 obtain⟨m1,k,A,B,h1,X,G,h2⟩:=xT h;obtain⟨v,m2,ff,qq,vs,st,m3,e1,e2,F,e4,e5,rfl⟩:=uQ h2;obtain⟨g1,g2⟩:=mX e5;obtain⟨_,g3,g4⟩:=nF h1;have O:Sat m2.lg:=by have:Sat m3.lg:=hS;rwa[g2]at this
 have f:K2 ρ m.n m3.hi:=y.fr;have hle:m1.hi<=m3.hi:=by rw[g1];exact e4
 obtain⟨r1,r2,r3,r4,r5,r6⟩:=hr;subst r4;subst r5;subst r6;have s:(w.alloc (.loop r)).heap=w.heap.push (.loop r):=rfl;have E:ρ m.n=none:=f m.n (A6 _) (by
  obtain⟨_,_,q⟩:=L5 h1;have:m1.hi=upN m.hi m.n:=by rw[q]
  have h3:=(K9 m.hi m.n).2;omega)
 obtain⟨_,k1,u⟩:=St.alloc (w':=w.alloc (.loop r)) (o:=.loop r) (l:=lc w.heap.size 0 0) y.hr y.bs h1 (f.less hle) ⟨rfl,rfl,rfl⟩ s rfl (by
  refine⟨⟨rfl,rfl⟩,r,by simp[s],⟨fn,body,x,f1,f2,hq,by rw[GF,f3]⟩,?_,⟨r1,r2⟩⟩;rw[r3];exact hf.list.mono (W7 E))
 have t:=y.step u;obtain⟨A,rfl⟩:∃ l:D0,A=⟨l⟩:=⟨A.toList,rfl⟩;obtain⟨B,rfl⟩:∃ l:D0,B=⟨l⟩:=⟨B.toList,rfl⟩;subst X;generalize W:a.eval x=gx at Z;cases Z with
 | pure hp=>simp[I4]at hp
 | func ha M q1 q2 =>
   rename_i R K;have lA:LR ρ A R:=⟨ha,q1⟩;have lB:LR ρ B K:=⟨M,q2⟩;have hy:VR (upd ρ m.n (lc w.heap.size 0 0)) (yv m.n) (.func (.yield w.heap.size) #[] #[]):=VR.yv k1;have hl:=(lA.mono u.ext).append ((LR.cons hy .nil).append (lB.mono u.ext));refine⟨k,⟨R++([.func (.yield w.heap.size) #[] #[]]++K)⟩,{ target:=.fn (.func k) ⟨K⟩,args:=⟨R⟩++#[.func (.yield w.heap.size) #[] #[]] },?_,?_,?_⟩
   .show(Deferred.ofValue (a.eval x) _).run P _=_;rw[W];simp[Deferred.ofValue,Act.eval]
   .have V:(callFunc k ⟨R++([.func (.yield w.heap.size) #[] #[]]++K)⟩).run P (w.alloc (.loop r))=.ok (.enter k ⟨R++([.func (.yield w.heap.size) #[] #[]]++K)⟩) (w.alloc (.loop r)):=by
     rcases(hc.fn k).ok _ m1 m2 _ _ _ v e1 O (t.less (by show m2.hi<=m3.hi;rw[g1];exact A6 _)) hl with⟨J,_⟩|⟨v',D,w',J,_⟩
     .exact J
     .exact absurd J (oH G)
    rw[<- V];show(callFunc k _).run P _=_;congr 2;apply J1;simp
   .rcases(hc.fn k).ok _ m1 m2 _ _ _ v e1 O (t.less (by show m2.hi<=m3.hi;rw[g1];exact A6 _)) hl with⟨_,c2⟩|⟨v',D,w',J,_⟩
    .refine pA.2 (c2.mono fun en w2 ⟨v',ρ2,he,hv,C⟩=>?_);subst he;have k2:=C.ext _ _ k1;obtain⟨b1,b2⟩:=C.hr.atl k2 e2;obtain⟨⟨b3,b4⟩,H,T,U⟩:=b1;have T:w2.heap[w.heap.size]? = some (.loop H):=T;have I:H.state≠.busy:=by
      have c:=U.st;intro M
      match st,c,F with
      | 0,c,_=>rw[M]at c;cases c.1
      | 2,c,_=>rw[M]at c;cases c.1
      | k+4,c,_=>rw[M]at c;cases c.1
     obtain⟨p1,p2,p3⟩:=iV (o:=.loop { H with state:=.exhausted }) (C7.1 T).1;have Y:St P base ρ2 ρ2 m2 m3 w2 (w2.putObj w.heap.size (.loop { H with state:=.exhausted })):=St.write C.hr e5 e2 rfl k2 rfl ⟨rfl,rfl,rfl⟩ p1 p3 ⟨⟨rfl,rfl⟩,_,p2,U.code,U.fr,trivial⟩;have N:St P base ρ ρ2 m m3 w _:=St.trans f u (St.trans t.fr C Y);have b:=hQ ρ2 _ (hf.mono N.ext) N;refine⟨H.pending,_,run_endLoop T I,?_⟩;have c:=U.st
     match st,c,F with
     | 0,c,F=>cases F;rw[show H.pending=none from c.2]at b ⊢;exact b
     | 2,c,F=>cases F;rw[show H.pending=some .ret from c.2]at b ⊢;exact wpIn_ret b
     | k+4,c,F=>cases F;rw[show H.pending=some (.exit k)from c.2]at b ⊢;exact wpIn_exit b
    .exact absurd J (oH G)
def YX{call:O8}(U:V3 P base gl call){fn:Func}{body:Code}(f1:P.funcs[me]? = some fn)(f2:fn.body=some body)(f3:fn.ntmps=nt)(W:G6 q body=some (.rangeFunc x ps as bd))(hx:okX nt gl x=true)
  {s E:S} {e:Ex} {ρ:Ren} {a:Act} {w:World} {Q:Exit->Act->World->Prop} (h:zY P nt call me q (R9 x) s=some (e,E)) (V:Sat E.m.lg) (f:At P base gl ρ s.m E.m.hi w) (G:FrR z ρ nt s.fr a)
  (X:∀ u a' w',FrR z u nt E.fr a'->St P base ρ u s.m E.m w w'->Q e.out a' w'):(Code.rangeFunc x ps as bd).wpIn (fw z.rd) 0 P Q a w:=by
 obtain⟨K,h⟩:=DT h;refine wpIn_rangeFunc fun b _=>?_
 have hv:=G.ev f.gr hx;rcases h with⟨b0,f0,q0,az,Z,hg,h⟩|⟨hu,m1,B,h⟩
 .obtain⟨l0,e1,e2⟩:=(G.rd K).2 b0 Z;obtain⟨⟨_,Y,b1,_⟩,_⟩:=f.hr.atl e1 hg;have D:(Instr.enterLoop b a.tmps ps as bd (fw z.rd).round).run P w=.ok (w.heap.size,[]) (w.alloc (.loop { state:=.ready,pending:=none,fn:=b,tmps:=a.tmps,params:=ps,assign:=as,body:=bd,defers:=Y.defers })):=by
   show(Instr.enterLoop b a.tmps ps as bd z.rd).run P w=_;rw[e2];unfold Instr.enterLoop;simp only[A4,run_getLoop b1,run_newObj_alloc,Result.andThen,Sem.run_pure]
  rw[eG]at h;obtain⟨k,args,d,I,O,J⟩:=xS (r:={ state:=.ready,pending:=none,fn:=b,tmps:=a.tmps,params:=ps,assign:=as,body:=bd,defers:=Y.defers }) U f1 f2 f3 W h V f G hv ⟨rfl,rfl,rfl,rfl,rfl,rfl⟩ (Q:=Q) fun u w' g1 g2=>X u a w' g1 g2
  exact⟨_,_,_,d,_,k,args,_,D,I,fun _ _=>trivial,O,rY,J⟩
 .have L:=(G.rd K).1 hu;have v:K2 ρ s.m.n E.m.hi:=f.fr;have T:=oO U h;obtain⟨_,g3,g4⟩:=nF B;have D:(Instr.enterLoop b a.tmps ps as bd (fw z.rd).round).run P w=.ok (w.heap.size+1,[{ target:=.collected w.heap.size,args:=#[] }]) ((w.alloc (.deferred (some []))).alloc (.loop { state:=.ready,pending:=none,fn:=b,tmps:=a.tmps,params:=ps,assign:=as,body:=bd,defers:=w.heap.size })):=by
   show(Instr.enterLoop b a.tmps ps as bd z.rd).run P w=_;rw[L];exact run_enterLoop_outer b a.tmps ps as bd
  have c:(w.alloc (.deferred (some []))).heap=w.heap.push (.deferred (some [])):=rfl;obtain⟨_,k1,A⟩:=St.alloc (w':=w.alloc (.deferred (some []))) (o:=.deferred (some [])) (l:=lc w.heap.size 0 0) f.hr f.bs B (v.less T.1) ⟨rfl,rfl,rfl⟩ c rfl ⟨⟨rfl,rfl⟩,_,by simp[c],fun _=>rfl⟩;have H:=f.step A;have M:(w.alloc (.deferred (some []))).heap.size=w.heap.size+1:=by simp[c]
  let a2:Act:={ a with defers:={ target:=.collected w.heap.size,args:=#[] }::a.defers }
  have R:FrR z (upd ρ s.m.n (lc w.heap.size 0 0)) nt (s.fr.set 510 (dv (s.m.n::iI (s.fr.get 510)))) a2:=by
   have y:=G.mono A.ext;have C:∀ t,t<512->t≠510->(s.fr.set 510 (dv (s.m.n::iI (s.fr.get 510)))).get t=s.fr.get t:=fun t h1 F=>by rw[L8 _ _ _ _ E7 h1,A7 F]
   refine⟨y.size,y.le,?_,fun _=>by rw[C 511 E7 E7];exact y.rd K,fun t ht=>by rw[C t A2 A2];exact y.get t ht⟩;obtain⟨ds,d1,d2⟩:=y.df;refine⟨{ target:=.collected w.heap.size,args:=#[] }::ds,by show _::a.defers=_;rw[d1];rfl,?_⟩;unfold dvG at d2 ⊢;have hb:Nat.ble nt 510=true:=C5 K;rw[hb]at d2 ⊢;rw[L8 _ _ _ _ E7 E7,A9 rfl];have hd:iI (dv (s.m.n::iI (s.fr.get 510)))=s.m.n::iI (s.fr.get 510):=by
    simp[iI,dv,A5B,Function.comp_def]
   simp only[E3,hd]at d2 ⊢;refine⟨by simp[d2.1],fun i id d h1 F=>?_⟩;cases i with
   | zero =>
     simp only[Q7,D2]at h1 F;subst h1;subst F;exact⟨_,k1,rfl⟩
   | succ i=>exact d2.2 i id d (by simpa using h1) (by simpa using F)
  have N:VR (upd ρ s.m.n (lc w.heap.size 0 0)) ((R9 x).run s.fr) (a2.eval x):=by
   rw[eG];exact hv.mono A.ext
  obtain⟨k,args,d,I,O,J⟩:=xS (r:={ state:=.ready,pending:=none,fn:=b,tmps:=a.tmps,params:=ps,assign:=as,body:=bd,defers:=w.heap.size }) U f1 f2 f3 W h V H R N ⟨rfl,rfl,rfl,rfl,rfl,rfl⟩ (Q:=Q) fun u w' g1 g2=>X u a2 w' g1 (St.trans v A g2)
  rw[M]at I J;exact⟨_,_,_,d,_,k,args,_,D,I,fun _ _=>trivial,O,rY,J⟩
def yG{call:O8}{lp:LpT}{q:List Bool}{x:Code}(hx:∀ (s c:S) (e:Ex),(N3 P nt gl call lp q x).run s=some (e,c)->s.m.hi<=c.m.hi/\s.m.lg.le c.m.lg):∀ (n:Nat) (s c:S) (e:Ex),CN (N3 P nt gl call lp q x) n s=some (e,c)->s.m.hi<=c.m.hi/\s.m.lg.le c.m.lg
 | 0,s,c,e,h=>by cases h
 | n+1,s,c,e,h=>by
   unfold CN at h;split at h
   .rename_i s1 h1;have a:=hx _ _ _ h1;have b:=yG hx n _ _ _ h;exact⟨B9 a.1 b.1,a.2.trans b.2⟩
   .exact hx _ _ _ h
def yH{call:O8}{lp:LpT}{q:List Bool}{x:Code}{L:S->Option (Ex×S)}(hx:∀ (s c:S) (e:Ex),(N3 P nt gl call lp q x).run s=some (e,c)->s.m.hi<=c.m.hi/\s.m.lg.le c.m.lg)
  (f:∀ (s c:S) (e:Ex),L s=some (e,c)->s.m.hi<=c.m.hi/\s.m.lg.le c.m.lg):∀ (n:Nat) (s c:S) (e:Ex),CO (N3 P nt gl call lp q x) L n s=some (e,c)->s.m.hi<=c.m.hi/\s.m.lg.le c.m.lg
 | 0,s,c,e,h=>by cases h
 | n+1,s,c,e,h=>by
   unfold CO at h;split at h
   .rename_i r hr;cases h;exact f _ _ _ hr
   .split at h
    .rename_i s1 h1;have a:=hx _ _ _ h1;have b:=yH hx f n _ _ _ h;exact⟨B9 a.1 b.1,a.2.trans b.2⟩
    .exact hx _ _ _ h
def LW{c:XC}{a b:gH}{s l:S}{e:Ex}(h:LX c a b s=some (e,l)):∃ t lg,brL s.m.lg (c.run s.fr)=some (t,lg)/\(bif t then a.run ⟨s.fr,s.m.wLg lg⟩else b.run ⟨s.fr,s.m.wLg lg⟩)=some (e,l):=by
 obtain⟨fr,⟨H,n,W,hi,lg⟩⟩:=s;unfold LX at h;split at h
 .rename_i k;exact⟨true,lg,by rw[k];rfl,h⟩
 .rename_i k;exact⟨false,lg,by rw[k];rfl,h⟩
 .simp only at h;split at h
  .rename_i lg' f;exact⟨true,lg',f,h⟩
  .rename_i lg' f;exact⟨false,lg',f,h⟩
  .cases h
def T4{call:O8}{lp:LpT}{body:Code}(u:V3 P base gl call)(v:gG P base gl call)(l:PT P base gl nt body lp):∀ (c:Code) (q:List Bool),G6 q body=some c->∀ (s k:S) (e:Ex),(N3 P nt gl call lp q c).run s=some (e,k)->s.m.hi<=k.m.hi/\s.m.lg.le k.m.lg
 | .skip,q,f,s,k,e,h=>by have h:some (Ex.normal,s)=some (e,k):=h;cases h;exact⟨A6 _,.refl _⟩
 | .label _,q,f,s,k,e,h=>by have h:some (Ex.normal,s)=some (e,k):=h;cases h;exact⟨A6 _,.refl _⟩
 | .exit id,q,f,s,k,e,h=>by have h:some (Ex.exit id,s)=some (e,k):=h;cases h;exact⟨A6 _,.refl _⟩
 | .ret,q,f,s,k,e,h=>by have h:some (Ex.ret,s)=some (e,k):=h;cases h;exact⟨A6 _,.refl _⟩
 | .region id ops d,q,f,s,k,e,h=>by
   cases d with
   | false =>
     have h:Y6 (U7 P nt gl call ops.toList ops.toList) s=some (e,k):=h;unfold Y6 at h;split at h
     .rename_i s1 h1;cases h;exact⟨sZ _ _ _ h1,lK u _ _ _ h1⟩
     .cases h
   | true =>
     unfold N3 at h;simp only at h;cases f:GS ops with
     | false=>rw[f]at h;cases h
     | true =>
       rw[f]at h;have go:Y6 ⟨o8 P nt gl call ops.toList ops.toList 0 (Z0 ops.toList []) [] []⟩ s=some (e,k)->s.m.hi<=k.m.hi/\s.m.lg.le k.m.lg:=fun h=>by
        unfold Y6 at h;split at h
        .rename_i s1 h1;cases h;exact(v.2 nt ops f _ _ h1).1
        .cases h
       simp only[E3]at h;cases hr:lF ops.toList with
       | false=>rw[hr]at h;exact go h
       | true =>
         rw[hr]at h;simp only[E3]at h;cases hm:lQ P nt gl s.fr s.m.H ops.toList with
         | false=>rw[hm]at h;exact go h
         | true =>
           rw[hm]at h;simp only[E3]at h;unfold Y6 at h;split at h
           .rename_i s1 h1;cases h;exact⟨sZ _ _ _ h1,lK u _ _ _ h1⟩
           .cases h
 | .seq x y,q,f,s,k,e,h=>by
   have w:=T4 u v l x (q++[false]) (I3 f rfl);have A:=T4 u v l y (q++[true]) (I3 f rfl);have h:A19 (N3 P nt gl call lp (q++[false]) x) (N3 P nt gl call lp (q++[true]) y) s=some (e,k):=h;unfold A19 at h;split at h
   .rename_i s1 h1;have a:=w _ _ _ h1;have b:=A _ _ _ h;exact⟨B9 a.1 b.1,a.2.trans b.2⟩
   .exact w _ _ _ h
 | .cond c x y,q,f,s,k,e,h=>by
   have w:=T4 u v l x (q++[false]) (I3 f rfl);have A:=T4 u v l y (q++[true]) (I3 f rfl);unfold N3 at h;cases f:okX nt gl c with
   | false=>rw[f]at h;cases h
   | true =>
     rw[f]at h;have h:LX (R9 c) (N3 P nt gl call lp (q++[false]) x) (N3 P nt gl call lp (q++[true]) y) s=some (e,k):=h;obtain⟨t,lg,h1,B⟩:=LW h;have C:=fE h1;obtain⟨fr,⟨H,n,W,hi,l0⟩⟩:=s;cases t with
     | true=>have a:=w _ _ _ B;exact⟨a.1,C.trans a.2⟩
     | false=>have b:=A _ _ _ B;exact⟨b.1,C.trans b.2⟩
 | .block id x,q,f,s,k,e,h=>by
   have w:=T4 u v l x (q++[false]) (I3 f rfl);have h:zZ id (N3 P nt gl call lp (q++[false]) x) s=some (e,k):=h;unfold zZ at h;split at h
   .rename_i j s1 h1
    have:=w _ _ _ h1;cases f:Nat.beq j id<;>rw[f]at h<;>cases h<;>exact this
   .exact w _ _ _ h
 | .loop x,q,f,s,k,e,h=>by
   have h:LV (N3 P nt gl call lp (q++[false]) x) (lp.look q) s=some (e,k):=h;unfold LV at h;split at h
   .rename_i L D;exact yH (T4 u v l x (q++[false]) (I3 f rfl)) (l.2 q x L f D).lg _ _ _ _ h
   .exact yG (T4 u v l x (q++[false]) (I3 f rfl)) _ _ _ _ h
 | .rangeFunc x _ _ _,q,f,s,k,e,h=>by
   unfold N3 at h;cases hx:okX nt gl x with
   | false=>rw[hx]at h;cases h
   | true=>rw[hx]at h;exact VO u h
 | .scope x,q,f,s,k,e,h=>T4 u v l x (q++[false]) (I3 f rfl) s k e h
 | .goto _,q,f,s,k,e,h=>by cases h
 | .refuse _,q,f,s,k,e,h=>by cases h
def S9{call:O8}{lp:LpT}{body:Code}(D:V3 P base gl call)(E:gG P base gl call)(l:PT P base gl nt body lp):∀ (c:Code) (q:List Bool),G6 q body=some c->∀ (ρ:Ren) (s f:S) (e:Ex) (a:Act) (w:World) (Q:Exit->Act->World->Prop),(N3 P nt gl call lp q c).run s=some (e,f)->Sat f.m.lg->At P base gl ρ s.m f.m.hi w->FrR z ρ nt s.fr a ->
  (∀ K a' w',FrR z K nt f.fr a'->St P base ρ K s.m f.m w w'->Q e.out a' w')->c.wpIn (fw z.rd) 0 P Q a w
 | .skip,q,C,ρ,s,f,e,a,w,Q,h,hS,b,v,A=>by have h:some (Ex.normal,s)=some (e,f):=h;cases h;exact wpIn_skip (A ρ a w v (.refl b.hr))
 | .label _,q,C,ρ,s,f,e,a,w,Q,h,hS,b,v,A=>by have h:some (Ex.normal,s)=some (e,f):=h;cases h;exact wpIn_label (A ρ a w v (.refl b.hr))
 | .exit id,q,C,ρ,s,f,e,a,w,Q,h,hS,b,v,A=>by have h:some (Ex.exit id,s)=some (e,f):=h;cases h;exact wpIn_exit (A ρ a w v (.refl b.hr))
 | .ret,q,C,ρ,s,f,e,a,w,Q,h,hS,b,v,A=>by have h:some (Ex.ret,s)=some (e,f):=h;cases h;exact wpIn_ret (A ρ a w v (.refl b.hr))
 | .region id ops d,q,C,ρ,s,f,e,a,w,Q,h,hS,b,v,A=>by
   cases d with
   | false =>
     have h:Y6 (U7 P nt gl call ops.toList ops.toList) s=some (e,f):=h;unfold Y6 at h;split at h
     .rename_i s1 h1;cases h;exact vN (FE D _ ρ s f a w h1 hS b v A)
     .cases h
   | true =>
     unfold N3 at h;simp only at h;cases C:GS ops with
     | false=>rw[C]at h;cases h
     | true =>
       rw[C]at h;have go:Y6 ⟨o8 P nt gl call ops.toList ops.toList 0 (Z0 ops.toList []) [] []⟩ s=some (e,f)->(Code.region id ops true).wpIn (fw z.rd) 0 P Q a w:=fun h=>by
        unfold Y6 at h;split at h
        .rename_i s1 h1;cases h;exact(E.2 nt ops C _ _ h1).2 z ρ a w id Q hS b v A
        .cases h
       simp only[E3]at h;cases hr:lF ops.toList with
       | false=>rw[hr]at h;exact go h
       | true =>
         rw[hr]at h;simp only[E3]at h;cases hm:lQ P nt gl s.fr s.m.H ops.toList with
         | false=>rw[hm]at h;exact go h
         | true =>
           rw[hm]at h;simp only[E3]at h;unfold Y6 at h;split at h
           .rename_i s1 h1;cases h;exact NP E.1 D hr hm h1 hS b v A
           .cases h
 | .seq x y,q,C,ρ,s,f,e,a,w,Q,h,hS,b,v,A=>by
   have B:G6 (q++[false]) body=some x:=I3 C rfl;have J:G6 (q++[true]) body=some y:=I3 C rfl;have h:A19 (N3 P nt gl call lp (q++[false]) x) (N3 P nt gl call lp (q++[true]) y) s=some (e,f):=h;unfold A19 at h;split at h
   .rename_i s1 h1;have hh:=T4 D E l y _ J _ _ _ h;refine wpIn_seq (S9 D E l x _ B ρ s s1 .normal a w _ h1 (R6.le hS hh.2) (b.less hh.1) v fun u F w1 f1 k=>?_);exact S9 D E l y _ J u s1 f e F w1 Q h hS (b.step k) f1 fun ρ2 a2 w2 f2 G=>A ρ2 a2 w2 f2 (St.trans b.fr k G)
   .rename_i I;refine wpIn_seq (S9 D E l x _ B ρ s f e a w _ h hS b v fun u F w1 f1 k=>?_)
    have:=A u F w1 f1 k;cases e with
    | normal=>exact absurd h (I f)
    | exit id=>exact this
    | ret=>exact this
 | .cond c x y,q,C,ρ,s,f,e,a,w,Q,h,hS,b,v,A=>by
   have B:G6 (q++[false]) body=some x:=I3 C rfl;have J:G6 (q++[true]) body=some y:=I3 C rfl;unfold N3 at h;cases O:okX nt gl c with
   | false=>rw[O]at h;cases h
   | true =>
     rw[O]at h;have h:LX (R9 c) (N3 P nt gl call lp (q++[false]) x) (N3 P nt gl call lp (q++[true]) y) s=some (e,f):=h;have hv:=v.ev b.gr O;obtain⟨t,lg,h1,V⟩:=LW h;rw[eG]at h1;have R:St P base ρ ρ s.m (s.m.wLg lg) w w:=St.wLg b.hr lg;cases t with
     | true =>
       have hh:=T4 D E l x _ B _ _ _ V;have X:Sat lg:=R6.le hS (by obtain⟨fr,⟨H,n,W,hi,l0⟩⟩:=s;exact hh.2);exact wpIn_cond_true (mH h1 hv X) (S9 D E l x _ B ρ ⟨s.fr,s.m.wLg lg⟩ f e a w Q V hS (b.wLg lg) v fun ρ2 a2 w2 f2 G=>A ρ2 a2 w2 f2 (St.trans b.fr R G))
     | false =>
       have hh:=T4 D E l y _ J _ _ _ V;have X:Sat lg:=R6.le hS (by obtain⟨fr,⟨H,n,W,hi,l0⟩⟩:=s;exact hh.2);exact wpIn_cond_false (mH h1 hv X) (S9 D E l y _ J ρ ⟨s.fr,s.m.wLg lg⟩ f e a w Q V hS (b.wLg lg) v fun ρ2 a2 w2 f2 G=>A ρ2 a2 w2 f2 (St.trans b.fr R G))
 | .block id x,q,C,ρ,s,f,e,a,w,Q,h,hS,b,v,A=>by
   have B:G6 (q++[false]) body=some x:=I3 C rfl;have h:zZ id (N3 P nt gl call lp (q++[false]) x) s=some (e,f):=h;unfold zZ at h;split at h
   .rename_i j s1 h1;cases M:Nat.beq j id with
    | true =>
      rw[M]at h;cases h;have Z:=A0 M;refine wpIn_block (S9 D E l x _ B ρ s f (.exit j) a w _ h1 hS b v fun u F w1 f1 k=>?_)
      have:=A u F w1 f1 k
      simpa [Exit.inBlock,Ex.out,Z]using this
    | false =>
      rw[M]at h;cases h;have Z:j≠id:=fun e=>by subst e;simp at M
      refine wpIn_block (S9 D E l x _ B ρ s f (.exit j) a w _ h1 hS b v fun u F w1 f1 k=>?_)
      have:=A u F w1 f1 k
      simpa [Exit.inBlock,Ex.out,Z]using this
   .rename_i I;refine wpIn_block (S9 D E l x _ B ρ s f e a w _ h hS b v fun u F w1 f1 k=>?_)
    have:=A u F w1 f1 k;cases e with
    | normal=>exact this
    | exit j=>exact absurd h (I j f)
    | ret=>exact this
 | .loop x,q,C,ρ,s,f,e,a,w,Q,h,hS,b,v,A=>by
   have B:G6 (q++[false]) body=some x:=I3 C rfl;replace h:LV (N3 P nt gl call lp (q++[false]) x) (lp.look q) s=some (e,f):=h;unfold LV at h;split at h
   .rename_i L hL;have U:=l.2 q x L C hL;have key:∀ (n:Nat) (s:S),CO (N3 P nt gl call lp (q++[false]) x) L n s=some (e,f)->∃ N,∀ (ρ:Ren) (a:Act) (w:World) (Q:Exit->Act->World->Prop),At P base gl ρ s.m f.m.hi w->FrR z ρ nt s.fr a ->
      (∀ K a' w',FrR z K nt f.fr a'->St P base ρ K s.m f.m w w'->Q e.out a' w')->Code.roundsIn (fw z.rd) 0 P x Q N a w:=by
     intro n;induction n with
     | zero=>intro s h;cases h
     | succ n Y =>
       intro s h;unfold CO at h;split at h
       .rename_i r hr;cases h;obtain⟨N,T⟩:=U.ok s f e hr hS;exact⟨N,T z⟩
       .split at h
        .rename_i s1 h1;obtain⟨N,T⟩:=Y s1 h;have hh:=yH (T4 D E l x _ B) U.lg _ _ _ _ h;refine⟨N+1,fun ρ a w Q b v A=>?_⟩;show x.wpIn (fw z.rd) 0 P (Exit.then (Code.roundsIn (fw z.rd) 0 P x Q N) Q) a w;refine S9 D E l x _ B ρ s s1 .normal a w _ h1 (R6.le hS hh.2) (b.less hh.1) v fun u F w1 f1 k=>?_
         exact T u F w1 Q (b.step k) f1 fun ρ2 a2 w2 f2 G=>A ρ2 a2 w2 f2 (St.trans b.fr k G)
        .rename_i I;refine⟨1,fun ρ a w Q b v A=>?_⟩;show x.wpIn (fw z.rd) 0 P (Exit.then (Code.roundsIn (fw z.rd) 0 P x Q 0) Q) a w;refine S9 D E l x _ B ρ s f e a w _ h hS b v fun u F w1 f1 k=>?_
         have:=A u F w1 f1 k;cases e with
         | normal=>exact absurd h (I f)
         | exit id=>exact this
         | ret=>exact this
    obtain⟨N,T⟩:=key _ s h;exact wpIn_loop_rounds N (T ρ a w Q b v A)
   obtain⟨n,h0⟩:∃ n,CN (N3 P nt gl call lp (q++[false]) x) n s=some (e,f):=⟨_,h⟩;clear h;have h:=h0;clear h0;refine wpIn_loop_rounds n ?_;induction n generalizing s ρ a w with
   | zero=>cases h
   | succ n Y =>
     unfold CN at h;show x.wpIn (fw z.rd) 0 P (Exit.then (Code.roundsIn (fw z.rd) 0 P x Q n) Q) a w;split at h
     .rename_i s1 h1;have hh:=yG (T4 D E l x _ B) _ _ _ _ h;refine S9 D E l x _ B ρ s s1 .normal a w _ h1 (R6.le hS hh.2) (b.less hh.1) v fun u F w1 f1 k=>?_
      exact Y u s1 F w1 (b.step k) f1 (fun ρ2 a2 w2 f2 G=>A ρ2 a2 w2 f2 (St.trans b.fr k G)) h
     .rename_i I;refine S9 D E l x _ B ρ s f e a w _ h hS b v fun u F w1 f1 k=>?_
      have:=A u F w1 f1 k;cases e with
      | normal=>exact absurd h (I f)
      | exit id=>exact this
      | ret=>exact this
 | .rangeFunc x ps as bd,q,C,ρ,s,f,e,a,w,Q,h,hS,b,v,A=>by
   unfold N3 at h;cases hx:okX nt gl x with
   | false=>rw[hx]at h;cases h
   | true =>
     rw[hx]at h;obtain⟨fn,f1,f2,f3⟩:=l.1;exact YX D f1 f2 f3 C hx h hS b v A
 | .scope x,q,C,ρ,s,f,e,a,w,Q,h,hS,b,v,A=>MP (S9 D E l x _ (I3 C rfl) ρ s f e a w _ h hS b v fun u F w1 f1 k=>by cases e<;>exact A u F w1 f1 k)
 | .goto _,q,C,ρ,s,f,e,a,w,Q,h,hS,b,v,A=>by cases h
 | .refuse _,q,C,ρ,s,f,e,a,w,Q,h,hS,b,v,A=>by cases h
end
end
section
open Go
variable [Ora]
def tH{c:Hp AB}:∀ (l:List Nat) (H:Hp AB),(∀ b ∈ l,b<=H7)->∀ id,id<=H7->Hp.get (eV c H l) id=if id ∈ l then Hp.get c id else Hp.get H id
 | [],H,_,id,_=>by simp[eV]
 | b::r,H,hl,id,hid=>by
   have e:=hl b B4;rw[eV,eP,tH r _ (fun x hx=>hl x (C4 _ hx)) id hid,F0 _ _ _ _ e hid];by_cases h1:id ∈ r
   .rw[A9 h1,A9 (C4 _ h1)]
   .rw[A7 h1];by_cases a:id=b
    .subst a;rw[A9 rfl,A9 B4]
    .rw[A7 a,A7 (by simp[h1,a])]
theorem V7{l:H4}{b:Nat}:v8 l b=true↔b ∈ l:=by
 unfold v8;rw[P6];constructor
 .rintro⟨x,hx,h⟩;rw[A0 h];exact hx
 .intro h;exact⟨b,h,by simp⟩
def tC:∀ (l acc:List Nat) (b:Nat),b ∈ oG l acc↔b ∈ l∨b ∈ acc
 | [],acc,b=>by simp[oG]
 | x::r,acc,b=>by
   unfold oG;cases h:v8 acc x with
   | true =>
     have hx:=V7.1 h;simp only[E3];rw[tC r acc b];constructor
     .rintro(h|h)
      .exact .inl (C4 _ h)
      .exact .inr h
     .rintro(h|h)
      .rcases B5.1 h with rfl|h
       .exact .inr hx
       .exact .inl h
      .exact .inr h
   | false =>
     simp only[D6];rw[tC r (x::acc) b];simp only[B5];constructor
     .rintro(h|h|h)
      .exact .inl (.inr h)
      .exact .inl (.inl h)
      .exact .inr h
     .rintro((h|h)|h)
      .exact .inr (.inl h)
      .exact .inl h
      .exact .inr (.inr h)
def uA{l:H4}(h:HA l=true):∀ b ∈ l,b<=H7:=fun b a=>A1 (D4.1 h b a)
section
variable {P:Program} {base gl nt:Nat}
def FN{ρ u:Ren}{n:Nat}(f:∀ b l,b<n->u b=some l->ρ b=some l){v v':Value}(h:VR u v v'):∀ (d:Nat),i6 n d v=true->VR ρ v v':=by
 have A:∀ (low:Value->Bool) (a:List Value),nZ low a=true->∀ (i:Nat) (v:Value),a[i]? = some v->low v=true:=fun low a=>by
  induction a with
  | nil=>intro _ i v h;simp at h
  | cons x r t =>
    intro h i v hi;obtain⟨h1,m⟩:=B6 (show(low x && nZ low r)=true from h);cases i with
    | zero=>simp at hi;subst hi;exact h1
    | succ i=>exact t m i v (by simpa using hi)
 induction h with
 | pure h=>intro d _;exact .pure h
 | hole h H=>intro d _;exact .hole h H
 | junk h=>intro d _;exact .junk h
 | ixp h E hi F hv =>
   intro d e;cases d with
   | zero=>cases e
   | succ d =>
     obtain⟨g1,_⟩:=B6 e;obtain⟨g1,_⟩:=B6 (show(i6 n d _ && _)=true from g1);cases d with
     | zero=>cases g1
     | succ d=>exact .ixp (f _ _ (A1 g1) h) E hi F hv
 | dat h h1 m h3 D =>
   intro d e;cases d with
   | zero=>cases e
   | succ d =>
     obtain⟨g1,_⟩:=B6 e;obtain⟨g1,_⟩:=B6 (show(i6 n d _ && _)=true from g1);cases d with
     | zero=>cases g1
     | succ d=>exact .dat (f _ _ (A1 g1) h) h1 m h3 D
 | clp h h1 m h3 D G =>
   intro d e;cases d with
   | zero=>cases e
   | succ d =>
     obtain⟨g1,_⟩:=B6 e;obtain⟨g1,_⟩:=B6 (show(i6 n d _ && _)=true from g1);cases d with
     | zero=>cases g1
     | succ d=>exact .clp (f _ _ (A1 g1) h) h1 m h3 D G
 | own h h1 m =>
   intro d e;cases d with
   | zero=>cases e
   | succ d =>
     obtain⟨g1,_⟩:=B6 e;obtain⟨g1,_⟩:=B6 (show(i6 n d _ && _)=true from g1);cases d with
     | zero=>cases g1
     | succ d=>exact .own (h.imp (fun⟨l,w,a,b⟩=>⟨l,w,f _ _ (A1 g1) a,b⟩) fun⟨l,w,rows,a,b⟩=>⟨l,w,rows,f _ _ (A1 g1) a,b⟩) h1 m
 | dpt h h1 m =>
   intro d e;cases d with
   | zero=>cases e
   | succ d =>
     obtain⟨g1,_⟩:=B6 e;obtain⟨g1,_⟩:=B6 (show(i6 n d _ && _)=true from g1);cases d with
     | zero=>cases g1
     | succ d=>exact .dpt (let ⟨l,w,rows,a,s,c,k,h0,r⟩:=h;⟨l,w,rows,a,s,c,k,f _ _ (A1 g1) h0,r⟩) h1 m
 | opt h h1 m =>
   intro d e;cases d with
   | zero=>cases e
   | succ d =>
     obtain⟨g1,_⟩:=B6 e;obtain⟨g1,_⟩:=B6 (show(i6 n d _ && _)=true from g1);cases d with
     | zero=>cases g1
     | succ d=>exact .opt (let ⟨l,w,rows,k,h0,r⟩:=h;⟨l,w,rows,k,f _ _ (A1 g1) h0,r⟩) h1 m
 | ptr h=>intro d e;cases d with|zero=>cases e|succ d=>exact .ptr (f _ _ (A1 e) h)
 | sl h hm=>intro d e;cases d with|zero=>cases e|succ d=>exact .sl (f _ _ (A1 e) h) hm
 | op h hm K J=>intro d e;cases d with|zero=>cases e|succ d=>exact .op (f _ _ (A1 e) h) hm K J
 | opE E=>intro d _;exact .opE E
 | map h=>intro d e;cases d with|zero=>cases e|succ d=>exact .map (f _ _ (A1 e) h)
 | sdt h =>
   intro d e;cases d with
   | zero=>cases e
   | succ d =>
     obtain⟨g1,_⟩:=B6 e;obtain⟨g1,_⟩:=B6 (show(i6 n d _ && _)=true from g1);cases d with
     | zero=>cases g1
     | succ d=>exact .sdt (let ⟨l,a,b⟩:=h;⟨l,f _ _ (A1 g1) a,b⟩)
 | yv h =>
   intro d e;cases d with
   | zero=>cases e
   | succ d =>
     obtain⟨g1,_⟩:=B6 e;obtain⟨g1,_⟩:=B6 (show(i6 n d _ && _)=true from g1);cases d with
     | zero=>cases g1
     | succ d=>exact .yv (f _ _ (A1 g1) h)
 | func y I h1 m C B =>
   intro d e;cases d with
   | zero=>cases e
   | succ d =>
     obtain⟨g1,g2⟩:=B6 e;exact .func y I (fun i v v' a b=>C i v v' a b d (A _ _ g1 i v a)) (fun i v v' a b=>B i v v' a b d (A _ _ g2 i v a))
 | iface h t=>intro d e;cases d with|zero=>cases e|succ d=>exact .iface (t d e)
 | agg y h t=>intro d e;cases d with|zero=>cases e|succ d=>exact .agg y (fun i v v' a b=>t i v v' a b d (A _ _ e i v a))
 | tuple y h t=>intro d e;cases d with|zero=>cases e|succ d=>exact .tuple y (fun i v v' a b=>t i v v' a b d (A _ _ e i v a))
def A7g{ρ m:Ren}{n:Nat}(B:∀ b l,b<n->m b=some l->ρ b=some l){ab:AB}{l:Loc}{w:World}(h:BR P m ab l w)(e:A3K n (some ab)=true):BR P ρ ab l w:=by
 cases ab with
 | cells cs T ro =>
   obtain⟨h0,C,fz,G,h1,k,h3⟩:=h;refine⟨h0,C,fz,G,h1,fun i v hi=>?_,h3⟩;obtain⟨v',g1,g2⟩:=k i v hi;have hv:i6 n 10 v=true:=by
    have a:nZ (i6 n 10) cs=true:=e;clear k g1 g2 e;induction cs generalizing i with
    | nil=>simp at hi
    | cons x r u =>
      obtain⟨A,y⟩:=B6 (show(i6 n 10 x && nZ (i6 n 10) r)=true from a);cases i with
      | zero=>simp at hi;subst hi;exact A
      | succ i=>exact u i (by simpa using hi) y
   exact⟨v',g1,FN B g2 10 hv⟩
 | mp c t T=>exact h
 | iter vs =>
   obtain⟨h0,s,J,h1,k⟩:=h;refine⟨h0,s,J,h1,k.1,fun i v v' g1 g2=>?_⟩;have hv:i6 n 10 v=true:=by
    have a:nZ (i6 n 10) vs=true:=e;clear k g2 e;induction vs generalizing i with
    | nil=>simp at g1
    | cons x r u =>
      obtain⟨A,y⟩:=B6 (show(i6 n 10 x && nZ (i6 n 10) r)=true from a);cases i with
      | zero=>simp at g1;subst g1;exact A
      | succ i=>exact u i (by simpa using g1) y
   exact FN B (k.2 i v v' g1 g2) 10 hv
 | lp f q vs st =>
   obtain⟨h0,r,h1,k⟩:=h;refine⟨h0,r,h1,k.code,⟨k.fr.1,fun i v v' g1 g2=>?_⟩,k.st⟩;have hv:i6 n 10 v=true:=by
    have a:nZ (i6 n 10) vs=true:=e;clear k g2 e;induction vs generalizing i with
    | nil=>simp at g1
    | cons x r u =>
      obtain⟨A,y⟩:=B6 (show(i6 n 10 x && nZ (i6 n 10) r)=true from a);cases i with
      | zero=>simp at g1;subst g1;exact A
      | succ i=>exact u i (by simpa using g1) y
   exact FN B (k.fr.2 i v v' g1 g2) 10 hv
 | dfr b=>exact h
 | sq c t T g ro =>
   obtain⟨wd,inf,h1,k,h3,F⟩:=SqR.ex h;refine⟨⟨wd,inf,h1,k,h3,F.imp (fun x=>x) fun⟨E,D⟩=>⟨E,?_⟩⟩⟩;obtain⟨C,fz,G,rows,lg,h1,k,h3,F,D,L,K,I,H⟩:=D;exact⟨C,fz,G,rows,lg,h1,k,h3,F,D,L,B _ _ (A1 e) K,I,H⟩
 | frz=>exact h
def JX{n:Nat}{H:Hp AB}:∀ {l:H4},OF n H l=true->∀ b ∈ l,A3K n (Hp.get H b)=true
 | [],_,b,h=>by cases h
 | x::r,h,b,a=>by
   obtain⟨h1,c⟩:=B6 (show(A3K n (Hp.get H x) && OF n H r)=true from h);rcases B5.1 a with rfl|a
   .exact h1
   .exact JX c b a
def A9p{ρ D:Ren}{m m1 m':Mem}{w w1:World}{v v':Value}(C:gcM m m1 v=some m')(st:St P base ρ D ⟨m.H,m.n,[],m.hi,m.lg⟩ m1 w w1)(A:At P base gl ρ m m'.hi w)(hv:VR D v v') :
  m'.hi=m1.hi/\∃ ρ2,VR ρ2 v v'/\St P base ρ ρ2 m m' w w1:=by
 have ax:m1.n<=m1.hi:=st.nhi A.nh;have hle:m.hi<=m1.hi:=st.hle;have e:∀ b,b ∈ oG (m1.W.filter fun b=>Nat.blt b m.n || Nat.ble m1.hi b) []↔b ∈ m1.W/\(b<m.n∨m1.hi<=b):=fun b=>by
  rw[tC];simp only[P1,K5,or_false,J0];constructor
  .rintro⟨h1,s⟩;exact⟨h1,s.imp (fun h=>A1 h) (fun h=>A1 h)⟩
  .rintro⟨h1,s⟩;exact⟨h1,s.imp (fun h=>C5 h) (fun h=>C5 h)⟩
 unfold gcM at C;generalize hW:oG (m1.W.filter fun b=>Nat.blt b m.n || Nat.ble m1.hi b) []=W at C e;simp only[E5,I1,eF]at C;have hold:m1.hi=m'.hi->∀ b l,ρ b=some l->b<m.n∨m1.hi<=b:=fun he b l y=>by
  rcases F8 b m.n with h1|h1
  .exact .inl h1
  .rcases F8 b m1.hi with s|s
   .rw[A.fr b h1 (he▸s)]at y;cases y
   .exact .inr s
 have G:m1.hi=m'.hi->∀ id,id<=H7->id ∉ W->∀ ab,Hp.get m.H id=some ab->id ∉ m1.W/\Hp.get m1.H id=some ab:=fun he id hid X ab c=>by
  obtain⟨l,h1,_,_⟩:=A.hr.at_ id hid ab c;have E:=hold he id l h1;have s:id ∉ m1.W:=fun h=>X ((e id).2 ⟨h,E⟩)
  exact⟨s,by rw[st.same id hid s E];exact c⟩
 have J:∀ b ∈ W,∀ l,ρ b=some l->∃ ab,Hp.get m.H b=some ab/\ab.rw=true:=fun b y l t=>st.wrw b ((e b).1 y).1 (by simp) l t
 cases K:i6 m.n 10 v && OF m.n m1.H W with
 | true =>
   rw[K]at C;simp only[E3]at C;obtain⟨u,C⟩:=A3 C;cases C;obtain⟨q1,q2⟩:=B6 K;have u:=uA u;have E:∀ b l,b<m.n->D b=some l->ρ b=some l:=fun b l y t=>by
    cases h0:ρ b with
    | some l0=>rw[st.ext b l0 h0]at t;exact t
    | none=>have h:=(st.new b l t h0).1;exact absurd y (Nat.not_lt.2 h)
   have f:∀ id,id<=H7->Hp.get (eV m1.H m.H W) id=if id ∈ W then Hp.get m1.H id else Hp.get m.H id:=fun id hid=>tH W _ u id hid
   have F:∀ id,id<=H7->∀ ab,Hp.get (eV m1.H m.H W) id=some ab->Hp.get m1.H id=some ab:=fun id hid ab c=>by
    rw[f id hid]at c;by_cases h:id ∈ W
    .rw[A9 h]at c;exact c
    .rw[A7 h]at c;exact(G rfl id hid h ab c).2
   have az:=st.hr.sub F;have ay:∀ id,id<=H7->∀ ab,Hp.get (eV m1.H m.H W) id=some ab->∀ l,D id=some l->ρ id=some l:=fun id hid ab c l t=>by
    cases h0:ρ id with
    | some l0=>rw[st.ext id l0 h0]at t;exact t
    | none =>
      exfalso;have hn:=st.new id l t h0;rw[f id hid]at c;by_cases h:id ∈ W
      .have:=((e id).1 h).2;have h1:m.n<=id:=hn.1;have s:=hn.2;omega
      .rw[A7 h]at c;obtain⟨l0,h1,_⟩:=A.hr.at_ id hid ab c;rw[h1]at h0;cases h0
   refine⟨rfl,ρ,FN E hv 10 q1,⟨fun _ _ h=>h,fun b k h1 s=>(by rw[h1]at s;cases s),A6 _,hle,fun h=>B9 h hle,⟨A.hr.dom,fun id hid ab c=>?_⟩,fun b y=>B7.2 (.inr y),fun b h1 s l t=>?_,fun k N y=>?_,st.size,st.os,fun b k h1 s=>(by rw[h1]at s;cases s),fun id hid h1 s=>?_,fun k ⟨id,a,q,hid,B,K,T⟩=>?_⟩⟩
   .obtain⟨l,g1,g2,g3⟩:=az.at_ id hid ab c;have t:=ay id hid ab c l g1;refine⟨l,t,?_,fun Q U=>⟨(g3 Q U).1,fun av R Z l2 f1 f2 f3=>(g3 Q U).2 av R Z l2 f1 (st.ext _ _ f2) f3⟩⟩;have au:=c;rw[f id hid]at c;by_cases h:id ∈ W
    .rw[A9 h]at c
     have:=JX q2 id h;rw[c]at this;exact A7g E g2 this
    .rw[A7 h]at c;obtain⟨l0,V,e2,e3⟩:=A.hr.at_ id hid ab c;rw[t]at V
     have:=A8 V;subst this;refine e2.mono (fun _ _ h=>h) (fun k N=>st.keep k (e2.tc N) fun b y lb L aw heq=>?_);have O:b ∈ W:=(e b).2 ⟨y,hold rfl b lb L⟩;obtain⟨ar,c1,c2⟩:=J b O lb L
     have:=((A.hr.atl L c1).2 c2 aw).2 id hid ab l c t (heq▸N);subst this;exact h O
   .rcases B7.1 h1 with h|h
    .exact J b h l t
    .exact absurd h s
   .exact st.keep k N fun b M l t E=>y b (B7.2 (.inl ((e b).2 ⟨M,hold rfl b l t⟩))) l t E
   .show Hp.get (eV m1.H m.H W) id=_;rw[f id hid,A7 (fun h=>h1 (B7.2 (.inl h)))]
   .have B:Hp.get (eV m1.H m.H W) id=some a:=B;rw[f id hid]at B;by_cases h:id ∈ W
    .rw[A9 h]at B;exact st.tch k ⟨id,a,q,hid,B,st.ext _ _ K,T⟩
    .rw[A7 h]at B;exact .inr ⟨id,a,q,hid,B,K,T⟩
 | false =>
   rw[K]at C;simp only[D6]at C;generalize hI:(IZ m.n m1.H 100000 (BE 10 v++wOf m1.H W) []).filter (fun b=>Nat.ble m.n b && Nat.blt b m1.hi)=I at C;have Y:∀ b ∈ I,m.n<=b/\b<m1.hi:=fun b y=>by
    subst hI;obtain⟨_,h⟩:=P1.1 y;obtain⟨h1,s⟩:=B6 h;exact⟨A1 h1,A1 s⟩
   obtain⟨u,C⟩:=A3 C;cases C;have u:=uA u;have f:∀ id,id<=H7->Hp.get (eV m1.H m.H (W++I)) id=if id ∈ W++I then Hp.get m1.H id else Hp.get m.H id:=fun id hid=>tH _ _ u id hid
   have F:∀ id,id<=H7->∀ ab,Hp.get (eV m1.H m.H (W++I)) id=some ab->Hp.get m1.H id=some ab:=fun id hid ab c=>by
    rw[f id hid]at c;by_cases h:id ∈ W++I
    .rw[A9 h]at c;exact c
    .rw[A7 h]at c;exact(G rfl id hid (fun hh=>h (B7.2 (.inl hh))) ab c).2
   refine⟨rfl,D,hv,⟨st.ext,st.new,st.nle,hle,fun _=>ax,st.hr.sub F,fun b y=>B7.2 (.inr y),fun b h1 s l t=>?_,fun k N y=>?_,st.size,st.os,fun b l h1 s E=>?_,fun id hid h1 s=>?_,fun k ⟨id,a,q,hid,B,K,T⟩=>?_⟩⟩
   .rcases B7.1 h1 with h|h
    .exact J b h l t
    .exact absurd h s
   .exact st.keep k N fun b M l t E=>y b (B7.2 (.inl ((e b).2 ⟨M,hold rfl b l t⟩))) l t E
   .rcases st.blk b l h1 s E with h|⟨b0,h3,l0,h4,h5⟩
    .exact .inl h
    .exact .inr ⟨b0,B7.2 (.inl ((e b0).2 ⟨h3,hold rfl b0 l0 h4⟩)),l0,h4,h5⟩
   .show Hp.get (eV m1.H m.H (W++I)) id=_;rw[f id hid,A7];intro h;rcases B7.1 h with h|h
    .exact h1 (B7.2 (.inl h))
    .have:=Y id h;have s:id<m.n∨m1.hi<=id:=s;omega
   .have B:Hp.get (eV m1.H m.H (W++I)) id=some a:=B;rw[f id hid]at B;by_cases h:id ∈ W++I
    .rw[A9 h]at B;exact st.tch k ⟨id,a,q,hid,B,K,T⟩
    .rw[A7 h]at B;obtain⟨l0,V,_⟩:=A.hr.at_ id hid a B;rw[st.ext _ _ V]at K
     have:=A8 K;subst this;exact .inr ⟨id,a,l0,hid,B,V,T⟩
def iK:∀ (vs:List Value) (fr:Fr) (i t:Nat),i+vs.length<=512->t<512->(fF fr i vs).get t=if i<=t/\t<i+vs.length then vs.getD (t-i) undef else fr.get t
 | [],fr,i,t,_,_=>by simp[fF];intro h1 a;omega
 | v::r,fr,i,t,h,ht=>by
   simp only[E4]at h ⊢;rw[fF,xG,iK r _ (i+1) t A2 ht,L8 _ _ _ _ A2 ht];by_cases h1:i+1<=t/\t<i+1+r.length
   .rw[A9 h1,A9 A2,show t-i=(t-(i+1))+1 by omega];rfl
   .rw[A7 h1];by_cases a:t=i
    .subst a;rw[A9 rfl,A9 A2,jP];rfl
    .rw[A7 a,A7 A2]
def UL(tmps:Array Value):ResultVar->Sem Value
 | .tmp t=>pure (tmps.getD t undef)
 | .cell a t=>do loadVar t (<- asAddr (tmps.getD a undef))
variable {z:Zn}
def QS{ρ:Ren}{s:S}{a:Act}{w:World}(h:HR P base ρ s.m.H w)(u:FrR z ρ nt s.fr a):∀ (rs:List ResultVar) (vs:List Value),UN P nt s rs=some vs->∃ b,LR ρ vs b /\
  (rs.mapM (UL a.tmps)).run P w=.ok b w
 | [],vs,hr=>by
   simp only[UN,D2]at hr;subst hr;exact⟨[],.nil,rfl⟩
 | r::rs,vs,hr=>by
   unfold UN at hr;split at hr
   .rename_i v A h1 D;cases hr;obtain⟨b,g1,g2⟩:=QS h u rs A D;have k:∃ v',VR ρ v v'/\(UL a.tmps r).run P w=.ok v' w:=by
     unfold A8u at h1;split at h1
     .rename_i t;obtain⟨C,f⟩:=A3 h1;cases f;exact⟨_,u.get t (A1 C),rfl⟩
     .rename_i c t;obtain⟨C,f⟩:=A3 h1;have hv:=u.get c (A1 C);split at f
      .rename_i F n;rw[n]at hv;obtain⟨l,E,_,e⟩:=O6 hv;obtain⟨v',B,y⟩:=KA h f E;exact⟨v',y,by simp[UL,e,asAddr,B]⟩
      .cases f
    obtain⟨v',B,y⟩:=k;refine⟨v'::b,.cons B g1,?_⟩;simp only[List.mapM_cons,A4,y,g2,Result.andThen,Sem.run_pure]
   .cases hr
def A21{ρ:Ren}{fn:Func}{s:S}{a:Act}{w:World}{v:Value}(h:HR P base ρ s.m.H w)(t:FrR z ρ fn.ntmps s.fr a)(hr:UM fn P s=some v):∃ v',VR ρ v v'/\(results fn a.tmps).run P w=.ok v' w:=by
 unfold UM at hr;have key:∀ vs,UN P fn.ntmps s fn.results.toList=some vs->∃ b,LR ρ vs b/\(results fn a.tmps).run P w=.ok (if h:b.toArray.size=1 then b.toArray[0]else .tuple b.toArray) w:=fun vs f=>by
  obtain⟨b,g1,g2⟩:=QS h t _ vs f;refine⟨b,g1,?_⟩;have he:results fn a.tmps=(do let vs <- fn.results.mapM (UL a.tmps);pure (if h:vs.size=1 then vs[0]else .tuple vs)):=by
   unfold results;rfl
  have hm:(fn.results.mapM (UL a.tmps)).run P w=.ok b.toArray w:=by
   rw[fP];show(Sem.bind (fn.results.toList.mapM (UL a.tmps)) fun l=>Sem.pure l.toArray).run P w=_;have y:∀ (x:Sem D0) (k:D0->Sem V8),(Sem.bind x k).run P w=(x >>= k).run P w:=fun _ _=>rfl
   rw[y,A4,g2];rfl
  rw[he,A4,hm];rfl
 split at hr
 .rename_i u c;cases hr;obtain⟨b,g1,g2⟩:=key _ c;obtain⟨v',A,rfl,g3,g4⟩:=g1.tail;cases g4.nil_inv;exact⟨v',g3,g2⟩
 .rename_i vs e c;cases hr;obtain⟨b,g1,g2⟩:=key _ c;refine⟨.tuple ⟨b⟩,.tuple g1.1 g1.2,?_⟩;rw[g2,dif_neg];intro h1;have h1:b.length=1:=by simpa using h1
  have n:vs.length=1:=by rw[g1.1];exact h1
  obtain⟨x,rfl⟩:=List.length_eq_one_iff.1 n;exact e x rfl
 .cases hr
def HF(P:Program):Prop:=∀ (f:Nat) (fn:Func),P.funcs[f]? = some fn->(fn.name == "runtime.NumGoroutine")=false
def A1M{m m1 m':Mem}{v:Value}(a:gcM m m1 v=some m'):m'.lg=m1.lg:=by
 unfold gcM at a;simp only[E5,I1,eF]at a;cases c:i6 m.n 10 v && OF m.n m1.H (oG (m1.W.filter fun b=>Nat.blt b m.n || Nat.ble m1.hi b) [])with
 | true=>rw[c]at a;obtain⟨_,q⟩:=A3 a;cases q;rfl
 | false=>rw[c]at a;obtain⟨_,q⟩:=A3 a;cases q;rfl
def wY:∀ {l:H4} {m m':Mem},qA l m=some m'->m'.hi=m.hi/\m'.n=m.n/\m'.lg=m.lg
 | [],m,m',h=>by cases h;exact⟨rfl,rfl,rfl⟩
 | b::r,m,m',h=>by
   unfold qA at h;split at h
   .split at h
    .rename_i m1 hm;obtain⟨_,e⟩:=U4 hm;obtain⟨h1,a,h3⟩:=wY h;subst e;exact⟨h1,a,h3⟩
    .cases h
   .cases h
def SZ{fn:Func}{m m':Mem}{v:Value}(h:A8G fn P m r=some (v,m')):∃ e s m1,r=some (e,s)/\(e=.normal∨e=.ret)/\qA (dvG fn.ntmps s.fr) s.m=some m1/\UM fn P ⟨s.fr,m1⟩=some v/\gcM m m1 v=some m':=by
 have key:∀ (fr:Fr) (m0:Mem),(match qA (dvG fn.ntmps fr) m0 with
  | some m1=>match UM fn P ⟨fr,m1⟩with
    | some v=>match gcM m m1 v with
      | some m=>some (v,m)
      | none=>none
    | none=>none
  | none=>none)=some (v,m')->∃ m1,qA (dvG fn.ntmps fr) m0=some m1/\UM fn P ⟨fr,m1⟩=some v/\gcM m m1 v=some m':=fun fr m0 h=>by
  split at h
  .rename_i m1 h1;split at h
   .rename_i u f;split at h
    .rename_i m2 h3;cases h;exact⟨m1,h1,f,h3⟩
    .cases h
   .cases h
  .cases h
 unfold A8G at h;split at h
 .rename_i fr m1;obtain⟨m2,a,b,c⟩:=key _ _ h;exact⟨_,_,m2,rfl,.inl rfl,a,b,c⟩
 .rename_i fr m1;obtain⟨m2,a,b,c⟩:=key _ _ h;exact⟨_,_,m2,rfl,.inr rfl,a,b,c⟩
 .cases h
structure jN (P:Program) (base gl nt:Nat) (c:Code) (L:S->Option (Ex×S)):Prop where
 lg:∀ (s s':S) (e:Ex),L s=some (e,s')->s.m.hi<=s'.m.hi/\s.m.lg.le s'.m.lg
 ok:∀ (s s':S) (e:Ex),L s=some (e,s')->Sat s'.m.lg->∀ (z:Zn) (ρ:Ren) (a:Act) (w:World) (Q:Exit->Act->World->Prop),At P base gl ρ s.m s'.m.hi w->FrR z ρ nt s.fr a ->
  (∀ a' w',Q Ex.ret.out a' w'->Q Ex.normal.out a' w')->(∀ ρ' a' w',FrR z ρ' nt s'.fr a'->St P base ρ ρ' s.m s'.m w w'->Q e.out a' w')->c.wpIn (fw z.rd) 0 P Q a w
def jN.or{nt:Nat}{c:Code}{a b:S->Option (Ex×S)}(k:jN P base gl nt c a)(l:jN P base gl nt c b):jN P base gl nt c (orL a b):=by
 refine⟨fun s m e h=>?_,fun s m e h f=>?_⟩
 .unfold orL at h;split at h
  .rename_i r hr;cases h;exact k.lg _ _ _ hr
  .exact l.lg _ _ _ h
 .unfold orL at h;split at h
  .rename_i r hr;cases h;exact k.ok _ _ _ hr f
  .exact l.ok _ _ _ h f
def jN.code{nt:Nat}{c:Code}{call:O8}(l:V3 P base gl call)(k:gG P base gl call){lp:LpT}(b:PT P base gl nt c lp):jN P base gl nt c (N3 P nt gl call lp [] c).run :=
 ⟨fun _ _ _ h=>T4 l k b c [] rfl _ _ _ h,fun s u e h m z ρ a w Q f t _ n=>S9 (z:=z) l k b c [] rfl ρ s u e a w Q h m f t n⟩
def A4A{fn:Func}{c:Code}{L:gH}(b:jN P base gl fn.ntmps c L.run){vs:D0}{m m':Mem}{v:Value}
  (hr:AD fn P L vs m=some (v,m')):m.lg.le m'.lg:=by
 unfold AD at hr;obtain⟨_,hr⟩:=A3 hr;obtain⟨e,s,m1,h1,_,f,h3,k⟩:=SZ hr;have a:NG L (fF fr0 0 vs) m=L.run ⟨fF fr0 0 vs,⟨m.H,m.n,[],m.hi,m.lg⟩⟩:=rfl;rw[a]at h1;have l:=(b.lg _ _ _ h1).2;rw[A1M k,(wY f).2.2];exact l
def CQ{fn:Func}{tmps:V8}{R:Ending->World->Prop}{ρ:Ren}{hi:Nat}:∀ (ids:List Nat) (ds:List Deferred) (m md:Mem) (w:World),qA ids m=some md->DfR ρ ids ds->HR P base ρ m.H w->K2 ρ m.n md.hi ->
  (∀ w',St P base ρ ρ m md w w'->∃ v,(results fn tmps).run P w'=.ok v w'/\R (.returned v) w')->LeavesInM (fw none) 0 P fn tmps R ds .returning w
 | [],ds,m,md,w,h,hd,hr,hf,hR=>by
   cases h;have:ds=[]:=G0.1 hd.1.symm;subst this;exact hR w (.refl hr)
 | b::r,[],m,md,w,h,hd,hr,hf,hR=>by have:=hd.1;simp at this
 | b::r,d::ds,m,md,w,h,hd,hr,hf,hR=>by
   unfold qA at h;split at h
   .rename_i u;split at h
    .rename_i m1 hm;obtain⟨l,k,f⟩:=hd.2 0 b d rfl rfl;obtain⟨⟨⟨t,y⟩,x,s,A⟩,_⟩:=hr.atl k u
     have:=A rfl;subst this;obtain⟨C,B,F⟩:=iV (o:=.deferred none) (C7.1 s).1;have c:St P base ρ ρ m m1 w (w.putObj l.blk (.deferred none)):=St.write hr hm u rfl k t ⟨rfl,rfl,rfl⟩ C F ⟨⟨t,y⟩,_,B,fun h=>by cases h⟩;obtain⟨G,D⟩:=U4 hm;have E:m1.n=m.n:=by rw[D]
     refine⟨(by intro h;cases h),.inl ⟨l.blk,_,by rw[f];rfl,run_takeDeferred s,?_⟩⟩;exact CQ (hi:=hi) r ds m1 md _ h ⟨by have:=hd.1;simpa using this,fun i id d a b=>hd.2 (i+1) id d (by simpa using a) (by simpa using b)⟩ c.hr (by rw[E];exact hf) fun w' e=>hR w' (St.trans hf c e)
    .cases h
   .cases h
def A2A{f:FuncId}{fn:Func}{c:Code}{L:gH}(hf:P.funcs[f]? = some fn)(C:fn.body=some c)(X:(fn.name == "runtime.NumGoroutine")=false)(hL:jN P base gl fn.ntmps c L.run) :
  mN P base gl f ⟨AD fn P L⟩:=by
 refine⟨fun vs m m' v hr=>A4A hL hr,?_⟩;intro ρ m m' w vs k v hr hS l hl;have hr:AD fn P L vs m=some (v,m'):=hr;unfold AD at hr;obtain⟨h1,hr⟩:=A3 hr;obtain⟨h1,Q⟩:=B6 h1;have h1:=A1 h1;have Q:=A1 Q;left;constructor
 .have hn:fn.name ≠ "runtime.NumGoroutine":=by simpa using X
  simp[callFunc,hf,hn,C]
 .obtain⟨e,s,m1,A,he,G,J,a⟩:=SZ hr;have O:NG L (fF fr0 0 vs) m=L.run ⟨fF fr0 0 vs,⟨m.H,m.n,[],m.hi,m.lg⟩⟩:=rfl;rw[O]at A;have E:∀ t,vs.length<=t->t<512->(fF fr0 0 vs).get t=undef:=fun t k1 k2=>by
   rw[iK _ _ _ _ A2 k2,A7 A2,GE]
  have Z:FrR ⟨none,[]⟩ ρ fn.ntmps (fF fr0 0 vs) { tmps:=⟨k⟩++Array.replicate (fn.ntmps-(Array.mk k).size) undef,defers:=[] }:=by
   have hlen:=hl.1;refine⟨by simp;omega,Q,⟨[],rfl,?_⟩,fun hn=>⟨fun _=>rfl,fun b C=>?_⟩,fun t ht=>?_⟩
   .unfold dvG;cases N:Nat.ble fn.ntmps 510 with
    | true =>
      have:=A1 N;rw[E 510 A2 E7];exact .nil
    | false=>exact .nil
   .rw[E 511 A2 E7]at C;cases C
   .rw[iK _ _ _ _ A2 A2];by_cases D:t<vs.length
    .rw[A9 A2];have u:t<k.length:=A2
     have:=hl.2 t vs[t] k[t] (A5 D) (A5 u)
     simpa [B8,Array.getElem?_append,D,u,B1]using this
    .rw[A7 A2,GE];have u:¬ t<k.length:=A2;have:(({ toList:=k }:Array Value)++Array.replicate (fn.ntmps-(Array.mk k).size) undef).getD t undef=undef:=by
      simp[B8,Array.getElem?_append,u,gU];split<;>rfl
     rw[this];exact pU ρ
  have Y:m1.hi=m'.hi:=by
   have a:=a;unfold gcM at a;simp only[E5,I1,eF]at a;cases N:i6 m.n 10 v && OF m.n m1.H (oG (m1.W.filter fun b=>Nat.blt b m.n || Nat.ble m1.hi b) [])with
   | true=>rw[N]at a;obtain⟨_,q⟩:=A3 a;cases q;rfl
   | false=>rw[N]at a;obtain⟨_,q⟩:=A3 a;cases q;rfl
  obtain⟨t1,t2,t3⟩:=wY G;have y:At P base gl ρ ⟨m.H,m.n,[],m.hi,m.lg⟩ s.m.hi w:=⟨l.hr,l.bs,fun b q1 q2=>l.fr b q1 (by rw[<- Y,t1];exact q2),l.gr,l.nh,fun b C=>(by cases C),l.gf⟩;have T:Sat s.m.lg:=by rw[<- t3,<- A1M a];exact hS
  refine pA.1 (callsIn_of_wp_marks (F:=fw none) (n:=0) hf C trivial ?_ rfl);refine hL.ok _ s e A T ⟨none,[]⟩ ρ _ w _ y Z (fun _ _ h=>h) fun U V w1 f1 B=>?_
  obtain⟨ds,d1,d2⟩:=f1.df;have d1:V.defers=ds:=by rw[d1];simp
  have K:LeavesInM (fw none) 0 P fn V.tmps (A2O P base ρ m m' w v) V.defers .returning w1:=by
   rw[d1];have M:=y.step B;refine CQ (base:=base) (ρ:=U) (hi:=0) _ _ _ _ _ G d2 B.hr (by rw[t1];exact M.fr) fun w' I=>?_
   have R:=St.trans (by have:=y.fr;rw[t1];exact this) B I;obtain⟨v',g1,g2⟩:=A21 (s:=⟨s.fr,m1⟩) I.hr f1 J;obtain⟨_,ρ2,g3,g4⟩:=A9p a R l g1;exact⟨v',g2,v',ρ2,rfl,g3,g4⟩
  rcases he with rfl|rfl
  .exact K
  .exact K
def TJ{f:FuncId}{fn:Func}{c:Code}{call:O8}(e:P.funcs[f]? = some fn)(l:fn.body=some c)(a:(fn.name == "runtime.NumGoroutine")=false)(m:V3 P base gl call)(k:gG P base gl call){lp:LpT}(b:PT P base gl fn.ntmps c lp) :
  mN P base gl f ⟨AD fn P (N3 P fn.ntmps gl call lp [] c)⟩:=A2A e l a (jN.code m k b)
def JD{ρ:Ren}{nt:Nat}(f:nt<=512):∀ (ps:List Tmp) (args b:List Value) (fr c:Fr) (tmps:Array Value),uR ps args fr=some c->LR ρ args b->(∀ t ∈ ps,t<nt)->tmps.size=nt->(∀ t,t<nt->VR ρ (fr.get t) (tmps.getD t undef)) ->
  ps.length=b.length/\((ps.zip b).foldl (fun tmps (t,a)=>tmps.setIfInBounds t a) tmps).size=nt/\(∀ t,t<nt->VR ρ (c.get t) (((ps.zip b).foldl (fun tmps (t,a)=>tmps.setIfInBounds t a) tmps).getD t undef))/\∀ t,nt<=t->t<512->c.get t=fr.get t
 | [],[],b,fr,c,tmps,h,hl,hp,hs,hg=>by
   cases h;rw[hl.nil_inv];exact⟨rfl,hs,hg,fun _ _ _=>rfl⟩
 | [],_::_,_,_,_,_,h,_,_,_,_=>by cases h
 | _::_,[],_,_,_,_,h,_,_,_,_=>by cases h
 | t::ps,v::vs,b,fr,c,tmps,h,hl,hp,hs,hg=>by
   obtain⟨v',w,rfl,h1,m⟩:=hl.tail;have k:t<nt:=hp t B4;have h:uR ps vs (fr.set t v)=some c:=by
    have e:uR (t::ps) (v::vs) fr=uR ps vs (fr.set t v):=ER t v fr (fun fr=>uR ps vs fr);rw[<- e];exact h
   obtain⟨A,n,y,s⟩:=JD f ps vs w (fr.set t v) c (tmps.setIfInBounds t v') h m (fun u hu=>hp u (C4 _ hu)) (by simp[hs]) (fun u hu=>by
    rw[L8 _ _ _ _ (D3 k f) (D3 hu f)];simp only[B8,G1];by_cases e:u=t
    .subst e;rw[A9 rfl,A9 rfl,A9 (by rw[hs];exact hu)];exact h1
    .rw[A7 e,A7 (fun h=>e h.symm)]
     have:=hg u hu
     simpa [B8]using this)
   refine⟨by simp[A],n,y,fun u h3 l=>?_⟩;rw[s u h3 l,L8 _ _ _ _ (D3 k f) l,A7 (fun e=>by subst e;exact absurd k (Nat.not_lt.2 h3))]
def uP{b:Nat}{v:Value}{m':Mem}(h:qQ b r=some (v,m')):∃ e s f q vs,r=some (e,s)/\Hp.get s.m.H b=some (.lp f q vs 1)/\cK s.m b (.lp f q vs (exN e))=some m'/\v=.bool (FW e):=by
 unfold qQ at h;split at h
 .rename_i e fr m;split at h
  .rename_i f q vs a;rw[E5]at h;split at h
   .rename_i m1 hm;cases h;exact⟨e,⟨fr,m⟩,f,q,vs,rfl,a,hm,rfl⟩
   .cases h
  .cases h
 .cases h
def uO{b:Nat}{c:gH}{v:Value}{m':Mem}(h:qP b c r=some (v,m')):∃ s f q vs m1,r=some (.normal,s)/\Hp.get s.m.H b=some (.lp f q vs 0)/\cK s.m b (.lp f q vs 1)=some m1/\qQ b (c.run ⟨s.fr,m1⟩)=some (v,m'):=by
 unfold qP at h;split at h
 .rename_i fr m;split at h
  .rename_i f q vs a;split at h
   .rename_i m1 hm;exact⟨⟨fr,m⟩,f,q,vs,m1,rfl,a,hm,h⟩
   .cases h
  .cases h
 .cases h
def CB{C:Cx}{call:O8}{vs:D0}{m m':Mem}{v:Value}(h:(EW C call).run vs m=some (v,m')):∃ b args f q a fn body x ps as bd fr,vs=yv b::args/\Hp.get m.H b=some (.lp f q a 0)/\C.P.funcs[f]? = some fn/\fn.body=some body/\G6 q body=some (.rangeFunc x ps as bd) /\
  fn.ntmps<=510/\(∀ t ∈ ps.toList,t<fn.ntmps)/\uR ps.toList args (fF fr0 0 a)=some fr /\
  qP b (N3 C.P fn.ntmps C.gl call (C.lp f) (q++[true]) bd) ((N3 C.P fn.ntmps C.gl call (C.lp f) (q++[false]) as).run ⟨fr.set 511 (yv b),m⟩)=some (v,m'):=by
 unfold EW at h;simp only at h;split at h
 .cases h
 .rename_i u args;split at h
  .cases h
  .rename_i b y
   have:=BJ y;subst this;split at h
   .rename_i f q a A;split at h
    .cases h
    .rename_i fn w;split at h
     .cases h
     .rename_i body c;split at h
      .rename_i x ps as bd B;obtain⟨h1,h⟩:=A3 h;obtain⟨h1,n⟩:=B6 h1;split at h
       .rename_i fr l;refine⟨b,args,f,q,a,fn,body,x,ps,as,bd,fr,rfl,A,by simpa using w,c,B,A1 h1,fun t s=>A1 (D4.1 n t s),l,?_⟩;have e:∀ (k:Fr->Res),vS (sel 7) (sel 7) (sel 7) (yv b) fr k=k (fr.set 511 (yv b)):=fun k=>ER 511 (yv b) fr k
        rw[e]at h;exact h
       .cases h
      .cases h
   .cases h
def YI{C:Cx}{call:O8}(Q:V3 C.P base C.gl call)(N:gG C.P base C.gl call)(s:∀ f fn body,C.P.funcs[f]? = some fn->fn.body=some body->PT C.P base C.gl fn.ntmps body (C.lp f)):A8Y C.P base C.gl (EW C call):=by
 refine⟨fun vs m m' v h=>?_,fun ρ m m' w b args c v l h hS y hl K=>?_⟩
 .obtain⟨b,args,f,q,O,fn,body,x,ps,as,bd,fr,rfl,_,h1,E,h3,_,_,_,h⟩:=CB h;obtain⟨s1,f2,q2,ax,m2,g1,_,g3,h⟩:=uO h;obtain⟨e,s2,f3,q3,ay,Z,_,k3,_⟩:=uP h;have a1:=(T4 Q N (s f fn body h1 E) as (q++[false]) (I3 h3 rfl) _ _ _ g1).2;have a2:=(T4 Q N (s f fn body h1 E) bd (q++[true]) (I3 h3 rfl) _ _ _ Z).2;rw[(mX k3).2];have a2:m2.lg.le s2.m.lg:=a2;rw[(mX g3).2]at a2;exact a1.trans a2
 .obtain⟨b',az,f,q,O,fn,body,x,ps,as,bd,fr,e0,hg,h1,E,h3,h4,h5,h6,h⟩:=CB h;cases e0;obtain⟨s1,f2,q2,ax,m2,g1,g2,g3,h⟩:=uO h;obtain⟨e,s2,f3,q3,ay,Z,k2,k3,rfl⟩:=uP h;have c1:=T4 Q N (s f fn body h1 E) as (q++[false]) (I3 h3 rfl) _ _ _ g1;have c2:=T4 Q N (s f fn body h1 E) bd (q++[true]) (I3 h3 rfl) _ _ _ Z;obtain⟨j1,j2⟩:=mX g3;obtain⟨j3,j4⟩:=mX k3;have W:Sat s2.m.lg:=by rw[<- j4];exact hS
  have aq:Sat s1.m.lg:=by rw[<- j2];exact R6.le W c2.2
  have ao:m2.hi<=s2.m.hi:=c2.1;obtain⟨⟨⟨Y,b2⟩,r,b3,b4⟩,_⟩:=y.hr.atl K hg;obtain⟨an,av,x',e1,e2,e3,e4⟩:=b4.code;rw[h1]at e1;cases e1;rw[E]at e2;cases e2;rw[h3]at e3;cases e3;have hlen:=b4.fr.1;have ar:∀ t,O.length<=t->t<512->(fF fr0 0 O).get t=undef:=fun t q1 q2=>by
   rw[iK _ _ _ _ A2 q2,A7 A2,GE]
  obtain⟨p1,p2,p3,p4⟩:=JD (ρ:=ρ) (nt:=fn.ntmps) A2 r.params.toList args c (fF fr0 0 O) fr r.tmps h6 hl h5 (by simpa [e4]using hlen.symm) (fun t ht=>by
   rw[iK _ _ _ _ A2 A2,A9 A2];have R:t<O.length:=A2;have G:t<r.tmps.toList.length:=A2
   have:=b4.fr.2 t O[t] _ (A5 R) (A5 G);have U:t<r.tmps.size:=by simpa using G
   simpa [B8,R,U,B1]using this)
  have L:(r.params.zip ⟨c⟩).foldl (fun tmps (t,a)=>tmps.setIfInBounds t a) r.tmps=(r.params.toList.zip c).foldl (fun tmps (t,a)=>tmps.setIfInBounds t a) r.tmps:=by
   rw[<- Array.foldl_toList];simp
  refine⟨r.fn,_,r.assign,r.body,run_yield b3 (by show c.length=_;rw[<- p1];simp),?_⟩;rw[L];refine roundIn_of_wpIn (F:=Fence.wide) (n:=0) trivial ?_;have D:∀ t,t<511->(fr.set 511 (yv b)).get t=fr.get t:=fun t ht=>by rw[L8 _ _ _ _ E7 A2,A7 A2]
  have aw:FrR ⟨some l.blk,[]⟩ ρ fn.ntmps (fr.set 511 (yv b)) { tmps:=(r.params.toList.zip c).foldl (fun tmps (t,a)=>tmps.setIfInBounds t a) r.tmps,defers:=[] }:=by
   refine⟨p2,A2,⟨[],rfl,?_⟩,fun _=>?_,fun t ht=>by rw[D t A2];exact p3 t ht⟩
   .unfold dvG;rw[D 510 E7,p4 510 h4 E7,ar 510 A2 E7];cases Nat.ble fn.ntmps 510<;>exact .nil
   .rw[L8 _ _ _ _ E7 E7,A9 rfl];refine⟨fun hu=>(by cases hu),fun b0 V=>?_⟩;have:b0=b:=by
     have:eH (yv b)=some b:=rfl;rw[this]at V;exact(A8 V).symm
    subst this;exact⟨l,K,rfl⟩
  have I:K2 ρ m.n m'.hi:=y.fr;refine S9 (z:=⟨some l.blk,[]⟩) Q N (s f fn body h1 E) r.assign (q++[false]) (I3 h3 rfl) ρ ⟨fr.set 511 (yv b),m⟩ s1 .normal _ w _ g1 aq (y.less (by rw[j3];omega)) aw fun J a1 w1 f1 u=>?_
  have M:=u.ext _ _ K;obtain⟨⟨⟨_,_⟩,r2,d3,d4⟩,_⟩:=u.hr.atl M g2;obtain⟨o1,o2,o3⟩:=iV (o:=.loop { r2 with state:=.busy }) (C7.1 d3).1;have T:St C.P base J J s1.m m2 w1 (w1.putObj l.blk (.loop { r2 with state:=.busy })):=St.write u.hr g3 g2 rfl M Y ⟨rfl,rfl,rfl⟩ o1 o3 ⟨⟨Y,b2⟩,_,o2,d4.code,d4.fr,rfl⟩;refine⟨_,run_beginRound d3 d4.st.1,?_⟩;have H:=(y.step u);have B:=H.step T;refine S9 (z:=⟨some l.blk,[]⟩) Q N (s f fn body h1 E) r.body (q++[true]) (I3 h3 rfl) J ⟨s1.fr,m2⟩ s2 e _ _ _ Z W (B.less (by rw[j3];exact A6 _)) f1 fun ρ2 a2 w3 f3 A=>?_
  have X:=A.ext _ _ M;obtain⟨⟨⟨_,_⟩,r3,d5,d6⟩,_⟩:=A.hr.atl X k2;have fin:∀ (jump:Option Code),StR (exN e) (if jump.isNone then .ready else .done) jump->jump.isNone=FW e->∃ v w',(Instr.endRound l.blk jump).run C.P w3=.ok v w'/\A2O C.P base ρ m m' w (.bool (FW e)) (.returned v) w':=fun jump hj he=>by
   refine⟨_,_,run_endRound jump d5,?_⟩;obtain⟨o4,o5,o6⟩:=iV (o:=.loop { r3 with state:=if jump.isNone then .ready else .done,pending:=jump }) (C7.1 d5).1;have au:St C.P base ρ2 ρ2 s2.m m' w3 (w3.putObj l.blk (.loop { r3 with state:=if jump.isNone then .ready else .done,pending:=jump })):=St.write A.hr k3 k2 rfl X Y ⟨rfl,rfl,rfl⟩ o4 o6 ⟨⟨Y,b2⟩,_,o5,d6.code,d6.fr,hj⟩;exact⟨_,ρ2,rfl,by rw[he];exact .pure rfl,St.trans I u (St.trans H.fr T (St.trans B.fr A au))⟩
  cases e with
  | normal=>exact fin none ⟨rfl,rfl⟩ rfl
  | ret=>exact fin (some .ret) ⟨rfl,rfl⟩ rfl
  | exit k=>exact fin (some (.exit k)) ⟨rfl,rfl⟩ rfl
structure A4P (C:Cx) (base:Nat):Prop where
 names:HF C.P
 ext:∀ f k fn,C.P.funcs[f]? = some fn->fn.body=none->LD C.ext f=some k->mN C.P base C.gl f ⟨oV k⟩
 con:∀ f c,C.con f=some c->mN C.P base C.gl f c
 lp:∀ f fn body,C.P.funcs[f]? = some fn->fn.body=some body->PT C.P base C.gl fn.ntmps body (C.lp f)
 draws:∀ call,V3 C.P base C.gl call->gG C.P base C.gl call
def nD(f:FuncId):mN P base gl f ⟨fun _ _=>none⟩:=⟨fun vs m m' v hr=>(by cases hr),fun ρ m m' w vs a v hr=>(by cases hr)⟩
def A2_:A8Y P base gl ⟨fun _ _=>none⟩:=⟨fun vs m m' v hr=>(by cases hr),fun ρ m m' w b args a v l hr=>(by cases hr)⟩
def zV{C:Cx}(h:A4P C base):∀ (d:Nat),V3 C.P base C.gl (vG C d)
 | 0=>⟨fun f=>nD f,A2_⟩
 | d+1=>by
   have l:=zV h d;refine⟨fun f=>?_,YI l (h.draws _ l) h.lp⟩;show mN C.P base C.gl f (DS C (vG C d) f);unfold DS;split
   .exact nD f
   .rename_i fn a;have a:C.P.funcs[f]? = some fn:=by simpa using a
    split
    .rename_i c b;exact h.con f c b
    .split
     .rename_i e;split
      .rename_i k m;exact h.ext f k fn a e m
      .exact nD f
     .rename_i c e;exact TJ (gl:=C.gl) a e (h.names f fn a) l (h.draws _ l) (h.lp f fn c a e)
end
end
section
open Go
variable [Ora]
def HE(P:Program)(nt gl:Nat)(call:O8)(all:List Oper)(b:List Nat)(rs:List Rec)(c:Bool)(o:Oper)(fr e:Fr)(m m2:Mem)(v:Value):Prop :=
 zO nt o.dst=true/\NZ nt gl o.op=true/\e=vU o.dst v fr /\
 ((c=false/\∃ lg,bG nt fr m.lg all o=some (false,lg)/\v=undef/\m2=m.wLg lg) ∨
   (c=false/\∃ lg a,bG nt fr m.lg all o=some (true,lg)/\lH fr (m.wLg lg) o b rs (W4 P call o)=some (v,a)/\m2=m.wLg a) ∨
   (c=true/\∃ lg,bG nt fr m.lg all o=some (true,lg)/\(W4 P call o).run fr (m.wLg lg)=some (v,m2)/\m.hi<=m2.hi) ∨
   (c=false/\aK o.op=false/\∃ lg,bG nt fr m.lg all o=some (true,lg)/\∃ mv m',BL (m.wLg lg) (B0G fr o.op) (CL b rs)=some mv/\(W4 P call o).run fr mv=some (v,m')/\m'.W=[]/\m.hi<=m'.hi/\lO (m.wLg lg) m'=some m2))
def VK{α:Type}{c:Bool}{x:Option α}{y:α}(h:(bif c then none else x)=some y):c=false/\x=some y:=by cases c<;>first|exact⟨rfl,h⟩|cases h
def dZ(nt:Nat)(all:List Oper)(op:OpC)(b:List Nat)(rs:List Rec)(fr:Fr)(o:Oper)(m m2:Mem)(v:Value)(r:Option (Nat×AB)):Prop :=
 (∃ lg,bG nt fr m.lg all o=some (false,lg)/\v=undef/\m2=m.wLg lg/\r=none)∨(∃ lg a,bG nt fr m.lg all o=some (true,lg)/\lH fr (m.wLg lg) o b rs op=some (v,a)/\m2=m.wLg a/\r=KV m.H fr o.op)
def QsN(e:Bool)(i nt:Nat)(all:List Oper)(op:OpC)(b:List Nat)(rs:List Rec)(fr:Fr)(o:Oper)(m m2:Mem)(v:Value)(c a:Qs):Prop :=
 (e=true/\a=c/\A0o b m2.H c=true)∨(e=false/\a=c)∨(e=false/\∃ r,a=(i,r)::c/\dZ nt all op b rs fr o m m2 v r)
def A2M(P:Program)(nt gl:Nat)(call:O8)(all:List Oper)(r:List Oper)(i:Nat)(bs:List H4)(rs:List Rec)(b:Qs)(s a:S):Prop :=
  ∃ (F:Nat->Fr) (M:Nat->Mem) (V:Nat->Value) (R:Nat->List Rec) (X:Nat->Qs) (B:Nat->Bool),F i=s.fr/\M i=s.m/\R i=rs/\X i=b/\F (i+r.length)=a.fr/\M (i+r.length)=a.m /\
   ∀ j o,r[j]? = some o->HE P nt gl call all (bs.getD j []) (R (i+j)) (B (i+j)) o (F (i+j)) (F (i+j+1)) (M (i+j)) (M (i+j+1)) (V (i+j))/\(B (i+j)=true->IM o.op (i+j) (bs.getD j []) (bs.drop (j+1)) (r.drop (j+1)) (X (i+j))=true) /\
    ((R (i+j+1)=R (i+j)/\∃ lg,M (i+j+1)=(M (i+j)).wLg lg)∨(B (i+j)=true/\R (i+j+1)=[])∨R (i+j+1)=⟨i+j,(M (i+j)).n,(M (i+j+1)).n⟩::R (i+j)) /\
    QsN (B (i+j)) (i+j) nt all (W4 P call o) (bs.getD j []) (R (i+j)) (F (i+j)) o (M (i+j)) (M (i+j+1)) (V (i+j)) (X (i+j)) (X (i+j+1))
def A4U{P:Program}{nt gl:Nat}{call:O8}{all:List Oper}:∀ (r:List Oper) (i:Nat) (bs:List H4) (rs:List Rec) (c:Qs) (s k:S),o8 P nt gl call all r i bs rs c s=some k->A2M P nt gl call all r i bs rs c s k
 | [],i,bs,rs,c,s,k,h=>by
   have h:some s=some k:=by cases bs<;>exact h
   cases h;exact⟨fun _=>s.fr,fun _=>s.m,fun _=>undef,fun _=>rs,fun _=>c,fun _=>false,rfl,rfl,rfl,rfl,rfl,rfl,fun j o A=>by simp at A⟩
 | o::r,i,[],rs,c,s,k,h=>by obtain⟨fr,m⟩:=s;cases h
 | o::r,i,b::bs,rs,c,⟨fr,⟨H0,n0,W0,hi0,lg0⟩⟩,k,h=>by
   generalize l:(⟨H0,n0,W0,hi0,lg0⟩:Mem)=m at h;have glue:∀ (w:Bool),(w=true->IM o.op i b bs r c=true)->∀ (v:Value) (m2:Mem) (a:List Rec) (f:Qs),HE P nt gl call all b rs w o fr (vU o.dst v fr) m m2 v->((a=rs/\∃ lg,m2=m.wLg lg)∨(w=true/\a=[])∨a=⟨i,m.n,m2.n⟩::rs)->QsN w i nt all (W4 P call o) b rs fr o m m2 v c f->o8 P nt gl call all r (i+1) bs a f ⟨vU o.dst v fr,m2⟩=some k->A2M P nt gl call all (o::r) i (b::bs) rs c ⟨fr,m⟩ k:=fun w D v m2 a f E K I y=>by
    obtain⟨F,M,V,R,X,B,f1,f2,f3,N,f4,f5,f6⟩:=A4U r (i+1) bs a f _ k y;refine⟨fun j=>if j<=i then fr else F j,fun j=>if j<=i then m else M j,fun j=>if j<=i then v else V j,fun j=>if j<=i then rs else R j,fun j=>if j<=i then c else X j,fun j=>if j<=i then w else B j,by simp,by simp,by simp,by simp,?_,?_,?_⟩
    .simp only[E4];rw[A7 A2,show i+(r.length+1)=i+1+r.length by omega];exact f4
    .simp only[E4];rw[A7 A2,show i+(r.length+1)=i+1+r.length by omega];exact f5
    .intro j o' A;cases j with
     | zero =>
       simp at A;subst A;simp only[jR,A6,if_true,Nat.not_succ_le_self,if_false,f1,f2,f3,N];exact⟨E,D,K,I⟩
     | succ j =>
       have G:r[j]? = some o':=by simpa using A
       have:=f6 j o' G;simp only[show ¬ i+(j+1)<=i by omega,show ¬ i+(j+1)+1<=i by omega,if_false];rw[show i+(j+1)=i+1+j by omega]
       simpa using this
   subst l;unfold o8 at h;split at h
   .rename_i lg hw H;obtain⟨d1,d2⟩:=B6 H;cases u:IM o.op i b bs r c with
    | true =>
      rw[u]at h;simp only[E3]at h;split at h
      .rename_i v m2 hr;obtain⟨e,h⟩:=A3 h;obtain⟨e,J⟩:=B6 e;rw[cU]at h;exact glue true (fun _=>u) v m2 _ _ ⟨d1,d2,rfl,.inr (.inr (.inl ⟨rfl,lg,hw,hr,A1 e⟩))⟩ (.inr (.inl ⟨rfl,rfl⟩)) (.inl ⟨rfl,rfl,J⟩) h
      .cases h
    | false =>
      rw[u]at h;simp only[D6]at h;split at h
      .rename_i v t C;obtain⟨Q,C⟩:=A3 C;rw[cU]at h;exact glue false (fun h=>by cases h) v _ _ _ ⟨d1,d2,rfl,.inr (.inl ⟨rfl,lg,t,hw,C,rfl⟩)⟩ (.inl ⟨rfl,t,rfl⟩) (.inr (.inr ⟨rfl,_,rfl,.inr ⟨lg,t,hw,C,rfl,rfl⟩⟩)) h
      .obtain⟨L,h⟩:=VK h;unfold TC at h;simp only at h;split at h
       .rename_i mv hv;split at h
        .rename_i v m' hr;split at h
         .rename_i O e;split at h
          .rename_i m2 hm;rw[cU]at h;exact glue false (fun h=>by cases h) v m2 _ _ ⟨d1,d2,rfl,.inr (.inr (.inr ⟨rfl,L,lg,hw,mv,m',hv,hr,O,A1 e,hm⟩))⟩ (.inr (.inr rfl)) (.inr (.inl ⟨rfl,rfl⟩)) h
          .cases h
         .cases h
        .cases h
       .cases h
   .rename_i lg hw H;obtain⟨d1,d2⟩:=B6 H;rw[cU]at h;exact glue false (fun h=>by cases h) undef _ _ _ ⟨d1,d2,rfl,.inl ⟨rfl,lg,hw,rfl,rfl⟩⟩ (.inl ⟨rfl,lg,rfl⟩) (.inr (.inr ⟨rfl,_,rfl,.inl ⟨lg,hw,rfl,rfl,rfl⟩⟩)) h
   .cases h
def MG{l:H4}{b k:Nat}(h:k ∈ A2K l b):k=b∨k ∈ l:=by
 unfold A2K at h;cases e:v8 l b with
 | true=>rw[e]at h;exact .inr h
 | false=>rw[e,D6,E5]at h;exact B5.1 h
def CU:∀ {a b:H4} {k:Nat},k ∈ RZ a b->k ∈ a∨k ∈ b
 | [],b,k,h=>.inr h
 | x::a,b,k,h=>by
   rcases MG (show k ∈ A2K (RZ a b) x from h)with rfl|h
   .exact .inl B4
   .rcases CU h with h|h
    .exact .inl (C4 _ h)
    .exact .inr h
def uD{acc:List H4}:∀ {es:List Edge} {k:Nat},k ∈ sS acc es->∃ e ∈ es,Region.binds .any e=true/\(k=e.on∨k ∈ acc.getD e.on [])
 | [],k,h=>by cases h
 | e::r,k,h=>by
   unfold sS at h;cases a:Region.binds .any e with
   | true =>
     rw[a]at h;rw[E3]at h;rcases(MG h).imp_right CU with h|h|h
     .exact⟨e,B4,a,.inl h⟩
     .exact⟨e,B4,a,.inr h⟩
     .obtain⟨e',h1,b⟩:=uD h;exact⟨e',C4 _ h1,b⟩
   | false =>
     rw[a]at h;obtain⟨e',h1,b⟩:=uD h;exact⟨e',C4 _ h1,b⟩
def uC:∀ (r:List Oper) (acc:List H4),∃ a,Z0 r acc=acc++a/\a.length=r.length/\∀ j o,r[j]? = some o->∃ pre,pre=(acc++a).take (acc.length+j)/\a[j]? = some (sS pre o.after.toList)
 | [],acc=>⟨[],by simp[Z0],rfl,fun j o h=>by simp at h⟩
 | o::r,acc=>by
   obtain⟨a,h1,c,h3⟩:=uC r (acc++[sS acc o.after.toList]);refine⟨sS acc o.after.toList::a,by rw[Z0,I1,h1];simp,by simp[c],fun j o' b=>?_⟩;cases j with
   | zero =>
     simp at b;subst b;exact⟨_,rfl,by simp⟩
   | succ j =>
     obtain⟨pre,g1,g2⟩:=h3 j o' (by simpa using b);refine⟨pre,?_,by simpa using g2⟩;rw[g1];simp[cI,jS 1 j]
def A4K{ops:List Oper}{k:Nat}(l:ops[i]? = some o)(he:∀ e ∈ o.after.toList,Region.binds .any e=true->e.on<i)(a:k ∈ (Z0 ops []).getD i []) :
  ∃ e ∈ o.after.toList,Region.binds .any e=true/\(k=e.on∨k ∈ (Z0 ops []).getD e.on []):=by
 obtain⟨s,h1,n,h3⟩:=uC ops [];simp only[G5]at h1 h3;obtain⟨pre,g1,g2⟩:=h3 i o l;rw[h1]at a ⊢;rw[B1,g2]at a;obtain⟨e,c,f,m⟩:=uD (show k ∈ sS pre o.after.toList from a);refine⟨e,c,f,m.imp id fun h=>?_⟩;have b:=he e c f;rw[g1]at h;simp only[Y2,F4,B1]at h ⊢;rw[E6 b]at h;exact h
def mO(ops:List Oper)(D:Nat->Prop):Prop:=∀ i o,ops[i]? = some o->D i->∀ e ∈ o.after.toList,Region.binds .any e=true->D e.on
def AI{ops:List Oper}{D:Nat->Prop}(m:mO ops D)(f:∀ i o,ops[i]? = some o->∀ e ∈ o.after.toList,Region.binds .any e=true->e.on<i) :
  ∀ (n i k:Nat) (o:Oper),i<n->ops[i]? = some o->(∀ e ∈ o.after.toList,Region.binds .any e=true->D e.on)->k ∈ (Z0 ops []).getD i []->D k
 | 0,i,k,o,h,_,_,_=>by omega
 | n+1,i,k,o,h,ho,he,hk=>by
   obtain⟨e,a,b,c⟩:=A4K ho (f i o ho) hk;rcases c with rfl|c
   .exact he e a b
   .have l:=f i o ho e a b;have hlen:e.on<ops.length:=Nat.lt_trans l (B0.1 ho).1;refine AI m f n e.on k ops[e.on] A2 (A5 hlen) (fun e' h1 s=>m e.on _ (A5 hlen) (he e a b) e' h1 s) c
def EA{H0:Hp AB}:∀ (l:List Nat) (H:Hp AB),(∀ b ∈ l,b<=H7)->∀ id,id<=H7->Hp.get (EB H0 H l) id=if id ∈ l then Hp.get H0 id else Hp.get H id
 | [],H,_,id,_=>by simp[EB]
 | b::r,H,hl,id,hid=>by
   have c:=hl b B4;rw[EB,eP,EA r _ (fun x hx=>hl x (C4 _ hx)) id hid,F0 _ _ _ _ c hid];by_cases h1:id ∈ r
   .rw[A9 h1,A9 (C4 _ h1)]
   .rw[A7 h1];by_cases a:id=b
    .subst a;rw[A9 rfl,A9 B4]
    .rw[A7 a,A7 (by simp[h1,a])]
def CY:∀ (l:List Nat) (H:Hp AB),(∀ b ∈ l,b<=H7)->∀ id,id<=H7->Hp.get (CZ H l) id=if id ∈ l then none else Hp.get H id
 | [],H,_,id,_=>by simp[CZ]
 | b::r,H,hl,id,hid=>by
   have c:=hl b B4;rw[CZ,eP,CY r _ (fun x hx=>hl x (C4 _ hx)) id hid,F0 _ _ _ _ c hid];by_cases h1:id ∈ r
   .rw[A9 h1,A9 (C4 _ h1)]
   .rw[A7 h1];by_cases a:id=b
    .subst a;rw[A9 rfl,A9 B4]
    .rw[A7 a,A7 (by simp[h1,a])]
def lP:∀ (n a b:Nat),b ∈ NH a n↔a<=b/\b<a+n
 | 0,a,b=>by simp[NH]
 | n+1,a,b=>by
   simp only[NH,B5,lP n (a+1) b];omega
def JU{m m' m2:Mem}(h:lO m m'=some m2)(s:m.n<=m.hi)(k:m.hi<=m'.hi):m.n<=m2.n/\m.hi<=m2.hi/\m2.n<=m2.hi/\m2.W=m.W/\(m2.n=m'.hi∨(m2.n=m.n/\m'.hi<=m.n))/\m2.hi=m'.hi/\m2.lg=m'.lg /\
  ∀ id,id<=H7->Hp.get m2.H id=if m.n<=id/\id<m2.n then Hp.get m'.H id else Hp.get m.H id:=by
 unfold lO at h;cases a:Nat.ble m'.hi m.n with
 | true =>
   have a:=A1 a;have c:Nat.ble m'.hi m.n=true:=C5 a;rw[c]at h;cases h;refine⟨A6 _,A6 _,s,rfl,.inr ⟨rfl,a⟩,by show m.hi=m'.hi;omega,rfl,fun id hid=>?_⟩;rw[A7 (by show ¬ (m.n<=id/\id<m.n);omega)]
 | false =>
   have e:m.n<m'.hi:=by
    rcases F8 m.n m'.hi with h1|h1
    .exact h1
    .rw[show Nat.ble m'.hi m.n=true from C5 h1]at a;cases a
   rw[a]at h;simp only[D6]at h;obtain⟨l,h⟩:=A3 h;have l:=A1 l;simp only[E5,eF]at h;cases h;refine⟨jQ e,k,A6 _,rfl,.inl rfl,rfl,rfl,fun id hid=>?_⟩;show Hp.get (EB m'.H m.H (NH m.n (m'.hi-m.n))) id=_;rw[EA _ _ (fun b f=>by have:=(lP _ _ _).1 f;omega) id hid];by_cases h1:m.n<=id/\id<m'.hi
   .rw[A9 ((lP _ _ _).2 A2),A9 h1]
   .rw[A7 (fun h=>h1 (by have:=(lP _ _ _).1 h;omega)),A7 h1]
def aU(D:Nat->Bool)(dst:Nat->Option Tmp)(V:Nat->Value)(f0:Tmp->Value)(t:Tmp):Nat->Value
 | 0=>f0 t
 | n+1=>if D n=true/\dst n=some t then V n else aU D dst V f0 t n
def fA{D D':Nat->Bool}{dst:Nat->Option Tmp}{V:Nat->Value}{f0:Tmp->Value}{t:Tmp}:∀ (n:Nat),(∀ k,k<n->dst k=some t->D k=D' k)->aU D dst V f0 t n=aU D' dst V f0 t n
 | 0,_=>rfl
 | n+1,h=>by
   unfold aU;have b:=fA (V:=V) (f0:=f0) n fun k c=>h k (Nat.lt_succ_of_lt c)
   by_cases a:dst n=some t
   .rw[h n (J3 n) a,b]
   .rw[A7 (fun hh=>a hh.2),A7 (fun hh=>a hh.2),b]
def rZ{D D':Nat->Bool}{dst:Nat->Option Tmp}{V:Nat->Value}{f0:Tmp->Value}{t:Tmp}{i:Nat}(hD:∀ k,k≠i->D' k=D k)(hi:D' i=true):∀ (n:Nat),i<n->dst i=some t->(∀ k,i<k->k<n->dst k=some t->D k=false)->aU D' dst V f0 t n=V i
 | 0,h,_,_=>by omega
 | n+1,h,hd,hl=>by
   unfold aU;by_cases e:n=i
   .subst e;rw[A9 ⟨hi,hd⟩]
   .have a:i<n:=A2;rw[A7 (fun hh=>by
     have h1:=hl n a (J3 n) hh.2;rw[hD n e,h1]at hh;exact absurd hh.1 (by simp))]
    exact rZ hD hi n a hd fun k c b=>hl k c (Nat.lt_succ_of_lt b)
def oS{D D':Nat->Bool}{dst:Nat->Option Tmp}{V:Nat->Value}{f0:Tmp->Value}{t:Tmp}(hD:∀ k,k≠i->D' k=D k)(b:dst i≠some t)(n:Nat):aU D' dst V f0 t n=aU D dst V f0 t n :=
 fA n fun k _ a=>hD k fun e=>b (e▸a)
structure HRf (P:Program) (base:Nat) (ρ:Ren) (G:Nat->Option AB) (w:World):Prop where
 dom:∀ b l,ρ b=some l->b<=H7
 at_:∀ id,id<=H7->∀ ab,G id=some ab->∃ l,ρ id=some l/\BR P ρ ab l w/\(ab.rw=true->l.on=true->base<=l.blk/\∀ id2,id2<=H7->∀ ab2 l2,G id2=some ab2->ρ id2=some l2->Tc ab2 l2 l.blk->id2=id)
def HRf.hr{P:Program}{base:Nat}{ρ:Ren}{G:Nat->Option AB}{H:Hp AB}{w:World}(h:HRf P base ρ G w)(s:∀ id,id<=H7->∀ ab,Hp.get H id=some ab->G id=some ab):HR P base ρ H w :=
 ⟨h.dom,fun id hid ab m=>let ⟨l,a,b,c⟩:=h.at_ id hid ab (s id hid ab m);⟨l,a,b,fun hr n=>⟨(c hr n).1,fun k e f l2 g=>(c hr n).2 k e f l2 (s k e f g)⟩⟩⟩
def HR.f{P:Program}{base:Nat}{ρ:Ren}{H:Hp AB}{w:World}(h:HR P base ρ H w){G:Nat->Option AB}(t:∀ id,id<=H7->∀ ab,G id=some ab->Hp.get H id=some ab):HRf P base ρ G w :=
 ⟨h.dom,fun id hid ab n=>let ⟨l,a,b,c⟩:=h.at_ id hid ab (t id hid ab n);⟨l,a,b,fun hr s=>⟨(c hr s).1,fun m e k l2 g=>(c hr s).2 m e k l2 (t m e k g)⟩⟩⟩
def Ff(ρ:Ren)(G:Nat->Option AB)(k:Nat):Prop:=∃ id ab l,id<=H7/\G id=some ab/\ρ id=some l/\Tf ab l k
end
end Go.Sx
