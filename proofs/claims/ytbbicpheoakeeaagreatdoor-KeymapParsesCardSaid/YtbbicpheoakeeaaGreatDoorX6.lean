import Derived.Test.YtbbicpheoakeeaaGreatDoorX5
set_option linter.all false
set_option maxRecDepth 100000
set_option maxHeartbeats 4000000
namespace Go.Sx
variable {ds:List Deferred}{d:Option Tmp}{o p:Oper}{lg':Lg}{i j:Nat}{q:List Bool}{r:Option (Ex×S)}{g:Value}{x:Operand}{me:FuncId}{ps:Array Tmp}{as bd:Code}
section
open Go
variable [Ora]
section
variable {P:Program} {base gl nt:Nat}
def GR(gl:Nat)(ρ:Ren):Prop:=∀ g,g<gl->ρ g=some (lc g 0 0)
def GR.mono{ρ a:Ren}(h:GR gl ρ)(he:∀ b l,ρ b=some l->a b=some l):GR gl a:=fun g c=>he _ _ (h g c)
structure At (P:Program) (base gl:Nat) (ρ:Ren) (m:Mem) (hi:Nat) (w:World):Prop where
 hr:HR P base ρ m.H w
 bs:base<=w.heap.size
 fr:K7 ρ m.n hi
 gr:GR gl ρ
 nh:m.n<=m.hi
 wb:∀ b ∈ m.W,∀ l,ρ b=some l->l.on=true->base<=l.blk
 gf:∀ k o,Ora.G k=some o->k<base/\w.heap[k]? = some o
def At.wbs{ρ e:Ren}{m m':Mem}{hi:Nat}{w w':World}(h:At P base gl ρ m hi w)(st:St P base ρ e m m' w w'):∀ b ∈ m'.W,∀ l,ρ b=some l->l.on=true->base<=l.blk:=fun b k l c a=>by
 by_cases hm:b ∈ m.W
 .exact h.wb b hm l c a
 .obtain⟨ab,h1,f⟩:=st.wrw b k hm l c;exact((h.hr.atl c h1).2 f a).1
def At.below{ρ a:Ren}{m m':Mem}{hi:Nat}{w w':World}(h:At P base gl ρ m hi w)(st:St P base ρ a m m' w w'){k:Nat}(s:k<base):w'.heap[k]? = w.heap[k]? :=
 st.keep k (D8 s h.bs) fun b n l f c e=>by have:=h.wbs st b n l f c;omega
def At.step{ρ a:Ren}{m m':Mem}{hi:Nat}{w w':World}(h:At P base gl ρ m hi w)(st:St P base ρ a m m' w w'):At P base gl a m' hi w' :=
 ⟨st.hr,C6 h.bs st.size,fun b h1 e=>by
  cases s:a b with
  | none=>rfl
  | some l =>
    cases h0:ρ b with
    | some l0=>rw[h.fr b (C6 st.nle h1) e]at h0;cases h0
    | none=>have:=(st.new b l s h0).2;omega,h.gr.mono st.ext,st.nhi h.nh,fun b s l t c=>by
  cases h0:ρ b with
  | some l0 =>
    have:=st.ext b l0 h0;rw[t]at this
    have:=A9 this;subst this;exact h.wbs st b s l h0 c
  | none =>
    rcases st.blk b l t h0 c with h1|⟨u,h1,l0,e,f,h3⟩
    .have:=h.bs;omega
    .rw[<- h3];exact h.wbs st u h1 l0 e f,fun k o n=>⟨(h.gf k o n).1,(h.below st (h.gf k o n).1).trans (h.gf k o n).2⟩⟩
def At.less{ρ:Ren}{m:Mem}{hi hi':Nat}{w:World}(h:At P base gl ρ m hi w)(a:hi'<=hi):At P base gl ρ m hi' w:=⟨h.hr,h.bs,fun b h1 c=>h.fr b h1 (D8 c a),h.gr,h.nh,h.wb,h.gf⟩
def At.wLg{ρ:Ren}{m:Mem}{hi:Nat}{w:World}(h:At P base gl ρ m hi w)(lg:Lg):At P base gl ρ (m.wLg lg) hi w:=by
 cases m;exact⟨h.hr,h.bs,h.fr,h.gr,h.nh,h.wb,h.gf⟩
def A3x(P:Program)(base:Nat)(ρ:Ren)(m m':Mem)(w:World)(v:Value):Ending->World->Prop:=fun e w'=>∃ v' a,e=.returned v'/\VR a v v'/\St P base ρ a m m' w w'
structure nD (P:Program) (base gl:Nat) (f:FuncId) (c:FnC):Prop where
 lg:∀ (vs:List Value) (m m':Mem) (v:Value),c.run vs m=some (v,m')->m.lg.le m'.lg
 ok:∀ (ρ:Ren) (m m':Mem) (w:World) (vs vs':List Value) (v:Value),c.run vs m=some (v,m')->Sat m'.lg->At P base gl ρ m m'.hi w->LR ρ vs vs' ->
  ((callFunc f ⟨vs'⟩).run P w=.ok (.enter f ⟨vs'⟩) w/\Calls P f ⟨vs'⟩ w (A3x P base ρ m m' w v)) ∨
  (∃ v' ρ' w',(callFunc f ⟨vs'⟩).run P w=.ok (.value v') w'/\VR ρ' v v'/\St P base ρ ρ' m m' w w')
structure Zn where
 rd:Option Nat
 D:List Deferred
def B1f(l:Loc):Deferred:={ target:=.collected l.blk,args:=#[] }
def DfR(ρ:Ren)(ids:List Nat)(ds:List Deferred):Prop:=ids.length=ds.length/\∀ (i:Nat) (id:Nat) (d:Deferred),ids[i]? = some id->ds[i]? = some d->∃ l,ρ id=some l/\d=B1f l
def DfR.mono{ρ f:Ren}{ids:H9}(h:DfR ρ ids ds)(he:∀ b l,ρ b=some l->f b=some l):DfR f ids ds:=⟨h.1,fun i id d a b=>let ⟨l,c,e⟩:=h.2 i id d a b;⟨l,he _ _ c,e⟩⟩
def DfR.nil{ρ:Ren}:DfR ρ [] []:=⟨rfl,fun i id d h=>by simp at h⟩
structure FrR (z:Zn) (ρ:Ren) (nt:Nat) (fr:Fr) (a:Act):Prop where
 size:a.tmps.size=nt
 le:nt<=512
 df:∃ ds,a.defers=ds++z.D/\DfR ρ (dvG nt fr) ds
 rd:nt<=510->(oB (fr.get 511)=true->z.rd=none)/\∀ b,eV (fr.get 511)=some b->∃ l,ρ b=some l/\z.rd=some l.blk
 get:∀ t,t<nt->VR ρ (fr.get t) (a.tmps.getD t undef)
variable {z:Zn}
def FrR.mono{ρ f:Ren}{fr:Fr}{a:Act}(h:FrR z ρ nt fr a)(he:∀ b l,ρ b=some l->f b=some l):FrR z f nt fr a :=
 ⟨h.size,h.le,let ⟨ds,a,b⟩:=h.df;⟨ds,a,b.mono he⟩,fun k=>⟨(h.rd k).1,fun b m=>let ⟨l,c,e⟩:=(h.rd k).2 b m;⟨l,he _ _ c,e⟩⟩,fun t n=>(h.get t n).mono he⟩
def FrR.put{ρ:Ren}{fr:Fr}{a:Act}{d:Nat}{v v':Value}(h:FrR z ρ nt fr a)(l:d<nt)(hv:VR ρ v v'):FrR z ρ nt (fr.set d v) (a.put (some d) v'):=by
 have hle:=h.le;have b:∀ t,t<512->t≠d->(fr.set d v).get t=fr.get t:=fun t h1 m=>by rw[M6 _ _ _ _ A2 h1,A6 m]
 refine⟨by simp[Act.put,h.size],h.le,?_,fun n=>?_,fun t k=>?_⟩
 .obtain⟨ds,s,c⟩:=h.df;refine⟨ds,s,?_⟩;unfold dvG at c ⊢;cases f:Nat.ble nt 510 with
  | true =>
    have:=A1 f;rw[f]at c;rw[b 510 E3 A2];exact c
  | false=>rw[f]at c;exact c
 .rw[b 511 E3 A2];exact h.rd n
 .rw[M6 _ _ _ _ (D8 l h.le) (D8 k h.le)];simp only[Act.put,B9,G3];by_cases e:t=d
  .subst e;rw[A8 rfl,A8 rfl,A8 (by rw[h.size];exact l)];exact hv
  .rw[A6 e,A6 (fun h=>e h.symm)]
   have:=h.get t k
   simpa [B9]using this
def ZR(z:Zn)(ρ:Ren)(nt:Nat)(fr:Fr)(a:List Deferred):Prop:=(∃ ds,a=ds++z.D/\DfR ρ (dvG nt fr) ds)/\(nt<=510->(oB (fr.get 511)=true->z.rd=none)/\∀ b,eV (fr.get 511)=some b->∃ l,ρ b=some l/\z.rd=some l.blk)
def FrR.zr{ρ:Ren}{fr:Fr}{a:Act}(h:FrR z ρ nt fr a):ZR z ρ nt fr a.defers:=⟨h.df,h.rd⟩
def ZR.congr{ρ f:Ren}{fr a:Fr}(h:ZR z ρ nt fr ds)(he:∀ b l,ρ b=some l->f b=some l)(n:nt<=510->a.get 510=fr.get 510/\a.get 511=fr.get 511):ZR z f nt a ds:=by
 obtain⟨⟨m,h1,s⟩,h3⟩:=h;refine⟨⟨m,h1,?_⟩,fun k=>?_⟩
 .have:dvG nt a=dvG nt fr:=by
   unfold dvG;cases t:Nat.ble nt 510 with
   | true=>rw[(n (A1 t)).1]
   | false=>rfl
  rw[this];exact s.mono he
 .rw[(n k).2];exact⟨(h3 k).1,fun b u=>let ⟨l,c,e⟩:=(h3 k).2 b u;⟨l,he _ _ c,e⟩⟩
def fE(a:Act)(d:Option Tmp)(v:Value):(a.put d v).defers=a.defers:=by cases d<;>rfl
def FrR.ev{ρ:Ren}{fr:Fr}{a:Act}(h:FrR z ρ nt fr a)(c:GR gl ρ){x:Operand}(hx:okX nt gl x=true):VR ρ (ev fr x) (a.eval x):=by
 cases x with
 | tmp t=>exact h.get t (A1 hx)
 | const v=>exact VR.ofC hx
 | global g =>
   have:=VR.ptr (o:=0) (c g (A1 hx));exact this
 | func f=>exact .func (a:=[]) (b:=[]) (a':=[]) (b':=[]) rfl rfl (fun i v v' h=>by simp at h) (fun i v v' h=>by simp at h)
def FrR.ops{ρ:Ren}{fr:Fr}{a:Act}(h:FrR z ρ nt fr a)(b:GR gl ρ){o:Op}(c:QC nt gl o=true):FR ρ fr a.eval o:=fun x hx=>h.ev b (D5.1 c x hx)
def BJ{o:Op}{c:Callee}{xs:Array Operand}{tys:Array TypeId}(h:o=.call ⟨c,xs,tys⟩):∀ x ∈ xs.toList,x ∈ o.operands.toList:=fun x hx=>by
 subst h;show x ∈ ((match c with|.value f=>#[f]|.invoke r _=>#[r]|.builtin _=>#[])++xs:Array Operand).toList;simp;exact .inr (by simpa using hx)
structure B0g (P:Program) (base gl:Nat) (c:FnC):Prop where
 lg:∀ (vs:List Value) (m m':Mem) (v:Value),c.run vs m=some (v,m')->m.lg.le m'.lg
 ok:∀ (ρ:Ren) (m m':Mem) (w:World) (b:Nat) (args args':List Value) (v:Value) (l:Loc),c.run (yv b::args) m=some (v,m')->Sat m'.lg->At P base gl ρ m m'.hi w->LR ρ args args'->ρ b=some l ->
  ∃ f tmps assign body,(Instr.yield l.blk ⟨args'⟩).run P w=.ok (.round l.blk f tmps assign body) w/\RoundIn Fence.wide 0 P l.blk f tmps assign body w (A3x P base ρ m m' w v)
structure W3 (P:Program) (base gl:Nat) (call:P6):Prop where
 fn:∀ f,nD P base gl f (call.fn f)
 yl:B0g P base gl call.yl
def CY{v:Value}{b:Nat}(h:eV v=some b):v=yv b:=by
 unfold eV at h;split at h
 .cases h;rfl
 .cases h
def qX{ρ:Ren}{m m':Mem}{w:World}{call:P6}{fr:Fr}{a:Act}{v:Value}{K:Act->World->Prop}{Q:Exit->Act->World->Prop}(n:W3 P base gl call)(k:(X7 P call o).run fr m=some (v,m'))(G:Sat m'.lg)
  (h:At P base gl ρ m m'.hi w) (C:FR ρ fr a.eval o.op) (H:∀ v' s w',VR s v v'->St P base ρ s m m' w w'->K (a.put o.dst v') w'):wpO P z.rd o a w K Q:=by
 have F:∀ (f:FuncId) (vs B:List Value),(∀ c,o.op≠.defer c)->(call.fn f).run vs m=some (v,m')->LR ρ vs B->(execOp a.eval o).run P w=(callFunc f ⟨B⟩).run P w->wpO P z.rd o a w K Q:=fun f vs B J hr hv he=>by
  refine⟨fun _ _=>trivial,?_⟩;rw[Oper.semAt_eq _ _ _ J,he];rcases(n.fn f).ok ρ m m' w vs B v hr G h hv with⟨h1,A⟩|⟨v',s,w',h1,A,h3⟩
  .rw[h1,Oper.uponIn_enter];refine⟨sX,qA.2 (A.mono fun e w' ⟨v',s,he,hv,M⟩=>?_)⟩;subst he;exact H v' s w' hv M
  .rw[h1,Oper.uponIn_value];exact H v' s w' A h3
 have t:∀ (J:∀ c,o.op≠.defer c),NOk P base ρ m w (execOp a.eval o) v m'->wpO P z.rd o a w K Q:=fun J R=>by
  obtain⟨v',s,w',h1,A,h3⟩:=R;refine⟨fun _ _=>trivial,?_⟩;rw[Oper.semAt_eq _ _ _ J];rcases h1 with h1|⟨h1,rfl⟩
  .rw[h1,Oper.uponIn_value];exact H v' s w' A h3
  .rw[h1,Oper.uponIn_skip];exact H undef s w' A h3
 obtain⟨dst,op,ty,pos,T,X⟩:=o;unfold X7 at k;simp only at k C;split at k
 .rename_i f xs tys;have l1:=dS (ρ:=ρ) (fr:=fr) (g:=a.eval) (xs:=xs.toList) fun x hx=>C x (BJ rfl x hx)
  have k:(call.fn f).run ((wI xs.toList).run fr) m=some (v,m'):=k;rw[oI]at k;refine F f _ _ (fun c n=>by cases n) k l1 ?_;have I:xs.map a.eval=⟨xs.toList.map a.eval⟩:=by apply J5;simp
  simp only[execOp,resolve,Act.eval,Deferred.ofValue,pure_bind,invoke,I];simp
 .rename_i x xs tys W;have l1:=dS (ρ:=ρ) (fr:=fr) (g:=a.eval) (xs:=xs.toList) fun y L=>C y (BJ rfl y L)
  have hx:VR ρ (ev fr x) (a.eval x):=C x (by show x ∈ (#[x]++xs:Array Operand).toList;simp);have k:LN call m ((S7 x).run fr) ((wI xs.toList).run fr)=some (v,m'):=k;rw[oI,eU]at k;have I:xs.map a.eval=⟨xs.toList.map a.eval⟩:=by apply J5;simp
  unfold LN at k;split at k
  .rename_i f vs u;unfold yC at u;split at u
   .rename_i f0 p q E;cases u;rw[E]at hx;generalize D:a.eval x=gx at hx;cases hx with
    | pure hp=>simp[J0]at hp
    | func V U h1 A =>
      rename_i p q O Z;have lp:LR ρ p O:=⟨V,h1⟩;have Y:LR ρ q Z:=⟨U,A⟩;refine F f _ _ (fun c n=>by cases n) k (lp.append (l1.append Y)) ?_;simp only[execOp,resolve,D,Deferred.ofValue,pure_bind,invoke,I];simp
   .cases u
  .split at k
   .rename_i b L;have E:=CY L;rw[E]at hx k;obtain⟨l,N,D⟩:=A2e hx;obtain⟨f,tmps,as,bd,h1,A⟩:=n.yl.ok ρ m m' w b _ _ v l k G h l1 N;refine⟨fun _ _=>trivial,?_⟩;have he:(execOp a.eval ⟨dst,.call ⟨.value x,xs,tys⟩,ty,pos,T,X⟩).run P w=(Instr.yield l.blk ⟨xs.toList.map a.eval⟩).run P w:=by
     simp only[execOp,resolve,D,Deferred.ofValue,pure_bind,invoke,I];simp
    rw[Oper.semAt_eq _ _ _ (fun c n=>by cases n),he,h1,Oper.uponIn_round];refine⟨sX,?_⟩;have A:RoundIn (fw z.rd) 0 P l.blk f tmps as bd w (A3x P base ρ m m' w v):=A;refine A.mono fun e w' ⟨v',s,he,hv,M⟩=>?_
    subst he;exact H v' s w' hv M
   .cases k
 .have k:A2E P (BH P _) _ fr m=some (v,m'):=k;unfold A2E at k;rw[BG]at k;split at k
  .rename_i r hr;cases k;exact t (fun c n=>by have n:op=.defer c:=n;subst n;cases hr) (A9h h.hr h.bs hr h.fr C)
  .split at k
   .rename_i r hr;cases k;exact t (fun c n=>by have n:op=.defer c:=n;subst n;cases hr) (A4J h.hr hr C G)
   .split at k
    .rename_i r hr;cases k;exact t (fun c n=>by have n:op=.defer c:=n;subst n;cases hr) (B0U h.hr h.bs hr h.fr C G)
    .exact t (fun c n=>by have n:op=.defer c:=n;subst n;cases k) (A80 h.hr h.bs k h.fr C G)
def aW{m m':Mem}{call:P6}{fr:Fr}{v:Value}(b:W3 P base gl call)(a:(X7 P call o).run fr m=some (v,m')):m.lg.le m'.lg:=by
 unfold X7 at a;split at a
 .exact(b.fn _).lg _ _ _ _ a
 .have a:LN call m _ _=some (v,m'):=a;unfold LN at a;split at a
  .exact(b.fn _).lg _ _ _ _ a
  .split at a
   .exact b.yl.lg _ _ _ _ a
   .cases a
 .have a:A2E P (BH P _) _ fr m=some (v,m'):=a;unfold A2E at a;rw[BG]at a;split at a
  .rename_i r hr;cases a;show m.lg.le _;rw[A9i hr];exact .refl _
  .split at a
   .rename_i r hr;cases a;exact(SA hr).1
   .split at a
    .rename_i r hr;cases a;exact B0V hr
    .exact A81 a
def YQ{lg:Lg}{v:Value}{b c:Bool}(h:JF lg v b=some (c,lg')):lg.le lg':=by
 unfold JF at h;split at h
 .cases h;exact .refl _
 .split at h
  .rename_i a;cases h;exact fU a
  .cases h
 .obtain⟨_,h⟩:=A3 h;cases h;exact .refl _
def iF{lg:Lg}{fr:Fr}{all:List Oper}{b:Bool}(h:bY nt fr lg all o=some (b,lg')):lg.le lg':=by
 unfold bY at h;split at h
 .cases h;exact .refl _
 .split at h
  .split at h
   .obtain⟨_,h⟩:=A3 h;exact YQ h
   .cases h
  .cases h
def qL{ρ:Ren}{lg:Lg}{v v':Value}{b c:Bool}(h:JF lg v b=some (c,lg'))(hv:VR ρ v v')(k:Sat lg'):(v'=.bool (c == b)∨(c=false/\v'=.tuple ⟨[]⟩)):=by
 unfold JF at h;split at h
 .rename_i d;cases h;left;rw[dD hv];cases d<;>cases b<;>rfl
 .split at h
  .rename_i d l f;cases h;left
   rw[mV f hv k];cases d<;>cases b<;>rfl
  .cases h
 .rename_i u _ _;obtain⟨h3,m⟩:=A3 h;cases m;right
  have hu:v=.tuple ⟨[]⟩:=by
   unfold oB at h3;split at h3
   .rfl
   .cases h3
  rw[hu]at hv;obtain⟨cs',e,a⟩:=uK hv;cases a.nil_inv;exact⟨rfl,e⟩
def nJ{all:Array Oper}{tmps:X4}{want b:Bool}{t:Tmp}(k:o.guard=some (j,want))(hp:all.toList[j]? = some p)(l:p.dst=some t)(c:t<tmps.size)
  (hv:tmps.getD t undef=.bool (b == want)∨(b=false/\tmps.getD t undef=.tuple ⟨[]⟩)):Region.wanted o (yielded all tmps)=b:=by
 have a:tmps[t]? = some (tmps.getD t undef):=by simp[B9,c]
 have f:(all[j]?).bind (·.dst)=some t:=by
  have:all[j]? = some p:=by simpa using hp
  simp[this,l]
 unfold Region.wanted;simp only[k];rcases hv with e|⟨rfl,e⟩
 .have:yielded all tmps j=some (b == want):=by simp[yielded,f,a,e]
  rw[this];cases b<;>cases want<;>rfl
 .have:yielded all tmps j=none:=by simp[yielded,f,a,e]
  rw[this];rfl
def JG{ρ:Ren}{lg:Lg}{all:Array Oper}{fr:Fr}{a:Act}{b:Bool}(h:FrR z ρ nt fr a)(hw:bY nt fr lg all.toList o=some (b,lg'))(k:Sat lg'):Region.wanted o (yielded all a.tmps)=b:=by
 unfold bY at hw;split at hw
 .rename_i c;cases hw;simp[Region.wanted,c]
 .rename_i j want c;split at hw
  .rename_i p hp;split at hw
   .rename_i t f;obtain⟨h1,e⟩:=A3 hw;have h1:t<nt:=A1 h1;exact nJ c hp f (by rw[h.size];exact h1) (qL e (h.get t h1) k)
   .cases hw
  .cases hw
def yW{β:Type}(t:Nat)(v:Value)(fr:Fr)(k:Fr->β):wX (sel (t / 64%8)) (sel (t / 8%8)) (sel (t%8)) v fr k=k (fr.set t v):=GE t v fr k
def wZ(d:Option Tmp)(v:Value)(fr:Fr):Fr:=match d with|some t=>fr.set t v|none=>fr
def dG(d:Option Tmp)(v:Value)(fr:Fr)(k:Fr->Option S):(xA d).run v fr k=k (wZ d v fr):=by
 cases d with
 | none=>rfl
 | some t=>exact yW t v fr k
def FrR.dst{ρ:Ren}{fr:Fr}{a:Act}{v v':Value}(h:FrR z ρ nt fr a)(b:BB nt d=true)(hv:VR ρ v v'):FrR z ρ nt (wZ d v fr) (a.put d v'):=by
 cases d with
 | none=>exact h
 | some t=>exact h.put (A1 b) hv
def y0{c:OpC}{next:A3w}{s b:S}(h:lR c (xA d) next s=some b):∃ v m',c.run s.fr s.m=some (v,m')/\s.m.hi<=m'.hi/\next.run ⟨wZ d v s.fr,m'⟩=some b:=by
 unfold lR at h;obtain⟨fr,m⟩:=s;simp only at h;split at h
 .rename_i v m' hr;obtain⟨h1,a⟩:=A3 h;rw[dG]at a;exact⟨v,m',hr,A1 h1,a⟩
 .cases h
def uA{call:P6}{all:List Oper}:∀ (r:List Oper) (s a:S),(V3 P nt gl call all r).run s=some a->s.m.hi<=a.m.hi
 | [],s,a,h=>by
   have h:some s=some a:=h;cases h;exact A7 _
 | o::r,s,a,h=>by
   unfold V3 at h;cases c:BB nt o.dst && QC nt gl o.op with
   | false=>rw[c]at h;cases h
   | true =>
     rw[c]at h;simp only[E6]at h;split at h
     .obtain⟨v,m',_,h1,b⟩:=y0 h;exact C6 h1 (uA r _ _ b)
     .have h:fC nt all o (X7 P call o) (xA o.dst) (V3 P nt gl call all r) s=some a:=h;unfold fC at h;obtain⟨fr,⟨H,n,W,hi,lg⟩⟩:=s;simp only at h;split at h
      .obtain⟨v,m',_,h1,b⟩:=y0 h;exact C6 h1 (uA r _ _ b)
      .rename_i lg' _;rw[dG]at h;exact uA r ⟨wZ o.dst undef fr,⟨H,n,W,hi,lg'⟩⟩ a h
      .cases h
def lX{call:P6}(b:W3 P base gl call){all:List Oper}:∀ (r:List Oper) (s a:S),(V3 P nt gl call all r).run s=some a->s.m.lg.le a.m.lg
 | [],s,a,h=>by
   have h:some s=some a:=h;cases h;exact .refl _
 | o::r,s,a,h=>by
   unfold V3 at h;cases e:BB nt o.dst && QC nt gl o.op with
   | false=>rw[e]at h;cases h
   | true =>
     rw[e]at h;simp only[E6]at h;split at h
     .obtain⟨v,m',h0,h1,c⟩:=y0 h;exact(aW b h0).trans (lX b r _ _ c)
     .have h:fC nt all o (X7 P call o) (xA o.dst) (V3 P nt gl call all r) s=some a:=h;unfold fC at h;obtain⟨fr,⟨H,n,W,hi,lg⟩⟩:=s;simp only at h;split at h
      .rename_i lg' hw;obtain⟨v,m',h0,h1,c⟩:=y0 h;exact(iF hw).trans ((aW b h0).trans (lX b r _ _ c))
      .rename_i lg' hw;rw[dG]at h;exact(iF hw).trans (lX b r ⟨wZ o.dst undef fr,⟨H,n,W,hi,lg'⟩⟩ a h)
      .cases h
def GQ{call:P6}{all:Array Oper}{Q:Exit->Act->World->Prop}(u:W3 P base gl call):∀ (r:List Oper) (ρ:Ren) (s c:S) (a:Act) (w:World),(V3 P nt gl call all.toList r).run s=some c->Sat c.m.lg->At P base gl ρ s.m c.m.hi w->FrR z ρ nt s.fr a ->
  (∀ e a' w',FrR z e nt c.fr a'->St P base ρ e s.m c.m w w'->Q .normal a' w')->wpL P z.rd all Q r a w
 | [],ρ,s,c,a,w,h,hS,b,l,y=>by
   have h:some s=some c:=h;cases h;exact y ρ a w l (.refl b.hr)
 | o::r,ρ,s,c,a,w,h,hS,b,l,y=>by
   unfold V3 at h;cases B:BB nt o.dst && QC nt gl o.op with
   | false=>rw[B]at h;cases h
   | true =>
     rw[B]at h;simp only[E6]at h;obtain⟨A,C⟩:=B8 B;have plain:∀ (s:S),At P base gl ρ s.m c.m.hi w->FrR z ρ nt s.fr a->(∀ e a' w',FrR z e nt c.fr a'->St P base ρ e s.m c.m w w'->Q .normal a' w') ->
       lR (X7 P call o) (xA o.dst) (V3 P nt gl call all.toList r) s=some c->Region.wanted o (yielded all a.tmps)=true->wpL P z.rd all Q (o::r) a w:=fun s b l y hr hw=>by
      obtain⟨v,m',h1,E,h3⟩:=y0 hr;have hh:=uA r _ _ h3;have k:Sat m'.lg:=S3.le hS (lX u r _ _ h3);refine JE fun K D=>?_
      rw[A8 hw];refine qX u h1 k (b.less hh) (l.ops b.gr C) fun v' e w' hv st=>D _ _ ?_
      refine GQ u r e _ c _ _ h3 hS (b.step st) ((l.mono st.ext).dst A hv) fun ρ2 a2 w2 f2 f=>y ρ2 a2 w2 f2 (St.trans b.fr st f)
     split at h
     .rename_i F;exact plain s b l y h (by simp[Region.wanted,F])
     .have h:fC nt all.toList o (X7 P call o) (xA o.dst) (V3 P nt gl call all.toList r) s=some c:=h;unfold fC at h;obtain⟨fr,m⟩:=s;obtain⟨H,n,W,hi,lg⟩:=m;simp only at h;split at h
      .rename_i lg' hw;have t:St P base ρ ρ ⟨H,n,W,hi,lg⟩ ⟨H,n,W,hi,lg'⟩ w w:=St.wLg (m:=⟨H,n,W,hi,lg⟩) b.hr lg';obtain⟨v,m',h0,h1,E⟩:=y0 h;have k:Sat lg':=S3.le hS ((aW u h0).trans (lX u r _ _ E));exact plain ⟨fr,⟨H,n,W,hi,lg'⟩⟩ (b.wLg lg') l (fun ρ2 a2 w2 f2 f=>y ρ2 a2 w2 f2 (St.trans b.fr t f)) h (JG l hw k)
      .rename_i lg' hw;have t:St P base ρ ρ ⟨H,n,W,hi,lg⟩ ⟨H,n,W,hi,lg'⟩ w w:=St.wLg (m:=⟨H,n,W,hi,lg⟩) b.hr lg';rw[dG]at h;have k:Sat lg':=S3.le hS (lX u r ⟨wZ o.dst undef fr,⟨H,n,W,hi,lg'⟩⟩ c h);refine JE fun K D=>?_
       rw[A6 (by rw[JG l hw k];simp)];exact D _ _ (GQ u r ρ ⟨wZ o.dst undef fr,⟨H,n,W,hi,lg'⟩⟩ c _ _ h hS (b.wLg lg') (l.dst A (qN ρ)) fun ρ2 a2 w2 f2 f=>y ρ2 a2 w2 f2 (St.trans b.fr t f))
      .cases h
def Ex.out:Ex->Exit
 | .normal=>.normal
 | .exit id=>.exit id
 | .ret=>.ret
def A5I{ops:List Oper}{z:Zn}{ρ:Ren}{s:S}{a:Act}{w:World}(hm:mD P nt gl s.fr s.m.H ops=true)(hr:HR P base ρ s.m.H w)(G:GR gl ρ)(hf:FrR z ρ nt s.fr a):OG P ops (a,w):=by
 obtain⟨h1,Z⟩:=B8 hm;have key:∀ o ∈ ops,∀ t x,mY o.op=some (t,x)->∃ b l cs T,ev s.fr x=.pointer (some b)/\ρ b.block=some l/\a.eval x=.pointer (some ⟨l.blk,b.off+l.sh,none⟩)/\Hp.get s.m.H b.block=some (.cells cs T false)/\b.block<=I4/\l.on=true/\CW P w t (a.eval x):=fun o J t x hx=>by
  have hp:=D5.1 h1 o J;unfold A1S at hp;rw[hx]at hp;simp only at hp;cases v:okX nt gl x with
  | false=>rw[v]at hp;cases hp
  | true =>
    rw[v]at hp;simp only[Q9,E0]at hp;split at hp
    .rename_i b g sz A B e3;split at hp
     .rename_i cs T az f;obtain⟨N,hp⟩:=B8 hp;obtain⟨D,F⟩:=B8 hp;have N:=A1 N;have D:b.off<cs.length:=A1 D;have F:=A1 F;have hv:=hf.ev G v;rw[A]at hv;obtain⟨l,l1,_,Q⟩:=P3 hv;obtain⟨⟨K,C,fz,W,c1,c2,_⟩,_⟩:=hr.atl l1 f;have n:∀ k,k<cs.length->l.sh+k<C.size:=fun k v=>by
       obtain⟨v',I,_⟩:=c2 k cs[k] (A5 v);exact(D0.1 I).1
      refine⟨b,l,cs,T,A,l1,Q,f,F,K,l.blk,b.off+l.sh,C,W,fz,sz,g,Q,c1,e3,B,?_,?_⟩
      .have:=n b.off D;by_cases h0:sz=0
       .omega
       .have:=n (b.off+sz-1) A2;omega
      .have:=n b.off D;omega
     .cases hp
    .cases hp
 refine⟨fun o J t x hx=>by obtain⟨_,_,_,_,_,_,_,_,_,_,h⟩:=key o J t x hx;exact h,fun i j o p L hi M he E t x u y hx O ay ax A B=>?_⟩;obtain⟨b,l,cs,T,k1,k2,k3,k4,k5,k6,_⟩:=key o (D1 hi) t x hx;obtain⟨bd,r,ds,V,Y,n2,R,n4,X,U,_⟩:=key p (D1 M) u y O;have c:=KQ Z L hi M he;unfold A3r at c;rw[E]at c;simp only[E6,hx,O,k1,Y]at c;rw[k3]at A;rw[R]at B;cases A;cases B;show l.blk≠r.blk;intro e;obtain⟨_,hu⟩:=hr.atl k2 k4;obtain⟨_,hu⟩:=hu rfl k6
 have:=hu bd.block X _ r n4 n2 (.inl ⟨rfl,U,e.symm⟩);rw[this,eN]at c;cases c
def At.drew{ρ:Ren}{m:Mem}{hi:Nat}{w:World}(a:At P base gl ρ m hi w)(d:Nat):At P base gl ρ m hi { w with drawn:=d } :=
 ⟨⟨fun b l h=>a.hr.dom b l h,fun id hid ab c=>by
  obtain⟨l,e,f,k⟩:=a.hr.at_ id hid ab c;exact⟨l,e,BR.mono (w:=w) (fun _ _ h=>h) (fun _ _=>rfl) f,k⟩⟩,a.bs,a.fr,a.gr,a.nh,a.wb,a.gf⟩
def St.undrew{ρ a:Ren}{m m':Mem}{w w':World}{d:Nat}(st:St P base ρ a m m' { w with drawn:=d } w'):St P base ρ a m m' w w' :=
 ⟨st.ext,st.new,st.nle,st.hle,st.nhi,st.hr,st.wsub,st.wrw,st.keep,st.size,st.os,st.blk,st.same,st.tch⟩
def PP{call:P6}{ops:Array Oper}{z:Zn}{id:Nat}(l:P.follows .mixedOrders=true)(D:W3 P base gl call){ρ:Ren}{s f:S}{a:Act}{w:World}{Q:Exit->Act->World->Prop}(hr:lS ops.toList=true)(hm:mD P nt gl s.fr s.m.H ops.toList=true)(h:(V3 P nt gl call ops.toList ops.toList).run s=some f)(A:Sat f.m.lg)(e:At P base gl ρ s.m f.m.hi w)(u:FrR z ρ nt s.fr a)
  (F:∀ c a' w',FrR z c nt f.fr a'->St P base ρ c s.m f.m w w'->Q .normal a' w'):(Code.region id ops true).wpIn (fw z.rd) 0 P Q a w:=by
 refine lK l (A4e hr (fun w' k=>?_) (fun d=>?_) _)
 .have n:=A5I hm e.hr e.gr u;refine⟨fun o y t x hx=>?_,n.ap⟩;obtain⟨b,o',C,T,fz,sz,g,B,v,E⟩:=n.pl o y t x hx;exact⟨b,o',C,T,fz,sz,g,B,by show w'.heap[b]? = _;rw[k];exact v,E⟩
 .exact GQ D ops.toList ρ s f a { w with drawn:=d } h A (e.drew d) u fun c a' w' f1 st=>⟨rfl,F c a' w' f1 st.undrew⟩
def gX(P:Program)(base gl:Nat)(call:P6):Prop :=
 P.follows .mixedOrders=true/\∀ (nt:Nat) (ops:Array Oper),IG ops=true->∀ (s b:S),s9 P nt gl call ops.toList ops.toList 0 (c8 ops.toList []) [] [] s=some b->(s.m.hi<=b.m.hi/\s.m.lg.le b.m.lg) /\
  ∀ (z:Zn) (ρ:Ren) (a:Act) (w:World) (id:Nat) (Q:Exit->Act->World->Prop),Sat b.m.lg->At P base gl ρ s.m b.m.hi w->FrR z ρ nt s.fr a ->
   (∀ c a' w',FrR z c nt b.fr a'->St P base ρ c s.m b.m w w'->Q .normal a' w')->(Code.region id ops true).wpIn (fw z.rd) 0 P Q a w
def P0:∀ (q r:List Bool) (c:Code),G6 (q++r) c=(G6 q c).bind (G6 r)
 | [],r,c=>rfl
 | false::q,r,.seq a b=>P0 q r a
 | true::q,r,.seq a b=>P0 q r b
 | false::q,r,.cond _ a b=>P0 q r a
 | true::q,r,.cond _ a b=>P0 q r b
 | false::q,r,.block _ c=>P0 q r c
 | false::q,r,.loop c=>P0 q r c
 | false::q,r,.scope c=>P0 q r c
 | true::q,r,.scope c=>rfl
 | true::q,r,.block _ c=>rfl
 | true::q,r,.loop c=>rfl
 | b::q,r,.skip=>by cases b<;>rfl
 | b::q,r,.region _ _ _=>by cases b<;>rfl
 | false::q,r,.rangeFunc _ _ a _=>P0 q r a
 | true::q,r,.rangeFunc _ _ _ b=>P0 q r b
 | b::q,r,.exit _=>by cases b<;>rfl
 | b::q,r,.label _=>by cases b<;>rfl
 | b::q,r,.goto _=>by cases b<;>rfl
 | b::q,r,.ret=>by cases b<;>rfl
 | b::q,r,.refuse _=>by cases b<;>rfl
def I9{b:Bool}{body c d:Code}(h:G6 q body=some c)(a:G6 [b] c=some d):G6 (q++[b]) body=some d:=by
 rw[P0,h];exact a
structure Q1 (P:Program) (base gl nt:Nat) (c:Code) (L:S->Option (Ex×S)):Prop where
 lg:∀ (s s':S) (e:Ex),L s=some (e,s')->s.m.hi<=s'.m.hi/\s.m.lg.le s'.m.lg
 ok:∀ (s s':S) (e:Ex),L s=some (e,s')->Sat s'.m.lg->∃ N,∀ (z:Zn) (ρ:Ren) (a:Act) (w:World) (Q:Exit->Act->World->Prop),At P base gl ρ s.m s'.m.hi w->FrR z ρ nt s.fr a ->
  (∀ ρ' a' w',FrR z ρ' nt s'.fr a'->St P base ρ ρ' s.m s'.m w w'->Q e.out a' w')->Code.roundsIn (fw z.rd) 0 P c Q N a w
def orL(a b:S->Option (Ex×S))(s:S):Option (Ex×S) :=
 match a s with
 | some r=>some r
 | none=>b s
def Q1.or{nt:Nat}{c:Code}{a b:S->Option (Ex×S)}(l:Q1 P base gl nt c a)(f:Q1 P base gl nt c b):Q1 P base gl nt c (orL a b):=by
 refine⟨fun s m e h=>?_,fun s m e h k=>?_⟩
 .unfold orL at h;split at h
  .rename_i r hr;cases h;exact l.lg _ _ _ hr
  .exact f.lg _ _ _ h
 .unfold orL at h;split at h
  .rename_i r hr;cases h;exact l.ok _ _ _ hr k
  .exact f.ok _ _ _ h k
def RS(P:Program)(base gl nt:Nat)(body:Code)(lp:LpT):Prop :=
 (∃ fn,P.funcs[lp.me]? = some fn/\fn.body=some body/\fn.ntmps=nt)/\∀ q x L,G6 q body=some (.loop x)->lp.look q=some L->Q1 P base gl nt x L
def nV{m m':Mem}{ab:AB}{k:Nat->Value}{v:Value}(h:d9 m ab k=some (v,m')):v=k m.n/\m.hi<=m'.hi/\m'.lg=m.lg:=by
 obtain⟨_,a,rfl⟩:=M3 h;exact⟨a,(L7 _ _).1,rfl⟩
def nO{m m':Mem}{id:Nat}{ab:AB}(h:cY m id ab=some m'):m'.hi=m.hi/\m'.lg=m.lg:=by
 obtain⟨_,rfl⟩:=V1 h;exact⟨rfl,rfl⟩
def vS{fr:Fr}{hi b:Nat}{r:Res}{e:Ex}{a:S}(h:rW fr hi b r=some (e,a)):∃ v m f q vs st m',r=some (v,m)/\Hp.get m.H b=some (.lp f q vs st)/\nEx st=some e/\hi<=m.hi/\cY m b (.lp f q vs 3)=some m'/\a=⟨fr,m'⟩:=by
 unfold rW at h;split at h
 .rename_i v m;split at h
  .rename_i f q vs st c;split at h
   .rename_i k he;obtain⟨h1,h⟩:=A3 h;split at h
    .rename_i m' hm;cases h;exact⟨_,_,_,_,_,_,_,rfl,c,he,A1 h1,hm,rfl⟩
    .cases h
   .cases h
  .cases h
 .cases h
def zH{call:P6}{f:FuncId}{fr:Fr}{m:Mem}{e:Ex}{l:S}(h:cT P nt call f q g fr m=some (e,l)) :
  ∃ m1 k a b,d9 m (.lp f q (frL fr 0 nt) 0) yv=some (yv m.n,m1)/\g=.func (.func k) a b/\sU P k=true/\rW fr m1.hi m.n ((call.fn k).run (a.toList++([yv m.n]++b.toList)) m1)=some (e,l):=by
 unfold cT at h;rw[I8]at h;split at h
 .rename_i v m1 s;have hv:=(nV s).1;subst hv;have u:eV (yv m.n)=some m.n:=rfl;split at h
  .rename_i k as b c t;rw[u]at t;cases t;obtain⟨h1,h⟩:=A3 h;unfold yC at c;split at c
   .cases c;exact⟨m1,_,_,_,s,rfl,h1,h⟩
   .cases c
  .cases h
 .cases h
def pM{call:P6}(w:W3 P base gl call){f:FuncId}{fr:Fr}{m:Mem}{e:Ex}{c:S}(h:cT P nt call f q g fr m=some (e,c)):m.hi<=c.m.hi/\m.lg.le c.m.lg:=by
 obtain⟨m1,k,a,b,h1,_,_,l⟩:=zH h;obtain⟨v,m2,f,q,vs,st,m3,u,_,_,n,y,rfl⟩:=vS l
 have:=(w.fn k).lg _ _ _ _ u;obtain⟨g1,g2⟩:=nO y;obtain⟨_,s,t⟩:=nV h1;refine⟨by show m.hi<=m3.hi;rw[g1];exact C6 s n,?_⟩;show m.lg.le m3.lg;rw[g2,<- t];exact this
def FG{call:P6}{f:FuncId}{x:XC}{s t:S}{e:Ex}(h:BM P nt call f q x s=some (e,t)):nt<=510 /\
  ((∃ k f0 u c,eV (s.fr.get 511)=some k/\Hp.get s.m.H k=some (.lp f0 u c 1)/\cT P nt call f q (x.run s.fr) s.fr s.m=some (e,t)) ∨
    (oB (s.fr.get 511)=true/\∃ m1,d9 s.m (.dfr true) (fun b=>.pointer (some ⟨b,0,none⟩))=some (.pointer (some ⟨s.m.n,0,none⟩),m1) /\
      cT P nt call f q (x.run s.fr) (s.fr.set 510 (dv (s.m.n::iW (s.fr.get 510)))) m1=some (e,t))):=by
 unfold BM at h;obtain⟨fr,m⟩:=s;obtain⟨h1,h⟩:=A3 h;refine⟨A1 h1,?_⟩;split at h
 .rename_i k y;split at h
  .rename_i f0 u c A;exact .inl ⟨k,f0,u,c,y,A,h⟩
  .cases h
 .obtain⟨w,h⟩:=A3 h;refine .inr ⟨w,?_⟩;split at h
  .rename_i a m1 v;have hv:=(nV v).1;cases hv;rw[I8]at h;have:wX (sel 7) (sel 7) (sel 6) (dv (m.n::iW (fr.get 510))) fr (fun l=>cT P nt call f q (x.run fr) l m1)=cT P nt call f q (x.run fr) (fr.set 510 (dv (m.n::iW (fr.get 510)))) m1:=yW 510 _ _ _;rw[this]at h;exact⟨m1,v,h⟩
  .cases h
def YA{call:P6}(b:W3 P base gl call){f:FuncId}{x:XC}{s a:S}{e:Ex}(h:BM P nt call f q x s=some (e,a)):s.m.hi<=a.m.hi/\s.m.lg.le a.m.lg:=by
 obtain⟨_,⟨_,_,_,_,_,_,h⟩|⟨_,m1,c,h⟩⟩:=FG h
 .exact pM b h
 .have:=pM b h;obtain⟨_,k,l⟩:=nV c;rw[l]at this;exact⟨C6 k this.1,this.2⟩
def UV(fr:Fr):∀ (n i j:Nat),(frL fr i n)[j]? = if j<n then some (fr.get (i+j))else none
 | 0,i,j=>by simp[frL]
 | n+1,i,0=>by simp[frL]
 | n+1,i,j+1=>by
   rw[frL,R7,UV fr n (i+1) j];have:i+1+j=i+(j+1):=A2;rw[this];by_cases h:j<n
   .rw[A8 h,A8 A2]
   .rw[A6 h,A6 A2]
def HT(fr:Fr):∀ (n i:Nat),(frL fr i n).length=n
 | 0,i=>rfl
 | n+1,i=>by simp[frL,HT fr n]
def FrR.list{ρ:Ren}{fr:Fr}{a:Act}(h:FrR z ρ nt fr a):LR ρ (frL fr 0 nt) a.tmps.toList:=by
 refine⟨by rw[HT];simpa using h.size.symm,fun i v v' h1 b=>?_⟩;rw[UV]at h1;split at h1
 .rename_i hi;cases h1
  have:=h.get i hi;rw[F7];have h3:a.tmps.getD i undef=v':=by
   have:a.tmps[i]? = some v':=by simpa using b
   simp[B9,this]
  rw[h3]at this;exact this
 .cases h1
def QV{k:FuncId}(h:sU P k=true):∃ fn c,P.funcs[k]? = some fn/\fn.body=some c:=by
 unfold sU at h;split at h
 .rename_i fn b;split at h
  .rename_i c a;exact⟨fn,c,by simpa using b,a⟩
  .cases h
 .cases h
def pB{k:FuncId}{args:X4}{w w':World}{v:Value}(h:sU P k=true):(callFunc k args).run P w≠.ok (.value v) w':=by
 obtain⟨fn,c,h1,b⟩:=QV h;by_cases a:fn.name = "runtime.NumGoroutine"
 .simp[callFunc,h1,a]
 .simp[callFunc,h1,a,b]
def jL{w:World}{l:Nat}{o:Obj}(h:l<w.heap.size):(w.putObj l o).heap.size=w.heap.size/\(w.putObj l o).heap[l]? = some o/\∀ k,k≠l->(w.putObj l o).heap[k]? = w.heap[k]? := ⟨by simp[World.putObj],World.putObj_heap_same h,fun k a=>World.putObj_heap_other a⟩
def zG{call:P6}(hc:W3 P base gl call){fn:Func}{body:Code}(f1:P.funcs[me]? = some fn)(f2:fn.body=some body)(f3:fn.ntmps=nt)(hq:G6 q body=some (.rangeFunc x ps as bd))
  {fr:Fr} {m:Mem} {e:Ex} {M:S} (h:cT P nt call me q g fr m=some (e,M)) (hS:Sat M.m.lg) {ρ:Ren} {a:Act} {w:World} {r:Loop} (u:At P base gl ρ m M.m.hi w) (hf:FrR z ρ nt fr a) (hg:VR ρ g (a.eval x))
  (hr:r.state=.ready/\r.pending=none/\r.tmps=a.tmps/\r.params=ps/\r.assign=as/\r.body=bd) {Q:Exit->Act->World->Prop}
  (hQ:∀ C w',FrR z C nt M.fr a->St P base ρ C m M.m w w'->Q e.out a w') :
  ∃ k args d,(resolve a.eval (rangeCall x w.heap.size) 0).run P (w.alloc (.loop r))=.ok d (w.alloc (.loop r))/\(invoke d.target d.args).run P (w.alloc (.loop r))=.ok (.enter k args) (w.alloc (.loop r)) /\
   CallsIn (fw z.rd) 0 P k args (w.alloc (.loop r)) (rangePost (fw z.rd) 0 P w.heap.size Q a):=by
 obtain⟨m1,k,A,B,h1,X,H,h2⟩:=zH h;obtain⟨v,m2,ff,qq,vs,st,m3,e1,Z,G,e4,e5,rfl⟩:=vS h2;obtain⟨g1,g2⟩:=nO e5;obtain⟨_,g3,g4⟩:=nV h1;have N:Sat m2.lg:=by have:Sat m3.lg:=hS;rwa[g2]at this
 have f:K7 ρ m.n m3.hi:=u.fr;have hle:m1.hi<=m3.hi:=by rw[g1];exact e4
 obtain⟨r1,r2,r3,r4,r5,r6⟩:=hr;subst r4;subst r5;subst r6;have t:(w.alloc (.loop r)).heap=w.heap.push (.loop r):=rfl;have y:ρ m.n=none:=f m.n (A7 _) (by
  obtain⟨_,_,q⟩:=M3 h1;have:m1.hi=upN m.hi m.n:=by rw[q]
  have h3:=(L7 m.hi m.n).2;omega)
 obtain⟨_,k1,E⟩:=St.alloc (w':=w.alloc (.loop r)) (o:=.loop r) (l:=lc w.heap.size 0 0) u.hr u.bs h1 (f.less hle) ⟨rfl,rfl,rfl⟩ t rfl (by
  refine⟨⟨rfl,rfl⟩,r,by simp[t],⟨fn,body,x,f1,f2,hq,by rw[HT,f3]⟩,?_,⟨r1,r2⟩⟩;rw[r3];exact hf.list.mono (X9 y))
 have s:=u.step E;obtain⟨A,rfl⟩:∃ l:D3,A=⟨l⟩:=⟨A.toList,rfl⟩;obtain⟨B,rfl⟩:∃ l:D3,B=⟨l⟩:=⟨B.toList,rfl⟩;subst X;generalize W:a.eval x=gx at hg;cases hg with
 | pure hp=>simp[J0]at hp
 | func ha J q1 q2 =>
   rename_i R L;have lA:LR ρ A R:=⟨ha,q1⟩;have lB:LR ρ B L:=⟨J,q2⟩;have hy:VR (upd ρ m.n (lc w.heap.size 0 0)) (yv m.n) (.func (.yield w.heap.size) #[] #[]):=VR.yv k1;have hl:=(lA.mono E.ext).append ((LR.cons hy .nil).append (lB.mono E.ext));refine⟨k,⟨R++([.func (.yield w.heap.size) #[] #[]]++L)⟩,{ target:=.fn (.func k) ⟨L⟩,args:=⟨R⟩++#[.func (.yield w.heap.size) #[] #[]] },?_,?_,?_⟩
   .show(Deferred.ofValue (a.eval x) _).run P _=_;rw[W];simp[Deferred.ofValue,Act.eval]
   .have Y:(callFunc k ⟨R++([.func (.yield w.heap.size) #[] #[]]++L)⟩).run P (w.alloc (.loop r))=.ok (.enter k ⟨R++([.func (.yield w.heap.size) #[] #[]]++L)⟩) (w.alloc (.loop r)):=by
     rcases(hc.fn k).ok _ m1 m2 _ _ _ v e1 N (s.less (by show m2.hi<=m3.hi;rw[g1];exact A7 _)) hl with⟨O,_⟩|⟨v',C,w',O,_⟩
     .exact O
     .exact absurd O (pB H)
    rw[<- Y];show(callFunc k _).run P _=_;congr 2;apply J5;simp
   .rcases(hc.fn k).ok _ m1 m2 _ _ _ v e1 N (s.less (by show m2.hi<=m3.hi;rw[g1];exact A7 _)) hl with⟨_,c2⟩|⟨v',C,w',O,_⟩
    .refine qA.2 (c2.mono fun en w2 ⟨v',ρ2,he,hv,D⟩=>?_);subst he;have k2:=D.ext _ _ k1;obtain⟨b1,b2⟩:=D.hr.atl k2 Z;obtain⟨⟨b3,b4⟩,F,T,U⟩:=b1;have T:w2.heap[w.heap.size]? = some (.loop F):=T;have I:F.state≠.busy:=by
      have c:=U.st;intro J
      match st,c,G with
      | 0,c,_=>rw[J]at c;cases c.1
      | 2,c,_=>rw[J]at c;cases c.1
      | k+4,c,_=>rw[J]at c;cases c.1
     obtain⟨p1,p2,p3⟩:=jL (o:=.loop { F with state:=.exhausted }) (D0.1 T).1;have V:St P base ρ2 ρ2 m2 m3 w2 (w2.putObj w.heap.size (.loop { F with state:=.exhausted })):=St.write D.hr e5 Z rfl k2 rfl ⟨rfl,rfl,rfl⟩ p1 p3 ⟨⟨rfl,rfl⟩,_,p2,U.code,U.fr,trivial⟩;have K:St P base ρ ρ2 m m3 w _:=St.trans f E (St.trans s.fr D V);have b:=hQ ρ2 _ (hf.mono K.ext) K;refine⟨F.pending,_,run_endLoop T I,?_⟩;have c:=U.st
     match st,c,G with
     | 0,c,G=>cases G;rw[show F.pending=none from c.2]at b ⊢;exact b
     | 2,c,G=>cases G;rw[show F.pending=some .ret from c.2]at b ⊢;exact wpIn_ret b
     | k+4,c,G=>cases G;rw[show F.pending=some (.exit k)from c.2]at b ⊢;exact wpIn_exit b
    .exact absurd O (pB H)
def A07{call:P6}(U:W3 P base gl call){fn:Func}{body:Code}(f1:P.funcs[me]? = some fn)(f2:fn.body=some body)(f3:fn.ntmps=nt)(V:G6 q body=some (.rangeFunc x ps as bd))(hx:okX nt gl x=true)
  {s E:S} {e:Ex} {ρ:Ren} {a:Act} {w:World} {Q:Exit->Act->World->Prop} (h:BM P nt call me q (S7 x) s=some (e,E)) (W:Sat E.m.lg) (c:At P base gl ρ s.m E.m.hi w) (H:FrR z ρ nt s.fr a)
  (Y:∀ u a' w',FrR z u nt E.fr a'->St P base ρ u s.m E.m w w'->Q e.out a' w'):(Code.rangeFunc x ps as bd).wpIn (fw z.rd) 0 P Q a w:=by
 obtain⟨J,h⟩:=FG h;refine wpIn_rangeFunc fun b _=>?_
 have hv:=H.ev c.gr hx;rcases h with⟨b0,f0,q0,az,hy,hg,h⟩|⟨hu,m1,B,h⟩
 .obtain⟨l0,e1,Z⟩:=(H.rd J).2 b0 hy;obtain⟨⟨_,X,b1,_⟩,_⟩:=c.hr.atl e1 hg;have D:(Instr.enterLoop b a.tmps ps as bd (fw z.rd).round).run P w=.ok (w.heap.size,[]) (w.alloc (.loop { state:=.ready,pending:=none,fn:=b,tmps:=a.tmps,params:=ps,assign:=as,body:=bd,defers:=X.defers })):=by
   show(Instr.enterLoop b a.tmps ps as bd z.rd).run P w=_;rw[Z];unfold Instr.enterLoop;simp only[A4,run_getLoop b1,run_newObj_alloc,Result.andThen,Sem.run_pure]
  rw[eU]at h;obtain⟨k,args,d,K,O,I⟩:=zG (r:={ state:=.ready,pending:=none,fn:=b,tmps:=a.tmps,params:=ps,assign:=as,body:=bd,defers:=X.defers }) U f1 f2 f3 V h W c H hv ⟨rfl,rfl,rfl,rfl,rfl,rfl⟩ (Q:=Q) fun u w' g1 g2=>Y u a w' g1 g2
  exact⟨_,_,_,d,_,k,args,_,D,K,fun _ _=>trivial,O,sX,I⟩
 .have R:=(H.rd J).1 hu;have y:K7 ρ s.m.n E.m.hi:=c.fr;have T:=pM U h;obtain⟨_,g3,g4⟩:=nV B;have D:(Instr.enterLoop b a.tmps ps as bd (fw z.rd).round).run P w=.ok (w.heap.size+1,[{ target:=.collected w.heap.size,args:=#[] }]) ((w.alloc (.deferred (some []))).alloc (.loop { state:=.ready,pending:=none,fn:=b,tmps:=a.tmps,params:=ps,assign:=as,body:=bd,defers:=w.heap.size })):=by
   show(Instr.enterLoop b a.tmps ps as bd z.rd).run P w=_;rw[R];exact run_enterLoop_outer b a.tmps ps as bd
  have f:(w.alloc (.deferred (some []))).heap=w.heap.push (.deferred (some [])):=rfl;obtain⟨_,k1,A⟩:=St.alloc (w':=w.alloc (.deferred (some []))) (o:=.deferred (some [])) (l:=lc w.heap.size 0 0) c.hr c.bs B (y.less T.1) ⟨rfl,rfl,rfl⟩ f rfl ⟨⟨rfl,rfl⟩,_,by simp[f],fun _=>rfl⟩;have F:=c.step A;have N:(w.alloc (.deferred (some []))).heap.size=w.heap.size+1:=by simp[f]
  let a2:Act:={ a with defers:={ target:=.collected w.heap.size,args:=#[] }::a.defers }
  have M:FrR z (upd ρ s.m.n (lc w.heap.size 0 0)) nt (s.fr.set 510 (dv (s.m.n::iW (s.fr.get 510)))) a2:=by
   have v:=H.mono A.ext;have C:∀ t,t<512->t≠510->(s.fr.set 510 (dv (s.m.n::iW (s.fr.get 510)))).get t=s.fr.get t:=fun t h1 G=>by rw[M6 _ _ _ _ E3 h1,A6 G]
   refine⟨v.size,v.le,?_,fun _=>by rw[C 511 E3 E3];exact v.rd J,fun t ht=>by rw[C t A2 A2];exact v.get t ht⟩;obtain⟨ds,d1,d2⟩:=v.df;refine⟨{ target:=.collected w.heap.size,args:=#[] }::ds,by show _::a.defers=_;rw[d1];rfl,?_⟩;unfold dvG at d2 ⊢;have hb:Nat.ble nt 510=true:=C7 J;rw[hb]at d2 ⊢;rw[M6 _ _ _ _ E3 E3,A8 rfl];have hd:iW (dv (s.m.n::iW (s.fr.get 510)))=s.m.n::iW (s.fr.get 510):=by
    simp[iW,dv,A65,Function.comp_def]
   simp only[E6,hd]at d2 ⊢;refine⟨by simp[d2.1],fun i id d h1 G=>?_⟩;cases i with
   | zero =>
     simp only[R6,D6]at h1 G;subst h1;subst G;exact⟨_,k1,rfl⟩
   | succ i=>exact d2.2 i id d (by simpa using h1) (by simpa using G)
  have L:VR (upd ρ s.m.n (lc w.heap.size 0 0)) ((S7 x).run s.fr) (a2.eval x):=by
   rw[eU];exact hv.mono A.ext
  obtain⟨k,args,d,K,O,I⟩:=zG (r:={ state:=.ready,pending:=none,fn:=b,tmps:=a.tmps,params:=ps,assign:=as,body:=bd,defers:=w.heap.size }) U f1 f2 f3 V h W F M L ⟨rfl,rfl,rfl,rfl,rfl,rfl⟩ (Q:=Q) fun u w' g1 g2=>Y u a2 w' g1 (St.trans y A g2)
  rw[N]at K I;exact⟨_,_,_,d,_,k,args,_,D,K,fun _ _=>trivial,O,sX,I⟩
def zV{call:P6}{lp:LpT}{q:List Bool}{x:Code}(hx:∀ (s c:S) (e:Ex),(N9 P nt gl call lp q x).run s=some (e,c)->s.m.hi<=c.m.hi/\s.m.lg.le c.m.lg):∀ (n:Nat) (s c:S) (e:Ex),EC (N9 P nt gl call lp q x) n s=some (e,c)->s.m.hi<=c.m.hi/\s.m.lg.le c.m.lg
 | 0,s,c,e,h=>by cases h
 | n+1,s,c,e,h=>by
   unfold EC at h;split at h
   .rename_i s1 h1;have a:=hx _ _ _ h1;have b:=zV hx n _ _ _ h;exact⟨C6 a.1 b.1,a.2.trans b.2⟩
   .exact hx _ _ _ h
def zW{call:P6}{lp:LpT}{q:List Bool}{x:Code}{L:S->Option (Ex×S)}(hx:∀ (s c:S) (e:Ex),(N9 P nt gl call lp q x).run s=some (e,c)->s.m.hi<=c.m.hi/\s.m.lg.le c.m.lg)
  (f:∀ (s c:S) (e:Ex),L s=some (e,c)->s.m.hi<=c.m.hi/\s.m.lg.le c.m.lg):∀ (n:Nat) (s c:S) (e:Ex),ED (N9 P nt gl call lp q x) L n s=some (e,c)->s.m.hi<=c.m.hi/\s.m.lg.le c.m.lg
 | 0,s,c,e,h=>by cases h
 | n+1,s,c,e,h=>by
   unfold ED at h;split at h
   .rename_i r hr;cases h;exact f _ _ _ hr
   .split at h
    .rename_i s1 h1;have a:=hx _ _ _ h1;have b:=zW hx f n _ _ _ h;exact⟨C6 a.1 b.1,a.2.trans b.2⟩
    .exact hx _ _ _ h
def NP{c:XC}{a b:gY}{s l:S}{e:Ex}(h:NQ c a b s=some (e,l)):∃ t lg,brL s.m.lg (c.run s.fr)=some (t,lg)/\(bif t then a.run ⟨s.fr,s.m.wLg lg⟩else b.run ⟨s.fr,s.m.wLg lg⟩)=some (e,l):=by
 obtain⟨fr,⟨H,n,W,hi,lg⟩⟩:=s;unfold NQ at h;split at h
 .rename_i f;exact⟨true,lg,by rw[f];rfl,h⟩
 .rename_i f;exact⟨false,lg,by rw[f];rfl,h⟩
 .simp only at h;split at h
  .rename_i lg' k;exact⟨true,lg',k,h⟩
  .rename_i lg' k;exact⟨false,lg',k,h⟩
  .cases h
def U1{call:P6}{lp:LpT}{body:Code}(u:W3 P base gl call)(v:gX P base gl call)(l:RS P base gl nt body lp):∀ (c:Code) (q:List Bool),G6 q body=some c->∀ (s k:S) (e:Ex),(N9 P nt gl call lp q c).run s=some (e,k)->s.m.hi<=k.m.hi/\s.m.lg.le k.m.lg
 | .skip,q,f,s,k,e,h=>by have h:some (Ex.normal,s)=some (e,k):=h;cases h;exact⟨A7 _,.refl _⟩
 | .label _,q,f,s,k,e,h=>by have h:some (Ex.normal,s)=some (e,k):=h;cases h;exact⟨A7 _,.refl _⟩
 | .exit id,q,f,s,k,e,h=>by have h:some (Ex.exit id,s)=some (e,k):=h;cases h;exact⟨A7 _,.refl _⟩
 | .ret,q,f,s,k,e,h=>by have h:some (Ex.ret,s)=some (e,k):=h;cases h;exact⟨A7 _,.refl _⟩
 | .region id ops d,q,f,s,k,e,h=>by
   cases d with
   | false =>
     have h:Z7 (V3 P nt gl call ops.toList ops.toList) s=some (e,k):=h;unfold Z7 at h;split at h
     .rename_i s1 h1;cases h;exact⟨uA _ _ _ h1,lX u _ _ _ h1⟩
     .cases h
   | true =>
     unfold N9 at h;simp only at h;cases f:IG ops with
     | false=>rw[f]at h;cases h
     | true =>
       rw[f]at h;have go:Z7 ⟨s9 P nt gl call ops.toList ops.toList 0 (c8 ops.toList []) [] []⟩ s=some (e,k)->s.m.hi<=k.m.hi/\s.m.lg.le k.m.lg:=fun h=>by
        unfold Z7 at h;split at h
        .rename_i s1 h1;cases h;exact(v.2 nt ops f _ _ h1).1
        .cases h
       simp only[E6]at h;cases hr:lS ops.toList with
       | false=>rw[hr]at h;exact go h
       | true =>
         rw[hr]at h;simp only[E6]at h;cases hm:mD P nt gl s.fr s.m.H ops.toList with
         | false=>rw[hm]at h;exact go h
         | true =>
           rw[hm]at h;simp only[E6]at h;unfold Z7 at h;split at h
           .rename_i s1 h1;cases h;exact⟨uA _ _ _ h1,lX u _ _ _ h1⟩
           .cases h
 | .seq x y,q,f,s,k,e,h=>by
   have w:=U1 u v l x (q++[false]) (I9 f rfl);have A:=U1 u v l y (q++[true]) (I9 f rfl);have h:A3g (N9 P nt gl call lp (q++[false]) x) (N9 P nt gl call lp (q++[true]) y) s=some (e,k):=h;unfold A3g at h;split at h
   .rename_i s1 h1;have a:=w _ _ _ h1;have b:=A _ _ _ h;exact⟨C6 a.1 b.1,a.2.trans b.2⟩
   .exact w _ _ _ h
 | .cond c x y,q,f,s,k,e,h=>by
   have w:=U1 u v l x (q++[false]) (I9 f rfl);have A:=U1 u v l y (q++[true]) (I9 f rfl);unfold N9 at h;cases f:okX nt gl c with
   | false=>rw[f]at h;cases h
   | true =>
     rw[f]at h;have h:NQ (S7 c) (N9 P nt gl call lp (q++[false]) x) (N9 P nt gl call lp (q++[true]) y) s=some (e,k):=h;obtain⟨t,lg,h1,B⟩:=NP h;have C:=fU h1;obtain⟨fr,⟨H,n,W,hi,l0⟩⟩:=s;cases t with
     | true=>have a:=w _ _ _ B;exact⟨a.1,C.trans a.2⟩
     | false=>have b:=A _ _ _ B;exact⟨b.1,C.trans b.2⟩
 | .block id x,q,f,s,k,e,h=>by
   have w:=U1 u v l x (q++[false]) (I9 f rfl);have h:BN id (N9 P nt gl call lp (q++[false]) x) s=some (e,k):=h;unfold BN at h;split at h
   .rename_i j s1 h1
    have:=w _ _ _ h1;cases f:Nat.beq j id<;>rw[f]at h<;>cases h<;>exact this
   .exact w _ _ _ h
 | .loop x,q,f,s,k,e,h=>by
   have h:NO (N9 P nt gl call lp (q++[false]) x) (lp.look q) s=some (e,k):=h;unfold NO at h;split at h
   .rename_i L D;exact zW (U1 u v l x (q++[false]) (I9 f rfl)) (l.2 q x L f D).lg _ _ _ _ h
   .exact zV (U1 u v l x (q++[false]) (I9 f rfl)) _ _ _ _ h
 | .rangeFunc x _ _ _,q,f,s,k,e,h=>by
   unfold N9 at h;cases hx:okX nt gl x with
   | false=>rw[hx]at h;cases h
   | true=>rw[hx]at h;exact YA u h
 | .scope x,q,f,s,k,e,h=>U1 u v l x (q++[false]) (I9 f rfl) s k e h
 | .goto _,q,f,s,k,e,h=>by cases h
 | .refuse _,q,f,s,k,e,h=>by cases h
def U0{call:P6}{lp:LpT}{body:Code}(D:W3 P base gl call)(E:gX P base gl call)(l:RS P base gl nt body lp):∀ (c:Code) (q:List Bool),G6 q body=some c->∀ (ρ:Ren) (s f:S) (e:Ex) (a:Act) (w:World) (Q:Exit->Act->World->Prop),(N9 P nt gl call lp q c).run s=some (e,f)->Sat f.m.lg->At P base gl ρ s.m f.m.hi w->FrR z ρ nt s.fr a ->
  (∀ K a' w',FrR z K nt f.fr a'->St P base ρ K s.m f.m w w'->Q e.out a' w')->c.wpIn (fw z.rd) 0 P Q a w
 | .skip,q,C,ρ,s,f,e,a,w,Q,h,hS,b,v,A=>by have h:some (Ex.normal,s)=some (e,f):=h;cases h;exact wpIn_skip (A ρ a w v (.refl b.hr))
 | .label _,q,C,ρ,s,f,e,a,w,Q,h,hS,b,v,A=>by have h:some (Ex.normal,s)=some (e,f):=h;cases h;exact wpIn_label (A ρ a w v (.refl b.hr))
 | .exit id,q,C,ρ,s,f,e,a,w,Q,h,hS,b,v,A=>by have h:some (Ex.exit id,s)=some (e,f):=h;cases h;exact wpIn_exit (A ρ a w v (.refl b.hr))
 | .ret,q,C,ρ,s,f,e,a,w,Q,h,hS,b,v,A=>by have h:some (Ex.ret,s)=some (e,f):=h;cases h;exact wpIn_ret (A ρ a w v (.refl b.hr))
 | .region id ops d,q,C,ρ,s,f,e,a,w,Q,h,hS,b,v,A=>by
   cases d with
   | false =>
     have h:Z7 (V3 P nt gl call ops.toList ops.toList) s=some (e,f):=h;unfold Z7 at h;split at h
     .rename_i s1 h1;cases h;exact wR (GQ D _ ρ s f a w h1 hS b v A)
     .cases h
   | true =>
     unfold N9 at h;simp only at h;cases C:IG ops with
     | false=>rw[C]at h;cases h
     | true =>
       rw[C]at h;have go:Z7 ⟨s9 P nt gl call ops.toList ops.toList 0 (c8 ops.toList []) [] []⟩ s=some (e,f)->(Code.region id ops true).wpIn (fw z.rd) 0 P Q a w:=fun h=>by
        unfold Z7 at h;split at h
        .rename_i s1 h1;cases h;exact(E.2 nt ops C _ _ h1).2 z ρ a w id Q hS b v A
        .cases h
       simp only[E6]at h;cases hr:lS ops.toList with
       | false=>rw[hr]at h;exact go h
       | true =>
         rw[hr]at h;simp only[E6]at h;cases hm:mD P nt gl s.fr s.m.H ops.toList with
         | false=>rw[hm]at h;exact go h
         | true =>
           rw[hm]at h;simp only[E6]at h;unfold Z7 at h;split at h
           .rename_i s1 h1;cases h;exact PP E.1 D hr hm h1 hS b v A
           .cases h
 | .seq x y,q,C,ρ,s,f,e,a,w,Q,h,hS,b,v,A=>by
   have B:G6 (q++[false]) body=some x:=I9 C rfl;have J:G6 (q++[true]) body=some y:=I9 C rfl;have h:A3g (N9 P nt gl call lp (q++[false]) x) (N9 P nt gl call lp (q++[true]) y) s=some (e,f):=h;unfold A3g at h;split at h
   .rename_i s1 h1;have hh:=U1 D E l y _ J _ _ _ h;refine wpIn_seq (U0 D E l x _ B ρ s s1 .normal a w _ h1 (S3.le hS hh.2) (b.less hh.1) v fun u F w1 f1 k=>?_);exact U0 D E l y _ J u s1 f e F w1 Q h hS (b.step k) f1 fun ρ2 a2 w2 f2 G=>A ρ2 a2 w2 f2 (St.trans b.fr k G)
   .rename_i I;refine wpIn_seq (U0 D E l x _ B ρ s f e a w _ h hS b v fun u F w1 f1 k=>?_)
    have:=A u F w1 f1 k;cases e with
    | normal=>exact absurd h (I f)
    | exit id=>exact this
    | ret=>exact this
 | .cond c x y,q,C,ρ,s,f,e,a,w,Q,h,hS,b,v,A=>by
   have B:G6 (q++[false]) body=some x:=I9 C rfl;have J:G6 (q++[true]) body=some y:=I9 C rfl;unfold N9 at h;cases O:okX nt gl c with
   | false=>rw[O]at h;cases h
   | true =>
     rw[O]at h;have h:NQ (S7 c) (N9 P nt gl call lp (q++[false]) x) (N9 P nt gl call lp (q++[true]) y) s=some (e,f):=h;have hv:=v.ev b.gr O;obtain⟨t,lg,h1,V⟩:=NP h;rw[eU]at h1;have U:St P base ρ ρ s.m (s.m.wLg lg) w w:=St.wLg b.hr lg;cases t with
     | true =>
       have hh:=U1 D E l x _ B _ _ _ V;have X:Sat lg:=S3.le hS (by obtain⟨fr,⟨H,n,W,hi,l0⟩⟩:=s;exact hh.2);exact wpIn_cond_true (mV h1 hv X) (U0 D E l x _ B ρ ⟨s.fr,s.m.wLg lg⟩ f e a w Q V hS (b.wLg lg) v fun ρ2 a2 w2 f2 G=>A ρ2 a2 w2 f2 (St.trans b.fr U G))
     | false =>
       have hh:=U1 D E l y _ J _ _ _ V;have X:Sat lg:=S3.le hS (by obtain⟨fr,⟨H,n,W,hi,l0⟩⟩:=s;exact hh.2);exact wpIn_cond_false (mV h1 hv X) (U0 D E l y _ J ρ ⟨s.fr,s.m.wLg lg⟩ f e a w Q V hS (b.wLg lg) v fun ρ2 a2 w2 f2 G=>A ρ2 a2 w2 f2 (St.trans b.fr U G))
 | .block id x,q,C,ρ,s,f,e,a,w,Q,h,hS,b,v,A=>by
   have B:G6 (q++[false]) body=some x:=I9 C rfl;have h:BN id (N9 P nt gl call lp (q++[false]) x) s=some (e,f):=h;unfold BN at h;split at h
   .rename_i j s1 h1;cases M:Nat.beq j id with
    | true =>
      rw[M]at h;cases h;have Z:=A0 M;refine wpIn_block (U0 D E l x _ B ρ s f (.exit j) a w _ h1 hS b v fun u F w1 f1 k=>?_)
      have:=A u F w1 f1 k
      simpa [Exit.inBlock,Ex.out,Z]using this
    | false =>
      rw[M]at h;cases h;have Z:j≠id:=fun e=>by subst e;simp at M
      refine wpIn_block (U0 D E l x _ B ρ s f (.exit j) a w _ h1 hS b v fun u F w1 f1 k=>?_)
      have:=A u F w1 f1 k
      simpa [Exit.inBlock,Ex.out,Z]using this
   .rename_i I;refine wpIn_block (U0 D E l x _ B ρ s f e a w _ h hS b v fun u F w1 f1 k=>?_)
    have:=A u F w1 f1 k;cases e with
    | normal=>exact this
    | exit j=>exact absurd h (I j f)
    | ret=>exact this
 | .loop x,q,C,ρ,s,f,e,a,w,Q,h,hS,b,v,A=>by
   have B:G6 (q++[false]) body=some x:=I9 C rfl;replace h:NO (N9 P nt gl call lp (q++[false]) x) (lp.look q) s=some (e,f):=h;unfold NO at h;split at h
   .rename_i L hL;have T:=l.2 q x L C hL;have key:∀ (n:Nat) (s:S),ED (N9 P nt gl call lp (q++[false]) x) L n s=some (e,f)->∃ N,∀ (ρ:Ren) (a:Act) (w:World) (Q:Exit->Act->World->Prop),At P base gl ρ s.m f.m.hi w->FrR z ρ nt s.fr a ->
      (∀ K a' w',FrR z K nt f.fr a'->St P base ρ K s.m f.m w w'->Q e.out a' w')->Code.roundsIn (fw z.rd) 0 P x Q N a w:=by
     intro n;induction n with
     | zero=>intro s h;cases h
     | succ n Y =>
       intro s h;unfold ED at h;split at h
       .rename_i r hr;cases h;obtain⟨N,R⟩:=T.ok s f e hr hS;exact⟨N,R z⟩
       .split at h
        .rename_i s1 h1;obtain⟨N,R⟩:=Y s1 h;have hh:=zW (U1 D E l x _ B) T.lg _ _ _ _ h;refine⟨N+1,fun ρ a w Q b v A=>?_⟩;show x.wpIn (fw z.rd) 0 P (Exit.then (Code.roundsIn (fw z.rd) 0 P x Q N) Q) a w;refine U0 D E l x _ B ρ s s1 .normal a w _ h1 (S3.le hS hh.2) (b.less hh.1) v fun u F w1 f1 k=>?_
         exact R u F w1 Q (b.step k) f1 fun ρ2 a2 w2 f2 G=>A ρ2 a2 w2 f2 (St.trans b.fr k G)
        .rename_i I;refine⟨1,fun ρ a w Q b v A=>?_⟩;show x.wpIn (fw z.rd) 0 P (Exit.then (Code.roundsIn (fw z.rd) 0 P x Q 0) Q) a w;refine U0 D E l x _ B ρ s f e a w _ h hS b v fun u F w1 f1 k=>?_
         have:=A u F w1 f1 k;cases e with
         | normal=>exact absurd h (I f)
         | exit id=>exact this
         | ret=>exact this
    obtain⟨N,R⟩:=key _ s h;exact wpIn_loop_rounds N (R ρ a w Q b v A)
   obtain⟨n,h0⟩:∃ n,EC (N9 P nt gl call lp (q++[false]) x) n s=some (e,f):=⟨_,h⟩;clear h;have h:=h0;clear h0;refine wpIn_loop_rounds n ?_;induction n generalizing s ρ a w with
   | zero=>cases h
   | succ n Y =>
     unfold EC at h;show x.wpIn (fw z.rd) 0 P (Exit.then (Code.roundsIn (fw z.rd) 0 P x Q n) Q) a w;split at h
     .rename_i s1 h1;have hh:=zV (U1 D E l x _ B) _ _ _ _ h;refine U0 D E l x _ B ρ s s1 .normal a w _ h1 (S3.le hS hh.2) (b.less hh.1) v fun u F w1 f1 k=>?_
      exact Y u s1 F w1 (b.step k) f1 (fun ρ2 a2 w2 f2 G=>A ρ2 a2 w2 f2 (St.trans b.fr k G)) h
     .rename_i I;refine U0 D E l x _ B ρ s f e a w _ h hS b v fun u F w1 f1 k=>?_
      have:=A u F w1 f1 k;cases e with
      | normal=>exact absurd h (I f)
      | exit id=>exact this
      | ret=>exact this
 | .rangeFunc x ps as bd,q,C,ρ,s,f,e,a,w,Q,h,hS,b,v,A=>by
   unfold N9 at h;cases hx:okX nt gl x with
   | false=>rw[hx]at h;cases h
   | true =>
     rw[hx]at h;obtain⟨fn,f1,f2,f3⟩:=l.1;exact A07 D f1 f2 f3 C hx h hS b v A
 | .scope x,q,C,ρ,s,f,e,a,w,Q,h,hS,b,v,A=>OJ (U0 D E l x _ (I9 C rfl) ρ s f e a w _ h hS b v fun u F w1 f1 k=>by cases e<;>exact A u F w1 f1 k)
 | .goto _,q,C,ρ,s,f,e,a,w,Q,h,hS,b,v,A=>by cases h
 | .refuse _,q,C,ρ,s,f,e,a,w,Q,h,hS,b,v,A=>by cases h
end
end
section
open Go
variable [Ora]
def uI{c:Hp AB}:∀ (l:List Nat) (H:Hp AB),(∀ b ∈ l,b<=I4)->∀ id,id<=I4->Hp.get (fK c H l) id=if id ∈ l then Hp.get c id else Hp.get H id
 | [],H,_,id,_=>by simp[fK]
 | b::r,H,hl,id,hid=>by
   have e:=hl b B4;rw[fK,fD,uI r _ (fun x hx=>hl x (C4 _ hx)) id hid,F2 _ _ _ _ e hid];by_cases h1:id ∈ r
   .rw[A8 h1,A8 (C4 _ h1)]
   .rw[A6 h1];by_cases a:id=b
    .subst a;rw[A8 rfl,A8 B4]
    .rw[A6 a,A6 (by simp[h1,a])]
theorem X3{l:H9}{b:Nat}:aP l b=true↔b ∈ l:=by
 unfold aP;rw[O2];constructor
 .rintro⟨x,hx,h⟩;rw[A0 h];exact hx
 .intro h;exact⟨b,h,by simp⟩
def uD:∀ (l acc:List Nat) (b:Nat),b ∈ pA l acc↔b ∈ l∨b ∈ acc
 | [],acc,b=>by simp[pA]
 | x::r,acc,b=>by
   unfold pA;cases h:aP acc x with
   | true =>
     have hx:=X3.1 h;simp only[E6];rw[uD r acc b];constructor
     .rintro(h|h)
      .exact .inl (C4 _ h)
      .exact .inr h
     .rintro(h|h)
      .rcases B3.1 h with rfl|h
       .exact .inr hx
       .exact .inl h
      .exact .inr h
   | false =>
     simp only[E0];rw[uD r (x::acc) b];simp only[B3];constructor
     .rintro(h|h|h)
      .exact .inl (.inr h)
      .exact .inl (.inl h)
      .exact .inr h
     .rintro((h|h)|h)
      .exact .inr (.inl h)
      .exact .inl h
      .exact .inr (.inr h)
def vA{l:H9}(h:IU l=true):∀ b ∈ l,b<=I4:=fun b a=>A1 (D5.1 h b a)
section
variable {P:Program} {base gl nt:Nat}
def HB{ρ y:Ren}{n:Nat}(f:∀ b l,b<n->y b=some l->ρ b=some l){v v':Value}(h:VR y v v'):∀ (d:Nat),l6 n d v=true->VR ρ v v':=by
 have A:∀ (low:Value->Bool) (a:List Value),oP low a=true->∀ (i:Nat) (v:Value),a[i]? = some v->low v=true:=fun low a=>by
  induction a with
  | nil=>intro _ i v h;simp at h
  | cons x r t =>
    intro h i v hi;obtain⟨h1,m⟩:=B8 (show(low x && oP low r)=true from h);cases i with
    | zero=>simp at hi;subst hi;exact h1
    | succ i=>exact t m i v (by simpa using hi)
 induction h with
 | pure h=>intro d _;exact .pure h
 | hole h H=>intro d _;exact .hole h H
 | junk h=>intro d _;exact .junk h
 | ixp h B hi J hv =>
   intro d e;cases d with
   | zero=>cases e
   | succ d =>
     obtain⟨g1,_⟩:=B8 e;obtain⟨g1,_⟩:=B8 (show(l6 n d _ && _)=true from g1);cases d with
     | zero=>cases g1
     | succ d=>exact .ixp (f _ _ (A1 g1) h) B hi J hv
 | dat h h1 m h3 E =>
   intro d e;cases d with
   | zero=>cases e
   | succ d =>
     obtain⟨g1,_⟩:=B8 e;obtain⟨g1,_⟩:=B8 (show(l6 n d _ && _)=true from g1);cases d with
     | zero=>cases g1
     | succ d=>exact .dat (f _ _ (A1 g1) h) h1 m h3 E
 | clp h h1 m h3 E K =>
   intro d e;cases d with
   | zero=>cases e
   | succ d =>
     obtain⟨g1,_⟩:=B8 e;obtain⟨g1,_⟩:=B8 (show(l6 n d _ && _)=true from g1);cases d with
     | zero=>cases g1
     | succ d=>exact .clp (f _ _ (A1 g1) h) h1 m h3 E K
 | own h h1 m =>
   intro d e;cases d with
   | zero=>cases e
   | succ d =>
     obtain⟨g1,_⟩:=B8 e;obtain⟨g1,_⟩:=B8 (show(l6 n d _ && _)=true from g1);cases d with
     | zero=>cases g1
     | succ d=>exact .own (h.imp (fun⟨l,w,a,b⟩=>⟨l,w,f _ _ (A1 g1) a,b⟩) fun⟨l,w,rows,a,b⟩=>⟨l,w,rows,f _ _ (A1 g1) a,b⟩) h1 m
 | dpt h h1 m =>
   intro d e;cases d with
   | zero=>cases e
   | succ d =>
     obtain⟨g1,_⟩:=B8 e;obtain⟨g1,_⟩:=B8 (show(l6 n d _ && _)=true from g1);cases d with
     | zero=>cases g1
     | succ d=>exact .dpt (let ⟨l,w,rows,a,s,c,k,h0,r⟩:=h;⟨l,w,rows,a,s,c,k,f _ _ (A1 g1) h0,r⟩) h1 m
 | opt h h1 m =>
   intro d e;cases d with
   | zero=>cases e
   | succ d =>
     obtain⟨g1,_⟩:=B8 e;obtain⟨g1,_⟩:=B8 (show(l6 n d _ && _)=true from g1);cases d with
     | zero=>cases g1
     | succ d=>exact .opt (let ⟨l,w,rows,k,h0,r⟩:=h;⟨l,w,rows,k,f _ _ (A1 g1) h0,r⟩) h1 m
 | ptr h=>intro d e;cases d with|zero=>cases e|succ d=>exact .ptr (f _ _ (A1 e) h)
 | sl h hm=>intro d e;cases d with|zero=>cases e|succ d=>exact .sl (f _ _ (A1 e) h) hm
 | op h hm F I=>intro d e;cases d with|zero=>cases e|succ d=>exact .op (f _ _ (A1 e) h) hm F I
 | opE B=>intro d _;exact .opE B
 | map h=>intro d e;cases d with|zero=>cases e|succ d=>exact .map (f _ _ (A1 e) h)
 | sdt h =>
   intro d e;cases d with
   | zero=>cases e
   | succ d =>
     obtain⟨g1,_⟩:=B8 e;obtain⟨g1,_⟩:=B8 (show(l6 n d _ && _)=true from g1);cases d with
     | zero=>cases g1
     | succ d=>exact .sdt (let ⟨l,a,b⟩:=h;⟨l,f _ _ (A1 g1) a,b⟩)
 | yv h =>
   intro d e;cases d with
   | zero=>cases e
   | succ d =>
     obtain⟨g1,_⟩:=B8 e;obtain⟨g1,_⟩:=B8 (show(l6 n d _ && _)=true from g1);cases d with
     | zero=>cases g1
     | succ d=>exact .yv (f _ _ (A1 g1) h)
 | func u G h1 m C D =>
   intro d e;cases d with
   | zero=>cases e
   | succ d =>
     obtain⟨g1,g2⟩:=B8 e;exact .func u G (fun i v v' a b=>C i v v' a b d (A _ _ g1 i v a)) (fun i v v' a b=>D i v v' a b d (A _ _ g2 i v a))
 | iface h t=>intro d e;cases d with|zero=>cases e|succ d=>exact .iface (t d e)
 | agg u h t=>intro d e;cases d with|zero=>cases e|succ d=>exact .agg u (fun i v v' a b=>t i v v' a b d (A _ _ e i v a))
 | tuple u h t=>intro d e;cases d with|zero=>cases e|succ d=>exact .tuple u (fun i v v' a b=>t i v v' a b d (A _ _ e i v a))
def A9t{ρ y:Ren}{n:Nat}(B:∀ b l,b<n->y b=some l->ρ b=some l){ab:AB}{l:Loc}{w:World}(h:BR P y ab l w)(a:A45 n (some ab)=true):BR P ρ ab l w:=by
 cases ab with
 | cells cs T ro =>
   obtain⟨h0,C,fz,D,h1,k,h3⟩:=h;refine⟨h0,C,fz,D,h1,fun i v hi=>?_,h3⟩;obtain⟨v',g1,g2⟩:=k i v hi;have hv:l6 n 10 v=true:=by
    have e:oP (l6 n 10) cs=true:=a;clear k g1 g2 a;induction cs generalizing i with
    | nil=>simp at hi
    | cons x r m =>
      obtain⟨A,u⟩:=B8 (show(l6 n 10 x && oP (l6 n 10) r)=true from e);cases i with
      | zero=>simp at hi;subst hi;exact A
      | succ i=>exact m i (by simpa using hi) u
   exact⟨v',g1,HB B g2 10 hv⟩
 | mp c t T=>exact h
 | iter vs =>
   obtain⟨h0,s,H,h1,k⟩:=h;refine⟨h0,s,H,h1,k.1,fun i v v' g1 g2=>?_⟩;have hv:l6 n 10 v=true:=by
    have e:oP (l6 n 10) vs=true:=a;clear k g2 a;induction vs generalizing i with
    | nil=>simp at g1
    | cons x r m =>
      obtain⟨A,u⟩:=B8 (show(l6 n 10 x && oP (l6 n 10) r)=true from e);cases i with
      | zero=>simp at g1;subst g1;exact A
      | succ i=>exact m i (by simpa using g1) u
   exact HB B (k.2 i v v' g1 g2) 10 hv
 | lp f q vs st =>
   obtain⟨h0,r,h1,k⟩:=h;refine⟨h0,r,h1,k.code,⟨k.fr.1,fun i v v' g1 g2=>?_⟩,k.st⟩;have hv:l6 n 10 v=true:=by
    have e:oP (l6 n 10) vs=true:=a;clear k g2 a;induction vs generalizing i with
    | nil=>simp at g1
    | cons x r m =>
      obtain⟨A,u⟩:=B8 (show(l6 n 10 x && oP (l6 n 10) r)=true from e);cases i with
      | zero=>simp at g1;subst g1;exact A
      | succ i=>exact m i (by simpa using g1) u
   exact HB B (k.fr.2 i v v' g1 g2) 10 hv
 | dfr b=>exact h
 | sq c t T g ro =>
   obtain⟨wd,inf,h1,k,h3,F⟩:=SqR.ex h;refine⟨⟨wd,inf,h1,k,h3,F.imp (fun x=>x) fun⟨E,G⟩=>⟨E,?_⟩⟩⟩;obtain⟨C,fz,D,rows,lg,h1,k,h3,F,G,I,K,L,J⟩:=G;exact⟨C,fz,D,rows,lg,h1,k,h3,F,G,I,B _ _ (A1 a) K,L,J⟩
 | frz=>exact h
def LU{n:Nat}{H:Hp AB}:∀ {l:H9},QJ n H l=true->∀ b ∈ l,A45 n (Hp.get H b)=true
 | [],_,b,h=>by cases h
 | x::r,h,b,a=>by
   obtain⟨h1,c⟩:=B8 (show(A45 n (Hp.get H x) && QJ n H r)=true from h);rcases B3.1 a with rfl|a
   .exact h1
   .exact LU c b a
def B2O{ρ J:Ren}{m m1 m':Mem}{w w1:World}{v v':Value}(C:gcM m m1 v=some m')(st:St P base ρ J ⟨m.H,m.n,[],m.hi,m.lg⟩ m1 w w1)(A:At P base gl ρ m m'.hi w)(hv:VR J v v') :
  m'.hi=m1.hi/\∃ ρ2,VR ρ2 v v'/\St P base ρ ρ2 m m' w w1:=by
 have ax:m1.n<=m1.hi:=st.nhi A.nh;have hle:m.hi<=m1.hi:=st.hle;have e:∀ b,b ∈ pA (m1.W.filter fun b=>Nat.blt b m.n || Nat.ble m1.hi b) []↔b ∈ m1.W/\(b<m.n∨m1.hi<=b):=fun b=>by
  rw[uD];simp only[P9,K5,or_false,J4];constructor
  .rintro⟨h1,f⟩;exact⟨h1,f.imp (fun h=>A1 h) (fun h=>A1 h)⟩
  .rintro⟨h1,f⟩;exact⟨h1,f.imp (fun h=>C7 h) (fun h=>C7 h)⟩
 unfold gcM at C;generalize hW:pA (m1.W.filter fun b=>Nat.blt b m.n || Nat.ble m1.hi b) []=W at C e;simp only[E9,I8,eT]at C;have hold:m1.hi=m'.hi->∀ b l,ρ b=some l->b<m.n∨m1.hi<=b:=fun he b l y=>by
  rcases G0 b m.n with h1|h1
  .exact .inl h1
  .rcases G0 b m1.hi with f|f
   .rw[A.fr b h1 (he▸f)]at y;cases y
   .exact .inr f
 have F:m1.hi=m'.hi->∀ id,id<=I4->id ∉ W->∀ ab,Hp.get m.H id=some ab->id ∉ m1.W/\Hp.get m1.H id=some ab:=fun he id hid X ab c=>by
  obtain⟨l,h1,_,_⟩:=A.hr.at_ id hid ab c;have G:=hold he id l h1;have f:id ∉ m1.W:=fun h=>X ((e id).2 ⟨h,G⟩)
  exact⟨f,by rw[st.same id hid f G];exact c⟩
 have D:∀ b ∈ W,∀ l,ρ b=some l->∃ ab,Hp.get m.H b=some ab/\ab.rw=true:=fun b y l t=>st.wrw b ((e b).1 y).1 (by simp) l t
 cases K:l6 m.n 10 v && QJ m.n m1.H W with
 | true =>
   rw[K]at C;simp only[E6]at C;obtain⟨u,C⟩:=A3 C;cases C;obtain⟨q1,q2⟩:=B8 K;have u:=vA u;have G:∀ b l,b<m.n->J b=some l->ρ b=some l:=fun b l y t=>by
    cases h0:ρ b with
    | some l0=>rw[st.ext b l0 h0]at t;exact t
    | none=>have h:=(st.new b l t h0).1;exact absurd y (Nat.not_lt.2 h)
   have s:∀ id,id<=I4->Hp.get (fK m1.H m.H W) id=if id ∈ W then Hp.get m1.H id else Hp.get m.H id:=fun id hid=>uI W _ u id hid
   have E:∀ id,id<=I4->∀ ab,Hp.get (fK m1.H m.H W) id=some ab->Hp.get m1.H id=some ab:=fun id hid ab c=>by
    rw[s id hid]at c;by_cases h:id ∈ W
    .rw[A8 h]at c;exact c
    .rw[A6 h]at c;exact(F rfl id hid h ab c).2
   have Y:=st.hr.sub E;have ay:∀ id,id<=I4->∀ ab,Hp.get (fK m1.H m.H W) id=some ab->∀ l,J id=some l->ρ id=some l:=fun id hid ab c l t=>by
    cases h0:ρ id with
    | some l0=>rw[st.ext id l0 h0]at t;exact t
    | none =>
      exfalso;have hn:=st.new id l t h0;rw[s id hid]at c;by_cases h:id ∈ W
      .have:=((e id).1 h).2;have h1:m.n<=id:=hn.1;have f:=hn.2;omega
      .rw[A6 h]at c;obtain⟨l0,h1,_⟩:=A.hr.at_ id hid ab c;rw[h1]at h0;cases h0
   refine⟨rfl,ρ,HB G hv 10 q1,⟨fun _ _ h=>h,fun b k h1 f=>(by rw[h1]at f;cases f),A7 _,hle,fun h=>C6 h hle,⟨A.hr.dom,fun id hid ab c=>?_⟩,fun b y=>B6.2 (.inr y),fun b h1 f l t=>?_,fun k N y=>?_,st.size,st.os,fun b k h1 f=>(by rw[h1]at f;cases f),fun id hid h1 f=>?_,fun k ⟨id,a,q,hid,B,K,R⟩=>?_⟩⟩
   .obtain⟨l,g1,g2,g3⟩:=Y.at_ id hid ab c;have t:=ay id hid ab c l g1;refine⟨l,t,?_,fun O U=>⟨(g3 O U).1,fun av T Z l2 f1 f2 f3=>(g3 O U).2 av T Z l2 f1 (st.ext _ _ f2) f3⟩⟩;have au:=c;rw[s id hid]at c;by_cases h:id ∈ W
    .rw[A8 h]at c
     have:=LU q2 id h;rw[c]at this;exact A9t G g2 this
    .rw[A6 h]at c;obtain⟨l0,V,e2,e3⟩:=A.hr.at_ id hid ab c;rw[t]at V
     have:=A9 V;subst this;refine e2.mono (fun _ _ h=>h) (fun k N=>st.keep k (e2.tc N) fun b y lb L az heq=>?_);have Q:b ∈ W:=(e b).2 ⟨y,hold rfl b lb L⟩;obtain⟨ar,c1,c2⟩:=D b Q lb L
     have:=((A.hr.atl L c1).2 c2 az).2 id hid ab l c t (heq▸N);subst this;exact h Q
   .rcases B6.1 h1 with h|h
    .exact D b h l t
    .exact absurd h f
   .exact st.keep k N fun b M l t G=>y b (B6.2 (.inl ((e b).2 ⟨M,hold rfl b l t⟩))) l t G
   .show Hp.get (fK m1.H m.H W) id=_;rw[s id hid,A6 (fun h=>h1 (B6.2 (.inl h)))]
   .have B:Hp.get (fK m1.H m.H W) id=some a:=B;rw[s id hid]at B;by_cases h:id ∈ W
    .rw[A8 h]at B;exact st.tch k ⟨id,a,q,hid,B,st.ext _ _ K,R⟩
    .rw[A6 h]at B;exact .inr ⟨id,a,q,hid,B,K,R⟩
 | false =>
   rw[K]at C;simp only[E0]at C;generalize hI:(KT m.n m1.H 100000 (CQ 10 v++wOf m1.H W) []).filter (fun b=>Nat.ble m.n b && Nat.blt b m1.hi)=I at C;have aw:∀ b ∈ I,m.n<=b/\b<m1.hi:=fun b y=>by
    subst hI;obtain⟨_,h⟩:=P9.1 y;obtain⟨h1,f⟩:=B8 h;exact⟨A1 h1,A1 f⟩
   obtain⟨u,C⟩:=A3 C;cases C;have u:=vA u;have s:∀ id,id<=I4->Hp.get (fK m1.H m.H (W++I)) id=if id ∈ W++I then Hp.get m1.H id else Hp.get m.H id:=fun id hid=>uI _ _ u id hid
   have E:∀ id,id<=I4->∀ ab,Hp.get (fK m1.H m.H (W++I)) id=some ab->Hp.get m1.H id=some ab:=fun id hid ab c=>by
    rw[s id hid]at c;by_cases h:id ∈ W++I
    .rw[A8 h]at c;exact c
    .rw[A6 h]at c;exact(F rfl id hid (fun hh=>h (B6.2 (.inl hh))) ab c).2
   refine⟨rfl,J,hv,⟨st.ext,st.new,st.nle,hle,fun _=>ax,st.hr.sub E,fun b y=>B6.2 (.inr y),fun b h1 f l t=>?_,fun k N y=>?_,st.size,st.os,fun b l h1 f G=>?_,fun id hid h1 f=>?_,fun k ⟨id,a,q,hid,B,K,R⟩=>?_⟩⟩
   .rcases B6.1 h1 with h|h
    .exact D b h l t
    .exact absurd h f
   .exact st.keep k N fun b M l t G=>y b (B6.2 (.inl ((e b).2 ⟨M,hold rfl b l t⟩))) l t G
   .rcases st.blk b l h1 f G with h|⟨b0,h3,l0,h4,h5⟩
    .exact .inl h
    .exact .inr ⟨b0,B6.2 (.inl ((e b0).2 ⟨h3,hold rfl b0 l0 h4⟩)),l0,h4,h5⟩
   .show Hp.get (fK m1.H m.H (W++I)) id=_;rw[s id hid,A6];intro h;rcases B6.1 h with h|h
    .exact h1 (B6.2 (.inl h))
    .have:=aw id h;have f:id<m.n∨m1.hi<=id:=f;omega
   .have B:Hp.get (fK m1.H m.H (W++I)) id=some a:=B;rw[s id hid]at B;by_cases h:id ∈ W++I
    .rw[A8 h]at B;exact st.tch k ⟨id,a,q,hid,B,K,R⟩
    .rw[A6 h]at B;obtain⟨l0,V,_⟩:=A.hr.at_ id hid a B;rw[st.ext _ _ V]at K
     have:=A9 K;subst this;exact .inr ⟨id,a,l0,hid,B,V,R⟩
def iY:∀ (vs:List Value) (fr:Fr) (i t:Nat),i+vs.length<=512->t<512->(fV fr i vs).get t=if i<=t/\t<i+vs.length then vs.getD (t-i) undef else fr.get t
 | [],fr,i,t,_,_=>by simp[fV];intro h1 a;omega
 | v::r,fr,i,t,h,ht=>by
   simp only[C8]at h ⊢;rw[fV,yW,iY r _ (i+1) t A2 ht,M6 _ _ _ _ A2 ht];by_cases h1:i+1<=t/\t<i+1+r.length
   .rw[A8 h1,A8 A2,show t-i=(t-(i+1))+1 by omega];rfl
   .rw[A6 h1];by_cases a:t=i
    .subst a;rw[A8 rfl,A8 A2,kF];rfl
    .rw[A6 a,A6 A2]
def WW(tmps:Array Value):ResultVar->Sem Value
 | .tmp t=>pure (tmps.getD t undef)
 | .cell a t=>do loadVar t (<- asAddr (tmps.getD a undef))
variable {z:Zn}
def SW{ρ:Ren}{s:S}{a:Act}{w:World}(h:HR P base ρ s.m.H w)(A:FrR z ρ nt s.fr a):∀ (rs:List ResultVar) (vs:List Value),WY P nt s rs=some vs->∃ b,LR ρ vs b /\
  (rs.mapM (WW a.tmps)).run P w=.ok b w
 | [],vs,hr=>by
   simp only[WY,D6]at hr;subst hr;exact⟨[],.nil,rfl⟩
 | r::rs,vs,hr=>by
   unfold WY at hr;split at hr
   .rename_i v u h1 E;cases hr;obtain⟨b,g1,g2⟩:=SW h A rs u E;have k:∃ v',VR ρ v v'/\(WW a.tmps r).run P w=.ok v' w:=by
     unfold B1H at h1;split at h1
     .rename_i t;obtain⟨B,f⟩:=A3 h1;cases f;exact⟨_,A.get t (A1 B),rfl⟩
     .rename_i c t;obtain⟨B,f⟩:=A3 h1;have hv:=A.get c (A1 B);split at f
      .rename_i F C;rw[C]at hv;obtain⟨l,D,_,e⟩:=P3 hv;obtain⟨v',y,n⟩:=LX h f D;exact⟨v',n,by simp[WW,e,asAddr,y]⟩
      .cases f
    obtain⟨v',y,n⟩:=k;refine⟨v'::b,.cons y g1,?_⟩;simp only[List.mapM_cons,A4,n,g2,Result.andThen,Sem.run_pure]
   .cases hr
def A4f{ρ:Ren}{fn:Func}{s:S}{a:Act}{w:World}{v:Value}(h:HR P base ρ s.m.H w)(y:FrR z ρ fn.ntmps s.fr a)(hr:WX fn P s=some v):∃ v',VR ρ v v'/\(results fn a.tmps).run P w=.ok v' w:=by
 unfold WX at hr;have key:∀ vs,WY P fn.ntmps s fn.results.toList=some vs->∃ b,LR ρ vs b/\(results fn a.tmps).run P w=.ok (if h:b.toArray.size=1 then b.toArray[0]else .tuple b.toArray) w:=fun vs e=>by
  obtain⟨b,g1,g2⟩:=SW h y _ vs e;refine⟨b,g1,?_⟩;have he:results fn a.tmps=(do let vs <- fn.results.mapM (WW a.tmps);pure (if h:vs.size=1 then vs[0]else .tuple vs)):=by
   unfold results;rfl
  have hm:(fn.results.mapM (WW a.tmps)).run P w=.ok b.toArray w:=by
   rw[gD];show(Sem.bind (fn.results.toList.mapM (WW a.tmps)) fun l=>Sem.pure l.toArray).run P w=_;have t:∀ (x:Sem D3) (k:D3->Sem X4),(Sem.bind x k).run P w=(x >>= k).run P w:=fun _ _=>rfl
   rw[t,A4,g2];rfl
  rw[he,A4,hm];rfl
 split at hr
 .rename_i u c;cases hr;obtain⟨b,g1,g2⟩:=key _ c;obtain⟨v',A,rfl,g3,g4⟩:=g1.tail;cases g4.nil_inv;exact⟨v',g3,g2⟩
 .rename_i vs f c;cases hr;obtain⟨b,g1,g2⟩:=key _ c;refine⟨.tuple ⟨b⟩,.tuple g1.1 g1.2,?_⟩;rw[g2,dif_neg];intro h1;have h1:b.length=1:=by simpa using h1
  have n:vs.length=1:=by rw[g1.1];exact h1
  obtain⟨x,rfl⟩:=List.length_eq_one_iff.1 n;exact f x rfl
 .cases hr
def IZ(P:Program):Prop:=∀ (f:Nat) (fn:Func),P.funcs[f]? = some fn->(fn.name == "runtime.NumGoroutine")=false
def A2o{m m1 m':Mem}{v:Value}(a:gcM m m1 v=some m'):m'.lg=m1.lg:=by
 unfold gcM at a;simp only[E9,I8,eT]at a;cases c:l6 m.n 10 v && QJ m.n m1.H (pA (m1.W.filter fun b=>Nat.blt b m.n || Nat.ble m1.hi b) [])with
 | true=>rw[c]at a;obtain⟨_,q⟩:=A3 a;cases q;rfl
 | false=>rw[c]at a;obtain⟨_,q⟩:=A3 a;cases q;rfl
def yN:∀ {l:H9} {m m':Mem},qT l m=some m'->m'.hi=m.hi/\m'.n=m.n/\m'.lg=m.lg
 | [],m,m',h=>by cases h;exact⟨rfl,rfl,rfl⟩
 | b::r,m,m',h=>by
   unfold qT at h;split at h
   .split at h
    .rename_i m1 hm;obtain⟨_,e⟩:=V1 hm;obtain⟨h1,a,h3⟩:=yN h;subst e;exact⟨h1,a,h3⟩
    .cases h
   .cases h
def VI{fn:Func}{m m':Mem}{v:Value}(h:B0R fn P m r=some (v,m')):∃ e s m1,r=some (e,s)/\(e=.normal∨e=.ret)/\qT (dvG fn.ntmps s.fr) s.m=some m1/\WX fn P ⟨s.fr,m1⟩=some v/\gcM m m1 v=some m':=by
 have key:∀ (fr:Fr) (m0:Mem),(match qT (dvG fn.ntmps fr) m0 with
  | some m1=>match WX fn P ⟨fr,m1⟩with
    | some v=>match gcM m m1 v with
      | some m=>some (v,m)
      | none=>none
    | none=>none
  | none=>none)=some (v,m')->∃ m1,qT (dvG fn.ntmps fr) m0=some m1/\WX fn P ⟨fr,m1⟩=some v/\gcM m m1 v=some m':=fun fr m0 h=>by
  split at h
  .rename_i m1 h1;split at h
   .rename_i u f;split at h
    .rename_i m2 h3;cases h;exact⟨m1,h1,f,h3⟩
    .cases h
   .cases h
  .cases h
 unfold B0R at h;split at h
 .rename_i fr m1;obtain⟨m2,a,b,c⟩:=key _ _ h;exact⟨_,_,m2,rfl,.inl rfl,a,b,c⟩
 .rename_i fr m1;obtain⟨m2,a,b,c⟩:=key _ _ h;exact⟨_,_,m2,rfl,.inr rfl,a,b,c⟩
 .cases h
structure kC (P:Program) (base gl nt:Nat) (c:Code) (L:S->Option (Ex×S)):Prop where
 lg:∀ (s s':S) (e:Ex),L s=some (e,s')->s.m.hi<=s'.m.hi/\s.m.lg.le s'.m.lg
 ok:∀ (s s':S) (e:Ex),L s=some (e,s')->Sat s'.m.lg->∀ (z:Zn) (ρ:Ren) (a:Act) (w:World) (Q:Exit->Act->World->Prop),At P base gl ρ s.m s'.m.hi w->FrR z ρ nt s.fr a ->
  (∀ a' w',Q Ex.ret.out a' w'->Q Ex.normal.out a' w')->(∀ ρ' a' w',FrR z ρ' nt s'.fr a'->St P base ρ ρ' s.m s'.m w w'->Q e.out a' w')->c.wpIn (fw z.rd) 0 P Q a w
def kC.or{nt:Nat}{c:Code}{a b:S->Option (Ex×S)}(l:kC P base gl nt c a)(f:kC P base gl nt c b):kC P base gl nt c (orL a b):=by
 refine⟨fun s m e h=>?_,fun s m e h k=>?_⟩
 .unfold orL at h;split at h
  .rename_i r hr;cases h;exact l.lg _ _ _ hr
  .exact f.lg _ _ _ h
 .unfold orL at h;split at h
  .rename_i r hr;cases h;exact l.ok _ _ _ hr k
  .exact f.ok _ _ _ h k
def kC.code{nt:Nat}{c:Code}{call:P6}(k:W3 P base gl call)(l:gX P base gl call){lp:LpT}(b:RS P base gl nt c lp):kC P base gl nt c (N9 P nt gl call lp [] c).run :=
 ⟨fun _ _ _ h=>U1 k l b c [] rfl _ _ _ h,fun s m e h n z ρ a w Q f t _ u=>U0 (z:=z) k l b c [] rfl ρ s m e a w Q h n f t u⟩
def A5q{fn:Func}{c:Code}{L:gY}(k:kC P base gl fn.ntmps c L.run){vs:D3}{m m':Mem}{v:Value}
  (hr:BQ fn P L vs m=some (v,m')):m.lg.le m'.lg:=by
 unfold BQ at hr;obtain⟨_,hr⟩:=A3 hr;obtain⟨e,s,m1,h1,_,b,h3,l⟩:=VI hr;have a:PC L (fV fr0 0 vs) m=L.run ⟨fV fr0 0 vs,⟨m.H,m.n,[],m.hi,m.lg⟩⟩:=rfl;rw[a]at h1;have f:=(k.lg _ _ _ h1).2;rw[A2o l,(yN b).2.2];exact f
def EF{fn:Func}{tmps:X4}{R:Ending->World->Prop}{ρ:Ren}{hi:Nat}:∀ (ids:List Nat) (ds:List Deferred) (m md:Mem) (w:World),qT ids m=some md->DfR ρ ids ds->HR P base ρ m.H w->K7 ρ m.n md.hi ->
  (∀ w',St P base ρ ρ m md w w'->∃ v,(results fn tmps).run P w'=.ok v w'/\R (.returned v) w')->LeavesInM (fw none) 0 P fn tmps R ds .returning w
 | [],ds,m,md,w,h,hd,hr,hf,hR=>by
   cases h;have:ds=[]:=G2.1 hd.1.symm;subst this;exact hR w (.refl hr)
 | b::r,[],m,md,w,h,hd,hr,hf,hR=>by have:=hd.1;simp at this
 | b::r,d::ds,m,md,w,h,hd,hr,hf,hR=>by
   unfold qT at h;split at h
   .rename_i u;split at h
    .rename_i m1 hm;obtain⟨l,k,e⟩:=hd.2 0 b d rfl rfl;obtain⟨⟨⟨s,F⟩,x,t,A⟩,_⟩:=hr.atl k u
     have:=A rfl;subst this;obtain⟨E,D,B⟩:=jL (o:=.deferred none) (D0.1 t).1;have c:St P base ρ ρ m m1 w (w.putObj l.blk (.deferred none)):=St.write hr hm u rfl k s ⟨rfl,rfl,rfl⟩ E B ⟨⟨s,F⟩,_,D,fun h=>by cases h⟩;obtain⟨G,y⟩:=V1 hm;have C:m1.n=m.n:=by rw[y]
     refine⟨(by intro h;cases h),.inl ⟨l.blk,_,by rw[e];rfl,run_takeDeferred t,?_⟩⟩;exact EF (hi:=hi) r ds m1 md _ h ⟨by have:=hd.1;simpa using this,fun i id d a b=>hd.2 (i+1) id d (by simpa using a) (by simpa using b)⟩ c.hr (by rw[C];exact hf) fun w' f=>hR w' (St.trans hf c f)
    .cases h
   .cases h
def A3i{f:FuncId}{fn:Func}{c:Code}{L:gY}(hf:P.funcs[f]? = some fn)(B:fn.body=some c)(V:(fn.name == "runtime.NumGoroutine")=false)(hL:kC P base gl fn.ntmps c L.run) :
  nD P base gl f ⟨BQ fn P L⟩:=by
 refine⟨fun vs m m' v hr=>A5q hL hr,?_⟩;intro ρ m m' w vs k v hr hS l hl;have hr:BQ fn P L vs m=some (v,m'):=hr;unfold BQ at hr;obtain⟨h1,hr⟩:=A3 hr;obtain⟨h1,O⟩:=B8 h1;have h1:=A1 h1;have O:=A1 O;left;constructor
 .have hn:fn.name ≠ "runtime.NumGoroutine":=by simpa using V
  simp[callFunc,hf,hn,B]
 .obtain⟨e,s,m1,A,he,K,G,a⟩:=VI hr;have X:PC L (fV fr0 0 vs) m=L.run ⟨fV fr0 0 vs,⟨m.H,m.n,[],m.hi,m.lg⟩⟩:=rfl;rw[X]at A;have J:∀ t,vs.length<=t->t<512->(fV fr0 0 vs).get t=undef:=fun t k1 k2=>by
   rw[iY _ _ _ _ A2 k2,A6 A2,HS]
  have Z:FrR ⟨none,[]⟩ ρ fn.ntmps (fV fr0 0 vs) { tmps:=⟨k⟩++Array.replicate (fn.ntmps-(Array.mk k).size) undef,defers:=[] }:=by
   have hlen:=hl.1;refine⟨by simp;omega,O,⟨[],rfl,?_⟩,fun hn=>⟨fun _=>rfl,fun b B=>?_⟩,fun t ht=>?_⟩
   .unfold dvG;cases N:Nat.ble fn.ntmps 510 with
    | true =>
      have:=A1 N;rw[J 510 A2 E3];exact .nil
    | false=>exact .nil
   .rw[J 511 A2 E3]at B;cases B
   .rw[iY _ _ _ _ A2 A2];by_cases D:t<vs.length
    .rw[A8 A2];have u:t<k.length:=A2
     have:=hl.2 t vs[t] k[t] (A5 D) (A5 u)
     simpa [B9,Array.getElem?_append,D,u,B2]using this
    .rw[A6 A2,HS];have u:¬ t<k.length:=A2;have:(({ toList:=k }:Array Value)++Array.replicate (fn.ntmps-(Array.mk k).size) undef).getD t undef=undef:=by
      simp[B9,Array.getElem?_append,u,iC];split<;>rfl
     rw[this];exact qN ρ
  have R:m1.hi=m'.hi:=by
   have a:=a;unfold gcM at a;simp only[E9,I8,eT]at a;cases N:l6 m.n 10 v && QJ m.n m1.H (pA (m1.W.filter fun b=>Nat.blt b m.n || Nat.ble m1.hi b) [])with
   | true=>rw[N]at a;obtain⟨_,q⟩:=A3 a;cases q;rfl
   | false=>rw[N]at a;obtain⟨_,q⟩:=A3 a;cases q;rfl
  obtain⟨t1,t2,t3⟩:=yN K;have y:At P base gl ρ ⟨m.H,m.n,[],m.hi,m.lg⟩ s.m.hi w:=⟨l.hr,l.bs,fun b q1 q2=>l.fr b q1 (by rw[<- R,t1];exact q2),l.gr,l.nh,fun b B=>(by cases B),l.gf⟩;have Q:Sat s.m.lg:=by rw[<- t3,<- A2o a];exact hS
  refine qA.1 (callsIn_of_wp_marks (F:=fw none) (n:=0) hf B trivial ?_ rfl);refine hL.ok _ s e A Q ⟨none,[]⟩ ρ _ w _ y Z (fun _ _ h=>h) fun Y T w1 f1 C=>?_
  obtain⟨ds,d1,d2⟩:=f1.df;have d1:T.defers=ds:=by rw[d1];simp
  have M:LeavesInM (fw none) 0 P fn T.tmps (A3x P base ρ m m' w v) T.defers .returning w1:=by
   rw[d1];have I:=y.step C;refine EF (base:=base) (ρ:=Y) (hi:=0) _ _ _ _ _ K d2 C.hr (by rw[t1];exact I.fr) fun w' E=>?_
   have U:=St.trans (by have:=y.fr;rw[t1];exact this) C E;obtain⟨v',g1,g2⟩:=A4f (s:=⟨s.fr,m1⟩) E.hr f1 G;obtain⟨_,ρ2,g3,g4⟩:=B2O a U l g1;exact⟨v',g2,v',ρ2,rfl,g3,g4⟩
  rcases he with rfl|rfl
  .exact M
  .exact M
def VU{f:FuncId}{fn:Func}{c:Code}{call:P6}(m:P.funcs[f]? = some fn)(k:fn.body=some c)(a:(fn.name == "runtime.NumGoroutine")=false)(e:W3 P base gl call)(l:gX P base gl call){lp:LpT}(b:RS P base gl fn.ntmps c lp) :
  nD P base gl f ⟨BQ fn P (N9 P fn.ntmps gl call lp [] c)⟩:=A3i m k a (kC.code e l b)
def KX{ρ:Ren}{nt:Nat}(f:nt<=512):∀ (ps:List Tmp) (args b:List Value) (fr c:Fr) (tmps:Array Value),vT ps args fr=some c->LR ρ args b->(∀ t ∈ ps,t<nt)->tmps.size=nt->(∀ t,t<nt->VR ρ (fr.get t) (tmps.getD t undef)) ->
  ps.length=b.length/\((ps.zip b).foldl (fun tmps (t,a)=>tmps.setIfInBounds t a) tmps).size=nt/\(∀ t,t<nt->VR ρ (c.get t) (((ps.zip b).foldl (fun tmps (t,a)=>tmps.setIfInBounds t a) tmps).getD t undef))/\∀ t,nt<=t->t<512->c.get t=fr.get t
 | [],[],b,fr,c,tmps,h,hl,hp,hs,hg=>by
   cases h;rw[hl.nil_inv];exact⟨rfl,hs,hg,fun _ _ _=>rfl⟩
 | [],_::_,_,_,_,_,h,_,_,_,_=>by cases h
 | _::_,[],_,_,_,_,h,_,_,_,_=>by cases h
 | t::ps,v::vs,b,fr,c,tmps,h,hl,hp,hs,hg=>by
   obtain⟨v',w,rfl,h1,m⟩:=hl.tail;have k:t<nt:=hp t B4;have h:vT ps vs (fr.set t v)=some c:=by
    have e:vT (t::ps) (v::vs) fr=vT ps vs (fr.set t v):=GE t v fr (fun fr=>vT ps vs fr);rw[<- e];exact h
   obtain⟨s,y,n,A⟩:=KX f ps vs w (fr.set t v) c (tmps.setIfInBounds t v') h m (fun u hu=>hp u (C4 _ hu)) (by simp[hs]) (fun u hu=>by
    rw[M6 _ _ _ _ (D8 k f) (D8 hu f)];simp only[B9,G3];by_cases e:u=t
    .subst e;rw[A8 rfl,A8 rfl,A8 (by rw[hs];exact hu)];exact h1
    .rw[A6 e,A6 (fun h=>e h.symm)]
     have:=hg u hu
     simpa [B9]using this)
   refine⟨by simp[s],y,n,fun u h3 l=>?_⟩;rw[A u h3 l,M6 _ _ _ _ (D8 k f) l,A6 (fun e=>by subst e;exact absurd k (Nat.not_lt.2 h3))]
def vQ{b:Nat}{v:Value}{m':Mem}(h:rQ b r=some (v,m')):∃ e s f q vs,r=some (e,s)/\Hp.get s.m.H b=some (.lp f q vs 1)/\cY s.m b (.lp f q vs (exN e))=some m'/\v=.bool (HJ e):=by
 unfold rQ at h;split at h
 .rename_i e fr m;split at h
  .rename_i f q vs a;rw[E9]at h;split at h
   .rename_i m1 hm;cases h;exact⟨e,⟨fr,m⟩,f,q,vs,rfl,a,hm,rfl⟩
   .cases h
  .cases h
 .cases h
def vP{b:Nat}{c:gY}{v:Value}{m':Mem}(h:rO b c r=some (v,m')):∃ s f q vs m1,r=some (.normal,s)/\Hp.get s.m.H b=some (.lp f q vs 0)/\cY s.m b (.lp f q vs 1)=some m1/\rQ b (c.run ⟨s.fr,m1⟩)=some (v,m'):=by
 unfold rO at h;split at h
 .rename_i fr m;split at h
  .rename_i f q vs a;split at h
   .rename_i m1 hm;exact⟨⟨fr,m⟩,f,q,vs,m1,rfl,a,hm,h⟩
   .cases h
  .cases h
 .cases h
def DQ{C:Cx}{call:P6}{vs:D3}{m m':Mem}{v:Value}(h:(GI C call).run vs m=some (v,m')):∃ b args f q a fn body x ps as bd fr,vs=yv b::args/\Hp.get m.H b=some (.lp f q a 0)/\C.P.funcs[f]? = some fn/\fn.body=some body/\G6 q body=some (.rangeFunc x ps as bd) /\
  fn.ntmps<=510/\(∀ t ∈ ps.toList,t<fn.ntmps)/\vT ps.toList args (fV fr0 0 a)=some fr /\
  rO b (N9 C.P fn.ntmps C.gl call (C.lp f) (q++[true]) bd) ((N9 C.P fn.ntmps C.gl call (C.lp f) (q++[false]) as).run ⟨fr.set 511 (yv b),m⟩)=some (v,m'):=by
 unfold GI at h;simp only at h;split at h
 .cases h
 .rename_i u args;split at h
  .cases h
  .rename_i b w
   have:=CY w;subst this;split at h
   .rename_i f q a A;split at h
    .cases h
    .rename_i fn B;split at h
     .cases h
     .rename_i body c;split at h
      .rename_i x ps as bd s;obtain⟨h1,h⟩:=A3 h;obtain⟨h1,n⟩:=B8 h1;split at h
       .rename_i fr l;refine⟨b,args,f,q,a,fn,body,x,ps,as,bd,fr,rfl,A,by simpa using B,c,s,A1 h1,fun t y=>A1 (D5.1 n t y),l,?_⟩;have e:∀ (k:Fr->Res),wX (sel 7) (sel 7) (sel 7) (yv b) fr k=k (fr.set 511 (yv b)):=fun k=>GE 511 (yv b) fr k
        rw[e]at h;exact h
       .cases h
      .cases h
   .cases h
def A0m{C:Cx}{call:P6}(Q:W3 C.P base C.gl call)(O:gX C.P base C.gl call)(s:∀ f fn body,C.P.funcs[f]? = some fn->fn.body=some body->RS C.P base C.gl fn.ntmps body (C.lp f)):B0g C.P base C.gl (GI C call):=by
 refine⟨fun vs m m' v h=>?_,fun ρ m m' w b args c v l h hS A hl J=>?_⟩
 .obtain⟨b,args,f,q,N,fn,body,x,ps,as,bd,fr,rfl,_,h1,E,h3,_,_,_,h⟩:=DQ h;obtain⟨s1,f2,q2,au,m2,g1,_,g3,h⟩:=vP h;obtain⟨e,s2,f3,q3,aq,Z,_,Y,_⟩:=vQ h;have a1:=(U1 Q O (s f fn body h1 E) as (q++[false]) (I9 h3 rfl) _ _ _ g1).2;have a2:=(U1 Q O (s f fn body h1 E) bd (q++[true]) (I9 h3 rfl) _ _ _ Z).2;rw[(nO Y).2];have a2:m2.lg.le s2.m.lg:=a2;rw[(nO g3).2]at a2;exact a1.trans a2
 .obtain⟨b',ax,f,q,N,fn,body,x,ps,as,bd,fr,e0,hg,h1,E,h3,h4,h5,h6,h⟩:=DQ h;cases e0;obtain⟨s1,f2,q2,au,m2,g1,g2,g3,h⟩:=vP h;obtain⟨e,s2,f3,q3,aq,Z,k2,Y,rfl⟩:=vQ h;have c1:=U1 Q O (s f fn body h1 E) as (q++[false]) (I9 h3 rfl) _ _ _ g1;have c2:=U1 Q O (s f fn body h1 E) bd (q++[true]) (I9 h3 rfl) _ _ _ Z;obtain⟨j1,j2⟩:=nO g3;obtain⟨j3,j4⟩:=nO Y;have W:Sat s2.m.lg:=by rw[<- j4];exact hS
  have ar:Sat s1.m.lg:=by rw[<- j2];exact S3.le W c2.2
  have ao:m2.hi<=s2.m.hi:=c2.1;obtain⟨⟨⟨b1,b2⟩,r,b3,b4⟩,_⟩:=A.hr.atl J hg;obtain⟨an,av,x',e1,e2,e3,e4⟩:=b4.code;rw[h1]at e1;cases e1;rw[E]at e2;cases e2;rw[h3]at e3;cases e3;have hlen:=b4.fr.1;have aw:∀ t,N.length<=t->t<512->(fV fr0 0 N).get t=undef:=fun t q1 q2=>by
   rw[iY _ _ _ _ A2 q2,A6 A2,HS]
  obtain⟨p1,p2,p3,p4⟩:=KX (ρ:=ρ) (nt:=fn.ntmps) A2 r.params.toList args c (fV fr0 0 N) fr r.tmps h6 hl h5 (by simpa [e4]using hlen.symm) (fun t ht=>by
   rw[iY _ _ _ _ A2 A2,A8 A2];have U:t<N.length:=A2;have G:t<r.tmps.toList.length:=A2
   have:=b4.fr.2 t N[t] _ (A5 U) (A5 G);have T:t<r.tmps.size:=by simpa using G
   simpa [B9,U,T,B2]using this)
  have M:(r.params.zip ⟨c⟩).foldl (fun tmps (t,a)=>tmps.setIfInBounds t a) r.tmps=(r.params.toList.zip c).foldl (fun tmps (t,a)=>tmps.setIfInBounds t a) r.tmps:=by
   rw[<- Array.foldl_toList];simp
  refine⟨r.fn,_,r.assign,r.body,run_yield b3 (by show c.length=_;rw[<- p1];simp),?_⟩;rw[M];refine roundIn_of_wpIn (F:=Fence.wide) (n:=0) trivial ?_;have H:∀ t,t<511->(fr.set 511 (yv b)).get t=fr.get t:=fun t ht=>by rw[M6 _ _ _ _ E3 A2,A6 A2]
  have ay:FrR ⟨some l.blk,[]⟩ ρ fn.ntmps (fr.set 511 (yv b)) { tmps:=(r.params.toList.zip c).foldl (fun tmps (t,a)=>tmps.setIfInBounds t a) r.tmps,defers:=[] }:=by
   refine⟨p2,A2,⟨[],rfl,?_⟩,fun _=>?_,fun t ht=>by rw[H t A2];exact p3 t ht⟩
   .unfold dvG;rw[H 510 E3,p4 510 h4 E3,aw 510 A2 E3];cases Nat.ble fn.ntmps 510<;>exact .nil
   .rw[M6 _ _ _ _ E3 E3,A8 rfl];refine⟨fun hu=>(by cases hu),fun b0 V=>?_⟩;have:b0=b:=by
     have:eV (yv b)=some b:=rfl;rw[this]at V;exact(A9 V).symm
    subst this;exact⟨l,J,rfl⟩
  have L:K7 ρ m.n m'.hi:=A.fr;refine U0 (z:=⟨some l.blk,[]⟩) Q O (s f fn body h1 E) r.assign (q++[false]) (I9 h3 rfl) ρ ⟨fr.set 511 (yv b),m⟩ s1 .normal _ w _ g1 ar (A.less (by rw[j3];omega)) ay fun K a1 w1 f1 u=>?_
  have I:=u.ext _ _ J;obtain⟨⟨⟨_,_⟩,r2,d3,d4⟩,_⟩:=u.hr.atl I g2;obtain⟨o1,o2,o3⟩:=jL (o:=.loop { r2 with state:=.busy }) (D0.1 d3).1;have X:St C.P base K K s1.m m2 w1 (w1.putObj l.blk (.loop { r2 with state:=.busy })):=St.write u.hr g3 g2 rfl I b1 ⟨rfl,rfl,rfl⟩ o1 o3 ⟨⟨b1,b2⟩,_,o2,d4.code,d4.fr,rfl⟩;refine⟨_,run_beginRound d3 d4.st.1,?_⟩;have B:=(A.step u);have D:=B.step X;refine U0 (z:=⟨some l.blk,[]⟩) Q O (s f fn body h1 E) r.body (q++[true]) (I9 h3 rfl) K ⟨s1.fr,m2⟩ s2 e _ _ _ Z W (D.less (by rw[j3];exact A7 _)) f1 fun ρ2 a2 w3 f3 y=>?_
  have R:=y.ext _ _ I;obtain⟨⟨⟨_,_⟩,r3,d5,d6⟩,_⟩:=y.hr.atl R k2;have fin:∀ (jump:Option Code),StR (exN e) (if jump.isNone then .ready else .done) jump->jump.isNone=HJ e->∃ v w',(Instr.endRound l.blk jump).run C.P w3=.ok v w'/\A3x C.P base ρ m m' w (.bool (HJ e)) (.returned v) w':=fun jump hj he=>by
   refine⟨_,_,run_endRound jump d5,?_⟩;obtain⟨o4,o5,o6⟩:=jL (o:=.loop { r3 with state:=if jump.isNone then .ready else .done,pending:=jump }) (D0.1 d5).1;have az:St C.P base ρ2 ρ2 s2.m m' w3 (w3.putObj l.blk (.loop { r3 with state:=if jump.isNone then .ready else .done,pending:=jump })):=St.write y.hr Y k2 rfl R b1 ⟨rfl,rfl,rfl⟩ o4 o6 ⟨⟨b1,b2⟩,_,o5,d6.code,d6.fr,hj⟩;exact⟨_,ρ2,rfl,by rw[he];exact .pure rfl,St.trans L u (St.trans B.fr X (St.trans D.fr y az))⟩
  cases e with
  | normal=>exact fin none ⟨rfl,rfl⟩ rfl
  | ret=>exact fin (some .ret) ⟨rfl,rfl⟩ rfl
  | exit k=>exact fin (some (.exit k)) ⟨rfl,rfl⟩ rfl
structure A55 (C:Cx) (base:Nat):Prop where
 names:IZ C.P
 ext:∀ f k fn,C.P.funcs[f]? = some fn->fn.body=none->MX C.ext f=some k->nD C.P base C.gl f ⟨pV k⟩
 con:∀ f c,C.con f=some c->nD C.P base C.gl f c
 lp:∀ f fn body,C.P.funcs[f]? = some fn->fn.body=some body->RS C.P base C.gl fn.ntmps body (C.lp f)
 draws:∀ call,W3 C.P base C.gl call->gX C.P base C.gl call
def nU(f:FuncId):nD P base gl f ⟨fun _ _=>none⟩:=⟨fun vs m m' v hr=>(by cases hr),fun ρ m m' w vs a v hr=>(by cases hr)⟩
def A4u:B0g P base gl ⟨fun _ _=>none⟩:=⟨fun vs m m' v hr=>(by cases hr),fun ρ m m' w b args a v l hr=>(by cases hr)⟩
def BK{C:Cx}(h:A55 C base):∀ (d:Nat),W3 C.P base C.gl (wK C d)
 | 0=>⟨fun f=>nU f,A4u⟩
 | d+1=>by
   have e:=BK h d;refine⟨fun f=>?_,A0m e (h.draws _ e) h.lp⟩;show nD C.P base C.gl f (FF C (wK C d) f);unfold FF;split
   .exact nU f
   .rename_i fn a;have a:C.P.funcs[f]? = some fn:=by simpa using a
    split
    .rename_i c b;exact h.con f c b
    .split
     .rename_i l;split
      .rename_i k m;exact h.ext f k fn a l m
      .exact nU f
     .rename_i c l;exact VU (gl:=C.gl) a l (h.names f fn a) e (h.draws _ e) (h.lp f fn c a l)
end
end
section
open Go
variable [Ora]
def IY(P:Program)(nt gl:Nat)(call:P6)(all:List Oper)(b:List Nat)(rs:List Rec)(c:Bool)(o:Oper)(fr e:Fr)(m m2:Mem)(v:Value):Prop :=
 BB nt o.dst=true/\QC nt gl o.op=true/\e=wZ o.dst v fr /\
 ((c=false/\∃ lg,bY nt fr m.lg all o=some (false,lg)/\v=undef/\m2=m.wLg lg) ∨
   (c=false/\∃ lg a,bY nt fr m.lg all o=some (true,lg)/\lU fr (m.wLg lg) o b rs (X7 P call o)=some (v,a)/\m2=m.wLg a) ∨
   (c=true/\∃ lg,bY nt fr m.lg all o=some (true,lg)/\(X7 P call o).run fr (m.wLg lg)=some (v,m2)/\m.hi<=m2.hi) ∨
   (c=false/\bA o.op=false/\∃ lg,bY nt fr m.lg all o=some (true,lg)/\∃ mv m',DB (m.wLg lg) (B2u fr o.op) (EA b rs)=some mv/\(X7 P call o).run fr mv=some (v,m')/\m'.W=[]/\m.hi<=m'.hi/\mB (m.wLg lg) m'=some m2))
def XV{α:Type}{c:Bool}{x:Option α}{y:α}(h:(bif c then none else x)=some y):c=false/\x=some y:=by cases c<;>first|exact⟨rfl,h⟩|cases h
def eM(nt:Nat)(all:List Oper)(op:OpC)(b:List Nat)(rs:List Rec)(fr:Fr)(o:Oper)(m m2:Mem)(v:Value)(r:Option (Nat×AB)):Prop :=
 (∃ lg,bY nt fr m.lg all o=some (false,lg)/\v=undef/\m2=m.wLg lg/\r=none)∨(∃ lg a,bY nt fr m.lg all o=some (true,lg)/\lU fr (m.wLg lg) o b rs op=some (v,a)/\m2=m.wLg a/\r=MQ m.H fr o.op)
def QsN(e:Bool)(i nt:Nat)(all:List Oper)(op:OpC)(b:List Nat)(rs:List Rec)(fr:Fr)(o:Oper)(m m2:Mem)(v:Value)(c a:Qs):Prop :=
 (e=true/\a=c/\A1_ b m2.H c=true)∨(e=false/\a=c)∨(e=false/\∃ r,a=(i,r)::c/\eM nt all op b rs fr o m m2 v r)
def A3v(P:Program)(nt gl:Nat)(call:P6)(all:List Oper)(r:List Oper)(i:Nat)(bs:List H9)(rs:List Rec)(b:Qs)(s a:S):Prop :=
  ∃ (F:Nat->Fr) (M:Nat->Mem) (V:Nat->Value) (R:Nat->List Rec) (X:Nat->Qs) (B:Nat->Bool),F i=s.fr/\M i=s.m/\R i=rs/\X i=b/\F (i+r.length)=a.fr/\M (i+r.length)=a.m /\
   ∀ j o,r[j]? = some o->IY P nt gl call all (bs.getD j []) (R (i+j)) (B (i+j)) o (F (i+j)) (F (i+j+1)) (M (i+j)) (M (i+j+1)) (V (i+j))/\(B (i+j)=true->KD o.op (i+j) (bs.getD j []) (bs.drop (j+1)) (r.drop (j+1)) (X (i+j))=true) /\
    ((R (i+j+1)=R (i+j)/\∃ lg,M (i+j+1)=(M (i+j)).wLg lg)∨(B (i+j)=true/\R (i+j+1)=[])∨R (i+j+1)=⟨i+j,(M (i+j)).n,(M (i+j+1)).n⟩::R (i+j)) /\
    QsN (B (i+j)) (i+j) nt all (X7 P call o) (bs.getD j []) (R (i+j)) (F (i+j)) o (M (i+j)) (M (i+j+1)) (V (i+j)) (X (i+j)) (X (i+j+1))
def A6A{P:Program}{nt gl:Nat}{call:P6}{all:List Oper}:∀ (r:List Oper) (i:Nat) (bs:List H9) (rs:List Rec) (c:Qs) (s f:S),s9 P nt gl call all r i bs rs c s=some f->A3v P nt gl call all r i bs rs c s f
 | [],i,bs,rs,c,s,f,h=>by
   have h:some s=some f:=by cases bs<;>exact h
   cases h;exact⟨fun _=>s.fr,fun _=>s.m,fun _=>undef,fun _=>rs,fun _=>c,fun _=>false,rfl,rfl,rfl,rfl,rfl,rfl,fun j o y=>by simp at y⟩
 | o::r,i,[],rs,c,s,f,h=>by obtain⟨fr,m⟩:=s;cases h
 | o::r,i,b::bs,rs,c,⟨fr,⟨H0,n0,W0,hi0,lg0⟩⟩,f,h=>by
   generalize u:(⟨H0,n0,W0,hi0,lg0⟩:Mem)=m at h;have glue:∀ (w:Bool),(w=true->KD o.op i b bs r c=true)->∀ (v:Value) (m2:Mem) (a:List Rec) (k:Qs),IY P nt gl call all b rs w o fr (wZ o.dst v fr) m m2 v->((a=rs/\∃ lg,m2=m.wLg lg)∨(w=true/\a=[])∨a=⟨i,m.n,m2.n⟩::rs)->QsN w i nt all (X7 P call o) b rs fr o m m2 v c k->s9 P nt gl call all r (i+1) bs a k ⟨wZ o.dst v fr,m2⟩=some f->A3v P nt gl call all (o::r) i (b::bs) rs c ⟨fr,m⟩ f:=fun w K v m2 a k I L D A=>by
    obtain⟨F,M,V,R,X,B,f1,f2,f3,J,f4,f5,f6⟩:=A6A r (i+1) bs a k _ f A;refine⟨fun j=>if j<=i then fr else F j,fun j=>if j<=i then m else M j,fun j=>if j<=i then v else V j,fun j=>if j<=i then rs else R j,fun j=>if j<=i then c else X j,fun j=>if j<=i then w else B j,by simp,by simp,by simp,by simp,?_,?_,?_⟩
    .simp only[C8];rw[A6 A2,show i+(r.length+1)=i+1+r.length by omega];exact f4
    .simp only[C8];rw[A6 A2,show i+(r.length+1)=i+1+r.length by omega];exact f5
    .intro j o' y;cases j with
     | zero =>
       simp at y;subst y;simp only[kJ,A7,if_true,Nat.not_succ_le_self,if_false,f1,f2,f3,J];exact⟨I,K,L,D⟩
     | succ j =>
       have E:r[j]? = some o':=by simpa using y
       have:=f6 j o' E;simp only[show ¬ i+(j+1)<=i by omega,show ¬ i+(j+1)+1<=i by omega,if_false];rw[show i+(j+1)=i+1+j by omega]
       simpa using this
   subst u;unfold s9 at h;split at h
   .rename_i lg hw N;obtain⟨d1,d2⟩:=B8 N;cases l:KD o.op i b bs r c with
    | true =>
      rw[l]at h;simp only[E6]at h;split at h
      .rename_i v m2 hr;obtain⟨e,h⟩:=A3 h;obtain⟨e,G⟩:=B8 e;rw[dG]at h;exact glue true (fun _=>l) v m2 _ _ ⟨d1,d2,rfl,.inr (.inr (.inl ⟨rfl,lg,hw,hr,A1 e⟩))⟩ (.inr (.inl ⟨rfl,rfl⟩)) (.inl ⟨rfl,rfl,G⟩) h
      .cases h
    | false =>
      rw[l]at h;simp only[E0]at h;split at h
      .rename_i v t C;obtain⟨Q,C⟩:=A3 C;rw[dG]at h;exact glue false (fun h=>by cases h) v _ _ _ ⟨d1,d2,rfl,.inr (.inl ⟨rfl,lg,t,hw,C,rfl⟩)⟩ (.inl ⟨rfl,t,rfl⟩) (.inr (.inr ⟨rfl,_,rfl,.inr ⟨lg,t,hw,C,rfl,rfl⟩⟩)) h
      .obtain⟨H,h⟩:=XV h;unfold VM at h;simp only at h;split at h
       .rename_i mv hv;split at h
        .rename_i v m' hr;split at h
         .rename_i O e;split at h
          .rename_i m2 hm;rw[dG]at h;exact glue false (fun h=>by cases h) v m2 _ _ ⟨d1,d2,rfl,.inr (.inr (.inr ⟨rfl,H,lg,hw,mv,m',hv,hr,O,A1 e,hm⟩))⟩ (.inr (.inr rfl)) (.inr (.inl ⟨rfl,rfl⟩)) h
          .cases h
         .cases h
        .cases h
       .cases h
   .rename_i lg hw N;obtain⟨d1,d2⟩:=B8 N;rw[dG]at h;exact glue false (fun h=>by cases h) undef _ _ _ ⟨d1,d2,rfl,.inl ⟨rfl,lg,hw,rfl,rfl⟩⟩ (.inl ⟨rfl,lg,rfl⟩) (.inr (.inr ⟨rfl,_,rfl,.inl ⟨lg,hw,rfl,rfl,rfl⟩⟩)) h
   .cases h
def OA{l:H9}{b k:Nat}(h:k ∈ A3t l b):k=b∨k ∈ l:=by
 unfold A3t at h;cases e:aP l b with
 | true=>rw[e]at h;exact .inr h
 | false=>rw[e,E0,E9]at h;exact B3.1 h
def EI:∀ {a b:H9} {k:Nat},k ∈ UG a b->k ∈ a∨k ∈ b
 | [],b,k,h=>.inr h
 | x::a,b,k,h=>by
   rcases OA (show k ∈ A3t (UG a b) x from h)with rfl|h
   .exact .inl B4
   .rcases EI h with h|h
    .exact .inl (C4 _ h)
    .exact .inr h
def vE{acc:List H9}:∀ {es:List Edge} {k:Nat},k ∈ tR acc es->∃ e ∈ es,Region.binds .any e=true/\(k=e.on∨k ∈ acc.getD e.on [])
 | [],k,h=>by cases h
 | e::r,k,h=>by
   unfold tR at h;cases a:Region.binds .any e with
   | true =>
     rw[a]at h;rw[E6]at h;rcases(OA h).imp_right EI with h|h|h
     .exact⟨e,B4,a,.inl h⟩
     .exact⟨e,B4,a,.inr h⟩
     .obtain⟨e',h1,b⟩:=vE h;exact⟨e',C4 _ h1,b⟩
   | false =>
     rw[a]at h;obtain⟨e',h1,b⟩:=vE h;exact⟨e',C4 _ h1,b⟩
def vD:∀ (r:List Oper) (acc:List H9),∃ a,c8 r acc=acc++a/\a.length=r.length/\∀ j o,r[j]? = some o->∃ pre,pre=(acc++a).take (acc.length+j)/\a[j]? = some (tR pre o.after.toList)
 | [],acc=>⟨[],by simp[c8],rfl,fun j o h=>by simp at h⟩
 | o::r,acc=>by
   obtain⟨a,h1,c,h3⟩:=vD r (acc++[tR acc o.after.toList]);refine⟨tR acc o.after.toList::a,by rw[c8,I8,h1];simp,by simp[c],fun j o' b=>?_⟩;cases j with
   | zero =>
     simp at b;subst b;exact⟨_,rfl,by simp⟩
   | succ j =>
     obtain⟨pre,g1,g2⟩:=h3 j o' (by simpa using b);refine⟨pre,?_,by simpa using g2⟩;rw[g1];simp[cW,kK 1 j]
def A50{ops:List Oper}{k:Nat}(l:ops[i]? = some o)(he:∀ e ∈ o.after.toList,Region.binds .any e=true->e.on<i)(b:k ∈ (c8 ops []).getD i []) :
  ∃ e ∈ o.after.toList,Region.binds .any e=true/\(k=e.on∨k ∈ (c8 ops []).getD e.on []):=by
 obtain⟨s,h1,n,h3⟩:=vD ops [];simp only[G7]at h1 h3;obtain⟨pre,g1,g2⟩:=h3 i o l;rw[h1]at b ⊢;rw[B2,g2]at b;obtain⟨e,c,f,m⟩:=vE (show k ∈ tR pre o.after.toList from b);refine⟨e,c,f,m.imp id fun h=>?_⟩;have a:=he e c f;rw[g1]at h;simp only[J3,F7,B2]at h ⊢;rw[F0 a]at h;exact h
def nF(ops:List Oper)(D:Nat->Prop):Prop:=∀ i o,ops[i]? = some o->D i->∀ e ∈ o.after.toList,Region.binds .any e=true->D e.on
def BW{ops:List Oper}{D:Nat->Prop}(m:nF ops D)(c:∀ i o,ops[i]? = some o->∀ e ∈ o.after.toList,Region.binds .any e=true->e.on<i) :
  ∀ (n i k:Nat) (o:Oper),i<n->ops[i]? = some o->(∀ e ∈ o.after.toList,Region.binds .any e=true->D e.on)->k ∈ (c8 ops []).getD i []->D k
 | 0,i,k,o,h,_,_,_=>by omega
 | n+1,i,k,o,h,ho,he,hk=>by
   obtain⟨e,a,b,f⟩:=A50 ho (c i o ho) hk;rcases f with rfl|f
   .exact he e a b
   .have l:=c i o ho e a b;have hlen:e.on<ops.length:=Nat.lt_trans l (B1.1 ho).1;refine BW m c n e.on k ops[e.on] A2 (A5 hlen) (fun e' h1 s=>m e.on _ (A5 hlen) (he e a b) e' h1 s) f
def FN{H0:Hp AB}:∀ (l:List Nat) (H:Hp AB),(∀ b ∈ l,b<=I4)->∀ id,id<=I4->Hp.get (FO H0 H l) id=if id ∈ l then Hp.get H0 id else Hp.get H id
 | [],H,_,id,_=>by simp[FO]
 | b::r,H,hl,id,hid=>by
   have c:=hl b B4;rw[FO,fD,FN r _ (fun x hx=>hl x (C4 _ hx)) id hid,F2 _ _ _ _ c hid];by_cases h1:id ∈ r
   .rw[A8 h1,A8 (C4 _ h1)]
   .rw[A6 h1];by_cases a:id=b
    .subst a;rw[A8 rfl,A8 B4]
    .rw[A6 a,A6 (by simp[h1,a])]
def EN:∀ (l:List Nat) (H:Hp AB),(∀ b ∈ l,b<=I4)->∀ id,id<=I4->Hp.get (EO H l) id=if id ∈ l then none else Hp.get H id
 | [],H,_,id,_=>by simp[EO]
 | b::r,H,hl,id,hid=>by
   have c:=hl b B4;rw[EO,fD,EN r _ (fun x hx=>hl x (C4 _ hx)) id hid,F2 _ _ _ _ c hid];by_cases h1:id ∈ r
   .rw[A8 h1,A8 (C4 _ h1)]
   .rw[A6 h1];by_cases a:id=b
    .subst a;rw[A8 rfl,A8 B4]
    .rw[A6 a,A6 (by simp[h1,a])]
def mC:∀ (n a b:Nat),b ∈ PD a n↔a<=b/\b<a+n
 | 0,a,b=>by simp[PD]
 | n+1,a,b=>by
   simp only[PD,B3,mC n (a+1) b];omega
def LQ{m m' m2:Mem}(h:mB m m'=some m2)(s:m.n<=m.hi)(k:m.hi<=m'.hi):m.n<=m2.n/\m.hi<=m2.hi/\m2.n<=m2.hi/\m2.W=m.W/\(m2.n=m'.hi∨(m2.n=m.n/\m'.hi<=m.n))/\m2.hi=m'.hi/\m2.lg=m'.lg /\
  ∀ id,id<=I4->Hp.get m2.H id=if m.n<=id/\id<m2.n then Hp.get m'.H id else Hp.get m.H id:=by
 unfold mB at h;cases a:Nat.ble m'.hi m.n with
 | true =>
   have a:=A1 a;have f:Nat.ble m'.hi m.n=true:=C7 a;rw[f]at h;cases h;refine⟨A7 _,A7 _,s,rfl,.inr ⟨rfl,a⟩,by show m.hi=m'.hi;omega,rfl,fun id hid=>?_⟩;rw[A6 (by show ¬ (m.n<=id/\id<m.n);omega)]
 | false =>
   have e:m.n<m'.hi:=by
    rcases G0 m.n m'.hi with h1|h1
    .exact h1
    .rw[show Nat.ble m'.hi m.n=true from C7 h1]at a;cases a
   rw[a]at h;simp only[E0]at h;obtain⟨l,h⟩:=A3 h;have l:=A1 l;simp only[E9,eT]at h;cases h;refine⟨kH e,k,A7 _,rfl,.inl rfl,rfl,rfl,fun id hid=>?_⟩;show Hp.get (FO m'.H m.H (PD m.n (m'.hi-m.n))) id=_;rw[FN _ _ (fun b c=>by have:=(mC _ _ _).1 c;omega) id hid];by_cases h1:m.n<=id/\id<m'.hi
   .rw[A8 ((mC _ _ _).2 A2),A8 h1]
   .rw[A6 (fun h=>h1 (by have:=(mC _ _ _).1 h;omega)),A6 h1]
def bG(D:Nat->Bool)(dst:Nat->Option Tmp)(V:Nat->Value)(f0:Tmp->Value)(t:Tmp):Nat->Value
 | 0=>f0 t
 | n+1=>if D n=true/\dst n=some t then V n else bG D dst V f0 t n
def fQ{D D':Nat->Bool}{dst:Nat->Option Tmp}{V:Nat->Value}{f0:Tmp->Value}{t:Tmp}:∀ (n:Nat),(∀ k,k<n->dst k=some t->D k=D' k)->bG D dst V f0 t n=bG D' dst V f0 t n
 | 0,_=>rfl
 | n+1,h=>by
   unfold bG;have b:=fQ (V:=V) (f0:=f0) n fun k c=>h k (Nat.lt_succ_of_lt c)
   by_cases a:dst n=some t
   .rw[h n (J7 n) a,b]
   .rw[A6 (fun hh=>a hh.2),A6 (fun hh=>a hh.2),b]
def sY{D D':Nat->Bool}{dst:Nat->Option Tmp}{V:Nat->Value}{f0:Tmp->Value}{t:Tmp}{i:Nat}(hD:∀ k,k≠i->D' k=D k)(hi:D' i=true):∀ (n:Nat),i<n->dst i=some t->(∀ k,i<k->k<n->dst k=some t->D k=false)->bG D' dst V f0 t n=V i
 | 0,h,_,_=>by omega
 | n+1,h,hd,hl=>by
   unfold bG;by_cases e:n=i
   .subst e;rw[A8 ⟨hi,hd⟩]
   .have a:i<n:=A2;rw[A6 (fun hh=>by
     have h1:=hl n a (J7 n) hh.2;rw[hD n e,h1]at hh;exact absurd hh.1 (by simp))]
    exact sY hD hi n a hd fun k c b=>hl k c (Nat.lt_succ_of_lt b)
def pS{D D':Nat->Bool}{dst:Nat->Option Tmp}{V:Nat->Value}{f0:Tmp->Value}{t:Tmp}(hD:∀ k,k≠i->D' k=D k)(a:dst i≠some t)(n:Nat):bG D' dst V f0 t n=bG D dst V f0 t n :=
 fQ n fun k _ b=>hD k fun e=>a (e▸b)
structure HRf (P:Program) (base:Nat) (ρ:Ren) (G:Nat->Option AB) (w:World):Prop where
 dom:∀ b l,ρ b=some l->b<=I4
 at_:∀ id,id<=I4->∀ ab,G id=some ab->∃ l,ρ id=some l/\BR P ρ ab l w/\(ab.rw=true->l.on=true->base<=l.blk/\∀ id2,id2<=I4->∀ ab2 l2,G id2=some ab2->ρ id2=some l2->Tc ab2 l2 l.blk->id2=id)
def HRf.hr{P:Program}{base:Nat}{ρ:Ren}{G:Nat->Option AB}{H:Hp AB}{w:World}(h:HRf P base ρ G w)(n:∀ id,id<=I4->∀ ab,Hp.get H id=some ab->G id=some ab):HR P base ρ H w :=
 ⟨h.dom,fun id hid ab m=>let ⟨l,a,b,c⟩:=h.at_ id hid ab (n id hid ab m);⟨l,a,b,fun hr s=>⟨(c hr s).1,fun k e f l2 g=>(c hr s).2 k e f l2 (n k e f g)⟩⟩⟩
def HR.f{P:Program}{base:Nat}{ρ:Ren}{H:Hp AB}{w:World}(h:HR P base ρ H w){G:Nat->Option AB}(s:∀ id,id<=I4->∀ ab,G id=some ab->Hp.get H id=some ab):HRf P base ρ G w :=
 ⟨h.dom,fun id hid ab n=>let ⟨l,a,b,c⟩:=h.at_ id hid ab (s id hid ab n);⟨l,a,b,fun hr t=>⟨(c hr t).1,fun m e k l2 g=>(c hr t).2 m e k l2 (s m e k g)⟩⟩⟩
def Ff(ρ:Ren)(G:Nat->Option AB)(k:Nat):Prop:=∃ id ab l,id<=I4/\G id=some ab/\ρ id=some l/\Tf ab l k
end
end Go.Sx
