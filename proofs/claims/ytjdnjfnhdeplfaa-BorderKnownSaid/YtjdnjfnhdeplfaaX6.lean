import Derived.Test.YtjdnjfnhdeplfaaX5
set_option linter.all false
set_option maxRecDepth 100000
set_option maxHeartbeats 4000000
namespace Go.Sx
open Go
variable {ds:List Deferred}{d:Option Tmp}{o p:Oper}{lg':Lg}{i j:Nat}{q:List Bool}{r:Option (Ex×S)}{g:Value}{x:Operand}{me:FuncId}{ps:Array Tmp}{as bd:Code}
section
open Go
variable [Ora]
section
variable {P:Program} {base gl nt:Nat}
def GR(gl:Nat)(ρ:Ren):Prop:=∀ g,g<gl->ρ g=some (lc g 0 0)
def GR.mono{ρ ρ':Ren}(h:GR gl ρ)(he:∀ b l,ρ b=some l->ρ' b=some l):GR gl ρ':=fun g a=>he _ _ (h g a)
structure At (P:Program) (base gl:Nat) (ρ:Ren) (m:Mem) (hi:Nat) (w:World):Prop where
 hr:HR P base ρ m.H w
 bs:base<=w.heap.size
 fr:I2 ρ m.n hi
 gr:GR gl ρ
 nh:m.n<=m.hi
 wb:∀ b ∈ m.W,∀ l,ρ b=some l->l.on=true->base<=l.blk
 gf:∀ k o,Ora.G k=some o->k<base/\w.heap[k]? = some o
def At.wbs{ρ ρ':Ren}{m m':Mem}{hi:Nat}{w w':World}(h:At P base gl ρ m hi w)(st:St P base ρ ρ' m m' w w'):∀ b ∈ m'.W,∀ l,ρ b=some l->l.on=true->base<=l.blk:=fun b f l c a=>by
 by_cases hm:b ∈ m.W
 .exact h.wb b hm l c a
 .obtain⟨ab,h1,e⟩:=st.wrw b f hm l c;exact((h.hr.atl c h1).2 e a).1
def At.below{ρ ρ':Ren}{m m':Mem}{hi:Nat}{w w':World}(h:At P base gl ρ m hi w)(st:St P base ρ ρ' m m' w w'){k:Nat}(hk:k<base):w'.heap[k]? = w.heap[k]? :=
 st.keep k (C9 hk h.bs) fun b f l c a e=>by have:=h.wbs st b f l c a;omega
def At.step{ρ ρ':Ren}{m m':Mem}{hi:Nat}{w w':World}(h:At P base gl ρ m hi w)(st:St P base ρ ρ' m m' w w'):At P base gl ρ' m' hi w' :=
 ⟨st.hr,B6 h.bs st.size,fun b h1 c=>by
  cases e:ρ' b with
  | none=>rfl
  | some l =>
    cases h0:ρ b with
    | some l0=>rw[h.fr b (B6 st.nle h1) c]at h0;cases h0
    | none=>have:=(st.new b l e h0).2;omega,h.gr.mono st.ext,st.nhi h.nh,fun b e l n a=>by
  cases h0:ρ b with
  | some l0 =>
    have:=st.ext b l0 h0;rw[n]at this
    have:=A5 this;subst this;exact h.wbs st b e l h0 a
  | none =>
    rcases st.blk b l n h0 a with h1|⟨s,h1,l0,c,f,h3⟩
    .have:=h.bs;omega
    .rw[<- h3];exact h.wbs st s h1 l0 c f,fun k o hk=>⟨(h.gf k o hk).1,(h.below st (h.gf k o hk).1).trans (h.gf k o hk).2⟩⟩
def At.less{ρ:Ren}{m:Mem}{hi hi':Nat}{w:World}(h:At P base gl ρ m hi w)(a:hi'<=hi):At P base gl ρ m hi' w:=⟨h.hr,h.bs,fun b h1 c=>h.fr b h1 (C9 c a),h.gr,h.nh,h.wb,h.gf⟩
def At.wLg{ρ:Ren}{m:Mem}{hi:Nat}{w:World}(h:At P base gl ρ m hi w)(lg:Lg):At P base gl ρ (m.wLg lg) hi w:=by
 cases m;exact⟨h.hr,h.bs,h.fr,h.gr,h.nh,h.wb,h.gf⟩
def TA(P:Program)(base:Nat)(ρ:Ren)(m m':Mem)(w:World)(v:Value):Ending->World->Prop:=fun e w'=>∃ v' ρ',e=.returned v'/\VR ρ' v v'/\St P base ρ ρ' m m' w w'
structure gJ (P:Program) (base gl:Nat) (f:FuncId) (c:FnC):Prop where
 lg:∀ (vs:List Value) (m m':Mem) (v:Value),c.run vs m=some (v,m')->m.lg.le m'.lg
 ok:∀ (ρ:Ren) (m m':Mem) (w:World) (vs vs':List Value) (v:Value),c.run vs m=some (v,m')->Sat m'.lg->At P base gl ρ m m'.hi w->LR ρ vs vs' ->
  ((callFunc f ⟨vs'⟩).run P w=.ok (.enter f ⟨vs'⟩) w/\Calls P f ⟨vs'⟩ w (TA P base ρ m m' w v)) ∨
  (∃ v' ρ' w',(callFunc f ⟨vs'⟩).run P w=.ok (.value v') w'/\VR ρ' v v'/\St P base ρ ρ' m m' w w')
structure Zn where
 rd:Option Nat
 D:List Deferred
def A1K(l:Loc):Deferred:={ target:=.collected l.blk,args:=#[] }
def DfR(ρ:Ren)(ids:List Nat)(ds:List Deferred):Prop:=ids.length=ds.length/\∀ (i:Nat) (id:Nat) (d:Deferred),ids[i]? = some id->ds[i]? = some d->∃ l,ρ id=some l/\d=A1K l
def DfR.mono{ρ ρ':Ren}{ids:F8}(h:DfR ρ ids ds)(he:∀ b l,ρ b=some l->ρ' b=some l):DfR ρ' ids ds:=⟨h.1,fun i id d a b=>let ⟨l,c,e⟩:=h.2 i id d a b;⟨l,he _ _ c,e⟩⟩
def DfR.nil{ρ:Ren}:DfR ρ [] []:=⟨rfl,fun i id d h=>by simp at h⟩
structure FrR (z:Zn) (ρ:Ren) (nt:Nat) (fr:Fr) (a:Act):Prop where
 size:a.tmps.size=nt
 le:nt<=512
 df:∃ ds,a.defers=ds++z.D/\DfR ρ (dvG nt fr) ds
 rd:nt<=510->(jL (fr.get 511)=true->z.rd=none)/\∀ b,bJ (fr.get 511)=some b->∃ l,ρ b=some l/\z.rd=some l.blk
 get:∀ t,t<nt->VR ρ (fr.get t) (a.tmps.getD t undef)
variable {z:Zn}
def FrR.mono{ρ ρ':Ren}{fr:Fr}{a:Act}(h:FrR z ρ nt fr a)(he:∀ b l,ρ b=some l->ρ' b=some l):FrR z ρ' nt fr a :=
 ⟨h.size,h.le,let ⟨ds,a,b⟩:=h.df;⟨ds,a,b.mono he⟩,fun f=>⟨(h.rd f).1,fun b k=>let ⟨l,c,e⟩:=(h.rd f).2 b k;⟨l,he _ _ c,e⟩⟩,fun t m=>(h.get t m).mono he⟩
def FrR.put{ρ:Ren}{fr:Fr}{a:Act}{d:Nat}{v v':Value}(h:FrR z ρ nt fr a)(k:d<nt)(u:VR ρ v v'):FrR z ρ nt (fr.set d v) (a.put (some d) v'):=by
 have hle:=h.le;have b:∀ t,t<512->t≠d->(fr.set d v).get t=fr.get t:=fun t h1 n=>by rw[K0 _ _ _ _ A9 h1,B1 n]
 refine⟨by simp[Act.put,h.size],h.le,?_,fun m=>?_,fun t l=>?_⟩
 .obtain⟨ds,s,c⟩:=h.df;refine⟨ds,s,?_⟩;unfold dvG at c ⊢;cases f:Nat.ble nt 510 with
  | true =>
    have:=A1 f;rw[f]at c;rw[b 510 L7 A9];exact c
  | false=>rw[f]at c;exact c
 .rw[b 511 L7 A9];exact h.rd m
 .rw[K0 _ _ _ _ (C9 k h.le) (C9 l h.le)];simp only[Act.put,B0,D1];by_cases e:t=d
  .subst e;rw[B2 rfl,B2 rfl,B2 (by rw[h.size];exact k)];exact u
  .rw[B1 e,B1 (fun h=>e h.symm)]
   have:=h.get t l
   simpa [B0]using this
def ZR(z:Zn)(ρ:Ren)(nt:Nat)(fr:Fr)(a:List Deferred):Prop:=(∃ ds,a=ds++z.D/\DfR ρ (dvG nt fr) ds)/\(nt<=510->(jL (fr.get 511)=true->z.rd=none)/\∀ b,bJ (fr.get 511)=some b->∃ l,ρ b=some l/\z.rd=some l.blk)
def FrR.zr{ρ:Ren}{fr:Fr}{a:Act}(h:FrR z ρ nt fr a):ZR z ρ nt fr a.defers:=⟨h.df,h.rd⟩
def ZR.congr{ρ ρ':Ren}{fr a:Fr}(h:ZR z ρ nt fr ds)(he:∀ b l,ρ b=some l->ρ' b=some l)(m:nt<=510->a.get 510=fr.get 510/\a.get 511=fr.get 511):ZR z ρ' nt a ds:=by
 obtain⟨⟨f,h1,n⟩,h3⟩:=h;refine⟨⟨f,h1,?_⟩,fun k=>?_⟩
 .have:dvG nt a=dvG nt fr:=by
   unfold dvG;cases t:Nat.ble nt 510 with
   | true=>rw[(m (A1 t)).1]
   | false=>rfl
  rw[this];exact n.mono he
 .rw[(m k).2];exact⟨(h3 k).1,fun b s=>let ⟨l,c,e⟩:=(h3 k).2 b s;⟨l,he _ _ c,e⟩⟩
def bT(a:Act)(d:Option Tmp)(v:Value):(a.put d v).defers=a.defers:=by cases d<;>rfl
def FrR.ev{ρ:Ren}{fr:Fr}{a:Act}(h:FrR z ρ nt fr a)(e:GR gl ρ){x:Operand}(c:okX nt gl x=true):VR ρ (ev fr x) (a.eval x):=by
 cases x with
 | tmp t=>exact h.get t (A1 c)
 | const v=>exact VR.ofC c
 | global g =>
   have:=VR.ptr (o:=0) (e g (A1 c));exact this
 | func f=>exact .func (a:=[]) (b:=[]) (a':=[]) (b':=[]) rfl rfl (fun i v v' h=>by simp at h) (fun i v v' h=>by simp at h)
def FrR.ops{ρ:Ren}{fr:Fr}{a:Act}(h:FrR z ρ nt fr a)(c:GR gl ρ){o:Op}(b:FI nt gl o=true):FR ρ fr a.eval o:=fun x e=>h.ev c (D2.1 b x e)
def tS{o:Op}{c:Callee}{xs:Array Operand}{tys:Array TypeId}(h:o=.call ⟨c,xs,tys⟩):∀ x ∈ xs.toList,x ∈ o.operands.toList:=fun x a=>by
 subst h;show x ∈ ((match c with|.value f=>#[f]|.invoke r _=>#[r]|.builtin _=>#[])++xs:Array Operand).toList;simp;exact .inr (by simpa using a)
structure A0e (P:Program) (base gl:Nat) (c:FnC):Prop where
 lg:∀ (vs:List Value) (m m':Mem) (v:Value),c.run vs m=some (v,m')->m.lg.le m'.lg
 ok:∀ (ρ:Ren) (m m':Mem) (w:World) (b:Nat) (args args':List Value) (v:Value) (l:Loc),c.run (yv b::args) m=some (v,m')->Sat m'.lg->At P base gl ρ m m'.hi w->LR ρ args args'->ρ b=some l ->
  ∃ f tmps assign body,(Instr.yield l.blk ⟨args'⟩).run P w=.ok (.round l.blk f tmps assign body) w/\RoundIn Fence.wide 0 P l.blk f tmps assign body w (TA P base ρ m m' w v)
structure Q4 (P:Program) (base gl:Nat) (call:L4):Prop where
 fn:∀ f,gJ P base gl f (call.fn f)
 yl:A0e P base gl call.yl
def vC{v:Value}{b:Nat}(h:bJ v=some b):v=yv b:=by
 unfold bJ at h;split at h
 .cases h;rfl
 .cases h
def lW{ρ:Ren}{m m':Mem}{w:World}{call:L4}{fr:Fr}{a:Act}{v:Value}{K:Act->World->Prop}{Q:Exit->Act->World->Prop}(n:Q4 P base gl call)(k:(T5 P call o).run fr m=some (v,m'))(I:Sat m'.lg)
  (h:At P base gl ρ m m'.hi w) (B:FR ρ fr a.eval o.op) (G:∀ v' ρ' w',VR ρ' v v'->St P base ρ ρ' m m' w w'->K (a.put o.dst v') w'):wpO P z.rd o a w K Q:=by
 have F:∀ (f:FuncId) (vs A:List Value),(∀ c,o.op≠.defer c)->(call.fn f).run vs m=some (v,m')->LR ρ vs A->(execOp a.eval o).run P w=(callFunc f ⟨A⟩).run P w->wpO P z.rd o a w K Q:=fun f vs A J hr H he=>by
  refine⟨fun _ _=>trivial,?_⟩;rw[Oper.semAt_eq _ _ _ J,he];rcases(n.fn f).ok ρ m m' w vs A v hr I h H with⟨h1,u⟩|⟨v',ρ',w',h1,u,h3⟩
  .rw[h1,Oper.uponIn_enter];refine⟨eD,v7.2 (u.mono fun e w' ⟨v',ρ',he,H,N⟩=>?_)⟩;subst he;exact G v' ρ' w' H N
  .rw[h1,Oper.uponIn_value];exact G v' ρ' w' u h3
 have s:∀ (J:∀ c,o.op≠.defer c),NOk P base ρ m w (execOp a.eval o) v m'->wpO P z.rd o a w K Q:=fun J R=>by
  obtain⟨v',ρ',w',h1,u,h3⟩:=R;refine⟨fun _ _=>trivial,?_⟩;rw[Oper.semAt_eq _ _ _ J];rcases h1 with h1|⟨h1,rfl⟩
  .rw[h1,Oper.uponIn_value];exact G v' ρ' w' u h3
  .rw[h1,Oper.uponIn_skip];exact G undef ρ' w' u h3
 obtain⟨dst,op,ty,pos,X,Y⟩:=o;unfold T5 at k;simp only at k B;split at k
 .rename_i f xs tys;have l1:=aK (ρ:=ρ) (fr:=fr) (g:=a.eval) (xs:=xs.toList) fun x C=>B x (tS rfl x C)
  have k:(call.fn f).run ((pX xs.toList).run fr) m=some (v,m'):=k;rw[jS]at k;refine F f _ _ (fun c n=>by cases n) k l1 ?_;have L:xs.map a.eval=⟨xs.toList.map a.eval⟩:=by apply H7;simp
  simp only[execOp,resolve,Act.eval,Deferred.ofValue,pure_bind,invoke,L];simp
 .rename_i x xs tys Z;have l1:=aK (ρ:=ρ) (fr:=fr) (g:=a.eval) (xs:=xs.toList) fun y M=>B y (tS rfl y M)
  have C:VR ρ (ev fr x) (a.eval x):=B x (by show x ∈ (#[x]++xs:Array Operand).toList;simp);have k:CA call m ((P1 x).run fr) ((pX xs.toList).run fr)=some (v,m'):=k;rw[jS,bI]at k;have L:xs.map a.eval=⟨xs.toList.map a.eval⟩:=by apply H7;simp
  unfold CA at k;split at k
  .rename_i f vs t;unfold qX at t;split at t
   .rename_i f0 p q E;cases t;rw[E]at C;generalize D:a.eval x=gx at C;cases C with
    | pure hp=>simp[H3]at hp
    | func W O h1 u =>
      rename_i p q U T;have lp:LR ρ p U:=⟨W,h1⟩;have lq:LR ρ q T:=⟨O,u⟩;refine F f _ _ (fun c n=>by cases n) k (lp.append (l1.append lq)) ?_;simp only[execOp,resolve,D,Deferred.ofValue,pure_bind,invoke,L];simp
   .cases t
  .split at k
   .rename_i b M;have E:=vC M;rw[E]at C k;obtain⟨l,V,D⟩:=PX C;obtain⟨f,tmps,as,bd,h1,u⟩:=n.yl.ok ρ m m' w b _ _ v l k I h l1 V;refine⟨fun _ _=>trivial,?_⟩;have he:(execOp a.eval ⟨dst,.call ⟨.value x,xs,tys⟩,ty,pos,X,Y⟩).run P w=(Instr.yield l.blk ⟨xs.toList.map a.eval⟩).run P w:=by
     simp only[execOp,resolve,D,Deferred.ofValue,pure_bind,invoke,L];simp
    rw[Oper.semAt_eq _ _ _ (fun c n=>by cases n),he,h1,Oper.uponIn_round];refine⟨eD,?_⟩;have u:RoundIn (fw z.rd) 0 P l.blk f tmps as bd w (TA P base ρ m m' w v):=u;refine u.mono fun e w' ⟨v',ρ',he,H,N⟩=>?_
    subst he;exact G v' ρ' w' H N
   .cases k
 .have k:PO P (tM P _) _ fr m=some (v,m'):=k;unfold PO at k;rw[tL]at k;split at k
  .rename_i r hr;cases k;exact s (fun c n=>by have n:op=.defer c:=n;subst n;cases hr) (ZP h.hr h.bs hr h.fr B)
  .split at k
   .rename_i r hr;cases k;exact s (fun c n=>by have n:op=.defer c:=n;subst n;cases hr) (TJ h.hr hr B I)
   .split at k
    .rename_i r hr;cases k;exact s (fun c n=>by have n:op=.defer c:=n;subst n;cases hr) (A0V h.hr h.bs hr h.fr B I)
    .exact s (fun c n=>by have n:op=.defer c:=n;subst n;cases k) (YN h.hr h.bs k h.fr B I)
def m6{m m':Mem}{call:L4}{fr:Fr}{v:Value}(b:Q4 P base gl call)(a:(T5 P call o).run fr m=some (v,m')):m.lg.le m'.lg:=by
 unfold T5 at a;split at a
 .exact(b.fn _).lg _ _ _ _ a
 .have a:CA call m _ _=some (v,m'):=a;unfold CA at a;split at a
  .exact(b.fn _).lg _ _ _ _ a
  .split at a
   .exact b.yl.lg _ _ _ _ a
   .cases a
 .have a:PO P (tM P _) _ fr m=some (v,m'):=a;unfold PO at a;rw[tL]at a;split at a
  .rename_i r hr;cases a;show m.lg.le _;rw[ZQ hr];exact .refl _
  .split at a
   .rename_i r hr;cases a;exact(GZ hr).1
   .split at a
    .rename_i r hr;cases a;exact A0W hr
    .exact YO a
def MF{lg:Lg}{v:Value}{b c:Bool}(h:AH lg v b=some (c,lg')):lg.le lg':=by
 unfold AH at h;split at h
 .cases h;exact .refl _
 .split at h
  .rename_i a;cases h;exact cF a
  .cases h
 .obtain⟨_,h⟩:=A2 h;cases h;exact .refl _
def dO{lg:Lg}{fr:Fr}{all:List Oper}{b:Bool}(h:s8 nt fr lg all o=some (b,lg')):lg.le lg':=by
 unfold s8 at h;split at h
 .cases h;exact .refl _
 .split at h
  .split at h
   .obtain⟨_,h⟩:=A2 h;exact MF h
   .cases h
  .cases h
def lO{ρ:Ren}{lg:Lg}{v v':Value}{b c:Bool}(h:AH lg v b=some (c,lg'))(a:VR ρ v v')(n:Sat lg'):(v'=.bool (c == b)∨(c=false/\v'=.tuple ⟨[]⟩)):=by
 unfold AH at h;split at h
 .rename_i d;cases h;left;rw[y4 a];cases d<;>cases b<;>rfl
 .split at h
  .rename_i d l f;cases h;left
   rw[iL f a n];cases d<;>cases b<;>rfl
  .cases h
 .rename_i u _ _;obtain⟨h3,k⟩:=A2 h;cases k;right
  have hu:v=.tuple ⟨[]⟩:=by
   unfold jL at h3;split at h3
   .rfl
   .cases h3
  rw[hu]at a;obtain⟨cs',e,m⟩:=oJ a;cases m.nil_inv;exact⟨rfl,e⟩
def iV{all:Array Oper}{tmps:Q0}{want b:Bool}{t:Tmp}(l:o.guard=some (j,want))(hp:all.toList[j]? = some p)(m:p.dst=some t)(c:t<tmps.size)
  (k:tmps.getD t undef=.bool (b == want)∨(b=false/\tmps.getD t undef=.tuple ⟨[]⟩)):Region.wanted o (yielded all tmps)=b:=by
 have a:tmps[t]? = some (tmps.getD t undef):=by simp[B0,c]
 have f:(all[j]?).bind (·.dst)=some t:=by
  have:all[j]? = some p:=by simpa using hp
  simp[this,m]
 unfold Region.wanted;simp only[l];rcases k with e|⟨rfl,e⟩
 .have:yielded all tmps j=some (b == want):=by simp[yielded,f,a,e]
  rw[this];cases b<;>cases want<;>rfl
 .have:yielded all tmps j=none:=by simp[yielded,f,a,e]
  rw[this];rfl
def AI{ρ:Ren}{lg:Lg}{all:Array Oper}{fr:Fr}{a:Act}{b:Bool}(h:FrR z ρ nt fr a)(hw:s8 nt fr lg all.toList o=some (b,lg'))(k:Sat lg'):Region.wanted o (yielded all a.tmps)=b:=by
 unfold s8 at hw;split at hw
 .rename_i c;cases hw;simp[Region.wanted,c]
 .rename_i j want c;split at hw
  .rename_i p hp;split at hw
   .rename_i t f;obtain⟨h1,e⟩:=A2 hw;have h1:t<nt:=A1 h1;exact iV c hp f (by rw[h.size];exact h1) (lO e (h.get t h1) k)
   .cases hw
  .cases hw
def rU{β:Type}(t:Nat)(v:Value)(fr:Fr)(k:Fr->β):qD (sel (t / 64%8)) (sel (t / 8%8)) (sel (t%8)) v fr k=k (fr.set t v):=yF t v fr k
def qG(d:Option Tmp)(v:Value)(fr:Fr):Fr:=match d with|some t=>fr.set t v|none=>fr
def y7(d:Option Tmp)(v:Value)(fr:Fr)(k:Fr->Option S):(qH d).run v fr k=k (qG d v fr):=by
 cases d with
 | none=>rfl
 | some t=>exact rU t v fr k
def FrR.dst{ρ:Ren}{fr:Fr}{a:Act}{v v':Value}(h:FrR z ρ nt fr a)(b:tH nt d=true)(c:VR ρ v v'):FrR z ρ nt (qG d v fr) (a.put d v'):=by
 cases d with
 | none=>exact h
 | some t=>exact h.put (A1 b) c
def i6{c:OpC}{next:SZ}{s a:S}(h:gR c (qH d) next s=some a):∃ v m',c.run s.fr s.m=some (v,m')/\s.m.hi<=m'.hi/\next.run ⟨qG d v s.fr,m'⟩=some a:=by
 unfold gR at h;obtain⟨fr,m⟩:=s;simp only at h;split at h
 .rename_i v m' hr;obtain⟨h1,b⟩:=A2 h;rw[y7]at b;exact⟨v,m',hr,A1 h1,b⟩
 .cases h
def nZ{call:L4}{all:List Oper}:∀ (r:List Oper) (s a:S),(P7 P nt gl call all r).run s=some a->s.m.hi<=a.m.hi
 | [],s,a,h=>by
   have h:some s=some a:=h;cases h;exact A6 _
 | o::r,s,a,h=>by
   unfold P7 at h;cases c:tH nt o.dst && FI nt gl o.op with
   | false=>rw[c]at h;cases h
   | true =>
     rw[c]at h;simp only[D7]at h;split at h
     .obtain⟨v,m',_,h1,b⟩:=i6 h;exact B6 h1 (nZ r _ _ b)
     .have h:bR nt all o (T5 P call o) (qH o.dst) (P7 P nt gl call all r) s=some a:=h;unfold bR at h;obtain⟨fr,⟨H,n,W,hi,lg⟩⟩:=s;simp only at h;split at h
      .obtain⟨v,m',_,h1,b⟩:=i6 h;exact B6 h1 (nZ r _ _ b)
      .rename_i lg' _;rw[y7]at h;exact nZ r ⟨qG o.dst undef fr,⟨H,n,W,hi,lg'⟩⟩ a h
      .cases h
def gW{call:L4}(b:Q4 P base gl call){all:List Oper}:∀ (r:List Oper) (s a:S),(P7 P nt gl call all r).run s=some a->s.m.lg.le a.m.lg
 | [],s,a,h=>by
   have h:some s=some a:=h;cases h;exact .refl _
 | o::r,s,a,h=>by
   unfold P7 at h;cases e:tH nt o.dst && FI nt gl o.op with
   | false=>rw[e]at h;cases h
   | true =>
     rw[e]at h;simp only[D7]at h;split at h
     .obtain⟨v,m',h0,h1,c⟩:=i6 h;exact(m6 b h0).trans (gW b r _ _ c)
     .have h:bR nt all o (T5 P call o) (qH o.dst) (P7 P nt gl call all r) s=some a:=h;unfold bR at h;obtain⟨fr,⟨H,n,W,hi,lg⟩⟩:=s;simp only at h;split at h
      .rename_i lg' hw;obtain⟨v,m',h0,h1,c⟩:=i6 h;exact(dO hw).trans ((m6 b h0).trans (gW b r _ _ c))
      .rename_i lg' hw;rw[y7]at h;exact(dO hw).trans (gW b r ⟨qG o.dst undef fr,⟨H,n,W,hi,lg'⟩⟩ a h)
      .cases h
def sI{call:L4}{all:Array Oper}{Q:Exit->Act->World->Prop}(k:Q4 P base gl call):∀ (r:List Oper) (ρ:Ren) (s c:S) (a:Act) (w:World),(P7 P nt gl call all.toList r).run s=some c->Sat c.m.lg->At P base gl ρ s.m c.m.hi w->FrR z ρ nt s.fr a ->
  (∀ ρ' a' w',FrR z ρ' nt c.fr a'->St P base ρ ρ' s.m c.m w w'->Q .normal a' w')->wpL P z.rd all Q r a w
 | [],ρ,s,c,a,w,h,hS,b,f,t=>by
   have h:some s=some c:=h;cases h;exact t ρ a w f (.refl b.hr)
 | o::r,ρ,s,c,a,w,h,hS,b,f,t=>by
   unfold P7 at h;cases A:tH nt o.dst && FI nt gl o.op with
   | false=>rw[A]at h;cases h
   | true =>
     rw[A]at h;simp only[D7]at h;obtain⟨u,y⟩:=B3 A;have plain:∀ (s:S),At P base gl ρ s.m c.m.hi w->FrR z ρ nt s.fr a->(∀ ρ' a' w',FrR z ρ' nt c.fr a'->St P base ρ ρ' s.m c.m w w'->Q .normal a' w') ->
       gR (T5 P call o) (qH o.dst) (P7 P nt gl call all.toList r) s=some c->Region.wanted o (yielded all a.tmps)=true->wpL P z.rd all Q (o::r) a w:=fun s b f t hr hw=>by
      obtain⟨v,m',h1,C,h3⟩:=i6 hr;have hh:=nZ r _ _ h3;have e:Sat m'.lg:=M4.le hS (gW k r _ _ h3);refine lN fun K B=>?_
      rw[B2 hw];refine lW k h1 e (b.less hh) (f.ops b.gr y) fun v' ρ' w' D st=>B _ _ ?_
      refine sI k r ρ' _ c _ _ h3 hS (b.step st) ((f.mono st.ext).dst u D) fun ρ2 a2 w2 f2 st2=>t ρ2 a2 w2 f2 (St.trans b.fr st st2)
     split at h
     .rename_i E;exact plain s b f t h (by simp[Region.wanted,E])
     .have h:bR nt all.toList o (T5 P call o) (qH o.dst) (P7 P nt gl call all.toList r) s=some c:=h;unfold bR at h;obtain⟨fr,m⟩:=s;obtain⟨H,n,W,hi,lg⟩:=m;simp only at h;split at h
      .rename_i lg' hw;have l:St P base ρ ρ ⟨H,n,W,hi,lg⟩ ⟨H,n,W,hi,lg'⟩ w w:=St.wLg (m:=⟨H,n,W,hi,lg⟩) b.hr lg';obtain⟨v,m',h0,h1,C⟩:=i6 h;have e:Sat lg':=M4.le hS ((m6 k h0).trans (gW k r _ _ C));exact plain ⟨fr,⟨H,n,W,hi,lg'⟩⟩ (b.wLg lg') f (fun ρ2 a2 w2 f2 st2=>t ρ2 a2 w2 f2 (St.trans b.fr l st2)) h (AI f hw e)
      .rename_i lg' hw;have l:St P base ρ ρ ⟨H,n,W,hi,lg⟩ ⟨H,n,W,hi,lg'⟩ w w:=St.wLg (m:=⟨H,n,W,hi,lg⟩) b.hr lg';rw[y7]at h;have e:Sat lg':=M4.le hS (gW k r ⟨qG o.dst undef fr,⟨H,n,W,hi,lg'⟩⟩ c h);refine lN fun K B=>?_
       rw[B1 (by rw[AI f hw e];simp)];exact B _ _ (sI k r ρ ⟨qG o.dst undef fr,⟨H,n,W,hi,lg'⟩⟩ c _ _ h hS (b.wLg lg') (f.dst u (lQ ρ)) fun ρ2 a2 w2 f2 st2=>t ρ2 a2 w2 f2 (St.trans b.fr l st2))
      .cases h
def Ex.out:Ex->Exit
 | .normal=>.normal
 | .exit id=>.exit id
 | .ret=>.ret
def UU{ops:List Oper}{z:Zn}{ρ:Ren}{s:S}{a:Act}{w:World}(hm:hO P nt gl s.fr s.m.H ops=true)(hr:HR P base ρ s.m.H w)(J:GR gl ρ)(W:FrR z ρ nt s.fr a):EE P ops (a,w):=by
 obtain⟨h1,Y⟩:=B3 hm;have key:∀ o ∈ ops,∀ t x,iN o.op=some (t,x)->∃ b l cs T,ev s.fr x=.pointer (some b)/\ρ b.block=some l/\a.eval x=.pointer (some ⟨l.blk,b.off+l.sh,none⟩)/\Hp.get s.m.H b.block=some (.cells cs T false)/\b.block<=G1/\l.on=true/\vA P w t (a.eval x):=fun o I t x v=>by
  have hp:=D2.1 h1 o I;unfold OK at hp;rw[v]at hp;simp only at hp;cases hk:okX nt gl x with
  | false=>rw[hk]at hp;cases hp
  | true =>
    rw[hk]at hp;simp only[N5,D3]at hp;split at hp
    .rename_i b g sz A B O;split at hp
     .rename_i cs T az f;obtain⟨q1,hp⟩:=B3 hp;obtain⟨q2,q3⟩:=B3 hp;have q1:=A1 q1;have q2:b.off<cs.length:=A1 q2;have q3:=A1 q3;have K:=W.ev J hk;rw[A]at K;obtain⟨l,l1,_,N⟩:=K9 K;obtain⟨⟨D,C,fz,T',c1,c2,_⟩,_⟩:=hr.atl l1 f;have n:∀ k,k<cs.length->l.sh+k<C.size:=fun k hk=>by
       obtain⟨v',G,_⟩:=c2 k cs[k] (A4 hk);exact(B5.1 G).1
      refine⟨b,l,cs,T,A,l1,N,f,q3,D,l.blk,b.off+l.sh,C,T',fz,sz,g,N,c1,O,B,?_,?_⟩
      .have:=n b.off q2;by_cases h0:sz=0
       .omega
       .have:=n (b.off+sz-1) A9;omega
      .have:=n b.off q2;omega
     .cases hp
    .cases hp
 refine⟨fun o I t x v=>by obtain⟨_,_,_,_,_,_,_,_,_,_,h⟩:=key o I t x v;exact h,fun i j o p E hi M he F t x u y v L Q ay A B=>?_⟩;obtain⟨b,l,cs,T,k1,Z,U,k4,k5,k6,_⟩:=key o (D6 hi) t x v;obtain⟨bd,r,ds,V,n1,R,X,n4,n5,n6,_⟩:=key p (D6 M) u y L;have c:=BD Y E hi M he;unfold ST at c;rw[F]at c;simp only[D7,v,L,k1,n1]at c;rw[U]at A;rw[X]at B;cases A;cases B;show l.blk≠r.blk;intro e;obtain⟨_,hu⟩:=hr.atl Z k4;obtain⟨_,hu⟩:=hu rfl k6
 have:=hu bd.block n5 _ r n4 R (.inl ⟨rfl,n6,e.symm⟩);rw[this,bC]at c;cases c
def At.drew{ρ:Ren}{m:Mem}{hi:Nat}{w:World}(a:At P base gl ρ m hi w)(d:Nat):At P base gl ρ m hi { w with drawn:=d } :=
 ⟨⟨fun b l h=>a.hr.dom b l h,fun id hid ab c=>by
  obtain⟨l,k,f,e⟩:=a.hr.at_ id hid ab c;exact⟨l,k,BR.mono (w:=w) (fun _ _ h=>h) (fun _ _=>rfl) f,e⟩⟩,a.bs,a.fr,a.gr,a.nh,a.wb,a.gf⟩
def St.undrew{ρ ρ':Ren}{m m':Mem}{w w':World}{d:Nat}(st:St P base ρ ρ' m m' { w with drawn:=d } w'):St P base ρ ρ' m m' w w' :=
 ⟨st.ext,st.new,st.nle,st.hle,st.nhi,st.hr,st.wsub,st.wrw,st.keep,st.size,st.os,st.blk,st.same,st.tch⟩
def FD{call:L4}{ops:Array Oper}{z:Zn}{id:Nat}(k:P.follows .mixedOrders=true)(v:Q4 P base gl call){ρ:Ren}{s e:S}{a:Act}{w:World}{Q:Exit->Act->World->Prop}(hr:gS ops.toList=true)(hm:hO P nt gl s.fr s.m.H ops.toList=true)(h:(P7 P nt gl call ops.toList ops.toList).run s=some e)(F:Sat e.m.lg)(c:At P base gl ρ s.m e.m.hi w)(l:FrR z ρ nt s.fr a)
  (E:∀ ρ' a' w',FrR z ρ' nt e.fr a'->St P base ρ ρ' s.m e.m w w'->Q .normal a' w'):(Code.region id ops true).wpIn (fw z.rd) 0 P Q a w:=by
 refine bK k (TT hr (fun w' f=>?_) (fun d=>?_) _)
 .have n:=UU hm c.hr c.gr l;refine⟨fun o A t x u=>?_,n.ap⟩;obtain⟨b,o',C,T,fz,sz,g,D,B,y⟩:=n.pl o A t x u;exact⟨b,o',C,T,fz,sz,g,D,by show w'.heap[b]? = _;rw[f];exact B,y⟩
 .exact sI v ops.toList ρ s e a { w with drawn:=d } h F (c.drew d) l fun ρ' a' w' f1 st=>⟨rfl,E ρ' a' w' f1 st.undrew⟩
def d7(P:Program)(base gl:Nat)(call:L4):Prop :=
 P.follows .mixedOrders=true/\∀ (nt:Nat) (ops:Array Oper),zO ops=true->∀ (s b:S),c8 P nt gl call ops.toList ops.toList 0 (V7 ops.toList []) [] [] s=some b->(s.m.hi<=b.m.hi/\s.m.lg.le b.m.lg) /\
  ∀ (z:Zn) (ρ:Ren) (a:Act) (w:World) (id:Nat) (Q:Exit->Act->World->Prop),Sat b.m.lg->At P base gl ρ s.m b.m.hi w->FrR z ρ nt s.fr a ->
   (∀ ρ' a' w',FrR z ρ' nt b.fr a'->St P base ρ ρ' s.m b.m w w'->Q .normal a' w')->(Code.region id ops true).wpIn (fw z.rd) 0 P Q a w
def L8:∀ (q r:List Bool) (c:Code),G3 (q++r) c=(G3 q c).bind (G3 r)
 | [],r,c=>rfl
 | false::q,r,.seq a b=>L8 q r a
 | true::q,r,.seq a b=>L8 q r b
 | false::q,r,.cond _ a b=>L8 q r a
 | true::q,r,.cond _ a b=>L8 q r b
 | false::q,r,.block _ c=>L8 q r c
 | false::q,r,.loop c=>L8 q r c
 | false::q,r,.scope c=>L8 q r c
 | true::q,r,.scope c=>rfl
 | true::q,r,.block _ c=>rfl
 | true::q,r,.loop c=>rfl
 | b::q,r,.skip=>by cases b<;>rfl
 | b::q,r,.region _ _ _=>by cases b<;>rfl
 | false::q,r,.rangeFunc _ _ a _=>L8 q r a
 | true::q,r,.rangeFunc _ _ _ b=>L8 q r b
 | b::q,r,.exit _=>by cases b<;>rfl
 | b::q,r,.label _=>by cases b<;>rfl
 | b::q,r,.goto _=>by cases b<;>rfl
 | b::q,r,.ret=>by cases b<;>rfl
 | b::q,r,.refuse _=>by cases b<;>rfl
def H1{b:Bool}{body c d:Code}(h:G3 q body=some c)(a:G3 [b] c=some d):G3 (q++[b]) body=some d:=by
 rw[L8,h];exact a
structure w9 (P:Program) (base gl nt:Nat) (c:Code) (L:S->Option (Ex×S)):Prop where
 lg:∀ (s s':S) (e:Ex),L s=some (e,s')->s.m.hi<=s'.m.hi/\s.m.lg.le s'.m.lg
 ok:∀ (s s':S) (e:Ex),L s=some (e,s')->Sat s'.m.lg->∃ N,∀ (z:Zn) (ρ:Ren) (a:Act) (w:World) (Q:Exit->Act->World->Prop),At P base gl ρ s.m s'.m.hi w->FrR z ρ nt s.fr a ->
  (∀ ρ' a' w',FrR z ρ' nt s'.fr a'->St P base ρ ρ' s.m s'.m w w'->Q e.out a' w')->Code.roundsIn (fw z.rd) 0 P c Q N a w
def orL(a b:S->Option (Ex×S))(s:S):Option (Ex×S) :=
 match a s with
 | some r=>some r
 | none=>b s
def w9.or{nt:Nat}{c:Code}{a b:S->Option (Ex×S)}(f:w9 P base gl nt c a)(k:w9 P base gl nt c b):w9 P base gl nt c (orL a b):=by
 refine⟨fun s m e h=>?_,fun s m e h l=>?_⟩
 .unfold orL at h;split at h
  .rename_i r hr;cases h;exact f.lg _ _ _ hr
  .exact k.lg _ _ _ h
 .unfold orL at h;split at h
  .rename_i r hr;cases h;exact f.ok _ _ _ hr l
  .exact k.ok _ _ _ h l
def ED(P:Program)(base gl nt:Nat)(body:Code)(lp:LpT):Prop :=
 (∃ fn,P.funcs[lp.me]? = some fn/\fn.body=some body/\fn.ntmps=nt)/\∀ q x L,G3 q body=some (.loop x)->lp.look q=some L->w9 P base gl nt x L
def jD{m m':Mem}{ab:AB}{k:Nat->Value}{v:Value}(h:W5 m ab k=some (v,m')):v=k m.n/\m.hi<=m'.hi/\m'.lg=m.lg:=by
 obtain⟨_,a,rfl⟩:=J7 h;exact⟨a,(J1 _ _).1,rfl⟩
def iX{m m':Mem}{id:Nat}{ab:AB}(h:x7 m id ab=some m'):m'.hi=m.hi/\m'.lg=m.lg:=by
 obtain⟨_,rfl⟩:=R1 h;exact⟨rfl,rfl⟩
def pN{fr:Fr}{hi b:Nat}{r:Res}{e:Ex}{a:S}(h:mD fr hi b r=some (e,a)):∃ v m f q vs st m',r=some (v,m)/\Hp.get m.H b=some (.lp f q vs st)/\nEx st=some e/\hi<=m.hi/\x7 m b (.lp f q vs 3)=some m'/\a=⟨fr,m'⟩:=by
 unfold mD at h;split at h
 .rename_i v m;split at h
  .rename_i f q vs st c;split at h
   .rename_i k he;obtain⟨h1,h⟩:=A2 h;split at h
    .rename_i m' hm;cases h;exact⟨_,_,_,_,_,_,_,rfl,c,he,A1 h1,hm,rfl⟩
    .cases h
   .cases h
  .cases h
 .cases h
def sD{call:L4}{f:FuncId}{fr:Fr}{m:Mem}{e:Ex}{t:S}(h:x4 P nt call f q g fr m=some (e,t)) :
  ∃ m1 k a b,W5 m (.lp f q (frL fr 0 nt) 0) yv=some (yv m.n,m1)/\g=.func (.func k) a b/\mU P k=true/\mD fr m1.hi m.n ((call.fn k).run (a.toList++([yv m.n]++b.toList)) m1)=some (e,t):=by
 unfold x4 at h;rw[G5]at h;split at h
 .rename_i v m1 l;have w:=(jD l).1;subst w;have u:bJ (yv m.n)=some m.n:=rfl;split at h
  .rename_i k as b c s;rw[u]at s;cases s;obtain⟨h1,h⟩:=A2 h;unfold qX at c;split at c
   .cases c;exact⟨m1,_,_,_,l,rfl,h1,h⟩
   .cases c
  .cases h
 .cases h
def kP{call:L4}(l:Q4 P base gl call){f:FuncId}{fr:Fr}{m:Mem}{e:Ex}{c:S}(h:x4 P nt call f q g fr m=some (e,c)):m.hi<=c.m.hi/\m.lg.le c.m.lg:=by
 obtain⟨m1,k,a,b,h1,_,_,n⟩:=sD h;obtain⟨v,m2,f,q,vs,st,m3,u,_,_,t,s,rfl⟩:=pN n
 have:=(l.fn k).lg _ _ _ _ u;obtain⟨g1,g2⟩:=iX s;obtain⟨_,y,w⟩:=jD h1;refine⟨by show m.hi<=m3.hi;rw[g1];exact B6 y t,?_⟩;show m.lg.le m3.lg;rw[g2,<- w];exact this
def xM{call:L4}{f:FuncId}{x:XC}{s t:S}{e:Ex}(h:tU P nt call f q x s=some (e,t)):nt<=510 /\
  ((∃ k f0 q0 c,bJ (s.fr.get 511)=some k/\Hp.get s.m.H k=some (.lp f0 q0 c 1)/\x4 P nt call f q (x.run s.fr) s.fr s.m=some (e,t)) ∨
    (jL (s.fr.get 511)=true/\∃ m1,W5 s.m (.dfr true) (fun b=>.pointer (some ⟨b,0,none⟩))=some (.pointer (some ⟨s.m.n,0,none⟩),m1) /\
      x4 P nt call f q (x.run s.fr) (s.fr.set 510 (dv (s.m.n::eG (s.fr.get 510)))) m1=some (e,t))):=by
 unfold tU at h;obtain⟨fr,m⟩:=s;obtain⟨h1,h⟩:=A2 h;refine⟨A1 h1,?_⟩;split at h
 .rename_i k w;split at h
  .rename_i f0 q0 c A;exact .inl ⟨k,f0,q0,c,w,A,h⟩
  .cases h
 .obtain⟨v,h⟩:=A2 h;refine .inr ⟨v,?_⟩;split at h
  .rename_i a m1 u;have y:=(jD u).1;cases y;rw[G5]at h;have:qD (sel 7) (sel 7) (sel 6) (dv (m.n::eG (fr.get 510))) fr (fun l=>x4 P nt call f q (x.run fr) l m1)=x4 P nt call f q (x.run fr) (fr.set 510 (dv (m.n::eG (fr.get 510)))) m1:=rU 510 _ _ _;rw[this]at h;exact⟨m1,u,h⟩
  .cases h
def LP{call:L4}(b:Q4 P base gl call){f:FuncId}{x:XC}{s a:S}{e:Ex}(h:tU P nt call f q x s=some (e,a)):s.m.hi<=a.m.hi/\s.m.lg.le a.m.lg:=by
 obtain⟨_,⟨_,_,_,_,_,_,h⟩|⟨_,m1,c,h⟩⟩:=xM h
 .exact kP b h
 .have:=kP b h;obtain⟨_,k,l⟩:=jD c;rw[l]at this;exact⟨B6 k this.1,this.2⟩
def IM(fr:Fr):∀ (n i j:Nat),(frL fr i n)[j]? = if j<n then some (fr.get (i+j))else none
 | 0,i,j=>by simp[frL]
 | n+1,i,0=>by simp[frL]
 | n+1,i,j+1=>by
   rw[frL,O2,IM fr n (i+1) j];have:i+1+j=i+(j+1):=A9;rw[this];by_cases h:j<n
   .rw[B2 h,B2 A9]
   .rw[B1 h,B1 A9]
def zH(fr:Fr):∀ (n i:Nat),(frL fr i n).length=n
 | 0,i=>rfl
 | n+1,i=>by simp[frL,zH fr n]
def FrR.list{ρ:Ren}{fr:Fr}{a:Act}(h:FrR z ρ nt fr a):LR ρ (frL fr 0 nt) a.tmps.toList:=by
 refine⟨by rw[zH];simpa using h.size.symm,fun i v v' h1 b=>?_⟩;rw[IM]at h1;split at h1
 .rename_i hi;cases h1
  have:=h.get i hi;rw[D8];have h3:a.tmps.getD i undef=v':=by
   have:a.tmps[i]? = some v':=by simpa using b
   simp[B0,this]
  rw[h3]at this;exact this
 .cases h1
def GA{k:FuncId}(h:mU P k=true):∃ fn c,P.funcs[k]? = some fn/\fn.body=some c:=by
 unfold mU at h;split at h
 .rename_i fn a;split at h
  .rename_i c b;exact⟨fn,c,by simpa using a,b⟩
  .cases h
 .cases h
def kF{k:FuncId}{args:Q0}{w w':World}{v:Value}(h:mU P k=true):(callFunc k args).run P w≠.ok (.value v) w':=by
 obtain⟨fn,c,h1,b⟩:=GA h;by_cases a:fn.name = "runtime.NumGoroutine"
 .simp[callFunc,h1,a]
 .simp[callFunc,h1,a,b]
def eS{w:World}{l:Nat}{o:Obj}(h:l<w.heap.size):(w.putObj l o).heap.size=w.heap.size/\(w.putObj l o).heap[l]? = some o/\∀ k,k≠l->(w.putObj l o).heap[k]? = w.heap[k]? := ⟨by simp[World.putObj],World.putObj_heap_same h,fun k hk=>World.putObj_heap_other hk⟩
def sC{call:L4}(hc:Q4 P base gl call){fn:Func}{body:Code}(f1:P.funcs[me]? = some fn)(f2:fn.body=some body)(f3:fn.ntmps=nt)(hq:G3 q body=some (.rangeFunc x ps as bd))
  {fr:Fr} {m:Mem} {e:Ex} {I:S} (h:x4 P nt call me q g fr m=some (e,I)) (hS:Sat I.m.lg) {ρ:Ren} {a:Act} {w:World} {r:Loop} (u:At P base gl ρ m I.m.hi w) (Z:FrR z ρ nt fr a) (X:VR ρ g (a.eval x))
  (hr:r.state=.ready/\r.pending=none/\r.tmps=a.tmps/\r.params=ps/\r.assign=as/\r.body=bd) {Q:Exit->Act->World->Prop}
  (hQ:∀ ρ' w',FrR z ρ' nt I.fr a->St P base ρ ρ' m I.m w w'->Q e.out a w') :
  ∃ k args d,(resolve a.eval (rangeCall x w.heap.size) 0).run P (w.alloc (.loop r))=.ok d (w.alloc (.loop r))/\(invoke d.target d.args).run P (w.alloc (.loop r))=.ok (.enter k args) (w.alloc (.loop r)) /\
   CallsIn (fw z.rd) 0 P k args (w.alloc (.loop r)) (rangePost (fw z.rd) 0 P w.heap.size Q a):=by
 obtain⟨m1,k,A,B,h1,O,E,h2⟩:=sD h;obtain⟨v,m2,ff,qq,vs,st,m3,W,V,C,e4,e5,rfl⟩:=pN h2;obtain⟨g1,g2⟩:=iX e5;obtain⟨_,g3,g4⟩:=jD h1;have J:Sat m2.lg:=by have:Sat m3.lg:=hS;rwa[g2]at this
 have f:I2 ρ m.n m3.hi:=u.fr;have hle:m1.hi<=m3.hi:=by rw[g1];exact e4
 obtain⟨r1,r2,r3,r4,r5,r6⟩:=hr;subst r4;subst r5;subst r6;have s:(w.alloc (.loop r)).heap=w.heap.push (.loop r):=rfl;have y:ρ m.n=none:=f m.n (A6 _) (by
  obtain⟨_,_,q⟩:=J7 h1;have:m1.hi=upN m.hi m.n:=by rw[q]
  have h3:=(J1 m.hi m.n).2;omega)
 obtain⟨_,k1,st1⟩:=St.alloc (w':=w.alloc (.loop r)) (o:=.loop r) (l:=lc w.heap.size 0 0) u.hr u.bs h1 (f.less hle) ⟨rfl,rfl,rfl⟩ s rfl (by
  refine⟨⟨rfl,rfl⟩,r,by simp[s],⟨fn,body,x,f1,f2,hq,by rw[zH,f3]⟩,?_,⟨r1,r2⟩⟩;rw[r3];exact Z.list.mono (T7 y))
 have t:=u.step st1;obtain⟨A,rfl⟩:∃ l:D0,A=⟨l⟩:=⟨A.toList,rfl⟩;obtain⟨B,rfl⟩:∃ l:D0,B=⟨l⟩:=⟨B.toList,rfl⟩;subst O;generalize U:a.eval x=gx at X;cases X with
 | pure hp=>simp[H3]at hp
 | func ha G q1 q2 =>
   rename_i K H;have lA:LR ρ A K:=⟨ha,q1⟩;have lB:LR ρ B H:=⟨G,q2⟩;have hy:VR (upd ρ m.n (lc w.heap.size 0 0)) (yv m.n) (.func (.yield w.heap.size) #[] #[]):=VR.yv k1;have Y:=(lA.mono st1.ext).append ((LR.cons hy .nil).append (lB.mono st1.ext));refine⟨k,⟨K++([.func (.yield w.heap.size) #[] #[]]++H)⟩,{ target:=.fn (.func k) ⟨H⟩,args:=⟨K⟩++#[.func (.yield w.heap.size) #[] #[]] },?_,?_,?_⟩
   .show(Deferred.ofValue (a.eval x) _).run P _=_;rw[U];simp[Deferred.ofValue,Act.eval]
   .have T:(callFunc k ⟨K++([.func (.yield w.heap.size) #[] #[]]++H)⟩).run P (w.alloc (.loop r))=.ok (.enter k ⟨K++([.func (.yield w.heap.size) #[] #[]]++H)⟩) (w.alloc (.loop r)):=by
     rcases(hc.fn k).ok _ m1 m2 _ _ _ v W J (t.less (by show m2.hi<=m3.hi;rw[g1];exact A6 _)) Y with⟨c1,_⟩|⟨v',ρ',w',c1,_⟩
     .exact c1
     .exact absurd c1 (kF E)
    rw[<- T];show(callFunc k _).run P _=_;congr 2;apply H7;simp
   .rcases(hc.fn k).ok _ m1 m2 _ _ _ v W J (t.less (by show m2.hi<=m3.hi;rw[g1];exact A6 _)) Y with⟨_,c2⟩|⟨v',ρ',w',c1,_⟩
    .refine v7.2 (c2.mono fun en w2 ⟨v',ρ2,he,hv,st2⟩=>?_);subst he;have k2:=st2.ext _ _ k1;obtain⟨b1,b2⟩:=st2.hr.atl k2 V;obtain⟨⟨b3,b4⟩,D,M,N⟩:=b1;have M:w2.heap[w.heap.size]? = some (.loop D):=M;have F:D.state≠.busy:=by
      have c:=N.st;intro G
      match st,c,C with
      | 0,c,_=>rw[G]at c;cases c.1
      | 2,c,_=>rw[G]at c;cases c.1
      | k+4,c,_=>rw[G]at c;cases c.1
     obtain⟨p1,p2,p3⟩:=eS (o:=.loop { D with state:=.exhausted }) (B5.1 M).1;have R:St P base ρ2 ρ2 m2 m3 w2 (w2.putObj w.heap.size (.loop { D with state:=.exhausted })):=St.write st2.hr e5 V rfl k2 rfl ⟨rfl,rfl,rfl⟩ p1 p3 ⟨⟨rfl,rfl⟩,_,p2,N.code,N.fr,trivial⟩;have L:St P base ρ ρ2 m m3 w _:=St.trans f st1 (St.trans t.fr st2 R);have b:=hQ ρ2 _ (Z.mono L.ext) L;refine⟨D.pending,_,run_endLoop M F,?_⟩;have c:=N.st
     match st,c,C with
     | 0,c,C=>cases C;rw[show D.pending=none from c.2]at b ⊢;exact b
     | 2,c,C=>cases C;rw[show D.pending=some .ret from c.2]at b ⊢;exact wpIn_ret b
     | k+4,c,C=>cases C;rw[show D.pending=some (.exit k)from c.2]at b ⊢;exact wpIn_exit b
    .exact absurd c1 (kF E)
def OD{call:L4}(L:Q4 P base gl call){fn:Func}{body:Code}(f1:P.funcs[me]? = some fn)(f2:fn.body=some body)(f3:fn.ntmps=nt)(U:G3 q body=some (.rangeFunc x ps as bd))(hx:okX nt gl x=true)
  {s C:S} {e:Ex} {ρ:Ren} {a:Act} {w:World} {Q:Exit->Act->World->Prop} (h:tU P nt call me q (P1 x) s=some (e,C)) (V:Sat C.m.lg) (f:At P base gl ρ s.m C.m.hi w) (E:FrR z ρ nt s.fr a)
  (O:∀ ρ' a' w',FrR z ρ' nt C.fr a'->St P base ρ ρ' s.m C.m w w'->Q e.out a' w'):(Code.rangeFunc x ps as bd).wpIn (fw z.rd) 0 P Q a w:=by
 obtain⟨H,h⟩:=xM h;refine wpIn_rangeFunc fun b _=>?_
 have T:=E.ev f.gr hx;rcases h with⟨b0,f0,q0,az,hy,Z,h⟩|⟨hu,m1,y,h⟩
 .obtain⟨l0,Y,X⟩:=(E.rd H).2 b0 hy;obtain⟨⟨_,R,b1,_⟩,_⟩:=f.hr.atl Y Z;have B:(Instr.enterLoop b a.tmps ps as bd (fw z.rd).round).run P w=.ok (w.heap.size,[]) (w.alloc (.loop { state:=.ready,pending:=none,fn:=b,tmps:=a.tmps,params:=ps,assign:=as,body:=bd,defers:=R.defers })):=by
   show(Instr.enterLoop b a.tmps ps as bd z.rd).run P w=_;rw[X];unfold Instr.enterLoop;simp only[A3,run_getLoop b1,run_newObj_alloc,Result.andThen,Sem.run_pure]
  rw[bI]at h;obtain⟨k,args,d,c1,c2,G⟩:=sC (r:={ state:=.ready,pending:=none,fn:=b,tmps:=a.tmps,params:=ps,assign:=as,body:=bd,defers:=R.defers }) L f1 f2 f3 U h V f E T ⟨rfl,rfl,rfl,rfl,rfl,rfl⟩ (Q:=Q) fun ρ' w' g1 g2=>O ρ' a w' g1 g2
  exact⟨_,_,_,d,_,k,args,_,B,c1,fun _ _=>trivial,c2,eD,G⟩
 .have K:=(E.rd H).1 hu;have v:I2 ρ s.m.n C.m.hi:=f.fr;have N:=kP L h;obtain⟨_,g3,g4⟩:=jD y;have B:(Instr.enterLoop b a.tmps ps as bd (fw z.rd).round).run P w=.ok (w.heap.size+1,[{ target:=.collected w.heap.size,args:=#[] }]) ((w.alloc (.deferred (some []))).alloc (.loop { state:=.ready,pending:=none,fn:=b,tmps:=a.tmps,params:=ps,assign:=as,body:=bd,defers:=w.heap.size })):=by
   show(Instr.enterLoop b a.tmps ps as bd z.rd).run P w=_;rw[K];exact run_enterLoop_outer b a.tmps ps as bd
  have c:(w.alloc (.deferred (some []))).heap=w.heap.push (.deferred (some [])):=rfl;obtain⟨_,k1,st1⟩:=St.alloc (w':=w.alloc (.deferred (some []))) (o:=.deferred (some [])) (l:=lc w.heap.size 0 0) f.hr f.bs y (v.less N.1) ⟨rfl,rfl,rfl⟩ c rfl ⟨⟨rfl,rfl⟩,_,by simp[c],fun _=>rfl⟩;have D:=f.step st1;have I:(w.alloc (.deferred (some []))).heap.size=w.heap.size+1:=by simp[c]
  let a2:Act:={ a with defers:={ target:=.collected w.heap.size,args:=#[] }::a.defers }
  have M:FrR z (upd ρ s.m.n (lc w.heap.size 0 0)) nt (s.fr.set 510 (dv (s.m.n::eG (s.fr.get 510)))) a2:=by
   have u:=E.mono st1.ext;have A:∀ t,t<512->t≠510->(s.fr.set 510 (dv (s.m.n::eG (s.fr.get 510)))).get t=s.fr.get t:=fun t h1 F=>by rw[K0 _ _ _ _ L7 h1,B1 F]
   refine⟨u.size,u.le,?_,fun _=>by rw[A 511 L7 L7];exact u.rd H,fun t ht=>by rw[A t A9 A9];exact u.get t ht⟩;obtain⟨ds,d1,d2⟩:=u.df;refine⟨{ target:=.collected w.heap.size,args:=#[] }::ds,by show _::a.defers=_;rw[d1];rfl,?_⟩;unfold dvG at d2 ⊢;have W:Nat.ble nt 510=true:=C4 H;rw[W]at d2 ⊢;rw[K0 _ _ _ _ L7 L7,B2 rfl];have hd:eG (dv (s.m.n::eG (s.fr.get 510)))=s.m.n::eG (s.fr.get 510):=by
    simp[eG,dv,WO,Function.comp_def]
   simp only[D7,hd]at d2 ⊢;refine⟨by simp[d2.1],fun i id d h1 F=>?_⟩;cases i with
   | zero =>
     simp only[O1,C7]at h1 F;subst h1;subst F;exact⟨_,k1,rfl⟩
   | succ i=>exact d2.2 i id d (by simpa using h1) (by simpa using F)
  have J:VR (upd ρ s.m.n (lc w.heap.size 0 0)) ((P1 x).run s.fr) (a2.eval x):=by
   rw[bI];exact T.mono st1.ext
  obtain⟨k,args,d,c1,c2,G⟩:=sC (r:={ state:=.ready,pending:=none,fn:=b,tmps:=a.tmps,params:=ps,assign:=as,body:=bd,defers:=w.heap.size }) L f1 f2 f3 U h V D M J ⟨rfl,rfl,rfl,rfl,rfl,rfl⟩ (Q:=Q) fun ρ' w' g1 g2=>O ρ' a2 w' g1 (St.trans v st1 g2)
  rw[I]at c1 G;exact⟨_,_,_,d,_,k,args,_,B,c1,fun _ _=>trivial,c2,eD,G⟩
def sK{call:L4}{lp:LpT}{q:List Bool}{x:Code}(f:∀ (s c:S) (e:Ex),(K6 P nt gl call lp q x).run s=some (e,c)->s.m.hi<=c.m.hi/\s.m.lg.le c.m.lg):∀ (n:Nat) (s c:S) (e:Ex),wG (K6 P nt gl call lp q x) n s=some (e,c)->s.m.hi<=c.m.hi/\s.m.lg.le c.m.lg
 | 0,s,c,e,h=>by cases h
 | n+1,s,c,e,h=>by
   unfold wG at h;split at h
   .rename_i s1 h1;have a:=f _ _ _ h1;have b:=sK f n _ _ _ h;exact⟨B6 a.1 b.1,a.2.trans b.2⟩
   .exact f _ _ _ h
def sL{call:L4}{lp:LpT}{q:List Bool}{x:Code}{L:S->Option (Ex×S)}(f:∀ (s c:S) (e:Ex),(K6 P nt gl call lp q x).run s=some (e,c)->s.m.hi<=c.m.hi/\s.m.lg.le c.m.lg)
  (k:∀ (s c:S) (e:Ex),L s=some (e,c)->s.m.hi<=c.m.hi/\s.m.lg.le c.m.lg):∀ (n:Nat) (s c:S) (e:Ex),wH (K6 P nt gl call lp q x) L n s=some (e,c)->s.m.hi<=c.m.hi/\s.m.lg.le c.m.lg
 | 0,s,c,e,h=>by cases h
 | n+1,s,c,e,h=>by
   unfold wH at h;split at h
   .rename_i r hr;cases h;exact k _ _ _ hr
   .split at h
    .rename_i s1 h1;have a:=f _ _ _ h1;have b:=sL f k n _ _ _ h;exact⟨B6 a.1 b.1,a.2.trans b.2⟩
    .exact f _ _ _ h
def DU{c:XC}{a b:dC}{s l:S}{e:Ex}(h:DV c a b s=some (e,l)):∃ t lg,brL s.m.lg (c.run s.fr)=some (t,lg)/\(bif t then a.run ⟨s.fr,s.m.wLg lg⟩else b.run ⟨s.fr,s.m.wLg lg⟩)=some (e,l):=by
 obtain⟨fr,⟨H,n,W,hi,lg⟩⟩:=s;unfold DV at h;split at h
 .rename_i k;exact⟨true,lg,by rw[k];rfl,h⟩
 .rename_i k;exact⟨false,lg,by rw[k];rfl,h⟩
 .simp only at h;split at h
  .rename_i lg' f;exact⟨true,lg',f,h⟩
  .rename_i lg' f;exact⟨false,lg',f,h⟩
  .cases h
def P0{call:L4}{lp:LpT}{body:Code}(u:Q4 P base gl call)(v:d7 P base gl call)(l:ED P base gl nt body lp):∀ (c:Code) (q:List Bool),G3 q body=some c->∀ (s k:S) (e:Ex),(K6 P nt gl call lp q c).run s=some (e,k)->s.m.hi<=k.m.hi/\s.m.lg.le k.m.lg
 | .skip,q,f,s,k,e,h=>by have h:some (Ex.normal,s)=some (e,k):=h;cases h;exact⟨A6 _,.refl _⟩
 | .label _,q,f,s,k,e,h=>by have h:some (Ex.normal,s)=some (e,k):=h;cases h;exact⟨A6 _,.refl _⟩
 | .exit id,q,f,s,k,e,h=>by have h:some (Ex.exit id,s)=some (e,k):=h;cases h;exact⟨A6 _,.refl _⟩
 | .ret,q,f,s,k,e,h=>by have h:some (Ex.ret,s)=some (e,k):=h;cases h;exact⟨A6 _,.refl _⟩
 | .region id ops d,q,f,s,k,e,h=>by
   cases d with
   | false =>
     have h:V2 (P7 P nt gl call ops.toList ops.toList) s=some (e,k):=h;unfold V2 at h;split at h
     .rename_i s1 h1;cases h;exact⟨nZ _ _ _ h1,gW u _ _ _ h1⟩
     .cases h
   | true =>
     unfold K6 at h;simp only at h;cases f:zO ops with
     | false=>rw[f]at h;cases h
     | true =>
       rw[f]at h;have go:V2 ⟨c8 P nt gl call ops.toList ops.toList 0 (V7 ops.toList []) [] []⟩ s=some (e,k)->s.m.hi<=k.m.hi/\s.m.lg.le k.m.lg:=fun h=>by
        unfold V2 at h;split at h
        .rename_i s1 h1;cases h;exact(v.2 nt ops f _ _ h1).1
        .cases h
       simp only[D7]at h;cases hr:gS ops.toList with
       | false=>rw[hr]at h;exact go h
       | true =>
         rw[hr]at h;simp only[D7]at h;cases hm:hO P nt gl s.fr s.m.H ops.toList with
         | false=>rw[hm]at h;exact go h
         | true =>
           rw[hm]at h;simp only[D7]at h;unfold V2 at h;split at h
           .rename_i s1 h1;cases h;exact⟨nZ _ _ _ h1,gW u _ _ _ h1⟩
           .cases h
 | .seq x y,q,f,s,k,e,h=>by
   have w:=P0 u v l x (q++[false]) (H1 f rfl);have A:=P0 u v l y (q++[true]) (H1 f rfl);have h:SM (K6 P nt gl call lp (q++[false]) x) (K6 P nt gl call lp (q++[true]) y) s=some (e,k):=h;unfold SM at h;split at h
   .rename_i s1 h1;have a:=w _ _ _ h1;have b:=A _ _ _ h;exact⟨B6 a.1 b.1,a.2.trans b.2⟩
   .exact w _ _ _ h
 | .cond c x y,q,f,s,k,e,h=>by
   have w:=P0 u v l x (q++[false]) (H1 f rfl);have A:=P0 u v l y (q++[true]) (H1 f rfl);unfold K6 at h;cases f:okX nt gl c with
   | false=>rw[f]at h;cases h
   | true =>
     rw[f]at h;have h:DV (P1 c) (K6 P nt gl call lp (q++[false]) x) (K6 P nt gl call lp (q++[true]) y) s=some (e,k):=h;obtain⟨t,lg,h1,C⟩:=DU h;have D:=cF h1;obtain⟨fr,⟨H,n,W,hi,l0⟩⟩:=s;cases t with
     | true=>have a:=w _ _ _ C;exact⟨a.1,D.trans a.2⟩
     | false=>have b:=A _ _ _ C;exact⟨b.1,D.trans b.2⟩
 | .block id x,q,f,s,k,e,h=>by
   have w:=P0 u v l x (q++[false]) (H1 f rfl);have h:tV id (K6 P nt gl call lp (q++[false]) x) s=some (e,k):=h;unfold tV at h;split at h
   .rename_i j s1 h1
    have:=w _ _ _ h1;cases f:Nat.beq j id<;>rw[f]at h<;>cases h<;>exact this
   .exact w _ _ _ h
 | .loop x,q,f,s,k,e,h=>by
   have h:DT (K6 P nt gl call lp (q++[false]) x) (lp.look q) s=some (e,k):=h;unfold DT at h;split at h
   .rename_i L E;exact sL (P0 u v l x (q++[false]) (H1 f rfl)) (l.2 q x L f E).lg _ _ _ _ h
   .exact sK (P0 u v l x (q++[false]) (H1 f rfl)) _ _ _ _ h
 | .rangeFunc x _ _ _,q,f,s,k,e,h=>by
   unfold K6 at h;cases B:okX nt gl x with
   | false=>rw[B]at h;cases h
   | true=>rw[B]at h;exact LP u h
 | .scope x,q,f,s,k,e,h=>P0 u v l x (q++[false]) (H1 f rfl) s k e h
 | .goto _,q,f,s,k,e,h=>by cases h
 | .refuse _,q,f,s,k,e,h=>by cases h
def N4{call:L4}{lp:LpT}{body:Code}(C:Q4 P base gl call)(D:d7 P base gl call)(k:ED P base gl nt body lp):∀ (c:Code) (q:List Bool),G3 q body=some c->∀ (ρ:Ren) (s f:S) (e:Ex) (a:Act) (w:World) (Q:Exit->Act->World->Prop),(K6 P nt gl call lp q c).run s=some (e,f)->Sat f.m.lg->At P base gl ρ s.m f.m.hi w->FrR z ρ nt s.fr a ->
  (∀ ρ' a' w',FrR z ρ' nt f.fr a'->St P base ρ ρ' s.m f.m w w'->Q e.out a' w')->c.wpIn (fw z.rd) 0 P Q a w
 | .skip,q,B,ρ,s,f,e,a,w,Q,h,hS,b,u,v=>by have h:some (Ex.normal,s)=some (e,f):=h;cases h;exact wpIn_skip (v ρ a w u (.refl b.hr))
 | .label _,q,B,ρ,s,f,e,a,w,Q,h,hS,b,u,v=>by have h:some (Ex.normal,s)=some (e,f):=h;cases h;exact wpIn_label (v ρ a w u (.refl b.hr))
 | .exit id,q,B,ρ,s,f,e,a,w,Q,h,hS,b,u,v=>by have h:some (Ex.exit id,s)=some (e,f):=h;cases h;exact wpIn_exit (v ρ a w u (.refl b.hr))
 | .ret,q,B,ρ,s,f,e,a,w,Q,h,hS,b,u,v=>by have h:some (Ex.ret,s)=some (e,f):=h;cases h;exact wpIn_ret (v ρ a w u (.refl b.hr))
 | .region id ops d,q,B,ρ,s,f,e,a,w,Q,h,hS,b,u,v=>by
   cases d with
   | false =>
     have h:V2 (P7 P nt gl call ops.toList ops.toList) s=some (e,f):=h;unfold V2 at h;split at h
     .rename_i s1 h1;cases h;exact Q6 (sI C _ ρ s f a w h1 hS b u v)
     .cases h
   | true =>
     unfold K6 at h;simp only at h;cases B:zO ops with
     | false=>rw[B]at h;cases h
     | true =>
       rw[B]at h;have go:V2 ⟨c8 P nt gl call ops.toList ops.toList 0 (V7 ops.toList []) [] []⟩ s=some (e,f)->(Code.region id ops true).wpIn (fw z.rd) 0 P Q a w:=fun h=>by
        unfold V2 at h;split at h
        .rename_i s1 h1;cases h;exact(D.2 nt ops B _ _ h1).2 z ρ a w id Q hS b u v
        .cases h
       simp only[D7]at h;cases hr:gS ops.toList with
       | false=>rw[hr]at h;exact go h
       | true =>
         rw[hr]at h;simp only[D7]at h;cases hm:hO P nt gl s.fr s.m.H ops.toList with
         | false=>rw[hm]at h;exact go h
         | true =>
           rw[hm]at h;simp only[D7]at h;unfold V2 at h;split at h
           .rename_i s1 h1;cases h;exact FD D.1 C hr hm h1 hS b u v
           .cases h
 | .seq x y,q,B,ρ,s,f,e,a,w,Q,h,hS,b,u,v=>by
   have A:G3 (q++[false]) body=some x:=H1 B rfl;have G:G3 (q++[true]) body=some y:=H1 B rfl;have h:SM (K6 P nt gl call lp (q++[false]) x) (K6 P nt gl call lp (q++[true]) y) s=some (e,f):=h;unfold SM at h;split at h
   .rename_i s1 h1;have hh:=P0 C D k y _ G _ _ _ h;refine wpIn_seq (N4 C D k x _ A ρ s s1 .normal a w _ h1 (M4.le hS hh.2) (b.less hh.1) u fun l E w1 f1 st1=>?_);exact N4 C D k y _ G l s1 f e E w1 Q h hS (b.step st1) f1 fun ρ2 a2 w2 f2 st2=>v ρ2 a2 w2 f2 (St.trans b.fr st1 st2)
   .rename_i F;refine wpIn_seq (N4 C D k x _ A ρ s f e a w _ h hS b u fun l E w1 f1 st1=>?_)
    have:=v l E w1 f1 st1;cases e with
    | normal=>exact absurd h (F f)
    | exit id=>exact this
    | ret=>exact this
 | .cond c x y,q,B,ρ,s,f,e,a,w,Q,h,hS,b,u,v=>by
   have A:G3 (q++[false]) body=some x:=H1 B rfl;have G:G3 (q++[true]) body=some y:=H1 B rfl;unfold K6 at h;cases J:okX nt gl c with
   | false=>rw[J]at h;cases h
   | true =>
     rw[J]at h;have h:DV (P1 c) (K6 P nt gl call lp (q++[false]) x) (K6 P nt gl call lp (q++[true]) y) s=some (e,f):=h;have Y:=u.ev b.gr J;obtain⟨t,lg,h1,R⟩:=DU h;rw[bI]at h1;have M:St P base ρ ρ s.m (s.m.wLg lg) w w:=St.wLg b.hr lg;cases t with
     | true =>
       have hh:=P0 C D k x _ A _ _ _ R;have X:Sat lg:=M4.le hS (by obtain⟨fr,⟨H,n,W,hi,l0⟩⟩:=s;exact hh.2);exact wpIn_cond_true (iL h1 Y X) (N4 C D k x _ A ρ ⟨s.fr,s.m.wLg lg⟩ f e a w Q R hS (b.wLg lg) u fun ρ2 a2 w2 f2 st2=>v ρ2 a2 w2 f2 (St.trans b.fr M st2))
     | false =>
       have hh:=P0 C D k y _ G _ _ _ R;have X:Sat lg:=M4.le hS (by obtain⟨fr,⟨H,n,W,hi,l0⟩⟩:=s;exact hh.2);exact wpIn_cond_false (iL h1 Y X) (N4 C D k y _ G ρ ⟨s.fr,s.m.wLg lg⟩ f e a w Q R hS (b.wLg lg) u fun ρ2 a2 w2 f2 st2=>v ρ2 a2 w2 f2 (St.trans b.fr M st2))
 | .block id x,q,B,ρ,s,f,e,a,w,Q,h,hS,b,u,v=>by
   have A:G3 (q++[false]) body=some x:=H1 B rfl;have h:tV id (K6 P nt gl call lp (q++[false]) x) s=some (e,f):=h;unfold tV at h;split at h
   .rename_i j s1 h1;cases I:Nat.beq j id with
    | true =>
      rw[I]at h;cases h;have V:=A0 I;refine wpIn_block (N4 C D k x _ A ρ s f (.exit j) a w _ h1 hS b u fun l E w1 f1 st1=>?_)
      have:=v l E w1 f1 st1
      simpa [Exit.inBlock,Ex.out,V]using this
    | false =>
      rw[I]at h;cases h;have V:j≠id:=fun e=>by subst e;simp at I
      refine wpIn_block (N4 C D k x _ A ρ s f (.exit j) a w _ h1 hS b u fun l E w1 f1 st1=>?_)
      have:=v l E w1 f1 st1
      simpa [Exit.inBlock,Ex.out,V]using this
   .rename_i F;refine wpIn_block (N4 C D k x _ A ρ s f e a w _ h hS b u fun l E w1 f1 st1=>?_)
    have:=v l E w1 f1 st1;cases e with
    | normal=>exact this
    | exit j=>exact absurd h (F j f)
    | ret=>exact this
 | .loop x,q,B,ρ,s,f,e,a,w,Q,h,hS,b,u,v=>by
   have A:G3 (q++[false]) body=some x:=H1 B rfl;replace h:DT (K6 P nt gl call lp (q++[false]) x) (lp.look q) s=some (e,f):=h;unfold DT at h;split at h
   .rename_i L Z;have K:=k.2 q x L B Z;have key:∀ (n:Nat) (s:S),wH (K6 P nt gl call lp (q++[false]) x) L n s=some (e,f)->∃ N,∀ (ρ:Ren) (a:Act) (w:World) (Q:Exit->Act->World->Prop),At P base gl ρ s.m f.m.hi w->FrR z ρ nt s.fr a ->
      (∀ ρ' a' w',FrR z ρ' nt f.fr a'->St P base ρ ρ' s.m f.m w w'->Q e.out a' w')->Code.roundsIn (fw z.rd) 0 P x Q N a w:=by
     intro n;induction n with
     | zero=>intro s h;cases h
     | succ n U =>
       intro s h;unfold wH at h;split at h
       .rename_i r hr;cases h;obtain⟨N,O⟩:=K.ok s f e hr hS;exact⟨N,O z⟩
       .split at h
        .rename_i s1 h1;obtain⟨N,O⟩:=U s1 h;have hh:=sL (P0 C D k x _ A) K.lg _ _ _ _ h;refine⟨N+1,fun ρ a w Q b u v=>?_⟩;show x.wpIn (fw z.rd) 0 P (Exit.then (Code.roundsIn (fw z.rd) 0 P x Q N) Q) a w;refine N4 C D k x _ A ρ s s1 .normal a w _ h1 (M4.le hS hh.2) (b.less hh.1) u fun l E w1 f1 st1=>?_
         exact O l E w1 Q (b.step st1) f1 fun ρ2 a2 w2 f2 st2=>v ρ2 a2 w2 f2 (St.trans b.fr st1 st2)
        .rename_i F;refine⟨1,fun ρ a w Q b u v=>?_⟩;show x.wpIn (fw z.rd) 0 P (Exit.then (Code.roundsIn (fw z.rd) 0 P x Q 0) Q) a w;refine N4 C D k x _ A ρ s f e a w _ h hS b u fun l E w1 f1 st1=>?_
         have:=v l E w1 f1 st1;cases e with
         | normal=>exact absurd h (F f)
         | exit id=>exact this
         | ret=>exact this
    obtain⟨N,O⟩:=key _ s h;exact wpIn_loop_rounds N (O ρ a w Q b u v)
   obtain⟨n,h0⟩:∃ n,wG (K6 P nt gl call lp (q++[false]) x) n s=some (e,f):=⟨_,h⟩;clear h;have h:=h0;clear h0;refine wpIn_loop_rounds n ?_;induction n generalizing s ρ a w with
   | zero=>cases h
   | succ n U =>
     unfold wG at h;show x.wpIn (fw z.rd) 0 P (Exit.then (Code.roundsIn (fw z.rd) 0 P x Q n) Q) a w;split at h
     .rename_i s1 h1;have hh:=sK (P0 C D k x _ A) _ _ _ _ h;refine N4 C D k x _ A ρ s s1 .normal a w _ h1 (M4.le hS hh.2) (b.less hh.1) u fun l E w1 f1 st1=>?_
      exact U l s1 E w1 (b.step st1) f1 (fun ρ2 a2 w2 f2 st2=>v ρ2 a2 w2 f2 (St.trans b.fr st1 st2)) h
     .rename_i F;refine N4 C D k x _ A ρ s f e a w _ h hS b u fun l E w1 f1 st1=>?_
      have:=v l E w1 f1 st1;cases e with
      | normal=>exact absurd h (F f)
      | exit id=>exact this
      | ret=>exact this
 | .rangeFunc x ps as bd,q,B,ρ,s,f,e,a,w,Q,h,hS,b,u,v=>by
   unfold K6 at h;cases T:okX nt gl x with
   | false=>rw[T]at h;cases h
   | true =>
     rw[T]at h;obtain⟨fn,f1,f2,f3⟩:=k.1;exact OD C f1 f2 f3 B T h hS b u v
 | .scope x,q,B,ρ,s,f,e,a,w,Q,h,hS,b,u,v=>EF (N4 C D k x _ (H1 B rfl) ρ s f e a w _ h hS b u fun l E w1 f1 st1=>by cases e<;>exact v l E w1 f1 st1)
 | .goto _,q,B,ρ,s,f,e,a,w,Q,h,hS,b,u,v=>by cases h
 | .refuse _,q,B,ρ,s,f,e,a,w,Q,h,hS,b,u,v=>by cases h
end
end
section
open Go
variable [Ora]
def oG{c:Hp AB}:∀ (l:List Nat) (H:Hp AB),(∀ b ∈ l,b<=G1)->∀ id,id<=G1->Hp.get (bY c H l) id=if id ∈ l then Hp.get c id else Hp.get H id
 | [],H,_,id,_=>by simp[bY]
 | b::r,H,hl,id,hid=>by
   have e:=hl b B4;rw[bY,bS,oG r _ (fun x f=>hl x (C5 _ f)) id hid,E7 _ _ _ _ e hid];by_cases h1:id ∈ r
   .rw[B2 h1,B2 (C5 _ h1)]
   .rw[B1 h1];by_cases a:id=b
    .subst a;rw[B2 rfl,B2 B4]
    .rw[B1 a,B1 (by simp[h1,a])]
theorem S2{l:F8}{b:Nat}:l7 l b=true↔b ∈ l:=by
 unfold l7;rw[N1];constructor
 .rintro⟨x,a,h⟩;rw[A0 h];exact a
 .intro h;exact⟨b,h,by simp⟩
def oC:∀ (l acc:List Nat) (b:Nat),b ∈ kC l acc↔b ∈ l∨b ∈ acc
 | [],acc,b=>by simp[kC]
 | x::r,acc,b=>by
   unfold kC;cases h:l7 acc x with
   | true =>
     have a:=S2.1 h;simp only[D7];rw[oC r acc b];constructor
     .rintro(h|h)
      .exact .inl (C5 _ h)
      .exact .inr h
     .rintro(h|h)
      .rcases A8.1 h with rfl|h
       .exact .inr a
       .exact .inl h
      .exact .inr h
   | false =>
     simp only[D3];rw[oC r (x::acc) b];simp only[A8];constructor
     .rintro(h|h|h)
      .exact .inl (.inr h)
      .exact .inl (.inl h)
      .exact .inr h
     .rintro((h|h)|h)
      .exact .inr (.inl h)
      .exact .inl h
      .exact .inr (.inr h)
def oY{l:F8}(h:zY l=true):∀ b ∈ l,b<=G1:=fun b a=>A1 (D2.1 h b a)
section
variable {P:Program} {base gl nt:Nat}
def yY{ρ u:Ren}{n:Nat}(f:∀ b l,b<n->u b=some l->ρ b=some l){v v':Value}(h:VR u v v'):∀ (d:Nat),Y3 n d v=true->VR ρ v v':=by
 have A:∀ (low:Value->Bool) (a:List Value),jW low a=true->∀ (i:Nat) (v:Value),a[i]? = some v->low v=true:=fun low a=>by
  induction a with
  | nil=>intro _ i v h;simp at h
  | cons x r t =>
    intro h i v hi;obtain⟨h1,m⟩:=B3 (show(low x && jW low r)=true from h);cases i with
    | zero=>simp at hi;subst hi;exact h1
    | succ i=>exact t m i v (by simpa using hi)
 induction h with
 | pure h=>intro d _;exact .pure h
 | hole h K=>intro d _;exact .hole h K
 | junk h=>intro d _;exact .junk h
 | ixp h E hi F L =>
   intro d e;cases d with
   | zero=>cases e
   | succ d =>
     obtain⟨g1,_⟩:=B3 e;obtain⟨g1,_⟩:=B3 (show(Y3 n d _ && _)=true from g1);cases d with
     | zero=>cases g1
     | succ d=>exact .ixp (f _ _ (A1 g1) h) E hi F L
 | dat h h1 m h3 D =>
   intro d e;cases d with
   | zero=>cases e
   | succ d =>
     obtain⟨g1,_⟩:=B3 e;obtain⟨g1,_⟩:=B3 (show(Y3 n d _ && _)=true from g1);cases d with
     | zero=>cases g1
     | succ d=>exact .dat (f _ _ (A1 g1) h) h1 m h3 D
 | clp h h1 m h3 D J =>
   intro d e;cases d with
   | zero=>cases e
   | succ d =>
     obtain⟨g1,_⟩:=B3 e;obtain⟨g1,_⟩:=B3 (show(Y3 n d _ && _)=true from g1);cases d with
     | zero=>cases g1
     | succ d=>exact .clp (f _ _ (A1 g1) h) h1 m h3 D J
 | own h h1 m =>
   intro d e;cases d with
   | zero=>cases e
   | succ d =>
     obtain⟨g1,_⟩:=B3 e;obtain⟨g1,_⟩:=B3 (show(Y3 n d _ && _)=true from g1);cases d with
     | zero=>cases g1
     | succ d=>exact .own (h.imp (fun⟨l,w,a,b⟩=>⟨l,w,f _ _ (A1 g1) a,b⟩) fun⟨l,w,rows,a,b⟩=>⟨l,w,rows,f _ _ (A1 g1) a,b⟩) h1 m
 | dpt h h1 m =>
   intro d e;cases d with
   | zero=>cases e
   | succ d =>
     obtain⟨g1,_⟩:=B3 e;obtain⟨g1,_⟩:=B3 (show(Y3 n d _ && _)=true from g1);cases d with
     | zero=>cases g1
     | succ d=>exact .dpt (let ⟨l,w,rows,a,s,c,k,h0,r⟩:=h;⟨l,w,rows,a,s,c,k,f _ _ (A1 g1) h0,r⟩) h1 m
 | opt h h1 m =>
   intro d e;cases d with
   | zero=>cases e
   | succ d =>
     obtain⟨g1,_⟩:=B3 e;obtain⟨g1,_⟩:=B3 (show(Y3 n d _ && _)=true from g1);cases d with
     | zero=>cases g1
     | succ d=>exact .opt (let ⟨l,w,rows,k,h0,r⟩:=h;⟨l,w,rows,k,f _ _ (A1 g1) h0,r⟩) h1 m
 | ptr h=>intro d e;cases d with|zero=>cases e|succ d=>exact .ptr (f _ _ (A1 e) h)
 | sl h hm=>intro d e;cases d with|zero=>cases e|succ d=>exact .sl (f _ _ (A1 e) h) hm
 | op h hm G H=>intro d e;cases d with|zero=>cases e|succ d=>exact .op (f _ _ (A1 e) h) hm G H
 | opE E=>intro d _;exact .opE E
 | map h=>intro d e;cases d with|zero=>cases e|succ d=>exact .map (f _ _ (A1 e) h)
 | sdt h =>
   intro d e;cases d with
   | zero=>cases e
   | succ d =>
     obtain⟨g1,_⟩:=B3 e;obtain⟨g1,_⟩:=B3 (show(Y3 n d _ && _)=true from g1);cases d with
     | zero=>cases g1
     | succ d=>exact .sdt (let ⟨l,a,b⟩:=h;⟨l,f _ _ (A1 g1) a,b⟩)
 | yv h =>
   intro d e;cases d with
   | zero=>cases e
   | succ d =>
     obtain⟨g1,_⟩:=B3 e;obtain⟨g1,_⟩:=B3 (show(Y3 n d _ && _)=true from g1);cases d with
     | zero=>cases g1
     | succ d=>exact .yv (f _ _ (A1 g1) h)
 | func y I h1 m B C =>
   intro d e;cases d with
   | zero=>cases e
   | succ d =>
     obtain⟨g1,g2⟩:=B3 e;exact .func y I (fun i v v' a b=>B i v v' a b d (A _ _ g1 i v a)) (fun i v v' a b=>C i v v' a b d (A _ _ g2 i v a))
 | iface h t=>intro d e;cases d with|zero=>cases e|succ d=>exact .iface (t d e)
 | agg y h t=>intro d e;cases d with|zero=>cases e|succ d=>exact .agg y (fun i v v' a b=>t i v v' a b d (A _ _ e i v a))
 | tuple y h t=>intro d e;cases d with|zero=>cases e|succ d=>exact .tuple y (fun i v v' a b=>t i v v' a b d (A _ _ e i v a))
def ZX{ρ m:Ren}{n:Nat}(A:∀ b l,b<n->m b=some l->ρ b=some l){ab:AB}{l:Loc}{w:World}(h:BR P m ab l w)(e:UK n (some ab)=true):BR P ρ ab l w:=by
 cases ab with
 | cells cs T ro =>
   obtain⟨h0,C,fz,D,h1,k,h3⟩:=h;refine⟨h0,C,fz,D,h1,fun i v hi=>?_,h3⟩;obtain⟨v',g1,g2⟩:=k i v hi;have u:Y3 n 10 v=true:=by
    have a:jW (Y3 n 10) cs=true:=e;clear k g1 g2 e;induction cs generalizing i with
    | nil=>simp at hi
    | cons x r y =>
      obtain⟨q1,q2⟩:=B3 (show(Y3 n 10 x && jW (Y3 n 10) r)=true from a);cases i with
      | zero=>simp at hi;subst hi;exact q1
      | succ i=>exact y i (by simpa using hi) q2
   exact⟨v',g1,yY A g2 10 u⟩
 | mp c t T=>exact h
 | iter vs =>
   obtain⟨h0,h⟩:=h;rcases h with⟨s,I,h1,k⟩|h
   rotate_left
   .exact⟨h0,.inr h⟩
   refine⟨h0,.inl ⟨s,I,h1,k.1,fun i v v' g1 g2=>?_⟩⟩;have u:Y3 n 10 v=true:=by
    have a:jW (Y3 n 10) vs=true:=e;clear k g2 e;induction vs generalizing i with
    | nil=>simp at g1
    | cons x r y =>
      obtain⟨q1,q2⟩:=B3 (show(Y3 n 10 x && jW (Y3 n 10) r)=true from a);cases i with
      | zero=>simp at g1;subst g1;exact q1
      | succ i=>exact y i (by simpa using g1) q2
   exact yY A (k.2 i v v' g1 g2) 10 u
 | lp f q vs st =>
   obtain⟨h0,r,h1,k⟩:=h;refine⟨h0,r,h1,k.code,⟨k.fr.1,fun i v v' g1 g2=>?_⟩,k.st⟩;have u:Y3 n 10 v=true:=by
    have a:jW (Y3 n 10) vs=true:=e;clear k g2 e;induction vs generalizing i with
    | nil=>simp at g1
    | cons x r y =>
      obtain⟨q1,q2⟩:=B3 (show(Y3 n 10 x && jW (Y3 n 10) r)=true from a);cases i with
      | zero=>simp at g1;subst g1;exact q1
      | succ i=>exact y i (by simpa using g1) q2
   exact yY A (k.fr.2 i v v' g1 g2) 10 u
 | dfr b=>exact h
 | sq c t T g ro =>
   obtain⟨wd,inf,h1,k,h3,F⟩:=SqR.ex h;refine⟨⟨wd,inf,h1,k,h3,F.imp (fun x=>x) fun⟨B,E⟩=>⟨B,?_⟩⟩⟩;obtain⟨C,fz,D,rows,lg,h1,k,h3,F,E,J,H,K,G⟩:=E;exact⟨C,fz,D,rows,lg,h1,k,h3,F,E,J,A _ _ (A1 e) H,K,G⟩
 | frz=>exact h
def CH{n:Nat}{H:Hp AB}:∀ {l:F8},FO n H l=true->∀ b ∈ l,UK n (Hp.get H b)=true
 | [],_,b,h=>by cases h
 | x::r,h,b,a=>by
   obtain⟨h1,c⟩:=B3 (show(UK n (Hp.get H x) && FO n H r)=true from h);rcases A8.1 a with rfl|a
   .exact h1
   .exact CH c b a
def A1W{ρ D:Ren}{m m1 m':Mem}{w w1:World}{v v':Value}(C:gcM m m1 v=some m')(st:St P base ρ D ⟨m.H,m.n,[],m.hi,m.lg⟩ m1 w w1)(A:At P base gl ρ m m'.hi w)(hv:VR D v v') :
  m'.hi=m1.hi/\∃ ρ2,VR ρ2 v v'/\St P base ρ ρ2 m m' w w1:=by
 have az:m1.n<=m1.hi:=st.nhi A.nh;have hle:m.hi<=m1.hi:=st.hle;have e:∀ b,b ∈ kC (m1.W.filter fun b=>Nat.blt b m.n || Nat.ble m1.hi b) []↔b ∈ m1.W/\(b<m.n∨m1.hi<=b):=fun b=>by
  rw[oC];simp only[O7,C3,or_false,F7];constructor
  .rintro⟨h1,s⟩;exact⟨h1,s.imp (fun h=>A1 h) (fun h=>A1 h)⟩
  .rintro⟨h1,s⟩;exact⟨h1,s.imp (fun h=>C4 h) (fun h=>C4 h)⟩
 unfold gcM at C;generalize hW:kC (m1.W.filter fun b=>Nat.blt b m.n || Nat.ble m1.hi b) []=W at C e;simp only[E1,G5,bH]at C;have hold:m1.hi=m'.hi->∀ b l,ρ b=some l->b<m.n∨m1.hi<=b:=fun he b l y=>by
  rcases F2 b m.n with h1|h1
  .exact .inl h1
  .rcases F2 b m1.hi with s|s
   .rw[A.fr b h1 (he▸s)]at y;cases y
   .exact .inr s
 have E:m1.hi=m'.hi->∀ id,id<=G1->id ∉ W->∀ ab,Hp.get m.H id=some ab->id ∉ m1.W/\Hp.get m1.H id=some ab:=fun he id hid Z ab c=>by
  obtain⟨l,h1,_,_⟩:=A.hr.at_ id hid ab c;have G:=hold he id l h1;have s:id ∉ m1.W:=fun h=>Z ((e id).2 ⟨h,G⟩)
  exact⟨s,by rw[st.same id hid s G];exact c⟩
 have J:∀ b ∈ W,∀ l,ρ b=some l->∃ ab,Hp.get m.H b=some ab/\ab.rw=true:=fun b y l t=>st.wrw b ((e b).1 y).1 (by simp) l t
 cases K:Y3 m.n 10 v && FO m.n m1.H W with
 | true =>
   rw[K]at C;simp only[D7]at C;obtain⟨u,C⟩:=A2 C;cases C;obtain⟨q1,q2⟩:=B3 K;have u:=oY u;have G:∀ b l,b<m.n->D b=some l->ρ b=some l:=fun b l y t=>by
    cases h0:ρ b with
    | some l0=>rw[st.ext b l0 h0]at t;exact t
    | none=>have h:=(st.new b l t h0).1;exact absurd y (Nat.not_lt.2 h)
   have f:∀ id,id<=G1->Hp.get (bY m1.H m.H W) id=if id ∈ W then Hp.get m1.H id else Hp.get m.H id:=fun id hid=>oG W _ u id hid
   have F:∀ id,id<=G1->∀ ab,Hp.get (bY m1.H m.H W) id=some ab->Hp.get m1.H id=some ab:=fun id hid ab c=>by
    rw[f id hid]at c;by_cases h:id ∈ W
    .rw[B2 h]at c;exact c
    .rw[B1 h]at c;exact(E rfl id hid h ab c).2
   have Y:=st.hr.sub F;have X:∀ id,id<=G1->∀ ab,Hp.get (bY m1.H m.H W) id=some ab->∀ l,D id=some l->ρ id=some l:=fun id hid ab c l t=>by
    cases h0:ρ id with
    | some l0=>rw[st.ext id l0 h0]at t;exact t
    | none =>
      exfalso;have hn:=st.new id l t h0;rw[f id hid]at c;by_cases h:id ∈ W
      .have:=((e id).1 h).2;have h1:m.n<=id:=hn.1;have s:=hn.2;omega
      .rw[B1 h]at c;obtain⟨l0,h1,_⟩:=A.hr.at_ id hid ab c;rw[h1]at h0;cases h0
   refine⟨rfl,ρ,yY G hv 10 q1,⟨fun _ _ h=>h,fun b k h1 s=>(by rw[h1]at s;cases s),A6 _,hle,fun h=>B6 h hle,⟨A.hr.dom,fun id hid ab c=>?_⟩,fun b y=>B7.2 (.inr y),fun b h1 s l t=>?_,fun k hk y=>?_,st.size,st.os,fun b k h1 s=>(by rw[h1]at s;cases s),fun id hid h1 s=>?_,fun k ⟨id,a,q,hid,B,K,T⟩=>?_⟩⟩
   .obtain⟨l,g1,g2,g3⟩:=Y.at_ id hid ab c;have t:=X id hid ab c l g1;refine⟨l,t,?_,fun R Q=>⟨(g3 R Q).1,fun ax O V l2 f1 f2 f3=>(g3 R Q).2 ax O V l2 f1 (st.ext _ _ f2) f3⟩⟩;have av:=c;rw[f id hid]at c;by_cases h:id ∈ W
    .rw[B2 h]at c
     have:=CH q2 id h;rw[c]at this;exact ZX G g2 this
    .rw[B1 h]at c;obtain⟨l0,N,e2,e3⟩:=A.hr.at_ id hid ab c;rw[t]at N
     have:=A5 N;subst this;refine e2.mono (fun _ _ h=>h) (fun k hk=>st.keep k (e2.tc hk) fun b y lb L aw heq=>?_);have U:b ∈ W:=(e b).2 ⟨y,hold rfl b lb L⟩;obtain⟨au,c1,c2⟩:=J b U lb L
     have:=((A.hr.atl L c1).2 c2 aw).2 id hid ab l c t (heq▸hk);subst this;exact h U
   .rcases B7.1 h1 with h|h
    .exact J b h l t
    .exact absurd h s
   .exact st.keep k hk fun b M l t G=>y b (B7.2 (.inl ((e b).2 ⟨M,hold rfl b l t⟩))) l t G
   .show Hp.get (bY m1.H m.H W) id=_;rw[f id hid,B1 (fun h=>h1 (B7.2 (.inl h)))]
   .have B:Hp.get (bY m1.H m.H W) id=some a:=B;rw[f id hid]at B;by_cases h:id ∈ W
    .rw[B2 h]at B;exact st.tch k ⟨id,a,q,hid,B,st.ext _ _ K,T⟩
    .rw[B1 h]at B;exact .inr ⟨id,a,q,hid,B,K,T⟩
 | false =>
   rw[K]at C;simp only[D3]at C;generalize hI:(BG m.n m1.H 100000 (uT 10 v++wOf m1.H W) []).filter (fun b=>Nat.ble m.n b && Nat.blt b m1.hi)=I at C;have ay:∀ b ∈ I,m.n<=b/\b<m1.hi:=fun b y=>by
    subst hI;obtain⟨_,h⟩:=O7.1 y;obtain⟨h1,s⟩:=B3 h;exact⟨A1 h1,A1 s⟩
   obtain⟨u,C⟩:=A2 C;cases C;have u:=oY u;have f:∀ id,id<=G1->Hp.get (bY m1.H m.H (W++I)) id=if id ∈ W++I then Hp.get m1.H id else Hp.get m.H id:=fun id hid=>oG _ _ u id hid
   have F:∀ id,id<=G1->∀ ab,Hp.get (bY m1.H m.H (W++I)) id=some ab->Hp.get m1.H id=some ab:=fun id hid ab c=>by
    rw[f id hid]at c;by_cases h:id ∈ W++I
    .rw[B2 h]at c;exact c
    .rw[B1 h]at c;exact(E rfl id hid (fun hh=>h (B7.2 (.inl hh))) ab c).2
   refine⟨rfl,D,hv,⟨st.ext,st.new,st.nle,hle,fun _=>az,st.hr.sub F,fun b y=>B7.2 (.inr y),fun b h1 s l t=>?_,fun k hk y=>?_,st.size,st.os,fun b l h1 s G=>?_,fun id hid h1 s=>?_,fun k ⟨id,a,q,hid,B,K,T⟩=>?_⟩⟩
   .rcases B7.1 h1 with h|h
    .exact J b h l t
    .exact absurd h s
   .exact st.keep k hk fun b M l t G=>y b (B7.2 (.inl ((e b).2 ⟨M,hold rfl b l t⟩))) l t G
   .rcases st.blk b l h1 s G with h|⟨b0,h3,l0,h4,h5⟩
    .exact .inl h
    .exact .inr ⟨b0,B7.2 (.inl ((e b0).2 ⟨h3,hold rfl b0 l0 h4⟩)),l0,h4,h5⟩
   .show Hp.get (bY m1.H m.H (W++I)) id=_;rw[f id hid,B1];intro h;rcases B7.1 h with h|h
    .exact h1 (B7.2 (.inl h))
    .have:=ay id h;have s:id<m.n∨m1.hi<=id:=s;omega
   .have B:Hp.get (bY m1.H m.H (W++I)) id=some a:=B;rw[f id hid]at B;by_cases h:id ∈ W++I
    .rw[B2 h]at B;exact st.tch k ⟨id,a,q,hid,B,K,T⟩
    .rw[B1 h]at B;obtain⟨l0,N,_⟩:=A.hr.at_ id hid a B;rw[st.ext _ _ N]at K
     have:=A5 K;subst this;exact .inr ⟨id,a,l0,hid,B,N,T⟩
def eJ:∀ (vs:List Value) (fr:Fr) (i t:Nat),i+vs.length<=512->t<512->(cH fr i vs).get t=if i<=t/\t<i+vs.length then vs.getD (t-i) undef else fr.get t
 | [],fr,i,t,_,_=>by simp[cH];intro h1 a;omega
 | v::r,fr,i,t,h,ht=>by
   simp only[I7]at h ⊢;rw[cH,rU,eJ r _ (i+1) t A9 ht,K0 _ _ _ _ A9 ht];by_cases h1:i+1<=t/\t<i+1+r.length
   .rw[B2 h1,B2 A9,show t-i=(t-(i+1))+1 by omega];rfl
   .rw[B1 h1];by_cases a:t=i
    .subst a;rw[B2 rfl,B2 A9,Nat.sub_self];rfl
    .rw[B1 a,B1 A9]
def KR(tmps:Array Value):ResultVar->Sem Value
 | .tmp t=>pure (tmps.getD t undef)
 | .cell a t=>do loadVar t (<- asAddr (tmps.getD a undef))
variable {z:Zn}
def HH{ρ:Ren}{s:S}{a:Act}{w:World}(h:HR P base ρ s.m.H w)(k:FrR z ρ nt s.fr a):∀ (rs:List ResultVar) (vs:List Value),KT P nt s rs=some vs->∃ b,LR ρ vs b /\
  (rs.mapM (KR a.tmps)).run P w=.ok b w
 | [],vs,hr=>by
   simp only[KT,C7]at hr;subst hr;exact⟨[],.nil,rfl⟩
 | r::rs,vs,hr=>by
   unfold KT at hr;split at hr
   .rename_i v n h1 C;cases hr;obtain⟨b,g1,g2⟩:=HH h k rs n C;have f:∃ v',VR ρ v v'/\(KR a.tmps r).run P w=.ok v' w:=by
     unfold A02 at h1;split at h1
     .rename_i t;obtain⟨q1,q2⟩:=A2 h1;cases q2;exact⟨_,k.get t (A1 q1),rfl⟩
     .rename_i c t;obtain⟨q1,q2⟩:=A2 h1;have B:=k.get c (A1 q1);split at q2
      .rename_i E u;rw[u]at B;obtain⟨l,D,_,e⟩:=K9 B;obtain⟨v',A,y⟩:=CJ h q2 D;exact⟨v',y,by simp[KR,e,asAddr,A]⟩
      .cases q2
    obtain⟨v',A,y⟩:=f;refine⟨v'::b,.cons A g1,?_⟩;simp only[List.mapM_cons,A3,y,g2,Result.andThen,Sem.run_pure]
   .cases hr
def TU{ρ:Ren}{fn:Func}{s:S}{a:Act}{w:World}{v:Value}(h:HR P base ρ s.m.H w)(n:FrR z ρ fn.ntmps s.fr a)(hr:KS fn P s=some v):∃ v',VR ρ v v'/\(results fn a.tmps).run P w=.ok v' w:=by
 unfold KS at hr;have key:∀ vs,KT P fn.ntmps s fn.results.toList=some vs->∃ b,LR ρ vs b/\(results fn a.tmps).run P w=.ok (if h:b.toArray.size=1 then b.toArray[0]else .tuple b.toArray) w:=fun vs c=>by
  obtain⟨b,g1,g2⟩:=HH h n _ vs c;refine⟨b,g1,?_⟩;have he:results fn a.tmps=(do let vs <- fn.results.mapM (KR a.tmps);pure (if h:vs.size=1 then vs[0]else .tuple vs)):=by
   unfold results;rfl
  have hm:(fn.results.mapM (KR a.tmps)).run P w=.ok b.toArray w:=by
   rw[cP];show(Sem.bind (fn.results.toList.mapM (KR a.tmps)) fun l=>Sem.pure l.toArray).run P w=_;have y:∀ (x:Sem D0) (k:D0->Sem Q0),(Sem.bind x k).run P w=(x >>= k).run P w:=fun _ _=>rfl
   rw[y,A3,g2];rfl
  rw[he,A3,hm];rfl
 split at hr
 .rename_i u e;cases hr;obtain⟨b,g1,g2⟩:=key _ e;obtain⟨v',A,rfl,g3,g4⟩:=g1.tail;cases g4.nil_inv;exact⟨v',g3,g2⟩
 .rename_i vs f e;cases hr;obtain⟨b,g1,g2⟩:=key _ e;refine⟨.tuple ⟨b⟩,.tuple g1.1 g1.2,?_⟩;rw[g2,dif_neg];intro h1;have h1:b.length=1:=by simpa using h1
  have t:vs.length=1:=by rw[g1.1];exact h1
  obtain⟨x,rfl⟩:=List.length_eq_one_iff.1 t;exact f x rfl
 .cases hr
def AE(P:Program):Prop:=∀ (f:Nat) (fn:Func),P.funcs[f]? = some fn->(fn.name == "runtime.NumGoroutine")=false
def PY{m m1 m':Mem}{v:Value}(a:gcM m m1 v=some m'):m'.lg=m1.lg:=by
 unfold gcM at a;simp only[E1,G5,bH]at a;cases c:Y3 m.n 10 v && FO m.n m1.H (kC (m1.W.filter fun b=>Nat.blt b m.n || Nat.ble m1.hi b) [])with
 | true=>rw[c]at a;obtain⟨_,q⟩:=A2 a;cases q;rfl
 | false=>rw[c]at a;obtain⟨_,q⟩:=A2 a;cases q;rfl
def rL:∀ {l:F8} {m m':Mem},lS l m=some m'->m'.hi=m.hi/\m'.n=m.n/\m'.lg=m.lg
 | [],m,m',h=>by cases h;exact⟨rfl,rfl,rfl⟩
 | b::r,m,m',h=>by
   unfold lS at h;split at h
   .split at h
    .rename_i m1 hm;obtain⟨_,e⟩:=R1 hm;obtain⟨h1,a,h3⟩:=rL h;subst e;exact⟨h1,a,h3⟩
    .cases h
   .cases h
def IR{fn:Func}{m m':Mem}{v:Value}(h:A0R fn P m r=some (v,m')):∃ e s m1,r=some (e,s)/\(e=.normal∨e=.ret)/\lS (dvG fn.ntmps s.fr) s.m=some m1/\KS fn P ⟨s.fr,m1⟩=some v/\gcM m m1 v=some m':=by
 have key:∀ (fr:Fr) (m0:Mem),(match lS (dvG fn.ntmps fr) m0 with
  | some m1=>match KS fn P ⟨fr,m1⟩with
    | some v=>match gcM m m1 v with
      | some m=>some (v,m)
      | none=>none
    | none=>none
  | none=>none)=some (v,m')->∃ m1,lS (dvG fn.ntmps fr) m0=some m1/\KS fn P ⟨fr,m1⟩=some v/\gcM m m1 v=some m':=fun fr m0 h=>by
  split at h
  .rename_i m1 h1;split at h
   .rename_i u f;split at h
    .rename_i m2 h3;cases h;exact⟨m1,h1,f,h3⟩
    .cases h
   .cases h
  .cases h
 unfold A0R at h;split at h
 .rename_i fr m1;obtain⟨m2,a,b,c⟩:=key _ _ h;exact⟨_,_,m2,rfl,.inl rfl,a,b,c⟩
 .rename_i fr m1;obtain⟨m2,a,b,c⟩:=key _ _ h;exact⟨_,_,m2,rfl,.inr rfl,a,b,c⟩
 .cases h
structure cJ (P:Program) (base gl nt:Nat) (c:Code) (L:S->Option (Ex×S)):Prop where
 lg:∀ (s s':S) (e:Ex),L s=some (e,s')->s.m.hi<=s'.m.hi/\s.m.lg.le s'.m.lg
 ok:∀ (s s':S) (e:Ex),L s=some (e,s')->Sat s'.m.lg->∀ (z:Zn) (ρ:Ren) (a:Act) (w:World) (Q:Exit->Act->World->Prop),At P base gl ρ s.m s'.m.hi w->FrR z ρ nt s.fr a ->
  (∀ a' w',Q Ex.ret.out a' w'->Q Ex.normal.out a' w')->(∀ ρ' a' w',FrR z ρ' nt s'.fr a'->St P base ρ ρ' s.m s'.m w w'->Q e.out a' w')->c.wpIn (fw z.rd) 0 P Q a w
def cJ.or{nt:Nat}{c:Code}{a b:S->Option (Ex×S)}(f:cJ P base gl nt c a)(k:cJ P base gl nt c b):cJ P base gl nt c (orL a b):=by
 refine⟨fun s m e h=>?_,fun s m e h l=>?_⟩
 .unfold orL at h;split at h
  .rename_i r hr;cases h;exact f.lg _ _ _ hr
  .exact k.lg _ _ _ h
 .unfold orL at h;split at h
  .rename_i r hr;cases h;exact f.ok _ _ _ hr l
  .exact k.ok _ _ _ h l
def cJ.code{nt:Nat}{c:Code}{call:L4}(k:Q4 P base gl call)(l:d7 P base gl call){lp:LpT}(b:ED P base gl nt c lp):cJ P base gl nt c (K6 P nt gl call lp [] c).run :=
 ⟨fun _ _ _ h=>P0 k l b c [] rfl _ _ _ h,fun s n e h u z ρ a w Q f m _ t=>N4 (z:=z) k l b c [] rfl ρ s n e a w Q h u f m t⟩
def VT{fn:Func}{c:Code}{L:dC}(b:cJ P base gl fn.ntmps c L.run){vs:D0}{m m':Mem}{v:Value}
  (hr:pZ fn P L vs m=some (v,m')):m.lg.le m'.lg:=by
 unfold pZ at hr;obtain⟨_,hr⟩:=A2 hr;obtain⟨e,s,m1,h1,_,f,h3,k⟩:=IR hr;have a:ES L (cH fr0 0 vs) m=L.run ⟨cH fr0 0 vs,⟨m.H,m.n,[],m.hi,m.lg⟩⟩:=rfl;rw[a]at h1;have l:=(b.lg _ _ _ h1).2;rw[PY k,(rL f).2.2];exact l
def wJ{fn:Func}{tmps:Q0}{R:Ending->World->Prop}{ρ:Ren}{hi:Nat}:∀ (ids:List Nat) (ds:List Deferred) (m md:Mem) (w:World),lS ids m=some md->DfR ρ ids ds->HR P base ρ m.H w->I2 ρ m.n md.hi ->
  (∀ w',St P base ρ ρ m md w w'->∃ v,(results fn tmps).run P w'=.ok v w'/\R (.returned v) w')->LeavesInM (fw none) 0 P fn tmps R ds .returning w
 | [],ds,m,md,w,h,hd,hr,hf,hR=>by
   cases h;have:ds=[]:=D9.1 hd.1.symm;subst this;exact hR w (.refl hr)
 | b::r,[],m,md,w,h,hd,hr,hf,hR=>by have:=hd.1;simp at this
 | b::r,d::ds,m,md,w,h,hd,hr,hf,hR=>by
   unfold lS at h;split at h
   .rename_i s;split at h
    .rename_i m1 hm;obtain⟨l,f,c⟩:=hd.2 0 b d rfl rfl;obtain⟨⟨⟨k,A⟩,x,e,t⟩,_⟩:=hr.atl f s
     have:=t rfl;subst this;obtain⟨p1,y,C⟩:=eS (o:=.deferred none) (B5.1 e).1;have st1:St P base ρ ρ m m1 w (w.putObj l.blk (.deferred none)):=St.write hr hm s rfl f k ⟨rfl,rfl,rfl⟩ p1 C ⟨⟨k,A⟩,_,y,fun h=>by cases h⟩;obtain⟨D,B⟩:=R1 hm;have u:m1.n=m.n:=by rw[B]
     refine⟨(by intro h;cases h),.inl ⟨l.blk,_,by rw[c];rfl,run_takeDeferred e,?_⟩⟩;exact wJ (hi:=hi) r ds m1 md _ h ⟨by have:=hd.1;simpa using this,fun i id d a b=>hd.2 (i+1) id d (by simpa using a) (by simpa using b)⟩ st1.hr (by rw[u];exact hf) fun w' st2=>hR w' (St.trans hf st1 st2)
    .cases h
   .cases h
def tY{f:FuncId}{fn:Func}{c:Code}{L:dC}(Z:P.funcs[f]? = some fn)(B:fn.body=some c)(R:(fn.name == "runtime.NumGoroutine")=false)(Y:cJ P base gl fn.ntmps c L.run) :
  gJ P base gl f ⟨pZ fn P L⟩:=by
 refine⟨fun vs m m' v hr=>VT Y hr,?_⟩;intro ρ m m' w vs l v hr hS k hl;have hr:pZ fn P L vs m=some (v,m'):=hr;unfold pZ at hr;obtain⟨h1,hr⟩:=A2 hr;obtain⟨h1,Q⟩:=B3 h1;have h1:=A1 h1;have Q:=A1 Q;left;constructor
 .have hn:fn.name ≠ "runtime.NumGoroutine":=by simpa using R
  simp[callFunc,Z,hn,B]
 .obtain⟨e,s,m1,A,he,G,J,a⟩:=IR hr;have X:ES L (cH fr0 0 vs) m=L.run ⟨cH fr0 0 vs,⟨m.H,m.n,[],m.hi,m.lg⟩⟩:=rfl;rw[X]at A;have D:∀ t,vs.length<=t->t<512->(cH fr0 0 vs).get t=undef:=fun t k1 k2=>by
   rw[eJ _ _ _ _ A9 k2,B1 A9,zG]
  have O:FrR ⟨none,[]⟩ ρ fn.ntmps (cH fr0 0 vs) { tmps:=⟨l⟩++Array.replicate (fn.ntmps-(Array.mk l).size) undef,defers:=[] }:=by
   have hlen:=hl.1;refine⟨by simp;omega,Q,⟨[],rfl,?_⟩,fun hn=>⟨fun _=>rfl,fun b B=>?_⟩,fun t ht=>?_⟩
   .unfold dvG;cases K:Nat.ble fn.ntmps 510 with
    | true =>
      have:=A1 K;rw[D 510 A9 L7];exact .nil
    | false=>exact .nil
   .rw[D 511 A9 L7]at B;cases B
   .rw[eJ _ _ _ _ A9 A9];by_cases E:t<vs.length
    .rw[B2 A9];have u:t<l.length:=A9
     have:=hl.2 t vs[t] l[t] (A4 E) (A4 u)
     simpa [B0,Array.getElem?_append,E,u,B9]using this
    .rw[B1 A9,zG];have u:¬ t<l.length:=A9;have:(({ toList:=l }:Array Value)++Array.replicate (fn.ntmps-(Array.mk l).size) undef).getD t undef=undef:=by
      simp[B0,Array.getElem?_append,u,R7];split<;>rfl
     rw[this];exact lQ ρ
  have M:m1.hi=m'.hi:=by
   have a:=a;unfold gcM at a;simp only[E1,G5,bH]at a;cases K:Y3 m.n 10 v && FO m.n m1.H (kC (m1.W.filter fun b=>Nat.blt b m.n || Nat.ble m1.hi b) [])with
   | true=>rw[K]at a;obtain⟨_,q⟩:=A2 a;cases q;rfl
   | false=>rw[K]at a;obtain⟨_,q⟩:=A2 a;cases q;rfl
  obtain⟨t1,t2,t3⟩:=rL G;have y:At P base gl ρ ⟨m.H,m.n,[],m.hi,m.lg⟩ s.m.hi w:=⟨k.hr,k.bs,fun b q1 q2=>k.fr b q1 (by rw[<- M,t1];exact q2),k.gr,k.nh,fun b B=>(by cases B),k.gf⟩;have V:Sat s.m.lg:=by rw[<- t3,<- PY a];exact hS
  refine v7.1 (callsIn_of_wp_marks (F:=fw none) (n:=0) Z B trivial ?_ rfl);refine Y.ok _ s e A V ⟨none,[]⟩ ρ _ w _ y O (fun _ _ h=>h) fun U T w1 f1 st1=>?_
  obtain⟨ds,d1,d2⟩:=f1.df;have d1:T.defers=ds:=by rw[d1];simp
  have I:LeavesInM (fw none) 0 P fn T.tmps (TA P base ρ m m' w v) T.defers .returning w1:=by
   rw[d1];have C:=y.step st1;refine wJ (base:=base) (ρ:=U) (hi:=0) _ _ _ _ _ G d2 st1.hr (by rw[t1];exact C.fr) fun w' st2=>?_
   have N:=St.trans (by have:=y.fr;rw[t1];exact this) st1 st2;obtain⟨v',g1,g2⟩:=TU (s:=⟨s.fr,m1⟩) st2.hr f1 J;obtain⟨_,ρ2,g3,g4⟩:=A1W a N k g1;exact⟨v',g2,v',ρ2,rfl,g3,g4⟩
  rcases he with rfl|rfl
  .exact I
  .exact I
def JO{f:FuncId}{fn:Func}{c:Code}{call:L4}(e:P.funcs[f]? = some fn)(l:fn.body=some c)(b:(fn.name == "runtime.NumGoroutine")=false)(m:Q4 P base gl call)(k:d7 P base gl call){lp:LpT}(a:ED P base gl fn.ntmps c lp) :
  gJ P base gl f ⟨pZ fn P (K6 P fn.ntmps gl call lp [] c)⟩:=tY e l b (cJ.code m k a)
def BJ{ρ:Ren}{nt:Nat}(f:nt<=512):∀ (ps:List Tmp) (args b:List Value) (fr c:Fr) (tmps:Array Value),pO ps args fr=some c->LR ρ args b->(∀ t ∈ ps,t<nt)->tmps.size=nt->(∀ t,t<nt->VR ρ (fr.get t) (tmps.getD t undef)) ->
  ps.length=b.length/\((ps.zip b).foldl (fun tmps (t,a)=>tmps.setIfInBounds t a) tmps).size=nt/\(∀ t,t<nt->VR ρ (c.get t) (((ps.zip b).foldl (fun tmps (t,a)=>tmps.setIfInBounds t a) tmps).getD t undef))/\∀ t,nt<=t->t<512->c.get t=fr.get t
 | [],[],b,fr,c,tmps,h,hl,hp,hs,hg=>by
   cases h;rw[hl.nil_inv];exact⟨rfl,hs,hg,fun _ _ _=>rfl⟩
 | [],_::_,_,_,_,_,h,_,_,_,_=>by cases h
 | _::_,[],_,_,_,_,h,_,_,_,_=>by cases h
 | t::ps,v::vs,b,fr,c,tmps,h,hl,hp,hs,hg=>by
   obtain⟨v',m,rfl,h1,n⟩:=hl.tail;have k:t<nt:=hp t B4;have h:pO ps vs (fr.set t v)=some c:=by
    have e:pO (t::ps) (v::vs) fr=pO ps vs (fr.set t v):=yF t v fr (fun fr=>pO ps vs fr);rw[<- e];exact h
   obtain⟨A,s,w,y⟩:=BJ f ps vs m (fr.set t v) c (tmps.setIfInBounds t v') h n (fun u hu=>hp u (C5 _ hu)) (by simp[hs]) (fun u hu=>by
    rw[K0 _ _ _ _ (C9 k f) (C9 hu f)];simp only[B0,D1];by_cases e:u=t
    .subst e;rw[B2 rfl,B2 rfl,B2 (by rw[hs];exact hu)];exact h1
    .rw[B1 e,B1 (fun h=>e h.symm)]
     have:=hg u hu
     simpa [B0]using this)
   refine⟨by simp[A],s,w,fun u h3 l=>?_⟩;rw[y u h3 l,K0 _ _ _ _ (C9 k f) l,B1 (fun e=>by subst e;exact absurd k (Nat.not_lt.2 h3))]
def pM{b:Nat}{v:Value}{m':Mem}(h:mB b r=some (v,m')):∃ e s f q vs,r=some (e,s)/\Hp.get s.m.H b=some (.lp f q vs 1)/\x7 s.m b (.lp f q vs (exN e))=some m'/\v=.bool (zB e):=by
 unfold mB at h;split at h
 .rename_i e fr m;split at h
  .rename_i f q vs a;rw[E1]at h;split at h
   .rename_i m1 hm;cases h;exact⟨e,⟨fr,m⟩,f,q,vs,rfl,a,hm,rfl⟩
   .cases h
  .cases h
 .cases h
def pL{b:Nat}{c:dC}{v:Value}{m':Mem}(h:mA b c r=some (v,m')):∃ s f q vs m1,r=some (.normal,s)/\Hp.get s.m.H b=some (.lp f q vs 0)/\x7 s.m b (.lp f q vs 1)=some m1/\mB b (c.run ⟨s.fr,m1⟩)=some (v,m'):=by
 unfold mA at h;split at h
 .rename_i fr m;split at h
  .rename_i f q vs a;split at h
   .rename_i m1 hm;exact⟨⟨fr,m⟩,f,q,vs,m1,rfl,a,hm,h⟩
   .cases h
  .cases h
 .cases h
def vV{C:Cx}{call:L4}{vs:D0}{m m':Mem}{v:Value}(h:(yM C call).run vs m=some (v,m')):∃ b args f q a fn body x ps as bd fr,vs=yv b::args/\Hp.get m.H b=some (.lp f q a 0)/\C.P.funcs[f]? = some fn/\fn.body=some body/\G3 q body=some (.rangeFunc x ps as bd) /\
  fn.ntmps<=510/\(∀ t ∈ ps.toList,t<fn.ntmps)/\pO ps.toList args (cH fr0 0 a)=some fr /\
  mA b (K6 C.P fn.ntmps C.gl call (C.lp f) (q++[true]) bd) ((K6 C.P fn.ntmps C.gl call (C.lp f) (q++[false]) as).run ⟨fr.set 511 (yv b),m⟩)=some (v,m'):=by
 unfold yM at h;simp only at h;split at h
 .cases h
 .rename_i u args;split at h
  .cases h
  .rename_i b w
   have:=vC w;subst this;split at h
   .rename_i f q a A;split at h
    .cases h
    .rename_i fn n;split at h
     .cases h
     .rename_i body c;split at h
      .rename_i x ps as bd B;obtain⟨h1,h⟩:=A2 h;obtain⟨h1,s⟩:=B3 h1;split at h
       .rename_i fr l;refine⟨b,args,f,q,a,fn,body,x,ps,as,bd,fr,rfl,A,by simpa using n,c,B,A1 h1,fun t y=>A1 (D2.1 s t y),l,?_⟩;have e:∀ (k:Fr->Res),qD (sel 7) (sel 7) (sel 7) (yv b) fr k=k (fr.set 511 (yv b)):=fun k=>yF 511 (yv b) fr k
        rw[e]at h;exact h
       .cases h
      .cases h
   .cases h
def NZ{C:Cx}{call:L4}(N:Q4 C.P base C.gl call)(O:d7 C.P base C.gl call)(s:∀ f fn body,C.P.funcs[f]? = some fn->fn.body=some body->ED C.P base C.gl fn.ntmps body (C.lp f)):A0e C.P base C.gl (yM C call):=by
 refine⟨fun vs m m' v h=>?_,fun ρ m m' w b args c v l h hS y hl K=>?_⟩
 .obtain⟨b,args,f,q,M,fn,body,x,ps,as,bd,fr,rfl,_,h1,G,h3,_,_,_,h⟩:=vV h;obtain⟨s1,f2,q2,aw,m2,g1,_,g3,h⟩:=pL h;obtain⟨e,s2,f3,q3,av,Y,_,W,_⟩:=pM h;have a1:=(P0 N O (s f fn body h1 G) as (q++[false]) (H1 h3 rfl) _ _ _ g1).2;have a2:=(P0 N O (s f fn body h1 G) bd (q++[true]) (H1 h3 rfl) _ _ _ Y).2;rw[(iX W).2];have a2:m2.lg.le s2.m.lg:=a2;rw[(iX g3).2]at a2;exact a1.trans a2
 .obtain⟨b',au,f,q,M,fn,body,x,ps,as,bd,fr,e0,hg,h1,G,h3,h4,h5,h6,h⟩:=vV h;cases e0;obtain⟨s1,f2,q2,aw,m2,g1,g2,g3,h⟩:=pL h;obtain⟨e,s2,f3,q3,av,Y,k2,W,rfl⟩:=pM h;have c1:=P0 N O (s f fn body h1 G) as (q++[false]) (H1 h3 rfl) _ _ _ g1;have c2:=P0 N O (s f fn body h1 G) bd (q++[true]) (H1 h3 rfl) _ _ _ Y;obtain⟨j1,j2⟩:=iX g3;obtain⟨j3,j4⟩:=iX W;have R:Sat s2.m.lg:=by rw[<- j4];exact hS
  have ax:Sat s1.m.lg:=by rw[<- j2];exact M4.le R c2.2
  have aq:m2.hi<=s2.m.hi:=c2.1;obtain⟨⟨⟨X,b2⟩,r,b3,b4⟩,_⟩:=y.hr.atl K hg;obtain⟨ao,az,x',e1,e2,e3,e4⟩:=b4.code;rw[h1]at e1;cases e1;rw[G]at e2;cases e2;rw[h3]at e3;cases e3;have hlen:=b4.fr.1;have ar:∀ t,M.length<=t->t<512->(cH fr0 0 M).get t=undef:=fun t q1 q2=>by
   rw[eJ _ _ _ _ A9 q2,B1 A9,zG]
  obtain⟨p1,p2,p3,p4⟩:=BJ (ρ:=ρ) (nt:=fn.ntmps) A9 r.params.toList args c (cH fr0 0 M) fr r.tmps h6 hl h5 (by simpa [e4]using hlen.symm) (fun t ht=>by
   rw[eJ _ _ _ _ A9 A9,B2 A9];have V:t<M.length:=A9;have D:t<r.tmps.toList.length:=A9
   have:=b4.fr.2 t M[t] _ (A4 V) (A4 D);have Q:t<r.tmps.size:=by simpa using D
   simpa [B0,V,Q,B9]using this)
  have L:(r.params.zip ⟨c⟩).foldl (fun tmps (t,a)=>tmps.setIfInBounds t a) r.tmps=(r.params.toList.zip c).foldl (fun tmps (t,a)=>tmps.setIfInBounds t a) r.tmps:=by
   rw[<- Array.foldl_toList];simp
  refine⟨r.fn,_,r.assign,r.body,run_yield b3 (by show c.length=_;rw[<- p1];simp),?_⟩;rw[L];refine roundIn_of_wpIn (F:=Fence.wide) (n:=0) trivial ?_;have B:∀ t,t<511->(fr.set 511 (yv b)).get t=fr.get t:=fun t ht=>by rw[K0 _ _ _ _ L7 A9,B1 A9]
  have ay:FrR ⟨some l.blk,[]⟩ ρ fn.ntmps (fr.set 511 (yv b)) { tmps:=(r.params.toList.zip c).foldl (fun tmps (t,a)=>tmps.setIfInBounds t a) r.tmps,defers:=[] }:=by
   refine⟨p2,A9,⟨[],rfl,?_⟩,fun _=>?_,fun t ht=>by rw[B t A9];exact p3 t ht⟩
   .unfold dvG;rw[B 510 L7,p4 510 h4 L7,ar 510 A9 L7];cases Nat.ble fn.ntmps 510<;>exact .nil
   .rw[K0 _ _ _ _ L7 L7,B2 rfl];refine⟨fun hu=>(by cases hu),fun b0 T=>?_⟩;have:b0=b:=by
     have:bJ (yv b)=some b:=rfl;rw[this]at T;exact(A5 T).symm
    subst this;exact⟨l,K,rfl⟩
  have J:I2 ρ m.n m'.hi:=y.fr;refine N4 (z:=⟨some l.blk,[]⟩) N O (s f fn body h1 G) r.assign (q++[false]) (H1 h3 rfl) ρ ⟨fr.set 511 (yv b),m⟩ s1 .normal _ w _ g1 ax (y.less (by rw[j3];omega)) ay fun H a1 w1 f1 st1=>?_
  have I:=st1.ext _ _ K;obtain⟨⟨⟨_,_⟩,r2,d3,d4⟩,_⟩:=st1.hr.atl I g2;obtain⟨o1,o2,o3⟩:=eS (o:=.loop { r2 with state:=.busy }) (B5.1 d3).1;have st2:St C.P base H H s1.m m2 w1 (w1.putObj l.blk (.loop { r2 with state:=.busy })):=St.write st1.hr g3 g2 rfl I X ⟨rfl,rfl,rfl⟩ o1 o3 ⟨⟨X,b2⟩,_,o2,d4.code,d4.fr,rfl⟩;refine⟨_,run_beginRound d3 d4.st.1,?_⟩;have E:=(y.step st1);have A:=E.step st2;refine N4 (z:=⟨some l.blk,[]⟩) N O (s f fn body h1 G) r.body (q++[true]) (H1 h3 rfl) H ⟨s1.fr,m2⟩ s2 e _ _ _ Y R (A.less (by rw[j3];exact A6 _)) f1 fun ρ2 a2 w3 f3 u=>?_
  have U:=u.ext _ _ I;obtain⟨⟨⟨_,_⟩,r3,d5,d6⟩,_⟩:=u.hr.atl U k2;have fin:∀ (jump:Option Code),StR (exN e) (if jump.isNone then .ready else .done) jump->jump.isNone=zB e->∃ v w',(Instr.endRound l.blk jump).run C.P w3=.ok v w'/\TA C.P base ρ m m' w (.bool (zB e)) (.returned v) w':=fun jump hj he=>by
   refine⟨_,_,run_endRound jump d5,?_⟩;obtain⟨o4,o5,o6⟩:=eS (o:=.loop { r3 with state:=if jump.isNone then .ready else .done,pending:=jump }) (B5.1 d5).1;have Z:St C.P base ρ2 ρ2 s2.m m' w3 (w3.putObj l.blk (.loop { r3 with state:=if jump.isNone then .ready else .done,pending:=jump })):=St.write u.hr W k2 rfl U X ⟨rfl,rfl,rfl⟩ o4 o6 ⟨⟨X,b2⟩,_,o5,d6.code,d6.fr,hj⟩;exact⟨_,ρ2,rfl,by rw[he];exact .pure rfl,St.trans J st1 (St.trans E.fr st2 (St.trans A.fr u Z))⟩
  cases e with
  | normal=>exact fin none ⟨rfl,rfl⟩ rfl
  | ret=>exact fin (some .ret) ⟨rfl,rfl⟩ rfl
  | exit k=>exact fin (some (.exit k)) ⟨rfl,rfl⟩ rfl
structure WB (C:Cx) (base:Nat):Prop where
 names:AE C.P
 ext:∀ f k fn,C.P.funcs[f]? = some fn->fn.body=none->DH C.ext f=some k->gJ C.P base C.gl f ⟨kW k⟩
 con:∀ f c,C.con f=some c->gJ C.P base C.gl f c
 lp:∀ f fn body,C.P.funcs[f]? = some fn->fn.body=some body->ED C.P base C.gl fn.ntmps body (C.lp f)
 draws:∀ call,Q4 C.P base C.gl call->d7 C.P base C.gl call
def jC(f:FuncId):gJ P base gl f ⟨fun _ _=>none⟩:=⟨fun vs m m' v hr=>(by cases hr),fun ρ m m' w vs a v hr=>(by cases hr)⟩
def UB:A0e P base gl ⟨fun _ _=>none⟩:=⟨fun vs m m' v hr=>(by cases hr),fun ρ m m' w b args a v l hr=>(by cases hr)⟩
def eH{C:Cx}(h:WB C base):∀ (d:Nat),Q4 C.P base C.gl (dB C d)
 | 0=>⟨fun f=>jC f,UB⟩
 | d+1=>by
   have e:=eH h d;refine⟨fun f=>?_,NZ e (h.draws _ e) h.lp⟩;show gJ C.P base C.gl f (xJ C (dB C d) f);unfold xJ;split
   .exact jC f
   .rename_i fn a;have a:C.P.funcs[f]? = some fn:=by simpa using a
    split
    .rename_i c b;exact h.con f c b
    .split
     .rename_i l;split
      .rename_i k hk;exact h.ext f k fn a l hk
      .exact jC f
     .rename_i c l;exact JO (gl:=C.gl) a l (h.names f fn a) e (h.draws _ e) (h.lp f fn c a l)
end
end
section
open Go
variable [Ora]
def AD(P:Program)(nt gl:Nat)(call:L4)(all:List Oper)(b:List Nat)(rs:List Rec)(c:Bool)(o:Oper)(fr e:Fr)(m m2:Mem)(v:Value):Prop :=
 tH nt o.dst=true/\FI nt gl o.op=true/\e=qG o.dst v fr /\
 ((c=false/\∃ lg,s8 nt fr m.lg all o=some (false,lg)/\v=undef/\m2=m.wLg lg) ∨
   (c=false/\∃ lg a,s8 nt fr m.lg all o=some (true,lg)/\gU fr (m.wLg lg) o b rs (T5 P call o)=some (v,a)/\m2=m.wLg a) ∨
   (c=true/\∃ lg,s8 nt fr m.lg all o=some (true,lg)/\(T5 P call o).run fr (m.wLg lg)=some (v,m2)/\m.hi<=m2.hi) ∨
   (c=false/\n8 o.op=false/\∃ lg,s8 nt fr m.lg all o=some (true,lg)/\∃ mv m',vG (m.wLg lg) (A1k fr o.op) (wE b rs)=some mv/\(T5 P call o).run fr mv=some (v,m')/\m'.W=[]/\m.hi<=m'.hi/\gZ (m.wLg lg) m'=some m2))
def LK{α:Type}{c:Bool}{x:Option α}{y:α}(h:(bif c then none else x)=some y):c=false/\x=some y:=by cases c<;>first|exact⟨rfl,h⟩|cases h
def bB(nt:Nat)(all:List Oper)(op:OpC)(b:List Nat)(rs:List Rec)(fr:Fr)(o:Oper)(m m2:Mem)(v:Value)(r:Option (Nat×AB)):Prop :=
 (∃ lg,s8 nt fr m.lg all o=some (false,lg)/\v=undef/\m2=m.wLg lg/\r=none)∨(∃ lg a,s8 nt fr m.lg all o=some (true,lg)/\gU fr (m.wLg lg) o b rs op=some (v,a)/\m2=m.wLg a/\r=DA m.H fr o.op)
def QsN(e:Bool)(i nt:Nat)(all:List Oper)(op:OpC)(b:List Nat)(rs:List Rec)(fr:Fr)(o:Oper)(m m2:Mem)(v:Value)(c a:Qs):Prop :=
 (e=true/\a=c/\PN b m2.H c=true)∨(e=false/\a=c)∨(e=false/\∃ r,a=(i,r)::c/\bB nt all op b rs fr o m m2 v r)
def SW(P:Program)(nt gl:Nat)(call:L4)(all:List Oper)(r:List Oper)(i:Nat)(bs:List F8)(rs:List Rec)(b:Qs)(s a:S):Prop :=
  ∃ (F:Nat->Fr) (M:Nat->Mem) (V:Nat->Value) (R:Nat->List Rec) (X:Nat->Qs) (B:Nat->Bool),F i=s.fr/\M i=s.m/\R i=rs/\X i=b/\F (i+r.length)=a.fr/\M (i+r.length)=a.m /\
   ∀ j o,r[j]? = some o->AD P nt gl call all (bs.getD j []) (R (i+j)) (B (i+j)) o (F (i+j)) (F (i+j+1)) (M (i+j)) (M (i+j+1)) (V (i+j))/\(B (i+j)=true->AV o.op (i+j) (bs.getD j []) (bs.drop (j+1)) (r.drop (j+1)) (X (i+j))=true) /\
    ((R (i+j+1)=R (i+j)/\∃ lg,M (i+j+1)=(M (i+j)).wLg lg)∨(B (i+j)=true/\R (i+j+1)=[])∨R (i+j+1)=⟨i+j,(M (i+j)).n,(M (i+j+1)).n⟩::R (i+j)) /\
    QsN (B (i+j)) (i+j) nt all (T5 P call o) (bs.getD j []) (R (i+j)) (F (i+j)) o (M (i+j)) (M (i+j+1)) (V (i+j)) (X (i+j)) (X (i+j+1))
def WG{P:Program}{nt gl:Nat}{call:L4}{all:List Oper}:∀ (r:List Oper) (i:Nat) (bs:List F8) (rs:List Rec) (e:Qs) (s k:S),c8 P nt gl call all r i bs rs e s=some k->SW P nt gl call all r i bs rs e s k
 | [],i,bs,rs,e,s,k,h=>by
   have h:some s=some k:=by cases bs<;>exact h
   cases h;exact⟨fun _=>s.fr,fun _=>s.m,fun _=>undef,fun _=>rs,fun _=>e,fun _=>false,rfl,rfl,rfl,rfl,rfl,rfl,fun j o A=>by simp at A⟩
 | o::r,i,[],rs,e,s,k,h=>by obtain⟨fr,m⟩:=s;cases h
 | o::r,i,b::bs,rs,e,⟨fr,⟨H0,n0,W0,hi0,lg0⟩⟩,k,h=>by
   generalize l:(⟨H0,n0,W0,hi0,lg0⟩:Mem)=m at h;have glue:∀ (w:Bool),(w=true->AV o.op i b bs r e=true)->∀ (v:Value) (m2:Mem) (a:List Rec) (f:Qs),AD P nt gl call all b rs w o fr (qG o.dst v fr) m m2 v->((a=rs/\∃ lg,m2=m.wLg lg)∨(w=true/\a=[])∨a=⟨i,m.n,m2.n⟩::rs)->QsN w i nt all (T5 P call o) b rs fr o m m2 v e f->c8 P nt gl call all r (i+1) bs a f ⟨qG o.dst v fr,m2⟩=some k->SW P nt gl call all (o::r) i (b::bs) rs e ⟨fr,m⟩ k:=fun w H v m2 a f J N I y=>by
    obtain⟨F,M,V,R,X,B,f1,f2,f3,E,f4,f5,f6⟩:=WG r (i+1) bs a f _ k y;refine⟨fun j=>if j<=i then fr else F j,fun j=>if j<=i then m else M j,fun j=>if j<=i then v else V j,fun j=>if j<=i then rs else R j,fun j=>if j<=i then e else X j,fun j=>if j<=i then w else B j,by simp,by simp,by simp,by simp,?_,?_,?_⟩
    .simp only[I7];rw[B1 A9,show i+(r.length+1)=i+1+r.length by omega];exact f4
    .simp only[I7];rw[B1 A9,show i+(r.length+1)=i+1+r.length by omega];exact f5
    .intro j o' A;cases j with
     | zero =>
       simp at A;subst A;simp only[Nat.add_zero,A6,if_true,Nat.not_succ_le_self,if_false,f1,f2,f3,E];exact⟨J,H,N,I⟩
     | succ j =>
       have D:r[j]? = some o':=by simpa using A
       have:=f6 j o' D;simp only[show ¬ i+(j+1)<=i by omega,show ¬ i+(j+1)+1<=i by omega,if_false];rw[show i+(j+1)=i+1+j by omega]
       simpa using this
   subst l;unfold c8 at h;split at h
   .rename_i lg hw G;obtain⟨d1,d2⟩:=B3 G;cases u:AV o.op i b bs r e with
    | true =>
      rw[u]at h;simp only[D7]at h;split at h
      .rename_i v m2 hr;obtain⟨c,h⟩:=A2 h;obtain⟨c,L⟩:=B3 c;rw[y7]at h;exact glue true (fun _=>u) v m2 _ _ ⟨d1,d2,rfl,.inr (.inr (.inl ⟨rfl,lg,hw,hr,A1 c⟩))⟩ (.inr (.inl ⟨rfl,rfl⟩)) (.inl ⟨rfl,rfl,L⟩) h
      .cases h
    | false =>
      rw[u]at h;simp only[D3]at h;split at h
      .rename_i v t C;obtain⟨O,C⟩:=A2 C;rw[y7]at h;exact glue false (fun h=>by cases h) v _ _ _ ⟨d1,d2,rfl,.inr (.inl ⟨rfl,lg,t,hw,C,rfl⟩)⟩ (.inl ⟨rfl,t,rfl⟩) (.inr (.inr ⟨rfl,_,rfl,.inr ⟨lg,t,hw,C,rfl,rfl⟩⟩)) h
      .obtain⟨K,h⟩:=LK h;unfold IW at h;simp only at h;split at h
       .rename_i mv T;split at h
        .rename_i v m' hr;split at h
         .rename_i Q c;split at h
          .rename_i m2 hm;rw[y7]at h;exact glue false (fun h=>by cases h) v m2 _ _ ⟨d1,d2,rfl,.inr (.inr (.inr ⟨rfl,K,lg,hw,mv,m',T,hr,Q,A1 c,hm⟩))⟩ (.inr (.inr rfl)) (.inr (.inl ⟨rfl,rfl⟩)) h
          .cases h
         .cases h
        .cases h
       .cases h
   .rename_i lg hw G;obtain⟨d1,d2⟩:=B3 G;rw[y7]at h;exact glue false (fun h=>by cases h) undef _ _ _ ⟨d1,d2,rfl,.inl ⟨rfl,lg,hw,rfl,rfl⟩⟩ (.inl ⟨rfl,lg,rfl⟩) (.inr (.inr ⟨rfl,_,rfl,.inl ⟨lg,hw,rfl,rfl,rfl⟩⟩)) h
   .cases h
def EB{l:F8}{b k:Nat}(h:k ∈ SU l b):k=b∨k ∈ l:=by
 unfold SU at h;cases e:l7 l b with
 | true=>rw[e]at h;exact .inr h
 | false=>rw[e,D3,E1]at h;exact A8.1 h
def wM:∀ {a b:F8} {k:Nat},k ∈ IG a b->k ∈ a∨k ∈ b
 | [],b,k,h=>.inr h
 | x::a,b,k,h=>by
   rcases EB (show k ∈ SU (IG a b) x from h)with rfl|h
   .exact .inl B4
   .rcases wM h with h|h
    .exact .inl (C5 _ h)
    .exact .inr h
def pB{acc:List F8}:∀ {es:List Edge} {k:Nat},k ∈ nQ acc es->∃ e ∈ es,Region.binds .any e=true/\(k=e.on∨k ∈ acc.getD e.on [])
 | [],k,h=>by cases h
 | e::r,k,h=>by
   unfold nQ at h;cases a:Region.binds .any e with
   | true =>
     rw[a]at h;rw[D7]at h;rcases(EB h).imp_right wM with h|h|h
     .exact⟨e,B4,a,.inl h⟩
     .exact⟨e,B4,a,.inr h⟩
     .obtain⟨e',h1,b⟩:=pB h;exact⟨e',C5 _ h1,b⟩
   | false =>
     rw[a]at h;obtain⟨e',h1,b⟩:=pB h;exact⟨e',C5 _ h1,b⟩
def pA:∀ (r:List Oper) (acc:List F8),∃ a,V7 r acc=acc++a/\a.length=r.length/\∀ j o,r[j]? = some o->∃ pre,pre=(acc++a).take (acc.length+j)/\a[j]? = some (nQ pre o.after.toList)
 | [],acc=>⟨[],by simp[V7],rfl,fun j o h=>by simp at h⟩
 | o::r,acc=>by
   obtain⟨a,h1,c,h3⟩:=pA r (acc++[nQ acc o.after.toList]);refine⟨nQ acc o.after.toList::a,by rw[V7,G5,h1];simp,by simp[c],fun j o' b=>?_⟩;cases j with
   | zero =>
     simp at b;subst b;exact⟨_,rfl,by simp⟩
   | succ j =>
     obtain⟨pre,g1,g2⟩:=h3 j o' (by simpa using b);refine⟨pre,?_,by simpa using g2⟩;rw[g1];simp[Z7,fM 1 j]
def VZ{ops:List Oper}{k:Nat}(l:ops[i]? = some o)(he:∀ e ∈ o.after.toList,Region.binds .any e=true->e.on<i)(hk:k ∈ (V7 ops []).getD i []) :
  ∃ e ∈ o.after.toList,Region.binds .any e=true/\(k=e.on∨k ∈ (V7 ops []).getD e.on []):=by
 obtain⟨m,h1,n,h3⟩:=pA ops [];simp only[Q7]at h1 h3;obtain⟨pre,g1,g2⟩:=h3 i o l;rw[h1]at hk ⊢;rw[B9,g2]at hk;obtain⟨e,b,c,f⟩:=pB (show k ∈ nQ pre o.after.toList from hk);refine⟨e,b,c,f.imp id fun h=>?_⟩;have a:=he e b c;rw[g1]at h;simp only[List.length_nil,D8,B9]at h ⊢;rw[F0 a]at h;exact h
def iP(ops:List Oper)(D:Nat->Prop):Prop:=∀ i o,ops[i]? = some o->D i->∀ e ∈ o.after.toList,Region.binds .any e=true->D e.on
def uB{ops:List Oper}{D:Nat->Prop}(m:iP ops D)(f:∀ i o,ops[i]? = some o->∀ e ∈ o.after.toList,Region.binds .any e=true->e.on<i) :
  ∀ (n i k:Nat) (o:Oper),i<n->ops[i]? = some o->(∀ e ∈ o.after.toList,Region.binds .any e=true->D e.on)->k ∈ (V7 ops []).getD i []->D k
 | 0,i,k,o,h,_,_,_=>by omega
 | n+1,i,k,o,h,ho,he,hk=>by
   obtain⟨e,l,a,c⟩:=VZ ho (f i o ho) hk;rcases c with rfl|c
   .exact he e l a
   .have b:=f i o ho e l a;have hlen:e.on<ops.length:=Nat.lt_trans b (A7.1 ho).1;refine uB m f n e.on k ops[e.on] A9 (A4 hlen) (fun e' h1 s=>m e.on _ (A4 hlen) (he e l a) e' h1 s) c
def xS{H0:Hp AB}:∀ (l:List Nat) (H:Hp AB),(∀ b ∈ l,b<=G1)->∀ id,id<=G1->Hp.get (xT H0 H l) id=if id ∈ l then Hp.get H0 id else Hp.get H id
 | [],H,_,id,_=>by simp[xT]
 | b::r,H,hl,id,hid=>by
   have c:=hl b B4;rw[xT,bS,xS r _ (fun x e=>hl x (C5 _ e)) id hid,E7 _ _ _ _ c hid];by_cases h1:id ∈ r
   .rw[B2 h1,B2 (C5 _ h1)]
   .rw[B1 h1];by_cases a:id=b
    .subst a;rw[B2 rfl,B2 B4]
    .rw[B1 a,B1 (by simp[h1,a])]
def wQ:∀ (l:List Nat) (H:Hp AB),(∀ b ∈ l,b<=G1)->∀ id,id<=G1->Hp.get (wR H l) id=if id ∈ l then none else Hp.get H id
 | [],H,_,id,_=>by simp[wR]
 | b::r,H,hl,id,hid=>by
   have c:=hl b B4;rw[wR,bS,wQ r _ (fun x e=>hl x (C5 _ e)) id hid,E7 _ _ _ _ c hid];by_cases h1:id ∈ r
   .rw[B2 h1,B2 (C5 _ h1)]
   .rw[B1 h1];by_cases a:id=b
    .subst a;rw[B2 rfl,B2 B4]
    .rw[B1 a,B1 (by simp[h1,a])]
def hJ:∀ (n a b:Nat),b ∈ ET a n↔a<=b/\b<a+n
 | 0,a,b=>by simp[ET]
 | n+1,a,b=>by
   simp only[ET,A8,hJ n (a+1) b];omega
def CD{m m' m2:Mem}(h:gZ m m'=some m2)(s:m.n<=m.hi)(c:m.hi<=m'.hi):m.n<=m2.n/\m.hi<=m2.hi/\m2.n<=m2.hi/\m2.W=m.W/\(m2.n=m'.hi∨(m2.n=m.n/\m'.hi<=m.n))/\m2.hi=m'.hi/\m2.lg=m'.lg /\
  ∀ id,id<=G1->Hp.get m2.H id=if m.n<=id/\id<m2.n then Hp.get m'.H id else Hp.get m.H id:=by
 unfold gZ at h;cases a:Nat.ble m'.hi m.n with
 | true =>
   have a:=A1 a;have e:Nat.ble m'.hi m.n=true:=C4 a;rw[e]at h;cases h;refine⟨A6 _,A6 _,s,rfl,.inr ⟨rfl,a⟩,by show m.hi=m'.hi;omega,rfl,fun id hid=>?_⟩;rw[B1 (by show ¬ (m.n<=id/\id<m.n);omega)]
 | false =>
   have f:m.n<m'.hi:=by
    rcases F2 m.n m'.hi with h1|h1
    .exact h1
    .rw[show Nat.ble m'.hi m.n=true from C4 h1]at a;cases a
   rw[a]at h;simp only[D3]at h;obtain⟨l,h⟩:=A2 h;have l:=A1 l;simp only[E1,bH]at h;cases h;refine⟨Nat.le_of_lt f,c,A6 _,rfl,.inl rfl,rfl,rfl,fun id hid=>?_⟩;show Hp.get (xT m'.H m.H (ET m.n (m'.hi-m.n))) id=_;rw[xS _ _ (fun b k=>by have:=(hJ _ _ _).1 k;omega) id hid];by_cases h1:m.n<=id/\id<m'.hi
   .rw[B2 ((hJ _ _ _).2 A9),B2 h1]
   .rw[B1 (fun h=>h1 (by have:=(hJ _ _ _).1 h;omega)),B1 h1]
def p7(D:Nat->Bool)(dst:Nat->Option Tmp)(V:Nat->Value)(f0:Tmp->Value)(t:Tmp):Nat->Value
 | 0=>f0 t
 | n+1=>if D n=true/\dst n=some t then V n else p7 D dst V f0 t n
def cB{D D':Nat->Bool}{dst:Nat->Option Tmp}{V:Nat->Value}{f0:Tmp->Value}{t:Tmp}:∀ (n:Nat),(∀ k,k<n->dst k=some t->D k=D' k)->p7 D dst V f0 t n=p7 D' dst V f0 t n
 | 0,_=>rfl
 | n+1,h=>by
   unfold p7;have b:=cB (V:=V) (f0:=f0) n fun k hk=>h k (Nat.lt_succ_of_lt hk)
   by_cases a:dst n=some t
   .rw[h n (H5 n) a,b]
   .rw[B1 (fun hh=>a hh.2),B1 (fun hh=>a hh.2),b]
def mX{D D':Nat->Bool}{dst:Nat->Option Tmp}{V:Nat->Value}{f0:Tmp->Value}{t:Tmp}{i:Nat}(c:∀ k,k≠i->D' k=D k)(hi:D' i=true):∀ (n:Nat),i<n->dst i=some t->(∀ k,i<k->k<n->dst k=some t->D k=false)->p7 D' dst V f0 t n=V i
 | 0,h,_,_=>by omega
 | n+1,h,hd,hl=>by
   unfold p7;by_cases e:n=i
   .subst e;rw[B2 ⟨hi,hd⟩]
   .have a:i<n:=A9;rw[B1 (fun hh=>by
     have h1:=hl n a (H5 n) hh.2;rw[c n e,h1]at hh;exact absurd hh.1 (by simp))]
    exact mX c hi n a hd fun k hk b=>hl k hk (Nat.lt_succ_of_lt b)
def kT{D D':Nat->Bool}{dst:Nat->Option Tmp}{V:Nat->Value}{f0:Tmp->Value}{t:Tmp}(b:∀ k,k≠i->D' k=D k)(a:dst i≠some t)(n:Nat):p7 D' dst V f0 t n=p7 D dst V f0 t n :=
 cB n fun k _ hk=>b k fun e=>a (e▸hk)
structure HRf (P:Program) (base:Nat) (ρ:Ren) (G:Nat->Option AB) (w:World):Prop where
 dom:∀ b l,ρ b=some l->b<=G1
 at_:∀ id,id<=G1->∀ ab,G id=some ab->∃ l,ρ id=some l/\BR P ρ ab l w/\(ab.rw=true->l.on=true->base<=l.blk/\∀ id2,id2<=G1->∀ ab2 l2,G id2=some ab2->ρ id2=some l2->Tc ab2 l2 l.blk->id2=id)
def HRf.hr{P:Program}{base:Nat}{ρ:Ren}{G:Nat->Option AB}{H:Hp AB}{w:World}(h:HRf P base ρ G w)(s:∀ id,id<=G1->∀ ab,Hp.get H id=some ab->G id=some ab):HR P base ρ H w :=
 ⟨h.dom,fun id hid ab m=>let ⟨l,a,b,c⟩:=h.at_ id hid ab (s id hid ab m);⟨l,a,b,fun hr n=>⟨(c hr n).1,fun k e f l2 g=>(c hr n).2 k e f l2 (s k e f g)⟩⟩⟩
def HR.f{P:Program}{base:Nat}{ρ:Ren}{H:Hp AB}{w:World}(h:HR P base ρ H w){G:Nat->Option AB}(t:∀ id,id<=G1->∀ ab,G id=some ab->Hp.get H id=some ab):HRf P base ρ G w :=
 ⟨h.dom,fun id hid ab n=>let ⟨l,a,b,c⟩:=h.at_ id hid ab (t id hid ab n);⟨l,a,b,fun hr s=>⟨(c hr s).1,fun m e k l2 g=>(c hr s).2 m e k l2 (t m e k g)⟩⟩⟩
def Ff(ρ:Ren)(G:Nat->Option AB)(k:Nat):Prop:=∃ id ab l,id<=G1/\G id=some ab/\ρ id=some l/\Tf ab l k
end
end Go.Sx
