import Derived.Test.YtjdnjfnhdeplfaaX5
set_option linter.all false
set_option maxRecDepth 100000
set_option maxHeartbeats 4000000
namespace Go.Sx
open Go
variable {ds:List Deferred}{d:Option Tmp}{o p:Oper}{lg':Lg}{i j:Nat}{q:List Bool}{r:Option (Ex×S)}{g:Value}{x:Operand}{me:FuncId}{ps:Array Tmp}{as bd:Code}
section
open Go
variable [Ora]
section
variable {P:Program} {base gl nt:Nat}
def GR(gl:Nat)(ρ:Ren):Prop:=∀ g,g<gl->ρ g=some (lc g 0 0)
def GR.mono{ρ ρ':Ren}(h:GR gl ρ)(he:∀ b l,ρ b=some l->ρ' b=some l):GR gl ρ':=fun g a=>he _ _ (h g a)
structure At (P:Program) (base gl:Nat) (ρ:Ren) (m:Mem) (hi:Nat) (w:World):Prop where
 hr:HR P base ρ m.H w
 bs:base<=w.heap.size
 fr:I8 ρ m.n hi
 gr:GR gl ρ
 nh:m.n<=m.hi
 wb:∀ b ∈ m.W,∀ l,ρ b=some l->l.on=true->base<=l.blk
 gf:∀ k o,Ora.G k=some o->k<base/\w.heap[k]? = some o
def At.wbs{ρ ρ':Ren}{m m':Mem}{hi:Nat}{w w':World}(h:At P base gl ρ m hi w)(st:St P base ρ ρ' m m' w w'):∀ b ∈ m'.W,∀ l,ρ b=some l->l.on=true->base<=l.blk:=fun b e l c a=>by
 by_cases hm:b ∈ m.W
 .exact h.wb b hm l c a
 .obtain⟨ab,h1,f⟩:=st.wrw b e hm l c;exact((h.hr.atl c h1).2 f a).1
def At.below{ρ ρ':Ren}{m m':Mem}{hi:Nat}{w w':World}(h:At P base gl ρ m hi w)(st:St P base ρ ρ' m m' w w'){k:Nat}(hk:k<base):w'.heap[k]? = w.heap[k]? :=
 st.keep k (C9 hk h.bs) fun b c l f a e=>by have:=h.wbs st b c l f a;omega
def At.step{ρ ρ':Ren}{m m':Mem}{hi:Nat}{w w':World}(h:At P base gl ρ m hi w)(st:St P base ρ ρ' m m' w w'):At P base gl ρ' m' hi w' :=
 ⟨st.hr,B8 h.bs st.size,fun b h1 c=>by
  cases e:ρ' b with
  | none=>rfl
  | some l =>
    cases h0:ρ b with
    | some l0=>rw[h.fr b (B8 st.nle h1) c]at h0;cases h0
    | none=>have:=(st.new b l e h0).2;omega,h.gr.mono st.ext,st.nhi h.nh,fun b e l n a=>by
  cases h0:ρ b with
  | some l0 =>
    have:=st.ext b l0 h0;rw[n]at this
    have:=A5 this;subst this;exact h.wbs st b e l h0 a
  | none =>
    rcases st.blk b l n h0 a with h1|⟨s,h1,l0,c,f,h3⟩
    .have:=h.bs;omega
    .rw[<- h3];exact h.wbs st s h1 l0 c f,fun k o hk=>⟨(h.gf k o hk).1,(h.below st (h.gf k o hk).1).trans (h.gf k o hk).2⟩⟩
def At.less{ρ:Ren}{m:Mem}{hi hi':Nat}{w:World}(h:At P base gl ρ m hi w)(a:hi'<=hi):At P base gl ρ m hi' w:=⟨h.hr,h.bs,fun b h1 c=>h.fr b h1 (C9 c a),h.gr,h.nh,h.wb,h.gf⟩
def At.wLg{ρ:Ren}{m:Mem}{hi:Nat}{w:World}(h:At P base gl ρ m hi w)(lg:Lg):At P base gl ρ (m.wLg lg) hi w:=by
 cases m;exact⟨h.hr,h.bs,h.fr,h.gr,h.nh,h.wb,h.gf⟩
def WJ(P:Program)(base:Nat)(ρ:Ren)(m m':Mem)(w:World)(v:Value):Ending->World->Prop:=fun e w'=>∃ v' ρ',e=.returned v'/\VR ρ' v v'/\St P base ρ ρ' m m' w w'
structure hY (P:Program) (base gl:Nat) (f:FuncId) (c:FnC):Prop where
 lg:∀ (vs:List Value) (m m':Mem) (v:Value),c.run vs m=some (v,m')->m.lg.le m'.lg
 ok:∀ (ρ:Ren) (m m':Mem) (w:World) (vs vs':List Value) (v:Value),c.run vs m=some (v,m')->Sat m'.lg->At P base gl ρ m m'.hi w->LR ρ vs vs' ->
  ((callFunc f ⟨vs'⟩).run P w=.ok (.enter f ⟨vs'⟩) w/\Calls P f ⟨vs'⟩ w (WJ P base ρ m m' w v)) ∨
  (∃ v' ρ' w',(callFunc f ⟨vs'⟩).run P w=.ok (.value v') w'/\VR ρ' v v'/\St P base ρ ρ' m m' w w')
structure Zn where
 rd:Option Nat
 D:List Deferred
def A2y(l:Loc):Deferred:={ target:=.collected l.blk,args:=#[] }
def DfR(ρ:Ren)(ids:List Nat)(ds:List Deferred):Prop:=ids.length=ds.length/\∀ (i:Nat) (id:Nat) (d:Deferred),ids[i]? = some id->ds[i]? = some d->∃ l,ρ id=some l/\d=A2y l
def DfR.mono{ρ ρ':Ren}{ids:G6}(h:DfR ρ ids ds)(he:∀ b l,ρ b=some l->ρ' b=some l):DfR ρ' ids ds:=⟨h.1,fun i id d a b=>let ⟨l,c,e⟩:=h.2 i id d a b;⟨l,he _ _ c,e⟩⟩
def DfR.nil{ρ:Ren}:DfR ρ [] []:=⟨rfl,fun i id d h=>by simp at h⟩
structure FrR (z:Zn) (ρ:Ren) (nt:Nat) (fr:Fr) (a:Act):Prop where
 size:a.tmps.size=nt
 le:nt<=512
 df:∃ ds,a.defers=ds++z.D/\DfR ρ (dvG nt fr) ds
 rd:nt<=510->(kN (fr.get 511)=true->z.rd=none)/\∀ b,cB (fr.get 511)=some b->∃ l,ρ b=some l/\z.rd=some l.blk
 get:∀ t,t<nt->VR ρ (fr.get t) (a.tmps.getD t undef)
variable {z:Zn}
def FrR.mono{ρ ρ':Ren}{fr:Fr}{a:Act}(h:FrR z ρ nt fr a)(he:∀ b l,ρ b=some l->ρ' b=some l):FrR z ρ' nt fr a :=
 ⟨h.size,h.le,let ⟨ds,a,b⟩:=h.df;⟨ds,a,b.mono he⟩,fun f=>⟨(h.rd f).1,fun b k=>let ⟨l,c,e⟩:=(h.rd f).2 b k;⟨l,he _ _ c,e⟩⟩,fun t m=>(h.get t m).mono he⟩
def FrR.put{ρ:Ren}{fr:Fr}{a:Act}{d:Nat}{v v':Value}(h:FrR z ρ nt fr a)(l:d<nt)(m:VR ρ v v'):FrR z ρ nt (fr.set d v) (a.put (some d) v'):=by
 have hle:=h.le;have b:∀ t,t<512->t≠d->(fr.set d v).get t=fr.get t:=fun t h1 n=>by rw[K8 _ _ _ _ A6 h1,B0 n]
 refine⟨by simp[Act.put,h.size],h.le,?_,fun s=>?_,fun t k=>?_⟩
 .obtain⟨ds,u,c⟩:=h.df;refine⟨ds,u,?_⟩;unfold dvG at c ⊢;cases f:Nat.ble nt 510 with
  | true =>
    have:=A1 f;rw[f]at c;rw[b 510 K3 A6];exact c
  | false=>rw[f]at c;exact c
 .rw[b 511 K3 A6];exact h.rd s
 .rw[K8 _ _ _ _ (C9 l h.le) (C9 k h.le)];simp only[Act.put,B1,D1];by_cases e:t=d
  .subst e;rw[B2 rfl,B2 rfl,B2 (by rw[h.size];exact l)];exact m
  .rw[B0 e,B0 (fun h=>e h.symm)]
   have:=h.get t k
   simpa [B1]using this
def ZR(z:Zn)(ρ:Ren)(nt:Nat)(fr:Fr)(a:List Deferred):Prop:=(∃ ds,a=ds++z.D/\DfR ρ (dvG nt fr) ds)/\(nt<=510->(kN (fr.get 511)=true->z.rd=none)/\∀ b,cB (fr.get 511)=some b->∃ l,ρ b=some l/\z.rd=some l.blk)
def FrR.zr{ρ:Ren}{fr:Fr}{a:Act}(h:FrR z ρ nt fr a):ZR z ρ nt fr a.defers:=⟨h.df,h.rd⟩
def ZR.congr{ρ ρ':Ren}{fr a:Fr}(h:ZR z ρ nt fr ds)(he:∀ b l,ρ b=some l->ρ' b=some l)(m:nt<=510->a.get 510=fr.get 510/\a.get 511=fr.get 511):ZR z ρ' nt a ds:=by
 obtain⟨⟨f,h1,s⟩,h3⟩:=h;refine⟨⟨f,h1,?_⟩,fun k=>?_⟩
 .have:dvG nt a=dvG nt fr:=by
   unfold dvG;cases t:Nat.ble nt 510 with
   | true=>rw[(m (A1 t)).1]
   | false=>rfl
  rw[this];exact s.mono he
 .rw[(m k).2];exact⟨(h3 k).1,fun b n=>let ⟨l,c,e⟩:=(h3 k).2 b n;⟨l,he _ _ c,e⟩⟩
def cL(a:Act)(d:Option Tmp)(v:Value):(a.put d v).defers=a.defers:=by cases d<;>rfl
def FrR.ev{ρ:Ren}{fr:Fr}{a:Act}(h:FrR z ρ nt fr a)(e:GR gl ρ){x:Operand}(c:okX nt gl x=true):VR ρ (ev fr x) (a.eval x):=by
 cases x with
 | tmp t=>exact h.get t (A1 c)
 | const v=>exact VR.ofC c
 | global g =>
   have:=VR.ptr (o:=0) (e g (A1 c));exact this
 | func f=>exact .func (a:=[]) (b:=[]) (a':=[]) (b':=[]) rfl rfl (fun i v v' h=>by simp at h) (fun i v v' h=>by simp at h)
def FrR.ops{ρ:Ren}{fr:Fr}{a:Act}(h:FrR z ρ nt fr a)(c:GR gl ρ){o:Op}(b:HO nt gl o=true):FR ρ fr a.eval o:=fun x e=>h.ev c (D3.1 b x e)
def uW{o:Op}{c:Callee}{xs:Array Operand}{tys:Array TypeId}(h:o=.call ⟨c,xs,tys⟩):∀ x ∈ xs.toList,x ∈ o.operands.toList:=fun x a=>by
 subst h;show x ∈ ((match c with|.value f=>#[f]|.invoke r _=>#[r]|.builtin _=>#[])++xs:Array Operand).toList;simp;exact .inr (by simpa using a)
structure A2C (P:Program) (base gl:Nat) (c:FnC):Prop where
 lg:∀ (vs:List Value) (m m':Mem) (v:Value),c.run vs m=some (v,m')->m.lg.le m'.lg
 ok:∀ (ρ:Ren) (m m':Mem) (w:World) (b:Nat) (args args':List Value) (v:Value) (l:Loc),c.run (yv b::args) m=some (v,m')->Sat m'.lg->At P base gl ρ m m'.hi w->LR ρ args args'->ρ b=some l ->
  ∃ f tmps assign body,(Instr.yield l.blk ⟨args'⟩).run P w=.ok (.round l.blk f tmps assign body) w/\RoundIn Fence.wide 0 P l.blk f tmps assign body w (WJ P base ρ m m' w v)
structure R6 (P:Program) (base gl:Nat) (call:M2):Prop where
 fn:∀ f,hY P base gl f (call.fn f)
 yl:A2C P base gl call.yl
def wG{v:Value}{b:Nat}(h:cB v=some b):v=yv b:=by
 unfold cB at h;split at h
 .cases h;rfl
 .cases h
def mT{ρ:Ren}{m m':Mem}{w:World}{call:M2}{fr:Fr}{a:Act}{v:Value}{K:Act->World->Prop}{Q:Exit->Act->World->Prop}(n:R6 P base gl call)(k:(U9 P call o).run fr m=some (v,m'))(F:Sat m'.lg)
  (h:At P base gl ρ m m'.hi w) (B:FR ρ fr a.eval o.op) (I:∀ v' ρ' w',VR ρ' v v'->St P base ρ ρ' m m' w w'->K (a.put o.dst v') w'):wpO P z.rd o a w K Q:=by
 have G:∀ (f:FuncId) (vs A:List Value),(∀ c,o.op≠.defer c)->(call.fn f).run vs m=some (v,m')->LR ρ vs A->(execOp a.eval o).run P w=(callFunc f ⟨A⟩).run P w->wpO P z.rd o a w K Q:=fun f vs A J hr H he=>by
  refine⟨fun _ _=>trivial,?_⟩;rw[Oper.semAt_eq _ _ _ J,he];rcases(n.fn f).ok ρ m m' w vs A v hr F h H with⟨h1,u⟩|⟨v',ρ',w',h1,u,h3⟩
  .rw[h1,Oper.uponIn_enter];refine⟨eW,aB.2 (u.mono fun e w' ⟨v',ρ',he,H,M⟩=>?_)⟩;subst he;exact I v' ρ' w' H M
  .rw[h1,Oper.uponIn_value];exact I v' ρ' w' u h3
 have s:∀ (J:∀ c,o.op≠.defer c),NOk P base ρ m w (execOp a.eval o) v m'->wpO P z.rd o a w K Q:=fun J R=>by
  obtain⟨v',ρ',w',h1,u,h3⟩:=R;refine⟨fun _ _=>trivial,?_⟩;rw[Oper.semAt_eq _ _ _ J];rcases h1 with h1|⟨h1,rfl⟩
  .rw[h1,Oper.uponIn_value];exact I v' ρ' w' u h3
  .rw[h1,Oper.uponIn_skip];exact I undef ρ' w' u h3
 obtain⟨dst,op,ty,pos,Z,Y⟩:=o;unfold U9 at k;simp only at k B;split at k
 .rename_i f xs tys;have l1:=bG (ρ:=ρ) (fr:=fr) (g:=a.eval) (xs:=xs.toList) fun x C=>B x (uW rfl x C)
  have k:(call.fn f).run ((qV xs.toList).run fr) m=some (v,m'):=k;rw[kT]at k;refine G f _ _ (fun c n=>by cases n) k l1 ?_;have L:xs.map a.eval=⟨xs.toList.map a.eval⟩:=by apply I1;simp
  simp only[execOp,resolve,Act.eval,Deferred.ofValue,pure_bind,invoke,L];simp
 .rename_i x xs tys O;have l1:=bG (ρ:=ρ) (fr:=fr) (g:=a.eval) (xs:=xs.toList) fun y N=>B y (uW rfl y N)
  have C:VR ρ (ev fr x) (a.eval x):=B x (by show x ∈ (#[x]++xs:Array Operand).toList;simp);have k:DS call m ((Q2 x).run fr) ((qV xs.toList).run fr)=some (v,m'):=k;rw[kT,cA]at k;have L:xs.map a.eval=⟨xs.toList.map a.eval⟩:=by apply I1;simp
  unfold DS at k;split at k
  .rename_i f vs t;unfold sC at t;split at t
   .rename_i f0 p q D;cases t;rw[D]at C;generalize E:a.eval x=gx at C;cases C with
    | pure hp=>simp[H8]at hp
    | func ha W h1 u =>
      rename_i p q U V;have lp:LR ρ p U:=⟨ha,h1⟩;have X:LR ρ q V:=⟨W,u⟩;refine G f _ _ (fun c n=>by cases n) k (lp.append (l1.append X)) ?_;simp only[execOp,resolve,E,Deferred.ofValue,pure_bind,invoke,L];simp
   .cases t
  .split at k
   .rename_i b N;have D:=wG N;rw[D]at C k;obtain⟨l,T,E⟩:=SV C;obtain⟨f,tmps,as,bd,h1,u⟩:=n.yl.ok ρ m m' w b _ _ v l k F h l1 T;refine⟨fun _ _=>trivial,?_⟩;have he:(execOp a.eval ⟨dst,.call ⟨.value x,xs,tys⟩,ty,pos,Z,Y⟩).run P w=(Instr.yield l.blk ⟨xs.toList.map a.eval⟩).run P w:=by
     simp only[execOp,resolve,E,Deferred.ofValue,pure_bind,invoke,L];simp
    rw[Oper.semAt_eq _ _ _ (fun c n=>by cases n),he,h1,Oper.uponIn_round];refine⟨eW,?_⟩;have u:RoundIn (fw z.rd) 0 P l.blk f tmps as bd w (WJ P base ρ m m' w v):=u;refine u.mono fun e w' ⟨v',ρ',he,H,M⟩=>?_
    subst he;exact I v' ρ' w' H M
   .cases k
 .have k:SN P (uQ P _) _ fr m=some (v,m'):=k;unfold SN at k;rw[uP]at k;split at k
  .rename_i r hr;cases k;exact s (fun c n=>by have n:op=.defer c:=n;subst n;cases hr) (A1Y h.hr h.bs hr h.fr B)
  .split at k
   .rename_i r hr;cases k;exact s (fun c n=>by have n:op=.defer c:=n;subst n;cases hr) (WV h.hr hr B F)
   .split at k
    .rename_i r hr;cases k;exact s (fun c n=>by have n:op=.defer c:=n;subst n;cases hr) (A12 h.hr h.bs hr h.fr B F)
    .exact s (fun c n=>by have n:op=.defer c:=n;subst n;cases k) (A04 h.hr h.bs k h.fr B F)
def s5{m m':Mem}{call:M2}{fr:Fr}{v:Value}(b:R6 P base gl call)(a:(U9 P call o).run fr m=some (v,m')):m.lg.le m'.lg:=by
 unfold U9 at a;split at a
 .exact(b.fn _).lg _ _ _ _ a
 .have a:DS call m _ _=some (v,m'):=a;unfold DS at a;split at a
  .exact(b.fn _).lg _ _ _ _ a
  .split at a
   .exact b.yl.lg _ _ _ _ a
   .cases a
 .have a:SN P (uQ P _) _ fr m=some (v,m'):=a;unfold SN at a;rw[uP]at a;split at a
  .rename_i r hr;cases a;show m.lg.le _;rw[A1Z hr];exact .refl _
  .split at a
   .rename_i r hr;cases a;exact(JC hr).1
   .split at a
    .rename_i r hr;cases a;exact A13 hr
    .exact A05 a
def OW{lg:Lg}{v:Value}{b c:Bool}(h:BV lg v b=some (c,lg')):lg.le lg':=by
 unfold BV at h;split at h
 .cases h;exact .refl _
 .split at h
  .rename_i a;cases h;exact cZ a
  .cases h
 .obtain⟨_,h⟩:=A2 h;cases h;exact .refl _
def eH{lg:Lg}{fr:Fr}{all:List Oper}{b:Bool}(h:x7 nt fr lg all o=some (b,lg')):lg.le lg':=by
 unfold x7 at h;split at h
 .cases h;exact .refl _
 .split at h
  .split at h
   .obtain⟨_,h⟩:=A2 h;exact OW h
   .cases h
  .cases h
def mL{ρ:Ren}{lg:Lg}{v v':Value}{b c:Bool}(h:BV lg v b=some (c,lg'))(a:VR ρ v v')(f:Sat lg'):(v'=.bool (c == b)∨(c=false/\v'=.tuple ⟨[]⟩)):=by
 unfold BV at h;split at h
 .rename_i d;cases h;left;rw[aR a];cases d<;>cases b<;>rfl
 .split at h
  .rename_i d l n;cases h;left
   rw[jK n a f];cases d<;>cases b<;>rfl
  .cases h
 .rename_i u _ _;obtain⟨h3,k⟩:=A2 h;cases k;right
  have hu:v=.tuple ⟨[]⟩:=by
   unfold kN at h3;split at h3
   .rfl
   .cases h3
  rw[hu]at a;obtain⟨cs',e,m⟩:=pG a;cases m.nil_inv;exact⟨rfl,e⟩
def jV{all:Array Oper}{tmps:R3}{want b:Bool}{t:Tmp}(k:o.guard=some (j,want))(hp:all.toList[j]? = some p)(m:p.dst=some t)(c:t<tmps.size)
  (l:tmps.getD t undef=.bool (b == want)∨(b=false/\tmps.getD t undef=.tuple ⟨[]⟩)):Region.wanted o (yielded all tmps)=b:=by
 have a:tmps[t]? = some (tmps.getD t undef):=by simp[B1,c]
 have f:(all[j]?).bind (·.dst)=some t:=by
  have:all[j]? = some p:=by simpa using hp
  simp[this,m]
 unfold Region.wanted;simp only[k];rcases l with e|⟨rfl,e⟩
 .have:yielded all tmps j=some (b == want):=by simp[yielded,f,a,e]
  rw[this];cases b<;>cases want<;>rfl
 .have:yielded all tmps j=none:=by simp[yielded,f,a,e]
  rw[this];rfl
def BW{ρ:Ren}{lg:Lg}{all:Array Oper}{fr:Fr}{a:Act}{b:Bool}(h:FrR z ρ nt fr a)(hw:x7 nt fr lg all.toList o=some (b,lg'))(f:Sat lg'):Region.wanted o (yielded all a.tmps)=b:=by
 unfold x7 at hw;split at hw
 .rename_i c;cases hw;simp[Region.wanted,c]
 .rename_i j want c;split at hw
  .rename_i p hp;split at hw
   .rename_i t k;obtain⟨h1,e⟩:=A2 hw;have h1:t<nt:=A1 h1;exact jV c hp k (by rw[h.size];exact h1) (mL e (h.get t h1) f)
   .cases hw
  .cases hw
def sX{β:Type}(t:Nat)(v:Value)(fr:Fr)(k:Fr->β):rB (sel (t / 64%8)) (sel (t / 8%8)) (sel (t%8)) v fr k=k (fr.set t v):=zO t v fr k
def rE(d:Option Tmp)(v:Value)(fr:Fr):Fr:=match d with|some t=>fr.set t v|none=>fr
def aV(d:Option Tmp)(v:Value)(fr:Fr)(k:Fr->Option S):(rF d).run v fr k=k (rE d v fr):=by
 cases d with
 | none=>rfl
 | some t=>exact sX t v fr k
def FrR.dst{ρ:Ren}{fr:Fr}{a:Act}{v v':Value}(h:FrR z ρ nt fr a)(b:uL nt d=true)(c:VR ρ v v'):FrR z ρ nt (rE d v fr) (a.put d v'):=by
 cases d with
 | none=>exact h
 | some t=>exact h.put (A1 b) c
def n8{c:OpC}{next:WI}{s b:S}(h:iG c (rF d) next s=some b):∃ v m',c.run s.fr s.m=some (v,m')/\s.m.hi<=m'.hi/\next.run ⟨rE d v s.fr,m'⟩=some b:=by
 unfold iG at h;obtain⟨fr,m⟩:=s;simp only at h;split at h
 .rename_i v m' hr;obtain⟨h1,a⟩:=A2 h;rw[aV]at a;exact⟨v,m',hr,A1 h1,a⟩
 .cases h
def oX{call:M2}{all:List Oper}:∀ (r:List Oper) (s a:S),(R0 P nt gl call all r).run s=some a->s.m.hi<=a.m.hi
 | [],s,a,h=>by
   have h:some s=some a:=h;cases h;exact A7 _
 | o::r,s,a,h=>by
   unfold R0 at h;cases c:uL nt o.dst && HO nt gl o.op with
   | false=>rw[c]at h;cases h
   | true =>
     rw[c]at h;simp only[D9]at h;split at h
     .obtain⟨v,m',_,h1,b⟩:=n8 h;exact B8 h1 (oX r _ _ b)
     .have h:cJ nt all o (U9 P call o) (rF o.dst) (R0 P nt gl call all r) s=some a:=h;unfold cJ at h;obtain⟨fr,⟨H,n,W,hi,lg⟩⟩:=s;simp only at h;split at h
      .obtain⟨v,m',_,h1,b⟩:=n8 h;exact B8 h1 (oX r _ _ b)
      .rename_i lg' _;rw[aV]at h;exact oX r ⟨rE o.dst undef fr,⟨H,n,W,hi,lg'⟩⟩ a h
      .cases h
def iM{call:M2}(b:R6 P base gl call){all:List Oper}:∀ (r:List Oper) (s a:S),(R0 P nt gl call all r).run s=some a->s.m.lg.le a.m.lg
 | [],s,a,h=>by
   have h:some s=some a:=h;cases h;exact .refl _
 | o::r,s,a,h=>by
   unfold R0 at h;cases e:uL nt o.dst && HO nt gl o.op with
   | false=>rw[e]at h;cases h
   | true =>
     rw[e]at h;simp only[D9]at h;split at h
     .obtain⟨v,m',h0,h1,c⟩:=n8 h;exact(s5 b h0).trans (iM b r _ _ c)
     .have h:cJ nt all o (U9 P call o) (rF o.dst) (R0 P nt gl call all r) s=some a:=h;unfold cJ at h;obtain⟨fr,⟨H,n,W,hi,lg⟩⟩:=s;simp only at h;split at h
      .rename_i lg' hw;obtain⟨v,m',h0,h1,c⟩:=n8 h;exact(eH hw).trans ((s5 b h0).trans (iM b r _ _ c))
      .rename_i lg' hw;rw[aV]at h;exact(eH hw).trans (iM b r ⟨rE o.dst undef fr,⟨H,n,W,hi,lg'⟩⟩ a h)
      .cases h
def tL{call:M2}{all:Array Oper}{Q:Exit->Act->World->Prop}(l:R6 P base gl call):∀ (r:List Oper) (ρ:Ren) (s c:S) (a:Act) (w:World),(R0 P nt gl call all.toList r).run s=some c->Sat c.m.lg->At P base gl ρ s.m c.m.hi w->FrR z ρ nt s.fr a ->
  (∀ ρ' a' w',FrR z ρ' nt c.fr a'->St P base ρ ρ' s.m c.m w w'->Q .normal a' w')->wpL P z.rd all Q r a w
 | [],ρ,s,c,a,w,h,hS,b,f,t=>by
   have h:some s=some c:=h;cases h;exact t ρ a w f (.refl b.hr)
 | o::r,ρ,s,c,a,w,h,hS,b,f,t=>by
   unfold R0 at h;cases A:uL nt o.dst && HO nt gl o.op with
   | false=>rw[A]at h;cases h
   | true =>
     rw[A]at h;simp only[D9]at h;obtain⟨u,B⟩:=B6 A;have plain:∀ (s:S),At P base gl ρ s.m c.m.hi w->FrR z ρ nt s.fr a->(∀ ρ' a' w',FrR z ρ' nt c.fr a'->St P base ρ ρ' s.m c.m w w'->Q .normal a' w') ->
       iG (U9 P call o) (rF o.dst) (R0 P nt gl call all.toList r) s=some c->Region.wanted o (yielded all a.tmps)=true->wpL P z.rd all Q (o::r) a w:=fun s b f t hr hw=>by
      obtain⟨v,m',h1,C,h3⟩:=n8 hr;have hh:=oX r _ _ h3;have e:Sat m'.lg:=N0.le hS (iM l r _ _ h3);refine mK fun K y=>?_
      rw[B2 hw];refine mT l h1 e (b.less hh) (f.ops b.gr B) fun v' ρ' w' E st=>y _ _ ?_
      refine tL l r ρ' _ c _ _ h3 hS (b.step st) ((f.mono st.ext).dst u E) fun ρ2 a2 w2 f2 st2=>t ρ2 a2 w2 f2 (St.trans b.fr st st2)
     split at h
     .rename_i D;exact plain s b f t h (by simp[Region.wanted,D])
     .have h:cJ nt all.toList o (U9 P call o) (rF o.dst) (R0 P nt gl call all.toList r) s=some c:=h;unfold cJ at h;obtain⟨fr,m⟩:=s;obtain⟨H,n,W,hi,lg⟩:=m;simp only at h;split at h
      .rename_i lg' hw;have k:St P base ρ ρ ⟨H,n,W,hi,lg⟩ ⟨H,n,W,hi,lg'⟩ w w:=St.wLg (m:=⟨H,n,W,hi,lg⟩) b.hr lg';obtain⟨v,m',h0,h1,C⟩:=n8 h;have e:Sat lg':=N0.le hS ((s5 l h0).trans (iM l r _ _ C));exact plain ⟨fr,⟨H,n,W,hi,lg'⟩⟩ (b.wLg lg') f (fun ρ2 a2 w2 f2 st2=>t ρ2 a2 w2 f2 (St.trans b.fr k st2)) h (BW f hw e)
      .rename_i lg' hw;have k:St P base ρ ρ ⟨H,n,W,hi,lg⟩ ⟨H,n,W,hi,lg'⟩ w w:=St.wLg (m:=⟨H,n,W,hi,lg⟩) b.hr lg';rw[aV]at h;have e:Sat lg':=N0.le hS (iM l r ⟨rE o.dst undef fr,⟨H,n,W,hi,lg'⟩⟩ c h);refine mK fun K y=>?_
       rw[B0 (by rw[BW f hw e];simp)];exact y _ _ (tL l r ρ ⟨rE o.dst undef fr,⟨H,n,W,hi,lg'⟩⟩ c _ _ h hS (b.wLg lg') (f.dst u (mN ρ)) fun ρ2 a2 w2 f2 st2=>t ρ2 a2 w2 f2 (St.trans b.fr k st2))
      .cases h
def Ex.out:Ex->Exit
 | .normal=>.normal
 | .exit id=>.exit id
 | .ret=>.ret
def YJ{ops:List Oper}{z:Zn}{ρ:Ren}{s:S}{a:Act}{w:World}(hm:iR P nt gl s.fr s.m.H ops=true)(hr:HR P base ρ s.m.H w)(I:GR gl ρ)(W:FrR z ρ nt s.fr a):GB P ops (a,w):=by
 obtain⟨h1,h2⟩:=B6 hm;have key:∀ o ∈ ops,∀ t x,jM o.op=some (t,x)->∃ b l cs T,ev s.fr x=.pointer (some b)/\ρ b.block=some l/\a.eval x=.pointer (some ⟨l.blk,b.off+l.sh,none⟩)/\Hp.get s.m.H b.block=some (.cells cs T false)/\b.block<=G9/\l.on=true/\wE P w t (a.eval x):=fun o F t x v=>by
  have hp:=D3.1 h1 o F;unfold RI at hp;rw[v]at hp;simp only at hp;cases hk:okX nt gl x with
  | false=>rw[hk]at hp;cases hp
  | true =>
    rw[hk]at hp;simp only[O7,D4]at hp;split at hp
    .rename_i b g sz A B R;split at hp
     .rename_i cs T az f;obtain⟨q1,hp⟩:=B6 hp;obtain⟨q2,q3⟩:=B6 hp;have q1:=A1 q1;have q2:b.off<cs.length:=A1 q2;have q3:=A1 q3;have K:=W.ev I hk;rw[A]at K;obtain⟨l,l1,_,N⟩:=L8 K;obtain⟨⟨D,C,fz,T',c1,c2,_⟩,_⟩:=hr.atl l1 f;have n:∀ k,k<cs.length->l.sh+k<C.size:=fun k hk=>by
       obtain⟨v',E,_⟩:=c2 k cs[k] (A3 hk);exact(B7.1 E).1
      refine⟨b,l,cs,T,A,l1,N,f,q3,D,l.blk,b.off+l.sh,C,T',fz,sz,g,N,c1,R,B,?_,?_⟩
      .have:=n b.off q2;by_cases h0:sz=0
       .omega
       .have:=n (b.off+sz-1) A6;omega
      .have:=n b.off q2;omega
     .cases hp
    .cases hp
 refine⟨fun o F t x v=>by obtain⟨_,_,_,_,_,_,_,_,_,_,h⟩:=key o F t x v;exact h,fun i j o p G hi M he J t x u y v L X ay A B=>?_⟩;obtain⟨b,l,cs,T,Q,k2,U,k4,k5,O,_⟩:=key o (D8 hi) t x v;obtain⟨bd,r,ds,V,n1,Z,n3,Y,n5,n6,_⟩:=key p (D8 M) u y L;have c:=CW h2 G hi M he;unfold WA at c;rw[J]at c;simp only[D9,v,L,Q,n1]at c;rw[U]at A;rw[n3]at B;cases A;cases B;show l.blk≠r.blk;intro e;obtain⟨_,hu⟩:=hr.atl k2 k4;obtain⟨_,hu⟩:=hu rfl O
 have:=hu bd.block n5 _ r Y Z (.inl ⟨rfl,n6,e.symm⟩);rw[this,bT]at c;cases c
def At.drew{ρ:Ren}{m:Mem}{hi:Nat}{w:World}(a:At P base gl ρ m hi w)(d:Nat):At P base gl ρ m hi { w with drawn:=d } :=
 ⟨⟨fun b l h=>a.hr.dom b l h,fun id hid ab c=>by
  obtain⟨l,e,f,k⟩:=a.hr.at_ id hid ab c;exact⟨l,e,BR.mono (w:=w) (fun _ _ h=>h) (fun _ _=>rfl) f,k⟩⟩,a.bs,a.fr,a.gr,a.nh,a.wb,a.gf⟩
def St.undrew{ρ ρ':Ren}{m m':Mem}{w w':World}{d:Nat}(st:St P base ρ ρ' m m' { w with drawn:=d } w'):St P base ρ ρ' m m' w w' :=
 ⟨st.ext,st.new,st.nle,st.hle,st.nhi,st.hr,st.wsub,st.wrw,st.keep,st.size,st.os,st.blk,st.same,st.tch⟩
def HJ{call:M2}{ops:Array Oper}{z:Zn}{id:Nat}(f:P.follows .mixedOrders=true)(v:R6 P base gl call){ρ:Ren}{s e:S}{a:Act}{w:World}{Q:Exit->Act->World->Prop}(hr:iH ops.toList=true)(hm:iR P nt gl s.fr s.m.H ops.toList=true)(h:(R0 P nt gl call ops.toList ops.toList).run s=some e)(u:Sat e.m.lg)(c:At P base gl ρ s.m e.m.hi w)(n:FrR z ρ nt s.fr a)
  (B:∀ ρ' a' w',FrR z ρ' nt e.fr a'->St P base ρ ρ' s.m e.m w w'->Q .normal a' w'):(Code.region id ops true).wpIn (fw z.rd) 0 P Q a w:=by
 refine cC f (XG hr (fun w' k=>?_) (fun d=>?_) _)
 .have l:=YJ hm c.hr c.gr n;refine⟨fun o E t x y=>?_,l.ap⟩;obtain⟨b,o',C,T,fz,sz,g,F,D,A⟩:=l.pl o E t x y;exact⟨b,o',C,T,fz,sz,g,F,by show w'.heap[b]? = _;rw[k];exact D,A⟩
 .exact tL v ops.toList ρ s e a { w with drawn:=d } h u (c.drew d) n fun ρ' a' w' f1 st=>⟨rfl,B ρ' a' w' f1 st.undrew⟩
def j8(P:Program)(base gl:Nat)(call:M2):Prop :=
 P.follows .mixedOrders=true/\∀ (nt:Nat) (ops:Array Oper),AY ops=true->∀ (s b:S),i9 P nt gl call ops.toList ops.toList 0 (X6 ops.toList []) [] [] s=some b->(s.m.hi<=b.m.hi/\s.m.lg.le b.m.lg) /\
  ∀ (z:Zn) (ρ:Ren) (a:Act) (w:World) (id:Nat) (Q:Exit->Act->World->Prop),Sat b.m.lg->At P base gl ρ s.m b.m.hi w->FrR z ρ nt s.fr a ->
   (∀ ρ' a' w',FrR z ρ' nt b.fr a'->St P base ρ ρ' s.m b.m w w'->Q .normal a' w')->(Code.region id ops true).wpIn (fw z.rd) 0 P Q a w
def M4:∀ (q r:List Bool) (c:Code),G5 (q++r) c=(G5 q c).bind (G5 r)
 | [],r,c=>rfl
 | false::q,r,.seq a b=>M4 q r a
 | true::q,r,.seq a b=>M4 q r b
 | false::q,r,.cond _ a b=>M4 q r a
 | true::q,r,.cond _ a b=>M4 q r b
 | false::q,r,.block _ c=>M4 q r c
 | false::q,r,.loop c=>M4 q r c
 | false::q,r,.scope c=>M4 q r c
 | true::q,r,.scope c=>rfl
 | true::q,r,.block _ c=>rfl
 | true::q,r,.loop c=>rfl
 | b::q,r,.skip=>by cases b<;>rfl
 | b::q,r,.region _ _ _=>by cases b<;>rfl
 | false::q,r,.rangeFunc _ _ a _=>M4 q r a
 | true::q,r,.rangeFunc _ _ _ b=>M4 q r b
 | b::q,r,.exit _=>by cases b<;>rfl
 | b::q,r,.label _=>by cases b<;>rfl
 | b::q,r,.goto _=>by cases b<;>rfl
 | b::q,r,.ret=>by cases b<;>rfl
 | b::q,r,.refuse _=>by cases b<;>rfl
def H7{b:Bool}{body c d:Code}(h:G5 q body=some c)(a:G5 [b] c=some d):G5 (q++[b]) body=some d:=by
 rw[M4,h];exact a
structure x4 (P:Program) (base gl nt:Nat) (c:Code) (L:S->Option (Ex×S)):Prop where
 lg:∀ (s s':S) (e:Ex),L s=some (e,s')->s.m.hi<=s'.m.hi/\s.m.lg.le s'.m.lg
 ok:∀ (s s':S) (e:Ex),L s=some (e,s')->Sat s'.m.lg->∃ N,∀ (z:Zn) (ρ:Ren) (a:Act) (w:World) (Q:Exit->Act->World->Prop),At P base gl ρ s.m s'.m.hi w->FrR z ρ nt s.fr a ->
  (∀ ρ' a' w',FrR z ρ' nt s'.fr a'->St P base ρ ρ' s.m s'.m w w'->Q e.out a' w')->Code.roundsIn (fw z.rd) 0 P c Q N a w
def orL(a b:S->Option (Ex×S))(s:S):Option (Ex×S) :=
 match a s with
 | some r=>some r
 | none=>b s
def x4.or{nt:Nat}{c:Code}{a b:S->Option (Ex×S)}(l:x4 P base gl nt c a)(f:x4 P base gl nt c b):x4 P base gl nt c (orL a b):=by
 refine⟨fun s m e h=>?_,fun s m e h k=>?_⟩
 .unfold orL at h;split at h
  .rename_i r hr;cases h;exact l.lg _ _ _ hr
  .exact f.lg _ _ _ h
 .unfold orL at h;split at h
  .rename_i r hr;cases h;exact l.ok _ _ _ hr k
  .exact f.ok _ _ _ h k
def GA(P:Program)(base gl nt:Nat)(body:Code)(lp:LpT):Prop :=
 (∃ fn,P.funcs[lp.me]? = some fn/\fn.body=some body/\fn.ntmps=nt)/\∀ q x L,G5 q body=some (.loop x)->lp.look q=some L->x4 P base gl nt x L
def kE{m m':Mem}{ab:AB}{k:Nat->Value}{v:Value}(h:Y0 m ab k=some (v,m')):v=k m.n/\m.hi<=m'.hi/\m'.lg=m.lg:=by
 obtain⟨_,a,rfl⟩:=K5 h;exact⟨a,(J7 _ _).1,rfl⟩
def jX{m m':Mem}{id:Nat}{ab:AB}(h:aK m id ab=some m'):m'.hi=m.hi/\m'.lg=m.lg:=by
 obtain⟨_,rfl⟩:=S2 h;exact⟨rfl,rfl⟩
def qL{fr:Fr}{hi b:Nat}{r:Res}{e:Ex}{a:S}(h:nC fr hi b r=some (e,a)):∃ v m f q vs st m',r=some (v,m)/\Hp.get m.H b=some (.lp f q vs st)/\nEx st=some e/\hi<=m.hi/\aK m b (.lp f q vs 3)=some m'/\a=⟨fr,m'⟩:=by
 unfold nC at h;split at h
 .rename_i v m;split at h
  .rename_i f q vs st c;split at h
   .rename_i k he;obtain⟨h1,h⟩:=A2 h;split at h
    .rename_i m' hm;cases h;exact⟨_,_,_,_,_,_,_,rfl,c,he,A1 h1,hm,rfl⟩
    .cases h
   .cases h
  .cases h
 .cases h
def tG{call:M2}{f:FuncId}{fr:Fr}{m:Mem}{e:Ex}{t:S}(h:aC P nt call f q g fr m=some (e,t)) :
  ∃ m1 k a b,Y0 m (.lp f q (frL fr 0 nt) 0) yv=some (yv m.n,m1)/\g=.func (.func k) a b/\nT P k=true/\nC fr m1.hi m.n ((call.fn k).run (a.toList++([yv m.n]++b.toList)) m1)=some (e,t):=by
 unfold aC at h;rw[H5]at h;split at h
 .rename_i v m1 l;have u:=(kE l).1;subst u;have w:cB (yv m.n)=some m.n:=rfl;split at h
  .rename_i k as b c s;rw[w]at s;cases s;obtain⟨h1,h⟩:=A2 h;unfold sC at c;split at c
   .cases c;exact⟨m1,_,_,_,l,rfl,h1,h⟩
   .cases c
  .cases h
 .cases h
def lN{call:M2}(s:R6 P base gl call){f:FuncId}{fr:Fr}{m:Mem}{e:Ex}{c:S}(h:aC P nt call f q g fr m=some (e,c)):m.hi<=c.m.hi/\m.lg.le c.m.lg:=by
 obtain⟨m1,k,a,b,h1,_,_,l⟩:=tG h;obtain⟨v,m2,f,q,vs,st,m3,y,_,_,u,t,rfl⟩:=qL l
 have:=(s.fn k).lg _ _ _ _ y;obtain⟨g1,g2⟩:=jX t;obtain⟨_,n,w⟩:=kE h1;refine⟨by show m.hi<=m3.hi;rw[g1];exact B8 n u,?_⟩;show m.lg.le m3.lg;rw[g2,<- w];exact this
def yR{call:M2}{f:FuncId}{x:XC}{s l:S}{e:Ex}(h:uX P nt call f q x s=some (e,l)):nt<=510 /\
  ((∃ k f0 q0 c,cB (s.fr.get 511)=some k/\Hp.get s.m.H k=some (.lp f0 q0 c 1)/\aC P nt call f q (x.run s.fr) s.fr s.m=some (e,l)) ∨
    (kN (s.fr.get 511)=true/\∃ m1,Y0 s.m (.dfr true) (fun b=>.pointer (some ⟨b,0,none⟩))=some (.pointer (some ⟨s.m.n,0,none⟩),m1) /\
      aC P nt call f q (x.run s.fr) (s.fr.set 510 (dv (s.m.n::eZ (s.fr.get 510)))) m1=some (e,l))):=by
 unfold uX at h;obtain⟨fr,m⟩:=s;obtain⟨h1,h⟩:=A2 h;refine⟨A1 h1,?_⟩;split at h
 .rename_i k A;split at h
  .rename_i f0 q0 c v;exact .inl ⟨k,f0,q0,c,A,v,h⟩
  .cases h
 .obtain⟨y,h⟩:=A2 h;refine .inr ⟨y,?_⟩;split at h
  .rename_i a m1 u;have w:=(kE u).1;cases w;rw[H5]at h;have:rB (sel 7) (sel 7) (sel 6) (dv (m.n::eZ (fr.get 510))) fr (fun t=>aC P nt call f q (x.run fr) t m1)=aC P nt call f q (x.run fr) (fr.set 510 (dv (m.n::eZ (fr.get 510)))) m1:=sX 510 _ _ _;rw[this]at h;exact⟨m1,u,h⟩
  .cases h
def OG{call:M2}(b:R6 P base gl call){f:FuncId}{x:XC}{s a:S}{e:Ex}(h:uX P nt call f q x s=some (e,a)):s.m.hi<=a.m.hi/\s.m.lg.le a.m.lg:=by
 obtain⟨_,⟨_,_,_,_,_,_,h⟩|⟨_,m1,l,h⟩⟩:=yR h
 .exact lN b h
 .have:=lN b h;obtain⟨_,c,k⟩:=kE l;rw[k]at this;exact⟨B8 c this.1,this.2⟩
def KT(fr:Fr):∀ (n i j:Nat),(frL fr i n)[j]? = if j<n then some (fr.get (i+j))else none
 | 0,i,j=>by simp[frL]
 | n+1,i,0=>by simp[frL]
 | n+1,i,j+1=>by
   rw[frL,P2,KT fr n (i+1) j];have:i+1+j=i+(j+1):=A6;rw[this];by_cases h:j<n
   .rw[B2 h,B2 A6]
   .rw[B0 h,B0 A6]
def AP(fr:Fr):∀ (n i:Nat),(frL fr i n).length=n
 | 0,i=>rfl
 | n+1,i=>by simp[frL,AP fr n]
def FrR.list{ρ:Ren}{fr:Fr}{a:Act}(h:FrR z ρ nt fr a):LR ρ (frL fr 0 nt) a.tmps.toList:=by
 refine⟨by rw[AP];simpa using h.size.symm,fun i v v' h1 b=>?_⟩;rw[KT]at h1;split at h1
 .rename_i hi;cases h1
  have:=h.get i hi;rw[E1];have h3:a.tmps.getD i undef=v':=by
   have:a.tmps[i]? = some v':=by simpa using b
   simp[B1,this]
  rw[h3]at this;exact this
 .cases h1
def IF{k:FuncId}(h:nT P k=true):∃ fn c,P.funcs[k]? = some fn/\fn.body=some c:=by
 unfold nT at h;split at h
 .rename_i fn b;split at h
  .rename_i c a;exact⟨fn,c,by simpa using b,a⟩
  .cases h
 .cases h
def lF{k:FuncId}{args:R3}{w w':World}{v:Value}(h:nT P k=true):(callFunc k args).run P w≠.ok (.value v) w':=by
 obtain⟨fn,c,h1,b⟩:=IF h;by_cases a:fn.name = "runtime.NumGoroutine"
 .simp[callFunc,h1,a]
 .simp[callFunc,h1,a,b]
def fN{w:World}{l:Nat}{o:Obj}(h:l<w.heap.size):(w.putObj l o).heap.size=w.heap.size/\(w.putObj l o).heap[l]? = some o/\∀ k,k≠l->(w.putObj l o).heap[k]? = w.heap[k]? := ⟨by simp[World.putObj],World.putObj_heap_same h,fun k hk=>World.putObj_heap_other hk⟩
def tF{call:M2}(X:R6 P base gl call){fn:Func}{body:Code}(f1:P.funcs[me]? = some fn)(f2:fn.body=some body)(f3:fn.ntmps=nt)(hq:G5 q body=some (.rangeFunc x ps as bd))
  {fr:Fr} {m:Mem} {e:Ex} {J:S} (h:aC P nt call me q g fr m=some (e,J)) (hS:Sat J.m.lg) {ρ:Ren} {a:Act} {w:World} {r:Loop} (y:At P base gl ρ m J.m.hi w) (W:FrR z ρ nt fr a) (Z:VR ρ g (a.eval x))
  (hr:r.state=.ready/\r.pending=none/\r.tmps=a.tmps/\r.params=ps/\r.assign=as/\r.body=bd) {Q:Exit->Act->World->Prop}
  (hQ:∀ ρ' w',FrR z ρ' nt J.fr a->St P base ρ ρ' m J.m w w'->Q e.out a w') :
  ∃ k args d,(resolve a.eval (rangeCall x w.heap.size) 0).run P (w.alloc (.loop r))=.ok d (w.alloc (.loop r))/\(invoke d.target d.args).run P (w.alloc (.loop r))=.ok (.enter k args) (w.alloc (.loop r)) /\
   CallsIn (fw z.rd) 0 P k args (w.alloc (.loop r)) (rangePost (fw z.rd) 0 P w.heap.size Q a):=by
 obtain⟨m1,k,A,B,h1,O,E,h2⟩:=tG h;obtain⟨v,m2,ff,qq,vs,st,m3,e1,Y,C,e4,e5,rfl⟩:=qL h2;obtain⟨g1,g2⟩:=jX e5;obtain⟨_,g3,g4⟩:=kE h1;have G:Sat m2.lg:=by have:Sat m3.lg:=hS;rwa[g2]at this
 have f:I8 ρ m.n m3.hi:=y.fr;have hle:m1.hi<=m3.hi:=by rw[g1];exact e4
 obtain⟨r1,r2,r3,r4,r5,r6⟩:=hr;subst r4;subst r5;subst r6;have s:(w.alloc (.loop r)).heap=w.heap.push (.loop r):=rfl;have u:ρ m.n=none:=f m.n (A7 _) (by
  obtain⟨_,_,q⟩:=K5 h1;have:m1.hi=upN m.hi m.n:=by rw[q]
  have h3:=(J7 m.hi m.n).2;omega)
 obtain⟨_,V,st1⟩:=St.alloc (w':=w.alloc (.loop r)) (o:=.loop r) (l:=lc w.heap.size 0 0) y.hr y.bs h1 (f.less hle) ⟨rfl,rfl,rfl⟩ s rfl (by
  refine⟨⟨rfl,rfl⟩,r,by simp[s],⟨fn,body,x,f1,f2,hq,by rw[AP,f3]⟩,?_,⟨r1,r2⟩⟩;rw[r3];exact W.list.mono (V1 u))
 have t:=y.step st1;obtain⟨A,rfl⟩:∃ l:D0,A=⟨l⟩:=⟨A.toList,rfl⟩;obtain⟨B,rfl⟩:∃ l:D0,B=⟨l⟩:=⟨B.toList,rfl⟩;subst O;generalize R:a.eval x=gx at Z;cases Z with
 | pure hp=>simp[H8]at hp
 | func ha I q1 q2 =>
   rename_i H K;have lA:LR ρ A H:=⟨ha,q1⟩;have lB:LR ρ B K:=⟨I,q2⟩;have hy:VR (upd ρ m.n (lc w.heap.size 0 0)) (yv m.n) (.func (.yield w.heap.size) #[] #[]):=VR.yv V;have hl:=(lA.mono st1.ext).append ((LR.cons hy .nil).append (lB.mono st1.ext));refine⟨k,⟨H++([.func (.yield w.heap.size) #[] #[]]++K)⟩,{ target:=.fn (.func k) ⟨K⟩,args:=⟨H⟩++#[.func (.yield w.heap.size) #[] #[]] },?_,?_,?_⟩
   .show(Deferred.ofValue (a.eval x) _).run P _=_;rw[R];simp[Deferred.ofValue,Act.eval]
   .have T:(callFunc k ⟨H++([.func (.yield w.heap.size) #[] #[]]++K)⟩).run P (w.alloc (.loop r))=.ok (.enter k ⟨H++([.func (.yield w.heap.size) #[] #[]]++K)⟩) (w.alloc (.loop r)):=by
     rcases(X.fn k).ok _ m1 m2 _ _ _ v e1 G (t.less (by show m2.hi<=m3.hi;rw[g1];exact A7 _)) hl with⟨c1,_⟩|⟨v',ρ',w',c1,_⟩
     .exact c1
     .exact absurd c1 (lF E)
    rw[<- T];show(callFunc k _).run P _=_;congr 2;apply I1;simp
   .rcases(X.fn k).ok _ m1 m2 _ _ _ v e1 G (t.less (by show m2.hi<=m3.hi;rw[g1];exact A7 _)) hl with⟨_,c2⟩|⟨v',ρ',w',c1,_⟩
    .refine aB.2 (c2.mono fun en w2 ⟨v',ρ2,he,hv,st2⟩=>?_);subst he;have k2:=st2.ext _ _ V;obtain⟨b1,b2⟩:=st2.hr.atl k2 Y;obtain⟨⟨b3,b4⟩,D,N,M⟩:=b1;have N:w2.heap[w.heap.size]? = some (.loop D):=N;have F:D.state≠.busy:=by
      have c:=M.st;intro I
      match st,c,C with
      | 0,c,_=>rw[I]at c;cases c.1
      | 2,c,_=>rw[I]at c;cases c.1
      | k+4,c,_=>rw[I]at c;cases c.1
     obtain⟨p1,p2,p3⟩:=fN (o:=.loop { D with state:=.exhausted }) (B7.1 N).1;have U:St P base ρ2 ρ2 m2 m3 w2 (w2.putObj w.heap.size (.loop { D with state:=.exhausted })):=St.write st2.hr e5 Y rfl k2 rfl ⟨rfl,rfl,rfl⟩ p1 p3 ⟨⟨rfl,rfl⟩,_,p2,M.code,M.fr,trivial⟩;have L:St P base ρ ρ2 m m3 w _:=St.trans f st1 (St.trans t.fr st2 U);have b:=hQ ρ2 _ (W.mono L.ext) L;refine⟨D.pending,_,run_endLoop N F,?_⟩;have c:=M.st
     match st,c,C with
     | 0,c,C=>cases C;rw[show D.pending=none from c.2]at b ⊢;exact b
     | 2,c,C=>cases C;rw[show D.pending=some .ret from c.2]at b ⊢;exact wpIn_ret b
     | k+4,c,C=>cases C;rw[show D.pending=some (.exit k)from c.2]at b ⊢;exact wpIn_exit b
    .exact absurd c1 (lF E)
def RB{call:M2}(J:R6 P base gl call){fn:Func}{body:Code}(f1:P.funcs[me]? = some fn)(f2:fn.body=some body)(f3:fn.ntmps=nt)(T:G5 q body=some (.rangeFunc x ps as bd))(hx:okX nt gl x=true)
  {s C:S} {e:Ex} {ρ:Ren} {a:Act} {w:World} {Q:Exit->Act->World->Prop} (h:uX P nt call me q (Q2 x) s=some (e,C)) (O:Sat C.m.lg) (c:At P base gl ρ s.m C.m.hi w) (D:FrR z ρ nt s.fr a)
  (U:∀ ρ' a' w',FrR z ρ' nt C.fr a'->St P base ρ ρ' s.m C.m w w'->Q e.out a' w'):(Code.rangeFunc x ps as bd).wpIn (fw z.rd) 0 P Q a w:=by
 obtain⟨H,h⟩:=yR h;refine wpIn_rangeFunc fun b _=>?_
 have R:=D.ev c.gr hx;rcases h with⟨X,f0,q0,Z,hy,hg,h⟩|⟨hu,m1,y,h⟩
 .obtain⟨l0,e1,e2⟩:=(D.rd H).2 X hy;obtain⟨⟨_,V,b1,_⟩,_⟩:=c.hr.atl e1 hg;have B:(Instr.enterLoop b a.tmps ps as bd (fw z.rd).round).run P w=.ok (w.heap.size,[]) (w.alloc (.loop { state:=.ready,pending:=none,fn:=b,tmps:=a.tmps,params:=ps,assign:=as,body:=bd,defers:=V.defers })):=by
   show(Instr.enterLoop b a.tmps ps as bd z.rd).run P w=_;rw[e2];unfold Instr.enterLoop;simp only[A4,run_getLoop b1,run_newObj_alloc,Result.andThen,Sem.run_pure]
  rw[cA]at h;obtain⟨k,args,d,c1,c2,G⟩:=tF (r:={ state:=.ready,pending:=none,fn:=b,tmps:=a.tmps,params:=ps,assign:=as,body:=bd,defers:=V.defers }) J f1 f2 f3 T h O c D R ⟨rfl,rfl,rfl,rfl,rfl,rfl⟩ (Q:=Q) fun ρ' w' g1 g2=>U ρ' a w' g1 g2
  exact⟨_,_,_,d,_,k,args,_,B,c1,fun _ _=>trivial,c2,eW,G⟩
 .have N:=(D.rd H).1 hu;have v:I8 ρ s.m.n C.m.hi:=c.fr;have K:=lN J h;obtain⟨_,g3,g4⟩:=kE y;have B:(Instr.enterLoop b a.tmps ps as bd (fw z.rd).round).run P w=.ok (w.heap.size+1,[{ target:=.collected w.heap.size,args:=#[] }]) ((w.alloc (.deferred (some []))).alloc (.loop { state:=.ready,pending:=none,fn:=b,tmps:=a.tmps,params:=ps,assign:=as,body:=bd,defers:=w.heap.size })):=by
   show(Instr.enterLoop b a.tmps ps as bd z.rd).run P w=_;rw[N];exact run_enterLoop_outer b a.tmps ps as bd
  have f:(w.alloc (.deferred (some []))).heap=w.heap.push (.deferred (some [])):=rfl;obtain⟨_,Y,st1⟩:=St.alloc (w':=w.alloc (.deferred (some []))) (o:=.deferred (some [])) (l:=lc w.heap.size 0 0) c.hr c.bs y (v.less K.1) ⟨rfl,rfl,rfl⟩ f rfl ⟨⟨rfl,rfl⟩,_,by simp[f],fun _=>rfl⟩;have F:=c.step st1;have L:(w.alloc (.deferred (some []))).heap.size=w.heap.size+1:=by simp[f]
  let a2:Act:={ a with defers:={ target:=.collected w.heap.size,args:=#[] }::a.defers }
  have M:FrR z (upd ρ s.m.n (lc w.heap.size 0 0)) nt (s.fr.set 510 (dv (s.m.n::eZ (s.fr.get 510)))) a2:=by
   have u:=D.mono st1.ext;have A:∀ t,t<512->t≠510->(s.fr.set 510 (dv (s.m.n::eZ (s.fr.get 510)))).get t=s.fr.get t:=fun t h1 E=>by rw[K8 _ _ _ _ K3 h1,B0 E]
   refine⟨u.size,u.le,?_,fun _=>by rw[A 511 K3 K3];exact u.rd H,fun t W=>by rw[A t A6 A6];exact u.get t W⟩;obtain⟨ds,d1,d2⟩:=u.df;refine⟨{ target:=.collected w.heap.size,args:=#[] }::ds,by show _::a.defers=_;rw[d1];rfl,?_⟩;unfold dvG at d2 ⊢;have hb:Nat.ble nt 510=true:=C6 H;rw[hb]at d2 ⊢;rw[K8 _ _ _ _ K3 K3,B2 rfl];have hd:eZ (dv (s.m.n::eZ (s.fr.get 510)))=s.m.n::eZ (s.fr.get 510):=by
    simp[eZ,dv,A0G,Function.comp_def]
   simp only[D9,hd]at d2 ⊢;refine⟨by simp[d2.1],fun i id d h1 E=>?_⟩;cases i with
   | zero =>
     simp only[P1,C7]at h1 E;subst h1;subst E;exact⟨_,Y,rfl⟩
   | succ i=>exact d2.2 i id d (by simpa using h1) (by simpa using E)
  have I:VR (upd ρ s.m.n (lc w.heap.size 0 0)) ((Q2 x).run s.fr) (a2.eval x):=by
   rw[cA];exact R.mono st1.ext
  obtain⟨k,args,d,c1,c2,G⟩:=tF (r:={ state:=.ready,pending:=none,fn:=b,tmps:=a.tmps,params:=ps,assign:=as,body:=bd,defers:=w.heap.size }) J f1 f2 f3 T h O F M I ⟨rfl,rfl,rfl,rfl,rfl,rfl⟩ (Q:=Q) fun ρ' w' g1 g2=>U ρ' a2 w' g1 (St.trans v st1 g2)
  rw[L]at c1 G;exact⟨_,_,_,d,_,k,args,_,B,c1,fun _ _=>trivial,c2,eW,G⟩
def tN{call:M2}{lp:LpT}{q:List Bool}{x:Code}(f:∀ (s c:S) (e:Ex),(L4 P nt gl call lp q x).run s=some (e,c)->s.m.hi<=c.m.hi/\s.m.lg.le c.m.lg):∀ (n:Nat) (s c:S) (e:Ex),xL (L4 P nt gl call lp q x) n s=some (e,c)->s.m.hi<=c.m.hi/\s.m.lg.le c.m.lg
 | 0,s,c,e,h=>by cases h
 | n+1,s,c,e,h=>by
   unfold xL at h;split at h
   .rename_i s1 h1;have a:=f _ _ _ h1;have b:=tN f n _ _ _ h;exact⟨B8 a.1 b.1,a.2.trans b.2⟩
   .exact f _ _ _ h
def tO{call:M2}{lp:LpT}{q:List Bool}{x:Code}{L:S->Option (Ex×S)}(f:∀ (s c:S) (e:Ex),(L4 P nt gl call lp q x).run s=some (e,c)->s.m.hi<=c.m.hi/\s.m.lg.le c.m.lg)
  (k:∀ (s c:S) (e:Ex),L s=some (e,c)->s.m.hi<=c.m.hi/\s.m.lg.le c.m.lg):∀ (n:Nat) (s c:S) (e:Ex),xM (L4 P nt gl call lp q x) L n s=some (e,c)->s.m.hi<=c.m.hi/\s.m.lg.le c.m.lg
 | 0,s,c,e,h=>by cases h
 | n+1,s,c,e,h=>by
   unfold xM at h;split at h
   .rename_i r hr;cases h;exact k _ _ _ hr
   .split at h
    .rename_i s1 h1;have a:=f _ _ _ h1;have b:=tO f k n _ _ _ h;exact⟨B8 a.1 b.1,a.2.trans b.2⟩
    .exact f _ _ _ h
def FP{c:XC}{a b:dV}{s l:S}{e:Ex}(h:FQ c a b s=some (e,l)):∃ t lg,brL s.m.lg (c.run s.fr)=some (t,lg)/\(bif t then a.run ⟨s.fr,s.m.wLg lg⟩else b.run ⟨s.fr,s.m.wLg lg⟩)=some (e,l):=by
 obtain⟨fr,⟨H,n,W,hi,lg⟩⟩:=s;unfold FQ at h;split at h
 .rename_i k;exact⟨true,lg,by rw[k];rfl,h⟩
 .rename_i k;exact⟨false,lg,by rw[k];rfl,h⟩
 .simp only at h;split at h
  .rename_i lg' f;exact⟨true,lg',f,h⟩
  .rename_i lg' f;exact⟨false,lg',f,h⟩
  .cases h
def Q0{call:M2}{lp:LpT}{body:Code}(u:R6 P base gl call)(v:j8 P base gl call)(l:GA P base gl nt body lp):∀ (c:Code) (q:List Bool),G5 q body=some c->∀ (s k:S) (e:Ex),(L4 P nt gl call lp q c).run s=some (e,k)->s.m.hi<=k.m.hi/\s.m.lg.le k.m.lg
 | .skip,q,f,s,k,e,h=>by have h:some (Ex.normal,s)=some (e,k):=h;cases h;exact⟨A7 _,.refl _⟩
 | .label _,q,f,s,k,e,h=>by have h:some (Ex.normal,s)=some (e,k):=h;cases h;exact⟨A7 _,.refl _⟩
 | .exit id,q,f,s,k,e,h=>by have h:some (Ex.exit id,s)=some (e,k):=h;cases h;exact⟨A7 _,.refl _⟩
 | .ret,q,f,s,k,e,h=>by have h:some (Ex.ret,s)=some (e,k):=h;cases h;exact⟨A7 _,.refl _⟩
 | .region id ops d,q,f,s,k,e,h=>by
   cases d with
   | false =>
     have h:X1 (R0 P nt gl call ops.toList ops.toList) s=some (e,k):=h;unfold X1 at h;split at h
     .rename_i s1 h1;cases h;exact⟨oX _ _ _ h1,iM u _ _ _ h1⟩
     .cases h
   | true =>
     unfold L4 at h;simp only at h;cases f:AY ops with
     | false=>rw[f]at h;cases h
     | true =>
       rw[f]at h;have go:X1 ⟨i9 P nt gl call ops.toList ops.toList 0 (X6 ops.toList []) [] []⟩ s=some (e,k)->s.m.hi<=k.m.hi/\s.m.lg.le k.m.lg:=fun h=>by
        unfold X1 at h;split at h
        .rename_i s1 h1;cases h;exact(v.2 nt ops f _ _ h1).1
        .cases h
       simp only[D9]at h;cases hr:iH ops.toList with
       | false=>rw[hr]at h;exact go h
       | true =>
         rw[hr]at h;simp only[D9]at h;cases hm:iR P nt gl s.fr s.m.H ops.toList with
         | false=>rw[hm]at h;exact go h
         | true =>
           rw[hm]at h;simp only[D9]at h;unfold X1 at h;split at h
           .rename_i s1 h1;cases h;exact⟨oX _ _ _ h1,iM u _ _ _ h1⟩
           .cases h
 | .seq x y,q,f,s,k,e,h=>by
   have w:=Q0 u v l x (q++[false]) (H7 f rfl);have A:=Q0 u v l y (q++[true]) (H7 f rfl);have h:VO (L4 P nt gl call lp (q++[false]) x) (L4 P nt gl call lp (q++[true]) y) s=some (e,k):=h;unfold VO at h;split at h
   .rename_i s1 h1;have a:=w _ _ _ h1;have b:=A _ _ _ h;exact⟨B8 a.1 b.1,a.2.trans b.2⟩
   .exact w _ _ _ h
 | .cond c x y,q,f,s,k,e,h=>by
   have w:=Q0 u v l x (q++[false]) (H7 f rfl);have A:=Q0 u v l y (q++[true]) (H7 f rfl);unfold L4 at h;cases f:okX nt gl c with
   | false=>rw[f]at h;cases h
   | true =>
     rw[f]at h;have h:FQ (Q2 c) (L4 P nt gl call lp (q++[false]) x) (L4 P nt gl call lp (q++[true]) y) s=some (e,k):=h;obtain⟨t,lg,h1,B⟩:=FP h;have D:=cZ h1;obtain⟨fr,⟨H,n,W,hi,l0⟩⟩:=s;cases t with
     | true=>have a:=w _ _ _ B;exact⟨a.1,D.trans a.2⟩
     | false=>have b:=A _ _ _ B;exact⟨b.1,D.trans b.2⟩
 | .block id x,q,f,s,k,e,h=>by
   have w:=Q0 u v l x (q++[false]) (H7 f rfl);have h:uY id (L4 P nt gl call lp (q++[false]) x) s=some (e,k):=h;unfold uY at h;split at h
   .rename_i j s1 h1
    have:=w _ _ _ h1;cases f:Nat.beq j id<;>rw[f]at h<;>cases h<;>exact this
   .exact w _ _ _ h
 | .loop x,q,f,s,k,e,h=>by
   have h:FO (L4 P nt gl call lp (q++[false]) x) (lp.look q) s=some (e,k):=h;unfold FO at h;split at h
   .rename_i L E;exact tO (Q0 u v l x (q++[false]) (H7 f rfl)) (l.2 q x L f E).lg _ _ _ _ h
   .exact tN (Q0 u v l x (q++[false]) (H7 f rfl)) _ _ _ _ h
 | .rangeFunc x _ _ _,q,f,s,k,e,h=>by
   unfold L4 at h;cases C:okX nt gl x with
   | false=>rw[C]at h;cases h
   | true=>rw[C]at h;exact OG u h
 | .scope x,q,f,s,k,e,h=>Q0 u v l x (q++[false]) (H7 f rfl) s k e h
 | .goto _,q,f,s,k,e,h=>by cases h
 | .refuse _,q,f,s,k,e,h=>by cases h
def O6{call:M2}{lp:LpT}{body:Code}(C:R6 P base gl call)(D:j8 P base gl call)(k:GA P base gl nt body lp):∀ (c:Code) (q:List Bool),G5 q body=some c->∀ (ρ:Ren) (s f:S) (e:Ex) (a:Act) (w:World) (Q:Exit->Act->World->Prop),(L4 P nt gl call lp q c).run s=some (e,f)->Sat f.m.lg->At P base gl ρ s.m f.m.hi w->FrR z ρ nt s.fr a ->
  (∀ ρ' a' w',FrR z ρ' nt f.fr a'->St P base ρ ρ' s.m f.m w w'->Q e.out a' w')->c.wpIn (fw z.rd) 0 P Q a w
 | .skip,q,B,ρ,s,f,e,a,w,Q,h,hS,b,u,v=>by have h:some (Ex.normal,s)=some (e,f):=h;cases h;exact wpIn_skip (v ρ a w u (.refl b.hr))
 | .label _,q,B,ρ,s,f,e,a,w,Q,h,hS,b,u,v=>by have h:some (Ex.normal,s)=some (e,f):=h;cases h;exact wpIn_label (v ρ a w u (.refl b.hr))
 | .exit id,q,B,ρ,s,f,e,a,w,Q,h,hS,b,u,v=>by have h:some (Ex.exit id,s)=some (e,f):=h;cases h;exact wpIn_exit (v ρ a w u (.refl b.hr))
 | .ret,q,B,ρ,s,f,e,a,w,Q,h,hS,b,u,v=>by have h:some (Ex.ret,s)=some (e,f):=h;cases h;exact wpIn_ret (v ρ a w u (.refl b.hr))
 | .region id ops d,q,B,ρ,s,f,e,a,w,Q,h,hS,b,u,v=>by
   cases d with
   | false =>
     have h:X1 (R0 P nt gl call ops.toList ops.toList) s=some (e,f):=h;unfold X1 at h;split at h
     .rename_i s1 h1;cases h;exact R7 (tL C _ ρ s f a w h1 hS b u v)
     .cases h
   | true =>
     unfold L4 at h;simp only at h;cases B:AY ops with
     | false=>rw[B]at h;cases h
     | true =>
       rw[B]at h;have go:X1 ⟨i9 P nt gl call ops.toList ops.toList 0 (X6 ops.toList []) [] []⟩ s=some (e,f)->(Code.region id ops true).wpIn (fw z.rd) 0 P Q a w:=fun h=>by
        unfold X1 at h;split at h
        .rename_i s1 h1;cases h;exact(D.2 nt ops B _ _ h1).2 z ρ a w id Q hS b u v
        .cases h
       simp only[D9]at h;cases hr:iH ops.toList with
       | false=>rw[hr]at h;exact go h
       | true =>
         rw[hr]at h;simp only[D9]at h;cases hm:iR P nt gl s.fr s.m.H ops.toList with
         | false=>rw[hm]at h;exact go h
         | true =>
           rw[hm]at h;simp only[D9]at h;unfold X1 at h;split at h
           .rename_i s1 h1;cases h;exact HJ D.1 C hr hm h1 hS b u v
           .cases h
 | .seq x y,q,B,ρ,s,f,e,a,w,Q,h,hS,b,u,v=>by
   have A:G5 (q++[false]) body=some x:=H7 B rfl;have G:G5 (q++[true]) body=some y:=H7 B rfl;have h:VO (L4 P nt gl call lp (q++[false]) x) (L4 P nt gl call lp (q++[true]) y) s=some (e,f):=h;unfold VO at h;split at h
   .rename_i s1 h1;have hh:=Q0 C D k y _ G _ _ _ h;refine wpIn_seq (O6 C D k x _ A ρ s s1 .normal a w _ h1 (N0.le hS hh.2) (b.less hh.1) u fun l E w1 f1 st1=>?_);exact O6 C D k y _ G l s1 f e E w1 Q h hS (b.step st1) f1 fun ρ2 a2 w2 f2 st2=>v ρ2 a2 w2 f2 (St.trans b.fr st1 st2)
   .rename_i F;refine wpIn_seq (O6 C D k x _ A ρ s f e a w _ h hS b u fun l E w1 f1 st1=>?_)
    have:=v l E w1 f1 st1;cases e with
    | normal=>exact absurd h (F f)
    | exit id=>exact this
    | ret=>exact this
 | .cond c x y,q,B,ρ,s,f,e,a,w,Q,h,hS,b,u,v=>by
   have A:G5 (q++[false]) body=some x:=H7 B rfl;have G:G5 (q++[true]) body=some y:=H7 B rfl;unfold L4 at h;cases J:okX nt gl c with
   | false=>rw[J]at h;cases h
   | true =>
     rw[J]at h;have h:FQ (Q2 c) (L4 P nt gl call lp (q++[false]) x) (L4 P nt gl call lp (q++[true]) y) s=some (e,f):=h;have Y:=u.ev b.gr J;obtain⟨t,lg,h1,R⟩:=FP h;rw[cA]at h1;have K:St P base ρ ρ s.m (s.m.wLg lg) w w:=St.wLg b.hr lg;cases t with
     | true =>
       have hh:=Q0 C D k x _ A _ _ _ R;have U:Sat lg:=N0.le hS (by obtain⟨fr,⟨H,n,W,hi,l0⟩⟩:=s;exact hh.2);exact wpIn_cond_true (jK h1 Y U) (O6 C D k x _ A ρ ⟨s.fr,s.m.wLg lg⟩ f e a w Q R hS (b.wLg lg) u fun ρ2 a2 w2 f2 st2=>v ρ2 a2 w2 f2 (St.trans b.fr K st2))
     | false =>
       have hh:=Q0 C D k y _ G _ _ _ R;have U:Sat lg:=N0.le hS (by obtain⟨fr,⟨H,n,W,hi,l0⟩⟩:=s;exact hh.2);exact wpIn_cond_false (jK h1 Y U) (O6 C D k y _ G ρ ⟨s.fr,s.m.wLg lg⟩ f e a w Q R hS (b.wLg lg) u fun ρ2 a2 w2 f2 st2=>v ρ2 a2 w2 f2 (St.trans b.fr K st2))
 | .block id x,q,B,ρ,s,f,e,a,w,Q,h,hS,b,u,v=>by
   have A:G5 (q++[false]) body=some x:=H7 B rfl;have h:uY id (L4 P nt gl call lp (q++[false]) x) s=some (e,f):=h;unfold uY at h;split at h
   .rename_i j s1 h1;cases I:Nat.beq j id with
    | true =>
      rw[I]at h;cases h;have X:=A0 I;refine wpIn_block (O6 C D k x _ A ρ s f (.exit j) a w _ h1 hS b u fun l E w1 f1 st1=>?_)
      have:=v l E w1 f1 st1
      simpa [Exit.inBlock,Ex.out,X]using this
    | false =>
      rw[I]at h;cases h;have X:j≠id:=fun e=>by subst e;simp at I
      refine wpIn_block (O6 C D k x _ A ρ s f (.exit j) a w _ h1 hS b u fun l E w1 f1 st1=>?_)
      have:=v l E w1 f1 st1
      simpa [Exit.inBlock,Ex.out,X]using this
   .rename_i F;refine wpIn_block (O6 C D k x _ A ρ s f e a w _ h hS b u fun l E w1 f1 st1=>?_)
    have:=v l E w1 f1 st1;cases e with
    | normal=>exact this
    | exit j=>exact absurd h (F j f)
    | ret=>exact this
 | .loop x,q,B,ρ,s,f,e,a,w,Q,h,hS,b,u,v=>by
   have A:G5 (q++[false]) body=some x:=H7 B rfl;replace h:FO (L4 P nt gl call lp (q++[false]) x) (lp.look q) s=some (e,f):=h;unfold FO at h;split at h
   .rename_i L Z;have M:=k.2 q x L B Z;have key:∀ (n:Nat) (s:S),xM (L4 P nt gl call lp (q++[false]) x) L n s=some (e,f)->∃ N,∀ (ρ:Ren) (a:Act) (w:World) (Q:Exit->Act->World->Prop),At P base gl ρ s.m f.m.hi w->FrR z ρ nt s.fr a ->
      (∀ ρ' a' w',FrR z ρ' nt f.fr a'->St P base ρ ρ' s.m f.m w w'->Q e.out a' w')->Code.roundsIn (fw z.rd) 0 P x Q N a w:=by
     intro n;induction n with
     | zero=>intro s h;cases h
     | succ n T =>
       intro s h;unfold xM at h;split at h
       .rename_i r hr;cases h;obtain⟨N,O⟩:=M.ok s f e hr hS;exact⟨N,O z⟩
       .split at h
        .rename_i s1 h1;obtain⟨N,O⟩:=T s1 h;have hh:=tO (Q0 C D k x _ A) M.lg _ _ _ _ h;refine⟨N+1,fun ρ a w Q b u v=>?_⟩;show x.wpIn (fw z.rd) 0 P (Exit.then (Code.roundsIn (fw z.rd) 0 P x Q N) Q) a w;refine O6 C D k x _ A ρ s s1 .normal a w _ h1 (N0.le hS hh.2) (b.less hh.1) u fun l E w1 f1 st1=>?_
         exact O l E w1 Q (b.step st1) f1 fun ρ2 a2 w2 f2 st2=>v ρ2 a2 w2 f2 (St.trans b.fr st1 st2)
        .rename_i F;refine⟨1,fun ρ a w Q b u v=>?_⟩;show x.wpIn (fw z.rd) 0 P (Exit.then (Code.roundsIn (fw z.rd) 0 P x Q 0) Q) a w;refine O6 C D k x _ A ρ s f e a w _ h hS b u fun l E w1 f1 st1=>?_
         have:=v l E w1 f1 st1;cases e with
         | normal=>exact absurd h (F f)
         | exit id=>exact this
         | ret=>exact this
    obtain⟨N,O⟩:=key _ s h;exact wpIn_loop_rounds N (O ρ a w Q b u v)
   obtain⟨n,h0⟩:∃ n,xL (L4 P nt gl call lp (q++[false]) x) n s=some (e,f):=⟨_,h⟩;clear h;have h:=h0;clear h0;refine wpIn_loop_rounds n ?_;induction n generalizing s ρ a w with
   | zero=>cases h
   | succ n T =>
     unfold xL at h;show x.wpIn (fw z.rd) 0 P (Exit.then (Code.roundsIn (fw z.rd) 0 P x Q n) Q) a w;split at h
     .rename_i s1 h1;have hh:=tN (Q0 C D k x _ A) _ _ _ _ h;refine O6 C D k x _ A ρ s s1 .normal a w _ h1 (N0.le hS hh.2) (b.less hh.1) u fun l E w1 f1 st1=>?_
      exact T l s1 E w1 (b.step st1) f1 (fun ρ2 a2 w2 f2 st2=>v ρ2 a2 w2 f2 (St.trans b.fr st1 st2)) h
     .rename_i F;refine O6 C D k x _ A ρ s f e a w _ h hS b u fun l E w1 f1 st1=>?_
      have:=v l E w1 f1 st1;cases e with
      | normal=>exact absurd h (F f)
      | exit id=>exact this
      | ret=>exact this
 | .rangeFunc x ps as bd,q,B,ρ,s,f,e,a,w,Q,h,hS,b,u,v=>by
   unfold L4 at h;cases V:okX nt gl x with
   | false=>rw[V]at h;cases h
   | true =>
     rw[V]at h;obtain⟨fn,f1,f2,f3⟩:=k.1;exact RB C f1 f2 f3 B V h hS b u v
 | .scope x,q,B,ρ,s,f,e,a,w,Q,h,hS,b,u,v=>GF (O6 C D k x _ (H7 B rfl) ρ s f e a w _ h hS b u fun l E w1 f1 st1=>by cases e<;>exact v l E w1 f1 st1)
 | .goto _,q,B,ρ,s,f,e,a,w,Q,h,hS,b,u,v=>by cases h
 | .refuse _,q,B,ρ,s,f,e,a,w,Q,h,hS,b,u,v=>by cases h
end
end
section
open Go
variable [Ora]
def pE{c:Hp AB}:∀ (l:List Nat) (H:Hp AB),(∀ b ∈ l,b<=G9)->∀ id,id<=G9->Hp.get (cR c H l) id=if id ∈ l then Hp.get c id else Hp.get H id
 | [],H,_,id,_=>by simp[cR]
 | b::r,H,hl,id,hid=>by
   have e:=hl b B5;rw[cR,cK,pE r _ (fun x f=>hl x (C5 _ f)) id hid,E9 _ _ _ _ e hid];by_cases h1:id ∈ r
   .rw[B2 h1,B2 (C5 _ h1)]
   .rw[B0 h1];by_cases a:id=b
    .subst a;rw[B2 rfl,B2 B5]
    .rw[B0 a,B0 (by simp[h1,a])]
theorem U3{l:G6}{b:Nat}:r7 l b=true↔b ∈ l:=by
 unfold r7;rw[L1];constructor
 .rintro⟨x,a,h⟩;rw[A0 h];exact a
 .intro h;exact⟨b,h,by simp⟩
def pA:∀ (l acc:List Nat) (b:Nat),b ∈ lE l acc↔b ∈ l∨b ∈ acc
 | [],acc,b=>by simp[lE]
 | x::r,acc,b=>by
   unfold lE;cases h:r7 acc x with
   | true =>
     have a:=U3.1 h;simp only[D9];rw[pA r acc b];constructor
     .rintro(h|h)
      .exact .inl (C5 _ h)
      .exact .inr h
     .rintro(h|h)
      .rcases A8.1 h with rfl|h
       .exact .inr a
       .exact .inl h
      .exact .inr h
   | false =>
     simp only[D4];rw[pA r (x::acc) b];simp only[A8];constructor
     .rintro(h|h|h)
      .exact .inl (.inr h)
      .exact .inl (.inl h)
      .exact .inr h
     .rintro((h|h)|h)
      .exact .inr (.inl h)
      .exact .inl h
      .exact .inr (.inr h)
def pV{l:G6}(h:BK l=true):∀ b ∈ l,b<=G9:=fun b a=>A1 (D3.1 h b a)
section
variable {P:Program} {base gl nt:Nat}
def AH{ρ u:Ren}{n:Nat}(f:∀ b l,b<n->u b=some l->ρ b=some l){v v':Value}(h:VR u v v'):∀ (d:Nat),Z6 n d v=true->VR ρ v v':=by
 have A:∀ (low:Value->Bool) (a:List Value),kX low a=true->∀ (i:Nat) (v:Value),a[i]? = some v->low v=true:=fun low a=>by
  induction a with
  | nil=>intro _ i v h;simp at h
  | cons x r t =>
    intro h i v hi;obtain⟨h1,m⟩:=B6 (show(low x && kX low r)=true from h);cases i with
    | zero=>simp at hi;subst hi;exact h1
    | succ i=>exact t m i v (by simpa using hi)
 induction h with
 | pure h=>intro d _;exact .pure h
 | hole h G=>intro d _;exact .hole h G
 | junk h=>intro d _;exact .junk h
 | ixp h B hi L H =>
   intro d e;cases d with
   | zero=>cases e
   | succ d =>
     obtain⟨g1,_⟩:=B6 e;obtain⟨g1,_⟩:=B6 (show(Z6 n d _ && _)=true from g1);cases d with
     | zero=>cases g1
     | succ d=>exact .ixp (f _ _ (A1 g1) h) B hi L H
 | dat h h1 m h3 C =>
   intro d e;cases d with
   | zero=>cases e
   | succ d =>
     obtain⟨g1,_⟩:=B6 e;obtain⟨g1,_⟩:=B6 (show(Z6 n d _ && _)=true from g1);cases d with
     | zero=>cases g1
     | succ d=>exact .dat (f _ _ (A1 g1) h) h1 m h3 C
 | clp h h1 m h3 C F =>
   intro d e;cases d with
   | zero=>cases e
   | succ d =>
     obtain⟨g1,_⟩:=B6 e;obtain⟨g1,_⟩:=B6 (show(Z6 n d _ && _)=true from g1);cases d with
     | zero=>cases g1
     | succ d=>exact .clp (f _ _ (A1 g1) h) h1 m h3 C F
 | own h h1 m =>
   intro d e;cases d with
   | zero=>cases e
   | succ d =>
     obtain⟨g1,_⟩:=B6 e;obtain⟨g1,_⟩:=B6 (show(Z6 n d _ && _)=true from g1);cases d with
     | zero=>cases g1
     | succ d=>exact .own (h.imp (fun⟨l,w,a,b⟩=>⟨l,w,f _ _ (A1 g1) a,b⟩) fun⟨l,w,rows,a,b⟩=>⟨l,w,rows,f _ _ (A1 g1) a,b⟩) h1 m
 | dpt h h1 m =>
   intro d e;cases d with
   | zero=>cases e
   | succ d =>
     obtain⟨g1,_⟩:=B6 e;obtain⟨g1,_⟩:=B6 (show(Z6 n d _ && _)=true from g1);cases d with
     | zero=>cases g1
     | succ d=>exact .dpt (let ⟨l,w,rows,a,s,c,k,h0,r⟩:=h;⟨l,w,rows,a,s,c,k,f _ _ (A1 g1) h0,r⟩) h1 m
 | opt h h1 m =>
   intro d e;cases d with
   | zero=>cases e
   | succ d =>
     obtain⟨g1,_⟩:=B6 e;obtain⟨g1,_⟩:=B6 (show(Z6 n d _ && _)=true from g1);cases d with
     | zero=>cases g1
     | succ d=>exact .opt (let ⟨l,w,rows,k,h0,r⟩:=h;⟨l,w,rows,k,f _ _ (A1 g1) h0,r⟩) h1 m
 | ptr h=>intro d e;cases d with|zero=>cases e|succ d=>exact .ptr (f _ _ (A1 e) h)
 | sl h hm=>intro d e;cases d with|zero=>cases e|succ d=>exact .sl (f _ _ (A1 e) h) hm
 | op h hm I J=>intro d e;cases d with|zero=>cases e|succ d=>exact .op (f _ _ (A1 e) h) hm I J
 | opE B=>intro d _;exact .opE B
 | map h=>intro d e;cases d with|zero=>cases e|succ d=>exact .map (f _ _ (A1 e) h)
 | sdt h =>
   intro d e;cases d with
   | zero=>cases e
   | succ d =>
     obtain⟨g1,_⟩:=B6 e;obtain⟨g1,_⟩:=B6 (show(Z6 n d _ && _)=true from g1);cases d with
     | zero=>cases g1
     | succ d=>exact .sdt (let ⟨l,a,b⟩:=h;⟨l,f _ _ (A1 g1) a,b⟩)
 | yv h =>
   intro d e;cases d with
   | zero=>cases e
   | succ d =>
     obtain⟨g1,_⟩:=B6 e;obtain⟨g1,_⟩:=B6 (show(Z6 n d _ && _)=true from g1);cases d with
     | zero=>cases g1
     | succ d=>exact .yv (f _ _ (A1 g1) h)
 | func y K h1 m D E =>
   intro d e;cases d with
   | zero=>cases e
   | succ d =>
     obtain⟨g1,g2⟩:=B6 e;exact .func y K (fun i v v' a b=>D i v v' a b d (A _ _ g1 i v a)) (fun i v v' a b=>E i v v' a b d (A _ _ g2 i v a))
 | iface h t=>intro d e;cases d with|zero=>cases e|succ d=>exact .iface (t d e)
 | agg y h t=>intro d e;cases d with|zero=>cases e|succ d=>exact .agg y (fun i v v' a b=>t i v v' a b d (A _ _ e i v a))
 | tuple y h t=>intro d e;cases d with|zero=>cases e|succ d=>exact .tuple y (fun i v v' a b=>t i v v' a b d (A _ _ e i v a))
def A1f{ρ y:Ren}{n:Nat}(A:∀ b l,b<n->y b=some l->ρ b=some l){ab:AB}{l:Loc}{w:World}(h:BR P y ab l w)(a:XZ n (some ab)=true):BR P ρ ab l w:=by
 cases ab with
 | cells cs T ro =>
   obtain⟨h0,C,fz,F,h1,k,h3⟩:=h;refine⟨h0,C,fz,F,h1,fun i v hi=>?_,h3⟩;obtain⟨v',g1,g2⟩:=k i v hi;have u:Z6 n 10 v=true:=by
    have e:kX (Z6 n 10) cs=true:=a;clear k g1 g2 a;induction cs generalizing i with
    | nil=>simp at hi
    | cons x r m =>
      obtain⟨q1,q2⟩:=B6 (show(Z6 n 10 x && kX (Z6 n 10) r)=true from e);cases i with
      | zero=>simp at hi;subst hi;exact q1
      | succ i=>exact m i (by simpa using hi) q2
   exact⟨v',g1,AH A g2 10 u⟩
 | mp c t T=>exact h
 | iter vs =>
   obtain⟨h0,h⟩:=h;rcases h with⟨s,G,h1,k⟩|h
   rotate_left
   .exact⟨h0,.inr h⟩
   refine⟨h0,.inl ⟨s,G,h1,k.1,fun i v v' g1 g2=>?_⟩⟩;have u:Z6 n 10 v=true:=by
    have e:kX (Z6 n 10) vs=true:=a;clear k g2 a;induction vs generalizing i with
    | nil=>simp at g1
    | cons x r m =>
      obtain⟨q1,q2⟩:=B6 (show(Z6 n 10 x && kX (Z6 n 10) r)=true from e);cases i with
      | zero=>simp at g1;subst g1;exact q1
      | succ i=>exact m i (by simpa using g1) q2
   exact AH A (k.2 i v v' g1 g2) 10 u
 | lp f q vs st =>
   obtain⟨h0,r,h1,k⟩:=h;refine⟨h0,r,h1,k.code,⟨k.fr.1,fun i v v' g1 g2=>?_⟩,k.st⟩;have u:Z6 n 10 v=true:=by
    have e:kX (Z6 n 10) vs=true:=a;clear k g2 a;induction vs generalizing i with
    | nil=>simp at g1
    | cons x r m =>
      obtain⟨q1,q2⟩:=B6 (show(Z6 n 10 x && kX (Z6 n 10) r)=true from e);cases i with
      | zero=>simp at g1;subst g1;exact q1
      | succ i=>exact m i (by simpa using g1) q2
   exact AH A (k.fr.2 i v v' g1 g2) 10 u
 | dfr b=>exact h
 | sq c t T g ro =>
   obtain⟨wd,inf,h1,k,h3,E⟩:=SqR.ex h;refine⟨⟨wd,inf,h1,k,h3,E.imp (fun x=>x) fun⟨B,D⟩=>⟨B,?_⟩⟩⟩;obtain⟨C,fz,F,rows,lg,h1,k,h3,E,D,I,K,H,J⟩:=D;exact⟨C,fz,F,rows,lg,h1,k,h3,E,D,I,A _ _ (A1 a) K,H,J⟩
 | frz=>exact h
def DZ{n:Nat}{H:Hp AB}:∀ {l:G6},HV n H l=true->∀ b ∈ l,XZ n (Hp.get H b)=true
 | [],_,b,h=>by cases h
 | x::r,h,b,a=>by
   obtain⟨h1,c⟩:=B6 (show(XZ n (Hp.get H x) && HV n H r)=true from h);rcases A8.1 a with rfl|a
   .exact h1
   .exact DZ c b a
def A29{ρ D:Ren}{m m1 m':Mem}{w w1:World}{v v':Value}(C:gcM m m1 v=some m')(st:St P base ρ D ⟨m.H,m.n,[],m.hi,m.lg⟩ m1 w w1)(A:At P base gl ρ m m'.hi w)(hv:VR D v v') :
  m'.hi=m1.hi/\∃ ρ2,VR ρ2 v v'/\St P base ρ ρ2 m m' w w1:=by
 have ax:m1.n<=m1.hi:=st.nhi A.nh;have hle:m.hi<=m1.hi:=st.hle;have e:∀ b,b ∈ lE (m1.W.filter fun b=>Nat.blt b m.n || Nat.ble m1.hi b) []↔b ∈ m1.W/\(b<m.n∨m1.hi<=b):=fun b=>by
  rw[pA];simp only[P7,C4,or_false,G0];constructor
  .rintro⟨h1,f⟩;exact⟨h1,f.imp (fun h=>A1 h) (fun h=>A1 h)⟩
  .rintro⟨h1,f⟩;exact⟨h1,f.imp (fun h=>C6 h) (fun h=>C6 h)⟩
 unfold gcM at C;generalize hW:lE (m1.W.filter fun b=>Nat.blt b m.n || Nat.ble m1.hi b) []=W at C e;simp only[E6,H5,bZ]at C;have hold:m1.hi=m'.hi->∀ b l,ρ b=some l->b<m.n∨m1.hi<=b:=fun he b l y=>by
  rcases F5 b m.n with h1|h1
  .exact .inl h1
  .rcases F5 b m1.hi with f|f
   .rw[A.fr b h1 (he▸f)]at y;cases y
   .exact .inr f
 have G:m1.hi=m'.hi->∀ id,id<=G9->id ∉ W->∀ ab,Hp.get m.H id=some ab->id ∉ m1.W/\Hp.get m1.H id=some ab:=fun he id hid ay ab c=>by
  obtain⟨l,h1,_,_⟩:=A.hr.at_ id hid ab c;have F:=hold he id l h1;have f:id ∉ m1.W:=fun h=>ay ((e id).2 ⟨h,F⟩)
  exact⟨f,by rw[st.same id hid f F];exact c⟩
 have J:∀ b ∈ W,∀ l,ρ b=some l->∃ ab,Hp.get m.H b=some ab/\ab.rw=true:=fun b y l u=>st.wrw b ((e b).1 y).1 (by simp) l u
 cases K:Z6 m.n 10 v && HV m.n m1.H W with
 | true =>
   rw[K]at C;simp only[D9]at C;obtain⟨t,C⟩:=A2 C;cases C;obtain⟨q1,q2⟩:=B6 K;have t:=pV t;have F:∀ b l,b<m.n->D b=some l->ρ b=some l:=fun b l y u=>by
    cases h0:ρ b with
    | some l0=>rw[st.ext b l0 h0]at u;exact u
    | none=>have h:=(st.new b l u h0).1;exact absurd y (Nat.not_lt.2 h)
   have s:∀ id,id<=G9->Hp.get (cR m1.H m.H W) id=if id ∈ W then Hp.get m1.H id else Hp.get m.H id:=fun id hid=>pE W _ t id hid
   have E:∀ id,id<=G9->∀ ab,Hp.get (cR m1.H m.H W) id=some ab->Hp.get m1.H id=some ab:=fun id hid ab c=>by
    rw[s id hid]at c;by_cases h:id ∈ W
    .rw[B2 h]at c;exact c
    .rw[B0 h]at c;exact(G rfl id hid h ab c).2
   have az:=st.hr.sub E;have V:∀ id,id<=G9->∀ ab,Hp.get (cR m1.H m.H W) id=some ab->∀ l,D id=some l->ρ id=some l:=fun id hid ab c l u=>by
    cases h0:ρ id with
    | some l0=>rw[st.ext id l0 h0]at u;exact u
    | none =>
      exfalso;have hn:=st.new id l u h0;rw[s id hid]at c;by_cases h:id ∈ W
      .have:=((e id).1 h).2;have h1:m.n<=id:=hn.1;have f:=hn.2;omega
      .rw[B0 h]at c;obtain⟨l0,h1,_⟩:=A.hr.at_ id hid ab c;rw[h1]at h0;cases h0
   refine⟨rfl,ρ,AH F hv 10 q1,⟨fun _ _ h=>h,fun b k h1 f=>(by rw[h1]at f;cases f),A7 _,hle,fun h=>B8 h hle,⟨A.hr.dom,fun id hid ab c=>?_⟩,fun b y=>B4.2 (.inr y),fun b h1 f l u=>?_,fun k hk y=>?_,st.size,st.os,fun b k h1 f=>(by rw[h1]at f;cases f),fun id hid h1 f=>?_,fun k ⟨id,a,q,hid,B,K,O⟩=>?_⟩⟩
   .obtain⟨l,g1,g2,g3⟩:=az.at_ id hid ab c;have u:=V id hid ab c l g1;refine⟨l,u,?_,fun T N=>⟨(g3 T N).1,fun Z R Y l2 f1 f2 f3=>(g3 T N).2 Z R Y l2 f1 (st.ext _ _ f2) f3⟩⟩;have au:=c;rw[s id hid]at c;by_cases h:id ∈ W
    .rw[B2 h]at c
     have:=DZ q2 id h;rw[c]at this;exact A1f F g2 this
    .rw[B0 h]at c;obtain⟨l0,U,e2,e3⟩:=A.hr.at_ id hid ab c;rw[u]at U
     have:=A5 U;subst this;refine e2.mono (fun _ _ h=>h) (fun k hk=>st.keep k (e2.tc hk) fun b y lb L aw heq=>?_);have Q:b ∈ W:=(e b).2 ⟨y,hold rfl b lb L⟩;obtain⟨ar,c1,c2⟩:=J b Q lb L
     have:=((A.hr.atl L c1).2 c2 aw).2 id hid ab l c u (heq▸hk);subst this;exact h Q
   .rcases B4.1 h1 with h|h
    .exact J b h l u
    .exact absurd h f
   .exact st.keep k hk fun b M l u F=>y b (B4.2 (.inl ((e b).2 ⟨M,hold rfl b l u⟩))) l u F
   .show Hp.get (cR m1.H m.H W) id=_;rw[s id hid,B0 (fun h=>h1 (B4.2 (.inl h)))]
   .have B:Hp.get (cR m1.H m.H W) id=some a:=B;rw[s id hid]at B;by_cases h:id ∈ W
    .rw[B2 h]at B;exact st.tch k ⟨id,a,q,hid,B,st.ext _ _ K,O⟩
    .rw[B0 h]at B;exact .inr ⟨id,a,q,hid,B,K,O⟩
 | false =>
   rw[K]at C;simp only[D4]at C;generalize hI:(CZ m.n m1.H 100000 (vX 10 v++wOf m1.H W) []).filter (fun b=>Nat.ble m.n b && Nat.blt b m1.hi)=I at C;have av:∀ b ∈ I,m.n<=b/\b<m1.hi:=fun b y=>by
    subst hI;obtain⟨_,h⟩:=P7.1 y;obtain⟨h1,f⟩:=B6 h;exact⟨A1 h1,A1 f⟩
   obtain⟨t,C⟩:=A2 C;cases C;have t:=pV t;have s:∀ id,id<=G9->Hp.get (cR m1.H m.H (W++I)) id=if id ∈ W++I then Hp.get m1.H id else Hp.get m.H id:=fun id hid=>pE _ _ t id hid
   have E:∀ id,id<=G9->∀ ab,Hp.get (cR m1.H m.H (W++I)) id=some ab->Hp.get m1.H id=some ab:=fun id hid ab c=>by
    rw[s id hid]at c;by_cases h:id ∈ W++I
    .rw[B2 h]at c;exact c
    .rw[B0 h]at c;exact(G rfl id hid (fun hh=>h (B4.2 (.inl hh))) ab c).2
   refine⟨rfl,D,hv,⟨st.ext,st.new,st.nle,hle,fun _=>ax,st.hr.sub E,fun b y=>B4.2 (.inr y),fun b h1 f l u=>?_,fun k hk y=>?_,st.size,st.os,fun b l h1 f F=>?_,fun id hid h1 f=>?_,fun k ⟨id,a,q,hid,B,K,O⟩=>?_⟩⟩
   .rcases B4.1 h1 with h|h
    .exact J b h l u
    .exact absurd h f
   .exact st.keep k hk fun b M l u F=>y b (B4.2 (.inl ((e b).2 ⟨M,hold rfl b l u⟩))) l u F
   .rcases st.blk b l h1 f F with h|⟨X,h3,l0,h4,h5⟩
    .exact .inl h
    .exact .inr ⟨X,B4.2 (.inl ((e X).2 ⟨h3,hold rfl X l0 h4⟩)),l0,h4,h5⟩
   .show Hp.get (cR m1.H m.H (W++I)) id=_;rw[s id hid,B0];intro h;rcases B4.1 h with h|h
    .exact h1 (B4.2 (.inl h))
    .have:=av id h;have f:id<m.n∨m1.hi<=id:=f;omega
   .have B:Hp.get (cR m1.H m.H (W++I)) id=some a:=B;rw[s id hid]at B;by_cases h:id ∈ W++I
    .rw[B2 h]at B;exact st.tch k ⟨id,a,q,hid,B,K,O⟩
    .rw[B0 h]at B;obtain⟨l0,U,_⟩:=A.hr.at_ id hid a B;rw[st.ext _ _ U]at K
     have:=A5 K;subst this;exact .inr ⟨id,a,l0,hid,B,U,O⟩
def fC:∀ (vs:List Value) (fr:Fr) (i t:Nat),i+vs.length<=512->t<512->(dB fr i vs).get t=if i<=t/\t<i+vs.length then vs.getD (t-i) undef else fr.get t
 | [],fr,i,t,_,_=>by simp[dB];intro h1 a;omega
 | v::r,fr,i,t,h,ht=>by
   simp only[J2]at h ⊢;rw[dB,sX,fC r _ (i+1) t A6 ht,K8 _ _ _ _ A6 ht];by_cases h1:i+1<=t/\t<i+1+r.length
   .rw[B2 h1,B2 A6,show t-i=(t-(i+1))+1 by omega];rfl
   .rw[B0 h1];by_cases a:t=i
    .subst a;rw[B2 rfl,B2 A6,Nat.sub_self];rfl
    .rw[B0 a,B0 A6]
def NI(tmps:Array Value):ResultVar->Sem Value
 | .tmp t=>pure (tmps.getD t undef)
 | .cell a t=>do loadVar t (<- asAddr (tmps.getD a undef))
variable {z:Zn}
def JO{ρ:Ren}{s:S}{a:Act}{w:World}(h:HR P base ρ s.m.H w)(A:FrR z ρ nt s.fr a):∀ (rs:List ResultVar) (vs:List Value),NK P nt s rs=some vs->∃ b,LR ρ vs b /\
  (rs.mapM (NI a.tmps)).run P w=.ok b w
 | [],vs,hr=>by
   simp only[NK,C7]at hr;subst hr;exact⟨[],.nil,rfl⟩
 | r::rs,vs,hr=>by
   unfold NK at hr;split at hr
   .rename_i v u h1 C;cases hr;obtain⟨b,g1,g2⟩:=JO h A rs u C;have f:∃ v',VR ρ v v'/\(NI a.tmps r).run P w=.ok v' w:=by
     unfold A2d at h1;split at h1
     .rename_i t;obtain⟨q1,q2⟩:=A2 h1;cases q2;exact⟨_,A.get t (A1 q1),rfl⟩
     .rename_i c t;obtain⟨q1,q2⟩:=A2 h1;have B:=A.get c (A1 q1);split at q2
      .rename_i E k;rw[k]at B;obtain⟨l,D,_,e⟩:=L8 B;obtain⟨v',y,n⟩:=EB h q2 D;exact⟨v',n,by simp[NI,e,asAddr,y]⟩
      .cases q2
    obtain⟨v',y,n⟩:=f;refine⟨v'::b,.cons y g1,?_⟩;simp only[List.mapM_cons,A4,n,g2,Result.andThen,Sem.run_pure]
   .cases hr
def XH{ρ:Ren}{fn:Func}{s:S}{a:Act}{w:World}{v:Value}(h:HR P base ρ s.m.H w)(y:FrR z ρ fn.ntmps s.fr a)(hr:NJ fn P s=some v):∃ v',VR ρ v v'/\(results fn a.tmps).run P w=.ok v' w:=by
 unfold NJ at hr;have key:∀ vs,NK P fn.ntmps s fn.results.toList=some vs->∃ b,LR ρ vs b/\(results fn a.tmps).run P w=.ok (if h:b.toArray.size=1 then b.toArray[0]else .tuple b.toArray) w:=fun vs f=>by
  obtain⟨b,g1,g2⟩:=JO h y _ vs f;refine⟨b,g1,?_⟩;have he:results fn a.tmps=(do let vs <- fn.results.mapM (NI a.tmps);pure (if h:vs.size=1 then vs[0]else .tuple vs)):=by
   unfold results;rfl
  have hm:(fn.results.mapM (NI a.tmps)).run P w=.ok b.toArray w:=by
   rw[dJ];show(Sem.bind (fn.results.toList.mapM (NI a.tmps)) fun l=>Sem.pure l.toArray).run P w=_;have t:∀ (x:Sem D0) (k:D0->Sem R3),(Sem.bind x k).run P w=(x >>= k).run P w:=fun _ _=>rfl
   rw[t,A4,g2];rfl
  rw[he,A4,hm];rfl
 split at hr
 .rename_i u e;cases hr;obtain⟨b,g1,g2⟩:=key _ e;obtain⟨v',A,rfl,g3,g4⟩:=g1.tail;cases g4.nil_inv;exact⟨v',g3,g2⟩
 .rename_i vs c e;cases hr;obtain⟨b,g1,g2⟩:=key _ e;refine⟨.tuple ⟨b⟩,.tuple g1.1 g1.2,?_⟩;rw[g2,dif_neg];intro h1;have h1:b.length=1:=by simpa using h1
  have n:vs.length=1:=by rw[g1.1];exact h1
  obtain⟨x,rfl⟩:=List.length_eq_one_iff.1 n;exact c x rfl
 .cases hr
def BP(P:Program):Prop:=∀ (f:Nat) (fn:Func),P.funcs[f]? = some fn->(fn.name == "runtime.NumGoroutine")=false
def SW{m m1 m':Mem}{v:Value}(a:gcM m m1 v=some m'):m'.lg=m1.lg:=by
 unfold gcM at a;simp only[E6,H5,bZ]at a;cases c:Z6 m.n 10 v && HV m.n m1.H (lE (m1.W.filter fun b=>Nat.blt b m.n || Nat.ble m1.hi b) [])with
 | true=>rw[c]at a;obtain⟨_,q⟩:=A2 a;cases q;rfl
 | false=>rw[c]at a;obtain⟨_,q⟩:=A2 a;cases q;rfl
def sP:∀ {l:G6} {m m':Mem},mP l m=some m'->m'.hi=m.hi/\m'.n=m.n/\m'.lg=m.lg
 | [],m,m',h=>by cases h;exact⟨rfl,rfl,rfl⟩
 | b::r,m,m',h=>by
   unfold mP at h;split at h
   .split at h
    .rename_i m1 hm;obtain⟨_,e⟩:=S2 hm;obtain⟨h1,a,h3⟩:=sP h;subst e;exact⟨h1,a,h3⟩
    .cases h
   .cases h
def LA{fn:Func}{m m':Mem}{v:Value}(h:A1y fn P m r=some (v,m')):∃ e s m1,r=some (e,s)/\(e=.normal∨e=.ret)/\mP (dvG fn.ntmps s.fr) s.m=some m1/\NJ fn P ⟨s.fr,m1⟩=some v/\gcM m m1 v=some m':=by
 have key:∀ (fr:Fr) (m0:Mem),(match mP (dvG fn.ntmps fr) m0 with
  | some m1=>match NJ fn P ⟨fr,m1⟩with
    | some v=>match gcM m m1 v with
      | some m=>some (v,m)
      | none=>none
    | none=>none
  | none=>none)=some (v,m')->∃ m1,mP (dvG fn.ntmps fr) m0=some m1/\NJ fn P ⟨fr,m1⟩=some v/\gcM m m1 v=some m':=fun fr m0 h=>by
  split at h
  .rename_i m1 h1;split at h
   .rename_i u f;split at h
    .rename_i m2 h3;cases h;exact⟨m1,h1,f,h3⟩
    .cases h
   .cases h
  .cases h
 unfold A1y at h;split at h
 .rename_i fr m1;obtain⟨m2,a,b,c⟩:=key _ _ h;exact⟨_,_,m2,rfl,.inl rfl,a,b,c⟩
 .rename_i fr m1;obtain⟨m2,a,b,c⟩:=key _ _ h;exact⟨_,_,m2,rfl,.inr rfl,a,b,c⟩
 .cases h
structure dD (P:Program) (base gl nt:Nat) (c:Code) (L:S->Option (Ex×S)):Prop where
 lg:∀ (s s':S) (e:Ex),L s=some (e,s')->s.m.hi<=s'.m.hi/\s.m.lg.le s'.m.lg
 ok:∀ (s s':S) (e:Ex),L s=some (e,s')->Sat s'.m.lg->∀ (z:Zn) (ρ:Ren) (a:Act) (w:World) (Q:Exit->Act->World->Prop),At P base gl ρ s.m s'.m.hi w->FrR z ρ nt s.fr a ->
  (∀ a' w',Q Ex.ret.out a' w'->Q Ex.normal.out a' w')->(∀ ρ' a' w',FrR z ρ' nt s'.fr a'->St P base ρ ρ' s.m s'.m w w'->Q e.out a' w')->c.wpIn (fw z.rd) 0 P Q a w
def dD.or{nt:Nat}{c:Code}{a b:S->Option (Ex×S)}(l:dD P base gl nt c a)(f:dD P base gl nt c b):dD P base gl nt c (orL a b):=by
 refine⟨fun s m e h=>?_,fun s m e h k=>?_⟩
 .unfold orL at h;split at h
  .rename_i r hr;cases h;exact l.lg _ _ _ hr
  .exact f.lg _ _ _ h
 .unfold orL at h;split at h
  .rename_i r hr;cases h;exact l.ok _ _ _ hr k
  .exact f.ok _ _ _ h k
def dD.code{nt:Nat}{c:Code}{call:M2}(l:R6 P base gl call)(k:j8 P base gl call){lp:LpT}(b:GA P base gl nt c lp):dD P base gl nt c (L4 P nt gl call lp [] c).run :=
 ⟨fun _ _ _ h=>Q0 l k b c [] rfl _ _ _ h,fun s t e h m z ρ a w Q f u _ n=>O6 (z:=z) l k b c [] rfl ρ s t e a w Q h m f u n⟩
def ZK{fn:Func}{c:Code}{L:dV}(l:dD P base gl fn.ntmps c L.run){vs:D0}{m m':Mem}{v:Value}
  (hr:qX fn P L vs m=some (v,m')):m.lg.le m'.lg:=by
 unfold qX at hr;obtain⟨_,hr⟩:=A2 hr;obtain⟨e,s,m1,h1,_,b,h3,k⟩:=LA hr;have a:GT L (dB fr0 0 vs) m=L.run ⟨dB fr0 0 vs,⟨m.H,m.n,[],m.hi,m.lg⟩⟩:=rfl;rw[a]at h1;have f:=(l.lg _ _ _ h1).2;rw[SW k,(sP b).2.2];exact f
def xO{fn:Func}{tmps:R3}{R:Ending->World->Prop}{ρ:Ren}{hi:Nat}:∀ (ids:List Nat) (ds:List Deferred) (m md:Mem) (w:World),mP ids m=some md->DfR ρ ids ds->HR P base ρ m.H w->I8 ρ m.n md.hi ->
  (∀ w',St P base ρ ρ m md w w'->∃ v,(results fn tmps).run P w'=.ok v w'/\R (.returned v) w')->LeavesInM (fw none) 0 P fn tmps R ds .returning w
 | [],ds,m,md,w,h,hd,hr,hf,hR=>by
   cases h;have:ds=[]:=D2.1 hd.1.symm;subst this;exact hR w (.refl hr)
 | b::r,[],m,md,w,h,hd,hr,hf,hR=>by have:=hd.1;simp at this
 | b::r,d::ds,m,md,w,h,hd,hr,hf,hR=>by
   unfold mP at h;split at h
   .rename_i e;split at h
    .rename_i m1 hm;obtain⟨l,f,c⟩:=hd.2 0 b d rfl rfl;obtain⟨⟨⟨s,C⟩,x,k,B⟩,_⟩:=hr.atl f e
     have:=B rfl;subst this;obtain⟨p1,u,t⟩:=fN (o:=.deferred none) (B7.1 k).1;have st1:St P base ρ ρ m m1 w (w.putObj l.blk (.deferred none)):=St.write hr hm e rfl f s ⟨rfl,rfl,rfl⟩ p1 t ⟨⟨s,C⟩,_,u,fun h=>by cases h⟩;obtain⟨D,A⟩:=S2 hm;have y:m1.n=m.n:=by rw[A]
     refine⟨(by intro h;cases h),.inl ⟨l.blk,_,by rw[c];rfl,run_takeDeferred k,?_⟩⟩;exact xO (hi:=hi) r ds m1 md _ h ⟨by have:=hd.1;simpa using this,fun i id d a b=>hd.2 (i+1) id d (by simpa using a) (by simpa using b)⟩ st1.hr (by rw[y];exact hf) fun w' st2=>hR w' (St.trans hf st1 st2)
    .cases h
   .cases h
def vB{f:FuncId}{fn:Func}{c:Code}{L:dV}(hf:P.funcs[f]? = some fn)(B:fn.body=some c)(V:(fn.name == "runtime.NumGoroutine")=false)(hL:dD P base gl fn.ntmps c L.run) :
  hY P base gl f ⟨qX fn P L⟩:=by
 refine⟨fun vs m m' v hr=>ZK hL hr,?_⟩;intro ρ m m' w vs k v hr hS l Z;have hr:qX fn P L vs m=some (v,m'):=hr;unfold qX at hr;obtain⟨h1,hr⟩:=A2 hr;obtain⟨h1,N⟩:=B6 h1;have h1:=A1 h1;have N:=A1 N;left;constructor
 .have Y:fn.name ≠ "runtime.NumGoroutine":=by simpa using V
  simp[callFunc,hf,Y,B]
 .obtain⟨e,s,m1,A,he,C,G,a⟩:=LA hr;have M:GT L (dB fr0 0 vs) m=L.run ⟨dB fr0 0 vs,⟨m.H,m.n,[],m.hi,m.lg⟩⟩:=rfl;rw[M]at A;have E:∀ t,vs.length<=t->t<512->(dB fr0 0 vs).get t=undef:=fun t k1 k2=>by
   rw[fC _ _ _ _ A6 k2,B0 A6,AO]
  have Q:FrR ⟨none,[]⟩ ρ fn.ntmps (dB fr0 0 vs) { tmps:=⟨k⟩++Array.replicate (fn.ntmps-(Array.mk k).size) undef,defers:=[] }:=by
   have hlen:=Z.1;refine⟨by simp;omega,N,⟨[],rfl,?_⟩,fun Y=>⟨fun _=>rfl,fun b B=>?_⟩,fun t ht=>?_⟩
   .unfold dvG;cases K:Nat.ble fn.ntmps 510 with
    | true =>
      have:=A1 K;rw[E 510 A6 K3];exact .nil
    | false=>exact .nil
   .rw[E 511 A6 K3]at B;cases B
   .rw[fC _ _ _ _ A6 A6];by_cases I:t<vs.length
    .rw[B2 A6];have u:t<k.length:=A6
     have:=Z.2 t vs[t] k[t] (A3 I) (A3 u)
     simpa [B1,Array.getElem?_append,I,u,B3]using this
    .rw[B0 A6,AO];have u:¬ t<k.length:=A6;have:(({ toList:=k }:Array Value)++Array.replicate (fn.ntmps-(Array.mk k).size) undef).getD t undef=undef:=by
      simp[B1,Array.getElem?_append,u,T6];split<;>rfl
     rw[this];exact mN ρ
  have U:m1.hi=m'.hi:=by
   have a:=a;unfold gcM at a;simp only[E6,H5,bZ]at a;cases K:Z6 m.n 10 v && HV m.n m1.H (lE (m1.W.filter fun b=>Nat.blt b m.n || Nat.ble m1.hi b) [])with
   | true=>rw[K]at a;obtain⟨_,q⟩:=A2 a;cases q;rfl
   | false=>rw[K]at a;obtain⟨_,q⟩:=A2 a;cases q;rfl
  obtain⟨t1,t2,t3⟩:=sP C;have y:At P base gl ρ ⟨m.H,m.n,[],m.hi,m.lg⟩ s.m.hi w:=⟨l.hr,l.bs,fun b q1 q2=>l.fr b q1 (by rw[<- U,t1];exact q2),l.gr,l.nh,fun b B=>(by cases B),l.gf⟩;have O:Sat s.m.lg:=by rw[<- t3,<- SW a];exact hS
  refine aB.1 (callsIn_of_wp_marks (F:=fw none) (n:=0) hf B trivial ?_ rfl);refine hL.ok _ s e A O ⟨none,[]⟩ ρ _ w _ y Q (fun _ _ h=>h) fun R T w1 f1 st1=>?_
  obtain⟨ds,d1,d2⟩:=f1.df;have d1:T.defers=ds:=by rw[d1];simp
  have D:LeavesInM (fw none) 0 P fn T.tmps (WJ P base ρ m m' w v) T.defers .returning w1:=by
   rw[d1];have J:=y.step st1;refine xO (base:=base) (ρ:=R) (hi:=0) _ _ _ _ _ C d2 st1.hr (by rw[t1];exact J.fr) fun w' st2=>?_
   have X:=St.trans (by have:=y.fr;rw[t1];exact this) st1 st2;obtain⟨v',g1,g2⟩:=XH (s:=⟨s.fr,m1⟩) st2.hr f1 G;obtain⟨_,ρ2,g3,g4⟩:=A29 a X l g1;exact⟨v',g2,v',ρ2,rfl,g3,g4⟩
  rcases he with rfl|rfl
  .exact D
  .exact D
def MA{f:FuncId}{fn:Func}{c:Code}{call:M2}(m:P.funcs[f]? = some fn)(e:fn.body=some c)(b:(fn.name == "runtime.NumGoroutine")=false)(l:R6 P base gl call)(k:j8 P base gl call){lp:LpT}(a:GA P base gl fn.ntmps c lp) :
  hY P base gl f ⟨qX fn P (L4 P fn.ntmps gl call lp [] c)⟩:=vB m e b (dD.code l k a)
def DC{ρ:Ren}{nt:Nat}(f:nt<=512):∀ (ps:List Tmp) (args b:List Value) (fr c:Fr) (tmps:Array Value),qM ps args fr=some c->LR ρ args b->(∀ t ∈ ps,t<nt)->tmps.size=nt->(∀ t,t<nt->VR ρ (fr.get t) (tmps.getD t undef)) ->
  ps.length=b.length/\((ps.zip b).foldl (fun tmps (t,a)=>tmps.setIfInBounds t a) tmps).size=nt/\(∀ t,t<nt->VR ρ (c.get t) (((ps.zip b).foldl (fun tmps (t,a)=>tmps.setIfInBounds t a) tmps).getD t undef))/\∀ t,nt<=t->t<512->c.get t=fr.get t
 | [],[],b,fr,c,tmps,h,hl,hp,hs,hg=>by
   cases h;rw[hl.nil_inv];exact⟨rfl,hs,hg,fun _ _ _=>rfl⟩
 | [],_::_,_,_,_,_,h,_,_,_,_=>by cases h
 | _::_,[],_,_,_,_,h,_,_,_,_=>by cases h
 | t::ps,v::vs,b,fr,c,tmps,h,hl,hp,hs,hg=>by
   obtain⟨v',m,rfl,h1,n⟩:=hl.tail;have k:t<nt:=hp t B5;have h:qM ps vs (fr.set t v)=some c:=by
    have e:qM (t::ps) (v::vs) fr=qM ps vs (fr.set t v):=zO t v fr (fun fr=>qM ps vs fr);rw[<- e];exact h
   obtain⟨s,w,y,A⟩:=DC f ps vs m (fr.set t v) c (tmps.setIfInBounds t v') h n (fun u hu=>hp u (C5 _ hu)) (by simp[hs]) (fun u hu=>by
    rw[K8 _ _ _ _ (C9 k f) (C9 hu f)];simp only[B1,D1];by_cases e:u=t
    .subst e;rw[B2 rfl,B2 rfl,B2 (by rw[hs];exact hu)];exact h1
    .rw[B0 e,B0 (fun h=>e h.symm)]
     have:=hg u hu
     simpa [B1]using this)
   refine⟨by simp[s],w,y,fun u h3 l=>?_⟩;rw[A u h3 l,K8 _ _ _ _ (C9 k f) l,B0 (fun e=>by subst e;exact absurd k (Nat.not_lt.2 h3))]
def qK{b:Nat}{v:Value}{m':Mem}(h:mZ b r=some (v,m')):∃ e s f q vs,r=some (e,s)/\Hp.get s.m.H b=some (.lp f q vs 1)/\aK s.m b (.lp f q vs (exN e))=some m'/\v=.bool (AK e):=by
 unfold mZ at h;split at h
 .rename_i e fr m;split at h
  .rename_i f q vs a;rw[E6]at h;split at h
   .rename_i m1 hm;cases h;exact⟨e,⟨fr,m⟩,f,q,vs,rfl,a,hm,rfl⟩
   .cases h
  .cases h
 .cases h
def qJ{b:Nat}{c:dV}{v:Value}{m':Mem}(h:mY b c r=some (v,m')):∃ s f q vs m1,r=some (.normal,s)/\Hp.get s.m.H b=some (.lp f q vs 0)/\aK s.m b (.lp f q vs 1)=some m1/\mZ b (c.run ⟨s.fr,m1⟩)=some (v,m'):=by
 unfold mY at h;split at h
 .rename_i fr m;split at h
  .rename_i f q vs a;split at h
   .rename_i m1 hm;exact⟨⟨fr,m⟩,f,q,vs,m1,rfl,a,hm,h⟩
   .cases h
  .cases h
 .cases h
def xA{C:Cx}{call:M2}{vs:D0}{m m':Mem}{v:Value}(h:(zU C call).run vs m=some (v,m')):∃ b args f q a fn body x ps as bd fr,vs=yv b::args/\Hp.get m.H b=some (.lp f q a 0)/\C.P.funcs[f]? = some fn/\fn.body=some body/\G5 q body=some (.rangeFunc x ps as bd) /\
  fn.ntmps<=510/\(∀ t ∈ ps.toList,t<fn.ntmps)/\qM ps.toList args (dB fr0 0 a)=some fr /\
  mY b (L4 C.P fn.ntmps C.gl call (C.lp f) (q++[true]) bd) ((L4 C.P fn.ntmps C.gl call (C.lp f) (q++[false]) as).run ⟨fr.set 511 (yv b),m⟩)=some (v,m'):=by
 unfold zU at h;simp only at h;split at h
 .cases h
 .rename_i u args;split at h
  .cases h
  .rename_i b A
   have:=wG A;subst this;split at h
   .rename_i f q a n;split at h
    .cases h
    .rename_i fn B;split at h
     .cases h
     .rename_i body c;split at h
      .rename_i x ps as bd y;obtain⟨h1,h⟩:=A2 h;obtain⟨h1,w⟩:=B6 h1;split at h
       .rename_i fr l;refine⟨b,args,f,q,a,fn,body,x,ps,as,bd,fr,rfl,n,by simpa using B,c,y,A1 h1,fun t s=>A1 (D3.1 w t s),l,?_⟩;have e:∀ (k:Fr->Res),rB (sel 7) (sel 7) (sel 7) (yv b) fr k=k (fr.set 511 (yv b)):=fun k=>zO 511 (yv b) fr k
        rw[e]at h;exact h
       .cases h
      .cases h
   .cases h
def QX{C:Cx}{call:M2}(N:R6 C.P base C.gl call)(M:j8 C.P base C.gl call)(s:∀ f fn body,C.P.funcs[f]? = some fn->fn.body=some body->GA C.P base C.gl fn.ntmps body (C.lp f)):A2C C.P base C.gl (zU C call):=by
 refine⟨fun vs m m' v h=>?_,fun ρ m m' w b args c v l h hS u hl K=>?_⟩
 .obtain⟨b,args,f,q,O,fn,body,x,ps,as,bd,fr,rfl,_,h1,D,h3,_,_,_,h⟩:=xA h;obtain⟨s1,f2,q2,aq,m2,g1,_,g3,h⟩:=qJ h;obtain⟨e,s2,f3,q3,ax,W,_,X,_⟩:=qK h;have a1:=(Q0 N M (s f fn body h1 D) as (q++[false]) (H7 h3 rfl) _ _ _ g1).2;have a2:=(Q0 N M (s f fn body h1 D) bd (q++[true]) (H7 h3 rfl) _ _ _ W).2;rw[(jX X).2];have a2:m2.lg.le s2.m.lg:=a2;rw[(jX g3).2]at a2;exact a1.trans a2
 .obtain⟨b',ay,f,q,O,fn,body,x,ps,as,bd,fr,e0,hg,h1,D,h3,h4,h5,h6,h⟩:=xA h;cases e0;obtain⟨s1,f2,q2,aq,m2,g1,g2,g3,h⟩:=qJ h;obtain⟨e,s2,f3,q3,ax,W,k2,X,rfl⟩:=qK h;have c1:=Q0 N M (s f fn body h1 D) as (q++[false]) (H7 h3 rfl) _ _ _ g1;have c2:=Q0 N M (s f fn body h1 D) bd (q++[true]) (H7 h3 rfl) _ _ _ W;obtain⟨j1,j2⟩:=jX g3;obtain⟨j3,j4⟩:=jX X;have R:Sat s2.m.lg:=by rw[<- j4];exact hS
  have av:Sat s1.m.lg:=by rw[<- j2];exact N0.le R c2.2
  have an:m2.hi<=s2.m.hi:=c2.1;obtain⟨⟨⟨Y,b2⟩,r,b3,b4⟩,_⟩:=u.hr.atl K hg;obtain⟨ao,au,x',e1,e2,e3,e4⟩:=b4.code;rw[h1]at e1;cases e1;rw[D]at e2;cases e2;rw[h3]at e3;cases e3;have hlen:=b4.fr.1;have ar:∀ t,O.length<=t->t<512->(dB fr0 0 O).get t=undef:=fun t q1 q2=>by
   rw[fC _ _ _ _ A6 q2,B0 A6,AO]
  obtain⟨p1,p2,p3,p4⟩:=DC (ρ:=ρ) (nt:=fn.ntmps) A6 r.params.toList args c (dB fr0 0 O) fr r.tmps h6 hl h5 (by simpa [e4]using hlen.symm) (fun t Z=>by
   rw[fC _ _ _ _ A6 A6,B2 A6];have Q:t<O.length:=A6;have A:t<r.tmps.toList.length:=A6
   have:=b4.fr.2 t O[t] _ (A3 Q) (A3 A);have V:t<r.tmps.size:=by simpa using A
   simpa [B1,Q,V,B3]using this)
  have J:(r.params.zip ⟨c⟩).foldl (fun tmps (t,a)=>tmps.setIfInBounds t a) r.tmps=(r.params.toList.zip c).foldl (fun tmps (t,a)=>tmps.setIfInBounds t a) r.tmps:=by
   rw[<- Array.foldl_toList];simp
  refine⟨r.fn,_,r.assign,r.body,run_yield b3 (by show c.length=_;rw[<- p1];simp),?_⟩;rw[J];refine roundIn_of_wpIn (F:=Fence.wide) (n:=0) trivial ?_;have G:∀ t,t<511->(fr.set 511 (yv b)).get t=fr.get t:=fun t Z=>by rw[K8 _ _ _ _ K3 A6,B0 A6]
  have aw:FrR ⟨some l.blk,[]⟩ ρ fn.ntmps (fr.set 511 (yv b)) { tmps:=(r.params.toList.zip c).foldl (fun tmps (t,a)=>tmps.setIfInBounds t a) r.tmps,defers:=[] }:=by
   refine⟨p2,A6,⟨[],rfl,?_⟩,fun _=>?_,fun t Z=>by rw[G t A6];exact p3 t Z⟩
   .unfold dvG;rw[G 510 K3,p4 510 h4 K3,ar 510 A6 K3];cases Nat.ble fn.ntmps 510<;>exact .nil
   .rw[K8 _ _ _ _ K3 K3,B2 rfl];refine⟨fun hu=>(by cases hu),fun b0 T=>?_⟩;have:b0=b:=by
     have:cB (yv b)=some b:=rfl;rw[this]at T;exact(A5 T).symm
    subst this;exact⟨l,K,rfl⟩
  have L:I8 ρ m.n m'.hi:=u.fr;refine O6 (z:=⟨some l.blk,[]⟩) N M (s f fn body h1 D) r.assign (q++[false]) (H7 h3 rfl) ρ ⟨fr.set 511 (yv b),m⟩ s1 .normal _ w _ g1 av (u.less (by rw[j3];omega)) aw fun I a1 w1 f1 st1=>?_
  have H:=st1.ext _ _ K;obtain⟨⟨⟨_,_⟩,r2,d3,d4⟩,_⟩:=st1.hr.atl H g2;obtain⟨o1,o2,o3⟩:=fN (o:=.loop { r2 with state:=.busy }) (B7.1 d3).1;have st2:St C.P base I I s1.m m2 w1 (w1.putObj l.blk (.loop { r2 with state:=.busy })):=St.write st1.hr g3 g2 rfl H Y ⟨rfl,rfl,rfl⟩ o1 o3 ⟨⟨Y,b2⟩,_,o2,d4.code,d4.fr,rfl⟩;refine⟨_,run_beginRound d3 d4.st.1,?_⟩;have E:=(u.step st1);have B:=E.step st2;refine O6 (z:=⟨some l.blk,[]⟩) N M (s f fn body h1 D) r.body (q++[true]) (H7 h3 rfl) I ⟨s1.fr,m2⟩ s2 e _ _ _ W R (B.less (by rw[j3];exact A7 _)) f1 fun ρ2 a2 w3 f3 y=>?_
  have U:=y.ext _ _ H;obtain⟨⟨⟨_,_⟩,r3,d5,d6⟩,_⟩:=y.hr.atl U k2;have fin:∀ (jump:Option Code),StR (exN e) (if jump.isNone then .ready else .done) jump->jump.isNone=AK e->∃ v w',(Instr.endRound l.blk jump).run C.P w3=.ok v w'/\WJ C.P base ρ m m' w (.bool (AK e)) (.returned v) w':=fun jump hj he=>by
   refine⟨_,_,run_endRound jump d5,?_⟩;obtain⟨o4,o5,o6⟩:=fN (o:=.loop { r3 with state:=if jump.isNone then .ready else .done,pending:=jump }) (B7.1 d5).1;have az:St C.P base ρ2 ρ2 s2.m m' w3 (w3.putObj l.blk (.loop { r3 with state:=if jump.isNone then .ready else .done,pending:=jump })):=St.write y.hr X k2 rfl U Y ⟨rfl,rfl,rfl⟩ o4 o6 ⟨⟨Y,b2⟩,_,o5,d6.code,d6.fr,hj⟩;exact⟨_,ρ2,rfl,by rw[he];exact .pure rfl,St.trans L st1 (St.trans E.fr st2 (St.trans B.fr y az))⟩
  cases e with
  | normal=>exact fin none ⟨rfl,rfl⟩ rfl
  | ret=>exact fin (some .ret) ⟨rfl,rfl⟩ rfl
  | exit k=>exact fin (some (.exit k)) ⟨rfl,rfl⟩ rfl
structure ZT (C:Cx) (base:Nat):Prop where
 names:BP C.P
 ext:∀ f k fn,C.P.funcs[f]? = some fn->fn.body=none->FC C.ext f=some k->hY C.P base C.gl f ⟨lV k⟩
 con:∀ f c,C.con f=some c->hY C.P base C.gl f c
 lp:∀ f fn body,C.P.funcs[f]? = some fn->fn.body=some body->GA C.P base C.gl fn.ntmps body (C.lp f)
 draws:∀ call,R6 C.P base C.gl call->j8 C.P base C.gl call
def kC(f:FuncId):hY P base gl f ⟨fun _ _=>none⟩:=⟨fun vs m m' v hr=>(by cases hr),fun ρ m m' w vs a v hr=>(by cases hr)⟩
def XP:A2C P base gl ⟨fun _ _=>none⟩:=⟨fun vs m m' v hr=>(by cases hr),fun ρ m m' w b args a v l hr=>(by cases hr)⟩
def fA{C:Cx}(h:ZT C base):∀ (d:Nat),R6 C.P base C.gl (dT C d)
 | 0=>⟨fun f=>kC f,XP⟩
 | d+1=>by
   have l:=fA h d;refine⟨fun f=>?_,QX l (h.draws _ l) h.lp⟩;show hY C.P base C.gl f (yO C (dT C d) f);unfold yO;split
   .exact kC f
   .rename_i fn a;have a:C.P.funcs[f]? = some fn:=by simpa using a
    split
    .rename_i c b;exact h.con f c b
    .split
     .rename_i e;split
      .rename_i k hk;exact h.ext f k fn a e hk
      .exact kC f
     .rename_i c e;exact MA (gl:=C.gl) a e (h.names f fn a) l (h.draws _ l) (h.lp f fn c a e)
end
end
section
open Go
variable [Ora]
def BO(P:Program)(nt gl:Nat)(call:M2)(all:List Oper)(b:List Nat)(rs:List Rec)(c:Bool)(o:Oper)(fr e:Fr)(m m2:Mem)(v:Value):Prop :=
 uL nt o.dst=true/\HO nt gl o.op=true/\e=rE o.dst v fr /\
 ((c=false/\∃ lg,x7 nt fr m.lg all o=some (false,lg)/\v=undef/\m2=m.wLg lg) ∨
   (c=false/\∃ lg a,x7 nt fr m.lg all o=some (true,lg)/\iJ fr (m.wLg lg) o b rs (U9 P call o)=some (v,a)/\m2=m.wLg a) ∨
   (c=true/\∃ lg,x7 nt fr m.lg all o=some (true,lg)/\(U9 P call o).run fr (m.wLg lg)=some (v,m2)/\m.hi<=m2.hi) ∨
   (c=false/\t7 o.op=false/\∃ lg,x7 nt fr m.lg all o=some (true,lg)/\∃ mv m',wK (m.wLg lg) (A3M fr o.op) (xJ b rs)=some mv/\(U9 P call o).run fr mv=some (v,m')/\m'.W=[]/\m.hi<=m'.hi/\iP (m.wLg lg) m'=some m2))
def OA{α:Type}{c:Bool}{x:Option α}{y:α}(h:(bif c then none else x)=some y):c=false/\x=some y:=by cases c<;>first|exact⟨rfl,h⟩|cases h
def bS(nt:Nat)(all:List Oper)(op:OpC)(b:List Nat)(rs:List Rec)(fr:Fr)(o:Oper)(m m2:Mem)(v:Value)(r:Option (Nat×AB)):Prop :=
 (∃ lg,x7 nt fr m.lg all o=some (false,lg)/\v=undef/\m2=m.wLg lg/\r=none)∨(∃ lg a,x7 nt fr m.lg all o=some (true,lg)/\iJ fr (m.wLg lg) o b rs op=some (v,a)/\m2=m.wLg a/\r=EV m.H fr o.op)
def QsN(e:Bool)(i nt:Nat)(all:List Oper)(op:OpC)(b:List Nat)(rs:List Rec)(fr:Fr)(o:Oper)(m m2:Mem)(v:Value)(c a:Qs):Prop :=
 (e=true/\a=c/\SM b m2.H c=true)∨(e=false/\a=c)∨(e=false/\∃ r,a=(i,r)::c/\bS nt all op b rs fr o m m2 v r)
def WD(P:Program)(nt gl:Nat)(call:M2)(all:List Oper)(r:List Oper)(i:Nat)(bs:List G6)(rs:List Rec)(b:Qs)(s a:S):Prop :=
  ∃ (F:Nat->Fr) (M:Nat->Mem) (V:Nat->Value) (R:Nat->List Rec) (X:Nat->Qs) (B:Nat->Bool),F i=s.fr/\M i=s.m/\R i=rs/\X i=b/\F (i+r.length)=a.fr/\M (i+r.length)=a.m /\
   ∀ j o,r[j]? = some o->BO P nt gl call all (bs.getD j []) (R (i+j)) (B (i+j)) o (F (i+j)) (F (i+j+1)) (M (i+j)) (M (i+j+1)) (V (i+j))/\(B (i+j)=true->CN o.op (i+j) (bs.getD j []) (bs.drop (j+1)) (r.drop (j+1)) (X (i+j))=true) /\
    ((R (i+j+1)=R (i+j)/\∃ lg,M (i+j+1)=(M (i+j)).wLg lg)∨(B (i+j)=true/\R (i+j+1)=[])∨R (i+j+1)=⟨i+j,(M (i+j)).n,(M (i+j+1)).n⟩::R (i+j)) /\
    QsN (B (i+j)) (i+j) nt all (U9 P call o) (bs.getD j []) (R (i+j)) (F (i+j)) o (M (i+j)) (M (i+j+1)) (V (i+j)) (X (i+j)) (X (i+j+1))
def ZW{P:Program}{nt gl:Nat}{call:M2}{all:List Oper}:∀ (r:List Oper) (i:Nat) (bs:List G6) (rs:List Rec) (c:Qs) (s k:S),i9 P nt gl call all r i bs rs c s=some k->WD P nt gl call all r i bs rs c s k
 | [],i,bs,rs,c,s,k,h=>by
   have h:some s=some k:=by cases bs<;>exact h
   cases h;exact⟨fun _=>s.fr,fun _=>s.m,fun _=>undef,fun _=>rs,fun _=>c,fun _=>false,rfl,rfl,rfl,rfl,rfl,rfl,fun j o y=>by simp at y⟩
 | o::r,i,[],rs,c,s,k,h=>by obtain⟨fr,m⟩:=s;cases h
 | o::r,i,b::bs,rs,c,⟨fr,⟨H0,n0,W0,hi0,lg0⟩⟩,k,h=>by
   generalize t:(⟨H0,n0,W0,hi0,lg0⟩:Mem)=m at h;have glue:∀ (w:Bool),(w=true->CN o.op i b bs r c=true)->∀ (v:Value) (m2:Mem) (a:List Rec) (f:Qs),BO P nt gl call all b rs w o fr (rE o.dst v fr) m m2 v->((a=rs/\∃ lg,m2=m.wLg lg)∨(w=true/\a=[])∨a=⟨i,m.n,m2.n⟩::rs)->QsN w i nt all (U9 P call o) b rs fr o m m2 v c f->i9 P nt gl call all r (i+1) bs a f ⟨rE o.dst v fr,m2⟩=some k->WD P nt gl call all (o::r) i (b::bs) rs c ⟨fr,m⟩ k:=fun w I v m2 a f E D L A=>by
    obtain⟨F,M,V,R,X,B,f1,f2,f3,G,f4,f5,f6⟩:=ZW r (i+1) bs a f _ k A;refine⟨fun j=>if j<=i then fr else F j,fun j=>if j<=i then m else M j,fun j=>if j<=i then v else V j,fun j=>if j<=i then rs else R j,fun j=>if j<=i then c else X j,fun j=>if j<=i then w else B j,by simp,by simp,by simp,by simp,?_,?_,?_⟩
    .simp only[J2];rw[B0 A6,show i+(r.length+1)=i+1+r.length by omega];exact f4
    .simp only[J2];rw[B0 A6,show i+(r.length+1)=i+1+r.length by omega];exact f5
    .intro j o' y;cases j with
     | zero =>
       simp at y;subst y;simp only[Nat.add_zero,A7,if_true,Nat.not_succ_le_self,if_false,f1,f2,f3,G];exact⟨E,I,D,L⟩
     | succ j =>
       have K:r[j]? = some o':=by simpa using y
       have:=f6 j o' K;simp only[show ¬ i+(j+1)<=i by omega,show ¬ i+(j+1)+1<=i by omega,if_false];rw[show i+(j+1)=i+1+j by omega]
       simpa using this
   subst t;unfold i9 at h;split at h
   .rename_i lg hw H;obtain⟨d1,d2⟩:=B6 H;cases l:CN o.op i b bs r c with
    | true =>
      rw[l]at h;simp only[D9]at h;split at h
      .rename_i v m2 hr;obtain⟨e,h⟩:=A2 h;obtain⟨e,N⟩:=B6 e;rw[aV]at h;exact glue true (fun _=>l) v m2 _ _ ⟨d1,d2,rfl,.inr (.inr (.inl ⟨rfl,lg,hw,hr,A1 e⟩))⟩ (.inr (.inl ⟨rfl,rfl⟩)) (.inl ⟨rfl,rfl,N⟩) h
      .cases h
    | false =>
      rw[l]at h;simp only[D4]at h;split at h
      .rename_i v u C;obtain⟨O,C⟩:=A2 C;rw[aV]at h;exact glue false (fun h=>by cases h) v _ _ _ ⟨d1,d2,rfl,.inr (.inl ⟨rfl,lg,u,hw,C,rfl⟩)⟩ (.inl ⟨rfl,u,rfl⟩) (.inr (.inr ⟨rfl,_,rfl,.inr ⟨lg,u,hw,C,rfl,rfl⟩⟩)) h
      .obtain⟨J,h⟩:=OA h;unfold LH at h;simp only at h;split at h
       .rename_i mv Q;split at h
        .rename_i v m' hr;split at h
         .rename_i T e;split at h
          .rename_i m2 hm;rw[aV]at h;exact glue false (fun h=>by cases h) v m2 _ _ ⟨d1,d2,rfl,.inr (.inr (.inr ⟨rfl,J,lg,hw,mv,m',Q,hr,T,A1 e,hm⟩))⟩ (.inr (.inr rfl)) (.inr (.inl ⟨rfl,rfl⟩)) h
          .cases h
         .cases h
        .cases h
       .cases h
   .rename_i lg hw H;obtain⟨d1,d2⟩:=B6 H;rw[aV]at h;exact glue false (fun h=>by cases h) undef _ _ _ ⟨d1,d2,rfl,.inl ⟨rfl,lg,hw,rfl,rfl⟩⟩ (.inl ⟨rfl,lg,rfl⟩) (.inr (.inr ⟨rfl,_,rfl,.inl ⟨lg,hw,rfl,rfl,rfl⟩⟩)) h
   .cases h
def FY{l:G6}{b k:Nat}(h:k ∈ WB l b):k=b∨k ∈ l:=by
 unfold WB at h;cases e:r7 l b with
 | true=>rw[e]at h;exact .inr h
 | false=>rw[e,D4,E6]at h;exact A8.1 h
def xQ:∀ {a b:G6} {k:Nat},k ∈ KN a b->k ∈ a∨k ∈ b
 | [],b,k,h=>.inr h
 | x::a,b,k,h=>by
   rcases FY (show k ∈ WB (KN a b) x from h)with rfl|h
   .exact .inl B5
   .rcases xQ h with h|h
    .exact .inl (C5 _ h)
    .exact .inr h
def pY{acc:List G6}:∀ {es:List Edge} {k:Nat},k ∈ oN acc es->∃ e ∈ es,Region.binds .any e=true/\(k=e.on∨k ∈ acc.getD e.on [])
 | [],k,h=>by cases h
 | e::r,k,h=>by
   unfold oN at h;cases a:Region.binds .any e with
   | true =>
     rw[a]at h;rw[D9]at h;rcases(FY h).imp_right xQ with h|h|h
     .exact⟨e,B5,a,.inl h⟩
     .exact⟨e,B5,a,.inr h⟩
     .obtain⟨e',h1,b⟩:=pY h;exact⟨e',C5 _ h1,b⟩
   | false =>
     rw[a]at h;obtain⟨e',h1,b⟩:=pY h;exact⟨e',C5 _ h1,b⟩
def pX:∀ (r:List Oper) (acc:List G6),∃ a,X6 r acc=acc++a/\a.length=r.length/\∀ j o,r[j]? = some o->∃ pre,pre=(acc++a).take (acc.length+j)/\a[j]? = some (oN pre o.after.toList)
 | [],acc=>⟨[],by simp[X6],rfl,fun j o h=>by simp at h⟩
 | o::r,acc=>by
   obtain⟨a,h1,c,h3⟩:=pX r (acc++[oN acc o.after.toList]);refine⟨oN acc o.after.toList::a,by rw[X6,H5,h1];simp,by simp[c],fun j o' b=>?_⟩;cases j with
   | zero =>
     simp at b;subst b;exact⟨_,rfl,by simp⟩
   | succ j =>
     obtain⟨pre,g1,g2⟩:=h3 j o' (by simpa using b);refine⟨pre,?_,by simpa using g2⟩;rw[g1];simp[i5,gK 1 j]
def ZQ{ops:List Oper}{k:Nat}(f:ops[i]? = some o)(he:∀ e ∈ o.after.toList,Region.binds .any e=true->e.on<i)(hk:k ∈ (X6 ops []).getD i []) :
  ∃ e ∈ o.after.toList,Region.binds .any e=true/\(k=e.on∨k ∈ (X6 ops []).getD e.on []):=by
 obtain⟨n,h1,m,h3⟩:=pX ops [];simp only[P6]at h1 h3;obtain⟨pre,g1,g2⟩:=h3 i o f;rw[h1]at hk ⊢;rw[B3,g2]at hk;obtain⟨e,b,c,l⟩:=pY (show k ∈ oN pre o.after.toList from hk);refine⟨e,b,c,l.imp id fun h=>?_⟩;have a:=he e b c;rw[g1]at h;simp only[gX,E1,B3]at h ⊢;rw[F2 a]at h;exact h
def jP(ops:List Oper)(D:Nat->Prop):Prop:=∀ i o,ops[i]? = some o->D i->∀ e ∈ o.after.toList,Region.binds .any e=true->D e.on
def vD{ops:List Oper}{D:Nat->Prop}(m:jP ops D)(a:∀ i o,ops[i]? = some o->∀ e ∈ o.after.toList,Region.binds .any e=true->e.on<i) :
  ∀ (n i k:Nat) (o:Oper),i<n->ops[i]? = some o->(∀ e ∈ o.after.toList,Region.binds .any e=true->D e.on)->k ∈ (X6 ops []).getD i []->D k
 | 0,i,k,o,h,_,_,_=>by omega
 | n+1,i,k,o,h,ho,he,hk=>by
   obtain⟨e,c,f,l⟩:=ZQ ho (a i o ho) hk;rcases l with rfl|l
   .exact he e c f
   .have b:=a i o ho e c f;have hlen:e.on<ops.length:=Nat.lt_trans b (A9.1 ho).1;refine vD m a n e.on k ops[e.on] A6 (A3 hlen) (fun e' h1 s=>m e.on _ (A3 hlen) (he e c f) e' h1 s) l
def yY{H0:Hp AB}:∀ (l:List Nat) (H:Hp AB),(∀ b ∈ l,b<=G9)->∀ id,id<=G9->Hp.get (yZ H0 H l) id=if id ∈ l then Hp.get H0 id else Hp.get H id
 | [],H,_,id,_=>by simp[yZ]
 | b::r,H,hl,id,hid=>by
   have c:=hl b B5;rw[yZ,cK,yY r _ (fun x e=>hl x (C5 _ e)) id hid,E9 _ _ _ _ c hid];by_cases h1:id ∈ r
   .rw[B2 h1,B2 (C5 _ h1)]
   .rw[B0 h1];by_cases a:id=b
    .subst a;rw[B2 rfl,B2 B5]
    .rw[B0 a,B0 (by simp[h1,a])]
def xU:∀ (l:List Nat) (H:Hp AB),(∀ b ∈ l,b<=G9)->∀ id,id<=G9->Hp.get (xV H l) id=if id ∈ l then none else Hp.get H id
 | [],H,_,id,_=>by simp[xV]
 | b::r,H,hl,id,hid=>by
   have c:=hl b B5;rw[xV,cK,xU r _ (fun x e=>hl x (C5 _ e)) id hid,E9 _ _ _ _ c hid];by_cases h1:id ∈ r
   .rw[B2 h1,B2 (C5 _ h1)]
   .rw[B0 h1];by_cases a:id=b
    .subst a;rw[B2 rfl,B2 B5]
    .rw[B0 a,B0 (by simp[h1,a])]
def iQ:∀ (n a b:Nat),b ∈ GU a n↔a<=b/\b<a+n
 | 0,a,b=>by simp[GU]
 | n+1,a,b=>by
   simp only[GU,A8,iQ n (a+1) b];omega
def DV{m m' m2:Mem}(h:iP m m'=some m2)(s:m.n<=m.hi)(f:m.hi<=m'.hi):m.n<=m2.n/\m.hi<=m2.hi/\m2.n<=m2.hi/\m2.W=m.W/\(m2.n=m'.hi∨(m2.n=m.n/\m'.hi<=m.n))/\m2.hi=m'.hi/\m2.lg=m'.lg /\
  ∀ id,id<=G9->Hp.get m2.H id=if m.n<=id/\id<m2.n then Hp.get m'.H id else Hp.get m.H id:=by
 unfold iP at h;cases a:Nat.ble m'.hi m.n with
 | true =>
   have a:=A1 a;have c:Nat.ble m'.hi m.n=true:=C6 a;rw[c]at h;cases h;refine⟨A7 _,A7 _,s,rfl,.inr ⟨rfl,a⟩,by show m.hi=m'.hi;omega,rfl,fun id hid=>?_⟩;rw[B0 (by show ¬ (m.n<=id/\id<m.n);omega)]
 | false =>
   have k:m.n<m'.hi:=by
    rcases F5 m.n m'.hi with h1|h1
    .exact h1
    .rw[show Nat.ble m'.hi m.n=true from C6 h1]at a;cases a
   rw[a]at h;simp only[D4]at h;obtain⟨l,h⟩:=A2 h;have l:=A1 l;simp only[E6,bZ]at h;cases h;refine⟨Nat.le_of_lt k,f,A7 _,rfl,.inl rfl,rfl,rfl,fun id hid=>?_⟩;show Hp.get (yZ m'.H m.H (GU m.n (m'.hi-m.n))) id=_;rw[yY _ _ (fun b e=>by have:=(iQ _ _ _).1 e;omega) id hid];by_cases h1:m.n<=id/\id<m'.hi
   .rw[B2 ((iQ _ _ _).2 A6),B2 h1]
   .rw[B0 (fun h=>h1 (by have:=(iQ _ _ _).1 h;omega)),B0 h1]
def v6(D:Nat->Bool)(dst:Nat->Option Tmp)(V:Nat->Value)(f0:Tmp->Value)(t:Tmp):Nat->Value
 | 0=>f0 t
 | n+1=>if D n=true/\dst n=some t then V n else v6 D dst V f0 t n
def cU{D D':Nat->Bool}{dst:Nat->Option Tmp}{V:Nat->Value}{f0:Tmp->Value}{t:Tmp}:∀ (n:Nat),(∀ k,k<n->dst k=some t->D k=D' k)->v6 D dst V f0 t n=v6 D' dst V f0 t n
 | 0,_=>rfl
 | n+1,h=>by
   unfold v6;have b:=cU (V:=V) (f0:=f0) n fun k hk=>h k (Nat.lt_succ_of_lt hk)
   by_cases a:dst n=some t
   .rw[h n (H9 n) a,b]
   .rw[B0 (fun hh=>a hh.2),B0 (fun hh=>a hh.2),b]
def nW{D D':Nat->Bool}{dst:Nat->Option Tmp}{V:Nat->Value}{f0:Tmp->Value}{t:Tmp}{i:Nat}(c:∀ k,k≠i->D' k=D k)(hi:D' i=true):∀ (n:Nat),i<n->dst i=some t->(∀ k,i<k->k<n->dst k=some t->D k=false)->v6 D' dst V f0 t n=V i
 | 0,h,_,_=>by omega
 | n+1,h,hd,hl=>by
   unfold v6;by_cases e:n=i
   .subst e;rw[B2 ⟨hi,hd⟩]
   .have a:i<n:=A6;rw[B0 (fun hh=>by
     have h1:=hl n a (H9 n) hh.2;rw[c n e,h1]at hh;exact absurd hh.1 (by simp))]
    exact nW c hi n a hd fun k hk b=>hl k hk (Nat.lt_succ_of_lt b)
def lS{D D':Nat->Bool}{dst:Nat->Option Tmp}{V:Nat->Value}{f0:Tmp->Value}{t:Tmp}(b:∀ k,k≠i->D' k=D k)(a:dst i≠some t)(n:Nat):v6 D' dst V f0 t n=v6 D dst V f0 t n :=
 cU n fun k _ hk=>b k fun e=>a (e▸hk)
structure HRf (P:Program) (base:Nat) (ρ:Ren) (G:Nat->Option AB) (w:World):Prop where
 dom:∀ b l,ρ b=some l->b<=G9
 at_:∀ id,id<=G9->∀ ab,G id=some ab->∃ l,ρ id=some l/\BR P ρ ab l w/\(ab.rw=true->l.on=true->base<=l.blk/\∀ id2,id2<=G9->∀ ab2 l2,G id2=some ab2->ρ id2=some l2->Tc ab2 l2 l.blk->id2=id)
def HRf.hr{P:Program}{base:Nat}{ρ:Ren}{G:Nat->Option AB}{H:Hp AB}{w:World}(h:HRf P base ρ G w)(n:∀ id,id<=G9->∀ ab,Hp.get H id=some ab->G id=some ab):HR P base ρ H w :=
 ⟨h.dom,fun id hid ab m=>let ⟨l,a,b,c⟩:=h.at_ id hid ab (n id hid ab m);⟨l,a,b,fun hr s=>⟨(c hr s).1,fun k e f l2 g=>(c hr s).2 k e f l2 (n k e f g)⟩⟩⟩
def HR.f{P:Program}{base:Nat}{ρ:Ren}{H:Hp AB}{w:World}(h:HR P base ρ H w){G:Nat->Option AB}(s:∀ id,id<=G9->∀ ab,G id=some ab->Hp.get H id=some ab):HRf P base ρ G w :=
 ⟨h.dom,fun id hid ab n=>let ⟨l,a,b,c⟩:=h.at_ id hid ab (s id hid ab n);⟨l,a,b,fun hr t=>⟨(c hr t).1,fun m e k l2 g=>(c hr t).2 m e k l2 (s m e k g)⟩⟩⟩
def Ff(ρ:Ren)(G:Nat->Option AB)(k:Nat):Prop:=∃ id ab l,id<=G9/\G id=some ab/\ρ id=some l/\Tf ab l k
end
end Go.Sx
