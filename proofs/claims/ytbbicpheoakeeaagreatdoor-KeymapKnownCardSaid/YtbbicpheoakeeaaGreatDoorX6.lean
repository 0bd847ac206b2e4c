import Derived.Test.YtbbicpheoakeeaaGreatDoorX5
set_option linter.all false
set_option maxRecDepth 100000
set_option maxHeartbeats 4000000
namespace Go.Sx
variable {ds:List Deferred}{d:Option Tmp}{o p:Oper}{lg':Lg}{i j:Nat}{q:List Bool}{r:Option (Ex×S)}{g:Value}{x:Operand}{me:FuncId}{ps:Array Tmp}{as bd:Code}
section
open Go
variable [Ora]
section
variable {P:Program} {base gl nt:Nat}
def GR(gl:Nat)(ρ:Ren):Prop:=∀ g,g<gl->ρ g=some (lc g 0 0)
def GR.mono{ρ a:Ren}(h:GR gl ρ)(he:∀ b l,ρ b=some l->a b=some l):GR gl a:=fun g c=>he _ _ (h g c)
structure At (P:Program) (base gl:Nat) (ρ:Ren) (m:Mem) (hi:Nat) (w:World):Prop where
 hr:HR P base ρ m.H w
 bs:base<=w.heap.size
 fr:J2 ρ m.n hi
 gr:GR gl ρ
 nh:m.n<=m.hi
 wb:∀ b ∈ m.W,∀ l,ρ b=some l->l.on=true->base<=l.blk
 gf:∀ k o,Ora.G k=some o->k<base/\w.heap[k]? = some o
def At.wbs{ρ e:Ren}{m m':Mem}{hi:Nat}{w w':World}(h:At P base gl ρ m hi w)(st:St P base ρ e m m' w w'):∀ b ∈ m'.W,∀ l,ρ b=some l->l.on=true->base<=l.blk:=fun b k l c a=>by
 by_cases hm:b ∈ m.W
 .exact h.wb b hm l c a
 .obtain⟨ab,h1,f⟩:=st.wrw b k hm l c;exact((h.hr.atl c h1).2 f a).1
def At.below{ρ c:Ren}{m m':Mem}{hi:Nat}{w w':World}(h:At P base gl ρ m hi w)(st:St P base ρ c m m' w w'){k:Nat}(f:k<base):w'.heap[k]? = w.heap[k]? :=
 st.keep k (D1 f h.bs) fun b n l s a e=>by have:=h.wbs st b n l s a;omega
def At.step{ρ a:Ren}{m m':Mem}{hi:Nat}{w w':World}(h:At P base gl ρ m hi w)(st:St P base ρ a m m' w w'):At P base gl a m' hi w' :=
 ⟨st.hr,B9 h.bs st.size,fun b h1 e=>by
  cases n:a b with
  | none=>rfl
  | some l =>
    cases h0:ρ b with
    | some l0=>rw[h.fr b (B9 st.nle h1) e]at h0;cases h0
    | none=>have:=(st.new b l n h0).2;omega,h.gr.mono st.ext,st.nhi h.nh,fun b n l t c=>by
  cases h0:ρ b with
  | some l0 =>
    have:=st.ext b l0 h0;rw[t]at this
    have:=A7 this;subst this;exact h.wbs st b n l h0 c
  | none =>
    rcases st.blk b l t h0 c with h1|⟨u,h1,l0,e,f,h3⟩
    .have:=h.bs;omega
    .rw[<- h3];exact h.wbs st u h1 l0 e f,fun k o s=>⟨(h.gf k o s).1,(h.below st (h.gf k o s).1).trans (h.gf k o s).2⟩⟩
def At.less{ρ:Ren}{m:Mem}{hi hi':Nat}{w:World}(h:At P base gl ρ m hi w)(c:hi'<=hi):At P base gl ρ m hi' w:=⟨h.hr,h.bs,fun b h1 a=>h.fr b h1 (D1 a c),h.gr,h.nh,h.wb,h.gf⟩
def At.wLg{ρ:Ren}{m:Mem}{hi:Nat}{w:World}(h:At P base gl ρ m hi w)(lg:Lg):At P base gl ρ (m.wLg lg) hi w:=by
 cases m;exact⟨h.hr,h.bs,h.fr,h.gr,h.nh,h.wb,h.gf⟩
def A0L(P:Program)(base:Nat)(ρ:Ren)(m m':Mem)(w:World)(v:Value):Ending->World->Prop:=fun e w'=>∃ v' a,e=.returned v'/\VR a v v'/\St P base ρ a m m' w w'
structure kU (P:Program) (base gl:Nat) (f:FuncId) (c:FnC):Prop where
 lg:∀ (vs:List Value) (m m':Mem) (v:Value),c.run vs m=some (v,m')->m.lg.le m'.lg
 ok:∀ (ρ:Ren) (m m':Mem) (w:World) (vs vs':List Value) (v:Value),c.run vs m=some (v,m')->Sat m'.lg->At P base gl ρ m m'.hi w->LR ρ vs vs' ->
  ((callFunc f ⟨vs'⟩).run P w=.ok (.enter f ⟨vs'⟩) w/\Calls P f ⟨vs'⟩ w (A0L P base ρ m m' w v)) ∨
  (∃ v' ρ' w',(callFunc f ⟨vs'⟩).run P w=.ok (.value v') w'/\VR ρ' v v'/\St P base ρ ρ' m m' w w')
structure Zn where
 rd:Option Nat
 D:List Deferred
def A6E(l:Loc):Deferred:={ target:=.collected l.blk,args:=#[] }
def DfR(ρ:Ren)(ids:List Nat)(ds:List Deferred):Prop:=ids.length=ds.length/\∀ (i:Nat) (id:Nat) (d:Deferred),ids[i]? = some id->ds[i]? = some d->∃ l,ρ id=some l/\d=A6E l
def DfR.mono{ρ f:Ren}{ids:G5}(h:DfR ρ ids ds)(he:∀ b l,ρ b=some l->f b=some l):DfR f ids ds:=⟨h.1,fun i id d a b=>let ⟨l,c,e⟩:=h.2 i id d a b;⟨l,he _ _ c,e⟩⟩
def DfR.nil{ρ:Ren}:DfR ρ [] []:=⟨rfl,fun i id d h=>by simp at h⟩
structure FrR (z:Zn) (ρ:Ren) (nt:Nat) (fr:Fr) (a:Act):Prop where
 size:a.tmps.size=nt
 le:nt<=512
 df:∃ ds,a.defers=ds++z.D/\DfR ρ (dvG nt fr) ds
 rd:nt<=510->(lQ (fr.get 511)=true->z.rd=none)/\∀ b,cW (fr.get 511)=some b->∃ l,ρ b=some l/\z.rd=some l.blk
 get:∀ t,t<nt->VR ρ (fr.get t) (a.tmps.getD t undef)
variable {z:Zn}
def FrR.mono{ρ f:Ren}{fr:Fr}{a:Act}(h:FrR z ρ nt fr a)(he:∀ b l,ρ b=some l->f b=some l):FrR z f nt fr a :=
 ⟨h.size,h.le,let ⟨ds,a,b⟩:=h.df;⟨ds,a,b.mono he⟩,fun k=>⟨(h.rd k).1,fun b n=>let ⟨l,c,e⟩:=(h.rd k).2 b n;⟨l,he _ _ c,e⟩⟩,fun t m=>(h.get t m).mono he⟩
def FrR.put{ρ:Ren}{fr:Fr}{a:Act}{d:Nat}{v v':Value}(h:FrR z ρ nt fr a)(l:d<nt)(hv:VR ρ v v'):FrR z ρ nt (fr.set d v) (a.put (some d) v'):=by
 have hle:=h.le;have b:∀ t,t<512->t≠d->(fr.set d v).get t=fr.get t:=fun t h1 m=>by rw[K9 _ _ _ _ A2 h1,A8 m]
 refine⟨by simp[Act.put,h.size],h.le,?_,fun n=>?_,fun t k=>?_⟩
 .obtain⟨ds,s,c⟩:=h.df;refine⟨ds,s,?_⟩;unfold dvG at c ⊢;cases f:Nat.ble nt 510 with
  | true =>
    have:=A1 f;rw[f]at c;rw[b 510 F7 A2];exact c
  | false=>rw[f]at c;exact c
 .rw[b 511 F7 A2];exact h.rd n
 .rw[K9 _ _ _ _ (D1 l h.le) (D1 k h.le)];simp only[Act.put,B5,F3];by_cases e:t=d
  .subst e;rw[A9 rfl,A9 rfl,A9 (by rw[h.size];exact l)];exact hv
  .rw[A8 e,A8 (fun h=>e h.symm)]
   have:=h.get t k
   simpa [B5]using this
def ZR(z:Zn)(ρ:Ren)(nt:Nat)(fr:Fr)(a:List Deferred):Prop:=(∃ ds,a=ds++z.D/\DfR ρ (dvG nt fr) ds)/\(nt<=510->(lQ (fr.get 511)=true->z.rd=none)/\∀ b,cW (fr.get 511)=some b->∃ l,ρ b=some l/\z.rd=some l.blk)
def FrR.zr{ρ:Ren}{fr:Fr}{a:Act}(h:FrR z ρ nt fr a):ZR z ρ nt fr a.defers:=⟨h.df,h.rd⟩
def ZR.congr{ρ f:Ren}{fr a:Fr}(h:ZR z ρ nt fr ds)(he:∀ b l,ρ b=some l->f b=some l)(n:nt<=510->a.get 510=fr.get 510/\a.get 511=fr.get 511):ZR z f nt a ds:=by
 obtain⟨⟨m,h1,s⟩,h3⟩:=h;refine⟨⟨m,h1,?_⟩,fun k=>?_⟩
 .have:dvG nt a=dvG nt fr:=by
   unfold dvG;cases t:Nat.ble nt 510 with
   | true=>rw[(n (A1 t)).1]
   | false=>rfl
  rw[this];exact s.mono he
 .rw[(n k).2];exact⟨(h3 k).1,fun b u=>let ⟨l,c,e⟩:=(h3 k).2 b u;⟨l,he _ _ c,e⟩⟩
def dG(a:Act)(d:Option Tmp)(v:Value):(a.put d v).defers=a.defers:=by cases d<;>rfl
def FrR.ev{ρ:Ren}{fr:Fr}{a:Act}(h:FrR z ρ nt fr a)(c:GR gl ρ){x:Operand}(hx:okX nt gl x=true):VR ρ (ev fr x) (a.eval x):=by
 cases x with
 | tmp t=>exact h.get t (A1 hx)
 | const v=>exact VR.ofC hx
 | global g =>
   have:=VR.ptr (o:=0) (c g (A1 hx));exact this
 | func f=>exact .func (a:=[]) (b:=[]) (a':=[]) (b':=[]) rfl rfl (fun i v v' h=>by simp at h) (fun i v v' h=>by simp at h)
def FrR.ops{ρ:Ren}{fr:Fr}{a:Act}(h:FrR z ρ nt fr a)(c:GR gl ρ){o:Op}(b:KM nt gl o=true):FR ρ fr a.eval o:=fun x hx=>h.ev c (D2.1 b x hx)
def xB{o:Op}{c:Callee}{xs:Array Operand}{tys:Array TypeId}(h:o=.call ⟨c,xs,tys⟩):∀ x ∈ xs.toList,x ∈ o.operands.toList:=fun x hx=>by
 subst h;show x ∈ ((match c with|.value f=>#[f]|.invoke r _=>#[r]|.builtin _=>#[])++xs:Array Operand).toList;simp;exact .inr (by simpa using hx)
structure A5V (P:Program) (base gl:Nat) (c:FnC):Prop where
 lg:∀ (vs:List Value) (m m':Mem) (v:Value),c.run vs m=some (v,m')->m.lg.le m'.lg
 ok:∀ (ρ:Ren) (m m':Mem) (w:World) (b:Nat) (args args':List Value) (v:Value) (l:Loc),c.run (yv b::args) m=some (v,m')->Sat m'.lg->At P base gl ρ m m'.hi w->LR ρ args args'->ρ b=some l ->
  ∃ f tmps assign body,(Instr.yield l.blk ⟨args'⟩).run P w=.ok (.round l.blk f tmps assign body) w/\RoundIn Fence.wide 0 P l.blk f tmps assign body w (A0L P base ρ m m' w v)
structure U3 (P:Program) (base gl:Nat) (call:O0):Prop where
 fn:∀ f,kU P base gl f (call.fn f)
 yl:A5V P base gl call.yl
def yP{v:Value}{b:Nat}(h:cW v=some b):v=yv b:=by
 unfold cW at h;split at h
 .cases h;rfl
 .cases h
def oA{ρ:Ren}{m m':Mem}{w:World}{call:O0}{fr:Fr}{a:Act}{v:Value}{K:Act->World->Prop}{Q:Exit->Act->World->Prop}(n:U3 P base gl call)(k:(V1 P call o).run fr m=some (v,m'))(H:Sat m'.lg)
  (h:At P base gl ρ m m'.hi w) (C:FR ρ fr a.eval o.op) (G:∀ v' s w',VR s v v'->St P base ρ s m m' w w'->K (a.put o.dst v') w'):wpO P z.rd o a w K Q:=by
 have F:∀ (f:FuncId) (vs B:List Value),(∀ c,o.op≠.defer c)->(call.fn f).run vs m=some (v,m')->LR ρ vs B->(execOp a.eval o).run P w=(callFunc f ⟨B⟩).run P w->wpO P z.rd o a w K Q:=fun f vs B J hr hv he=>by
  refine⟨fun _ _=>trivial,?_⟩;rw[Oper.semAt_eq _ _ _ J,he];rcases(n.fn f).ok ρ m m' w vs B v hr H h hv with⟨h1,A⟩|⟨v',s,w',h1,A,h3⟩
  .rw[h1,Oper.uponIn_enter];refine⟨pO,nG.2 (A.mono fun e w' ⟨v',s,he,hv,M⟩=>?_)⟩;subst he;exact G v' s w' hv M
  .rw[h1,Oper.uponIn_value];exact G v' s w' A h3
 have u:∀ (J:∀ c,o.op≠.defer c),NOk P base ρ m w (execOp a.eval o) v m'->wpO P z.rd o a w K Q:=fun J O=>by
  obtain⟨v',s,w',h1,A,h3⟩:=O;refine⟨fun _ _=>trivial,?_⟩;rw[Oper.semAt_eq _ _ _ J];rcases h1 with h1|⟨h1,rfl⟩
  .rw[h1,Oper.uponIn_value];exact G v' s w' A h3
  .rw[h1,Oper.uponIn_skip];exact G undef s w' A h3
 obtain⟨dst,op,ty,pos,W,Y⟩:=o;unfold V1 at k;simp only at k C;split at k
 .rename_i f xs tys;have l1:=bW (ρ:=ρ) (fr:=fr) (g:=a.eval) (xs:=xs.toList) fun x hx=>C x (xB rfl x hx)
  have k:(call.fn f).run ((sU xs.toList).run fr) m=some (v,m'):=k;rw[lX]at k;refine F f _ _ (fun c n=>by cases n) k l1 ?_;have I:xs.map a.eval=⟨xs.toList.map a.eval⟩:=by apply I2;simp
  simp only[execOp,resolve,Act.eval,Deferred.ofValue,pure_bind,invoke,I];simp
 .rename_i x xs tys N;have l1:=bW (ρ:=ρ) (fr:=fr) (g:=a.eval) (xs:=xs.toList) fun y L=>C y (xB rfl y L)
  have hx:VR ρ (ev fr x) (a.eval x):=C x (by show x ∈ (#[x]++xs:Array Operand).toList;simp);have k:GH call m ((R0 x).run fr) ((sU xs.toList).run fr)=some (v,m'):=k;rw[lX,cV]at k;have I:xs.map a.eval=⟨xs.toList.map a.eval⟩:=by apply I2;simp
  unfold GH at k;split at k
  .rename_i f vs t;unfold uE at t;split at t
   .rename_i f0 p q E;cases t;rw[E]at hx;generalize D:a.eval x=gx at hx;cases hx with
    | pure hp=>simp[H9]at hp
    | func R X h1 A =>
      rename_i p q Z V;have lp:LR ρ p Z:=⟨R,h1⟩;have T:LR ρ q V:=⟨X,A⟩;refine F f _ _ (fun c n=>by cases n) k (lp.append (l1.append T)) ?_;simp only[execOp,resolve,D,Deferred.ofValue,pure_bind,invoke,I];simp
   .cases t
  .split at k
   .rename_i b L;have E:=yP L;rw[E]at hx k;obtain⟨l,U,D⟩:=XX hx;obtain⟨f,tmps,as,bd,h1,A⟩:=n.yl.ok ρ m m' w b _ _ v l k H h l1 U;refine⟨fun _ _=>trivial,?_⟩;have he:(execOp a.eval ⟨dst,.call ⟨.value x,xs,tys⟩,ty,pos,W,Y⟩).run P w=(Instr.yield l.blk ⟨xs.toList.map a.eval⟩).run P w:=by
     simp only[execOp,resolve,D,Deferred.ofValue,pure_bind,invoke,I];simp
    rw[Oper.semAt_eq _ _ _ (fun c n=>by cases n),he,h1,Oper.uponIn_round];refine⟨pO,?_⟩;have A:RoundIn (fw z.rd) 0 P l.blk f tmps as bd w (A0L P base ρ m m' w v):=A;refine A.mono fun e w' ⟨v',s,he,hv,M⟩=>?_
    subst he;exact G v' s w' hv M
   .cases k
 .have k:WY P (wZ P _) _ fr m=some (v,m'):=k;unfold WY at k;rw[wY]at k;split at k
  .rename_i r hr;cases k;exact u (fun c n=>by have n:op=.defer c:=n;subst n;cases hr) (A4Y h.hr h.bs hr h.fr C)
  .split at k
   .rename_i r hr;cases k;exact u (fun c n=>by have n:op=.defer c:=n;subst n;cases hr) (A0d h.hr hr C H)
   .split at k
    .rename_i r hr;cases k;exact u (fun c n=>by have n:op=.defer c:=n;subst n;cases hr) (A5I h.hr h.bs hr h.fr C H)
    .exact u (fun c n=>by have n:op=.defer c:=n;subst n;cases k) (A31 h.hr h.bs k h.fr C H)
def o7{m m':Mem}{call:O0}{fr:Fr}{v:Value}(b:U3 P base gl call)(a:(V1 P call o).run fr m=some (v,m')):m.lg.le m'.lg:=by
 unfold V1 at a;split at a
 .exact(b.fn _).lg _ _ _ _ a
 .have a:GH call m _ _=some (v,m'):=a;unfold GH at a;split at a
  .exact(b.fn _).lg _ _ _ _ a
  .split at a
   .exact b.yl.lg _ _ _ _ a
   .cases a
 .have a:WY P (wZ P _) _ fr m=some (v,m'):=a;unfold WY at a;rw[wY]at a;split at a
  .rename_i r hr;cases a;show m.lg.le _;rw[A4Z hr];exact .refl _
  .split at a
   .rename_i r hr;cases a;exact(MP hr).1
   .split at a
    .rename_i r hr;cases a;exact A5J hr
    .exact A32 a
def SJ{lg:Lg}{v:Value}{b c:Bool}(h:DZ lg v b=some (c,lg')):lg.le lg':=by
 unfold DZ at h;split at h
 .cases h;exact .refl _
 .split at h
  .rename_i a;cases h;exact dT a
  .cases h
 .obtain⟨_,h⟩:=A3 h;cases h;exact .refl _
def fA{lg:Lg}{fr:Fr}{all:List Oper}{b:Bool}(h:v6 nt fr lg all o=some (b,lg')):lg.le lg':=by
 unfold v6 at h;split at h
 .cases h;exact .refl _
 .split at h
  .split at h
   .obtain⟨_,h⟩:=A3 h;exact SJ h
   .cases h
  .cases h
def nP{ρ:Ren}{lg:Lg}{v v':Value}{b c:Bool}(h:DZ lg v b=some (c,lg'))(hv:VR ρ v v')(m:Sat lg'):(v'=.bool (c == b)∨(c=false/\v'=.tuple ⟨[]⟩)):=by
 unfold DZ at h;split at h
 .rename_i d;cases h;left;rw[bG hv];cases d<;>cases b<;>rfl
 .split at h
  .rename_i d l k;cases h;left
   rw[kN k hv m];cases d<;>cases b<;>rfl
  .cases h
 .rename_i u _ _;obtain⟨h3,a⟩:=A3 h;cases a;right
  have hu:v=.tuple ⟨[]⟩:=by
   unfold lQ at h3;split at h3
   .rfl
   .cases h3
  rw[hu]at hv;obtain⟨cs',e,f⟩:=qX hv;cases f.nil_inv;exact⟨rfl,e⟩
def kY{all:Array Oper}{tmps:U8}{want b:Bool}{t:Tmp}(l:o.guard=some (j,want))(hp:all.toList[j]? = some p)(k:p.dst=some t)(c:t<tmps.size)
  (hv:tmps.getD t undef=.bool (b == want)∨(b=false/\tmps.getD t undef=.tuple ⟨[]⟩)):Region.wanted o (yielded all tmps)=b:=by
 have a:tmps[t]? = some (tmps.getD t undef):=by simp[B5,c]
 have f:(all[j]?).bind (·.dst)=some t:=by
  have:all[j]? = some p:=by simpa using hp
  simp[this,k]
 unfold Region.wanted;simp only[l];rcases hv with e|⟨rfl,e⟩
 .have:yielded all tmps j=some (b == want):=by simp[yielded,f,a,e]
  rw[this];cases b<;>cases want<;>rfl
 .have:yielded all tmps j=none:=by simp[yielded,f,a,e]
  rw[this];rfl
def EA{ρ:Ren}{lg:Lg}{all:Array Oper}{fr:Fr}{a:Act}{b:Bool}(h:FrR z ρ nt fr a)(hw:v6 nt fr lg all.toList o=some (b,lg'))(k:Sat lg'):Region.wanted o (yielded all a.tmps)=b:=by
 unfold v6 at hw;split at hw
 .rename_i c;cases hw;simp[Region.wanted,c]
 .rename_i j want c;split at hw
  .rename_i p hp;split at hw
   .rename_i t f;obtain⟨h1,e⟩:=A3 hw;have h1:t<nt:=A1 h1;exact kY c hp f (by rw[h.size];exact h1) (nP e (h.get t h1) k)
   .cases hw
  .cases hw
def uW{β:Type}(t:Nat)(v:Value)(fr:Fr)(k:Fr->β):tG (sel (t / 64%8)) (sel (t / 8%8)) (sel (t%8)) v fr k=k (fr.set t v):=BQ t v fr k
def tJ(d:Option Tmp)(v:Value)(fr:Fr):Fr:=match d with|some t=>fr.set t v|none=>fr
def bL(d:Option Tmp)(v:Value)(fr:Fr)(k:Fr->Option S):(tK d).run v fr k=k (tJ d v fr):=by
 cases d with
 | none=>rfl
 | some t=>exact uW t v fr k
def FrR.dst{ρ:Ren}{fr:Fr}{a:Act}{v v':Value}(h:FrR z ρ nt fr a)(b:wV nt d=true)(hv:VR ρ v v'):FrR z ρ nt (tJ d v fr) (a.put d v'):=by
 cases d with
 | none=>exact h
 | some t=>exact h.put (A1 b) hv
def j9{c:OpC}{next:A0K}{s b:S}(h:jG c (tK d) next s=some b):∃ v m',c.run s.fr s.m=some (v,m')/\s.m.hi<=m'.hi/\next.run ⟨tJ d v s.fr,m'⟩=some b:=by
 unfold jG at h;obtain⟨fr,m⟩:=s;simp only at h;split at h
 .rename_i v m' hr;obtain⟨h1,a⟩:=A3 h;rw[bL]at a;exact⟨v,m',hr,A1 h1,a⟩
 .cases h
def qN{call:O0}{all:List Oper}:∀ (r:List Oper) (s a:S),(T8 P nt gl call all r).run s=some a->s.m.hi<=a.m.hi
 | [],s,a,h=>by
   have h:some s=some a:=h;cases h;exact A6 _
 | o::r,s,a,h=>by
   unfold T8 at h;cases c:wV nt o.dst && KM nt gl o.op with
   | false=>rw[c]at h;cases h
   | true =>
     rw[c]at h;simp only[D8]at h;split at h
     .obtain⟨v,m',_,h1,b⟩:=j9 h;exact B9 h1 (qN r _ _ b)
     .have h:dE nt all o (V1 P call o) (tK o.dst) (T8 P nt gl call all r) s=some a:=h;unfold dE at h;obtain⟨fr,⟨H,n,W,hi,lg⟩⟩:=s;simp only at h;split at h
      .obtain⟨v,m',_,h1,b⟩:=j9 h;exact B9 h1 (qN r _ _ b)
      .rename_i lg' _;rw[bL]at h;exact qN r ⟨tJ o.dst undef fr,⟨H,n,W,hi,lg'⟩⟩ a h
      .cases h
def jN{call:O0}(b:U3 P base gl call){all:List Oper}:∀ (r:List Oper) (s a:S),(T8 P nt gl call all r).run s=some a->s.m.lg.le a.m.lg
 | [],s,a,h=>by
   have h:some s=some a:=h;cases h;exact .refl _
 | o::r,s,a,h=>by
   unfold T8 at h;cases e:wV nt o.dst && KM nt gl o.op with
   | false=>rw[e]at h;cases h
   | true =>
     rw[e]at h;simp only[D8]at h;split at h
     .obtain⟨v,m',h0,h1,c⟩:=j9 h;exact(o7 b h0).trans (jN b r _ _ c)
     .have h:dE nt all o (V1 P call o) (tK o.dst) (T8 P nt gl call all r) s=some a:=h;unfold dE at h;obtain⟨fr,⟨H,n,W,hi,lg⟩⟩:=s;simp only at h;split at h
      .rename_i lg' hw;obtain⟨v,m',h0,h1,c⟩:=j9 h;exact(fA hw).trans ((o7 b h0).trans (jN b r _ _ c))
      .rename_i lg' hw;rw[bL]at h;exact(fA hw).trans (jN b r ⟨tJ o.dst undef fr,⟨H,n,W,hi,lg'⟩⟩ a h)
      .cases h
def CB{call:O0}{all:Array Oper}{Q:Exit->Act->World->Prop}(u:U3 P base gl call):∀ (r:List Oper) (ρ:Ren) (s c:S) (a:Act) (w:World),(T8 P nt gl call all.toList r).run s=some c->Sat c.m.lg->At P base gl ρ s.m c.m.hi w->FrR z ρ nt s.fr a ->
  (∀ e a' w',FrR z e nt c.fr a'->St P base ρ e s.m c.m w w'->Q .normal a' w')->wpL P z.rd all Q r a w
 | [],ρ,s,c,a,w,h,hS,b,l,t=>by
   have h:some s=some c:=h;cases h;exact t ρ a w l (.refl b.hr)
 | o::r,ρ,s,c,a,w,h,hS,b,l,t=>by
   unfold T8 at h;cases C:wV nt o.dst && KM nt gl o.op with
   | false=>rw[C]at h;cases h
   | true =>
     rw[C]at h;simp only[D8]at h;obtain⟨A,B⟩:=B3 C;have plain:∀ (s:S),At P base gl ρ s.m c.m.hi w->FrR z ρ nt s.fr a->(∀ e a' w',FrR z e nt c.fr a'->St P base ρ e s.m c.m w w'->Q .normal a' w') ->
       jG (V1 P call o) (tK o.dst) (T8 P nt gl call all.toList r) s=some c->Region.wanted o (yielded all a.tmps)=true->wpL P z.rd all Q (o::r) a w:=fun s b l t hr hw=>by
      obtain⟨v,m',h1,E,h3⟩:=j9 hr;have hh:=qN r _ _ h3;have f:Sat m'.lg:=Q8.le hS (jN u r _ _ h3);refine DY fun K D=>?_
      rw[A9 hw];refine oA u h1 f (b.less hh) (l.ops b.gr B) fun v' e w' hv st=>D _ _ ?_
      refine CB u r e _ c _ _ h3 hS (b.step st) ((l.mono st.ext).dst A hv) fun ρ2 a2 w2 f2 k=>t ρ2 a2 w2 f2 (St.trans b.fr st k)
     split at h
     .rename_i F;exact plain s b l t h (by simp[Region.wanted,F])
     .have h:dE nt all.toList o (V1 P call o) (tK o.dst) (T8 P nt gl call all.toList r) s=some c:=h;unfold dE at h;obtain⟨fr,m⟩:=s;obtain⟨H,n,W,hi,lg⟩:=m;simp only at h;split at h
      .rename_i lg' hw;have y:St P base ρ ρ ⟨H,n,W,hi,lg⟩ ⟨H,n,W,hi,lg'⟩ w w:=St.wLg (m:=⟨H,n,W,hi,lg⟩) b.hr lg';obtain⟨v,m',h0,h1,E⟩:=j9 h;have f:Sat lg':=Q8.le hS ((o7 u h0).trans (jN u r _ _ E));exact plain ⟨fr,⟨H,n,W,hi,lg'⟩⟩ (b.wLg lg') l (fun ρ2 a2 w2 f2 k=>t ρ2 a2 w2 f2 (St.trans b.fr y k)) h (EA l hw f)
      .rename_i lg' hw;have y:St P base ρ ρ ⟨H,n,W,hi,lg⟩ ⟨H,n,W,hi,lg'⟩ w w:=St.wLg (m:=⟨H,n,W,hi,lg⟩) b.hr lg';rw[bL]at h;have f:Sat lg':=Q8.le hS (jN u r ⟨tJ o.dst undef fr,⟨H,n,W,hi,lg'⟩⟩ c h);refine DY fun K D=>?_
       rw[A8 (by rw[EA l hw f];simp)];exact D _ _ (CB u r ρ ⟨tJ o.dst undef fr,⟨H,n,W,hi,lg'⟩⟩ c _ _ h hS (b.wLg lg') (l.dst A (nR ρ)) fun ρ2 a2 w2 f2 k=>t ρ2 a2 w2 f2 (St.trans b.fr y k))
      .cases h
def Ex.out:Ex->Exit
 | .normal=>.normal
 | .exit id=>.exit id
 | .ret=>.ret
def A1X{ops:List Oper}{z:Zn}{ρ:Ren}{s:S}{a:Act}{w:World}(hm:jT P nt gl s.fr s.m.H ops=true)(hr:HR P base ρ s.m.H w)(L:GR gl ρ)(Z:FrR z ρ nt s.fr a):JB P ops (a,w):=by
 obtain⟨h1,h2⟩:=B3 hm;have key:∀ o ∈ ops,∀ t x,kP o.op=some (t,x)->∃ b l cs T,ev s.fr x=.pointer (some b)/\ρ b.block=some l/\a.eval x=.pointer (some ⟨l.blk,b.off+l.sh,none⟩)/\Hp.get s.m.H b.block=some (.cells cs T false)/\b.block<=G9/\l.on=true/\yN P w t (a.eval x):=fun o G t x hx=>by
  have hp:=D2.1 h1 o G;unfold VM at hp;rw[hx]at hp;simp only at hp;cases A:okX nt gl x with
  | false=>rw[A]at hp;cases hp
  | true =>
    rw[A]at hp;simp only[P1,D4]at hp;split at hp
    .rename_i b g sz v B e3;split at hp
     .rename_i cs T R f;obtain⟨N,hp⟩:=B3 hp;obtain⟨D,F⟩:=B3 hp;have N:=A1 N;have D:b.off<cs.length:=A1 D;have F:=A1 F;have hv:=Z.ev L A;rw[v]at hv;obtain⟨l,l1,_,O⟩:=N5 hv;obtain⟨⟨I,C,fz,Y,c1,c2,_⟩,_⟩:=hr.atl l1 f;have n:∀ k,k<cs.length->l.sh+k<C.size:=fun k A=>by
       obtain⟨v',E,_⟩:=c2 k cs[k] (A5 A);exact(C6.1 E).1
      refine⟨b,l,cs,T,v,l1,O,f,F,I,l.blk,b.off+l.sh,C,Y,fz,sz,g,O,c1,e3,B,?_,?_⟩
      .have:=n b.off D;by_cases h0:sz=0
       .omega
       .have:=n (b.off+sz-1) A2;omega
      .have:=n b.off D;omega
     .cases hp
    .cases hp
 refine⟨fun o G t x hx=>by obtain⟨_,_,_,_,_,_,_,_,_,_,h⟩:=key o G t x hx;exact h,fun i j o p J hi M he K t x u y hx Q U az v B=>?_⟩;obtain⟨b,l,cs,T,k1,k2,k3,k4,k5,k6,_⟩:=key o (C7 hi) t x hx;obtain⟨bd,r,ds,V,n1,n2,W,X,n5,n6,_⟩:=key p (C7 M) u y Q;have c:=FI h2 J hi M he;unfold A0F at c;rw[K]at c;simp only[D8,hx,Q,k1,n1]at c;rw[k3]at v;rw[W]at B;cases v;cases B;show l.blk≠r.blk;intro e;obtain⟨_,hu⟩:=hr.atl k2 k4;obtain⟨_,hu⟩:=hu rfl k6
 have:=hu bd.block n5 _ r X n2 (.inl ⟨rfl,n6,e.symm⟩);rw[this,cN]at c;cases c
def At.drew{ρ:Ren}{m:Mem}{hi:Nat}{w:World}(a:At P base gl ρ m hi w)(d:Nat):At P base gl ρ m hi { w with drawn:=d } :=
 ⟨⟨fun b l h=>a.hr.dom b l h,fun id hid ab c=>by
  obtain⟨l,f,k,e⟩:=a.hr.at_ id hid ab c;exact⟨l,f,BR.mono (w:=w) (fun _ _ h=>h) (fun _ _=>rfl) k,e⟩⟩,a.bs,a.fr,a.gr,a.nh,a.wb,a.gf⟩
def St.undrew{ρ a:Ren}{m m':Mem}{w w':World}{d:Nat}(st:St P base ρ a m m' { w with drawn:=d } w'):St P base ρ a m m' w w' :=
 ⟨st.ext,st.new,st.nle,st.hle,st.nhi,st.hr,st.wsub,st.wrw,st.keep,st.size,st.os,st.blk,st.same,st.tch⟩
def KD{call:O0}{ops:Array Oper}{z:Zn}{id:Nat}(l:P.follows .mixedOrders=true)(A:U3 P base gl call){ρ:Ren}{s f:S}{a:Act}{w:World}{Q:Exit->Act->World->Prop}(hr:jH ops.toList=true)(hm:jT P nt gl s.fr s.m.H ops.toList=true)(h:(T8 P nt gl call ops.toList ops.toList).run s=some f)(E:Sat f.m.lg)(e:At P base gl ρ s.m f.m.hi w)(u:FrR z ρ nt s.fr a)
  (v:∀ c a' w',FrR z c nt f.fr a'->St P base ρ c s.m f.m w w'->Q .normal a' w'):(Code.region id ops true).wpIn (fw z.rd) 0 P Q a w:=by
 refine iX l (A0u hr (fun w' k=>?_) (fun d=>?_) _)
 .have n:=A1X hm e.hr e.gr u;refine⟨fun o D t x hx=>?_,n.ap⟩;obtain⟨b,o',C,T,fz,sz,g,B,F,y⟩:=n.pl o D t x hx;exact⟨b,o',C,T,fz,sz,g,B,by show w'.heap[b]? = _;rw[k];exact F,y⟩
 .exact CB A ops.toList ρ s f a { w with drawn:=d } h E (e.drew d) u fun c a' w' f1 st=>⟨rfl,v c a' w' f1 st.undrew⟩
def eO(P:Program)(base gl:Nat)(call:O0):Prop :=
 P.follows .mixedOrders=true/\∀ (nt:Nat) (ops:Array Oper),DI ops=true->∀ (s b:S),d8 P nt gl call ops.toList ops.toList 0 (X6 ops.toList []) [] [] s=some b->(s.m.hi<=b.m.hi/\s.m.lg.le b.m.lg) /\
  ∀ (z:Zn) (ρ:Ren) (a:Act) (w:World) (id:Nat) (Q:Exit->Act->World->Prop),Sat b.m.lg->At P base gl ρ s.m b.m.hi w->FrR z ρ nt s.fr a ->
   (∀ c a' w',FrR z c nt b.fr a'->St P base ρ c s.m b.m w w'->Q .normal a' w')->(Code.region id ops true).wpIn (fw z.rd) 0 P Q a w
def N3:∀ (q r:List Bool) (c:Code),H8 (q++r) c=(H8 q c).bind (H8 r)
 | [],r,c=>rfl
 | false::q,r,.seq a b=>N3 q r a
 | true::q,r,.seq a b=>N3 q r b
 | false::q,r,.cond _ a b=>N3 q r a
 | true::q,r,.cond _ a b=>N3 q r b
 | false::q,r,.block _ c=>N3 q r c
 | false::q,r,.loop c=>N3 q r c
 | false::q,r,.scope c=>N3 q r c
 | true::q,r,.scope c=>rfl
 | true::q,r,.block _ c=>rfl
 | true::q,r,.loop c=>rfl
 | b::q,r,.skip=>by cases b<;>rfl
 | b::q,r,.region _ _ _=>by cases b<;>rfl
 | false::q,r,.rangeFunc _ _ a _=>N3 q r a
 | true::q,r,.rangeFunc _ _ _ b=>N3 q r b
 | b::q,r,.exit _=>by cases b<;>rfl
 | b::q,r,.label _=>by cases b<;>rfl
 | b::q,r,.goto _=>by cases b<;>rfl
 | b::q,r,.ret=>by cases b<;>rfl
 | b::q,r,.refuse _=>by cases b<;>rfl
def H7{b:Bool}{body c d:Code}(h:H8 q body=some c)(a:H8 [b] c=some d):H8 (q++[b]) body=some d:=by
 rw[N3,h];exact a
structure X1 (P:Program) (base gl nt:Nat) (c:Code) (L:S->Option (Ex×S)):Prop where
 lg:∀ (s s':S) (e:Ex),L s=some (e,s')->s.m.hi<=s'.m.hi/\s.m.lg.le s'.m.lg
 ok:∀ (s s':S) (e:Ex),L s=some (e,s')->Sat s'.m.lg->∃ N,∀ (z:Zn) (ρ:Ren) (a:Act) (w:World) (Q:Exit->Act->World->Prop),At P base gl ρ s.m s'.m.hi w->FrR z ρ nt s.fr a ->
  (∀ ρ' a' w',FrR z ρ' nt s'.fr a'->St P base ρ ρ' s.m s'.m w w'->Q e.out a' w')->Code.roundsIn (fw z.rd) 0 P c Q N a w
def orL(a b:S->Option (Ex×S))(s:S):Option (Ex×S) :=
 match a s with
 | some r=>some r
 | none=>b s
def X1.or{nt:Nat}{c:Code}{a b:S->Option (Ex×S)}(k:X1 P base gl nt c a)(l:X1 P base gl nt c b):X1 P base gl nt c (orL a b):=by
 refine⟨fun s m e h=>?_,fun s m e h f=>?_⟩
 .unfold orL at h;split at h
  .rename_i r hr;cases h;exact k.lg _ _ _ hr
  .exact l.lg _ _ _ h
 .unfold orL at h;split at h
  .rename_i r hr;cases h;exact k.ok _ _ _ hr f
  .exact l.ok _ _ _ h f
def MF(P:Program)(base gl nt:Nat)(body:Code)(lp:LpT):Prop :=
 (∃ fn,P.funcs[lp.me]? = some fn/\fn.body=some body/\fn.ntmps=nt)/\∀ q x L,H8 q body=some (.loop x)->lp.look q=some L->X1 P base gl nt x L
def lK{m m':Mem}{ab:AB}{k:Nat->Value}{v:Value}(h:Y1 m ab k=some (v,m')):v=k m.n/\m.hi<=m'.hi/\m'.lg=m.lg:=by
 obtain⟨_,a,rfl⟩:=K6 h;exact⟨a,(J9 _ _).1,rfl⟩
def lE{m m':Mem}{id:Nat}{ab:AB}(h:bB m id ab=some m'):m'.hi=m.hi/\m'.lg=m.lg:=by
 obtain⟨_,rfl⟩:=T6 h;exact⟨rfl,rfl⟩
def sI{fr:Fr}{hi b:Nat}{r:Res}{e:Ex}{a:S}(h:oK fr hi b r=some (e,a)):∃ v m f q vs st m',r=some (v,m)/\Hp.get m.H b=some (.lp f q vs st)/\nEx st=some e/\hi<=m.hi/\bB m b (.lp f q vs 3)=some m'/\a=⟨fr,m'⟩:=by
 unfold oK at h;split at h
 .rename_i v m;split at h
  .rename_i f q vs st c;split at h
   .rename_i k he;obtain⟨h1,h⟩:=A3 h;split at h
    .rename_i m' hm;cases h;exact⟨_,_,_,_,_,_,_,rfl,c,he,A1 h1,hm,rfl⟩
    .cases h
   .cases h
  .cases h
 .cases h
def vG{call:O0}{f:FuncId}{fr:Fr}{m:Mem}{e:Ex}{t:S}(h:aU P nt call f q g fr m=some (e,t)) :
  ∃ m1 k a b,Y1 m (.lp f q (frL fr 0 nt) 0) yv=some (yv m.n,m1)/\g=.func (.func k) a b/\pJ P k=true/\oK fr m1.hi m.n ((call.fn k).run (a.toList++([yv m.n]++b.toList)) m1)=some (e,t):=by
 unfold aU at h;rw[H4]at h;split at h
 .rename_i v m1 l;have hv:=(lK l).1;subst hv;have u:cW (yv m.n)=some m.n:=rfl;split at h
  .rename_i k as b c s;rw[u]at s;cases s;obtain⟨h1,h⟩:=A3 h;unfold uE at c;split at c
   .cases c;exact⟨m1,_,_,_,l,rfl,h1,h⟩
   .cases c
  .cases h
 .cases h
def mU{call:O0}(t:U3 P base gl call){f:FuncId}{fr:Fr}{m:Mem}{e:Ex}{c:S}(h:aU P nt call f q g fr m=some (e,c)):m.hi<=c.m.hi/\m.lg.le c.m.lg:=by
 obtain⟨m1,k,a,b,h1,_,_,l⟩:=vG h;obtain⟨v,m2,f,q,vs,st,m3,u,_,_,y,n,rfl⟩:=sI l
 have:=(t.fn k).lg _ _ _ _ u;obtain⟨g1,g2⟩:=lE n;obtain⟨_,w,s⟩:=lK h1;refine⟨by show m.hi<=m3.hi;rw[g1];exact B9 w y,?_⟩;show m.lg.le m3.lg;rw[g2,<- s];exact this
def AV{call:O0}{f:FuncId}{x:XC}{s t:S}{e:Ex}(h:xE P nt call f q x s=some (e,t)):nt<=510 /\
  ((∃ k f0 u c,cW (s.fr.get 511)=some k/\Hp.get s.m.H k=some (.lp f0 u c 1)/\aU P nt call f q (x.run s.fr) s.fr s.m=some (e,t)) ∨
    (lQ (s.fr.get 511)=true/\∃ m1,Y1 s.m (.dfr true) (fun b=>.pointer (some ⟨b,0,none⟩))=some (.pointer (some ⟨s.m.n,0,none⟩),m1) /\
      aU P nt call f q (x.run s.fr) (s.fr.set 510 (dv (s.m.n::fS (s.fr.get 510)))) m1=some (e,t))):=by
 unfold xE at h;obtain⟨fr,m⟩:=s;obtain⟨h1,h⟩:=A3 h;refine⟨A1 h1,?_⟩;split at h
 .rename_i k A;split at h
  .rename_i f0 u c y;exact .inl ⟨k,f0,u,c,A,y,h⟩
  .cases h
 .obtain⟨w,h⟩:=A3 h;refine .inr ⟨w,?_⟩;split at h
  .rename_i a m1 v;have hv:=(lK v).1;cases hv;rw[H4]at h;have:tG (sel 7) (sel 7) (sel 6) (dv (m.n::fS (fr.get 510))) fr (fun l=>aU P nt call f q (x.run fr) l m1)=aU P nt call f q (x.run fr) (fr.set 510 (dv (m.n::fS (fr.get 510)))) m1:=uW 510 _ _ _;rw[this]at h;exact⟨m1,v,h⟩
  .cases h
def RX{call:O0}(b:U3 P base gl call){f:FuncId}{x:XC}{s a:S}{e:Ex}(h:xE P nt call f q x s=some (e,a)):s.m.hi<=a.m.hi/\s.m.lg.le a.m.lg:=by
 obtain⟨_,⟨_,_,_,_,_,_,h⟩|⟨_,m1,c,h⟩⟩:=AV h
 .exact mU b h
 .have:=mU b h;obtain⟨_,k,l⟩:=lK c;rw[l]at this;exact⟨B9 k this.1,this.2⟩
def OV(fr:Fr):∀ (n i j:Nat),(frL fr i n)[j]? = if j<n then some (fr.get (i+j))else none
 | 0,i,j=>by simp[frL]
 | n+1,i,0=>by simp[frL]
 | n+1,i,j+1=>by
   rw[frL,Q0,OV fr n (i+1) j];have:i+1+j=i+(j+1):=A2;rw[this];by_cases h:j<n
   .rw[A9 h,A9 A2]
   .rw[A8 h,A8 A2]
def CY(fr:Fr):∀ (n i:Nat),(frL fr i n).length=n
 | 0,i=>rfl
 | n+1,i=>by simp[frL,CY fr n]
def FrR.list{ρ:Ren}{fr:Fr}{a:Act}(h:FrR z ρ nt fr a):LR ρ (frL fr 0 nt) a.tmps.toList:=by
 refine⟨by rw[CY];simpa using h.size.symm,fun i v v' h1 b=>?_⟩;rw[OV]at h1;split at h1
 .rename_i hi;cases h1
  have:=h.get i hi;rw[E8];have h3:a.tmps.getD i undef=v':=by
   have:a.tmps[i]? = some v':=by simpa using b
   simp[B5,this]
  rw[h3]at this;exact this
 .cases h1
def LE{k:FuncId}(h:pJ P k=true):∃ fn c,P.funcs[k]? = some fn/\fn.body=some c:=by
 unfold pJ at h;split at h
 .rename_i fn b;split at h
  .rename_i c a;exact⟨fn,c,by simpa using b,a⟩
  .cases h
 .cases h
def mO{k:FuncId}{args:U8}{w w':World}{v:Value}(h:pJ P k=true):(callFunc k args).run P w≠.ok (.value v) w':=by
 obtain⟨fn,c,h1,b⟩:=LE h;by_cases a:fn.name = "runtime.NumGoroutine"
 .simp[callFunc,h1,a]
 .simp[callFunc,h1,a,b]
def gH{w:World}{l:Nat}{o:Obj}(h:l<w.heap.size):(w.putObj l o).heap.size=w.heap.size/\(w.putObj l o).heap[l]? = some o/\∀ k,k≠l->(w.putObj l o).heap[k]? = w.heap[k]? := ⟨by simp[World.putObj],World.putObj_heap_same h,fun k a=>World.putObj_heap_other a⟩
def vF{call:O0}(hc:U3 P base gl call){fn:Func}{body:Code}(f1:P.funcs[me]? = some fn)(f2:fn.body=some body)(f3:fn.ntmps=nt)(hq:H8 q body=some (.rangeFunc x ps as bd))
  {fr:Fr} {m:Mem} {e:Ex} {R:S} (h:aU P nt call me q g fr m=some (e,R)) (hS:Sat R.m.lg) {ρ:Ren} {a:Act} {w:World} {r:Loop} (u:At P base gl ρ m R.m.hi w) (hf:FrR z ρ nt fr a) (hg:VR ρ g (a.eval x))
  (hr:r.state=.ready/\r.pending=none/\r.tmps=a.tmps/\r.params=ps/\r.assign=as/\r.body=bd) {Q:Exit->Act->World->Prop}
  (hQ:∀ E w',FrR z E nt R.fr a->St P base ρ E m R.m w w'->Q e.out a w') :
  ∃ k args d,(resolve a.eval (rangeCall x w.heap.size) 0).run P (w.alloc (.loop r))=.ok d (w.alloc (.loop r))/\(invoke d.target d.args).run P (w.alloc (.loop r))=.ok (.enter k args) (w.alloc (.loop r)) /\
   CallsIn (fw z.rd) 0 P k args (w.alloc (.loop r)) (rangePost (fw z.rd) 0 P w.heap.size Q a):=by
 obtain⟨m1,k,A,B,h1,V,G,h2⟩:=vG h;obtain⟨v,m2,ff,qq,vs,st,m3,e1,e2,H,e4,Z,rfl⟩:=sI h2;obtain⟨g1,g2⟩:=lE Z;obtain⟨_,g3,g4⟩:=lK h1;have J:Sat m2.lg:=by have:Sat m3.lg:=hS;rwa[g2]at this
 have f:J2 ρ m.n m3.hi:=u.fr;have hle:m1.hi<=m3.hi:=by rw[g1];exact e4
 obtain⟨r1,r2,r3,r4,r5,r6⟩:=hr;subst r4;subst r5;subst r6;have t:(w.alloc (.loop r)).heap=w.heap.push (.loop r):=rfl;have D:ρ m.n=none:=f m.n (A6 _) (by
  obtain⟨_,_,q⟩:=K6 h1;have:m1.hi=upN m.hi m.n:=by rw[q]
  have h3:=(J9 m.hi m.n).2;omega)
 obtain⟨_,k1,C⟩:=St.alloc (w':=w.alloc (.loop r)) (o:=.loop r) (l:=lc w.heap.size 0 0) u.hr u.bs h1 (f.less hle) ⟨rfl,rfl,rfl⟩ t rfl (by
  refine⟨⟨rfl,rfl⟩,r,by simp[t],⟨fn,body,x,f1,f2,hq,by rw[CY,f3]⟩,?_,⟨r1,r2⟩⟩;rw[r3];exact hf.list.mono (V4 D))
 have s:=u.step C;obtain⟨A,rfl⟩:∃ l:C9,A=⟨l⟩:=⟨A.toList,rfl⟩;obtain⟨B,rfl⟩:∃ l:C9,B=⟨l⟩:=⟨B.toList,rfl⟩;subst V;generalize W:a.eval x=gx at hg;cases hg with
 | pure hp=>simp[H9]at hp
 | func ha K q1 q2 =>
   rename_i N L;have lA:LR ρ A N:=⟨ha,q1⟩;have lB:LR ρ B L:=⟨K,q2⟩;have hy:VR (upd ρ m.n (lc w.heap.size 0 0)) (yv m.n) (.func (.yield w.heap.size) #[] #[]):=VR.yv k1;have hl:=(lA.mono C.ext).append ((LR.cons hy .nil).append (lB.mono C.ext));refine⟨k,⟨N++([.func (.yield w.heap.size) #[] #[]]++L)⟩,{ target:=.fn (.func k) ⟨L⟩,args:=⟨N⟩++#[.func (.yield w.heap.size) #[] #[]] },?_,?_,?_⟩
   .show(Deferred.ofValue (a.eval x) _).run P _=_;rw[W];simp[Deferred.ofValue,Act.eval]
   .have Y:(callFunc k ⟨N++([.func (.yield w.heap.size) #[] #[]]++L)⟩).run P (w.alloc (.loop r))=.ok (.enter k ⟨N++([.func (.yield w.heap.size) #[] #[]]++L)⟩) (w.alloc (.loop r)):=by
     rcases(hc.fn k).ok _ m1 m2 _ _ _ v e1 J (s.less (by show m2.hi<=m3.hi;rw[g1];exact A6 _)) hl with⟨M,_⟩|⟨v',E,w',M,_⟩
     .exact M
     .exact absurd M (mO G)
    rw[<- Y];show(callFunc k _).run P _=_;congr 2;apply I2;simp
   .rcases(hc.fn k).ok _ m1 m2 _ _ _ v e1 J (s.less (by show m2.hi<=m3.hi;rw[g1];exact A6 _)) hl with⟨_,c2⟩|⟨v',E,w',M,_⟩
    .refine nG.2 (c2.mono fun en w2 ⟨v',ρ2,he,hv,y⟩=>?_);subst he;have k2:=y.ext _ _ k1;obtain⟨b1,b2⟩:=y.hr.atl k2 e2;obtain⟨⟨b3,b4⟩,F,T,U⟩:=b1;have T:w2.heap[w.heap.size]? = some (.loop F):=T;have I:F.state≠.busy:=by
      have c:=U.st;intro K
      match st,c,H with
      | 0,c,_=>rw[K]at c;cases c.1
      | 2,c,_=>rw[K]at c;cases c.1
      | k+4,c,_=>rw[K]at c;cases c.1
     obtain⟨p1,p2,p3⟩:=gH (o:=.loop { F with state:=.exhausted }) (C6.1 T).1;have X:St P base ρ2 ρ2 m2 m3 w2 (w2.putObj w.heap.size (.loop { F with state:=.exhausted })):=St.write y.hr Z e2 rfl k2 rfl ⟨rfl,rfl,rfl⟩ p1 p3 ⟨⟨rfl,rfl⟩,_,p2,U.code,U.fr,trivial⟩;have O:St P base ρ ρ2 m m3 w _:=St.trans f C (St.trans s.fr y X);have b:=hQ ρ2 _ (hf.mono O.ext) O;refine⟨F.pending,_,run_endLoop T I,?_⟩;have c:=U.st
     match st,c,H with
     | 0,c,H=>cases H;rw[show F.pending=none from c.2]at b ⊢;exact b
     | 2,c,H=>cases H;rw[show F.pending=some .ret from c.2]at b ⊢;exact wpIn_ret b
     | k+4,c,H=>cases H;rw[show F.pending=some (.exit k)from c.2]at b ⊢;exact wpIn_exit b
    .exact absurd M (mO G)
def UP{call:O0}(R:U3 P base gl call){fn:Func}{body:Code}(f1:P.funcs[me]? = some fn)(f2:fn.body=some body)(f3:fn.ntmps=nt)(Y:H8 q body=some (.rangeFunc x ps as bd))(hx:okX nt gl x=true)
  {s E:S} {e:Ex} {ρ:Ren} {a:Act} {w:World} {Q:Exit->Act->World->Prop} (h:xE P nt call me q (R0 x) s=some (e,E)) (W:Sat E.m.lg) (c:At P base gl ρ s.m E.m.hi w) (F:FrR z ρ nt s.fr a)
  (X:∀ u a' w',FrR z u nt E.fr a'->St P base ρ u s.m E.m w w'->Q e.out a' w'):(Code.rangeFunc x ps as bd).wpIn (fw z.rd) 0 P Q a w:=by
 obtain⟨I,h⟩:=AV h;refine wpIn_rangeFunc fun b _=>?_
 have hv:=F.ev c.gr hx;rcases h with⟨Z,f0,q0,az,hy,hg,h⟩|⟨hu,m1,B,h⟩
 .obtain⟨l0,e1,e2⟩:=(F.rd I).2 Z hy;obtain⟨⟨_,V,b1,_⟩,_⟩:=c.hr.atl e1 hg;have D:(Instr.enterLoop b a.tmps ps as bd (fw z.rd).round).run P w=.ok (w.heap.size,[]) (w.alloc (.loop { state:=.ready,pending:=none,fn:=b,tmps:=a.tmps,params:=ps,assign:=as,body:=bd,defers:=V.defers })):=by
   show(Instr.enterLoop b a.tmps ps as bd z.rd).run P w=_;rw[e2];unfold Instr.enterLoop;simp only[A4,run_getLoop b1,run_newObj_alloc,Result.andThen,Sem.run_pure]
  rw[cV]at h;obtain⟨k,args,d,J,U,K⟩:=vF (r:={ state:=.ready,pending:=none,fn:=b,tmps:=a.tmps,params:=ps,assign:=as,body:=bd,defers:=V.defers }) R f1 f2 f3 Y h W c F hv ⟨rfl,rfl,rfl,rfl,rfl,rfl⟩ (Q:=Q) fun u w' g1 g2=>X u a w' g1 g2
  exact⟨_,_,_,d,_,k,args,_,D,J,fun _ _=>trivial,U,pO,K⟩
 .have L:=(F.rd I).1 hu;have v:J2 ρ s.m.n E.m.hi:=c.fr;have M:=mU R h;obtain⟨_,g3,g4⟩:=lK B;have D:(Instr.enterLoop b a.tmps ps as bd (fw z.rd).round).run P w=.ok (w.heap.size+1,[{ target:=.collected w.heap.size,args:=#[] }]) ((w.alloc (.deferred (some []))).alloc (.loop { state:=.ready,pending:=none,fn:=b,tmps:=a.tmps,params:=ps,assign:=as,body:=bd,defers:=w.heap.size })):=by
   show(Instr.enterLoop b a.tmps ps as bd z.rd).run P w=_;rw[L];exact run_enterLoop_outer b a.tmps ps as bd
  have f:(w.alloc (.deferred (some []))).heap=w.heap.push (.deferred (some [])):=rfl;obtain⟨_,k1,A⟩:=St.alloc (w':=w.alloc (.deferred (some []))) (o:=.deferred (some [])) (l:=lc w.heap.size 0 0) c.hr c.bs B (v.less M.1) ⟨rfl,rfl,rfl⟩ f rfl ⟨⟨rfl,rfl⟩,_,by simp[f],fun _=>rfl⟩;have G:=c.step A;have T:(w.alloc (.deferred (some []))).heap.size=w.heap.size+1:=by simp[f]
  let a2:Act:={ a with defers:={ target:=.collected w.heap.size,args:=#[] }::a.defers }
  have O:FrR z (upd ρ s.m.n (lc w.heap.size 0 0)) nt (s.fr.set 510 (dv (s.m.n::fS (s.fr.get 510)))) a2:=by
   have y:=F.mono A.ext;have C:∀ t,t<512->t≠510->(s.fr.set 510 (dv (s.m.n::fS (s.fr.get 510)))).get t=s.fr.get t:=fun t h1 H=>by rw[K9 _ _ _ _ F7 h1,A8 H]
   refine⟨y.size,y.le,?_,fun _=>by rw[C 511 F7 F7];exact y.rd I,fun t ht=>by rw[C t A2 A2];exact y.get t ht⟩;obtain⟨ds,d1,d2⟩:=y.df;refine⟨{ target:=.collected w.heap.size,args:=#[] }::ds,by show _::a.defers=_;rw[d1];rfl,?_⟩;unfold dvG at d2 ⊢;have hb:Nat.ble nt 510=true:=C5 I;rw[hb]at d2 ⊢;rw[K9 _ _ _ _ F7 F7,A9 rfl];have hd:fS (dv (s.m.n::fS (s.fr.get 510)))=s.m.n::fS (s.fr.get 510):=by
    simp[fS,dv,A2n,Function.comp_def]
   simp only[D8,hd]at d2 ⊢;refine⟨by simp[d2.1],fun i id d h1 H=>?_⟩;cases i with
   | zero =>
     simp only[P9,D0]at h1 H;subst h1;subst H;exact⟨_,k1,rfl⟩
   | succ i=>exact d2.2 i id d (by simpa using h1) (by simpa using H)
  have N:VR (upd ρ s.m.n (lc w.heap.size 0 0)) ((R0 x).run s.fr) (a2.eval x):=by
   rw[cV];exact hv.mono A.ext
  obtain⟨k,args,d,J,U,K⟩:=vF (r:={ state:=.ready,pending:=none,fn:=b,tmps:=a.tmps,params:=ps,assign:=as,body:=bd,defers:=w.heap.size }) R f1 f2 f3 Y h W G O N ⟨rfl,rfl,rfl,rfl,rfl,rfl⟩ (Q:=Q) fun u w' g1 g2=>X u a2 w' g1 (St.trans v A g2)
  rw[T]at J K;exact⟨_,_,_,d,_,k,args,_,D,J,fun _ _=>trivial,U,pO,K⟩
def vS{call:O0}{lp:LpT}{q:List Bool}{x:Code}(hx:∀ (s c:S) (e:Ex),(M5 P nt gl call lp q x).run s=some (e,c)->s.m.hi<=c.m.hi/\s.m.lg.le c.m.lg):∀ (n:Nat) (s c:S) (e:Ex),zQ (M5 P nt gl call lp q x) n s=some (e,c)->s.m.hi<=c.m.hi/\s.m.lg.le c.m.lg
 | 0,s,c,e,h=>by cases h
 | n+1,s,c,e,h=>by
   unfold zQ at h;split at h
   .rename_i s1 h1;have a:=hx _ _ _ h1;have b:=vS hx n _ _ _ h;exact⟨B9 a.1 b.1,a.2.trans b.2⟩
   .exact hx _ _ _ h
def vT{call:O0}{lp:LpT}{q:List Bool}{x:Code}{L:S->Option (Ex×S)}(hx:∀ (s c:S) (e:Ex),(M5 P nt gl call lp q x).run s=some (e,c)->s.m.hi<=c.m.hi/\s.m.lg.le c.m.lg)
  (f:∀ (s c:S) (e:Ex),L s=some (e,c)->s.m.hi<=c.m.hi/\s.m.lg.le c.m.lg):∀ (n:Nat) (s c:S) (e:Ex),zR (M5 P nt gl call lp q x) L n s=some (e,c)->s.m.hi<=c.m.hi/\s.m.lg.le c.m.lg
 | 0,s,c,e,h=>by cases h
 | n+1,s,c,e,h=>by
   unfold zR at h;split at h
   .rename_i r hr;cases h;exact f _ _ _ hr
   .split at h
    .rename_i s1 h1;have a:=hx _ _ _ h1;have b:=vT hx f n _ _ _ h;exact⟨B9 a.1 b.1,a.2.trans b.2⟩
    .exact hx _ _ _ h
def IN{c:XC}{a b:eP}{s l:S}{e:Ex}(h:IP c a b s=some (e,l)):∃ t lg,brL s.m.lg (c.run s.fr)=some (t,lg)/\(bif t then a.run ⟨s.fr,s.m.wLg lg⟩else b.run ⟨s.fr,s.m.wLg lg⟩)=some (e,l):=by
 obtain⟨fr,⟨H,n,W,hi,lg⟩⟩:=s;unfold IP at h;split at h
 .rename_i f;exact⟨true,lg,by rw[f];rfl,h⟩
 .rename_i f;exact⟨false,lg,by rw[f];rfl,h⟩
 .simp only at h;split at h
  .rename_i lg' k;exact⟨true,lg',k,h⟩
  .rename_i lg' k;exact⟨false,lg',k,h⟩
  .cases h
def S2{call:O0}{lp:LpT}{body:Code}(u:U3 P base gl call)(v:eO P base gl call)(l:MF P base gl nt body lp):∀ (c:Code) (q:List Bool),H8 q body=some c->∀ (s k:S) (e:Ex),(M5 P nt gl call lp q c).run s=some (e,k)->s.m.hi<=k.m.hi/\s.m.lg.le k.m.lg
 | .skip,q,f,s,k,e,h=>by have h:some (Ex.normal,s)=some (e,k):=h;cases h;exact⟨A6 _,.refl _⟩
 | .label _,q,f,s,k,e,h=>by have h:some (Ex.normal,s)=some (e,k):=h;cases h;exact⟨A6 _,.refl _⟩
 | .exit id,q,f,s,k,e,h=>by have h:some (Ex.exit id,s)=some (e,k):=h;cases h;exact⟨A6 _,.refl _⟩
 | .ret,q,f,s,k,e,h=>by have h:some (Ex.ret,s)=some (e,k):=h;cases h;exact⟨A6 _,.refl _⟩
 | .region id ops d,q,f,s,k,e,h=>by
   cases d with
   | false =>
     have h:X4 (T8 P nt gl call ops.toList ops.toList) s=some (e,k):=h;unfold X4 at h;split at h
     .rename_i s1 h1;cases h;exact⟨qN _ _ _ h1,jN u _ _ _ h1⟩
     .cases h
   | true =>
     unfold M5 at h;simp only at h;cases f:DI ops with
     | false=>rw[f]at h;cases h
     | true =>
       rw[f]at h;have go:X4 ⟨d8 P nt gl call ops.toList ops.toList 0 (X6 ops.toList []) [] []⟩ s=some (e,k)->s.m.hi<=k.m.hi/\s.m.lg.le k.m.lg:=fun h=>by
        unfold X4 at h;split at h
        .rename_i s1 h1;cases h;exact(v.2 nt ops f _ _ h1).1
        .cases h
       simp only[D8]at h;cases hr:jH ops.toList with
       | false=>rw[hr]at h;exact go h
       | true =>
         rw[hr]at h;simp only[D8]at h;cases hm:jT P nt gl s.fr s.m.H ops.toList with
         | false=>rw[hm]at h;exact go h
         | true =>
           rw[hm]at h;simp only[D8]at h;unfold X4 at h;split at h
           .rename_i s1 h1;cases h;exact⟨qN _ _ _ h1,jN u _ _ _ h1⟩
           .cases h
 | .seq x y,q,f,s,k,e,h=>by
   have w:=S2 u v l x (q++[false]) (H7 f rfl);have A:=S2 u v l y (q++[true]) (H7 f rfl);have h:ZV (M5 P nt gl call lp (q++[false]) x) (M5 P nt gl call lp (q++[true]) y) s=some (e,k):=h;unfold ZV at h;split at h
   .rename_i s1 h1;have a:=w _ _ _ h1;have b:=A _ _ _ h;exact⟨B9 a.1 b.1,a.2.trans b.2⟩
   .exact w _ _ _ h
 | .cond c x y,q,f,s,k,e,h=>by
   have w:=S2 u v l x (q++[false]) (H7 f rfl);have A:=S2 u v l y (q++[true]) (H7 f rfl);unfold M5 at h;cases f:okX nt gl c with
   | false=>rw[f]at h;cases h
   | true =>
     rw[f]at h;have h:IP (R0 c) (M5 P nt gl call lp (q++[false]) x) (M5 P nt gl call lp (q++[true]) y) s=some (e,k):=h;obtain⟨t,lg,h1,B⟩:=IN h;have C:=dT h1;obtain⟨fr,⟨H,n,W,hi,l0⟩⟩:=s;cases t with
     | true=>have a:=w _ _ _ B;exact⟨a.1,C.trans a.2⟩
     | false=>have b:=A _ _ _ B;exact⟨b.1,C.trans b.2⟩
 | .block id x,q,f,s,k,e,h=>by
   have w:=S2 u v l x (q++[false]) (H7 f rfl);have h:xF id (M5 P nt gl call lp (q++[false]) x) s=some (e,k):=h;unfold xF at h;split at h
   .rename_i j s1 h1
    have:=w _ _ _ h1;cases f:Nat.beq j id<;>rw[f]at h<;>cases h<;>exact this
   .exact w _ _ _ h
 | .loop x,q,f,s,k,e,h=>by
   have h:IM (M5 P nt gl call lp (q++[false]) x) (lp.look q) s=some (e,k):=h;unfold IM at h;split at h
   .rename_i L D;exact vT (S2 u v l x (q++[false]) (H7 f rfl)) (l.2 q x L f D).lg _ _ _ _ h
   .exact vS (S2 u v l x (q++[false]) (H7 f rfl)) _ _ _ _ h
 | .rangeFunc x _ _ _,q,f,s,k,e,h=>by
   unfold M5 at h;cases hx:okX nt gl x with
   | false=>rw[hx]at h;cases h
   | true=>rw[hx]at h;exact RX u h
 | .scope x,q,f,s,k,e,h=>S2 u v l x (q++[false]) (H7 f rfl) s k e h
 | .goto _,q,f,s,k,e,h=>by cases h
 | .refuse _,q,f,s,k,e,h=>by cases h
def S1{call:O0}{lp:LpT}{body:Code}(D:U3 P base gl call)(E:eO P base gl call)(l:MF P base gl nt body lp):∀ (c:Code) (q:List Bool),H8 q body=some c->∀ (ρ:Ren) (s f:S) (e:Ex) (a:Act) (w:World) (Q:Exit->Act->World->Prop),(M5 P nt gl call lp q c).run s=some (e,f)->Sat f.m.lg->At P base gl ρ s.m f.m.hi w->FrR z ρ nt s.fr a ->
  (∀ K a' w',FrR z K nt f.fr a'->St P base ρ K s.m f.m w w'->Q e.out a' w')->c.wpIn (fw z.rd) 0 P Q a w
 | .skip,q,C,ρ,s,f,e,a,w,Q,h,hS,b,v,A=>by have h:some (Ex.normal,s)=some (e,f):=h;cases h;exact wpIn_skip (A ρ a w v (.refl b.hr))
 | .label _,q,C,ρ,s,f,e,a,w,Q,h,hS,b,v,A=>by have h:some (Ex.normal,s)=some (e,f):=h;cases h;exact wpIn_label (A ρ a w v (.refl b.hr))
 | .exit id,q,C,ρ,s,f,e,a,w,Q,h,hS,b,v,A=>by have h:some (Ex.exit id,s)=some (e,f):=h;cases h;exact wpIn_exit (A ρ a w v (.refl b.hr))
 | .ret,q,C,ρ,s,f,e,a,w,Q,h,hS,b,v,A=>by have h:some (Ex.ret,s)=some (e,f):=h;cases h;exact wpIn_ret (A ρ a w v (.refl b.hr))
 | .region id ops d,q,C,ρ,s,f,e,a,w,Q,h,hS,b,v,A=>by
   cases d with
   | false =>
     have h:X4 (T8 P nt gl call ops.toList ops.toList) s=some (e,f):=h;unfold X4 at h;split at h
     .rename_i s1 h1;cases h;exact tC (CB D _ ρ s f a w h1 hS b v A)
     .cases h
   | true =>
     unfold M5 at h;simp only at h;cases C:DI ops with
     | false=>rw[C]at h;cases h
     | true =>
       rw[C]at h;have go:X4 ⟨d8 P nt gl call ops.toList ops.toList 0 (X6 ops.toList []) [] []⟩ s=some (e,f)->(Code.region id ops true).wpIn (fw z.rd) 0 P Q a w:=fun h=>by
        unfold X4 at h;split at h
        .rename_i s1 h1;cases h;exact(E.2 nt ops C _ _ h1).2 z ρ a w id Q hS b v A
        .cases h
       simp only[D8]at h;cases hr:jH ops.toList with
       | false=>rw[hr]at h;exact go h
       | true =>
         rw[hr]at h;simp only[D8]at h;cases hm:jT P nt gl s.fr s.m.H ops.toList with
         | false=>rw[hm]at h;exact go h
         | true =>
           rw[hm]at h;simp only[D8]at h;unfold X4 at h;split at h
           .rename_i s1 h1;cases h;exact KD E.1 D hr hm h1 hS b v A
           .cases h
 | .seq x y,q,C,ρ,s,f,e,a,w,Q,h,hS,b,v,A=>by
   have B:H8 (q++[false]) body=some x:=H7 C rfl;have J:H8 (q++[true]) body=some y:=H7 C rfl;have h:ZV (M5 P nt gl call lp (q++[false]) x) (M5 P nt gl call lp (q++[true]) y) s=some (e,f):=h;unfold ZV at h;split at h
   .rename_i s1 h1;have hh:=S2 D E l y _ J _ _ _ h;refine wpIn_seq (S1 D E l x _ B ρ s s1 .normal a w _ h1 (Q8.le hS hh.2) (b.less hh.1) v fun u G w1 f1 k=>?_);exact S1 D E l y _ J u s1 f e G w1 Q h hS (b.step k) f1 fun ρ2 a2 w2 f2 F=>A ρ2 a2 w2 f2 (St.trans b.fr k F)
   .rename_i I;refine wpIn_seq (S1 D E l x _ B ρ s f e a w _ h hS b v fun u G w1 f1 k=>?_)
    have:=A u G w1 f1 k;cases e with
    | normal=>exact absurd h (I f)
    | exit id=>exact this
    | ret=>exact this
 | .cond c x y,q,C,ρ,s,f,e,a,w,Q,h,hS,b,v,A=>by
   have B:H8 (q++[false]) body=some x:=H7 C rfl;have J:H8 (q++[true]) body=some y:=H7 C rfl;unfold M5 at h;cases O:okX nt gl c with
   | false=>rw[O]at h;cases h
   | true =>
     rw[O]at h;have h:IP (R0 c) (M5 P nt gl call lp (q++[false]) x) (M5 P nt gl call lp (q++[true]) y) s=some (e,f):=h;have hv:=v.ev b.gr O;obtain⟨t,lg,h1,V⟩:=IN h;rw[cV]at h1;have R:St P base ρ ρ s.m (s.m.wLg lg) w w:=St.wLg b.hr lg;cases t with
     | true =>
       have hh:=S2 D E l x _ B _ _ _ V;have Y:Sat lg:=Q8.le hS (by obtain⟨fr,⟨H,n,W,hi,l0⟩⟩:=s;exact hh.2);exact wpIn_cond_true (kN h1 hv Y) (S1 D E l x _ B ρ ⟨s.fr,s.m.wLg lg⟩ f e a w Q V hS (b.wLg lg) v fun ρ2 a2 w2 f2 F=>A ρ2 a2 w2 f2 (St.trans b.fr R F))
     | false =>
       have hh:=S2 D E l y _ J _ _ _ V;have Y:Sat lg:=Q8.le hS (by obtain⟨fr,⟨H,n,W,hi,l0⟩⟩:=s;exact hh.2);exact wpIn_cond_false (kN h1 hv Y) (S1 D E l y _ J ρ ⟨s.fr,s.m.wLg lg⟩ f e a w Q V hS (b.wLg lg) v fun ρ2 a2 w2 f2 F=>A ρ2 a2 w2 f2 (St.trans b.fr R F))
 | .block id x,q,C,ρ,s,f,e,a,w,Q,h,hS,b,v,A=>by
   have B:H8 (q++[false]) body=some x:=H7 C rfl;have h:xF id (M5 P nt gl call lp (q++[false]) x) s=some (e,f):=h;unfold xF at h;split at h
   .rename_i j s1 h1;cases M:Nat.beq j id with
    | true =>
      rw[M]at h;cases h;have Z:=A0 M;refine wpIn_block (S1 D E l x _ B ρ s f (.exit j) a w _ h1 hS b v fun u G w1 f1 k=>?_)
      have:=A u G w1 f1 k
      simpa [Exit.inBlock,Ex.out,Z]using this
    | false =>
      rw[M]at h;cases h;have Z:j≠id:=fun e=>by subst e;simp at M
      refine wpIn_block (S1 D E l x _ B ρ s f (.exit j) a w _ h1 hS b v fun u G w1 f1 k=>?_)
      have:=A u G w1 f1 k
      simpa [Exit.inBlock,Ex.out,Z]using this
   .rename_i I;refine wpIn_block (S1 D E l x _ B ρ s f e a w _ h hS b v fun u G w1 f1 k=>?_)
    have:=A u G w1 f1 k;cases e with
    | normal=>exact this
    | exit j=>exact absurd h (I j f)
    | ret=>exact this
 | .loop x,q,C,ρ,s,f,e,a,w,Q,h,hS,b,v,A=>by
   have B:H8 (q++[false]) body=some x:=H7 C rfl;replace h:IM (M5 P nt gl call lp (q++[false]) x) (lp.look q) s=some (e,f):=h;unfold IM at h;split at h
   .rename_i L hL;have T:=l.2 q x L C hL;have key:∀ (n:Nat) (s:S),zR (M5 P nt gl call lp (q++[false]) x) L n s=some (e,f)->∃ N,∀ (ρ:Ren) (a:Act) (w:World) (Q:Exit->Act->World->Prop),At P base gl ρ s.m f.m.hi w->FrR z ρ nt s.fr a ->
      (∀ K a' w',FrR z K nt f.fr a'->St P base ρ K s.m f.m w w'->Q e.out a' w')->Code.roundsIn (fw z.rd) 0 P x Q N a w:=by
     intro n;induction n with
     | zero=>intro s h;cases h
     | succ n X =>
       intro s h;unfold zR at h;split at h
       .rename_i r hr;cases h;obtain⟨N,U⟩:=T.ok s f e hr hS;exact⟨N,U z⟩
       .split at h
        .rename_i s1 h1;obtain⟨N,U⟩:=X s1 h;have hh:=vT (S2 D E l x _ B) T.lg _ _ _ _ h;refine⟨N+1,fun ρ a w Q b v A=>?_⟩;show x.wpIn (fw z.rd) 0 P (Exit.then (Code.roundsIn (fw z.rd) 0 P x Q N) Q) a w;refine S1 D E l x _ B ρ s s1 .normal a w _ h1 (Q8.le hS hh.2) (b.less hh.1) v fun u G w1 f1 k=>?_
         exact U u G w1 Q (b.step k) f1 fun ρ2 a2 w2 f2 F=>A ρ2 a2 w2 f2 (St.trans b.fr k F)
        .rename_i I;refine⟨1,fun ρ a w Q b v A=>?_⟩;show x.wpIn (fw z.rd) 0 P (Exit.then (Code.roundsIn (fw z.rd) 0 P x Q 0) Q) a w;refine S1 D E l x _ B ρ s f e a w _ h hS b v fun u G w1 f1 k=>?_
         have:=A u G w1 f1 k;cases e with
         | normal=>exact absurd h (I f)
         | exit id=>exact this
         | ret=>exact this
    obtain⟨N,U⟩:=key _ s h;exact wpIn_loop_rounds N (U ρ a w Q b v A)
   obtain⟨n,h0⟩:∃ n,zQ (M5 P nt gl call lp (q++[false]) x) n s=some (e,f):=⟨_,h⟩;clear h;have h:=h0;clear h0;refine wpIn_loop_rounds n ?_;induction n generalizing s ρ a w with
   | zero=>cases h
   | succ n X =>
     unfold zQ at h;show x.wpIn (fw z.rd) 0 P (Exit.then (Code.roundsIn (fw z.rd) 0 P x Q n) Q) a w;split at h
     .rename_i s1 h1;have hh:=vS (S2 D E l x _ B) _ _ _ _ h;refine S1 D E l x _ B ρ s s1 .normal a w _ h1 (Q8.le hS hh.2) (b.less hh.1) v fun u G w1 f1 k=>?_
      exact X u s1 G w1 (b.step k) f1 (fun ρ2 a2 w2 f2 F=>A ρ2 a2 w2 f2 (St.trans b.fr k F)) h
     .rename_i I;refine S1 D E l x _ B ρ s f e a w _ h hS b v fun u G w1 f1 k=>?_
      have:=A u G w1 f1 k;cases e with
      | normal=>exact absurd h (I f)
      | exit id=>exact this
      | ret=>exact this
 | .rangeFunc x ps as bd,q,C,ρ,s,f,e,a,w,Q,h,hS,b,v,A=>by
   unfold M5 at h;cases hx:okX nt gl x with
   | false=>rw[hx]at h;cases h
   | true =>
     rw[hx]at h;obtain⟨fn,f1,f2,f3⟩:=l.1;exact UP D f1 f2 f3 C hx h hS b v A
 | .scope x,q,C,ρ,s,f,e,a,w,Q,h,hS,b,v,A=>JE (S1 D E l x _ (H7 C rfl) ρ s f e a w _ h hS b v fun u G w1 f1 k=>by cases e<;>exact A u G w1 f1 k)
 | .goto _,q,C,ρ,s,f,e,a,w,Q,h,hS,b,v,A=>by cases h
 | .refuse _,q,C,ρ,s,f,e,a,w,Q,h,hS,b,v,A=>by cases h
end
end
section
open Go
variable [Ora]
def qV{c:Hp AB}:∀ (l:List Nat) (H:Hp AB),(∀ b ∈ l,b<=G9)->∀ id,id<=G9->Hp.get (dL c H l) id=if id ∈ l then Hp.get c id else Hp.get H id
 | [],H,_,id,_=>by simp[dL]
 | b::r,H,hl,id,hid=>by
   have e:=hl b B1;rw[dL,dF,qV r _ (fun x hx=>hl x (C3 _ hx)) id hid,E5 _ _ _ _ e hid];by_cases h1:id ∈ r
   .rw[A9 h1,A9 (C3 _ h1)]
   .rw[A8 h1];by_cases a:id=b
    .subst a;rw[A9 rfl,A9 B1]
    .rw[A8 a,A8 (by simp[h1,a])]
theorem U7{l:G5}{b:Nat}:m9 l b=true↔b ∈ l:=by
 unfold m9;rw[O7];constructor
 .rintro⟨x,hx,h⟩;rw[A0 h];exact hx
 .intro h;exact⟨b,h,by simp⟩
def qQ:∀ (l acc:List Nat) (b:Nat),b ∈ mN l acc↔b ∈ l∨b ∈ acc
 | [],acc,b=>by simp[mN]
 | x::r,acc,b=>by
   unfold mN;cases h:m9 acc x with
   | true =>
     have hx:=U7.1 h;simp only[D8];rw[qQ r acc b];constructor
     .rintro(h|h)
      .exact .inl (C3 _ h)
      .exact .inr h
     .rintro(h|h)
      .rcases B4.1 h with rfl|h
       .exact .inr hx
       .exact .inl h
      .exact .inr h
   | false =>
     simp only[D4];rw[qQ r (x::acc) b];simp only[B4];constructor
     .rintro(h|h|h)
      .exact .inl (.inr h)
      .exact .inl (.inl h)
      .exact .inr h
     .rintro((h|h)|h)
      .exact .inr (.inl h)
      .exact .inl h
      .exact .inr (.inr h)
def rQ{l:G5}(h:DQ l=true):∀ b ∈ l,b<=G9:=fun b a=>A1 (D2.1 h b a)
section
variable {P:Program} {base gl nt:Nat}
def CK{ρ y:Ren}{n:Nat}(f:∀ b l,b<n->y b=some l->ρ b=some l){v v':Value}(h:VR y v v'):∀ (d:Nat),Z2 n d v=true->VR ρ v v':=by
 have A:∀ (low:Value->Bool) (a:List Value),mE low a=true->∀ (i:Nat) (v:Value),a[i]? = some v->low v=true:=fun low a=>by
  induction a with
  | nil=>intro _ i v h;simp at h
  | cons x r t =>
    intro h i v hi;obtain⟨h1,m⟩:=B3 (show(low x && mE low r)=true from h);cases i with
    | zero=>simp at hi;subst hi;exact h1
    | succ i=>exact t m i v (by simpa using hi)
 induction h with
 | pure h=>intro d _;exact .pure h
 | hole h F=>intro d _;exact .hole h F
 | junk h=>intro d _;exact .junk h
 | ixp h E hi K hv =>
   intro d e;cases d with
   | zero=>cases e
   | succ d =>
     obtain⟨g1,_⟩:=B3 e;obtain⟨g1,_⟩:=B3 (show(Z2 n d _ && _)=true from g1);cases d with
     | zero=>cases g1
     | succ d=>exact .ixp (f _ _ (A1 g1) h) E hi K hv
 | dat h h1 m h3 C =>
   intro d e;cases d with
   | zero=>cases e
   | succ d =>
     obtain⟨g1,_⟩:=B3 e;obtain⟨g1,_⟩:=B3 (show(Z2 n d _ && _)=true from g1);cases d with
     | zero=>cases g1
     | succ d=>exact .dat (f _ _ (A1 g1) h) h1 m h3 C
 | clp h h1 m h3 C H =>
   intro d e;cases d with
   | zero=>cases e
   | succ d =>
     obtain⟨g1,_⟩:=B3 e;obtain⟨g1,_⟩:=B3 (show(Z2 n d _ && _)=true from g1);cases d with
     | zero=>cases g1
     | succ d=>exact .clp (f _ _ (A1 g1) h) h1 m h3 C H
 | own h h1 m =>
   intro d e;cases d with
   | zero=>cases e
   | succ d =>
     obtain⟨g1,_⟩:=B3 e;obtain⟨g1,_⟩:=B3 (show(Z2 n d _ && _)=true from g1);cases d with
     | zero=>cases g1
     | succ d=>exact .own (h.imp (fun⟨l,w,a,b⟩=>⟨l,w,f _ _ (A1 g1) a,b⟩) fun⟨l,w,rows,a,b⟩=>⟨l,w,rows,f _ _ (A1 g1) a,b⟩) h1 m
 | dpt h h1 m =>
   intro d e;cases d with
   | zero=>cases e
   | succ d =>
     obtain⟨g1,_⟩:=B3 e;obtain⟨g1,_⟩:=B3 (show(Z2 n d _ && _)=true from g1);cases d with
     | zero=>cases g1
     | succ d=>exact .dpt (let ⟨l,w,rows,a,s,c,k,h0,r⟩:=h;⟨l,w,rows,a,s,c,k,f _ _ (A1 g1) h0,r⟩) h1 m
 | opt h h1 m =>
   intro d e;cases d with
   | zero=>cases e
   | succ d =>
     obtain⟨g1,_⟩:=B3 e;obtain⟨g1,_⟩:=B3 (show(Z2 n d _ && _)=true from g1);cases d with
     | zero=>cases g1
     | succ d=>exact .opt (let ⟨l,w,rows,k,h0,r⟩:=h;⟨l,w,rows,k,f _ _ (A1 g1) h0,r⟩) h1 m
 | ptr h=>intro d e;cases d with|zero=>cases e|succ d=>exact .ptr (f _ _ (A1 e) h)
 | sl h hm=>intro d e;cases d with|zero=>cases e|succ d=>exact .sl (f _ _ (A1 e) h) hm
 | op h hm G I=>intro d e;cases d with|zero=>cases e|succ d=>exact .op (f _ _ (A1 e) h) hm G I
 | opE E=>intro d _;exact .opE E
 | map h=>intro d e;cases d with|zero=>cases e|succ d=>exact .map (f _ _ (A1 e) h)
 | sdt h =>
   intro d e;cases d with
   | zero=>cases e
   | succ d =>
     obtain⟨g1,_⟩:=B3 e;obtain⟨g1,_⟩:=B3 (show(Z2 n d _ && _)=true from g1);cases d with
     | zero=>cases g1
     | succ d=>exact .sdt (let ⟨l,a,b⟩:=h;⟨l,f _ _ (A1 g1) a,b⟩)
 | yv h =>
   intro d e;cases d with
   | zero=>cases e
   | succ d =>
     obtain⟨g1,_⟩:=B3 e;obtain⟨g1,_⟩:=B3 (show(Z2 n d _ && _)=true from g1);cases d with
     | zero=>cases g1
     | succ d=>exact .yv (f _ _ (A1 g1) h)
 | func u J h1 m B D =>
   intro d e;cases d with
   | zero=>cases e
   | succ d =>
     obtain⟨g1,g2⟩:=B3 e;exact .func u J (fun i v v' a b=>B i v v' a b d (A _ _ g1 i v a)) (fun i v v' a b=>D i v v' a b d (A _ _ g2 i v a))
 | iface h t=>intro d e;cases d with|zero=>cases e|succ d=>exact .iface (t d e)
 | agg u h t=>intro d e;cases d with|zero=>cases e|succ d=>exact .agg u (fun i v v' a b=>t i v v' a b d (A _ _ e i v a))
 | tuple u h t=>intro d e;cases d with|zero=>cases e|succ d=>exact .tuple u (fun i v v' a b=>t i v v' a b d (A _ _ e i v a))
def A4h{ρ u:Ren}{n:Nat}(B:∀ b l,b<n->u b=some l->ρ b=some l){ab:AB}{l:Loc}{w:World}(h:BR P u ab l w)(e:A1L n (some ab)=true):BR P ρ ab l w:=by
 cases ab with
 | cells cs T ro =>
   obtain⟨h0,C,fz,G,h1,k,h3⟩:=h;refine⟨h0,C,fz,G,h1,fun i v hi=>?_,h3⟩;obtain⟨v',g1,g2⟩:=k i v hi;have hv:Z2 n 10 v=true:=by
    have a:mE (Z2 n 10) cs=true:=e;clear k g1 g2 e;induction cs generalizing i with
    | nil=>simp at hi
    | cons x r m =>
      obtain⟨y,A⟩:=B3 (show(Z2 n 10 x && mE (Z2 n 10) r)=true from a);cases i with
      | zero=>simp at hi;subst hi;exact y
      | succ i=>exact m i (by simpa using hi) A
   exact⟨v',g1,CK B g2 10 hv⟩
 | mp c t T=>exact h
 | iter vs =>
   obtain⟨h0,s,L,h1,k⟩:=h;refine⟨h0,s,L,h1,k.1,fun i v v' g1 g2=>?_⟩;have hv:Z2 n 10 v=true:=by
    have a:mE (Z2 n 10) vs=true:=e;clear k g2 e;induction vs generalizing i with
    | nil=>simp at g1
    | cons x r m =>
      obtain⟨y,A⟩:=B3 (show(Z2 n 10 x && mE (Z2 n 10) r)=true from a);cases i with
      | zero=>simp at g1;subst g1;exact y
      | succ i=>exact m i (by simpa using g1) A
   exact CK B (k.2 i v v' g1 g2) 10 hv
 | lp f q vs st =>
   obtain⟨h0,r,h1,k⟩:=h;refine⟨h0,r,h1,k.code,⟨k.fr.1,fun i v v' g1 g2=>?_⟩,k.st⟩;have hv:Z2 n 10 v=true:=by
    have a:mE (Z2 n 10) vs=true:=e;clear k g2 e;induction vs generalizing i with
    | nil=>simp at g1
    | cons x r m =>
      obtain⟨y,A⟩:=B3 (show(Z2 n 10 x && mE (Z2 n 10) r)=true from a);cases i with
      | zero=>simp at g1;subst g1;exact y
      | succ i=>exact m i (by simpa using g1) A
   exact CK B (k.fr.2 i v v' g1 g2) 10 hv
 | dfr b=>exact h
 | sq c t T g ro =>
   obtain⟨wd,inf,h1,k,h3,E⟩:=SqR.ex h;refine⟨⟨wd,inf,h1,k,h3,E.imp (fun x=>x) fun⟨F,D⟩=>⟨F,?_⟩⟩⟩;obtain⟨C,fz,G,rows,lg,h1,k,h3,E,D,K,H,J,I⟩:=D;exact⟨C,fz,G,rows,lg,h1,k,h3,E,D,K,B _ _ (A1 e) H,J,I⟩
 | frz=>exact h
def GN{n:Nat}{H:Hp AB}:∀ {l:G5},KR n H l=true->∀ b ∈ l,A1L n (Hp.get H b)=true
 | [],_,b,h=>by cases h
 | x::r,h,b,a=>by
   obtain⟨h1,c⟩:=B3 (show(A1L n (Hp.get H x) && KR n H r)=true from h);rcases B4.1 a with rfl|a
   .exact h1
   .exact GN c b a
def A6d{ρ D:Ren}{m m1 m':Mem}{w w1:World}{v v':Value}(C:gcM m m1 v=some m')(st:St P base ρ D ⟨m.H,m.n,[],m.hi,m.lg⟩ m1 w w1)(A:At P base gl ρ m m'.hi w)(hv:VR D v v') :
  m'.hi=m1.hi/\∃ ρ2,VR ρ2 v v'/\St P base ρ ρ2 m m' w w1:=by
 have au:m1.n<=m1.hi:=st.nhi A.nh;have hle:m.hi<=m1.hi:=st.hle;have e:∀ b,b ∈ mN (m1.W.filter fun b=>Nat.blt b m.n || Nat.ble m1.hi b) []↔b ∈ m1.W/\(b<m.n∨m1.hi<=b):=fun b=>by
  rw[qQ];simp only[Q4,L6,or_false,I1];constructor
  .rintro⟨h1,s⟩;exact⟨h1,s.imp (fun h=>A1 h) (fun h=>A1 h)⟩
  .rintro⟨h1,s⟩;exact⟨h1,s.imp (fun h=>C5 h) (fun h=>C5 h)⟩
 unfold gcM at C;generalize hW:mN (m1.W.filter fun b=>Nat.blt b m.n || Nat.ble m1.hi b) []=W at C e;simp only[E1,H4,cU]at C;have hold:m1.hi=m'.hi->∀ b l,ρ b=some l->b<m.n∨m1.hi<=b:=fun he b l y=>by
  rcases F2 b m.n with h1|h1
  .exact .inl h1
  .rcases F2 b m1.hi with s|s
   .rw[A.fr b h1 (he▸s)]at y;cases y
   .exact .inr s
 have E:m1.hi=m'.hi->∀ id,id<=G9->id ∉ W->∀ ab,Hp.get m.H id=some ab->id ∉ m1.W/\Hp.get m1.H id=some ab:=fun he id hid az ab c=>by
  obtain⟨l,h1,_,_⟩:=A.hr.at_ id hid ab c;have G:=hold he id l h1;have s:id ∉ m1.W:=fun h=>az ((e id).2 ⟨h,G⟩)
  exact⟨s,by rw[st.same id hid s G];exact c⟩
 have J:∀ b ∈ W,∀ l,ρ b=some l->∃ ab,Hp.get m.H b=some ab/\ab.rw=true:=fun b y l u=>st.wrw b ((e b).1 y).1 (by simp) l u
 cases K:Z2 m.n 10 v && KR m.n m1.H W with
 | true =>
   rw[K]at C;simp only[D8]at C;obtain⟨t,C⟩:=A3 C;cases C;obtain⟨q1,q2⟩:=B3 K;have t:=rQ t;have G:∀ b l,b<m.n->D b=some l->ρ b=some l:=fun b l y u=>by
    cases h0:ρ b with
    | some l0=>rw[st.ext b l0 h0]at u;exact u
    | none=>have h:=(st.new b l u h0).1;exact absurd y (Nat.not_lt.2 h)
   have f:∀ id,id<=G9->Hp.get (dL m1.H m.H W) id=if id ∈ W then Hp.get m1.H id else Hp.get m.H id:=fun id hid=>qV W _ t id hid
   have F:∀ id,id<=G9->∀ ab,Hp.get (dL m1.H m.H W) id=some ab->Hp.get m1.H id=some ab:=fun id hid ab c=>by
    rw[f id hid]at c;by_cases h:id ∈ W
    .rw[A9 h]at c;exact c
    .rw[A8 h]at c;exact(E rfl id hid h ab c).2
   have Z:=st.hr.sub F;have ax:∀ id,id<=G9->∀ ab,Hp.get (dL m1.H m.H W) id=some ab->∀ l,D id=some l->ρ id=some l:=fun id hid ab c l u=>by
    cases h0:ρ id with
    | some l0=>rw[st.ext id l0 h0]at u;exact u
    | none =>
      exfalso;have hn:=st.new id l u h0;rw[f id hid]at c;by_cases h:id ∈ W
      .have:=((e id).1 h).2;have h1:m.n<=id:=hn.1;have s:=hn.2;omega
      .rw[A8 h]at c;obtain⟨l0,h1,_⟩:=A.hr.at_ id hid ab c;rw[h1]at h0;cases h0
   refine⟨rfl,ρ,CK G hv 10 q1,⟨fun _ _ h=>h,fun b k h1 s=>(by rw[h1]at s;cases s),A6 _,hle,fun h=>B9 h hle,⟨A.hr.dom,fun id hid ab c=>?_⟩,fun b y=>B6.2 (.inr y),fun b h1 s l u=>?_,fun k N y=>?_,st.size,st.os,fun b k h1 s=>(by rw[h1]at s;cases s),fun id hid h1 s=>?_,fun k ⟨id,a,q,hid,B,K,U⟩=>?_⟩⟩
   .obtain⟨l,g1,g2,g3⟩:=Z.at_ id hid ab c;have u:=ax id hid ab c l g1;refine⟨l,u,?_,fun O V=>⟨(g3 O V).1,fun ay T av l2 f1 f2 f3=>(g3 O V).2 ay T av l2 f1 (st.ext _ _ f2) f3⟩⟩;have ar:=c;rw[f id hid]at c;by_cases h:id ∈ W
    .rw[A9 h]at c
     have:=GN q2 id h;rw[c]at this;exact A4h G g2 this
    .rw[A8 h]at c;obtain⟨l0,R,e2,e3⟩:=A.hr.at_ id hid ab c;rw[u]at R
     have:=A7 R;subst this;refine e2.mono (fun _ _ h=>h) (fun k N=>st.keep k (e2.tc N) fun b y lb L aw heq=>?_);have Q:b ∈ W:=(e b).2 ⟨y,hold rfl b lb L⟩;obtain⟨aq,c1,c2⟩:=J b Q lb L
     have:=((A.hr.atl L c1).2 c2 aw).2 id hid ab l c u (heq▸N);subst this;exact h Q
   .rcases B6.1 h1 with h|h
    .exact J b h l u
    .exact absurd h s
   .exact st.keep k N fun b M l u G=>y b (B6.2 (.inl ((e b).2 ⟨M,hold rfl b l u⟩))) l u G
   .show Hp.get (dL m1.H m.H W) id=_;rw[f id hid,A8 (fun h=>h1 (B6.2 (.inl h)))]
   .have B:Hp.get (dL m1.H m.H W) id=some a:=B;rw[f id hid]at B;by_cases h:id ∈ W
    .rw[A9 h]at B;exact st.tch k ⟨id,a,q,hid,B,st.ext _ _ K,U⟩
    .rw[A8 h]at B;exact .inr ⟨id,a,q,hid,B,K,U⟩
 | false =>
   rw[K]at C;simp only[D4]at C;generalize hI:(FL m.n m1.H 100000 (yK 10 v++wOf m1.H W) []).filter (fun b=>Nat.ble m.n b && Nat.blt b m1.hi)=I at C;have Y:∀ b ∈ I,m.n<=b/\b<m1.hi:=fun b y=>by
    subst hI;obtain⟨_,h⟩:=Q4.1 y;obtain⟨h1,s⟩:=B3 h;exact⟨A1 h1,A1 s⟩
   obtain⟨t,C⟩:=A3 C;cases C;have t:=rQ t;have f:∀ id,id<=G9->Hp.get (dL m1.H m.H (W++I)) id=if id ∈ W++I then Hp.get m1.H id else Hp.get m.H id:=fun id hid=>qV _ _ t id hid
   have F:∀ id,id<=G9->∀ ab,Hp.get (dL m1.H m.H (W++I)) id=some ab->Hp.get m1.H id=some ab:=fun id hid ab c=>by
    rw[f id hid]at c;by_cases h:id ∈ W++I
    .rw[A9 h]at c;exact c
    .rw[A8 h]at c;exact(E rfl id hid (fun hh=>h (B6.2 (.inl hh))) ab c).2
   refine⟨rfl,D,hv,⟨st.ext,st.new,st.nle,hle,fun _=>au,st.hr.sub F,fun b y=>B6.2 (.inr y),fun b h1 s l u=>?_,fun k N y=>?_,st.size,st.os,fun b l h1 s G=>?_,fun id hid h1 s=>?_,fun k ⟨id,a,q,hid,B,K,U⟩=>?_⟩⟩
   .rcases B6.1 h1 with h|h
    .exact J b h l u
    .exact absurd h s
   .exact st.keep k N fun b M l u G=>y b (B6.2 (.inl ((e b).2 ⟨M,hold rfl b l u⟩))) l u G
   .rcases st.blk b l h1 s G with h|⟨X,h3,l0,h4,h5⟩
    .exact .inl h
    .exact .inr ⟨X,B6.2 (.inl ((e X).2 ⟨h3,hold rfl X l0 h4⟩)),l0,h4,h5⟩
   .show Hp.get (dL m1.H m.H (W++I)) id=_;rw[f id hid,A8];intro h;rcases B6.1 h with h|h
    .exact h1 (B6.2 (.inl h))
    .have:=Y id h;have s:id<m.n∨m1.hi<=id:=s;omega
   .have B:Hp.get (dL m1.H m.H (W++I)) id=some a:=B;rw[f id hid]at B;by_cases h:id ∈ W++I
    .rw[A9 h]at B;exact st.tch k ⟨id,a,q,hid,B,K,U⟩
    .rw[A8 h]at B;obtain⟨l0,R,_⟩:=A.hr.at_ id hid a B;rw[st.ext _ _ R]at K
     have:=A7 K;subst this;exact .inr ⟨id,a,l0,hid,B,R,U⟩
def fU:∀ (vs:List Value) (fr:Fr) (i t:Nat),i+vs.length<=512->t<512->(dU fr i vs).get t=if i<=t/\t<i+vs.length then vs.getD (t-i) undef else fr.get t
 | [],fr,i,t,_,_=>by simp[dU];intro h1 a;omega
 | v::r,fr,i,t,h,ht=>by
   simp only[D5]at h ⊢;rw[dU,uW,fU r _ (i+1) t A2 ht,K9 _ _ _ _ A2 ht];by_cases h1:i+1<=t/\t<i+1+r.length
   .rw[A9 h1,A9 A2,show t-i=(t-(i+1))+1 by omega];rfl
   .rw[A8 h1];by_cases a:t=i
    .subst a;rw[A9 rfl,A9 A2,hO];rfl
    .rw[A8 a,A8 A2]
def QS(tmps:Array Value):ResultVar->Sem Value
 | .tmp t=>pure (tmps.getD t undef)
 | .cell a t=>do loadVar t (<- asAddr (tmps.getD a undef))
variable {z:Zn}
def NB{ρ:Ren}{s:S}{a:Act}{w:World}(h:HR P base ρ s.m.H w)(C:FrR z ρ nt s.fr a):∀ (rs:List ResultVar) (vs:List Value),QU P nt s rs=some vs->∃ b,LR ρ vs b /\
  (rs.mapM (QS a.tmps)).run P w=.ok b w
 | [],vs,hr=>by
   simp only[QU,D0]at hr;subst hr;exact⟨[],.nil,rfl⟩
 | r::rs,vs,hr=>by
   unfold QU at hr;split at hr
   .rename_i v A h1 D;cases hr;obtain⟨b,g1,g2⟩:=NB h C rs A D;have f:∃ v',VR ρ v v'/\(QS a.tmps r).run P w=.ok v' w:=by
     unfold A5q at h1;split at h1
     .rename_i t;obtain⟨y,k⟩:=A3 h1;cases k;exact⟨_,C.get t (A1 y),rfl⟩
     .rename_i c t;obtain⟨y,k⟩:=A3 h1;have hv:=C.get c (A1 y);split at k
      .rename_i F B;rw[B]at hv;obtain⟨l,E,_,e⟩:=N5 hv;obtain⟨v',u,n⟩:=GQ h k E;exact⟨v',n,by simp[QS,e,asAddr,u]⟩
      .cases k
    obtain⟨v',u,n⟩:=f;refine⟨v'::b,.cons u g1,?_⟩;simp only[List.mapM_cons,A4,n,g2,Result.andThen,Sem.run_pure]
   .cases hr
def A0v{ρ:Ren}{fn:Func}{s:S}{a:Act}{w:World}{v:Value}(h:HR P base ρ s.m.H w)(y:FrR z ρ fn.ntmps s.fr a)(hr:QT fn P s=some v):∃ v',VR ρ v v'/\(results fn a.tmps).run P w=.ok v' w:=by
 unfold QT at hr;have key:∀ vs,QU P fn.ntmps s fn.results.toList=some vs->∃ b,LR ρ vs b/\(results fn a.tmps).run P w=.ok (if h:b.toArray.size=1 then b.toArray[0]else .tuple b.toArray) w:=fun vs f=>by
  obtain⟨b,g1,g2⟩:=NB h y _ vs f;refine⟨b,g1,?_⟩;have he:results fn a.tmps=(do let vs <- fn.results.mapM (QS a.tmps);pure (if h:vs.size=1 then vs[0]else .tuple vs)):=by
   unfold results;rfl
  have hm:(fn.results.mapM (QS a.tmps)).run P w=.ok b.toArray w:=by
   rw[eA];show(Sem.bind (fn.results.toList.mapM (QS a.tmps)) fun l=>Sem.pure l.toArray).run P w=_;have t:∀ (x:Sem C9) (k:C9->Sem U8),(Sem.bind x k).run P w=(x >>= k).run P w:=fun _ _=>rfl
   rw[t,A4,g2];rfl
  rw[he,A4,hm];rfl
 split at hr
 .rename_i u e;cases hr;obtain⟨b,g1,g2⟩:=key _ e;obtain⟨v',A,rfl,g3,g4⟩:=g1.tail;cases g4.nil_inv;exact⟨v',g3,g2⟩
 .rename_i vs c e;cases hr;obtain⟨b,g1,g2⟩:=key _ e;refine⟨.tuple ⟨b⟩,.tuple g1.1 g1.2,?_⟩;rw[g2,dif_neg];intro h1;have h1:b.length=1:=by simpa using h1
  have n:vs.length=1:=by rw[g1.1];exact h1
  obtain⟨x,rfl⟩:=List.length_eq_one_iff.1 n;exact c x rfl
 .cases hr
def DV(P:Program):Prop:=∀ (f:Nat) (fn:Func),P.funcs[f]? = some fn->(fn.name == "runtime.NumGoroutine")=false
def YE{m m1 m':Mem}{v:Value}(a:gcM m m1 v=some m'):m'.lg=m1.lg:=by
 unfold gcM at a;simp only[E1,H4,cU]at a;cases c:Z2 m.n 10 v && KR m.n m1.H (mN (m1.W.filter fun b=>Nat.blt b m.n || Nat.ble m1.hi b) [])with
 | true=>rw[c]at a;obtain⟨_,q⟩:=A3 a;cases q;rfl
 | false=>rw[c]at a;obtain⟨_,q⟩:=A3 a;cases q;rfl
def uO:∀ {l:G5} {m m':Mem},nW l m=some m'->m'.hi=m.hi/\m'.n=m.n/\m'.lg=m.lg
 | [],m,m',h=>by cases h;exact⟨rfl,rfl,rfl⟩
 | b::r,m,m',h=>by
   unfold nW at h;split at h
   .split at h
    .rename_i m1 hm;obtain⟨_,e⟩:=T6 hm;obtain⟨h1,a,h3⟩:=uO h;subst e;exact⟨h1,a,h3⟩
    .cases h
   .cases h
def PG{fn:Func}{m m':Mem}{v:Value}(h:A5F fn P m r=some (v,m')):∃ e s m1,r=some (e,s)/\(e=.normal∨e=.ret)/\nW (dvG fn.ntmps s.fr) s.m=some m1/\QT fn P ⟨s.fr,m1⟩=some v/\gcM m m1 v=some m':=by
 have key:∀ (fr:Fr) (m0:Mem),(match nW (dvG fn.ntmps fr) m0 with
  | some m1=>match QT fn P ⟨fr,m1⟩with
    | some v=>match gcM m m1 v with
      | some m=>some (v,m)
      | none=>none
    | none=>none
  | none=>none)=some (v,m')->∃ m1,nW (dvG fn.ntmps fr) m0=some m1/\QT fn P ⟨fr,m1⟩=some v/\gcM m m1 v=some m':=fun fr m0 h=>by
  split at h
  .rename_i m1 h1;split at h
   .rename_i u f;split at h
    .rename_i m2 h3;cases h;exact⟨m1,h1,f,h3⟩
    .cases h
   .cases h
  .cases h
 unfold A5F at h;split at h
 .rename_i fr m1;obtain⟨m2,a,b,c⟩:=key _ _ h;exact⟨_,_,m2,rfl,.inl rfl,a,b,c⟩
 .rename_i fr m1;obtain⟨m2,a,b,c⟩:=key _ _ h;exact⟨_,_,m2,rfl,.inr rfl,a,b,c⟩
 .cases h
structure hH (P:Program) (base gl nt:Nat) (c:Code) (L:S->Option (Ex×S)):Prop where
 lg:∀ (s s':S) (e:Ex),L s=some (e,s')->s.m.hi<=s'.m.hi/\s.m.lg.le s'.m.lg
 ok:∀ (s s':S) (e:Ex),L s=some (e,s')->Sat s'.m.lg->∀ (z:Zn) (ρ:Ren) (a:Act) (w:World) (Q:Exit->Act->World->Prop),At P base gl ρ s.m s'.m.hi w->FrR z ρ nt s.fr a ->
  (∀ a' w',Q Ex.ret.out a' w'->Q Ex.normal.out a' w')->(∀ ρ' a' w',FrR z ρ' nt s'.fr a'->St P base ρ ρ' s.m s'.m w w'->Q e.out a' w')->c.wpIn (fw z.rd) 0 P Q a w
def hH.or{nt:Nat}{c:Code}{a b:S->Option (Ex×S)}(k:hH P base gl nt c a)(l:hH P base gl nt c b):hH P base gl nt c (orL a b):=by
 refine⟨fun s m e h=>?_,fun s m e h f=>?_⟩
 .unfold orL at h;split at h
  .rename_i r hr;cases h;exact k.lg _ _ _ hr
  .exact l.lg _ _ _ h
 .unfold orL at h;split at h
  .rename_i r hr;cases h;exact k.ok _ _ _ hr f
  .exact l.ok _ _ _ h f
def hH.code{nt:Nat}{c:Code}{call:O0}(k:U3 P base gl call)(l:eO P base gl call){lp:LpT}(b:MF P base gl nt c lp):hH P base gl nt c (M5 P nt gl call lp [] c).run :=
 ⟨fun _ _ _ h=>S2 k l b c [] rfl _ _ _ h,fun s n e h t z ρ a w Q f u _ m=>S1 (z:=z) k l b c [] rfl ρ s n e a w Q h t f u m⟩
def A14{fn:Func}{c:Code}{L:eP}(f:hH P base gl fn.ntmps c L.run){vs:C9}{m m':Mem}{v:Value}
  (hr:xI fn P L vs m=some (v,m')):m.lg.le m'.lg:=by
 unfold xI at hr;obtain⟨_,hr⟩:=A3 hr;obtain⟨e,s,m1,h1,_,b,h3,k⟩:=PG hr;have a:JU L (dU fr0 0 vs) m=L.run ⟨dU fr0 0 vs,⟨m.H,m.n,[],m.hi,m.lg⟩⟩:=rfl;rw[a]at h1;have l:=(f.lg _ _ _ h1).2;rw[YE k,(uO b).2.2];exact l
def zT{fn:Func}{tmps:U8}{R:Ending->World->Prop}{ρ:Ren}{hi:Nat}:∀ (ids:List Nat) (ds:List Deferred) (m md:Mem) (w:World),nW ids m=some md->DfR ρ ids ds->HR P base ρ m.H w->J2 ρ m.n md.hi ->
  (∀ w',St P base ρ ρ m md w w'->∃ v,(results fn tmps).run P w'=.ok v w'/\R (.returned v) w')->LeavesInM (fw none) 0 P fn tmps R ds .returning w
 | [],ds,m,md,w,h,hd,hr,hf,hR=>by
   cases h;have:ds=[]:=F6.1 hd.1.symm;subst this;exact hR w (.refl hr)
 | b::r,[],m,md,w,h,hd,hr,hf,hR=>by have:=hd.1;simp at this
 | b::r,d::ds,m,md,w,h,hd,hr,hf,hR=>by
   unfold nW at h;split at h
   .rename_i t;split at h
    .rename_i m1 hm;obtain⟨l,k,e⟩:=hd.2 0 b d rfl rfl;obtain⟨⟨⟨s,D⟩,x,u,C⟩,_⟩:=hr.atl k t
     have:=C rfl;subst this;obtain⟨A,B,E⟩:=gH (o:=.deferred none) (C6.1 u).1;have c:St P base ρ ρ m m1 w (w.putObj l.blk (.deferred none)):=St.write hr hm t rfl k s ⟨rfl,rfl,rfl⟩ A E ⟨⟨s,D⟩,_,B,fun h=>by cases h⟩;obtain⟨G,F⟩:=T6 hm;have y:m1.n=m.n:=by rw[F]
     refine⟨(by intro h;cases h),.inl ⟨l.blk,_,by rw[e];rfl,run_takeDeferred u,?_⟩⟩;exact zT (hi:=hi) r ds m1 md _ h ⟨by have:=hd.1;simpa using this,fun i id d a b=>hd.2 (i+1) id d (by simpa using a) (by simpa using b)⟩ c.hr (by rw[y];exact hf) fun w' f=>hR w' (St.trans hf c f)
    .cases h
   .cases h
def ZZ{f:FuncId}{fn:Func}{c:Code}{L:eP}(hf:P.funcs[f]? = some fn)(C:fn.body=some c)(Q:(fn.name == "runtime.NumGoroutine")=false)(hL:hH P base gl fn.ntmps c L.run) :
  kU P base gl f ⟨xI fn P L⟩:=by
 refine⟨fun vs m m' v hr=>A14 hL hr,?_⟩;intro ρ m m' w vs l v hr hS k hl;have hr:xI fn P L vs m=some (v,m'):=hr;unfold xI at hr;obtain⟨h1,hr⟩:=A3 hr;obtain⟨h1,O⟩:=B3 h1;have h1:=A1 h1;have O:=A1 O;left;constructor
 .have hn:fn.name ≠ "runtime.NumGoroutine":=by simpa using Q
  simp[callFunc,hf,hn,C]
 .obtain⟨e,s,m1,A,he,D,K,a⟩:=PG hr;have T:JU L (dU fr0 0 vs) m=L.run ⟨dU fr0 0 vs,⟨m.H,m.n,[],m.hi,m.lg⟩⟩:=rfl;rw[T]at A;have J:∀ t,vs.length<=t->t<512->(dU fr0 0 vs).get t=undef:=fun t k1 k2=>by
   rw[fU _ _ _ _ A2 k2,A8 A2,CX]
  have R:FrR ⟨none,[]⟩ ρ fn.ntmps (dU fr0 0 vs) { tmps:=⟨l⟩++Array.replicate (fn.ntmps-(Array.mk l).size) undef,defers:=[] }:=by
   have hlen:=hl.1;refine⟨by simp;omega,O,⟨[],rfl,?_⟩,fun hn=>⟨fun _=>rfl,fun b C=>?_⟩,fun t ht=>?_⟩
   .unfold dvG;cases N:Nat.ble fn.ntmps 510 with
    | true =>
      have:=A1 N;rw[J 510 A2 F7];exact .nil
    | false=>exact .nil
   .rw[J 511 A2 F7]at C;cases C
   .rw[fU _ _ _ _ A2 A2];by_cases I:t<vs.length
    .rw[A9 A2];have u:t<l.length:=A2
     have:=hl.2 t vs[t] l[t] (A5 I) (A5 u)
     simpa [B5,Array.getElem?_append,I,u,B2]using this
    .rw[A8 A2,CX];have u:¬ t<l.length:=A2;have:(({ toList:=l }:Array Value)++Array.replicate (fn.ntmps-(Array.mk l).size) undef).getD t undef=undef:=by
      simp[B5,Array.getElem?_append,u,eX];split<;>rfl
     rw[this];exact nR ρ
  have Z:m1.hi=m'.hi:=by
   have a:=a;unfold gcM at a;simp only[E1,H4,cU]at a;cases N:Z2 m.n 10 v && KR m.n m1.H (mN (m1.W.filter fun b=>Nat.blt b m.n || Nat.ble m1.hi b) [])with
   | true=>rw[N]at a;obtain⟨_,q⟩:=A3 a;cases q;rfl
   | false=>rw[N]at a;obtain⟨_,q⟩:=A3 a;cases q;rfl
  obtain⟨t1,t2,t3⟩:=uO D;have y:At P base gl ρ ⟨m.H,m.n,[],m.hi,m.lg⟩ s.m.hi w:=⟨k.hr,k.bs,fun b q1 q2=>k.fr b q1 (by rw[<- Z,t1];exact q2),k.gr,k.nh,fun b C=>(by cases C),k.gf⟩;have Y:Sat s.m.lg:=by rw[<- t3,<- YE a];exact hS
  refine nG.1 (callsIn_of_wp_marks (F:=fw none) (n:=0) hf C trivial ?_ rfl);refine hL.ok _ s e A Y ⟨none,[]⟩ ρ _ w _ y R (fun _ _ h=>h) fun U V w1 f1 B=>?_
  obtain⟨ds,d1,d2⟩:=f1.df;have d1:V.defers=ds:=by rw[d1];simp
  have M:LeavesInM (fw none) 0 P fn V.tmps (A0L P base ρ m m' w v) V.defers .returning w1:=by
   rw[d1];have E:=y.step B;refine zT (base:=base) (ρ:=U) (hi:=0) _ _ _ _ _ D d2 B.hr (by rw[t1];exact E.fr) fun w' G=>?_
   have X:=St.trans (by have:=y.fr;rw[t1];exact this) B G;obtain⟨v',g1,g2⟩:=A0v (s:=⟨s.fr,m1⟩) G.hr f1 K;obtain⟨_,ρ2,g3,g4⟩:=A6d a X k g1;exact⟨v',g2,v',ρ2,rfl,g3,g4⟩
  rcases he with rfl|rfl
  .exact M
  .exact M
def PP{f:FuncId}{fn:Func}{c:Code}{call:O0}(m:P.funcs[f]? = some fn)(l:fn.body=some c)(b:(fn.name == "runtime.NumGoroutine")=false)(k:U3 P base gl call)(e:eO P base gl call){lp:LpT}(a:MF P base gl fn.ntmps c lp) :
  kU P base gl f ⟨xI fn P (M5 P fn.ntmps gl call lp [] c)⟩:=ZZ m l b (hH.code k e a)
def FP{ρ:Ren}{nt:Nat}(f:nt<=512):∀ (ps:List Tmp) (args b:List Value) (fr c:Fr) (tmps:Array Value),sJ ps args fr=some c->LR ρ args b->(∀ t ∈ ps,t<nt)->tmps.size=nt->(∀ t,t<nt->VR ρ (fr.get t) (tmps.getD t undef)) ->
  ps.length=b.length/\((ps.zip b).foldl (fun tmps (t,a)=>tmps.setIfInBounds t a) tmps).size=nt/\(∀ t,t<nt->VR ρ (c.get t) (((ps.zip b).foldl (fun tmps (t,a)=>tmps.setIfInBounds t a) tmps).getD t undef))/\∀ t,nt<=t->t<512->c.get t=fr.get t
 | [],[],b,fr,c,tmps,h,hl,hp,hs,hg=>by
   cases h;rw[hl.nil_inv];exact⟨rfl,hs,hg,fun _ _ _=>rfl⟩
 | [],_::_,_,_,_,_,h,_,_,_,_=>by cases h
 | _::_,[],_,_,_,_,h,_,_,_,_=>by cases h
 | t::ps,v::vs,b,fr,c,tmps,h,hl,hp,hs,hg=>by
   obtain⟨v',y,rfl,h1,m⟩:=hl.tail;have k:t<nt:=hp t B1;have h:sJ ps vs (fr.set t v)=some c:=by
    have e:sJ (t::ps) (v::vs) fr=sJ ps vs (fr.set t v):=BQ t v fr (fun fr=>sJ ps vs fr);rw[<- e];exact h
   obtain⟨A,n,s,w⟩:=FP f ps vs y (fr.set t v) c (tmps.setIfInBounds t v') h m (fun u hu=>hp u (C3 _ hu)) (by simp[hs]) (fun u hu=>by
    rw[K9 _ _ _ _ (D1 k f) (D1 hu f)];simp only[B5,F3];by_cases e:u=t
    .subst e;rw[A9 rfl,A9 rfl,A9 (by rw[hs];exact hu)];exact h1
    .rw[A8 e,A8 (fun h=>e h.symm)]
     have:=hg u hu
     simpa [B5]using this)
   refine⟨by simp[A],n,s,fun u h3 l=>?_⟩;rw[w u h3 l,K9 _ _ _ _ (D1 k f) l,A8 (fun e=>by subst e;exact absurd k (Nat.not_lt.2 h3))]
def sH{b:Nat}{v:Value}{m':Mem}(h:oH b r=some (v,m')):∃ e s f q vs,r=some (e,s)/\Hp.get s.m.H b=some (.lp f q vs 1)/\bB s.m b (.lp f q vs (exN e))=some m'/\v=.bool (CQ e):=by
 unfold oH at h;split at h
 .rename_i e fr m;split at h
  .rename_i f q vs a;rw[E1]at h;split at h
   .rename_i m1 hm;cases h;exact⟨e,⟨fr,m⟩,f,q,vs,rfl,a,hm,rfl⟩
   .cases h
  .cases h
 .cases h
def sG{b:Nat}{c:eP}{v:Value}{m':Mem}(h:oG b c r=some (v,m')):∃ s f q vs m1,r=some (.normal,s)/\Hp.get s.m.H b=some (.lp f q vs 0)/\bB s.m b (.lp f q vs 1)=some m1/\oH b (c.run ⟨s.fr,m1⟩)=some (v,m'):=by
 unfold oG at h;split at h
 .rename_i fr m;split at h
  .rename_i f q vs a;split at h
   .rename_i m1 hm;exact⟨⟨fr,m⟩,f,q,vs,m1,rfl,a,hm,h⟩
   .cases h
  .cases h
 .cases h
def zF{C:Cx}{call:O0}{vs:C9}{m m':Mem}{v:Value}(h:(BW C call).run vs m=some (v,m')):∃ b args f q a fn body x ps as bd fr,vs=yv b::args/\Hp.get m.H b=some (.lp f q a 0)/\C.P.funcs[f]? = some fn/\fn.body=some body/\H8 q body=some (.rangeFunc x ps as bd) /\
  fn.ntmps<=510/\(∀ t ∈ ps.toList,t<fn.ntmps)/\sJ ps.toList args (dU fr0 0 a)=some fr /\
  oG b (M5 C.P fn.ntmps C.gl call (C.lp f) (q++[true]) bd) ((M5 C.P fn.ntmps C.gl call (C.lp f) (q++[false]) as).run ⟨fr.set 511 (yv b),m⟩)=some (v,m'):=by
 unfold BW at h;simp only at h;split at h
 .cases h
 .rename_i u args;split at h
  .cases h
  .rename_i b A
   have:=yP A;subst this;split at h
   .rename_i f q a y;split at h
    .cases h
    .rename_i fn B;split at h
     .cases h
     .rename_i body l;split at h
      .rename_i x ps as bd w;obtain⟨h1,h⟩:=A3 h;obtain⟨h1,n⟩:=B3 h1;split at h
       .rename_i fr c;refine⟨b,args,f,q,a,fn,body,x,ps,as,bd,fr,rfl,y,by simpa using B,l,w,A1 h1,fun t s=>A1 (D2.1 n t s),c,?_⟩;have e:∀ (k:Fr->Res),tG (sel 7) (sel 7) (sel 7) (yv b) fr k=k (fr.set 511 (yv b)):=fun k=>BQ 511 (yv b) fr k
        rw[e]at h;exact h
       .cases h
      .cases h
   .cases h
def UA{C:Cx}{call:O0}(O:U3 C.P base C.gl call)(Q:eO C.P base C.gl call)(s:∀ f fn body,C.P.funcs[f]? = some fn->fn.body=some body->MF C.P base C.gl fn.ntmps body (C.lp f)):A5V C.P base C.gl (BW C call):=by
 refine⟨fun vs m m' v h=>?_,fun ρ m m' w b args c v l h hS y hl L=>?_⟩
 .obtain⟨b,args,f,q,N,fn,body,x,ps,as,bd,fr,rfl,_,h1,H,h3,_,_,_,h⟩:=zF h;obtain⟨s1,f2,q2,ay,m2,g1,_,g3,h⟩:=sG h;obtain⟨e,s2,f3,q3,ax,Z,_,k3,_⟩:=sH h;have a1:=(S2 O Q (s f fn body h1 H) as (q++[false]) (H7 h3 rfl) _ _ _ g1).2;have a2:=(S2 O Q (s f fn body h1 H) bd (q++[true]) (H7 h3 rfl) _ _ _ Z).2;rw[(lE k3).2];have a2:m2.lg.le s2.m.lg:=a2;rw[(lE g3).2]at a2;exact a1.trans a2
 .obtain⟨b',aq,f,q,N,fn,body,x,ps,as,bd,fr,e0,hg,h1,H,h3,h4,h5,h6,h⟩:=zF h;cases e0;obtain⟨s1,f2,q2,ay,m2,g1,g2,g3,h⟩:=sG h;obtain⟨e,s2,f3,q3,ax,Z,k2,k3,rfl⟩:=sH h;have c1:=S2 O Q (s f fn body h1 H) as (q++[false]) (H7 h3 rfl) _ _ _ g1;have c2:=S2 O Q (s f fn body h1 H) bd (q++[true]) (H7 h3 rfl) _ _ _ Z;obtain⟨j1,j2⟩:=lE g3;obtain⟨j3,j4⟩:=lE k3;have U:Sat s2.m.lg:=by rw[<- j4];exact hS
  have au:Sat s1.m.lg:=by rw[<- j2];exact Q8.le U c2.2
  have ao:m2.hi<=s2.m.hi:=c2.1;obtain⟨⟨⟨Y,b2⟩,r,b3,b4⟩,_⟩:=y.hr.atl L hg;obtain⟨an,av,x',e1,e2,e3,e4⟩:=b4.code;rw[h1]at e1;cases e1;rw[H]at e2;cases e2;rw[h3]at e3;cases e3;have hlen:=b4.fr.1;have aw:∀ t,N.length<=t->t<512->(dU fr0 0 N).get t=undef:=fun t q1 q2=>by
   rw[fU _ _ _ _ A2 q2,A8 A2,CX]
  obtain⟨p1,p2,p3,p4⟩:=FP (ρ:=ρ) (nt:=fn.ntmps) A2 r.params.toList args c (dU fr0 0 N) fr r.tmps h6 hl h5 (by simpa [e4]using hlen.symm) (fun t ht=>by
   rw[fU _ _ _ _ A2 A2,A9 A2];have X:t<N.length:=A2;have D:t<r.tmps.toList.length:=A2
   have:=b4.fr.2 t N[t] _ (A5 X) (A5 D);have V:t<r.tmps.size:=by simpa using D
   simpa [B5,X,V,B2]using this)
  have K:(r.params.zip ⟨c⟩).foldl (fun tmps (t,a)=>tmps.setIfInBounds t a) r.tmps=(r.params.toList.zip c).foldl (fun tmps (t,a)=>tmps.setIfInBounds t a) r.tmps:=by
   rw[<- Array.foldl_toList];simp
  refine⟨r.fn,_,r.assign,r.body,run_yield b3 (by show c.length=_;rw[<- p1];simp),?_⟩;rw[K];refine roundIn_of_wpIn (F:=Fence.wide) (n:=0) trivial ?_;have G:∀ t,t<511->(fr.set 511 (yv b)).get t=fr.get t:=fun t ht=>by rw[K9 _ _ _ _ F7 A2,A8 A2]
  have az:FrR ⟨some l.blk,[]⟩ ρ fn.ntmps (fr.set 511 (yv b)) { tmps:=(r.params.toList.zip c).foldl (fun tmps (t,a)=>tmps.setIfInBounds t a) r.tmps,defers:=[] }:=by
   refine⟨p2,A2,⟨[],rfl,?_⟩,fun _=>?_,fun t ht=>by rw[G t A2];exact p3 t ht⟩
   .unfold dvG;rw[G 510 F7,p4 510 h4 F7,aw 510 A2 F7];cases Nat.ble fn.ntmps 510<;>exact .nil
   .rw[K9 _ _ _ _ F7 F7,A9 rfl];refine⟨fun hu=>(by cases hu),fun b0 R=>?_⟩;have:b0=b:=by
     have:cW (yv b)=some b:=rfl;rw[this]at R;exact(A7 R).symm
    subst this;exact⟨l,L,rfl⟩
  have M:J2 ρ m.n m'.hi:=y.fr;refine S1 (z:=⟨some l.blk,[]⟩) O Q (s f fn body h1 H) r.assign (q++[false]) (H7 h3 rfl) ρ ⟨fr.set 511 (yv b),m⟩ s1 .normal _ w _ g1 au (y.less (by rw[j3];omega)) az fun J a1 w1 f1 u=>?_
  have I:=u.ext _ _ L;obtain⟨⟨⟨_,_⟩,r2,d3,d4⟩,_⟩:=u.hr.atl I g2;obtain⟨o1,o2,o3⟩:=gH (o:=.loop { r2 with state:=.busy }) (C6.1 d3).1;have W:St C.P base J J s1.m m2 w1 (w1.putObj l.blk (.loop { r2 with state:=.busy })):=St.write u.hr g3 g2 rfl I Y ⟨rfl,rfl,rfl⟩ o1 o3 ⟨⟨Y,b2⟩,_,o2,d4.code,d4.fr,rfl⟩;refine⟨_,run_beginRound d3 d4.st.1,?_⟩;have E:=(y.step u);have B:=E.step W;refine S1 (z:=⟨some l.blk,[]⟩) O Q (s f fn body h1 H) r.body (q++[true]) (H7 h3 rfl) J ⟨s1.fr,m2⟩ s2 e _ _ _ Z U (B.less (by rw[j3];exact A6 _)) f1 fun ρ2 a2 w3 f3 A=>?_
  have T:=A.ext _ _ I;obtain⟨⟨⟨_,_⟩,r3,d5,d6⟩,_⟩:=A.hr.atl T k2;have fin:∀ (jump:Option Code),StR (exN e) (if jump.isNone then .ready else .done) jump->jump.isNone=CQ e->∃ v w',(Instr.endRound l.blk jump).run C.P w3=.ok v w'/\A0L C.P base ρ m m' w (.bool (CQ e)) (.returned v) w':=fun jump hj he=>by
   refine⟨_,_,run_endRound jump d5,?_⟩;obtain⟨o4,o5,o6⟩:=gH (o:=.loop { r3 with state:=if jump.isNone then .ready else .done,pending:=jump }) (C6.1 d5).1;have ar:St C.P base ρ2 ρ2 s2.m m' w3 (w3.putObj l.blk (.loop { r3 with state:=if jump.isNone then .ready else .done,pending:=jump })):=St.write A.hr k3 k2 rfl T Y ⟨rfl,rfl,rfl⟩ o4 o6 ⟨⟨Y,b2⟩,_,o5,d6.code,d6.fr,hj⟩;exact⟨_,ρ2,rfl,by rw[he];exact .pure rfl,St.trans M u (St.trans E.fr W (St.trans B.fr A ar))⟩
  cases e with
  | normal=>exact fin none ⟨rfl,rfl⟩ rfl
  | ret=>exact fin (some .ret) ⟨rfl,rfl⟩ rfl
  | exit k=>exact fin (some (.exit k)) ⟨rfl,rfl⟩ rfl
structure A2G (C:Cx) (base:Nat):Prop where
 names:DV C.P
 ext:∀ f k fn,C.P.funcs[f]? = some fn->fn.body=none->HU C.ext f=some k->kU C.P base C.gl f ⟨nA k⟩
 con:∀ f c,C.con f=some c->kU C.P base C.gl f c
 lp:∀ f fn body,C.P.funcs[f]? = some fn->fn.body=some body->MF C.P base C.gl fn.ntmps body (C.lp f)
 draws:∀ call,U3 C.P base C.gl call->eO C.P base C.gl call
def lJ(f:FuncId):kU P base gl f ⟨fun _ _=>none⟩:=⟨fun vs m m' v hr=>(by cases hr),fun ρ m m' w vs a v hr=>(by cases hr)⟩
def A0_:A5V P base gl ⟨fun _ _=>none⟩:=⟨fun vs m m' v hr=>(by cases hr),fun ρ m m' w b args a v l hr=>(by cases hr)⟩
def xC{C:Cx}(h:A2G C base):∀ (d:Nat),U3 C.P base C.gl (sW C d)
 | 0=>⟨fun f=>lJ f,A0_⟩
 | d+1=>by
   have e:=xC h d;refine⟨fun f=>?_,UA e (h.draws _ e) h.lp⟩;show kU C.P base C.gl f (AU C (sW C d) f);unfold AU;split
   .exact lJ f
   .rename_i fn a;have a:C.P.funcs[f]? = some fn:=by simpa using a
    split
    .rename_i c b;exact h.con f c b
    .split
     .rename_i l;split
      .rename_i k m;exact h.ext f k fn a l m
      .exact lJ f
     .rename_i c l;exact PP (gl:=C.gl) a l (h.names f fn a) e (h.draws _ e) (h.lp f fn c a l)
end
end
section
open Go
variable [Ora]
def DU(P:Program)(nt gl:Nat)(call:O0)(all:List Oper)(b:List Nat)(rs:List Rec)(c:Bool)(o:Oper)(fr e:Fr)(m m2:Mem)(v:Value):Prop :=
 wV nt o.dst=true/\KM nt gl o.op=true/\e=tJ o.dst v fr /\
 ((c=false/\∃ lg,v6 nt fr m.lg all o=some (false,lg)/\v=undef/\m2=m.wLg lg) ∨
   (c=false/\∃ lg a,v6 nt fr m.lg all o=some (true,lg)/\jK fr (m.wLg lg) o b rs (V1 P call o)=some (v,a)/\m2=m.wLg a) ∨
   (c=true/\∃ lg,v6 nt fr m.lg all o=some (true,lg)/\(V1 P call o).run fr (m.wLg lg)=some (v,m2)/\m.hi<=m2.hi) ∨
   (c=false/\p0 o.op=false/\∃ lg,v6 nt fr m.lg all o=some (true,lg)/\∃ mv m',yR (m.wLg lg) (A6t fr o.op) (zO b rs)=some mv/\(V1 P call o).run fr mv=some (v,m')/\m'.W=[]/\m.hi<=m'.hi/\jR (m.wLg lg) m'=some m2))
def RT{α:Type}{c:Bool}{x:Option α}{y:α}(h:(bif c then none else x)=some y):c=false/\x=some y:=by cases c<;>first|exact⟨rfl,h⟩|cases h
def cM(nt:Nat)(all:List Oper)(op:OpC)(b:List Nat)(rs:List Rec)(fr:Fr)(o:Oper)(m m2:Mem)(v:Value)(r:Option (Nat×AB)):Prop :=
 (∃ lg,v6 nt fr m.lg all o=some (false,lg)/\v=undef/\m2=m.wLg lg/\r=none)∨(∃ lg a,v6 nt fr m.lg all o=some (true,lg)/\jK fr (m.wLg lg) o b rs op=some (v,a)/\m2=m.wLg a/\r=HM m.H fr o.op)
def QsN(e:Bool)(i nt:Nat)(all:List Oper)(op:OpC)(b:List Nat)(rs:List Rec)(fr:Fr)(o:Oper)(m m2:Mem)(v:Value)(c a:Qs):Prop :=
 (e=true/\a=c/\WW b m2.H c=true)∨(e=false/\a=c)∨(e=false/\∃ r,a=(i,r)::c/\cM nt all op b rs fr o m m2 v r)
def A0J(P:Program)(nt gl:Nat)(call:O0)(all:List Oper)(r:List Oper)(i:Nat)(bs:List G5)(rs:List Rec)(b:Qs)(s a:S):Prop :=
  ∃ (F:Nat->Fr) (M:Nat->Mem) (V:Nat->Value) (R:Nat->List Rec) (X:Nat->Qs) (B:Nat->Bool),F i=s.fr/\M i=s.m/\R i=rs/\X i=b/\F (i+r.length)=a.fr/\M (i+r.length)=a.m /\
   ∀ j o,r[j]? = some o->DU P nt gl call all (bs.getD j []) (R (i+j)) (B (i+j)) o (F (i+j)) (F (i+j+1)) (M (i+j)) (M (i+j+1)) (V (i+j))/\(B (i+j)=true->FA o.op (i+j) (bs.getD j []) (bs.drop (j+1)) (r.drop (j+1)) (X (i+j))=true) /\
    ((R (i+j+1)=R (i+j)/\∃ lg,M (i+j+1)=(M (i+j)).wLg lg)∨(B (i+j)=true/\R (i+j+1)=[])∨R (i+j+1)=⟨i+j,(M (i+j)).n,(M (i+j+1)).n⟩::R (i+j)) /\
    QsN (B (i+j)) (i+j) nt all (V1 P call o) (bs.getD j []) (R (i+j)) (F (i+j)) o (M (i+j)) (M (i+j+1)) (V (i+j)) (X (i+j)) (X (i+j+1))
def A2M{P:Program}{nt gl:Nat}{call:O0}{all:List Oper}:∀ (r:List Oper) (i:Nat) (bs:List G5) (rs:List Rec) (e:Qs) (s f:S),d8 P nt gl call all r i bs rs e s=some f->A0J P nt gl call all r i bs rs e s f
 | [],i,bs,rs,e,s,f,h=>by
   have h:some s=some f:=by cases bs<;>exact h
   cases h;exact⟨fun _=>s.fr,fun _=>s.m,fun _=>undef,fun _=>rs,fun _=>e,fun _=>false,rfl,rfl,rfl,rfl,rfl,rfl,fun j o A=>by simp at A⟩
 | o::r,i,[],rs,e,s,f,h=>by obtain⟨fr,m⟩:=s;cases h
 | o::r,i,b::bs,rs,e,⟨fr,⟨H0,n0,W0,hi0,lg0⟩⟩,f,h=>by
   generalize u:(⟨H0,n0,W0,hi0,lg0⟩:Mem)=m at h;have glue:∀ (w:Bool),(w=true->FA o.op i b bs r e=true)->∀ (v:Value) (m2:Mem) (a:List Rec) (k:Qs),DU P nt gl call all b rs w o fr (tJ o.dst v fr) m m2 v->((a=rs/\∃ lg,m2=m.wLg lg)∨(w=true/\a=[])∨a=⟨i,m.n,m2.n⟩::rs)->QsN w i nt all (V1 P call o) b rs fr o m m2 v e k->d8 P nt gl call all r (i+1) bs a k ⟨tJ o.dst v fr,m2⟩=some f->A0J P nt gl call all (o::r) i (b::bs) rs e ⟨fr,m⟩ f:=fun w I v m2 a k L J D y=>by
    obtain⟨F,M,V,R,X,B,f1,f2,f3,E,f4,f5,f6⟩:=A2M r (i+1) bs a k _ f y;refine⟨fun j=>if j<=i then fr else F j,fun j=>if j<=i then m else M j,fun j=>if j<=i then v else V j,fun j=>if j<=i then rs else R j,fun j=>if j<=i then e else X j,fun j=>if j<=i then w else B j,by simp,by simp,by simp,by simp,?_,?_,?_⟩
    .simp only[D5];rw[A8 A2,show i+(r.length+1)=i+1+r.length by omega];exact f4
    .simp only[D5];rw[A8 A2,show i+(r.length+1)=i+1+r.length by omega];exact f5
    .intro j o' A;cases j with
     | zero =>
       simp at A;subst A;simp only[hY,A6,if_true,Nat.not_succ_le_self,if_false,f1,f2,f3,E];exact⟨L,I,J,D⟩
     | succ j =>
       have G:r[j]? = some o':=by simpa using A
       have:=f6 j o' G;simp only[show ¬ i+(j+1)<=i by omega,show ¬ i+(j+1)+1<=i by omega,if_false];rw[show i+(j+1)=i+1+j by omega]
       simpa using this
   subst u;unfold d8 at h;split at h
   .rename_i lg hw N;obtain⟨d1,d2⟩:=B3 N;cases t:FA o.op i b bs r e with
    | true =>
      rw[t]at h;simp only[D8]at h;split at h
      .rename_i v m2 hr;obtain⟨c,h⟩:=A3 h;obtain⟨c,H⟩:=B3 c;rw[bL]at h;exact glue true (fun _=>t) v m2 _ _ ⟨d1,d2,rfl,.inr (.inr (.inl ⟨rfl,lg,hw,hr,A1 c⟩))⟩ (.inr (.inl ⟨rfl,rfl⟩)) (.inl ⟨rfl,rfl,H⟩) h
      .cases h
    | false =>
      rw[t]at h;simp only[D4]at h;split at h
      .rename_i v l C;obtain⟨O,C⟩:=A3 C;rw[bL]at h;exact glue false (fun h=>by cases h) v _ _ _ ⟨d1,d2,rfl,.inr (.inl ⟨rfl,lg,l,hw,C,rfl⟩)⟩ (.inl ⟨rfl,l,rfl⟩) (.inr (.inr ⟨rfl,_,rfl,.inr ⟨lg,l,hw,C,rfl,rfl⟩⟩)) h
      .obtain⟨K,h⟩:=RT h;unfold PJ at h;simp only at h;split at h
       .rename_i mv hv;split at h
        .rename_i v m' hr;split at h
         .rename_i Q c;split at h
          .rename_i m2 hm;rw[bL]at h;exact glue false (fun h=>by cases h) v m2 _ _ ⟨d1,d2,rfl,.inr (.inr (.inr ⟨rfl,K,lg,hw,mv,m',hv,hr,Q,A1 c,hm⟩))⟩ (.inr (.inr rfl)) (.inr (.inl ⟨rfl,rfl⟩)) h
          .cases h
         .cases h
        .cases h
       .cases h
   .rename_i lg hw N;obtain⟨d1,d2⟩:=B3 N;rw[bL]at h;exact glue false (fun h=>by cases h) undef _ _ _ ⟨d1,d2,rfl,.inl ⟨rfl,lg,hw,rfl,rfl⟩⟩ (.inl ⟨rfl,lg,rfl⟩) (.inr (.inr ⟨rfl,_,rfl,.inl ⟨lg,hw,rfl,rfl,rfl⟩⟩)) h
   .cases h
def IY{l:G5}{b k:Nat}(h:k ∈ A0H l b):k=b∨k ∈ l:=by
 unfold A0H at h;cases e:m9 l b with
 | true=>rw[e]at h;exact .inr h
 | false=>rw[e,D4,E1]at h;exact B4.1 h
def zW:∀ {a b:G5} {k:Nat},k ∈ OF a b->k ∈ a∨k ∈ b
 | [],b,k,h=>.inr h
 | x::a,b,k,h=>by
   rcases IY (show k ∈ A0H (OF a b) x from h)with rfl|h
   .exact .inl B1
   .rcases zW h with h|h
    .exact .inl (C3 _ h)
    .exact .inr h
def rV{acc:List G5}:∀ {es:List Edge} {k:Nat},k ∈ qH acc es->∃ e ∈ es,Region.binds .any e=true/\(k=e.on∨k ∈ acc.getD e.on [])
 | [],k,h=>by cases h
 | e::r,k,h=>by
   unfold qH at h;cases a:Region.binds .any e with
   | true =>
     rw[a]at h;rw[D8]at h;rcases(IY h).imp_right zW with h|h|h
     .exact⟨e,B1,a,.inl h⟩
     .exact⟨e,B1,a,.inr h⟩
     .obtain⟨e',h1,b⟩:=rV h;exact⟨e',C3 _ h1,b⟩
   | false =>
     rw[a]at h;obtain⟨e',h1,b⟩:=rV h;exact⟨e',C3 _ h1,b⟩
def rU:∀ (r:List Oper) (acc:List G5),∃ a,X6 r acc=acc++a/\a.length=r.length/\∀ j o,r[j]? = some o->∃ pre,pre=(acc++a).take (acc.length+j)/\a[j]? = some (qH pre o.after.toList)
 | [],acc=>⟨[],by simp[X6],rfl,fun j o h=>by simp at h⟩
 | o::r,acc=>by
   obtain⟨a,h1,c,h3⟩:=rU r (acc++[qH acc o.after.toList]);refine⟨qH acc o.after.toList::a,by rw[X6,H4,h1];simp,by simp[c],fun j o' b=>?_⟩;cases j with
   | zero =>
     simp at b;subst b;exact⟨_,rfl,by simp⟩
   | succ j =>
     obtain⟨pre,g1,g2⟩:=h3 j o' (by simpa using b);refine⟨pre,?_,by simpa using g2⟩;rw[g1];simp[aY,hZ 1 j]
def A2C{ops:List Oper}{k:Nat}(l:ops[i]? = some o)(he:∀ e ∈ o.after.toList,Region.binds .any e=true->e.on<i)(b:k ∈ (X6 ops []).getD i []) :
  ∃ e ∈ o.after.toList,Region.binds .any e=true/\(k=e.on∨k ∈ (X6 ops []).getD e.on []):=by
 obtain⟨s,h1,n,h3⟩:=rU ops [];simp only[G1]at h1 h3;obtain⟨pre,g1,g2⟩:=h3 i o l;rw[h1]at b ⊢;rw[B2,g2]at b;obtain⟨e,c,f,m⟩:=rV (show k ∈ qH pre o.after.toList from b);refine⟨e,c,f,m.imp id fun h=>?_⟩;have a:=he e c f;rw[g1]at h;simp only[Q6,E8,B2]at h ⊢;rw[F4 a]at h;exact h
def kV(ops:List Oper)(D:Nat->Prop):Prop:=∀ i o,ops[i]? = some o->D i->∀ e ∈ o.after.toList,Region.binds .any e=true->D e.on
def xN{ops:List Oper}{D:Nat->Prop}(m:kV ops D)(c:∀ i o,ops[i]? = some o->∀ e ∈ o.after.toList,Region.binds .any e=true->e.on<i) :
  ∀ (n i k:Nat) (o:Oper),i<n->ops[i]? = some o->(∀ e ∈ o.after.toList,Region.binds .any e=true->D e.on)->k ∈ (X6 ops []).getD i []->D k
 | 0,i,k,o,h,_,_,_=>by omega
 | n+1,i,k,o,h,ho,he,hk=>by
   obtain⟨e,b,f,a⟩:=A2C ho (c i o ho) hk;rcases a with rfl|a
   .exact he e b f
   .have l:=c i o ho e b f;have hlen:e.on<ops.length:=Nat.lt_trans l (B0.1 ho).1;refine xN m c n e.on k ops[e.on] A2 (A5 hlen) (fun e' h1 s=>m e.on _ (A5 hlen) (he e b f) e' h1 s) a
def BC{H0:Hp AB}:∀ (l:List Nat) (H:Hp AB),(∀ b ∈ l,b<=G9)->∀ id,id<=G9->Hp.get (BD H0 H l) id=if id ∈ l then Hp.get H0 id else Hp.get H id
 | [],H,_,id,_=>by simp[BD]
 | b::r,H,hl,id,hid=>by
   have c:=hl b B1;rw[BD,dF,BC r _ (fun x hx=>hl x (C3 _ hx)) id hid,E5 _ _ _ _ c hid];by_cases h1:id ∈ r
   .rw[A9 h1,A9 (C3 _ h1)]
   .rw[A8 h1];by_cases a:id=b
    .subst a;rw[A9 rfl,A9 B1]
    .rw[A8 a,A8 (by simp[h1,a])]
def AA:∀ (l:List Nat) (H:Hp AB),(∀ b ∈ l,b<=G9)->∀ id,id<=G9->Hp.get (AC H l) id=if id ∈ l then none else Hp.get H id
 | [],H,_,id,_=>by simp[AC]
 | b::r,H,hl,id,hid=>by
   have c:=hl b B1;rw[AC,dF,AA r _ (fun x hx=>hl x (C3 _ hx)) id hid,E5 _ _ _ _ c hid];by_cases h1:id ∈ r
   .rw[A9 h1,A9 (C3 _ h1)]
   .rw[A8 h1];by_cases a:id=b
    .subst a;rw[A9 rfl,A9 B1]
    .rw[A8 a,A8 (by simp[h1,a])]
def jS:∀ (n a b:Nat),b ∈ JV a n↔a<=b/\b<a+n
 | 0,a,b=>by simp[JV]
 | n+1,a,b=>by
   simp only[JV,B4,jS n (a+1) b];omega
def GK{m m' m2:Mem}(h:jR m m'=some m2)(s:m.n<=m.hi)(e:m.hi<=m'.hi):m.n<=m2.n/\m.hi<=m2.hi/\m2.n<=m2.hi/\m2.W=m.W/\(m2.n=m'.hi∨(m2.n=m.n/\m'.hi<=m.n))/\m2.hi=m'.hi/\m2.lg=m'.lg /\
  ∀ id,id<=G9->Hp.get m2.H id=if m.n<=id/\id<m2.n then Hp.get m'.H id else Hp.get m.H id:=by
 unfold jR at h;cases a:Nat.ble m'.hi m.n with
 | true =>
   have a:=A1 a;have f:Nat.ble m'.hi m.n=true:=C5 a;rw[f]at h;cases h;refine⟨A6 _,A6 _,s,rfl,.inr ⟨rfl,a⟩,by show m.hi=m'.hi;omega,rfl,fun id hid=>?_⟩;rw[A8 (by show ¬ (m.n<=id/\id<m.n);omega)]
 | false =>
   have c:m.n<m'.hi:=by
    rcases F2 m.n m'.hi with h1|h1
    .exact h1
    .rw[show Nat.ble m'.hi m.n=true from C5 h1]at a;cases a
   rw[a]at h;simp only[D4]at h;obtain⟨l,h⟩:=A3 h;have l:=A1 l;simp only[E1,cU]at h;cases h;refine⟨hP c,e,A6 _,rfl,.inl rfl,rfl,rfl,fun id hid=>?_⟩;show Hp.get (BD m'.H m.H (JV m.n (m'.hi-m.n))) id=_;rw[BC _ _ (fun b k=>by have:=(jS _ _ _).1 k;omega) id hid];by_cases h1:m.n<=id/\id<m'.hi
   .rw[A9 ((jS _ _ _).2 A2),A9 h1]
   .rw[A8 (fun h=>h1 (by have:=(jS _ _ _).1 h;omega)),A8 h1]
def s8(D:Nat->Bool)(dst:Nat->Option Tmp)(V:Nat->Value)(f0:Tmp->Value)(t:Tmp):Nat->Value
 | 0=>f0 t
 | n+1=>if D n=true/\dst n=some t then V n else s8 D dst V f0 t n
def dP{D D':Nat->Bool}{dst:Nat->Option Tmp}{V:Nat->Value}{f0:Tmp->Value}{t:Tmp}:∀ (n:Nat),(∀ k,k<n->dst k=some t->D k=D' k)->s8 D dst V f0 t n=s8 D' dst V f0 t n
 | 0,_=>rfl
 | n+1,h=>by
   unfold s8;have b:=dP (V:=V) (f0:=f0) n fun k c=>h k (Nat.lt_succ_of_lt c)
   by_cases a:dst n=some t
   .rw[h n (I3 n) a,b]
   .rw[A8 (fun hh=>a hh.2),A8 (fun hh=>a hh.2),b]
def pP{D D':Nat->Bool}{dst:Nat->Option Tmp}{V:Nat->Value}{f0:Tmp->Value}{t:Tmp}{i:Nat}(hD:∀ k,k≠i->D' k=D k)(hi:D' i=true):∀ (n:Nat),i<n->dst i=some t->(∀ k,i<k->k<n->dst k=some t->D k=false)->s8 D' dst V f0 t n=V i
 | 0,h,_,_=>by omega
 | n+1,h,hd,hl=>by
   unfold s8;by_cases e:n=i
   .subst e;rw[A9 ⟨hi,hd⟩]
   .have a:i<n:=A2;rw[A8 (fun hh=>by
     have h1:=hl n a (I3 n) hh.2;rw[hD n e,h1]at hh;exact absurd hh.1 (by simp))]
    exact pP hD hi n a hd fun k c b=>hl k c (Nat.lt_succ_of_lt b)
def mX{D D':Nat->Bool}{dst:Nat->Option Tmp}{V:Nat->Value}{f0:Tmp->Value}{t:Tmp}(hD:∀ k,k≠i->D' k=D k)(a:dst i≠some t)(n:Nat):s8 D' dst V f0 t n=s8 D dst V f0 t n :=
 dP n fun k _ b=>hD k fun e=>a (e▸b)
structure HRf (P:Program) (base:Nat) (ρ:Ren) (G:Nat->Option AB) (w:World):Prop where
 dom:∀ b l,ρ b=some l->b<=G9
 at_:∀ id,id<=G9->∀ ab,G id=some ab->∃ l,ρ id=some l/\BR P ρ ab l w/\(ab.rw=true->l.on=true->base<=l.blk/\∀ id2,id2<=G9->∀ ab2 l2,G id2=some ab2->ρ id2=some l2->Tc ab2 l2 l.blk->id2=id)
def HRf.hr{P:Program}{base:Nat}{ρ:Ren}{G:Nat->Option AB}{H:Hp AB}{w:World}(h:HRf P base ρ G w)(n:∀ id,id<=G9->∀ ab,Hp.get H id=some ab->G id=some ab):HR P base ρ H w :=
 ⟨h.dom,fun id hid ab m=>let ⟨l,a,b,c⟩:=h.at_ id hid ab (n id hid ab m);⟨l,a,b,fun hr s=>⟨(c hr s).1,fun k e f l2 g=>(c hr s).2 k e f l2 (n k e f g)⟩⟩⟩
def HR.f{P:Program}{base:Nat}{ρ:Ren}{H:Hp AB}{w:World}(h:HR P base ρ H w){G:Nat->Option AB}(s:∀ id,id<=G9->∀ ab,G id=some ab->Hp.get H id=some ab):HRf P base ρ G w :=
 ⟨h.dom,fun id hid ab n=>let ⟨l,a,b,c⟩:=h.at_ id hid ab (s id hid ab n);⟨l,a,b,fun hr t=>⟨(c hr t).1,fun m e k l2 g=>(c hr t).2 m e k l2 (s m e k g)⟩⟩⟩
def Ff(ρ:Ren)(G:Nat->Option AB)(k:Nat):Prop:=∃ id ab l,id<=G9/\G id=some ab/\ρ id=some l/\Tf ab l k
end
end Go.Sx
