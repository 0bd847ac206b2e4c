import Derived.Test.YtdkdbjgkedahfaaGreatDoorX5
set_option linter.all false
set_option maxRecDepth 100000
set_option maxHeartbeats 4000000
namespace Go.Sx
open Go
variable {ds:List Deferred}{d:Option Tmp}{o p:Oper}{lg':Lg}{i j:Nat}{q:List Bool}{r:Option (Ex×S)}{g:Value}{x:Operand}{me:FuncId}{ps:Array Tmp}{as bd:Code}
section
open Go
variable [Ora]
section
variable {P:Program} {base gl nt:Nat}
def GR(gl:Nat)(ρ:Ren):Prop:=∀ g,g<gl->ρ g=some (lc g 0 0)
def GR.mono{ρ a:Ren}(h:GR gl ρ)(he:∀ b l,ρ b=some l->a b=some l):GR gl a:=fun g c=>he _ _ (h g c)
structure At (P:Program) (base gl:Nat) (ρ:Ren) (m:Mem) (hi:Nat) (w:World):Prop where
 hr:HR P base ρ m.H w
 bs:base<=w.heap.size
 fr:L1 ρ m.n hi
 gr:GR gl ρ
 nh:m.n<=m.hi
 wb:∀ b ∈ m.W,∀ l,ρ b=some l->l.on=true->base<=l.blk
 gf:∀ k o,Ora.G k=some o->k<base/\w.heap[k]? = some o
def At.wbs{ρ c:Ren}{m m':Mem}{hi:Nat}{w w':World}(h:At P base gl ρ m hi w)(st:St P base ρ c m m' w w'):∀ b ∈ m'.W,∀ l,ρ b=some l->l.on=true->base<=l.blk:=fun b n l e a=>by
 by_cases hm:b ∈ m.W
 .exact h.wb b hm l e a
 .obtain⟨ab,f,k⟩:=st.wrw b n hm l e;exact((h.hr.atl e f).2 k a).1
def At.below{ρ a:Ren}{m m':Mem}{hi:Nat}{w w':World}(h:At P base gl ρ m hi w)(st:St P base ρ a m m' w w'){k:Nat}(f:k<base):w'.heap[k]? = w.heap[k]? :=
 st.keep k (E1 f h.bs) fun b s l n c e=>by have:=h.wbs st b s l n c;omega
def At.step{ρ a:Ren}{m m':Mem}{hi:Nat}{w w':World}(h:At P base gl ρ m hi w)(st:St P base ρ a m m' w w'):At P base gl a m' hi w' :=
 ⟨st.hr,C3 h.bs st.size,fun b f t=>by
  cases s:a b with
  | none=>rfl
  | some l =>
    cases c:ρ b with
    | some n=>rw[h.fr b (C3 st.nle f) t]at c;cases c
    | none=>have:=(st.new b l s c).2;omega,h.gr.mono st.ext,st.nhi h.nh,fun b s l y e=>by
  cases c:ρ b with
  | some n =>
    have:=st.ext b n c;rw[y]at this
    have:=A8 this;subst this;exact h.wbs st b s l c e
  | none =>
    rcases st.blk b l y c e with f|⟨A,f,n,t,v,h3⟩
    .have:=h.bs;omega
    .rw[<- h3];exact h.wbs st A f n t v,fun k o u=>⟨(h.gf k o u).1,(h.below st (h.gf k o u).1).trans (h.gf k o u).2⟩⟩
def At.less{ρ:Ren}{m:Mem}{hi hi':Nat}{w:World}(h:At P base gl ρ m hi w)(e:hi'<=hi):At P base gl ρ m hi' w:=⟨h.hr,h.bs,fun b a c=>h.fr b a (E1 c e),h.gr,h.nh,h.wb,h.gf⟩
def At.wLg{ρ:Ren}{m:Mem}{hi:Nat}{w:World}(h:At P base gl ρ m hi w)(lg:Lg):At P base gl ρ (m.wLg lg) hi w:=by
 cases m;exact⟨h.hr,h.bs,h.fr,h.gr,h.nh,h.wb,h.gf⟩
def A1p(P:Program)(base:Nat)(ρ:Ren)(m m':Mem)(w:World)(v:Value):Ending->World->Prop:=fun e w'=>∃ v' a,e=.returned v'/\VR a v v'/\St P base ρ a m m' w w'
structure oR (P:Program) (base gl:Nat) (f:FuncId) (c:FnC):Prop where
 lg:∀ (vs:List Value) (m m':Mem) (v:Value),c.run vs m=some (v,m')->m.lg.le m'.lg
 ok:∀ (ρ:Ren) (m m':Mem) (w:World) (vs vs':List Value) (v:Value),c.run vs m=some (v,m')->Sat m'.lg->At P base gl ρ m m'.hi w->LR ρ vs vs' ->
  ((callFunc f ⟨vs'⟩).run P w=.ok (.enter f ⟨vs'⟩) w/\Calls P f ⟨vs'⟩ w (A1p P base ρ m m' w v)) ∨
  (∃ v' ρ' w',(callFunc f ⟨vs'⟩).run P w=.ok (.value v') w'/\VR ρ' v v'/\St P base ρ ρ' m m' w w')
structure Zn where
 rd:Option Nat
 D:List Deferred
def A6o(l:Loc):Deferred:={ target:=.collected l.blk,args:=#[] }
def DfR(ρ:Ren)(ids:List Nat)(ds:List Deferred):Prop:=ids.length=ds.length/\∀ (i:Nat) (id:Nat) (d:Deferred),ids[i]? = some id->ds[i]? = some d->∃ l,ρ id=some l/\d=A6o l
def DfR.mono{ρ f:Ren}{ids:I7}(h:DfR ρ ids ds)(he:∀ b l,ρ b=some l->f b=some l):DfR f ids ds:=⟨h.1,fun i id d a b=>let ⟨l,c,e⟩:=h.2 i id d a b;⟨l,he _ _ c,e⟩⟩
def DfR.nil{ρ:Ren}:DfR ρ [] []:=⟨rfl,fun i id d h=>by simp at h⟩
structure FrR (z:Zn) (ρ:Ren) (nt:Nat) (fr:Fr) (a:Act):Prop where
 size:a.tmps.size=nt
 le:nt<=512
 df:∃ ds,a.defers=ds++z.D/\DfR ρ (dvG nt fr) ds
 rd:nt<=510->(pM (fr.get 511)=true->z.rd=none)/\∀ b,fS (fr.get 511)=some b->∃ l,ρ b=some l/\z.rd=some l.blk
 get:∀ t,t<nt->VR ρ (fr.get t) (a.tmps.getD t undef)
variable {z:Zn}
def FrR.mono{ρ f:Ren}{fr:Fr}{a:Act}(h:FrR z ρ nt fr a)(he:∀ b l,ρ b=some l->f b=some l):FrR z f nt fr a :=
 ⟨h.size,h.le,let ⟨ds,a,b⟩:=h.df;⟨ds,a,b.mono he⟩,fun k=>⟨(h.rd k).1,fun b n=>let ⟨l,c,e⟩:=(h.rd k).2 b n;⟨l,he _ _ c,e⟩⟩,fun t m=>(h.get t m).mono he⟩
def FrR.put{ρ:Ren}{fr:Fr}{a:Act}{d:Nat}{v v':Value}(h:FrR z ρ nt fr a)(k:d<nt)(m:VR ρ v v'):FrR z ρ nt (fr.set d v) (a.put (some d) v'):=by
 have hle:=h.le;have b:∀ t,t<512->t≠d->(fr.set d v).get t=fr.get t:=fun t n s=>by rw[N3 _ _ _ _ A0 n,A9 s]
 refine⟨by simp[Act.put,h.size],h.le,?_,fun w=>?_,fun t l=>?_⟩
 .obtain⟨ds,u,c⟩:=h.df;refine⟨ds,u,?_⟩;unfold dvG at c ⊢;cases f:Nat.ble nt 510 with
  | true =>
    have:=A2 f;rw[f]at c;rw[b 510 C8 A0];exact c
  | false=>rw[f]at c;exact c
 .rw[b 511 C8 A0];exact h.rd w
 .rw[N3 _ _ _ _ (E1 k h.le) (E1 l h.le)];simp only[Act.put,B5,G5];by_cases e:t=d
  .subst e;rw[B0 rfl,B0 rfl,B0 (by rw[h.size];exact k)];exact m
  .rw[A9 e,A9 (fun h=>e h.symm)]
   have:=h.get t l
   simpa [B5]using this
def ZR(z:Zn)(ρ:Ren)(nt:Nat)(fr:Fr)(a:List Deferred):Prop:=(∃ ds,a=ds++z.D/\DfR ρ (dvG nt fr) ds)/\(nt<=510->(pM (fr.get 511)=true->z.rd=none)/\∀ b,fS (fr.get 511)=some b->∃ l,ρ b=some l/\z.rd=some l.blk)
def FrR.zr{ρ:Ren}{fr:Fr}{a:Act}(h:FrR z ρ nt fr a):ZR z ρ nt fr a.defers:=⟨h.df,h.rd⟩
def ZR.congr{ρ f:Ren}{fr a:Fr}(h:ZR z ρ nt fr ds)(he:∀ b l,ρ b=some l->f b=some l)(n:nt<=510->a.get 510=fr.get 510/\a.get 511=fr.get 511):ZR z f nt a ds:=by
 obtain⟨⟨m,v,s⟩,h3⟩:=h;refine⟨⟨m,v,?_⟩,fun k=>?_⟩
 .have:dvG nt a=dvG nt fr:=by
   unfold dvG;cases t:Nat.ble nt 510 with
   | true=>rw[(n (A2 t)).1]
   | false=>rfl
  rw[this];exact s.mono he
 .rw[(n k).2];exact⟨(h3 k).1,fun b u=>let ⟨l,c,e⟩:=(h3 k).2 b u;⟨l,he _ _ c,e⟩⟩
def gC(a:Act)(d:Option Tmp)(v:Value):(a.put d v).defers=a.defers:=by cases d<;>rfl
def FrR.ev{ρ:Ren}{fr:Fr}{a:Act}(h:FrR z ρ nt fr a)(e:GR gl ρ){x:Operand}(c:okX nt gl x=true):VR ρ (ev fr x) (a.eval x):=by
 cases x with
 | tmp t=>exact h.get t (A2 c)
 | const v=>exact VR.ofC c
 | global g =>
   have:=VR.ptr (o:=0) (e g (A2 c));exact this
 | func f=>exact .func (a:=[]) (b:=[]) (a':=[]) (b':=[]) rfl rfl (fun i v v' h=>by simp at h) (fun i v v' h=>by simp at h)
def FrR.ops{ρ:Ren}{fr:Fr}{a:Act}(h:FrR z ρ nt fr a)(c:GR gl ρ){o:Op}(e:PS nt gl o=true):FR ρ fr a.eval o:=fun x b=>h.ev c (E8.1 e x b)
def BQ{o:Op}{c:Callee}{xs:Array Operand}{tys:Array TypeId}(h:o=.call ⟨c,xs,tys⟩):∀ x ∈ xs.toList,x ∈ o.operands.toList:=fun x a=>by
 subst h;show x ∈ ((match c with|.value f=>#[f]|.invoke r _=>#[r]|.builtin _=>#[])++xs:Array Operand).toList;simp;exact .inr (by simpa using a)
structure A6J (P:Program) (base gl:Nat) (c:FnC):Prop where
 lg:∀ (vs:List Value) (m m':Mem) (v:Value),c.run vs m=some (v,m')->m.lg.le m'.lg
 ok:∀ (ρ:Ren) (m m':Mem) (w:World) (b:Nat) (args args':List Value) (v:Value) (l:Loc),c.run (yv b::args) m=some (v,m')->Sat m'.lg->At P base gl ρ m m'.hi w->LR ρ args args'->ρ b=some l ->
  ∃ f tmps assign body,(Instr.yield l.blk ⟨args'⟩).run P w=.ok (.round l.blk f tmps assign body) w/\RoundIn Fence.wide 0 P l.blk f tmps assign body w (A1p P base ρ m m' w v)
structure Z2 (P:Program) (base gl:Nat) (call:Q5):Prop where
 fn:∀ f,oR P base gl f (call.fn f)
 yl:A6J P base gl call.yl
def DK{v:Value}{b:Nat}(h:fS v=some b):v=yv b:=by
 unfold fS at h;split at h
 .cases h;rfl
 .cases h
def sT{ρ:Ren}{m m':Mem}{w:World}{call:Q5}{fr:Fr}{a:Act}{v:Value}{K:Act->World->Prop}{Q:Exit->Act->World->Prop}(n:Z2 P base gl call)(k:(d8 P call o).run fr m=some (v,m'))(J:Sat m'.lg)
  (h:At P base gl ρ m m'.hi w) (D:FR ρ fr a.eval o.op) (I:∀ v' s w',VR s v v'->St P base ρ s m m' w w'->K (a.put o.dst v') w'):wpO P z.rd o a w K Q:=by
 have L:∀ (f:FuncId) (vs C:List Value),(∀ c,o.op≠.defer c)->(call.fn f).run vs m=some (v,m')->LR ρ vs C->(execOp a.eval o).run P w=(callFunc f ⟨C⟩).run P w->wpO P z.rd o a w K Q:=fun f vs C N hr H he=>by
  refine⟨fun _ _=>trivial,?_⟩;rw[Oper.semAt_eq _ _ _ N,he];rcases(n.fn f).ok ρ m m' w vs C v hr J h H with⟨A,B⟩|⟨v',s,w',A,B,h3⟩
  .rw[A,Oper.uponIn_enter];refine⟨tQ,rO.2 (B.mono fun e w' ⟨v',s,he,H,O⟩=>?_)⟩;subst he;exact I v' s w' H O
  .rw[A,Oper.uponIn_value];exact I v' s w' B h3
 have u:∀ (N:∀ c,o.op≠.defer c),NOk P base ρ m w (execOp a.eval o) v m'->wpO P z.rd o a w K Q:=fun N hn=>by
  obtain⟨v',s,w',A,B,h3⟩:=hn;refine⟨fun _ _=>trivial,?_⟩;rw[Oper.semAt_eq _ _ _ N];rcases A with A|⟨A,rfl⟩
  .rw[A,Oper.uponIn_value];exact I v' s w' B h3
  .rw[A,Oper.uponIn_skip];exact I undef s w' B h3
 obtain⟨dst,op,ty,pos,af,gd⟩:=o;unfold d8 at k;simp only at k D;split at k
 .rename_i f xs tys;have l1:=eU (ρ:=ρ) (fr:=fr) (g:=a.eval) (xs:=xs.toList) fun x G=>D x (BQ rfl x G)
  have k:(call.fn f).run ((wW xs.toList).run fr) m=some (v,m'):=k;rw[pU]at k;refine L f _ _ (fun c n=>by cases n) k l1 ?_;have M:xs.map a.eval=⟨xs.toList.map a.eval⟩:=by apply K0;simp
  simp only[execOp,resolve,Act.eval,Deferred.ofValue,pure_bind,invoke,M];simp
 .rename_i x xs tys X;have l1:=eU (ρ:=ρ) (fr:=fr) (g:=a.eval) (xs:=xs.toList) fun y R=>D y (BQ rfl y R)
  have G:VR ρ (ev fr x) (a.eval x):=D x (by show x ∈ (#[x]++xs:Array Operand).toList;simp);have k:LO call m ((V6 x).run fr) ((wW xs.toList).run fr)=some (v,m'):=k;rw[pU,fR]at k;have M:xs.map a.eval=⟨xs.toList.map a.eval⟩:=by apply K0;simp
  unfold LO at k;split at k
  .rename_i f vs t;unfold yQ at t;split at t
   .rename_i f0 p q E;cases t;rw[E]at G;generalize F:a.eval x=gx at G;cases G with
    | pure hp=>simp[J8]at hp
    | func Z W A B =>
      rename_i p q U Y;have lp:LR ρ p U:=⟨Z,A⟩;have T:LR ρ q Y:=⟨W,B⟩;refine L f _ _ (fun c n=>by cases n) k (lp.append (l1.append T)) ?_;simp only[execOp,resolve,F,Deferred.ofValue,pure_bind,invoke,M];simp
   .cases t
  .split at k
   .rename_i b R;have E:=DK R;rw[E]at G k;obtain⟨l,V,F⟩:=A0n G;obtain⟨f,tmps,as,bd,A,B⟩:=n.yl.ok ρ m m' w b _ _ v l k J h l1 V;refine⟨fun _ _=>trivial,?_⟩;have he:(execOp a.eval ⟨dst,.call ⟨.value x,xs,tys⟩,ty,pos,af,gd⟩).run P w=(Instr.yield l.blk ⟨xs.toList.map a.eval⟩).run P w:=by
     simp only[execOp,resolve,F,Deferred.ofValue,pure_bind,invoke,M];simp
    rw[Oper.semAt_eq _ _ _ (fun c n=>by cases n),he,A,Oper.uponIn_round];refine⟨tQ,?_⟩;have B:RoundIn (fw z.rd) 0 P l.blk f tmps as bd w (A1p P base ρ m m' w v):=B;refine B.mono fun e w' ⟨v',s,he,H,O⟩=>?_
    subst he;exact I v' s w' H O
   .cases k
 .have k:A0g P (BK P _) _ fr m=some (v,m'):=k;unfold A0g at k;rw[BJ]at k;split at k
  .rename_i r hr;cases k;exact u (fun c n=>by have n:op=.defer c:=n;subst n;cases hr) (A5o h.hr h.bs hr h.fr D)
  .split at k
   .rename_i r hr;cases k;exact u (fun c n=>by have n:op=.defer c:=n;subst n;cases hr) (A14 h.hr hr D J)
   .split at k
    .rename_i r hr;cases k;exact u (fun c n=>by have n:op=.defer c:=n;subst n;cases hr) (A6D h.hr h.bs hr h.fr D J)
    .exact u (fun c n=>by have n:op=.defer c:=n;subst n;cases k) (A5U h.hr h.bs k h.fr D J)
def cF{m m':Mem}{call:Q5}{fr:Fr}{v:Value}(b:Z2 P base gl call)(a:(d8 P call o).run fr m=some (v,m')):m.lg.le m'.lg:=by
 unfold d8 at a;split at a
 .exact(b.fn _).lg _ _ _ _ a
 .have a:LO call m _ _=some (v,m'):=a;unfold LO at a;split at a
  .exact(b.fn _).lg _ _ _ _ a
  .split at a
   .exact b.yl.lg _ _ _ _ a
   .cases a
 .have a:A0g P (BK P _) _ fr m=some (v,m'):=a;unfold A0g at a;rw[BJ]at a;split at a
  .rename_i r hr;cases a;show m.lg.le _;rw[A5p hr];exact .refl _
  .split at a
   .rename_i r hr;cases a;exact(RF hr).1
   .split at a
    .rename_i r hr;cases a;exact A6E hr
    .exact A5V a
def XP{lg:Lg}{v:Value}{b c:Bool}(h:JP lg v b=some (c,lg')):lg.le lg':=by
 unfold JP at h;split at h
 .cases h;exact .refl _
 .split at h
  .rename_i a;cases h;exact gU a
  .cases h
 .obtain⟨_,h⟩:=A3 h;cases h;exact .refl _
def jV{lg:Lg}{fr:Fr}{all:List Oper}{b:Bool}(h:dF nt fr lg all o=some (b,lg')):lg.le lg':=by
 unfold dF at h;split at h
 .cases h;exact .refl _
 .split at h
  .split at h
   .obtain⟨_,h⟩:=A3 h;exact XP h
   .cases h
  .cases h
def sE{ρ:Ren}{lg:Lg}{v v':Value}{b c:Bool}(h:JP lg v b=some (c,lg'))(a:VR ρ v v')(n:Sat lg'):(v'=.bool (c == b)∨(c=false/\v'=.tuple ⟨[]⟩)):=by
 unfold JP at h;split at h
 .rename_i d;cases h;left;rw[eH a];cases d<;>cases b<;>rfl
 .split at h
  .rename_i d l k;cases h;left
   rw[oJ k a n];cases d<;>cases b<;>rfl
  .cases h
 .rename_i u _ _;obtain⟨h3,m⟩:=A3 h;cases m;right
  have hu:v=.tuple ⟨[]⟩:=by
   unfold pM at h3;split at h3
   .rfl
   .cases h3
  rw[hu]at a;obtain⟨cs',e,f⟩:=vA a;cases f.nil_inv;exact⟨rfl,e⟩
def oV{all:Array Oper}{tmps:c9}{want b:Bool}{t:Tmp}(k:o.guard=some (j,want))(hp:all.toList[j]? = some p)(l:p.dst=some t)(c:t<tmps.size)
  (m:tmps.getD t undef=.bool (b == want)∨(b=false/\tmps.getD t undef=.tuple ⟨[]⟩)):Region.wanted o (yielded all tmps)=b:=by
 have a:tmps[t]? = some (tmps.getD t undef):=by simp[B5,c]
 have f:(all[j]?).bind (·.dst)=some t:=by
  have:all[j]? = some p:=by simpa using hp
  simp[this,l]
 unfold Region.wanted;simp only[k];rcases m with e|⟨rfl,e⟩
 .have:yielded all tmps j=some (b == want):=by simp[yielded,f,a,e]
  rw[this];cases b<;>cases want<;>rfl
 .have:yielded all tmps j=none:=by simp[yielded,f,a,e]
  rw[this];rfl
def JQ{ρ:Ren}{lg:Lg}{all:Array Oper}{fr:Fr}{a:Act}{b:Bool}(h:FrR z ρ nt fr a)(hw:dF nt fr lg all.toList o=some (b,lg'))(f:Sat lg'):Region.wanted o (yielded all a.tmps)=b:=by
 unfold dF at hw;split at hw
 .rename_i e;cases hw;simp[Region.wanted,e]
 .rename_i j want e;split at hw
  .rename_i p hp;split at hw
   .rename_i t k;obtain⟨c,l⟩:=A3 hw;have c:t<nt:=A2 c;exact oV e hp k (by rw[h.size];exact c) (sE l (h.get t c) f)
   .cases hw
  .cases hw
def zJ{β:Type}(t:Nat)(v:Value)(fr:Fr)(k:Fr->β):xH (sel (t / 64%8)) (sel (t / 8%8)) (sel (t%8)) v fr k=k (fr.set t v):=GX t v fr k
def xJ(d:Option Tmp)(v:Value)(fr:Fr):Fr:=match d with|some t=>fr.set t v|none=>fr
def eL(d:Option Tmp)(v:Value)(fr:Fr)(k:Fr->Option S):(xK d).run v fr k=k (xJ d v fr):=by
 cases d with
 | none=>rfl
 | some t=>exact zJ t v fr k
def FrR.dst{ρ:Ren}{fr:Fr}{a:Act}{v v':Value}(h:FrR z ρ nt fr a)(b:BG nt d=true)(c:VR ρ v v'):FrR z ρ nt (xJ d v fr) (a.put d v'):=by
 cases d with
 | none=>exact h
 | some t=>exact h.put (A2 b) c
def bQ{c:OpC}{next:A1o}{s a:S}(h:nH c (xK d) next s=some a):∃ v m',c.run s.fr s.m=some (v,m')/\s.m.hi<=m'.hi/\next.run ⟨xJ d v s.fr,m'⟩=some a:=by
 unfold nH at h;obtain⟨fr,m⟩:=s;simp only at h;split at h
 .rename_i v m' hr;obtain⟨e,b⟩:=A3 h;rw[eL]at b;exact⟨v,m',hr,A2 e,b⟩
 .cases h
def uQ{call:Q5}{all:List Oper}:∀ (r:List Oper) (s a:S),(Y8 P nt gl call all r).run s=some a->s.m.hi<=a.m.hi
 | [],s,a,h=>by
   have h:some s=some a:=h;cases h;exact A7 _
 | o::r,s,a,h=>by
   unfold Y8 at h;cases e:BG nt o.dst && PS nt gl o.op with
   | false=>rw[e]at h;cases h
   | true =>
     rw[e]at h;simp only[F1]at h;split at h
     .obtain⟨v,m',_,b,c⟩:=bQ h;exact C3 b (uQ r _ _ c)
     .have h:gA nt all o (d8 P call o) (xK o.dst) (Y8 P nt gl call all r) s=some a:=h;unfold gA at h;obtain⟨fr,⟨H,n,W,hi,lg⟩⟩:=s;simp only at h;split at h
      .obtain⟨v,m',_,b,c⟩:=bQ h;exact C3 b (uQ r _ _ c)
      .rename_i lg' _;rw[eL]at h;exact uQ r ⟨xJ o.dst undef fr,⟨H,n,W,hi,lg'⟩⟩ a h
      .cases h
def nO{call:Q5}(b:Z2 P base gl call){all:List Oper}:∀ (r:List Oper) (s a:S),(Y8 P nt gl call all r).run s=some a->s.m.lg.le a.m.lg
 | [],s,a,h=>by
   have h:some s=some a:=h;cases h;exact .refl _
 | o::r,s,a,h=>by
   unfold Y8 at h;cases f:BG nt o.dst && PS nt gl o.op with
   | false=>rw[f]at h;cases h
   | true =>
     rw[f]at h;simp only[F1]at h;split at h
     .obtain⟨v,m',e,k,c⟩:=bQ h;exact(cF b e).trans (nO b r _ _ c)
     .have h:gA nt all o (d8 P call o) (xK o.dst) (Y8 P nt gl call all r) s=some a:=h;unfold gA at h;obtain⟨fr,⟨H,n,W,hi,lg⟩⟩:=s;simp only at h;split at h
      .rename_i lg' hw;obtain⟨v,m',e,k,c⟩:=bQ h;exact(jV hw).trans ((cF b e).trans (nO b r _ _ c))
      .rename_i lg' hw;rw[eL]at h;exact(jV hw).trans (nO b r ⟨xJ o.dst undef fr,⟨H,n,W,hi,lg'⟩⟩ a h)
      .cases h
def HJ{call:Q5}{all:Array Oper}{Q:Exit->Act->World->Prop}(t:Z2 P base gl call):∀ (r:List Oper) (ρ:Ren) (s c:S) (a:Act) (w:World),(Y8 P nt gl call all.toList r).run s=some c->Sat c.m.lg->At P base gl ρ s.m c.m.hi w->FrR z ρ nt s.fr a ->
  (∀ e a' w',FrR z e nt c.fr a'->St P base ρ e s.m c.m w w'->Q .normal a' w')->wpL P z.rd all Q r a w
 | [],ρ,s,c,a,w,h,hS,b,l,u=>by
   have h:some s=some c:=h;cases h;exact u ρ a w l (.refl b.hr)
 | o::r,ρ,s,c,a,w,h,hS,b,l,u=>by
   unfold Y8 at h;cases D:BG nt o.dst && PS nt gl o.op with
   | false=>rw[D]at h;cases h
   | true =>
     rw[D]at h;simp only[F1]at h;obtain⟨A,C⟩:=B3 D;have plain:∀ (s:S),At P base gl ρ s.m c.m.hi w->FrR z ρ nt s.fr a->(∀ e a' w',FrR z e nt c.fr a'->St P base ρ e s.m c.m w w'->Q .normal a' w') ->
       nH (d8 P call o) (xK o.dst) (Y8 P nt gl call all.toList r) s=some c->Region.wanted o (yielded all a.tmps)=true->wpL P z.rd all Q (o::r) a w:=fun s b l u hr hw=>by
      obtain⟨v,m',E,F,h3⟩:=bQ hr;have hh:=uQ r _ _ h3;have k:Sat m'.lg:=V2.le hS (nO t r _ _ h3);refine JO fun K B=>?_
      rw[B0 hw];refine sT t E k (b.less hh) (l.ops b.gr C) fun v' e w' G st=>B _ _ ?_
      refine HJ t r e _ c _ _ h3 hS (b.step st) ((l.mono st.ext).dst A G) fun ρ2 a2 w2 f2 f=>u ρ2 a2 w2 f2 (St.trans b.fr st f)
     split at h
     .rename_i I;exact plain s b l u h (by simp[Region.wanted,I])
     .have h:gA nt all.toList o (d8 P call o) (xK o.dst) (Y8 P nt gl call all.toList r) s=some c:=h;unfold gA at h;obtain⟨fr,m⟩:=s;obtain⟨H,n,W,hi,lg⟩:=m;simp only at h;split at h
      .rename_i lg' hw;have y:St P base ρ ρ ⟨H,n,W,hi,lg⟩ ⟨H,n,W,hi,lg'⟩ w w:=St.wLg (m:=⟨H,n,W,hi,lg⟩) b.hr lg';obtain⟨v,m',J,E,F⟩:=bQ h;have k:Sat lg':=V2.le hS ((cF t J).trans (nO t r _ _ F));exact plain ⟨fr,⟨H,n,W,hi,lg'⟩⟩ (b.wLg lg') l (fun ρ2 a2 w2 f2 f=>u ρ2 a2 w2 f2 (St.trans b.fr y f)) h (JQ l hw k)
      .rename_i lg' hw;have y:St P base ρ ρ ⟨H,n,W,hi,lg⟩ ⟨H,n,W,hi,lg'⟩ w w:=St.wLg (m:=⟨H,n,W,hi,lg⟩) b.hr lg';rw[eL]at h;have k:Sat lg':=V2.le hS (nO t r ⟨xJ o.dst undef fr,⟨H,n,W,hi,lg'⟩⟩ c h);refine JO fun K B=>?_
       rw[A9 (by rw[JQ l hw k];simp)];exact B _ _ (HJ t r ρ ⟨xJ o.dst undef fr,⟨H,n,W,hi,lg'⟩⟩ c _ _ h hS (b.wLg lg') (l.dst A (sH ρ)) fun ρ2 a2 w2 f2 f=>u ρ2 a2 w2 f2 (St.trans b.fr y f))
      .cases h
def Ex.out:Ex->Exit
 | .normal=>.normal
 | .exit id=>.exit id
 | .ret=>.ret
def A2h{ops:List Oper}{z:Zn}{ρ:Ren}{s:S}{a:Act}{w:World}(hm:nT P nt gl s.fr s.m.H ops=true)(hr:HR P base ρ s.m.H w)(I:GR gl ρ)(hf:FrR z ρ nt s.fr a):OK P ops (a,w):=by
 obtain⟨X,h2⟩:=B3 hm;have key:∀ o ∈ ops,∀ t x,oN o.op=some (t,x)->∃ b l cs T,ev s.fr x=.pointer (some b)/\ρ b.block=some l/\a.eval x=.pointer (some ⟨l.blk,b.off+l.sh,none⟩)/\Hp.get s.m.H b.block=some (.cells cs T false)/\b.block<=J0/\l.on=true/\DI P w t (a.eval x):=fun o L t x v=>by
  have hp:=E8.1 X o L;unfold ZT at hp;rw[v]at hp;simp only at hp;cases B:okX nt gl x with
  | false=>rw[B]at hp;cases hp
  | true =>
    rw[B]at hp;simp only[S5,E7]at hp;split at hp
    .rename_i b g sz A D Y;split at hp
     .rename_i cs T ax f;obtain⟨Q,hp⟩:=B3 hp;obtain⟨E,M⟩:=B3 hp;have Q:=A2 Q;have E:b.off<cs.length:=A2 E;have M:=A2 M;have O:=hf.ev I B;rw[A]at O;obtain⟨l,l1,_,N⟩:=Q3 O;obtain⟨⟨F,C,fz,Z,c1,c2,_⟩,_⟩:=hr.atl l1 f;have n:∀ k,k<cs.length->l.sh+k<C.size:=fun k B=>by
       obtain⟨v',K,_⟩:=c2 k cs[k] (A6 B);exact(D5.1 K).1
      refine⟨b,l,cs,T,A,l1,N,f,M,F,l.blk,b.off+l.sh,C,Z,fz,sz,g,N,c1,Y,D,?_,?_⟩
      .have:=n b.off E;by_cases h0:sz=0
       .omega
       .have:=n (b.off+sz-1) A0;omega
      .have:=n b.off E;omega
     .cases hp
    .cases hp
 refine⟨fun o L t x v=>by obtain⟨_,_,_,_,_,_,_,_,_,_,h⟩:=key o L t x v;exact h,fun i j o p G hi U he J t x u y v R ay az A D=>?_⟩;obtain⟨b,l,cs,T,k1,k2,k3,W,k5,k6,_⟩:=key o (E6 hi) t x v;obtain⟨bd,r,ds,V,n1,n2,n3,n4,n5,n6,_⟩:=key p (E6 U) u y R;have c:=KS h2 G hi U he;unfold A1j at c;rw[J]at c;simp only[F1,v,R,k1,n1]at c;rw[k3]at A;rw[n3]at D;cases A;cases D;show l.blk≠r.blk;intro e;obtain⟨_,hu⟩:=hr.atl k2 W;obtain⟨_,hu⟩:=hu rfl k6
 have:=hu bd.block n5 _ r n4 n2 (.inl ⟨rfl,n6,e.symm⟩);rw[this,fL]at c;cases c
def At.drew{ρ:Ren}{m:Mem}{hi:Nat}{w:World}(a:At P base gl ρ m hi w)(d:Nat):At P base gl ρ m hi { w with drawn:=d } :=
 ⟨⟨fun b l h=>a.hr.dom b l h,fun id hid ab c=>by
  obtain⟨l,k,f,e⟩:=a.hr.at_ id hid ab c;exact⟨l,k,BR.mono (w:=w) (fun _ _ h=>h) (fun _ _=>rfl) f,e⟩⟩,a.bs,a.fr,a.gr,a.nh,a.wb,a.gf⟩
def St.undrew{ρ a:Ren}{m m':Mem}{w w':World}{d:Nat}(st:St P base ρ a m m' { w with drawn:=d } w'):St P base ρ a m m' w w' :=
 ⟨st.ext,st.new,st.nle,st.hle,st.nhi,st.hr,st.wsub,st.wrw,st.keep,st.size,st.os,st.blk,st.same,st.tch⟩
def PO{call:Q5}{ops:Array Oper}{z:Zn}{id:Nat}(k:P.follows .mixedOrders=true)(v:Z2 P base gl call){ρ:Ren}{s f:S}{a:Act}{w:World}{Q:Exit->Act->World->Prop}(hr:nI ops.toList=true)(hm:nT P nt gl s.fr s.m.H ops.toList=true)(h:(Y8 P nt gl call ops.toList ops.toList).run s=some f)(E:Sat f.m.lg)(e:At P base gl ρ s.m f.m.hi w)(u:FrR z ρ nt s.fr a)
  (y:∀ c a' w',FrR z c nt f.fr a'->St P base ρ c s.m f.m w w'->Q .normal a' w'):(Code.region id ops true).wpIn (fw z.rd) 0 P Q a w:=by
 refine mX k (A1_ hr (fun w' l=>?_) (fun d=>?_) _)
 .have n:=A2h hm e.hr e.gr u;refine⟨fun o D t x G=>?_,n.ap⟩;obtain⟨b,o',C,T,fz,sz,g,F,B,A⟩:=n.pl o D t x G;exact⟨b,o',C,T,fz,sz,g,F,by show w'.heap[b]? = _;rw[l];exact B,A⟩
 .exact HJ v ops.toList ρ s f a { w with drawn:=d } h E (e.drew d) u fun c a' w' f1 st=>⟨rfl,y c a' w' f1 st.undrew⟩
def jB(P:Program)(base gl:Nat)(call:Q5):Prop :=
 P.follows .mixedOrders=true/\∀ (nt:Nat) (ops:Array Oper),IQ ops=true->∀ (s b:S),bD P nt gl call ops.toList ops.toList 0 (u6 ops.toList []) [] [] s=some b->(s.m.hi<=b.m.hi/\s.m.lg.le b.m.lg) /\
  ∀ (z:Zn) (ρ:Ren) (a:Act) (w:World) (id:Nat) (Q:Exit->Act->World->Prop),Sat b.m.lg->At P base gl ρ s.m b.m.hi w->FrR z ρ nt s.fr a ->
   (∀ c a' w',FrR z c nt b.fr a'->St P base ρ c s.m b.m w w'->Q .normal a' w')->(Code.region id ops true).wpIn (fw z.rd) 0 P Q a w
def P9:∀ (q r:List Bool) (c:Code),H8 (q++r) c=(H8 q c).bind (H8 r)
 | [],r,c=>rfl
 | false::q,r,.seq a b=>P9 q r a
 | true::q,r,.seq a b=>P9 q r b
 | false::q,r,.cond _ a b=>P9 q r a
 | true::q,r,.cond _ a b=>P9 q r b
 | false::q,r,.block _ c=>P9 q r c
 | false::q,r,.loop c=>P9 q r c
 | false::q,r,.scope c=>P9 q r c
 | true::q,r,.scope c=>rfl
 | true::q,r,.block _ c=>rfl
 | true::q,r,.loop c=>rfl
 | b::q,r,.skip=>by cases b<;>rfl
 | b::q,r,.region _ _ _=>by cases b<;>rfl
 | false::q,r,.rangeFunc _ _ a _=>P9 q r a
 | true::q,r,.rangeFunc _ _ _ b=>P9 q r b
 | b::q,r,.exit _=>by cases b<;>rfl
 | b::q,r,.label _=>by cases b<;>rfl
 | b::q,r,.goto _=>by cases b<;>rfl
 | b::q,r,.ret=>by cases b<;>rfl
 | b::q,r,.refuse _=>by cases b<;>rfl
def J7{b:Bool}{body c d:Code}(h:H8 q body=some c)(a:H8 [b] c=some d):H8 (q++[b]) body=some d:=by
 rw[P9,h];exact a
structure N6 (P:Program) (base gl nt:Nat) (c:Code) (L:S->Option (Ex×S)):Prop where
 lg:∀ (s s':S) (e:Ex),L s=some (e,s')->s.m.hi<=s'.m.hi/\s.m.lg.le s'.m.lg
 ok:∀ (s s':S) (e:Ex),L s=some (e,s')->Sat s'.m.lg->∃ N,∀ (z:Zn) (ρ:Ren) (a:Act) (w:World) (Q:Exit->Act->World->Prop),At P base gl ρ s.m s'.m.hi w->FrR z ρ nt s.fr a ->
  (∀ ρ' a' w',FrR z ρ' nt s'.fr a'->St P base ρ ρ' s.m s'.m w w'->Q e.out a' w')->Code.roundsIn (fw z.rd) 0 P c Q N a w
def orL(a b:S->Option (Ex×S))(s:S):Option (Ex×S) :=
 match a s with
 | some r=>some r
 | none=>b s
def N6.or{nt:Nat}{c:Code}{a b:S->Option (Ex×S)}(f:N6 P base gl nt c a)(l:N6 P base gl nt c b):N6 P base gl nt c (orL a b):=by
 refine⟨fun s m e h=>?_,fun s m e h k=>?_⟩
 .unfold orL at h;split at h
  .rename_i r hr;cases h;exact f.lg _ _ _ hr
  .exact l.lg _ _ _ h
 .unfold orL at h;split at h
  .rename_i r hr;cases h;exact f.ok _ _ _ hr k
  .exact l.ok _ _ _ h k
def QW(P:Program)(base gl nt:Nat)(body:Code)(lp:LpT):Prop :=
 (∃ fn,P.funcs[lp.me]? = some fn/\fn.body=some body/\fn.ntmps=nt)/\∀ q x L,H8 q body=some (.loop x)->lp.look q=some L->N6 P base gl nt x L
def pG{m m':Mem}{ab:AB}{k:Nat->Value}{v:Value}(h:w8 m ab k=some (v,m')):v=k m.n/\m.hi<=m'.hi/\m'.lg=m.lg:=by
 obtain⟨_,a,rfl⟩:=N0 h;exact⟨a,(L8 _ _).1,rfl⟩
def oZ{m m':Mem}{id:Nat}{ab:AB}(h:eA m id ab=some m'):m'.hi=m.hi/\m'.lg=m.lg:=by
 obtain⟨_,rfl⟩:=Y6 h;exact⟨rfl,rfl⟩
def wM{fr:Fr}{hi b:Nat}{r:Res}{e:Ex}{a:S}(h:tB fr hi b r=some (e,a)):∃ v m f q vs st m',r=some (v,m)/\Hp.get m.H b=some (.lp f q vs st)/\nEx st=some e/\hi<=m.hi/\eA m b (.lp f q vs 3)=some m'/\a=⟨fr,m'⟩:=by
 unfold tB at h;split at h
 .rename_i v m;split at h
  .rename_i f q vs st k;split at h
   .rename_i l he;obtain⟨c,h⟩:=A3 h;split at h
    .rename_i m' hm;cases h;exact⟨_,_,_,_,_,_,_,rfl,k,he,A2 c,hm,rfl⟩
    .cases h
   .cases h
  .cases h
 .cases h
def zW{call:Q5}{f:FuncId}{fr:Fr}{m:Mem}{e:Ex}{s:S}(h:dV P nt call f q g fr m=some (e,s)) :
  ∃ m1 k a b,w8 m (.lp f q (frL fr 0 nt) 0) yv=some (yv m.n,m1)/\g=.func (.func k) a b/\tO P k=true/\tB fr m1.hi m.n ((call.fn k).run (a.toList++([yv m.n]++b.toList)) m1)=some (e,s):=by
 unfold dV at h;rw[J4]at h;split at h
 .rename_i v m1 t;have u:=(pG t).1;subst u;have y:fS (yv m.n)=some m.n:=rfl;split at h
  .rename_i k as b c l;rw[y]at l;cases l;obtain⟨w,h⟩:=A3 h;unfold yQ at c;split at c
   .cases c;exact⟨m1,_,_,_,t,rfl,w,h⟩
   .cases c
  .cases h
 .cases h
def qX{call:Q5}(n:Z2 P base gl call){f:FuncId}{fr:Fr}{m:Mem}{e:Ex}{c:S}(h:dV P nt call f q g fr m=some (e,c)):m.hi<=c.m.hi/\m.lg.le c.m.lg:=by
 obtain⟨m1,k,a,b,s,_,_,w⟩:=zW h;obtain⟨v,m2,f,q,vs,st,m3,A,_,_,u,t,rfl⟩:=wM w
 have:=(n.fn k).lg _ _ _ _ A;obtain⟨g1,g2⟩:=oZ t;obtain⟨_,y,l⟩:=pG s;refine⟨by show m.hi<=m3.hi;rw[g1];exact C3 y u,?_⟩;show m.lg.le m3.lg;rw[g2,<- l];exact this
def FT{call:Q5}{f:FuncId}{x:XC}{s l:S}{e:Ex}(h:BU P nt call f q x s=some (e,l)):nt<=510 /\
  ((∃ k f0 u c,fS (s.fr.get 511)=some k/\Hp.get s.m.H k=some (.lp f0 u c 1)/\dV P nt call f q (x.run s.fr) s.fr s.m=some (e,l)) ∨
    (pM (s.fr.get 511)=true/\∃ m1,w8 s.m (.dfr true) (fun b=>.pointer (some ⟨b,0,none⟩))=some (.pointer (some ⟨s.m.n,0,none⟩),m1) /\
      dV P nt call f q (x.run s.fr) (s.fr.set 510 (dv (s.m.n::kO (s.fr.get 510)))) m1=some (e,l))):=by
 unfold BU at h;obtain⟨fr,m⟩:=s;obtain⟨A,h⟩:=A3 h;refine⟨A2 A,?_⟩;split at h
 .rename_i k y;split at h
  .rename_i f0 u c C;exact .inl ⟨k,f0,u,c,y,C,h⟩
  .cases h
 .obtain⟨B,h⟩:=A3 h;refine .inr ⟨B,?_⟩;split at h
  .rename_i a m1 v;have w:=(pG v).1;cases w;rw[J4]at h;have:xH (sel 7) (sel 7) (sel 6) (dv (m.n::kO (fr.get 510))) fr (fun t=>dV P nt call f q (x.run fr) t m1)=dV P nt call f q (x.run fr) (fr.set 510 (dv (m.n::kO (fr.get 510)))) m1:=zJ 510 _ _ _;rw[this]at h;exact⟨m1,v,h⟩
  .cases h
def WD{call:Q5}(b:Z2 P base gl call){f:FuncId}{x:XC}{s a:S}{e:Ex}(h:BU P nt call f q x s=some (e,a)):s.m.hi<=a.m.hi/\s.m.lg.le a.m.lg:=by
 obtain⟨_,⟨_,_,_,_,_,_,h⟩|⟨_,m1,c,h⟩⟩:=FT h
 .exact qX b h
 .have:=qX b h;obtain⟨_,l,k⟩:=pG c;rw[k]at this;exact⟨C3 l this.1,this.2⟩
def TE(fr:Fr):∀ (n i j:Nat),(frL fr i n)[j]? = if j<n then some (fr.get (i+j))else none
 | 0,i,j=>by simp[frL]
 | n+1,i,0=>by simp[frL]
 | n+1,i,j+1=>by
   rw[frL,T7,TE fr n (i+1) j];have:i+1+j=i+(j+1):=A0;rw[this];by_cases h:j<n
   .rw[B0 h,B0 A0]
   .rw[A9 h,A9 A0]
def IG(fr:Fr):∀ (n i:Nat),(frL fr i n).length=n
 | 0,i=>rfl
 | n+1,i=>by simp[frL,IG fr n]
def FrR.list{ρ:Ren}{fr:Fr}{a:Act}(h:FrR z ρ nt fr a):LR ρ (frL fr 0 nt) a.tmps.toList:=by
 refine⟨by rw[IG];simpa using h.size.symm,fun i v v' b c=>?_⟩;rw[TE]at b;split at b
 .rename_i hi;cases b
  have:=h.get i hi;rw[F9];have h3:a.tmps.getD i undef=v':=by
   have:a.tmps[i]? = some v':=by simpa using c
   simp[B5,this]
  rw[h3]at this;exact this
 .cases b
def QG{k:FuncId}(h:tO P k=true):∃ fn c,P.funcs[k]? = some fn/\fn.body=some c:=by
 unfold tO at h;split at h
 .rename_i fn a;split at h
  .rename_i c b;exact⟨fn,c,by simpa using a,b⟩
  .cases h
 .cases h
def qK{k:FuncId}{args:c9}{w w':World}{v:Value}(h:tO P k=true):(callFunc k args).run P w≠.ok (.value v) w':=by
 obtain⟨fn,c,b,e⟩:=QG h;by_cases a:fn.name = "runtime.NumGoroutine"
 .simp[callFunc,b,a]
 .simp[callFunc,b,a,e]
def lM{w:World}{l:Nat}{o:Obj}(h:l<w.heap.size):(w.putObj l o).heap.size=w.heap.size/\(w.putObj l o).heap[l]? = some o/\∀ k,k≠l->(w.putObj l o).heap[k]? = w.heap[k]? := ⟨by simp[World.putObj],World.putObj_heap_same h,fun k a=>World.putObj_heap_other a⟩
def zV{call:Q5}(hc:Z2 P base gl call){fn:Func}{body:Code}(f1:P.funcs[me]? = some fn)(f2:fn.body=some body)(f3:fn.ntmps=nt)(hq:H8 q body=some (.rangeFunc x ps as bd))
  {fr:Fr} {m:Mem} {e:Ex} {O:S} (h:dV P nt call me q g fr m=some (e,O)) (hS:Sat O.m.lg) {ρ:Ren} {a:Act} {w:World} {r:Loop} (E:At P base gl ρ m O.m.hi w) (hf:FrR z ρ nt fr a) (hg:VR ρ g (a.eval x))
  (hr:r.state=.ready/\r.pending=none/\r.tmps=a.tmps/\r.params=ps/\r.assign=as/\r.body=bd) {Q:Exit->Act->World->Prop}
  (hQ:∀ C w',FrR z C nt O.fr a->St P base ρ C m O.m w w'->Q e.out a w') :
  ∃ k args d,(resolve a.eval (rangeCall x w.heap.size) 0).run P (w.alloc (.loop r))=.ok d (w.alloc (.loop r))/\(invoke d.target d.args).run P (w.alloc (.loop r))=.ok (.enter k args) (w.alloc (.loop r)) /\
   CallsIn (fw z.rd) 0 P k args (w.alloc (.loop r)) (rangePost (fw z.rd) 0 P w.heap.size Q a):=by
 obtain⟨m1,k,A,B,V,Y,F,h2⟩:=zW h;obtain⟨v,m2,ff,qq,vs,st,m3,e1,e2,G,e4,e5,rfl⟩:=wM h2;obtain⟨g1,g2⟩:=oZ e5;obtain⟨_,g3,g4⟩:=pG V;have N:Sat m2.lg:=by have:Sat m3.lg:=hS;rwa[g2]at this
 have f:L1 ρ m.n m3.hi:=E.fr;have hle:m1.hi<=m3.hi:=by rw[g1];exact e4
 obtain⟨r1,r2,r3,r4,r5,r6⟩:=hr;subst r4;subst r5;subst r6;have s:(w.alloc (.loop r)).heap=w.heap.push (.loop r):=rfl;have y:ρ m.n=none:=f m.n (A7 _) (by
  obtain⟨_,_,q⟩:=N0 V;have:m1.hi=upN m.hi m.n:=by rw[q]
  have h3:=(L8 m.hi m.n).2;omega)
 obtain⟨_,k1,u⟩:=St.alloc (w':=w.alloc (.loop r)) (o:=.loop r) (l:=lc w.heap.size 0 0) E.hr E.bs V (f.less hle) ⟨rfl,rfl,rfl⟩ s rfl (by
  refine⟨⟨rfl,rfl⟩,r,by simp[s],⟨fn,body,x,f1,f2,hq,by rw[IG,f3]⟩,?_,⟨r1,r2⟩⟩;rw[r3];exact hf.list.mono (i0 y))
 have t:=E.step u;obtain⟨A,rfl⟩:∃ l:E0,A=⟨l⟩:=⟨A.toList,rfl⟩;obtain⟨B,rfl⟩:∃ l:E0,B=⟨l⟩:=⟨B.toList,rfl⟩;subst Y;generalize W:a.eval x=gx at hg;cases hg with
 | pure hp=>simp[J8]at hp
 | func ha M q1 q2 =>
   rename_i K J;have lA:LR ρ A K:=⟨ha,q1⟩;have lB:LR ρ B J:=⟨M,q2⟩;have hy:VR (upd ρ m.n (lc w.heap.size 0 0)) (yv m.n) (.func (.yield w.heap.size) #[] #[]):=VR.yv k1;have hl:=(lA.mono u.ext).append ((LR.cons hy .nil).append (lB.mono u.ext));refine⟨k,⟨K++([.func (.yield w.heap.size) #[] #[]]++J)⟩,{ target:=.fn (.func k) ⟨J⟩,args:=⟨K⟩++#[.func (.yield w.heap.size) #[] #[]] },?_,?_,?_⟩
   .show(Deferred.ofValue (a.eval x) _).run P _=_;rw[W];simp[Deferred.ofValue,Act.eval]
   .have Z:(callFunc k ⟨K++([.func (.yield w.heap.size) #[] #[]]++J)⟩).run P (w.alloc (.loop r))=.ok (.enter k ⟨K++([.func (.yield w.heap.size) #[] #[]]++J)⟩) (w.alloc (.loop r)):=by
     rcases(hc.fn k).ok _ m1 m2 _ _ _ v e1 N (t.less (by show m2.hi<=m3.hi;rw[g1];exact A7 _)) hl with⟨R,_⟩|⟨v',C,w',R,_⟩
     .exact R
     .exact absurd R (qK F)
    rw[<- Z];show(callFunc k _).run P _=_;congr 2;apply K0;simp
   .rcases(hc.fn k).ok _ m1 m2 _ _ _ v e1 N (t.less (by show m2.hi<=m3.hi;rw[g1];exact A7 _)) hl with⟨_,c2⟩|⟨v',C,w',R,_⟩
    .refine rO.2 (c2.mono fun en w2 ⟨v',ρ2,he,hv,D⟩=>?_);subst he;have k2:=D.ext _ _ k1;obtain⟨b1,b2⟩:=D.hr.atl k2 e2;obtain⟨⟨b3,b4⟩,H,T,U⟩:=b1;have T:w2.heap[w.heap.size]? = some (.loop H):=T;have I:H.state≠.busy:=by
      have c:=U.st;intro M
      match st,c,G with
      | 0,c,_=>rw[M]at c;cases c.1
      | 2,c,_=>rw[M]at c;cases c.1
      | k+4,c,_=>rw[M]at c;cases c.1
     obtain⟨p1,p2,p3⟩:=lM (o:=.loop { H with state:=.exhausted }) (D5.1 T).1;have X:St P base ρ2 ρ2 m2 m3 w2 (w2.putObj w.heap.size (.loop { H with state:=.exhausted })):=St.write D.hr e5 e2 rfl k2 rfl ⟨rfl,rfl,rfl⟩ p1 p3 ⟨⟨rfl,rfl⟩,_,p2,U.code,U.fr,trivial⟩;have L:St P base ρ ρ2 m m3 w _:=St.trans f u (St.trans t.fr D X);have b:=hQ ρ2 _ (hf.mono L.ext) L;refine⟨H.pending,_,run_endLoop T I,?_⟩;have c:=U.st
     match st,c,G with
     | 0,c,G=>cases G;rw[show H.pending=none from c.2]at b ⊢;exact b
     | 2,c,G=>cases G;rw[show H.pending=some .ret from c.2]at b ⊢;exact wpIn_ret b
     | k+4,c,G=>cases G;rw[show H.pending=some (.exit k)from c.2]at b ⊢;exact wpIn_exit b
    .exact absurd R (qK F)
def ZK{call:Q5}(N:Z2 P base gl call){fn:Func}{body:Code}(f1:P.funcs[me]? = some fn)(f2:fn.body=some body)(f3:fn.ntmps=nt)(X:H8 q body=some (.rangeFunc x ps as bd))(hx:okX nt gl x=true)
  {s E:S} {e:Ex} {ρ:Ren} {a:Act} {w:World} {Q:Exit->Act->World->Prop} (h:BU P nt call me q (V6 x) s=some (e,E)) (Z:Sat E.m.lg) (f:At P base gl ρ s.m E.m.hi w) (H:FrR z ρ nt s.fr a)
  (hQ:∀ u a' w',FrR z u nt E.fr a'->St P base ρ u s.m E.m w w'->Q e.out a' w'):(Code.rangeFunc x ps as bd).wpIn (fw z.rd) 0 P Q a w:=by
 obtain⟨J,h⟩:=FT h;refine wpIn_rangeFunc fun b _=>?_
 have W:=H.ev f.gr hx;rcases h with⟨b0,f0,q0,az,hy,hg,h⟩|⟨hu,m1,C,h⟩
 .obtain⟨l0,e1,e2⟩:=(H.rd J).2 b0 hy;obtain⟨⟨_,Y,b1,_⟩,_⟩:=f.hr.atl e1 hg;have D:(Instr.enterLoop b a.tmps ps as bd (fw z.rd).round).run P w=.ok (w.heap.size,[]) (w.alloc (.loop { state:=.ready,pending:=none,fn:=b,tmps:=a.tmps,params:=ps,assign:=as,body:=bd,defers:=Y.defers })):=by
   show(Instr.enterLoop b a.tmps ps as bd z.rd).run P w=_;rw[e2];unfold Instr.enterLoop;simp only[A5,run_getLoop b1,run_newObj_alloc,Result.andThen,Sem.run_pure]
  rw[fR]at h;obtain⟨k,args,d,L,T,K⟩:=zV (r:={ state:=.ready,pending:=none,fn:=b,tmps:=a.tmps,params:=ps,assign:=as,body:=bd,defers:=Y.defers }) N f1 f2 f3 X h Z f H W ⟨rfl,rfl,rfl,rfl,rfl,rfl⟩ (Q:=Q) fun u w' g1 g2=>hQ u a w' g1 g2
  exact⟨_,_,_,d,_,k,args,_,D,L,fun _ _=>trivial,T,tQ,K⟩
 .have R:=(H.rd J).1 hu;have y:L1 ρ s.m.n E.m.hi:=f.fr;have V:=qX N h;obtain⟨_,g3,g4⟩:=pG C;have D:(Instr.enterLoop b a.tmps ps as bd (fw z.rd).round).run P w=.ok (w.heap.size+1,[{ target:=.collected w.heap.size,args:=#[] }]) ((w.alloc (.deferred (some []))).alloc (.loop { state:=.ready,pending:=none,fn:=b,tmps:=a.tmps,params:=ps,assign:=as,body:=bd,defers:=w.heap.size })):=by
   show(Instr.enterLoop b a.tmps ps as bd z.rd).run P w=_;rw[R];exact run_enterLoop_outer b a.tmps ps as bd
  have c:(w.alloc (.deferred (some []))).heap=w.heap.push (.deferred (some [])):=rfl;obtain⟨_,k1,A⟩:=St.alloc (w':=w.alloc (.deferred (some []))) (o:=.deferred (some [])) (l:=lc w.heap.size 0 0) f.hr f.bs C (y.less V.1) ⟨rfl,rfl,rfl⟩ c rfl ⟨⟨rfl,rfl⟩,_,by simp[c],fun _=>rfl⟩;have G:=f.step A;have O:(w.alloc (.deferred (some []))).heap.size=w.heap.size+1:=by simp[c]
  let a2:Act:={ a with defers:={ target:=.collected w.heap.size,args:=#[] }::a.defers }
  have M:FrR z (upd ρ s.m.n (lc w.heap.size 0 0)) nt (s.fr.set 510 (dv (s.m.n::kO (s.fr.get 510)))) a2:=by
   have v:=H.mono A.ext;have B:∀ t,t<512->t≠510->(s.fr.set 510 (dv (s.m.n::kO (s.fr.get 510)))).get t=s.fr.get t:=fun t F I=>by rw[N3 _ _ _ _ C8 F,A9 I]
   refine⟨v.size,v.le,?_,fun _=>by rw[B 511 C8 C8];exact v.rd J,fun t ht=>by rw[B t A0 A0];exact v.get t ht⟩;obtain⟨ds,d1,d2⟩:=v.df;refine⟨{ target:=.collected w.heap.size,args:=#[] }::ds,by show _::a.defers=_;rw[d1];rfl,?_⟩;unfold dvG at d2 ⊢;have hb:Nat.ble nt 510=true:=C5 J;rw[hb]at d2 ⊢;rw[N3 _ _ _ _ C8 C8,B0 rfl];have hd:kO (dv (s.m.n::kO (s.fr.get 510)))=s.m.n::kO (s.fr.get 510):=by
    simp[kO,dv,A4H,Function.comp_def]
   simp only[F1,hd]at d2 ⊢;refine⟨by simp[d2.1],fun i id d F I=>?_⟩;cases i with
   | zero =>
     simp only[T6,D9]at F I;subst F;subst I;exact⟨_,k1,rfl⟩
   | succ i=>exact d2.2 i id d (by simpa using F) (by simpa using I)
  have U:VR (upd ρ s.m.n (lc w.heap.size 0 0)) ((V6 x).run s.fr) (a2.eval x):=by
   rw[fR];exact W.mono A.ext
  obtain⟨k,args,d,L,T,K⟩:=zV (r:={ state:=.ready,pending:=none,fn:=b,tmps:=a.tmps,params:=ps,assign:=as,body:=bd,defers:=w.heap.size }) N f1 f2 f3 X h Z G M U ⟨rfl,rfl,rfl,rfl,rfl,rfl⟩ (Q:=Q) fun u w' g1 g2=>hQ u a2 w' g1 (St.trans y A g2)
  rw[O]at L K;exact⟨_,_,_,d,_,k,args,_,D,L,fun _ _=>trivial,T,tQ,K⟩
def AE{call:Q5}{lp:LpT}{q:List Bool}{x:Code}(f:∀ (s c:S) (e:Ex),(P1 P nt gl call lp q x).run s=some (e,c)->s.m.hi<=c.m.hi/\s.m.lg.le c.m.lg):∀ (n:Nat) (s c:S) (e:Ex),EO (P1 P nt gl call lp q x) n s=some (e,c)->s.m.hi<=c.m.hi/\s.m.lg.le c.m.lg
 | 0,s,c,e,h=>by cases h
 | n+1,s,c,e,h=>by
   unfold EO at h;split at h
   .rename_i s1 k;have a:=f _ _ _ k;have b:=AE f n _ _ _ h;exact⟨C3 a.1 b.1,a.2.trans b.2⟩
   .exact f _ _ _ h
def AF{call:Q5}{lp:LpT}{q:List Bool}{x:Code}{L:S->Option (Ex×S)}(f:∀ (s c:S) (e:Ex),(P1 P nt gl call lp q x).run s=some (e,c)->s.m.hi<=c.m.hi/\s.m.lg.le c.m.lg)
  (k:∀ (s c:S) (e:Ex),L s=some (e,c)->s.m.hi<=c.m.hi/\s.m.lg.le c.m.lg):∀ (n:Nat) (s c:S) (e:Ex),EP (P1 P nt gl call lp q x) L n s=some (e,c)->s.m.hi<=c.m.hi/\s.m.lg.le c.m.lg
 | 0,s,c,e,h=>by cases h
 | n+1,s,c,e,h=>by
   unfold EP at h;split at h
   .rename_i r hr;cases h;exact k _ _ _ hr
   .split at h
    .rename_i s1 l;have a:=f _ _ _ l;have b:=AF f k n _ _ _ h;exact⟨C3 a.1 b.1,a.2.trans b.2⟩
    .exact f _ _ _ h
def NN{c:XC}{a b:jC}{s l:S}{e:Ex}(h:NO c a b s=some (e,l)):∃ t lg,brL s.m.lg (c.run s.fr)=some (t,lg)/\(bif t then a.run ⟨s.fr,s.m.wLg lg⟩else b.run ⟨s.fr,s.m.wLg lg⟩)=some (e,l):=by
 obtain⟨fr,⟨H,n,W,hi,lg⟩⟩:=s;unfold NO at h;split at h
 .rename_i f;exact⟨true,lg,by rw[f];rfl,h⟩
 .rename_i f;exact⟨false,lg,by rw[f];rfl,h⟩
 .simp only at h;split at h
  .rename_i lg' k;exact⟨true,lg',k,h⟩
  .rename_i lg' k;exact⟨false,lg',k,h⟩
  .cases h
def X0{call:Q5}{lp:LpT}{body:Code}(v:Z2 P base gl call)(w:jB P base gl call)(l:QW P base gl nt body lp):∀ (c:Code) (q:List Bool),H8 q body=some c->∀ (s k:S) (e:Ex),(P1 P nt gl call lp q c).run s=some (e,k)->s.m.hi<=k.m.hi/\s.m.lg.le k.m.lg
 | .skip,q,f,s,k,e,h=>by have h:some (Ex.normal,s)=some (e,k):=h;cases h;exact⟨A7 _,.refl _⟩
 | .label _,q,f,s,k,e,h=>by have h:some (Ex.normal,s)=some (e,k):=h;cases h;exact⟨A7 _,.refl _⟩
 | .exit id,q,f,s,k,e,h=>by have h:some (Ex.exit id,s)=some (e,k):=h;cases h;exact⟨A7 _,.refl _⟩
 | .ret,q,f,s,k,e,h=>by have h:some (Ex.ret,s)=some (e,k):=h;cases h;exact⟨A7 _,.refl _⟩
 | .region id ops d,q,f,s,k,e,h=>by
   cases d with
   | false =>
     have h:s9 (Y8 P nt gl call ops.toList ops.toList) s=some (e,k):=h;unfold s9 at h;split at h
     .rename_i s1 u;cases h;exact⟨uQ _ _ _ u,nO v _ _ _ u⟩
     .cases h
   | true =>
     unfold P1 at h;simp only at h;cases f:IQ ops with
     | false=>rw[f]at h;cases h
     | true =>
       rw[f]at h;have go:s9 ⟨bD P nt gl call ops.toList ops.toList 0 (u6 ops.toList []) [] []⟩ s=some (e,k)->s.m.hi<=k.m.hi/\s.m.lg.le k.m.lg:=fun h=>by
        unfold s9 at h;split at h
        .rename_i s1 u;cases h;exact(w.2 nt ops f _ _ u).1
        .cases h
       simp only[F1]at h;cases hr:nI ops.toList with
       | false=>rw[hr]at h;exact go h
       | true =>
         rw[hr]at h;simp only[F1]at h;cases hm:nT P nt gl s.fr s.m.H ops.toList with
         | false=>rw[hm]at h;exact go h
         | true =>
           rw[hm]at h;simp only[F1]at h;unfold s9 at h;split at h
           .rename_i s1 u;cases h;exact⟨uQ _ _ _ u,nO v _ _ _ u⟩
           .cases h
 | .seq x y,q,f,s,k,e,h=>by
   have A:=X0 v w l x (q++[false]) (J7 f rfl);have B:=X0 v w l y (q++[true]) (J7 f rfl);have h:A1T (P1 P nt gl call lp (q++[false]) x) (P1 P nt gl call lp (q++[true]) y) s=some (e,k):=h;unfold A1T at h;split at h
   .rename_i s1 u;have a:=A _ _ _ u;have b:=B _ _ _ h;exact⟨C3 a.1 b.1,a.2.trans b.2⟩
   .exact A _ _ _ h
 | .cond c x y,q,f,s,k,e,h=>by
   have A:=X0 v w l x (q++[false]) (J7 f rfl);have B:=X0 v w l y (q++[true]) (J7 f rfl);unfold P1 at h;cases f:okX nt gl c with
   | false=>rw[f]at h;cases h
   | true =>
     rw[f]at h;have h:NO (V6 c) (P1 P nt gl call lp (q++[false]) x) (P1 P nt gl call lp (q++[true]) y) s=some (e,k):=h;obtain⟨t,lg,u,D⟩:=NN h;have C:=gU u;obtain⟨fr,⟨H,n,W,hi,G⟩⟩:=s;cases t with
     | true=>have a:=A _ _ _ D;exact⟨a.1,C.trans a.2⟩
     | false=>have b:=B _ _ _ D;exact⟨b.1,C.trans b.2⟩
 | .block id x,q,f,s,k,e,h=>by
   have A:=X0 v w l x (q++[false]) (J7 f rfl);have h:BV id (P1 P nt gl call lp (q++[false]) x) s=some (e,k):=h;unfold BV at h;split at h
   .rename_i j s1 u
    have:=A _ _ _ u;cases f:Nat.beq j id<;>rw[f]at h<;>cases h<;>exact this
   .exact A _ _ _ h
 | .loop x,q,f,s,k,e,h=>by
   have h:NM (P1 P nt gl call lp (q++[false]) x) (lp.look q) s=some (e,k):=h;unfold NM at h;split at h
   .rename_i L F;exact AF (X0 v w l x (q++[false]) (J7 f rfl)) (l.2 q x L f F).lg _ _ _ _ h
   .exact AE (X0 v w l x (q++[false]) (J7 f rfl)) _ _ _ _ h
 | .rangeFunc x _ _ _,q,f,s,k,e,h=>by
   unfold P1 at h;cases E:okX nt gl x with
   | false=>rw[E]at h;cases h
   | true=>rw[E]at h;exact WD v h
 | .scope x,q,f,s,k,e,h=>X0 v w l x (q++[false]) (J7 f rfl) s k e h
 | .goto _,q,f,s,k,e,h=>by cases h
 | .refuse _,q,f,s,k,e,h=>by cases h
def W9{call:Q5}{lp:LpT}{body:Code}(D:Z2 P base gl call)(E:jB P base gl call)(l:QW P base gl nt body lp):∀ (c:Code) (q:List Bool),H8 q body=some c->∀ (ρ:Ren) (s f:S) (e:Ex) (a:Act) (w:World) (Q:Exit->Act->World->Prop),(P1 P nt gl call lp q c).run s=some (e,f)->Sat f.m.lg->At P base gl ρ s.m f.m.hi w->FrR z ρ nt s.fr a ->
  (∀ M a' w',FrR z M nt f.fr a'->St P base ρ M s.m f.m w w'->Q e.out a' w')->c.wpIn (fw z.rd) 0 P Q a w
 | .skip,q,C,ρ,s,f,e,a,w,Q,h,hS,b,v,A=>by have h:some (Ex.normal,s)=some (e,f):=h;cases h;exact wpIn_skip (A ρ a w v (.refl b.hr))
 | .label _,q,C,ρ,s,f,e,a,w,Q,h,hS,b,v,A=>by have h:some (Ex.normal,s)=some (e,f):=h;cases h;exact wpIn_label (A ρ a w v (.refl b.hr))
 | .exit id,q,C,ρ,s,f,e,a,w,Q,h,hS,b,v,A=>by have h:some (Ex.exit id,s)=some (e,f):=h;cases h;exact wpIn_exit (A ρ a w v (.refl b.hr))
 | .ret,q,C,ρ,s,f,e,a,w,Q,h,hS,b,v,A=>by have h:some (Ex.ret,s)=some (e,f):=h;cases h;exact wpIn_ret (A ρ a w v (.refl b.hr))
 | .region id ops d,q,C,ρ,s,f,e,a,w,Q,h,hS,b,v,A=>by
   cases d with
   | false =>
     have h:s9 (Y8 P nt gl call ops.toList ops.toList) s=some (e,f):=h;unfold s9 at h;split at h
     .rename_i s1 I;cases h;exact xF (HJ D _ ρ s f a w I hS b v A)
     .cases h
   | true =>
     unfold P1 at h;simp only at h;cases C:IQ ops with
     | false=>rw[C]at h;cases h
     | true =>
       rw[C]at h;have go:s9 ⟨bD P nt gl call ops.toList ops.toList 0 (u6 ops.toList []) [] []⟩ s=some (e,f)->(Code.region id ops true).wpIn (fw z.rd) 0 P Q a w:=fun h=>by
        unfold s9 at h;split at h
        .rename_i s1 I;cases h;exact(E.2 nt ops C _ _ I).2 z ρ a w id Q hS b v A
        .cases h
       simp only[F1]at h;cases hr:nI ops.toList with
       | false=>rw[hr]at h;exact go h
       | true =>
         rw[hr]at h;simp only[F1]at h;cases hm:nT P nt gl s.fr s.m.H ops.toList with
         | false=>rw[hm]at h;exact go h
         | true =>
           rw[hm]at h;simp only[F1]at h;unfold s9 at h;split at h
           .rename_i s1 I;cases h;exact PO E.1 D hr hm I hS b v A
           .cases h
 | .seq x y,q,C,ρ,s,f,e,a,w,Q,h,hS,b,v,A=>by
   have B:H8 (q++[false]) body=some x:=J7 C rfl;have K:H8 (q++[true]) body=some y:=J7 C rfl;have h:A1T (P1 P nt gl call lp (q++[false]) x) (P1 P nt gl call lp (q++[true]) y) s=some (e,f):=h;unfold A1T at h;split at h
   .rename_i s1 I;have hh:=X0 D E l y _ K _ _ _ h;refine wpIn_seq (W9 D E l x _ B ρ s s1 .normal a w _ I (V2.le hS hh.2) (b.less hh.1) v fun u G w1 f1 k=>?_);exact W9 D E l y _ K u s1 f e G w1 Q h hS (b.step k) f1 fun ρ2 a2 w2 f2 F=>A ρ2 a2 w2 f2 (St.trans b.fr k F)
   .rename_i J;refine wpIn_seq (W9 D E l x _ B ρ s f e a w _ h hS b v fun u G w1 f1 k=>?_)
    have:=A u G w1 f1 k;cases e with
    | normal=>exact absurd h (J f)
    | exit id=>exact this
    | ret=>exact this
 | .cond c x y,q,C,ρ,s,f,e,a,w,Q,h,hS,b,v,A=>by
   have B:H8 (q++[false]) body=some x:=J7 C rfl;have K:H8 (q++[true]) body=some y:=J7 C rfl;unfold P1 at h;cases R:okX nt gl c with
   | false=>rw[R]at h;cases h
   | true =>
     rw[R]at h;have h:NO (V6 c) (P1 P nt gl call lp (q++[false]) x) (P1 P nt gl call lp (q++[true]) y) s=some (e,f):=h;have hv:=v.ev b.gr R;obtain⟨t,lg,I,X⟩:=NN h;rw[fR]at I;have U:St P base ρ ρ s.m (s.m.wLg lg) w w:=St.wLg b.hr lg;cases t with
     | true =>
       have hh:=X0 D E l x _ B _ _ _ X;have Y:Sat lg:=V2.le hS (by obtain⟨fr,⟨H,n,W,hi,l0⟩⟩:=s;exact hh.2);exact wpIn_cond_true (oJ I hv Y) (W9 D E l x _ B ρ ⟨s.fr,s.m.wLg lg⟩ f e a w Q X hS (b.wLg lg) v fun ρ2 a2 w2 f2 F=>A ρ2 a2 w2 f2 (St.trans b.fr U F))
     | false =>
       have hh:=X0 D E l y _ K _ _ _ X;have Y:Sat lg:=V2.le hS (by obtain⟨fr,⟨H,n,W,hi,l0⟩⟩:=s;exact hh.2);exact wpIn_cond_false (oJ I hv Y) (W9 D E l y _ K ρ ⟨s.fr,s.m.wLg lg⟩ f e a w Q X hS (b.wLg lg) v fun ρ2 a2 w2 f2 F=>A ρ2 a2 w2 f2 (St.trans b.fr U F))
 | .block id x,q,C,ρ,s,f,e,a,w,Q,h,hS,b,v,A=>by
   have B:H8 (q++[false]) body=some x:=J7 C rfl;have h:BV id (P1 P nt gl call lp (q++[false]) x) s=some (e,f):=h;unfold BV at h;split at h
   .rename_i j s1 I;cases O:Nat.beq j id with
    | true =>
      rw[O]at h;cases h;have hj:=A1 O;refine wpIn_block (W9 D E l x _ B ρ s f (.exit j) a w _ I hS b v fun u G w1 f1 k=>?_)
      have:=A u G w1 f1 k
      simpa [Exit.inBlock,Ex.out,hj]using this
    | false =>
      rw[O]at h;cases h;have hj:j≠id:=fun e=>by subst e;simp at O
      refine wpIn_block (W9 D E l x _ B ρ s f (.exit j) a w _ I hS b v fun u G w1 f1 k=>?_)
      have:=A u G w1 f1 k
      simpa [Exit.inBlock,Ex.out,hj]using this
   .rename_i J;refine wpIn_block (W9 D E l x _ B ρ s f e a w _ h hS b v fun u G w1 f1 k=>?_)
    have:=A u G w1 f1 k;cases e with
    | normal=>exact this
    | exit j=>exact absurd h (J j f)
    | ret=>exact this
 | .loop x,q,C,ρ,s,f,e,a,w,Q,h,hS,b,v,A=>by
   have B:H8 (q++[false]) body=some x:=J7 C rfl;replace h:NM (P1 P nt gl call lp (q++[false]) x) (lp.look q) s=some (e,f):=h;unfold NM at h;split at h
   .rename_i L hL;have V:=l.2 q x L C hL;have key:∀ (n:Nat) (s:S),EP (P1 P nt gl call lp (q++[false]) x) L n s=some (e,f)->∃ N,∀ (ρ:Ren) (a:Act) (w:World) (Q:Exit->Act->World->Prop),At P base gl ρ s.m f.m.hi w->FrR z ρ nt s.fr a ->
      (∀ M a' w',FrR z M nt f.fr a'->St P base ρ M s.m f.m w w'->Q e.out a' w')->Code.roundsIn (fw z.rd) 0 P x Q N a w:=by
     intro n;induction n with
     | zero=>intro s h;cases h
     | succ n Z =>
       intro s h;unfold EP at h;split at h
       .rename_i r hr;cases h;obtain⟨N,T⟩:=V.ok s f e hr hS;exact⟨N,T z⟩
       .split at h
        .rename_i s1 I;obtain⟨N,T⟩:=Z s1 h;have hh:=AF (X0 D E l x _ B) V.lg _ _ _ _ h;refine⟨N+1,fun ρ a w Q b v A=>?_⟩;show x.wpIn (fw z.rd) 0 P (Exit.then (Code.roundsIn (fw z.rd) 0 P x Q N) Q) a w;refine W9 D E l x _ B ρ s s1 .normal a w _ I (V2.le hS hh.2) (b.less hh.1) v fun u G w1 f1 k=>?_
         exact T u G w1 Q (b.step k) f1 fun ρ2 a2 w2 f2 F=>A ρ2 a2 w2 f2 (St.trans b.fr k F)
        .rename_i J;refine⟨1,fun ρ a w Q b v A=>?_⟩;show x.wpIn (fw z.rd) 0 P (Exit.then (Code.roundsIn (fw z.rd) 0 P x Q 0) Q) a w;refine W9 D E l x _ B ρ s f e a w _ h hS b v fun u G w1 f1 k=>?_
         have:=A u G w1 f1 k;cases e with
         | normal=>exact absurd h (J f)
         | exit id=>exact this
         | ret=>exact this
    obtain⟨N,T⟩:=key _ s h;exact wpIn_loop_rounds N (T ρ a w Q b v A)
   obtain⟨n,h0⟩:∃ n,EO (P1 P nt gl call lp (q++[false]) x) n s=some (e,f):=⟨_,h⟩;clear h;have h:=h0;clear h0;refine wpIn_loop_rounds n ?_;induction n generalizing s ρ a w with
   | zero=>cases h
   | succ n Z =>
     unfold EO at h;show x.wpIn (fw z.rd) 0 P (Exit.then (Code.roundsIn (fw z.rd) 0 P x Q n) Q) a w;split at h
     .rename_i s1 I;have hh:=AE (X0 D E l x _ B) _ _ _ _ h;refine W9 D E l x _ B ρ s s1 .normal a w _ I (V2.le hS hh.2) (b.less hh.1) v fun u G w1 f1 k=>?_
      exact Z u s1 G w1 (b.step k) f1 (fun ρ2 a2 w2 f2 F=>A ρ2 a2 w2 f2 (St.trans b.fr k F)) h
     .rename_i J;refine W9 D E l x _ B ρ s f e a w _ h hS b v fun u G w1 f1 k=>?_
      have:=A u G w1 f1 k;cases e with
      | normal=>exact absurd h (J f)
      | exit id=>exact this
      | ret=>exact this
 | .rangeFunc x ps as bd,q,C,ρ,s,f,e,a,w,Q,h,hS,b,v,A=>by
   unfold P1 at h;cases hx:okX nt gl x with
   | false=>rw[hx]at h;cases h
   | true =>
     rw[hx]at h;obtain⟨fn,f1,f2,f3⟩:=l.1;exact ZK D f1 f2 f3 C hx h hS b v A
 | .scope x,q,C,ρ,s,f,e,a,w,Q,h,hS,b,v,A=>ON (W9 D E l x _ (J7 C rfl) ρ s f e a w _ h hS b v fun u G w1 f1 k=>by cases e<;>exact A u G w1 f1 k)
 | .goto _,q,C,ρ,s,f,e,a,w,Q,h,hS,b,v,A=>by cases h
 | .refuse _,q,C,ρ,s,f,e,a,w,Q,h,hS,b,v,A=>by cases h
end
end
section
open Go
variable [Ora]
def uY{e:Hp AB}:∀ (l:List Nat) (H:Hp AB),(∀ b ∈ l,b<=J0)->∀ id,id<=J0->Hp.get (gI e H l) id=if id ∈ l then Hp.get e id else Hp.get H id
 | [],H,_,id,_=>by simp[gI]
 | b::r,H,hl,id,hid=>by
   have k:=hl b B6;rw[gI,gB,uY r _ (fun x f=>hl x (D1 _ f)) id hid,F6 _ _ _ _ k hid];by_cases a:id ∈ r
   .rw[B0 a,B0 (D1 _ a)]
   .rw[A9 a];by_cases c:id=b
    .subst c;rw[B0 rfl,B0 B6]
    .rw[A9 c,A9 (by simp[a,c])]
theorem Z9{l:I7}{b:Nat}:bY l b=true↔b ∈ l:=by
 unfold bY;rw[W1];constructor
 .rintro⟨x,a,h⟩;rw[A1 h];exact a
 .intro h;exact⟨b,h,by simp⟩
def uT:∀ (l acc:List Nat) (b:Nat),b ∈ qI l acc↔b ∈ l∨b ∈ acc
 | [],acc,b=>by simp[qI]
 | x::r,acc,b=>by
   unfold qI;cases h:bY acc x with
   | true =>
     have a:=Z9.1 h;simp only[F1];rw[uT r acc b];constructor
     .rintro(h|h)
      .exact .inl (D1 _ h)
      .exact .inr h
     .rintro(h|h)
      .rcases C4.1 h with rfl|h
       .exact .inr a
       .exact .inl h
      .exact .inr h
   | false =>
     simp only[E7];rw[uT r (x::acc) b];simp only[C4];constructor
     .rintro(h|h|h)
      .exact .inl (.inr h)
      .exact .inl (.inl h)
      .exact .inr h
     .rintro((h|h)|h)
      .exact .inr (.inl h)
      .exact .inl h
      .exact .inr (.inr h)
def vS{l:I7}(h:JD l=true):∀ b ∈ l,b<=J0:=fun b a=>A2 (E8.1 h b a)
section
variable {P:Program} {base gl nt:Nat}
def HV{ρ A:Ren}{n:Nat}(f:∀ b l,b<n->A b=some l->ρ b=some l){v v':Value}(h:VR A v v'):∀ (d:Nat),aK n d v=true->VR ρ v v':=by
 have B:∀ (low:Value->Bool) (a:List Value),qA low a=true->∀ (i:Nat) (v:Value),a[i]? = some v->low v=true:=fun low a=>by
  induction a with
  | nil=>intro _ i v h;simp at h
  | cons x r u =>
    intro h i v hi;obtain⟨m,t⟩:=B3 (show(low x && qA low r)=true from h);cases i with
    | zero=>simp at hi;subst hi;exact m
    | succ i=>exact u t i v (by simpa using hi)
 induction h with
 | pure h=>intro d _;exact .pure h
 | hole h L=>intro d _;exact .hole h L
 | junk h=>intro d _;exact .junk h
 | ixp h F hi M I =>
   intro d e;cases d with
   | zero=>cases e
   | succ d =>
     obtain⟨g1,_⟩:=B3 e;obtain⟨g1,_⟩:=B3 (show(aK n d _ && _)=true from g1);cases d with
     | zero=>cases g1
     | succ d=>exact .ixp (f _ _ (A2 g1) h) F hi M I
 | dat h m t h3 E =>
   intro d e;cases d with
   | zero=>cases e
   | succ d =>
     obtain⟨g1,_⟩:=B3 e;obtain⟨g1,_⟩:=B3 (show(aK n d _ && _)=true from g1);cases d with
     | zero=>cases g1
     | succ d=>exact .dat (f _ _ (A2 g1) h) m t h3 E
 | clp h m t h3 E N =>
   intro d e;cases d with
   | zero=>cases e
   | succ d =>
     obtain⟨g1,_⟩:=B3 e;obtain⟨g1,_⟩:=B3 (show(aK n d _ && _)=true from g1);cases d with
     | zero=>cases g1
     | succ d=>exact .clp (f _ _ (A2 g1) h) m t h3 E N
 | own h m t =>
   intro d e;cases d with
   | zero=>cases e
   | succ d =>
     obtain⟨g1,_⟩:=B3 e;obtain⟨g1,_⟩:=B3 (show(aK n d _ && _)=true from g1);cases d with
     | zero=>cases g1
     | succ d=>exact .own (h.imp (fun⟨l,w,a,b⟩=>⟨l,w,f _ _ (A2 g1) a,b⟩) fun⟨l,w,rows,a,b⟩=>⟨l,w,rows,f _ _ (A2 g1) a,b⟩) m t
 | dpt h m t =>
   intro d e;cases d with
   | zero=>cases e
   | succ d =>
     obtain⟨g1,_⟩:=B3 e;obtain⟨g1,_⟩:=B3 (show(aK n d _ && _)=true from g1);cases d with
     | zero=>cases g1
     | succ d=>exact .dpt (let ⟨l,w,rows,a,s,c,k,G,r⟩:=h;⟨l,w,rows,a,s,c,k,f _ _ (A2 g1) G,r⟩) m t
 | opt h m t =>
   intro d e;cases d with
   | zero=>cases e
   | succ d =>
     obtain⟨g1,_⟩:=B3 e;obtain⟨g1,_⟩:=B3 (show(aK n d _ && _)=true from g1);cases d with
     | zero=>cases g1
     | succ d=>exact .opt (let ⟨l,w,rows,k,G,r⟩:=h;⟨l,w,rows,k,f _ _ (A2 g1) G,r⟩) m t
 | ptr h=>intro d e;cases d with|zero=>cases e|succ d=>exact .ptr (f _ _ (A2 e) h)
 | sl h hm=>intro d e;cases d with|zero=>cases e|succ d=>exact .sl (f _ _ (A2 e) h) hm
 | op h hm K H=>intro d e;cases d with|zero=>cases e|succ d=>exact .op (f _ _ (A2 e) h) hm K H
 | opE F=>intro d _;exact .opE F
 | map h=>intro d e;cases d with|zero=>cases e|succ d=>exact .map (f _ _ (A2 e) h)
 | sdt h =>
   intro d e;cases d with
   | zero=>cases e
   | succ d =>
     obtain⟨g1,_⟩:=B3 e;obtain⟨g1,_⟩:=B3 (show(aK n d _ && _)=true from g1);cases d with
     | zero=>cases g1
     | succ d=>exact .sdt (let ⟨l,a,b⟩:=h;⟨l,f _ _ (A2 g1) a,b⟩)
 | yv h =>
   intro d e;cases d with
   | zero=>cases e
   | succ d =>
     obtain⟨g1,_⟩:=B3 e;obtain⟨g1,_⟩:=B3 (show(aK n d _ && _)=true from g1);cases d with
     | zero=>cases g1
     | succ d=>exact .yv (f _ _ (A2 g1) h)
 | func y J m t C D =>
   intro d e;cases d with
   | zero=>cases e
   | succ d =>
     obtain⟨g1,g2⟩:=B3 e;exact .func y J (fun i v v' a b=>C i v v' a b d (B _ _ g1 i v a)) (fun i v v' a b=>D i v v' a b d (B _ _ g2 i v a))
 | iface h u=>intro d e;cases d with|zero=>cases e|succ d=>exact .iface (u d e)
 | agg y h u=>intro d e;cases d with|zero=>cases e|succ d=>exact .agg y (fun i v v' a b=>u i v v' a b d (B _ _ e i v a))
 | tuple y h u=>intro d e;cases d with|zero=>cases e|succ d=>exact .tuple y (fun i v v' a b=>u i v v' a b d (B _ _ e i v a))
def A5y{ρ E:Ren}{n:Nat}(F:∀ b l,b<n->E b=some l->ρ b=some l){ab:AB}{l:Loc}{w:World}(h:BR P E ab l w)(e:A2V n (some ab)=true):BR P ρ ab l w:=by
 cases ab with
 | cells cs T ro =>
   obtain⟨u,C,fz,G,m,k,h3⟩:=h;refine⟨u,C,fz,G,m,fun i v hi=>?_,h3⟩;obtain⟨v',g1,g2⟩:=k i v hi;have y:aK n 10 v=true:=by
    have a:qA (aK n 10) cs=true:=e;clear k g1 g2 e;induction cs generalizing i with
    | nil=>simp at hi
    | cons x r B =>
      obtain⟨D,A⟩:=B3 (show(aK n 10 x && qA (aK n 10) r)=true from a);cases i with
      | zero=>simp at hi;subst hi;exact D
      | succ i=>exact B i (by simpa using hi) A
   exact⟨v',g1,HV F g2 10 y⟩
 | mp c t T=>exact h
 | iter vs =>
   obtain⟨u,h⟩:=h;rcases h with⟨s,O,m,k⟩|h
   rotate_left
   .exact⟨u,.inr h⟩
   refine⟨u,.inl ⟨s,O,m,k.1,fun i v v' g1 g2=>?_⟩⟩;have y:aK n 10 v=true:=by
    have a:qA (aK n 10) vs=true:=e;clear k g2 e;induction vs generalizing i with
    | nil=>simp at g1
    | cons x r B =>
      obtain⟨D,A⟩:=B3 (show(aK n 10 x && qA (aK n 10) r)=true from a);cases i with
      | zero=>simp at g1;subst g1;exact D
      | succ i=>exact B i (by simpa using g1) A
   exact HV F (k.2 i v v' g1 g2) 10 y
 | lp f q vs st =>
   obtain⟨u,r,m,k⟩:=h;refine⟨u,r,m,k.code,⟨k.fr.1,fun i v v' g1 g2=>?_⟩,k.st⟩;have y:aK n 10 v=true:=by
    have a:qA (aK n 10) vs=true:=e;clear k g2 e;induction vs generalizing i with
    | nil=>simp at g1
    | cons x r B =>
      obtain⟨D,A⟩:=B3 (show(aK n 10 x && qA (aK n 10) r)=true from a);cases i with
      | zero=>simp at g1;subst g1;exact D
      | succ i=>exact B i (by simpa using g1) A
   exact HV F (k.fr.2 i v v' g1 g2) 10 y
 | dfr b=>exact h
 | sq c t T g ro =>
   obtain⟨wd,inf,m,k,h3,H⟩:=SqR.ex h;refine⟨⟨wd,inf,m,k,h3,H.imp (fun x=>x) fun⟨I,J⟩=>⟨I,?_⟩⟩⟩;obtain⟨C,fz,G,rows,lg,m,k,h3,H,J,L,N,M,K⟩:=J;exact⟨C,fz,G,rows,lg,m,k,h3,H,J,L,F _ _ (A2 e) N,M,K⟩
 | frz=>exact h
def LX{n:Nat}{H:Hp AB}:∀ {l:I7},PY n H l=true->∀ b ∈ l,A2V n (Hp.get H b)=true
 | [],_,b,h=>by cases h
 | x::r,h,b,a=>by
   obtain⟨e,c⟩:=B3 (show(A2V n (Hp.get H x) && PY n H r)=true from h);rcases C4.1 a with rfl|a
   .exact e
   .exact LX c b a
def A62{ρ K:Ren}{m m1 m':Mem}{w w1:World}{v v':Value}(D:gcM m m1 v=some m')(st:St P base ρ K ⟨m.H,m.n,[],m.hi,m.lg⟩ m1 w w1)(B:At P base gl ρ m m'.hi w)(hv:VR K v v') :
  m'.hi=m1.hi/\∃ ρ2,VR ρ2 v v'/\St P base ρ ρ2 m m' w w1:=by
 have av:m1.n<=m1.hi:=st.nhi B.nh;have hle:m.hi<=m1.hi:=st.hle;have e:∀ b,b ∈ qI (m1.W.filter fun b=>Nat.blt b m.n || Nat.ble m1.hi b) []↔b ∈ m1.W/\(b<m.n∨m1.hi<=b):=fun b=>by
  rw[uT];simp only[U3,V9,or_false,J9];constructor
  .rintro⟨t,s⟩;exact⟨t,s.imp (fun h=>A2 h) (fun h=>A2 h)⟩
  .rintro⟨t,s⟩;exact⟨t,s.imp (fun h=>C5 h) (fun h=>C5 h)⟩
 unfold gcM at D;generalize hW:qI (m1.W.filter fun b=>Nat.blt b m.n || Nat.ble m1.hi b) []=W at D e;simp only[F5,J4,fQ]at D;have hold:m1.hi=m'.hi->∀ b l,ρ b=some l->b<m.n∨m1.hi<=b:=fun he b l A=>by
  rcases G9 b m.n with t|t
  .exact .inl t
  .rcases G9 b m1.hi with s|s
   .rw[B.fr b t (he▸s)]at A;cases A
   .exact .inr s
 have E:m1.hi=m'.hi->∀ id,id<=J0->id ∉ W->∀ ab,Hp.get m.H id=some ab->id ∉ m1.W/\Hp.get m1.H id=some ab:=fun he id hid ay ab c=>by
  obtain⟨l,t,_,_⟩:=B.hr.at_ id hid ab c;have G:=hold he id l t;have s:id ∉ m1.W:=fun h=>ay ((e id).2 ⟨h,G⟩)
  exact⟨s,by rw[st.same id hid s G];exact c⟩
 have F:∀ b ∈ W,∀ l,ρ b=some l->∃ ab,Hp.get m.H b=some ab/\ab.rw=true:=fun b A l u=>st.wrw b ((e b).1 A).1 (by simp) l u
 cases L:aK m.n 10 v && PY m.n m1.H W with
 | true =>
   rw[L]at D;simp only[F1]at D;obtain⟨y,D⟩:=A3 D;cases D;obtain⟨q1,q2⟩:=B3 L;have y:=vS y;have G:∀ b l,b<m.n->K b=some l->ρ b=some l:=fun b l A u=>by
    cases Q:ρ b with
    | some M=>rw[st.ext b M Q]at u;exact u
    | none=>have h:=(st.new b l u Q).1;exact absurd A (Nat.not_lt.2 h)
   have f:∀ id,id<=J0->Hp.get (gI m1.H m.H W) id=if id ∈ W then Hp.get m1.H id else Hp.get m.H id:=fun id hid=>uY W _ y id hid
   have J:∀ id,id<=J0->∀ ab,Hp.get (gI m1.H m.H W) id=some ab->Hp.get m1.H id=some ab:=fun id hid ab c=>by
    rw[f id hid]at c;by_cases h:id ∈ W
    .rw[B0 h]at c;exact c
    .rw[A9 h]at c;exact(E rfl id hid h ab c).2
   have ax:=st.hr.sub J;have ar:∀ id,id<=J0->∀ ab,Hp.get (gI m1.H m.H W) id=some ab->∀ l,K id=some l->ρ id=some l:=fun id hid ab c l u=>by
    cases Q:ρ id with
    | some M=>rw[st.ext id M Q]at u;exact u
    | none =>
      exfalso;have hn:=st.new id l u Q;rw[f id hid]at c;by_cases h:id ∈ W
      .have:=((e id).1 h).2;have t:m.n<=id:=hn.1;have s:=hn.2;omega
      .rw[A9 h]at c;obtain⟨M,t,_⟩:=B.hr.at_ id hid ab c;rw[t]at Q;cases Q
   refine⟨rfl,ρ,HV G hv 10 q1,⟨fun _ _ h=>h,fun b k t s=>(by rw[t]at s;cases s),A7 _,hle,fun h=>C3 h hle,⟨B.hr.dom,fun id hid ab c=>?_⟩,fun b A=>B7.2 (.inr A),fun b t s l u=>?_,fun k R A=>?_,st.size,st.os,fun b k t s=>(by rw[t]at s;cases s),fun id hid t s=>?_,fun k ⟨id,a,q,hid,C,L,V⟩=>?_⟩⟩
   .obtain⟨l,g1,g2,g3⟩:=ax.at_ id hid ab c;have u:=ar id hid ab c l g1;refine⟨l,u,?_,fun Z T=>⟨(g3 Z T).1,fun az Y aw l2 f1 f2 f3=>(g3 Z T).2 az Y aw l2 f1 (st.ext _ _ f2) f3⟩⟩;have ao:=c;rw[f id hid]at c;by_cases h:id ∈ W
    .rw[B0 h]at c
     have:=LX q2 id h;rw[c]at this;exact A5y G g2 this
    .rw[A9 h]at c;obtain⟨M,U,e2,e3⟩:=B.hr.at_ id hid ab c;rw[u]at U
     have:=A8 U;subst this;refine e2.mono (fun _ _ h=>h) (fun k R=>st.keep k (e2.tc R) fun b A lb O aq heq=>?_);have X:b ∈ W:=(e b).2 ⟨A,hold rfl b lb O⟩;obtain⟨an,c1,c2⟩:=F b X lb O
     have:=((B.hr.atl O c1).2 c2 aq).2 id hid ab l c u (heq▸R);subst this;exact h X
   .rcases B7.1 t with h|h
    .exact F b h l u
    .exact absurd h s
   .exact st.keep k R fun b N l u G=>A b (B7.2 (.inl ((e b).2 ⟨N,hold rfl b l u⟩))) l u G
   .show Hp.get (gI m1.H m.H W) id=_;rw[f id hid,A9 (fun h=>t (B7.2 (.inl h)))]
   .have C:Hp.get (gI m1.H m.H W) id=some a:=C;rw[f id hid]at C;by_cases h:id ∈ W
    .rw[B0 h]at C;exact st.tch k ⟨id,a,q,hid,C,st.ext _ _ L,V⟩
    .rw[A9 h]at C;exact .inr ⟨id,a,q,hid,C,L,V⟩
 | false =>
   rw[L]at D;simp only[E7]at D;generalize hI:(KV m.n m1.H 100000 (DC 10 v++wOf m1.H W) []).filter (fun b=>Nat.ble m.n b && Nat.blt b m1.hi)=I at D;have au:∀ b ∈ I,m.n<=b/\b<m1.hi:=fun b A=>by
    subst hI;obtain⟨_,h⟩:=U3.1 A;obtain⟨t,s⟩:=B3 h;exact⟨A2 t,A2 s⟩
   obtain⟨y,D⟩:=A3 D;cases D;have y:=vS y;have f:∀ id,id<=J0->Hp.get (gI m1.H m.H (W++I)) id=if id ∈ W++I then Hp.get m1.H id else Hp.get m.H id:=fun id hid=>uY _ _ y id hid
   have J:∀ id,id<=J0->∀ ab,Hp.get (gI m1.H m.H (W++I)) id=some ab->Hp.get m1.H id=some ab:=fun id hid ab c=>by
    rw[f id hid]at c;by_cases h:id ∈ W++I
    .rw[B0 h]at c;exact c
    .rw[A9 h]at c;exact(E rfl id hid (fun hh=>h (B7.2 (.inl hh))) ab c).2
   refine⟨rfl,K,hv,⟨st.ext,st.new,st.nle,hle,fun _=>av,st.hr.sub J,fun b A=>B7.2 (.inr A),fun b t s l u=>?_,fun k R A=>?_,st.size,st.os,fun b l t s G=>?_,fun id hid t s=>?_,fun k ⟨id,a,q,hid,C,L,V⟩=>?_⟩⟩
   .rcases B7.1 t with h|h
    .exact F b h l u
    .exact absurd h s
   .exact st.keep k R fun b N l u G=>A b (B7.2 (.inl ((e b).2 ⟨N,hold rfl b l u⟩))) l u G
   .rcases st.blk b l t s G with h|⟨b0,h3,M,h4,h5⟩
    .exact .inl h
    .exact .inr ⟨b0,B7.2 (.inl ((e b0).2 ⟨h3,hold rfl b0 M h4⟩)),M,h4,h5⟩
   .show Hp.get (gI m1.H m.H (W++I)) id=_;rw[f id hid,A9];intro h;rcases B7.1 h with h|h
    .exact t (B7.2 (.inl h))
    .have:=au id h;have s:id<m.n∨m1.hi<=id:=s;omega
   .have C:Hp.get (gI m1.H m.H (W++I)) id=some a:=C;rw[f id hid]at C;by_cases h:id ∈ W++I
    .rw[B0 h]at C;exact st.tch k ⟨id,a,q,hid,C,L,V⟩
    .rw[A9 h]at C;obtain⟨M,U,_⟩:=B.hr.at_ id hid a C;rw[st.ext _ _ U]at L
     have:=A8 L;subst this;exact .inr ⟨id,a,M,hid,C,U,V⟩
def kQ:∀ (vs:List Value) (fr:Fr) (i t:Nat),i+vs.length<=512->t<512->(gX fr i vs).get t=if i<=t/\t<i+vs.length then vs.getD (t-i) undef else fr.get t
 | [],fr,i,t,_,_=>by simp[gX];intro b a;omega
 | v::r,fr,i,t,h,ht=>by
   simp only[B2]at h ⊢;rw[gX,zJ,kQ r _ (i+1) t A0 ht,N3 _ _ _ _ A0 ht];by_cases b:i+1<=t/\t<i+1+r.length
   .rw[B0 b,B0 A0,show t-i=(t-(i+1))+1 by omega];rfl
   .rw[A9 b];by_cases a:t=i
    .subst a;rw[B0 rfl,B0 A0,mE];rfl
    .rw[A9 a,A9 A0]
def VA(tmps:Array Value):ResultVar->Sem Value
 | .tmp t=>pure (tmps.getD t undef)
 | .cell a t=>do loadVar t (<- asAddr (tmps.getD a undef))
variable {z:Zn}
def RP{ρ:Ren}{s:S}{a:Act}{w:World}(h:HR P base ρ s.m.H w)(C:FrR z ρ nt s.fr a):∀ (rs:List ResultVar) (vs:List Value),VC P nt s rs=some vs->∃ b,LR ρ vs b /\
  (rs.mapM (VA a.tmps)).run P w=.ok b w
 | [],vs,hr=>by
   simp only[VC,D9]at hr;subst hr;exact⟨[],.nil,rfl⟩
 | r::rs,vs,hr=>by
   unfold VC at hr;split at hr
   .rename_i v u n G;cases hr;obtain⟨b,g1,g2⟩:=RP h C rs u G;have k:∃ v',VR ρ v v'/\(VA a.tmps r).run P w=.ok v' w:=by
     unfold A6a at n;split at n
     .rename_i t;obtain⟨B,f⟩:=A3 n;cases f;exact⟨_,C.get t (A2 B),rfl⟩
     .rename_i c t;obtain⟨B,f⟩:=A3 n;have E:=C.get c (A2 B);split at f
      .rename_i I y;rw[y]at E;obtain⟨l,F,_,e⟩:=Q3 E;obtain⟨v',D,A⟩:=MA h f F;exact⟨v',A,by simp[VA,e,asAddr,D]⟩
      .cases f
    obtain⟨v',D,A⟩:=k;refine⟨v'::b,.cons D g1,?_⟩;simp only[List.mapM_cons,A5,A,g2,Result.andThen,Sem.run_pure]
   .cases hr
def A2A{ρ:Ren}{fn:Func}{s:S}{a:Act}{w:World}{v:Value}(h:HR P base ρ s.m.H w)(A:FrR z ρ fn.ntmps s.fr a)(hr:VB fn P s=some v):∃ v',VR ρ v v'/\(results fn a.tmps).run P w=.ok v' w:=by
 unfold VB at hr;have key:∀ vs,VC P fn.ntmps s fn.results.toList=some vs->∃ b,LR ρ vs b/\(results fn a.tmps).run P w=.ok (if h:b.toArray.size=1 then b.toArray[0]else .tuple b.toArray) w:=fun vs n=>by
  obtain⟨b,g1,g2⟩:=RP h A _ vs n;refine⟨b,g1,?_⟩;have he:results fn a.tmps=(do let vs <- fn.results.mapM (VA a.tmps);pure (if h:vs.size=1 then vs[0]else .tuple vs)):=by
   unfold results;rfl
  have hm:(fn.results.mapM (VA a.tmps)).run P w=.ok b.toArray w:=by
   rw[iA];show(Sem.bind (fn.results.toList.mapM (VA a.tmps)) fun l=>Sem.pure l.toArray).run P w=_;have t:∀ (x:Sem E0) (k:E0->Sem c9),(Sem.bind x k).run P w=(x >>= k).run P w:=fun _ _=>rfl
   rw[t,A5,g2];rfl
  rw[he,A5,hm];rfl
 split at hr
 .rename_i u c;cases hr;obtain⟨b,g1,g2⟩:=key _ c;obtain⟨v',B,rfl,g3,g4⟩:=g1.tail;cases g4.nil_inv;exact⟨v',g3,g2⟩
 .rename_i vs f c;cases hr;obtain⟨b,g1,g2⟩:=key _ c;refine⟨.tuple ⟨b⟩,.tuple g1.1 g1.2,?_⟩;rw[g2,dif_neg];intro e;have e:b.length=1:=by simpa using e
  have y:vs.length=1:=by rw[g1.1];exact e
  obtain⟨x,rfl⟩:=List.length_eq_one_iff.1 y;exact f x rfl
 .cases hr
def JJ(P:Program):Prop:=∀ (f:Nat) (fn:Func),P.funcs[f]? = some fn->(fn.name == "runtime.NumGoroutine")=false
def A0p{m m1 m':Mem}{v:Value}(a:gcM m m1 v=some m'):m'.lg=m1.lg:=by
 unfold gcM at a;simp only[F5,J4,fQ]at a;cases c:aK m.n 10 v && PY m.n m1.H (qI (m1.W.filter fun b=>Nat.blt b m.n || Nat.ble m1.hi b) [])with
 | true=>rw[c]at a;obtain⟨_,q⟩:=A3 a;cases q;rfl
 | false=>rw[c]at a;obtain⟨_,q⟩:=A3 a;cases q;rfl
def zB:∀ {l:I7} {m m':Mem},sP l m=some m'->m'.hi=m.hi/\m'.n=m.n/\m'.lg=m.lg
 | [],m,m',h=>by cases h;exact⟨rfl,rfl,rfl⟩
 | b::r,m,m',h=>by
   unfold sP at h;split at h
   .split at h
    .rename_i m1 hm;obtain⟨_,e⟩:=Y6 hm;obtain⟨c,a,h3⟩:=zB h;subst e;exact⟨c,a,h3⟩
    .cases h
   .cases h
def TI{fn:Func}{m m':Mem}{v:Value}(h:A6A fn P m r=some (v,m')):∃ e s m1,r=some (e,s)/\(e=.normal∨e=.ret)/\sP (dvG fn.ntmps s.fr) s.m=some m1/\VB fn P ⟨s.fr,m1⟩=some v/\gcM m m1 v=some m':=by
 have key:∀ (fr:Fr) (m0:Mem),(match sP (dvG fn.ntmps fr) m0 with
  | some m1=>match VB fn P ⟨fr,m1⟩with
    | some v=>match gcM m m1 v with
      | some m=>some (v,m)
      | none=>none
    | none=>none
  | none=>none)=some (v,m')->∃ m1,sP (dvG fn.ntmps fr) m0=some m1/\VB fn P ⟨fr,m1⟩=some v/\gcM m m1 v=some m':=fun fr m0 h=>by
  split at h
  .rename_i m1 f;split at h
   .rename_i u k;split at h
    .rename_i m2 h3;cases h;exact⟨m1,f,k,h3⟩
    .cases h
   .cases h
  .cases h
 unfold A6A at h;split at h
 .rename_i fr m1;obtain⟨m2,a,b,c⟩:=key _ _ h;exact⟨_,_,m2,rfl,.inl rfl,a,b,c⟩
 .rename_i fr m1;obtain⟨m2,a,b,c⟩:=key _ _ h;exact⟨_,_,m2,rfl,.inr rfl,a,b,c⟩
 .cases h
structure mC (P:Program) (base gl nt:Nat) (c:Code) (L:S->Option (Ex×S)):Prop where
 lg:∀ (s s':S) (e:Ex),L s=some (e,s')->s.m.hi<=s'.m.hi/\s.m.lg.le s'.m.lg
 ok:∀ (s s':S) (e:Ex),L s=some (e,s')->Sat s'.m.lg->∀ (z:Zn) (ρ:Ren) (a:Act) (w:World) (Q:Exit->Act->World->Prop),At P base gl ρ s.m s'.m.hi w->FrR z ρ nt s.fr a ->
  (∀ a' w',Q Ex.ret.out a' w'->Q Ex.normal.out a' w')->(∀ ρ' a' w',FrR z ρ' nt s'.fr a'->St P base ρ ρ' s.m s'.m w w'->Q e.out a' w')->c.wpIn (fw z.rd) 0 P Q a w
def mC.or{nt:Nat}{c:Code}{a b:S->Option (Ex×S)}(f:mC P base gl nt c a)(l:mC P base gl nt c b):mC P base gl nt c (orL a b):=by
 refine⟨fun s m e h=>?_,fun s m e h k=>?_⟩
 .unfold orL at h;split at h
  .rename_i r hr;cases h;exact f.lg _ _ _ hr
  .exact l.lg _ _ _ h
 .unfold orL at h;split at h
  .rename_i r hr;cases h;exact f.ok _ _ _ hr k
  .exact l.ok _ _ _ h k
def mC.code{nt:Nat}{c:Code}{call:Q5}(k:Z2 P base gl call)(l:jB P base gl call){lp:LpT}(b:QW P base gl nt c lp):mC P base gl nt c (P1 P nt gl call lp [] c).run :=
 ⟨fun _ _ _ h=>X0 k l b c [] rfl _ _ _ h,fun s n e h u z ρ a w Q f t _ m=>W9 (z:=z) k l b c [] rfl ρ s n e a w Q h u f t m⟩
def A2z{fn:Func}{c:Code}{L:jC}(t:mC P base gl fn.ntmps c L.run){vs:E0}{m m':Mem}{v:Value}
  (hr:BY fn P L vs m=some (v,m')):m.lg.le m'.lg:=by
 unfold BY at hr;obtain⟨_,hr⟩:=A3 hr;obtain⟨e,s,m1,b,_,k,h3,f⟩:=TI hr;have a:PC L (gX fr0 0 vs) m=L.run ⟨gX fr0 0 vs,⟨m.H,m.n,[],m.hi,m.lg⟩⟩:=rfl;rw[a]at b;have l:=(t.lg _ _ _ b).2;rw[A0p f,(zB k).2.2];exact l
def ET{fn:Func}{tmps:c9}{R:Ending->World->Prop}{ρ:Ren}{hi:Nat}:∀ (ids:List Nat) (ds:List Deferred) (m md:Mem) (w:World),sP ids m=some md->DfR ρ ids ds->HR P base ρ m.H w->L1 ρ m.n md.hi ->
  (∀ w',St P base ρ ρ m md w w'->∃ v,(results fn tmps).run P w'=.ok v w'/\R (.returned v) w')->LeavesInM (fw none) 0 P fn tmps R ds .returning w
 | [],ds,m,md,w,h,hd,hr,hf,hR=>by
   cases h;have:ds=[]:=H3.1 hd.1.symm;subst this;exact hR w (.refl hr)
 | b::r,[],m,md,w,h,hd,hr,hf,hR=>by have:=hd.1;simp at this
 | b::r,d::ds,m,md,w,h,hd,hr,hf,hR=>by
   unfold sP at h;split at h
   .rename_i t;split at h
    .rename_i m1 hm;obtain⟨l,k,f⟩:=hd.2 0 b d rfl rfl;obtain⟨⟨⟨u,D⟩,x,s,B⟩,_⟩:=hr.atl k t
     have:=B rfl;subst this;obtain⟨y,F,C⟩:=lM (o:=.deferred none) (D5.1 s).1;have c:St P base ρ ρ m m1 w (w.putObj l.blk (.deferred none)):=St.write hr hm t rfl k u ⟨rfl,rfl,rfl⟩ y C ⟨⟨u,D⟩,_,F,fun h=>by cases h⟩;obtain⟨G,A⟩:=Y6 hm;have E:m1.n=m.n:=by rw[A]
     refine⟨(by intro h;cases h),.inl ⟨l.blk,_,by rw[f];rfl,run_takeDeferred s,?_⟩⟩;exact ET (hi:=hi) r ds m1 md _ h ⟨by have:=hd.1;simpa using this,fun i id d a b=>hd.2 (i+1) id d (by simpa using a) (by simpa using b)⟩ c.hr (by rw[E];exact hf) fun w' e=>hR w' (St.trans hf c e)
    .cases h
   .cases h
def A1U{f:FuncId}{fn:Func}{c:Code}{L:jC}(hf:P.funcs[f]? = some fn)(B:fn.body=some c)(X:(fn.name == "runtime.NumGoroutine")=false)(hL:mC P base gl fn.ntmps c L.run) :
  oR P base gl f ⟨BY fn P L⟩:=by
 refine⟨fun vs m m' v hr=>A2z hL hr,?_⟩;intro ρ m m' w vs l v hr hS k hl;have hr:BY fn P L vs m=some (v,m'):=hr;unfold BY at hr;obtain⟨O,hr⟩:=A3 hr;obtain⟨O,U⟩:=B3 O;have O:=A2 O;have U:=A2 U;left;constructor
 .have hn:fn.name ≠ "runtime.NumGoroutine":=by simpa using X
  simp[callFunc,hf,hn,B]
 .obtain⟨e,s,m1,A,he,K,M,a⟩:=TI hr;have R:PC L (gX fr0 0 vs) m=L.run ⟨gX fr0 0 vs,⟨m.H,m.n,[],m.hi,m.lg⟩⟩:=rfl;rw[R]at A;have D:∀ t,vs.length<=t->t<512->(gX fr0 0 vs).get t=undef:=fun t k1 k2=>by
   rw[kQ _ _ _ _ A0 k2,A9 A0,IF]
  have V:FrR ⟨none,[]⟩ ρ fn.ntmps (gX fr0 0 vs) { tmps:=⟨l⟩++Array.replicate (fn.ntmps-(Array.mk l).size) undef,defers:=[] }:=by
   have hlen:=hl.1;refine⟨by simp;omega,U,⟨[],rfl,?_⟩,fun hn=>⟨fun _=>rfl,fun b B=>?_⟩,fun t ht=>?_⟩
   .unfold dvG;cases N:Nat.ble fn.ntmps 510 with
    | true =>
      have:=A2 N;rw[D 510 A0 C8];exact .nil
    | false=>exact .nil
   .rw[D 511 A0 C8]at B;cases B
   .rw[kQ _ _ _ _ A0 A0];by_cases J:t<vs.length
    .rw[B0 A0];have u:t<l.length:=A0
     have:=hl.2 t vs[t] l[t] (A6 J) (A6 u)
     simpa [B5,Array.getElem?_append,J,u,C6]using this
    .rw[A9 A0,IF];have u:¬ t<l.length:=A0;have:(({ toList:=l }:Array Value)++Array.replicate (fn.ntmps-(Array.mk l).size) undef).getD t undef=undef:=by
      simp[B5,Array.getElem?_append,u,jT];split<;>rfl
     rw[this];exact sH ρ
  have T:m1.hi=m'.hi:=by
   have a:=a;unfold gcM at a;simp only[F5,J4,fQ]at a;cases N:aK m.n 10 v && PY m.n m1.H (qI (m1.W.filter fun b=>Nat.blt b m.n || Nat.ble m1.hi b) [])with
   | true=>rw[N]at a;obtain⟨_,q⟩:=A3 a;cases q;rfl
   | false=>rw[N]at a;obtain⟨_,q⟩:=A3 a;cases q;rfl
  obtain⟨t1,t2,t3⟩:=zB K;have y:At P base gl ρ ⟨m.H,m.n,[],m.hi,m.lg⟩ s.m.hi w:=⟨k.hr,k.bs,fun b q1 q2=>k.fr b q1 (by rw[<- T,t1];exact q2),k.gr,k.nh,fun b B=>(by cases B),k.gf⟩;have Q:Sat s.m.lg:=by rw[<- t3,<- A0p a];exact hS
  refine rO.1 (callsIn_of_wp_marks (F:=fw none) (n:=0) hf B trivial ?_ rfl);refine hL.ok _ s e A Q ⟨none,[]⟩ ρ _ w _ y V (fun _ _ h=>h) fun az Z w1 f1 C=>?_
  obtain⟨ds,d1,d2⟩:=f1.df;have d1:Z.defers=ds:=by rw[d1];simp
  have I:LeavesInM (fw none) 0 P fn Z.tmps (A1p P base ρ m m' w v) Z.defers .returning w1:=by
   rw[d1];have G:=y.step C;refine ET (base:=base) (ρ:=az) (hi:=0) _ _ _ _ _ K d2 C.hr (by rw[t1];exact G.fr) fun w' E=>?_
   have Y:=St.trans (by have:=y.fr;rw[t1];exact this) C E;obtain⟨v',g1,g2⟩:=A2A (s:=⟨s.fr,m1⟩) E.hr f1 M;obtain⟨_,ρ2,g3,g4⟩:=A62 a Y k g1;exact⟨v',g2,v',ρ2,rfl,g3,g4⟩
  rcases he with rfl|rfl
  .exact I
  .exact I
def TU{f:FuncId}{fn:Func}{c:Code}{call:Q5}(l:P.funcs[f]? = some fn)(m:fn.body=some c)(b:(fn.name == "runtime.NumGoroutine")=false)(k:Z2 P base gl call)(e:jB P base gl call){lp:LpT}(a:QW P base gl fn.ntmps c lp) :
  oR P base gl f ⟨BY fn P (P1 P fn.ntmps gl call lp [] c)⟩:=A1U l m b (mC.code k e a)
def KZ{ρ:Ren}{nt:Nat}(f:nt<=512):∀ (ps:List Tmp) (args b:List Value) (fr c:Fr) (tmps:Array Value),wN ps args fr=some c->LR ρ args b->(∀ t ∈ ps,t<nt)->tmps.size=nt->(∀ t,t<nt->VR ρ (fr.get t) (tmps.getD t undef)) ->
  ps.length=b.length/\((ps.zip b).foldl (fun tmps (t,a)=>tmps.setIfInBounds t a) tmps).size=nt/\(∀ t,t<nt->VR ρ (c.get t) (((ps.zip b).foldl (fun tmps (t,a)=>tmps.setIfInBounds t a) tmps).getD t undef))/\∀ t,nt<=t->t<512->c.get t=fr.get t
 | [],[],b,fr,c,tmps,h,hl,hp,hs,hg=>by
   cases h;rw[hl.nil_inv];exact⟨rfl,hs,hg,fun _ _ _=>rfl⟩
 | [],_::_,_,_,_,_,h,_,_,_,_=>by cases h
 | _::_,[],_,_,_,_,h,_,_,_,_=>by cases h
 | t::ps,v::vs,b,fr,c,tmps,h,hl,hp,hs,hg=>by
   obtain⟨v',B,rfl,s,w⟩:=hl.tail;have k:t<nt:=hp t B6;have h:wN ps vs (fr.set t v)=some c:=by
    have e:wN (t::ps) (v::vs) fr=wN ps vs (fr.set t v):=GX t v fr (fun fr=>wN ps vs fr);rw[<- e];exact h
   obtain⟨y,n,A,m⟩:=KZ f ps vs B (fr.set t v) c (tmps.setIfInBounds t v') h w (fun u hu=>hp u (D1 _ hu)) (by simp[hs]) (fun u hu=>by
    rw[N3 _ _ _ _ (E1 k f) (E1 hu f)];simp only[B5,G5];by_cases e:u=t
    .subst e;rw[B0 rfl,B0 rfl,B0 (by rw[hs];exact hu)];exact s
    .rw[A9 e,A9 (fun h=>e h.symm)]
     have:=hg u hu
     simpa [B5]using this)
   refine⟨by simp[y],n,A,fun u h3 l=>?_⟩;rw[m u h3 l,N3 _ _ _ _ (E1 k f) l,A9 (fun e=>by subst e;exact absurd k (Nat.not_lt.2 h3))]
def wK{b:Nat}{v:Value}{m':Mem}(h:sY b r=some (v,m')):∃ e s f q vs,r=some (e,s)/\Hp.get s.m.H b=some (.lp f q vs 1)/\eA s.m b (.lp f q vs (exN e))=some m'/\v=.bool (HZ e):=by
 unfold sY at h;split at h
 .rename_i e fr m;split at h
  .rename_i f q vs a;rw[F5]at h;split at h
   .rename_i m1 hm;cases h;exact⟨e,⟨fr,m⟩,f,q,vs,rfl,a,hm,rfl⟩
   .cases h
  .cases h
 .cases h
def wJ{b:Nat}{c:jC}{v:Value}{m':Mem}(h:sX b c r=some (v,m')):∃ s f q vs m1,r=some (.normal,s)/\Hp.get s.m.H b=some (.lp f q vs 0)/\eA s.m b (.lp f q vs 1)=some m1/\sY b (c.run ⟨s.fr,m1⟩)=some (v,m'):=by
 unfold sX at h;split at h
 .rename_i fr m;split at h
  .rename_i f q vs a;split at h
   .rename_i m1 hm;exact⟨⟨fr,m⟩,f,q,vs,m1,rfl,a,hm,h⟩
   .cases h
  .cases h
 .cases h
def EC{C:Cx}{call:Q5}{vs:E0}{m m':Mem}{v:Value}(h:(HD C call).run vs m=some (v,m')):∃ b args f q a fn body x ps as bd fr,vs=yv b::args/\Hp.get m.H b=some (.lp f q a 0)/\C.P.funcs[f]? = some fn/\fn.body=some body/\H8 q body=some (.rangeFunc x ps as bd) /\
  fn.ntmps<=510/\(∀ t ∈ ps.toList,t<fn.ntmps)/\wN ps.toList args (gX fr0 0 a)=some fr /\
  sX b (P1 C.P fn.ntmps C.gl call (C.lp f) (q++[true]) bd) ((P1 C.P fn.ntmps C.gl call (C.lp f) (q++[false]) as).run ⟨fr.set 511 (yv b),m⟩)=some (v,m'):=by
 unfold HD at h;simp only at h;split at h
 .cases h
 .rename_i u args;split at h
  .cases h
  .rename_i b w
   have:=DK w;subst this;split at h
   .rename_i f q a A;split at h
    .cases h
    .rename_i fn B;split at h
     .cases h
     .rename_i body n;split at h
      .rename_i x ps as bd s;obtain⟨c,h⟩:=A3 h;obtain⟨c,y⟩:=B3 c;split at h
       .rename_i fr l;refine⟨b,args,f,q,a,fn,body,x,ps,as,bd,fr,rfl,A,by simpa using B,n,s,A2 c,fun t D=>A2 (E8.1 y t D),l,?_⟩;have e:∀ (k:Fr->Res),xH (sel 7) (sel 7) (sel 7) (yv b) fr k=k (fr.set 511 (yv b)):=fun k=>GX 511 (yv b) fr k
        rw[e]at h;exact h
       .cases h
      .cases h
   .cases h
def ZH{C:Cx}{call:Q5}(O:Z2 C.P base C.gl call)(Q:jB C.P base C.gl call)(s:∀ f fn body,C.P.funcs[f]? = some fn->fn.body=some body->QW C.P base C.gl fn.ntmps body (C.lp f)):A6J C.P base C.gl (HD C call):=by
 refine⟨fun vs m m' v h=>?_,fun ρ m m' w b args c v l h hS A hl J=>?_⟩
 .obtain⟨b,args,f,q,R,fn,body,x,ps,as,bd,fr,rfl,_,B,I,h3,_,_,_,h⟩:=EC h;obtain⟨s1,f2,q2,ay,m2,g1,_,g3,h⟩:=wJ h;obtain⟨e,s2,f3,q3,aw,Z,_,k3,_⟩:=wK h;have a1:=(X0 O Q (s f fn body B I) as (q++[false]) (J7 h3 rfl) _ _ _ g1).2;have a2:=(X0 O Q (s f fn body B I) bd (q++[true]) (J7 h3 rfl) _ _ _ Z).2;rw[(oZ k3).2];have a2:m2.lg.le s2.m.lg:=a2;rw[(oZ g3).2]at a2;exact a1.trans a2
 .obtain⟨b',ax,f,q,R,fn,body,x,ps,as,bd,fr,e0,hg,B,I,h3,h4,h5,h6,h⟩:=EC h;cases e0;obtain⟨s1,f2,q2,ay,m2,g1,g2,g3,h⟩:=wJ h;obtain⟨e,s2,f3,q3,aw,Z,k2,k3,rfl⟩:=wK h;have c1:=X0 O Q (s f fn body B I) as (q++[false]) (J7 h3 rfl) _ _ _ g1;have c2:=X0 O Q (s f fn body B I) bd (q++[true]) (J7 h3 rfl) _ _ _ Z;obtain⟨j1,j2⟩:=oZ g3;obtain⟨j3,j4⟩:=oZ k3;have W:Sat s2.m.lg:=by rw[<- j4];exact hS
  have av:Sat s1.m.lg:=by rw[<- j2];exact V2.le W c2.2
  have ao:m2.hi<=s2.m.hi:=c2.1;obtain⟨⟨⟨b1,b2⟩,r,b3,b4⟩,_⟩:=A.hr.atl J hg;obtain⟨an,az,x',e1,e2,e3,e4⟩:=b4.code;rw[B]at e1;cases e1;rw[I]at e2;cases e2;rw[h3]at e3;cases e3;have hlen:=b4.fr.1;have au:∀ t,R.length<=t->t<512->(gX fr0 0 R).get t=undef:=fun t q1 q2=>by
   rw[kQ _ _ _ _ A0 q2,A9 A0,IF]
  obtain⟨p1,p2,p3,p4⟩:=KZ (ρ:=ρ) (nt:=fn.ntmps) A0 r.params.toList args c (gX fr0 0 R) fr r.tmps h6 hl h5 (by simpa [e4]using hlen.symm) (fun t ht=>by
   rw[kQ _ _ _ _ A0 A0,B0 A0];have X:t<R.length:=A0;have G:t<r.tmps.toList.length:=A0
   have:=b4.fr.2 t R[t] _ (A6 X) (A6 G);have Y:t<r.tmps.size:=by simpa using G
   simpa [B5,X,Y,C6]using this)
  have K:(r.params.zip ⟨c⟩).foldl (fun tmps (t,a)=>tmps.setIfInBounds t a) r.tmps=(r.params.toList.zip c).foldl (fun tmps (t,a)=>tmps.setIfInBounds t a) r.tmps:=by
   rw[<- Array.foldl_toList];simp
  refine⟨r.fn,_,r.assign,r.body,run_yield b3 (by show c.length=_;rw[<- p1];simp),?_⟩;rw[K];refine roundIn_of_wpIn (F:=Fence.wide) (n:=0) trivial ?_;have D:∀ t,t<511->(fr.set 511 (yv b)).get t=fr.get t:=fun t ht=>by rw[N3 _ _ _ _ C8 A0,A9 A0]
  have ar:FrR ⟨some l.blk,[]⟩ ρ fn.ntmps (fr.set 511 (yv b)) { tmps:=(r.params.toList.zip c).foldl (fun tmps (t,a)=>tmps.setIfInBounds t a) r.tmps,defers:=[] }:=by
   refine⟨p2,A0,⟨[],rfl,?_⟩,fun _=>?_,fun t ht=>by rw[D t A0];exact p3 t ht⟩
   .unfold dvG;rw[D 510 C8,p4 510 h4 C8,au 510 A0 C8];cases Nat.ble fn.ntmps 510<;>exact .nil
   .rw[N3 _ _ _ _ C8 C8,B0 rfl];refine⟨fun hu=>(by cases hu),fun b0 U=>?_⟩;have:b0=b:=by
     have:fS (yv b)=some b:=rfl;rw[this]at U;exact(A8 U).symm
    subst this;exact⟨l,J,rfl⟩
  have M:L1 ρ m.n m'.hi:=A.fr;refine W9 (z:=⟨some l.blk,[]⟩) O Q (s f fn body B I) r.assign (q++[false]) (J7 h3 rfl) ρ ⟨fr.set 511 (yv b),m⟩ s1 .normal _ w _ g1 av (A.less (by rw[j3];omega)) ar fun N a1 w1 f1 u=>?_
  have L:=u.ext _ _ J;obtain⟨⟨⟨_,_⟩,r2,d3,d4⟩,_⟩:=u.hr.atl L g2;obtain⟨o1,o2,o3⟩:=lM (o:=.loop { r2 with state:=.busy }) (D5.1 d3).1;have V:St C.P base N N s1.m m2 w1 (w1.putObj l.blk (.loop { r2 with state:=.busy })):=St.write u.hr g3 g2 rfl L b1 ⟨rfl,rfl,rfl⟩ o1 o3 ⟨⟨b1,b2⟩,_,o2,d4.code,d4.fr,rfl⟩;refine⟨_,run_beginRound d3 d4.st.1,?_⟩;have E:=(A.step u);have H:=E.step V;refine W9 (z:=⟨some l.blk,[]⟩) O Q (s f fn body B I) r.body (q++[true]) (J7 h3 rfl) N ⟨s1.fr,m2⟩ s2 e _ _ _ Z W (H.less (by rw[j3];exact A7 _)) f1 fun ρ2 a2 w3 f3 y=>?_
  have T:=y.ext _ _ L;obtain⟨⟨⟨_,_⟩,r3,d5,d6⟩,_⟩:=y.hr.atl T k2;have fin:∀ (jump:Option Code),StR (exN e) (if jump.isNone then .ready else .done) jump->jump.isNone=HZ e->∃ v w',(Instr.endRound l.blk jump).run C.P w3=.ok v w'/\A1p C.P base ρ m m' w (.bool (HZ e)) (.returned v) w':=fun jump hj he=>by
   refine⟨_,_,run_endRound jump d5,?_⟩;obtain⟨o4,o5,o6⟩:=lM (o:=.loop { r3 with state:=if jump.isNone then .ready else .done,pending:=jump }) (D5.1 d5).1;have aq:St C.P base ρ2 ρ2 s2.m m' w3 (w3.putObj l.blk (.loop { r3 with state:=if jump.isNone then .ready else .done,pending:=jump })):=St.write y.hr k3 k2 rfl T b1 ⟨rfl,rfl,rfl⟩ o4 o6 ⟨⟨b1,b2⟩,_,o5,d6.code,d6.fr,hj⟩;exact⟨_,ρ2,rfl,by rw[he];exact .pure rfl,St.trans M u (St.trans E.fr V (St.trans H.fr y aq))⟩
  cases e with
  | normal=>exact fin none ⟨rfl,rfl⟩ rfl
  | ret=>exact fin (some .ret) ⟨rfl,rfl⟩ rfl
  | exit k=>exact fin (some (.exit k)) ⟨rfl,rfl⟩ rfl
structure A2_ (C:Cx) (base:Nat):Prop where
 names:JJ C.P
 ext:∀ f k fn,C.P.funcs[f]? = some fn->fn.body=none->MZ C.ext f=some k->oR C.P base C.gl f ⟨rG k⟩
 con:∀ f c,C.con f=some c->oR C.P base C.gl f c
 lp:∀ f fn body,C.P.funcs[f]? = some fn->fn.body=some body->QW C.P base C.gl fn.ntmps body (C.lp f)
 draws:∀ call,Z2 C.P base C.gl call->jB C.P base C.gl call
def pF(f:FuncId):oR P base gl f ⟨fun _ _=>none⟩:=⟨fun vs m m' v hr=>(by cases hr),fun ρ m m' w vs a v hr=>(by cases hr)⟩
def A2J:A6J P base gl ⟨fun _ _=>none⟩:=⟨fun vs m m' v hr=>(by cases hr),fun ρ m m' w b args a v l hr=>(by cases hr)⟩
def BS{C:Cx}(h:A2_ C base):∀ (d:Nat),Z2 C.P base C.gl (wX C d)
 | 0=>⟨fun f=>pF f,A2J⟩
 | d+1=>by
   have e:=BS h d;refine⟨fun f=>?_,ZH e (h.draws _ e) h.lp⟩;show oR C.P base C.gl f (FS C (wX C d) f);unfold FS;split
   .exact pF f
   .rename_i fn a;have a:C.P.funcs[f]? = some fn:=by simpa using a
    split
    .rename_i c b;exact h.con f c b
    .split
     .rename_i l;split
      .rename_i k m;exact h.ext f k fn a l m
      .exact pF f
     .rename_i c l;exact TU (gl:=C.gl) a l (h.names f fn a) e (h.draws _ e) (h.lp f fn c a l)
end
end
section
open Go
variable [Ora]
def JI(P:Program)(nt gl:Nat)(call:Q5)(all:List Oper)(b:List Nat)(rs:List Rec)(c:Bool)(o:Oper)(fr e:Fr)(m m2:Mem)(v:Value):Prop :=
 BG nt o.dst=true/\PS nt gl o.op=true/\e=xJ o.dst v fr /\
 ((c=false/\∃ lg,dF nt fr m.lg all o=some (false,lg)/\v=undef/\m2=m.wLg lg) ∨
   (c=false/\∃ lg a,dF nt fr m.lg all o=some (true,lg)/\nK fr (m.wLg lg) o b rs (d8 P call o)=some (v,a)/\m2=m.wLg a) ∨
   (c=true/\∃ lg,dF nt fr m.lg all o=some (true,lg)/\(d8 P call o).run fr (m.wLg lg)=some (v,m2)/\m.hi<=m2.hi) ∨
   (c=false/\cJ o.op=false/\∃ lg,dF nt fr m.lg all o=some (true,lg)/\∃ mv m',DN (m.wLg lg) (A7A fr o.op) (EM b rs)=some mv/\(d8 P call o).run fr mv=some (v,m')/\m'.W=[]/\m.hi<=m'.hi/\nR (m.wLg lg) m'=some m2))
def VZ{α:Type}{c:Bool}{x:Option α}{y:α}(h:(bif c then none else x)=some y):c=false/\x=some y:=by cases c<;>first|exact⟨rfl,h⟩|cases h
def fK(nt:Nat)(all:List Oper)(op:OpC)(b:List Nat)(rs:List Rec)(fr:Fr)(o:Oper)(m m2:Mem)(v:Value)(r:Option (Nat×AB)):Prop :=
 (∃ lg,dF nt fr m.lg all o=some (false,lg)/\v=undef/\m2=m.wLg lg/\r=none)∨(∃ lg a,dF nt fr m.lg all o=some (true,lg)/\nK fr (m.wLg lg) o b rs op=some (v,a)/\m2=m.wLg a/\r=MT m.H fr o.op)
def QsN(e:Bool)(i nt:Nat)(all:List Oper)(op:OpC)(b:List Nat)(rs:List Rec)(fr:Fr)(o:Oper)(m m2:Mem)(v:Value)(c a:Qs):Prop :=
 (e=true/\a=c/\A0f b m2.H c=true)∨(e=false/\a=c)∨(e=false/\∃ r,a=(i,r)::c/\fK nt all op b rs fr o m m2 v r)
def A1n(P:Program)(nt gl:Nat)(call:Q5)(all:List Oper)(r:List Oper)(i:Nat)(bs:List I7)(rs:List Rec)(b:Qs)(s a:S):Prop :=
  ∃ (F:Nat->Fr) (M:Nat->Mem) (V:Nat->Value) (R:Nat->List Rec) (X:Nat->Qs) (B:Nat->Bool),F i=s.fr/\M i=s.m/\R i=rs/\X i=b/\F (i+r.length)=a.fr/\M (i+r.length)=a.m /\
   ∀ j o,r[j]? = some o->JI P nt gl call all (bs.getD j []) (R (i+j)) (B (i+j)) o (F (i+j)) (F (i+j+1)) (M (i+j)) (M (i+j+1)) (V (i+j))/\(B (i+j)=true->KK o.op (i+j) (bs.getD j []) (bs.drop (j+1)) (r.drop (j+1)) (X (i+j))=true) /\
    ((R (i+j+1)=R (i+j)/\∃ lg,M (i+j+1)=(M (i+j)).wLg lg)∨(B (i+j)=true/\R (i+j+1)=[])∨R (i+j+1)=⟨i+j,(M (i+j)).n,(M (i+j+1)).n⟩::R (i+j)) /\
    QsN (B (i+j)) (i+j) nt all (d8 P call o) (bs.getD j []) (R (i+j)) (F (i+j)) o (M (i+j)) (M (i+j+1)) (V (i+j)) (X (i+j)) (X (i+j+1))
def A35{P:Program}{nt gl:Nat}{call:Q5}{all:List Oper}:∀ (r:List Oper) (i:Nat) (bs:List I7) (rs:List Rec) (e:Qs) (s k:S),bD P nt gl call all r i bs rs e s=some k->A1n P nt gl call all r i bs rs e s k
 | [],i,bs,rs,e,s,k,h=>by
   have h:some s=some k:=by cases bs<;>exact h
   cases h;exact⟨fun _=>s.fr,fun _=>s.m,fun _=>undef,fun _=>rs,fun _=>e,fun _=>false,rfl,rfl,rfl,rfl,rfl,rfl,fun j o A=>by simp at A⟩
 | o::r,i,[],rs,e,s,k,h=>by obtain⟨fr,m⟩:=s;cases h
 | o::r,i,b::bs,rs,e,⟨fr,⟨H0,n0,W0,hi0,lg0⟩⟩,k,h=>by
   generalize t:(⟨H0,n0,W0,hi0,lg0⟩:Mem)=m at h;have glue:∀ (w:Bool),(w=true->KK o.op i b bs r e=true)->∀ (v:Value) (m2:Mem) (a:List Rec) (f:Qs),JI P nt gl call all b rs w o fr (xJ o.dst v fr) m m2 v->((a=rs/\∃ lg,m2=m.wLg lg)∨(w=true/\a=[])∨a=⟨i,m.n,m2.n⟩::rs)->QsN w i nt all (d8 P call o) b rs fr o m m2 v e f->bD P nt gl call all r (i+1) bs a f ⟨xJ o.dst v fr,m2⟩=some k->A1n P nt gl call all (o::r) i (b::bs) rs e ⟨fr,m⟩ k:=fun w I v m2 a f E D L y=>by
    obtain⟨F,M,V,R,X,B,f1,f2,f3,H,f4,f5,f6⟩:=A35 r (i+1) bs a f _ k y;refine⟨fun j=>if j<=i then fr else F j,fun j=>if j<=i then m else M j,fun j=>if j<=i then v else V j,fun j=>if j<=i then rs else R j,fun j=>if j<=i then e else X j,fun j=>if j<=i then w else B j,by simp,by simp,by simp,by simp,?_,?_,?_⟩
    .simp only[B2];rw[A9 A0,show i+(r.length+1)=i+1+r.length by omega];exact f4
    .simp only[B2];rw[A9 A0,show i+(r.length+1)=i+1+r.length by omega];exact f5
    .intro j o' A;cases j with
     | zero =>
       simp at A;subst A;simp only[Nat.add_zero,A7,if_true,Nat.not_succ_le_self,if_false,f1,f2,f3,H];exact⟨E,I,D,L⟩
     | succ j =>
       have G:r[j]? = some o':=by simpa using A
       have:=f6 j o' G;simp only[show ¬ i+(j+1)<=i by omega,show ¬ i+(j+1)+1<=i by omega,if_false];rw[show i+(j+1)=i+1+j by omega]
       simpa using this
   subst t;unfold bD at h;split at h
   .rename_i lg hw J;obtain⟨d1,d2⟩:=B3 J;cases l:KK o.op i b bs r e with
    | true =>
      rw[l]at h;simp only[F1]at h;split at h
      .rename_i v m2 hr;obtain⟨c,h⟩:=A3 h;obtain⟨c,K⟩:=B3 c;rw[eL]at h;exact glue true (fun _=>l) v m2 _ _ ⟨d1,d2,rfl,.inr (.inr (.inl ⟨rfl,lg,hw,hr,A2 c⟩))⟩ (.inr (.inl ⟨rfl,rfl⟩)) (.inl ⟨rfl,rfl,K⟩) h
      .cases h
    | false =>
      rw[l]at h;simp only[E7]at h;split at h
      .rename_i v u C;obtain⟨O,C⟩:=A3 C;rw[eL]at h;exact glue false (fun h=>by cases h) v _ _ _ ⟨d1,d2,rfl,.inr (.inl ⟨rfl,lg,u,hw,C,rfl⟩)⟩ (.inl ⟨rfl,u,rfl⟩) (.inr (.inr ⟨rfl,_,rfl,.inr ⟨lg,u,hw,C,rfl,rfl⟩⟩)) h
      .obtain⟨N,h⟩:=VZ h;unfold TL at h;simp only at h;split at h
       .rename_i mv Q;split at h
        .rename_i v m' hr;split at h
         .rename_i T c;split at h
          .rename_i m2 hm;rw[eL]at h;exact glue false (fun h=>by cases h) v m2 _ _ ⟨d1,d2,rfl,.inr (.inr (.inr ⟨rfl,N,lg,hw,mv,m',Q,hr,T,A2 c,hm⟩))⟩ (.inr (.inr rfl)) (.inr (.inl ⟨rfl,rfl⟩)) h
          .cases h
         .cases h
        .cases h
       .cases h
   .rename_i lg hw J;obtain⟨d1,d2⟩:=B3 J;rw[eL]at h;exact glue false (fun h=>by cases h) undef _ _ _ ⟨d1,d2,rfl,.inl ⟨rfl,lg,hw,rfl,rfl⟩⟩ (.inl ⟨rfl,lg,rfl⟩) (.inr (.inr ⟨rfl,_,rfl,.inl ⟨lg,hw,rfl,rfl,rfl⟩⟩)) h
   .cases h
def NY{l:I7}{b k:Nat}(h:k ∈ A1l l b):k=b∨k ∈ l:=by
 unfold A1l at h;cases e:bY l b with
 | true=>rw[e]at h;exact .inr h
 | false=>rw[e,E7,F5]at h;exact C4.1 h
def EV:∀ {a b:I7} {k:Nat},k ∈ SU a b->k ∈ a∨k ∈ b
 | [],b,k,h=>.inr h
 | x::a,b,k,h=>by
   rcases NY (show k ∈ A1l (SU a b) x from h)with rfl|h
   .exact .inl B6
   .rcases EV h with h|h
    .exact .inl (D1 _ h)
    .exact .inr h
def vV{acc:List I7}:∀ {es:List Edge} {k:Nat},k ∈ uJ acc es->∃ e ∈ es,Region.binds .any e=true/\(k=e.on∨k ∈ acc.getD e.on [])
 | [],k,h=>by cases h
 | e::r,k,h=>by
   unfold uJ at h;cases a:Region.binds .any e with
   | true =>
     rw[a]at h;rw[F1]at h;rcases(NY h).imp_right EV with h|h|h
     .exact⟨e,B6,a,.inl h⟩
     .exact⟨e,B6,a,.inr h⟩
     .obtain⟨e',c,b⟩:=vV h;exact⟨e',D1 _ c,b⟩
   | false =>
     rw[a]at h;obtain⟨e',c,b⟩:=vV h;exact⟨e',D1 _ c,b⟩
def vU:∀ (r:List Oper) (acc:List I7),∃ a,u6 r acc=acc++a/\a.length=r.length/\∀ j o,r[j]? = some o->∃ pre,pre=(acc++a).take (acc.length+j)/\a[j]? = some (uJ pre o.after.toList)
 | [],acc=>⟨[],by simp[u6],rfl,fun j o h=>by simp at h⟩
 | o::r,acc=>by
   obtain⟨a,e,c,h3⟩:=vU r (acc++[uJ acc o.after.toList]);refine⟨uJ acc o.after.toList::a,by rw[u6,J4,e];simp,by simp[c],fun j o' b=>?_⟩;cases j with
   | zero =>
     simp at b;subst b;exact⟨_,rfl,by simp⟩
   | succ j =>
     obtain⟨pre,g1,g2⟩:=h3 j o' (by simpa using b);refine⟨pre,?_,by simpa using g2⟩;rw[g1];simp[dX,fM 1 j]
def A29{ops:List Oper}{k:Nat}(n:ops[i]? = some o)(he:∀ e ∈ o.after.toList,Region.binds .any e=true->e.on<i)(a:k ∈ (u6 ops []).getD i []) :
  ∃ e ∈ o.after.toList,Region.binds .any e=true/\(k=e.on∨k ∈ (u6 ops []).getD e.on []):=by
 obtain⟨s,l,t,h3⟩:=vU ops [];simp only[R1]at l h3;obtain⟨pre,g1,g2⟩:=h3 i o n;rw[l]at a ⊢;rw[C6,g2]at a;obtain⟨e,f,c,m⟩:=vV (show k ∈ uJ pre o.after.toList from a);refine⟨e,f,c,m.imp id fun h=>?_⟩;have b:=he e f c;rw[g1]at h;simp only[B4,F9,C6]at h ⊢;rw[G6 b]at h;exact h
def oS(ops:List Oper)(D:Nat->Prop):Prop:=∀ i o,ops[i]? = some o->D i->∀ e ∈ o.after.toList,Region.binds .any e=true->D e.on
def CB{ops:List Oper}{D:Nat->Prop}(m:oS ops D)(l:∀ i o,ops[i]? = some o->∀ e ∈ o.after.toList,Region.binds .any e=true->e.on<i) :
  ∀ (n i k:Nat) (o:Oper),i<n->ops[i]? = some o->(∀ e ∈ o.after.toList,Region.binds .any e=true->D e.on)->k ∈ (u6 ops []).getD i []->D k
 | 0,i,k,o,h,_,_,_=>by omega
 | n+1,i,k,o,h,ho,he,hk=>by
   obtain⟨e,c,f,a⟩:=A29 ho (l i o ho) hk;rcases a with rfl|a
   .exact he e c f
   .have b:=l i o ho e c f;have hlen:e.on<ops.length:=Nat.lt_trans b (B1.1 ho).1;refine CB m l n e.on k ops[e.on] A0 (A6 hlen) (fun e' t s=>m e.on _ (A6 hlen) (he e c f) e' t s) a
def FZ{H0:Hp AB}:∀ (l:List Nat) (H:Hp AB),(∀ b ∈ l,b<=J0)->∀ id,id<=J0->Hp.get (GA H0 H l) id=if id ∈ l then Hp.get H0 id else Hp.get H id
 | [],H,_,id,_=>by simp[GA]
 | b::r,H,hl,id,hid=>by
   have f:=hl b B6;rw[GA,gB,FZ r _ (fun x e=>hl x (D1 _ e)) id hid,F6 _ _ _ _ f hid];by_cases a:id ∈ r
   .rw[B0 a,B0 (D1 _ a)]
   .rw[A9 a];by_cases c:id=b
    .subst c;rw[B0 rfl,B0 B6]
    .rw[A9 c,A9 (by simp[a,c])]
def FA:∀ (l:List Nat) (H:Hp AB),(∀ b ∈ l,b<=J0)->∀ id,id<=J0->Hp.get (FB H l) id=if id ∈ l then none else Hp.get H id
 | [],H,_,id,_=>by simp[FB]
 | b::r,H,hl,id,hid=>by
   have f:=hl b B6;rw[FB,gB,FA r _ (fun x e=>hl x (D1 _ e)) id hid,F6 _ _ _ _ f hid];by_cases a:id ∈ r
   .rw[B0 a,B0 (D1 _ a)]
   .rw[A9 a];by_cases c:id=b
    .subst c;rw[B0 rfl,B0 B6]
    .rw[A9 c,A9 (by simp[a,c])]
def nS:∀ (n a b:Nat),b ∈ PD a n↔a<=b/\b<a+n
 | 0,a,b=>by simp[PD]
 | n+1,a,b=>by
   simp only[PD,C4,nS n (a+1) b];omega
def LU{m m' m2:Mem}(h:nR m m'=some m2)(t:m.n<=m.hi)(l:m.hi<=m'.hi):m.n<=m2.n/\m.hi<=m2.hi/\m2.n<=m2.hi/\m2.W=m.W/\(m2.n=m'.hi∨(m2.n=m.n/\m'.hi<=m.n))/\m2.hi=m'.hi/\m2.lg=m'.lg /\
  ∀ id,id<=J0->Hp.get m2.H id=if m.n<=id/\id<m2.n then Hp.get m'.H id else Hp.get m.H id:=by
 unfold nR at h;cases a:Nat.ble m'.hi m.n with
 | true =>
   have a:=A2 a;have k:Nat.ble m'.hi m.n=true:=C5 a;rw[k]at h;cases h;refine⟨A7 _,A7 _,t,rfl,.inr ⟨rfl,a⟩,by show m.hi=m'.hi;omega,rfl,fun id hid=>?_⟩;rw[A9 (by show ¬ (m.n<=id/\id<m.n);omega)]
 | false =>
   have f:m.n<m'.hi:=by
    rcases G9 m.n m'.hi with c|c
    .exact c
    .rw[show Nat.ble m'.hi m.n=true from C5 c]at a;cases a
   rw[a]at h;simp only[E7]at h;obtain⟨s,h⟩:=A3 h;have s:=A2 s;simp only[F5,fQ]at h;cases h;refine⟨mF f,l,A7 _,rfl,.inl rfl,rfl,rfl,fun id hid=>?_⟩;show Hp.get (GA m'.H m.H (PD m.n (m'.hi-m.n))) id=_;rw[FZ _ _ (fun b e=>by have:=(nS _ _ _).1 e;omega) id hid];by_cases c:m.n<=id/\id<m'.hi
   .rw[B0 ((nS _ _ _).2 A0),B0 c]
   .rw[A9 (fun h=>c (by have:=(nS _ _ _).1 h;omega)),A9 c]
def cS(D:Nat->Bool)(dst:Nat->Option Tmp)(V:Nat->Value)(f0:Tmp->Value)(t:Tmp):Nat->Value
 | 0=>f0 t
 | n+1=>if D n=true/\dst n=some t then V n else cS D dst V f0 t n
def gM{D D':Nat->Bool}{dst:Nat->Option Tmp}{V:Nat->Value}{f0:Tmp->Value}{t:Tmp}:∀ (n:Nat),(∀ k,k<n->dst k=some t->D k=D' k)->cS D dst V f0 t n=cS D' dst V f0 t n
 | 0,_=>rfl
 | n+1,h=>by
   unfold cS;have b:=gM (V:=V) (f0:=f0) n fun k c=>h k (Nat.lt_succ_of_lt c)
   by_cases a:dst n=some t
   .rw[h n (K1 n) a,b]
   .rw[A9 (fun hh=>a hh.2),A9 (fun hh=>a hh.2),b]
def tR{D D':Nat->Bool}{dst:Nat->Option Tmp}{V:Nat->Value}{f0:Tmp->Value}{t:Tmp}{i:Nat}(c:∀ k,k≠i->D' k=D k)(hi:D' i=true):∀ (n:Nat),i<n->dst i=some t->(∀ k,i<k->k<n->dst k=some t->D k=false)->cS D' dst V f0 t n=V i
 | 0,h,_,_=>by omega
 | n+1,h,hd,hl=>by
   unfold cS;by_cases e:n=i
   .subst e;rw[B0 ⟨hi,hd⟩]
   .have a:i<n:=A0;rw[A9 (fun hh=>by
     have l:=hl n a (K1 n) hh.2;rw[c n e,l]at hh;exact absurd hh.1 (by simp))]
    exact tR c hi n a hd fun k f b=>hl k f (Nat.lt_succ_of_lt b)
def rD{D D':Nat->Bool}{dst:Nat->Option Tmp}{V:Nat->Value}{f0:Tmp->Value}{t:Tmp}(c:∀ k,k≠i->D' k=D k)(a:dst i≠some t)(n:Nat):cS D' dst V f0 t n=cS D dst V f0 t n :=
 gM n fun k _ b=>c k fun e=>a (e▸b)
structure HRf (P:Program) (base:Nat) (ρ:Ren) (G:Nat->Option AB) (w:World):Prop where
 dom:∀ b l,ρ b=some l->b<=J0
 at_:∀ id,id<=J0->∀ ab,G id=some ab->∃ l,ρ id=some l/\BR P ρ ab l w/\(ab.rw=true->l.on=true->base<=l.blk/\∀ id2,id2<=J0->∀ ab2 l2,G id2=some ab2->ρ id2=some l2->Tc ab2 l2 l.blk->id2=id)
def HRf.hr{P:Program}{base:Nat}{ρ:Ren}{G:Nat->Option AB}{H:Hp AB}{w:World}(h:HRf P base ρ G w)(s:∀ id,id<=J0->∀ ab,Hp.get H id=some ab->G id=some ab):HR P base ρ H w :=
 ⟨h.dom,fun id hid ab m=>let ⟨l,a,b,c⟩:=h.at_ id hid ab (s id hid ab m);⟨l,a,b,fun hr n=>⟨(c hr n).1,fun f e k l2 g=>(c hr n).2 f e k l2 (s f e k g)⟩⟩⟩
def HR.f{P:Program}{base:Nat}{ρ:Ren}{H:Hp AB}{w:World}(h:HR P base ρ H w){G:Nat->Option AB}(t:∀ id,id<=J0->∀ ab,G id=some ab->Hp.get H id=some ab):HRf P base ρ G w :=
 ⟨h.dom,fun id hid ab n=>let ⟨l,a,b,c⟩:=h.at_ id hid ab (t id hid ab n);⟨l,a,b,fun hr s=>⟨(c hr s).1,fun k e m l2 g=>(c hr s).2 k e m l2 (t k e m g)⟩⟩⟩
def Ff(ρ:Ren)(G:Nat->Option AB)(k:Nat):Prop:=∃ id ab l,id<=J0/\G id=some ab/\ρ id=some l/\Tf ab l k
end
end Go.Sx
