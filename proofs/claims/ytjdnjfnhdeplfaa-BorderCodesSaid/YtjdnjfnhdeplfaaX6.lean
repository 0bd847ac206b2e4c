import Derived.Test.YtjdnjfnhdeplfaaX5
set_option linter.all false
set_option maxRecDepth 100000
set_option maxHeartbeats 4000000
namespace Go.Sx
open Go
variable {ds:List Deferred}{d:Option Tmp}{o p:Oper}{lg':Lg}{i j:Nat}{q:List Bool}{r:Option (Ex×S)}{g:Value}{x:Operand}{me:FuncId}{ps:Array Tmp}{as bd:Code}
section
open Go
variable [Ora]
section
variable {P:Program} {base gl nt:Nat}
def GR(gl:Nat)(ρ:Ren):Prop:=∀ g,g<gl->ρ g=some (lc g 0 0)
def GR.mono{ρ ρ':Ren}(h:GR gl ρ)(he:∀ b l,ρ b=some l->ρ' b=some l):GR gl ρ':=fun g a=>he _ _ (h g a)
structure At (P:Program) (base gl:Nat) (ρ:Ren) (m:Mem) (hi:Nat) (w:World):Prop where
 hr:HR P base ρ m.H w
 bs:base<=w.heap.size
 fr:I2 ρ m.n hi
 gr:GR gl ρ
 nh:m.n<=m.hi
 wb:∀ b ∈ m.W,∀ l,ρ b=some l->l.on=true->base<=l.blk
 gf:∀ k o,Ora.G k=some o->k<base/\w.heap[k]? = some o
def At.wbs{ρ ρ':Ren}{m m':Mem}{hi:Nat}{w w':World}(h:At P base gl ρ m hi w)(st:St P base ρ ρ' m m' w w'):∀ b ∈ m'.W,∀ l,ρ b=some l->l.on=true->base<=l.blk:=fun b e l c a=>by
 by_cases hm:b ∈ m.W
 .exact h.wb b hm l c a
 .obtain⟨ab,h1,f⟩:=st.wrw b e hm l c;exact((h.hr.atl c h1).2 f a).1
def At.below{ρ ρ':Ren}{m m':Mem}{hi:Nat}{w w':World}(h:At P base gl ρ m hi w)(st:St P base ρ ρ' m m' w w'){k:Nat}(hk:k<base):w'.heap[k]? = w.heap[k]? :=
 st.keep k (C9 hk h.bs) fun b c l f a e=>by have:=h.wbs st b c l f a;omega
def At.step{ρ ρ':Ren}{m m':Mem}{hi:Nat}{w w':World}(h:At P base gl ρ m hi w)(st:St P base ρ ρ' m m' w w'):At P base gl ρ' m' hi w' :=
 ⟨st.hr,B6 h.bs st.size,fun b h1 f=>by
  cases c:ρ' b with
  | none=>rfl
  | some l =>
    cases h0:ρ b with
    | some l0=>rw[h.fr b (B6 st.nle h1) f]at h0;cases h0
    | none=>have:=(st.new b l c h0).2;omega,h.gr.mono st.ext,st.nhi h.nh,fun b c l n a=>by
  cases h0:ρ b with
  | some l0 =>
    have:=st.ext b l0 h0;rw[n]at this
    have:=A5 this;subst this;exact h.wbs st b c l h0 a
  | none =>
    rcases st.blk b l n h0 a with h1|⟨s,h1,l0,f,e,h3⟩
    .have:=h.bs;omega
    .rw[<- h3];exact h.wbs st s h1 l0 f e,fun k o hk=>⟨(h.gf k o hk).1,(h.below st (h.gf k o hk).1).trans (h.gf k o hk).2⟩⟩
def At.less{ρ:Ren}{m:Mem}{hi hi':Nat}{w:World}(h:At P base gl ρ m hi w)(c:hi'<=hi):At P base gl ρ m hi' w:=⟨h.hr,h.bs,fun b h1 a=>h.fr b h1 (C9 a c),h.gr,h.nh,h.wb,h.gf⟩
def At.wLg{ρ:Ren}{m:Mem}{hi:Nat}{w:World}(h:At P base gl ρ m hi w)(lg:Lg):At P base gl ρ (m.wLg lg) hi w:=by
 cases m;exact⟨h.hr,h.bs,h.fr,h.gr,h.nh,h.wb,h.gf⟩
def TF(P:Program)(base:Nat)(ρ:Ren)(m m':Mem)(w:World)(v:Value):Ending->World->Prop:=fun e w'=>∃ v' ρ',e=.returned v'/\VR ρ' v v'/\St P base ρ ρ' m m' w w'
structure gK (P:Program) (base gl:Nat) (f:FuncId) (c:FnC):Prop where
 lg:∀ (vs:List Value) (m m':Mem) (v:Value),c.run vs m=some (v,m')->m.lg.le m'.lg
 ok:∀ (ρ:Ren) (m m':Mem) (w:World) (vs vs':List Value) (v:Value),c.run vs m=some (v,m')->Sat m'.lg->At P base gl ρ m m'.hi w->LR ρ vs vs' ->
  ((callFunc f ⟨vs'⟩).run P w=.ok (.enter f ⟨vs'⟩) w/\Calls P f ⟨vs'⟩ w (TF P base ρ m m' w v)) ∨
  (∃ v' ρ' w',(callFunc f ⟨vs'⟩).run P w=.ok (.value v') w'/\VR ρ' v v'/\St P base ρ ρ' m m' w w')
structure Zn where
 rd:Option Nat
 D:List Deferred
def A1T(l:Loc):Deferred:={ target:=.collected l.blk,args:=#[] }
def DfR(ρ:Ren)(ids:List Nat)(ds:List Deferred):Prop:=ids.length=ds.length/\∀ (i:Nat) (id:Nat) (d:Deferred),ids[i]? = some id->ds[i]? = some d->∃ l,ρ id=some l/\d=A1T l
def DfR.mono{ρ ρ':Ren}{ids:F9}(h:DfR ρ ids ds)(he:∀ b l,ρ b=some l->ρ' b=some l):DfR ρ' ids ds:=⟨h.1,fun i id d a b=>let ⟨l,c,e⟩:=h.2 i id d a b;⟨l,he _ _ c,e⟩⟩
def DfR.nil{ρ:Ren}:DfR ρ [] []:=⟨rfl,fun i id d h=>by simp at h⟩
structure FrR (z:Zn) (ρ:Ren) (nt:Nat) (fr:Fr) (a:Act):Prop where
 size:a.tmps.size=nt
 le:nt<=512
 df:∃ ds,a.defers=ds++z.D/\DfR ρ (dvG nt fr) ds
 rd:nt<=510->(jN (fr.get 511)=true->z.rd=none)/\∀ b,bN (fr.get 511)=some b->∃ l,ρ b=some l/\z.rd=some l.blk
 get:∀ t,t<nt->VR ρ (fr.get t) (a.tmps.getD t undef)
variable {z:Zn}
def FrR.mono{ρ ρ':Ren}{fr:Fr}{a:Act}(h:FrR z ρ nt fr a)(he:∀ b l,ρ b=some l->ρ' b=some l):FrR z ρ' nt fr a :=
 ⟨h.size,h.le,let ⟨ds,a,b⟩:=h.df;⟨ds,a,b.mono he⟩,fun f=>⟨(h.rd f).1,fun b k=>let ⟨l,c,e⟩:=(h.rd f).2 b k;⟨l,he _ _ c,e⟩⟩,fun t m=>(h.get t m).mono he⟩
def FrR.put{ρ:Ren}{fr:Fr}{a:Act}{d:Nat}{v v':Value}(h:FrR z ρ nt fr a)(k:d<nt)(m:VR ρ v v'):FrR z ρ nt (fr.set d v) (a.put (some d) v'):=by
 have hle:=h.le;have b:∀ t,t<512->t≠d->(fr.set d v).get t=fr.get t:=fun t h1 s=>by rw[K1 _ _ _ _ A9 h1,B1 s]
 refine⟨by simp[Act.put,h.size],h.le,?_,fun n=>?_,fun t l=>?_⟩
 .obtain⟨ds,u,c⟩:=h.df;refine⟨ds,u,?_⟩;unfold dvG at c ⊢;cases f:Nat.ble nt 510 with
  | true =>
    have:=A1 f;rw[f]at c;rw[b 510 L8 A9];exact c
  | false=>rw[f]at c;exact c
 .rw[b 511 L8 A9];exact h.rd n
 .rw[K1 _ _ _ _ (C9 k h.le) (C9 l h.le)];simp only[Act.put,B0,D1];by_cases e:t=d
  .subst e;rw[B2 rfl,B2 rfl,B2 (by rw[h.size];exact k)];exact m
  .rw[B1 e,B1 (fun h=>e h.symm)]
   have:=h.get t l
   simpa [B0]using this
def ZR(z:Zn)(ρ:Ren)(nt:Nat)(fr:Fr)(a:List Deferred):Prop:=(∃ ds,a=ds++z.D/\DfR ρ (dvG nt fr) ds)/\(nt<=510->(jN (fr.get 511)=true->z.rd=none)/\∀ b,bN (fr.get 511)=some b->∃ l,ρ b=some l/\z.rd=some l.blk)
def FrR.zr{ρ:Ren}{fr:Fr}{a:Act}(h:FrR z ρ nt fr a):ZR z ρ nt fr a.defers:=⟨h.df,h.rd⟩
def ZR.congr{ρ ρ':Ren}{fr a:Fr}(h:ZR z ρ nt fr ds)(he:∀ b l,ρ b=some l->ρ' b=some l)(m:nt<=510->a.get 510=fr.get 510/\a.get 511=fr.get 511):ZR z ρ' nt a ds:=by
 obtain⟨⟨k,h1,s⟩,h3⟩:=h;refine⟨⟨k,h1,?_⟩,fun f=>?_⟩
 .have:dvG nt a=dvG nt fr:=by
   unfold dvG;cases t:Nat.ble nt 510 with
   | true=>rw[(m (A1 t)).1]
   | false=>rfl
  rw[this];exact s.mono he
 .rw[(m f).2];exact⟨(h3 f).1,fun b n=>let ⟨l,c,e⟩:=(h3 f).2 b n;⟨l,he _ _ c,e⟩⟩
def bX(a:Act)(d:Option Tmp)(v:Value):(a.put d v).defers=a.defers:=by cases d<;>rfl
def FrR.ev{ρ:Ren}{fr:Fr}{a:Act}(h:FrR z ρ nt fr a)(e:GR gl ρ){x:Operand}(c:okX nt gl x=true):VR ρ (ev fr x) (a.eval x):=by
 cases x with
 | tmp t=>exact h.get t (A1 c)
 | const v=>exact VR.ofC c
 | global g =>
   have:=VR.ptr (o:=0) (e g (A1 c));exact this
 | func f=>exact .func (a:=[]) (b:=[]) (a':=[]) (b':=[]) rfl rfl (fun i v v' h=>by simp at h) (fun i v v' h=>by simp at h)
def FrR.ops{ρ:Ren}{fr:Fr}{a:Act}(h:FrR z ρ nt fr a)(b:GR gl ρ){o:Op}(c:FO nt gl o=true):FR ρ fr a.eval o:=fun x e=>h.ev b (D2.1 c x e)
def tX{o:Op}{c:Callee}{xs:Array Operand}{tys:Array TypeId}(h:o=.call ⟨c,xs,tys⟩):∀ x ∈ xs.toList,x ∈ o.operands.toList:=fun x a=>by
 subst h;show x ∈ ((match c with|.value f=>#[f]|.invoke r _=>#[r]|.builtin _=>#[])++xs:Array Operand).toList;simp;exact .inr (by simpa using a)
structure A0m (P:Program) (base gl:Nat) (c:FnC):Prop where
 lg:∀ (vs:List Value) (m m':Mem) (v:Value),c.run vs m=some (v,m')->m.lg.le m'.lg
 ok:∀ (ρ:Ren) (m m':Mem) (w:World) (b:Nat) (args args':List Value) (v:Value) (l:Loc),c.run (yv b::args) m=some (v,m')->Sat m'.lg->At P base gl ρ m m'.hi w->LR ρ args args'->ρ b=some l ->
  ∃ f tmps assign body,(Instr.yield l.blk ⟨args'⟩).run P w=.ok (.round l.blk f tmps assign body) w/\RoundIn Fence.wide 0 P l.blk f tmps assign body w (TF P base ρ m m' w v)
structure Q4 (P:Program) (base gl:Nat) (call:L5):Prop where
 fn:∀ f,gK P base gl f (call.fn f)
 yl:A0m P base gl call.yl
def vG{v:Value}{b:Nat}(h:bN v=some b):v=yv b:=by
 unfold bN at h;split at h
 .cases h;rfl
 .cases h
def lZ{ρ:Ren}{m m':Mem}{w:World}{call:L5}{fr:Fr}{a:Act}{v:Value}{K:Act->World->Prop}{Q:Exit->Act->World->Prop}(n:Q4 P base gl call)(k:(T6 P call o).run fr m=some (v,m'))(H:Sat m'.lg)
  (h:At P base gl ρ m m'.hi w) (B:FR ρ fr a.eval o.op) (G:∀ v' ρ' w',VR ρ' v v'->St P base ρ ρ' m m' w w'->K (a.put o.dst v') w'):wpO P z.rd o a w K Q:=by
 have I:∀ (f:FuncId) (vs A:List Value),(∀ c,o.op≠.defer c)->(call.fn f).run vs m=some (v,m')->LR ρ vs A->(execOp a.eval o).run P w=(callFunc f ⟨A⟩).run P w->wpO P z.rd o a w K Q:=fun f vs A L hr F he=>by
  refine⟨fun _ _=>trivial,?_⟩;rw[Oper.semAt_eq _ _ _ L,he];rcases(n.fn f).ok ρ m m' w vs A v hr H h F with⟨h1,u⟩|⟨v',ρ',w',h1,u,h3⟩
  .rw[h1,Oper.uponIn_enter];refine⟨eG,x6.2 (u.mono fun e w' ⟨v',ρ',he,F,N⟩=>?_)⟩;subst he;exact G v' ρ' w' F N
  .rw[h1,Oper.uponIn_value];exact G v' ρ' w' u h3
 have t:∀ (L:∀ c,o.op≠.defer c),NOk P base ρ m w (execOp a.eval o) v m'->wpO P z.rd o a w K Q:=fun L U=>by
  obtain⟨v',ρ',w',h1,u,h3⟩:=U;refine⟨fun _ _=>trivial,?_⟩;rw[Oper.semAt_eq _ _ _ L];rcases h1 with h1|⟨h1,rfl⟩
  .rw[h1,Oper.uponIn_value];exact G v' ρ' w' u h3
  .rw[h1,Oper.uponIn_skip];exact G undef ρ' w' u h3
 obtain⟨dst,op,ty,pos,T,Z⟩:=o;unfold T6 at k;simp only at k B;split at k
 .rename_i f xs tys;have l1:=aR (ρ:=ρ) (fr:=fr) (g:=a.eval) (xs:=xs.toList) fun x D=>B x (tX rfl x D)
  have k:(call.fn f).run ((qA xs.toList).run fr) m=some (v,m'):=k;rw[jU]at k;refine I f _ _ (fun c n=>by cases n) k l1 ?_;have J:xs.map a.eval=⟨xs.toList.map a.eval⟩:=by apply H7;simp
  simp only[execOp,resolve,Act.eval,Deferred.ofValue,pure_bind,invoke,J];simp
 .rename_i x xs tys R;have l1:=aR (ρ:=ρ) (fr:=fr) (g:=a.eval) (xs:=xs.toList) fun y M=>B y (tX rfl y M)
  have D:VR ρ (ev fr x) (a.eval x):=B x (by show x ∈ (#[x]++xs:Array Operand).toList;simp);have k:CF call m ((P1 x).run fr) ((qA xs.toList).run fr)=some (v,m'):=k;rw[jU,bM]at k;have J:xs.map a.eval=⟨xs.toList.map a.eval⟩:=by apply H7;simp
  unfold CF at k;split at k
  .rename_i f vs s;unfold rD at s;split at s
   .rename_i f0 p q C;cases s;rw[C]at D;generalize E:a.eval x=gx at D;cases D with
    | pure hp=>simp[H3]at hp
    | func ha V h1 u =>
      rename_i p q W X;have lp:LR ρ p W:=⟨ha,h1⟩;have O:LR ρ q X:=⟨V,u⟩;refine I f _ _ (fun c n=>by cases n) k (lp.append (l1.append O)) ?_;simp only[execOp,resolve,E,Deferred.ofValue,pure_bind,invoke,J];simp
   .cases s
  .split at k
   .rename_i b M;have C:=vG M;rw[C]at D k;obtain⟨l,Y,E⟩:=QF D;obtain⟨f,tmps,as,bd,h1,u⟩:=n.yl.ok ρ m m' w b _ _ v l k H h l1 Y;refine⟨fun _ _=>trivial,?_⟩;have he:(execOp a.eval ⟨dst,.call ⟨.value x,xs,tys⟩,ty,pos,T,Z⟩).run P w=(Instr.yield l.blk ⟨xs.toList.map a.eval⟩).run P w:=by
     simp only[execOp,resolve,E,Deferred.ofValue,pure_bind,invoke,J];simp
    rw[Oper.semAt_eq _ _ _ (fun c n=>by cases n),he,h1,Oper.uponIn_round];refine⟨eG,?_⟩;have u:RoundIn (fw z.rd) 0 P l.blk f tmps as bd w (TF P base ρ m m' w v):=u;refine u.mono fun e w' ⟨v',ρ',he,F,N⟩=>?_
    subst he;exact G v' ρ' w' F N
   .cases k
 .have k:PX P (tR P _) _ fr m=some (v,m'):=k;unfold PX at k;rw[tQ]at k;split at k
  .rename_i r hr;cases k;exact t (fun c n=>by have n:op=.defer c:=n;subst n;cases hr) (ZY h.hr h.bs hr h.fr B)
  .split at k
   .rename_i r hr;cases k;exact t (fun c n=>by have n:op=.defer c:=n;subst n;cases hr) (TQ h.hr hr B H)
   .split at k
    .rename_i r hr;cases k;exact t (fun c n=>by have n:op=.defer c:=n;subst n;cases hr) (A0d h.hr h.bs hr h.fr B H)
    .exact t (fun c n=>by have n:op=.defer c:=n;subst n;cases k) (YW h.hr h.bs k h.fr B H)
def n7{m m':Mem}{call:L5}{fr:Fr}{v:Value}(b:Q4 P base gl call)(a:(T6 P call o).run fr m=some (v,m')):m.lg.le m'.lg:=by
 unfold T6 at a;split at a
 .exact(b.fn _).lg _ _ _ _ a
 .have a:CF call m _ _=some (v,m'):=a;unfold CF at a;split at a
  .exact(b.fn _).lg _ _ _ _ a
  .split at a
   .exact b.yl.lg _ _ _ _ a
   .cases a
 .have a:PX P (tR P _) _ fr m=some (v,m'):=a;unfold PX at a;rw[tQ]at a;split at a
  .rename_i r hr;cases a;show m.lg.le _;rw[ZZ hr];exact .refl _
  .split at a
   .rename_i r hr;cases a;exact(HH hr).1
   .split at a
    .rename_i r hr;cases a;exact A0e hr
    .exact YX a
def MO{lg:Lg}{v:Value}{b c:Bool}(h:AL lg v b=some (c,lg')):lg.le lg':=by
 unfold AL at h;split at h
 .cases h;exact .refl _
 .split at h
  .rename_i a;cases h;exact cJ a
  .cases h
 .obtain⟨_,h⟩:=A2 h;cases h;exact .refl _
def dR{lg:Lg}{fr:Fr}{all:List Oper}{b:Bool}(h:t8 nt fr lg all o=some (b,lg')):lg.le lg':=by
 unfold t8 at h;split at h
 .cases h;exact .refl _
 .split at h
  .split at h
   .obtain⟨_,h⟩:=A2 h;exact MO h
   .cases h
  .cases h
def lR{ρ:Ren}{lg:Lg}{v v':Value}{b c:Bool}(h:AL lg v b=some (c,lg'))(a:VR ρ v v')(m:Sat lg'):(v'=.bool (c == b)∨(c=false/\v'=.tuple ⟨[]⟩)):=by
 unfold AL at h;split at h
 .rename_i d;cases h;left;rw[y8 a];cases d<;>cases b<;>rfl
 .split at h
  .rename_i d l k;cases h;left
   rw[iN k a m];cases d<;>cases b<;>rfl
  .cases h
 .rename_i u _ _;obtain⟨h3,f⟩:=A2 h;cases f;right
  have hu:v=.tuple ⟨[]⟩:=by
   unfold jN at h3;split at h3
   .rfl
   .cases h3
  rw[hu]at a;obtain⟨cs',e,n⟩:=oN a;cases n.nil_inv;exact⟨rfl,e⟩
def iX{all:Array Oper}{tmps:Q0}{want b:Bool}{t:Tmp}(l:o.guard=some (j,want))(hp:all.toList[j]? = some p)(m:p.dst=some t)(c:t<tmps.size)
  (k:tmps.getD t undef=.bool (b == want)∨(b=false/\tmps.getD t undef=.tuple ⟨[]⟩)):Region.wanted o (yielded all tmps)=b:=by
 have a:tmps[t]? = some (tmps.getD t undef):=by simp[B0,c]
 have f:(all[j]?).bind (·.dst)=some t:=by
  have:all[j]? = some p:=by simpa using hp
  simp[this,m]
 unfold Region.wanted;simp only[l];rcases k with e|⟨rfl,e⟩
 .have:yielded all tmps j=some (b == want):=by simp[yielded,f,a,e]
  rw[this];cases b<;>cases want<;>rfl
 .have:yielded all tmps j=none:=by simp[yielded,f,a,e]
  rw[this];rfl
def AM{ρ:Ren}{lg:Lg}{all:Array Oper}{fr:Fr}{a:Act}{b:Bool}(h:FrR z ρ nt fr a)(hw:t8 nt fr lg all.toList o=some (b,lg'))(k:Sat lg'):Region.wanted o (yielded all a.tmps)=b:=by
 unfold t8 at hw;split at hw
 .rename_i c;cases hw;simp[Region.wanted,c]
 .rename_i j want c;split at hw
  .rename_i p hp;split at hw
   .rename_i t e;obtain⟨h1,f⟩:=A2 hw;have h1:t<nt:=A1 h1;exact iX c hp e (by rw[h.size];exact h1) (lR f (h.get t h1) k)
   .cases hw
  .cases hw
def rZ{β:Type}(t:Nat)(v:Value)(fr:Fr)(k:Fr->β):qH (sel (t / 64%8)) (sel (t / 8%8)) (sel (t%8)) v fr k=k (fr.set t v):=yJ t v fr k
def qK(d:Option Tmp)(v:Value)(fr:Fr):Fr:=match d with|some t=>fr.set t v|none=>fr
def aC(d:Option Tmp)(v:Value)(fr:Fr)(k:Fr->Option S):(qL d).run v fr k=k (qK d v fr):=by
 cases d with
 | none=>rfl
 | some t=>exact rZ t v fr k
def FrR.dst{ρ:Ren}{fr:Fr}{a:Act}{v v':Value}(h:FrR z ρ nt fr a)(c:tM nt d=true)(b:VR ρ v v'):FrR z ρ nt (qK d v fr) (a.put d v'):=by
 cases d with
 | none=>exact h
 | some t=>exact h.put (A1 c) b
def i7{c:OpC}{next:TE}{s a:S}(h:gT c (qL d) next s=some a):∃ v m',c.run s.fr s.m=some (v,m')/\s.m.hi<=m'.hi/\next.run ⟨qK d v s.fr,m'⟩=some a:=by
 unfold gT at h;obtain⟨fr,m⟩:=s;simp only at h;split at h
 .rename_i v m' hr;obtain⟨h1,b⟩:=A2 h;rw[aC]at b;exact⟨v,m',hr,A1 h1,b⟩
 .cases h
def oC{call:L5}{all:List Oper}:∀ (r:List Oper) (s a:S),(P7 P nt gl call all r).run s=some a->s.m.hi<=a.m.hi
 | [],s,a,h=>by
   have h:some s=some a:=h;cases h;exact A6 _
 | o::r,s,a,h=>by
   unfold P7 at h;cases c:tM nt o.dst && FO nt gl o.op with
   | false=>rw[c]at h;cases h
   | true =>
     rw[c]at h;simp only[D7]at h;split at h
     .obtain⟨v,m',_,h1,b⟩:=i7 h;exact B6 h1 (oC r _ _ b)
     .have h:bV nt all o (T6 P call o) (qL o.dst) (P7 P nt gl call all r) s=some a:=h;unfold bV at h;obtain⟨fr,⟨H,n,W,hi,lg⟩⟩:=s;simp only at h;split at h
      .obtain⟨v,m',_,h1,b⟩:=i7 h;exact B6 h1 (oC r _ _ b)
      .rename_i lg' _;rw[aC]at h;exact oC r ⟨qK o.dst undef fr,⟨H,n,W,hi,lg'⟩⟩ a h
      .cases h
def gY{call:L5}(b:Q4 P base gl call){all:List Oper}:∀ (r:List Oper) (s a:S),(P7 P nt gl call all r).run s=some a->s.m.lg.le a.m.lg
 | [],s,a,h=>by
   have h:some s=some a:=h;cases h;exact .refl _
 | o::r,s,a,h=>by
   unfold P7 at h;cases e:tM nt o.dst && FO nt gl o.op with
   | false=>rw[e]at h;cases h
   | true =>
     rw[e]at h;simp only[D7]at h;split at h
     .obtain⟨v,m',h0,h1,c⟩:=i7 h;exact(n7 b h0).trans (gY b r _ _ c)
     .have h:bV nt all o (T6 P call o) (qL o.dst) (P7 P nt gl call all r) s=some a:=h;unfold bV at h;obtain⟨fr,⟨H,n,W,hi,lg⟩⟩:=s;simp only at h;split at h
      .rename_i lg' hw;obtain⟨v,m',h0,h1,c⟩:=i7 h;exact(dR hw).trans ((n7 b h0).trans (gY b r _ _ c))
      .rename_i lg' hw;rw[aC]at h;exact(dR hw).trans (gY b r ⟨qK o.dst undef fr,⟨H,n,W,hi,lg'⟩⟩ a h)
      .cases h
def sN{call:L5}{all:Array Oper}{Q:Exit->Act->World->Prop}(t:Q4 P base gl call):∀ (r:List Oper) (ρ:Ren) (s c:S) (a:Act) (w:World),(P7 P nt gl call all.toList r).run s=some c->Sat c.m.lg->At P base gl ρ s.m c.m.hi w->FrR z ρ nt s.fr a ->
  (∀ ρ' a' w',FrR z ρ' nt c.fr a'->St P base ρ ρ' s.m c.m w w'->Q .normal a' w')->wpL P z.rd all Q r a w
 | [],ρ,s,c,a,w,h,hS,b,f,l=>by
   have h:some s=some c:=h;cases h;exact l ρ a w f (.refl b.hr)
 | o::r,ρ,s,c,a,w,h,hS,b,f,l=>by
   unfold P7 at h;cases A:tM nt o.dst && FO nt gl o.op with
   | false=>rw[A]at h;cases h
   | true =>
     rw[A]at h;simp only[D7]at h;obtain⟨u,y⟩:=B3 A;have plain:∀ (s:S),At P base gl ρ s.m c.m.hi w->FrR z ρ nt s.fr a->(∀ ρ' a' w',FrR z ρ' nt c.fr a'->St P base ρ ρ' s.m c.m w w'->Q .normal a' w') ->
       gT (T6 P call o) (qL o.dst) (P7 P nt gl call all.toList r) s=some c->Region.wanted o (yielded all a.tmps)=true->wpL P z.rd all Q (o::r) a w:=fun s b f l hr hw=>by
      obtain⟨v,m',h1,C,h3⟩:=i7 hr;have hh:=oC r _ _ h3;have e:Sat m'.lg:=M5.le hS (gY t r _ _ h3);refine lQ fun K B=>?_
      rw[B2 hw];refine lZ t h1 e (b.less hh) (f.ops b.gr y) fun v' ρ' w' D st=>B _ _ ?_
      refine sN t r ρ' _ c _ _ h3 hS (b.step st) ((f.mono st.ext).dst u D) fun ρ2 a2 w2 f2 st2=>l ρ2 a2 w2 f2 (St.trans b.fr st st2)
     split at h
     .rename_i E;exact plain s b f l h (by simp[Region.wanted,E])
     .have h:bV nt all.toList o (T6 P call o) (qL o.dst) (P7 P nt gl call all.toList r) s=some c:=h;unfold bV at h;obtain⟨fr,m⟩:=s;obtain⟨H,n,W,hi,lg⟩:=m;simp only at h;split at h
      .rename_i lg' hw;have k:St P base ρ ρ ⟨H,n,W,hi,lg⟩ ⟨H,n,W,hi,lg'⟩ w w:=St.wLg (m:=⟨H,n,W,hi,lg⟩) b.hr lg';obtain⟨v,m',h0,h1,C⟩:=i7 h;have e:Sat lg':=M5.le hS ((n7 t h0).trans (gY t r _ _ C));exact plain ⟨fr,⟨H,n,W,hi,lg'⟩⟩ (b.wLg lg') f (fun ρ2 a2 w2 f2 st2=>l ρ2 a2 w2 f2 (St.trans b.fr k st2)) h (AM f hw e)
      .rename_i lg' hw;have k:St P base ρ ρ ⟨H,n,W,hi,lg⟩ ⟨H,n,W,hi,lg'⟩ w w:=St.wLg (m:=⟨H,n,W,hi,lg⟩) b.hr lg';rw[aC]at h;have e:Sat lg':=M5.le hS (gY t r ⟨qK o.dst undef fr,⟨H,n,W,hi,lg'⟩⟩ c h);refine lQ fun K B=>?_
       rw[B1 (by rw[AM f hw e];simp)];exact B _ _ (sN t r ρ ⟨qK o.dst undef fr,⟨H,n,W,hi,lg'⟩⟩ c _ _ h hS (b.wLg lg') (f.dst u (lT ρ)) fun ρ2 a2 w2 f2 st2=>l ρ2 a2 w2 f2 (St.trans b.fr k st2))
      .cases h
def Ex.out:Ex->Exit
 | .normal=>.normal
 | .exit id=>.exit id
 | .ret=>.ret
def VC{ops:List Oper}{z:Zn}{ρ:Ren}{s:S}{a:Act}{w:World}(hm:hY P nt gl s.fr s.m.H ops=true)(hr:HR P base ρ s.m.H w)(F:GR gl ρ)(Q:FrR z ρ nt s.fr a):EL P ops (a,w):=by
 obtain⟨h1,h2⟩:=B3 hm;have key:∀ o ∈ ops,∀ t x,iP o.op=some (t,x)->∃ b l cs T,ev s.fr x=.pointer (some b)/\ρ b.block=some l/\a.eval x=.pointer (some ⟨l.blk,b.off+l.sh,none⟩)/\Hp.get s.m.H b.block=some (.cells cs T false)/\b.block<=G2/\l.on=true/\vE P w t (a.eval x):=fun o D t x v=>by
  have hp:=D2.1 h1 o D;unfold OT at hp;rw[v]at hp;simp only at hp;cases hk:okX nt gl x with
  | false=>rw[hk]at hp;cases hp
  | true =>
    rw[hk]at hp;simp only[N6,D3]at hp;split at hp
    .rename_i b g sz A B e3;split at hp
     .rename_i cs T Y f;obtain⟨q1,hp⟩:=B3 hp;obtain⟨q2,q3⟩:=B3 hp;have q1:=A1 q1;have q2:b.off<cs.length:=A1 q2;have q3:=A1 q3;have M:=Q.ev F hk;rw[A]at M;obtain⟨l,l1,_,N⟩:=L1 M;obtain⟨⟨G,C,fz,T',c1,c2,_⟩,_⟩:=hr.atl l1 f;have n:∀ k,k<cs.length->l.sh+k<C.size:=fun k hk=>by
       obtain⟨v',I,_⟩:=c2 k cs[k] (A4 hk);exact(B5.1 I).1
      refine⟨b,l,cs,T,A,l1,N,f,q3,G,l.blk,b.off+l.sh,C,T',fz,sz,g,N,c1,e3,B,?_,?_⟩
      .have:=n b.off q2;by_cases h0:sz=0
       .omega
       .have:=n (b.off+sz-1) A9;omega
      .have:=n b.off q2;omega
     .cases hp
    .cases hp
 refine⟨fun o D t x v=>by obtain⟨_,_,_,_,_,_,_,_,_,_,h⟩:=key o D t x v;exact h,fun i j o p E hi L he J t x u y v K az W A B=>?_⟩;obtain⟨b,l,cs,T,k1,Z,O,k4,k5,k6,_⟩:=key o (D6 hi) t x v;obtain⟨bd,r,ds,V,U,X,R,n4,n5,n6,_⟩:=key p (D6 L) u y K;have c:=BH h2 E hi L he;unfold SY at c;rw[J]at c;simp only[D7,v,K,k1,U]at c;rw[O]at A;rw[R]at B;cases A;cases B;show l.blk≠r.blk;intro e;obtain⟨_,hu⟩:=hr.atl Z k4;obtain⟨_,hu⟩:=hu rfl k6
 have:=hu bd.block n5 _ r n4 X (.inl ⟨rfl,n6,e.symm⟩);rw[this,bG]at c;cases c
def At.drew{ρ:Ren}{m:Mem}{hi:Nat}{w:World}(a:At P base gl ρ m hi w)(d:Nat):At P base gl ρ m hi { w with drawn:=d } :=
 ⟨⟨fun b l h=>a.hr.dom b l h,fun id hid ab c=>by
  obtain⟨l,k,f,e⟩:=a.hr.at_ id hid ab c;exact⟨l,k,BR.mono (w:=w) (fun _ _ h=>h) (fun _ _=>rfl) f,e⟩⟩,a.bs,a.fr,a.gr,a.nh,a.wb,a.gf⟩
def St.undrew{ρ ρ':Ren}{m m':Mem}{w w':World}{d:Nat}(st:St P base ρ ρ' m m' { w with drawn:=d } w'):St P base ρ ρ' m m' w w' :=
 ⟨st.ext,st.new,st.nle,st.hle,st.nhi,st.hr,st.wsub,st.wrw,st.keep,st.size,st.os,st.blk,st.same,st.tch⟩
def FJ{call:L5}{ops:Array Oper}{z:Zn}{id:Nat}(k:P.follows .mixedOrders=true)(F:Q4 P base gl call){ρ:Ren}{s e:S}{a:Act}{w:World}{Q:Exit->Act->World->Prop}(hr:gU ops.toList=true)(hm:hY P nt gl s.fr s.m.H ops.toList=true)(h:(P7 P nt gl call ops.toList ops.toList).run s=some e)(D:Sat e.m.lg)(c:At P base gl ρ s.m e.m.hi w)(l:FrR z ρ nt s.fr a)
  (y:∀ ρ' a' w',FrR z ρ' nt e.fr a'->St P base ρ ρ' s.m e.m w w'->Q .normal a' w'):(Code.region id ops true).wpIn (fw z.rd) 0 P Q a w:=by
 refine bO k (UA hr (fun w' f=>?_) (fun d=>?_) _)
 .have n:=VC hm c.hr c.gr l;refine⟨fun o B t x E=>?_,n.ap⟩;obtain⟨b,o',C,T,fz,sz,g,u,v,A⟩:=n.pl o B t x E;exact⟨b,o',C,T,fz,sz,g,u,by show w'.heap[b]? = _;rw[f];exact v,A⟩
 .exact sN F ops.toList ρ s e a { w with drawn:=d } h D (c.drew d) l fun ρ' a' w' f1 st=>⟨rfl,y ρ' a' w' f1 st.undrew⟩
def d8(P:Program)(base gl:Nat)(call:L5):Prop :=
 P.follows .mixedOrders=true/\∀ (nt:Nat) (ops:Array Oper),zR ops=true->∀ (s b:S),c9 P nt gl call ops.toList ops.toList 0 (V8 ops.toList []) [] [] s=some b->(s.m.hi<=b.m.hi/\s.m.lg.le b.m.lg) /\
  ∀ (z:Zn) (ρ:Ren) (a:Act) (w:World) (id:Nat) (Q:Exit->Act->World->Prop),Sat b.m.lg->At P base gl ρ s.m b.m.hi w->FrR z ρ nt s.fr a ->
   (∀ ρ' a' w',FrR z ρ' nt b.fr a'->St P base ρ ρ' s.m b.m w w'->Q .normal a' w')->(Code.region id ops true).wpIn (fw z.rd) 0 P Q a w
def L9:∀ (q r:List Bool) (c:Code),G4 (q++r) c=(G4 q c).bind (G4 r)
 | [],r,c=>rfl
 | false::q,r,.seq a b=>L9 q r a
 | true::q,r,.seq a b=>L9 q r b
 | false::q,r,.cond _ a b=>L9 q r a
 | true::q,r,.cond _ a b=>L9 q r b
 | false::q,r,.block _ c=>L9 q r c
 | false::q,r,.loop c=>L9 q r c
 | false::q,r,.scope c=>L9 q r c
 | true::q,r,.scope c=>rfl
 | true::q,r,.block _ c=>rfl
 | true::q,r,.loop c=>rfl
 | b::q,r,.skip=>by cases b<;>rfl
 | b::q,r,.region _ _ _=>by cases b<;>rfl
 | false::q,r,.rangeFunc _ _ a _=>L9 q r a
 | true::q,r,.rangeFunc _ _ _ b=>L9 q r b
 | b::q,r,.exit _=>by cases b<;>rfl
 | b::q,r,.label _=>by cases b<;>rfl
 | b::q,r,.goto _=>by cases b<;>rfl
 | b::q,r,.ret=>by cases b<;>rfl
 | b::q,r,.refuse _=>by cases b<;>rfl
def H1{b:Bool}{body c d:Code}(h:G4 q body=some c)(a:G4 [b] c=some d):G4 (q++[b]) body=some d:=by
 rw[L9,h];exact a
structure x7 (P:Program) (base gl nt:Nat) (c:Code) (L:S->Option (Ex×S)):Prop where
 lg:∀ (s s':S) (e:Ex),L s=some (e,s')->s.m.hi<=s'.m.hi/\s.m.lg.le s'.m.lg
 ok:∀ (s s':S) (e:Ex),L s=some (e,s')->Sat s'.m.lg->∃ N,∀ (z:Zn) (ρ:Ren) (a:Act) (w:World) (Q:Exit->Act->World->Prop),At P base gl ρ s.m s'.m.hi w->FrR z ρ nt s.fr a ->
  (∀ ρ' a' w',FrR z ρ' nt s'.fr a'->St P base ρ ρ' s.m s'.m w w'->Q e.out a' w')->Code.roundsIn (fw z.rd) 0 P c Q N a w
def orL(a b:S->Option (Ex×S))(s:S):Option (Ex×S) :=
 match a s with
 | some r=>some r
 | none=>b s
def x7.or{nt:Nat}{c:Code}{a b:S->Option (Ex×S)}(k:x7 P base gl nt c a)(f:x7 P base gl nt c b):x7 P base gl nt c (orL a b):=by
 refine⟨fun s m e h=>?_,fun s m e h l=>?_⟩
 .unfold orL at h;split at h
  .rename_i r hr;cases h;exact k.lg _ _ _ hr
  .exact f.lg _ _ _ h
 .unfold orL at h;split at h
  .rename_i r hr;cases h;exact k.ok _ _ _ hr l
  .exact f.ok _ _ _ h l
def EJ(P:Program)(base gl nt:Nat)(body:Code)(lp:LpT):Prop :=
 (∃ fn,P.funcs[lp.me]? = some fn/\fn.body=some body/\fn.ntmps=nt)/\∀ q x L,G4 q body=some (.loop x)->lp.look q=some L->x7 P base gl nt x L
def jF{m m':Mem}{ab:AB}{k:Nat->Value}{v:Value}(h:W6 m ab k=some (v,m')):v=k m.n/\m.hi<=m'.hi/\m'.lg=m.lg:=by
 obtain⟨_,a,rfl⟩:=J8 h;exact⟨a,(J2 _ _).1,rfl⟩
def iZ{m m':Mem}{id:Nat}{ab:AB}(h:y4 m id ab=some m'):m'.hi=m.hi/\m'.lg=m.lg:=by
 obtain⟨_,rfl⟩:=R2 h;exact⟨rfl,rfl⟩
def pQ{fr:Fr}{hi b:Nat}{r:Res}{e:Ex}{a:S}(h:mG fr hi b r=some (e,a)):∃ v m f q vs st m',r=some (v,m)/\Hp.get m.H b=some (.lp f q vs st)/\nEx st=some e/\hi<=m.hi/\y4 m b (.lp f q vs 3)=some m'/\a=⟨fr,m'⟩:=by
 unfold mG at h;split at h
 .rename_i v m;split at h
  .rename_i f q vs st c;split at h
   .rename_i k he;obtain⟨h1,h⟩:=A2 h;split at h
    .rename_i m' hm;cases h;exact⟨_,_,_,_,_,_,_,rfl,c,he,A1 h1,hm,rfl⟩
    .cases h
   .cases h
  .cases h
 .cases h
def sJ{call:L5}{f:FuncId}{fr:Fr}{m:Mem}{e:Ex}{l:S}(h:x8 P nt call f q g fr m=some (e,l)) :
  ∃ m1 k a b,W6 m (.lp f q (frL fr 0 nt) 0) yv=some (yv m.n,m1)/\g=.func (.func k) a b/\mX P k=true/\mG fr m1.hi m.n ((call.fn k).run (a.toList++([yv m.n]++b.toList)) m1)=some (e,l):=by
 unfold x8 at h;rw[G6]at h;split at h
 .rename_i v m1 s;have u:=(jF s).1;subst u;have w:bN (yv m.n)=some m.n:=rfl;split at h
  .rename_i k as b c t;rw[w]at t;cases t;obtain⟨h1,h⟩:=A2 h;unfold rD at c;split at c
   .cases c;exact⟨m1,_,_,_,s,rfl,h1,h⟩
   .cases c
  .cases h
 .cases h
def kP{call:L5}(u:Q4 P base gl call){f:FuncId}{fr:Fr}{m:Mem}{e:Ex}{c:S}(h:x8 P nt call f q g fr m=some (e,c)):m.hi<=c.m.hi/\m.lg.le c.m.lg:=by
 obtain⟨m1,k,a,b,h1,_,_,t⟩:=sJ h;obtain⟨v,m2,f,q,vs,st,m3,y,_,_,l,s,rfl⟩:=pQ t
 have:=(u.fn k).lg _ _ _ _ y;obtain⟨g1,g2⟩:=iZ s;obtain⟨_,n,w⟩:=jF h1;refine⟨by show m.hi<=m3.hi;rw[g1];exact B6 n l,?_⟩;show m.lg.le m3.lg;rw[g2,<- w];exact this
def xQ{call:L5}{f:FuncId}{x:XC}{s l:S}{e:Ex}(h:tY P nt call f q x s=some (e,l)):nt<=510 /\
  ((∃ k f0 q0 c,bN (s.fr.get 511)=some k/\Hp.get s.m.H k=some (.lp f0 q0 c 1)/\x8 P nt call f q (x.run s.fr) s.fr s.m=some (e,l)) ∨
    (jN (s.fr.get 511)=true/\∃ m1,W6 s.m (.dfr true) (fun b=>.pointer (some ⟨b,0,none⟩))=some (.pointer (some ⟨s.m.n,0,none⟩),m1) /\
      x8 P nt call f q (x.run s.fr) (s.fr.set 510 (dv (s.m.n::eJ (s.fr.get 510)))) m1=some (e,l))):=by
 unfold tY at h;obtain⟨fr,m⟩:=s;obtain⟨h1,h⟩:=A2 h;refine⟨A1 h1,?_⟩;split at h
 .rename_i k w;split at h
  .rename_i f0 q0 c y;exact .inl ⟨k,f0,q0,c,w,y,h⟩
  .cases h
 .obtain⟨A,h⟩:=A2 h;refine .inr ⟨A,?_⟩;split at h
  .rename_i a m1 u;have v:=(jF u).1;cases v;rw[G6]at h;have:qH (sel 7) (sel 7) (sel 6) (dv (m.n::eJ (fr.get 510))) fr (fun t=>x8 P nt call f q (x.run fr) t m1)=x8 P nt call f q (x.run fr) (fr.set 510 (dv (m.n::eJ (fr.get 510)))) m1:=rZ 510 _ _ _;rw[this]at h;exact⟨m1,u,h⟩
  .cases h
def LY{call:L5}(b:Q4 P base gl call){f:FuncId}{x:XC}{s a:S}{e:Ex}(h:tY P nt call f q x s=some (e,a)):s.m.hi<=a.m.hi/\s.m.lg.le a.m.lg:=by
 obtain⟨_,⟨_,_,_,_,_,_,h⟩|⟨_,m1,c,h⟩⟩:=xQ h
 .exact kP b h
 .have:=kP b h;obtain⟨_,l,k⟩:=jF c;rw[k]at this;exact⟨B6 l this.1,this.2⟩
def IV(fr:Fr):∀ (n i j:Nat),(frL fr i n)[j]? = if j<n then some (fr.get (i+j))else none
 | 0,i,j=>by simp[frL]
 | n+1,i,0=>by simp[frL]
 | n+1,i,j+1=>by
   rw[frL,O2,IV fr n (i+1) j];have:i+1+j=i+(j+1):=A9;rw[this];by_cases h:j<n
   .rw[B2 h,B2 A9]
   .rw[B1 h,B1 A9]
def zK(fr:Fr):∀ (n i:Nat),(frL fr i n).length=n
 | 0,i=>rfl
 | n+1,i=>by simp[frL,zK fr n]
def FrR.list{ρ:Ren}{fr:Fr}{a:Act}(h:FrR z ρ nt fr a):LR ρ (frL fr 0 nt) a.tmps.toList:=by
 refine⟨by rw[zK];simpa using h.size.symm,fun i v v' h1 b=>?_⟩;rw[IV]at h1;split at h1
 .rename_i hi;cases h1
  have:=h.get i hi;rw[D8];have h3:a.tmps.getD i undef=v':=by
   have:a.tmps[i]? = some v':=by simpa using b
   simp[B0,this]
  rw[h3]at this;exact this
 .cases h1
def GI{k:FuncId}(h:mX P k=true):∃ fn c,P.funcs[k]? = some fn/\fn.body=some c:=by
 unfold mX at h;split at h
 .rename_i fn b;split at h
  .rename_i c a;exact⟨fn,c,by simpa using b,a⟩
  .cases h
 .cases h
def kG{k:FuncId}{args:Q0}{w w':World}{v:Value}(h:mX P k=true):(callFunc k args).run P w≠.ok (.value v) w':=by
 obtain⟨fn,c,h1,b⟩:=GI h;by_cases a:fn.name = "runtime.NumGoroutine"
 .simp[callFunc,h1,a]
 .simp[callFunc,h1,a,b]
def eU{w:World}{l:Nat}{o:Obj}(h:l<w.heap.size):(w.putObj l o).heap.size=w.heap.size/\(w.putObj l o).heap[l]? = some o/\∀ k,k≠l->(w.putObj l o).heap[k]? = w.heap[k]? := ⟨by simp[World.putObj],World.putObj_heap_same h,fun k hk=>World.putObj_heap_other hk⟩
def sI{call:L5}(hc:Q4 P base gl call){fn:Func}{body:Code}(f1:P.funcs[me]? = some fn)(f2:fn.body=some body)(f3:fn.ntmps=nt)(hq:G4 q body=some (.rangeFunc x ps as bd))
  {fr:Fr} {m:Mem} {e:Ex} {L:S} (h:x8 P nt call me q g fr m=some (e,L)) (hS:Sat L.m.lg) {ρ:Ren} {a:Act} {w:World} {r:Loop} (y:At P base gl ρ m L.m.hi w) (V:FrR z ρ nt fr a) (W:VR ρ g (a.eval x))
  (hr:r.state=.ready/\r.pending=none/\r.tmps=a.tmps/\r.params=ps/\r.assign=as/\r.body=bd) {Q:Exit->Act->World->Prop}
  (hQ:∀ ρ' w',FrR z ρ' nt L.fr a->St P base ρ ρ' m L.m w w'->Q e.out a w') :
  ∃ k args d,(resolve a.eval (rangeCall x w.heap.size) 0).run P (w.alloc (.loop r))=.ok d (w.alloc (.loop r))/\(invoke d.target d.args).run P (w.alloc (.loop r))=.ok (.enter k args) (w.alloc (.loop r)) /\
   CallsIn (fw z.rd) 0 P k args (w.alloc (.loop r)) (rangePost (fw z.rd) 0 P w.heap.size Q a):=by
 obtain⟨m1,k,A,B,h1,O,C,h2⟩:=sJ h;obtain⟨v,m2,ff,qq,vs,st,m3,e1,X,E,e4,Y,rfl⟩:=pQ h2;obtain⟨g1,g2⟩:=iZ Y;obtain⟨_,g3,g4⟩:=jF h1;have H:Sat m2.lg:=by have:Sat m3.lg:=hS;rwa[g2]at this
 have f:I2 ρ m.n m3.hi:=y.fr;have hle:m1.hi<=m3.hi:=by rw[g1];exact e4
 obtain⟨r1,r2,r3,r4,r5,r6⟩:=hr;subst r4;subst r5;subst r6;have t:(w.alloc (.loop r)).heap=w.heap.push (.loop r):=rfl;have u:ρ m.n=none:=f m.n (A6 _) (by
  obtain⟨_,_,q⟩:=J8 h1;have:m1.hi=upN m.hi m.n:=by rw[q]
  have h3:=(J2 m.hi m.n).2;omega)
 obtain⟨_,k1,st1⟩:=St.alloc (w':=w.alloc (.loop r)) (o:=.loop r) (l:=lc w.heap.size 0 0) y.hr y.bs h1 (f.less hle) ⟨rfl,rfl,rfl⟩ t rfl (by
  refine⟨⟨rfl,rfl⟩,r,by simp[t],⟨fn,body,x,f1,f2,hq,by rw[zK,f3]⟩,?_,⟨r1,r2⟩⟩;rw[r3];exact V.list.mono (T8 u))
 have s:=y.step st1;obtain⟨A,rfl⟩:∃ l:D0,A=⟨l⟩:=⟨A.toList,rfl⟩;obtain⟨B,rfl⟩:∃ l:D0,B=⟨l⟩:=⟨B.toList,rfl⟩;subst O;generalize T:a.eval x=gx at W;cases W with
 | pure hp=>simp[H3]at hp
 | func ha G q1 q2 =>
   rename_i K I;have lA:LR ρ A K:=⟨ha,q1⟩;have lB:LR ρ B I:=⟨G,q2⟩;have hy:VR (upd ρ m.n (lc w.heap.size 0 0)) (yv m.n) (.func (.yield w.heap.size) #[] #[]):=VR.yv k1;have hl:=(lA.mono st1.ext).append ((LR.cons hy .nil).append (lB.mono st1.ext));refine⟨k,⟨K++([.func (.yield w.heap.size) #[] #[]]++I)⟩,{ target:=.fn (.func k) ⟨I⟩,args:=⟨K⟩++#[.func (.yield w.heap.size) #[] #[]] },?_,?_,?_⟩
   .show(Deferred.ofValue (a.eval x) _).run P _=_;rw[T];simp[Deferred.ofValue,Act.eval]
   .have R:(callFunc k ⟨K++([.func (.yield w.heap.size) #[] #[]]++I)⟩).run P (w.alloc (.loop r))=.ok (.enter k ⟨K++([.func (.yield w.heap.size) #[] #[]]++I)⟩) (w.alloc (.loop r)):=by
     rcases(hc.fn k).ok _ m1 m2 _ _ _ v e1 H (s.less (by show m2.hi<=m3.hi;rw[g1];exact A6 _)) hl with⟨c1,_⟩|⟨v',ρ',w',c1,_⟩
     .exact c1
     .exact absurd c1 (kG C)
    rw[<- R];show(callFunc k _).run P _=_;congr 2;apply H7;simp
   .rcases(hc.fn k).ok _ m1 m2 _ _ _ v e1 H (s.less (by show m2.hi<=m3.hi;rw[g1];exact A6 _)) hl with⟨_,c2⟩|⟨v',ρ',w',c1,_⟩
    .refine x6.2 (c2.mono fun en w2 ⟨v',ρ2,he,hv,st2⟩=>?_);subst he;have Z:=st2.ext _ _ k1;obtain⟨b1,b2⟩:=st2.hr.atl Z X;obtain⟨⟨b3,b4⟩,D,N,M⟩:=b1;have N:w2.heap[w.heap.size]? = some (.loop D):=N;have F:D.state≠.busy:=by
      have c:=M.st;intro G
      match st,c,E with
      | 0,c,_=>rw[G]at c;cases c.1
      | 2,c,_=>rw[G]at c;cases c.1
      | k+4,c,_=>rw[G]at c;cases c.1
     obtain⟨p1,p2,p3⟩:=eU (o:=.loop { D with state:=.exhausted }) (B5.1 N).1;have U:St P base ρ2 ρ2 m2 m3 w2 (w2.putObj w.heap.size (.loop { D with state:=.exhausted })):=St.write st2.hr Y X rfl Z rfl ⟨rfl,rfl,rfl⟩ p1 p3 ⟨⟨rfl,rfl⟩,_,p2,M.code,M.fr,trivial⟩;have J:St P base ρ ρ2 m m3 w _:=St.trans f st1 (St.trans s.fr st2 U);have b:=hQ ρ2 _ (V.mono J.ext) J;refine⟨D.pending,_,run_endLoop N F,?_⟩;have c:=M.st
     match st,c,E with
     | 0,c,E=>cases E;rw[show D.pending=none from c.2]at b ⊢;exact b
     | 2,c,E=>cases E;rw[show D.pending=some .ret from c.2]at b ⊢;exact wpIn_ret b
     | k+4,c,E=>cases E;rw[show D.pending=some (.exit k)from c.2]at b ⊢;exact wpIn_exit b
    .exact absurd c1 (kG C)
def OL{call:L5}(N:Q4 P base gl call){fn:Func}{body:Code}(f1:P.funcs[me]? = some fn)(f2:fn.body=some body)(f3:fn.ntmps=nt)(R:G4 q body=some (.rangeFunc x ps as bd))(hx:okX nt gl x=true)
  {s C:S} {e:Ex} {ρ:Ren} {a:Act} {w:World} {Q:Exit->Act->World->Prop} (h:tY P nt call me q (P1 x) s=some (e,C)) (O:Sat C.m.lg) (c:At P base gl ρ s.m C.m.hi w) (D:FrR z ρ nt s.fr a)
  (U:∀ ρ' a' w',FrR z ρ' nt C.fr a'->St P base ρ ρ' s.m C.m w w'->Q e.out a' w'):(Code.rangeFunc x ps as bd).wpIn (fw z.rd) 0 P Q a w:=by
 obtain⟨G,h⟩:=xQ h;refine wpIn_rangeFunc fun b _=>?_
 have T:=D.ev c.gr hx;rcases h with⟨b0,f0,q0,az,Y,X,h⟩|⟨hu,m1,y,h⟩
 .obtain⟨l0,e1,e2⟩:=(D.rd G).2 b0 Y;obtain⟨⟨_,V,b1,_⟩,_⟩:=c.hr.atl e1 X;have B:(Instr.enterLoop b a.tmps ps as bd (fw z.rd).round).run P w=.ok (w.heap.size,[]) (w.alloc (.loop { state:=.ready,pending:=none,fn:=b,tmps:=a.tmps,params:=ps,assign:=as,body:=bd,defers:=V.defers })):=by
   show(Instr.enterLoop b a.tmps ps as bd z.rd).run P w=_;rw[e2];unfold Instr.enterLoop;simp only[A3,run_getLoop b1,run_newObj_alloc,Result.andThen,Sem.run_pure]
  rw[bM]at h;obtain⟨k,args,d,c1,c2,H⟩:=sI (r:={ state:=.ready,pending:=none,fn:=b,tmps:=a.tmps,params:=ps,assign:=as,body:=bd,defers:=V.defers }) N f1 f2 f3 R h O c D T ⟨rfl,rfl,rfl,rfl,rfl,rfl⟩ (Q:=Q) fun ρ' w' g1 g2=>U ρ' a w' g1 g2
  exact⟨_,_,_,d,_,k,args,_,B,c1,fun _ _=>trivial,c2,eG,H⟩
 .have J:=(D.rd G).1 hu;have v:I2 ρ s.m.n C.m.hi:=c.fr;have L:=kP N h;obtain⟨_,g3,g4⟩:=jF y;have B:(Instr.enterLoop b a.tmps ps as bd (fw z.rd).round).run P w=.ok (w.heap.size+1,[{ target:=.collected w.heap.size,args:=#[] }]) ((w.alloc (.deferred (some []))).alloc (.loop { state:=.ready,pending:=none,fn:=b,tmps:=a.tmps,params:=ps,assign:=as,body:=bd,defers:=w.heap.size })):=by
   show(Instr.enterLoop b a.tmps ps as bd z.rd).run P w=_;rw[J];exact run_enterLoop_outer b a.tmps ps as bd
  have f:(w.alloc (.deferred (some []))).heap=w.heap.push (.deferred (some [])):=rfl;obtain⟨_,k1,st1⟩:=St.alloc (w':=w.alloc (.deferred (some []))) (o:=.deferred (some [])) (l:=lc w.heap.size 0 0) c.hr c.bs y (v.less L.1) ⟨rfl,rfl,rfl⟩ f rfl ⟨⟨rfl,rfl⟩,_,by simp[f],fun _=>rfl⟩;have E:=c.step st1;have K:(w.alloc (.deferred (some []))).heap.size=w.heap.size+1:=by simp[f]
  let a2:Act:={ a with defers:={ target:=.collected w.heap.size,args:=#[] }::a.defers }
  have I:FrR z (upd ρ s.m.n (lc w.heap.size 0 0)) nt (s.fr.set 510 (dv (s.m.n::eJ (s.fr.get 510)))) a2:=by
   have u:=D.mono st1.ext;have A:∀ t,t<512->t≠510->(s.fr.set 510 (dv (s.m.n::eJ (s.fr.get 510)))).get t=s.fr.get t:=fun t h1 F=>by rw[K1 _ _ _ _ L8 h1,B1 F]
   refine⟨u.size,u.le,?_,fun _=>by rw[A 511 L8 L8];exact u.rd G,fun t Z=>by rw[A t A9 A9];exact u.get t Z⟩;obtain⟨ds,d1,d2⟩:=u.df;refine⟨{ target:=.collected w.heap.size,args:=#[] }::ds,by show _::a.defers=_;rw[d1];rfl,?_⟩;unfold dvG at d2 ⊢;have W:Nat.ble nt 510=true:=C4 G;rw[W]at d2 ⊢;rw[K1 _ _ _ _ L8 L8,B2 rfl];have hd:eJ (dv (s.m.n::eJ (s.fr.get 510)))=s.m.n::eJ (s.fr.get 510):=by
    simp[eJ,dv,WW,Function.comp_def]
   simp only[D7,hd]at d2 ⊢;refine⟨by simp[d2.1],fun i id d h1 F=>?_⟩;cases i with
   | zero =>
     simp only[O1,C7]at h1 F;subst h1;subst F;exact⟨_,k1,rfl⟩
   | succ i=>exact d2.2 i id d (by simpa using h1) (by simpa using F)
  have M:VR (upd ρ s.m.n (lc w.heap.size 0 0)) ((P1 x).run s.fr) (a2.eval x):=by
   rw[bM];exact T.mono st1.ext
  obtain⟨k,args,d,c1,c2,H⟩:=sI (r:={ state:=.ready,pending:=none,fn:=b,tmps:=a.tmps,params:=ps,assign:=as,body:=bd,defers:=w.heap.size }) N f1 f2 f3 R h O E I M ⟨rfl,rfl,rfl,rfl,rfl,rfl⟩ (Q:=Q) fun ρ' w' g1 g2=>U ρ' a2 w' g1 (St.trans v st1 g2)
  rw[K]at c1 H;exact⟨_,_,_,d,_,k,args,_,B,c1,fun _ _=>trivial,c2,eG,H⟩
def sP{call:L5}{lp:LpT}{q:List Bool}{x:Code}(f:∀ (s c:S) (e:Ex),(K7 P nt gl call lp q x).run s=some (e,c)->s.m.hi<=c.m.hi/\s.m.lg.le c.m.lg):∀ (n:Nat) (s c:S) (e:Ex),wK (K7 P nt gl call lp q x) n s=some (e,c)->s.m.hi<=c.m.hi/\s.m.lg.le c.m.lg
 | 0,s,c,e,h=>by cases h
 | n+1,s,c,e,h=>by
   unfold wK at h;split at h
   .rename_i s1 h1;have a:=f _ _ _ h1;have b:=sP f n _ _ _ h;exact⟨B6 a.1 b.1,a.2.trans b.2⟩
   .exact f _ _ _ h
def sQ{call:L5}{lp:LpT}{q:List Bool}{x:Code}{L:S->Option (Ex×S)}(f:∀ (s c:S) (e:Ex),(K7 P nt gl call lp q x).run s=some (e,c)->s.m.hi<=c.m.hi/\s.m.lg.le c.m.lg)
  (k:∀ (s c:S) (e:Ex),L s=some (e,c)->s.m.hi<=c.m.hi/\s.m.lg.le c.m.lg):∀ (n:Nat) (s c:S) (e:Ex),wM (K7 P nt gl call lp q x) L n s=some (e,c)->s.m.hi<=c.m.hi/\s.m.lg.le c.m.lg
 | 0,s,c,e,h=>by cases h
 | n+1,s,c,e,h=>by
   unfold wM at h;split at h
   .rename_i r hr;cases h;exact k _ _ _ hr
   .split at h
    .rename_i s1 h1;have a:=f _ _ _ h1;have b:=sQ f k n _ _ _ h;exact⟨B6 a.1 b.1,a.2.trans b.2⟩
    .exact f _ _ _ h
def EA{c:XC}{a b:dF}{s l:S}{e:Ex}(h:EB c a b s=some (e,l)):∃ t lg,brL s.m.lg (c.run s.fr)=some (t,lg)/\(bif t then a.run ⟨s.fr,s.m.wLg lg⟩else b.run ⟨s.fr,s.m.wLg lg⟩)=some (e,l):=by
 obtain⟨fr,⟨H,n,W,hi,lg⟩⟩:=s;unfold EB at h;split at h
 .rename_i k;exact⟨true,lg,by rw[k];rfl,h⟩
 .rename_i k;exact⟨false,lg,by rw[k];rfl,h⟩
 .simp only at h;split at h
  .rename_i lg' f;exact⟨true,lg',f,h⟩
  .rename_i lg' f;exact⟨false,lg',f,h⟩
  .cases h
def P0{call:L5}{lp:LpT}{body:Code}(u:Q4 P base gl call)(v:d8 P base gl call)(l:EJ P base gl nt body lp):∀ (c:Code) (q:List Bool),G4 q body=some c->∀ (s k:S) (e:Ex),(K7 P nt gl call lp q c).run s=some (e,k)->s.m.hi<=k.m.hi/\s.m.lg.le k.m.lg
 | .skip,q,f,s,k,e,h=>by have h:some (Ex.normal,s)=some (e,k):=h;cases h;exact⟨A6 _,.refl _⟩
 | .label _,q,f,s,k,e,h=>by have h:some (Ex.normal,s)=some (e,k):=h;cases h;exact⟨A6 _,.refl _⟩
 | .exit id,q,f,s,k,e,h=>by have h:some (Ex.exit id,s)=some (e,k):=h;cases h;exact⟨A6 _,.refl _⟩
 | .ret,q,f,s,k,e,h=>by have h:some (Ex.ret,s)=some (e,k):=h;cases h;exact⟨A6 _,.refl _⟩
 | .region id ops d,q,f,s,k,e,h=>by
   cases d with
   | false =>
     have h:V3 (P7 P nt gl call ops.toList ops.toList) s=some (e,k):=h;unfold V3 at h;split at h
     .rename_i s1 h1;cases h;exact⟨oC _ _ _ h1,gY u _ _ _ h1⟩
     .cases h
   | true =>
     unfold K7 at h;simp only at h;cases f:zR ops with
     | false=>rw[f]at h;cases h
     | true =>
       rw[f]at h;have go:V3 ⟨c9 P nt gl call ops.toList ops.toList 0 (V8 ops.toList []) [] []⟩ s=some (e,k)->s.m.hi<=k.m.hi/\s.m.lg.le k.m.lg:=fun h=>by
        unfold V3 at h;split at h
        .rename_i s1 h1;cases h;exact(v.2 nt ops f _ _ h1).1
        .cases h
       simp only[D7]at h;cases hr:gU ops.toList with
       | false=>rw[hr]at h;exact go h
       | true =>
         rw[hr]at h;simp only[D7]at h;cases hm:hY P nt gl s.fr s.m.H ops.toList with
         | false=>rw[hm]at h;exact go h
         | true =>
           rw[hm]at h;simp only[D7]at h;unfold V3 at h;split at h
           .rename_i s1 h1;cases h;exact⟨oC _ _ _ h1,gY u _ _ _ h1⟩
           .cases h
 | .seq x y,q,f,s,k,e,h=>by
   have w:=P0 u v l x (q++[false]) (H1 f rfl);have A:=P0 u v l y (q++[true]) (H1 f rfl);have h:SR (K7 P nt gl call lp (q++[false]) x) (K7 P nt gl call lp (q++[true]) y) s=some (e,k):=h;unfold SR at h;split at h
   .rename_i s1 h1;have a:=w _ _ _ h1;have b:=A _ _ _ h;exact⟨B6 a.1 b.1,a.2.trans b.2⟩
   .exact w _ _ _ h
 | .cond c x y,q,f,s,k,e,h=>by
   have w:=P0 u v l x (q++[false]) (H1 f rfl);have A:=P0 u v l y (q++[true]) (H1 f rfl);unfold K7 at h;cases f:okX nt gl c with
   | false=>rw[f]at h;cases h
   | true =>
     rw[f]at h;have h:EB (P1 c) (K7 P nt gl call lp (q++[false]) x) (K7 P nt gl call lp (q++[true]) y) s=some (e,k):=h;obtain⟨t,lg,h1,B⟩:=EA h;have C:=cJ h1;obtain⟨fr,⟨H,n,W,hi,l0⟩⟩:=s;cases t with
     | true=>have a:=w _ _ _ B;exact⟨a.1,C.trans a.2⟩
     | false=>have b:=A _ _ _ B;exact⟨b.1,C.trans b.2⟩
 | .block id x,q,f,s,k,e,h=>by
   have w:=P0 u v l x (q++[false]) (H1 f rfl);have h:tZ id (K7 P nt gl call lp (q++[false]) x) s=some (e,k):=h;unfold tZ at h;split at h
   .rename_i j s1 h1
    have:=w _ _ _ h1;cases f:Nat.beq j id<;>rw[f]at h<;>cases h<;>exact this
   .exact w _ _ _ h
 | .loop x,q,f,s,k,e,h=>by
   have h:DZ (K7 P nt gl call lp (q++[false]) x) (lp.look q) s=some (e,k):=h;unfold DZ at h;split at h
   .rename_i L E;exact sQ (P0 u v l x (q++[false]) (H1 f rfl)) (l.2 q x L f E).lg _ _ _ _ h
   .exact sP (P0 u v l x (q++[false]) (H1 f rfl)) _ _ _ _ h
 | .rangeFunc x _ _ _,q,f,s,k,e,h=>by
   unfold K7 at h;cases D:okX nt gl x with
   | false=>rw[D]at h;cases h
   | true=>rw[D]at h;exact LY u h
 | .scope x,q,f,s,k,e,h=>P0 u v l x (q++[false]) (H1 f rfl) s k e h
 | .goto _,q,f,s,k,e,h=>by cases h
 | .refuse _,q,f,s,k,e,h=>by cases h
def N5{call:L5}{lp:LpT}{body:Code}(C:Q4 P base gl call)(D:d8 P base gl call)(k:EJ P base gl nt body lp):∀ (c:Code) (q:List Bool),G4 q body=some c->∀ (ρ:Ren) (s f:S) (e:Ex) (a:Act) (w:World) (Q:Exit->Act->World->Prop),(K7 P nt gl call lp q c).run s=some (e,f)->Sat f.m.lg->At P base gl ρ s.m f.m.hi w->FrR z ρ nt s.fr a ->
  (∀ ρ' a' w',FrR z ρ' nt f.fr a'->St P base ρ ρ' s.m f.m w w'->Q e.out a' w')->c.wpIn (fw z.rd) 0 P Q a w
 | .skip,q,B,ρ,s,f,e,a,w,Q,h,hS,b,u,v=>by have h:some (Ex.normal,s)=some (e,f):=h;cases h;exact wpIn_skip (v ρ a w u (.refl b.hr))
 | .label _,q,B,ρ,s,f,e,a,w,Q,h,hS,b,u,v=>by have h:some (Ex.normal,s)=some (e,f):=h;cases h;exact wpIn_label (v ρ a w u (.refl b.hr))
 | .exit id,q,B,ρ,s,f,e,a,w,Q,h,hS,b,u,v=>by have h:some (Ex.exit id,s)=some (e,f):=h;cases h;exact wpIn_exit (v ρ a w u (.refl b.hr))
 | .ret,q,B,ρ,s,f,e,a,w,Q,h,hS,b,u,v=>by have h:some (Ex.ret,s)=some (e,f):=h;cases h;exact wpIn_ret (v ρ a w u (.refl b.hr))
 | .region id ops d,q,B,ρ,s,f,e,a,w,Q,h,hS,b,u,v=>by
   cases d with
   | false =>
     have h:V3 (P7 P nt gl call ops.toList ops.toList) s=some (e,f):=h;unfold V3 at h;split at h
     .rename_i s1 h1;cases h;exact Q6 (sN C _ ρ s f a w h1 hS b u v)
     .cases h
   | true =>
     unfold K7 at h;simp only at h;cases B:zR ops with
     | false=>rw[B]at h;cases h
     | true =>
       rw[B]at h;have go:V3 ⟨c9 P nt gl call ops.toList ops.toList 0 (V8 ops.toList []) [] []⟩ s=some (e,f)->(Code.region id ops true).wpIn (fw z.rd) 0 P Q a w:=fun h=>by
        unfold V3 at h;split at h
        .rename_i s1 h1;cases h;exact(D.2 nt ops B _ _ h1).2 z ρ a w id Q hS b u v
        .cases h
       simp only[D7]at h;cases hr:gU ops.toList with
       | false=>rw[hr]at h;exact go h
       | true =>
         rw[hr]at h;simp only[D7]at h;cases hm:hY P nt gl s.fr s.m.H ops.toList with
         | false=>rw[hm]at h;exact go h
         | true =>
           rw[hm]at h;simp only[D7]at h;unfold V3 at h;split at h
           .rename_i s1 h1;cases h;exact FJ D.1 C hr hm h1 hS b u v
           .cases h
 | .seq x y,q,B,ρ,s,f,e,a,w,Q,h,hS,b,u,v=>by
   have A:G4 (q++[false]) body=some x:=H1 B rfl;have G:G4 (q++[true]) body=some y:=H1 B rfl;have h:SR (K7 P nt gl call lp (q++[false]) x) (K7 P nt gl call lp (q++[true]) y) s=some (e,f):=h;unfold SR at h;split at h
   .rename_i s1 h1;have hh:=P0 C D k y _ G _ _ _ h;refine wpIn_seq (N5 C D k x _ A ρ s s1 .normal a w _ h1 (M5.le hS hh.2) (b.less hh.1) u fun l E w1 f1 st1=>?_);exact N5 C D k y _ G l s1 f e E w1 Q h hS (b.step st1) f1 fun ρ2 a2 w2 f2 st2=>v ρ2 a2 w2 f2 (St.trans b.fr st1 st2)
   .rename_i F;refine wpIn_seq (N5 C D k x _ A ρ s f e a w _ h hS b u fun l E w1 f1 st1=>?_)
    have:=v l E w1 f1 st1;cases e with
    | normal=>exact absurd h (F f)
    | exit id=>exact this
    | ret=>exact this
 | .cond c x y,q,B,ρ,s,f,e,a,w,Q,h,hS,b,u,v=>by
   have A:G4 (q++[false]) body=some x:=H1 B rfl;have G:G4 (q++[true]) body=some y:=H1 B rfl;unfold K7 at h;cases J:okX nt gl c with
   | false=>rw[J]at h;cases h
   | true =>
     rw[J]at h;have h:EB (P1 c) (K7 P nt gl call lp (q++[false]) x) (K7 P nt gl call lp (q++[true]) y) s=some (e,f):=h;have Y:=u.ev b.gr J;obtain⟨t,lg,h1,R⟩:=EA h;rw[bM]at h1;have M:St P base ρ ρ s.m (s.m.wLg lg) w w:=St.wLg b.hr lg;cases t with
     | true =>
       have hh:=P0 C D k x _ A _ _ _ R;have U:Sat lg:=M5.le hS (by obtain⟨fr,⟨H,n,W,hi,l0⟩⟩:=s;exact hh.2);exact wpIn_cond_true (iN h1 Y U) (N5 C D k x _ A ρ ⟨s.fr,s.m.wLg lg⟩ f e a w Q R hS (b.wLg lg) u fun ρ2 a2 w2 f2 st2=>v ρ2 a2 w2 f2 (St.trans b.fr M st2))
     | false =>
       have hh:=P0 C D k y _ G _ _ _ R;have U:Sat lg:=M5.le hS (by obtain⟨fr,⟨H,n,W,hi,l0⟩⟩:=s;exact hh.2);exact wpIn_cond_false (iN h1 Y U) (N5 C D k y _ G ρ ⟨s.fr,s.m.wLg lg⟩ f e a w Q R hS (b.wLg lg) u fun ρ2 a2 w2 f2 st2=>v ρ2 a2 w2 f2 (St.trans b.fr M st2))
 | .block id x,q,B,ρ,s,f,e,a,w,Q,h,hS,b,u,v=>by
   have A:G4 (q++[false]) body=some x:=H1 B rfl;have h:tZ id (K7 P nt gl call lp (q++[false]) x) s=some (e,f):=h;unfold tZ at h;split at h
   .rename_i j s1 h1;cases I:Nat.beq j id with
    | true =>
      rw[I]at h;cases h;have T:=A0 I;refine wpIn_block (N5 C D k x _ A ρ s f (.exit j) a w _ h1 hS b u fun l E w1 f1 st1=>?_)
      have:=v l E w1 f1 st1
      simpa [Exit.inBlock,Ex.out,T]using this
    | false =>
      rw[I]at h;cases h;have T:j≠id:=fun e=>by subst e;simp at I
      refine wpIn_block (N5 C D k x _ A ρ s f (.exit j) a w _ h1 hS b u fun l E w1 f1 st1=>?_)
      have:=v l E w1 f1 st1
      simpa [Exit.inBlock,Ex.out,T]using this
   .rename_i F;refine wpIn_block (N5 C D k x _ A ρ s f e a w _ h hS b u fun l E w1 f1 st1=>?_)
    have:=v l E w1 f1 st1;cases e with
    | normal=>exact this
    | exit j=>exact absurd h (F j f)
    | ret=>exact this
 | .loop x,q,B,ρ,s,f,e,a,w,Q,h,hS,b,u,v=>by
   have A:G4 (q++[false]) body=some x:=H1 B rfl;replace h:DZ (K7 P nt gl call lp (q++[false]) x) (lp.look q) s=some (e,f):=h;unfold DZ at h;split at h
   .rename_i L Z;have K:=k.2 q x L B Z;have key:∀ (n:Nat) (s:S),wM (K7 P nt gl call lp (q++[false]) x) L n s=some (e,f)->∃ N,∀ (ρ:Ren) (a:Act) (w:World) (Q:Exit->Act->World->Prop),At P base gl ρ s.m f.m.hi w->FrR z ρ nt s.fr a ->
      (∀ ρ' a' w',FrR z ρ' nt f.fr a'->St P base ρ ρ' s.m f.m w w'->Q e.out a' w')->Code.roundsIn (fw z.rd) 0 P x Q N a w:=by
     intro n;induction n with
     | zero=>intro s h;cases h
     | succ n X =>
       intro s h;unfold wM at h;split at h
       .rename_i r hr;cases h;obtain⟨N,O⟩:=K.ok s f e hr hS;exact⟨N,O z⟩
       .split at h
        .rename_i s1 h1;obtain⟨N,O⟩:=X s1 h;have hh:=sQ (P0 C D k x _ A) K.lg _ _ _ _ h;refine⟨N+1,fun ρ a w Q b u v=>?_⟩;show x.wpIn (fw z.rd) 0 P (Exit.then (Code.roundsIn (fw z.rd) 0 P x Q N) Q) a w;refine N5 C D k x _ A ρ s s1 .normal a w _ h1 (M5.le hS hh.2) (b.less hh.1) u fun l E w1 f1 st1=>?_
         exact O l E w1 Q (b.step st1) f1 fun ρ2 a2 w2 f2 st2=>v ρ2 a2 w2 f2 (St.trans b.fr st1 st2)
        .rename_i F;refine⟨1,fun ρ a w Q b u v=>?_⟩;show x.wpIn (fw z.rd) 0 P (Exit.then (Code.roundsIn (fw z.rd) 0 P x Q 0) Q) a w;refine N5 C D k x _ A ρ s f e a w _ h hS b u fun l E w1 f1 st1=>?_
         have:=v l E w1 f1 st1;cases e with
         | normal=>exact absurd h (F f)
         | exit id=>exact this
         | ret=>exact this
    obtain⟨N,O⟩:=key _ s h;exact wpIn_loop_rounds N (O ρ a w Q b u v)
   obtain⟨n,h0⟩:∃ n,wK (K7 P nt gl call lp (q++[false]) x) n s=some (e,f):=⟨_,h⟩;clear h;have h:=h0;clear h0;refine wpIn_loop_rounds n ?_;induction n generalizing s ρ a w with
   | zero=>cases h
   | succ n X =>
     unfold wK at h;show x.wpIn (fw z.rd) 0 P (Exit.then (Code.roundsIn (fw z.rd) 0 P x Q n) Q) a w;split at h
     .rename_i s1 h1;have hh:=sP (P0 C D k x _ A) _ _ _ _ h;refine N5 C D k x _ A ρ s s1 .normal a w _ h1 (M5.le hS hh.2) (b.less hh.1) u fun l E w1 f1 st1=>?_
      exact X l s1 E w1 (b.step st1) f1 (fun ρ2 a2 w2 f2 st2=>v ρ2 a2 w2 f2 (St.trans b.fr st1 st2)) h
     .rename_i F;refine N5 C D k x _ A ρ s f e a w _ h hS b u fun l E w1 f1 st1=>?_
      have:=v l E w1 f1 st1;cases e with
      | normal=>exact absurd h (F f)
      | exit id=>exact this
      | ret=>exact this
 | .rangeFunc x ps as bd,q,B,ρ,s,f,e,a,w,Q,h,hS,b,u,v=>by
   unfold K7 at h;cases V:okX nt gl x with
   | false=>rw[V]at h;cases h
   | true =>
     rw[V]at h;obtain⟨fn,f1,f2,f3⟩:=k.1;exact OL C f1 f2 f3 B V h hS b u v
 | .scope x,q,B,ρ,s,f,e,a,w,Q,h,hS,b,u,v=>EM (N5 C D k x _ (H1 B rfl) ρ s f e a w _ h hS b u fun l E w1 f1 st1=>by cases e<;>exact v l E w1 f1 st1)
 | .goto _,q,B,ρ,s,f,e,a,w,Q,h,hS,b,u,v=>by cases h
 | .refuse _,q,B,ρ,s,f,e,a,w,Q,h,hS,b,u,v=>by cases h
end
end
section
open Go
variable [Ora]
def oJ{c:Hp AB}:∀ (l:List Nat) (H:Hp AB),(∀ b ∈ l,b<=G2)->∀ id,id<=G2->Hp.get (cC c H l) id=if id ∈ l then Hp.get c id else Hp.get H id
 | [],H,_,id,_=>by simp[cC]
 | b::r,H,hl,id,hid=>by
   have e:=hl b B4;rw[cC,bW,oJ r _ (fun x f=>hl x (C5 _ f)) id hid,E7 _ _ _ _ e hid];by_cases h1:id ∈ r
   .rw[B2 h1,B2 (C5 _ h1)]
   .rw[B1 h1];by_cases a:id=b
    .subst a;rw[B2 rfl,B2 B4]
    .rw[B1 a,B1 (by simp[h1,a])]
theorem S3{l:F9}{b:Nat}:m6 l b=true↔b ∈ l:=by
 unfold m6;rw[N2];constructor
 .rintro⟨x,a,h⟩;rw[A0 h];exact a
 .intro h;exact⟨b,h,by simp⟩
def oF:∀ (l acc:List Nat) (b:Nat),b ∈ kF l acc↔b ∈ l∨b ∈ acc
 | [],acc,b=>by simp[kF]
 | x::r,acc,b=>by
   unfold kF;cases h:m6 acc x with
   | true =>
     have a:=S3.1 h;simp only[D7];rw[oF r acc b];constructor
     .rintro(h|h)
      .exact .inl (C5 _ h)
      .exact .inr h
     .rintro(h|h)
      .rcases A8.1 h with rfl|h
       .exact .inr a
       .exact .inl h
      .exact .inr h
   | false =>
     simp only[D3];rw[oF r (x::acc) b];simp only[A8];constructor
     .rintro(h|h|h)
      .exact .inl (.inr h)
      .exact .inl (.inl h)
      .exact .inr h
     .rintro((h|h)|h)
      .exact .inr (.inl h)
      .exact .inl h
      .exact .inr (.inr h)
def pB{l:F9}(h:AC l=true):∀ b ∈ l,b<=G2:=fun b a=>A1 (D2.1 h b a)
section
variable {P:Program} {base gl nt:Nat}
def zC{ρ u:Ren}{n:Nat}(f:∀ b l,b<n->u b=some l->ρ b=some l){v v':Value}(h:VR u v v'):∀ (d:Nat),Y4 n d v=true->VR ρ v v':=by
 have A:∀ (low:Value->Bool) (a:List Value),jY low a=true->∀ (i:Nat) (v:Value),a[i]? = some v->low v=true:=fun low a=>by
  induction a with
  | nil=>intro _ i v h;simp at h
  | cons x r t =>
    intro h i v hi;obtain⟨h1,m⟩:=B3 (show(low x && jY low r)=true from h);cases i with
    | zero=>simp at hi;subst hi;exact h1
    | succ i=>exact t m i v (by simpa using hi)
 induction h with
 | pure h=>intro d _;exact .pure h
 | hole h K=>intro d _;exact .hole h K
 | junk h=>intro d _;exact .junk h
 | ixp h E hi I F =>
   intro d e;cases d with
   | zero=>cases e
   | succ d =>
     obtain⟨g1,_⟩:=B3 e;obtain⟨g1,_⟩:=B3 (show(Y4 n d _ && _)=true from g1);cases d with
     | zero=>cases g1
     | succ d=>exact .ixp (f _ _ (A1 g1) h) E hi I F
 | dat h h1 m h3 B =>
   intro d e;cases d with
   | zero=>cases e
   | succ d =>
     obtain⟨g1,_⟩:=B3 e;obtain⟨g1,_⟩:=B3 (show(Y4 n d _ && _)=true from g1);cases d with
     | zero=>cases g1
     | succ d=>exact .dat (f _ _ (A1 g1) h) h1 m h3 B
 | clp h h1 m h3 B L =>
   intro d e;cases d with
   | zero=>cases e
   | succ d =>
     obtain⟨g1,_⟩:=B3 e;obtain⟨g1,_⟩:=B3 (show(Y4 n d _ && _)=true from g1);cases d with
     | zero=>cases g1
     | succ d=>exact .clp (f _ _ (A1 g1) h) h1 m h3 B L
 | own h h1 m =>
   intro d e;cases d with
   | zero=>cases e
   | succ d =>
     obtain⟨g1,_⟩:=B3 e;obtain⟨g1,_⟩:=B3 (show(Y4 n d _ && _)=true from g1);cases d with
     | zero=>cases g1
     | succ d=>exact .own (h.imp (fun⟨l,w,a,b⟩=>⟨l,w,f _ _ (A1 g1) a,b⟩) fun⟨l,w,rows,a,b⟩=>⟨l,w,rows,f _ _ (A1 g1) a,b⟩) h1 m
 | dpt h h1 m =>
   intro d e;cases d with
   | zero=>cases e
   | succ d =>
     obtain⟨g1,_⟩:=B3 e;obtain⟨g1,_⟩:=B3 (show(Y4 n d _ && _)=true from g1);cases d with
     | zero=>cases g1
     | succ d=>exact .dpt (let ⟨l,w,rows,a,s,c,k,h0,r⟩:=h;⟨l,w,rows,a,s,c,k,f _ _ (A1 g1) h0,r⟩) h1 m
 | opt h h1 m =>
   intro d e;cases d with
   | zero=>cases e
   | succ d =>
     obtain⟨g1,_⟩:=B3 e;obtain⟨g1,_⟩:=B3 (show(Y4 n d _ && _)=true from g1);cases d with
     | zero=>cases g1
     | succ d=>exact .opt (let ⟨l,w,rows,k,h0,r⟩:=h;⟨l,w,rows,k,f _ _ (A1 g1) h0,r⟩) h1 m
 | ptr h=>intro d e;cases d with|zero=>cases e|succ d=>exact .ptr (f _ _ (A1 e) h)
 | sl h hm=>intro d e;cases d with|zero=>cases e|succ d=>exact .sl (f _ _ (A1 e) h) hm
 | op h hm G J=>intro d e;cases d with|zero=>cases e|succ d=>exact .op (f _ _ (A1 e) h) hm G J
 | opE E=>intro d _;exact .opE E
 | map h=>intro d e;cases d with|zero=>cases e|succ d=>exact .map (f _ _ (A1 e) h)
 | sdt h =>
   intro d e;cases d with
   | zero=>cases e
   | succ d =>
     obtain⟨g1,_⟩:=B3 e;obtain⟨g1,_⟩:=B3 (show(Y4 n d _ && _)=true from g1);cases d with
     | zero=>cases g1
     | succ d=>exact .sdt (let ⟨l,a,b⟩:=h;⟨l,f _ _ (A1 g1) a,b⟩)
 | yv h =>
   intro d e;cases d with
   | zero=>cases e
   | succ d =>
     obtain⟨g1,_⟩:=B3 e;obtain⟨g1,_⟩:=B3 (show(Y4 n d _ && _)=true from g1);cases d with
     | zero=>cases g1
     | succ d=>exact .yv (f _ _ (A1 g1) h)
 | func y H h1 m C D =>
   intro d e;cases d with
   | zero=>cases e
   | succ d =>
     obtain⟨g1,g2⟩:=B3 e;exact .func y H (fun i v v' a b=>C i v v' a b d (A _ _ g1 i v a)) (fun i v v' a b=>D i v v' a b d (A _ _ g2 i v a))
 | iface h t=>intro d e;cases d with|zero=>cases e|succ d=>exact .iface (t d e)
 | agg y h t=>intro d e;cases d with|zero=>cases e|succ d=>exact .agg y (fun i v v' a b=>t i v v' a b d (A _ _ e i v a))
 | tuple y h t=>intro d e;cases d with|zero=>cases e|succ d=>exact .tuple y (fun i v v' a b=>t i v v' a b d (A _ _ e i v a))
def A0F{ρ u:Ren}{n:Nat}(A:∀ b l,b<n->u b=some l->ρ b=some l){ab:AB}{l:Loc}{w:World}(h:BR P u ab l w)(e:US n (some ab)=true):BR P ρ ab l w:=by
 cases ab with
 | cells cs T ro =>
   obtain⟨h0,C,fz,E,h1,k,h3⟩:=h;refine⟨h0,C,fz,E,h1,fun i v hi=>?_,h3⟩;obtain⟨v',g1,g2⟩:=k i v hi;have m:Y4 n 10 v=true:=by
    have a:jY (Y4 n 10) cs=true:=e;clear k g1 g2 e;induction cs generalizing i with
    | nil=>simp at hi
    | cons x r y =>
      obtain⟨q1,q2⟩:=B3 (show(Y4 n 10 x && jY (Y4 n 10) r)=true from a);cases i with
      | zero=>simp at hi;subst hi;exact q1
      | succ i=>exact y i (by simpa using hi) q2
   exact⟨v',g1,zC A g2 10 m⟩
 | mp c t T=>exact h
 | iter vs =>
   obtain⟨h0,h⟩:=h;rcases h with⟨s,G,h1,k⟩|h
   rotate_left
   .exact⟨h0,.inr h⟩
   refine⟨h0,.inl ⟨s,G,h1,k.1,fun i v v' g1 g2=>?_⟩⟩;have m:Y4 n 10 v=true:=by
    have a:jY (Y4 n 10) vs=true:=e;clear k g2 e;induction vs generalizing i with
    | nil=>simp at g1
    | cons x r y =>
      obtain⟨q1,q2⟩:=B3 (show(Y4 n 10 x && jY (Y4 n 10) r)=true from a);cases i with
      | zero=>simp at g1;subst g1;exact q1
      | succ i=>exact y i (by simpa using g1) q2
   exact zC A (k.2 i v v' g1 g2) 10 m
 | lp f q vs st =>
   obtain⟨h0,r,h1,k⟩:=h;refine⟨h0,r,h1,k.code,⟨k.fr.1,fun i v v' g1 g2=>?_⟩,k.st⟩;have m:Y4 n 10 v=true:=by
    have a:jY (Y4 n 10) vs=true:=e;clear k g2 e;induction vs generalizing i with
    | nil=>simp at g1
    | cons x r y =>
      obtain⟨q1,q2⟩:=B3 (show(Y4 n 10 x && jY (Y4 n 10) r)=true from a);cases i with
      | zero=>simp at g1;subst g1;exact q1
      | succ i=>exact y i (by simpa using g1) q2
   exact zC A (k.fr.2 i v v' g1 g2) 10 m
 | dfr b=>exact h
 | sq c t T g ro =>
   obtain⟨wd,inf,h1,k,h3,D⟩:=SqR.ex h;refine⟨⟨wd,inf,h1,k,h3,D.imp (fun x=>x) fun⟨B,F⟩=>⟨B,?_⟩⟩⟩;obtain⟨C,fz,E,rows,lg,h1,k,h3,D,F,K,J,H,I⟩:=F;exact⟨C,fz,E,rows,lg,h1,k,h3,D,F,K,A _ _ (A1 e) J,H,I⟩
 | frz=>exact h
def CM{n:Nat}{H:Hp AB}:∀ {l:F9},FV n H l=true->∀ b ∈ l,US n (Hp.get H b)=true
 | [],_,b,h=>by cases h
 | x::r,h,b,a=>by
   obtain⟨h1,c⟩:=B3 (show(US n (Hp.get H x) && FV n H r)=true from h);rcases A8.1 a with rfl|a
   .exact h1
   .exact CM c b a
def A1f{ρ F:Ren}{m m1 m':Mem}{w w1:World}{v v':Value}(C:gcM m m1 v=some m')(st:St P base ρ F ⟨m.H,m.n,[],m.hi,m.lg⟩ m1 w w1)(A:At P base gl ρ m m'.hi w)(hv:VR F v v') :
  m'.hi=m1.hi/\∃ ρ2,VR ρ2 v v'/\St P base ρ ρ2 m m' w w1:=by
 have ax:m1.n<=m1.hi:=st.nhi A.nh;have hle:m.hi<=m1.hi:=st.hle;have e:∀ b,b ∈ kF (m1.W.filter fun b=>Nat.blt b m.n || Nat.ble m1.hi b) []↔b ∈ m1.W/\(b<m.n∨m1.hi<=b):=fun b=>by
  rw[oF];simp only[O7,C3,or_false,F8];constructor
  .rintro⟨h1,f⟩;exact⟨h1,f.imp (fun h=>A1 h) (fun h=>A1 h)⟩
  .rintro⟨h1,f⟩;exact⟨h1,f.imp (fun h=>C4 h) (fun h=>C4 h)⟩
 unfold gcM at C;generalize hW:kF (m1.W.filter fun b=>Nat.blt b m.n || Nat.ble m1.hi b) []=W at C e;simp only[E1,G6,bL]at C;have hold:m1.hi=m'.hi->∀ b l,ρ b=some l->b<m.n∨m1.hi<=b:=fun he b l y=>by
  rcases F2 b m.n with h1|h1
  .exact .inl h1
  .rcases F2 b m1.hi with f|f
   .rw[A.fr b h1 (he▸f)]at y;cases y
   .exact .inr f
 have J:m1.hi=m'.hi->∀ id,id<=G2->id ∉ W->∀ ab,Hp.get m.H id=some ab->id ∉ m1.W/\Hp.get m1.H id=some ab:=fun he id hid aw ab c=>by
  obtain⟨l,h1,_,_⟩:=A.hr.at_ id hid ab c;have E:=hold he id l h1;have f:id ∉ m1.W:=fun h=>aw ((e id).2 ⟨h,E⟩)
  exact⟨f,by rw[st.same id hid f E];exact c⟩
 have G:∀ b ∈ W,∀ l,ρ b=some l->∃ ab,Hp.get m.H b=some ab/\ab.rw=true:=fun b y l u=>st.wrw b ((e b).1 y).1 (by simp) l u
 cases K:Y4 m.n 10 v && FV m.n m1.H W with
 | true =>
   rw[K]at C;simp only[D7]at C;obtain⟨t,C⟩:=A2 C;cases C;obtain⟨q1,q2⟩:=B3 K;have t:=pB t;have E:∀ b l,b<m.n->F b=some l->ρ b=some l:=fun b l y u=>by
    cases h0:ρ b with
    | some l0=>rw[st.ext b l0 h0]at u;exact u
    | none=>have h:=(st.new b l u h0).1;exact absurd y (Nat.not_lt.2 h)
   have s:∀ id,id<=G2->Hp.get (cC m1.H m.H W) id=if id ∈ W then Hp.get m1.H id else Hp.get m.H id:=fun id hid=>oJ W _ t id hid
   have D:∀ id,id<=G2->∀ ab,Hp.get (cC m1.H m.H W) id=some ab->Hp.get m1.H id=some ab:=fun id hid ab c=>by
    rw[s id hid]at c;by_cases h:id ∈ W
    .rw[B2 h]at c;exact c
    .rw[B1 h]at c;exact(J rfl id hid h ab c).2
   have ay:=st.hr.sub D;have X:∀ id,id<=G2->∀ ab,Hp.get (cC m1.H m.H W) id=some ab->∀ l,F id=some l->ρ id=some l:=fun id hid ab c l u=>by
    cases h0:ρ id with
    | some l0=>rw[st.ext id l0 h0]at u;exact u
    | none =>
      exfalso;have hn:=st.new id l u h0;rw[s id hid]at c;by_cases h:id ∈ W
      .have:=((e id).1 h).2;have h1:m.n<=id:=hn.1;have f:=hn.2;omega
      .rw[B1 h]at c;obtain⟨l0,h1,_⟩:=A.hr.at_ id hid ab c;rw[h1]at h0;cases h0
   refine⟨rfl,ρ,zC E hv 10 q1,⟨fun _ _ h=>h,fun b k h1 f=>(by rw[h1]at f;cases f),A6 _,hle,fun h=>B6 h hle,⟨A.hr.dom,fun id hid ab c=>?_⟩,fun b y=>B7.2 (.inr y),fun b h1 f l u=>?_,fun k hk y=>?_,st.size,st.os,fun b k h1 f=>(by rw[h1]at f;cases f),fun id hid h1 f=>?_,fun k ⟨id,a,q,hid,B,K,O⟩=>?_⟩⟩
   .obtain⟨l,g1,g2,g3⟩:=ay.at_ id hid ab c;have u:=X id hid ab c l g1;refine⟨l,u,?_,fun N Q=>⟨(g3 N Q).1,fun V T Z l2 f1 f2 f3=>(g3 N Q).2 V T Z l2 f1 (st.ext _ _ f2) f3⟩⟩;have av:=c;rw[s id hid]at c;by_cases h:id ∈ W
    .rw[B2 h]at c
     have:=CM q2 id h;rw[c]at this;exact A0F E g2 this
    .rw[B1 h]at c;obtain⟨l0,R,e2,e3⟩:=A.hr.at_ id hid ab c;rw[u]at R
     have:=A5 R;subst this;refine e2.mono (fun _ _ h=>h) (fun k hk=>st.keep k (e2.tc hk) fun b y lb M Y heq=>?_);have U:b ∈ W:=(e b).2 ⟨y,hold rfl b lb M⟩;obtain⟨au,c1,c2⟩:=G b U lb M
     have:=((A.hr.atl M c1).2 c2 Y).2 id hid ab l c u (heq▸hk);subst this;exact h U
   .rcases B7.1 h1 with h|h
    .exact G b h l u
    .exact absurd h f
   .exact st.keep k hk fun b L l u E=>y b (B7.2 (.inl ((e b).2 ⟨L,hold rfl b l u⟩))) l u E
   .show Hp.get (cC m1.H m.H W) id=_;rw[s id hid,B1 (fun h=>h1 (B7.2 (.inl h)))]
   .have B:Hp.get (cC m1.H m.H W) id=some a:=B;rw[s id hid]at B;by_cases h:id ∈ W
    .rw[B2 h]at B;exact st.tch k ⟨id,a,q,hid,B,st.ext _ _ K,O⟩
    .rw[B1 h]at B;exact .inr ⟨id,a,q,hid,B,K,O⟩
 | false =>
   rw[K]at C;simp only[D3]at C;generalize hI:(BK m.n m1.H 100000 (uX 10 v++wOf m1.H W) []).filter (fun b=>Nat.ble m.n b && Nat.blt b m1.hi)=I at C;have az:∀ b ∈ I,m.n<=b/\b<m1.hi:=fun b y=>by
    subst hI;obtain⟨_,h⟩:=O7.1 y;obtain⟨h1,f⟩:=B3 h;exact⟨A1 h1,A1 f⟩
   obtain⟨t,C⟩:=A2 C;cases C;have t:=pB t;have s:∀ id,id<=G2->Hp.get (cC m1.H m.H (W++I)) id=if id ∈ W++I then Hp.get m1.H id else Hp.get m.H id:=fun id hid=>oJ _ _ t id hid
   have D:∀ id,id<=G2->∀ ab,Hp.get (cC m1.H m.H (W++I)) id=some ab->Hp.get m1.H id=some ab:=fun id hid ab c=>by
    rw[s id hid]at c;by_cases h:id ∈ W++I
    .rw[B2 h]at c;exact c
    .rw[B1 h]at c;exact(J rfl id hid (fun hh=>h (B7.2 (.inl hh))) ab c).2
   refine⟨rfl,F,hv,⟨st.ext,st.new,st.nle,hle,fun _=>ax,st.hr.sub D,fun b y=>B7.2 (.inr y),fun b h1 f l u=>?_,fun k hk y=>?_,st.size,st.os,fun b l h1 f E=>?_,fun id hid h1 f=>?_,fun k ⟨id,a,q,hid,B,K,O⟩=>?_⟩⟩
   .rcases B7.1 h1 with h|h
    .exact G b h l u
    .exact absurd h f
   .exact st.keep k hk fun b L l u E=>y b (B7.2 (.inl ((e b).2 ⟨L,hold rfl b l u⟩))) l u E
   .rcases st.blk b l h1 f E with h|⟨b0,h3,l0,h4,h5⟩
    .exact .inl h
    .exact .inr ⟨b0,B7.2 (.inl ((e b0).2 ⟨h3,hold rfl b0 l0 h4⟩)),l0,h4,h5⟩
   .show Hp.get (cC m1.H m.H (W++I)) id=_;rw[s id hid,B1];intro h;rcases B7.1 h with h|h
    .exact h1 (B7.2 (.inl h))
    .have:=az id h;have f:id<m.n∨m1.hi<=id:=f;omega
   .have B:Hp.get (cC m1.H m.H (W++I)) id=some a:=B;rw[s id hid]at B;by_cases h:id ∈ W++I
    .rw[B2 h]at B;exact st.tch k ⟨id,a,q,hid,B,K,O⟩
    .rw[B1 h]at B;obtain⟨l0,R,_⟩:=A.hr.at_ id hid a B;rw[st.ext _ _ R]at K
     have:=A5 K;subst this;exact .inr ⟨id,a,l0,hid,B,R,O⟩
def eM:∀ (vs:List Value) (fr:Fr) (i t:Nat),i+vs.length<=512->t<512->(cL fr i vs).get t=if i<=t/\t<i+vs.length then vs.getD (t-i) undef else fr.get t
 | [],fr,i,t,_,_=>by simp[cL];intro h1 a;omega
 | v::r,fr,i,t,h,ht=>by
   simp only[I7]at h ⊢;rw[cL,rZ,eM r _ (i+1) t A9 ht,K1 _ _ _ _ A9 ht];by_cases h1:i+1<=t/\t<i+1+r.length
   .rw[B2 h1,B2 A9,show t-i=(t-(i+1))+1 by omega];rfl
   .rw[B1 h1];by_cases a:t=i
    .subst a;rw[B2 rfl,B2 A9,Nat.sub_self];rfl
    .rw[B1 a,B1 A9]
def KZ(tmps:Array Value):ResultVar->Sem Value
 | .tmp t=>pure (tmps.getD t undef)
 | .cell a t=>do loadVar t (<- asAddr (tmps.getD a undef))
variable {z:Zn}
def HP{ρ:Ren}{s:S}{a:Act}{w:World}(h:HR P base ρ s.m.H w)(n:FrR z ρ nt s.fr a):∀ (rs:List ResultVar) (vs:List Value),LB P nt s rs=some vs->∃ b,LR ρ vs b /\
  (rs.mapM (KZ a.tmps)).run P w=.ok b w
 | [],vs,hr=>by
   simp only[LB,C7]at hr;subst hr;exact⟨[],.nil,rfl⟩
 | r::rs,vs,hr=>by
   unfold LB at hr;split at hr
   .rename_i v y h1 C;cases hr;obtain⟨b,g1,g2⟩:=HP h n rs y C;have f:∃ v',VR ρ v v'/\(KZ a.tmps r).run P w=.ok v' w:=by
     unfold A0_ at h1;split at h1
     .rename_i t;obtain⟨q1,q2⟩:=A2 h1;cases q2;exact⟨_,n.get t (A1 q1),rfl⟩
     .rename_i c t;obtain⟨q1,q2⟩:=A2 h1;have B:=n.get c (A1 q1);split at q2
      .rename_i E A;rw[A]at B;obtain⟨l,D,_,e⟩:=L1 B;obtain⟨v',k,u⟩:=CO h q2 D;exact⟨v',u,by simp[KZ,e,asAddr,k]⟩
      .cases q2
    obtain⟨v',k,u⟩:=f;refine⟨v'::b,.cons k g1,?_⟩;simp only[List.mapM_cons,A3,u,g2,Result.andThen,Sem.run_pure]
   .cases hr
def UB{ρ:Ren}{fn:Func}{s:S}{a:Act}{w:World}{v:Value}(h:HR P base ρ s.m.H w)(n:FrR z ρ fn.ntmps s.fr a)(hr:LA fn P s=some v):∃ v',VR ρ v v'/\(results fn a.tmps).run P w=.ok v' w:=by
 unfold LA at hr;have key:∀ vs,LB P fn.ntmps s fn.results.toList=some vs->∃ b,LR ρ vs b/\(results fn a.tmps).run P w=.ok (if h:b.toArray.size=1 then b.toArray[0]else .tuple b.toArray) w:=fun vs e=>by
  obtain⟨b,g1,g2⟩:=HP h n _ vs e;refine⟨b,g1,?_⟩;have he:results fn a.tmps=(do let vs <- fn.results.mapM (KZ a.tmps);pure (if h:vs.size=1 then vs[0]else .tuple vs)):=by
   unfold results;rfl
  have hm:(fn.results.mapM (KZ a.tmps)).run P w=.ok b.toArray w:=by
   rw[cT];show(Sem.bind (fn.results.toList.mapM (KZ a.tmps)) fun l=>Sem.pure l.toArray).run P w=_;have t:∀ (x:Sem D0) (k:D0->Sem Q0),(Sem.bind x k).run P w=(x >>= k).run P w:=fun _ _=>rfl
   rw[t,A3,g2];rfl
  rw[he,A3,hm];rfl
 split at hr
 .rename_i u f;cases hr;obtain⟨b,g1,g2⟩:=key _ f;obtain⟨v',A,rfl,g3,g4⟩:=g1.tail;cases g4.nil_inv;exact⟨v',g3,g2⟩
 .rename_i vs c f;cases hr;obtain⟨b,g1,g2⟩:=key _ f;refine⟨.tuple ⟨b⟩,.tuple g1.1 g1.2,?_⟩;rw[g2,dif_neg];intro h1;have h1:b.length=1:=by simpa using h1
  have y:vs.length=1:=by rw[g1.1];exact h1
  obtain⟨x,rfl⟩:=List.length_eq_one_iff.1 y;exact c x rfl
 .cases hr
def AH(P:Program):Prop:=∀ (f:Nat) (fn:Func),P.funcs[f]? = some fn->(fn.name == "runtime.NumGoroutine")=false
def QG{m m1 m':Mem}{v:Value}(a:gcM m m1 v=some m'):m'.lg=m1.lg:=by
 unfold gcM at a;simp only[E1,G6,bL]at a;cases c:Y4 m.n 10 v && FV m.n m1.H (kF (m1.W.filter fun b=>Nat.blt b m.n || Nat.ble m1.hi b) [])with
 | true=>rw[c]at a;obtain⟨_,q⟩:=A2 a;cases q;rfl
 | false=>rw[c]at a;obtain⟨_,q⟩:=A2 a;cases q;rfl
def rS:∀ {l:F9} {m m':Mem},lV l m=some m'->m'.hi=m.hi/\m'.n=m.n/\m'.lg=m.lg
 | [],m,m',h=>by cases h;exact⟨rfl,rfl,rfl⟩
 | b::r,m,m',h=>by
   unfold lV at h;split at h
   .split at h
    .rename_i m1 hm;obtain⟨_,e⟩:=R2 hm;obtain⟨h1,a,h3⟩:=rS h;subst e;exact⟨h1,a,h3⟩
    .cases h
   .cases h
def IZ{fn:Func}{m m':Mem}{v:Value}(h:A0Z fn P m r=some (v,m')):∃ e s m1,r=some (e,s)/\(e=.normal∨e=.ret)/\lV (dvG fn.ntmps s.fr) s.m=some m1/\LA fn P ⟨s.fr,m1⟩=some v/\gcM m m1 v=some m':=by
 have key:∀ (fr:Fr) (m0:Mem),(match lV (dvG fn.ntmps fr) m0 with
  | some m1=>match LA fn P ⟨fr,m1⟩with
    | some v=>match gcM m m1 v with
      | some m=>some (v,m)
      | none=>none
    | none=>none
  | none=>none)=some (v,m')->∃ m1,lV (dvG fn.ntmps fr) m0=some m1/\LA fn P ⟨fr,m1⟩=some v/\gcM m m1 v=some m':=fun fr m0 h=>by
  split at h
  .rename_i m1 h1;split at h
   .rename_i u f;split at h
    .rename_i m2 h3;cases h;exact⟨m1,h1,f,h3⟩
    .cases h
   .cases h
  .cases h
 unfold A0Z at h;split at h
 .rename_i fr m1;obtain⟨m2,a,b,c⟩:=key _ _ h;exact⟨_,_,m2,rfl,.inl rfl,a,b,c⟩
 .rename_i fr m1;obtain⟨m2,a,b,c⟩:=key _ _ h;exact⟨_,_,m2,rfl,.inr rfl,a,b,c⟩
 .cases h
structure cN (P:Program) (base gl nt:Nat) (c:Code) (L:S->Option (Ex×S)):Prop where
 lg:∀ (s s':S) (e:Ex),L s=some (e,s')->s.m.hi<=s'.m.hi/\s.m.lg.le s'.m.lg
 ok:∀ (s s':S) (e:Ex),L s=some (e,s')->Sat s'.m.lg->∀ (z:Zn) (ρ:Ren) (a:Act) (w:World) (Q:Exit->Act->World->Prop),At P base gl ρ s.m s'.m.hi w->FrR z ρ nt s.fr a ->
  (∀ a' w',Q Ex.ret.out a' w'->Q Ex.normal.out a' w')->(∀ ρ' a' w',FrR z ρ' nt s'.fr a'->St P base ρ ρ' s.m s'.m w w'->Q e.out a' w')->c.wpIn (fw z.rd) 0 P Q a w
def cN.or{nt:Nat}{c:Code}{a b:S->Option (Ex×S)}(k:cN P base gl nt c a)(f:cN P base gl nt c b):cN P base gl nt c (orL a b):=by
 refine⟨fun s m e h=>?_,fun s m e h l=>?_⟩
 .unfold orL at h;split at h
  .rename_i r hr;cases h;exact k.lg _ _ _ hr
  .exact f.lg _ _ _ h
 .unfold orL at h;split at h
  .rename_i r hr;cases h;exact k.ok _ _ _ hr l
  .exact f.ok _ _ _ h l
def cN.code{nt:Nat}{c:Code}{call:L5}(l:Q4 P base gl call)(k:d8 P base gl call){lp:LpT}(b:EJ P base gl nt c lp):cN P base gl nt c (K7 P nt gl call lp [] c).run :=
 ⟨fun _ _ _ h=>P0 l k b c [] rfl _ _ _ h,fun s m e h u z ρ a w Q f n _ t=>N5 (z:=z) l k b c [] rfl ρ s m e a w Q h u f n t⟩
def WB{fn:Func}{c:Code}{L:dF}(k:cN P base gl fn.ntmps c L.run){vs:D0}{m m':Mem}{v:Value}
  (hr:qD fn P L vs m=some (v,m')):m.lg.le m'.lg:=by
 unfold qD at hr;obtain⟨_,hr⟩:=A2 hr;obtain⟨e,s,m1,h1,_,l,h3,b⟩:=IZ hr;have a:EY L (cL fr0 0 vs) m=L.run ⟨cL fr0 0 vs,⟨m.H,m.n,[],m.hi,m.lg⟩⟩:=rfl;rw[a]at h1;have f:=(k.lg _ _ _ h1).2;rw[QG b,(rS l).2.2];exact f
def wO{fn:Func}{tmps:Q0}{R:Ending->World->Prop}{ρ:Ren}{hi:Nat}:∀ (ids:List Nat) (ds:List Deferred) (m md:Mem) (w:World),lV ids m=some md->DfR ρ ids ds->HR P base ρ m.H w->I2 ρ m.n md.hi ->
  (∀ w',St P base ρ ρ m md w w'->∃ v,(results fn tmps).run P w'=.ok v w'/\R (.returned v) w')->LeavesInM (fw none) 0 P fn tmps R ds .returning w
 | [],ds,m,md,w,h,hd,hr,hf,hR=>by
   cases h;have:ds=[]:=D9.1 hd.1.symm;subst this;exact hR w (.refl hr)
 | b::r,[],m,md,w,h,hd,hr,hf,hR=>by have:=hd.1;simp at this
 | b::r,d::ds,m,md,w,h,hd,hr,hf,hR=>by
   unfold lV at h;split at h
   .rename_i f;split at h
    .rename_i m1 hm;obtain⟨l,k,c⟩:=hd.2 0 b d rfl rfl;obtain⟨⟨⟨s,B⟩,x,e,A⟩,_⟩:=hr.atl k f
     have:=A rfl;subst this;obtain⟨p1,t,C⟩:=eU (o:=.deferred none) (B5.1 e).1;have st1:St P base ρ ρ m m1 w (w.putObj l.blk (.deferred none)):=St.write hr hm f rfl k s ⟨rfl,rfl,rfl⟩ p1 C ⟨⟨s,B⟩,_,t,fun h=>by cases h⟩;obtain⟨D,u⟩:=R2 hm;have y:m1.n=m.n:=by rw[u]
     refine⟨(by intro h;cases h),.inl ⟨l.blk,_,by rw[c];rfl,run_takeDeferred e,?_⟩⟩;exact wO (hi:=hi) r ds m1 md _ h ⟨by have:=hd.1;simpa using this,fun i id d a b=>hd.2 (i+1) id d (by simpa using a) (by simpa using b)⟩ st1.hr (by rw[y];exact hf) fun w' st2=>hR w' (St.trans hf st1 st2)
    .cases h
   .cases h
def uC{f:FuncId}{fn:Func}{c:Code}{L:dF}(Y:P.funcs[f]? = some fn)(B:fn.body=some c)(T:(fn.name == "runtime.NumGoroutine")=false)(hL:cN P base gl fn.ntmps c L.run) :
  gK P base gl f ⟨qD fn P L⟩:=by
 refine⟨fun vs m m' v hr=>WB hL hr,?_⟩;intro ρ m m' w vs k v hr hS l hl;have hr:qD fn P L vs m=some (v,m'):=hr;unfold qD at hr;obtain⟨h1,hr⟩:=A2 hr;obtain⟨h1,U⟩:=B3 h1;have h1:=A1 h1;have U:=A1 U;left;constructor
 .have Z:fn.name ≠ "runtime.NumGoroutine":=by simpa using T
  simp[callFunc,Y,Z,B]
 .obtain⟨e,s,m1,A,he,J,I,a⟩:=IZ hr;have M:EY L (cL fr0 0 vs) m=L.run ⟨cL fr0 0 vs,⟨m.H,m.n,[],m.hi,m.lg⟩⟩:=rfl;rw[M]at A;have E:∀ t,vs.length<=t->t<512->(cL fr0 0 vs).get t=undef:=fun t k1 k2=>by
   rw[eM _ _ _ _ A9 k2,B1 A9,zJ]
  have N:FrR ⟨none,[]⟩ ρ fn.ntmps (cL fr0 0 vs) { tmps:=⟨k⟩++Array.replicate (fn.ntmps-(Array.mk k).size) undef,defers:=[] }:=by
   have hlen:=hl.1;refine⟨by simp;omega,U,⟨[],rfl,?_⟩,fun Z=>⟨fun _=>rfl,fun b B=>?_⟩,fun t ht=>?_⟩
   .unfold dvG;cases K:Nat.ble fn.ntmps 510 with
    | true =>
      have:=A1 K;rw[E 510 A9 L8];exact .nil
    | false=>exact .nil
   .rw[E 511 A9 L8]at B;cases B
   .rw[eM _ _ _ _ A9 A9];by_cases D:t<vs.length
    .rw[B2 A9];have u:t<k.length:=A9
     have:=hl.2 t vs[t] k[t] (A4 D) (A4 u)
     simpa [B0,Array.getElem?_append,D,u,B9]using this
    .rw[B1 A9,zJ];have u:¬ t<k.length:=A9;have:(({ toList:=k }:Array Value)++Array.replicate (fn.ntmps-(Array.mk k).size) undef).getD t undef=undef:=by
      simp[B0,Array.getElem?_append,u,R8];split<;>rfl
     rw[this];exact lT ρ
  have V:m1.hi=m'.hi:=by
   have a:=a;unfold gcM at a;simp only[E1,G6,bL]at a;cases K:Y4 m.n 10 v && FV m.n m1.H (kF (m1.W.filter fun b=>Nat.blt b m.n || Nat.ble m1.hi b) [])with
   | true=>rw[K]at a;obtain⟨_,q⟩:=A2 a;cases q;rfl
   | false=>rw[K]at a;obtain⟨_,q⟩:=A2 a;cases q;rfl
  obtain⟨t1,t2,t3⟩:=rS J;have y:At P base gl ρ ⟨m.H,m.n,[],m.hi,m.lg⟩ s.m.hi w:=⟨l.hr,l.bs,fun b q1 q2=>l.fr b q1 (by rw[<- V,t1];exact q2),l.gr,l.nh,fun b B=>(by cases B),l.gf⟩;have R:Sat s.m.lg:=by rw[<- t3,<- QG a];exact hS
  refine x6.1 (callsIn_of_wp_marks (F:=fw none) (n:=0) Y B trivial ?_ rfl);refine hL.ok _ s e A R ⟨none,[]⟩ ρ _ w _ y N (fun _ _ h=>h) fun Q X w1 f1 st1=>?_
  obtain⟨ds,d1,d2⟩:=f1.df;have d1:X.defers=ds:=by rw[d1];simp
  have C:LeavesInM (fw none) 0 P fn X.tmps (TF P base ρ m m' w v) X.defers .returning w1:=by
   rw[d1];have G:=y.step st1;refine wO (base:=base) (ρ:=Q) (hi:=0) _ _ _ _ _ J d2 st1.hr (by rw[t1];exact G.fr) fun w' st2=>?_
   have O:=St.trans (by have:=y.fr;rw[t1];exact this) st1 st2;obtain⟨v',g1,g2⟩:=UB (s:=⟨s.fr,m1⟩) st2.hr f1 I;obtain⟨_,ρ2,g3,g4⟩:=A1f a O l g1;exact⟨v',g2,v',ρ2,rfl,g3,g4⟩
  rcases he with rfl|rfl
  .exact C
  .exact C
def JV{f:FuncId}{fn:Func}{c:Code}{call:L5}(l:P.funcs[f]? = some fn)(e:fn.body=some c)(a:(fn.name == "runtime.NumGoroutine")=false)(k:Q4 P base gl call)(m:d8 P base gl call){lp:LpT}(b:EJ P base gl fn.ntmps c lp) :
  gK P base gl f ⟨qD fn P (K7 P fn.ntmps gl call lp [] c)⟩:=uC l e a (cN.code k m b)
def BO{ρ:Ren}{nt:Nat}(f:nt<=512):∀ (ps:List Tmp) (args b:List Value) (fr c:Fr) (tmps:Array Value),pR ps args fr=some c->LR ρ args b->(∀ t ∈ ps,t<nt)->tmps.size=nt->(∀ t,t<nt->VR ρ (fr.get t) (tmps.getD t undef)) ->
  ps.length=b.length/\((ps.zip b).foldl (fun tmps (t,a)=>tmps.setIfInBounds t a) tmps).size=nt/\(∀ t,t<nt->VR ρ (c.get t) (((ps.zip b).foldl (fun tmps (t,a)=>tmps.setIfInBounds t a) tmps).getD t undef))/\∀ t,nt<=t->t<512->c.get t=fr.get t
 | [],[],b,fr,c,tmps,h,hl,hp,hs,hg=>by
   cases h;rw[hl.nil_inv];exact⟨rfl,hs,hg,fun _ _ _=>rfl⟩
 | [],_::_,_,_,_,_,h,_,_,_,_=>by cases h
 | _::_,[],_,_,_,_,h,_,_,_,_=>by cases h
 | t::ps,v::vs,b,fr,c,tmps,h,hl,hp,hs,hg=>by
   obtain⟨v',w,rfl,h1,y⟩:=hl.tail;have k:t<nt:=hp t B4;have h:pR ps vs (fr.set t v)=some c:=by
    have e:pR (t::ps) (v::vs) fr=pR ps vs (fr.set t v):=yJ t v fr (fun fr=>pR ps vs fr);rw[<- e];exact h
   obtain⟨n,A,m,s⟩:=BO f ps vs w (fr.set t v) c (tmps.setIfInBounds t v') h y (fun u hu=>hp u (C5 _ hu)) (by simp[hs]) (fun u hu=>by
    rw[K1 _ _ _ _ (C9 k f) (C9 hu f)];simp only[B0,D1];by_cases e:u=t
    .subst e;rw[B2 rfl,B2 rfl,B2 (by rw[hs];exact hu)];exact h1
    .rw[B1 e,B1 (fun h=>e h.symm)]
     have:=hg u hu
     simpa [B0]using this)
   refine⟨by simp[n],A,m,fun u h3 l=>?_⟩;rw[s u h3 l,K1 _ _ _ _ (C9 k f) l,B1 (fun e=>by subst e;exact absurd k (Nat.not_lt.2 h3))]
def pP{b:Nat}{v:Value}{m':Mem}(h:mE b r=some (v,m')):∃ e s f q vs,r=some (e,s)/\Hp.get s.m.H b=some (.lp f q vs 1)/\y4 s.m b (.lp f q vs (exN e))=some m'/\v=.bool (zF e):=by
 unfold mE at h;split at h
 .rename_i e fr m;split at h
  .rename_i f q vs a;rw[E1]at h;split at h
   .rename_i m1 hm;cases h;exact⟨e,⟨fr,m⟩,f,q,vs,rfl,a,hm,rfl⟩
   .cases h
  .cases h
 .cases h
def pO{b:Nat}{c:dF}{v:Value}{m':Mem}(h:mD b c r=some (v,m')):∃ s f q vs m1,r=some (.normal,s)/\Hp.get s.m.H b=some (.lp f q vs 0)/\y4 s.m b (.lp f q vs 1)=some m1/\mE b (c.run ⟨s.fr,m1⟩)=some (v,m'):=by
 unfold mD at h;split at h
 .rename_i fr m;split at h
  .rename_i f q vs a;split at h
   .rename_i m1 hm;exact⟨⟨fr,m⟩,f,q,vs,m1,rfl,a,hm,h⟩
   .cases h
  .cases h
 .cases h
def vZ{C:Cx}{call:L5}{vs:D0}{m m':Mem}{v:Value}(h:(yQ C call).run vs m=some (v,m')):∃ b args f q a fn body x ps as bd fr,vs=yv b::args/\Hp.get m.H b=some (.lp f q a 0)/\C.P.funcs[f]? = some fn/\fn.body=some body/\G4 q body=some (.rangeFunc x ps as bd) /\
  fn.ntmps<=510/\(∀ t ∈ ps.toList,t<fn.ntmps)/\pR ps.toList args (cL fr0 0 a)=some fr /\
  mD b (K7 C.P fn.ntmps C.gl call (C.lp f) (q++[true]) bd) ((K7 C.P fn.ntmps C.gl call (C.lp f) (q++[false]) as).run ⟨fr.set 511 (yv b),m⟩)=some (v,m'):=by
 unfold yQ at h;simp only at h;split at h
 .cases h
 .rename_i u args;split at h
  .cases h
  .rename_i b s
   have:=vG s;subst this;split at h
   .rename_i f q a w;split at h
    .cases h
    .rename_i fn n;split at h
     .cases h
     .rename_i body c;split at h
      .rename_i x ps as bd y;obtain⟨h1,h⟩:=A2 h;obtain⟨h1,A⟩:=B3 h1;split at h
       .rename_i fr l;refine⟨b,args,f,q,a,fn,body,x,ps,as,bd,fr,rfl,w,by simpa using n,c,y,A1 h1,fun t B=>A1 (D2.1 A t B),l,?_⟩;have e:∀ (k:Fr->Res),qH (sel 7) (sel 7) (sel 7) (yv b) fr k=k (fr.set 511 (yv b)):=fun k=>yJ 511 (yv b) fr k
        rw[e]at h;exact h
       .cases h
      .cases h
   .cases h
def OH{C:Cx}{call:L5}(O:Q4 C.P base C.gl call)(N:d8 C.P base C.gl call)(s:∀ f fn body,C.P.funcs[f]? = some fn->fn.body=some body->EJ C.P base C.gl fn.ntmps body (C.lp f)):A0m C.P base C.gl (yQ C call):=by
 refine⟨fun vs m m' v h=>?_,fun ρ m m' w b args c v l h hS u hl I=>?_⟩
 .obtain⟨b,args,f,q,M,fn,body,x,ps,as,bd,fr,rfl,_,h1,E,h3,_,_,_,h⟩:=vZ h;obtain⟨s1,f2,q2,az,m2,g1,_,g3,h⟩:=pO h;obtain⟨e,s2,f3,q3,Z,X,_,W,_⟩:=pP h;have a1:=(P0 O N (s f fn body h1 E) as (q++[false]) (H1 h3 rfl) _ _ _ g1).2;have a2:=(P0 O N (s f fn body h1 E) bd (q++[true]) (H1 h3 rfl) _ _ _ X).2;rw[(iZ W).2];have a2:m2.lg.le s2.m.lg:=a2;rw[(iZ g3).2]at a2;exact a1.trans a2
 .obtain⟨b',ay,f,q,M,fn,body,x,ps,as,bd,fr,e0,hg,h1,E,h3,h4,h5,h6,h⟩:=vZ h;cases e0;obtain⟨s1,f2,q2,az,m2,g1,g2,g3,h⟩:=pO h;obtain⟨e,s2,f3,q3,Z,X,k2,W,rfl⟩:=pP h;have c1:=P0 O N (s f fn body h1 E) as (q++[false]) (H1 h3 rfl) _ _ _ g1;have c2:=P0 O N (s f fn body h1 E) bd (q++[true]) (H1 h3 rfl) _ _ _ X;obtain⟨j1,j2⟩:=iZ g3;obtain⟨j3,j4⟩:=iZ W;have T:Sat s2.m.lg:=by rw[<- j4];exact hS
  have ar:Sat s1.m.lg:=by rw[<- j2];exact M5.le T c2.2
  have aq:m2.hi<=s2.m.hi:=c2.1;obtain⟨⟨⟨Y,b2⟩,r,b3,b4⟩,_⟩:=u.hr.atl I hg;obtain⟨ao,au,x',e1,e2,e3,e4⟩:=b4.code;rw[h1]at e1;cases e1;rw[E]at e2;cases e2;rw[h3]at e3;cases e3;have hlen:=b4.fr.1;have ax:∀ t,M.length<=t->t<512->(cL fr0 0 M).get t=undef:=fun t q1 q2=>by
   rw[eM _ _ _ _ A9 q2,B1 A9,zJ]
  obtain⟨p1,p2,p3,p4⟩:=BO (ρ:=ρ) (nt:=fn.ntmps) A9 r.params.toList args c (cL fr0 0 M) fr r.tmps h6 hl h5 (by simpa [e4]using hlen.symm) (fun t ht=>by
   rw[eM _ _ _ _ A9 A9,B2 A9];have Q:t<M.length:=A9;have D:t<r.tmps.toList.length:=A9
   have:=b4.fr.2 t M[t] _ (A4 Q) (A4 D);have V:t<r.tmps.size:=by simpa using D
   simpa [B0,Q,V,B9]using this)
  have K:(r.params.zip ⟨c⟩).foldl (fun tmps (t,a)=>tmps.setIfInBounds t a) r.tmps=(r.params.toList.zip c).foldl (fun tmps (t,a)=>tmps.setIfInBounds t a) r.tmps:=by
   rw[<- Array.foldl_toList];simp
  refine⟨r.fn,_,r.assign,r.body,run_yield b3 (by show c.length=_;rw[<- p1];simp),?_⟩;rw[K];refine roundIn_of_wpIn (F:=Fence.wide) (n:=0) trivial ?_;have G:∀ t,t<511->(fr.set 511 (yv b)).get t=fr.get t:=fun t ht=>by rw[K1 _ _ _ _ L8 A9,B1 A9]
  have aw:FrR ⟨some l.blk,[]⟩ ρ fn.ntmps (fr.set 511 (yv b)) { tmps:=(r.params.toList.zip c).foldl (fun tmps (t,a)=>tmps.setIfInBounds t a) r.tmps,defers:=[] }:=by
   refine⟨p2,A9,⟨[],rfl,?_⟩,fun _=>?_,fun t ht=>by rw[G t A9];exact p3 t ht⟩
   .unfold dvG;rw[G 510 L8,p4 510 h4 L8,ax 510 A9 L8];cases Nat.ble fn.ntmps 510<;>exact .nil
   .rw[K1 _ _ _ _ L8 L8,B2 rfl];refine⟨fun hu=>(by cases hu),fun b0 R=>?_⟩;have:b0=b:=by
     have:bN (yv b)=some b:=rfl;rw[this]at R;exact(A5 R).symm
    subst this;exact⟨l,I,rfl⟩
  have L:I2 ρ m.n m'.hi:=u.fr;refine N5 (z:=⟨some l.blk,[]⟩) O N (s f fn body h1 E) r.assign (q++[false]) (H1 h3 rfl) ρ ⟨fr.set 511 (yv b),m⟩ s1 .normal _ w _ g1 ar (u.less (by rw[j3];omega)) aw fun H a1 w1 f1 st1=>?_
  have J:=st1.ext _ _ I;obtain⟨⟨⟨_,_⟩,r2,d3,d4⟩,_⟩:=st1.hr.atl J g2;obtain⟨o1,o2,o3⟩:=eU (o:=.loop { r2 with state:=.busy }) (B5.1 d3).1;have st2:St C.P base H H s1.m m2 w1 (w1.putObj l.blk (.loop { r2 with state:=.busy })):=St.write st1.hr g3 g2 rfl J Y ⟨rfl,rfl,rfl⟩ o1 o3 ⟨⟨Y,b2⟩,_,o2,d4.code,d4.fr,rfl⟩;refine⟨_,run_beginRound d3 d4.st.1,?_⟩;have B:=(u.step st1);have A:=B.step st2;refine N5 (z:=⟨some l.blk,[]⟩) O N (s f fn body h1 E) r.body (q++[true]) (H1 h3 rfl) H ⟨s1.fr,m2⟩ s2 e _ _ _ X T (A.less (by rw[j3];exact A6 _)) f1 fun ρ2 a2 w3 f3 y=>?_
  have U:=y.ext _ _ J;obtain⟨⟨⟨_,_⟩,r3,d5,d6⟩,_⟩:=y.hr.atl U k2;have fin:∀ (jump:Option Code),StR (exN e) (if jump.isNone then .ready else .done) jump->jump.isNone=zF e->∃ v w',(Instr.endRound l.blk jump).run C.P w3=.ok v w'/\TF C.P base ρ m m' w (.bool (zF e)) (.returned v) w':=fun jump hj he=>by
   refine⟨_,_,run_endRound jump d5,?_⟩;obtain⟨o4,o5,o6⟩:=eU (o:=.loop { r3 with state:=if jump.isNone then .ready else .done,pending:=jump }) (B5.1 d5).1;have av:St C.P base ρ2 ρ2 s2.m m' w3 (w3.putObj l.blk (.loop { r3 with state:=if jump.isNone then .ready else .done,pending:=jump })):=St.write y.hr W k2 rfl U Y ⟨rfl,rfl,rfl⟩ o4 o6 ⟨⟨Y,b2⟩,_,o5,d6.code,d6.fr,hj⟩;exact⟨_,ρ2,rfl,by rw[he];exact .pure rfl,St.trans L st1 (St.trans B.fr st2 (St.trans A.fr y av))⟩
  cases e with
  | normal=>exact fin none ⟨rfl,rfl⟩ rfl
  | ret=>exact fin (some .ret) ⟨rfl,rfl⟩ rfl
  | exit k=>exact fin (some (.exit k)) ⟨rfl,rfl⟩ rfl
structure WJ (C:Cx) (base:Nat):Prop where
 names:AH C.P
 ext:∀ f k fn,C.P.funcs[f]? = some fn->fn.body=none->DM C.ext f=some k->gK C.P base C.gl f ⟨kX k⟩
 con:∀ f c,C.con f=some c->gK C.P base C.gl f c
 lp:∀ f fn body,C.P.funcs[f]? = some fn->fn.body=some body->EJ C.P base C.gl fn.ntmps body (C.lp f)
 draws:∀ call,Q4 C.P base C.gl call->d8 C.P base C.gl call
def jE(f:FuncId):gK P base gl f ⟨fun _ _=>none⟩:=⟨fun vs m m' v hr=>(by cases hr),fun ρ m m' w vs a v hr=>(by cases hr)⟩
def UJ:A0m P base gl ⟨fun _ _=>none⟩:=⟨fun vs m m' v hr=>(by cases hr),fun ρ m m' w b args a v l hr=>(by cases hr)⟩
def eK{C:Cx}(h:WJ C base):∀ (d:Nat),Q4 C.P base C.gl (dE C d)
 | 0=>⟨fun f=>jE f,UJ⟩
 | d+1=>by
   have l:=eK h d;refine⟨fun f=>?_,OH l (h.draws _ l) h.lp⟩;show gK C.P base C.gl f (xN C (dE C d) f);unfold xN;split
   .exact jE f
   .rename_i fn a;have a:C.P.funcs[f]? = some fn:=by simpa using a
    split
    .rename_i c b;exact h.con f c b
    .split
     .rename_i e;split
      .rename_i k hk;exact h.ext f k fn a e hk
      .exact jE f
     .rename_i c e;exact JV (gl:=C.gl) a e (h.names f fn a) l (h.draws _ l) (h.lp f fn c a e)
end
end
section
open Go
variable [Ora]
def AG(P:Program)(nt gl:Nat)(call:L5)(all:List Oper)(b:List Nat)(rs:List Rec)(c:Bool)(o:Oper)(fr e:Fr)(m m2:Mem)(v:Value):Prop :=
 tM nt o.dst=true/\FO nt gl o.op=true/\e=qK o.dst v fr /\
 ((c=false/\∃ lg,t8 nt fr m.lg all o=some (false,lg)/\v=undef/\m2=m.wLg lg) ∨
   (c=false/\∃ lg a,t8 nt fr m.lg all o=some (true,lg)/\gW fr (m.wLg lg) o b rs (T6 P call o)=some (v,a)/\m2=m.wLg a) ∨
   (c=true/\∃ lg,t8 nt fr m.lg all o=some (true,lg)/\(T6 P call o).run fr (m.wLg lg)=some (v,m2)/\m.hi<=m2.hi) ∨
   (c=false/\o8 o.op=false/\∃ lg,t8 nt fr m.lg all o=some (true,lg)/\∃ mv m',vK (m.wLg lg) (A1u fr o.op) (wI b rs)=some mv/\(T6 P call o).run fr mv=some (v,m')/\m'.W=[]/\m.hi<=m'.hi/\hO (m.wLg lg) m'=some m2))
def LT{α:Type}{c:Bool}{x:Option α}{y:α}(h:(bif c then none else x)=some y):c=false/\x=some y:=by cases c<;>first|exact⟨rfl,h⟩|cases h
def bF(nt:Nat)(all:List Oper)(op:OpC)(b:List Nat)(rs:List Rec)(fr:Fr)(o:Oper)(m m2:Mem)(v:Value)(r:Option (Nat×AB)):Prop :=
 (∃ lg,t8 nt fr m.lg all o=some (false,lg)/\v=undef/\m2=m.wLg lg/\r=none)∨(∃ lg a,t8 nt fr m.lg all o=some (true,lg)/\gW fr (m.wLg lg) o b rs op=some (v,a)/\m2=m.wLg a/\r=DF m.H fr o.op)
def QsN(e:Bool)(i nt:Nat)(all:List Oper)(op:OpC)(b:List Nat)(rs:List Rec)(fr:Fr)(o:Oper)(m m2:Mem)(v:Value)(c a:Qs):Prop :=
 (e=true/\a=c/\PW b m2.H c=true)∨(e=false/\a=c)∨(e=false/\∃ r,a=(i,r)::c/\bF nt all op b rs fr o m m2 v r)
def TB(P:Program)(nt gl:Nat)(call:L5)(all:List Oper)(r:List Oper)(i:Nat)(bs:List F9)(rs:List Rec)(b:Qs)(s a:S):Prop :=
  ∃ (F:Nat->Fr) (M:Nat->Mem) (V:Nat->Value) (R:Nat->List Rec) (X:Nat->Qs) (B:Nat->Bool),F i=s.fr/\M i=s.m/\R i=rs/\X i=b/\F (i+r.length)=a.fr/\M (i+r.length)=a.m /\
   ∀ j o,r[j]? = some o->AG P nt gl call all (bs.getD j []) (R (i+j)) (B (i+j)) o (F (i+j)) (F (i+j+1)) (M (i+j)) (M (i+j+1)) (V (i+j))/\(B (i+j)=true->AZ o.op (i+j) (bs.getD j []) (bs.drop (j+1)) (r.drop (j+1)) (X (i+j))=true) /\
    ((R (i+j+1)=R (i+j)/\∃ lg,M (i+j+1)=(M (i+j)).wLg lg)∨(B (i+j)=true/\R (i+j+1)=[])∨R (i+j+1)=⟨i+j,(M (i+j)).n,(M (i+j+1)).n⟩::R (i+j)) /\
    QsN (B (i+j)) (i+j) nt all (T6 P call o) (bs.getD j []) (R (i+j)) (F (i+j)) o (M (i+j)) (M (i+j+1)) (V (i+j)) (X (i+j)) (X (i+j+1))
def WN{P:Program}{nt gl:Nat}{call:L5}{all:List Oper}:∀ (r:List Oper) (i:Nat) (bs:List F9) (rs:List Rec) (c:Qs) (s f:S),c9 P nt gl call all r i bs rs c s=some f->TB P nt gl call all r i bs rs c s f
 | [],i,bs,rs,c,s,f,h=>by
   have h:some s=some f:=by cases bs<;>exact h
   cases h;exact⟨fun _=>s.fr,fun _=>s.m,fun _=>undef,fun _=>rs,fun _=>c,fun _=>false,rfl,rfl,rfl,rfl,rfl,rfl,fun j o y=>by simp at y⟩
 | o::r,i,[],rs,c,s,f,h=>by obtain⟨fr,m⟩:=s;cases h
 | o::r,i,b::bs,rs,c,⟨fr,⟨H0,n0,W0,hi0,lg0⟩⟩,f,h=>by
   generalize u:(⟨H0,n0,W0,hi0,lg0⟩:Mem)=m at h;have glue:∀ (w:Bool),(w=true->AZ o.op i b bs r c=true)->∀ (v:Value) (m2:Mem) (a:List Rec) (k:Qs),AG P nt gl call all b rs w o fr (qK o.dst v fr) m m2 v->((a=rs/\∃ lg,m2=m.wLg lg)∨(w=true/\a=[])∨a=⟨i,m.n,m2.n⟩::rs)->QsN w i nt all (T6 P call o) b rs fr o m m2 v c k->c9 P nt gl call all r (i+1) bs a k ⟨qK o.dst v fr,m2⟩=some f->TB P nt gl call all (o::r) i (b::bs) rs c ⟨fr,m⟩ f:=fun w E v m2 a k G D N A=>by
    obtain⟨F,M,V,R,X,B,f1,f2,f3,K,f4,f5,f6⟩:=WN r (i+1) bs a k _ f A;refine⟨fun j=>if j<=i then fr else F j,fun j=>if j<=i then m else M j,fun j=>if j<=i then v else V j,fun j=>if j<=i then rs else R j,fun j=>if j<=i then c else X j,fun j=>if j<=i then w else B j,by simp,by simp,by simp,by simp,?_,?_,?_⟩
    .simp only[I7];rw[B1 A9,show i+(r.length+1)=i+1+r.length by omega];exact f4
    .simp only[I7];rw[B1 A9,show i+(r.length+1)=i+1+r.length by omega];exact f5
    .intro j o' y;cases j with
     | zero =>
       simp at y;subst y;simp only[Nat.add_zero,A6,if_true,Nat.not_succ_le_self,if_false,f1,f2,f3,K];exact⟨G,E,D,N⟩
     | succ j =>
       have H:r[j]? = some o':=by simpa using y
       have:=f6 j o' H;simp only[show ¬ i+(j+1)<=i by omega,show ¬ i+(j+1)+1<=i by omega,if_false];rw[show i+(j+1)=i+1+j by omega]
       simpa using this
   subst u;unfold c9 at h;split at h
   .rename_i lg hw I;obtain⟨d1,d2⟩:=B3 I;cases l:AZ o.op i b bs r c with
    | true =>
      rw[l]at h;simp only[D7]at h;split at h
      .rename_i v m2 hr;obtain⟨e,h⟩:=A2 h;obtain⟨e,L⟩:=B3 e;rw[aC]at h;exact glue true (fun _=>l) v m2 _ _ ⟨d1,d2,rfl,.inr (.inr (.inl ⟨rfl,lg,hw,hr,A1 e⟩))⟩ (.inr (.inl ⟨rfl,rfl⟩)) (.inl ⟨rfl,rfl,L⟩) h
      .cases h
    | false =>
      rw[l]at h;simp only[D3]at h;split at h
      .rename_i v t C;obtain⟨O,C⟩:=A2 C;rw[aC]at h;exact glue false (fun h=>by cases h) v _ _ _ ⟨d1,d2,rfl,.inr (.inl ⟨rfl,lg,t,hw,C,rfl⟩)⟩ (.inl ⟨rfl,t,rfl⟩) (.inr (.inr ⟨rfl,_,rfl,.inr ⟨lg,t,hw,C,rfl,rfl⟩⟩)) h
      .obtain⟨J,h⟩:=LT h;unfold JE at h;simp only at h;split at h
       .rename_i mv Q;split at h
        .rename_i v m' hr;split at h
         .rename_i T e;split at h
          .rename_i m2 hm;rw[aC]at h;exact glue false (fun h=>by cases h) v m2 _ _ ⟨d1,d2,rfl,.inr (.inr (.inr ⟨rfl,J,lg,hw,mv,m',Q,hr,T,A1 e,hm⟩))⟩ (.inr (.inr rfl)) (.inr (.inl ⟨rfl,rfl⟩)) h
          .cases h
         .cases h
        .cases h
       .cases h
   .rename_i lg hw I;obtain⟨d1,d2⟩:=B3 I;rw[aC]at h;exact glue false (fun h=>by cases h) undef _ _ _ ⟨d1,d2,rfl,.inl ⟨rfl,lg,hw,rfl,rfl⟩⟩ (.inl ⟨rfl,lg,rfl⟩) (.inr (.inr ⟨rfl,_,rfl,.inl ⟨lg,hw,rfl,rfl,rfl⟩⟩)) h
   .cases h
def EH{l:F9}{b k:Nat}(h:k ∈ SZ l b):k=b∨k ∈ l:=by
 unfold SZ at h;cases e:m6 l b with
 | true=>rw[e]at h;exact .inr h
 | false=>rw[e,D3,E1]at h;exact A8.1 h
def wQ:∀ {a b:F9} {k:Nat},k ∈ IP a b->k ∈ a∨k ∈ b
 | [],b,k,h=>.inr h
 | x::a,b,k,h=>by
   rcases EH (show k ∈ SZ (IP a b) x from h)with rfl|h
   .exact .inl B4
   .rcases wQ h with h|h
    .exact .inl (C5 _ h)
    .exact .inr h
def pE{acc:List F9}:∀ {es:List Edge} {k:Nat},k ∈ nT acc es->∃ e ∈ es,Region.binds .any e=true/\(k=e.on∨k ∈ acc.getD e.on [])
 | [],k,h=>by cases h
 | e::r,k,h=>by
   unfold nT at h;cases a:Region.binds .any e with
   | true =>
     rw[a]at h;rw[D7]at h;rcases(EH h).imp_right wQ with h|h|h
     .exact⟨e,B4,a,.inl h⟩
     .exact⟨e,B4,a,.inr h⟩
     .obtain⟨e',h1,b⟩:=pE h;exact⟨e',C5 _ h1,b⟩
   | false =>
     rw[a]at h;obtain⟨e',h1,b⟩:=pE h;exact⟨e',C5 _ h1,b⟩
def pD:∀ (r:List Oper) (acc:List F9),∃ a,V8 r acc=acc++a/\a.length=r.length/\∀ j o,r[j]? = some o->∃ pre,pre=(acc++a).take (acc.length+j)/\a[j]? = some (nT pre o.after.toList)
 | [],acc=>⟨[],by simp[V8],rfl,fun j o h=>by simp at h⟩
 | o::r,acc=>by
   obtain⟨a,h1,c,h3⟩:=pD r (acc++[nT acc o.after.toList]);refine⟨nT acc o.after.toList::a,by rw[V8,G6,h1];simp,by simp[c],fun j o' b=>?_⟩;cases j with
   | zero =>
     simp at b;subst b;exact⟨_,rfl,by simp⟩
   | succ j =>
     obtain⟨pre,g1,g2⟩:=h3 j o' (by simpa using b);refine⟨pre,?_,by simpa using g2⟩;rw[g1];simp[Z8,fO 1 j]
def WH{ops:List Oper}{k:Nat}(f:ops[i]? = some o)(he:∀ e ∈ o.after.toList,Region.binds .any e=true->e.on<i)(hk:k ∈ (V8 ops []).getD i []) :
  ∃ e ∈ o.after.toList,Region.binds .any e=true/\(k=e.on∨k ∈ (V8 ops []).getD e.on []):=by
 obtain⟨m,h1,n,h3⟩:=pD ops [];simp only[Q8]at h1 h3;obtain⟨pre,g1,g2⟩:=h3 i o f;rw[h1]at hk ⊢;rw[B9,g2]at hk;obtain⟨e,b,c,l⟩:=pE (show k ∈ nT pre o.after.toList from hk);refine⟨e,b,c,l.imp id fun h=>?_⟩;have a:=he e b c;rw[g1]at h;simp only[List.length_nil,D8,B9]at h ⊢;rw[F0 a]at h;exact h
def iS(ops:List Oper)(D:Nat->Prop):Prop:=∀ i o,ops[i]? = some o->D i->∀ e ∈ o.after.toList,Region.binds .any e=true->D e.on
def uF{ops:List Oper}{D:Nat->Prop}(m:iS ops D)(a:∀ i o,ops[i]? = some o->∀ e ∈ o.after.toList,Region.binds .any e=true->e.on<i) :
  ∀ (n i k:Nat) (o:Oper),i<n->ops[i]? = some o->(∀ e ∈ o.after.toList,Region.binds .any e=true->D e.on)->k ∈ (V8 ops []).getD i []->D k
 | 0,i,k,o,h,_,_,_=>by omega
 | n+1,i,k,o,h,ho,he,hk=>by
   obtain⟨e,l,f,c⟩:=WH ho (a i o ho) hk;rcases c with rfl|c
   .exact he e l f
   .have b:=a i o ho e l f;have hlen:e.on<ops.length:=Nat.lt_trans b (A7.1 ho).1;refine uF m a n e.on k ops[e.on] A9 (A4 hlen) (fun e' h1 s=>m e.on _ (A4 hlen) (he e l f) e' h1 s) c
def xW{H0:Hp AB}:∀ (l:List Nat) (H:Hp AB),(∀ b ∈ l,b<=G2)->∀ id,id<=G2->Hp.get (xX H0 H l) id=if id ∈ l then Hp.get H0 id else Hp.get H id
 | [],H,_,id,_=>by simp[xX]
 | b::r,H,hl,id,hid=>by
   have c:=hl b B4;rw[xX,bW,xW r _ (fun x e=>hl x (C5 _ e)) id hid,E7 _ _ _ _ c hid];by_cases h1:id ∈ r
   .rw[B2 h1,B2 (C5 _ h1)]
   .rw[B1 h1];by_cases a:id=b
    .subst a;rw[B2 rfl,B2 B4]
    .rw[B1 a,B1 (by simp[h1,a])]
def wU:∀ (l:List Nat) (H:Hp AB),(∀ b ∈ l,b<=G2)->∀ id,id<=G2->Hp.get (wV H l) id=if id ∈ l then none else Hp.get H id
 | [],H,_,id,_=>by simp[wV]
 | b::r,H,hl,id,hid=>by
   have c:=hl b B4;rw[wV,bW,wU r _ (fun x e=>hl x (C5 _ e)) id hid,E7 _ _ _ _ c hid];by_cases h1:id ∈ r
   .rw[B2 h1,B2 (C5 _ h1)]
   .rw[B1 h1];by_cases a:id=b
    .subst a;rw[B2 rfl,B2 B4]
    .rw[B1 a,B1 (by simp[h1,a])]
def hP:∀ (n a b:Nat),b ∈ EZ a n↔a<=b/\b<a+n
 | 0,a,b=>by simp[EZ]
 | n+1,a,b=>by
   simp only[EZ,A8,hP n (a+1) b];omega
def CI{m m' m2:Mem}(h:hO m m'=some m2)(s:m.n<=m.hi)(e:m.hi<=m'.hi):m.n<=m2.n/\m.hi<=m2.hi/\m2.n<=m2.hi/\m2.W=m.W/\(m2.n=m'.hi∨(m2.n=m.n/\m'.hi<=m.n))/\m2.hi=m'.hi/\m2.lg=m'.lg /\
  ∀ id,id<=G2->Hp.get m2.H id=if m.n<=id/\id<m2.n then Hp.get m'.H id else Hp.get m.H id:=by
 unfold hO at h;cases a:Nat.ble m'.hi m.n with
 | true =>
   have a:=A1 a;have c:Nat.ble m'.hi m.n=true:=C4 a;rw[c]at h;cases h;refine⟨A6 _,A6 _,s,rfl,.inr ⟨rfl,a⟩,by show m.hi=m'.hi;omega,rfl,fun id hid=>?_⟩;rw[B1 (by show ¬ (m.n<=id/\id<m.n);omega)]
 | false =>
   have f:m.n<m'.hi:=by
    rcases F2 m.n m'.hi with h1|h1
    .exact h1
    .rw[show Nat.ble m'.hi m.n=true from C4 h1]at a;cases a
   rw[a]at h;simp only[D3]at h;obtain⟨l,h⟩:=A2 h;have l:=A1 l;simp only[E1,bL]at h;cases h;refine⟨Nat.le_of_lt f,e,A6 _,rfl,.inl rfl,rfl,rfl,fun id hid=>?_⟩;show Hp.get (xX m'.H m.H (EZ m.n (m'.hi-m.n))) id=_;rw[xW _ _ (fun b k=>by have:=(hP _ _ _).1 k;omega) id hid];by_cases h1:m.n<=id/\id<m'.hi
   .rw[B2 ((hP _ _ _).2 A9),B2 h1]
   .rw[B1 (fun h=>h1 (by have:=(hP _ _ _).1 h;omega)),B1 h1]
def r8(D:Nat->Bool)(dst:Nat->Option Tmp)(V:Nat->Value)(f0:Tmp->Value)(t:Tmp):Nat->Value
 | 0=>f0 t
 | n+1=>if D n=true/\dst n=some t then V n else r8 D dst V f0 t n
def cF{D D':Nat->Bool}{dst:Nat->Option Tmp}{V:Nat->Value}{f0:Tmp->Value}{t:Tmp}:∀ (n:Nat),(∀ k,k<n->dst k=some t->D k=D' k)->r8 D dst V f0 t n=r8 D' dst V f0 t n
 | 0,_=>rfl
 | n+1,h=>by
   unfold r8;have b:=cF (V:=V) (f0:=f0) n fun k hk=>h k (Nat.lt_succ_of_lt hk)
   by_cases a:dst n=some t
   .rw[h n (H5 n) a,b]
   .rw[B1 (fun hh=>a hh.2),B1 (fun hh=>a hh.2),b]
def nA{D D':Nat->Bool}{dst:Nat->Option Tmp}{V:Nat->Value}{f0:Tmp->Value}{t:Tmp}{i:Nat}(c:∀ k,k≠i->D' k=D k)(hi:D' i=true):∀ (n:Nat),i<n->dst i=some t->(∀ k,i<k->k<n->dst k=some t->D k=false)->r8 D' dst V f0 t n=V i
 | 0,h,_,_=>by omega
 | n+1,h,hd,hl=>by
   unfold r8;by_cases e:n=i
   .subst e;rw[B2 ⟨hi,hd⟩]
   .have a:i<n:=A9;rw[B1 (fun hh=>by
     have h1:=hl n a (H5 n) hh.2;rw[c n e,h1]at hh;exact absurd hh.1 (by simp))]
    exact nA c hi n a hd fun k hk b=>hl k hk (Nat.lt_succ_of_lt b)
def kU{D D':Nat->Bool}{dst:Nat->Option Tmp}{V:Nat->Value}{f0:Tmp->Value}{t:Tmp}(a:∀ k,k≠i->D' k=D k)(b:dst i≠some t)(n:Nat):r8 D' dst V f0 t n=r8 D dst V f0 t n :=
 cF n fun k _ hk=>a k fun e=>b (e▸hk)
structure HRf (P:Program) (base:Nat) (ρ:Ren) (G:Nat->Option AB) (w:World):Prop where
 dom:∀ b l,ρ b=some l->b<=G2
 at_:∀ id,id<=G2->∀ ab,G id=some ab->∃ l,ρ id=some l/\BR P ρ ab l w/\(ab.rw=true->l.on=true->base<=l.blk/\∀ id2,id2<=G2->∀ ab2 l2,G id2=some ab2->ρ id2=some l2->Tc ab2 l2 l.blk->id2=id)
def HRf.hr{P:Program}{base:Nat}{ρ:Ren}{G:Nat->Option AB}{H:Hp AB}{w:World}(h:HRf P base ρ G w)(s:∀ id,id<=G2->∀ ab,Hp.get H id=some ab->G id=some ab):HR P base ρ H w :=
 ⟨h.dom,fun id hid ab m=>let ⟨l,a,b,c⟩:=h.at_ id hid ab (s id hid ab m);⟨l,a,b,fun hr n=>⟨(c hr n).1,fun f e k l2 g=>(c hr n).2 f e k l2 (s f e k g)⟩⟩⟩
def HR.f{P:Program}{base:Nat}{ρ:Ren}{H:Hp AB}{w:World}(h:HR P base ρ H w){G:Nat->Option AB}(t:∀ id,id<=G2->∀ ab,G id=some ab->Hp.get H id=some ab):HRf P base ρ G w :=
 ⟨h.dom,fun id hid ab n=>let ⟨l,a,b,c⟩:=h.at_ id hid ab (t id hid ab n);⟨l,a,b,fun hr s=>⟨(c hr s).1,fun k e m l2 g=>(c hr s).2 k e m l2 (t k e m g)⟩⟩⟩
def Ff(ρ:Ren)(G:Nat->Option AB)(k:Nat):Prop:=∃ id ab l,id<=G2/\G id=some ab/\ρ id=some l/\Tf ab l k
end
end Go.Sx
