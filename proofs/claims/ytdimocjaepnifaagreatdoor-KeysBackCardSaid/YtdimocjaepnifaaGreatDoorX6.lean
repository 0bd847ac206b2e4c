import Derived.Test.YtdimocjaepnifaaGreatDoorX5
set_option linter.all false
set_option maxRecDepth 100000
set_option maxHeartbeats 4000000
namespace Go.Sx
variable {ds:List Deferred}{d:Option Tmp}{o p:Oper}{lg':Lg}{i j:Nat}{q:List Bool}{r:Option (Ex×S)}{g:Value}{x:Operand}{me:FuncId}{ps:Array Tmp}{as bd:Code}
section
open Go
variable [Ora]
section
variable {P:Program} {base gl nt:Nat}
def GR(gl:Nat)(ρ:Ren):Prop:=∀ g,g<gl→ρ g=some (lc g 0 0)
def GR.mono{ρ ρ':Ren}(h:GR gl ρ)(he:∀ b l,ρ b=some l→ρ' b=some l):GR gl ρ':=fun g hg=>he _ _ (h g hg)
structure At (P:Program) (base gl:Nat) (ρ:Ren) (m:Mem) (hi:Nat) (w:World):Prop where
 hr:HR P base ρ m.H w
 bs:base≤w.heap.size
 fr:L6 ρ m.n hi
 gr:GR gl ρ
 nh:m.n≤m.hi
 wb:∀ b ∈ m.W,∀ l,ρ b=some l→l.on=true→base≤l.blk
 gf:∀ k o,Ora.G k=some o→k<base∧w.heap[k]? = some o
def At.wbs{ρ ρ':Ren}{m m':Mem}{hi:Nat}{w w':World}(h:At P base gl ρ m hi w)(st:St P base ρ ρ' m m' w w'):∀ b ∈ m'.W,∀ l,ρ b=some l→l.on=true→base≤l.blk:=fun b hb l hl hon=>by
 by_cases hm:b ∈ m.W
 ·exact h.wb b hm l hl hon
 ·obtain⟨ab,h1,h2⟩:=st.wrw b hb hm l hl;exact((h.hr.atl hl h1).2 h2 hon).1
def At.below{ρ ρ':Ren}{m m':Mem}{hi:Nat}{w w':World}(h:At P base gl ρ m hi w)(st:St P base ρ ρ' m m' w w'){k:Nat}(hk:k<base):w'.heap[k]? = w.heap[k]? :=
 st.keep k (E1 hk h.bs) fun b hb l hl hon e=>by have:=h.wbs st b hb l hl hon;omega
def At.step{ρ ρ':Ren}{m m':Mem}{hi:Nat}{w w':World}(h:At P base gl ρ m hi w)(st:St P base ρ ρ' m m' w w'):At P base gl ρ' m' hi w' :=
 ⟨st.hr,C4 h.bs st.size,fun b h1 h2=>by
  cases hb:ρ' b with
  | none=>rfl
  | some l =>
    cases h0:ρ b with
    | some l0=>rw[h.fr b (C4 st.nle h1) h2]at h0;cases h0
    | none=>have:=(st.new b l hb h0).2;omega,h.gr.mono st.ext,st.nhi h.nh,fun b hb l hl hon=>by
  cases h0:ρ b with
  | some l0 =>
    have:=st.ext b l0 h0;rw[hl]at this
    have:=B1 this;subst this;exact h.wbs st b hb l h0 hon
  | none =>
    rcases st.blk b l hl h0 hon with h1|⟨b0,h1,l0,h2,h20,h3⟩
    ·have:=h.bs;omega
    ·rw[← h3];exact h.wbs st b0 h1 l0 h2 h20,fun k o hk=>⟨(h.gf k o hk).1,(h.below st (h.gf k o hk).1).trans (h.gf k o hk).2⟩⟩
def At.less{ρ:Ren}{m:Mem}{hi hi':Nat}{w:World}(h:At P base gl ρ m hi w)(hl:hi'≤hi):At P base gl ρ m hi' w:=⟨h.hr,h.bs,fun b h1 h2=>h.fr b h1 (E1 h2 hl),h.gr,h.nh,h.wb,h.gf⟩
def At.wLg{ρ:Ren}{m:Mem}{hi:Nat}{w:World}(h:At P base gl ρ m hi w)(lg:Lg):At P base gl ρ (m.wLg lg) hi w:=by
 cases m;exact⟨h.hr,h.bs,h.fr,h.gr,h.nh,h.wb,h.gf⟩
def A4K(P:Program)(base:Nat)(ρ:Ren)(m m':Mem)(w:World)(v:Value):Ending→World→Prop:=fun e w'=>∃ v' ρ',e=.returned v'∧VR ρ' v v'∧St P base ρ ρ' m m' w w'
structure mH (P:Program) (base gl:Nat) (f:FuncId) (c:FnC):Prop where
 lg:∀ (vs:List Value) (m m':Mem) (v:Value),c.run vs m=some (v,m')→m.lg.le m'.lg
 ok:∀ (ρ:Ren) (m m':Mem) (w:World) (vs vs':List Value) (v:Value),c.run vs m=some (v,m')→Sat m'.lg→At P base gl ρ m m'.hi w→LR ρ vs vs' →
  ((callFunc f ⟨vs'⟩).run P w=.ok (.enter f ⟨vs'⟩) w∧Calls P f ⟨vs'⟩ w (A4K P base ρ m m' w v)) ∨
  (∃ v' ρ' w',(callFunc f ⟨vs'⟩).run P w=.ok (.value v') w'∧VR ρ' v v'∧St P base ρ ρ' m m' w w')
structure Zn where
 rd:Option Nat
 D:List Deferred
def B2j(l:Loc):Deferred:={ target:=.collected l.blk,args:=#[] }
def DfR(ρ:Ren)(ids:List Nat)(ds:List Deferred):Prop:=ids.length=ds.length∧∀ (i:Nat) (id:Nat) (d:Deferred),ids[i]? = some id→ds[i]? = some d→∃ l,ρ id=some l∧d=B2j l
def DfR.mono{ρ ρ':Ren}{ids:I1}(h:DfR ρ ids ds)(he:∀ b l,ρ b=some l→ρ' b=some l):DfR ρ' ids ds:=⟨h.1,fun i id d a b=>let ⟨l,c,e⟩:=h.2 i id d a b;⟨l,he _ _ c,e⟩⟩
def DfR.nil{ρ:Ren}:DfR ρ [] []:=⟨rfl,fun i id d h=>by simp at h⟩
structure FrR (z:Zn) (ρ:Ren) (nt:Nat) (fr:Fr) (a:Act):Prop where
 size:a.tmps.size=nt
 le:nt≤512
 df:∃ ds,a.defers=ds++z.D∧DfR ρ (dvG nt fr) ds
 rd:nt≤510→(pI (fr.get 511)=true→z.rd=none)∧∀ b,fR (fr.get 511)=some b→∃ l,ρ b=some l∧z.rd=some l.blk
 get:∀ t,t<nt→VR ρ (fr.get t) (a.tmps.getD t undef)
variable {z:Zn}
def FrR.mono{ρ ρ':Ren}{fr:Fr}{a:Act}(h:FrR z ρ nt fr a)(he:∀ b l,ρ b=some l→ρ' b=some l):FrR z ρ' nt fr a :=
 ⟨h.size,h.le,let ⟨ds,a,b⟩:=h.df;⟨ds,a,b.mono he⟩,fun hn=>⟨(h.rd hn).1,fun b hb=>let ⟨l,c,e⟩:=(h.rd hn).2 b hb;⟨l,he _ _ c,e⟩⟩,fun t ht=>(h.get t ht).mono he⟩
def FrR.put{ρ:Ren}{fr:Fr}{a:Act}{d:Nat}{v v':Value}(h:FrR z ρ nt fr a)(hd:d<nt)(hv:VR ρ v v'):FrR z ρ nt (fr.set d v) (a.put (some d) v'):=by
 have hle:=h.le;have hget:∀ t,t<512→t≠d→(fr.set d v).get t=fr.get t:=fun t h1 h2=>by rw[N2 _ _ _ _ A1 h1,A3 h2]
 refine⟨by simp[Act.put,h.size],h.le,?_,fun hn=>?_,fun t ht=>?_⟩
 ·obtain⟨ds,e1,e2⟩:=h.df;refine⟨ds,e1,?_⟩;unfold dvG at e2 ⊢;cases hq:Nat.ble nt 510 with
  | true =>
    have:=A2 hq;rw[hq]at e2;rw[hget 510 C3 A1];exact e2
  | false=>rw[hq]at e2;exact e2
 ·rw[hget 511 C3 A1];exact h.rd hn
 ·rw[N2 _ _ _ _ (E1 hd h.le) (E1 ht h.le)];simp only[Act.put,B9,G6];by_cases e:t=d
  ·subst e;rw[A4 rfl,A4 rfl,A4 (by rw[h.size];exact hd)];exact hv
  ·rw[A3 e,A3 (fun h=>e h.symm)]
   have:=h.get t ht
   simpa [B9]using this
def ZR(z:Zn)(ρ:Ren)(nt:Nat)(fr:Fr)(ds0:List Deferred):Prop:=(∃ ds,ds0=ds++z.D∧DfR ρ (dvG nt fr) ds)∧(nt≤510→(pI (fr.get 511)=true→z.rd=none)∧∀ b,fR (fr.get 511)=some b→∃ l,ρ b=some l∧z.rd=some l.blk)
def FrR.zr{ρ:Ren}{fr:Fr}{a:Act}(h:FrR z ρ nt fr a):ZR z ρ nt fr a.defers:=⟨h.df,h.rd⟩
def ZR.congr{ρ ρ':Ren}{fr fr':Fr}(h:ZR z ρ nt fr ds)(he:∀ b l,ρ b=some l→ρ' b=some l)(hs:nt≤510→fr'.get 510=fr.get 510∧fr'.get 511=fr.get 511):ZR z ρ' nt fr' ds:=by
 obtain⟨⟨ds',h1,h2⟩,h3⟩:=h;refine⟨⟨ds',h1,?_⟩,fun hn=>?_⟩
 ·have:dvG nt fr'=dvG nt fr:=by
   unfold dvG;cases hq:Nat.ble nt 510 with
   | true=>rw[(hs (A2 hq)).1]
   | false=>rfl
  rw[this];exact h2.mono he
 ·rw[(hs hn).2];exact⟨(h3 hn).1,fun b hb=>let ⟨l,c,e⟩:=(h3 hn).2 b hb;⟨l,he _ _ c,e⟩⟩
def gG(a:Act)(d:Option Tmp)(v:Value):(a.put d v).defers=a.defers:=by cases d<;>rfl
def FrR.ev{ρ:Ren}{fr:Fr}{a:Act}(h:FrR z ρ nt fr a)(hg:GR gl ρ){x:Operand}(hx:okX nt gl x=true):VR ρ (ev fr x) (a.eval x):=by
 cases x with
 | tmp t=>exact h.get t (A2 hx)
 | const v=>exact VR.ofC hx
 | global g =>
   have:=VR.ptr (o:=0) (hg g (A2 hx));exact this
 | func f=>exact .func (a:=[]) (b:=[]) (a':=[]) (b':=[]) rfl rfl (fun i v v' h=>by simp at h) (fun i v v' h=>by simp at h)
def FrR.ops{ρ:Ren}{fr:Fr}{a:Act}(h:FrR z ρ nt fr a)(hg:GR gl ρ){o:Op}(ho:RQ nt gl o=true):FR ρ fr a.eval o:=fun x hx=>h.ev hg (E4.1 ho x hx)
def CK{o:Op}{c:Callee}{xs:Array Operand}{tys:Array TypeId}(h:o=.call ⟨c,xs,tys⟩):∀ x ∈ xs.toList,x ∈ o.operands.toList:=fun x hx=>by
 subst h;show x ∈ ((match c with|.value f=>#[f]|.invoke r _=>#[r]|.builtin _=>#[])++xs:Array Operand).toList;simp;exact .inr (by simpa using hx)
structure B1Q (P:Program) (base gl:Nat) (c:FnC):Prop where
 lg:∀ (vs:List Value) (m m':Mem) (v:Value),c.run vs m=some (v,m')→m.lg.le m'.lg
 ok:∀ (ρ:Ren) (m m':Mem) (w:World) (b:Nat) (args args':List Value) (v:Value) (l:Loc),c.run (yv b::args) m=some (v,m')→Sat m'.lg→At P base gl ρ m m'.hi w→LR ρ args args'→ρ b=some l →
  ∃ f tmps assign body,(Instr.yield l.blk ⟨args'⟩).run P w=.ok (.round l.blk f tmps assign body) w∧RoundIn Fence.wide 0 P l.blk f tmps assign body w (A4K P base ρ m m' w v)
structure Y3 (P:Program) (base gl:Nat) (call:Q9):Prop where
 fn:∀ f,mH P base gl f (call.fn f)
 yl:B1Q P base gl call.yl
def DX{v:Value}{b:Nat}(h:fR v=some b):v=yv b:=by
 unfold fR at h;split at h
 ·cases h;rfl
 ·cases h
def sI{ρ:Ren}{m m':Mem}{w:World}{call:Q9}{fr:Fr}{a:Act}{v:Value}{K:Act→World→Prop}{Q:Exit→Act→World→Prop}(hc:Y3 P base gl call)(ho:(Z9 P call o).run fr m=some (v,m'))(hS:Sat m'.lg)
  (h:At P base gl ρ m m'.hi w) (hg:FR ρ fr a.eval o.op) (hK:∀ v' ρ' w',VR ρ' v v'→St P base ρ ρ' m m' w w'→K (a.put o.dst v') w'):wpO P z.rd o a w K Q:=by
 have hfn:∀ (f:FuncId) (vs vs':List Value),(∀ c,o.op≠.defer c)→(call.fn f).run vs m=some (v,m')→LR ρ vs vs'→(execOp a.eval o).run P w=(callFunc f ⟨vs'⟩).run P w→wpO P z.rd o a w K Q:=fun f vs vs' hd hr hv he=>by
  refine⟨fun _ _=>trivial,?_⟩;rw[Oper.semAt_eq _ _ _ hd,he];rcases(hc.fn f).ok ρ m m' w vs vs' v hr hS h hv with⟨h1,h2⟩|⟨v',ρ',w',h1,h2,h3⟩
  ·rw[h1,Oper.uponIn_enter];refine⟨tQ,qX.2 (h2.mono fun e w' ⟨v',ρ',he,hv,hs⟩=>?_)⟩;subst he;exact hK v' ρ' w' hv hs
  ·rw[h1,Oper.uponIn_value];exact hK v' ρ' w' h2 h3
 have hop0:∀ (hd:∀ c,o.op≠.defer c),NOk P base ρ m w (execOp a.eval o) v m'→wpO P z.rd o a w K Q:=fun hd hn=>by
  obtain⟨v',ρ',w',h1,h2,h3⟩:=hn;refine⟨fun _ _=>trivial,?_⟩;rw[Oper.semAt_eq _ _ _ hd];rcases h1 with h1|⟨h1,rfl⟩
  ·rw[h1,Oper.uponIn_value];exact hK v' ρ' w' h2 h3
  ·rw[h1,Oper.uponIn_skip];exact hK undef ρ' w' h2 h3
 obtain⟨dst,op,ty,pos,af,gd⟩:=o;unfold Z9 at ho;simp only at ho hg;split at ho
 ·rename_i f xs tys;have l1:=dY (ρ:=ρ) (fr:=fr) (g:=a.eval) (xs:=xs.toList) fun x hx=>hg x (CK rfl x hx)
  have ho:(call.fn f).run ((xG xs.toList).run fr) m=some (v,m'):=ho;rw[pP]at ho;refine hfn f _ _ (fun c hc=>by cases hc) ho l1 ?_;have e1:xs.map a.eval=⟨xs.toList.map a.eval⟩:=by apply K1;simp
  simp only[execOp,resolve,Act.eval,Deferred.ofValue,pure_bind,invoke,e1];simp
 ·rename_i x xs tys hne;have l1:=dY (ρ:=ρ) (fr:=fr) (g:=a.eval) (xs:=xs.toList) fun y hy=>hg y (CK rfl y hy)
  have hx:VR ρ (ev fr x) (a.eval x):=hg x (by show x ∈ (#[x]++xs:Array Operand).toList;simp);have ho:NC call m ((U8 x).run fr) ((xG xs.toList).run fr)=some (v,m'):=ho;rw[pP,fQ]at ho;have e1:xs.map a.eval=⟨xs.toList.map a.eval⟩:=by apply K1;simp
  unfold NC at ho;split at ho
  ·rename_i f vs hcal;unfold zH at hcal;split at hcal
   ·rename_i f0 p q hev;cases hcal;rw[hev]at hx;generalize hgx:a.eval x=gx at hx;cases hx with
    | pure hp=>simp[J1]at hp
    | func ha hb h1 h2 =>
      rename_i p q p' q';have lp:LR ρ p p':=⟨ha,h1⟩;have lq:LR ρ q q':=⟨hb,h2⟩;refine hfn f _ _ (fun c hc=>by cases hc) ho (lp.append (l1.append lq)) ?_;simp only[execOp,resolve,hgx,Deferred.ofValue,pure_bind,invoke,e1];simp
   ·cases hcal
  ·split at ho
   ·rename_i b hy;have hev:=DX hy;rw[hev]at hx ho;obtain⟨l,hl,hgx⟩:=A2c hx;obtain⟨f,tmps,as,bd,h1,h2⟩:=hc.yl.ok ρ m m' w b _ _ v l ho hS h l1 hl;refine⟨fun _ _=>trivial,?_⟩;have he:(execOp a.eval ⟨dst,.call ⟨.value x,xs,tys⟩,ty,pos,af,gd⟩).run P w=(Instr.yield l.blk ⟨xs.toList.map a.eval⟩).run P w:=by
     simp only[execOp,resolve,hgx,Deferred.ofValue,pure_bind,invoke,e1];simp
    rw[Oper.semAt_eq _ _ _ (fun c hc=>by cases hc),he,h1,Oper.uponIn_round];refine⟨tQ,?_⟩;have h2:RoundIn (fw z.rd) 0 P l.blk f tmps as bd w (A4K P base ρ m m' w v):=h2;refine h2.mono fun e w' ⟨v',ρ',he,hv,hs⟩=>?_
    subst he;exact hK v' ρ' w' hv hs
   ·cases ho
 ·have ho:A2S P (CG P _) _ fr m=some (v,m'):=ho;unfold A2S at ho;rw[CF]at ho;split at ho
  ·rename_i r hr;cases ho;exact hop0 (fun c hc=>by have hc:op=.defer c:=hc;subst hc;cases hr) (B0H h.hr h.bs hr h.fr hg)
  ·split at ho
   ·rename_i r hr;cases ho;exact hop0 (fun c hc=>by have hc:op=.defer c:=hc;subst hc;cases hr) (A4m h.hr hr hg hS)
   ·split at ho
    ·rename_i r hr;cases ho;exact hop0 (fun c hc=>by have hc:op=.defer c:=hc;subst hc;cases hr) (B09 h.hr h.bs hr h.fr hg hS)
    ·exact hop0 (fun c hc=>by have hc:op=.defer c:=hc;subst hc;cases ho) (A9e h.hr h.bs ho h.fr hg hS)
def aY{m m':Mem}{call:Q9}{fr:Fr}{v:Value}(hc:Y3 P base gl call)(ho:(Z9 P call o).run fr m=some (v,m')):m.lg.le m'.lg:=by
 unfold Z9 at ho;split at ho
 ·exact(hc.fn _).lg _ _ _ _ ho
 ·have ho:NC call m _ _=some (v,m'):=ho;unfold NC at ho;split at ho
  ·exact(hc.fn _).lg _ _ _ _ ho
  ·split at ho
   ·exact hc.yl.lg _ _ _ _ ho
   ·cases ho
 ·have ho:A2S P (CG P _) _ fr m=some (v,m'):=ho;unfold A2S at ho;rw[CF]at ho;split at ho
  ·rename_i r hr;cases ho;show m.lg.le _;rw[B0I hr];exact .refl _
  ·split at ho
   ·rename_i r hr;cases ho;exact(TU hr).1
   ·split at ho
    ·rename_i r hr;cases ho;exact B0_ hr
    ·exact A9f ho
def ZS{lg:Lg}{v:Value}{b c:Bool}(h:KO lg v b=some (c,lg')):lg.le lg':=by
 unfold KO at h;split at h
 ·cases h;exact .refl _
 ·split at h
  ·rename_i hb;cases h;exact oI hb
  ·cases h
 ·obtain⟨_,h⟩:=A5 h;cases h;exact .refl _
def jG{lg:Lg}{fr:Fr}{all:List Oper}{b:Bool}(h:bZ nt fr lg all o=some (b,lg')):lg.le lg':=by
 unfold bZ at h;split at h
 ·cases h;exact .refl _
 ·split at h
  ·split at h
   ·obtain⟨_,h⟩:=A5 h;exact ZS h
   ·cases h
  ·cases h
def rR{ρ:Ren}{lg:Lg}{v v':Value}{b c:Bool}(h:KO lg v b=some (c,lg'))(hv:VR ρ v v')(hS:Sat lg'):(v'=.bool (c == b)∨(c=false∧v'=.tuple ⟨[]⟩)):=by
 unfold KO at h;split at h
 ·rename_i d;cases h;left;rw[dI hv];cases d<;>cases b<;>rfl
 ·split at h
  ·rename_i d l hb;cases h;left
   rw[qZ hb hv hS];cases d<;>cases b<;>rfl
  ·cases h
 ·rename_i u _ _;obtain⟨h3,h4⟩:=A5 h;cases h4;right
  have hu:v=.tuple ⟨[]⟩:=by
   unfold pI at h3;split at h3
   ·rfl
   ·cases h3
  rw[hu]at hv;obtain⟨cs',e,hl⟩:=vE hv;cases hl.nil_inv;exact⟨rfl,e⟩
def oQ{all:Array Oper}{tmps:Z5}{want b:Bool}{t:Tmp}(hg:o.guard=some (j,want))(hp:all.toList[j]? = some p)(ht:p.dst=some t)(hlt:t<tmps.size)
  (hv:tmps.getD t undef=.bool (b == want)∨(b=false∧tmps.getD t undef=.tuple ⟨[]⟩)):Region.wanted o (yielded all tmps)=b:=by
 have hget:tmps[t]? = some (tmps.getD t undef):=by simp[B9,hlt]
 have hj:(all[j]?).bind (·.dst)=some t:=by
  have:all[j]? = some p:=by simpa using hp
  simp[this,ht]
 unfold Region.wanted;simp only[hg];rcases hv with e|⟨rfl,e⟩
 ·have:yielded all tmps j=some (b == want):=by simp[yielded,hj,hget,e]
  rw[this];cases b<;>cases want<;>rfl
 ·have:yielded all tmps j=none:=by simp[yielded,hj,hget,e]
  rw[this];rfl
def KP{ρ:Ren}{lg:Lg}{all:Array Oper}{fr:Fr}{a:Act}{b:Bool}(h:FrR z ρ nt fr a)(hw:bZ nt fr lg all.toList o=some (b,lg'))(hS:Sat lg'):Region.wanted o (yielded all a.tmps)=b:=by
 unfold bZ at hw;split at hw
 ·rename_i hg;cases hw;simp[Region.wanted,hg]
 ·rename_i j want hg;split at hw
  ·rename_i p hp;split at hw
   ·rename_i t ht;obtain⟨h1,h2⟩:=A5 hw;have h1:t<nt:=A2 h1;exact oQ hg hp ht (by rw[h.size];exact h1) (rR h2 (h.get t h1) hS)
   ·cases hw
  ·cases hw
def AC{β:Type}(t:Nat)(v:Value)(fr:Fr)(k:Fr→β):xR (sel (t / 64%8)) (sel (t / 8%8)) (sel (t%8)) v fr k=k (fr.set t v):=HV t v fr k
def yA(d:Option Tmp)(v:Value)(fr:Fr):Fr:=match d with|some t=>fr.set t v|none=>fr
def dL(d:Option Tmp)(v:Value)(fr:Fr)(k:Fr→Option S):(yB d).run v fr k=k (yA d v fr):=by
 cases d with
 | none=>rfl
 | some t=>exact AC t v fr k
def FrR.dst{ρ:Ren}{fr:Fr}{a:Act}{v v':Value}(h:FrR z ρ nt fr a)(hd:CC nt d=true)(hv:VR ρ v v'):FrR z ρ nt (yA d v fr) (a.put d v'):=by
 cases d with
 | none=>exact h
 | some t=>exact h.put (A2 hd) hv
def aM{c:OpC}{next:A4J}{s s':S}(h:mU c (yB d) next s=some s'):∃ v m',c.run s.fr s.m=some (v,m')∧s.m.hi≤m'.hi∧next.run ⟨yA d v s.fr,m'⟩=some s':=by
 unfold mU at h;obtain⟨fr,m⟩:=s;simp only at h;split at h
 ·rename_i v m' hr;obtain⟨h1,h2⟩:=A5 h;rw[dL]at h2;exact⟨v,m',hr,A2 h1,h2⟩
 ·cases h
def uU{call:Q9}{all:List Oper}:∀ (r:List Oper) (s s':S),(X7 P nt gl call all r).run s=some s'→s.m.hi≤s'.m.hi
 | [],s,s',h=>by
   have h:some s=some s':=h;cases h;exact B0 _
 | o::r,s,s',h=>by
   unfold X7 at h;cases hd:CC nt o.dst && RQ nt gl o.op with
   | false=>rw[hd]at h;cases h
   | true =>
     rw[hd]at h;simp only[F0]at h;split at h
     ·obtain⟨v,m',_,h1,h2⟩:=aM h;exact C4 h1 (uU r _ _ h2)
     ·have h:gC nt all o (Z9 P call o) (yB o.dst) (X7 P nt gl call all r) s=some s':=h;unfold gC at h;obtain⟨fr,⟨H,n,W,hi,lg⟩⟩:=s;simp only at h;split at h
      ·obtain⟨v,m',_,h1,h2⟩:=aM h;exact C4 h1 (uU r _ _ h2)
      ·rename_i lg' _;rw[dL]at h;exact uU r ⟨yA o.dst undef fr,⟨H,n,W,hi,lg'⟩⟩ s' h
      ·cases h
def nA{call:Q9}(hc:Y3 P base gl call){all:List Oper}:∀ (r:List Oper) (s s':S),(X7 P nt gl call all r).run s=some s'→s.m.lg.le s'.m.lg
 | [],s,s',h=>by
   have h:some s=some s':=h;cases h;exact .refl _
 | o::r,s,s',h=>by
   unfold X7 at h;cases hd:CC nt o.dst && RQ nt gl o.op with
   | false=>rw[hd]at h;cases h
   | true =>
     rw[hd]at h;simp only[F0]at h;split at h
     ·obtain⟨v,m',h0,h1,h2⟩:=aM h;exact(aY hc h0).trans (nA hc r _ _ h2)
     ·have h:gC nt all o (Z9 P call o) (yB o.dst) (X7 P nt gl call all r) s=some s':=h;unfold gC at h;obtain⟨fr,⟨H,n,W,hi,lg⟩⟩:=s;simp only at h;split at h
      ·rename_i lg' hw;obtain⟨v,m',h0,h1,h2⟩:=aM h;exact(jG hw).trans ((aY hc h0).trans (nA hc r _ _ h2))
      ·rename_i lg' hw;rw[dL]at h;exact(jG hw).trans (nA hc r ⟨yA o.dst undef fr,⟨H,n,W,hi,lg'⟩⟩ s' h)
      ·cases h
def IG{call:Q9}{all:Array Oper}{Q:Exit→Act→World→Prop}(hc:Y3 P base gl call):∀ (r:List Oper) (ρ:Ren) (s s':S) (a:Act) (w:World),(X7 P nt gl call all.toList r).run s=some s'→Sat s'.m.lg→At P base gl ρ s.m s'.m.hi w→FrR z ρ nt s.fr a →
  (∀ ρ' a' w',FrR z ρ' nt s'.fr a'→St P base ρ ρ' s.m s'.m w w'→Q .normal a' w')→wpL P z.rd all Q r a w
 | [],ρ,s,s',a,w,h,hS,hat,hf,hQ=>by
   have h:some s=some s':=h;cases h;exact hQ ρ a w hf (.refl hat.hr)
 | o::r,ρ,s,s',a,w,h,hS,hat,hf,hQ=>by
   unfold X7 at h;cases hd:CC nt o.dst && RQ nt gl o.op with
   | false=>rw[hd]at h;cases h
   | true =>
     rw[hd]at h;simp only[F0]at h;obtain⟨hd1,hd2⟩:=B8 hd;have plain:∀ (s:S),At P base gl ρ s.m s'.m.hi w→FrR z ρ nt s.fr a→(∀ ρ' a' w',FrR z ρ' nt s'.fr a'→St P base ρ ρ' s.m s'.m w w'→Q .normal a' w') →
       mU (Z9 P call o) (yB o.dst) (X7 P nt gl call all.toList r) s=some s'→Region.wanted o (yielded all a.tmps)=true→wpL P z.rd all Q (o::r) a w:=fun s hat hf hQ hr hw=>by
      obtain⟨v,m',h1,h2,h3⟩:=aM hr;have hh:=uU r _ _ h3;have hS':Sat m'.lg:=U3.le hS (nA hc r _ _ h3);refine KM fun K hK=>?_
      rw[A4 hw];refine sI hc h1 hS' (hat.less hh) (hf.ops hat.gr hd2) fun v' ρ' w' hv st=>hK _ _ ?_
      refine IG hc r ρ' _ s' _ _ h3 hS (hat.step st) ((hf.mono st.ext).dst hd1 hv) fun ρ2 a2 w2 f2 st2=>hQ ρ2 a2 w2 f2 (St.trans hat.fr st st2)
     split at h
     ·rename_i hg;exact plain s hat hf hQ h (by simp[Region.wanted,hg])
     ·have h:gC nt all.toList o (Z9 P call o) (yB o.dst) (X7 P nt gl call all.toList r) s=some s':=h;unfold gC at h;obtain⟨fr,m⟩:=s;obtain⟨H,n,W,hi,lg⟩:=m;simp only at h;split at h
      ·rename_i lg' hw;have hst:St P base ρ ρ ⟨H,n,W,hi,lg⟩ ⟨H,n,W,hi,lg'⟩ w w:=St.wLg (m:=⟨H,n,W,hi,lg⟩) hat.hr lg';obtain⟨v,m',h0,h1,h2⟩:=aM h;have hS':Sat lg':=U3.le hS ((aY hc h0).trans (nA hc r _ _ h2));exact plain ⟨fr,⟨H,n,W,hi,lg'⟩⟩ (hat.wLg lg') hf (fun ρ2 a2 w2 f2 st2=>hQ ρ2 a2 w2 f2 (St.trans hat.fr hst st2)) h (KP hf hw hS')
      ·rename_i lg' hw;have hst:St P base ρ ρ ⟨H,n,W,hi,lg⟩ ⟨H,n,W,hi,lg'⟩ w w:=St.wLg (m:=⟨H,n,W,hi,lg⟩) hat.hr lg';rw[dL]at h;have hS':Sat lg':=U3.le hS (nA hc r ⟨yA o.dst undef fr,⟨H,n,W,hi,lg'⟩⟩ s' h);refine KM fun K hK=>?_
       rw[A3 (by rw[KP hf hw hS'];simp)];exact hK _ _ (IG hc r ρ ⟨yA o.dst undef fr,⟨H,n,W,hi,lg'⟩⟩ s' _ _ h hS (hat.wLg lg') (hf.dst hd1 (rU ρ)) fun ρ2 a2 w2 f2 st2=>hQ ρ2 a2 w2 f2 (St.trans hat.fr hst st2))
      ·cases h
def Ex.out:Ex→Exit
 | .normal=>.normal
 | .exit id=>.exit id
 | .ret=>.ret
def A5h{ops:List Oper}{z:Zn}{ρ:Ren}{s:S}{a:Act}{w:World}(hm:nI P nt gl s.fr s.m.H ops=true)(hr:HR P base ρ s.m.H w)(hgr:GR gl ρ)(hf:FrR z ρ nt s.fr a):QE P ops (a,w):=by
 obtain⟨h1,h2⟩:=B8 hm;have key:∀ o ∈ ops,∀ t x,oK o.op=some (t,x)→∃ ad l cs T,ev s.fr x=.pointer (some ad)∧ρ ad.block=some l∧a.eval x=.pointer (some ⟨l.blk,ad.off+l.sh,none⟩)∧Hp.get s.m.H ad.block=some (.cells cs T false)∧ad.block≤I4∧l.on=true∧DV P w t (a.eval x):=fun o ho t x hx=>by
  have hp:=E4.1 h1 o ho;unfold A1j at hp;rw[hx]at hp;simp only at hp;cases hk:okX nt gl x with
  | false=>rw[hk]at hp;cases hp
  | true =>
    rw[hk]at hp;simp only[Q3,E7]at hp;split at hp
    ·rename_i ad g sz e1 e2 e3;split at hp
     ·rename_i cs T hsp hget;obtain⟨q1,hp⟩:=B8 hp;obtain⟨q2,q3⟩:=B8 hp;have q1:=A2 q1;have q2:ad.off<cs.length:=A2 q2;have q3:=A2 q3;have hv:=hf.ev hgr hk;rw[e1]at hv;obtain⟨l,l1,_,l3⟩:=R9 hv;obtain⟨⟨hon,C,fz,T',c1,c2,_⟩,_⟩:=hr.atl l1 hget;have hin:∀ k,k<cs.length→l.sh+k<C.size:=fun k hk=>by
       obtain⟨v',hv',_⟩:=c2 k cs[k] (A8 hk);exact(D9.1 hv').1
      refine⟨ad,l,cs,T,e1,l1,l3,hget,q3,hon,l.blk,ad.off+l.sh,C,T',fz,sz,g,l3,c1,e3,e2,?_,?_⟩
      ·have:=hin ad.off q2;by_cases h0:sz=0
       ·omega
       ·have:=hin (ad.off+sz-1) A1;omega
      ·have:=hin ad.off q2;omega
     ·cases hp
    ·cases hp
 refine⟨fun o ho t x hx=>by obtain⟨_,_,_,_,_,_,_,_,_,_,h⟩:=key o ho t x hx;exact h,fun i j o p hij hi hj he hst t x u y hx hy ad1 ad2 e1 e2=>?_⟩;obtain⟨ad,l,cs,T,k1,k2,k3,k4,k5,k6,_⟩:=key o (E6 hi) t x hx;obtain⟨bd,r,ds,V,n1,n2,n3,n4,n5,n6,_⟩:=key p (E6 hj) u y hy;have hne:=MG h2 hij hi hj he;unfold A4D at hne;rw[hst]at hne;simp only[F0,hx,hy,k1,n1]at hne;rw[k3]at e1;rw[n3]at e2;cases e1;cases e2;show l.blk≠r.blk;intro e;obtain⟨_,hu⟩:=hr.atl k2 k4;obtain⟨_,hu⟩:=hu rfl k6
 have:=hu bd.block n5 _ r n4 n2 (.inl ⟨rfl,n6,e.symm⟩);rw[this,fI]at hne;cases hne
def At.drew{ρ:Ren}{m:Mem}{hi:Nat}{w:World}(hat:At P base gl ρ m hi w)(d:Nat):At P base gl ρ m hi { w with drawn:=d } :=
 ⟨⟨fun b l h=>hat.hr.dom b l h,fun id hid ab hab=>by
  obtain⟨l,e1,e2,e3⟩:=hat.hr.at_ id hid ab hab;exact⟨l,e1,BR.mono (w:=w) (fun _ _ h=>h) (fun _ _=>rfl) e2,e3⟩⟩,hat.bs,hat.fr,hat.gr,hat.nh,hat.wb,hat.gf⟩
def St.undrew{ρ ρ':Ren}{m m':Mem}{w w':World}{d:Nat}(st:St P base ρ ρ' m m' { w with drawn:=d } w'):St P base ρ ρ' m m' w w' :=
 ⟨st.ext,st.new,st.nle,st.hle,st.nhi,st.hr,st.wsub,st.wrw,st.keep,st.size,st.os,st.blk,st.same,st.tch⟩
def RL{call:Q9}{ops:Array Oper}{z:Zn}{id:Nat}(hmx:P.follows .mixedOrders=true)(hc:Y3 P base gl call){ρ:Ren}{s s':S}{a:Act}{w:World}{Q:Exit→Act→World→Prop}(hr:mW ops.toList=true)(hm:nI P nt gl s.fr s.m.H ops.toList=true)(h:(X7 P nt gl call ops.toList ops.toList).run s=some s')(hS:Sat s'.m.lg)(hat:At P base gl ρ s.m s'.m.hi w)(hf:FrR z ρ nt s.fr a)
  (hQ:∀ ρ' a' w',FrR z ρ' nt s'.fr a'→St P base ρ ρ' s.m s'.m w w'→Q .normal a' w'):(Code.region id ops true).wpIn (fw z.rd) 0 P Q a w:=by
 refine mJ hmx (A42 hr (fun w' hw'=>?_) (fun d=>?_) _)
 ·have hg:=A5h hm hat.hr hat.gr hf;refine⟨fun o ho t x hx=>?_,hg.ap⟩;obtain⟨b,o',C,T,fz,sz,g,e1,e2,e3⟩:=hg.pl o ho t x hx;exact⟨b,o',C,T,fz,sz,g,e1,by show w'.heap[b]? = _;rw[hw'];exact e2,e3⟩
 ·exact IG hc ops.toList ρ s s' a { w with drawn:=d } h hS (hat.drew d) hf fun ρ' a' w' f1 st=>⟨rfl,hQ ρ' a' w' f1 st.undrew⟩
def fG(P:Program)(base gl:Nat)(call:Q9):Prop :=
 P.follows .mixedOrders=true∧∀ (nt:Nat) (ops:Array Oper),JR ops=true→∀ (s s':S),x9 P nt gl call ops.toList ops.toList 0 (m6 ops.toList []) [] [] s=some s'→(s.m.hi≤s'.m.hi∧s.m.lg.le s'.m.lg) ∧
  ∀ (z:Zn) (ρ:Ren) (a:Act) (w:World) (id:Nat) (Q:Exit→Act→World→Prop),Sat s'.m.lg→At P base gl ρ s.m s'.m.hi w→FrR z ρ nt s.fr a →
   (∀ ρ' a' w',FrR z ρ' nt s'.fr a'→St P base ρ ρ' s.m s'.m w w'→Q .normal a' w')→(Code.region id ops true).wpIn (fw z.rd) 0 P Q a w
def Q2:∀ (q r:List Bool) (c:Code),I0 (q++r) c=(I0 q c).bind (I0 r)
 | [],r,c=>rfl
 | false::q,r,.seq a b=>Q2 q r a
 | true::q,r,.seq a b=>Q2 q r b
 | false::q,r,.cond _ a b=>Q2 q r a
 | true::q,r,.cond _ a b=>Q2 q r b
 | false::q,r,.block _ c=>Q2 q r c
 | false::q,r,.loop c=>Q2 q r c
 | false::q,r,.scope c=>Q2 q r c
 | true::q,r,.scope c=>rfl
 | true::q,r,.block _ c=>rfl
 | true::q,r,.loop c=>rfl
 | b::q,r,.skip=>by cases b<;>rfl
 | b::q,r,.region _ _ _=>by cases b<;>rfl
 | false::q,r,.rangeFunc _ _ a _=>Q2 q r a
 | true::q,r,.rangeFunc _ _ _ b=>Q2 q r b
 | b::q,r,.exit _=>by cases b<;>rfl
 | b::q,r,.label _=>by cases b<;>rfl
 | b::q,r,.goto _=>by cases b<;>rfl
 | b::q,r,.ret=>by cases b<;>rfl
 | b::q,r,.refuse _=>by cases b<;>rfl
def J4{b:Bool}{body c d:Code}(h:I0 q body=some c)(hb:I0 [b] c=some d):I0 (q++[b]) body=some d:=by
 rw[Q2,h];exact hb
structure X1 (P:Program) (base gl nt:Nat) (c:Code) (L:S→Option (Ex×S)):Prop where
 lg:∀ (s s':S) (e:Ex),L s=some (e,s')→s.m.hi≤s'.m.hi∧s.m.lg.le s'.m.lg
 ok:∀ (s s':S) (e:Ex),L s=some (e,s')→Sat s'.m.lg→∃ N,∀ (z:Zn) (ρ:Ren) (a:Act) (w:World) (Q:Exit→Act→World→Prop),At P base gl ρ s.m s'.m.hi w→FrR z ρ nt s.fr a →
  (∀ ρ' a' w',FrR z ρ' nt s'.fr a'→St P base ρ ρ' s.m s'.m w w'→Q e.out a' w')→Code.roundsIn (fw z.rd) 0 P c Q N a w
def orL(a b:S→Option (Ex×S))(s:S):Option (Ex×S) :=
 match a s with
 | some r=>some r
 | none=>b s
def X1.or{nt:Nat}{c:Code}{a b:S→Option (Ex×S)}(ha:X1 P base gl nt c a)(hb:X1 P base gl nt c b):X1 P base gl nt c (orL a b):=by
 refine⟨fun s s' e h=>?_,fun s s' e h hS=>?_⟩
 ·unfold orL at h;split at h
  ·rename_i r hr;cases h;exact ha.lg _ _ _ hr
  ·exact hb.lg _ _ _ h
 ·unfold orL at h;split at h
  ·rename_i r hr;cases h;exact ha.ok _ _ _ hr hS
  ·exact hb.ok _ _ _ h hS
def TI(P:Program)(base gl nt:Nat)(body:Code)(lp:LpT):Prop :=
 (∃ fn,P.funcs[lp.me]? = some fn∧fn.body=some body∧fn.ntmps=nt)∧∀ q x L,I0 q body=some (.loop x)→lp.look q=some L→X1 P base gl nt x L
def pB{m m':Mem}{ab:AB}{k:Nat→Value}{v:Value}(h:p9 m ab k=some (v,m')):v=k m.n∧m.hi≤m'.hi∧m'.lg=m.lg:=by
 obtain⟨_,h2,rfl⟩:=N5 h;exact⟨h2,(M5 _ _).1,rfl⟩
def oV{m m':Mem}{id:Nat}{ab:AB}(h:gA m id ab=some m'):m'.hi=m.hi∧m'.lg=m.lg:=by
 obtain⟨_,rfl⟩:=X5 h;exact⟨rfl,rfl⟩
def wQ{fr:Fr}{hi b:Nat}{r:Res}{e:Ex}{s':S}(h:sS fr hi b r=some (e,s')):∃ v m f q vs st m',r=some (v,m)∧Hp.get m.H b=some (.lp f q vs st)∧nEx st=some e∧hi≤m.hi∧gA m b (.lp f q vs 3)=some m'∧s'=⟨fr,m'⟩:=by
 unfold sS at h;split at h
 ·rename_i v m;split at h
  ·rename_i f q vs st hg;split at h
   ·rename_i e0 he;obtain⟨h1,h⟩:=A5 h;split at h
    ·rename_i m' hm;cases h;exact⟨_,_,_,_,_,_,_,rfl,hg,he,A2 h1,hm,rfl⟩
    ·cases h
   ·cases h
  ·cases h
 ·cases h
def AO{call:Q9}{f:FuncId}{fr:Fr}{m:Mem}{e:Ex}{s':S}(h:cX P nt call f q g fr m=some (e,s')) :
  ∃ m1 k a b,p9 m (.lp f q (frL fr 0 nt) 0) yv=some (yv m.n,m1)∧g=.func (.func k) a b∧tO P k=true∧sS fr m1.hi m.n ((call.fn k).run (a.toList++([yv m.n]++b.toList)) m1)=some (e,s'):=by
 unfold cX at h;rw[I6]at h;split at h
 ·rename_i v m1 hn;have hv:=(pB hn).1;subst hv;have hy:fR (yv m.n)=some m.n:=rfl;split at h
  ·rename_i k as b hc hb;rw[hy]at hb;cases hb;obtain⟨h1,h⟩:=A5 h;unfold zH at hc;split at hc
   ·cases hc;exact⟨m1,_,_,_,hn,rfl,h1,h⟩
   ·cases hc
  ·cases h
 ·cases h
def qI{call:Q9}(hc:Y3 P base gl call){f:FuncId}{fr:Fr}{m:Mem}{e:Ex}{s':S}(h:cX P nt call f q g fr m=some (e,s')):m.hi≤s'.m.hi∧m.lg.le s'.m.lg:=by
 obtain⟨m1,k,a,b,h1,_,_,h2⟩:=AO h;obtain⟨v,m2,f,q,vs,st,m3,e1,_,_,e2,e3,rfl⟩:=wQ h2
 have:=(hc.fn k).lg _ _ _ _ e1;obtain⟨g1,g2⟩:=oV e3;obtain⟨_,k1,k2⟩:=pB h1;refine⟨by show m.hi≤m3.hi;rw[g1];exact C4 k1 e2,?_⟩;show m.lg.le m3.lg;rw[g2,← k2];exact this
def GW{call:Q9}{f:FuncId}{x:XC}{s s':S}{e:Ex}(h:CM P nt call f q x s=some (e,s')):nt≤510 ∧
  ((∃ b0 f0 q0 vs0,fR (s.fr.get 511)=some b0∧Hp.get s.m.H b0=some (.lp f0 q0 vs0 1)∧cX P nt call f q (x.run s.fr) s.fr s.m=some (e,s')) ∨
    (pI (s.fr.get 511)=true∧∃ m1,p9 s.m (.dfr true) (fun b=>.pointer (some ⟨b,0,none⟩))=some (.pointer (some ⟨s.m.n,0,none⟩),m1) ∧
      cX P nt call f q (x.run s.fr) (s.fr.set 510 (dv (s.m.n::kC (s.fr.get 510)))) m1=some (e,s'))):=by
 unfold CM at h;obtain⟨fr,m⟩:=s;obtain⟨h1,h⟩:=A5 h;refine⟨A2 h1,?_⟩;split at h
 ·rename_i b0 hb;split at h
  ·rename_i f0 q0 vs0 hg;exact .inl ⟨b0,f0,q0,vs0,hb,hg,h⟩
  ·cases h
 ·obtain⟨h2,h⟩:=A5 h;refine .inr ⟨h2,?_⟩;split at h
  ·rename_i a m1 hn;have hv:=(pB hn).1;cases hv;rw[I6]at h;have:xR (sel 7) (sel 7) (sel 6) (dv (m.n::kC (fr.get 510))) fr (fun fr2=>cX P nt call f q (x.run fr) fr2 m1)=cX P nt call f q (x.run fr) (fr.set 510 (dv (m.n::kC (fr.get 510)))) m1:=AC 510 _ _ _;rw[this]at h;exact⟨m1,hn,h⟩
  ·cases h
def ZF{call:Q9}(hc:Y3 P base gl call){f:FuncId}{x:XC}{s s':S}{e:Ex}(h:CM P nt call f q x s=some (e,s')):s.m.hi≤s'.m.hi∧s.m.lg.le s'.m.lg:=by
 obtain⟨_,⟨_,_,_,_,_,_,h⟩|⟨_,m1,hn,h⟩⟩:=GW h
 ·exact qI hc h
 ·have:=qI hc h;obtain⟨_,k1,k2⟩:=pB hn;rw[k2]at this;exact⟨C4 k1 this.1,this.2⟩
def VY(fr:Fr):∀ (n i j:Nat),(frL fr i n)[j]? = if j<n then some (fr.get (i+j))else none
 | 0,i,j=>by simp[frL]
 | n+1,i,0=>by simp[frL]
 | n+1,i,j+1=>by
   rw[frL,U0,VY fr n (i+1) j];have:i+1+j=i+(j+1):=A1;rw[this];by_cases h:j<n
   ·rw[A4 h,A4 A1]
   ·rw[A3 h,A3 A1]
def JF(fr:Fr):∀ (n i:Nat),(frL fr i n).length=n
 | 0,i=>rfl
 | n+1,i=>by simp[frL,JF fr n]
def FrR.list{ρ:Ren}{fr:Fr}{a:Act}(h:FrR z ρ nt fr a):LR ρ (frL fr 0 nt) a.tmps.toList:=by
 refine⟨by rw[JF];simpa using h.size.symm,fun i v v' h1 h2=>?_⟩;rw[VY]at h1;split at h1
 ·rename_i hi;cases h1
  have:=h.get i hi;rw[G0];have h3:a.tmps.getD i undef=v':=by
   have:a.tmps[i]? = some v':=by simpa using h2
   simp[B9,this]
  rw[h3]at this;exact this
 ·cases h1
def SN{k:FuncId}(h:tO P k=true):∃ fn c,P.funcs[k]? = some fn∧fn.body=some c:=by
 unfold tO at h;split at h
 ·rename_i fn hf;split at h
  ·rename_i c hb;exact⟨fn,c,by simpa using hf,hb⟩
  ·cases h
 ·cases h
def qD{k:FuncId}{args:Z5}{w w':World}{v:Value}(h:tO P k=true):(callFunc k args).run P w≠.ok (.value v) w':=by
 obtain⟨fn,c,h1,h2⟩:=SN h;by_cases hn:fn.name = "runtime.NumGoroutine"
 ·simp[callFunc,h1,hn]
 ·simp[callFunc,h1,hn,h2]
def kU{w:World}{l:Nat}{o:Obj}(h:l<w.heap.size):(w.putObj l o).heap.size=w.heap.size∧(w.putObj l o).heap[l]? = some o∧∀ k,k≠l→(w.putObj l o).heap[k]? = w.heap[k]? := ⟨by simp[World.putObj],World.putObj_heap_same h,fun k hk=>World.putObj_heap_other hk⟩
def AN{call:Q9}(hc:Y3 P base gl call){fn:Func}{body:Code}(f1:P.funcs[me]? = some fn)(f2:fn.body=some body)(f3:fn.ntmps=nt)(hq:I0 q body=some (.rangeFunc x ps as bd))
  {fr:Fr} {m:Mem} {e:Ex} {s':S} (h:cX P nt call me q g fr m=some (e,s')) (hS:Sat s'.m.lg) {ρ:Ren} {a:Act} {w:World} {r:Loop} (hat:At P base gl ρ m s'.m.hi w) (hf:FrR z ρ nt fr a) (hg:VR ρ g (a.eval x))
  (hr:r.state=.ready∧r.pending=none∧r.tmps=a.tmps∧r.params=ps∧r.assign=as∧r.body=bd) {Q:Exit→Act→World→Prop}
  (hQ:∀ ρ' w',FrR z ρ' nt s'.fr a→St P base ρ ρ' m s'.m w w'→Q e.out a w') :
  ∃ k args d,(resolve a.eval (rangeCall x w.heap.size) 0).run P (w.alloc (.loop r))=.ok d (w.alloc (.loop r))∧(invoke d.target d.args).run P (w.alloc (.loop r))=.ok (.enter k args) (w.alloc (.loop r)) ∧
   CallsIn (fw z.rd) 0 P k args (w.alloc (.loop r)) (rangePost (fw z.rd) 0 P w.heap.size Q a):=by
 obtain⟨m1,k,A,B,h1,hgv,hbod,h2⟩:=AO h;obtain⟨v,m2,ff,qq,vs,st,m3,e1,e2,e3,e4,e5,rfl⟩:=wQ h2;obtain⟨g1,g2⟩:=oV e5;obtain⟨_,g3,g4⟩:=pB h1;have hS2:Sat m2.lg:=by have:Sat m3.lg:=hS;rwa[g2]at this
 have hfree:L6 ρ m.n m3.hi:=hat.fr;have hle:m1.hi≤m3.hi:=by rw[g1];exact e4
 obtain⟨r1,r2,r3,r4,r5,r6⟩:=hr;subst r4;subst r5;subst r6;have hheap:(w.alloc (.loop r)).heap=w.heap.push (.loop r):=rfl;have hfree0:ρ m.n=none:=hfree m.n (B0 _) (by
  obtain⟨_,_,q⟩:=N5 h1;have:m1.hi=upN m.hi m.n:=by rw[q]
  have h3:=(M5 m.hi m.n).2;omega)
 obtain⟨_,k1,st1⟩:=St.alloc (w':=w.alloc (.loop r)) (o:=.loop r) (l:=lc w.heap.size 0 0) hat.hr hat.bs h1 (hfree.less hle) ⟨rfl,rfl,rfl⟩ hheap rfl (by
  refine⟨⟨rfl,rfl⟩,r,by simp[hheap],⟨fn,body,x,f1,f2,hq,by rw[JF,f3]⟩,?_,⟨r1,r2⟩⟩;rw[r3];exact hf.list.mono (j9 hfree0))
 have hat1:=hat.step st1;obtain⟨A,rfl⟩:∃ l:D4,A=⟨l⟩:=⟨A.toList,rfl⟩;obtain⟨B,rfl⟩:∃ l:D4,B=⟨l⟩:=⟨B.toList,rfl⟩;subst hgv;generalize hgx:a.eval x=gx at hg;cases hg with
 | pure hp=>simp[J1]at hp
 | func ha hb q1 q2 =>
   rename_i A' B';have lA:LR ρ A A':=⟨ha,q1⟩;have lB:LR ρ B B':=⟨hb,q2⟩;have hy:VR (upd ρ m.n (lc w.heap.size 0 0)) (yv m.n) (.func (.yield w.heap.size) #[] #[]):=VR.yv k1;have hl:=(lA.mono st1.ext).append ((LR.cons hy .nil).append (lB.mono st1.ext));refine⟨k,⟨A'++([.func (.yield w.heap.size) #[] #[]]++B')⟩,{ target:=.fn (.func k) ⟨B'⟩,args:=⟨A'⟩++#[.func (.yield w.heap.size) #[] #[]] },?_,?_,?_⟩
   ·show(Deferred.ofValue (a.eval x) _).run P _=_;rw[hgx];simp[Deferred.ofValue,Act.eval]
   ·have hen:(callFunc k ⟨A'++([.func (.yield w.heap.size) #[] #[]]++B')⟩).run P (w.alloc (.loop r))=.ok (.enter k ⟨A'++([.func (.yield w.heap.size) #[] #[]]++B')⟩) (w.alloc (.loop r)):=by
     rcases(hc.fn k).ok _ m1 m2 _ _ _ v e1 hS2 (hat1.less (by show m2.hi≤m3.hi;rw[g1];exact B0 _)) hl with⟨c1,_⟩|⟨v',ρ',w',c1,_⟩
     ·exact c1
     ·exact absurd c1 (qD hbod)
    rw[← hen];show(callFunc k _).run P _=_;congr 2
    apply K1;simp
   ·rcases(hc.fn k).ok _ m1 m2 _ _ _ v e1 hS2 (hat1.less (by show m2.hi≤m3.hi;rw[g1];exact B0 _)) hl with⟨_,c2⟩|⟨v',ρ',w',c1,_⟩
    ·refine qX.2 (c2.mono fun en w2 ⟨v',ρ2,he,hv,st2⟩=>?_);subst he;have k2:=st2.ext _ _ k1;obtain⟨b1,b2⟩:=st2.hr.atl k2 e2;obtain⟨⟨b3,b4⟩,r0,b5,b6⟩:=b1;have b5:w2.heap[w.heap.size]? = some (.loop r0):=b5;have hbusy:r0.state≠.busy:=by
      have hs:=b6.st;intro hb
      match st,hs,e3 with
      | 0,hs,_=>rw[hb]at hs;cases hs.1
      | 2,hs,_=>rw[hb]at hs;cases hs.1
      | k+4,hs,_=>rw[hb]at hs;cases hs.1
     obtain⟨p1,p2,p3⟩:=kU (o:=.loop { r0 with state:=.exhausted }) (D9.1 b5).1;have st3:St P base ρ2 ρ2 m2 m3 w2 (w2.putObj w.heap.size (.loop { r0 with state:=.exhausted })):=St.write st2.hr e5 e2 rfl k2 rfl ⟨rfl,rfl,rfl⟩ p1 p3 ⟨⟨rfl,rfl⟩,_,p2,b6.code,b6.fr,trivial⟩;have hst:St P base ρ ρ2 m m3 w _:=St.trans hfree st1 (St.trans hat1.fr st2 st3);have hfin:=hQ ρ2 _ (hf.mono hst.ext) hst;refine⟨r0.pending,_,run_endLoop b5 hbusy,?_⟩;have hs:=b6.st
     match st,hs,e3 with
     | 0,hs,e3=>cases e3;rw[show r0.pending=none from hs.2]at hfin ⊢;exact hfin
     | 2,hs,e3=>cases e3;rw[show r0.pending=some .ret from hs.2]at hfin ⊢;exact wpIn_ret hfin
     | k+4,hs,e3=>cases e3;rw[show r0.pending=some (.exit k)from hs.2]at hfin ⊢;exact wpIn_exit hfin
    ·exact absurd c1 (qD hbod)
def A1T{call:Q9}(hc:Y3 P base gl call){fn:Func}{body:Code}(f1:P.funcs[me]? = some fn)(f2:fn.body=some body)(f3:fn.ntmps=nt)(hq:I0 q body=some (.rangeFunc x ps as bd))(hx:okX nt gl x=true)
  {s s':S} {e:Ex} {ρ:Ren} {a:Act} {w:World} {Q:Exit→Act→World→Prop} (h:CM P nt call me q (U8 x) s=some (e,s')) (hS:Sat s'.m.lg) (hat:At P base gl ρ s.m s'.m.hi w) (hf:FrR z ρ nt s.fr a)
  (hQ:∀ ρ' a' w',FrR z ρ' nt s'.fr a'→St P base ρ ρ' s.m s'.m w w'→Q e.out a' w'):(Code.rangeFunc x ps as bd).wpIn (fw z.rd) 0 P Q a w:=by
 obtain⟨hn,h⟩:=GW h;refine wpIn_rangeFunc fun fid _=>?_
 have hv:=hf.ev hat.gr hx;rcases h with⟨b0,f0,q0,vs0,hy,hg,h⟩|⟨hu,m1,hnew,h⟩
 ·obtain⟨l0,e1,e2⟩:=(hf.rd hn).2 b0 hy;obtain⟨⟨_,r0,b1,_⟩,_⟩:=hat.hr.atl e1 hg;have hen:(Instr.enterLoop fid a.tmps ps as bd (fw z.rd).round).run P w=.ok (w.heap.size,[]) (w.alloc (.loop { state:=.ready,pending:=none,fn:=fid,tmps:=a.tmps,params:=ps,assign:=as,body:=bd,defers:=r0.defers })):=by
   show(Instr.enterLoop fid a.tmps ps as bd z.rd).run P w=_;rw[e2];unfold Instr.enterLoop;simp only[A6,run_getLoop b1,run_newObj_alloc,Result.andThen,Sem.run_pure]
  rw[fQ]at h;obtain⟨k,args,d,c1,c2,c3⟩:=AN (r:={ state:=.ready,pending:=none,fn:=fid,tmps:=a.tmps,params:=ps,assign:=as,body:=bd,defers:=r0.defers }) hc f1 f2 f3 hq h hS hat hf hv ⟨rfl,rfl,rfl,rfl,rfl,rfl⟩ (Q:=Q) fun ρ' w' g1 g2=>hQ ρ' a w' g1 g2
  exact⟨_,_,_,d,_,k,args,_,hen,c1,fun _ _=>trivial,c2,tQ,c3⟩
 ·have hrd:=(hf.rd hn).1 hu;have hfree:L6 ρ s.m.n s'.m.hi:=hat.fr;have hgo:=qI hc h;obtain⟨_,g3,g4⟩:=pB hnew;have hen:(Instr.enterLoop fid a.tmps ps as bd (fw z.rd).round).run P w=.ok (w.heap.size+1,[{ target:=.collected w.heap.size,args:=#[] }]) ((w.alloc (.deferred (some []))).alloc (.loop { state:=.ready,pending:=none,fn:=fid,tmps:=a.tmps,params:=ps,assign:=as,body:=bd,defers:=w.heap.size })):=by
   show(Instr.enterLoop fid a.tmps ps as bd z.rd).run P w=_;rw[hrd];exact run_enterLoop_outer fid a.tmps ps as bd
  have hheap:(w.alloc (.deferred (some []))).heap=w.heap.push (.deferred (some [])):=rfl;obtain⟨_,k1,st1⟩:=St.alloc (w':=w.alloc (.deferred (some []))) (o:=.deferred (some [])) (l:=lc w.heap.size 0 0) hat.hr hat.bs hnew (hfree.less hgo.1) ⟨rfl,rfl,rfl⟩ hheap rfl ⟨⟨rfl,rfl⟩,_,by simp[hheap],fun _=>rfl⟩;have hat1:=hat.step st1;have hsz:(w.alloc (.deferred (some []))).heap.size=w.heap.size+1:=by simp[hheap]
  let a2:Act:={ a with defers:={ target:=.collected w.heap.size,args:=#[] }::a.defers }
  have hf2:FrR z (upd ρ s.m.n (lc w.heap.size 0 0)) nt (s.fr.set 510 (dv (s.m.n::kC (s.fr.get 510)))) a2:=by
   have hf1:=hf.mono st1.ext;have hget:∀ t,t<512→t≠510→(s.fr.set 510 (dv (s.m.n::kC (s.fr.get 510)))).get t=s.fr.get t:=fun t h1 h2=>by rw[N2 _ _ _ _ C3 h1,A3 h2]
   refine⟨hf1.size,hf1.le,?_,fun _=>by rw[hget 511 C3 C3];exact hf1.rd hn,fun t ht=>by rw[hget t A1 A1];exact hf1.get t ht⟩;obtain⟨ds,d1,d2⟩:=hf1.df;refine⟨{ target:=.collected w.heap.size,args:=#[] }::ds,by show _::a.defers=_;rw[d1];rfl,?_⟩;unfold dvG at d2 ⊢;have hb:Nat.ble nt 510=true:=C8 hn;rw[hb]at d2 ⊢;rw[N2 _ _ _ _ C3 C3,A4 rfl];have hd:kC (dv (s.m.n::kC (s.fr.get 510)))=s.m.n::kC (s.fr.get 510):=by
    simp[kC,dv,A7l,Function.comp_def]
   simp only[F0,hd]at d2 ⊢;refine⟨by simp[d2.1],fun i id d h1 h2=>?_⟩;cases i with
   | zero =>
     simp only[T9,D7]at h1 h2;subst h1;subst h2;exact⟨_,k1,rfl⟩
   | succ i=>exact d2.2 i id d (by simpa using h1) (by simpa using h2)
  have hv2:VR (upd ρ s.m.n (lc w.heap.size 0 0)) ((U8 x).run s.fr) (a2.eval x):=by
   rw[fQ];exact hv.mono st1.ext
  obtain⟨k,args,d,c1,c2,c3⟩:=AN (r:={ state:=.ready,pending:=none,fn:=fid,tmps:=a.tmps,params:=ps,assign:=as,body:=bd,defers:=w.heap.size }) hc f1 f2 f3 hq h hS hat1 hf2 hv2 ⟨rfl,rfl,rfl,rfl,rfl,rfl⟩ (Q:=Q) fun ρ' w' g1 g2=>hQ ρ' a2 w' g1 (St.trans hfree st1 g2)
  rw[hsz]at c1 c3;exact⟨_,_,_,d,_,k,args,_,hen,c1,fun _ _=>trivial,c2,tQ,c3⟩
def AV{call:Q9}{lp:LpT}{q:List Bool}{x:Code}(hx:∀ (s s':S) (e:Ex),(P0 P nt gl call lp q x).run s=some (e,s')→s.m.hi≤s'.m.hi∧s.m.lg.le s'.m.lg):∀ (n:Nat) (s s':S) (e:Ex),FK (P0 P nt gl call lp q x) n s=some (e,s')→s.m.hi≤s'.m.hi∧s.m.lg.le s'.m.lg
 | 0,s,s',e,h=>by cases h
 | n+1,s,s',e,h=>by
   unfold FK at h;split at h
   ·rename_i s1 h1;have a:=hx _ _ _ h1;have b:=AV hx n _ _ _ h;exact⟨C4 a.1 b.1,a.2.trans b.2⟩
   ·exact hx _ _ _ h
def AW{call:Q9}{lp:LpT}{q:List Bool}{x:Code}{L:S→Option (Ex×S)}(hx:∀ (s s':S) (e:Ex),(P0 P nt gl call lp q x).run s=some (e,s')→s.m.hi≤s'.m.hi∧s.m.lg.le s'.m.lg)
  (hL:∀ (s s':S) (e:Ex),L s=some (e,s')→s.m.hi≤s'.m.hi∧s.m.lg.le s'.m.lg):∀ (n:Nat) (s s':S) (e:Ex),FL (P0 P nt gl call lp q x) L n s=some (e,s')→s.m.hi≤s'.m.hi∧s.m.lg.le s'.m.lg
 | 0,s,s',e,h=>by cases h
 | n+1,s,s',e,h=>by
   unfold FL at h;split at h
   ·rename_i r hr;cases h;exact hL _ _ _ hr
   ·split at h
    ·rename_i s1 h1;have a:=hx _ _ _ h1;have b:=AW hx hL n _ _ _ h;exact⟨C4 a.1 b.1,a.2.trans b.2⟩
    ·exact hx _ _ _ h
def PO{c:XC}{a b:iS}{s s':S}{e:Ex}(h:PP c a b s=some (e,s')):∃ t lg,brL s.m.lg (c.run s.fr)=some (t,lg)∧(bif t then a.run ⟨s.fr,s.m.wLg lg⟩else b.run ⟨s.fr,s.m.wLg lg⟩)=some (e,s'):=by
 obtain⟨fr,⟨H,n,W,hi,lg⟩⟩:=s;unfold PP at h;split at h
 ·rename_i hc;exact⟨true,lg,by rw[hc];rfl,h⟩
 ·rename_i hc;exact⟨false,lg,by rw[hc];rfl,h⟩
 ·simp only at h;split at h
  ·rename_i lg' hb;exact⟨true,lg',hb,h⟩
  ·rename_i lg' hb;exact⟨false,lg',hb,h⟩
  ·cases h
def W4{call:Q9}{lp:LpT}{body:Code}(hc:Y3 P base gl call)(hd:fG P base gl call)(hlp:TI P base gl nt body lp):∀ (c:Code) (q:List Bool),I0 q body=some c→∀ (s s':S) (e:Ex),(P0 P nt gl call lp q c).run s=some (e,s')→s.m.hi≤s'.m.hi∧s.m.lg.le s'.m.lg
 | .skip,q,hq,s,s',e,h=>by have h:some (Ex.normal,s)=some (e,s'):=h;cases h;exact⟨B0 _,.refl _⟩
 | .label _,q,hq,s,s',e,h=>by have h:some (Ex.normal,s)=some (e,s'):=h;cases h;exact⟨B0 _,.refl _⟩
 | .exit id,q,hq,s,s',e,h=>by have h:some (Ex.exit id,s)=some (e,s'):=h;cases h;exact⟨B0 _,.refl _⟩
 | .ret,q,hq,s,s',e,h=>by have h:some (Ex.ret,s)=some (e,s'):=h;cases h;exact⟨B0 _,.refl _⟩
 | .region id ops d,q,hq,s,s',e,h=>by
   cases d with
   | false =>
     have h:l7 (X7 P nt gl call ops.toList ops.toList) s=some (e,s'):=h;unfold l7 at h;split at h
     ·rename_i s1 h1;cases h;exact⟨uU _ _ _ h1,nA hc _ _ _ h1⟩
     ·cases h
   | true =>
     unfold P0 at h;simp only at h;cases hq:JR ops with
     | false=>rw[hq]at h;cases h
     | true =>
       rw[hq]at h;have go:l7 ⟨x9 P nt gl call ops.toList ops.toList 0 (m6 ops.toList []) [] []⟩ s=some (e,s')→s.m.hi≤s'.m.hi∧s.m.lg.le s'.m.lg:=fun h=>by
        unfold l7 at h;split at h
        ·rename_i s1 h1;cases h;exact(hd.2 nt ops hq _ _ h1).1
        ·cases h
       simp only[F0]at h;cases hr:mW ops.toList with
       | false=>rw[hr]at h;exact go h
       | true =>
         rw[hr]at h;simp only[F0]at h;cases hm:nI P nt gl s.fr s.m.H ops.toList with
         | false=>rw[hm]at h;exact go h
         | true =>
           rw[hm]at h;simp only[F0]at h;unfold l7 at h;split at h
           ·rename_i s1 h1;cases h;exact⟨uU _ _ _ h1,nA hc _ _ _ h1⟩
           ·cases h
 | .seq x y,q,hq,s,s',e,h=>by
   have ha:=W4 hc hd hlp x (q++[false]) (J4 hq rfl);have hb:=W4 hc hd hlp y (q++[true]) (J4 hq rfl);have h:A31 (P0 P nt gl call lp (q++[false]) x) (P0 P nt gl call lp (q++[true]) y) s=some (e,s'):=h;unfold A31 at h;split at h
   ·rename_i s1 h1;have a:=ha _ _ _ h1;have b:=hb _ _ _ h;exact⟨C4 a.1 b.1,a.2.trans b.2⟩
   ·exact ha _ _ _ h
 | .cond c x y,q,hq,s,s',e,h=>by
   have ha:=W4 hc hd hlp x (q++[false]) (J4 hq rfl);have hb:=W4 hc hd hlp y (q++[true]) (J4 hq rfl);unfold P0 at h;cases hq:okX nt gl c with
   | false=>rw[hq]at h;cases h
   | true =>
     rw[hq]at h;have h:PP (U8 c) (P0 P nt gl call lp (q++[false]) x) (P0 P nt gl call lp (q++[true]) y) s=some (e,s'):=h;obtain⟨t,lg,h1,h2⟩:=PO h;have hl:=oI h1;obtain⟨fr,⟨H,n,W,hi,l0⟩⟩:=s;cases t with
     | true=>have a:=ha _ _ _ h2;exact⟨a.1,hl.trans a.2⟩
     | false=>have b:=hb _ _ _ h2;exact⟨b.1,hl.trans b.2⟩
 | .block id x,q,hq,s,s',e,h=>by
   have ha:=W4 hc hd hlp x (q++[false]) (J4 hq rfl);have h:CO id (P0 P nt gl call lp (q++[false]) x) s=some (e,s'):=h;unfold CO at h;split at h
   ·rename_i j s1 h1
    have:=ha _ _ _ h1;cases hq:Nat.beq j id<;>rw[hq]at h<;>cases h<;>exact this
   ·exact ha _ _ _ h
 | .loop x,q,hq,s,s',e,h=>by
   have h:PN (P0 P nt gl call lp (q++[false]) x) (lp.look q) s=some (e,s'):=h;unfold PN at h;split at h
   ·rename_i L hL;exact AW (W4 hc hd hlp x (q++[false]) (J4 hq rfl)) (hlp.2 q x L hq hL).lg _ _ _ _ h
   ·exact AV (W4 hc hd hlp x (q++[false]) (J4 hq rfl)) _ _ _ _ h
 | .rangeFunc x _ _ _,q,hq,s,s',e,h=>by
   unfold P0 at h;cases hx:okX nt gl x with
   | false=>rw[hx]at h;cases h
   | true=>rw[hx]at h;exact ZF hc h
 | .scope x,q,hq,s,s',e,h=>W4 hc hd hlp x (q++[false]) (J4 hq rfl) s s' e h
 | .goto _,q,hq,s,s',e,h=>by cases h
 | .refuse _,q,hq,s,s',e,h=>by cases h
def U7{call:Q9}{lp:LpT}{body:Code}(hc:Y3 P base gl call)(hd:fG P base gl call)(hlp:TI P base gl nt body lp):∀ (c:Code) (q:List Bool),I0 q body=some c→∀ (ρ:Ren) (s s':S) (e:Ex) (a:Act) (w:World) (Q:Exit→Act→World→Prop),(P0 P nt gl call lp q c).run s=some (e,s')→Sat s'.m.lg→At P base gl ρ s.m s'.m.hi w→FrR z ρ nt s.fr a →
  (∀ ρ' a' w',FrR z ρ' nt s'.fr a'→St P base ρ ρ' s.m s'.m w w'→Q e.out a' w')→c.wpIn (fw z.rd) 0 P Q a w
 | .skip,q,hq,ρ,s,s',e,a,w,Q,h,hS,hat,hf,hQ=>by have h:some (Ex.normal,s)=some (e,s'):=h;cases h;exact wpIn_skip (hQ ρ a w hf (.refl hat.hr))
 | .label _,q,hq,ρ,s,s',e,a,w,Q,h,hS,hat,hf,hQ=>by have h:some (Ex.normal,s)=some (e,s'):=h;cases h;exact wpIn_label (hQ ρ a w hf (.refl hat.hr))
 | .exit id,q,hq,ρ,s,s',e,a,w,Q,h,hS,hat,hf,hQ=>by have h:some (Ex.exit id,s)=some (e,s'):=h;cases h;exact wpIn_exit (hQ ρ a w hf (.refl hat.hr))
 | .ret,q,hq,ρ,s,s',e,a,w,Q,h,hS,hat,hf,hQ=>by have h:some (Ex.ret,s)=some (e,s'):=h;cases h;exact wpIn_ret (hQ ρ a w hf (.refl hat.hr))
 | .region id ops d,q,hq,ρ,s,s',e,a,w,Q,h,hS,hat,hf,hQ=>by
   cases d with
   | false =>
     have h:l7 (X7 P nt gl call ops.toList ops.toList) s=some (e,s'):=h;unfold l7 at h;split at h
     ·rename_i s1 h1;cases h;exact xN (IG hc _ ρ s s' a w h1 hS hat hf hQ)
     ·cases h
   | true =>
     unfold P0 at h;simp only at h;cases hq:JR ops with
     | false=>rw[hq]at h;cases h
     | true =>
       rw[hq]at h;have go:l7 ⟨x9 P nt gl call ops.toList ops.toList 0 (m6 ops.toList []) [] []⟩ s=some (e,s')→(Code.region id ops true).wpIn (fw z.rd) 0 P Q a w:=fun h=>by
        unfold l7 at h;split at h
        ·rename_i s1 h1;cases h;exact(hd.2 nt ops hq _ _ h1).2 z ρ a w id Q hS hat hf hQ
        ·cases h
       simp only[F0]at h;cases hr:mW ops.toList with
       | false=>rw[hr]at h;exact go h
       | true =>
         rw[hr]at h;simp only[F0]at h;cases hm:nI P nt gl s.fr s.m.H ops.toList with
         | false=>rw[hm]at h;exact go h
         | true =>
           rw[hm]at h;simp only[F0]at h;unfold l7 at h;split at h
           ·rename_i s1 h1;cases h;exact RL hd.1 hc hr hm h1 hS hat hf hQ
           ·cases h
 | .seq x y,q,hq,ρ,s,s',e,a,w,Q,h,hS,hat,hf,hQ=>by
   have hqa:I0 (q++[false]) body=some x:=J4 hq rfl;have hqb:I0 (q++[true]) body=some y:=J4 hq rfl;have h:A31 (P0 P nt gl call lp (q++[false]) x) (P0 P nt gl call lp (q++[true]) y) s=some (e,s'):=h;unfold A31 at h;split at h
   ·rename_i s1 h1;have hh:=W4 hc hd hlp y _ hqb _ _ _ h;refine wpIn_seq (U7 hc hd hlp x _ hqa ρ s s1 .normal a w _ h1 (U3.le hS hh.2) (hat.less hh.1) hf fun ρ1 a1 w1 f1 st1=>?_);exact U7 hc hd hlp y _ hqb ρ1 s1 s' e a1 w1 Q h hS (hat.step st1) f1 fun ρ2 a2 w2 f2 st2=>hQ ρ2 a2 w2 f2 (St.trans hat.fr st1 st2)
   ·rename_i hne;refine wpIn_seq (U7 hc hd hlp x _ hqa ρ s s' e a w _ h hS hat hf fun ρ1 a1 w1 f1 st1=>?_)
    have:=hQ ρ1 a1 w1 f1 st1;cases e with
    | normal=>exact absurd h (hne s')
    | exit id=>exact this
    | ret=>exact this
 | .cond c x y,q,hq,ρ,s,s',e,a,w,Q,h,hS,hat,hf,hQ=>by
   have hqa:I0 (q++[false]) body=some x:=J4 hq rfl;have hqb:I0 (q++[true]) body=some y:=J4 hq rfl;unfold P0 at h;cases hqx:okX nt gl c with
   | false=>rw[hqx]at h;cases h
   | true =>
     rw[hqx]at h;have h:PP (U8 c) (P0 P nt gl call lp (q++[false]) x) (P0 P nt gl call lp (q++[true]) y) s=some (e,s'):=h;have hv:=hf.ev hat.gr hqx;obtain⟨t,lg,h1,h2⟩:=PO h;rw[fQ]at h1;have hst:St P base ρ ρ s.m (s.m.wLg lg) w w:=St.wLg hat.hr lg;cases t with
     | true =>
       have hh:=W4 hc hd hlp x _ hqa _ _ _ h2;have hl:Sat lg:=U3.le hS (by obtain⟨fr,⟨H,n,W,hi,l0⟩⟩:=s;exact hh.2);exact wpIn_cond_true (qZ h1 hv hl) (U7 hc hd hlp x _ hqa ρ ⟨s.fr,s.m.wLg lg⟩ s' e a w Q h2 hS (hat.wLg lg) hf fun ρ2 a2 w2 f2 st2=>hQ ρ2 a2 w2 f2 (St.trans hat.fr hst st2))
     | false =>
       have hh:=W4 hc hd hlp y _ hqb _ _ _ h2;have hl:Sat lg:=U3.le hS (by obtain⟨fr,⟨H,n,W,hi,l0⟩⟩:=s;exact hh.2);exact wpIn_cond_false (qZ h1 hv hl) (U7 hc hd hlp y _ hqb ρ ⟨s.fr,s.m.wLg lg⟩ s' e a w Q h2 hS (hat.wLg lg) hf fun ρ2 a2 w2 f2 st2=>hQ ρ2 a2 w2 f2 (St.trans hat.fr hst st2))
 | .block id x,q,hq,ρ,s,s',e,a,w,Q,h,hS,hat,hf,hQ=>by
   have hqa:I0 (q++[false]) body=some x:=J4 hq rfl;have h:CO id (P0 P nt gl call lp (q++[false]) x) s=some (e,s'):=h;unfold CO at h;split at h
   ·rename_i j s1 h1;cases hq2:Nat.beq j id with
    | true =>
      rw[hq2]at h;cases h;have hj:=A0 hq2;refine wpIn_block (U7 hc hd hlp x _ hqa ρ s s' (.exit j) a w _ h1 hS hat hf fun ρ1 a1 w1 f1 st1=>?_)
      have:=hQ ρ1 a1 w1 f1 st1
      simpa [Exit.inBlock,Ex.out,hj]using this
    | false =>
      rw[hq2]at h;cases h;have hj:j≠id:=fun e=>by subst e;simp at hq2
      refine wpIn_block (U7 hc hd hlp x _ hqa ρ s s' (.exit j) a w _ h1 hS hat hf fun ρ1 a1 w1 f1 st1=>?_)
      have:=hQ ρ1 a1 w1 f1 st1
      simpa [Exit.inBlock,Ex.out,hj]using this
   ·rename_i hne;refine wpIn_block (U7 hc hd hlp x _ hqa ρ s s' e a w _ h hS hat hf fun ρ1 a1 w1 f1 st1=>?_)
    have:=hQ ρ1 a1 w1 f1 st1;cases e with
    | normal=>exact this
    | exit j=>exact absurd h (hne j s')
    | ret=>exact this
 | .loop x,q,hq,ρ,s,s',e,a,w,Q,h,hS,hat,hf,hQ=>by
   have hqa:I0 (q++[false]) body=some x:=J4 hq rfl;replace h:PN (P0 P nt gl call lp (q++[false]) x) (lp.look q) s=some (e,s'):=h;unfold PN at h;split at h
   ·rename_i L hL;have hLo:=hlp.2 q x L hq hL;have key:∀ (n:Nat) (s:S),FL (P0 P nt gl call lp (q++[false]) x) L n s=some (e,s')→∃ N,∀ (ρ:Ren) (a:Act) (w:World) (Q:Exit→Act→World→Prop),At P base gl ρ s.m s'.m.hi w→FrR z ρ nt s.fr a →
      (∀ ρ' a' w',FrR z ρ' nt s'.fr a'→St P base ρ ρ' s.m s'.m w w'→Q e.out a' w')→Code.roundsIn (fw z.rd) 0 P x Q N a w:=by
     intro n;induction n with
     | zero=>intro s h;cases h
     | succ n ih =>
       intro s h;unfold FL at h;split at h
       ·rename_i r hr;cases h;obtain⟨N,hN⟩:=hLo.ok s s' e hr hS;exact⟨N,hN z⟩
       ·split at h
        ·rename_i s1 h1;obtain⟨N,hN⟩:=ih s1 h;have hh:=AW (W4 hc hd hlp x _ hqa) hLo.lg _ _ _ _ h;refine⟨N+1,fun ρ a w Q hat hf hQ=>?_⟩;show x.wpIn (fw z.rd) 0 P (Exit.then (Code.roundsIn (fw z.rd) 0 P x Q N) Q) a w;refine U7 hc hd hlp x _ hqa ρ s s1 .normal a w _ h1 (U3.le hS hh.2) (hat.less hh.1) hf fun ρ1 a1 w1 f1 st1=>?_
         exact hN ρ1 a1 w1 Q (hat.step st1) f1 fun ρ2 a2 w2 f2 st2=>hQ ρ2 a2 w2 f2 (St.trans hat.fr st1 st2)
        ·rename_i hne;refine⟨1,fun ρ a w Q hat hf hQ=>?_⟩;show x.wpIn (fw z.rd) 0 P (Exit.then (Code.roundsIn (fw z.rd) 0 P x Q 0) Q) a w;refine U7 hc hd hlp x _ hqa ρ s s' e a w _ h hS hat hf fun ρ1 a1 w1 f1 st1=>?_
         have:=hQ ρ1 a1 w1 f1 st1;cases e with
         | normal=>exact absurd h (hne s')
         | exit id=>exact this
         | ret=>exact this
    obtain⟨N,hN⟩:=key _ s h;exact wpIn_loop_rounds N (hN ρ a w Q hat hf hQ)
   obtain⟨n,h0⟩:∃ n,FK (P0 P nt gl call lp (q++[false]) x) n s=some (e,s'):=⟨_,h⟩;clear h;have h:=h0;clear h0;refine wpIn_loop_rounds n ?_;induction n generalizing s ρ a w with
   | zero=>cases h
   | succ n ih =>
     unfold FK at h;show x.wpIn (fw z.rd) 0 P (Exit.then (Code.roundsIn (fw z.rd) 0 P x Q n) Q) a w;split at h
     ·rename_i s1 h1;have hh:=AV (W4 hc hd hlp x _ hqa) _ _ _ _ h;refine U7 hc hd hlp x _ hqa ρ s s1 .normal a w _ h1 (U3.le hS hh.2) (hat.less hh.1) hf fun ρ1 a1 w1 f1 st1=>?_
      exact ih ρ1 s1 a1 w1 (hat.step st1) f1 (fun ρ2 a2 w2 f2 st2=>hQ ρ2 a2 w2 f2 (St.trans hat.fr st1 st2)) h
     ·rename_i hne;refine U7 hc hd hlp x _ hqa ρ s s' e a w _ h hS hat hf fun ρ1 a1 w1 f1 st1=>?_
      have:=hQ ρ1 a1 w1 f1 st1;cases e with
      | normal=>exact absurd h (hne s')
      | exit id=>exact this
      | ret=>exact this
 | .rangeFunc x ps as bd,q,hq,ρ,s,s',e,a,w,Q,h,hS,hat,hf,hQ=>by
   unfold P0 at h;cases hx:okX nt gl x with
   | false=>rw[hx]at h;cases h
   | true =>
     rw[hx]at h;obtain⟨fn,f1,f2,f3⟩:=hlp.1;exact A1T hc f1 f2 f3 hq hx h hS hat hf hQ
 | .scope x,q,hq,ρ,s,s',e,a,w,Q,h,hS,hat,hf,hQ=>QH (U7 hc hd hlp x _ (J4 hq rfl) ρ s s' e a w _ h hS hat hf fun ρ1 a1 w1 f1 st1=>by cases e<;>exact hQ ρ1 a1 w1 f1 st1)
 | .goto _,q,hq,ρ,s,s',e,a,w,Q,h,hS,hat,hf,hQ=>by cases h
 | .refuse _,q,hq,ρ,s,s',e,a,w,Q,h,hS,hat,hf,hQ=>by cases h
end
end
section
open Go
variable [Ora]
def vC{H':Hp AB}:∀ (l:List Nat) (H:Hp AB),(∀ b ∈ l,b≤I4)→∀ id,id≤I4→Hp.get (gN H' H l) id=if id ∈ l then Hp.get H' id else Hp.get H id
 | [],H,_,id,_=>by simp[gN]
 | b::r,H,hl,id,hid=>by
   have hb:=hl b C5;rw[gN,gF,vC r _ (fun x hx=>hl x (C7 _ hx)) id hid,F7 _ _ _ _ hb hid];by_cases h1:id ∈ r
   ·rw[A4 h1,A4 (C7 _ h1)]
   ·rw[A3 h1];by_cases h2:id=b
    ·subst h2;rw[A4 rfl,A4 C5]
    ·rw[A3 h2,A3 (by simp[h1,h2])]
theorem Z2{l:I1}{b:Nat}:aT l b=true↔b ∈ l:=by
 unfold aT;rw[V2];constructor
 ·rintro⟨x,hx,h⟩;rw[A0 h];exact hx
 ·intro h;exact⟨b,h,by simp⟩
def uX:∀ (l acc:List Nat) (b:Nat),b ∈ qB l acc↔b ∈ l∨b ∈ acc
 | [],acc,b=>by simp[qB]
 | x::r,acc,b=>by
   unfold qB;cases h:aT acc x with
   | true =>
     have hx:=Z2.1 h;simp only[F0];rw[uX r acc b];constructor
     ·rintro(h|h)
      ·exact .inl (C7 _ h)
      ·exact .inr h
     ·rintro(h|h)
      ·rcases C6.1 h with rfl|h
       ·exact .inr hx
       ·exact .inl h
      ·exact .inr h
   | false =>
     simp only[E7];rw[uX r (x::acc) b];simp only[C6];constructor
     ·rintro(h|h|h)
      ·exact .inl (.inr h)
      ·exact .inl (.inl h)
      ·exact .inr h
     ·rintro((h|h)|h)
      ·exact .inr (.inl h)
      ·exact .inl h
      ·exact .inr (.inr h)
def vV{l:I1}(h:JZ l=true):∀ b ∈ l,b≤I4:=fun b hb=>A2 (E4.1 h b hb)
section
variable {P:Program} {base gl nt:Nat}
def RX{ρ ρ1:Ren}{n:Nat}(ho:∀ b l,b<n→ρ1 b=some l→ρ b=some l){v v':Value}(h:VR ρ1 v v'):∀ (d:Nat),bX n d v=true→VR ρ v v':=by
 have hl:∀ (low:Value→Bool) (a:List Value),uZ low a=true→∀ (i:Nat) (v:Value),a[i]? = some v→low v=true:=fun low a=>by
  induction a with
  | nil=>intro _ i v h;simp at h
  | cons x r ih =>
    intro h i v hi;obtain⟨h1,h2⟩:=B8 (show(low x && uZ low r)=true from h);cases i with
    | zero=>simp at hi;subst hi;exact h1
    | succ i=>exact ih h2 i v (by simpa using hi)
 induction h with
 | pure h=>intro d _;exact .pure h
 | hole h ht=>intro d _;exact .hole h ht
 | junk h=>intro d _;exact .junk h
 | ixp h hs hi hz hv =>
   intro d hd;cases d with
   | zero=>cases hd
   | succ d =>
     obtain⟨g1,_⟩:=B8 hd;obtain⟨g1,_⟩:=B8 (show(bX n d _ && _)=true from g1);cases d with
     | zero=>cases g1
     | succ d=>exact .ixp (ho _ _ (A2 g1) h) hs hi hz hv
 | dat h h1 h2 h3 h4 =>
   intro d hd;cases d with
   | zero=>cases hd
   | succ d =>
     obtain⟨g1,_⟩:=B8 hd;obtain⟨g1,_⟩:=B8 (show(bX n d _ && _)=true from g1);cases d with
     | zero=>cases g1
     | succ d=>exact .dat (ho _ _ (A2 g1) h) h1 h2 h3 h4
 | clp h h1 h2 h3 h4 h5 =>
   intro d hd;cases d with
   | zero=>cases hd
   | succ d =>
     obtain⟨g1,_⟩:=B8 hd;obtain⟨g1,_⟩:=B8 (show(bX n d _ && _)=true from g1);cases d with
     | zero=>cases g1
     | succ d=>exact .clp (ho _ _ (A2 g1) h) h1 h2 h3 h4 h5
 | own h h1 h2 =>
   intro d hd;cases d with
   | zero=>cases hd
   | succ d =>
     obtain⟨g1,_⟩:=B8 hd;obtain⟨g1,_⟩:=B8 (show(bX n d _ && _)=true from g1);cases d with
     | zero=>cases g1
     | succ d=>exact .own (h.imp (fun⟨l,w,a,b⟩=>⟨l,w,ho _ _ (A2 g1) a,b⟩) fun⟨l,w,rows,a,b⟩=>⟨l,w,rows,ho _ _ (A2 g1) a,b⟩) h1 h2
 | dpt h h1 h2 =>
   intro d hd;cases d with
   | zero=>cases hd
   | succ d =>
     obtain⟨g1,_⟩:=B8 hd;obtain⟨g1,_⟩:=B8 (show(bX n d _ && _)=true from g1);cases d with
     | zero=>cases g1
     | succ d=>exact .dpt (let ⟨l,w,rows,a,s,c,k,h0,r⟩:=h;⟨l,w,rows,a,s,c,k,ho _ _ (A2 g1) h0,r⟩) h1 h2
 | opt h h1 h2 =>
   intro d hd;cases d with
   | zero=>cases hd
   | succ d =>
     obtain⟨g1,_⟩:=B8 hd;obtain⟨g1,_⟩:=B8 (show(bX n d _ && _)=true from g1);cases d with
     | zero=>cases g1
     | succ d=>exact .opt (let ⟨l,w,rows,k,h0,r⟩:=h;⟨l,w,rows,k,ho _ _ (A2 g1) h0,r⟩) h1 h2
 | ptr h=>intro d hd;cases d with|zero=>cases hd|succ d=>exact .ptr (ho _ _ (A2 hd) h)
 | sl h hm=>intro d hd;cases d with|zero=>cases hd|succ d=>exact .sl (ho _ _ (A2 hd) h) hm
 | op h hm hn hc=>intro d hd;cases d with|zero=>cases hd|succ d=>exact .op (ho _ _ (A2 hd) h) hm hn hc
 | opE hs=>intro d _;exact .opE hs
 | map h=>intro d hd;cases d with|zero=>cases hd|succ d=>exact .map (ho _ _ (A2 hd) h)
 | sdt h =>
   intro d hd;cases d with
   | zero=>cases hd
   | succ d =>
     obtain⟨g1,_⟩:=B8 hd;obtain⟨g1,_⟩:=B8 (show(bX n d _ && _)=true from g1);cases d with
     | zero=>cases g1
     | succ d=>exact .sdt (let ⟨l,a,b⟩:=h;⟨l,ho _ _ (A2 g1) a,b⟩)
 | yv h =>
   intro d hd;cases d with
   | zero=>cases hd
   | succ d =>
     obtain⟨g1,_⟩:=B8 hd;obtain⟨g1,_⟩:=B8 (show(bX n d _ && _)=true from g1);cases d with
     | zero=>cases g1
     | succ d=>exact .yv (ho _ _ (A2 g1) h)
 | func ha hb h1 h2 ih1 ih2 =>
   intro d hd;cases d with
   | zero=>cases hd
   | succ d =>
     obtain⟨g1,g2⟩:=B8 hd;exact .func ha hb (fun i v v' a b=>ih1 i v v' a b d (hl _ _ g1 i v a)) (fun i v v' a b=>ih2 i v v' a b d (hl _ _ g2 i v a))
 | iface h ih=>intro d hd;cases d with|zero=>cases hd|succ d=>exact .iface (ih d hd)
 | agg ha h ih=>intro d hd;cases d with|zero=>cases hd|succ d=>exact .agg ha (fun i v v' a b=>ih i v v' a b d (hl _ _ hd i v a))
 | tuple ha h ih=>intro d hd;cases d with|zero=>cases hd|succ d=>exact .tuple ha (fun i v v' a b=>ih i v v' a b d (hl _ _ hd i v a))
def B0U{ρ ρ1:Ren}{n:Nat}(ho:∀ b l,b<n→ρ1 b=some l→ρ b=some l){ab:AB}{l:Loc}{w:World}(h:BR P ρ1 ab l w)(hlow:A5S n (some ab)=true):BR P ρ ab l w:=by
 cases ab with
 | cells cs T ro =>
   obtain⟨h0,C,fz,T',h1,h2,h3⟩:=h;refine⟨h0,C,fz,T',h1,fun i v hi=>?_,h3⟩;obtain⟨v',g1,g2⟩:=h2 i v hi;have hv:bX n 10 v=true:=by
    have hlow2:uZ (bX n 10) cs=true:=hlow;clear h2 g1 g2 hlow;induction cs generalizing i with
    | nil=>simp at hi
    | cons x r ih =>
      obtain⟨q1,q2⟩:=B8 (show(bX n 10 x && uZ (bX n 10) r)=true from hlow2);cases i with
      | zero=>simp at hi;subst hi;exact q1
      | succ i=>exact ih i (by simpa using hi) q2
   exact⟨v',g1,RX ho g2 10 hv⟩
 | mp c t T=>exact h
 | iter s pos=>exact h
 | lp f q vs st =>
   obtain⟨h0,r,h1,h2⟩:=h;refine⟨h0,r,h1,h2.code,⟨h2.fr.1,fun i v v' g1 g2=>?_⟩,h2.st⟩;have hv:bX n 10 v=true:=by
    have hlow2:uZ (bX n 10) vs=true:=hlow;clear h2 g2 hlow;induction vs generalizing i with
    | nil=>simp at g1
    | cons x r ih =>
      obtain⟨q1,q2⟩:=B8 (show(bX n 10 x && uZ (bX n 10) r)=true from hlow2);cases i with
      | zero=>simp at g1;subst g1;exact q1
      | succ i=>exact ih i (by simpa using g1) q2
   exact RX ho (h2.fr.2 i v v' g1 g2) 10 hv
 | dfr b=>exact h
 | sq c t T g ro =>
   obtain⟨wd,inf,h1,h2,h3,h4⟩:=SqR.ex h;refine⟨⟨wd,inf,h1,h2,h3,h4.imp (fun x=>x) fun⟨hon,h5⟩=>⟨hon,?_⟩⟩⟩;obtain⟨C,fz,T',rows,lg,h1,h2,h3,h4,h5,h6,h7,h8,h9⟩:=h5;exact⟨C,fz,T',rows,lg,h1,h2,h3,h4,h5,h6,ho _ _ (A2 hlow) h7,h8,h9⟩
 | frz=>exact h
def NM{n:Nat}{H:Hp AB}:∀ {l:I1},RY n H l=true→∀ b ∈ l,A5S n (Hp.get H b)=true
 | [],_,b,h=>by cases h
 | x::r,h,b,hb=>by
   obtain⟨h1,h2⟩:=B8 (show(A5S n (Hp.get H x) && RY n H r)=true from h);rcases C6.1 hb with rfl|hb
   ·exact h1
   ·exact NM h2 b hb
def B3L{ρ ρ1:Ren}{m m1 m':Mem}{w w1:World}{v v':Value}(hg:gcM m m1 v=some m')(st:St P base ρ ρ1 ⟨m.H,m.n,[],m.hi,m.lg⟩ m1 w w1)(hat:At P base gl ρ m m'.hi w)(hv:VR ρ1 v v') :
  m'.hi=m1.hi∧∃ ρ2,VR ρ2 v v'∧St P base ρ ρ2 m m' w w1:=by
 have hn1:m1.n≤m1.hi:=st.nhi hat.nh;have hle:m.hi≤m1.hi:=st.hle;have hmemW:∀ b,b ∈ qB (m1.W.filter fun b=>Nat.blt b m.n || Nat.ble m1.hi b) []↔b ∈ m1.W∧(b<m.n∨m1.hi≤b):=fun b=>by
  rw[uX];simp only[R7,M7,or_false,J9];constructor
  ·rintro⟨h1,h2⟩;exact⟨h1,h2.imp (fun h=>A2 h) (fun h=>A2 h)⟩
  ·rintro⟨h1,h2⟩;exact⟨h1,h2.imp (fun h=>C8 h) (fun h=>C8 h)⟩
 unfold gcM at hg;generalize hW:qB (m1.W.filter fun b=>Nat.blt b m.n || Nat.ble m1.hi b) []=W at hg hmemW;simp only[F5,I6,fP]at hg;have hold:m1.hi=m'.hi→∀ b l,ρ b=some l→b<m.n∨m1.hi≤b:=fun he b l hb=>by
  rcases G4 b m.n with h1|h1
  ·exact .inl h1
  ·rcases G4 b m1.hi with h2|h2
   ·rw[hat.fr b h1 (he▸h2)]at hb;cases hb
   ·exact .inr h2
 have hnotW:m1.hi=m'.hi→∀ id,id≤I4→id ∉ W→∀ ab,Hp.get m.H id=some ab→id ∉ m1.W∧Hp.get m1.H id=some ab:=fun he id hid hnw ab hab=>by
  obtain⟨l,h1,_,_⟩:=hat.hr.at_ id hid ab hab;have ho:=hold he id l h1;have h2:id ∉ m1.W:=fun h=>hnw ((hmemW id).2 ⟨h,ho⟩)
  exact⟨h2,by rw[st.same id hid h2 ho];exact hab⟩
 have hwrw:∀ b ∈ W,∀ l,ρ b=some l→∃ ab,Hp.get m.H b=some ab∧ab.rw=true:=fun b hb l hl=>st.wrw b ((hmemW b).1 hb).1 (by simp) l hl
 cases hq:bX m.n 10 v && RY m.n m1.H W with
 | true =>
   rw[hq]at hg;simp only[F0]at hg;obtain⟨hbig,hg⟩:=A5 hg;cases hg;obtain⟨q1,q2⟩:=B8 hq;have hbig:=vV hbig;have ho:∀ b l,b<m.n→ρ1 b=some l→ρ b=some l:=fun b l hb hl=>by
    cases h0:ρ b with
    | some l0=>rw[st.ext b l0 h0]at hl;exact hl
    | none=>have h:=(st.new b l hl h0).1;exact absurd hb (Nat.not_lt.2 h)
   have hget:∀ id,id≤I4→Hp.get (gN m1.H m.H W) id=if id ∈ W then Hp.get m1.H id else Hp.get m.H id:=fun id hid=>vC W _ hbig id hid
   have hsub:∀ id,id≤I4→∀ ab,Hp.get (gN m1.H m.H W) id=some ab→Hp.get m1.H id=some ab:=fun id hid ab hab=>by
    rw[hget id hid]at hab;by_cases h:id ∈ W
    ·rw[A4 h]at hab;exact hab
    ·rw[A3 h]at hab;exact(hnotW rfl id hid h ab hab).2
   have hr1:=st.hr.sub hsub;have hρ:∀ id,id≤I4→∀ ab,Hp.get (gN m1.H m.H W) id=some ab→∀ l,ρ1 id=some l→ρ id=some l:=fun id hid ab hab l hl=>by
    cases h0:ρ id with
    | some l0=>rw[st.ext id l0 h0]at hl;exact hl
    | none =>
      exfalso;have hn:=st.new id l hl h0;rw[hget id hid]at hab;by_cases h:id ∈ W
      ·have:=((hmemW id).1 h).2;have h1:m.n≤id:=hn.1;have h2:=hn.2;omega
      ·rw[A3 h]at hab;obtain⟨l0,h1,_⟩:=hat.hr.at_ id hid ab hab;rw[h1]at h0;cases h0
   refine⟨rfl,ρ,RX ho hv 10 q1,⟨fun _ _ h=>h,fun b k h1 h2=>(by rw[h1]at h2;cases h2),B0 _,hle,fun h=>C4 h hle,⟨hat.hr.dom,fun id hid ab hab=>?_⟩,fun b hb=>B5.2 (.inr hb),fun b h1 h2 l hl=>?_,fun k hk hb=>?_,st.size,st.os,fun b k h1 h2=>(by rw[h1]at h2;cases h2),fun id hid h1 h2=>?_,fun k ⟨id,a,q,hid,ha,hq,ht⟩=>?_⟩⟩
   ·obtain⟨l,g1,g2,g3⟩:=hr1.at_ id hid ab hab;have hl:=hρ id hid ab hab l g1;refine⟨l,hl,?_,fun hrw hon=>⟨(g3 hrw hon).1,fun id2 hid2 ab2 l2 f1 f2 f3=>(g3 hrw hon).2 id2 hid2 ab2 l2 f1 (st.ext _ _ f2) f3⟩⟩;have hab0:=hab;rw[hget id hid]at hab;by_cases h:id ∈ W
    ·rw[A4 h]at hab
     have:=NM q2 id h;rw[hab]at this;exact B0U ho g2 this
    ·rw[A3 h]at hab;obtain⟨l0,e1,e2,e3⟩:=hat.hr.at_ id hid ab hab;rw[hl]at e1
     have:=B1 e1;subst this;refine e2.mono (fun _ _ h=>h) (fun k hk=>st.keep k (e2.tc hk) fun b hb lb hlb hlo heq=>?_);have hbW:b ∈ W:=(hmemW b).2 ⟨hb,hold rfl b lb hlb⟩;obtain⟨abb,c1,c2⟩:=hwrw b hbW lb hlb
     have:=((hat.hr.atl hlb c1).2 c2 hlo).2 id hid ab l hab hl (heq▸hk);subst this;exact h hbW
   ·rcases B5.1 h1 with h|h
    ·exact hwrw b h l hl
    ·exact absurd h h2
   ·exact st.keep k hk fun b hb' l hl ho=>hb b (B5.2 (.inl ((hmemW b).2 ⟨hb',hold rfl b l hl⟩))) l hl ho
   ·show Hp.get (gN m1.H m.H W) id=_;rw[hget id hid,A3 (fun h=>h1 (B5.2 (.inl h)))]
   ·have ha:Hp.get (gN m1.H m.H W) id=some a:=ha;rw[hget id hid]at ha;by_cases h:id ∈ W
    ·rw[A4 h]at ha;exact st.tch k ⟨id,a,q,hid,ha,st.ext _ _ hq,ht⟩
    ·rw[A3 h]at ha;exact .inr ⟨id,a,q,hid,ha,hq,ht⟩
 | false =>
   rw[hq]at hg;simp only[E7]at hg;generalize hI:(MJ m.n m1.H 100000 (JB 10 v++wOf m1.H W) []).filter (fun b=>Nat.ble m.n b && Nat.blt b m1.hi)=I at hg;have hIm:∀ b ∈ I,m.n≤b∧b<m1.hi:=fun b hb=>by
    subst hI;obtain⟨_,h⟩:=R7.1 hb;obtain⟨h1,h2⟩:=B8 h;exact⟨A2 h1,A2 h2⟩
   obtain⟨hbig,hg⟩:=A5 hg;cases hg;have hbig:=vV hbig;have hget:∀ id,id≤I4→Hp.get (gN m1.H m.H (W++I)) id=if id ∈ W++I then Hp.get m1.H id else Hp.get m.H id:=fun id hid=>vC _ _ hbig id hid
   have hsub:∀ id,id≤I4→∀ ab,Hp.get (gN m1.H m.H (W++I)) id=some ab→Hp.get m1.H id=some ab:=fun id hid ab hab=>by
    rw[hget id hid]at hab;by_cases h:id ∈ W++I
    ·rw[A4 h]at hab;exact hab
    ·rw[A3 h]at hab;exact(hnotW rfl id hid (fun hh=>h (B5.2 (.inl hh))) ab hab).2
   refine⟨rfl,ρ1,hv,⟨st.ext,st.new,st.nle,hle,fun _=>hn1,st.hr.sub hsub,fun b hb=>B5.2 (.inr hb),fun b h1 h2 l hl=>?_,fun k hk hb=>?_,st.size,st.os,fun b l h1 h2 ho=>?_,fun id hid h1 h2=>?_,fun k ⟨id,a,q,hid,ha,hq,ht⟩=>?_⟩⟩
   ·rcases B5.1 h1 with h|h
    ·exact hwrw b h l hl
    ·exact absurd h h2
   ·exact st.keep k hk fun b hb' l hl ho=>hb b (B5.2 (.inl ((hmemW b).2 ⟨hb',hold rfl b l hl⟩))) l hl ho
   ·rcases st.blk b l h1 h2 ho with h|⟨b0,h3,l0,h4,h5⟩
    ·exact .inl h
    ·exact .inr ⟨b0,B5.2 (.inl ((hmemW b0).2 ⟨h3,hold rfl b0 l0 h4⟩)),l0,h4,h5⟩
   ·show Hp.get (gN m1.H m.H (W++I)) id=_;rw[hget id hid,A3];intro h;rcases B5.1 h with h|h
    ·exact h1 (B5.2 (.inl h))
    ·have:=hIm id h;have h2:id<m.n∨m1.hi≤id:=h2;omega
   ·have ha:Hp.get (gN m1.H m.H (W++I)) id=some a:=ha;rw[hget id hid]at ha;by_cases h:id ∈ W++I
    ·rw[A4 h]at ha;exact st.tch k ⟨id,a,q,hid,ha,hq,ht⟩
    ·rw[A3 h]at ha;obtain⟨l0,e1,_⟩:=hat.hr.at_ id hid a ha;rw[st.ext _ _ e1]at hq
     have:=B1 hq;subst this;exact .inr ⟨id,a,l0,hid,ha,e1,ht⟩
def kF:∀ (vs:List Value) (fr:Fr) (i t:Nat),i+vs.length≤512→t<512→(gV fr i vs).get t=if i≤t∧t<i+vs.length then vs.getD (t-i) undef else fr.get t
 | [],fr,i,t,_,_=>by simp[gV];intro h1 h2;omega
 | v::r,fr,i,t,h,ht=>by
   simp only[B3]at h ⊢;rw[gV,AC,kF r _ (i+1) t A1 ht,N2 _ _ _ _ A1 ht];by_cases h1:i+1≤t∧t<i+1+r.length
   ·rw[A4 h1,A4 A1,show t-i=(t-(i+1))+1 by omega];rfl
   ·rw[A3 h1];by_cases h2:t=i
    ·subst h2;rw[A4 rfl,A4 A1,fH];rfl
    ·rw[A3 h2,A3 A1]
def YE(tmps:Array Value):ResultVar→Sem Value
 | .tmp t=>pure (tmps.getD t undef)
 | .cell a t=>do loadVar t (← asAddr (tmps.getD a undef))
variable {z:Zn}
def UI{ρ:Ren}{s:S}{a:Act}{w:World}(h:HR P base ρ s.m.H w)(hf:FrR z ρ nt s.fr a):∀ (rs:List ResultVar) (vs:List Value),YG P nt s rs=some vs→∃ vs',LR ρ vs vs' ∧
  (rs.mapM (YE a.tmps)).run P w=.ok vs' w
 | [],vs,hr=>by
   simp only[YG,D7]at hr;subst hr;exact⟨[],.nil,rfl⟩
 | r::rs,vs,hr=>by
   unfold YG at hr;split at hr
   ·rename_i v vs0 h1 h2;cases hr;obtain⟨vs',g1,g2⟩:=UI h hf rs vs0 h2;have hone:∃ v',VR ρ v v'∧(YE a.tmps r).run P w=.ok v' w:=by
     unfold B2C at h1;split at h1
     ·rename_i t;obtain⟨q1,q2⟩:=A5 h1;cases q2;exact⟨_,hf.get t (A2 q1),rfl⟩
     ·rename_i c t;obtain⟨q1,q2⟩:=A5 h1;have hv:=hf.get c (A2 q1);split at q2
      ·rename_i ad hev;rw[hev]at hv;obtain⟨l,hl,_,e⟩:=R9 hv;obtain⟨v',e1,e2⟩:=NO h q2 hl;exact⟨v',e2,by simp[YE,e,asAddr,e1]⟩
      ·cases q2
    obtain⟨v',e1,e2⟩:=hone;refine⟨v'::vs',.cons e1 g1,?_⟩;simp only[List.mapM_cons,A6,e2,g2,Result.andThen,Sem.run_pure]
   ·cases hr
def A43{ρ:Ren}{fn:Func}{s:S}{a:Act}{w:World}{v:Value}(h:HR P base ρ s.m.H w)(hf:FrR z ρ fn.ntmps s.fr a)(hr:YF fn P s=some v):∃ v',VR ρ v v'∧(results fn a.tmps).run P w=.ok v' w:=by
 unfold YF at hr;have key:∀ vs,YG P fn.ntmps s fn.results.toList=some vs→∃ vs',LR ρ vs vs'∧(results fn a.tmps).run P w=.ok (if h:vs'.toArray.size=1 then vs'.toArray[0]else .tuple vs'.toArray) w:=fun vs hvs=>by
  obtain⟨vs',g1,g2⟩:=UI h hf _ vs hvs;refine⟨vs',g1,?_⟩;have he:results fn a.tmps=(do let vs ← fn.results.mapM (YE a.tmps);pure (if h:vs.size=1 then vs[0]else .tuple vs)):=by
   unfold results;rfl
  have hm:(fn.results.mapM (YE a.tmps)).run P w=.ok vs'.toArray w:=by
   rw[hU];show(Sem.bind (fn.results.toList.mapM (YE a.tmps)) fun l=>Sem.pure l.toArray).run P w=_;have hb:∀ (x:Sem D4) (k:D4→Sem Z5),(Sem.bind x k).run P w=(x >>= k).run P w:=fun _ _=>rfl
   rw[hb,A6,g2];rfl
  rw[he,A6,hm];rfl
 split at hr
 ·rename_i u hl;cases hr;obtain⟨vs',g1,g2⟩:=key _ hl;obtain⟨v',r',rfl,g3,g4⟩:=g1.tail;cases g4.nil_inv;exact⟨v',g3,g2⟩
 ·rename_i vs hne hl;cases hr;obtain⟨vs',g1,g2⟩:=key _ hl;refine⟨.tuple ⟨vs'⟩,.tuple g1.1 g1.2,?_⟩;rw[g2,dif_neg];intro h1;have h1:vs'.length=1:=by simpa using h1
  have h2:vs.length=1:=by rw[g1.1];exact h1
  obtain⟨x,rfl⟩:=List.length_eq_one_iff.1 h2;exact hne x rfl
 ·cases hr
def KJ(P:Program):Prop:=∀ (f:Nat) (fn:Func),P.funcs[f]? = some fn→(fn.name == "runtime.NumGoroutine")=false
def A2k{m m1 m':Mem}{v:Value}(hg:gcM m m1 v=some m'):m'.lg=m1.lg:=by
 unfold gcM at hg;simp only[F5,I6,fP]at hg;cases hq:bX m.n 10 v && RY m.n m1.H (qB (m1.W.filter fun b=>Nat.blt b m.n || Nat.ble m1.hi b) [])with
 | true=>rw[hq]at hg;obtain⟨_,q⟩:=A5 hg;cases q;rfl
 | false=>rw[hq]at hg;obtain⟨_,q⟩:=A5 hg;cases q;rfl
def zS:∀ {l:I1} {m m':Mem},sD l m=some m'→m'.hi=m.hi∧m'.n=m.n∧m'.lg=m.lg
 | [],m,m',h=>by cases h;exact⟨rfl,rfl,rfl⟩
 | b::r,m,m',h=>by
   unfold sD at h;split at h
   ·split at h
    ·rename_i m1 hm;obtain⟨_,e⟩:=X5 hm;obtain⟨h1,h2,h3⟩:=zS h;subst e;exact⟨h1,h2,h3⟩
    ·cases h
   ·cases h
def WG{fn:Func}{m m':Mem}{v:Value}(h:B04 fn P m r=some (v,m')):∃ e s m1,r=some (e,s)∧(e=.normal∨e=.ret)∧sD (dvG fn.ntmps s.fr) s.m=some m1∧YF fn P ⟨s.fr,m1⟩=some v∧gcM m m1 v=some m':=by
 have key:∀ (fr:Fr) (m0:Mem),(match sD (dvG fn.ntmps fr) m0 with
  | some m1=>match YF fn P ⟨fr,m1⟩with
    | some v=>match gcM m m1 v with
      | some m=>some (v,m)
      | none=>none
    | none=>none
  | none=>none)=some (v,m')→∃ m1,sD (dvG fn.ntmps fr) m0=some m1∧YF fn P ⟨fr,m1⟩=some v∧gcM m m1 v=some m':=fun fr m0 h=>by
  split at h
  ·rename_i m1 h1;split at h
   ·rename_i u h2;split at h
    ·rename_i m2 h3;cases h;exact⟨m1,h1,h2,h3⟩
    ·cases h
   ·cases h
  ·cases h
 unfold B04 at h;split at h
 ·rename_i fr m1;obtain⟨m2,a,b,c⟩:=key _ _ h;exact⟨_,_,m2,rfl,.inl rfl,a,b,c⟩
 ·rename_i fr m1;obtain⟨m2,a,b,c⟩:=key _ _ h;exact⟨_,_,m2,rfl,.inr rfl,a,b,c⟩
 ·cases h
structure jC (P:Program) (base gl nt:Nat) (c:Code) (L:S→Option (Ex×S)):Prop where
 lg:∀ (s s':S) (e:Ex),L s=some (e,s')→s.m.hi≤s'.m.hi∧s.m.lg.le s'.m.lg
 ok:∀ (s s':S) (e:Ex),L s=some (e,s')→Sat s'.m.lg→∀ (z:Zn) (ρ:Ren) (a:Act) (w:World) (Q:Exit→Act→World→Prop),At P base gl ρ s.m s'.m.hi w→FrR z ρ nt s.fr a →
  (∀ a' w',Q Ex.ret.out a' w'→Q Ex.normal.out a' w')→(∀ ρ' a' w',FrR z ρ' nt s'.fr a'→St P base ρ ρ' s.m s'.m w w'→Q e.out a' w')→c.wpIn (fw z.rd) 0 P Q a w
def jC.or{nt:Nat}{c:Code}{a b:S→Option (Ex×S)}(ha:jC P base gl nt c a)(hb:jC P base gl nt c b):jC P base gl nt c (orL a b):=by
 refine⟨fun s s' e h=>?_,fun s s' e h hS=>?_⟩
 ·unfold orL at h;split at h
  ·rename_i r hr;cases h;exact ha.lg _ _ _ hr
  ·exact hb.lg _ _ _ h
 ·unfold orL at h;split at h
  ·rename_i r hr;cases h;exact ha.ok _ _ _ hr hS
  ·exact hb.ok _ _ _ h hS
def jC.code{nt:Nat}{c:Code}{call:Q9}(hc:Y3 P base gl call)(hd:fG P base gl call){lp:LpT}(hlp:TI P base gl nt c lp):jC P base gl nt c (P0 P nt gl call lp [] c).run :=
 ⟨fun _ _ _ h=>W4 hc hd hlp c [] rfl _ _ _ h,fun s s' e h hS z ρ a w Q hat hf _ hQ=>U7 (z:=z) hc hd hlp c [] rfl ρ s s' e a w Q h hS hat hf hQ⟩
def A6O{fn:Func}{c:Code}{L:iS}(hL:jC P base gl fn.ntmps c L.run){vs:D4}{m m':Mem}{v:Value}
  (hr:xI fn P L vs m=some (v,m')):m.lg.le m'.lg:=by
 unfold xI at hr;obtain⟨_,hr⟩:=A5 hr;obtain⟨e,s,m1,h1,_,h2,h3,h4⟩:=WG hr;have hst:QW L (gV fr0 0 vs) m=L.run ⟨gV fr0 0 vs,⟨m.H,m.n,[],m.hi,m.lg⟩⟩:=rfl;rw[hst]at h1;have k1:=(hL.lg _ _ _ h1).2;rw[A2k h4,(zS h2).2.2];exact k1
def FN{fn:Func}{tmps:Z5}{R:Ending→World→Prop}{ρ:Ren}{hi:Nat}:∀ (ids:List Nat) (ds:List Deferred) (m md:Mem) (w:World),sD ids m=some md→DfR ρ ids ds→HR P base ρ m.H w→L6 ρ m.n md.hi →
  (∀ w',St P base ρ ρ m md w w'→∃ v,(results fn tmps).run P w'=.ok v w'∧R (.returned v) w')→LeavesInM (fw none) 0 P fn tmps R ds .returning w
 | [],ds,m,md,w,h,hd,hr,hf,hR=>by
   cases h;have:ds=[]:=D3.1 hd.1.symm;subst this;exact hR w (.refl hr)
 | b::r,[],m,md,w,h,hd,hr,hf,hR=>by have:=hd.1;simp at this
 | b::r,d::ds,m,md,w,h,hd,hr,hf,hR=>by
   unfold sD at h;split at h
   ·rename_i hg;split at h
    ·rename_i m1 hm;obtain⟨l,hl,hdm⟩:=hd.2 0 b d rfl rfl;obtain⟨⟨⟨b1,b2⟩,x,b3,b4⟩,_⟩:=hr.atl hl hg
     have:=b4 rfl;subst this;obtain⟨p1,p2,p3⟩:=kU (o:=.deferred none) (D9.1 b3).1;have st1:St P base ρ ρ m m1 w (w.putObj l.blk (.deferred none)):=St.write hr hm hg rfl hl b1 ⟨rfl,rfl,rfl⟩ p1 p3 ⟨⟨b1,b2⟩,_,p2,fun h=>by cases h⟩;obtain⟨e1,e2⟩:=X5 hm;have hn:m1.n=m.n:=by rw[e2]
     refine⟨(by intro h;cases h),.inl ⟨l.blk,_,by rw[hdm];rfl,run_takeDeferred b3,?_⟩⟩;exact FN (hi:=hi) r ds m1 md _ h ⟨by have:=hd.1;simpa using this,fun i id d a b=>hd.2 (i+1) id d (by simpa using a) (by simpa using b)⟩ st1.hr (by rw[hn];exact hf) fun w' st2=>hR w' (St.trans hf st1 st2)
    ·cases h
   ·cases h
def PW{f:FuncId}{fn:Func}{c:Code}{L:iS}(hf:P.funcs[f]? = some fn)(hb:fn.body=some c)(hnm:(fn.name == "runtime.NumGoroutine")=false)(hL:jC P base gl fn.ntmps c L.run) :
  mH P base gl f ⟨xI fn P L⟩:=by
 refine⟨fun vs m m' v hr=>A6O hL hr,?_⟩;intro ρ m m' w vs vs' v hr hS hat hl;have hr:xI fn P L vs m=some (v,m'):=hr;unfold xI at hr;obtain⟨h1,hr⟩:=A5 hr;obtain⟨h1,h2⟩:=B8 h1;have h1:=A2 h1;have h2:=A2 h2;left
 constructor
 ·have hn:fn.name ≠ "runtime.NumGoroutine":=by simpa using hnm
  simp[callFunc,hf,hn,hb]
 ·obtain⟨e,s,m1,hrun,he,htk,hres,hgc⟩:=WG hr;have hst:QW L (gV fr0 0 vs) m=L.run ⟨gV fr0 0 vs,⟨m.H,m.n,[],m.hi,m.lg⟩⟩:=rfl;rw[hst]at hrun;have hun:∀ t,vs.length≤t→t<512→(gV fr0 0 vs).get t=undef:=fun t k1 k2=>by
   rw[kF _ _ _ _ A1 k2,A3 A1,JE]
  have hfr:FrR ⟨none,[]⟩ ρ fn.ntmps (gV fr0 0 vs) { tmps:=⟨vs'⟩++Array.replicate (fn.ntmps-(Array.mk vs').size) undef,defers:=[] }:=by
   have hlen:=hl.1;refine⟨by simp;omega,h2,⟨[],rfl,?_⟩,fun hn=>⟨fun _=>rfl,fun b hb=>?_⟩,fun t ht=>?_⟩
   ·unfold dvG;cases hq:Nat.ble fn.ntmps 510 with
    | true =>
      have:=A2 hq;rw[hun 510 A1 C3];exact .nil
    | false=>exact .nil
   ·rw[hun 511 A1 C3]at hb;cases hb
   ·rw[kF _ _ _ _ A1 A1];by_cases hlt:t<vs.length
    ·rw[A4 A1];have hlt':t<vs'.length:=A1
     have:=hl.2 t vs[t] vs'[t] (A8 hlt) (A8 hlt')
     simpa [B9,Array.getElem?_append,hlt,hlt',B4]using this
    ·rw[A3 A1,JE];have hlt':¬ t<vs'.length:=A1;have:(({ toList:=vs' }:Array Value)++Array.replicate (fn.ntmps-(Array.mk vs').size) undef).getD t undef=undef:=by
      simp[B9,Array.getElem?_append,hlt',jE];split<;>rfl
     rw[this];exact rU ρ
  have hhi:m1.hi=m'.hi:=by
   have hgc:=hgc;unfold gcM at hgc;simp only[F5,I6,fP]at hgc;cases hq:bX m.n 10 v && RY m.n m1.H (qB (m1.W.filter fun b=>Nat.blt b m.n || Nat.ble m1.hi b) [])with
   | true=>rw[hq]at hgc;obtain⟨_,q⟩:=A5 hgc;cases q;rfl
   | false=>rw[hq]at hgc;obtain⟨_,q⟩:=A5 hgc;cases q;rfl
  obtain⟨t1,t2,t3⟩:=zS htk;have hat0:At P base gl ρ ⟨m.H,m.n,[],m.hi,m.lg⟩ s.m.hi w:=⟨hat.hr,hat.bs,fun b q1 q2=>hat.fr b q1 (by rw[← hhi,t1];exact q2),hat.gr,hat.nh,fun b hb=>(by cases hb),hat.gf⟩;have hS1:Sat s.m.lg:=by rw[← t3,← A2k hgc];exact hS
  refine qX.1 (callsIn_of_wp_marks (F:=fw none) (n:=0) hf hb trivial ?_ rfl);refine hL.ok _ s e hrun hS1 ⟨none,[]⟩ ρ _ w _ hat0 hfr (fun _ _ h=>h) fun ρ1 a1 w1 f1 st1=>?_
  obtain⟨ds,d1,d2⟩:=f1.df;have d1:a1.defers=ds:=by rw[d1];simp
  have hlv:LeavesInM (fw none) 0 P fn a1.tmps (A4K P base ρ m m' w v) a1.defers .returning w1:=by
   rw[d1];have hat1:=hat0.step st1;refine FN (base:=base) (ρ:=ρ1) (hi:=0) _ _ _ _ _ htk d2 st1.hr (by rw[t1];exact hat1.fr) fun w' st2=>?_
   have st3:=St.trans (by have:=hat0.fr;rw[t1];exact this) st1 st2;obtain⟨v',g1,g2⟩:=A43 (s:=⟨s.fr,m1⟩) st2.hr f1 hres;obtain⟨_,ρ2,g3,g4⟩:=B3L hgc st3 hat g1;exact⟨v',g2,v',ρ2,rfl,g3,g4⟩
  rcases he with rfl|rfl
  ·exact hlv
  ·exact hlv
def WX{f:FuncId}{fn:Func}{c:Code}{call:Q9}(hf:P.funcs[f]? = some fn)(hb:fn.body=some c)(hnm:(fn.name == "runtime.NumGoroutine")=false)(hc:Y3 P base gl call)(hd:fG P base gl call){lp:LpT}(hlp:TI P base gl fn.ntmps c lp) :
  mH P base gl f ⟨xI fn P (P0 P fn.ntmps gl call lp [] c)⟩:=PW hf hb hnm (jC.code hc hd hlp)
def MO{ρ:Ren}{nt:Nat}(hn:nt≤512):∀ (ps:List Tmp) (args args':List Value) (fr fr':Fr) (tmps:Array Value),wR ps args fr=some fr'→LR ρ args args'→(∀ t ∈ ps,t<nt)→tmps.size=nt→(∀ t,t<nt→VR ρ (fr.get t) (tmps.getD t undef)) →
  ps.length=args'.length∧((ps.zip args').foldl (fun tmps (t,a)=>tmps.setIfInBounds t a) tmps).size=nt∧(∀ t,t<nt→VR ρ (fr'.get t) (((ps.zip args').foldl (fun tmps (t,a)=>tmps.setIfInBounds t a) tmps).getD t undef))∧∀ t,nt≤t→t<512→fr'.get t=fr.get t
 | [],[],args',fr,fr',tmps,h,hl,hp,hs,hg=>by
   cases h;rw[hl.nil_inv];exact⟨rfl,hs,hg,fun _ _ _=>rfl⟩
 | [],_::_,_,_,_,_,h,_,_,_,_=>by cases h
 | _::_,[],_,_,_,_,h,_,_,_,_=>by cases h
 | t::ps,v::vs,args',fr,fr',tmps,h,hl,hp,hs,hg=>by
   obtain⟨v',r',rfl,h1,h2⟩:=hl.tail;have ht:t<nt:=hp t C5;have h:wR ps vs (fr.set t v)=some fr':=by
    have e:wR (t::ps) (v::vs) fr=wR ps vs (fr.set t v):=HV t v fr (fun fr=>wR ps vs fr);rw[← e];exact h
   obtain⟨k1,k2,k3,k4⟩:=MO hn ps vs r' (fr.set t v) fr' (tmps.setIfInBounds t v') h h2 (fun u hu=>hp u (C7 _ hu)) (by simp[hs]) (fun u hu=>by
    rw[N2 _ _ _ _ (E1 ht hn) (E1 hu hn)];simp only[B9,G6];by_cases e:u=t
    ·subst e;rw[A4 rfl,A4 rfl,A4 (by rw[hs];exact hu)];exact h1
    ·rw[A3 e,A3 (fun h=>e h.symm)]
     have:=hg u hu
     simpa [B9]using this)
   refine⟨by simp[k1],k2,k3,fun u h3 h4=>?_⟩;rw[k4 u h3 h4,N2 _ _ _ _ (E1 ht hn) h4,A3 (fun e=>by subst e;exact absurd ht (Nat.not_lt.2 h3))]
def wP{b:Nat}{v:Value}{m':Mem}(h:sO b r=some (v,m')):∃ e s f q vs,r=some (e,s)∧Hp.get s.m.H b=some (.lp f q vs 1)∧gA s.m b (.lp f q vs (exN e))=some m'∧v=.bool (IW e):=by
 unfold sO at h;split at h
 ·rename_i e fr m;split at h
  ·rename_i f q vs hg;rw[F5]at h;split at h
   ·rename_i m1 hm;cases h;exact⟨e,⟨fr,m⟩,f,q,vs,rfl,hg,hm,rfl⟩
   ·cases h
  ·cases h
 ·cases h
def wO{b:Nat}{c:iS}{v:Value}{m':Mem}(h:sN b c r=some (v,m')):∃ s f q vs m1,r=some (.normal,s)∧Hp.get s.m.H b=some (.lp f q vs 0)∧gA s.m b (.lp f q vs 1)=some m1∧sO b (c.run ⟨s.fr,m1⟩)=some (v,m'):=by
 unfold sN at h;split at h
 ·rename_i fr m;split at h
  ·rename_i f q vs hg;split at h
   ·rename_i m1 hm;exact⟨⟨fr,m⟩,f,q,vs,m1,rfl,hg,hm,h⟩
   ·cases h
  ·cases h
 ·cases h
def ET{C:Cx}{call:Q9}{vs:D4}{m m':Mem}{v:Value}(h:(HZ C call).run vs m=some (v,m')):∃ b args f q fs fn body x ps as bd fr,vs=yv b::args∧Hp.get m.H b=some (.lp f q fs 0)∧C.P.funcs[f]? = some fn∧fn.body=some body∧I0 q body=some (.rangeFunc x ps as bd) ∧
  fn.ntmps≤510∧(∀ t ∈ ps.toList,t<fn.ntmps)∧wR ps.toList args (gV fr0 0 fs)=some fr ∧
  sN b (P0 C.P fn.ntmps C.gl call (C.lp f) (q++[true]) bd) ((P0 C.P fn.ntmps C.gl call (C.lp f) (q++[false]) as).run ⟨fr.set 511 (yv b),m⟩)=some (v,m'):=by
 unfold HZ at h;simp only at h;split at h
 ·cases h
 ·rename_i u args;split at h
  ·cases h
  ·rename_i b hb
   have:=DX hb;subst this;split at h
   ·rename_i f q fs hg;split at h
    ·cases h
    ·rename_i fn hf;split at h
     ·cases h
     ·rename_i body hbd;split at h
      ·rename_i x ps as bd hq;obtain⟨h1,h⟩:=A5 h;obtain⟨h1,h2⟩:=B8 h1;split at h
       ·rename_i fr hfr;refine⟨b,args,f,q,fs,fn,body,x,ps,as,bd,fr,rfl,hg,by simpa using hf,hbd,hq,A2 h1,fun t ht=>A2 (E4.1 h2 t ht),hfr,?_⟩;have e:∀ (k:Fr→Res),xR (sel 7) (sel 7) (sel 7) (yv b) fr k=k (fr.set 511 (yv b)):=fun k=>HV 511 (yv b) fr k
        rw[e]at h;exact h
       ·cases h
      ·cases h
   ·cases h
def A0_{C:Cx}{call:Q9}(hc:Y3 C.P base C.gl call)(hd:fG C.P base C.gl call)(hlp:∀ f fn body,C.P.funcs[f]? = some fn→fn.body=some body→TI C.P base C.gl fn.ntmps body (C.lp f)):B1Q C.P base C.gl (HZ C call):=by
 refine⟨fun vs m m' v h=>?_,fun ρ m m' w b args args' v l h hS hat hl hbl=>?_⟩
 ·obtain⟨b,args,f,q,fs,fn,body,x,ps,as,bd,fr,rfl,_,h1,h2,h3,_,_,_,h⟩:=ET h;obtain⟨s1,f2,q2,fs2,m2,g1,_,g3,h⟩:=wO h;obtain⟨e,s2,f3,q3,fs3,k1,_,k3,_⟩:=wP h;have a1:=(W4 hc hd (hlp f fn body h1 h2) as (q++[false]) (J4 h3 rfl) _ _ _ g1).2;have a2:=(W4 hc hd (hlp f fn body h1 h2) bd (q++[true]) (J4 h3 rfl) _ _ _ k1).2;rw[(oV k3).2];have a2:m2.lg.le s2.m.lg:=a2;rw[(oV g3).2]at a2;exact a1.trans a2
 ·obtain⟨b',args2,f,q,fs,fn,body,x,ps,as,bd,fr,e0,hg,h1,h2,h3,h4,h5,h6,h⟩:=ET h;cases e0;obtain⟨s1,f2,q2,fs2,m2,g1,g2,g3,h⟩:=wO h;obtain⟨e,s2,f3,q3,fs3,k1,k2,k3,rfl⟩:=wP h;have c1:=W4 hc hd (hlp f fn body h1 h2) as (q++[false]) (J4 h3 rfl) _ _ _ g1;have c2:=W4 hc hd (hlp f fn body h1 h2) bd (q++[true]) (J4 h3 rfl) _ _ _ k1;obtain⟨j1,j2⟩:=oV g3;obtain⟨j3,j4⟩:=oV k3;have hS2:Sat s2.m.lg:=by rw[← j4];exact hS
  have hS1:Sat s1.m.lg:=by rw[← j2];exact U3.le hS2 c2.2
  have hi2:m2.hi≤s2.m.hi:=c2.1;obtain⟨⟨⟨b1,b2⟩,r,b3,b4⟩,_⟩:=hat.hr.atl hbl hg;obtain⟨fn',body',x',e1,e2,e3,e4⟩:=b4.code;rw[h1]at e1;cases e1;rw[h2]at e2;cases e2;rw[h3]at e3;cases e3;have hlen:=b4.fr.1;have hun:∀ t,fs.length≤t→t<512→(gV fr0 0 fs).get t=undef:=fun t q1 q2=>by
   rw[kF _ _ _ _ A1 q2,A3 A1,JE]
  obtain⟨p1,p2,p3,p4⟩:=MO (ρ:=ρ) (nt:=fn.ntmps) A1 r.params.toList args args' (gV fr0 0 fs) fr r.tmps h6 hl h5 (by simpa [e4]using hlen.symm) (fun t ht=>by
   rw[kF _ _ _ _ A1 A1,A4 A1];have hlt:t<fs.length:=A1;have hlt':t<r.tmps.toList.length:=A1
   have:=b4.fr.2 t fs[t] _ (A8 hlt) (A8 hlt');have hlt2:t<r.tmps.size:=by simpa using hlt'
   simpa [B9,hlt,hlt2,B4]using this)
  have hfold:(r.params.zip ⟨args'⟩).foldl (fun tmps (t,a)=>tmps.setIfInBounds t a) r.tmps=(r.params.toList.zip args').foldl (fun tmps (t,a)=>tmps.setIfInBounds t a) r.tmps:=by
   rw[← Array.foldl_toList];simp
  refine⟨r.fn,_,r.assign,r.body,run_yield b3 (by show args'.length=_;rw[← p1];simp),?_⟩;rw[hfold];refine roundIn_of_wpIn (F:=Fence.wide) (n:=0) trivial ?_;have hget:∀ t,t<511→(fr.set 511 (yv b)).get t=fr.get t:=fun t ht=>by rw[N2 _ _ _ _ C3 A1,A3 A1]
  have hfr:FrR ⟨some l.blk,[]⟩ ρ fn.ntmps (fr.set 511 (yv b)) { tmps:=(r.params.toList.zip args').foldl (fun tmps (t,a)=>tmps.setIfInBounds t a) r.tmps,defers:=[] }:=by
   refine⟨p2,A1,⟨[],rfl,?_⟩,fun _=>?_,fun t ht=>by rw[hget t A1];exact p3 t ht⟩
   ·unfold dvG;rw[hget 510 C3,p4 510 h4 C3,hun 510 A1 C3];cases Nat.ble fn.ntmps 510<;>exact .nil
   ·rw[N2 _ _ _ _ C3 C3,A4 rfl];refine⟨fun hu=>(by cases hu),fun b0 hb0=>?_⟩;have:b0=b:=by
     have:fR (yv b)=some b:=rfl;rw[this]at hb0;exact(B1 hb0).symm
    subst this;exact⟨l,hbl,rfl⟩
  have hfree:L6 ρ m.n m'.hi:=hat.fr;refine U7 (z:=⟨some l.blk,[]⟩) hc hd (hlp f fn body h1 h2) r.assign (q++[false]) (J4 h3 rfl) ρ ⟨fr.set 511 (yv b),m⟩ s1 .normal _ w _ g1 hS1 (hat.less (by rw[j3];omega)) hfr fun ρ1 a1 w1 f1 st1=>?_
  have hb1:=st1.ext _ _ hbl;obtain⟨⟨⟨_,_⟩,r2,d3,d4⟩,_⟩:=st1.hr.atl hb1 g2;obtain⟨o1,o2,o3⟩:=kU (o:=.loop { r2 with state:=.busy }) (D9.1 d3).1;have st2:St C.P base ρ1 ρ1 s1.m m2 w1 (w1.putObj l.blk (.loop { r2 with state:=.busy })):=St.write st1.hr g3 g2 rfl hb1 b1 ⟨rfl,rfl,rfl⟩ o1 o3 ⟨⟨b1,b2⟩,_,o2,d4.code,d4.fr,rfl⟩;refine⟨_,run_beginRound d3 d4.st.1,?_⟩;have hat1:=(hat.step st1);have hat2:=hat1.step st2;refine U7 (z:=⟨some l.blk,[]⟩) hc hd (hlp f fn body h1 h2) r.body (q++[true]) (J4 h3 rfl) ρ1 ⟨s1.fr,m2⟩ s2 e _ _ _ k1 hS2 (hat2.less (by rw[j3];exact B0 _)) f1 fun ρ2 a2 w3 f3 st3=>?_
  have hb2:=st3.ext _ _ hb1;obtain⟨⟨⟨_,_⟩,r3,d5,d6⟩,_⟩:=st3.hr.atl hb2 k2;have fin:∀ (jump:Option Code),StR (exN e) (if jump.isNone then .ready else .done) jump→jump.isNone=IW e→∃ v w',(Instr.endRound l.blk jump).run C.P w3=.ok v w'∧A4K C.P base ρ m m' w (.bool (IW e)) (.returned v) w':=fun jump hj he=>by
   refine⟨_,_,run_endRound jump d5,?_⟩;obtain⟨o4,o5,o6⟩:=kU (o:=.loop { r3 with state:=if jump.isNone then .ready else .done,pending:=jump }) (D9.1 d5).1;have st4:St C.P base ρ2 ρ2 s2.m m' w3 (w3.putObj l.blk (.loop { r3 with state:=if jump.isNone then .ready else .done,pending:=jump })):=St.write st3.hr k3 k2 rfl hb2 b1 ⟨rfl,rfl,rfl⟩ o4 o6 ⟨⟨b1,b2⟩,_,o5,d6.code,d6.fr,hj⟩;exact⟨_,ρ2,rfl,by rw[he];exact .pure rfl,St.trans hfree st1 (St.trans hat1.fr st2 (St.trans hat2.fr st3 st4))⟩
  cases e with
  | normal=>exact fin none ⟨rfl,rfl⟩ rfl
  | ret=>exact fin (some .ret) ⟨rfl,rfl⟩ rfl
  | exit k=>exact fin (some (.exit k)) ⟨rfl,rfl⟩ rfl
structure A6a (C:Cx) (base:Nat):Prop where
 names:KJ C.P
 ext:∀ f k fn,C.P.funcs[f]? = some fn→fn.body=none→OT C.ext f=some k→mH C.P base C.gl f ⟨qS k⟩
 con:∀ f c,C.con f=some c→mH C.P base C.gl f c
 lp:∀ f fn body,C.P.funcs[f]? = some fn→fn.body=some body→TI C.P base C.gl fn.ntmps body (C.lp f)
 draws:∀ call,Y3 C.P base C.gl call→fG C.P base C.gl call
def pA(f:FuncId):mH P base gl f ⟨fun _ _=>none⟩:=⟨fun vs m m' v hr=>(by cases hr),fun ρ m m' w vs vs' v hr=>(by cases hr)⟩
def A5H:B1Q P base gl ⟨fun _ _=>none⟩:=⟨fun vs m m' v hr=>(by cases hr),fun ρ m m' w b args args' v l hr=>(by cases hr)⟩
def uF{C:Cx}(h:A6a C base):∀ (d:Nat),Y3 C.P base C.gl (qC C d)
 | 0=>⟨fun f=>pA f,A5H⟩
 | d+1=>by
   have hc:=uF h d;refine⟨fun f=>?_,A0_ hc (h.draws _ hc) h.lp⟩;show mH C.P base C.gl f (GV C (qC C d) f);unfold GV;split
   ·exact pA f
   ·rename_i fn hf;have hf:C.P.funcs[f]? = some fn:=by simpa using hf
    split
    ·rename_i c hcon;exact h.con f c hcon
    ·split
     ·rename_i hb;split
      ·rename_i k hk;exact h.ext f k fn hf hb hk
      ·exact pA f
     ·rename_i c hb;exact WX (gl:=C.gl) hf hb (h.names f fn hf) hc (h.draws _ hc) (h.lp f fn c hf hb)
end
end
section
open Go
variable [Ora]
def KI(P:Program)(nt gl:Nat)(call:Q9)(all:List Oper)(b:List Nat)(rs:List Rec)(so:Bool)(o:Oper)(fr fr':Fr)(m m2:Mem)(v:Value):Prop :=
 CC nt o.dst=true∧RQ nt gl o.op=true∧fr'=yA o.dst v fr ∧
 ((so=false∧∃ lg,bZ nt fr m.lg all o=some (false,lg)∧v=undef∧m2=m.wLg lg) ∨
   (so=false∧∃ lg lg2,bZ nt fr m.lg all o=some (true,lg)∧mY fr (m.wLg lg) o b rs (Z9 P call o)=some (v,lg2)∧m2=m.wLg lg2) ∨
   (so=true∧∃ lg,bZ nt fr m.lg all o=some (true,lg)∧(Z9 P call o).run fr (m.wLg lg)=some (v,m2)∧m.hi≤m2.hi) ∨
   (so=false∧bB o.op=false∧∃ lg,bZ nt fr m.lg all o=some (true,lg)∧∃ mv m',DZ (m.wLg lg) (B3y fr o.op) (FF b rs)=some mv∧(Z9 P call o).run fr mv=some (v,m')∧m'.W=[]∧m.hi≤m'.hi∧nG (m.wLg lg) m'=some m2))
def ZC{α:Type}{c:Bool}{x:Option α}{y:α}(h:(bif c then none else x)=some y):c=false∧x=some y:=by cases c<;>first|exact⟨rfl,h⟩|cases h
def fF(nt:Nat)(all:List Oper)(op:OpC)(b:List Nat)(rs:List Rec)(fr:Fr)(o:Oper)(m m2:Mem)(v:Value)(r:Option (Nat×AB)):Prop :=
 (∃ lg,bZ nt fr m.lg all o=some (false,lg)∧v=undef∧m2=m.wLg lg∧r=none)∨(∃ lg lg2,bZ nt fr m.lg all o=some (true,lg)∧mY fr (m.wLg lg) o b rs op=some (v,lg2)∧m2=m.wLg lg2∧r=OM m.H fr o.op)
def QsN(so:Bool)(i nt:Nat)(all:List Oper)(op:OpC)(b:List Nat)(rs:List Rec)(fr:Fr)(o:Oper)(m m2:Mem)(v:Value)(qs qs2:Qs):Prop :=
 (so=true∧qs2=qs∧A2F b m2.H qs=true)∨(so=false∧qs2=qs)∨(so=false∧∃ r,qs2=(i,r)::qs∧fF nt all op b rs fr o m m2 v r)
def A4I(P:Program)(nt gl:Nat)(call:Q9)(all:List Oper)(r:List Oper)(i:Nat)(bs:List I1)(rs:List Rec)(qs:Qs)(s s':S):Prop :=
  ∃ (F:Nat→Fr) (M:Nat→Mem) (V:Nat→Value) (R:Nat→List Rec) (X:Nat→Qs) (B:Nat→Bool),F i=s.fr∧M i=s.m∧R i=rs∧X i=qs∧F (i+r.length)=s'.fr∧M (i+r.length)=s'.m ∧
   ∀ j o,r[j]? = some o→KI P nt gl call all (bs.getD j []) (R (i+j)) (B (i+j)) o (F (i+j)) (F (i+j+1)) (M (i+j)) (M (i+j+1)) (V (i+j))∧(B (i+j)=true→LT o.op (i+j) (bs.getD j []) (bs.drop (j+1)) (r.drop (j+1)) (X (i+j))=true) ∧
    ((R (i+j+1)=R (i+j)∧∃ lg,M (i+j+1)=(M (i+j)).wLg lg)∨(B (i+j)=true∧R (i+j+1)=[])∨R (i+j+1)=⟨i+j,(M (i+j)).n,(M (i+j+1)).n⟩::R (i+j)) ∧
    QsN (B (i+j)) (i+j) nt all (Z9 P call o) (bs.getD j []) (R (i+j)) (F (i+j)) o (M (i+j)) (M (i+j+1)) (V (i+j)) (X (i+j)) (X (i+j+1))
def A65{P:Program}{nt gl:Nat}{call:Q9}{all:List Oper}:∀ (r:List Oper) (i:Nat) (bs:List I1) (rs:List Rec) (qs:Qs) (s s':S),x9 P nt gl call all r i bs rs qs s=some s'→A4I P nt gl call all r i bs rs qs s s'
 | [],i,bs,rs,qs,s,s',h=>by
   have h:some s=some s':=by cases bs<;>exact h
   cases h;exact⟨fun _=>s.fr,fun _=>s.m,fun _=>undef,fun _=>rs,fun _=>qs,fun _=>false,rfl,rfl,rfl,rfl,rfl,rfl,fun j o hj=>by simp at hj⟩
 | o::r,i,[],rs,qs,s,s',h=>by obtain⟨fr,m⟩:=s;cases h
 | o::r,i,b::bs,rs,qs,⟨fr,⟨H0,n0,W0,hi0,lg0⟩⟩,s',h=>by
   generalize hmdef:(⟨H0,n0,W0,hi0,lg0⟩:Mem)=m at h;have glue:∀ (so:Bool),(so=true→LT o.op i b bs r qs=true)→∀ (v:Value) (m2:Mem) (rs2:List Rec) (qs2:Qs),KI P nt gl call all b rs so o fr (yA o.dst v fr) m m2 v→((rs2=rs∧∃ lg,m2=m.wLg lg)∨(so=true∧rs2=[])∨rs2=⟨i,m.n,m2.n⟩::rs)→QsN so i nt all (Z9 P call o) b rs fr o m m2 v qs qs2→x9 P nt gl call all r (i+1) bs rs2 qs2 ⟨yA o.dst v fr,m2⟩=some s'→A4I P nt gl call all (o::r) i (b::bs) rs qs ⟨fr,m⟩ s':=fun so hsb v m2 rs2 qs2 hst hrs hqs hrun=>by
    obtain⟨F,M,V,R,X,B,f1,f2,f3,f3',f4,f5,f6⟩:=A65 r (i+1) bs rs2 qs2 _ s' hrun;refine⟨fun j=>if j≤i then fr else F j,fun j=>if j≤i then m else M j,fun j=>if j≤i then v else V j,fun j=>if j≤i then rs else R j,fun j=>if j≤i then qs else X j,fun j=>if j≤i then so else B j,by simp,by simp,by simp,by simp,?_,?_,?_⟩
    ·simp only[B3];rw[A3 A1,show i+(r.length+1)=i+1+r.length by omega];exact f4
    ·simp only[B3];rw[A3 A1,show i+(r.length+1)=i+1+r.length by omega];exact f5
    ·intro j o' hj;cases j with
     | zero =>
       simp at hj;subst hj;simp only[Nat.add_zero,B0,if_true,Nat.not_succ_le_self,if_false,f1,f2,f3,f3'];exact⟨hst,hsb,hrs,hqs⟩
     | succ j =>
       have hj':r[j]? = some o':=by simpa using hj
       have:=f6 j o' hj';simp only[show ¬ i+(j+1)≤i by omega,show ¬ i+(j+1)+1≤i by omega,if_false];rw[show i+(j+1)=i+1+j by omega]
       simpa using this
   subst hmdef;unfold x9 at h;split at h
   ·rename_i lg hw hd;obtain⟨d1,d2⟩:=B8 hd;cases hso:LT o.op i b bs r qs with
    | true =>
      rw[hso]at h;simp only[F0]at h;split at h
      ·rename_i v m2 hr;obtain⟨hhi,h⟩:=A5 h;obtain⟨hhi,hkf⟩:=B8 hhi;rw[dL]at h;exact glue true (fun _=>hso) v m2 _ _ ⟨d1,d2,rfl,.inr (.inr (.inl ⟨rfl,lg,hw,hr,A2 hhi⟩))⟩ (.inr (.inl ⟨rfl,rfl⟩)) (.inl ⟨rfl,rfl,hkf⟩) h
      ·cases h
    | false =>
      rw[hso]at h;simp only[E7]at h;split at h
      ·rename_i v lg2 hq;obtain⟨hqt,hq⟩:=A5 hq;rw[dL]at h;exact glue false (fun h=>by cases h) v _ _ _ ⟨d1,d2,rfl,.inr (.inl ⟨rfl,lg,lg2,hw,hq,rfl⟩)⟩ (.inl ⟨rfl,lg2,rfl⟩) (.inr (.inr ⟨rfl,_,rfl,.inr ⟨lg,lg2,hw,hq,rfl,rfl⟩⟩)) h
      ·obtain⟨hqk,h⟩:=ZC h;unfold WM at h;simp only at h;split at h
       ·rename_i mv hv;split at h
        ·rename_i v m' hr;split at h
         ·rename_i hW hhi;split at h
          ·rename_i m2 hm;rw[dL]at h;exact glue false (fun h=>by cases h) v m2 _ _ ⟨d1,d2,rfl,.inr (.inr (.inr ⟨rfl,hqk,lg,hw,mv,m',hv,hr,hW,A2 hhi,hm⟩))⟩ (.inr (.inr rfl)) (.inr (.inl ⟨rfl,rfl⟩)) h
          ·cases h
         ·cases h
        ·cases h
       ·cases h
   ·rename_i lg hw hd;obtain⟨d1,d2⟩:=B8 hd;rw[dL]at h;exact glue false (fun h=>by cases h) undef _ _ _ ⟨d1,d2,rfl,.inl ⟨rfl,lg,hw,rfl,rfl⟩⟩ (.inl ⟨rfl,lg,rfl⟩) (.inr (.inr ⟨rfl,_,rfl,.inl ⟨lg,hw,rfl,rfl,rfl⟩⟩)) h
   ·cases h
def PZ{l:I1}{b k:Nat}(h:k ∈ A4G l b):k=b∨k ∈ l:=by
 unfold A4G at h;cases e:aT l b with
 | true=>rw[e]at h;exact .inr h
 | false=>rw[e,E7,F5]at h;exact C6.1 h
def FP:∀ {a b:I1} {k:Nat},k ∈ VO a b→k ∈ a∨k ∈ b
 | [],b,k,h=>.inr h
 | x::a,b,k,h=>by
   rcases PZ (show k ∈ A4G (VO a b) x from h)with rfl|h
   ·exact .inl C5
   ·rcases FP h with h|h
    ·exact .inl (C7 _ h)
    ·exact .inr h
def vZ{acc:List I1}:∀ {es:List Edge} {k:Nat},k ∈ uL acc es→∃ e ∈ es,Region.binds .any e=true∧(k=e.on∨k ∈ acc.getD e.on [])
 | [],k,h=>by cases h
 | e::r,k,h=>by
   unfold uL at h;cases hb:Region.binds .any e with
   | true =>
     rw[hb]at h;rw[F0]at h;rcases(PZ h).imp_right FP with h|h|h
     ·exact⟨e,C5,hb,.inl h⟩
     ·exact⟨e,C5,hb,.inr h⟩
     ·obtain⟨e',h1,h2⟩:=vZ h;exact⟨e',C7 _ h1,h2⟩
   | false =>
     rw[hb]at h;obtain⟨e',h1,h2⟩:=vZ h;exact⟨e',C7 _ h1,h2⟩
def vY:∀ (r:List Oper) (acc:List I1),∃ tl,m6 r acc=acc++tl∧tl.length=r.length∧∀ j o,r[j]? = some o→∃ pre,pre=(acc++tl).take (acc.length+j)∧tl[j]? = some (uL pre o.after.toList)
 | [],acc=>⟨[],by simp[m6],rfl,fun j o h=>by simp at h⟩
 | o::r,acc=>by
   obtain⟨tl,h1,h2,h3⟩:=vY r (acc++[uL acc o.after.toList]);refine⟨uL acc o.after.toList::tl,by rw[m6,I6,h1];simp,by simp[h2],fun j o' hj=>?_⟩;cases j with
   | zero =>
     simp at hj;subst hj;exact⟨_,rfl,by simp⟩
   | succ j =>
     obtain⟨pre,g1,g2⟩:=h3 j o' (by simpa using hj);refine⟨pre,?_,by simpa using g2⟩;rw[g1];simp[dC,lN 1 j]
def A6V{ops:List Oper}{k:Nat}(ho:ops[i]? = some o)(he:∀ e ∈ o.after.toList,Region.binds .any e=true→e.on<i)(hk:k ∈ (m6 ops []).getD i []) :
  ∃ e ∈ o.after.toList,Region.binds .any e=true∧(k=e.on∨k ∈ (m6 ops []).getD e.on []):=by
 obtain⟨tl,h1,h2,h3⟩:=vY ops [];simp only[O9]at h1 h3;obtain⟨pre,g1,g2⟩:=h3 i o ho;rw[h1]at hk ⊢;rw[B4,g2]at hk;obtain⟨e,e1,e2,e3⟩:=vZ (show k ∈ uL pre o.after.toList from hk);refine⟨e,e1,e2,e3.imp id fun h=>?_⟩;have hlt:=he e e1 e2;rw[g1]at h;simp only[D2,G0,B4]at h ⊢;rw[F9 hlt]at h;exact h
def oO(ops:List Oper)(D:Nat→Prop):Prop:=∀ i o,ops[i]? = some o→D i→∀ e ∈ o.after.toList,Region.binds .any e=true→D e.on
def CU{ops:List Oper}{D:Nat→Prop}(hc:oO ops D)(hb:∀ i o,ops[i]? = some o→∀ e ∈ o.after.toList,Region.binds .any e=true→e.on<i) :
  ∀ (n i k:Nat) (o:Oper),i<n→ops[i]? = some o→(∀ e ∈ o.after.toList,Region.binds .any e=true→D e.on)→k ∈ (m6 ops []).getD i []→D k
 | 0,i,k,o,h,_,_,_=>by omega
 | n+1,i,k,o,h,ho,he,hk=>by
   obtain⟨e,e1,e2,e3⟩:=A6V ho (hb i o ho) hk;rcases e3 with rfl|e3
   ·exact he e e1 e2
   ·have hlt:=hb i o ho e e1 e2;have hlen:e.on<ops.length:=Nat.lt_trans hlt (B2.1 ho).1;refine CU hc hb n e.on k ops[e.on] A1 (A8 hlen) (fun e' h1 h2=>hc e.on _ (A8 hlen) (he e e1 e2) e' h1 h2) e3
def HD{H0:Hp AB}:∀ (l:List Nat) (H:Hp AB),(∀ b ∈ l,b≤I4)→∀ id,id≤I4→Hp.get (HE H0 H l) id=if id ∈ l then Hp.get H0 id else Hp.get H id
 | [],H,_,id,_=>by simp[HE]
 | b::r,H,hl,id,hid=>by
   have hb:=hl b C5;rw[HE,gF,HD r _ (fun x hx=>hl x (C7 _ hx)) id hid,F7 _ _ _ _ hb hid];by_cases h1:id ∈ r
   ·rw[A4 h1,A4 (C7 _ h1)]
   ·rw[A3 h1];by_cases h2:id=b
    ·subst h2;rw[A4 rfl,A4 C5]
    ·rw[A3 h2,A3 (by simp[h1,h2])]
def FX:∀ (l:List Nat) (H:Hp AB),(∀ b ∈ l,b≤I4)→∀ id,id≤I4→Hp.get (FY H l) id=if id ∈ l then none else Hp.get H id
 | [],H,_,id,_=>by simp[FY]
 | b::r,H,hl,id,hid=>by
   have hb:=hl b C5;rw[FY,gF,FX r _ (fun x hx=>hl x (C7 _ hx)) id hid,F7 _ _ _ _ hb hid];by_cases h1:id ∈ r
   ·rw[A4 h1,A4 (C7 _ h1)]
   ·rw[A3 h1];by_cases h2:id=b
    ·subst h2;rw[A4 rfl,A4 C5]
    ·rw[A3 h2,A3 (by simp[h1,h2])]
def nH:∀ (n lo b:Nat),b ∈ QX lo n↔lo≤b∧b<lo+n
 | 0,lo,b=>by simp[QX]
 | n+1,lo,b=>by
   simp only[QX,C6,nH n (lo+1) b];omega
def NI{m m' m2:Mem}(h:nG m m'=some m2)(hn:m.n≤m.hi)(hhi:m.hi≤m'.hi):m.n≤m2.n∧m.hi≤m2.hi∧m2.n≤m2.hi∧m2.W=m.W∧(m2.n=m'.hi∨(m2.n=m.n∧m'.hi≤m.n))∧m2.hi=m'.hi∧m2.lg=m'.lg ∧
  ∀ id,id≤I4→Hp.get m2.H id=if m.n≤id∧id<m2.n then Hp.get m'.H id else Hp.get m.H id:=by
 unfold nG at h;cases hq:Nat.ble m'.hi m.n with
 | true =>
   have hq:=A2 hq;have hq2:Nat.ble m'.hi m.n=true:=C8 hq;rw[hq2]at h;cases h;refine⟨B0 _,B0 _,hn,rfl,.inr ⟨rfl,hq⟩,by show m.hi=m'.hi;omega,rfl,fun id hid=>?_⟩;rw[A3 (by show ¬ (m.n≤id∧id<m.n);omega)]
 | false =>
   have hq':m.n<m'.hi:=by
    rcases G4 m.n m'.hi with h1|h1
    ·exact h1
    ·rw[show Nat.ble m'.hi m.n=true from C8 h1]at hq;cases hq
   rw[hq]at h;simp only[E7]at h;obtain⟨hb,h⟩:=A5 h;have hb:=A2 hb;simp only[F5,fP]at h;cases h;refine⟨lM hq',hhi,B0 _,rfl,.inl rfl,rfl,rfl,fun id hid=>?_⟩;show Hp.get (HE m'.H m.H (QX m.n (m'.hi-m.n))) id=_;rw[HD _ _ (fun b hb'=>by have:=(nH _ _ _).1 hb';omega) id hid];by_cases h1:m.n≤id∧id<m'.hi
   ·rw[A4 ((nH _ _ _).2 A1),A4 h1]
   ·rw[A3 (fun h=>h1 (by have:=(nH _ _ _).1 h;omega)),A3 h1]
def bH(D:Nat→Bool)(dst:Nat→Option Tmp)(V:Nat→Value)(f0:Tmp→Value)(t:Tmp):Nat→Value
 | 0=>f0 t
 | n+1=>if D n=true∧dst n=some t then V n else bH D dst V f0 t n
def gR{D D':Nat→Bool}{dst:Nat→Option Tmp}{V:Nat→Value}{f0:Tmp→Value}{t:Tmp}:∀ (n:Nat),(∀ k,k<n→dst k=some t→D k=D' k)→bH D dst V f0 t n=bH D' dst V f0 t n
 | 0,_=>rfl
 | n+1,h=>by
   unfold bH;have ih:=gR (V:=V) (f0:=f0) n fun k hk=>h k (Nat.lt_succ_of_lt hk)
   by_cases hd:dst n=some t
   ·rw[h n (K3 n) hd,ih]
   ·rw[A3 (fun hh=>hd hh.2),A3 (fun hh=>hd hh.2),ih]
def tR{D D':Nat→Bool}{dst:Nat→Option Tmp}{V:Nat→Value}{f0:Tmp→Value}{t:Tmp}{i:Nat}(hD:∀ k,k≠i→D' k=D k)(hi:D' i=true):∀ (n:Nat),i<n→dst i=some t→(∀ k,i<k→k<n→dst k=some t→D k=false)→bH D' dst V f0 t n=V i
 | 0,h,_,_=>by omega
 | n+1,h,hd,hl=>by
   unfold bH;by_cases e:n=i
   ·subst e;rw[A4 ⟨hi,hd⟩]
   ·have hlt:i<n:=A1;rw[A3 (fun hh=>by
     have h1:=hl n hlt (K3 n) hh.2;rw[hD n e,h1]at hh;exact absurd hh.1 (by simp))]
    exact tR hD hi n hlt hd fun k hk hkn=>hl k hk (Nat.lt_succ_of_lt hkn)
def qN{D D':Nat→Bool}{dst:Nat→Option Tmp}{V:Nat→Value}{f0:Tmp→Value}{t:Tmp}(hD:∀ k,k≠i→D' k=D k)(hd:dst i≠some t)(n:Nat):bH D' dst V f0 t n=bH D dst V f0 t n :=
 gR n fun k _ hk=>hD k fun e=>hd (e▸hk)
structure HRf (P:Program) (base:Nat) (ρ:Ren) (G:Nat→Option AB) (w:World):Prop where
 dom:∀ b l,ρ b=some l→b≤I4
 at_:∀ id,id≤I4→∀ ab,G id=some ab→∃ l,ρ id=some l∧BR P ρ ab l w∧(ab.rw=true→l.on=true→base≤l.blk∧∀ id2,id2≤I4→∀ ab2 l2,G id2=some ab2→ρ id2=some l2→Tc ab2 l2 l.blk→id2=id)
def HRf.hr{P:Program}{base:Nat}{ρ:Ren}{G:Nat→Option AB}{H:Hp AB}{w:World}(h:HRf P base ρ G w)(hs:∀ id,id≤I4→∀ ab,Hp.get H id=some ab→G id=some ab):HR P base ρ H w :=
 ⟨h.dom,fun id hid ab hab=>let ⟨l,a,b,c⟩:=h.at_ id hid ab (hs id hid ab hab);⟨l,a,b,fun hr ho=>⟨(c hr ho).1,fun id2 hid2 ab2 l2 g=>(c hr ho).2 id2 hid2 ab2 l2 (hs id2 hid2 ab2 g)⟩⟩⟩
def HR.f{P:Program}{base:Nat}{ρ:Ren}{H:Hp AB}{w:World}(h:HR P base ρ H w){G:Nat→Option AB}(hs:∀ id,id≤I4→∀ ab,G id=some ab→Hp.get H id=some ab):HRf P base ρ G w :=
 ⟨h.dom,fun id hid ab hab=>let ⟨l,a,b,c⟩:=h.at_ id hid ab (hs id hid ab hab);⟨l,a,b,fun hr ho=>⟨(c hr ho).1,fun id2 hid2 ab2 l2 g=>(c hr ho).2 id2 hid2 ab2 l2 (hs id2 hid2 ab2 g)⟩⟩⟩
def Ff(ρ:Ren)(G:Nat→Option AB)(k:Nat):Prop:=∃ id ab l,id≤I4∧G id=some ab∧ρ id=some l∧Tf ab l k
end
end Go.Sx
