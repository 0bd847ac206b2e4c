/- The law ColorBack: for every input the call returns true, and the arguments read behind it as they read before. No condition. -/
import Derived.Test.YtdmdghooamchfaaDoorX5
namespace Go.Sx
set_option linter.all false
open Go
set_option linter.unusedVariables false
set_option linter.unusedSimpArgs false
inductive Sh where
 | s (t:Nat)
 | a (ts:List Nat)
def valS (t:Nat) (u:U):Option Value:=if tagU u=t then toV u else none
def valC:List Nat→List U→Option (List Value × List U)
 | [],us=>some ([],us)
 | t::ts,u::us=>match valS t u,valC ts us with
   | some v,some (vs,r)=>some (v::vs,r)
   | _,_=>none
 | _::_,[]=>none
def valSh:Sh→List U→Option (Value × List U)
 | .s t,u::us=>match valS t u with
   | some v=>some (v,us)
   | none=>none
 | .s _,[]=>none
 | .a ts,us=>match valC ts us with
   | some (vs,r)=>some (.agg ⟨vs⟩,r)
   | none=>none
def valL:List Sh→List U→Option (List Value)
 | [],[]=>some []
 | [],_::_=>none
 | h::hs,us=>match valSh h us with
   | some (v,r)=>match valL hs r with
     | some vs=>some (v::vs)
     | none=>none
   | none=>none
def tup:List Value→Value
 | [v]=>v
 | vs=>.tuple ⟨vs⟩
structure Grown (w w':World):Prop where
 os:w'.os=w.os∧w'.tape=w.tape∧w'.output=w.output
 size:w.heap.size≤w'.heap.size
 keep:∀ k,k < w.heap.size→w'.heap[k]? = w.heap[k]?
def GOk (G:Nat→Option Obj) (w:World):Prop:=∀ k o,G k=some o→w.heap[k]? = some o
theorem GOk.lt {G:Nat→Option Obj} {w:World} (h:GOk G w) {k:Nat} {o:Obj} (hk:G k=some o):k < w.heap.size:=by
 have:=h k o hk
 rcases Nat.lt_or_ge k w.heap.size with h1|h1
 ·exact h1
 ·rw [Array.getElem?_eq_none h1] at this; cases this
abbrev Spec:=List U→Option (Nat × List U)
def Sh.tags:Sh→List Nat
 | .s t=>[t]
 | .a ts=>ts
def tagsL:List Sh→List Nat
 | []=>[]
 | s::ss=>s.tags++tagsL ss
def Sh.n (s:Sh):Nat:=s.tags.length
def shN:List Sh→Nat
 | []=>0
 | h::hs=>h.n+shN hs
def dataB (ss:List Sh):Bool:=(tagsL ss).any (Nat.ble 10)
inductive ShR (R:Nat→Option Obj):Sh→List U→Value→Prop
 | s {t u v} (h:Enc R u v) (ht:tagU u=t):ShR R (.s t) [u] v
 | a {ts us cs} (h:EncL R us cs) (ht:us.map tagU=ts):ShR R (.a ts) us (.agg ⟨cs⟩)
inductive ShL (R:Nat→Option Obj):List Sh→List U→List Value→Prop
 | nil:ShL R [] [] []
 | cons {s ss us us2 v vs} (h:ShR R s us v) (k:ShL R ss us2 vs):ShL R (s::ss) (us++us2) (v::vs)
theorem EncL.append {R:Nat→Option Obj} {us us2:List U} {vs vs2:List Value} (h:EncL R us vs) (k:EncL R us2 vs2):EncL R (us++us2) (vs++vs2):=by
 refine ⟨by simp [h.1,k.1],fun i u v h1 h2=>?_⟩
 rcases Nat.lt_or_ge i us.length with hl|hl
 ·rw [List.getElem?_append_left hl] at h1
  rw [List.getElem?_append_left (h.1 ▸ hl)] at h2
  exact h.2 i u v h1 h2
 ·rw [List.getElem?_append_right hl] at h1
  rw [List.getElem?_append_right (h.1 ▸ hl),← h.1] at h2
  exact k.2 _ u v h1 h2
theorem EncL.split {R:Nat→Option Obj}:∀ {vs vs2:List Value} {us:List U},EncL R us (vs++vs2)→∃ a b,us=a++b∧EncL R a vs∧EncL R b vs2
 | [],vs2,us,h=>⟨[],us,rfl,.nil,h⟩
 | v::vs,vs2,[],h=>by have:=h.1; simp at this
 | v::vs,vs2,u::us,h=>by
   obtain ⟨a,b,rfl,h1,h2⟩:=EncL.split (vs:=vs) (vs2:=vs2) (us:=us) ⟨by have:=h.1; simpa using this,fun i x y a1 a2=>h.2 (i+1) x y (by simpa using a1) (by simpa using a2)⟩
   exact ⟨u::a,b,rfl,.cons (h.2 0 u v rfl rfl) h1,h2⟩
theorem EncL.mono {R R':Nat→Option Obj} {us:List U} {vs:List Value} (h:EncL R us vs) (k:Sub R R'):EncL R' us vs:=⟨h.1,fun i u v a b=>(h.2 i u v a b).mono k⟩
theorem valC_enc {R:Nat→Option Obj}:∀ {ts:List Nat} {us r:List U} {vs:List Value},valC ts us=some (vs,r)→∃ a,us=a++r∧EncL R a vs∧a.map tagU=ts
 | [],us,r,vs,h=>by cases h; exact ⟨[],rfl,.nil,rfl⟩
 | t::ts,u::us,r,vs,h=>by
   unfold valC at h
   split at h
   ·rename_i v vs0 r0 h1 h2
    cases h
    obtain ⟨a,rfl,e1,e2⟩:=valC_enc (R:=R) h2
    unfold valS at h1
    split at h1
    ·rename_i ht; exact ⟨u::a,rfl,.cons (.sc h1) e1,by simp [ht,e2]⟩
    ·cases h1
   ·cases h
 | _::_,[],_,_,h=>by cases h
theorem valSh_shR {R:Nat→Option Obj} {s:Sh} {us r:List U} {v:Value} (h:valSh s us=some (v,r)):∃ a,us=a++r∧ShR R s a v:=by
 cases s with
 | s t =>
   cases us with
   | nil=>cases h
   | cons u us =>
     simp only [valSh] at h
     split at h
     ·rename_i v1 hv
      cases h
      unfold valS at hv
      split at hv
      ·rename_i ht; exact ⟨[u],rfl,.s (.sc hv) ht⟩
      ·cases hv
     ·cases h
 | a ts =>
   simp only [valSh] at h
   split at h
   ·rename_i vs r0 hv
    cases h
    obtain ⟨a,e1,e2,e3⟩:=valC_enc (R:=R) hv
    exact ⟨a,e1,.a e2 e3⟩
   ·cases h
theorem shL_of_val {R:Nat→Option Obj}:∀ {ss:List Sh} {us:List U} {vs:List Value},valL ss us=some vs→ShL R ss us vs
 | [],[],vs,h=>by cases h; exact .nil
 | [],_::_,_,h=>by cases h
 | s::ss,us,vs,h=>by
   unfold valL at h
   split at h
   ·rename_i v r hv
    split at h
    ·rename_i vs0 hl
     cases h
     obtain ⟨a,rfl,e1⟩:=valSh_shR (R:=R) hv
     exact .cons e1 (shL_of_val hl)
    ·cases h
   ·cases h
theorem encL_toV {R:Nat→Option Obj} {us:List U} {vs vs2:List Value} (h:EncL R us vs) (hl:vs2.length=us.length) (k:∀ (i:Nat) (u:U) (v:Value),us[i]? = some u→vs2[i]? = some v→toV u=some v):vs=vs2:=by
 refine List.ext_getElem? fun i=>?_
 rcases Nat.lt_or_ge i us.length with hi|hi
 ·have h1:us[i]? = some us[i]:=List.getElem?_eq_getElem hi
  have h2:vs[i]? = some (vs[i]'(h.1 ▸ hi)):=List.getElem?_eq_getElem _
  have h3:vs2[i]? = some (vs2[i]'(hl ▸ hi)):=List.getElem?_eq_getElem _
  rw [h2,h3,enc_toV (h.2 i _ _ h1 h2) (k i _ _ h1 h3)]
 ·rw [List.getElem?_eq_none (by rw [← h.1]; exact hi),List.getElem?_eq_none (by rw [hl]; exact hi)]
theorem valC_toV:∀ {ts:List Nat} {us r:List U} {vs:List Value},valC ts us=some (vs,r)→∃ a,us=a++r∧vs.length=a.length∧a.length=ts.length∧∀ (i:Nat) (u:U) (v:Value),a[i]? = some u→vs[i]? = some v→toV u=some v
 | [],us,r,vs,h=>by cases h; exact ⟨[],rfl,rfl,rfl,fun i u v h=>by simp at h⟩
 | t::ts,u::us,r,vs,h=>by
   unfold valC at h
   split at h
   ·rename_i v vs0 r0 h1 h2
    cases h
    obtain ⟨a,rfl,e1,e2,e3⟩:=valC_toV h2
    unfold valS at h1
    split at h1
    ·refine ⟨u::a,rfl,by simp [e1],by simp [e2],fun i x y a1 a2=>?_⟩
     cases i with
     | zero=>simp at a1 a2; subst a1; subst a2; exact h1
     | succ i=>exact e3 i x y (by simpa using a1) (by simpa using a2)
    ·cases h1
   ·cases h
 | _::_,[],_,_,h=>by cases h
theorem val_of_shL {R:Nat→Option Obj}:∀ {ss:List Sh} {us:List U} {vs vs2:List Value},ShL R ss us vs→valL ss us=some vs2→vs=vs2
 | [],us,vs,vs2,h,k=>by cases h; cases k; rfl
 | s::ss,us,vs,vs2,h,k=>by
   cases h with
   | cons h1 h2 =>
     rename_i us1 us2 v vs
     unfold valL at k
     split at k
     ·rename_i v1 r hv
      split at k
      ·rename_i vs0 hl
       cases k
       have hone:us1++us2=us1++us2:=rfl
       cases h1 with
       | s he ht =>
         rename_i t u
         have hv2:(match valS t u with|some v=>some (v,us2)|none=>none)=some (v1,r):=hv
         cases e:valS t u with
         | none=>rw [e] at hv2; cases hv2
         | some w =>
           rw [e] at hv2
           cases hv2
           unfold valS at e
           rw [if_pos ht] at e
           rw [enc_toV he e,val_of_shL h2 hl]
       | a he ht =>
         rename_i ts cs
         simp only [valSh] at hv
         split at hv
         ·rename_i cs2 r0 hc
          cases hv
          obtain ⟨a,e1,e2,e3,e4⟩:=valC_toV hc
          have hlen:a.length=us1.length:=by rw [e3,← ht]; simp
          obtain ⟨rfl,rfl⟩:=List.append_inj e1 hlen.symm
          rw [encL_toV he e2 e4,val_of_shL h2 hl]
         ·cases hv
      ·cases k
     ·cases k
def ConOk (P:Program) (G:Nat→Option Obj) (f:FuncId) (ps:List Sh) (spec:Spec) (rs:List Sh):Prop :=
 ∀ (us outs:List U) (w:World) (vs:List Value) (R:Nat→Option Obj),ShL R ps us vs→spec us=some (0,outs)→GOk G w→GOk R w →
  (callFunc f ⟨vs⟩).run P w=.ok (.enter f ⟨vs⟩) w∧Calls P f ⟨vs⟩ w (fun e w'=>∃ r R',ShL R' rs outs r∧e=.returned (tup r)∧Grown w w'∧GOk R' w'∧∀ k o,R' k=some o→w.heap.size≤k∨∃ o',R k=some o')
def unA:List Sh→List Value→Option (List Value)
 | [],[]=>some []
 | .s _::ss,v::vs=>match unA ss vs with
   | some r=>some (v::r)
   | none=>none
 | .a ts::ss,.agg cs::vs=>bif Nat.beq cs.toList.length ts.length then match unA ss vs with
   | some r=>some (cs.toList++r)
   | none=>none else none
 | _,_=>none
def takeA (P:Program) (ps:List Sh) (vs:List Value) (m:Mem):Option (List Value × Mem) :=
 match unA ps vs with
 | some cs=>match toDL (tdP P) (tagsL ps) cs m with
   | some (xs,[],m)=>some (xs,m)
   | some (xs,gs,m)=>match joinD gs m with
     | some (_,m)=>some (xs,m)
     | none=>none
   | none=>none
 | none=>none
def holeV (i t b:Nat):Value:=bif Nat.blt t 10 then hole i t else dat b i t
def valsC:List Nat→Nat→Nat→List Value
 | [],_,_=>[]
 | t::ts,i,b=>holeV i t b::valsC ts (i+1) b
def valsSh:Sh→Nat→Nat→Value
 | .s t,i,b=>holeV i t b
 | .a ts,i,b=>.agg ⟨valsC ts i b⟩
def valsL:List Sh→Nat→Nat→List Value
 | [],_,_=>[]
 | h::hs,i,b=>valsSh h i b::valsL hs (i+h.n) b
def retA (rs:List Sh) (nx:Nat) (m:Mem):Res :=
 bif dataB rs then match newFrz m fun b m=>some (tup (valsL rs nx b),b,m) with
  | some (v,_,m)=>some (v,m)
  | none=>none
 else some (tup (valsL rs nx 0),m)
def backA (m:Mem) (hi:Nat) (v:Value) (lg:Lg):Res :=
 match m with
 | ⟨H,n,W,_,_⟩=>some (v,⟨H,n,W,hi,lg⟩)
def conF (P:Program) (ps:List Sh) (spec:Spec) (rs:List Sh):FnC:=⟨fun vs m =>
 match takeA P ps vs m with
 | some (xs,⟨H,n,W,hi,⟨nx,pi,log⟩⟩)=>forceN nx fun nx=>forceL xs fun xs=>forceN (nx+shN rs) fun nx'=>bif dataB rs then retA rs nx ⟨H,n,W,hi,⟨nx',pi,.con spec xs nx 0 (shN rs)::log⟩⟩ else backA m hi (tup (valsL rs nx 0)) ⟨nx',pi,.con spec xs nx 0 (shN rs)::log⟩
 | none=>none⟩
theorem conF_eq {P:Program} {ps:List Sh} {spec:Spec} {rs:List Sh} {vs:List Value} {m m':Mem} {v:Value} (h:(conF P ps spec rs).run vs m=some (v,m')) :
  ∃ xs m1,takeA P ps vs m=some (xs,m1)∧((dataB rs=true∧retA rs m1.lg.nx (m1.wLg ⟨m1.lg.nx+shN rs,m1.lg.pi,.con spec xs m1.lg.nx 0 (shN rs)::m1.lg.log⟩)=some (v,m'))∨(dataB rs=false∧v=tup (valsL rs m1.lg.nx 0)∧m'=⟨m.H,m.n,m.W,m1.hi,⟨m1.lg.nx+shN rs,m1.lg.pi,.con spec xs m1.lg.nx 0 (shN rs)::m1.lg.log⟩⟩)):=by
 unfold conF at h
 simp only at h
 split at h
 ·rename_i xs H n W hi nx pi log hx
  simp only [forceN_eq,forceL_eq] at h
  refine ⟨xs,_,hx,?_⟩
  cases hd:dataB rs with
  | true=>rw [hd] at h; exact .inl ⟨rfl,h⟩
  | false =>
    rw [hd] at h
    obtain ⟨H2,n2,W2,hi2,lg2⟩:=m
    cases h
    exact .inr ⟨rfl,rfl,rfl⟩
 ·cases h
variable [Ora]
theorem unA_LR {ρ:Ren}:∀ {ss:List Sh} {vs vs' cs:List Value},unA ss vs=some cs→LR ρ vs vs'→∃ cs',unA ss vs'=some cs'∧LR ρ cs cs'
 | [],[],vs',cs,h,hl=>by cases h; rw [hl.nil_inv]; exact ⟨[],rfl,.nil⟩
 | [],_::_,_,_,h,_=>by cases h
 | .s t::ss,[],_,_,h,_=>by cases h
 | .a t::ss,[],_,_,h,_=>by cases h
 | .s t::ss,v::vs,vs',cs,h,hl=>by
   obtain ⟨v',r',rfl,h1,h2⟩:=hl.tail
   unfold unA at h
   split at h
   ·rename_i r hr
    cases h
    obtain ⟨cs',e1,e2⟩:=unA_LR hr h2
    exact ⟨v'::cs',by simp [unA,e1],.cons h1 e2⟩
   ·cases h
 | .a ts::ss,v::vs,vs',cs,h,hl=>by
   obtain ⟨v',r',rfl,h1,h2⟩:=hl.tail
   cases v with
   | agg c =>
     unfold unA at h
     obtain ⟨hlen,h⟩:=cond_some h
     split at h
     ·rename_i r hr
      cases h
      obtain ⟨cs',e1,e2⟩:=unA_LR hr h2
      obtain ⟨c',rfl,hc⟩:=inv_agg h1
      refine ⟨c'++cs',?_,hc.append e2⟩
      have hl2:Nat.beq c'.length ts.length=true:=by rw [← hc.1]; exact hlen
      simp [unA,e1,hl2]
     ·cases h
   | _=>cases h
theorem shL_of_cells {R:Nat→Option Obj}:∀ {ss:List Sh} {vs cs:List Value} {us:List U},unA ss vs=some cs→EncL R us cs→us.map tagU=tagsL ss→ShL R ss us vs
 | [],[],cs,us,h,he,ht=>by
   cases h
   have:us=[]:=List.length_eq_zero_iff.1 he.1
   subst this; exact .nil
 | [],_::_,_,_,h,_,_=>by cases h
 | .s t::ss,[],_,_,h,_,_=>by cases h
 | .a t::ss,[],_,_,h,_,_=>by cases h
 | .s t::ss,v::vs,cs,us,h,he,ht=>by
   unfold unA at h
   split at h
   ·rename_i r hr
    cases h
    obtain ⟨a,b,rfl,e1,e2⟩:=EncL.split (vs:=[v]) (vs2:=r) he
    match a,e1 with
    | [u],e1 =>
      simp only [List.singleton_append,List.map_cons,tagsL,Sh.tags,List.cons_append,List.nil_append,List.cons.injEq] at ht
      exact .cons (.s (e1.2 0 u v rfl rfl) ht.1) (shL_of_cells hr e2 ht.2)
    | [],e1=>have:=e1.1; simp at this
    | _::_::_,e1=>have:=e1.1; simp at this
   ·cases h
 | .a ts::ss,v::vs,cs,us,h,he,ht=>by
   cases v with
   | agg c =>
     unfold unA at h
     obtain ⟨hlen,h⟩:=cond_some h
     have hlen:=Nat.eq_of_beq_eq_true hlen
     split at h
     ·rename_i r hr
      cases h
      obtain ⟨a,b,rfl,e1,e2⟩:=EncL.split he
      simp only [List.map_append,tagsL,Sh.tags] at ht
      obtain ⟨t1,t2⟩:=List.append_inj ht (by simp [e1.1,hlen])
      obtain ⟨l⟩:=c
      exact .cons (.a e1 t1) (shL_of_cells hr e2 t2)
     ·cases h
   | _=>cases h
section
variable {P:Program} {base gl:Nat}
def RegAt (ρ:Ren) (m:Mem) (R:Nat→Option Obj):Prop:=∀ k o,R k=some o→∃ id ab l,id≤most∧Hp.get m.H id=some ab∧ρ id=some l∧Tf ab l k∧ab.rw=false
theorem takeA_ok {ρ:Ren} {m m':Mem} {w:World} {ps:List Sh} {vs vs' xs:List Value} (h:HR P base ρ m.H w) (ho:takeA P ps vs m=some (xs,m')) (hf:Free ρ m.n m'.hi) (hv:LR ρ vs vs') (hS:Sat m'.lg) :
  ∃ ρ' R,St P base ρ ρ' m m' w w∧m.lg.le m'.lg∧ShL R ps (xs.map (argU Ora.env)) vs'∧GOk R w∧RegAt ρ' m' R:=by
 unfold takeA at ho
 split at ho
 ·rename_i cs hcs
  obtain ⟨cs',e1,e2⟩:=unA_LR hcs hv
  split at ho
  ·rename_i xs0 m1 hd
   cases ho
   obtain ⟨ρ',a1,a2,a3,a4,a5,a6⟩:=toDL_ok tdP_ok h hd hf e2 hS
   exact ⟨ρ',fun _=>none,a1,a2,shL_of_cells e1 (a6 _ fun b hb=>by cases hb) a5,(fun k o hk=>by cases hk),(fun k o hk=>by cases hk)⟩
  ·rename_i xs0 gs m1 hd
   split at ho
   ·rename_i g m2 hj
    cases ho
    have mj:=joinD_mono hj
    obtain ⟨ρ1,a1,a2,a3,a4,a5,a6⟩:=toDL_ok tdP_ok h hd (hf.less mj.1) e2 (by rw [← mj.2.1]; exact hS)
    obtain ⟨ρ2,lg,b1,b2,b3,b4,b5,b6⟩:=joinD_ok a1.hr hj (hf.step a1)
    have hreg:=(b1.hr.atl b4 b5).1.2
    exact ⟨ρ2,lg.G,St.trans hf a1 b1,by rw [mj.2.1]; exact a2,shL_of_cells e1 (a6 _ fun b hb l hl=>b6 b hb l hl) a5,hreg,fun k o hk=>⟨g,_,lg,b1.hr.dom _ _ b4,b5,b4,⟨rfl,.inr ⟨rfl,o,hk⟩⟩,rfl⟩⟩
   ·cases ho
  ·cases ho
 ·cases ho
theorem holeV_VR {ρ:Ren} {R:Nat→Option Obj} {i t b:Nat} {u:U} {v:Value} (h:Enc R u v) (ht:tagU u=t) (he:Ora.env i=u) (hb:10≤t→ρ b=some (regL R)):VR ρ (holeV i t b) v:=by
 unfold holeV
 cases hq:Nat.blt t 10 with
 | true =>
   have h10:t < 10:=Nat.le_of_ble_eq_true hq
   obtain ⟨v1,e1,_,_⟩:=tag_toV (u:=u) (by omega)
   have:=enc_toV h e1
   subst this
   exact .hole (by rw [he]; exact e1) (by rw [he]; exact ht)
 | false =>
   have h10:10≤t:=by
    rcases Nat.lt_or_ge t 10 with hlt|hge
    ·rw [show Nat.blt t 10=true from Nat.ble_eq_true_of_le hlt] at hq; cases hq
    ·exact hge
   exact .dat (hb h10) (by rw [he]; exact h) (by rw [he]; exact ht) h10 (enc_flat h)
theorem valsC_VR {ρ:Ren} {R:Nat→Option Obj} {b:Nat}:∀ {ts:List Nat} {us:List U} {cs:List Value} {i:Nat},EncL R us cs→us.map tagU=ts→(∀ j u,us[j]? = some u→Ora.env (i+j)=u)→(∀ t ∈ ts,10≤t→ρ b=some (regL R))→LR ρ (valsC ts i b) cs
 | [],us,cs,i,h,ht,he,hb=>by
   have:us=[]:=by cases us with|nil=>rfl|cons _ _=>simp at ht
   subst this
   have:cs=[]:=List.length_eq_zero_iff.1 h.1.symm
   subst this; exact .nil
 | t::ts,[],cs,i,h,ht,he,hb=>by simp at ht
 | t::ts,u::us,[],i,h,ht,he,hb=>by have:=h.1; simp at this
 | t::ts,u::us,c::cs,i,h,ht,he,hb=>by
   simp only [List.map_cons,List.cons.injEq] at ht
   refine .cons (holeV_VR (h.2 0 u c rfl rfl) ht.1 (he 0 u rfl) (hb t (.head _))) (valsC_VR ⟨by have:=h.1; simpa using this,fun j x y a1 a2=>h.2 (j+1) x y (by simpa using a1) (by simpa using a2)⟩ ht.2 (fun j x hj=>?_) fun t' ht'=>hb t' (.tail _ ht'))
   have:=he (j+1) x (by simpa using hj)
   rw [show i+1+j=i+(j+1) by omega]; exact this
theorem valsL_VR {ρ:Ren} {R:Nat→Option Obj} {b:Nat}:∀ {ss:List Sh} {us:List U} {vs:List Value} {i:Nat},ShL R ss us vs→(∀ j u,us[j]? = some u→Ora.env (i+j)=u)→(dataB ss=true→ρ b=some (regL R))→LR ρ (valsL ss i b) vs∧us.length=shN ss
 | [],us,vs,i,h,he,hb=>by cases h; exact ⟨.nil,rfl⟩
 | s::ss,us,vs,i,h,he,hb=>by
   cases h with
   | cons h1 h2 =>
     rename_i us1 us2 v vs
     have hd:∀ t ∈ s.tags,10≤t→ρ b=some (regL R):=fun t ht h10=>hb (List.any_eq_true.2 ⟨t,List.mem_append.2 (.inl ht),Nat.ble_eq_true_of_le h10⟩)
     have hd2:dataB ss=true→ρ b=some (regL R):=fun hq=>by
      obtain ⟨t,ht,h10⟩:=List.any_eq_true.1 hq
      exact hb (List.any_eq_true.2 ⟨t,List.mem_append.2 (.inr ht),h10⟩)
     have hn:us1.length=s.n:=by
      cases h1 with
      | s _ _=>rfl
      | a _ ht=>show _=List.length _; rw [← ht]; simp [Sh.tags]
     obtain ⟨g1,g2⟩:=valsL_VR (i:=i+s.n) h2 (fun j u hj=>by
      have:=he (us1.length+j) u (by rw [List.getElem?_append_right (by omega),Nat.add_sub_cancel_left]; exact hj)
      rw [← hn,Nat.add_assoc]; exact this) hd2
     refine ⟨.cons ?_ g1,by simp [shN,hn,g2]⟩
     have he1:∀ j u,us1[j]? = some u→Ora.env (i+j)=u:=fun j u hj=>he j u (by rw [List.getElem?_append_left (List.getElem?_eq_some_iff.1 hj).1]; exact hj)
     cases h1 with
     | s h ht=>exact holeV_VR h ht (by have:=he1 0 _ rfl; simpa using this) (hd _ (.head _))
     | a h ht =>
       have:=valsC_VR (b:=b) h ht he1 hd
       exact .agg this.1 this.2
theorem tup_VR {ρ:Ren} {vs vs':List Value} (h:LR ρ vs vs'):VR ρ (tup vs) (tup vs'):=by
 match vs,vs',h with
 | [],vs',h=>rw [h.nil_inv]; exact .tuple (a:=[]) (a':=[]) rfl (fun i v v' h1 _=>by simp at h1)
 | [v],vs',h =>
   obtain ⟨v',r',rfl,h1,h2⟩:=h.tail
   cases h2.nil_inv
   exact h1
 | v::u::r,vs',h =>
   obtain ⟨v',r',rfl,h1,h2⟩:=h.tail
   obtain ⟨u',r2,rfl,h3,h4⟩:=h2.tail
   exact .tuple h.1 h.2
theorem St.grown {ρ:Ren} {m:Mem} {w w':World} (h:HR P base ρ m.H w) (g:Grown w w'):St P base ρ ρ m m w w' :=
 ⟨fun _ _ h=>h,fun b l h1 h2=>(by rw [h1] at h2; cases h2),Nat.le_refl _,Nat.le_refl _,fun h=>h,
  ⟨h.dom,fun id hid ab hab=>by
    obtain ⟨l,h1,h2,h3⟩:=h.at_ id hid ab hab
    exact ⟨l,h1,h2.mono (fun _ _ h=>h) (fun k hk=>g.keep k (h2.tc hk)),h3⟩⟩,
  fun _ h=>h,fun b h1 h2=>absurd h1 h2,fun k hk _=>g.keep k hk,g.size,g.os,fun b l h1 h2=>(by rw [h1] at h2; cases h2),fun _ _ _ _=>rfl,fun _ h=>.inr h⟩
theorem St.grownLg {ρ:Ren} {m:Mem} {w w':World} (h:HR P base ρ m.H w) (g:Grown w w') (lg:Lg):St P base ρ ρ m (m.wLg lg) w w':=by
 obtain ⟨H,n,W,hi,l⟩:=m
 have r:=St.grown (m:=⟨H,n,W,hi,l⟩) h g
 exact ⟨r.ext,r.new,r.nle,r.hle,r.nhi,r.hr,r.wsub,r.wrw,r.keep,r.size,r.os,r.blk,r.same,r.tch⟩
theorem St.ret {ρ:Ren} {m m1:Mem} {w w':World} {G:Nat→Option Obj} (h:HR P base ρ m.H w) (g:Grown w w') (hn:newM m .frz (fun _=>undef)=some (undef,m1)) (hf:Free ρ m.n m1.hi) (hG:GOk G w')
  (hT:∀ k o,G k=some o→w.heap.size≤k∨∃ id ab l,id≤most∧Hp.get m.H id=some ab∧ρ id=some l∧Tf ab l k∧ab.rw=false):upd ρ m.n (regL G) m.n=some (regL G)∧St P base ρ (upd ρ m.n (regL G)) m m1 w w':=by
 obtain ⟨hle,_,rfl⟩:=newM_eq hn
 have hfree:ρ m.n=none:=hf m.n (Nat.le_refl _) (upN_le _ _).2
 have hext:=upd_ext (l:=regL G) hfree
 refine ⟨upd_self _ _ _,hext,fun b q h1 h2=>?_,by simp,(upN_le _ _).1,fun _=>Nat.succ_le_of_lt (upN_le _ _).2,⟨fun b q hq=>?_,fun id hid a ha=>?_⟩,fun b hb=>hb,fun b h1 h2=>absurd h1 h2,fun q hq _=>g.keep q hq,g.size,g.os,fun b q h1 h2 ho=>?_,fun id hid h1 h2=>?_,fun q ⟨id,a,l,hid,ha,hl,ht⟩=>?_⟩
 ·obtain ⟨rfl,rfl⟩:=upd_inv h1 h2; exact ⟨Nat.le_refl _,Nat.lt_succ_self _⟩
 ·cases h0:ρ b with
  | some k0=>exact h.dom b k0 h0
  | none=>obtain ⟨rfl,rfl⟩:=upd_inv hq h0; exact hle
 ·rw [hp_get_set _ _ _ _ hle hid] at ha
  by_cases e:id=m.n
  ·rw [if_pos e] at ha
   have ha:=Option.some.inj ha; subst ha; subst e
   exact ⟨regL G,upd_self _ _ _,⟨rfl,hG⟩,fun _ ho=>(by cases ho)⟩
  ·rw [if_neg e] at ha
   obtain ⟨l0,h1,h2,h3⟩:=h.at_ id hid a ha
   refine ⟨l0,hext _ _ h1,h2.mono hext (fun k hk=>g.keep k (h2.tc hk)),fun hr ho=>⟨(h3 hr ho).1,fun id2 hid2 ab2 l2 g1 g2 g3=>?_⟩⟩
   rw [hp_get_set _ _ _ _ hle hid2] at g1
   by_cases e2:id2=m.n
   ·subst e2
    rw [upd_self] at g2
    have:=Option.some.inj g2; subst this
    rcases g3 with ⟨_,g3,_⟩|⟨_,o,g3⟩
    ·cases g3
    ·rcases hT _ o g3 with hge|⟨id3,a3,l3,q1,q2,q3,q4,q5⟩
     ·have:=h2.tc (.inl ⟨AB.rw_on hr,ho,rfl⟩); omega
     ·have:=(h3 hr ho).2 id3 q1 a3 l3 q2 q3 q4.2
      subst this
      rw [ha] at q2
      have q2:=Option.some.inj q2; subst q2
      rw [hr] at q5; cases q5
   ·rw [if_neg e2] at g1
    unfold upd at g2
    rw [if_neg e2] at g2
    exact (h3 hr ho).2 id2 hid2 ab2 l2 g1 g2 g3
 ·obtain ⟨rfl,rfl⟩:=upd_inv h1 h2
  cases ho
 ·rw [hp_get_set _ _ _ _ hle hid,if_neg]
  intro e; subst e
  rcases h2 with h2|h2
  ·omega
  ·have h2:upN m.hi m.n≤m.n:=h2
   have:=(upN_le m.hi m.n).2; omega
 ·have ha:Hp.get (m.H.set m.n (some .frz)) id=some a:=ha
  rw [hp_get_set _ _ _ _ hle hid] at ha
  by_cases e:id=m.n
  ·subst e
   rw [if_pos rfl] at ha
   have ha:=Option.some.inj ha; subst ha
   rw [upd_self] at hl
   have hl:=Option.some.inj hl; subst hl
   rcases ht.2 with ⟨_,h3,_⟩|⟨_,o,h3⟩
   ·cases h3
   ·rcases hT _ o h3 with hge|⟨id3,a3,l3,q1,q2,q3,q4,q5⟩
    ·exact .inl hge
    ·exact .inr ⟨id3,a3,l3,q1,q2,q3,q4⟩
  ·rw [if_neg e] at ha
   unfold upd at hl
   rw [if_neg e] at hl
   exact .inr ⟨id,a,l,hid,ha,hl,ht⟩
theorem St.back {ρ:Ren} {m:Mem} {w w':World} {hi:Nat} {lg:Lg} (h:HR P base ρ m.H w) (g:Grown w w') (hh:m.hi≤hi):St P base ρ ρ m ⟨m.H,m.n,m.W,hi,lg⟩ w w':=by
 have r:=St.grownLg (m:=m) h g lg
 refine ⟨r.ext,fun b l h1 h2=>(by rw [h1] at h2; cases h2),Nat.le_refl _,hh,fun h=>Nat.le_trans h hh,?_,fun _ h=>h,fun b h1 h2=>absurd h1 h2,fun k hk _=>g.keep k hk,g.size,g.os,fun b l h1 h2=>(by rw [h1] at h2; cases h2),fun _ _ _ _=>rfl,fun _ h=>.inr h⟩
 have:=r.hr
 rw [wLg_H] at this
 exact this
theorem conF_ok {f:FuncId} {ps:List Sh} {spec:Spec} {rs:List Sh} (h:ConOk P Ora.G f ps spec rs):FnOk P base gl f (conF P ps spec rs):=by
 have hret:∀ {nx:Nat} {m m':Mem} {v:Value},dataB rs=true→retA rs nx m=some (v,m')→m'.lg=m.lg∧m.hi≤m'.hi∧m.n≤m'.n:=fun {nx m m' v} hd hr=>by
  unfold retA at hr
  rw [hd] at hr
  simp only [cond_true] at hr
  split at hr
  ·rename_i hn
   cases hr
   obtain ⟨m2,q1,q2,_⟩:=newFrz_eq hn
   cases q2
   obtain ⟨_,_,rfl⟩:=newM_eq q1
   exact ⟨rfl,(upN_le _ _).1,Nat.le_succ _⟩
  ·cases hr
 have hmono:∀ {vs xs:List Value} {m m1:Mem},takeA P ps vs m=some (xs,m1)→m.lg.le m1.lg∧m.hi≤m1.hi:=fun {vs xs m m1} h1=>by
  unfold takeA at h1
  split at h1
  ·split at h1
   ·rename_i hd; cases h1; exact ⟨(toDL_mono tdP_ok hd).2.1,(toDL_mono tdP_ok hd).1⟩
   ·rename_i hd
    split at h1
    ·rename_i hj; cases h1; exact ⟨by rw [(joinD_mono hj).2.1]; exact (toDL_mono tdP_ok hd).2.1,Nat.le_trans (toDL_mono tdP_ok hd).1 (joinD_mono hj).1⟩
    ·cases h1
   ·cases h1
  ·cases h1
 refine ⟨fun vs m m' v hr=>?_,fun ρ m m' w vs vs' v hr hS hat hl=>.inl ?_⟩
 ·obtain ⟨xs,m1,h1,⟨hd,h2⟩|⟨hd,_,rfl⟩⟩:=conF_eq hr
  ·rw [(hret hd h2).1,wLg_lg]
   exact (hmono h1).1.trans ⟨[_],rfl⟩
  ·exact (hmono h1).1.trans ⟨[_],rfl⟩
 ·obtain ⟨xs,m1,h1,h2⟩:=conF_eq hr
  have hlg:m'.lg=⟨m1.lg.nx+shN rs,m1.lg.pi,.con spec xs m1.lg.nx 0 (shN rs)::m1.lg.log⟩∧m1.hi≤m'.hi:=by
   rcases h2 with ⟨hd,h2⟩|⟨hd,_,rfl⟩
   ·obtain ⟨r1,r2,_⟩:=hret hd h2
    simp only [wLg_lg,wLg_hi] at r1 r2
    exact ⟨r1,r2⟩
   ·exact ⟨rfl,Nat.le_refl _⟩
  obtain ⟨r1,r2⟩:=hlg
  have hlast:LogE.con spec xs m1.lg.nx 0 (shN rs) ∈ m'.lg.log:=by rw [r1]; exact List.mem_cons_self
  have hS1:Sat m1.lg:=SatL.le hS (by rw [r1]; exact ⟨[_],rfl⟩)
  obtain ⟨ρ1,R,a1,a2,a3,a4,a5⟩:=takeA_ok hat.hr h1 (hat.fr.less r2) hl hS1
  obtain ⟨outs,h3,h4,h5⟩:=hS _ hlast
  obtain ⟨h6,h7⟩:=h _ outs w vs' R a3 h3 (fun k o hk=>(hat.gf k o hk).2) a4
  refine ⟨h6,h7.mono fun e w' ⟨r,R',g1,g2,g3,g4,g5⟩=>?_⟩
  rcases h2 with ⟨hd,h2⟩|⟨hd,rfl,rfl⟩
  ·let lg2:Lg:=⟨m1.lg.nx+shN rs,m1.lg.pi,.con spec xs m1.lg.nx 0 (shN rs)::m1.lg.log⟩
   have h2:retA rs m1.lg.nx (m1.wLg lg2)=some (v,m'):=h2
   have hst1:St P base ρ ρ1 m (m1.wLg lg2) w w:=St.trans (hat.fr.less (by simpa using r2)) a1 (St.wLg a1.hr lg2)
   have hf1:Free ρ1 (m1.wLg lg2).n m'.hi:=by simpa using hat.fr.step a1
   unfold retA at h2
   rw [hd] at h2
   simp only [cond_true] at h2
   split at h2
   ·rename_i v0 b m2 hn
    cases h2
    obtain ⟨m3,q1,q2,_⟩:=newFrz_eq hn
    cases q2
    obtain ⟨e1,e2⟩:=St.ret (G:=R') hst1.hr g3 q1 hf1 g4 fun k o hk=>by
     rcases g5 k o hk with hge|⟨o',ho'⟩
     ·exact .inl hge
     ·obtain ⟨id,ab,l,p1,p2,p3,p4,p5⟩:=a5 k o' ho'
      exact .inr ⟨id,ab,l,p1,by rw [wLg_H]; exact p2,p3,p4,p5⟩
    exact ⟨_,_,g2,tup_VR (valsL_VR g1 h5 fun _=>e1).1,St.trans hat.fr hst1 e2⟩
   ·cases h2
  ·exact ⟨_,ρ,g2,tup_VR (valsL_VR g1 h5 fun hq=>by rw [hd] at hq; cases hq).1,St.back hat.hr g3 (hmono h1).2⟩
end
end Go.Sx

namespace Go.Sx
set_option linter.all false
open Go
set_option linter.unusedVariables false
set_option linter.unusedSimpArgs false
inductive Tr where
 | ret (xs:List Value)
 | lt (t:Nat) (op:LOp) (xs:List Value) (k:Tr)
 | dt (t:Nat) (op:LOp) (xs:List Value) (k:Tr)
 | br (i:Nat) (a b:Tr)
 | fn (spec:Spec) (xs:List Value) (n:Nat) (k:Tr)
 | lp (spec:Spec) (xs:List Value) (d n:Nat) (k r:Tr)
 | no
theorem band {a b:Bool} (h:(a && b)=true):a=true∧b=true:=by simpa using h
def gE (E:List U) (i:Nat):U:=E.getD i .none
def Tr.sat (L:List U→Prop):Tr→List U→Prop
 | .ret xs,E=>L (xs.map (argU (gE E)))
 | .lt t op xs k,E=>(t < 10∧tagU (evU op (xs.map (argU (gE E))))=t)∧k.sat L (E++[evU op (xs.map (argU (gE E)))])
 | .dt t op xs k,E=>(tagU (evU op (xs.map (argU (gE E))))=t∧∃ nul w rows,evU op (xs.map (argU (gE E)))=.seq nul w rows)∧k.sat L (E++[evU op (xs.map (argU (gE E)))])
 | .br i a b,E=>∃ c,gE E i=.bool c∧(c=true→a.sat L E)∧(c=false→b.sat L E)
 | .fn spec xs n k,E=>∃ outs,spec (xs.map (argU (gE E)))=some (0,outs)∧outs.length=n∧k.sat L (E++outs)
 | .lp spec xs d n k r,E=>∃ d' outs,spec (xs.map (argU (gE E)))=some (d',outs)∧(d'=d→outs.length=n∧k.sat L (E++outs))∧(d'≠d→r.sat L E)
 | .no,_=>False
abbrev Path:=List Nat × (List Value × List LogE)
def Tr.paths:Tr→List Nat→List LogE→Nat→List Path
 | .ret xs,π,l,_=>[(π.reverse,(xs,l))]
 | .lt t op xs k,π,l,nx=>k.paths π (.lt nx t op xs::l) (nx+1)
 | .dt t op xs k,π,l,nx=>k.paths π (.dt nx t op xs::l) (nx+1)
 | .br i a b,π,l,nx=>a.paths (1::π) (.br i true::l) nx++b.paths (0::π) (.br i false::l) nx
 | .fn spec xs n k,π,l,nx=>k.paths π (.con spec xs nx 0 n::l) (nx+n)
 | .lp spec xs d n k r,π,l,nx=>k.paths (d::π) (.con spec xs nx d n::l) (nx+n)++r.paths π l nx
 | .no,_,_,_=>[]
def wfV (n:Nat):Value→Bool
 | .complex .f64 i _=>Nat.blt i n
 | _=>true
def Tr.wf:Tr→Nat→Bool
 | .ret xs,n=>xs.all (wfV n)
 | .lt _ _ xs k,n=>xs.all (wfV n) && k.wf (n+1)
 | .dt _ _ xs k,n=>xs.all (wfV n) && k.wf (n+1)
 | .br i a b,n=>Nat.blt i n && (a.wf n && b.wf n)
 | .fn _ xs m k,n=>xs.all (wfV n) && k.wf (n+m)
 | .lp _ xs _ m k r,n=>xs.all (wfV n) && (k.wf (n+m) && r.wf n)
 | .no,_=>true
def Agree (E:List U) (F:Nat→U):Prop:=∀ (j:Nat) (u:U),E[j]? = some u→F j=u
theorem Agree.get {E:List U} {F:Nat→U} (h:Agree E F) {i:Nat} (hi:i < E.length):F i=gE E i:=by
 rw [h i _ (List.getElem?_eq_getElem hi)]
 simp [gE,hi]
theorem Agree.front {E E2:List U} {F:Nat→U} (h:Agree (E++E2) F):Agree E F:=fun j u hj=>h j u (by
 rw [List.getElem?_append_left (List.getElem?_eq_some_iff.1 hj).1]; exact hj)
theorem Agree.back {E E2:List U} {F:Nat→U} (h:Agree (E++E2) F):∀ j u,E2[j]? = some u→F (E.length+j)=u:=fun j u hj=>h _ u (by
 rw [List.getElem?_append_right (by omega),Nat.add_sub_cancel_left]; exact hj)
theorem wf_arg {E:List U} {F:Nat→U} (h:Agree E F) {v:Value} (hw:wfV E.length v=true):argU F v=argU (gE E) v:=by
 unfold wfV at hw
 split at hw
 ·have hw:_ < E.length:=Nat.le_of_ble_eq_true hw
  exact h.get hw
 ·rename_i hne
  unfold argU
  split
  ·exact absurd rfl (hne _ _)
  all_goals rfl
theorem wf_args {E:List U} {F:Nat→U} (h:Agree E F) {xs:List Value} (hw:xs.all (wfV E.length)=true):xs.map (argU F)=xs.map (argU (gE E)) :=
 List.map_congr_left fun x hx=>wf_arg h (List.all_eq_true.1 hw x hx)
theorem SatL.cons {F:Nat→U} {e:LogE} {l:List LogE} (h:e.ok F) (k:SatL F l):SatL F (e::l):=fun x hx=>by
 rcases List.mem_cons.1 hx with rfl|hx
 ·exact h
 ·exact k x hx
theorem sat_path {L:List U→Prop}:∀ (t:Tr) (E:List U) (π:List Nat) (l:List LogE),t.wf E.length=true→t.sat L E→(∀ F,Agree E F→SatL F l) →
  ∃ p ∈ t.paths π l E.length,∃ F,Agree E F∧SatL F p.2.2∧L (p.2.1.map (argU F))
 | .ret xs,E,π,l,hw,h,hl=>by
   have ha:Agree E (gE E):=fun j u hj=>by simp [gE,List.getD_eq_getElem?_getD,hj]
   exact ⟨_,List.mem_cons_self,gE E,ha,hl _ ha,h⟩
 | .lt t op xs k,E,π,l,hw,⟨⟨h1,h2⟩,h3⟩,hl=>by
   obtain ⟨w1,w2⟩:=band (show (xs.all (wfV E.length) && k.wf (E.length+1))=true from hw)
   have hw':k.wf (E++[evU op (xs.map (argU (gE E)))]).length=true:=by simpa using w2
   obtain ⟨p,hp,F,f1,f2,f3⟩:=sat_path k (E++[evU op (xs.map (argU (gE E)))]) π (.lt E.length t op xs::l) hw' h3 fun F hF=>by
    have hF1:=hF.front
    have e:=hF.back 0 _ rfl
    refine SatL.cons ?_ (hl F hF1)
    have e:F E.length=evU op (xs.map (argU F)):=by rw [wf_args hF1 w1]; exact e
    refine ⟨e,?_,h1⟩
    rw [e,wf_args hF1 w1]; exact h2
   exact ⟨p,by simpa [Tr.paths] using hp,F,f1.front,f2,f3⟩
 | .dt t op xs k,E,π,l,hw,⟨⟨h2,hq⟩,h3⟩,hl=>by
   obtain ⟨w1,w2⟩:=band (show (xs.all (wfV E.length) && k.wf (E.length+1))=true from hw)
   have hlen:(E++[evU op (xs.map (argU (gE E)))]).length=E.length+1:=by simp
   obtain ⟨p,hp,F,f1,f2,f3⟩:=sat_path k (E++[evU op (xs.map (argU (gE E)))]) π (.dt E.length t op xs::l) (by rw [hlen]; exact w2) h3 fun F hF=>by
    have hF1:=hF.front
    have e:=hF.back 0 _ rfl
    refine SatL.cons ?_ (hl F hF1)
    have e:F E.length=evU op (xs.map (argU F)):=by rw [wf_args hF1 w1]; exact e
    refine ⟨e,?_,?_⟩
    ·rw [e,wf_args hF1 w1]; exact h2
    ·rw [e,wf_args hF1 w1]; exact hq
   exact ⟨p,by simpa [Tr.paths] using hp,F,f1.front,f2,f3⟩
 | .br i a b,E,π,l,hw,⟨c,h1,h2,h3⟩,hl=>by
   obtain ⟨w1,w2⟩:=band (show (Nat.blt i E.length && (a.wf E.length && b.wf E.length))=true from hw)
   obtain ⟨w2,w3⟩:=band w2
   have w1:i < E.length:=Nat.le_of_ble_eq_true w1
   cases c with
   | true =>
     obtain ⟨p,hp,F,f1,f2,f3⟩:=sat_path a E (1::π) (.br i true::l) w2 (h2 rfl) fun F hF=>SatL.cons (by show F i=_; rw [hF.get w1,h1]) (hl F hF)
     exact ⟨p,List.mem_append.2 (.inl hp),F,f1,f2,f3⟩
   | false =>
     obtain ⟨p,hp,F,f1,f2,f3⟩:=sat_path b E (0::π) (.br i false::l) w3 (h3 rfl) fun F hF=>SatL.cons (by show F i=_; rw [hF.get w1,h1]) (hl F hF)
     exact ⟨p,List.mem_append.2 (.inr hp),F,f1,f2,f3⟩
 | .fn spec xs n k,E,π,l,hw,⟨outs,h1,h2,h3⟩,hl=>by
   obtain ⟨w1,w2⟩:=band (show (xs.all (wfV E.length) && k.wf (E.length+n))=true from hw)
   have hlen:(E++outs).length=E.length+n:=by simp [h2]
   obtain ⟨p,hp,F,f1,f2,f3⟩:=sat_path k (E++outs) π (.con spec xs E.length 0 n::l) (by rw [hlen]; exact w2) h3 fun F hF=>by
    refine SatL.cons ⟨outs,?_,h2,hF.back⟩ (hl F hF.front)
    rw [wf_args hF.front w1]; exact h1
   exact ⟨p,by rw [hlen] at hp; exact hp,F,f1.front,f2,f3⟩
 | .lp spec xs d n k r,E,π,l,hw,⟨d',outs,h1,h2,h3⟩,hl=>by
   obtain ⟨w1,w2⟩:=band (show (xs.all (wfV E.length) && (k.wf (E.length+n) && r.wf E.length))=true from hw)
   obtain ⟨w2,w3⟩:=band w2
   by_cases e:d'=d
   ·subst e
    obtain ⟨h2,h4⟩:=h2 rfl
    have hlen:(E++outs).length=E.length+n:=by simp [h2]
    obtain ⟨p,hp,F,f1,f2,f3⟩:=sat_path k (E++outs) (d'::π) (.con spec xs E.length d' n::l) (by rw [hlen]; exact w2) h4 fun F hF=>by
     refine SatL.cons ⟨outs,?_,h2,hF.back⟩ (hl F hF.front)
     rw [wf_args hF.front w1]; exact h1
    exact ⟨p,List.mem_append.2 (.inl (by rw [hlen] at hp; exact hp)),F,f1.front,f2,f3⟩
   ·obtain ⟨p,hp,F,f1,f2,f3⟩:=sat_path r E π l w3 (h3 e) hl
    exact ⟨p,List.mem_append.2 (.inr hp),F,f1,f2,f3⟩
 | .no,E,π,l,hw,h,hl=>h.elim
def mem0 (H0:Hp AB) (n0 k:Nat) (pi:List Nat):Mem:=⟨H0,n0,[],n0,⟨k,pi,[]⟩⟩
def memP (ps:List Sh) (H0:Hp AB) (n0:Nat) (pi:List Nat):Mem:=bif dataB ps then ⟨H0.set n0 (some .frz),n0+1,[],n0+1,⟨shN ps,pi,[]⟩⟩ else mem0 H0 n0 (shN ps) pi
def untup (rs:List Sh) (v:Value):Option (List Value) :=
 match rs with
 | [_]=>some [v]
 | _=>match v with
   | .tuple vs=>some vs.toList
   | _=>none
def endF (P:Program) (rs:List Sh) (r:Res):Option (List Value × List LogE) :=
 match r with
 | some (v,⟨H,n,[],hi,⟨nx,[],log⟩⟩)=>match untup rs v with
   | some vs=>match takeA P rs vs ⟨H,n,[],hi,⟨nx,[],log⟩⟩ with
     | some (xs,⟨_,_,_,_,⟨_,_,log⟩⟩)=>some (xs,log)
     | none=>none
   | none=>none
 | _=>none
def callTop (C:Cx):Nat→FuncId→FnC
 | 0,_=>⟨fun _ _=>none⟩
 | d+1,f=>callF ⟨C.P,C.ext,C.gl,fun _=>none,C.lp⟩ (callY C d) f
theorem callTop_ok [Ora] {C:Cx} {base:Nat} (h:CxOk C base):∀ (d:Nat) (f:FuncId),FnOk C.P base C.gl f (callTop C d f)
 | 0,f=>noFn_ok f
 | d+1,f=>by
   have hc:=callY_ok h d
   show FnOk C.P base C.gl f (callF ⟨C.P,C.ext,C.gl,fun _=>none,C.lp⟩ (callY C d) f)
   unfold callF
   split
   ·exact noFn_ok f
   ·rename_i fn hf
    have hf:C.P.funcs[f]? = some fn:=by simpa using hf
    split
    ·rename_i c hcon; cases hcon
    ·split
     ·rename_i hb
      split
      ·rename_i k hk; exact h.ext f k fn hf hb hk
      ·exact noFn_ok f
     ·rename_i c hb
      exact body_ok (gl:=C.gl) hf hb (h.names f fn hf) hc (h.draws _ hc) (h.lp f fn c hf hb)
def runF (C:Cx) (d:Nat) (f:FuncId) (ps rs:List Sh) (H0:Hp AB) (n0:Nat) (pi:List Nat):Option (List Value × List LogE) :=
 endF C.P rs ((callTop C d f).run (valsL ps 0 n0) (memP ps H0 n0 pi))
theorem endF_eq {P:Program} {rs:List Sh} {r:Res} {xs:List Value} {log:List LogE} (h:endF P rs r=some (xs,log)):∃ v m' vs m2,r=some (v,m')∧m'.W=[]∧untup rs v=some vs∧takeA P rs vs m'=some (xs,m2)∧m2.lg.log=log:=by
 unfold endF at h
 split at h
 ·split at h
  ·rename_i hu
   split at h
   ·rename_i ht
    cases h
    exact ⟨_,_,_,_,rfl,rfl,hu,ht,rfl⟩
   ·cases h
  ·cases h
 ·cases h
theorem untup_VR [Ora] {ρ:Ren} {rs:List Sh} {v v':Value} {vs:List Value} (h:untup rs v=some vs) (hv:VR ρ v v'):∃ vs',LR ρ vs vs'∧untup rs v'=some vs':=by
 unfold untup at h
 split at h
 ·cases h; exact ⟨[v'],.cons hv .nil,rfl⟩
 ·rename_i hne
  split at h
  ·rename_i vs0
   cases h
   obtain ⟨l',rfl,hl⟩:=inv_tuple hv
   refine ⟨l',hl,?_⟩
   unfold untup
   split
   ·rename_i s; exact absurd rfl (hne s)
   ·rfl
  ·cases h
theorem untup_tup {rs:List Sh} {v:Value} {vs:List Value} (h:untup rs v=some vs) (hl:vs.length=rs.length):v=tup vs:=by
 unfold untup at h
 split at h
 ·cases h; rfl
 ·rename_i hne
  split at h
  ·rename_i vs0
   cases h
   obtain ⟨l⟩:=vs0
   match l,rs,hne,hl with
   | [],_,_,_=>rfl
   | [x],[s],hne,_=>exact absurd rfl (hne s)
   | [x],[],_,hl=>simp at hl
   | [x],_::_::_,_,hl=>simp at hl
   | _::_::_,_,_,_=>rfl
  ·cases h
structure StartAt (P:Program) (G:Nat→Option Obj) (gl:Nat) (H0:Hp AB) (n0:Nat) (w:World) (ρ:Ren):Prop where
 hr:∀ (E:Nat→U) (base:Nat),@HR ⟨E,G⟩ P base ρ H0 w
 gr:∀ g,g < gl→ρ g=some (lc g 0 0)
 out:∀ b,n0≤b→ρ b=none
 inG:∀ b l,ρ b=some l→∃ o,G l.blk=some o
 ro:∀ id ab,id≤most→Hp.get H0 id=some ab→ab.fr=false
 le:n0 < most
 gln:gl≤n0
 ex:∀ id cs,id≤most→Hp.get H0 id=some (.cells cs 0 true)→∃ C T fz,w.heap[id]? = some (.cells C T fz)∧C.size=cs.length
def StartOk (P:Program) (G:Nat→Option Obj) (gl:Nat) (H0:Hp AB) (n0:Nat):Prop:=∀ w:World,GOk G w→∃ ρ:Ren,StartAt P G gl H0 n0 w ρ
def mkH:List (Nat × List Value)→Hp AB
 | []=>hp0
 | (b,cs)::r=>Hp.set (mkH r) b (some (.cells cs 0 true))
def conT:List (FuncId × FnC)→FuncId→Option FnC
 | [],_=>none
 | (g,c)::r,f=>bif Nat.beq g f then some c else conT r f
theorem conT_mem:∀ {l:List (FuncId × FnC)} {f:FuncId} {c:FnC},conT l f=some c→(f,c) ∈ l
 | (g,j)::r,f,c,h=>by
   rw [conT] at h
   cases e:Nat.beq g f with
   | true=>rw [e] at h; cases h; rw [Nat.eq_of_beq_eq_true e]; exact .head _
   | false=>rw [e] at h; exact .tail _ (conT_mem h)
def ConsOk (P:Program) (G:Nat→Option Obj) (gl:Nat) (l:List (FuncId × FnC)):Prop:=∀ (E:Nat→U) (base:Nat),∀ p ∈ l,@FnOk ⟨E,G⟩ P base gl p.1 p.2
theorem ConsOk.nil {P:Program} {G:Nat→Option Obj} {gl:Nat}:ConsOk P G gl []:=fun _ _ _ h=>by cases h
theorem ConsOk.cons {P:Program} {G:Nat→Option Obj} {gl:Nat} {l:List (FuncId × FnC)} {f:FuncId} {ps rs:List Sh} {spec:Spec} (h:ConOk P G f ps spec rs) (k:ConsOk P G gl l):ConsOk P G gl ((f,conF P ps spec rs)::l):=fun E base p hp=>by
 rcases List.mem_cons.1 hp with rfl|hp
 ·exact @conF_ok ⟨E,G⟩ P base gl f ps spec rs h
 ·exact k E base p hp
def CxG (C:Cx) (G:Nat→Option Obj):Prop:=∀ (E:Nat→U) (base:Nat),@CxOk ⟨E,G⟩ C base
theorem shL_len {R:Nat→Option Obj}:∀ {ss:List Sh} {us:List U} {vs:List Value},ShL R ss us vs→us.length=shN ss
 | [],us,vs,h=>by cases h; rfl
 | s::ss,us,vs,h=>by
   cases h with
   | cons h1 h2 =>
     rw [List.length_append,shL_len h2]
     cases h1 with
     | s _ _=>simp [shN,Sh.n,Sh.tags]
     | a _ ht=>simp [shN,Sh.n,Sh.tags,← ht]
theorem shL_vlen {R:Nat→Option Obj}:∀ {ss:List Sh} {us:List U} {vs:List Value},ShL R ss us vs→vs.length=ss.length
 | [],us,vs,h=>by cases h; rfl
 | s::ss,us,vs,h=>by
   cases h with
   | cons h1 h2=>simp [shL_vlen h2]
theorem start_at {P:Program} {G R:Nat→Option Obj} {gl n0:Nat} {H0:Hp AB} {w:World} {ρ:Ren} {ps:List Sh} {pi:List Nat} (E:Nat→U) (hsa:StartAt P G gl H0 n0 w ρ) (hR:GOk R w) :
  ∃ ρ2:Ren,@HR ⟨E,G⟩ P w.heap.size ρ2 (memP ps H0 n0 pi).H w∧(∀ b l,ρ b=some l→ρ2 b=some l)∧(∀ b,(memP ps H0 n0 pi).n≤b→ρ2 b=none)∧(dataB ps=true→ρ2 n0=some (regL R))∧(∀ k,Fp ρ2 (memP ps H0 n0 pi).H k→∃ o,R k=some o) ∧
   (memP ps H0 n0 pi).W=[]∧(memP ps H0 n0 pi).n≤(memP ps H0 n0 pi).hi∧(memP ps H0 n0 pi).lg=⟨shN ps,pi,[]⟩∧n0≤(memP ps H0 n0 pi).n:=by
 letI:Ora:=⟨E,G⟩
 have hr:=hsa.hr E w.heap.size
 have hH0:∀ k,¬ Fp ρ H0 k:=fun k ⟨id,ab,l,hid,hab,hl,hf,ht⟩=>by rw [hsa.ro id ab hid hab] at hf; cases hf
 cases hd:dataB ps with
 | false =>
   have e:memP ps H0 n0 pi=mem0 H0 n0 (shN ps) pi:=by unfold memP; rw [hd]; rfl
   rw [e]
   exact ⟨ρ,hr,fun _ _ h=>h,hsa.out,(fun h=>by cases h),(fun k hk=>absurd hk (hH0 k)),rfl,Nat.le_refl _,rfl,Nat.le_refl _⟩
 | true =>
   have e:memP ps H0 n0 pi=⟨H0.set n0 (some .frz),n0+1,[],n0+1,⟨shN ps,pi,[]⟩⟩:=by unfold memP; rw [hd]; rfl
   rw [e]
   have hfree:ρ n0=none:=hsa.out n0 (Nat.le_refl _)
   have hle:n0≤most:=Nat.le_of_lt hsa.le
   refine ⟨upd ρ n0 (regL R),⟨fun b l hb=>?_,fun id hid ab hab=>?_⟩,upd_ext hfree,fun b hb=>?_,fun _=>upd_self _ _ _,fun k ⟨id,ab,l,hid,hab,hl,hf,ht⟩=>?_,rfl,Nat.le_refl _,rfl,Nat.le_succ _⟩
   ·cases h0:ρ b with
    | some l0=>exact hr.dom b l0 h0
    | none=>obtain ⟨rfl,_⟩:=upd_inv hb h0; exact hle
   ·have hab:Hp.get (H0.set n0 (some .frz)) id=some ab:=hab
    rw [hp_get_set _ _ _ _ hle hid] at hab
    by_cases e:id=n0
    ·rw [if_pos e] at hab
     have hab:=Option.some.inj hab; subst hab; subst e
     exact ⟨regL R,upd_self _ _ _,⟨rfl,hR⟩,fun h=>by cases h⟩
    ·rw [if_neg e] at hab
     obtain ⟨l,h1,h2,h3⟩:=hr.at_ id hid ab hab
     refine ⟨l,upd_ext hfree _ _ h1,h2.mono (upd_ext hfree) (fun _ _=>rfl),fun hrw=>?_⟩
     have:=hsa.ro id ab hid hab
     rw [AB.rw_fr hrw] at this; cases this
   ·have hb:n0+1≤b:=hb
    unfold upd
    rw [if_neg (by omega)]
    exact hsa.out b (by omega)
   ·have hab:Hp.get (H0.set n0 (some .frz)) id=some ab:=hab
    rw [hp_get_set _ _ _ _ hle hid] at hab
    by_cases e:id=n0
    ·rw [if_pos e] at hab
     have hab:=Option.some.inj hab; subst hab; subst e
     rw [upd_self] at hl
     have hl:=Option.some.inj hl; subst hl
     rcases ht with ⟨h,_⟩|⟨_,o,h⟩
     ·cases h
     ·exact ⟨o,h⟩
    ·rw [if_neg e] at hab
     rw [hsa.ro id ab hid hab] at hf; cases hf
theorem con_of_run {C:Cx} {G R:Nat→Option Obj} {d:Nat} {f:FuncId} {ps rs:List Sh} {H0:Hp AB} {n0:Nat} {pi:List Nat} {xs:List Value} {log:List LogE} {us:List U} {vs:List Value} {F:Nat→U} {w:World}
  (hC:CxG C G) (hst:StartOk C.P G C.gl H0 n0) (hb:∃ fn c,C.P.funcs[f]? = some fn∧fn.body=some c) (hrun:runF C d f ps rs H0 n0 pi=some (xs,log)) (hv:ShL R ps us vs) (hF:Agree us F) (hS:SatL F log) (hG:GOk G w) (hR:GOk R w) :
  (callFunc f ⟨vs⟩).run C.P w=.ok (.enter f ⟨vs⟩) w∧Calls C.P f ⟨vs⟩ w (fun e w'=>∃ r R',ShL R' rs (xs.map (argU F)) r∧e=.returned (tup r)∧Grown w w'∧GOk R' w'∧∀ k o,R' k=some o→w.heap.size≤k∨∃ o',R k=some o'):=by
 letI:Ora:=⟨F,G⟩
 obtain ⟨v,m',vs1,m2,h1,h2,h3,h4,h5⟩:=endF_eq hrun
 have hcx:=hC F w.heap.size
 have hfn:=callTop_ok hcx d f
 obtain ⟨ρ,hsa⟩:=hst w hG
 obtain ⟨ρ2,b1,b2,b3,b4,b5,b6,b7,b8,b9⟩:=start_at (ps:=ps) (pi:=pi) F hsa hR
 have htm:m'.lg.le m2.lg∧m'.hi≤m2.hi:=by
  unfold takeA at h4
  split at h4
  ·split at h4
   ·rename_i hd; cases h4; have:=toDL_mono (P:=C.P) tdP_ok hd; exact ⟨this.2.1,this.1⟩
   ·rename_i hd
    split at h4
    ·rename_i hj
     cases h4
     have a:=toDL_mono (P:=C.P) tdP_ok hd
     have b:=joinD_mono hj
     exact ⟨by rw [b.2.1]; exact a.2.1,Nat.le_trans a.1 b.1⟩
    ·cases h4
   ·cases h4
  ·cases h4
 have hS2:Sat m2.lg:=by show SatL F m2.lg.log; rw [h5]; exact hS
 have hS1:Sat m'.lg:=SatL.le hS2 htm.1
 have hfree:∀ hi,Free ρ2 (memP ps H0 n0 pi).n hi:=fun hi b q1 _=>b3 b q1
 have hat:At C.P w.heap.size C.gl ρ2 (memP ps H0 n0 pi) m'.hi w:=⟨b1,Nat.le_refl _,hfree _,fun g hg=>b2 _ _ (hsa.gr g hg),b7,fun b hb=>(by rw [b6] at hb; cases hb),fun k o hk=>⟨hG.lt hk,hG k o hk⟩⟩
 have hl:=(valsL_VR (ρ:=ρ2) (R:=R) (b:=n0) (i:=0) hv (fun j u hj=>by rw [Nat.zero_add]; exact hF j u hj) b4).1
 obtain ⟨fn,c,hf,hbd⟩:=hb
 have hnm:fn.name ≠ "runtime.NumGoroutine":=by simpa using hcx.names f fn hf
 have hent:(callFunc f ⟨vs⟩).run C.P w=.ok (.enter f ⟨vs⟩) w:=by simp [callFunc,hf,hnm,hbd]
 refine ⟨hent,?_⟩
 rcases hfn.ok ρ2 _ m' w _ vs v h1 hS1 hat hl with ⟨_,h6⟩|⟨v',ρ',w',h6,_⟩
 ·refine h6.mono fun e w' ⟨v',ρ',g1,g2,g3⟩=>?_
  obtain ⟨vs',q1,q2⟩:=untup_VR h3 g2
  have hf2:Free ρ' m'.n m2.hi:=(hfree m2.hi).step g3
  obtain ⟨ρ3,R',a1,a2,a3,a4,a5⟩:=takeA_ok g3.hr h4 hf2 q1 hS2
  have hgr:Grown w w':=⟨g3.os,g3.size,fun k hk=>g3.keep k hk fun b hb=>by rw [h2] at hb; cases hb⟩
  have hlen:vs'.length=rs.length:=shL_vlen a3
  refine ⟨vs',R',a3,by rw [g1,untup_tup q2 hlen],hgr,a4,fun k o hk=>?_⟩
  obtain ⟨id,ab,l,p1,p2,p3,p4,_⟩:=a5 k o hk
  rcases a1.tch k ⟨id,ab,l,p1,p2,p3,p4⟩ with hge|hfp
  ·exact .inl (Nat.le_trans g3.size hge)
  ·rcases g3.tch k hfp with hge|hfp
   ·exact .inl hge
   ·exact .inr (b5 k hfp)
 ·rw [hent] at h6; cases h6
theorem con_of_tree {C:Cx} {G:Nat→Option Obj} {d:Nat} {f:FuncId} {ps rs:List Sh} {H0:Hp AB} {n0:Nat} {spec:Spec} (t:Tr)
  (hC:CxG C G) (hst:StartOk C.P G C.gl H0 n0) (hb:∃ fn c,C.P.funcs[f]? = some fn∧fn.body=some c)
  (hwf:t.wf (shN ps)=true) (hchk:(t.paths [] [] (shN ps)).map (fun p=>runF C d f ps rs H0 n0 p.1)=(t.paths [] [] (shN ps)).map (fun p=>some p.2))
  (hsat:∀ us outs,spec us=some (0,outs)→t.sat (fun r=>r=outs) us):ConOk C.P G f ps spec rs:=by
 intro us outs w vs R hv hs hG hR
 have hlen:us.length=shN ps:=shL_len hv
 rw [← hlen] at hwf hchk
 obtain ⟨p,hp,F,f1,f2,f3⟩:=sat_path t us [] [] hwf (hsat us outs hs) (fun F _ e he=>by cases he)
 have hrun:runF C d f ps rs H0 n0 p.1=some p.2:=List.map_inj_left.1 hchk p hp
 obtain ⟨h1,h2⟩:=con_of_run (us:=us) hC hst hb (by rw [hrun]) hv f1 f2 hG hR
 exact ⟨h1,h2.mono fun e w' ⟨r,R',g1,g2⟩=>⟨r,R',by rw [← f3]; exact g1,g2⟩⟩
end Go.Sx

namespace Go.Sx
set_option linter.all false
open Go
set_option linter.unusedVariables false
set_option linter.unusedSimpArgs false
section
variable [Ora] {P:Program} {base gl:Nat}
end
end Go.Sx

namespace Go.Sx
set_option linter.all false
open Go
set_option linter.unusedVariables false
abbrev h (i t:Nat):Value:=hole i t
theorem sameK_refl (k:IntKind):sameK k k=true:=by cases k <;> rfl
theorem ev_add (k:IntKind) (a b:Int):evU (.bin .add) [.int k a,.int k b]=.int k (k.wrap (a+b)):=by
 simp [evU,evB,intM2,sameK_refl,isSh,intM,mkI_eq,wrapF_eq,addF_eq,ofV]
theorem ev_sub (k:IntKind) (a b:Int):evU (.bin .sub) [.int k a,.int k b]=.int k (k.wrap (a - b)):=by
 simp [evU,evB,intM2,sameK_refl,isSh,intM,mkI_eq,wrapF_eq,subF_eq,ofV]
theorem ev_mul (k:IntKind) (a b:Int):evU (.bin .mul) [.int k a,.int k b]=.int k (k.wrap (a * b)):=by
 simp [evU,evB,intM2,sameK_refl,isSh,intM,mkI_eq,wrapF_eq,mulF_eq,ofV]
theorem ev_quo (k:IntKind) (a b:Int) (hb:b≠0):evU (.bin .quo) [.int k a,.int k b]=.int k (k.wrap (a.tdiv b)):=by
 have hb':(b == 0)=false:=by simpa using hb
 simp [evU,evB,intM2,sameK_refl,isSh,intM,mkI_eq,eqF'_eq,hb',ofV]
theorem ev_rem (k:IntKind) (a b:Int) (hb:b≠0):evU (.bin .rem) [.int k a,.int k b]=.int k (a.tmod b):=by
 have hb':(b == 0)=false:=by simpa using hb
 simp [evU,evB,intM2,sameK_refl,isSh,intM,mkI_eq,eqF'_eq,hb',ofV]
theorem ev_and (k:IntKind) (a b:Int):evU (.bin .and) [.int k a,.int k b]=.int k (k.wrap (BitVec.ofInt k.bits a &&& BitVec.ofInt k.bits b).toNat):=by
 simp [evU,evB,intM2,sameK_refl,isSh,intM,bitsM,ofV]
theorem ev_or (k:IntKind) (a b:Int):evU (.bin .or) [.int k a,.int k b]=.int k (k.wrap (BitVec.ofInt k.bits a ||| BitVec.ofInt k.bits b).toNat):=by
 simp [evU,evB,intM2,sameK_refl,isSh,intM,bitsM,ofV]
theorem ev_eql (k:IntKind) (a b:Int):evU (.bin .eql) [.int k a,.int k b]=.bool (decide (a=b)):=by
 simp [evU,evB,intM2,sameK_refl,isSh,intM,eqF'_eq,ofV]
 rw [Bool.eq_iff_iff]; simp
theorem ev_neq (k:IntKind) (a b:Int):evU (.bin .neq) [.int k a,.int k b]=.bool (decide (a≠b)):=by
 simp [evU,evB,intM2,sameK_refl,isSh,intM,eqF'_eq,ofV]
 rw [Bool.eq_iff_iff]; simp
theorem ev_lss (k:IntKind) (a b:Int):evU (.bin .lss) [.int k a,.int k b]=.bool (decide (a < b)):=by
 simp [evU,evB,intM2,sameK_refl,isSh,intM,ltF_eq,ofV]
theorem ev_leq (k:IntKind) (a b:Int):evU (.bin .leq) [.int k a,.int k b]=.bool (decide (a≤b)):=by
 simp [evU,evB,intM2,sameK_refl,isSh,intM,leF_eq,ofV]
theorem ev_gtr (k:IntKind) (a b:Int):evU (.bin .gtr) [.int k a,.int k b]=.bool (decide (b < a)):=by
 simp [evU,evB,intM2,sameK_refl,isSh,intM,ltF_eq,ofV]
theorem ev_geq (k:IntKind) (a b:Int):evU (.bin .geq) [.int k a,.int k b]=.bool (decide (b≤a)):=by
 simp [evU,evB,intM2,sameK_refl,isSh,intM,leF_eq,ofV]
theorem ev_shl (k j:IntKind) (a b:Int) (hb:0≤b):evU (.bin .shl) [.int k a,.int j b]=.int k (k.wrap (a * 2 ^ (min b.toNat k.bits))):=by
 obtain ⟨n,rfl⟩:∃ n:Nat,b=n:=⟨b.toNat,by omega⟩
 simp [evU,evB,intM2,isSh,shiftM,mkI_eq,ofV]
theorem ev_shr (k j:IntKind) (a b:Int) (hb:0≤b):evU (.bin .shr) [.int k a,.int j b]=.int k (a.fdiv (2 ^ (min b.toNat k.bits))):=by
 obtain ⟨n,rfl⟩:∃ n:Nat,b=n:=⟨b.toNat,by omega⟩
 simp [evU,evB,intM2,isSh,shiftM,mkI_eq,ofV]
theorem ev_seq (a b:List UInt8):evU (.bin .eql) [.str a,.str b]=.bool (decide (a=b)):=by
 show U.bool (a == b)=_
 congr 1; rw [Bool.eq_iff_iff]; simp
theorem ev_cat (a b:List UInt8) (hl:a.length+b.length≤1000000000):evU (.bin .add) [.str a,.str b]=.str (a++b):=by
 have hl:Nat.ble (ByteArray.size ⟨⟨a⟩⟩+ByteArray.size ⟨⟨b⟩⟩) 1000000000=true:=Nat.ble_eq_true_of_le hl
 simp [evU,evB,strM,hl,forceL_eq,ofV]
theorem ev_not (a:Bool):evU (.un .not) [.bool a]=.bool (!a):=rfl
theorem ev_notD (p:Prop) [Decidable p]:evU (.un .not) [.bool (decide p)]=.bool (decide ¬p):=by
 show U.bool (!decide p)=_
 simp
theorem ev_conv (k j:IntKind) (a:Int):evU (.conv k) [.int j a]=.int k (k.wrap a):=rfl
theorem ev_len (s:List UInt8):evU .len [.str s]=.int .i64 s.length:=rfl
theorem ev_inb (j k:IntKind) (a n:Int):evU .inb [.int j a,.int k n]=.bool (decide (0≤a∧a < n)):=by
 show U.bool (decide (0≤a) && decide (a < n))=_
 simp
theorem ev_idx (j:IntKind) (s:List UInt8) (i:Int) (h0:0≤i) (h1:i < s.length):evU .idx [.str s,.int j i]=.int .u8 (s.getD i.toNat 0).toNat:=by
 obtain ⟨n,rfl⟩:∃ n:Nat,i=n:=⟨i.toNat,by omega⟩
 have hn:n < s.length:=by omega
 show (match s[n]? with|some b=>U.int .u8 b.toNat|none=>U.none)=_
 simp [List.getD_eq_getElem?_getD,hn]
theorem ev_sel (j:IntKind) (i:Int) (cs:List U) (h0:0≤i):evU .sel (.int j i::cs)=cs.getD i.toNat .none:=by
 obtain ⟨n,rfl⟩:∃ n:Nat,i=n:=⟨i.toNat,by omega⟩
 rfl
theorem ev_sub' (j k:IntKind) (s:List UInt8) (l r:Int) (h0:0≤l) (h1:l≤r) (h2:r≤s.length):evU .sub [.str s,.int j l,.int k r]=.str ((s.drop l.toNat).take (r.toNat - l.toNat)):=by
 obtain ⟨n,rfl⟩:∃ n:Nat,l=n:=⟨l.toNat,by omega⟩
 obtain ⟨m,rfl⟩:∃ n:Nat,r=n:=⟨r.toNat,by omega⟩
 show subU s (.ofNat n) (.ofNat m)=_
 simp only [subU]
 rw [if_pos (by omega)]; rfl
theorem ev_sub1 (j:IntKind) (s:List UInt8) (l:Int) (h0:0≤l) (h1:l≤s.length):evU .sub1 [.str s,.int j l]=.str (s.drop l.toNat):=by
 obtain ⟨n,rfl⟩:∃ n:Nat,l=n:=⟨l.toNat,by omega⟩
 show subU s (.ofNat n) (.ofNat s.length)=_
 simp only [subU]
 rw [if_pos (by omega),List.take_of_length_le (by simp)]; simp
theorem ev_min (k j:IntKind) (a b:Int):evU .min [.int k a,.int j b]=.int k (min a b):=by
 show U.int k (if b < a then b else a)=_
 congr 1; omega
theorem wrap64 {n:Int} (h : -9223372036854775808≤n) (h2:n≤9223372036854775807):IntKind.i64.wrap n=n:=by
 simp only [IntKind.wrap,IntKind.bits,IntKind.signed]; simp; omega
theorem wrap8 {n:Int} (h:0≤n) (h2:n≤255):IntKind.u8.wrap n=n:=by
 simp only [IntKind.wrap,IntKind.bits,IntKind.signed]; simp; omega
theorem wrapu64 {n:Int} (h:0≤n) (h2:n≤18446744073709551615):IntKind.u64.wrap n=n:=by
 simp only [IntKind.wrap,IntKind.bits,IntKind.signed]; simp; omega
theorem ev_addW {k:IntKind} {a b:Int} (hw:k.wrap (a+b)=a+b):evU (.bin .add) [.int k a,.int k b]=.int k (a+b):=by rw [ev_add,hw]
theorem ev_subW {k:IntKind} {a b:Int} (hw:k.wrap (a - b)=a - b):evU (.bin .sub) [.int k a,.int k b]=.int k (a - b):=by rw [ev_sub,hw]
theorem ev_mulW {k:IntKind} {a b:Int} (hw:k.wrap (a * b)=a * b):evU (.bin .mul) [.int k a,.int k b]=.int k (a * b):=by rw [ev_mul,hw]
theorem ev_convW {k j:IntKind} {a:Int} (hw:k.wrap a=a):evU (.conv k) [.int j a]=.int k a:=by rw [ev_conv,hw]
theorem ev_quoW {k:IntKind} {a b:Int} (h0:0≤a) (hb:0 < b) (hw:k.wrap (a / b)=a / b):evU (.bin .quo) [.int k a,.int k b]=.int k (a / b):=by
 rw [ev_quo _ _ _ (by omega),Int.tdiv_eq_ediv_of_nonneg h0,hw]
theorem ev_remW {k:IntKind} {a b:Int} (h0:0≤a) (hb:0 < b):evU (.bin .rem) [.int k a,.int k b]=.int k (a % b):=by
 rw [ev_rem _ _ _ (by omega),Int.tmod_eq_emod_of_nonneg h0]
theorem ev_shrL {k j:IntKind} {a b:Int} (c:Int) (hb:0≤b) (hc:(2:Int) ^ (min b.toNat k.bits)=c):evU (.bin .shr) [.int k a,.int j b]=.int k (a / c):=by
 rw [ev_shr _ _ _ _ hb,← hc,Int.fdiv_eq_ediv_of_nonneg _ (Int.le_of_lt (Int.pow_pos (by decide)))]
theorem ev_shlL {k j:IntKind} {a b:Int} (c:Int) (hb:0≤b) (hc:(2:Int) ^ (min b.toNat k.bits)=c):evU (.bin .shl) [.int k a,.int j b]=.int k (k.wrap (a * c)):=by
 rw [ev_shl _ _ _ _ hb,← hc]
theorem ev_shlW {k j:IntKind} {a b:Int} (c:Int) (hb:0≤b) (hc:(2:Int) ^ (min b.toNat k.bits)=c) (hw:k.wrap (a * c)=a * c):evU (.bin .shl) [.int k a,.int j b]=.int k (a * c):=by
 rw [ev_shlL c hb hc,hw]
theorem ev_selI {k j:IntKind} {i:Int} (zs:List Int) (h0:0≤i) (h1:i < zs.length):evU .sel (.int j i::zs.map (U.int k))=.int k (zs.getD i.toNat 0):=by
 rw [ev_sel _ _ _ h0,List.getD_eq_getElem?_getD,List.getElem?_map,List.getD_eq_getElem?_getD]
 have:i.toNat < zs.length:=by omega
 simp [this]
theorem wrapSmall {k:IntKind} {n:Int} (h0:0≤n) (h:n < 2 ^ (k.bits - 1)):k.wrap n=n:=by
 cases k <;> simp only [IntKind.bits,Nat.reduceSub] at h <;> simp only [IntKind.wrap,IntKind.bits,IntKind.signed,Nat.reduceSub] <;> simp <;> omega
theorem ev_andR {k:IntKind} {a m:Int} (n:Nat) (c:Int) (hn:n < k.bits) (hc:(2:Int) ^ n=c) (hm:m+1=c):evU (.bin .and) [.int k a,.int k m]=.int k (a % c):=by
 subst hc
 obtain rfl:m=2 ^ n - 1:=by omega
 rw [ev_and]
 congr 1
 have e1:(BitVec.ofInt k.bits (2 ^ n - 1)).toNat=2 ^ n - 1:=by
  rw [BitVec.toNat_ofInt]
  have h1:((2:Int) ^ n - 1)=((2 ^ n - 1:Nat):Int):=by
   have:1≤2 ^ n:=Nat.one_le_two_pow
   simp [Int.ofNat_sub this]
  rw [h1,← Int.natCast_emod,Int.toNat_natCast]
  apply Nat.mod_eq_of_lt
  have h3:(2:Nat) ^ n < 2 ^ k.bits:=Nat.pow_lt_pow_right (by decide) hn
  have h4:1≤2 ^ n:=Nat.one_le_two_pow
  omega
 have e2:((BitVec.ofInt k.bits a &&& BitVec.ofInt k.bits (2 ^ n - 1)).toNat:Int)=a % 2 ^ n:=by
  rw [BitVec.toNat_and,e1,Nat.and_two_pow_sub_one_eq_mod,BitVec.toNat_ofInt]
  have h0:0≤a % ((2 ^ k.bits:Nat):Int):=Int.emod_nonneg _ (by have:0 < 2 ^ k.bits:=Nat.two_pow_pos _; omega)
  rw [Int.natCast_emod,Int.toNat_of_nonneg h0]
  have:((2 ^ n:Nat):Int) ∣ ((2 ^ k.bits:Nat):Int):=Int.natCast_dvd_natCast.2 (Nat.pow_dvd_pow 2 (Nat.le_of_lt hn))
  rw [Int.emod_emod_of_dvd _ this]
  simp
 rw [e2]
 have hp:(0:Int) < 2 ^ n:=Int.pow_pos (by decide)
 refine wrapSmall (Int.emod_nonneg _ (by omega)) (Int.lt_of_lt_of_le (Int.emod_lt_of_pos _ hp) ?_)
 have:(2:Nat) ^ n≤2 ^ (k.bits - 1):=Nat.pow_le_pow_right (by decide) (by omega)
 exact_mod_cast this
theorem ofInt_small {b:Nat} {a:Int} (h0:0≤a) (h:a < 2 ^ b):(BitVec.ofInt b a).toNat=a.toNat:=by
 rw [BitVec.toNat_ofInt]
 congr 1
 apply Int.emod_eq_of_lt h0
 have:((2 ^ b:Nat):Int)=(2:Int) ^ b:=by simp
 rw [this]; exact h
theorem ev_orA {k:IntKind} {a b:Int} (n:Nat) (c M:Int) (hc:(2:Int) ^ n=c) (hM:(2:Int) ^ (k.bits - 1)=M) (ha0:0≤a) (ham:a % c=0) (hb0:0≤b) (hb:b < c) (hs:a+b < M):evU (.bin .or) [.int k a,.int k b]=.int k (a+b):=by
 rw [ev_or]
 congr 1
 have hlt:(2:Int) ^ (k.bits - 1)≤2 ^ k.bits:=by
  have:(2:Nat) ^ (k.bits - 1)≤2 ^ k.bits:=Nat.pow_le_pow_right (by decide) (Nat.sub_le _ _)
  exact_mod_cast this
 have e:((BitVec.ofInt k.bits a ||| BitVec.ofInt k.bits b).toNat:Int)=a+b:=by
  rw [BitVec.toNat_or,ofInt_small ha0 (by omega),ofInt_small hb0 (by omega)]
  obtain ⟨x,rfl⟩:∃ x:Nat,a=x:=⟨a.toNat,by omega⟩
  obtain ⟨y,rfl⟩:∃ y:Nat,b=y:=⟨b.toNat,by omega⟩
  subst hc
  simp only [Int.toNat_natCast]
  have h1:x % 2 ^ n=0:=by exact_mod_cast ham
  have h2:y < 2 ^ n:=by exact_mod_cast hb
  have h3:=Nat.two_pow_add_eq_or_of_lt h2 (x / 2 ^ n)
  have h4:2 ^ n * (x / 2 ^ n)=x:=Nat.mul_div_cancel' (Nat.dvd_of_mod_eq_zero h1)
  rw [h4] at h3
  rw [← h3]; simp
 rw [e]
 have hs':a+b < 2 ^ (k.bits - 1):=by omega
 have h0':0≤a+b:=by omega
 exact wrapSmall h0' hs'
theorem ev_orB {k:IntKind} {a b:Int} (n:Nat) (c M:Int) (hc:(2:Int) ^ n=c) (hM:(2:Int) ^ (k.bits - 1)=M) (ha0:0≤b) (ham:b % c=0) (hb0:0≤a) (hb:a < c) (hs:a+b < M):evU (.bin .or) [.int k a,.int k b]=.int k (a+b):=by
 have:evU (.bin .or) [.int k a,.int k b]=evU (.bin .or) [.int k b,.int k a]:=by
  rw [ev_or,ev_or,BitVec.or_comm]
 rw [this,ev_orA n c M hc hM ha0 ham hb0 hb (by omega),Int.add_comm]
theorem sat_lt {L:List U→Prop} {t:Nat} {op:LOp} {xs:List Value} {k:Tr} {E:List U} {u:U} (E':List U) (he:evU op (xs.map (argU (gE E)))=u) (ht:t < 10∧tagU u=t) (hE:E++[u]=E') (hk:k.sat L E'):(Tr.lt t op xs k).sat L E:=by
 subst he; subst hE; exact ⟨ht,hk⟩
theorem sat_br {L:List U→Prop} {i:Nat} {a b:Tr} {E:List U} {p:Prop} [Decidable p] (he:gE E i=.bool (decide p)) (ha:p→a.sat L E) (hb:¬p→b.sat L E):(Tr.br i a b).sat L E :=
 ⟨decide p,he,fun h=>ha (of_decide_eq_true h),fun h=>hb (of_decide_eq_false h)⟩
theorem sat_brB {L:List U→Prop} {i:Nat} {a b:Tr} {E:List U} {c:Bool} (he:gE E i=.bool c) (ha:c=true→a.sat L E) (hb:c=false→b.sat L E):(Tr.br i a b).sat L E:=⟨c,he,ha,hb⟩
theorem sat_ret {L:List U→Prop} {xs:List Value} {E:List U} (r:List U) (he:xs.map (argU (gE E))=r) (h:L r):(Tr.ret xs).sat L E:=by subst he; exact h
theorem sat_fn {L:List U→Prop} {spec:Spec} {xs:List Value} {n:Nat} {k:Tr} {E outs:List U} (E':List U) (he:spec (xs.map (argU (gE E)))=some (0,outs)) (hn:outs.length=n) (hE:E++outs=E') (hk:k.sat L E'):(Tr.fn spec xs n k).sat L E:=by
 subst hE; exact ⟨outs,he,hn,hk⟩
end Go.Sx

namespace Go.Sx
set_option linter.all false
open Go
set_option linter.unusedVariables false
set_option linter.unusedSimpArgs false
def seqV:Value→Option (Nat × (Nat × (Nat × Nat)))
 | .func (.yield k) ⟨[.pointer (some ⟨b,0,none⟩),.complex .f64 i t]⟩ ⟨[]⟩=>some (k,b,i,t)
 | _=>none
def mkSeq (k b i t:Nat):Value:=.func (.yield k) ⟨[.pointer (some ⟨b,0,none⟩),.complex .f64 i t]⟩ ⟨[]⟩
theorem seqV_eq {v:Value} {k b i t:Nat} (h:seqV v=some (k,b,i,t)):v=mkSeq k b i t:=by
 unfold seqV at h
 split at h
 ·cases h; rfl
 ·cases h
inductive Bn where
 | h (i:Nat) (v:Value)
 | r (r b:Nat)
def nmB (gl b b2:Nat):Option (List Bn):=bif Nat.blt b gl then (bif Nat.beq b b2 then some [] else none) else some [.r b b2]
def kindOk (k k2:Nat):Bool:=(Nat.beq k 2 && (Nat.beq k2 2 || Nat.beq k2 3)) || ((Nat.beq k 3 && Nat.beq k2 3) || (Nat.beq k 4 && Nat.beq k2 4))
mutual
def matchV (gl:Nat):Nat→Value→Value→Option (List Bn)
 | 0,_,_=>none
 | d+1,p,v=>match seqV p with
   | some (k,r,h,t)=>match seqV v with
     | some (k2,b,i,t2)=>bif kindOk k k2 && Nat.beq t t2 then match nmB gl r b with
       | some x=>some (.h h (hole i t)::x)
       | none=>none else none
     | none=>none
   | none=>match p with
     | .complex .f64 i t=>bif Nat.beq (tagOf v) t && Nat.blt t 10 then some [.h i v] else none
     | .complex .f32 0 _=>some []
     | .int k n=>match v with
       | .int j m=>bif sameK k j && eqF' n m then some [] else none
       | _=>none
     | .bool a=>match v with
       | .bool b=>bif a == b then some [] else none
       | _=>none
     | .string a=>match v with
       | .string b=>bif a.data.toList == b.data.toList then some [] else none
       | _=>none
     | .pointer none=>match v with
       | .pointer none=>some []
       | _=>none
     | .pointer (some ⟨b,o,none⟩)=>match v with
       | .pointer (some ⟨b2,o2,none⟩)=>bif Nat.beq o o2 then nmB gl b b2 else none
       | _=>none
     | .slice none n c=>match v with
       | .slice none n2 c2=>bif Nat.beq n n2 && Nat.beq c c2 then some [] else none
       | _=>none
     | .slice (some ⟨b,o,none⟩) n c=>match v with
       | .slice (some ⟨b2,o2,none⟩) n2 c2=>bif Nat.beq o o2 && (Nat.beq n n2 && Nat.beq c c2) && !(Nat.beq c (OPEN+2)) then nmB gl b b2 else none
       | _=>none
     | .nilIface=>match v with
       | .nilIface=>some []
       | _=>none
     | .nilFunc=>match v with
       | .nilFunc=>some []
       | _=>none
     | .func (.func f) ⟨a⟩ ⟨b⟩=>match v with
       | .func (.func f2) ⟨a2⟩ ⟨b2⟩=>bif Nat.beq f f2 then match matchL gl d a a2,matchL gl d b b2 with
         | some x,some y=>some (x++y)
         | _,_=>none else none
       | _=>none
     | .iface t u=>match v with
       | .iface t2 u2=>bif Nat.beq t t2 then matchV gl d u u2 else none
       | _=>none
     | .agg ⟨a⟩=>match v with
       | .agg ⟨a2⟩=>matchL gl d a a2
       | _=>none
     | .tuple ⟨a⟩=>match v with
       | .tuple ⟨a2⟩=>matchL gl d a a2
       | _=>none
     | .func (.yield 7) ⟨[.pointer (some ⟨b,0,none⟩)]⟩ ⟨[]⟩=>match v with
       | .func (.yield 7) ⟨[.pointer (some ⟨b2,0,none⟩)]⟩ ⟨[]⟩=>nmB gl b b2
       | _=>none
     | _=>none
def matchL (gl:Nat):Nat→List Value→List Value→Option (List Bn)
 | 0,_,_=>none
 | _+1,[],[]=>some []
 | d+1,p::ps,v::vs=>match matchV gl d p v,matchL gl d ps vs with
   | some x,some y=>some (x++y)
   | _,_=>none
 | _+1,_,_=>none
end
mutual
def namesV (S:Nat→Bool):Nat→Value→Bool
 | 0,_=>false
 | d+1,p=>match seqV p with
   | some (k,b,_,_)=>S b && (Nat.beq k 2 || (Nat.beq k 3 || Nat.beq k 4))
   | none=>match p with
     | .pointer (some a)=>S a.block
     | .slice (some a) _ c=>S a.block && !(Nat.beq c (OPEN+2))
     | .func (.func _) ⟨a⟩ ⟨b⟩=>namesL S d a && namesL S d b
     | .func (.yield 7) ⟨[.pointer (some ⟨b,0,none⟩)]⟩ ⟨[]⟩=>S b
     | .iface _ u=>namesV S d u
     | .agg ⟨a⟩=>namesL S d a
     | .tuple ⟨a⟩=>namesL S d a
     | .complex _ _ _=>true
     | v=>pureV v
def namesL (S:Nat→Bool):Nat→List Value→Bool
 | 0,_=>false
 | _+1,[]=>true
 | d+1,p::ps=>namesV S d p && namesL S d ps
end
mutual
def shiftV (nx:Nat) (τ:Nat→Nat):Nat→Value→Value
 | 0,v=>v
 | d+1,p=>match seqV p with
   | some (k,b,i,t)=>forceN (nx+i) fun i=>forceN (τ b) fun b=>mkSeq k b i t
   | none=>match p with
     | .complex .f64 i t=>forceN (nx+i) fun i=>.complex .f64 i t
     | .pointer (some ⟨b,o,none⟩)=>forceN (τ b) fun b=>.pointer (some ⟨b,o,none⟩)
     | .slice (some ⟨b,o,none⟩) n c=>forceN (τ b) fun b=>.slice (some ⟨b,o,none⟩) n c
     | .func (.yield 7) ⟨[.pointer (some ⟨b,0,none⟩)]⟩ ⟨[]⟩=>forceN (τ b) fun b=>yv b
     | .func f ⟨a⟩ ⟨b⟩=>forceL (shiftL nx τ d a) fun a=>forceL (shiftL nx τ d b) fun b=>.func f ⟨a⟩ ⟨b⟩
     | .iface t u=>.iface t (shiftV nx τ d u)
     | .agg ⟨a⟩=>forceL (shiftL nx τ d a) fun a=>.agg ⟨a⟩
     | .tuple ⟨a⟩=>forceL (shiftL nx τ d a) fun a=>.tuple ⟨a⟩
     | v=>v
def shiftL (nx:Nat) (τ:Nat→Nat):Nat→List Value→List Value
 | 0,l=>l
 | _+1,[]=>[]
 | d+1,p::ps=>shiftV nx τ d p::shiftL nx τ d ps
end
def DEP:Nat:=4000
theorem nmB_eq {gl b b2:Nat} {x:List Bn} {ρ ρ2:Ren} (h:nmB gl b b2=some x) (hg:∀ g l,g < gl→ρ g=some l→ρ2 g=some l) (hr:∀ r b,Bn.r r b ∈ x→∀ l,ρ b=some l→ρ2 r=some l):∀ l,ρ b2=some l→ρ2 b=some l:=fun l hl=>by
 unfold nmB at h
 cases hb:Nat.blt b gl with
 | true =>
   rw [hb] at h
   cases he:Nat.beq b b2 with
   | true =>
     have:=Nat.eq_of_beq_eq_true he; subst this
     exact hg b l (Nat.le_of_ble_eq_true hb) hl
   | false=>rw [he] at h; cases h
 | false =>
   rw [hb] at h
   cases h
   exact hr b b2 (.head _) l hl
section
variable {P:Program} {G:Nat→Option Obj}
theorem seq_match {E F:Nat→U} {ρ ρ2:Ren} {k r h t k2 b i:Nat} {v':Value} (hk:kindOk k k2=true) (hr:∀ l,ρ b=some l→ρ2 r=some l) (hF:F h=E i) (hv:@VR ⟨E,G⟩ ρ (mkSeq k2 b i t) v'):@VR ⟨F,G⟩ ρ2 (mkSeq k r h t) v':=by
 have hflat:flatR v'=true:=by
  generalize hx:mkSeq k2 b i t=x at hv
  cases hv with
  | dat _ _ _ _ hf=>exact hf
  | clp _ _ _ _ hf _=>exact hf
  | own _ _ hf=>exact hf
  | dpt _ _ hf=>exact hf
  | opt _ _ hf=>exact hf
  | ixp _ _ _ _ hv=>subst hv; rfl
  | pure hp=>subst hx; cases hp
  | hole=>cases hx
  | junk=>cases hx
  | ptr=>cases hx
  | sl=>cases hx
  | op=>cases hx
  | opE=>cases hx
  | map=>cases hx
  | yv=>rfl
  | sdt=>cases hx
  | func=>cases hx
  | iface=>cases hx
  | agg=>cases hx
  | tuple=>cases hx
 unfold kindOk at hk
 rcases (Bool.or_eq_true _ _).mp hk with hk|hk
 ·obtain ⟨hk,h2⟩:=band hk
  have:=Nat.eq_of_beq_eq_true hk; subst this
  rcases (Bool.or_eq_true _ _).mp h2 with h2|h2
  ·have:=Nat.eq_of_beq_eq_true h2; subst this
   obtain ⟨l,e1,e2,e3,e4⟩:=@inv_dat ⟨E,G⟩ _ _ _ _ _ hv
   exact @VR.dat ⟨F,G⟩ ρ2 r h t v' l (hr _ e1) (by show Enc l.G (F h) v'; rw [hF]; exact e2) (by show tagU (F h)=t; rw [hF]; exact e3) e4 hflat
  ·have:=Nat.eq_of_beq_eq_true h2; subst this
   obtain ⟨l,e1,e2,e3,e4,_⟩:=@inv_clp ⟨E,G⟩ _ _ _ _ _ hv
   exact @VR.dat ⟨F,G⟩ ρ2 r h t v' l (hr _ e1) (by show Enc l.G (F h) v'; rw [hF]; exact e2) (by show tagU (F h)=t; rw [hF]; exact e3) e4 hflat
 ·rcases (Bool.or_eq_true _ _).mp hk with hk|hk
  ·obtain ⟨hk,h2⟩:=band hk
   have:=Nat.eq_of_beq_eq_true hk; subst this
   have:=Nat.eq_of_beq_eq_true h2; subst this
   obtain ⟨l,e1,e2,e3,e4,e5⟩:=@inv_clp ⟨E,G⟩ _ _ _ _ _ hv
   exact @VR.clp ⟨F,G⟩ ρ2 r h t v' l (hr _ e1) (by show Enc l.G (F h) v'; rw [hF]; exact e2) (by show tagU (F h)=t; rw [hF]; exact e3) e4 hflat e5
  ·obtain ⟨hk,h2⟩:=band hk
   have:=Nat.eq_of_beq_eq_true hk; subst this
   have:=Nat.eq_of_beq_eq_true h2; subst this
   obtain ⟨e1,e2⟩:=@inv_own ⟨E,G⟩ _ _ _ _ _ hv
   refine @VR.own ⟨F,G⟩ ρ2 r h t v' ?_ (by show tagU (F h)=t; rw [hF]; exact e2) hflat
   show ownR ρ2 r (F h) v'
   rw [hF]
   exact e1.imp (fun ⟨l,w,a,b⟩=>⟨l,w,hr _ a,b⟩) fun ⟨l,w,rows,a,b⟩=>⟨l,w,rows,hr _ a,b⟩
mutual
theorem matchV_VR {gl:Nat} {E F:Nat→U} {ρ ρ2:Ren} (hS:∀ g l,g < gl→ρ g=some l→ρ2 g=some l):∀ (d:Nat) (p v v':Value) (bs:List Bn),matchV gl d p v=some bs→@VR ⟨E,G⟩ ρ v v'→(∀ i u,Bn.h i u ∈ bs→F i=argU E u)→(∀ r b,Bn.r r b ∈ bs→∀ l,ρ b=some l→ρ2 r=some l)→@VR ⟨F,G⟩ ρ2 p v'
 | 0,p,v,v',bs,h,_,_,_=>by simp [matchV] at h
 | d+1,p,v,v',bs,h,hv,hb,hr=>by
   unfold matchV at h
   split at h
   ·rename_i k r hh t hp
    have:=seqV_eq hp; subst this
    split at h
    ·rename_i k2 b i t2 hv2
     have:=seqV_eq hv2; subst this
     obtain ⟨h1,k9⟩:=@cond_some ⟨E,G⟩ _ _ _ _ h
     clear h
     obtain ⟨j1,h2⟩:=band h1
     have:=Nat.eq_of_beq_eq_true h2; subst this
     split at k9
     ·rename_i x hx
      cases k9
      exact seq_match j1 (nmB_eq hx hS fun r b hm=>hr r b (.tail _ hm)) (by rw [hb _ _ (.head _)]; rfl) hv
     ·cases k9
    ·cases h
   ·split at h
    ·rename_i i t _
     obtain ⟨h1,k⟩:=@cond_some ⟨E,G⟩ _ _ _ _ h
     clear h
     obtain ⟨h1,h2⟩:=band h1
     have h1:=Nat.eq_of_beq_eq_true h1
     have h2:t < 10:=Nat.le_of_ble_eq_true h2
     cases k
     obtain ⟨g1,g2⟩:=@tag_val ⟨E,G⟩ ρ v v' hv (by omega)
     have e:=hb i v List.mem_cons_self
     exact @VR.hole ⟨F,G⟩ ρ2 i t v' (by show toV (F i)=_; rw [e]; exact g1) (by show tagU (F i)=_; rw [e]; exact g2.trans h1)
    ·exact @VR.junk ⟨F,G⟩ _ _ _ _ (fun h=>by cases h)
    ·split at h
     ·rename_i j m
      obtain ⟨h1,k⟩:=@cond_some ⟨E,G⟩ _ _ _ _ h
      clear h
      obtain ⟨h1,h2⟩:=band h1
      have h1:=sameK_eq h1
      rw [eqF'_eq] at h2
      have h2:=eq_of_beq h2
      subst h1; subst h2
      cases @inv_int ⟨E,G⟩ _ _ _ _ hv
      exact @VR.pure ⟨F,G⟩ _ _ rfl
     ·cases h
    ·split at h
     ·obtain ⟨h1,k⟩:=@cond_some ⟨E,G⟩ _ _ _ _ h
      clear h
      have h1:=eq_of_beq h1
      subst h1
      cases @inv_bool ⟨E,G⟩ _ _ _ hv
      exact @VR.pure ⟨F,G⟩ _ _ rfl
     ·cases h
    ·rename_i a _
     split at h
     ·rename_i b
      obtain ⟨h1,k⟩:=@cond_some ⟨E,G⟩ _ _ _ _ h
      clear h
      have h1:=eq_of_beq h1
      have:a=b:=by
       cases a; cases b; congr 1
       exact Array.ext' h1
      subst this
      cases @inv_str ⟨E,G⟩ _ _ _ hv
      exact @VR.pure ⟨F,G⟩ _ _ rfl
     ·cases h
    ·split at h
     ·cases hv with
      | pure _=>exact @VR.pure ⟨F,G⟩ _ _ rfl
     ·cases h
    ·split at h
     ·obtain ⟨h1,k⟩:=@cond_some ⟨E,G⟩ _ _ _ _ h
      clear h
      have h1:=Nat.eq_of_beq_eq_true h1
      subst h1
      obtain ⟨l,hl,_,rfl⟩:=@inv_ptr ⟨E,G⟩ _ _ _ hv
      exact @VR.ptr ⟨F,G⟩ _ _ _ _ (nmB_eq k hS hr _ hl)
     ·cases h
    ·split at h
     ·obtain ⟨h1,k⟩:=@cond_some ⟨E,G⟩ _ _ _ _ h
      clear h
      obtain ⟨h1,h2⟩:=band h1
      have h1:=Nat.eq_of_beq_eq_true h1
      have h2:=Nat.eq_of_beq_eq_true h2
      subst h1; subst h2
      cases hv with
      | pure _=>exact @VR.pure ⟨F,G⟩ _ _ rfl
     ·cases h
    ·split at h
     ·obtain ⟨h1,k⟩:=@cond_some ⟨E,G⟩ _ _ _ _ h
      clear h
      obtain ⟨h1,h5⟩:=band h1
      obtain ⟨h1,h3⟩:=band h1
      obtain ⟨h3,h4⟩:=band h3
      have h1:=Nat.eq_of_beq_eq_true h1
      have h3:=Nat.eq_of_beq_eq_true h3
      have h4:=Nat.eq_of_beq_eq_true h4
      subst h1; subst h3; subst h4
      cases hv with
      | pure hp=>simp [pureV] at hp
      | sl hl hm=>exact @VR.sl ⟨F,G⟩ _ _ _ _ _ _ (nmB_eq k hS hr _ hl) hm
      | op hl hm hn2 hc=>exact @VR.op ⟨F,G⟩ _ _ _ _ _ _ _ (nmB_eq k hS hr _ hl) hm hn2 hc
      | opE hs=>simp at h5
     ·cases h
    ·split at h
     ·cases hv with
      | pure _=>exact @VR.pure ⟨F,G⟩ _ _ rfl
     ·cases h
    ·split at h
     ·cases hv with
      | pure _=>exact @VR.pure ⟨F,G⟩ _ _ rfl
     ·cases h
    ·rename_i f a b _
     split at h
     ·obtain ⟨h1,k⟩:=@cond_some ⟨E,G⟩ _ _ _ _ h
      clear h
      have h1:=Nat.eq_of_beq_eq_true h1
      subst h1
      split at k
      ·rename_i x y hx hy
       cases k
       cases hv with
       | pure hp=>simp [pureV] at hp
       | func ha hb2 q1 q2 =>
         have r1:=matchL_LR hS d a _ _ x hx ⟨ha,q1⟩ (fun i u hz=>hb i u (List.mem_append.2 (.inl hz))) fun r b hz=>hr r b (List.mem_append.2 (.inl hz))
         have r2:=matchL_LR hS d b _ _ y hy ⟨hb2,q2⟩ (fun i u hz=>hb i u (List.mem_append.2 (.inr hz))) fun r b hz=>hr r b (List.mem_append.2 (.inr hz))
         exact @VR.func ⟨F,G⟩ _ _ _ _ _ _ r1.1 r2.1 r1.2 r2.2
      ·cases k
     ·cases h
    ·rename_i t u _
     split at h
     ·obtain ⟨h1,k⟩:=@cond_some ⟨E,G⟩ _ _ _ _ h
      clear h
      have h1:=Nat.eq_of_beq_eq_true h1
      subst h1
      cases hv with
      | pure hp=>simp [pureV] at hp
      | iface hv=>exact @VR.iface ⟨F,G⟩ _ _ _ _ (matchV_VR hS d u _ _ bs k hv hb hr)
     ·cases h
    ·rename_i a _
     split at h
     ·cases hv with
      | pure hp=>simp [pureV] at hp
      | agg ha q1 =>
        have r1:=matchL_LR hS d a _ _ bs h ⟨ha,q1⟩ hb hr
        exact @VR.agg ⟨F,G⟩ _ _ _ r1.1 r1.2
     ·cases h
    ·rename_i a _
     split at h
     ·cases hv with
      | pure hp=>simp [pureV] at hp
      | tuple ha q1 =>
        have r1:=matchL_LR hS d a _ _ bs h ⟨ha,q1⟩ hb hr
        exact @VR.tuple ⟨F,G⟩ _ _ _ r1.1 r1.2
     ·cases h
    ·split at h
     ·obtain ⟨l,hl,rfl⟩:=@inv_yv ⟨E,G⟩ _ _ _ hv
      exact @VR.yv ⟨F,G⟩ _ _ _ (nmB_eq h hS hr _ hl)
     ·cases h
    ·cases h
theorem matchL_LR {gl:Nat} {E F:Nat→U} {ρ ρ2:Ren} (hS:∀ g l,g < gl→ρ g=some l→ρ2 g=some l):∀ (d:Nat) (ps vs vs':List Value) (bs:List Bn),matchL gl d ps vs=some bs→@LR ⟨E,G⟩ ρ vs vs'→(∀ i u,Bn.h i u ∈ bs→F i=argU E u)→(∀ r b,Bn.r r b ∈ bs→∀ l,ρ b=some l→ρ2 r=some l)→@LR ⟨F,G⟩ ρ2 ps vs'
 | 0,ps,vs,vs',bs,h,_,_,_=>by simp [matchL] at h
 | d+1,[],[],vs',bs,h,hv,_,_=>by
   rw [@LR.nil_inv ⟨E,G⟩ _ _ hv]; exact @LR.nil ⟨F,G⟩ _
 | d+1,p::ps,v::vs,vs',bs,h,hv,hb,hr=>by
   obtain ⟨v',r',rfl,h1,h2⟩:=@LR.tail ⟨E,G⟩ _ _ _ _ hv
   unfold matchL at h
   split at h
   ·rename_i x y hx hy
    cases h
    exact @LR.cons ⟨F,G⟩ _ _ _ _ _ (matchV_VR hS d p v v' x hx h1 (fun i u hz=>hb i u (List.mem_append.2 (.inl hz))) fun r b hz=>hr r b (List.mem_append.2 (.inl hz)))
     (matchL_LR hS d ps vs r' y hy h2 (fun i u hz=>hb i u (List.mem_append.2 (.inr hz))) fun r b hz=>hr r b (List.mem_append.2 (.inr hz)))
   ·cases h
 | d+1,[],_::_,_,_,h,_,_,_=>by simp [matchL] at h
 | d+1,_::_,[],_,_,h,_,_,_=>by simp [matchL] at h
end
mutual
theorem shiftV_VR {E F:Nat→U} {ρ ρ2:Ren} {S:Nat→Bool} {nx:Nat} {τ:Nat→Nat} (hS:∀ b l,S b=true→ρ b=some l→ρ2 (τ b)=some l) (hF:∀ i,F i=E (nx+i)):∀ (d:Nat) (p v':Value),namesV S d p=true→@VR ⟨F,G⟩ ρ p v'→@VR ⟨E,G⟩ ρ2 (shiftV nx τ d p) v'
 | 0,p,v',hn,_=>by simp [namesV] at hn
 | d+1,p,v',hn,hv=>by
   cases hv with
   | pure hp =>
     have:shiftV nx τ (d+1) p=p:=by
      cases p <;> simp only [pureV] at hp <;> first
       | rfl
       | cases hp
       | (rename_i a; cases a <;> first|rfl|cases hp)
       | (rename_i a _ _; cases a <;> first|rfl|cases hp)
     rw [this]; exact @VR.pure ⟨E,G⟩ _ _ hp
   | hole h1 h2 =>
     rename_i i t
     have:shiftV nx τ (d+1) (.complex .f64 i t)=.complex .f64 (nx+i) t:=by simp [shiftV,seqV,forceN_eq]
     rw [this]
     exact @VR.hole ⟨E,G⟩ ρ2 (nx+i) t v' (by show toV (E (nx+i))=_; rw [← hF]; exact h1) (by show tagU (E (nx+i))=_; rw [← hF]; exact h2)
   | junk h=>exact @VR.junk ⟨E,G⟩ _ _ _ _ h
   | ixp h1 h2 h3 h4 h5=>simp [ixp,namesV,seqV,pureV] at hn
   | dpt=>simp [dpt,namesV,seqV,pureV] at hn
   | opt=>simp [opt,namesV,seqV,pureV] at hn
   | dat h1 h2 h3 h4 h5 =>
     rename_i b i t l
     obtain ⟨n1,_⟩:=band (show (S b && _)=true from hn)
     have:shiftV nx τ (d+1) (dat b i t)=dat (τ b) (nx+i) t:=by simp [shiftV,seqV,dat,mkSeq,forceN_eq]
     rw [this]
     exact @VR.dat ⟨E,G⟩ _ _ _ _ _ _ (hS _ _ n1 h1) (by show Enc _ (E (nx+i)) _; rw [← hF]; exact h2) (by show tagU (E (nx+i))=_; rw [← hF]; exact h3) h4 h5
   | clp h1 h2 h3 h4 h5 h6 =>
     rename_i b i t l
     obtain ⟨n1,_⟩:=band (show (S b && _)=true from hn)
     have:shiftV nx τ (d+1) (clp b i t)=clp (τ b) (nx+i) t:=by simp [shiftV,seqV,clp,mkSeq,forceN_eq]
     rw [this]
     exact @VR.clp ⟨E,G⟩ _ _ _ _ _ _ (hS _ _ n1 h1) (by show Enc _ (E (nx+i)) _; rw [← hF]; exact h2) (by show tagU (E (nx+i))=_; rw [← hF]; exact h3) h4 h5 h6
   | own h1 h2 h3 =>
     rename_i b i t
     obtain ⟨n1,_⟩:=band (show (S b && _)=true from hn)
     have:shiftV nx τ (d+1) (own b i t)=own (τ b) (nx+i) t:=by simp [shiftV,seqV,own,mkSeq,forceN_eq]
     rw [this]
     refine @VR.own ⟨E,G⟩ _ _ _ _ _ ?_ (by show tagU (E (nx+i))=_; rw [← hF]; exact h2) h3
     show ownR ρ2 (τ b) (E (nx+i)) v'
     rw [← hF]
     exact h1.imp (fun ⟨l,w,a,b⟩=>⟨l,w,hS _ _ n1 a,b⟩) fun ⟨l,w,rows,a,b⟩=>⟨l,w,rows,hS _ _ n1 a,b⟩
   | ptr h1 =>
     rename_i b o l
     have:shiftV nx τ (d+1) (.pointer (some ⟨b,o,none⟩))=.pointer (some ⟨τ b,o,none⟩):=by simp [shiftV,seqV,forceN_eq]
     rw [this]
     exact @VR.ptr ⟨E,G⟩ _ _ _ _ (hS _ _ hn h1)
   | sl h1 hm =>
     rename_i b o l n m
     obtain ⟨n1,_⟩:=band (show (S b && _)=true from hn)
     have:shiftV nx τ (d+1) (.slice (some ⟨b,o,none⟩) n m)=.slice (some ⟨τ b,o,none⟩) n m:=by simp [shiftV,seqV,forceN_eq]
     rw [this]
     exact @VR.sl ⟨E,G⟩ _ _ _ _ _ _ (hS _ _ n1 h1) hm
   | op h1 hm hn2 hc =>
     rename_i b o l n m m'
     obtain ⟨n1,_⟩:=band (show (S b && _)=true from hn)
     have:shiftV nx τ (d+1) (.slice (some ⟨b,o,none⟩) n m)=.slice (some ⟨τ b,o,none⟩) n m:=by simp [shiftV,seqV,forceN_eq]
     rw [this]
     exact @VR.op ⟨E,G⟩ _ _ _ _ _ _ _ (hS _ _ n1 h1) hm hn2 hc
   | opE hs =>
     rename_i a _ _
     obtain ⟨_,n1⟩:=band (show (S a.block && _)=true from hn)
     simp at n1
   | map h1=>simp [namesV,seqV,pureV] at hn
   | sdt h1=>simp [sdt,namesV,seqV,pureV] at hn
   | yv h1 =>
     rename_i b l
     have:shiftV nx τ (d+1) (yv b)=yv (τ b):=by simp [shiftV,seqV,yv,forceN_eq]
     rw [this]
     exact @VR.yv ⟨E,G⟩ _ _ _ (hS _ _ (by simpa [namesV,seqV,yv] using hn) h1)
   | func ha hb q1 q2 =>
     rename_i f a b a' b'
     obtain ⟨n1,n2⟩:=band (show (namesL S d a && namesL S d b)=true by simpa [namesV,seqV] using hn)
     have r1:=shiftL_LR hS hF d a a' n1 ⟨ha,q1⟩
     have r2:=shiftL_LR hS hF d b b' n2 ⟨hb,q2⟩
     have:shiftV nx τ (d+1) (.func (.func f) ⟨a⟩ ⟨b⟩)=.func (.func f) ⟨shiftL nx τ d a⟩ ⟨shiftL nx τ d b⟩:=by simp [shiftV,seqV,forceL_eq]
     rw [this]
     exact @VR.func ⟨E,G⟩ _ _ _ _ _ _ r1.1 r2.1 r1.2 r2.2
   | iface hv=>exact @VR.iface ⟨E,G⟩ _ _ _ _ (shiftV_VR hS hF d _ _ hn hv)
   | agg ha q1 =>
     rename_i a a'
     have r1:=shiftL_LR hS hF d a a' hn ⟨ha,q1⟩
     have:shiftV nx τ (d+1) (.agg ⟨a⟩)=.agg ⟨shiftL nx τ d a⟩:=by simp [shiftV,seqV,forceL_eq]
     rw [this]
     exact @VR.agg ⟨E,G⟩ _ _ _ r1.1 r1.2
   | tuple ha q1 =>
     rename_i a a'
     have r1:=shiftL_LR hS hF d a a' hn ⟨ha,q1⟩
     have:shiftV nx τ (d+1) (.tuple ⟨a⟩)=.tuple ⟨shiftL nx τ d a⟩:=by simp [shiftV,seqV,forceL_eq]
     rw [this]
     exact @VR.tuple ⟨E,G⟩ _ _ _ r1.1 r1.2
theorem shiftL_LR {E F:Nat→U} {ρ ρ2:Ren} {S:Nat→Bool} {nx:Nat} {τ:Nat→Nat} (hS:∀ b l,S b=true→ρ b=some l→ρ2 (τ b)=some l) (hF:∀ i,F i=E (nx+i)):∀ (d:Nat) (ps vs':List Value),namesL S d ps=true→@LR ⟨F,G⟩ ρ ps vs'→@LR ⟨E,G⟩ ρ2 (shiftL nx τ d ps) vs'
 | 0,ps,vs',hn,_=>by simp [namesL] at hn
 | d+1,[],vs',hn,hv=>by rw [@LR.nil_inv ⟨F,G⟩ _ _ hv]; exact @LR.nil ⟨E,G⟩ _
 | d+1,p::ps,vs',hn,hv=>by
   obtain ⟨v',r',rfl,h1,h2⟩:=@LR.tail ⟨F,G⟩ _ _ _ _ hv
   obtain ⟨n1,n2⟩:=band (show (namesV S d p && namesL S d ps)=true from hn)
   exact @LR.cons ⟨E,G⟩ _ _ _ _ _ (shiftV_VR hS hF d p v' n1 h1) (shiftL_LR hS hF d ps r' n2 h2)
end
end
end Go.Sx

namespace Go.Sx
set_option linter.all false
open Go
set_option linter.unusedVariables false
set_option linter.unusedSimpArgs false
inductive PB where
 | cells (T:TypeId) (cs:List Value)
 | sq (h t:Nat) (T:TypeId) (g:Nat)
 | lp (f:FuncId) (q:List Bool) (vs:List Value) (st:Nat)
 | frz
abbrev Slots:=List (Nat × Value)
abbrev Blks:=List (Nat × PB)
structure LoopX where
 ex:Ex
 sl:Slots
 bl:Blks
 n:Nat
structure LoopD where
 hs:Slots
 hb:Blks
 k:Nat
 xs:List LoopX
def PB.mv:PB→Bool
 | .cells _ _=>false
 | .lp _ _ _ _=>false
 | _=>true
def PB.rw:PB→Bool
 | .frz=>false
 | _=>true
def PB.ab (nx:Nat) (τ:Nat→Nat):PB→AB
 | .cells T cs=>.cells (shiftL nx τ DEP cs) T false
 | .sq h t T g=>forceN (nx+h) fun h=>forceN (τ g) fun g=>.sq h t T g false
 | .lp f q vs st=>.lp f q (shiftL nx τ DEP vs) st
 | .frz=>.frz
def PB.names (S:Nat→Bool):PB→Bool
 | .cells _ cs=>namesL S DEP cs
 | .sq _ _ _ g=>S g
 | .lp _ _ vs _=>namesL S DEP vs
 | .frz=>true
theorem PB.mv_rw {p:PB} (h:p.mv=false):p.rw=true:=by cases p <;> first|rfl|cases h
def eqQ:List Bool→List Bool→Bool
 | [],[]=>true
 | a::r,b::s=>(a == b) && eqQ r s
 | _,_=>false
theorem eqQ_eq:∀ {a b:List Bool},eqQ a b=true→a=b
 | [],[],_=>rfl
 | a::r,b::s,h=>by
   obtain ⟨h1,h2⟩:=band (show ((a == b) && eqQ r s)=true from h)
   rw [eq_of_beq h1,eqQ_eq h2]
 | [],_::_,h=>by cases h
 | _::_,[],h=>by cases h
def lookB:Blks→Nat→Option PB
 | [],_=>none
 | (k,v)::r,t=>bif Nat.beq k t then some v else lookB r t
def prepV (P:Program) (bl:Blks) (p v:Value) (m:Mem):Res :=
 match seqV p with
 | some (4,r,_,t)=>match lookB bl r with
   | some (.sq _ _ T _)=>ownN (tdP P) P m T (t - 10) v
   | _=>none
 | some (2,_,_,t)=>match tdP P t v m with
   | some (.complex .f64 i _,b,m)=>bif Nat.ble 10 t then some (dat b i t,m) else none
   | _=>none
 | some _=>some (v,m)
 | none=>some (v,m)
def prepS (P:Program) (bl:Blks):Slots→Fr→Mem→Option (Fr × Mem)
 | [],fr,m=>some (fr,m)
 | (t,p)::r,fr,m=>match seqV p with
   | none=>prepS P bl r fr m
   | some _=>match prepV P bl p (fr.get t) m with
     | some (v,m)=>prepS P bl r (fr.set t v) m
     | none=>none
def prepC (P:Program) (bl:Blks):List Value→List Value→Mem→Option (List Value × Mem)
 | p::ps,v::vs,m=>match prepV P bl p v m with
   | some (v,m)=>match prepC P bl ps vs m with
     | some (r,m)=>some (v::r,m)
     | none=>none
   | none=>none
 | [],[],m=>some ([],m)
 | _,_,_=>none
def anySeq (cs:List Value):Bool:=cs.any fun p=>(seqV p).isSome
def bindS (gl:Nat) (fr:Fr):Slots→Option (List Bn)
 | []=>some []
 | (t,p)::r=>match matchV gl DEP p (fr.get t),bindS gl fr r with
   | some a,some b=>some (a++b)
   | _,_=>none
def lookR:List Bn→Nat→Option Nat
 | [],_=>none
 | .r k b::r,x=>bif Nat.beq k x then some b else lookR r x
 | .h _ _::r,x=>lookR r x
def bind1 (gl:Nat) (H:Hp AB) (p:PB) (b:Nat):Option (List Bn) :=
 match p with
 | .cells T cs=>match Hp.get H b with
   | some (.cells vs T2 false)=>bif Nat.beq T T2 then matchL gl DEP cs vs else none
   | _=>none
 | .sq h t T g=>match Hp.get H b with
   | some (.sq c t2 T2 g2 false)=>bif Nat.beq t t2 && Nat.beq T T2 then some [.h h (hole c t),.r g g2] else none
   | _=>none
 | .lp f q vs st=>match Hp.get H b with
   | some (.lp f2 q2 vs2 st2)=>bif (Nat.beq f f2 && eqQ q q2) && Nat.beq st st2 then matchL gl DEP vs vs2 else none
   | _=>none
 | .frz=>match Hp.get H b with
   | some .frz=>some []
   | _=>none
def extB (gl:Nat) (H:Hp AB) (r:Nat) (p:PB) (bs:List Bn):List Bn :=
 match lookR bs r with
 | some b=>match bind1 gl H p b with
   | some x=>bs++x
   | none=>bs
 | none=>bs
def prepB (P:Program) (gl:Nat) (bl:Blks):List Bn→Blks→Mem→Option Mem
 | _,[],m=>some m
 | bs,(r,.cells T cs)::rest,m=>bif anySeq cs then (match lookR bs r with
   | some b=>match Hp.get m.H b with
     | some (.cells vs _ false)=>match prepC P bl cs vs m with
       | some (vs,m)=>match Hp.get m.H b with
         | some (.cells _ T2 false)=>bif Nat.ble b most then match setM m b (.cells vs T2 false) with
           | some m=>prepB P gl bl (extB gl m.H r (.cells T cs) bs) rest m
           | none=>none else none
         | _=>none
       | none=>none
     | _=>none
   | none=>none) else prepB P gl bl (extB gl m.H r (.cells T cs) bs) rest m
 | bs,(r,p)::rest,m=>prepB P gl bl (extB gl m.H r p bs) rest m
def prepA (P:Program) (gl:Nat) (bl:Blks) (sl:Slots) (fr:Fr) (m:Mem):Option (Fr × Mem) :=
 match prepS P bl sl fr m with
 | some (fr,m)=>bif bl.any (fun x=>match x.2 with|.cells _ cs=>anySeq cs|_=>false) then (match bindS gl fr sl with
   | some bs=>match prepB P gl bl bs bl m with
     | some m=>some (fr,m)
     | none=>none
   | none=>none) else some (fr,m)
 | none=>none
def bindB (gl:Nat) (H:Hp AB):Blks→List Bn→Option (List Bn)
 | [],bs=>some bs
 | (r,p)::rest,bs=>match lookR bs r with
   | some b=>bif Nat.ble b most then match bind1 gl H p b with
     | some x=>bindB gl H rest (bs++x)
     | none=>none else none
   | none=>none
def holesB:List Bn→Nat→List Value
 | [],_=>[]
 | .h i v::r,k=>bif Nat.beq i k then v::holesB r (Nat.succ k) else holesB r k
 | .r _ _::r,k=>holesB r k
def sameU:Value→Value→Bool
 | .complex .f64 i _,.complex .f64 j _=>Nat.beq i j
 | .int k a,.int j b=>sameK k j && eqF' a b
 | .bool a,.bool b=>a == b
 | .string a,.string b=>a.data.toList == b.data.toList
 | _,_=>false
def bnOk (nm:List Nat) (xs:List Value) (bs:List Bn):Bn→Bool
 | .h i v=>match xs[i]? with
   | some u=>sameU u v
   | none=>false
 | .r r b=>hasN nm r && match lookR bs r with
   | some c=>Nat.beq c b
   | none=>false
def lookN (bs:List Bn) (r:Nat):Nat :=
 match lookR bs r with
 | some b=>b
 | none=>0
def nms (bl:Blks):List Nat:=bl.map (·.1)
def injB (bl:Blks) (bs:List Bn):Bool:=bl.all fun x=>!x.2.rw || bl.all fun y=>Nat.beq x.1 y.1 || !(Nat.beq (lookN bs x.1) (lookN bs y.1))
def bindH (gl:Nat) (fr:Fr) (H:Hp AB) (sl:Slots) (bl:Blks):Option (List Value × List Bn) :=
 match bindS gl fr sl with
 | some a=>match bindB gl H bl a with
   | some bs=>bif bs.all (bnOk (nms bl) (holesB bs 0) bs) && injB bl bs then some (holesB bs 0,bs) else none
   | none=>none
 | none=>none
def junkFr:Fr:=all8 (all8 (all8 junk))
def frOf (nx:Nat) (τ:Nat→Nat):Slots→Fr
 | []=>junkFr
 | (t,p)::r=>(frOf nx τ r).set t (shiftV nx τ DEP p)
def putB (nx:Nat) (τ:Nat→Nat):Blks→Hp AB→Hp AB
 | [],H=>H
 | (b,p)::r,H=>(putB nx τ r H).set (τ b) (some (p.ab nx τ))
def killB (bs:List Bn):Blks→Hp AB→Hp AB
 | [],H=>H
 | (b,p)::r,H=>bif p.rw then (killB bs r H).set (lookN bs b) none else killB bs r H
def wBn (bs:List Bn):Blks→List Nat
 | []=>[]
 | (b,p)::r=>bif p.rw then forceN (lookN bs b) fun n=>n::wBn bs r else wBn bs r
def pickX (xs:List LoopX) (pi:List Nat):Option (Nat × (LoopX × List Nat)) :=
 match xs with
 | [X]=>some (0,(X,pi))
 | xs=>match pi with
   | d::r=>match xs[d]? with
     | some X=>some (d,(X,r))
     | none=>none
   | []=>none
def tauX (gl n0 n:Nat) (bs:List Bn) (bl:Blks) (b:Nat):Nat :=
 bif Nat.blt b gl then b else match lookB bl b with
 | some p=>bif p.mv then n+(b - n0) else lookN bs b
 | none=>n+(b - n0)
def maxN (a b:Nat):Nat:=bif Nat.ble a b then b else a
def idN (b:Nat):Nat:=b
def ownS (fr0 fr:Fr):Fr:=(fr.set 510 (fr0.get 510)).set 511 (fr0.get 511)
def loopF (P:Program) (gl n0 nB:Nat) (L:LoopD) (spec:Spec) (s:S):Option (Ex × S) :=
 match prepA P gl L.hb L.hs s.fr s.m with
 | some (fr,⟨H,n,W,hi,⟨nx,pi,log⟩⟩)=>match bindH gl fr H L.hs L.hb,pickX L.xs pi with
   | some (xs,bs),some (d,(X,pi))=>bif Nat.ble (n+(nB - n0)) most then
     forceN nx fun nx=>forceL xs fun xs=>forceN (nx+X.n) fun nx'=>forceN (n+(nB - n0)) fun n'=>forceN (maxN hi n') fun hi' =>
     some (X.ex,⟨ownS s.fr (frOf nx (tauX gl n0 n bs L.hb) X.sl),⟨putB nx (tauX gl n0 n bs L.hb) X.bl (killB bs L.hb H),n',wBn bs L.hb++W,hi',⟨nx',pi,.con spec xs nx d X.n::log⟩⟩⟩) else none
   | _,_=>none
 | none=>none
def lookS:Slots→Nat→Option Value
 | [],_=>none
 | (k,v)::r,t=>if k=t then some v else lookS r t
theorem junkFr_get (t:Nat):junkFr.get t=junk:=by
 unfold Fr.get junkFr
 have h:∀ (d:Nat) {α:Type} (v:α),d < 8→(sel d).get (all8 v)=v:=fun d α v hd=>by
  match d,hd with
  | 0,_|1,_|2,_|3,_|4,_|5,_|6,_|7,_=>rfl
 rw [h _ _ (m8 _),h _ _ (m8 _),h _ _ (m8 _)]
theorem frOf_get {nx:Nat} {τ:Nat→Nat}:∀ {sl:Slots},(∀ x ∈ sl,x.1 < 512)→∀ t,t < 512→(frOf nx τ sl).get t=match lookS sl t with
  | some p=>shiftV nx τ DEP p
  | none=>junk
 | [],_,t,_=>junkFr_get t
 | (k,p)::r,h,t,ht=>by
   rw [frOf,fr_get_set _ _ _ _ (h (k,p) List.mem_cons_self) ht,frOf_get (fun x hx=>h x (List.mem_cons_of_mem _ hx)) t ht]
   by_cases e:t=k
   ·subst e; simp [lookS]
   ·rw [if_neg e,lookS,if_neg (fun h=>e h.symm)]
theorem ownS_get (fr0 fr:Fr):(∀ t,t < 510→(ownS fr0 fr).get t=fr.get t)∧(ownS fr0 fr).get 510=fr0.get 510∧(ownS fr0 fr).get 511=fr0.get 511:=by
 unfold ownS
 refine ⟨fun t ht=>?_,?_,?_⟩
 ·rw [fr_get_set _ _ _ _ (by decide) (by omega),if_neg (by omega),fr_get_set _ _ _ _ (by decide) (by omega),if_neg (by omega)]
 ·rw [fr_get_set _ _ _ _ (by decide) (by decide),if_neg (by decide),fr_get_set _ _ _ _ (by decide) (by decide),if_pos rfl]
 ·rw [fr_get_set _ _ _ _ (by decide) (by decide),if_pos rfl]
theorem lookS_mem:∀ {sl:Slots} {t:Nat} {p:Value},lookS sl t=some p→(t,p) ∈ sl
 | (k,v)::r,t,p,h=>by
   rw [lookS] at h
   split at h
   ·rename_i e; subst e; cases h; exact .head _
   ·exact .tail _ (lookS_mem h)
theorem lookB_mem:∀ {bl:Blks} {t:Nat} {p:PB},lookB bl t=some p→(t,p) ∈ bl
 | (k,v)::r,t,p,h=>by
   rw [lookB] at h
   cases e:Nat.beq k t with
   | true=>rw [e] at h; cases h; rw [Nat.eq_of_beq_eq_true e]; exact .head _
   | false=>rw [e] at h; exact .tail _ (lookB_mem h)
theorem lookB_none:∀ {bl:Blks} {t:Nat},lookB bl t=none→t ∉ nms bl
 | [],_,_,h=>by simp [nms] at h
 | (k,v)::r,t,h,hm=>by
   rw [lookB] at h
   cases e:Nat.beq k t with
   | true=>rw [e] at h; cases h
   | false =>
     rw [e] at h
     rcases List.mem_cons.1 hm with h1|h1
     ·have h1:t=k:=h1
      subst h1; simp at e
     ·exact lookB_none h h1
theorem mem_nms {bl:Blks} {b:Nat} (h:b ∈ nms bl):∃ p,(b,p) ∈ bl:=by
 obtain ⟨x,h1,h2⟩:=List.mem_map.1 h
 exact ⟨x.2,h2 ▸ h1⟩
theorem nms_mem {bl:Blks} {b:Nat} {p:PB} (h:(b,p) ∈ bl):b ∈ nms bl:=List.mem_map.2 ⟨_,h,rfl⟩
theorem nms_one:∀ {bl:Blks},(nms bl).Nodup→∀ {b:Nat} {p q:PB},(b,p) ∈ bl→(b,q) ∈ bl→p=q
 | (k,v)::r,hn,b,p,q,h1,h2=>by
   have hn:(k::nms r).Nodup:=hn
   obtain ⟨hk,hr⟩:=List.nodup_cons.1 hn
   rcases List.mem_cons.1 h1 with h1|h1 <;> rcases List.mem_cons.1 h2 with h2|h2
   ·cases h1; cases h2; rfl
   ·cases h1; exact absurd (nms_mem h2) hk
   ·cases h2; exact absurd (nms_mem h1) hk
   ·exact nms_one hr h1 h2
theorem lookB_some {bl:Blks} (hn:(nms bl).Nodup) {b:Nat} {p:PB} (h:(b,p) ∈ bl):lookB bl b=some p:=by
 cases hl:lookB bl b with
 | none=>exact absurd (nms_mem h) (lookB_none hl)
 | some q=>rw [nms_one hn h (lookB_mem hl)]
theorem putB_get {nx:Nat} {τ:Nat→Nat} {H:Hp AB}:∀ {bl:Blks},(nms bl).Nodup→(∀ x ∈ bl,τ x.1≤most)→(∀ x ∈ nms bl,∀ y ∈ nms bl,τ x=τ y→x=y)→∀ b,b≤most→((∃ x p,(x,p) ∈ bl∧b=τ x∧Hp.get (putB nx τ bl H) b=some (p.ab nx τ))∨((∀ x ∈ nms bl,b≠τ x)∧Hp.get (putB nx τ bl H) b=Hp.get H b))
 | [],_,_,_,b,_=>.inr ⟨fun x hx=>(nomatch hx),rfl⟩
 | (k,p)::r,hn,h,hi,b,hb=>by
   have hn:(k::nms r).Nodup:=hn
   obtain ⟨hk,hr⟩:=List.nodup_cons.1 hn
   have ih:=putB_get (nx:=nx) (τ:=τ) (H:=H) (bl:=r) hr (fun x hx=>h x (.tail _ hx)) (fun x hx y hy=>hi x (.tail _ hx) y (.tail _ hy)) b hb
   have e:Hp.get (putB nx τ ((k,p)::r) H) b=if b=τ k then some (p.ab nx τ) else Hp.get (putB nx τ r H) b:=by rw [putB,hp_get_set _ _ _ _ (h (k,p) (.head _)) hb]
   by_cases hbk:b=τ k
   ·exact .inl ⟨k,p,.head _,hbk,by rw [e,if_pos hbk]⟩
   ·rw [e,if_neg hbk]
    rcases ih with ⟨x,q,h1,h2,h3⟩|⟨h1,h2⟩
    ·exact .inl ⟨x,q,.tail _ h1,h2,h3⟩
    ·refine .inr ⟨fun x hx=>?_,h2⟩
     rcases List.mem_cons.1 hx with rfl|hx
     ·exact hbk
     ·exact h1 x hx
theorem killB_get {bs:List Bn} {H:Hp AB}:∀ {bl:Blks},(∀ x ∈ bl,lookN bs x.1≤most)→∀ b,b≤most→(((∃ x ∈ bl,x.2.rw=true∧b=lookN bs x.1)∧Hp.get (killB bs bl H) b=none)∨((∀ x ∈ bl,x.2.rw=true→b≠lookN bs x.1)∧Hp.get (killB bs bl H) b=Hp.get H b))
 | [],_,b,_=>.inr ⟨fun x hx=>(nomatch hx),rfl⟩
 | (k,p)::r,h,b,hb=>by
   have ih:=killB_get (bs:=bs) (H:=H) (bl:=r) (fun x hx=>h x (.tail _ hx)) b hb
   cases hp:p.rw with
   | false =>
     have e:killB bs ((k,p)::r) H=killB bs r H:=by rw [killB,hp]; rfl
     rw [e]
     refine ih.imp (fun ⟨⟨x,h1,h2⟩,h3⟩=>⟨⟨x,.tail _ h1,h2⟩,h3⟩) fun ⟨h1,h2⟩=>⟨fun x hx hrw=>?_,h2⟩
     rcases List.mem_cons.1 hx with rfl|hx
     ·rw [show (k,p).2.rw=p.rw from rfl,hp] at hrw; cases hrw
     ·exact h1 x hx hrw
   | true =>
     have e:Hp.get (killB bs ((k,p)::r) H) b=if b=lookN bs k then none else Hp.get (killB bs r H) b:=by rw [killB,hp]; exact hp_get_set _ _ _ _ (h (k,p) (.head _)) hb
     rw [e]
     by_cases hbk:b=lookN bs k
     ·exact .inl ⟨⟨(k,p),.head _,hp,hbk⟩,if_pos hbk⟩
     ·rw [if_neg hbk]
      refine ih.imp (fun ⟨⟨x,h1,h2⟩,h3⟩=>⟨⟨x,.tail _ h1,h2⟩,h3⟩) fun ⟨h1,h2⟩=>⟨fun x hx hrw=>?_,h2⟩
      rcases List.mem_cons.1 hx with rfl|hx
      ·exact hbk
      ·exact h1 x hx hrw
theorem mem_wBn {bs:List Bn} {b:Nat}:∀ {bl:Blks},b ∈ wBn bs bl↔∃ x ∈ bl,x.2.rw=true∧b=lookN bs x.1
 | []=>by simp [wBn]
 | (k,p)::r=>by
   have ih:=mem_wBn (bs:=bs) (b:=b) (bl:=r)
   unfold wBn
   cases hp:p.rw with
   | false =>
     simp only [cond_false]
     rw [ih]
     constructor
     ·rintro ⟨x,h1,h2⟩; exact ⟨x,.tail _ h1,h2⟩
     ·rintro ⟨x,h1,h2,h3⟩
      rcases List.mem_cons.1 h1 with rfl|h1
      ·rw [show (k,p).2.rw=p.rw from rfl,hp] at h2; cases h2
      ·exact ⟨x,h1,h2,h3⟩
   | true =>
     simp only [cond_true,forceN_eq,List.mem_cons]
     rw [ih]
     constructor
     ·rintro (h|⟨x,h1,h2⟩)
      ·exact ⟨(k,p),.inl rfl,hp,h⟩
      ·exact ⟨x,.inr h1,h2⟩
     ·rintro ⟨x,h1|h1,h2,h3⟩
      ·subst h1; exact .inl h3
      ·exact .inr ⟨x,h1,h2,h3⟩
theorem PB.ab_rw (nx:Nat) (τ:Nat→Nat) (p:PB):(p.ab nx τ).rw=p.rw:=by cases p <;> simp [PB.ab,PB.rw,AB.rw,forceN_eq]
theorem bindS_mem {gl:Nat} {fr:Fr}:∀ {sl:Slots} {bs:List Bn},bindS gl fr sl=some bs→∀ x ∈ sl,∃ a,matchV gl DEP x.2 (fr.get x.1)=some a∧∀ y ∈ a,y ∈ bs
 | [],_,_,x,hx=>by cases hx
 | (t,p)::r,bs,h,x,hx=>by
   unfold bindS at h
   split at h
   ·rename_i a b ha hb
    cases h
    rcases List.mem_cons.1 hx with rfl|hx
    ·exact ⟨a,ha,fun y hy=>List.mem_append.2 (.inl hy)⟩
    ·obtain ⟨c,h1,h2⟩:=bindS_mem hb x hx
     exact ⟨c,h1,fun y hy=>List.mem_append.2 (.inr (h2 y hy))⟩
   ·cases h
theorem lookR_append {a b:List Bn} {r x:Nat} (h:lookR a r=some x):lookR (a++b) r=some x:=by
 induction a with
 | nil=>cases h
 | cons y t ih =>
   cases y with
   | h i v=>exact ih h
   | r k c =>
     rw [List.cons_append,lookR]
     rw [lookR] at h
     cases e:Nat.beq k r with
     | true=>rw [e] at h; exact h
     | false=>rw [e] at h; exact ih h
theorem bindB_mem {gl:Nat} {H:Hp AB}:∀ {bl:Blks} {as bs:List Bn},bindB gl H bl as=some bs→(∀ y ∈ as,y ∈ bs)∧(∀ r x,lookR as r=some x→lookR bs r=some x) ∧
  ∀ x ∈ bl,∃ b a,lookR bs x.1=some b∧b≤most∧bind1 gl H x.2 b=some a∧∀ y ∈ a,y ∈ bs
 | [],as,bs,h=>by
   cases h; exact ⟨fun _ h=>h,fun _ _ h=>h,fun x hx=>by cases hx⟩
 | (r,p)::rest,as,bs,h=>by
   unfold bindB at h
   split at h
   ·rename_i b hb
    cases hq:Nat.ble b most with
    | false=>rw [hq] at h; cases h
    | true =>
      rw [hq] at h
      simp only [cond_true] at h
      split at h
      ·rename_i x hx
       obtain ⟨h1,h2,h3⟩:=bindB_mem h
       refine ⟨fun y hy=>h1 y (List.mem_append.2 (.inl hy)),fun r' x' hx'=>h2 r' x' (lookR_append hx'),fun z hz=>?_⟩
       rcases List.mem_cons.1 hz with rfl|hz
       ·exact ⟨b,x,h2 _ _ (lookR_append hb),Nat.le_of_ble_eq_true hq,hx,fun y hy=>h1 y (List.mem_append.2 (.inr hy))⟩
       ·exact h3 z hz
      ·cases h
   ·cases h
theorem lookN_of {bs:List Bn} {r b:Nat} (h:lookR bs r=some b):lookN bs r=b:=by unfold lookN; rw [h]
theorem sameU_eq {u v:Value} (h:sameU u v=true) (E:Nat→U):argU E u=argU E v:=by
 unfold sameU at h
 split at h
 ·rw [show argU E _=E _ from rfl,Nat.eq_of_beq_eq_true h]; rfl
 ·obtain ⟨h1,h2⟩:=band h
  rw [eqF'_eq] at h2
  rw [sameK_eq h1,eq_of_beq h2]
 ·rw [eq_of_beq h]
 ·have h1:=eq_of_beq h
  simp only [argU,h1]
 ·cases h
structure Met (gl:Nat) (fr:Fr) (H:Hp AB) (sl:Slots) (bl:Blks) (xs:List Value) (bs:List Bn):Prop where
 h:∀ (E:Nat→U) i v,Bn.h i v ∈ bs→(xs.map (argU E))[i]? = some (argU E v)
 r:∀ r b,Bn.r r b ∈ bs→r ∈ nms bl∧lookN bs r=b
 ms:∀ x ∈ sl,∃ a,matchV gl DEP x.2 (fr.get x.1)=some a∧∀ y ∈ a,y ∈ bs
 mb:∀ x ∈ bl,∃ a,lookN bs x.1≤most∧bind1 gl H x.2 (lookN bs x.1)=some a∧∀ y ∈ a,y ∈ bs
 inj:∀ x ∈ bl,x.2.rw=true→∀ y ∈ bl,lookN bs x.1=lookN bs y.1→x.1=y.1
theorem bindH_eq {gl:Nat} {fr:Fr} {H:Hp AB} {sl:Slots} {bl:Blks} {xs:List Value} {bs:List Bn} (h:bindH gl fr H sl bl=some (xs,bs)):Met gl fr H sl bl xs bs:=by
 unfold bindH at h
 split at h
 ·rename_i a ha
  split at h
  ·rename_i bs' hb
   cases hq:bs'.all (bnOk (nms bl) (holesB bs' 0) bs') && injB bl bs' with
   | false=>rw [hq] at h; cases h
   | true =>
     rw [hq] at h
     cases h
     obtain ⟨q1,q2⟩:=band hq
     obtain ⟨k1,k2,k3⟩:=bindB_mem hb
     have hall:=List.all_eq_true.1 q1
     refine ⟨fun E i v hm=>?_,fun r b hm=>?_,fun x hx=>?_,fun x hx=>?_,fun x hx hrw y hy he=>?_⟩
     ·have:=hall _ hm
      unfold bnOk at this
      simp only at this
      split at this
      ·rename_i u hu
       rw [List.getElem?_map,hu]
       exact congrArg some (sameU_eq this E)
      ·cases this
     ·have:=hall _ hm
      unfold bnOk at this
      obtain ⟨j1,j2⟩:=band this
      split at j2
      ·rename_i c hc
       exact ⟨(@hasN_iff ⟨fun _=>.none,fun _=>none⟩ _ _).1 j1,(lookN_of hc).trans (Nat.eq_of_beq_eq_true j2)⟩
      ·cases j2
     ·obtain ⟨c,h1,h2⟩:=bindS_mem ha x hx
      exact ⟨c,h1,fun y hy=>k1 y (h2 y hy)⟩
     ·obtain ⟨b,c,h1,h2,h3,h4⟩:=k3 x hx
      rw [← lookN_of h1] at h2 h3
      exact ⟨c,h2,h3,h4⟩
     ·have:=List.all_eq_true.1 q2 x hx
      rw [hrw] at this
      simp only [Bool.not_true,Bool.false_or] at this
      have:=List.all_eq_true.1 this y hy
      rw [he] at this
      simp only [Nat.beq_refl,Bool.not_true,Bool.or_false] at this
      exact Nat.eq_of_beq_eq_true this
  ·cases h
 ·cases h
end Go.Sx

namespace Go.Sx
set_option linter.all false
open Go
set_option linter.unusedVariables false
set_option linter.unusedSimpArgs false
variable [Ora]
section
variable {P:Program} {base:Nat} {ρ ρ':Ren} {m m':Mem} {w w':World}
theorem prepV_mono {bl:Blks} {p v r:Value} (ho:prepV P bl p v m=some (r,m')):m.hi≤m'.hi∧m.lg.le m'.lg∧m.n≤m'.n:=by
 unfold prepV at ho
 split at ho
 ·split at ho
  ·exact ownN_mono tdP_ok ho
  ·cases ho
 ·split at ho
  ·rename_i hd
   obtain ⟨_,ho⟩:=cond_some ho
   cases ho
   exact tdP_ok.mono hd
  ·cases ho
 ·cases ho; exact ⟨Nat.le_refl _,.refl _,Nat.le_refl _⟩
 ·cases ho; exact ⟨Nat.le_refl _,.refl _,Nat.le_refl _⟩
theorem prepV_ok {bl:Blks} {p v v' r:Value} (h:HR P base ρ m.H w) (ho:prepV P bl p v m=some (r,m')) (hf:Free ρ m.n m'.hi) (hv:VR ρ v v') (hS:Sat m'.lg):∃ ρ',VR ρ' r v'∧St P base ρ ρ' m m' w w:=by
 unfold prepV at ho
 split at ho
 ·split at ho
  ·obtain ⟨ρ1,e1,e2,_⟩:=ownN_ok tdP_ok h ho hf hv hS
   exact ⟨ρ1,e1,e2⟩
  ·cases ho
 ·split at ho
  ·rename_i i _ b m1 hd
   obtain ⟨h1,ho⟩:=cond_some ho
   cases ho
   obtain ⟨ρ1,l,e1,e2,e3,e4,e5,e6⟩:=tdP_ok.ok h hd hf hv hS
   exact ⟨ρ1,.dat e2 e4 e5 (Nat.le_of_ble_eq_true h1) (enc_flat e4),e1⟩
  ·cases ho
 ·cases ho; exact ⟨ρ,hv,St.refl h⟩
 ·cases ho; exact ⟨ρ,hv,St.refl h⟩
theorem prepS_mono {bl:Blks}:∀ {sl:Slots} {fr fr':Fr} {m m':Mem},prepS P bl sl fr m=some (fr',m')→m.hi≤m'.hi∧m.lg.le m'.lg∧m.n≤m'.n
 | [],fr,fr',m,m',h=>by cases h; exact ⟨Nat.le_refl _,.refl _,Nat.le_refl _⟩
 | (t,p)::r,fr,fr',m,m',h=>by
   unfold prepS at h
   split at h
   ·exact prepS_mono h
   ·split at h
    ·rename_i hp
     have a:=prepV_mono hp
     have b:=prepS_mono h
     exact ⟨Nat.le_trans a.1 b.1,a.2.1.trans b.2.1,Nat.le_trans a.2.2 b.2.2⟩
    ·cases h
variable {z:Zn}
theorem prepS_ok {bl:Blks} {nt:Nat} {a:Act}:∀ {sl:Slots} {fr fr':Fr} {m m':Mem} {ρ:Ren},(∀ x ∈ sl,x.1 < nt)→HR P base ρ m.H w→prepS P bl sl fr m=some (fr',m')→Free ρ m.n m'.hi→FrR z ρ nt fr a→Sat m'.lg →
  ∃ ρ',FrR z ρ' nt fr' a∧St P base ρ ρ' m m' w w
 | [],fr,fr',m,m',ρ,_,h,ho,hf,hfr,hS=>by cases ho; exact ⟨ρ,hfr,St.refl h⟩
 | (t,p)::r,fr,fr',m,m',ρ,hl,h,ho,hf,hfr,hS=>by
   unfold prepS at ho
   split at ho
   ·exact prepS_ok (fun x hx=>hl x (.tail _ hx)) h ho hf hfr hS
   ·split at ho
    ·rename_i v m1 hp
     have ht:t < nt:=hl _ (.head _)
     have b:=prepS_mono ho
     obtain ⟨ρ1,q1,q2⟩:=prepV_ok h hp (hf.less b.1) (hfr.get t ht) (SatL.le hS b.2.1)
     have hfr1:FrR z ρ1 nt (fr.set t v) a:=by
      have h1:=(hfr.mono q2.ext).put ht q1
      have hz:=h1.zr
      rw [put_defers] at hz
      refine ⟨hfr.size,hfr.le,hz.1,hz.2,fun u hu=>?_⟩
      have h2:=h1.get u hu
      have:(a.put (some t) (a.tmps.getD t undef)).tmps.getD u undef=a.tmps.getD u undef:=by
       simp only [Act.put,Array.getD_eq_getD_getElem?,Array.getElem?_setIfInBounds]
       by_cases e:t=u
       ·subst e
        have hlt:t < a.tmps.size:=by rw [hfr.size]; exact ht
        simp [hlt]
       ·rw [if_neg e]
      rw [this] at h2; exact h2
     obtain ⟨ρ2,q3,q4⟩:=prepS_ok (fun x hx=>hl x (.tail _ hx)) q2.hr ho (hf.step q2) hfr1 hS
     exact ⟨ρ2,q3,St.trans hf q2 q4⟩
    ·cases ho
theorem prepC_mono {bl:Blks}:∀ {ps vs r:List Value} {m m':Mem},prepC P bl ps vs m=some (r,m')→m.hi≤m'.hi∧m.lg.le m'.lg∧m.n≤m'.n
 | [],[],r,m,m',h=>by cases h; exact ⟨Nat.le_refl _,.refl _,Nat.le_refl _⟩
 | [],_::_,_,_,_,h=>by cases h
 | _::_,[],_,_,_,h=>by cases h
 | p::ps,v::vs,r,m,m',h=>by
   unfold prepC at h
   split at h
   ·rename_i hp
    split at h
    ·rename_i hr
     cases h
     have a:=prepV_mono hp
     have b:=prepC_mono hr
     exact ⟨Nat.le_trans a.1 b.1,a.2.1.trans b.2.1,Nat.le_trans a.2.2 b.2.2⟩
    ·cases h
   ·cases h
theorem prepC_ok {bl:Blks}:∀ {ps vs vs' r:List Value} {m m':Mem} {ρ:Ren},HR P base ρ m.H w→prepC P bl ps vs m=some (r,m')→Free ρ m.n m'.hi→LR ρ vs vs'→Sat m'.lg→∃ ρ',LR ρ' r vs'∧St P base ρ ρ' m m' w w
 | [],[],vs',r,m,m',ρ,h,ho,hf,hl,hS=>by cases ho; exact ⟨ρ,hl,St.refl h⟩
 | [],_::_,_,_,_,_,_,_,ho,_,_,_=>by cases ho
 | _::_,[],_,_,_,_,_,_,ho,_,_,_=>by cases ho
 | p::ps,v::vs,vs',r,m,m',ρ,h,ho,hf,hl,hS=>by
   unfold prepC at ho
   split at ho
   ·rename_i v1 m1 hp
    split at ho
    ·rename_i r1 m2 hr
     cases ho
     have b:=prepC_mono hr
     obtain ⟨v',r',rfl,h1,h2⟩:=hl.tail
     obtain ⟨ρ1,q1,q2⟩:=prepV_ok h hp (hf.less b.1) h1 (SatL.le hS b.2.1)
     obtain ⟨ρ2,q3,q4⟩:=prepC_ok q2.hr hr (hf.step q2) (h2.mono q2.ext) hS
     exact ⟨ρ2,.cons (q1.mono q4.ext) q3,St.trans hf q2 q4⟩
    ·cases ho
   ·cases ho
theorem prepB_mono {gl:Nat} {bl0:Blks}:∀ {bs:List Bn} {bl:Blks} {m m':Mem},prepB P gl bl0 bs bl m=some m'→m.hi≤m'.hi∧m.lg.le m'.lg∧m.n≤m'.n
 | _,[],m,m',h=>by cases h; exact ⟨Nat.le_refl _,.refl _,Nat.le_refl _⟩
 | bs,(r,.sq _ _ _ _)::rest,m,m',h=>prepB_mono (bl:=rest) h
 | bs,(r,.frz)::rest,m,m',h=>prepB_mono (bl:=rest) h
 | bs,(r,.lp _ _ _ _)::rest,m,m',h=>prepB_mono (bl:=rest) h
 | bs,(r,.cells T cs)::rest,m,m',h=>by
   unfold prepB at h
   cases ha:anySeq cs with
   | false=>rw [ha] at h; exact prepB_mono (bl:=rest) h
   | true =>
     rw [ha] at h
     simp only [cond_true] at h
     split at h
     ·split at h
      ·split at h
       ·rename_i hc
        split at h
        ·obtain ⟨_,h⟩:=cond_some h
         split at h
         ·rename_i hs
          obtain ⟨_,rfl⟩:=setM_eq hs
          have a:=prepC_mono hc
          have b:=prepB_mono h
          exact ⟨Nat.le_trans a.1 b.1,a.2.1.trans b.2.1,Nat.le_trans a.2.2 b.2.2⟩
         ·cases h
        ·cases h
       ·cases h
      ·cases h
     ·cases h
theorem prepB_ok {gl:Nat} {bl0:Blks}:∀ {bs:List Bn} {bl:Blks} {m m':Mem} {ρ:Ren},HR P base ρ m.H w→prepB P gl bl0 bs bl m=some m'→Free ρ m.n m'.hi→Sat m'.lg→∃ ρ',St P base ρ ρ' m m' w w
 | _,[],m,m',ρ,h,ho,hf,hS=>by cases ho; exact ⟨ρ,St.refl h⟩
 | bs,(r,.sq _ _ _ _)::rest,m,m',ρ,h,ho,hf,hS=>prepB_ok (bl:=rest) h ho hf hS
 | bs,(r,.frz)::rest,m,m',ρ,h,ho,hf,hS=>prepB_ok (bl:=rest) h ho hf hS
 | bs,(r,.lp _ _ _ _)::rest,m,m',ρ,h,ho,hf,hS=>prepB_ok (bl:=rest) h ho hf hS
 | bs,(r,.cells T cs)::rest,m,m',ρ,h,ho,hf,hS=>by
   unfold prepB at ho
   cases ha:anySeq cs with
   | false=>rw [ha] at ho; exact prepB_ok (bl:=rest) h ho hf hS
   | true =>
     rw [ha] at ho
     simp only [cond_true] at ho
     split at ho
     ·rename_i b hb
      split at ho
      ·rename_i vs T1 hg
       split at ho
       ·rename_i vs2 m1 hc
        split at ho
        ·rename_i vs3 T2 hg2
         obtain ⟨hbm,ho⟩:=cond_some ho
         have hbm:=Nat.le_of_ble_eq_true hbm
         split at ho
         ·rename_i m2 hs
          have hset:=setM_eq hs
          have a:=prepC_mono hc
          have b2:=prepB_mono ho
          have hhi:m1.hi≤m'.hi:=by obtain ⟨_,rfl⟩:=hset; exact b2.1
          have hlg:m1.lg.le m'.lg:=by obtain ⟨_,rfl⟩:=hset; exact b2.2.1
          obtain ⟨l,e1,⟨e0,C,fz,T',e2,e3,e4⟩,_⟩:=h.at_ b hbm _ hg
          obtain ⟨vs',k1,k2⟩:=pick_list e3
          obtain ⟨ρ1,q1,q2⟩:=prepC_ok h hc (hf.less hhi) k1 (SatL.le hS hlg)
          have hl1:=q2.ext _ _ e1
          obtain ⟨⟨f0,C2,fz2,T3,f2,f3,f4⟩,_⟩:=q2.hr.atl hl1 hg2
          have hC:C2=C:=by rw [e2] at f2; cases f2; rfl
          have st2:=St.same0 q2.hr hs hg2 rfl hl1 (ab':=.cells vs2 T2 false) ⟨f0,C2,fz2,T3,f2,fun i v hi=>by
           obtain ⟨v',g1,g2⟩:=q1.get hi
           exact ⟨v',by rw [hC]; exact k2 i v' g1,g2⟩,f4⟩ (fun q hq=>hq.imp (fun ⟨_,b⟩=>⟨rfl,b⟩) fun ⟨h,_⟩=>by cases h)
          have st3:=St.trans (by obtain ⟨_,rfl⟩:=hset; exact hf.less hhi) q2 st2
          have hf3:Free ρ1 m2.n m'.hi:=hf.step st3
          obtain ⟨ρ2,q5⟩:=prepB_ok (bl:=rest) st2.hr ho hf3 hS
          exact ⟨ρ2,St.trans hf st3 q5⟩
         ·cases ho
        ·cases ho
       ·cases ho
      ·cases ho
     ·cases ho
theorem prepA_mono {gl:Nat} {bl:Blks} {sl:Slots} {fr fr':Fr} {m m':Mem} (h:prepA P gl bl sl fr m=some (fr',m')):m.hi≤m'.hi∧m.lg.le m'.lg∧m.n≤m'.n:=by
 unfold prepA at h
 split at h
 ·rename_i hp
  have a:=prepS_mono hp
  generalize (bl.any fun x=>match x.2 with|.cells _ cs=>anySeq cs|_=>false)=c at h
  cases c with
  | false=>cases h; exact a
  | true =>
    simp only [cond_true] at h
    split at h
    ·split at h
     ·rename_i hb
      cases h
      have b:=prepB_mono hb
      exact ⟨Nat.le_trans a.1 b.1,a.2.1.trans b.2.1,Nat.le_trans a.2.2 b.2.2⟩
     ·cases h
    ·cases h
 ·cases h
theorem prepA_ok {gl:Nat} {bl:Blks} {nt:Nat} {a:Act} {sl:Slots} {fr fr':Fr} {m m':Mem} {ρ:Ren} (hl:∀ x ∈ sl,x.1 < nt) (h:HR P base ρ m.H w) (ho:prepA P gl bl sl fr m=some (fr',m')) (hf:Free ρ m.n m'.hi) (hfr:FrR z ρ nt fr a) (hS:Sat m'.lg) :
  ∃ ρ',FrR z ρ' nt fr' a∧St P base ρ ρ' m m' w w:=by
 unfold prepA at ho
 split at ho
 ·rename_i fr1 m1 hp
  generalize (bl.any fun x=>match x.2 with|.cells _ cs=>anySeq cs|_=>false)=c at ho
  cases c with
  | false=>cases ho; exact prepS_ok hl h hp hf hfr hS
  | true =>
    simp only [cond_true] at ho
    split at ho
    ·split at ho
     ·rename_i hb
      cases ho
      have b:=prepB_mono hb
      obtain ⟨ρ1,q1,q2⟩:=prepS_ok hl h hp (hf.less b.1) hfr (SatL.le hS b.2.1)
      obtain ⟨ρ2,q3⟩:=prepB_ok q2.hr hb (hf.step q2) hS
      exact ⟨ρ2,q1.mono q3.ext,St.trans hf q2 q3⟩
     ·cases ho
    ·cases ho
 ·cases ho
end
end Go.Sx

namespace Go.Sx
set_option linter.all false
open Go
set_option linter.unusedVariables false
set_option linter.unusedSimpArgs false
def sortB (gl:Nat) (nm:List Nat) (b:Nat):Bool:=Nat.blt b gl || hasN nm b
def patOk (gl n0 nB nt:Nat) (sl:Slots) (bl:Blks):Bool :=
 (sl.all (fun x=>Nat.blt x.1 nt && namesV (sortB gl (nms bl)) DEP x.2) && bl.all (fun x=>PB.names (sortB gl (nms bl)) x.2)) && (bl.all (fun x=>Nat.ble n0 x.1 && Nat.blt x.1 nB) && decide (nms bl).Nodup)
def isFix (hb:Blks) (r:Nat):Bool :=
 match lookB hb r with
 | some p=>!p.mv
 | none=>false
def LoopD.ok (gl n0 nB nt:Nat) (L:LoopD):Bool :=
 (Nat.ble nt 510 && (Nat.ble n0 nB && Nat.ble nB most)) && (patOk gl n0 nB nt L.hs L.hb && L.xs.all (fun X=>patOk gl n0 nB nt X.sl X.bl && X.bl.all fun x=>x.2.mv == !(isFix L.hb x.1)))
def exEq:Ex→Ex→Bool
 | .normal,.normal=>true
 | .exit i,.exit j=>Nat.beq i j
 | .ret,.ret=>true
 | _,_=>false
theorem exEq_eq {a b:Ex} (h:exEq a b=true):a=b:=by
 cases a <;> cases b <;> first|rfl|cases h|(rw [Nat.eq_of_beq_eq_true h])
def fixOk (bl:Blks) (bs:List Bn):Bool:=bl.all fun x=>x.2.mv || Nat.beq (lookN bs x.1) x.1
def noDv (fr:Fr):Bool :=
 match dvIds (fr.get 510) with
 | []=>true
 | _=>false
def meet (P:Program) (gl nB:Nat) (nm:List Nat) (sl:Slots) (bl:Blks) (fr:Fr) (m:Mem):Option (List Value × List LogE) :=
 match prepA P gl bl sl fr m with
 | some (fr,⟨H,_,W,_,⟨_,[],log⟩⟩)=>match bindH gl fr H sl bl with
   | some (xs,bs)=>bif (W.all (fun b=>hasN nm b || Nat.ble nB b) && fixOk bl bs) && noDv fr then some (xs,log) else none
   | none=>none
 | _=>none
def findX (P:Program) (gl nB:Nat) (nm:List Nat) (fr:Fr) (m:Mem) (e:Ex):Nat→List LoopX→Option (Nat × (List Value × List LogE))
 | _,[]=>none
 | d,X::r=>match exEq X.ex e,meet P gl nB nm X.sl X.bl fr m with
   | true,some (xs,log)=>bif Nat.beq xs.length X.n then some (d,(xs,log)) else findX P gl nB nm fr m e (d+1) r
   | _,_=>findX P gl nB nm fr m e (d+1) r
theorem findX_eq {P:Program} {gl nB:Nat} {nm:List Nat} {fr:Fr} {m:Mem} {e:Ex}:∀ {l:List LoopX} {d0 d:Nat} {q:List Value × List LogE},findX P gl nB nm fr m e d0 l=some (d,q)→∃ j X,d=d0+j∧l[j]? = some X∧X.ex=e∧meet P gl nB nm X.sl X.bl fr m=some q
 | [],_,_,_,h=>by cases h
 | X::r,d0,d,q,h=>by
   have tl:findX P gl nB nm fr m e (d0+1) r=some (d,q)→∃ j X',d=d0+j∧(X::r)[j]? = some X'∧X'.ex=e∧meet P gl nB nm X'.sl X'.bl fr m=some q:=fun h=>by
    obtain ⟨j,X',h1,h2,h3⟩:=findX_eq h
    exact ⟨j+1,X',by omega,by simpa using h2,h3⟩
   unfold findX at h
   split at h
   ·rename_i ys log hx hb
    cases hq:Nat.beq ys.length X.n with
    | true=>rw [hq] at h; cases h; exact ⟨0,X,rfl,rfl,exEq_eq hx,hb⟩
    | false=>rw [hq] at h; exact tl h
   ·exact tl h
def endB (P:Program) (gl:Nat) (L:LoopD) (nB:Nat) (r:Option (Ex × S)):Option (List Value × List LogE) :=
 match r with
 | some (e,⟨fr,m⟩)=>match e with
   | .normal=>match meet P gl nB (nms L.hb) L.hs L.hb fr m with
     | some (xs,log)=>some (.int .i64 (-1)::xs,log)
     | none=>none
   | e=>match findX P gl nB (nms L.hb) fr m e 0 L.xs with
     | some (d,(xs,log))=>some (.int .i64 (.ofNat d)::xs,log)
     | none=>none
 | _=>none
theorem endB_eq {P:Program} {gl:Nat} {L:LoopD} {nB:Nat} {r:Option (Ex × S)} {ys:List Value} {log:List LogE} (h:endB P gl L nB r=some (ys,log)):∃ e s,r=some (e,s) ∧
  ((e=.normal∧∃ xs,ys=.int .i64 (-1)::xs∧meet P gl nB (nms L.hb) L.hs L.hb s.fr s.m=some (xs,log))∨(e≠.normal∧∃ d xs X,ys=.int .i64 (.ofNat d)::xs∧L.xs[d]? = some X∧X.ex=e∧meet P gl nB (nms L.hb) X.sl X.bl s.fr s.m=some (xs,log))):=by
 unfold endB at h
 split at h
 ·rename_i e fr m
  split at h
  ·split at h
   ·rename_i xs log hm; cases h; exact ⟨_,_,rfl,.inl ⟨rfl,xs,rfl,hm⟩⟩
   ·cases h
  ·rename_i hne
   split at h
   ·rename_i d xs log hf
    cases h
    obtain ⟨j,X,h1,h2,h3,h4⟩:=findX_eq hf
    rw [Nat.zero_add] at h1
    subst h1
    exact ⟨_,_,rfl,.inr ⟨hne,d,xs,X,rfl,h2,h3,h4⟩⟩
   ·cases h
 ·cases h
def memB (L:LoopD) (H0:Hp AB) (nB:Nat) (pi:List Nat):Mem:=⟨putB 0 idN L.hb H0,nB,[],nB,⟨L.k,pi,[]⟩⟩
def runB (C:Cx) (dep:Nat) (f:FuncId) (nt:Nat) (q:List Bool) (x:Code) (L:LoopD) (H0:Hp AB) (nB:Nat) (pi:List Nat):Option (List Value × List LogE) :=
 endB C.P C.gl L nB ((compC C.P nt C.gl (callY C dep) (C.lp f) (q++[false]) x).run ⟨frOf 0 idN L.hs,memB L H0 nB pi⟩)
def LeafOk (spec:Spec) (μ:List U→Nat) (us:List U):List U→Prop
 | .int _ c::r=>(c = -1→spec r=spec us∧μ r < μ us)∧(c ≠ -1→spec us=some (c.toNat,r))
 | _=>False
structure PatOk (gl n0 nB nt:Nat) (sl:Slots) (bl:Blks):Prop where
 ms:∀ x ∈ sl,x.1 < nt∧namesV (sortB gl (nms bl)) DEP x.2=true
 mb:∀ x ∈ bl,PB.names (sortB gl (nms bl)) x.2=true
 rg:∀ b ∈ nms bl,n0≤b∧b < nB
 nd:(nms bl).Nodup
theorem patOk_eq {gl n0 nB nt:Nat} {sl:Slots} {bl:Blks} (h:patOk gl n0 nB nt sl bl=true):PatOk gl n0 nB nt sl bl:=by
 obtain ⟨h1,h2⟩:=band h
 obtain ⟨h1,h3⟩:=band h1
 obtain ⟨h2,h4⟩:=band h2
 refine ⟨fun x hx=>?_,fun x hx=>List.all_eq_true.1 h3 x hx,fun b hb=>?_,of_decide_eq_true h4⟩
 ·obtain ⟨k1,k2⟩:=band (List.all_eq_true.1 h1 x hx)
  exact ⟨Nat.le_of_ble_eq_true k1,k2⟩
 ·obtain ⟨p,hp⟩:=mem_nms hb
  obtain ⟨k1,k2⟩:=band (List.all_eq_true.1 h2 _ hp)
  exact ⟨Nat.le_of_ble_eq_true k1,Nat.le_of_ble_eq_true k2⟩
theorem sortB_cases {gl:Nat} {nm:List Nat} {b:Nat} (h:sortB gl nm b=true):b < gl∨b ∈ nm:=by
 unfold sortB at h
 rcases (Bool.or_eq_true _ _).mp h with h1|h1
 ·exact .inl (Nat.le_of_ble_eq_true h1)
 ·exact .inr ((@hasN_iff ⟨fun _=>.none,fun _=>none⟩ _ _).1 h1)
theorem isFix_eq {hb:Blks} {r:Nat} (h:isFix hb r=true):∃ p,lookB hb r=some p∧p.mv=false:=by
 unfold isFix at h
 split at h
 ·rename_i p hp; exact ⟨p,hp,by simpa using h⟩
 ·cases h
def PB.raw:PB→AB
 | .cells T cs=>.cells cs T false
 | .sq h t T g=>.sq h t T g false
 | .lp f q vs st=>.lp f q vs st
 | .frz=>.frz
def TcP (p:PB) (l:Loc) (k:Nat):Prop:=(p.rw=true∧l.on=true∧l.blk=k)∨(p.rw=false∧∃ o,l.G k=some o)
theorem tcP_ab {p:PB} {nx:Nat} {τ:Nat→Nat} {l:Loc} {k:Nat}:Tc (p.ab nx τ) l k↔TcP p l k:=by
 cases p <;> simp [Tc,TcP,PB.ab,PB.rw,AB.on,forceN_eq]
section
variable {P:Program} {G:Nat→Option Obj}
theorem BR_shift {E F:Nat→U} {ρ ρ2:Ren} {S:Nat→Bool} {nx:Nat} {τ:Nat→Nat} (hS:∀ b l,S b=true→ρ b=some l→ρ2 (τ b)=some l) (hF:∀ i,F i=E (nx+i)) {p:PB} {l:Loc} {w:World} (h:@BR ⟨F,G⟩ P ρ p.raw l w)
  (hn:p.names S=true):@BR ⟨E,G⟩ P ρ2 (p.ab nx τ) l w:=by
 cases p with
 | cells T cs =>
   obtain ⟨h0,C,fz,T',h1,h2,h3⟩:=h
   obtain ⟨vs',h4,h5⟩:=@pick_list ⟨F,G⟩ ρ C cs l.sh h2
   have h6:=shiftL_LR (G:=G) hS hF DEP cs vs' hn h4
   exact ⟨h0,C,fz,T',h1,fun i v hi=>by
    obtain ⟨v',g1,g2⟩:=@LR.get ⟨E,G⟩ _ _ _ h6 _ _ hi
    exact ⟨v',h5 i v' g1,g2⟩,h3⟩
 | sq c t T g =>
   have e:PB.ab nx τ (.sq c t T g)=.sq (nx+c) t T (τ g) false:=by simp only [PB.ab,forceN_eq]
   rw [e]
   obtain ⟨wd,inf,h1,h2,h3,h4⟩:=SqR.ex (show SqR P ρ (F c) t T g false l w from h)
   have he:F c=E (nx+c):=hF c
   refine SqR.mk (P:=P) (ρ:=ρ2) (u:=E (nx+c)) (t:=t) (T:=T) (g:=τ g) (ro:=false) (l:=l) (w:=w) ⟨wd,inf,h1,h2,h3,?_⟩
   rcases h4 with ⟨h4,h5⟩|⟨h4,h5⟩
   ·exact .inl ⟨h4,by rw [← he]; exact h5⟩
   ·refine .inr ⟨h4,?_⟩
    obtain ⟨C,fz,T',rows,lg,k1,k2,k3,k4,k5,k6,k7,k8,k9⟩:=h5
    exact ⟨C,fz,T',rows,lg,k1,by rw [← he]; exact k2,k3,k4,k5,k6,hS _ _ hn k7,k8,k9⟩
 | lp f q vs st =>
   obtain ⟨h0,r,h1,h2⟩:=h
   have h3:=@LpR.fr ⟨F,G⟩ _ _ _ _ _ _ _ h2
   have h6:=shiftL_LR (G:=G) hS hF DEP vs _ hn h3
   obtain ⟨fn,body,x,c1,c2,c3,c4⟩:=@LpR.code ⟨F,G⟩ _ _ _ _ _ _ _ h2
   exact ⟨h0,r,h1,@LpR.mk ⟨E,G⟩ _ _ _ _ _ _ _ ⟨fn,body,x,c1,c2,c3,by
    have:=h6.1
    have h7:=h3.1
    omega⟩ h6 (@LpR.st ⟨F,G⟩ _ _ _ _ _ _ _ h2)⟩
 | frz=>exact h
structure Mb (ρ ρ2:Ren) (E F:Nat→U) (H:Hp AB) (p:PB) (b:Nat) (ab:AB):Prop where
 get:Hp.get H b=some ab
 rw:ab.rw=p.rw
 fr:ab.fr=true
 tc:∀ l k,Tc ab l k↔TcP p l k
theorem bind1_mb {ρ ρ2:Ren} {E F:Nat→U} {gl:Nat} {H:Hp AB} {p:PB} {b:Nat} {a:List Bn} (h:bind1 gl H p b=some a):∃ ab,Mb ρ ρ2 E F H p b ab:=by
 unfold bind1 at h
 split at h
 ·split at h
  ·rename_i vs T2 hg
   exact ⟨_,hg,rfl,rfl,fun l k=>by simp [Tc,TcP,PB.rw,AB.on]⟩
  ·cases h
 ·split at h
  ·rename_i c t2 T2 g2 hg
   exact ⟨_,hg,rfl,rfl,fun l k=>by simp [Tc,TcP,PB.rw,AB.on]⟩
  ·cases h
 ·split at h
  ·rename_i hg
   exact ⟨_,hg,rfl,rfl,fun l k=>by simp [Tc,TcP,PB.rw,AB.on]⟩
  ·cases h
 ·split at h
  ·rename_i hg
   exact ⟨_,hg,rfl,rfl,fun l k=>by simp [Tc,TcP,PB.rw,AB.on]⟩
  ·cases h
theorem bind1_BR {E F:Nat→U} {ρ ρ2:Ren} {gl:Nat} {H:Hp AB} {p:PB} {b:Nat} {a:List Bn} {ab:AB} {l:Loc} {w:World} (hS:∀ g l,g < gl→ρ g=some l→ρ2 g=some l) (hg:Hp.get H b=some ab) (h:bind1 gl H p b=some a) (hB:@BR ⟨E,G⟩ P ρ ab l w)
  (hb:∀ i u,Bn.h i u ∈ a→F i=argU E u) (hr:∀ r b,Bn.r r b ∈ a→∀ l,ρ b=some l→ρ2 r=some l):@BR ⟨F,G⟩ P ρ2 p.raw l w:=by
 unfold bind1 at h
 rw [hg] at h
 split at h
 ·rename_i T cs
  split at h
  ·rename_i vs T2 he
   cases he
   obtain ⟨h1,k⟩:=@cond_some ⟨E,G⟩ _ _ _ _ h
   have:=Nat.eq_of_beq_eq_true h1; subst this
   obtain ⟨h0,C,fz,T',h1,h2,h3⟩:=hB
   obtain ⟨vs',h4,h5⟩:=@pick_list ⟨E,G⟩ ρ C vs l.sh h2
   have h6:=matchL_LR (G:=G) hS DEP cs vs vs' a k h4 hb hr
   exact ⟨h0,C,fz,T',h1,fun i v hi=>by
    obtain ⟨v',g1,g2⟩:=@LR.get ⟨F,G⟩ _ _ _ h6 _ _ hi
    exact ⟨v',h5 i v' g1,g2⟩,h3⟩
  ·cases h
 ·rename_i c t T g
  split at h
  ·rename_i c2 t2 T2 g2 he
   cases he
   obtain ⟨h1,k⟩:=@cond_some ⟨E,G⟩ _ _ _ _ h
   cases k
   obtain ⟨h1,h2⟩:=band h1
   have e1:=Nat.eq_of_beq_eq_true h1
   have e2:=Nat.eq_of_beq_eq_true h2
   clear h h1 h2
   subst e1; subst e2
   have he:F c=E c2:=hb _ _ (.head _)
   have hg2:=hr _ _ (.tail _ (.head _))
   obtain ⟨wd,inf,h1,h2,h3,h4⟩:=SqR.ex (show SqR P ρ (E c2) t T g2 false l w from hB)
   refine SqR.mk (P:=P) (ρ:=ρ2) (u:=F c) (t:=t) (T:=T) (g:=g) (ro:=false) (l:=l) (w:=w) ⟨wd,inf,h1,h2,h3,?_⟩
   rcases h4 with ⟨h4,h5⟩|⟨h4,h5⟩
   ·exact .inl ⟨h4,by rw [he]; exact h5⟩
   ·refine .inr ⟨h4,?_⟩
    obtain ⟨C,fz,T',rows,lg,k1,k2,k3,k4,k5,k6,k7,k8,k9⟩:=h5
    exact ⟨C,fz,T',rows,lg,k1,by rw [he]; exact k2,k3,k4,k5,k6,hg2 _ k7,k8,k9⟩
  ·cases h
 ·rename_i f q vs st
  split at h
  ·rename_i f2 q2 vs2 st2 he
   cases he
   obtain ⟨h1,k⟩:=@cond_some ⟨E,G⟩ _ _ _ _ h
   obtain ⟨h1,h3⟩:=band h1
   obtain ⟨h1,h2⟩:=band h1
   have e1:=Nat.eq_of_beq_eq_true h1
   have e2:=eqQ_eq h2
   have e3:=Nat.eq_of_beq_eq_true h3
   clear h h1 h2 h3
   subst e1; subst e2; subst e3
   obtain ⟨h0,r,h1,h2⟩:=hB
   have h3:=@LpR.fr ⟨E,G⟩ _ _ _ _ _ _ _ h2
   have h6:=matchL_LR (G:=G) hS DEP vs vs2 _ a k h3 hb hr
   obtain ⟨fn,body,x,c1,c2,c3,c4⟩:=@LpR.code ⟨E,G⟩ _ _ _ _ _ _ _ h2
   exact ⟨h0,r,h1,@LpR.mk ⟨F,G⟩ _ _ _ _ _ _ _ ⟨fn,body,x,c1,c2,c3,by
    have:=h6.1
    have h7:=h3.1
    omega⟩ h6 (@LpR.st ⟨E,G⟩ _ _ _ _ _ _ _ h2)⟩
  ·cases h
 ·split at h
  ·rename_i he
   cases he
   exact hB
  ·cases h
structure HeadAt (D:List Deferred) (P:Program) (G:Nat→Option Obj) (base nt:Nat) (ρ:Ren) (sl:Slots) (bl:Blks) (us:List U) (a:Act) (w:World):Prop where
 size:a.tmps.size=nt
 defers:a.defers=D
 fr:∀ F,Agree us F→∀ x ∈ sl,@VR ⟨F,G⟩ ρ x.2 (a.tmps.getD x.1 undef)
 mb:∀ x ∈ bl,∃ l,ρ x.1=some l∧∀ F,Agree us F→@BR ⟨F,G⟩ P ρ x.2.raw l w
 own:∀ x ∈ bl,x.2.rw=true→∀ l,ρ x.1=some l→l.on=true→base≤l.blk∧∀ y ∈ bl,∀ l2,ρ y.1=some l2→TcP y.2 l2 l.blk→y.1=x.1
theorem head_of {z:Zn} {E:Nat→U} {ρ ρ2:Ren} {gl n0 nB nt base:Nat} {sl:Slots} {bl:Blks} {fr:Fr} {H:Hp AB} {xs:List Value} {bs:List Bn} {a:Act} {w:World} (hp:PatOk gl n0 nB nt sl bl) (hS:∀ g l,g < gl→ρ g=some l→ρ2 g=some l) (h2:∀ r ∈ nms bl,ρ2 r=ρ (lookN bs r))
  (hfr:@FrR ⟨E,G⟩ z ρ nt fr a) (hr:@HR ⟨E,G⟩ P base ρ H w) (hm:Met gl fr H sl bl xs bs):HeadAt a.defers P G base nt ρ2 sl bl (xs.map (argU E)) a w:=by
 letI O:Ora:=⟨E,G⟩
 have hag:∀ F,Agree (xs.map (argU E)) F→∀ i u,Bn.h i u ∈ bs→F i=argU E u:=fun F hF i u hx=>hF _ _ (hm.h E i u hx)
 have hbr:∀ r b,Bn.r r b ∈ bs→∀ l,ρ b=some l→ρ2 r=some l:=fun r b hx l hl=>by
  obtain ⟨k1,k2⟩:=hm.r r b hx
  rw [h2 r k1,k2]; exact hl
 refine ⟨hfr.size,rfl,fun F hF x hx=>?_,fun x hx=>?_,fun x hx hrw l hl hon=>?_⟩
 ·obtain ⟨q1,q2⟩:=hp.ms x hx
  obtain ⟨c,g1,g2⟩:=hm.ms x hx
  exact matchV_VR (G:=G) hS DEP x.2 _ _ c g1 (hfr.get x.1 q1) (fun i u hy=>hag F hF i u (g2 _ hy)) fun r b hy=>hbr r b (g2 _ hy)
 ·obtain ⟨c,g0,g1,g2⟩:=hm.mb x hx
  obtain ⟨ab,hmb⟩:=bind1_mb (ρ:=ρ) (ρ2:=ρ2) (E:=E) (F:=E) g1
  obtain ⟨l,e1,e2,_⟩:=hr.at_ _ g0 _ hmb.get
  refine ⟨l,by rw [h2 x.1 (nms_mem hx)]; exact e1,fun F hF=>bind1_BR hS hmb.get g1 e2 (fun i u hy=>hag F hF i u (g2 _ hy)) fun r b hy=>hbr r b (g2 _ hy)⟩
 ·rw [h2 x.1 (nms_mem hx)] at hl
  obtain ⟨c,g0,g1,g2⟩:=hm.mb x hx
  obtain ⟨ab,hmb⟩:=bind1_mb (ρ:=ρ) (ρ2:=ρ2) (E:=E) (F:=E) g1
  obtain ⟨_,e3⟩:=@HR.atl ⟨E,G⟩ P base ρ H w hr _ l hl _ hmb.get
  obtain ⟨e4,e5⟩:=e3 (by rw [hmb.rw]; exact hrw) hon
  refine ⟨e4,fun y hy l2 hl2 ht=>?_⟩
  rw [h2 y.1 (nms_mem hy)] at hl2
  obtain ⟨c',j0,j1,j2⟩:=hm.mb y hy
  obtain ⟨ab2,hmb2⟩:=bind1_mb (ρ:=ρ) (ρ2:=ρ2) (E:=E) (F:=E) j1
  have:=e5 _ j0 ab2 l2 hmb2.get hl2 ((hmb2.tc _ _).2 ht)
  exact (hm.inj x hx hrw y hy this.symm).symm
end
end Go.Sx
