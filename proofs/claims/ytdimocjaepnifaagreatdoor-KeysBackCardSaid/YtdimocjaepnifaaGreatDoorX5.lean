import Derived.Test.YtdimocjaepnifaaGreatDoorX4
import Derived.MapKept
import Derived.WideKeyRuns
import Derived.Lib.Builder
import Derived.LoopNIn
import Derived.RangeFuncRecord
set_option linter.all false
set_option maxRecDepth 100000
set_option maxHeartbeats 4000000
namespace Go.Sx
variable {ks l ts:I1}{k' v v' x':Value}{cs:List Frame}{k:Nat}{y:MTy}{d:Option Tmp}{kt pt ty:TypeId}{r us vs:List U}{rows rs:List (List U)}{es es':Array MapEntry}{hs xs:D4}{c:Code}{e':MapEntry}{tys:List TypeId}{w':World}{fz:Nat×Nat}{listed:Array Bool}
section
open Go
variable [Ora]
section
variable {P:Program} {base:Nat} {ρ:Ren} {m m':Mem} {w:World}
def vP:∀ {ts:I1} {cs cs':D4},BY ts cs=true→(∀ t ∈ ts,t<10)→LR ρ cs cs'→(cs.map (E5 Ora.env)).map G7=ts∧cs'=(cs.map (E5 Ora.env)).map V3
 | [],[],cs',_,_,hl=>by cases hl.nil_inv;exact⟨rfl,rfl⟩
 | t::ts,v::vs,cs',h,ht,hl=>by
   obtain⟨h1,h2⟩:=B8 (show(Nat.beq (H5 v) t && BY ts vs)=true from h);have h1:=A0 h1;obtain⟨v',r,rfl,g1,g2⟩:=hl.tail;obtain⟨a,b⟩:=vP h2 (fun x hx=>ht x (C7 _ hx)) g2;obtain⟨c,d⟩:=aW g1 (by rw[h1];exact ht t C5);have e:V3 (E5 Ora.env v)=v':=by unfold V3;rw[c];rfl
   exact⟨by rw[E9,E9,a,d,h1],by rw[E9,E9,e,← b]⟩
 | [],_::_,_,h,_,_=>by cases h
 | _::_,[],_,h,_,_=>by cases h
def lH{a:Bool}{cs:D4}(h:pR a ts v=some cs)(ht:∀ t ∈ ts,t<10)(hv:VR ρ v v'):v'=e9 a (cs.map (E5 Ora.env))∧(cs.map (E5 Ora.env)).map G7=ts:=by
 unfold pR at h;split at h
 ·rename_i c;obtain⟨h1,h⟩:=A5 h;cases h;obtain⟨cs',rfl,hl⟩:=Y9 hv;obtain⟨e1,e2⟩:=vP h1 ht hl;exact⟨by rw[e2];rfl,e1⟩
 ·cases h
 ·obtain⟨h1,h⟩:=A5 h;cases h;obtain⟨e1,e2⟩:=vP h1 ht (LR.cons hv LR.nil);refine⟨?_,e1⟩
  have:=H3 List.head? e2
  simpa [e9]using this
def AE{t:Nat}(h:iJ P t=some k):k<10:=by
 unfold iJ at h;split at h
 ·cases h;decide
 ·cases h;have:=N0 ‹_›;omega
 ·cases h;decide
 ·cases h
def ON:∀ {fs:List Field} {i:Nat} {l:I1},xC P fs i=some l→∀ t ∈ l,t<10
 | [],i,l,h,t,ht=>by cases h;cases ht
 | f::fs,i,l,h,t,ht=>by
   unfold xC at h;split at h
   ·rename_i a b h1 h2;obtain⟨_,h⟩:=A5 h;cases h;rcases C6.1 ht with rfl|ht
    ·exact AE h1
    ·exact ON h2 t ht
   ·cases h
def IN{T:TypeId}(h:YN P T=some y):P.underlying T=some (.map y.kt y.vt)∧pZ P y.kt=some (y.ka,y.ks)∧TO P y.vt=some (y.va,y.vs)∧0<y.ks.length∧(∀ t ∈ y.ks,t<10)∧(∀ t ∈ y.vs,t<10)∧(y.va=false→y.vs.length=1):=by
 unfold YN at h;split at h
 ·rename_i kt vt hu;split at h
  ·rename_i ka k ks va vs h1 h2;cases h;refine⟨hu,h1,h2,Nat.succ_pos _,?_,?_,?_⟩
   ·intro t ht;unfold pZ at h1;split at h1
    ·cases hs:P.stoodInHeld kt with
     | true=>rw[hs]at h1;cases h1
     | false =>
       rw[hs]at h1;simp only[E7]at h1;split at h1
       ·rename_i l hl;cases h1;exact ON hl t ht
       ·cases h1
    ·split at h1
     ·rename_i z hz;cases h1;simp only[C6,M7,or_false]at ht;subst ht;exact AE hz
     ·cases h1
   ·intro t ht;unfold TO at h2;split at h2
    ·obtain⟨h3,h2⟩:=A5 h2;cases h2;exact A2 (E4.1 h3 t ht)
    ·obtain⟨h3,h2⟩:=A5 h2;cases h2;simp only[C6,M7,or_false]at ht;subst ht;exact A2 h3
    ·cases h2
   ·intro hva;have hva:va=false:=hva;subst hva;unfold TO at h2;split at h2
    ·obtain⟨_,h2⟩:=A5 h2;cases h2
    ·obtain⟨_,h2⟩:=A5 h2;cases h2;rfl
    ·cases h2
  ·cases h
 ·cases h
def UD{t:TypeId}{u v:U}(h:iJ P t=some k)(h1:G7 u=k)(h2:G7 v=k)(n:Nat)(w:World):(Op.equalIn (n+1) t (V3 u) (V3 v)).run P w=.ok (isU u v) w:=by
 have hk:=AE h;unfold iJ at h;split at h
 ·rename_i hu;cases h;cases u<;>simp only[G7]at h1<;>first|omega|skip
  ·have:=N0 ‹_›;omega
  ·cases v<;>simp only[G7]at h2<;>first|omega|skip
   ·have:=N0 ‹_›;omega
   ·simp[V3,toV,isU,eqU,Op.equalIn,A6,D6 hu,Result.andThen]
 ·rename_i j hu;cases h;cases u with
  | int a x =>
    cases v with
    | int b z =>
      have e1:=tI h1;have e2:=tI h2;subst e1;subst e2;simp[V3,toV,isU,eqU,Op.equalIn,A6,D6 hu,Result.andThen]
    | bool b=>simp only[G7]at h2;have:=N0 j;omega
    | str s=>simp only[G7]at h2;have:=N0 j;omega
    | seq _ _ _=>simp only[G7]at h2;omega
    | none=>simp only[G7]at h2;omega
  | bool b=>simp only[G7]at h1;have:=N0 j;omega
  | str s=>simp only[G7]at h1;have:=N0 j;omega
  | seq _ _ _=>simp only[G7]at h1;omega
  | none=>simp only[G7]at h1;omega
 ·rename_i hu;cases h;cases u<;>simp only[G7]at h1<;>first|omega|skip
  ·have:=N0 ‹_›;omega
  ·cases v<;>simp only[G7]at h2<;>first|omega|skip
   ·have:=N0 ‹_›;omega
   ·rename_i p q
    have:=run_equalIn_string (P:=P) w n t ⟨⟨p⟩⟩ ⟨⟨q⟩⟩ hu;have e:∀ s:List UInt8,V3 (.str s)=.string ⟨⟨s⟩⟩:=fun _=>rfl
    rw[e,e,this];simp[isU,eqU,ByteArray.toList_eq]
 ·cases h
def A0y{t:TypeId}{d:TypeDesc}{u v:U}(hd:P.underlying t=some d)(h:iJ P t=some k)(h1:G7 u=k)(h2:G7 v=k):Instr.sameNow d (V3 u) (V3 v)=some (isU u v):=by
 unfold iJ at h;split at h
 ·rename_i hu;rw[hu]at hd;cases hd;cases h;cases u<;>simp only[G7]at h1<;>first|omega|skip
  ·have:=N0 ‹_›;omega
  ·cases v<;>simp only[G7]at h2<;>first|omega|skip
   ·have:=N0 ‹_›;omega
   ·simp[V3,toV,isU,eqU,Instr.sameNow]
 ·rename_i j hu;rw[hu]at hd;cases hd;cases h;cases u with
  | int a x =>
    cases v with
    | int b z =>
      have e1:=tI h1;have e2:=tI h2;subst e1;subst e2;simp[V3,toV,isU,eqU,Instr.sameNow]
    | bool b=>simp only[G7]at h2;have:=N0 j;omega
    | str s=>simp only[G7]at h2;have:=N0 j;omega
    | seq _ _ _=>simp only[G7]at h2;have:=N0 j;omega
    | none=>simp only[G7]at h2;have:=N0 j;omega
  | bool b=>simp only[G7]at h1;have:=N0 j;omega
  | str s=>simp only[G7]at h1;have:=N0 j;omega
  | seq _ _ _=>simp only[G7]at h1;have:=N0 j;omega
  | none=>simp only[G7]at h1;have:=N0 j;omega
 ·rename_i hu;rw[hu]at hd;cases hd;cases h;cases u<;>simp only[G7]at h1<;>first|omega|skip
  ·have:=N0 ‹_›;omega
  ·cases v<;>simp only[G7]at h2<;>first|omega|skip
   ·have:=N0 ‹_›;omega
   ·rename_i p q;have e:(ByteArray.mk ⟨p⟩ == ByteArray.mk ⟨q⟩)=(p == q):=by
     show(Array.mk p == Array.mk q)=_;rw[L1,beq_iff_eq,beq_iff_eq];exact⟨fun h=>by injection h,fun h=>by rw[h]⟩
    simp[V3,toV,isU,eqU,Instr.sameNow,e]
 ·cases h
def uT{t:TypeId}(h:iJ P t=some k){X:D4}{i:Nat}(hx:X[i]? = some v)(w:World):(part t ⟨X⟩ i).run P w=.ok v w:=by
 have ha:∀ d,P.underlying t=some d→(match d with|.struct _|.array _ _=>False|_=>True)→(part t ⟨X⟩ i).run P w=.ok v w:=fun d hd hn=>by
  cases d<;>simp only at hn<;>simp[part,isAgg,A6,D6 hd,Result.andThen,hx]
 unfold iJ at h;split at h
 ·exact ha _ ‹_› trivial
 ·exact ha _ ‹_› trivial
 ·exact ha _ ‹_› trivial
 ·cases h
def GF:∀ {fs:List Field} {i:Nat} {ks:I1} {us vs:List U} {p q:D4},xC P fs i=some ks→us.map G7=ks→vs.map G7=ks→p.length=i→q.length=i→∀ (n:Nat) (w:World),(Op.eqFields (n+1) ⟨p++us.map V3⟩ ⟨q++vs.map V3⟩ fs).run P w=.ok (W7 us vs) w
 | [],i,ks,us,vs,p,q,h,h1,h2,hp,hq,n,w=>by
   cases h;have e1:us=[]:=by simpa using h1
   have e2:vs=[]:=by simpa using h2
   subst e1;subst e2;simp[Op.eqFields,W7]
 | f::fs,i,ks,us,vs,p,q,h,h1,h2,hp,hq,n,w=>by
   unfold xC at h;split at h
   ·rename_i t l ht hl;obtain⟨hc,h⟩:=A5 h;cases h;obtain⟨hc1,hc2⟩:=B8 hc;have hc2:=A0 hc2;have hn:f.name ≠ "_":=by simpa using hc1
    cases us with
    | nil=>cases h1
    | cons u us =>
      cases vs with
      | nil=>cases h2
      | cons v vs =>
        simp only[E9,I8]at h1 h2;have g1:(p++(u::us).map V3)[f.offset]? = some (V3 u):=by rw[hc2,← hp,E3 (B0 _)];simp
        have g2:(q++(v::vs).map V3)[f.offset]? = some (V3 v):=by rw[hc2,← hq,E3 (B0 _)];simp
        have e1:=uT ht g1 w;have e2:=uT ht g2 w;have e3:=UD ht h1.1 h2.1 n w;have ih:=GF (p:=p++[V3 u]) (q:=q++[V3 v]) hl h1.2 h2.2 (by simp[hp]) (by simp[hq]) n w;rw[F3,F3]at ih;unfold Op.eqFields;rw[A4 hn];simp only[W7];cases hs:isU u v with
        | false =>
          simp only[A6,e1,e2,e3,hs,Result.andThen_ok];simp
        | true =>
          simp only[A6,e1,e2,e3,hs,Result.andThen_ok,x5];exact ih
   ·cases h
def B0Y{a:Bool}(h:pZ P kt=some (a,ks))(h1:us.map G7=ks)(h2:vs.map G7=ks)(w:World):(Op.equal kt (e9 a us) (e9 a vs)).run P w=.ok (W7 us vs) w:=by
 unfold pZ at h;split at h
 ·rename_i fs hu;cases hs:P.stoodInHeld kt with
  | true=>rw[hs]at h;cases h
  | false =>
    rw[hs]at h;simp only[E7]at h;split at h
    ·rename_i l hl;cases h;have hf:P.fieldsOf kt=fs:=by simp[Program.fieldsOf,hu]
     show(Op.equalIn (9999+1) kt (.agg _) (.agg _)).run P w=_;rw[run_equalIn_struct (P:=P) w 9999 kt _ _ (by rw[hf];exact hu) hs,hf];exact GF (p:=[]) (q:=[]) hl h1 h2 rfl rfl 9998 w
    ·cases h
 ·split at h
  ·rename_i k hk;cases h;cases us with
   | nil=>cases h1
   | cons u us=>cases us with
     | cons _ _=>simp at h1
     | nil=>cases vs with
       | nil=>cases h2
       | cons v vs=>cases vs with
         | cons _ _=>simp at h2
         | nil =>
           simp only[E9,J7,I8,and_true]at h1 h2
           have:=UD hk h1 h2 9999 w;show(Op.equalIn (9999+1) kt (V3 u) (V3 v)).run P w=_;rw[this];simp[W7]
  ·cases h
def CH{t:TypeId}(h:iJ P t=some k)(e:Bool)(n:Nat)(v:Value)(w:World):(Instr.checkKey e (n+1) t v).run P w=.ok () w:=by
 unfold iJ at h;split at h
 ·rename_i hu;simp[Instr.checkKey,A6,D6 hu,Result.andThen]
 ·rename_i hu;simp[Instr.checkKey,A6,D6 hu,Result.andThen]
 ·rename_i hu;simp[Instr.checkKey,A6,D6 hu,Result.andThen]
 ·cases h
def uE(e:Bool)(n:Nat)(w:World):∀ (L:List Field) (i:Nat) (ks:List Nat) (us:List U) (p:List Value),xC P L i=some ks→us.map G7=ks→p.length=i →
  (forIn L PUnit.unit fun f (_:PUnit)=>if f.name ≠ "_" then(do let x ← part f.type ⟨p++us.map V3⟩ f.offset;Instr.checkKey e (n+1) f.type x;pure (ForInStep.yield PUnit.unit):Sem (ForInStep PUnit))else pure (ForInStep.yield PUnit.unit)).run P w=.ok PUnit.unit w
 | [],i,ks,us,p,h,h1,hp=>by simp
 | f::fs,i,ks,us,p,h,h1,hp=>by
   unfold xC at h;split at h
   ·rename_i t l ht hl;obtain⟨hc,h⟩:=A5 h;cases h;obtain⟨hc1,hc2⟩:=B8 hc;have hc2:=A0 hc2;have hn:f.name ≠ "_":=by simpa using hc1
    cases us with
    | nil=>cases h1
    | cons u us =>
      simp only[E9,I8]at h1;have g1:(p++(u::us).map V3)[f.offset]? = some (V3 u):=by rw[hc2,← hp,E3 (B0 _)];simp
      have e1:=uT ht g1 w;have e2:=CH ht e n (V3 u) w;have ih:=uE e n w fs (i+1) l us (p++[V3 u]) hl h1.2 (by simp[hp]);rw[F3]at ih;rw[List.forIn_cons];simp only[A4 hn,A6,e1,e2,Result.andThen_ok,Sem.run_pure];exact ih
   ·cases h
def GQ{a:Bool}(h:pZ P kt=some (a,ks))(h1:us.map G7=ks)(e:Bool)(w:World):(Instr.checkKey e 10000 kt (e9 a us)).run P w=.ok () w:=by
 unfold pZ at h;split at h
 ·rename_i fs hu;cases hs:P.stoodInHeld kt with
  | true=>rw[hs]at h;cases h
  | false =>
    rw[hs]at h;simp only[E7]at h;split at h
    ·rename_i l hl;have h:=h;cases h;have key:∀ n:Nat,(Instr.checkKey e (n+2) kt (.agg ⟨us.map V3⟩)).run P w=.ok () w:=fun n=>by
      rw[Instr.checkKey];simp only[A6,D6 hu,Result.andThen_ok];rw[← Array.forIn_toList]
      have:=uE e n w fs.toList 0 _ us [] hl h1 rfl;rw[O9]at this;rw[this];rfl
     exact key 9998
    ·cases h
 ·split at h
  ·rename_i k hk;cases h;exact CH hk e 9999 _ w
  ·cases h
def pT(k:List U):List (List U)→Nat→Option (Nat×List U)
 | [],_=>none
 | r::rs,i=>if W7 k r then some (i,r)else pT k rs (i+1)
def vB:∀ (us r:List U),W7 us (r.take us.length)=W7 us r
 | [],r=>rfl
 | a::us,[]=>rfl
 | a::us,b::r=>by
   show(isU a b && W7 us (r.take us.length))=(isU a b && W7 us r);rw[vB us r]
def yF.head{e:MapEntry}{es:List MapEntry}(h:yF y (r::rs) (e::es)):(r.map G7=y.ks++y.vs∧e.key=e9 y.ka (r.take y.ks.length)∧e.val=e9 y.va (r.drop y.ks.length))∧yF y rs es :=
 ⟨h.2 0 r e rfl rfl,by have:=h.1;simpa using this,fun i row e2 h1 h2=>h.2 (i+1) row e2 (by simpa using h1) (by simpa using h2)⟩
def EC(h:r.map G7=y.ks++y.vs):(r.take y.ks.length).map G7=y.ks∧(r.drop y.ks.length).map G7=y.vs:=by
 constructor
 ·rw[qE,h,lY];rfl
 ·rw[List.map_drop,h,List.drop_left'];rfl
abbrev DS(y:MTy)(us:List U)(rows:List (List U))(i:Nat):Option (Nat×Value):=(pT us rows i).map fun p=>(p.1,e9 y.va (p.2.drop y.ks.length))
def HF{y:MTy}(hk:pZ P y.kt=some (y.ka,y.ks)){us:List U}(h1:us.map G7=y.ks):∀ {rows:List (List U)} {es:List MapEntry} (i:Nat),yF y rows es→(Instr.findAsking y.kt (e9 y.ka us) es i).run P w=.ok (DS y us rows i) w
 | [],[],i,_=>by simp[Instr.findAsking,DS,pT]
 | [],_::_,i,h=>by have:=h.1;simp at this
 | _::_,[],i,h=>by have:=h.1;simp at this
 | r::rs,e::es,i,h=>by
   obtain⟨⟨a,b,c⟩,d⟩:=h.head;obtain⟨t1,t2⟩:=EC a;have hlen:us.length=y.ks.length:=by rw[← h1,G5]
   have e1:=B0Y (P:=P) hk h1 t1 w;have e2:W7 us (r.take y.ks.length)=W7 us r:=by rw[← hlen];exact vB us r
   have ih:=HF hk h1 (i+1) d;unfold Instr.findAsking;rw[b];simp only[A6,e1,e2,Result.andThen_ok,DS,pT];cases hq:W7 us r with
   | true=>simp[c]
   | false=>simp only[K0,if_false];exact ih
def A1u{y:MTy}{k:Nat}{d:TypeDesc}(hd:P.underlying y.kt=some d)(hs:iJ P y.kt=some k)(ha:y.ka=false)(hks:y.ks=[k]){u:U}(h1:G7 u=k):∀ {rows:List (List U)} {es:List MapEntry} (i:Nat),yF y rows es→Instr.findNow d (V3 u) es i=some (DS y [u] rows i)
 | [],[],i,_=>rfl
 | [],_::_,i,h=>by have:=h.1;simp at this
 | _::_,[],i,h=>by have:=h.1;simp at this
 | r::rs,e::es,i,h=>by
   obtain⟨⟨a,b,c⟩,dd⟩:=h.head;cases r with
   | nil=>rw[hks]at a;simp at a
   | cons r0 r =>
     have a0:G7 r0=k:=by rw[hks]at a;simp at a;exact a.1
     have b:e.key=V3 r0:=by rw[b,ha,hks];rfl
     have e1:=A0y hd hs h1 a0;have ih:=A1u hd hs ha hks h1 (i+1) dd;unfold Instr.findNow;rw[b,e1];simp only[DS,pT,W7,jD];cases hq:isU u r0 with
     | true=>simp[c]
     | false=>simp only[K0,if_false];exact ih
def BU(hk:pZ P y.kt=some (y.ka,y.ks))(h1:us.map G7=y.ks){es:List MapEntry}(h:yF y rows es):(Instr.findKey y.kt (e9 y.ka us) es).run P w=.ok (DS y us rows 0) w:=by
 have hk0:=hk;unfold pZ at hk;split at hk
 ·rename_i fs hu;rw[run_findKey_eq w (by rw[hu]) (e9 y.ka us) es];exact HF hk0 h1 0 h
 ·split at hk
  ·rename_i k hs;have ha:y.ka=false:=(H3 Prod.fst (B1 hk)).symm;have hks:y.ks=[k]:=(H3 Prod.snd (B1 hk)).symm;rw[hks]at h1;cases us with
   | nil=>simp at h1
   | cons u us=>cases us with
     | cons _ _=>simp at h1
     | nil =>
       simp only[E9,J7,I8,and_true]at h1;obtain⟨d,hd⟩:∃ d,P.underlying y.kt=some d:=by
        cases hd:P.underlying y.kt with
        | some d=>exact⟨d,rfl⟩
        | none=>unfold iJ at hs;rw[hd]at hs;cases hs
       rw[ha];exact MapKept.run_findKey hd (A1u hd hs ha hks h1 0 h)
  ·cases hk
def OH{k:List U}:∀ (rows:List (List U)) (i:Nat),(pT k rows i).isSome=rows.any (W7 k)
 | [],_=>rfl
 | r::rs,i=>by
   simp only[pT,x4];cases W7 k r with
   | true=>rfl
   | false=>simp only[K0,if_false,Q4];exact OH rs (i+1)
def FW{k:List U}:∀ (rows:List (List U)) (i:Nat),(pT k rows i).map (·.2)=rows.find? (W7 k)
 | [],_=>rfl
 | r::rs,i=>by
   simp only[pT,eF];cases W7 k r with
   | true=>rfl
   | false=>simp only[K0,if_false];exact FW rs (i+1)
def tM{k:List U}:∀ {rows:List (List U)} {i j:Nat} {r:List U},pT k rows i=some (j,r)→i≤j∧rows[j-i]? = some r∧W7 k r=true
 | [],_,_,_,h=>by cases h
 | x::rs,i,j,r,h=>by
   unfold pT at h;cases hq:W7 k x with
   | true=>rw[hq]at h;cases h;exact⟨B0 _,by simp,hq⟩
   | false =>
     rw[hq]at h;obtain⟨a,b,c⟩:=tM (rows:=rs) h;exact⟨A1,by rw[show j-i=(j-(i+1))+1 by omega];exact b,c⟩
def MR{kw:Nat}{c:List U}:∀ (rows:List (List U)) (i:Nat),MS kw c rows=match pT (c.take kw) rows i with
  | some p=>rows.set (p.1-i) c
  | none=>rows++[c]
 | [],_=>rfl
 | r::rs,i=>by
   unfold MS pT;cases hq:W7 (c.take kw) r with
   | true=>simp
   | false =>
     simp only[K0,if_false];rw[MR rs (i+1)];cases hx:pT (c.take kw) rs (i+1)with
     | none=>rfl
     | some p =>
       obtain⟨a,_⟩:=tM (r:=p.2) (j:=p.1) hx;show r::rs.set (p.1-(i+1)) c=(r::rs).set (p.1-i) c;rw[show p.1-i=(p.1-(i+1))+1 by omega];rfl
def IX{b:Nat}(h:VR ρ (.map (some b)) v'):∃ l,ρ b=some l∧v'=.map (some l.blk):=by
 cases h with
 | pure hp=>simp[J1]at hp
 | map h=>exact⟨_,h,rfl⟩
def A5N{T:TypeId}(h:HR P base ρ m.H w)(hb:base≤w.heap.size)(ho:A10 P m T=some (v,m'))(hf:L6 ρ m.n m'.hi)(hS:Sat m'.lg):VOk P base ρ m w (Instr.makeMap T none) v m':=by
 unfold A10 at ho;split at ho
 ·rename_i y hy;rw[P9]at ho;have hlg:=cY ho;have hd:=lX (lg:=m'.lg) hS (by rw[hlg];exact .refl _);obtain⟨e1,e2,nul,wd,rows,e3⟩:=hd;have hev:Ora.env m.lg.nx=.seq false y.w []:=by
   have hw:0<y.w:=by have:=(IN hy).2.2.2.1;unfold MTy.w;omega
   rw[e1];show(if y.w=0 then U.none else match s9 y.w (0 / y.w) []with
    | some r=>U.seq false y.w r
    | none=>.none)=_
   rw[A3 A1,Nat.zero_div];rfl
  have hst:=St.wLg h (hJ m (10+y.w) (.mk y.w) []);obtain⟨h1,h2,h3⟩:=St.alloc (w':={ w with heap:=w.heap.push (.map #[] 0) }) (l:=lc w.heap.size 0 0) hst.hr hb ho (by rw[ZT];exact hf) ⟨rfl,rfl,rfl⟩ rfl rfl
   ⟨⟨rfl,rfl⟩,y,#[],0,[],hy,rfl,by simp,hev,rfl,fun i row e hr=>by simp at hr⟩
  refine⟨.map (some w.heap.size),_,_,?_,?_,St.trans hf hst h3⟩
  ·simp[Instr.makeMap,newObj,Sem.run,A6,Result.andThen]
  ·rw[h1];exact .map h2
 ·cases ho
def NQ{t:Nat}{op:LOp}(h:Z1 m t op xs=some (v,m'))(hS:Sat m'.lg):t<10∧G7 (evU op (xs.map (E5 Ora.env)))=t∧VR ρ v (V3 (evU op (xs.map (E5 Ora.env)))):=by
 obtain⟨u,e1,e2,r,e3,e4,e5⟩:=N6 h hS;subst e1;refine⟨e5,e2,?_⟩;have:V3 (evU op (xs.map (E5 Ora.env)))=r:=by unfold V3;rw[e3];rfl
 rw[this];exact e4 ρ
def FZ{wd kw c t:Nat}{kc:D4}{nul:Bool}{rows:List (List U)}(hc:Ora.env c=.seq nul wd rows)(hl:kc.length=kw):∀ {ts:I1} {zs:D4} {j:Nat} {m m':Mem} {hs:D4},vJ wd kw c t kc ts zs j m=some (hs,m')→Sat m'.lg →
  L3 m m'∧m.lg.le m'.lg∧hs.length=ts.length∧zs.length=ts.length ∧
  (∀ r,rows.find? (W7 (kc.map (E5 Ora.env)))=some r→∀ i:Nat,i<ts.length→∃ v,hs[i]? = some v∧VR ρ v (V3 (r.getD (j+i) .none))) ∧
  (rows.find? (W7 (kc.map (E5 Ora.env)))=none→∀ i:Nat,i<ts.length→∃ v z,hs[i]? = some v∧zs[i]? = some z∧VR ρ v (V3 (E5 Ora.env z)))
 | [],[],j,m,m',hs,h,hS=>by
   cases h;exact⟨.refl _,.refl _,rfl,rfl,fun r _ i hi=>(by simp at hi),fun _ i hi=>(by simp at hi)⟩
 | [],_::_,j,m,m',hs,h,hS=>by cases h
 | _::_,[],j,m,m',hs,h,hS=>by cases h
 | tg::ts,z::zs,j,m,m',hs,h,hS=>by
   unfold vJ at h;split at h
   ·rename_i v m1 hv;split at h
    ·rename_i r m2 hr;cases h;obtain⟨a1,a2,a3,a4,a5,a6⟩:=FZ hc hl hr hS;have hS1:Sat m1.lg:=hS.le a2;obtain⟨_,_,hvr⟩:=NQ (ρ:=ρ) hv hS1;have hev:evU (.mget wd kw j) ((hole c t::z::kc).map (E5 Ora.env))=(match rows.find? (W7 (kc.map (E5 Ora.env)))with
       | some r=>r.getD j .none
       | none=>E5 Ora.env z):=by
      show evU (.mget wd kw j) (Ora.env c::E5 Ora.env z::kc.map (E5 Ora.env))=_;rw[hc];show(if wd=wd∧(kc.map (E5 Ora.env)).length=kw then _ else U.none)=_;rw[A4 ⟨rfl,by rw[G5];exact hl⟩];cases rows.find? (W7 (kc.map (E5 Ora.env)))<;>rfl
     rw[hev]at hvr;refine⟨(J3 hv).trans a1,(K2 hv).trans a2,by simp[a3],by simp[a4],fun rr hq i hi=>?_,fun hq i hi=>?_⟩
     ·cases i with
      | zero=>rw[hq]at hvr;exact⟨v,rfl,hvr⟩
      | succ i =>
        obtain⟨x,e1,e2⟩:=a5 rr hq i (by simpa using hi);exact⟨x,by simpa using e1,by rw[show j+(i+1)=j+1+i by omega];exact e2⟩
     ·cases i with
      | zero=>rw[hq]at hvr;exact⟨v,z,rfl,rfl,hvr⟩
      | succ i =>
        obtain⟨x,z',e1,e2,e3⟩:=a6 hq i (by simpa using hi);exact⟨x,z',by simpa using e1,by simpa using e2,e3⟩
    ·cases h
   ·cases h
def A9c{vs:D4}(hl:hs.length=vs.length)(h:∀ i:Nat,i<vs.length→∃ v v',hs[i]? = some v∧vs[i]? = some v'∧VR ρ v v'):LR ρ hs vs:=⟨hl,fun i v v' h1 h2=>by
 obtain⟨a,b,e1,e2,e3⟩:=h i (B2.1 h2).1;rw[h1]at e1;rw[h2]at e2;cases e1;cases e2;exact e3⟩
def A4A{a:Bool}(h:A4B a hs=some v)(hl:LR ρ hs (us.map V3)):VR ρ v (e9 a us):=by
 unfold A4B at h;split at h
 ·cases h;exact .agg hl.1 hl.2
 ·cases h;cases us with
  | nil=>have:=hl.1;simp at this
  | cons u us =>
    obtain⟨v',r,e,g,_⟩:=hl.tail;rw[E9,I8]at e;rw[← e.1]at g;exact g
 ·cases h
def YO{T:TypeId}{x k:Value}{ok:Bool}(h:HR P base ρ m.H w)(ho:AX P m T x k ok=some (v,m'))(hx:VR ρ x x')(hk:VR ρ k k')(hS:Sat m'.lg):VOk P base ρ m w (Instr.lookup T x' k' ok) v m':=by
 unfold AX at ho;split at ho
 ·rename_i r y hy;obtain⟨hu,hkt,hvt,hk0,hk1,hv1,hv2⟩:=IN hy;obtain⟨l,hl,rfl⟩:=IX hx;split at ho
  ·rename_i c t T2 kc z hg hkc hz;obtain⟨hT,ho1⟩:=A5 ho;clear ho;have hT:=A0 hT;subst hT;split at ho1
   ·rename_i zc hzc;split at ho1
    ·rename_i hs m1 hgs;split at ho1
     ·rename_i v1 hv;obtain⟨⟨⟨hon,hsh⟩,y2,es,clock,rows,g1,g2,g3,g4,g5⟩,_⟩:=h.atl hl hg;rw[hy]at g1;have g1:=B1 g1;subst g1;obtain⟨k1,k2⟩:=lH hkc hk1 hk;have hzv:VR ρ z z:=.ofC (zK hz).choose_spec.2.2;obtain⟨z1,z2⟩:=lH hzc hv1 hzv;have hkl:kc.length=y.ks.length:=by rw[← k2];simp
      have hS1:Sat m1.lg:=by
       cases ok with
       | false=>cases ho1;exact hS
       | true =>
         simp only[F0]at ho1;split at ho1
         ·rename_i hb;cases ho1;exact hS.le (K2 hb)
         ·cases ho1
      obtain⟨a1,a2,a3,a4,a5,a6⟩:=FZ (ρ:=ρ) g4 hkl hgs hS1;have hfk:=BU (P:=P) (w:=w) hkt k2 g5;have hck:=GQ (P:=P) hkt k2 es.isEmpty w;have hfi:=FW (k:=kc.map (E5 Ora.env)) rows 0;have hre:∀ {us:List U},LR ρ hs (us.map V3)→VR ρ v1 (e9 y.va us):=fun hlr=>A4A hv hlr
      have hval:∃ val,VR ρ v1 val∧(Instr.lookup T2 (.map (some l.blk)) k' ok).run P w=.ok (if ok then .tuple #[val,.bool (rows.any (W7 (kc.map (E5 Ora.env))))]else val) w:=by
       have hgo:(getObj l.blk).run P w=.ok (.map es clock) w:=by simp[getObj,Sem.run,g3]
       have hany:=OH (k:=kc.map (E5 Ora.env)) rows 0;cases hq:pT (kc.map (E5 Ora.env)) rows 0 with
       | none =>
         rw[hq]at hfi hany;have hlr:LR ρ hs ((zc.map (E5 Ora.env)).map V3):=A9c (by rw[a3,G5,G5,a4]) fun i hi=>by
          have hi2:i<y.vs.length:=by rw[G5,G5,a4]at hi;exact hi
          obtain⟨x1,z',e1,e2,e3⟩:=a6 hfi.symm i hi2;exact⟨x1,_,e1,by rw[H6,H6,e2];rfl,e3⟩
         refine⟨z,by rw[z1];exact hre hlr,?_⟩;have hany:rows.any (W7 (kc.map (E5 Ora.env)))=false:=hany.symm;rw[k1];simp only[Instr.lookup,A6,D6 hu,Result.andThen_ok,hgo,hck,hfk,DS,hq,Option.map_none,aZ hz,Sem.run_pure,hany]
       | some p =>
         obtain⟨pi,pr⟩:=p;rw[hq]at hfi hany;obtain⟨_,q1,q2⟩:=tM hq;have q1:rows[pi]? = some pr:=by simpa using q1
         have hpl:pi<es.toList.length:=by rw[← g5.1];exact(B2.1 q1).1
         obtain⟨t1,t2,t3⟩:=g5.2 pi pr es.toList[pi] q1 (A8 hpl);have hprl:pr.length=y.ks.length+y.vs.length:=by
          have:=H3 List.length t1
          simpa using this
         have hlr:LR ρ hs ((pr.drop y.ks.length).map V3):=A9c (by rw[a3,G5,C9];omega) fun i hi=>by
          rw[G5,C9]at hi;obtain⟨x1,e1,e2⟩:=a5 pr hfi.symm i A1;refine⟨x1,_,e1,?_,e2⟩;rw[H6,H9,A8 A1,M6,B4,A8 A1];rfl
         refine⟨e9 y.va (pr.drop y.ks.length),hre hlr,?_⟩;have hany:rows.any (W7 (kc.map (E5 Ora.env)))=true:=hany.symm;rw[k1];simp only[Instr.lookup,A6,D6 hu,Result.andThen_ok,hgo,hck,hfk,DS,hq,M6,Sem.run_pure,hany]
      obtain⟨val,hv3,hrun⟩:=hval;cases ok with
      | false =>
        cases ho1;obtain⟨lg,rfl⟩:=a1;exact⟨val,ρ,w,hrun,hv3,St.wLg h lg⟩
      | true =>
        simp only[F0]at ho1;split at ho1
        ·rename_i b m2 hb;cases ho1;obtain⟨_,_,hbv⟩:=NQ (ρ:=ρ) hb hS;have hev:evU (.mhas y.w y.ks.length) ((hole c t::kc).map (E5 Ora.env))=.bool (rows.any (W7 (kc.map (E5 Ora.env)))):=by
          show evU (.mhas y.w y.ks.length) (Ora.env c::kc.map (E5 Ora.env))=_;rw[g4];show(if y.w=y.w∧(kc.map (E5 Ora.env)).length=y.ks.length then _ else U.none)=_;rw[A4 ⟨rfl,by rw[G5];exact hkl⟩]
         rw[hev]at hbv;obtain⟨lg,rfl⟩:=a1.trans (J3 hb);refine⟨.tuple #[val,.bool (rows.any (W7 (kc.map (E5 Ora.env))))],ρ,w,hrun,?_,St.wLg h lg⟩
         have:=LR.cons hv3 (LR.cons hbv LR.nil);exact .tuple this.1 this.2
        ·cases ho1
     ·cases ho1
    ·cases ho1
   ·cases ho1
  ·cases ho
 ·cases ho
def A0v{i:Nat}{c:List U}(h:yF y rows es.toList)(hc:c.map G7=y.ks++y.vs)(h1:e'.key=e9 y.ka (c.take y.ks.length))(h2:e'.val=e9 y.va (c.drop y.ks.length))(hes:es'.toList=es.toList.set i e'):yF y (rows.set i c) es'.toList:=by
 rw[hes];refine⟨by rw[lZ,lZ];exact h.1,fun j row e hr he=>?_⟩;rw[List.getElem?_set]at hr he;by_cases q:i=j
 ·subst q;rw[A4 rfl]at hr he;split at hr
  ·cases hr;split at he
   ·cases he;exact⟨hc,h1,h2⟩
   ·cases he
  ·cases hr
 ·rw[A3 q]at hr he;exact h.2 j row e hr he
def YH{c:List U}(h:yF y rows es.toList)(hc:c.map G7=y.ks++y.vs)(h1:e'.key=e9 y.ka (c.take y.ks.length))(h2:e'.val=e9 y.va (c.drop y.ks.length)):yF y (rows++[c]) (es.push e').toList:=by
 rw[Array.toList_push];refine⟨by rw[A7,A7,h.1];rfl,fun j row e hr he=>?_⟩;rw[List.getElem?_append]at hr he;rw[h.1]at hr;split at he
 ·rename_i hlt;rw[A4 hlt]at hr;exact h.2 j row e hr he
 ·rename_i hlt;rw[A3 hlt]at hr;cases hj:j-es.toList.length with
  | zero =>
    rw[hj]at hr he;cases hr;cases he;exact⟨hc,h1,h2⟩
  | succ n=>rw[hj]at hr;cases hr
def QV{u v:U}(h1:G7 u<10)(h:isU u v=true):u=v:=by
 unfold isU at h;cases u with
 | int k a =>
   cases v with
   | int j b =>
     simp only[eqU]at h;by_cases e:k=j
     ·subst e;rw[A4 rfl]at h;have h:(a == b)=true:=h;rw[eq_of_beq h]
     ·rw[A3 e]at h;cases h
   | _=>simp[eqU]at h
 | bool a =>
   cases v with
   | bool b =>
     have h:(a == b)=true:=h;rw[eq_of_beq h]
   | _=>simp[eqU]at h
 | str a =>
   cases v with
   | str b =>
     have h:(a == b)=true:=h;rw[eq_of_beq h]
   | _=>simp[eqU]at h
 | seq _ _ _=>simp only[G7]at h1;omega
 | none=>simp only[G7]at h1;omega
def zX:∀ {us vs:List U},us.map G7=vs.map G7→(∀ t ∈ us.map G7,t<10)→W7 us vs=true→us=vs
 | [],[],_,_,_=>rfl
 | [],_::_,h,_,_=>by cases h
 | _::_,[],h,_,_=>by cases h
 | u::us,v::vs,h,ht,hk=>by
   obtain⟨a,b⟩:=B8 (show(isU u v && W7 us vs)=true from hk);simp only[E9,I8]at h;rw[QV (ht _ C5) a,zX h.2 (fun t q=>ht t (C7 _ q)) b]
def GX{u:U}(h:G7 u<10)(n:Nat):Instr.sameBits n (V3 u) (V3 u)=true:=by
 cases u with
 | int k a=>cases n<;>simp[V3,toV,Instr.sameBits]
 | bool b=>cases n<;>simp[V3,toV,Instr.sameBits]
 | str s=>cases n<;>(simp only[V3,toV,cR,Instr.sameBits];show(Array.mk s == Array.mk s)=true;simp)
 | seq _ _ _=>simp only[G7]at h;omega
 | none=>simp only[G7]at h;omega
def ZH{a:Bool}(h:∀ t ∈ us.map G7,t<10)(hn:a=false→us≠[])(n:Nat):Instr.sameBits (n+1) (e9 a us) (e9 a us)=true:=by
 cases a with
 | true =>
   simp only[e9,Instr.sameBits,I7,beq_self_eq_true,true_and,E4];intro p hp;obtain⟨i,hi,he⟩:=List.mem_iff_getElem.1 hp;simp only[List.getElem_zip,List.getElem_map]at he;subst he;exact GX (h _ (R0.2 ⟨_,N9 _,rfl⟩)) n
 | false =>
   cases us with
   | nil=>exact absurd rfl (hn rfl)
   | cons u us=>exact GX (h _ C5) _
def MP{T:TypeId}{x k e e':Value}(h:HR P base ρ m.H w)(hb:base≤w.heap.size)(ho:EY P m T x k e=some (v,m'))(hf:L6 ρ m.n m'.hi)(hx:VR ρ x x')(hk:VR ρ k k')(he:VR ρ e e')(hS:Sat m'.lg):v=undef∧UOk P base ρ m w (Instr.mapUpdate T x' k' e') m':=by
 unfold EY at ho;split at ho
 ·rename_i r y hy;obtain⟨hu,hkt,hvt,hk0,hk1,hv1,hv2⟩:=IN hy;obtain⟨l,hl,rfl⟩:=IX hx;split at ho
  ·rename_i c t T2 kc vc hg hkc hvc;obtain⟨hT,ho1⟩:=A5 ho;clear ho;have hT:=A0 hT;subst hT;rw[P9]at ho1;unfold RV at ho1;split at ho1
   ·rename_i m2 cL;cases ho1;have hlg:=oU cL;obtain⟨e1,e2,nul,wd,rows',e3⟩:=lX (lg:=m'.lg) hS (by rw[hlg];exact .refl _);obtain⟨⟨⟨hon,hsh⟩,y2,es,clock,rows,g1,g2,g3,g4,g5⟩,_⟩:=h.atl hl hg;rw[hy]at g1;have g1:=B1 g1;subst g1;obtain⟨k1,k2⟩:=lH hkc hk1 hk;obtain⟨v1,v2⟩:=lH hvc hv1 he;have hkl:kc.length=y.ks.length:=by rw[← k2];simp
    have hvl:vc.length=y.vs.length:=by rw[← v2];simp
    have hcl:((kc++vc).map (E5 Ora.env)).length=y.w:=by rw[G5,A7,hkl,hvl];rfl
    have hct:((kc++vc).map (E5 Ora.env)).map G7=y.ks++y.vs:=by rw[N4,N4,k2,v2]
    have hctk:((kc++vc).map (E5 Ora.env)).take y.ks.length=kc.map (E5 Ora.env):=by rw[N4,lY (by rw[G5];exact hkl)]
    have hcdr:((kc++vc).map (E5 Ora.env)).drop y.ks.length=vc.map (E5 Ora.env):=by rw[N4,List.drop_left' (by rw[G5];exact hkl)]
    have hev:Ora.env m.lg.nx=.seq false y.w (MS y.ks.length ((kc++vc).map (E5 Ora.env)) rows):=by
     rw[e1];show evU (.mput y.w y.ks.length) (Ora.env c::(kc++vc).map (E5 Ora.env))=_;rw[g4];show(if y.w=y.w∧((kc++vc).map (E5 Ora.env)).length=y.w then _ else U.none)=_;rw[A4 ⟨rfl,hcl⟩]
    rw[MR _ 0,hctk]at hev;have hgo:(getObj l.blk).run P w=.ok (.map es clock) w:=by simp[getObj,Sem.run,g3]
    have hfk:=BU (P:=P) (w:=w) hkt k2 g5;have hck:=GQ (P:=P) hkt k2 false w;have hst:=St.wLg h (hJ m t (.mput y.w y.ks.length) (hole c t::(kc++vc)));have hg':Hp.get (m.wLg (hJ m t (.mput y.w y.ks.length) (hole c t::(kc++vc)))).H r=some (.mp c t T2):=by rw[pU];exact hg
    have hlt:l.blk<w.heap.size:=(D9.1 g3).1;refine⟨rfl,?_⟩;have hso:∀ (es2:Array MapEntry) (clock2:Nat),(setObj l.blk (.map es2 clock2)).run P w=.ok () { w with heap:=w.heap.set l.blk (.map es2 clock2) hlt }:=fun es2 clock2=>by
     have hget:w.heap[l.blk]=.map es clock:=by
      have q:=g3;rw[H4 hlt]at q;exact B1 q
     simp[setObj,Sem.run,hget,Array.setIfInBounds,hlt]
    have fin:∀ (es2:Array MapEntry) (clock2:Nat) (rows2:List (List U)),Ora.env m.lg.nx=.seq false y.w rows2→yF y rows2 es2.toList→(Instr.mapUpdate T2 (.map (some l.blk)) k' e').run P w=.ok () { w with heap:=w.heap.set l.blk (.map es2 clock2) hlt }→UOk P base ρ m w (Instr.mapUpdate T2 (.map (some l.blk)) k' e') m':=fun es2 clock2 rows2 q1 q2 q3=>by
     refine⟨ρ,_,q3,St.trans hf hst (St.write (ab:=.mp c t T2) (ab':=.mp m.lg.nx t T2) hst.hr cL hg' rfl hl hon ⟨rfl,rfl,rfl⟩ (by simp) (fun j hj=>?_) ?_)⟩
     ·show(w.heap.set l.blk _ hlt)[j]? = _;rw[Array.getElem?_set,A3 (fun e=>hj e.symm)]
     ·refine⟨⟨hon,hsh⟩,y,es2,clock2,rows2,hy,g2,?_,q1,q2⟩;show(w.heap.set l.blk _ hlt)[l.blk]? = _;rw[Array.getElem?_set,A4 rfl]
    cases hq:pT (kc.map (E5 Ora.env)) rows 0 with
    | none =>
      rw[hq]at hev;refine fin (es.push ⟨k',e',clock⟩) (clock+1) _ hev (YH g5 hct (by rw[hctk];exact k1) (by rw[hcdr];exact v1)) ?_;rw[k1];simp only[Instr.mapUpdate,A6,D6 hu,Result.andThen_ok,hgo,hck,hfk,DS,hq,Option.map_none,hso]
    | some p =>
      obtain⟨pi,pr⟩:=p;rw[hq]at hev;have hev:Ora.env m.lg.nx=.seq false y.w (rows.set pi ((kc++vc).map (E5 Ora.env))):=hev;obtain⟨_,q1,q2⟩:=tM hq;have q1:rows[pi]? = some pr:=by simpa using q1
      have hpl:pi<es.toList.length:=by rw[← g5.1];exact(B2.1 q1).1
      obtain⟨t1,t2,t3⟩:=g5.2 pi pr es.toList[pi] q1 (A8 hpl);obtain⟨tt1,_⟩:=EC t1;have hsame:kc.map (E5 Ora.env)=pr.take y.ks.length:=by
       refine zX (by rw[k2,tt1]) (by rw[k2];exact hk1) ?_
       have:=vB (kc.map (E5 Ora.env)) pr;rw[G5,hkl]at this;rw[this];exact q2
      have hpi:pi<es.size:=by simpa using hpl
      refine fin (es.modify pi fun e2=>{ e2 with key:=k',val:=e' }) clock _ hev (A0v (e':=⟨k',e',(es[pi]).born⟩) g5 hct (by rw[hctk];exact k1) (by rw[hcdr];exact v1) ?_) ?_
      ·apply bT;intro j;rw[W6,I2,List.getElem?_set];by_cases hj:pi=j
       ·subst hj;rw[A4 rfl,A4 rfl,A4 hpl,H4 hpi];rfl
       ·rw[A3 hj,A3 hj];simp
      ·have hkey:((es[pi]?).map (·.key)).getD k'=k':=by
        rw[H4 hpi];show es[pi].key=k';have t2:es[pi].key=e9 y.ka (pr.take y.ks.length):=t2;rw[t2,← hsame,k1]
       have hbits:Instr.sameBits 10000 k' k'=true:=by
        rw[k1];exact ZH (by rw[k2];exact hk1) (fun _ q=>by have:=H3 List.length k2;rw[q]at this;simp at this;omega) 9999
       have hkts:(Instr.keyThatStays k' k').run P w=.ok k' w:=by
        simp only[Instr.keyThatStays,hbits,if_true,Sem.run_pure]
       have hfk2:(Instr.findKey y.kt k' es.toList).run P w=.ok (some (pi,e9 y.va (pr.drop y.ks.length))) w:=by
        rw[k1,hfk];simp[DS,hq]
       have hck2:(Instr.checkKey false 10000 y.kt k').run P w=.ok () w:=by rw[k1];exact hck
       simp only[Instr.mapUpdate,A6,D6 hu,Result.andThen_ok,hgo,hck2,hfk2,hkey,hkts,hso]
   ·cases ho1
  ·cases ho
 ·cases ho
def A17{T:TypeId}{x:Value}(h:HR P base ρ m.H w)(ho:NS P m T x=some (v,m'))(hx:VR ρ x x')(hS:Sat m'.lg):VOk P base ρ m w (Builtin.len_ ⟨T::tys⟩ ty #[x']) v m':=by
 unfold NS at ho;split at ho
 ·rename_i kt vt r hu;obtain⟨l,hl,rfl⟩:=IX hx;split at ho
  ·rename_i c t T2 hg;obtain⟨⟨⟨hon,hsh⟩,y2,es,clock,rows,g1,g2,g3,g4,g5⟩,_⟩:=h.atl hl hg;obtain⟨q1,⟨lg,rfl⟩,_,_⟩:=nM (ρ:=ρ) ho g4 hS;have hgo:(getObj l.blk).run P w=.ok (.map es clock) w:=by simp[getObj,Sem.run,g3]
   refine⟨_,ρ,w,?_,q1,St.wLg h lg⟩
   have:=g5.1;have e:es.size=rows.length:=by rw[this];simp
   simp[Builtin.len_,A6,D6 hu,Result.andThen,goInt,hgo,e]
  ·cases ho
 ·cases ho
def A5O{T:TypeId}(ho:A10 P m T=some (v,m')):m.lg.le m'.lg:=by
 unfold A10 at ho;split at ho
 ·rw[P9]at ho;rw[cY ho];exact Z0
 ·cases ho
def vI{wd kw c t:Nat}{kc:D4}:∀ {ts:I1} {zs:D4} {j:Nat} {m m':Mem} {hs:D4},vJ wd kw c t kc ts zs j m=some (hs,m')→m.lg.le m'.lg
 | [],[],j,m,m',hs,h=>by cases h;exact .refl _
 | [],_::_,j,m,m',hs,h=>by cases h
 | _::_,[],j,m,m',hs,h=>by cases h
 | tg::ts,z::zs,j,m,m',hs,h=>by
   unfold vJ at h;split at h
   ·rename_i hv;split at h
    ·rename_i hr;cases h;exact(K2 hv).trans (vI hr)
    ·cases h
   ·cases h
def YP{T:TypeId}{x k:Value}{ok:Bool}(ho:AX P m T x k ok=some (v,m')):m.lg.le m'.lg:=by
 unfold AX at ho;split at ho
 ·split at ho
  ·obtain⟨_,ho⟩:=A5 ho;split at ho
   ·split at ho
    ·rename_i hgs;split at ho
     ·cases ok with
      | false=>cases ho;exact vI hgs
      | true =>
        simp only[F0]at ho;split at ho
        ·rename_i hb;cases ho;exact(vI hgs).trans (K2 hb)
        ·cases ho
     ·cases ho
    ·cases ho
   ·cases ho
  ·cases ho
 ·cases ho
def MQ{T:TypeId}{x k e:Value}(ho:EY P m T x k e=some (v,m')):m.lg.le m'.lg:=by
 unfold EY at ho;split at ho
 ·split at ho
  ·obtain⟨_,ho⟩:=A5 ho;rw[P9]at ho;unfold RV at ho;split at ho
   ·rename_i cL;cases ho;rw[oU cL];exact Z0
   ·cases ho
  ·cases ho
 ·cases ho
def A18{T:TypeId}{x:Value}(ho:NS P m T x=some (v,m')):m.lg.le m'.lg:=by
 unfold NS at ho;split at ho
 ·split at ho
  ·exact(cJ ho).2
  ·cases ho
 ·cases ho
end
end
section
open Go
variable [Ora]
section
variable {P:Program} {base:Nat} {ρ:Ren} {m m':Mem} {w:World}
omit [Ora] in
def PS{G:Nat→Option Obj}:∀ {us:List U} {s:List UInt8} {vs:D4},vU us=some s→m7 G us vs→∃ ns:List Int,vs=ns.map (Value.int .u8)∧s=ns.map fun n=>UInt8.ofNat n.toNat
 | [],s,vs,h,he=>by
   cases h;have:vs=[]:=D3.1 he.1.symm;subst this;exact⟨[],rfl,rfl⟩
 | u::us,s,vs,h,he=>by
   unfold vU at h;split at h
   ·rename_i heq;cases heq
   ·rename_i n r heq;cases heq;split at h
    ·split at h
     ·rename_i l hl;cases h;cases vs with
      | nil=>have:=he.1;simp at this
      | cons v vr =>
        obtain⟨ns,e1,e2⟩:=PS (vs:=vr) hl ⟨by have:=he.1;simpa using this,fun i a b h1 h2=>he.2 (i+1) a b (by simpa using h1) (by simpa using h2)⟩
        have:=pL (he.2 0 _ v rfl rfl) rfl;subst this;exact⟨(Int.ofNat n)::ns,by rw[e1];rfl,by rw[e2];rfl⟩
     ·cases h
    ·cases h
   ·cases h
def LU{t:TypeId}{n:Nat}(h:H7 P t=some n):∃ inf,P.info? t=some inf∧inf.size=n:=by
 unfold H7 at h;cases hi:P.info? t with
 | none=>rw[hi]at h;cases h
 | some inf=>rw[hi]at h;exact⟨inf,rfl,B1 h⟩
def LY(d:Nat)(t:TypeId):sameLayout P (d+1) t t=true:=by simp[sameLayout]
def A3V:∃ d,P.depth=d+1:=⟨2*(P.types.size+Made.depth)+1,rfl⟩
def SA{T:TypeId}{n off:Nat}(hs:P.cellsOf T≠0)(hr:off%P.cellsOf T=0)(hn:off / P.cellsOf T+1≤n):liesAt P P.depth T n off T 1=true:=by
 obtain⟨d,hd⟩:=A3V (P:=P);have h1:rowAt P (sameLayout P P.depth · T) P.depth T n off 1=true:=by
  rw[hd];unfold rowAt;simp only[hs,if_false,hr,LY];simp[hn]
 rw[hd]at h1 ⊢;unfold liesAt;rw[hd,h1];rfl
def A3g{s t:TypeId}{x:Value}(h:HR P base ρ m.H w)(ho:WR P m s t x=some (v,m'))(hx:VR ρ x x'):VOk P base ρ m w (convert s t x') v m':=by
 unfold WR at ho;split at ho
 ·rename_i e b o hs ht;obtain⟨l,hl,_,rfl⟩:=R9 hx;split at ho
  ·rename_i k cs T ro hsz hg;obtain⟨hlt,ho⟩:=A5 ho;have hlt:o<cs.length:=A2 hlt;cases ho;obtain⟨inf,hinf,hk⟩:=LU hsz;obtain⟨⟨hon,C,fz,T',h1,h2,_⟩,_⟩:=h.atl hl hg;obtain⟨v',h3,_⟩:=h2 o cs[o] (A8 hlt);have hlt2:l.sh+o<C.size:=(D9.1 h3).1;exact VOk.same h (Lib.run_to_unsafe w ⟨l.blk,o+l.sh,none⟩ hs ht hinf A1 (show w.shape? l.blk=some (T',C.size) by simp[World.shape?,h1]) (by show o+l.sh<C.size;omega)) hx
  ·cases ho
 ·rename_i u b hs ht;obtain⟨l,hl,_,rfl⟩:=R9 hx;split at ho
  ·rename_i k cs T hsz hg;obtain⟨hq,ho1⟩:=A5 ho;clear ho;obtain⟨q1,q2⟩:=B8 hq;have q1:=A0 q1;have q2:=A0 q2;clear hq;subst q1;cases ho1;obtain⟨inf,hinf,hk⟩:=LU hsz;obtain⟨⟨hon,C,fz,T',h1,h2,h3⟩,_⟩:=h.atl hl hg;obtain⟨rfl,_,h4⟩:=h3 rfl;obtain⟨_,h5⟩:=h4 inf hinf;have hc:P.cellsOf T'=k+1:=by unfold Program.cellsOf;rw[hinf];exact hk
   have hlast:k<cs.length:=A1;obtain⟨v',h6,_⟩:=h2 k cs[k] (A8 hlast);have hlt2:l.sh+k<C.size:=(D9.1 h6).1;refine VOk.same h (Lib.run_from_unsafe w ⟨l.blk,0+l.sh,none⟩ hs ht hinf (show w.shape? l.blk=some (T',C.size) by simp[World.shape?,h1]) ?_) hx;show liesAt P P.depth T' (C.size / P.cellsOf T') (0+l.sh) T' 1=true;rw[G0];refine SA A1 (by rw[hc];rw[hk]at h5;exact h5) ?_;rw[hc];have h5:l.sh%(k+1)=0:=by rw[hk]at h5;exact h5
   have e1:l.sh=(k+1)*(l.sh / (k+1)):=by have:=Nat.div_add_mod l.sh (k+1);omega
   refine(Nat.le_div_iff_mul_le A1).2 ?_;rw[I5,iT,q9];omega
  ·cases ho
 ·rename_i e0 e b o n c hs ht;obtain⟨hq,ho1⟩:=A5 ho;clear ho;obtain⟨q1,q2⟩:=B8 hq;have q1:=A0 q1;clear hq;subst q1;split at ho1
  ·rename_i cs T hu hg;split at ho1
   ·rename_i m1 cL;cases ho1;obtain⟨l,mm,hl,rfl⟩:∃ l mm,ρ b=some l∧x'=.slice (some ⟨l.blk,o+l.sh,none⟩) n mm:=by
     cases hx with
     | pure hp=>simp[J1]at hp
     | sl h1 _=>exact⟨_,_,h1,rfl⟩
     | op h1 _ _ _=>exact⟨_,_,h1,rfl⟩
     | opE _=>simp at q2
    obtain⟨⟨hon,C,fz,T',z2,z3,z4⟩,_⟩:=h.atl hl hg;have hsh:w.shape? l.blk=some (T',C.size):=by simp[World.shape?,z2]
    refine⟨_,ρ,w.freeze ⟨l.blk,C.size,none⟩ 1,?_,hx,St.write h cL hg rfl hl hon ?_ ?_ ?_ ?_⟩
    ·simp[convert,run_underlying ht,run_underlying hu,markStringish,hsh]
    ·simp[World.freeze]
    ·simp[World.freeze]
    ·intro j hj;simp only[World.freeze,Nat.one_ne_zero,if_false,I2];rw[A3 (fun e=>hj e.symm)]
    ·refine⟨hon,C,(if fz.1 == fz.2 then(C.size,C.size+1)else(min fz.1 C.size,max fz.2 (C.size+1))),T',?_,z3,fun hc=>⟨(z4 hc).1,(z4 hc).2.1.mark,(z4 hc).2.2⟩⟩;simp only[World.freeze,Nat.one_ne_zero,if_false,I2,if_true,z2,M6]
   ·cases ho1
  ·cases ho1
 ·cases ho
def A1d{op:BinOp}{t:TypeId}{x y:Operand}{a a' b b':Value}(h:HR P base ρ m.H w)(ho:UO P m op t a b=some (v,m'))(ha:VR ρ a a')(hb:VR ρ b b'):VOk P base ρ m w (do eqGuard op t x y a' b';binOp op t a' b') v m':=by
 unfold UO at ho;split at ho
 ·rename_i e b1 o1 b2 o2 hu;obtain⟨hq,ho1⟩:=A5 ho;clear ho;obtain⟨q1,q2⟩:=B8 hq;have q1:=A0 q1;have q2:=A0 q2;clear hq;subst q1;subst q2;obtain⟨l,hl,_,rfl⟩:=R9 ha;obtain⟨l2,hl2,_,rfl⟩:=R9 hb;rw[hl]at hl2
  have:=B1 hl2;subst this;have heq:∀ j,P.info? e=some j→∀ d:Nat,(Op.equalIn (d+1) t (.pointer (some ⟨l.blk,o1+l.sh,none⟩)) (.pointer (some ⟨l.blk,o1+l.sh,none⟩))).run P w=.ok true w:=fun j hj d=>by
   simp[Op.equalIn,run_underlying hu,sizeOf,typeInfo,hj,run_sameAddr_same]
  have hgd:(eqGuard op t x y (.pointer (some ⟨l.blk,o1+l.sh,none⟩)) (.pointer (some ⟨l.blk,o1+l.sh,none⟩))).run P w=.ok () w:=by
   unfold eqGuard;split<;>simp
  split at ho1
  ·rename_i j hj;cases ho1;refine VOk.same h (v':=.bool true) ?_ (.pure rfl);rw[A6,hgd];simp[Result.andThen,binOp,Op.equal,Op.maxDepth,heq j hj 9999]
  ·rename_i j hj;cases ho1;refine VOk.same h (v':=.bool false) ?_ (.pure rfl);rw[A6,hgd];simp[Result.andThen,binOp,Op.equal,Op.maxDepth,heq j hj 9999]
  ·cases ho1
 ·cases ho
def St.laid{o:Obj}(h:HR P base ρ m.H w):St P base ρ ρ m m w { w with heap:=w.heap.push o } :=
 have hk:∀ k,k<w.heap.size→(w.heap.push o)[k]? = w.heap[k]? := fun k hk=>by rw[u5,A3 A1]
 ⟨fun _ _ h=>h,fun b l h1 h2=>(by rw[h1]at h2;cases h2),B0 _,B0 _,fun h=>h,
  ⟨h.dom,fun id hid ab hab=>by
    obtain⟨l,h1,h2,h3⟩:=h.at_ id hid ab hab;exact⟨l,h1,h2.mono (fun _ _ h=>h) (fun k hk2=>hk k (h2.tc hk2)),h3⟩⟩,
  fun _ h=>h,fun b h1 h2=>absurd h1 h2,fun k hk2 _=>hk k hk2,by simp,⟨rfl,rfl,rfl⟩,fun b l h1 h2=>(by rw[h1]at h2;cases h2),fun _ _ _ _=>rfl,fun _ h=>.inr h⟩
def A95{tys:Array TypeId}{x:Value}(h:HR P base ρ m.H w)(ho:sdM P m ty x=some (v,m'))(hx:VR ρ x x'):VOk P base ρ m w (Builtin.unsafeSliceData_ tys ty #[x']) v m':=by
 unfold sdM at ho;split at ho
 ·rename_i e he;split at ho
  ·rename_i b i t;split at ho
   ·rename_i c tc T g ro hg;cases ho;have hx:VR ρ (own b i t) x':=hx;rcases(iL hx).1 with⟨l,wd,h1,h2,h3,rfl⟩|⟨l,wd,rows,h1,h2,h3,h4,h5,rfl⟩
    ·exact VOk.same h rfl (.sdt ⟨l,h1,.inl ⟨h2,rfl⟩⟩)
    ·have hdef:Builtin.unsafeSliceData_ tys ty #[.slice (some ⟨l.blk,l.sh,none⟩) l.len l.cap]=(do
       if l.cap≠0 then pure (.pointer (some ⟨l.blk,l.sh,none⟩))
       else if(← viewAt l.blk).isSome then pure (.pointer (some ⟨l.blk,l.sh,none⟩))
       else pure (.pointer (some ⟨← newObj (.view ⟨l.blk,l.sh,none⟩ (← elemOf ty)),0,none⟩))):=rfl
     rw[hdef];by_cases hc:l.cap=0
     ·rw[A3 (by simpa using hc)];obtain⟨wd2,inf,_,_,_,k4⟩:=SqR.ex (h.atl h1 hg).1;rcases k4 with⟨k5,_⟩|⟨_,k5⟩
      ·rw[h2]at k5;cases k5
      ·obtain⟨C,fz,T',rows2,lg,j1,_⟩:=k5;have hsh:w.shape? l.blk=some (T',C.size):=by simp[World.shape?,j1]
       refine⟨.pointer (some ⟨w.heap.size,0,none⟩),ρ,{ w with heap:=w.heap.push (.view ⟨l.blk,l.sh,none⟩ e) },?_,.sdt ⟨l,h1,.inr ⟨h2,_,rfl,fun h=>absurd hc h⟩⟩,St.laid h⟩;simp[viewAt,hsh,elemOf,D6 he,newObj,Sem.run,A6,Result.andThen]
     ·rw[A4 hc];exact VOk.same h rfl (.sdt ⟨l,h1,.inr ⟨h2,_,rfl,fun _=>rfl⟩⟩)
   ·cases ho
  ·cases ho
 ·cases ho
def A9j{p l p' l':Value}(h:HR P base ρ m.H w)(ho:usM P m pt p l=some (v,m'))(hp:VR ρ p p')(hl:VR ρ l l')(hS:Sat m'.lg)(hf:L6 ρ m.n m'.hi) :
  VOk P base ρ m w (Builtin.unsafeString_ ⟨pt::tys⟩ ty #[p',l']) v m':=by
 have hmax:IntKind.i64.max=9223372036854775807:=rfl;unfold usM at ho;split at ho
 ·rename_i b;obtain⟨htl,ho⟩:=A5 ho;have htl:H5 l<8:=A2 htl;obtain⟨k,n0,rfl,hn1,_⟩:=P8 hl htl;split at ho
  ·rename_i c tc T g e hg hpt;obtain⟨hq,ho1⟩:=A5 ho;clear ho;obtain⟨q1,q2⟩:=B8 hq;have q1:=A0 q1;have q2:=A0 q2;clear hq;subst q1;subst q2;split at ho1
   ·rename_i u m1 hsz hlet;split at ho1
    ·rename_i m2 cL;cases ho1;have hlg:=oU cL;have hS1:Sat m1.lg:=by rw[← hlg];exact hS
     obtain⟨u0,e1,e2,r,e3,e4,e5⟩:=N6 hlet hS1;obtain⟨lg,rfl⟩:=J3 hlet;obtain⟨l0,hl0,hv⟩:=A5e (show VR ρ (sdt b) p' from hp);have hst:=St.wLg h lg;obtain⟨wd,inf,k1,k2,k3,k4⟩:=SqR.ex (h.atl hl0 hg).1;have hwd:wd=1:=A1;subst hwd;have hev:evU .ustr [Ora.env c,.int k n0]=u0:=by
      have:E5 Ora.env (hole c 11)=Ora.env c:=rfl;rw[← this,← hn1];exact e1
     have hsb:∀ nul rows,Ora.env c=.seq nul 1 rows→∃ (n:Nat) (sb:List UInt8),n0=(n:Int)∧n≤rows.length∧n≤1000000000∧yC (rows.take n)=some sb∧u0=.str sb:=fun nul rows hc=>by
      rw[hc]at hev;cases n0 with
      | negSucc z=>have:u0=.none:=hev.symm;subst this;cases e3
      | ofNat n =>
        have hev:(if 1=1∧n≤rows.length∧n≤yE then match yC (rows.take n)with
         | some s=>U.str s
         | none=>.none else .none)=u0:=hev
        split at hev
        ·rename_i hc2;split at hev
         ·rename_i sb hsb;exact⟨n,sb,rfl,hc2.2.1,hc2.2.2,hsb,hev.symm⟩
         ·subst hev;cases e3
        ·subst hev;cases e3
     have hcell:P.cellsOf e=1:=by unfold Program.cellsOf;rw[k2];exact k3
     have hsame:∀ {ρ:Ren} {w:World} {lx:Loc},BR P ρ (.sq c 11 e g false) lx w→BR P ρ (.sq c 11 e g true) lx w:=fun hb=>by
      obtain⟨wd,inf,k1,k2,k3,k4⟩:=SqR.ex hb;refine⟨⟨wd,inf,k1,k2,k3,k4.imp (fun x=>x) fun⟨a,C,fz,T',rows,lg,b1,b2,b3,b4,b5,b6,b7,b8,_⟩=>⟨a,C,fz,T',rows,lg,b1,b2,b3,b4,b5,b6,b7,b8,fun hh=>by cases hh⟩⟩⟩
     have hg':Hp.get (m.wLg lg).H b=some (.sq c 11 e g false):=by rw[pU];exact hg
     have hsts:St P base ρ ρ m m' w w:=St.trans hf hst (St.same0 hst.hr cL hg' rfl hl0 (hsame (hst.hr.atl hl0 hg').1) fun q hq=>hq.imp (fun⟨_,b⟩=>⟨rfl,b⟩) fun⟨hh,_⟩=>by cases hh);rcases hv with⟨hoff,rfl⟩|⟨hon,a,rfl,ha⟩
     ·rcases k4 with⟨_,k5⟩|⟨k5,_⟩
      ·obtain⟨n,sb,rfl,j1,_,j2,rfl⟩:=hsb _ _ k5;have hn:n=0:=by simpa using j1
       subst hn;cases j2;cases e3;refine⟨.string ByteArray.empty,ρ,w,?_,e4 ρ,hsts⟩;have hdef:Builtin.unsafeString_ ⟨pt::tys⟩ ty #[.pointer none,.int k ((0:Nat):Int)] =
         (do
           let n ← asInt (.int k ((0:Nat):Int))
           if n<0 then runtimePanic (.error "unsafe.String: len out of range")
           if n>IntKind.i64.max then unsupported (.unsafePointer "String: a length above the largest int")
           if n=0 then pure (.string .empty)
           else runtimePanic (.error "unsafe.String: ptr is nil and len is not zero")):=rfl
       rw[hdef];simp[asInt,asIntOf,hmax]
      ·rw[hoff]at k5;cases k5
     ·rcases k4 with⟨k5,_⟩|⟨_,k5⟩
      ·rw[hon]at k5;cases k5
      obtain⟨C,fz,T',rows,lg2,z1,z2,z3,z4,z5,z6,z7,z8,z9⟩:=k5;obtain⟨rfl,z10⟩:=z9 rfl;obtain⟨n,sb,rfl,j1,j0,j2,rfl⟩:=hsb _ _ z2;cases e3;have hdef:Builtin.unsafeString_ ⟨pt::tys⟩ ty #[.pointer (some a),.int k (n:Int)] =
       (do
         let n ← asInt (.int k (n:Int))
         if n<0 then runtimePanic (.error "unsafe.String: len out of range")
         if n>IntKind.i64.max then unsupported (.unsafePointer "String: a length above the largest int")
         if n=0 then pure (.string .empty)
         else if ← variablesAt a (← elemOf pt) n.toNat then do
          let s ← loadBytes a .empty n.toNat
          freeze a n.toNat
          pure (.string s)
         else unsupported (.unsafePointer "String: not so many bytes at ptr")):=rfl
      have hneg:¬ (n:Int)<0:=A1;have hbig:¬ (9223372036854775807:Int)<(n:Int):=A1;by_cases hz2:n=0
      ·subst hz2;cases j2;refine⟨.string ByteArray.empty,ρ,w,?_,e4 ρ,hsts⟩;rw[hdef];simp[asInt,asIntOf,hmax]
      ·have hz:¬ (n:Int)=0:=A1;have hcap:l0.cap≠0:=A1;have ha:=ha hcap;subst ha;obtain⟨y1,y2,y3⟩:=JY j2;have hlen:(rows.take n).length=n:=by simp;omega
       have hin:l0.sh+n≤C.size:=A1;obtain⟨ns,r1,r2⟩:∃ ns:List Int,(C.toList.drop l0.sh).take n=ns.map (Value.int .u8)∧sb=ns.map fun n=>UInt8.ofNat n.toNat:=by
        refine PS (G:=lg2.G) y1 ⟨by rw[y2,hlen];simp;omega,fun i u v b1 b2=>?_⟩;have hil:i<n:=by have:=(B2.1 b1).1;rw[y2,hlen]at this;exact this
        have hir:i<rows.length:=A1;have hrow:rows[i]? = some rows[i]:=A8 hir;have hrow2:(rows.take n)[i]? = some rows[i]:=by rw[F9 hil];exact hrow
        have hrl:rows[i].length=1:=z6 _ (N9 hir);have h0:rows[i][0]? = some (rows[i][0]' A1):=A8 A1;obtain⟨_,k4⟩:=y3 i _ 0 _ hrow2 h0;rw[b1]at k4;have k4:=B1 k4;rw[k4];have hc:C[l0.sh+i*1+0]? = some v:=by
         rw[F9 hil,H9]at b2
         simpa using b2
        exact z8 i _ 0 _ v hrow h0 hc
       have hnl:ns.length=n:=by
        have:=H3 List.length r1;simp at this;omega
       have hcells:∀ (j:Nat) (v:Value),(ns.map (Value.int .u8))[j]? = some v→w.cell? ⟨l0.blk,l0.sh+j,none⟩=some v:=fun j v hj=>by
        rw[← r1]at hj;have hjn:j<n:=by have:=(B2.1 hj).1;simp at this;omega
        rw[F9 hjn,H9]at hj;simp only[World.cell?,z1]
        simpa using hj
       have hlb:=gB (P:=P) (w:=w) ns l0.blk l0.sh .empty hcells;rw[hnl]at hlb;have hsh:w.shape? l0.blk=some (T',C.size):=by simp[World.shape?,z1]
       have hlies:=AZ (P:=P) hcell (C.size / P.cellsOf T') l0.sh n (by rw[hcell];simpa using hin);have st2:St P base ρ ρ (m.wLg lg) m' w (w.freeze ⟨l0.blk,l0.sh,none⟩ n):=by
        refine St.write hst.hr cL hg' rfl hl0 hon ?_ ?_ ?_ ?_
        ·simp[World.freeze,hz2]
        ·simp[World.freeze,hz2]
        ·intro j hj;simp only[World.freeze,hz2,if_false,I2];rw[A3 (fun e=>hj e.symm)]
        ·refine⟨⟨1,inf,rfl,k2,k3,.inr ⟨hon,C,(if fz.1 == fz.2 then(l0.sh,l0.sh+n)else(min fz.1 l0.sh,max fz.2 (l0.sh+n))),T',rows,lg2,?_,z2,z3,z4,z5,z6,z7,z8,fun hc=>by cases hc⟩⟩⟩;simp only[World.freeze,hz2,if_false,I2,if_true,z1,M6]
       refine⟨.string ⟨⟨sb⟩⟩,ρ,w.freeze ⟨l0.blk,l0.sh,none⟩ n,?_,e4 ρ,St.trans hf hst st2⟩;rw[hdef];simp[asInt,asIntOf,hmax,hneg,hbig,hz,hz2,variablesAt,hsh,elemOf,D6 hpt,hlies,hlb,freeze,Sem.run,A6,Result.andThen,r2]
    ·cases ho1
   ·cases ho1
  ·cases ho
 ·cases ho
def A9e{fr:Fr}{g:Operand→Value}{o:Oper}(h:HR P base ρ m.H w)(hb:base≤w.heap.size)(ho:xtM P fr m o=some (v,m'))(hf:L6 ρ m.n m'.hi)(hg:FR ρ fr g o.op)(hS:Sat m'.lg):NOk P base ρ m w (execOp g o) v m':=by
 obtain⟨dst,op,ty,pos,af,gd⟩:=o;unfold xtM at ho;simp only at ho hg;have hx1:∀ {x},x ∈ op.operands.toList→VR ρ (ev fr x) (g x):=fun hx=>hg _ hx
 split at ho
 ·rename_i s t x;exact NOk.of (A3g h ho (hx1 (x:=x) (by simp[Op.operands])))
 ·rename_i op t x y yt;exact NOk.of (A1d h ho (hx1 (x:=x) (by simp[Op.operands])) (hx1 (x:=y) (by simp[Op.operands])))
 ·rename_i xs tys;have l1:=dY (ρ:=ρ) (fr:=fr) (g:=g) (xs:=xs.toList) fun y hy=>hg y (by show y ∈ (#[]++xs:Array Operand).toList;simpa using hy)
  split at ho
  ·rename_i x hx;rw[hx]at l1;obtain⟨x',r1,e1,g1,g2⟩:=l1.tail;cases g2.nil_inv;have e2:xs.map g=#[x']:=by apply K1;simpa using e1
   have:=A95 (tys:=tys) h ho g1;have hn:=NOk.of this;obtain⟨ks,e3⟩:∃ ks,execOp g ⟨dst,.call ⟨.builtin .unsafeSliceData,xs,tys⟩,ty,pos,af,gd⟩=builtin .unsafeSliceData tys ty ks (xs.map g):=⟨#[],rfl⟩;rw[e3,e2];exact hn
  ·cases ho
 ·rename_i xs tys;have l1:=dY (ρ:=ρ) (fr:=fr) (g:=g) (xs:=xs.toList) fun y hy=>hg y (by show y ∈ (#[]++xs:Array Operand).toList;simpa using hy)
  split at ho
  ·rename_i p l t rest hx ht;rw[hx]at l1;obtain⟨x',r1,e1,g1,g2⟩:=l1.tail;obtain⟨y',r2,rfl,g3,g4⟩:=g2.tail;cases g4.nil_inv;have e2:xs.map g=#[x',y']:=by apply K1;simpa using e1
   have hn:=NOk.of (A9j (ty:=ty) (tys:=rest) h ho g1 g3 hS hf);obtain⟨ks,e3⟩:∃ ks,execOp g ⟨dst,.call ⟨.builtin .unsafeString,xs,tys⟩,ty,pos,af,gd⟩=builtin .unsafeString tys ty ks (xs.map g):=⟨#[],rfl⟩;have e4:tys=⟨t::rest⟩:=by rw[← ht]
   rw[e3,e2,e4];exact hn
  ·cases ho
 ·rename_i t;exact NOk.of (A5N h hb ho hf hS)
 ·rename_i t x k ok;exact NOk.of (YO h ho (hx1 (x:=x) (by simp[Op.operands])) (hx1 (x:=k) (by simp[Op.operands])) hS)
 ·rename_i t x k e;obtain⟨rfl,hu⟩:=MP h hb ho hf (hx1 (x:=x) (by simp[Op.operands])) (hx1 (x:=k) (by simp[Op.operands])) (hx1 (x:=e) (by simp[Op.operands])) hS;exact NOk.ofU hu
 ·rename_i t x k e;obtain⟨rfl,hu⟩:=MP h hb ho hf (hx1 (x:=x) (by simp[Op.operands])) (hx1 (x:=k) (by simp[Op.operands])) (hx1 (x:=e) (by simp[Op.operands])) hS;exact NOk.ofU hu
 ·rename_i xs tys;have l1:=dY (ρ:=ρ) (fr:=fr) (g:=g) (xs:=xs.toList) fun y hy=>hg y (by show y ∈ (#[]++xs:Array Operand).toList;simpa using hy)
  split at ho
  ·rename_i x t rest hx ht;rw[hx]at l1;obtain⟨x',r1,e1,g1,g2⟩:=l1.tail;cases g2.nil_inv;have e2:xs.map g=#[x']:=by apply K1;simpa using e1
   have hn:=NOk.of (A17 (ty:=ty) (tys:=rest) h ho g1 hS);obtain⟨ks,e3⟩:∃ ks,execOp g ⟨dst,.call ⟨.builtin .len,xs,tys⟩,ty,pos,af,gd⟩=builtin .len tys ty ks (xs.map g):=⟨#[],rfl⟩;have e4:tys=⟨t::rest⟩:=by rw[← ht]
   rw[e3,e2,e4];exact hn
  ·cases ho
 ·cases ho
def A9f{fr:Fr}{o:Oper}(ho:xtM P fr m o=some (v,m')):m.lg.le m'.lg:=by
 unfold xtM at ho;split at ho
 ·unfold WR at ho;split at ho
  ·split at ho
   ·obtain⟨_,ho⟩:=A5 ho;cases ho;exact .refl _
   ·cases ho
  ·split at ho
   ·obtain⟨_,ho⟩:=A5 ho;cases ho;exact .refl _
   ·cases ho
  ·obtain⟨_,ho⟩:=A5 ho;split at ho
   ·split at ho
    ·rename_i cL;cases ho;obtain⟨_,rfl⟩:=X5 cL;exact .refl _
    ·cases ho
   ·cases ho
  ·cases ho
 ·unfold UO at ho;split at ho
  ·obtain⟨_,ho⟩:=A5 ho;split at ho
   ·cases ho;exact .refl _
   ·cases ho;exact .refl _
   ·cases ho
  ·cases ho
 ·split at ho
  ·unfold sdM at ho;split at ho
   ·split at ho
    ·split at ho
     ·cases ho;exact .refl _
     ·cases ho
    ·cases ho
   ·cases ho
  ·cases ho
 ·split at ho
  ·unfold usM at ho;split at ho
   ·obtain⟨_,ho⟩:=A5 ho;split at ho
    ·obtain⟨_,ho⟩:=A5 ho;split at ho
     ·rename_i hl;split at ho
      ·rename_i hs;cases ho;rw[oU hs];exact K2 hl
      ·cases ho
     ·cases ho
    ·cases ho
   ·cases ho
  ·cases ho
 ·exact A5O ho
 ·exact YP ho
 ·exact MQ ho
 ·exact MQ ho
 ·split at ho
  ·exact A18 ho
  ·cases ho
 ·cases ho
end
end
section
open Go
def fw(rd:Option Nat):Fence:={ Fence.wide with round:=rd }
def tQ{rd:Option Nat}{n:Nat}:(fw rd).depth.isSome=true→1≤n:=fun h=>by cases h
def qX{rd:Option Nat}{n:Nat}{P:Program}{f:FuncId}{args:Z5}{w:World}{R:Ending→World→Prop}:CallsIn (fw rd) n P f args w R↔Calls P f args w R :=
 ⟨fun h=>callsIn_wide.1 (show CallsIn Fence.wide n P f args w R from h),fun h=>show CallsIn (fw rd) n P f args w R from(callsIn_wide (n:=n)).2 h⟩
section
variable {P:Program} {rd:Option Nat}
def wpO(P:Program)(rd:Option Nat)(o:Oper)(a:Act)(w:World)(K:Act→World→Prop)(Q:Exit→Act→World→Prop):Prop:=o.wpIn (fw rd) 0 P a w K Q
def KL{o:Oper}{a:Act}{w:World}{K K':Act→World→Prop}{Q:Exit→Act→World→Prop}(h:∀ a w,K a w→K' a w)(hh:wpO P rd o a w K Q):wpO P rd o a w K' Q:=by
 unfold wpO Oper.wpIn at *;refine⟨hh.1,?_⟩;have hh:=hh.2;generalize (o.semAt (fw rd).round a.eval).run P w=r at *;cases r with
 | ok n w' =>
   cases n<;>simp only[Oper.uponIn]at hh ⊢ <;>
    first
     | exact h _ _ hh
     | exact⟨hh.1,CallsIn.mono hh.2 (fun e w'' he=>by cases e<;>first|exact h _ _ he|exact he)⟩
     | exact⟨hh.1,RowsIn.mono hh.2 (fun _ _ he=>h _ _ he)⟩
     | exact⟨hh.1,RoundIn.mono hh.2 (fun e w'' he=>by cases e<;>first|exact h _ _ he|exact he)⟩
 | halt x w'=>cases x<;>simp only[Oper.uponIn]at hh ⊢<;>exact hh
def wpL(P:Program)(rd:Option Nat)(ops:Array Oper)(Q:Exit→Act→World→Prop):List Oper→Act→World→Prop
 | [],a,w=>Q .normal a w
 | o::rest,a,w=>if Region.wanted o (yielded ops a.tmps)then wpO P rd o a w (wpL P rd ops Q rest) Q else wpL P rd ops Q rest (a.put o.dst undef) w
def KM{ops:Array Oper}{Q:Exit→Act→World→Prop}{a:Act}{w:World}{rest:List Oper}{o:Oper}
  (h:∀ K:Act→World→Prop,(∀ a w,wpL P rd ops Q rest a w→K a w)→if Region.wanted o (yielded ops a.tmps)then wpO P rd o a w K Q else K (a.put o.dst undef) w):wpL P rd ops Q (o::rest) a w:=h _ fun _ _ h=>h
def TK{ops:Array Oper}{Q:Exit→Act→World→Prop}:∀ (l:List Oper) (k:Nat),(∀ j,l[j]? = ops[k+j]?)→∀ a w,wpL P rd ops Q l a w→wpOpsIn (fw rd) 0 P ops Q (List.range' k l.length) a w
 | [],k,_,a,w,h=>h
 | o::l,k,hk,a,w,h=>by
   have h0:ops[k]? = some o:=by simpa using(hk 0).symm
   have ih:=TK (Q:=Q) l (k+1) (fun j=>by have:=hk (j+1);simpa [dC,lN 1 j]using this);simp only[B3,List.range'_succ,wpOpsIn,h0];unfold wpL at h;split
   ·rename_i hw;rw[A4 hw]at h;exact KL ih h
   ·rename_i hw;rw[A3 hw]at h;exact⟨fun _ _=>trivial,ih _ _ h⟩
def xN{id:Nat}{ops:Array Oper}{Q:Exit→Act→World→Prop}{a:Act}{w:World}(h:wpL P rd ops Q ops.toList a w):(Code.region id ops false).wpIn (fw rd) 0 P Q a w :=
 wpIn_region (by
  have:=TK ops.toList 0 (by simp) a w h;rw[List.range_eq_range',← U6];exact this)
def jF(P:Program)(rd:Option Nat)(ops:Array Oper)(Q:Exit→Act→World→Prop)(i:Nat)(K:Act→World→Prop)(a:Act)(w:World):Prop :=
 match ops[i]? with
 | none=>K a w
 | some o=>if Region.wanted o (yielded ops a.tmps)then wpO P rd o a w K Q else K (a.put o.dst undef) w
def QG{ops:Array Oper}{Q:Exit→Act→World→Prop}{i:Nat}{a:Act}{w:World}{K K':Act→World→Prop}(h:∀ a w,K a w→K' a w)(hh:jF P rd ops Q i K a w):jF P rd ops Q i K' a w:=by
 unfold jF at *;split
 ·exact h _ _ (by simpa [*]using hh)
 ·rename_i o ho;simp only[ho]at hh;split
  ·rename_i hw;simp only[hw,if_true]at hh;exact KL h hh
  ·rename_i hw;simp only[hw]at hh;exact h _ _ hh
def HK{ops:Array Oper}{Q:Exit→Act→World→Prop}{i:Nat}{rest:I1}{a:Act}{w:World}(h:jF P rd ops Q i (wpOpsIn (fw rd) 0 P ops Q rest) a w):wpOpsIn (fw rd) 0 P ops Q (i::rest) a w:=by
 unfold jF at h;simp only[wpOpsIn];split at h
 ·rename_i hn;simp only[hn];exact h
 ·rename_i o ho;simp only[ho];split at h
  ·rename_i hw;rw[A4 hw];exact h
  ·rename_i hw;rw[A3 hw];exact⟨fun _ _=>trivial,h⟩
def kK(P:Program)(rd:Option Nat)(md:Region.Mode)(ops:Array Oper)(Q:Exit→Act→World→Prop):Nat→Array Bool→Act→World→Prop
 | 0,listed,a,w=>Region.ready md ops listed=[]∧Q .normal a w
 | fuel+1,listed,a,w=>(Region.ready md ops listed=[]→Q .normal a w)∧∀ i ∈ Region.ready md ops listed,jF P rd ops Q i (kK P rd md ops Q fuel (listed.setIfInBounds i true)) a w
def HL{md:Region.Mode}{ops:Array Oper}{Q:Exit→Act→World→Prop}:∀ (fuel t:Nat) (listed:Array Bool) (a:Act) (w:World),kK P rd md ops Q fuel listed a w→wpOpsIn (fw rd) 0 P ops Q (Region.linearise.go md ops fuel t listed []) a w:=by
 intro fuel;induction fuel with
 | zero=>intro t listed a w h;simpa [Region.linearise.go,wpOpsIn]using h.2
 | succ fuel ih =>
   intro t listed a w h;obtain⟨h0,h1⟩:=h;simp only[Region.linearise.go];change wpOpsIn (fw rd) 0 P ops Q (match (Region.ready md ops listed)[t%(Region.ready md ops listed).length]? with
    | some i=>Region.linearise.go md ops fuel (t / (Region.ready md ops listed).length) (listed.setIfInBounds i true) [i]
    | none=>[].reverse) a w
   cases hi:(Region.ready md ops listed)[t%(Region.ready md ops listed).length]? with
   | none =>
     have hnil:Region.ready md ops listed=[]:=by
      cases hr:Region.ready md ops listed with
      | nil=>rfl
      | cons x xs =>
        rw[hr]at hi;have hlt:t%(x::xs).length<(x::xs).length:=rF _ (by simp);simp at hi;simp at hlt;omega
     simpa [wpOpsIn]using h0 hnil
   | some i =>
     simp only[];rw[linearise_go_acc,List.reverse_singleton,List.singleton_append];exact HK (QG (fun a w=>ih _ _ a w) (h1 i (E6 hi)))
def mJ{id:Nat}{ops:Array Oper}{Q:Exit→Act→World→Prop}{a:Act}{w:World}(hm:P.follows .mixedOrders=true)
  (h:kK P rd .any ops Q ops.size (Array.replicate ops.size false) a { w with drawn:=w.drawn+1 }):(Code.region id ops true).wpIn (fw rd) 0 P Q a w :=
 wpIn_region_draw fun t=>by
  simp only[Region.schedule,hm,Bool.true_or,if_true];exact HL ops.size t _ a _ h
def aK{b:Frame}{a:Act}{k:List Item}{w:World} :step P (lone (b.atR a (.code (.scope c)::k)) cs w)=.next (lone (b.atR a (.code c::.inScope c::k)) cs w) :=
 step_lone_go (by simp[stepG,stepG.exec,Frame.atR])
def DM{b:Frame}{a:Act}{k:List Item}{w:World} :step P (lone (b.atR a (.inScope c::k)) cs w)=.next (lone (b.atR a k) cs w) :=
 step_lone_go (by simp[stepG,stepG.exec,Frame.atR])
def Exit.calm(Q:Exit→Act→World→Prop):Exit→Act→World→Prop
 | .goto _,_,_=>False
 | e,a,w=>Q e a w
def QH{F:Fence}{n:Nat}{Q:Exit→Act→World→Prop}{a:Act}{w:World}(h:c.wpIn F n P (Exit.calm Q) a w):(Code.scope c).wpIn F n P Q a w:=by
 intro b k cs hro hb hr;have h0:(lone (b.atR a (.code (.scope c)::k)) cs w).fenced P F:=fenced_calm hb hr rfl;obtain⟨e,a₁,w₁,hq,harr⟩:=h b (.inScope c::k) cs hro hb hr;cases e with
 | normal=>exact⟨.normal,a₁,w₁,hq,.head h0 aK (StepsIn.trans harr (.one (fenced_calm hb hr rfl) DM))⟩
 | exit id =>
   have hx:exitTo id (.inScope c::k)=exitTo id k:=rfl;exact⟨.exit id,a₁,w₁,hq,fun k' hk=>.head h0 aK (harr.1 k' (by rw[hx];exact hk)),
    fun hr' hk=>let ⟨k₁,h1,h2⟩:=harr.2 hr' (by rw[hx];exact hk);⟨k₁,h1,.head h0 aK h2⟩⟩
 | goto l=>exact hq.elim
 | ret=>exact⟨_,a₁,w₁,hq,.of_steps (.one h0 aK) harr⟩
 | panic ch=>exact⟨_,a₁,w₁,hq,.of_steps (.one h0 aK) harr⟩
 | outgrown=>exact⟨_,a₁,w₁,hq,.of_steps (.one h0 aK) harr⟩
end
end
section
open Go
def pS(o:Op)(g:Operand→Value):Sem Value :=
 match o with
 | .move x|.assign x=>pure (g x)
 | .load t x=>Instr.loadAt t (g x)
 | .store t x y=>do Instr.storeAt t (g x) (g y);pure undef
 | _=>stuck "no such operation"
def vS(P:Program)(o:Oper)(s:Act×World):Option (Act×World) :=
 match (pS o.op s.1.eval).run P s.2 with
 | .ok v w'=>some (s.1.put o.dst v,w')
 | .halt _ _=>none
section
variable {P:Program} {rd:Option Nat}
def zF{o:Oper}{s t:Act×World}(h:vS P o s=some t):∃ v,(pS o.op s.1.eval).run P s.2=.ok v t.2∧t.1=s.1.put o.dst v:=by
 unfold vS at h;split at h
 ·rename_i v w' hr;cases h;exact⟨v,hr,rfl⟩
 ·cases h
def pM{o:Oper}{s:Act×World}(h:(pS o.op s.1.eval).run P s.2=.ok v w'):vS P o s=some (s.1.put o.dst v,w'):=by
 unfold vS;rw[h]
def ZL{o:Oper}(hc:JV o.op=true)(w:World)(g:Operand→Value):o.about P w g=none:=by
 unfold Oper.about;cases ho:o.op<;>rw[ho]at hc<;>first|rfl|cases hc
def UC{o:Oper}(hc:JV o.op=true)(g:Operand→Value):∀ c,o.op≠.defer c:=fun c h=>by rw[h]at hc;cases hc
def A4X{o:Oper}(hc:JV o.op=true){a a':Act}{w:World}{K:Act→World→Prop}{Q:Exit→Act→World→Prop}(h:vS P o (a,w)=some (a',w'))(hk:K a' w'):wpO P rd o a w K Q:=by
 obtain⟨v,h1,h2⟩:=zF h;simp only at h1 h2;subst h2;unfold wpO Oper.wpIn;refine⟨fun f hf=>(by rw[ZL hc]at hf;cases hf),?_⟩;rw[Oper.semAt_eq _ _ _ (UC hc a.eval)];cases ho:o.op<;>rw[ho]at hc h1<;>first
  | cases hc;done
  | skip
 ·have e:(execOp a.eval o)=pure (.value (a.eval ‹Operand›)):=by unfold execOp;rw[ho]
  rw[e];cases h1;exact hk
 ·have e:(execOp a.eval o)=pure (.value (a.eval ‹Operand›)):=by unfold execOp;rw[ho]
  rw[e];cases h1;exact hk
 ·rename_i t x;have e:(execOp a.eval o)=(do pure (.value (← Instr.loadAt t (a.eval x)))):=by unfold execOp;rw[ho]
  have h1:(Instr.loadAt t (a.eval x)).run P w=.ok v w':=h1;rw[e];simp only[A6,h1,Result.andThen,Sem.run_pure];exact hk
 ·rename_i t x y;have e:(execOp a.eval o)=(do Instr.storeAt t (a.eval x) (a.eval y);pure .skip):=by unfold execOp;rw[ho]
  have h1:(do Instr.storeAt t (a.eval x) (a.eval y);pure undef:Sem Value).run P w=.ok v w':=h1;rw[e];simp only[A6]at h1 ⊢;cases hr:(Instr.storeAt t (a.eval x) (a.eval y)).run P w with
  | ok u w2=>rw[hr]at h1;simp only[Result.andThen,Sem.run_pure]at h1 ⊢;cases h1;exact hk
  | halt x w2=>rw[hr]at h1;cases h1
def A56{o:Oper}(hc:JV o.op=true){a:Act}{w:World}{K:Act→World→Prop}{Q:Exit→Act→World→Prop}(hq:∀ c a w,¬Q (.panic c) a w)(h:wpO P rd o a w K Q):∃ a' w',vS P o (a,w)=some (a',w')∧K a' w':=by
 unfold wpO Oper.wpIn at h;obtain⟨_,h⟩:=h;rw[Oper.semAt_eq _ _ _ (UC hc a.eval)]at h;cases ho:o.op<;>rw[ho]at hc<;>first
  | cases hc;done
  | skip
 ·rename_i x;have e:(execOp a.eval o)=pure (.value (a.eval x)):=by unfold execOp;rw[ho]
  rw[e]at h;exact⟨_,_,pM (s:=(a,w)) (v:=a.eval x) (w':=w) (by rw[ho];rfl),h⟩
 ·rename_i x;have e:(execOp a.eval o)=pure (.value (a.eval x)):=by unfold execOp;rw[ho]
  rw[e]at h;exact⟨_,_,pM (s:=(a,w)) (v:=a.eval x) (w':=w) (by rw[ho];rfl),h⟩
 ·rename_i t x;have e:(execOp a.eval o)=(do pure (.value (← Instr.loadAt t (a.eval x)))):=by unfold execOp;rw[ho]
  rw[e]at h;simp only[A6]at h;cases hr:(Instr.loadAt t (a.eval x)).run P w with
  | ok v w' =>
    rw[hr]at h;exact⟨_,_,pM (s:=(a,w)) (v:=v) (w':=w') (by rw[ho];exact hr),h⟩
  | halt y w' =>
    rw[hr]at h;cases y<;>first|exact absurd h (hq _ _ _)|exact h.elim
 ·rename_i t x y;have e:(execOp a.eval o)=(do Instr.storeAt t (a.eval x) (a.eval y);pure .skip):=by unfold execOp;rw[ho]
  rw[e]at h;simp only[A6]at h;cases hr:(Instr.storeAt t (a.eval x) (a.eval y)).run P w with
  | ok u w' =>
    rw[hr]at h;refine⟨_,_,pM (s:=(a,w)) (v:=undef) (w':=w') ?_,h⟩;rw[ho];show(do Instr.storeAt t (a.eval x) (a.eval y);pure undef:Sem Value).run P w=_;simp only[A6,hr,Result.andThen,Sem.run_pure]
  | halt z w' =>
    rw[hr]at h;cases z<;>first|exact absurd h (hq _ _ _)|exact h.elim
def A1W{a:Act}{e:Option Tmp}{u:Value}(h:∀ x y,d=some x→e=some y→x≠y):(a.put d v).put e u=(a.put e u).put d v:=by
 cases d with
 | none=>rfl
 | some x=>cases e with
   | none=>rfl
   | some y =>
     have hn:=h x y rfl rfl;unfold Act.put;simp only;congr 1
     exact Array.setIfInBounds_comm _ _ hn
def kA{a:Act}{x:Operand}(h:∀ t,d=some t→t ∉ sC x):(a.put d v).eval x=a.eval x:=by
 cases x with
 | const c=>cases d<;>rfl
 | tmp t =>
   cases d with
   | none=>rfl
   | some y =>
     have:y≠t:=fun e=>h y rfl (by subst e;exact H8.2 rfl)
     unfold Act.put Act.eval;simp only[B9];rw[Array.getElem?_setIfInBounds_ne this]
 | _=>cases d<;>rfl
variable [Ora]
def DV(P:Program)(w:World)(t:TypeId)(p:Value):Prop :=
 ∃ b o C T fz s g,p=.pointer (some ⟨b,o,none⟩)∧w.heap[b]? = some (.cells C T fz)∧H7 P t=some s∧bF P t=some g∧o+s≤C.size∧o<C.size
def FM{t:TypeId}{b o s:Nat}{C:Z5}{T:TypeId}{g:Bool}(hs:H7 P t=some s)(hg:bF P t=some g)(h1:o+s≤C.size)(h2:o<C.size):∃ v,∀ w:World,w.heap[b]? = some (.cells C T fz)→(Instr.loadAt t (.pointer (some ⟨b,o,none⟩))).run P w=.ok v w:=by
 have hcell:∀ w:World,w.heap[b]? = some (.cells C T fz)→∀ j v,C[o+j]? = some v→w.cell? ⟨b,o+j,none⟩=some v:=fun w hw j v hv=>by simp[World.cell?,hw,hv]
 cases g with
 | true =>
   refine⟨.agg ⟨(C.toList.drop o).take s⟩,fun w hw=>?_⟩;have hl:((C.toList.drop o).take s).length=s:=by rw[D5,C9,U6];omega
   have hld:=L5 (P:=P) (w:=w) (b:=b) (o:=o) hl (fun j v hj=>by
    have hjs:j<s:=by have:=(B2.1 hj).1;omega
    rw[F9 hjs,H9,W6]at hj;exact hcell w hw j v hj)
   unfold Instr.loadAt;simp[A6,Instr.sureAddr,loadVar,cW hg,M1 hs,Result.andThen,hld]
 | false =>
   refine⟨C[o],fun w hw=>?_⟩
   have:=hcell w hw 0 C[o] (by simp[h2]);unfold Instr.loadAt;simp[A6,Instr.sureAddr,loadVar,cW hg,Result.andThen,run_load,show w.cell? ⟨b,o,none⟩=some C[o]from by simpa using this]
def zU{b o:Nat}{T:TypeId}{fz:Nat×Nat}:∀ (vs:List Value) (i:Nat) (C:Array Value) (w w':World),w.heap[b]? = some (.cells C T fz)→o+i+vs.length≤C.size→(storeCells ⟨b,o,none⟩ vs i).run P w=.ok () w' →
  (∀ k,k≠b→w'.heap[k]? = w.heap[k]?)∧∃ C',w'.heap[b]? = some (.cells C' T fz)∧C'.size=C.size
 | [],i,C,w,w',h,_,hr=>by cases hr;exact⟨fun _ _=>rfl,C,h,rfl⟩
 | v::r,i,C,w,w',h,hl,hr=>by
   simp only[B3]at hl;have hlt:o+i<C.size:=A1;have hc:w.cell? ⟨b,o+i,none⟩=some C[o+i]:=by simp[World.cell?,h,hlt]
   have hb:(w.setCell ⟨b,o+i,none⟩ v).heap[b]? = some (.cells (C.setIfInBounds (o+i) v) T fz):=by
    simp[World.setCell,I2,h]
   unfold storeCells at hr;simp only[A6,L5.add_none']at hr;have hst:(store ⟨b,o+i,none⟩ v).run P w=.ok () (w.setCell ⟨b,o+i,none⟩ v)∨∃ x w2,(store ⟨b,o+i,none⟩ v).run P w=.halt x w2:=by
    unfold store;cases v<;>first
     | exact .inr ⟨_,_,rfl⟩
     | (simp only[Sem.run,hc]
        split
        ·exact .inr ⟨_,_,rfl⟩
        ·exact .inl rfl)
   rcases hst with hst|⟨x,w2,hst⟩
   ·rw[hst]at hr;simp only[Result.andThen]at hr;obtain⟨k1,C',k2,k3⟩:=zU r (i+1) _ _ _ hb (by simp;omega) hr;refine⟨fun k hk=>?_,C',k2,by rw[k3];simp⟩;rw[k1 k hk];simp only[World.setCell,I2];rw[A3 (fun e=>hk e.symm)]
   ·rw[hst]at hr;cases hr
def HS{t:TypeId}{b o s:Nat}{C:Z5}{T:TypeId}{y:Value}{w:World}(hs:H7 P t=some s)(hw:w.heap[b]? = some (.cells C T fz))(h1:o+s≤C.size)(hr:(Instr.storeAt t (.pointer (some ⟨b,o,none⟩)) y).run P w=.ok () w') :
  (∀ k,k≠b→w'.heap[k]? = w.heap[k]?)∧∃ C',w'.heap[b]? = some (.cells C' T fz)∧C'.size=C.size:=by
 unfold Instr.storeAt at hr;simp only[A6,Instr.sureAddr,storeVar,M1 hs,Result.andThen,Sem.run_pure]at hr;by_cases hq:y.cells.size≠s
 ·rw[A4 hq]at hr;cases hr
 ·rw[A3 hq]at hr;have hq:=Classical.not_not.1 hq;exact zU y.cells.toList 0 C w w' hw (by rw[U6,hq];omega) hr
structure QE (P:Program) (ops:List Oper) (s:Act×World):Prop where
 pl:∀ o ∈ ops,∀ t x,oK o.op=some (t,x)→DV P s.2 t (s.1.eval x)
 ap:∀ i j a b,i<j→ops[i]? = some a→ops[j]? = some b→uA b i=false→(iK a.op || iK b.op)=true→∀ t x u y,oK a.op=some (t,x)→oK b.op=some (u,y)→∀ p q,s.1.eval x=.pointer (some p)→s.1.eval y=.pointer (some q)→p.block≠q.block
def BM{b:Nat}:aT l b=true↔b ∈ l:=by
 unfold aT;rw[V2];constructor
 ·rintro⟨x,h,e⟩;have:=A0 e;subst this;exact h
 ·intro h;exact⟨b,h,fI b⟩
def NA{ads:List Tmp}:∀ {l:List Oper} {k i:Nat} {o:Oper},A1q ads k l=true→l[i]? = some o→B0J ads (k+i) o=true
 | [],k,i,o,_,h=>by simp at h
 | p::l,k,0,o,h,hi=>by
   simp at hi;subst hi;exact(B8 h).1
 | p::l,k,i+1,o,h,hi=>by
   have:=NA (l:=l) (k:=k+1) (i:=i) (o:=o) (B8 h).2 (by simpa using hi);rw[show k+(i+1)=k+1+i by omega];exact this
structure One (ops:List Oper) (i:Nat) (o:Oper):Prop where
 cls:JV o.op=true
 grd:o.guard=none
 ads:∀ p ∈ ops,∀ t x,oK p.op=some (t,x)→∀ d,o.dst=some d→d ∉ sC x
 lt:∀ e ∈ o.after,Region.binds .any e=true→e.on<i
def oY{ops:List Oper}(h:mW ops=true){i:Nat}{o:Oper}(hi:ops[i]? = some o):One ops i o:=by
 have h1:=NA (B8 h).1 hi;rw[G0]at h1;unfold B0J at h1;obtain⟨a1,h1⟩:=B8 h1;obtain⟨a2,h1⟩:=B8 h1;obtain⟨a3,a4⟩:=B8 h1;refine⟨a1,?_,fun p hp t x hx d hd hm=>?_,fun e he hb=>?_⟩
 ·cases hg:o.guard with
  | none=>rfl
  | some g=>rw[hg]at a2;cases a2
 ·have:aT (A4H ops) d=true:=BM.2 (List.mem_flatMap.2 ⟨p,hp,by rw[hx];exact hm⟩);unfold EW at a3;rw[hd]at a3;simp only at a3;rw[this]at a3;cases a3
 ·have:=hH.1 a4 e he;rw[hb]at this;exact A2 this
def MG{p:Oper→Oper→Bool}{ops:List Oper}(h:IF p ops=true){i j:Nat}{a b:Oper}(hij:i<j)(hi:ops[i]? = some a)(hj:ops[j]? = some b)(he:uA b i=false):p a b=true:=by
 unfold IF at h;have hjl:=(B2.1 hj).1
 have:=E4.1 (E4.1 h j (bS.2 hjl)) i (bS.2 hij);rw[hi,hj]at this;simp only[he,Q4]at this;exact this
def MK{o:Oper}{a:Act}(hd:∀ t,d=some t→t ∉ A1S o.op)(hc:JV o.op=true):pS o.op (a.put d v).eval=pS o.op a.eval:=by
 cases ho:o.op<;>rw[ho]at hc hd<;>first
  | cases hc;done
  | skip
 ·unfold pS;simp only;rw[kA hd]
 ·unfold pS;simp only;rw[kA hd]
 ·unfold pS;simp only;rw[kA hd]
 ·unfold pS;simp only;rw[kA (fun t ht hm=>hd t ht (B5.2 (.inl hm))),kA (fun t ht hm=>hd t ht (B5.2 (.inr hm)))]
def yT{o:Oper}{s:Act×World}(hc:JV o.op=true)(hst:iK o.op=false)(hp:∀ t x,oK o.op=some (t,x)→DV P s.2 t (s.1.eval x))(h:(pS o.op s.1.eval).run P s.2=.ok v w'):w'=s.2:=by
 cases ho:o.op<;>rw[ho]at hc hst h hp<;>first
  | cases hc;done
  | cases hst;done
  | skip
 ·cases h;rfl
 ·cases h;rfl
 ·rename_i t x;obtain⟨b,o',C,T,fz,sz,g,e1,e2,e3,e4,e5,e6⟩:=hp t x rfl;obtain⟨u,hu⟩:=FM (P:=P) (T:=T) (fz:=fz) e3 e4 e5 e6;have h:(Instr.loadAt t (s.1.eval x)).run P s.2=.ok v w':=h;rw[e1,hu s.2 e2]at h;cases h;rfl
def zT{o:Oper}{s:Act×World}(hst:iK o.op=true)(hp:∀ t x,oK o.op=some (t,x)→DV P s.2 t (s.1.eval x))(h:(pS o.op s.1.eval).run P s.2=.ok v w') :
  ∃ t x b o' C T fz,oK o.op=some (t,x)∧s.1.eval x=.pointer (some ⟨b,o',none⟩)∧s.2.heap[b]? = some (.cells C T fz)∧(∀ k,k≠b→w'.heap[k]? = s.2.heap[k]?)∧∃ C',w'.heap[b]? = some (.cells C' T fz)∧C'.size=C.size:=by
 cases ho:o.op<;>rw[ho]at hst h hp<;>first
  | cases hst;done
  | skip
 rename_i t x y;obtain⟨b,o',C,T,fz,sz,g,e1,e2,e3,e4,e5,e6⟩:=hp t x rfl;have h:(do Instr.storeAt t (s.1.eval x) (s.1.eval y);pure undef:Sem Value).run P s.2=.ok v w':=h;simp only[A6]at h;cases hr:(Instr.storeAt t (s.1.eval x) (s.1.eval y)).run P s.2 with
 | ok u w2 =>
   rw[hr]at h;simp only[Result.andThen,Sem.run_pure]at h;cases h;rw[e1]at hr;obtain⟨k1,k2⟩:=HS e3 e2 e5 hr;exact⟨t,x,b,o',C,T,fz,rfl,e1,e2,k1,k2⟩
 | halt z w2=>rw[hr]at h;cases h
def DV.keep{w:World}{t:TypeId}{p:Value}(h:DV P w t p)(hk:∀ (b:Nat) (C:Array Value) (T:TypeId) (fz:Nat×Nat),w.heap[b]? = some (.cells C T fz)→∃ C',w'.heap[b]? = some (.cells C' T fz)∧C'.size=C.size):DV P w' t p:=by
 obtain⟨b,o,C,T,fz,s,g,e1,e2,e3,e4,e5,e6⟩:=h;obtain⟨C',h1,h2⟩:=hk b C T fz e2;exact⟨b,o,C',T,fz,s,g,e1,h1,e3,e4,A1,A1⟩
def QE.step{ops:List Oper}{s s':Act×World}{i:Nat}{o:Oper}(hr:mW ops=true)(hg:QE P ops s)(hi:ops[i]? = some o)(h:vS P o s=some s'):QE P ops s':=by
 obtain⟨v,h1,h2⟩:=zF h;have ho:=oY hr hi;have hmem:=E6 hi;have hev:∀ p ∈ ops,∀ t x,oK p.op=some (t,x)→s'.1.eval x=s.1.eval x:=fun p hp t x hx=>by rw[h2];exact kA (ho.ads p hp t x hx)
 have hk:∀ (b:Nat) (C:Array Value) (T:TypeId) (fz:Nat×Nat),s.2.heap[b]? = some (.cells C T fz)→∃ C',s'.2.heap[b]? = some (.cells C' T fz)∧C'.size=C.size:=fun b C T fz hb=>by
  cases hst:iK o.op with
  | false=>rw[yT ho.cls hst (fun t x hx=>hg.pl o hmem t x hx) h1];exact⟨C,hb,rfl⟩
  | true =>
    obtain⟨t,x,b',o',C0,T0,fz0,e1,e2,e3,e4,C',e5,e6⟩:=zT hst (fun t x hx=>hg.pl o hmem t x hx) h1;by_cases e:b=b'
    ·subst e;rw[e3]at hb;cases hb;exact⟨C',e5,e6⟩
    ·exact⟨C,by rw[e4 b e];exact hb,rfl⟩
 refine⟨fun p hp t x hx=>by rw[hev p hp t x hx];exact(hg.pl p hp t x hx).keep hk,fun i j a b hij h3 h4 h5 h6 t x u y h7 h8 p q h9 h10=>?_⟩;rw[hev a (E6 h3) t x h7]at h9;rw[hev b (E6 h4) u y h8]at h10;exact hg.ap i j a b hij h3 h4 h5 h6 t x u y h7 h8 p q h9 h10
def A3N{ops:List Oper}{s s1 s2:Act×World}{i j:Nat}{a b:Oper}(hr:mW ops=true)(hg:QE P ops s)(hij:i<j)(hi:ops[i]? = some a)(hj:ops[j]? = some b)(he:uA b i=false)(h1:vS P a s=some s1)(h2:vS P b s1=some s2):∃ t,vS P b s=some t∧vS P a t=some s2:=by
 have oa:=oY hr hi;have ob:=oY hr hj;have ma:=E6 hi;have mb:=E6 hj;have hind:=MG (B8 hr).2 hij hi hj he;unfold B3F at hind;obtain⟨i1,hind⟩:=B8 hind;obtain⟨i2,hind⟩:=B8 hind;obtain⟨i3,i4⟩:=B8 hind;have hd1:∀ t,a.dst=some t→t ∉ A1S b.op:=fun t ht hm=>by
  unfold EW at i2;rw[ht]at i2;simp only at i2;rw[BM.2 hm]at i2;cases i2
 have hd2:∀ t,b.dst=some t→t ∉ A1S a.op:=fun t ht hm=>by
  unfold EW at i3;rw[ht]at i3;simp only at i3;rw[BM.2 hm]at i3;cases i3
 have hdd:∀ x y,a.dst=some x→b.dst=some y→x≠y:=fun x y hx hy e=>by
  rw[hx,hy]at i1;simp only at i1;subst e;rw[fI]at i1;cases i1
 obtain⟨v,e1,e2⟩:=zF h1;obtain⟨u,e3,e4⟩:=zF h2;obtain⟨a1,w1⟩:=s1;obtain⟨a2,w2⟩:=s2;obtain⟨a0,w0⟩:=s;simp only at e1 e2 e3 e4;subst e2;subst e4;rw[MK hd1 ob.cls]at e3;suffices hh:∃ w',(pS b.op a0.eval).run P w0=.ok u w'∧(pS a.op a0.eval).run P w'=.ok v w2 by
  obtain⟨w',q1,q2⟩:=hh;refine⟨(a0.put b.dst u,w'),pM (s:=(a0,w0)) q1,?_⟩
  have:=pM (P:=P) (o:=a) (s:=(a0.put b.dst u,w')) (v:=v) (w':=w2) (by show(pS a.op (a0.put b.dst u).eval).run P w'=_;rw[MK hd2 oa.cls];exact q2);rw[this];simp only;rw[A1W hdd]
 have pla:∀ t x,oK a.op=some (t,x)→DV P w0 t (a0.eval x):=fun t x hx=>hg.pl a ma t x hx
 have plb:∀ t x,oK b.op=some (t,x)→DV P w0 t (a0.eval x):=fun t x hx=>hg.pl b mb t x hx
 have hload:∀ {o:Oper} {w w':World} {r:Value},JV o.op=true→iK o.op=false→(∀ t x,oK o.op=some (t,x)→∃ bb oo C T fz s g,a0.eval x=.pointer (some ⟨bb,oo,none⟩)∧w.heap[bb]? = some (.cells C T fz)∧w'.heap[bb]? = some (.cells C T fz)∧H7 P t=some s∧bF P t=some g∧oo+s≤C.size∧oo<C.size)→(pS o.op a0.eval).run P w=.ok r w→(pS o.op a0.eval).run P w'=.ok r w':=fun{o w w' r} hc hst hp h=>by
  cases ho:o.op<;>rw[ho]at hc hst h hp<;>first
   | cases hc;done
   | cases hst;done
   | skip
  ·cases h;rfl
  ·cases h;rfl
  ·rename_i t x;obtain⟨bb,oo,C,T,fz,sz,g,f1,f2,f3,f4,f5,f6,f7⟩:=hp t x rfl;obtain⟨z,hz⟩:=FM (P:=P) (T:=T) (fz:=fz) f4 f5 f6 f7;have h:(Instr.loadAt t (a0.eval x)).run P w=.ok r w:=h;show(Instr.loadAt t (a0.eval x)).run P w'=.ok r w';rw[f1,hz w f2]at h;rw[f1,hz w' f3];cases h;rfl
 cases sa:iK a.op with
 | false =>
   have hw:w1=w0:=yT (s:=(a0,w0)) oa.cls sa pla e1;subst hw;refine⟨w2,e3,?_⟩;refine hload oa.cls sa (fun t x hx=>?_) e1;obtain⟨bb,oo,C,T,fz,sz,g,f1,f2,f3,f4,f5,f6⟩:=pla t x hx;cases sb:iK b.op with
   | false =>
     have hw2:w2=w1:=yT (s:=(a0,w1)) ob.cls sb plb e3;subst hw2;exact⟨bb,oo,C,T,fz,sz,g,f1,f2,f2,f3,f4,f5,f6⟩
   | true =>
     obtain⟨t',x',b',o',C0,T0,fz0,g1,g2,g3,g4,_⟩:=zT (s:=(a0,w1)) sb plb e3;have hne:=hg.ap i j a b hij hi hj he (by rw[sa,sb];rfl) t x t' x' hx g1 _ _ f1 g2;exact⟨bb,oo,C,T,fz,sz,g,f1,f2,(g4 bb hne).trans f2,f3,f4,f5,f6⟩
 | true =>
   have sb:iK b.op=false:=by
    cases h:iK b.op with
    | false=>rfl
    | true=>rw[sa,h]at i4;cases i4
   obtain⟨t',x',b',o',C0,T0,fz0,g1,g2,g3,g4,C1,g5,g6⟩:=zT (s:=(a0,w0)) sa pla e1;have plb1:∀ t x,oK b.op=some (t,x)→DV P w1 t (a0.eval x):=fun t x hx=>(plb t x hx).keep fun b C T fz hb=>by
    by_cases e:b=b'
    ·subst e;rw[g3]at hb;cases hb;exact⟨C1,g5,g6⟩
    ·exact⟨C,by rw[g4 b e];exact hb,rfl⟩
   have hw:w2=w1:=yT (s:=(a0,w1)) ob.cls sb plb1 e3;subst hw;refine⟨w0,?_,e1⟩;refine hload ob.cls sb (fun t x hx=>?_) e3;obtain⟨bb,oo,C,T,fz,sz,g,f1,f2,f3,f4,f5,f6⟩:=plb t x hx;have hne:=hg.ap i j a b hij hi hj he (by rw[sa,sb];rfl) t' x' t x g1 hx _ _ g2 f1;exact⟨bb,oo,C,T,fz,sz,g,f1,(g4 bb (fun e=>hne e.symm)).trans f2,f2,f3,f4,f5,f6⟩
def HY(P:Program)(ops:List Oper):I1→Act×World→Option (Act×World)
 | [],s=>some s
 | i::l,s=>match ops[i]? with
   | some o=>match vS P o s with
     | some s=>HY P ops l s
     | none=>none
   | none=>HY P ops l s
def qH{ops:List Oper}(hr:mW ops=true){j:Nat}{b:Oper}(hj:ops[j]? = some b){l2:I1}{r:Act×World}:∀ (l1:List Nat) (s:Act×World),QE P ops s→(∀ i ∈ l1,i<j∧uA b i=false)→HY P ops (l1++j::l2) s=some r→∃ s1,vS P b s=some s1∧HY P ops (l1++l2) s1=some r
 | [],s,hg,_,h=>by
   simp only[O9,HY,hj]at h;split at h
   ·rename_i s1 h1;exact⟨s1,h1,h⟩
   ·cases h
 | i::l1,s,hg,hl,h=>by
   obtain⟨h0,he⟩:=hl i C5;have hl':∀ i ∈ l1,i<j∧uA b i=false:=fun k hk=>hl k (C7 _ hk)
   simp only[V1,HY]at h ⊢;cases hi:ops[i]? with
   | none =>
     rw[hi]at h;exact qH hr hj l1 s hg hl' h
   | some a =>
     rw[hi]at h;simp only at h ⊢;split at h
     ·rename_i s' h1;obtain⟨s1,q1,q2⟩:=qH hr hj l1 s' (hg.step hr hi h1) hl' h;obtain⟨t,t1,t2⟩:=A3N hr hg h0 hi hj he h1 q1;exact⟨t,t1,by rw[t2];exact q2⟩
     ·cases h
def mD(n:Nat)(listed:Array Bool):I1:=(List.range n).filter fun i=>!listed.getD i true
def sR{n:Nat}{i:Nat}:i ∈ mD n listed↔i<n∧listed.getD i true=false:=by
 unfold mD;rw[R7,bS];simp
def IA(n:Nat)(listed:Array Bool):(mD n listed).Pairwise (· < ·):=List.Pairwise.filter _ List.pairwise_lt_range
def A1R{n:Nat}{i:Nat}{l1 l2:I1}(hi:i<listed.size)(h:mD n listed=l1++i::l2):mD n (listed.setIfInBounds i true)=l1++l2:=by
 have hp:=IA n listed;rw[h]at hp;have hne:∀ k ∈ l1++l2,(k != i)=true:=fun k hk=>by
  have hp:=List.pairwise_append.1 hp;rcases B5.1 hk with hk|hk
  ·have:=hp.2.2 k hk i C5;simp;omega
  ·have:=(List.pairwise_cons.1 hp.2.1).1 k hk;simp;omega
 have e:mD n (listed.setIfInBounds i true)=(mD n listed).filter fun k=>k != i:=by
  unfold mD;rw[List.filter_filter];apply List.filter_congr;intro k _;simp only[B9,G6];by_cases e:i=k
  ·subst e;simp[hi]
  ·simp[e,Ne.symm e]
 rw[e,h,List.filter_append,List.filter_cons];have e1:(i != i)=false:=by simp
 rw[e1];simp only[K0,if_false];rw[t8.2 fun k hk=>hne k (B5.2 (.inl hk)),t8.2 fun k hk=>hne k (B5.2 (.inr hk))]
def FE{ops:Array Oper}(hr:mW ops.toList=true){Q:Exit→Act→World→Prop}:∀ (fuel:Nat) (listed:Array Bool) (a:Act) (w:World) (r:Act×World),listed.size=ops.size→QE P ops.toList (a,w)→(mD ops.size listed).length=fuel→HY P ops.toList (mD ops.size listed) (a,w)=some r→Q .normal r.1 r.2→kK P rd .any ops Q fuel listed a w
 | 0,listed,a,w,r,hsz,hg,hl,h,hq=>by
   have h0:=D3.1 hl;rw[h0]at h;cases h;refine⟨?_,hq⟩;rw[cT];intro i hi;have:i ∈ mD ops.size listed:=by
    unfold Region.ready at hi;rw[R7]at hi;unfold mD;rw[R7];exact⟨hi.1,(B8 hi.2).1⟩
   rw[h0]at this;cases this
 | fuel+1,listed,a,w,r,hsz,hg,hl,h,hq=>by
   have hget:∀ {i:Nat},i<ops.size→∃ o,ops.toList[i]? = some o∧ops[i]? = some o:=fun{i} hi=>⟨ops[i],by simp[hi],by simp[hi]⟩
   refine⟨fun hn=>?_,fun i hi=>?_⟩
   ·
    cases hrm:mD ops.size listed with
    | nil=>rw[hrm]at hl;cases hl
    | cons i t =>
      exfalso;have him:i ∈ mD ops.size listed:=by rw[hrm];exact C5
      obtain⟨i1,i2⟩:=sR.1 him;obtain⟨o,o1,o2⟩:=hget i1;have ho:=oY hr o1;have hpw:=IA ops.size listed;rw[hrm]at hpw;have hmin:∀ k,k<i→listed.getD k false=true:=fun k hk=>by
       have hk2:k<listed.size:=A1;cases hv:listed.getD k true with
       | true=>rw[← hv];simp[B9,hk2]
       | false =>
         have:k ∈ mD ops.size listed:=sR.2 ⟨A1,hv⟩;rw[hrm]at this;rcases C6.1 this with e|hm
         ·omega
         ·have:=(List.pairwise_cons.1 hpw).1 k hm;omega
      have:i ∈ Region.ready .any ops listed:=by
       unfold Region.ready;rw[R7,bS];refine⟨i1,?_⟩;rw[i2,o2];simp only[Bool.not_false,x5,M6,cR];rw[hH];intro e he;cases hb:Region.binds .any e with
       | false=>rfl
       | true=>rw[hmin e.on (ho.lt e he hb)];rfl
      rw[hn]at this;cases this
   ·have hi':=hi;unfold Region.ready at hi;rw[R7,bS]at hi;obtain⟨i1,i2⟩:=hi;obtain⟨o,o1,o2⟩:=hget i1;have ho:=oY hr o1;rw[o2]at i2;obtain⟨i2,i3⟩:=B8 i2;simp only[M6,cR]at i3;have hun:listed.getD i true=false:=by simpa using i2
    have hmem:i ∈ mD ops.size listed:=sR.2 ⟨i1,hun⟩;obtain⟨l1,l2,hspl⟩:=List.append_of_mem hmem;have hpw:=IA ops.size listed;rw[hspl]at hpw;have hfr:∀ k ∈ l1,k<i∧uA o k=false:=fun k hk=>by
     refine⟨(List.pairwise_append.1 hpw).2.2 k hk i C5,?_⟩;cases he:uA o k with
     | false=>rfl
     | true =>
       exfalso;unfold uA at he;rw[Array.any_eq_true']at he;obtain⟨e,hm,he⟩:=he;obtain⟨b1,b2⟩:=B8 he;have b2:=A0 b2
       have:=(hH.1 i3) e hm;rw[b1,b2]at this;simp only[Q3,Q4]at this;have hk2:=(sR (n:=ops.size) (listed:=listed) (i:=k)).1 (by rw[hspl];exact B5.2 (.inl hk));have hk3:k<listed.size:=A1;have hk4:=hk2.2;simp[B9,hk3]at this hk4;rw[this]at hk4;cases hk4
    rw[hspl]at h;obtain⟨s1,q1,q2⟩:=qH hr o1 l1 (a,w) hg hfr h;have cL:=A1R (n:=ops.size) (listed:=listed) (i:=i) (l1:=l1) (l2:=l2) A1 hspl;obtain⟨a1,w1⟩:=s1;unfold jF;rw[o2];simp only;have hw:Region.wanted o (yielded ops a.tmps)=true:=by unfold Region.wanted;rw[ho.grd]
    rw[A4 hw];refine A4X ho.cls q1 (FE hr fuel (listed.setIfInBounds i true) a1 w1 r (by simpa using hsz) (hg.step hr o1 q1) ?_ (by rw[cL];exact q2) hq);rw[cL];have:(l1++i::l2).length=fuel+1:=by rw[← hspl];exact hl
    simp at this ⊢;omega
def ES{ops:Array Oper}(hr:mW ops.toList=true){Q:Exit→Act→World→Prop}:∀ (d k:Nat) (a:Act) (w:World),k+d=ops.size→wpL P rd ops (fun e a' w'=>e=.normal∧Q e a' w') (ops.toList.drop k) a w→∃ r,HY P ops.toList (List.range' k d) (a,w)=some r∧Q .normal r.1 r.2
 | 0,k,a,w,hk,h=>by
   have:ops.toList.drop k=[]:=O0 (by simp;omega);rw[this]at h;exact⟨(a,w),rfl,h.2⟩
 | d+1,k,a,w,hk,h=>by
   have hlt:k<ops.toList.length:=by simp;omega
   rw[r9 hlt]at h;have ho:=oY hr (A8 hlt);unfold wpL at h;have hw:Region.wanted ops.toList[k] (yielded ops a.tmps)=true:=by unfold Region.wanted;rw[ho.grd]
   rw[A4 hw]at h;obtain⟨a',w',h1,h2⟩:=A56 ho.cls (fun c a w hh=>by cases hh.1) h;obtain⟨r,r1,r2⟩:=ES hr d (k+1) a' w' A1 h2;refine⟨r,?_,r2⟩;rw[List.range'_succ];simp only[HY,A8 hlt,h1];exact r1
def A42{ops:Array Oper}(hr:mW ops.toList=true){Q:Exit→Act→World→Prop}{a:Act}{w:World}(hg:∀ w',w'.heap=w.heap→QE P ops.toList (a,w'))(h:∀ d,wpL P rd ops (fun e a' w'=>e=.normal∧Q e a' w') ops.toList a { w with drawn:=d })(d:Nat):kK P rd .any ops Q ops.size (Array.replicate ops.size false) a { w with drawn:=d }:=by
 obtain⟨r,r1,r2⟩:=ES hr ops.size 0 a { w with drawn:=d } A1 (by simpa using h d);have e:mD ops.size (Array.replicate ops.size false)=List.range' 0 ops.size:=by
  unfold mD;rw[List.range_eq_range',t8];intro i hi;have:i<ops.size:=by have:=List.mem_range'.1 hi;omega
  simp[B9,this]
 exact FE hr ops.size _ a _ r (by simp) (hg _ rfl) (by rw[e];simp) (by rw[e];exact r1) r2
end
end
end Go.Sx
