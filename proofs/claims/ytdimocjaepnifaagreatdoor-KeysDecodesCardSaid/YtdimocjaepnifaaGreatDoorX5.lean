import Derived.Test.YtdimocjaepnifaaGreatDoorX4
import Derived.MapKept
import Derived.WideKeyRuns
import Derived.Lib.Builder
import Derived.LoopNIn
import Derived.RangeFuncRecord
set_option linter.all false
set_option maxRecDepth 100000
set_option maxHeartbeats 4000000
namespace Go.Sx
variable {ks l ts:I6}{k' v v' x':Value}{cs:List Frame}{k:Nat}{y:MTy}{d:Option Tmp}{kt pt ty:TypeId}{r us vs:List U}{rows rs:List (List U)}{es es':Array MapEntry}{hs xs:D5}{c:Code}{e':MapEntry}{tys:List TypeId}{w':World}{fz:Nat×Nat}{listed:Array Bool}
section
open Go
variable [Ora]
section
variable {P:Program} {base:Nat} {ρ:Ren} {m m':Mem} {w:World}
def xU:∀ {ts:I6} {cs cs':D5},EO ts cs=true→(∀ t ∈ ts,t<10)→LR ρ cs cs'→(cs.map (E6 Ora.env)).map H1=ts∧cs'=(cs.map (E6 Ora.env)).map Y0
 | [],[],cs',_,_,hl=>by cases hl.nil_inv;exact⟨rfl,rfl⟩
 | t::ts,v::vs,cs',h,ht,hl=>by
   obtain⟨h1,h2⟩:=B8 (show(Nat.beq (I1 v) t && EO ts vs)=true from h);have h1:=A1 h1;obtain⟨v',r,rfl,g1,g2⟩:=hl.tail;obtain⟨a,b⟩:=xU h2 (fun x hx=>ht x (C8 _ hx)) g2;obtain⟨c,d⟩:=cN g1 (by rw[h1];exact ht t C5);have e:Y0 (E6 Ora.env v)=v':=by unfold Y0;rw[c];rfl
   exact⟨by rw[F0,F0,a,d,h1],by rw[F0,F0,e,← b]⟩
 | [],_::_,_,h,_,_=>by cases h
 | _::_,[],_,h,_,_=>by cases h
def mZ{a:Bool}{cs:D5}(h:rW a ts v=some cs)(ht:∀ t ∈ ts,t<10)(hv:VR ρ v v'):v'=t7 a (cs.map (E6 Ora.env))∧(cs.map (E6 Ora.env)).map H1=ts:=by
 unfold rW at h;split at h
 ·rename_i c;obtain⟨h1,h⟩:=A6 h;cases h;obtain⟨cs',rfl,hl⟩:=m5 hv;obtain⟨e1,e2⟩:=xU h1 ht hl;exact⟨by rw[e2];rfl,e1⟩
 ·cases h
 ·obtain⟨h1,h⟩:=A6 h;cases h;obtain⟨e1,e2⟩:=xU h1 ht (LR.cons hv LR.nil);refine⟨?_,e1⟩
  have:=G0 List.head? e2
  simpa [t7]using this
def CN{t:Nat}(h:jN P t=some k):k<10:=by
 unfold jN at h;split at h
 ·cases h;decide
 ·cases h;have:=Q0 ‹_›;omega
 ·cases h;decide
 ·cases h
def SH:∀ {fs:List Field} {i:Nat} {l:I6},zJ P fs i=some l→∀ t ∈ l,t<10
 | [],i,l,h,t,ht=>by cases h;cases ht
 | f::fs,i,l,h,t,ht=>by
   unfold zJ at h;split at h
   ·rename_i a b h1 h2;obtain⟨_,h⟩:=A6 h;cases h;rcases B6.1 ht with rfl|ht
    ·exact CN h1
    ·exact SH h2 t ht
   ·cases h
def ME{T:TypeId}(h:A1W P T=some y):P.underlying T=some (.map y.kt y.vt)∧sL P y.kt=some (y.ka,y.ks)∧XO P y.vt=some (y.va,y.vs)∧0<y.ks.length∧(∀ t ∈ y.ks,t<10)∧(∀ t ∈ y.vs,t<10)∧(y.va=false→y.vs.length=1):=by
 unfold A1W at h;split at h
 ·rename_i kt vt hu;split at h
  ·rename_i ka k ks va vs h1 h2;cases h;refine⟨hu,h1,h2,Nat.succ_pos _,?_,?_,?_⟩
   ·intro t ht;unfold sL at h1;split at h1
    ·cases hs:P.stoodInHeld kt with
     | true=>rw[hs]at h1;cases h1
     | false =>
       rw[hs]at h1;simp only[E7]at h1;split at h1
       ·rename_i l hl;cases h1;exact SH hl t ht
       ·cases h1
    ·split at h1
     ·rename_i z hz;cases h1;simp only[B6,H6,or_false]at ht;subst ht;exact CN hz
     ·cases h1
   ·intro t ht;unfold XO at h2;split at h2
    ·obtain⟨h3,h2⟩:=A6 h2;cases h2;exact A2 (D7.1 h3 t ht)
    ·obtain⟨h3,h2⟩:=A6 h2;cases h2;simp only[B6,H6,or_false]at ht;subst ht;exact A2 h3
    ·cases h2
   ·intro hva;have hva:va=false:=hva;subst hva;unfold XO at h2;split at h2
    ·obtain⟨_,h2⟩:=A6 h2;cases h2
    ·obtain⟨_,h2⟩:=A6 h2;cases h2;rfl
    ·cases h2
  ·cases h
 ·cases h
def YC{t:TypeId}{u v:U}(h:jN P t=some k)(h1:H1 u=k)(h2:H1 v=k)(n:Nat)(w:World):(Op.equalIn (n+1) t (Y0 u) (Y0 v)).run P w=.ok (isU u v) w:=by
 have hk:=CN h;unfold jN at h;split at h
 ·rename_i hu;cases h;cases u<;>simp only[H1]at h1<;>first|omega|skip
  ·have:=Q0 ‹_›;omega
  ·cases v<;>simp only[H1]at h2<;>first|omega|skip
   ·have:=Q0 ‹_›;omega
   ·simp[Y0,toV,isU,eqU,Op.equalIn,A8,D8 hu,Result.andThen]
 ·rename_i j hu;cases h;cases u with
  | int a x =>
    cases v with
    | int b z =>
      have e1:=vO h1;have e2:=vO h2;subst e1;subst e2;simp[Y0,toV,isU,eqU,Op.equalIn,A8,D8 hu,Result.andThen]
    | bool b=>simp only[H1]at h2;have:=Q0 j;omega
    | str s=>simp only[H1]at h2;have:=Q0 j;omega
    | seq _ _ _=>simp only[H1]at h2;omega
    | none=>simp only[H1]at h2;omega
  | bool b=>simp only[H1]at h1;have:=Q0 j;omega
  | str s=>simp only[H1]at h1;have:=Q0 j;omega
  | seq _ _ _=>simp only[H1]at h1;omega
  | none=>simp only[H1]at h1;omega
 ·rename_i hu;cases h;cases u<;>simp only[H1]at h1<;>first|omega|skip
  ·have:=Q0 ‹_›;omega
  ·cases v<;>simp only[H1]at h2<;>first|omega|skip
   ·have:=Q0 ‹_›;omega
   ·rename_i p q
    have:=run_equalIn_string (P:=P) w n t ⟨⟨p⟩⟩ ⟨⟨q⟩⟩ hu;have e:∀ s:List UInt8,Y0 (.str s)=.string ⟨⟨s⟩⟩:=fun _=>rfl
    rw[e,e,this];simp[isU,eqU,ByteArray.toList_eq]
 ·cases h
def A2y{t:TypeId}{d:TypeDesc}{u v:U}(hd:P.underlying t=some d)(h:jN P t=some k)(h1:H1 u=k)(h2:H1 v=k):Instr.sameNow d (Y0 u) (Y0 v)=some (isU u v):=by
 unfold jN at h;split at h
 ·rename_i hu;rw[hu]at hd;cases hd;cases h;cases u<;>simp only[H1]at h1<;>first|omega|skip
  ·have:=Q0 ‹_›;omega
  ·cases v<;>simp only[H1]at h2<;>first|omega|skip
   ·have:=Q0 ‹_›;omega
   ·simp[Y0,toV,isU,eqU,Instr.sameNow]
 ·rename_i j hu;rw[hu]at hd;cases hd;cases h;cases u with
  | int a x =>
    cases v with
    | int b z =>
      have e1:=vO h1;have e2:=vO h2;subst e1;subst e2;simp[Y0,toV,isU,eqU,Instr.sameNow]
    | bool b=>simp only[H1]at h2;have:=Q0 j;omega
    | str s=>simp only[H1]at h2;have:=Q0 j;omega
    | seq _ _ _=>simp only[H1]at h2;have:=Q0 j;omega
    | none=>simp only[H1]at h2;have:=Q0 j;omega
  | bool b=>simp only[H1]at h1;have:=Q0 j;omega
  | str s=>simp only[H1]at h1;have:=Q0 j;omega
  | seq _ _ _=>simp only[H1]at h1;have:=Q0 j;omega
  | none=>simp only[H1]at h1;have:=Q0 j;omega
 ·rename_i hu;rw[hu]at hd;cases hd;cases h;cases u<;>simp only[H1]at h1<;>first|omega|skip
  ·have:=Q0 ‹_›;omega
  ·cases v<;>simp only[H1]at h2<;>first|omega|skip
   ·have:=Q0 ‹_›;omega
   ·rename_i p q;have e:(ByteArray.mk ⟨p⟩ == ByteArray.mk ⟨q⟩)=(p == q):=by
     show(Array.mk p == Array.mk q)=_;rw[M6,beq_iff_eq,beq_iff_eq];exact⟨fun h=>by injection h,fun h=>by rw[h]⟩
    simp[Y0,toV,isU,eqU,Instr.sameNow,e]
 ·cases h
def wZ{t:TypeId}(h:jN P t=some k){X:D5}{i:Nat}(hx:X[i]? = some v)(w:World):(part t ⟨X⟩ i).run P w=.ok v w:=by
 have ha:∀ d,P.underlying t=some d→(match d with|.struct _|.array _ _=>False|_=>True)→(part t ⟨X⟩ i).run P w=.ok v w:=fun d hd hn=>by
  cases d<;>simp only at hn<;>simp[part,isAgg,A8,D8 hd,Result.andThen,hx]
 unfold jN at h;split at h
 ·exact ha _ ‹_› trivial
 ·exact ha _ ‹_› trivial
 ·exact ha _ ‹_› trivial
 ·cases h
def JD:∀ {fs:List Field} {i:Nat} {ks:I6} {us vs:List U} {p q:D5},zJ P fs i=some ks→us.map H1=ks→vs.map H1=ks→p.length=i→q.length=i→∀ (n:Nat) (w:World),(Op.eqFields (n+1) ⟨p++us.map Y0⟩ ⟨q++vs.map Y0⟩ fs).run P w=.ok (Z2 us vs) w
 | [],i,ks,us,vs,p,q,h,h1,h2,hp,hq,n,w=>by
   cases h;have e1:us=[]:=by simpa using h1
   have e2:vs=[]:=by simpa using h2
   subst e1;subst e2;simp[Op.eqFields,Z2]
 | f::fs,i,ks,us,vs,p,q,h,h1,h2,hp,hq,n,w=>by
   unfold zJ at h;split at h
   ·rename_i t l ht hl;obtain⟨hc,h⟩:=A6 h;cases h;obtain⟨hc1,hc2⟩:=B8 hc;have hc2:=A1 hc2;have hn:f.name ≠ "_":=by simpa using hc1
    cases us with
    | nil=>cases h1
    | cons u us =>
      cases vs with
      | nil=>cases h2
      | cons v vs =>
        simp only[F0,H8]at h1 h2;have g1:(p++(u::us).map Y0)[f.offset]? = some (Y0 u):=by rw[hc2,← hp,E8 (B0 _)];simp
        have g2:(q++(v::vs).map Y0)[f.offset]? = some (Y0 v):=by rw[hc2,← hq,E8 (B0 _)];simp
        have e1:=wZ ht g1 w;have e2:=wZ ht g2 w;have e3:=YC ht h1.1 h2.1 n w;have ih:=JD (p:=p++[Y0 u]) (q:=q++[Y0 v]) hl h1.2 h2.2 (by simp[hp]) (by simp[hq]) n w;rw[N1,N1]at ih;unfold Op.eqFields;rw[A4 hn];simp only[Z2];cases hs:isU u v with
        | false =>
          simp only[A8,e1,e2,e3,hs,Result.andThen_ok];simp
        | true =>
          simp only[A8,e1,e2,e3,hs,Result.andThen_ok,Q4];exact ih
   ·cases h
def B38{a:Bool}(h:sL P kt=some (a,ks))(h1:us.map H1=ks)(h2:vs.map H1=ks)(w:World):(Op.equal kt (t7 a us) (t7 a vs)).run P w=.ok (Z2 us vs) w:=by
 unfold sL at h;split at h
 ·rename_i fs hu;cases hs:P.stoodInHeld kt with
  | true=>rw[hs]at h;cases h
  | false =>
    rw[hs]at h;simp only[E7]at h;split at h
    ·rename_i l hl;cases h;have hf:P.fieldsOf kt=fs:=by simp[Program.fieldsOf,hu]
     show(Op.equalIn (9999+1) kt (.agg _) (.agg _)).run P w=_;rw[run_equalIn_struct (P:=P) w 9999 kt _ _ (by rw[hf];exact hu) hs,hf];exact JD (p:=[]) (q:=[]) hl h1 h2 rfl rfl 9998 w
    ·cases h
 ·split at h
  ·rename_i k hk;cases h;cases us with
   | nil=>cases h1
   | cons u us=>cases us with
     | cons _ _=>simp at h1
     | nil=>cases vs with
       | nil=>cases h2
       | cons v vs=>cases vs with
         | cons _ _=>simp at h2
         | nil =>
           simp only[F0,K7,H8,and_true]at h1 h2
           have:=YC hk h1 h2 9999 w;show(Op.equalIn (9999+1) kt (Y0 u) (Y0 v)).run P w=_;rw[this];simp[Z2]
  ·cases h
def FA{t:TypeId}(h:jN P t=some k)(e:Bool)(n:Nat)(v:Value)(w:World):(Instr.checkKey e (n+1) t v).run P w=.ok () w:=by
 unfold jN at h;split at h
 ·rename_i hu;simp[Instr.checkKey,A8,D8 hu,Result.andThen]
 ·rename_i hu;simp[Instr.checkKey,A8,D8 hu,Result.andThen]
 ·rename_i hu;simp[Instr.checkKey,A8,D8 hu,Result.andThen]
 ·cases h
def wG(e:Bool)(n:Nat)(w:World):∀ (L:List Field) (i:Nat) (ks:List Nat) (us:List U) (p:List Value),zJ P L i=some ks→us.map H1=ks→p.length=i →
  (forIn L PUnit.unit fun f (_:PUnit)=>if f.name ≠ "_" then(do let x ← part f.type ⟨p++us.map Y0⟩ f.offset;Instr.checkKey e (n+1) f.type x;pure (ForInStep.yield PUnit.unit):Sem (ForInStep PUnit))else pure (ForInStep.yield PUnit.unit)).run P w=.ok PUnit.unit w
 | [],i,ks,us,p,h,h1,hp=>by simp
 | f::fs,i,ks,us,p,h,h1,hp=>by
   unfold zJ at h;split at h
   ·rename_i t l ht hl;obtain⟨hc,h⟩:=A6 h;cases h;obtain⟨hc1,hc2⟩:=B8 hc;have hc2:=A1 hc2;have hn:f.name ≠ "_":=by simpa using hc1
    cases us with
    | nil=>cases h1
    | cons u us =>
      simp only[F0,H8]at h1;have g1:(p++(u::us).map Y0)[f.offset]? = some (Y0 u):=by rw[hc2,← hp,E8 (B0 _)];simp
      have e1:=wZ ht g1 w;have e2:=FA ht e n (Y0 u) w;have ih:=wG e n w fs (i+1) l us (p++[Y0 u]) hl h1.2 (by simp[hp]);rw[N1]at ih;rw[List.forIn_cons];simp only[A4 hn,A8,e1,e2,Result.andThen_ok,Sem.run_pure];exact ih
   ·cases h
def JP{a:Bool}(h:sL P kt=some (a,ks))(h1:us.map H1=ks)(e:Bool)(w:World):(Instr.checkKey e 10000 kt (t7 a us)).run P w=.ok () w:=by
 unfold sL at h;split at h
 ·rename_i fs hu;cases hs:P.stoodInHeld kt with
  | true=>rw[hs]at h;cases h
  | false =>
    rw[hs]at h;simp only[E7]at h;split at h
    ·rename_i l hl;have h:=h;cases h;have key:∀ n:Nat,(Instr.checkKey e (n+2) kt (.agg ⟨us.map Y0⟩)).run P w=.ok () w:=fun n=>by
      rw[Instr.checkKey];simp only[A8,D8 hu,Result.andThen_ok];rw[← Array.forIn_toList]
      have:=wG e n w fs.toList 0 _ us [] hl h1 rfl;rw[W4]at this;rw[this];rfl
     exact key 9998
    ·cases h
 ·split at h
  ·rename_i k hk;cases h;exact FA hk e 9999 _ w
  ·cases h
def rZ(k:List U):List (List U)→Nat→Option (Nat×List U)
 | [],_=>none
 | r::rs,i=>if Z2 k r then some (i,r)else rZ k rs (i+1)
def xI:∀ (us r:List U),Z2 us (r.take us.length)=Z2 us r
 | [],r=>rfl
 | a::us,[]=>rfl
 | a::us,b::r=>by
   show(isU a b && Z2 us (r.take us.length))=(isU a b && Z2 us r);rw[xI us r]
def AI.head{e:MapEntry}{es:List MapEntry}(h:AI y (r::rs) (e::es)):(r.map H1=y.ks++y.vs∧e.key=t7 y.ka (r.take y.ks.length)∧e.val=t7 y.va (r.drop y.ks.length))∧AI y rs es :=
 ⟨h.2 0 r e rfl rfl,by have:=h.1;simpa using this,fun i row e2 h1 h2=>h.2 (i+1) row e2 (by simpa using h1) (by simpa using h2)⟩
def HB(h:r.map H1=y.ks++y.vs):(r.take y.ks.length).map H1=y.ks∧(r.drop y.ks.length).map H1=y.vs:=by
 constructor
 ·rw[bH,h,nT];rfl
 ·rw[kM,h,List.drop_left'];rfl
abbrev GO(y:MTy)(us:List U)(rows:List (List U))(i:Nat):Option (Nat×Value):=(rZ us rows i).map fun p=>(p.1,t7 y.va (p.2.drop y.ks.length))
def KD{y:MTy}(hk:sL P y.kt=some (y.ka,y.ks)){us:List U}(h1:us.map H1=y.ks):∀ {rows:List (List U)} {es:List MapEntry} (i:Nat),AI y rows es→(Instr.findAsking y.kt (t7 y.ka us) es i).run P w=.ok (GO y us rows i) w
 | [],[],i,_=>by simp[Instr.findAsking,GO,rZ]
 | [],_::_,i,h=>by have:=h.1;simp at this
 | _::_,[],i,h=>by have:=h.1;simp at this
 | r::rs,e::es,i,h=>by
   obtain⟨⟨a,b,c⟩,d⟩:=h.head;obtain⟨t1,t2⟩:=HB a;have hlen:us.length=y.ks.length:=by rw[← h1,H3]
   have e1:=B38 (P:=P) hk h1 t1 w;have e2:Z2 us (r.take y.ks.length)=Z2 us r:=by rw[← hlen];exact xI us r
   have ih:=KD hk h1 (i+1) d;unfold Instr.findAsking;rw[b];simp only[A8,e1,e2,Result.andThen_ok,GO,rZ];cases hq:Z2 us r with
   | true=>simp[c]
   | false=>simp only[K9,if_false];exact ih
def A4V{y:MTy}{k:Nat}{d:TypeDesc}(hd:P.underlying y.kt=some d)(hs:jN P y.kt=some k)(ha:y.ka=false)(hks:y.ks=[k]){u:U}(h1:H1 u=k):∀ {rows:List (List U)} {es:List MapEntry} (i:Nat),AI y rows es→Instr.findNow d (Y0 u) es i=some (GO y [u] rows i)
 | [],[],i,_=>rfl
 | [],_::_,i,h=>by have:=h.1;simp at this
 | _::_,[],i,h=>by have:=h.1;simp at this
 | r::rs,e::es,i,h=>by
   obtain⟨⟨a,b,c⟩,dd⟩:=h.head;cases r with
   | nil=>rw[hks]at a;simp at a
   | cons r0 r =>
     have a0:H1 r0=k:=by rw[hks]at a;simp at a;exact a.1
     have b:e.key=Y0 r0:=by rw[b,ha,hks];rfl
     have e1:=A2y hd hs h1 a0;have ih:=A4V hd hs ha hks h1 (i+1) dd;unfold Instr.findNow;rw[b,e1];simp only[GO,rZ,Z2,kN];cases hq:isU u r0 with
     | true=>simp[c]
     | false=>simp only[K9,if_false];exact ih
def EI(hk:sL P y.kt=some (y.ka,y.ks))(h1:us.map H1=y.ks){es:List MapEntry}(h:AI y rows es):(Instr.findKey y.kt (t7 y.ka us) es).run P w=.ok (GO y us rows 0) w:=by
 have hk0:=hk;unfold sL at hk;split at hk
 ·rename_i fs hu;rw[run_findKey_eq w (by rw[hu]) (t7 y.ka us) es];exact KD hk0 h1 0 h
 ·split at hk
  ·rename_i k hs;have ha:y.ka=false:=(G0 Prod.fst (A9 hk)).symm;have hks:y.ks=[k]:=(G0 Prod.snd (A9 hk)).symm;rw[hks]at h1;cases us with
   | nil=>simp at h1
   | cons u us=>cases us with
     | cons _ _=>simp at h1
     | nil =>
       simp only[F0,K7,H8,and_true]at h1;obtain⟨d,hd⟩:∃ d,P.underlying y.kt=some d:=by
        cases hd:P.underlying y.kt with
        | some d=>exact⟨d,rfl⟩
        | none=>unfold jN at hs;rw[hd]at hs;cases hs
       rw[ha];exact MapKept.run_findKey hd (A4V hd hs ha hks h1 0 h)
  ·cases hk
def SC{k:List U}:∀ (rows:List (List U)) (i:Nat),(rZ k rows i).isSome=rows.any (Z2 k)
 | [],_=>rfl
 | r::rs,i=>by
   simp only[rZ,bJ];cases Z2 k r with
   | true=>rfl
   | false=>simp only[K9,if_false,R7];exact SC rs (i+1)
def IV{k:List U}:∀ (rows:List (List U)) (i:Nat),(rZ k rows i).map (·.2)=rows.find? (Z2 k)
 | [],_=>rfl
 | r::rs,i=>by
   simp only[rZ,fL];cases Z2 k r with
   | true=>rfl
   | false=>simp only[K9,if_false];exact IV rs (i+1)
def vS{k:List U}:∀ {rows:List (List U)} {i j:Nat} {r:List U},rZ k rows i=some (j,r)→i≤j∧rows[j-i]? = some r∧Z2 k r=true
 | [],_,_,_,h=>by cases h
 | x::rs,i,j,r,h=>by
   unfold rZ at h;cases hq:Z2 k x with
   | true=>rw[hq]at h;cases h;exact⟨B0 _,by simp,hq⟩
   | false =>
     rw[hq]at h;obtain⟨a,b,c⟩:=vS (rows:=rs) h;exact⟨A0,by rw[show j-i=(j-(i+1))+1 by omega];exact b,c⟩
def QO{kw:Nat}{c:List U}:∀ (rows:List (List U)) (i:Nat),QP kw c rows=match rZ (c.take kw) rows i with
  | some p=>rows.set (p.1-i) c
  | none=>rows++[c]
 | [],_=>rfl
 | r::rs,i=>by
   unfold QP rZ;cases hq:Z2 (c.take kw) r with
   | true=>simp
   | false =>
     simp only[K9,if_false];rw[QO rs (i+1)];cases hx:rZ (c.take kw) rs (i+1)with
     | none=>rfl
     | some p =>
       obtain⟨a,_⟩:=vS (r:=p.2) (j:=p.1) hx;show r::rs.set (p.1-(i+1)) c=(r::rs).set (p.1-i) c;rw[show p.1-i=(p.1-(i+1))+1 by omega];rfl
def MO{b:Nat}(h:VR ρ (.map (some b)) v'):∃ l,ρ b=some l∧v'=.map (some l.blk):=by
 cases h with
 | pure hp=>simp[K2]at hp
 | map h=>exact⟨_,h,rfl⟩
def A7s{T:TypeId}(h:HR P base ρ m.H w)(hb:base≤w.heap.size)(ho:A4a P m T=some (v,m'))(hf:M4 ρ m.n m'.hi)(hS:Sat m'.lg):VOk P base ρ m w (Instr.makeMap T none) v m':=by
 unfold A4a at ho;split at ho
 ·rename_i y hy;rw[S6]at ho;have hlg:=eF ho;have hd:=nS (lg:=m'.lg) hS (by rw[hlg];exact .refl _);obtain⟨e1,e2,nul,wd,rows,e3⟩:=hd;have hev:Ora.env m.lg.nx=.seq false y.w []:=by
   have hw:0<y.w:=by have:=(ME hy).2.2.2.1;unfold MTy.w;omega
   rw[e1];show(if y.w=0 then U.none else match aW y.w (0 / y.w) []with
    | some r=>U.seq false y.w r
    | none=>.none)=_
   rw[A3 A0,Nat.zero_div];rfl
  have hst:=St.wLg h (iZ m (10+y.w) (.mk y.w) []);obtain⟨h1,h2,h3⟩:=St.alloc (w':={ w with heap:=w.heap.push (.map #[] 0) }) (l:=lc w.heap.size 0 0) hst.hr hb ho (by rw[A13];exact hf) ⟨rfl,rfl,rfl⟩ rfl rfl
   ⟨⟨rfl,rfl⟩,y,#[],0,[],hy,rfl,by simp,hev,rfl,fun i row e hr=>by simp at hr⟩
  refine⟨.map (some w.heap.size),_,_,?_,?_,St.trans hf hst h3⟩
  ·simp[Instr.makeMap,newObj,Sem.run,A8,Result.andThen]
  ·rw[h1];exact .map h2
 ·cases ho
def RM{t:Nat}{op:LOp}(h:m7 m t op xs=some (v,m'))(hS:Sat m'.lg):t<10∧H1 (evU op (xs.map (E6 Ora.env)))=t∧VR ρ v (Y0 (evU op (xs.map (E6 Ora.env)))):=by
 obtain⟨u,e1,e2,r,e3,e4,e5⟩:=Q5 h hS;subst e1;refine⟨e5,e2,?_⟩;have:Y0 (evU op (xs.map (E6 Ora.env)))=r:=by unfold Y0;rw[e3];rfl
 rw[this];exact e4 ρ
def IY{wd kw c t:Nat}{kc:D5}{nul:Bool}{rows:List (List U)}(hc:Ora.env c=.seq nul wd rows)(hl:kc.length=kw):∀ {ts:I6} {zs:D5} {j:Nat} {m m':Mem} {hs:D5},xR wd kw c t kc ts zs j m=some (hs,m')→Sat m'.lg →
  M8 m m'∧m.lg.le m'.lg∧hs.length=ts.length∧zs.length=ts.length ∧
  (∀ r,rows.find? (Z2 (kc.map (E6 Ora.env)))=some r→∀ i:Nat,i<ts.length→∃ v,hs[i]? = some v∧VR ρ v (Y0 (r.getD (j+i) .none))) ∧
  (rows.find? (Z2 (kc.map (E6 Ora.env)))=none→∀ i:Nat,i<ts.length→∃ v z,hs[i]? = some v∧zs[i]? = some z∧VR ρ v (Y0 (E6 Ora.env z)))
 | [],[],j,m,m',hs,h,hS=>by
   cases h;exact⟨.refl _,.refl _,rfl,rfl,fun r _ i hi=>(by simp at hi),fun _ i hi=>(by simp at hi)⟩
 | [],_::_,j,m,m',hs,h,hS=>by cases h
 | _::_,[],j,m,m',hs,h,hS=>by cases h
 | tg::ts,z::zs,j,m,m',hs,h,hS=>by
   unfold xR at h;split at h
   ·rename_i v m1 hv;split at h
    ·rename_i r m2 hr;cases h;obtain⟨a1,a2,a3,a4,a5,a6⟩:=IY hc hl hr hS;have hS1:Sat m1.lg:=hS.le a2;obtain⟨_,_,hvr⟩:=RM (ρ:=ρ) hv hS1;have hev:evU (.mget wd kw j) ((hole c t::z::kc).map (E6 Ora.env))=(match rows.find? (Z2 (kc.map (E6 Ora.env)))with
       | some r=>r.getD j .none
       | none=>E6 Ora.env z):=by
      show evU (.mget wd kw j) (Ora.env c::E6 Ora.env z::kc.map (E6 Ora.env))=_;rw[hc];show(if wd=wd∧(kc.map (E6 Ora.env)).length=kw then _ else U.none)=_;rw[A4 ⟨rfl,by rw[H3];exact hl⟩];cases rows.find? (Z2 (kc.map (E6 Ora.env)))<;>rfl
     rw[hev]at hvr;refine⟨(K4 hv).trans a1,(L2 hv).trans a2,by simp[a3],by simp[a4],fun rr hq i hi=>?_,fun hq i hi=>?_⟩
     ·cases i with
      | zero=>rw[hq]at hvr;exact⟨v,rfl,hvr⟩
      | succ i =>
        obtain⟨x,e1,e2⟩:=a5 rr hq i (by simpa using hi);exact⟨x,by simpa using e1,by rw[show j+(i+1)=j+1+i by omega];exact e2⟩
     ·cases i with
      | zero=>rw[hq]at hvr;exact⟨v,z,rfl,rfl,hvr⟩
      | succ i =>
        obtain⟨x,z',e1,e2,e3⟩:=a6 hq i (by simpa using hi);exact⟨x,z',by simpa using e1,by simpa using e2,e3⟩
    ·cases h
   ·cases h
def B3B{vs:D5}(hl:hs.length=vs.length)(h:∀ i:Nat,i<vs.length→∃ v v',hs[i]? = some v∧vs[i]? = some v'∧VR ρ v v'):LR ρ hs vs:=⟨hl,fun i v v' h1 h2=>by
 obtain⟨a,b,e1,e2,e3⟩:=h i (B3.1 h2).1;rw[h1]at e1;rw[h2]at e2;cases e1;cases e2;exact e3⟩
def A6K{a:Bool}(h:A6L a hs=some v)(hl:LR ρ hs (us.map Y0)):VR ρ v (t7 a us):=by
 unfold A6L at h;split at h
 ·cases h;exact .agg hl.1 hl.2
 ·cases h;cases us with
  | nil=>have:=hl.1;simp at this
  | cons u us =>
    obtain⟨v',r,e,g,_⟩:=hl.tail;rw[F0,H8]at e;rw[← e.1]at g;exact g
 ·cases h
def A1X{T:TypeId}{x k:Value}{ok:Bool}(h:HR P base ρ m.H w)(ho:DM P m T x k ok=some (v,m'))(hx:VR ρ x x')(hk:VR ρ k k')(hS:Sat m'.lg):VOk P base ρ m w (Instr.lookup T x' k' ok) v m':=by
 unfold DM at ho;split at ho
 ·rename_i r y hy;obtain⟨hu,hkt,hvt,hk0,hk1,hv1,hv2⟩:=ME hy;obtain⟨l,hl,rfl⟩:=MO hx;split at ho
  ·rename_i c t T2 kc z hg hkc hz;obtain⟨hT,ho1⟩:=A6 ho;clear ho;have hT:=A1 hT;subst hT;split at ho1
   ·rename_i zc hzc;split at ho1
    ·rename_i hs m1 hgs;split at ho1
     ·rename_i v1 hv;obtain⟨⟨⟨hon,hsh⟩,y2,es,clock,rows,g1,g2,g3,g4,g5⟩,_⟩:=h.atl hl hg;rw[hy]at g1;have g1:=A9 g1;subst g1;obtain⟨k1,k2⟩:=mZ hkc hk1 hk;have hzv:VR ρ z z:=.ofC (BU hz).choose_spec.2.2;obtain⟨z1,z2⟩:=mZ hzc hv1 hzv;have hkl:kc.length=y.ks.length:=by rw[← k2];simp
      have hS1:Sat m1.lg:=by
       cases ok with
       | false=>cases ho1;exact hS
       | true =>
         simp only[F3]at ho1;split at ho1
         ·rename_i hb;cases ho1;exact hS.le (L2 hb)
         ·cases ho1
      obtain⟨a1,a2,a3,a4,a5,a6⟩:=IY (ρ:=ρ) g4 hkl hgs hS1;have hfk:=EI (P:=P) (w:=w) hkt k2 g5;have hck:=JP (P:=P) hkt k2 es.isEmpty w;have hfi:=IV (k:=kc.map (E6 Ora.env)) rows 0;have hre:∀ {us:List U},LR ρ hs (us.map Y0)→VR ρ v1 (t7 y.va us):=fun hlr=>A6K hv hlr
      have hval:∃ val,VR ρ v1 val∧(Instr.lookup T2 (.map (some l.blk)) k' ok).run P w=.ok (if ok then .tuple #[val,.bool (rows.any (Z2 (kc.map (E6 Ora.env))))]else val) w:=by
       have hgo:(getObj l.blk).run P w=.ok (.map es clock) w:=by simp[getObj,Sem.run,g3]
       have hany:=SC (k:=kc.map (E6 Ora.env)) rows 0;cases hq:rZ (kc.map (E6 Ora.env)) rows 0 with
       | none =>
         rw[hq]at hfi hany;have hlr:LR ρ hs ((zc.map (E6 Ora.env)).map Y0):=B3B (by rw[a3,H3,H3,a4]) fun i hi=>by
          have hi2:i<y.vs.length:=by rw[H3,H3,a4]at hi;exact hi
          obtain⟨x1,z',e1,e2,e3⟩:=a6 hfi.symm i hi2;exact⟨x1,_,e1,by rw[H9,H9,e2];rfl,e3⟩
         refine⟨z,by rw[z1];exact hre hlr,?_⟩;have hany:rows.any (Z2 (kc.map (E6 Ora.env)))=false:=hany.symm;rw[k1];simp only[Instr.lookup,A8,D8 hu,Result.andThen_ok,hgo,hck,hfk,GO,hq,Option.map_none,cQ hz,Sem.run_pure,hany]
       | some p =>
         obtain⟨pi,pr⟩:=p;rw[hq]at hfi hany;obtain⟨_,q1,q2⟩:=vS hq;have q1:rows[pi]? = some pr:=by simpa using q1
         have hpl:pi<es.toList.length:=by rw[← g5.1];exact(B3.1 q1).1
         obtain⟨t1,t2,t3⟩:=g5.2 pi pr es.toList[pi] q1 (A7 hpl);have hprl:pr.length=y.ks.length+y.vs.length:=by
          have:=G0 List.length t1
          simpa using this
         have hlr:LR ρ hs ((pr.drop y.ks.length).map Y0):=B3B (by rw[a3,H3,F4];omega) fun i hi=>by
          rw[H3,F4]at hi;obtain⟨x1,e1,e2⟩:=a5 pr hfi.symm i A0;refine⟨x1,_,e1,?_,e2⟩;rw[H9,J2,A7 A0,P2,B4,A7 A0];rfl
         refine⟨t7 y.va (pr.drop y.ks.length),hre hlr,?_⟩;have hany:rows.any (Z2 (kc.map (E6 Ora.env)))=true:=hany.symm;rw[k1];simp only[Instr.lookup,A8,D8 hu,Result.andThen_ok,hgo,hck,hfk,GO,hq,P2,Sem.run_pure,hany]
      obtain⟨val,hv3,hrun⟩:=hval;cases ok with
      | false =>
        cases ho1;obtain⟨lg,rfl⟩:=a1;exact⟨val,ρ,w,hrun,hv3,St.wLg h lg⟩
      | true =>
        simp only[F3]at ho1;split at ho1
        ·rename_i b m2 hb;cases ho1;obtain⟨_,_,hbv⟩:=RM (ρ:=ρ) hb hS;have hev:evU (.mhas y.w y.ks.length) ((hole c t::kc).map (E6 Ora.env))=.bool (rows.any (Z2 (kc.map (E6 Ora.env)))):=by
          show evU (.mhas y.w y.ks.length) (Ora.env c::kc.map (E6 Ora.env))=_;rw[g4];show(if y.w=y.w∧(kc.map (E6 Ora.env)).length=y.ks.length then _ else U.none)=_;rw[A4 ⟨rfl,by rw[H3];exact hkl⟩]
         rw[hev]at hbv;obtain⟨lg,rfl⟩:=a1.trans (K4 hb);refine⟨.tuple #[val,.bool (rows.any (Z2 (kc.map (E6 Ora.env))))],ρ,w,hrun,?_,St.wLg h lg⟩
         have:=LR.cons hv3 (LR.cons hbv LR.nil);exact .tuple this.1 this.2
        ·cases ho1
     ·cases ho1
    ·cases ho1
   ·cases ho1
  ·cases ho
 ·cases ho
def A2v{i:Nat}{c:List U}(h:AI y rows es.toList)(hc:c.map H1=y.ks++y.vs)(h1:e'.key=t7 y.ka (c.take y.ks.length))(h2:e'.val=t7 y.va (c.drop y.ks.length))(hes:es'.toList=es.toList.set i e'):AI y (rows.set i c) es'.toList:=by
 rw[hes];refine⟨by rw[fK,fK];exact h.1,fun j row e hr he=>?_⟩;rw[List.getElem?_set]at hr he;by_cases q:i=j
 ·subst q;rw[A4 rfl]at hr he;split at hr
  ·cases hr;split at he
   ·cases he;exact⟨hc,h1,h2⟩
   ·cases he
  ·cases hr
 ·rw[A3 q]at hr he;exact h.2 j row e hr he
def A1R{c:List U}(h:AI y rows es.toList)(hc:c.map H1=y.ks++y.vs)(h1:e'.key=t7 y.ka (c.take y.ks.length))(h2:e'.val=t7 y.va (c.drop y.ks.length)):AI y (rows++[c]) (es.push e').toList:=by
 rw[Array.toList_push];refine⟨by rw[B2,B2,h.1];rfl,fun j row e hr he=>?_⟩;rw[List.getElem?_append]at hr he;rw[h.1]at hr;split at he
 ·rename_i hlt;rw[A4 hlt]at hr;exact h.2 j row e hr he
 ·rename_i hlt;rw[A3 hlt]at hr;cases hj:j-es.toList.length with
  | zero =>
    rw[hj]at hr he;cases hr;cases he;exact⟨hc,h1,h2⟩
  | succ n=>rw[hj]at hr;cases hr
def UW{u v:U}(h1:H1 u<10)(h:isU u v=true):u=v:=by
 unfold isU at h;cases u with
 | int k a =>
   cases v with
   | int j b =>
     simp only[eqU]at h;by_cases e:k=j
     ·subst e;rw[A4 rfl]at h;have h:(a == b)=true:=h;rw[eq_of_beq h]
     ·rw[A3 e]at h;cases h
   | _=>simp[eqU]at h
 | bool a =>
   cases v with
   | bool b =>
     have h:(a == b)=true:=h;rw[eq_of_beq h]
   | _=>simp[eqU]at h
 | str a =>
   cases v with
   | str b =>
     have h:(a == b)=true:=h;rw[eq_of_beq h]
   | _=>simp[eqU]at h
 | seq _ _ _=>simp only[H1]at h1;omega
 | none=>simp only[H1]at h1;omega
def CH:∀ {us vs:List U},us.map H1=vs.map H1→(∀ t ∈ us.map H1,t<10)→Z2 us vs=true→us=vs
 | [],[],_,_,_=>rfl
 | [],_::_,h,_,_=>by cases h
 | _::_,[],h,_,_=>by cases h
 | u::us,v::vs,h,ht,hk=>by
   obtain⟨a,b⟩:=B8 (show(isU u v && Z2 us vs)=true from hk);simp only[F0,H8]at h;rw[UW (ht _ C5) a,CH h.2 (fun t q=>ht t (C8 _ q)) b]
def JV{u:U}(h:H1 u<10)(n:Nat):Instr.sameBits n (Y0 u) (Y0 u)=true:=by
 cases u with
 | int k a=>cases n<;>simp[Y0,toV,Instr.sameBits]
 | bool b=>cases n<;>simp[Y0,toV,Instr.sameBits]
 | str s=>cases n<;>(simp only[Y0,toV,aT,Instr.sameBits];show(Array.mk s == Array.mk s)=true;simp)
 | seq _ _ _=>simp only[H1]at h;omega
 | none=>simp only[H1]at h;omega
def A1s{a:Bool}(h:∀ t ∈ us.map H1,t<10)(hn:a=false→us≠[])(n:Nat):Instr.sameBits (n+1) (t7 a us) (t7 a us)=true:=by
 cases a with
 | true =>
   simp only[t7,Instr.sameBits,I3,dZ,true_and,D7];intro p hp;obtain⟨i,hi,he⟩:=List.mem_iff_getElem.1 hp;simp only[List.getElem_zip,List.getElem_map]at he;subst he;exact JV (h _ (T9.2 ⟨_,S3 _,rfl⟩)) n
 | false =>
   cases us with
   | nil=>exact absurd rfl (hn rfl)
   | cons u us=>exact JV (h _ C5) _
def QM{T:TypeId}{x k e e':Value}(h:HR P base ρ m.H w)(hb:base≤w.heap.size)(ho:IB P m T x k e=some (v,m'))(hf:M4 ρ m.n m'.hi)(hx:VR ρ x x')(hk:VR ρ k k')(he:VR ρ e e')(hS:Sat m'.lg):v=undef∧UOk P base ρ m w (Instr.mapUpdate T x' k' e') m':=by
 unfold IB at ho;split at ho
 ·rename_i r y hy;obtain⟨hu,hkt,hvt,hk0,hk1,hv1,hv2⟩:=ME hy;obtain⟨l,hl,rfl⟩:=MO hx;split at ho
  ·rename_i c t T2 kc vc hg hkc hvc;obtain⟨hT,ho1⟩:=A6 ho;clear ho;have hT:=A1 hT;subst hT;rw[S6]at ho1;unfold VW at ho1;split at ho1
   ·rename_i m2 dT;cases ho1;have hlg:=qO dT;obtain⟨e1,e2,nul,wd,rows',e3⟩:=nS (lg:=m'.lg) hS (by rw[hlg];exact .refl _);obtain⟨⟨⟨hon,hsh⟩,y2,es,clock,rows,g1,g2,g3,g4,g5⟩,_⟩:=h.atl hl hg;rw[hy]at g1;have g1:=A9 g1;subst g1;obtain⟨k1,k2⟩:=mZ hkc hk1 hk;obtain⟨v1,v2⟩:=mZ hvc hv1 he;have hkl:kc.length=y.ks.length:=by rw[← k2];simp
    have hvl:vc.length=y.vs.length:=by rw[← v2];simp
    have hcl:((kc++vc).map (E6 Ora.env)).length=y.w:=by rw[H3,B2,hkl,hvl];rfl
    have hct:((kc++vc).map (E6 Ora.env)).map H1=y.ks++y.vs:=by rw[N7,N7,k2,v2]
    have hctk:((kc++vc).map (E6 Ora.env)).take y.ks.length=kc.map (E6 Ora.env):=by rw[N7,nT (by rw[H3];exact hkl)]
    have hcdr:((kc++vc).map (E6 Ora.env)).drop y.ks.length=vc.map (E6 Ora.env):=by rw[N7,List.drop_left' (by rw[H3];exact hkl)]
    have hev:Ora.env m.lg.nx=.seq false y.w (QP y.ks.length ((kc++vc).map (E6 Ora.env)) rows):=by
     rw[e1];show evU (.mput y.w y.ks.length) (Ora.env c::(kc++vc).map (E6 Ora.env))=_;rw[g4];show(if y.w=y.w∧((kc++vc).map (E6 Ora.env)).length=y.w then _ else U.none)=_;rw[A4 ⟨rfl,hcl⟩]
    rw[QO _ 0,hctk]at hev;have hgo:(getObj l.blk).run P w=.ok (.map es clock) w:=by simp[getObj,Sem.run,g3]
    have hfk:=EI (P:=P) (w:=w) hkt k2 g5;have hck:=JP (P:=P) hkt k2 false w;have hst:=St.wLg h (iZ m t (.mput y.w y.ks.length) (hole c t::(kc++vc)));have hg':Hp.get (m.wLg (iZ m t (.mput y.w y.ks.length) (hole c t::(kc++vc)))).H r=some (.mp c t T2):=by rw[oE];exact hg
    have hlt:l.blk<w.heap.size:=(E0.1 g3).1;refine⟨rfl,?_⟩;have hso:∀ (es2:Array MapEntry) (clock2:Nat),(setObj l.blk (.map es2 clock2)).run P w=.ok () { w with heap:=w.heap.set l.blk (.map es2 clock2) hlt }:=fun es2 clock2=>by
     have hget:w.heap[l.blk]=.map es clock:=by
      have q:=g3;rw[I0 hlt]at q;exact A9 q
     simp[setObj,Sem.run,hget,Array.setIfInBounds,hlt]
    have fin:∀ (es2:Array MapEntry) (clock2:Nat) (rows2:List (List U)),Ora.env m.lg.nx=.seq false y.w rows2→AI y rows2 es2.toList→(Instr.mapUpdate T2 (.map (some l.blk)) k' e').run P w=.ok () { w with heap:=w.heap.set l.blk (.map es2 clock2) hlt }→UOk P base ρ m w (Instr.mapUpdate T2 (.map (some l.blk)) k' e') m':=fun es2 clock2 rows2 q1 q2 q3=>by
     refine⟨ρ,_,q3,St.trans hf hst (St.write (ab:=.mp c t T2) (ab':=.mp m.lg.nx t T2) hst.hr dT hg' rfl hl hon ⟨rfl,rfl,rfl⟩ (by simp) (fun j hj=>?_) ?_)⟩
     ·show(w.heap.set l.blk _ hlt)[j]? = _;rw[Array.getElem?_set,A3 (fun e=>hj e.symm)]
     ·refine⟨⟨hon,hsh⟩,y,es2,clock2,rows2,hy,g2,?_,q1,q2⟩;show(w.heap.set l.blk _ hlt)[l.blk]? = _;rw[Array.getElem?_set,A4 rfl]
    cases hq:rZ (kc.map (E6 Ora.env)) rows 0 with
    | none =>
      rw[hq]at hev;refine fin (es.push ⟨k',e',clock⟩) (clock+1) _ hev (A1R g5 hct (by rw[hctk];exact k1) (by rw[hcdr];exact v1)) ?_;rw[k1];simp only[Instr.mapUpdate,A8,D8 hu,Result.andThen_ok,hgo,hck,hfk,GO,hq,Option.map_none,hso]
    | some p =>
      obtain⟨pi,pr⟩:=p;rw[hq]at hev;have hev:Ora.env m.lg.nx=.seq false y.w (rows.set pi ((kc++vc).map (E6 Ora.env))):=hev;obtain⟨_,q1,q2⟩:=vS hq;have q1:rows[pi]? = some pr:=by simpa using q1
      have hpl:pi<es.toList.length:=by rw[← g5.1];exact(B3.1 q1).1
      obtain⟨t1,t2,t3⟩:=g5.2 pi pr es.toList[pi] q1 (A7 hpl);obtain⟨tt1,_⟩:=HB t1;have hsame:kc.map (E6 Ora.env)=pr.take y.ks.length:=by
       refine CH (by rw[k2,tt1]) (by rw[k2];exact hk1) ?_
       have:=xI (kc.map (E6 Ora.env)) pr;rw[H3,hkl]at this;rw[this];exact q2
      have hpi:pi<es.size:=by simpa using hpl
      refine fin (es.modify pi fun e2=>{ e2 with key:=k',val:=e' }) clock _ hev (A2v (e':=⟨k',e',(es[pi]).born⟩) g5 hct (by rw[hctk];exact k1) (by rw[hcdr];exact v1) ?_) ?_
      ·apply d7;intro j;rw[Z1,I8,List.getElem?_set];by_cases hj:pi=j
       ·subst hj;rw[A4 rfl,A4 rfl,A4 hpl,I0 hpi];rfl
       ·rw[A3 hj,A3 hj];simp
      ·have hkey:((es[pi]?).map (·.key)).getD k'=k':=by
        rw[I0 hpi];show es[pi].key=k';have t2:es[pi].key=t7 y.ka (pr.take y.ks.length):=t2;rw[t2,← hsame,k1]
       have hbits:Instr.sameBits 10000 k' k'=true:=by
        rw[k1];exact A1s (by rw[k2];exact hk1) (fun _ q=>by have:=G0 List.length k2;rw[q]at this;simp at this;omega) 9999
       have hkts:(Instr.keyThatStays k' k').run P w=.ok k' w:=by
        simp only[Instr.keyThatStays,hbits,if_true,Sem.run_pure]
       have hfk2:(Instr.findKey y.kt k' es.toList).run P w=.ok (some (pi,t7 y.va (pr.drop y.ks.length))) w:=by
        rw[k1,hfk];simp[GO,hq]
       have hck2:(Instr.checkKey false 10000 y.kt k').run P w=.ok () w:=by rw[k1];exact hck
       simp only[Instr.mapUpdate,A8,D8 hu,Result.andThen_ok,hgo,hck2,hfk2,hkey,hkts,hso]
   ·cases ho1
  ·cases ho
 ·cases ho
def A4n{T:TypeId}{x:Value}(h:HR P base ρ m.H w)(ho:RO P m T x=some (v,m'))(hx:VR ρ x x')(hS:Sat m'.lg):VOk P base ρ m w (Builtin.len_ ⟨T::tys⟩ ty #[x']) v m':=by
 unfold RO at ho;split at ho
 ·rename_i kt vt r hu;obtain⟨l,hl,rfl⟩:=MO hx;split at ho
  ·rename_i c t T2 hg;obtain⟨⟨⟨hon,hsh⟩,y2,es,clock,rows,g1,g2,g3,g4,g5⟩,_⟩:=h.atl hl hg;obtain⟨q1,⟨lg,rfl⟩,_,_⟩:=pF (ρ:=ρ) ho g4 hS;have hgo:(getObj l.blk).run P w=.ok (.map es clock) w:=by simp[getObj,Sem.run,g3]
   refine⟨_,ρ,w,?_,q1,St.wLg h lg⟩
   have:=g5.1;have e:es.size=rows.length:=by rw[this];simp
   simp[Builtin.len_,A8,D8 hu,Result.andThen,goInt,hgo,e]
  ·cases ho
 ·cases ho
def A7t{T:TypeId}(ho:A4a P m T=some (v,m')):m.lg.le m'.lg:=by
 unfold A4a at ho;split at ho
 ·rw[S6]at ho;rw[eF ho];exact m6
 ·cases ho
def xQ{wd kw c t:Nat}{kc:D5}:∀ {ts:I6} {zs:D5} {j:Nat} {m m':Mem} {hs:D5},xR wd kw c t kc ts zs j m=some (hs,m')→m.lg.le m'.lg
 | [],[],j,m,m',hs,h=>by cases h;exact .refl _
 | [],_::_,j,m,m',hs,h=>by cases h
 | _::_,[],j,m,m',hs,h=>by cases h
 | tg::ts,z::zs,j,m,m',hs,h=>by
   unfold xR at h;split at h
   ·rename_i hv;split at h
    ·rename_i hr;cases h;exact(L2 hv).trans (xQ hr)
    ·cases h
   ·cases h
def A1Y{T:TypeId}{x k:Value}{ok:Bool}(ho:DM P m T x k ok=some (v,m')):m.lg.le m'.lg:=by
 unfold DM at ho;split at ho
 ·split at ho
  ·obtain⟨_,ho⟩:=A6 ho;split at ho
   ·split at ho
    ·rename_i hgs;split at ho
     ·cases ok with
      | false=>cases ho;exact xQ hgs
      | true =>
        simp only[F3]at ho;split at ho
        ·rename_i hb;cases ho;exact(xQ hgs).trans (L2 hb)
        ·cases ho
     ·cases ho
    ·cases ho
   ·cases ho
  ·cases ho
 ·cases ho
def QN{T:TypeId}{x k e:Value}(ho:IB P m T x k e=some (v,m')):m.lg.le m'.lg:=by
 unfold IB at ho;split at ho
 ·split at ho
  ·obtain⟨_,ho⟩:=A6 ho;rw[S6]at ho;unfold VW at ho;split at ho
   ·rename_i dT;cases ho;rw[qO dT];exact m6
   ·cases ho
  ·cases ho
 ·cases ho
def A4o{T:TypeId}{x:Value}(ho:RO P m T x=some (v,m')):m.lg.le m'.lg:=by
 unfold RO at ho;split at ho
 ·split at ho
  ·exact(dR ho).2
  ·cases ho
 ·cases ho
end
end
section
open Go
variable [Ora]
section
variable {P:Program} {base:Nat} {ρ:Ren} {m m':Mem} {w:World}
omit [Ora] in
def TL{G:Nat→Option Obj}:∀ {us:List U} {s:List UInt8} {vs:D5},xX us=some s→y0 G us vs→∃ ns:List Int,vs=ns.map (Value.int .u8)∧s=ns.map fun n=>UInt8.ofNat n.toNat
 | [],s,vs,h,he=>by
   cases h;have:vs=[]:=D4.1 he.1.symm;subst this;exact⟨[],rfl,rfl⟩
 | u::us,s,vs,h,he=>by
   unfold xX at h;split at h
   ·rename_i heq;cases heq
   ·rename_i n r heq;cases heq;split at h
    ·split at h
     ·rename_i l hl;cases h;cases vs with
      | nil=>have:=he.1;simp at this
      | cons v vr =>
        obtain⟨ns,e1,e2⟩:=TL (vs:=vr) hl ⟨by have:=he.1;simpa using this,fun i a b h1 h2=>he.2 (i+1) a b (by simpa using h1) (by simpa using h2)⟩
        have:=rR (he.2 0 _ v rfl rfl) rfl;subst this;exact⟨(Int.ofNat n)::ns,by rw[e1];rfl,by rw[e2];rfl⟩
     ·cases h
    ·cases h
   ·cases h
def PP{t:TypeId}{n:Nat}(h:I4 P t=some n):∃ inf,P.info? t=some inf∧inf.size=n:=by
 unfold I4 at h;cases hi:P.info? t with
 | none=>rw[hi]at h;cases h
 | some inf=>rw[hi]at h;exact⟨inf,rfl,A9 h⟩
def PT(d:Nat)(t:TypeId):sameLayout P (d+1) t t=true:=by simp[sameLayout]
def A5r:∃ d,P.depth=d+1:=⟨2*(P.types.size+Made.depth)+1,rfl⟩
def WB{T:TypeId}{n off:Nat}(hs:P.cellsOf T≠0)(hr:off%P.cellsOf T=0)(hn:off / P.cellsOf T+1≤n):liesAt P P.depth T n off T 1=true:=by
 obtain⟨d,hd⟩:=A5r (P:=P);have h1:rowAt P (sameLayout P P.depth · T) P.depth T n off 1=true:=by
  rw[hd];unfold rowAt;simp only[hs,if_false,hr,PT];simp[hn]
 rw[hd]at h1 ⊢;unfold liesAt;rw[hd,h1];rfl
def A5x{s t:TypeId}{x:Value}(h:HR P base ρ m.H w)(ho:A0l P m s t x=some (v,m'))(hx:VR ρ x x'):VOk P base ρ m w (convert s t x') v m':=by
 unfold A0l at ho;split at ho
 ·rename_i e b o hs ht;obtain⟨l,hl,_,rfl⟩:=U7 hx;split at ho
  ·rename_i k cs T ro hsz hg;obtain⟨hlt,ho⟩:=A6 ho;have hlt:o<cs.length:=A2 hlt;cases ho;obtain⟨inf,hinf,hk⟩:=PP hsz;obtain⟨⟨hon,C,fz,T',h1,h2,_⟩,_⟩:=h.atl hl hg;obtain⟨v',h3,_⟩:=h2 o cs[o] (A7 hlt);have hlt2:l.sh+o<C.size:=(E0.1 h3).1;exact VOk.same h (Lib.run_to_unsafe w ⟨l.blk,o+l.sh,none⟩ hs ht hinf A0 (show w.shape? l.blk=some (T',C.size) by simp[World.shape?,h1]) (by show o+l.sh<C.size;omega)) hx
  ·cases ho
 ·rename_i u b hs ht;obtain⟨l,hl,_,rfl⟩:=U7 hx;split at ho
  ·rename_i k cs T hsz hg;obtain⟨hq,ho1⟩:=A6 ho;clear ho;obtain⟨q1,q2⟩:=B8 hq;have q1:=A1 q1;have q2:=A1 q2;clear hq;subst q1;cases ho1;obtain⟨inf,hinf,hk⟩:=PP hsz;obtain⟨⟨hon,C,fz,T',h1,h2,h3⟩,_⟩:=h.atl hl hg;obtain⟨rfl,_,h4⟩:=h3 rfl;obtain⟨_,h5⟩:=h4 inf hinf;have hc:P.cellsOf T'=k+1:=by unfold Program.cellsOf;rw[hinf];exact hk
   have hlast:k<cs.length:=A0;obtain⟨v',h6,_⟩:=h2 k cs[k] (A7 hlast);have hlt2:l.sh+k<C.size:=(E0.1 h6).1;refine VOk.same h (Lib.run_from_unsafe w ⟨l.blk,0+l.sh,none⟩ hs ht hinf (show w.shape? l.blk=some (T',C.size) by simp[World.shape?,h1]) ?_) hx;show liesAt P P.depth T' (C.size / P.cellsOf T') (0+l.sh) T' 1=true;rw[F6];refine WB A0 (by rw[hc];rw[hk]at h5;exact h5) ?_;rw[hc];have h5:l.sh%(k+1)=0:=by rw[hk]at h5;exact h5
   have e1:l.sh=(k+1)*(l.sh / (k+1)):=by have:=Nat.div_add_mod l.sh (k+1);omega
   refine(Nat.le_div_iff_mul_le A0).2 ?_;rw[J1,kB,aU];omega
  ·cases ho
 ·rename_i e0 e b o n c hs ht;obtain⟨hq,ho1⟩:=A6 ho;clear ho;obtain⟨q1,q2⟩:=B8 hq;have q1:=A1 q1;clear hq;subst q1;split at ho1
  ·rename_i cs T hu hg;split at ho1
   ·rename_i m1 dT;cases ho1;obtain⟨l,mm,hl,rfl⟩:∃ l mm,ρ b=some l∧x'=.slice (some ⟨l.blk,o+l.sh,none⟩) n mm:=by
     cases hx with
     | pure hp=>simp[K2]at hp
     | sl h1 _=>exact⟨_,_,h1,rfl⟩
     | op h1 _ _ _=>exact⟨_,_,h1,rfl⟩
     | opE _=>simp at q2
    obtain⟨⟨hon,C,fz,T',z2,z3,z4⟩,_⟩:=h.atl hl hg;have hsh:w.shape? l.blk=some (T',C.size):=by simp[World.shape?,z2]
    refine⟨_,ρ,w.freeze ⟨l.blk,C.size,none⟩ 1,?_,hx,St.write h dT hg rfl hl hon ?_ ?_ ?_ ?_⟩
    ·simp[convert,run_underlying ht,run_underlying hu,markStringish,hsh]
    ·simp[World.freeze]
    ·simp[World.freeze]
    ·intro j hj;simp only[World.freeze,Nat.one_ne_zero,if_false,I8];rw[A3 (fun e=>hj e.symm)]
    ·refine⟨hon,C,(if fz.1 == fz.2 then(C.size,C.size+1)else(min fz.1 C.size,max fz.2 (C.size+1))),T',?_,z3,fun hc=>⟨(z4 hc).1,(z4 hc).2.1.mark,(z4 hc).2.2⟩⟩;simp only[World.freeze,Nat.one_ne_zero,if_false,I8,if_true,z2,P2]
   ·cases ho1
  ·cases ho1
 ·cases ho
def A4H{op:BinOp}{t:TypeId}{x y:Operand}{a a' b b':Value}(h:HR P base ρ m.H w)(ho:ZB P m op t a b=some (v,m'))(ha:VR ρ a a')(hb:VR ρ b b'):VOk P base ρ m w (do eqGuard op t x y a' b';binOp op t a' b') v m':=by
 unfold ZB at ho;split at ho
 ·rename_i e b1 o1 b2 o2 hu;obtain⟨hq,ho1⟩:=A6 ho;clear ho;obtain⟨q1,q2⟩:=B8 hq;have q1:=A1 q1;have q2:=A1 q2;clear hq;subst q1;subst q2;obtain⟨l,hl,_,rfl⟩:=U7 ha;obtain⟨l2,hl2,_,rfl⟩:=U7 hb;rw[hl]at hl2
  have:=A9 hl2;subst this;have heq:∀ j,P.info? e=some j→∀ d:Nat,(Op.equalIn (d+1) t (.pointer (some ⟨l.blk,o1+l.sh,none⟩)) (.pointer (some ⟨l.blk,o1+l.sh,none⟩))).run P w=.ok true w:=fun j hj d=>by
   simp[Op.equalIn,run_underlying hu,sizeOf,typeInfo,hj,run_sameAddr_same]
  have hgd:(eqGuard op t x y (.pointer (some ⟨l.blk,o1+l.sh,none⟩)) (.pointer (some ⟨l.blk,o1+l.sh,none⟩))).run P w=.ok () w:=by
   unfold eqGuard;split<;>simp
  split at ho1
  ·rename_i j hj;cases ho1;refine VOk.same h (v':=.bool true) ?_ (.pure rfl);rw[A8,hgd];simp[Result.andThen,binOp,Op.equal,Op.maxDepth,heq j hj 9999]
  ·rename_i j hj;cases ho1;refine VOk.same h (v':=.bool false) ?_ (.pure rfl);rw[A8,hgd];simp[Result.andThen,binOp,Op.equal,Op.maxDepth,heq j hj 9999]
  ·cases ho1
 ·cases ho
def St.laid{o:Obj}(h:HR P base ρ m.H w):St P base ρ ρ m m w { w with heap:=w.heap.push o } :=
 have hk:∀ k,k<w.heap.size→(w.heap.push o)[k]? = w.heap[k]? := fun k hk=>by rw[bA,A3 A0]
 ⟨fun _ _ h=>h,fun b l h1 h2=>(by rw[h1]at h2;cases h2),B0 _,B0 _,fun h=>h,
  ⟨h.dom,fun id hid ab hab=>by
    obtain⟨l,h1,h2,h3⟩:=h.at_ id hid ab hab;exact⟨l,h1,h2.mono (fun _ _ h=>h) (fun k hk2=>hk k (h2.tc hk2)),h3⟩⟩,
  fun _ h=>h,fun b h1 h2=>absurd h1 h2,fun k hk2 _=>hk k hk2,by simp,⟨rfl,rfl,rfl⟩,fun b l h1 h2=>(by rw[h1]at h2;cases h2),fun _ _ _ _=>rfl,fun _ h=>.inr h⟩
def B3X{tys:Array TypeId}{x:Value}(h:HR P base ρ m.H w)(ho:sdM P m ty x=some (v,m'))(hx:VR ρ x x'):VOk P base ρ m w (Builtin.unsafeSliceData_ tys ty #[x']) v m':=by
 unfold sdM at ho;split at ho
 ·rename_i e he;split at ho
  ·rename_i b i t;split at ho
   ·rename_i c tc T g ro hg;cases ho;have hx:VR ρ (own b i t) x':=hx;rcases(gA hx).1 with⟨l,wd,h1,h2,h3,rfl⟩|⟨l,wd,rows,h1,h2,h3,h4,h5,rfl⟩
    ·exact VOk.same h rfl (.sdt ⟨l,h1,.inl ⟨h2,rfl⟩⟩)
    ·have hdef:Builtin.unsafeSliceData_ tys ty #[.slice (some ⟨l.blk,l.sh,none⟩) l.len l.cap]=(do
       if l.cap≠0 then pure (.pointer (some ⟨l.blk,l.sh,none⟩))
       else if(← viewAt l.blk).isSome then pure (.pointer (some ⟨l.blk,l.sh,none⟩))
       else pure (.pointer (some ⟨← newObj (.view ⟨l.blk,l.sh,none⟩ (← elemOf ty)),0,none⟩))):=rfl
     rw[hdef];by_cases hc:l.cap=0
     ·rw[A3 (by simpa using hc)];obtain⟨wd2,inf,_,_,_,k4⟩:=SqR.ex (h.atl h1 hg).1;rcases k4 with⟨k5,_⟩|⟨_,k5⟩
      ·rw[h2]at k5;cases k5
      ·obtain⟨C,fz,T',rows2,lg,j1,_⟩:=k5;have hsh:w.shape? l.blk=some (T',C.size):=by simp[World.shape?,j1]
       refine⟨.pointer (some ⟨w.heap.size,0,none⟩),ρ,{ w with heap:=w.heap.push (.view ⟨l.blk,l.sh,none⟩ e) },?_,.sdt ⟨l,h1,.inr ⟨h2,_,rfl,fun h=>absurd hc h⟩⟩,St.laid h⟩;simp[viewAt,hsh,elemOf,D8 he,newObj,Sem.run,A8,Result.andThen]
     ·rw[A4 hc];exact VOk.same h rfl (.sdt ⟨l,h1,.inr ⟨h2,_,rfl,fun _=>rfl⟩⟩)
   ·cases ho
  ·cases ho
 ·cases ho
def B3L{p l p' l':Value}(h:HR P base ρ m.H w)(ho:usM P m pt p l=some (v,m'))(hp:VR ρ p p')(hl:VR ρ l l')(hS:Sat m'.lg)(hf:M4 ρ m.n m'.hi) :
  VOk P base ρ m w (Builtin.unsafeString_ ⟨pt::tys⟩ ty #[p',l']) v m':=by
 have hmax:IntKind.i64.max=9223372036854775807:=rfl;unfold usM at ho;split at ho
 ·rename_i b;obtain⟨htl,ho⟩:=A6 ho;have htl:I1 l<8:=A2 htl;obtain⟨k,n0,rfl,hn1,_⟩:=S5 hl htl;split at ho
  ·rename_i c tc T g e hg hpt;obtain⟨hq,ho1⟩:=A6 ho;clear ho;obtain⟨q1,q2⟩:=B8 hq;have q1:=A1 q1;have q2:=A1 q2;clear hq;subst q1;subst q2;split at ho1
   ·rename_i u m1 hsz hlet;split at ho1
    ·rename_i m2 dT;cases ho1;have hlg:=qO dT;have hS1:Sat m1.lg:=by rw[← hlg];exact hS
     obtain⟨u0,e1,e2,r,e3,e4,e5⟩:=Q5 hlet hS1;obtain⟨lg,rfl⟩:=K4 hlet;obtain⟨l0,hl0,hv⟩:=A74 (show VR ρ (sdt b) p' from hp);have hst:=St.wLg h lg;obtain⟨wd,inf,k1,k2,k3,k4⟩:=SqR.ex (h.atl hl0 hg).1;have hwd:wd=1:=A0;subst hwd;have hev:evU .ustr [Ora.env c,.int k n0]=u0:=by
      have:E6 Ora.env (hole c 11)=Ora.env c:=rfl;rw[← this,← hn1];exact e1
     have hsb:∀ nul rows,Ora.env c=.seq nul 1 rows→∃ (n:Nat) (sb:List UInt8),n0=(n:Int)∧n≤rows.length∧n≤1000000000∧AG (rows.take n)=some sb∧u0=.str sb:=fun nul rows hc=>by
      rw[hc]at hev;cases n0 with
      | negSucc z=>have:u0=.none:=hev.symm;subst this;cases e3
      | ofNat n =>
        have hev:(if 1=1∧n≤rows.length∧n≤AH then match AG (rows.take n)with
         | some s=>U.str s
         | none=>.none else .none)=u0:=hev
        split at hev
        ·rename_i hc2;split at hev
         ·rename_i sb hsb;exact⟨n,sb,rfl,hc2.2.1,hc2.2.2,hsb,hev.symm⟩
         ·subst hev;cases e3
        ·subst hev;cases e3
     have hcell:P.cellsOf e=1:=by unfold Program.cellsOf;rw[k2];exact k3
     have hsame:∀ {ρ:Ren} {w:World} {lx:Loc},BR P ρ (.sq c 11 e g false) lx w→BR P ρ (.sq c 11 e g true) lx w:=fun hb=>by
      obtain⟨wd,inf,k1,k2,k3,k4⟩:=SqR.ex hb;refine⟨⟨wd,inf,k1,k2,k3,k4.imp (fun x=>x) fun⟨a,C,fz,T',rows,lg,b1,b2,b3,b4,b5,b6,b7,b8,_⟩=>⟨a,C,fz,T',rows,lg,b1,b2,b3,b4,b5,b6,b7,b8,fun hh=>by cases hh⟩⟩⟩
     have hg':Hp.get (m.wLg lg).H b=some (.sq c 11 e g false):=by rw[oE];exact hg
     have hsts:St P base ρ ρ m m' w w:=St.trans hf hst (St.same0 hst.hr dT hg' rfl hl0 (hsame (hst.hr.atl hl0 hg').1) fun q hq=>hq.imp (fun⟨_,b⟩=>⟨rfl,b⟩) fun⟨hh,_⟩=>by cases hh);rcases hv with⟨hoff,rfl⟩|⟨hon,a,rfl,ha⟩
     ·rcases k4 with⟨_,k5⟩|⟨k5,_⟩
      ·obtain⟨n,sb,rfl,j1,_,j2,rfl⟩:=hsb _ _ k5;have hn:n=0:=by simpa using j1
       subst hn;cases j2;cases e3;refine⟨.string ByteArray.empty,ρ,w,?_,e4 ρ,hsts⟩;have hdef:Builtin.unsafeString_ ⟨pt::tys⟩ ty #[.pointer none,.int k ((0:Nat):Int)] =
         (do
           let n ← asInt (.int k ((0:Nat):Int))
           if n<0 then runtimePanic (.error "unsafe.String: len out of range")
           if n>IntKind.i64.max then unsupported (.unsafePointer "String: a length above the largest int")
           if n=0 then pure (.string .empty)
           else runtimePanic (.error "unsafe.String: ptr is nil and len is not zero")):=rfl
       rw[hdef];simp[asInt,asIntOf,hmax]
      ·rw[hoff]at k5;cases k5
     ·rcases k4 with⟨k5,_⟩|⟨_,k5⟩
      ·rw[hon]at k5;cases k5
      obtain⟨C,fz,T',rows,lg2,z1,z2,z3,z4,z5,z6,z7,z8,z9⟩:=k5;obtain⟨rfl,z10⟩:=z9 rfl;obtain⟨n,sb,rfl,j1,j0,j2,rfl⟩:=hsb _ _ z2;cases e3;have hdef:Builtin.unsafeString_ ⟨pt::tys⟩ ty #[.pointer (some a),.int k (n:Int)] =
       (do
         let n ← asInt (.int k (n:Int))
         if n<0 then runtimePanic (.error "unsafe.String: len out of range")
         if n>IntKind.i64.max then unsupported (.unsafePointer "String: a length above the largest int")
         if n=0 then pure (.string .empty)
         else if ← variablesAt a (← elemOf pt) n.toNat then do
          let s ← loadBytes a .empty n.toNat
          freeze a n.toNat
          pure (.string s)
         else unsupported (.unsafePointer "String: not so many bytes at ptr")):=rfl
      have hneg:¬ (n:Int)<0:=A0;have hbig:¬ (9223372036854775807:Int)<(n:Int):=A0;by_cases hz2:n=0
      ·subst hz2;cases j2;refine⟨.string ByteArray.empty,ρ,w,?_,e4 ρ,hsts⟩;rw[hdef];simp[asInt,asIntOf,hmax]
      ·have hz:¬ (n:Int)=0:=A0;have hcap:l0.cap≠0:=A0;have ha:=ha hcap;subst ha;obtain⟨y1,y2,y3⟩:=NU j2;have hlen:(rows.take n).length=n:=by simp;omega
       have hin:l0.sh+n≤C.size:=A0;obtain⟨ns,r1,r2⟩:∃ ns:List Int,(C.toList.drop l0.sh).take n=ns.map (Value.int .u8)∧sb=ns.map fun n=>UInt8.ofNat n.toNat:=by
        refine TL (G:=lg2.G) y1 ⟨by rw[y2,hlen];simp;omega,fun i u v b1 b2=>?_⟩;have hil:i<n:=by have:=(B3.1 b1).1;rw[y2,hlen]at this;exact this
        have hir:i<rows.length:=A0;have hrow:rows[i]? = some rows[i]:=A7 hir;have hrow2:(rows.take n)[i]? = some rows[i]:=by rw[G1 hil];exact hrow
        have hrl:rows[i].length=1:=z6 _ (S3 hir);have h0:rows[i][0]? = some (rows[i][0]' A0):=A7 A0;obtain⟨_,k4⟩:=y3 i _ 0 _ hrow2 h0;rw[b1]at k4;have k4:=A9 k4;rw[k4];have hc:C[l0.sh+i*1+0]? = some v:=by
         rw[G1 hil,J2]at b2
         simpa using b2
        exact z8 i _ 0 _ v hrow h0 hc
       have hnl:ns.length=n:=by
        have:=G0 List.length r1;simp at this;omega
       have hcells:∀ (j:Nat) (v:Value),(ns.map (Value.int .u8))[j]? = some v→w.cell? ⟨l0.blk,l0.sh+j,none⟩=some v:=fun j v hj=>by
        rw[← r1]at hj;have hjn:j<n:=by have:=(B3.1 hj).1;simp at this;omega
        rw[G1 hjn,J2]at hj;simp only[World.cell?,z1]
        simpa using hj
       have hlb:=hJ (P:=P) (w:=w) ns l0.blk l0.sh .empty hcells;rw[hnl]at hlb;have hsh:w.shape? l0.blk=some (T',C.size):=by simp[World.shape?,z1]
       have hlies:=DQ (P:=P) hcell (C.size / P.cellsOf T') l0.sh n (by rw[hcell];simpa using hin);have st2:St P base ρ ρ (m.wLg lg) m' w (w.freeze ⟨l0.blk,l0.sh,none⟩ n):=by
        refine St.write hst.hr dT hg' rfl hl0 hon ?_ ?_ ?_ ?_
        ·simp[World.freeze,hz2]
        ·simp[World.freeze,hz2]
        ·intro j hj;simp only[World.freeze,hz2,if_false,I8];rw[A3 (fun e=>hj e.symm)]
        ·refine⟨⟨1,inf,rfl,k2,k3,.inr ⟨hon,C,(if fz.1 == fz.2 then(l0.sh,l0.sh+n)else(min fz.1 l0.sh,max fz.2 (l0.sh+n))),T',rows,lg2,?_,z2,z3,z4,z5,z6,z7,z8,fun hc=>by cases hc⟩⟩⟩;simp only[World.freeze,hz2,if_false,I8,if_true,z1,P2]
       refine⟨.string ⟨⟨sb⟩⟩,ρ,w.freeze ⟨l0.blk,l0.sh,none⟩ n,?_,e4 ρ,St.trans hf hst st2⟩;rw[hdef];simp[asInt,asIntOf,hmax,hneg,hbig,hz,hz2,variablesAt,hsh,elemOf,D8 hpt,hlies,hlb,freeze,Sem.run,A8,Result.andThen,r2]
    ·cases ho1
   ·cases ho1
  ·cases ho
 ·cases ho
def B3E{fr:Fr}{g:Operand→Value}{o:Oper}(h:HR P base ρ m.H w)(hb:base≤w.heap.size)(ho:xtM P fr m o=some (v,m'))(hf:M4 ρ m.n m'.hi)(hg:FR ρ fr g o.op)(hS:Sat m'.lg):NOk P base ρ m w (execOp g o) v m':=by
 obtain⟨dst,op,ty,pos,af,gd⟩:=o;unfold xtM at ho;simp only at ho hg;have hx1:∀ {x},x ∈ op.operands.toList→VR ρ (ev fr x) (g x):=fun hx=>hg _ hx
 split at ho
 ·rename_i s t x;exact NOk.of (A5x h ho (hx1 (x:=x) (by simp[Op.operands])))
 ·rename_i op t x y yt;exact NOk.of (A4H h ho (hx1 (x:=x) (by simp[Op.operands])) (hx1 (x:=y) (by simp[Op.operands])))
 ·rename_i xs tys;have l1:=fJ (ρ:=ρ) (fr:=fr) (g:=g) (xs:=xs.toList) fun y hy=>hg y (by show y ∈ (#[]++xs:Array Operand).toList;simpa using hy)
  split at ho
  ·rename_i x hx;rw[hx]at l1;obtain⟨x',r1,e1,g1,g2⟩:=l1.tail;cases g2.nil_inv;have e2:xs.map g=#[x']:=by apply L1;simpa using e1
   have:=B3X (tys:=tys) h ho g1;have hn:=NOk.of this;obtain⟨ks,e3⟩:∃ ks,execOp g ⟨dst,.call ⟨.builtin .unsafeSliceData,xs,tys⟩,ty,pos,af,gd⟩=builtin .unsafeSliceData tys ty ks (xs.map g):=⟨#[],rfl⟩;rw[e3,e2];exact hn
  ·cases ho
 ·rename_i xs tys;have l1:=fJ (ρ:=ρ) (fr:=fr) (g:=g) (xs:=xs.toList) fun y hy=>hg y (by show y ∈ (#[]++xs:Array Operand).toList;simpa using hy)
  split at ho
  ·rename_i p l t rest hx ht;rw[hx]at l1;obtain⟨x',r1,e1,g1,g2⟩:=l1.tail;obtain⟨y',r2,rfl,g3,g4⟩:=g2.tail;cases g4.nil_inv;have e2:xs.map g=#[x',y']:=by apply L1;simpa using e1
   have hn:=NOk.of (B3L (ty:=ty) (tys:=rest) h ho g1 g3 hS hf);obtain⟨ks,e3⟩:∃ ks,execOp g ⟨dst,.call ⟨.builtin .unsafeString,xs,tys⟩,ty,pos,af,gd⟩=builtin .unsafeString tys ty ks (xs.map g):=⟨#[],rfl⟩;have e4:tys=⟨t::rest⟩:=by rw[← ht]
   rw[e3,e2,e4];exact hn
  ·cases ho
 ·rename_i t;exact NOk.of (A7s h hb ho hf hS)
 ·rename_i t x k ok;exact NOk.of (A1X h ho (hx1 (x:=x) (by simp[Op.operands])) (hx1 (x:=k) (by simp[Op.operands])) hS)
 ·rename_i t x k e;obtain⟨rfl,hu⟩:=QM h hb ho hf (hx1 (x:=x) (by simp[Op.operands])) (hx1 (x:=k) (by simp[Op.operands])) (hx1 (x:=e) (by simp[Op.operands])) hS;exact NOk.ofU hu
 ·rename_i t x k e;obtain⟨rfl,hu⟩:=QM h hb ho hf (hx1 (x:=x) (by simp[Op.operands])) (hx1 (x:=k) (by simp[Op.operands])) (hx1 (x:=e) (by simp[Op.operands])) hS;exact NOk.ofU hu
 ·rename_i xs tys;have l1:=fJ (ρ:=ρ) (fr:=fr) (g:=g) (xs:=xs.toList) fun y hy=>hg y (by show y ∈ (#[]++xs:Array Operand).toList;simpa using hy)
  split at ho
  ·rename_i x t rest hx ht;rw[hx]at l1;obtain⟨x',r1,e1,g1,g2⟩:=l1.tail;cases g2.nil_inv;have e2:xs.map g=#[x']:=by apply L1;simpa using e1
   have hn:=NOk.of (A4n (ty:=ty) (tys:=rest) h ho g1 hS);obtain⟨ks,e3⟩:∃ ks,execOp g ⟨dst,.call ⟨.builtin .len,xs,tys⟩,ty,pos,af,gd⟩=builtin .len tys ty ks (xs.map g):=⟨#[],rfl⟩;have e4:tys=⟨t::rest⟩:=by rw[← ht]
   rw[e3,e2,e4];exact hn
  ·cases ho
 ·cases ho
def B3F{fr:Fr}{o:Oper}(ho:xtM P fr m o=some (v,m')):m.lg.le m'.lg:=by
 unfold xtM at ho;split at ho
 ·unfold A0l at ho;split at ho
  ·split at ho
   ·obtain⟨_,ho⟩:=A6 ho;cases ho;exact .refl _
   ·cases ho
  ·split at ho
   ·obtain⟨_,ho⟩:=A6 ho;cases ho;exact .refl _
   ·cases ho
  ·obtain⟨_,ho⟩:=A6 ho;split at ho
   ·split at ho
    ·rename_i dT;cases ho;obtain⟨_,rfl⟩:=Z8 dT;exact .refl _
    ·cases ho
   ·cases ho
  ·cases ho
 ·unfold ZB at ho;split at ho
  ·obtain⟨_,ho⟩:=A6 ho;split at ho
   ·cases ho;exact .refl _
   ·cases ho;exact .refl _
   ·cases ho
  ·cases ho
 ·split at ho
  ·unfold sdM at ho;split at ho
   ·split at ho
    ·split at ho
     ·cases ho;exact .refl _
     ·cases ho
    ·cases ho
   ·cases ho
  ·cases ho
 ·split at ho
  ·unfold usM at ho;split at ho
   ·obtain⟨_,ho⟩:=A6 ho;split at ho
    ·obtain⟨_,ho⟩:=A6 ho;split at ho
     ·rename_i hl;split at ho
      ·rename_i hs;cases ho;rw[qO hs];exact L2 hl
      ·cases ho
     ·cases ho
    ·cases ho
   ·cases ho
  ·cases ho
 ·exact A7t ho
 ·exact A1Y ho
 ·exact QN ho
 ·exact QN ho
 ·split at ho
  ·exact A4o ho
  ·cases ho
 ·cases ho
end
end
section
open Go
def fw(rd:Option Nat):Fence:={ Fence.wide with round:=rd }
def vW{rd:Option Nat}{n:Nat}:(fw rd).depth.isSome=true→1≤n:=fun h=>by cases h
def tD{rd:Option Nat}{n:Nat}{P:Program}{f:FuncId}{args:o7}{w:World}{R:Ending→World→Prop}:CallsIn (fw rd) n P f args w R↔Calls P f args w R :=
 ⟨fun h=>callsIn_wide.1 (show CallsIn Fence.wide n P f args w R from h),fun h=>show CallsIn (fw rd) n P f args w R from(callsIn_wide (n:=n)).2 h⟩
section
variable {P:Program} {rd:Option Nat}
def wpO(P:Program)(rd:Option Nat)(o:Oper)(a:Act)(w:World)(K:Act→World→Prop)(Q:Exit→Act→World→Prop):Prop:=o.wpIn (fw rd) 0 P a w K Q
def OF{o:Oper}{a:Act}{w:World}{K K':Act→World→Prop}{Q:Exit→Act→World→Prop}(h:∀ a w,K a w→K' a w)(hh:wpO P rd o a w K Q):wpO P rd o a w K' Q:=by
 unfold wpO Oper.wpIn at *;refine⟨hh.1,?_⟩;have hh:=hh.2;generalize (o.semAt (fw rd).round a.eval).run P w=r at *;cases r with
 | ok n w' =>
   cases n<;>simp only[Oper.uponIn]at hh ⊢ <;>
    first
     | exact h _ _ hh
     | exact⟨hh.1,CallsIn.mono hh.2 (fun e w'' he=>by cases e<;>first|exact h _ _ he|exact he)⟩
     | exact⟨hh.1,RowsIn.mono hh.2 (fun _ _ he=>h _ _ he)⟩
     | exact⟨hh.1,RoundIn.mono hh.2 (fun e w'' he=>by cases e<;>first|exact h _ _ he|exact he)⟩
 | halt x w'=>cases x<;>simp only[Oper.uponIn]at hh ⊢<;>exact hh
def wpL(P:Program)(rd:Option Nat)(ops:Array Oper)(Q:Exit→Act→World→Prop):List Oper→Act→World→Prop
 | [],a,w=>Q .normal a w
 | o::rest,a,w=>if Region.wanted o (yielded ops a.tmps)then wpO P rd o a w (wpL P rd ops Q rest) Q else wpL P rd ops Q rest (a.put o.dst undef) w
def OG{ops:Array Oper}{Q:Exit→Act→World→Prop}{a:Act}{w:World}{rest:List Oper}{o:Oper}
  (h:∀ K:Act→World→Prop,(∀ a w,wpL P rd ops Q rest a w→K a w)→if Region.wanted o (yielded ops a.tmps)then wpO P rd o a w K Q else K (a.put o.dst undef) w):wpL P rd ops Q (o::rest) a w:=h _ fun _ _ h=>h
def XJ{ops:Array Oper}{Q:Exit→Act→World→Prop}:∀ (l:List Oper) (k:Nat),(∀ j,l[j]? = ops[k+j]?)→∀ a w,wpL P rd ops Q l a w→wpOpsIn (fw rd) 0 P ops Q (List.range' k l.length) a w
 | [],k,_,a,w,h=>h
 | o::l,k,hk,a,w,h=>by
   have h0:ops[k]? = some o:=by simpa using(hk 0).symm
   have ih:=XJ (Q:=Q) l (k+1) (fun j=>by have:=hk (j+1);simpa [eN,nK 1 j]using this);simp only[C4,List.range'_succ,wpOpsIn,h0];unfold wpL at h;split
   ·rename_i hw;rw[A4 hw]at h;exact OF ih h
   ·rename_i hw;rw[A3 hw]at h;exact⟨fun _ _=>trivial,ih _ _ h⟩
def zV{id:Nat}{ops:Array Oper}{Q:Exit→Act→World→Prop}{a:Act}{w:World}(h:wpL P rd ops Q ops.toList a w):(Code.region id ops false).wpIn (fw rd) 0 P Q a w :=
 wpIn_region (by
  have:=XJ ops.toList 0 (by simp) a w h;rw[List.range_eq_range',← W9];exact this)
def kP(P:Program)(rd:Option Nat)(ops:Array Oper)(Q:Exit→Act→World→Prop)(i:Nat)(K:Act→World→Prop)(a:Act)(w:World):Prop :=
 match ops[i]? with
 | none=>K a w
 | some o=>if Region.wanted o (yielded ops a.tmps)then wpO P rd o a w K Q else K (a.put o.dst undef) w
def UB{ops:Array Oper}{Q:Exit→Act→World→Prop}{i:Nat}{a:Act}{w:World}{K K':Act→World→Prop}(h:∀ a w,K a w→K' a w)(hh:kP P rd ops Q i K a w):kP P rd ops Q i K' a w:=by
 unfold kP at *;split
 ·exact h _ _ (by simpa [*]using hh)
 ·rename_i o ho;simp only[ho]at hh;split
  ·rename_i hw;simp only[hw,if_true]at hh;exact OF h hh
  ·rename_i hw;simp only[hw]at hh;exact h _ _ hh
def KI{ops:Array Oper}{Q:Exit→Act→World→Prop}{i:Nat}{rest:I6}{a:Act}{w:World}(h:kP P rd ops Q i (wpOpsIn (fw rd) 0 P ops Q rest) a w):wpOpsIn (fw rd) 0 P ops Q (i::rest) a w:=by
 unfold kP at h;simp only[wpOpsIn];split at h
 ·rename_i hn;simp only[hn];exact h
 ·rename_i o ho;simp only[ho];split at h
  ·rename_i hw;rw[A4 hw];exact h
  ·rename_i hw;rw[A3 hw];exact⟨fun _ _=>trivial,h⟩
def mA(P:Program)(rd:Option Nat)(md:Region.Mode)(ops:Array Oper)(Q:Exit→Act→World→Prop):Nat→Array Bool→Act→World→Prop
 | 0,listed,a,w=>Region.ready md ops listed=[]∧Q .normal a w
 | fuel+1,listed,a,w=>(Region.ready md ops listed=[]→Q .normal a w)∧∀ i ∈ Region.ready md ops listed,kP P rd ops Q i (mA P rd md ops Q fuel (listed.setIfInBounds i true)) a w
def KJ{md:Region.Mode}{ops:Array Oper}{Q:Exit→Act→World→Prop}:∀ (fuel t:Nat) (listed:Array Bool) (a:Act) (w:World),mA P rd md ops Q fuel listed a w→wpOpsIn (fw rd) 0 P ops Q (Region.linearise.go md ops fuel t listed []) a w:=by
 intro fuel;induction fuel with
 | zero=>intro t listed a w h;simpa [Region.linearise.go,wpOpsIn]using h.2
 | succ fuel ih =>
   intro t listed a w h;obtain⟨h0,h1⟩:=h;simp only[Region.linearise.go];change wpOpsIn (fw rd) 0 P ops Q (match (Region.ready md ops listed)[t%(Region.ready md ops listed).length]? with
    | some i=>Region.linearise.go md ops fuel (t / (Region.ready md ops listed).length) (listed.setIfInBounds i true) [i]
    | none=>[].reverse) a w
   cases hi:(Region.ready md ops listed)[t%(Region.ready md ops listed).length]? with
   | none =>
     have hnil:Region.ready md ops listed=[]:=by
      cases hr:Region.ready md ops listed with
      | nil=>rfl
      | cons x xs =>
        rw[hr]at hi;have hlt:t%(x::xs).length<(x::xs).length:=tL _ (by simp);simp at hi;simp at hlt;omega
     simpa [wpOpsIn]using h0 hnil
   | some i =>
     simp only[];rw[linearise_go_acc,List.reverse_singleton,List.singleton_append];exact KI (UB (fun a w=>ih _ _ a w) (h1 i (E5 hi)))
def oD{id:Nat}{ops:Array Oper}{Q:Exit→Act→World→Prop}{a:Act}{w:World}(hm:P.follows .mixedOrders=true)
  (h:mA P rd .any ops Q ops.size (Array.replicate ops.size false) a { w with drawn:=w.drawn+1 }):(Code.region id ops true).wpIn (fw rd) 0 P Q a w :=
 wpIn_region_draw fun t=>by
  simp only[Region.schedule,hm,Bool.true_or,if_true];exact KJ ops.size t _ a _ h
def bX{b:Frame}{a:Act}{k:List Item}{w:World} :step P (lone (b.atR a (.code (.scope c)::k)) cs w)=.next (lone (b.atR a (.code c::.inScope c::k)) cs w) :=
 step_lone_go (by simp[stepG,stepG.exec,Frame.atR])
def GI{b:Frame}{a:Act}{k:List Item}{w:World} :step P (lone (b.atR a (.inScope c::k)) cs w)=.next (lone (b.atR a k) cs w) :=
 step_lone_go (by simp[stepG,stepG.exec,Frame.atR])
def Exit.calm(Q:Exit→Act→World→Prop):Exit→Act→World→Prop
 | .goto _,_,_=>False
 | e,a,w=>Q e a w
def UC{F:Fence}{n:Nat}{Q:Exit→Act→World→Prop}{a:Act}{w:World}(h:c.wpIn F n P (Exit.calm Q) a w):(Code.scope c).wpIn F n P Q a w:=by
 intro b k cs hro hb hr;have h0:(lone (b.atR a (.code (.scope c)::k)) cs w).fenced P F:=fenced_calm hb hr rfl;obtain⟨e,a₁,w₁,hq,harr⟩:=h b (.inScope c::k) cs hro hb hr;cases e with
 | normal=>exact⟨.normal,a₁,w₁,hq,.head h0 bX (StepsIn.trans harr (.one (fenced_calm hb hr rfl) GI))⟩
 | exit id =>
   have hx:exitTo id (.inScope c::k)=exitTo id k:=rfl;exact⟨.exit id,a₁,w₁,hq,fun k' hk=>.head h0 bX (harr.1 k' (by rw[hx];exact hk)),
    fun hr' hk=>let ⟨k₁,h1,h2⟩:=harr.2 hr' (by rw[hx];exact hk);⟨k₁,h1,.head h0 bX h2⟩⟩
 | goto l=>exact hq.elim
 | ret=>exact⟨_,a₁,w₁,hq,.of_steps (.one h0 bX) harr⟩
 | panic ch=>exact⟨_,a₁,w₁,hq,.of_steps (.one h0 bX) harr⟩
 | outgrown=>exact⟨_,a₁,w₁,hq,.of_steps (.one h0 bX) harr⟩
end
end
section
open Go
def rY(o:Op)(g:Operand→Value):Sem Value :=
 match o with
 | .move x|.assign x=>pure (g x)
 | .load t x=>Instr.loadAt t (g x)
 | .store t x y=>do Instr.storeAt t (g x) (g y);pure undef
 | _=>stuck "no such operation"
def xW(P:Program)(o:Oper)(s:Act×World):Option (Act×World) :=
 match (rY o.op s.1.eval).run P s.2 with
 | .ok v w'=>some (s.1.put o.dst v,w')
 | .halt _ _=>none
section
variable {P:Program} {rd:Option Nat}
def BN{o:Oper}{s t:Act×World}(h:xW P o s=some t):∃ v,(rY o.op s.1.eval).run P s.2=.ok v t.2∧t.1=s.1.put o.dst v:=by
 unfold xW at h;split at h
 ·rename_i v w' hr;cases h;exact⟨v,hr,rfl⟩
 ·cases h
def rS{o:Oper}{s:Act×World}(h:(rY o.op s.1.eval).run P s.2=.ok v w'):xW P o s=some (s.1.put o.dst v,w'):=by
 unfold xW;rw[h]
def A1x{o:Oper}(hc:NQ o.op=true)(w:World)(g:Operand→Value):o.about P w g=none:=by
 unfold Oper.about;cases ho:o.op<;>rw[ho]at hc<;>first|rfl|cases hc
def YB{o:Oper}(hc:NQ o.op=true)(g:Operand→Value):∀ c,o.op≠.defer c:=fun c h=>by rw[h]at hc;cases hc
def A6l{o:Oper}(hc:NQ o.op=true){a a':Act}{w:World}{K:Act→World→Prop}{Q:Exit→Act→World→Prop}(h:xW P o (a,w)=some (a',w'))(hk:K a' w'):wpO P rd o a w K Q:=by
 obtain⟨v,h1,h2⟩:=BN h;simp only at h1 h2;subst h2;unfold wpO Oper.wpIn;refine⟨fun f hf=>(by rw[A1x hc]at hf;cases hf),?_⟩;rw[Oper.semAt_eq _ _ _ (YB hc a.eval)];cases ho:o.op<;>rw[ho]at hc h1<;>first
  | cases hc;done
  | skip
 ·have e:(execOp a.eval o)=pure (.value (a.eval ‹Operand›)):=by unfold execOp;rw[ho]
  rw[e];cases h1;exact hk
 ·have e:(execOp a.eval o)=pure (.value (a.eval ‹Operand›)):=by unfold execOp;rw[ho]
  rw[e];cases h1;exact hk
 ·rename_i t x;have e:(execOp a.eval o)=(do pure (.value (← Instr.loadAt t (a.eval x)))):=by unfold execOp;rw[ho]
  have h1:(Instr.loadAt t (a.eval x)).run P w=.ok v w':=h1;rw[e];simp only[A8,h1,Result.andThen,Sem.run_pure];exact hk
 ·rename_i t x y;have e:(execOp a.eval o)=(do Instr.storeAt t (a.eval x) (a.eval y);pure .skip):=by unfold execOp;rw[ho]
  have h1:(do Instr.storeAt t (a.eval x) (a.eval y);pure undef:Sem Value).run P w=.ok v w':=h1;rw[e];simp only[A8]at h1 ⊢;cases hr:(Instr.storeAt t (a.eval x) (a.eval y)).run P w with
  | ok u w2=>rw[hr]at h1;simp only[Result.andThen,Sem.run_pure]at h1 ⊢;cases h1;exact hk
  | halt x w2=>rw[hr]at h1;cases h1
def A8d{o:Oper}(hc:NQ o.op=true){a:Act}{w:World}{K:Act→World→Prop}{Q:Exit→Act→World→Prop}(hq:∀ c a w,¬Q (.panic c) a w)(h:wpO P rd o a w K Q):∃ a' w',xW P o (a,w)=some (a',w')∧K a' w':=by
 unfold wpO Oper.wpIn at h;obtain⟨_,h⟩:=h;rw[Oper.semAt_eq _ _ _ (YB hc a.eval)]at h;cases ho:o.op<;>rw[ho]at hc<;>first
  | cases hc;done
  | skip
 ·rename_i x;have e:(execOp a.eval o)=pure (.value (a.eval x)):=by unfold execOp;rw[ho]
  rw[e]at h;exact⟨_,_,rS (s:=(a,w)) (v:=a.eval x) (w':=w) (by rw[ho];rfl),h⟩
 ·rename_i x;have e:(execOp a.eval o)=pure (.value (a.eval x)):=by unfold execOp;rw[ho]
  rw[e]at h;exact⟨_,_,rS (s:=(a,w)) (v:=a.eval x) (w':=w) (by rw[ho];rfl),h⟩
 ·rename_i t x;have e:(execOp a.eval o)=(do pure (.value (← Instr.loadAt t (a.eval x)))):=by unfold execOp;rw[ho]
  rw[e]at h;simp only[A8]at h;cases hr:(Instr.loadAt t (a.eval x)).run P w with
  | ok v w' =>
    rw[hr]at h;exact⟨_,_,rS (s:=(a,w)) (v:=v) (w':=w') (by rw[ho];exact hr),h⟩
  | halt y w' =>
    rw[hr]at h;cases y<;>first|exact absurd h (hq _ _ _)|exact h.elim
 ·rename_i t x y;have e:(execOp a.eval o)=(do Instr.storeAt t (a.eval x) (a.eval y);pure .skip):=by unfold execOp;rw[ho]
  rw[e]at h;simp only[A8]at h;cases hr:(Instr.storeAt t (a.eval x) (a.eval y)).run P w with
  | ok u w' =>
    rw[hr]at h;refine⟨_,_,rS (s:=(a,w)) (v:=undef) (w':=w') ?_,h⟩;rw[ho];show(do Instr.storeAt t (a.eval x) (a.eval y);pure undef:Sem Value).run P w=_;simp only[A8,hr,Result.andThen,Sem.run_pure]
  | halt z w' =>
    rw[hr]at h;cases z<;>first|exact absurd h (hq _ _ _)|exact h.elim
def A4E{a:Act}{e:Option Tmp}{u:Value}(h:∀ x y,d=some x→e=some y→x≠y):(a.put d v).put e u=(a.put e u).put d v:=by
 cases d with
 | none=>rfl
 | some x=>cases e with
   | none=>rfl
   | some y =>
     have hn:=h x y rfl rfl;unfold Act.put;simp only;congr 1
     exact Array.setIfInBounds_comm _ _ hn
def lM{a:Act}{x:Operand}(h:∀ t,d=some t→t ∉ uE x):(a.put d v).eval x=a.eval x:=by
 cases x with
 | const c=>cases d<;>rfl
 | tmp t =>
   cases d with
   | none=>rfl
   | some y =>
     have:y≠t:=fun e=>h y rfl (by subst e;exact K8.2 rfl)
     unfold Act.put Act.eval;simp only[C3];rw[Array.getElem?_setIfInBounds_ne this]
 | _=>cases d<;>rfl
variable [Ora]
def GT(P:Program)(w:World)(t:TypeId)(p:Value):Prop :=
 ∃ b o C T fz s g,p=.pointer (some ⟨b,o,none⟩)∧w.heap[b]? = some (.cells C T fz)∧I4 P t=some s∧cU P t=some g∧o+s≤C.size∧o<C.size
def IL{t:TypeId}{b o s:Nat}{C:o7}{T:TypeId}{g:Bool}(hs:I4 P t=some s)(hg:cU P t=some g)(h1:o+s≤C.size)(h2:o<C.size):∃ v,∀ w:World,w.heap[b]? = some (.cells C T fz)→(Instr.loadAt t (.pointer (some ⟨b,o,none⟩))).run P w=.ok v w:=by
 have hcell:∀ w:World,w.heap[b]? = some (.cells C T fz)→∀ j v,C[o+j]? = some v→w.cell? ⟨b,o+j,none⟩=some v:=fun w hw j v hv=>by simp[World.cell?,hw,hv]
 cases g with
 | true =>
   refine⟨.agg ⟨(C.toList.drop o).take s⟩,fun w hw=>?_⟩;have hl:((C.toList.drop o).take s).length=s:=by rw[G8,F4,W9];omega
   have hld:=N3 (P:=P) (w:=w) (b:=b) (o:=o) hl (fun j v hj=>by
    have hjs:j<s:=by have:=(B3.1 hj).1;omega
    rw[G1 hjs,J2,Z1]at hj;exact hcell w hw j v hj)
   unfold Instr.loadAt;simp[A8,Instr.sureAddr,loadVar,eC hg,O8 hs,Result.andThen,hld]
 | false =>
   refine⟨C[o],fun w hw=>?_⟩
   have:=hcell w hw 0 C[o] (by simp[h2]);unfold Instr.loadAt;simp[A8,Instr.sureAddr,loadVar,eC hg,Result.andThen,run_load,show w.cell? ⟨b,o,none⟩=some C[o]from by simpa using this]
def CE{b o:Nat}{T:TypeId}{fz:Nat×Nat}:∀ (vs:List Value) (i:Nat) (C:Array Value) (w w':World),w.heap[b]? = some (.cells C T fz)→o+i+vs.length≤C.size→(storeCells ⟨b,o,none⟩ vs i).run P w=.ok () w' →
  (∀ k,k≠b→w'.heap[k]? = w.heap[k]?)∧∃ C',w'.heap[b]? = some (.cells C' T fz)∧C'.size=C.size
 | [],i,C,w,w',h,_,hr=>by cases hr;exact⟨fun _ _=>rfl,C,h,rfl⟩
 | v::r,i,C,w,w',h,hl,hr=>by
   simp only[C4]at hl;have hlt:o+i<C.size:=A0;have hc:w.cell? ⟨b,o+i,none⟩=some C[o+i]:=by simp[World.cell?,h,hlt]
   have hb:(w.setCell ⟨b,o+i,none⟩ v).heap[b]? = some (.cells (C.setIfInBounds (o+i) v) T fz):=by
    simp[World.setCell,I8,h]
   unfold storeCells at hr;simp only[A8,N3.add_none']at hr;have hst:(store ⟨b,o+i,none⟩ v).run P w=.ok () (w.setCell ⟨b,o+i,none⟩ v)∨∃ x w2,(store ⟨b,o+i,none⟩ v).run P w=.halt x w2:=by
    unfold store;cases v<;>first
     | exact .inr ⟨_,_,rfl⟩
     | (simp only[Sem.run,hc]
        split
        ·exact .inr ⟨_,_,rfl⟩
        ·exact .inl rfl)
   rcases hst with hst|⟨x,w2,hst⟩
   ·rw[hst]at hr;simp only[Result.andThen]at hr;obtain⟨k1,C',k2,k3⟩:=CE r (i+1) _ _ _ hb (by simp;omega) hr;refine⟨fun k hk=>?_,C',k2,by rw[k3];simp⟩;rw[k1 k hk];simp only[World.setCell,I8];rw[A3 (fun e=>hk e.symm)]
   ·rw[hst]at hr;cases hr
def KY{t:TypeId}{b o s:Nat}{C:o7}{T:TypeId}{y:Value}{w:World}(hs:I4 P t=some s)(hw:w.heap[b]? = some (.cells C T fz))(h1:o+s≤C.size)(hr:(Instr.storeAt t (.pointer (some ⟨b,o,none⟩)) y).run P w=.ok () w') :
  (∀ k,k≠b→w'.heap[k]? = w.heap[k]?)∧∃ C',w'.heap[b]? = some (.cells C' T fz)∧C'.size=C.size:=by
 unfold Instr.storeAt at hr;simp only[A8,Instr.sureAddr,storeVar,O8 hs,Result.andThen,Sem.run_pure]at hr;by_cases hq:y.cells.size≠s
 ·rw[A4 hq]at hr;cases hr
 ·rw[A3 hq]at hr;have hq:=Classical.not_not.1 hq;exact CE y.cells.toList 0 C w w' hw (by rw[W9,hq];omega) hr
structure TZ (P:Program) (ops:List Oper) (s:Act×World):Prop where
 pl:∀ o ∈ ops,∀ t x,qB o.op=some (t,x)→GT P s.2 t (s.1.eval x)
 ap:∀ i j a b,i<j→ops[i]? = some a→ops[j]? = some b→wE b i=false→(jQ a.op || jQ b.op)=true→∀ t x u y,qB a.op=some (t,x)→qB b.op=some (u,y)→∀ p q,s.1.eval x=.pointer (some p)→s.1.eval y=.pointer (some q)→p.block≠q.block
def EB{b:Nat}:cF l b=true↔b ∈ l:=by
 unfold cF;rw[X9];constructor
 ·rintro⟨x,h,e⟩;have:=A1 e;subst this;exact h
 ·intro h;exact⟨b,h,gG b⟩
def QZ{ads:List Tmp}:∀ {l:List Oper} {k i:Nat} {o:Oper},A4Q ads k l=true→l[i]? = some o→B3y ads (k+i) o=true
 | [],k,i,o,_,h=>by simp at h
 | p::l,k,0,o,h,hi=>by
   simp at hi;subst hi;exact(B8 h).1
 | p::l,k,i+1,o,h,hi=>by
   have:=QZ (l:=l) (k:=k+1) (i:=i) (o:=o) (B8 h).2 (by simpa using hi);rw[show k+(i+1)=k+1+i by omega];exact this
structure One (ops:List Oper) (i:Nat) (o:Oper):Prop where
 cls:NQ o.op=true
 grd:o.guard=none
 ads:∀ p ∈ ops,∀ t x,qB p.op=some (t,x)→∀ d,o.dst=some d→d ∉ uE x
 lt:∀ e ∈ o.after,Region.binds .any e=true→e.on<i
def qU{ops:List Oper}(h:oS ops=true){i:Nat}{o:Oper}(hi:ops[i]? = some o):One ops i o:=by
 have h1:=QZ (B8 h).1 hi;rw[F6]at h1;unfold B3y at h1;obtain⟨a1,h1⟩:=B8 h1;obtain⟨a2,h1⟩:=B8 h1;obtain⟨a3,a4⟩:=B8 h1;refine⟨a1,?_,fun p hp t x hx d hd hm=>?_,fun e he hb=>?_⟩
 ·cases hg:o.guard with
  | none=>rfl
  | some g=>rw[hg]at a2;cases a2
 ·have:cF (A6S ops) d=true:=EB.2 (List.mem_flatMap.2 ⟨p,hp,by rw[hx];exact hm⟩);unfold HZ at a3;rw[hd]at a3;simp only at a3;rw[this]at a3;cases a3
 ·have:=iX.1 a4 e he;rw[hb]at this;exact A2 this
def QE{p:Oper→Oper→Bool}{ops:List Oper}(h:LW p ops=true){i j:Nat}{a b:Oper}(hij:i<j)(hi:ops[i]? = some a)(hj:ops[j]? = some b)(he:wE b i=false):p a b=true:=by
 unfold LW at h;have hjl:=(B3.1 hj).1
 have:=D7.1 (D7.1 h j (dE.2 hjl)) i (dE.2 hij);rw[hi,hj]at this;simp only[he,R7]at this;exact this
def QI{o:Oper}{a:Act}(hd:∀ t,d=some t→t ∉ A3x o.op)(hc:NQ o.op=true):rY o.op (a.put d v).eval=rY o.op a.eval:=by
 cases ho:o.op<;>rw[ho]at hc hd<;>first
  | cases hc;done
  | skip
 ·unfold rY;simp only;rw[lM hd]
 ·unfold rY;simp only;rw[lM hd]
 ·unfold rY;simp only;rw[lM hd]
 ·unfold rY;simp only;rw[lM (fun t ht hm=>hd t ht (B5.2 (.inl hm))),lM (fun t ht hm=>hd t ht (B5.2 (.inr hm)))]
def BB{o:Oper}{s:Act×World}(hc:NQ o.op=true)(hst:jQ o.op=false)(hp:∀ t x,qB o.op=some (t,x)→GT P s.2 t (s.1.eval x))(h:(rY o.op s.1.eval).run P s.2=.ok v w'):w'=s.2:=by
 cases ho:o.op<;>rw[ho]at hc hst h hp<;>first
  | cases hc;done
  | cases hst;done
  | skip
 ·cases h;rfl
 ·cases h;rfl
 ·rename_i t x;obtain⟨b,o',C,T,fz,sz,g,e1,e2,e3,e4,e5,e6⟩:=hp t x rfl;obtain⟨u,hu⟩:=IL (P:=P) (T:=T) (fz:=fz) e3 e4 e5 e6;have h:(Instr.loadAt t (s.1.eval x)).run P s.2=.ok v w':=h;rw[e1,hu s.2 e2]at h;cases h;rfl
def CD{o:Oper}{s:Act×World}(hst:jQ o.op=true)(hp:∀ t x,qB o.op=some (t,x)→GT P s.2 t (s.1.eval x))(h:(rY o.op s.1.eval).run P s.2=.ok v w') :
  ∃ t x b o' C T fz,qB o.op=some (t,x)∧s.1.eval x=.pointer (some ⟨b,o',none⟩)∧s.2.heap[b]? = some (.cells C T fz)∧(∀ k,k≠b→w'.heap[k]? = s.2.heap[k]?)∧∃ C',w'.heap[b]? = some (.cells C' T fz)∧C'.size=C.size:=by
 cases ho:o.op<;>rw[ho]at hst h hp<;>first
  | cases hst;done
  | skip
 rename_i t x y;obtain⟨b,o',C,T,fz,sz,g,e1,e2,e3,e4,e5,e6⟩:=hp t x rfl;have h:(do Instr.storeAt t (s.1.eval x) (s.1.eval y);pure undef:Sem Value).run P s.2=.ok v w':=h;simp only[A8]at h;cases hr:(Instr.storeAt t (s.1.eval x) (s.1.eval y)).run P s.2 with
 | ok u w2 =>
   rw[hr]at h;simp only[Result.andThen,Sem.run_pure]at h;cases h;rw[e1]at hr;obtain⟨k1,k2⟩:=KY e3 e2 e5 hr;exact⟨t,x,b,o',C,T,fz,rfl,e1,e2,k1,k2⟩
 | halt z w2=>rw[hr]at h;cases h
def GT.keep{w:World}{t:TypeId}{p:Value}(h:GT P w t p)(hk:∀ (b:Nat) (C:Array Value) (T:TypeId) (fz:Nat×Nat),w.heap[b]? = some (.cells C T fz)→∃ C',w'.heap[b]? = some (.cells C' T fz)∧C'.size=C.size):GT P w' t p:=by
 obtain⟨b,o,C,T,fz,s,g,e1,e2,e3,e4,e5,e6⟩:=h;obtain⟨C',h1,h2⟩:=hk b C T fz e2;exact⟨b,o,C',T,fz,s,g,e1,h1,e3,e4,A0,A0⟩
def TZ.step{ops:List Oper}{s s':Act×World}{i:Nat}{o:Oper}(hr:oS ops=true)(hg:TZ P ops s)(hi:ops[i]? = some o)(h:xW P o s=some s'):TZ P ops s':=by
 obtain⟨v,h1,h2⟩:=BN h;have ho:=qU hr hi;have hmem:=E5 hi;have hev:∀ p ∈ ops,∀ t x,qB p.op=some (t,x)→s'.1.eval x=s.1.eval x:=fun p hp t x hx=>by rw[h2];exact lM (ho.ads p hp t x hx)
 have hk:∀ (b:Nat) (C:Array Value) (T:TypeId) (fz:Nat×Nat),s.2.heap[b]? = some (.cells C T fz)→∃ C',s'.2.heap[b]? = some (.cells C' T fz)∧C'.size=C.size:=fun b C T fz hb=>by
  cases hst:jQ o.op with
  | false=>rw[BB ho.cls hst (fun t x hx=>hg.pl o hmem t x hx) h1];exact⟨C,hb,rfl⟩
  | true =>
    obtain⟨t,x,b',o',C0,T0,fz0,e1,e2,e3,e4,C',e5,e6⟩:=CD hst (fun t x hx=>hg.pl o hmem t x hx) h1;by_cases e:b=b'
    ·subst e;rw[e3]at hb;cases hb;exact⟨C',e5,e6⟩
    ·exact⟨C,by rw[e4 b e];exact hb,rfl⟩
 refine⟨fun p hp t x hx=>by rw[hev p hp t x hx];exact(hg.pl p hp t x hx).keep hk,fun i j a b hij h3 h4 h5 h6 t x u y h7 h8 p q h9 h10=>?_⟩;rw[hev a (E5 h3) t x h7]at h9;rw[hev b (E5 h4) u y h8]at h10;exact hg.ap i j a b hij h3 h4 h5 h6 t x u y h7 h8 p q h9 h10
def A5n{ops:List Oper}{s s1 s2:Act×World}{i j:Nat}{a b:Oper}(hr:oS ops=true)(hg:TZ P ops s)(hij:i<j)(hi:ops[i]? = some a)(hj:ops[j]? = some b)(he:wE b i=false)(h1:xW P a s=some s1)(h2:xW P b s1=some s2):∃ t,xW P b s=some t∧xW P a t=some s2:=by
 have oa:=qU hr hi;have ob:=qU hr hj;have ma:=E5 hi;have mb:=E5 hj;have hind:=QE (B8 hr).2 hij hi hj he;unfold B63 at hind;obtain⟨i1,hind⟩:=B8 hind;obtain⟨i2,hind⟩:=B8 hind;obtain⟨i3,i4⟩:=B8 hind;have hd1:∀ t,a.dst=some t→t ∉ A3x b.op:=fun t ht hm=>by
  unfold HZ at i2;rw[ht]at i2;simp only at i2;rw[EB.2 hm]at i2;cases i2
 have hd2:∀ t,b.dst=some t→t ∉ A3x a.op:=fun t ht hm=>by
  unfold HZ at i3;rw[ht]at i3;simp only at i3;rw[EB.2 hm]at i3;cases i3
 have hdd:∀ x y,a.dst=some x→b.dst=some y→x≠y:=fun x y hx hy e=>by
  rw[hx,hy]at i1;simp only at i1;subst e;rw[gG]at i1;cases i1
 obtain⟨v,e1,e2⟩:=BN h1;obtain⟨u,e3,e4⟩:=BN h2;obtain⟨a1,w1⟩:=s1;obtain⟨a2,w2⟩:=s2;obtain⟨a0,w0⟩:=s;simp only at e1 e2 e3 e4;subst e2;subst e4;rw[QI hd1 ob.cls]at e3;suffices hh:∃ w',(rY b.op a0.eval).run P w0=.ok u w'∧(rY a.op a0.eval).run P w'=.ok v w2 by
  obtain⟨w',q1,q2⟩:=hh;refine⟨(a0.put b.dst u,w'),rS (s:=(a0,w0)) q1,?_⟩
  have:=rS (P:=P) (o:=a) (s:=(a0.put b.dst u,w')) (v:=v) (w':=w2) (by show(rY a.op (a0.put b.dst u).eval).run P w'=_;rw[QI hd2 oa.cls];exact q2);rw[this];simp only;rw[A4E hdd]
 have pla:∀ t x,qB a.op=some (t,x)→GT P w0 t (a0.eval x):=fun t x hx=>hg.pl a ma t x hx
 have plb:∀ t x,qB b.op=some (t,x)→GT P w0 t (a0.eval x):=fun t x hx=>hg.pl b mb t x hx
 have hload:∀ {o:Oper} {w w':World} {r:Value},NQ o.op=true→jQ o.op=false→(∀ t x,qB o.op=some (t,x)→∃ bb oo C T fz s g,a0.eval x=.pointer (some ⟨bb,oo,none⟩)∧w.heap[bb]? = some (.cells C T fz)∧w'.heap[bb]? = some (.cells C T fz)∧I4 P t=some s∧cU P t=some g∧oo+s≤C.size∧oo<C.size)→(rY o.op a0.eval).run P w=.ok r w→(rY o.op a0.eval).run P w'=.ok r w':=fun{o w w' r} hc hst hp h=>by
  cases ho:o.op<;>rw[ho]at hc hst h hp<;>first
   | cases hc;done
   | cases hst;done
   | skip
  ·cases h;rfl
  ·cases h;rfl
  ·rename_i t x;obtain⟨bb,oo,C,T,fz,sz,g,f1,f2,f3,f4,f5,f6,f7⟩:=hp t x rfl;obtain⟨z,hz⟩:=IL (P:=P) (T:=T) (fz:=fz) f4 f5 f6 f7;have h:(Instr.loadAt t (a0.eval x)).run P w=.ok r w:=h;show(Instr.loadAt t (a0.eval x)).run P w'=.ok r w';rw[f1,hz w f2]at h;rw[f1,hz w' f3];cases h;rfl
 cases sa:jQ a.op with
 | false =>
   have hw:w1=w0:=BB (s:=(a0,w0)) oa.cls sa pla e1;subst hw;refine⟨w2,e3,?_⟩;refine hload oa.cls sa (fun t x hx=>?_) e1;obtain⟨bb,oo,C,T,fz,sz,g,f1,f2,f3,f4,f5,f6⟩:=pla t x hx;cases sb:jQ b.op with
   | false =>
     have hw2:w2=w1:=BB (s:=(a0,w1)) ob.cls sb plb e3;subst hw2;exact⟨bb,oo,C,T,fz,sz,g,f1,f2,f2,f3,f4,f5,f6⟩
   | true =>
     obtain⟨t',x',b',o',C0,T0,fz0,g1,g2,g3,g4,_⟩:=CD (s:=(a0,w1)) sb plb e3;have hne:=hg.ap i j a b hij hi hj he (by rw[sa,sb];rfl) t x t' x' hx g1 _ _ f1 g2;exact⟨bb,oo,C,T,fz,sz,g,f1,f2,(g4 bb hne).trans f2,f3,f4,f5,f6⟩
 | true =>
   have sb:jQ b.op=false:=by
    cases h:jQ b.op with
    | false=>rfl
    | true=>rw[sa,h]at i4;cases i4
   obtain⟨t',x',b',o',C0,T0,fz0,g1,g2,g3,g4,C1,g5,g6⟩:=CD (s:=(a0,w0)) sa pla e1;have plb1:∀ t x,qB b.op=some (t,x)→GT P w1 t (a0.eval x):=fun t x hx=>(plb t x hx).keep fun b C T fz hb=>by
    by_cases e:b=b'
    ·subst e;rw[g3]at hb;cases hb;exact⟨C1,g5,g6⟩
    ·exact⟨C,by rw[g4 b e];exact hb,rfl⟩
   have hw:w2=w1:=BB (s:=(a0,w1)) ob.cls sb plb1 e3;subst hw;refine⟨w0,?_,e1⟩;refine hload ob.cls sb (fun t x hx=>?_) e3;obtain⟨bb,oo,C,T,fz,sz,g,f1,f2,f3,f4,f5,f6⟩:=plb t x hx;have hne:=hg.ap i j a b hij hi hj he (by rw[sa,sb];rfl) t' x' t x g1 hx _ _ g2 f1;exact⟨bb,oo,C,T,fz,sz,g,f1,(g4 bb (fun e=>hne e.symm)).trans f2,f2,f3,f4,f5,f6⟩
def LJ(P:Program)(ops:List Oper):I6→Act×World→Option (Act×World)
 | [],s=>some s
 | i::l,s=>match ops[i]? with
   | some o=>match xW P o s with
     | some s=>LJ P ops l s
     | none=>none
   | none=>LJ P ops l s
def sS{ops:List Oper}(hr:oS ops=true){j:Nat}{b:Oper}(hj:ops[j]? = some b){l2:I6}{r:Act×World}:∀ (l1:List Nat) (s:Act×World),TZ P ops s→(∀ i ∈ l1,i<j∧wE b i=false)→LJ P ops (l1++j::l2) s=some r→∃ s1,xW P b s=some s1∧LJ P ops (l1++l2) s1=some r
 | [],s,hg,_,h=>by
   simp only[W4,LJ,hj]at h;split at h
   ·rename_i s1 h1;exact⟨s1,h1,h⟩
   ·cases h
 | i::l1,s,hg,hl,h=>by
   obtain⟨h0,he⟩:=hl i C5;have hl':∀ i ∈ l1,i<j∧wE b i=false:=fun k hk=>hl k (C8 _ hk)
   simp only[X8,LJ]at h ⊢;cases hi:ops[i]? with
   | none =>
     rw[hi]at h;exact sS hr hj l1 s hg hl' h
   | some a =>
     rw[hi]at h;simp only at h ⊢;split at h
     ·rename_i s' h1;obtain⟨s1,q1,q2⟩:=sS hr hj l1 s' (hg.step hr hi h1) hl' h;obtain⟨t,t1,t2⟩:=A5n hr hg h0 hi hj he h1 q1;exact⟨t,t1,by rw[t2];exact q2⟩
     ·cases h
def nY(n:Nat)(listed:Array Bool):I6:=(List.range n).filter fun i=>!listed.getD i true
def uY{n:Nat}{i:Nat}:i ∈ nY n listed↔i<n∧listed.getD i true=false:=by
 unfold nY;rw[W5,dE];simp
def LP(n:Nat)(listed:Array Bool):(nY n listed).Pairwise (· < ·):=List.Pairwise.filter _ List.pairwise_lt_range
def A3w{n:Nat}{i:Nat}{l1 l2:I6}(hi:i<listed.size)(h:nY n listed=l1++i::l2):nY n (listed.setIfInBounds i true)=l1++l2:=by
 have hp:=LP n listed;rw[h]at hp;have hne:∀ k ∈ l1++l2,(k != i)=true:=fun k hk=>by
  have hp:=List.pairwise_append.1 hp;rcases B5.1 hk with hk|hk
  ·have:=hp.2.2 k hk i C5;simp;omega
  ·have:=(List.pairwise_cons.1 hp.2.1).1 k hk;simp;omega
 have e:nY n (listed.setIfInBounds i true)=(nY n listed).filter fun k=>k != i:=by
  unfold nY;rw[List.filter_filter];apply List.filter_congr;intro k _;simp only[C3,H4];by_cases e:i=k
  ·subst e;simp[hi]
  ·simp[e,Ne.symm e]
 rw[e,h,List.filter_append,List.filter_cons];have e1:(i != i)=false:=by simp
 rw[e1];simp only[K9,if_false];rw[fT.2 fun k hk=>hne k (B5.2 (.inl hk)),fT.2 fun k hk=>hne k (B5.2 (.inr hk))]
def IF{ops:Array Oper}(hr:oS ops.toList=true){Q:Exit→Act→World→Prop}:∀ (fuel:Nat) (listed:Array Bool) (a:Act) (w:World) (r:Act×World),listed.size=ops.size→TZ P ops.toList (a,w)→(nY ops.size listed).length=fuel→LJ P ops.toList (nY ops.size listed) (a,w)=some r→Q .normal r.1 r.2→mA P rd .any ops Q fuel listed a w
 | 0,listed,a,w,r,hsz,hg,hl,h,hq=>by
   have h0:=D4.1 hl;rw[h0]at h;cases h;refine⟨?_,hq⟩;rw[eA];intro i hi;have:i ∈ nY ops.size listed:=by
    unfold Region.ready at hi;rw[W5]at hi;unfold nY;rw[W5];exact⟨hi.1,(B8 hi.2).1⟩
   rw[h0]at this;cases this
 | fuel+1,listed,a,w,r,hsz,hg,hl,h,hq=>by
   have hget:∀ {i:Nat},i<ops.size→∃ o,ops.toList[i]? = some o∧ops[i]? = some o:=fun{i} hi=>⟨ops[i],by simp[hi],by simp[hi]⟩
   refine⟨fun hn=>?_,fun i hi=>?_⟩
   ·
    cases hrm:nY ops.size listed with
    | nil=>rw[hrm]at hl;cases hl
    | cons i t =>
      exfalso;have him:i ∈ nY ops.size listed:=by rw[hrm];exact C5
      obtain⟨i1,i2⟩:=uY.1 him;obtain⟨o,o1,o2⟩:=hget i1;have ho:=qU hr o1;have hpw:=LP ops.size listed;rw[hrm]at hpw;have hmin:∀ k,k<i→listed.getD k false=true:=fun k hk=>by
       have hk2:k<listed.size:=A0;cases hv:listed.getD k true with
       | true=>rw[← hv];simp[C3,hk2]
       | false =>
         have:k ∈ nY ops.size listed:=uY.2 ⟨A0,hv⟩;rw[hrm]at this;rcases B6.1 this with e|hm
         ·omega
         ·have:=(List.pairwise_cons.1 hpw).1 k hm;omega
      have:i ∈ Region.ready .any ops listed:=by
       unfold Region.ready;rw[W5,dE];refine⟨i1,?_⟩;rw[i2,o2];simp only[Bool.not_false,Q4,P2,aT];rw[iX];intro e he;cases hb:Region.binds .any e with
       | false=>rfl
       | true=>rw[hmin e.on (ho.lt e he hb)];rfl
      rw[hn]at this;cases this
   ·have hi':=hi;unfold Region.ready at hi;rw[W5,dE]at hi;obtain⟨i1,i2⟩:=hi;obtain⟨o,o1,o2⟩:=hget i1;have ho:=qU hr o1;rw[o2]at i2;obtain⟨i2,i3⟩:=B8 i2;simp only[P2,aT]at i3;have hun:listed.getD i true=false:=by simpa using i2
    have hmem:i ∈ nY ops.size listed:=uY.2 ⟨i1,hun⟩;obtain⟨l1,l2,hspl⟩:=List.append_of_mem hmem;have hpw:=LP ops.size listed;rw[hspl]at hpw;have hfr:∀ k ∈ l1,k<i∧wE o k=false:=fun k hk=>by
     refine⟨(List.pairwise_append.1 hpw).2.2 k hk i C5,?_⟩;cases he:wE o k with
     | false=>rfl
     | true =>
       exfalso;unfold wE at he;rw[Array.any_eq_true']at he;obtain⟨e,hm,he⟩:=he;obtain⟨b1,b2⟩:=B8 he;have b2:=A1 b2
       have:=(iX.1 i3) e hm;rw[b1,b2]at this;simp only[V4,R7]at this;have hk2:=(uY (n:=ops.size) (listed:=listed) (i:=k)).1 (by rw[hspl];exact B5.2 (.inl hk));have hk3:k<listed.size:=A0;have hk4:=hk2.2;simp[C3,hk3]at this hk4;rw[this]at hk4;cases hk4
    rw[hspl]at h;obtain⟨s1,q1,q2⟩:=sS hr o1 l1 (a,w) hg hfr h;have dT:=A3w (n:=ops.size) (listed:=listed) (i:=i) (l1:=l1) (l2:=l2) A0 hspl;obtain⟨a1,w1⟩:=s1;unfold kP;rw[o2];simp only;have hw:Region.wanted o (yielded ops a.tmps)=true:=by unfold Region.wanted;rw[ho.grd]
    rw[A4 hw];refine A6l ho.cls q1 (IF hr fuel (listed.setIfInBounds i true) a1 w1 r (by simpa using hsz) (hg.step hr o1 q1) ?_ (by rw[dT];exact q2) hq);rw[dT];have:(l1++i::l2).length=fuel+1:=by rw[← hspl];exact hl
    simp at this ⊢;omega
def HP{ops:Array Oper}(hr:oS ops.toList=true){Q:Exit→Act→World→Prop}:∀ (d k:Nat) (a:Act) (w:World),k+d=ops.size→wpL P rd ops (fun e a' w'=>e=.normal∧Q e a' w') (ops.toList.drop k) a w→∃ r,LJ P ops.toList (List.range' k d) (a,w)=some r∧Q .normal r.1 r.2
 | 0,k,a,w,hk,h=>by
   have:ops.toList.drop k=[]:=dH (by simp;omega);rw[this]at h;exact⟨(a,w),rfl,h.2⟩
 | d+1,k,a,w,hk,h=>by
   have hlt:k<ops.toList.length:=by simp;omega
   rw[aV hlt]at h;have ho:=qU hr (A7 hlt);unfold wpL at h;have hw:Region.wanted ops.toList[k] (yielded ops a.tmps)=true:=by unfold Region.wanted;rw[ho.grd]
   rw[A4 hw]at h;obtain⟨a',w',h1,h2⟩:=A8d ho.cls (fun c a w hh=>by cases hh.1) h;obtain⟨r,r1,r2⟩:=HP hr d (k+1) a' w' A0 h2;refine⟨r,?_,r2⟩;rw[List.range'_succ];simp only[LJ,A7 hlt,h1];exact r1
def A7V{ops:Array Oper}(hr:oS ops.toList=true){Q:Exit→Act→World→Prop}{a:Act}{w:World}(hg:∀ w',w'.heap=w.heap→TZ P ops.toList (a,w'))(h:∀ d,wpL P rd ops (fun e a' w'=>e=.normal∧Q e a' w') ops.toList a { w with drawn:=d })(d:Nat):mA P rd .any ops Q ops.size (Array.replicate ops.size false) a { w with drawn:=d }:=by
 obtain⟨r,r1,r2⟩:=HP hr ops.size 0 a { w with drawn:=d } A0 (by simpa using h d);have e:nY ops.size (Array.replicate ops.size false)=List.range' 0 ops.size:=by
  unfold nY;rw[List.range_eq_range',fT];intro i hi;have:i<ops.size:=by have:=List.mem_range'.1 hi;omega
  simp[C3,this]
 exact IF hr ops.size _ a _ r (by simp) (hg _ rfl) (by rw[e];simp) (by rw[e];exact r1) r2
end
end
end Go.Sx
