import Derived.Test.YtjdnjfnhdeplfaaX4
import Derived.MapKept
import Derived.WideKeyRuns
import Derived.Lib.Builder
import Derived.LoopNIn
import Derived.RangeFuncRecord
set_option linter.all false
set_option maxRecDepth 100000
set_option maxHeartbeats 4000000
namespace Go.Sx
open Go
variable {ks l ts:F9}{k' v v' x':Value}{cs:List Frame}{clock k pi:Nat}{y:MTy}{d:Option Tmp}{kt pt ty:TypeId}{r us vs:List U}{rows rs:List (List U)}{es es':Array MapEntry}{hs xs:D0}{c:Code}{e':MapEntry}{tys:List TypeId}{w':World}{fz:Nat×Nat}{listed:Array Bool}
section
open Go
variable [Ora]
section
variable {P:Program} {base:Nat} {ρ:Ren} {m m':Mem} {w:World}
def oV:∀ {ts:F9} {cs cs':D0},tJ ts cs=true->(∀ t ∈ ts,t<10)->LR ρ cs cs'->(cs.map (D4 Ora.env)).map F3=ts/\cs'=(cs.map (D4 Ora.env)).map O8
 | [],[],cs',_,_,hl=>by cases hl.nil_inv;exact⟨rfl,rfl⟩
 | t::ts,v::vs,cs',h,ht,hl=>by
   obtain⟨h1,f⟩:=B3 (show(Nat.beq (F5 v) t && tJ ts vs)=true from h);have h1:=A0 h1;obtain⟨v',r,rfl,g1,g2⟩:=hl.tail;obtain⟨a,b⟩:=oV f (fun x g=>ht x (C5 _ g)) g2;obtain⟨c,d⟩:=m9 g1 (by rw[h1];exact ht t B4);have e:O8 (D4 Ora.env v)=v':=by unfold O8;rw[c];rfl
   exact⟨by rw[B8,B8,a,d,h1],by rw[B8,B8,e,<- b]⟩
 | [],_::_,_,h,_,_=>by cases h
 | _::_,[],_,h,_,_=>by cases h
def fG{a:Bool}{cs:D0}(h:jW a ts v=some cs)(g:∀ t ∈ ts,t<10)(f:VR ρ v v'):v'=S2 a (cs.map (D4 Ora.env))/\(cs.map (D4 Ora.env)).map F3=ts:=by
 unfold jW at h;split at h
 .rename_i c;obtain⟨h1,h⟩:=A2 h;cases h;obtain⟨cs',rfl,i⟩:=S0 f;obtain⟨e,b⟩:=oV h1 g i;exact⟨by rw[b];rfl,e⟩
 .cases h
 .obtain⟨h1,h⟩:=A2 h;cases h;obtain⟨e,b⟩:=oV h1 g (LR.cons f LR.nil);refine⟨?_,e⟩
  have:=U9 List.head? b
  simpa [S2]using this
def sB{t:Nat}(h:cW P t=some k):k<10:=by
 unfold cW at h;split at h
 .cases h;decide
 .cases h;have:=J9 ‹_›;omega
 .cases h;decide
 .cases h
def DG:∀ {g:List Field} {i:Nat} {l:F9},pX P g i=some l->∀ t ∈ l,t<10
 | [],i,l,h,t,e=>by cases h;cases e
 | f::g,i,l,h,t,e=>by
   unfold pX at h;split at h
   .rename_i a b h1 j;obtain⟨_,h⟩:=A2 h;cases h;rcases A8.1 e with rfl|e
    .exact sB h1
    .exact DG j t e
   .cases h
def zA{T:TypeId}(h:FS P T=some y):P.underlying T=some (.map y.kt y.vt)/\kE P y.kt=some (y.ka,y.ks)/\HD P y.vt=some (y.va,y.vs)/\0<y.ks.length/\(∀ t ∈ y.ks,t<10)/\(∀ t ∈ y.vs,t<10)/\(y.va=false->y.vs.length=1):=by
 unfold FS at h;split at h
 .rename_i kt vt hu;split at h
  .rename_i ka k ks va vs h1 a;cases h;refine⟨hu,h1,a,Nat.succ_pos _,?_,?_,?_⟩
   .intro t e;unfold kE at h1;split at h1
    .cases hs:P.stoodInHeld kt with
     | true=>rw[hs]at h1;cases h1
     | false =>
       rw[hs]at h1;simp only[D3]at h1;split at h1
       .rename_i l f;cases h1;exact DG f t e
       .cases h1
    .split at h1
     .rename_i z g;cases h1;simp only[A8,C3,or_false]at e;subst e;exact sB g
     .cases h1
   .intro t e;unfold HD at a;split at a
    .obtain⟨h3,a⟩:=A2 a;cases a;exact A1 (D2.1 h3 t e)
    .obtain⟨h3,a⟩:=A2 a;cases a;simp only[A8,C3,or_false]at e;subst e;exact A1 h3
    .cases a
   .intro b;have b:va=false:=b;subst b;unfold HD at a;split at a
    .obtain⟨_,a⟩:=A2 a;cases a
    .obtain⟨_,a⟩:=A2 a;cases a;rfl
    .cases a
  .cases h
 .cases h
def HM{t:TypeId}{u v:U}(h:cW P t=some k)(h1:F3 u=k)(f:F3 v=k)(n:Nat)(w:World):(Op.equalIn (n+1) t (O8 u) (O8 v)).run P w=.ok (isU u v) w:=by
 have hk:=sB h;unfold cW at h;split at h
 .rename_i hu;cases h;cases u<;>simp only[F3]at h1<;>first|omega|skip
  .have:=J9 ‹_›;omega
  .cases v<;>simp only[F3]at f<;>first|omega|skip
   .have:=J9 ‹_›;omega
   .simp[O8,toV,isU,eqU,Op.equalIn,A3,C8 hu,Result.andThen]
 .rename_i j hu;cases h;cases u with
  | int a x =>
    cases v with
    | int b z =>
      have i:=mR h1;have g:=mR f;subst i;subst g;simp[O8,toV,isU,eqU,Op.equalIn,A3,C8 hu,Result.andThen]
    | bool b=>simp only[F3]at f;have:=J9 j;omega
    | str s=>simp only[F3]at f;have:=J9 j;omega
    | seq _ _ _=>simp only[F3]at f;omega
    | none=>simp only[F3]at f;omega
  | bool b=>simp only[F3]at h1;have:=J9 j;omega
  | str s=>simp only[F3]at h1;have:=J9 j;omega
  | seq _ _ _=>simp only[F3]at h1;omega
  | none=>simp only[F3]at h1;omega
 .rename_i hu;cases h;cases u<;>simp only[F3]at h1<;>first|omega|skip
  .have:=J9 ‹_›;omega
  .cases v<;>simp only[F3]at f<;>first|omega|skip
   .have:=J9 ‹_›;omega
   .rename_i p q
    have:=run_equalIn_string (P:=P) w n t ⟨⟨p⟩⟩ ⟨⟨q⟩⟩ hu;have e:∀ s:List UInt8,O8 (.str s)=.string ⟨⟨s⟩⟩:=fun _=>rfl
    rw[e,e,this];simp[isU,eqU,ByteArray.toList_eq]
 .cases h
def NR{t:TypeId}{d:TypeDesc}{u v:U}(g:P.underlying t=some d)(h:cW P t=some k)(h1:F3 u=k)(f:F3 v=k):Instr.sameNow d (O8 u) (O8 v)=some (isU u v):=by
 unfold cW at h;split at h
 .rename_i hu;rw[hu]at g;cases g;cases h;cases u<;>simp only[F3]at h1<;>first|omega|skip
  .have:=J9 ‹_›;omega
  .cases v<;>simp only[F3]at f<;>first|omega|skip
   .have:=J9 ‹_›;omega
   .simp[O8,toV,isU,eqU,Instr.sameNow]
 .rename_i j hu;rw[hu]at g;cases g;cases h;cases u with
  | int a x =>
    cases v with
    | int b z =>
      have n:=mR h1;have i:=mR f;subst n;subst i;simp[O8,toV,isU,eqU,Instr.sameNow]
    | bool b=>simp only[F3]at f;have:=J9 j;omega
    | str s=>simp only[F3]at f;have:=J9 j;omega
    | seq _ _ _=>simp only[F3]at f;have:=J9 j;omega
    | none=>simp only[F3]at f;have:=J9 j;omega
  | bool b=>simp only[F3]at h1;have:=J9 j;omega
  | str s=>simp only[F3]at h1;have:=J9 j;omega
  | seq _ _ _=>simp only[F3]at h1;have:=J9 j;omega
  | none=>simp only[F3]at h1;have:=J9 j;omega
 .rename_i hu;rw[hu]at g;cases g;cases h;cases u<;>simp only[F3]at h1<;>first|omega|skip
  .have:=J9 ‹_›;omega
  .cases v<;>simp only[F3]at f<;>first|omega|skip
   .have:=J9 ‹_›;omega
   .rename_i p q;have e:(ByteArray.mk ⟨p⟩ == ByteArray.mk ⟨q⟩)=(p == q):=by
     show(Array.mk p == Array.mk q)=_;rw[K2,beq_iff_eq,beq_iff_eq];exact⟨fun h=>by injection h,fun h=>by rw[h]⟩
    simp[O8,toV,isU,eqU,Instr.sameNow,e]
 .cases h
def oB{t:TypeId}(h:cW P t=some k){X:D0}{i:Nat}(e:X[i]? = some v)(w:World):(part t ⟨X⟩ i).run P w=.ok v w:=by
 have a:∀ d,P.underlying t=some d->(match d with|.struct _|.array _ _=>False|_=>True)->(part t ⟨X⟩ i).run P w=.ok v w:=fun d f b=>by
  cases d<;>simp only at b<;>simp[part,isAgg,A3,C8 f,Result.andThen,e]
 unfold cW at h;split at h
 .exact a _ ‹_› trivial
 .exact a _ ‹_› trivial
 .exact a _ ‹_› trivial
 .cases h
def xC:∀ {j:List Field} {i:Nat} {ks:F9} {us vs:List U} {p q:D0},pX P j i=some ks->us.map F3=ks->vs.map F3=ks->p.length=i->q.length=i->∀ (n:Nat) (w:World),(Op.eqFields (n+1) ⟨p++us.map O8⟩ ⟨q++vs.map O8⟩ j).run P w=.ok (P9 us vs) w
 | [],i,ks,us,vs,p,q,h,h1,h2,hp,hq,n,w=>by
   cases h;have e:us=[]:=by simpa using h1
   have b:vs=[]:=by simpa using h2
   subst e;subst b;simp[Op.eqFields,P9]
 | f::j,i,ks,us,vs,p,q,h,h1,h2,hp,hq,n,w=>by
   unfold pX at h;split at h
   .rename_i t l o A;obtain⟨B,h⟩:=A2 h;cases h;obtain⟨g,a⟩:=B3 B;have a:=A0 a;have z:f.name ≠ "_":=by simpa using g
    cases us with
    | nil=>cases h1
    | cons u us =>
      cases vs with
      | nil=>cases h2
      | cons v vs =>
        simp only[B8,I4]at h1 h2;have g1:(p++(u::us).map O8)[f.offset]? = some (O8 u):=by rw[a,<- hp,D5 (A6 _)];simp
        have g2:(q++(v::vs).map O8)[f.offset]? = some (O8 v):=by rw[a,<- hq,D5 (A6 _)];simp
        have e:=oB o g1 w;have b:=oB o g2 w;have s:=HM o h1.1 h2.1 n w;have x:=xC (p:=p++[O8 u]) (q:=q++[O8 v]) A h1.2 h2.2 (by simp[hp]) (by simp[hq]) n w;rw[V7,V7]at x;unfold Op.eqFields;rw[B2 z];simp only[P9];cases hs:isU u v with
        | false =>
          simp only[A3,e,b,s,hs,Result.andThen_ok];simp
        | true =>
          simp only[A3,e,b,s,hs,Result.andThen_ok,Bool.true_and];exact x
   .cases h
def A0J{a:Bool}(h:kE P kt=some (a,ks))(h1:us.map F3=ks)(b:vs.map F3=ks)(w:World):(Op.equal kt (S2 a us) (S2 a vs)).run P w=.ok (P9 us vs) w:=by
 unfold kE at h;split at h
 .rename_i f hu;cases hs:P.stoodInHeld kt with
  | true=>rw[hs]at h;cases h
  | false =>
    rw[hs]at h;simp only[D3]at h;split at h
    .rename_i l g;cases h;have e:P.fieldsOf kt=f:=by simp[Program.fieldsOf,hu]
     show(Op.equalIn (9999+1) kt (.agg _) (.agg _)).run P w=_;rw[run_equalIn_struct (P:=P) w 9999 kt _ _ (by rw[e];exact hu) hs,e];exact xC (p:=[]) (q:=[]) g h1 b rfl rfl 9998 w
    .cases h
 .split at h
  .rename_i k hk;cases h;cases us with
   | nil=>cases h1
   | cons u us=>cases us with
     | cons _ _=>simp at h1
     | nil=>cases vs with
       | nil=>cases b
       | cons v vs=>cases vs with
         | cons _ _=>simp at b
         | nil =>
           simp only[B8,E3,I4,and_true]at h1 b
           have:=HM hk h1 b 9999 w;show(Op.equalIn (9999+1) kt (O8 u) (O8 v)).run P w=_;rw[this];simp[P9]
  .cases h
def tS{t:TypeId}(h:cW P t=some k)(e:Bool)(n:Nat)(v:Value)(w:World):(Instr.checkKey e (n+1) t v).run P w=.ok () w:=by
 unfold cW at h;split at h
 .rename_i hu;simp[Instr.checkKey,A3,C8 hu,Result.andThen]
 .rename_i hu;simp[Instr.checkKey,A3,C8 hu,Result.andThen]
 .rename_i hu;simp[Instr.checkKey,A3,C8 hu,Result.andThen]
 .cases h
def nM(e:Bool)(n:Nat)(w:World):∀ (L:List Field) (i:Nat) (ks:List Nat) (us:List U) (p:List Value),pX P L i=some ks->us.map F3=ks->p.length=i ->
  (forIn L PUnit.unit fun f (_:PUnit)=>if f.name ≠ "_" then(do let x <- part f.type ⟨p++us.map O8⟩ f.offset;Instr.checkKey e (n+1) f.type x;pure (ForInStep.yield PUnit.unit):Sem (ForInStep PUnit))else pure (ForInStep.yield PUnit.unit)).run P w=.ok PUnit.unit w
 | [],i,ks,us,p,h,h1,hp=>by simp
 | f::fs,i,ks,us,p,h,h1,hp=>by
   unfold pX at h;split at h
   .rename_i t l j s;obtain⟨z,h⟩:=A2 h;cases h;obtain⟨b,a⟩:=B3 z;have a:=A0 a;have q:f.name ≠ "_":=by simpa using b
    cases us with
    | nil=>cases h1
    | cons u us =>
      simp only[B8,I4]at h1;have g1:(p++(u::us).map O8)[f.offset]? = some (O8 u):=by rw[a,<- hp,D5 (A6 _)];simp
      have A:=oB j g1 w;have o:=tS j e n (O8 u) w;have g:=nM e n w fs (i+1) l us (p++[O8 u]) s h1.2 (by simp[hp]);rw[V7]at g;rw[List.forIn_cons];simp only[B2 q,A3,A,o,Result.andThen_ok,Sem.run_pure];exact g
   .cases h
def xK{a:Bool}(h:kE P kt=some (a,ks))(h1:us.map F3=ks)(e:Bool)(w:World):(Instr.checkKey e 10000 kt (S2 a us)).run P w=.ok () w:=by
 unfold kE at h;split at h
 .rename_i b hu;cases hs:P.stoodInHeld kt with
  | true=>rw[hs]at h;cases h
  | false =>
    rw[hs]at h;simp only[D3]at h;split at h
    .rename_i l f;have h:=h;cases h;have key:∀ n:Nat,(Instr.checkKey e (n+2) kt (.agg ⟨us.map O8⟩)).run P w=.ok () w:=fun n=>by
      rw[Instr.checkKey];simp only[A3,C8 hu,Result.andThen_ok];rw[<- Array.forIn_toList]
      have:=nM e n w b.toList 0 _ us [] f h1 rfl;rw[Q8]at this;rw[this];rfl
     exact key 9998
    .cases h
 .split at h
  .rename_i k hk;cases h;exact tS hk e 9999 _ w
  .cases h
def jZ(k:List U):List (List U)->Nat->Option (Nat×List U)
 | [],_=>none
 | r::rs,i=>if P9 k r then some (i,r)else jZ k rs (i+1)
def oI:∀ (us r:List U),P9 us (r.take us.length)=P9 us r
 | [],r=>rfl
 | a::us,[]=>rfl
 | a::us,b::r=>by
   show(isU a b && P9 us (r.take us.length))=(isU a b && P9 us r);rw[oI us r]
def pF.head{e:MapEntry}{es:List MapEntry}(h:pF y (r::rs) (e::es)):(r.map F3=y.ks++y.vs/\e.key=S2 y.ka (r.take y.ks.length)/\e.val=S2 y.va (r.drop y.ks.length))/\pF y rs es :=
 ⟨h.2 0 r e rfl rfl,by have:=h.1;simpa using this,fun i row b h1 a=>h.2 (i+1) row b (by simpa using h1) (by simpa using a)⟩
def vL(h:r.map F3=y.ks++y.vs):(r.take y.ks.length).map F3=y.ks/\(r.drop y.ks.length).map F3=y.vs:=by
 constructor
 .rw[List.map_take,h,List.take_left'];rfl
 .rw[List.map_drop,h,List.drop_left'];rfl
abbrev uY(y:MTy)(us:List U)(rows:List (List U))(i:Nat):Option (Nat×Value):=(jZ us rows i).map fun p=>(p.1,S2 y.va (p.2.drop y.ks.length))
def xY{y:MTy}(hk:kE P y.kt=some (y.ka,y.ks)){us:List U}(h1:us.map F3=y.ks):∀ {rows:List (List U)} {es:List MapEntry} (i:Nat),pF y rows es->(Instr.findAsking y.kt (S2 y.ka us) es i).run P w=.ok (uY y us rows i) w
 | [],[],i,_=>by simp[Instr.findAsking,uY,jZ]
 | [],_::_,i,h=>by have:=h.1;simp at this
 | _::_,[],i,h=>by have:=h.1;simp at this
 | r::rs,e::es,i,h=>by
   obtain⟨⟨a,b,c⟩,d⟩:=h.head;obtain⟨t1,t2⟩:=vL a;have hlen:us.length=y.ks.length:=by rw[<- h1,E8]
   have f:=A0J (P:=P) hk h1 t1 w;have j:P9 us (r.take y.ks.length)=P9 us r:=by rw[<- hlen];exact oI us r
   have g:=xY hk h1 (i+1) d;unfold Instr.findAsking;rw[b];simp only[A3,f,j,Result.andThen_ok,uY,jZ];cases n:P9 us r with
   | true=>simp[c]
   | false=>simp only[G9,if_false];exact g
def PD{y:MTy}{k:Nat}{d:TypeDesc}(j:P.underlying y.kt=some d)(hs:cW P y.kt=some k)(n:y.ka=false)(f:y.ks=[k]){u:U}(h1:F3 u=k):∀ {rows:List (List U)} {es:List MapEntry} (i:Nat),pF y rows es->Instr.findNow d (O8 u) es i=some (uY y [u] rows i)
 | [],[],i,_=>rfl
 | [],_::_,i,h=>by have:=h.1;simp at this
 | _::_,[],i,h=>by have:=h.1;simp at this
 | r::rs,e::es,i,h=>by
   obtain⟨⟨a,b,c⟩,o⟩:=h.head;cases r with
   | nil=>rw[f]at a;simp at a
   | cons g r =>
     have a0:F3 g=k:=by rw[f]at a;simp at a;exact a.1
     have b:e.key=O8 g:=by rw[b,n,f];rfl
     have q:=NR j hs h1 a0;have p:=PD j hs n f h1 (i+1) o;unfold Instr.findNow;rw[b,q];simp only[uY,jZ,P9,kI];cases s:isU u g with
     | true=>simp[c]
     | false=>simp only[G9,if_false];exact p
def tF(hk:kE P y.kt=some (y.ka,y.ks))(h1:us.map F3=y.ks){es:List MapEntry}(h:pF y rows es):(Instr.findKey y.kt (S2 y.ka us) es).run P w=.ok (uY y us rows 0) w:=by
 have e:=hk;unfold kE at hk;split at hk
 .rename_i g hu;rw[run_findKey_eq w (by rw[hu]) (S2 y.ka us) es];exact xY e h1 0 h
 .split at hk
  .rename_i k hs;have f:y.ka=false:=(U9 Prod.fst (A5 hk)).symm;have a:y.ks=[k]:=(U9 Prod.snd (A5 hk)).symm;rw[a]at h1;cases us with
   | nil=>simp at h1
   | cons u us=>cases us with
     | cons _ _=>simp at h1
     | nil =>
       simp only[B8,E3,I4,and_true]at h1;obtain⟨d,b⟩:∃ d,P.underlying y.kt=some d:=by
        cases b:P.underlying y.kt with
        | some d=>exact⟨d,rfl⟩
        | none=>unfold cW at hs;rw[b]at hs;cases hs
       rw[f];exact MapKept.run_findKey b (PD b hs f a h1 0 h)
  .cases hk
def DA{k:List U}:∀ (rows:List (List U)) (i:Nat),(jZ k rows i).isSome=rows.any (P9 k)
 | [],_=>rfl
 | r::rs,i=>by
   simp only[jZ,Z9];cases P9 k r with
   | true=>rfl
   | false=>simp only[G9,if_false,R7];exact DA rs (i+1)
def wT{k:List U}:∀ (rows:List (List U)) (i:Nat),(jZ k rows i).map (·.2)=rows.find? (P9 k)
 | [],_=>rfl
 | r::rs,i=>by
   simp only[jZ,aV];cases P9 k r with
   | true=>rfl
   | false=>simp only[G9,if_false];exact wT rs (i+1)
def mV{k:List U}:∀ {rows:List (List U)} {i j:Nat} {r:List U},jZ k rows i=some (j,r)->i<=j/\rows[j-i]? = some r/\P9 k r=true
 | [],_,_,_,h=>by cases h
 | x::rs,i,j,r,h=>by
   unfold jZ at h;cases e:P9 k x with
   | true=>rw[e]at h;cases h;exact⟨A6 _,by simp,e⟩
   | false =>
     rw[e]at h;obtain⟨a,b,c⟩:=mV (rows:=rs) h;exact⟨A9,by rw[show j-i=(j-(i+1))+1 by omega];exact b,c⟩
def BU{kw:Nat}{c:List U}:∀ (rows:List (List U)) (i:Nat),BV kw c rows=match jZ (c.take kw) rows i with
  | some p=>rows.set (p.1-i) c
  | none=>rows++[c]
 | [],_=>rfl
 | r::rs,i=>by
   unfold BV jZ;cases e:P9 (c.take kw) r with
   | true=>simp
   | false =>
     simp only[G9,if_false];rw[BU rs (i+1)];cases b:jZ (c.take kw) rs (i+1)with
     | none=>rfl
     | some p =>
       obtain⟨a,_⟩:=mV (r:=p.2) (j:=p.1) b;show r::rs.set (p.1-(i+1)) c=(r::rs).set (p.1-i) c;rw[show p.1-i=(p.1-(i+1))+1 by omega];rfl
theorem mT{b:Nat}{v':Value}(h:VR ρ (.map (some b)) v'):∃ l,ρ b=some l/\v'=.map (some l.blk):=by
 cases h with
 | pure hp=>simp[H3]at hp
 | map h=>exact⟨_,h,rfl⟩
def UN{T:TypeId}(h:HR P base ρ m.H w)(s:base<=w.heap.size)(a:PH P m T=some (v,m'))(j:I2 ρ m.n m'.hi)(t:Sat m'.lg):VOk P base ρ m w (Instr.makeMap T none) v m':=by
 unfold PH at a;split at a
 .rename_i y o;rw[L7]at a;have g:=p8 a;have p:=fW (lg:=m'.lg) t (by rw[g];exact .refl _);obtain⟨x,z,q,wd,rows,A⟩:=p;have f:Ora.env m.lg.nx=.seq false y.w []:=by
   have hw:0<y.w:=by have:=(zA o).2.2.2.1;unfold MTy.w;omega
   rw[x];show(if y.w=0 then U.none else match Y6 y.w (0 / y.w) []with
    | some r=>U.seq false y.w r
    | none=>.none)=_
   rw[B1 A9,Nat.zero_div];rfl
  have b:=St.wLg h (cR m (10+y.w) (.mk y.w) []);obtain⟨h1,u,h3⟩:=St.alloc (w':={ w with heap:=w.heap.push (.map #[] 0) }) (l:=lc w.heap.size 0 0) b.hr s a (by rw[MP];exact j) ⟨rfl,rfl,rfl⟩ rfl rfl
   ⟨⟨rfl,rfl⟩,y,#[],0,[],o,.inl rfl,by simp,f,⟨rfl,fun i row e hr=>by simp at hr⟩,iV,fun e he=>by cases he⟩
  refine⟨.map (some w.heap.size),_,_,?_,?_,St.trans j b h3⟩
  .simp[Instr.makeMap,newObj,Sem.run,A3,Result.andThen]
  .rw[h1];exact .map u
 .cases a
def eD{t:Nat}{op:LOp}(h:Q2 m t op xs=some (v,m'))(f:Sat m'.lg):t<10/\F3 (evU op (xs.map (D4 Ora.env)))=t/\VR ρ v (O8 (evU op (xs.map (D4 Ora.env)))):=by
 obtain⟨u,i,g,r,b,a,e⟩:=K3 h f;subst i;refine⟨e,g,?_⟩;have:O8 (evU op (xs.map (D4 Ora.env)))=r:=by unfold O8;rw[b];rfl
 rw[this];exact a ρ
def wW{wd kw c t:Nat}{b:D0}{p:Bool}{rows:List (List U)}(A:Ora.env c=.seq p wd rows)(u:b.length=kw):∀ {ts:F9} {f:D0} {j:Nat} {m m':Mem} {hs:D0},oT wd kw c t b ts f j m=some (hs,m')->Sat m'.lg ->
  I1 m m'/\m.lg.le m'.lg/\hs.length=ts.length/\f.length=ts.length /\
  (∀ r,rows.find? (P9 (b.map (D4 Ora.env)))=some r->∀ i:Nat,i<ts.length->∃ v,hs[i]? = some v/\VR ρ v (O8 (r.getD (j+i) .none))) /\
  (rows.find? (P9 (b.map (D4 Ora.env)))=none->∀ i:Nat,i<ts.length->∃ v z,hs[i]? = some v/\f[i]? = some z/\VR ρ v (O8 (D4 Ora.env z)))
 | [],[],j,m,m',hs,h,hS=>by
   cases h;exact⟨.refl _,.refl _,rfl,rfl,fun r _ i hi=>(by simp at hi),fun _ i hi=>(by simp at hi)⟩
 | [],_::_,j,m,m',hs,h,hS=>by cases h
 | _::_,[],j,m,m',hs,h,hS=>by cases h
 | tg::ts,z::f,j,m,m',hs,h,hS=>by
   unfold oT at h;split at h
   .rename_i v m1 g;split at h
    .rename_i r m2 hr;cases h;obtain⟨F,a2,a3,a4,a5,E⟩:=wW A u hr hS;have q:Sat m1.lg:=hS.le a2;obtain⟨_,_,a⟩:=eD (ρ:=ρ) g q;have n:evU (.mget wd kw j) ((hole c t::z::b).map (D4 Ora.env))=(match rows.find? (P9 (b.map (D4 Ora.env)))with
       | some r=>r.getD j .none
       | none=>D4 Ora.env z):=by
      show evU (.mget wd kw j) (Ora.env c::D4 Ora.env z::b.map (D4 Ora.env))=_;rw[A];show(if wd=wd/\(b.map (D4 Ora.env)).length=kw then _ else U.none)=_;rw[B2 ⟨rfl,by rw[E8];exact u⟩];cases rows.find? (P9 (b.map (D4 Ora.env)))<;>rfl
     rw[n]at a;refine⟨(G0 g).trans F,(G3 g).trans a2,by simp[a3],by simp[a4],fun B e i hi=>?_,fun e i hi=>?_⟩
     .cases i with
      | zero=>rw[e]at a;exact⟨v,rfl,a⟩
      | succ i =>
        obtain⟨x,s,o⟩:=a5 B e i (by simpa using hi);exact⟨x,by simpa using s,by rw[show j+(i+1)=j+1+i by omega];exact o⟩
     .cases i with
      | zero=>rw[e]at a;exact⟨v,z,rfl,rfl,a⟩
      | succ i =>
        obtain⟨x,D,s,o,C⟩:=E e i (by simpa using hi);exact⟨x,D,by simpa using s,by simpa using o,C⟩
    .cases h
   .cases h
def YV{vs:D0}(n:hs.length=vs.length)(h:∀ i:Nat,i<vs.length->∃ v v',hs[i]? = some v/\vs[i]? = some v'/\VR ρ v v'):LR ρ hs vs:=⟨n,fun i v v' h1 e=>by
 obtain⟨a,b,g,f,j⟩:=h i (A7.1 e).1;rw[h1]at g;rw[e]at f;cases g;cases f;exact j⟩
def SW{a:Bool}(h:SX a hs=some v)(b:LR ρ hs (us.map O8)):VR ρ v (S2 a us):=by
 unfold SX at h;split at h
 .cases h;exact .agg b.1 b.2
 .cases h;cases us with
  | nil=>have:=b.1;simp at this
  | cons u us =>
    obtain⟨v',r,e,g,_⟩:=b.tail;rw[B8,I4]at e;rw[<- e.1]at g;exact g
 .cases h
def LK{T:TypeId}{x k:Value}{ok:Bool}(h:HR P base ρ m.H w)(o:sR P m T x k ok=some (v,m'))(hx:VR ρ x x')(hk:VR ρ k k')(M:Sat m'.lg):VOk P base ρ m w (Instr.lookup T x' k' ok) v m':=by
 unfold sR at o;split at o
 .rename_i r y hy;obtain⟨hu,G,ar,aw,Z,W,aq⟩:=zA hy;obtain⟨l,hl,rfl⟩:=mT hx;split at o
  .rename_i c t T2 f z hg S hz;obtain⟨hT,a⟩:=A2 o;clear o;have hT:=A0 hT;subst hT;split at a
   .rename_i zc X;split at a
    .rename_i hs m1 V;split at a
     .rename_i v1 hv;obtain⟨⟨⟨au,av⟩,y2,es,clock,rows,g1,g2,g3,g4,g5,g6⟩,_⟩:=h.atl hl hg;rw[hy]at g1;have g1:=A5 g1;subst g1;obtain⟨k1,Q⟩:=fG S Z hk;have N:VR ρ z z:=.ofC (rH hz).choose_spec.2.2;obtain⟨z1,z2⟩:=fG X W N;have F:f.length=y.ks.length:=by rw[<- Q];simp
      have az:Sat m1.lg:=by
       cases ok with
       | false=>cases a;exact M
       | true =>
         simp only[D7]at a;split at a
         .rename_i J;cases a;exact M.le (G3 J)
         .cases a
      obtain⟨a1,a2,a3,a4,a5,a6⟩:=wW (ρ:=ρ) g4 F V az;have D:=tF (P:=P) (w:=w) G Q g5;have B:=xK (P:=P) G Q es.isEmpty w;have j:=wT (k:=f.map (D4 Ora.env)) rows 0;have s:∀ {us:List U},LR ρ hs (us.map O8)->VR ρ v1 (S2 y.va us):=fun g=>SW hv g
      have I:∃ val,VR ρ v1 val/\(Instr.lookup T2 (.map (some l.blk)) k' ok).run P w=.ok (if ok then .tuple #[val,.bool (rows.any (P9 (f.map (D4 Ora.env))))]else val) w:=by
       have E:(getObj l.blk).run P w=.ok (.map es clock) w:=by simp[getObj,Sem.run,g3]
       have e:=DA (k:=f.map (D4 Ora.env)) rows 0;cases C:jZ (f.map (D4 Ora.env)) rows 0 with
       | none =>
         rw[C]at j e;have g:LR ρ hs ((zc.map (D4 Ora.env)).map O8):=YV (by rw[a3,E8,E8,a4]) fun i hi=>by
          have K:i<y.vs.length:=by rw[E8,E8,a4]at hi;exact hi
          obtain⟨Y,z',R,O,e3⟩:=a6 j.symm i K;exact⟨Y,_,R,by rw[F4,F4,O];rfl,e3⟩
         refine⟨z,by rw[z1];exact s g,?_⟩;have e:rows.any (P9 (f.map (D4 Ora.env)))=false:=e.symm;rw[k1];simp only[Instr.lookup,A3,C8 hu,Result.andThen_ok,E,B,D,uY,C,gA,n9 hz,Sem.run_pure,e]
       | some p =>
         obtain⟨pi,q⟩:=p;rw[C]at j e;obtain⟨_,q1,q2⟩:=mV C;have q1:rows[pi]? = some q:=by simpa using q1
         have L:pi<es.toList.length:=by rw[<- g5.1];exact(A7.1 q1).1
         obtain⟨t1,t2,t3⟩:=g5.2 pi q es.toList[pi] q1 (A4 L);have ax:q.length=y.ks.length+y.vs.length:=by
          have:=U9 List.length t1
          simpa using this
         have g:LR ρ hs ((q.drop y.ks.length).map O8):=YV (by rw[a3,E8,S9];omega) fun i hi=>by
          rw[E8,S9]at hi;obtain⟨Y,R,O⟩:=a5 q j.symm i A9;refine⟨Y,_,R,?_,O⟩;rw[F4,G5,A4 A9,I3,B9,A4 A9];rfl
         refine⟨S2 y.va (q.drop y.ks.length),s g,?_⟩;have e:rows.any (P9 (f.map (D4 Ora.env)))=true:=e.symm;rw[k1];simp only[Instr.lookup,A3,C8 hu,Result.andThen_ok,E,B,D,uY,C,I3,Sem.run_pure,e]
      obtain⟨val,A,n⟩:=I;cases ok with
      | false =>
        cases a;obtain⟨lg,rfl⟩:=a1;exact⟨val,ρ,w,n,A,St.wLg h lg⟩
      | true =>
        simp only[D7]at a;split at a
        .rename_i b m2 J;cases a;obtain⟨_,_,u⟩:=eD (ρ:=ρ) J M;have ay:evU (.mhas y.w y.ks.length) ((hole c t::f).map (D4 Ora.env))=.bool (rows.any (P9 (f.map (D4 Ora.env)))):=by
          show evU (.mhas y.w y.ks.length) (Ora.env c::f.map (D4 Ora.env))=_;rw[g4];show(if y.w=y.w/\(f.map (D4 Ora.env)).length=y.ks.length then _ else U.none)=_;rw[B2 ⟨rfl,by rw[E8];exact F⟩]
         rw[ay]at u;obtain⟨lg,rfl⟩:=a1.trans (G0 J);refine⟨.tuple #[val,.bool (rows.any (P9 (f.map (D4 Ora.env))))],ρ,w,n,?_,St.wLg h lg⟩
         have:=LR.cons A (LR.cons u LR.nil);exact .tuple this.1 this.2
        .cases a
     .cases a
    .cases a
   .cases a
  .cases o
 .cases o
def NN{i:Nat}{c:List U}(h:pF y rows es.toList)(b:c.map F3=y.ks++y.vs)(h1:e'.key=S2 y.ka (c.take y.ks.length))(f:e'.val=S2 y.va (c.drop y.ks.length))(a:es'.toList=es.toList.set i e'):pF y (rows.set i c) es'.toList:=by
 rw[a];refine⟨by rw[gD,gD];exact h.1,fun j row e hr he=>?_⟩;rw[List.getElem?_set]at hr he;by_cases q:i=j
 .subst q;rw[B2 rfl]at hr he;split at hr
  .cases hr;split at he
   .cases he;exact⟨b,h1,f⟩
   .cases he
  .cases hr
 .rw[B1 q]at hr he;exact h.2 j row e hr he
def OQ{k:Value}(h:qG es.toList clock):qG (es.push ⟨k,v,clock⟩).toList (clock+1):=by
 obtain⟨h1,a⟩:=h;rw[Array.toList_push];refine⟨?_,fun e he=>?_⟩
 .rw[M6,dH];refine⟨h1,by simp,fun x g y b f=>?_⟩;simp only[B8,E3,G7]at b;obtain⟨e,he,rfl⟩:=I6.1 g
  have:=a e he;omega
 .rcases B7.1 he with he|he
  .have:=a e he;omega
  .rw[G7.1 he];show clock<clock+1;omega
def FT{f:MapEntry->Value×Value}(h:qG es.toList clock):qG (es.modify pi fun e=>{ e with key:=(f e).1,val:=(f e).2 }).toList clock:=by
 obtain⟨h1,i⟩:=h;have b:(es.modify pi fun e=>{ e with key:=(f e).1,val:=(f e).2 }).toList.map (·.born)=es.toList.map (·.born):=by
  apply V6;intro j;rw[F4,F4,M8,F1,M8];by_cases g:pi=j
  .rw[B2 g];cases es[j]?<;>rfl
  .rw[B1 g]
 refine⟨by rw[b];exact h1,fun e he=>?_⟩;have:e.born ∈ es.toList.map (·.born):=by rw[<- b];exact aZ he
 obtain⟨x,n,a⟩:=I6.1 this;rw[<- a];exact i x n
def LF{c:List U}(h:pF y rows es.toList)(f:c.map F3=y.ks++y.vs)(h1:e'.key=S2 y.ka (c.take y.ks.length))(g:e'.val=S2 y.va (c.drop y.ks.length)):pF y (rows++[c]) (es.push e').toList:=by
 rw[Array.toList_push];refine⟨by rw[G8,G8,h.1];rfl,fun j row e hr he=>?_⟩;rw[List.getElem?_append]at hr he;rw[h.1]at hr;split at he
 .rename_i a;rw[B2 a]at hr;exact h.2 j row e hr he
 .rename_i a;rw[B1 a]at hr;cases b:j-es.toList.length with
  | zero =>
    rw[b]at hr he;cases hr;cases he;exact⟨f,h1,g⟩
  | succ n=>rw[b]at hr;cases hr
def EX{u v:U}(h1:F3 u<10)(h:isU u v=true):u=v:=by
 unfold isU at h;cases u with
 | int k a =>
   cases v with
   | int j b =>
     simp only[eqU]at h;by_cases e:k=j
     .subst e;rw[B2 rfl]at h;have h:(a == b)=true:=h;rw[eq_of_beq h]
     .rw[B1 e]at h;cases h
   | _=>simp[eqU]at h
 | bool a =>
   cases v with
   | bool b =>
     have h:(a == b)=true:=h;rw[eq_of_beq h]
   | _=>simp[eqU]at h
 | str a =>
   cases v with
   | str b =>
     have h:(a == b)=true:=h;rw[eq_of_beq h]
   | _=>simp[eqU]at h
 | seq _ _ _=>simp only[F3]at h1;omega
 | none=>simp only[F3]at h1;omega
def rX:∀ {us vs:List U},us.map F3=vs.map F3->(∀ t ∈ us.map F3,t<10)->P9 us vs=true->us=vs
 | [],[],_,_,_=>rfl
 | [],_::_,h,_,_=>by cases h
 | _::_,[],h,_,_=>by cases h
 | u::us,v::vs,h,ht,hk=>by
   obtain⟨a,b⟩:=B3 (show(isU u v && P9 us vs)=true from hk);simp only[B8,I4]at h;rw[EX (ht _ B4) a,rX h.2 (fun t q=>ht t (C5 _ q)) b]
def xR{u:U}(h:F3 u<10)(n:Nat):Instr.sameBits n (O8 u) (O8 u)=true:=by
 cases u with
 | int k a=>cases n<;>simp[O8,toV,Instr.sameBits]
 | bool b=>cases n<;>simp[O8,toV,Instr.sameBits]
 | str s=>cases n<;>(simp only[O8,toV,Y0,Instr.sameBits];show(Array.mk s == Array.mk s)=true;simp)
 | seq _ _ _=>simp only[F3]at h;omega
 | none=>simp only[F3]at h;omega
def MA{a:Bool}(h:∀ t ∈ us.map F3,t<10)(b:a=false->us≠[])(n:Nat):Instr.sameBits (n+1) (S2 a us) (S2 a us)=true:=by
 cases a with
 | true =>
   simp only[S2,Instr.sameBits,H6,beq_self_eq_true,true_and,D2];intro p hp;obtain⟨i,hi,he⟩:=List.mem_iff_getElem.1 hp;simp only[List.getElem_zip,List.getElem_map]at he;subst he;exact xR (h _ (I6.2 ⟨_,L6 _,rfl⟩)) n
 | false =>
   cases us with
   | nil=>exact absurd rfl (b rfl)
   | cons u us=>exact xR (h _ B4) _
def BP{T:TypeId}{x k e e':Value}(h:HR P base ρ m.H w)(hb:base<=w.heap.size)(G:wD P m T x k e=some (v,m'))(hf:I2 ρ m.n m'.hi)(hx:VR ρ x x')(hk:VR ρ k k')(he:VR ρ e e')(hS:Sat m'.lg):v=undef/\UOk P base ρ m w (Instr.mapUpdate T x' k' e') m':=by
 unfold wD at G;split at G
 .rename_i r y hy;obtain⟨hu,ay,ae,ag,K,ak,ad⟩:=zA hy;obtain⟨l,hl,rfl⟩:=mT hx;split at G
  .rename_i c t T2 i u hg al ar;obtain⟨hT,z⟩:=A2 G;clear G;obtain⟨hT,O⟩:=B3 hT;have O:t<1000:=A1 O;have hT:=A0 hT;subst hT;rw[L7]at z;unfold FU at z;split at z
   .rename_i m2 U5;cases z;have au:=bC U5;obtain⟨e1,e2,af,wd,an,e3⟩:=fW (lg:=m'.lg) hS (by rw[au];exact .refl _);obtain⟨⟨⟨S,ao⟩,y2,es,clock,rows,g1,g2,g3,g4,g5,g6⟩,_⟩:=h.atl hl hg;rw[hy]at g1;have g1:=A5 g1;subst g1;obtain⟨J,C⟩:=fG al K hk;obtain⟨v1,v2⟩:=fG ar ak he;have B:i.length=y.ks.length:=by rw[<- C];simp
    have ai:u.length=y.vs.length:=by rw[<- v2];simp
    have aq:((i++u).map (D4 Ora.env)).length=y.w:=by rw[E8,G8,B,ai];rfl
    have aw:((i++u).map (D4 Ora.env)).map F3=y.ks++y.vs:=by rw[M6,M6,C,v2]
    have A:((i++u).map (D4 Ora.env)).take y.ks.length=i.map (D4 Ora.env):=by rw[M6,List.take_left' (by rw[E8];exact B)]
    have D:((i++u).map (D4 Ora.env)).drop y.ks.length=u.map (D4 Ora.env):=by rw[M6,List.drop_left' (by rw[E8];exact B)]
    have o:Ora.env m.lg.nx=.seq false y.w (BV y.ks.length ((i++u).map (D4 Ora.env)) rows):=by
     rw[e1];show evU (.mput y.w y.ks.length) (Ora.env c::(i++u).map (D4 Ora.env))=_;rw[g4];show(if y.w=y.w/\((i++u).map (D4 Ora.env)).length=y.w then _ else U.none)=_;rw[B2 ⟨rfl,aq⟩]
    rw[BU _ 0,A]at o;have Y:(getObj l.blk).run P w=.ok (.map es clock) w:=by simp[getObj,Sem.run,g3]
    have W:=tF (P:=P) (w:=w) ay C g5;have R:=xK (P:=P) ay C false w;have Z:=St.wLg h (cR m t (.mput y.w y.ks.length) (hole c t::(i++u)));have aj:Hp.get (m.wLg (cR m t (.mput y.w y.ks.length) (hole c t::(i++u)))).H r=some (.mp c t T2):=by rw[gM];exact hg
    have s:l.blk<w.heap.size:=(B5.1 g3).1;refine⟨rfl,?_⟩;have Q:∀ (b:Array MapEntry) (a:Nat),(setObj l.blk (.map b a)).run P w=.ok () { w with heap:=w.heap.set l.blk (.map b a) s }:=fun b a=>by
     have av:w.heap[l.blk]=.map es clock:=by
      have q:=g3;rw[E0 s]at q;exact A5 q
     simp[setObj,Sem.run,av,Array.setIfInBounds,s]
    have fin:∀ (b:Array MapEntry) (a:Nat) (g:List (List U)),Ora.env m.lg.nx=.seq false y.w g->pF y g b.toList->qG b.toList a->(Instr.mapUpdate T2 (.map (some l.blk)) k' e').run P w=.ok () { w with heap:=w.heap.set l.blk (.map b a) s }->UOk P base ρ m w (Instr.mapUpdate T2 (.map (some l.blk)) k' e') m':=fun b a g q1 q2 q4 q3=>by
     refine⟨ρ,_,q3,St.trans hf Z (St.write (ab:=.mp c t T2) (ab':=.mp m.lg.nx t T2) Z.hr U5 aj rfl hl S ⟨rfl,rfl,rfl⟩ (by simp) (fun j hj=>?_) ?_)⟩
     .show(w.heap.set l.blk _ s)[j]? = _;rw[i0,B1 (fun e=>hj e.symm)]
     .refine⟨⟨S,ao⟩,y,b,a,g,hy,.inl (g2.resolve_right fun q=>by have:=q.1;omega),?_,q1,q2,q4⟩;show(w.heap.set l.blk _ s)[l.blk]? = _;rw[i0,B2 rfl]
    cases V:jZ (i.map (D4 Ora.env)) rows 0 with
    | none =>
      rw[V]at o;refine fin (es.push ⟨k',e',clock⟩) (clock+1) _ o (LF g5 aw (by rw[A];exact J) (by rw[D];exact v1)) (OQ g6) ?_;rw[J];simp only[Instr.mapUpdate,A3,C8 hu,Result.andThen_ok,Y,R,W,uY,V,gA,Q]
    | some p =>
      obtain⟨pi,L⟩:=p;rw[V]at o;have o:Ora.env m.lg.nx=.seq false y.w (rows.set pi ((i++u).map (D4 Ora.env))):=o;obtain⟨_,q1,q2⟩:=mV V;have q1:rows[pi]? = some L:=by simpa using q1
      have F:pi<es.toList.length:=by rw[<- g5.1];exact(A7.1 q1).1
      obtain⟨t1,t2,t3⟩:=g5.2 pi L es.toList[pi] q1 (A4 F);obtain⟨ah,_⟩:=vL t1;have I:i.map (D4 Ora.env)=L.take y.ks.length:=by
       refine rX (by rw[C,ah]) (by rw[C];exact K) ?_
       have:=oI (i.map (D4 Ora.env)) L;rw[E8,B]at this;rw[this];exact q2
      have ax:pi<es.size:=by simpa using F
      refine fin (es.modify pi fun e2=>{ e2 with key:=k',val:=e' }) clock _ o (NN (e':=⟨k',e',(es[pi]).born⟩) g5 aw (by rw[A];exact J) (by rw[D];exact v1) ?_) (FT (f:=fun _=>(k',e')) g6) ?_
      .apply V6;intro j;rw[M8,F1,List.getElem?_set];by_cases hj:pi=j
       .subst hj;rw[B2 rfl,B2 rfl,B2 F,E0 ax];rfl
       .rw[B1 hj,B1 hj];simp
      .have X:((es[pi]?).map (·.key)).getD k'=k':=by
        rw[E0 ax];show es[pi].key=k';have t2:es[pi].key=S2 y.ka (L.take y.ks.length):=t2;rw[t2,<- I,J]
       have E:Instr.sameBits 10000 k' k'=true:=by
        rw[J];exact MA (by rw[C];exact K) (fun _ q=>by have:=U9 List.length C;rw[q]at this;simp at this;omega) 9999
       have az:(Instr.keyThatStays k' k').run P w=.ok k' w:=by
        simp only[Instr.keyThatStays,E,if_true,Sem.run_pure]
       have M:(Instr.findKey y.kt k' es.toList).run P w=.ok (some (pi,S2 y.va (L.drop y.ks.length))) w:=by
        rw[J,W];simp[uY,V]
       have N:(Instr.checkKey false 10000 y.kt k').run P w=.ok () w:=by rw[J];exact R
       simp only[Instr.mapUpdate,A3,C8 hu,Result.andThen_ok,Y,N,M,X,az,Q]
   .cases z
  .cases G
 .cases G
def PP{T:TypeId}{x:Value}(h:HR P base ρ m.H w)(a:CR P m T x=some (v,m'))(o:VR ρ x x')(i:Sat m'.lg):VOk P base ρ m w (Builtin.len_ ⟨T::tys⟩ ty #[x']) v m':=by
 unfold CR at a;split at a
 .rename_i kt s r hu;obtain⟨l,n,rfl⟩:=mT o;split at a
  .rename_i c t q g;obtain⟨⟨⟨f,j⟩,p,es,clock,rows,g1,g2,g3,g4,g5,g6⟩,_⟩:=h.atl n g;obtain⟨q1,⟨lg,rfl⟩,_,_⟩:=iC (ρ:=ρ) a g4 i;have b:(getObj l.blk).run P w=.ok (.map es clock) w:=by simp[getObj,Sem.run,g3]
   refine⟨_,ρ,w,?_,q1,St.wLg h lg⟩
   have:=g5.1;have e:es.size=rows.length:=by rw[this];simp
   simp[Builtin.len_,A3,C8 hu,Result.andThen,goInt,b,e]
  .cases a
 .cases a
def UO{T:TypeId}(a:PH P m T=some (v,m')):m.lg.le m'.lg:=by
 unfold PH at a;split at a
 .rw[L7]at a;rw[p8 a];exact S1
 .cases a
def oS{wd kw c t:Nat}{e:D0}:∀ {ts:F9} {a:D0} {j:Nat} {m m':Mem} {hs:D0},oT wd kw c t e ts a j m=some (hs,m')->m.lg.le m'.lg
 | [],[],j,m,m',hs,h=>by cases h;exact .refl _
 | [],_::_,j,m,m',hs,h=>by cases h
 | _::_,[],j,m,m',hs,h=>by cases h
 | tg::ts,z::a,j,m,m',hs,h=>by
   unfold oT at h;split at h
   .rename_i b;split at h
    .rename_i hr;cases h;exact(G3 b).trans (oS hr)
    .cases h
   .cases h
def LL{T:TypeId}{x k:Value}{ok:Bool}(a:sR P m T x k ok=some (v,m')):m.lg.le m'.lg:=by
 unfold sR at a;split at a
 .split at a
  .obtain⟨_,a⟩:=A2 a;split at a
   .split at a
    .rename_i b;split at a
     .cases ok with
      | false=>cases a;exact oS b
      | true =>
        simp only[D7]at a;split at a
        .rename_i e;cases a;exact(oS b).trans (G3 e)
        .cases a
     .cases a
    .cases a
   .cases a
  .cases a
 .cases a
def BQ{T:TypeId}{x k e:Value}(a:wD P m T x k e=some (v,m')):m.lg.le m'.lg:=by
 unfold wD at a;split at a
 .split at a
  .obtain⟨_,a⟩:=A2 a;rw[L7]at a;unfold FU at a;split at a
   .rename_i U5;cases a;rw[bC U5];exact S1
   .cases a
  .cases a
 .cases a
def PQ{T:TypeId}{x:Value}(a:CR P m T x=some (v,m')):m.lg.le m'.lg:=by
 unfold CR at a;split at a
 .split at a
  .exact(v8 a).2
  .cases a
 .cases a
end
end
section
open Go
variable [Ora]
section
variable {P:Program} {base:Nat} {ρ:Ren} {m m':Mem} {w:World}
omit [Ora] in
def EC{G:Nat->Option Obj}:∀ {us:List U} {s:List UInt8} {vs:D0},vC us=some s->W8 G us vs->∃ e:List Int,vs=e.map (Value.int .u8)/\s=e.map fun n=>UInt8.ofNat n.toNat
 | [],s,vs,h,he=>by
   cases h;have:vs=[]:=D9.1 he.1.symm;subst this;exact⟨[],rfl,rfl⟩
 | u::us,s,vs,h,he=>by
   unfold vC at h;split at h
   .rename_i heq;cases heq
   .rename_i n r heq;cases heq;split at h
    .split at h
     .rename_i l j;cases h;cases vs with
      | nil=>have:=he.1;simp at this
      | cons v o =>
        obtain⟨e,p,f⟩:=EC (vs:=o) j ⟨by have:=he.1;simpa using this,fun i a b h1 g=>he.2 (i+1) a b (by simpa using h1) (by simpa using g)⟩
        have:=jQ (he.2 0 _ v rfl rfl) rfl;subst this;exact⟨(Int.ofNat n)::e,by rw[p];rfl,by rw[f];rfl⟩
     .cases h
    .cases h
   .cases h
def BA{t:TypeId}{n:Nat}(h:F7 P t=some n):∃ inf,P.info? t=some inf/\inf.size=n:=by
 unfold F7 at h;cases hi:P.info? t with
 | none=>rw[hi]at h;cases h
 | some inf=>rw[hi]at h;exact⟨inf,rfl,A5 h⟩
def BD(d:Nat)(t:TypeId):sameLayout P (d+1) t t=true:=by simp[sameLayout]
def QZ:∃ d,P.depth=d+1:=⟨2*(P.types.size+Made.depth)+1,rfl⟩
def FX{T:TypeId}{n off:Nat}(hs:P.cellsOf T≠0)(hr:off%P.cellsOf T=0)(b:off / P.cellsOf T+1<=n):liesAt P P.depth T n off T 1=true:=by
 obtain⟨d,a⟩:=QZ (P:=P);have h1:rowAt P (sameLayout P P.depth · T) P.depth T n off 1=true:=by
  rw[a];unfold rowAt;simp only[hs,if_false,hr,BD];simp[b]
 rw[a]at h1 ⊢;unfold liesAt;rw[a,h1];rfl
def RE{s t:TypeId}{x:Value}(h:HR P base ρ m.H w)(g:JG P m s t x=some (v,m'))(E:VR ρ x x'):VOk P base ρ m w (convert s t x') v m':=by
 unfold JG at g;split at g
 .rename_i e b o hs J;obtain⟨l,D,_,rfl⟩:=L1 E;split at g
  .rename_i k cs T ro z B;obtain⟨q,g⟩:=A2 g;have q:o<cs.length:=A1 q;cases g;obtain⟨inf,a,hk⟩:=BA z;obtain⟨⟨p,C,fz,i,h1,L,_⟩,_⟩:=h.atl D B;obtain⟨v',h3,_⟩:=L o cs[o] (A4 q);have I:l.sh+o<C.size:=(B5.1 h3).1;exact VOk.same h (Lib.run_to_unsafe w ⟨l.blk,o+l.sh,none⟩ hs J a A9 (show w.shape? l.blk=some (i,C.size) by simp[World.shape?,h1]) (by show o+l.sh<C.size;omega)) E
  .cases g
 .rename_i u b hs J;obtain⟨l,D,_,rfl⟩:=L1 E;split at g
  .rename_i k cs T z B;obtain⟨G,f⟩:=A2 g;clear g;obtain⟨q1,q2⟩:=B3 G;have q1:=A0 q1;have q2:=A0 q2;clear G;subst q1;cases f;obtain⟨inf,a,hk⟩:=BA z;obtain⟨⟨p,C,fz,i,h1,L,h3⟩,_⟩:=h.atl D B;obtain⟨rfl,_,N⟩:=h3 rfl;obtain⟨_,K⟩:=N inf a;have F:P.cellsOf i=k+1:=by unfold Program.cellsOf;rw[a];exact hk
   have A:k<cs.length:=A9;obtain⟨v',Q,_⟩:=L k cs[k] (A4 A);have I:l.sh+k<C.size:=(B5.1 Q).1;refine VOk.same h (Lib.run_from_unsafe w ⟨l.blk,0+l.sh,none⟩ hs J a (show w.shape? l.blk=some (i,C.size) by simp[World.shape?,h1]) ?_) E;show liesAt P P.depth i (C.size / P.cellsOf i) (0+l.sh) i 1=true;rw[D8];refine FX A9 (by rw[F];rw[hk]at K;exact K) ?_;rw[F];have K:l.sh%(k+1)=0:=by rw[hk]at K;exact K
   have S:l.sh=(k+1)*(l.sh / (k+1)):=by have:=gB l.sh (k+1);omega
   refine(Nat.le_div_iff_mul_le A9).2 ?_;rw[G1,dG,U1];omega
  .cases g
 .rename_i R e b o n c hs J;obtain⟨G,f⟩:=A2 g;clear g;obtain⟨q1,q2⟩:=B3 G;have q1:=A0 q1;clear G;subst q1;split at f
  .rename_i cs T hu B;split at f
   .rename_i m1 U5;cases f;obtain⟨l,mm,D,rfl⟩:∃ l mm,ρ b=some l/\x'=.slice (some ⟨l.blk,o+l.sh,none⟩) n mm:=by
     cases E with
     | pure hp=>simp[H3]at hp
     | sl h1 _=>exact⟨_,_,h1,rfl⟩
     | op h1 _ _ _=>exact⟨_,_,h1,rfl⟩
     | opE _=>simp at q2
    obtain⟨⟨p,C,fz,i,z2,z3,z4⟩,_⟩:=h.atl D B;have M:w.shape? l.blk=some (i,C.size):=by simp[World.shape?,z2]
    refine⟨_,ρ,w.freeze ⟨l.blk,C.size,none⟩ 1,?_,E,St.write h U5 B rfl D p ?_ ?_ ?_ ?_⟩
    .simp[convert,run_underlying J,run_underlying hu,markStringish,M]
    .simp[World.freeze]
    .simp[World.freeze]
    .intro j O;simp only[World.freeze,Nat.one_ne_zero,if_false,F1];rw[B1 (fun e=>O e.symm)]
    .refine⟨p,C,(if fz.1 == fz.2 then(C.size,C.size+1)else(min fz.1 C.size,max fz.2 (C.size+1))),i,?_,z3,fun F=>⟨(z4 F).1,(z4 F).2.1.mark,(z4 F).2.2⟩⟩;simp only[World.freeze,Nat.one_ne_zero,if_false,F1,if_true,z2,I3]
   .cases f
  .cases f
 .cases g
def OS{op:BinOp}{t:TypeId}{x y:Operand}{a a' b b':Value}(h:HR P base ρ m.H w)(n:HW P m op t a b=some (v,m'))(z:VR ρ a a')(s:VR ρ b b'):VOk P base ρ m w (do eqGuard op t x y a' b';binOp op t a' b') v m':=by
 unfold HW at n;split at n
 .rename_i e B p A C hu;obtain⟨q,f⟩:=A2 n;clear n;obtain⟨q1,q2⟩:=B3 q;have q1:=A0 q1;have q2:=A0 q2;clear q;subst q1;subst q2;obtain⟨l,u,_,rfl⟩:=L1 z;obtain⟨l2,g,_,rfl⟩:=L1 s;rw[u]at g
  have:=A5 g;subst this;have heq:∀ j,P.info? e=some j->∀ d:Nat,(Op.equalIn (d+1) t (.pointer (some ⟨l.blk,p+l.sh,none⟩)) (.pointer (some ⟨l.blk,p+l.sh,none⟩))).run P w=.ok true w:=fun j i d=>by
   simp[Op.equalIn,run_underlying hu,sizeOf,typeInfo,i,run_sameAddr_same]
  have o:(eqGuard op t x y (.pointer (some ⟨l.blk,p+l.sh,none⟩)) (.pointer (some ⟨l.blk,p+l.sh,none⟩))).run P w=.ok () w:=by
   unfold eqGuard;split<;>simp
  split at f
  .rename_i j i;cases f;refine VOk.same h (v':=.bool true) ?_ (.pure rfl);rw[A3,o];simp[Result.andThen,binOp,Op.equal,Op.maxDepth,heq j i 9999]
  .rename_i j i;cases f;refine VOk.same h (v':=.bool false) ?_ (.pure rfl);rw[A3,o];simp[Result.andThen,binOp,Op.equal,Op.maxDepth,heq j i 9999]
  .cases f
 .cases n
def St.laid{o:Obj}(h:HR P base ρ m.H w):St P base ρ ρ m m w { w with heap:=w.heap.push o } :=
 have hk:∀ k,k<w.heap.size->(w.heap.push o)[k]? = w.heap[k]? := fun k hk=>by rw[K4,B1 A9]
 ⟨fun _ _ h=>h,fun b l h1 a=>(by rw[h1]at a;cases a),A6 _,A6 _,fun h=>h,
  ⟨h.dom,fun id hid ab f=>by
    obtain⟨l,h1,a,h3⟩:=h.at_ id hid ab f;exact⟨l,h1,a.mono (fun _ _ h=>h) (fun k e=>hk k (a.tc e)),h3⟩⟩,
  fun _ h=>h,fun b h1 a=>absurd h1 a,fun k e _=>hk k e,by simp,⟨rfl,rfl,rfl⟩,fun b l h1 a=>(by rw[h1]at a;cases a),fun _ _ _ _=>rfl,fun _ h=>.inr h⟩
def ZI{tys:Array TypeId}{x:Value}(h:HR P base ρ m.H w)(a:sdM P m ty x=some (v,m'))(q:VR ρ x x'):VOk P base ρ m w (Builtin.unsafeSliceData_ tys ty #[x']) v m':=by
 unfold sdM at a;split at a
 .rename_i e he;split at a
  .rename_i b i t;split at a
   .rename_i c tc T g ro A;cases a;have q:VR ρ (own b i t) x':=q;rcases(x9 q).1 with⟨l,wd,h1,f,h3,rfl⟩|⟨l,wd,rows,h1,f,h3,E,F,rfl⟩
    .exact VOk.same h rfl (.sdt ⟨l,h1,.inl ⟨f,rfl⟩⟩)
    .have j:Builtin.unsafeSliceData_ tys ty #[.slice (some ⟨l.blk,l.sh,none⟩) l.len l.cap]=(do
       if l.cap≠0 then pure (.pointer (some ⟨l.blk,l.sh,none⟩))
       else if(<- viewAt l.blk).isSome then pure (.pointer (some ⟨l.blk,l.sh,none⟩))
       else pure (.pointer (some ⟨<- newObj (.view ⟨l.blk,l.sh,none⟩ (<- elemOf ty)),0,none⟩))):=rfl
     rw[j];by_cases s:l.cap=0
     .rw[B1 (by simpa using s)];obtain⟨z,inf,_,_,_,B⟩:=SqR.ex (h.atl h1 A).1;rcases B with⟨n,_⟩|⟨_,n⟩
      .rw[f]at n;cases n
      .obtain⟨C,fz,u,o,lg,D,_⟩:=n;have p:w.shape? l.blk=some (u,C.size):=by simp[World.shape?,D]
       refine⟨.pointer (some ⟨w.heap.size,0,none⟩),ρ,{ w with heap:=w.heap.push (.view ⟨l.blk,l.sh,none⟩ e) },?_,.sdt ⟨l,h1,.inr ⟨f,_,rfl,fun h=>absurd s h⟩⟩,St.laid h⟩;simp[viewAt,p,elemOf,C8 he,newObj,Sem.run,A3,Result.andThen]
     .rw[B2 s];exact VOk.same h rfl (.sdt ⟨l,h1,.inr ⟨f,_,rfl,fun _=>rfl⟩⟩)
   .cases a
  .cases a
 .cases a
def ZB{p l p' l':Value}(h:HR P base ρ m.H w)(I:usM P m pt p l=some (v,m'))(hp:VR ρ p p')(hl:VR ρ l l')(hS:Sat m'.lg)(hf:I2 ρ m.n m'.hi) :
  VOk P base ρ m w (Builtin.unsafeString_ ⟨pt::tys⟩ ty #[p',l']) v m':=by
 have E:IntKind.i64.max=9223372036854775807:=rfl;unfold usM at I;split at I
 .rename_i b;obtain⟨X,I⟩:=A2 I;have X:F5 l<8:=A1 X;obtain⟨k,n0,rfl,af,_⟩:=K5 hl X;split at I
  .rename_i c tc T g e hg ak;obtain⟨hq,A⟩:=A2 I;clear I;obtain⟨q1,q2⟩:=B3 hq;have q1:=A0 q1;have q2:=A0 q2;clear hq;subst q1;subst q2;split at A
   .rename_i u m1 bz N;split at A
    .rename_i m2 U5;cases A;have aj:=bC U5;have ad:Sat m1.lg:=by rw[<- aj];exact hS
     obtain⟨u0,e1,e2,r,e3,e4,e5⟩:=K3 N ad;obtain⟨lg,rfl⟩:=G0 N;obtain⟨l0,M,hv⟩:=UZ (show VR ρ (sdt b) p' from hp);have D:=St.wLg h lg;obtain⟨wd,inf,k1,k2,k3,L⟩:=SqR.ex (h.atl M hg).1;have ai:wd=1:=A9;subst ai;have f:evU .ustr [Ora.env c,.int k n0]=u0:=by
      have:D4 Ora.env (hole c 11)=Ora.env c:=rfl;rw[<- this,<- af];exact e1
     have J:∀ ax rows,Ora.env c=.seq ax 1 rows->∃ (n:Nat) (R:List UInt8),n0=(n:Int)/\n<=rows.length/\n<=1000000000/\AA (rows.take n)=some R/\u0=.str R:=fun ax rows hc=>by
      rw[hc]at f;cases n0 with
      | negSucc z=>have:u0=.none:=f.symm;subst this;cases e3
      | ofNat n =>
        have f:(if 1=1/\n<=rows.length/\n<=uD then match AA (rows.take n)with
         | some s=>U.str s
         | none=>.none else .none)=u0:=f
        split at f
        .rename_i aw;split at f
         .rename_i R J;exact⟨n,R,rfl,aw.2.1,aw.2.2,J,f.symm⟩
         .subst f;cases e3
        .subst f;cases e3
     have B:P.cellsOf e=1:=by unfold Program.cellsOf;rw[k2];exact k3
     have S:∀ {ρ:Ren} {w:World} {lx:Loc},BR P ρ (.sq c 11 e g false) lx w->BR P ρ (.sq c 11 e g true) lx w:=fun hb=>by
      obtain⟨wd,inf,k1,k2,k3,L⟩:=SqR.ex hb;refine⟨⟨wd,inf,k1,k2,k3,L.imp (fun x=>x) fun⟨a,C,fz,T',rows,lg,b1,b2,b3,b4,b5,b6,b7,b8,_⟩=>⟨a,C,fz,T',rows,lg,b1,b2,b3,b4,b5,b6,b7,b8,fun hh=>by cases hh⟩⟩⟩
     have Z:Hp.get (m.wLg lg).H b=some (.sq c 11 e g false):=by rw[gM];exact hg
     have O:St P base ρ ρ m m' w w:=St.trans hf D (St.same0 D.hr U5 Z rfl M (S (D.hr.atl M Z).1) fun q hq=>hq.imp (fun⟨_,b⟩=>⟨rfl,b⟩) fun⟨hh,_⟩=>by cases hh);rcases hv with⟨az,rfl⟩|⟨W,a,rfl,ha⟩
     .rcases L with⟨_,F⟩|⟨F,_⟩
      .obtain⟨n,R,rfl,j1,_,j2,rfl⟩:=J _ _ F;have hn:n=0:=by simpa using j1
       subst hn;cases j2;cases e3;refine⟨.string ByteArray.empty,ρ,w,?_,e4 ρ,O⟩;have o:Builtin.unsafeString_ ⟨pt::tys⟩ ty #[.pointer none,.int k ((0:Nat):Int)] =
         (do
           let n <- asInt (.int k ((0:Nat):Int))
           if n<0 then runtimePanic (.error "unsafe.String: len out of range")
           if n>IntKind.i64.max then unsupported (.unsafePointer "String: a length above the largest int")
           if n=0 then pure (.string .empty)
           else runtimePanic (.error "unsafe.String: ptr is nil and len is not zero")):=rfl
       rw[o];simp[asInt,asIntOf,E]
      .rw[az]at F;cases F
     .rcases L with⟨F,_⟩|⟨_,F⟩
      .rw[W]at F;cases F
      obtain⟨C,fz,T',rows,aq,z1,z2,z3,z4,z5,z6,z7,z8,z9⟩:=F;obtain⟨rfl,bx⟩:=z9 rfl;obtain⟨n,R,rfl,j1,j0,j2,rfl⟩:=J _ _ z2;cases e3;have o:Builtin.unsafeString_ ⟨pt::tys⟩ ty #[.pointer (some a),.int k (n:Int)] =
       (do
         let n <- asInt (.int k (n:Int))
         if n<0 then runtimePanic (.error "unsafe.String: len out of range")
         if n>IntKind.i64.max then unsupported (.unsafePointer "String: a length above the largest int")
         if n=0 then pure (.string .empty)
         else if <- variablesAt a (<- elemOf pt) n.toNat then do
          let s <- loadBytes a .empty n.toNat
          freeze a n.toNat
          pure (.string s)
         else unsupported (.unsafePointer "String: not so many bytes at ptr")):=rfl
      have ay:¬ (n:Int)<0:=A9;have au:¬ (9223372036854775807:Int)<(n:Int):=A9;by_cases t:n=0
      .subst t;cases j2;refine⟨.string ByteArray.empty,ρ,w,?_,e4 ρ,O⟩;rw[o];simp[asInt,asIntOf,E]
      .have hz:¬ (n:Int)=0:=A9;have ao:l0.cap≠0:=A9;have ha:=ha ao;subst ha;obtain⟨y1,y2,y3⟩:=zZ j2;have hlen:(rows.take n).length=n:=by simp;omega
       have ae:l0.sh+n<=C.size:=A9;obtain⟨ns,r1,r2⟩:∃ ns:List Int,(C.toList.drop l0.sh).take n=ns.map (Value.int .u8)/\R=ns.map fun n=>UInt8.ofNat n.toNat:=by
        refine EC (G:=aq.G) y1 ⟨by rw[y2,hlen];simp;omega,fun i u v b1 b2=>?_⟩;have av:i<n:=by have:=(A7.1 b1).1;rw[y2,hlen]at this;exact this
        have ar:i<rows.length:=A9;have Q:rows[i]? = some rows[i]:=A4 ar;have Y:(rows.take n)[i]? = some rows[i]:=by rw[F0 av];exact Q
        have aa:rows[i].length=1:=z6 _ (L6 ar);have h0:rows[i][0]? = some (rows[i][0]' A9):=A4 A9;obtain⟨_,L⟩:=y3 i _ 0 _ Y h0;rw[b1]at L;have L:=A5 L;rw[L];have hc:C[l0.sh+i*1+0]? = some v:=by
         rw[F0 av,G5]at b2
         simpa using b2
        exact z8 i _ 0 _ v Q h0 hc
       have ah:ns.length=n:=by
        have:=U9 List.length r1;simp at this;omega
       have K:∀ (j:Nat) (v:Value),(ns.map (Value.int .u8))[j]? = some v->w.cell? ⟨l0.blk,l0.sh+j,none⟩=some v:=fun j v hj=>by
        rw[<- r1]at hj;have al:j<n:=by have:=(A7.1 hj).1;simp at this;omega
        rw[F0 al,G5]at hj;simp only[World.cell?,z1]
        simpa using hj
       have an:=bU (P:=P) (w:=w) ns l0.blk l0.sh .empty K;rw[ah]at an;have ag:w.shape? l0.blk=some (T',C.size):=by simp[World.shape?,z1]
       have V:=sT (P:=P) B (C.size / P.cellsOf T') l0.sh n (by rw[B];simpa using ae);have st2:St P base ρ ρ (m.wLg lg) m' w (w.freeze ⟨l0.blk,l0.sh,none⟩ n):=by
        refine St.write D.hr U5 Z rfl M W ?_ ?_ ?_ ?_
        .simp[World.freeze,t]
        .simp[World.freeze,t]
        .intro j hj;simp only[World.freeze,t,if_false,F1];rw[B1 (fun e=>hj e.symm)]
        .refine⟨⟨1,inf,rfl,k2,k3,.inr ⟨W,C,(if fz.1 == fz.2 then(l0.sh,l0.sh+n)else(min fz.1 l0.sh,max fz.2 (l0.sh+n))),T',rows,aq,?_,z2,z3,z4,z5,z6,z7,z8,fun hc=>by cases hc⟩⟩⟩;simp only[World.freeze,t,if_false,F1,if_true,z1,I3]
       refine⟨.string ⟨⟨R⟩⟩,ρ,w.freeze ⟨l0.blk,l0.sh,none⟩ n,?_,e4 ρ,St.trans hf D st2⟩;rw[o];simp[asInt,asIntOf,E,ay,au,hz,t,variablesAt,ag,elemOf,C8 ak,V,an,freeze,Sem.run,A3,Result.andThen,r2]
    .cases A
   .cases A
  .cases I
 .cases I
def LD{t:TypeId}{x:Value}(h:HR P base ρ m.H w)(j:base<=w.heap.size)(a:sH P m t x=some (v,m'))(f:I2 ρ m.n m'.hi)(g:VR ρ x x'):VOk P base ρ m w (Instr.range t x') v m':=by
 unfold sH at a;split at a
 .rename_i hu;obtain⟨h1,a⟩:=A2 a;obtain⟨s,rfl,_⟩:=c8 g (A0 h1);have e:∀ ρ':Ren,(∀ b l,ρ b=some l->ρ' b=some l)->BR P ρ' (.iter [x,.int .i64 (.ofNat 0)]) (lc w.heap.size 0 0) { w with heap:=w.heap.push (.stringIter ⟨⟨s⟩⟩ 0) }:=fun ρ' he =>
   ⟨⟨rfl,rfl⟩,.inl ⟨⟨⟨s⟩⟩,0,by simp[lc],.cons (g.mono he) (.cons (.pure rfl) .nil)⟩⟩
  obtain⟨o,h3,i⟩:=St.alloc (w':={ w with heap:=w.heap.push (.stringIter ⟨⟨s⟩⟩ 0) }) (l:=lc w.heap.size 0 0) h j a f ⟨rfl,rfl,rfl⟩ rfl rfl (e _ (T8 (f m.n (A6 _) (by obtain⟨_,_,rfl⟩:=J8 a;exact(J2 _ _).2))));refine⟨.pointer (some ⟨w.heap.size,0,none⟩),_,_,?_,?_,i⟩
  .simp[Instr.range,A3,C8 hu,Result.andThen,newObj,Sem.run]
  .rw[o];exact .ptr h3
 .cases a
def GO{s p:Value}{b:ByteArray}(h:zW s p=some (b,k)):s=.string b/\p=.int .i64 (.ofNat k):=by
 unfold zW at h;split at h
 .cases h;exact⟨rfl,rfl⟩
 .cases h
def PF{x:Value}(h:HR P base ρ m.H w)(a:CH m x=some (v,m'))(hf:I2 ρ m.n m'.hi)(hx:VR ρ x x')(hS:Sat m'.lg):VOk P base ρ m w (Instr.next x' true ty) v m':=by
 unfold CH at a;split at a
 .rename_i r;obtain⟨l,hl,_,rfl⟩:=L1 hx;split at a
  .rename_i s p hg;obtain⟨⟨⟨G,A⟩,Z⟩,_⟩:=h.atl hl hg;obtain⟨f,n,g1,g2⟩:=Z.resolve_right (fun q=>by cases q.1);have I:(getObj l.blk).run P w=.ok (.stringIter f n) w:=by simp[getObj,Sem.run,g1]
   have i:l.blk<w.heap.size:=(B5.1 g1).1;have O:w.heap[l.blk]=.stringIter f n:=by
    have q:=g1;rw[E0 i]at q;exact A5 q
   obtain⟨s',r1,e1,X,k2⟩:=g2.tail;obtain⟨p',r2,e2,Q,k4⟩:=k2.tail;cases k4.nil_inv;cases e2;cases e1;have R:∀ T:Nat,(setObj l.blk (.stringIter f T)).run P w=.ok () { w with heap:=w.heap.set l.blk (.stringIter f T) i }:=fun T=>by
    simp[setObj,Sem.run,O,Array.setIfInBounds,i]
   have z:n<f.size->(Instr.next (.pointer (some ⟨l.blk,0+l.sh,none⟩)) true ty).run P w=.ok (.tuple #[.bool true,.int .i64 (.ofNat n),.int .i32 (.ofNat (Utf8.decode f n).1)]) { w with heap:=w.heap.set l.blk (.stringIter f (n+(Utf8.decode f n).2)) i }:=fun o=>by
    rw[A];simp[Instr.next,A3,Result.andThen_ok,I,o,R,goInt]
   have L:¬n<f.size->(Instr.next (.pointer (some ⟨l.blk,0+l.sh,none⟩)) true ty).run P w=.ok (.tuple #[.bool false]) w:=fun o=>by
    rw[A];simp[Instr.next,A3,Result.andThen_ok,I,o]
   have fin:∀ {m1 m2:Mem} {q:Value},I1 m m1->y4 m1 r (.iter [s,q])=some m2->I2 ρ m.n m2.hi->VR ρ q (.int .i64 (.ofNat (n+(Utf8.decode f n).2)))->St P base ρ ρ m m2 w { w with heap:=w.heap.set l.blk (.stringIter f (n+(Utf8.decode f n).2)) i }:=fun{m1 m2 q} e U5 Y V=>by
    obtain⟨lg,rfl⟩:=e;have J:=St.wLg h lg;have az:Hp.get (m.wLg lg).H r=some (.iter [s,p]):=by rw[gM];exact hg
    refine St.trans Y J (St.write (ab:=.iter [s,p]) (ab':=.iter [s,q]) J.hr U5 az rfl hl G ⟨rfl,rfl,rfl⟩ (by simp) (fun j hj=>?_) ?_)
    .show(w.heap.set l.blk _ i)[j]? = _;rw[i0,B1 (fun e=>hj e.symm)]
    .refine⟨⟨G,A⟩,.inl ⟨f,_,?_,.cons X (.cons V .nil)⟩⟩;show(w.heap.set l.blk _ i)[l.blk]? = _;rw[i0,B2 rfl]
   split at a
   .rename_i b k hc;obtain⟨rfl,rfl⟩:=GO hc;have e:=R3 X;cases e;have e:=H8 Q;cases e;by_cases o:n<f.size
    .have t:Nat.blt n f.data.toList.length=true:=C4 o;rw[t]at a;simp only[D7,E1]at a;split at a
     .rename_i m2 U5;cases a;exact⟨_,ρ,_,z o,.tuple rfl (LR.cons (.pure rfl) (LR.cons (.pure rfl) (LR.cons (.pure rfl) LR.nil))).2,fin ⟨m.lg,by cases m;rfl⟩ U5 hf (.pure rfl)⟩
     .cases a
    .have t:Nat.blt n f.data.toList.length=false:=by
      cases V:Nat.blt n f.data.toList.length with
      | false=>rfl
      | true=>exact absurd (A1 V) o
     rw[t]at a;cases a;exact⟨_,ρ,w,L o,.tuple rfl (LR.cons (.pure rfl) LR.nil).2,St.refl h⟩
   .obtain⟨h1,a⟩:=A2 a;obtain⟨h1,h2⟩:=B3 h1;have h1:=A0 h1;have h2:=A0 h2;obtain⟨s0,es,as⟩:=c8 X h1;cases es;obtain⟨kk,nn,ep,ap,_⟩:=K5 Q A9;cases ep;split at a
    .rename_i hh m1 D;split at a
     .rename_i c H N W hi lg E;have o1:=G0 D;have o2:=G0 E;have key:∀ {b:Bool} {g:Lg},brL lg c=some (b,g)->Sat g->(b=true↔n<s0.length)/\I1 m ⟨H,N,W,hi,g⟩:=fun{b g} t u=>by
       have M:Sat lg:=u.le (cJ t);have S:Sat m1.lg:=M5.le M (G3 E);have u1:VR ρ hh (.int .i64 s0.length):=by
        have:=(eD (ρ:=ρ) D S).2.2;rw[B8,E3,as]at this;exact this
       obtain⟨rfl,e1⟩:=fA D;obtain⟨k5,n5,e5,a5,_⟩:=K5 u1 (show 3<8 by decide);cases e5;have u2:VR ρ c (.bool (decide ((n:Int)<s0.length))):=by
        have:=(eD (ρ:=ρ) E M).2.2;rw[B8,B8,E3,ap,a5]at this;have e:evU (.bin .lss) [.int .i64 (Int.ofNat n),.int .i64 (s0.length:Int)]=.bool (decide ((n:Int)<s0.length)):=by
         simp[evU,evB,fT,pJ,oM,qJ,zB,ofV]
        rw[e]at this;exact this
       have:=iN t u2 u;refine⟨?_,?_⟩
       .have:=Value.bool.inj this;rw[<- this,decide_eq_true_iff];omega
       .exact(o1.trans o2).trans ⟨g,rfl⟩
      split at a
      .rename_i g t;split at a
       .rename_i y m3 C;split at a
        .rename_i q m4 B;split at a
         .rename_i m5 U5;cases a;have F:Sat m4.lg:=by rw[<- bC U5];exact hS
          have K:=F.le (G3 B);have u:Sat g:=K.le (G3 C);obtain⟨kn,ko⟩:=key t u;have o:=kn.1 rfl;have u3:VR ρ y (.int .i32 (.ofNat (Utf8.decode ⟨⟨s0⟩⟩ n).1)):=by
           have:=(eD (ρ:=ρ) C K).2.2;rw[B8,B8,E3,as,ap]at this;exact this
          have u4:VR ρ q (.int .i64 (.ofNat (n+(Utf8.decode ⟨⟨s0⟩⟩ n).2))):=by
           have:=(eD (ρ:=ρ) B F).2.2;rw[B8,B8,E3,as,ap]at this;exact this
          exact⟨_,ρ,_,z o,.tuple rfl (LR.cons (.pure rfl) (LR.cons Q (LR.cons u3 LR.nil))).2,fin ((ko.trans (G0 C)).trans (G0 B)) U5 hf u4⟩
         .cases a
        .cases a
       .cases a
      .rename_i g t;cases a;obtain⟨kn,ko⟩:=key t hS;have o:¬n<s0.length:=fun q=>by have:=kn.2 q;cases this
       obtain⟨ay,e3⟩:=ko;refine⟨_,ρ,w,L o,.tuple rfl (LR.cons (.pure rfl) LR.nil).2,?_⟩;rw[e3];exact St.wLg h ay
      .cases a
     .cases a
    .cases a
  .cases a
 .cases a
def LE{t:TypeId}{x:Value}(a:sH P m t x=some (v,m')):m.lg.le m'.lg:=by
 unfold sH at a;split at a
 .obtain⟨_,a⟩:=A2 a;rw[p8 a];exact .refl _
 .cases a
def PG{x:Value}(e:CH m x=some (v,m')):m.lg.le m'.lg:=by
 unfold CH at e;split at e
 .split at e
  .split at e
   .rename_i b k o;cases f:Nat.blt k b.data.toList.length with
    | true =>
      rw[f]at e;simp only[D7,E1]at e;split at e
      .rename_i U5;cases e;rw[bC U5];exact .refl _
      .cases e
    | false=>rw[f]at e;cases e;exact .refl _
   .obtain⟨_,e⟩:=A2 e;split at e
    .rename_i n;split at e
     .rename_i g;have a:=(G3 n).trans (G3 g);split at e
      .rename_i f;have a:=a.trans (cJ f);split at e
       .rename_i i;split at e
        .rename_i j;split at e
         .rename_i U5;cases e;rw[bC U5];exact(a.trans (G3 i)).trans (G3 j)
         .cases e
        .cases e
       .cases e
      .rename_i f;cases e;exact a.trans (cJ f)
      .cases e
     .cases e
    .cases e
  .cases e
 .cases e
def YW{fr:Fr}{g:Operand->Value}{o:Oper}(h:HR P base ρ m.H w)(D:base<=w.heap.size)(b:xtM P fr m o=some (v,m'))(j:I2 ρ m.n m'.hi)(A:FR ρ fr g o.op)(f:Sat m'.lg):NOk P base ρ m w (execOp g o) v m':=by
 obtain⟨dst,op,ty,pos,E,G⟩:=o;unfold xtM at b;simp only at b A;have a:∀ {x},x ∈ op.operands.toList->VR ρ (ev fr x) (g x):=fun i=>A _ i
 split at b
 .rename_i s t x;exact NOk.of (RE h b (a (x:=x) (by simp[Op.operands])))
 .rename_i op t x y K;exact NOk.of (OS h b (a (x:=x) (by simp[Op.operands])) (a (x:=y) (by simp[Op.operands])))
 .rename_i xs tys;have l1:=aR (ρ:=ρ) (fr:=fr) (g:=g) (xs:=xs.toList) fun y B=>A y (by show y ∈ (#[]++xs:Array Operand).toList;simpa using B)
  split at b
  .rename_i x i;rw[i]at l1;obtain⟨x',r1,C,g1,g2⟩:=l1.tail;cases g2.nil_inv;have q:xs.map g=#[x']:=by apply H7;simpa using C
   have:=ZI (tys:=tys) h b g1;have u:=NOk.of this;obtain⟨ks,z⟩:∃ ks,execOp g ⟨dst,.call ⟨.builtin .unsafeSliceData,xs,tys⟩,ty,pos,E,G⟩=builtin .unsafeSliceData tys ty ks (xs.map g):=⟨#[],rfl⟩;rw[z,q];exact u
  .cases b
 .rename_i xs tys;have l1:=aR (ρ:=ρ) (fr:=fr) (g:=g) (xs:=xs.toList) fun y B=>A y (by show y ∈ (#[]++xs:Array Operand).toList;simpa using B)
  split at b
  .rename_i p l t rest i I;rw[i]at l1;obtain⟨x',r1,C,g1,g2⟩:=l1.tail;obtain⟨J,r2,rfl,g3,g4⟩:=g2.tail;cases g4.nil_inv;have q:xs.map g=#[x',J]:=by apply H7;simpa using C
   have u:=NOk.of (ZB (ty:=ty) (tys:=rest) h b g1 g3 f j);obtain⟨ks,z⟩:∃ ks,execOp g ⟨dst,.call ⟨.builtin .unsafeString,xs,tys⟩,ty,pos,E,G⟩=builtin .unsafeString tys ty ks (xs.map g):=⟨#[],rfl⟩;have F:tys=⟨t::rest⟩:=by rw[<- I]
   rw[z,q,F];exact u
  .cases b
 .rename_i t;exact NOk.of (UN h D b j f)
 .rename_i t x k ok;exact NOk.of (LK h b (a (x:=x) (by simp[Op.operands])) (a (x:=k) (by simp[Op.operands])) f)
 .rename_i t x;exact NOk.of (LD h D b j (a (x:=x) (by simp[Op.operands])))
 .rename_i x;exact NOk.of (PF h b j (a (x:=x) (by simp[Op.operands])) f)
 .rename_i t x k e;obtain⟨rfl,hu⟩:=BP h D b j (a (x:=x) (by simp[Op.operands])) (a (x:=k) (by simp[Op.operands])) (a (x:=e) (by simp[Op.operands])) f;exact NOk.ofU hu
 .rename_i t x k e;obtain⟨rfl,hu⟩:=BP h D b j (a (x:=x) (by simp[Op.operands])) (a (x:=k) (by simp[Op.operands])) (a (x:=e) (by simp[Op.operands])) f;exact NOk.ofU hu
 .rename_i xs tys;have l1:=aR (ρ:=ρ) (fr:=fr) (g:=g) (xs:=xs.toList) fun y B=>A y (by show y ∈ (#[]++xs:Array Operand).toList;simpa using B)
  split at b
  .rename_i x t rest i I;rw[i]at l1;obtain⟨x',r1,C,g1,g2⟩:=l1.tail;cases g2.nil_inv;have q:xs.map g=#[x']:=by apply H7;simpa using C
   have u:=NOk.of (PP (ty:=ty) (tys:=rest) h b g1 f);obtain⟨ks,z⟩:∃ ks,execOp g ⟨dst,.call ⟨.builtin .len,xs,tys⟩,ty,pos,E,G⟩=builtin .len tys ty ks (xs.map g):=⟨#[],rfl⟩;have F:tys=⟨t::rest⟩:=by rw[<- I]
   rw[z,q,F];exact u
  .cases b
 .cases b
def YX{fr:Fr}{o:Oper}(a:xtM P fr m o=some (v,m')):m.lg.le m'.lg:=by
 unfold xtM at a;split at a
 .unfold JG at a;split at a
  .split at a
   .obtain⟨_,a⟩:=A2 a;cases a;exact .refl _
   .cases a
  .split at a
   .obtain⟨_,a⟩:=A2 a;cases a;exact .refl _
   .cases a
  .obtain⟨_,a⟩:=A2 a;split at a
   .split at a
    .rename_i U5;cases a;obtain⟨_,rfl⟩:=R2 U5;exact .refl _
    .cases a
   .cases a
  .cases a
 .unfold HW at a;split at a
  .obtain⟨_,a⟩:=A2 a;split at a
   .cases a;exact .refl _
   .cases a;exact .refl _
   .cases a
  .cases a
 .split at a
  .unfold sdM at a;split at a
   .split at a
    .split at a
     .cases a;exact .refl _
     .cases a
    .cases a
   .cases a
  .cases a
 .split at a
  .unfold usM at a;split at a
   .obtain⟨_,a⟩:=A2 a;split at a
    .obtain⟨_,a⟩:=A2 a;split at a
     .rename_i b;split at a
      .rename_i hs;cases a;rw[bC hs];exact G3 b
      .cases a
     .cases a
    .cases a
   .cases a
  .cases a
 .exact UO a
 .exact LL a
 .exact LE a
 .exact PG a
 .exact BQ a
 .exact BQ a
 .split at a
  .exact PQ a
  .cases a
 .cases a
end
end
section
open Go
def fw(rd:Option Nat):Fence:={ Fence.wide with round:=rd }
def eG{rd:Option Nat}{n:Nat}:(fw rd).depth.isSome=true->1<=n:=fun h=>by cases h
def x6{rd:Option Nat}{n:Nat}{P:Program}{f:FuncId}{args:Q0}{w:World}{R:Ending->World->Prop}:CallsIn (fw rd) n P f args w R↔Calls P f args w R :=
 ⟨fun h=>callsIn_wide.1 (show CallsIn Fence.wide n P f args w R from h),fun h=>show CallsIn (fw rd) n P f args w R from(callsIn_wide (n:=n)).2 h⟩
section
variable {P:Program} {rd:Option Nat}
def wpO(P:Program)(rd:Option Nat)(o:Oper)(a:Act)(w:World)(K:Act->World->Prop)(Q:Exit->Act->World->Prop):Prop:=o.wpIn (fw rd) 0 P a w K Q
def AI{o:Oper}{a:Act}{w:World}{K f:Act->World->Prop}{Q:Exit->Act->World->Prop}(h:∀ a w,K a w->f a w)(hh:wpO P rd o a w K Q):wpO P rd o a w f Q:=by
 unfold wpO Oper.wpIn at *;refine⟨hh.1,?_⟩;have hh:=hh.2;generalize (o.semAt (fw rd).round a.eval).run P w=r at *;cases r with
 | ok n w' =>
   cases n<;>simp only[Oper.uponIn]at hh ⊢ <;>
    first
     | exact h _ _ hh
     | exact⟨hh.1,CallsIn.mono hh.2 (fun e b he=>by cases e<;>first|exact h _ _ he|exact he)⟩
     | exact⟨hh.1,RowsIn.mono hh.2 (fun _ _ he=>h _ _ he)⟩
     | exact⟨hh.1,RoundIn.mono hh.2 (fun e b he=>by cases e<;>first|exact h _ _ he|exact he)⟩
 | halt x w'=>cases x<;>simp only[Oper.uponIn]at hh ⊢<;>exact hh
def wpL(P:Program)(rd:Option Nat)(ops:Array Oper)(Q:Exit->Act->World->Prop):List Oper->Act->World->Prop
 | [],a,w=>Q .normal a w
 | o::rest,a,w=>if Region.wanted o (yielded ops a.tmps)then wpO P rd o a w (wpL P rd ops Q rest) Q else wpL P rd ops Q rest (a.put o.dst undef) w
def lQ{ops:Array Oper}{Q:Exit->Act->World->Prop}{a:Act}{w:World}{rest:List Oper}{o:Oper}
  (h:∀ K:Act->World->Prop,(∀ a w,wpL P rd ops Q rest a w->K a w)->if Region.wanted o (yielded ops a.tmps)then wpO P rd o a w K Q else K (a.put o.dst undef) w):wpL P rd ops Q (o::rest) a w:=h _ fun _ _ h=>h
def HB{ops:Array Oper}{Q:Exit->Act->World->Prop}:∀ (l:List Oper) (k:Nat),(∀ j,l[j]? = ops[k+j]?)->∀ a w,wpL P rd ops Q l a w->wpOpsIn (fw rd) 0 P ops Q (List.range' k l.length) a w
 | [],k,_,a,w,h=>h
 | o::l,k,hk,a,w,h=>by
   have h0:ops[k]? = some o:=by simpa using(hk 0).symm
   have b:=HB (Q:=Q) l (k+1) (fun j=>by have:=hk (j+1);simpa [Z8,fO 1 j]using this);simp only[I7,List.range'_succ,wpOpsIn,h0];unfold wpL at h;split
   .rename_i hw;rw[B2 hw]at h;exact AI b h
   .rename_i hw;rw[B1 hw]at h;exact⟨fun _ _=>trivial,b _ _ h⟩
def Q6{id:Nat}{ops:Array Oper}{Q:Exit->Act->World->Prop}{a:Act}{w:World}(h:wpL P rd ops Q ops.toList a w):(Code.region id ops false).wpIn (fw rd) 0 P Q a w :=
 wpIn_region (by
  have:=HB ops.toList 0 (by simp) a w h;rw[List.range_eq_range',<- O9];exact this)
def i5(P:Program)(rd:Option Nat)(ops:Array Oper)(Q:Exit->Act->World->Prop)(i:Nat)(K:Act->World->Prop)(a:Act)(w:World):Prop :=
 match ops[i]? with
 | none=>K a w
 | some o=>if Region.wanted o (yielded ops a.tmps)then wpO P rd o a w K Q else K (a.put o.dst undef) w
def rI{ops:Array Oper}{Q:Exit->Act->World->Prop}{i:Nat}{a:Act}{w:World}{K b:Act->World->Prop}(h:∀ a w,K a w->b a w)(hh:i5 P rd ops Q i K a w):i5 P rd ops Q i b a w:=by
 unfold i5 at *;split
 .exact h _ _ (by simpa [*]using hh)
 .rename_i o e;simp only[e]at hh;split
  .rename_i hw;simp only[hw,if_true]at hh;exact AI h hh
  .rename_i hw;simp only[hw]at hh;exact h _ _ hh
def yC{ops:Array Oper}{Q:Exit->Act->World->Prop}{i:Nat}{rest:F9}{a:Act}{w:World}(h:i5 P rd ops Q i (wpOpsIn (fw rd) 0 P ops Q rest) a w):wpOpsIn (fw rd) 0 P ops Q (i::rest) a w:=by
 unfold i5 at h;simp only[wpOpsIn];split at h
 .rename_i b;simp only[b];exact h
 .rename_i o e;simp only[e];split at h
  .rename_i hw;rw[B2 hw];exact h
  .rename_i hw;rw[B1 hw];exact⟨fun _ _=>trivial,h⟩
def dK(P:Program)(rd:Option Nat)(md:Region.Mode)(ops:Array Oper)(Q:Exit->Act->World->Prop):Nat->Array Bool->Act->World->Prop
 | 0,listed,a,w=>Region.ready md ops listed=[]/\Q .normal a w
 | fuel+1,listed,a,w=>(Region.ready md ops listed=[]->Q .normal a w)/\∀ i ∈ Region.ready md ops listed,i5 P rd ops Q i (dK P rd md ops Q fuel (listed.setIfInBounds i true)) a w
def yD{md:Region.Mode}{ops:Array Oper}{Q:Exit->Act->World->Prop}:∀ (fuel t:Nat) (listed:Array Bool) (a:Act) (w:World),dK P rd md ops Q fuel listed a w->wpOpsIn (fw rd) 0 P ops Q (Region.linearise.go md ops fuel t listed []) a w:=by
 intro fuel;induction fuel with
 | zero=>intro t listed a w h;simpa [Region.linearise.go,wpOpsIn]using h.2
 | succ fuel f =>
   intro t listed a w h;obtain⟨h0,h1⟩:=h;simp only[Region.linearise.go];change wpOpsIn (fw rd) 0 P ops Q (match (Region.ready md ops listed)[t%(Region.ready md ops listed).length]? with
    | some i=>Region.linearise.go md ops fuel (t / (Region.ready md ops listed).length) (listed.setIfInBounds i true) [i]
    | none=>[].reverse) a w
   cases hi:(Region.ready md ops listed)[t%(Region.ready md ops listed).length]? with
   | none =>
     have b:Region.ready md ops listed=[]:=by
      cases hr:Region.ready md ops listed with
      | nil=>rfl
      | cons x xs =>
        rw[hr]at hi;have e:t%(x::xs).length<(x::xs).length:=fN _ (by simp);simp at hi;simp at e;omega
     simpa [wpOpsIn]using h0 b
   | some i =>
     simp only[];rw[linearise_go_acc,List.reverse_singleton,List.singleton_append];exact yC (rI (fun a w=>f _ _ a w) (h1 i (D6 hi)))
def bO{id:Nat}{ops:Array Oper}{Q:Exit->Act->World->Prop}{a:Act}{w:World}(hm:P.follows .mixedOrders=true)
  (h:dK P rd .any ops Q ops.size (Array.replicate ops.size false) a { w with drawn:=w.drawn+1 }):(Code.region id ops true).wpIn (fw rd) 0 P Q a w :=
 wpIn_region_draw fun t=>by
  simp only[Region.schedule,hm,Bool.true_or,if_true];exact yD ops.size t _ a _ h
def i6{b:Frame}{a:Act}{k:List Item}{w:World} :step P (lone (b.atR a (.code (.scope c)::k)) cs w)=.next (lone (b.atR a (.code c::.inScope c::k)) cs w) :=
 step_lone_go (by simp[stepG,stepG.exec,Frame.atR])
def uS{b:Frame}{a:Act}{k:List Item}{w:World} :step P (lone (b.atR a (.inScope c::k)) cs w)=.next (lone (b.atR a k) cs w) :=
 step_lone_go (by simp[stepG,stepG.exec,Frame.atR])
def Exit.calm(Q:Exit->Act->World->Prop):Exit->Act->World->Prop
 | .goto _,_,_=>False
 | e,a,w=>Q e a w
def EM{F:Fence}{n:Nat}{Q:Exit->Act->World->Prop}{a:Act}{w:World}(h:c.wpIn F n P (Exit.calm Q) a w):(Code.scope c).wpIn F n P Q a w:=by
 intro b k cs q o hr;have h0:(lone (b.atR a (.code (.scope c)::k)) cs w).fenced P F:=fenced_calm o hr rfl;obtain⟨e,g,i,j,f⟩:=h b (.inScope c::k) cs q o hr;cases e with
 | normal=>exact⟨.normal,g,i,j,.head h0 i6 (StepsIn.trans f (.one (fenced_calm o hr rfl) uS))⟩
 | exit id =>
   have s:exitTo id (.inScope c::k)=exitTo id k:=rfl;exact⟨.exit id,g,i,j,fun k' hk=>.head h0 i6 (f.1 k' (by rw[s];exact hk)),
    fun p hk=>let ⟨k₁,h1,t⟩:=f.2 p (by rw[s];exact hk);⟨k₁,h1,.head h0 i6 t⟩⟩
 | goto l=>exact j.elim
 | ret=>exact⟨_,g,i,j,.of_steps (.one h0 i6) f⟩
 | panic u=>exact⟨_,g,i,j,.of_steps (.one h0 i6) f⟩
 | outgrown=>exact⟨_,g,i,j,.of_steps (.one h0 i6) f⟩
end
end
section
open Go
def jX(o:Op)(g:Operand->Value):Sem Value :=
 match o with
 | .move x|.assign x=>pure (g x)
 | .load t x=>Instr.loadAt t (g x)
 | .store t x y=>do Instr.storeAt t (g x) (g y);pure undef
 | _=>stuck "no such operation"
def oY(P:Program)(o:Oper)(s:Act×World):Option (Act×World) :=
 match (jX o.op s.1.eval).run P s.2 with
 | .ok v w'=>some (s.1.put o.dst v,w')
 | .halt _ _=>none
section
variable {P:Program} {rd:Option Nat}
def qY{o:Oper}{s t:Act×World}(h:oY P o s=some t):∃ v,(jX o.op s.1.eval).run P s.2=.ok v t.2/\t.1=s.1.put o.dst v:=by
 unfold oY at h;split at h
 .rename_i v w' hr;cases h;exact⟨v,hr,rfl⟩
 .cases h
def jS{o:Oper}{s:Act×World}(h:(jX o.op s.1.eval).run P s.2=.ok v w'):oY P o s=some (s.1.put o.dst v,w'):=by
 unfold oY;rw[h]
def ME{o:Oper}(a:zV o.op=true)(w:World)(g:Operand->Value):o.about P w g=none:=by
 unfold Oper.about;cases b:o.op<;>rw[b]at a<;>first|rfl|cases a
def HL{o:Oper}(a:zV o.op=true)(g:Operand->Value):∀ c,o.op≠.defer c:=fun c h=>by rw[h]at a;cases a
def TL{o:Oper}(g:zV o.op=true){a a':Act}{w:World}{K:Act->World->Prop}{Q:Exit->Act->World->Prop}(h:oY P o (a,w)=some (a',w'))(hk:K a' w'):wpO P rd o a w K Q:=by
 obtain⟨v,h1,j⟩:=qY h;simp only at h1 j;subst j;unfold wpO Oper.wpIn;refine⟨fun f i=>(by rw[ME g]at i;cases i),?_⟩;rw[Oper.semAt_eq _ _ _ (HL g a.eval)];cases b:o.op<;>rw[b]at g h1<;>first
  | cases g;done
  | skip
 .have e:(execOp a.eval o)=pure (.value (a.eval ‹Operand›)):=by unfold execOp;rw[b]
  rw[e];cases h1;exact hk
 .have e:(execOp a.eval o)=pure (.value (a.eval ‹Operand›)):=by unfold execOp;rw[b]
  rw[e];cases h1;exact hk
 .rename_i t x;have e:(execOp a.eval o)=(do pure (.value (<- Instr.loadAt t (a.eval x)))):=by unfold execOp;rw[b]
  have h1:(Instr.loadAt t (a.eval x)).run P w=.ok v w':=h1;rw[e];simp only[A3,h1,Result.andThen,Sem.run_pure];exact hk
 .rename_i t x y;have e:(execOp a.eval o)=(do Instr.storeAt t (a.eval x) (a.eval y);pure .skip):=by unfold execOp;rw[b]
  have h1:(do Instr.storeAt t (a.eval x) (a.eval y);pure undef:Sem Value).run P w=.ok v w':=h1;rw[e];simp only[A3]at h1 ⊢;cases hr:(Instr.storeAt t (a.eval x) (a.eval y)).run P w with
  | ok u w2=>rw[hr]at h1;simp only[Result.andThen,Sem.run_pure]at h1 ⊢;cases h1;exact hk
  | halt x w2=>rw[hr]at h1;cases h1
def VQ{o:Oper}(f:zV o.op=true){a:Act}{w:World}{K:Act->World->Prop}{Q:Exit->Act->World->Prop}(g:∀ c a w,¬Q (.panic c) a w)(h:wpO P rd o a w K Q):∃ a' w',oY P o (a,w)=some (a',w')/\K a' w':=by
 unfold wpO Oper.wpIn at h;obtain⟨_,h⟩:=h;rw[Oper.semAt_eq _ _ _ (HL f a.eval)]at h;cases b:o.op<;>rw[b]at f<;>first
  | cases f;done
  | skip
 .rename_i x;have e:(execOp a.eval o)=pure (.value (a.eval x)):=by unfold execOp;rw[b]
  rw[e]at h;exact⟨_,_,jS (s:=(a,w)) (v:=a.eval x) (w':=w) (by rw[b];rfl),h⟩
 .rename_i x;have e:(execOp a.eval o)=pure (.value (a.eval x)):=by unfold execOp;rw[b]
  rw[e]at h;exact⟨_,_,jS (s:=(a,w)) (v:=a.eval x) (w':=w) (by rw[b];rfl),h⟩
 .rename_i t x;have e:(execOp a.eval o)=(do pure (.value (<- Instr.loadAt t (a.eval x)))):=by unfold execOp;rw[b]
  rw[e]at h;simp only[A3]at h;cases hr:(Instr.loadAt t (a.eval x)).run P w with
  | ok v w' =>
    rw[hr]at h;exact⟨_,_,jS (s:=(a,w)) (v:=v) (w':=w') (by rw[b];exact hr),h⟩
  | halt y w' =>
    rw[hr]at h;cases y<;>first|exact absurd h (g _ _ _)|exact h.elim
 .rename_i t x y;have e:(execOp a.eval o)=(do Instr.storeAt t (a.eval x) (a.eval y);pure .skip):=by unfold execOp;rw[b]
  rw[e]at h;simp only[A3]at h;cases hr:(Instr.storeAt t (a.eval x) (a.eval y)).run P w with
  | ok u w' =>
    rw[hr]at h;refine⟨_,_,jS (s:=(a,w)) (v:=undef) (w':=w') ?_,h⟩;rw[b];show(do Instr.storeAt t (a.eval x) (a.eval y);pure undef:Sem Value).run P w=_;simp only[A3,hr,Result.andThen,Sem.run_pure]
  | halt z w' =>
    rw[hr]at h;cases z<;>first|exact absurd h (g _ _ _)|exact h.elim
def ON{a:Act}{e:Option Tmp}{u:Value}(h:∀ x y,d=some x->e=some y->x≠y):(a.put d v).put e u=(a.put e u).put d v:=by
 cases d with
 | none=>rfl
 | some x=>cases e with
   | none=>rfl
   | some y =>
     have b:=h x y rfl rfl;unfold Act.put;simp only;congr 1;exact Array.setIfInBounds_comm _ _ b
def eH{a:Act}{x:Operand}(h:∀ t,d=some t->t ∉ lU x):(a.put d v).eval x=a.eval x:=by
 cases x with
 | const c=>cases d<;>rfl
 | tmp t =>
   cases d with
   | none=>rfl
   | some y =>
     have:y≠t:=fun e=>h y rfl (by subst e;exact G7.2 rfl)
     unfold Act.put Act.eval;simp only[B0];rw[Array.getElem?_setIfInBounds_ne this]
 | _=>cases d<;>rfl
variable [Ora]
def vE(P:Program)(w:World)(t:TypeId)(p:Value):Prop :=
 ∃ b o C T fz s g,p=.pointer (some ⟨b,o,none⟩)/\w.heap[b]? = some (.cells C T fz)/\F7 P t=some s/\Y5 P t=some g/\o+s<=C.size/\o<C.size
def wN{t:TypeId}{b o s:Nat}{C:Q0}{T:TypeId}{g:Bool}(hs:F7 P t=some s)(n:Y5 P t=some g)(h1:o+s<=C.size)(q:o<C.size):∃ v,∀ w:World,w.heap[b]? = some (.cells C T fz)->(Instr.loadAt t (.pointer (some ⟨b,o,none⟩))).run P w=.ok v w:=by
 have a:∀ w:World,w.heap[b]? = some (.cells C T fz)->∀ j v,C[o+j]? = some v->w.cell? ⟨b,o+j,none⟩=some v:=fun w hw j v p=>by simp[World.cell?,hw,p]
 cases g with
 | true =>
   refine⟨.agg ⟨(C.toList.drop o).take s⟩,fun w hw=>?_⟩;have u:((C.toList.drop o).take s).length=s:=by rw[List.length_take,S9,O9];omega
   have e:=I5 (P:=P) (w:=w) (b:=b) (o:=o) u (fun j v f=>by
    have i:j<s:=by have:=(A7.1 f).1;omega
    rw[F0 i,G5,M8]at f;exact a w hw j v f)
   unfold Instr.loadAt;simp[A3,Instr.sureAddr,loadVar,o7 n,J1 hs,Result.andThen,e]
 | false =>
   refine⟨C[o],fun w hw=>?_⟩
   have:=a w hw 0 C[o] (by simp[q]);unfold Instr.loadAt;simp[A3,Instr.sureAddr,loadVar,o7 n,Result.andThen,run_load,show w.cell? ⟨b,o,none⟩=some C[o]from by simpa using this]
def rU{b o:Nat}{T:TypeId}{fz:Nat×Nat}:∀ (vs:List Value) (i:Nat) (C:Array Value) (w w':World),w.heap[b]? = some (.cells C T fz)->o+i+vs.length<=C.size->(storeCells ⟨b,o,none⟩ vs i).run P w=.ok () w' ->
  (∀ k,k≠b->w'.heap[k]? = w.heap[k]?)/\∃ C',w'.heap[b]? = some (.cells C' T fz)/\C'.size=C.size
 | [],i,C,w,w',h,_,hr=>by cases hr;exact⟨fun _ _=>rfl,C,h,rfl⟩
 | v::r,i,C,w,w',h,hl,hr=>by
   simp only[I7]at hl;have f:o+i<C.size:=A9;have p:w.cell? ⟨b,o+i,none⟩=some C[o+i]:=by simp[World.cell?,h,f]
   have n:(w.setCell ⟨b,o+i,none⟩ v).heap[b]? = some (.cells (C.setIfInBounds (o+i) v) T fz):=by
    simp[World.setCell,F1,h]
   unfold storeCells at hr;simp only[A3,I5.add_none']at hr;have a:(store ⟨b,o+i,none⟩ v).run P w=.ok () (w.setCell ⟨b,o+i,none⟩ v)∨∃ x w2,(store ⟨b,o+i,none⟩ v).run P w=.halt x w2:=by
    unfold store;cases v<;>first
     | exact .inr ⟨_,_,rfl⟩
     | (simp only[Sem.run,p]
        split
        .exact .inr ⟨_,_,rfl⟩
        .exact .inl rfl)
   rcases a with a|⟨x,w2,a⟩
   .rw[a]at hr;simp only[Result.andThen]at hr;obtain⟨j,C',q,g⟩:=rU r (i+1) _ _ _ n (by simp;omega) hr;refine⟨fun k hk=>?_,C',q,by rw[g];simp⟩;rw[j k hk];simp only[World.setCell,F1];rw[B1 (fun e=>hk e.symm)]
   .rw[a]at hr;cases hr
def yG{t:TypeId}{b o s:Nat}{C:Q0}{T:TypeId}{y:Value}{w:World}(hs:F7 P t=some s)(hw:w.heap[b]? = some (.cells C T fz))(h1:o+s<=C.size)(hr:(Instr.storeAt t (.pointer (some ⟨b,o,none⟩)) y).run P w=.ok () w') :
  (∀ k,k≠b->w'.heap[k]? = w.heap[k]?)/\∃ C',w'.heap[b]? = some (.cells C' T fz)/\C'.size=C.size:=by
 unfold Instr.storeAt at hr;simp only[A3,Instr.sureAddr,storeVar,J1 hs,Result.andThen,Sem.run_pure]at hr;by_cases a:y.cells.size≠s
 .rw[B2 a]at hr;cases hr
 .rw[B1 a]at hr;have a:=Classical.not_not.1 a;exact rU y.cells.toList 0 C w w' hw (by rw[O9,a];omega) hr
structure EL (P:Program) (ops:List Oper) (s:Act×World):Prop where
 pl:∀ o ∈ ops,∀ t x,iP o.op=some (t,x)->vE P s.2 t (s.1.eval x)
 ap:∀ i j a b,i<j->ops[i]? = some a->ops[j]? = some b->nI b i=false->(cX a.op || cX b.op)=true->∀ t x u y,iP a.op=some (t,x)->iP b.op=some (u,y)->∀ p q,s.1.eval x=.pointer (some p)->s.1.eval y=.pointer (some q)->p.block≠q.block
def tC{b:Nat}:m6 l b=true↔b ∈ l:=by
 unfold m6;rw[N2];constructor
 .rintro⟨x,h,e⟩;have:=A0 e;subst this;exact h
 .intro h;exact⟨b,h,bG b⟩
def CD{a:List Tmp}:∀ {l:List Oper} {k i:Nat} {o:Oper},OZ a k l=true->l[i]? = some o->A0A a (k+i) o=true
 | [],k,i,o,_,h=>by simp at h
 | p::l,k,0,o,h,hi=>by
   simp at hi;subst hi;exact(B3 h).1
 | p::l,k,i+1,o,h,hi=>by
   have:=CD (l:=l) (k:=k+1) (i:=i) (o:=o) (B3 h).2 (by simpa using hi);rw[show k+(i+1)=k+1+i by omega];exact this
structure One (ops:List Oper) (i:Nat) (o:Oper):Prop where
 cls:zV o.op=true
 grd:o.guard=none
 ads:∀ p ∈ ops,∀ t x,iP p.op=some (t,x)->∀ d,o.dst=some d->d ∉ lU x
 lt:∀ e ∈ o.after,Region.binds .any e=true->e.on<i
def jC{ops:List Oper}(h:gU ops=true){i:Nat}{o:Oper}(hi:ops[i]? = some o):One ops i o:=by
 have h1:=CD (B3 h).1 hi;rw[D8]at h1;unfold A0A at h1;obtain⟨n,h1⟩:=B3 h1;obtain⟨a2,h1⟩:=B3 h1;obtain⟨a3,a4⟩:=B3 h1;refine⟨n,?_,fun p hp t x j d a hm=>?_,fun e he b=>?_⟩
 .cases f:o.guard with
  | none=>rfl
  | some g=>rw[f]at a2;cases a2
 .have:m6 (TA ops) d=true:=tC.2 (List.mem_flatMap.2 ⟨p,hp,by rw[j];exact hm⟩);unfold wC at a3;rw[a]at a3;simp only at a3;rw[this]at a3;cases a3
 .have:=cQ.1 a4 e he;rw[b]at this;exact A1 this
def BH{p:Oper->Oper->Bool}{ops:List Oper}(h:yT p ops=true){i j:Nat}{a b:Oper}(f:i<j)(hi:ops[i]? = some a)(g:ops[j]? = some b)(he:nI b i=false):p a b=true:=by
 unfold yT at h;have e:=(A7.1 g).1
 have:=D2.1 (D2.1 h j (X0.2 e)) i (X0.2 f);rw[hi,g]at this;simp only[he,R7]at this;exact this
def BL{o:Oper}{a:Act}(b:∀ t,d=some t->t ∉ OK o.op)(f:zV o.op=true):jX o.op (a.put d v).eval=jX o.op a.eval:=by
 cases g:o.op<;>rw[g]at f b<;>first
  | cases f;done
  | skip
 .unfold jX;simp only;rw[eH b]
 .unfold jX;simp only;rw[eH b]
 .unfold jX;simp only;rw[eH b]
 .unfold jX;simp only;rw[eH (fun t e hm=>b t e (B7.2 (.inl hm))),eH (fun t e hm=>b t e (B7.2 (.inr hm)))]
def qQ{o:Oper}{s:Act×World}(e:zV o.op=true)(a:cX o.op=false)(hp:∀ t x,iP o.op=some (t,x)->vE P s.2 t (s.1.eval x))(h:(jX o.op s.1.eval).run P s.2=.ok v w'):w'=s.2:=by
 cases n:o.op<;>rw[n]at e a h hp<;>first
  | cases e;done
  | cases a;done
  | skip
 .cases h;rfl
 .cases h;rfl
 .rename_i t x;obtain⟨b,o',C,T,fz,sz,g,z,f,j,i,p,q⟩:=hp t x rfl;obtain⟨u,hu⟩:=wN (P:=P) (T:=T) (fz:=fz) j i p q;have h:(Instr.loadAt t (s.1.eval x)).run P s.2=.ok v w':=h;rw[z,hu s.2 f]at h;cases h;rfl
def rT{o:Oper}{s:Act×World}(a:cX o.op=true)(hp:∀ t x,iP o.op=some (t,x)->vE P s.2 t (s.1.eval x))(h:(jX o.op s.1.eval).run P s.2=.ok v w') :
  ∃ t x b o' C T fz,iP o.op=some (t,x)/\s.1.eval x=.pointer (some ⟨b,o',none⟩)/\s.2.heap[b]? = some (.cells C T fz)/\(∀ k,k≠b->w'.heap[k]? = s.2.heap[k]?)/\∃ C',w'.heap[b]? = some (.cells C' T fz)/\C'.size=C.size:=by
 cases n:o.op<;>rw[n]at a h hp<;>first
  | cases a;done
  | skip
 rename_i t x y;obtain⟨b,o',C,T,fz,sz,g,f,e,j,A,p,B⟩:=hp t x rfl;have h:(do Instr.storeAt t (s.1.eval x) (s.1.eval y);pure undef:Sem Value).run P s.2=.ok v w':=h;simp only[A3]at h;cases hr:(Instr.storeAt t (s.1.eval x) (s.1.eval y)).run P s.2 with
 | ok u w2 =>
   rw[hr]at h;simp only[Result.andThen,Sem.run_pure]at h;cases h;rw[f]at hr;obtain⟨i,q⟩:=yG j e p hr;exact⟨t,x,b,o',C,T,fz,rfl,f,e,i,q⟩
 | halt z w2=>rw[hr]at h;cases h
def vE.keep{w:World}{t:TypeId}{p:Value}(h:vE P w t p)(hk:∀ (b:Nat) (C:Array Value) (T:TypeId) (fz:Nat×Nat),w.heap[b]? = some (.cells C T fz)->∃ C',w'.heap[b]? = some (.cells C' T fz)/\C'.size=C.size):vE P w' t p:=by
 obtain⟨b,o,C,T,fz,s,g,i,a,f,e,j,q⟩:=h;obtain⟨C',h1,n⟩:=hk b C T fz a;exact⟨b,o,C',T,fz,s,g,i,h1,f,e,A9,A9⟩
def EL.step{ops:List Oper}{s B:Act×World}{i:Nat}{o:Oper}(hr:gU ops=true)(E:EL P ops s)(hi:ops[i]? = some o)(h:oY P o s=some B):EL P ops B:=by
 obtain⟨v,h1,O⟩:=qY h;have H:=jC hr hi;have f:=D6 hi;have n:∀ p ∈ ops,∀ t x,iP p.op=some (t,x)->B.1.eval x=s.1.eval x:=fun p hp t x g=>by rw[O];exact eH (H.ads p hp t x g)
 have hk:∀ (b:Nat) (C:Array Value) (T:TypeId) (fz:Nat×Nat),s.2.heap[b]? = some (.cells C T fz)->∃ C',B.2.heap[b]? = some (.cells C' T fz)/\C'.size=C.size:=fun b C T fz D=>by
  cases z:cX o.op with
  | false=>rw[qQ H.cls z (fun t x g=>E.pl o f t x g) h1];exact⟨C,D,rfl⟩
  | true =>
    obtain⟨t,x,b',o',W,Y,S,Z,X,M,L,C',N,Q⟩:=rT z (fun t x g=>E.pl o f t x g) h1;by_cases e:b=b'
    .subst e;rw[M]at D;cases D;exact⟨C',N,Q⟩
    .exact⟨C,by rw[L b e];exact D,rfl⟩
 refine⟨fun p hp t x g=>by rw[n p hp t x g];exact(E.pl p hp t x g).keep hk,fun i j a b F h3 G V R t x u y K I p q J A=>?_⟩;rw[n a (D6 h3) t x K]at J;rw[n b (D6 G) u y I]at A;exact E.ap i j a b F h3 G V R t x u y K I p q J A
def QW{ops:List Oper}{s s1 s2:Act×World}{i j:Nat}{a b:Oper}(hr:gU ops=true)(O:EL P ops s)(E:i<j)(hi:ops[i]? = some a)(M:ops[j]? = some b)(he:nI b i=false)(h1:oY P a s=some s1)(h2:oY P b s1=some s2):∃ t,oY P b s=some t/\oY P a t=some s2:=by
 have oa:=jC hr hi;have N:=jC hr M;have ma:=D6 hi;have mb:=D6 M;have f:=BH (B3 hr).2 E hi M he;unfold A1c at f;obtain⟨i1,f⟩:=B3 f;obtain⟨i2,f⟩:=B3 f;obtain⟨i3,i4⟩:=B3 f;have Y:∀ t,a.dst=some t->t ∉ OK b.op:=fun t R hm=>by
  unfold wC at i2;rw[R]at i2;simp only at i2;rw[tC.2 hm]at i2;cases i2
 have S:∀ t,b.dst=some t->t ∉ OK a.op:=fun t R hm=>by
  unfold wC at i3;rw[R]at i3;simp only at i3;rw[tC.2 hm]at i3;cases i3
 have X:∀ x y,a.dst=some x->b.dst=some y->x≠y:=fun x y n hy e=>by
  rw[n,hy]at i1;simp only at i1;subst e;rw[bG]at i1;cases i1
 obtain⟨v,K,e2⟩:=qY h1;obtain⟨u,H,e4⟩:=qY h2;obtain⟨a1,w1⟩:=s1;obtain⟨a2,w2⟩:=s2;obtain⟨a0,w0⟩:=s;simp only at K e2 H e4;subst e2;subst e4;rw[BL Y N.cls]at H;suffices hh:∃ w',(jX b.op a0.eval).run P w0=.ok u w'/\(jX a.op a0.eval).run P w'=.ok v w2 by
  obtain⟨w',q1,q2⟩:=hh;refine⟨(a0.put b.dst u,w'),jS (s:=(a0,w0)) q1,?_⟩
  have:=jS (P:=P) (o:=a) (s:=(a0.put b.dst u,w')) (v:=v) (w':=w2) (by show(jX a.op (a0.put b.dst u).eval).run P w'=_;rw[BL S oa.cls];exact q2);rw[this];simp only;rw[ON X]
 have F:∀ t x,iP a.op=some (t,x)->vE P w0 t (a0.eval x):=fun t x n=>O.pl a ma t x n
 have A:∀ t x,iP b.op=some (t,x)->vE P w0 t (a0.eval x):=fun t x n=>O.pl b mb t x n
 have p:∀ {o:Oper} {w w':World} {r:Value},zV o.op=true->cX o.op=false->(∀ t x,iP o.op=some (t,x)->∃ q B C T fz s g,a0.eval x=.pointer (some ⟨q,B,none⟩)/\w.heap[q]? = some (.cells C T fz)/\w'.heap[q]? = some (.cells C T fz)/\F7 P t=some s/\Y5 P t=some g/\B+s<=C.size/\B<C.size)->(jX o.op a0.eval).run P w=.ok r w->(jX o.op a0.eval).run P w'=.ok r w':=fun{o w w' r} hc L hp h=>by
  cases ho:o.op<;>rw[ho]at hc L h hp<;>first
   | cases hc;done
   | cases L;done
   | skip
  .cases h;rfl
  .cases h;rfl
  .rename_i t x;obtain⟨q,B,C,T,fz,sz,g,f1,f2,f3,f4,f5,f6,f7⟩:=hp t x rfl;obtain⟨z,hz⟩:=wN (P:=P) (T:=T) (fz:=fz) f4 f5 f6 f7;have h:(Instr.loadAt t (a0.eval x)).run P w=.ok r w:=h;show(Instr.loadAt t (a0.eval x)).run P w'=.ok r w';rw[f1,hz w f2]at h;rw[f1,hz w' f3];cases h;rfl
 cases I:cX a.op with
 | false =>
   have hw:w1=w0:=qQ (s:=(a0,w0)) oa.cls I F K;subst hw;refine⟨w2,H,?_⟩;refine p oa.cls I (fun t x n=>?_) K;obtain⟨q,B,C,T,fz,sz,g,f1,f2,f3,f4,f5,f6⟩:=F t x n;cases G:cX b.op with
   | false =>
     have W:w2=w1:=qQ (s:=(a0,w1)) N.cls G A H;subst W;exact⟨q,B,C,T,fz,sz,g,f1,f2,f2,f3,f4,f5,f6⟩
   | true =>
     obtain⟨V,x',b',o',C0,T0,Z,g1,g2,g3,g4,_⟩:=rT (s:=(a0,w1)) G A H;have D:=O.ap i j a b E hi M he (by rw[I,G];rfl) t x V x' n g1 _ _ f1 g2;exact⟨q,B,C,T,fz,sz,g,f1,f2,(g4 q D).trans f2,f3,f4,f5,f6⟩
 | true =>
   have G:cX b.op=false:=by
    cases h:cX b.op with
    | false=>rfl
    | true=>rw[I,h]at i4;cases i4
   obtain⟨V,x',b',o',C0,T0,Z,g1,g2,g3,g4,C1,g5,g6⟩:=rT (s:=(a0,w0)) I F K;have J:∀ t x,iP b.op=some (t,x)->vE P w1 t (a0.eval x):=fun t x n=>(A t x n).keep fun b C T fz Q=>by
    by_cases e:b=b'
    .subst e;rw[g3]at Q;cases Q;exact⟨C1,g5,g6⟩
    .exact⟨C,by rw[g4 b e];exact Q,rfl⟩
   have hw:w2=w1:=qQ (s:=(a0,w1)) N.cls G J H;subst hw;refine⟨w0,?_,K⟩;refine p N.cls G (fun t x n=>?_) H;obtain⟨q,B,C,T,fz,sz,g,f1,f2,f3,f4,f5,f6⟩:=A t x n;have D:=O.ap i j a b E hi M he (by rw[I,G];rfl) V x' t x g1 n _ _ g2 f1;exact⟨q,B,C,T,fz,sz,g,f1,(g4 q (fun e=>D e.symm)).trans f2,f2,f3,f4,f5,f6⟩
def yP(P:Program)(ops:List Oper):F9->Act×World->Option (Act×World)
 | [],s=>some s
 | i::l,s=>match ops[i]? with
   | some o=>match oY P o s with
     | some s=>yP P ops l s
     | none=>none
   | none=>yP P ops l s
def kO{ops:List Oper}(hr:gU ops=true){j:Nat}{b:Oper}(f:ops[j]? = some b){l2:F9}{r:Act×World}:∀ (l1:List Nat) (s:Act×World),EL P ops s->(∀ i ∈ l1,i<j/\nI b i=false)->yP P ops (l1++j::l2) s=some r->∃ s1,oY P b s=some s1/\yP P ops (l1++l2) s1=some r
 | [],s,hg,_,h=>by
   simp only[Q8,yP,f]at h;split at h
   .rename_i s1 h1;exact⟨s1,h1,h⟩
   .cases h
 | i::l1,s,hg,hl,h=>by
   obtain⟨h0,he⟩:=hl i B4;have e:∀ i ∈ l1,i<j/\nI b i=false:=fun k hk=>hl k (C5 _ hk)
   simp only[Y1,yP]at h ⊢;cases hi:ops[i]? with
   | none =>
     rw[hi]at h;exact kO hr f l1 s hg e h
   | some a =>
     rw[hi]at h;simp only at h ⊢;split at h
     .rename_i g h1;obtain⟨s1,q1,q2⟩:=kO hr f l1 g (hg.step hr hi h1) e h;obtain⟨t,t1,t2⟩:=QW hr hg h0 hi f he h1 q1;exact⟨t,t1,by rw[t2];exact q2⟩
     .cases h
def gI(n:Nat)(listed:Array Bool):F9:=(List.range n).filter fun i=>!listed.getD i true
def mF{n:Nat}{i:Nat}:i ∈ gI n listed↔i<n/\listed.getD i true=false:=by
 unfold gI;rw[O7,X0];simp
def yR(n:Nat)(listed:Array Bool):(gI n listed).Pairwise (· < ·):=List.Pairwise.filter _ List.pairwise_lt_range
def OJ{n:Nat}{i:Nat}{l1 l2:F9}(hi:i<listed.size)(h:gI n listed=l1++i::l2):gI n (listed.setIfInBounds i true)=l1++l2:=by
 have hp:=yR n listed;rw[h]at hp;have a:∀ k ∈ l1++l2,(k != i)=true:=fun k hk=>by
  have hp:=List.pairwise_append.1 hp;rcases B7.1 hk with hk|hk
  .have:=hp.2.2 k hk i B4;simp;omega
  .have:=(P6.1 hp.2.1).1 k hk;simp;omega
 have e:gI n (listed.setIfInBounds i true)=(gI n listed).filter fun k=>k != i:=by
  unfold gI;rw[List.filter_filter];apply List.filter_congr;intro k _;simp only[B0,D1];by_cases e:i=k
  .subst e;simp[hi]
  .simp[e,Ne.symm e]
 rw[e,h,List.filter_append,List.filter_cons];have b:(i != i)=false:=by simp
 rw[b];simp only[G9,if_false];rw[bA.2 fun k hk=>a k (B7.2 (.inl hk)),bA.2 fun k hk=>a k (B7.2 (.inr hk))]
def wH{ops:Array Oper}(hr:gU ops.toList=true){Q:Exit->Act->World->Prop}:∀ (fuel:Nat) (listed:Array Bool) (a:Act) (w:World) (r:Act×World),listed.size=ops.size->EL P ops.toList (a,w)->(gI ops.size listed).length=fuel->yP P ops.toList (gI ops.size listed) (a,w)=some r->Q .normal r.1 r.2->dK P rd .any ops Q fuel listed a w
 | 0,listed,a,w,r,hsz,hg,hl,h,hq=>by
   have h0:=D9.1 hl;rw[h0]at h;cases h;refine⟨?_,hq⟩;rw[T4];intro i hi;have:i ∈ gI ops.size listed:=by
    unfold Region.ready at hi;rw[O7]at hi;unfold gI;rw[O7];exact⟨hi.1,(B3 hi.2).1⟩
   rw[h0]at this;cases this
 | fuel+1,listed,a,w,r,hsz,hg,hl,h,hq=>by
   have j:∀ {i:Nat},i<ops.size->∃ o,ops.toList[i]? = some o/\ops[i]? = some o:=fun{i} hi=>⟨ops[i],by simp[hi],by simp[hi]⟩
   refine⟨fun H=>?_,fun i hi=>?_⟩
   ·
    cases g:gI ops.size listed with
    | nil=>rw[g]at hl;cases hl
    | cons i t =>
      exfalso;have F:i ∈ gI ops.size listed:=by rw[g];exact B4
      obtain⟨i1,i2⟩:=mF.1 F;obtain⟨o,u,z⟩:=j i1;have A:=jC hr u;have f:=yR ops.size listed;rw[g]at f;have x:∀ k,k<i->listed.getD k false=true:=fun k hk=>by
       have p:k<listed.size:=A9;cases G:listed.getD k true with
       | true=>rw[<- G];simp[B0,p]
       | false =>
         have:k ∈ gI ops.size listed:=mF.2 ⟨A9,G⟩;rw[g]at this;rcases A8.1 this with e|hm
         .omega
         .have:=(P6.1 f).1 k hm;omega
      have:i ∈ Region.ready .any ops listed:=by
       unfold Region.ready;rw[O7,X0];refine⟨i1,?_⟩;rw[i2,z];simp only[Bool.not_false,Bool.true_and,I3,Y0];rw[cQ];intro e he;cases I:Region.binds .any e with
       | false=>rfl
       | true=>rw[x e.on (A.lt e he I)];rfl
      rw[H]at this;cases this
   .have hi':=hi;unfold Region.ready at hi;rw[O7,X0]at hi;obtain⟨i1,i2⟩:=hi;obtain⟨o,u,z⟩:=j i1;have A:=jC hr u;rw[z]at i2;obtain⟨i2,i3⟩:=B3 i2;simp only[I3,Y0]at i3;have C:listed.getD i true=false:=by simpa using i2
    have s:i ∈ gI ops.size listed:=mF.2 ⟨i1,C⟩;obtain⟨l1,l2,b⟩:=List.append_of_mem s;have f:=yR ops.size listed;rw[b]at f;have E:∀ k ∈ l1,k<i/\nI o k=false:=fun k hk=>by
     refine⟨(List.pairwise_append.1 f).2.2 k hk i B4,?_⟩;cases he:nI o k with
     | false=>rfl
     | true =>
       exfalso;unfold nI at he;rw[Array.any_eq_true']at he;obtain⟨e,hm,he⟩:=he;obtain⟨J,D⟩:=B3 he;have D:=A0 D
       have:=(cQ.1 i3) e hm;rw[J,D]at this;simp only[N6,R7]at this;have p:=(mF (n:=ops.size) (listed:=listed) (i:=k)).1 (by rw[b];exact B7.2 (.inl hk));have B:k<listed.size:=A9;have q:=p.2;simp[B0,B]at this q;rw[this]at q;cases q
    rw[b]at h;obtain⟨s1,q1,q2⟩:=kO hr u l1 (a,w) hg E h;have U5:=OJ (n:=ops.size) (listed:=listed) (i:=i) (l1:=l1) (l2:=l2) A9 b;obtain⟨K,w1⟩:=s1;unfold i5;rw[z];simp only;have hw:Region.wanted o (yielded ops a.tmps)=true:=by unfold Region.wanted;rw[A.grd]
    rw[B2 hw];refine TL A.cls q1 (wH hr fuel (listed.setIfInBounds i true) K w1 r (by simpa using hsz) (hg.step hr u q1) ?_ (by rw[U5];exact q2) hq);rw[U5];have:(l1++i::l2).length=fuel+1:=by rw[<- b];exact hl
    simp at this ⊢;omega
def vY{ops:Array Oper}(hr:gU ops.toList=true){Q:Exit->Act->World->Prop}:∀ (d k:Nat) (a:Act) (w:World),k+d=ops.size->wpL P rd ops (fun e a' w'=>e=.normal/\Q e a' w') (ops.toList.drop k) a w->∃ r,yP P ops.toList (List.range' k d) (a,w)=some r/\Q .normal r.1 r.2
 | 0,k,a,w,hk,h=>by
   have:ops.toList.drop k=[]:=s8 (by simp;omega);rw[this]at h;exact⟨(a,w),rfl,h.2⟩
 | d+1,k,a,w,hk,h=>by
   have b:k<ops.toList.length:=by simp;omega
   rw[Q5 b]at h;have f:=jC hr (A4 b);unfold wpL at h;have hw:Region.wanted ops.toList[k] (yielded ops a.tmps)=true:=by unfold Region.wanted;rw[f.grd]
   rw[B2 hw]at h;obtain⟨a',w',h1,g⟩:=VQ f.cls (fun c a w hh=>by cases hh.1) h;obtain⟨r,r1,r2⟩:=vY hr d (k+1) a' w' A9 g;refine⟨r,?_,r2⟩;rw[List.range'_succ];simp only[yP,A4 b,h1];exact r1
def UA{ops:Array Oper}(hr:gU ops.toList=true){Q:Exit->Act->World->Prop}{a:Act}{w:World}(b:∀ w',w'.heap=w.heap->EL P ops.toList (a,w'))(h:∀ d,wpL P rd ops (fun e a' w'=>e=.normal/\Q e a' w') ops.toList a { w with drawn:=d })(d:Nat):dK P rd .any ops Q ops.size (Array.replicate ops.size false) a { w with drawn:=d }:=by
 obtain⟨r,r1,r2⟩:=vY hr ops.size 0 a { w with drawn:=d } A9 (by simpa using h d);have e:gI ops.size (Array.replicate ops.size false)=List.range' 0 ops.size:=by
  unfold gI;rw[List.range_eq_range',bA];intro i hi;have:i<ops.size:=by have:=List.mem_range'.1 hi;omega
  simp[B0,this]
 exact wH hr ops.size _ a _ r (by simp) (b _ rfl) (by rw[e];simp) (by rw[e];exact r1) r2
end
end
end Go.Sx
