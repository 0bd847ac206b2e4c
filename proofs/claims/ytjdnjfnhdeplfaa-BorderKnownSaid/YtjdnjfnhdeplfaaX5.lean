import Derived.Test.YtjdnjfnhdeplfaaX4
import Derived.MapKept
import Derived.WideKeyRuns
import Derived.Lib.Builder
import Derived.LoopNIn
import Derived.RangeFuncRecord
set_option linter.all false
set_option maxRecDepth 100000
set_option maxHeartbeats 4000000
namespace Go.Sx
open Go
variable {ks l ts:F8}{k' v v' x':Value}{cs:List Frame}{clock k pi:Nat}{y:MTy}{d:Option Tmp}{kt pt ty:TypeId}{r us vs:List U}{rows rs:List (List U)}{es es':Array MapEntry}{hs xs:D0}{c:Code}{e':MapEntry}{tys:List TypeId}{w':World}{fz:Nat×Nat}{listed:Array Bool}
section
open Go
variable [Ora]
section
variable {P:Program} {base:Nat} {ρ:Ren} {m m':Mem} {w:World}
def oS:∀ {ts:F8} {cs cs':D0},tE ts cs=true->(∀ t ∈ ts,t<10)->LR ρ cs cs'->(cs.map (D4 Ora.env)).map F3=ts/\cs'=(cs.map (D4 Ora.env)).map O8
 | [],[],cs',_,_,hl=>by cases hl.nil_inv;exact⟨rfl,rfl⟩
 | t::ts,v::vs,cs',h,ht,hl=>by
   obtain⟨h1,f⟩:=B3 (show(Nat.beq (F5 v) t && tE ts vs)=true from h);have h1:=A0 h1;obtain⟨v',r,rfl,g1,g2⟩:=hl.tail;obtain⟨a,b⟩:=oS f (fun x g=>ht x (C5 _ g)) g2;obtain⟨c,d⟩:=l9 g1 (by rw[h1];exact ht t B4);have e:O8 (D4 Ora.env v)=v':=by unfold O8;rw[c];rfl
   exact⟨by rw[B8,B8,a,d,h1],by rw[B8,B8,e,<- b]⟩
 | [],_::_,_,h,_,_=>by cases h
 | _::_,[],_,h,_,_=>by cases h
def fE{a:Bool}{cs:D0}(h:jU a ts v=some cs)(g:∀ t ∈ ts,t<10)(f:VR ρ v v'):v'=S1 a (cs.map (D4 Ora.env))/\(cs.map (D4 Ora.env)).map F3=ts:=by
 unfold jU at h;split at h
 .rename_i c;obtain⟨h1,h⟩:=A2 h;cases h;obtain⟨cs',rfl,i⟩:=R9 f;obtain⟨e,b⟩:=oS h1 g i;exact⟨by rw[b];rfl,e⟩
 .cases h
 .obtain⟨h1,h⟩:=A2 h;cases h;obtain⟨e,b⟩:=oS h1 g (LR.cons f LR.nil);refine⟨?_,e⟩
  have:=U8 List.head? b
  simpa [S1]using this
def rW{t:Nat}(h:cS P t=some k):k<10:=by
 unfold cS at h;split at h
 .cases h;decide
 .cases h;have:=J8 ‹_›;omega
 .cases h;decide
 .cases h
def DB:∀ {g:List Field} {i:Nat} {l:F8},pU P g i=some l->∀ t ∈ l,t<10
 | [],i,l,h,t,e=>by cases h;cases e
 | f::g,i,l,h,t,e=>by
   unfold pU at h;split at h
   .rename_i a b h1 j;obtain⟨_,h⟩:=A2 h;cases h;rcases A8.1 e with rfl|e
    .exact rW h1
    .exact DB j t e
   .cases h
def yW{T:TypeId}(h:FL P T=some y):P.underlying T=some (.map y.kt y.vt)/\kB P y.kt=some (y.ka,y.ks)/\GV P y.vt=some (y.va,y.vs)/\0<y.ks.length/\(∀ t ∈ y.ks,t<10)/\(∀ t ∈ y.vs,t<10)/\(y.va=false->y.vs.length=1):=by
 unfold FL at h;split at h
 .rename_i kt vt hu;split at h
  .rename_i ka k ks va vs h1 a;cases h;refine⟨hu,h1,a,Nat.succ_pos _,?_,?_,?_⟩
   .intro t b;unfold kB at h1;split at h1
    .cases hs:P.stoodInHeld kt with
     | true=>rw[hs]at h1;cases h1
     | false =>
       rw[hs]at h1;simp only[D3]at h1;split at h1
       .rename_i l g;cases h1;exact DB g t b
       .cases h1
    .split at h1
     .rename_i z f;cases h1;simp only[A8,C3,or_false]at b;subst b;exact rW f
     .cases h1
   .intro t b;unfold GV at a;split at a
    .obtain⟨h3,a⟩:=A2 a;cases a;exact A1 (D2.1 h3 t b)
    .obtain⟨h3,a⟩:=A2 a;cases a;simp only[A8,C3,or_false]at b;subst b;exact A1 h3
    .cases a
   .intro e;have e:va=false:=e;subst e;unfold GV at a;split at a
    .obtain⟨_,a⟩:=A2 a;cases a
    .obtain⟨_,a⟩:=A2 a;cases a;rfl
    .cases a
  .cases h
 .cases h
def HE{t:TypeId}{u v:U}(h:cS P t=some k)(h1:F3 u=k)(f:F3 v=k)(n:Nat)(w:World):(Op.equalIn (n+1) t (O8 u) (O8 v)).run P w=.ok (isU u v) w:=by
 have hk:=rW h;unfold cS at h;split at h
 .rename_i hu;cases h;cases u<;>simp only[F3]at h1<;>first|omega|skip
  .have:=J8 ‹_›;omega
  .cases v<;>simp only[F3]at f<;>first|omega|skip
   .have:=J8 ‹_›;omega
   .simp[O8,toV,isU,eqU,Op.equalIn,A3,C8 hu,Result.andThen]
 .rename_i j hu;cases h;cases u with
  | int a x =>
    cases v with
    | int b z =>
      have i:=mO h1;have g:=mO f;subst i;subst g;simp[O8,toV,isU,eqU,Op.equalIn,A3,C8 hu,Result.andThen]
    | bool b=>simp only[F3]at f;have:=J8 j;omega
    | str s=>simp only[F3]at f;have:=J8 j;omega
    | seq _ _ _=>simp only[F3]at f;omega
    | none=>simp only[F3]at f;omega
  | bool b=>simp only[F3]at h1;have:=J8 j;omega
  | str s=>simp only[F3]at h1;have:=J8 j;omega
  | seq _ _ _=>simp only[F3]at h1;omega
  | none=>simp only[F3]at h1;omega
 .rename_i hu;cases h;cases u<;>simp only[F3]at h1<;>first|omega|skip
  .have:=J8 ‹_›;omega
  .cases v<;>simp only[F3]at f<;>first|omega|skip
   .have:=J8 ‹_›;omega
   .rename_i p q
    have:=run_equalIn_string (P:=P) w n t ⟨⟨p⟩⟩ ⟨⟨q⟩⟩ hu;have e:∀ s:List UInt8,O8 (.str s)=.string ⟨⟨s⟩⟩:=fun _=>rfl
    rw[e,e,this];simp[isU,eqU,ByteArray.toList_eq]
 .cases h
def NJ{t:TypeId}{d:TypeDesc}{u v:U}(g:P.underlying t=some d)(h:cS P t=some k)(h1:F3 u=k)(f:F3 v=k):Instr.sameNow d (O8 u) (O8 v)=some (isU u v):=by
 unfold cS at h;split at h
 .rename_i hu;rw[hu]at g;cases g;cases h;cases u<;>simp only[F3]at h1<;>first|omega|skip
  .have:=J8 ‹_›;omega
  .cases v<;>simp only[F3]at f<;>first|omega|skip
   .have:=J8 ‹_›;omega
   .simp[O8,toV,isU,eqU,Instr.sameNow]
 .rename_i j hu;rw[hu]at g;cases g;cases h;cases u with
  | int a x =>
    cases v with
    | int b z =>
      have n:=mO h1;have i:=mO f;subst n;subst i;simp[O8,toV,isU,eqU,Instr.sameNow]
    | bool b=>simp only[F3]at f;have:=J8 j;omega
    | str s=>simp only[F3]at f;have:=J8 j;omega
    | seq _ _ _=>simp only[F3]at f;have:=J8 j;omega
    | none=>simp only[F3]at f;have:=J8 j;omega
  | bool b=>simp only[F3]at h1;have:=J8 j;omega
  | str s=>simp only[F3]at h1;have:=J8 j;omega
  | seq _ _ _=>simp only[F3]at h1;have:=J8 j;omega
  | none=>simp only[F3]at h1;have:=J8 j;omega
 .rename_i hu;rw[hu]at g;cases g;cases h;cases u<;>simp only[F3]at h1<;>first|omega|skip
  .have:=J8 ‹_›;omega
  .cases v<;>simp only[F3]at f<;>first|omega|skip
   .have:=J8 ‹_›;omega
   .rename_i p q;have e:(ByteArray.mk ⟨p⟩ == ByteArray.mk ⟨q⟩)=(p == q):=by
     show(Array.mk p == Array.mk q)=_;rw[K1,beq_iff_eq,beq_iff_eq];exact⟨fun h=>by injection h,fun h=>by rw[h]⟩
    simp[O8,toV,isU,eqU,Instr.sameNow,e]
 .cases h
def nY{t:TypeId}(h:cS P t=some k){X:D0}{i:Nat}(f:X[i]? = some v)(w:World):(part t ⟨X⟩ i).run P w=.ok v w:=by
 have a:∀ d,P.underlying t=some d->(match d with|.struct _|.array _ _=>False|_=>True)->(part t ⟨X⟩ i).run P w=.ok v w:=fun d b e=>by
  cases d<;>simp only at e<;>simp[part,isAgg,A3,C8 b,Result.andThen,f]
 unfold cS at h;split at h
 .exact a _ ‹_› trivial
 .exact a _ ‹_› trivial
 .exact a _ ‹_› trivial
 .cases h
def wY:∀ {g:List Field} {i:Nat} {ks:F8} {us vs:List U} {p q:D0},pU P g i=some ks->us.map F3=ks->vs.map F3=ks->p.length=i->q.length=i->∀ (n:Nat) (w:World),(Op.eqFields (n+1) ⟨p++us.map O8⟩ ⟨q++vs.map O8⟩ g).run P w=.ok (P9 us vs) w
 | [],i,ks,us,vs,p,q,h,h1,h2,hp,hq,n,w=>by
   cases h;have e:us=[]:=by simpa using h1
   have b:vs=[]:=by simpa using h2
   subst e;subst b;simp[Op.eqFields,P9]
 | f::g,i,ks,us,vs,p,q,h,h1,h2,hp,hq,n,w=>by
   unfold pU at h;split at h
   .rename_i t l o B;obtain⟨A,h⟩:=A2 h;cases h;obtain⟨j,a⟩:=B3 A;have a:=A0 a;have z:f.name ≠ "_":=by simpa using j
    cases us with
    | nil=>cases h1
    | cons u us =>
      cases vs with
      | nil=>cases h2
      | cons v vs =>
        simp only[B8,I4]at h1 h2;have g1:(p++(u::us).map O8)[f.offset]? = some (O8 u):=by rw[a,<- hp,D5 (A6 _)];simp
        have g2:(q++(v::vs).map O8)[f.offset]? = some (O8 v):=by rw[a,<- hq,D5 (A6 _)];simp
        have e:=nY o g1 w;have b:=nY o g2 w;have s:=HE o h1.1 h2.1 n w;have x:=wY (p:=p++[O8 u]) (q:=q++[O8 v]) B h1.2 h2.2 (by simp[hp]) (by simp[hq]) n w;rw[V6,V6]at x;unfold Op.eqFields;rw[B2 z];simp only[P9];cases hs:isU u v with
        | false =>
          simp only[A3,e,b,s,hs,Result.andThen_ok];simp
        | true =>
          simp only[A3,e,b,s,hs,Result.andThen_ok,Bool.true_and];exact x
   .cases h
def A0B{a:Bool}(h:kB P kt=some (a,ks))(h1:us.map F3=ks)(b:vs.map F3=ks)(w:World):(Op.equal kt (S1 a us) (S1 a vs)).run P w=.ok (P9 us vs) w:=by
 unfold kB at h;split at h
 .rename_i f hu;cases hs:P.stoodInHeld kt with
  | true=>rw[hs]at h;cases h
  | false =>
    rw[hs]at h;simp only[D3]at h;split at h
    .rename_i l g;cases h;have e:P.fieldsOf kt=f:=by simp[Program.fieldsOf,hu]
     show(Op.equalIn (9999+1) kt (.agg _) (.agg _)).run P w=_;rw[run_equalIn_struct (P:=P) w 9999 kt _ _ (by rw[e];exact hu) hs,e];exact wY (p:=[]) (q:=[]) g h1 b rfl rfl 9998 w
    .cases h
 .split at h
  .rename_i k hk;cases h;cases us with
   | nil=>cases h1
   | cons u us=>cases us with
     | cons _ _=>simp at h1
     | nil=>cases vs with
       | nil=>cases b
       | cons v vs=>cases vs with
         | cons _ _=>simp at b
         | nil =>
           simp only[B8,E3,I4,and_true]at h1 b
           have:=HE hk h1 b 9999 w;show(Op.equalIn (9999+1) kt (O8 u) (O8 v)).run P w=_;rw[this];simp[P9]
  .cases h
def tO{t:TypeId}(h:cS P t=some k)(e:Bool)(n:Nat)(v:Value)(w:World):(Instr.checkKey e (n+1) t v).run P w=.ok () w:=by
 unfold cS at h;split at h
 .rename_i hu;simp[Instr.checkKey,A3,C8 hu,Result.andThen]
 .rename_i hu;simp[Instr.checkKey,A3,C8 hu,Result.andThen]
 .rename_i hu;simp[Instr.checkKey,A3,C8 hu,Result.andThen]
 .cases h
def nJ(e:Bool)(n:Nat)(w:World):∀ (L:List Field) (i:Nat) (ks:List Nat) (us:List U) (p:List Value),pU P L i=some ks->us.map F3=ks->p.length=i ->
  (forIn L PUnit.unit fun f (_:PUnit)=>if f.name ≠ "_" then(do let x <- part f.type ⟨p++us.map O8⟩ f.offset;Instr.checkKey e (n+1) f.type x;pure (ForInStep.yield PUnit.unit):Sem (ForInStep PUnit))else pure (ForInStep.yield PUnit.unit)).run P w=.ok PUnit.unit w
 | [],i,ks,us,p,h,h1,hp=>by simp
 | f::fs,i,ks,us,p,h,h1,hp=>by
   unfold pU at h;split at h
   .rename_i t l j s;obtain⟨q,h⟩:=A2 h;cases h;obtain⟨b,a⟩:=B3 q;have a:=A0 a;have o:f.name ≠ "_":=by simpa using b
    cases us with
    | nil=>cases h1
    | cons u us =>
      simp only[B8,I4]at h1;have g1:(p++(u::us).map O8)[f.offset]? = some (O8 u):=by rw[a,<- hp,D5 (A6 _)];simp
      have A:=nY j g1 w;have z:=tO j e n (O8 u) w;have g:=nJ e n w fs (i+1) l us (p++[O8 u]) s h1.2 (by simp[hp]);rw[V6]at g;rw[List.forIn_cons];simp only[B2 o,A3,A,z,Result.andThen_ok,Sem.run_pure];exact g
   .cases h
def xG{a:Bool}(h:kB P kt=some (a,ks))(h1:us.map F3=ks)(e:Bool)(w:World):(Instr.checkKey e 10000 kt (S1 a us)).run P w=.ok () w:=by
 unfold kB at h;split at h
 .rename_i b hu;cases hs:P.stoodInHeld kt with
  | true=>rw[hs]at h;cases h
  | false =>
    rw[hs]at h;simp only[D3]at h;split at h
    .rename_i l f;have h:=h;cases h;have key:∀ n:Nat,(Instr.checkKey e (n+2) kt (.agg ⟨us.map O8⟩)).run P w=.ok () w:=fun n=>by
      rw[Instr.checkKey];simp only[A3,C8 hu,Result.andThen_ok];rw[<- Array.forIn_toList]
      have:=nJ e n w b.toList 0 _ us [] f h1 rfl;rw[Q7]at this;rw[this];rfl
     exact key 9998
    .cases h
 .split at h
  .rename_i k hk;cases h;exact tO hk e 9999 _ w
  .cases h
def jX(k:List U):List (List U)->Nat->Option (Nat×List U)
 | [],_=>none
 | r::rs,i=>if P9 k r then some (i,r)else jX k rs (i+1)
def oF:∀ (us r:List U),P9 us (r.take us.length)=P9 us r
 | [],r=>rfl
 | a::us,[]=>rfl
 | a::us,b::r=>by
   show(isU a b && P9 us (r.take us.length))=(isU a b && P9 us r);rw[oF us r]
def pC.head{e:MapEntry}{es:List MapEntry}(h:pC y (r::rs) (e::es)):(r.map F3=y.ks++y.vs/\e.key=S1 y.ka (r.take y.ks.length)/\e.val=S1 y.va (r.drop y.ks.length))/\pC y rs es :=
 ⟨h.2 0 r e rfl rfl,by have:=h.1;simpa using this,fun i row b h1 a=>h.2 (i+1) row b (by simpa using h1) (by simpa using a)⟩
def vH(h:r.map F3=y.ks++y.vs):(r.take y.ks.length).map F3=y.ks/\(r.drop y.ks.length).map F3=y.vs:=by
 constructor
 .rw[List.map_take,h,List.take_left'];rfl
 .rw[List.map_drop,h,List.drop_left'];rfl
abbrev uU(y:MTy)(us:List U)(rows:List (List U))(i:Nat):Option (Nat×Value):=(jX us rows i).map fun p=>(p.1,S1 y.va (p.2.drop y.ks.length))
def xU{y:MTy}(hk:kB P y.kt=some (y.ka,y.ks)){us:List U}(h1:us.map F3=y.ks):∀ {rows:List (List U)} {es:List MapEntry} (i:Nat),pC y rows es->(Instr.findAsking y.kt (S1 y.ka us) es i).run P w=.ok (uU y us rows i) w
 | [],[],i,_=>by simp[Instr.findAsking,uU,jX]
 | [],_::_,i,h=>by have:=h.1;simp at this
 | _::_,[],i,h=>by have:=h.1;simp at this
 | r::rs,e::es,i,h=>by
   obtain⟨⟨a,b,c⟩,d⟩:=h.head;obtain⟨t1,t2⟩:=vH a;have hlen:us.length=y.ks.length:=by rw[<- h1,E8]
   have j:=A0B (P:=P) hk h1 t1 w;have g:P9 us (r.take y.ks.length)=P9 us r:=by rw[<- hlen];exact oF us r
   have f:=xU hk h1 (i+1) d;unfold Instr.findAsking;rw[b];simp only[A3,j,g,Result.andThen_ok,uU,jX];cases n:P9 us r with
   | true=>simp[c]
   | false=>simp only[G8,if_false];exact f
def OU{y:MTy}{k:Nat}{d:TypeDesc}(j:P.underlying y.kt=some d)(hs:cS P y.kt=some k)(n:y.ka=false)(f:y.ks=[k]){u:U}(h1:F3 u=k):∀ {rows:List (List U)} {es:List MapEntry} (i:Nat),pC y rows es->Instr.findNow d (O8 u) es i=some (uU y [u] rows i)
 | [],[],i,_=>rfl
 | [],_::_,i,h=>by have:=h.1;simp at this
 | _::_,[],i,h=>by have:=h.1;simp at this
 | r::rs,e::es,i,h=>by
   obtain⟨⟨a,b,c⟩,o⟩:=h.head;cases r with
   | nil=>rw[f]at a;simp at a
   | cons g r =>
     have a0:F3 g=k:=by rw[f]at a;simp at a;exact a.1
     have b:e.key=O8 g:=by rw[b,n,f];rfl
     have p:=NJ j hs h1 a0;have q:=OU j hs n f h1 (i+1) o;unfold Instr.findNow;rw[b,p];simp only[uU,jX,P9,kI];cases s:isU u g with
     | true=>simp[c]
     | false=>simp only[G8,if_false];exact q
def tA(hk:kB P y.kt=some (y.ka,y.ks))(h1:us.map F3=y.ks){es:List MapEntry}(h:pC y rows es):(Instr.findKey y.kt (S1 y.ka us) es).run P w=.ok (uU y us rows 0) w:=by
 have e:=hk;unfold kB at hk;split at hk
 .rename_i g hu;rw[run_findKey_eq w (by rw[hu]) (S1 y.ka us) es];exact xU e h1 0 h
 .split at hk
  .rename_i k hs;have f:y.ka=false:=(U8 Prod.fst (A5 hk)).symm;have a:y.ks=[k]:=(U8 Prod.snd (A5 hk)).symm;rw[a]at h1;cases us with
   | nil=>simp at h1
   | cons u us=>cases us with
     | cons _ _=>simp at h1
     | nil =>
       simp only[B8,E3,I4,and_true]at h1;obtain⟨d,b⟩:∃ d,P.underlying y.kt=some d:=by
        cases b:P.underlying y.kt with
        | some d=>exact⟨d,rfl⟩
        | none=>unfold cS at hs;rw[b]at hs;cases hs
       rw[f];exact MapKept.run_findKey b (OU b hs f a h1 0 h)
  .cases hk
def CV{k:List U}:∀ (rows:List (List U)) (i:Nat),(jX k rows i).isSome=rows.any (P9 k)
 | [],_=>rfl
 | r::rs,i=>by
   simp only[jX,Z8];cases P9 k r with
   | true=>rfl
   | false=>simp only[G8,if_false,R6];exact CV rs (i+1)
def wP{k:List U}:∀ (rows:List (List U)) (i:Nat),(jX k rows i).map (·.2)=rows.find? (P9 k)
 | [],_=>rfl
 | r::rs,i=>by
   simp only[jX,aP];cases P9 k r with
   | true=>rfl
   | false=>simp only[G8,if_false];exact wP rs (i+1)
def mS{k:List U}:∀ {rows:List (List U)} {i j:Nat} {r:List U},jX k rows i=some (j,r)->i<=j/\rows[j-i]? = some r/\P9 k r=true
 | [],_,_,_,h=>by cases h
 | x::rs,i,j,r,h=>by
   unfold jX at h;cases e:P9 k x with
   | true=>rw[e]at h;cases h;exact⟨A6 _,by simp,e⟩
   | false =>
     rw[e]at h;obtain⟨a,b,c⟩:=mS (rows:=rs) h;exact⟨A9,by rw[show j-i=(j-(i+1))+1 by omega];exact b,c⟩
def BO{kw:Nat}{c:List U}:∀ (rows:List (List U)) (i:Nat),BP kw c rows=match jX (c.take kw) rows i with
  | some p=>rows.set (p.1-i) c
  | none=>rows++[c]
 | [],_=>rfl
 | r::rs,i=>by
   unfold BP jX;cases e:P9 (c.take kw) r with
   | true=>simp
   | false =>
     simp only[G8,if_false];rw[BO rs (i+1)];cases b:jX (c.take kw) rs (i+1)with
     | none=>rfl
     | some p =>
       obtain⟨a,_⟩:=mS (r:=p.2) (j:=p.1) b;show r::rs.set (p.1-(i+1)) c=(r::rs).set (p.1-i) c;rw[show p.1-i=(p.1-(i+1))+1 by omega];rfl
theorem mQ{b:Nat}{v':Value}(h:VR ρ (.map (some b)) v'):∃ l,ρ b=some l/\v'=.map (some l.blk):=by
 cases h with
 | pure hp=>simp[H3]at hp
 | map h=>exact⟨_,h,rfl⟩
def UF{T:TypeId}(h:HR P base ρ m.H w)(s:base<=w.heap.size)(a:OY P m T=some (v,m'))(j:I2 ρ m.n m'.hi)(x:Sat m'.lg):VOk P base ρ m w (Instr.makeMap T none) v m':=by
 unfold OY at a;split at a
 .rename_i y o;rw[L6]at a;have f:=o8 a;have q:=fU (lg:=m'.lg) x (by rw[f];exact .refl _);obtain⟨t,A,u,wd,rows,z⟩:=q;have g:Ora.env m.lg.nx=.seq false y.w []:=by
   have hw:0<y.w:=by have:=(yW o).2.2.2.1;unfold MTy.w;omega
   rw[t];show(if y.w=0 then U.none else match Y5 y.w (0 / y.w) []with
    | some r=>U.seq false y.w r
    | none=>.none)=_
   rw[B1 A9,Nat.zero_div];rfl
  have b:=St.wLg h (cN m (10+y.w) (.mk y.w) []);obtain⟨h1,p,h3⟩:=St.alloc (w':={ w with heap:=w.heap.push (.map #[] 0) }) (l:=lc w.heap.size 0 0) b.hr s a (by rw[MG];exact j) ⟨rfl,rfl,rfl⟩ rfl rfl
   ⟨⟨rfl,rfl⟩,y,#[],0,[],o,.inl rfl,by simp,g,⟨rfl,fun i row e hr=>by simp at hr⟩,iT,fun e he=>by cases he⟩
  refine⟨.map (some w.heap.size),_,_,?_,?_,St.trans j b h3⟩
  .simp[Instr.makeMap,newObj,Sem.run,A3,Result.andThen]
  .rw[h1];exact .map p
 .cases a
def eA{t:Nat}{op:LOp}(h:Q2 m t op xs=some (v,m'))(i:Sat m'.lg):t<10/\F3 (evU op (xs.map (D4 Ora.env)))=t/\VR ρ v (O8 (evU op (xs.map (D4 Ora.env)))):=by
 obtain⟨u,g,f,r,b,a,e⟩:=K2 h i;subst g;refine⟨e,f,?_⟩;have:O8 (evU op (xs.map (D4 Ora.env)))=r:=by unfold O8;rw[b];rfl
 rw[this];exact a ρ
def wS{wd kw c t:Nat}{b:D0}{q:Bool}{rows:List (List U)}(u:Ora.env c=.seq q wd rows)(A:b.length=kw):∀ {ts:F8} {f:D0} {j:Nat} {m m':Mem} {hs:D0},oQ wd kw c t b ts f j m=some (hs,m')->Sat m'.lg ->
  I1 m m'/\m.lg.le m'.lg/\hs.length=ts.length/\f.length=ts.length /\
  (∀ r,rows.find? (P9 (b.map (D4 Ora.env)))=some r->∀ i:Nat,i<ts.length->∃ v,hs[i]? = some v/\VR ρ v (O8 (r.getD (j+i) .none))) /\
  (rows.find? (P9 (b.map (D4 Ora.env)))=none->∀ i:Nat,i<ts.length->∃ v z,hs[i]? = some v/\f[i]? = some z/\VR ρ v (O8 (D4 Ora.env z)))
 | [],[],j,m,m',hs,h,hS=>by
   cases h;exact⟨.refl _,.refl _,rfl,rfl,fun r _ i hi=>(by simp at hi),fun _ i hi=>(by simp at hi)⟩
 | [],_::_,j,m,m',hs,h,hS=>by cases h
 | _::_,[],j,m,m',hs,h,hS=>by cases h
 | tg::ts,z::f,j,m,m',hs,h,hS=>by
   unfold oQ at h;split at h
   .rename_i v m1 s;split at h
    .rename_i r m2 hr;cases h;obtain⟨C,a2,a3,a4,a5,E⟩:=wS u A hr hS;have n:Sat m1.lg:=hS.le a2;obtain⟨_,_,a⟩:=eA (ρ:=ρ) s n;have g:evU (.mget wd kw j) ((hole c t::z::b).map (D4 Ora.env))=(match rows.find? (P9 (b.map (D4 Ora.env)))with
       | some r=>r.getD j .none
       | none=>D4 Ora.env z):=by
      show evU (.mget wd kw j) (Ora.env c::D4 Ora.env z::b.map (D4 Ora.env))=_;rw[u];show(if wd=wd/\(b.map (D4 Ora.env)).length=kw then _ else U.none)=_;rw[B2 ⟨rfl,by rw[E8];exact A⟩];cases rows.find? (P9 (b.map (D4 Ora.env)))<;>rfl
     rw[g]at a;refine⟨(F9 s).trans C,(G2 s).trans a2,by simp[a3],by simp[a4],fun D e i hi=>?_,fun e i hi=>?_⟩
     .cases i with
      | zero=>rw[e]at a;exact⟨v,rfl,a⟩
      | succ i =>
        obtain⟨x,p,o⟩:=a5 D e i (by simpa using hi);exact⟨x,by simpa using p,by rw[show j+(i+1)=j+1+i by omega];exact o⟩
     .cases i with
      | zero=>rw[e]at a;exact⟨v,z,rfl,rfl,a⟩
      | succ i =>
        obtain⟨x,F,p,o,B⟩:=E e i (by simpa using hi);exact⟨x,F,by simpa using p,by simpa using o,B⟩
    .cases h
   .cases h
def YM{vs:D0}(j:hs.length=vs.length)(h:∀ i:Nat,i<vs.length->∃ v v',hs[i]? = some v/\vs[i]? = some v'/\VR ρ v v'):LR ρ hs vs:=⟨j,fun i v v' h1 e=>by
 obtain⟨a,b,g,f,n⟩:=h i (A7.1 e).1;rw[h1]at g;rw[e]at f;cases g;cases f;exact n⟩
def SR{a:Bool}(h:SS a hs=some v)(b:LR ρ hs (us.map O8)):VR ρ v (S1 a us):=by
 unfold SS at h;split at h
 .cases h;exact .agg b.1 b.2
 .cases h;cases us with
  | nil=>have:=b.1;simp at this
  | cons u us =>
    obtain⟨v',r,e,g,_⟩:=b.tail;rw[B8,I4]at e;rw[<- e.1]at g;exact g
 .cases h
def LB{T:TypeId}{x k:Value}{ok:Bool}(h:HR P base ρ m.H w)(o:sM P m T x k ok=some (v,m'))(hx:VR ρ x x')(hk:VR ρ k k')(hS:Sat m'.lg):VOk P base ρ m w (Instr.lookup T x' k' ok) v m':=by
 unfold sM at o;split at o
 .rename_i r y hy;obtain⟨hu,E,au,ay,O,L,ax⟩:=yW hy;obtain⟨l,hl,rfl⟩:=mQ hx;split at o
  .rename_i c t T2 f z hg W hz;obtain⟨hT,a⟩:=A2 o;clear o;have hT:=A0 hT;subst hT;split at a
   .rename_i zc X;split at a
    .rename_i hs m1 K;split at a
     .rename_i v1 hv;obtain⟨⟨⟨av,aw⟩,y2,es,clock,rows,g1,g2,g3,g4,g5,g6⟩,_⟩:=h.atl hl hg;rw[hy]at g1;have g1:=A5 g1;subst g1;obtain⟨k1,k2⟩:=fE W O hk;have Y:VR ρ z z:=.ofC (rB hz).choose_spec.2.2;obtain⟨z1,z2⟩:=fE X L Y;have C:f.length=y.ks.length:=by rw[<- k2];simp
      have S:Sat m1.lg:=by
       cases ok with
       | false=>cases a;exact hS
       | true =>
         simp only[D7]at a;split at a
         .rename_i J;cases a;exact hS.le (G2 J)
         .cases a
      obtain⟨a1,a2,a3,a4,a5,a6⟩:=wS (ρ:=ρ) g4 C K S;have D:=tA (P:=P) (w:=w) E k2 g5;have s:=xG (P:=P) E k2 es.isEmpty w;have j:=wP (k:=f.map (D4 Ora.env)) rows 0;have u:∀ {us:List U},LR ρ hs (us.map O8)->VR ρ v1 (S1 y.va us):=fun g=>SR hv g
      have G:∃ val,VR ρ v1 val/\(Instr.lookup T2 (.map (some l.blk)) k' ok).run P w=.ok (if ok then .tuple #[val,.bool (rows.any (P9 (f.map (D4 Ora.env))))]else val) w:=by
       have I:(getObj l.blk).run P w=.ok (.map es clock) w:=by simp[getObj,Sem.run,g3]
       have e:=CV (k:=f.map (D4 Ora.env)) rows 0;cases F:jX (f.map (D4 Ora.env)) rows 0 with
       | none =>
         rw[F]at j e;have g:LR ρ hs ((zc.map (D4 Ora.env)).map O8):=YM (by rw[a3,E8,E8,a4]) fun i hi=>by
          have Q:i<y.vs.length:=by rw[E8,E8,a4]at hi;exact hi
          obtain⟨V,z',N,M,e3⟩:=a6 j.symm i Q;exact⟨V,_,N,by rw[F4,F4,M];rfl,e3⟩
         refine⟨z,by rw[z1];exact u g,?_⟩;have e:rows.any (P9 (f.map (D4 Ora.env)))=false:=e.symm;rw[k1];simp only[Instr.lookup,A3,C8 hu,Result.andThen_ok,I,s,D,uU,F,fZ,m9 hz,Sem.run_pure,e]
       | some p =>
         obtain⟨pi,q⟩:=p;rw[F]at j e;obtain⟨_,q1,q2⟩:=mS F;have q1:rows[pi]? = some q:=by simpa using q1
         have Z:pi<es.toList.length:=by rw[<- g5.1];exact(A7.1 q1).1
         obtain⟨t1,t2,t3⟩:=g5.2 pi q es.toList[pi] q1 (A4 Z);have az:q.length=y.ks.length+y.vs.length:=by
          have:=U8 List.length t1
          simpa using this
         have g:LR ρ hs ((q.drop y.ks.length).map O8):=YM (by rw[a3,E8,S7];omega) fun i hi=>by
          rw[E8,S7]at hi;obtain⟨V,N,M⟩:=a5 q j.symm i A9;refine⟨V,_,N,?_,M⟩;rw[F4,G4,A4 A9,I3,B9,A4 A9];rfl
         refine⟨S1 y.va (q.drop y.ks.length),u g,?_⟩;have e:rows.any (P9 (f.map (D4 Ora.env)))=true:=e.symm;rw[k1];simp only[Instr.lookup,A3,C8 hu,Result.andThen_ok,I,s,D,uU,F,I3,Sem.run_pure,e]
      obtain⟨val,A,n⟩:=G;cases ok with
      | false =>
        cases a;obtain⟨lg,rfl⟩:=a1;exact⟨val,ρ,w,n,A,St.wLg h lg⟩
      | true =>
        simp only[D7]at a;split at a
        .rename_i b m2 J;cases a;obtain⟨_,_,B⟩:=eA (ρ:=ρ) J hS;have R:evU (.mhas y.w y.ks.length) ((hole c t::f).map (D4 Ora.env))=.bool (rows.any (P9 (f.map (D4 Ora.env)))):=by
          show evU (.mhas y.w y.ks.length) (Ora.env c::f.map (D4 Ora.env))=_;rw[g4];show(if y.w=y.w/\(f.map (D4 Ora.env)).length=y.ks.length then _ else U.none)=_;rw[B2 ⟨rfl,by rw[E8];exact C⟩]
         rw[R]at B;obtain⟨lg,rfl⟩:=a1.trans (F9 J);refine⟨.tuple #[val,.bool (rows.any (P9 (f.map (D4 Ora.env))))],ρ,w,n,?_,St.wLg h lg⟩
         have:=LR.cons A (LR.cons B LR.nil);exact .tuple this.1 this.2
        .cases a
     .cases a
    .cases a
   .cases a
  .cases o
 .cases o
def NE{i:Nat}{c:List U}(h:pC y rows es.toList)(f:c.map F3=y.ks++y.vs)(h1:e'.key=S1 y.ka (c.take y.ks.length))(b:e'.val=S1 y.va (c.drop y.ks.length))(a:es'.toList=es.toList.set i e'):pC y (rows.set i c) es'.toList:=by
 rw[a];refine⟨by rw[gC,gC];exact h.1,fun j row e hr he=>?_⟩;rw[List.getElem?_set]at hr he;by_cases q:i=j
 .subst q;rw[B2 rfl]at hr he;split at hr
  .cases hr;split at he
   .cases he;exact⟨f,h1,b⟩
   .cases he
  .cases hr
 .rw[B1 q]at hr he;exact h.2 j row e hr he
def OI{k:Value}(h:qC es.toList clock):qC (es.push ⟨k,v,clock⟩).toList (clock+1):=by
 obtain⟨h1,a⟩:=h;rw[Array.toList_push];refine⟨?_,fun e he=>?_⟩
 .rw[M5,dE];refine⟨h1,by simp,fun x g y f b=>?_⟩;simp only[B8,E3,G6]at f;obtain⟨e,he,rfl⟩:=I6.1 g
  have:=a e he;omega
 .rcases B7.1 he with he|he
  .have:=a e he;omega
  .rw[G6.1 he];show clock<clock+1;omega
def FM{f:MapEntry->Value×Value}(h:qC es.toList clock):qC (es.modify pi fun e=>{ e with key:=(f e).1,val:=(f e).2 }).toList clock:=by
 obtain⟨h1,i⟩:=h;have g:(es.modify pi fun e=>{ e with key:=(f e).1,val:=(f e).2 }).toList.map (·.born)=es.toList.map (·.born):=by
  apply V5;intro j;rw[F4,F4,M7,F1,M7];by_cases b:pi=j
  .rw[B2 b];cases es[j]?<;>rfl
  .rw[B1 b]
 refine⟨by rw[g];exact h1,fun e he=>?_⟩;have:e.born ∈ es.toList.map (·.born):=by rw[<- g];exact aU he
 obtain⟨x,n,a⟩:=I6.1 this;rw[<- a];exact i x n
def KW{c:List U}(h:pC y rows es.toList)(g:c.map F3=y.ks++y.vs)(h1:e'.key=S1 y.ka (c.take y.ks.length))(f:e'.val=S1 y.va (c.drop y.ks.length)):pC y (rows++[c]) (es.push e').toList:=by
 rw[Array.toList_push];refine⟨by rw[G7,G7,h.1];rfl,fun j row e hr he=>?_⟩;rw[List.getElem?_append]at hr he;rw[h.1]at hr;split at he
 .rename_i a;rw[B2 a]at hr;exact h.2 j row e hr he
 .rename_i a;rw[B1 a]at hr;cases b:j-es.toList.length with
  | zero =>
    rw[b]at hr he;cases hr;cases he;exact⟨g,h1,f⟩
  | succ n=>rw[b]at hr;cases hr
def ER{u v:U}(h1:F3 u<10)(h:isU u v=true):u=v:=by
 unfold isU at h;cases u with
 | int k a =>
   cases v with
   | int j b =>
     simp only[eqU]at h;by_cases e:k=j
     .subst e;rw[B2 rfl]at h;have h:(a == b)=true:=h;rw[eq_of_beq h]
     .rw[B1 e]at h;cases h
   | _=>simp[eqU]at h
 | bool a =>
   cases v with
   | bool b =>
     have h:(a == b)=true:=h;rw[eq_of_beq h]
   | _=>simp[eqU]at h
 | str a =>
   cases v with
   | str b =>
     have h:(a == b)=true:=h;rw[eq_of_beq h]
   | _=>simp[eqU]at h
 | seq _ _ _=>simp only[F3]at h1;omega
 | none=>simp only[F3]at h1;omega
def rS:∀ {us vs:List U},us.map F3=vs.map F3->(∀ t ∈ us.map F3,t<10)->P9 us vs=true->us=vs
 | [],[],_,_,_=>rfl
 | [],_::_,h,_,_=>by cases h
 | _::_,[],h,_,_=>by cases h
 | u::us,v::vs,h,ht,hk=>by
   obtain⟨a,b⟩:=B3 (show(isU u v && P9 us vs)=true from hk);simp only[B8,I4]at h;rw[ER (ht _ B4) a,rS h.2 (fun t q=>ht t (C5 _ q)) b]
def xN{u:U}(h:F3 u<10)(n:Nat):Instr.sameBits n (O8 u) (O8 u)=true:=by
 cases u with
 | int k a=>cases n<;>simp[O8,toV,Instr.sameBits]
 | bool b=>cases n<;>simp[O8,toV,Instr.sameBits]
 | str s=>cases n<;>(simp only[O8,toV,X9,Instr.sameBits];show(Array.mk s == Array.mk s)=true;simp)
 | seq _ _ _=>simp only[F3]at h;omega
 | none=>simp only[F3]at h;omega
def LS{a:Bool}(h:∀ t ∈ us.map F3,t<10)(b:a=false->us≠[])(n:Nat):Instr.sameBits (n+1) (S1 a us) (S1 a us)=true:=by
 cases a with
 | true =>
   simp only[S1,Instr.sameBits,H6,beq_self_eq_true,true_and,D2];intro p hp;obtain⟨i,hi,he⟩:=List.mem_iff_getElem.1 hp;simp only[List.getElem_zip,List.getElem_map]at he;subst he;exact xN (h _ (I6.2 ⟨_,L5 _,rfl⟩)) n
 | false =>
   cases us with
   | nil=>exact absurd rfl (b rfl)
   | cons u us=>exact xN (h _ B4) _
def BK{T:TypeId}{x k e e':Value}(h:HR P base ρ m.H w)(hb:base<=w.heap.size)(K:vZ P m T x k e=some (v,m'))(hf:I2 ρ m.n m'.hi)(hx:VR ρ x x')(hk:VR ρ k k')(he:VR ρ e e')(hS:Sat m'.lg):v=undef/\UOk P base ρ m w (Instr.mapUpdate T x' k' e') m':=by
 unfold vZ at K;split at K
 .rename_i r y hy;obtain⟨hu,Y,ae,ag,G,aq,af⟩:=yW hy;obtain⟨l,hl,rfl⟩:=mQ hx;split at K
  .rename_i c t Q i u hg ak an;obtain⟨hT,z⟩:=A2 K;clear K;obtain⟨hT,aw⟩:=B3 hT;have aw:t<1000:=A1 aw;have hT:=A0 hT;subst hT;rw[L6]at z;unfold FN at z;split at z
   .rename_i m2 U4;cases z;have al:=aY U4;obtain⟨e1,e2,ad,wd,ai,e3⟩:=fU (lg:=m'.lg) hS (by rw[al];exact .refl _);obtain⟨⟨⟨S,ar⟩,y2,es,clock,rows,g1,g2,g3,g4,g5,g6⟩,_⟩:=h.atl hl hg;rw[hy]at g1;have g1:=A5 g1;subst g1;obtain⟨J,D⟩:=fE ak G hk;obtain⟨v1,v2⟩:=fE an aq he;have B:i.length=y.ks.length:=by rw[<- D];simp
    have aj:u.length=y.vs.length:=by rw[<- v2];simp
    have ah:((i++u).map (D4 Ora.env)).length=y.w:=by rw[E8,G7,B,aj];rfl
    have N:((i++u).map (D4 Ora.env)).map F3=y.ks++y.vs:=by rw[M5,M5,D,v2]
    have A:((i++u).map (D4 Ora.env)).take y.ks.length=i.map (D4 Ora.env):=by rw[M5,List.take_left' (by rw[E8];exact B)]
    have C:((i++u).map (D4 Ora.env)).drop y.ks.length=u.map (D4 Ora.env):=by rw[M5,List.drop_left' (by rw[E8];exact B)]
    have o:Ora.env m.lg.nx=.seq false y.w (BP y.ks.length ((i++u).map (D4 Ora.env)) rows):=by
     rw[e1];show evU (.mput y.w y.ks.length) (Ora.env c::(i++u).map (D4 Ora.env))=_;rw[g4];show(if y.w=y.w/\((i++u).map (D4 Ora.env)).length=y.w then _ else U.none)=_;rw[B2 ⟨rfl,ah⟩]
    rw[BO _ 0,A]at o;have ay:(getObj l.blk).run P w=.ok (.map es clock) w:=by simp[getObj,Sem.run,g3]
    have X:=tA (P:=P) (w:=w) Y D g5;have M:=xG (P:=P) Y D false w;have az:=St.wLg h (cN m t (.mput y.w y.ks.length) (hole c t::(i++u)));have au:Hp.get (m.wLg (cN m t (.mput y.w y.ks.length) (hole c t::(i++u)))).H r=some (.mp c t Q):=by rw[gK];exact hg
    have s:l.blk<w.heap.size:=(B5.1 g3).1;refine⟨rfl,?_⟩;have av:∀ (g:Array MapEntry) (a:Nat),(setObj l.blk (.map g a)).run P w=.ok () { w with heap:=w.heap.set l.blk (.map g a) s }:=fun g a=>by
     have R:w.heap[l.blk]=.map es clock:=by
      have q:=g3;rw[E0 s]at q;exact A5 q
     simp[setObj,Sem.run,R,Array.setIfInBounds,s]
    have fin:∀ (g:Array MapEntry) (a:Nat) (b:List (List U)),Ora.env m.lg.nx=.seq false y.w b->pC y b g.toList->qC g.toList a->(Instr.mapUpdate Q (.map (some l.blk)) k' e').run P w=.ok () { w with heap:=w.heap.set l.blk (.map g a) s }->UOk P base ρ m w (Instr.mapUpdate Q (.map (some l.blk)) k' e') m':=fun g a b q1 q2 q4 q3=>by
     refine⟨ρ,_,q3,St.trans hf az (St.write (ab:=.mp c t Q) (ab':=.mp m.lg.nx t Q) az.hr U4 au rfl hl S ⟨rfl,rfl,rfl⟩ (by simp) (fun j hj=>?_) ?_)⟩
     .show(w.heap.set l.blk _ s)[j]? = _;rw[g9,B1 (fun e=>hj e.symm)]
     .refine⟨⟨S,ar⟩,y,g,a,b,hy,.inl (g2.resolve_right fun q=>by have:=q.1;omega),?_,q1,q2,q4⟩;show(w.heap.set l.blk _ s)[l.blk]? = _;rw[g9,B2 rfl]
    cases hq:jX (i.map (D4 Ora.env)) rows 0 with
    | none =>
      rw[hq]at o;refine fin (es.push ⟨k',e',clock⟩) (clock+1) _ o (KW g5 N (by rw[A];exact J) (by rw[C];exact v1)) (OI g6) ?_;rw[J];simp only[Instr.mapUpdate,A3,C8 hu,Result.andThen_ok,ay,M,X,uU,hq,fZ,av]
    | some p =>
      obtain⟨pi,L⟩:=p;rw[hq]at o;have o:Ora.env m.lg.nx=.seq false y.w (rows.set pi ((i++u).map (D4 Ora.env))):=o;obtain⟨_,q1,q2⟩:=mS hq;have q1:rows[pi]? = some L:=by simpa using q1
      have I:pi<es.toList.length:=by rw[<- g5.1];exact(A7.1 q1).1
      obtain⟨t1,t2,t3⟩:=g5.2 pi L es.toList[pi] q1 (A4 I);obtain⟨ao,_⟩:=vH t1;have E:i.map (D4 Ora.env)=L.take y.ks.length:=by
       refine rS (by rw[D,ao]) (by rw[D];exact G) ?_
       have:=oF (i.map (D4 Ora.env)) L;rw[E8,B]at this;rw[this];exact q2
      have ax:pi<es.size:=by simpa using I
      refine fin (es.modify pi fun e2=>{ e2 with key:=k',val:=e' }) clock _ o (NE (e':=⟨k',e',(es[pi]).born⟩) g5 N (by rw[A];exact J) (by rw[C];exact v1) ?_) (FM (f:=fun _=>(k',e')) g6) ?_
      .apply V5;intro j;rw[M7,F1,List.getElem?_set];by_cases hj:pi=j
       .subst hj;rw[B2 rfl,B2 rfl,B2 I,E0 ax];rfl
       .rw[B1 hj,B1 hj];simp
      .have Z:((es[pi]?).map (·.key)).getD k'=k':=by
        rw[E0 ax];show es[pi].key=k';have t2:es[pi].key=S1 y.ka (L.take y.ks.length):=t2;rw[t2,<- E,J]
       have F:Instr.sameBits 10000 k' k'=true:=by
        rw[J];exact LS (by rw[D];exact G) (fun _ q=>by have:=U8 List.length D;rw[q]at this;simp at this;omega) 9999
       have V:(Instr.keyThatStays k' k').run P w=.ok k' w:=by
        simp only[Instr.keyThatStays,F,if_true,Sem.run_pure]
       have W:(Instr.findKey y.kt k' es.toList).run P w=.ok (some (pi,S1 y.va (L.drop y.ks.length))) w:=by
        rw[J,X];simp[uU,hq]
       have O:(Instr.checkKey false 10000 y.kt k').run P w=.ok () w:=by rw[J];exact M
       simp only[Instr.mapUpdate,A3,C8 hu,Result.andThen_ok,ay,O,W,Z,V,av]
   .cases z
  .cases K
 .cases K
def PH{T:TypeId}{x:Value}(h:HR P base ρ m.H w)(a:CM P m T x=some (v,m'))(f:VR ρ x x')(o:Sat m'.lg):VOk P base ρ m w (Builtin.len_ ⟨T::tys⟩ ty #[x']) v m':=by
 unfold CM at a;split at a
 .rename_i kt p r hu;obtain⟨l,j,rfl⟩:=mQ f;split at a
  .rename_i c t s n;obtain⟨⟨⟨g,i⟩,q,es,clock,rows,g1,g2,g3,g4,g5,g6⟩,_⟩:=h.atl j n;obtain⟨q1,⟨lg,rfl⟩,_,_⟩:=iA (ρ:=ρ) a g4 o;have b:(getObj l.blk).run P w=.ok (.map es clock) w:=by simp[getObj,Sem.run,g3]
   refine⟨_,ρ,w,?_,q1,St.wLg h lg⟩
   have:=g5.1;have e:es.size=rows.length:=by rw[this];simp
   simp[Builtin.len_,A3,C8 hu,Result.andThen,goInt,b,e]
  .cases a
 .cases a
def UG{T:TypeId}(a:OY P m T=some (v,m')):m.lg.le m'.lg:=by
 unfold OY at a;split at a
 .rw[L6]at a;rw[o8 a];exact S0
 .cases a
def oP{wd kw c t:Nat}{b:D0}:∀ {ts:F8} {a:D0} {j:Nat} {m m':Mem} {hs:D0},oQ wd kw c t b ts a j m=some (hs,m')->m.lg.le m'.lg
 | [],[],j,m,m',hs,h=>by cases h;exact .refl _
 | [],_::_,j,m,m',hs,h=>by cases h
 | _::_,[],j,m,m',hs,h=>by cases h
 | tg::ts,z::a,j,m,m',hs,h=>by
   unfold oQ at h;split at h
   .rename_i e;split at h
    .rename_i hr;cases h;exact(G2 e).trans (oP hr)
    .cases h
   .cases h
def LD{T:TypeId}{x k:Value}{ok:Bool}(a:sM P m T x k ok=some (v,m')):m.lg.le m'.lg:=by
 unfold sM at a;split at a
 .split at a
  .obtain⟨_,a⟩:=A2 a;split at a
   .split at a
    .rename_i b;split at a
     .cases ok with
      | false=>cases a;exact oP b
      | true =>
        simp only[D7]at a;split at a
        .rename_i e;cases a;exact(oP b).trans (G2 e)
        .cases a
     .cases a
    .cases a
   .cases a
  .cases a
 .cases a
def BL{T:TypeId}{x k e:Value}(a:vZ P m T x k e=some (v,m')):m.lg.le m'.lg:=by
 unfold vZ at a;split at a
 .split at a
  .obtain⟨_,a⟩:=A2 a;rw[L6]at a;unfold FN at a;split at a
   .rename_i U4;cases a;rw[aY U4];exact S0
   .cases a
  .cases a
 .cases a
def PI{T:TypeId}{x:Value}(a:CM P m T x=some (v,m')):m.lg.le m'.lg:=by
 unfold CM at a;split at a
 .split at a
  .exact(u6 a).2
  .cases a
 .cases a
end
end
section
open Go
variable [Ora]
section
variable {P:Program} {base:Nat} {ρ:Ren} {m m':Mem} {w:World}
omit [Ora] in
def DW{G:Nat->Option Obj}:∀ {us:List U} {s:List UInt8} {vs:D0},uY us=some s->W7 G us vs->∃ e:List Int,vs=e.map (Value.int .u8)/\s=e.map fun n=>UInt8.ofNat n.toNat
 | [],s,vs,h,he=>by
   cases h;have:vs=[]:=D9.1 he.1.symm;subst this;exact⟨[],rfl,rfl⟩
 | u::us,s,vs,h,he=>by
   unfold uY at h;split at h
   .rename_i heq;cases heq
   .rename_i n r heq;cases heq;split at h
    .split at h
     .rename_i l j;cases h;cases vs with
      | nil=>have:=he.1;simp at this
      | cons v f =>
        obtain⟨e,p,o⟩:=DW (vs:=f) j ⟨by have:=he.1;simpa using this,fun i a b h1 g=>he.2 (i+1) a b (by simpa using h1) (by simpa using g)⟩
        have:=jO (he.2 0 _ v rfl rfl) rfl;subst this;exact⟨(Int.ofNat n)::e,by rw[p];rfl,by rw[o];rfl⟩
     .cases h
    .cases h
   .cases h
def AW{t:TypeId}{n:Nat}(h:F6 P t=some n):∃ inf,P.info? t=some inf/\inf.size=n:=by
 unfold F6 at h;cases hi:P.info? t with
 | none=>rw[hi]at h;cases h
 | some inf=>rw[hi]at h;exact⟨inf,rfl,A5 h⟩
def AZ(d:Nat)(t:TypeId):sameLayout P (d+1) t t=true:=by simp[sameLayout]
def QR:∃ d,P.depth=d+1:=⟨2*(P.types.size+Made.depth)+1,rfl⟩
def FQ{T:TypeId}{n off:Nat}(hs:P.cellsOf T≠0)(hr:off%P.cellsOf T=0)(b:off / P.cellsOf T+1<=n):liesAt P P.depth T n off T 1=true:=by
 obtain⟨d,a⟩:=QR (P:=P);have h1:rowAt P (sameLayout P P.depth · T) P.depth T n off 1=true:=by
  rw[a];unfold rowAt;simp only[hs,if_false,hr,AZ];simp[b]
 rw[a]at h1 ⊢;unfold liesAt;rw[a,h1];rfl
def QW{s t:TypeId}{x:Value}(h:HR P base ρ m.H w)(g:IY P m s t x=some (v,m'))(B:VR ρ x x'):VOk P base ρ m w (convert s t x') v m':=by
 unfold IY at g;split at g
 .rename_i e b o hs J;obtain⟨l,E,_,rfl⟩:=K9 B;split at g
  .rename_i k cs T ro z F;obtain⟨A,g⟩:=A2 g;have A:o<cs.length:=A1 A;cases g;obtain⟨inf,a,hk⟩:=AW z;obtain⟨⟨p,C,fz,i,h1,L,_⟩,_⟩:=h.atl E F;obtain⟨v',h3,_⟩:=L o cs[o] (A4 A);have G:l.sh+o<C.size:=(B5.1 h3).1;exact VOk.same h (Lib.run_to_unsafe w ⟨l.blk,o+l.sh,none⟩ hs J a A9 (show w.shape? l.blk=some (i,C.size) by simp[World.shape?,h1]) (by show o+l.sh<C.size;omega)) B
  .cases g
 .rename_i u b hs J;obtain⟨l,E,_,rfl⟩:=K9 B;split at g
  .rename_i k cs T z F;obtain⟨K,f⟩:=A2 g;clear g;obtain⟨q1,q2⟩:=B3 K;have q1:=A0 q1;have q2:=A0 q2;clear K;subst q1;cases f;obtain⟨inf,a,hk⟩:=AW z;obtain⟨⟨p,C,fz,i,h1,L,h3⟩,_⟩:=h.atl E F;obtain⟨rfl,_,Q⟩:=h3 rfl;obtain⟨_,I⟩:=Q inf a;have D:P.cellsOf i=k+1:=by unfold Program.cellsOf;rw[a];exact hk
   have q:k<cs.length:=A9;obtain⟨v',O,_⟩:=L k cs[k] (A4 q);have G:l.sh+k<C.size:=(B5.1 O).1;refine VOk.same h (Lib.run_from_unsafe w ⟨l.blk,0+l.sh,none⟩ hs J a (show w.shape? l.blk=some (i,C.size) by simp[World.shape?,h1]) ?_) B;show liesAt P P.depth i (C.size / P.cellsOf i) (0+l.sh) i 1=true;rw[D8];refine FQ A9 (by rw[D];rw[hk]at I;exact I) ?_;rw[D];have I:l.sh%(k+1)=0:=by rw[hk]at I;exact I
   have S:l.sh=(k+1)*(l.sh / (k+1)):=by have:=gA l.sh (k+1);omega
   refine(Nat.le_div_iff_mul_le A9).2 ?_;rw[G0,dD,U0];omega
  .cases g
 .rename_i R e b o n c hs J;obtain⟨K,f⟩:=A2 g;clear g;obtain⟨q1,q2⟩:=B3 K;have q1:=A0 q1;clear K;subst q1;split at f
  .rename_i cs T hu F;split at f
   .rename_i m1 U4;cases f;obtain⟨l,mm,E,rfl⟩:∃ l mm,ρ b=some l/\x'=.slice (some ⟨l.blk,o+l.sh,none⟩) n mm:=by
     cases B with
     | pure hp=>simp[H3]at hp
     | sl h1 _=>exact⟨_,_,h1,rfl⟩
     | op h1 _ _ _=>exact⟨_,_,h1,rfl⟩
     | opE _=>simp at q2
    obtain⟨⟨p,C,fz,i,z2,z3,z4⟩,_⟩:=h.atl E F;have M:w.shape? l.blk=some (i,C.size):=by simp[World.shape?,z2]
    refine⟨_,ρ,w.freeze ⟨l.blk,C.size,none⟩ 1,?_,B,St.write h U4 F rfl E p ?_ ?_ ?_ ?_⟩
    .simp[convert,run_underlying J,run_underlying hu,markStringish,M]
    .simp[World.freeze]
    .simp[World.freeze]
    .intro j N;simp only[World.freeze,Nat.one_ne_zero,if_false,F1];rw[B1 (fun e=>N e.symm)]
    .refine⟨p,C,(if fz.1 == fz.2 then(C.size,C.size+1)else(min fz.1 C.size,max fz.2 (C.size+1))),i,?_,z3,fun D=>⟨(z4 D).1,(z4 D).2.1.mark,(z4 D).2.2⟩⟩;simp only[World.freeze,Nat.one_ne_zero,if_false,F1,if_true,z2,I3]
   .cases f
  .cases f
 .cases g
def OJ{op:BinOp}{t:TypeId}{x y:Operand}{a a' b b':Value}(h:HR P base ρ m.H w)(n:HN P m op t a b=some (v,m'))(u:VR ρ a a')(s:VR ρ b b'):VOk P base ρ m w (do eqGuard op t x y a' b';binOp op t a' b') v m':=by
 unfold HN at n;split at n
 .rename_i e B p A C hu;obtain⟨q,f⟩:=A2 n;clear n;obtain⟨q1,q2⟩:=B3 q;have q1:=A0 q1;have q2:=A0 q2;clear q;subst q1;subst q2;obtain⟨l,z,_,rfl⟩:=K9 u;obtain⟨l2,o,_,rfl⟩:=K9 s;rw[z]at o
  have:=A5 o;subst this;have heq:∀ j,P.info? e=some j->∀ d:Nat,(Op.equalIn (d+1) t (.pointer (some ⟨l.blk,p+l.sh,none⟩)) (.pointer (some ⟨l.blk,p+l.sh,none⟩))).run P w=.ok true w:=fun j g d=>by
   simp[Op.equalIn,run_underlying hu,sizeOf,typeInfo,g,run_sameAddr_same]
  have i:(eqGuard op t x y (.pointer (some ⟨l.blk,p+l.sh,none⟩)) (.pointer (some ⟨l.blk,p+l.sh,none⟩))).run P w=.ok () w:=by
   unfold eqGuard;split<;>simp
  split at f
  .rename_i j g;cases f;refine VOk.same h (v':=.bool true) ?_ (.pure rfl);rw[A3,i];simp[Result.andThen,binOp,Op.equal,Op.maxDepth,heq j g 9999]
  .rename_i j g;cases f;refine VOk.same h (v':=.bool false) ?_ (.pure rfl);rw[A3,i];simp[Result.andThen,binOp,Op.equal,Op.maxDepth,heq j g 9999]
  .cases f
 .cases n
def St.laid{o:Obj}(h:HR P base ρ m.H w):St P base ρ ρ m m w { w with heap:=w.heap.push o } :=
 have hk:∀ k,k<w.heap.size->(w.heap.push o)[k]? = w.heap[k]? := fun k hk=>by rw[K3,B1 A9]
 ⟨fun _ _ h=>h,fun b l h1 a=>(by rw[h1]at a;cases a),A6 _,A6 _,fun h=>h,
  ⟨h.dom,fun id hid ab f=>by
    obtain⟨l,h1,a,h3⟩:=h.at_ id hid ab f;exact⟨l,h1,a.mono (fun _ _ h=>h) (fun k e=>hk k (a.tc e)),h3⟩⟩,
  fun _ h=>h,fun b h1 a=>absurd h1 a,fun k e _=>hk k e,by simp,⟨rfl,rfl,rfl⟩,fun b l h1 a=>(by rw[h1]at a;cases a),fun _ _ _ _=>rfl,fun _ h=>.inr h⟩
def ZA{tys:Array TypeId}{x:Value}(h:HR P base ρ m.H w)(a:sdM P m ty x=some (v,m'))(o:VR ρ x x'):VOk P base ρ m w (Builtin.unsafeSliceData_ tys ty #[x']) v m':=by
 unfold sdM at a;split at a
 .rename_i e he;split at a
  .rename_i b i t;split at a
   .rename_i c tc T g ro B;cases a;have o:VR ρ (own b i t) x':=o;rcases(x5 o).1 with⟨l,wd,h1,j,h3,rfl⟩|⟨l,wd,rows,h1,j,h3,F,E,rfl⟩
    .exact VOk.same h rfl (.sdt ⟨l,h1,.inl ⟨j,rfl⟩⟩)
    .have f:Builtin.unsafeSliceData_ tys ty #[.slice (some ⟨l.blk,l.sh,none⟩) l.len l.cap]=(do
       if l.cap≠0 then pure (.pointer (some ⟨l.blk,l.sh,none⟩))
       else if(<- viewAt l.blk).isSome then pure (.pointer (some ⟨l.blk,l.sh,none⟩))
       else pure (.pointer (some ⟨<- newObj (.view ⟨l.blk,l.sh,none⟩ (<- elemOf ty)),0,none⟩))):=rfl
     rw[f];by_cases p:l.cap=0
     .rw[B1 (by simpa using p)];obtain⟨A,inf,_,_,_,D⟩:=SqR.ex (h.atl h1 B).1;rcases D with⟨n,_⟩|⟨_,n⟩
      .rw[j]at n;cases n
      .obtain⟨C,fz,u,s,lg,z,_⟩:=n;have q:w.shape? l.blk=some (u,C.size):=by simp[World.shape?,z]
       refine⟨.pointer (some ⟨w.heap.size,0,none⟩),ρ,{ w with heap:=w.heap.push (.view ⟨l.blk,l.sh,none⟩ e) },?_,.sdt ⟨l,h1,.inr ⟨j,_,rfl,fun h=>absurd p h⟩⟩,St.laid h⟩;simp[viewAt,q,elemOf,C8 he,newObj,Sem.run,A3,Result.andThen]
     .rw[B2 p];exact VOk.same h rfl (.sdt ⟨l,h1,.inr ⟨j,_,rfl,fun _=>rfl⟩⟩)
   .cases a
  .cases a
 .cases a
def YS{p l p' l':Value}(h:HR P base ρ m.H w)(L:usM P m pt p l=some (v,m'))(hp:VR ρ p p')(hl:VR ρ l l')(hS:Sat m'.lg)(hf:I2 ρ m.n m'.hi) :
  VOk P base ρ m w (Builtin.unsafeString_ ⟨pt::tys⟩ ty #[p',l']) v m':=by
 have E:IntKind.i64.max=9223372036854775807:=rfl;unfold usM at L;split at L
 .rename_i b;obtain⟨S,L⟩:=A2 L;have S:F5 l<8:=A1 S;obtain⟨k,n0,rfl,ak,_⟩:=K4 hl S;split at L
  .rename_i c tc T g e hg ae;obtain⟨hq,B⟩:=A2 L;clear L;obtain⟨q1,q2⟩:=B3 hq;have q1:=A0 q1;have q2:=A0 q2;clear hq;subst q1;subst q2;split at B
   .rename_i u m1 aa R;split at B
    .rename_i m2 U4;cases B;have ai:=aY U4;have aj:Sat m1.lg:=by rw[<- ai];exact hS
     obtain⟨u0,e1,e2,r,e3,e4,e5⟩:=K2 R aj;obtain⟨lg,rfl⟩:=F9 R;obtain⟨l0,J,hv⟩:=UR (show VR ρ (sdt b) p' from hp);have D:=St.wLg h lg;obtain⟨wd,inf,k1,k2,k3,M⟩:=SqR.ex (h.atl J hg).1;have af:wd=1:=A9;subst af;have f:evU .ustr [Ora.env c,.int k n0]=u0:=by
      have:D4 Ora.env (hole c 11)=Ora.env c:=rfl;rw[<- this,<- ak];exact e1
     have I:∀ an rows,Ora.env c=.seq an 1 rows->∃ (n:Nat) (N:List UInt8),n0=(n:Int)/\n<=rows.length/\n<=1000000000/\zX (rows.take n)=some N/\u0=.str N:=fun an rows hc=>by
      rw[hc]at f;cases n0 with
      | negSucc z=>have:u0=.none:=f.symm;subst this;cases e3
      | ofNat n =>
        have f:(if 1=1/\n<=rows.length/\n<=tZ then match zX (rows.take n)with
         | some s=>U.str s
         | none=>.none else .none)=u0:=f
        split at f
        .rename_i ao;split at f
         .rename_i N I;exact⟨n,N,rfl,ao.2.1,ao.2.2,I,f.symm⟩
         .subst f;cases e3
        .subst f;cases e3
     have A:P.cellsOf e=1:=by unfold Program.cellsOf;rw[k2];exact k3
     have W:∀ {ρ:Ren} {w:World} {lx:Loc},BR P ρ (.sq c 11 e g false) lx w->BR P ρ (.sq c 11 e g true) lx w:=fun hb=>by
      obtain⟨wd,inf,k1,k2,k3,M⟩:=SqR.ex hb;refine⟨⟨wd,inf,k1,k2,k3,M.imp (fun x=>x) fun⟨a,C,fz,T',rows,lg,b1,b2,b3,b4,b5,b6,b7,b8,_⟩=>⟨a,C,fz,T',rows,lg,b1,b2,b3,b4,b5,b6,b7,b8,fun hh=>by cases hh⟩⟩⟩
     have X:Hp.get (m.wLg lg).H b=some (.sq c 11 e g false):=by rw[gK];exact hg
     have Q:St P base ρ ρ m m' w w:=St.trans hf D (St.same0 D.hr U4 X rfl J (W (D.hr.atl J X).1) fun q hq=>hq.imp (fun⟨_,b⟩=>⟨rfl,b⟩) fun⟨hh,_⟩=>by cases hh);rcases hv with⟨ax,rfl⟩|⟨Y,a,rfl,ha⟩
     .rcases M with⟨_,F⟩|⟨F,_⟩
      .obtain⟨n,N,rfl,j1,_,j2,rfl⟩:=I _ _ F;have hn:n=0:=by simpa using j1
       subst hn;cases j2;cases e3;refine⟨.string ByteArray.empty,ρ,w,?_,e4 ρ,Q⟩;have o:Builtin.unsafeString_ ⟨pt::tys⟩ ty #[.pointer none,.int k ((0:Nat):Int)] =
         (do
           let n <- asInt (.int k ((0:Nat):Int))
           if n<0 then runtimePanic (.error "unsafe.String: len out of range")
           if n>IntKind.i64.max then unsupported (.unsafePointer "String: a length above the largest int")
           if n=0 then pure (.string .empty)
           else runtimePanic (.error "unsafe.String: ptr is nil and len is not zero")):=rfl
       rw[o];simp[asInt,asIntOf,E]
      .rw[ax]at F;cases F
     .rcases M with⟨F,_⟩|⟨_,F⟩
      .rw[Y]at F;cases F
      obtain⟨C,fz,T',rows,ar,z1,z2,z3,z4,z5,z6,z7,z8,z9⟩:=F;obtain⟨rfl,bz⟩:=z9 rfl;obtain⟨n,N,rfl,j1,j0,j2,rfl⟩:=I _ _ z2;cases e3;have o:Builtin.unsafeString_ ⟨pt::tys⟩ ty #[.pointer (some a),.int k (n:Int)] =
       (do
         let n <- asInt (.int k (n:Int))
         if n<0 then runtimePanic (.error "unsafe.String: len out of range")
         if n>IntKind.i64.max then unsupported (.unsafePointer "String: a length above the largest int")
         if n=0 then pure (.string .empty)
         else if <- variablesAt a (<- elemOf pt) n.toNat then do
          let s <- loadBytes a .empty n.toNat
          freeze a n.toNat
          pure (.string s)
         else unsupported (.unsafePointer "String: not so many bytes at ptr")):=rfl
      have aw:¬ (n:Int)<0:=A9;have av:¬ (9223372036854775807:Int)<(n:Int):=A9;by_cases t:n=0
      .subst t;cases j2;refine⟨.string ByteArray.empty,ρ,w,?_,e4 ρ,Q⟩;rw[o];simp[asInt,asIntOf,E]
      .have hz:¬ (n:Int)=0:=A9;have az:l0.cap≠0:=A9;have ha:=ha az;subst ha;obtain⟨y1,y2,y3⟩:=zW j2;have hlen:(rows.take n).length=n:=by simp;omega
       have ad:l0.sh+n<=C.size:=A9;obtain⟨ns,r1,r2⟩:∃ ns:List Int,(C.toList.drop l0.sh).take n=ns.map (Value.int .u8)/\N=ns.map fun n=>UInt8.ofNat n.toNat:=by
        refine DW (G:=ar.G) y1 ⟨by rw[y2,hlen];simp;omega,fun i u v b1 b2=>?_⟩;have au:i<n:=by have:=(A7.1 b1).1;rw[y2,hlen]at this;exact this
        have ay:i<rows.length:=A9;have O:rows[i]? = some rows[i]:=A4 ay;have V:(rows.take n)[i]? = some rows[i]:=by rw[F0 au];exact O
        have bx:rows[i].length=1:=z6 _ (L5 ay);have h0:rows[i][0]? = some (rows[i][0]' A9):=A4 A9;obtain⟨_,M⟩:=y3 i _ 0 _ V h0;rw[b1]at M;have M:=A5 M;rw[M];have hc:C[l0.sh+i*1+0]? = some v:=by
         rw[F0 au,G4]at b2
         simpa using b2
        exact z8 i _ 0 _ v O h0 hc
       have ah:ns.length=n:=by
        have:=U8 List.length r1;simp at this;omega
       have K:∀ (j:Nat) (v:Value),(ns.map (Value.int .u8))[j]? = some v->w.cell? ⟨l0.blk,l0.sh+j,none⟩=some v:=fun j v hj=>by
        rw[<- r1]at hj;have ag:j<n:=by have:=(A7.1 hj).1;simp at this;omega
        rw[F0 ag,G4]at hj;simp only[World.cell?,z1]
        simpa using hj
       have aq:=bQ (P:=P) (w:=w) ns l0.blk l0.sh .empty K;rw[ah]at aq;have al:w.shape? l0.blk=some (T',C.size):=by simp[World.shape?,z1]
       have Z:=sO (P:=P) A (C.size / P.cellsOf T') l0.sh n (by rw[A];simpa using ad);have st2:St P base ρ ρ (m.wLg lg) m' w (w.freeze ⟨l0.blk,l0.sh,none⟩ n):=by
        refine St.write D.hr U4 X rfl J Y ?_ ?_ ?_ ?_
        .simp[World.freeze,t]
        .simp[World.freeze,t]
        .intro j hj;simp only[World.freeze,t,if_false,F1];rw[B1 (fun e=>hj e.symm)]
        .refine⟨⟨1,inf,rfl,k2,k3,.inr ⟨Y,C,(if fz.1 == fz.2 then(l0.sh,l0.sh+n)else(min fz.1 l0.sh,max fz.2 (l0.sh+n))),T',rows,ar,?_,z2,z3,z4,z5,z6,z7,z8,fun hc=>by cases hc⟩⟩⟩;simp only[World.freeze,t,if_false,F1,if_true,z1,I3]
       refine⟨.string ⟨⟨N⟩⟩,ρ,w.freeze ⟨l0.blk,l0.sh,none⟩ n,?_,e4 ρ,St.trans hf D st2⟩;rw[o];simp[asInt,asIntOf,E,aw,av,hz,t,variablesAt,al,elemOf,C8 ae,Z,aq,freeze,Sem.run,A3,Result.andThen,r2]
    .cases B
   .cases B
  .cases L
 .cases L
def KU{t:TypeId}{x:Value}(h:HR P base ρ m.H w)(j:base<=w.heap.size)(a:sB P m t x=some (v,m'))(f:I2 ρ m.n m'.hi)(g:VR ρ x x'):VOk P base ρ m w (Instr.range t x') v m':=by
 unfold sB at a;split at a
 .rename_i hu;obtain⟨h1,a⟩:=A2 a;obtain⟨s,rfl,_⟩:=Z9 g (A0 h1);have e:∀ ρ':Ren,(∀ b l,ρ b=some l->ρ' b=some l)->BR P ρ' (.iter [x,.int .i64 (.ofNat 0)]) (lc w.heap.size 0 0) { w with heap:=w.heap.push (.stringIter ⟨⟨s⟩⟩ 0) }:=fun ρ' he =>
   ⟨⟨rfl,rfl⟩,.inl ⟨⟨⟨s⟩⟩,0,by simp[lc],.cons (g.mono he) (.cons (.pure rfl) .nil)⟩⟩
  obtain⟨i,h3,o⟩:=St.alloc (w':={ w with heap:=w.heap.push (.stringIter ⟨⟨s⟩⟩ 0) }) (l:=lc w.heap.size 0 0) h j a f ⟨rfl,rfl,rfl⟩ rfl rfl (e _ (T7 (f m.n (A6 _) (by obtain⟨_,_,rfl⟩:=J7 a;exact(J1 _ _).2))));refine⟨.pointer (some ⟨w.heap.size,0,none⟩),_,_,?_,?_,o⟩
  .simp[Instr.range,A3,C8 hu,Result.andThen,newObj,Sem.run]
  .rw[i];exact .ptr h3
 .cases a
def GG{s p:Value}{b:ByteArray}(h:zT s p=some (b,k)):s=.string b/\p=.int .i64 (.ofNat k):=by
 unfold zT at h;split at h
 .cases h;exact⟨rfl,rfl⟩
 .cases h
def OW{x:Value}(h:HR P base ρ m.H w)(a:CC m x=some (v,m'))(hf:I2 ρ m.n m'.hi)(hx:VR ρ x x')(hS:Sat m'.lg):VOk P base ρ m w (Instr.next x' true ty) v m':=by
 unfold CC at a;split at a
 .rename_i r;obtain⟨l,hl,_,rfl⟩:=K9 hx;split at a
  .rename_i s p hg;obtain⟨⟨⟨G,A⟩,az⟩,_⟩:=h.atl hl hg;obtain⟨f,n,g1,g2⟩:=az.resolve_right (fun q=>by cases q.1);have O:(getObj l.blk).run P w=.ok (.stringIter f n) w:=by simp[getObj,Sem.run,g1]
   have i:l.blk<w.heap.size:=(B5.1 g1).1;have F:w.heap[l.blk]=.stringIter f n:=by
    have q:=g1;rw[E0 i]at q;exact A5 q
   obtain⟨s',r1,e1,k1,k2⟩:=g2.tail;obtain⟨p',r2,e2,Y,k4⟩:=k2.tail;cases k4.nil_inv;cases e2;cases e1;have ay:∀ X:Nat,(setObj l.blk (.stringIter f X)).run P w=.ok () { w with heap:=w.heap.set l.blk (.stringIter f X) i }:=fun X=>by
    simp[setObj,Sem.run,F,Array.setIfInBounds,i]
   have z:n<f.size->(Instr.next (.pointer (some ⟨l.blk,0+l.sh,none⟩)) true ty).run P w=.ok (.tuple #[.bool true,.int .i64 (.ofNat n),.int .i32 (.ofNat (Utf8.decode f n).1)]) { w with heap:=w.heap.set l.blk (.stringIter f (n+(Utf8.decode f n).2)) i }:=fun o=>by
    rw[A];simp[Instr.next,A3,Result.andThen_ok,O,o,ay,goInt]
   have L:¬n<f.size->(Instr.next (.pointer (some ⟨l.blk,0+l.sh,none⟩)) true ty).run P w=.ok (.tuple #[.bool false]) w:=fun o=>by
    rw[A];simp[Instr.next,A3,Result.andThen_ok,O,o]
   have fin:∀ {m1 m2:Mem} {q:Value},I1 m m1->x7 m1 r (.iter [s,q])=some m2->I2 ρ m.n m2.hi->VR ρ q (.int .i64 (.ofNat (n+(Utf8.decode f n).2)))->St P base ρ ρ m m2 w { w with heap:=w.heap.set l.blk (.stringIter f (n+(Utf8.decode f n).2)) i }:=fun{m1 m2 q} e U4 S hq=>by
    obtain⟨lg,rfl⟩:=e;have J:=St.wLg h lg;have Q:Hp.get (m.wLg lg).H r=some (.iter [s,p]):=by rw[gK];exact hg
    refine St.trans S J (St.write (ab:=.iter [s,p]) (ab':=.iter [s,q]) J.hr U4 Q rfl hl G ⟨rfl,rfl,rfl⟩ (by simp) (fun j hj=>?_) ?_)
    .show(w.heap.set l.blk _ i)[j]? = _;rw[g9,B1 (fun e=>hj e.symm)]
    .refine⟨⟨G,A⟩,.inl ⟨f,_,?_,.cons k1 (.cons hq .nil)⟩⟩;show(w.heap.set l.blk _ i)[l.blk]? = _;rw[g9,B2 rfl]
   split at a
   .rename_i b k hc;obtain⟨rfl,rfl⟩:=GG hc;have e:=R2 k1;cases e;have e:=H8 Y;cases e;by_cases o:n<f.size
    .have t:Nat.blt n f.data.toList.length=true:=C4 o;rw[t]at a;simp only[D7,E1]at a;split at a
     .rename_i m2 U4;cases a;exact⟨_,ρ,_,z o,.tuple rfl (LR.cons (.pure rfl) (LR.cons (.pure rfl) (LR.cons (.pure rfl) LR.nil))).2,fin ⟨m.lg,by cases m;rfl⟩ U4 hf (.pure rfl)⟩
     .cases a
    .have t:Nat.blt n f.data.toList.length=false:=by
      cases hq:Nat.blt n f.data.toList.length with
      | false=>rfl
      | true=>exact absurd (A1 hq) o
     rw[t]at a;cases a;exact⟨_,ρ,w,L o,.tuple rfl (LR.cons (.pure rfl) LR.nil).2,St.refl h⟩
   .obtain⟨h1,a⟩:=A2 a;obtain⟨h1,h2⟩:=B3 h1;have h1:=A0 h1;have h2:=A0 h2;obtain⟨s0,es,as⟩:=Z9 k1 h1;cases es;obtain⟨kk,nn,ep,ap,_⟩:=K4 Y A9;cases ep;split at a
    .rename_i hh m1 C;split at a
     .rename_i c H N W hi lg B;have o1:=F9 C;have o2:=F9 B;have key:∀ {b:Bool} {g:Lg},brL lg c=some (b,g)->Sat g->(b=true↔n<s0.length)/\I1 m ⟨H,N,W,hi,g⟩:=fun{b g} t u=>by
       have I:Sat lg:=u.le (cF t);have T:Sat m1.lg:=M4.le I (G2 B);have u1:VR ρ hh (.int .i64 s0.length):=by
        have:=(eA (ρ:=ρ) C T).2.2;rw[B8,E3,as]at this;exact this
       obtain⟨rfl,e1⟩:=eY C;obtain⟨k5,n5,e5,a5,_⟩:=K4 u1 (show 3<8 by decide);cases e5;have u2:VR ρ c (.bool (decide ((n:Int)<s0.length))):=by
        have:=(eA (ρ:=ρ) B I).2.2;rw[B8,B8,E3,ap,a5]at this;have e:evU (.bin .lss) [.int .i64 (Int.ofNat n),.int .i64 (s0.length:Int)]=.bool (decide ((n:Int)<s0.length)):=by
         simp[evU,evB,fS,pG,oI,qF,yX,ofV]
        rw[e]at this;exact this
       have:=iL t u2 u;refine⟨?_,?_⟩
       .have:=Value.bool.inj this;rw[<- this,decide_eq_true_iff];omega
       .exact(o1.trans o2).trans ⟨g,rfl⟩
      split at a
      .rename_i g t;split at a
       .rename_i y m3 D;split at a
        .rename_i q m4 E;split at a
         .rename_i m5 U4;cases a;have K:Sat m4.lg:=by rw[<- aY U4];exact hS
          have M:=K.le (G2 E);have u:Sat g:=M.le (G2 D);obtain⟨Z,R⟩:=key t u;have o:=Z.1 rfl;have u3:VR ρ y (.int .i32 (.ofNat (Utf8.decode ⟨⟨s0⟩⟩ n).1)):=by
           have:=(eA (ρ:=ρ) D M).2.2;rw[B8,B8,E3,as,ap]at this;exact this
          have u4:VR ρ q (.int .i64 (.ofNat (n+(Utf8.decode ⟨⟨s0⟩⟩ n).2))):=by
           have:=(eA (ρ:=ρ) E K).2.2;rw[B8,B8,E3,as,ap]at this;exact this
          exact⟨_,ρ,_,z o,.tuple rfl (LR.cons (.pure rfl) (LR.cons Y (LR.cons u3 LR.nil))).2,fin ((R.trans (F9 D)).trans (F9 E)) U4 hf u4⟩
         .cases a
        .cases a
       .cases a
      .rename_i g t;cases a;obtain⟨Z,R⟩:=key t hS;have o:¬n<s0.length:=fun q=>by have:=Z.2 q;cases this
       obtain⟨V,e3⟩:=R;refine⟨_,ρ,w,L o,.tuple rfl (LR.cons (.pure rfl) LR.nil).2,?_⟩;rw[e3];exact St.wLg h V
      .cases a
     .cases a
    .cases a
  .cases a
 .cases a
def KV{t:TypeId}{x:Value}(a:sB P m t x=some (v,m')):m.lg.le m'.lg:=by
 unfold sB at a;split at a
 .obtain⟨_,a⟩:=A2 a;rw[o8 a];exact .refl _
 .cases a
def OX{x:Value}(e:CC m x=some (v,m')):m.lg.le m'.lg:=by
 unfold CC at e;split at e
 .split at e
  .split at e
   .rename_i b k o;cases f:Nat.blt k b.data.toList.length with
    | true =>
      rw[f]at e;simp only[D7,E1]at e;split at e
      .rename_i U4;cases e;rw[aY U4];exact .refl _
      .cases e
    | false=>rw[f]at e;cases e;exact .refl _
   .obtain⟨_,e⟩:=A2 e;split at e
    .rename_i g;split at e
     .rename_i i;have a:=(G2 g).trans (G2 i);split at e
      .rename_i f;have a:=a.trans (cF f);split at e
       .rename_i n;split at e
        .rename_i j;split at e
         .rename_i U4;cases e;rw[aY U4];exact(a.trans (G2 n)).trans (G2 j)
         .cases e
        .cases e
       .cases e
      .rename_i f;cases e;exact a.trans (cF f)
      .cases e
     .cases e
    .cases e
  .cases e
 .cases e
def YN{fr:Fr}{g:Operand->Value}{o:Oper}(h:HR P base ρ m.H w)(D:base<=w.heap.size)(b:xtM P fr m o=some (v,m'))(j:I2 ρ m.n m'.hi)(C:FR ρ fr g o.op)(i:Sat m'.lg):NOk P base ρ m w (execOp g o) v m':=by
 obtain⟨dst,op,ty,pos,E,F⟩:=o;unfold xtM at b;simp only at b C;have a:∀ {x},x ∈ op.operands.toList->VR ρ (ev fr x) (g x):=fun f=>C _ f
 split at b
 .rename_i s t x;exact NOk.of (QW h b (a (x:=x) (by simp[Op.operands])))
 .rename_i op t x y K;exact NOk.of (OJ h b (a (x:=x) (by simp[Op.operands])) (a (x:=y) (by simp[Op.operands])))
 .rename_i xs tys;have l1:=aK (ρ:=ρ) (fr:=fr) (g:=g) (xs:=xs.toList) fun y u=>C y (by show y ∈ (#[]++xs:Array Operand).toList;simpa using u)
  split at b
  .rename_i x f;rw[f]at l1;obtain⟨x',r1,B,g1,g2⟩:=l1.tail;cases g2.nil_inv;have A:xs.map g=#[x']:=by apply H7;simpa using B
   have:=ZA (tys:=tys) h b g1;have q:=NOk.of this;obtain⟨ks,z⟩:∃ ks,execOp g ⟨dst,.call ⟨.builtin .unsafeSliceData,xs,tys⟩,ty,pos,E,F⟩=builtin .unsafeSliceData tys ty ks (xs.map g):=⟨#[],rfl⟩;rw[z,A];exact q
  .cases b
 .rename_i xs tys;have l1:=aK (ρ:=ρ) (fr:=fr) (g:=g) (xs:=xs.toList) fun y u=>C y (by show y ∈ (#[]++xs:Array Operand).toList;simpa using u)
  split at b
  .rename_i p l t rest f G;rw[f]at l1;obtain⟨x',r1,B,g1,g2⟩:=l1.tail;obtain⟨J,r2,rfl,g3,g4⟩:=g2.tail;cases g4.nil_inv;have A:xs.map g=#[x',J]:=by apply H7;simpa using B
   have q:=NOk.of (YS (ty:=ty) (tys:=rest) h b g1 g3 i j);obtain⟨ks,z⟩:∃ ks,execOp g ⟨dst,.call ⟨.builtin .unsafeString,xs,tys⟩,ty,pos,E,F⟩=builtin .unsafeString tys ty ks (xs.map g):=⟨#[],rfl⟩;have I:tys=⟨t::rest⟩:=by rw[<- G]
   rw[z,A,I];exact q
  .cases b
 .rename_i t;exact NOk.of (UF h D b j i)
 .rename_i t x k ok;exact NOk.of (LB h b (a (x:=x) (by simp[Op.operands])) (a (x:=k) (by simp[Op.operands])) i)
 .rename_i t x;exact NOk.of (KU h D b j (a (x:=x) (by simp[Op.operands])))
 .rename_i x;exact NOk.of (OW h b j (a (x:=x) (by simp[Op.operands])) i)
 .rename_i t x k e;obtain⟨rfl,hu⟩:=BK h D b j (a (x:=x) (by simp[Op.operands])) (a (x:=k) (by simp[Op.operands])) (a (x:=e) (by simp[Op.operands])) i;exact NOk.ofU hu
 .rename_i t x k e;obtain⟨rfl,hu⟩:=BK h D b j (a (x:=x) (by simp[Op.operands])) (a (x:=k) (by simp[Op.operands])) (a (x:=e) (by simp[Op.operands])) i;exact NOk.ofU hu
 .rename_i xs tys;have l1:=aK (ρ:=ρ) (fr:=fr) (g:=g) (xs:=xs.toList) fun y u=>C y (by show y ∈ (#[]++xs:Array Operand).toList;simpa using u)
  split at b
  .rename_i x t rest f G;rw[f]at l1;obtain⟨x',r1,B,g1,g2⟩:=l1.tail;cases g2.nil_inv;have A:xs.map g=#[x']:=by apply H7;simpa using B
   have q:=NOk.of (PH (ty:=ty) (tys:=rest) h b g1 i);obtain⟨ks,z⟩:∃ ks,execOp g ⟨dst,.call ⟨.builtin .len,xs,tys⟩,ty,pos,E,F⟩=builtin .len tys ty ks (xs.map g):=⟨#[],rfl⟩;have I:tys=⟨t::rest⟩:=by rw[<- G]
   rw[z,A,I];exact q
  .cases b
 .cases b
def YO{fr:Fr}{o:Oper}(a:xtM P fr m o=some (v,m')):m.lg.le m'.lg:=by
 unfold xtM at a;split at a
 .unfold IY at a;split at a
  .split at a
   .obtain⟨_,a⟩:=A2 a;cases a;exact .refl _
   .cases a
  .split at a
   .obtain⟨_,a⟩:=A2 a;cases a;exact .refl _
   .cases a
  .obtain⟨_,a⟩:=A2 a;split at a
   .split at a
    .rename_i U4;cases a;obtain⟨_,rfl⟩:=R1 U4;exact .refl _
    .cases a
   .cases a
  .cases a
 .unfold HN at a;split at a
  .obtain⟨_,a⟩:=A2 a;split at a
   .cases a;exact .refl _
   .cases a;exact .refl _
   .cases a
  .cases a
 .split at a
  .unfold sdM at a;split at a
   .split at a
    .split at a
     .cases a;exact .refl _
     .cases a
    .cases a
   .cases a
  .cases a
 .split at a
  .unfold usM at a;split at a
   .obtain⟨_,a⟩:=A2 a;split at a
    .obtain⟨_,a⟩:=A2 a;split at a
     .rename_i b;split at a
      .rename_i hs;cases a;rw[aY hs];exact G2 b
      .cases a
     .cases a
    .cases a
   .cases a
  .cases a
 .exact UG a
 .exact LD a
 .exact KV a
 .exact OX a
 .exact BL a
 .exact BL a
 .split at a
  .exact PI a
  .cases a
 .cases a
end
end
section
open Go
def fw(rd:Option Nat):Fence:={ Fence.wide with round:=rd }
def eD{rd:Option Nat}{n:Nat}:(fw rd).depth.isSome=true->1<=n:=fun h=>by cases h
def v7{rd:Option Nat}{n:Nat}{P:Program}{f:FuncId}{args:Q0}{w:World}{R:Ending->World->Prop}:CallsIn (fw rd) n P f args w R↔Calls P f args w R :=
 ⟨fun h=>callsIn_wide.1 (show CallsIn Fence.wide n P f args w R from h),fun h=>show CallsIn (fw rd) n P f args w R from(callsIn_wide (n:=n)).2 h⟩
section
variable {P:Program} {rd:Option Nat}
def wpO(P:Program)(rd:Option Nat)(o:Oper)(a:Act)(w:World)(K:Act->World->Prop)(Q:Exit->Act->World->Prop):Prop:=o.wpIn (fw rd) 0 P a w K Q
def AF{o:Oper}{a:Act}{w:World}{K f:Act->World->Prop}{Q:Exit->Act->World->Prop}(h:∀ a w,K a w->f a w)(hh:wpO P rd o a w K Q):wpO P rd o a w f Q:=by
 unfold wpO Oper.wpIn at *;refine⟨hh.1,?_⟩;have hh:=hh.2;generalize (o.semAt (fw rd).round a.eval).run P w=r at *;cases r with
 | ok n w' =>
   cases n<;>simp only[Oper.uponIn]at hh ⊢ <;>
    first
     | exact h _ _ hh
     | exact⟨hh.1,CallsIn.mono hh.2 (fun e b he=>by cases e<;>first|exact h _ _ he|exact he)⟩
     | exact⟨hh.1,RowsIn.mono hh.2 (fun _ _ he=>h _ _ he)⟩
     | exact⟨hh.1,RoundIn.mono hh.2 (fun e b he=>by cases e<;>first|exact h _ _ he|exact he)⟩
 | halt x w'=>cases x<;>simp only[Oper.uponIn]at hh ⊢<;>exact hh
def wpL(P:Program)(rd:Option Nat)(ops:Array Oper)(Q:Exit->Act->World->Prop):List Oper->Act->World->Prop
 | [],a,w=>Q .normal a w
 | o::rest,a,w=>if Region.wanted o (yielded ops a.tmps)then wpO P rd o a w (wpL P rd ops Q rest) Q else wpL P rd ops Q rest (a.put o.dst undef) w
def lN{ops:Array Oper}{Q:Exit->Act->World->Prop}{a:Act}{w:World}{rest:List Oper}{o:Oper}
  (h:∀ K:Act->World->Prop,(∀ a w,wpL P rd ops Q rest a w->K a w)->if Region.wanted o (yielded ops a.tmps)then wpO P rd o a w K Q else K (a.put o.dst undef) w):wpL P rd ops Q (o::rest) a w:=h _ fun _ _ h=>h
def GT{ops:Array Oper}{Q:Exit->Act->World->Prop}:∀ (l:List Oper) (k:Nat),(∀ j,l[j]? = ops[k+j]?)->∀ a w,wpL P rd ops Q l a w->wpOpsIn (fw rd) 0 P ops Q (List.range' k l.length) a w
 | [],k,_,a,w,h=>h
 | o::l,k,hk,a,w,h=>by
   have h0:ops[k]? = some o:=by simpa using(hk 0).symm
   have b:=GT (Q:=Q) l (k+1) (fun j=>by have:=hk (j+1);simpa [Z7,fM 1 j]using this);simp only[I7,List.range'_succ,wpOpsIn,h0];unfold wpL at h;split
   .rename_i hw;rw[B2 hw]at h;exact AF b h
   .rename_i hw;rw[B1 hw]at h;exact⟨fun _ _=>trivial,b _ _ h⟩
def Q6{id:Nat}{ops:Array Oper}{Q:Exit->Act->World->Prop}{a:Act}{w:World}(h:wpL P rd ops Q ops.toList a w):(Code.region id ops false).wpIn (fw rd) 0 P Q a w :=
 wpIn_region (by
  have:=GT ops.toList 0 (by simp) a w h;rw[List.range_eq_range',<- O9];exact this)
def i0(P:Program)(rd:Option Nat)(ops:Array Oper)(Q:Exit->Act->World->Prop)(i:Nat)(K:Act->World->Prop)(a:Act)(w:World):Prop :=
 match ops[i]? with
 | none=>K a w
 | some o=>if Region.wanted o (yielded ops a.tmps)then wpO P rd o a w K Q else K (a.put o.dst undef) w
def rD{ops:Array Oper}{Q:Exit->Act->World->Prop}{i:Nat}{a:Act}{w:World}{K b:Act->World->Prop}(h:∀ a w,K a w->b a w)(hh:i0 P rd ops Q i K a w):i0 P rd ops Q i b a w:=by
 unfold i0 at *;split
 .exact h _ _ (by simpa [*]using hh)
 .rename_i o e;simp only[e]at hh;split
  .rename_i hw;simp only[hw,if_true]at hh;exact AF h hh
  .rename_i hw;simp only[hw]at hh;exact h _ _ hh
def xY{ops:Array Oper}{Q:Exit->Act->World->Prop}{i:Nat}{rest:F8}{a:Act}{w:World}(h:i0 P rd ops Q i (wpOpsIn (fw rd) 0 P ops Q rest) a w):wpOpsIn (fw rd) 0 P ops Q (i::rest) a w:=by
 unfold i0 at h;simp only[wpOpsIn];split at h
 .rename_i b;simp only[b];exact h
 .rename_i o e;simp only[e];split at h
  .rename_i hw;rw[B2 hw];exact h
  .rename_i hw;rw[B1 hw];exact⟨fun _ _=>trivial,h⟩
def dH(P:Program)(rd:Option Nat)(md:Region.Mode)(ops:Array Oper)(Q:Exit->Act->World->Prop):Nat->Array Bool->Act->World->Prop
 | 0,listed,a,w=>Region.ready md ops listed=[]/\Q .normal a w
 | fuel+1,listed,a,w=>(Region.ready md ops listed=[]->Q .normal a w)/\∀ i ∈ Region.ready md ops listed,i0 P rd ops Q i (dH P rd md ops Q fuel (listed.setIfInBounds i true)) a w
def xZ{md:Region.Mode}{ops:Array Oper}{Q:Exit->Act->World->Prop}:∀ (fuel t:Nat) (listed:Array Bool) (a:Act) (w:World),dH P rd md ops Q fuel listed a w->wpOpsIn (fw rd) 0 P ops Q (Region.linearise.go md ops fuel t listed []) a w:=by
 intro fuel;induction fuel with
 | zero=>intro t listed a w h;simpa [Region.linearise.go,wpOpsIn]using h.2
 | succ fuel f =>
   intro t listed a w h;obtain⟨h0,h1⟩:=h;simp only[Region.linearise.go];change wpOpsIn (fw rd) 0 P ops Q (match (Region.ready md ops listed)[t%(Region.ready md ops listed).length]? with
    | some i=>Region.linearise.go md ops fuel (t / (Region.ready md ops listed).length) (listed.setIfInBounds i true) [i]
    | none=>[].reverse) a w
   cases hi:(Region.ready md ops listed)[t%(Region.ready md ops listed).length]? with
   | none =>
     have b:Region.ready md ops listed=[]:=by
      cases hr:Region.ready md ops listed with
      | nil=>rfl
      | cons x xs =>
        rw[hr]at hi;have e:t%(x::xs).length<(x::xs).length:=fL _ (by simp);simp at hi;simp at e;omega
     simpa [wpOpsIn]using h0 b
   | some i =>
     simp only[];rw[linearise_go_acc,List.reverse_singleton,List.singleton_append];exact xY (rD (fun a w=>f _ _ a w) (h1 i (D6 hi)))
def bK{id:Nat}{ops:Array Oper}{Q:Exit->Act->World->Prop}{a:Act}{w:World}(hm:P.follows .mixedOrders=true)
  (h:dH P rd .any ops Q ops.size (Array.replicate ops.size false) a { w with drawn:=w.drawn+1 }):(Code.region id ops true).wpIn (fw rd) 0 P Q a w :=
 wpIn_region_draw fun t=>by
  simp only[Region.schedule,hm,Bool.true_or,if_true];exact xZ ops.size t _ a _ h
def i5{b:Frame}{a:Act}{k:List Item}{w:World} :step P (lone (b.atR a (.code (.scope c)::k)) cs w)=.next (lone (b.atR a (.code c::.inScope c::k)) cs w) :=
 step_lone_go (by simp[stepG,stepG.exec,Frame.atR])
def uO{b:Frame}{a:Act}{k:List Item}{w:World} :step P (lone (b.atR a (.inScope c::k)) cs w)=.next (lone (b.atR a k) cs w) :=
 step_lone_go (by simp[stepG,stepG.exec,Frame.atR])
def Exit.calm(Q:Exit->Act->World->Prop):Exit->Act->World->Prop
 | .goto _,_,_=>False
 | e,a,w=>Q e a w
def EF{F:Fence}{n:Nat}{Q:Exit->Act->World->Prop}{a:Act}{w:World}(h:c.wpIn F n P (Exit.calm Q) a w):(Code.scope c).wpIn F n P Q a w:=by
 intro b k cs q p hr;have h0:(lone (b.atR a (.code (.scope c)::k)) cs w).fenced P F:=fenced_calm p hr rfl;obtain⟨e,i,g,j,f⟩:=h b (.inScope c::k) cs q p hr;cases e with
 | normal=>exact⟨.normal,i,g,j,.head h0 i5 (StepsIn.trans f (.one (fenced_calm p hr rfl) uO))⟩
 | exit id =>
   have s:exitTo id (.inScope c::k)=exitTo id k:=rfl;exact⟨.exit id,i,g,j,fun k' hk=>.head h0 i5 (f.1 k' (by rw[s];exact hk)),
    fun o hk=>let ⟨k₁,h1,t⟩:=f.2 o (by rw[s];exact hk);⟨k₁,h1,.head h0 i5 t⟩⟩
 | goto l=>exact j.elim
 | ret=>exact⟨_,i,g,j,.of_steps (.one h0 i5) f⟩
 | panic u=>exact⟨_,i,g,j,.of_steps (.one h0 i5) f⟩
 | outgrown=>exact⟨_,i,g,j,.of_steps (.one h0 i5) f⟩
end
end
section
open Go
def jV(o:Op)(g:Operand->Value):Sem Value :=
 match o with
 | .move x|.assign x=>pure (g x)
 | .load t x=>Instr.loadAt t (g x)
 | .store t x y=>do Instr.storeAt t (g x) (g y);pure undef
 | _=>stuck "no such operation"
def oV(P:Program)(o:Oper)(s:Act×World):Option (Act×World) :=
 match (jV o.op s.1.eval).run P s.2 with
 | .ok v w'=>some (s.1.put o.dst v,w')
 | .halt _ _=>none
section
variable {P:Program} {rd:Option Nat}
def qT{o:Oper}{s t:Act×World}(h:oV P o s=some t):∃ v,(jV o.op s.1.eval).run P s.2=.ok v t.2/\t.1=s.1.put o.dst v:=by
 unfold oV at h;split at h
 .rename_i v w' hr;cases h;exact⟨v,hr,rfl⟩
 .cases h
def jQ{o:Oper}{s:Act×World}(h:(jV o.op s.1.eval).run P s.2=.ok v w'):oV P o s=some (s.1.put o.dst v,w'):=by
 unfold oV;rw[h]
def LW{o:Oper}(a:zS o.op=true)(w:World)(g:Operand->Value):o.about P w g=none:=by
 unfold Oper.about;cases b:o.op<;>rw[b]at a<;>first|rfl|cases a
def HD{o:Oper}(a:zS o.op=true)(g:Operand->Value):∀ c,o.op≠.defer c:=fun c h=>by rw[h]at a;cases a
def TG{o:Oper}(g:zS o.op=true){a a':Act}{w:World}{K:Act->World->Prop}{Q:Exit->Act->World->Prop}(h:oV P o (a,w)=some (a',w'))(hk:K a' w'):wpO P rd o a w K Q:=by
 obtain⟨v,h1,j⟩:=qT h;simp only at h1 j;subst j;unfold wpO Oper.wpIn;refine⟨fun f i=>(by rw[LW g]at i;cases i),?_⟩;rw[Oper.semAt_eq _ _ _ (HD g a.eval)];cases b:o.op<;>rw[b]at g h1<;>first
  | cases g;done
  | skip
 .have e:(execOp a.eval o)=pure (.value (a.eval ‹Operand›)):=by unfold execOp;rw[b]
  rw[e];cases h1;exact hk
 .have e:(execOp a.eval o)=pure (.value (a.eval ‹Operand›)):=by unfold execOp;rw[b]
  rw[e];cases h1;exact hk
 .rename_i t x;have e:(execOp a.eval o)=(do pure (.value (<- Instr.loadAt t (a.eval x)))):=by unfold execOp;rw[b]
  have h1:(Instr.loadAt t (a.eval x)).run P w=.ok v w':=h1;rw[e];simp only[A3,h1,Result.andThen,Sem.run_pure];exact hk
 .rename_i t x y;have e:(execOp a.eval o)=(do Instr.storeAt t (a.eval x) (a.eval y);pure .skip):=by unfold execOp;rw[b]
  have h1:(do Instr.storeAt t (a.eval x) (a.eval y);pure undef:Sem Value).run P w=.ok v w':=h1;rw[e];simp only[A3]at h1 ⊢;cases hr:(Instr.storeAt t (a.eval x) (a.eval y)).run P w with
  | ok u w2=>rw[hr]at h1;simp only[Result.andThen,Sem.run_pure]at h1 ⊢;cases h1;exact hk
  | halt x w2=>rw[hr]at h1;cases h1
def VI{o:Oper}(f:zS o.op=true){a:Act}{w:World}{K:Act->World->Prop}{Q:Exit->Act->World->Prop}(g:∀ c a w,¬Q (.panic c) a w)(h:wpO P rd o a w K Q):∃ a' w',oV P o (a,w)=some (a',w')/\K a' w':=by
 unfold wpO Oper.wpIn at h;obtain⟨_,h⟩:=h;rw[Oper.semAt_eq _ _ _ (HD f a.eval)]at h;cases b:o.op<;>rw[b]at f<;>first
  | cases f;done
  | skip
 .rename_i x;have e:(execOp a.eval o)=pure (.value (a.eval x)):=by unfold execOp;rw[b]
  rw[e]at h;exact⟨_,_,jQ (s:=(a,w)) (v:=a.eval x) (w':=w) (by rw[b];rfl),h⟩
 .rename_i x;have e:(execOp a.eval o)=pure (.value (a.eval x)):=by unfold execOp;rw[b]
  rw[e]at h;exact⟨_,_,jQ (s:=(a,w)) (v:=a.eval x) (w':=w) (by rw[b];rfl),h⟩
 .rename_i t x;have e:(execOp a.eval o)=(do pure (.value (<- Instr.loadAt t (a.eval x)))):=by unfold execOp;rw[b]
  rw[e]at h;simp only[A3]at h;cases hr:(Instr.loadAt t (a.eval x)).run P w with
  | ok v w' =>
    rw[hr]at h;exact⟨_,_,jQ (s:=(a,w)) (v:=v) (w':=w') (by rw[b];exact hr),h⟩
  | halt y w' =>
    rw[hr]at h;cases y<;>first|exact absurd h (g _ _ _)|exact h.elim
 .rename_i t x y;have e:(execOp a.eval o)=(do Instr.storeAt t (a.eval x) (a.eval y);pure .skip):=by unfold execOp;rw[b]
  rw[e]at h;simp only[A3]at h;cases hr:(Instr.storeAt t (a.eval x) (a.eval y)).run P w with
  | ok u w' =>
    rw[hr]at h;refine⟨_,_,jQ (s:=(a,w)) (v:=undef) (w':=w') ?_,h⟩;rw[b];show(do Instr.storeAt t (a.eval x) (a.eval y);pure undef:Sem Value).run P w=_;simp only[A3,hr,Result.andThen,Sem.run_pure]
  | halt z w' =>
    rw[hr]at h;cases z<;>first|exact absurd h (g _ _ _)|exact h.elim
def OF{a:Act}{e:Option Tmp}{u:Value}(h:∀ x y,d=some x->e=some y->x≠y):(a.put d v).put e u=(a.put e u).put d v:=by
 cases d with
 | none=>rfl
 | some x=>cases e with
   | none=>rfl
   | some y =>
     have b:=h x y rfl rfl;unfold Act.put;simp only;congr 1;exact Array.setIfInBounds_comm _ _ b
def eE{a:Act}{x:Operand}(h:∀ t,d=some t->t ∉ lR x):(a.put d v).eval x=a.eval x:=by
 cases x with
 | const c=>cases d<;>rfl
 | tmp t =>
   cases d with
   | none=>rfl
   | some y =>
     have:y≠t:=fun e=>h y rfl (by subst e;exact G6.2 rfl)
     unfold Act.put Act.eval;simp only[B0];rw[Array.getElem?_setIfInBounds_ne this]
 | _=>cases d<;>rfl
variable [Ora]
def vA(P:Program)(w:World)(t:TypeId)(p:Value):Prop :=
 ∃ b o C T fz s g,p=.pointer (some ⟨b,o,none⟩)/\w.heap[b]? = some (.cells C T fz)/\F6 P t=some s/\Y4 P t=some g/\o+s<=C.size/\o<C.size
def wI{t:TypeId}{b o s:Nat}{C:Q0}{T:TypeId}{g:Bool}(hs:F6 P t=some s)(n:Y4 P t=some g)(h1:o+s<=C.size)(p:o<C.size):∃ v,∀ w:World,w.heap[b]? = some (.cells C T fz)->(Instr.loadAt t (.pointer (some ⟨b,o,none⟩))).run P w=.ok v w:=by
 have a:∀ w:World,w.heap[b]? = some (.cells C T fz)->∀ j v,C[o+j]? = some v->w.cell? ⟨b,o+j,none⟩=some v:=fun w hw j v u=>by simp[World.cell?,hw,u]
 cases g with
 | true =>
   refine⟨.agg ⟨(C.toList.drop o).take s⟩,fun w hw=>?_⟩;have q:((C.toList.drop o).take s).length=s:=by rw[List.length_take,S7,O9];omega
   have e:=I5 (P:=P) (w:=w) (b:=b) (o:=o) q (fun j v f=>by
    have i:j<s:=by have:=(A7.1 f).1;omega
    rw[F0 i,G4,M7]at f;exact a w hw j v f)
   unfold Instr.loadAt;simp[A3,Instr.sureAddr,loadVar,n7 n,J0 hs,Result.andThen,e]
 | false =>
   refine⟨C[o],fun w hw=>?_⟩
   have:=a w hw 0 C[o] (by simp[p]);unfold Instr.loadAt;simp[A3,Instr.sureAddr,loadVar,n7 n,Result.andThen,run_load,show w.cell? ⟨b,o,none⟩=some C[o]from by simpa using this]
def rO{b o:Nat}{T:TypeId}{fz:Nat×Nat}:∀ (vs:List Value) (i:Nat) (C:Array Value) (w w':World),w.heap[b]? = some (.cells C T fz)->o+i+vs.length<=C.size->(storeCells ⟨b,o,none⟩ vs i).run P w=.ok () w' ->
  (∀ k,k≠b->w'.heap[k]? = w.heap[k]?)/\∃ C',w'.heap[b]? = some (.cells C' T fz)/\C'.size=C.size
 | [],i,C,w,w',h,_,hr=>by cases hr;exact⟨fun _ _=>rfl,C,h,rfl⟩
 | v::r,i,C,w,w',h,hl,hr=>by
   simp only[I7]at hl;have f:o+i<C.size:=A9;have g:w.cell? ⟨b,o+i,none⟩=some C[o+i]:=by simp[World.cell?,h,f]
   have j:(w.setCell ⟨b,o+i,none⟩ v).heap[b]? = some (.cells (C.setIfInBounds (o+i) v) T fz):=by
    simp[World.setCell,F1,h]
   unfold storeCells at hr;simp only[A3,I5.add_none']at hr;have a:(store ⟨b,o+i,none⟩ v).run P w=.ok () (w.setCell ⟨b,o+i,none⟩ v)∨∃ x w2,(store ⟨b,o+i,none⟩ v).run P w=.halt x w2:=by
    unfold store;cases v<;>first
     | exact .inr ⟨_,_,rfl⟩
     | (simp only[Sem.run,g]
        split
        .exact .inr ⟨_,_,rfl⟩
        .exact .inl rfl)
   rcases a with a|⟨x,w2,a⟩
   .rw[a]at hr;simp only[Result.andThen]at hr;obtain⟨q,C',n,p⟩:=rO r (i+1) _ _ _ j (by simp;omega) hr;refine⟨fun k hk=>?_,C',n,by rw[p];simp⟩;rw[q k hk];simp only[World.setCell,F1];rw[B1 (fun e=>hk e.symm)]
   .rw[a]at hr;cases hr
def yC{t:TypeId}{b o s:Nat}{C:Q0}{T:TypeId}{y:Value}{w:World}(hs:F6 P t=some s)(hw:w.heap[b]? = some (.cells C T fz))(h1:o+s<=C.size)(hr:(Instr.storeAt t (.pointer (some ⟨b,o,none⟩)) y).run P w=.ok () w') :
  (∀ k,k≠b->w'.heap[k]? = w.heap[k]?)/\∃ C',w'.heap[b]? = some (.cells C' T fz)/\C'.size=C.size:=by
 unfold Instr.storeAt at hr;simp only[A3,Instr.sureAddr,storeVar,J0 hs,Result.andThen,Sem.run_pure]at hr;by_cases a:y.cells.size≠s
 .rw[B2 a]at hr;cases hr
 .rw[B1 a]at hr;have a:=Classical.not_not.1 a;exact rO y.cells.toList 0 C w w' hw (by rw[O9,a];omega) hr
structure EE (P:Program) (ops:List Oper) (s:Act×World):Prop where
 pl:∀ o ∈ ops,∀ t x,iN o.op=some (t,x)->vA P s.2 t (s.1.eval x)
 ap:∀ i j a b,i<j->ops[i]? = some a->ops[j]? = some b->nF b i=false->(cT a.op || cT b.op)=true->∀ t x u y,iN a.op=some (t,x)->iN b.op=some (u,y)->∀ p q,s.1.eval x=.pointer (some p)->s.1.eval y=.pointer (some q)->p.block≠q.block
def sX{b:Nat}:l7 l b=true↔b ∈ l:=by
 unfold l7;rw[N1];constructor
 .rintro⟨x,h,e⟩;have:=A0 e;subst this;exact h
 .intro h;exact⟨b,h,bC b⟩
def BY{a:List Tmp}:∀ {l:List Oper} {k i:Nat} {o:Oper},OQ a k l=true->l[i]? = some o->ZS a (k+i) o=true
 | [],k,i,o,_,h=>by simp at h
 | p::l,k,0,o,h,hi=>by
   simp at hi;subst hi;exact(B3 h).1
 | p::l,k,i+1,o,h,hi=>by
   have:=BY (l:=l) (k:=k+1) (i:=i) (o:=o) (B3 h).2 (by simpa using hi);rw[show k+(i+1)=k+1+i by omega];exact this
structure One (ops:List Oper) (i:Nat) (o:Oper):Prop where
 cls:zS o.op=true
 grd:o.guard=none
 ads:∀ p ∈ ops,∀ t x,iN p.op=some (t,x)->∀ d,o.dst=some d->d ∉ lR x
 lt:∀ e ∈ o.after,Region.binds .any e=true->e.on<i
def jA{ops:List Oper}(h:gS ops=true){i:Nat}{o:Oper}(hi:ops[i]? = some o):One ops i o:=by
 have h1:=BY (B3 h).1 hi;rw[D8]at h1;unfold ZS at h1;obtain⟨j,h1⟩:=B3 h1;obtain⟨a2,h1⟩:=B3 h1;obtain⟨a3,a4⟩:=B3 h1;refine⟨j,?_,fun p hp t x a d b hm=>?_,fun e he f=>?_⟩
 .cases n:o.guard with
  | none=>rfl
  | some g=>rw[n]at a2;cases a2
 .have:l7 (SV ops) d=true:=sX.2 (List.mem_flatMap.2 ⟨p,hp,by rw[a];exact hm⟩);unfold vY at a3;rw[b]at a3;simp only at a3;rw[this]at a3;cases a3
 .have:=cM.1 a4 e he;rw[f]at this;exact A1 this
def BD{p:Oper->Oper->Bool}{ops:List Oper}(h:yP p ops=true){i j:Nat}{a b:Oper}(f:i<j)(hi:ops[i]? = some a)(g:ops[j]? = some b)(he:nF b i=false):p a b=true:=by
 unfold yP at h;have e:=(A7.1 g).1
 have:=D2.1 (D2.1 h j (W9.2 e)) i (W9.2 f);rw[hi,g]at this;simp only[he,R6]at this;exact this
def BH{o:Oper}{a:Act}(b:∀ t,d=some t->t ∉ OC o.op)(f:zS o.op=true):jV o.op (a.put d v).eval=jV o.op a.eval:=by
 cases g:o.op<;>rw[g]at f b<;>first
  | cases f;done
  | skip
 .unfold jV;simp only;rw[eE b]
 .unfold jV;simp only;rw[eE b]
 .unfold jV;simp only;rw[eE b]
 .unfold jV;simp only;rw[eE (fun t e hm=>b t e (B7.2 (.inl hm))),eE (fun t e hm=>b t e (B7.2 (.inr hm)))]
def qM{o:Oper}{s:Act×World}(e:zS o.op=true)(a:cT o.op=false)(hp:∀ t x,iN o.op=some (t,x)->vA P s.2 t (s.1.eval x))(h:(jV o.op s.1.eval).run P s.2=.ok v w'):w'=s.2:=by
 cases j:o.op<;>rw[j]at e a h hp<;>first
  | cases e;done
  | cases a;done
  | skip
 .cases h;rfl
 .cases h;rfl
 .rename_i t x;obtain⟨b,o',C,T,fz,sz,g,p,n,f,q,i,z⟩:=hp t x rfl;obtain⟨u,hu⟩:=wI (P:=P) (T:=T) (fz:=fz) f q i z;have h:(Instr.loadAt t (s.1.eval x)).run P s.2=.ok v w':=h;rw[p,hu s.2 n]at h;cases h;rfl
def rN{o:Oper}{s:Act×World}(a:cT o.op=true)(hp:∀ t x,iN o.op=some (t,x)->vA P s.2 t (s.1.eval x))(h:(jV o.op s.1.eval).run P s.2=.ok v w') :
  ∃ t x b o' C T fz,iN o.op=some (t,x)/\s.1.eval x=.pointer (some ⟨b,o',none⟩)/\s.2.heap[b]? = some (.cells C T fz)/\(∀ k,k≠b->w'.heap[k]? = s.2.heap[k]?)/\∃ C',w'.heap[b]? = some (.cells C' T fz)/\C'.size=C.size:=by
 cases n:o.op<;>rw[n]at a h hp<;>first
  | cases a;done
  | skip
 rename_i t x y;obtain⟨b,o',C,T,fz,sz,g,f,e,i,A,j,B⟩:=hp t x rfl;have h:(do Instr.storeAt t (s.1.eval x) (s.1.eval y);pure undef:Sem Value).run P s.2=.ok v w':=h;simp only[A3]at h;cases hr:(Instr.storeAt t (s.1.eval x) (s.1.eval y)).run P s.2 with
 | ok u w2 =>
   rw[hr]at h;simp only[Result.andThen,Sem.run_pure]at h;cases h;rw[f]at hr;obtain⟨q,p⟩:=yC i e j hr;exact⟨t,x,b,o',C,T,fz,rfl,f,e,q,p⟩
 | halt z w2=>rw[hr]at h;cases h
def vA.keep{w:World}{t:TypeId}{p:Value}(h:vA P w t p)(hk:∀ (b:Nat) (C:Array Value) (T:TypeId) (fz:Nat×Nat),w.heap[b]? = some (.cells C T fz)->∃ C',w'.heap[b]? = some (.cells C' T fz)/\C'.size=C.size):vA P w' t p:=by
 obtain⟨b,o,C,T,fz,s,g,f,e,a,i,n,q⟩:=h;obtain⟨C',h1,j⟩:=hk b C T fz e;exact⟨b,o,C',T,fz,s,g,f,h1,a,i,A9,A9⟩
def EE.step{ops:List Oper}{s D:Act×World}{i:Nat}{o:Oper}(hr:gS ops=true)(E:EE P ops s)(hi:ops[i]? = some o)(h:oV P o s=some D):EE P ops D:=by
 obtain⟨v,h1,M⟩:=qT h;have J:=jA hr hi;have g:=D6 hi;have n:∀ p ∈ ops,∀ t x,iN p.op=some (t,x)->D.1.eval x=s.1.eval x:=fun p hp t x f=>by rw[M];exact eE (J.ads p hp t x f)
 have hk:∀ (b:Nat) (C:Array Value) (T:TypeId) (fz:Nat×Nat),s.2.heap[b]? = some (.cells C T fz)->∃ C',D.2.heap[b]? = some (.cells C' T fz)/\C'.size=C.size:=fun b C T fz B=>by
  cases A:cT o.op with
  | false=>rw[qM J.cls A (fun t x f=>E.pl o g t x f) h1];exact⟨C,B,rfl⟩
  | true =>
    obtain⟨t,x,b',o',Y,W,L,Z,X,N,S,C',O,V⟩:=rN A (fun t x f=>E.pl o g t x f) h1;by_cases e:b=b'
    .subst e;rw[N]at B;cases B;exact⟨C',O,V⟩
    .exact⟨C,by rw[S b e];exact B,rfl⟩
 refine⟨fun p hp t x f=>by rw[n p hp t x f];exact(E.pl p hp t x f).keep hk,fun i j a b F h3 I Q R t x u y H K p q G z=>?_⟩;rw[n a (D6 h3) t x H]at G;rw[n b (D6 I) u y K]at z;exact E.ap i j a b F h3 I Q R t x u y H K p q G z
def QO{ops:List Oper}{s s1 s2:Act×World}{i j:Nat}{a b:Oper}(hr:gS ops=true)(N:EE P ops s)(G:i<j)(hi:ops[i]? = some a)(M:ops[j]? = some b)(he:nF b i=false)(h1:oV P a s=some s1)(h2:oV P b s1=some s2):∃ t,oV P b s=some t/\oV P a t=some s2:=by
 have V:=jA hr hi;have O:=jA hr M;have ma:=D6 hi;have mb:=D6 M;have f:=BD (B3 hr).2 G hi M he;unfold A1T at f;obtain⟨i1,f⟩:=B3 f;obtain⟨i2,f⟩:=B3 f;obtain⟨i3,i4⟩:=B3 f;have Q:∀ t,a.dst=some t->t ∉ OC b.op:=fun t X hm=>by
  unfold vY at i2;rw[X]at i2;simp only at i2;rw[sX.2 hm]at i2;cases i2
 have Z:∀ t,b.dst=some t->t ∉ OC a.op:=fun t X hm=>by
  unfold vY at i3;rw[X]at i3;simp only at i3;rw[sX.2 hm]at i3;cases i3
 have az:∀ x y,a.dst=some x->b.dst=some y->x≠y:=fun x y n hy e=>by
  rw[n,hy]at i1;simp only at i1;subst e;rw[bC]at i1;cases i1
 obtain⟨v,J,e2⟩:=qT h1;obtain⟨u,D,e4⟩:=qT h2;obtain⟨a1,w1⟩:=s1;obtain⟨a2,w2⟩:=s2;obtain⟨a0,w0⟩:=s;simp only at J e2 D e4;subst e2;subst e4;rw[BH Q O.cls]at D;suffices hh:∃ w',(jV b.op a0.eval).run P w0=.ok u w'/\(jV a.op a0.eval).run P w'=.ok v w2 by
  obtain⟨w',q1,q2⟩:=hh;refine⟨(a0.put b.dst u,w'),jQ (s:=(a0,w0)) q1,?_⟩
  have:=jQ (P:=P) (o:=a) (s:=(a0.put b.dst u,w')) (v:=v) (w':=w2) (by show(jV a.op (a0.put b.dst u).eval).run P w'=_;rw[BH Z V.cls];exact q2);rw[this];simp only;rw[OF az]
 have E:∀ t x,iN a.op=some (t,x)->vA P w0 t (a0.eval x):=fun t x n=>N.pl a ma t x n
 have B:∀ t x,iN b.op=some (t,x)->vA P w0 t (a0.eval x):=fun t x n=>N.pl b mb t x n
 have q:∀ {o:Oper} {w w':World} {r:Value},zS o.op=true->cT o.op=false->(∀ t x,iN o.op=some (t,x)->∃ p A C T fz s g,a0.eval x=.pointer (some ⟨p,A,none⟩)/\w.heap[p]? = some (.cells C T fz)/\w'.heap[p]? = some (.cells C T fz)/\F6 P t=some s/\Y4 P t=some g/\A+s<=C.size/\A<C.size)->(jV o.op a0.eval).run P w=.ok r w->(jV o.op a0.eval).run P w'=.ok r w':=fun{o w w' r} hc L hp h=>by
  cases ho:o.op<;>rw[ho]at hc L h hp<;>first
   | cases hc;done
   | cases L;done
   | skip
  .cases h;rfl
  .cases h;rfl
  .rename_i t x;obtain⟨p,A,C,T,fz,sz,g,f1,f2,f3,f4,f5,f6,f7⟩:=hp t x rfl;obtain⟨z,hz⟩:=wI (P:=P) (T:=T) (fz:=fz) f4 f5 f6 f7;have h:(Instr.loadAt t (a0.eval x)).run P w=.ok r w:=h;show(Instr.loadAt t (a0.eval x)).run P w'=.ok r w';rw[f1,hz w f2]at h;rw[f1,hz w' f3];cases h;rfl
 cases I:cT a.op with
 | false =>
   have hw:w1=w0:=qM (s:=(a0,w0)) V.cls I E J;subst hw;refine⟨w2,D,?_⟩;refine q V.cls I (fun t x n=>?_) J;obtain⟨p,A,C,T,fz,sz,g,f1,f2,f3,f4,f5,f6⟩:=E t x n;cases F:cT b.op with
   | false =>
     have S:w2=w1:=qM (s:=(a0,w1)) O.cls F B D;subst S;exact⟨p,A,C,T,fz,sz,g,f1,f2,f2,f3,f4,f5,f6⟩
   | true =>
     obtain⟨Y,x',b',o',C0,T0,W,g1,g2,g3,g4,_⟩:=rN (s:=(a0,w1)) F B D;have H:=N.ap i j a b G hi M he (by rw[I,F];rfl) t x Y x' n g1 _ _ f1 g2;exact⟨p,A,C,T,fz,sz,g,f1,f2,(g4 p H).trans f2,f3,f4,f5,f6⟩
 | true =>
   have F:cT b.op=false:=by
    cases h:cT b.op with
    | false=>rfl
    | true=>rw[I,h]at i4;cases i4
   obtain⟨Y,x',b',o',C0,T0,W,g1,g2,g3,g4,C1,g5,g6⟩:=rN (s:=(a0,w0)) I E J;have K:∀ t x,iN b.op=some (t,x)->vA P w1 t (a0.eval x):=fun t x n=>(B t x n).keep fun b C T fz R=>by
    by_cases e:b=b'
    .subst e;rw[g3]at R;cases R;exact⟨C1,g5,g6⟩
    .exact⟨C,by rw[g4 b e];exact R,rfl⟩
   have hw:w2=w1:=qM (s:=(a0,w1)) O.cls F K D;subst hw;refine⟨w0,?_,J⟩;refine q O.cls F (fun t x n=>?_) D;obtain⟨p,A,C,T,fz,sz,g,f1,f2,f3,f4,f5,f6⟩:=B t x n;have H:=N.ap i j a b G hi M he (by rw[I,F];rfl) Y x' t x g1 n _ _ g2 f1;exact⟨p,A,C,T,fz,sz,g,f1,(g4 p (fun e=>H e.symm)).trans f2,f2,f3,f4,f5,f6⟩
def yL(P:Program)(ops:List Oper):F8->Act×World->Option (Act×World)
 | [],s=>some s
 | i::l,s=>match ops[i]? with
   | some o=>match oV P o s with
     | some s=>yL P ops l s
     | none=>none
   | none=>yL P ops l s
def kO{ops:List Oper}(hr:gS ops=true){j:Nat}{b:Oper}(f:ops[j]? = some b){l2:F8}{r:Act×World}:∀ (l1:List Nat) (s:Act×World),EE P ops s->(∀ i ∈ l1,i<j/\nF b i=false)->yL P ops (l1++j::l2) s=some r->∃ s1,oV P b s=some s1/\yL P ops (l1++l2) s1=some r
 | [],s,hg,_,h=>by
   simp only[Q7,yL,f]at h;split at h
   .rename_i s1 h1;exact⟨s1,h1,h⟩
   .cases h
 | i::l1,s,hg,hl,h=>by
   obtain⟨h0,he⟩:=hl i B4;have e:∀ i ∈ l1,i<j/\nF b i=false:=fun k hk=>hl k (C5 _ hk)
   simp only[Y0,yL]at h ⊢;cases hi:ops[i]? with
   | none =>
     rw[hi]at h;exact kO hr f l1 s hg e h
   | some a =>
     rw[hi]at h;simp only at h ⊢;split at h
     .rename_i g h1;obtain⟨s1,q1,q2⟩:=kO hr f l1 g (hg.step hr hi h1) e h;obtain⟨t,t1,t2⟩:=QO hr hg h0 hi f he h1 q1;exact⟨t,t1,by rw[t2];exact q2⟩
     .cases h
def gH(n:Nat)(listed:Array Bool):F8:=(List.range n).filter fun i=>!listed.getD i true
def mC{n:Nat}{i:Nat}:i ∈ gH n listed↔i<n/\listed.getD i true=false:=by
 unfold gH;rw[O7,W9];simp
def yN(n:Nat)(listed:Array Bool):(gH n listed).Pairwise (· < ·):=List.Pairwise.filter _ List.pairwise_lt_range
def OB{n:Nat}{i:Nat}{l1 l2:F8}(hi:i<listed.size)(h:gH n listed=l1++i::l2):gH n (listed.setIfInBounds i true)=l1++l2:=by
 have hp:=yN n listed;rw[h]at hp;have a:∀ k ∈ l1++l2,(k != i)=true:=fun k hk=>by
  have hp:=List.pairwise_append.1 hp;rcases B7.1 hk with hk|hk
  .have:=hp.2.2 k hk i B4;simp;omega
  .have:=(P6.1 hp.2.1).1 k hk;simp;omega
 have e:gH n (listed.setIfInBounds i true)=(gH n listed).filter fun k=>k != i:=by
  unfold gH;rw[List.filter_filter];apply List.filter_congr;intro k _;simp only[B0,D1];by_cases e:i=k
  .subst e;simp[hi]
  .simp[e,Ne.symm e]
 rw[e,h,List.filter_append,List.filter_cons];have b:(i != i)=false:=by simp
 rw[b];simp only[G8,if_false];rw[aV.2 fun k hk=>a k (B7.2 (.inl hk)),aV.2 fun k hk=>a k (B7.2 (.inr hk))]
def wD{ops:Array Oper}(hr:gS ops.toList=true){Q:Exit->Act->World->Prop}:∀ (fuel:Nat) (listed:Array Bool) (a:Act) (w:World) (r:Act×World),listed.size=ops.size->EE P ops.toList (a,w)->(gH ops.size listed).length=fuel->yL P ops.toList (gH ops.size listed) (a,w)=some r->Q .normal r.1 r.2->dH P rd .any ops Q fuel listed a w
 | 0,listed,a,w,r,hsz,hg,hl,h,hq=>by
   have h0:=D9.1 hl;rw[h0]at h;cases h;refine⟨?_,hq⟩;rw[S9];intro i hi;have:i ∈ gH ops.size listed:=by
    unfold Region.ready at hi;rw[O7]at hi;unfold gH;rw[O7];exact⟨hi.1,(B3 hi.2).1⟩
   rw[h0]at this;cases this
 | fuel+1,listed,a,w,r,hsz,hg,hl,h,hq=>by
   have j:∀ {i:Nat},i<ops.size->∃ o,ops.toList[i]? = some o/\ops[i]? = some o:=fun{i} hi=>⟨ops[i],by simp[hi],by simp[hi]⟩
   refine⟨fun H=>?_,fun i hi=>?_⟩
   ·
    cases g:gH ops.size listed with
    | nil=>rw[g]at hl;cases hl
    | cons i t =>
      exfalso;have E:i ∈ gH ops.size listed:=by rw[g];exact B4
      obtain⟨i1,i2⟩:=mC.1 E;obtain⟨o,u,A⟩:=j i1;have z:=jA hr u;have f:=yN ops.size listed;rw[g]at f;have x:∀ k,k<i->listed.getD k false=true:=fun k hk=>by
       have q:k<listed.size:=A9;cases G:listed.getD k true with
       | true=>rw[<- G];simp[B0,q]
       | false =>
         have:k ∈ gH ops.size listed:=mC.2 ⟨A9,G⟩;rw[g]at this;rcases A8.1 this with e|hm
         .omega
         .have:=(P6.1 f).1 k hm;omega
      have:i ∈ Region.ready .any ops listed:=by
       unfold Region.ready;rw[O7,W9];refine⟨i1,?_⟩;rw[i2,A];simp only[Bool.not_false,Bool.true_and,I3,X9];rw[cM];intro e he;cases I:Region.binds .any e with
       | false=>rfl
       | true=>rw[x e.on (z.lt e he I)];rfl
      rw[H]at this;cases this
   .have hi':=hi;unfold Region.ready at hi;rw[O7,W9]at hi;obtain⟨i1,i2⟩:=hi;obtain⟨o,u,A⟩:=j i1;have z:=jA hr u;rw[A]at i2;obtain⟨i2,i3⟩:=B3 i2;simp only[I3,X9]at i3;have B:listed.getD i true=false:=by simpa using i2
    have s:i ∈ gH ops.size listed:=mC.2 ⟨i1,B⟩;obtain⟨l1,l2,b⟩:=List.append_of_mem s;have f:=yN ops.size listed;rw[b]at f;have D:∀ k ∈ l1,k<i/\nF o k=false:=fun k hk=>by
     refine⟨(List.pairwise_append.1 f).2.2 k hk i B4,?_⟩;cases he:nF o k with
     | false=>rfl
     | true =>
       exfalso;unfold nF at he;rw[Array.any_eq_true']at he;obtain⟨e,hm,he⟩:=he;obtain⟨K,F⟩:=B3 he;have F:=A0 F
       have:=(cM.1 i3) e hm;rw[K,F]at this;simp only[N5,R6]at this;have q:=(mC (n:=ops.size) (listed:=listed) (i:=k)).1 (by rw[b];exact B7.2 (.inl hk));have C:k<listed.size:=A9;have p:=q.2;simp[B0,C]at this p;rw[this]at p;cases p
    rw[b]at h;obtain⟨s1,q1,q2⟩:=kO hr u l1 (a,w) hg D h;have U4:=OB (n:=ops.size) (listed:=listed) (i:=i) (l1:=l1) (l2:=l2) A9 b;obtain⟨J,w1⟩:=s1;unfold i0;rw[A];simp only;have hw:Region.wanted o (yielded ops a.tmps)=true:=by unfold Region.wanted;rw[z.grd]
    rw[B2 hw];refine TG z.cls q1 (wD hr fuel (listed.setIfInBounds i true) J w1 r (by simpa using hsz) (hg.step hr u q1) ?_ (by rw[U4];exact q2) hq);rw[U4];have:(l1++i::l2).length=fuel+1:=by rw[<- b];exact hl
    simp at this ⊢;omega
def vU{ops:Array Oper}(hr:gS ops.toList=true){Q:Exit->Act->World->Prop}:∀ (d k:Nat) (a:Act) (w:World),k+d=ops.size->wpL P rd ops (fun e a' w'=>e=.normal/\Q e a' w') (ops.toList.drop k) a w->∃ r,yL P ops.toList (List.range' k d) (a,w)=some r/\Q .normal r.1 r.2
 | 0,k,a,w,hk,h=>by
   have:ops.toList.drop k=[]:=r8 (by simp;omega);rw[this]at h;exact⟨(a,w),rfl,h.2⟩
 | d+1,k,a,w,hk,h=>by
   have b:k<ops.toList.length:=by simp;omega
   rw[Q5 b]at h;have f:=jA hr (A4 b);unfold wpL at h;have hw:Region.wanted ops.toList[k] (yielded ops a.tmps)=true:=by unfold Region.wanted;rw[f.grd]
   rw[B2 hw]at h;obtain⟨a',w',h1,g⟩:=VI f.cls (fun c a w hh=>by cases hh.1) h;obtain⟨r,r1,r2⟩:=vU hr d (k+1) a' w' A9 g;refine⟨r,?_,r2⟩;rw[List.range'_succ];simp only[yL,A4 b,h1];exact r1
def TT{ops:Array Oper}(hr:gS ops.toList=true){Q:Exit->Act->World->Prop}{a:Act}{w:World}(b:∀ w',w'.heap=w.heap->EE P ops.toList (a,w'))(h:∀ d,wpL P rd ops (fun e a' w'=>e=.normal/\Q e a' w') ops.toList a { w with drawn:=d })(d:Nat):dH P rd .any ops Q ops.size (Array.replicate ops.size false) a { w with drawn:=d }:=by
 obtain⟨r,r1,r2⟩:=vU hr ops.size 0 a { w with drawn:=d } A9 (by simpa using h d);have e:gH ops.size (Array.replicate ops.size false)=List.range' 0 ops.size:=by
  unfold gH;rw[List.range_eq_range',aV];intro i hi;have:i<ops.size:=by have:=List.mem_range'.1 hi;omega
  simp[B0,this]
 exact wD hr ops.size _ a _ r (by simp) (b _ rfl) (by rw[e];simp) (by rw[e];exact r1) r2
end
end
end Go.Sx
