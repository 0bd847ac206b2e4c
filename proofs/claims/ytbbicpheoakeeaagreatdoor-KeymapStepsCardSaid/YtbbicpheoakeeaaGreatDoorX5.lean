import Derived.Test.YtbbicpheoakeeaaGreatDoorX4
import Derived.MapKept
import Derived.WideKeyRuns
import Derived.Lib.Builder
import Derived.LoopNIn
import Derived.RangeFuncRecord
set_option linter.all false
set_option maxRecDepth 100000
set_option maxHeartbeats 4000000
namespace Go.Sx
variable {ks l ts:H6}{k' v v' x':Value}{cs:List Frame}{clock k pi:Nat}{y:MTy}{d:Option Tmp}{kt pt ty:TypeId}{r us vs:List U}{rows rs:List (List U)}{es es':Array MapEntry}{hs xs:D2}{c:Code}{e':MapEntry}{tys:List TypeId}{w':World}{fz:Nat×Nat}{listed:Array Bool}
section
open Go
variable [Ora]
section
variable {P:Program} {base:Nat} {ρ:Ren} {m m':Mem} {w:World}
def uP:∀ {ts:H6} {cs cs':D2},AI ts cs=true->(∀ t ∈ ts,t<10)->LR ρ cs cs'->(cs.map (D9 Ora.env)).map G7=ts/\cs'=(cs.map (D9 Ora.env)).map S8
 | [],[],cs',_,_,hl=>by cases hl.nil_inv;exact⟨rfl,rfl⟩
 | t::ts,v::vs,cs',h,ht,hl=>by
   obtain⟨h1,f⟩:=B6 (show(Nat.beq (G8 v) t && AI ts vs)=true from h);have h1:=A0 h1;obtain⟨v',r,rfl,g1,g2⟩:=hl.tail;obtain⟨a,b⟩:=uP f (fun x hx=>ht x (C7 _ hx)) g2;obtain⟨c,d⟩:=aK g1 (by rw[h1];exact ht t B5);have e:S8 (D9 Ora.env v)=v':=by unfold S8;rw[c];rfl
   exact⟨by rw[C3,C3,a,d,h1],by rw[C3,C3,e,<- b]⟩
 | [],_::_,_,h,_,_=>by cases h
 | _::_,[],_,h,_,_=>by cases h
def jS{a:Bool}{cs:D2}(h:oF a ts v=some cs)(f:∀ t ∈ ts,t<10)(hv:VR ρ v v'):v'=Y0 a (cs.map (D9 Ora.env))/\(cs.map (D9 Ora.env)).map G7=ts:=by
 unfold oF at h;split at h
 .rename_i c;obtain⟨h1,h⟩:=A3 h;cases h;obtain⟨cs',rfl,g⟩:=V9 hv;obtain⟨e,b⟩:=uP h1 f g;exact⟨by rw[b];rfl,e⟩
 .cases h
 .obtain⟨h1,h⟩:=A3 h;cases h;obtain⟨e,b⟩:=uP h1 f (LR.cons hv LR.nil);refine⟨?_,e⟩
  have:=F4 List.head? b
  simpa [Y0]using this
def yI{t:Nat}(h:gB P t=some k):k<10:=by
 unfold gB at h;split at h
 .cases h;decide
 .cases h;have:=M1 ‹_›;omega
 .cases h;decide
 .cases h
def MH:∀ {g:List Field} {i:Nat} {l:H6},vX P g i=some l->∀ t ∈ l,t<10
 | [],i,l,h,t,e=>by cases h;cases e
 | f::g,i,l,h,t,e=>by
   unfold vX at h;split at h
   .rename_i a b h1 j;obtain⟨_,h⟩:=A3 h;cases h;rcases B4.1 e with rfl|e
    .exact yI h1
    .exact MH j t e
   .cases h
def GU{T:TypeId}(h:WX P T=some y):P.underlying T=some (.map y.kt y.vt)/\oQ P y.kt=some (y.ka,y.ks)/\RU P y.vt=some (y.va,y.vs)/\0<y.ks.length/\(∀ t ∈ y.ks,t<10)/\(∀ t ∈ y.vs,t<10)/\(y.va=false->y.vs.length=1):=by
 unfold WX at h;split at h
 .rename_i kt vt hu;split at h
  .rename_i ka k ks va vs h1 a;cases h;refine⟨hu,h1,a,Nat.succ_pos _,?_,?_,?_⟩
   .intro t e;unfold oQ at h1;split at h1
    .cases hs:P.stoodInHeld kt with
     | true=>rw[hs]at h1;cases h1
     | false =>
       rw[hs]at h1;simp only[E0]at h1;split at h1
       .rename_i l f;cases h1;exact MH f t e
       .cases h1
    .split at h1
     .rename_i z g;cases h1;simp only[B4,K7,or_false]at e;subst e;exact yI g
     .cases h1
   .intro t e;unfold RU at a;split at a
    .obtain⟨h3,a⟩:=A3 a;cases a;exact A1 (D6.1 h3 t e)
    .obtain⟨h3,a⟩:=A3 a;cases a;simp only[B4,K7,or_false]at e;subst e;exact A1 h3
    .cases a
   .intro b;have b:va=false:=b;subst b;unfold RU at a;split at a
    .obtain⟨_,a⟩:=A3 a;cases a
    .obtain⟨_,a⟩:=A3 a;cases a;rfl
    .cases a
  .cases h
 .cases h
def SE{t:TypeId}{u v:U}(h:gB P t=some k)(h1:G7 u=k)(f:G7 v=k)(n:Nat)(w:World):(Op.equalIn (n+1) t (S8 u) (S8 v)).run P w=.ok (isU u v) w:=by
 have o:=yI h;unfold gB at h;split at h
 .rename_i hu;cases h;cases u<;>simp only[G7]at h1<;>first|omega|skip
  .have:=M1 ‹_›;omega
  .cases v<;>simp only[G7]at f<;>first|omega|skip
   .have:=M1 ‹_›;omega
   .simp[S8,toV,isU,eqU,Op.equalIn,A4,D1 hu,Result.andThen]
 .rename_i j hu;cases h;cases u with
  | int a x =>
    cases v with
    | int b z =>
      have i:=sH h1;have g:=sH f;subst i;subst g;simp[S8,toV,isU,eqU,Op.equalIn,A4,D1 hu,Result.andThen]
    | bool b=>simp only[G7]at f;have:=M1 j;omega
    | str s=>simp only[G7]at f;have:=M1 j;omega
    | seq _ _ _=>simp only[G7]at f;omega
    | none=>simp only[G7]at f;omega
  | bool b=>simp only[G7]at h1;have:=M1 j;omega
  | str s=>simp only[G7]at h1;have:=M1 j;omega
  | seq _ _ _=>simp only[G7]at h1;omega
  | none=>simp only[G7]at h1;omega
 .rename_i hu;cases h;cases u<;>simp only[G7]at h1<;>first|omega|skip
  .have:=M1 ‹_›;omega
  .cases v<;>simp only[G7]at f<;>first|omega|skip
   .have:=M1 ‹_›;omega
   .rename_i p q
    have:=run_equalIn_string (P:=P) w n t ⟨⟨p⟩⟩ ⟨⟨q⟩⟩ hu;have e:∀ s:List UInt8,S8 (.str s)=.string ⟨⟨s⟩⟩:=fun _=>rfl
    rw[e,e,this];simp[isU,eqU,ByteArray.toList_eq]
 .cases h
def ZL{t:TypeId}{d:TypeDesc}{u v:U}(g:P.underlying t=some d)(h:gB P t=some k)(h1:G7 u=k)(f:G7 v=k):Instr.sameNow d (S8 u) (S8 v)=some (isU u v):=by
 unfold gB at h;split at h
 .rename_i hu;rw[hu]at g;cases g;cases h;cases u<;>simp only[G7]at h1<;>first|omega|skip
  .have:=M1 ‹_›;omega
  .cases v<;>simp only[G7]at f<;>first|omega|skip
   .have:=M1 ‹_›;omega
   .simp[S8,toV,isU,eqU,Instr.sameNow]
 .rename_i j hu;rw[hu]at g;cases g;cases h;cases u with
  | int a x =>
    cases v with
    | int b z =>
      have n:=sH h1;have i:=sH f;subst n;subst i;simp[S8,toV,isU,eqU,Instr.sameNow]
    | bool b=>simp only[G7]at f;have:=M1 j;omega
    | str s=>simp only[G7]at f;have:=M1 j;omega
    | seq _ _ _=>simp only[G7]at f;have:=M1 j;omega
    | none=>simp only[G7]at f;have:=M1 j;omega
  | bool b=>simp only[G7]at h1;have:=M1 j;omega
  | str s=>simp only[G7]at h1;have:=M1 j;omega
  | seq _ _ _=>simp only[G7]at h1;have:=M1 j;omega
  | none=>simp only[G7]at h1;have:=M1 j;omega
 .rename_i hu;rw[hu]at g;cases g;cases h;cases u<;>simp only[G7]at h1<;>first|omega|skip
  .have:=M1 ‹_›;omega
  .cases v<;>simp only[G7]at f<;>first|omega|skip
   .have:=M1 ‹_›;omega
   .rename_i p q;have e:(ByteArray.mk ⟨p⟩ == ByteArray.mk ⟨q⟩)=(p == q):=by
     show(Array.mk p == Array.mk q)=_;rw[K3,beq_iff_eq,beq_iff_eq];exact⟨fun h=>by injection h,fun h=>by rw[h]⟩
    simp[S8,toV,isU,eqU,Instr.sameNow,e]
 .cases h
def tT{t:TypeId}(h:gB P t=some k){X:D2}{i:Nat}(hx:X[i]? = some v)(w:World):(part t ⟨X⟩ i).run P w=.ok v w:=by
 have a:∀ d,P.underlying t=some d->(match d with|.struct _|.array _ _=>False|_=>True)->(part t ⟨X⟩ i).run P w=.ok v w:=fun d e b=>by
  cases d<;>simp only at b<;>simp[part,isAgg,A4,D1 e,Result.andThen,hx]
 unfold gB at h;split at h
 .exact a _ ‹_› trivial
 .exact a _ ‹_› trivial
 .exact a _ ‹_› trivial
 .cases h
def EE:∀ {g:List Field} {i:Nat} {ks:H6} {us vs:List U} {p q:D2},vX P g i=some ks->us.map G7=ks->vs.map G7=ks->p.length=i->q.length=i->∀ (n:Nat) (w:World),(Op.eqFields (n+1) ⟨p++us.map S8⟩ ⟨q++vs.map S8⟩ g).run P w=.ok (U0 us vs) w
 | [],i,ks,us,vs,p,q,h,h1,h2,hp,hq,n,w=>by
   cases h;have e:us=[]:=by simpa using h1
   have b:vs=[]:=by simpa using h2
   subst e;subst b;simp[Op.eqFields,U0]
 | f::g,i,ks,us,vs,p,q,h,h1,h2,hp,hq,n,w=>by
   unfold vX at h;split at h
   .rename_i t l j B;obtain⟨A,h⟩:=A3 h;cases h;obtain⟨o,a⟩:=B6 A;have a:=A0 a;have z:f.name ≠ "_":=by simpa using o
    cases us with
    | nil=>cases h1
    | cons u us =>
      cases vs with
      | nil=>cases h2
      | cons v vs =>
        simp only[C3,J6]at h1 h2;have g1:(p++(u::us).map S8)[f.offset]? = some (S8 u):=by rw[a,<- hp,E1 (A6 _)];simp
        have g2:(q++(v::vs).map S8)[f.offset]? = some (S8 v):=by rw[a,<- hq,E1 (A6 _)];simp
        have e:=tT j g1 w;have b:=tT j g2 w;have s:=SE j h1.1 h2.1 n w;have x:=EE (p:=p++[S8 u]) (q:=q++[S8 v]) B h1.2 h2.2 (by simp[hp]) (by simp[hq]) n w;rw[N1,N1]at x;unfold Op.eqFields;rw[B0 z];simp only[U0];cases hs:isU u v with
        | false =>
          simp only[A4,e,b,s,hs,Result.andThen_ok];simp
        | true =>
          simp only[A4,e,b,s,hs,Result.andThen_ok,gZ];exact x
   .cases h
def A9F{a:Bool}(h:oQ P kt=some (a,ks))(h1:us.map G7=ks)(b:vs.map G7=ks)(w:World):(Op.equal kt (Y0 a us) (Y0 a vs)).run P w=.ok (U0 us vs) w:=by
 unfold oQ at h;split at h
 .rename_i f hu;cases hs:P.stoodInHeld kt with
  | true=>rw[hs]at h;cases h
  | false =>
    rw[hs]at h;simp only[E0]at h;split at h
    .rename_i l i;cases h;have e:P.fieldsOf kt=f:=by simp[Program.fieldsOf,hu]
     show(Op.equalIn (9999+1) kt (.agg _) (.agg _)).run P w=_;rw[run_equalIn_struct (P:=P) w 9999 kt _ _ (by rw[e];exact hu) hs,e];exact EE (p:=[]) (q:=[]) i h1 b rfl rfl 9998 w
    .cases h
 .split at h
  .rename_i k g;cases h;cases us with
   | nil=>cases h1
   | cons u us=>cases us with
     | cons _ _=>simp at h1
     | nil=>cases vs with
       | nil=>cases b
       | cons v vs=>cases vs with
         | cons _ _=>simp at b
         | nil =>
           simp only[C3,F6,J6,and_true]at h1 b
           have:=SE g h1 b 9999 w;show(Op.equalIn (9999+1) kt (S8 u) (S8 v)).run P w=_;rw[this];simp[U0]
  .cases h
def AR{t:TypeId}(h:gB P t=some k)(e:Bool)(n:Nat)(v:Value)(w:World):(Instr.checkKey e (n+1) t v).run P w=.ok () w:=by
 unfold gB at h;split at h
 .rename_i hu;simp[Instr.checkKey,A4,D1 hu,Result.andThen]
 .rename_i hu;simp[Instr.checkKey,A4,D1 hu,Result.andThen]
 .rename_i hu;simp[Instr.checkKey,A4,D1 hu,Result.andThen]
 .cases h
def tF(e:Bool)(n:Nat)(w:World):∀ (L:List Field) (i:Nat) (ks:List Nat) (us:List U) (p:List Value),vX P L i=some ks->us.map G7=ks->p.length=i ->
  (forIn L PUnit.unit fun f (_:PUnit)=>if f.name ≠ "_" then(do let x <- part f.type ⟨p++us.map S8⟩ f.offset;Instr.checkKey e (n+1) f.type x;pure (ForInStep.yield PUnit.unit):Sem (ForInStep PUnit))else pure (ForInStep.yield PUnit.unit)).run P w=.ok PUnit.unit w
 | [],i,ks,us,p,h,h1,hp=>by simp
 | f::fs,i,ks,us,p,h,h1,hp=>by
   unfold vX at h;split at h
   .rename_i t l g z;obtain⟨s,h⟩:=A3 h;cases h;obtain⟨b,a⟩:=B6 s;have a:=A0 a;have q:f.name ≠ "_":=by simpa using b
    cases us with
    | nil=>cases h1
    | cons u us =>
      simp only[C3,J6]at h1;have g1:(p++(u::us).map S8)[f.offset]? = some (S8 u):=by rw[a,<- hp,E1 (A6 _)];simp
      have A:=tT g g1 w;have o:=AR g e n (S8 u) w;have j:=tF e n w fs (i+1) l us (p++[S8 u]) z h1.2 (by simp[hp]);rw[N1]at j;rw[List.forIn_cons];simp only[B0 q,A4,A,o,Result.andThen_ok,Sem.run_pure];exact j
   .cases h
def EO{a:Bool}(h:oQ P kt=some (a,ks))(h1:us.map G7=ks)(e:Bool)(w:World):(Instr.checkKey e 10000 kt (Y0 a us)).run P w=.ok () w:=by
 unfold oQ at h;split at h
 .rename_i b hu;cases hs:P.stoodInHeld kt with
  | true=>rw[hs]at h;cases h
  | false =>
    rw[hs]at h;simp only[E0]at h;split at h
    .rename_i l g;have h:=h;cases h;have key:∀ n:Nat,(Instr.checkKey e (n+2) kt (.agg ⟨us.map S8⟩)).run P w=.ok () w:=fun n=>by
      rw[Instr.checkKey];simp only[A4,D1 hu,Result.andThen_ok];rw[<- Array.forIn_toList]
      have:=tF e n w b.toList 0 _ us [] g h1 rfl;rw[G9]at this;rw[this];rfl
     exact key 9998
    .cases h
 .split at h
  .rename_i k f;cases h;exact AR f e 9999 _ w
  .cases h
def oK(k:List U):List (List U)->Nat->Option (Nat×List U)
 | [],_=>none
 | r::rs,i=>if U0 k r then some (i,r)else oK k rs (i+1)
def uB:∀ (us r:List U),U0 us (r.take us.length)=U0 us r
 | [],r=>rfl
 | a::us,[]=>rfl
 | a::us,b::r=>by
   show(isU a b && U0 us (r.take us.length))=(isU a b && U0 us r);rw[uB us r]
def wV.head{e:MapEntry}{es:List MapEntry}(h:wV y (r::rs) (e::es)):(r.map G7=y.ks++y.vs/\e.key=Y0 y.ka (r.take y.ks.length)/\e.val=Y0 y.va (r.drop y.ks.length))/\wV y rs es :=
 ⟨h.2 0 r e rfl rfl,by have:=h.1;simpa using this,fun i row a h1 b=>h.2 (i+1) row a (by simpa using h1) (by simpa using b)⟩
def CN(h:r.map G7=y.ks++y.vs):(r.take y.ks.length).map G7=y.ks/\(r.drop y.ks.length).map G7=y.vs:=by
 constructor
 .rw[List.map_take,h,List.take_left'];rfl
 .rw[List.map_drop,h,List.drop_left'];rfl
abbrev CE(y:MTy)(us:List U)(rows:List (List U))(i:Nat):Option (Nat×Value):=(oK us rows i).map fun p=>(p.1,Y0 y.va (p.2.drop y.ks.length))
def FC{y:MTy}(f:oQ P y.kt=some (y.ka,y.ks)){us:List U}(h1:us.map G7=y.ks):∀ {rows:List (List U)} {es:List MapEntry} (i:Nat),wV y rows es->(Instr.findAsking y.kt (Y0 y.ka us) es i).run P w=.ok (CE y us rows i) w
 | [],[],i,_=>by simp[Instr.findAsking,CE,oK]
 | [],_::_,i,h=>by have:=h.1;simp at this
 | _::_,[],i,h=>by have:=h.1;simp at this
 | r::rs,e::es,i,h=>by
   obtain⟨⟨a,b,c⟩,d⟩:=h.head;obtain⟨t1,t2⟩:=CN a;have hlen:us.length=y.ks.length:=by rw[<- h1,E7]
   have n:=A9F (P:=P) f h1 t1 w;have j:U0 us (r.take y.ks.length)=U0 us r:=by rw[<- hlen];exact uB us r
   have g:=FC f h1 (i+1) d;unfold Instr.findAsking;rw[b];simp only[A4,n,j,Result.andThen_ok,CE,oK];cases o:U0 us r with
   | true=>simp[c]
   | false=>simp only[J8,if_false];exact g
def A07{y:MTy}{k:Nat}{d:TypeDesc}(n:P.underlying y.kt=some d)(hs:gB P y.kt=some k)(j:y.ka=false)(f:y.ks=[k]){u:U}(h1:G7 u=k):∀ {rows:List (List U)} {es:List MapEntry} (i:Nat),wV y rows es->Instr.findNow d (S8 u) es i=some (CE y [u] rows i)
 | [],[],i,_=>rfl
 | [],_::_,i,h=>by have:=h.1;simp at this
 | _::_,[],i,h=>by have:=h.1;simp at this
 | r::rs,e::es,i,h=>by
   obtain⟨⟨a,b,c⟩,o⟩:=h.head;cases r with
   | nil=>rw[f]at a;simp at a
   | cons g r =>
     have a0:G7 g=k:=by rw[f]at a;simp at a;exact a.1
     have b:e.key=S8 g:=by rw[b,j,f];rfl
     have p:=ZL n hs h1 a0;have q:=A07 n hs j f h1 (i+1) o;unfold Instr.findNow;rw[b,p];simp only[CE,oK,U0,oT];cases s:isU u g with
     | true=>simp[c]
     | false=>simp only[J8,if_false];exact q
def AE(a:oQ P y.kt=some (y.ka,y.ks))(h1:us.map G7=y.ks){es:List MapEntry}(h:wV y rows es):(Instr.findKey y.kt (Y0 y.ka us) es).run P w=.ok (CE y us rows 0) w:=by
 have f:=a;unfold oQ at a;split at a
 .rename_i i hu;rw[run_findKey_eq w (by rw[hu]) (Y0 y.ka us) es];exact FC f h1 0 h
 .split at a
  .rename_i k hs;have g:y.ka=false:=(F4 Prod.fst (A9 a)).symm;have b:y.ks=[k]:=(F4 Prod.snd (A9 a)).symm;rw[b]at h1;cases us with
   | nil=>simp at h1
   | cons u us=>cases us with
     | cons _ _=>simp at h1
     | nil =>
       simp only[C3,F6,J6,and_true]at h1;obtain⟨d,e⟩:∃ d,P.underlying y.kt=some d:=by
        cases e:P.underlying y.kt with
        | some d=>exact⟨d,rfl⟩
        | none=>unfold gB at hs;rw[e]at hs;cases hs
       rw[g];exact MapKept.run_findKey e (A07 e hs g b h1 0 h)
  .cases a
def MB{k:List U}:∀ (rows:List (List U)) (i:Nat),(oK k rows i).isSome=rows.any (U0 k)
 | [],_=>rfl
 | r::rs,i=>by
   simp only[oK,Q7];cases U0 k r with
   | true=>rfl
   | false=>simp only[J8,if_false,Q9];exact MB rs (i+1)
def DW{k:List U}:∀ (rows:List (List U)) (i:Nat),(oK k rows i).map (·.2)=rows.find? (U0 k)
 | [],_=>rfl
 | r::rs,i=>by
   simp only[oK,dN];cases U0 k r with
   | true=>rfl
   | false=>simp only[J8,if_false];exact DW rs (i+1)
def sP{k:List U}:∀ {rows:List (List U)} {i j:Nat} {r:List U},oK k rows i=some (j,r)->i<=j/\rows[j-i]? = some r/\U0 k r=true
 | [],_,_,_,h=>by cases h
 | x::rs,i,j,r,h=>by
   unfold oK at h;cases e:U0 k x with
   | true=>rw[e]at h;cases h;exact⟨A6 _,by simp,e⟩
   | false =>
     rw[e]at h;obtain⟨a,b,c⟩:=sP (rows:=rs) h;exact⟨A2,by rw[show j-i=(j-(i+1))+1 by omega];exact b,c⟩
def KQ{kw:Nat}{c:List U}:∀ (rows:List (List U)) (i:Nat),KR kw c rows=match oK (c.take kw) rows i with
  | some p=>rows.set (p.1-i) c
  | none=>rows++[c]
 | [],_=>rfl
 | r::rs,i=>by
   unfold KR oK;cases b:U0 (c.take kw) r with
   | true=>simp
   | false =>
     simp only[J8,if_false];rw[KQ rs (i+1)];cases hx:oK (c.take kw) rs (i+1)with
     | none=>rfl
     | some p =>
       obtain⟨a,_⟩:=sP (r:=p.2) (j:=p.1) hx;show r::rs.set (p.1-(i+1)) c=(r::rs).set (p.1-i) c;rw[show p.1-i=(p.1-(i+1))+1 by omega];rfl
def HI{b:Nat}(h:VR ρ (.map (some b)) v'):∃ l,ρ b=some l/\v'=.map (some l.blk):=by
 cases h with
 | pure hp=>simp[I8]at hp
 | map h=>exact⟨_,h,rfl⟩
def A4e{T:TypeId}(h:HR P base ρ m.H w)(s:base<=w.heap.size)(a:A1F P m T=some (v,m'))(o:K4 ρ m.n m'.hi)(p:Sat m'.lg):VOk P base ρ m w (Instr.makeMap T none) v m':=by
 unfold A1F at a;split at a
 .rename_i y j;rw[O0]at a;have g:=aU a;have x:=kM (lg:=m'.lg) p (by rw[g];exact .refl _);obtain⟨u,z,t,wd,rows,A⟩:=x;have f:Ora.env m.lg.nx=.seq false y.w []:=by
   have hw:0<y.w:=by have:=(GU j).2.2.2.1;unfold MTy.w;omega
   rw[u];show(if y.w=0 then U.none else match i6 y.w (0 / y.w) []with
    | some r=>U.seq false y.w r
    | none=>.none)=_
   rw[A8 A2,Nat.zero_div];rfl
  have b:=St.wLg h (fT m (10+y.w) (.mk y.w) []);obtain⟨h1,q,h3⟩:=St.alloc (w':={ w with heap:=w.heap.push (.map #[] 0) }) (l:=lc w.heap.size 0 0) b.hr s a (by rw[YF];exact o) ⟨rfl,rfl,rfl⟩ rfl rfl
   ⟨⟨rfl,rfl⟩,y,#[],0,[],j,rfl,by simp,f,⟨rfl,fun i row e hr=>by simp at hr⟩,nC,fun e he=>by cases he⟩
  refine⟨.map (some w.heap.size),_,_,?_,?_,St.trans o b h3⟩
  .simp[Instr.makeMap,newObj,Sem.run,A4,Result.andThen]
  .rw[h1];exact .map q
 .cases a
def iI{t:Nat}{op:LOp}(h:U3 m t op xs=some (v,m'))(b:Sat m'.lg):t<10/\G7 (evU op (xs.map (D9 Ora.env)))=t/\VR ρ v (S8 (evU op (xs.map (D9 Ora.env)))):=by
 obtain⟨u,i,a,r,e,f,g⟩:=M8 h b;subst i;refine⟨g,a,?_⟩;have:S8 (evU op (xs.map (D9 Ora.env)))=r:=by unfold S8;rw[e];rfl
 rw[this];exact f ρ
def DZ{wd kw c t:Nat}{b:D2}{n:Bool}{rows:List (List U)}(s:Ora.env c=.seq n wd rows)(u:b.length=kw):∀ {ts:H6} {f:D2} {j:Nat} {m m':Mem} {hs:D2},uK wd kw c t b ts f j m=some (hs,m')->Sat m'.lg ->
  K1 m m'/\m.lg.le m'.lg/\hs.length=ts.length/\f.length=ts.length /\
  (∀ r,rows.find? (U0 (b.map (D9 Ora.env)))=some r->∀ i:Nat,i<ts.length->∃ v,hs[i]? = some v/\VR ρ v (S8 (r.getD (j+i) .none))) /\
  (rows.find? (U0 (b.map (D9 Ora.env)))=none->∀ i:Nat,i<ts.length->∃ v z,hs[i]? = some v/\f[i]? = some z/\VR ρ v (S8 (D9 Ora.env z)))
 | [],[],j,m,m',hs,h,hS=>by
   cases h;exact⟨.refl _,.refl _,rfl,rfl,fun r _ i hi=>(by simp at hi),fun _ i hi=>(by simp at hi)⟩
 | [],_::_,j,m,m',hs,h,hS=>by cases h
 | _::_,[],j,m,m',hs,h,hS=>by cases h
 | tg::ts,z::f,j,m,m',hs,h,hS=>by
   unfold uK at h;split at h
   .rename_i v m1 hv;split at h
    .rename_i r m2 hr;cases h;obtain⟨A,a2,a3,a4,a5,B⟩:=DZ s u hr hS;have q:Sat m1.lg:=hS.le a2;obtain⟨_,_,a⟩:=iI (ρ:=ρ) hv q;have o:evU (.mget wd kw j) ((hole c t::z::b).map (D9 Ora.env))=(match rows.find? (U0 (b.map (D9 Ora.env)))with
       | some r=>r.getD j .none
       | none=>D9 Ora.env z):=by
      show evU (.mget wd kw j) (Ora.env c::D9 Ora.env z::b.map (D9 Ora.env))=_;rw[s];show(if wd=wd/\(b.map (D9 Ora.env)).length=kw then _ else U.none)=_;rw[B0 ⟨rfl,by rw[E7];exact u⟩];cases rows.find? (U0 (b.map (D9 Ora.env)))<;>rfl
     rw[o]at a;refine⟨(H8 hv).trans A,(I3 hv).trans a2,by simp[a3],by simp[a4],fun C e i hi=>?_,fun e i hi=>?_⟩
     .cases i with
      | zero=>rw[e]at a;exact⟨v,rfl,a⟩
      | succ i =>
        obtain⟨x,p,g⟩:=a5 C e i (by simpa using hi);exact⟨x,by simpa using p,by rw[show j+(i+1)=j+1+i by omega];exact g⟩
     .cases i with
      | zero=>rw[e]at a;exact⟨v,z,rfl,rfl,a⟩
      | succ i =>
        obtain⟨x,E,p,g,D⟩:=B e i (by simpa using hi);exact⟨x,E,by simpa using p,by simpa using g,D⟩
    .cases h
   .cases h
def A8G{vs:D2}(n:hs.length=vs.length)(h:∀ i:Nat,i<vs.length->∃ v v',hs[i]? = some v/\vs[i]? = some v'/\VR ρ v v'):LR ρ hs vs:=⟨n,fun i v v' h1 f=>by
 obtain⟨a,b,g,e,j⟩:=h i (B3.1 f).1;rw[h1]at g;rw[f]at e;cases g;cases e;exact j⟩
def A3W{a:Bool}(h:A3X a hs=some v)(b:LR ρ hs (us.map S8)):VR ρ v (Y0 a us):=by
 unfold A3X at h;split at h
 .cases h;exact .agg b.1 b.2
 .cases h;cases us with
  | nil=>have:=b.1;simp at this
  | cons u us =>
    obtain⟨v',r,e,g,_⟩:=b.tail;rw[C3,J6]at e;rw[<- e.1]at g;exact g
 .cases h
def WZ{T:TypeId}{x k:Value}{ok:Bool}(h:HR P base ρ m.H w)(o:zJ P m T x k ok=some (v,m'))(hx:VR ρ x x')(hk:VR ρ k k')(Y:Sat m'.lg):VOk P base ρ m w (Instr.lookup T x' k' ok) v m':=by
 unfold zJ at o;split at o
 .rename_i r y hy;obtain⟨hu,E,au,an,ay,N,ao⟩:=GU hy;obtain⟨l,hl,rfl⟩:=HI hx;split at o
  .rename_i c t T2 f z hg aw hz;obtain⟨M,a⟩:=A3 o;clear o;have M:=A0 M;subst M;split at a
   .rename_i zc V;split at a
    .rename_i hs m1 Z;split at a
     .rename_i v1 hv;obtain⟨⟨⟨aq,ar⟩,y2,es,clock,rows,g1,g2,g3,g4,g5,g6⟩,_⟩:=h.atl hl hg;rw[hy]at g1;have g1:=A9 g1;subst g1;obtain⟨k1,R⟩:=jS aw ay hk;have az:VR ρ z z:=.ofC (xO hz).choose_spec.2.2;obtain⟨z1,z2⟩:=jS V N az;have D:f.length=y.ks.length:=by rw[<- R];simp
      have X:Sat m1.lg:=by
       cases ok with
       | false=>cases a;exact Y
       | true =>
         simp only[E5]at a;split at a
         .rename_i J;cases a;exact Y.le (I3 J)
         .cases a
      obtain⟨a1,a2,a3,a4,a5,a6⟩:=DZ (ρ:=ρ) g4 D Z X;have C:=AE (P:=P) (w:=w) E R g5;have u:=EO (P:=P) E R es.isEmpty w;have j:=DW (k:=f.map (D9 Ora.env)) rows 0;have A:∀ {us:List U},LR ρ hs (us.map S8)->VR ρ v1 (Y0 y.va us):=fun g=>A3W hv g
      have s:∃ val,VR ρ v1 val/\(Instr.lookup T2 (.map (some l.blk)) k' ok).run P w=.ok (if ok then .tuple #[val,.bool (rows.any (U0 (f.map (D9 Ora.env))))]else val) w:=by
       have G:(getObj l.blk).run P w=.ok (.map es clock) w:=by simp[getObj,Sem.run,g3]
       have e:=MB (k:=f.map (D9 Ora.env)) rows 0;cases F:oK (f.map (D9 Ora.env)) rows 0 with
       | none =>
         rw[F]at j e;have g:LR ρ hs ((zc.map (D9 Ora.env)).map S8):=A8G (by rw[a3,E7,E7,a4]) fun i hi=>by
          have ax:i<y.vs.length:=by rw[E7,E7,a4]at hi;exact hi
          obtain⟨S,z',W,Q,e3⟩:=a6 j.symm i ax;exact⟨S,_,W,by rw[F8,F8,Q];rfl,e3⟩
         refine⟨z,by rw[z1];exact A g,?_⟩;have e:rows.any (U0 (f.map (D9 Ora.env)))=false:=e.symm;rw[k1];simp only[Instr.lookup,A4,D1 hu,Result.andThen_ok,G,u,C,CE,F,Option.map_none,aR hz,Sem.run_pure,e]
       | some p =>
         obtain⟨pi,q⟩:=p;rw[F]at j e;obtain⟨_,K,q2⟩:=sP F;have K:rows[pi]? = some q:=by simpa using K
         have L:pi<es.toList.length:=by rw[<- g5.1];exact(B3.1 K).1
         obtain⟨t1,t2,t3⟩:=g5.2 pi q es.toList[pi] K (A5 L);have av:q.length=y.ks.length+y.vs.length:=by
          have:=F4 List.length t1
          simpa using this
         have g:LR ρ hs ((q.drop y.ks.length).map S8):=A8G (by rw[a3,E7,E4];omega) fun i hi=>by
          rw[E7,E4]at hi;obtain⟨S,W,Q⟩:=a5 q j.symm i A2;refine⟨S,_,W,?_,Q⟩;rw[F8,I4,A5 A2,L6,B2,A5 A2];rfl
         refine⟨Y0 y.va (q.drop y.ks.length),A g,?_⟩;have e:rows.any (U0 (f.map (D9 Ora.env)))=true:=e.symm;rw[k1];simp only[Instr.lookup,A4,D1 hu,Result.andThen_ok,G,u,C,CE,F,L6,Sem.run_pure,e]
      obtain⟨val,I,n⟩:=s;cases ok with
      | false =>
        cases a;obtain⟨lg,rfl⟩:=a1;exact⟨val,ρ,w,n,I,St.wLg h lg⟩
      | true =>
        simp only[E5]at a;split at a
        .rename_i b m2 J;cases a;obtain⟨_,_,B⟩:=iI (ρ:=ρ) J Y;have O:evU (.mhas y.w y.ks.length) ((hole c t::f).map (D9 Ora.env))=.bool (rows.any (U0 (f.map (D9 Ora.env)))):=by
          show evU (.mhas y.w y.ks.length) (Ora.env c::f.map (D9 Ora.env))=_;rw[g4];show(if y.w=y.w/\(f.map (D9 Ora.env)).length=y.ks.length then _ else U.none)=_;rw[B0 ⟨rfl,by rw[E7];exact D⟩]
         rw[O]at B;obtain⟨lg,rfl⟩:=a1.trans (H8 J);refine⟨.tuple #[val,.bool (rows.any (U0 (f.map (D9 Ora.env))))],ρ,w,n,?_,St.wLg h lg⟩
         have:=LR.cons I (LR.cons B LR.nil);exact .tuple this.1 this.2
        .cases a
     .cases a
    .cases a
   .cases a
  .cases o
 .cases o
def ZI{i:Nat}{c:List U}(h:wV y rows es.toList)(b:c.map G7=y.ks++y.vs)(h1:e'.key=Y0 y.ka (c.take y.ks.length))(f:e'.val=Y0 y.va (c.drop y.ks.length))(a:es'.toList=es.toList.set i e'):wV y (rows.set i c) es'.toList:=by
 rw[a];refine⟨by rw[P7,P7];exact h.1,fun j row e hr he=>?_⟩;rw[List.getElem?_set]at hr he;by_cases q:i=j
 .subst q;rw[B0 rfl]at hr he;split at hr
  .cases hr;split at he
   .cases he;exact⟨b,h1,f⟩
   .cases he
  .cases hr
 .rw[A8 q]at hr he;exact h.2 j row e hr he
def A0k{k:Value}(h:FF es.toList clock):FF (es.push ⟨k,v,clock⟩).toList (clock+1):=by
 obtain⟨h1,a⟩:=h;rw[Array.toList_push];refine⟨?_,fun e he=>?_⟩
 .rw[M5,bJ];refine⟨h1,by simp,fun x hx y f b=>?_⟩;simp only[C3,F6,L4]at f;obtain⟨e,he,rfl⟩:=I6.1 hx
  have:=a e he;omega
 .rcases B7.1 he with he|he
  .have:=a e he;omega
  .rw[L4.1 he];show clock<clock+1;omega
def PL{f:MapEntry->Value×Value}(h:FF es.toList clock):FF (es.modify pi fun e=>{ e with key:=(f e).1,val:=(f e).2 }).toList clock:=by
 obtain⟨h1,i⟩:=h;have b:(es.modify pi fun e=>{ e with key:=(f e).1,val:=(f e).2 }).toList.map (·.born)=es.toList.map (·.born):=by
  apply bK;intro j;rw[F8,F8,Q1,H3,Q1];by_cases g:pi=j
  .rw[B0 g];cases es[j]?<;>rfl
  .rw[A8 g]
 refine⟨by rw[b];exact h1,fun e he=>?_⟩;have:e.born ∈ es.toList.map (·.born):=by rw[<- b];exact List.mem_map_of_mem he
 obtain⟨x,hx,a⟩:=I6.1 this;rw[<- a];exact i x hx
def WR{c:List U}(h:wV y rows es.toList)(f:c.map G7=y.ks++y.vs)(h1:e'.key=Y0 y.ka (c.take y.ks.length))(g:e'.val=Y0 y.va (c.drop y.ks.length)):wV y (rows++[c]) (es.push e').toList:=by
 rw[Array.toList_push];refine⟨by rw[D4,D4,h.1];rfl,fun j row e hr he=>?_⟩;rw[List.getElem?_append]at hr he;rw[h.1]at hr;split at he
 .rename_i a;rw[B0 a]at hr;exact h.2 j row e hr he
 .rename_i a;rw[A8 a]at hr;cases b:j-es.toList.length with
  | zero =>
    rw[b]at hr he;cases hr;cases he;exact⟨f,h1,g⟩
  | succ n=>rw[b]at hr;cases hr
def OM{u v:U}(h1:G7 u<10)(h:isU u v=true):u=v:=by
 unfold isU at h;cases u with
 | int k a =>
   cases v with
   | int j b =>
     simp only[eqU]at h;by_cases e:k=j
     .subst e;rw[B0 rfl]at h;have h:(a == b)=true:=h;rw[eq_of_beq h]
     .rw[A8 e]at h;cases h
   | _=>simp[eqU]at h
 | bool a =>
   cases v with
   | bool b =>
     have h:(a == b)=true:=h;rw[eq_of_beq h]
   | _=>simp[eqU]at h
 | str a =>
   cases v with
   | str b =>
     have h:(a == b)=true:=h;rw[eq_of_beq h]
   | _=>simp[eqU]at h
 | seq _ _ _=>simp only[G7]at h1;omega
 | none=>simp only[G7]at h1;omega
def yB:∀ {us vs:List U},us.map G7=vs.map G7->(∀ t ∈ us.map G7,t<10)->U0 us vs=true->us=vs
 | [],[],_,_,_=>rfl
 | [],_::_,h,_,_=>by cases h
 | _::_,[],h,_,_=>by cases h
 | u::us,v::vs,h,ht,hk=>by
   obtain⟨a,b⟩:=B6 (show(isU u v && U0 us vs)=true from hk);simp only[C3,J6]at h;rw[OM (ht _ B5) a,yB h.2 (fun t q=>ht t (C7 _ q)) b]
def ET{u:U}(h:G7 u<10)(n:Nat):Instr.sameBits n (S8 u) (S8 u)=true:=by
 cases u with
 | int k a=>cases n<;>simp[S8,toV,Instr.sameBits]
 | bool b=>cases n<;>simp[S8,toV,Instr.sameBits]
 | str s=>cases n<;>(simp only[S8,toV,cD,Instr.sameBits];show(Array.mk s == Array.mk s)=true;simp)
 | seq _ _ _=>simp only[G7]at h;omega
 | none=>simp only[G7]at h;omega
def XU{a:Bool}(h:∀ t ∈ us.map G7,t<10)(b:a=false->us≠[])(n:Nat):Instr.sameBits (n+1) (Y0 a us) (Y0 a us)=true:=by
 cases a with
 | true =>
   simp only[Y0,Instr.sameBits,H1,beq_self_eq_true,true_and,D6];intro p hp;obtain⟨i,hi,he⟩:=List.mem_iff_getElem.1 hp;simp only[List.getElem_zip,List.getElem_map]at he;subst he;exact ET (h _ (I6.2 ⟨_,N9 _,rfl⟩)) n
 | false =>
   cases us with
   | nil=>exact absurd rfl (b rfl)
   | cons u us=>exact ET (h _ B5) _
def KO{T:TypeId}{x k e e':Value}(h:HR P base ρ m.H w)(hb:base<=w.heap.size)(I:DF P m T x k e=some (v,m'))(hf:K4 ρ m.n m'.hi)(hx:VR ρ x x')(hk:VR ρ k k')(he:VR ρ e e')(hS:Sat m'.lg):v=undef/\UOk P base ρ m w (Instr.mapUpdate T x' k' e') m':=by
 unfold DF at I;split at I
 .rename_i r y hy;obtain⟨hu,Z,ah,ae,K,au,af⟩:=GU hy;obtain⟨l,hl,rfl⟩:=HI hx;split at I
  .rename_i c t T2 o u hg ak ai;obtain⟨hT,z⟩:=A3 I;clear I;have hT:=A0 hT;subst hT;rw[O0]at z;unfold PM at z;split at z
   .rename_i m2 Y2;cases z;have an:=dZ Y2;obtain⟨e1,e2,ag,wd,al,e3⟩:=kM (lg:=m'.lg) hS (by rw[an];exact .refl _);obtain⟨⟨⟨ay,av⟩,y2,es,clock,rows,g1,g2,g3,g4,g5,g6⟩,_⟩:=h.atl hl hg;rw[hy]at g1;have g1:=A9 g1;subst g1;obtain⟨J,C⟩:=jS ak K hk;obtain⟨v1,v2⟩:=jS ai au he;have B:o.length=y.ks.length:=by rw[<- C];simp
    have aq:u.length=y.vs.length:=by rw[<- v2];simp
    have ar:((o++u).map (D9 Ora.env)).length=y.w:=by rw[E7,D4,B,aq];rfl
    have az:((o++u).map (D9 Ora.env)).map G7=y.ks++y.vs:=by rw[M5,M5,C,v2]
    have A:((o++u).map (D9 Ora.env)).take y.ks.length=o.map (D9 Ora.env):=by rw[M5,List.take_left' (by rw[E7];exact B)]
    have D:((o++u).map (D9 Ora.env)).drop y.ks.length=u.map (D9 Ora.env):=by rw[M5,List.drop_left' (by rw[E7];exact B)]
    have i:Ora.env m.lg.nx=.seq false y.w (KR y.ks.length ((o++u).map (D9 Ora.env)) rows):=by
     rw[e1];show evU (.mput y.w y.ks.length) (Ora.env c::(o++u).map (D9 Ora.env))=_;rw[g4];show(if y.w=y.w/\((o++u).map (D9 Ora.env)).length=y.w then _ else U.none)=_;rw[B0 ⟨rfl,ar⟩]
    rw[KQ _ 0,A]at i;have aw:(getObj l.blk).run P w=.ok (.map es clock) w:=by simp[getObj,Sem.run,g3]
    have W:=AE (P:=P) (w:=w) Z C g5;have O:=EO (P:=P) Z C false w;have N:=St.wLg h (fT m t (.mput y.w y.ks.length) (hole c t::(o++u)));have aj:Hp.get (m.wLg (fT m t (.mput y.w y.ks.length) (hole c t::(o++u)))).H r=some (.mp c t T2):=by rw[lC];exact hg
    have s:l.blk<w.heap.size:=(C9.1 g3).1;refine⟨rfl,?_⟩;have V:∀ (b:Array MapEntry) (a:Nat),(setObj l.blk (.map b a)).run P w=.ok () { w with heap:=w.heap.set l.blk (.map b a) s }:=fun b a=>by
     have Q:w.heap[l.blk]=.map es clock:=by
      have q:=g3;rw[F3 s]at q;exact A9 q
     simp[setObj,Sem.run,Q,Array.setIfInBounds,s]
    have fin:∀ (b:Array MapEntry) (a:Nat) (g:List (List U)),Ora.env m.lg.nx=.seq false y.w g->wV y g b.toList->FF b.toList a->(Instr.mapUpdate T2 (.map (some l.blk)) k' e').run P w=.ok () { w with heap:=w.heap.set l.blk (.map b a) s }->UOk P base ρ m w (Instr.mapUpdate T2 (.map (some l.blk)) k' e') m':=fun b a g L q2 q4 q3=>by
     refine⟨ρ,_,q3,St.trans hf N (St.write (ab:=.mp c t T2) (ab':=.mp m.lg.nx t T2) N.hr Y2 aj rfl hl ay ⟨rfl,rfl,rfl⟩ (by simp) (fun j hj=>?_) ?_)⟩
     .show(w.heap.set l.blk _ s)[j]? = _;rw[t7,A8 (fun e=>hj e.symm)]
     .refine⟨⟨ay,av⟩,y,b,a,g,hy,g2,?_,L,q2,q4⟩;show(w.heap.set l.blk _ s)[l.blk]? = _;rw[t7,B0 rfl]
    cases hq:oK (o.map (D9 Ora.env)) rows 0 with
    | none =>
      rw[hq]at i;refine fin (es.push ⟨k',e',clock⟩) (clock+1) _ i (WR g5 az (by rw[A];exact J) (by rw[D];exact v1)) (A0k g6) ?_;rw[J];simp only[Instr.mapUpdate,A4,D1 hu,Result.andThen_ok,aw,O,W,CE,hq,Option.map_none,V]
    | some p =>
      obtain⟨pi,M⟩:=p;rw[hq]at i;have i:Ora.env m.lg.nx=.seq false y.w (rows.set pi ((o++u).map (D9 Ora.env))):=i;obtain⟨_,L,q2⟩:=sP hq;have L:rows[pi]? = some M:=by simpa using L
      have E:pi<es.toList.length:=by rw[<- g5.1];exact(B3.1 L).1
      obtain⟨t1,t2,t3⟩:=g5.2 pi M es.toList[pi] L (A5 E);obtain⟨ao,_⟩:=CN t1;have F:o.map (D9 Ora.env)=M.take y.ks.length:=by
       refine yB (by rw[C,ao]) (by rw[C];exact K) ?_
       have:=uB (o.map (D9 Ora.env)) M;rw[E7,B]at this;rw[this];exact q2
      have X:pi<es.size:=by simpa using E
      refine fin (es.modify pi fun e2=>{ e2 with key:=k',val:=e' }) clock _ i (ZI (e':=⟨k',e',(es[pi]).born⟩) g5 az (by rw[A];exact J) (by rw[D];exact v1) ?_) (PL (f:=fun _=>(k',e')) g6) ?_
      .apply bK;intro j;rw[Q1,H3,List.getElem?_set];by_cases hj:pi=j
       .subst hj;rw[B0 rfl,B0 rfl,B0 E,F3 X];rfl
       .rw[A8 hj,A8 hj];simp
      .have S:((es[pi]?).map (·.key)).getD k'=k':=by
        rw[F3 X];show es[pi].key=k';have t2:es[pi].key=Y0 y.ka (M.take y.ks.length):=t2;rw[t2,<- F,J]
       have G:Instr.sameBits 10000 k' k'=true:=by
        rw[J];exact XU (by rw[C];exact K) (fun _ q=>by have:=F4 List.length C;rw[q]at this;simp at this;omega) 9999
       have Y:(Instr.keyThatStays k' k').run P w=.ok k' w:=by
        simp only[Instr.keyThatStays,G,if_true,Sem.run_pure]
       have ax:(Instr.findKey y.kt k' es.toList).run P w=.ok (some (pi,Y0 y.va (M.drop y.ks.length))) w:=by
        rw[J,W];simp[CE,hq]
       have R:(Instr.checkKey false 10000 y.kt k').run P w=.ok () w:=by rw[J];exact O
       simp only[Instr.mapUpdate,A4,D1 hu,Result.andThen_ok,aw,R,ax,S,Y,V]
   .cases z
  .cases I
 .cases I
def A1N{T:TypeId}{x:Value}(h:HR P base ρ m.H w)(a:LO P m T x=some (v,m'))(hx:VR ρ x x')(g:Sat m'.lg):VOk P base ρ m w (Builtin.len_ ⟨T::tys⟩ ty #[x']) v m':=by
 unfold LO at a;split at a
 .rename_i kt s r hu;obtain⟨l,j,rfl⟩:=HI hx;split at a
  .rename_i c t q o;obtain⟨⟨⟨n,i⟩,p,es,clock,rows,g1,g2,g3,g4,g5,g6⟩,_⟩:=h.atl j o;obtain⟨f,⟨lg,rfl⟩,_,_⟩:=mA (ρ:=ρ) a g4 g;have b:(getObj l.blk).run P w=.ok (.map es clock) w:=by simp[getObj,Sem.run,g3]
   refine⟨_,ρ,w,?_,f,St.wLg h lg⟩
   have:=g5.1;have e:es.size=rows.length:=by rw[this];simp
   simp[Builtin.len_,A4,D1 hu,Result.andThen,goInt,b,e]
  .cases a
 .cases a
def A4f{T:TypeId}(a:A1F P m T=some (v,m')):m.lg.le m'.lg:=by
 unfold A1F at a;split at a
 .rw[O0]at a;rw[aU a];exact W1
 .cases a
def uJ{wd kw c t:Nat}{b:D2}:∀ {ts:H6} {a:D2} {j:Nat} {m m':Mem} {hs:D2},uK wd kw c t b ts a j m=some (hs,m')->m.lg.le m'.lg
 | [],[],j,m,m',hs,h=>by cases h;exact .refl _
 | [],_::_,j,m,m',hs,h=>by cases h
 | _::_,[],j,m,m',hs,h=>by cases h
 | tg::ts,z::a,j,m,m',hs,h=>by
   unfold uK at h;split at h
   .rename_i hv;split at h
    .rename_i hr;cases h;exact(I3 hv).trans (uJ hr)
    .cases h
   .cases h
def XA{T:TypeId}{x k:Value}{ok:Bool}(a:zJ P m T x k ok=some (v,m')):m.lg.le m'.lg:=by
 unfold zJ at a;split at a
 .split at a
  .obtain⟨_,a⟩:=A3 a;split at a
   .split at a
    .rename_i b;split at a
     .cases ok with
      | false=>cases a;exact uJ b
      | true =>
        simp only[E5]at a;split at a
        .rename_i e;cases a;exact(uJ b).trans (I3 e)
        .cases a
     .cases a
    .cases a
   .cases a
  .cases a
 .cases a
def KP{T:TypeId}{x k e:Value}(a:DF P m T x k e=some (v,m')):m.lg.le m'.lg:=by
 unfold DF at a;split at a
 .split at a
  .obtain⟨_,a⟩:=A3 a;rw[O0]at a;unfold PM at a;split at a
   .rename_i Y2;cases a;rw[dZ Y2];exact W1
   .cases a
  .cases a
 .cases a
def A1O{T:TypeId}{x:Value}(a:LO P m T x=some (v,m')):m.lg.le m'.lg:=by
 unfold LO at a;split at a
 .split at a
  .exact(bY a).2
  .cases a
 .cases a
end
end
section
open Go
variable [Ora]
section
variable {P:Program} {base:Nat} {ρ:Ren} {m m':Mem} {w:World}
omit [Ora] in
def NI{G:Nat->Option Obj}:∀ {us:List U} {s:List UInt8} {vs:D2},uU us=some s->Z0 G us vs->∃ e:List Int,vs=e.map (Value.int .u8)/\s=e.map fun n=>UInt8.ofNat n.toNat
 | [],s,vs,h,he=>by
   cases h;have:vs=[]:=G4.1 he.1.symm;subst this;exact⟨[],rfl,rfl⟩
 | u::us,s,vs,h,he=>by
   unfold uU at h;split at h
   .rename_i heq;cases heq
   .rename_i n r heq;cases heq;split at h
    .split at h
     .rename_i l j;cases h;cases vs with
      | nil=>have:=he.1;simp at this
      | cons v vr =>
        obtain⟨e,o,f⟩:=NI (vs:=vr) j ⟨by have:=he.1;simpa using this,fun i a b h1 g=>he.2 (i+1) a b (by simpa using h1) (by simpa using g)⟩
        have:=gJ (he.2 0 _ v rfl rfl) rfl;subst this;exact⟨(Int.ofNat n)::e,by rw[o];rfl,by rw[f];rfl⟩
     .cases h
    .cases h
   .cases h
def JV{t:TypeId}{n:Nat}(h:H4 P t=some n):∃ inf,P.info? t=some inf/\inf.size=n:=by
 unfold H4 at h;cases hi:P.info? t with
 | none=>rw[hi]at h;cases h
 | some inf=>rw[hi]at h;exact⟨inf,rfl,A9 h⟩
def JZ(d:Nat)(t:TypeId):sameLayout P (d+1) t t=true:=by simp[sameLayout]
def A24:∃ d,P.depth=d+1:=⟨2*(P.types.size+Made.depth)+1,rfl⟩
def PQ{T:TypeId}{n off:Nat}(hs:P.cellsOf T≠0)(hr:off%P.cellsOf T=0)(b:off / P.cellsOf T+1<=n):liesAt P P.depth T n off T 1=true:=by
 obtain⟨d,a⟩:=A24 (P:=P);have h1:rowAt P (sameLayout P P.depth · T) P.depth T n off 1=true:=by
  rw[a];unfold rowAt;simp only[hs,if_false,hr,JZ];simp[b]
 rw[a]at h1 ⊢;unfold liesAt;rw[a,h1];rfl
def A2_{s t:TypeId}{x:Value}(h:HR P base ρ m.H w)(g:VG P m s t x=some (v,m'))(hx:VR ρ x x'):VOk P base ρ m w (convert s t x') v m':=by
 unfold VG at g;split at g
 .rename_i e b o hs J;obtain⟨l,E,_,rfl⟩:=O9 hx;split at g
  .rename_i k cs T ro A F;obtain⟨B,g⟩:=A3 g;have B:o<cs.length:=A1 B;cases g;obtain⟨inf,a,M⟩:=JV A;obtain⟨⟨p,C,fz,i,h1,O,_⟩,_⟩:=h.atl E F;obtain⟨v',h3,_⟩:=O o cs[o] (A5 B);have I:l.sh+o<C.size:=(C9.1 h3).1;exact VOk.same h (Lib.run_to_unsafe w ⟨l.blk,o+l.sh,none⟩ hs J a A2 (show w.shape? l.blk=some (i,C.size) by simp[World.shape?,h1]) (by show o+l.sh<C.size;omega)) hx
  .cases g
 .rename_i u b hs J;obtain⟨l,E,_,rfl⟩:=O9 hx;split at g
  .rename_i k cs T A F;obtain⟨K,f⟩:=A3 g;clear g;obtain⟨z,L⟩:=B6 K;have z:=A0 z;have L:=A0 L;clear K;subst z;cases f;obtain⟨inf,a,M⟩:=JV A;obtain⟨⟨p,C,fz,i,h1,O,h3⟩,_⟩:=h.atl E F;obtain⟨rfl,_,R⟩:=h3 rfl;obtain⟨_,G⟩:=R inf a;have D:P.cellsOf i=k+1:=by unfold Program.cellsOf;rw[a];exact M
   have q:k<cs.length:=A2;obtain⟨v',S,_⟩:=O k cs[k] (A5 q);have I:l.sh+k<C.size:=(C9.1 S).1;refine VOk.same h (Lib.run_from_unsafe w ⟨l.blk,0+l.sh,none⟩ hs J a (show w.shape? l.blk=some (i,C.size) by simp[World.shape?,h1]) ?_) hx;show liesAt P P.depth i (C.size / P.cellsOf i) (0+l.sh) i 1=true;rw[F5];refine PQ A2 (by rw[D];rw[M]at G;exact G) ?_;rw[D];have G:l.sh%(k+1)=0:=by rw[M]at G;exact G
   have V:l.sh=(k+1)*(l.sh / (k+1)):=by have:=Nat.div_add_mod l.sh (k+1);omega
   refine(Nat.le_div_iff_mul_le A2).2 ?_;rw[I1,gT,bH];omega
  .cases g
 .rename_i W e b o n c hs J;obtain⟨K,f⟩:=A3 g;clear g;obtain⟨z,L⟩:=B6 K;have z:=A0 z;clear K;subst z;split at f
  .rename_i cs T hu F;split at f
   .rename_i m1 Y2;cases f;obtain⟨l,mm,E,rfl⟩:∃ l mm,ρ b=some l/\x'=.slice (some ⟨l.blk,o+l.sh,none⟩) n mm:=by
     cases hx with
     | pure hp=>simp[I8]at hp
     | sl h1 _=>exact⟨_,_,h1,rfl⟩
     | op h1 _ _ _=>exact⟨_,_,h1,rfl⟩
     | opE _=>simp at L
    obtain⟨⟨p,C,fz,i,z2,z3,z4⟩,_⟩:=h.atl E F;have N:w.shape? l.blk=some (i,C.size):=by simp[World.shape?,z2]
    refine⟨_,ρ,w.freeze ⟨l.blk,C.size,none⟩ 1,?_,hx,St.write h Y2 F rfl E p ?_ ?_ ?_ ?_⟩
    .simp[convert,run_underlying J,run_underlying hu,markStringish,N]
    .simp[World.freeze]
    .simp[World.freeze]
    .intro j Q;simp only[World.freeze,Nat.one_ne_zero,if_false,H3];rw[A8 (fun e=>Q e.symm)]
    .refine⟨p,C,(if fz.1 == fz.2 then(C.size,C.size+1)else(min fz.1 C.size,max fz.2 (C.size+1))),i,?_,z3,fun D=>⟨(z4 D).1,(z4 D).2.1.mark,(z4 D).2.2⟩⟩;simp only[World.freeze,Nat.one_ne_zero,if_false,H3,if_true,z2,L6]
   .cases f
  .cases f
 .cases g
def A0r{op:BinOp}{t:TypeId}{x y:Operand}{a a' b b':Value}(h:HR P base ρ m.H w)(g:SV P m op t a b=some (v,m'))(z:VR ρ a a')(A:VR ρ b b'):VOk P base ρ m w (do eqGuard op t x y a' b';binOp op t a' b') v m':=by
 unfold SV at g;split at g
 .rename_i e E p D C hu;obtain⟨u,f⟩:=A3 g;clear g;obtain⟨q,s⟩:=B6 u;have q:=A0 q;have s:=A0 s;clear u;subst q;subst s;obtain⟨l,B,_,rfl⟩:=O9 z;obtain⟨l2,o,_,rfl⟩:=O9 A;rw[B]at o
  have:=A9 o;subst this;have heq:∀ j,P.info? e=some j->∀ d:Nat,(Op.equalIn (d+1) t (.pointer (some ⟨l.blk,p+l.sh,none⟩)) (.pointer (some ⟨l.blk,p+l.sh,none⟩))).run P w=.ok true w:=fun j i d=>by
   simp[Op.equalIn,run_underlying hu,sizeOf,typeInfo,i,run_sameAddr_same]
  have n:(eqGuard op t x y (.pointer (some ⟨l.blk,p+l.sh,none⟩)) (.pointer (some ⟨l.blk,p+l.sh,none⟩))).run P w=.ok () w:=by
   unfold eqGuard;split<;>simp
  split at f
  .rename_i j i;cases f;refine VOk.same h (v':=.bool true) ?_ (.pure rfl);rw[A4,n];simp[Result.andThen,binOp,Op.equal,Op.maxDepth,heq j i 9999]
  .rename_i j i;cases f;refine VOk.same h (v':=.bool false) ?_ (.pure rfl);rw[A4,n];simp[Result.andThen,binOp,Op.equal,Op.maxDepth,heq j i 9999]
  .cases f
 .cases g
def St.laid{o:Obj}(h:HR P base ρ m.H w):St P base ρ ρ m m w { w with heap:=w.heap.push o } :=
 have f:∀ k,k<w.heap.size->(w.heap.push o)[k]? = w.heap[k]? := fun k f=>by rw[j7,A8 A2]
 ⟨fun _ _ h=>h,fun b l h1 a=>(by rw[h1]at a;cases a),A6 _,A6 _,fun h=>h,
  ⟨h.dom,fun id hid ab g=>by
    obtain⟨l,h1,a,h3⟩:=h.at_ id hid ab g;exact⟨l,h1,a.mono (fun _ _ h=>h) (fun k e=>f k (a.tc e)),h3⟩⟩,
  fun _ h=>h,fun b h1 a=>absurd h1 a,fun k e _=>f k e,by simp,⟨rfl,rfl,rfl⟩,fun b l h1 a=>(by rw[h1]at a;cases a),fun _ _ _ _=>rfl,fun _ h=>.inr h⟩
def A8g{tys:Array TypeId}{x:Value}(h:HR P base ρ m.H w)(a:sdM P m ty x=some (v,m'))(hx:VR ρ x x'):VOk P base ρ m w (Builtin.unsafeSliceData_ tys ty #[x']) v m':=by
 unfold sdM at a;split at a
 .rename_i e he;split at a
  .rename_i b i t;split at a
   .rename_i c tc T g ro B;cases a;have hx:VR ρ (own b i t) x':=hx;rcases(gF hx).1 with⟨l,wd,h1,f,h3,rfl⟩|⟨l,wd,rows,h1,f,h3,E,D,rfl⟩
    .exact VOk.same h rfl (.sdt ⟨l,h1,.inl ⟨f,rfl⟩⟩)
    .have j:Builtin.unsafeSliceData_ tys ty #[.slice (some ⟨l.blk,l.sh,none⟩) l.len l.cap]=(do
       if l.cap≠0 then pure (.pointer (some ⟨l.blk,l.sh,none⟩))
       else if(<- viewAt l.blk).isSome then pure (.pointer (some ⟨l.blk,l.sh,none⟩))
       else pure (.pointer (some ⟨<- newObj (.view ⟨l.blk,l.sh,none⟩ (<- elemOf ty)),0,none⟩))):=rfl
     rw[j];by_cases q:l.cap=0
     .rw[A8 (by simpa using q)];obtain⟨z,inf,_,_,_,A⟩:=SqR.ex (h.atl h1 B).1;rcases A with⟨n,_⟩|⟨_,n⟩
      .rw[f]at n;cases n
      .obtain⟨C,fz,u,p,lg,s,_⟩:=n;have o:w.shape? l.blk=some (u,C.size):=by simp[World.shape?,s]
       refine⟨.pointer (some ⟨w.heap.size,0,none⟩),ρ,{ w with heap:=w.heap.push (.view ⟨l.blk,l.sh,none⟩ e) },?_,.sdt ⟨l,h1,.inr ⟨f,_,rfl,fun h=>absurd q h⟩⟩,St.laid h⟩;simp[viewAt,o,elemOf,D1 he,newObj,Sem.run,A4,Result.andThen]
     .rw[B0 q];exact VOk.same h rfl (.sdt ⟨l,h1,.inr ⟨f,_,rfl,fun _=>rfl⟩⟩)
   .cases a
  .cases a
 .cases a
def A8Q{p l p' l':Value}(h:HR P base ρ m.H w)(F:usM P m pt p l=some (v,m'))(hp:VR ρ p p')(hl:VR ρ l l')(hS:Sat m'.lg)(hf:K4 ρ m.n m'.hi) :
  VOk P base ρ m w (Builtin.unsafeString_ ⟨pt::tys⟩ ty #[p',l']) v m':=by
 have E:IntKind.i64.max=9223372036854775807:=rfl;unfold usM at F;split at F
 .rename_i b;obtain⟨X,F⟩:=A3 F;have X:G8 l<8:=A1 X;obtain⟨k,n0,rfl,aj,_⟩:=M9 hl X;split at F
  .rename_i c tc T g e hg aa;obtain⟨hq,B⟩:=A3 F;clear F;obtain⟨q1,q2⟩:=B6 hq;have q1:=A0 q1;have q2:=A0 q2;clear hq;subst q1;subst q2;split at B
   .rename_i u m1 bx Q;split at B
    .rename_i m2 Y2;cases B;have ae:=dZ Y2;have ai:Sat m1.lg:=by rw[<- ae];exact hS
     obtain⟨u0,e1,e2,r,e3,e4,e5⟩:=M8 Q ai;obtain⟨lg,rfl⟩:=H8 Q;obtain⟨l0,M,hv⟩:=A4t (show VR ρ (sdt b) p' from hp);have A:=St.wLg h lg;obtain⟨wd,inf,k1,k2,k3,J⟩:=SqR.ex (h.atl M hg).1;have ak:wd=1:=A2;subst ak;have f:evU .ustr [Ora.env c,.int k n0]=u0:=by
      have:D9 Ora.env (hole c 11)=Ora.env c:=rfl;rw[<- this,<- aj];exact e1
     have L:∀ au rows,Ora.env c=.seq au 1 rows->∃ (n:Nat) (R:List UInt8),n0=(n:Int)/\n<=rows.length/\n<=1000000000/\wU (rows.take n)=some R/\u0=.str R:=fun au rows hc=>by
      rw[hc]at f;cases n0 with
      | negSucc z=>have:u0=.none:=f.symm;subst this;cases e3
      | ofNat n =>
        have f:(if 1=1/\n<=rows.length/\n<=uV then match wU (rows.take n)with
         | some s=>U.str s
         | none=>.none else .none)=u0:=f
        split at f
        .rename_i ax;split at f
         .rename_i R L;exact⟨n,R,rfl,ax.2.1,ax.2.2,L,f.symm⟩
         .subst f;cases e3
        .subst f;cases e3
     have D:P.cellsOf e=1:=by unfold Program.cellsOf;rw[k2];exact k3
     have V:∀ {ρ:Ren} {w:World} {lx:Loc},BR P ρ (.sq c 11 e g false) lx w->BR P ρ (.sq c 11 e g true) lx w:=fun hb=>by
      obtain⟨wd,inf,k1,k2,k3,J⟩:=SqR.ex hb;refine⟨⟨wd,inf,k1,k2,k3,J.imp (fun x=>x) fun⟨a,C,fz,T',rows,lg,b1,b2,b3,b4,b5,b6,b7,b8,_⟩=>⟨a,C,fz,T',rows,lg,b1,b2,b3,b4,b5,b6,b7,b8,fun hh=>by cases hh⟩⟩⟩
     have Z:Hp.get (m.wLg lg).H b=some (.sq c 11 e g false):=by rw[lC];exact hg
     have O:St P base ρ ρ m m' w w:=St.trans hf A (St.same0 A.hr Y2 Z rfl M (V (A.hr.atl M Z).1) fun q hq=>hq.imp (fun⟨_,b⟩=>⟨rfl,b⟩) fun⟨hh,_⟩=>by cases hh);rcases hv with⟨ar,rfl⟩|⟨Y,a,rfl,ha⟩
     .rcases J with⟨_,K⟩|⟨K,_⟩
      .obtain⟨n,R,rfl,j1,_,j2,rfl⟩:=L _ _ K;have hn:n=0:=by simpa using j1
       subst hn;cases j2;cases e3;refine⟨.string ByteArray.empty,ρ,w,?_,e4 ρ,O⟩;have o:Builtin.unsafeString_ ⟨pt::tys⟩ ty #[.pointer none,.int k ((0:Nat):Int)] =
         (do
           let n <- asInt (.int k ((0:Nat):Int))
           if n<0 then runtimePanic (.error "unsafe.String: len out of range")
           if n>IntKind.i64.max then unsupported (.unsafePointer "String: a length above the largest int")
           if n=0 then pure (.string .empty)
           else runtimePanic (.error "unsafe.String: ptr is nil and len is not zero")):=rfl
       rw[o];simp[asInt,asIntOf,E]
      .rw[ar]at K;cases K
     .rcases J with⟨K,_⟩|⟨_,K⟩
      .rw[Y]at K;cases K
      obtain⟨C,fz,T',rows,aw,z1,z2,z3,z4,z5,z6,z7,z8,z9⟩:=K;obtain⟨rfl,bz⟩:=z9 rfl;obtain⟨n,R,rfl,j1,j0,j2,rfl⟩:=L _ _ z2;cases e3;have o:Builtin.unsafeString_ ⟨pt::tys⟩ ty #[.pointer (some a),.int k (n:Int)] =
       (do
         let n <- asInt (.int k (n:Int))
         if n<0 then runtimePanic (.error "unsafe.String: len out of range")
         if n>IntKind.i64.max then unsupported (.unsafePointer "String: a length above the largest int")
         if n=0 then pure (.string .empty)
         else if <- variablesAt a (<- elemOf pt) n.toNat then do
          let s <- loadBytes a .empty n.toNat
          freeze a n.toNat
          pure (.string s)
         else unsupported (.unsafePointer "String: not so many bytes at ptr")):=rfl
      have ay:¬ (n:Int)<0:=A2;have aq:¬ (9223372036854775807:Int)<(n:Int):=A2;by_cases t:n=0
      .subst t;cases j2;refine⟨.string ByteArray.empty,ρ,w,?_,e4 ρ,O⟩;rw[o];simp[asInt,asIntOf,E]
      .have hz:¬ (n:Int)=0:=A2;have an:l0.cap≠0:=A2;have ha:=ha an;subst ha;obtain⟨y1,y2,y3⟩:=IH j2;have hlen:(rows.take n).length=n:=by simp;omega
       have ah:l0.sh+n<=C.size:=A2;obtain⟨ns,r1,r2⟩:∃ ns:List Int,(C.toList.drop l0.sh).take n=ns.map (Value.int .u8)/\R=ns.map fun n=>UInt8.ofNat n.toNat:=by
        refine NI (G:=aw.G) y1 ⟨by rw[y2,hlen];simp;omega,fun i u v b1 b2=>?_⟩;have av:i<n:=by have:=(B3.1 b1).1;rw[y2,hlen]at this;exact this
        have az:i<rows.length:=A2;have N:rows[i]? = some rows[i]:=A5 az;have S:(rows.take n)[i]? = some rows[i]:=by rw[E8 av];exact N
        have bw:rows[i].length=1:=z6 _ (N9 az);have h0:rows[i][0]? = some (rows[i][0]' A2):=A5 A2;obtain⟨_,J⟩:=y3 i _ 0 _ S h0;rw[b1]at J;have J:=A9 J;rw[J];have hc:C[l0.sh+i*1+0]? = some v:=by
         rw[E8 av,I4]at b2
         simpa using b2
        exact z8 i _ 0 _ v N h0 hc
       have af:ns.length=n:=by
        have:=F4 List.length r1;simp at this;omega
       have I:∀ (j:Nat) (v:Value),(ns.map (Value.int .u8))[j]? = some v->w.cell? ⟨l0.blk,l0.sh+j,none⟩=some v:=fun j v hj=>by
        rw[<- r1]at hj;have ag:j<n:=by have:=(B3.1 hj).1;simp at this;omega
        rw[E8 ag,I4]at hj;simp only[World.cell?,z1]
        simpa using hj
       have ao:=eT (P:=P) (w:=w) ns l0.blk l0.sh .empty I;rw[af]at ao;have al:w.shape? l0.blk=some (T',C.size):=by simp[World.shape?,z1]
       have W:=zL (P:=P) D (C.size / P.cellsOf T') l0.sh n (by rw[D];simpa using ah);have ad:St P base ρ ρ (m.wLg lg) m' w (w.freeze ⟨l0.blk,l0.sh,none⟩ n):=by
        refine St.write A.hr Y2 Z rfl M Y ?_ ?_ ?_ ?_
        .simp[World.freeze,t]
        .simp[World.freeze,t]
        .intro j hj;simp only[World.freeze,t,if_false,H3];rw[A8 (fun e=>hj e.symm)]
        .refine⟨⟨1,inf,rfl,k2,k3,.inr ⟨Y,C,(if fz.1 == fz.2 then(l0.sh,l0.sh+n)else(min fz.1 l0.sh,max fz.2 (l0.sh+n))),T',rows,aw,?_,z2,z3,z4,z5,z6,z7,z8,fun hc=>by cases hc⟩⟩⟩;simp only[World.freeze,t,if_false,H3,if_true,z1,L6]
       refine⟨.string ⟨⟨R⟩⟩,ρ,w.freeze ⟨l0.blk,l0.sh,none⟩ n,?_,e4 ρ,St.trans hf A ad⟩;rw[o];simp[asInt,asIntOf,E,ay,aq,hz,t,variablesAt,al,elemOf,D1 aa,W,ao,freeze,Sem.run,A4,Result.andThen,r2]
    .cases B
   .cases B
  .cases F
 .cases F
def WP{t:TypeId}{x:Value}(h:HR P base ρ m.H w)(j:base<=w.heap.size)(e:yS P m t x=some (v,m'))(g:K4 ρ m.n m'.hi)(hx:VR ρ x x'):VOk P base ρ m w (Instr.range t x') v m':=by
 unfold yS at e;split at e
 .rename_i hu;obtain⟨h1,e⟩:=A3 e;obtain⟨s,rfl,_⟩:=o9 hx (A0 h1);have f:∀ a:Ren,(∀ b l,ρ b=some l->a b=some l)->BR P a (.iter [x,.int .i64 (.ofNat 0)]) (lc w.heap.size 0 0) { w with heap:=w.heap.push (.stringIter ⟨⟨s⟩⟩ 0) }:=fun a he =>
   ⟨⟨rfl,rfl⟩,⟨⟨s⟩⟩,0,by simp[lc],.cons (hx.mono he) (.cons (.pure rfl) .nil)⟩
  obtain⟨i,h3,o⟩:=St.alloc (w':={ w with heap:=w.heap.push (.stringIter ⟨⟨s⟩⟩ 0) }) (l:=lc w.heap.size 0 0) h j e g ⟨rfl,rfl,rfl⟩ rfl rfl (f _ (X4 (g m.n (A6 _) (by obtain⟨_,_,rfl⟩:=M0 e;exact(L3 _ _).2))));refine⟨.pointer (some ⟨w.heap.size,0,none⟩),_,_,?_,?_,o⟩
  .simp[Instr.range,A4,D1 hu,Result.andThen,newObj,Sem.run]
  .rw[i];exact .ptr h3
 .cases e
def RB{s p:Value}{b:ByteArray}(h:IE s p=some (b,k)):s=.string b/\p=.int .i64 (.ofNat k):=by
 unfold IE at h;split at h
 .cases h;exact⟨rfl,rfl⟩
 .cases h
def A1A{x:Value}(h:HR P base ρ m.H w)(a:LE m x=some (v,m'))(hf:K4 ρ m.n m'.hi)(hx:VR ρ x x')(hS:Sat m'.lg):VOk P base ρ m w (Instr.next x' true ty) v m':=by
 unfold LE at a;split at a
 .rename_i r;obtain⟨l,hl,_,rfl⟩:=O9 hx;split at a
  .rename_i s p hg;obtain⟨⟨⟨L,A⟩,g,n,g1,g2⟩,_⟩:=h.atl hl hg;have O:(getObj l.blk).run P w=.ok (.stringIter g n) w:=by simp[getObj,Sem.run,g1]
   have i:l.blk<w.heap.size:=(C9.1 g1).1;have G:w.heap[l.blk]=.stringIter g n:=by
    have q:=g1;rw[F3 i]at q;exact A9 q
   obtain⟨s',r1,e1,Q,k2⟩:=g2.tail;obtain⟨p',r2,e2,X,k4⟩:=k2.tail;cases k4.nil_inv;cases e2;cases e1;have T:∀ V:Nat,(setObj l.blk (.stringIter g V)).run P w=.ok () { w with heap:=w.heap.set l.blk (.stringIter g V) i }:=fun V=>by
    simp[setObj,Sem.run,G,Array.setIfInBounds,i]
   have z:n<g.size->(Instr.next (.pointer (some ⟨l.blk,0+l.sh,none⟩)) true ty).run P w=.ok (.tuple #[.bool true,.int .i64 (.ofNat n),.int .i32 (.ofNat (Utf8.decode g n).1)]) { w with heap:=w.heap.set l.blk (.stringIter g (n+(Utf8.decode g n).2)) i }:=fun o=>by
    rw[A];simp[Instr.next,A4,Result.andThen_ok,O,o,T,goInt]
   have I:¬n<g.size->(Instr.next (.pointer (some ⟨l.blk,0+l.sh,none⟩)) true ty).run P w=.ok (.tuple #[.bool false]) w:=fun o=>by
    rw[A];simp[Instr.next,A4,Result.andThen_ok,O,o]
   have fin:∀ {m1 m2:Mem} {q:Value},K1 m m1->cQ m1 r (.iter [s,q])=some m2->K4 ρ m.n m2.hi->VR ρ q (.int .i64 (.ofNat (n+(Utf8.decode g n).2)))->St P base ρ ρ m m2 w { w with heap:=w.heap.set l.blk (.stringIter g (n+(Utf8.decode g n).2)) i }:=fun{m1 m2 q} e Y2 R Y=>by
    obtain⟨lg,rfl⟩:=e;have F:=St.wLg h lg;have ay:Hp.get (m.wLg lg).H r=some (.iter [s,p]):=by rw[lC];exact hg
    refine St.trans R F (St.write (ab:=.iter [s,p]) (ab':=.iter [s,q]) F.hr Y2 ay rfl hl L ⟨rfl,rfl,rfl⟩ (by simp) (fun j hj=>?_) ?_)
    .show(w.heap.set l.blk _ i)[j]? = _;rw[t7,A8 (fun e=>hj e.symm)]
    .refine⟨⟨L,A⟩,g,_,?_,.cons Q (.cons Y .nil)⟩;show(w.heap.set l.blk _ i)[l.blk]? = _;rw[t7,B0 rfl]
   split at a
   .rename_i b k hc;obtain⟨rfl,rfl⟩:=RB hc;have e:=V0 Q;cases e;have e:=J5 X;cases e;by_cases o:n<g.size
    .have t:Nat.blt n g.data.toList.length=true:=C8 o;rw[t]at a;simp only[E5,E9]at a;split at a
     .rename_i m2 Y2;cases a;exact⟨_,ρ,_,z o,.tuple rfl (LR.cons (.pure rfl) (LR.cons (.pure rfl) (LR.cons (.pure rfl) LR.nil))).2,fin ⟨m.lg,by cases m;rfl⟩ Y2 hf (.pure rfl)⟩
     .cases a
    .have t:Nat.blt n g.data.toList.length=false:=by
      cases Y:Nat.blt n g.data.toList.length with
      | false=>rfl
      | true=>exact absurd (A1 Y) o
     rw[t]at a;cases a;exact⟨_,ρ,w,I o,.tuple rfl (LR.cons (.pure rfl) LR.nil).2,St.refl h⟩
   .obtain⟨h1,a⟩:=A3 a;obtain⟨h1,h2⟩:=B6 h1;have h1:=A0 h1;have h2:=A0 h2;obtain⟨s0,es,as⟩:=o9 Q h1;cases es;obtain⟨kk,nn,ep,ap,_⟩:=M9 X A2;cases ep;split at a
    .rename_i hh m1 E;split at a
     .rename_i c H N W hi lg D;have o1:=H8 E;have o2:=H8 D;have key:∀ {b:Bool} {f:Lg},brL lg c=some (b,f)->Sat f->(b=true↔n<s0.length)/\K1 m ⟨H,N,W,hi,f⟩:=fun{b f} t u=>by
       have J:Sat lg:=u.le (fM t);have az:Sat m1.lg:=S2.le J (I3 D);have u1:VR ρ hh (.int .i64 s0.length):=by
        have:=(iI (ρ:=ρ) E az).2.2;rw[C3,F6,as]at this;exact this
       obtain⟨rfl,e1⟩:=jJ E;obtain⟨k5,n5,e5,a5,_⟩:=M9 u1 (show 3<8 by decide);cases e5;have u2:VR ρ c (.bool (decide ((n:Int)<s0.length))):=by
        have:=(iI (ρ:=ρ) D J).2.2;rw[C3,C3,F6,ap,a5]at this;have e:evU (.bin .lss) [.int .i64 (Int.ofNat n),.int .i64 (s0.length:Int)]=.bool (decide ((n:Int)<s0.length)):=by
         simp[evU,evB,aZ,vD,iK,kX,GW,ofV]
        rw[e]at this;exact this
       have:=mS t u2 u;refine⟨?_,?_⟩
       .have:=Value.bool.inj this;rw[<- this,decide_eq_true_iff];omega
       .exact(o1.trans o2).trans ⟨f,rfl⟩
      split at a
      .rename_i f t;split at a
       .rename_i y m3 C;split at a
        .rename_i q m4 B;split at a
         .rename_i m5 Y2;cases a;have K:Sat m4.lg:=by rw[<- dZ Y2];exact hS
          have M:=K.le (I3 B);have u:Sat f:=M.le (I3 C);obtain⟨Z,ko⟩:=key t u;have o:=Z.1 rfl;have u3:VR ρ y (.int .i32 (.ofNat (Utf8.decode ⟨⟨s0⟩⟩ n).1)):=by
           have:=(iI (ρ:=ρ) C M).2.2;rw[C3,C3,F6,as,ap]at this;exact this
          have u4:VR ρ q (.int .i64 (.ofNat (n+(Utf8.decode ⟨⟨s0⟩⟩ n).2))):=by
           have:=(iI (ρ:=ρ) B K).2.2;rw[C3,C3,F6,as,ap]at this;exact this
          exact⟨_,ρ,_,z o,.tuple rfl (LR.cons (.pure rfl) (LR.cons X (LR.cons u3 LR.nil))).2,fin ((ko.trans (H8 C)).trans (H8 B)) Y2 hf u4⟩
         .cases a
        .cases a
       .cases a
      .rename_i f t;cases a;obtain⟨Z,ko⟩:=key t hS;have o:¬n<s0.length:=fun q=>by have:=Z.2 q;cases this
       obtain⟨S,e3⟩:=ko;refine⟨_,ρ,w,I o,.tuple rfl (LR.cons (.pure rfl) LR.nil).2,?_⟩;rw[e3];exact St.wLg h S
      .cases a
     .cases a
    .cases a
  .cases a
 .cases a
def WQ{t:TypeId}{x:Value}(a:yS P m t x=some (v,m')):m.lg.le m'.lg:=by
 unfold yS at a;split at a
 .obtain⟨_,a⟩:=A3 a;rw[aU a];exact .refl _
 .cases a
def A1B{x:Value}(e:LE m x=some (v,m')):m.lg.le m'.lg:=by
 unfold LE at e;split at e
 .split at e
  .split at e
   .rename_i b k o;cases f:Nat.blt k b.data.toList.length with
    | true =>
      rw[f]at e;simp only[E5,E9]at e;split at e
      .rename_i Y2;cases e;rw[dZ Y2];exact .refl _
      .cases e
    | false=>rw[f]at e;cases e;exact .refl _
   .obtain⟨_,e⟩:=A3 e;split at e
    .rename_i i;split at e
     .rename_i n;have a:=(I3 i).trans (I3 n);split at e
      .rename_i f;have a:=a.trans (fM f);split at e
       .rename_i g;split at e
        .rename_i j;split at e
         .rename_i Y2;cases e;rw[dZ Y2];exact(a.trans (I3 g)).trans (I3 j)
         .cases e
        .cases e
       .cases e
      .rename_i f;cases e;exact a.trans (fM f)
      .cases e
     .cases e
    .cases e
  .cases e
 .cases e
def A8I{fr:Fr}{g:Operand->Value}{o:Oper}(h:HR P base ρ m.H w)(C:base<=w.heap.size)(b:xtM P fr m o=some (v,m'))(i:K4 ρ m.n m'.hi)(B:FR ρ fr g o.op)(f:Sat m'.lg):NOk P base ρ m w (execOp g o) v m':=by
 obtain⟨dst,op,ty,pos,D,G⟩:=o;unfold xtM at b;simp only at b B;have a:∀ {x},x ∈ op.operands.toList->VR ρ (ev fr x) (g x):=fun hx=>B _ hx
 split at b
 .rename_i s t x;exact NOk.of (A2_ h b (a (x:=x) (by simp[Op.operands])))
 .rename_i op t x y K;exact NOk.of (A0r h b (a (x:=x) (by simp[Op.operands])) (a (x:=y) (by simp[Op.operands])))
 .rename_i xs tys;have l1:=dK (ρ:=ρ) (fr:=fr) (g:=g) (xs:=xs.toList) fun y A=>B y (by show y ∈ (#[]++xs:Array Operand).toList;simpa using A)
  split at b
  .rename_i x hx;rw[hx]at l1;obtain⟨x',r1,z,g1,g2⟩:=l1.tail;cases g2.nil_inv;have j:xs.map g=#[x']:=by apply J2;simpa using z
   have:=A8g (tys:=tys) h b g1;have q:=NOk.of this;obtain⟨ks,u⟩:∃ ks,execOp g ⟨dst,.call ⟨.builtin .unsafeSliceData,xs,tys⟩,ty,pos,D,G⟩=builtin .unsafeSliceData tys ty ks (xs.map g):=⟨#[],rfl⟩;rw[u,j];exact q
  .cases b
 .rename_i xs tys;have l1:=dK (ρ:=ρ) (fr:=fr) (g:=g) (xs:=xs.toList) fun y A=>B y (by show y ∈ (#[]++xs:Array Operand).toList;simpa using A)
  split at b
  .rename_i p l t rest hx F;rw[hx]at l1;obtain⟨x',r1,z,g1,g2⟩:=l1.tail;obtain⟨I,J,rfl,g3,g4⟩:=g2.tail;cases g4.nil_inv;have j:xs.map g=#[x',I]:=by apply J2;simpa using z
   have q:=NOk.of (A8Q (ty:=ty) (tys:=rest) h b g1 g3 f i);obtain⟨ks,u⟩:∃ ks,execOp g ⟨dst,.call ⟨.builtin .unsafeString,xs,tys⟩,ty,pos,D,G⟩=builtin .unsafeString tys ty ks (xs.map g):=⟨#[],rfl⟩;have E:tys=⟨t::rest⟩:=by rw[<- F]
   rw[u,j,E];exact q
  .cases b
 .rename_i t;exact NOk.of (A4e h C b i f)
 .rename_i t x k ok;exact NOk.of (WZ h b (a (x:=x) (by simp[Op.operands])) (a (x:=k) (by simp[Op.operands])) f)
 .rename_i t x;exact NOk.of (WP h C b i (a (x:=x) (by simp[Op.operands])))
 .rename_i x;exact NOk.of (A1A h b i (a (x:=x) (by simp[Op.operands])) f)
 .rename_i t x k e;obtain⟨rfl,hu⟩:=KO h C b i (a (x:=x) (by simp[Op.operands])) (a (x:=k) (by simp[Op.operands])) (a (x:=e) (by simp[Op.operands])) f;exact NOk.ofU hu
 .rename_i t x k e;obtain⟨rfl,hu⟩:=KO h C b i (a (x:=x) (by simp[Op.operands])) (a (x:=k) (by simp[Op.operands])) (a (x:=e) (by simp[Op.operands])) f;exact NOk.ofU hu
 .rename_i xs tys;have l1:=dK (ρ:=ρ) (fr:=fr) (g:=g) (xs:=xs.toList) fun y A=>B y (by show y ∈ (#[]++xs:Array Operand).toList;simpa using A)
  split at b
  .rename_i x t rest hx F;rw[hx]at l1;obtain⟨x',r1,z,g1,g2⟩:=l1.tail;cases g2.nil_inv;have j:xs.map g=#[x']:=by apply J2;simpa using z
   have q:=NOk.of (A1N (ty:=ty) (tys:=rest) h b g1 f);obtain⟨ks,u⟩:∃ ks,execOp g ⟨dst,.call ⟨.builtin .len,xs,tys⟩,ty,pos,D,G⟩=builtin .len tys ty ks (xs.map g):=⟨#[],rfl⟩;have E:tys=⟨t::rest⟩:=by rw[<- F]
   rw[u,j,E];exact q
  .cases b
 .cases b
def A8J{fr:Fr}{o:Oper}(a:xtM P fr m o=some (v,m')):m.lg.le m'.lg:=by
 unfold xtM at a;split at a
 .unfold VG at a;split at a
  .split at a
   .obtain⟨_,a⟩:=A3 a;cases a;exact .refl _
   .cases a
  .split at a
   .obtain⟨_,a⟩:=A3 a;cases a;exact .refl _
   .cases a
  .obtain⟨_,a⟩:=A3 a;split at a
   .split at a
    .rename_i Y2;cases a;obtain⟨_,rfl⟩:=U9 Y2;exact .refl _
    .cases a
   .cases a
  .cases a
 .unfold SV at a;split at a
  .obtain⟨_,a⟩:=A3 a;split at a
   .cases a;exact .refl _
   .cases a;exact .refl _
   .cases a
  .cases a
 .split at a
  .unfold sdM at a;split at a
   .split at a
    .split at a
     .cases a;exact .refl _
     .cases a
    .cases a
   .cases a
  .cases a
 .split at a
  .unfold usM at a;split at a
   .obtain⟨_,a⟩:=A3 a;split at a
    .obtain⟨_,a⟩:=A3 a;split at a
     .rename_i b;split at a
      .rename_i hs;cases a;rw[dZ hs];exact I3 b
      .cases a
     .cases a
    .cases a
   .cases a
  .cases a
 .exact A4f a
 .exact XA a
 .exact WQ a
 .exact A1B a
 .exact KP a
 .exact KP a
 .split at a
  .exact A1O a
  .cases a
 .cases a
end
end
section
open Go
def fw(rd:Option Nat):Fence:={ Fence.wide with round:=rd }
def sU{rd:Option Nat}{n:Nat}:(fw rd).depth.isSome=true->1<=n:=fun h=>by cases h
def pS{rd:Option Nat}{n:Nat}{P:Program}{f:FuncId}{args:W4}{w:World}{R:Ending->World->Prop}:CallsIn (fw rd) n P f args w R↔Calls P f args w R :=
 ⟨fun h=>callsIn_wide.1 (show CallsIn Fence.wide n P f args w R from h),fun h=>show CallsIn (fw rd) n P f args w R from(callsIn_wide (n:=n)).2 h⟩
section
variable {P:Program} {rd:Option Nat}
def wpO(P:Program)(rd:Option Nat)(o:Oper)(a:Act)(w:World)(K:Act->World->Prop)(Q:Exit->Act->World->Prop):Prop:=o.wpIn (fw rd) 0 P a w K Q
def IR{o:Oper}{a:Act}{w:World}{K f:Act->World->Prop}{Q:Exit->Act->World->Prop}(h:∀ a w,K a w->f a w)(hh:wpO P rd o a w K Q):wpO P rd o a w f Q:=by
 unfold wpO Oper.wpIn at *;refine⟨hh.1,?_⟩;have hh:=hh.2;generalize (o.semAt (fw rd).round a.eval).run P w=r at *;cases r with
 | ok n w' =>
   cases n<;>simp only[Oper.uponIn]at hh ⊢ <;>
    first
     | exact h _ _ hh
     | exact⟨hh.1,CallsIn.mono hh.2 (fun e b he=>by cases e<;>first|exact h _ _ he|exact he)⟩
     | exact⟨hh.1,RowsIn.mono hh.2 (fun _ _ he=>h _ _ he)⟩
     | exact⟨hh.1,RoundIn.mono hh.2 (fun e b he=>by cases e<;>first|exact h _ _ he|exact he)⟩
 | halt x w'=>cases x<;>simp only[Oper.uponIn]at hh ⊢<;>exact hh
def wpL(P:Program)(rd:Option Nat)(ops:Array Oper)(Q:Exit->Act->World->Prop):List Oper->Act->World->Prop
 | [],a,w=>Q .normal a w
 | o::rest,a,w=>if Region.wanted o (yielded ops a.tmps)then wpO P rd o a w (wpL P rd ops Q rest) Q else wpL P rd ops Q rest (a.put o.dst undef) w
def IS{ops:Array Oper}{Q:Exit->Act->World->Prop}{a:Act}{w:World}{rest:List Oper}{o:Oper}
  (h:∀ K:Act->World->Prop,(∀ a w,wpL P rd ops Q rest a w->K a w)->if Region.wanted o (yielded ops a.tmps)then wpO P rd o a w K Q else K (a.put o.dst undef) w):wpL P rd ops Q (o::rest) a w:=h _ fun _ _ h=>h
def RS{ops:Array Oper}{Q:Exit->Act->World->Prop}:∀ (l:List Oper) (k:Nat),(∀ j,l[j]? = ops[k+j]?)->∀ a w,wpL P rd ops Q l a w->wpOpsIn (fw rd) 0 P ops Q (List.range' k l.length) a w
 | [],k,_,a,w,h=>h
 | o::l,k,hk,a,w,h=>by
   have h0:ops[k]? = some o:=by simpa using(hk 0).symm
   have b:=RS (Q:=Q) l (k+1) (fun j=>by have:=hk (j+1);simpa [cO,kA 1 j]using this);simp only[E6,List.range'_succ,wpOpsIn,h0];unfold wpL at h;split
   .rename_i hw;rw[B0 hw]at h;exact IR b h
   .rename_i hw;rw[A8 hw]at h;exact⟨fun _ _=>trivial,b _ _ h⟩
def wJ{id:Nat}{ops:Array Oper}{Q:Exit->Act->World->Prop}{a:Act}{w:World}(h:wpL P rd ops Q ops.toList a w):(Code.region id ops false).wpIn (fw rd) 0 P Q a w :=
 wpIn_region (by
  have:=RS ops.toList 0 (by simp) a w h;rw[List.range_eq_range',<- S0];exact this)
def hO(P:Program)(rd:Option Nat)(ops:Array Oper)(Q:Exit->Act->World->Prop)(i:Nat)(K:Act->World->Prop)(a:Act)(w:World):Prop :=
 match ops[i]? with
 | none=>K a w
 | some o=>if Region.wanted o (yielded ops a.tmps)then wpO P rd o a w K Q else K (a.put o.dst undef) w
def NW{ops:Array Oper}{Q:Exit->Act->World->Prop}{i:Nat}{a:Act}{w:World}{K b:Act->World->Prop}(h:∀ a w,K a w->b a w)(hh:hO P rd ops Q i K a w):hO P rd ops Q i b a w:=by
 unfold hO at *;split
 .exact h _ _ (by simpa [*]using hh)
 .rename_i o e;simp only[e]at hh;split
  .rename_i hw;simp only[hw,if_true]at hh;exact IR h hh
  .rename_i hw;simp only[hw]at hh;exact h _ _ hh
def FM{ops:Array Oper}{Q:Exit->Act->World->Prop}{i:Nat}{rest:H6}{a:Act}{w:World}(h:hO P rd ops Q i (wpOpsIn (fw rd) 0 P ops Q rest) a w):wpOpsIn (fw rd) 0 P ops Q (i::rest) a w:=by
 unfold hO at h;simp only[wpOpsIn];split at h
 .rename_i b;simp only[b];exact h
 .rename_i o e;simp only[e];split at h
  .rename_i hw;rw[B0 hw];exact h
  .rename_i hw;rw[A8 hw];exact⟨fun _ _=>trivial,h⟩
def iT(P:Program)(rd:Option Nat)(md:Region.Mode)(ops:Array Oper)(Q:Exit->Act->World->Prop):Nat->Array Bool->Act->World->Prop
 | 0,listed,a,w=>Region.ready md ops listed=[]/\Q .normal a w
 | fuel+1,listed,a,w=>(Region.ready md ops listed=[]->Q .normal a w)/\∀ i ∈ Region.ready md ops listed,hO P rd ops Q i (iT P rd md ops Q fuel (listed.setIfInBounds i true)) a w
def FN{md:Region.Mode}{ops:Array Oper}{Q:Exit->Act->World->Prop}:∀ (fuel t:Nat) (listed:Array Bool) (a:Act) (w:World),iT P rd md ops Q fuel listed a w->wpOpsIn (fw rd) 0 P ops Q (Region.linearise.go md ops fuel t listed []) a w:=by
 intro fuel;induction fuel with
 | zero=>intro t listed a w h;simpa [Region.linearise.go,wpOpsIn]using h.2
 | succ fuel f =>
   intro t listed a w h;obtain⟨h0,h1⟩:=h;simp only[Region.linearise.go];change wpOpsIn (fw rd) 0 P ops Q (match (Region.ready md ops listed)[t%(Region.ready md ops listed).length]? with
    | some i=>Region.linearise.go md ops fuel (t / (Region.ready md ops listed).length) (listed.setIfInBounds i true) [i]
    | none=>[].reverse) a w
   cases hi:(Region.ready md ops listed)[t%(Region.ready md ops listed).length]? with
   | none =>
     have b:Region.ready md ops listed=[]:=by
      cases hr:Region.ready md ops listed with
      | nil=>rfl
      | cons x xs =>
        rw[hr]at hi;have e:t%(x::xs).length<(x::xs).length:=pW _ (by simp);simp at hi;simp at e;omega
     simpa [wpOpsIn]using h0 b
   | some i =>
     simp only[];rw[linearise_go_acc,List.reverse_singleton,List.singleton_append];exact FM (NW (fun a w=>f _ _ a w) (h1 i (D0 hi)))
def kZ{id:Nat}{ops:Array Oper}{Q:Exit->Act->World->Prop}{a:Act}{w:World}(hm:P.follows .mixedOrders=true)
  (h:iT P rd .any ops Q ops.size (Array.replicate ops.size false) a { w with drawn:=w.drawn+1 }):(Code.region id ops true).wpIn (fw rd) 0 P Q a w :=
 wpIn_region_draw fun t=>by
  simp only[Region.schedule,hm,Bool.true_or,if_true];exact FN ops.size t _ a _ h
def u6{b:Frame}{a:Act}{k:List Item}{w:World} :step P (lone (b.atR a (.code (.scope c)::k)) cs w)=.next (lone (b.atR a (.code c::.inScope c::k)) cs w) :=
 step_lone_go (by simp[stepG,stepG.exec,Frame.atR])
def BV{b:Frame}{a:Act}{k:List Item}{w:World} :step P (lone (b.atR a (.inScope c::k)) cs w)=.next (lone (b.atR a k) cs w) :=
 step_lone_go (by simp[stepG,stepG.exec,Frame.atR])
def Exit.calm(Q:Exit->Act->World->Prop):Exit->Act->World->Prop
 | .goto _,_,_=>False
 | e,a,w=>Q e a w
def NX{F:Fence}{n:Nat}{Q:Exit->Act->World->Prop}{a:Act}{w:World}(h:c.wpIn F n P (Exit.calm Q) a w):(Code.scope c).wpIn F n P Q a w:=by
 intro b k cs p o hr;have h0:(lone (b.atR a (.code (.scope c)::k)) cs w).fenced P F:=fenced_calm o hr rfl;obtain⟨e,g,i,j,f⟩:=h b (.inScope c::k) cs p o hr;cases e with
 | normal=>exact⟨.normal,g,i,j,.head h0 u6 (StepsIn.trans f (.one (fenced_calm o hr rfl) BV))⟩
 | exit id =>
   have hx:exitTo id (.inScope c::k)=exitTo id k:=rfl;exact⟨.exit id,g,i,j,fun k' q=>.head h0 u6 (f.1 k' (by rw[hx];exact q)),
    fun s q=>let ⟨k₁,h1,t⟩:=f.2 s (by rw[hx];exact q);⟨k₁,h1,.head h0 u6 t⟩⟩
 | goto l=>exact j.elim
 | ret=>exact⟨_,g,i,j,.of_steps (.one h0 u6) f⟩
 | panic u=>exact⟨_,g,i,j,.of_steps (.one h0 u6) f⟩
 | outgrown=>exact⟨_,g,i,j,.of_steps (.one h0 u6) f⟩
end
end
section
open Go
def oI(o:Op)(g:Operand->Value):Sem Value :=
 match o with
 | .move x|.assign x=>pure (g x)
 | .load t x=>Instr.loadAt t (g x)
 | .store t x y=>do Instr.storeAt t (g x) (g y);pure undef
 | _=>stuck "no such operation"
def uR(P:Program)(o:Oper)(s:Act×World):Option (Act×World) :=
 match (oI o.op s.1.eval).run P s.2 with
 | .ok v w'=>some (s.1.put o.dst v,w')
 | .halt _ _=>none
section
variable {P:Program} {rd:Option Nat}
def xK{o:Oper}{s t:Act×World}(h:uR P o s=some t):∃ v,(oI o.op s.1.eval).run P s.2=.ok v t.2/\t.1=s.1.put o.dst v:=by
 unfold uR at h;split at h
 .rename_i v w' hr;cases h;exact⟨v,hr,rfl⟩
 .cases h
def oA{o:Oper}{s:Act×World}(h:(oI o.op s.1.eval).run P s.2=.ok v w'):uR P o s=some (s.1.put o.dst v,w'):=by
 unfold uR;rw[h]
def XX{o:Oper}(a:ID o.op=true)(w:World)(g:Operand->Value):o.about P w g=none:=by
 unfold Oper.about;cases b:o.op<;>rw[b]at a<;>first|rfl|cases a
def SD{o:Oper}(a:ID o.op=true)(g:Operand->Value):∀ c,o.op≠.defer c:=fun c h=>by rw[h]at a;cases a
def A3x{o:Oper}(g:ID o.op=true){a a':Act}{w:World}{K:Act->World->Prop}{Q:Exit->Act->World->Prop}(h:uR P o (a,w)=some (a',w'))(i:K a' w'):wpO P rd o a w K Q:=by
 obtain⟨v,h1,j⟩:=xK h;simp only at h1 j;subst j;unfold wpO Oper.wpIn;refine⟨fun f n=>(by rw[XX g]at n;cases n),?_⟩;rw[Oper.semAt_eq _ _ _ (SD g a.eval)];cases b:o.op<;>rw[b]at g h1<;>first
  | cases g;done
  | skip
 .have e:(execOp a.eval o)=pure (.value (a.eval ‹Operand›)):=by unfold execOp;rw[b]
  rw[e];cases h1;exact i
 .have e:(execOp a.eval o)=pure (.value (a.eval ‹Operand›)):=by unfold execOp;rw[b]
  rw[e];cases h1;exact i
 .rename_i t x;have e:(execOp a.eval o)=(do pure (.value (<- Instr.loadAt t (a.eval x)))):=by unfold execOp;rw[b]
  have h1:(Instr.loadAt t (a.eval x)).run P w=.ok v w':=h1;rw[e];simp only[A4,h1,Result.andThen,Sem.run_pure];exact i
 .rename_i t x y;have e:(execOp a.eval o)=(do Instr.storeAt t (a.eval x) (a.eval y);pure .skip):=by unfold execOp;rw[b]
  have h1:(do Instr.storeAt t (a.eval x) (a.eval y);pure undef:Sem Value).run P w=.ok v w':=h1;rw[e];simp only[A4]at h1 ⊢;cases hr:(Instr.storeAt t (a.eval x) (a.eval y)).run P w with
  | ok u w2=>rw[hr]at h1;simp only[Result.andThen,Sem.run_pure]at h1 ⊢;cases h1;exact i
  | halt x w2=>rw[hr]at h1;cases h1
def A5L{o:Oper}(f:ID o.op=true){a:Act}{w:World}{K:Act->World->Prop}{Q:Exit->Act->World->Prop}(g:∀ c a w,¬Q (.panic c) a w)(h:wpO P rd o a w K Q):∃ a' w',uR P o (a,w)=some (a',w')/\K a' w':=by
 unfold wpO Oper.wpIn at h;obtain⟨_,h⟩:=h;rw[Oper.semAt_eq _ _ _ (SD f a.eval)]at h;cases b:o.op<;>rw[b]at f<;>first
  | cases f;done
  | skip
 .rename_i x;have e:(execOp a.eval o)=pure (.value (a.eval x)):=by unfold execOp;rw[b]
  rw[e]at h;exact⟨_,_,oA (s:=(a,w)) (v:=a.eval x) (w':=w) (by rw[b];rfl),h⟩
 .rename_i x;have e:(execOp a.eval o)=pure (.value (a.eval x)):=by unfold execOp;rw[b]
  rw[e]at h;exact⟨_,_,oA (s:=(a,w)) (v:=a.eval x) (w':=w) (by rw[b];rfl),h⟩
 .rename_i t x;have e:(execOp a.eval o)=(do pure (.value (<- Instr.loadAt t (a.eval x)))):=by unfold execOp;rw[b]
  rw[e]at h;simp only[A4]at h;cases hr:(Instr.loadAt t (a.eval x)).run P w with
  | ok v w' =>
    rw[hr]at h;exact⟨_,_,oA (s:=(a,w)) (v:=v) (w':=w') (by rw[b];exact hr),h⟩
  | halt y w' =>
    rw[hr]at h;cases y<;>first|exact absurd h (g _ _ _)|exact h.elim
 .rename_i t x y;have e:(execOp a.eval o)=(do Instr.storeAt t (a.eval x) (a.eval y);pure .skip):=by unfold execOp;rw[b]
  rw[e]at h;simp only[A4]at h;cases hr:(Instr.storeAt t (a.eval x) (a.eval y)).run P w with
  | ok u w' =>
    rw[hr]at h;refine⟨_,_,oA (s:=(a,w)) (v:=undef) (w':=w') ?_,h⟩;rw[b];show(do Instr.storeAt t (a.eval x) (a.eval y);pure undef:Sem Value).run P w=_;simp only[A4,hr,Result.andThen,Sem.run_pure]
  | halt z w' =>
    rw[hr]at h;cases z<;>first|exact absurd h (g _ _ _)|exact h.elim
def A0h{a:Act}{e:Option Tmp}{u:Value}(h:∀ x y,d=some x->e=some y->x≠y):(a.put d v).put e u=(a.put e u).put d v:=by
 cases d with
 | none=>rfl
 | some x=>cases e with
   | none=>rfl
   | some y =>
     have b:=h x y rfl rfl;unfold Act.put;simp only;congr 1;exact Array.setIfInBounds_comm _ _ b
def iM{a:Act}{x:Operand}(h:∀ t,d=some t->t ∉ qI x):(a.put d v).eval x=a.eval x:=by
 cases x with
 | const c=>cases d<;>rfl
 | tmp t =>
   cases d with
   | none=>rfl
   | some y =>
     have:y≠t:=fun e=>h y rfl (by subst e;exact L4.2 rfl)
     unfold Act.put Act.eval;simp only[B8];rw[Array.getElem?_setIfInBounds_ne this]
 | _=>cases d<;>rfl
variable [Ora]
def CH(P:Program)(w:World)(t:TypeId)(p:Value):Prop :=
 ∃ b o C T fz s g,p=.pointer (some ⟨b,o,none⟩)/\w.heap[b]? = some (.cells C T fz)/\H4 P t=some s/\aY P t=some g/\o+s<=C.size/\o<C.size
def DO{t:TypeId}{b o s:Nat}{C:W4}{T:TypeId}{g:Bool}(hs:H4 P t=some s)(n:aY P t=some g)(h1:o+s<=C.size)(p:o<C.size):∃ v,∀ w:World,w.heap[b]? = some (.cells C T fz)->(Instr.loadAt t (.pointer (some ⟨b,o,none⟩))).run P w=.ok v w:=by
 have a:∀ w:World,w.heap[b]? = some (.cells C T fz)->∀ j v,C[o+j]? = some v->w.cell? ⟨b,o+j,none⟩=some v:=fun w hw j v hv=>by simp[World.cell?,hw,hv]
 cases g with
 | true =>
   refine⟨.agg ⟨(C.toList.drop o).take s⟩,fun w hw=>?_⟩;have q:((C.toList.drop o).take s).length=s:=by rw[G0,E4,S0];omega
   have e:=K6 (P:=P) (w:=w) (b:=b) (o:=o) q (fun j v f=>by
    have i:j<s:=by have:=(B3.1 f).1;omega
    rw[E8 i,I4,Q1]at f;exact a w hw j v f)
   unfold Instr.loadAt;simp[A4,Instr.sureAddr,loadVar,cK n,L1 hs,Result.andThen,e]
 | false =>
   refine⟨C[o],fun w hw=>?_⟩
   have:=a w hw 0 C[o] (by simp[p]);unfold Instr.loadAt;simp[A4,Instr.sureAddr,loadVar,cK n,Result.andThen,run_load,show w.cell? ⟨b,o,none⟩=some C[o]from by simpa using this]
def xY{b o:Nat}{T:TypeId}{fz:Nat×Nat}:∀ (vs:List Value) (i:Nat) (C:Array Value) (w w':World),w.heap[b]? = some (.cells C T fz)->o+i+vs.length<=C.size->(storeCells ⟨b,o,none⟩ vs i).run P w=.ok () w' ->
  (∀ k,k≠b->w'.heap[k]? = w.heap[k]?)/\∃ C',w'.heap[b]? = some (.cells C' T fz)/\C'.size=C.size
 | [],i,C,w,w',h,_,hr=>by cases hr;exact⟨fun _ _=>rfl,C,h,rfl⟩
 | v::r,i,C,w,w',h,hl,hr=>by
   simp only[E6]at hl;have f:o+i<C.size:=A2;have s:w.cell? ⟨b,o+i,none⟩=some C[o+i]:=by simp[World.cell?,h,f]
   have p:(w.setCell ⟨b,o+i,none⟩ v).heap[b]? = some (.cells (C.setIfInBounds (o+i) v) T fz):=by
    simp[World.setCell,H3,h]
   unfold storeCells at hr;simp only[A4,K6.add_none']at hr;have a:(store ⟨b,o+i,none⟩ v).run P w=.ok () (w.setCell ⟨b,o+i,none⟩ v)∨∃ x w2,(store ⟨b,o+i,none⟩ v).run P w=.halt x w2:=by
    unfold store;cases v<;>first
     | exact .inr ⟨_,_,rfl⟩
     | (simp only[Sem.run,s]
        split
        .exact .inr ⟨_,_,rfl⟩
        .exact .inl rfl)
   rcases a with a|⟨x,w2,a⟩
   .rw[a]at hr;simp only[Result.andThen]at hr;obtain⟨q,C',j,n⟩:=xY r (i+1) _ _ _ p (by simp;omega) hr;refine⟨fun k g=>?_,C',j,by rw[n];simp⟩;rw[q k g];simp only[World.setCell,H3];rw[A8 (fun e=>g e.symm)]
   .rw[a]at hr;cases hr
def FY{t:TypeId}{b o s:Nat}{C:W4}{T:TypeId}{y:Value}{w:World}(hs:H4 P t=some s)(hw:w.heap[b]? = some (.cells C T fz))(h1:o+s<=C.size)(hr:(Instr.storeAt t (.pointer (some ⟨b,o,none⟩)) y).run P w=.ok () w') :
  (∀ k,k≠b->w'.heap[k]? = w.heap[k]?)/\∃ C',w'.heap[b]? = some (.cells C' T fz)/\C'.size=C.size:=by
 unfold Instr.storeAt at hr;simp only[A4,Instr.sureAddr,storeVar,L1 hs,Result.andThen,Sem.run_pure]at hr;by_cases a:y.cells.size≠s
 .rw[B0 a]at hr;cases hr
 .rw[A8 a]at hr;have a:=Classical.not_not.1 a;exact xY y.cells.toList 0 C w w' hw (by rw[S0,a];omega) hr
structure NU (P:Program) (ops:List Oper) (s:Act×World):Prop where
 pl:∀ o ∈ ops,∀ t x,mU o.op=some (t,x)->CH P s.2 t (s.1.eval x)
 ap:∀ i j a b,i<j->ops[i]? = some a->ops[j]? = some b->tD b i=false->(gD a.op || gD b.op)=true->∀ t x u y,mU a.op=some (t,x)->mU b.op=some (u,y)->∀ p q,s.1.eval x=.pointer (some p)->s.1.eval y=.pointer (some q)->p.block≠q.block
def zZ{b:Nat}:aC l b=true↔b ∈ l:=by
 unfold aC;rw[Q4];constructor
 .rintro⟨x,h,e⟩;have:=A0 e;subst this;exact h
 .intro h;exact⟨b,h,eF b⟩
def KZ{a:List Tmp}:∀ {l:List Oper} {k i:Nat} {o:Oper},A04 a k l=true->l[i]? = some o->A8y a (k+i) o=true
 | [],k,i,o,_,h=>by simp at h
 | p::l,k,0,o,h,hi=>by
   simp at hi;subst hi;exact(B6 h).1
 | p::l,k,i+1,o,h,hi=>by
   have:=KZ (l:=l) (k:=k+1) (i:=i) (o:=o) (B6 h).2 (by simpa using hi);rw[show k+(i+1)=k+1+i by omega];exact this
structure One (ops:List Oper) (i:Nat) (o:Oper):Prop where
 cls:ID o.op=true
 grd:o.guard=none
 ads:∀ p ∈ ops,∀ t x,mU p.op=some (t,x)->∀ d,o.dst=some d->d ∉ qI x
 lt:∀ e ∈ o.after,Region.binds .any e=true->e.on<i
def nN{ops:List Oper}(h:lL ops=true){i:Nat}{o:Oper}(hi:ops[i]? = some o):One ops i o:=by
 have h1:=KZ (B6 h).1 hi;rw[F5]at h1;unfold A8y at h1;obtain⟨a,h1⟩:=B6 h1;obtain⟨a2,h1⟩:=B6 h1;obtain⟨a3,a4⟩:=B6 h1;refine⟨a,?_,fun p hp t x hx d f hm=>?_,fun e he b=>?_⟩
 .cases j:o.guard with
  | none=>rfl
  | some g=>rw[j]at a2;cases a2
 .have:aC (A3c ops) d=true:=zZ.2 (List.mem_flatMap.2 ⟨p,hp,by rw[hx];exact hm⟩);unfold DE at a3;rw[f]at a3;simp only at a3;rw[this]at a3;cases a3
 .have:=fR.1 a4 e he;rw[b]at this;exact A1 this
def KE{p:Oper->Oper->Bool}{ops:List Oper}(h:GM p ops=true){i j:Nat}{a b:Oper}(f:i<j)(hi:ops[i]? = some a)(g:ops[j]? = some b)(he:tD b i=false):p a b=true:=by
 unfold GM at h;have e:=(B3.1 g).1
 have:=D6.1 (D6.1 h j (W6.2 e)) i (W6.2 f);rw[hi,g]at this;simp only[he,Q9]at this;exact this
def KI{o:Oper}{a:Act}(b:∀ t,d=some t->t ∉ A0e o.op)(f:ID o.op=true):oI o.op (a.put d v).eval=oI o.op a.eval:=by
 cases g:o.op<;>rw[g]at f b<;>first
  | cases f;done
  | skip
 .unfold oI;simp only;rw[iM b]
 .unfold oI;simp only;rw[iM b]
 .unfold oI;simp only;rw[iM b]
 .unfold oI;simp only;rw[iM (fun t e hm=>b t e (B7.2 (.inl hm))),iM (fun t e hm=>b t e (B7.2 (.inr hm)))]
def xC{o:Oper}{s:Act×World}(e:ID o.op=true)(a:gD o.op=false)(hp:∀ t x,mU o.op=some (t,x)->CH P s.2 t (s.1.eval x))(h:(oI o.op s.1.eval).run P s.2=.ok v w'):w'=s.2:=by
 cases j:o.op<;>rw[j]at e a h hp<;>first
  | cases e;done
  | cases a;done
  | skip
 .cases h;rfl
 .cases h;rfl
 .rename_i t x;obtain⟨b,o',C,T,fz,sz,g,z,f,p,i,q,n⟩:=hp t x rfl;obtain⟨u,hu⟩:=DO (P:=P) (T:=T) (fz:=fz) p i q n;have h:(Instr.loadAt t (s.1.eval x)).run P s.2=.ok v w':=h;rw[z,hu s.2 f]at h;cases h;rfl
def xX{o:Oper}{s:Act×World}(a:gD o.op=true)(hp:∀ t x,mU o.op=some (t,x)->CH P s.2 t (s.1.eval x))(h:(oI o.op s.1.eval).run P s.2=.ok v w') :
  ∃ t x b o' C T fz,mU o.op=some (t,x)/\s.1.eval x=.pointer (some ⟨b,o',none⟩)/\s.2.heap[b]? = some (.cells C T fz)/\(∀ k,k≠b->w'.heap[k]? = s.2.heap[k]?)/\∃ C',w'.heap[b]? = some (.cells C' T fz)/\C'.size=C.size:=by
 cases j:o.op<;>rw[j]at a h hp<;>first
  | cases a;done
  | skip
 rename_i t x y;obtain⟨b,o',C,T,fz,sz,g,f,e,p,A,q,B⟩:=hp t x rfl;have h:(do Instr.storeAt t (s.1.eval x) (s.1.eval y);pure undef:Sem Value).run P s.2=.ok v w':=h;simp only[A4]at h;cases hr:(Instr.storeAt t (s.1.eval x) (s.1.eval y)).run P s.2 with
 | ok u w2 =>
   rw[hr]at h;simp only[Result.andThen,Sem.run_pure]at h;cases h;rw[f]at hr;obtain⟨n,i⟩:=FY p e q hr;exact⟨t,x,b,o',C,T,fz,rfl,f,e,n,i⟩
 | halt z w2=>rw[hr]at h;cases h
def CH.keep{w:World}{t:TypeId}{p:Value}(h:CH P w t p)(f:∀ (b:Nat) (C:Array Value) (T:TypeId) (fz:Nat×Nat),w.heap[b]? = some (.cells C T fz)->∃ C',w'.heap[b]? = some (.cells C' T fz)/\C'.size=C.size):CH P w' t p:=by
 obtain⟨b,o,C,T,fz,s,g,j,a,i,e,u,q⟩:=h;obtain⟨C',h1,n⟩:=f b C T fz a;exact⟨b,o,C',T,fz,s,g,j,h1,i,e,A2,A2⟩
def NU.step{ops:List Oper}{s B:Act×World}{i:Nat}{o:Oper}(hr:lL ops=true)(D:NU P ops s)(hi:ops[i]? = some o)(h:uR P o s=some B):NU P ops B:=by
 obtain⟨v,h1,K⟩:=xK h;have H:=nN hr hi;have f:=D0 hi;have g:∀ p ∈ ops,∀ t x,mU p.op=some (t,x)->B.1.eval x=s.1.eval x:=fun p hp t x hx=>by rw[K];exact iM (H.ads p hp t x hx)
 have R:∀ (b:Nat) (C:Array Value) (T:TypeId) (fz:Nat×Nat),s.2.heap[b]? = some (.cells C T fz)->∃ C',B.2.heap[b]? = some (.cells C' T fz)/\C'.size=C.size:=fun b C T fz A=>by
  cases n:gD o.op with
  | false=>rw[xC H.cls n (fun t x hx=>D.pl o f t x hx) h1];exact⟨C,A,rfl⟩
  | true =>
    obtain⟨t,x,b',o',X,Y,O,Z,W,Q,L,C',S,N⟩:=xX n (fun t x hx=>D.pl o f t x hx) h1;by_cases e:b=b'
    .subst e;rw[Q]at A;cases A;exact⟨C',S,N⟩
    .exact⟨C,by rw[L b e];exact A,rfl⟩
 refine⟨fun p hp t x hx=>by rw[g p hp t x hx];exact(D.pl p hp t x hx).keep R,fun i j a b E h3 J M V t x u y F G p q I z=>?_⟩;rw[g a (D0 h3) t x F]at I;rw[g b (D0 J) u y G]at z;exact D.ap i j a b E h3 J M V t x u y F G p q I z
def A2x{ops:List Oper}{s s1 s2:Act×World}{i j:Nat}{a b:Oper}(hr:lL ops=true)(M:NU P ops s)(D:i<j)(hi:ops[i]? = some a)(L:ops[j]? = some b)(he:tD b i=false)(h1:uR P a s=some s1)(h2:uR P b s1=some s2):∃ t,uR P b s=some t/\uR P a t=some s2:=by
 have O:=nN hr hi;have N:=nN hr L;have ma:=D0 hi;have mb:=D0 L;have f:=KE (B6 hr).2 D hi L he;unfold B1H at f;obtain⟨i1,f⟩:=B6 f;obtain⟨i2,f⟩:=B6 f;obtain⟨i3,i4⟩:=B6 f;have Y:∀ t,a.dst=some t->t ∉ A0e b.op:=fun t Q hm=>by
  unfold DE at i2;rw[Q]at i2;simp only at i2;rw[zZ.2 hm]at i2;cases i2
 have X:∀ t,b.dst=some t->t ∉ A0e a.op:=fun t Q hm=>by
  unfold DE at i3;rw[Q]at i3;simp only at i3;rw[zZ.2 hm]at i3;cases i3
 have S:∀ x y,a.dst=some x->b.dst=some y->x≠y:=fun x y hx hy e=>by
  rw[hx,hy]at i1;simp only at i1;subst e;rw[eF]at i1;cases i1
 obtain⟨v,J,e2⟩:=xK h1;obtain⟨u,E,e4⟩:=xK h2;obtain⟨a1,w1⟩:=s1;obtain⟨a2,w2⟩:=s2;obtain⟨a0,w0⟩:=s;simp only at J e2 E e4;subst e2;subst e4;rw[KI Y N.cls]at E;suffices hh:∃ w',(oI b.op a0.eval).run P w0=.ok u w'/\(oI a.op a0.eval).run P w'=.ok v w2 by
  obtain⟨w',q1,q2⟩:=hh;refine⟨(a0.put b.dst u,w'),oA (s:=(a0,w0)) q1,?_⟩
  have:=oA (P:=P) (o:=a) (s:=(a0.put b.dst u,w')) (v:=v) (w':=w2) (by show(oI a.op (a0.put b.dst u).eval).run P w'=_;rw[KI X O.cls];exact q2);rw[this];simp only;rw[A0h S]
 have B:∀ t x,mU a.op=some (t,x)->CH P w0 t (a0.eval x):=fun t x hx=>M.pl a ma t x hx
 have q:∀ t x,mU b.op=some (t,x)->CH P w0 t (a0.eval x):=fun t x hx=>M.pl b mb t x hx
 have p:∀ {o:Oper} {w w':World} {r:Value},ID o.op=true->gD o.op=false->(∀ t x,mU o.op=some (t,x)->∃ n A C T fz s g,a0.eval x=.pointer (some ⟨n,A,none⟩)/\w.heap[n]? = some (.cells C T fz)/\w'.heap[n]? = some (.cells C T fz)/\H4 P t=some s/\aY P t=some g/\A+s<=C.size/\A<C.size)->(oI o.op a0.eval).run P w=.ok r w->(oI o.op a0.eval).run P w'=.ok r w':=fun{o w w' r} hc I hp h=>by
  cases ho:o.op<;>rw[ho]at hc I h hp<;>first
   | cases hc;done
   | cases I;done
   | skip
  .cases h;rfl
  .cases h;rfl
  .rename_i t x;obtain⟨n,A,C,T,fz,sz,g,f1,f2,f3,f4,f5,f6,f7⟩:=hp t x rfl;obtain⟨z,hz⟩:=DO (P:=P) (T:=T) (fz:=fz) f4 f5 f6 f7;have h:(Instr.loadAt t (a0.eval x)).run P w=.ok r w:=h;show(Instr.loadAt t (a0.eval x)).run P w'=.ok r w';rw[f1,hz w f2]at h;rw[f1,hz w' f3];cases h;rfl
 cases H:gD a.op with
 | false =>
   have hw:w1=w0:=xC (s:=(a0,w0)) O.cls H B J;subst hw;refine⟨w2,E,?_⟩;refine p O.cls H (fun t x hx=>?_) J;obtain⟨n,A,C,T,fz,sz,g,f1,f2,f3,f4,f5,f6⟩:=B t x hx;cases G:gD b.op with
   | false =>
     have V:w2=w1:=xC (s:=(a0,w1)) N.cls G q E;subst V;exact⟨n,A,C,T,fz,sz,g,f1,f2,f2,f3,f4,f5,f6⟩
   | true =>
     obtain⟨Z,x',b',o',C0,T0,W,g1,g2,g3,g4,_⟩:=xX (s:=(a0,w1)) G q E;have F:=M.ap i j a b D hi L he (by rw[H,G];rfl) t x Z x' hx g1 _ _ f1 g2;exact⟨n,A,C,T,fz,sz,g,f1,f2,(g4 n F).trans f2,f3,f4,f5,f6⟩
 | true =>
   have G:gD b.op=false:=by
    cases h:gD b.op with
    | false=>rfl
    | true=>rw[H,h]at i4;cases i4
   obtain⟨Z,x',b',o',C0,T0,W,g1,g2,g3,g4,C1,g5,g6⟩:=xX (s:=(a0,w0)) H B J;have K:∀ t x,mU b.op=some (t,x)->CH P w1 t (a0.eval x):=fun t x hx=>(q t x hx).keep fun b C T fz R=>by
    by_cases e:b=b'
    .subst e;rw[g3]at R;cases R;exact⟨C1,g5,g6⟩
    .exact⟨C,by rw[g4 b e];exact R,rfl⟩
   have hw:w2=w1:=xC (s:=(a0,w1)) N.cls G K E;subst hw;refine⟨w0,?_,J⟩;refine p N.cls G (fun t x hx=>?_) E;obtain⟨n,A,C,T,fz,sz,g,f1,f2,f3,f4,f5,f6⟩:=q t x hx;have F:=M.ap i j a b D hi L he (by rw[H,G];rfl) Z x' t x g1 hx _ _ g2 f1;exact⟨n,A,C,T,fz,sz,g,f1,(g4 n (fun e=>F e.symm)).trans f2,f2,f3,f4,f5,f6⟩
def GF(P:Program)(ops:List Oper):H6->Act×World->Option (Act×World)
 | [],s=>some s
 | i::l,s=>match ops[i]? with
   | some o=>match uR P o s with
     | some s=>GF P ops l s
     | none=>none
   | none=>GF P ops l s
def oW{ops:List Oper}(hr:lL ops=true){j:Nat}{b:Oper}(f:ops[j]? = some b){l2:H6}{r:Act×World}:∀ (l1:List Nat) (s:Act×World),NU P ops s->(∀ i ∈ l1,i<j/\tD b i=false)->GF P ops (l1++j::l2) s=some r->∃ s1,uR P b s=some s1/\GF P ops (l1++l2) s1=some r
 | [],s,hg,_,h=>by
   simp only[G9,GF,f]at h;split at h
   .rename_i s1 h1;exact⟨s1,h1,h⟩
   .cases h
 | i::l1,s,hg,hl,h=>by
   obtain⟨h0,he⟩:=hl i B5;have e:∀ i ∈ l1,i<j/\tD b i=false:=fun k o=>hl k (C7 _ o)
   simp only[S7,GF]at h ⊢;cases hi:ops[i]? with
   | none =>
     rw[hi]at h;exact oW hr f l1 s hg e h
   | some a =>
     rw[hi]at h;simp only at h ⊢;split at h
     .rename_i p h1;obtain⟨s1,g,n⟩:=oW hr f l1 p (hg.step hr hi h1) e h;obtain⟨t,t1,t2⟩:=A2x hr hg h0 hi f he h1 g;exact⟨t,t1,by rw[t2];exact n⟩
     .cases h
def kV(n:Nat)(listed:Array Bool):H6:=(List.range n).filter fun i=>!listed.getD i true
def rK{n:Nat}{i:Nat}:i ∈ kV n listed↔i<n/\listed.getD i true=false:=by
 unfold kV;rw[P6,W6];simp
def GJ(n:Nat)(listed:Array Bool):(kV n listed).Pairwise (· < ·):=List.Pairwise.filter _ List.pairwise_lt_range
def A0d{n:Nat}{i:Nat}{l1 l2:H6}(hi:i<listed.size)(h:kV n listed=l1++i::l2):kV n (listed.setIfInBounds i true)=l1++l2:=by
 have hp:=GJ n listed;rw[h]at hp;have b:∀ k ∈ l1++l2,(k != i)=true:=fun k a=>by
  have hp:=List.pairwise_append.1 hp;rcases B7.1 a with a|a
  .have:=hp.2.2 k a i B5;simp;omega
  .have:=(List.pairwise_cons.1 hp.2.1).1 k a;simp;omega
 have e:kV n (listed.setIfInBounds i true)=(kV n listed).filter fun k=>k != i:=by
  unfold kV;rw[List.filter_filter];apply List.filter_congr;intro k _;simp only[B8,G6];by_cases e:i=k
  .subst e;simp[hi]
  .simp[e,Ne.symm e]
 rw[e,h,List.filter_append,List.filter_cons];have f:(i != i)=false:=by simp
 rw[f];simp only[J8,if_false];rw[dV.2 fun k a=>b k (B7.2 (.inl a)),dV.2 fun k a=>b k (B7.2 (.inr a))]
def DJ{ops:Array Oper}(hr:lL ops.toList=true){Q:Exit->Act->World->Prop}:∀ (fuel:Nat) (listed:Array Bool) (a:Act) (w:World) (r:Act×World),listed.size=ops.size->NU P ops.toList (a,w)->(kV ops.size listed).length=fuel->GF P ops.toList (kV ops.size listed) (a,w)=some r->Q .normal r.1 r.2->iT P rd .any ops Q fuel listed a w
 | 0,listed,a,w,r,hsz,hg,hl,h,hq=>by
   have h0:=G4.1 hl;rw[h0]at h;cases h;refine⟨?_,hq⟩;rw[cG];intro i hi;have:i ∈ kV ops.size listed:=by
    unfold Region.ready at hi;rw[P6]at hi;unfold kV;rw[P6];exact⟨hi.1,(B6 hi.2).1⟩
   rw[h0]at this;cases this
 | fuel+1,listed,a,w,r,hsz,hg,hl,h,hq=>by
   have j:∀ {i:Nat},i<ops.size->∃ o,ops.toList[i]? = some o/\ops[i]? = some o:=fun{i} hi=>⟨ops[i],by simp[hi],by simp[hi]⟩
   refine⟨fun I=>?_,fun i hi=>?_⟩
   ·
    cases g:kV ops.size listed with
    | nil=>rw[g]at hl;cases hl
    | cons i t =>
      exfalso;have G:i ∈ kV ops.size listed:=by rw[g];exact B5
      obtain⟨i1,i2⟩:=rK.1 G;obtain⟨o,x,z⟩:=j i1;have A:=nN hr x;have f:=GJ ops.size listed;rw[g]at f;have s:∀ k,k<i->listed.getD k false=true:=fun k E=>by
       have p:k<listed.size:=A2;cases hv:listed.getD k true with
       | true=>rw[<- hv];simp[B8,p]
       | false =>
         have:k ∈ kV ops.size listed:=rK.2 ⟨A2,hv⟩;rw[g]at this;rcases B4.1 this with e|hm
         .omega
         .have:=(List.pairwise_cons.1 f).1 k hm;omega
      have:i ∈ Region.ready .any ops listed:=by
       unfold Region.ready;rw[P6,W6];refine⟨i1,?_⟩;rw[i2,z];simp only[Bool.not_false,gZ,L6,cD];rw[fR];intro e he;cases L:Region.binds .any e with
       | false=>rfl
       | true=>rw[s e.on (A.lt e he L)];rfl
      rw[I]at this;cases this
   .have hi':=hi;unfold Region.ready at hi;rw[P6,W6]at hi;obtain⟨i1,i2⟩:=hi;obtain⟨o,x,z⟩:=j i1;have A:=nN hr x;rw[z]at i2;obtain⟨i2,i3⟩:=B6 i2;simp only[L6,cD]at i3;have F:listed.getD i true=false:=by simpa using i2
    have u:i ∈ kV ops.size listed:=rK.2 ⟨i1,F⟩;obtain⟨l1,l2,b⟩:=List.append_of_mem u;have f:=GJ ops.size listed;rw[b]at f;have D:∀ k ∈ l1,k<i/\tD o k=false:=fun k E=>by
     refine⟨(List.pairwise_append.1 f).2.2 k E i B5,?_⟩;cases he:tD o k with
     | false=>rfl
     | true =>
       exfalso;unfold tD at he;rw[Array.any_eq_true']at he;obtain⟨e,hm,he⟩:=he;obtain⟨M,C⟩:=B6 he;have C:=A0 C
       have:=(fR.1 i3) e hm;rw[M,C]at this;simp only[Q8,Q9]at this;have p:=(rK (n:=ops.size) (listed:=listed) (i:=k)).1 (by rw[b];exact B7.2 (.inl E));have B:k<listed.size:=A2;have q:=p.2;simp[B8,B]at this q;rw[this]at q;cases q
    rw[b]at h;obtain⟨s1,H,J⟩:=oW hr x l1 (a,w) hg D h;have Y2:=A0d (n:=ops.size) (listed:=listed) (i:=i) (l1:=l1) (l2:=l2) A2 b;obtain⟨K,w1⟩:=s1;unfold hO;rw[z];simp only;have hw:Region.wanted o (yielded ops a.tmps)=true:=by unfold Region.wanted;rw[A.grd]
    rw[B0 hw];refine A3x A.cls H (DJ hr fuel (listed.setIfInBounds i true) K w1 r (by simpa using hsz) (hg.step hr x H) ?_ (by rw[Y2];exact J) hq);rw[Y2];have:(l1++i::l2).length=fuel+1:=by rw[<- b];exact hl
    simp at this ⊢;omega
def CY{ops:Array Oper}(hr:lL ops.toList=true){Q:Exit->Act->World->Prop}:∀ (d k:Nat) (a:Act) (w:World),k+d=ops.size->wpL P rd ops (fun e a' w'=>e=.normal/\Q e a' w') (ops.toList.drop k) a w->∃ r,GF P ops.toList (List.range' k d) (a,w)=some r/\Q .normal r.1 r.2
 | 0,k,a,w,hk,h=>by
   have:ops.toList.drop k=[]:=S4 (by simp;omega);rw[this]at h;exact⟨(a,w),rfl,h.2⟩
 | d+1,k,a,w,hk,h=>by
   have b:k<ops.toList.length:=by simp;omega
   rw[g7 b]at h;have f:=nN hr (A5 b);unfold wpL at h;have hw:Region.wanted ops.toList[k] (yielded ops a.tmps)=true:=by unfold Region.wanted;rw[f.grd]
   rw[B0 hw]at h;obtain⟨a',w',h1,g⟩:=A5L f.cls (fun c a w hh=>by cases hh.1) h;obtain⟨r,r1,i⟩:=CY hr d (k+1) a' w' A2 g;refine⟨r,?_,i⟩;rw[List.range'_succ];simp only[GF,A5 b,h1];exact r1
def A4N{ops:Array Oper}(hr:lL ops.toList=true){Q:Exit->Act->World->Prop}{a:Act}{w:World}(f:∀ w',w'.heap=w.heap->NU P ops.toList (a,w'))(h:∀ d,wpL P rd ops (fun e a' w'=>e=.normal/\Q e a' w') ops.toList a { w with drawn:=d })(d:Nat):iT P rd .any ops Q ops.size (Array.replicate ops.size false) a { w with drawn:=d }:=by
 obtain⟨r,r1,b⟩:=CY hr ops.size 0 a { w with drawn:=d } A2 (by simpa using h d);have e:kV ops.size (Array.replicate ops.size false)=List.range' 0 ops.size:=by
  unfold kV;rw[List.range_eq_range',dV];intro i hi;have:i<ops.size:=by have:=List.mem_range'.1 hi;omega
  simp[B8,this]
 exact DJ hr ops.size _ a _ r (by simp) (f _ rfl) (by rw[e];simp) (by rw[e];exact r1) b
end
end
end Go.Sx
