import Derived.Test.YtbbicpheoakeeaaGreatDoorX4
import Derived.MapKept
import Derived.WideKeyRuns
import Derived.Lib.Builder
import Derived.LoopNIn
import Derived.RangeFuncRecord
set_option linter.all false
set_option maxRecDepth 100000
set_option maxHeartbeats 4000000
namespace Go.Sx
variable {ks l ts:H4}{k' v v' x':Value}{cs:List Frame}{clock k pi:Nat}{y:MTy}{d:Option Tmp}{kt pt ty:TypeId}{r us vs:List U}{rows rs:List (List U)}{es es':Array MapEntry}{hs xs:D0}{c:Code}{e':MapEntry}{tys:List TypeId}{w':World}{fz:Nat×Nat}{listed:Array Bool}
section
open Go
variable [Ora]
section
variable {P:Program} {base:Nat} {ρ:Ren} {m m':Mem} {w:World}
def tU:∀ {ts:H4} {cs cs':D0},zL ts cs=true->(∀ t ∈ ts,t<10)->LR ρ cs cs'->(cs.map (D5 Ora.env)).map G2=ts/\cs'=(cs.map (D5 Ora.env)).map S3
 | [],[],cs',_,_,hl=>by cases hl.nil_inv;exact⟨rfl,rfl⟩
 | t::ts,v::vs,cs',h,ht,hl=>by
   obtain⟨h1,f⟩:=B6 (show(Nat.beq (G4 v) t && zL ts vs)=true from h);have h1:=A0 h1;obtain⟨v',r,rfl,g1,g2⟩:=hl.tail;obtain⟨a,b⟩:=tU f (fun x hx=>ht x (C4 _ hx)) g2;obtain⟨c,d⟩:=aB g1 (by rw[h1];exact ht t B4);have e:S3 (D5 Ora.env v)=v':=by unfold S3;rw[c];rfl
   exact⟨by rw[C3,C3,a,d,h1],by rw[C3,C3,e,<- b]⟩
 | [],_::_,_,h,_,_=>by cases h
 | _::_,[],_,h,_,_=>by cases h
def jK{a:Bool}{cs:D0}(h:nV a ts v=some cs)(f:∀ t ∈ ts,t<10)(hv:VR ρ v v'):v'=X6 a (cs.map (D5 Ora.env))/\(cs.map (D5 Ora.env)).map G2=ts:=by
 unfold nV at h;split at h
 .rename_i c;obtain⟨h1,h⟩:=A3 h;cases h;obtain⟨cs',rfl,g⟩:=V5 hv;obtain⟨b,e⟩:=tU h1 f g;exact⟨by rw[e];rfl,b⟩
 .cases h
 .obtain⟨h1,h⟩:=A3 h;cases h;obtain⟨b,e⟩:=tU h1 f (LR.cons hv LR.nil);refine⟨?_,b⟩
  have:=F3 List.head? e
  simpa [X6]using this
def xI{t:Nat}(h:fU P t=some k):k<10:=by
 unfold fU at h;split at h
 .cases h;decide
 .cases h;have:=L6 ‹_›;omega
 .cases h;decide
 .cases h
def KW:∀ {g:List Field} {i:Nat} {l:H4},vA P g i=some l->∀ t ∈ l,t<10
 | [],i,l,h,t,e=>by cases h;cases e
 | f::g,i,l,h,t,e=>by
   unfold vA at h;split at h
   .rename_i a b h1 j;obtain⟨_,h⟩:=A3 h;cases h;rcases B5.1 e with rfl|e
    .exact xI h1
    .exact KW j t e
   .cases h
def FK{T:TypeId}(h:UW P T=some y):P.underlying T=some (.map y.kt y.vt)/\oF P y.kt=some (y.ka,y.ks)/\PY P y.vt=some (y.va,y.vs)/\0<y.ks.length/\(∀ t ∈ y.ks,t<10)/\(∀ t ∈ y.vs,t<10)/\(y.va=false->y.vs.length=1):=by
 unfold UW at h;split at h
 .rename_i kt vt hu;split at h
  .rename_i ka k ks va vs h1 a;cases h;refine⟨hu,h1,a,Nat.succ_pos _,?_,?_,?_⟩
   .intro t e;unfold oF at h1;split at h1
    .cases hs:P.stoodInHeld kt with
     | true=>rw[hs]at h1;cases h1
     | false =>
       rw[hs]at h1;simp only[D6]at h1;split at h1
       .rename_i l f;cases h1;exact KW f t e
       .cases h1
    .split at h1
     .rename_i z g;cases h1;simp only[B5,K5,or_false]at e;subst e;exact xI g
     .cases h1
   .intro t e;unfold PY at a;split at a
    .obtain⟨h3,a⟩:=A3 a;cases a;exact A1 (D4.1 h3 t e)
    .obtain⟨h3,a⟩:=A3 a;cases a;simp only[B5,K5,or_false]at e;subst e;exact A1 h3
    .cases a
   .intro b;have b:va=false:=b;subst b;unfold PY at a;split at a
    .obtain⟨_,a⟩:=A3 a;cases a
    .obtain⟨_,a⟩:=A3 a;cases a;rfl
    .cases a
  .cases h
 .cases h
def QJ{t:TypeId}{u v:U}(h:fU P t=some k)(h1:G2 u=k)(f:G2 v=k)(n:Nat)(w:World):(Op.equalIn (n+1) t (S3 u) (S3 v)).run P w=.ok (isU u v) w:=by
 have o:=xI h;unfold fU at h;split at h
 .rename_i hu;cases h;cases u<;>simp only[G2]at h1<;>first|omega|skip
  .have:=L6 ‹_›;omega
  .cases v<;>simp only[G2]at f<;>first|omega|skip
   .have:=L6 ‹_›;omega
   .simp[S3,toV,isU,eqU,Op.equalIn,A4,C9 hu,Result.andThen]
 .rename_i j hu;cases h;cases u with
  | int a x =>
    cases v with
    | int b z =>
      have i:=rK h1;have g:=rK f;subst i;subst g;simp[S3,toV,isU,eqU,Op.equalIn,A4,C9 hu,Result.andThen]
    | bool b=>simp only[G2]at f;have:=L6 j;omega
    | str s=>simp only[G2]at f;have:=L6 j;omega
    | seq _ _ _=>simp only[G2]at f;omega
    | none=>simp only[G2]at f;omega
  | bool b=>simp only[G2]at h1;have:=L6 j;omega
  | str s=>simp only[G2]at h1;have:=L6 j;omega
  | seq _ _ _=>simp only[G2]at h1;omega
  | none=>simp only[G2]at h1;omega
 .rename_i hu;cases h;cases u<;>simp only[G2]at h1<;>first|omega|skip
  .have:=L6 ‹_›;omega
  .cases v<;>simp only[G2]at f<;>first|omega|skip
   .have:=L6 ‹_›;omega
   .rename_i p q
    have:=run_equalIn_string (P:=P) w n t ⟨⟨p⟩⟩ ⟨⟨q⟩⟩ hu;have e:∀ s:List UInt8,S3 (.str s)=.string ⟨⟨s⟩⟩:=fun _=>rfl
    rw[e,e,this];simp[isU,eqU,ByteArray.toList_eq]
 .cases h
def XG{t:TypeId}{d:TypeDesc}{u v:U}(g:P.underlying t=some d)(h:fU P t=some k)(h1:G2 u=k)(f:G2 v=k):Instr.sameNow d (S3 u) (S3 v)=some (isU u v):=by
 unfold fU at h;split at h
 .rename_i hu;rw[hu]at g;cases g;cases h;cases u<;>simp only[G2]at h1<;>first|omega|skip
  .have:=L6 ‹_›;omega
  .cases v<;>simp only[G2]at f<;>first|omega|skip
   .have:=L6 ‹_›;omega
   .simp[S3,toV,isU,eqU,Instr.sameNow]
 .rename_i j hu;rw[hu]at g;cases g;cases h;cases u with
  | int a x =>
    cases v with
    | int b z =>
      have n:=rK h1;have i:=rK f;subst n;subst i;simp[S3,toV,isU,eqU,Instr.sameNow]
    | bool b=>simp only[G2]at f;have:=L6 j;omega
    | str s=>simp only[G2]at f;have:=L6 j;omega
    | seq _ _ _=>simp only[G2]at f;have:=L6 j;omega
    | none=>simp only[G2]at f;have:=L6 j;omega
  | bool b=>simp only[G2]at h1;have:=L6 j;omega
  | str s=>simp only[G2]at h1;have:=L6 j;omega
  | seq _ _ _=>simp only[G2]at h1;have:=L6 j;omega
  | none=>simp only[G2]at h1;have:=L6 j;omega
 .rename_i hu;rw[hu]at g;cases g;cases h;cases u<;>simp only[G2]at h1<;>first|omega|skip
  .have:=L6 ‹_›;omega
  .cases v<;>simp only[G2]at f<;>first|omega|skip
   .have:=L6 ‹_›;omega
   .rename_i p q;have e:(ByteArray.mk ⟨p⟩ == ByteArray.mk ⟨q⟩)=(p == q):=by
     show(Array.mk p == Array.mk q)=_;rw[K1,beq_iff_eq,beq_iff_eq];exact⟨fun h=>by injection h,fun h=>by rw[h]⟩
    simp[S3,toV,isU,eqU,Instr.sameNow,e]
 .cases h
def sY{t:TypeId}(h:fU P t=some k){X:D0}{i:Nat}(hx:X[i]? = some v)(w:World):(part t ⟨X⟩ i).run P w=.ok v w:=by
 have a:∀ d,P.underlying t=some d->(match d with|.struct _|.array _ _=>False|_=>True)->(part t ⟨X⟩ i).run P w=.ok v w:=fun d b e=>by
  cases d<;>simp only at e<;>simp[part,isAgg,A4,C9 b,Result.andThen,hx]
 unfold fU at h;split at h
 .exact a _ ‹_› trivial
 .exact a _ ‹_› trivial
 .exact a _ ‹_› trivial
 .cases h
def DF:∀ {j:List Field} {i:Nat} {ks:H4} {us vs:List U} {p q:D0},vA P j i=some ks->us.map G2=ks->vs.map G2=ks->p.length=i->q.length=i->∀ (n:Nat) (w:World),(Op.eqFields (n+1) ⟨p++us.map S3⟩ ⟨q++vs.map S3⟩ j).run P w=.ok (T7 us vs) w
 | [],i,ks,us,vs,p,q,h,h1,h2,hp,hq,n,w=>by
   cases h;have e:us=[]:=by simpa using h1
   have b:vs=[]:=by simpa using h2
   subst e;subst b;simp[Op.eqFields,T7]
 | f::j,i,ks,us,vs,p,q,h,h1,h2,hp,hq,n,w=>by
   unfold vA at h;split at h
   .rename_i t l o z;obtain⟨A,h⟩:=A3 h;cases h;obtain⟨g,a⟩:=B6 A;have a:=A0 a;have B:f.name ≠ "_":=by simpa using g
    cases us with
    | nil=>cases h1
    | cons u us =>
      cases vs with
      | nil=>cases h2
      | cons v vs =>
        simp only[C3,J5]at h1 h2;have g1:(p++(u::us).map S3)[f.offset]? = some (S3 u):=by rw[a,<- hp,D8 (A6 _)];simp
        have g2:(q++(v::vs).map S3)[f.offset]? = some (S3 v):=by rw[a,<- hq,D8 (A6 _)];simp
        have e:=sY o g1 w;have b:=sY o g2 w;have s:=QJ o h1.1 h2.1 n w;have x:=DF (p:=p++[S3 u]) (q:=q++[S3 v]) z h1.2 h2.2 (by simp[hp]) (by simp[hq]) n w;rw[M8,M8]at x;unfold Op.eqFields;rw[A9 B];simp only[T7];cases hs:isU u v with
        | false =>
          simp only[A4,e,b,s,hs,Result.andThen_ok];simp
        | true =>
          simp only[A4,e,b,s,hs,Result.andThen_ok,gT];exact x
   .cases h
def A7m{a:Bool}(h:oF P kt=some (a,ks))(h1:us.map G2=ks)(b:vs.map G2=ks)(w:World):(Op.equal kt (X6 a us) (X6 a vs)).run P w=.ok (T7 us vs) w:=by
 unfold oF at h;split at h
 .rename_i g hu;cases hs:P.stoodInHeld kt with
  | true=>rw[hs]at h;cases h
  | false =>
    rw[hs]at h;simp only[D6]at h;split at h
    .rename_i l i;cases h;have e:P.fieldsOf kt=g:=by simp[Program.fieldsOf,hu]
     show(Op.equalIn (9999+1) kt (.agg _) (.agg _)).run P w=_;rw[run_equalIn_struct (P:=P) w 9999 kt _ _ (by rw[e];exact hu) hs,e];exact DF (p:=[]) (q:=[]) i h1 b rfl rfl 9998 w
    .cases h
 .split at h
  .rename_i k f;cases h;cases us with
   | nil=>cases h1
   | cons u us=>cases us with
     | cons _ _=>simp at h1
     | nil=>cases vs with
       | nil=>cases b
       | cons v vs=>cases vs with
         | cons _ _=>simp at b
         | nil =>
           simp only[C3,F9,J5,and_true]at h1 b
           have:=QJ f h1 b 9999 w;show(Op.equalIn (9999+1) kt (S3 u) (S3 v)).run P w=_;rw[this];simp[T7]
  .cases h
def zT{t:TypeId}(h:fU P t=some k)(e:Bool)(n:Nat)(v:Value)(w:World):(Instr.checkKey e (n+1) t v).run P w=.ok () w:=by
 unfold fU at h;split at h
 .rename_i hu;simp[Instr.checkKey,A4,C9 hu,Result.andThen]
 .rename_i hu;simp[Instr.checkKey,A4,C9 hu,Result.andThen]
 .rename_i hu;simp[Instr.checkKey,A4,C9 hu,Result.andThen]
 .cases h
def sL(e:Bool)(n:Nat)(w:World):∀ (L:List Field) (i:Nat) (ks:List Nat) (us:List U) (p:List Value),vA P L i=some ks->us.map G2=ks->p.length=i ->
  (forIn L PUnit.unit fun f (_:PUnit)=>if f.name ≠ "_" then(do let x <- part f.type ⟨p++us.map S3⟩ f.offset;Instr.checkKey e (n+1) f.type x;pure (ForInStep.yield PUnit.unit):Sem (ForInStep PUnit))else pure (ForInStep.yield PUnit.unit)).run P w=.ok PUnit.unit w
 | [],i,ks,us,p,h,h1,hp=>by simp
 | f::fs,i,ks,us,p,h,h1,hp=>by
   unfold vA at h;split at h
   .rename_i t l j o;obtain⟨s,h⟩:=A3 h;cases h;obtain⟨b,a⟩:=B6 s;have a:=A0 a;have A:f.name ≠ "_":=by simpa using b
    cases us with
    | nil=>cases h1
    | cons u us =>
      simp only[C3,J5]at h1;have g1:(p++(u::us).map S3)[f.offset]? = some (S3 u):=by rw[a,<- hp,D8 (A6 _)];simp
      have z:=sY j g1 w;have q:=zT j e n (S3 u) w;have g:=sL e n w fs (i+1) l us (p++[S3 u]) o h1.2 (by simp[hp]);rw[M8]at g;rw[List.forIn_cons];simp only[A9 A,A4,z,q,Result.andThen_ok,Sem.run_pure];exact g
   .cases h
def DO{a:Bool}(h:oF P kt=some (a,ks))(h1:us.map G2=ks)(e:Bool)(w:World):(Instr.checkKey e 10000 kt (X6 a us)).run P w=.ok () w:=by
 unfold oF at h;split at h
 .rename_i f hu;cases hs:P.stoodInHeld kt with
  | true=>rw[hs]at h;cases h
  | false =>
    rw[hs]at h;simp only[D6]at h;split at h
    .rename_i l g;have h:=h;cases h;have key:∀ n:Nat,(Instr.checkKey e (n+2) kt (.agg ⟨us.map S3⟩)).run P w=.ok () w:=fun n=>by
      rw[Instr.checkKey];simp only[A4,C9 hu,Result.andThen_ok];rw[<- Array.forIn_toList]
      have:=sL e n w f.toList 0 _ us [] g h1 rfl;rw[G5]at this;rw[this];rfl
     exact key 9998
    .cases h
 .split at h
  .rename_i k b;cases h;exact zT b e 9999 _ w
  .cases h
def oA(k:List U):List (List U)->Nat->Option (Nat×List U)
 | [],_=>none
 | r::rs,i=>if T7 k r then some (i,r)else oA k rs (i+1)
def tG:∀ (us r:List U),T7 us (r.take us.length)=T7 us r
 | [],r=>rfl
 | a::us,[]=>rfl
 | a::us,b::r=>by
   show(isU a b && T7 us (r.take us.length))=(isU a b && T7 us r);rw[tG us r]
def vY.head{e:MapEntry}{es:List MapEntry}(h:vY y (r::rs) (e::es)):(r.map G2=y.ks++y.vs/\e.key=X6 y.ka (r.take y.ks.length)/\e.val=X6 y.va (r.drop y.ks.length))/\vY y rs es :=
 ⟨h.2 0 r e rfl rfl,by have:=h.1;simpa using this,fun i row a h1 b=>h.2 (i+1) row a (by simpa using h1) (by simpa using b)⟩
def BN(h:r.map G2=y.ks++y.vs):(r.take y.ks.length).map G2=y.ks/\(r.drop y.ks.length).map G2=y.vs:=by
 constructor
 .rw[List.map_take,h,List.take_left'];rfl
 .rw[List.map_drop,h,List.drop_left'];rfl
abbrev BF(y:MTy)(us:List U)(rows:List (List U))(i:Nat):Option (Nat×Value):=(oA us rows i).map fun p=>(p.1,X6 y.va (p.2.drop y.ks.length))
def EC{y:MTy}(f:oF P y.kt=some (y.ka,y.ks)){us:List U}(h1:us.map G2=y.ks):∀ {rows:List (List U)} {es:List MapEntry} (i:Nat),vY y rows es->(Instr.findAsking y.kt (X6 y.ka us) es i).run P w=.ok (BF y us rows i) w
 | [],[],i,_=>by simp[Instr.findAsking,BF,oA]
 | [],_::_,i,h=>by have:=h.1;simp at this
 | _::_,[],i,h=>by have:=h.1;simp at this
 | r::rs,e::es,i,h=>by
   obtain⟨⟨a,b,c⟩,d⟩:=h.head;obtain⟨t1,t2⟩:=BN a;have hlen:us.length=y.ks.length:=by rw[<- h1,E8]
   have g:=A7m (P:=P) f h1 t1 w;have j:T7 us (r.take y.ks.length)=T7 us r:=by rw[<- hlen];exact tG us r
   have n:=EC f h1 (i+1) d;unfold Instr.findAsking;rw[b];simp only[A4,g,j,Result.andThen_ok,BF,oA];cases o:T7 us r with
   | true=>simp[c]
   | false=>simp only[J7,if_false];exact n
def A0A{y:MTy}{k:Nat}{d:TypeDesc}(j:P.underlying y.kt=some d)(hs:fU P y.kt=some k)(n:y.ka=false)(f:y.ks=[k]){u:U}(h1:G2 u=k):∀ {rows:List (List U)} {es:List MapEntry} (i:Nat),vY y rows es->Instr.findNow d (S3 u) es i=some (BF y [u] rows i)
 | [],[],i,_=>rfl
 | [],_::_,i,h=>by have:=h.1;simp at this
 | _::_,[],i,h=>by have:=h.1;simp at this
 | r::rs,e::es,i,h=>by
   obtain⟨⟨a,b,c⟩,o⟩:=h.head;cases r with
   | nil=>rw[f]at a;simp at a
   | cons g r =>
     have a0:G2 g=k:=by rw[f]at a;simp at a;exact a.1
     have b:e.key=S3 g:=by rw[b,n,f];rfl
     have q:=XG j hs h1 a0;have p:=A0A j hs n f h1 (i+1) o;unfold Instr.findNow;rw[b,q];simp only[BF,oA,T7,oI];cases s:isU u g with
     | true=>simp[c]
     | false=>simp only[J7,if_false];exact p
def zE(a:oF P y.kt=some (y.ka,y.ks))(h1:us.map G2=y.ks){es:List MapEntry}(h:vY y rows es):(Instr.findKey y.kt (X6 y.ka us) es).run P w=.ok (BF y us rows 0) w:=by
 have f:=a;unfold oF at a;split at a
 .rename_i i hu;rw[run_findKey_eq w (by rw[hu]) (X6 y.ka us) es];exact EC f h1 0 h
 .split at a
  .rename_i k hs;have g:y.ka=false:=(F3 Prod.fst (A8 a)).symm;have b:y.ks=[k]:=(F3 Prod.snd (A8 a)).symm;rw[b]at h1;cases us with
   | nil=>simp at h1
   | cons u us=>cases us with
     | cons _ _=>simp at h1
     | nil =>
       simp only[C3,F9,J5,and_true]at h1;obtain⟨d,e⟩:∃ d,P.underlying y.kt=some d:=by
        cases e:P.underlying y.kt with
        | some d=>exact⟨d,rfl⟩
        | none=>unfold fU at hs;rw[e]at hs;cases hs
       rw[g];exact MapKept.run_findKey e (A0A e hs g b h1 0 h)
  .cases a
def KQ{k:List U}:∀ (rows:List (List U)) (i:Nat),(oA k rows i).isSome=rows.any (T7 k)
 | [],_=>rfl
 | r::rs,i=>by
   simp only[oA,P8];cases T7 k r with
   | true=>rfl
   | false=>simp only[J7,if_false,Q0];exact KQ rs (i+1)
def CX{k:List U}:∀ (rows:List (List U)) (i:Nat),(oA k rows i).map (·.2)=rows.find? (T7 k)
 | [],_=>rfl
 | r::rs,i=>by
   simp only[oA,dH];cases T7 k r with
   | true=>rfl
   | false=>simp only[J7,if_false];exact CX rs (i+1)
def rT{k:List U}:∀ {rows:List (List U)} {i j:Nat} {r:List U},oA k rows i=some (j,r)->i<=j/\rows[j-i]? = some r/\T7 k r=true
 | [],_,_,_,h=>by cases h
 | x::rs,i,j,r,h=>by
   unfold oA at h;cases e:T7 k x with
   | true=>rw[e]at h;cases h;exact⟨A6 _,by simp,e⟩
   | false =>
     rw[e]at h;obtain⟨a,b,c⟩:=rT (rows:=rs) h;exact⟨A2,by rw[show j-i=(j-(i+1))+1 by omega];exact b,c⟩
def JG{kw:Nat}{c:List U}:∀ (rows:List (List U)) (i:Nat),JH kw c rows=match oA (c.take kw) rows i with
  | some p=>rows.set (p.1-i) c
  | none=>rows++[c]
 | [],_=>rfl
 | r::rs,i=>by
   unfold JH oA;cases b:T7 (c.take kw) r with
   | true=>simp
   | false =>
     simp only[J7,if_false];rw[JG rs (i+1)];cases hx:oA (c.take kw) rs (i+1)with
     | none=>rfl
     | some p =>
       obtain⟨a,_⟩:=rT (r:=p.2) (j:=p.1) hx;show r::rs.set (p.1-(i+1)) c=(r::rs).set (p.1-i) c;rw[show p.1-i=(p.1-(i+1))+1 by omega];rfl
def FX{b:Nat}(h:VR ρ (.map (some b)) v'):∃ l,ρ b=some l/\v'=.map (some l.blk):=by
 cases h with
 | pure hp=>simp[I4]at hp
 | map h=>exact⟨_,h,rfl⟩
def A3E{T:TypeId}(h:HR P base ρ m.H w)(u:base<=w.heap.size)(a:A0J P m T=some (v,m'))(o:K2 ρ m.n m'.hi)(p:Sat m'.lg):VOk P base ρ m w (Instr.makeMap T none) v m':=by
 unfold A0J at a;split at a
 .rename_i y j;rw[N6]at a;have f:=aM a;have t:=kC (lg:=m'.lg) p (by rw[f];exact .refl _);obtain⟨x,A,s,wd,rows,z⟩:=t;have g:Ora.env m.lg.nx=.seq false y.w []:=by
   have hw:0<y.w:=by have:=(FK j).2.2.2.1;unfold MTy.w;omega
   rw[x];show(if y.w=0 then U.none else match i7 y.w (0 / y.w) []with
    | some r=>U.seq false y.w r
    | none=>.none)=_
   rw[A7 A2,Nat.zero_div];rfl
  have b:=St.wLg h (fN m (10+y.w) (.mk y.w) []);obtain⟨h1,q,h3⟩:=St.alloc (w':={ w with heap:=w.heap.push (.map #[] 0) }) (l:=lc w.heap.size 0 0) b.hr u a (by rw[WC];exact o) ⟨rfl,rfl,rfl⟩ rfl rfl
   ⟨⟨rfl,rfl⟩,y,#[],0,[],j,rfl,by simp,g,⟨rfl,fun i row e hr=>by simp at hr⟩,mQ,fun e he=>by cases he⟩
  refine⟨.map (some w.heap.size),_,_,?_,?_,St.trans o b h3⟩
  .simp[Instr.makeMap,newObj,Sem.run,A4,Result.andThen]
  .rw[h1];exact .map q
 .cases a
def iC{t:Nat}{op:LOp}(h:T9 m t op xs=some (v,m'))(f:Sat m'.lg):t<10/\G2 (evU op (xs.map (D5 Ora.env)))=t/\VR ρ v (S3 (evU op (xs.map (D5 Ora.env)))):=by
 obtain⟨u,e,g,r,i,b,a⟩:=M4 h f;subst e;refine⟨a,g,?_⟩;have:S3 (evU op (xs.map (D5 Ora.env)))=r:=by unfold S3;rw[i];rfl
 rw[this];exact b ρ
def DA{wd kw c t:Nat}{b:D0}{g:Bool}{rows:List (List U)}(u:Ora.env c=.seq g wd rows)(s:b.length=kw):∀ {ts:H4} {f:D0} {j:Nat} {m m':Mem} {hs:D0},tP wd kw c t b ts f j m=some (hs,m')->Sat m'.lg ->
  J9 m m'/\m.lg.le m'.lg/\hs.length=ts.length/\f.length=ts.length /\
  (∀ r,rows.find? (T7 (b.map (D5 Ora.env)))=some r->∀ i:Nat,i<ts.length->∃ v,hs[i]? = some v/\VR ρ v (S3 (r.getD (j+i) .none))) /\
  (rows.find? (T7 (b.map (D5 Ora.env)))=none->∀ i:Nat,i<ts.length->∃ v z,hs[i]? = some v/\f[i]? = some z/\VR ρ v (S3 (D5 Ora.env z)))
 | [],[],j,m,m',hs,h,hS=>by
   cases h;exact⟨.refl _,.refl _,rfl,rfl,fun r _ i hi=>(by simp at hi),fun _ i hi=>(by simp at hi)⟩
 | [],_::_,j,m,m',hs,h,hS=>by cases h
 | _::_,[],j,m,m',hs,h,hS=>by cases h
 | tg::ts,z::f,j,m,m',hs,h,hS=>by
   unfold tP at h;split at h
   .rename_i v m1 hv;split at h
    .rename_i r m2 hr;cases h;obtain⟨C,a2,a3,a4,a5,A⟩:=DA u s hr hS;have o:Sat m1.lg:=hS.le a2;obtain⟨_,_,a⟩:=iC (ρ:=ρ) hv o;have n:evU (.mget wd kw j) ((hole c t::z::b).map (D5 Ora.env))=(match rows.find? (T7 (b.map (D5 Ora.env)))with
       | some r=>r.getD j .none
       | none=>D5 Ora.env z):=by
      show evU (.mget wd kw j) (Ora.env c::D5 Ora.env z::b.map (D5 Ora.env))=_;rw[u];show(if wd=wd/\(b.map (D5 Ora.env)).length=kw then _ else U.none)=_;rw[A9 ⟨rfl,by rw[E8];exact s⟩];cases rows.find? (T7 (b.map (D5 Ora.env)))<;>rfl
     rw[n]at a;refine⟨(H5 hv).trans C,(H8 hv).trans a2,by simp[a3],by simp[a4],fun D e i hi=>?_,fun e i hi=>?_⟩
     .cases i with
      | zero=>rw[e]at a;exact⟨v,rfl,a⟩
      | succ i =>
        obtain⟨x,q,p⟩:=a5 D e i (by simpa using hi);exact⟨x,by simpa using q,by rw[show j+(i+1)=j+1+i by omega];exact p⟩
     .cases i with
      | zero=>rw[e]at a;exact⟨v,z,rfl,rfl,a⟩
      | succ i =>
        obtain⟨x,E,q,p,B⟩:=A e i (by simpa using hi);exact⟨x,E,by simpa using q,by simpa using p,B⟩
    .cases h
   .cases h
def A6p{vs:D0}(n:hs.length=vs.length)(h:∀ i:Nat,i<vs.length->∃ v v',hs[i]? = some v/\vs[i]? = some v'/\VR ρ v v'):LR ρ hs vs:=⟨n,fun i v v' h1 f=>by
 obtain⟨a,b,e,g,j⟩:=h i (B0.1 f).1;rw[h1]at e;rw[f]at g;cases e;cases g;exact j⟩
def A2G{a:Bool}(h:A2H a hs=some v)(b:LR ρ hs (us.map S3)):VR ρ v (X6 a us):=by
 unfold A2H at h;split at h
 .cases h;exact .agg b.1 b.2
 .cases h;cases us with
  | nil=>have:=b.1;simp at this
  | cons u us =>
    obtain⟨v',r,e,g,_⟩:=b.tail;rw[C3,J5]at e;rw[<- e.1]at g;exact g
 .cases h
def UY{T:TypeId}{x k:Value}{ok:Bool}(h:HR P base ρ m.H w)(o:yI P m T x k ok=some (v,m'))(hx:VR ρ x x')(hk:VR ρ k k')(L:Sat m'.lg):VOk P base ρ m w (Instr.lookup T x' k' ok) v m':=by
 unfold yI at o;split at o
 .rename_i r y hy;obtain⟨hu,B,av,aw,Q,R,ar⟩:=FK hy;obtain⟨l,hl,rfl⟩:=FX hx;split at o
  .rename_i c t T2 f z hg ay hz;obtain⟨hT,a⟩:=A3 o;clear o;have hT:=A0 hT;subst hT;split at a
   .rename_i zc M;split at a
    .rename_i hs m1 Y;split at a
     .rename_i v1 hv;obtain⟨⟨⟨aq,au⟩,y2,es,clock,rows,g1,g2,g3,g4,g5,g6⟩,_⟩:=h.atl hl hg;rw[hy]at g1;have g1:=A8 g1;subst g1;obtain⟨k1,W⟩:=jK ay Q hk;have V:VR ρ z z:=.ofC (wR hz).choose_spec.2.2;obtain⟨z1,z2⟩:=jK M R V;have u:f.length=y.ks.length:=by rw[<- W];simp
      have az:Sat m1.lg:=by
       cases ok with
       | false=>cases a;exact L
       | true =>
         simp only[E3]at a;split at a
         .rename_i J;cases a;exact L.le (H8 J)
         .cases a
      obtain⟨a1,a2,a3,a4,a5,a6⟩:=DA (ρ:=ρ) g4 u Y az;have G:=zE (P:=P) (w:=w) B W g5;have A:=DO (P:=P) B W es.isEmpty w;have j:=CX (k:=f.map (D5 Ora.env)) rows 0;have C:∀ {us:List U},LR ρ hs (us.map S3)->VR ρ v1 (X6 y.va us):=fun g=>A2G hv g
      have I:∃ val,VR ρ v1 val/\(Instr.lookup T2 (.map (some l.blk)) k' ok).run P w=.ok (if ok then .tuple #[val,.bool (rows.any (T7 (f.map (D5 Ora.env))))]else val) w:=by
       have E:(getObj l.blk).run P w=.ok (.map es clock) w:=by simp[getObj,Sem.run,g3]
       have e:=KQ (k:=f.map (D5 Ora.env)) rows 0;cases F:oA (f.map (D5 Ora.env)) rows 0 with
       | none =>
         rw[F]at j e;have g:LR ρ hs ((zc.map (D5 Ora.env)).map S3):=A6p (by rw[a3,E8,E8,a4]) fun i hi=>by
          have N:i<y.vs.length:=by rw[E8,E8,a4]at hi;exact hi
          obtain⟨O,z',e1,X,e3⟩:=a6 j.symm i N;exact⟨O,_,e1,by rw[F6,F6,X];rfl,e3⟩
         refine⟨z,by rw[z1];exact C g,?_⟩;have e:rows.any (T7 (f.map (D5 Ora.env)))=false:=e.symm;rw[k1];simp only[Instr.lookup,A4,C9 hu,Result.andThen_ok,E,A,G,BF,F,Option.map_none,aJ hz,Sem.run_pure,e]
       | some p =>
         obtain⟨pi,q⟩:=p;rw[F]at j e;obtain⟨_,K,q2⟩:=rT F;have K:rows[pi]? = some q:=by simpa using K
         have S:pi<es.toList.length:=by rw[<- g5.1];exact(B0.1 K).1
         obtain⟨t1,t2,t3⟩:=g5.2 pi q es.toList[pi] K (A5 S);have ax:q.length=y.ks.length+y.vs.length:=by
          have:=F3 List.length t1
          simpa using this
         have g:LR ρ hs ((q.drop y.ks.length).map S3):=A6p (by rw[a3,E8,E9];omega) fun i hi=>by
          rw[E8,E9]at hi;obtain⟨O,e1,X⟩:=a5 q j.symm i A2;refine⟨O,_,e1,?_,X⟩;rw[F6,H9,A5 A2,L2,B1,A5 A2];rfl
         refine⟨X6 y.va (q.drop y.ks.length),C g,?_⟩;have e:rows.any (T7 (f.map (D5 Ora.env)))=true:=e.symm;rw[k1];simp only[Instr.lookup,A4,C9 hu,Result.andThen_ok,E,A,G,BF,F,L2,Sem.run_pure,e]
      obtain⟨val,s,n⟩:=I;cases ok with
      | false =>
        cases a;obtain⟨lg,rfl⟩:=a1;exact⟨val,ρ,w,n,s,St.wLg h lg⟩
      | true =>
        simp only[E3]at a;split at a
        .rename_i b m2 J;cases a;obtain⟨_,_,D⟩:=iC (ρ:=ρ) J L;have Z:evU (.mhas y.w y.ks.length) ((hole c t::f).map (D5 Ora.env))=.bool (rows.any (T7 (f.map (D5 Ora.env)))):=by
          show evU (.mhas y.w y.ks.length) (Ora.env c::f.map (D5 Ora.env))=_;rw[g4];show(if y.w=y.w/\(f.map (D5 Ora.env)).length=y.ks.length then _ else U.none)=_;rw[A9 ⟨rfl,by rw[E8];exact u⟩]
         rw[Z]at D;obtain⟨lg,rfl⟩:=a1.trans (H5 J);refine⟨.tuple #[val,.bool (rows.any (T7 (f.map (D5 Ora.env))))],ρ,w,n,?_,St.wLg h lg⟩
         have:=LR.cons s (LR.cons D LR.nil);exact .tuple this.1 this.2
        .cases a
     .cases a
    .cases a
   .cases a
  .cases o
 .cases o
def XD{i:Nat}{c:List U}(h:vY y rows es.toList)(f:c.map G2=y.ks++y.vs)(h1:e'.key=X6 y.ka (c.take y.ks.length))(b:e'.val=X6 y.va (c.drop y.ks.length))(a:es'.toList=es.toList.set i e'):vY y (rows.set i c) es'.toList:=by
 rw[a];refine⟨by rw[R1,R1];exact h.1,fun j row e hr he=>?_⟩;rw[List.getElem?_set]at hr he;by_cases q:i=j
 .subst q;rw[A9 rfl]at hr he;split at hr
  .cases hr;split at he
   .cases he;exact⟨f,h1,b⟩
   .cases he
  .cases hr
 .rw[A7 q]at hr he;exact h.2 j row e hr he
def ZC{k:Value}(h:EF es.toList clock):EF (es.push ⟨k,v,clock⟩).toList (clock+1):=by
 obtain⟨h1,a⟩:=h;rw[Array.toList_push];refine⟨?_,fun e he=>?_⟩
 .rw[M1,bC];refine⟨h1,by simp,fun x hx y b f=>?_⟩;simp only[C3,F9,L9]at b;obtain⟨e,he,rfl⟩:=I7.1 hx
  have:=a e he;omega
 .rcases B7.1 he with he|he
  .have:=a e he;omega
  .rw[L9.1 he];show clock<clock+1;omega
def OC{f:MapEntry->Value×Value}(h:EF es.toList clock):EF (es.modify pi fun e=>{ e with key:=(f e).1,val:=(f e).2 }).toList clock:=by
 obtain⟨h1,i⟩:=h;have b:(es.modify pi fun e=>{ e with key:=(f e).1,val:=(f e).2 }).toList.map (·.born)=es.toList.map (·.born):=by
  apply bD;intro j;rw[F6,F6,P3,G9,P3];by_cases g:pi=j
  .rw[A9 g];cases es[j]?<;>rfl
  .rw[A7 g]
 refine⟨by rw[b];exact h1,fun e he=>?_⟩;have:e.born ∈ es.toList.map (·.born):=by rw[<- b];exact List.mem_map_of_mem he
 obtain⟨x,hx,a⟩:=I7.1 this;rw[<- a];exact i x hx
def UQ{c:List U}(h:vY y rows es.toList)(g:c.map G2=y.ks++y.vs)(h1:e'.key=X6 y.ka (c.take y.ks.length))(f:e'.val=X6 y.va (c.drop y.ks.length)):vY y (rows++[c]) (es.push e').toList:=by
 rw[Array.toList_push];refine⟨by rw[E1,E1,h.1];rfl,fun j row e hr he=>?_⟩;rw[List.getElem?_append]at hr he;rw[h.1]at hr;split at he
 .rename_i a;rw[A9 a]at hr;exact h.2 j row e hr he
 .rename_i a;rw[A7 a]at hr;cases b:j-es.toList.length with
  | zero =>
    rw[b]at hr he;cases hr;cases he;exact⟨g,h1,f⟩
  | succ n=>rw[b]at hr;cases hr
def ND{u v:U}(h1:G2 u<10)(h:isU u v=true):u=v:=by
 unfold isU at h;cases u with
 | int k a =>
   cases v with
   | int j b =>
     simp only[eqU]at h;by_cases e:k=j
     .subst e;rw[A9 rfl]at h;have h:(a == b)=true:=h;rw[eq_of_beq h]
     .rw[A7 e]at h;cases h
   | _=>simp[eqU]at h
 | bool a =>
   cases v with
   | bool b =>
     have h:(a == b)=true:=h;rw[eq_of_beq h]
   | _=>simp[eqU]at h
 | str a =>
   cases v with
   | str b =>
     have h:(a == b)=true:=h;rw[eq_of_beq h]
   | _=>simp[eqU]at h
 | seq _ _ _=>simp only[G2]at h1;omega
 | none=>simp only[G2]at h1;omega
def xD:∀ {us vs:List U},us.map G2=vs.map G2->(∀ t ∈ us.map G2,t<10)->T7 us vs=true->us=vs
 | [],[],_,_,_=>rfl
 | [],_::_,h,_,_=>by cases h
 | _::_,[],h,_,_=>by cases h
 | u::us,v::vs,h,ht,hk=>by
   obtain⟨a,b⟩:=B6 (show(isU u v && T7 us vs)=true from hk);simp only[C3,J5]at h;rw[ND (ht _ B4) a,xD h.2 (fun t q=>ht t (C4 _ q)) b]
def DU{u:U}(h:G2 u<10)(n:Nat):Instr.sameBits n (S3 u) (S3 u)=true:=by
 cases u with
 | int k a=>cases n<;>simp[S3,toV,Instr.sameBits]
 | bool b=>cases n<;>simp[S3,toV,Instr.sameBits]
 | str s=>cases n<;>(simp only[S3,toV,bY,Instr.sameBits];show(Array.mk s == Array.mk s)=true;simp)
 | seq _ _ _=>simp only[G2]at h;omega
 | none=>simp only[G2]at h;omega
def VQ{a:Bool}(h:∀ t ∈ us.map G2,t<10)(b:a=false->us≠[])(n:Nat):Instr.sameBits (n+1) (X6 a us) (X6 a us)=true:=by
 cases a with
 | true =>
   simp only[X6,Instr.sameBits,G8,beq_self_eq_true,true_and,D4];intro p hp;obtain⟨i,hi,he⟩:=List.mem_iff_getElem.1 hp;simp only[List.getElem_zip,List.getElem_map]at he;subst he;exact DU (h _ (I7.2 ⟨_,N5 _,rfl⟩)) n
 | false =>
   cases us with
   | nil=>exact absurd rfl (b rfl)
   | cons u us=>exact DU (h _ B4) _
def JE{T:TypeId}{x k e e':Value}(h:HR P base ρ m.H w)(hb:base<=w.heap.size)(J:CG P m T x k e=some (v,m'))(hf:K2 ρ m.n m'.hi)(hx:VR ρ x x')(hk:VR ρ k k')(he:VR ρ e e')(hS:Sat m'.lg):v=undef/\UOk P base ρ m w (Instr.mapUpdate T x' k' e') m':=by
 unfold CG at J;split at J
 .rename_i r y hy;obtain⟨hu,R,ag,ah,E,au,af⟩:=FK hy;obtain⟨l,hl,rfl⟩:=FX hx;split at J
  .rename_i c t T2 o u hg ai an;obtain⟨hT,A⟩:=A3 J;clear J;have hT:=A0 hT;subst hT;rw[N6]at A;unfold OD at A;split at A
   .rename_i m2 X8;cases A;have al:=dW X8;obtain⟨e1,e2,ae,wd,ak,e3⟩:=kC (lg:=m'.lg) hS (by rw[al];exact .refl _);obtain⟨⟨⟨X,ar⟩,y2,es,clock,rows,g1,g2,g3,g4,g5,g6⟩,_⟩:=h.atl hl hg;rw[hy]at g1;have g1:=A8 g1;subst g1;obtain⟨K,D⟩:=jK ai E hk;obtain⟨v1,v2⟩:=jK an au he;have B:o.length=y.ks.length:=by rw[<- D];simp
    have ao:u.length=y.vs.length:=by rw[<- v2];simp
    have aj:((o++u).map (D5 Ora.env)).length=y.w:=by rw[E8,E1,B,ao];rfl
    have N:((o++u).map (D5 Ora.env)).map G2=y.ks++y.vs:=by rw[M1,M1,D,v2]
    have z:((o++u).map (D5 Ora.env)).take y.ks.length=o.map (D5 Ora.env):=by rw[M1,List.take_left' (by rw[E8];exact B)]
    have C:((o++u).map (D5 Ora.env)).drop y.ks.length=u.map (D5 Ora.env):=by rw[M1,List.drop_left' (by rw[E8];exact B)]
    have i:Ora.env m.lg.nx=.seq false y.w (JH y.ks.length ((o++u).map (D5 Ora.env)) rows):=by
     rw[e1];show evU (.mput y.w y.ks.length) (Ora.env c::(o++u).map (D5 Ora.env))=_;rw[g4];show(if y.w=y.w/\((o++u).map (D5 Ora.env)).length=y.w then _ else U.none)=_;rw[A9 ⟨rfl,aj⟩]
    rw[JG _ 0,z]at i;have V:(getObj l.blk).run P w=.ok (.map es clock) w:=by simp[getObj,Sem.run,g3]
    have az:=zE (P:=P) (w:=w) R D g5;have O:=DO (P:=P) R D false w;have S:=St.wLg h (fN m t (.mput y.w y.ks.length) (hole c t::(o++u)));have av:Hp.get (m.wLg (fN m t (.mput y.w y.ks.length) (hole c t::(o++u)))).H r=some (.mp c t T2):=by rw[kU];exact hg
    have s:l.blk<w.heap.size:=(C7.1 g3).1;refine⟨rfl,?_⟩;have aw:∀ (b:Array MapEntry) (a:Nat),(setObj l.blk (.map b a)).run P w=.ok () { w with heap:=w.heap.set l.blk (.map b a) s }:=fun b a=>by
     have Z:w.heap[l.blk]=.map es clock:=by
      have q:=g3;rw[F2 s]at q;exact A8 q
     simp[setObj,Sem.run,Z,Array.setIfInBounds,s]
    have fin:∀ (b:Array MapEntry) (a:Nat) (g:List (List U)),Ora.env m.lg.nx=.seq false y.w g->vY y g b.toList->EF b.toList a->(Instr.mapUpdate T2 (.map (some l.blk)) k' e').run P w=.ok () { w with heap:=w.heap.set l.blk (.map b a) s }->UOk P base ρ m w (Instr.mapUpdate T2 (.map (some l.blk)) k' e') m':=fun b a g L q2 q4 q3=>by
     refine⟨ρ,_,q3,St.trans hf S (St.write (ab:=.mp c t T2) (ab':=.mp m.lg.nx t T2) S.hr X8 av rfl hl X ⟨rfl,rfl,rfl⟩ (by simp) (fun j hj=>?_) ?_)⟩
     .show(w.heap.set l.blk _ s)[j]? = _;rw[s5,A7 (fun e=>hj e.symm)]
     .refine⟨⟨X,ar⟩,y,b,a,g,hy,g2,?_,L,q2,q4⟩;show(w.heap.set l.blk _ s)[l.blk]? = _;rw[s5,A9 rfl]
    cases hq:oA (o.map (D5 Ora.env)) rows 0 with
    | none =>
      rw[hq]at i;refine fin (es.push ⟨k',e',clock⟩) (clock+1) _ i (UQ g5 N (by rw[z];exact K) (by rw[C];exact v1)) (ZC g6) ?_;rw[K];simp only[Instr.mapUpdate,A4,C9 hu,Result.andThen_ok,V,O,az,BF,hq,Option.map_none,aw]
    | some p =>
      obtain⟨pi,M⟩:=p;rw[hq]at i;have i:Ora.env m.lg.nx=.seq false y.w (rows.set pi ((o++u).map (D5 Ora.env))):=i;obtain⟨_,L,q2⟩:=rT hq;have L:rows[pi]? = some M:=by simpa using L
      have G:pi<es.toList.length:=by rw[<- g5.1];exact(B0.1 L).1
      obtain⟨t1,t2,t3⟩:=g5.2 pi M es.toList[pi] L (A5 G);obtain⟨aq,_⟩:=BN t1;have F:o.map (D5 Ora.env)=M.take y.ks.length:=by
       refine xD (by rw[D,aq]) (by rw[D];exact E) ?_
       have:=tG (o.map (D5 Ora.env)) M;rw[E8,B]at this;rw[this];exact q2
      have W:pi<es.size:=by simpa using G
      refine fin (es.modify pi fun e2=>{ e2 with key:=k',val:=e' }) clock _ i (XD (e':=⟨k',e',(es[pi]).born⟩) g5 N (by rw[z];exact K) (by rw[C];exact v1) ?_) (OC (f:=fun _=>(k',e')) g6) ?_
      .apply bD;intro j;rw[P3,G9,List.getElem?_set];by_cases hj:pi=j
       .subst hj;rw[A9 rfl,A9 rfl,A9 G,F2 W];rfl
       .rw[A7 hj,A7 hj];simp
      .have ay:((es[pi]?).map (·.key)).getD k'=k':=by
        rw[F2 W];show es[pi].key=k';have t2:es[pi].key=X6 y.ka (M.take y.ks.length):=t2;rw[t2,<- F,K]
       have I:Instr.sameBits 10000 k' k'=true:=by
        rw[K];exact VQ (by rw[D];exact E) (fun _ q=>by have:=F3 List.length D;rw[q]at this;simp at this;omega) 9999
       have ax:(Instr.keyThatStays k' k').run P w=.ok k' w:=by
        simp only[Instr.keyThatStays,I,if_true,Sem.run_pure]
       have Y:(Instr.findKey y.kt k' es.toList).run P w=.ok (some (pi,X6 y.va (M.drop y.ks.length))) w:=by
        rw[K,az];simp[BF,hq]
       have Q:(Instr.checkKey false 10000 y.kt k').run P w=.ok () w:=by rw[K];exact O
       simp only[Instr.mapUpdate,A4,C9 hu,Result.andThen_ok,V,Q,Y,ay,ax,aw]
   .cases A
  .cases J
 .cases J
def A0R{T:TypeId}{x:Value}(h:HR P base ρ m.H w)(a:KD P m T x=some (v,m'))(hx:VR ρ x x')(f:Sat m'.lg):VOk P base ρ m w (Builtin.len_ ⟨T::tys⟩ ty #[x']) v m':=by
 unfold KD at a;split at a
 .rename_i kt q r hu;obtain⟨l,g,rfl⟩:=FX hx;split at a
  .rename_i c t s o;obtain⟨⟨⟨j,i⟩,p,es,clock,rows,g1,g2,g3,g4,g5,g6⟩,_⟩:=h.atl g o;obtain⟨n,⟨lg,rfl⟩,_,_⟩:=lU (ρ:=ρ) a g4 f;have b:(getObj l.blk).run P w=.ok (.map es clock) w:=by simp[getObj,Sem.run,g3]
   refine⟨_,ρ,w,?_,n,St.wLg h lg⟩
   have:=g5.1;have e:es.size=rows.length:=by rw[this];simp
   simp[Builtin.len_,A4,C9 hu,Result.andThen,goInt,b,e]
  .cases a
 .cases a
def A3F{T:TypeId}(a:A0J P m T=some (v,m')):m.lg.le m'.lg:=by
 unfold A0J at a;split at a
 .rw[N6]at a;rw[aM a];exact V6
 .cases a
def tO{wd kw c t:Nat}{b:D0}:∀ {ts:H4} {a:D0} {j:Nat} {m m':Mem} {hs:D0},tP wd kw c t b ts a j m=some (hs,m')->m.lg.le m'.lg
 | [],[],j,m,m',hs,h=>by cases h;exact .refl _
 | [],_::_,j,m,m',hs,h=>by cases h
 | _::_,[],j,m,m',hs,h=>by cases h
 | tg::ts,z::a,j,m,m',hs,h=>by
   unfold tP at h;split at h
   .rename_i hv;split at h
    .rename_i hr;cases h;exact(H8 hv).trans (tO hr)
    .cases h
   .cases h
def UZ{T:TypeId}{x k:Value}{ok:Bool}(a:yI P m T x k ok=some (v,m')):m.lg.le m'.lg:=by
 unfold yI at a;split at a
 .split at a
  .obtain⟨_,a⟩:=A3 a;split at a
   .split at a
    .rename_i b;split at a
     .cases ok with
      | false=>cases a;exact tO b
      | true =>
        simp only[E3]at a;split at a
        .rename_i e;cases a;exact(tO b).trans (H8 e)
        .cases a
     .cases a
    .cases a
   .cases a
  .cases a
 .cases a
def JF{T:TypeId}{x k e:Value}(a:CG P m T x k e=some (v,m')):m.lg.le m'.lg:=by
 unfold CG at a;split at a
 .split at a
  .obtain⟨_,a⟩:=A3 a;rw[N6]at a;unfold OD at a;split at a
   .rename_i X8;cases a;rw[dW X8];exact V6
   .cases a
  .cases a
 .cases a
def A0S{T:TypeId}{x:Value}(a:KD P m T x=some (v,m')):m.lg.le m'.lg:=by
 unfold KD at a;split at a
 .split at a
  .exact(bS a).2
  .cases a
 .cases a
end
end
section
open Go
variable [Ora]
section
variable {P:Program} {base:Nat} {ρ:Ren} {m m':Mem} {w:World}
omit [Ora] in
def LZ{G:Nat->Option Obj}:∀ {us:List U} {s:List UInt8} {vs:D0},tZ us=some s->Z1 G us vs->∃ e:List Int,vs=e.map (Value.int .u8)/\s=e.map fun n=>UInt8.ofNat n.toNat
 | [],s,vs,h,he=>by
   cases h;have:vs=[]:=G0.1 he.1.symm;subst this;exact⟨[],rfl,rfl⟩
 | u::us,s,vs,h,he=>by
   unfold tZ at h;split at h
   .rename_i heq;cases heq
   .rename_i n r heq;cases heq;split at h
    .split at h
     .rename_i l g;cases h;cases vs with
      | nil=>have:=he.1;simp at this
      | cons v vr =>
        obtain⟨e,o,j⟩:=LZ (vs:=vr) g ⟨by have:=he.1;simpa using this,fun i a b h1 f=>he.2 (i+1) a b (by simpa using h1) (by simpa using f)⟩
        have:=gA (he.2 0 _ v rfl rfl) rfl;subst this;exact⟨(Int.ofNat n)::e,by rw[o];rfl,by rw[j];rfl⟩
     .cases h
    .cases h
   .cases h
def IN{t:TypeId}{n:Nat}(h:H1 P t=some n):∃ inf,P.info? t=some inf/\inf.size=n:=by
 unfold H1 at h;cases hi:P.info? t with
 | none=>rw[hi]at h;cases h
 | some inf=>rw[hi]at h;exact⟨inf,rfl,A8 h⟩
def IR(d:Nat)(t:TypeId):sameLayout P (d+1) t t=true:=by simp[sameLayout]
def A1p:∃ d,P.depth=d+1:=⟨2*(P.types.size+Made.depth)+1,rfl⟩
def OH{T:TypeId}{n off:Nat}(hs:P.cellsOf T≠0)(hr:off%P.cellsOf T=0)(b:off / P.cellsOf T+1<=n):liesAt P P.depth T n off T 1=true:=by
 obtain⟨d,a⟩:=A1p (P:=P);have h1:rowAt P (sameLayout P P.depth · T) P.depth T n off 1=true:=by
  rw[a];unfold rowAt;simp only[hs,if_false,hr,IR];simp[b]
 rw[a]at h1 ⊢;unfold liesAt;rw[a,h1];rfl
def A1v{s t:TypeId}{x:Value}(h:HR P base ρ m.H w)(g:TF P m s t x=some (v,m'))(hx:VR ρ x x'):VOk P base ρ m w (convert s t x') v m':=by
 unfold TF at g;split at g
 .rename_i e b o hs K;obtain⟨l,D,_,rfl⟩:=O6 hx;split at g
  .rename_i k cs T ro z F;obtain⟨q,g⟩:=A3 g;have q:o<cs.length:=A1 q;cases g;obtain⟨inf,a,L⟩:=IN z;obtain⟨⟨p,C,fz,i,h1,N,_⟩,_⟩:=h.atl D F;obtain⟨v',h3,_⟩:=N o cs[o] (A5 q);have I:l.sh+o<C.size:=(C7.1 h3).1;exact VOk.same h (Lib.run_to_unsafe w ⟨l.blk,o+l.sh,none⟩ hs K a A2 (show w.shape? l.blk=some (i,C.size) by simp[World.shape?,h1]) (by show o+l.sh<C.size;omega)) hx
  .cases g
 .rename_i u b hs K;obtain⟨l,D,_,rfl⟩:=O6 hx;split at g
  .rename_i k cs T z F;obtain⟨J,f⟩:=A3 g;clear g;obtain⟨B,M⟩:=B6 J;have B:=A0 B;have M:=A0 M;clear J;subst B;cases f;obtain⟨inf,a,L⟩:=IN z;obtain⟨⟨p,C,fz,i,h1,N,h3⟩,_⟩:=h.atl D F;obtain⟨rfl,_,Q⟩:=h3 rfl;obtain⟨_,G⟩:=Q inf a;have E:P.cellsOf i=k+1:=by unfold Program.cellsOf;rw[a];exact L
   have A:k<cs.length:=A2;obtain⟨v',S,_⟩:=N k cs[k] (A5 A);have I:l.sh+k<C.size:=(C7.1 S).1;refine VOk.same h (Lib.run_from_unsafe w ⟨l.blk,0+l.sh,none⟩ hs K a (show w.shape? l.blk=some (i,C.size) by simp[World.shape?,h1]) ?_) hx;show liesAt P P.depth i (C.size / P.cellsOf i) (0+l.sh) i 1=true;rw[F4];refine OH A2 (by rw[E];rw[L]at G;exact G) ?_;rw[E];have G:l.sh%(k+1)=0:=by rw[L]at G;exact G
   have V:l.sh=(k+1)*(l.sh / (k+1)):=by have:=Nat.div_add_mod l.sh (k+1);omega
   refine(Nat.le_div_iff_mul_le A2).2 ?_;rw[H6,gI,bB];omega
  .cases g
 .rename_i W e b o n c hs K;obtain⟨J,f⟩:=A3 g;clear g;obtain⟨B,M⟩:=B6 J;have B:=A0 B;clear J;subst B;split at f
  .rename_i cs T hu F;split at f
   .rename_i m1 X8;cases f;obtain⟨l,mm,D,rfl⟩:∃ l mm,ρ b=some l/\x'=.slice (some ⟨l.blk,o+l.sh,none⟩) n mm:=by
     cases hx with
     | pure hp=>simp[I4]at hp
     | sl h1 _=>exact⟨_,_,h1,rfl⟩
     | op h1 _ _ _=>exact⟨_,_,h1,rfl⟩
     | opE _=>simp at M
    obtain⟨⟨p,C,fz,i,z2,z3,z4⟩,_⟩:=h.atl D F;have O:w.shape? l.blk=some (i,C.size):=by simp[World.shape?,z2]
    refine⟨_,ρ,w.freeze ⟨l.blk,C.size,none⟩ 1,?_,hx,St.write h X8 F rfl D p ?_ ?_ ?_ ?_⟩
    .simp[convert,run_underlying K,run_underlying hu,markStringish,O]
    .simp[World.freeze]
    .simp[World.freeze]
    .intro j R;simp only[World.freeze,Nat.one_ne_zero,if_false,G9];rw[A7 (fun e=>R e.symm)]
    .refine⟨p,C,(if fz.1 == fz.2 then(C.size,C.size+1)else(min fz.1 C.size,max fz.2 (C.size+1))),i,?_,z3,fun E=>⟨(z4 E).1,(z4 E).2.1.mark,(z4 E).2.2⟩⟩;simp only[World.freeze,Nat.one_ne_zero,if_false,G9,if_true,z2,L2]
   .cases f
  .cases f
 .cases g
def ZJ{op:BinOp}{t:TypeId}{x y:Operand}{a a' b b':Value}(h:HR P base ρ m.H w)(i:RA P m op t a b=some (v,m'))(A:VR ρ a a')(B:VR ρ b b'):VOk P base ρ m w (do eqGuard op t x y a' b';binOp op t a' b') v m':=by
 unfold RA at i;split at i
 .rename_i e D p C E hu;obtain⟨u,f⟩:=A3 i;clear i;obtain⟨s,q⟩:=B6 u;have s:=A0 s;have q:=A0 q;clear u;subst s;subst q;obtain⟨l,z,_,rfl⟩:=O6 A;obtain⟨l2,g,_,rfl⟩:=O6 B;rw[z]at g
  have:=A8 g;subst this;have heq:∀ j,P.info? e=some j->∀ d:Nat,(Op.equalIn (d+1) t (.pointer (some ⟨l.blk,p+l.sh,none⟩)) (.pointer (some ⟨l.blk,p+l.sh,none⟩))).run P w=.ok true w:=fun j o d=>by
   simp[Op.equalIn,run_underlying hu,sizeOf,typeInfo,o,run_sameAddr_same]
  have n:(eqGuard op t x y (.pointer (some ⟨l.blk,p+l.sh,none⟩)) (.pointer (some ⟨l.blk,p+l.sh,none⟩))).run P w=.ok () w:=by
   unfold eqGuard;split<;>simp
  split at f
  .rename_i j o;cases f;refine VOk.same h (v':=.bool true) ?_ (.pure rfl);rw[A4,n];simp[Result.andThen,binOp,Op.equal,Op.maxDepth,heq j o 9999]
  .rename_i j o;cases f;refine VOk.same h (v':=.bool false) ?_ (.pure rfl);rw[A4,n];simp[Result.andThen,binOp,Op.equal,Op.maxDepth,heq j o 9999]
  .cases f
 .cases i
def St.laid{o:Obj}(h:HR P base ρ m.H w):St P base ρ ρ m m w { w with heap:=w.heap.push o } :=
 have f:∀ k,k<w.heap.size->(w.heap.push o)[k]? = w.heap[k]? := fun k f=>by rw[j8,A7 A2]
 ⟨fun _ _ h=>h,fun b l h1 a=>(by rw[h1]at a;cases a),A6 _,A6 _,fun h=>h,
  ⟨h.dom,fun id hid ab g=>by
    obtain⟨l,h1,a,h3⟩:=h.at_ id hid ab g;exact⟨l,h1,a.mono (fun _ _ h=>h) (fun k e=>f k (a.tc e)),h3⟩⟩,
  fun _ h=>h,fun b h1 a=>absurd h1 a,fun k e _=>f k e,by simp,⟨rfl,rfl,rfl⟩,fun b l h1 a=>(by rw[h1]at a;cases a),fun _ _ _ _=>rfl,fun _ h=>.inr h⟩
def A7C{tys:Array TypeId}{x:Value}(h:HR P base ρ m.H w)(a:sdM P m ty x=some (v,m'))(hx:VR ρ x x'):VOk P base ρ m w (Builtin.unsafeSliceData_ tys ty #[x']) v m':=by
 unfold sdM at a;split at a
 .rename_i e he;split at a
  .rename_i b i t;split at a
   .rename_i c tc T g ro B;cases a;have hx:VR ρ (own b i t) x':=hx;rcases(fW hx).1 with⟨l,wd,h1,f,h3,rfl⟩|⟨l,wd,rows,h1,f,h3,E,D,rfl⟩
    .exact VOk.same h rfl (.sdt ⟨l,h1,.inl ⟨f,rfl⟩⟩)
    .have j:Builtin.unsafeSliceData_ tys ty #[.slice (some ⟨l.blk,l.sh,none⟩) l.len l.cap]=(do
       if l.cap≠0 then pure (.pointer (some ⟨l.blk,l.sh,none⟩))
       else if(<- viewAt l.blk).isSome then pure (.pointer (some ⟨l.blk,l.sh,none⟩))
       else pure (.pointer (some ⟨<- newObj (.view ⟨l.blk,l.sh,none⟩ (<- elemOf ty)),0,none⟩))):=rfl
     rw[j];by_cases p:l.cap=0
     .rw[A7 (by simpa using p)];obtain⟨s,inf,_,_,_,u⟩:=SqR.ex (h.atl h1 B).1;rcases u with⟨n,_⟩|⟨_,n⟩
      .rw[f]at n;cases n
      .obtain⟨C,fz,z,q,lg,A,_⟩:=n;have o:w.shape? l.blk=some (z,C.size):=by simp[World.shape?,A]
       refine⟨.pointer (some ⟨w.heap.size,0,none⟩),ρ,{ w with heap:=w.heap.push (.view ⟨l.blk,l.sh,none⟩ e) },?_,.sdt ⟨l,h1,.inr ⟨f,_,rfl,fun h=>absurd p h⟩⟩,St.laid h⟩;simp[viewAt,o,elemOf,C9 he,newObj,Sem.run,A4,Result.andThen]
     .rw[A9 p];exact VOk.same h rfl (.sdt ⟨l,h1,.inr ⟨f,_,rfl,fun _=>rfl⟩⟩)
   .cases a
  .cases a
 .cases a
def A6z{p l p' l':Value}(h:HR P base ρ m.H w)(K:usM P m pt p l=some (v,m'))(hp:VR ρ p p')(hl:VR ρ l l')(hS:Sat m'.lg)(hf:K2 ρ m.n m'.hi) :
  VOk P base ρ m w (Builtin.unsafeString_ ⟨pt::tys⟩ ty #[p',l']) v m':=by
 have E:IntKind.i64.max=9223372036854775807:=rfl;unfold usM at K;split at K
 .rename_i b;obtain⟨Z,K⟩:=A3 K;have Z:G4 l<8:=A1 Z;obtain⟨k,n0,rfl,ae,_⟩:=M6 hl Z;split at K
  .rename_i c tc T g e hg ah;obtain⟨hq,D⟩:=A3 K;clear K;obtain⟨q1,q2⟩:=B6 hq;have q1:=A0 q1;have q2:=A0 q2;clear hq;subst q1;subst q2;split at D
   .rename_i u m1 bz O;split at D
    .rename_i m2 X8;cases D;have ad:=dW X8;have aa:Sat m1.lg:=by rw[<- ad];exact hS
     obtain⟨u0,e1,e2,r,e3,e4,e5⟩:=M4 O aa;obtain⟨lg,rfl⟩:=H5 O;obtain⟨l0,M,hv⟩:=A3V (show VR ρ (sdt b) p' from hp);have B:=St.wLg h lg;obtain⟨wd,inf,k1,k2,k3,L⟩:=SqR.ex (h.atl M hg).1;have ai:wd=1:=A2;subst ai;have f:evU .ustr [Ora.env c,.int k n0]=u0:=by
      have:D5 Ora.env (hole c 11)=Ora.env c:=rfl;rw[<- this,<- ae];exact e1
     have F:∀ ar rows,Ora.env c=.seq ar 1 rows->∃ (n:Nat) (N:List UInt8),n0=(n:Int)/\n<=rows.length/\n<=1000000000/\vW (rows.take n)=some N/\u0=.str N:=fun ar rows hc=>by
      rw[hc]at f;cases n0 with
      | negSucc z=>have:u0=.none:=f.symm;subst this;cases e3
      | ofNat n =>
        have f:(if 1=1/\n<=rows.length/\n<=vX then match vW (rows.take n)with
         | some s=>U.str s
         | none=>.none else .none)=u0:=f
        split at f
        .rename_i av;split at f
         .rename_i N F;exact⟨n,N,rfl,av.2.1,av.2.2,F,f.symm⟩
         .subst f;cases e3
        .subst f;cases e3
     have A:P.cellsOf e=1:=by unfold Program.cellsOf;rw[k2];exact k3
     have V:∀ {ρ:Ren} {w:World} {lx:Loc},BR P ρ (.sq c 11 e g false) lx w->BR P ρ (.sq c 11 e g true) lx w:=fun hb=>by
      obtain⟨wd,inf,k1,k2,k3,L⟩:=SqR.ex hb;refine⟨⟨wd,inf,k1,k2,k3,L.imp (fun x=>x) fun⟨a,C,fz,T',rows,lg,b1,b2,b3,b4,b5,b6,b7,b8,_⟩=>⟨a,C,fz,T',rows,lg,b1,b2,b3,b4,b5,b6,b7,b8,fun hh=>by cases hh⟩⟩⟩
     have S:Hp.get (m.wLg lg).H b=some (.sq c 11 e g false):=by rw[kU];exact hg
     have Q:St P base ρ ρ m m' w w:=St.trans hf B (St.same0 B.hr X8 S rfl M (V (B.hr.atl M S).1) fun q hq=>hq.imp (fun⟨_,b⟩=>⟨rfl,b⟩) fun⟨hh,_⟩=>by cases hh);rcases hv with⟨aw,rfl⟩|⟨Y,a,rfl,ha⟩
     .rcases L with⟨_,I⟩|⟨I,_⟩
      .obtain⟨n,N,rfl,j1,_,j2,rfl⟩:=F _ _ I;have hn:n=0:=by simpa using j1
       subst hn;cases j2;cases e3;refine⟨.string ByteArray.empty,ρ,w,?_,e4 ρ,Q⟩;have o:Builtin.unsafeString_ ⟨pt::tys⟩ ty #[.pointer none,.int k ((0:Nat):Int)] =
         (do
           let n <- asInt (.int k ((0:Nat):Int))
           if n<0 then runtimePanic (.error "unsafe.String: len out of range")
           if n>IntKind.i64.max then unsupported (.unsafePointer "String: a length above the largest int")
           if n=0 then pure (.string .empty)
           else runtimePanic (.error "unsafe.String: ptr is nil and len is not zero")):=rfl
       rw[o];simp[asInt,asIntOf,E]
      .rw[aw]at I;cases I
     .rcases L with⟨I,_⟩|⟨_,I⟩
      .rw[Y]at I;cases I
      obtain⟨C,fz,T',rows,an,z1,z2,z3,z4,z5,z6,z7,z8,z9⟩:=I;obtain⟨rfl,bw⟩:=z9 rfl;obtain⟨n,N,rfl,j1,j0,j2,rfl⟩:=F _ _ z2;cases e3;have o:Builtin.unsafeString_ ⟨pt::tys⟩ ty #[.pointer (some a),.int k (n:Int)] =
       (do
         let n <- asInt (.int k (n:Int))
         if n<0 then runtimePanic (.error "unsafe.String: len out of range")
         if n>IntKind.i64.max then unsupported (.unsafePointer "String: a length above the largest int")
         if n=0 then pure (.string .empty)
         else if <- variablesAt a (<- elemOf pt) n.toNat then do
          let s <- loadBytes a .empty n.toNat
          freeze a n.toNat
          pure (.string s)
         else unsupported (.unsafePointer "String: not so many bytes at ptr")):=rfl
      have aq:¬ (n:Int)<0:=A2;have ay:¬ (9223372036854775807:Int)<(n:Int):=A2;by_cases t:n=0
      .subst t;cases j2;refine⟨.string ByteArray.empty,ρ,w,?_,e4 ρ,Q⟩;rw[o];simp[asInt,asIntOf,E]
      .have hz:¬ (n:Int)=0:=A2;have ax:l0.cap≠0:=A2;have ha:=ha ax;subst ha;obtain⟨y1,y2,y3⟩:=GZ j2;have hlen:(rows.take n).length=n:=by simp;omega
       have al:l0.sh+n<=C.size:=A2;obtain⟨ns,r1,r2⟩:∃ ns:List Int,(C.toList.drop l0.sh).take n=ns.map (Value.int .u8)/\N=ns.map fun n=>UInt8.ofNat n.toNat:=by
        refine LZ (G:=an.G) y1 ⟨by rw[y2,hlen];simp;omega,fun i u v b1 b2=>?_⟩;have az:i<n:=by have:=(B0.1 b1).1;rw[y2,hlen]at this;exact this
        have ao:i<rows.length:=A2;have R:rows[i]? = some rows[i]:=A5 ao;have W:(rows.take n)[i]? = some rows[i]:=by rw[E6 az];exact R
        have bx:rows[i].length=1:=z6 _ (N5 ao);have h0:rows[i][0]? = some (rows[i][0]' A2):=A5 A2;obtain⟨_,L⟩:=y3 i _ 0 _ W h0;rw[b1]at L;have L:=A8 L;rw[L];have hc:C[l0.sh+i*1+0]? = some v:=by
         rw[E6 az,H9]at b2
         simpa using b2
        exact z8 i _ 0 _ v R h0 hc
       have ag:ns.length=n:=by
        have:=F3 List.length r1;simp at this;omega
       have J:∀ (j:Nat) (v:Value),(ns.map (Value.int .u8))[j]? = some v->w.cell? ⟨l0.blk,l0.sh+j,none⟩=some v:=fun j v hj=>by
        rw[<- r1]at hj;have ak:j<n:=by have:=(B0.1 hj).1;simp at this;omega
        rw[E6 ak,H9]at hj;simp only[World.cell?,z1]
        simpa using hj
       have au:=eN (P:=P) (w:=w) ns l0.blk l0.sh .empty J;rw[ag]at au;have aj:w.shape? l0.blk=some (T',C.size):=by simp[World.shape?,z1]
       have X:=yK (P:=P) A (C.size / P.cellsOf T') l0.sh n (by rw[A];simpa using al);have af:St P base ρ ρ (m.wLg lg) m' w (w.freeze ⟨l0.blk,l0.sh,none⟩ n):=by
        refine St.write B.hr X8 S rfl M Y ?_ ?_ ?_ ?_
        .simp[World.freeze,t]
        .simp[World.freeze,t]
        .intro j hj;simp only[World.freeze,t,if_false,G9];rw[A7 (fun e=>hj e.symm)]
        .refine⟨⟨1,inf,rfl,k2,k3,.inr ⟨Y,C,(if fz.1 == fz.2 then(l0.sh,l0.sh+n)else(min fz.1 l0.sh,max fz.2 (l0.sh+n))),T',rows,an,?_,z2,z3,z4,z5,z6,z7,z8,fun hc=>by cases hc⟩⟩⟩;simp only[World.freeze,t,if_false,G9,if_true,z1,L2]
       refine⟨.string ⟨⟨N⟩⟩,ρ,w.freeze ⟨l0.blk,l0.sh,none⟩ n,?_,e4 ρ,St.trans hf B af⟩;rw[o];simp[asInt,asIntOf,E,aq,ay,hz,t,variablesAt,aj,elemOf,C9 ah,X,au,freeze,Sem.run,A4,Result.andThen,r2]
    .cases D
   .cases D
  .cases K
 .cases K
def UO{t:TypeId}{x:Value}(h:HR P base ρ m.H w)(j:base<=w.heap.size)(a:xR P m t x=some (v,m'))(g:K2 ρ m.n m'.hi)(hx:VR ρ x x'):VOk P base ρ m w (Instr.range t x') v m':=by
 unfold xR at a;split at a
 .rename_i hu;obtain⟨h1,a⟩:=A3 a;obtain⟨s,rfl,_⟩:=o7 hx (A0 h1);have f:∀ e:Ren,(∀ b l,ρ b=some l->e b=some l)->BR P e (.iter [x,.int .i64 (.ofNat 0)]) (lc w.heap.size 0 0) { w with heap:=w.heap.push (.stringIter ⟨⟨s⟩⟩ 0) }:=fun e he =>
   ⟨⟨rfl,rfl⟩,⟨⟨s⟩⟩,0,by simp[lc],.cons (hx.mono he) (.cons (.pure rfl) .nil)⟩
  obtain⟨i,h3,o⟩:=St.alloc (w':={ w with heap:=w.heap.push (.stringIter ⟨⟨s⟩⟩ 0) }) (l:=lc w.heap.size 0 0) h j a g ⟨rfl,rfl,rfl⟩ rfl rfl (f _ (W7 (g m.n (A6 _) (by obtain⟨_,_,rfl⟩:=L5 a;exact(K9 _ _).2))));refine⟨.pointer (some ⟨w.heap.size,0,none⟩),_,_,?_,?_,o⟩
  .simp[Instr.range,A4,C9 hu,Result.andThen,newObj,Sem.run]
  .rw[i];exact .ptr h3
 .cases a
def PD{s p:Value}{b:ByteArray}(h:GW s p=some (b,k)):s=.string b/\p=.int .i64 (.ofNat k):=by
 unfold GW at h;split at h
 .cases h;exact⟨rfl,rfl⟩
 .cases h
def A0E{x:Value}(h:HR P base ρ m.H w)(a:JT m x=some (v,m'))(hf:K2 ρ m.n m'.hi)(hx:VR ρ x x')(hS:Sat m'.lg):VOk P base ρ m w (Instr.next x' true ty) v m':=by
 unfold JT at a;split at a
 .rename_i r;obtain⟨l,hl,_,rfl⟩:=O6 hx;split at a
  .rename_i s p hg;obtain⟨⟨⟨L,B⟩,f,n,g1,g2⟩,_⟩:=h.atl hl hg;have K:(getObj l.blk).run P w=.ok (.stringIter f n) w:=by simp[getObj,Sem.run,g1]
   have i:l.blk<w.heap.size:=(C7.1 g1).1;have M:w.heap[l.blk]=.stringIter f n:=by
    have q:=g1;rw[F2 i]at q;exact A8 q
   obtain⟨s',r1,e1,Y,k2⟩:=g2.tail;obtain⟨p',r2,e2,k3,k4⟩:=k2.tail;cases k4.nil_inv;cases e2;cases e1;have az:∀ S:Nat,(setObj l.blk (.stringIter f S)).run P w=.ok () { w with heap:=w.heap.set l.blk (.stringIter f S) i }:=fun S=>by
    simp[setObj,Sem.run,M,Array.setIfInBounds,i]
   have z:n<f.size->(Instr.next (.pointer (some ⟨l.blk,0+l.sh,none⟩)) true ty).run P w=.ok (.tuple #[.bool true,.int .i64 (.ofNat n),.int .i32 (.ofNat (Utf8.decode f n).1)]) { w with heap:=w.heap.set l.blk (.stringIter f (n+(Utf8.decode f n).2)) i }:=fun o=>by
    rw[B];simp[Instr.next,A4,Result.andThen_ok,K,o,az,goInt]
   have G:¬n<f.size->(Instr.next (.pointer (some ⟨l.blk,0+l.sh,none⟩)) true ty).run P w=.ok (.tuple #[.bool false]) w:=fun o=>by
    rw[B];simp[Instr.next,A4,Result.andThen_ok,K,o]
   have fin:∀ {m1 m2:Mem} {q:Value},J9 m m1->cK m1 r (.iter [s,q])=some m2->K2 ρ m.n m2.hi->VR ρ q (.int .i64 (.ofNat (n+(Utf8.decode f n).2)))->St P base ρ ρ m m2 w { w with heap:=w.heap.set l.blk (.stringIter f (n+(Utf8.decode f n).2)) i }:=fun{m1 m2 q} e X8 R Z=>by
    obtain⟨lg,rfl⟩:=e;have J:=St.wLg h lg;have Q:Hp.get (m.wLg lg).H r=some (.iter [s,p]):=by rw[kU];exact hg
    refine St.trans R J (St.write (ab:=.iter [s,p]) (ab':=.iter [s,q]) J.hr X8 Q rfl hl L ⟨rfl,rfl,rfl⟩ (by simp) (fun j hj=>?_) ?_)
    .show(w.heap.set l.blk _ i)[j]? = _;rw[s5,A7 (fun e=>hj e.symm)]
    .refine⟨⟨L,B⟩,f,_,?_,.cons Y (.cons Z .nil)⟩;show(w.heap.set l.blk _ i)[l.blk]? = _;rw[s5,A9 rfl]
   split at a
   .rename_i b k hc;obtain⟨rfl,rfl⟩:=PD hc;have e:=U6 Y;cases e;have e:=J4 k3;cases e;by_cases o:n<f.size
    .have t:Nat.blt n f.data.toList.length=true:=C5 o;rw[t]at a;simp only[E3,E5]at a;split at a
     .rename_i m2 X8;cases a;exact⟨_,ρ,_,z o,.tuple rfl (LR.cons (.pure rfl) (LR.cons (.pure rfl) (LR.cons (.pure rfl) LR.nil))).2,fin ⟨m.lg,by cases m;rfl⟩ X8 hf (.pure rfl)⟩
     .cases a
    .have t:Nat.blt n f.data.toList.length=false:=by
      cases Z:Nat.blt n f.data.toList.length with
      | false=>rfl
      | true=>exact absurd (A1 Z) o
     rw[t]at a;cases a;exact⟨_,ρ,w,G o,.tuple rfl (LR.cons (.pure rfl) LR.nil).2,St.refl h⟩
   .obtain⟨h1,a⟩:=A3 a;obtain⟨h1,h2⟩:=B6 h1;have h1:=A0 h1;have h2:=A0 h2;obtain⟨s0,es,as⟩:=o7 Y h1;cases es;obtain⟨kk,nn,ep,ap,_⟩:=M6 k3 A2;cases ep;split at a
    .rename_i hh m1 C;split at a
     .rename_i c H N W hi lg A;have o1:=H5 C;have o2:=H5 A;have key:∀ {b:Bool} {g:Lg},brL lg c=some (b,g)->Sat g->(b=true↔n<s0.length)/\J9 m ⟨H,N,W,hi,g⟩:=fun{b g} t u=>by
       have O:Sat lg:=u.le (fE t);have T:Sat m1.lg:=R6.le O (H8 A);have u1:VR ρ hh (.int .i64 s0.length):=by
        have:=(iC (ρ:=ρ) C T).2.2;rw[C3,F9,as]at this;exact this
       obtain⟨rfl,e1⟩:=jB C;obtain⟨k5,n5,e5,a5,_⟩:=M6 u1 (show 3<8 by decide);cases e5;have u2:VR ρ c (.bool (decide ((n:Int)<s0.length))):=by
        have:=(iC (ρ:=ρ) A O).2.2;rw[C3,C3,F9,ap,a5]at this;have e:evU (.bin .lss) [.int .i64 (Int.ofNat n),.int .i64 (s0.length:Int)]=.bool (decide ((n:Int)<s0.length)):=by
         simp[evU,evB,aT,uH,iE,kP,FM,ofV]
        rw[e]at this;exact this
       have:=mH t u2 u;refine⟨?_,?_⟩
       .have:=Value.bool.inj this;rw[<- this,decide_eq_true_iff];omega
       .exact(o1.trans o2).trans ⟨g,rfl⟩
      split at a
      .rename_i g t;split at a
       .rename_i y m3 E;split at a
        .rename_i q m4 D;split at a
         .rename_i m5 X8;cases a;have F:Sat m4.lg:=by rw[<- dW X8];exact hS
          have I:=F.le (H8 D);have u:Sat g:=I.le (H8 E);obtain⟨V,ko⟩:=key t u;have o:=V.1 rfl;have u3:VR ρ y (.int .i32 (.ofNat (Utf8.decode ⟨⟨s0⟩⟩ n).1)):=by
           have:=(iC (ρ:=ρ) E I).2.2;rw[C3,C3,F9,as,ap]at this;exact this
          have u4:VR ρ q (.int .i64 (.ofNat (n+(Utf8.decode ⟨⟨s0⟩⟩ n).2))):=by
           have:=(iC (ρ:=ρ) D F).2.2;rw[C3,C3,F9,as,ap]at this;exact this
          exact⟨_,ρ,_,z o,.tuple rfl (LR.cons (.pure rfl) (LR.cons k3 (LR.cons u3 LR.nil))).2,fin ((ko.trans (H5 E)).trans (H5 D)) X8 hf u4⟩
         .cases a
        .cases a
       .cases a
      .rename_i g t;cases a;obtain⟨V,ko⟩:=key t hS;have o:¬n<s0.length:=fun q=>by have:=V.2 q;cases this
       obtain⟨X,e3⟩:=ko;refine⟨_,ρ,w,G o,.tuple rfl (LR.cons (.pure rfl) LR.nil).2,?_⟩;rw[e3];exact St.wLg h X
      .cases a
     .cases a
    .cases a
  .cases a
 .cases a
def UP{t:TypeId}{x:Value}(a:xR P m t x=some (v,m')):m.lg.le m'.lg:=by
 unfold xR at a;split at a
 .obtain⟨_,a⟩:=A3 a;rw[aM a];exact .refl _
 .cases a
def A0F{x:Value}(e:JT m x=some (v,m')):m.lg.le m'.lg:=by
 unfold JT at e;split at e
 .split at e
  .split at e
   .rename_i b k o;cases f:Nat.blt k b.data.toList.length with
    | true =>
      rw[f]at e;simp only[E3,E5]at e;split at e
      .rename_i X8;cases e;rw[dW X8];exact .refl _
      .cases e
    | false=>rw[f]at e;cases e;exact .refl _
   .obtain⟨_,e⟩:=A3 e;split at e
    .rename_i i;split at e
     .rename_i g;have a:=(H8 i).trans (H8 g);split at e
      .rename_i f;have a:=a.trans (fE f);split at e
       .rename_i n;split at e
        .rename_i j;split at e
         .rename_i X8;cases e;rw[dW X8];exact(a.trans (H8 n)).trans (H8 j)
         .cases e
        .cases e
       .cases e
      .rename_i f;cases e;exact a.trans (fE f)
      .cases e
     .cases e
    .cases e
  .cases e
 .cases e
def A6r{fr:Fr}{g:Operand->Value}{o:Oper}(h:HR P base ρ m.H w)(C:base<=w.heap.size)(b:xtM P fr m o=some (v,m'))(i:K2 ρ m.n m'.hi)(B:FR ρ fr g o.op)(f:Sat m'.lg):NOk P base ρ m w (execOp g o) v m':=by
 obtain⟨dst,op,ty,pos,E,D⟩:=o;unfold xtM at b;simp only at b B;have a:∀ {x},x ∈ op.operands.toList->VR ρ (ev fr x) (g x):=fun hx=>B _ hx
 split at b
 .rename_i s t x;exact NOk.of (A1v h b (a (x:=x) (by simp[Op.operands])))
 .rename_i op t x y J;exact NOk.of (ZJ h b (a (x:=x) (by simp[Op.operands])) (a (x:=y) (by simp[Op.operands])))
 .rename_i xs tys;have l1:=dF (ρ:=ρ) (fr:=fr) (g:=g) (xs:=xs.toList) fun y j=>B y (by show y ∈ (#[]++xs:Array Operand).toList;simpa using j)
  split at b
  .rename_i x hx;rw[hx]at l1;obtain⟨x',r1,z,g1,g2⟩:=l1.tail;cases g2.nil_inv;have u:xs.map g=#[x']:=by apply J1;simpa using z
   have:=A7C (tys:=tys) h b g1;have A:=NOk.of this;obtain⟨ks,q⟩:∃ ks,execOp g ⟨dst,.call ⟨.builtin .unsafeSliceData,xs,tys⟩,ty,pos,E,D⟩=builtin .unsafeSliceData tys ty ks (xs.map g):=⟨#[],rfl⟩;rw[q,u];exact A
  .cases b
 .rename_i xs tys;have l1:=dF (ρ:=ρ) (fr:=fr) (g:=g) (xs:=xs.toList) fun y j=>B y (by show y ∈ (#[]++xs:Array Operand).toList;simpa using j)
  split at b
  .rename_i p l t rest hx F;rw[hx]at l1;obtain⟨x',r1,z,g1,g2⟩:=l1.tail;obtain⟨I,K,rfl,g3,g4⟩:=g2.tail;cases g4.nil_inv;have u:xs.map g=#[x',I]:=by apply J1;simpa using z
   have A:=NOk.of (A6z (ty:=ty) (tys:=rest) h b g1 g3 f i);obtain⟨ks,q⟩:∃ ks,execOp g ⟨dst,.call ⟨.builtin .unsafeString,xs,tys⟩,ty,pos,E,D⟩=builtin .unsafeString tys ty ks (xs.map g):=⟨#[],rfl⟩;have G:tys=⟨t::rest⟩:=by rw[<- F]
   rw[q,u,G];exact A
  .cases b
 .rename_i t;exact NOk.of (A3E h C b i f)
 .rename_i t x k ok;exact NOk.of (UY h b (a (x:=x) (by simp[Op.operands])) (a (x:=k) (by simp[Op.operands])) f)
 .rename_i t x;exact NOk.of (UO h C b i (a (x:=x) (by simp[Op.operands])))
 .rename_i x;exact NOk.of (A0E h b i (a (x:=x) (by simp[Op.operands])) f)
 .rename_i t x k e;obtain⟨rfl,hu⟩:=JE h C b i (a (x:=x) (by simp[Op.operands])) (a (x:=k) (by simp[Op.operands])) (a (x:=e) (by simp[Op.operands])) f;exact NOk.ofU hu
 .rename_i t x k e;obtain⟨rfl,hu⟩:=JE h C b i (a (x:=x) (by simp[Op.operands])) (a (x:=k) (by simp[Op.operands])) (a (x:=e) (by simp[Op.operands])) f;exact NOk.ofU hu
 .rename_i xs tys;have l1:=dF (ρ:=ρ) (fr:=fr) (g:=g) (xs:=xs.toList) fun y j=>B y (by show y ∈ (#[]++xs:Array Operand).toList;simpa using j)
  split at b
  .rename_i x t rest hx F;rw[hx]at l1;obtain⟨x',r1,z,g1,g2⟩:=l1.tail;cases g2.nil_inv;have u:xs.map g=#[x']:=by apply J1;simpa using z
   have A:=NOk.of (A0R (ty:=ty) (tys:=rest) h b g1 f);obtain⟨ks,q⟩:∃ ks,execOp g ⟨dst,.call ⟨.builtin .len,xs,tys⟩,ty,pos,E,D⟩=builtin .len tys ty ks (xs.map g):=⟨#[],rfl⟩;have G:tys=⟨t::rest⟩:=by rw[<- F]
   rw[q,u,G];exact A
  .cases b
 .cases b
def A6s{fr:Fr}{o:Oper}(a:xtM P fr m o=some (v,m')):m.lg.le m'.lg:=by
 unfold xtM at a;split at a
 .unfold TF at a;split at a
  .split at a
   .obtain⟨_,a⟩:=A3 a;cases a;exact .refl _
   .cases a
  .split at a
   .obtain⟨_,a⟩:=A3 a;cases a;exact .refl _
   .cases a
  .obtain⟨_,a⟩:=A3 a;split at a
   .split at a
    .rename_i X8;cases a;obtain⟨_,rfl⟩:=U4 X8;exact .refl _
    .cases a
   .cases a
  .cases a
 .unfold RA at a;split at a
  .obtain⟨_,a⟩:=A3 a;split at a
   .cases a;exact .refl _
   .cases a;exact .refl _
   .cases a
  .cases a
 .split at a
  .unfold sdM at a;split at a
   .split at a
    .split at a
     .cases a;exact .refl _
     .cases a
    .cases a
   .cases a
  .cases a
 .split at a
  .unfold usM at a;split at a
   .obtain⟨_,a⟩:=A3 a;split at a
    .obtain⟨_,a⟩:=A3 a;split at a
     .rename_i b;split at a
      .rename_i hs;cases a;rw[dW hs];exact H8 b
      .cases a
     .cases a
    .cases a
   .cases a
  .cases a
 .exact A3F a
 .exact UZ a
 .exact UP a
 .exact A0F a
 .exact JF a
 .exact JF a
 .split at a
  .exact A0S a
  .cases a
 .cases a
end
end
section
open Go
def fw(rd:Option Nat):Fence:={ Fence.wide with round:=rd }
def rY{rd:Option Nat}{n:Nat}:(fw rd).depth.isSome=true->1<=n:=fun h=>by cases h
def pA{rd:Option Nat}{n:Nat}{P:Program}{f:FuncId}{args:V8}{w:World}{R:Ending->World->Prop}:CallsIn (fw rd) n P f args w R↔Calls P f args w R :=
 ⟨fun h=>callsIn_wide.1 (show CallsIn Fence.wide n P f args w R from h),fun h=>show CallsIn (fw rd) n P f args w R from(callsIn_wide (n:=n)).2 h⟩
section
variable {P:Program} {rd:Option Nat}
def wpO(P:Program)(rd:Option Nat)(o:Oper)(a:Act)(w:World)(K:Act->World->Prop)(Q:Exit->Act->World->Prop):Prop:=o.wpIn (fw rd) 0 P a w K Q
def HI{o:Oper}{a:Act}{w:World}{K f:Act->World->Prop}{Q:Exit->Act->World->Prop}(h:∀ a w,K a w->f a w)(hh:wpO P rd o a w K Q):wpO P rd o a w f Q:=by
 unfold wpO Oper.wpIn at *;refine⟨hh.1,?_⟩;have hh:=hh.2;generalize (o.semAt (fw rd).round a.eval).run P w=r at *;cases r with
 | ok n w' =>
   cases n<;>simp only[Oper.uponIn]at hh ⊢ <;>
    first
     | exact h _ _ hh
     | exact⟨hh.1,CallsIn.mono hh.2 (fun e b he=>by cases e<;>first|exact h _ _ he|exact he)⟩
     | exact⟨hh.1,RowsIn.mono hh.2 (fun _ _ he=>h _ _ he)⟩
     | exact⟨hh.1,RoundIn.mono hh.2 (fun e b he=>by cases e<;>first|exact h _ _ he|exact he)⟩
 | halt x w'=>cases x<;>simp only[Oper.uponIn]at hh ⊢<;>exact hh
def wpL(P:Program)(rd:Option Nat)(ops:Array Oper)(Q:Exit->Act->World->Prop):List Oper->Act->World->Prop
 | [],a,w=>Q .normal a w
 | o::rest,a,w=>if Region.wanted o (yielded ops a.tmps)then wpO P rd o a w (wpL P rd ops Q rest) Q else wpL P rd ops Q rest (a.put o.dst undef) w
def HJ{ops:Array Oper}{Q:Exit->Act->World->Prop}{a:Act}{w:World}{rest:List Oper}{o:Oper}
  (h:∀ K:Act->World->Prop,(∀ a w,wpL P rd ops Q rest a w->K a w)->if Region.wanted o (yielded ops a.tmps)then wpO P rd o a w K Q else K (a.put o.dst undef) w):wpL P rd ops Q (o::rest) a w:=h _ fun _ _ h=>h
def PW{ops:Array Oper}{Q:Exit->Act->World->Prop}:∀ (l:List Oper) (k:Nat),(∀ j,l[j]? = ops[k+j]?)->∀ a w,wpL P rd ops Q l a w->wpOpsIn (fw rd) 0 P ops Q (List.range' k l.length) a w
 | [],k,_,a,w,h=>h
 | o::l,k,hk,a,w,h=>by
   have h0:ops[k]? = some o:=by simpa using(hk 0).symm
   have b:=PW (Q:=Q) l (k+1) (fun j=>by have:=hk (j+1);simpa [cI,jS 1 j]using this);simp only[E4,List.range'_succ,wpOpsIn,h0];unfold wpL at h;split
   .rename_i hw;rw[A9 hw]at h;exact HI b h
   .rename_i hw;rw[A7 hw]at h;exact⟨fun _ _=>trivial,b _ _ h⟩
def vN{id:Nat}{ops:Array Oper}{Q:Exit->Act->World->Prop}{a:Act}{w:World}(h:wpL P rd ops Q ops.toList a w):(Code.region id ops false).wpIn (fw rd) 0 P Q a w :=
 wpIn_region (by
  have:=PW ops.toList 0 (by simp) a w h;rw[List.range_eq_range',<- R4];exact this)
def gW(P:Program)(rd:Option Nat)(ops:Array Oper)(Q:Exit->Act->World->Prop)(i:Nat)(K:Act->World->Prop)(a:Act)(w:World):Prop :=
 match ops[i]? with
 | none=>K a w
 | some o=>if Region.wanted o (yielded ops a.tmps)then wpO P rd o a w K Q else K (a.put o.dst undef) w
def MO{ops:Array Oper}{Q:Exit->Act->World->Prop}{i:Nat}{a:Act}{w:World}{K b:Act->World->Prop}(h:∀ a w,K a w->b a w)(hh:gW P rd ops Q i K a w):gW P rd ops Q i b a w:=by
 unfold gW at *;split
 .exact h _ _ (by simpa [*]using hh)
 .rename_i o e;simp only[e]at hh;split
  .rename_i hw;simp only[hw,if_true]at hh;exact HI h hh
  .rename_i hw;simp only[hw]at hh;exact h _ _ hh
def EH{ops:Array Oper}{Q:Exit->Act->World->Prop}{i:Nat}{rest:H4}{a:Act}{w:World}(h:gW P rd ops Q i (wpOpsIn (fw rd) 0 P ops Q rest) a w):wpOpsIn (fw rd) 0 P ops Q (i::rest) a w:=by
 unfold gW at h;simp only[wpOpsIn];split at h
 .rename_i b;simp only[b];exact h
 .rename_i o e;simp only[e];split at h
  .rename_i hw;rw[A9 hw];exact h
  .rename_i hw;rw[A7 hw];exact⟨fun _ _=>trivial,h⟩
def iN(P:Program)(rd:Option Nat)(md:Region.Mode)(ops:Array Oper)(Q:Exit->Act->World->Prop):Nat->Array Bool->Act->World->Prop
 | 0,listed,a,w=>Region.ready md ops listed=[]/\Q .normal a w
 | fuel+1,listed,a,w=>(Region.ready md ops listed=[]->Q .normal a w)/\∀ i ∈ Region.ready md ops listed,gW P rd ops Q i (iN P rd md ops Q fuel (listed.setIfInBounds i true)) a w
def EI{md:Region.Mode}{ops:Array Oper}{Q:Exit->Act->World->Prop}:∀ (fuel t:Nat) (listed:Array Bool) (a:Act) (w:World),iN P rd md ops Q fuel listed a w->wpOpsIn (fw rd) 0 P ops Q (Region.linearise.go md ops fuel t listed []) a w:=by
 intro fuel;induction fuel with
 | zero=>intro t listed a w h;simpa [Region.linearise.go,wpOpsIn]using h.2
 | succ fuel f =>
   intro t listed a w h;obtain⟨h0,h1⟩:=h;simp only[Region.linearise.go];change wpOpsIn (fw rd) 0 P ops Q (match (Region.ready md ops listed)[t%(Region.ready md ops listed).length]? with
    | some i=>Region.linearise.go md ops fuel (t / (Region.ready md ops listed).length) (listed.setIfInBounds i true) [i]
    | none=>[].reverse) a w
   cases hi:(Region.ready md ops listed)[t%(Region.ready md ops listed).length]? with
   | none =>
     have b:Region.ready md ops listed=[]:=by
      cases hr:Region.ready md ops listed with
      | nil=>rfl
      | cons x xs =>
        rw[hr]at hi;have e:t%(x::xs).length<(x::xs).length:=pI _ (by simp);simp at hi;simp at e;omega
     simpa [wpOpsIn]using h0 b
   | some i =>
     simp only[];rw[linearise_go_acc,List.reverse_singleton,List.singleton_append];exact EH (MO (fun a w=>f _ _ a w) (h1 i (C8 hi)))
def kT{id:Nat}{ops:Array Oper}{Q:Exit->Act->World->Prop}{a:Act}{w:World}(hm:P.follows .mixedOrders=true)
  (h:iN P rd .any ops Q ops.size (Array.replicate ops.size false) a { w with drawn:=w.drawn+1 }):(Code.region id ops true).wpIn (fw rd) 0 P Q a w :=
 wpIn_region_draw fun t=>by
  simp only[Region.schedule,hm,Bool.true_or,if_true];exact EI ops.size t _ a _ h
def s9{b:Frame}{a:Act}{k:List Item}{w:World} :step P (lone (b.atR a (.code (.scope c)::k)) cs w)=.next (lone (b.atR a (.code c::.inScope c::k)) cs w) :=
 step_lone_go (by simp[stepG,stepG.exec,Frame.atR])
def AW{b:Frame}{a:Act}{k:List Item}{w:World} :step P (lone (b.atR a (.inScope c::k)) cs w)=.next (lone (b.atR a k) cs w) :=
 step_lone_go (by simp[stepG,stepG.exec,Frame.atR])
def Exit.calm(Q:Exit->Act->World->Prop):Exit->Act->World->Prop
 | .goto _,_,_=>False
 | e,a,w=>Q e a w
def MP{F:Fence}{n:Nat}{Q:Exit->Act->World->Prop}{a:Act}{w:World}(h:c.wpIn F n P (Exit.calm Q) a w):(Code.scope c).wpIn F n P Q a w:=by
 intro b k cs q s hr;have h0:(lone (b.atR a (.code (.scope c)::k)) cs w).fenced P F:=fenced_calm s hr rfl;obtain⟨e,i,g,j,f⟩:=h b (.inScope c::k) cs q s hr;cases e with
 | normal=>exact⟨.normal,i,g,j,.head h0 s9 (StepsIn.trans f (.one (fenced_calm s hr rfl) AW))⟩
 | exit id =>
   have hx:exitTo id (.inScope c::k)=exitTo id k:=rfl;exact⟨.exit id,i,g,j,fun k' p=>.head h0 s9 (f.1 k' (by rw[hx];exact p)),
    fun o p=>let ⟨k₁,h1,t⟩:=f.2 o (by rw[hx];exact p);⟨k₁,h1,.head h0 s9 t⟩⟩
 | goto l=>exact j.elim
 | ret=>exact⟨_,i,g,j,.of_steps (.one h0 s9) f⟩
 | panic u=>exact⟨_,i,g,j,.of_steps (.one h0 s9) f⟩
 | outgrown=>exact⟨_,i,g,j,.of_steps (.one h0 s9) f⟩
end
end
section
open Go
def nY(o:Op)(g:Operand->Value):Sem Value :=
 match o with
 | .move x|.assign x=>pure (g x)
 | .load t x=>Instr.loadAt t (g x)
 | .store t x y=>do Instr.storeAt t (g x) (g y);pure undef
 | _=>stuck "no such operation"
def tW(P:Program)(o:Oper)(s:Act×World):Option (Act×World) :=
 match (nY o.op s.1.eval).run P s.2 with
 | .ok v w'=>some (s.1.put o.dst v,w')
 | .halt _ _=>none
section
variable {P:Program} {rd:Option Nat}
def wN{o:Oper}{s t:Act×World}(h:tW P o s=some t):∃ v,(nY o.op s.1.eval).run P s.2=.ok v t.2/\t.1=s.1.put o.dst v:=by
 unfold tW at h;split at h
 .rename_i v w' hr;cases h;exact⟨v,hr,rfl⟩
 .cases h
def nQ{o:Oper}{s:Act×World}(h:(nY o.op s.1.eval).run P s.2=.ok v w'):tW P o s=some (s.1.put o.dst v,w'):=by
 unfold tW;rw[h]
def VU{o:Oper}(a:GV o.op=true)(w:World)(g:Operand->Value):o.about P w g=none:=by
 unfold Oper.about;cases b:o.op<;>rw[b]at a<;>first|rfl|cases a
def QI{o:Oper}(a:GV o.op=true)(g:Operand->Value):∀ c,o.op≠.defer c:=fun c h=>by rw[h]at a;cases a
def A2b{o:Oper}(i:GV o.op=true){a a':Act}{w:World}{K:Act->World->Prop}{Q:Exit->Act->World->Prop}(h:tW P o (a,w)=some (a',w'))(g:K a' w'):wpO P rd o a w K Q:=by
 obtain⟨v,h1,j⟩:=wN h;simp only at h1 j;subst j;unfold wpO Oper.wpIn;refine⟨fun f n=>(by rw[VU i]at n;cases n),?_⟩;rw[Oper.semAt_eq _ _ _ (QI i a.eval)];cases b:o.op<;>rw[b]at i h1<;>first
  | cases i;done
  | skip
 .have e:(execOp a.eval o)=pure (.value (a.eval ‹Operand›)):=by unfold execOp;rw[b]
  rw[e];cases h1;exact g
 .have e:(execOp a.eval o)=pure (.value (a.eval ‹Operand›)):=by unfold execOp;rw[b]
  rw[e];cases h1;exact g
 .rename_i t x;have e:(execOp a.eval o)=(do pure (.value (<- Instr.loadAt t (a.eval x)))):=by unfold execOp;rw[b]
  have h1:(Instr.loadAt t (a.eval x)).run P w=.ok v w':=h1;rw[e];simp only[A4,h1,Result.andThen,Sem.run_pure];exact g
 .rename_i t x y;have e:(execOp a.eval o)=(do Instr.storeAt t (a.eval x) (a.eval y);pure .skip):=by unfold execOp;rw[b]
  have h1:(do Instr.storeAt t (a.eval x) (a.eval y);pure undef:Sem Value).run P w=.ok v w':=h1;rw[e];simp only[A4]at h1 ⊢;cases hr:(Instr.storeAt t (a.eval x) (a.eval y)).run P w with
  | ok u w2=>rw[hr]at h1;simp only[Result.andThen,Sem.run_pure]at h1 ⊢;cases h1;exact g
  | halt x w2=>rw[hr]at h1;cases h1
def A3y{o:Oper}(f:GV o.op=true){a:Act}{w:World}{K:Act->World->Prop}{Q:Exit->Act->World->Prop}(g:∀ c a w,¬Q (.panic c) a w)(h:wpO P rd o a w K Q):∃ a' w',tW P o (a,w)=some (a',w')/\K a' w':=by
 unfold wpO Oper.wpIn at h;obtain⟨_,h⟩:=h;rw[Oper.semAt_eq _ _ _ (QI f a.eval)]at h;cases b:o.op<;>rw[b]at f<;>first
  | cases f;done
  | skip
 .rename_i x;have e:(execOp a.eval o)=pure (.value (a.eval x)):=by unfold execOp;rw[b]
  rw[e]at h;exact⟨_,_,nQ (s:=(a,w)) (v:=a.eval x) (w':=w) (by rw[b];rfl),h⟩
 .rename_i x;have e:(execOp a.eval o)=pure (.value (a.eval x)):=by unfold execOp;rw[b]
  rw[e]at h;exact⟨_,_,nQ (s:=(a,w)) (v:=a.eval x) (w':=w) (by rw[b];rfl),h⟩
 .rename_i t x;have e:(execOp a.eval o)=(do pure (.value (<- Instr.loadAt t (a.eval x)))):=by unfold execOp;rw[b]
  rw[e]at h;simp only[A4]at h;cases hr:(Instr.loadAt t (a.eval x)).run P w with
  | ok v w' =>
    rw[hr]at h;exact⟨_,_,nQ (s:=(a,w)) (v:=v) (w':=w') (by rw[b];exact hr),h⟩
  | halt y w' =>
    rw[hr]at h;cases y<;>first|exact absurd h (g _ _ _)|exact h.elim
 .rename_i t x y;have e:(execOp a.eval o)=(do Instr.storeAt t (a.eval x) (a.eval y);pure .skip):=by unfold execOp;rw[b]
  rw[e]at h;simp only[A4]at h;cases hr:(Instr.storeAt t (a.eval x) (a.eval y)).run P w with
  | ok u w' =>
    rw[hr]at h;refine⟨_,_,nQ (s:=(a,w)) (v:=undef) (w':=w') ?_,h⟩;rw[b];show(do Instr.storeAt t (a.eval x) (a.eval y);pure undef:Sem Value).run P w=_;simp only[A4,hr,Result.andThen,Sem.run_pure]
  | halt z w' =>
    rw[hr]at h;cases z<;>first|exact absurd h (g _ _ _)|exact h.elim
def YZ{a:Act}{e:Option Tmp}{u:Value}(h:∀ x y,d=some x->e=some y->x≠y):(a.put d v).put e u=(a.put e u).put d v:=by
 cases d with
 | none=>rfl
 | some x=>cases e with
   | none=>rfl
   | some y =>
     have b:=h x y rfl rfl;unfold Act.put;simp only;congr 1;exact Array.setIfInBounds_comm _ _ b
def iG{a:Act}{x:Operand}(h:∀ t,d=some t->t ∉ pY x):(a.put d v).eval x=a.eval x:=by
 cases x with
 | const c=>cases d<;>rfl
 | tmp t =>
   cases d with
   | none=>rfl
   | some y =>
     have:y≠t:=fun e=>h y rfl (by subst e;exact L9.2 rfl)
     unfold Act.put Act.eval;simp only[B8];rw[Array.getElem?_setIfInBounds_ne this]
 | _=>cases d<;>rfl
variable [Ora]
def BH(P:Program)(w:World)(t:TypeId)(p:Value):Prop :=
 ∃ b o C T fz s g,p=.pointer (some ⟨b,o,none⟩)/\w.heap[b]? = some (.cells C T fz)/\H1 P t=some s/\aR P t=some g/\o+s<=C.size/\o<C.size
def CP{t:TypeId}{b o s:Nat}{C:V8}{T:TypeId}{g:Bool}(hs:H1 P t=some s)(n:aR P t=some g)(h1:o+s<=C.size)(p:o<C.size):∃ v,∀ w:World,w.heap[b]? = some (.cells C T fz)->(Instr.loadAt t (.pointer (some ⟨b,o,none⟩))).run P w=.ok v w:=by
 have a:∀ w:World,w.heap[b]? = some (.cells C T fz)->∀ j v,C[o+j]? = some v->w.cell? ⟨b,o+j,none⟩=some v:=fun w hw j v hv=>by simp[World.cell?,hw,hv]
 cases g with
 | true =>
   refine⟨.agg ⟨(C.toList.drop o).take s⟩,fun w hw=>?_⟩;have q:((C.toList.drop o).take s).length=s:=by rw[I8,E9,R4];omega
   have i:=K4 (P:=P) (w:=w) (b:=b) (o:=o) q (fun j v f=>by
    have e:j<s:=by have:=(B0.1 f).1;omega
    rw[E6 e,H9,P3]at f;exact a w hw j v f)
   unfold Instr.loadAt;simp[A4,Instr.sureAddr,loadVar,cF n,K8 hs,Result.andThen,i]
 | false =>
   refine⟨C[o],fun w hw=>?_⟩
   have:=a w hw 0 C[o] (by simp[p]);unfold Instr.loadAt;simp[A4,Instr.sureAddr,loadVar,cF n,Result.andThen,run_load,show w.cell? ⟨b,o,none⟩=some C[o]from by simpa using this]
def xA{b o:Nat}{T:TypeId}{fz:Nat×Nat}:∀ (vs:List Value) (i:Nat) (C:Array Value) (w w':World),w.heap[b]? = some (.cells C T fz)->o+i+vs.length<=C.size->(storeCells ⟨b,o,none⟩ vs i).run P w=.ok () w' ->
  (∀ k,k≠b->w'.heap[k]? = w.heap[k]?)/\∃ C',w'.heap[b]? = some (.cells C' T fz)/\C'.size=C.size
 | [],i,C,w,w',h,_,hr=>by cases hr;exact⟨fun _ _=>rfl,C,h,rfl⟩
 | v::r,i,C,w,w',h,hl,hr=>by
   simp only[E4]at hl;have f:o+i<C.size:=A2;have q:w.cell? ⟨b,o+i,none⟩=some C[o+i]:=by simp[World.cell?,h,f]
   have p:(w.setCell ⟨b,o+i,none⟩ v).heap[b]? = some (.cells (C.setIfInBounds (o+i) v) T fz):=by
    simp[World.setCell,G9,h]
   unfold storeCells at hr;simp only[A4,K4.add_none']at hr;have a:(store ⟨b,o+i,none⟩ v).run P w=.ok () (w.setCell ⟨b,o+i,none⟩ v)∨∃ x w2,(store ⟨b,o+i,none⟩ v).run P w=.halt x w2:=by
    unfold store;cases v<;>first
     | exact .inr ⟨_,_,rfl⟩
     | (simp only[Sem.run,q]
        split
        .exact .inr ⟨_,_,rfl⟩
        .exact .inl rfl)
   rcases a with a|⟨x,w2,a⟩
   .rw[a]at hr;simp only[Result.andThen]at hr;obtain⟨s,C',j,n⟩:=xA r (i+1) _ _ _ p (by simp;omega) hr;refine⟨fun k g=>?_,C',j,by rw[n];simp⟩;rw[s k g];simp only[World.setCell,G9];rw[A7 (fun e=>g e.symm)]
   .rw[a]at hr;cases hr
def EP{t:TypeId}{b o s:Nat}{C:V8}{T:TypeId}{y:Value}{w:World}(hs:H1 P t=some s)(hw:w.heap[b]? = some (.cells C T fz))(h1:o+s<=C.size)(hr:(Instr.storeAt t (.pointer (some ⟨b,o,none⟩)) y).run P w=.ok () w') :
  (∀ k,k≠b->w'.heap[k]? = w.heap[k]?)/\∃ C',w'.heap[b]? = some (.cells C' T fz)/\C'.size=C.size:=by
 unfold Instr.storeAt at hr;simp only[A4,Instr.sureAddr,storeVar,K8 hs,Result.andThen,Sem.run_pure]at hr;by_cases a:y.cells.size≠s
 .rw[A9 a]at hr;cases hr
 .rw[A7 a]at hr;have a:=Classical.not_not.1 a;exact xA y.cells.toList 0 C w w' hw (by rw[R4,a];omega) hr
structure MM (P:Program) (ops:List Oper) (s:Act×World):Prop where
 pl:∀ o ∈ ops,∀ t x,mJ o.op=some (t,x)->BH P s.2 t (s.1.eval x)
 ap:∀ i j a b,i<j->ops[i]? = some a->ops[j]? = some b->sI b i=false->(fV a.op || fV b.op)=true->∀ t x u y,mJ a.op=some (t,x)->mJ b.op=some (u,y)->∀ p q,s.1.eval x=.pointer (some p)->s.1.eval y=.pointer (some q)->p.block≠q.block
def yZ{b:Nat}:v8 l b=true↔b ∈ l:=by
 unfold v8;rw[P6];constructor
 .rintro⟨x,h,e⟩;have:=A0 e;subst this;exact h
 .intro h;exact⟨b,h,eA b⟩
def JP{a:List Tmp}:∀ {l:List Oper} {k i:Nat} {o:Oper},ZX a k l=true->l[i]? = some o->A7W a (k+i) o=true
 | [],k,i,o,_,h=>by simp at h
 | p::l,k,0,o,h,hi=>by
   simp at hi;subst hi;exact(B6 h).1
 | p::l,k,i+1,o,h,hi=>by
   have:=JP (l:=l) (k:=k+1) (i:=i) (o:=o) (B6 h).2 (by simpa using hi);rw[show k+(i+1)=k+1+i by omega];exact this
structure One (ops:List Oper) (i:Nat) (o:Oper):Prop where
 cls:GV o.op=true
 grd:o.guard=none
 ads:∀ p ∈ ops,∀ t x,mJ p.op=some (t,x)->∀ d,o.dst=some d->d ∉ pY x
 lt:∀ e ∈ o.after,Region.binds .any e=true->e.on<i
def nA{ops:List Oper}(h:lF ops=true){i:Nat}{o:Oper}(hi:ops[i]? = some o):One ops i o:=by
 have h1:=JP (B6 h).1 hi;rw[F4]at h1;unfold A7W at h1;obtain⟨b,h1⟩:=B6 h1;obtain⟨a2,h1⟩:=B6 h1;obtain⟨a3,a4⟩:=B6 h1;refine⟨b,?_,fun p hp t x hx d a hm=>?_,fun e he f=>?_⟩
 .cases j:o.guard with
  | none=>rfl
  | some g=>rw[j]at a2;cases a2
 .have:v8 (A2L ops) d=true:=yZ.2 (List.mem_flatMap.2 ⟨p,hp,by rw[hx];exact hm⟩);unfold CF at a3;rw[a]at a3;simp only at a3;rw[this]at a3;cases a3
 .have:=fL.1 a4 e he;rw[f]at this;exact A1 this
def IW{p:Oper->Oper->Bool}{ops:List Oper}(h:FD p ops=true){i j:Nat}{a b:Oper}(f:i<j)(hi:ops[i]? = some a)(g:ops[j]? = some b)(he:sI b i=false):p a b=true:=by
 unfold FD at h;have e:=(B0.1 g).1
 have:=D4.1 (D4.1 h j (W1.2 e)) i (W1.2 f);rw[hi,g]at this;simp only[he,Q0]at this;exact this
def JA{o:Oper}{a:Act}(b:∀ t,d=some t->t ∉ YW o.op)(f:GV o.op=true):nY o.op (a.put d v).eval=nY o.op a.eval:=by
 cases g:o.op<;>rw[g]at f b<;>first
  | cases f;done
  | skip
 .unfold nY;simp only;rw[iG b]
 .unfold nY;simp only;rw[iG b]
 .unfold nY;simp only;rw[iG b]
 .unfold nY;simp only;rw[iG (fun t e hm=>b t e (B7.2 (.inl hm))),iG (fun t e hm=>b t e (B7.2 (.inr hm)))]
def wE{o:Oper}{s:Act×World}(e:GV o.op=true)(a:fV o.op=false)(hp:∀ t x,mJ o.op=some (t,x)->BH P s.2 t (s.1.eval x))(h:(nY o.op s.1.eval).run P s.2=.ok v w'):w'=s.2:=by
 cases f:o.op<;>rw[f]at e a h hp<;>first
  | cases e;done
  | cases a;done
  | skip
 .cases h;rfl
 .cases h;rfl
 .rename_i t x;obtain⟨b,o',C,T,fz,sz,g,z,j,i,q,p,n⟩:=hp t x rfl;obtain⟨u,hu⟩:=CP (P:=P) (T:=T) (fz:=fz) i q p n;have h:(Instr.loadAt t (s.1.eval x)).run P s.2=.ok v w':=h;rw[z,hu s.2 j]at h;cases h;rfl
def wZ{o:Oper}{s:Act×World}(a:fV o.op=true)(hp:∀ t x,mJ o.op=some (t,x)->BH P s.2 t (s.1.eval x))(h:(nY o.op s.1.eval).run P s.2=.ok v w') :
  ∃ t x b o' C T fz,mJ o.op=some (t,x)/\s.1.eval x=.pointer (some ⟨b,o',none⟩)/\s.2.heap[b]? = some (.cells C T fz)/\(∀ k,k≠b->w'.heap[k]? = s.2.heap[k]?)/\∃ C',w'.heap[b]? = some (.cells C' T fz)/\C'.size=C.size:=by
 cases i:o.op<;>rw[i]at a h hp<;>first
  | cases a;done
  | skip
 rename_i t x y;obtain⟨b,o',C,T,fz,sz,g,f,e,n,B,p,A⟩:=hp t x rfl;have h:(do Instr.storeAt t (s.1.eval x) (s.1.eval y);pure undef:Sem Value).run P s.2=.ok v w':=h;simp only[A4]at h;cases hr:(Instr.storeAt t (s.1.eval x) (s.1.eval y)).run P s.2 with
 | ok u w2 =>
   rw[hr]at h;simp only[Result.andThen,Sem.run_pure]at h;cases h;rw[f]at hr;obtain⟨q,j⟩:=EP n e p hr;exact⟨t,x,b,o',C,T,fz,rfl,f,e,q,j⟩
 | halt z w2=>rw[hr]at h;cases h
def BH.keep{w:World}{t:TypeId}{p:Value}(h:BH P w t p)(a:∀ (b:Nat) (C:Array Value) (T:TypeId) (fz:Nat×Nat),w.heap[b]? = some (.cells C T fz)->∃ C',w'.heap[b]? = some (.cells C' T fz)/\C'.size=C.size):BH P w' t p:=by
 obtain⟨b,o,C,T,fz,s,g,j,f,e,i,u,q⟩:=h;obtain⟨C',h1,n⟩:=a b C T fz f;exact⟨b,o,C',T,fz,s,g,j,h1,e,i,A2,A2⟩
def MM.step{ops:List Oper}{s A:Act×World}{i:Nat}{o:Oper}(hr:lF ops=true)(D:MM P ops s)(hi:ops[i]? = some o)(h:tW P o s=some A):MM P ops A:=by
 obtain⟨v,h1,K⟩:=wN h;have H:=nA hr hi;have f:=C8 hi;have g:∀ p ∈ ops,∀ t x,mJ p.op=some (t,x)->A.1.eval x=s.1.eval x:=fun p hp t x hx=>by rw[K];exact iG (H.ads p hp t x hx)
 have M:∀ (b:Nat) (C:Array Value) (T:TypeId) (fz:Nat×Nat),s.2.heap[b]? = some (.cells C T fz)->∃ C',A.2.heap[b]? = some (.cells C' T fz)/\C'.size=C.size:=fun b C T fz B=>by
  cases n:fV o.op with
  | false=>rw[wE H.cls n (fun t x hx=>D.pl o f t x hx) h1];exact⟨C,B,rfl⟩
  | true =>
    obtain⟨t,x,b',o',Z,W,N,Y,X,O,S,C',R,Q⟩:=wZ n (fun t x hx=>D.pl o f t x hx) h1;by_cases e:b=b'
    .subst e;rw[O]at B;cases B;exact⟨C',R,Q⟩
    .exact⟨C,by rw[S b e];exact B,rfl⟩
 refine⟨fun p hp t x hx=>by rw[g p hp t x hx];exact(D.pl p hp t x hx).keep M,fun i j a b E h3 J L V t x u y I G p q F z=>?_⟩;rw[g a (C8 h3) t x I]at F;rw[g b (C8 J) u y G]at z;exact D.ap i j a b E h3 J L V t x u y I G p q F z
def A1h{ops:List Oper}{s s1 s2:Act×World}{i j:Nat}{a b:Oper}(hr:lF ops=true)(M:MM P ops s)(B:i<j)(hi:ops[i]? = some a)(K:ops[j]? = some b)(he:sI b i=false)(h1:tW P a s=some s1)(h2:tW P b s1=some s2):∃ t,tW P b s=some t/\tW P a t=some s2:=by
 have Q:=nA hr hi;have N:=nA hr K;have ma:=C8 hi;have mb:=C8 K;have f:=IW (B6 hr).2 B hi K he;unfold A9h at f;obtain⟨i1,f⟩:=B6 f;obtain⟨i2,f⟩:=B6 f;obtain⟨i3,i4⟩:=B6 f;have O:∀ t,a.dst=some t->t ∉ YW b.op:=fun t X hm=>by
  unfold CF at i2;rw[X]at i2;simp only at i2;rw[yZ.2 hm]at i2;cases i2
 have V:∀ t,b.dst=some t->t ∉ YW a.op:=fun t X hm=>by
  unfold CF at i3;rw[X]at i3;simp only at i3;rw[yZ.2 hm]at i3;cases i3
 have S:∀ x y,a.dst=some x->b.dst=some y->x≠y:=fun x y hx hy e=>by
  rw[hx,hy]at i1;simp only at i1;subst e;rw[eA]at i1;cases i1
 obtain⟨v,L,e2⟩:=wN h1;obtain⟨u,E,e4⟩:=wN h2;obtain⟨a1,w1⟩:=s1;obtain⟨a2,w2⟩:=s2;obtain⟨a0,w0⟩:=s;simp only at L e2 E e4;subst e2;subst e4;rw[JA O N.cls]at E;suffices hh:∃ w',(nY b.op a0.eval).run P w0=.ok u w'/\(nY a.op a0.eval).run P w'=.ok v w2 by
  obtain⟨w',q1,q2⟩:=hh;refine⟨(a0.put b.dst u,w'),nQ (s:=(a0,w0)) q1,?_⟩
  have:=nQ (P:=P) (o:=a) (s:=(a0.put b.dst u,w')) (v:=v) (w':=w2) (by show(nY a.op (a0.put b.dst u).eval).run P w'=_;rw[JA V Q.cls];exact q2);rw[this];simp only;rw[YZ S]
 have F:∀ t x,mJ a.op=some (t,x)->BH P w0 t (a0.eval x):=fun t x hx=>M.pl a ma t x hx
 have q:∀ t x,mJ b.op=some (t,x)->BH P w0 t (a0.eval x):=fun t x hx=>M.pl b mb t x hx
 have p:∀ {o:Oper} {w w':World} {r:Value},GV o.op=true->fV o.op=false->(∀ t x,mJ o.op=some (t,x)->∃ n A C T fz s g,a0.eval x=.pointer (some ⟨n,A,none⟩)/\w.heap[n]? = some (.cells C T fz)/\w'.heap[n]? = some (.cells C T fz)/\H1 P t=some s/\aR P t=some g/\A+s<=C.size/\A<C.size)->(nY o.op a0.eval).run P w=.ok r w->(nY o.op a0.eval).run P w'=.ok r w':=fun{o w w' r} hc I hp h=>by
  cases ho:o.op<;>rw[ho]at hc I h hp<;>first
   | cases hc;done
   | cases I;done
   | skip
  .cases h;rfl
  .cases h;rfl
  .rename_i t x;obtain⟨n,A,C,T,fz,sz,g,f1,f2,f3,f4,f5,f6,f7⟩:=hp t x rfl;obtain⟨z,hz⟩:=CP (P:=P) (T:=T) (fz:=fz) f4 f5 f6 f7;have h:(Instr.loadAt t (a0.eval x)).run P w=.ok r w:=h;show(Instr.loadAt t (a0.eval x)).run P w'=.ok r w';rw[f1,hz w f2]at h;rw[f1,hz w' f3];cases h;rfl
 cases H:fV a.op with
 | false =>
   have hw:w1=w0:=wE (s:=(a0,w0)) Q.cls H F L;subst hw;refine⟨w2,E,?_⟩;refine p Q.cls H (fun t x hx=>?_) L;obtain⟨n,A,C,T,fz,sz,g,f1,f2,f3,f4,f5,f6⟩:=F t x hx;cases D:fV b.op with
   | false =>
     have Z:w2=w1:=wE (s:=(a0,w1)) N.cls D q E;subst Z;exact⟨n,A,C,T,fz,sz,g,f1,f2,f2,f3,f4,f5,f6⟩
   | true =>
     obtain⟨Y,x',b',o',C0,T0,W,g1,g2,g3,g4,_⟩:=wZ (s:=(a0,w1)) D q E;have G:=M.ap i j a b B hi K he (by rw[H,D];rfl) t x Y x' hx g1 _ _ f1 g2;exact⟨n,A,C,T,fz,sz,g,f1,f2,(g4 n G).trans f2,f3,f4,f5,f6⟩
 | true =>
   have D:fV b.op=false:=by
    cases h:fV b.op with
    | false=>rfl
    | true=>rw[H,h]at i4;cases i4
   obtain⟨Y,x',b',o',C0,T0,W,g1,g2,g3,g4,C1,g5,g6⟩:=wZ (s:=(a0,w0)) H F L;have J:∀ t x,mJ b.op=some (t,x)->BH P w1 t (a0.eval x):=fun t x hx=>(q t x hx).keep fun b C T fz R=>by
    by_cases e:b=b'
    .subst e;rw[g3]at R;cases R;exact⟨C1,g5,g6⟩
    .exact⟨C,by rw[g4 b e];exact R,rfl⟩
   have hw:w2=w1:=wE (s:=(a0,w1)) N.cls D J E;subst hw;refine⟨w0,?_,L⟩;refine p N.cls D (fun t x hx=>?_) E;obtain⟨n,A,C,T,fz,sz,g,f1,f2,f3,f4,f5,f6⟩:=q t x hx;have G:=M.ap i j a b B hi K he (by rw[H,D];rfl) Y x' t x g1 hx _ _ g2 f1;exact⟨n,A,C,T,fz,sz,g,f1,(g4 n (fun e=>G e.symm)).trans f2,f2,f3,f4,f5,f6⟩
def EV(P:Program)(ops:List Oper):H4->Act×World->Option (Act×World)
 | [],s=>some s
 | i::l,s=>match ops[i]? with
   | some o=>match tW P o s with
     | some s=>EV P ops l s
     | none=>none
   | none=>EV P ops l s
def oN{ops:List Oper}(hr:lF ops=true){j:Nat}{b:Oper}(f:ops[j]? = some b){l2:H4}{r:Act×World}:∀ (l1:List Nat) (s:Act×World),MM P ops s->(∀ i ∈ l1,i<j/\sI b i=false)->EV P ops (l1++j::l2) s=some r->∃ s1,tW P b s=some s1/\EV P ops (l1++l2) s1=some r
 | [],s,hg,_,h=>by
   simp only[G5,EV,f]at h;split at h
   .rename_i s1 h1;exact⟨s1,h1,h⟩
   .cases h
 | i::l1,s,hg,hl,h=>by
   obtain⟨h0,he⟩:=hl i B4;have e:∀ i ∈ l1,i<j/\sI b i=false:=fun k g=>hl k (C4 _ g)
   simp only[S2,EV]at h ⊢;cases hi:ops[i]? with
   | none =>
     rw[hi]at h;exact oN hr f l1 s hg e h
   | some a =>
     rw[hi]at h;simp only at h ⊢;split at h
     .rename_i n h1;obtain⟨s1,p,o⟩:=oN hr f l1 n (hg.step hr hi h1) e h;obtain⟨t,t1,t2⟩:=A1h hr hg h0 hi f he h1 p;exact⟨t,t1,by rw[t2];exact o⟩
     .cases h
def kN(n:Nat)(listed:Array Bool):H4:=(List.range n).filter fun i=>!listed.getD i true
def qU{n:Nat}{i:Nat}:i ∈ kN n listed↔i<n/\listed.getD i true=false:=by
 unfold kN;rw[P1,W1];simp
def FA(n:Nat)(listed:Array Bool):(kN n listed).Pairwise (· < ·):=List.Pairwise.filter _ List.pairwise_lt_range
def YV{n:Nat}{i:Nat}{l1 l2:H4}(hi:i<listed.size)(h:kN n listed=l1++i::l2):kN n (listed.setIfInBounds i true)=l1++l2:=by
 have hp:=FA n listed;rw[h]at hp;have b:∀ k ∈ l1++l2,(k != i)=true:=fun k a=>by
  have hp:=List.pairwise_append.1 hp;rcases B7.1 a with a|a
  .have:=hp.2.2 k a i B4;simp;omega
  .have:=(List.pairwise_cons.1 hp.2.1).1 k a;simp;omega
 have e:kN n (listed.setIfInBounds i true)=(kN n listed).filter fun k=>k != i:=by
  unfold kN;rw[List.filter_filter];apply List.filter_congr;intro k _;simp only[B8,G1];by_cases e:i=k
  .subst e;simp[hi]
  .simp[e,Ne.symm e]
 rw[e,h,List.filter_append,List.filter_cons];have f:(i != i)=false:=by simp
 rw[f];simp only[J7,if_false];rw[dR.2 fun k a=>b k (B7.2 (.inl a)),dR.2 fun k a=>b k (B7.2 (.inr a))]
def CK{ops:Array Oper}(hr:lF ops.toList=true){Q:Exit->Act->World->Prop}:∀ (fuel:Nat) (listed:Array Bool) (a:Act) (w:World) (r:Act×World),listed.size=ops.size->MM P ops.toList (a,w)->(kN ops.size listed).length=fuel->EV P ops.toList (kN ops.size listed) (a,w)=some r->Q .normal r.1 r.2->iN P rd .any ops Q fuel listed a w
 | 0,listed,a,w,r,hsz,hg,hl,h,hq=>by
   have h0:=G0.1 hl;rw[h0]at h;cases h;refine⟨?_,hq⟩;rw[cB];intro i hi;have:i ∈ kN ops.size listed:=by
    unfold Region.ready at hi;rw[P1]at hi;unfold kN;rw[P1];exact⟨hi.1,(B6 hi.2).1⟩
   rw[h0]at this;cases this
 | fuel+1,listed,a,w,r,hsz,hg,hl,h,hq=>by
   have j:∀ {i:Nat},i<ops.size->∃ o,ops.toList[i]? = some o/\ops[i]? = some o:=fun{i} hi=>⟨ops[i],by simp[hi],by simp[hi]⟩
   refine⟨fun M=>?_,fun i hi=>?_⟩
   ·
    cases g:kN ops.size listed with
    | nil=>rw[g]at hl;cases hl
    | cons i t =>
      exfalso;have G:i ∈ kN ops.size listed:=by rw[g];exact B4
      obtain⟨i1,i2⟩:=qU.1 G;obtain⟨o,x,A⟩:=j i1;have z:=nA hr x;have f:=FA ops.size listed;rw[g]at f;have u:∀ k,k<i->listed.getD k false=true:=fun k D=>by
       have p:k<listed.size:=A2;cases hv:listed.getD k true with
       | true=>rw[<- hv];simp[B8,p]
       | false =>
         have:k ∈ kN ops.size listed:=qU.2 ⟨A2,hv⟩;rw[g]at this;rcases B5.1 this with e|hm
         .omega
         .have:=(List.pairwise_cons.1 f).1 k hm;omega
      have:i ∈ Region.ready .any ops listed:=by
       unfold Region.ready;rw[P1,W1];refine⟨i1,?_⟩;rw[i2,A];simp only[Bool.not_false,gT,L2,bY];rw[fL];intro e he;cases K:Region.binds .any e with
       | false=>rfl
       | true=>rw[u e.on (z.lt e he K)];rfl
      rw[M]at this;cases this
   .have hi':=hi;unfold Region.ready at hi;rw[P1,W1]at hi;obtain⟨i1,i2⟩:=hi;obtain⟨o,x,A⟩:=j i1;have z:=nA hr x;rw[A]at i2;obtain⟨i2,i3⟩:=B6 i2;simp only[L2,bY]at i3;have C:listed.getD i true=false:=by simpa using i2
    have s:i ∈ kN ops.size listed:=qU.2 ⟨i1,C⟩;obtain⟨l1,l2,b⟩:=List.append_of_mem s;have f:=FA ops.size listed;rw[b]at f;have E:∀ k ∈ l1,k<i/\sI o k=false:=fun k D=>by
     refine⟨(List.pairwise_append.1 f).2.2 k D i B4,?_⟩;cases he:sI o k with
     | false=>rfl
     | true =>
       exfalso;unfold sI at he;rw[Array.any_eq_true']at he;obtain⟨e,hm,he⟩:=he;obtain⟨L,B⟩:=B6 he;have B:=A0 B
       have:=(fL.1 i3) e hm;rw[L,B]at this;simp only[P9,Q0]at this;have p:=(qU (n:=ops.size) (listed:=listed) (i:=k)).1 (by rw[b];exact B7.2 (.inl D));have F:k<listed.size:=A2;have q:=p.2;simp[B8,F]at this q;rw[this]at q;cases q
    rw[b]at h;obtain⟨s1,H,J⟩:=oN hr x l1 (a,w) hg E h;have X8:=YV (n:=ops.size) (listed:=listed) (i:=i) (l1:=l1) (l2:=l2) A2 b;obtain⟨I,w1⟩:=s1;unfold gW;rw[A];simp only;have hw:Region.wanted o (yielded ops a.tmps)=true:=by unfold Region.wanted;rw[z.grd]
    rw[A9 hw];refine A2b z.cls H (CK hr fuel (listed.setIfInBounds i true) I w1 r (by simpa using hsz) (hg.step hr x H) ?_ (by rw[X8];exact J) hq);rw[X8];have:(l1++i::l2).length=fuel+1:=by rw[<- b];exact hl
    simp at this ⊢;omega
def BZ{ops:Array Oper}(hr:lF ops.toList=true){Q:Exit->Act->World->Prop}:∀ (d k:Nat) (a:Act) (w:World),k+d=ops.size->wpL P rd ops (fun e a' w'=>e=.normal/\Q e a' w') (ops.toList.drop k) a w->∃ r,EV P ops.toList (List.range' k d) (a,w)=some r/\Q .normal r.1 r.2
 | 0,k,a,w,hk,h=>by
   have:ops.toList.drop k=[]:=R8 (by simp;omega);rw[this]at h;exact⟨(a,w),rfl,h.2⟩
 | d+1,k,a,w,hk,h=>by
   have b:k<ops.toList.length:=by simp;omega
   rw[g8 b]at h;have f:=nA hr (A5 b);unfold wpL at h;have hw:Region.wanted ops.toList[k] (yielded ops a.tmps)=true:=by unfold Region.wanted;rw[f.grd]
   rw[A9 hw]at h;obtain⟨a',w',h1,g⟩:=A3y f.cls (fun c a w hh=>by cases hh.1) h;obtain⟨r,r1,i⟩:=BZ hr d (k+1) a' w' A2 g;refine⟨r,?_,i⟩;rw[List.range'_succ];simp only[EV,A5 b,h1];exact r1
def A20{ops:Array Oper}(hr:lF ops.toList=true){Q:Exit->Act->World->Prop}{a:Act}{w:World}(b:∀ w',w'.heap=w.heap->MM P ops.toList (a,w'))(h:∀ d,wpL P rd ops (fun e a' w'=>e=.normal/\Q e a' w') ops.toList a { w with drawn:=d })(d:Nat):iN P rd .any ops Q ops.size (Array.replicate ops.size false) a { w with drawn:=d }:=by
 obtain⟨r,r1,f⟩:=BZ hr ops.size 0 a { w with drawn:=d } A2 (by simpa using h d);have e:kN ops.size (Array.replicate ops.size false)=List.range' 0 ops.size:=by
  unfold kN;rw[List.range_eq_range',dR];intro i hi;have:i<ops.size:=by have:=List.mem_range'.1 hi;omega
  simp[B8,this]
 exact CK hr ops.size _ a _ r (by simp) (b _ rfl) (by rw[e];simp) (by rw[e];exact r1) f
end
end
end Go.Sx
