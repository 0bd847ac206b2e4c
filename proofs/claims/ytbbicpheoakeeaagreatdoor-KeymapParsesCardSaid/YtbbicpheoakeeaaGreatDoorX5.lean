import Derived.Test.YtbbicpheoakeeaaGreatDoorX4
import Derived.MapKept
import Derived.WideKeyRuns
import Derived.Lib.Builder
import Derived.LoopNIn
import Derived.RangeFuncRecord
set_option linter.all false
set_option maxRecDepth 100000
set_option maxHeartbeats 4000000
namespace Go.Sx
variable {ks l ts:H9}{k' v v' x':Value}{cs:List Frame}{clock k pi:Nat}{y:MTy}{d:Option Tmp}{kt pt ty:TypeId}{r us vs:List U}{rows rs:List (List U)}{es es':Array MapEntry}{hs xs:D3}{c:Code}{e':MapEntry}{tys:List TypeId}{w':World}{fz:Nat×Nat}{listed:Array Bool}
section
open Go
variable [Ora]
section
variable {P:Program} {base:Nat} {ρ:Ren} {m m':Mem} {w:World}
def uU:∀ {ts:H9} {cs cs':D3},AY ts cs=true->(∀ t ∈ ts,t<10)->LR ρ cs cs'->(cs.map (D9 Ora.env)).map G4=ts/\cs'=(cs.map (D9 Ora.env)).map T4
 | [],[],cs',_,_,hl=>by cases hl.nil_inv;exact⟨rfl,rfl⟩
 | t::ts,v::vs,cs',h,ht,hl=>by
   obtain⟨h1,f⟩:=B8 (show(Nat.beq (G8 v) t && AY ts vs)=true from h);have h1:=A0 h1;obtain⟨v',r,rfl,g1,g2⟩:=hl.tail;obtain⟨a,b⟩:=uU f (fun x hx=>ht x (C4 _ hx)) g2;obtain⟨c,d⟩:=aV g1 (by rw[h1];exact ht t B4);have e:T4 (D9 Ora.env v)=v':=by unfold T4;rw[c];rfl
   exact⟨by rw[C5,C5,a,d,h1],by rw[C5,C5,e,<- b]⟩
 | [],_::_,_,h,_,_=>by cases h
 | _::_,[],_,h,_,_=>by cases h
def jZ{a:Bool}{cs:D3}(h:oK a ts v=some cs)(f:∀ t ∈ ts,t<10)(hv:VR ρ v v'):v'=Y5 a (cs.map (D9 Ora.env))/\(cs.map (D9 Ora.env)).map G4=ts:=by
 unfold oK at h;split at h
 .rename_i c;obtain⟨h1,h⟩:=A3 h;cases h;obtain⟨cs',rfl,g⟩:=W7 hv;obtain⟨b,e⟩:=uU h1 f g;exact⟨by rw[e];rfl,b⟩
 .cases h
 .obtain⟨h1,h⟩:=A3 h;cases h;obtain⟨b,e⟩:=uU h1 f (LR.cons hv LR.nil);refine⟨?_,b⟩
  have:=E1 List.head? e
  simpa [Y5]using this
def yY{t:Nat}(h:gJ P t=some k):k<10:=by
 unfold gJ at h;split at h
 .cases h;decide
 .cases h;have:=M4 ‹_›;omega
 .cases h;decide
 .cases h
def MR:∀ {g:List Field} {i:Nat} {l:H9},wD P g i=some l->∀ t ∈ l,t<10
 | [],i,l,h,t,e=>by cases h;cases e
 | f::g,i,l,h,t,e=>by
   unfold wD at h;split at h
   .rename_i a b h1 j;obtain⟨_,h⟩:=A3 h;cases h;rcases B3.1 e with rfl|e
    .exact yY h1
    .exact MR j t e
   .cases h
def GY{T:TypeId}(h:XH P T=some y):P.underlying T=some (.map y.kt y.vt)/\oZ P y.kt=some (y.ka,y.ks)/\RX P y.vt=some (y.va,y.vs)/\0<y.ks.length/\(∀ t ∈ y.ks,t<10)/\(∀ t ∈ y.vs,t<10)/\(y.va=false->y.vs.length=1):=by
 unfold XH at h;split at h
 .rename_i kt vt hu;split at h
  .rename_i ka k ks va vs h1 a;cases h;refine⟨hu,h1,a,Nat.succ_pos _,?_,?_,?_⟩
   .intro t e;unfold oZ at h1;split at h1
    .cases hs:P.stoodInHeld kt with
     | true=>rw[hs]at h1;cases h1
     | false =>
       rw[hs]at h1;simp only[E0]at h1;split at h1
       .rename_i l f;cases h1;exact MR f t e
       .cases h1
    .split at h1
     .rename_i z g;cases h1;simp only[B3,K5,or_false]at e;subst e;exact yY g
     .cases h1
   .intro t e;unfold RX at a;split at a
    .obtain⟨h3,a⟩:=A3 a;cases a;exact A1 (D5.1 h3 t e)
    .obtain⟨h3,a⟩:=A3 a;cases a;simp only[B3,K5,or_false]at e;subst e;exact A1 h3
    .cases a
   .intro b;have b:va=false:=b;subst b;unfold RX at a;split at a
    .obtain⟨_,a⟩:=A3 a;cases a
    .obtain⟨_,a⟩:=A3 a;cases a;rfl
    .cases a
  .cases h
 .cases h
def SH{t:TypeId}{u v:U}(h:gJ P t=some k)(h1:G4 u=k)(f:G4 v=k)(n:Nat)(w:World):(Op.equalIn (n+1) t (T4 u) (T4 v)).run P w=.ok (isU u v) w:=by
 have o:=yY h;unfold gJ at h;split at h
 .rename_i hu;cases h;cases u<;>simp only[G4]at h1<;>first|omega|skip
  .have:=M4 ‹_›;omega
  .cases v<;>simp only[G4]at f<;>first|omega|skip
   .have:=M4 ‹_›;omega
   .simp[T4,toV,isU,eqU,Op.equalIn,A4,D2 hu,Result.andThen]
 .rename_i j hu;cases h;cases u with
  | int a x =>
    cases v with
    | int b z =>
      have i:=sJ h1;have g:=sJ f;subst i;subst g;simp[T4,toV,isU,eqU,Op.equalIn,A4,D2 hu,Result.andThen]
    | bool b=>simp only[G4]at f;have:=M4 j;omega
    | str s=>simp only[G4]at f;have:=M4 j;omega
    | seq _ _ _=>simp only[G4]at f;omega
    | none=>simp only[G4]at f;omega
  | bool b=>simp only[G4]at h1;have:=M4 j;omega
  | str s=>simp only[G4]at h1;have:=M4 j;omega
  | seq _ _ _=>simp only[G4]at h1;omega
  | none=>simp only[G4]at h1;omega
 .rename_i hu;cases h;cases u<;>simp only[G4]at h1<;>first|omega|skip
  .have:=M4 ‹_›;omega
  .cases v<;>simp only[G4]at f<;>first|omega|skip
   .have:=M4 ‹_›;omega
   .rename_i p q
    have:=run_equalIn_string (P:=P) w n t ⟨⟨p⟩⟩ ⟨⟨q⟩⟩ hu;have e:∀ s:List UInt8,T4 (.str s)=.string ⟨⟨s⟩⟩:=fun _=>rfl
    rw[e,e,this];simp[isU,eqU,ByteArray.toList_eq]
 .cases h
def ZW{t:TypeId}{d:TypeDesc}{u v:U}(g:P.underlying t=some d)(h:gJ P t=some k)(h1:G4 u=k)(f:G4 v=k):Instr.sameNow d (T4 u) (T4 v)=some (isU u v):=by
 unfold gJ at h;split at h
 .rename_i hu;rw[hu]at g;cases g;cases h;cases u<;>simp only[G4]at h1<;>first|omega|skip
  .have:=M4 ‹_›;omega
  .cases v<;>simp only[G4]at f<;>first|omega|skip
   .have:=M4 ‹_›;omega
   .simp[T4,toV,isU,eqU,Instr.sameNow]
 .rename_i j hu;rw[hu]at g;cases g;cases h;cases u with
  | int a x =>
    cases v with
    | int b z =>
      have n:=sJ h1;have i:=sJ f;subst n;subst i;simp[T4,toV,isU,eqU,Instr.sameNow]
    | bool b=>simp only[G4]at f;have:=M4 j;omega
    | str s=>simp only[G4]at f;have:=M4 j;omega
    | seq _ _ _=>simp only[G4]at f;have:=M4 j;omega
    | none=>simp only[G4]at f;have:=M4 j;omega
  | bool b=>simp only[G4]at h1;have:=M4 j;omega
  | str s=>simp only[G4]at h1;have:=M4 j;omega
  | seq _ _ _=>simp only[G4]at h1;have:=M4 j;omega
  | none=>simp only[G4]at h1;have:=M4 j;omega
 .rename_i hu;rw[hu]at g;cases g;cases h;cases u<;>simp only[G4]at h1<;>first|omega|skip
  .have:=M4 ‹_›;omega
  .cases v<;>simp only[G4]at f<;>first|omega|skip
   .have:=M4 ‹_›;omega
   .rename_i p q;have e:(ByteArray.mk ⟨p⟩ == ByteArray.mk ⟨q⟩)=(p == q):=by
     show(Array.mk p == Array.mk q)=_;rw[K6,beq_iff_eq,beq_iff_eq];exact⟨fun h=>by injection h,fun h=>by rw[h]⟩
    simp[T4,toV,isU,eqU,Instr.sameNow,e]
 .cases h
def tZ{t:TypeId}(h:gJ P t=some k){X:D3}{i:Nat}(hx:X[i]? = some v)(w:World):(part t ⟨X⟩ i).run P w=.ok v w:=by
 have a:∀ d,P.underlying t=some d->(match d with|.struct _|.array _ _=>False|_=>True)->(part t ⟨X⟩ i).run P w=.ok v w:=fun d e b=>by
  cases d<;>simp only at b<;>simp[part,isAgg,A4,D2 e,Result.andThen,hx]
 unfold gJ at h;split at h
 .exact a _ ‹_› trivial
 .exact a _ ‹_› trivial
 .exact a _ ‹_› trivial
 .cases h
def EU:∀ {g:List Field} {i:Nat} {ks:H9} {us vs:List U} {p q:D3},wD P g i=some ks->us.map G4=ks->vs.map G4=ks->p.length=i->q.length=i->∀ (n:Nat) (w:World),(Op.eqFields (n+1) ⟨p++us.map T4⟩ ⟨q++vs.map T4⟩ g).run P w=.ok (U4 us vs) w
 | [],i,ks,us,vs,p,q,h,h1,h2,hp,hq,n,w=>by
   cases h;have e:us=[]:=by simpa using h1
   have b:vs=[]:=by simpa using h2
   subst e;subst b;simp[Op.eqFields,U4]
 | f::g,i,ks,us,vs,p,q,h,h1,h2,hp,hq,n,w=>by
   unfold wD at h;split at h
   .rename_i t l j z;obtain⟨B,h⟩:=A3 h;cases h;obtain⟨o,a⟩:=B8 B;have a:=A0 a;have A:f.name ≠ "_":=by simpa using o
    cases us with
    | nil=>cases h1
    | cons u us =>
      cases vs with
      | nil=>cases h2
      | cons v vs =>
        simp only[C5,K0]at h1 h2;have g1:(p++(u::us).map T4)[f.offset]? = some (T4 u):=by rw[a,<- hp,E4 (A7 _)];simp
        have g2:(q++(v::vs).map T4)[f.offset]? = some (T4 v):=by rw[a,<- hq,E4 (A7 _)];simp
        have e:=tZ j g1 w;have b:=tZ j g2 w;have x:=SH j h1.1 h2.1 n w;have s:=EU (p:=p++[T4 u]) (q:=q++[T4 v]) z h1.2 h2.2 (by simp[hp]) (by simp[hq]) n w;rw[M0,M0]at s;unfold Op.eqFields;rw[A8 A];simp only[U4];cases hs:isU u v with
        | false =>
          simp only[A4,e,b,x,hs,Result.andThen_ok];simp
        | true =>
          simp only[A4,e,b,x,hs,Result.andThen_ok,iA];exact s
   .cases h
def A9y{a:Bool}(h:oZ P kt=some (a,ks))(h1:us.map G4=ks)(b:vs.map G4=ks)(w:World):(Op.equal kt (Y5 a us) (Y5 a vs)).run P w=.ok (U4 us vs) w:=by
 unfold oZ at h;split at h
 .rename_i g hu;cases hs:P.stoodInHeld kt with
  | true=>rw[hs]at h;cases h
  | false =>
    rw[hs]at h;simp only[E0]at h;split at h
    .rename_i l f;cases h;have e:P.fieldsOf kt=g:=by simp[Program.fieldsOf,hu]
     show(Op.equalIn (9999+1) kt (.agg _) (.agg _)).run P w=_;rw[run_equalIn_struct (P:=P) w 9999 kt _ _ (by rw[e];exact hu) hs,e];exact EU (p:=[]) (q:=[]) f h1 b rfl rfl 9998 w
    .cases h
 .split at h
  .rename_i k i;cases h;cases us with
   | nil=>cases h1
   | cons u us=>cases us with
     | cons _ _=>simp at h1
     | nil=>cases vs with
       | nil=>cases b
       | cons v vs=>cases vs with
         | cons _ _=>simp at b
         | nil =>
           simp only[C5,G1,K0,and_true]at h1 b
           have:=SH i h1 b 9999 w;show(Op.equalIn (9999+1) kt (T4 u) (T4 v)).run P w=_;rw[this];simp[U4]
  .cases h
def BI{t:TypeId}(h:gJ P t=some k)(e:Bool)(n:Nat)(v:Value)(w:World):(Instr.checkKey e (n+1) t v).run P w=.ok () w:=by
 unfold gJ at h;split at h
 .rename_i hu;simp[Instr.checkKey,A4,D2 hu,Result.andThen]
 .rename_i hu;simp[Instr.checkKey,A4,D2 hu,Result.andThen]
 .rename_i hu;simp[Instr.checkKey,A4,D2 hu,Result.andThen]
 .cases h
def tK(e:Bool)(n:Nat)(w:World):∀ (L:List Field) (i:Nat) (ks:List Nat) (us:List U) (p:List Value),wD P L i=some ks->us.map G4=ks->p.length=i ->
  (forIn L PUnit.unit fun f (_:PUnit)=>if f.name ≠ "_" then(do let x <- part f.type ⟨p++us.map T4⟩ f.offset;Instr.checkKey e (n+1) f.type x;pure (ForInStep.yield PUnit.unit):Sem (ForInStep PUnit))else pure (ForInStep.yield PUnit.unit)).run P w=.ok PUnit.unit w
 | [],i,ks,us,p,h,h1,hp=>by simp
 | f::fs,i,ks,us,p,h,h1,hp=>by
   unfold wD at h;split at h
   .rename_i t l j o;obtain⟨A,h⟩:=A3 h;cases h;obtain⟨b,a⟩:=B8 A;have a:=A0 a;have s:f.name ≠ "_":=by simpa using b
    cases us with
    | nil=>cases h1
    | cons u us =>
      simp only[C5,K0]at h1;have g1:(p++(u::us).map T4)[f.offset]? = some (T4 u):=by rw[a,<- hp,E4 (A7 _)];simp
      have z:=tZ j g1 w;have q:=BI j e n (T4 u) w;have g:=tK e n w fs (i+1) l us (p++[T4 u]) o h1.2 (by simp[hp]);rw[M0]at g;rw[List.forIn_cons];simp only[A8 s,A4,z,q,Result.andThen_ok,Sem.run_pure];exact g
   .cases h
def FC{a:Bool}(h:oZ P kt=some (a,ks))(h1:us.map G4=ks)(e:Bool)(w:World):(Instr.checkKey e 10000 kt (Y5 a us)).run P w=.ok () w:=by
 unfold oZ at h;split at h
 .rename_i f hu;cases hs:P.stoodInHeld kt with
  | true=>rw[hs]at h;cases h
  | false =>
    rw[hs]at h;simp only[E0]at h;split at h
    .rename_i l b;have h:=h;cases h;have key:∀ n:Nat,(Instr.checkKey e (n+2) kt (.agg ⟨us.map T4⟩)).run P w=.ok () w:=fun n=>by
      rw[Instr.checkKey];simp only[A4,D2 hu,Result.andThen_ok];rw[<- Array.forIn_toList]
      have:=tK e n w f.toList 0 _ us [] b h1 rfl;rw[G7]at this;rw[this];rfl
     exact key 9998
    .cases h
 .split at h
  .rename_i k g;cases h;exact BI g e 9999 _ w
  .cases h
def oQ(k:List U):List (List U)->Nat->Option (Nat×List U)
 | [],_=>none
 | r::rs,i=>if U4 k r then some (i,r)else oQ k rs (i+1)
def uH:∀ (us r:List U),U4 us (r.take us.length)=U4 us r
 | [],r=>rfl
 | a::us,[]=>rfl
 | a::us,b::r=>by
   show(isU a b && U4 us (r.take us.length))=(isU a b && U4 us r);rw[uH us r]
def xE.head{e:MapEntry}{es:List MapEntry}(h:xE y (r::rs) (e::es)):(r.map G4=y.ks++y.vs/\e.key=Y5 y.ka (r.take y.ks.length)/\e.val=Y5 y.va (r.drop y.ks.length))/\xE y rs es :=
 ⟨h.2 0 r e rfl rfl,by have:=h.1;simpa using this,fun i row b h1 a=>h.2 (i+1) row b (by simpa using h1) (by simpa using a)⟩
def DC(h:r.map G4=y.ks++y.vs):(r.take y.ks.length).map G4=y.ks/\(r.drop y.ks.length).map G4=y.vs:=by
 constructor
 .rw[List.map_take,h,t7];rfl
 .rw[List.map_drop,h,lC];rfl
abbrev CR(y:MTy)(us:List U)(rows:List (List U))(i:Nat):Option (Nat×Value):=(oQ us rows i).map fun p=>(p.1,Y5 y.va (p.2.drop y.ks.length))
def FP{y:MTy}(f:oZ P y.kt=some (y.ka,y.ks)){us:List U}(h1:us.map G4=y.ks):∀ {rows:List (List U)} {es:List MapEntry} (i:Nat),xE y rows es->(Instr.findAsking y.kt (Y5 y.ka us) es i).run P w=.ok (CR y us rows i) w
 | [],[],i,_=>by simp[Instr.findAsking,CR,oQ]
 | [],_::_,i,h=>by have:=h.1;simp at this
 | _::_,[],i,h=>by have:=h.1;simp at this
 | r::rs,e::es,i,h=>by
   obtain⟨⟨a,b,c⟩,d⟩:=h.head;obtain⟨t1,t2⟩:=DC a;have hlen:us.length=y.ks.length:=by rw[<- h1,E7]
   have g:=A9y (P:=P) f h1 t1 w;have j:U4 us (r.take y.ks.length)=U4 us r:=by rw[<- hlen];exact uH us r
   have n:=FP f h1 (i+1) d;unfold Instr.findAsking;rw[b];simp only[A4,g,j,Result.andThen_ok,CR,oQ];cases o:U4 us r with
   | true=>simp[c]
   | false=>simp only[K1,if_false];exact n
def A1c{y:MTy}{k:Nat}{d:TypeDesc}(n:P.underlying y.kt=some d)(hs:gJ P y.kt=some k)(j:y.ka=false)(f:y.ks=[k]){u:U}(h1:G4 u=k):∀ {rows:List (List U)} {es:List MapEntry} (i:Nat),xE y rows es->Instr.findNow d (T4 u) es i=some (CR y [u] rows i)
 | [],[],i,_=>rfl
 | [],_::_,i,h=>by have:=h.1;simp at this
 | _::_,[],i,h=>by have:=h.1;simp at this
 | r::rs,e::es,i,h=>by
   obtain⟨⟨a,b,c⟩,q⟩:=h.head;cases r with
   | nil=>rw[f]at a;simp at a
   | cons g r =>
     have a0:G4 g=k:=by rw[f]at a;simp at a;exact a.1
     have b:e.key=T4 g:=by rw[b,j,f];rfl
     have p:=ZW n hs h1 a0;have o:=A1c n hs j f h1 (i+1) q;unfold Instr.findNow;rw[b,p];simp only[CR,oQ,U4,pD];cases s:isU u g with
     | true=>simp[c]
     | false=>simp only[K1,if_false];exact o
def AS(a:oZ P y.kt=some (y.ka,y.ks))(h1:us.map G4=y.ks){es:List MapEntry}(h:xE y rows es):(Instr.findKey y.kt (Y5 y.ka us) es).run P w=.ok (CR y us rows 0) w:=by
 have f:=a;unfold oZ at a;split at a
 .rename_i i hu;rw[run_findKey_eq w (by rw[hu]) (Y5 y.ka us) es];exact FP f h1 0 h
 .split at a
  .rename_i k hs;have g:y.ka=false:=(E1 Prod.fst (A9 a)).symm;have b:y.ks=[k]:=(E1 Prod.snd (A9 a)).symm;rw[b]at h1;cases us with
   | nil=>simp at h1
   | cons u us=>cases us with
     | cons _ _=>simp at h1
     | nil =>
       simp only[C5,G1,K0,and_true]at h1;obtain⟨d,e⟩:∃ d,P.underlying y.kt=some d:=by
        cases e:P.underlying y.kt with
        | some d=>exact⟨d,rfl⟩
        | none=>unfold gJ at hs;rw[e]at hs;cases hs
       rw[g];exact MapKept.run_findKey e (A1c e hs g b h1 0 h)
  .cases a
def ML{k:List U}:∀ (rows:List (List U)) (i:Nat),(oQ k rows i).isSome=rows.any (U4 k)
 | [],_=>rfl
 | r::rs,i=>by
   simp only[oQ,Q8];cases U4 k r with
   | true=>rfl
   | false=>simp only[K1,if_false,R0];exact ML rs (i+1)
def EM{k:List U}:∀ (rows:List (List U)) (i:Nat),(oQ k rows i).map (·.2)=rows.find? (U4 k)
 | [],_=>rfl
 | r::rs,i=>by
   simp only[oQ,dU];cases U4 k r with
   | true=>rfl
   | false=>simp only[K1,if_false];exact EM rs (i+1)
def sQ{k:List U}:∀ {rows:List (List U)} {i j:Nat} {r:List U},oQ k rows i=some (j,r)->i<=j/\rows[j-i]? = some r/\U4 k r=true
 | [],_,_,_,h=>by cases h
 | x::rs,i,j,r,h=>by
   unfold oQ at h;cases e:U4 k x with
   | true=>rw[e]at h;cases h;exact⟨A7 _,by simp,e⟩
   | false =>
     rw[e]at h;obtain⟨a,b,c⟩:=sQ (rows:=rs) h;exact⟨A2,by rw[show j-i=(j-(i+1))+1 by omega];exact b,c⟩
def LA{kw:Nat}{c:List U}:∀ (rows:List (List U)) (i:Nat),LB kw c rows=match oQ (c.take kw) rows i with
  | some p=>rows.set (p.1-i) c
  | none=>rows++[c]
 | [],_=>rfl
 | r::rs,i=>by
   unfold LB oQ;cases b:U4 (c.take kw) r with
   | true=>simp
   | false =>
     simp only[K1,if_false];rw[LA rs (i+1)];cases hx:oQ (c.take kw) rs (i+1)with
     | none=>rfl
     | some p =>
       obtain⟨a,_⟩:=sQ (r:=p.2) (j:=p.1) hx;show r::rs.set (p.1-(i+1)) c=(r::rs).set (p.1-i) c;rw[show p.1-i=(p.1-(i+1))+1 by omega];rfl
def HK{b:Nat}(h:VR ρ (.map (some b)) v'):∃ l,ρ b=some l/\v'=.map (some l.blk):=by
 cases h with
 | pure hp=>simp[J0]at hp
 | map h=>exact⟨_,h,rfl⟩
def A4z{T:TypeId}(h:HR P base ρ m.H w)(s:base<=w.heap.size)(a:A1p P m T=some (v,m'))(o:K7 ρ m.n m'.hi)(t:Sat m'.lg):VOk P base ρ m w (Instr.makeMap T none) v m':=by
 unfold A1p at a;split at a
 .rename_i y j;rw[O4]at a;have f:=bB a;have x:=kW (lg:=m'.lg) t (by rw[f];exact .refl _);obtain⟨u,z,q,wd,rows,A⟩:=x;have g:Ora.env m.lg.nx=.seq false y.w []:=by
   have hw:0<y.w:=by have:=(GY j).2.2.2.1;unfold MTy.w;omega
   rw[u];show(if y.w=0 then U.none else match l7 y.w (0 / y.w) []with
    | some r=>U.seq false y.w r
    | none=>.none)=_
   rw[A6 A2,Nat.zero_div];rfl
  have b:=St.wLg h (fZ m (10+y.w) (.mk y.w) []);obtain⟨h1,p,h3⟩:=St.alloc (w':={ w with heap:=w.heap.push (.map #[] 0) }) (l:=lc w.heap.size 0 0) b.hr s a (by rw[YR];exact o) ⟨rfl,rfl,rfl⟩ rfl rfl
   ⟨⟨rfl,rfl⟩,y,#[],0,[],j,rfl,by simp,g,⟨rfl,fun i row e hr=>by simp at hr⟩,nG,fun e he=>by cases he⟩
  refine⟨.map (some w.heap.size),_,_,?_,?_,St.trans o b h3⟩
  .simp[Instr.makeMap,newObj,Sem.run,A4,Result.andThen]
  .rw[h1];exact .map p
 .cases a
def iQ{t:Nat}{op:LOp}(h:U6 m t op xs=some (v,m'))(g:Sat m'.lg):t<10/\G4 (evU op (xs.map (D9 Ora.env)))=t/\VR ρ v (T4 (evU op (xs.map (D9 Ora.env)))):=by
 obtain⟨u,a,b,r,e,f,i⟩:=N0 h g;subst a;refine⟨i,b,?_⟩;have:T4 (evU op (xs.map (D9 Ora.env)))=r:=by unfold T4;rw[e];rfl
 rw[this];exact f ρ
def EP{wd kw c t:Nat}{b:D3}{o:Bool}{rows:List (List U)}(u:Ora.env c=.seq o wd rows)(s:b.length=kw):∀ {ts:H9} {f:D3} {j:Nat} {m m':Mem} {hs:D3},uQ wd kw c t b ts f j m=some (hs,m')->Sat m'.lg ->
  K3 m m'/\m.lg.le m'.lg/\hs.length=ts.length/\f.length=ts.length /\
  (∀ r,rows.find? (U4 (b.map (D9 Ora.env)))=some r->∀ i:Nat,i<ts.length->∃ v,hs[i]? = some v/\VR ρ v (T4 (r.getD (j+i) .none))) /\
  (rows.find? (U4 (b.map (D9 Ora.env)))=none->∀ i:Nat,i<ts.length->∃ v z,hs[i]? = some v/\f[i]? = some z/\VR ρ v (T4 (D9 Ora.env z)))
 | [],[],j,m,m',hs,h,hS=>by
   cases h;exact⟨.refl _,.refl _,rfl,rfl,fun r _ i hi=>(by simp at hi),fun _ i hi=>(by simp at hi)⟩
 | [],_::_,j,m,m',hs,h,hS=>by cases h
 | _::_,[],j,m,m',hs,h,hS=>by cases h
 | tg::ts,z::f,j,m,m',hs,h,hS=>by
   unfold uQ at h;split at h
   .rename_i v m1 hv;split at h
    .rename_i r m2 hr;cases h;obtain⟨B,a2,a3,a4,a5,A⟩:=EP u s hr hS;have n:Sat m1.lg:=hS.le a2;obtain⟨_,_,a⟩:=iQ (ρ:=ρ) hv n;have q:evU (.mget wd kw j) ((hole c t::z::b).map (D9 Ora.env))=(match rows.find? (U4 (b.map (D9 Ora.env)))with
       | some r=>r.getD j .none
       | none=>D9 Ora.env z):=by
      show evU (.mget wd kw j) (Ora.env c::D9 Ora.env z::b.map (D9 Ora.env))=_;rw[u];show(if wd=wd/\(b.map (D9 Ora.env)).length=kw then _ else U.none)=_;rw[A8 ⟨rfl,by rw[E7];exact s⟩];cases rows.find? (U4 (b.map (D9 Ora.env)))<;>rfl
     rw[q]at a;refine⟨(I1 hv).trans B,(I5 hv).trans a2,by simp[a3],by simp[a4],fun D e i hi=>?_,fun e i hi=>?_⟩
     .cases i with
      | zero=>rw[e]at a;exact⟨v,rfl,a⟩
      | succ i =>
        obtain⟨x,p,g⟩:=a5 D e i (by simpa using hi);exact⟨x,by simpa using p,by rw[show j+(i+1)=j+1+i by omega];exact g⟩
     .cases i with
      | zero=>rw[e]at a;exact⟨v,z,rfl,rfl,a⟩
      | succ i =>
        obtain⟨x,C,p,g,E⟩:=A e i (by simpa using hi);exact⟨x,C,by simpa using p,by simpa using g,E⟩
    .cases h
   .cases h
def A8y{vs:D3}(j:hs.length=vs.length)(h:∀ i:Nat,i<vs.length->∃ v v',hs[i]? = some v/\vs[i]? = some v'/\VR ρ v v'):LR ρ hs vs:=⟨j,fun i v v' h1 f=>by
 obtain⟨a,b,e,g,n⟩:=h i (B1.1 f).1;rw[h1]at e;rw[f]at g;cases e;cases g;exact n⟩
def A3o{a:Bool}(h:A3p a hs=some v)(b:LR ρ hs (us.map T4)):VR ρ v (Y5 a us):=by
 unfold A3p at h;split at h
 .cases h;exact .agg b.1 b.2
 .cases h;cases us with
  | nil=>have:=b.1;simp at this
  | cons u us =>
    obtain⟨v',r,e,g,_⟩:=b.tail;rw[C5,K0]at e;rw[<- e.1]at g;exact g
 .cases h
def XJ{T:TypeId}{x k:Value}{ok:Bool}(h:HR P base ρ m.H w)(o:zX P m T x k ok=some (v,m'))(hx:VR ρ x x')(hk:VR ρ k k')(X:Sat m'.lg):VOk P base ρ m w (Instr.lookup T x' k' ok) v m':=by
 unfold zX at o;split at o
 .rename_i r y hy;obtain⟨hu,C,aq,ar,O,S,av⟩:=GY hy;obtain⟨l,hl,rfl⟩:=HK hx;split at o
  .rename_i c t T2 f z hg M hz;obtain⟨Q,a⟩:=A3 o;clear o;have Q:=A0 Q;subst Q;split at a
   .rename_i zc R;split at a
    .rename_i hs m1 az;split at a
     .rename_i v1 hv;obtain⟨⟨⟨ao,au⟩,y2,es,clock,rows,g1,g2,g3,g4,g5,g6⟩,_⟩:=h.atl hl hg;rw[hy]at g1;have g1:=A9 g1;subst g1;obtain⟨k1,V⟩:=jZ M O hk;have ax:VR ρ z z:=.ofC (yF hz).choose_spec.2.2;obtain⟨z1,z2⟩:=jZ R S ax;have E:f.length=y.ks.length:=by rw[<- V];simp
      have ay:Sat m1.lg:=by
       cases ok with
       | false=>cases a;exact X
       | true =>
         simp only[E6]at a;split at a
         .rename_i J;cases a;exact X.le (I5 J)
         .cases a
      obtain⟨a1,a2,a3,a4,a5,a6⟩:=EP (ρ:=ρ) g4 E az ay;have B:=AS (P:=P) (w:=w) C V g5;have G:=FC (P:=P) C V es.isEmpty w;have j:=EM (k:=f.map (D9 Ora.env)) rows 0;have s:∀ {us:List U},LR ρ hs (us.map T4)->VR ρ v1 (Y5 y.va us):=fun g=>A3o hv g
      have D:∃ val,VR ρ v1 val/\(Instr.lookup T2 (.map (some l.blk)) k' ok).run P w=.ok (if ok then .tuple #[val,.bool (rows.any (U4 (f.map (D9 Ora.env))))]else val) w:=by
       have I:(getObj l.blk).run P w=.ok (.map es clock) w:=by simp[getObj,Sem.run,g3]
       have e:=ML (k:=f.map (D9 Ora.env)) rows 0;cases A:oQ (f.map (D9 Ora.env)) rows 0 with
       | none =>
         rw[A]at j e;have g:LR ρ hs ((zc.map (D9 Ora.env)).map T4):=A8y (by rw[a3,E7,E7,a4]) fun i hi=>by
          have W:i<y.vs.length:=by rw[E7,E7,a4]at hi;exact hi
          obtain⟨N,z',e1,L,e3⟩:=a6 j.symm i W;exact⟨N,_,e1,by rw[F8,F8,L];rfl,e3⟩
         refine⟨z,by rw[z1];exact s g,?_⟩;have e:rows.any (U4 (f.map (D9 Ora.env)))=false:=e.symm;rw[k1];simp only[Instr.lookup,A4,D2 hu,Result.andThen_ok,I,G,B,CR,A,Option.map_none,aZ hz,Sem.run_pure,e]
       | some p =>
         obtain⟨pi,q⟩:=p;rw[A]at j e;obtain⟨_,K,q2⟩:=sQ A;have K:rows[pi]? = some q:=by simpa using K
         have Y:pi<es.toList.length:=by rw[<- g5.1];exact(B1.1 K).1
         obtain⟨t1,t2,t3⟩:=g5.2 pi q es.toList[pi] K (A5 Y);have aw:q.length=y.ks.length+y.vs.length:=by
          have:=E1 List.length t1
          simpa using this
         have g:LR ρ hs ((q.drop y.ks.length).map T4):=A8y (by rw[a3,E7,D7];omega) fun i hi=>by
          rw[E7,D7]at hi;obtain⟨N,e1,L⟩:=a5 q j.symm i A2;refine⟨N,_,e1,?_,L⟩;rw[F8,I7,A5 A2,L8,B2,A5 A2];rfl
         refine⟨Y5 y.va (q.drop y.ks.length),s g,?_⟩;have e:rows.any (U4 (f.map (D9 Ora.env)))=true:=e.symm;rw[k1];simp only[Instr.lookup,A4,D2 hu,Result.andThen_ok,I,G,B,CR,A,L8,Sem.run_pure,e]
      obtain⟨val,u,n⟩:=D;cases ok with
      | false =>
        cases a;obtain⟨lg,rfl⟩:=a1;exact⟨val,ρ,w,n,u,St.wLg h lg⟩
      | true =>
        simp only[E6]at a;split at a
        .rename_i b m2 J;cases a;obtain⟨_,_,F⟩:=iQ (ρ:=ρ) J X;have Z:evU (.mhas y.w y.ks.length) ((hole c t::f).map (D9 Ora.env))=.bool (rows.any (U4 (f.map (D9 Ora.env)))):=by
          show evU (.mhas y.w y.ks.length) (Ora.env c::f.map (D9 Ora.env))=_;rw[g4];show(if y.w=y.w/\(f.map (D9 Ora.env)).length=y.ks.length then _ else U.none)=_;rw[A8 ⟨rfl,by rw[E7];exact E⟩]
         rw[Z]at F;obtain⟨lg,rfl⟩:=a1.trans (I1 J);refine⟨.tuple #[val,.bool (rows.any (U4 (f.map (D9 Ora.env))))],ρ,w,n,?_,St.wLg h lg⟩
         have:=LR.cons u (LR.cons F LR.nil);exact .tuple this.1 this.2
        .cases a
     .cases a
    .cases a
   .cases a
  .cases o
 .cases o
def ZT{i:Nat}{c:List U}(h:xE y rows es.toList)(f:c.map G4=y.ks++y.vs)(h1:e'.key=Y5 y.ka (c.take y.ks.length))(b:e'.val=Y5 y.va (c.drop y.ks.length))(a:es'.toList=es.toList.set i e'):xE y (rows.set i c) es'.toList:=by
 rw[a];refine⟨by rw[M8,M8];exact h.1,fun j row e hr he=>?_⟩;rw[List.getElem?_set]at hr he;by_cases q:i=j
 .subst q;rw[A8 rfl]at hr he;split at hr
  .cases hr;split at he
   .cases he;exact⟨f,h1,b⟩
   .cases he
  .cases hr
 .rw[A6 q]at hr he;exact h.2 j row e hr he
def A1B{k:Value}(h:FT es.toList clock):FT (es.push ⟨k,v,clock⟩).toList (clock+1):=by
 obtain⟨h1,a⟩:=h;rw[Array.toList_push];refine⟨?_,fun e he=>?_⟩
 .rw[M7,bR];refine⟨h1,by simp,fun x hx y b f=>?_⟩;simp only[C5,G1,K9]at b;obtain⟨e,he,rfl⟩:=I6.1 hx
  have:=a e he;omega
 .rcases B6.1 he with he|he
  .have:=a e he;omega
  .rw[K9.1 he];show clock<clock+1;omega
def QG{f:MapEntry->Value×Value}(h:FT es.toList clock):FT (es.modify pi fun e=>{ e with key:=(f e).1,val:=(f e).2 }).toList clock:=by
 obtain⟨h1,i⟩:=h;have b:(es.modify pi fun e=>{ e with key:=(f e).1,val:=(f e).2 }).toList.map (·.born)=es.toList.map (·.born):=by
  apply bS;intro j;rw[F8,F8,Q2,H4,Q2];by_cases g:pi=j
  .rw[A8 g];cases es[j]?<;>rfl
  .rw[A6 g]
 refine⟨by rw[b];exact h1,fun e he=>?_⟩;have:e.born ∈ es.toList.map (·.born):=by rw[<- b];exact List.mem_map_of_mem he
 obtain⟨x,hx,a⟩:=I6.1 this;rw[<- a];exact i x hx
def XB{c:List U}(h:xE y rows es.toList)(g:c.map G4=y.ks++y.vs)(h1:e'.key=Y5 y.ka (c.take y.ks.length))(f:e'.val=Y5 y.va (c.drop y.ks.length)):xE y (rows++[c]) (es.push e').toList:=by
 rw[Array.toList_push];refine⟨by rw[B7,B7,h.1];rfl,fun j row e hr he=>?_⟩;rw[List.getElem?_append]at hr he;rw[h.1]at hr;split at he
 .rename_i a;rw[A8 a]at hr;exact h.2 j row e hr he
 .rename_i a;rw[A6 a]at hr;cases b:j-es.toList.length with
  | zero =>
    rw[b]at hr he;cases hr;cases he;exact⟨g,h1,f⟩
  | succ n=>rw[b]at hr;cases hr
def OZ{u v:U}(h1:G4 u<10)(h:isU u v=true):u=v:=by
 unfold isU at h;cases u with
 | int k a =>
   cases v with
   | int j b =>
     simp only[eqU]at h;by_cases e:k=j
     .subst e;rw[A8 rfl]at h;have h:(a == b)=true:=h;rw[eq_of_beq h]
     .rw[A6 e]at h;cases h
   | _=>simp[eqU]at h
 | bool a =>
   cases v with
   | bool b =>
     have h:(a == b)=true:=h;rw[eq_of_beq h]
   | _=>simp[eqU]at h
 | str a =>
   cases v with
   | str b =>
     have h:(a == b)=true:=h;rw[eq_of_beq h]
   | _=>simp[eqU]at h
 | seq _ _ _=>simp only[G4]at h1;omega
 | none=>simp only[G4]at h1;omega
def yS:∀ {us vs:List U},us.map G4=vs.map G4->(∀ t ∈ us.map G4,t<10)->U4 us vs=true->us=vs
 | [],[],_,_,_=>rfl
 | [],_::_,h,_,_=>by cases h
 | _::_,[],h,_,_=>by cases h
 | u::us,v::vs,h,ht,hk=>by
   obtain⟨a,b⟩:=B8 (show(isU u v && U4 us vs)=true from hk);simp only[C5,K0]at h;rw[OZ (ht _ B4) a,yS h.2 (fun t q=>ht t (C4 _ q)) b]
def FH{u:U}(h:G4 u<10)(n:Nat):Instr.sameBits n (T4 u) (T4 u)=true:=by
 cases u with
 | int k a=>cases n<;>simp[T4,toV,Instr.sameBits]
 | bool b=>cases n<;>simp[T4,toV,Instr.sameBits]
 | str s=>cases n<;>(simp only[T4,toV,cK,Instr.sameBits];show(Array.mk s == Array.mk s)=true;simp)
 | seq _ _ _=>simp only[G4]at h;omega
 | none=>simp only[G4]at h;omega
def YF{a:Bool}(h:∀ t ∈ us.map G4,t<10)(b:a=false->us≠[])(n:Nat):Instr.sameBits (n+1) (Y5 a us) (Y5 a us)=true:=by
 cases a with
 | true =>
   simp only[Y5,Instr.sameBits,G9,beq_self_eq_true,true_and,D5];intro p hp;obtain⟨i,hi,he⟩:=List.mem_iff_getElem.1 hp;simp only[List.getElem_zip,List.getElem_map]at he;subst he;exact FH (h _ (I6.2 ⟨_,O1 _,rfl⟩)) n
 | false =>
   cases us with
   | nil=>exact absurd rfl (b rfl)
   | cons u us=>exact FH (h _ B4) _
def KY{T:TypeId}{x k e e':Value}(h:HR P base ρ m.H w)(hb:base<=w.heap.size)(K:DV P m T x k e=some (v,m'))(hf:K7 ρ m.n m'.hi)(hx:VR ρ x x')(hk:VR ρ k k')(he:VR ρ e e')(hS:Sat m'.lg):v=undef/\UOk P base ρ m w (Instr.mapUpdate T x' k' e') m':=by
 unfold DV at K;split at K
 .rename_i r y hy;obtain⟨hu,X,ad,ae,F,an,ag⟩:=GY hy;obtain⟨l,hl,rfl⟩:=HK hx;split at K
  .rename_i c t T2 o u hg au ai;obtain⟨hT,A⟩:=A3 K;clear K;have hT:=A0 hT;subst hT;rw[O4]at A;unfold QH at A;split at A
   .rename_i m2 Y7;cases A;have ao:=eJ Y7;obtain⟨e1,e2,af,wd,aq,e3⟩:=kW (lg:=m'.lg) hS (by rw[ao];exact .refl _);obtain⟨⟨⟨ay,ar⟩,y2,es,clock,rows,g1,g2,g3,g4,g5,g6⟩,_⟩:=h.atl hl hg;rw[hy]at g1;have g1:=A9 g1;subst g1;obtain⟨I,C⟩:=jZ au F hk;obtain⟨v1,v2⟩:=jZ ai an he;have B:o.length=y.ks.length:=by rw[<- C];simp
    have ak:u.length=y.vs.length:=by rw[<- v2];simp
    have aj:((o++u).map (D9 Ora.env)).length=y.w:=by rw[E7,B7,B,ak];rfl
    have Y:((o++u).map (D9 Ora.env)).map G4=y.ks++y.vs:=by rw[M7,M7,C,v2]
    have z:((o++u).map (D9 Ora.env)).take y.ks.length=o.map (D9 Ora.env):=by rw[M7,t7 (by rw[E7];exact B)]
    have D:((o++u).map (D9 Ora.env)).drop y.ks.length=u.map (D9 Ora.env):=by rw[M7,lC (by rw[E7];exact B)]
    have i:Ora.env m.lg.nx=.seq false y.w (LB y.ks.length ((o++u).map (D9 Ora.env)) rows):=by
     rw[e1];show evU (.mput y.w y.ks.length) (Ora.env c::(o++u).map (D9 Ora.env))=_;rw[g4];show(if y.w=y.w/\((o++u).map (D9 Ora.env)).length=y.w then _ else U.none)=_;rw[A8 ⟨rfl,aj⟩]
    rw[LA _ 0,z]at i;have av:(getObj l.blk).run P w=.ok (.map es clock) w:=by simp[getObj,Sem.run,g3]
    have W:=AS (P:=P) (w:=w) X C g5;have az:=FC (P:=P) X C false w;have Q:=St.wLg h (fZ m t (.mput y.w y.ks.length) (hole c t::(o++u)));have al:Hp.get (m.wLg (fZ m t (.mput y.w y.ks.length) (hole c t::(o++u)))).H r=some (.mp c t T2):=by rw[lL];exact hg
    have s:l.blk<w.heap.size:=(D0.1 g3).1;refine⟨rfl,?_⟩;have N:∀ (g:Array MapEntry) (a:Nat),(setObj l.blk (.map g a)).run P w=.ok () { w with heap:=w.heap.set l.blk (.map g a) s }:=fun g a=>by
     have ax:w.heap[l.blk]=.map es clock:=by
      have q:=g3;rw[F5 s]at q;exact A9 q
     simp[setObj,Sem.run,ax,Array.setIfInBounds,s]
    have fin:∀ (g:Array MapEntry) (a:Nat) (b:List (List U)),Ora.env m.lg.nx=.seq false y.w b->xE y b g.toList->FT g.toList a->(Instr.mapUpdate T2 (.map (some l.blk)) k' e').run P w=.ok () { w with heap:=w.heap.set l.blk (.map g a) s }->UOk P base ρ m w (Instr.mapUpdate T2 (.map (some l.blk)) k' e') m':=fun g a b M q2 q4 q3=>by
     refine⟨ρ,_,q3,St.trans hf Q (St.write (ab:=.mp c t T2) (ab':=.mp m.lg.nx t T2) Q.hr Y7 al rfl hl ay ⟨rfl,rfl,rfl⟩ (by simp) (fun j hj=>?_) ?_)⟩
     .show(w.heap.set l.blk _ s)[j]? = _;rw[v7,A6 (fun e=>hj e.symm)]
     .refine⟨⟨ay,ar⟩,y,g,a,b,hy,g2,?_,M,q2,q4⟩;show(w.heap.set l.blk _ s)[l.blk]? = _;rw[v7,A8 rfl]
    cases V:oQ (o.map (D9 Ora.env)) rows 0 with
    | none =>
      rw[V]at i;refine fin (es.push ⟨k',e',clock⟩) (clock+1) _ i (XB g5 Y (by rw[z];exact I) (by rw[D];exact v1)) (A1B g6) ?_;rw[I];simp only[Instr.mapUpdate,A4,D2 hu,Result.andThen_ok,av,az,W,CR,V,Option.map_none,N]
    | some p =>
      obtain⟨pi,L⟩:=p;rw[V]at i;have i:Ora.env m.lg.nx=.seq false y.w (rows.set pi ((o++u).map (D9 Ora.env))):=i;obtain⟨_,M,q2⟩:=sQ V;have M:rows[pi]? = some L:=by simpa using M
      have G:pi<es.toList.length:=by rw[<- g5.1];exact(B1.1 M).1
      obtain⟨t1,t2,t3⟩:=g5.2 pi L es.toList[pi] M (A5 G);obtain⟨ah,_⟩:=DC t1;have J:o.map (D9 Ora.env)=L.take y.ks.length:=by
       refine yS (by rw[C,ah]) (by rw[C];exact F) ?_
       have:=uH (o.map (D9 Ora.env)) L;rw[E7,B]at this;rw[this];exact q2
      have S:pi<es.size:=by simpa using G
      refine fin (es.modify pi fun e2=>{ e2 with key:=k',val:=e' }) clock _ i (ZT (e':=⟨k',e',(es[pi]).born⟩) g5 Y (by rw[z];exact I) (by rw[D];exact v1) ?_) (QG (f:=fun _=>(k',e')) g6) ?_
      .apply bS;intro j;rw[Q2,H4,List.getElem?_set];by_cases hj:pi=j
       .subst hj;rw[A8 rfl,A8 rfl,A8 G,F5 S];rfl
       .rw[A6 hj,A6 hj];simp
      .have O:((es[pi]?).map (·.key)).getD k'=k':=by
        rw[F5 S];show es[pi].key=k';have t2:es[pi].key=Y5 y.ka (L.take y.ks.length):=t2;rw[t2,<- J,I]
       have E:Instr.sameBits 10000 k' k'=true:=by
        rw[I];exact YF (by rw[C];exact F) (fun _ q=>by have:=E1 List.length C;rw[q]at this;simp at this;omega) 9999
       have Z:(Instr.keyThatStays k' k').run P w=.ok k' w:=by
        simp only[Instr.keyThatStays,E,if_true,Sem.run_pure]
       have R:(Instr.findKey y.kt k' es.toList).run P w=.ok (some (pi,Y5 y.va (L.drop y.ks.length))) w:=by
        rw[I,W];simp[CR,V]
       have aw:(Instr.checkKey false 10000 y.kt k').run P w=.ok () w:=by rw[I];exact az
       simp only[Instr.mapUpdate,A4,D2 hu,Result.andThen_ok,av,aw,R,O,Z,N]
   .cases A
  .cases K
 .cases K
def A1z{T:TypeId}{x:Value}(h:HR P base ρ m.H w)(a:MA P m T x=some (v,m'))(hx:VR ρ x x')(j:Sat m'.lg):VOk P base ρ m w (Builtin.len_ ⟨T::tys⟩ ty #[x']) v m':=by
 unfold MA at a;split at a
 .rename_i kt p r hu;obtain⟨l,f,rfl⟩:=HK hx;split at a
  .rename_i c t q n;obtain⟨⟨⟨g,i⟩,s,es,clock,rows,g1,g2,g3,g4,g5,g6⟩,_⟩:=h.atl f n;obtain⟨o,⟨lg,rfl⟩,_,_⟩:=mH (ρ:=ρ) a g4 j;have b:(getObj l.blk).run P w=.ok (.map es clock) w:=by simp[getObj,Sem.run,g3]
   refine⟨_,ρ,w,?_,o,St.wLg h lg⟩
   have:=g5.1;have e:es.size=rows.length:=by rw[this];simp
   simp[Builtin.len_,A4,D2 hu,Result.andThen,goInt,b,e]
  .cases a
 .cases a
def A40{T:TypeId}(a:A1p P m T=some (v,m')):m.lg.le m'.lg:=by
 unfold A1p at a;split at a
 .rw[O4]at a;rw[bB a];exact W9
 .cases a
def uP{wd kw c t:Nat}{b:D3}:∀ {ts:H9} {a:D3} {j:Nat} {m m':Mem} {hs:D3},uQ wd kw c t b ts a j m=some (hs,m')->m.lg.le m'.lg
 | [],[],j,m,m',hs,h=>by cases h;exact .refl _
 | [],_::_,j,m,m',hs,h=>by cases h
 | _::_,[],j,m,m',hs,h=>by cases h
 | tg::ts,z::a,j,m,m',hs,h=>by
   unfold uQ at h;split at h
   .rename_i hv;split at h
    .rename_i hr;cases h;exact(I5 hv).trans (uP hr)
    .cases h
   .cases h
def XK{T:TypeId}{x k:Value}{ok:Bool}(a:zX P m T x k ok=some (v,m')):m.lg.le m'.lg:=by
 unfold zX at a;split at a
 .split at a
  .obtain⟨_,a⟩:=A3 a;split at a
   .split at a
    .rename_i b;split at a
     .cases ok with
      | false=>cases a;exact uP b
      | true =>
        simp only[E6]at a;split at a
        .rename_i e;cases a;exact(uP b).trans (I5 e)
        .cases a
     .cases a
    .cases a
   .cases a
  .cases a
 .cases a
def KZ{T:TypeId}{x k e:Value}(a:DV P m T x k e=some (v,m')):m.lg.le m'.lg:=by
 unfold DV at a;split at a
 .split at a
  .obtain⟨_,a⟩:=A3 a;rw[O4]at a;unfold QH at a;split at a
   .rename_i Y7;cases a;rw[eJ Y7];exact W9
   .cases a
  .cases a
 .cases a
def A10{T:TypeId}{x:Value}(a:MA P m T x=some (v,m')):m.lg.le m'.lg:=by
 unfold MA at a;split at a
 .split at a
  .exact(cG a).2
  .cases a
 .cases a
end
end
section
open Go
variable [Ora]
section
variable {P:Program} {base:Nat} {ρ:Ren} {m m':Mem} {w:World}
omit [Ora] in
def NS{G:Nat->Option Obj}:∀ {us:List U} {s:List UInt8} {vs:D3},uZ us=some s->c9 G us vs->∃ e:List Int,vs=e.map (Value.int .u8)/\s=e.map fun n=>UInt8.ofNat n.toNat
 | [],s,vs,h,he=>by
   cases h;have:vs=[]:=G2.1 he.1.symm;subst this;exact⟨[],rfl,rfl⟩
 | u::us,s,vs,h,he=>by
   unfold uZ at h;split at h
   .rename_i heq;cases heq
   .rename_i n r heq;cases heq;split at h
    .split at h
     .rename_i l f;cases h;cases vs with
      | nil=>have:=he.1;simp at this
      | cons v vr =>
        obtain⟨e,o,j⟩:=NS (vs:=vr) f ⟨by have:=he.1;simpa using this,fun i a b h1 g=>he.2 (i+1) a b (by simpa using h1) (by simpa using g)⟩
        have:=gT (he.2 0 _ v rfl rfl) rfl;subst this;exact⟨(Int.ofNat n)::e,by rw[o];rfl,by rw[j];rfl⟩
     .cases h
    .cases h
   .cases h
def KE{t:TypeId}{n:Nat}(h:H6 P t=some n):∃ inf,P.info? t=some inf/\inf.size=n:=by
 unfold H6 at h;cases hi:P.info? t with
 | none=>rw[hi]at h;cases h
 | some inf=>rw[hi]at h;exact⟨inf,rfl,A9 h⟩
def KH(d:Nat)(t:TypeId):sameLayout P (d+1) t t=true:=by simp[sameLayout]
def A3K:∃ d,P.depth=d+1:=⟨2*(P.types.size+Made.depth)+1,rfl⟩
def QL{T:TypeId}{n off:Nat}(hs:P.cellsOf T≠0)(hr:off%P.cellsOf T=0)(b:off / P.cellsOf T+1<=n):liesAt P P.depth T n off T 1=true:=by
 obtain⟨d,a⟩:=A3K (P:=P);have h1:rowAt P (sameLayout P P.depth · T) P.depth T n off 1=true:=by
  rw[a];unfold rowAt;simp only[hs,if_false,hr,KH];simp[b]
 rw[a]at h1 ⊢;unfold liesAt;rw[a,h1];rfl
def A3T{s t:TypeId}{x:Value}(h:HR P base ρ m.H w)(g:VP P m s t x=some (v,m'))(hx:VR ρ x x'):VOk P base ρ m w (convert s t x') v m':=by
 unfold VP at g;split at g
 .rename_i e b o hs J;obtain⟨l,D,_,rfl⟩:=P3 hx;split at g
  .rename_i k cs T ro A E;obtain⟨q,g⟩:=A3 g;have q:o<cs.length:=A1 q;cases g;obtain⟨inf,a,L⟩:=KE A;obtain⟨⟨p,C,fz,i,h1,N,_⟩,_⟩:=h.atl D E;obtain⟨v',h3,_⟩:=N o cs[o] (A5 q);have G:l.sh+o<C.size:=(D0.1 h3).1;exact VOk.same h (Lib.run_to_unsafe w ⟨l.blk,o+l.sh,none⟩ hs J a A2 (show w.shape? l.blk=some (i,C.size) by simp[World.shape?,h1]) (by show o+l.sh<C.size;omega)) hx
  .cases g
 .rename_i u b hs J;obtain⟨l,D,_,rfl⟩:=P3 hx;split at g
  .rename_i k cs T A E;obtain⟨I,f⟩:=A3 g;clear g;obtain⟨B,M⟩:=B8 I;have B:=A0 B;have M:=A0 M;clear I;subst B;cases f;obtain⟨inf,a,L⟩:=KE A;obtain⟨⟨p,C,fz,i,h1,N,h3⟩,_⟩:=h.atl D E;obtain⟨rfl,_,S⟩:=h3 rfl;obtain⟨_,K⟩:=S inf a;have F:P.cellsOf i=k+1:=by unfold Program.cellsOf;rw[a];exact L
   have z:k<cs.length:=A2;obtain⟨v',Q,_⟩:=N k cs[k] (A5 z);have G:l.sh+k<C.size:=(D0.1 Q).1;refine VOk.same h (Lib.run_from_unsafe w ⟨l.blk,0+l.sh,none⟩ hs J a (show w.shape? l.blk=some (i,C.size) by simp[World.shape?,h1]) ?_) hx;show liesAt P P.depth i (C.size / P.cellsOf i) (0+l.sh) i 1=true;rw[F7];refine QL A2 (by rw[F];rw[L]at K;exact K) ?_;rw[F];have K:l.sh%(k+1)=0:=by rw[L]at K;exact K
   have W:l.sh=(k+1)*(l.sh / (k+1)):=by have:=Nat.div_add_mod l.sh (k+1);omega
   refine(Nat.le_div_iff_mul_le A2).2 ?_;rw[I3,gZ,bQ];omega
  .cases g
 .rename_i V e b o n c hs J;obtain⟨I,f⟩:=A3 g;clear g;obtain⟨B,M⟩:=B8 I;have B:=A0 B;clear I;subst B;split at f
  .rename_i cs T hu E;split at f
   .rename_i m1 Y7;cases f;obtain⟨l,mm,D,rfl⟩:∃ l mm,ρ b=some l/\x'=.slice (some ⟨l.blk,o+l.sh,none⟩) n mm:=by
     cases hx with
     | pure hp=>simp[J0]at hp
     | sl h1 _=>exact⟨_,_,h1,rfl⟩
     | op h1 _ _ _=>exact⟨_,_,h1,rfl⟩
     | opE _=>simp at M
    obtain⟨⟨p,C,fz,i,z2,z3,z4⟩,_⟩:=h.atl D E;have O:w.shape? l.blk=some (i,C.size):=by simp[World.shape?,z2]
    refine⟨_,ρ,w.freeze ⟨l.blk,C.size,none⟩ 1,?_,hx,St.write h Y7 E rfl D p ?_ ?_ ?_ ?_⟩
    .simp[convert,run_underlying J,run_underlying hu,markStringish,O]
    .simp[World.freeze]
    .simp[World.freeze]
    .intro j R;simp only[World.freeze,Nat.one_ne_zero,if_false,H4];rw[A6 (fun e=>R e.symm)]
    .refine⟨p,C,(if fz.1 == fz.2 then(C.size,C.size+1)else(min fz.1 C.size,max fz.2 (C.size+1))),i,?_,z3,fun F=>⟨(z4 F).1,(z4 F).2.1.mark,(z4 F).2.2⟩⟩;simp only[World.freeze,Nat.one_ne_zero,if_false,H4,if_true,z2,L8]
   .cases f
  .cases f
 .cases g
def A1I{op:BinOp}{t:TypeId}{x y:Operand}{a a' b b':Value}(h:HR P base ρ m.H w)(n:TE P m op t a b=some (v,m'))(B:VR ρ a a')(A:VR ρ b b'):VOk P base ρ m w (do eqGuard op t x y a' b';binOp op t a' b') v m':=by
 unfold TE at n;split at n
 .rename_i e D p E C hu;obtain⟨u,f⟩:=A3 n;clear n;obtain⟨s,q⟩:=B8 u;have s:=A0 s;have q:=A0 q;clear u;subst s;subst q;obtain⟨l,z,_,rfl⟩:=P3 B;obtain⟨l2,g,_,rfl⟩:=P3 A;rw[z]at g
  have:=A9 g;subst this;have heq:∀ j,P.info? e=some j->∀ d:Nat,(Op.equalIn (d+1) t (.pointer (some ⟨l.blk,p+l.sh,none⟩)) (.pointer (some ⟨l.blk,p+l.sh,none⟩))).run P w=.ok true w:=fun j o d=>by
   simp[Op.equalIn,run_underlying hu,sizeOf,typeInfo,o,run_sameAddr_same]
  have i:(eqGuard op t x y (.pointer (some ⟨l.blk,p+l.sh,none⟩)) (.pointer (some ⟨l.blk,p+l.sh,none⟩))).run P w=.ok () w:=by
   unfold eqGuard;split<;>simp
  split at f
  .rename_i j o;cases f;refine VOk.same h (v':=.bool true) ?_ (.pure rfl);rw[A4,i];simp[Result.andThen,binOp,Op.equal,Op.maxDepth,heq j o 9999]
  .rename_i j o;cases f;refine VOk.same h (v':=.bool false) ?_ (.pure rfl);rw[A4,i];simp[Result.andThen,binOp,Op.equal,Op.maxDepth,heq j o 9999]
  .cases f
 .cases n
def St.laid{o:Obj}(h:HR P base ρ m.H w):St P base ρ ρ m m w { w with heap:=w.heap.push o } :=
 have f:∀ k,k<w.heap.size->(w.heap.push o)[k]? = w.heap[k]? := fun k f=>by rw[m7,A6 A2]
 ⟨fun _ _ h=>h,fun b l h1 a=>(by rw[h1]at a;cases a),A7 _,A7 _,fun h=>h,
  ⟨h.dom,fun id hid ab g=>by
    obtain⟨l,h1,a,h3⟩:=h.at_ id hid ab g;exact⟨l,h1,a.mono (fun _ _ h=>h) (fun k e=>f k (a.tc e)),h3⟩⟩,
  fun _ h=>h,fun b h1 a=>absurd h1 a,fun k e _=>f k e,by simp,⟨rfl,rfl,rfl⟩,fun b l h1 a=>(by rw[h1]at a;cases a),fun _ _ _ _=>rfl,fun _ h=>.inr h⟩
def A9J{tys:Array TypeId}{x:Value}(h:HR P base ρ m.H w)(a:sdM P m ty x=some (v,m'))(hx:VR ρ x x'):VOk P base ρ m w (Builtin.unsafeSliceData_ tys ty #[x']) v m':=by
 unfold sdM at a;split at a
 .rename_i e he;split at a
  .rename_i b i t;split at a
   .rename_i c tc T g ro A;cases a;have hx:VR ρ (own b i t) x':=hx;rcases(gM hx).1 with⟨l,wd,h1,f,h3,rfl⟩|⟨l,wd,rows,h1,f,h3,D,E,rfl⟩
    .exact VOk.same h rfl (.sdt ⟨l,h1,.inl ⟨f,rfl⟩⟩)
    .have j:Builtin.unsafeSliceData_ tys ty #[.slice (some ⟨l.blk,l.sh,none⟩) l.len l.cap]=(do
       if l.cap≠0 then pure (.pointer (some ⟨l.blk,l.sh,none⟩))
       else if(<- viewAt l.blk).isSome then pure (.pointer (some ⟨l.blk,l.sh,none⟩))
       else pure (.pointer (some ⟨<- newObj (.view ⟨l.blk,l.sh,none⟩ (<- elemOf ty)),0,none⟩))):=rfl
     rw[j];by_cases q:l.cap=0
     .rw[A6 (by simpa using q)];obtain⟨s,inf,_,_,_,B⟩:=SqR.ex (h.atl h1 A).1;rcases B with⟨n,_⟩|⟨_,n⟩
      .rw[f]at n;cases n
      .obtain⟨C,fz,z,o,lg,u,_⟩:=n;have p:w.shape? l.blk=some (z,C.size):=by simp[World.shape?,u]
       refine⟨.pointer (some ⟨w.heap.size,0,none⟩),ρ,{ w with heap:=w.heap.push (.view ⟨l.blk,l.sh,none⟩ e) },?_,.sdt ⟨l,h1,.inr ⟨f,_,rfl,fun h=>absurd q h⟩⟩,St.laid h⟩;simp[viewAt,p,elemOf,D2 he,newObj,Sem.run,A4,Result.andThen]
     .rw[A8 q];exact VOk.same h rfl (.sdt ⟨l,h1,.inr ⟨f,_,rfl,fun _=>rfl⟩⟩)
   .cases a
  .cases a
 .cases a
def A86{p l p' l':Value}(h:HR P base ρ m.H w)(J:usM P m pt p l=some (v,m'))(hp:VR ρ p p')(hl:VR ρ l l')(hS:Sat m'.lg)(hf:K7 ρ m.n m'.hi) :
  VOk P base ρ m w (Builtin.unsafeString_ ⟨pt::tys⟩ ty #[p',l']) v m':=by
 have D:IntKind.i64.max=9223372036854775807:=rfl;unfold usM at J;split at J
 .rename_i b;obtain⟨S,J⟩:=A3 J;have S:G8 l<8:=A1 S;obtain⟨k,n0,rfl,ah,_⟩:=N1 hl S;split at J
  .rename_i c tc T g e hg ag;obtain⟨hq,B⟩:=A3 J;clear J;obtain⟨q1,q2⟩:=B8 hq;have q1:=A0 q1;have q2:=A0 q2;clear hq;subst q1;subst q2;split at B
   .rename_i u m1 bz R;split at B
    .rename_i m2 Y7;cases B;have aj:=eJ Y7;have ae:Sat m1.lg:=by rw[<- aj];exact hS
     obtain⟨u0,e1,e2,r,e3,e4,e5⟩:=N0 R ae;obtain⟨lg,rfl⟩:=I1 R;obtain⟨l0,I,hv⟩:=A5D (show VR ρ (sdt b) p' from hp);have A:=St.wLg h lg;obtain⟨wd,inf,k1,k2,k3,K⟩:=SqR.ex (h.atl I hg).1;have ai:wd=1:=A2;subst ai;have f:evU .ustr [Ora.env c,.int k n0]=u0:=by
      have:D9 Ora.env (hole c 11)=Ora.env c:=rfl;rw[<- this,<- ah];exact e1
     have M:∀ av rows,Ora.env c=.seq av 1 rows->∃ (n:Nat) (Q:List UInt8),n0=(n:Int)/\n<=rows.length/\n<=1000000000/\xC (rows.take n)=some Q/\u0=.str Q:=fun av rows hc=>by
      rw[hc]at f;cases n0 with
      | negSucc z=>have:u0=.none:=f.symm;subst this;cases e3
      | ofNat n =>
        have f:(if 1=1/\n<=rows.length/\n<=xD then match xC (rows.take n)with
         | some s=>U.str s
         | none=>.none else .none)=u0:=f
        split at f
        .rename_i az;split at f
         .rename_i Q M;exact⟨n,Q,rfl,az.2.1,az.2.2,M,f.symm⟩
         .subst f;cases e3
        .subst f;cases e3
     have E:P.cellsOf e=1:=by unfold Program.cellsOf;rw[k2];exact k3
     have X:∀ {ρ:Ren} {w:World} {lx:Loc},BR P ρ (.sq c 11 e g false) lx w->BR P ρ (.sq c 11 e g true) lx w:=fun hb=>by
      obtain⟨wd,inf,k1,k2,k3,K⟩:=SqR.ex hb;refine⟨⟨wd,inf,k1,k2,k3,K.imp (fun x=>x) fun⟨a,C,fz,T',rows,lg,b1,b2,b3,b4,b5,b6,b7,b8,_⟩=>⟨a,C,fz,T',rows,lg,b1,b2,b3,b4,b5,b6,b7,b8,fun hh=>by cases hh⟩⟩⟩
     have V:Hp.get (m.wLg lg).H b=some (.sq c 11 e g false):=by rw[lL];exact hg
     have N:St P base ρ ρ m m' w w:=St.trans hf A (St.same0 A.hr Y7 V rfl I (X (A.hr.atl I V).1) fun q hq=>hq.imp (fun⟨_,b⟩=>⟨rfl,b⟩) fun⟨hh,_⟩=>by cases hh);rcases hv with⟨au,rfl⟩|⟨Y,a,rfl,ha⟩
     .rcases K with⟨_,L⟩|⟨L,_⟩
      .obtain⟨n,Q,rfl,j1,_,j2,rfl⟩:=M _ _ L;have hn:n=0:=by simpa using j1
       subst hn;cases j2;cases e3;refine⟨.string ByteArray.empty,ρ,w,?_,e4 ρ,N⟩;have o:Builtin.unsafeString_ ⟨pt::tys⟩ ty #[.pointer none,.int k ((0:Nat):Int)] =
         (do
           let n <- asInt (.int k ((0:Nat):Int))
           if n<0 then runtimePanic (.error "unsafe.String: len out of range")
           if n>IntKind.i64.max then unsupported (.unsafePointer "String: a length above the largest int")
           if n=0 then pure (.string .empty)
           else runtimePanic (.error "unsafe.String: ptr is nil and len is not zero")):=rfl
       rw[o];simp[asInt,asIntOf,D]
      .rw[au]at L;cases L
     .rcases K with⟨L,_⟩|⟨_,L⟩
      .rw[Y]at L;cases L
      obtain⟨C,fz,T',rows,ax,z1,z2,z3,z4,z5,z6,z7,z8,z9⟩:=L;obtain⟨rfl,bw⟩:=z9 rfl;obtain⟨n,Q,rfl,j1,j0,j2,rfl⟩:=M _ _ z2;cases e3;have o:Builtin.unsafeString_ ⟨pt::tys⟩ ty #[.pointer (some a),.int k (n:Int)] =
       (do
         let n <- asInt (.int k (n:Int))
         if n<0 then runtimePanic (.error "unsafe.String: len out of range")
         if n>IntKind.i64.max then unsupported (.unsafePointer "String: a length above the largest int")
         if n=0 then pure (.string .empty)
         else if <- variablesAt a (<- elemOf pt) n.toNat then do
          let s <- loadBytes a .empty n.toNat
          freeze a n.toNat
          pure (.string s)
         else unsupported (.unsafePointer "String: not so many bytes at ptr")):=rfl
      have ao:¬ (n:Int)<0:=A2;have aq:¬ (9223372036854775807:Int)<(n:Int):=A2;by_cases t:n=0
      .subst t;cases j2;refine⟨.string ByteArray.empty,ρ,w,?_,e4 ρ,N⟩;rw[o];simp[asInt,asIntOf,D]
      .have hz:¬ (n:Int)=0:=A2;have ay:l0.cap≠0:=A2;have ha:=ha ay;subst ha;obtain⟨y1,y2,y3⟩:=IT j2;have hlen:(rows.take n).length=n:=by simp;omega
       have aa:l0.sh+n<=C.size:=A2;obtain⟨ns,r1,r2⟩:∃ ns:List Int,(C.toList.drop l0.sh).take n=ns.map (Value.int .u8)/\Q=ns.map fun n=>UInt8.ofNat n.toNat:=by
        refine NS (G:=ax.G) y1 ⟨by rw[y2,hlen];simp;omega,fun i u v b1 b2=>?_⟩;have aw:i<n:=by have:=(B1.1 b1).1;rw[y2,hlen]at this;exact this
        have ar:i<rows.length:=A2;have O:rows[i]? = some rows[i]:=A5 ar;have W:(rows.take n)[i]? = some rows[i]:=by rw[F0 aw];exact O
        have bx:rows[i].length=1:=z6 _ (O1 ar);have h0:rows[i][0]? = some (rows[i][0]' A2):=A5 A2;obtain⟨_,K⟩:=y3 i _ 0 _ W h0;rw[b1]at K;have K:=A9 K;rw[K];have hc:C[l0.sh+i*1+0]? = some v:=by
         rw[F0 aw,I7]at b2
         simpa using b2
        exact z8 i _ 0 _ v O h0 hc
       have af:ns.length=n:=by
        have:=E1 List.length r1;simp at this;omega
       have F:∀ (j:Nat) (v:Value),(ns.map (Value.int .u8))[j]? = some v->w.cell? ⟨l0.blk,l0.sh+j,none⟩=some v:=fun j v hj=>by
        rw[<- r1]at hj;have ak:j<n:=by have:=(B1.1 hj).1;simp at this;omega
        rw[F0 ak,I7]at hj;simp only[World.cell?,z1]
        simpa using hj
       have an:=fB (P:=P) (w:=w) ns l0.blk l0.sh .empty F;rw[af]at an;have al:w.shape? l0.blk=some (T',C.size):=by simp[World.shape?,z1]
       have Z:=zZ (P:=P) E (C.size / P.cellsOf T') l0.sh n (by rw[E];simpa using aa);have ad:St P base ρ ρ (m.wLg lg) m' w (w.freeze ⟨l0.blk,l0.sh,none⟩ n):=by
        refine St.write A.hr Y7 V rfl I Y ?_ ?_ ?_ ?_
        .simp[World.freeze,t]
        .simp[World.freeze,t]
        .intro j hj;simp only[World.freeze,t,if_false,H4];rw[A6 (fun e=>hj e.symm)]
        .refine⟨⟨1,inf,rfl,k2,k3,.inr ⟨Y,C,(if fz.1 == fz.2 then(l0.sh,l0.sh+n)else(min fz.1 l0.sh,max fz.2 (l0.sh+n))),T',rows,ax,?_,z2,z3,z4,z5,z6,z7,z8,fun hc=>by cases hc⟩⟩⟩;simp only[World.freeze,t,if_false,H4,if_true,z1,L8]
       refine⟨.string ⟨⟨Q⟩⟩,ρ,w.freeze ⟨l0.blk,l0.sh,none⟩ n,?_,e4 ρ,St.trans hf A ad⟩;rw[o];simp[asInt,asIntOf,D,ao,aq,hz,t,variablesAt,al,elemOf,D2 ag,Z,an,freeze,Sem.run,A4,Result.andThen,r2]
    .cases B
   .cases B
  .cases J
 .cases J
def WZ{t:TypeId}{x:Value}(h:HR P base ρ m.H w)(j:base<=w.heap.size)(e:zF P m t x=some (v,m'))(g:K7 ρ m.n m'.hi)(hx:VR ρ x x'):VOk P base ρ m w (Instr.range t x') v m':=by
 unfold zF at e;split at e
 .rename_i hu;obtain⟨h1,e⟩:=A3 e;obtain⟨s,rfl,_⟩:=s8 hx (A0 h1);have f:∀ a:Ren,(∀ b l,ρ b=some l->a b=some l)->BR P a (.iter [x,.int .i64 (.ofNat 0)]) (lc w.heap.size 0 0) { w with heap:=w.heap.push (.stringIter ⟨⟨s⟩⟩ 0) }:=fun a he =>
   ⟨⟨rfl,rfl⟩,⟨⟨s⟩⟩,0,by simp[lc],.cons (hx.mono he) (.cons (.pure rfl) .nil)⟩
  obtain⟨i,h3,o⟩:=St.alloc (w':={ w with heap:=w.heap.push (.stringIter ⟨⟨s⟩⟩ 0) }) (l:=lc w.heap.size 0 0) h j e g ⟨rfl,rfl,rfl⟩ rfl rfl (f _ (X9 (g m.n (A7 _) (by obtain⟨_,_,rfl⟩:=M3 e;exact(L7 _ _).2))));refine⟨.pointer (some ⟨w.heap.size,0,none⟩),_,_,?_,?_,o⟩
  .simp[Instr.range,A4,D2 hu,Result.andThen,newObj,Sem.run]
  .rw[i];exact .ptr h3
 .cases e
def RE{s p:Value}{b:ByteArray}(h:IN s p=some (b,k)):s=.string b/\p=.int .i64 (.ofNat k):=by
 unfold IN at h;split at h
 .cases h;exact⟨rfl,rfl⟩
 .cases h
def A1j{x:Value}(h:HR P base ρ m.H w)(a:LP m x=some (v,m'))(hf:K7 ρ m.n m'.hi)(hx:VR ρ x x')(hS:Sat m'.lg):VOk P base ρ m w (Instr.next x' true ty) v m':=by
 unfold LP at a;split at a
 .rename_i r;obtain⟨l,hl,_,rfl⟩:=P3 hx;split at a
  .rename_i s p hg;obtain⟨⟨⟨L,B⟩,g,n,g1,g2⟩,_⟩:=h.atl hl hg;have O:(getObj l.blk).run P w=.ok (.stringIter g n) w:=by simp[getObj,Sem.run,g1]
   have i:l.blk<w.heap.size:=(D0.1 g1).1;have M:w.heap[l.blk]=.stringIter g n:=by
    have q:=g1;rw[F5 i]at q;exact A9 q
   obtain⟨s',r1,e1,k1,k2⟩:=g2.tail;obtain⟨p',r2,e2,T,k4⟩:=k2.tail;cases k4.nil_inv;cases e2;cases e1;have Q:∀ n2:Nat,(setObj l.blk (.stringIter g n2)).run P w=.ok () { w with heap:=w.heap.set l.blk (.stringIter g n2) i }:=fun n2=>by
    simp[setObj,Sem.run,M,Array.setIfInBounds,i]
   have z:n<g.size->(Instr.next (.pointer (some ⟨l.blk,0+l.sh,none⟩)) true ty).run P w=.ok (.tuple #[.bool true,.int .i64 (.ofNat n),.int .i32 (.ofNat (Utf8.decode g n).1)]) { w with heap:=w.heap.set l.blk (.stringIter g (n+(Utf8.decode g n).2)) i }:=fun o=>by
    rw[B];simp[Instr.next,A4,Result.andThen_ok,O,o,Q,goInt]
   have F:¬n<g.size->(Instr.next (.pointer (some ⟨l.blk,0+l.sh,none⟩)) true ty).run P w=.ok (.tuple #[.bool false]) w:=fun o=>by
    rw[B];simp[Instr.next,A4,Result.andThen_ok,O,o]
   have fin:∀ {m1 m2:Mem} {q:Value},K3 m m1->cY m1 r (.iter [s,q])=some m2->K7 ρ m.n m2.hi->VR ρ q (.int .i64 (.ofNat (n+(Utf8.decode g n).2)))->St P base ρ ρ m m2 w { w with heap:=w.heap.set l.blk (.stringIter g (n+(Utf8.decode g n).2)) i }:=fun{m1 m2 q} e Y7 S V=>by
    obtain⟨lg,rfl⟩:=e;have G:=St.wLg h lg;have X:Hp.get (m.wLg lg).H r=some (.iter [s,p]):=by rw[lL];exact hg
    refine St.trans S G (St.write (ab:=.iter [s,p]) (ab':=.iter [s,q]) G.hr Y7 X rfl hl L ⟨rfl,rfl,rfl⟩ (by simp) (fun j hj=>?_) ?_)
    .show(w.heap.set l.blk _ i)[j]? = _;rw[v7,A6 (fun e=>hj e.symm)]
    .refine⟨⟨L,B⟩,g,_,?_,.cons k1 (.cons V .nil)⟩;show(w.heap.set l.blk _ i)[l.blk]? = _;rw[v7,A8 rfl]
   split at a
   .rename_i b k hc;obtain⟨rfl,rfl⟩:=RE hc;have e:=V2 k1;cases e;have e:=J9 T;cases e;by_cases o:n<g.size
    .have t:Nat.blt n g.data.toList.length=true:=C7 o;rw[t]at a;simp only[E6,E9]at a;split at a
     .rename_i m2 Y7;cases a;exact⟨_,ρ,_,z o,.tuple rfl (LR.cons (.pure rfl) (LR.cons (.pure rfl) (LR.cons (.pure rfl) LR.nil))).2,fin ⟨m.lg,by cases m;rfl⟩ Y7 hf (.pure rfl)⟩
     .cases a
    .have t:Nat.blt n g.data.toList.length=false:=by
      cases V:Nat.blt n g.data.toList.length with
      | false=>rfl
      | true=>exact absurd (A1 V) o
     rw[t]at a;cases a;exact⟨_,ρ,w,F o,.tuple rfl (LR.cons (.pure rfl) LR.nil).2,St.refl h⟩
   .obtain⟨h1,a⟩:=A3 a;obtain⟨h1,h2⟩:=B8 h1;have h1:=A0 h1;have h2:=A0 h2;obtain⟨s0,es,as⟩:=s8 k1 h1;cases es;obtain⟨kk,nn,ep,ap,_⟩:=N1 T A2;cases ep;split at a
    .rename_i hh m1 E;split at a
     .rename_i c H N W hi lg D;have o1:=I1 E;have o2:=I1 D;have key:∀ {b:Bool} {f:Lg},brL lg c=some (b,f)->Sat f->(b=true↔n<s0.length)/\K3 m ⟨H,N,W,hi,f⟩:=fun{b f} t u=>by
       have K:Sat lg:=u.le (fU t);have az:Sat m1.lg:=S3.le K (I5 D);have u1:VR ρ hh (.int .i64 s0.length):=by
        have:=(iQ (ρ:=ρ) E az).2.2;rw[C5,G1,as]at this;exact this
       obtain⟨rfl,e1⟩:=jR E;obtain⟨k5,n5,e5,a5,_⟩:=N1 u1 (show 3<8 by decide);cases e5;have u2:VR ρ c (.bool (decide ((n:Int)<s0.length))):=by
        have:=(iQ (ρ:=ρ) D K).2.2;rw[C5,C5,G1,ap,a5]at this;have e:evU (.bin .lss) [.int .i64 (Int.ofNat n),.int .i64 (s0.length:Int)]=.bool (decide ((n:Int)<s0.length)):=by
         simp[evU,evB,bF,vI,iS,lI,HA,ofV]
        rw[e]at this;exact this
       have:=mV t u2 u;refine⟨?_,?_⟩
       .have:=Value.bool.inj this;rw[<- this,decide_eq_true_iff];omega
       .exact(o1.trans o2).trans ⟨f,rfl⟩
      split at a
      .rename_i f t;split at a
       .rename_i y m3 A;split at a
        .rename_i q m4 C;split at a
         .rename_i m5 Y7;cases a;have J:Sat m4.lg:=by rw[<- eJ Y7];exact hS
          have I:=J.le (I5 C);have u:Sat f:=I.le (I5 A);obtain⟨Y,Z⟩:=key t u;have o:=Y.1 rfl;have u3:VR ρ y (.int .i32 (.ofNat (Utf8.decode ⟨⟨s0⟩⟩ n).1)):=by
           have:=(iQ (ρ:=ρ) A I).2.2;rw[C5,C5,G1,as,ap]at this;exact this
          have u4:VR ρ q (.int .i64 (.ofNat (n+(Utf8.decode ⟨⟨s0⟩⟩ n).2))):=by
           have:=(iQ (ρ:=ρ) C J).2.2;rw[C5,C5,G1,as,ap]at this;exact this
          exact⟨_,ρ,_,z o,.tuple rfl (LR.cons (.pure rfl) (LR.cons T (LR.cons u3 LR.nil))).2,fin ((Z.trans (I1 A)).trans (I1 C)) Y7 hf u4⟩
         .cases a
        .cases a
       .cases a
      .rename_i f t;cases a;obtain⟨Y,Z⟩:=key t hS;have o:¬n<s0.length:=fun q=>by have:=Y.2 q;cases this
       obtain⟨R,e3⟩:=Z;refine⟨_,ρ,w,F o,.tuple rfl (LR.cons (.pure rfl) LR.nil).2,?_⟩;rw[e3];exact St.wLg h R
      .cases a
     .cases a
    .cases a
  .cases a
 .cases a
def XA{t:TypeId}{x:Value}(a:zF P m t x=some (v,m')):m.lg.le m'.lg:=by
 unfold zF at a;split at a
 .obtain⟨_,a⟩:=A3 a;rw[bB a];exact .refl _
 .cases a
def A1k{x:Value}(e:LP m x=some (v,m')):m.lg.le m'.lg:=by
 unfold LP at e;split at e
 .split at e
  .split at e
   .rename_i b k o;cases f:Nat.blt k b.data.toList.length with
    | true =>
      rw[f]at e;simp only[E6,E9]at e;split at e
      .rename_i Y7;cases e;rw[eJ Y7];exact .refl _
      .cases e
    | false=>rw[f]at e;cases e;exact .refl _
   .obtain⟨_,e⟩:=A3 e;split at e
    .rename_i n;split at e
     .rename_i j;have a:=(I5 n).trans (I5 j);split at e
      .rename_i f;have a:=a.trans (fU f);split at e
       .rename_i g;split at e
        .rename_i i;split at e
         .rename_i Y7;cases e;rw[eJ Y7];exact(a.trans (I5 g)).trans (I5 i)
         .cases e
        .cases e
       .cases e
      .rename_i f;cases e;exact a.trans (fU f)
      .cases e
     .cases e
    .cases e
  .cases e
 .cases e
def A80{fr:Fr}{g:Operand->Value}{o:Oper}(h:HR P base ρ m.H w)(C:base<=w.heap.size)(b:xtM P fr m o=some (v,m'))(i:K7 ρ m.n m'.hi)(z:FR ρ fr g o.op)(f:Sat m'.lg):NOk P base ρ m w (execOp g o) v m':=by
 obtain⟨dst,op,ty,pos,G,F⟩:=o;unfold xtM at b;simp only at b z;have a:∀ {x},x ∈ op.operands.toList->VR ρ (ev fr x) (g x):=fun hx=>z _ hx
 split at b
 .rename_i s t x;exact NOk.of (A3T h b (a (x:=x) (by simp[Op.operands])))
 .rename_i op t x y J;exact NOk.of (A1I h b (a (x:=x) (by simp[Op.operands])) (a (x:=y) (by simp[Op.operands])))
 .rename_i xs tys;have l1:=dS (ρ:=ρ) (fr:=fr) (g:=g) (xs:=xs.toList) fun y q=>z y (by show y ∈ (#[]++xs:Array Operand).toList;simpa using q)
  split at b
  .rename_i x hx;rw[hx]at l1;obtain⟨x',r1,A,g1,g2⟩:=l1.tail;cases g2.nil_inv;have j:xs.map g=#[x']:=by apply J5;simpa using A
   have:=A9J (tys:=tys) h b g1;have u:=NOk.of this;obtain⟨ks,B⟩:∃ ks,execOp g ⟨dst,.call ⟨.builtin .unsafeSliceData,xs,tys⟩,ty,pos,G,F⟩=builtin .unsafeSliceData tys ty ks (xs.map g):=⟨#[],rfl⟩;rw[B,j];exact u
  .cases b
 .rename_i xs tys;have l1:=dS (ρ:=ρ) (fr:=fr) (g:=g) (xs:=xs.toList) fun y q=>z y (by show y ∈ (#[]++xs:Array Operand).toList;simpa using q)
  split at b
  .rename_i p l t rest hx D;rw[hx]at l1;obtain⟨x',r1,A,g1,g2⟩:=l1.tail;obtain⟨I,K,rfl,g3,g4⟩:=g2.tail;cases g4.nil_inv;have j:xs.map g=#[x',I]:=by apply J5;simpa using A
   have u:=NOk.of (A86 (ty:=ty) (tys:=rest) h b g1 g3 f i);obtain⟨ks,B⟩:∃ ks,execOp g ⟨dst,.call ⟨.builtin .unsafeString,xs,tys⟩,ty,pos,G,F⟩=builtin .unsafeString tys ty ks (xs.map g):=⟨#[],rfl⟩;have E:tys=⟨t::rest⟩:=by rw[<- D]
   rw[B,j,E];exact u
  .cases b
 .rename_i t;exact NOk.of (A4z h C b i f)
 .rename_i t x k ok;exact NOk.of (XJ h b (a (x:=x) (by simp[Op.operands])) (a (x:=k) (by simp[Op.operands])) f)
 .rename_i t x;exact NOk.of (WZ h C b i (a (x:=x) (by simp[Op.operands])))
 .rename_i x;exact NOk.of (A1j h b i (a (x:=x) (by simp[Op.operands])) f)
 .rename_i t x k e;obtain⟨rfl,hu⟩:=KY h C b i (a (x:=x) (by simp[Op.operands])) (a (x:=k) (by simp[Op.operands])) (a (x:=e) (by simp[Op.operands])) f;exact NOk.ofU hu
 .rename_i t x k e;obtain⟨rfl,hu⟩:=KY h C b i (a (x:=x) (by simp[Op.operands])) (a (x:=k) (by simp[Op.operands])) (a (x:=e) (by simp[Op.operands])) f;exact NOk.ofU hu
 .rename_i xs tys;have l1:=dS (ρ:=ρ) (fr:=fr) (g:=g) (xs:=xs.toList) fun y q=>z y (by show y ∈ (#[]++xs:Array Operand).toList;simpa using q)
  split at b
  .rename_i x t rest hx D;rw[hx]at l1;obtain⟨x',r1,A,g1,g2⟩:=l1.tail;cases g2.nil_inv;have j:xs.map g=#[x']:=by apply J5;simpa using A
   have u:=NOk.of (A1z (ty:=ty) (tys:=rest) h b g1 f);obtain⟨ks,B⟩:∃ ks,execOp g ⟨dst,.call ⟨.builtin .len,xs,tys⟩,ty,pos,G,F⟩=builtin .len tys ty ks (xs.map g):=⟨#[],rfl⟩;have E:tys=⟨t::rest⟩:=by rw[<- D]
   rw[B,j,E];exact u
  .cases b
 .cases b
def A81{fr:Fr}{o:Oper}(a:xtM P fr m o=some (v,m')):m.lg.le m'.lg:=by
 unfold xtM at a;split at a
 .unfold VP at a;split at a
  .split at a
   .obtain⟨_,a⟩:=A3 a;cases a;exact .refl _
   .cases a
  .split at a
   .obtain⟨_,a⟩:=A3 a;cases a;exact .refl _
   .cases a
  .obtain⟨_,a⟩:=A3 a;split at a
   .split at a
    .rename_i Y7;cases a;obtain⟨_,rfl⟩:=V1 Y7;exact .refl _
    .cases a
   .cases a
  .cases a
 .unfold TE at a;split at a
  .obtain⟨_,a⟩:=A3 a;split at a
   .cases a;exact .refl _
   .cases a;exact .refl _
   .cases a
  .cases a
 .split at a
  .unfold sdM at a;split at a
   .split at a
    .split at a
     .cases a;exact .refl _
     .cases a
    .cases a
   .cases a
  .cases a
 .split at a
  .unfold usM at a;split at a
   .obtain⟨_,a⟩:=A3 a;split at a
    .obtain⟨_,a⟩:=A3 a;split at a
     .rename_i b;split at a
      .rename_i hs;cases a;rw[eJ hs];exact I5 b
      .cases a
     .cases a
    .cases a
   .cases a
  .cases a
 .exact A40 a
 .exact XK a
 .exact XA a
 .exact A1k a
 .exact KZ a
 .exact KZ a
 .split at a
  .exact A10 a
  .cases a
 .cases a
end
end
section
open Go
def fw(rd:Option Nat):Fence:={ Fence.wide with round:=rd }
def sX{rd:Option Nat}{n:Nat}:(fw rd).depth.isSome=true->1<=n:=fun h=>by cases h
def qA{rd:Option Nat}{n:Nat}{P:Program}{f:FuncId}{args:X4}{w:World}{R:Ending->World->Prop}:CallsIn (fw rd) n P f args w R↔Calls P f args w R :=
 ⟨fun h=>callsIn_wide.1 (show CallsIn Fence.wide n P f args w R from h),fun h=>show CallsIn (fw rd) n P f args w R from(callsIn_wide (n:=n)).2 h⟩
section
variable {P:Program} {rd:Option Nat}
def wpO(P:Program)(rd:Option Nat)(o:Oper)(a:Act)(w:World)(K:Act->World->Prop)(Q:Exit->Act->World->Prop):Prop:=o.wpIn (fw rd) 0 P a w K Q
def JD{o:Oper}{a:Act}{w:World}{K f:Act->World->Prop}{Q:Exit->Act->World->Prop}(h:∀ a w,K a w->f a w)(hh:wpO P rd o a w K Q):wpO P rd o a w f Q:=by
 unfold wpO Oper.wpIn at *;refine⟨hh.1,?_⟩;have hh:=hh.2;generalize (o.semAt (fw rd).round a.eval).run P w=r at *;cases r with
 | ok n w' =>
   cases n<;>simp only[Oper.uponIn]at hh ⊢ <;>
    first
     | exact h _ _ hh
     | exact⟨hh.1,CallsIn.mono hh.2 (fun e b he=>by cases e<;>first|exact h _ _ he|exact he)⟩
     | exact⟨hh.1,RowsIn.mono hh.2 (fun _ _ he=>h _ _ he)⟩
     | exact⟨hh.1,RoundIn.mono hh.2 (fun e b he=>by cases e<;>first|exact h _ _ he|exact he)⟩
 | halt x w'=>cases x<;>simp only[Oper.uponIn]at hh ⊢<;>exact hh
def wpL(P:Program)(rd:Option Nat)(ops:Array Oper)(Q:Exit->Act->World->Prop):List Oper->Act->World->Prop
 | [],a,w=>Q .normal a w
 | o::rest,a,w=>if Region.wanted o (yielded ops a.tmps)then wpO P rd o a w (wpL P rd ops Q rest) Q else wpL P rd ops Q rest (a.put o.dst undef) w
def JE{ops:Array Oper}{Q:Exit->Act->World->Prop}{a:Act}{w:World}{rest:List Oper}{o:Oper}
  (h:∀ K:Act->World->Prop,(∀ a w,wpL P rd ops Q rest a w->K a w)->if Region.wanted o (yielded ops a.tmps)then wpO P rd o a w K Q else K (a.put o.dst undef) w):wpL P rd ops Q (o::rest) a w:=h _ fun _ _ h=>h
def RV{ops:Array Oper}{Q:Exit->Act->World->Prop}:∀ (l:List Oper) (k:Nat),(∀ j,l[j]? = ops[k+j]?)->∀ a w,wpL P rd ops Q l a w->wpOpsIn (fw rd) 0 P ops Q (List.range' k l.length) a w
 | [],k,_,a,w,h=>h
 | o::l,k,hk,a,w,h=>by
   have h0:ops[k]? = some o:=by simpa using(hk 0).symm
   have b:=RV (Q:=Q) l (k+1) (fun j=>by have:=hk (j+1);simpa [cW,kK 1 j]using this);simp only[C8,List.range'_succ,wpOpsIn,h0];unfold wpL at h;split
   .rename_i hw;rw[A8 hw]at h;exact JD b h
   .rename_i hw;rw[A6 hw]at h;exact⟨fun _ _=>trivial,b _ _ h⟩
def wR{id:Nat}{ops:Array Oper}{Q:Exit->Act->World->Prop}{a:Act}{w:World}(h:wpL P rd ops Q ops.toList a w):(Code.region id ops false).wpIn (fw rd) 0 P Q a w :=
 wpIn_region (by
  have:=RV ops.toList 0 (by simp) a w h;rw[List.range_eq_range',<- S0];exact this)
def iE(P:Program)(rd:Option Nat)(ops:Array Oper)(Q:Exit->Act->World->Prop)(i:Nat)(K:Act->World->Prop)(a:Act)(w:World):Prop :=
 match ops[i]? with
 | none=>K a w
 | some o=>if Region.wanted o (yielded ops a.tmps)then wpO P rd o a w K Q else K (a.put o.dst undef) w
def OI{ops:Array Oper}{Q:Exit->Act->World->Prop}{i:Nat}{a:Act}{w:World}{K b:Act->World->Prop}(h:∀ a w,K a w->b a w)(hh:iE P rd ops Q i K a w):iE P rd ops Q i b a w:=by
 unfold iE at *;split
 .exact h _ _ (by simpa [*]using hh)
 .rename_i o e;simp only[e]at hh;split
  .rename_i hw;simp only[hw,if_true]at hh;exact JD h hh
  .rename_i hw;simp only[hw]at hh;exact h _ _ hh
def FV{ops:Array Oper}{Q:Exit->Act->World->Prop}{i:Nat}{rest:H9}{a:Act}{w:World}(h:iE P rd ops Q i (wpOpsIn (fw rd) 0 P ops Q rest) a w):wpOpsIn (fw rd) 0 P ops Q (i::rest) a w:=by
 unfold iE at h;simp only[wpOpsIn];split at h
 .rename_i b;simp only[b];exact h
 .rename_i o e;simp only[e];split at h
  .rename_i hw;rw[A8 hw];exact h
  .rename_i hw;rw[A6 hw];exact⟨fun _ _=>trivial,h⟩
def jB(P:Program)(rd:Option Nat)(md:Region.Mode)(ops:Array Oper)(Q:Exit->Act->World->Prop):Nat->Array Bool->Act->World->Prop
 | 0,listed,a,w=>Region.ready md ops listed=[]/\Q .normal a w
 | fuel+1,listed,a,w=>(Region.ready md ops listed=[]->Q .normal a w)/\∀ i ∈ Region.ready md ops listed,iE P rd ops Q i (jB P rd md ops Q fuel (listed.setIfInBounds i true)) a w
def FW{md:Region.Mode}{ops:Array Oper}{Q:Exit->Act->World->Prop}:∀ (fuel t:Nat) (listed:Array Bool) (a:Act) (w:World),jB P rd md ops Q fuel listed a w->wpOpsIn (fw rd) 0 P ops Q (Region.linearise.go md ops fuel t listed []) a w:=by
 intro fuel;induction fuel with
 | zero=>intro t listed a w h;simpa [Region.linearise.go,wpOpsIn]using h.2
 | succ fuel f =>
   intro t listed a w h;obtain⟨h0,h1⟩:=h;simp only[Region.linearise.go];change wpOpsIn (fw rd) 0 P ops Q (match (Region.ready md ops listed)[t%(Region.ready md ops listed).length]? with
    | some i=>Region.linearise.go md ops fuel (t / (Region.ready md ops listed).length) (listed.setIfInBounds i true) [i]
    | none=>[].reverse) a w
   cases hi:(Region.ready md ops listed)[t%(Region.ready md ops listed).length]? with
   | none =>
     have b:Region.ready md ops listed=[]:=by
      cases hr:Region.ready md ops listed with
      | nil=>rfl
      | cons x xs =>
        rw[hr]at hi;have e:t%(x::xs).length<(x::xs).length:=qE _ (by simp);simp at hi;simp at e;omega
     simpa [wpOpsIn]using h0 b
   | some i =>
     simp only[];rw[linearise_go_acc,List.reverse_singleton,List.singleton_append];exact FV (OI (fun a w=>f _ _ a w) (h1 i (D1 hi)))
def lK{id:Nat}{ops:Array Oper}{Q:Exit->Act->World->Prop}{a:Act}{w:World}(hm:P.follows .mixedOrders=true)
  (h:jB P rd .any ops Q ops.size (Array.replicate ops.size false) a { w with drawn:=w.drawn+1 }):(Code.region id ops true).wpIn (fw rd) 0 P Q a w :=
 wpIn_region_draw fun t=>by
  simp only[Region.schedule,hm,Bool.true_or,if_true];exact FW ops.size t _ a _ h
def w9{b:Frame}{a:Act}{k:List Item}{w:World} :step P (lone (b.atR a (.code (.scope c)::k)) cs w)=.next (lone (b.atR a (.code c::.inScope c::k)) cs w) :=
 step_lone_go (by simp[stepG,stepG.exec,Frame.atR])
def CJ{b:Frame}{a:Act}{k:List Item}{w:World} :step P (lone (b.atR a (.inScope c::k)) cs w)=.next (lone (b.atR a k) cs w) :=
 step_lone_go (by simp[stepG,stepG.exec,Frame.atR])
def Exit.calm(Q:Exit->Act->World->Prop):Exit->Act->World->Prop
 | .goto _,_,_=>False
 | e,a,w=>Q e a w
def OJ{F:Fence}{n:Nat}{Q:Exit->Act->World->Prop}{a:Act}{w:World}(h:c.wpIn F n P (Exit.calm Q) a w):(Code.scope c).wpIn F n P Q a w:=by
 intro b k cs p s hr;have h0:(lone (b.atR a (.code (.scope c)::k)) cs w).fenced P F:=fenced_calm s hr rfl;obtain⟨e,i,g,j,f⟩:=h b (.inScope c::k) cs p s hr;cases e with
 | normal=>exact⟨.normal,i,g,j,.head h0 w9 (StepsIn.trans f (.one (fenced_calm s hr rfl) CJ))⟩
 | exit id =>
   have hx:exitTo id (.inScope c::k)=exitTo id k:=rfl;exact⟨.exit id,i,g,j,fun k' o=>.head h0 w9 (f.1 k' (by rw[hx];exact o)),
    fun q o=>let ⟨k₁,h1,t⟩:=f.2 q (by rw[hx];exact o);⟨k₁,h1,.head h0 w9 t⟩⟩
 | goto l=>exact j.elim
 | ret=>exact⟨_,i,g,j,.of_steps (.one h0 w9) f⟩
 | panic u=>exact⟨_,i,g,j,.of_steps (.one h0 w9) f⟩
 | outgrown=>exact⟨_,i,g,j,.of_steps (.one h0 w9) f⟩
end
end
section
open Go
def oO(o:Op)(g:Operand->Value):Sem Value :=
 match o with
 | .move x|.assign x=>pure (g x)
 | .load t x=>Instr.loadAt t (g x)
 | .store t x y=>do Instr.storeAt t (g x) (g y);pure undef
 | _=>stuck "no such operation"
def uW(P:Program)(o:Oper)(s:Act×World):Option (Act×World) :=
 match (oO o.op s.1.eval).run P s.2 with
 | .ok v w'=>some (s.1.put o.dst v,w')
 | .halt _ _=>none
section
variable {P:Program} {rd:Option Nat}
def yB{o:Oper}{s t:Act×World}(h:uW P o s=some t):∃ v,(oO o.op s.1.eval).run P s.2=.ok v t.2/\t.1=s.1.put o.dst v:=by
 unfold uW at h;split at h
 .rename_i v w' hr;cases h;exact⟨v,hr,rfl⟩
 .cases h
def oF{o:Oper}{s:Act×World}(h:(oO o.op s.1.eval).run P s.2=.ok v w'):uW P o s=some (s.1.put o.dst v,w'):=by
 unfold uW;rw[h]
def YI{o:Oper}(a:IM o.op=true)(w:World)(g:Operand->Value):o.about P w g=none:=by
 unfold Oper.about;cases b:o.op<;>rw[b]at a<;>first|rfl|cases a
def SG{o:Oper}(a:IM o.op=true)(g:Operand->Value):∀ c,o.op≠.defer c:=fun c h=>by rw[h]at a;cases a
def A4B{o:Oper}(i:IM o.op=true){a a':Act}{w:World}{K:Act->World->Prop}{Q:Exit->Act->World->Prop}(h:uW P o (a,w)=some (a',w'))(g:K a' w'):wpO P rd o a w K Q:=by
 obtain⟨v,h1,j⟩:=yB h;simp only at h1 j;subst j;unfold wpO Oper.wpIn;refine⟨fun f n=>(by rw[YI i]at n;cases n),?_⟩;rw[Oper.semAt_eq _ _ _ (SG i a.eval)];cases b:o.op<;>rw[b]at i h1<;>first
  | cases i;done
  | skip
 .have e:(execOp a.eval o)=pure (.value (a.eval ‹Operand›)):=by unfold execOp;rw[b]
  rw[e];cases h1;exact g
 .have e:(execOp a.eval o)=pure (.value (a.eval ‹Operand›)):=by unfold execOp;rw[b]
  rw[e];cases h1;exact g
 .rename_i t x;have e:(execOp a.eval o)=(do pure (.value (<- Instr.loadAt t (a.eval x)))):=by unfold execOp;rw[b]
  have h1:(Instr.loadAt t (a.eval x)).run P w=.ok v w':=h1;rw[e];simp only[A4,h1,Result.andThen,Sem.run_pure];exact g
 .rename_i t x y;have e:(execOp a.eval o)=(do Instr.storeAt t (a.eval x) (a.eval y);pure .skip):=by unfold execOp;rw[b]
  have h1:(do Instr.storeAt t (a.eval x) (a.eval y);pure undef:Sem Value).run P w=.ok v w':=h1;rw[e];simp only[A4]at h1 ⊢;cases hr:(Instr.storeAt t (a.eval x) (a.eval y)).run P w with
  | ok u w2=>rw[hr]at h1;simp only[Result.andThen,Sem.run_pure]at h1 ⊢;cases h1;exact g
  | halt x w2=>rw[hr]at h1;cases h1
def A5c{o:Oper}(f:IM o.op=true){a:Act}{w:World}{K:Act->World->Prop}{Q:Exit->Act->World->Prop}(g:∀ c a w,¬Q (.panic c) a w)(h:wpO P rd o a w K Q):∃ a' w',uW P o (a,w)=some (a',w')/\K a' w':=by
 unfold wpO Oper.wpIn at h;obtain⟨_,h⟩:=h;rw[Oper.semAt_eq _ _ _ (SG f a.eval)]at h;cases b:o.op<;>rw[b]at f<;>first
  | cases f;done
  | skip
 .rename_i x;have e:(execOp a.eval o)=pure (.value (a.eval x)):=by unfold execOp;rw[b]
  rw[e]at h;exact⟨_,_,oF (s:=(a,w)) (v:=a.eval x) (w':=w) (by rw[b];rfl),h⟩
 .rename_i x;have e:(execOp a.eval o)=pure (.value (a.eval x)):=by unfold execOp;rw[b]
  rw[e]at h;exact⟨_,_,oF (s:=(a,w)) (v:=a.eval x) (w':=w) (by rw[b];rfl),h⟩
 .rename_i t x;have e:(execOp a.eval o)=(do pure (.value (<- Instr.loadAt t (a.eval x)))):=by unfold execOp;rw[b]
  rw[e]at h;simp only[A4]at h;cases hr:(Instr.loadAt t (a.eval x)).run P w with
  | ok v w' =>
    rw[hr]at h;exact⟨_,_,oF (s:=(a,w)) (v:=v) (w':=w') (by rw[b];exact hr),h⟩
  | halt y w' =>
    rw[hr]at h;cases y<;>first|exact absurd h (g _ _ _)|exact h.elim
 .rename_i t x y;have e:(execOp a.eval o)=(do Instr.storeAt t (a.eval x) (a.eval y);pure .skip):=by unfold execOp;rw[b]
  rw[e]at h;simp only[A4]at h;cases hr:(Instr.storeAt t (a.eval x) (a.eval y)).run P w with
  | ok u w' =>
    rw[hr]at h;refine⟨_,_,oF (s:=(a,w)) (v:=undef) (w':=w') ?_,h⟩;rw[b];show(do Instr.storeAt t (a.eval x) (a.eval y);pure undef:Sem Value).run P w=_;simp only[A4,hr,Result.andThen,Sem.run_pure]
  | halt z w' =>
    rw[hr]at h;cases z<;>first|exact absurd h (g _ _ _)|exact h.elim
def A09{a:Act}{e:Option Tmp}{u:Value}(h:∀ x y,d=some x->e=some y->x≠y):(a.put d v).put e u=(a.put e u).put d v:=by
 cases d with
 | none=>rfl
 | some x=>cases e with
   | none=>rfl
   | some y =>
     have b:=h x y rfl rfl;unfold Act.put;simp only;congr 1;exact Array.setIfInBounds_comm _ _ b
def iU{a:Act}{x:Operand}(h:∀ t,d=some t->t ∉ qR x):(a.put d v).eval x=a.eval x:=by
 cases x with
 | const c=>cases d<;>rfl
 | tmp t =>
   cases d with
   | none=>rfl
   | some y =>
     have:y≠t:=fun e=>h y rfl (by subst e;exact K9.2 rfl)
     unfold Act.put Act.eval;simp only[B9];rw[Array.getElem?_setIfInBounds_ne this]
 | _=>cases d<;>rfl
variable [Ora]
def CW(P:Program)(w:World)(t:TypeId)(p:Value):Prop :=
 ∃ b o C T fz s g,p=.pointer (some ⟨b,o,none⟩)/\w.heap[b]? = some (.cells C T fz)/\H6 P t=some s/\bE P t=some g/\o+s<=C.size/\o<C.size
def EE{t:TypeId}{b o s:Nat}{C:X4}{T:TypeId}{g:Bool}(hs:H6 P t=some s)(n:bE P t=some g)(h1:o+s<=C.size)(q:o<C.size):∃ v,∀ w:World,w.heap[b]? = some (.cells C T fz)->(Instr.loadAt t (.pointer (some ⟨b,o,none⟩))).run P w=.ok v w:=by
 have a:∀ w:World,w.heap[b]? = some (.cells C T fz)->∀ j v,C[o+j]? = some v->w.cell? ⟨b,o+j,none⟩=some v:=fun w hw j v hv=>by simp[World.cell?,hw,hv]
 cases g with
 | true =>
   refine⟨.agg ⟨(C.toList.drop o).take s⟩,fun w hw=>?_⟩;have p:((C.toList.drop o).take s).length=s:=by rw[H3,D7,S0];omega
   have f:=K8 (P:=P) (w:=w) (b:=b) (o:=o) p (fun j v i=>by
    have e:j<s:=by have:=(B1.1 i).1;omega
    rw[F0 e,I7,Q2]at i;exact a w hw j v i)
   unfold Instr.loadAt;simp[A4,Instr.sureAddr,loadVar,cS n,L5 hs,Result.andThen,f]
 | false =>
   refine⟨C[o],fun w hw=>?_⟩
   have:=a w hw 0 C[o] (by simp[q]);unfold Instr.loadAt;simp[A4,Instr.sureAddr,loadVar,cS n,Result.andThen,run_load,show w.cell? ⟨b,o,none⟩=some C[o]from by simpa using this]
def yP{b o:Nat}{T:TypeId}{fz:Nat×Nat}:∀ (vs:List Value) (i:Nat) (C:Array Value) (w w':World),w.heap[b]? = some (.cells C T fz)->o+i+vs.length<=C.size->(storeCells ⟨b,o,none⟩ vs i).run P w=.ok () w' ->
  (∀ k,k≠b->w'.heap[k]? = w.heap[k]?)/\∃ C',w'.heap[b]? = some (.cells C' T fz)/\C'.size=C.size
 | [],i,C,w,w',h,_,hr=>by cases hr;exact⟨fun _ _=>rfl,C,h,rfl⟩
 | v::r,i,C,w,w',h,hl,hr=>by
   simp only[C8]at hl;have f:o+i<C.size:=A2;have s:w.cell? ⟨b,o+i,none⟩=some C[o+i]:=by simp[World.cell?,h,f]
   have p:(w.setCell ⟨b,o+i,none⟩ v).heap[b]? = some (.cells (C.setIfInBounds (o+i) v) T fz):=by
    simp[World.setCell,H4,h]
   unfold storeCells at hr;simp only[A4,K8.add_none']at hr;have a:(store ⟨b,o+i,none⟩ v).run P w=.ok () (w.setCell ⟨b,o+i,none⟩ v)∨∃ x w2,(store ⟨b,o+i,none⟩ v).run P w=.halt x w2:=by
    unfold store;cases v<;>first
     | exact .inr ⟨_,_,rfl⟩
     | (simp only[Sem.run,s]
        split
        .exact .inr ⟨_,_,rfl⟩
        .exact .inl rfl)
   rcases a with a|⟨x,w2,a⟩
   .rw[a]at hr;simp only[Result.andThen]at hr;obtain⟨n,C',q,j⟩:=yP r (i+1) _ _ _ p (by simp;omega) hr;refine⟨fun k g=>?_,C',q,by rw[j];simp⟩;rw[n k g];simp only[World.setCell,H4];rw[A6 (fun e=>g e.symm)]
   .rw[a]at hr;cases hr
def GB{t:TypeId}{b o s:Nat}{C:X4}{T:TypeId}{y:Value}{w:World}(hs:H6 P t=some s)(hw:w.heap[b]? = some (.cells C T fz))(h1:o+s<=C.size)(hr:(Instr.storeAt t (.pointer (some ⟨b,o,none⟩)) y).run P w=.ok () w') :
  (∀ k,k≠b->w'.heap[k]? = w.heap[k]?)/\∃ C',w'.heap[b]? = some (.cells C' T fz)/\C'.size=C.size:=by
 unfold Instr.storeAt at hr;simp only[A4,Instr.sureAddr,storeVar,L5 hs,Result.andThen,Sem.run_pure]at hr;by_cases a:y.cells.size≠s
 .rw[A8 a]at hr;cases hr
 .rw[A6 a]at hr;have a:=Classical.not_not.1 a;exact yP y.cells.toList 0 C w w' hw (by rw[S0,a];omega) hr
structure OG (P:Program) (ops:List Oper) (s:Act×World):Prop where
 pl:∀ o ∈ ops,∀ t x,mY o.op=some (t,x)->CW P s.2 t (s.1.eval x)
 ap:∀ i j a b,i<j->ops[i]? = some a->ops[j]? = some b->tF b i=false->(gL a.op || gL b.op)=true->∀ t x u y,mY a.op=some (t,x)->mY b.op=some (u,y)->∀ p q,s.1.eval x=.pointer (some p)->s.1.eval y=.pointer (some q)->p.block≠q.block
def AN{b:Nat}:aP l b=true↔b ∈ l:=by
 unfold aP;rw[O2];constructor
 .rintro⟨x,h,e⟩;have:=A0 e;subst this;exact h
 .intro h;exact⟨b,h,eN b⟩
def LL{a:List Tmp}:∀ {l:List Oper} {k i:Nat} {o:Oper},A1Z a k l=true->l[i]? = some o->A9j a (k+i) o=true
 | [],k,i,o,_,h=>by simp at h
 | p::l,k,0,o,h,hi=>by
   simp at hi;subst hi;exact(B8 h).1
 | p::l,k,i+1,o,h,hi=>by
   have:=LL (l:=l) (k:=k+1) (i:=i) (o:=o) (B8 h).2 (by simpa using hi);rw[show k+(i+1)=k+1+i by omega];exact this
structure One (ops:List Oper) (i:Nat) (o:Oper):Prop where
 cls:IM o.op=true
 grd:o.guard=none
 ads:∀ p ∈ ops,∀ t x,mY p.op=some (t,x)->∀ d,o.dst=some d->d ∉ qR x
 lt:∀ e ∈ o.after,Region.binds .any e=true->e.on<i
def nS{ops:List Oper}(h:lS ops=true){i:Nat}{o:Oper}(hi:ops[i]? = some o):One ops i o:=by
 have h1:=LL (B8 h).1 hi;rw[F7]at h1;unfold A9j at h1;obtain⟨b,h1⟩:=B8 h1;obtain⟨a2,h1⟩:=B8 h1;obtain⟨a3,a4⟩:=B8 h1;refine⟨b,?_,fun p hp t x hx d j hm=>?_,fun e he a=>?_⟩
 .cases f:o.guard with
  | none=>rfl
  | some g=>rw[f]at a2;cases a2
 .have:aP (A3u ops) d=true:=AN.2 (List.mem_flatMap.2 ⟨p,hp,by rw[hx];exact hm⟩);unfold DU at a3;rw[j]at a3;simp only at a3;rw[this]at a3;cases a3
 .have:=fY.1 a4 e he;rw[a]at this;exact A1 this
def KQ{p:Oper->Oper->Bool}{ops:List Oper}(h:GP p ops=true){i j:Nat}{a b:Oper}(f:i<j)(hi:ops[i]? = some a)(g:ops[j]? = some b)(he:tF b i=false):p a b=true:=by
 unfold GP at h;have e:=(B1.1 g).1
 have:=D5.1 (D5.1 h j (T7.2 e)) i (T7.2 f);rw[hi,g]at this;simp only[he,R0]at this;exact this
def KU{o:Oper}{a:Act}(b:∀ t,d=some t->t ∉ A06 o.op)(f:IM o.op=true):oO o.op (a.put d v).eval=oO o.op a.eval:=by
 cases g:o.op<;>rw[g]at f b<;>first
  | cases f;done
  | skip
 .unfold oO;simp only;rw[iU b]
 .unfold oO;simp only;rw[iU b]
 .unfold oO;simp only;rw[iU b]
 .unfold oO;simp only;rw[iU (fun t e hm=>b t e (B6.2 (.inl hm))),iU (fun t e hm=>b t e (B6.2 (.inr hm)))]
def xR{o:Oper}{s:Act×World}(e:IM o.op=true)(a:gL o.op=false)(hp:∀ t x,mY o.op=some (t,x)->CW P s.2 t (s.1.eval x))(h:(oO o.op s.1.eval).run P s.2=.ok v w'):w'=s.2:=by
 cases j:o.op<;>rw[j]at e a h hp<;>first
  | cases e;done
  | cases a;done
  | skip
 .cases h;rfl
 .cases h;rfl
 .rename_i t x;obtain⟨b,o',C,T,fz,sz,g,q,f,z,n,i,p⟩:=hp t x rfl;obtain⟨u,hu⟩:=EE (P:=P) (T:=T) (fz:=fz) z n i p;have h:(Instr.loadAt t (s.1.eval x)).run P s.2=.ok v w':=h;rw[q,hu s.2 f]at h;cases h;rfl
def yO{o:Oper}{s:Act×World}(a:gL o.op=true)(hp:∀ t x,mY o.op=some (t,x)->CW P s.2 t (s.1.eval x))(h:(oO o.op s.1.eval).run P s.2=.ok v w') :
  ∃ t x b o' C T fz,mY o.op=some (t,x)/\s.1.eval x=.pointer (some ⟨b,o',none⟩)/\s.2.heap[b]? = some (.cells C T fz)/\(∀ k,k≠b->w'.heap[k]? = s.2.heap[k]?)/\∃ C',w'.heap[b]? = some (.cells C' T fz)/\C'.size=C.size:=by
 cases p:o.op<;>rw[p]at a h hp<;>first
  | cases a;done
  | skip
 rename_i t x y;obtain⟨b,o',C,T,fz,sz,g,f,e,q,A,j,B⟩:=hp t x rfl;have h:(do Instr.storeAt t (s.1.eval x) (s.1.eval y);pure undef:Sem Value).run P s.2=.ok v w':=h;simp only[A4]at h;cases hr:(Instr.storeAt t (s.1.eval x) (s.1.eval y)).run P s.2 with
 | ok u w2 =>
   rw[hr]at h;simp only[Result.andThen,Sem.run_pure]at h;cases h;rw[f]at hr;obtain⟨i,n⟩:=GB q e j hr;exact⟨t,x,b,o',C,T,fz,rfl,f,e,i,n⟩
 | halt z w2=>rw[hr]at h;cases h
def CW.keep{w:World}{t:TypeId}{p:Value}(h:CW P w t p)(e:∀ (b:Nat) (C:Array Value) (T:TypeId) (fz:Nat×Nat),w.heap[b]? = some (.cells C T fz)->∃ C',w'.heap[b]? = some (.cells C' T fz)/\C'.size=C.size):CW P w' t p:=by
 obtain⟨b,o,C,T,fz,s,g,i,a,j,f,q,u⟩:=h;obtain⟨C',h1,n⟩:=e b C T fz a;exact⟨b,o,C',T,fz,s,g,i,h1,j,f,A2,A2⟩
def OG.step{ops:List Oper}{s A:Act×World}{i:Nat}{o:Oper}(hr:lS ops=true)(D:OG P ops s)(hi:ops[i]? = some o)(h:uW P o s=some A):OG P ops A:=by
 obtain⟨v,h1,K⟩:=yB h;have H:=nS hr hi;have f:=D1 hi;have g:∀ p ∈ ops,∀ t x,mY p.op=some (t,x)->A.1.eval x=s.1.eval x:=fun p hp t x hx=>by rw[K];exact iU (H.ads p hp t x hx)
 have L:∀ (b:Nat) (C:Array Value) (T:TypeId) (fz:Nat×Nat),s.2.heap[b]? = some (.cells C T fz)->∃ C',A.2.heap[b]? = some (.cells C' T fz)/\C'.size=C.size:=fun b C T fz B=>by
  cases n:gL o.op with
  | false=>rw[xR H.cls n (fun t x hx=>D.pl o f t x hx) h1];exact⟨C,B,rfl⟩
  | true =>
    obtain⟨t,x,b',o',X,Y,R,Z,W,S,O,C',M,Q⟩:=yO n (fun t x hx=>D.pl o f t x hx) h1;by_cases e:b=b'
    .subst e;rw[S]at B;cases B;exact⟨C',M,Q⟩
    .exact⟨C,by rw[O b e];exact B,rfl⟩
 refine⟨fun p hp t x hx=>by rw[g p hp t x hx];exact(D.pl p hp t x hx).keep L,fun i j a b E h3 J V N t x u y G I p q F z=>?_⟩;rw[g a (D1 h3) t x G]at F;rw[g b (D1 J) u y I]at z;exact D.ap i j a b E h3 J V N t x u y G I p q F z
def A3C{ops:List Oper}{s s1 s2:Act×World}{i j:Nat}{a b:Oper}(hr:lS ops=true)(N:OG P ops s)(G:i<j)(hi:ops[i]? = some a)(K:ops[j]? = some b)(he:tF b i=false)(h1:uW P a s=some s1)(h2:uW P b s1=some s2):∃ t,uW P b s=some t/\uW P a t=some s2:=by
 have S:=nS hr hi;have M:=nS hr K;have ma:=D1 hi;have mb:=D1 K;have f:=KQ (B8 hr).2 G hi K he;unfold B2B at f;obtain⟨i1,f⟩:=B8 f;obtain⟨i2,f⟩:=B8 f;obtain⟨i3,i4⟩:=B8 f;have W:∀ t,a.dst=some t->t ∉ A06 b.op:=fun t Z hm=>by
  unfold DU at i2;rw[Z]at i2;simp only at i2;rw[AN.2 hm]at i2;cases i2
 have R:∀ t,b.dst=some t->t ∉ A06 a.op:=fun t Z hm=>by
  unfold DU at i3;rw[Z]at i3;simp only at i3;rw[AN.2 hm]at i3;cases i3
 have V:∀ x y,a.dst=some x->b.dst=some y->x≠y:=fun x y hx hy e=>by
  rw[hx,hy]at i1;simp only at i1;subst e;rw[eN]at i1;cases i1
 obtain⟨v,L,e2⟩:=yB h1;obtain⟨u,B,e4⟩:=yB h2;obtain⟨a1,w1⟩:=s1;obtain⟨a2,w2⟩:=s2;obtain⟨a0,w0⟩:=s;simp only at L e2 B e4;subst e2;subst e4;rw[KU W M.cls]at B;suffices hh:∃ w',(oO b.op a0.eval).run P w0=.ok u w'/\(oO a.op a0.eval).run P w'=.ok v w2 by
  obtain⟨w',q1,q2⟩:=hh;refine⟨(a0.put b.dst u,w'),oF (s:=(a0,w0)) q1,?_⟩
  have:=oF (P:=P) (o:=a) (s:=(a0.put b.dst u,w')) (v:=v) (w':=w2) (by show(oO a.op (a0.put b.dst u).eval).run P w'=_;rw[KU R S.cls];exact q2);rw[this];simp only;rw[A09 V]
 have F:∀ t x,mY a.op=some (t,x)->CW P w0 t (a0.eval x):=fun t x hx=>N.pl a ma t x hx
 have A:∀ t x,mY b.op=some (t,x)->CW P w0 t (a0.eval x):=fun t x hx=>N.pl b mb t x hx
 have n:∀ {o:Oper} {w w':World} {r:Value},IM o.op=true->gL o.op=false->(∀ t x,mY o.op=some (t,x)->∃ p q C T fz s g,a0.eval x=.pointer (some ⟨p,q,none⟩)/\w.heap[p]? = some (.cells C T fz)/\w'.heap[p]? = some (.cells C T fz)/\H6 P t=some s/\bE P t=some g/\q+s<=C.size/\q<C.size)->(oO o.op a0.eval).run P w=.ok r w->(oO o.op a0.eval).run P w'=.ok r w':=fun{o w w' r} hc I hp h=>by
  cases ho:o.op<;>rw[ho]at hc I h hp<;>first
   | cases hc;done
   | cases I;done
   | skip
  .cases h;rfl
  .cases h;rfl
  .rename_i t x;obtain⟨p,q,C,T,fz,sz,g,f1,f2,f3,f4,f5,f6,f7⟩:=hp t x rfl;obtain⟨z,hz⟩:=EE (P:=P) (T:=T) (fz:=fz) f4 f5 f6 f7;have h:(Instr.loadAt t (a0.eval x)).run P w=.ok r w:=h;show(Instr.loadAt t (a0.eval x)).run P w'=.ok r w';rw[f1,hz w f2]at h;rw[f1,hz w' f3];cases h;rfl
 cases H:gL a.op with
 | false =>
   have hw:w1=w0:=xR (s:=(a0,w0)) S.cls H F L;subst hw;refine⟨w2,B,?_⟩;refine n S.cls H (fun t x hx=>?_) L;obtain⟨p,q,C,T,fz,sz,g,f1,f2,f3,f4,f5,f6⟩:=F t x hx;cases E:gL b.op with
   | false =>
     have X:w2=w1:=xR (s:=(a0,w1)) M.cls E A B;subst X;exact⟨p,q,C,T,fz,sz,g,f1,f2,f2,f3,f4,f5,f6⟩
   | true =>
     obtain⟨Q,x',b',o',C0,T0,Y,g1,g2,g3,g4,_⟩:=yO (s:=(a0,w1)) E A B;have D:=N.ap i j a b G hi K he (by rw[H,E];rfl) t x Q x' hx g1 _ _ f1 g2;exact⟨p,q,C,T,fz,sz,g,f1,f2,(g4 p D).trans f2,f3,f4,f5,f6⟩
 | true =>
   have E:gL b.op=false:=by
    cases h:gL b.op with
    | false=>rfl
    | true=>rw[H,h]at i4;cases i4
   obtain⟨Q,x',b',o',C0,T0,Y,g1,g2,g3,g4,C1,g5,g6⟩:=yO (s:=(a0,w0)) H F L;have J:∀ t x,mY b.op=some (t,x)->CW P w1 t (a0.eval x):=fun t x hx=>(A t x hx).keep fun b C T fz O=>by
    by_cases e:b=b'
    .subst e;rw[g3]at O;cases O;exact⟨C1,g5,g6⟩
    .exact⟨C,by rw[g4 b e];exact O,rfl⟩
   have hw:w2=w1:=xR (s:=(a0,w1)) M.cls E J B;subst hw;refine⟨w0,?_,L⟩;refine n M.cls E (fun t x hx=>?_) B;obtain⟨p,q,C,T,fz,sz,g,f1,f2,f3,f4,f5,f6⟩:=A t x hx;have D:=N.ap i j a b G hi K he (by rw[H,E];rfl) Q x' t x g1 hx _ _ g2 f1;exact⟨p,q,C,T,fz,sz,g,f1,(g4 p (fun e=>D e.symm)).trans f2,f2,f3,f4,f5,f6⟩
def GH(P:Program)(ops:List Oper):H9->Act×World->Option (Act×World)
 | [],s=>some s
 | i::l,s=>match ops[i]? with
   | some o=>match uW P o s with
     | some s=>GH P ops l s
     | none=>none
   | none=>GH P ops l s
def pJ{ops:List Oper}(hr:lS ops=true){j:Nat}{b:Oper}(f:ops[j]? = some b){l2:H9}{r:Act×World}:∀ (l1:List Nat) (s:Act×World),OG P ops s->(∀ i ∈ l1,i<j/\tF b i=false)->GH P ops (l1++j::l2) s=some r->∃ s1,uW P b s=some s1/\GH P ops (l1++l2) s1=some r
 | [],s,hg,_,h=>by
   simp only[G7,GH,f]at h;split at h
   .rename_i s1 h1;exact⟨s1,h1,h⟩
   .cases h
 | i::l1,s,hg,hl,h=>by
   obtain⟨h0,he⟩:=hl i B4;have e:∀ i ∈ l1,i<j/\tF b i=false:=fun k g=>hl k (C4 _ g)
   simp only[S9,GH]at h ⊢;cases hi:ops[i]? with
   | none =>
     rw[hi]at h;exact pJ hr f l1 s hg e h
   | some a =>
     rw[hi]at h;simp only at h ⊢;split at h
     .rename_i n h1;obtain⟨s1,p,o⟩:=pJ hr f l1 n (hg.step hr hi h1) e h;obtain⟨t,t1,t2⟩:=A3C hr hg h0 hi f he h1 p;exact⟨t,t1,by rw[t2];exact o⟩
     .cases h
def lG(n:Nat)(listed:Array Bool):H9:=(List.range n).filter fun i=>!listed.getD i true
def rV{n:Nat}{i:Nat}:i ∈ lG n listed↔i<n/\listed.getD i true=false:=by
 unfold lG;rw[P9,T7];simp
def GM(n:Nat)(listed:Array Bool):(lG n listed).Pairwise (· < ·):=List.Pairwise.filter _ List.pairwise_lt_range
def A05{n:Nat}{i:Nat}{l1 l2:H9}(hi:i<listed.size)(h:lG n listed=l1++i::l2):lG n (listed.setIfInBounds i true)=l1++l2:=by
 have hp:=GM n listed;rw[h]at hp;have b:∀ k ∈ l1++l2,(k != i)=true:=fun k a=>by
  have hp:=List.pairwise_append.1 hp;rcases B6.1 a with a|a
  .have:=hp.2.2 k a i B4;simp;omega
  .have:=(List.pairwise_cons.1 hp.2.1).1 k a;simp;omega
 have e:lG n (listed.setIfInBounds i true)=(lG n listed).filter fun k=>k != i:=by
  unfold lG;rw[List.filter_filter];apply List.filter_congr;intro k _;simp only[B9,G3];by_cases e:i=k
  .subst e;simp[hi]
  .simp[e,Ne.symm e]
 rw[e,h,List.filter_append,List.filter_cons];have f:(i != i)=false:=by simp
 rw[f];simp only[K1,if_false];rw[eC.2 fun k a=>b k (B6.2 (.inl a)),eC.2 fun k a=>b k (B6.2 (.inr a))]
def DZ{ops:Array Oper}(hr:lS ops.toList=true){Q:Exit->Act->World->Prop}:∀ (fuel:Nat) (listed:Array Bool) (a:Act) (w:World) (r:Act×World),listed.size=ops.size->OG P ops.toList (a,w)->(lG ops.size listed).length=fuel->GH P ops.toList (lG ops.size listed) (a,w)=some r->Q .normal r.1 r.2->jB P rd .any ops Q fuel listed a w
 | 0,listed,a,w,r,hsz,hg,hl,h,hq=>by
   have h0:=G2.1 hl;rw[h0]at h;cases h;refine⟨?_,hq⟩;rw[cN];intro i hi;have:i ∈ lG ops.size listed:=by
    unfold Region.ready at hi;rw[P9]at hi;unfold lG;rw[P9];exact⟨hi.1,(B8 hi.2).1⟩
   rw[h0]at this;cases this
 | fuel+1,listed,a,w,r,hsz,hg,hl,h,hq=>by
   have j:∀ {i:Nat},i<ops.size->∃ o,ops.toList[i]? = some o/\ops[i]? = some o:=fun{i} hi=>⟨ops[i],by simp[hi],by simp[hi]⟩
   refine⟨fun K=>?_,fun i hi=>?_⟩
   ·
    cases g:lG ops.size listed with
    | nil=>rw[g]at hl;cases hl
    | cons i t =>
      exfalso;have C:i ∈ lG ops.size listed:=by rw[g];exact B4
      obtain⟨i1,i2⟩:=rV.1 C;obtain⟨o,s,z⟩:=j i1;have A:=nS hr s;have f:=GM ops.size listed;rw[g]at f;have u:∀ k,k<i->listed.getD k false=true:=fun k B=>by
       have p:k<listed.size:=A2;cases hv:listed.getD k true with
       | true=>rw[<- hv];simp[B9,p]
       | false =>
         have:k ∈ lG ops.size listed:=rV.2 ⟨A2,hv⟩;rw[g]at this;rcases B3.1 this with e|hm
         .omega
         .have:=(List.pairwise_cons.1 f).1 k hm;omega
      have:i ∈ Region.ready .any ops listed:=by
       unfold Region.ready;rw[P9,T7];refine⟨i1,?_⟩;rw[i2,z];simp only[Bool.not_false,iA,L8,cK];rw[fY];intro e he;cases M:Region.binds .any e with
       | false=>rfl
       | true=>rw[u e.on (A.lt e he M)];rfl
      rw[K]at this;cases this
   .have hi':=hi;unfold Region.ready at hi;rw[P9,T7]at hi;obtain⟨i1,i2⟩:=hi;obtain⟨o,s,z⟩:=j i1;have A:=nS hr s;rw[z]at i2;obtain⟨i2,i3⟩:=B8 i2;simp only[L8,cK]at i3;have E:listed.getD i true=false:=by simpa using i2
    have x:i ∈ lG ops.size listed:=rV.2 ⟨i1,E⟩;obtain⟨l1,l2,b⟩:=List.append_of_mem x;have f:=GM ops.size listed;rw[b]at f;have G:∀ k ∈ l1,k<i/\tF o k=false:=fun k B=>by
     refine⟨(List.pairwise_append.1 f).2.2 k B i B4,?_⟩;cases he:tF o k with
     | false=>rfl
     | true =>
       exfalso;unfold tF at he;rw[Array.any_eq_true']at he;obtain⟨e,hm,he⟩:=he;obtain⟨I,F⟩:=B8 he;have F:=A0 F
       have:=(fY.1 i3) e hm;rw[I,F]at this;simp only[Q9,R0]at this;have p:=(rV (n:=ops.size) (listed:=listed) (i:=k)).1 (by rw[b];exact B6.2 (.inl B));have D:k<listed.size:=A2;have q:=p.2;simp[B9,D]at this q;rw[this]at q;cases q
    rw[b]at h;obtain⟨s1,H,J⟩:=pJ hr s l1 (a,w) hg G h;have Y7:=A05 (n:=ops.size) (listed:=listed) (i:=i) (l1:=l1) (l2:=l2) A2 b;obtain⟨L,w1⟩:=s1;unfold iE;rw[z];simp only;have hw:Region.wanted o (yielded ops a.tmps)=true:=by unfold Region.wanted;rw[A.grd]
    rw[A8 hw];refine A4B A.cls H (DZ hr fuel (listed.setIfInBounds i true) L w1 r (by simpa using hsz) (hg.step hr s H) ?_ (by rw[Y7];exact J) hq);rw[Y7];have:(l1++i::l2).length=fuel+1:=by rw[<- b];exact hl
    simp at this ⊢;omega
def DN{ops:Array Oper}(hr:lS ops.toList=true){Q:Exit->Act->World->Prop}:∀ (d k:Nat) (a:Act) (w:World),k+d=ops.size->wpL P rd ops (fun e a' w'=>e=.normal/\Q e a' w') (ops.toList.drop k) a w->∃ r,GH P ops.toList (List.range' k d) (a,w)=some r/\Q .normal r.1 r.2
 | 0,k,a,w,hk,h=>by
   have:ops.toList.drop k=[]:=S5 (by simp;omega);rw[this]at h;exact⟨(a,w),rfl,h.2⟩
 | d+1,k,a,w,hk,h=>by
   have b:k<ops.toList.length:=by simp;omega
   rw[j9 b]at h;have f:=nS hr (A5 b);unfold wpL at h;have hw:Region.wanted ops.toList[k] (yielded ops a.tmps)=true:=by unfold Region.wanted;rw[f.grd]
   rw[A8 hw]at h;obtain⟨a',w',h1,g⟩:=A5c f.cls (fun c a w hh=>by cases hh.1) h;obtain⟨r,r1,i⟩:=DN hr d (k+1) a' w' A2 g;refine⟨r,?_,i⟩;rw[List.range'_succ];simp only[GH,A5 b,h1];exact r1
def A4e{ops:Array Oper}(hr:lS ops.toList=true){Q:Exit->Act->World->Prop}{a:Act}{w:World}(b:∀ w',w'.heap=w.heap->OG P ops.toList (a,w'))(h:∀ d,wpL P rd ops (fun e a' w'=>e=.normal/\Q e a' w') ops.toList a { w with drawn:=d })(d:Nat):jB P rd .any ops Q ops.size (Array.replicate ops.size false) a { w with drawn:=d }:=by
 obtain⟨r,r1,f⟩:=DN hr ops.size 0 a { w with drawn:=d } A2 (by simpa using h d);have e:lG ops.size (Array.replicate ops.size false)=List.range' 0 ops.size:=by
  unfold lG;rw[List.range_eq_range',eC];intro i hi;have:i<ops.size:=by have:=List.mem_range'.1 hi;omega
  simp[B9,this]
 exact DZ hr ops.size _ a _ r (by simp) (b _ rfl) (by rw[e];simp) (by rw[e];exact r1) f
end
end
end Go.Sx
