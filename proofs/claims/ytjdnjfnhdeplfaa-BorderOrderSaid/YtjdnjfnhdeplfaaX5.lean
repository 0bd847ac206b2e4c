import Derived.Test.YtjdnjfnhdeplfaaX4
import Derived.MapKept
import Derived.WideKeyRuns
import Derived.Lib.Builder
import Derived.LoopNIn
import Derived.RangeFuncRecord
set_option linter.all false
set_option maxRecDepth 100000
set_option maxHeartbeats 4000000
namespace Go.Sx
open Go
variable {ks l ts:G6}{k' v v' x':Value}{cs:List Frame}{clock k pi:Nat}{y:MTy}{d:Option Tmp}{kt pt ty:TypeId}{r us vs:List U}{rows rs:List (List U)}{es es':Array MapEntry}{hs xs:D0}{c:Code}{e':MapEntry}{tys:List TypeId}{w':World}{fz:Nat×Nat}{listed:Array Bool}
section
open Go
variable [Ora]
section
variable {P:Program} {base:Nat} {ρ:Ren} {m m':Mem} {w:World}
def pP:∀ {ts:G6} {cs cs':D0},uI ts cs=true->(∀ t ∈ ts,t<10)->LR ρ cs cs'->(cs.map (D5 Ora.env)).map F3=ts/\cs'=(cs.map (D5 Ora.env)).map P8
 | [],[],cs',_,_,hl=>by cases hl.nil_inv;exact⟨rfl,rfl⟩
 | t::ts,v::vs,cs',h,ht,hl=>by
   obtain⟨h1,f⟩:=B6 (show(Nat.beq (F9 v) t && uI ts vs)=true from h);have h1:=A0 h1;obtain⟨v',r,rfl,g1,g2⟩:=hl.tail;obtain⟨a,b⟩:=pP f (fun x g=>ht x (C5 _ g)) g2;obtain⟨c,d⟩:=r9 g1 (by rw[h1];exact ht t B5);have e:P8 (D5 Ora.env v)=v':=by unfold P8;rw[c];rfl
   exact⟨by rw[B9,B9,a,d,h1],by rw[B9,B9,e,<- b]⟩
 | [],_::_,_,h,_,_=>by cases h
 | _::_,[],_,h,_,_=>by cases h
def gB{a:Bool}{cs:D0}(h:kV a ts v=some cs)(g:∀ t ∈ ts,t<10)(f:VR ρ v v'):v'=U2 a (cs.map (D5 Ora.env))/\(cs.map (D5 Ora.env)).map F3=ts:=by
 unfold kV at h;split at h
 .rename_i c;obtain⟨h1,h⟩:=A2 h;cases h;obtain⟨cs',rfl,i⟩:=T8 f;obtain⟨b,e⟩:=pP h1 g i;exact⟨by rw[e];rfl,b⟩
 .cases h
 .obtain⟨h1,h⟩:=A2 h;cases h;obtain⟨b,e⟩:=pP h1 g (LR.cons f LR.nil);refine⟨?_,b⟩
  have:=U4 List.head? e
  simpa [U2]using this
def sZ{t:Nat}(h:dM P t=some k):k<10:=by
 unfold dM at h;split at h
 .cases h;decide
 .cases h;have:=K6 ‹_›;omega
 .cases h;decide
 .cases h
def EW:∀ {g:List Field} {i:Nat} {l:G6},qS P g i=some l->∀ t ∈ l,t<10
 | [],i,l,h,t,e=>by cases h;cases e
 | f::g,i,l,h,t,e=>by
   unfold qS at h;split at h
   .rename_i a b h1 j;obtain⟨_,h⟩:=A2 h;cases h;rcases A8.1 e with rfl|e
    .exact sZ h1
    .exact EW j t e
   .cases h
def AF{T:TypeId}(h:HS P T=some y):P.underlying T=some (.map y.kt y.vt)/\lD P y.kt=some (y.ka,y.ks)/\IY P y.vt=some (y.va,y.vs)/\0<y.ks.length/\(∀ t ∈ y.ks,t<10)/\(∀ t ∈ y.vs,t<10)/\(y.va=false->y.vs.length=1):=by
 unfold HS at h;split at h
 .rename_i kt vt hu;split at h
  .rename_i ka k ks va vs h1 a;cases h;refine⟨hu,h1,a,Nat.succ_pos _,?_,?_,?_⟩
   .intro t b;unfold lD at h1;split at h1
    .cases hs:P.stoodInHeld kt with
     | true=>rw[hs]at h1;cases h1
     | false =>
       rw[hs]at h1;simp only[D4]at h1;split at h1
       .rename_i l f;cases h1;exact EW f t b
       .cases h1
    .split at h1
     .rename_i z g;cases h1;simp only[A8,C4,or_false]at b;subst b;exact sZ g
     .cases h1
   .intro t b;unfold IY at a;split at a
    .obtain⟨h3,a⟩:=A2 a;cases a;exact A1 (D3.1 h3 t b)
    .obtain⟨h3,a⟩:=A2 a;cases a;simp only[A8,C4,or_false]at b;subst b;exact A1 h3
    .cases a
   .intro e;have e:va=false:=e;subst e;unfold IY at a;split at a
    .obtain⟨_,a⟩:=A2 a;cases a
    .obtain⟨_,a⟩:=A2 a;cases a;rfl
    .cases a
  .cases h
 .cases h
def JH{t:TypeId}{u v:U}(h:dM P t=some k)(h1:F3 u=k)(f:F3 v=k)(n:Nat)(w:World):(Op.equalIn (n+1) t (P8 u) (P8 v)).run P w=.ok (isU u v) w:=by
 have hk:=sZ h;unfold dM at h;split at h
 .rename_i hu;cases h;cases u<;>simp only[F3]at h1<;>first|omega|skip
  .have:=K6 ‹_›;omega
  .cases v<;>simp only[F3]at f<;>first|omega|skip
   .have:=K6 ‹_›;omega
   .simp[P8,toV,isU,eqU,Op.equalIn,A4,C8 hu,Result.andThen]
 .rename_i j hu;cases h;cases u with
  | int a x =>
    cases v with
    | int b z =>
      have i:=nL h1;have g:=nL f;subst i;subst g;simp[P8,toV,isU,eqU,Op.equalIn,A4,C8 hu,Result.andThen]
    | bool b=>simp only[F3]at f;have:=K6 j;omega
    | str s=>simp only[F3]at f;have:=K6 j;omega
    | seq _ _ _=>simp only[F3]at f;omega
    | none=>simp only[F3]at f;omega
  | bool b=>simp only[F3]at h1;have:=K6 j;omega
  | str s=>simp only[F3]at h1;have:=K6 j;omega
  | seq _ _ _=>simp only[F3]at h1;omega
  | none=>simp only[F3]at h1;omega
 .rename_i hu;cases h;cases u<;>simp only[F3]at h1<;>first|omega|skip
  .have:=K6 ‹_›;omega
  .cases v<;>simp only[F3]at f<;>first|omega|skip
   .have:=K6 ‹_›;omega
   .rename_i p q
    have:=run_equalIn_string (P:=P) w n t ⟨⟨p⟩⟩ ⟨⟨q⟩⟩ hu;have e:∀ s:List UInt8,P8 (.str s)=.string ⟨⟨s⟩⟩:=fun _=>rfl
    rw[e,e,this];simp[isU,eqU,ByteArray.toList_eq]
 .cases h
def PZ{t:TypeId}{d:TypeDesc}{u v:U}(g:P.underlying t=some d)(h:dM P t=some k)(h1:F3 u=k)(f:F3 v=k):Instr.sameNow d (P8 u) (P8 v)=some (isU u v):=by
 unfold dM at h;split at h
 .rename_i hu;rw[hu]at g;cases g;cases h;cases u<;>simp only[F3]at h1<;>first|omega|skip
  .have:=K6 ‹_›;omega
  .cases v<;>simp only[F3]at f<;>first|omega|skip
   .have:=K6 ‹_›;omega
   .simp[P8,toV,isU,eqU,Instr.sameNow]
 .rename_i j hu;rw[hu]at g;cases g;cases h;cases u with
  | int a x =>
    cases v with
    | int b z =>
      have n:=nL h1;have i:=nL f;subst n;subst i;simp[P8,toV,isU,eqU,Instr.sameNow]
    | bool b=>simp only[F3]at f;have:=K6 j;omega
    | str s=>simp only[F3]at f;have:=K6 j;omega
    | seq _ _ _=>simp only[F3]at f;have:=K6 j;omega
    | none=>simp only[F3]at f;have:=K6 j;omega
  | bool b=>simp only[F3]at h1;have:=K6 j;omega
  | str s=>simp only[F3]at h1;have:=K6 j;omega
  | seq _ _ _=>simp only[F3]at h1;have:=K6 j;omega
  | none=>simp only[F3]at h1;have:=K6 j;omega
 .rename_i hu;rw[hu]at g;cases g;cases h;cases u<;>simp only[F3]at h1<;>first|omega|skip
  .have:=K6 ‹_›;omega
  .cases v<;>simp only[F3]at f<;>first|omega|skip
   .have:=K6 ‹_›;omega
   .rename_i p q;have e:(ByteArray.mk ⟨p⟩ == ByteArray.mk ⟨q⟩)=(p == q):=by
     show(Array.mk p == Array.mk q)=_;rw[I0,beq_iff_eq,beq_iff_eq];exact⟨fun h=>by injection h,fun h=>by rw[h]⟩
    simp[P8,toV,isU,eqU,Instr.sameNow,e]
 .cases h
def oW{t:TypeId}(h:dM P t=some k){X:D0}{i:Nat}(f:X[i]? = some v)(w:World):(part t ⟨X⟩ i).run P w=.ok v w:=by
 have a:∀ d,P.underlying t=some d->(match d with|.struct _|.array _ _=>False|_=>True)->(part t ⟨X⟩ i).run P w=.ok v w:=fun d b e=>by
  cases d<;>simp only at e<;>simp[part,isAgg,A4,C8 b,Result.andThen,f]
 unfold dM at h;split at h
 .exact a _ ‹_› trivial
 .exact a _ ‹_› trivial
 .exact a _ ‹_› trivial
 .cases h
def yC:∀ {o:List Field} {i:Nat} {ks:G6} {us vs:List U} {p q:D0},qS P o i=some ks->us.map F3=ks->vs.map F3=ks->p.length=i->q.length=i->∀ (n:Nat) (w:World),(Op.eqFields (n+1) ⟨p++us.map P8⟩ ⟨q++vs.map P8⟩ o).run P w=.ok (R1 us vs) w
 | [],i,ks,us,vs,p,q,h,h1,h2,hp,hq,n,w=>by
   cases h;have e:us=[]:=by simpa using h1
   have b:vs=[]:=by simpa using h2
   subst e;subst b;simp[Op.eqFields,R1]
 | f::o,i,ks,us,vs,p,q,h,h1,h2,hp,hq,n,w=>by
   unfold qS at h;split at h
   .rename_i t l g B;obtain⟨A,h⟩:=A2 h;cases h;obtain⟨j,a⟩:=B6 A;have a:=A0 a;have z:f.name ≠ "_":=by simpa using j
    cases us with
    | nil=>cases h1
    | cons u us =>
      cases vs with
      | nil=>cases h2
      | cons v vs =>
        simp only[B9,I3]at h1 h2;have g1:(p++(u::us).map P8)[f.offset]? = some (P8 u):=by rw[a,<- hp,D6 (A7 _)];simp
        have g2:(q++(v::vs).map P8)[f.offset]? = some (P8 v):=by rw[a,<- hq,D6 (A7 _)];simp
        have e:=oW g g1 w;have b:=oW g g2 w;have x:=JH g h1.1 h2.1 n w;have s:=yC (p:=p++[P8 u]) (q:=q++[P8 v]) B h1.2 h2.2 (by simp[hp]) (by simp[hq]) n w;rw[S4,S4]at s;unfold Op.eqFields;rw[B2 z];simp only[R1];cases hs:isU u v with
        | false =>
          simp only[A4,e,b,x,hs,Result.andThen_ok];simp
        | true =>
          simp only[A4,e,b,x,hs,Result.andThen_ok,Bool.true_and];exact s
   .cases h
def A1j{a:Bool}(h:lD P kt=some (a,ks))(h1:us.map F3=ks)(b:vs.map F3=ks)(w:World):(Op.equal kt (U2 a us) (U2 a vs)).run P w=.ok (R1 us vs) w:=by
 unfold lD at h;split at h
 .rename_i g hu;cases hs:P.stoodInHeld kt with
  | true=>rw[hs]at h;cases h
  | false =>
    rw[hs]at h;simp only[D4]at h;split at h
    .rename_i l f;cases h;have e:P.fieldsOf kt=g:=by simp[Program.fieldsOf,hu]
     show(Op.equalIn (9999+1) kt (.agg _) (.agg _)).run P w=_;rw[run_equalIn_struct (P:=P) w 9999 kt _ _ (by rw[e];exact hu) hs,e];exact yC (p:=[]) (q:=[]) f h1 b rfl rfl 9998 w
    .cases h
 .split at h
  .rename_i k hk;cases h;cases us with
   | nil=>cases h1
   | cons u us=>cases us with
     | cons _ _=>simp at h1
     | nil=>cases vs with
       | nil=>cases b
       | cons v vs=>cases vs with
         | cons _ _=>simp at b
         | nil =>
           simp only[B9,E5,I3,and_true]at h1 b
           have:=JH hk h1 b 9999 w;show(Op.equalIn (9999+1) kt (P8 u) (P8 v)).run P w=_;rw[this];simp[R1]
  .cases h
def uS{t:TypeId}(h:dM P t=some k)(e:Bool)(n:Nat)(v:Value)(w:World):(Instr.checkKey e (n+1) t v).run P w=.ok () w:=by
 unfold dM at h;split at h
 .rename_i hu;simp[Instr.checkKey,A4,C8 hu,Result.andThen]
 .rename_i hu;simp[Instr.checkKey,A4,C8 hu,Result.andThen]
 .rename_i hu;simp[Instr.checkKey,A4,C8 hu,Result.andThen]
 .cases h
def oG(e:Bool)(n:Nat)(w:World):∀ (L:List Field) (i:Nat) (ks:List Nat) (us:List U) (p:List Value),qS P L i=some ks->us.map F3=ks->p.length=i ->
  (forIn L PUnit.unit fun f (_:PUnit)=>if f.name ≠ "_" then(do let x <- part f.type ⟨p++us.map P8⟩ f.offset;Instr.checkKey e (n+1) f.type x;pure (ForInStep.yield PUnit.unit):Sem (ForInStep PUnit))else pure (ForInStep.yield PUnit.unit)).run P w=.ok PUnit.unit w
 | [],i,ks,us,p,h,h1,hp=>by simp
 | f::fs,i,ks,us,p,h,h1,hp=>by
   unfold qS at h;split at h
   .rename_i t l j s;obtain⟨q,h⟩:=A2 h;cases h;obtain⟨b,a⟩:=B6 q;have a:=A0 a;have o:f.name ≠ "_":=by simpa using b
    cases us with
    | nil=>cases h1
    | cons u us =>
      simp only[B9,I3]at h1;have g1:(p++(u::us).map P8)[f.offset]? = some (P8 u):=by rw[a,<- hp,D6 (A7 _)];simp
      have A:=oW j g1 w;have z:=uS j e n (P8 u) w;have g:=oG e n w fs (i+1) l us (p++[P8 u]) s h1.2 (by simp[hp]);rw[S4]at g;rw[List.forIn_cons];simp only[B2 o,A4,A,z,Result.andThen_ok,Sem.run_pure];exact g
   .cases h
def yL{a:Bool}(h:lD P kt=some (a,ks))(h1:us.map F3=ks)(e:Bool)(w:World):(Instr.checkKey e 10000 kt (U2 a us)).run P w=.ok () w:=by
 unfold lD at h;split at h
 .rename_i f hu;cases hs:P.stoodInHeld kt with
  | true=>rw[hs]at h;cases h
  | false =>
    rw[hs]at h;simp only[D4]at h;split at h
    .rename_i l b;have h:=h;cases h;have key:∀ n:Nat,(Instr.checkKey e (n+2) kt (.agg ⟨us.map P8⟩)).run P w=.ok () w:=fun n=>by
      rw[Instr.checkKey];simp only[A4,C8 hu,Result.andThen_ok];rw[<- Array.forIn_toList]
      have:=oG e n w f.toList 0 _ us [] b h1 rfl;rw[P6]at this;rw[this];rfl
     exact key 9998
    .cases h
 .split at h
  .rename_i k hk;cases h;exact uS hk e 9999 _ w
  .cases h
def kY(k:List U):List (List U)->Nat->Option (Nat×List U)
 | [],_=>none
 | r::rs,i=>if R1 k r then some (i,r)else kY k rs (i+1)
def pD:∀ (us r:List U),R1 us (r.take us.length)=R1 us r
 | [],r=>rfl
 | a::us,[]=>rfl
 | a::us,b::r=>by
   show(isU a b && R1 us (r.take us.length))=(isU a b && R1 us r);rw[pD us r]
def pZ.head{e:MapEntry}{es:List MapEntry}(h:pZ y (r::rs) (e::es)):(r.map F3=y.ks++y.vs/\e.key=U2 y.ka (r.take y.ks.length)/\e.val=U2 y.va (r.drop y.ks.length))/\pZ y rs es :=
 ⟨h.2 0 r e rfl rfl,by have:=h.1;simpa using this,fun i row b h1 a=>h.2 (i+1) row b (by simpa using h1) (by simpa using a)⟩
def wO(h:r.map F3=y.ks++y.vs):(r.take y.ks.length).map F3=y.ks/\(r.drop y.ks.length).map F3=y.vs:=by
 constructor
 .rw[List.map_take,h,List.take_left'];rfl
 .rw[List.map_drop,h,List.drop_left'];rfl
abbrev vY(y:MTy)(us:List U)(rows:List (List U))(i:Nat):Option (Nat×Value):=(kY us rows i).map fun p=>(p.1,U2 y.va (p.2.drop y.ks.length))
def zA{y:MTy}(hk:lD P y.kt=some (y.ka,y.ks)){us:List U}(h1:us.map F3=y.ks):∀ {rows:List (List U)} {es:List MapEntry} (i:Nat),pZ y rows es->(Instr.findAsking y.kt (U2 y.ka us) es i).run P w=.ok (vY y us rows i) w
 | [],[],i,_=>by simp[Instr.findAsking,vY,kY]
 | [],_::_,i,h=>by have:=h.1;simp at this
 | _::_,[],i,h=>by have:=h.1;simp at this
 | r::rs,e::es,i,h=>by
   obtain⟨⟨a,b,c⟩,d⟩:=h.head;obtain⟨t1,t2⟩:=wO a;have hlen:us.length=y.ks.length:=by rw[<- h1,F0]
   have g:=A1j (P:=P) hk h1 t1 w;have j:R1 us (r.take y.ks.length)=R1 us r:=by rw[<- hlen];exact pD us r
   have f:=zA hk h1 (i+1) d;unfold Instr.findAsking;rw[b];simp only[A4,g,j,Result.andThen_ok,vY,kY];cases n:R1 us r with
   | true=>simp[c]
   | false=>simp only[G4,if_false];exact f
def RS{y:MTy}{k:Nat}{d:TypeDesc}(j:P.underlying y.kt=some d)(hs:dM P y.kt=some k)(n:y.ka=false)(f:y.ks=[k]){u:U}(h1:F3 u=k):∀ {rows:List (List U)} {es:List MapEntry} (i:Nat),pZ y rows es->Instr.findNow d (P8 u) es i=some (vY y [u] rows i)
 | [],[],i,_=>rfl
 | [],_::_,i,h=>by have:=h.1;simp at this
 | _::_,[],i,h=>by have:=h.1;simp at this
 | r::rs,e::es,i,h=>by
   obtain⟨⟨a,b,c⟩,p⟩:=h.head;cases r with
   | nil=>rw[f]at a;simp at a
   | cons g r =>
     have a0:F3 g=k:=by rw[f]at a;simp at a;exact a.1
     have b:e.key=P8 g:=by rw[b,n,f];rfl
     have q:=PZ j hs h1 a0;have o:=RS j hs n f h1 (i+1) p;unfold Instr.findNow;rw[b,q];simp only[vY,kY,R1,eG];cases s:isU u g with
     | true=>simp[c]
     | false=>simp only[G4,if_false];exact o
def uE(hk:lD P y.kt=some (y.ka,y.ks))(h1:us.map F3=y.ks){es:List MapEntry}(h:pZ y rows es):(Instr.findKey y.kt (U2 y.ka us) es).run P w=.ok (vY y us rows 0) w:=by
 have e:=hk;unfold lD at hk;split at hk
 .rename_i g hu;rw[run_findKey_eq w (by rw[hu]) (U2 y.ka us) es];exact zA e h1 0 h
 .split at hk
  .rename_i k hs;have f:y.ka=false:=(U4 Prod.fst (A5 hk)).symm;have a:y.ks=[k]:=(U4 Prod.snd (A5 hk)).symm;rw[a]at h1;cases us with
   | nil=>simp at h1
   | cons u us=>cases us with
     | cons _ _=>simp at h1
     | nil =>
       simp only[B9,E5,I3,and_true]at h1;obtain⟨d,b⟩:∃ d,P.underlying y.kt=some d:=by
        cases b:P.underlying y.kt with
        | some d=>exact⟨d,rfl⟩
        | none=>unfold dM at hs;rw[b]at hs;cases hs
       rw[f];exact MapKept.run_findKey b (RS b hs f a h1 0 h)
  .cases hk
def EO{k:List U}:∀ (rows:List (List U)) (i:Nat),(kY k rows i).isSome=rows.any (R1 k)
 | [],_=>rfl
 | r::rs,i=>by
   simp only[kY,i6];cases R1 k r with
   | true=>rfl
   | false=>simp only[G4,if_false,T5];exact EO rs (i+1)
def xT{k:List U}:∀ (rows:List (List U)) (i:Nat),(kY k rows i).map (·.2)=rows.find? (R1 k)
 | [],_=>rfl
 | r::rs,i=>by
   simp only[kY,N2];cases R1 k r with
   | true=>rfl
   | false=>simp only[G4,if_false];exact xT rs (i+1)
def nR{k:List U}:∀ {rows:List (List U)} {i j:Nat} {r:List U},kY k rows i=some (j,r)->i<=j/\rows[j-i]? = some r/\R1 k r=true
 | [],_,_,_,h=>by cases h
 | x::rs,i,j,r,h=>by
   unfold kY at h;cases e:R1 k x with
   | true=>rw[e]at h;cases h;exact⟨A7 _,by simp,e⟩
   | false =>
     rw[e]at h;obtain⟨a,b,c⟩:=nR (rows:=rs) h;exact⟨A6,by rw[show j-i=(j-(i+1))+1 by omega];exact b,c⟩
def DH{kw:Nat}{c:List U}:∀ (rows:List (List U)) (i:Nat),DI kw c rows=match kY (c.take kw) rows i with
  | some p=>rows.set (p.1-i) c
  | none=>rows++[c]
 | [],_=>rfl
 | r::rs,i=>by
   unfold DI kY;cases e:R1 (c.take kw) r with
   | true=>simp
   | false =>
     simp only[G4,if_false];rw[DH rs (i+1)];cases b:kY (c.take kw) rs (i+1)with
     | none=>rfl
     | some p =>
       obtain⟨a,_⟩:=nR (r:=p.2) (j:=p.1) b;show r::rs.set (p.1-(i+1)) c=(r::rs).set (p.1-i) c;rw[show p.1-i=(p.1-(i+1))+1 by omega];rfl
theorem nP{b:Nat}{v':Value}(h:VR ρ (.map (some b)) v'):∃ l,ρ b=some l/\v'=.map (some l.blk):=by
 cases h with
 | pure hp=>simp[H8]at hp
 | map h=>exact⟨_,h,rfl⟩
def XU{T:TypeId}(h:HR P base ρ m.H w)(t:base<=w.heap.size)(a:RX P m T=some (v,m'))(o:I8 ρ m.n m'.hi)(p:Sat m'.lg):VOk P base ρ m w (Instr.makeMap T none) v m':=by
 unfold RX at a;split at a
 .rename_i y j;rw[M3]at a;have g:=u6 a;have s:=gQ (lg:=m'.lg) p (by rw[g];exact .refl _);obtain⟨x,A,u,wd,rows,z⟩:=s;have f:Ora.env m.lg.nx=.seq false y.w []:=by
   have hw:0<y.w:=by have:=(AF j).2.2.2.1;unfold MTy.w;omega
   rw[x];show(if y.w=0 then U.none else match Z8 y.w (0 / y.w) []with
    | some r=>U.seq false y.w r
    | none=>.none)=_
   rw[B0 A6,Nat.zero_div];rfl
  have b:=St.wLg h (dH m (10+y.w) (.mk y.w) []);obtain⟨h1,q,h3⟩:=St.alloc (w':={ w with heap:=w.heap.push (.map #[] 0) }) (l:=lc w.heap.size 0 0) b.hr t a (by rw[OX];exact o) ⟨rfl,rfl,rfl⟩ rfl rfl
   ⟨⟨rfl,rfl⟩,y,#[],0,[],j,.inl rfl,by simp,f,⟨rfl,fun i row e hr=>by simp at hr⟩,jS,fun e he=>by cases he⟩
  refine⟨.map (some w.heap.size),_,_,?_,?_,St.trans o b h3⟩
  .simp[Instr.makeMap,newObj,Sem.run,A4,Result.andThen]
  .rw[h1];exact .map q
 .cases a
def eT{t:Nat}{op:LOp}(h:R4 m t op xs=some (v,m'))(b:Sat m'.lg):t<10/\F3 (evU op (xs.map (D5 Ora.env)))=t/\VR ρ v (P8 (evU op (xs.map (D5 Ora.env)))):=by
 obtain⟨u,f,g,r,i,a,e⟩:=K9 h b;subst f;refine⟨e,g,?_⟩;have:P8 (evU op (xs.map (D5 Ora.env)))=r:=by unfold P8;rw[i];rfl
 rw[this];exact a ρ
def xW{wd kw c t:Nat}{b:D0}{p:Bool}{rows:List (List U)}(u:Ora.env c=.seq p wd rows)(A:b.length=kw):∀ {ts:G6} {f:D0} {j:Nat} {m m':Mem} {hs:D0},pN wd kw c t b ts f j m=some (hs,m')->Sat m'.lg ->
  I7 m m'/\m.lg.le m'.lg/\hs.length=ts.length/\f.length=ts.length /\
  (∀ r,rows.find? (R1 (b.map (D5 Ora.env)))=some r->∀ i:Nat,i<ts.length->∃ v,hs[i]? = some v/\VR ρ v (P8 (r.getD (j+i) .none))) /\
  (rows.find? (R1 (b.map (D5 Ora.env)))=none->∀ i:Nat,i<ts.length->∃ v z,hs[i]? = some v/\f[i]? = some z/\VR ρ v (P8 (D5 Ora.env z)))
 | [],[],j,m,m',hs,h,hS=>by
   cases h;exact⟨.refl _,.refl _,rfl,rfl,fun r _ i hi=>(by simp at hi),fun _ i hi=>(by simp at hi)⟩
 | [],_::_,j,m,m',hs,h,hS=>by cases h
 | _::_,[],j,m,m',hs,h,hS=>by cases h
 | tg::ts,z::f,j,m,m',hs,h,hS=>by
   unfold pN at h;split at h
   .rename_i v m1 g;split at h
    .rename_i r m2 hr;cases h;obtain⟨F,a2,a3,a4,a5,B⟩:=xW u A hr hS;have n:Sat m1.lg:=hS.le a2;obtain⟨_,_,a⟩:=eT (ρ:=ρ) g n;have o:evU (.mget wd kw j) ((hole c t::z::b).map (D5 Ora.env))=(match rows.find? (R1 (b.map (D5 Ora.env)))with
       | some r=>r.getD j .none
       | none=>D5 Ora.env z):=by
      show evU (.mget wd kw j) (Ora.env c::D5 Ora.env z::b.map (D5 Ora.env))=_;rw[u];show(if wd=wd/\(b.map (D5 Ora.env)).length=kw then _ else U.none)=_;rw[B2 ⟨rfl,by rw[F0];exact A⟩];cases rows.find? (R1 (b.map (D5 Ora.env)))<;>rfl
     rw[o]at a;refine⟨(G7 g).trans F,(H1 g).trans a2,by simp[a3],by simp[a4],fun D e i hi=>?_,fun e i hi=>?_⟩
     .cases i with
      | zero=>rw[e]at a;exact⟨v,rfl,a⟩
      | succ i =>
        obtain⟨x,s,q⟩:=a5 D e i (by simpa using hi);exact⟨x,by simpa using s,by rw[show j+(i+1)=j+1+i by omega];exact q⟩
     .cases i with
      | zero=>rw[e]at a;exact⟨v,z,rfl,rfl,a⟩
      | succ i =>
        obtain⟨x,C,s,q,E⟩:=B e i (by simpa using hi);exact⟨x,C,by simpa using s,by simpa using q,E⟩
    .cases h
   .cases h
def A03{vs:D0}(j:hs.length=vs.length)(h:∀ i:Nat,i<vs.length->∃ v v',hs[i]? = some v/\vs[i]? = some v'/\VR ρ v v'):LR ρ hs vs:=⟨j,fun i v v' h1 e=>by
 obtain⟨a,b,f,g,n⟩:=h i (A9.1 e).1;rw[h1]at f;rw[e]at g;cases f;cases g;exact n⟩
def VX{a:Bool}(h:VY a hs=some v)(b:LR ρ hs (us.map P8)):VR ρ v (U2 a us):=by
 unfold VY at h;split at h
 .cases h;exact .agg b.1 b.2
 .cases h;cases us with
  | nil=>have:=b.1;simp at this
  | cons u us =>
    obtain⟨v',r,e,g,_⟩:=b.tail;rw[B9,I3]at e;rw[<- e.1]at g;exact g
 .cases h
def NS{T:TypeId}{x k:Value}{ok:Bool}(h:HR P base ρ m.H w)(o:tP P m T x k ok=some (v,m'))(hx:VR ρ x x')(hk:VR ρ k k')(K:Sat m'.lg):VOk P base ρ m w (Instr.lookup T x' k' ok) v m':=by
 unfold tP at o;split at o
 .rename_i r y hy;obtain⟨hu,C,ar,au,W,az,aw⟩:=AF hy;obtain⟨l,hl,rfl⟩:=nP hx;split at o
  .rename_i c t T2 f z hg S hz;obtain⟨X,a⟩:=A2 o;clear o;have X:=A0 X;subst X;split at a
   .rename_i zc Y;split at a
    .rename_i hs m1 Q;split at a
     .rename_i v1 hv;obtain⟨⟨⟨av,aq⟩,y2,es,clock,rows,g1,g2,g3,g4,g5,g6⟩,_⟩:=h.atl hl hg;rw[hy]at g1;have g1:=A5 g1;subst g1;obtain⟨k1,Z⟩:=gB S W hk;have L:VR ρ z z:=.ofC (sH hz).choose_spec.2.2;obtain⟨z1,z2⟩:=gB Y az L;have E:f.length=y.ks.length:=by rw[<- Z];simp
      have R:Sat m1.lg:=by
       cases ok with
       | false=>cases a;exact K
       | true =>
         simp only[D9]at a;split at a
         .rename_i J;cases a;exact K.le (H1 J)
         .cases a
      obtain⟨a1,a2,a3,a4,a5,a6⟩:=xW (ρ:=ρ) g4 E Q R;have I:=uE (P:=P) (w:=w) C Z g5;have u:=yL (P:=P) C Z es.isEmpty w;have j:=xT (k:=f.map (D5 Ora.env)) rows 0;have G:∀ {us:List U},LR ρ hs (us.map P8)->VR ρ v1 (U2 y.va us):=fun g=>VX hv g
      have A:∃ val,VR ρ v1 val/\(Instr.lookup T2 (.map (some l.blk)) k' ok).run P w=.ok (if ok then .tuple #[val,.bool (rows.any (R1 (f.map (D5 Ora.env))))]else val) w:=by
       have B:(getObj l.blk).run P w=.ok (.map es clock) w:=by simp[getObj,Sem.run,g3]
       have e:=EO (k:=f.map (D5 Ora.env)) rows 0;cases s:kY (f.map (D5 Ora.env)) rows 0 with
       | none =>
         rw[s]at j e;have g:LR ρ hs ((zc.map (D5 Ora.env)).map P8):=A03 (by rw[a3,F0,F0,a4]) fun i hi=>by
          have ay:i<y.vs.length:=by rw[F0,F0,a4]at hi;exact hi
          obtain⟨N,z',e1,O,e3⟩:=a6 j.symm i ay;exact⟨N,_,e1,by rw[F6,F6,O];rfl,e3⟩
         refine⟨z,by rw[z1];exact G g,?_⟩;have e:rows.any (R1 (f.map (D5 Ora.env)))=false:=e.symm;rw[k1];simp only[Instr.lookup,A4,C8 hu,Result.andThen_ok,B,u,I,vY,s,gU,s9 hz,Sem.run_pure,e]
       | some p =>
         obtain⟨pi,q⟩:=p;rw[s]at j e;obtain⟨_,q1,q2⟩:=nR s;have q1:rows[pi]? = some q:=by simpa using q1
         have V:pi<es.toList.length:=by rw[<- g5.1];exact(A9.1 q1).1
         obtain⟨t1,t2,t3⟩:=g5.2 pi q es.toList[pi] q1 (A3 V);have ax:q.length=y.ks.length+y.vs.length:=by
          have:=U4 List.length t1
          simpa using this
         have g:LR ρ hs ((q.drop y.ks.length).map P8):=A03 (by rw[a3,F0,O2];omega) fun i hi=>by
          rw[F0,O2]at hi;obtain⟨N,e1,O⟩:=a5 q j.symm i A6;refine⟨N,_,e1,?_,O⟩;rw[F6,H3,A3 A6,I9,B3,A3 A6];rfl
         refine⟨U2 y.va (q.drop y.ks.length),G g,?_⟩;have e:rows.any (R1 (f.map (D5 Ora.env)))=true:=e.symm;rw[k1];simp only[Instr.lookup,A4,C8 hu,Result.andThen_ok,B,u,I,vY,s,I9,Sem.run_pure,e]
      obtain⟨val,F,n⟩:=A;cases ok with
      | false =>
        cases a;obtain⟨lg,rfl⟩:=a1;exact⟨val,ρ,w,n,F,St.wLg h lg⟩
      | true =>
        simp only[D9]at a;split at a
        .rename_i b m2 J;cases a;obtain⟨_,_,D⟩:=eT (ρ:=ρ) J K;have M:evU (.mhas y.w y.ks.length) ((hole c t::f).map (D5 Ora.env))=.bool (rows.any (R1 (f.map (D5 Ora.env)))):=by
          show evU (.mhas y.w y.ks.length) (Ora.env c::f.map (D5 Ora.env))=_;rw[g4];show(if y.w=y.w/\(f.map (D5 Ora.env)).length=y.ks.length then _ else U.none)=_;rw[B2 ⟨rfl,by rw[F0];exact E⟩]
         rw[M]at D;obtain⟨lg,rfl⟩:=a1.trans (G7 J);refine⟨.tuple #[val,.bool (rows.any (R1 (f.map (D5 Ora.env))))],ρ,w,n,?_,St.wLg h lg⟩
         have:=LR.cons F (LR.cons D LR.nil);exact .tuple this.1 this.2
        .cases a
     .cases a
    .cases a
   .cases a
  .cases o
 .cases o
def PV{i:Nat}{c:List U}(h:pZ y rows es.toList)(f:c.map F3=y.ks++y.vs)(h1:e'.key=U2 y.ka (c.take y.ks.length))(b:e'.val=U2 y.va (c.drop y.ks.length))(a:es'.toList=es.toList.set i e'):pZ y (rows.set i c) es'.toList:=by
 rw[a];refine⟨by rw[W6,W6];exact h.1,fun j row e hr he=>?_⟩;rw[List.getElem?_set]at hr he;by_cases q:i=j
 .subst q;rw[B2 rfl]at hr he;split at hr
  .cases hr;split at he
   .cases he;exact⟨f,h1,b⟩
   .cases he
  .cases hr
 .rw[B0 q]at hr he;exact h.2 j row e hr he
def RG{k:Value}(h:rA es.toList clock):rA (es.push ⟨k,v,clock⟩).toList (clock+1):=by
 obtain⟨h1,a⟩:=h;rw[Array.toList_push];refine⟨?_,fun e he=>?_⟩
 .rw[N1,dX];refine⟨h1,by simp,fun x g y b f=>?_⟩;simp only[B9,E5,F7]at b;obtain⟨e,he,rfl⟩:=I5.1 g
  have:=a e he;omega
 .rcases B4.1 he with he|he
  .have:=a e he;omega
  .rw[F7.1 he];show clock<clock+1;omega
def HT{f:MapEntry->Value×Value}(h:rA es.toList clock):rA (es.modify pi fun e=>{ e with key:=(f e).1,val:=(f e).2 }).toList clock:=by
 obtain⟨h1,i⟩:=h;have b:(es.modify pi fun e=>{ e with key:=(f e).1,val:=(f e).2 }).toList.map (·.born)=es.toList.map (·.born):=by
  apply X5;intro j;rw[F6,F6,N6,F4,N6];by_cases g:pi=j
  .rw[B2 g];cases es[j]?<;>rfl
  .rw[B0 g]
 refine⟨by rw[b];exact h1,fun e he=>?_⟩;have:e.born ∈ es.toList.map (·.born):=by rw[<- b];exact bL he
 obtain⟨x,n,a⟩:=I5.1 this;rw[<- a];exact i x n
def NN{c:List U}(h:pZ y rows es.toList)(g:c.map F3=y.ks++y.vs)(h1:e'.key=U2 y.ka (c.take y.ks.length))(f:e'.val=U2 y.va (c.drop y.ks.length)):pZ y (rows++[c]) (es.push e').toList:=by
 rw[Array.toList_push];refine⟨by rw[G1,G1,h.1];rfl,fun j row e hr he=>?_⟩;rw[List.getElem?_append]at hr he;rw[h.1]at hr;split at he
 .rename_i a;rw[B2 a]at hr;exact h.2 j row e hr he
 .rename_i a;rw[B0 a]at hr;cases b:j-es.toList.length with
  | zero =>
    rw[b]at hr he;cases hr;cases he;exact⟨g,h1,f⟩
  | succ n=>rw[b]at hr;cases hr
def GS{u v:U}(h1:F3 u<10)(h:isU u v=true):u=v:=by
 unfold isU at h;cases u with
 | int k a =>
   cases v with
   | int j b =>
     simp only[eqU]at h;by_cases e:k=j
     .subst e;rw[B2 rfl]at h;have h:(a == b)=true:=h;rw[eq_of_beq h]
     .rw[B0 e]at h;cases h
   | _=>simp[eqU]at h
 | bool a =>
   cases v with
   | bool b =>
     have h:(a == b)=true:=h;rw[eq_of_beq h]
   | _=>simp[eqU]at h
 | str a =>
   cases v with
   | str b =>
     have h:(a == b)=true:=h;rw[eq_of_beq h]
   | _=>simp[eqU]at h
 | seq _ _ _=>simp only[F3]at h1;omega
 | none=>simp only[F3]at h1;omega
def sU:∀ {us vs:List U},us.map F3=vs.map F3->(∀ t ∈ us.map F3,t<10)->R1 us vs=true->us=vs
 | [],[],_,_,_=>rfl
 | [],_::_,h,_,_=>by cases h
 | _::_,[],h,_,_=>by cases h
 | u::us,v::vs,h,ht,hk=>by
   obtain⟨a,b⟩:=B6 (show(isU u v && R1 us vs)=true from hk);simp only[B9,I3]at h;rw[GS (ht _ B5) a,sU h.2 (fun t q=>ht t (C5 _ q)) b]
def yT{u:U}(h:F3 u<10)(n:Nat):Instr.sameBits n (P8 u) (P8 u)=true:=by
 cases u with
 | int k a=>cases n<;>simp[P8,toV,Instr.sameBits]
 | bool b=>cases n<;>simp[P8,toV,Instr.sameBits]
 | str s=>cases n<;>(simp only[P8,toV,U5,Instr.sameBits];show(Array.mk s == Array.mk s)=true;simp)
 | seq _ _ _=>simp only[F3]at h;omega
 | none=>simp only[F3]at h;omega
def OI{a:Bool}(h:∀ t ∈ us.map F3,t<10)(b:a=false->us≠[])(n:Nat):Instr.sameBits (n+1) (U2 a us) (U2 a us)=true:=by
 cases a with
 | true =>
   simp only[U2,Instr.sameBits,H4,beq_self_eq_true,true_and,D3];intro p hp;obtain⟨i,hi,he⟩:=List.mem_iff_getElem.1 hp;simp only[List.getElem_zip,List.getElem_map]at he;subst he;exact yT (h _ (I5.2 ⟨_,H6 _,rfl⟩)) n
 | false =>
   cases us with
   | nil=>exact absurd rfl (b rfl)
   | cons u us=>exact yT (h _ B5) _
def DD{T:TypeId}{x k e e':Value}(h:HR P base ρ m.H w)(hb:base<=w.heap.size)(F:xE P m T x k e=some (v,m'))(hf:I8 ρ m.n m'.hi)(hx:VR ρ x x')(hk:VR ρ k k')(he:VR ρ e e')(hS:Sat m'.lg):v=undef/\UOk P base ρ m w (Instr.mapUpdate T x' k' e') m':=by
 unfold xE at F;split at F
 .rename_i r y hy;obtain⟨hu,Y,bz,ad,J,ag,ae⟩:=AF hy;obtain⟨l,hl,rfl⟩:=nP hx;split at F
  .rename_i c t M o u hg ak ai;obtain⟨hT,z⟩:=A2 F;clear F;obtain⟨hT,az⟩:=B6 hT;have az:t<1000:=A1 az;have hT:=A0 hT;subst hT;rw[M3]at z;unfold HU at z;split at z
   .rename_i m2 W3;cases z;have ao:=bO W3;obtain⟨e1,e2,aa,wd,aq,e3⟩:=gQ (lg:=m'.lg) hS (by rw[ao];exact .refl _);obtain⟨⟨⟨N,ah⟩,y2,es,clock,rows,g1,g2,g3,g4,g5,g6⟩,_⟩:=h.atl hl hg;rw[hy]at g1;have g1:=A5 g1;subst g1;obtain⟨E,D⟩:=gB ak J hk;obtain⟨v1,v2⟩:=gB ai ag he;have B:o.length=y.ks.length:=by rw[<- D];simp
    have an:u.length=y.vs.length:=by rw[<- v2];simp
    have af:((o++u).map (D5 Ora.env)).length=y.w:=by rw[F0,G1,B,an];rfl
    have R:((o++u).map (D5 Ora.env)).map F3=y.ks++y.vs:=by rw[N1,N1,D,v2]
    have A:((o++u).map (D5 Ora.env)).take y.ks.length=o.map (D5 Ora.env):=by rw[N1,List.take_left' (by rw[F0];exact B)]
    have C:((o++u).map (D5 Ora.env)).drop y.ks.length=u.map (D5 Ora.env):=by rw[N1,List.drop_left' (by rw[F0];exact B)]
    have i:Ora.env m.lg.nx=.seq false y.w (DI y.ks.length ((o++u).map (D5 Ora.env)) rows):=by
     rw[e1];show evU (.mput y.w y.ks.length) (Ora.env c::(o++u).map (D5 Ora.env))=_;rw[g4];show(if y.w=y.w/\((o++u).map (D5 Ora.env)).length=y.w then _ else U.none)=_;rw[B2 ⟨rfl,af⟩]
    rw[DH _ 0,A]at i;have X:(getObj l.blk).run P w=.ok (.map es clock) w:=by simp[getObj,Sem.run,g3]
    have au:=uE (P:=P) (w:=w) Y D g5;have Q:=yL (P:=P) Y D false w;have aw:=St.wLg h (dH m t (.mput y.w y.ks.length) (hole c t::(o++u)));have aj:Hp.get (m.wLg (dH m t (.mput y.w y.ks.length) (hole c t::(o++u)))).H r=some (.mp c t M):=by rw[hZ];exact hg
    have s:l.blk<w.heap.size:=(B7.1 g3).1;refine⟨rfl,?_⟩;have V:∀ (b:Array MapEntry) (a:Nat),(setObj l.blk (.map b a)).run P w=.ok () { w with heap:=w.heap.set l.blk (.map b a) s }:=fun b a=>by
     have ar:w.heap[l.blk]=.map es clock:=by
      have q:=g3;rw[E4 s]at q;exact A5 q
     simp[setObj,Sem.run,ar,Array.setIfInBounds,s]
    have fin:∀ (b:Array MapEntry) (a:Nat) (g:List (List U)),Ora.env m.lg.nx=.seq false y.w g->pZ y g b.toList->rA b.toList a->(Instr.mapUpdate M (.map (some l.blk)) k' e').run P w=.ok () { w with heap:=w.heap.set l.blk (.map b a) s }->UOk P base ρ m w (Instr.mapUpdate M (.map (some l.blk)) k' e') m':=fun b a g q1 q2 q4 q3=>by
     refine⟨ρ,_,q3,St.trans hf aw (St.write (ab:=.mp c t M) (ab':=.mp m.lg.nx t M) aw.hr W3 aj rfl hl N ⟨rfl,rfl,rfl⟩ (by simp) (fun j W=>?_) ?_)⟩
     .show(w.heap.set l.blk _ s)[j]? = _;rw[m7,B0 (fun e=>W e.symm)]
     .refine⟨⟨N,ah⟩,y,b,a,g,hy,.inl (g2.resolve_right fun q=>by have:=q.1;omega),?_,q1,q2,q4⟩;show(w.heap.set l.blk _ s)[l.blk]? = _;rw[m7,B2 rfl]
    cases O:kY (o.map (D5 Ora.env)) rows 0 with
    | none =>
      rw[O]at i;refine fin (es.push ⟨k',e',clock⟩) (clock+1) _ i (NN g5 R (by rw[A];exact E) (by rw[C];exact v1)) (RG g6) ?_;rw[E];simp only[Instr.mapUpdate,A4,C8 hu,Result.andThen_ok,X,Q,au,vY,O,gU,V]
    | some p =>
      obtain⟨pi,L⟩:=p;rw[O]at i;have i:Ora.env m.lg.nx=.seq false y.w (rows.set pi ((o++u).map (D5 Ora.env))):=i;obtain⟨_,q1,q2⟩:=nR O;have q1:rows[pi]? = some L:=by simpa using q1
      have I:pi<es.toList.length:=by rw[<- g5.1];exact(A9.1 q1).1
      obtain⟨t1,t2,t3⟩:=g5.2 pi L es.toList[pi] q1 (A3 I);obtain⟨al,_⟩:=wO t1;have G:o.map (D5 Ora.env)=L.take y.ks.length:=by
       refine sU (by rw[D,al]) (by rw[D];exact J) ?_
       have:=pD (o.map (D5 Ora.env)) L;rw[F0,B]at this;rw[this];exact q2
      have S:pi<es.size:=by simpa using I
      refine fin (es.modify pi fun e2=>{ e2 with key:=k',val:=e' }) clock _ i (PV (e':=⟨k',e',(es[pi]).born⟩) g5 R (by rw[A];exact E) (by rw[C];exact v1) ?_) (HT (f:=fun _=>(k',e')) g6) ?_
      .apply X5;intro j;rw[N6,F4,List.getElem?_set];by_cases W:pi=j
       .subst W;rw[B2 rfl,B2 rfl,B2 I,E4 S];rfl
       .rw[B0 W,B0 W];simp
      .have Z:((es[pi]?).map (·.key)).getD k'=k':=by
        rw[E4 S];show es[pi].key=k';have t2:es[pi].key=U2 y.ka (L.take y.ks.length):=t2;rw[t2,<- G,E]
       have K:Instr.sameBits 10000 k' k'=true:=by
        rw[E];exact OI (by rw[D];exact J) (fun _ q=>by have:=U4 List.length D;rw[q]at this;simp at this;omega) 9999
       have av:(Instr.keyThatStays k' k').run P w=.ok k' w:=by
        simp only[Instr.keyThatStays,K,if_true,Sem.run_pure]
       have ay:(Instr.findKey y.kt k' es.toList).run P w=.ok (some (pi,U2 y.va (L.drop y.ks.length))) w:=by
        rw[E,au];simp[vY,O]
       have ax:(Instr.checkKey false 10000 y.kt k').run P w=.ok () w:=by rw[E];exact Q
       simp only[Instr.mapUpdate,A4,C8 hu,Result.andThen_ok,X,ax,ay,Z,av,V]
   .cases z
  .cases F
 .cases F
def SG{T:TypeId}{x:Value}(h:HR P base ρ m.H w)(a:EE P m T x=some (v,m'))(n:VR ρ x x')(f:Sat m'.lg):VOk P base ρ m w (Builtin.len_ ⟨T::tys⟩ ty #[x']) v m':=by
 unfold EE at a;split at a
 .rename_i kt q r hu;obtain⟨l,o,rfl⟩:=nP n;split at a
  .rename_i c t p g;obtain⟨⟨⟨i,j⟩,s,es,clock,rows,g1,g2,g3,g4,g5,g6⟩,_⟩:=h.atl o g;obtain⟨q1,⟨lg,rfl⟩,_,_⟩:=iV (ρ:=ρ) a g4 f;have b:(getObj l.blk).run P w=.ok (.map es clock) w:=by simp[getObj,Sem.run,g3]
   refine⟨_,ρ,w,?_,q1,St.wLg h lg⟩
   have:=g5.1;have e:es.size=rows.length:=by rw[this];simp
   simp[Builtin.len_,A4,C8 hu,Result.andThen,goInt,b,e]
  .cases a
 .cases a
def XV{T:TypeId}(a:RX P m T=some (v,m')):m.lg.le m'.lg:=by
 unfold RX at a;split at a
 .rw[M3]at a;rw[u6 a];exact T9
 .cases a
def pM{wd kw c t:Nat}{b:D0}:∀ {ts:G6} {a:D0} {j:Nat} {m m':Mem} {hs:D0},pN wd kw c t b ts a j m=some (hs,m')->m.lg.le m'.lg
 | [],[],j,m,m',hs,h=>by cases h;exact .refl _
 | [],_::_,j,m,m',hs,h=>by cases h
 | _::_,[],j,m,m',hs,h=>by cases h
 | tg::ts,z::a,j,m,m',hs,h=>by
   unfold pN at h;split at h
   .rename_i e;split at h
    .rename_i hr;cases h;exact(H1 e).trans (pM hr)
    .cases h
   .cases h
def NT{T:TypeId}{x k:Value}{ok:Bool}(a:tP P m T x k ok=some (v,m')):m.lg.le m'.lg:=by
 unfold tP at a;split at a
 .split at a
  .obtain⟨_,a⟩:=A2 a;split at a
   .split at a
    .rename_i b;split at a
     .cases ok with
      | false=>cases a;exact pM b
      | true =>
        simp only[D9]at a;split at a
        .rename_i e;cases a;exact(pM b).trans (H1 e)
        .cases a
     .cases a
    .cases a
   .cases a
  .cases a
 .cases a
def DE{T:TypeId}{x k e:Value}(a:xE P m T x k e=some (v,m')):m.lg.le m'.lg:=by
 unfold xE at a;split at a
 .split at a
  .obtain⟨_,a⟩:=A2 a;rw[M3]at a;unfold HU at a;split at a
   .rename_i W3;cases a;rw[bO W3];exact T9
   .cases a
  .cases a
 .cases a
def SH{T:TypeId}{x:Value}(a:EE P m T x=some (v,m')):m.lg.le m'.lg:=by
 unfold EE at a;split at a
 .split at a
  .exact(y6 a).2
  .cases a
 .cases a
end
end
section
open Go
variable [Ora]
section
variable {P:Program} {base:Nat} {ρ:Ren} {m m':Mem} {w:World}
omit [Ora] in
def FS{G:Nat->Option Obj}:∀ {us:List U} {s:List UInt8} {vs:D0},wC us=some s->Y3 G us vs->∃ e:List Int,vs=e.map (Value.int .u8)/\s=e.map fun n=>UInt8.ofNat n.toNat
 | [],s,vs,h,he=>by
   cases h;have:vs=[]:=D2.1 he.1.symm;subst this;exact⟨[],rfl,rfl⟩
 | u::us,s,vs,h,he=>by
   unfold wC at h;split at h
   .rename_i heq;cases heq
   .rename_i n r heq;cases heq;split at h
    .split at h
     .rename_i l g;cases h;cases vs with
      | nil=>have:=he.1;simp at this
      | cons v p =>
        obtain⟨e,o,j⟩:=FS (vs:=p) g ⟨by have:=he.1;simpa using this,fun i a b h1 f=>he.2 (i+1) a b (by simpa using h1) (by simpa using f)⟩
        have:=kQ (he.2 0 _ v rfl rfl) rfl;subst this;exact⟨(Int.ofNat n)::e,by rw[o];rfl,by rw[j];rfl⟩
     .cases h
    .cases h
   .cases h
def CO{t:TypeId}{n:Nat}(h:G3 P t=some n):∃ inf,P.info? t=some inf/\inf.size=n:=by
 unfold G3 at h;cases hi:P.info? t with
 | none=>rw[hi]at h;cases h
 | some inf=>rw[hi]at h;exact⟨inf,rfl,A5 h⟩
def CR(d:Nat)(t:TypeId):sameLayout P (d+1) t t=true:=by simp[sameLayout]
def TT:∃ d,P.depth=d+1:=⟨2*(P.types.size+Made.depth)+1,rfl⟩
def HX{T:TypeId}{n off:Nat}(hs:P.cellsOf T≠0)(hr:off%P.cellsOf T=0)(b:off / P.cellsOf T+1<=n):liesAt P P.depth T n off T 1=true:=by
 obtain⟨d,a⟩:=TT (P:=P);have h1:rowAt P (sameLayout P P.depth · T) P.depth T n off 1=true:=by
  rw[a];unfold rowAt;simp only[hs,if_false,hr,CR];simp[b]
 rw[a]at h1 ⊢;unfold liesAt;rw[a,h1];rfl
def TY{s t:TypeId}{x:Value}(h:HR P base ρ m.H w)(g:LJ P m s t x=some (v,m'))(E:VR ρ x x'):VOk P base ρ m w (convert s t x') v m':=by
 unfold LJ at g;split at g
 .rename_i e b o hs I;obtain⟨l,F,_,rfl⟩:=L8 E;split at g
  .rename_i k cs T ro A B;obtain⟨z,g⟩:=A2 g;have z:o<cs.length:=A1 z;cases g;obtain⟨inf,a,hk⟩:=CO A;obtain⟨⟨p,C,fz,i,h1,L,_⟩,_⟩:=h.atl F B;obtain⟨v',h3,_⟩:=L o cs[o] (A3 z);have K:l.sh+o<C.size:=(B7.1 h3).1;exact VOk.same h (Lib.run_to_unsafe w ⟨l.blk,o+l.sh,none⟩ hs I a A6 (show w.shape? l.blk=some (i,C.size) by simp[World.shape?,h1]) (by show o+l.sh<C.size;omega)) E
  .cases g
 .rename_i u b hs I;obtain⟨l,F,_,rfl⟩:=L8 E;split at g
  .rename_i k cs T A B;obtain⟨J,f⟩:=A2 g;clear g;obtain⟨q1,q2⟩:=B6 J;have q1:=A0 q1;have q2:=A0 q2;clear J;subst q1;cases f;obtain⟨inf,a,hk⟩:=CO A;obtain⟨⟨p,C,fz,i,h1,L,h3⟩,_⟩:=h.atl F B;obtain⟨rfl,_,N⟩:=h3 rfl;obtain⟨_,G⟩:=N inf a;have D:P.cellsOf i=k+1:=by unfold Program.cellsOf;rw[a];exact hk
   have q:k<cs.length:=A6;obtain⟨v',O,_⟩:=L k cs[k] (A3 q);have K:l.sh+k<C.size:=(B7.1 O).1;refine VOk.same h (Lib.run_from_unsafe w ⟨l.blk,0+l.sh,none⟩ hs I a (show w.shape? l.blk=some (i,C.size) by simp[World.shape?,h1]) ?_) E;show liesAt P P.depth i (C.size / P.cellsOf i) (0+l.sh) i 1=true;rw[E1];refine HX A6 (by rw[D];rw[hk]at G;exact G) ?_;rw[D];have G:l.sh%(k+1)=0:=by rw[hk]at G;exact G
   have S:l.sh=(k+1)*(l.sh / (k+1)):=by have:=gV l.sh (k+1);omega
   refine(Nat.le_div_iff_mul_le A6).2 ?_;rw[G8,dW,V5];omega
  .cases g
 .rename_i R e b o n c hs I;obtain⟨J,f⟩:=A2 g;clear g;obtain⟨q1,q2⟩:=B6 J;have q1:=A0 q1;clear J;subst q1;split at f
  .rename_i cs T hu B;split at f
   .rename_i m1 W3;cases f;obtain⟨l,mm,F,rfl⟩:∃ l mm,ρ b=some l/\x'=.slice (some ⟨l.blk,o+l.sh,none⟩) n mm:=by
     cases E with
     | pure hp=>simp[H8]at hp
     | sl h1 _=>exact⟨_,_,h1,rfl⟩
     | op h1 _ _ _=>exact⟨_,_,h1,rfl⟩
     | opE _=>simp at q2
    obtain⟨⟨p,C,fz,i,z2,z3,z4⟩,_⟩:=h.atl F B;have M:w.shape? l.blk=some (i,C.size):=by simp[World.shape?,z2]
    refine⟨_,ρ,w.freeze ⟨l.blk,C.size,none⟩ 1,?_,E,St.write h W3 B rfl F p ?_ ?_ ?_ ?_⟩
    .simp[convert,run_underlying I,run_underlying hu,markStringish,M]
    .simp[World.freeze]
    .simp[World.freeze]
    .intro j Q;simp only[World.freeze,Nat.one_ne_zero,if_false,F4];rw[B0 (fun e=>Q e.symm)]
    .refine⟨p,C,(if fz.1 == fz.2 then(C.size,C.size+1)else(min fz.1 C.size,max fz.2 (C.size+1))),i,?_,z3,fun D=>⟨(z4 D).1,(z4 D).2.1.mark,(z4 D).2.2⟩⟩;simp only[World.freeze,Nat.one_ne_zero,if_false,F4,if_true,z2,I9]
   .cases f
  .cases f
 .cases g
def RH{op:BinOp}{t:TypeId}{x y:Operand}{a a' b b':Value}(h:HR P base ρ m.H w)(o:JU P m op t a b=some (v,m'))(z:VR ρ a a')(u:VR ρ b b'):VOk P base ρ m w (do eqGuard op t x y a' b';binOp op t a' b') v m':=by
 unfold JU at o;split at o
 .rename_i e C p A B hu;obtain⟨q,f⟩:=A2 o;clear o;obtain⟨q1,q2⟩:=B6 q;have q1:=A0 q1;have q2:=A0 q2;clear q;subst q1;subst q2;obtain⟨l,s,_,rfl⟩:=L8 z;obtain⟨l2,g,_,rfl⟩:=L8 u;rw[s]at g
  have:=A5 g;subst this;have heq:∀ j,P.info? e=some j->∀ d:Nat,(Op.equalIn (d+1) t (.pointer (some ⟨l.blk,p+l.sh,none⟩)) (.pointer (some ⟨l.blk,p+l.sh,none⟩))).run P w=.ok true w:=fun j i d=>by
   simp[Op.equalIn,run_underlying hu,sizeOf,typeInfo,i,run_sameAddr_same]
  have n:(eqGuard op t x y (.pointer (some ⟨l.blk,p+l.sh,none⟩)) (.pointer (some ⟨l.blk,p+l.sh,none⟩))).run P w=.ok () w:=by
   unfold eqGuard;split<;>simp
  split at f
  .rename_i j i;cases f;refine VOk.same h (v':=.bool true) ?_ (.pure rfl);rw[A4,n];simp[Result.andThen,binOp,Op.equal,Op.maxDepth,heq j i 9999]
  .rename_i j i;cases f;refine VOk.same h (v':=.bool false) ?_ (.pure rfl);rw[A4,n];simp[Result.andThen,binOp,Op.equal,Op.maxDepth,heq j i 9999]
  .cases f
 .cases o
def St.laid{o:Obj}(h:HR P base ρ m.H w):St P base ρ ρ m m w { w with heap:=w.heap.push o } :=
 have hk:∀ k,k<w.heap.size->(w.heap.push o)[k]? = w.heap[k]? := fun k hk=>by rw[L2,B0 A6]
 ⟨fun _ _ h=>h,fun b l h1 a=>(by rw[h1]at a;cases a),A7 _,A7 _,fun h=>h,
  ⟨h.dom,fun id hid ab f=>by
    obtain⟨l,h1,a,h3⟩:=h.at_ id hid ab f;exact⟨l,h1,a.mono (fun _ _ h=>h) (fun k e=>hk k (a.tc e)),h3⟩⟩,
  fun _ h=>h,fun b h1 a=>absurd h1 a,fun k e _=>hk k e,by simp,⟨rfl,rfl,rfl⟩,fun b l h1 a=>(by rw[h1]at a;cases a),fun _ _ _ _=>rfl,fun _ h=>.inr h⟩
def A1J{tys:Array TypeId}{x:Value}(h:HR P base ρ m.H w)(a:sdM P m ty x=some (v,m'))(s:VR ρ x x'):VOk P base ρ m w (Builtin.unsafeSliceData_ tys ty #[x']) v m':=by
 unfold sdM at a;split at a
 .rename_i e he;split at a
  .rename_i b i t;split at a
   .rename_i c tc T g ro u;cases a;have s:VR ρ (own b i t) x':=s;rcases(aF s).1 with⟨l,wd,h1,f,h3,rfl⟩|⟨l,wd,rows,h1,f,h3,F,E,rfl⟩
    .exact VOk.same h rfl (.sdt ⟨l,h1,.inl ⟨f,rfl⟩⟩)
    .have j:Builtin.unsafeSliceData_ tys ty #[.slice (some ⟨l.blk,l.sh,none⟩) l.len l.cap]=(do
       if l.cap≠0 then pure (.pointer (some ⟨l.blk,l.sh,none⟩))
       else if(<- viewAt l.blk).isSome then pure (.pointer (some ⟨l.blk,l.sh,none⟩))
       else pure (.pointer (some ⟨<- newObj (.view ⟨l.blk,l.sh,none⟩ (<- elemOf ty)),0,none⟩))):=rfl
     rw[j];by_cases q:l.cap=0
     .rw[B0 (by simpa using q)];obtain⟨A,inf,_,_,_,D⟩:=SqR.ex (h.atl h1 u).1;rcases D with⟨n,_⟩|⟨_,n⟩
      .rw[f]at n;cases n
      .obtain⟨C,fz,B,o,lg,z,_⟩:=n;have p:w.shape? l.blk=some (B,C.size):=by simp[World.shape?,z]
       refine⟨.pointer (some ⟨w.heap.size,0,none⟩),ρ,{ w with heap:=w.heap.push (.view ⟨l.blk,l.sh,none⟩ e) },?_,.sdt ⟨l,h1,.inr ⟨f,_,rfl,fun h=>absurd q h⟩⟩,St.laid h⟩;simp[viewAt,p,elemOf,C8 he,newObj,Sem.run,A4,Result.andThen]
     .rw[B2 q];exact VOk.same h rfl (.sdt ⟨l,h1,.inr ⟨f,_,rfl,fun _=>rfl⟩⟩)
   .cases a
  .cases a
 .cases a
def A09{p l p' l':Value}(h:HR P base ρ m.H w)(J:usM P m pt p l=some (v,m'))(hp:VR ρ p p')(hl:VR ρ l l')(hS:Sat m'.lg)(hf:I8 ρ m.n m'.hi) :
  VOk P base ρ m w (Builtin.unsafeString_ ⟨pt::tys⟩ ty #[p',l']) v m':=by
 have B:IntKind.i64.max=9223372036854775807:=rfl;unfold usM at J;split at J
 .rename_i b;obtain⟨Z,J⟩:=A2 J;have Z:F9 l<8:=A1 Z;obtain⟨k,n0,rfl,ah,_⟩:=L3 hl Z;split at J
  .rename_i c tc T g e hg ai;obtain⟨hq,D⟩:=A2 J;clear J;obtain⟨q1,q2⟩:=B6 hq;have q1:=A0 q1;have q2:=A0 q2;clear hq;subst q1;subst q2;split at D
   .rename_i u m1 bx N;split at D
    .rename_i m2 W3;cases D;have ak:=bO W3;have ag:Sat m1.lg:=by rw[<- ak];exact hS
     obtain⟨u0,e1,e2,r,e3,e4,e5⟩:=K9 N ag;obtain⟨lg,rfl⟩:=G7 N;obtain⟨l0,M,hv⟩:=YG (show VR ρ (sdt b) p' from hp);have E:=St.wLg h lg;obtain⟨wd,inf,k1,k2,k3,K⟩:=SqR.ex (h.atl M hg).1;have ad:wd=1:=A6;subst ad;have f:evU .ustr [Ora.env c,.int k n0]=u0:=by
      have:D5 Ora.env (hole c 11)=Ora.env c:=rfl;rw[<- this,<- ah];exact e1
     have I:∀ aq rows,Ora.env c=.seq aq 1 rows->∃ (n:Nat) (O:List UInt8),n0=(n:Int)/\n<=rows.length/\n<=1000000000/\BI (rows.take n)=some O/\u0=.str O:=fun aq rows hc=>by
      rw[hc]at f;cases n0 with
      | negSucc z=>have:u0=.none:=f.symm;subst this;cases e3
      | ofNat n =>
        have f:(if 1=1/\n<=rows.length/\n<=rG then match BI (rows.take n)with
         | some s=>U.str s
         | none=>.none else .none)=u0:=f
        split at f
        .rename_i az;split at f
         .rename_i O I;exact⟨n,O,rfl,az.2.1,az.2.2,I,f.symm⟩
         .subst f;cases e3
        .subst f;cases e3
     have A:P.cellsOf e=1:=by unfold Program.cellsOf;rw[k2];exact k3
     have X:∀ {ρ:Ren} {w:World} {lx:Loc},BR P ρ (.sq c 11 e g false) lx w->BR P ρ (.sq c 11 e g true) lx w:=fun hb=>by
      obtain⟨wd,inf,k1,k2,k3,K⟩:=SqR.ex hb;refine⟨⟨wd,inf,k1,k2,k3,K.imp (fun x=>x) fun⟨a,C,fz,T',rows,lg,b1,b2,b3,b4,b5,b6,b7,b8,_⟩=>⟨a,C,fz,T',rows,lg,b1,b2,b3,b4,b5,b6,b7,b8,fun hh=>by cases hh⟩⟩⟩
     have Y:Hp.get (m.wLg lg).H b=some (.sq c 11 e g false):=by rw[hZ];exact hg
     have Q:St P base ρ ρ m m' w w:=St.trans hf E (St.same0 E.hr W3 Y rfl M (X (E.hr.atl M Y).1) fun q hq=>hq.imp (fun⟨_,b⟩=>⟨rfl,b⟩) fun⟨hh,_⟩=>by cases hh);rcases hv with⟨ay,rfl⟩|⟨S,a,rfl,ha⟩
     .rcases K with⟨_,L⟩|⟨L,_⟩
      .obtain⟨n,O,rfl,j1,_,j2,rfl⟩:=I _ _ L;have hn:n=0:=by simpa using j1
       subst hn;cases j2;cases e3;refine⟨.string ByteArray.empty,ρ,w,?_,e4 ρ,Q⟩;have o:Builtin.unsafeString_ ⟨pt::tys⟩ ty #[.pointer none,.int k ((0:Nat):Int)] =
         (do
           let n <- asInt (.int k ((0:Nat):Int))
           if n<0 then runtimePanic (.error "unsafe.String: len out of range")
           if n>IntKind.i64.max then unsupported (.unsafePointer "String: a length above the largest int")
           if n=0 then pure (.string .empty)
           else runtimePanic (.error "unsafe.String: ptr is nil and len is not zero")):=rfl
       rw[o];simp[asInt,asIntOf,B]
      .rw[ay]at L;cases L
     .rcases K with⟨L,_⟩|⟨_,L⟩
      .rw[S]at L;cases L
      obtain⟨C,fz,T',rows,aw,z1,z2,z3,z4,z5,z6,z7,z8,z9⟩:=L;obtain⟨rfl,aa⟩:=z9 rfl;obtain⟨n,O,rfl,j1,j0,j2,rfl⟩:=I _ _ z2;cases e3;have o:Builtin.unsafeString_ ⟨pt::tys⟩ ty #[.pointer (some a),.int k (n:Int)] =
       (do
         let n <- asInt (.int k (n:Int))
         if n<0 then runtimePanic (.error "unsafe.String: len out of range")
         if n>IntKind.i64.max then unsupported (.unsafePointer "String: a length above the largest int")
         if n=0 then pure (.string .empty)
         else if <- variablesAt a (<- elemOf pt) n.toNat then do
          let s <- loadBytes a .empty n.toNat
          freeze a n.toNat
          pure (.string s)
         else unsupported (.unsafePointer "String: not so many bytes at ptr")):=rfl
      have ao:¬ (n:Int)<0:=A6;have av:¬ (9223372036854775807:Int)<(n:Int):=A6;by_cases t:n=0
      .subst t;cases j2;refine⟨.string ByteArray.empty,ρ,w,?_,e4 ρ,Q⟩;rw[o];simp[asInt,asIntOf,B]
      .have hz:¬ (n:Int)=0:=A6;have an:l0.cap≠0:=A6;have ha:=ha an;subst ha;obtain⟨y1,y2,y3⟩:=BH j2;have hlen:(rows.take n).length=n:=by simp;omega
       have af:l0.sh+n<=C.size:=A6;obtain⟨ns,r1,r2⟩:∃ ns:List Int,(C.toList.drop l0.sh).take n=ns.map (Value.int .u8)/\O=ns.map fun n=>UInt8.ofNat n.toNat:=by
        refine FS (G:=aw.G) y1 ⟨by rw[y2,hlen];simp;omega,fun i u v b1 b2=>?_⟩;have au:i<n:=by have:=(A9.1 b1).1;rw[y2,hlen]at this;exact this
        have ax:i<rows.length:=A6;have R:rows[i]? = some rows[i]:=A3 ax;have V:(rows.take n)[i]? = some rows[i]:=by rw[F2 au];exact R
        have bz:rows[i].length=1:=z6 _ (H6 ax);have h0:rows[i][0]? = some (rows[i][0]' A6):=A3 A6;obtain⟨_,K⟩:=y3 i _ 0 _ V h0;rw[b1]at K;have K:=A5 K;rw[K];have hc:C[l0.sh+i*1+0]? = some v:=by
         rw[F2 au,H3]at b2
         simpa using b2
        exact z8 i _ 0 _ v R h0 hc
       have aj:ns.length=n:=by
        have:=U4 List.length r1;simp at this;omega
       have F:∀ (j:Nat) (v:Value),(ns.map (Value.int .u8))[j]? = some v->w.cell? ⟨l0.blk,l0.sh+j,none⟩=some v:=fun j v hj=>by
        rw[<- r1]at hj;have al:j<n:=by have:=(A9.1 hj).1;simp at this;omega
        rw[F2 al,H3]at hj;simp only[World.cell?,z1]
        simpa using hj
       have ar:=cI (P:=P) (w:=w) ns l0.blk l0.sh .empty F;rw[aj]at ar;have ae:w.shape? l0.blk=some (T',C.size):=by simp[World.shape?,z1]
       have W:=tR (P:=P) A (C.size / P.cellsOf T') l0.sh n (by rw[A];simpa using af);have st2:St P base ρ ρ (m.wLg lg) m' w (w.freeze ⟨l0.blk,l0.sh,none⟩ n):=by
        refine St.write E.hr W3 Y rfl M S ?_ ?_ ?_ ?_
        .simp[World.freeze,t]
        .simp[World.freeze,t]
        .intro j hj;simp only[World.freeze,t,if_false,F4];rw[B0 (fun e=>hj e.symm)]
        .refine⟨⟨1,inf,rfl,k2,k3,.inr ⟨S,C,(if fz.1 == fz.2 then(l0.sh,l0.sh+n)else(min fz.1 l0.sh,max fz.2 (l0.sh+n))),T',rows,aw,?_,z2,z3,z4,z5,z6,z7,z8,fun hc=>by cases hc⟩⟩⟩;simp only[World.freeze,t,if_false,F4,if_true,z1,I9]
       refine⟨.string ⟨⟨O⟩⟩,ρ,w.freeze ⟨l0.blk,l0.sh,none⟩ n,?_,e4 ρ,St.trans hf E st2⟩;rw[o];simp[asInt,asIntOf,B,ao,av,hz,t,variablesAt,ae,elemOf,C8 ai,W,ar,freeze,Sem.run,A4,Result.andThen,r2]
    .cases D
   .cases D
  .cases J
 .cases J
def NL{t:TypeId}{x:Value}(h:HR P base ρ m.H w)(o:base<=w.heap.size)(a:tE P m t x=some (v,m'))(g:I8 ρ m.n m'.hi)(f:VR ρ x x'):VOk P base ρ m w (Instr.range t x') v m':=by
 unfold tE at a;split at a
 .rename_i hu;obtain⟨h1,a⟩:=A2 a;obtain⟨s,rfl,_⟩:=i7 f (A0 h1);have e:∀ ρ':Ren,(∀ b l,ρ b=some l->ρ' b=some l)->BR P ρ' (.iter [x,.int .i64 (.ofNat 0)]) (lc w.heap.size 0 0) { w with heap:=w.heap.push (.stringIter ⟨⟨s⟩⟩ 0) }:=fun ρ' he =>
   ⟨⟨rfl,rfl⟩,.inl ⟨⟨⟨s⟩⟩,0,by simp[lc],.cons (f.mono he) (.cons (.pure rfl) .nil)⟩⟩
  obtain⟨i,h3,j⟩:=St.alloc (w':={ w with heap:=w.heap.push (.stringIter ⟨⟨s⟩⟩ 0) }) (l:=lc w.heap.size 0 0) h o a g ⟨rfl,rfl,rfl⟩ rfl rfl (e _ (V1 (g m.n (A7 _) (by obtain⟨_,_,rfl⟩:=K5 a;exact(J7 _ _).2))));refine⟨.pointer (some ⟨w.heap.size,0,none⟩),_,_,?_,?_,j⟩
  .simp[Instr.range,A4,C8 hu,Result.andThen,newObj,Sem.run]
  .rw[i];exact .ptr h3
 .cases a
def IL{s p:Value}{b:ByteArray}(h:BD s p=some (b,k)):s=.string b/\p=.int .i64 (.ofNat k):=by
 unfold BD at h;split at h
 .cases h;exact⟨rfl,rfl⟩
 .cases h
def RU{x:Value}(h:HR P base ρ m.H w)(a:DU m x=some (v,m'))(hf:I8 ρ m.n m'.hi)(hx:VR ρ x x')(hS:Sat m'.lg):VOk P base ρ m w (Instr.next x' true ty) v m':=by
 unfold DU at a;split at a
 .rename_i r;obtain⟨l,hl,_,rfl⟩:=L8 hx;split at a
  .rename_i s p hg;obtain⟨⟨⟨F,D⟩,X⟩,_⟩:=h.atl hl hg;obtain⟨g,n,g1,g2⟩:=X.resolve_right (fun q=>by cases q.1);have I:(getObj l.blk).run P w=.ok (.stringIter g n) w:=by simp[getObj,Sem.run,g1]
   have i:l.blk<w.heap.size:=(B7.1 g1).1;have O:w.heap[l.blk]=.stringIter g n:=by
    have q:=g1;rw[E4 i]at q;exact A5 q
   obtain⟨s',r1,e1,Q,k2⟩:=g2.tail;obtain⟨p',r2,e2,S,k4⟩:=k2.tail;cases k4.nil_inv;cases e2;cases e1;have V:∀ Z:Nat,(setObj l.blk (.stringIter g Z)).run P w=.ok () { w with heap:=w.heap.set l.blk (.stringIter g Z) i }:=fun Z=>by
    simp[setObj,Sem.run,O,Array.setIfInBounds,i]
   have z:n<g.size->(Instr.next (.pointer (some ⟨l.blk,0+l.sh,none⟩)) true ty).run P w=.ok (.tuple #[.bool true,.int .i64 (.ofNat n),.int .i32 (.ofNat (Utf8.decode g n).1)]) { w with heap:=w.heap.set l.blk (.stringIter g (n+(Utf8.decode g n).2)) i }:=fun o=>by
    rw[D];simp[Instr.next,A4,Result.andThen_ok,I,o,V,goInt]
   have J:¬n<g.size->(Instr.next (.pointer (some ⟨l.blk,0+l.sh,none⟩)) true ty).run P w=.ok (.tuple #[.bool false]) w:=fun o=>by
    rw[D];simp[Instr.next,A4,Result.andThen_ok,I,o]
   have fin:∀ {m1 m2:Mem} {q:Value},I7 m m1->aK m1 r (.iter [s,q])=some m2->I8 ρ m.n m2.hi->VR ρ q (.int .i64 (.ofNat (n+(Utf8.decode g n).2)))->St P base ρ ρ m m2 w { w with heap:=w.heap.set l.blk (.stringIter g (n+(Utf8.decode g n).2)) i }:=fun{m1 m2 q} e W3 Y R=>by
    obtain⟨lg,rfl⟩:=e;have M:=St.wLg h lg;have ay:Hp.get (m.wLg lg).H r=some (.iter [s,p]):=by rw[hZ];exact hg
    refine St.trans Y M (St.write (ab:=.iter [s,p]) (ab':=.iter [s,q]) M.hr W3 ay rfl hl F ⟨rfl,rfl,rfl⟩ (by simp) (fun j hj=>?_) ?_)
    .show(w.heap.set l.blk _ i)[j]? = _;rw[m7,B0 (fun e=>hj e.symm)]
    .refine⟨⟨F,D⟩,.inl ⟨g,_,?_,.cons Q (.cons R .nil)⟩⟩;show(w.heap.set l.blk _ i)[l.blk]? = _;rw[m7,B2 rfl]
   split at a
   .rename_i b k hc;obtain⟨rfl,rfl⟩:=IL hc;have e:=S3 Q;cases e;have e:=I2 S;cases e;by_cases o:n<g.size
    .have t:Nat.blt n g.data.toList.length=true:=C6 o;rw[t]at a;simp only[D9,E6]at a;split at a
     .rename_i m2 W3;cases a;exact⟨_,ρ,_,z o,.tuple rfl (LR.cons (.pure rfl) (LR.cons (.pure rfl) (LR.cons (.pure rfl) LR.nil))).2,fin ⟨m.lg,by cases m;rfl⟩ W3 hf (.pure rfl)⟩
     .cases a
    .have t:Nat.blt n g.data.toList.length=false:=by
      cases R:Nat.blt n g.data.toList.length with
      | false=>rfl
      | true=>exact absurd (A1 R) o
     rw[t]at a;cases a;exact⟨_,ρ,w,J o,.tuple rfl (LR.cons (.pure rfl) LR.nil).2,St.refl h⟩
   .obtain⟨h1,a⟩:=A2 a;obtain⟨h1,h2⟩:=B6 h1;have h1:=A0 h1;have h2:=A0 h2;obtain⟨s0,es,as⟩:=i7 Q h1;cases es;obtain⟨kk,nn,ep,ap,_⟩:=L3 S A6;cases ep;split at a
    .rename_i hh m1 C;split at a
     .rename_i c H N W hi lg B;have o1:=G7 C;have o2:=G7 B;have key:∀ {b:Bool} {f:Lg},brL lg c=some (b,f)->Sat f->(b=true↔n<s0.length)/\I7 m ⟨H,N,W,hi,f⟩:=fun{b f} t u=>by
       have K:Sat lg:=u.le (cZ t);have az:Sat m1.lg:=N0.le K (H1 B);have u1:VR ρ hh (.int .i64 s0.length):=by
        have:=(eT (ρ:=ρ) C az).2.2;rw[B9,E5,as]at this;exact this
       obtain⟨rfl,e1⟩:=fT C;obtain⟨k5,n5,e5,a5,_⟩:=L3 u1 (show 3<8 by decide);cases e5;have u2:VR ρ c (.bool (decide ((n:Int)<s0.length))):=by
        have:=(eT (ρ:=ρ) B K).2.2;rw[B9,B9,E5,ap,a5]at this;have e:evU (.bin .lss) [.int .i64 (Int.ofNat n),.int .i64 (s0.length:Int)]=.bool (decide ((n:Int)<s0.length)):=by
         simp[evU,evB,eV,qE,nO,pH,AG,ofV]
        rw[e]at this;exact this
       have:=jK t u2 u;refine⟨?_,?_⟩
       .have:=Value.bool.inj this;rw[<- this,decide_eq_true_iff];omega
       .exact(o1.trans o2).trans ⟨f,rfl⟩
      split at a
      .rename_i f t;split at a
       .rename_i y m3 E;split at a
        .rename_i q m4 A;split at a
         .rename_i m5 W3;cases a;have G:Sat m4.lg:=by rw[<- bO W3];exact hS
          have L:=G.le (H1 A);have u:Sat f:=L.le (H1 E);obtain⟨kn,ko⟩:=key t u;have o:=kn.1 rfl;have u3:VR ρ y (.int .i32 (.ofNat (Utf8.decode ⟨⟨s0⟩⟩ n).1)):=by
           have:=(eT (ρ:=ρ) E L).2.2;rw[B9,B9,E5,as,ap]at this;exact this
          have u4:VR ρ q (.int .i64 (.ofNat (n+(Utf8.decode ⟨⟨s0⟩⟩ n).2))):=by
           have:=(eT (ρ:=ρ) A G).2.2;rw[B9,B9,E5,as,ap]at this;exact this
          exact⟨_,ρ,_,z o,.tuple rfl (LR.cons (.pure rfl) (LR.cons S (LR.cons u3 LR.nil))).2,fin ((ko.trans (G7 E)).trans (G7 A)) W3 hf u4⟩
         .cases a
        .cases a
       .cases a
      .rename_i f t;cases a;obtain⟨kn,ko⟩:=key t hS;have o:¬n<s0.length:=fun q=>by have:=kn.2 q;cases this
       obtain⟨T,e3⟩:=ko;refine⟨_,ρ,w,J o,.tuple rfl (LR.cons (.pure rfl) LR.nil).2,?_⟩;rw[e3];exact St.wLg h T
      .cases a
     .cases a
    .cases a
  .cases a
 .cases a
def NM{t:TypeId}{x:Value}(a:tE P m t x=some (v,m')):m.lg.le m'.lg:=by
 unfold tE at a;split at a
 .obtain⟨_,a⟩:=A2 a;rw[u6 a];exact .refl _
 .cases a
def RV{x:Value}(e:DU m x=some (v,m')):m.lg.le m'.lg:=by
 unfold DU at e;split at e
 .split at e
  .split at e
   .rename_i b k o;cases f:Nat.blt k b.data.toList.length with
    | true =>
      rw[f]at e;simp only[D9,E6]at e;split at e
      .rename_i W3;cases e;rw[bO W3];exact .refl _
      .cases e
    | false=>rw[f]at e;cases e;exact .refl _
   .obtain⟨_,e⟩:=A2 e;split at e
    .rename_i j;split at e
     .rename_i i;have a:=(H1 j).trans (H1 i);split at e
      .rename_i f;have a:=a.trans (cZ f);split at e
       .rename_i g;split at e
        .rename_i n;split at e
         .rename_i W3;cases e;rw[bO W3];exact(a.trans (H1 g)).trans (H1 n)
         .cases e
        .cases e
       .cases e
      .rename_i f;cases e;exact a.trans (cZ f)
      .cases e
     .cases e
    .cases e
  .cases e
 .cases e
def A04{fr:Fr}{g:Operand->Value}{o:Oper}(h:HR P base ρ m.H w)(D:base<=w.heap.size)(b:xtM P fr m o=some (v,m'))(j:I8 ρ m.n m'.hi)(q:FR ρ fr g o.op)(f:Sat m'.lg):NOk P base ρ m w (execOp g o) v m':=by
 obtain⟨dst,op,ty,pos,I,G⟩:=o;unfold xtM at b;simp only at b q;have a:∀ {x},x ∈ op.operands.toList->VR ρ (ev fr x) (g x):=fun i=>q _ i
 split at b
 .rename_i s t x;exact NOk.of (TY h b (a (x:=x) (by simp[Op.operands])))
 .rename_i op t x y K;exact NOk.of (RH h b (a (x:=x) (by simp[Op.operands])) (a (x:=y) (by simp[Op.operands])))
 .rename_i xs tys;have l1:=bG (ρ:=ρ) (fr:=fr) (g:=g) (xs:=xs.toList) fun y u=>q y (by show y ∈ (#[]++xs:Array Operand).toList;simpa using u)
  split at b
  .rename_i x i;rw[i]at l1;obtain⟨x',r1,C,g1,g2⟩:=l1.tail;cases g2.nil_inv;have B:xs.map g=#[x']:=by apply I1;simpa using C
   have:=A1J (tys:=tys) h b g1;have z:=NOk.of this;obtain⟨ks,A⟩:∃ ks,execOp g ⟨dst,.call ⟨.builtin .unsafeSliceData,xs,tys⟩,ty,pos,I,G⟩=builtin .unsafeSliceData tys ty ks (xs.map g):=⟨#[],rfl⟩;rw[A,B];exact z
  .cases b
 .rename_i xs tys;have l1:=bG (ρ:=ρ) (fr:=fr) (g:=g) (xs:=xs.toList) fun y u=>q y (by show y ∈ (#[]++xs:Array Operand).toList;simpa using u)
  split at b
  .rename_i p l t rest i E;rw[i]at l1;obtain⟨x',r1,C,g1,g2⟩:=l1.tail;obtain⟨J,r2,rfl,g3,g4⟩:=g2.tail;cases g4.nil_inv;have B:xs.map g=#[x',J]:=by apply I1;simpa using C
   have z:=NOk.of (A09 (ty:=ty) (tys:=rest) h b g1 g3 f j);obtain⟨ks,A⟩:∃ ks,execOp g ⟨dst,.call ⟨.builtin .unsafeString,xs,tys⟩,ty,pos,I,G⟩=builtin .unsafeString tys ty ks (xs.map g):=⟨#[],rfl⟩;have F:tys=⟨t::rest⟩:=by rw[<- E]
   rw[A,B,F];exact z
  .cases b
 .rename_i t;exact NOk.of (XU h D b j f)
 .rename_i t x k ok;exact NOk.of (NS h b (a (x:=x) (by simp[Op.operands])) (a (x:=k) (by simp[Op.operands])) f)
 .rename_i t x;exact NOk.of (NL h D b j (a (x:=x) (by simp[Op.operands])))
 .rename_i x;exact NOk.of (RU h b j (a (x:=x) (by simp[Op.operands])) f)
 .rename_i t x k e;obtain⟨rfl,hu⟩:=DD h D b j (a (x:=x) (by simp[Op.operands])) (a (x:=k) (by simp[Op.operands])) (a (x:=e) (by simp[Op.operands])) f;exact NOk.ofU hu
 .rename_i t x k e;obtain⟨rfl,hu⟩:=DD h D b j (a (x:=x) (by simp[Op.operands])) (a (x:=k) (by simp[Op.operands])) (a (x:=e) (by simp[Op.operands])) f;exact NOk.ofU hu
 .rename_i xs tys;have l1:=bG (ρ:=ρ) (fr:=fr) (g:=g) (xs:=xs.toList) fun y u=>q y (by show y ∈ (#[]++xs:Array Operand).toList;simpa using u)
  split at b
  .rename_i x t rest i E;rw[i]at l1;obtain⟨x',r1,C,g1,g2⟩:=l1.tail;cases g2.nil_inv;have B:xs.map g=#[x']:=by apply I1;simpa using C
   have z:=NOk.of (SG (ty:=ty) (tys:=rest) h b g1 f);obtain⟨ks,A⟩:∃ ks,execOp g ⟨dst,.call ⟨.builtin .len,xs,tys⟩,ty,pos,I,G⟩=builtin .len tys ty ks (xs.map g):=⟨#[],rfl⟩;have F:tys=⟨t::rest⟩:=by rw[<- E]
   rw[A,B,F];exact z
  .cases b
 .cases b
def A05{fr:Fr}{o:Oper}(a:xtM P fr m o=some (v,m')):m.lg.le m'.lg:=by
 unfold xtM at a;split at a
 .unfold LJ at a;split at a
  .split at a
   .obtain⟨_,a⟩:=A2 a;cases a;exact .refl _
   .cases a
  .split at a
   .obtain⟨_,a⟩:=A2 a;cases a;exact .refl _
   .cases a
  .obtain⟨_,a⟩:=A2 a;split at a
   .split at a
    .rename_i W3;cases a;obtain⟨_,rfl⟩:=S2 W3;exact .refl _
    .cases a
   .cases a
  .cases a
 .unfold JU at a;split at a
  .obtain⟨_,a⟩:=A2 a;split at a
   .cases a;exact .refl _
   .cases a;exact .refl _
   .cases a
  .cases a
 .split at a
  .unfold sdM at a;split at a
   .split at a
    .split at a
     .cases a;exact .refl _
     .cases a
    .cases a
   .cases a
  .cases a
 .split at a
  .unfold usM at a;split at a
   .obtain⟨_,a⟩:=A2 a;split at a
    .obtain⟨_,a⟩:=A2 a;split at a
     .rename_i b;split at a
      .rename_i hs;cases a;rw[bO hs];exact H1 b
      .cases a
     .cases a
    .cases a
   .cases a
  .cases a
 .exact XV a
 .exact NT a
 .exact NM a
 .exact RV a
 .exact DE a
 .exact DE a
 .split at a
  .exact SH a
  .cases a
 .cases a
end
end
section
open Go
def fw(rd:Option Nat):Fence:={ Fence.wide with round:=rd }
def eW{rd:Option Nat}{n:Nat}:(fw rd).depth.isSome=true->1<=n:=fun h=>by cases h
def aB{rd:Option Nat}{n:Nat}{P:Program}{f:FuncId}{args:R3}{w:World}{R:Ending->World->Prop}:CallsIn (fw rd) n P f args w R↔Calls P f args w R :=
 ⟨fun h=>callsIn_wide.1 (show CallsIn Fence.wide n P f args w R from h),fun h=>show CallsIn (fw rd) n P f args w R from(callsIn_wide (n:=n)).2 h⟩
section
variable {P:Program} {rd:Option Nat}
def wpO(P:Program)(rd:Option Nat)(o:Oper)(a:Act)(w:World)(K:Act->World->Prop)(Q:Exit->Act->World->Prop):Prop:=o.wpIn (fw rd) 0 P a w K Q
def BS{o:Oper}{a:Act}{w:World}{K f:Act->World->Prop}{Q:Exit->Act->World->Prop}(h:∀ a w,K a w->f a w)(hh:wpO P rd o a w K Q):wpO P rd o a w f Q:=by
 unfold wpO Oper.wpIn at *;refine⟨hh.1,?_⟩;have hh:=hh.2;generalize (o.semAt (fw rd).round a.eval).run P w=r at *;cases r with
 | ok n w' =>
   cases n<;>simp only[Oper.uponIn]at hh ⊢ <;>
    first
     | exact h _ _ hh
     | exact⟨hh.1,CallsIn.mono hh.2 (fun e b he=>by cases e<;>first|exact h _ _ he|exact he)⟩
     | exact⟨hh.1,RowsIn.mono hh.2 (fun _ _ he=>h _ _ he)⟩
     | exact⟨hh.1,RoundIn.mono hh.2 (fun e b he=>by cases e<;>first|exact h _ _ he|exact he)⟩
 | halt x w'=>cases x<;>simp only[Oper.uponIn]at hh ⊢<;>exact hh
def wpL(P:Program)(rd:Option Nat)(ops:Array Oper)(Q:Exit->Act->World->Prop):List Oper->Act->World->Prop
 | [],a,w=>Q .normal a w
 | o::rest,a,w=>if Region.wanted o (yielded ops a.tmps)then wpO P rd o a w (wpL P rd ops Q rest) Q else wpL P rd ops Q rest (a.put o.dst undef) w
def mK{ops:Array Oper}{Q:Exit->Act->World->Prop}{a:Act}{w:World}{rest:List Oper}{o:Oper}
  (h:∀ K:Act->World->Prop,(∀ a w,wpL P rd ops Q rest a w->K a w)->if Region.wanted o (yielded ops a.tmps)then wpO P rd o a w K Q else K (a.put o.dst undef) w):wpL P rd ops Q (o::rest) a w:=h _ fun _ _ h=>h
def IW{ops:Array Oper}{Q:Exit->Act->World->Prop}:∀ (l:List Oper) (k:Nat),(∀ j,l[j]? = ops[k+j]?)->∀ a w,wpL P rd ops Q l a w->wpOpsIn (fw rd) 0 P ops Q (List.range' k l.length) a w
 | [],k,_,a,w,h=>h
 | o::l,k,hk,a,w,h=>by
   have h0:ops[k]? = some o:=by simpa using(hk 0).symm
   have b:=IW (Q:=Q) l (k+1) (fun j=>by have:=hk (j+1);simpa [i5,gK 1 j]using this);simp only[J2,List.range'_succ,wpOpsIn,h0];unfold wpL at h;split
   .rename_i hw;rw[B2 hw]at h;exact BS b h
   .rename_i hw;rw[B0 hw]at h;exact⟨fun _ _=>trivial,b _ _ h⟩
def R7{id:Nat}{ops:Array Oper}{Q:Exit->Act->World->Prop}{a:Act}{w:World}(h:wpL P rd ops Q ops.toList a w):(Code.region id ops false).wpIn (fw rd) 0 P Q a w :=
 wpIn_region (by
  have:=IW ops.toList 0 (by simp) a w h;rw[List.range_eq_range',<- P9];exact this)
def m9(P:Program)(rd:Option Nat)(ops:Array Oper)(Q:Exit->Act->World->Prop)(i:Nat)(K:Act->World->Prop)(a:Act)(w:World):Prop :=
 match ops[i]? with
 | none=>K a w
 | some o=>if Region.wanted o (yielded ops a.tmps)then wpO P rd o a w K Q else K (a.put o.dst undef) w
def sI{ops:Array Oper}{Q:Exit->Act->World->Prop}{i:Nat}{a:Act}{w:World}{K b:Act->World->Prop}(h:∀ a w,K a w->b a w)(hh:m9 P rd ops Q i K a w):m9 P rd ops Q i b a w:=by
 unfold m9 at *;split
 .exact h _ _ (by simpa [*]using hh)
 .rename_i o e;simp only[e]at hh;split
  .rename_i hw;simp only[hw,if_true]at hh;exact BS h hh
  .rename_i hw;simp only[hw]at hh;exact h _ _ hh
def zG{ops:Array Oper}{Q:Exit->Act->World->Prop}{i:Nat}{rest:G6}{a:Act}{w:World}(h:m9 P rd ops Q i (wpOpsIn (fw rd) 0 P ops Q rest) a w):wpOpsIn (fw rd) 0 P ops Q (i::rest) a w:=by
 unfold m9 at h;simp only[wpOpsIn];split at h
 .rename_i e;simp only[e];exact h
 .rename_i o b;simp only[b];split at h
  .rename_i hw;rw[B2 hw];exact h
  .rename_i hw;rw[B0 hw];exact⟨fun _ _=>trivial,h⟩
def eA(P:Program)(rd:Option Nat)(md:Region.Mode)(ops:Array Oper)(Q:Exit->Act->World->Prop):Nat->Array Bool->Act->World->Prop
 | 0,listed,a,w=>Region.ready md ops listed=[]/\Q .normal a w
 | fuel+1,listed,a,w=>(Region.ready md ops listed=[]->Q .normal a w)/\∀ i ∈ Region.ready md ops listed,m9 P rd ops Q i (eA P rd md ops Q fuel (listed.setIfInBounds i true)) a w
def zH{md:Region.Mode}{ops:Array Oper}{Q:Exit->Act->World->Prop}:∀ (fuel t:Nat) (listed:Array Bool) (a:Act) (w:World),eA P rd md ops Q fuel listed a w->wpOpsIn (fw rd) 0 P ops Q (Region.linearise.go md ops fuel t listed []) a w:=by
 intro fuel;induction fuel with
 | zero=>intro t listed a w h;simpa [Region.linearise.go,wpOpsIn]using h.2
 | succ fuel f =>
   intro t listed a w h;obtain⟨h0,h1⟩:=h;simp only[Region.linearise.go];change wpOpsIn (fw rd) 0 P ops Q (match (Region.ready md ops listed)[t%(Region.ready md ops listed).length]? with
    | some i=>Region.linearise.go md ops fuel (t / (Region.ready md ops listed).length) (listed.setIfInBounds i true) [i]
    | none=>[].reverse) a w
   cases hi:(Region.ready md ops listed)[t%(Region.ready md ops listed).length]? with
   | none =>
     have b:Region.ready md ops listed=[]:=by
      cases hr:Region.ready md ops listed with
      | nil=>rfl
      | cons x xs =>
        rw[hr]at hi;have e:t%(x::xs).length<(x::xs).length:=gJ _ (by simp);simp at hi;simp at e;omega
     simpa [wpOpsIn]using h0 b
   | some i =>
     simp only[];rw[linearise_go_acc,List.reverse_singleton,List.singleton_append];exact zG (sI (fun a w=>f _ _ a w) (h1 i (D8 hi)))
def cC{id:Nat}{ops:Array Oper}{Q:Exit->Act->World->Prop}{a:Act}{w:World}(hm:P.follows .mixedOrders=true)
  (h:eA P rd .any ops Q ops.size (Array.replicate ops.size false) a { w with drawn:=w.drawn+1 }):(Code.region id ops true).wpIn (fw rd) 0 P Q a w :=
 wpIn_region_draw fun t=>by
  simp only[Region.schedule,hm,Bool.true_or,if_true];exact zH ops.size t _ a _ h
def n7{b:Frame}{a:Act}{k:List Item}{w:World} :step P (lone (b.atR a (.code (.scope c)::k)) cs w)=.next (lone (b.atR a (.code c::.inScope c::k)) cs w) :=
 step_lone_go (by simp[stepG,stepG.exec,Frame.atR])
def vS{b:Frame}{a:Act}{k:List Item}{w:World} :step P (lone (b.atR a (.inScope c::k)) cs w)=.next (lone (b.atR a k) cs w) :=
 step_lone_go (by simp[stepG,stepG.exec,Frame.atR])
def Exit.calm(Q:Exit->Act->World->Prop):Exit->Act->World->Prop
 | .goto _,_,_=>False
 | e,a,w=>Q e a w
def GF{F:Fence}{n:Nat}{Q:Exit->Act->World->Prop}{a:Act}{w:World}(h:c.wpIn F n P (Exit.calm Q) a w):(Code.scope c).wpIn F n P Q a w:=by
 intro b k cs o q hr;have h0:(lone (b.atR a (.code (.scope c)::k)) cs w).fenced P F:=fenced_calm q hr rfl;obtain⟨e,i,g,j,f⟩:=h b (.inScope c::k) cs o q hr;cases e with
 | normal=>exact⟨.normal,i,g,j,.head h0 n7 (StepsIn.trans f (.one (fenced_calm q hr rfl) vS))⟩
 | exit id =>
   have s:exitTo id (.inScope c::k)=exitTo id k:=rfl;exact⟨.exit id,i,g,j,fun k' hk=>.head h0 n7 (f.1 k' (by rw[s];exact hk)),
    fun p hk=>let ⟨k₁,h1,t⟩:=f.2 p (by rw[s];exact hk);⟨k₁,h1,.head h0 n7 t⟩⟩
 | goto l=>exact j.elim
 | ret=>exact⟨_,i,g,j,.of_steps (.one h0 n7) f⟩
 | panic u=>exact⟨_,i,g,j,.of_steps (.one h0 n7) f⟩
 | outgrown=>exact⟨_,i,g,j,.of_steps (.one h0 n7) f⟩
end
end
section
open Go
def kW(o:Op)(g:Operand->Value):Sem Value :=
 match o with
 | .move x|.assign x=>pure (g x)
 | .load t x=>Instr.loadAt t (g x)
 | .store t x y=>do Instr.storeAt t (g x) (g y);pure undef
 | _=>stuck "no such operation"
def pS(P:Program)(o:Oper)(s:Act×World):Option (Act×World) :=
 match (kW o.op s.1.eval).run P s.2 with
 | .ok v w'=>some (s.1.put o.dst v,w')
 | .halt _ _=>none
section
variable {P:Program} {rd:Option Nat}
def rY{o:Oper}{s t:Act×World}(h:pS P o s=some t):∃ v,(kW o.op s.1.eval).run P s.2=.ok v t.2/\t.1=s.1.put o.dst v:=by
 unfold pS at h;split at h
 .rename_i v w' hr;cases h;exact⟨v,hr,rfl⟩
 .cases h
def kR{o:Oper}{s:Act×World}(h:(kW o.op s.1.eval).run P s.2=.ok v w'):pS P o s=some (s.1.put o.dst v,w'):=by
 unfold pS;rw[h]
def OM{o:Oper}(a:BC o.op=true)(w:World)(g:Operand->Value):o.about P w g=none:=by
 unfold Oper.about;cases b:o.op<;>rw[b]at a<;>first|rfl|cases a
def JG{o:Oper}(a:BC o.op=true)(g:Operand->Value):∀ c,o.op≠.defer c:=fun c h=>by rw[h]at a;cases a
def WP{o:Oper}(g:BC o.op=true){a a':Act}{w:World}{K:Act->World->Prop}{Q:Exit->Act->World->Prop}(h:pS P o (a,w)=some (a',w'))(hk:K a' w'):wpO P rd o a w K Q:=by
 obtain⟨v,h1,i⟩:=rY h;simp only at h1 i;subst i;unfold wpO Oper.wpIn;refine⟨fun f j=>(by rw[OM g]at j;cases j),?_⟩;rw[Oper.semAt_eq _ _ _ (JG g a.eval)];cases b:o.op<;>rw[b]at g h1<;>first
  | cases g;done
  | skip
 .have e:(execOp a.eval o)=pure (.value (a.eval ‹Operand›)):=by unfold execOp;rw[b]
  rw[e];cases h1;exact hk
 .have e:(execOp a.eval o)=pure (.value (a.eval ‹Operand›)):=by unfold execOp;rw[b]
  rw[e];cases h1;exact hk
 .rename_i t x;have e:(execOp a.eval o)=(do pure (.value (<- Instr.loadAt t (a.eval x)))):=by unfold execOp;rw[b]
  have h1:(Instr.loadAt t (a.eval x)).run P w=.ok v w':=h1;rw[e];simp only[A4,h1,Result.andThen,Sem.run_pure];exact hk
 .rename_i t x y;have e:(execOp a.eval o)=(do Instr.storeAt t (a.eval x) (a.eval y);pure .skip):=by unfold execOp;rw[b]
  have h1:(do Instr.storeAt t (a.eval x) (a.eval y);pure undef:Sem Value).run P w=.ok v w':=h1;rw[e];simp only[A4]at h1 ⊢;cases hr:(Instr.storeAt t (a.eval x) (a.eval y)).run P w with
  | ok u w2=>rw[hr]at h1;simp only[Result.andThen,Sem.run_pure]at h1 ⊢;cases h1;exact hk
  | halt x w2=>rw[hr]at h1;cases h1
def ZA{o:Oper}(f:BC o.op=true){a:Act}{w:World}{K:Act->World->Prop}{Q:Exit->Act->World->Prop}(g:∀ c a w,¬Q (.panic c) a w)(h:wpO P rd o a w K Q):∃ a' w',pS P o (a,w)=some (a',w')/\K a' w':=by
 unfold wpO Oper.wpIn at h;obtain⟨_,h⟩:=h;rw[Oper.semAt_eq _ _ _ (JG f a.eval)]at h;cases b:o.op<;>rw[b]at f<;>first
  | cases f;done
  | skip
 .rename_i x;have e:(execOp a.eval o)=pure (.value (a.eval x)):=by unfold execOp;rw[b]
  rw[e]at h;exact⟨_,_,kR (s:=(a,w)) (v:=a.eval x) (w':=w) (by rw[b];rfl),h⟩
 .rename_i x;have e:(execOp a.eval o)=pure (.value (a.eval x)):=by unfold execOp;rw[b]
  rw[e]at h;exact⟨_,_,kR (s:=(a,w)) (v:=a.eval x) (w':=w) (by rw[b];rfl),h⟩
 .rename_i t x;have e:(execOp a.eval o)=(do pure (.value (<- Instr.loadAt t (a.eval x)))):=by unfold execOp;rw[b]
  rw[e]at h;simp only[A4]at h;cases hr:(Instr.loadAt t (a.eval x)).run P w with
  | ok v w' =>
    rw[hr]at h;exact⟨_,_,kR (s:=(a,w)) (v:=v) (w':=w') (by rw[b];exact hr),h⟩
  | halt y w' =>
    rw[hr]at h;cases y<;>first|exact absurd h (g _ _ _)|exact h.elim
 .rename_i t x y;have e:(execOp a.eval o)=(do Instr.storeAt t (a.eval x) (a.eval y);pure .skip):=by unfold execOp;rw[b]
  rw[e]at h;simp only[A4]at h;cases hr:(Instr.storeAt t (a.eval x) (a.eval y)).run P w with
  | ok u w' =>
    rw[hr]at h;refine⟨_,_,kR (s:=(a,w)) (v:=undef) (w':=w') ?_,h⟩;rw[b];show(do Instr.storeAt t (a.eval x) (a.eval y);pure undef:Sem Value).run P w=_;simp only[A4,hr,Result.andThen,Sem.run_pure]
  | halt z w' =>
    rw[hr]at h;cases z<;>first|exact absurd h (g _ _ _)|exact h.elim
def RD{a:Act}{e:Option Tmp}{u:Value}(h:∀ x y,d=some x->e=some y->x≠y):(a.put d v).put e u=(a.put e u).put d v:=by
 cases d with
 | none=>rfl
 | some x=>cases e with
   | none=>rfl
   | some y =>
     have b:=h x y rfl rfl;unfold Act.put;simp only;congr 1;exact Array.setIfInBounds_comm _ _ b
def eX{a:Act}{x:Operand}(h:∀ t,d=some t->t ∉ mO x):(a.put d v).eval x=a.eval x:=by
 cases x with
 | const c=>cases d<;>rfl
 | tmp t =>
   cases d with
   | none=>rfl
   | some y =>
     have:y≠t:=fun e=>h y rfl (by subst e;exact F7.2 rfl)
     unfold Act.put Act.eval;simp only[B1];rw[Array.getElem?_setIfInBounds_ne this]
 | _=>cases d<;>rfl
variable [Ora]
def wE(P:Program)(w:World)(t:TypeId)(p:Value):Prop :=
 ∃ b o C T fz s g,p=.pointer (some ⟨b,o,none⟩)/\w.heap[b]? = some (.cells C T fz)/\G3 P t=some s/\Z7 P t=some g/\o+s<=C.size/\o<C.size
def xN{t:TypeId}{b o s:Nat}{C:R3}{T:TypeId}{g:Bool}(hs:G3 P t=some s)(n:Z7 P t=some g)(h1:o+s<=C.size)(q:o<C.size):∃ v,∀ w:World,w.heap[b]? = some (.cells C T fz)->(Instr.loadAt t (.pointer (some ⟨b,o,none⟩))).run P w=.ok v w:=by
 have a:∀ w:World,w.heap[b]? = some (.cells C T fz)->∀ j v,C[o+j]? = some v->w.cell? ⟨b,o+j,none⟩=some v:=fun w hw j v p=>by simp[World.cell?,hw,p]
 cases g with
 | true =>
   refine⟨.agg ⟨(C.toList.drop o).take s⟩,fun w hw=>?_⟩;have u:((C.toList.drop o).take s).length=s:=by rw[List.length_take,O2,P9];omega
   have i:=J0 (P:=P) (w:=w) (b:=b) (o:=o) u (fun j v f=>by
    have e:j<s:=by have:=(A9.1 f).1;omega
    rw[F2 e,H3,N6]at f;exact a w hw j v f)
   unfold Instr.loadAt;simp[A4,Instr.sureAddr,loadVar,t6 n,J5 hs,Result.andThen,i]
 | false =>
   refine⟨C[o],fun w hw=>?_⟩
   have:=a w hw 0 C[o] (by simp[q]);unfold Instr.loadAt;simp[A4,Instr.sureAddr,loadVar,t6 n,Result.andThen,run_load,show w.cell? ⟨b,o,none⟩=some C[o]from by simpa using this]
def sR{b o:Nat}{T:TypeId}{fz:Nat×Nat}:∀ (vs:List Value) (i:Nat) (C:Array Value) (w w':World),w.heap[b]? = some (.cells C T fz)->o+i+vs.length<=C.size->(storeCells ⟨b,o,none⟩ vs i).run P w=.ok () w' ->
  (∀ k,k≠b->w'.heap[k]? = w.heap[k]?)/\∃ C',w'.heap[b]? = some (.cells C' T fz)/\C'.size=C.size
 | [],i,C,w,w',h,_,hr=>by cases hr;exact⟨fun _ _=>rfl,C,h,rfl⟩
 | v::r,i,C,w,w',h,hl,hr=>by
   simp only[J2]at hl;have f:o+i<C.size:=A6;have j:w.cell? ⟨b,o+i,none⟩=some C[o+i]:=by simp[World.cell?,h,f]
   have n:(w.setCell ⟨b,o+i,none⟩ v).heap[b]? = some (.cells (C.setIfInBounds (o+i) v) T fz):=by
    simp[World.setCell,F4,h]
   unfold storeCells at hr;simp only[A4,J0.add_none']at hr;have a:(store ⟨b,o+i,none⟩ v).run P w=.ok () (w.setCell ⟨b,o+i,none⟩ v)∨∃ x w2,(store ⟨b,o+i,none⟩ v).run P w=.halt x w2:=by
    unfold store;cases v<;>first
     | exact .inr ⟨_,_,rfl⟩
     | (simp only[Sem.run,j]
        split
        .exact .inr ⟨_,_,rfl⟩
        .exact .inl rfl)
   rcases a with a|⟨x,w2,a⟩
   .rw[a]at hr;simp only[Result.andThen]at hr;obtain⟨g,C',p,q⟩:=sR r (i+1) _ _ _ n (by simp;omega) hr;refine⟨fun k hk=>?_,C',p,by rw[q];simp⟩;rw[g k hk];simp only[World.setCell,F4];rw[B0 (fun e=>hk e.symm)]
   .rw[a]at hr;cases hr
def zL{t:TypeId}{b o s:Nat}{C:R3}{T:TypeId}{y:Value}{w:World}(hs:G3 P t=some s)(hw:w.heap[b]? = some (.cells C T fz))(h1:o+s<=C.size)(hr:(Instr.storeAt t (.pointer (some ⟨b,o,none⟩)) y).run P w=.ok () w') :
  (∀ k,k≠b->w'.heap[k]? = w.heap[k]?)/\∃ C',w'.heap[b]? = some (.cells C' T fz)/\C'.size=C.size:=by
 unfold Instr.storeAt at hr;simp only[A4,Instr.sureAddr,storeVar,J5 hs,Result.andThen,Sem.run_pure]at hr;by_cases a:y.cells.size≠s
 .rw[B2 a]at hr;cases hr
 .rw[B0 a]at hr;have a:=Classical.not_not.1 a;exact sR y.cells.toList 0 C w w' hw (by rw[P9,a];omega) hr
structure GB (P:Program) (ops:List Oper) (s:Act×World):Prop where
 pl:∀ o ∈ ops,∀ t x,jM o.op=some (t,x)->wE P s.2 t (s.1.eval x)
 ap:∀ i j a b,i<j->ops[i]? = some a->ops[j]? = some b->oD b i=false->(dN a.op || dN b.op)=true->∀ t x u y,jM a.op=some (t,x)->jM b.op=some (u,y)->∀ p q,s.1.eval x=.pointer (some p)->s.1.eval y=.pointer (some q)->p.block≠q.block
def uB{b:Nat}:r7 l b=true↔b ∈ l:=by
 unfold r7;rw[L1];constructor
 .rintro⟨x,h,e⟩;have:=A0 e;subst this;exact h
 .intro h;exact⟨b,h,bT b⟩
def DQ{a:List Tmp}:∀ {l:List Oper} {k i:Nat} {o:Oper},RP a k l=true->l[i]? = some o->A1a a (k+i) o=true
 | [],k,i,o,_,h=>by simp at h
 | p::l,k,0,o,h,hi=>by
   simp at hi;subst hi;exact(B6 h).1
 | p::l,k,i+1,o,h,hi=>by
   have:=DQ (l:=l) (k:=k+1) (i:=i) (o:=o) (B6 h).2 (by simpa using hi);rw[show k+(i+1)=k+1+i by omega];exact this
structure One (ops:List Oper) (i:Nat) (o:Oper):Prop where
 cls:BC o.op=true
 grd:o.guard=none
 ads:∀ p ∈ ops,∀ t x,jM p.op=some (t,x)->∀ d,o.dst=some d->d ∉ mO x
 lt:∀ e ∈ o.after,Region.binds .any e=true->e.on<i
def kA{ops:List Oper}(h:iH ops=true){i:Nat}{o:Oper}(hi:ops[i]? = some o):One ops i o:=by
 have h1:=DQ (B6 h).1 hi;rw[E1]at h1;unfold A1a at h1;obtain⟨n,h1⟩:=B6 h1;obtain⟨a2,h1⟩:=B6 h1;obtain⟨a3,a4⟩:=B6 h1;refine⟨n,?_,fun p hp t x f d b hm=>?_,fun e he j=>?_⟩
 .cases a:o.guard with
  | none=>rfl
  | some g=>rw[a]at a2;cases a2
 .have:r7 (WC ops) d=true:=uB.2 (List.mem_flatMap.2 ⟨p,hp,by rw[f];exact hm⟩);unfold xD at a3;rw[b]at a3;simp only at a3;rw[this]at a3;cases a3
 .have:=dG.1 a4 e he;rw[j]at this;exact A1 this
def CW{p:Oper->Oper->Bool}{ops:List Oper}(h:zX p ops=true){i j:Nat}{a b:Oper}(f:i<j)(hi:ops[i]? = some a)(g:ops[j]? = some b)(he:oD b i=false):p a b=true:=by
 unfold zX at h;have e:=(A9.1 g).1
 have:=D3.1 (D3.1 h j (Y5.2 e)) i (Y5.2 f);rw[hi,g]at this;simp only[he,T5]at this;exact this
def DA{o:Oper}{a:Act}(b:∀ t,d=some t->t ∉ RA o.op)(f:BC o.op=true):kW o.op (a.put d v).eval=kW o.op a.eval:=by
 cases g:o.op<;>rw[g]at f b<;>first
  | cases f;done
  | skip
 .unfold kW;simp only;rw[eX b]
 .unfold kW;simp only;rw[eX b]
 .unfold kW;simp only;rw[eX b]
 .unfold kW;simp only;rw[eX (fun t e hm=>b t e (B4.2 (.inl hm))),eX (fun t e hm=>b t e (B4.2 (.inr hm)))]
def rO{o:Oper}{s:Act×World}(e:BC o.op=true)(a:dN o.op=false)(hp:∀ t x,jM o.op=some (t,x)->wE P s.2 t (s.1.eval x))(h:(kW o.op s.1.eval).run P s.2=.ok v w'):w'=s.2:=by
 cases p:o.op<;>rw[p]at e a h hp<;>first
  | cases e;done
  | cases a;done
  | skip
 .cases h;rfl
 .cases h;rfl
 .rename_i t x;obtain⟨b,o',C,T,fz,sz,g,q,n,i,j,f,z⟩:=hp t x rfl;obtain⟨u,hu⟩:=xN (P:=P) (T:=T) (fz:=fz) i j f z;have h:(Instr.loadAt t (s.1.eval x)).run P s.2=.ok v w':=h;rw[q,hu s.2 n]at h;cases h;rfl
def sQ{o:Oper}{s:Act×World}(a:dN o.op=true)(hp:∀ t x,jM o.op=some (t,x)->wE P s.2 t (s.1.eval x))(h:(kW o.op s.1.eval).run P s.2=.ok v w') :
  ∃ t x b o' C T fz,jM o.op=some (t,x)/\s.1.eval x=.pointer (some ⟨b,o',none⟩)/\s.2.heap[b]? = some (.cells C T fz)/\(∀ k,k≠b->w'.heap[k]? = s.2.heap[k]?)/\∃ C',w'.heap[b]? = some (.cells C' T fz)/\C'.size=C.size:=by
 cases p:o.op<;>rw[p]at a h hp<;>first
  | cases a;done
  | skip
 rename_i t x y;obtain⟨b,o',C,T,fz,sz,g,f,e,n,A,j,B⟩:=hp t x rfl;have h:(do Instr.storeAt t (s.1.eval x) (s.1.eval y);pure undef:Sem Value).run P s.2=.ok v w':=h;simp only[A4]at h;cases hr:(Instr.storeAt t (s.1.eval x) (s.1.eval y)).run P s.2 with
 | ok u w2 =>
   rw[hr]at h;simp only[Result.andThen,Sem.run_pure]at h;cases h;rw[f]at hr;obtain⟨i,q⟩:=zL n e j hr;exact⟨t,x,b,o',C,T,fz,rfl,f,e,i,q⟩
 | halt z w2=>rw[hr]at h;cases h
def wE.keep{w:World}{t:TypeId}{p:Value}(h:wE P w t p)(hk:∀ (b:Nat) (C:Array Value) (T:TypeId) (fz:Nat×Nat),w.heap[b]? = some (.cells C T fz)->∃ C',w'.heap[b]? = some (.cells C' T fz)/\C'.size=C.size):wE P w' t p:=by
 obtain⟨b,o,C,T,fz,s,g,i,f,a,e,n,q⟩:=h;obtain⟨C',h1,j⟩:=hk b C T fz f;exact⟨b,o,C',T,fz,s,g,i,h1,a,e,A6,A6⟩
def GB.step{ops:List Oper}{s E:Act×World}{i:Nat}{o:Oper}(hr:iH ops=true)(B:GB P ops s)(hi:ops[i]? = some o)(h:pS P o s=some E):GB P ops E:=by
 obtain⟨v,h1,M⟩:=rY h;have K:=kA hr hi;have f:=D8 hi;have n:∀ p ∈ ops,∀ t x,jM p.op=some (t,x)->E.1.eval x=s.1.eval x:=fun p hp t x g=>by rw[M];exact eX (K.ads p hp t x g)
 have hk:∀ (b:Nat) (C:Array Value) (T:TypeId) (fz:Nat×Nat),s.2.heap[b]? = some (.cells C T fz)->∃ C',E.2.heap[b]? = some (.cells C' T fz)/\C'.size=C.size:=fun b C T fz D=>by
  cases z:dN o.op with
  | false=>rw[rO K.cls z (fun t x g=>B.pl o f t x g) h1];exact⟨C,D,rfl⟩
  | true =>
    obtain⟨t,x,b',o',W,X,Q,Z,Y,R,S,C',N,V⟩:=sQ z (fun t x g=>B.pl o f t x g) h1;by_cases e:b=b'
    .subst e;rw[R]at D;cases D;exact⟨C',N,V⟩
    .exact⟨C,by rw[S b e];exact D,rfl⟩
 refine⟨fun p hp t x g=>by rw[n p hp t x g];exact(B.pl p hp t x g).keep hk,fun i j a b F h3 H L O t x u y J G p q I A=>?_⟩;rw[n a (D8 h3) t x J]at I;rw[n b (D8 H) u y G]at A;exact B.ap i j a b F h3 H L O t x u y J G p q I A
def TQ{ops:List Oper}{s s1 s2:Act×World}{i j:Nat}{a b:Oper}(hr:iH ops=true)(N:GB P ops s)(F:i<j)(hi:ops[i]? = some a)(J:ops[j]? = some b)(he:oD b i=false)(h1:pS P a s=some s1)(h2:pS P b s1=some s2):∃ t,pS P b s=some t/\pS P a t=some s2:=by
 have S:=kA hr hi;have O:=kA hr J;have ma:=D8 hi;have mb:=D8 J;have f:=CW (B6 hr).2 F hi J he;unfold A27 at f;obtain⟨i1,f⟩:=B6 f;obtain⟨i2,f⟩:=B6 f;obtain⟨i3,i4⟩:=B6 f;have R:∀ t,a.dst=some t->t ∉ RA b.op:=fun t Q hm=>by
  unfold xD at i2;rw[Q]at i2;simp only at i2;rw[uB.2 hm]at i2;cases i2
 have Z:∀ t,b.dst=some t->t ∉ RA a.op:=fun t Q hm=>by
  unfold xD at i3;rw[Q]at i3;simp only at i3;rw[uB.2 hm]at i3;cases i3
 have W:∀ x y,a.dst=some x->b.dst=some y->x≠y:=fun x y n hy e=>by
  rw[n,hy]at i1;simp only at i1;subst e;rw[bT]at i1;cases i1
 obtain⟨v,M,e2⟩:=rY h1;obtain⟨u,E,e4⟩:=rY h2;obtain⟨a1,w1⟩:=s1;obtain⟨a2,w2⟩:=s2;obtain⟨a0,w0⟩:=s;simp only at M e2 E e4;subst e2;subst e4;rw[DA R O.cls]at E;suffices hh:∃ w',(kW b.op a0.eval).run P w0=.ok u w'/\(kW a.op a0.eval).run P w'=.ok v w2 by
  obtain⟨w',q1,q2⟩:=hh;refine⟨(a0.put b.dst u,w'),kR (s:=(a0,w0)) q1,?_⟩
  have:=kR (P:=P) (o:=a) (s:=(a0.put b.dst u,w')) (v:=v) (w':=w2) (by show(kW a.op (a0.put b.dst u).eval).run P w'=_;rw[DA Z S.cls];exact q2);rw[this];simp only;rw[RD W]
 have H:∀ t x,jM a.op=some (t,x)->wE P w0 t (a0.eval x):=fun t x n=>N.pl a ma t x n
 have B:∀ t x,jM b.op=some (t,x)->wE P w0 t (a0.eval x):=fun t x n=>N.pl b mb t x n
 have p:∀ {o:Oper} {w w':World} {r:Value},BC o.op=true->dN o.op=false->(∀ t x,jM o.op=some (t,x)->∃ q A C T fz s g,a0.eval x=.pointer (some ⟨q,A,none⟩)/\w.heap[q]? = some (.cells C T fz)/\w'.heap[q]? = some (.cells C T fz)/\G3 P t=some s/\Z7 P t=some g/\A+s<=C.size/\A<C.size)->(kW o.op a0.eval).run P w=.ok r w->(kW o.op a0.eval).run P w'=.ok r w':=fun{o w w' r} hc L hp h=>by
  cases ho:o.op<;>rw[ho]at hc L h hp<;>first
   | cases hc;done
   | cases L;done
   | skip
  .cases h;rfl
  .cases h;rfl
  .rename_i t x;obtain⟨q,A,C,T,fz,sz,g,f1,f2,f3,f4,f5,f6,f7⟩:=hp t x rfl;obtain⟨z,hz⟩:=xN (P:=P) (T:=T) (fz:=fz) f4 f5 f6 f7;have h:(Instr.loadAt t (a0.eval x)).run P w=.ok r w:=h;show(Instr.loadAt t (a0.eval x)).run P w'=.ok r w';rw[f1,hz w f2]at h;rw[f1,hz w' f3];cases h;rfl
 cases I:dN a.op with
 | false =>
   have hw:w1=w0:=rO (s:=(a0,w0)) S.cls I H M;subst hw;refine⟨w2,E,?_⟩;refine p S.cls I (fun t x n=>?_) M;obtain⟨q,A,C,T,fz,sz,g,f1,f2,f3,f4,f5,f6⟩:=H t x n;cases G:dN b.op with
   | false =>
     have V:w2=w1:=rO (s:=(a0,w1)) O.cls G B E;subst V;exact⟨q,A,C,T,fz,sz,g,f1,f2,f2,f3,f4,f5,f6⟩
   | true =>
     obtain⟨X,x',b',o',C0,T0,az,g1,g2,g3,g4,_⟩:=sQ (s:=(a0,w1)) G B E;have D:=N.ap i j a b F hi J he (by rw[I,G];rfl) t x X x' n g1 _ _ f1 g2;exact⟨q,A,C,T,fz,sz,g,f1,f2,(g4 q D).trans f2,f3,f4,f5,f6⟩
 | true =>
   have G:dN b.op=false:=by
    cases h:dN b.op with
    | false=>rfl
    | true=>rw[I,h]at i4;cases i4
   obtain⟨X,x',b',o',C0,T0,az,g1,g2,g3,g4,C1,g5,g6⟩:=sQ (s:=(a0,w0)) I H M;have K:∀ t x,jM b.op=some (t,x)->wE P w1 t (a0.eval x):=fun t x n=>(B t x n).keep fun b C T fz Y=>by
    by_cases e:b=b'
    .subst e;rw[g3]at Y;cases Y;exact⟨C1,g5,g6⟩
    .exact⟨C,by rw[g4 b e];exact Y,rfl⟩
   have hw:w2=w1:=rO (s:=(a0,w1)) O.cls G K E;subst hw;refine⟨w0,?_,M⟩;refine p O.cls G (fun t x n=>?_) E;obtain⟨q,A,C,T,fz,sz,g,f1,f2,f3,f4,f5,f6⟩:=B t x n;have D:=N.ap i j a b F hi J he (by rw[I,G];rfl) X x' t x g1 n _ _ g2 f1;exact⟨q,A,C,T,fz,sz,g,f1,(g4 q (fun e=>D e.symm)).trans f2,f2,f3,f4,f5,f6⟩
def zT(P:Program)(ops:List Oper):G6->Act×World->Option (Act×World)
 | [],s=>some s
 | i::l,s=>match ops[i]? with
   | some o=>match pS P o s with
     | some s=>zT P ops l s
     | none=>none
   | none=>zT P ops l s
def lL{ops:List Oper}(hr:iH ops=true){j:Nat}{b:Oper}(f:ops[j]? = some b){l2:G6}{r:Act×World}:∀ (l1:List Nat) (s:Act×World),GB P ops s->(∀ i ∈ l1,i<j/\oD b i=false)->zT P ops (l1++j::l2) s=some r->∃ s1,pS P b s=some s1/\zT P ops (l1++l2) s1=some r
 | [],s,hg,_,h=>by
   simp only[P6,zT,f]at h;split at h
   .rename_i s1 h1;exact⟨s1,h1,h⟩
   .cases h
 | i::l1,s,hg,hl,h=>by
   obtain⟨h0,he⟩:=hl i B5;have e:∀ i ∈ l1,i<j/\oD b i=false:=fun k hk=>hl k (C5 _ hk)
   simp only[Z2,zT]at h ⊢;cases hi:ops[i]? with
   | none =>
     rw[hi]at h;exact lL hr f l1 s hg e h
   | some a =>
     rw[hi]at h;simp only at h ⊢;split at h
     .rename_i g h1;obtain⟨s1,q1,q2⟩:=lL hr f l1 g (hg.step hr hi h1) e h;obtain⟨t,t1,t2⟩:=TQ hr hg h0 hi f he h1 q1;exact⟨t,t1,by rw[t2];exact q2⟩
     .cases h
def hO(n:Nat)(listed:Array Bool):G6:=(List.range n).filter fun i=>!listed.getD i true
def nA{n:Nat}{i:Nat}:i ∈ hO n listed↔i<n/\listed.getD i true=false:=by
 unfold hO;rw[P7,Y5];simp
def zV(n:Nat)(listed:Array Bool):(hO n listed).Pairwise (· < ·):=List.Pairwise.filter _ List.pairwise_lt_range
def QZ{n:Nat}{i:Nat}{l1 l2:G6}(hi:i<listed.size)(h:hO n listed=l1++i::l2):hO n (listed.setIfInBounds i true)=l1++l2:=by
 have hp:=zV n listed;rw[h]at hp;have a:∀ k ∈ l1++l2,(k != i)=true:=fun k hk=>by
  have hp:=List.pairwise_append.1 hp;rcases B4.1 hk with hk|hk
  .have:=hp.2.2 k hk i B5;simp;omega
  .have:=(Q8.1 hp.2.1).1 k hk;simp;omega
 have e:hO n (listed.setIfInBounds i true)=(hO n listed).filter fun k=>k != i:=by
  unfold hO;rw[List.filter_filter];apply List.filter_congr;intro k _;simp only[B1,D1];by_cases e:i=k
  .subst e;simp[hi]
  .simp[e,Ne.symm e]
 rw[e,h,List.filter_append,List.filter_cons];have b:(i != i)=false:=by simp
 rw[b];simp only[G4,if_false];rw[bM.2 fun k hk=>a k (B4.2 (.inl hk)),bM.2 fun k hk=>a k (B4.2 (.inr hk))]
def xI{ops:Array Oper}(hr:iH ops.toList=true){Q:Exit->Act->World->Prop}:∀ (fuel:Nat) (listed:Array Bool) (a:Act) (w:World) (r:Act×World),listed.size=ops.size->GB P ops.toList (a,w)->(hO ops.size listed).length=fuel->zT P ops.toList (hO ops.size listed) (a,w)=some r->Q .normal r.1 r.2->eA P rd .any ops Q fuel listed a w
 | 0,listed,a,w,r,hsz,hg,hl,h,hq=>by
   have h0:=D2.1 hl;rw[h0]at h;cases h;refine⟨?_,hq⟩;rw[U8];intro i hi;have:i ∈ hO ops.size listed:=by
    unfold Region.ready at hi;rw[P7]at hi;unfold hO;rw[P7];exact⟨hi.1,(B6 hi.2).1⟩
   rw[h0]at this;cases this
 | fuel+1,listed,a,w,r,hsz,hg,hl,h,hq=>by
   have j:∀ {i:Nat},i<ops.size->∃ o,ops.toList[i]? = some o/\ops[i]? = some o:=fun{i} hi=>⟨ops[i],by simp[hi],by simp[hi]⟩
   refine⟨fun H=>?_,fun i hi=>?_⟩
   ·
    cases g:hO ops.size listed with
    | nil=>rw[g]at hl;cases hl
    | cons i t =>
      exfalso;have E:i ∈ hO ops.size listed:=by rw[g];exact B5
      obtain⟨i1,i2⟩:=nA.1 E;obtain⟨o,u,A⟩:=j i1;have z:=kA hr u;have f:=zV ops.size listed;rw[g]at f;have x:∀ k,k<i->listed.getD k false=true:=fun k hk=>by
       have p:k<listed.size:=A6;cases G:listed.getD k true with
       | true=>rw[<- G];simp[B1,p]
       | false =>
         have:k ∈ hO ops.size listed:=nA.2 ⟨A6,G⟩;rw[g]at this;rcases A8.1 this with e|hm
         .omega
         .have:=(Q8.1 f).1 k hm;omega
      have:i ∈ Region.ready .any ops listed:=by
       unfold Region.ready;rw[P7,Y5];refine⟨i1,?_⟩;rw[i2,A];simp only[jU,Bool.true_and,I9,U5];rw[dG];intro e he;cases I:Region.binds .any e with
       | false=>rfl
       | true=>rw[x e.on (z.lt e he I)];rfl
      rw[H]at this;cases this
   .have hi':=hi;unfold Region.ready at hi;rw[P7,Y5]at hi;obtain⟨i1,i2⟩:=hi;obtain⟨o,u,A⟩:=j i1;have z:=kA hr u;rw[A]at i2;obtain⟨i2,i3⟩:=B6 i2;simp only[I9,U5]at i3;have B:listed.getD i true=false:=by simpa using i2
    have s:i ∈ hO ops.size listed:=nA.2 ⟨i1,B⟩;obtain⟨l1,l2,b⟩:=List.append_of_mem s;have f:=zV ops.size listed;rw[b]at f;have C:∀ k ∈ l1,k<i/\oD o k=false:=fun k hk=>by
     refine⟨(List.pairwise_append.1 f).2.2 k hk i B5,?_⟩;cases he:oD o k with
     | false=>rfl
     | true =>
       exfalso;unfold oD at he;rw[Array.any_eq_true']at he;obtain⟨e,hm,he⟩:=he;obtain⟨K,F⟩:=B6 he;have F:=A0 F
       have:=(dG.1 i3) e hm;rw[K,F]at this;simp only[O7,T5]at this;have p:=(nA (n:=ops.size) (listed:=listed) (i:=k)).1 (by rw[b];exact B4.2 (.inl hk));have D:k<listed.size:=A6;have q:=p.2;simp[B1,D]at this q;rw[this]at q;cases q
    rw[b]at h;obtain⟨s1,q1,q2⟩:=lL hr u l1 (a,w) hg C h;have W3:=QZ (n:=ops.size) (listed:=listed) (i:=i) (l1:=l1) (l2:=l2) A6 b;obtain⟨J,w1⟩:=s1;unfold m9;rw[A];simp only;have hw:Region.wanted o (yielded ops a.tmps)=true:=by unfold Region.wanted;rw[z.grd]
    rw[B2 hw];refine WP z.cls q1 (xI hr fuel (listed.setIfInBounds i true) J w1 r (by simpa using hsz) (hg.step hr u q1) ?_ (by rw[W3];exact q2) hq);rw[W3];have:(l1++i::l2).length=fuel+1:=by rw[<- b];exact hl
    simp at this ⊢;omega
def wY{ops:Array Oper}(hr:iH ops.toList=true){Q:Exit->Act->World->Prop}:∀ (d k:Nat) (a:Act) (w:World),k+d=ops.size->wpL P rd ops (fun e a' w'=>e=.normal/\Q e a' w') (ops.toList.drop k) a w->∃ r,zT P ops.toList (List.range' k d) (a,w)=some r/\Q .normal r.1 r.2
 | 0,k,a,w,hk,h=>by
   have:ops.toList.drop k=[]:=V7 (by simp;omega);rw[this]at h;exact⟨(a,w),rfl,h.2⟩
 | d+1,k,a,w,hk,h=>by
   have b:k<ops.toList.length:=by simp;omega
   rw[N5 b]at h;have f:=kA hr (A3 b);unfold wpL at h;have hw:Region.wanted ops.toList[k] (yielded ops a.tmps)=true:=by unfold Region.wanted;rw[f.grd]
   rw[B2 hw]at h;obtain⟨a',w',h1,g⟩:=ZA f.cls (fun c a w hh=>by cases hh.1) h;obtain⟨r,r1,r2⟩:=wY hr d (k+1) a' w' A6 g;refine⟨r,?_,r2⟩;rw[List.range'_succ];simp only[zT,A3 b,h1];exact r1
def XG{ops:Array Oper}(hr:iH ops.toList=true){Q:Exit->Act->World->Prop}{a:Act}{w:World}(b:∀ w',w'.heap=w.heap->GB P ops.toList (a,w'))(h:∀ d,wpL P rd ops (fun e a' w'=>e=.normal/\Q e a' w') ops.toList a { w with drawn:=d })(d:Nat):eA P rd .any ops Q ops.size (Array.replicate ops.size false) a { w with drawn:=d }:=by
 obtain⟨r,r1,r2⟩:=wY hr ops.size 0 a { w with drawn:=d } A6 (by simpa using h d);have e:hO ops.size (Array.replicate ops.size false)=List.range' 0 ops.size:=by
  unfold hO;rw[List.range_eq_range',bM];intro i hi;have:i<ops.size:=by have:=List.mem_range'.1 hi;omega
  simp[B1,this]
 exact xI hr ops.size _ a _ r (by simp) (b _ rfl) (by rw[e];simp) (by rw[e];exact r1) r2
end
end
end Go.Sx
