import Derived.Test.YtbbicpheoakeeaaGreatDoorX4
import Derived.MapKept
import Derived.WideKeyRuns
import Derived.Lib.Builder
import Derived.LoopNIn
import Derived.RangeFuncRecord
set_option linter.all false
set_option maxRecDepth 100000
set_option maxHeartbeats 4000000
namespace Go.Sx
variable {ks l ts:H5}{k' v v' x':Value}{cs:List Frame}{clock k pi:Nat}{y:MTy}{d:Option Tmp}{kt pt ty:TypeId}{r us vs:List U}{rows rs:List (List U)}{es es':Array MapEntry}{hs xs:D3}{c:Code}{e':MapEntry}{tys:List TypeId}{w':World}{fz:Nat×Nat}{listed:Array Bool}
section
open Go
variable [Ora]
section
variable {P:Program} {base:Nat} {ρ:Ren} {m m':Mem} {w:World}
def uG:∀ {ts:H5} {cs cs':D3},AM ts cs=true->(∀ t ∈ ts,t<10)->LR ρ cs cs'->(cs.map (E0 Ora.env)).map G4=ts/\cs'=(cs.map (E0 Ora.env)).map T5
 | [],[],cs',_,_,hl=>by cases hl.nil_inv;exact⟨rfl,rfl⟩
 | t::ts,v::vs,cs',h,ht,hl=>by
   obtain⟨h1,f⟩:=B7 (show(Nat.beq (G8 v) t && AM ts vs)=true from h);have h1:=A0 h1;obtain⟨v',r,rfl,g1,g2⟩:=hl.tail;obtain⟨a,b⟩:=uG f (fun x hx=>ht x (C5 _ hx)) g2;obtain⟨c,d⟩:=aJ g1 (by rw[h1];exact ht t B5);have e:T5 (E0 Ora.env v)=v':=by unfold T5;rw[c];rfl
   exact⟨by rw[C3,C3,a,d,h1],by rw[C3,C3,e,<- b]⟩
 | [],_::_,_,h,_,_=>by cases h
 | _::_,[],_,h,_,_=>by cases h
def jO{a:Bool}{cs:D3}(h:oD a ts v=some cs)(f:∀ t ∈ ts,t<10)(hv:VR ρ v v'):v'=Y3 a (cs.map (E0 Ora.env))/\(cs.map (E0 Ora.env)).map G4=ts:=by
 unfold oD at h;split at h
 .rename_i c;obtain⟨h1,h⟩:=A3 h;cases h;obtain⟨cs',rfl,g⟩:=W1 hv;obtain⟨b,e⟩:=uG h1 f g;exact⟨by rw[e];rfl,b⟩
 .cases h
 .obtain⟨h1,h⟩:=A3 h;cases h;obtain⟨b,e⟩:=uG h1 f (LR.cons hv LR.nil);refine⟨?_,b⟩
  have:=E1 List.head? e
  simpa [Y3]using this
def yM{t:Nat}(h:fX P t=some k):k<10:=by
 unfold fX at h;split at h
 .cases h;decide
 .cases h;have:=M3 ‹_›;omega
 .cases h;decide
 .cases h
def MB:∀ {g:List Field} {i:Nat} {l:H5},vP P g i=some l->∀ t ∈ l,t<10
 | [],i,l,h,t,e=>by cases h;cases e
 | f::g,i,l,h,t,e=>by
   unfold vP at h;split at h
   .rename_i a b h1 j;obtain⟨_,h⟩:=A3 h;cases h;rcases B6.1 e with rfl|e
    .exact yM h1
    .exact MB j t e
   .cases h
def GN{T:TypeId}(h:WC P T=some y):P.underlying T=some (.map y.kt y.vt)/\oP P y.kt=some (y.ka,y.ks)/\QZ P y.vt=some (y.va,y.vs)/\0<y.ks.length/\(∀ t ∈ y.ks,t<10)/\(∀ t ∈ y.vs,t<10)/\(y.va=false->y.vs.length=1):=by
 unfold WC at h;split at h
 .rename_i kt vt hu;split at h
  .rename_i ka k ks va vs h1 a;cases h;refine⟨hu,h1,a,Nat.succ_pos _,?_,?_,?_⟩
   .intro t b;unfold oP at h1;split at h1
    .cases hs:P.stoodInHeld kt with
     | true=>rw[hs]at h1;cases h1
     | false =>
       rw[hs]at h1;simp only[E3]at h1;split at h1
       .rename_i l f;cases h1;exact MB f t b
       .cases h1
    .split at h1
     .rename_i z g;cases h1;simp only[B6,K4,or_false]at b;subst b;exact yM g
     .cases h1
   .intro t b;unfold QZ at a;split at a
    .obtain⟨h3,a⟩:=A3 a;cases a;exact A1 (D7.1 h3 t b)
    .obtain⟨h3,a⟩:=A3 a;cases a;simp only[B6,K4,or_false]at b;subst b;exact A1 h3
    .cases a
   .intro e;have e:va=false:=e;subst e;unfold QZ at a;split at a
    .obtain⟨_,a⟩:=A3 a;cases a
    .obtain⟨_,a⟩:=A3 a;cases a;rfl
    .cases a
  .cases h
 .cases h
def RK{t:TypeId}{u v:U}(h:fX P t=some k)(h1:G4 u=k)(f:G4 v=k)(n:Nat)(w:World):(Op.equalIn (n+1) t (T5 u) (T5 v)).run P w=.ok (isU u v) w:=by
 have o:=yM h;unfold fX at h;split at h
 .rename_i hu;cases h;cases u<;>simp only[G4]at h1<;>first|omega|skip
  .have:=M3 ‹_›;omega
  .cases v<;>simp only[G4]at f<;>first|omega|skip
   .have:=M3 ‹_›;omega
   .simp[T5,toV,isU,eqU,Op.equalIn,A4,D2 hu,Result.andThen]
 .rename_i j hu;cases h;cases u with
  | int a x =>
    cases v with
    | int b z =>
      have g:=sA h1;have i:=sA f;subst g;subst i;simp[T5,toV,isU,eqU,Op.equalIn,A4,D2 hu,Result.andThen]
    | bool b=>simp only[G4]at f;have:=M3 j;omega
    | str s=>simp only[G4]at f;have:=M3 j;omega
    | seq _ _ _=>simp only[G4]at f;omega
    | none=>simp only[G4]at f;omega
  | bool b=>simp only[G4]at h1;have:=M3 j;omega
  | str s=>simp only[G4]at h1;have:=M3 j;omega
  | seq _ _ _=>simp only[G4]at h1;omega
  | none=>simp only[G4]at h1;omega
 .rename_i hu;cases h;cases u<;>simp only[G4]at h1<;>first|omega|skip
  .have:=M3 ‹_›;omega
  .cases v<;>simp only[G4]at f<;>first|omega|skip
   .have:=M3 ‹_›;omega
   .rename_i p q
    have:=run_equalIn_string (P:=P) w n t ⟨⟨p⟩⟩ ⟨⟨q⟩⟩ hu;have e:∀ s:List UInt8,T5 (.str s)=.string ⟨⟨s⟩⟩:=fun _=>rfl
    rw[e,e,this];simp[isU,eqU,ByteArray.toList_eq]
 .cases h
def YU{t:TypeId}{d:TypeDesc}{u v:U}(g:P.underlying t=some d)(h:fX P t=some k)(h1:G4 u=k)(f:G4 v=k):Instr.sameNow d (T5 u) (T5 v)=some (isU u v):=by
 unfold fX at h;split at h
 .rename_i hu;rw[hu]at g;cases g;cases h;cases u<;>simp only[G4]at h1<;>first|omega|skip
  .have:=M3 ‹_›;omega
  .cases v<;>simp only[G4]at f<;>first|omega|skip
   .have:=M3 ‹_›;omega
   .simp[T5,toV,isU,eqU,Instr.sameNow]
 .rename_i j hu;rw[hu]at g;cases g;cases h;cases u with
  | int a x =>
    cases v with
    | int b z =>
      have i:=sA h1;have n:=sA f;subst i;subst n;simp[T5,toV,isU,eqU,Instr.sameNow]
    | bool b=>simp only[G4]at f;have:=M3 j;omega
    | str s=>simp only[G4]at f;have:=M3 j;omega
    | seq _ _ _=>simp only[G4]at f;have:=M3 j;omega
    | none=>simp only[G4]at f;have:=M3 j;omega
  | bool b=>simp only[G4]at h1;have:=M3 j;omega
  | str s=>simp only[G4]at h1;have:=M3 j;omega
  | seq _ _ _=>simp only[G4]at h1;have:=M3 j;omega
  | none=>simp only[G4]at h1;have:=M3 j;omega
 .rename_i hu;rw[hu]at g;cases g;cases h;cases u<;>simp only[G4]at h1<;>first|omega|skip
  .have:=M3 ‹_›;omega
  .cases v<;>simp only[G4]at f<;>first|omega|skip
   .have:=M3 ‹_›;omega
   .rename_i p q;have e:(ByteArray.mk ⟨p⟩ == ByteArray.mk ⟨q⟩)=(p == q):=by
     show(Array.mk p == Array.mk q)=_;rw[K5,beq_iff_eq,beq_iff_eq];exact⟨fun h=>by injection h,fun h=>by rw[h]⟩
    simp[T5,toV,isU,eqU,Instr.sameNow,e]
 .cases h
def tM{t:TypeId}(h:fX P t=some k){X:D3}{i:Nat}(hx:X[i]? = some v)(w:World):(part t ⟨X⟩ i).run P w=.ok v w:=by
 have a:∀ d,P.underlying t=some d->(match d with|.struct _|.array _ _=>False|_=>True)->(part t ⟨X⟩ i).run P w=.ok v w:=fun d e b=>by
  cases d<;>simp only at b<;>simp[part,isAgg,A4,D2 e,Result.andThen,hx]
 unfold fX at h;split at h
 .exact a _ ‹_› trivial
 .exact a _ ‹_› trivial
 .exact a _ ‹_› trivial
 .cases h
def EL:∀ {o:List Field} {i:Nat} {ks:H5} {us vs:List U} {p q:D3},vP P o i=some ks->us.map G4=ks->vs.map G4=ks->p.length=i->q.length=i->∀ (n:Nat) (w:World),(Op.eqFields (n+1) ⟨p++us.map T5⟩ ⟨q++vs.map T5⟩ o).run P w=.ok (U3 us vs) w
 | [],i,ks,us,vs,p,q,h,h1,h2,hp,hq,n,w=>by
   cases h;have b:us=[]:=by simpa using h1
   have e:vs=[]:=by simpa using h2
   subst b;subst e;simp[Op.eqFields,U3]
 | f::o,i,ks,us,vs,p,q,h,h1,h2,hp,hq,n,w=>by
   unfold vP at h;split at h
   .rename_i t l g z;obtain⟨A,h⟩:=A3 h;cases h;obtain⟨j,a⟩:=B7 A;have a:=A0 a;have B:f.name ≠ "_":=by simpa using j
    cases us with
    | nil=>cases h1
    | cons u us =>
      cases vs with
      | nil=>cases h2
      | cons v vs =>
        simp only[C3,J8]at h1 h2;have g1:(p++(u::us).map T5)[f.offset]? = some (T5 u):=by rw[a,<- hp,E4 (A6 _)];simp
        have g2:(q++(v::vs).map T5)[f.offset]? = some (T5 v):=by rw[a,<- hq,E4 (A6 _)];simp
        have b:=tM g g1 w;have e:=tM g g2 w;have x:=RK g h1.1 h2.1 n w;have s:=EL (p:=p++[T5 u]) (q:=q++[T5 v]) z h1.2 h2.2 (by simp[hp]) (by simp[hq]) n w;rw[M0,M0]at s;unfold Op.eqFields;rw[A9 B];simp only[U3];cases hs:isU u v with
        | false =>
          simp only[A4,b,e,x,hs,Result.andThen_ok];simp
        | true =>
          simp only[A4,b,e,x,hs,Result.andThen_ok,gX];exact s
   .cases h
def A8s{a:Bool}(h:oP P kt=some (a,ks))(h1:us.map G4=ks)(b:vs.map G4=ks)(w:World):(Op.equal kt (Y3 a us) (Y3 a vs)).run P w=.ok (U3 us vs) w:=by
 unfold oP at h;split at h
 .rename_i g hu;cases hs:P.stoodInHeld kt with
  | true=>rw[hs]at h;cases h
  | false =>
    rw[hs]at h;simp only[E3]at h;split at h
    .rename_i l f;cases h;have e:P.fieldsOf kt=g:=by simp[Program.fieldsOf,hu]
     show(Op.equalIn (9999+1) kt (.agg _) (.agg _)).run P w=_;rw[run_equalIn_struct (P:=P) w 9999 kt _ _ (by rw[e];exact hu) hs,e];exact EL (p:=[]) (q:=[]) f h1 b rfl rfl 9998 w
    .cases h
 .split at h
  .rename_i k i;cases h;cases us with
   | nil=>cases h1
   | cons u us=>cases us with
     | cons _ _=>simp at h1
     | nil=>cases vs with
       | nil=>cases b
       | cons v vs=>cases vs with
         | cons _ _=>simp at b
         | nil =>
           simp only[C3,F8,J8,and_true]at h1 b
           have:=RK i h1 b 9999 w;show(Op.equalIn (9999+1) kt (T5 u) (T5 v)).run P w=_;rw[this];simp[U3]
  .cases h
def AV{t:TypeId}(h:fX P t=some k)(e:Bool)(n:Nat)(v:Value)(w:World):(Instr.checkKey e (n+1) t v).run P w=.ok () w:=by
 unfold fX at h;split at h
 .rename_i hu;simp[Instr.checkKey,A4,D2 hu,Result.andThen]
 .rename_i hu;simp[Instr.checkKey,A4,D2 hu,Result.andThen]
 .rename_i hu;simp[Instr.checkKey,A4,D2 hu,Result.andThen]
 .cases h
def sX(e:Bool)(n:Nat)(w:World):∀ (L:List Field) (i:Nat) (ks:List Nat) (us:List U) (p:List Value),vP P L i=some ks->us.map G4=ks->p.length=i ->
  (forIn L PUnit.unit fun f (_:PUnit)=>if f.name ≠ "_" then(do let x <- part f.type ⟨p++us.map T5⟩ f.offset;Instr.checkKey e (n+1) f.type x;pure (ForInStep.yield PUnit.unit):Sem (ForInStep PUnit))else pure (ForInStep.yield PUnit.unit)).run P w=.ok PUnit.unit w
 | [],i,ks,us,p,h,h1,hp=>by simp
 | f::fs,i,ks,us,p,h,h1,hp=>by
   unfold vP at h;split at h
   .rename_i t l g o;obtain⟨s,h⟩:=A3 h;cases h;obtain⟨b,a⟩:=B7 s;have a:=A0 a;have A:f.name ≠ "_":=by simpa using b
    cases us with
    | nil=>cases h1
    | cons u us =>
      simp only[C3,J8]at h1;have g1:(p++(u::us).map T5)[f.offset]? = some (T5 u):=by rw[a,<- hp,E4 (A6 _)];simp
      have q:=tM g g1 w;have z:=AV g e n (T5 u) w;have j:=sX e n w fs (i+1) l us (p++[T5 u]) o h1.2 (by simp[hp]);rw[M0]at j;rw[List.forIn_cons];simp only[A9 A,A4,q,z,Result.andThen_ok,Sem.run_pure];exact j
   .cases h
def EU{a:Bool}(h:oP P kt=some (a,ks))(h1:us.map G4=ks)(e:Bool)(w:World):(Instr.checkKey e 10000 kt (Y3 a us)).run P w=.ok () w:=by
 unfold oP at h;split at h
 .rename_i f hu;cases hs:P.stoodInHeld kt with
  | true=>rw[hs]at h;cases h
  | false =>
    rw[hs]at h;simp only[E3]at h;split at h
    .rename_i l b;have h:=h;cases h;have key:∀ n:Nat,(Instr.checkKey e (n+2) kt (.agg ⟨us.map T5⟩)).run P w=.ok () w:=fun n=>by
      rw[Instr.checkKey];simp only[A4,D2 hu,Result.andThen_ok];rw[<- Array.forIn_toList]
      have:=sX e n w f.toList 0 _ us [] b h1 rfl;rw[H1]at this;rw[this];rfl
     exact key 9998
    .cases h
 .split at h
  .rename_i k g;cases h;exact AV g e 9999 _ w
  .cases h
def oI(k:List U):List (List U)->Nat->Option (Nat×List U)
 | [],_=>none
 | r::rs,i=>if U3 k r then some (i,r)else oI k rs (i+1)
def tU:∀ (us r:List U),U3 us (r.take us.length)=U3 us r
 | [],r=>rfl
 | a::us,[]=>rfl
 | a::us,b::r=>by
   show(isU a b && U3 us (r.take us.length))=(isU a b && U3 us r);rw[tU us r]
def wO.head{e:MapEntry}{es:List MapEntry}(h:wO y (r::rs) (e::es)):(r.map G4=y.ks++y.vs/\e.key=Y3 y.ka (r.take y.ks.length)/\e.val=Y3 y.va (r.drop y.ks.length))/\wO y rs es :=
 ⟨h.2 0 r e rfl rfl,by have:=h.1;simpa using this,fun i row b h1 a=>h.2 (i+1) row b (by simpa using h1) (by simpa using a)⟩
def CQ(h:r.map G4=y.ks++y.vs):(r.take y.ks.length).map G4=y.ks/\(r.drop y.ks.length).map G4=y.vs:=by
 constructor
 .rw[List.map_take,h,List.take_left'];rfl
 .rw[List.map_drop,h,List.drop_left'];rfl
abbrev CI(y:MTy)(us:List U)(rows:List (List U))(i:Nat):Option (Nat×Value):=(oI us rows i).map fun p=>(p.1,Y3 y.va (p.2.drop y.ks.length))
def FI{y:MTy}(f:oP P y.kt=some (y.ka,y.ks)){us:List U}(h1:us.map G4=y.ks):∀ {rows:List (List U)} {es:List MapEntry} (i:Nat),wO y rows es->(Instr.findAsking y.kt (Y3 y.ka us) es i).run P w=.ok (CI y us rows i) w
 | [],[],i,_=>by simp[Instr.findAsking,CI,oI]
 | [],_::_,i,h=>by have:=h.1;simp at this
 | _::_,[],i,h=>by have:=h.1;simp at this
 | r::rs,e::es,i,h=>by
   obtain⟨⟨a,b,c⟩,d⟩:=h.head;obtain⟨t1,t2⟩:=CQ a;have hlen:us.length=y.ks.length:=by rw[<- h1,E9]
   have j:=A8s (P:=P) f h1 t1 w;have n:U3 us (r.take y.ks.length)=U3 us r:=by rw[<- hlen];exact tU us r
   have g:=FI f h1 (i+1) d;unfold Instr.findAsking;rw[b];simp only[A4,j,n,Result.andThen_ok,CI,oI];cases o:U3 us r with
   | true=>simp[c]
   | false=>simp only[K0,if_false];exact g
def A04{y:MTy}{k:Nat}{d:TypeDesc}(n:P.underlying y.kt=some d)(hs:fX P y.kt=some k)(j:y.ka=false)(f:y.ks=[k]){u:U}(h1:G4 u=k):∀ {rows:List (List U)} {es:List MapEntry} (i:Nat),wO y rows es->Instr.findNow d (T5 u) es i=some (CI y [u] rows i)
 | [],[],i,_=>rfl
 | [],_::_,i,h=>by have:=h.1;simp at this
 | _::_,[],i,h=>by have:=h.1;simp at this
 | r::rs,e::es,i,h=>by
   obtain⟨⟨a,b,c⟩,q⟩:=h.head;cases r with
   | nil=>rw[f]at a;simp at a
   | cons g r =>
     have a0:G4 g=k:=by rw[f]at a;simp at a;exact a.1
     have b:e.key=T5 g:=by rw[b,j,f];rfl
     have o:=YU n hs h1 a0;have p:=A04 n hs j f h1 (i+1) q;unfold Instr.findNow;rw[b,o];simp only[CI,oI,U3,oS];cases s:isU u g with
     | true=>simp[c]
     | false=>simp only[K0,if_false];exact p
def AH(a:oP P y.kt=some (y.ka,y.ks))(h1:us.map G4=y.ks){es:List MapEntry}(h:wO y rows es):(Instr.findKey y.kt (Y3 y.ka us) es).run P w=.ok (CI y us rows 0) w:=by
 have f:=a;unfold oP at a;split at a
 .rename_i i hu;rw[run_findKey_eq w (by rw[hu]) (Y3 y.ka us) es];exact FI f h1 0 h
 .split at a
  .rename_i k hs;have g:y.ka=false:=(E1 Prod.fst (A8 a)).symm;have b:y.ks=[k]:=(E1 Prod.snd (A8 a)).symm;rw[b]at h1;cases us with
   | nil=>simp at h1
   | cons u us=>cases us with
     | cons _ _=>simp at h1
     | nil =>
       simp only[C3,F8,J8,and_true]at h1;obtain⟨d,e⟩:∃ d,P.underlying y.kt=some d:=by
        cases e:P.underlying y.kt with
        | some d=>exact⟨d,rfl⟩
        | none=>unfold fX at hs;rw[e]at hs;cases hs
       rw[g];exact MapKept.run_findKey e (A04 e hs g b h1 0 h)
  .cases a
def LV{k:List U}:∀ (rows:List (List U)) (i:Nat),(oI k rows i).isSome=rows.any (U3 k)
 | [],_=>rfl
 | r::rs,i=>by
   simp only[oI,Q9];cases U3 k r with
   | true=>rfl
   | false=>simp only[K0,if_false,R1];exact LV rs (i+1)
def EC{k:List U}:∀ (rows:List (List U)) (i:Nat),(oI k rows i).map (·.2)=rows.find? (U3 k)
 | [],_=>rfl
 | r::rs,i=>by
   simp only[oI,dL];cases U3 k r with
   | true=>rfl
   | false=>simp only[K0,if_false];exact EC rs (i+1)
def sI{k:List U}:∀ {rows:List (List U)} {i j:Nat} {r:List U},oI k rows i=some (j,r)->i<=j/\rows[j-i]? = some r/\U3 k r=true
 | [],_,_,_,h=>by cases h
 | x::rs,i,j,r,h=>by
   unfold oI at h;cases e:U3 k x with
   | true=>rw[e]at h;cases h;exact⟨A6 _,by simp,e⟩
   | false =>
     rw[e]at h;obtain⟨a,b,c⟩:=sI (rows:=rs) h;exact⟨A2,by rw[show j-i=(j-(i+1))+1 by omega];exact b,c⟩
def KI{kw:Nat}{c:List U}:∀ (rows:List (List U)) (i:Nat),KJ kw c rows=match oI (c.take kw) rows i with
  | some p=>rows.set (p.1-i) c
  | none=>rows++[c]
 | [],_=>rfl
 | r::rs,i=>by
   unfold KJ oI;cases b:U3 (c.take kw) r with
   | true=>simp
   | false =>
     simp only[K0,if_false];rw[KI rs (i+1)];cases hx:oI (c.take kw) rs (i+1)with
     | none=>rfl
     | some p =>
       obtain⟨a,_⟩:=sI (r:=p.2) (j:=p.1) hx;show r::rs.set (p.1-(i+1)) c=(r::rs).set (p.1-i) c;rw[show p.1-i=(p.1-(i+1))+1 by omega];rfl
def GZ{b:Nat}(h:VR ρ (.map (some b)) v'):∃ l,ρ b=some l/\v'=.map (some l.blk):=by
 cases h with
 | pure hp=>simp[I8]at hp
 | map h=>exact⟨_,h,rfl⟩
def A38{T:TypeId}(h:HR P base ρ m.H w)(s:base<=w.heap.size)(a:A1D P m T=some (v,m'))(o:K7 ρ m.n m'.hi)(u:Sat m'.lg):VOk P base ρ m w (Instr.makeMap T none) v m':=by
 unfold A1D at a;split at a
 .rename_i y j;rw[O5]at a;have g:=aR a;have t:=kL (lg:=m'.lg) u (by rw[g];exact .refl _);obtain⟨q,A,p,wd,rows,z⟩:=t;have f:Ora.env m.lg.nx=.seq false y.w []:=by
   have hw:0<y.w:=by have:=(GN j).2.2.2.1;unfold MTy.w;omega
   rw[q];show(if y.w=0 then U.none else match j8 y.w (0 / y.w) []with
    | some r=>U.seq false y.w r
    | none=>.none)=_
   rw[A7 A2,Nat.zero_div];rfl
  have b:=St.wLg h (fP m (10+y.w) (.mk y.w) []);obtain⟨h1,x,h3⟩:=St.alloc (w':={ w with heap:=w.heap.push (.map #[] 0) }) (l:=lc w.heap.size 0 0) b.hr s a (by rw[XJ];exact o) ⟨rfl,rfl,rfl⟩ rfl rfl
   ⟨⟨rfl,rfl⟩,y,#[],0,[],j,rfl,by simp,f,⟨rfl,fun i row e hr=>by simp at hr⟩,mX,fun e he=>by cases he⟩
  refine⟨.map (some w.heap.size),_,_,?_,?_,St.trans o b h3⟩
  .simp[Instr.makeMap,newObj,Sem.run,A4,Result.andThen]
  .rw[h1];exact .map x
 .cases a
def iG{t:Nat}{op:LOp}(h:U5 m t op xs=some (v,m'))(e:Sat m'.lg):t<10/\G4 (evU op (xs.map (E0 Ora.env)))=t/\VR ρ v (T5 (evU op (xs.map (E0 Ora.env)))):=by
 obtain⟨u,b,g,r,a,i,f⟩:=N2 h e;subst b;refine⟨f,g,?_⟩;have:T5 (evU op (xs.map (E0 Ora.env)))=r:=by unfold T5;rw[a];rfl
 rw[this];exact i ρ
def EF{wd kw c t:Nat}{b:D3}{g:Bool}{rows:List (List U)}(u:Ora.env c=.seq g wd rows)(s:b.length=kw):∀ {ts:H5} {f:D3} {j:Nat} {m m':Mem} {hs:D3},uD wd kw c t b ts f j m=some (hs,m')->Sat m'.lg ->
  K2 m m'/\m.lg.le m'.lg/\hs.length=ts.length/\f.length=ts.length /\
  (∀ r,rows.find? (U3 (b.map (E0 Ora.env)))=some r->∀ i:Nat,i<ts.length->∃ v,hs[i]? = some v/\VR ρ v (T5 (r.getD (j+i) .none))) /\
  (rows.find? (U3 (b.map (E0 Ora.env)))=none->∀ i:Nat,i<ts.length->∃ v z,hs[i]? = some v/\f[i]? = some z/\VR ρ v (T5 (E0 Ora.env z)))
 | [],[],j,m,m',hs,h,hS=>by
   cases h;exact⟨.refl _,.refl _,rfl,rfl,fun r _ i hi=>(by simp at hi),fun _ i hi=>(by simp at hi)⟩
 | [],_::_,j,m,m',hs,h,hS=>by cases h
 | _::_,[],j,m,m',hs,h,hS=>by cases h
 | tg::ts,z::f,j,m,m',hs,h,hS=>by
   unfold uD at h;split at h
   .rename_i v m1 hv;split at h
    .rename_i r m2 hr;cases h;obtain⟨A,a2,a3,a4,a5,D⟩:=EF u s hr hS;have o:Sat m1.lg:=hS.le a2;obtain⟨_,_,a⟩:=iG (ρ:=ρ) hv o;have p:evU (.mget wd kw j) ((hole c t::z::b).map (E0 Ora.env))=(match rows.find? (U3 (b.map (E0 Ora.env)))with
       | some r=>r.getD j .none
       | none=>E0 Ora.env z):=by
      show evU (.mget wd kw j) (Ora.env c::E0 Ora.env z::b.map (E0 Ora.env))=_;rw[u];show(if wd=wd/\(b.map (E0 Ora.env)).length=kw then _ else U.none)=_;rw[A9 ⟨rfl,by rw[E9];exact s⟩];cases rows.find? (U3 (b.map (E0 Ora.env)))<;>rfl
     rw[p]at a;refine⟨(H6 hv).trans A,(H9 hv).trans a2,by simp[a3],by simp[a4],fun E e i hi=>?_,fun e i hi=>?_⟩
     .cases i with
      | zero=>rw[e]at a;exact⟨v,rfl,a⟩
      | succ i =>
        obtain⟨x,n,q⟩:=a5 E e i (by simpa using hi);exact⟨x,by simpa using n,by rw[show j+(i+1)=j+1+i by omega];exact q⟩
     .cases i with
      | zero=>rw[e]at a;exact⟨v,z,rfl,rfl,a⟩
      | succ i =>
        obtain⟨x,B,n,q,C⟩:=D e i (by simpa using hi);exact⟨x,B,by simpa using n,by simpa using q,C⟩
    .cases h
   .cases h
def A7z{vs:D3}(n:hs.length=vs.length)(h:∀ i:Nat,i<vs.length->∃ v v',hs[i]? = some v/\vs[i]? = some v'/\VR ρ v v'):LR ρ hs vs:=⟨n,fun i v v' h1 f=>by
 obtain⟨a,b,e,g,j⟩:=h i (B1.1 f).1;rw[h1]at e;rw[f]at g;cases e;cases g;exact j⟩
def A20{a:Bool}(h:A21 a hs=some v)(b:LR ρ hs (us.map T5)):VR ρ v (Y3 a us):=by
 unfold A21 at h;split at h
 .cases h;exact .agg b.1 b.2
 .cases h;cases us with
  | nil=>have:=b.1;simp at this
  | cons u us =>
    obtain⟨v',r,e,g,_⟩:=b.tail;rw[C3,J8]at e;rw[<- e.1]at g;exact g
 .cases h
def WE{T:TypeId}{x k:Value}{ok:Bool}(h:HR P base ρ m.H w)(o:zK P m T x k ok=some (v,m'))(hx:VR ρ x x')(hk:VR ρ k k')(R:Sat m'.lg):VOk P base ρ m w (Instr.lookup T x' k' ok) v m':=by
 unfold zK at o;split at o
 .rename_i r y hy;obtain⟨hu,C,aw,ax,az,Y,au⟩:=GN hy;obtain⟨l,hl,rfl⟩:=GZ hx;split at o
  .rename_i c t T2 f z hg N hz;obtain⟨X,a⟩:=A3 o;clear o;have X:=A0 X;subst X;split at a
   .rename_i zc O;split at a
    .rename_i hs m1 V;split at a
     .rename_i v1 hv;obtain⟨⟨⟨av,ar⟩,y2,es,clock,rows,g1,g2,g3,g4,g5,g6⟩,_⟩:=h.atl hl hg;rw[hy]at g1;have g1:=A8 g1;subst g1;obtain⟨k1,k2⟩:=jO N az hk;have Q:VR ρ z z:=.ofC (xU hz).choose_spec.2.2;obtain⟨z1,z2⟩:=jO O Y Q;have u:f.length=y.ks.length:=by rw[<- k2];simp
      have L:Sat m1.lg:=by
       cases ok with
       | false=>cases a;exact R
       | true =>
         simp only[E6]at a;split at a
         .rename_i J;cases a;exact R.le (H9 J)
         .cases a
      obtain⟨a1,a2,a3,a4,a5,a6⟩:=EF (ρ:=ρ) g4 u V L;have D:=AH (P:=P) (w:=w) C k2 g5;have A:=EU (P:=P) C k2 es.isEmpty w;have j:=EC (k:=f.map (E0 Ora.env)) rows 0;have B:∀ {us:List U},LR ρ hs (us.map T5)->VR ρ v1 (Y3 y.va us):=fun g=>A20 hv g
      have s:∃ val,VR ρ v1 val/\(Instr.lookup T2 (.map (some l.blk)) k' ok).run P w=.ok (if ok then .tuple #[val,.bool (rows.any (U3 (f.map (E0 Ora.env))))]else val) w:=by
       have I:(getObj l.blk).run P w=.ok (.map es clock) w:=by simp[getObj,Sem.run,g3]
       have e:=LV (k:=f.map (E0 Ora.env)) rows 0;cases G:oI (f.map (E0 Ora.env)) rows 0 with
       | none =>
         rw[G]at j e;have g:LR ρ hs ((zc.map (E0 Ora.env)).map T5):=A7z (by rw[a3,E9,E9,a4]) fun i hi=>by
          have M:i<y.vs.length:=by rw[E9,E9,a4]at hi;exact hi
          obtain⟨x1,z',Z,e2,e3⟩:=a6 j.symm i M;exact⟨x1,_,Z,by rw[F9,F9,e2];rfl,e3⟩
         refine⟨z,by rw[z1];exact B g,?_⟩;have e:rows.any (U3 (f.map (E0 Ora.env)))=false:=e.symm;rw[k1];simp only[Instr.lookup,A4,D2 hu,Result.andThen_ok,I,A,D,CI,G,Option.map_none,aO hz,Sem.run_pure,e]
       | some p =>
         obtain⟨pi,q⟩:=p;rw[G]at j e;obtain⟨_,K,q2⟩:=sI G;have K:rows[pi]? = some q:=by simpa using K
         have S:pi<es.toList.length:=by rw[<- g5.1];exact(B1.1 K).1
         obtain⟨t1,t2,t3⟩:=g5.2 pi q es.toList[pi] K (A5 S);have ay:q.length=y.ks.length+y.vs.length:=by
          have:=E1 List.length t1
          simpa using this
         have g:LR ρ hs ((q.drop y.ks.length).map T5):=A7z (by rw[a3,E9,E7];omega) fun i hi=>by
          rw[E9,E7]at hi;obtain⟨x1,Z,e2⟩:=a5 q j.symm i A2;refine⟨x1,_,Z,?_,e2⟩;rw[F9,I0,A5 A2,L6,B0,A5 A2];rfl
         refine⟨Y3 y.va (q.drop y.ks.length),B g,?_⟩;have e:rows.any (U3 (f.map (E0 Ora.env)))=true:=e.symm;rw[k1];simp only[Instr.lookup,A4,D2 hu,Result.andThen_ok,I,A,D,CI,G,L6,Sem.run_pure,e]
      obtain⟨val,F,n⟩:=s;cases ok with
      | false =>
        cases a;obtain⟨lg,rfl⟩:=a1;exact⟨val,ρ,w,n,F,St.wLg h lg⟩
      | true =>
        simp only[E6]at a;split at a
        .rename_i b m2 J;cases a;obtain⟨_,_,E⟩:=iG (ρ:=ρ) J R;have W:evU (.mhas y.w y.ks.length) ((hole c t::f).map (E0 Ora.env))=.bool (rows.any (U3 (f.map (E0 Ora.env)))):=by
          show evU (.mhas y.w y.ks.length) (Ora.env c::f.map (E0 Ora.env))=_;rw[g4];show(if y.w=y.w/\(f.map (E0 Ora.env)).length=y.ks.length then _ else U.none)=_;rw[A9 ⟨rfl,by rw[E9];exact u⟩]
         rw[W]at E;obtain⟨lg,rfl⟩:=a1.trans (H6 J);refine⟨.tuple #[val,.bool (rows.any (U3 (f.map (E0 Ora.env))))],ρ,w,n,?_,St.wLg h lg⟩
         have:=LR.cons F (LR.cons E LR.nil);exact .tuple this.1 this.2
        .cases a
     .cases a
    .cases a
   .cases a
  .cases o
 .cases o
def YO{i:Nat}{c:List U}(h:wO y rows es.toList)(b:c.map G4=y.ks++y.vs)(h1:e'.key=Y3 y.ka (c.take y.ks.length))(f:e'.val=Y3 y.va (c.drop y.ks.length))(a:es'.toList=es.toList.set i e'):wO y (rows.set i c) es'.toList:=by
 rw[a];refine⟨by rw[Q0,Q0];exact h.1,fun j row e hr he=>?_⟩;rw[List.getElem?_set]at hr he;by_cases q:i=j
 .subst q;rw[A9 rfl]at hr he;split at hr
  .cases hr;split at he
   .cases he;exact⟨b,h1,f⟩
   .cases he
  .cases hr
 .rw[A7 q]at hr he;exact h.2 j row e hr he
def A0a{k:Value}(h:FL es.toList clock):FL (es.push ⟨k,v,clock⟩).toList (clock+1):=by
 obtain⟨h1,a⟩:=h;rw[Array.toList_push];refine⟨?_,fun e he=>?_⟩
 .rw[M8,bM];refine⟨h1,by simp,fun x hx y f b=>?_⟩;simp only[C3,F8,M7]at f;obtain⟨e,he,rfl⟩:=I6.1 hx
  have:=a e he;omega
 .rcases B8.1 he with he|he
  .have:=a e he;omega
  .rw[M7.1 he];show clock<clock+1;omega
def PJ{f:MapEntry->Value×Value}(h:FL es.toList clock):FL (es.modify pi fun e=>{ e with key:=(f e).1,val:=(f e).2 }).toList clock:=by
 obtain⟨h1,i⟩:=h;have b:(es.modify pi fun e=>{ e with key:=(f e).1,val:=(f e).2 }).toList.map (·.born)=es.toList.map (·.born):=by
  apply bN;intro j;rw[F9,F9,Q2,H3,Q2];by_cases g:pi=j
  .rw[A9 g];cases es[j]?<;>rfl
  .rw[A7 g]
 refine⟨by rw[b];exact h1,fun e he=>?_⟩;have:e.born ∈ es.toList.map (·.born):=by rw[<- b];exact List.mem_map_of_mem he
 obtain⟨x,hx,a⟩:=I6.1 this;rw[<- a];exact i x hx
def VW{c:List U}(h:wO y rows es.toList)(f:c.map G4=y.ks++y.vs)(h1:e'.key=Y3 y.ka (c.take y.ks.length))(g:e'.val=Y3 y.va (c.drop y.ks.length)):wO y (rows++[c]) (es.push e').toList:=by
 rw[Array.toList_push];refine⟨by rw[B4,B4,h.1];rfl,fun j row e hr he=>?_⟩;rw[List.getElem?_append]at hr he;rw[h.1]at hr;split at he
 .rename_i a;rw[A9 a]at hr;exact h.2 j row e hr he
 .rename_i a;rw[A7 a]at hr;cases b:j-es.toList.length with
  | zero =>
    rw[b]at hr he;cases hr;cases he;exact⟨f,h1,g⟩
  | succ n=>rw[b]at hr;cases hr
def OG{u v:U}(h1:G4 u<10)(h:isU u v=true):u=v:=by
 unfold isU at h;cases u with
 | int k a =>
   cases v with
   | int j b =>
     simp only[eqU]at h;by_cases e:k=j
     .subst e;rw[A9 rfl]at h;have h:(a == b)=true:=h;rw[eq_of_beq h]
     .rw[A7 e]at h;cases h
   | _=>simp[eqU]at h
 | bool a =>
   cases v with
   | bool b =>
     have h:(a == b)=true:=h;rw[eq_of_beq h]
   | _=>simp[eqU]at h
 | str a =>
   cases v with
   | str b =>
     have h:(a == b)=true:=h;rw[eq_of_beq h]
   | _=>simp[eqU]at h
 | seq _ _ _=>simp only[G4]at h1;omega
 | none=>simp only[G4]at h1;omega
def yG:∀ {us vs:List U},us.map G4=vs.map G4->(∀ t ∈ us.map G4,t<10)->U3 us vs=true->us=vs
 | [],[],_,_,_=>rfl
 | [],_::_,h,_,_=>by cases h
 | _::_,[],h,_,_=>by cases h
 | u::us,v::vs,h,ht,hk=>by
   obtain⟨a,b⟩:=B7 (show(isU u v && U3 us vs)=true from hk);simp only[C3,J8]at h;rw[OG (ht _ B5) a,yG h.2 (fun t q=>ht t (C5 _ q)) b]
def EZ{u:U}(h:G4 u<10)(n:Nat):Instr.sameBits n (T5 u) (T5 u)=true:=by
 cases u with
 | int k a=>cases n<;>simp[T5,toV,Instr.sameBits]
 | bool b=>cases n<;>simp[T5,toV,Instr.sameBits]
 | str s=>cases n<;>(simp only[T5,toV,cF,Instr.sameBits];show(Array.mk s == Array.mk s)=true;simp)
 | seq _ _ _=>simp only[G4]at h;omega
 | none=>simp only[G4]at h;omega
def WX{a:Bool}(h:∀ t ∈ us.map G4,t<10)(b:a=false->us≠[])(n:Nat):Instr.sameBits (n+1) (Y3 a us) (Y3 a us)=true:=by
 cases a with
 | true =>
   simp only[Y3,Instr.sameBits,G9,beq_self_eq_true,true_and,D7];intro p hp;obtain⟨i,hi,he⟩:=List.mem_iff_getElem.1 hp;simp only[List.getElem_zip,List.getElem_map]at he;subst he;exact EZ (h _ (I6.2 ⟨_,O4 _,rfl⟩)) n
 | false =>
   cases us with
   | nil=>exact absurd rfl (b rfl)
   | cons u us=>exact EZ (h _ B5) _
def KG{T:TypeId}{x k e e':Value}(h:HR P base ρ m.H w)(hb:base<=w.heap.size)(F:DK P m T x k e=some (v,m'))(hf:K7 ρ m.n m'.hi)(hx:VR ρ x x')(hk:VR ρ k k')(he:VR ρ e e')(hS:Sat m'.lg):v=undef/\UOk P base ρ m w (Instr.mapUpdate T x' k' e') m':=by
 unfold DK at F;split at F
 .rename_i r y hy;obtain⟨hu,Z,ae,af,K,ak,aa⟩:=GN hy;obtain⟨l,hl,rfl⟩:=GZ hx;split at F
  .rename_i c t W o u hg aq ai;obtain⟨hT,z⟩:=A3 F;clear F;have hT:=A0 hT;subst hT;rw[O5]at z;unfold PK at z;split at z
   .rename_i m2 Y5;cases z;have aj:=dX Y5;obtain⟨e1,e2,ad,wd,an,e3⟩:=kL (lg:=m'.lg) hS (by rw[aj];exact .refl _);obtain⟨⟨⟨Y,ah⟩,y2,es,clock,rows,g1,g2,g3,g4,g5,g6⟩,_⟩:=h.atl hl hg;rw[hy]at g1;have g1:=A8 g1;subst g1;obtain⟨I,C⟩:=jO aq K hk;obtain⟨v1,v2⟩:=jO ai ak he;have B:o.length=y.ks.length:=by rw[<- C];simp
    have ag:u.length=y.vs.length:=by rw[<- v2];simp
    have ao:((o++u).map (E0 Ora.env)).length=y.w:=by rw[E9,B4,B,ag];rfl
    have Q:((o++u).map (E0 Ora.env)).map G4=y.ks++y.vs:=by rw[M8,M8,C,v2]
    have A:((o++u).map (E0 Ora.env)).take y.ks.length=o.map (E0 Ora.env):=by rw[M8,List.take_left' (by rw[E9];exact B)]
    have D:((o++u).map (E0 Ora.env)).drop y.ks.length=u.map (E0 Ora.env):=by rw[M8,List.drop_left' (by rw[E9];exact B)]
    have i:Ora.env m.lg.nx=.seq false y.w (KJ y.ks.length ((o++u).map (E0 Ora.env)) rows):=by
     rw[e1];show evU (.mput y.w y.ks.length) (Ora.env c::(o++u).map (E0 Ora.env))=_;rw[g4];show(if y.w=y.w/\((o++u).map (E0 Ora.env)).length=y.w then _ else U.none)=_;rw[A9 ⟨rfl,ao⟩]
    rw[KI _ 0,A]at i;have au:(getObj l.blk).run P w=.ok (.map es clock) w:=by simp[getObj,Sem.run,g3]
    have az:=AH (P:=P) (w:=w) Z C g5;have R:=EU (P:=P) Z C false w;have ax:=St.wLg h (fP m t (.mput y.w y.ks.length) (hole c t::(o++u)));have al:Hp.get (m.wLg (fP m t (.mput y.w y.ks.length) (hole c t::(o++u)))).H r=some (.mp c t W):=by rw[lC];exact hg
    have s:l.blk<w.heap.size:=(D0.1 g3).1;refine⟨rfl,?_⟩;have aw:∀ (g:Array MapEntry) (a:Nat),(setObj l.blk (.map g a)).run P w=.ok () { w with heap:=w.heap.set l.blk (.map g a) s }:=fun g a=>by
     have X:w.heap[l.blk]=.map es clock:=by
      have q:=g3;rw[F5 s]at q;exact A8 q
     simp[setObj,Sem.run,X,Array.setIfInBounds,s]
    have fin:∀ (g:Array MapEntry) (a:Nat) (b:List (List U)),Ora.env m.lg.nx=.seq false y.w b->wO y b g.toList->FL g.toList a->(Instr.mapUpdate W (.map (some l.blk)) k' e').run P w=.ok () { w with heap:=w.heap.set l.blk (.map g a) s }->UOk P base ρ m w (Instr.mapUpdate W (.map (some l.blk)) k' e') m':=fun g a b L q2 q4 q3=>by
     refine⟨ρ,_,q3,St.trans hf ax (St.write (ab:=.mp c t W) (ab':=.mp m.lg.nx t W) ax.hr Y5 al rfl hl Y ⟨rfl,rfl,rfl⟩ (by simp) (fun j V=>?_) ?_)⟩
     .show(w.heap.set l.blk _ s)[j]? = _;rw[s9,A7 (fun e=>V e.symm)]
     .refine⟨⟨Y,ah⟩,y,g,a,b,hy,g2,?_,L,q2,q4⟩;show(w.heap.set l.blk _ s)[l.blk]? = _;rw[s9,A9 rfl]
    cases hq:oI (o.map (E0 Ora.env)) rows 0 with
    | none =>
      rw[hq]at i;refine fin (es.push ⟨k',e',clock⟩) (clock+1) _ i (VW g5 Q (by rw[A];exact I) (by rw[D];exact v1)) (A0a g6) ?_;rw[I];simp only[Instr.mapUpdate,A4,D2 hu,Result.andThen_ok,au,R,az,CI,hq,Option.map_none,aw]
    | some p =>
      obtain⟨pi,M⟩:=p;rw[hq]at i;have i:Ora.env m.lg.nx=.seq false y.w (rows.set pi ((o++u).map (E0 Ora.env))):=i;obtain⟨_,L,q2⟩:=sI hq;have L:rows[pi]? = some M:=by simpa using L
      have E:pi<es.toList.length:=by rw[<- g5.1];exact(B1.1 L).1
      obtain⟨t1,t2,t3⟩:=g5.2 pi M es.toList[pi] L (A5 E);obtain⟨ar,_⟩:=CQ t1;have J:o.map (E0 Ora.env)=M.take y.ks.length:=by
       refine yG (by rw[C,ar]) (by rw[C];exact K) ?_
       have:=tU (o.map (E0 Ora.env)) M;rw[E9,B]at this;rw[this];exact q2
      have av:pi<es.size:=by simpa using E
      refine fin (es.modify pi fun e2=>{ e2 with key:=k',val:=e' }) clock _ i (YO (e':=⟨k',e',(es[pi]).born⟩) g5 Q (by rw[A];exact I) (by rw[D];exact v1) ?_) (PJ (f:=fun _=>(k',e')) g6) ?_
      .apply bN;intro j;rw[Q2,H3,List.getElem?_set];by_cases V:pi=j
       .subst V;rw[A9 rfl,A9 rfl,A9 E,F5 av];rfl
       .rw[A7 V,A7 V];simp
      .have O:((es[pi]?).map (·.key)).getD k'=k':=by
        rw[F5 av];show es[pi].key=k';have t2:es[pi].key=Y3 y.ka (M.take y.ks.length):=t2;rw[t2,<- J,I]
       have G:Instr.sameBits 10000 k' k'=true:=by
        rw[I];exact WX (by rw[C];exact K) (fun _ q=>by have:=E1 List.length C;rw[q]at this;simp at this;omega) 9999
       have S:(Instr.keyThatStays k' k').run P w=.ok k' w:=by
        simp only[Instr.keyThatStays,G,if_true,Sem.run_pure]
       have ay:(Instr.findKey y.kt k' es.toList).run P w=.ok (some (pi,Y3 y.va (M.drop y.ks.length))) w:=by
        rw[I,az];simp[CI,hq]
       have N:(Instr.checkKey false 10000 y.kt k').run P w=.ok () w:=by rw[I];exact R
       simp only[Instr.mapUpdate,A4,D2 hu,Result.andThen_ok,au,N,ay,O,S,aw]
   .cases z
  .cases F
 .cases F
def A1L{T:TypeId}{x:Value}(h:HR P base ρ m.H w)(a:LH P m T x=some (v,m'))(hx:VR ρ x x')(j:Sat m'.lg):VOk P base ρ m w (Builtin.len_ ⟨T::tys⟩ ty #[x']) v m':=by
 unfold LH at a;split at a
 .rename_i kt q r hu;obtain⟨l,g,rfl⟩:=GZ hx;split at a
  .rename_i c t p f;obtain⟨⟨⟨i,o⟩,s,es,clock,rows,g1,g2,g3,g4,g5,g6⟩,_⟩:=h.atl g f;obtain⟨n,⟨lg,rfl⟩,_,_⟩:=lZ (ρ:=ρ) a g4 j;have b:(getObj l.blk).run P w=.ok (.map es clock) w:=by simp[getObj,Sem.run,g3]
   refine⟨_,ρ,w,?_,n,St.wLg h lg⟩
   have:=g5.1;have e:es.size=rows.length:=by rw[this];simp
   simp[Builtin.len_,A4,D2 hu,Result.andThen,goInt,b,e]
  .cases a
 .cases a
def A39{T:TypeId}(a:A1D P m T=some (v,m')):m.lg.le m'.lg:=by
 unfold A1D at a;split at a
 .rw[O5]at a;rw[aR a];exact W3
 .cases a
def uC{wd kw c t:Nat}{b:D3}:∀ {ts:H5} {a:D3} {j:Nat} {m m':Mem} {hs:D3},uD wd kw c t b ts a j m=some (hs,m')->m.lg.le m'.lg
 | [],[],j,m,m',hs,h=>by cases h;exact .refl _
 | [],_::_,j,m,m',hs,h=>by cases h
 | _::_,[],j,m,m',hs,h=>by cases h
 | tg::ts,z::a,j,m,m',hs,h=>by
   unfold uD at h;split at h
   .rename_i hv;split at h
    .rename_i hr;cases h;exact(H9 hv).trans (uC hr)
    .cases h
   .cases h
def WF{T:TypeId}{x k:Value}{ok:Bool}(a:zK P m T x k ok=some (v,m')):m.lg.le m'.lg:=by
 unfold zK at a;split at a
 .split at a
  .obtain⟨_,a⟩:=A3 a;split at a
   .split at a
    .rename_i b;split at a
     .cases ok with
      | false=>cases a;exact uC b
      | true =>
        simp only[E6]at a;split at a
        .rename_i e;cases a;exact(uC b).trans (H9 e)
        .cases a
     .cases a
    .cases a
   .cases a
  .cases a
 .cases a
def KH{T:TypeId}{x k e:Value}(a:DK P m T x k e=some (v,m')):m.lg.le m'.lg:=by
 unfold DK at a;split at a
 .split at a
  .obtain⟨_,a⟩:=A3 a;rw[O5]at a;unfold PK at a;split at a
   .rename_i Y5;cases a;rw[dX Y5];exact W3
   .cases a
  .cases a
 .cases a
def A1M{T:TypeId}{x:Value}(a:LH P m T x=some (v,m')):m.lg.le m'.lg:=by
 unfold LH at a;split at a
 .split at a
  .exact(cB a).2
  .cases a
 .cases a
end
end
section
open Go
variable [Ora]
section
variable {P:Program} {base:Nat} {ρ:Ren} {m m':Mem} {w:World}
omit [Ora] in
def NC{G:Nat->Option Obj}:∀ {us:List U} {s:List UInt8} {vs:D3},uL us=some s->Z5 G us vs->∃ e:List Int,vs=e.map (Value.int .u8)/\s=e.map fun n=>UInt8.ofNat n.toNat
 | [],s,vs,h,he=>by
   cases h;have:vs=[]:=G2.1 he.1.symm;subst this;exact⟨[],rfl,rfl⟩
 | u::us,s,vs,h,he=>by
   unfold uL at h;split at h
   .rename_i heq;cases heq
   .rename_i n r heq;cases heq;split at h
    .split at h
     .rename_i l f;cases h;cases vs with
      | nil=>have:=he.1;simp at this
      | cons v vr =>
        obtain⟨e,g,o⟩:=NC (vs:=vr) f ⟨by have:=he.1;simpa using this,fun i a b h1 j=>he.2 (i+1) a b (by simpa using h1) (by simpa using j)⟩
        have:=gF (he.2 0 _ v rfl rfl) rfl;subst this;exact⟨(Int.ofNat n)::e,by rw[g];rfl,by rw[o];rfl⟩
     .cases h
    .cases h
   .cases h
def JP{t:TypeId}{n:Nat}(h:H4 P t=some n):∃ inf,P.info? t=some inf/\inf.size=n:=by
 unfold H4 at h;cases hi:P.info? t with
 | none=>rw[hi]at h;cases h
 | some inf=>rw[hi]at h;exact⟨inf,rfl,A8 h⟩
def JT(d:Nat)(t:TypeId):sameLayout P (d+1) t t=true:=by simp[sameLayout]
def A2W:∃ d,P.depth=d+1:=⟨2*(P.types.size+Made.depth)+1,rfl⟩
def PO{T:TypeId}{n off:Nat}(hs:P.cellsOf T≠0)(hr:off%P.cellsOf T=0)(b:off / P.cellsOf T+1<=n):liesAt P P.depth T n off T 1=true:=by
 obtain⟨d,a⟩:=A2W (P:=P);have h1:rowAt P (sameLayout P P.depth · T) P.depth T n off 1=true:=by
  rw[a];unfold rowAt;simp only[hs,if_false,hr,JT];simp[b]
 rw[a]at h1 ⊢;unfold liesAt;rw[a,h1];rfl
def A2c{s t:TypeId}{x:Value}(h:HR P base ρ m.H w)(g:UL P m s t x=some (v,m'))(hx:VR ρ x x'):VOk P base ρ m w (convert s t x') v m':=by
 unfold UL at g;split at g
 .rename_i e b o hs G;obtain⟨l,E,_,rfl⟩:=P5 hx;split at g
  .rename_i k cs T ro q D;obtain⟨B,g⟩:=A3 g;have B:o<cs.length:=A1 B;cases g;obtain⟨inf,a,L⟩:=JP q;obtain⟨⟨p,C,fz,i,h1,N,_⟩,_⟩:=h.atl E D;obtain⟨v',h3,_⟩:=N o cs[o] (A5 B);have I:l.sh+o<C.size:=(D0.1 h3).1;exact VOk.same h (Lib.run_to_unsafe w ⟨l.blk,o+l.sh,none⟩ hs G a A2 (show w.shape? l.blk=some (i,C.size) by simp[World.shape?,h1]) (by show o+l.sh<C.size;omega)) hx
  .cases g
 .rename_i u b hs G;obtain⟨l,E,_,rfl⟩:=P5 hx;split at g
  .rename_i k cs T q D;obtain⟨J,f⟩:=A3 g;clear g;obtain⟨A,M⟩:=B7 J;have A:=A0 A;have M:=A0 M;clear J;subst A;cases f;obtain⟨inf,a,L⟩:=JP q;obtain⟨⟨p,C,fz,i,h1,N,h3⟩,_⟩:=h.atl E D;obtain⟨rfl,_,R⟩:=h3 rfl;obtain⟨_,K⟩:=R inf a;have F:P.cellsOf i=k+1:=by unfold Program.cellsOf;rw[a];exact L
   have z:k<cs.length:=A2;obtain⟨v',Q,_⟩:=N k cs[k] (A5 z);have I:l.sh+k<C.size:=(D0.1 Q).1;refine VOk.same h (Lib.run_from_unsafe w ⟨l.blk,0+l.sh,none⟩ hs G a (show w.shape? l.blk=some (i,C.size) by simp[World.shape?,h1]) ?_) hx;show liesAt P P.depth i (C.size / P.cellsOf i) (0+l.sh) i 1=true;rw[F7];refine PO A2 (by rw[F];rw[L]at K;exact K) ?_;rw[F];have K:l.sh%(k+1)=0:=by rw[L]at K;exact K
   have V:l.sh=(k+1)*(l.sh / (k+1)):=by have:=Nat.div_add_mod l.sh (k+1);omega
   refine(Nat.le_div_iff_mul_le A2).2 ?_;rw[H7,gM,bK];omega
  .cases g
 .rename_i W e b o n c hs G;obtain⟨J,f⟩:=A3 g;clear g;obtain⟨A,M⟩:=B7 J;have A:=A0 A;clear J;subst A;split at f
  .rename_i cs T hu D;split at f
   .rename_i m1 Y5;cases f;obtain⟨l,mm,E,rfl⟩:∃ l mm,ρ b=some l/\x'=.slice (some ⟨l.blk,o+l.sh,none⟩) n mm:=by
     cases hx with
     | pure hp=>simp[I8]at hp
     | sl h1 _=>exact⟨_,_,h1,rfl⟩
     | op h1 _ _ _=>exact⟨_,_,h1,rfl⟩
     | opE _=>simp at M
    obtain⟨⟨p,C,fz,i,z2,z3,z4⟩,_⟩:=h.atl E D;have O:w.shape? l.blk=some (i,C.size):=by simp[World.shape?,z2]
    refine⟨_,ρ,w.freeze ⟨l.blk,C.size,none⟩ 1,?_,hx,St.write h Y5 D rfl E p ?_ ?_ ?_ ?_⟩
    .simp[convert,run_underlying G,run_underlying hu,markStringish,O]
    .simp[World.freeze]
    .simp[World.freeze]
    .intro j S;simp only[World.freeze,Nat.one_ne_zero,if_false,H3];rw[A7 (fun e=>S e.symm)]
    .refine⟨p,C,(if fz.1 == fz.2 then(C.size,C.size+1)else(min fz.1 C.size,max fz.2 (C.size+1))),i,?_,z3,fun F=>⟨(z4 F).1,(z4 F).2.1.mark,(z4 F).2.2⟩⟩;simp only[World.freeze,Nat.one_ne_zero,if_false,H3,if_true,z2,L6]
   .cases f
  .cases f
 .cases g
def A0h{op:BinOp}{t:TypeId}{x y:Operand}{a a' b b':Value}(h:HR P base ρ m.H w)(n:SF P m op t a b=some (v,m'))(B:VR ρ a a')(A:VR ρ b b'):VOk P base ρ m w (do eqGuard op t x y a' b';binOp op t a' b') v m':=by
 unfold SF at n;split at n
 .rename_i e C p E D hu;obtain⟨u,f⟩:=A3 n;clear n;obtain⟨q,s⟩:=B7 u;have q:=A0 q;have s:=A0 s;clear u;subst q;subst s;obtain⟨l,z,_,rfl⟩:=P5 B;obtain⟨l2,g,_,rfl⟩:=P5 A;rw[z]at g
  have:=A8 g;subst this;have heq:∀ j,P.info? e=some j->∀ d:Nat,(Op.equalIn (d+1) t (.pointer (some ⟨l.blk,p+l.sh,none⟩)) (.pointer (some ⟨l.blk,p+l.sh,none⟩))).run P w=.ok true w:=fun j o d=>by
   simp[Op.equalIn,run_underlying hu,sizeOf,typeInfo,o,run_sameAddr_same]
  have i:(eqGuard op t x y (.pointer (some ⟨l.blk,p+l.sh,none⟩)) (.pointer (some ⟨l.blk,p+l.sh,none⟩))).run P w=.ok () w:=by
   unfold eqGuard;split<;>simp
  split at f
  .rename_i j o;cases f;refine VOk.same h (v':=.bool true) ?_ (.pure rfl);rw[A4,i];simp[Result.andThen,binOp,Op.equal,Op.maxDepth,heq j o 9999]
  .rename_i j o;cases f;refine VOk.same h (v':=.bool false) ?_ (.pure rfl);rw[A4,i];simp[Result.andThen,binOp,Op.equal,Op.maxDepth,heq j o 9999]
  .cases f
 .cases n
def St.laid{o:Obj}(h:HR P base ρ m.H w):St P base ρ ρ m m w { w with heap:=w.heap.push o } :=
 have g:∀ k,k<w.heap.size->(w.heap.push o)[k]? = w.heap[k]? := fun k g=>by rw[l5,A7 A2]
 ⟨fun _ _ h=>h,fun b l h1 a=>(by rw[h1]at a;cases a),A6 _,A6 _,fun h=>h,
  ⟨h.dom,fun id hid ab f=>by
    obtain⟨l,h1,a,h3⟩:=h.at_ id hid ab f;exact⟨l,h1,a.mono (fun _ _ h=>h) (fun k e=>g k (a.tc e)),h3⟩⟩,
  fun _ h=>h,fun b h1 a=>absurd h1 a,fun k e _=>g k e,by simp,⟨rfl,rfl,rfl⟩,fun b l h1 a=>(by rw[h1]at a;cases a),fun _ _ _ _=>rfl,fun _ h=>.inr h⟩
def A8N{tys:Array TypeId}{x:Value}(h:HR P base ρ m.H w)(a:sdM P m ty x=some (v,m'))(hx:VR ρ x x'):VOk P base ρ m w (Builtin.unsafeSliceData_ tys ty #[x']) v m':=by
 unfold sdM at a;split at a
 .rename_i e he;split at a
  .rename_i b i t;split at a
   .rename_i c tc T g ro s;cases a;have hx:VR ρ (own b i t) x':=hx;rcases(fZ hx).1 with⟨l,wd,h1,j,h3,rfl⟩|⟨l,wd,rows,h1,j,h3,D,E,rfl⟩
    .exact VOk.same h rfl (.sdt ⟨l,h1,.inl ⟨j,rfl⟩⟩)
    .have f:Builtin.unsafeSliceData_ tys ty #[.slice (some ⟨l.blk,l.sh,none⟩) l.len l.cap]=(do
       if l.cap≠0 then pure (.pointer (some ⟨l.blk,l.sh,none⟩))
       else if(<- viewAt l.blk).isSome then pure (.pointer (some ⟨l.blk,l.sh,none⟩))
       else pure (.pointer (some ⟨<- newObj (.view ⟨l.blk,l.sh,none⟩ (<- elemOf ty)),0,none⟩))):=rfl
     rw[f];by_cases o:l.cap=0
     .rw[A7 (by simpa using o)];obtain⟨u,inf,_,_,_,B⟩:=SqR.ex (h.atl h1 s).1;rcases B with⟨n,_⟩|⟨_,n⟩
      .rw[j]at n;cases n
      .obtain⟨C,fz,z,p,lg,A,_⟩:=n;have q:w.shape? l.blk=some (z,C.size):=by simp[World.shape?,A]
       refine⟨.pointer (some ⟨w.heap.size,0,none⟩),ρ,{ w with heap:=w.heap.push (.view ⟨l.blk,l.sh,none⟩ e) },?_,.sdt ⟨l,h1,.inr ⟨j,_,rfl,fun h=>absurd o h⟩⟩,St.laid h⟩;simp[viewAt,q,elemOf,D2 he,newObj,Sem.run,A4,Result.andThen]
     .rw[A9 o];exact VOk.same h rfl (.sdt ⟨l,h1,.inr ⟨j,_,rfl,fun _=>rfl⟩⟩)
   .cases a
  .cases a
 .cases a
def A79{p l p' l':Value}(h:HR P base ρ m.H w)(K:usM P m pt p l=some (v,m'))(hp:VR ρ p p')(hl:VR ρ l l')(hS:Sat m'.lg)(hf:K7 ρ m.n m'.hi) :
  VOk P base ρ m w (Builtin.unsafeString_ ⟨pt::tys⟩ ty #[p',l']) v m':=by
 have D:IntKind.i64.max=9223372036854775807:=rfl;unfold usM at K;split at K
 .rename_i b;obtain⟨S,K⟩:=A3 K;have S:G8 l<8:=A1 S;obtain⟨k,n0,rfl,ad,_⟩:=N4 hl S;split at K
  .rename_i c tc T g e hg ah;obtain⟨hq,A⟩:=A3 K;clear K;obtain⟨q1,q2⟩:=B7 hq;have q1:=A0 q1;have q2:=A0 q2;clear hq;subst q1;subst q2;split at A
   .rename_i u m1 bx Q;split at A
    .rename_i m2 Y5;cases A;have af:=dX Y5;have al:Sat m1.lg:=by rw[<- af];exact hS
     obtain⟨u0,e1,e2,r,e3,e4,e5⟩:=N2 Q al;obtain⟨lg,rfl⟩:=H6 Q;obtain⟨l0,J,hv⟩:=A4O (show VR ρ (sdt b) p' from hp);have E:=St.wLg h lg;obtain⟨wd,inf,k1,k2,k3,M⟩:=SqR.ex (h.atl J hg).1;have ak:wd=1:=A2;subst ak;have f:evU .ustr [Ora.env c,.int k n0]=u0:=by
      have:E0 Ora.env (hole c 11)=Ora.env c:=rfl;rw[<- this,<- ad];exact e1
     have I:∀ au rows,Ora.env c=.seq au 1 rows->∃ (n:Nat) (N:List UInt8),n0=(n:Int)/\n<=rows.length/\n<=1000000000/\uM (rows.take n)=some N/\u0=.str N:=fun au rows hc=>by
      rw[hc]at f;cases n0 with
      | negSucc z=>have:u0=.none:=f.symm;subst this;cases e3
      | ofNat n =>
        have f:(if 1=1/\n<=rows.length/\n<=tB then match uM (rows.take n)with
         | some s=>U.str s
         | none=>.none else .none)=u0:=f
        split at f
        .rename_i an;split at f
         .rename_i N I;exact⟨n,N,rfl,an.2.1,an.2.2,I,f.symm⟩
         .subst f;cases e3
        .subst f;cases e3
     have B:P.cellsOf e=1:=by unfold Program.cellsOf;rw[k2];exact k3
     have Z:∀ {ρ:Ren} {w:World} {lx:Loc},BR P ρ (.sq c 11 e g false) lx w->BR P ρ (.sq c 11 e g true) lx w:=fun hb=>by
      obtain⟨wd,inf,k1,k2,k3,M⟩:=SqR.ex hb;refine⟨⟨wd,inf,k1,k2,k3,M.imp (fun x=>x) fun⟨a,C,fz,T',rows,lg,b1,b2,b3,b4,b5,b6,b7,b8,_⟩=>⟨a,C,fz,T',rows,lg,b1,b2,b3,b4,b5,b6,b7,b8,fun hh=>by cases hh⟩⟩⟩
     have X:Hp.get (m.wLg lg).H b=some (.sq c 11 e g false):=by rw[lC];exact hg
     have O:St P base ρ ρ m m' w w:=St.trans hf E (St.same0 E.hr Y5 X rfl J (Z (E.hr.atl J X).1) fun q hq=>hq.imp (fun⟨_,b⟩=>⟨rfl,b⟩) fun⟨hh,_⟩=>by cases hh);rcases hv with⟨aw,rfl⟩|⟨W,a,rfl,ha⟩
     .rcases M with⟨_,L⟩|⟨L,_⟩
      .obtain⟨n,N,rfl,j1,_,j2,rfl⟩:=I _ _ L;have hn:n=0:=by simpa using j1
       subst hn;cases j2;cases e3;refine⟨.string ByteArray.empty,ρ,w,?_,e4 ρ,O⟩;have o:Builtin.unsafeString_ ⟨pt::tys⟩ ty #[.pointer none,.int k ((0:Nat):Int)] =
         (do
           let n <- asInt (.int k ((0:Nat):Int))
           if n<0 then runtimePanic (.error "unsafe.String: len out of range")
           if n>IntKind.i64.max then unsupported (.unsafePointer "String: a length above the largest int")
           if n=0 then pure (.string .empty)
           else runtimePanic (.error "unsafe.String: ptr is nil and len is not zero")):=rfl
       rw[o];simp[asInt,asIntOf,D]
      .rw[aw]at L;cases L
     .rcases M with⟨L,_⟩|⟨_,L⟩
      .rw[W]at L;cases L
      obtain⟨C,fz,T',rows,az,z1,z2,z3,z4,z5,z6,z7,z8,z9⟩:=L;obtain⟨rfl,bw⟩:=z9 rfl;obtain⟨n,N,rfl,j1,j0,j2,rfl⟩:=I _ _ z2;cases e3;have o:Builtin.unsafeString_ ⟨pt::tys⟩ ty #[.pointer (some a),.int k (n:Int)] =
       (do
         let n <- asInt (.int k (n:Int))
         if n<0 then runtimePanic (.error "unsafe.String: len out of range")
         if n>IntKind.i64.max then unsupported (.unsafePointer "String: a length above the largest int")
         if n=0 then pure (.string .empty)
         else if <- variablesAt a (<- elemOf pt) n.toNat then do
          let s <- loadBytes a .empty n.toNat
          freeze a n.toNat
          pure (.string s)
         else unsupported (.unsafePointer "String: not so many bytes at ptr")):=rfl
      have ao:¬ (n:Int)<0:=A2;have ar:¬ (9223372036854775807:Int)<(n:Int):=A2;by_cases t:n=0
      .subst t;cases j2;refine⟨.string ByteArray.empty,ρ,w,?_,e4 ρ,O⟩;rw[o];simp[asInt,asIntOf,D]
      .have hz:¬ (n:Int)=0:=A2;have av:l0.cap≠0:=A2;have ha:=ha av;subst ha;obtain⟨y1,y2,y3⟩:=IB j2;have hlen:(rows.take n).length=n:=by simp;omega
       have aj:l0.sh+n<=C.size:=A2;obtain⟨ns,r1,r2⟩:∃ ns:List Int,(C.toList.drop l0.sh).take n=ns.map (Value.int .u8)/\N=ns.map fun n=>UInt8.ofNat n.toNat:=by
        refine NC (G:=az.G) y1 ⟨by rw[y2,hlen];simp;omega,fun i u v b1 b2=>?_⟩;have ay:i<n:=by have:=(B1.1 b1).1;rw[y2,hlen]at this;exact this
        have ax:i<rows.length:=A2;have R:rows[i]? = some rows[i]:=A5 ax;have Y:(rows.take n)[i]? = some rows[i]:=by rw[E8 ay];exact R
        have bz:rows[i].length=1:=z6 _ (O4 ax);have h0:rows[i][0]? = some (rows[i][0]' A2):=A5 A2;obtain⟨_,M⟩:=y3 i _ 0 _ Y h0;rw[b1]at M;have M:=A8 M;rw[M];have hc:C[l0.sh+i*1+0]? = some v:=by
         rw[E8 ay,I0]at b2
         simpa using b2
        exact z8 i _ 0 _ v R h0 hc
       have ae:ns.length=n:=by
        have:=E1 List.length r1;simp at this;omega
       have F:∀ (j:Nat) (v:Value),(ns.map (Value.int .u8))[j]? = some v->w.cell? ⟨l0.blk,l0.sh+j,none⟩=some v:=fun j v hj=>by
        rw[<- r1]at hj;have ag:j<n:=by have:=(B1.1 hj).1;simp at this;omega
        rw[E8 ag,I0]at hj;simp only[World.cell?,z1]
        simpa using hj
       have aq:=eR (P:=P) (w:=w) ns l0.blk l0.sh .empty F;rw[ae]at aq;have aa:w.shape? l0.blk=some (T',C.size):=by simp[World.shape?,z1]
       have V:=zM (P:=P) B (C.size / P.cellsOf T') l0.sh n (by rw[B];simpa using aj);have ai:St P base ρ ρ (m.wLg lg) m' w (w.freeze ⟨l0.blk,l0.sh,none⟩ n):=by
        refine St.write E.hr Y5 X rfl J W ?_ ?_ ?_ ?_
        .simp[World.freeze,t]
        .simp[World.freeze,t]
        .intro j hj;simp only[World.freeze,t,if_false,H3];rw[A7 (fun e=>hj e.symm)]
        .refine⟨⟨1,inf,rfl,k2,k3,.inr ⟨W,C,(if fz.1 == fz.2 then(l0.sh,l0.sh+n)else(min fz.1 l0.sh,max fz.2 (l0.sh+n))),T',rows,az,?_,z2,z3,z4,z5,z6,z7,z8,fun hc=>by cases hc⟩⟩⟩;simp only[World.freeze,t,if_false,H3,if_true,z1,L6]
       refine⟨.string ⟨⟨N⟩⟩,ρ,w.freeze ⟨l0.blk,l0.sh,none⟩ n,?_,e4 ρ,St.trans hf E ai⟩;rw[o];simp[asInt,asIntOf,D,ao,ar,hz,t,variablesAt,aa,elemOf,D2 ah,V,aq,freeze,Sem.run,A4,Result.andThen,r2]
    .cases A
   .cases A
  .cases K
 .cases K
def VU{t:TypeId}{x:Value}(h:HR P base ρ m.H w)(j:base<=w.heap.size)(e:yU P m t x=some (v,m'))(g:K7 ρ m.n m'.hi)(hx:VR ρ x x'):VOk P base ρ m w (Instr.range t x') v m':=by
 unfold yU at e;split at e
 .rename_i hu;obtain⟨h1,e⟩:=A3 e;obtain⟨s,rfl,_⟩:=o7 hx (A0 h1);have f:∀ a:Ren,(∀ b l,ρ b=some l->a b=some l)->BR P a (.iter [x,.int .i64 (.ofNat 0)]) (lc w.heap.size 0 0) { w with heap:=w.heap.push (.stringIter ⟨⟨s⟩⟩ 0) }:=fun a he =>
   ⟨⟨rfl,rfl⟩,⟨⟨s⟩⟩,0,by simp[lc],.cons (hx.mono he) (.cons (.pure rfl) .nil)⟩
  obtain⟨o,h3,i⟩:=St.alloc (w':={ w with heap:=w.heap.push (.stringIter ⟨⟨s⟩⟩ 0) }) (l:=lc w.heap.size 0 0) h j e g ⟨rfl,rfl,rfl⟩ rfl rfl (f _ (X8 (g m.n (A6 _) (by obtain⟨_,_,rfl⟩:=M2 e;exact(L5 _ _).2))));refine⟨.pointer (some ⟨w.heap.size,0,none⟩),_,_,?_,?_,i⟩
  .simp[Instr.range,A4,D2 hu,Result.andThen,newObj,Sem.run]
  .rw[o];exact .ptr h3
 .cases e
def QI{s p:Value}{b:ByteArray}(h:HY s p=some (b,k)):s=.string b/\p=.int .i64 (.ofNat k):=by
 unfold HY at h;split at h
 .cases h;exact⟨rfl,rfl⟩
 .cases h
def A09{x:Value}(h:HR P base ρ m.H w)(a:KV m x=some (v,m'))(hf:K7 ρ m.n m'.hi)(hx:VR ρ x x')(hS:Sat m'.lg):VOk P base ρ m w (Instr.next x' true ty) v m':=by
 unfold KV at a;split at a
 .rename_i r;obtain⟨l,hl,_,rfl⟩:=P5 hx;split at a
  .rename_i s p hg;obtain⟨⟨⟨L,E⟩,f,n,g1,g2⟩,_⟩:=h.atl hl hg;have G:(getObj l.blk).run P w=.ok (.stringIter f n) w:=by simp[getObj,Sem.run,g1]
   have i:l.blk<w.heap.size:=(D0.1 g1).1;have K:w.heap[l.blk]=.stringIter f n:=by
    have q:=g1;rw[F5 i]at q;exact A8 q
   obtain⟨s',r1,e1,Y,k2⟩:=g2.tail;obtain⟨p',r2,e2,S,k4⟩:=k2.tail;cases k4.nil_inv;cases e2;cases e1;have Z:∀ n2:Nat,(setObj l.blk (.stringIter f n2)).run P w=.ok () { w with heap:=w.heap.set l.blk (.stringIter f n2) i }:=fun n2=>by
    simp[setObj,Sem.run,K,Array.setIfInBounds,i]
   have z:n<f.size->(Instr.next (.pointer (some ⟨l.blk,0+l.sh,none⟩)) true ty).run P w=.ok (.tuple #[.bool true,.int .i64 (.ofNat n),.int .i32 (.ofNat (Utf8.decode f n).1)]) { w with heap:=w.heap.set l.blk (.stringIter f (n+(Utf8.decode f n).2)) i }:=fun o=>by
    rw[E];simp[Instr.next,A4,Result.andThen_ok,G,o,Z,goInt]
   have M:¬n<f.size->(Instr.next (.pointer (some ⟨l.blk,0+l.sh,none⟩)) true ty).run P w=.ok (.tuple #[.bool false]) w:=fun o=>by
    rw[E];simp[Instr.next,A4,Result.andThen_ok,G,o]
   have fin:∀ {m1 m2:Mem} {q:Value},K2 m m1->cQ m1 r (.iter [s,q])=some m2->K7 ρ m.n m2.hi->VR ρ q (.int .i64 (.ofNat (n+(Utf8.decode f n).2)))->St P base ρ ρ m m2 w { w with heap:=w.heap.set l.blk (.stringIter f (n+(Utf8.decode f n).2)) i }:=fun{m1 m2 q} e Y5 V hq=>by
    obtain⟨lg,rfl⟩:=e;have O:=St.wLg h lg;have X:Hp.get (m.wLg lg).H r=some (.iter [s,p]):=by rw[lC];exact hg
    refine St.trans V O (St.write (ab:=.iter [s,p]) (ab':=.iter [s,q]) O.hr Y5 X rfl hl L ⟨rfl,rfl,rfl⟩ (by simp) (fun j hj=>?_) ?_)
    .show(w.heap.set l.blk _ i)[j]? = _;rw[s9,A7 (fun e=>hj e.symm)]
    .refine⟨⟨L,E⟩,f,_,?_,.cons Y (.cons hq .nil)⟩;show(w.heap.set l.blk _ i)[l.blk]? = _;rw[s9,A9 rfl]
   split at a
   .rename_i b k hc;obtain⟨rfl,rfl⟩:=QI hc;have e:=V1 Y;cases e;have e:=J6 S;cases e;by_cases o:n<f.size
    .have t:Nat.blt n f.data.toList.length=true:=C7 o;rw[t]at a;simp only[E6,F0]at a;split at a
     .rename_i m2 Y5;cases a;exact⟨_,ρ,_,z o,.tuple rfl (LR.cons (.pure rfl) (LR.cons (.pure rfl) (LR.cons (.pure rfl) LR.nil))).2,fin ⟨m.lg,by cases m;rfl⟩ Y5 hf (.pure rfl)⟩
     .cases a
    .have t:Nat.blt n f.data.toList.length=false:=by
      cases hq:Nat.blt n f.data.toList.length with
      | false=>rfl
      | true=>exact absurd (A1 hq) o
     rw[t]at a;cases a;exact⟨_,ρ,w,M o,.tuple rfl (LR.cons (.pure rfl) LR.nil).2,St.refl h⟩
   .obtain⟨h1,a⟩:=A3 a;obtain⟨h1,h2⟩:=B7 h1;have h1:=A0 h1;have h2:=A0 h2;obtain⟨s0,es,as⟩:=o7 Y h1;cases es;obtain⟨kk,nn,ep,ap,_⟩:=N4 S A2;cases ep;split at a
    .rename_i hh m1 B;split at a
     .rename_i c H N W hi lg D;have o1:=H6 B;have o2:=H6 D;have key:∀ {b:Bool} {g:Lg},brL lg c=some (b,g)->Sat g->(b=true↔n<s0.length)/\K2 m ⟨H,N,W,hi,g⟩:=fun{b g} t u=>by
       have F:Sat lg:=u.le (fI t);have R:Sat m1.lg:=S4.le F (H9 D);have u1:VR ρ hh (.int .i64 s0.length):=by
        have:=(iG (ρ:=ρ) B R).2.2;rw[C3,F8,as]at this;exact this
       obtain⟨rfl,e1⟩:=jF B;obtain⟨k5,n5,e5,a5,_⟩:=N4 u1 (show 3<8 by decide);cases e5;have u2:VR ρ c (.bool (decide ((n:Int)<s0.length))):=by
        have:=(iG (ρ:=ρ) D F).2.2;rw[C3,C3,F8,ap,a5]at this;have e:evU (.bin .lss) [.int .i64 (Int.ofNat n),.int .i64 (s0.length:Int)]=.bool (decide ((n:Int)<s0.length)):=by
         simp[evU,evB,aY,uV,iI,kX,GP,ofV]
        rw[e]at this;exact this
       have:=mO t u2 u;refine⟨?_,?_⟩
       .have:=Value.bool.inj this;rw[<- this,decide_eq_true_iff];omega
       .exact(o1.trans o2).trans ⟨g,rfl⟩
      split at a
      .rename_i g t;split at a
       .rename_i y m3 C;split at a
        .rename_i q m4 A;split at a
         .rename_i m5 Y5;cases a;have I:Sat m4.lg:=by rw[<- dX Y5];exact hS
          have J:=I.le (H9 A);have u:Sat g:=J.le (H9 C);obtain⟨T,ko⟩:=key t u;have o:=T.1 rfl;have u3:VR ρ y (.int .i32 (.ofNat (Utf8.decode ⟨⟨s0⟩⟩ n).1)):=by
           have:=(iG (ρ:=ρ) C J).2.2;rw[C3,C3,F8,as,ap]at this;exact this
          have u4:VR ρ q (.int .i64 (.ofNat (n+(Utf8.decode ⟨⟨s0⟩⟩ n).2))):=by
           have:=(iG (ρ:=ρ) A I).2.2;rw[C3,C3,F8,as,ap]at this;exact this
          exact⟨_,ρ,_,z o,.tuple rfl (LR.cons (.pure rfl) (LR.cons S (LR.cons u3 LR.nil))).2,fin ((ko.trans (H6 C)).trans (H6 A)) Y5 hf u4⟩
         .cases a
        .cases a
       .cases a
      .rename_i g t;cases a;obtain⟨T,ko⟩:=key t hS;have o:¬n<s0.length:=fun q=>by have:=T.2 q;cases this
       obtain⟨Q,e3⟩:=ko;refine⟨_,ρ,w,M o,.tuple rfl (LR.cons (.pure rfl) LR.nil).2,?_⟩;rw[e3];exact St.wLg h Q
      .cases a
     .cases a
    .cases a
  .cases a
 .cases a
def VV{t:TypeId}{x:Value}(a:yU P m t x=some (v,m')):m.lg.le m'.lg:=by
 unfold yU at a;split at a
 .obtain⟨_,a⟩:=A3 a;rw[aR a];exact .refl _
 .cases a
def A0_{x:Value}(e:KV m x=some (v,m')):m.lg.le m'.lg:=by
 unfold KV at e;split at e
 .split at e
  .split at e
   .rename_i b k o;cases f:Nat.blt k b.data.toList.length with
    | true =>
      rw[f]at e;simp only[E6,F0]at e;split at e
      .rename_i Y5;cases e;rw[dX Y5];exact .refl _
      .cases e
    | false=>rw[f]at e;cases e;exact .refl _
   .obtain⟨_,e⟩:=A3 e;split at e
    .rename_i i;split at e
     .rename_i n;have a:=(H9 i).trans (H9 n);split at e
      .rename_i f;have a:=a.trans (fI f);split at e
       .rename_i g;split at e
        .rename_i j;split at e
         .rename_i Y5;cases e;rw[dX Y5];exact(a.trans (H9 g)).trans (H9 j)
         .cases e
        .cases e
       .cases e
      .rename_i f;cases e;exact a.trans (fI f)
      .cases e
     .cases e
    .cases e
  .cases e
 .cases e
def A71{fr:Fr}{g:Operand->Value}{o:Oper}(h:HR P base ρ m.H w)(C:base<=w.heap.size)(b:xtM P fr m o=some (v,m'))(i:K7 ρ m.n m'.hi)(j:FR ρ fr g o.op)(f:Sat m'.lg):NOk P base ρ m w (execOp g o) v m':=by
 obtain⟨dst,op,ty,pos,G,E⟩:=o;unfold xtM at b;simp only at b j;have a:∀ {x},x ∈ op.operands.toList->VR ρ (ev fr x) (g x):=fun hx=>j _ hx
 split at b
 .rename_i s t x;exact NOk.of (A2c h b (a (x:=x) (by simp[Op.operands])))
 .rename_i op t x y J;exact NOk.of (A0h h b (a (x:=x) (by simp[Op.operands])) (a (x:=y) (by simp[Op.operands])))
 .rename_i xs tys;have l1:=dJ (ρ:=ρ) (fr:=fr) (g:=g) (xs:=xs.toList) fun y u=>j y (by show y ∈ (#[]++xs:Array Operand).toList;simpa using u)
  split at b
  .rename_i x hx;rw[hx]at l1;obtain⟨x',r1,q,g1,g2⟩:=l1.tail;cases g2.nil_inv;have A:xs.map g=#[x']:=by apply J3;simpa using q
   have:=A8N (tys:=tys) h b g1;have B:=NOk.of this;obtain⟨ks,z⟩:∃ ks,execOp g ⟨dst,.call ⟨.builtin .unsafeSliceData,xs,tys⟩,ty,pos,G,E⟩=builtin .unsafeSliceData tys ty ks (xs.map g):=⟨#[],rfl⟩;rw[z,A];exact B
  .cases b
 .rename_i xs tys;have l1:=dJ (ρ:=ρ) (fr:=fr) (g:=g) (xs:=xs.toList) fun y u=>j y (by show y ∈ (#[]++xs:Array Operand).toList;simpa using u)
  split at b
  .rename_i p l t rest hx D;rw[hx]at l1;obtain⟨x',r1,q,g1,g2⟩:=l1.tail;obtain⟨I,K,rfl,g3,g4⟩:=g2.tail;cases g4.nil_inv;have A:xs.map g=#[x',I]:=by apply J3;simpa using q
   have B:=NOk.of (A79 (ty:=ty) (tys:=rest) h b g1 g3 f i);obtain⟨ks,z⟩:∃ ks,execOp g ⟨dst,.call ⟨.builtin .unsafeString,xs,tys⟩,ty,pos,G,E⟩=builtin .unsafeString tys ty ks (xs.map g):=⟨#[],rfl⟩;have F:tys=⟨t::rest⟩:=by rw[<- D]
   rw[z,A,F];exact B
  .cases b
 .rename_i t;exact NOk.of (A38 h C b i f)
 .rename_i t x k ok;exact NOk.of (WE h b (a (x:=x) (by simp[Op.operands])) (a (x:=k) (by simp[Op.operands])) f)
 .rename_i t x;exact NOk.of (VU h C b i (a (x:=x) (by simp[Op.operands])))
 .rename_i x;exact NOk.of (A09 h b i (a (x:=x) (by simp[Op.operands])) f)
 .rename_i t x k e;obtain⟨rfl,hu⟩:=KG h C b i (a (x:=x) (by simp[Op.operands])) (a (x:=k) (by simp[Op.operands])) (a (x:=e) (by simp[Op.operands])) f;exact NOk.ofU hu
 .rename_i t x k e;obtain⟨rfl,hu⟩:=KG h C b i (a (x:=x) (by simp[Op.operands])) (a (x:=k) (by simp[Op.operands])) (a (x:=e) (by simp[Op.operands])) f;exact NOk.ofU hu
 .rename_i xs tys;have l1:=dJ (ρ:=ρ) (fr:=fr) (g:=g) (xs:=xs.toList) fun y u=>j y (by show y ∈ (#[]++xs:Array Operand).toList;simpa using u)
  split at b
  .rename_i x t rest hx D;rw[hx]at l1;obtain⟨x',r1,q,g1,g2⟩:=l1.tail;cases g2.nil_inv;have A:xs.map g=#[x']:=by apply J3;simpa using q
   have B:=NOk.of (A1L (ty:=ty) (tys:=rest) h b g1 f);obtain⟨ks,z⟩:∃ ks,execOp g ⟨dst,.call ⟨.builtin .len,xs,tys⟩,ty,pos,G,E⟩=builtin .len tys ty ks (xs.map g):=⟨#[],rfl⟩;have F:tys=⟨t::rest⟩:=by rw[<- D]
   rw[z,A,F];exact B
  .cases b
 .cases b
def A72{fr:Fr}{o:Oper}(a:xtM P fr m o=some (v,m')):m.lg.le m'.lg:=by
 unfold xtM at a;split at a
 .unfold UL at a;split at a
  .split at a
   .obtain⟨_,a⟩:=A3 a;cases a;exact .refl _
   .cases a
  .split at a
   .obtain⟨_,a⟩:=A3 a;cases a;exact .refl _
   .cases a
  .obtain⟨_,a⟩:=A3 a;split at a
   .split at a
    .rename_i Y5;cases a;obtain⟨_,rfl⟩:=V0 Y5;exact .refl _
    .cases a
   .cases a
  .cases a
 .unfold SF at a;split at a
  .obtain⟨_,a⟩:=A3 a;split at a
   .cases a;exact .refl _
   .cases a;exact .refl _
   .cases a
  .cases a
 .split at a
  .unfold sdM at a;split at a
   .split at a
    .split at a
     .cases a;exact .refl _
     .cases a
    .cases a
   .cases a
  .cases a
 .split at a
  .unfold usM at a;split at a
   .obtain⟨_,a⟩:=A3 a;split at a
    .obtain⟨_,a⟩:=A3 a;split at a
     .rename_i b;split at a
      .rename_i hs;cases a;rw[dX hs];exact H9 b
      .cases a
     .cases a
    .cases a
   .cases a
  .cases a
 .exact A39 a
 .exact WF a
 .exact VV a
 .exact A0_ a
 .exact KH a
 .exact KH a
 .split at a
  .exact A1M a
  .cases a
 .cases a
end
end
section
open Go
def fw(rd:Option Nat):Fence:={ Fence.wide with round:=rd }
def sN{rd:Option Nat}{n:Nat}:(fw rd).depth.isSome=true->1<=n:=fun h=>by cases h
def pS{rd:Option Nat}{n:Nat}{P:Program}{f:FuncId}{args:X1}{w:World}{R:Ending->World->Prop}:CallsIn (fw rd) n P f args w R↔Calls P f args w R :=
 ⟨fun h=>callsIn_wide.1 (show CallsIn Fence.wide n P f args w R from h),fun h=>show CallsIn (fw rd) n P f args w R from(callsIn_wide (n:=n)).2 h⟩
section
variable {P:Program} {rd:Option Nat}
def wpO(P:Program)(rd:Option Nat)(o:Oper)(a:Act)(w:World)(K:Act->World->Prop)(Q:Exit->Act->World->Prop):Prop:=o.wpIn (fw rd) 0 P a w K Q
def IL{o:Oper}{a:Act}{w:World}{K f:Act->World->Prop}{Q:Exit->Act->World->Prop}(h:∀ a w,K a w->f a w)(hh:wpO P rd o a w K Q):wpO P rd o a w f Q:=by
 unfold wpO Oper.wpIn at *;refine⟨hh.1,?_⟩;have hh:=hh.2;generalize (o.semAt (fw rd).round a.eval).run P w=r at *;cases r with
 | ok n w' =>
   cases n<;>simp only[Oper.uponIn]at hh ⊢ <;>
    first
     | exact h _ _ hh
     | exact⟨hh.1,CallsIn.mono hh.2 (fun e b he=>by cases e<;>first|exact h _ _ he|exact he)⟩
     | exact⟨hh.1,RowsIn.mono hh.2 (fun _ _ he=>h _ _ he)⟩
     | exact⟨hh.1,RoundIn.mono hh.2 (fun e b he=>by cases e<;>first|exact h _ _ he|exact he)⟩
 | halt x w'=>cases x<;>simp only[Oper.uponIn]at hh ⊢<;>exact hh
def wpL(P:Program)(rd:Option Nat)(ops:Array Oper)(Q:Exit->Act->World->Prop):List Oper->Act->World->Prop
 | [],a,w=>Q .normal a w
 | o::rest,a,w=>if Region.wanted o (yielded ops a.tmps)then wpO P rd o a w (wpL P rd ops Q rest) Q else wpL P rd ops Q rest (a.put o.dst undef) w
def IM{ops:Array Oper}{Q:Exit->Act->World->Prop}{a:Act}{w:World}{rest:List Oper}{o:Oper}
  (h:∀ K:Act->World->Prop,(∀ a w,wpL P rd ops Q rest a w->K a w)->if Region.wanted o (yielded ops a.tmps)then wpO P rd o a w K Q else K (a.put o.dst undef) w):wpL P rd ops Q (o::rest) a w:=h _ fun _ _ h=>h
def QX{ops:Array Oper}{Q:Exit->Act->World->Prop}:∀ (l:List Oper) (k:Nat),(∀ j,l[j]? = ops[k+j]?)->∀ a w,wpL P rd ops Q l a w->wpOpsIn (fw rd) 0 P ops Q (List.range' k l.length) a w
 | [],k,_,a,w,h=>h
 | o::l,k,hk,a,w,h=>by
   have h0:ops[k]? = some o:=by simpa using(hk 0).symm
   have b:=QX (Q:=Q) l (k+1) (fun j=>by have:=hk (j+1);simpa [cO,jW 1 j]using this);simp only[C8,List.range'_succ,wpOpsIn,h0];unfold wpL at h;split
   .rename_i hw;rw[A9 hw]at h;exact IL b h
   .rename_i hw;rw[A7 hw]at h;exact⟨fun _ _=>trivial,b _ _ h⟩
def wC{id:Nat}{ops:Array Oper}{Q:Exit->Act->World->Prop}{a:Act}{w:World}(h:wpL P rd ops Q ops.toList a w):(Code.region id ops false).wpIn (fw rd) 0 P Q a w :=
 wpIn_region (by
  have:=QX ops.toList 0 (by simp) a w h;rw[List.range_eq_range',<- S1];exact this)
def hH(P:Program)(rd:Option Nat)(ops:Array Oper)(Q:Exit->Act->World->Prop)(i:Nat)(K:Act->World->Prop)(a:Act)(w:World):Prop :=
 match ops[i]? with
 | none=>K a w
 | some o=>if Region.wanted o (yielded ops a.tmps)then wpO P rd o a w K Q else K (a.put o.dst undef) w
def NR{ops:Array Oper}{Q:Exit->Act->World->Prop}{i:Nat}{a:Act}{w:World}{K b:Act->World->Prop}(h:∀ a w,K a w->b a w)(hh:hH P rd ops Q i K a w):hH P rd ops Q i b a w:=by
 unfold hH at *;split
 .exact h _ _ (by simpa [*]using hh)
 .rename_i o e;simp only[e]at hh;split
  .rename_i hw;simp only[hw,if_true]at hh;exact IL h hh
  .rename_i hw;simp only[hw]at hh;exact h _ _ hh
def FN{ops:Array Oper}{Q:Exit->Act->World->Prop}{i:Nat}{rest:H5}{a:Act}{w:World}(h:hH P rd ops Q i (wpOpsIn (fw rd) 0 P ops Q rest) a w):wpOpsIn (fw rd) 0 P ops Q (i::rest) a w:=by
 unfold hH at h;simp only[wpOpsIn];split at h
 .rename_i b;simp only[b];exact h
 .rename_i o e;simp only[e];split at h
  .rename_i hw;rw[A9 hw];exact h
  .rename_i hw;rw[A7 hw];exact⟨fun _ _=>trivial,h⟩
def iS(P:Program)(rd:Option Nat)(md:Region.Mode)(ops:Array Oper)(Q:Exit->Act->World->Prop):Nat->Array Bool->Act->World->Prop
 | 0,listed,a,w=>Region.ready md ops listed=[]/\Q .normal a w
 | fuel+1,listed,a,w=>(Region.ready md ops listed=[]->Q .normal a w)/\∀ i ∈ Region.ready md ops listed,hH P rd ops Q i (iS P rd md ops Q fuel (listed.setIfInBounds i true)) a w
def FO{md:Region.Mode}{ops:Array Oper}{Q:Exit->Act->World->Prop}:∀ (fuel t:Nat) (listed:Array Bool) (a:Act) (w:World),iS P rd md ops Q fuel listed a w->wpOpsIn (fw rd) 0 P ops Q (Region.linearise.go md ops fuel t listed []) a w:=by
 intro fuel;induction fuel with
 | zero=>intro t listed a w h;simpa [Region.linearise.go,wpOpsIn]using h.2
 | succ fuel f =>
   intro t listed a w h;obtain⟨h0,h1⟩:=h;simp only[Region.linearise.go];change wpOpsIn (fw rd) 0 P ops Q (match (Region.ready md ops listed)[t%(Region.ready md ops listed).length]? with
    | some i=>Region.linearise.go md ops fuel (t / (Region.ready md ops listed).length) (listed.setIfInBounds i true) [i]
    | none=>[].reverse) a w
   cases hi:(Region.ready md ops listed)[t%(Region.ready md ops listed).length]? with
   | none =>
     have b:Region.ready md ops listed=[]:=by
      cases hr:Region.ready md ops listed with
      | nil=>rfl
      | cons x xs =>
        rw[hr]at hi;have e:t%(x::xs).length<(x::xs).length:=pX _ (by simp);simp at hi;simp at e;omega
     simpa [wpOpsIn]using h0 b
   | some i =>
     simp only[];rw[linearise_go_acc,List.reverse_singleton,List.singleton_append];exact FN (NR (fun a w=>f _ _ a w) (h1 i (D1 hi)))
def kZ{id:Nat}{ops:Array Oper}{Q:Exit->Act->World->Prop}{a:Act}{w:World}(hm:P.follows .mixedOrders=true)
  (h:iS P rd .any ops Q ops.size (Array.replicate ops.size false) a { w with drawn:=w.drawn+1 }):(Code.region id ops true).wpIn (fw rd) 0 P Q a w :=
 wpIn_region_draw fun t=>by
  simp only[Region.schedule,hm,Bool.true_or,if_true];exact FO ops.size t _ a _ h
def t7{b:Frame}{a:Act}{k:List Item}{w:World} :step P (lone (b.atR a (.code (.scope c)::k)) cs w)=.next (lone (b.atR a (.code c::.inScope c::k)) cs w) :=
 step_lone_go (by simp[stepG,stepG.exec,Frame.atR])
def BZ{b:Frame}{a:Act}{k:List Item}{w:World} :step P (lone (b.atR a (.inScope c::k)) cs w)=.next (lone (b.atR a k) cs w) :=
 step_lone_go (by simp[stepG,stepG.exec,Frame.atR])
def Exit.calm(Q:Exit->Act->World->Prop):Exit->Act->World->Prop
 | .goto _,_,_=>False
 | e,a,w=>Q e a w
def NS{F:Fence}{n:Nat}{Q:Exit->Act->World->Prop}{a:Act}{w:World}(h:c.wpIn F n P (Exit.calm Q) a w):(Code.scope c).wpIn F n P Q a w:=by
 intro b k cs o q hr;have h0:(lone (b.atR a (.code (.scope c)::k)) cs w).fenced P F:=fenced_calm q hr rfl;obtain⟨e,i,g,j,f⟩:=h b (.inScope c::k) cs o q hr;cases e with
 | normal=>exact⟨.normal,i,g,j,.head h0 t7 (StepsIn.trans f (.one (fenced_calm q hr rfl) BZ))⟩
 | exit id =>
   have hx:exitTo id (.inScope c::k)=exitTo id k:=rfl;exact⟨.exit id,i,g,j,fun k' s=>.head h0 t7 (f.1 k' (by rw[hx];exact s)),
    fun p s=>let ⟨k₁,h1,t⟩:=f.2 p (by rw[hx];exact s);⟨k₁,h1,.head h0 t7 t⟩⟩
 | goto l=>exact j.elim
 | ret=>exact⟨_,i,g,j,.of_steps (.one h0 t7) f⟩
 | panic u=>exact⟨_,i,g,j,.of_steps (.one h0 t7) f⟩
 | outgrown=>exact⟨_,i,g,j,.of_steps (.one h0 t7) f⟩
end
end
section
open Go
def oG(o:Op)(g:Operand->Value):Sem Value :=
 match o with
 | .move x|.assign x=>pure (g x)
 | .load t x=>Instr.loadAt t (g x)
 | .store t x y=>do Instr.storeAt t (g x) (g y);pure undef
 | _=>stuck "no such operation"
def uI(P:Program)(o:Oper)(s:Act×World):Option (Act×World) :=
 match (oG o.op s.1.eval).run P s.2 with
 | .ok v w'=>some (s.1.put o.dst v,w')
 | .halt _ _=>none
section
variable {P:Program} {rd:Option Nat}
def xQ{o:Oper}{s t:Act×World}(h:uI P o s=some t):∃ v,(oG o.op s.1.eval).run P s.2=.ok v t.2/\t.1=s.1.put o.dst v:=by
 unfold uI at h;split at h
 .rename_i v w' hr;cases h;exact⟨v,hr,rfl⟩
 .cases h
def nY{o:Oper}{s:Act×World}(h:(oG o.op s.1.eval).run P s.2=.ok v w'):uI P o s=some (s.1.put o.dst v,w'):=by
 unfold uI;rw[h]
def XA{o:Oper}(a:HX o.op=true)(w:World)(g:Operand->Value):o.about P w g=none:=by
 unfold Oper.about;cases b:o.op<;>rw[b]at a<;>first|rfl|cases a
def RJ{o:Oper}(a:HX o.op=true)(g:Operand->Value):∀ c,o.op≠.defer c:=fun c h=>by rw[h]at a;cases a
def A3N{o:Oper}(i:HX o.op=true){a a':Act}{w:World}{K:Act->World->Prop}{Q:Exit->Act->World->Prop}(h:uI P o (a,w)=some (a',w'))(g:K a' w'):wpO P rd o a w K Q:=by
 obtain⟨v,h1,n⟩:=xQ h;simp only at h1 n;subst n;unfold wpO Oper.wpIn;refine⟨fun f j=>(by rw[XA i]at j;cases j),?_⟩;rw[Oper.semAt_eq _ _ _ (RJ i a.eval)];cases b:o.op<;>rw[b]at i h1<;>first
  | cases i;done
  | skip
 .have e:(execOp a.eval o)=pure (.value (a.eval ‹Operand›)):=by unfold execOp;rw[b]
  rw[e];cases h1;exact g
 .have e:(execOp a.eval o)=pure (.value (a.eval ‹Operand›)):=by unfold execOp;rw[b]
  rw[e];cases h1;exact g
 .rename_i t x;have e:(execOp a.eval o)=(do pure (.value (<- Instr.loadAt t (a.eval x)))):=by unfold execOp;rw[b]
  have h1:(Instr.loadAt t (a.eval x)).run P w=.ok v w':=h1;rw[e];simp only[A4,h1,Result.andThen,Sem.run_pure];exact g
 .rename_i t x y;have e:(execOp a.eval o)=(do Instr.storeAt t (a.eval x) (a.eval y);pure .skip):=by unfold execOp;rw[b]
  have h1:(do Instr.storeAt t (a.eval x) (a.eval y);pure undef:Sem Value).run P w=.ok v w':=h1;rw[e];simp only[A4]at h1 ⊢;cases hr:(Instr.storeAt t (a.eval x) (a.eval y)).run P w with
  | ok u w2=>rw[hr]at h1;simp only[Result.andThen,Sem.run_pure]at h1 ⊢;cases h1;exact g
  | halt x w2=>rw[hr]at h1;cases h1
def A4p{o:Oper}(f:HX o.op=true){a:Act}{w:World}{K:Act->World->Prop}{Q:Exit->Act->World->Prop}(g:∀ c a w,¬Q (.panic c) a w)(h:wpO P rd o a w K Q):∃ a' w',uI P o (a,w)=some (a',w')/\K a' w':=by
 unfold wpO Oper.wpIn at h;obtain⟨_,h⟩:=h;rw[Oper.semAt_eq _ _ _ (RJ f a.eval)]at h;cases b:o.op<;>rw[b]at f<;>first
  | cases f;done
  | skip
 .rename_i x;have e:(execOp a.eval o)=pure (.value (a.eval x)):=by unfold execOp;rw[b]
  rw[e]at h;exact⟨_,_,nY (s:=(a,w)) (v:=a.eval x) (w':=w) (by rw[b];rfl),h⟩
 .rename_i x;have e:(execOp a.eval o)=pure (.value (a.eval x)):=by unfold execOp;rw[b]
  rw[e]at h;exact⟨_,_,nY (s:=(a,w)) (v:=a.eval x) (w':=w) (by rw[b];rfl),h⟩
 .rename_i t x;have e:(execOp a.eval o)=(do pure (.value (<- Instr.loadAt t (a.eval x)))):=by unfold execOp;rw[b]
  rw[e]at h;simp only[A4]at h;cases hr:(Instr.loadAt t (a.eval x)).run P w with
  | ok v w' =>
    rw[hr]at h;exact⟨_,_,nY (s:=(a,w)) (v:=v) (w':=w') (by rw[b];exact hr),h⟩
  | halt y w' =>
    rw[hr]at h;cases y<;>first|exact absurd h (g _ _ _)|exact h.elim
 .rename_i t x y;have e:(execOp a.eval o)=(do Instr.storeAt t (a.eval x) (a.eval y);pure .skip):=by unfold execOp;rw[b]
  rw[e]at h;simp only[A4]at h;cases hr:(Instr.storeAt t (a.eval x) (a.eval y)).run P w with
  | ok u w' =>
    rw[hr]at h;refine⟨_,_,nY (s:=(a,w)) (v:=undef) (w':=w') ?_,h⟩;rw[b];show(do Instr.storeAt t (a.eval x) (a.eval y);pure undef:Sem Value).run P w=_;simp only[A4,hr,Result.andThen,Sem.run_pure]
  | halt z w' =>
    rw[hr]at h;cases z<;>first|exact absurd h (g _ _ _)|exact h.elim
def A0X{a:Act}{e:Option Tmp}{u:Value}(h:∀ x y,d=some x->e=some y->x≠y):(a.put d v).put e u=(a.put e u).put d v:=by
 cases d with
 | none=>rfl
 | some x=>cases e with
   | none=>rfl
   | some y =>
     have b:=h x y rfl rfl;unfold Act.put;simp only;congr 1;exact Array.setIfInBounds_comm _ _ b
def iK{a:Act}{x:Operand}(h:∀ t,d=some t->t ∉ qI x):(a.put d v).eval x=a.eval x:=by
 cases x with
 | const c=>cases d<;>rfl
 | tmp t =>
   cases d with
   | none=>rfl
   | some y =>
     have:y≠t:=fun e=>h y rfl (by subst e;exact M7.2 rfl)
     unfold Act.put Act.eval;simp only[B9];rw[Array.getElem?_setIfInBounds_ne this]
 | _=>cases d<;>rfl
variable [Ora]
def CK(P:Program)(w:World)(t:TypeId)(p:Value):Prop :=
 ∃ b o C T fz s g,p=.pointer (some ⟨b,o,none⟩)/\w.heap[b]? = some (.cells C T fz)/\H4 P t=some s/\aW P t=some g/\o+s<=C.size/\o<C.size
def DU{t:TypeId}{b o s:Nat}{C:X1}{T:TypeId}{g:Bool}(hs:H4 P t=some s)(n:aW P t=some g)(h1:o+s<=C.size)(q:o<C.size):∃ v,∀ w:World,w.heap[b]? = some (.cells C T fz)->(Instr.loadAt t (.pointer (some ⟨b,o,none⟩))).run P w=.ok v w:=by
 have a:∀ w:World,w.heap[b]? = some (.cells C T fz)->∀ j v,C[o+j]? = some v->w.cell? ⟨b,o+j,none⟩=some v:=fun w hw j v hv=>by simp[World.cell?,hw,hv]
 cases g with
 | true =>
   refine⟨.agg ⟨(C.toList.drop o).take s⟩,fun w hw=>?_⟩;have p:((C.toList.drop o).take s).length=s:=by rw[G6,E7,S1];omega
   have e:=K8 (P:=P) (w:=w) (b:=b) (o:=o) p (fun j v i=>by
    have f:j<s:=by have:=(B1.1 i).1;omega
    rw[E8 f,I0,Q2]at i;exact a w hw j v i)
   unfold Instr.loadAt;simp[A4,Instr.sureAddr,loadVar,cL n,L4 hs,Result.andThen,e]
 | false =>
   refine⟨C[o],fun w hw=>?_⟩
   have:=a w hw 0 C[o] (by simp[q]);unfold Instr.loadAt;simp[A4,Instr.sureAddr,loadVar,cL n,Result.andThen,run_load,show w.cell? ⟨b,o,none⟩=some C[o]from by simpa using this]
def yD{b o:Nat}{T:TypeId}{fz:Nat×Nat}:∀ (vs:List Value) (i:Nat) (C:Array Value) (w w':World),w.heap[b]? = some (.cells C T fz)->o+i+vs.length<=C.size->(storeCells ⟨b,o,none⟩ vs i).run P w=.ok () w' ->
  (∀ k,k≠b->w'.heap[k]? = w.heap[k]?)/\∃ C',w'.heap[b]? = some (.cells C' T fz)/\C'.size=C.size
 | [],i,C,w,w',h,_,hr=>by cases hr;exact⟨fun _ _=>rfl,C,h,rfl⟩
 | v::r,i,C,w,w',h,hl,hr=>by
   simp only[C8]at hl;have f:o+i<C.size:=A2;have q:w.cell? ⟨b,o+i,none⟩=some C[o+i]:=by simp[World.cell?,h,f]
   have j:(w.setCell ⟨b,o+i,none⟩ v).heap[b]? = some (.cells (C.setIfInBounds (o+i) v) T fz):=by
    simp[World.setCell,H3,h]
   unfold storeCells at hr;simp only[A4,K8.add_none']at hr;have a:(store ⟨b,o+i,none⟩ v).run P w=.ok () (w.setCell ⟨b,o+i,none⟩ v)∨∃ x w2,(store ⟨b,o+i,none⟩ v).run P w=.halt x w2:=by
    unfold store;cases v<;>first
     | exact .inr ⟨_,_,rfl⟩
     | (simp only[Sem.run,q]
        split
        .exact .inr ⟨_,_,rfl⟩
        .exact .inl rfl)
   rcases a with a|⟨x,w2,a⟩
   .rw[a]at hr;simp only[Result.andThen]at hr;obtain⟨p,C',s,n⟩:=yD r (i+1) _ _ _ j (by simp;omega) hr;refine⟨fun k g=>?_,C',s,by rw[n];simp⟩;rw[p k g];simp only[World.setCell,H3];rw[A7 (fun e=>g e.symm)]
   .rw[a]at hr;cases hr
def FT{t:TypeId}{b o s:Nat}{C:X1}{T:TypeId}{y:Value}{w:World}(hs:H4 P t=some s)(hw:w.heap[b]? = some (.cells C T fz))(h1:o+s<=C.size)(hr:(Instr.storeAt t (.pointer (some ⟨b,o,none⟩)) y).run P w=.ok () w') :
  (∀ k,k≠b->w'.heap[k]? = w.heap[k]?)/\∃ C',w'.heap[b]? = some (.cells C' T fz)/\C'.size=C.size:=by
 unfold Instr.storeAt at hr;simp only[A4,Instr.sureAddr,storeVar,L4 hs,Result.andThen,Sem.run_pure]at hr;by_cases a:y.cells.size≠s
 .rw[A9 a]at hr;cases hr
 .rw[A7 a]at hr;have a:=Classical.not_not.1 a;exact yD y.cells.toList 0 C w w' hw (by rw[S1,a];omega) hr
structure NP (P:Program) (ops:List Oper) (s:Act×World):Prop where
 pl:∀ o ∈ ops,∀ t x,mQ o.op=some (t,x)->CK P s.2 t (s.1.eval x)
 ap:∀ i j a b,i<j->ops[i]? = some a->ops[j]? = some b->sV b i=false->(fY a.op || fY b.op)=true->∀ t x u y,mQ a.op=some (t,x)->mQ b.op=some (u,y)->∀ p q,s.1.eval x=.pointer (some p)->s.1.eval y=.pointer (some q)->p.block≠q.block
def AC{b:Nat}:x9 l b=true↔b ∈ l:=by
 unfold x9;rw[Q6];constructor
 .rintro⟨x,h,e⟩;have:=A0 e;subst this;exact h
 .intro h;exact⟨b,h,eC b⟩
def KR{a:List Tmp}:∀ {l:List Oper} {k i:Nat} {o:Oper},A01 a k l=true->l[i]? = some o->A8c a (k+i) o=true
 | [],k,i,o,_,h=>by simp at h
 | p::l,k,0,o,h,hi=>by
   simp at hi;subst hi;exact(B7 h).1
 | p::l,k,i+1,o,h,hi=>by
   have:=KR (l:=l) (k:=k+1) (i:=i) (o:=o) (B7 h).2 (by simpa using hi);rw[show k+(i+1)=k+1+i by omega];exact this
structure One (ops:List Oper) (i:Nat) (o:Oper):Prop where
 cls:HX o.op=true
 grd:o.guard=none
 ads:∀ p ∈ ops,∀ t x,mQ p.op=some (t,x)->∀ d,o.dst=some d->d ∉ qI x
 lt:∀ e ∈ o.after,Region.binds .any e=true->e.on<i
def nK{ops:List Oper}(h:lK ops=true){i:Nat}{o:Oper}(hi:ops[i]? = some o):One ops i o:=by
 have h1:=KR (B7 h).1 hi;rw[F7]at h1;unfold A8c at h1;obtain⟨b,h1⟩:=B7 h1;obtain⟨a2,h1⟩:=B7 h1;obtain⟨a3,a4⟩:=B7 h1;refine⟨b,?_,fun p hp t x hx d j hm=>?_,fun e he f=>?_⟩
 .cases a:o.guard with
  | none=>rfl
  | some g=>rw[a]at a2;cases a2
 .have:x9 (A26 ops) d=true:=AC.2 (List.mem_flatMap.2 ⟨p,hp,by rw[hx];exact hm⟩);unfold DJ at a3;rw[j]at a3;simp only at a3;rw[this]at a3;cases a3
 .have:=fN.1 a4 e he;rw[f]at this;exact A1 this
def JY{p:Oper->Oper->Bool}{ops:List Oper}(h:GG p ops=true){i j:Nat}{a b:Oper}(e:i<j)(hi:ops[i]? = some a)(g:ops[j]? = some b)(he:sV b i=false):p a b=true:=by
 unfold GG at h;have f:=(B1.1 g).1
 have:=D7.1 (D7.1 h j (X4.2 f)) i (X4.2 e);rw[hi,g]at this;simp only[he,R1]at this;exact this
def KC{o:Oper}{a:Act}(b:∀ t,d=some t->t ∉ A0U o.op)(f:HX o.op=true):oG o.op (a.put d v).eval=oG o.op a.eval:=by
 cases g:o.op<;>rw[g]at f b<;>first
  | cases f;done
  | skip
 .unfold oG;simp only;rw[iK b]
 .unfold oG;simp only;rw[iK b]
 .unfold oG;simp only;rw[iK b]
 .unfold oG;simp only;rw[iK (fun t e hm=>b t e (B8.2 (.inl hm))),iK (fun t e hm=>b t e (B8.2 (.inr hm)))]
def xC{o:Oper}{s:Act×World}(e:HX o.op=true)(a:fY o.op=false)(hp:∀ t x,mQ o.op=some (t,x)->CK P s.2 t (s.1.eval x))(h:(oG o.op s.1.eval).run P s.2=.ok v w'):w'=s.2:=by
 cases j:o.op<;>rw[j]at e a h hp<;>first
  | cases e;done
  | cases a;done
  | skip
 .cases h;rfl
 .cases h;rfl
 .rename_i t x;obtain⟨b,o',C,T,fz,sz,g,f,q,p,z,n,i⟩:=hp t x rfl;obtain⟨u,hu⟩:=DU (P:=P) (T:=T) (fz:=fz) p z n i;have h:(Instr.loadAt t (s.1.eval x)).run P s.2=.ok v w':=h;rw[f,hu s.2 q]at h;cases h;rfl
def yC{o:Oper}{s:Act×World}(a:fY o.op=true)(hp:∀ t x,mQ o.op=some (t,x)->CK P s.2 t (s.1.eval x))(h:(oG o.op s.1.eval).run P s.2=.ok v w') :
  ∃ t x b o' C T fz,mQ o.op=some (t,x)/\s.1.eval x=.pointer (some ⟨b,o',none⟩)/\s.2.heap[b]? = some (.cells C T fz)/\(∀ k,k≠b->w'.heap[k]? = s.2.heap[k]?)/\∃ C',w'.heap[b]? = some (.cells C' T fz)/\C'.size=C.size:=by
 cases i:o.op<;>rw[i]at a h hp<;>first
  | cases a;done
  | skip
 rename_i t x y;obtain⟨b,o',C,T,fz,sz,g,e,f,n,B,p,A⟩:=hp t x rfl;have h:(do Instr.storeAt t (s.1.eval x) (s.1.eval y);pure undef:Sem Value).run P s.2=.ok v w':=h;simp only[A4]at h;cases hr:(Instr.storeAt t (s.1.eval x) (s.1.eval y)).run P s.2 with
 | ok u w2 =>
   rw[hr]at h;simp only[Result.andThen,Sem.run_pure]at h;cases h;rw[e]at hr;obtain⟨j,q⟩:=FT n f p hr;exact⟨t,x,b,o',C,T,fz,rfl,e,f,j,q⟩
 | halt z w2=>rw[hr]at h;cases h
def CK.keep{w:World}{t:TypeId}{p:Value}(h:CK P w t p)(e:∀ (b:Nat) (C:Array Value) (T:TypeId) (fz:Nat×Nat),w.heap[b]? = some (.cells C T fz)->∃ C',w'.heap[b]? = some (.cells C' T fz)/\C'.size=C.size):CK P w' t p:=by
 obtain⟨b,o,C,T,fz,s,g,a,i,f,j,u,n⟩:=h;obtain⟨C',h1,q⟩:=e b C T fz i;exact⟨b,o,C',T,fz,s,g,a,h1,f,j,A2,A2⟩
def NP.step{ops:List Oper}{s B:Act×World}{i:Nat}{o:Oper}(hr:lK ops=true)(A:NP P ops s)(hi:ops[i]? = some o)(h:uI P o s=some B):NP P ops B:=by
 obtain⟨v,h1,Q⟩:=xQ h;have I:=nK hr hi;have f:=D1 hi;have g:∀ p ∈ ops,∀ t x,mQ p.op=some (t,x)->B.1.eval x=s.1.eval x:=fun p hp t x hx=>by rw[Q];exact iK (I.ads p hp t x hx)
 have M:∀ (b:Nat) (C:Array Value) (T:TypeId) (fz:Nat×Nat),s.2.heap[b]? = some (.cells C T fz)->∃ C',B.2.heap[b]? = some (.cells C' T fz)/\C'.size=C.size:=fun b C T fz D=>by
  cases z:fY o.op with
  | false=>rw[xC I.cls z (fun t x hx=>A.pl o f t x hx) h1];exact⟨C,D,rfl⟩
  | true =>
    obtain⟨t,x,b',o',W,Y,O,X,Z,R,V,C',S,L⟩:=yC z (fun t x hx=>A.pl o f t x hx) h1;by_cases e:b=b'
    .subst e;rw[R]at D;cases D;exact⟨C',S,L⟩
    .exact⟨C,by rw[V b e];exact D,rfl⟩
 refine⟨fun p hp t x hx=>by rw[g p hp t x hx];exact(A.pl p hp t x hx).keep M,fun i j a b E h3 H N K t x u y J F p q G n=>?_⟩;rw[g a (D1 h3) t x J]at G;rw[g b (D1 H) u y F]at n;exact A.ap i j a b E h3 H N K t x u y J F p q G n
def A2P{ops:List Oper}{s s1 s2:Act×World}{i j:Nat}{a b:Oper}(hr:lK ops=true)(M:NP P ops s)(D:i<j)(hi:ops[i]? = some a)(J:ops[j]? = some b)(he:sV b i=false)(h1:uI P a s=some s1)(h2:uI P b s1=some s2):∃ t,uI P b s=some t/\uI P a t=some s2:=by
 have S:=nK hr hi;have N:=nK hr J;have ma:=D1 hi;have mb:=D1 J;have f:=JY (B7 hr).2 D hi J he;unfold B0u at f;obtain⟨i1,f⟩:=B7 f;obtain⟨i2,f⟩:=B7 f;obtain⟨i3,i4⟩:=B7 f;have Y:∀ t,a.dst=some t->t ∉ A0U b.op:=fun t R hm=>by
  unfold DJ at i2;rw[R]at i2;simp only at i2;rw[AC.2 hm]at i2;cases i2
 have Z:∀ t,b.dst=some t->t ∉ A0U a.op:=fun t R hm=>by
  unfold DJ at i3;rw[R]at i3;simp only at i3;rw[AC.2 hm]at i3;cases i3
 have W:∀ x y,a.dst=some x->b.dst=some y->x≠y:=fun x y hx hy e=>by
  rw[hx,hy]at i1;simp only at i1;subst e;rw[eC]at i1;cases i1
 obtain⟨v,L,e2⟩:=xQ h1;obtain⟨u,F,e4⟩:=xQ h2;obtain⟨a1,w1⟩:=s1;obtain⟨a2,w2⟩:=s2;obtain⟨a0,w0⟩:=s;simp only at L e2 F e4;subst e2;subst e4;rw[KC Y N.cls]at F;suffices hh:∃ w',(oG b.op a0.eval).run P w0=.ok u w'/\(oG a.op a0.eval).run P w'=.ok v w2 by
  obtain⟨w',q1,q2⟩:=hh;refine⟨(a0.put b.dst u,w'),nY (s:=(a0,w0)) q1,?_⟩
  have:=nY (P:=P) (o:=a) (s:=(a0.put b.dst u,w')) (v:=v) (w':=w2) (by show(oG a.op (a0.put b.dst u).eval).run P w'=_;rw[KC Z S.cls];exact q2);rw[this];simp only;rw[A0X W]
 have G:∀ t x,mQ a.op=some (t,x)->CK P w0 t (a0.eval x):=fun t x hx=>M.pl a ma t x hx
 have q:∀ t x,mQ b.op=some (t,x)->CK P w0 t (a0.eval x):=fun t x hx=>M.pl b mb t x hx
 have p:∀ {o:Oper} {w w':World} {r:Value},HX o.op=true->fY o.op=false->(∀ t x,mQ o.op=some (t,x)->∃ n A C T fz s g,a0.eval x=.pointer (some ⟨n,A,none⟩)/\w.heap[n]? = some (.cells C T fz)/\w'.heap[n]? = some (.cells C T fz)/\H4 P t=some s/\aW P t=some g/\A+s<=C.size/\A<C.size)->(oG o.op a0.eval).run P w=.ok r w->(oG o.op a0.eval).run P w'=.ok r w':=fun{o w w' r} hc K hp h=>by
  cases ho:o.op<;>rw[ho]at hc K h hp<;>first
   | cases hc;done
   | cases K;done
   | skip
  .cases h;rfl
  .cases h;rfl
  .rename_i t x;obtain⟨n,A,C,T,fz,sz,g,f1,f2,f3,f4,f5,f6,f7⟩:=hp t x rfl;obtain⟨z,hz⟩:=DU (P:=P) (T:=T) (fz:=fz) f4 f5 f6 f7;have h:(Instr.loadAt t (a0.eval x)).run P w=.ok r w:=h;show(Instr.loadAt t (a0.eval x)).run P w'=.ok r w';rw[f1,hz w f2]at h;rw[f1,hz w' f3];cases h;rfl
 cases H:fY a.op with
 | false =>
   have hw:w1=w0:=xC (s:=(a0,w0)) S.cls H G L;subst hw;refine⟨w2,F,?_⟩;refine p S.cls H (fun t x hx=>?_) L;obtain⟨n,A,C,T,fz,sz,g,f1,f2,f3,f4,f5,f6⟩:=G t x hx;cases B:fY b.op with
   | false =>
     have Q:w2=w1:=xC (s:=(a0,w1)) N.cls B q F;subst Q;exact⟨n,A,C,T,fz,sz,g,f1,f2,f2,f3,f4,f5,f6⟩
   | true =>
     obtain⟨X,x',b',o',C0,T0,V,g1,g2,g3,g4,_⟩:=yC (s:=(a0,w1)) B q F;have E:=M.ap i j a b D hi J he (by rw[H,B];rfl) t x X x' hx g1 _ _ f1 g2;exact⟨n,A,C,T,fz,sz,g,f1,f2,(g4 n E).trans f2,f3,f4,f5,f6⟩
 | true =>
   have B:fY b.op=false:=by
    cases h:fY b.op with
    | false=>rfl
    | true=>rw[H,h]at i4;cases i4
   obtain⟨X,x',b',o',C0,T0,V,g1,g2,g3,g4,C1,g5,g6⟩:=yC (s:=(a0,w0)) H G L;have I:∀ t x,mQ b.op=some (t,x)->CK P w1 t (a0.eval x):=fun t x hx=>(q t x hx).keep fun b C T fz O=>by
    by_cases e:b=b'
    .subst e;rw[g3]at O;cases O;exact⟨C1,g5,g6⟩
    .exact⟨C,by rw[g4 b e];exact O,rfl⟩
   have hw:w2=w1:=xC (s:=(a0,w1)) N.cls B I F;subst hw;refine⟨w0,?_,L⟩;refine p N.cls B (fun t x hx=>?_) F;obtain⟨n,A,C,T,fz,sz,g,f1,f2,f3,f4,f5,f6⟩:=q t x hx;have E:=M.ap i j a b D hi J he (by rw[H,B];rfl) X x' t x g1 hx _ _ g2 f1;exact⟨n,A,C,T,fz,sz,g,f1,(g4 n (fun e=>E e.symm)).trans f2,f2,f3,f4,f5,f6⟩
def FY(P:Program)(ops:List Oper):H5->Act×World->Option (Act×World)
 | [],s=>some s
 | i::l,s=>match ops[i]? with
   | some o=>match uI P o s with
     | some s=>FY P ops l s
     | none=>none
   | none=>FY P ops l s
def oX{ops:List Oper}(hr:lK ops=true){j:Nat}{b:Oper}(f:ops[j]? = some b){l2:H5}{r:Act×World}:∀ (l1:List Nat) (s:Act×World),NP P ops s->(∀ i ∈ l1,i<j/\sV b i=false)->FY P ops (l1++j::l2) s=some r->∃ s1,uI P b s=some s1/\FY P ops (l1++l2) s1=some r
 | [],s,hg,_,h=>by
   simp only[H1,FY,f]at h;split at h
   .rename_i s1 h1;exact⟨s1,h1,h⟩
   .cases h
 | i::l1,s,hg,hl,h=>by
   obtain⟨h0,he⟩:=hl i B5;have e:∀ i ∈ l1,i<j/\sV b i=false:=fun k n=>hl k (C5 _ n)
   simp only[T4,FY]at h ⊢;cases hi:ops[i]? with
   | none =>
     rw[hi]at h;exact oX hr f l1 s hg e h
   | some a =>
     rw[hi]at h;simp only at h ⊢;split at h
     .rename_i g h1;obtain⟨s1,o,p⟩:=oX hr f l1 g (hg.step hr hi h1) e h;obtain⟨t,t1,t2⟩:=A2P hr hg h0 hi f he h1 o;exact⟨t,t1,by rw[t2];exact p⟩
     .cases h
def kV(n:Nat)(listed:Array Bool):H5:=(List.range n).filter fun i=>!listed.getD i true
def rL{n:Nat}{i:Nat}:i ∈ kV n listed↔i<n/\listed.getD i true=false:=by
 unfold kV;rw[P9,X4];simp
def GB(n:Nat)(listed:Array Bool):(kV n listed).Pairwise (· < ·):=List.Pairwise.filter _ List.pairwise_lt_range
def A0T{n:Nat}{i:Nat}{l1 l2:H5}(hi:i<listed.size)(h:kV n listed=l1++i::l2):kV n (listed.setIfInBounds i true)=l1++l2:=by
 have hp:=GB n listed;rw[h]at hp;have b:∀ k ∈ l1++l2,(k != i)=true:=fun k a=>by
  have hp:=List.pairwise_append.1 hp;rcases B8.1 a with a|a
  .have:=hp.2.2 k a i B5;simp;omega
  .have:=(List.pairwise_cons.1 hp.2.1).1 k a;simp;omega
 have e:kV n (listed.setIfInBounds i true)=(kV n listed).filter fun k=>k != i:=by
  unfold kV;rw[List.filter_filter];apply List.filter_congr;intro k _;simp only[B9,G3];by_cases e:i=k
  .subst e;simp[hi]
  .simp[e,Ne.symm e]
 rw[e,h,List.filter_append,List.filter_cons];have f:(i != i)=false:=by simp
 rw[f];simp only[K0,if_false];rw[dT.2 fun k a=>b k (B8.2 (.inl a)),dT.2 fun k a=>b k (B8.2 (.inr a))]
def DP{ops:Array Oper}(hr:lK ops.toList=true){Q:Exit->Act->World->Prop}:∀ (fuel:Nat) (listed:Array Bool) (a:Act) (w:World) (r:Act×World),listed.size=ops.size->NP P ops.toList (a,w)->(kV ops.size listed).length=fuel->FY P ops.toList (kV ops.size listed) (a,w)=some r->Q .normal r.1 r.2->iS P rd .any ops Q fuel listed a w
 | 0,listed,a,w,r,hsz,hg,hl,h,hq=>by
   have h0:=G2.1 hl;rw[h0]at h;cases h;refine⟨?_,hq⟩;rw[cH];intro i hi;have:i ∈ kV ops.size listed:=by
    unfold Region.ready at hi;rw[P9]at hi;unfold kV;rw[P9];exact⟨hi.1,(B7 hi.2).1⟩
   rw[h0]at this;cases this
 | fuel+1,listed,a,w,r,hsz,hg,hl,h,hq=>by
   have j:∀ {i:Nat},i<ops.size->∃ o,ops.toList[i]? = some o/\ops[i]? = some o:=fun{i} hi=>⟨ops[i],by simp[hi],by simp[hi]⟩
   refine⟨fun L=>?_,fun i hi=>?_⟩
   ·
    cases g:kV ops.size listed with
    | nil=>rw[g]at hl;cases hl
    | cons i t =>
      exfalso;have B:i ∈ kV ops.size listed:=by rw[g];exact B5
      obtain⟨i1,i2⟩:=rL.1 B;obtain⟨o,s,A⟩:=j i1;have z:=nK hr s;have f:=GB ops.size listed;rw[g]at f;have u:∀ k,k<i->listed.getD k false=true:=fun k D=>by
       have q:k<listed.size:=A2;cases hv:listed.getD k true with
       | true=>rw[<- hv];simp[B9,q]
       | false =>
         have:k ∈ kV ops.size listed:=rL.2 ⟨A2,hv⟩;rw[g]at this;rcases B6.1 this with e|hm
         .omega
         .have:=(List.pairwise_cons.1 f).1 k hm;omega
      have:i ∈ Region.ready .any ops listed:=by
       unfold Region.ready;rw[P9,X4];refine⟨i1,?_⟩;rw[i2,A];simp only[Bool.not_false,gX,L6,cF];rw[fN];intro e he;cases K:Region.binds .any e with
       | false=>rfl
       | true=>rw[u e.on (z.lt e he K)];rfl
      rw[L]at this;cases this
   .have hi':=hi;unfold Region.ready at hi;rw[P9,X4]at hi;obtain⟨i1,i2⟩:=hi;obtain⟨o,s,A⟩:=j i1;have z:=nK hr s;rw[A]at i2;obtain⟨i2,i3⟩:=B7 i2;simp only[L6,cF]at i3;have E:listed.getD i true=false:=by simpa using i2
    have x:i ∈ kV ops.size listed:=rL.2 ⟨i1,E⟩;obtain⟨l1,l2,b⟩:=List.append_of_mem x;have f:=GB ops.size listed;rw[b]at f;have C:∀ k ∈ l1,k<i/\sV o k=false:=fun k D=>by
     refine⟨(List.pairwise_append.1 f).2.2 k D i B5,?_⟩;cases he:sV o k with
     | false=>rfl
     | true =>
       exfalso;unfold sV at he;rw[Array.any_eq_true']at he;obtain⟨e,hm,he⟩:=he;obtain⟨J,F⟩:=B7 he;have F:=A0 F
       have:=(fN.1 i3) e hm;rw[J,F]at this;simp only[R0,R1]at this;have q:=(rL (n:=ops.size) (listed:=listed) (i:=k)).1 (by rw[b];exact B8.2 (.inl D));have G:k<listed.size:=A2;have p:=q.2;simp[B9,G]at this p;rw[this]at p;cases p
    rw[b]at h;obtain⟨s1,H,M⟩:=oX hr s l1 (a,w) hg C h;have Y5:=A0T (n:=ops.size) (listed:=listed) (i:=i) (l1:=l1) (l2:=l2) A2 b;obtain⟨I,w1⟩:=s1;unfold hH;rw[A];simp only;have hw:Region.wanted o (yielded ops a.tmps)=true:=by unfold Region.wanted;rw[z.grd]
    rw[A9 hw];refine A3N z.cls H (DP hr fuel (listed.setIfInBounds i true) I w1 r (by simpa using hsz) (hg.step hr s H) ?_ (by rw[Y5];exact M) hq);rw[Y5];have:(l1++i::l2).length=fuel+1:=by rw[<- b];exact hl
    simp at this ⊢;omega
def DB{ops:Array Oper}(hr:lK ops.toList=true){Q:Exit->Act->World->Prop}:∀ (d k:Nat) (a:Act) (w:World),k+d=ops.size->wpL P rd ops (fun e a' w'=>e=.normal/\Q e a' w') (ops.toList.drop k) a w->∃ r,FY P ops.toList (List.range' k d) (a,w)=some r/\Q .normal r.1 r.2
 | 0,k,a,w,hk,h=>by
   have:ops.toList.drop k=[]:=S6 (by simp;omega);rw[this]at h;exact⟨(a,w),rfl,h.2⟩
 | d+1,k,a,w,hk,h=>by
   have b:k<ops.toList.length:=by simp;omega
   rw[i6 b]at h;have f:=nK hr (A5 b);unfold wpL at h;have hw:Region.wanted ops.toList[k] (yielded ops a.tmps)=true:=by unfold Region.wanted;rw[f.grd]
   rw[A9 hw]at h;obtain⟨a',w',h1,g⟩:=A4p f.cls (fun c a w hh=>by cases hh.1) h;obtain⟨r,r1,i⟩:=DB hr d (k+1) a' w' A2 g;refine⟨r,?_,i⟩;rw[List.range'_succ];simp only[FY,A5 b,h1];exact r1
def A3n{ops:Array Oper}(hr:lK ops.toList=true){Q:Exit->Act->World->Prop}{a:Act}{w:World}(b:∀ w',w'.heap=w.heap->NP P ops.toList (a,w'))(h:∀ d,wpL P rd ops (fun e a' w'=>e=.normal/\Q e a' w') ops.toList a { w with drawn:=d })(d:Nat):iS P rd .any ops Q ops.size (Array.replicate ops.size false) a { w with drawn:=d }:=by
 obtain⟨r,r1,f⟩:=DB hr ops.size 0 a { w with drawn:=d } A2 (by simpa using h d);have e:kV ops.size (Array.replicate ops.size false)=List.range' 0 ops.size:=by
  unfold kV;rw[List.range_eq_range',dT];intro i hi;have:i<ops.size:=by have:=List.mem_range'.1 hi;omega
  simp[B9,this]
 exact DP hr ops.size _ a _ r (by simp) (b _ rfl) (by rw[e];simp) (by rw[e];exact r1) f
end
end
end Go.Sx
