import Derived.Test.YtbbicpheoakeeaaGreatDoorX4
import Derived.MapKept
import Derived.WideKeyRuns
import Derived.Lib.Builder
import Derived.LoopNIn
import Derived.RangeFuncRecord
set_option linter.all false
set_option maxRecDepth 100000
set_option maxHeartbeats 4000000
namespace Go.Sx
variable {ks l ts:H1}{k' v v' x':Value}{cs:List Frame}{k:Nat}{y:MTy}{d:Option Tmp}{kt pt ty:TypeId}{r us vs:List U}{rows rs:List (List U)}{es es':Array MapEntry}{hs xs:D2}{c:Code}{e':MapEntry}{tys:List TypeId}{w':World}{fz:Nat×Nat}{listed:Array Bool}
section
open Go
variable [Ora]
section
variable {P:Program} {base:Nat} {ρ:Ren} {m m':Mem} {w:World}
def tQ:∀ {ts:H1} {cs cs':D2},zJ ts cs=true->(∀ t ∈ ts,t<10)->LR ρ cs cs'->(cs.map (D6 Ora.env)).map G1=ts/\cs'=(cs.map (D6 Ora.env)).map S5
 | [],[],cs',_,_,hl=>by cases hl.nil_inv;exact⟨rfl,rfl⟩
 | t::ts,v::vs,cs',h,ht,hl=>by
   obtain⟨h1,f⟩:=B6 (show(Nat.beq (G5 v) t && zJ ts vs)=true from h);have h1:=A0 h1;obtain⟨v',r,rfl,g1,g2⟩:=hl.tail;obtain⟨a,b⟩:=tQ f (fun x hx=>ht x (C3 _ hx)) g2;obtain⟨c,d⟩:=u7 g1 (by rw[h1];exact ht t B3);have e:S5 (D6 Ora.env v)=v':=by unfold S5;rw[c];rfl
   exact⟨by rw[C4,C4,a,d,h1],by rw[C4,C4,e,<- b]⟩
 | [],_::_,_,h,_,_=>by cases h
 | _::_,[],_,h,_,_=>by cases h
def jB{a:Bool}{cs:D2}(h:nQ a ts v=some cs)(f:∀ t ∈ ts,t<10)(hv:VR ρ v v'):v'=X6 a (cs.map (D6 Ora.env))/\(cs.map (D6 Ora.env)).map G1=ts:=by
 unfold nQ at h;split at h
 .rename_i c;obtain⟨h1,h⟩:=A3 h;cases h;obtain⟨cs',rfl,g⟩:=V6 hv;obtain⟨b,e⟩:=tQ h1 f g;exact⟨by rw[e];rfl,b⟩
 .cases h
 .obtain⟨h1,h⟩:=A3 h;cases h;obtain⟨b,e⟩:=tQ h1 f (LR.cons hv LR.nil);refine⟨?_,b⟩
  have:=F1 List.head? e
  simpa [X6]using this
def xK{t:Nat}(h:fN P t=some k):k<10:=by
 unfold fN at h;split at h
 .cases h;decide
 .cases h;have:=L7 ‹_›;omega
 .cases h;decide
 .cases h
def KT:∀ {g:List Field} {i:Nat} {l:H1},uW P g i=some l->∀ t ∈ l,t<10
 | [],i,l,h,t,e=>by cases h;cases e
 | f::g,i,l,h,t,e=>by
   unfold uW at h;split at h
   .rename_i a b h1 j;obtain⟨_,h⟩:=A3 h;cases h;rcases B4.1 e with rfl|e
    .exact xK h1
    .exact KT j t e
   .cases h
def FG{T:TypeId}(h:UQ P T=some y):P.underlying T=some (.map y.kt y.vt)/\nZ P y.kt=some (y.ka,y.ks)/\PU P y.vt=some (y.va,y.vs)/\0<y.ks.length/\(∀ t ∈ y.ks,t<10)/\(∀ t ∈ y.vs,t<10)/\(y.va=false->y.vs.length=1):=by
 unfold UQ at h;split at h
 .rename_i kt vt hu;split at h
  .rename_i ka k ks va vs h1 a;cases h;refine⟨hu,h1,a,Nat.succ_pos _,?_,?_,?_⟩
   .intro t b;unfold nZ at h1;split at h1
    .cases hs:P.stoodInHeld kt with
     | true=>rw[hs]at h1;cases h1
     | false =>
       rw[hs]at h1;simp only[D7]at h1;split at h1
       .rename_i l g;cases h1;exact KT g t b
       .cases h1
    .split at h1
     .rename_i z f;cases h1;simp only[B4,K5,or_false]at b;subst b;exact xK f
     .cases h1
   .intro t b;unfold PU at a;split at a
    .obtain⟨h3,a⟩:=A3 a;cases a;exact A1 (D4.1 h3 t b)
    .obtain⟨h3,a⟩:=A3 a;cases a;simp only[B4,K5,or_false]at b;subst b;exact A1 h3
    .cases a
   .intro e;have e:va=false:=e;subst e;unfold PU at a;split at a
    .obtain⟨_,a⟩:=A3 a;cases a
    .obtain⟨_,a⟩:=A3 a;cases a;rfl
    .cases a
  .cases h
 .cases h
def QE{t:TypeId}{u v:U}(h:fN P t=some k)(h1:G1 u=k)(f:G1 v=k)(n:Nat)(w:World):(Op.equalIn (n+1) t (S5 u) (S5 v)).run P w=.ok (isU u v) w:=by
 have o:=xK h;unfold fN at h;split at h
 .rename_i hu;cases h;cases u<;>simp only[G1]at h1<;>first|omega|skip
  .have:=L7 ‹_›;omega
  .cases v<;>simp only[G1]at f<;>first|omega|skip
   .have:=L7 ‹_›;omega
   .simp[S5,toV,isU,eqU,Op.equalIn,A4,D1 hu,Result.andThen]
 .rename_i j hu;cases h;cases u with
  | int a x =>
    cases v with
    | int b z =>
      have g:=rE h1;have i:=rE f;subst g;subst i;simp[S5,toV,isU,eqU,Op.equalIn,A4,D1 hu,Result.andThen]
    | bool b=>simp only[G1]at f;have:=L7 j;omega
    | str s=>simp only[G1]at f;have:=L7 j;omega
    | seq _ _ _=>simp only[G1]at f;omega
    | none=>simp only[G1]at f;omega
  | bool b=>simp only[G1]at h1;have:=L7 j;omega
  | str s=>simp only[G1]at h1;have:=L7 j;omega
  | seq _ _ _=>simp only[G1]at h1;omega
  | none=>simp only[G1]at h1;omega
 .rename_i hu;cases h;cases u<;>simp only[G1]at h1<;>first|omega|skip
  .have:=L7 ‹_›;omega
  .cases v<;>simp only[G1]at f<;>first|omega|skip
   .have:=L7 ‹_›;omega
   .rename_i p q
    have:=run_equalIn_string (P:=P) w n t ⟨⟨p⟩⟩ ⟨⟨q⟩⟩ hu;have e:∀ s:List UInt8,S5 (.str s)=.string ⟨⟨s⟩⟩:=fun _=>rfl
    rw[e,e,this];simp[isU,eqU,ByteArray.toList_eq]
 .cases h
def WW{t:TypeId}{d:TypeDesc}{u v:U}(g:P.underlying t=some d)(h:fN P t=some k)(h1:G1 u=k)(f:G1 v=k):Instr.sameNow d (S5 u) (S5 v)=some (isU u v):=by
 unfold fN at h;split at h
 .rename_i hu;rw[hu]at g;cases g;cases h;cases u<;>simp only[G1]at h1<;>first|omega|skip
  .have:=L7 ‹_›;omega
  .cases v<;>simp only[G1]at f<;>first|omega|skip
   .have:=L7 ‹_›;omega
   .simp[S5,toV,isU,eqU,Instr.sameNow]
 .rename_i j hu;rw[hu]at g;cases g;cases h;cases u with
  | int a x =>
    cases v with
    | int b z =>
      have i:=rE h1;have n:=rE f;subst i;subst n;simp[S5,toV,isU,eqU,Instr.sameNow]
    | bool b=>simp only[G1]at f;have:=L7 j;omega
    | str s=>simp only[G1]at f;have:=L7 j;omega
    | seq _ _ _=>simp only[G1]at f;have:=L7 j;omega
    | none=>simp only[G1]at f;have:=L7 j;omega
  | bool b=>simp only[G1]at h1;have:=L7 j;omega
  | str s=>simp only[G1]at h1;have:=L7 j;omega
  | seq _ _ _=>simp only[G1]at h1;have:=L7 j;omega
  | none=>simp only[G1]at h1;have:=L7 j;omega
 .rename_i hu;rw[hu]at g;cases g;cases h;cases u<;>simp only[G1]at h1<;>first|omega|skip
  .have:=L7 ‹_›;omega
  .cases v<;>simp only[G1]at f<;>first|omega|skip
   .have:=L7 ‹_›;omega
   .rename_i p q;have e:(ByteArray.mk ⟨p⟩ == ByteArray.mk ⟨q⟩)=(p == q):=by
     show(Array.mk p == Array.mk q)=_;rw[K0,beq_iff_eq,beq_iff_eq];exact⟨fun h=>by injection h,fun h=>by rw[h]⟩
    simp[S5,toV,isU,eqU,Instr.sameNow,e]
 .cases h
def sU{t:TypeId}(h:fN P t=some k){X:D2}{i:Nat}(hx:X[i]? = some v)(w:World):(part t ⟨X⟩ i).run P w=.ok v w:=by
 have a:∀ d,P.underlying t=some d->(match d with|.struct _|.array _ _=>False|_=>True)->(part t ⟨X⟩ i).run P w=.ok v w:=fun d e b=>by
  cases d<;>simp only at b<;>simp[part,isAgg,A4,D1 e,Result.andThen,hx]
 unfold fN at h;split at h
 .exact a _ ‹_› trivial
 .exact a _ ‹_› trivial
 .exact a _ ‹_› trivial
 .cases h
def DG:∀ {o:List Field} {i:Nat} {ks:H1} {us vs:List U} {p q:D2},uW P o i=some ks->us.map G1=ks->vs.map G1=ks->p.length=i->q.length=i->∀ (n:Nat) (w:World),(Op.eqFields (n+1) ⟨p++us.map S5⟩ ⟨q++vs.map S5⟩ o).run P w=.ok (T8 us vs) w
 | [],i,ks,us,vs,p,q,h,h1,h2,hp,hq,n,w=>by
   cases h;have b:us=[]:=by simpa using h1
   have e:vs=[]:=by simpa using h2
   subst b;subst e;simp[Op.eqFields,T8]
 | f::o,i,ks,us,vs,p,q,h,h1,h2,hp,hq,n,w=>by
   unfold uW at h;split at h
   .rename_i t l g A;obtain⟨B,h⟩:=A3 h;cases h;obtain⟨j,a⟩:=B6 B;have a:=A0 a;have z:f.name ≠ "_":=by simpa using j
    cases us with
    | nil=>cases h1
    | cons u us =>
      cases vs with
      | nil=>cases h2
      | cons v vs =>
        simp only[C4,J5]at h1 h2;have g1:(p++(u::us).map S5)[f.offset]? = some (S5 u):=by rw[a,<- hp,E0 (A6 _)];simp
        have g2:(q++(v::vs).map S5)[f.offset]? = some (S5 v):=by rw[a,<- hq,E0 (A6 _)];simp
        have b:=sU g g1 w;have e:=sU g g2 w;have s:=QE g h1.1 h2.1 n w;have x:=DG (p:=p++[S5 u]) (q:=q++[S5 v]) A h1.2 h2.2 (by simp[hp]) (by simp[hq]) n w;rw[M8,M8]at x;unfold Op.eqFields;rw[A9 z];simp only[T8];cases hs:isU u v with
        | false =>
          simp only[A4,b,e,s,hs,Result.andThen_ok];simp
        | true =>
          simp only[A4,b,e,s,hs,Result.andThen_ok,gL];exact x
   .cases h
def A7q{a:Bool}(h:nZ P kt=some (a,ks))(h1:us.map G1=ks)(b:vs.map G1=ks)(w:World):(Op.equal kt (X6 a us) (X6 a vs)).run P w=.ok (T8 us vs) w:=by
 unfold nZ at h;split at h
 .rename_i i hu;cases hs:P.stoodInHeld kt with
  | true=>rw[hs]at h;cases h
  | false =>
    rw[hs]at h;simp only[D7]at h;split at h
    .rename_i l g;cases h;have e:P.fieldsOf kt=i:=by simp[Program.fieldsOf,hu]
     show(Op.equalIn (9999+1) kt (.agg _) (.agg _)).run P w=_;rw[run_equalIn_struct (P:=P) w 9999 kt _ _ (by rw[e];exact hu) hs,e];exact DG (p:=[]) (q:=[]) g h1 b rfl rfl 9998 w
    .cases h
 .split at h
  .rename_i k f;cases h;cases us with
   | nil=>cases h1
   | cons u us=>cases us with
     | cons _ _=>simp at h1
     | nil=>cases vs with
       | nil=>cases b
       | cons v vs=>cases vs with
         | cons _ _=>simp at b
         | nil =>
           simp only[C4,G0,J5,and_true]at h1 b
           have:=QE f h1 b 9999 w;show(Op.equalIn (9999+1) kt (S5 u) (S5 v)).run P w=_;rw[this];simp[T8]
  .cases h
def zT{t:TypeId}(h:fN P t=some k)(e:Bool)(n:Nat)(v:Value)(w:World):(Instr.checkKey e (n+1) t v).run P w=.ok () w:=by
 unfold fN at h;split at h
 .rename_i hu;simp[Instr.checkKey,A4,D1 hu,Result.andThen]
 .rename_i hu;simp[Instr.checkKey,A4,D1 hu,Result.andThen]
 .rename_i hu;simp[Instr.checkKey,A4,D1 hu,Result.andThen]
 .cases h
def sG(e:Bool)(n:Nat)(w:World):∀ (L:List Field) (i:Nat) (ks:List Nat) (us:List U) (p:List Value),uW P L i=some ks->us.map G1=ks->p.length=i ->
  (forIn L PUnit.unit fun f (_:PUnit)=>if f.name ≠ "_" then(do let x <- part f.type ⟨p++us.map S5⟩ f.offset;Instr.checkKey e (n+1) f.type x;pure (ForInStep.yield PUnit.unit):Sem (ForInStep PUnit))else pure (ForInStep.yield PUnit.unit)).run P w=.ok PUnit.unit w
 | [],i,ks,us,p,h,h1,hp=>by simp
 | f::fs,i,ks,us,p,h,h1,hp=>by
   unfold uW at h;split at h
   .rename_i t l g z;obtain⟨A,h⟩:=A3 h;cases h;obtain⟨b,a⟩:=B6 A;have a:=A0 a;have s:f.name ≠ "_":=by simpa using b
    cases us with
    | nil=>cases h1
    | cons u us =>
      simp only[C4,J5]at h1;have g1:(p++(u::us).map S5)[f.offset]? = some (S5 u):=by rw[a,<- hp,E0 (A6 _)];simp
      have o:=sU g g1 w;have q:=zT g e n (S5 u) w;have j:=sG e n w fs (i+1) l us (p++[S5 u]) z h1.2 (by simp[hp]);rw[M8]at j;rw[List.forIn_cons];simp only[A9 s,A4,o,q,Result.andThen_ok,Sem.run_pure];exact j
   .cases h
def DP{a:Bool}(h:nZ P kt=some (a,ks))(h1:us.map G1=ks)(e:Bool)(w:World):(Instr.checkKey e 10000 kt (X6 a us)).run P w=.ok () w:=by
 unfold nZ at h;split at h
 .rename_i g hu;cases hs:P.stoodInHeld kt with
  | true=>rw[hs]at h;cases h
  | false =>
    rw[hs]at h;simp only[D7]at h;split at h
    .rename_i l f;have h:=h;cases h;have key:∀ n:Nat,(Instr.checkKey e (n+2) kt (.agg ⟨us.map S5⟩)).run P w=.ok () w:=fun n=>by
      rw[Instr.checkKey];simp only[A4,D1 hu,Result.andThen_ok];rw[<- Array.forIn_toList]
      have:=sG e n w g.toList 0 _ us [] f h1 rfl;rw[G4]at this;rw[this];rfl
     exact key 9998
    .cases h
 .split at h
  .rename_i k b;cases h;exact zT b e 9999 _ w
  .cases h
def nV(k:List U):List (List U)->Nat->Option (Nat×List U)
 | [],_=>none
 | r::rs,i=>if T8 k r then some (i,r)else nV k rs (i+1)
def tC:∀ (us r:List U),T8 us (r.take us.length)=T8 us r
 | [],r=>rfl
 | a::us,[]=>rfl
 | a::us,b::r=>by
   show(isU a b && T8 us (r.take us.length))=(isU a b && T8 us r);rw[tC us r]
def vV.head{e:MapEntry}{es:List MapEntry}(h:vV y (r::rs) (e::es)):(r.map G1=y.ks++y.vs/\e.key=X6 y.ka (r.take y.ks.length)/\e.val=X6 y.va (r.drop y.ks.length))/\vV y rs es :=
 ⟨h.2 0 r e rfl rfl,by have:=h.1;simpa using this,fun i row a h1 b=>h.2 (i+1) row a (by simpa using h1) (by simpa using b)⟩
def BN(h:r.map G1=y.ks++y.vs):(r.take y.ks.length).map G1=y.ks/\(r.drop y.ks.length).map G1=y.vs:=by
 constructor
 .rw[List.map_take,h,cW];rfl
 .rw[List.map_drop,h,kA];rfl
abbrev BG(y:MTy)(us:List U)(rows:List (List U))(i:Nat):Option (Nat×Value):=(nV us rows i).map fun p=>(p.1,X6 y.va (p.2.drop y.ks.length))
def EC{y:MTy}(f:nZ P y.kt=some (y.ka,y.ks)){us:List U}(h1:us.map G1=y.ks):∀ {rows:List (List U)} {es:List MapEntry} (i:Nat),vV y rows es->(Instr.findAsking y.kt (X6 y.ka us) es i).run P w=.ok (BG y us rows i) w
 | [],[],i,_=>by simp[Instr.findAsking,BG,nV]
 | [],_::_,i,h=>by have:=h.1;simp at this
 | _::_,[],i,h=>by have:=h.1;simp at this
 | r::rs,e::es,i,h=>by
   obtain⟨⟨a,b,c⟩,d⟩:=h.head;obtain⟨t1,t2⟩:=BN a;have hlen:us.length=y.ks.length:=by rw[<- h1,E5]
   have g:=A7q (P:=P) f h1 t1 w;have j:T8 us (r.take y.ks.length)=T8 us r:=by rw[<- hlen];exact tC us r
   have n:=EC f h1 (i+1) d;unfold Instr.findAsking;rw[b];simp only[A4,g,j,Result.andThen_ok,BG,nV];cases o:T8 us r with
   | true=>simp[c]
   | false=>simp only[J6,if_false];exact n
def ZY{y:MTy}{k:Nat}{d:TypeDesc}(n:P.underlying y.kt=some d)(hs:fN P y.kt=some k)(j:y.ka=false)(f:y.ks=[k]){u:U}(h1:G1 u=k):∀ {rows:List (List U)} {es:List MapEntry} (i:Nat),vV y rows es->Instr.findNow d (S5 u) es i=some (BG y [u] rows i)
 | [],[],i,_=>rfl
 | [],_::_,i,h=>by have:=h.1;simp at this
 | _::_,[],i,h=>by have:=h.1;simp at this
 | r::rs,e::es,i,h=>by
   obtain⟨⟨a,b,c⟩,p⟩:=h.head;cases r with
   | nil=>rw[f]at a;simp at a
   | cons g r =>
     have a0:G1 g=k:=by rw[f]at a;simp at a;exact a.1
     have b:e.key=S5 g:=by rw[b,j,f];rfl
     have o:=WW n hs h1 a0;have q:=ZY n hs j f h1 (i+1) p;unfold Instr.findNow;rw[b,o];simp only[BG,nV,T8,oC];cases s:isU u g with
     | true=>simp[c]
     | false=>simp only[J6,if_false];exact q
def zE(a:nZ P y.kt=some (y.ka,y.ks))(h1:us.map G1=y.ks){es:List MapEntry}(h:vV y rows es):(Instr.findKey y.kt (X6 y.ka us) es).run P w=.ok (BG y us rows 0) w:=by
 have f:=a;unfold nZ at a;split at a
 .rename_i i hu;rw[run_findKey_eq w (by rw[hu]) (X6 y.ka us) es];exact EC f h1 0 h
 .split at a
  .rename_i k hs;have g:y.ka=false:=(F1 Prod.fst (A8 a)).symm;have b:y.ks=[k]:=(F1 Prod.snd (A8 a)).symm;rw[b]at h1;cases us with
   | nil=>simp at h1
   | cons u us=>cases us with
     | cons _ _=>simp at h1
     | nil =>
       simp only[C4,G0,J5,and_true]at h1;obtain⟨d,e⟩:∃ d,P.underlying y.kt=some d:=by
        cases e:P.underlying y.kt with
        | some d=>exact⟨d,rfl⟩
        | none=>unfold fN at hs;rw[e]at hs;cases hs
       rw[g];exact MapKept.run_findKey e (ZY e hs g b h1 0 h)
  .cases a
def KO{k:List U}:∀ (rows:List (List U)) (i:Nat),(nV k rows i).isSome=rows.any (T8 k)
 | [],_=>rfl
 | r::rs,i=>by
   simp only[nV,Q2];cases T8 k r with
   | true=>rfl
   | false=>simp only[J6,if_false,Q4];exact KO rs (i+1)
def CY{k:List U}:∀ (rows:List (List U)) (i:Nat),(nV k rows i).map (·.2)=rows.find? (T8 k)
 | [],_=>rfl
 | r::rs,i=>by
   simp only[nV,cX];cases T8 k r with
   | true=>rfl
   | false=>simp only[J6,if_false];exact CY rs (i+1)
def rN{k:List U}:∀ {rows:List (List U)} {i j:Nat} {r:List U},nV k rows i=some (j,r)->i<=j/\rows[j-i]? = some r/\T8 k r=true
 | [],_,_,_,h=>by cases h
 | x::rs,i,j,r,h=>by
   unfold nV at h;cases e:T8 k x with
   | true=>rw[e]at h;cases h;exact⟨A6 _,by simp,e⟩
   | false =>
     rw[e]at h;obtain⟨a,b,c⟩:=rN (rows:=rs) h;exact⟨A2,by rw[show j-i=(j-(i+1))+1 by omega];exact b,c⟩
def JD{kw:Nat}{c:List U}:∀ (rows:List (List U)) (i:Nat),JE kw c rows=match nV (c.take kw) rows i with
  | some p=>rows.set (p.1-i) c
  | none=>rows++[c]
 | [],_=>rfl
 | r::rs,i=>by
   unfold JE nV;cases b:T8 (c.take kw) r with
   | true=>simp
   | false =>
     simp only[J6,if_false];rw[JD rs (i+1)];cases hx:nV (c.take kw) rs (i+1)with
     | none=>rfl
     | some p =>
       obtain⟨a,_⟩:=rN (r:=p.2) (j:=p.1) hx;show r::rs.set (p.1-(i+1)) c=(r::rs).set (p.1-i) c;rw[show p.1-i=(p.1-(i+1))+1 by omega];rfl
def FT{b:Nat}(h:VR ρ (.map (some b)) v'):∃ l,ρ b=some l/\v'=.map (some l.blk):=by
 cases h with
 | pure hp=>simp[I4]at hp
 | map h=>exact⟨_,h,rfl⟩
def A3N{T:TypeId}(h:HR P base ρ m.H w)(p:base<=w.heap.size)(a:A0J P m T=some (v,m'))(o:K1 ρ m.n m'.hi)(u:Sat m'.lg):VOk P base ρ m w (Instr.makeMap T none) v m':=by
 unfold A0J at a;split at a
 .rename_i y j;rw[N9]at a;have f:=w9 a;have x:=jV (lg:=m'.lg) u (by rw[f];exact .refl _);obtain⟨q,z,t,wd,rows,A⟩:=x;have g:Ora.env m.lg.nx=.seq false y.w []:=by
   have hw:0<y.w:=by have:=(FG j).2.2.2.1;unfold MTy.w;omega
   rw[q];show(if y.w=0 then U.none else match d9 y.w (0 / y.w) []with
    | some r=>U.seq false y.w r
    | none=>.none)=_
   rw[A7 A2,Nat.zero_div];rfl
  have b:=St.wLg h (fF m (10+y.w) (.mk y.w) []);obtain⟨h1,s,h3⟩:=St.alloc (w':={ w with heap:=w.heap.push (.map #[] 0) }) (l:=lc w.heap.size 0 0) b.hr p a (by rw[VV];exact o) ⟨rfl,rfl,rfl⟩ rfl rfl
   ⟨⟨rfl,rfl⟩,y,#[],0,[],j,rfl,by simp,g,rfl,fun i row e hr=>by simp at hr⟩
  refine⟨.map (some w.heap.size),_,_,?_,?_,St.trans o b h3⟩
  .simp[Instr.makeMap,newObj,Sem.run,A4,Result.andThen]
  .rw[h1];exact .map s
 .cases a
def hO{t:Nat}{op:LOp}(h:U1 m t op xs=some (v,m'))(g:Sat m'.lg):t<10/\G1 (evU op (xs.map (D6 Ora.env)))=t/\VR ρ v (S5 (evU op (xs.map (D6 Ora.env)))):=by
 obtain⟨u,a,b,r,e,f,i⟩:=M4 h g;subst a;refine⟨i,b,?_⟩;have:S5 (evU op (xs.map (D6 Ora.env)))=r:=by unfold S5;rw[e];rfl
 rw[this];exact f ρ
def DB{wd kw c t:Nat}{b:D2}{p:Bool}{rows:List (List U)}(u:Ora.env c=.seq p wd rows)(s:b.length=kw):∀ {ts:H1} {f:D2} {j:Nat} {m m':Mem} {hs:D2},tL wd kw c t b ts f j m=some (hs,m')->Sat m'.lg ->
  J9 m m'/\m.lg.le m'.lg/\hs.length=ts.length/\f.length=ts.length /\
  (∀ r,rows.find? (T8 (b.map (D6 Ora.env)))=some r->∀ i:Nat,i<ts.length->∃ v,hs[i]? = some v/\VR ρ v (S5 (r.getD (j+i) .none))) /\
  (rows.find? (T8 (b.map (D6 Ora.env)))=none->∀ i:Nat,i<ts.length->∃ v z,hs[i]? = some v/\f[i]? = some z/\VR ρ v (S5 (D6 Ora.env z)))
 | [],[],j,m,m',hs,h,hS=>by
   cases h;exact⟨.refl _,.refl _,rfl,rfl,fun r _ i hi=>(by simp at hi),fun _ i hi=>(by simp at hi)⟩
 | [],_::_,j,m,m',hs,h,hS=>by cases h
 | _::_,[],j,m,m',hs,h,hS=>by cases h
 | tg::ts,z::f,j,m,m',hs,h,hS=>by
   unfold tL at h;split at h
   .rename_i v m1 hv;split at h
    .rename_i r m2 hr;cases h;obtain⟨C,a2,a3,a4,a5,E⟩:=DB u s hr hS;have o:Sat m1.lg:=hS.le a2;obtain⟨_,_,a⟩:=hO (ρ:=ρ) hv o;have q:evU (.mget wd kw j) ((hole c t::z::b).map (D6 Ora.env))=(match rows.find? (T8 (b.map (D6 Ora.env)))with
       | some r=>r.getD j .none
       | none=>D6 Ora.env z):=by
      show evU (.mget wd kw j) (Ora.env c::D6 Ora.env z::b.map (D6 Ora.env))=_;rw[u];show(if wd=wd/\(b.map (D6 Ora.env)).length=kw then _ else U.none)=_;rw[A9 ⟨rfl,by rw[E5];exact s⟩];cases rows.find? (T8 (b.map (D6 Ora.env)))<;>rfl
     rw[q]at a;refine⟨(H4 hv).trans C,(H7 hv).trans a2,by simp[a3],by simp[a4],fun D e i hi=>?_,fun e i hi=>?_⟩
     .cases i with
      | zero=>rw[e]at a;exact⟨v,rfl,a⟩
      | succ i =>
        obtain⟨x,g,n⟩:=a5 D e i (by simpa using hi);exact⟨x,by simpa using g,by rw[show j+(i+1)=j+1+i by omega];exact n⟩
     .cases i with
      | zero=>rw[e]at a;exact⟨v,z,rfl,rfl,a⟩
      | succ i =>
        obtain⟨x,A,g,n,B⟩:=E e i (by simpa using hi);exact⟨x,A,by simpa using g,by simpa using n,B⟩
    .cases h
   .cases h
def A6t{vs:D2}(j:hs.length=vs.length)(h:∀ i:Nat,i<vs.length->∃ v v',hs[i]? = some v/\vs[i]? = some v'/\VR ρ v v'):LR ρ hs vs:=⟨j,fun i v v' h1 g=>by
 obtain⟨a,b,e,f,n⟩:=h i (B0.1 g).1;rw[h1]at e;rw[g]at f;cases e;cases f;exact n⟩
def A2F{a:Bool}(h:A2G a hs=some v)(b:LR ρ hs (us.map S5)):VR ρ v (X6 a us):=by
 unfold A2G at h;split at h
 .cases h;exact .agg b.1 b.2
 .cases h;cases us with
  | nil=>have:=b.1;simp at this
  | cons u us =>
    obtain⟨v',r,e,g,_⟩:=b.tail;rw[C4,J5]at e;rw[<- e.1]at g;exact g
 .cases h
def US{T:TypeId}{x k:Value}{ok:Bool}(h:HR P base ρ m.H w)(o:yK P m T x k ok=some (v,m'))(hx:VR ρ x x')(hk:VR ρ k k')(M:Sat m'.lg):VOk P base ρ m w (Instr.lookup T x' k' ok) v m':=by
 unfold yK at o;split at o
 .rename_i r y hy;obtain⟨hu,B,au,ar,L,V,ao⟩:=FG hy;obtain⟨l,hl,rfl⟩:=FT hx;split at o
  .rename_i c t T2 f z hg W hz;obtain⟨R,a⟩:=A3 o;clear o;have R:=A0 R;subst R;split at a
   .rename_i zc az;split at a
    .rename_i hs m1 O;split at a
     .rename_i v1 hv;obtain⟨⟨⟨av,aq⟩,y2,es,clock,rows,g1,g2,g3,g4,g5⟩,_⟩:=h.atl hl hg;rw[hy]at g1;have g1:=A8 g1;subst g1;obtain⟨k1,Y⟩:=jB W L hk;have X:VR ρ z z:=.ofC (wS hz).choose_spec.2.2;obtain⟨z1,z2⟩:=jB az V X;have D:f.length=y.ks.length:=by rw[<- Y];simp
      have Z:Sat m1.lg:=by
       cases ok with
       | false=>cases a;exact M
       | true =>
         simp only[E3]at a;split at a
         .rename_i J;cases a;exact M.le (H7 J)
         .cases a
      obtain⟨a1,a2,a3,a4,a5,a6⟩:=DB (ρ:=ρ) g4 D O Z;have G:=zE (P:=P) (w:=w) B Y g5;have A:=DP (P:=P) B Y es.isEmpty w;have j:=CY (k:=f.map (D6 Ora.env)) rows 0;have E:∀ {us:List U},LR ρ hs (us.map S5)->VR ρ v1 (X6 y.va us):=fun g=>A2F hv g
      have s:∃ val,VR ρ v1 val/\(Instr.lookup T2 (.map (some l.blk)) k' ok).run P w=.ok (if ok then .tuple #[val,.bool (rows.any (T8 (f.map (D6 Ora.env))))]else val) w:=by
       have C:(getObj l.blk).run P w=.ok (.map es clock) w:=by simp[getObj,Sem.run,g3]
       have e:=KO (k:=f.map (D6 Ora.env)) rows 0;cases u:nV (f.map (D6 Ora.env)) rows 0 with
       | none =>
         rw[u]at j e;have g:LR ρ hs ((zc.map (D6 Ora.env)).map S5):=A6t (by rw[a3,E5,E5,a4]) fun i hi=>by
          have ay:i<y.vs.length:=by rw[E5,E5,a4]at hi;exact hi
          obtain⟨x1,z',Q,S,e3⟩:=a6 j.symm i ay;exact⟨x1,_,Q,by rw[G2,G2,S];rfl,e3⟩
         refine⟨z,by rw[z1];exact E g,?_⟩;have e:rows.any (T8 (f.map (D6 Ora.env)))=false:=e.symm;rw[k1];simp only[Instr.lookup,A4,D1 hu,Result.andThen_ok,C,A,G,BG,u,Option.map_none,v7 hz,Sem.run_pure,e]
       | some p =>
         obtain⟨pi,q⟩:=p;rw[u]at j e;obtain⟨_,K,q2⟩:=rN u;have K:rows[pi]? = some q:=by simpa using K
         have ax:pi<es.toList.length:=by rw[<- g5.1];exact(B0.1 K).1
         obtain⟨t1,t2,t3⟩:=g5.2 pi q es.toList[pi] K (A5 ax);have aw:q.length=y.ks.length+y.vs.length:=by
          have:=F1 List.length t1
          simpa using this
         have g:LR ρ hs ((q.drop y.ks.length).map S5):=A6t (by rw[a3,E5,E9];omega) fun i hi=>by
          rw[E5,E9]at hi;obtain⟨x1,Q,S⟩:=a5 q j.symm i A2;refine⟨x1,_,Q,?_,S⟩;rw[G2,H8,A5 A2,L3,B1,A5 A2];rfl
         refine⟨X6 y.va (q.drop y.ks.length),E g,?_⟩;have e:rows.any (T8 (f.map (D6 Ora.env)))=true:=e.symm;rw[k1];simp only[Instr.lookup,A4,D1 hu,Result.andThen_ok,C,A,G,BG,u,L3,Sem.run_pure,e]
      obtain⟨val,I,n⟩:=s;cases ok with
      | false =>
        cases a;obtain⟨lg,rfl⟩:=a1;exact⟨val,ρ,w,n,I,St.wLg h lg⟩
      | true =>
        simp only[E3]at a;split at a
        .rename_i b m2 J;cases a;obtain⟨_,_,F⟩:=hO (ρ:=ρ) J M;have N:evU (.mhas y.w y.ks.length) ((hole c t::f).map (D6 Ora.env))=.bool (rows.any (T8 (f.map (D6 Ora.env)))):=by
          show evU (.mhas y.w y.ks.length) (Ora.env c::f.map (D6 Ora.env))=_;rw[g4];show(if y.w=y.w/\(f.map (D6 Ora.env)).length=y.ks.length then _ else U.none)=_;rw[A9 ⟨rfl,by rw[E5];exact D⟩]
         rw[N]at F;obtain⟨lg,rfl⟩:=a1.trans (H4 J);refine⟨.tuple #[val,.bool (rows.any (T8 (f.map (D6 Ora.env))))],ρ,w,n,?_,St.wLg h lg⟩
         have:=LR.cons I (LR.cons F LR.nil);exact .tuple this.1 this.2
        .cases a
     .cases a
    .cases a
   .cases a
  .cases o
 .cases o
def WT{i:Nat}{c:List U}(h:vV y rows es.toList)(b:c.map G1=y.ks++y.vs)(h1:e'.key=X6 y.ka (c.take y.ks.length))(f:e'.val=X6 y.va (c.drop y.ks.length))(a:es'.toList=es.toList.set i e'):vV y (rows.set i c) es'.toList:=by
 rw[a];refine⟨by rw[R2,R2];exact h.1,fun j row e hr he=>?_⟩;rw[List.getElem?_set]at hr he;by_cases q:i=j
 .subst q;rw[A9 rfl]at hr he;split at hr
  .cases hr;split at he
   .cases he;exact⟨b,h1,f⟩
   .cases he
  .cases hr
 .rw[A7 q]at hr he;exact h.2 j row e hr he
def UK{c:List U}(h:vV y rows es.toList)(f:c.map G1=y.ks++y.vs)(h1:e'.key=X6 y.ka (c.take y.ks.length))(g:e'.val=X6 y.va (c.drop y.ks.length)):vV y (rows++[c]) (es.push e').toList:=by
 rw[Array.toList_push];refine⟨by rw[B8,B8,h.1];rfl,fun j row e hr he=>?_⟩;rw[List.getElem?_append]at hr he;rw[h.1]at hr;split at he
 .rename_i a;rw[A9 a]at hr;exact h.2 j row e hr he
 .rename_i a;rw[A7 a]at hr;cases b:j-es.toList.length with
  | zero =>
    rw[b]at hr he;cases hr;cases he;exact⟨f,h1,g⟩
  | succ n=>rw[b]at hr;cases hr
def MX{u v:U}(h1:G1 u<10)(h:isU u v=true):u=v:=by
 unfold isU at h;cases u with
 | int k a =>
   cases v with
   | int j b =>
     simp only[eqU]at h;by_cases e:k=j
     .subst e;rw[A9 rfl]at h;have h:(a == b)=true:=h;rw[eq_of_beq h]
     .rw[A7 e]at h;cases h
   | _=>simp[eqU]at h
 | bool a =>
   cases v with
   | bool b =>
     have h:(a == b)=true:=h;rw[eq_of_beq h]
   | _=>simp[eqU]at h
 | str a =>
   cases v with
   | str b =>
     have h:(a == b)=true:=h;rw[eq_of_beq h]
   | _=>simp[eqU]at h
 | seq _ _ _=>simp only[G1]at h1;omega
 | none=>simp only[G1]at h1;omega
def xE:∀ {us vs:List U},us.map G1=vs.map G1->(∀ t ∈ us.map G1,t<10)->T8 us vs=true->us=vs
 | [],[],_,_,_=>rfl
 | [],_::_,h,_,_=>by cases h
 | _::_,[],h,_,_=>by cases h
 | u::us,v::vs,h,ht,hk=>by
   obtain⟨a,b⟩:=B6 (show(isU u v && T8 us vs)=true from hk);simp only[C4,J5]at h;rw[MX (ht _ B3) a,xE h.2 (fun t q=>ht t (C3 _ q)) b]
def DU{u:U}(h:G1 u<10)(n:Nat):Instr.sameBits n (S5 u) (S5 u)=true:=by
 cases u with
 | int k a=>cases n<;>simp[S5,toV,Instr.sameBits]
 | bool b=>cases n<;>simp[S5,toV,Instr.sameBits]
 | str s=>cases n<;>(simp only[S5,toV,bN,Instr.sameBits];show(Array.mk s == Array.mk s)=true;simp)
 | seq _ _ _=>simp only[G1]at h;omega
 | none=>simp only[G1]at h;omega
def VK{a:Bool}(h:∀ t ∈ us.map G1,t<10)(b:a=false->us≠[])(n:Nat):Instr.sameBits (n+1) (X6 a us) (X6 a us)=true:=by
 cases a with
 | true =>
   simp only[X6,Instr.sameBits,G6,beq_self_eq_true,true_and,D4];intro p hp;obtain⟨i,hi,he⟩:=List.mem_iff_getElem.1 hp;simp only[List.getElem_zip,List.getElem_map]at he;subst he;exact DU (h _ (I1.2 ⟨_,N6 _,rfl⟩)) n
 | false =>
   cases us with
   | nil=>exact absurd rfl (b rfl)
   | cons u us=>exact DU (h _ B3) _
def JB{T:TypeId}{x k e e':Value}(h:HR P base ρ m.H w)(hb:base<=w.heap.size)(I:CG P m T x k e=some (v,m'))(hf:K1 ρ m.n m'.hi)(hx:VR ρ x x')(hk:VR ρ k k')(he:VR ρ e e')(hS:Sat m'.lg):v=undef/\UOk P base ρ m w (Instr.mapUpdate T x' k' e') m':=by
 unfold CG at I;split at I
 .rename_i r y hy;obtain⟨hu,Z,af,ad,E,ao,aa⟩:=FG hy;obtain⟨l,hl,rfl⟩:=FT hx;split at I
  .rename_i c t W i s hg an ag;obtain⟨hT,u⟩:=A3 I;clear I;have hT:=A0 hT;subst hT;rw[N9]at u;unfold OA at u;split at u
   .rename_i m2 X8;cases u;have aj:=dL X8;obtain⟨e1,e2,ae,wd,aq,e3⟩:=jV (lg:=m'.lg) hS (by rw[aj];exact .refl _);obtain⟨⟨⟨O,ak⟩,y2,es,clock,rows,g1,g2,g3,g4,g5⟩,_⟩:=h.atl hl hg;rw[hy]at g1;have g1:=A8 g1;subst g1;obtain⟨D,C⟩:=jB an E hk;obtain⟨v1,v2⟩:=jB ag ao he;have A:i.length=y.ks.length:=by rw[<- C];simp
    have ar:s.length=y.vs.length:=by rw[<- v2];simp
    have al:((i++s).map (D6 Ora.env)).length=y.w:=by rw[E5,B8,A,ar];rfl
    have ax:((i++s).map (D6 Ora.env)).map G1=y.ks++y.vs:=by rw[N0,N0,C,v2]
    have z:((i++s).map (D6 Ora.env)).take y.ks.length=i.map (D6 Ora.env):=by rw[N0,cW (by rw[E5];exact A)]
    have B:((i++s).map (D6 Ora.env)).drop y.ks.length=s.map (D6 Ora.env):=by rw[N0,kA (by rw[E5];exact A)]
    have g:Ora.env m.lg.nx=.seq false y.w (JE y.ks.length ((i++s).map (D6 Ora.env)) rows):=by
     rw[e1];show evU (.mput y.w y.ks.length) (Ora.env c::(i++s).map (D6 Ora.env))=_;rw[g4];show(if y.w=y.w/\((i++s).map (D6 Ora.env)).length=y.w then _ else U.none)=_;rw[A9 ⟨rfl,al⟩]
    rw[JD _ 0,z]at g;have az:(getObj l.blk).run P w=.ok (.map es clock) w:=by simp[getObj,Sem.run,g3]
    have av:=zE (P:=P) (w:=w) Z C g5;have S:=DP (P:=P) Z C false w;have aw:=St.wLg h (fF m t (.mput y.w y.ks.length) (hole c t::(i++s)));have ah:Hp.get (m.wLg (fF m t (.mput y.w y.ks.length) (hole c t::(i++s)))).H r=some (.mp c t W):=by rw[kM];exact hg
    have o:l.blk<w.heap.size:=(C9.1 g3).1;refine⟨rfl,?_⟩;have Y:∀ (f:Array MapEntry) (a:Nat),(setObj l.blk (.map f a)).run P w=.ok () { w with heap:=w.heap.set l.blk (.map f a) o }:=fun f a=>by
     have M:w.heap[l.blk]=.map es clock:=by
      have q:=g3;rw[F3 o]at q;exact A8 q
     simp[setObj,Sem.run,M,Array.setIfInBounds,o]
    have fin:∀ (f:Array MapEntry) (a:Nat) (b:List (List U)),Ora.env m.lg.nx=.seq false y.w b->vV y b f.toList->(Instr.mapUpdate W (.map (some l.blk)) k' e').run P w=.ok () { w with heap:=w.heap.set l.blk (.map f a) o }->UOk P base ρ m w (Instr.mapUpdate W (.map (some l.blk)) k' e') m':=fun f a b L q2 q3=>by
     refine⟨ρ,_,q3,St.trans hf aw (St.write (ab:=.mp c t W) (ab':=.mp m.lg.nx t W) aw.hr X8 ah rfl hl O ⟨rfl,rfl,rfl⟩ (by simp) (fun j R=>?_) ?_)⟩
     .show(w.heap.set l.blk _ o)[j]? = _;rw[n8,A7 (fun e=>R e.symm)]
     .refine⟨⟨O,ak⟩,y,f,a,b,hy,g2,?_,L,q2⟩;show(w.heap.set l.blk _ o)[l.blk]? = _;rw[n8,A9 rfl]
    cases Q:nV (i.map (D6 Ora.env)) rows 0 with
    | none =>
      rw[Q]at g;refine fin (es.push ⟨k',e',clock⟩) (clock+1) _ g (UK g5 ax (by rw[z];exact D) (by rw[B];exact v1)) ?_;rw[D];simp only[Instr.mapUpdate,A4,D1 hu,Result.andThen_ok,az,S,av,BG,Q,Option.map_none,Y]
    | some p =>
      obtain⟨pi,K⟩:=p;rw[Q]at g;have g:Ora.env m.lg.nx=.seq false y.w (rows.set pi ((i++s).map (D6 Ora.env))):=g;obtain⟨_,L,q2⟩:=rN Q;have L:rows[pi]? = some K:=by simpa using L
      have J:pi<es.toList.length:=by rw[<- g5.1];exact(B0.1 L).1
      obtain⟨t1,t2,t3⟩:=g5.2 pi K es.toList[pi] L (A5 J);obtain⟨ai,_⟩:=BN t1;have G:i.map (D6 Ora.env)=K.take y.ks.length:=by
       refine xE (by rw[C,ai]) (by rw[C];exact E) ?_
       have:=tC (i.map (D6 Ora.env)) K;rw[E5,A]at this;rw[this];exact q2
      have ay:pi<es.size:=by simpa using J
      refine fin (es.modify pi fun e2=>{ e2 with key:=k',val:=e' }) clock _ g (WT (e':=⟨k',e',(es[pi]).born⟩) g5 ax (by rw[z];exact D) (by rw[B];exact v1) ?_) ?_
      .apply gD;intro j;rw[Y3,H3,List.getElem?_set];by_cases R:pi=j
       .subst R;rw[A9 rfl,A9 rfl,A9 J,F3 ay];rfl
       .rw[A7 R,A7 R];simp
      .have X:((es[pi]?).map (·.key)).getD k'=k':=by
        rw[F3 ay];show es[pi].key=k';have t2:es[pi].key=X6 y.ka (K.take y.ks.length):=t2;rw[t2,<- G,D]
       have F:Instr.sameBits 10000 k' k'=true:=by
        rw[D];exact VK (by rw[C];exact E) (fun _ q=>by have:=F1 List.length C;rw[q]at this;simp at this;omega) 9999
       have N:(Instr.keyThatStays k' k').run P w=.ok k' w:=by
        simp only[Instr.keyThatStays,F,if_true,Sem.run_pure]
       have au:(Instr.findKey y.kt k' es.toList).run P w=.ok (some (pi,X6 y.va (K.drop y.ks.length))) w:=by
        rw[D,av];simp[BG,Q]
       have V:(Instr.checkKey false 10000 y.kt k').run P w=.ok () w:=by rw[D];exact S
       simp only[Instr.mapUpdate,A4,D1 hu,Result.andThen_ok,az,V,au,X,N,Y]
   .cases u
  .cases I
 .cases I
def A0T{T:TypeId}{x:Value}(h:HR P base ρ m.H w)(a:KB P m T x=some (v,m'))(hx:VR ρ x x')(n:Sat m'.lg):VOk P base ρ m w (Builtin.len_ ⟨T::tys⟩ ty #[x']) v m':=by
 unfold KB at a;split at a
 .rename_i kt q r hu;obtain⟨l,o,rfl⟩:=FT hx;split at a
  .rename_i c t s f;obtain⟨⟨⟨j,i⟩,p,es,clock,rows,g1,g2,g3,g4,g5⟩,_⟩:=h.atl o f;obtain⟨g,⟨lg,rfl⟩,_,_⟩:=lO (ρ:=ρ) a g4 n;have b:(getObj l.blk).run P w=.ok (.map es clock) w:=by simp[getObj,Sem.run,g3]
   refine⟨_,ρ,w,?_,g,St.wLg h lg⟩
   have:=g5.1;have e:es.size=rows.length:=by rw[this];simp
   simp[Builtin.len_,A4,D1 hu,Result.andThen,goInt,b,e]
  .cases a
 .cases a
def A3O{T:TypeId}(a:A0J P m T=some (v,m')):m.lg.le m'.lg:=by
 unfold A0J at a;split at a
 .rw[N9]at a;rw[w9 a];exact V7
 .cases a
def tK{wd kw c t:Nat}{b:D2}:∀ {ts:H1} {a:D2} {j:Nat} {m m':Mem} {hs:D2},tL wd kw c t b ts a j m=some (hs,m')->m.lg.le m'.lg
 | [],[],j,m,m',hs,h=>by cases h;exact .refl _
 | [],_::_,j,m,m',hs,h=>by cases h
 | _::_,[],j,m,m',hs,h=>by cases h
 | tg::ts,z::a,j,m,m',hs,h=>by
   unfold tL at h;split at h
   .rename_i hv;split at h
    .rename_i hr;cases h;exact(H7 hv).trans (tK hr)
    .cases h
   .cases h
def UT{T:TypeId}{x k:Value}{ok:Bool}(a:yK P m T x k ok=some (v,m')):m.lg.le m'.lg:=by
 unfold yK at a;split at a
 .split at a
  .obtain⟨_,a⟩:=A3 a;split at a
   .split at a
    .rename_i b;split at a
     .cases ok with
      | false=>cases a;exact tK b
      | true =>
        simp only[E3]at a;split at a
        .rename_i e;cases a;exact(tK b).trans (H7 e)
        .cases a
     .cases a
    .cases a
   .cases a
  .cases a
 .cases a
def JC{T:TypeId}{x k e:Value}(a:CG P m T x k e=some (v,m')):m.lg.le m'.lg:=by
 unfold CG at a;split at a
 .split at a
  .obtain⟨_,a⟩:=A3 a;rw[N9]at a;unfold OA at a;split at a
   .rename_i X8;cases a;rw[dL X8];exact V7
   .cases a
  .cases a
 .cases a
def A0U{T:TypeId}{x:Value}(a:KB P m T x=some (v,m')):m.lg.le m'.lg:=by
 unfold KB at a;split at a
 .split at a
  .exact(bJ a).2
  .cases a
 .cases a
end
end
section
open Go
variable [Ora]
section
variable {P:Program} {base:Nat} {ρ:Ren} {m m':Mem} {w:World}
omit [Ora] in
def LV{G:Nat->Option Obj}:∀ {us:List U} {s:List UInt8} {vs:D2},tV us=some s->Z0 G us vs->∃ e:List Int,vs=e.map (Value.int .u8)/\s=e.map fun n=>UInt8.ofNat n.toNat
 | [],s,vs,h,he=>by
   cases h;have:vs=[]:=F8.1 he.1.symm;subst this;exact⟨[],rfl,rfl⟩
 | u::us,s,vs,h,he=>by
   unfold tV at h;split at h
   .rename_i heq;cases heq
   .rename_i n r heq;cases heq;split at h
    .split at h
     .rename_i l o;cases h;cases vs with
      | nil=>have:=he.1;simp at this
      | cons v vr =>
        obtain⟨e,f,j⟩:=LV (vs:=vr) o ⟨by have:=he.1;simpa using this,fun i a b h1 g=>he.2 (i+1) a b (by simpa using h1) (by simpa using g)⟩
        have:=fT (he.2 0 _ v rfl rfl) rfl;subst this;exact⟨(Int.ofNat n)::e,by rw[f];rfl,by rw[j];rfl⟩
     .cases h
    .cases h
   .cases h
def IJ{t:TypeId}{n:Nat}(h:G9 P t=some n):∃ inf,P.info? t=some inf/\inf.size=n:=by
 unfold G9 at h;cases hi:P.info? t with
 | none=>rw[hi]at h;cases h
 | some inf=>rw[hi]at h;exact⟨inf,rfl,A8 h⟩
def IM(d:Nat)(t:TypeId):sameLayout P (d+1) t t=true:=by simp[sameLayout]
def A1h:∃ d,P.depth=d+1:=⟨2*(P.types.size+Made.depth)+1,rfl⟩
def OE{T:TypeId}{n off:Nat}(hs:P.cellsOf T≠0)(hr:off%P.cellsOf T=0)(b:off / P.cellsOf T+1<=n):liesAt P P.depth T n off T 1=true:=by
 obtain⟨d,a⟩:=A1h (P:=P);have h1:rowAt P (sameLayout P P.depth · T) P.depth T n off 1=true:=by
  rw[a];unfold rowAt;simp only[hs,if_false,hr,IM];simp[b]
 rw[a]at h1 ⊢;unfold liesAt;rw[a,h1];rfl
def A1o{s t:TypeId}{x:Value}(h:HR P base ρ m.H w)(g:SZ P m s t x=some (v,m'))(hx:VR ρ x x'):VOk P base ρ m w (convert s t x') v m':=by
 unfold SZ at g;split at g
 .rename_i e b o hs J;obtain⟨l,E,_,rfl⟩:=O9 hx;split at g
  .rename_i k cs T ro B D;obtain⟨z,g⟩:=A3 g;have z:o<cs.length:=A1 z;cases g;obtain⟨inf,a,M⟩:=IJ B;obtain⟨⟨p,C,fz,i,h1,N,_⟩,_⟩:=h.atl E D;obtain⟨v',h3,_⟩:=N o cs[o] (A5 z);have G:l.sh+o<C.size:=(C9.1 h3).1;exact VOk.same h (Lib.run_to_unsafe w ⟨l.blk,o+l.sh,none⟩ hs J a A2 (show w.shape? l.blk=some (i,C.size) by simp[World.shape?,h1]) (by show o+l.sh<C.size;omega)) hx
  .cases g
 .rename_i u b hs J;obtain⟨l,E,_,rfl⟩:=O9 hx;split at g
  .rename_i k cs T B D;obtain⟨K,f⟩:=A3 g;clear g;obtain⟨q,L⟩:=B6 K;have q:=A0 q;have L:=A0 L;clear K;subst q;cases f;obtain⟨inf,a,M⟩:=IJ B;obtain⟨⟨p,C,fz,i,h1,N,h3⟩,_⟩:=h.atl E D;obtain⟨rfl,_,S⟩:=h3 rfl;obtain⟨_,I⟩:=S inf a;have F:P.cellsOf i=k+1:=by unfold Program.cellsOf;rw[a];exact M
   have A:k<cs.length:=A2;obtain⟨v',Q,_⟩:=N k cs[k] (A5 A);have G:l.sh+k<C.size:=(C9.1 Q).1;refine VOk.same h (Lib.run_from_unsafe w ⟨l.blk,0+l.sh,none⟩ hs J a (show w.shape? l.blk=some (i,C.size) by simp[World.shape?,h1]) ?_) hx;show liesAt P P.depth i (C.size / P.cellsOf i) (0+l.sh) i 1=true;rw[F4];refine OE A2 (by rw[F];rw[M]at I;exact I) ?_;rw[F];have I:l.sh%(k+1)=0:=by rw[M]at I;exact I
   have V:l.sh=(k+1)*(l.sh / (k+1)):=by have:=Nat.div_add_mod l.sh (k+1);omega
   refine(Nat.le_div_iff_mul_le A2).2 ?_;rw[H5,fZ,aV];omega
  .cases g
 .rename_i W e b o n c hs J;obtain⟨K,f⟩:=A3 g;clear g;obtain⟨q,L⟩:=B6 K;have q:=A0 q;clear K;subst q;split at f
  .rename_i cs T hu D;split at f
   .rename_i m1 X8;cases f;obtain⟨l,mm,E,rfl⟩:∃ l mm,ρ b=some l/\x'=.slice (some ⟨l.blk,o+l.sh,none⟩) n mm:=by
     cases hx with
     | pure hp=>simp[I4]at hp
     | sl h1 _=>exact⟨_,_,h1,rfl⟩
     | op h1 _ _ _=>exact⟨_,_,h1,rfl⟩
     | opE _=>simp at L
    obtain⟨⟨p,C,fz,i,z2,z3,z4⟩,_⟩:=h.atl E D;have O:w.shape? l.blk=some (i,C.size):=by simp[World.shape?,z2]
    refine⟨_,ρ,w.freeze ⟨l.blk,C.size,none⟩ 1,?_,hx,St.write h X8 D rfl E p ?_ ?_ ?_ ?_⟩
    .simp[convert,run_underlying J,run_underlying hu,markStringish,O]
    .simp[World.freeze]
    .simp[World.freeze]
    .intro j R;simp only[World.freeze,Nat.one_ne_zero,if_false,H3];rw[A7 (fun e=>R e.symm)]
    .refine⟨p,C,(if fz.1 == fz.2 then(C.size,C.size+1)else(min fz.1 C.size,max fz.2 (C.size+1))),i,?_,z3,fun F=>⟨(z4 F).1,(z4 F).2.1.mark,(z4 F).2.2⟩⟩;simp only[World.freeze,Nat.one_ne_zero,if_false,H3,if_true,z2,L3]
   .cases f
  .cases f
 .cases g
def ZB{op:BinOp}{t:TypeId}{x y:Operand}{a a' b b':Value}(h:HR P base ρ m.H w)(g:QU P m op t a b=some (v,m'))(A:VR ρ a a')(z:VR ρ b b'):VOk P base ρ m w (do eqGuard op t x y a' b';binOp op t a' b') v m':=by
 unfold QU at g;split at g
 .rename_i e E p D C hu;obtain⟨u,f⟩:=A3 g;clear g;obtain⟨q,s⟩:=B6 u;have q:=A0 q;have s:=A0 s;clear u;subst q;subst s;obtain⟨l,B,_,rfl⟩:=O9 A;obtain⟨l2,i,_,rfl⟩:=O9 z;rw[B]at i
  have:=A8 i;subst this;have heq:∀ j,P.info? e=some j->∀ d:Nat,(Op.equalIn (d+1) t (.pointer (some ⟨l.blk,p+l.sh,none⟩)) (.pointer (some ⟨l.blk,p+l.sh,none⟩))).run P w=.ok true w:=fun j n d=>by
   simp[Op.equalIn,run_underlying hu,sizeOf,typeInfo,n,run_sameAddr_same]
  have o:(eqGuard op t x y (.pointer (some ⟨l.blk,p+l.sh,none⟩)) (.pointer (some ⟨l.blk,p+l.sh,none⟩))).run P w=.ok () w:=by
   unfold eqGuard;split<;>simp
  split at f
  .rename_i j n;cases f;refine VOk.same h (v':=.bool true) ?_ (.pure rfl);rw[A4,o];simp[Result.andThen,binOp,Op.equal,Op.maxDepth,heq j n 9999]
  .rename_i j n;cases f;refine VOk.same h (v':=.bool false) ?_ (.pure rfl);rw[A4,o];simp[Result.andThen,binOp,Op.equal,Op.maxDepth,heq j n 9999]
  .cases f
 .cases g
def St.laid{o:Obj}(h:HR P base ρ m.H w):St P base ρ ρ m m w { w with heap:=w.heap.push o } :=
 have f:∀ k,k<w.heap.size->(w.heap.push o)[k]? = w.heap[k]? := fun k f=>by rw[g7,A7 A2]
 ⟨fun _ _ h=>h,fun b l h1 a=>(by rw[h1]at a;cases a),A6 _,A6 _,fun h=>h,
  ⟨h.dom,fun id hid ab g=>by
    obtain⟨l,h1,a,h3⟩:=h.at_ id hid ab g;exact⟨l,h1,a.mono (fun _ _ h=>h) (fun k e=>f k (a.tc e)),h3⟩⟩,
  fun _ h=>h,fun b h1 a=>absurd h1 a,fun k e _=>f k e,by simp,⟨rfl,rfl,rfl⟩,fun b l h1 a=>(by rw[h1]at a;cases a),fun _ _ _ _=>rfl,fun _ h=>.inr h⟩
def A7D{tys:Array TypeId}{x:Value}(h:HR P base ρ m.H w)(a:sdM P m ty x=some (v,m'))(hx:VR ρ x x'):VOk P base ρ m w (Builtin.unsafeSliceData_ tys ty #[x']) v m':=by
 unfold sdM at a;split at a
 .rename_i e he;split at a
  .rename_i b i t;split at a
   .rename_i c tc T g ro s;cases a;have hx:VR ρ (own b i t) x':=hx;rcases(fP hx).1 with⟨l,wd,h1,f,h3,rfl⟩|⟨l,wd,rows,h1,f,h3,E,D,rfl⟩
    .exact VOk.same h rfl (.sdt ⟨l,h1,.inl ⟨f,rfl⟩⟩)
    .have j:Builtin.unsafeSliceData_ tys ty #[.slice (some ⟨l.blk,l.sh,none⟩) l.len l.cap]=(do
       if l.cap≠0 then pure (.pointer (some ⟨l.blk,l.sh,none⟩))
       else if(<- viewAt l.blk).isSome then pure (.pointer (some ⟨l.blk,l.sh,none⟩))
       else pure (.pointer (some ⟨<- newObj (.view ⟨l.blk,l.sh,none⟩ (<- elemOf ty)),0,none⟩))):=rfl
     rw[j];by_cases q:l.cap=0
     .rw[A7 (by simpa using q)];obtain⟨z,inf,_,_,_,u⟩:=SqR.ex (h.atl h1 s).1;rcases u with⟨n,_⟩|⟨_,n⟩
      .rw[f]at n;cases n
      .obtain⟨C,fz,A,p,lg,B,_⟩:=n;have o:w.shape? l.blk=some (A,C.size):=by simp[World.shape?,B]
       refine⟨.pointer (some ⟨w.heap.size,0,none⟩),ρ,{ w with heap:=w.heap.push (.view ⟨l.blk,l.sh,none⟩ e) },?_,.sdt ⟨l,h1,.inr ⟨f,_,rfl,fun h=>absurd q h⟩⟩,St.laid h⟩;simp[viewAt,o,elemOf,D1 he,newObj,Sem.run,A4,Result.andThen]
     .rw[A9 q];exact VOk.same h rfl (.sdt ⟨l,h1,.inr ⟨f,_,rfl,fun _=>rfl⟩⟩)
   .cases a
  .cases a
 .cases a
def A64{p l p' l':Value}(h:HR P base ρ m.H w)(L:usM P m pt p l=some (v,m'))(hp:VR ρ p p')(hl:VR ρ l l')(hS:Sat m'.lg)(hf:K1 ρ m.n m'.hi) :
  VOk P base ρ m w (Builtin.unsafeString_ ⟨pt::tys⟩ ty #[p',l']) v m':=by
 have D:IntKind.i64.max=9223372036854775807:=rfl;unfold usM at L;split at L
 .rename_i b;obtain⟨V,L⟩:=A3 L;have V:G5 l<8:=A1 V;obtain⟨k,n0,rfl,ai,_⟩:=M6 hl V;split at L
  .rename_i c tc T g e hg aj;obtain⟨hq,A⟩:=A3 L;clear L;obtain⟨q1,q2⟩:=B6 hq;have q1:=A0 q1;have q2:=A0 q2;clear hq;subst q1;subst q2;split at A
   .rename_i u m1 bz O;split at A
    .rename_i m2 X8;cases A;have ad:=dL X8;have af:Sat m1.lg:=by rw[<- ad];exact hS
     obtain⟨u0,e1,e2,r,e3,e4,e5⟩:=M4 O af;obtain⟨lg,rfl⟩:=H4 O;obtain⟨l0,F,hv⟩:=A3d (show VR ρ (sdt b) p' from hp);have E:=St.wLg h lg;obtain⟨wd,inf,k1,k2,k3,K⟩:=SqR.ex (h.atl F hg).1;have ah:wd=1:=A2;subst ah;have f:evU .ustr [Ora.env c,.int k n0]=u0:=by
      have:D6 Ora.env (hole c 11)=Ora.env c:=rfl;rw[<- this,<- ai];exact e1
     have M:∀ aw rows,Ora.env c=.seq aw 1 rows->∃ (n:Nat) (R:List UInt8),n0=(n:Int)/\n<=rows.length/\n<=1000000000/\tW (rows.take n)=some R/\u0=.str R:=fun aw rows hc=>by
      rw[hc]at f;cases n0 with
      | negSucc z=>have:u0=.none:=f.symm;subst this;cases e3
      | ofNat n =>
        have f:(if 1=1/\n<=rows.length/\n<=sK then match tW (rows.take n)with
         | some s=>U.str s
         | none=>.none else .none)=u0:=f
        split at f
        .rename_i an;split at f
         .rename_i R M;exact⟨n,R,rfl,an.2.1,an.2.2,M,f.symm⟩
         .subst f;cases e3
        .subst f;cases e3
     have B:P.cellsOf e=1:=by unfold Program.cellsOf;rw[k2];exact k3
     have W:∀ {ρ:Ren} {w:World} {lx:Loc},BR P ρ (.sq c 11 e g false) lx w->BR P ρ (.sq c 11 e g true) lx w:=fun hb=>by
      obtain⟨wd,inf,k1,k2,k3,K⟩:=SqR.ex hb;refine⟨⟨wd,inf,k1,k2,k3,K.imp (fun x=>x) fun⟨a,C,fz,T',rows,lg,b1,b2,b3,b4,b5,b6,b7,b8,_⟩=>⟨a,C,fz,T',rows,lg,b1,b2,b3,b4,b5,b6,b7,b8,fun hh=>by cases hh⟩⟩⟩
     have Z:Hp.get (m.wLg lg).H b=some (.sq c 11 e g false):=by rw[kM];exact hg
     have Q:St P base ρ ρ m m' w w:=St.trans hf E (St.same0 E.hr X8 Z rfl F (W (E.hr.atl F Z).1) fun q hq=>hq.imp (fun⟨_,b⟩=>⟨rfl,b⟩) fun⟨hh,_⟩=>by cases hh);rcases hv with⟨au,rfl⟩|⟨S,a,rfl,ha⟩
     .rcases K with⟨_,I⟩|⟨I,_⟩
      .obtain⟨n,R,rfl,j1,_,j2,rfl⟩:=M _ _ I;have hn:n=0:=by simpa using j1
       subst hn;cases j2;cases e3;refine⟨.string ByteArray.empty,ρ,w,?_,e4 ρ,Q⟩;have o:Builtin.unsafeString_ ⟨pt::tys⟩ ty #[.pointer none,.int k ((0:Nat):Int)] =
         (do
           let n <- asInt (.int k ((0:Nat):Int))
           if n<0 then runtimePanic (.error "unsafe.String: len out of range")
           if n>IntKind.i64.max then unsupported (.unsafePointer "String: a length above the largest int")
           if n=0 then pure (.string .empty)
           else runtimePanic (.error "unsafe.String: ptr is nil and len is not zero")):=rfl
       rw[o];simp[asInt,asIntOf,D]
      .rw[au]at I;cases I
     .rcases K with⟨I,_⟩|⟨_,I⟩
      .rw[S]at I;cases I
      obtain⟨C,fz,T',rows,az,z1,z2,z3,z4,z5,z6,z7,z8,z9⟩:=I;obtain⟨rfl,bx⟩:=z9 rfl;obtain⟨n,R,rfl,j1,j0,j2,rfl⟩:=M _ _ z2;cases e3;have o:Builtin.unsafeString_ ⟨pt::tys⟩ ty #[.pointer (some a),.int k (n:Int)] =
       (do
         let n <- asInt (.int k (n:Int))
         if n<0 then runtimePanic (.error "unsafe.String: len out of range")
         if n>IntKind.i64.max then unsupported (.unsafePointer "String: a length above the largest int")
         if n=0 then pure (.string .empty)
         else if <- variablesAt a (<- elemOf pt) n.toNat then do
          let s <- loadBytes a .empty n.toNat
          freeze a n.toNat
          pure (.string s)
         else unsupported (.unsafePointer "String: not so many bytes at ptr")):=rfl
      have ar:¬ (n:Int)<0:=A2;have ax:¬ (9223372036854775807:Int)<(n:Int):=A2;by_cases t:n=0
      .subst t;cases j2;refine⟨.string ByteArray.empty,ρ,w,?_,e4 ρ,Q⟩;rw[o];simp[asInt,asIntOf,D]
      .have hz:¬ (n:Int)=0:=A2;have ay:l0.cap≠0:=A2;have ha:=ha ay;subst ha;obtain⟨y1,y2,y3⟩:=GT j2;have hlen:(rows.take n).length=n:=by simp;omega
       have al:l0.sh+n<=C.size:=A2;obtain⟨ns,r1,r2⟩:∃ ns:List Int,(C.toList.drop l0.sh).take n=ns.map (Value.int .u8)/\R=ns.map fun n=>UInt8.ofNat n.toNat:=by
        refine LV (G:=az.G) y1 ⟨by rw[y2,hlen];simp;omega,fun i u v b1 b2=>?_⟩;have aq:i<n:=by have:=(B0.1 b1).1;rw[y2,hlen]at this;exact this
        have av:i<rows.length:=A2;have N:rows[i]? = some rows[i]:=A5 av;have X:(rows.take n)[i]? = some rows[i]:=by rw[E8 aq];exact N
        have bw:rows[i].length=1:=z6 _ (N6 av);have h0:rows[i][0]? = some (rows[i][0]' A2):=A5 A2;obtain⟨_,K⟩:=y3 i _ 0 _ X h0;rw[b1]at K;have K:=A8 K;rw[K];have hc:C[l0.sh+i*1+0]? = some v:=by
         rw[E8 aq,H8]at b2
         simpa using b2
        exact z8 i _ 0 _ v N h0 hc
       have aa:ns.length=n:=by
        have:=F1 List.length r1;simp at this;omega
       have J:∀ (j:Nat) (v:Value),(ns.map (Value.int .u8))[j]? = some v->w.cell? ⟨l0.blk,l0.sh+j,none⟩=some v:=fun j v hj=>by
        rw[<- r1]at hj;have ak:j<n:=by have:=(B0.1 hj).1;simp at this;omega
        rw[E8 ak,H8]at hj;simp only[World.cell?,z1]
        simpa using hj
       have ao:=eG (P:=P) (w:=w) ns l0.blk l0.sh .empty J;rw[aa]at ao;have ae:w.shape? l0.blk=some (T',C.size):=by simp[World.shape?,z1]
       have Y:=yM (P:=P) B (C.size / P.cellsOf T') l0.sh n (by rw[B];simpa using al);have ag:St P base ρ ρ (m.wLg lg) m' w (w.freeze ⟨l0.blk,l0.sh,none⟩ n):=by
        refine St.write E.hr X8 Z rfl F S ?_ ?_ ?_ ?_
        .simp[World.freeze,t]
        .simp[World.freeze,t]
        .intro j hj;simp only[World.freeze,t,if_false,H3];rw[A7 (fun e=>hj e.symm)]
        .refine⟨⟨1,inf,rfl,k2,k3,.inr ⟨S,C,(if fz.1 == fz.2 then(l0.sh,l0.sh+n)else(min fz.1 l0.sh,max fz.2 (l0.sh+n))),T',rows,az,?_,z2,z3,z4,z5,z6,z7,z8,fun hc=>by cases hc⟩⟩⟩;simp only[World.freeze,t,if_false,H3,if_true,z1,L3]
       refine⟨.string ⟨⟨R⟩⟩,ρ,w.freeze ⟨l0.blk,l0.sh,none⟩ n,?_,e4 ρ,St.trans hf E ag⟩;rw[o];simp[asInt,asIntOf,D,ar,ax,hz,t,variablesAt,ae,elemOf,D1 aj,Y,ao,freeze,Sem.run,A4,Result.andThen,r2]
    .cases A
   .cases A
  .cases L
 .cases L
def UI{t:TypeId}{x:Value}(h:HR P base ρ m.H w)(i:base<=w.heap.size)(a:xT P m t x=some (v,m'))(g:K1 ρ m.n m'.hi)(hx:VR ρ x x'):VOk P base ρ m w (Instr.range t x') v m':=by
 unfold xT at a;split at a
 .rename_i hu;obtain⟨h1,a⟩:=A3 a;obtain⟨s,rfl,_⟩:=l6 hx (A0 h1);have f:∀ e:Ren,(∀ b l,ρ b=some l->e b=some l)->BR P e (.iter [x,.int .i64 (.ofNat 0)]) (lc w.heap.size 0 0) { w with heap:=w.heap.push (.stringIter ⟨⟨s⟩⟩ 0) }:=fun e he =>
   ⟨⟨rfl,rfl⟩,⟨⟨s⟩⟩,0,by simp[lc],.cons (hx.mono he) (.cons (.pure rfl) .nil)⟩
  obtain⟨j,h3,o⟩:=St.alloc (w':={ w with heap:=w.heap.push (.stringIter ⟨⟨s⟩⟩ 0) }) (l:=lc w.heap.size 0 0) h i a g ⟨rfl,rfl,rfl⟩ rfl rfl (f _ (W9 (g m.n (A6 _) (by obtain⟨_,_,rfl⟩:=L6 a;exact(L1 _ _).2))));refine⟨.pointer (some ⟨w.heap.size,0,none⟩),_,_,?_,?_,o⟩
  .simp[Instr.range,A4,D1 hu,Result.andThen,newObj,Sem.run]
  .rw[j];exact .ptr h3
 .cases a
def PA{s p:Value}{b:ByteArray}(h:GO s p=some (b,k)):s=.string b/\p=.int .i64 (.ofNat k):=by
 unfold GO at h;split at h
 .cases h;exact⟨rfl,rfl⟩
 .cases h
def A0D{x:Value}(h:HR P base ρ m.H w)(a:JR m x=some (v,m'))(hf:K1 ρ m.n m'.hi)(hx:VR ρ x x')(hS:Sat m'.lg):VOk P base ρ m w (Instr.next x' true ty) v m':=by
 unfold JR at a;split at a
 .rename_i r;obtain⟨l,hl,_,rfl⟩:=O9 hx;split at a
  .rename_i s p hg;obtain⟨⟨⟨J,D⟩,g,n,g1,g2⟩,_⟩:=h.atl hl hg;have K:(getObj l.blk).run P w=.ok (.stringIter g n) w:=by simp[getObj,Sem.run,g1]
   have i:l.blk<w.heap.size:=(C9.1 g1).1;have G:w.heap[l.blk]=.stringIter g n:=by
    have q:=g1;rw[F3 i]at q;exact A8 q
   obtain⟨s',r1,e1,Q,k2⟩:=g2.tail;obtain⟨p',r2,e2,S,k4⟩:=k2.tail;cases k4.nil_inv;cases e2;cases e1;have X:∀ V:Nat,(setObj l.blk (.stringIter g V)).run P w=.ok () { w with heap:=w.heap.set l.blk (.stringIter g V) i }:=fun V=>by
    simp[setObj,Sem.run,G,Array.setIfInBounds,i]
   have z:n<g.size->(Instr.next (.pointer (some ⟨l.blk,0+l.sh,none⟩)) true ty).run P w=.ok (.tuple #[.bool true,.int .i64 (.ofNat n),.int .i32 (.ofNat (Utf8.decode g n).1)]) { w with heap:=w.heap.set l.blk (.stringIter g (n+(Utf8.decode g n).2)) i }:=fun o=>by
    rw[D];simp[Instr.next,A4,Result.andThen_ok,K,o,X,goInt]
   have M:¬n<g.size->(Instr.next (.pointer (some ⟨l.blk,0+l.sh,none⟩)) true ty).run P w=.ok (.tuple #[.bool false]) w:=fun o=>by
    rw[D];simp[Instr.next,A4,Result.andThen_ok,K,o]
   have fin:∀ {m1 m2:Mem} {q:Value},J9 m m1->bZ m1 r (.iter [s,q])=some m2->K1 ρ m.n m2.hi->VR ρ q (.int .i64 (.ofNat (n+(Utf8.decode g n).2)))->St P base ρ ρ m m2 w { w with heap:=w.heap.set l.blk (.stringIter g (n+(Utf8.decode g n).2)) i }:=fun{m1 m2 q} e X8 az R=>by
    obtain⟨lg,rfl⟩:=e;have O:=St.wLg h lg;have ay:Hp.get (m.wLg lg).H r=some (.iter [s,p]):=by rw[kM];exact hg
    refine St.trans az O (St.write (ab:=.iter [s,p]) (ab':=.iter [s,q]) O.hr X8 ay rfl hl J ⟨rfl,rfl,rfl⟩ (by simp) (fun j hj=>?_) ?_)
    .show(w.heap.set l.blk _ i)[j]? = _;rw[n8,A7 (fun e=>hj e.symm)]
    .refine⟨⟨J,D⟩,g,_,?_,.cons Q (.cons R .nil)⟩;show(w.heap.set l.blk _ i)[l.blk]? = _;rw[n8,A9 rfl]
   split at a
   .rename_i b k hc;obtain⟨rfl,rfl⟩:=PA hc;have e:=U6 Q;cases e;have e:=J3 S;cases e;by_cases o:n<g.size
    .have t:Nat.blt n g.data.toList.length=true:=C6 o;rw[t]at a;simp only[E3,E7]at a;split at a
     .rename_i m2 X8;cases a;exact⟨_,ρ,_,z o,.tuple rfl (LR.cons (.pure rfl) (LR.cons (.pure rfl) (LR.cons (.pure rfl) LR.nil))).2,fin ⟨m.lg,by cases m;rfl⟩ X8 hf (.pure rfl)⟩
     .cases a
    .have t:Nat.blt n g.data.toList.length=false:=by
      cases R:Nat.blt n g.data.toList.length with
      | false=>rfl
      | true=>exact absurd (A1 R) o
     rw[t]at a;cases a;exact⟨_,ρ,w,M o,.tuple rfl (LR.cons (.pure rfl) LR.nil).2,St.refl h⟩
   .obtain⟨h1,a⟩:=A3 a;obtain⟨h1,h2⟩:=B6 h1;have h1:=A0 h1;have h2:=A0 h2;obtain⟨s0,es,as⟩:=l6 Q h1;cases es;obtain⟨kk,nn,ep,ap,_⟩:=M6 S A2;cases ep;split at a
    .rename_i hh m1 A;split at a
     .rename_i c H N W hi lg B;have o1:=H4 A;have o2:=H4 B;have key:∀ {b:Bool} {f:Lg},brL lg c=some (b,f)->Sat f->(b=true↔n<s0.length)/\J9 m ⟨H,N,W,hi,f⟩:=fun{b f} t u=>by
       have L:Sat lg:=u.le (eX t);have Z:Sat m1.lg:=R6.le L (H7 B);have u1:VR ρ hh (.int .i64 s0.length):=by
        have:=(hO (ρ:=ρ) A Z).2.2;rw[C4,G0,as]at this;exact this
       obtain⟨rfl,e1⟩:=iU A;obtain⟨k5,n5,e5,a5,_⟩:=M6 u1 (show 3<8 by decide);cases e5;have u2:VR ρ c (.bool (decide ((n:Int)<s0.length))):=by
        have:=(hO (ρ:=ρ) B L).2.2;rw[C4,C4,G0,ap,a5]at this;have e:evU (.bin .lss) [.int .i64 (Int.ofNat n),.int .i64 (s0.length:Int)]=.bool (decide ((n:Int)<s0.length)):=by
         simp[evU,evB,aF,uE,hY,kJ,FI,ofV]
        rw[e]at this;exact this
       have:=mC t u2 u;refine⟨?_,?_⟩
       .have:=Value.bool.inj this;rw[<- this,decide_eq_true_iff];omega
       .exact(o1.trans o2).trans ⟨f,rfl⟩
      split at a
      .rename_i f t;split at a
       .rename_i y m3 E;split at a
        .rename_i q m4 C;split at a
         .rename_i m5 X8;cases a;have I:Sat m4.lg:=by rw[<- dL X8];exact hS
          have F:=I.le (H7 C);have u:Sat f:=F.le (H7 E);obtain⟨T,ko⟩:=key t u;have o:=T.1 rfl;have u3:VR ρ y (.int .i32 (.ofNat (Utf8.decode ⟨⟨s0⟩⟩ n).1)):=by
           have:=(hO (ρ:=ρ) E F).2.2;rw[C4,C4,G0,as,ap]at this;exact this
          have u4:VR ρ q (.int .i64 (.ofNat (n+(Utf8.decode ⟨⟨s0⟩⟩ n).2))):=by
           have:=(hO (ρ:=ρ) C I).2.2;rw[C4,C4,G0,as,ap]at this;exact this
          exact⟨_,ρ,_,z o,.tuple rfl (LR.cons (.pure rfl) (LR.cons S (LR.cons u3 LR.nil))).2,fin ((ko.trans (H4 E)).trans (H4 C)) X8 hf u4⟩
         .cases a
        .cases a
       .cases a
      .rename_i f t;cases a;obtain⟨T,ko⟩:=key t hS;have o:¬n<s0.length:=fun q=>by have:=T.2 q;cases this
       obtain⟨Y,e3⟩:=ko;refine⟨_,ρ,w,M o,.tuple rfl (LR.cons (.pure rfl) LR.nil).2,?_⟩;rw[e3];exact St.wLg h Y
      .cases a
     .cases a
    .cases a
  .cases a
 .cases a
def UJ{t:TypeId}{x:Value}(a:xT P m t x=some (v,m')):m.lg.le m'.lg:=by
 unfold xT at a;split at a
 .obtain⟨_,a⟩:=A3 a;rw[w9 a];exact .refl _
 .cases a
def A0E{x:Value}(e:JR m x=some (v,m')):m.lg.le m'.lg:=by
 unfold JR at e;split at e
 .split at e
  .split at e
   .rename_i b k o;cases f:Nat.blt k b.data.toList.length with
    | true =>
      rw[f]at e;simp only[E3,E7]at e;split at e
      .rename_i X8;cases e;rw[dL X8];exact .refl _
      .cases e
    | false=>rw[f]at e;cases e;exact .refl _
   .obtain⟨_,e⟩:=A3 e;split at e
    .rename_i n;split at e
     .rename_i g;have a:=(H7 n).trans (H7 g);split at e
      .rename_i f;have a:=a.trans (eX f);split at e
       .rename_i j;split at e
        .rename_i i;split at e
         .rename_i X8;cases e;rw[dL X8];exact(a.trans (H7 j)).trans (H7 i)
         .cases e
        .cases e
       .cases e
      .rename_i f;cases e;exact a.trans (eX f)
      .cases e
     .cases e
    .cases e
  .cases e
 .cases e
def A6v{fr:Fr}{g:Operand->Value}{o:Oper}(h:HR P base ρ m.H w)(C:base<=w.heap.size)(b:xtM P fr m o=some (v,m'))(i:K1 ρ m.n m'.hi)(q:FR ρ fr g o.op)(f:Sat m'.lg):NOk P base ρ m w (execOp g o) v m':=by
 obtain⟨dst,op,ty,pos,F,G⟩:=o;unfold xtM at b;simp only at b q;have a:∀ {x},x ∈ op.operands.toList->VR ρ (ev fr x) (g x):=fun hx=>q _ hx
 split at b
 .rename_i s t x;exact NOk.of (A1o h b (a (x:=x) (by simp[Op.operands])))
 .rename_i op t x y J;exact NOk.of (ZB h b (a (x:=x) (by simp[Op.operands])) (a (x:=y) (by simp[Op.operands])))
 .rename_i xs tys;have l1:=cU (ρ:=ρ) (fr:=fr) (g:=g) (xs:=xs.toList) fun y j=>q y (by show y ∈ (#[]++xs:Array Operand).toList;simpa using j)
  split at b
  .rename_i x hx;rw[hx]at l1;obtain⟨x',r1,u,g1,g2⟩:=l1.tail;cases g2.nil_inv;have z:xs.map g=#[x']:=by apply J1;simpa using u
   have:=A7D (tys:=tys) h b g1;have B:=NOk.of this;obtain⟨ks,A⟩:∃ ks,execOp g ⟨dst,.call ⟨.builtin .unsafeSliceData,xs,tys⟩,ty,pos,F,G⟩=builtin .unsafeSliceData tys ty ks (xs.map g):=⟨#[],rfl⟩;rw[A,z];exact B
  .cases b
 .rename_i xs tys;have l1:=cU (ρ:=ρ) (fr:=fr) (g:=g) (xs:=xs.toList) fun y j=>q y (by show y ∈ (#[]++xs:Array Operand).toList;simpa using j)
  split at b
  .rename_i p l t rest hx E;rw[hx]at l1;obtain⟨x',r1,u,g1,g2⟩:=l1.tail;obtain⟨I,K,rfl,g3,g4⟩:=g2.tail;cases g4.nil_inv;have z:xs.map g=#[x',I]:=by apply J1;simpa using u
   have B:=NOk.of (A64 (ty:=ty) (tys:=rest) h b g1 g3 f i);obtain⟨ks,A⟩:∃ ks,execOp g ⟨dst,.call ⟨.builtin .unsafeString,xs,tys⟩,ty,pos,F,G⟩=builtin .unsafeString tys ty ks (xs.map g):=⟨#[],rfl⟩;have D:tys=⟨t::rest⟩:=by rw[<- E]
   rw[A,z,D];exact B
  .cases b
 .rename_i t;exact NOk.of (A3N h C b i f)
 .rename_i t x k ok;exact NOk.of (US h b (a (x:=x) (by simp[Op.operands])) (a (x:=k) (by simp[Op.operands])) f)
 .rename_i t x;exact NOk.of (UI h C b i (a (x:=x) (by simp[Op.operands])))
 .rename_i x;exact NOk.of (A0D h b i (a (x:=x) (by simp[Op.operands])) f)
 .rename_i t x k e;obtain⟨rfl,hu⟩:=JB h C b i (a (x:=x) (by simp[Op.operands])) (a (x:=k) (by simp[Op.operands])) (a (x:=e) (by simp[Op.operands])) f;exact NOk.ofU hu
 .rename_i t x k e;obtain⟨rfl,hu⟩:=JB h C b i (a (x:=x) (by simp[Op.operands])) (a (x:=k) (by simp[Op.operands])) (a (x:=e) (by simp[Op.operands])) f;exact NOk.ofU hu
 .rename_i xs tys;have l1:=cU (ρ:=ρ) (fr:=fr) (g:=g) (xs:=xs.toList) fun y j=>q y (by show y ∈ (#[]++xs:Array Operand).toList;simpa using j)
  split at b
  .rename_i x t rest hx E;rw[hx]at l1;obtain⟨x',r1,u,g1,g2⟩:=l1.tail;cases g2.nil_inv;have z:xs.map g=#[x']:=by apply J1;simpa using u
   have B:=NOk.of (A0T (ty:=ty) (tys:=rest) h b g1 f);obtain⟨ks,A⟩:∃ ks,execOp g ⟨dst,.call ⟨.builtin .len,xs,tys⟩,ty,pos,F,G⟩=builtin .len tys ty ks (xs.map g):=⟨#[],rfl⟩;have D:tys=⟨t::rest⟩:=by rw[<- E]
   rw[A,z,D];exact B
  .cases b
 .cases b
def A6w{fr:Fr}{o:Oper}(a:xtM P fr m o=some (v,m')):m.lg.le m'.lg:=by
 unfold xtM at a;split at a
 .unfold SZ at a;split at a
  .split at a
   .obtain⟨_,a⟩:=A3 a;cases a;exact .refl _
   .cases a
  .split at a
   .obtain⟨_,a⟩:=A3 a;cases a;exact .refl _
   .cases a
  .obtain⟨_,a⟩:=A3 a;split at a
   .split at a
    .rename_i X8;cases a;obtain⟨_,rfl⟩:=U5 X8;exact .refl _
    .cases a
   .cases a
  .cases a
 .unfold QU at a;split at a
  .obtain⟨_,a⟩:=A3 a;split at a
   .cases a;exact .refl _
   .cases a;exact .refl _
   .cases a
  .cases a
 .split at a
  .unfold sdM at a;split at a
   .split at a
    .split at a
     .cases a;exact .refl _
     .cases a
    .cases a
   .cases a
  .cases a
 .split at a
  .unfold usM at a;split at a
   .obtain⟨_,a⟩:=A3 a;split at a
    .obtain⟨_,a⟩:=A3 a;split at a
     .rename_i b;split at a
      .rename_i hs;cases a;rw[dL hs];exact H7 b
      .cases a
     .cases a
    .cases a
   .cases a
  .cases a
 .exact A3O a
 .exact UT a
 .exact UJ a
 .exact A0E a
 .exact JC a
 .exact JC a
 .split at a
  .exact A0U a
  .cases a
 .cases a
end
end
section
open Go
def fw(rd:Option Nat):Fence:={ Fence.wide with round:=rd }
def rU{rd:Option Nat}{n:Nat}:(fw rd).depth.isSome=true->1<=n:=fun h=>by cases h
def oT{rd:Option Nat}{n:Nat}{P:Program}{f:FuncId}{args:V9}{w:World}{R:Ending->World->Prop}:CallsIn (fw rd) n P f args w R↔Calls P f args w R :=
 ⟨fun h=>callsIn_wide.1 (show CallsIn Fence.wide n P f args w R from h),fun h=>show CallsIn (fw rd) n P f args w R from(callsIn_wide (n:=n)).2 h⟩
section
variable {P:Program} {rd:Option Nat}
def wpO(P:Program)(rd:Option Nat)(o:Oper)(a:Act)(w:World)(K:Act->World->Prop)(Q:Exit->Act->World->Prop):Prop:=o.wpIn (fw rd) 0 P a w K Q
def HE{o:Oper}{a:Act}{w:World}{K f:Act->World->Prop}{Q:Exit->Act->World->Prop}(h:∀ a w,K a w->f a w)(hh:wpO P rd o a w K Q):wpO P rd o a w f Q:=by
 unfold wpO Oper.wpIn at *;refine⟨hh.1,?_⟩;have hh:=hh.2;generalize (o.semAt (fw rd).round a.eval).run P w=r at *;cases r with
 | ok n w' =>
   cases n<;>simp only[Oper.uponIn]at hh ⊢ <;>
    first
     | exact h _ _ hh
     | exact⟨hh.1,CallsIn.mono hh.2 (fun e b he=>by cases e<;>first|exact h _ _ he|exact he)⟩
     | exact⟨hh.1,RowsIn.mono hh.2 (fun _ _ he=>h _ _ he)⟩
     | exact⟨hh.1,RoundIn.mono hh.2 (fun e b he=>by cases e<;>first|exact h _ _ he|exact he)⟩
 | halt x w'=>cases x<;>simp only[Oper.uponIn]at hh ⊢<;>exact hh
def wpL(P:Program)(rd:Option Nat)(ops:Array Oper)(Q:Exit->Act->World->Prop):List Oper->Act->World->Prop
 | [],a,w=>Q .normal a w
 | o::rest,a,w=>if Region.wanted o (yielded ops a.tmps)then wpO P rd o a w (wpL P rd ops Q rest) Q else wpL P rd ops Q rest (a.put o.dst undef) w
def HF{ops:Array Oper}{Q:Exit->Act->World->Prop}{a:Act}{w:World}{rest:List Oper}{o:Oper}
  (h:∀ K:Act->World->Prop,(∀ a w,wpL P rd ops Q rest a w->K a w)->if Region.wanted o (yielded ops a.tmps)then wpO P rd o a w K Q else K (a.put o.dst undef) w):wpL P rd ops Q (o::rest) a w:=h _ fun _ _ h=>h
def PS{ops:Array Oper}{Q:Exit->Act->World->Prop}:∀ (l:List Oper) (k:Nat),(∀ j,l[j]? = ops[k+j]?)->∀ a w,wpL P rd ops Q l a w->wpOpsIn (fw rd) 0 P ops Q (List.range' k l.length) a w
 | [],k,_,a,w,h=>h
 | o::l,k,hk,a,w,h=>by
   have h0:ops[k]? = some o:=by simpa using(hk 0).symm
   have b:=PS (Q:=Q) l (k+1) (fun j=>by have:=hk (j+1);simpa [bX,jK 1 j]using this);simp only[C7,List.range'_succ,wpOpsIn,h0];unfold wpL at h;split
   .rename_i hw;rw[A9 hw]at h;exact HE b h
   .rename_i hw;rw[A7 hw]at h;exact⟨fun _ _=>trivial,b _ _ h⟩
def vJ{id:Nat}{ops:Array Oper}{Q:Exit->Act->World->Prop}{a:Act}{w:World}(h:wpL P rd ops Q ops.toList a w):(Code.region id ops false).wpIn (fw rd) 0 P Q a w :=
 wpIn_region (by
  have:=PS ops.toList 0 (by simp) a w h;rw[List.range_eq_range',<- R4];exact this)
def gO(P:Program)(rd:Option Nat)(ops:Array Oper)(Q:Exit->Act->World->Prop)(i:Nat)(K:Act->World->Prop)(a:Act)(w:World):Prop :=
 match ops[i]? with
 | none=>K a w
 | some o=>if Region.wanted o (yielded ops a.tmps)then wpO P rd o a w K Q else K (a.put o.dst undef) w
def MI{ops:Array Oper}{Q:Exit->Act->World->Prop}{i:Nat}{a:Act}{w:World}{K b:Act->World->Prop}(h:∀ a w,K a w->b a w)(hh:gO P rd ops Q i K a w):gO P rd ops Q i b a w:=by
 unfold gO at *;split
 .exact h _ _ (by simpa [*]using hh)
 .rename_i o e;simp only[e]at hh;split
  .rename_i hw;simp only[hw,if_true]at hh;exact HE h hh
  .rename_i hw;simp only[hw]at hh;exact h _ _ hh
def EG{ops:Array Oper}{Q:Exit->Act->World->Prop}{i:Nat}{rest:H1}{a:Act}{w:World}(h:gO P rd ops Q i (wpOpsIn (fw rd) 0 P ops Q rest) a w):wpOpsIn (fw rd) 0 P ops Q (i::rest) a w:=by
 unfold gO at h;simp only[wpOpsIn];split at h
 .rename_i b;simp only[b];exact h
 .rename_i o e;simp only[e];split at h
  .rename_i hw;rw[A9 hw];exact h
  .rename_i hw;rw[A7 hw];exact⟨fun _ _=>trivial,h⟩
def iI(P:Program)(rd:Option Nat)(md:Region.Mode)(ops:Array Oper)(Q:Exit->Act->World->Prop):Nat->Array Bool->Act->World->Prop
 | 0,listed,a,w=>Region.ready md ops listed=[]/\Q .normal a w
 | fuel+1,listed,a,w=>(Region.ready md ops listed=[]->Q .normal a w)/\∀ i ∈ Region.ready md ops listed,gO P rd ops Q i (iI P rd md ops Q fuel (listed.setIfInBounds i true)) a w
def EH{md:Region.Mode}{ops:Array Oper}{Q:Exit->Act->World->Prop}:∀ (fuel t:Nat) (listed:Array Bool) (a:Act) (w:World),iI P rd md ops Q fuel listed a w->wpOpsIn (fw rd) 0 P ops Q (Region.linearise.go md ops fuel t listed []) a w:=by
 intro fuel;induction fuel with
 | zero=>intro t listed a w h;simpa [Region.linearise.go,wpOpsIn]using h.2
 | succ fuel f =>
   intro t listed a w h;obtain⟨h0,h1⟩:=h;simp only[Region.linearise.go];change wpOpsIn (fw rd) 0 P ops Q (match (Region.ready md ops listed)[t%(Region.ready md ops listed).length]? with
    | some i=>Region.linearise.go md ops fuel (t / (Region.ready md ops listed).length) (listed.setIfInBounds i true) [i]
    | none=>[].reverse) a w
   cases hi:(Region.ready md ops listed)[t%(Region.ready md ops listed).length]? with
   | none =>
     have b:Region.ready md ops listed=[]:=by
      cases hr:Region.ready md ops listed with
      | nil=>rfl
      | cons x xs =>
        rw[hr]at hi;have e:t%(x::xs).length<(x::xs).length:=oY _ (by simp);simp at hi;simp at e;omega
     simpa [wpOpsIn]using h0 b
   | some i =>
     simp only[];rw[linearise_go_acc,List.reverse_singleton,List.singleton_append];exact EG (MI (fun a w=>f _ _ a w) (h1 i (D0 hi)))
def kL{id:Nat}{ops:Array Oper}{Q:Exit->Act->World->Prop}{a:Act}{w:World}(hm:P.follows .mixedOrders=true)
  (h:iI P rd .any ops Q ops.size (Array.replicate ops.size false) a { w with drawn:=w.drawn+1 }):(Code.region id ops true).wpIn (fw rd) 0 P Q a w :=
 wpIn_region_draw fun t=>by
  simp only[Region.schedule,hm,Bool.true_or,if_true];exact EH ops.size t _ a _ h
def o8{b:Frame}{a:Act}{k:List Item}{w:World} :step P (lone (b.atR a (.code (.scope c)::k)) cs w)=.next (lone (b.atR a (.code c::.inScope c::k)) cs w) :=
 step_lone_go (by simp[stepG,stepG.exec,Frame.atR])
def AY{b:Frame}{a:Act}{k:List Item}{w:World} :step P (lone (b.atR a (.inScope c::k)) cs w)=.next (lone (b.atR a k) cs w) :=
 step_lone_go (by simp[stepG,stepG.exec,Frame.atR])
def Exit.calm(Q:Exit->Act->World->Prop):Exit->Act->World->Prop
 | .goto _,_,_=>False
 | e,a,w=>Q e a w
def MJ{F:Fence}{n:Nat}{Q:Exit->Act->World->Prop}{a:Act}{w:World}(h:c.wpIn F n P (Exit.calm Q) a w):(Code.scope c).wpIn F n P Q a w:=by
 intro b k cs q o hr;have h0:(lone (b.atR a (.code (.scope c)::k)) cs w).fenced P F:=fenced_calm o hr rfl;obtain⟨e,i,g,j,f⟩:=h b (.inScope c::k) cs q o hr;cases e with
 | normal=>exact⟨.normal,i,g,j,.head h0 o8 (StepsIn.trans f (.one (fenced_calm o hr rfl) AY))⟩
 | exit id =>
   have hx:exitTo id (.inScope c::k)=exitTo id k:=rfl;exact⟨.exit id,i,g,j,fun k' s=>.head h0 o8 (f.1 k' (by rw[hx];exact s)),
    fun p s=>let ⟨k₁,h1,t⟩:=f.2 p (by rw[hx];exact s);⟨k₁,h1,.head h0 o8 t⟩⟩
 | goto l=>exact j.elim
 | ret=>exact⟨_,i,g,j,.of_steps (.one h0 o8) f⟩
 | panic u=>exact⟨_,i,g,j,.of_steps (.one h0 o8) f⟩
 | outgrown=>exact⟨_,i,g,j,.of_steps (.one h0 o8) f⟩
end
end
section
open Go
def nS(o:Op)(g:Operand->Value):Sem Value :=
 match o with
 | .move x|.assign x=>pure (g x)
 | .load t x=>Instr.loadAt t (g x)
 | .store t x y=>do Instr.storeAt t (g x) (g y);pure undef
 | _=>stuck "no such operation"
def tS(P:Program)(o:Oper)(s:Act×World):Option (Act×World) :=
 match (nS o.op s.1.eval).run P s.2 with
 | .ok v w'=>some (s.1.put o.dst v,w')
 | .halt _ _=>none
section
variable {P:Program} {rd:Option Nat}
def wO{o:Oper}{s t:Act×World}(h:tS P o s=some t):∃ v,(nS o.op s.1.eval).run P s.2=.ok v t.2/\t.1=s.1.put o.dst v:=by
 unfold tS at h;split at h
 .rename_i v w' hr;cases h;exact⟨v,hr,rfl⟩
 .cases h
def nL{o:Oper}{s:Act×World}(h:(nS o.op s.1.eval).run P s.2=.ok v w'):tS P o s=some (s.1.put o.dst v,w'):=by
 unfold tS;rw[h]
def VN{o:Oper}(a:GN o.op=true)(w:World)(g:Operand->Value):o.about P w g=none:=by
 unfold Oper.about;cases b:o.op<;>rw[b]at a<;>first|rfl|cases a
def QD{o:Oper}(a:GN o.op=true)(g:Operand->Value):∀ c,o.op≠.defer c:=fun c h=>by rw[h]at a;cases a
def A2a{o:Oper}(i:GN o.op=true){a a':Act}{w:World}{K:Act->World->Prop}{Q:Exit->Act->World->Prop}(h:tS P o (a,w)=some (a',w'))(g:K a' w'):wpO P rd o a w K Q:=by
 obtain⟨v,h1,j⟩:=wO h;simp only at h1 j;subst j;unfold wpO Oper.wpIn;refine⟨fun f n=>(by rw[VN i]at n;cases n),?_⟩;rw[Oper.semAt_eq _ _ _ (QD i a.eval)];cases b:o.op<;>rw[b]at i h1<;>first
  | cases i;done
  | skip
 .have e:(execOp a.eval o)=pure (.value (a.eval ‹Operand›)):=by unfold execOp;rw[b]
  rw[e];cases h1;exact g
 .have e:(execOp a.eval o)=pure (.value (a.eval ‹Operand›)):=by unfold execOp;rw[b]
  rw[e];cases h1;exact g
 .rename_i t x;have e:(execOp a.eval o)=(do pure (.value (<- Instr.loadAt t (a.eval x)))):=by unfold execOp;rw[b]
  have h1:(Instr.loadAt t (a.eval x)).run P w=.ok v w':=h1;rw[e];simp only[A4,h1,Result.andThen,Sem.run_pure];exact g
 .rename_i t x y;have e:(execOp a.eval o)=(do Instr.storeAt t (a.eval x) (a.eval y);pure .skip):=by unfold execOp;rw[b]
  have h1:(do Instr.storeAt t (a.eval x) (a.eval y);pure undef:Sem Value).run P w=.ok v w':=h1;rw[e];simp only[A4]at h1 ⊢;cases hr:(Instr.storeAt t (a.eval x) (a.eval y)).run P w with
  | ok u w2=>rw[hr]at h1;simp only[Result.andThen,Sem.run_pure]at h1 ⊢;cases h1;exact g
  | halt x w2=>rw[hr]at h1;cases h1
def A37{o:Oper}(f:GN o.op=true){a:Act}{w:World}{K:Act->World->Prop}{Q:Exit->Act->World->Prop}(g:∀ c a w,¬Q (.panic c) a w)(h:wpO P rd o a w K Q):∃ a' w',tS P o (a,w)=some (a',w')/\K a' w':=by
 unfold wpO Oper.wpIn at h;obtain⟨_,h⟩:=h;rw[Oper.semAt_eq _ _ _ (QD f a.eval)]at h;cases b:o.op<;>rw[b]at f<;>first
  | cases f;done
  | skip
 .rename_i x;have e:(execOp a.eval o)=pure (.value (a.eval x)):=by unfold execOp;rw[b]
  rw[e]at h;exact⟨_,_,nL (s:=(a,w)) (v:=a.eval x) (w':=w) (by rw[b];rfl),h⟩
 .rename_i x;have e:(execOp a.eval o)=pure (.value (a.eval x)):=by unfold execOp;rw[b]
  rw[e]at h;exact⟨_,_,nL (s:=(a,w)) (v:=a.eval x) (w':=w) (by rw[b];rfl),h⟩
 .rename_i t x;have e:(execOp a.eval o)=(do pure (.value (<- Instr.loadAt t (a.eval x)))):=by unfold execOp;rw[b]
  rw[e]at h;simp only[A4]at h;cases hr:(Instr.loadAt t (a.eval x)).run P w with
  | ok v w' =>
    rw[hr]at h;exact⟨_,_,nL (s:=(a,w)) (v:=v) (w':=w') (by rw[b];exact hr),h⟩
  | halt y w' =>
    rw[hr]at h;cases y<;>first|exact absurd h (g _ _ _)|exact h.elim
 .rename_i t x y;have e:(execOp a.eval o)=(do Instr.storeAt t (a.eval x) (a.eval y);pure .skip):=by unfold execOp;rw[b]
  rw[e]at h;simp only[A4]at h;cases hr:(Instr.storeAt t (a.eval x) (a.eval y)).run P w with
  | ok u w' =>
    rw[hr]at h;refine⟨_,_,nL (s:=(a,w)) (v:=undef) (w':=w') ?_,h⟩;rw[b];show(do Instr.storeAt t (a.eval x) (a.eval y);pure undef:Sem Value).run P w=_;simp only[A4,hr,Result.andThen,Sem.run_pure]
  | halt z w' =>
    rw[hr]at h;cases z<;>first|exact absurd h (g _ _ _)|exact h.elim
def YS{a:Act}{e:Option Tmp}{u:Value}(h:∀ x y,d=some x->e=some y->x≠y):(a.put d v).put e u=(a.put e u).put d v:=by
 cases d with
 | none=>rfl
 | some x=>cases e with
   | none=>rfl
   | some y =>
     have b:=h x y rfl rfl;unfold Act.put;simp only;congr 1;exact Array.setIfInBounds_comm _ _ b
def iA{a:Act}{x:Operand}(h:∀ t,d=some t->t ∉ pP x):(a.put d v).eval x=a.eval x:=by
 cases x with
 | const c=>cases d<;>rfl
 | tmp t =>
   cases d with
   | none=>rfl
   | some y =>
     have:y≠t:=fun e=>h y rfl (by subst e;exact M2.2 rfl)
     unfold Act.put Act.eval;simp only[B7];rw[Array.getElem?_setIfInBounds_ne this]
 | _=>cases d<;>rfl
variable [Ora]
def BI(P:Program)(w:World)(t:TypeId)(p:Value):Prop :=
 ∃ b o C T fz s g,p=.pointer (some ⟨b,o,none⟩)/\w.heap[b]? = some (.cells C T fz)/\G9 P t=some s/\aC P t=some g/\o+s<=C.size/\o<C.size
def CQ{t:TypeId}{b o s:Nat}{C:V9}{T:TypeId}{g:Bool}(hs:G9 P t=some s)(n:aC P t=some g)(h1:o+s<=C.size)(p:o<C.size):∃ v,∀ w:World,w.heap[b]? = some (.cells C T fz)->(Instr.loadAt t (.pointer (some ⟨b,o,none⟩))).run P w=.ok v w:=by
 have a:∀ w:World,w.heap[b]? = some (.cells C T fz)->∀ j v,C[o+j]? = some v->w.cell? ⟨b,o+j,none⟩=some v:=fun w hw j v hv=>by simp[World.cell?,hw,hv]
 cases g with
 | true =>
   refine⟨.agg ⟨(C.toList.drop o).take s⟩,fun w hw=>?_⟩;have q:((C.toList.drop o).take s).length=s:=by rw[I7,E9,R4];omega
   have f:=K2 (P:=P) (w:=w) (b:=b) (o:=o) q (fun j v i=>by
    have e:j<s:=by have:=(B0.1 i).1;omega
    rw[E8 e,H8,Y3]at i;exact a w hw j v i)
   unfold Instr.loadAt;simp[A4,Instr.sureAddr,loadVar,bT n,K9 hs,Result.andThen,f]
 | false =>
   refine⟨C[o],fun w hw=>?_⟩
   have:=a w hw 0 C[o] (by simp[p]);unfold Instr.loadAt;simp[A4,Instr.sureAddr,loadVar,bT n,Result.andThen,run_load,show w.cell? ⟨b,o,none⟩=some C[o]from by simpa using this]
def xB{b o:Nat}{T:TypeId}{fz:Nat×Nat}:∀ (vs:List Value) (i:Nat) (C:Array Value) (w w':World),w.heap[b]? = some (.cells C T fz)->o+i+vs.length<=C.size->(storeCells ⟨b,o,none⟩ vs i).run P w=.ok () w' ->
  (∀ k,k≠b->w'.heap[k]? = w.heap[k]?)/\∃ C',w'.heap[b]? = some (.cells C' T fz)/\C'.size=C.size
 | [],i,C,w,w',h,_,hr=>by cases hr;exact⟨fun _ _=>rfl,C,h,rfl⟩
 | v::r,i,C,w,w',h,hl,hr=>by
   simp only[C7]at hl;have f:o+i<C.size:=A2;have s:w.cell? ⟨b,o+i,none⟩=some C[o+i]:=by simp[World.cell?,h,f]
   have j:(w.setCell ⟨b,o+i,none⟩ v).heap[b]? = some (.cells (C.setIfInBounds (o+i) v) T fz):=by
    simp[World.setCell,H3,h]
   unfold storeCells at hr;simp only[A4,K2.add_none']at hr;have a:(store ⟨b,o+i,none⟩ v).run P w=.ok () (w.setCell ⟨b,o+i,none⟩ v)∨∃ x w2,(store ⟨b,o+i,none⟩ v).run P w=.halt x w2:=by
    unfold store;cases v<;>first
     | exact .inr ⟨_,_,rfl⟩
     | (simp only[Sem.run,s]
        split
        .exact .inr ⟨_,_,rfl⟩
        .exact .inl rfl)
   rcases a with a|⟨x,w2,a⟩
   .rw[a]at hr;simp only[Result.andThen]at hr;obtain⟨n,C',q,p⟩:=xB r (i+1) _ _ _ j (by simp;omega) hr;refine⟨fun k g=>?_,C',q,by rw[p];simp⟩;rw[n k g];simp only[World.setCell,H3];rw[A7 (fun e=>g e.symm)]
   .rw[a]at hr;cases hr
def EM{t:TypeId}{b o s:Nat}{C:V9}{T:TypeId}{y:Value}{w:World}(hs:G9 P t=some s)(hw:w.heap[b]? = some (.cells C T fz))(h1:o+s<=C.size)(hr:(Instr.storeAt t (.pointer (some ⟨b,o,none⟩)) y).run P w=.ok () w') :
  (∀ k,k≠b->w'.heap[k]? = w.heap[k]?)/\∃ C',w'.heap[b]? = some (.cells C' T fz)/\C'.size=C.size:=by
 unfold Instr.storeAt at hr;simp only[A4,Instr.sureAddr,storeVar,K9 hs,Result.andThen,Sem.run_pure]at hr;by_cases a:y.cells.size≠s
 .rw[A9 a]at hr;cases hr
 .rw[A7 a]at hr;have a:=Classical.not_not.1 a;exact xB y.cells.toList 0 C w w' hw (by rw[R4,a];omega) hr
structure MG (P:Program) (ops:List Oper) (s:Act×World):Prop where
 pl:∀ o ∈ ops,∀ t x,mF o.op=some (t,x)->BI P s.2 t (s.1.eval x)
 ap:∀ i j a b,i<j->ops[i]? = some a->ops[j]? = some b->sC b i=false->(fO a.op || fO b.op)=true->∀ t x u y,mF a.op=some (t,x)->mF b.op=some (u,y)->∀ p q,s.1.eval x=.pointer (some p)->s.1.eval y=.pointer (some q)->p.block≠q.block
def yZ{b:Nat}:t8 l b=true↔b ∈ l:=by
 unfold t8;rw[N7];constructor
 .rintro⟨x,h,e⟩;have:=A0 e;subst this;exact h
 .intro h;exact⟨b,h,dQ b⟩
def JN{a:List Tmp}:∀ {l:List Oper} {k i:Nat} {o:Oper},ZV a k l=true->l[i]? = some o->A7a a (k+i) o=true
 | [],k,i,o,_,h=>by simp at h
 | p::l,k,0,o,h,hi=>by
   simp at hi;subst hi;exact(B6 h).1
 | p::l,k,i+1,o,h,hi=>by
   have:=JN (l:=l) (k:=k+1) (i:=i) (o:=o) (B6 h).2 (by simpa using hi);rw[show k+(i+1)=k+1+i by omega];exact this
structure One (ops:List Oper) (i:Nat) (o:Oper):Prop where
 cls:GN o.op=true
 grd:o.guard=none
 ads:∀ p ∈ ops,∀ t x,mF p.op=some (t,x)->∀ d,o.dst=some d->d ∉ pP x
 lt:∀ e ∈ o.after,Region.binds .any e=true->e.on<i
def mV{ops:List Oper}(h:kX ops=true){i:Nat}{o:Oper}(hi:ops[i]? = some o):One ops i o:=by
 have h1:=JN (B6 h).1 hi;rw[F4]at h1;unfold A7a at h1;obtain⟨f,h1⟩:=B6 h1;obtain⟨a2,h1⟩:=B6 h1;obtain⟨a3,a4⟩:=B6 h1;refine⟨f,?_,fun p hp t x hx d j hm=>?_,fun e he a=>?_⟩
 .cases b:o.guard with
  | none=>rfl
  | some g=>rw[b]at a2;cases a2
 .have:t8 (A2K ops) d=true:=yZ.2 (List.mem_flatMap.2 ⟨p,hp,by rw[hx];exact hm⟩);unfold CF at a3;rw[j]at a3;simp only at a3;rw[this]at a3;cases a3
 .have:=fD.1 a4 e he;rw[a]at this;exact A1 this
def IT{p:Oper->Oper->Bool}{ops:List Oper}(h:EY p ops=true){i j:Nat}{a b:Oper}(e:i<j)(hi:ops[i]? = some a)(g:ops[j]? = some b)(he:sC b i=false):p a b=true:=by
 unfold EY at h;have f:=(B0.1 g).1
 have:=D4.1 (D4.1 h j (W4.2 f)) i (W4.2 e);rw[hi,g]at this;simp only[he,Q4]at this;exact this
def IX{o:Oper}{a:Act}(b:∀ t,d=some t->t ∉ YP o.op)(f:GN o.op=true):nS o.op (a.put d v).eval=nS o.op a.eval:=by
 cases g:o.op<;>rw[g]at f b<;>first
  | cases f;done
  | skip
 .unfold nS;simp only;rw[iA b]
 .unfold nS;simp only;rw[iA b]
 .unfold nS;simp only;rw[iA b]
 .unfold nS;simp only;rw[iA (fun t e hm=>b t e (B5.2 (.inl hm))),iA (fun t e hm=>b t e (B5.2 (.inr hm)))]
def wB{o:Oper}{s:Act×World}(e:GN o.op=true)(a:fO o.op=false)(hp:∀ t x,mF o.op=some (t,x)->BI P s.2 t (s.1.eval x))(h:(nS o.op s.1.eval).run P s.2=.ok v w'):w'=s.2:=by
 cases j:o.op<;>rw[j]at e a h hp<;>first
  | cases e;done
  | cases a;done
  | skip
 .cases h;rfl
 .cases h;rfl
 .rename_i t x;obtain⟨b,o',C,T,fz,sz,g,f,n,p,q,i,z⟩:=hp t x rfl;obtain⟨u,hu⟩:=CQ (P:=P) (T:=T) (fz:=fz) p q i z;have h:(Instr.loadAt t (s.1.eval x)).run P s.2=.ok v w':=h;rw[f,hu s.2 n]at h;cases h;rfl
def xA{o:Oper}{s:Act×World}(a:fO o.op=true)(hp:∀ t x,mF o.op=some (t,x)->BI P s.2 t (s.1.eval x))(h:(nS o.op s.1.eval).run P s.2=.ok v w') :
  ∃ t x b o' C T fz,mF o.op=some (t,x)/\s.1.eval x=.pointer (some ⟨b,o',none⟩)/\s.2.heap[b]? = some (.cells C T fz)/\(∀ k,k≠b->w'.heap[k]? = s.2.heap[k]?)/\∃ C',w'.heap[b]? = some (.cells C' T fz)/\C'.size=C.size:=by
 cases n:o.op<;>rw[n]at a h hp<;>first
  | cases a;done
  | skip
 rename_i t x y;obtain⟨b,o',C,T,fz,sz,g,e,f,p,A,j,B⟩:=hp t x rfl;have h:(do Instr.storeAt t (s.1.eval x) (s.1.eval y);pure undef:Sem Value).run P s.2=.ok v w':=h;simp only[A4]at h;cases hr:(Instr.storeAt t (s.1.eval x) (s.1.eval y)).run P s.2 with
 | ok u w2 =>
   rw[hr]at h;simp only[Result.andThen,Sem.run_pure]at h;cases h;rw[e]at hr;obtain⟨i,q⟩:=EM p f j hr;exact⟨t,x,b,o',C,T,fz,rfl,e,f,i,q⟩
 | halt z w2=>rw[hr]at h;cases h
def BI.keep{w:World}{t:TypeId}{p:Value}(h:BI P w t p)(j:∀ (b:Nat) (C:Array Value) (T:TypeId) (fz:Nat×Nat),w.heap[b]? = some (.cells C T fz)->∃ C',w'.heap[b]? = some (.cells C' T fz)/\C'.size=C.size):BI P w' t p:=by
 obtain⟨b,o,C,T,fz,s,g,a,e,f,i,n,u⟩:=h;obtain⟨C',h1,q⟩:=j b C T fz e;exact⟨b,o,C',T,fz,s,g,a,h1,f,i,A2,A2⟩
def MG.step{ops:List Oper}{s D:Act×World}{i:Nat}{o:Oper}(hr:kX ops=true)(A:MG P ops s)(hi:ops[i]? = some o)(h:tS P o s=some D):MG P ops D:=by
 obtain⟨v,h1,L⟩:=wO h;have G:=mV hr hi;have f:=D0 hi;have g:∀ p ∈ ops,∀ t x,mF p.op=some (t,x)->D.1.eval x=s.1.eval x:=fun p hp t x hx=>by rw[L];exact iA (G.ads p hp t x hx)
 have V:∀ (b:Nat) (C:Array Value) (T:TypeId) (fz:Nat×Nat),s.2.heap[b]? = some (.cells C T fz)->∃ C',D.2.heap[b]? = some (.cells C' T fz)/\C'.size=C.size:=fun b C T fz B=>by
  cases z:fO o.op with
  | false=>rw[wB G.cls z (fun t x hx=>A.pl o f t x hx) h1];exact⟨C,B,rfl⟩
  | true =>
    obtain⟨t,x,b',o',Z,X,S,W,Y,N,O,C',K,R⟩:=xA z (fun t x hx=>A.pl o f t x hx) h1;by_cases e:b=b'
    .subst e;rw[N]at B;cases B;exact⟨C',K,R⟩
    .exact⟨C,by rw[O b e];exact B,rfl⟩
 refine⟨fun p hp t x hx=>by rw[g p hp t x hx];exact(A.pl p hp t x hx).keep V,fun i j a b E h3 J M Q t x u y I F p q H n=>?_⟩;rw[g a (D0 h3) t x I]at H;rw[g b (D0 J) u y F]at n;exact A.ap i j a b E h3 J M Q t x u y I F p q H n
def A1Z{ops:List Oper}{s s1 s2:Act×World}{i j:Nat}{a b:Oper}(hr:kX ops=true)(N:MG P ops s)(G:i<j)(hi:ops[i]? = some a)(I:ops[j]? = some b)(he:sC b i=false)(h1:tS P a s=some s1)(h2:tS P b s1=some s2):∃ t,tS P b s=some t/\tS P a t=some s2:=by
 have Q:=mV hr hi;have M:=mV hr I;have ma:=D0 hi;have mb:=D0 I;have f:=IT (B6 hr).2 G hi I he;unfold A9j at f;obtain⟨i1,f⟩:=B6 f;obtain⟨i2,f⟩:=B6 f;obtain⟨i3,i4⟩:=B6 f;have Y:∀ t,a.dst=some t->t ∉ YP b.op:=fun t X hm=>by
  unfold CF at i2;rw[X]at i2;simp only at i2;rw[yZ.2 hm]at i2;cases i2
 have W:∀ t,b.dst=some t->t ∉ YP a.op:=fun t X hm=>by
  unfold CF at i3;rw[X]at i3;simp only at i3;rw[yZ.2 hm]at i3;cases i3
 have R:∀ x y,a.dst=some x->b.dst=some y->x≠y:=fun x y hx hy e=>by
  rw[hx,hy]at i1;simp only at i1;subst e;rw[dQ]at i1;cases i1
 obtain⟨v,K,e2⟩:=wO h1;obtain⟨u,B,e4⟩:=wO h2;obtain⟨a1,w1⟩:=s1;obtain⟨a2,w2⟩:=s2;obtain⟨a0,w0⟩:=s;simp only at K e2 B e4;subst e2;subst e4;rw[IX Y M.cls]at B;suffices hh:∃ w',(nS b.op a0.eval).run P w0=.ok u w'/\(nS a.op a0.eval).run P w'=.ok v w2 by
  obtain⟨w',q1,q2⟩:=hh;refine⟨(a0.put b.dst u,w'),nL (s:=(a0,w0)) q1,?_⟩
  have:=nL (P:=P) (o:=a) (s:=(a0.put b.dst u,w')) (v:=v) (w':=w2) (by show(nS a.op (a0.put b.dst u).eval).run P w'=_;rw[IX W Q.cls];exact q2);rw[this];simp only;rw[YS R]
 have E:∀ t x,mF a.op=some (t,x)->BI P w0 t (a0.eval x):=fun t x hx=>N.pl a ma t x hx
 have A:∀ t x,mF b.op=some (t,x)->BI P w0 t (a0.eval x):=fun t x hx=>N.pl b mb t x hx
 have n:∀ {o:Oper} {w w':World} {r:Value},GN o.op=true->fO o.op=false->(∀ t x,mF o.op=some (t,x)->∃ p q C T fz s g,a0.eval x=.pointer (some ⟨p,q,none⟩)/\w.heap[p]? = some (.cells C T fz)/\w'.heap[p]? = some (.cells C T fz)/\G9 P t=some s/\aC P t=some g/\q+s<=C.size/\q<C.size)->(nS o.op a0.eval).run P w=.ok r w->(nS o.op a0.eval).run P w'=.ok r w':=fun{o w w' r} hc L hp h=>by
  cases ho:o.op<;>rw[ho]at hc L h hp<;>first
   | cases hc;done
   | cases L;done
   | skip
  .cases h;rfl
  .cases h;rfl
  .rename_i t x;obtain⟨p,q,C,T,fz,sz,g,f1,f2,f3,f4,f5,f6,f7⟩:=hp t x rfl;obtain⟨z,hz⟩:=CQ (P:=P) (T:=T) (fz:=fz) f4 f5 f6 f7;have h:(Instr.loadAt t (a0.eval x)).run P w=.ok r w:=h;show(Instr.loadAt t (a0.eval x)).run P w'=.ok r w';rw[f1,hz w f2]at h;rw[f1,hz w' f3];cases h;rfl
 cases H:fO a.op with
 | false =>
   have hw:w1=w0:=wB (s:=(a0,w0)) Q.cls H E K;subst hw;refine⟨w2,B,?_⟩;refine n Q.cls H (fun t x hx=>?_) K;obtain⟨p,q,C,T,fz,sz,g,f1,f2,f3,f4,f5,f6⟩:=E t x hx;cases F:fO b.op with
   | false =>
     have S:w2=w1:=wB (s:=(a0,w1)) M.cls F A B;subst S;exact⟨p,q,C,T,fz,sz,g,f1,f2,f2,f3,f4,f5,f6⟩
   | true =>
     obtain⟨V,x',b',o',C0,T0,Z,g1,g2,g3,g4,_⟩:=xA (s:=(a0,w1)) F A B;have D:=N.ap i j a b G hi I he (by rw[H,F];rfl) t x V x' hx g1 _ _ f1 g2;exact⟨p,q,C,T,fz,sz,g,f1,f2,(g4 p D).trans f2,f3,f4,f5,f6⟩
 | true =>
   have F:fO b.op=false:=by
    cases h:fO b.op with
    | false=>rfl
    | true=>rw[H,h]at i4;cases i4
   obtain⟨V,x',b',o',C0,T0,Z,g1,g2,g3,g4,C1,g5,g6⟩:=xA (s:=(a0,w0)) H E K;have J:∀ t x,mF b.op=some (t,x)->BI P w1 t (a0.eval x):=fun t x hx=>(A t x hx).keep fun b C T fz O=>by
    by_cases e:b=b'
    .subst e;rw[g3]at O;cases O;exact⟨C1,g5,g6⟩
    .exact⟨C,by rw[g4 b e];exact O,rfl⟩
   have hw:w2=w1:=wB (s:=(a0,w1)) M.cls F J B;subst hw;refine⟨w0,?_,K⟩;refine n M.cls F (fun t x hx=>?_) B;obtain⟨p,q,C,T,fz,sz,g,f1,f2,f3,f4,f5,f6⟩:=A t x hx;have D:=N.ap i j a b G hi I he (by rw[H,F];rfl) V x' t x g1 hx _ _ g2 f1;exact⟨p,q,C,T,fz,sz,g,f1,(g4 p (fun e=>D e.symm)).trans f2,f2,f3,f4,f5,f6⟩
def ER(P:Program)(ops:List Oper):H1->Act×World->Option (Act×World)
 | [],s=>some s
 | i::l,s=>match ops[i]? with
   | some o=>match tS P o s with
     | some s=>ER P ops l s
     | none=>none
   | none=>ER P ops l s
def oF{ops:List Oper}(hr:kX ops=true){j:Nat}{b:Oper}(f:ops[j]? = some b){l2:H1}{r:Act×World}:∀ (l1:List Nat) (s:Act×World),MG P ops s->(∀ i ∈ l1,i<j/\sC b i=false)->ER P ops (l1++j::l2) s=some r->∃ s1,tS P b s=some s1/\ER P ops (l1++l2) s1=some r
 | [],s,hg,_,h=>by
   simp only[G4,ER,f]at h;split at h
   .rename_i s1 h1;exact⟨s1,h1,h⟩
   .cases h
 | i::l1,s,hg,hl,h=>by
   obtain⟨h0,he⟩:=hl i B3;have e:∀ i ∈ l1,i<j/\sC b i=false:=fun k p=>hl k (C3 _ p)
   simp only[S4,ER]at h ⊢;cases hi:ops[i]? with
   | none =>
     rw[hi]at h;exact oF hr f l1 s hg e h
   | some a =>
     rw[hi]at h;simp only at h ⊢;split at h
     .rename_i o h1;obtain⟨s1,g,n⟩:=oF hr f l1 o (hg.step hr hi h1) e h;obtain⟨t,t1,t2⟩:=A1Z hr hg h0 hi f he h1 g;exact⟨t,t1,by rw[t2];exact n⟩
     .cases h
def kF(n:Nat)(listed:Array Bool):H1:=(List.range n).filter fun i=>!listed.getD i true
def qN{n:Nat}{i:Nat}:i ∈ kF n listed↔i<n/\listed.getD i true=false:=by
 unfold kF;rw[P5,W4];simp
def EU(n:Nat)(listed:Array Bool):(kF n listed).Pairwise (· < ·):=List.Pairwise.filter _ List.pairwise_lt_range
def YO{n:Nat}{i:Nat}{l1 l2:H1}(hi:i<listed.size)(h:kF n listed=l1++i::l2):kF n (listed.setIfInBounds i true)=l1++l2:=by
 have hp:=EU n listed;rw[h]at hp;have b:∀ k ∈ l1++l2,(k != i)=true:=fun k a=>by
  have hp:=List.pairwise_append.1 hp;rcases B5.1 a with a|a
  .have:=hp.2.2 k a i B3;simp;omega
  .have:=(List.pairwise_cons.1 hp.2.1).1 k a;simp;omega
 have e:kF n (listed.setIfInBounds i true)=(kF n listed).filter fun k=>k != i:=by
  unfold kF;rw[List.filter_filter];apply List.filter_congr;intro k _;simp only[B7,F9];by_cases e:i=k
  .subst e;simp[hi]
  .simp[e,Ne.symm e]
 rw[e,h,List.filter_append,List.filter_cons];have f:(i != i)=false:=by simp
 rw[f];simp only[J6,if_false];rw[dE.2 fun k a=>b k (B5.2 (.inl a)),dE.2 fun k a=>b k (B5.2 (.inr a))]
def CL{ops:Array Oper}(hr:kX ops.toList=true){Q:Exit->Act->World->Prop}:∀ (fuel:Nat) (listed:Array Bool) (a:Act) (w:World) (r:Act×World),listed.size=ops.size->MG P ops.toList (a,w)->(kF ops.size listed).length=fuel->ER P ops.toList (kF ops.size listed) (a,w)=some r->Q .normal r.1 r.2->iI P rd .any ops Q fuel listed a w
 | 0,listed,a,w,r,hsz,hg,hl,h,hq=>by
   have h0:=F8.1 hl;rw[h0]at h;cases h;refine⟨?_,hq⟩;rw[bP];intro i hi;have:i ∈ kF ops.size listed:=by
    unfold Region.ready at hi;rw[P5]at hi;unfold kF;rw[P5];exact⟨hi.1,(B6 hi.2).1⟩
   rw[h0]at this;cases this
 | fuel+1,listed,a,w,r,hsz,hg,hl,h,hq=>by
   have j:∀ {i:Nat},i<ops.size->∃ o,ops.toList[i]? = some o/\ops[i]? = some o:=fun{i} hi=>⟨ops[i],by simp[hi],by simp[hi]⟩
   refine⟨fun J=>?_,fun i hi=>?_⟩
   ·
    cases g:kF ops.size listed with
    | nil=>rw[g]at hl;cases hl
    | cons i t =>
      exfalso;have B:i ∈ kF ops.size listed:=by rw[g];exact B3
      obtain⟨i1,i2⟩:=qN.1 B;obtain⟨o,s,A⟩:=j i1;have z:=mV hr s;have f:=EU ops.size listed;rw[g]at f;have x:∀ k,k<i->listed.getD k false=true:=fun k F=>by
       have p:k<listed.size:=A2;cases hv:listed.getD k true with
       | true=>rw[<- hv];simp[B7,p]
       | false =>
         have:k ∈ kF ops.size listed:=qN.2 ⟨A2,hv⟩;rw[g]at this;rcases B4.1 this with e|hm
         .omega
         .have:=(List.pairwise_cons.1 f).1 k hm;omega
      have:i ∈ Region.ready .any ops listed:=by
       unfold Region.ready;rw[P5,W4];refine⟨i1,?_⟩;rw[i2,A];simp only[Bool.not_false,gL,L3,bN];rw[fD];intro e he;cases I:Region.binds .any e with
       | false=>rfl
       | true=>rw[x e.on (z.lt e he I)];rfl
      rw[J]at this;cases this
   .have hi':=hi;unfold Region.ready at hi;rw[P5,W4]at hi;obtain⟨i1,i2⟩:=hi;obtain⟨o,s,A⟩:=j i1;have z:=mV hr s;rw[A]at i2;obtain⟨i2,i3⟩:=B6 i2;simp only[L3,bN]at i3;have E:listed.getD i true=false:=by simpa using i2
    have u:i ∈ kF ops.size listed:=qN.2 ⟨i1,E⟩;obtain⟨l1,l2,b⟩:=List.append_of_mem u;have f:=EU ops.size listed;rw[b]at f;have C:∀ k ∈ l1,k<i/\sC o k=false:=fun k F=>by
     refine⟨(List.pairwise_append.1 f).2.2 k F i B3,?_⟩;cases he:sC o k with
     | false=>rfl
     | true =>
       exfalso;unfold sC at he;rw[Array.any_eq_true']at he;obtain⟨e,hm,he⟩:=he;obtain⟨M,D⟩:=B6 he;have D:=A0 D
       have:=(fD.1 i3) e hm;rw[M,D]at this;simp only[Q3,Q4]at this;have p:=(qN (n:=ops.size) (listed:=listed) (i:=k)).1 (by rw[b];exact B5.2 (.inl F));have G:k<listed.size:=A2;have q:=p.2;simp[B7,G]at this q;rw[this]at q;cases q
    rw[b]at h;obtain⟨s1,H,L⟩:=oF hr s l1 (a,w) hg C h;have X8:=YO (n:=ops.size) (listed:=listed) (i:=i) (l1:=l1) (l2:=l2) A2 b;obtain⟨K,w1⟩:=s1;unfold gO;rw[A];simp only;have hw:Region.wanted o (yielded ops a.tmps)=true:=by unfold Region.wanted;rw[z.grd]
    rw[A9 hw];refine A2a z.cls H (CL hr fuel (listed.setIfInBounds i true) K w1 r (by simpa using hsz) (hg.step hr s H) ?_ (by rw[X8];exact L) hq);rw[X8];have:(l1++i::l2).length=fuel+1:=by rw[<- b];exact hl
    simp at this ⊢;omega
def BZ{ops:Array Oper}(hr:kX ops.toList=true){Q:Exit->Act->World->Prop}:∀ (d k:Nat) (a:Act) (w:World),k+d=ops.size->wpL P rd ops (fun e a' w'=>e=.normal/\Q e a' w') (ops.toList.drop k) a w->∃ r,ER P ops.toList (List.range' k d) (a,w)=some r/\Q .normal r.1 r.2
 | 0,k,a,w,hk,h=>by
   have:ops.toList.drop k=[]:=R9 (by simp;omega);rw[this]at h;exact⟨(a,w),rfl,h.2⟩
 | d+1,k,a,w,hk,h=>by
   have b:k<ops.toList.length:=by simp;omega
   rw[c9 b]at h;have f:=mV hr (A5 b);unfold wpL at h;have hw:Region.wanted ops.toList[k] (yielded ops a.tmps)=true:=by unfold Region.wanted;rw[f.grd]
   rw[A9 hw]at h;obtain⟨a',w',h1,g⟩:=A37 f.cls (fun c a w hh=>by cases hh.1) h;obtain⟨r,r1,i⟩:=BZ hr d (k+1) a' w' A2 g;refine⟨r,?_,i⟩;rw[List.range'_succ];simp only[ER,A5 b,h1];exact r1
def A22{ops:Array Oper}(hr:kX ops.toList=true){Q:Exit->Act->World->Prop}{a:Act}{w:World}(b:∀ w',w'.heap=w.heap->MG P ops.toList (a,w'))(h:∀ d,wpL P rd ops (fun e a' w'=>e=.normal/\Q e a' w') ops.toList a { w with drawn:=d })(d:Nat):iI P rd .any ops Q ops.size (Array.replicate ops.size false) a { w with drawn:=d }:=by
 obtain⟨r,r1,f⟩:=BZ hr ops.size 0 a { w with drawn:=d } A2 (by simpa using h d);have e:kF ops.size (Array.replicate ops.size false)=List.range' 0 ops.size:=by
  unfold kF;rw[List.range_eq_range',dE];intro i hi;have:i<ops.size:=by have:=List.mem_range'.1 hi;omega
  simp[B7,this]
 exact CL hr ops.size _ a _ r (by simp) (b _ rfl) (by rw[e];simp) (by rw[e];exact r1) f
end
end
end Go.Sx
