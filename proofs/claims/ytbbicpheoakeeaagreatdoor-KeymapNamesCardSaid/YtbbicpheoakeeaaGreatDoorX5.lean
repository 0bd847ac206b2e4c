import Derived.Test.YtbbicpheoakeeaaGreatDoorX4
import Derived.MapKept
import Derived.WideKeyRuns
import Derived.Lib.Builder
import Derived.LoopNIn
import Derived.RangeFuncRecord
set_option linter.all false
set_option maxRecDepth 100000
set_option maxHeartbeats 4000000
namespace Go.Sx
variable {ks l ts:G9}{k' v v' x':Value}{cs:List Frame}{clock k pi:Nat}{y:MTy}{d:Option Tmp}{kt pt ty:TypeId}{r us vs:List U}{rows rs:List (List U)}{es es':Array MapEntry}{hs xs:C9}{c:Code}{e':MapEntry}{tys:List TypeId}{w':World}{fz:Nat×Nat}{listed:Array Bool}
section
open Go
variable [Ora]
section
variable {P:Program} {base:Nat} {ρ:Ren} {m m':Mem} {w:World}
def sU:∀ {ts:G9} {cs cs':C9},yM ts cs=true->(∀ t ∈ ts,t<10)->LR ρ cs cs'->(cs.map (D6 Ora.env)).map F9=ts/\cs'=(cs.map (D6 Ora.env)).map R8
 | [],[],cs',_,_,hl=>by cases hl.nil_inv;exact⟨rfl,rfl⟩
 | t::ts,v::vs,cs',h,ht,hl=>by
   obtain⟨h1,f⟩:=B4 (show(Nat.beq (G2 v) t && yM ts vs)=true from h);have h1:=A0 h1;obtain⟨v',r,rfl,g1,g2⟩:=hl.tail;obtain⟨a,b⟩:=sU f (fun x hx=>ht x (C3 _ hx)) g2;obtain⟨c,d⟩:=w9 g1 (by rw[h1];exact ht t B2);have e:R8 (D6 Ora.env v)=v':=by unfold R8;rw[c];rfl
   exact⟨by rw[B9,B9,a,d,h1],by rw[B9,B9,e,<- b]⟩
 | [],_::_,_,h,_,_=>by cases h
 | _::_,[],_,h,_,_=>by cases h
def jB{a:Bool}{cs:C9}(h:nD a ts v=some cs)(f:∀ t ∈ ts,t<10)(hv:VR ρ v v'):v'=W9 a (cs.map (D6 Ora.env))/\(cs.map (D6 Ora.env)).map F9=ts:=by
 unfold nD at h;split at h
 .rename_i c;obtain⟨h1,h⟩:=A3 h;cases h;obtain⟨cs',rfl,g⟩:=V4 hv;obtain⟨b,e⟩:=sU h1 f g;exact⟨by rw[e];rfl,b⟩
 .cases h
 .obtain⟨h1,h⟩:=A3 h;cases h;obtain⟨b,e⟩:=sU h1 f (LR.cons hv LR.nil);refine⟨?_,b⟩
  have:=D9 List.head? e
  simpa [W9]using this
def wN{t:Nat}(h:fJ P t=some k):k<10:=by
 unfold fJ at h;split at h
 .cases h;decide
 .cases h;have:=L4 ‹_›;omega
 .cases h;decide
 .cases h
def JQ:∀ {g:List Field} {i:Nat} {l:G9},uB P g i=some l->∀ t ∈ l,t<10
 | [],i,l,h,t,e=>by cases h;cases e
 | f::g,i,l,h,t,e=>by
   unfold uB at h;split at h
   .rename_i a b h1 j;obtain⟨_,h⟩:=A3 h;cases h;rcases B3.1 e with rfl|e
    .exact wN h1
    .exact JQ j t e
   .cases h
def EE{T:TypeId}(h:TT P T=some y):P.underlying T=some (.map y.kt y.vt)/\nN P y.kt=some (y.ka,y.ks)/\OQ P y.vt=some (y.va,y.vs)/\0<y.ks.length/\(∀ t ∈ y.ks,t<10)/\(∀ t ∈ y.vs,t<10)/\(y.va=false->y.vs.length=1):=by
 unfold TT at h;split at h
 .rename_i kt vt hu;split at h
  .rename_i ka k ks va vs h1 a;cases h;refine⟨hu,h1,a,Nat.succ_pos _,?_,?_,?_⟩
   .intro t e;unfold nN at h1;split at h1
    .cases hs:P.stoodInHeld kt with
     | true=>rw[hs]at h1;cases h1
     | false =>
       rw[hs]at h1;simp only[D7]at h1;split at h1
       .rename_i l g;cases h1;exact JQ g t e
       .cases h1
    .split at h1
     .rename_i z f;cases h1;simp only[B3,L1,or_false]at e;subst e;exact wN f
     .cases h1
   .intro t e;unfold OQ at a;split at a
    .obtain⟨h3,a⟩:=A3 a;cases a;exact A1 (D3.1 h3 t e)
    .obtain⟨h3,a⟩:=A3 a;cases a;simp only[B3,L1,or_false]at e;subst e;exact A1 h3
    .cases a
   .intro b;have b:va=false:=b;subst b;unfold OQ at a;split at a
    .obtain⟨_,a⟩:=A3 a;cases a
    .obtain⟨_,a⟩:=A3 a;cases a;rfl
    .cases a
  .cases h
 .cases h
def PC{t:TypeId}{u v:U}(h:fJ P t=some k)(h1:F9 u=k)(f:F9 v=k)(n:Nat)(w:World):(Op.equalIn (n+1) t (R8 u) (R8 v)).run P w=.ok (isU u v) w:=by
 have o:=wN h;unfold fJ at h;split at h
 .rename_i hu;cases h;cases u<;>simp only[F9]at h1<;>first|omega|skip
  .have:=L4 ‹_›;omega
  .cases v<;>simp only[F9]at f<;>first|omega|skip
   .have:=L4 ‹_›;omega
   .simp[R8,toV,isU,eqU,Op.equalIn,A4,C8 hu,Result.andThen]
 .rename_i j hu;cases h;cases u with
  | int a x =>
    cases v with
    | int b z =>
      have g:=qJ h1;have i:=qJ f;subst g;subst i;simp[R8,toV,isU,eqU,Op.equalIn,A4,C8 hu,Result.andThen]
    | bool b=>simp only[F9]at f;have:=L4 j;omega
    | str s=>simp only[F9]at f;have:=L4 j;omega
    | seq _ _ _=>simp only[F9]at f;omega
    | none=>simp only[F9]at f;omega
  | bool b=>simp only[F9]at h1;have:=L4 j;omega
  | str s=>simp only[F9]at h1;have:=L4 j;omega
  | seq _ _ _=>simp only[F9]at h1;omega
  | none=>simp only[F9]at h1;omega
 .rename_i hu;cases h;cases u<;>simp only[F9]at h1<;>first|omega|skip
  .have:=L4 ‹_›;omega
  .cases v<;>simp only[F9]at f<;>first|omega|skip
   .have:=L4 ‹_›;omega
   .rename_i p q
    have:=run_equalIn_string (P:=P) w n t ⟨⟨p⟩⟩ ⟨⟨q⟩⟩ hu;have e:∀ s:List UInt8,R8 (.str s)=.string ⟨⟨s⟩⟩:=fun _=>rfl
    rw[e,e,this];simp[isU,eqU,ByteArray.toList_eq]
 .cases h
def WC{t:TypeId}{d:TypeDesc}{u v:U}(g:P.underlying t=some d)(h:fJ P t=some k)(h1:F9 u=k)(f:F9 v=k):Instr.sameNow d (R8 u) (R8 v)=some (isU u v):=by
 unfold fJ at h;split at h
 .rename_i hu;rw[hu]at g;cases g;cases h;cases u<;>simp only[F9]at h1<;>first|omega|skip
  .have:=L4 ‹_›;omega
  .cases v<;>simp only[F9]at f<;>first|omega|skip
   .have:=L4 ‹_›;omega
   .simp[R8,toV,isU,eqU,Instr.sameNow]
 .rename_i j hu;rw[hu]at g;cases g;cases h;cases u with
  | int a x =>
    cases v with
    | int b z =>
      have i:=qJ h1;have n:=qJ f;subst i;subst n;simp[R8,toV,isU,eqU,Instr.sameNow]
    | bool b=>simp only[F9]at f;have:=L4 j;omega
    | str s=>simp only[F9]at f;have:=L4 j;omega
    | seq _ _ _=>simp only[F9]at f;have:=L4 j;omega
    | none=>simp only[F9]at f;have:=L4 j;omega
  | bool b=>simp only[F9]at h1;have:=L4 j;omega
  | str s=>simp only[F9]at h1;have:=L4 j;omega
  | seq _ _ _=>simp only[F9]at h1;have:=L4 j;omega
  | none=>simp only[F9]at h1;have:=L4 j;omega
 .rename_i hu;rw[hu]at g;cases g;cases h;cases u<;>simp only[F9]at h1<;>first|omega|skip
  .have:=L4 ‹_›;omega
  .cases v<;>simp only[F9]at f<;>first|omega|skip
   .have:=L4 ‹_›;omega
   .rename_i p q;have e:(ByteArray.mk ⟨p⟩ == ByteArray.mk ⟨q⟩)=(p == q):=by
     show(Array.mk p == Array.mk q)=_;rw[J7,beq_iff_eq,beq_iff_eq];exact⟨fun h=>by injection h,fun h=>by rw[h]⟩
    simp[R8,toV,isU,eqU,Instr.sameNow,e]
 .cases h
def rY{t:TypeId}(h:fJ P t=some k){X:C9}{i:Nat}(hx:X[i]? = some v)(w:World):(part t ⟨X⟩ i).run P w=.ok v w:=by
 have a:∀ d,P.underlying t=some d->(match d with|.struct _|.array _ _=>False|_=>True)->(part t ⟨X⟩ i).run P w=.ok v w:=fun d e b=>by
  cases d<;>simp only at b<;>simp[part,isAgg,A4,C8 e,Result.andThen,hx]
 unfold fJ at h;split at h
 .exact a _ ‹_› trivial
 .exact a _ ‹_› trivial
 .exact a _ ‹_› trivial
 .cases h
def CE:∀ {j:List Field} {i:Nat} {ks:G9} {us vs:List U} {p q:C9},uB P j i=some ks->us.map F9=ks->vs.map F9=ks->p.length=i->q.length=i->∀ (n:Nat) (w:World),(Op.eqFields (n+1) ⟨p++us.map R8⟩ ⟨q++vs.map R8⟩ j).run P w=.ok (T6 us vs) w
 | [],i,ks,us,vs,p,q,h,h1,h2,hp,hq,n,w=>by
   cases h;have b:us=[]:=by simpa using h1
   have e:vs=[]:=by simpa using h2
   subst b;subst e;simp[Op.eqFields,T6]
 | f::j,i,ks,us,vs,p,q,h,h1,h2,hp,hq,n,w=>by
   unfold uB at h;split at h
   .rename_i t l g B;obtain⟨A,h⟩:=A3 h;cases h;obtain⟨o,a⟩:=B4 A;have a:=A0 a;have z:f.name ≠ "_":=by simpa using o
    cases us with
    | nil=>cases h1
    | cons u us =>
      cases vs with
      | nil=>cases h2
      | cons v vs =>
        simp only[B9,J2]at h1 h2;have g1:(p++(u::us).map R8)[f.offset]? = some (R8 u):=by rw[a,<- hp,E0 (A7 _)];simp
        have g2:(q++(v::vs).map R8)[f.offset]? = some (R8 v):=by rw[a,<- hq,E0 (A7 _)];simp
        have b:=rY g g1 w;have e:=rY g g2 w;have x:=PC g h1.1 h2.1 n w;have s:=CE (p:=p++[R8 u]) (q:=q++[R8 v]) B h1.2 h2.2 (by simp[hp]) (by simp[hq]) n w;rw[M4,M4]at s;unfold Op.eqFields;rw[A9 z];simp only[T6];cases hs:isU u v with
        | false =>
          simp only[A4,b,e,x,hs,Result.andThen_ok];simp
        | true =>
          simp only[A4,b,e,x,hs,Result.andThen_ok,Bool.true_and];exact s
   .cases h
def A6Z{a:Bool}(h:nN P kt=some (a,ks))(h1:us.map F9=ks)(b:vs.map F9=ks)(w:World):(Op.equal kt (W9 a us) (W9 a vs)).run P w=.ok (T6 us vs) w:=by
 unfold nN at h;split at h
 .rename_i f hu;cases hs:P.stoodInHeld kt with
  | true=>rw[hs]at h;cases h
  | false =>
    rw[hs]at h;simp only[D7]at h;split at h
    .rename_i l i;cases h;have e:P.fieldsOf kt=f:=by simp[Program.fieldsOf,hu]
     show(Op.equalIn (9999+1) kt (.agg _) (.agg _)).run P w=_;rw[run_equalIn_struct (P:=P) w 9999 kt _ _ (by rw[e];exact hu) hs,e];exact CE (p:=[]) (q:=[]) i h1 b rfl rfl 9998 w
    .cases h
 .split at h
  .rename_i k g;cases h;cases us with
   | nil=>cases h1
   | cons u us=>cases us with
     | cons _ _=>simp at h1
     | nil=>cases vs with
       | nil=>cases b
       | cons v vs=>cases vs with
         | cons _ _=>simp at b
         | nil =>
           simp only[B9,F7,J2,and_true]at h1 b
           have:=PC g h1 b 9999 w;show(Op.equalIn (9999+1) kt (R8 u) (R8 v)).run P w=_;rw[this];simp[T6]
  .cases h
def yU{t:TypeId}(h:fJ P t=some k)(e:Bool)(n:Nat)(v:Value)(w:World):(Instr.checkKey e (n+1) t v).run P w=.ok () w:=by
 unfold fJ at h;split at h
 .rename_i hu;simp[Instr.checkKey,A4,C8 hu,Result.andThen]
 .rename_i hu;simp[Instr.checkKey,A4,C8 hu,Result.andThen]
 .rename_i hu;simp[Instr.checkKey,A4,C8 hu,Result.andThen]
 .cases h
def rK(e:Bool)(n:Nat)(w:World):∀ (L:List Field) (i:Nat) (ks:List Nat) (us:List U) (p:List Value),uB P L i=some ks->us.map F9=ks->p.length=i ->
  (forIn L PUnit.unit fun f (_:PUnit)=>if f.name ≠ "_" then(do let x <- part f.type ⟨p++us.map R8⟩ f.offset;Instr.checkKey e (n+1) f.type x;pure (ForInStep.yield PUnit.unit):Sem (ForInStep PUnit))else pure (ForInStep.yield PUnit.unit)).run P w=.ok PUnit.unit w
 | [],i,ks,us,p,h,h1,hp=>by simp
 | f::fs,i,ks,us,p,h,h1,hp=>by
   unfold uB at h;split at h
   .rename_i t l j A;obtain⟨s,h⟩:=A3 h;cases h;obtain⟨b,a⟩:=B4 s;have a:=A0 a;have o:f.name ≠ "_":=by simpa using b
    cases us with
    | nil=>cases h1
    | cons u us =>
      simp only[B9,J2]at h1;have g1:(p++(u::us).map R8)[f.offset]? = some (R8 u):=by rw[a,<- hp,E0 (A7 _)];simp
      have q:=rY j g1 w;have z:=yU j e n (R8 u) w;have g:=rK e n w fs (i+1) l us (p++[R8 u]) A h1.2 (by simp[hp]);rw[M4]at g;rw[List.forIn_cons];simp only[A9 o,A4,q,z,Result.andThen_ok,Sem.run_pure];exact g
   .cases h
def CN{a:Bool}(h:nN P kt=some (a,ks))(h1:us.map F9=ks)(e:Bool)(w:World):(Instr.checkKey e 10000 kt (W9 a us)).run P w=.ok () w:=by
 unfold nN at h;split at h
 .rename_i b hu;cases hs:P.stoodInHeld kt with
  | true=>rw[hs]at h;cases h
  | false =>
    rw[hs]at h;simp only[D7]at h;split at h
    .rename_i l g;have h:=h;cases h;have key:∀ n:Nat,(Instr.checkKey e (n+2) kt (.agg ⟨us.map R8⟩)).run P w=.ok () w:=fun n=>by
      rw[Instr.checkKey];simp only[A4,C8 hu,Result.andThen_ok];rw[<- Array.forIn_toList]
      have:=rK e n w b.toList 0 _ us [] g h1 rfl;rw[G3]at this;rw[this];rfl
     exact key 9998
    .cases h
 .split at h
  .rename_i k f;cases h;exact yU f e 9999 _ w
  .cases h
def nI(k:List U):List (List U)->Nat->Option (Nat×List U)
 | [],_=>none
 | r::rs,i=>if T6 k r then some (i,r)else nI k rs (i+1)
def sH:∀ (us r:List U),T6 us (r.take us.length)=T6 us r
 | [],r=>rfl
 | a::us,[]=>rfl
 | a::us,b::r=>by
   show(isU a b && T6 us (r.take us.length))=(isU a b && T6 us r);rw[sH us r]
def uZ.head{e:MapEntry}{es:List MapEntry}(h:uZ y (r::rs) (e::es)):(r.map F9=y.ks++y.vs/\e.key=W9 y.ka (r.take y.ks.length)/\e.val=W9 y.va (r.drop y.ks.length))/\uZ y rs es :=
 ⟨h.2 0 r e rfl rfl,by have:=h.1;simpa using this,fun i row b h1 a=>h.2 (i+1) row b (by simpa using h1) (by simpa using a)⟩
def AN(h:r.map F9=y.ks++y.vs):(r.take y.ks.length).map F9=y.ks/\(r.drop y.ks.length).map F9=y.vs:=by
 constructor
 .rw[List.map_take,h,List.take_left'];rfl
 .rw[List.map_drop,h,List.drop_left'];rfl
abbrev AF(y:MTy)(us:List U)(rows:List (List U))(i:Nat):Option (Nat×Value):=(nI us rows i).map fun p=>(p.1,W9 y.va (p.2.drop y.ks.length))
def DB{y:MTy}(f:nN P y.kt=some (y.ka,y.ks)){us:List U}(h1:us.map F9=y.ks):∀ {rows:List (List U)} {es:List MapEntry} (i:Nat),uZ y rows es->(Instr.findAsking y.kt (W9 y.ka us) es i).run P w=.ok (AF y us rows i) w
 | [],[],i,_=>by simp[Instr.findAsking,AF,nI]
 | [],_::_,i,h=>by have:=h.1;simp at this
 | _::_,[],i,h=>by have:=h.1;simp at this
 | r::rs,e::es,i,h=>by
   obtain⟨⟨a,b,c⟩,d⟩:=h.head;obtain⟨t1,t2⟩:=AN a;have hlen:us.length=y.ks.length:=by rw[<- h1,E4]
   have j:=A6Z (P:=P) f h1 t1 w;have n:T6 us (r.take y.ks.length)=T6 us r:=by rw[<- hlen];exact sH us r
   have g:=DB f h1 (i+1) d;unfold Instr.findAsking;rw[b];simp only[A4,j,n,Result.andThen_ok,AF,nI];cases o:T6 us r with
   | true=>simp[c]
   | false=>simp only[J3,if_false];exact g
def YI{y:MTy}{k:Nat}{d:TypeDesc}(j:P.underlying y.kt=some d)(hs:fJ P y.kt=some k)(n:y.ka=false)(f:y.ks=[k]){u:U}(h1:F9 u=k):∀ {rows:List (List U)} {es:List MapEntry} (i:Nat),uZ y rows es->Instr.findNow d (R8 u) es i=some (AF y [u] rows i)
 | [],[],i,_=>rfl
 | [],_::_,i,h=>by have:=h.1;simp at this
 | _::_,[],i,h=>by have:=h.1;simp at this
 | r::rs,e::es,i,h=>by
   obtain⟨⟨a,b,c⟩,q⟩:=h.head;cases r with
   | nil=>rw[f]at a;simp at a
   | cons g r =>
     have a0:F9 g=k:=by rw[f]at a;simp at a;exact a.1
     have b:e.key=R8 g:=by rw[b,n,f];rfl
     have p:=WC j hs h1 a0;have o:=YI j hs n f h1 (i+1) q;unfold Instr.findNow;rw[b,p];simp only[AF,nI,T6,nQ];cases s:isU u g with
     | true=>simp[c]
     | false=>simp only[J3,if_false];exact o
def yH(a:nN P y.kt=some (y.ka,y.ks))(h1:us.map F9=y.ks){es:List MapEntry}(h:uZ y rows es):(Instr.findKey y.kt (W9 y.ka us) es).run P w=.ok (AF y us rows 0) w:=by
 have f:=a;unfold nN at a;split at a
 .rename_i i hu;rw[run_findKey_eq w (by rw[hu]) (W9 y.ka us) es];exact DB f h1 0 h
 .split at a
  .rename_i k hs;have g:y.ka=false:=(D9 Prod.fst (A8 a)).symm;have b:y.ks=[k]:=(D9 Prod.snd (A8 a)).symm;rw[b]at h1;cases us with
   | nil=>simp at h1
   | cons u us=>cases us with
     | cons _ _=>simp at h1
     | nil =>
       simp only[B9,F7,J2,and_true]at h1;obtain⟨d,e⟩:∃ d,P.underlying y.kt=some d:=by
        cases e:P.underlying y.kt with
        | some d=>exact⟨d,rfl⟩
        | none=>unfold fJ at hs;rw[e]at hs;cases hs
       rw[g];exact MapKept.run_findKey e (YI e hs g b h1 0 h)
  .cases a
def JK{k:List U}:∀ (rows:List (List U)) (i:Nat),(nI k rows i).isSome=rows.any (T6 k)
 | [],_=>rfl
 | r::rs,i=>by
   simp only[nI,P6];cases T6 k r with
   | true=>rfl
   | false=>simp only[J3,if_false,P8];exact JK rs (i+1)
def BW{k:List U}:∀ (rows:List (List U)) (i:Nat),(nI k rows i).map (·.2)=rows.find? (T6 k)
 | [],_=>rfl
 | r::rs,i=>by
   simp only[nI,jX];cases T6 k r with
   | true=>rfl
   | false=>simp only[J3,if_false];exact BW rs (i+1)
def qQ{k:List U}:∀ {rows:List (List U)} {i j:Nat} {r:List U},nI k rows i=some (j,r)->i<=j/\rows[j-i]? = some r/\T6 k r=true
 | [],_,_,_,h=>by cases h
 | x::rs,i,j,r,h=>by
   unfold nI at h;cases e:T6 k x with
   | true=>rw[e]at h;cases h;exact⟨A7 _,by simp,e⟩
   | false =>
     rw[e]at h;obtain⟨a,b,c⟩:=qQ (rows:=rs) h;exact⟨A2,by rw[show j-i=(j-(i+1))+1 by omega];exact b,c⟩
def HZ{kw:Nat}{c:List U}:∀ (rows:List (List U)) (i:Nat),IA kw c rows=match nI (c.take kw) rows i with
  | some p=>rows.set (p.1-i) c
  | none=>rows++[c]
 | [],_=>rfl
 | r::rs,i=>by
   unfold IA nI;cases b:T6 (c.take kw) r with
   | true=>simp
   | false =>
     simp only[J3,if_false];rw[HZ rs (i+1)];cases hx:nI (c.take kw) rs (i+1)with
     | none=>rfl
     | some p =>
       obtain⟨a,_⟩:=qQ (r:=p.2) (j:=p.1) hx;show r::rs.set (p.1-(i+1)) c=(r::rs).set (p.1-i) c;rw[show p.1-i=(p.1-(i+1))+1 by omega];rfl
def EO{b:Nat}(h:VR ρ (.map (some b)) v'):∃ l,ρ b=some l/\v'=.map (some l.blk):=by
 cases h with
 | pure hp=>simp[I1]at hp
 | map h=>exact⟨_,h,rfl⟩
def A2S{T:TypeId}(h:HR P base ρ m.H w)(x:base<=w.heap.size)(a:YV P m T=some (v,m'))(o:J9 ρ m.n m'.hi)(p:Sat m'.lg):VOk P base ρ m w (Instr.makeMap T none) v m':=by
 unfold YV at a;split at a
 .rename_i y j;rw[N2]at a;have g:=y6 a;have s:=jU (lg:=m'.lg) p (by rw[g];exact .refl _);obtain⟨q,A,u,wd,rows,z⟩:=s;have f:Ora.env m.lg.nx=.seq false y.w []:=by
   have hw:0<y.w:=by have:=(EE j).2.2.2.1;unfold MTy.w;omega
   rw[q];show(if y.w=0 then U.none else match c8 y.w (0 / y.w) []with
    | some r=>U.seq false y.w r
    | none=>.none)=_
   rw[A6 A2,Nat.zero_div];rfl
  have b:=St.wLg h (eZ m (10+y.w) (.mk y.w) []);obtain⟨h1,t,h3⟩:=St.alloc (w':={ w with heap:=w.heap.push (.map #[] 0) }) (l:=lc w.heap.size 0 0) b.hr x a (by rw[UX];exact o) ⟨rfl,rfl,rfl⟩ rfl rfl
   ⟨⟨rfl,rfl⟩,y,#[],0,[],j,rfl,by simp,f,⟨rfl,fun i row e hr=>by simp at hr⟩,List.nodup_nil,fun e he=>by cases he⟩
  refine⟨.map (some w.heap.size),_,_,?_,?_,St.trans o b h3⟩
  .simp[Instr.makeMap,newObj,Sem.run,A4,Result.andThen]
  .rw[h1];exact .map t
 .cases a
def gZ{t:Nat}{op:LOp}(h:T9 m t op xs=some (v,m'))(i:Sat m'.lg):t<10/\F9 (evU op (xs.map (D6 Ora.env)))=t/\VR ρ v (R8 (evU op (xs.map (D6 Ora.env)))):=by
 obtain⟨u,f,g,r,e,a,b⟩:=M1 h i;subst f;refine⟨b,g,?_⟩;have:R8 (evU op (xs.map (D6 Ora.env)))=r:=by unfold R8;rw[e];rfl
 rw[this];exact a ρ
def BZ{wd kw c t:Nat}{b:C9}{q:Bool}{rows:List (List U)}(s:Ora.env c=.seq q wd rows)(u:b.length=kw):∀ {ts:G9} {f:C9} {j:Nat} {m m':Mem} {hs:C9},sQ wd kw c t b ts f j m=some (hs,m')->Sat m'.lg ->
  J5 m m'/\m.lg.le m'.lg/\hs.length=ts.length/\f.length=ts.length /\
  (∀ r,rows.find? (T6 (b.map (D6 Ora.env)))=some r->∀ i:Nat,i<ts.length->∃ v,hs[i]? = some v/\VR ρ v (R8 (r.getD (j+i) .none))) /\
  (rows.find? (T6 (b.map (D6 Ora.env)))=none->∀ i:Nat,i<ts.length->∃ v z,hs[i]? = some v/\f[i]? = some z/\VR ρ v (R8 (D6 Ora.env z)))
 | [],[],j,m,m',hs,h,hS=>by
   cases h;exact⟨.refl _,.refl _,rfl,rfl,fun r _ i hi=>(by simp at hi),fun _ i hi=>(by simp at hi)⟩
 | [],_::_,j,m,m',hs,h,hS=>by cases h
 | _::_,[],j,m,m',hs,h,hS=>by cases h
 | tg::ts,z::f,j,m,m',hs,h,hS=>by
   unfold sQ at h;split at h
   .rename_i v m1 hv;split at h
    .rename_i r m2 hr;cases h;obtain⟨A,a2,a3,a4,a5,B⟩:=BZ s u hr hS;have n:Sat m1.lg:=hS.le a2;obtain⟨_,_,a⟩:=gZ (ρ:=ρ) hv n;have o:evU (.mget wd kw j) ((hole c t::z::b).map (D6 Ora.env))=(match rows.find? (T6 (b.map (D6 Ora.env)))with
       | some r=>r.getD j .none
       | none=>D6 Ora.env z):=by
      show evU (.mget wd kw j) (Ora.env c::D6 Ora.env z::b.map (D6 Ora.env))=_;rw[s];show(if wd=wd/\(b.map (D6 Ora.env)).length=kw then _ else U.none)=_;rw[A9 ⟨rfl,by rw[E4];exact u⟩];cases rows.find? (T6 (b.map (D6 Ora.env)))<;>rfl
     rw[o]at a;refine⟨(H3 hv).trans A,(H6 hv).trans a2,by simp[a3],by simp[a4],fun C e i hi=>?_,fun e i hi=>?_⟩
     .cases i with
      | zero=>rw[e]at a;exact⟨v,rfl,a⟩
      | succ i =>
        obtain⟨x,g,p⟩:=a5 C e i (by simpa using hi);exact⟨x,by simpa using g,by rw[show j+(i+1)=j+1+i by omega];exact p⟩
     .cases i with
      | zero=>rw[e]at a;exact⟨v,z,rfl,rfl,a⟩
      | succ i =>
        obtain⟨x,D,g,p,E⟩:=B e i (by simpa using hi);exact⟨x,D,by simpa using g,by simpa using p,E⟩
    .cases h
   .cases h
def A5k{vs:C9}(n:hs.length=vs.length)(h:∀ i:Nat,i<vs.length->∃ v v',hs[i]? = some v/\vs[i]? = some v'/\VR ρ v v'):LR ρ hs vs:=⟨n,fun i v v' h1 e=>by
 obtain⟨a,b,f,g,j⟩:=h i (B0.1 e).1;rw[h1]at f;rw[e]at g;cases f;cases g;exact j⟩
def A1P{a:Bool}(h:A1Q a hs=some v)(b:LR ρ hs (us.map R8)):VR ρ v (W9 a us):=by
 unfold A1Q at h;split at h
 .cases h;exact .agg b.1 b.2
 .cases h;cases us with
  | nil=>have:=b.1;simp at this
  | cons u us =>
    obtain⟨v',r,e,g,_⟩:=b.tail;rw[B9,J2]at e;rw[<- e.1]at g;exact g
 .cases h
def TV{T:TypeId}{x k:Value}{ok:Bool}(h:HR P base ρ m.H w)(o:xO P m T x k ok=some (v,m'))(hx:VR ρ x x')(hk:VR ρ k k')(Q:Sat m'.lg):VOk P base ρ m w (Instr.lookup T x' k' ok) v m':=by
 unfold xO at o;split at o
 .rename_i r y hy;obtain⟨hu,B,au,ar,az,X,aq⟩:=EE hy;obtain⟨l,hl,rfl⟩:=EO hx;split at o
  .rename_i c t T2 f z hg Z hz;obtain⟨O,a⟩:=A3 o;clear o;have O:=A0 O;subst O;split at a
   .rename_i zc V;split at a
    .rename_i hs m1 Y;split at a
     .rename_i v1 hv;obtain⟨⟨⟨av,ao⟩,y2,es,clock,rows,g1,g2,g3,g4,g5,g6⟩,_⟩:=h.atl hl hg;rw[hy]at g1;have g1:=A8 g1;subst g1;obtain⟨k1,L⟩:=jB Z az hk;have M:VR ρ z z:=.ofC (vT hz).choose_spec.2.2;obtain⟨z1,z2⟩:=jB V X M;have u:f.length=y.ks.length:=by rw[<- L];simp
      have S:Sat m1.lg:=by
       cases ok with
       | false=>cases a;exact Q
       | true =>
         simp only[E1]at a;split at a
         .rename_i K;cases a;exact Q.le (H6 K)
         .cases a
      obtain⟨a1,a2,a3,a4,a5,a6⟩:=BZ (ρ:=ρ) g4 u Y S;have D:=yH (P:=P) (w:=w) B L g5;have C:=CN (P:=P) B L es.isEmpty w;have j:=BW (k:=f.map (D6 Ora.env)) rows 0;have I:∀ {us:List U},LR ρ hs (us.map R8)->VR ρ v1 (W9 y.va us):=fun g=>A1P hv g
      have A:∃ val,VR ρ v1 val/\(Instr.lookup T2 (.map (some l.blk)) k' ok).run P w=.ok (if ok then .tuple #[val,.bool (rows.any (T6 (f.map (D6 Ora.env))))]else val) w:=by
       have G:(getObj l.blk).run P w=.ok (.map es clock) w:=by simp[getObj,Sem.run,g3]
       have e:=JK (k:=f.map (D6 Ora.env)) rows 0;cases E:nI (f.map (D6 Ora.env)) rows 0 with
       | none =>
         rw[E]at j e;have g:LR ρ hs ((zc.map (D6 Ora.env)).map R8):=A5k (by rw[a3,E4,E4,a4]) fun i hi=>by
          have ax:i<y.vs.length:=by rw[E4,E4,a4]at hi;exact hi
          obtain⟨R,z',e1,N,e3⟩:=a6 j.symm i ax;exact⟨R,_,e1,by rw[F3,F3,N];rfl,e3⟩
         refine⟨z,by rw[z1];exact I g,?_⟩;have e:rows.any (T6 (f.map (D6 Ora.env)))=false:=e.symm;rw[k1];simp only[Instr.lookup,A4,C8 hu,Result.andThen_ok,G,C,D,AF,E,Option.map_none,y4 hz,Sem.run_pure,e]
       | some p =>
         obtain⟨pi,q⟩:=p;rw[E]at j e;obtain⟨_,J,q2⟩:=qQ E;have J:rows[pi]? = some q:=by simpa using J
         have W:pi<es.toList.length:=by rw[<- g5.1];exact(B0.1 J).1
         obtain⟨t1,t2,t3⟩:=g5.2 pi q es.toList[pi] J (A5 W);have aw:q.length=y.ks.length+y.vs.length:=by
          have:=D9 List.length t1
          simpa using this
         have g:LR ρ hs ((q.drop y.ks.length).map R8):=A5k (by rw[a3,E4,D1];omega) fun i hi=>by
          rw[E4,D1]at hi;obtain⟨R,e1,N⟩:=a5 q j.symm i A2;refine⟨R,_,e1,?_,N⟩;rw[F3,H7,A5 A2,K9,B1,A5 A2];rfl
         refine⟨W9 y.va (q.drop y.ks.length),I g,?_⟩;have e:rows.any (T6 (f.map (D6 Ora.env)))=true:=e.symm;rw[k1];simp only[Instr.lookup,A4,C8 hu,Result.andThen_ok,G,C,D,AF,E,K9,Sem.run_pure,e]
      obtain⟨val,s,n⟩:=A;cases ok with
      | false =>
        cases a;obtain⟨lg,rfl⟩:=a1;exact⟨val,ρ,w,n,s,St.wLg h lg⟩
      | true =>
        simp only[E1]at a;split at a
        .rename_i b m2 K;cases a;obtain⟨_,_,F⟩:=gZ (ρ:=ρ) K Q;have ay:evU (.mhas y.w y.ks.length) ((hole c t::f).map (D6 Ora.env))=.bool (rows.any (T6 (f.map (D6 Ora.env)))):=by
          show evU (.mhas y.w y.ks.length) (Ora.env c::f.map (D6 Ora.env))=_;rw[g4];show(if y.w=y.w/\(f.map (D6 Ora.env)).length=y.ks.length then _ else U.none)=_;rw[A9 ⟨rfl,by rw[E4];exact u⟩]
         rw[ay]at F;obtain⟨lg,rfl⟩:=a1.trans (H3 K);refine⟨.tuple #[val,.bool (rows.any (T6 (f.map (D6 Ora.env))))],ρ,w,n,?_,St.wLg h lg⟩
         have:=LR.cons s (LR.cons F LR.nil);exact .tuple this.1 this.2
        .cases a
     .cases a
    .cases a
   .cases a
  .cases o
 .cases o
def VZ{i:Nat}{c:List U}(h:uZ y rows es.toList)(f:c.map F9=y.ks++y.vs)(h1:e'.key=W9 y.ka (c.take y.ks.length))(b:e'.val=W9 y.va (c.drop y.ks.length))(a:es'.toList=es.toList.set i e'):uZ y (rows.set i c) es'.toList:=by
 rw[a];refine⟨by rw[L9,L9];exact h.1,fun j row e hr he=>?_⟩;rw[List.getElem?_set]at hr he;by_cases q:i=j
 .subst q;rw[A9 rfl]at hr he;split at hr
  .cases hr;split at he
   .cases he;exact⟨f,h1,b⟩
   .cases he
  .cases hr
 .rw[A6 q]at hr he;exact h.2 j row e hr he
def XL{k:Value}(h:DE es.toList clock):DE (es.push ⟨k,v,clock⟩).toList (clock+1):=by
 obtain⟨h1,a⟩:=h;rw[Array.toList_push];refine⟨?_,fun e he=>?_⟩
 .rw[Q6,fW];refine⟨h1,by simp,fun x hx y b f=>?_⟩;simp only[B9,F7,S2]at b;obtain⟨e,he,rfl⟩:=K1.1 hx
  have:=a e he;omega
 .rcases B7.1 he with he|he
  .have:=a e he;omega
  .rw[S2.1 he];show clock<clock+1;omega
def MX{f:MapEntry->Value×Value}(h:DE es.toList clock):DE (es.modify pi fun e=>{ e with key:=(f e).1,val:=(f e).2 }).toList clock:=by
 obtain⟨h1,i⟩:=h;have g:(es.modify pi fun e=>{ e with key:=(f e).1,val:=(f e).2 }).toList.map (·.born)=es.toList.map (·.born):=by
  apply aT;intro j;rw[F3,F3,P0,G4,P0];by_cases b:pi=j
  .rw[A9 b];cases es[j]?<;>rfl
  .rw[A6 b]
 refine⟨by rw[g];exact h1,fun e he=>?_⟩;have:e.born ∈ es.toList.map (·.born):=by rw[<- g];exact List.mem_map_of_mem he
 obtain⟨x,hx,a⟩:=K1.1 this;rw[<- a];exact i x hx
def TN{c:List U}(h:uZ y rows es.toList)(g:c.map F9=y.ks++y.vs)(h1:e'.key=W9 y.ka (c.take y.ks.length))(f:e'.val=W9 y.va (c.drop y.ks.length)):uZ y (rows++[c]) (es.push e').toList:=by
 rw[Array.toList_push];refine⟨by rw[D0,D0,h.1];rfl,fun j row e hr he=>?_⟩;rw[List.getElem?_append]at hr he;rw[h.1]at hr;split at he
 .rename_i a;rw[A9 a]at hr;exact h.2 j row e hr he
 .rename_i a;rw[A6 a]at hr;cases b:j-es.toList.length with
  | zero =>
    rw[b]at hr he;cases hr;cases he;exact⟨g,h1,f⟩
  | succ n=>rw[b]at hr;cases hr
def MA{u v:U}(h1:F9 u<10)(h:isU u v=true):u=v:=by
 unfold isU at h;cases u with
 | int k a =>
   cases v with
   | int j b =>
     simp only[eqU]at h;by_cases e:k=j
     .subst e;rw[A9 rfl]at h;have h:(a == b)=true:=h;rw[eq_of_beq h]
     .rw[A6 e]at h;cases h
   | _=>simp[eqU]at h
 | bool a =>
   cases v with
   | bool b =>
     have h:(a == b)=true:=h;rw[eq_of_beq h]
   | _=>simp[eqU]at h
 | str a =>
   cases v with
   | str b =>
     have h:(a == b)=true:=h;rw[eq_of_beq h]
   | _=>simp[eqU]at h
 | seq _ _ _=>simp only[F9]at h1;omega
 | none=>simp only[F9]at h1;omega
def wH:∀ {us vs:List U},us.map F9=vs.map F9->(∀ t ∈ us.map F9,t<10)->T6 us vs=true->us=vs
 | [],[],_,_,_=>rfl
 | [],_::_,h,_,_=>by cases h
 | _::_,[],h,_,_=>by cases h
 | u::us,v::vs,h,ht,hk=>by
   obtain⟨a,b⟩:=B4 (show(isU u v && T6 us vs)=true from hk);simp only[B9,J2]at h;rw[MA (ht _ B2) a,wH h.2 (fun t q=>ht t (C3 _ q)) b]
def CT{u:U}(h:F9 u<10)(n:Nat):Instr.sameBits n (R8 u) (R8 u)=true:=by
 cases u with
 | int k a=>cases n<;>simp[R8,toV,Instr.sameBits]
 | bool b=>cases n<;>simp[R8,toV,Instr.sameBits]
 | str s=>cases n<;>(simp only[R8,toV,bN,Instr.sameBits];show(Array.mk s == Array.mk s)=true;simp)
 | seq _ _ _=>simp only[F9]at h;omega
 | none=>simp only[F9]at h;omega
def UN{a:Bool}(h:∀ t ∈ us.map F9,t<10)(b:a=false->us≠[])(n:Nat):Instr.sameBits (n+1) (W9 a us) (W9 a us)=true:=by
 cases a with
 | true =>
   simp only[W9,Instr.sameBits,G8,beq_self_eq_true,true_and,D3];intro p hp;obtain⟨i,hi,he⟩:=List.mem_iff_getElem.1 hp;simp only[List.getElem_zip,List.getElem_map]at he;subst he;exact CT (h _ (K1.2 ⟨_,N1 _,rfl⟩)) n
 | false =>
   cases us with
   | nil=>exact absurd rfl (b rfl)
   | cons u us=>exact CT (h _ B2) _
def HX{T:TypeId}{x k e e':Value}(h:HR P base ρ m.H w)(hb:base<=w.heap.size)(F:BF P m T x k e=some (v,m'))(hf:J9 ρ m.n m'.hi)(hx:VR ρ x x')(hk:VR ρ k k')(he:VR ρ e e')(hS:Sat m'.lg):v=undef/\UOk P base ρ m w (Instr.mapUpdate T x' k' e') m':=by
 unfold BF at F;split at F
 .rename_i r y hy;obtain⟨hu,R,af,ae,J,ak,ad⟩:=EE hy;obtain⟨l,hl,rfl⟩:=EO hx;split at F
  .rename_i c t V i u hg aj ao;obtain⟨hT,A⟩:=A3 F;clear F;have hT:=A0 hT;subst hT;rw[N2]at A;unfold MY at A;split at A
   .rename_i m2 X3;cases A;have ah:=dF X3;obtain⟨e1,e2,aa,wd,an,e3⟩:=jU (lg:=m'.lg) hS (by rw[ah];exact .refl _);obtain⟨⟨⟨O,ai⟩,y2,es,clock,rows,g1,g2,g3,g4,g5,g6⟩,_⟩:=h.atl hl hg;rw[hy]at g1;have g1:=A8 g1;subst g1;obtain⟨E,C⟩:=jB aj J hk;obtain⟨v1,v2⟩:=jB ao ak he;have B:i.length=y.ks.length:=by rw[<- C];simp
    have ar:u.length=y.vs.length:=by rw[<- v2];simp
    have al:((i++u).map (D6 Ora.env)).length=y.w:=by rw[E4,D0,B,ar];rfl
    have aw:((i++u).map (D6 Ora.env)).map F9=y.ks++y.vs:=by rw[Q6,Q6,C,v2]
    have z:((i++u).map (D6 Ora.env)).take y.ks.length=i.map (D6 Ora.env):=by rw[Q6,List.take_left' (by rw[E4];exact B)]
    have D:((i++u).map (D6 Ora.env)).drop y.ks.length=u.map (D6 Ora.env):=by rw[Q6,List.drop_left' (by rw[E4];exact B)]
    have o:Ora.env m.lg.nx=.seq false y.w (IA y.ks.length ((i++u).map (D6 Ora.env)) rows):=by
     rw[e1];show evU (.mput y.w y.ks.length) (Ora.env c::(i++u).map (D6 Ora.env))=_;rw[g4];show(if y.w=y.w/\((i++u).map (D6 Ora.env)).length=y.w then _ else U.none)=_;rw[A9 ⟨rfl,al⟩]
    rw[HZ _ 0,z]at o;have av:(getObj l.blk).run P w=.ok (.map es clock) w:=by simp[getObj,Sem.run,g3]
    have az:=yH (P:=P) (w:=w) R C g5;have X:=CN (P:=P) R C false w;have N:=St.wLg h (eZ m t (.mput y.w y.ks.length) (hole c t::(i++u)));have ag:Hp.get (m.wLg (eZ m t (.mput y.w y.ks.length) (hole c t::(i++u)))).H r=some (.mp c t V):=by rw[kG];exact hg
    have s:l.blk<w.heap.size:=(C6.1 g3).1;refine⟨rfl,?_⟩;have W:∀ (g:Array MapEntry) (a:Nat),(setObj l.blk (.map g a)).run P w=.ok () { w with heap:=w.heap.set l.blk (.map g a) s }:=fun g a=>by
     have ay:w.heap[l.blk]=.map es clock:=by
      have q:=g3;rw[F0 s]at q;exact A8 q
     simp[setObj,Sem.run,ay,Array.setIfInBounds,s]
    have fin:∀ (g:Array MapEntry) (a:Nat) (b:List (List U)),Ora.env m.lg.nx=.seq false y.w b->uZ y b g.toList->DE g.toList a->(Instr.mapUpdate V (.map (some l.blk)) k' e').run P w=.ok () { w with heap:=w.heap.set l.blk (.map g a) s }->UOk P base ρ m w (Instr.mapUpdate V (.map (some l.blk)) k' e') m':=fun g a b L q2 q4 q3=>by
     refine⟨ρ,_,q3,St.trans hf N (St.write (ab:=.mp c t V) (ab':=.mp m.lg.nx t V) N.hr X3 ag rfl hl O ⟨rfl,rfl,rfl⟩ (by simp) (fun j Z=>?_) ?_)⟩
     .show(w.heap.set l.blk _ s)[j]? = _;rw[o9,A6 (fun e=>Z e.symm)]
     .refine⟨⟨O,ai⟩,y,g,a,b,hy,g2,?_,L,q2,q4⟩;show(w.heap.set l.blk _ s)[l.blk]? = _;rw[o9,A9 rfl]
    cases hq:nI (i.map (D6 Ora.env)) rows 0 with
    | none =>
      rw[hq]at o;refine fin (es.push ⟨k',e',clock⟩) (clock+1) _ o (TN g5 aw (by rw[z];exact E) (by rw[D];exact v1)) (XL g6) ?_;rw[E];simp only[Instr.mapUpdate,A4,C8 hu,Result.andThen_ok,av,X,az,AF,hq,Option.map_none,W]
    | some p =>
      obtain⟨pi,M⟩:=p;rw[hq]at o;have o:Ora.env m.lg.nx=.seq false y.w (rows.set pi ((i++u).map (D6 Ora.env))):=o;obtain⟨_,L,q2⟩:=qQ hq;have L:rows[pi]? = some M:=by simpa using L
      have I:pi<es.toList.length:=by rw[<- g5.1];exact(B0.1 L).1
      obtain⟨t1,t2,t3⟩:=g5.2 pi M es.toList[pi] L (A5 I);obtain⟨aq,_⟩:=AN t1;have G:i.map (D6 Ora.env)=M.take y.ks.length:=by
       refine wH (by rw[C,aq]) (by rw[C];exact J) ?_
       have:=sH (i.map (D6 Ora.env)) M;rw[E4,B]at this;rw[this];exact q2
      have au:pi<es.size:=by simpa using I
      refine fin (es.modify pi fun e2=>{ e2 with key:=k',val:=e' }) clock _ o (VZ (e':=⟨k',e',(es[pi]).born⟩) g5 aw (by rw[z];exact E) (by rw[D];exact v1) ?_) (MX (f:=fun _=>(k',e')) g6) ?_
      .apply aT;intro j;rw[P0,G4,List.getElem?_set];by_cases Z:pi=j
       .subst Z;rw[A9 rfl,A9 rfl,A9 I,F0 au];rfl
       .rw[A6 Z,A6 Z];simp
      .have S:((es[pi]?).map (·.key)).getD k'=k':=by
        rw[F0 au];show es[pi].key=k';have t2:es[pi].key=W9 y.ka (M.take y.ks.length):=t2;rw[t2,<- G,E]
       have K:Instr.sameBits 10000 k' k'=true:=by
        rw[E];exact UN (by rw[C];exact J) (fun _ q=>by have:=D9 List.length C;rw[q]at this;simp at this;omega) 9999
       have Q:(Instr.keyThatStays k' k').run P w=.ok k' w:=by
        simp only[Instr.keyThatStays,K,if_true,Sem.run_pure]
       have ax:(Instr.findKey y.kt k' es.toList).run P w=.ok (some (pi,W9 y.va (M.drop y.ks.length))) w:=by
        rw[E,az];simp[AF,hq]
       have Y:(Instr.checkKey false 10000 y.kt k').run P w=.ok () w:=by rw[E];exact X
       simp only[Instr.mapUpdate,A4,C8 hu,Result.andThen_ok,av,Y,ax,S,Q,W]
   .cases A
  .cases F
 .cases F
def ZD{T:TypeId}{x:Value}(h:HR P base ρ m.H w)(a:IY P m T x=some (v,m'))(hx:VR ρ x x')(f:Sat m'.lg):VOk P base ρ m w (Builtin.len_ ⟨T::tys⟩ ty #[x']) v m':=by
 unfold IY at a;split at a
 .rename_i kt s r hu;obtain⟨l,o,rfl⟩:=EO hx;split at a
  .rename_i c t q n;obtain⟨⟨⟨i,g⟩,p,es,clock,rows,g1,g2,g3,g4,g5,g6⟩,_⟩:=h.atl o n;obtain⟨j,⟨lg,rfl⟩,_,_⟩:=lG (ρ:=ρ) a g4 f;have b:(getObj l.blk).run P w=.ok (.map es clock) w:=by simp[getObj,Sem.run,g3]
   refine⟨_,ρ,w,?_,j,St.wLg h lg⟩
   have:=g5.1;have e:es.size=rows.length:=by rw[this];simp
   simp[Builtin.len_,A4,C8 hu,Result.andThen,goInt,b,e]
  .cases a
 .cases a
def A2T{T:TypeId}(a:YV P m T=some (v,m')):m.lg.le m'.lg:=by
 unfold YV at a;split at a
 .rw[N2]at a;rw[y6 a];exact V5
 .cases a
def sP{wd kw c t:Nat}{b:C9}:∀ {ts:G9} {a:C9} {j:Nat} {m m':Mem} {hs:C9},sQ wd kw c t b ts a j m=some (hs,m')->m.lg.le m'.lg
 | [],[],j,m,m',hs,h=>by cases h;exact .refl _
 | [],_::_,j,m,m',hs,h=>by cases h
 | _::_,[],j,m,m',hs,h=>by cases h
 | tg::ts,z::a,j,m,m',hs,h=>by
   unfold sQ at h;split at h
   .rename_i hv;split at h
    .rename_i hr;cases h;exact(H6 hv).trans (sP hr)
    .cases h
   .cases h
def TW{T:TypeId}{x k:Value}{ok:Bool}(a:xO P m T x k ok=some (v,m')):m.lg.le m'.lg:=by
 unfold xO at a;split at a
 .split at a
  .obtain⟨_,a⟩:=A3 a;split at a
   .split at a
    .rename_i b;split at a
     .cases ok with
      | false=>cases a;exact sP b
      | true =>
        simp only[E1]at a;split at a
        .rename_i e;cases a;exact(sP b).trans (H6 e)
        .cases a
     .cases a
    .cases a
   .cases a
  .cases a
 .cases a
def HY{T:TypeId}{x k e:Value}(a:BF P m T x k e=some (v,m')):m.lg.le m'.lg:=by
 unfold BF at a;split at a
 .split at a
  .obtain⟨_,a⟩:=A3 a;rw[N2]at a;unfold MY at a;split at a
   .rename_i X3;cases a;rw[dF X3];exact V5
   .cases a
  .cases a
 .cases a
def ZE{T:TypeId}{x:Value}(a:IY P m T x=some (v,m')):m.lg.le m'.lg:=by
 unfold IY at a;split at a
 .split at a
  .exact(bH a).2
  .cases a
 .cases a
end
end
section
open Go
variable [Ora]
section
variable {P:Program} {base:Nat} {ρ:Ren} {m m':Mem} {w:World}
omit [Ora] in
def KT{G:Nat->Option Obj}:∀ {us:List U} {s:List UInt8} {vs:C9},sZ us=some s->Y2 G us vs->∃ e:List Int,vs=e.map (Value.int .u8)/\s=e.map fun n=>UInt8.ofNat n.toNat
 | [],s,vs,h,he=>by
   cases h;have:vs=[]:=G1.1 he.1.symm;subst this;exact⟨[],rfl,rfl⟩
 | u::us,s,vs,h,he=>by
   unfold sZ at h;split at h
   .rename_i heq;cases heq
   .rename_i n r heq;cases heq;split at h
    .split at h
     .rename_i l o;cases h;cases vs with
      | nil=>have:=he.1;simp at this
      | cons v vr =>
        obtain⟨e,f,g⟩:=KT (vs:=vr) o ⟨by have:=he.1;simpa using this,fun i a b h1 j=>he.2 (i+1) a b (by simpa using h1) (by simpa using j)⟩
        have:=fP (he.2 0 _ v rfl rfl) rfl;subst this;exact⟨(Int.ofNat n)::e,by rw[f];rfl,by rw[g];rfl⟩
     .cases h
    .cases h
   .cases h
def HF{t:TypeId}{n:Nat}(h:G5 P t=some n):∃ inf,P.info? t=some inf/\inf.size=n:=by
 unfold G5 at h;cases hi:P.info? t with
 | none=>rw[hi]at h;cases h
 | some inf=>rw[hi]at h;exact⟨inf,rfl,A8 h⟩
def HI(d:Nat)(t:TypeId):sameLayout P (d+1) t t=true:=by simp[sameLayout]
def A0z:∃ d,P.depth=d+1:=⟨2*(P.types.size+Made.depth)+1,rfl⟩
def NC{T:TypeId}{n off:Nat}(hs:P.cellsOf T≠0)(hr:off%P.cellsOf T=0)(b:off / P.cellsOf T+1<=n):liesAt P P.depth T n off T 1=true:=by
 obtain⟨d,a⟩:=A0z (P:=P);have h1:rowAt P (sameLayout P P.depth · T) P.depth T n off 1=true:=by
  rw[a];unfold rowAt;simp only[hs,if_false,hr,HI];simp[b]
 rw[a]at h1 ⊢;unfold liesAt;rw[a,h1];rfl
def A05{s t:TypeId}{x:Value}(h:HR P base ρ m.H w)(g:SD P m s t x=some (v,m'))(hx:VR ρ x x'):VOk P base ρ m w (convert s t x') v m':=by
 unfold SD at g;split at g
 .rename_i e b o hs I;obtain⟨l,F,_,rfl⟩:=O0 hx;split at g
  .rename_i k cs T ro z E;obtain⟨q,g⟩:=A3 g;have q:o<cs.length:=A1 q;cases g;obtain⟨inf,a,L⟩:=HF z;obtain⟨⟨p,C,fz,i,h1,O,_⟩,_⟩:=h.atl F E;obtain⟨v',h3,_⟩:=O o cs[o] (A5 q);have G:l.sh+o<C.size:=(C6.1 h3).1;exact VOk.same h (Lib.run_to_unsafe w ⟨l.blk,o+l.sh,none⟩ hs I a A2 (show w.shape? l.blk=some (i,C.size) by simp[World.shape?,h1]) (by show o+l.sh<C.size;omega)) hx
  .cases g
 .rename_i u b hs I;obtain⟨l,F,_,rfl⟩:=O0 hx;split at g
  .rename_i k cs T z E;obtain⟨J,f⟩:=A3 g;clear g;obtain⟨A,M⟩:=B4 J;have A:=A0 A;have M:=A0 M;clear J;subst A;cases f;obtain⟨inf,a,L⟩:=HF z;obtain⟨⟨p,C,fz,i,h1,O,h3⟩,_⟩:=h.atl F E;obtain⟨rfl,_,Q⟩:=h3 rfl;obtain⟨_,K⟩:=Q inf a;have D:P.cellsOf i=k+1:=by unfold Program.cellsOf;rw[a];exact L
   have B:k<cs.length:=A2;obtain⟨v',R,_⟩:=O k cs[k] (A5 B);have G:l.sh+k<C.size:=(C6.1 R).1;refine VOk.same h (Lib.run_from_unsafe w ⟨l.blk,0+l.sh,none⟩ hs I a (show w.shape? l.blk=some (i,C.size) by simp[World.shape?,h1]) ?_) hx;show liesAt P P.depth i (C.size / P.cellsOf i) (0+l.sh) i 1=true;rw[F1];refine NC A2 (by rw[D];rw[L]at K;exact K) ?_;rw[D];have K:l.sh%(k+1)=0:=by rw[L]at K;exact K
   have V:l.sh=(k+1)*(l.sh / (k+1)):=by have:=Nat.div_add_mod l.sh (k+1);omega
   refine(Nat.le_div_iff_mul_le A2).2 ?_;rw[H4,fV,aR];omega
  .cases g
 .rename_i W e b o n c hs I;obtain⟨J,f⟩:=A3 g;clear g;obtain⟨A,M⟩:=B4 J;have A:=A0 A;clear J;subst A;split at f
  .rename_i cs T hu E;split at f
   .rename_i m1 X3;cases f;obtain⟨l,mm,F,rfl⟩:∃ l mm,ρ b=some l/\x'=.slice (some ⟨l.blk,o+l.sh,none⟩) n mm:=by
     cases hx with
     | pure hp=>simp[I1]at hp
     | sl h1 _=>exact⟨_,_,h1,rfl⟩
     | op h1 _ _ _=>exact⟨_,_,h1,rfl⟩
     | opE _=>simp at M
    obtain⟨⟨p,C,fz,i,z2,z3,z4⟩,_⟩:=h.atl F E;have N:w.shape? l.blk=some (i,C.size):=by simp[World.shape?,z2]
    refine⟨_,ρ,w.freeze ⟨l.blk,C.size,none⟩ 1,?_,hx,St.write h X3 E rfl F p ?_ ?_ ?_ ?_⟩
    .simp[convert,run_underlying I,run_underlying hu,markStringish,N]
    .simp[World.freeze]
    .simp[World.freeze]
    .intro j S;simp only[World.freeze,Nat.one_ne_zero,if_false,G4];rw[A6 (fun e=>S e.symm)]
    .refine⟨p,C,(if fz.1 == fz.2 then(C.size,C.size+1)else(min fz.1 C.size,max fz.2 (C.size+1))),i,?_,z3,fun D=>⟨(z4 D).1,(z4 D).2.1.mark,(z4 D).2.2⟩⟩;simp only[World.freeze,Nat.one_ne_zero,if_false,G4,if_true,z2,K9]
   .cases f
  .cases f
 .cases g
def XS{op:BinOp}{t:TypeId}{x y:Operand}{a a' b b':Value}(h:HR P base ρ m.H w)(o:PZ P m op t a b=some (v,m'))(B:VR ρ a a')(A:VR ρ b b'):VOk P base ρ m w (do eqGuard op t x y a' b';binOp op t a' b') v m':=by
 unfold PZ at o;split at o
 .rename_i e E p D C hu;obtain⟨u,f⟩:=A3 o;clear o;obtain⟨q,s⟩:=B4 u;have q:=A0 q;have s:=A0 s;clear u;subst q;subst s;obtain⟨l,z,_,rfl⟩:=O0 B;obtain⟨l2,g,_,rfl⟩:=O0 A;rw[z]at g
  have:=A8 g;subst this;have heq:∀ j,P.info? e=some j->∀ d:Nat,(Op.equalIn (d+1) t (.pointer (some ⟨l.blk,p+l.sh,none⟩)) (.pointer (some ⟨l.blk,p+l.sh,none⟩))).run P w=.ok true w:=fun j n d=>by
   simp[Op.equalIn,run_underlying hu,sizeOf,typeInfo,n,run_sameAddr_same]
  have i:(eqGuard op t x y (.pointer (some ⟨l.blk,p+l.sh,none⟩)) (.pointer (some ⟨l.blk,p+l.sh,none⟩))).run P w=.ok () w:=by
   unfold eqGuard;split<;>simp
  split at f
  .rename_i j n;cases f;refine VOk.same h (v':=.bool true) ?_ (.pure rfl);rw[A4,i];simp[Result.andThen,binOp,Op.equal,Op.maxDepth,heq j n 9999]
  .rename_i j n;cases f;refine VOk.same h (v':=.bool false) ?_ (.pure rfl);rw[A4,i];simp[Result.andThen,binOp,Op.equal,Op.maxDepth,heq j n 9999]
  .cases f
 .cases o
def St.laid{o:Obj}(h:HR P base ρ m.H w):St P base ρ ρ m m w { w with heap:=w.heap.push o } :=
 have g:∀ k,k<w.heap.size->(w.heap.push o)[k]? = w.heap[k]? := fun k g=>by rw[d7,A6 A2]
 ⟨fun _ _ h=>h,fun b l h1 a=>(by rw[h1]at a;cases a),A7 _,A7 _,fun h=>h,
  ⟨h.dom,fun id hid ab f=>by
    obtain⟨l,h1,a,h3⟩:=h.at_ id hid ab f;exact⟨l,h1,a.mono (fun _ _ h=>h) (fun k e=>g k (a.tc e)),h3⟩⟩,
  fun _ h=>h,fun b h1 a=>absurd h1 a,fun k e _=>g k e,by simp,⟨rfl,rfl,rfl⟩,fun b l h1 a=>(by rw[h1]at a;cases a),fun _ _ _ _=>rfl,fun _ h=>.inr h⟩
def A53{tys:Array TypeId}{x:Value}(h:HR P base ρ m.H w)(a:sdM P m ty x=some (v,m'))(hx:VR ρ x x'):VOk P base ρ m w (Builtin.unsafeSliceData_ tys ty #[x']) v m':=by
 unfold sdM at a;split at a
 .rename_i e he;split at a
  .rename_i b i t;split at a
   .rename_i c tc T g ro z;cases a;have hx:VR ρ (own b i t) x':=hx;rcases(fL hx).1 with⟨l,wd,h1,j,h3,rfl⟩|⟨l,wd,rows,h1,j,h3,D,E,rfl⟩
    .exact VOk.same h rfl (.sdt ⟨l,h1,.inl ⟨j,rfl⟩⟩)
    .have f:Builtin.unsafeSliceData_ tys ty #[.slice (some ⟨l.blk,l.sh,none⟩) l.len l.cap]=(do
       if l.cap≠0 then pure (.pointer (some ⟨l.blk,l.sh,none⟩))
       else if(<- viewAt l.blk).isSome then pure (.pointer (some ⟨l.blk,l.sh,none⟩))
       else pure (.pointer (some ⟨<- newObj (.view ⟨l.blk,l.sh,none⟩ (<- elemOf ty)),0,none⟩))):=rfl
     rw[f];by_cases q:l.cap=0
     .rw[A6 (by simpa using q)];obtain⟨u,inf,_,_,_,B⟩:=SqR.ex (h.atl h1 z).1;rcases B with⟨n,_⟩|⟨_,n⟩
      .rw[j]at n;cases n
      .obtain⟨C,fz,s,o,lg,A,_⟩:=n;have p:w.shape? l.blk=some (s,C.size):=by simp[World.shape?,A]
       refine⟨.pointer (some ⟨w.heap.size,0,none⟩),ρ,{ w with heap:=w.heap.push (.view ⟨l.blk,l.sh,none⟩ e) },?_,.sdt ⟨l,h1,.inr ⟨j,_,rfl,fun h=>absurd q h⟩⟩,St.laid h⟩;simp[viewAt,p,elemOf,C8 he,newObj,Sem.run,A4,Result.andThen]
     .rw[A9 q];exact VOk.same h rfl (.sdt ⟨l,h1,.inr ⟨j,_,rfl,fun _=>rfl⟩⟩)
   .cases a
  .cases a
 .cases a
def A5s{p l p' l':Value}(h:HR P base ρ m.H w)(J:usM P m pt p l=some (v,m'))(hp:VR ρ p p')(hl:VR ρ l l')(hS:Sat m'.lg)(hf:J9 ρ m.n m'.hi) :
  VOk P base ρ m w (Builtin.unsafeString_ ⟨pt::tys⟩ ty #[p',l']) v m':=by
 have D:IntKind.i64.max=9223372036854775807:=rfl;unfold usM at J;split at J
 .rename_i b;obtain⟨Z,J⟩:=A3 J;have Z:G2 l<8:=A1 Z;obtain⟨k,n0,rfl,aa,_⟩:=M2 hl Z;split at J
  .rename_i c tc T g e hg aj;obtain⟨hq,B⟩:=A3 J;clear J;obtain⟨q1,q2⟩:=B4 hq;have q1:=A0 q1;have q2:=A0 q2;clear hq;subst q1;subst q2;split at B
   .rename_i u m1 bx N;split at B
    .rename_i m2 X3;cases B;have ad:=dF X3;have ah:Sat m1.lg:=by rw[<- ad];exact hS
     obtain⟨u0,e1,e2,r,e3,e4,e5⟩:=M1 N ah;obtain⟨lg,rfl⟩:=H3 N;obtain⟨l0,F,hv⟩:=A2g (show VR ρ (sdt b) p' from hp);have A:=St.wLg h lg;obtain⟨wd,inf,k1,k2,k3,M⟩:=SqR.ex (h.atl F hg).1;have ag:wd=1:=A2;subst ag;have f:evU .ustr [Ora.env c,.int k n0]=u0:=by
      have:D6 Ora.env (hole c 11)=Ora.env c:=rfl;rw[<- this,<- aa];exact e1
     have L:∀ ao rows,Ora.env c=.seq ao 1 rows->∃ (n:Nat) (O:List UInt8),n0=(n:Int)/\n<=rows.length/\n<=1000000000/\uX (rows.take n)=some O/\u0=.str O:=fun ao rows hc=>by
      rw[hc]at f;cases n0 with
      | negSucc z=>have:u0=.none:=f.symm;subst this;cases e3
      | ofNat n =>
        have f:(if 1=1/\n<=rows.length/\n<=uY then match uX (rows.take n)with
         | some s=>U.str s
         | none=>.none else .none)=u0:=f
        split at f
        .rename_i ax;split at f
         .rename_i O L;exact⟨n,O,rfl,ax.2.1,ax.2.2,L,f.symm⟩
         .subst f;cases e3
        .subst f;cases e3
     have E:P.cellsOf e=1:=by unfold Program.cellsOf;rw[k2];exact k3
     have W:∀ {ρ:Ren} {w:World} {lx:Loc},BR P ρ (.sq c 11 e g false) lx w->BR P ρ (.sq c 11 e g true) lx w:=fun hb=>by
      obtain⟨wd,inf,k1,k2,k3,M⟩:=SqR.ex hb;refine⟨⟨wd,inf,k1,k2,k3,M.imp (fun x=>x) fun⟨a,C,fz,T',rows,lg,b1,b2,b3,b4,b5,b6,b7,b8,_⟩=>⟨a,C,fz,T',rows,lg,b1,b2,b3,b4,b5,b6,b7,b8,fun hh=>by cases hh⟩⟩⟩
     have Y:Hp.get (m.wLg lg).H b=some (.sq c 11 e g false):=by rw[kG];exact hg
     have R:St P base ρ ρ m m' w w:=St.trans hf A (St.same0 A.hr X3 Y rfl F (W (A.hr.atl F Y).1) fun q hq=>hq.imp (fun⟨_,b⟩=>⟨rfl,b⟩) fun⟨hh,_⟩=>by cases hh);rcases hv with⟨aq,rfl⟩|⟨S,a,rfl,ha⟩
     .rcases M with⟨_,K⟩|⟨K,_⟩
      .obtain⟨n,O,rfl,j1,_,j2,rfl⟩:=L _ _ K;have hn:n=0:=by simpa using j1
       subst hn;cases j2;cases e3;refine⟨.string ByteArray.empty,ρ,w,?_,e4 ρ,R⟩;have o:Builtin.unsafeString_ ⟨pt::tys⟩ ty #[.pointer none,.int k ((0:Nat):Int)] =
         (do
           let n <- asInt (.int k ((0:Nat):Int))
           if n<0 then runtimePanic (.error "unsafe.String: len out of range")
           if n>IntKind.i64.max then unsupported (.unsafePointer "String: a length above the largest int")
           if n=0 then pure (.string .empty)
           else runtimePanic (.error "unsafe.String: ptr is nil and len is not zero")):=rfl
       rw[o];simp[asInt,asIntOf,D]
      .rw[aq]at K;cases K
     .rcases M with⟨K,_⟩|⟨_,K⟩
      .rw[S]at K;cases K
      obtain⟨C,fz,T',rows,av,z1,z2,z3,z4,z5,z6,z7,z8,z9⟩:=K;obtain⟨rfl,bz⟩:=z9 rfl;obtain⟨n,O,rfl,j1,j0,j2,rfl⟩:=L _ _ z2;cases e3;have o:Builtin.unsafeString_ ⟨pt::tys⟩ ty #[.pointer (some a),.int k (n:Int)] =
       (do
         let n <- asInt (.int k (n:Int))
         if n<0 then runtimePanic (.error "unsafe.String: len out of range")
         if n>IntKind.i64.max then unsupported (.unsafePointer "String: a length above the largest int")
         if n=0 then pure (.string .empty)
         else if <- variablesAt a (<- elemOf pt) n.toNat then do
          let s <- loadBytes a .empty n.toNat
          freeze a n.toNat
          pure (.string s)
         else unsupported (.unsafePointer "String: not so many bytes at ptr")):=rfl
      have az:¬ (n:Int)<0:=A2;have an:¬ (9223372036854775807:Int)<(n:Int):=A2;by_cases t:n=0
      .subst t;cases j2;refine⟨.string ByteArray.empty,ρ,w,?_,e4 ρ,R⟩;rw[o];simp[asInt,asIntOf,D]
      .have hz:¬ (n:Int)=0:=A2;have ay:l0.cap≠0:=A2;have ha:=ha ay;subst ha;obtain⟨y1,y2,y3⟩:=FS j2;have hlen:(rows.take n).length=n:=by simp;omega
       have ae:l0.sh+n<=C.size:=A2;obtain⟨ns,r1,r2⟩:∃ ns:List Int,(C.toList.drop l0.sh).take n=ns.map (Value.int .u8)/\O=ns.map fun n=>UInt8.ofNat n.toNat:=by
        refine KT (G:=av.G) y1 ⟨by rw[y2,hlen];simp;omega,fun i u v b1 b2=>?_⟩;have ar:i<n:=by have:=(B0.1 b1).1;rw[y2,hlen]at this;exact this
        have aw:i<rows.length:=A2;have Q:rows[i]? = some rows[i]:=A5 aw;have X:(rows.take n)[i]? = some rows[i]:=by rw[F2 ar];exact Q
        have bw:rows[i].length=1:=z6 _ (N1 aw);have h0:rows[i][0]? = some (rows[i][0]' A2):=A5 A2;obtain⟨_,M⟩:=y3 i _ 0 _ X h0;rw[b1]at M;have M:=A8 M;rw[M];have hc:C[l0.sh+i*1+0]? = some v:=by
         rw[F2 ar,H7]at b2
         simpa using b2
        exact z8 i _ 0 _ v Q h0 hc
       have ak:ns.length=n:=by
        have:=D9 List.length r1;simp at this;omega
       have I:∀ (j:Nat) (v:Value),(ns.map (Value.int .u8))[j]? = some v->w.cell? ⟨l0.blk,l0.sh+j,none⟩=some v:=fun j v hj=>by
        rw[<- r1]at hj;have al:j<n:=by have:=(B0.1 hj).1;simp at this;omega
        rw[F2 al,H7]at hj;simp only[World.cell?,z1]
        simpa using hj
       have au:=eB (P:=P) (w:=w) ns l0.blk l0.sh .empty I;rw[ak]at au;have af:w.shape? l0.blk=some (T',C.size):=by simp[World.shape?,z1]
       have V:=xR (P:=P) E (C.size / P.cellsOf T') l0.sh n (by rw[E];simpa using ae);have ai:St P base ρ ρ (m.wLg lg) m' w (w.freeze ⟨l0.blk,l0.sh,none⟩ n):=by
        refine St.write A.hr X3 Y rfl F S ?_ ?_ ?_ ?_
        .simp[World.freeze,t]
        .simp[World.freeze,t]
        .intro j hj;simp only[World.freeze,t,if_false,G4];rw[A6 (fun e=>hj e.symm)]
        .refine⟨⟨1,inf,rfl,k2,k3,.inr ⟨S,C,(if fz.1 == fz.2 then(l0.sh,l0.sh+n)else(min fz.1 l0.sh,max fz.2 (l0.sh+n))),T',rows,av,?_,z2,z3,z4,z5,z6,z7,z8,fun hc=>by cases hc⟩⟩⟩;simp only[World.freeze,t,if_false,G4,if_true,z1,K9]
       refine⟨.string ⟨⟨O⟩⟩,ρ,w.freeze ⟨l0.blk,l0.sh,none⟩ n,?_,e4 ρ,St.trans hf A ai⟩;rw[o];simp[asInt,asIntOf,D,az,an,hz,t,variablesAt,af,elemOf,C8 aj,V,au,freeze,Sem.run,A4,Result.andThen,r2]
    .cases B
   .cases B
  .cases J
 .cases J
def TL{t:TypeId}{x:Value}(h:HR P base ρ m.H w)(o:base<=w.heap.size)(e:wW P m t x=some (v,m'))(g:J9 ρ m.n m'.hi)(hx:VR ρ x x'):VOk P base ρ m w (Instr.range t x') v m':=by
 unfold wW at e;split at e
 .rename_i hu;obtain⟨h1,e⟩:=A3 e;obtain⟨s,rfl,_⟩:=l5 hx (A0 h1);have f:∀ a:Ren,(∀ b l,ρ b=some l->a b=some l)->BR P a (.iter [x,.int .i64 (.ofNat 0)]) (lc w.heap.size 0 0) { w with heap:=w.heap.push (.stringIter ⟨⟨s⟩⟩ 0) }:=fun a he =>
   ⟨⟨rfl,rfl⟩,⟨⟨s⟩⟩,0,by simp[lc],.cons (hx.mono he) (.cons (.pure rfl) .nil)⟩
  obtain⟨j,h3,i⟩:=St.alloc (w':={ w with heap:=w.heap.push (.stringIter ⟨⟨s⟩⟩ 0) }) (l:=lc w.heap.size 0 0) h o e g ⟨rfl,rfl,rfl⟩ rfl rfl (f _ (W5 (g m.n (A7 _) (by obtain⟨_,_,rfl⟩:=L3 e;exact(K7 _ _).2))));refine⟨.pointer (some ⟨w.heap.size,0,none⟩),_,_,?_,?_,i⟩
  .simp[Instr.range,A4,C8 hu,Result.andThen,newObj,Sem.run]
  .rw[j];exact .ptr h3
 .cases e
def NX{s p:Value}{b:ByteArray}(h:FO s p=some (b,k)):s=.string b/\p=.int .i64 (.ofNat k):=by
 unfold FO at h;split at h
 .cases h;exact⟨rfl,rfl⟩
 .cases h
def YP{x:Value}(h:HR P base ρ m.H w)(a:IN m x=some (v,m'))(hf:J9 ρ m.n m'.hi)(hx:VR ρ x x')(hS:Sat m'.lg):VOk P base ρ m w (Instr.next x' true ty) v m':=by
 unfold IN at a;split at a
 .rename_i r;obtain⟨l,hl,_,rfl⟩:=O0 hx;split at a
  .rename_i s p hg;obtain⟨⟨⟨G,D⟩,g,n,g1,g2⟩,_⟩:=h.atl hl hg;have O:(getObj l.blk).run P w=.ok (.stringIter g n) w:=by simp[getObj,Sem.run,g1]
   have i:l.blk<w.heap.size:=(C6.1 g1).1;have M:w.heap[l.blk]=.stringIter g n:=by
    have q:=g1;rw[F0 i]at q;exact A8 q
   obtain⟨s',r1,e1,T,k2⟩:=g2.tail;obtain⟨p',r2,e2,X,k4⟩:=k2.tail;cases k4.nil_inv;cases e2;cases e1;have Y:∀ V:Nat,(setObj l.blk (.stringIter g V)).run P w=.ok () { w with heap:=w.heap.set l.blk (.stringIter g V) i }:=fun V=>by
    simp[setObj,Sem.run,M,Array.setIfInBounds,i]
   have z:n<g.size->(Instr.next (.pointer (some ⟨l.blk,0+l.sh,none⟩)) true ty).run P w=.ok (.tuple #[.bool true,.int .i64 (.ofNat n),.int .i32 (.ofNat (Utf8.decode g n).1)]) { w with heap:=w.heap.set l.blk (.stringIter g (n+(Utf8.decode g n).2)) i }:=fun o=>by
    rw[D];simp[Instr.next,A4,Result.andThen_ok,O,o,Y,goInt]
   have K:¬n<g.size->(Instr.next (.pointer (some ⟨l.blk,0+l.sh,none⟩)) true ty).run P w=.ok (.tuple #[.bool false]) w:=fun o=>by
    rw[D];simp[Instr.next,A4,Result.andThen_ok,O,o]
   have fin:∀ {m1 m2:Mem} {q:Value},J5 m m1->cA m1 r (.iter [s,q])=some m2->J9 ρ m.n m2.hi->VR ρ q (.int .i64 (.ofNat (n+(Utf8.decode g n).2)))->St P base ρ ρ m m2 w { w with heap:=w.heap.set l.blk (.stringIter g (n+(Utf8.decode g n).2)) i }:=fun{m1 m2 q} e X3 R hq=>by
    obtain⟨lg,rfl⟩:=e;have F:=St.wLg h lg;have az:Hp.get (m.wLg lg).H r=some (.iter [s,p]):=by rw[kG];exact hg
    refine St.trans R F (St.write (ab:=.iter [s,p]) (ab':=.iter [s,q]) F.hr X3 az rfl hl G ⟨rfl,rfl,rfl⟩ (by simp) (fun j hj=>?_) ?_)
    .show(w.heap.set l.blk _ i)[j]? = _;rw[o9,A6 (fun e=>hj e.symm)]
    .refine⟨⟨G,D⟩,g,_,?_,.cons T (.cons hq .nil)⟩;show(w.heap.set l.blk _ i)[l.blk]? = _;rw[o9,A9 rfl]
   split at a
   .rename_i b k hc;obtain⟨rfl,rfl⟩:=NX hc;have e:=U5 T;cases e;have e:=J1 X;cases e;by_cases o:n<g.size
    .have t:Nat.blt n g.data.toList.length=true:=C4 o;rw[t]at a;simp only[E1,E5]at a;split at a
     .rename_i m2 X3;cases a;exact⟨_,ρ,_,z o,.tuple rfl (LR.cons (.pure rfl) (LR.cons (.pure rfl) (LR.cons (.pure rfl) LR.nil))).2,fin ⟨m.lg,by cases m;rfl⟩ X3 hf (.pure rfl)⟩
     .cases a
    .have t:Nat.blt n g.data.toList.length=false:=by
      cases hq:Nat.blt n g.data.toList.length with
      | false=>rfl
      | true=>exact absurd (A1 hq) o
     rw[t]at a;cases a;exact⟨_,ρ,w,K o,.tuple rfl (LR.cons (.pure rfl) LR.nil).2,St.refl h⟩
   .obtain⟨h1,a⟩:=A3 a;obtain⟨h1,h2⟩:=B4 h1;have h1:=A0 h1;have h2:=A0 h2;obtain⟨s0,es,as⟩:=l5 T h1;cases es;obtain⟨kk,nn,ep,ap,_⟩:=M2 X A2;cases ep;split at a
    .rename_i hh m1 E;split at a
     .rename_i c H N W hi lg C;have o1:=H3 E;have o2:=H3 C;have key:∀ {b:Bool} {f:Lg},brL lg c=some (b,f)->Sat f->(b=true↔n<s0.length)/\J5 m ⟨H,N,W,hi,f⟩:=fun{b f} t u=>by
       have L:Sat lg:=u.le (eS t);have Z:Sat m1.lg:=R2.le L (H6 C);have u1:VR ρ hh (.int .i64 s0.length):=by
        have:=(gZ (ρ:=ρ) E Z).2.2;rw[B9,F7,as]at this;exact this
       obtain⟨rfl,e1⟩:=iU E;obtain⟨k5,n5,e5,a5,_⟩:=M2 u1 (show 3<8 by decide);cases e5;have u2:VR ρ c (.bool (decide ((n:Int)<s0.length))):=by
        have:=(gZ (ρ:=ρ) C L).2.2;rw[B9,B9,F7,ap,a5]at this;have e:evU (.bin .lss) [.int .i64 (Int.ofNat n),.int .i64 (s0.length:Int)]=.bool (decide ((n:Int)<s0.length)):=by
         simp[evU,evB,aB,tI,hJ,kC,EG,ofV]
        rw[e]at this;exact this
       have:=lT t u2 u;refine⟨?_,?_⟩
       .have:=Value.bool.inj this;rw[<- this,decide_eq_true_iff];omega
       .exact(o1.trans o2).trans ⟨f,rfl⟩
      split at a
      .rename_i f t;split at a
       .rename_i y m3 A;split at a
        .rename_i q m4 B;split at a
         .rename_i m5 X3;cases a;have J:Sat m4.lg:=by rw[<- dF X3];exact hS
          have I:=J.le (H6 B);have u:Sat f:=I.le (H6 A);obtain⟨Q,ko⟩:=key t u;have o:=Q.1 rfl;have u3:VR ρ y (.int .i32 (.ofNat (Utf8.decode ⟨⟨s0⟩⟩ n).1)):=by
           have:=(gZ (ρ:=ρ) A I).2.2;rw[B9,B9,F7,as,ap]at this;exact this
          have u4:VR ρ q (.int .i64 (.ofNat (n+(Utf8.decode ⟨⟨s0⟩⟩ n).2))):=by
           have:=(gZ (ρ:=ρ) B J).2.2;rw[B9,B9,F7,as,ap]at this;exact this
          exact⟨_,ρ,_,z o,.tuple rfl (LR.cons (.pure rfl) (LR.cons X (LR.cons u3 LR.nil))).2,fin ((ko.trans (H3 A)).trans (H3 B)) X3 hf u4⟩
         .cases a
        .cases a
       .cases a
      .rename_i f t;cases a;obtain⟨Q,ko⟩:=key t hS;have o:¬n<s0.length:=fun q=>by have:=Q.2 q;cases this
       obtain⟨S,e3⟩:=ko;refine⟨_,ρ,w,K o,.tuple rfl (LR.cons (.pure rfl) LR.nil).2,?_⟩;rw[e3];exact St.wLg h S
      .cases a
     .cases a
    .cases a
  .cases a
 .cases a
def TM{t:TypeId}{x:Value}(a:wW P m t x=some (v,m')):m.lg.le m'.lg:=by
 unfold wW at a;split at a
 .obtain⟨_,a⟩:=A3 a;rw[y6 a];exact .refl _
 .cases a
def YQ{x:Value}(e:IN m x=some (v,m')):m.lg.le m'.lg:=by
 unfold IN at e;split at e
 .split at e
  .split at e
   .rename_i b k o;cases f:Nat.blt k b.data.toList.length with
    | true =>
      rw[f]at e;simp only[E1,E5]at e;split at e
      .rename_i X3;cases e;rw[dF X3];exact .refl _
      .cases e
    | false=>rw[f]at e;cases e;exact .refl _
   .obtain⟨_,e⟩:=A3 e;split at e
    .rename_i j;split at e
     .rename_i i;have a:=(H6 j).trans (H6 i);split at e
      .rename_i f;have a:=a.trans (eS f);split at e
       .rename_i n;split at e
        .rename_i g;split at e
         .rename_i X3;cases e;rw[dF X3];exact(a.trans (H6 n)).trans (H6 g)
         .cases e
        .cases e
       .cases e
      .rename_i f;cases e;exact a.trans (eS f)
      .cases e
     .cases e
    .cases e
  .cases e
 .cases e
def A5m{fr:Fr}{g:Operand->Value}{o:Oper}(h:HR P base ρ m.H w)(C:base<=w.heap.size)(b:xtM P fr m o=some (v,m'))(i:J9 ρ m.n m'.hi)(A:FR ρ fr g o.op)(f:Sat m'.lg):NOk P base ρ m w (execOp g o) v m':=by
 obtain⟨dst,op,ty,pos,E,F⟩:=o;unfold xtM at b;simp only at b A;have a:∀ {x},x ∈ op.operands.toList->VR ρ (ev fr x) (g x):=fun hx=>A _ hx
 split at b
 .rename_i s t x;exact NOk.of (A05 h b (a (x:=x) (by simp[Op.operands])))
 .rename_i op t x y J;exact NOk.of (XS h b (a (x:=x) (by simp[Op.operands])) (a (x:=y) (by simp[Op.operands])))
 .rename_i xs tys;have l1:=cS (ρ:=ρ) (fr:=fr) (g:=g) (xs:=xs.toList) fun y q=>A y (by show y ∈ (#[]++xs:Array Operand).toList;simpa using q)
  split at b
  .rename_i x hx;rw[hx]at l1;obtain⟨x',r1,z,g1,g2⟩:=l1.tail;cases g2.nil_inv;have B:xs.map g=#[x']:=by apply I7;simpa using z
   have:=A53 (tys:=tys) h b g1;have j:=NOk.of this;obtain⟨ks,u⟩:∃ ks,execOp g ⟨dst,.call ⟨.builtin .unsafeSliceData,xs,tys⟩,ty,pos,E,F⟩=builtin .unsafeSliceData tys ty ks (xs.map g):=⟨#[],rfl⟩;rw[u,B];exact j
  .cases b
 .rename_i xs tys;have l1:=cS (ρ:=ρ) (fr:=fr) (g:=g) (xs:=xs.toList) fun y q=>A y (by show y ∈ (#[]++xs:Array Operand).toList;simpa using q)
  split at b
  .rename_i p l t rest hx D;rw[hx]at l1;obtain⟨x',r1,z,g1,g2⟩:=l1.tail;obtain⟨I,K,rfl,g3,g4⟩:=g2.tail;cases g4.nil_inv;have B:xs.map g=#[x',I]:=by apply I7;simpa using z
   have j:=NOk.of (A5s (ty:=ty) (tys:=rest) h b g1 g3 f i);obtain⟨ks,u⟩:∃ ks,execOp g ⟨dst,.call ⟨.builtin .unsafeString,xs,tys⟩,ty,pos,E,F⟩=builtin .unsafeString tys ty ks (xs.map g):=⟨#[],rfl⟩;have G:tys=⟨t::rest⟩:=by rw[<- D]
   rw[u,B,G];exact j
  .cases b
 .rename_i t;exact NOk.of (A2S h C b i f)
 .rename_i t x k ok;exact NOk.of (TV h b (a (x:=x) (by simp[Op.operands])) (a (x:=k) (by simp[Op.operands])) f)
 .rename_i t x;exact NOk.of (TL h C b i (a (x:=x) (by simp[Op.operands])))
 .rename_i x;exact NOk.of (YP h b i (a (x:=x) (by simp[Op.operands])) f)
 .rename_i t x k e;obtain⟨rfl,hu⟩:=HX h C b i (a (x:=x) (by simp[Op.operands])) (a (x:=k) (by simp[Op.operands])) (a (x:=e) (by simp[Op.operands])) f;exact NOk.ofU hu
 .rename_i t x k e;obtain⟨rfl,hu⟩:=HX h C b i (a (x:=x) (by simp[Op.operands])) (a (x:=k) (by simp[Op.operands])) (a (x:=e) (by simp[Op.operands])) f;exact NOk.ofU hu
 .rename_i xs tys;have l1:=cS (ρ:=ρ) (fr:=fr) (g:=g) (xs:=xs.toList) fun y q=>A y (by show y ∈ (#[]++xs:Array Operand).toList;simpa using q)
  split at b
  .rename_i x t rest hx D;rw[hx]at l1;obtain⟨x',r1,z,g1,g2⟩:=l1.tail;cases g2.nil_inv;have B:xs.map g=#[x']:=by apply I7;simpa using z
   have j:=NOk.of (ZD (ty:=ty) (tys:=rest) h b g1 f);obtain⟨ks,u⟩:∃ ks,execOp g ⟨dst,.call ⟨.builtin .len,xs,tys⟩,ty,pos,E,F⟩=builtin .len tys ty ks (xs.map g):=⟨#[],rfl⟩;have G:tys=⟨t::rest⟩:=by rw[<- D]
   rw[u,B,G];exact j
  .cases b
 .cases b
def A5n{fr:Fr}{o:Oper}(a:xtM P fr m o=some (v,m')):m.lg.le m'.lg:=by
 unfold xtM at a;split at a
 .unfold SD at a;split at a
  .split at a
   .obtain⟨_,a⟩:=A3 a;cases a;exact .refl _
   .cases a
  .split at a
   .obtain⟨_,a⟩:=A3 a;cases a;exact .refl _
   .cases a
  .obtain⟨_,a⟩:=A3 a;split at a
   .split at a
    .rename_i X3;cases a;obtain⟨_,rfl⟩:=U4 X3;exact .refl _
    .cases a
   .cases a
  .cases a
 .unfold PZ at a;split at a
  .obtain⟨_,a⟩:=A3 a;split at a
   .cases a;exact .refl _
   .cases a;exact .refl _
   .cases a
  .cases a
 .split at a
  .unfold sdM at a;split at a
   .split at a
    .split at a
     .cases a;exact .refl _
     .cases a
    .cases a
   .cases a
  .cases a
 .split at a
  .unfold usM at a;split at a
   .obtain⟨_,a⟩:=A3 a;split at a
    .obtain⟨_,a⟩:=A3 a;split at a
     .rename_i b;split at a
      .rename_i hs;cases a;rw[dF hs];exact H6 b
      .cases a
     .cases a
    .cases a
   .cases a
  .cases a
 .exact A2T a
 .exact TW a
 .exact TM a
 .exact YQ a
 .exact HY a
 .exact HY a
 .split at a
  .exact ZE a
  .cases a
 .cases a
end
end
section
open Go
def fw(rd:Option Nat):Fence:={ Fence.wide with round:=rd }
def qX{rd:Option Nat}{n:Nat}:(fw rd).depth.isSome=true->1<=n:=fun h=>by cases h
def oI{rd:Option Nat}{n:Nat}{P:Program}{f:FuncId}{args:V9}{w:World}{R:Ending->World->Prop}:CallsIn (fw rd) n P f args w R↔Calls P f args w R :=
 ⟨fun h=>callsIn_wide.1 (show CallsIn Fence.wide n P f args w R from h),fun h=>show CallsIn (fw rd) n P f args w R from(callsIn_wide (n:=n)).2 h⟩
section
variable {P:Program} {rd:Option Nat}
def wpO(P:Program)(rd:Option Nat)(o:Oper)(a:Act)(w:World)(K:Act->World->Prop)(Q:Exit->Act->World->Prop):Prop:=o.wpIn (fw rd) 0 P a w K Q
def GB{o:Oper}{a:Act}{w:World}{K f:Act->World->Prop}{Q:Exit->Act->World->Prop}(h:∀ a w,K a w->f a w)(hh:wpO P rd o a w K Q):wpO P rd o a w f Q:=by
 unfold wpO Oper.wpIn at *;refine⟨hh.1,?_⟩;have hh:=hh.2;generalize (o.semAt (fw rd).round a.eval).run P w=r at *;cases r with
 | ok n w' =>
   cases n<;>simp only[Oper.uponIn]at hh ⊢ <;>
    first
     | exact h _ _ hh
     | exact⟨hh.1,CallsIn.mono hh.2 (fun e b he=>by cases e<;>first|exact h _ _ he|exact he)⟩
     | exact⟨hh.1,RowsIn.mono hh.2 (fun _ _ he=>h _ _ he)⟩
     | exact⟨hh.1,RoundIn.mono hh.2 (fun e b he=>by cases e<;>first|exact h _ _ he|exact he)⟩
 | halt x w'=>cases x<;>simp only[Oper.uponIn]at hh ⊢<;>exact hh
def wpL(P:Program)(rd:Option Nat)(ops:Array Oper)(Q:Exit->Act->World->Prop):List Oper->Act->World->Prop
 | [],a,w=>Q .normal a w
 | o::rest,a,w=>if Region.wanted o (yielded ops a.tmps)then wpO P rd o a w (wpL P rd ops Q rest) Q else wpL P rd ops Q rest (a.put o.dst undef) w
def GC{ops:Array Oper}{Q:Exit->Act->World->Prop}{a:Act}{w:World}{rest:List Oper}{o:Oper}
  (h:∀ K:Act->World->Prop,(∀ a w,wpL P rd ops Q rest a w->K a w)->if Region.wanted o (yielded ops a.tmps)then wpO P rd o a w K Q else K (a.put o.dst undef) w):wpL P rd ops Q (o::rest) a w:=h _ fun _ _ h=>h
def OO{ops:Array Oper}{Q:Exit->Act->World->Prop}:∀ (l:List Oper) (k:Nat),(∀ j,l[j]? = ops[k+j]?)->∀ a w,wpL P rd ops Q l a w->wpOpsIn (fw rd) 0 P ops Q (List.range' k l.length) a w
 | [],k,_,a,w,h=>h
 | o::l,k,hk,a,w,h=>by
   have h0:ops[k]? = some o:=by simpa using(hk 0).symm
   have b:=OO (Q:=Q) l (k+1) (fun j=>by have:=hk (j+1);simpa [bY,jK 1 j]using this);simp only[D8,List.range'_succ,wpOpsIn,h0];unfold wpL at h;split
   .rename_i hw;rw[A9 hw]at h;exact GB b h
   .rename_i hw;rw[A6 hw]at h;exact⟨fun _ _=>trivial,b _ _ h⟩
def uM{id:Nat}{ops:Array Oper}{Q:Exit->Act->World->Prop}{a:Act}{w:World}(h:wpL P rd ops Q ops.toList a w):(Code.region id ops false).wpIn (fw rd) 0 P Q a w :=
 wpIn_region (by
  have:=OO ops.toList 0 (by simp) a w h;rw[List.range_eq_range',<- Q9];exact this)
def gI(P:Program)(rd:Option Nat)(ops:Array Oper)(Q:Exit->Act->World->Prop)(i:Nat)(K:Act->World->Prop)(a:Act)(w:World):Prop :=
 match ops[i]? with
 | none=>K a w
 | some o=>if Region.wanted o (yielded ops a.tmps)then wpO P rd o a w K Q else K (a.put o.dst undef) w
def LJ{ops:Array Oper}{Q:Exit->Act->World->Prop}{i:Nat}{a:Act}{w:World}{K b:Act->World->Prop}(h:∀ a w,K a w->b a w)(hh:gI P rd ops Q i K a w):gI P rd ops Q i b a w:=by
 unfold gI at *;split
 .exact h _ _ (by simpa [*]using hh)
 .rename_i o e;simp only[e]at hh;split
  .rename_i hw;simp only[hw,if_true]at hh;exact GB h hh
  .rename_i hw;simp only[hw]at hh;exact h _ _ hh
def DG{ops:Array Oper}{Q:Exit->Act->World->Prop}{i:Nat}{rest:G9}{a:Act}{w:World}(h:gI P rd ops Q i (wpOpsIn (fw rd) 0 P ops Q rest) a w):wpOpsIn (fw rd) 0 P ops Q (i::rest) a w:=by
 unfold gI at h;simp only[wpOpsIn];split at h
 .rename_i b;simp only[b];exact h
 .rename_i o e;simp only[e];split at h
  .rename_i hw;rw[A9 hw];exact h
  .rename_i hw;rw[A6 hw];exact⟨fun _ _=>trivial,h⟩
def iF(P:Program)(rd:Option Nat)(md:Region.Mode)(ops:Array Oper)(Q:Exit->Act->World->Prop):Nat->Array Bool->Act->World->Prop
 | 0,listed,a,w=>Region.ready md ops listed=[]/\Q .normal a w
 | fuel+1,listed,a,w=>(Region.ready md ops listed=[]->Q .normal a w)/\∀ i ∈ Region.ready md ops listed,gI P rd ops Q i (iF P rd md ops Q fuel (listed.setIfInBounds i true)) a w
def DH{md:Region.Mode}{ops:Array Oper}{Q:Exit->Act->World->Prop}:∀ (fuel t:Nat) (listed:Array Bool) (a:Act) (w:World),iF P rd md ops Q fuel listed a w->wpOpsIn (fw rd) 0 P ops Q (Region.linearise.go md ops fuel t listed []) a w:=by
 intro fuel;induction fuel with
 | zero=>intro t listed a w h;simpa [Region.linearise.go,wpOpsIn]using h.2
 | succ fuel f =>
   intro t listed a w h;obtain⟨h0,h1⟩:=h;simp only[Region.linearise.go];change wpOpsIn (fw rd) 0 P ops Q (match (Region.ready md ops listed)[t%(Region.ready md ops listed).length]? with
    | some i=>Region.linearise.go md ops fuel (t / (Region.ready md ops listed).length) (listed.setIfInBounds i true) [i]
    | none=>[].reverse) a w
   cases hi:(Region.ready md ops listed)[t%(Region.ready md ops listed).length]? with
   | none =>
     have b:Region.ready md ops listed=[]:=by
      cases hr:Region.ready md ops listed with
      | nil=>rfl
      | cons x xs =>
        rw[hr]at hi;have e:t%(x::xs).length<(x::xs).length:=oN _ (by simp);simp at hi;simp at e;omega
     simpa [wpOpsIn]using h0 b
   | some i =>
     simp only[];rw[linearise_go_acc,List.reverse_singleton,List.singleton_append];exact DG (LJ (fun a w=>f _ _ a w) (h1 i (C7 hi)))
def kF{id:Nat}{ops:Array Oper}{Q:Exit->Act->World->Prop}{a:Act}{w:World}(hm:P.follows .mixedOrders=true)
  (h:iF P rd .any ops Q ops.size (Array.replicate ops.size false) a { w with drawn:=w.drawn+1 }):(Code.region id ops true).wpIn (fw rd) 0 P Q a w :=
 wpIn_region_draw fun t=>by
  simp only[Region.schedule,hm,Bool.true_or,if_true];exact DH ops.size t _ a _ h
def q9{b:Frame}{a:Act}{k:List Item}{w:World} :step P (lone (b.atR a (.code (.scope c)::k)) cs w)=.next (lone (b.atR a (.code c::.inScope c::k)) cs w) :=
 step_lone_go (by simp[stepG,stepG.exec,Frame.atR])
def zW{b:Frame}{a:Act}{k:List Item}{w:World} :step P (lone (b.atR a (.inScope c::k)) cs w)=.next (lone (b.atR a k) cs w) :=
 step_lone_go (by simp[stepG,stepG.exec,Frame.atR])
def Exit.calm(Q:Exit->Act->World->Prop):Exit->Act->World->Prop
 | .goto _,_,_=>False
 | e,a,w=>Q e a w
def LK{F:Fence}{n:Nat}{Q:Exit->Act->World->Prop}{a:Act}{w:World}(h:c.wpIn F n P (Exit.calm Q) a w):(Code.scope c).wpIn F n P Q a w:=by
 intro b k cs s q hr;have h0:(lone (b.atR a (.code (.scope c)::k)) cs w).fenced P F:=fenced_calm q hr rfl;obtain⟨e,g,i,j,f⟩:=h b (.inScope c::k) cs s q hr;cases e with
 | normal=>exact⟨.normal,g,i,j,.head h0 q9 (StepsIn.trans f (.one (fenced_calm q hr rfl) zW))⟩
 | exit id =>
   have hx:exitTo id (.inScope c::k)=exitTo id k:=rfl;exact⟨.exit id,g,i,j,fun k' p=>.head h0 q9 (f.1 k' (by rw[hx];exact p)),
    fun o p=>let ⟨k₁,h1,t⟩:=f.2 o (by rw[hx];exact p);⟨k₁,h1,.head h0 q9 t⟩⟩
 | goto l=>exact j.elim
 | ret=>exact⟨_,g,i,j,.of_steps (.one h0 q9) f⟩
 | panic u=>exact⟨_,g,i,j,.of_steps (.one h0 q9) f⟩
 | outgrown=>exact⟨_,g,i,j,.of_steps (.one h0 q9) f⟩
end
end
section
open Go
def nG(o:Op)(g:Operand->Value):Sem Value :=
 match o with
 | .move x|.assign x=>pure (g x)
 | .load t x=>Instr.loadAt t (g x)
 | .store t x y=>do Instr.storeAt t (g x) (g y);pure undef
 | _=>stuck "no such operation"
def sW(P:Program)(o:Oper)(s:Act×World):Option (Act×World) :=
 match (nG o.op s.1.eval).run P s.2 with
 | .ok v w'=>some (s.1.put o.dst v,w')
 | .halt _ _=>none
section
variable {P:Program} {rd:Option Nat}
def vP{o:Oper}{s t:Act×World}(h:sW P o s=some t):∃ v,(nG o.op s.1.eval).run P s.2=.ok v t.2/\t.1=s.1.put o.dst v:=by
 unfold sW at h;split at h
 .rename_i v w' hr;cases h;exact⟨v,hr,rfl⟩
 .cases h
def mX{o:Oper}{s:Act×World}(h:(nG o.op s.1.eval).run P s.2=.ok v w'):sW P o s=some (s.1.put o.dst v,w'):=by
 unfold sW;rw[h]
def UQ{o:Oper}(a:FN o.op=true)(w:World)(g:Operand->Value):o.about P w g=none:=by
 unfold Oper.about;cases b:o.op<;>rw[b]at a<;>first|rfl|cases a
def PA{o:Oper}(a:FN o.op=true)(g:Operand->Value):∀ c,o.op≠.defer c:=fun c h=>by rw[h]at a;cases a
def A1j{o:Oper}(g:FN o.op=true){a a':Act}{w:World}{K:Act->World->Prop}{Q:Exit->Act->World->Prop}(h:sW P o (a,w)=some (a',w'))(i:K a' w'):wpO P rd o a w K Q:=by
 obtain⟨v,h1,n⟩:=vP h;simp only at h1 n;subst n;unfold wpO Oper.wpIn;refine⟨fun f j=>(by rw[UQ g]at j;cases j),?_⟩;rw[Oper.semAt_eq _ _ _ (PA g a.eval)];cases b:o.op<;>rw[b]at g h1<;>first
  | cases g;done
  | skip
 .have e:(execOp a.eval o)=pure (.value (a.eval ‹Operand›)):=by unfold execOp;rw[b]
  rw[e];cases h1;exact i
 .have e:(execOp a.eval o)=pure (.value (a.eval ‹Operand›)):=by unfold execOp;rw[b]
  rw[e];cases h1;exact i
 .rename_i t x;have e:(execOp a.eval o)=(do pure (.value (<- Instr.loadAt t (a.eval x)))):=by unfold execOp;rw[b]
  have h1:(Instr.loadAt t (a.eval x)).run P w=.ok v w':=h1;rw[e];simp only[A4,h1,Result.andThen,Sem.run_pure];exact i
 .rename_i t x y;have e:(execOp a.eval o)=(do Instr.storeAt t (a.eval x) (a.eval y);pure .skip):=by unfold execOp;rw[b]
  have h1:(do Instr.storeAt t (a.eval x) (a.eval y);pure undef:Sem Value).run P w=.ok v w':=h1;rw[e];simp only[A4]at h1 ⊢;cases hr:(Instr.storeAt t (a.eval x) (a.eval y)).run P w with
  | ok u w2=>rw[hr]at h1;simp only[Result.andThen,Sem.run_pure]at h1 ⊢;cases h1;exact i
  | halt x w2=>rw[hr]at h1;cases h1
def A24{o:Oper}(f:FN o.op=true){a:Act}{w:World}{K:Act->World->Prop}{Q:Exit->Act->World->Prop}(g:∀ c a w,¬Q (.panic c) a w)(h:wpO P rd o a w K Q):∃ a' w',sW P o (a,w)=some (a',w')/\K a' w':=by
 unfold wpO Oper.wpIn at h;obtain⟨_,h⟩:=h;rw[Oper.semAt_eq _ _ _ (PA f a.eval)]at h;cases b:o.op<;>rw[b]at f<;>first
  | cases f;done
  | skip
 .rename_i x;have e:(execOp a.eval o)=pure (.value (a.eval x)):=by unfold execOp;rw[b]
  rw[e]at h;exact⟨_,_,mX (s:=(a,w)) (v:=a.eval x) (w':=w) (by rw[b];rfl),h⟩
 .rename_i x;have e:(execOp a.eval o)=pure (.value (a.eval x)):=by unfold execOp;rw[b]
  rw[e]at h;exact⟨_,_,mX (s:=(a,w)) (v:=a.eval x) (w':=w) (by rw[b];rfl),h⟩
 .rename_i t x;have e:(execOp a.eval o)=(do pure (.value (<- Instr.loadAt t (a.eval x)))):=by unfold execOp;rw[b]
  rw[e]at h;simp only[A4]at h;cases hr:(Instr.loadAt t (a.eval x)).run P w with
  | ok v w' =>
    rw[hr]at h;exact⟨_,_,mX (s:=(a,w)) (v:=v) (w':=w') (by rw[b];exact hr),h⟩
  | halt y w' =>
    rw[hr]at h;cases y<;>first|exact absurd h (g _ _ _)|exact h.elim
 .rename_i t x y;have e:(execOp a.eval o)=(do Instr.storeAt t (a.eval x) (a.eval y);pure .skip):=by unfold execOp;rw[b]
  rw[e]at h;simp only[A4]at h;cases hr:(Instr.storeAt t (a.eval x) (a.eval y)).run P w with
  | ok u w' =>
    rw[hr]at h;refine⟨_,_,mX (s:=(a,w)) (v:=undef) (w':=w') ?_,h⟩;rw[b];show(do Instr.storeAt t (a.eval x) (a.eval y);pure undef:Sem Value).run P w=_;simp only[A4,hr,Result.andThen,Sem.run_pure]
  | halt z w' =>
    rw[hr]at h;cases z<;>first|exact absurd h (g _ _ _)|exact h.elim
def XI{a:Act}{e:Option Tmp}{u:Value}(h:∀ x y,d=some x->e=some y->x≠y):(a.put d v).put e u=(a.put e u).put d v:=by
 cases d with
 | none=>rfl
 | some x=>cases e with
   | none=>rfl
   | some y =>
     have b:=h x y rfl rfl;unfold Act.put;simp only;congr 1;exact Array.setIfInBounds_comm _ _ b
def hO{a:Act}{x:Operand}(h:∀ t,d=some t->t ∉ oZ x):(a.put d v).eval x=a.eval x:=by
 cases x with
 | const c=>cases d<;>rfl
 | tmp t =>
   cases d with
   | none=>rfl
   | some y =>
     have:y≠t:=fun e=>h y rfl (by subst e;exact S2.2 rfl)
     unfold Act.put Act.eval;simp only[B6];rw[Array.getElem?_setIfInBounds_ne this]
 | _=>cases d<;>rfl
variable [Ora]
def AH(P:Program)(w:World)(t:TypeId)(p:Value):Prop :=
 ∃ b o C T fz s g,p=.pointer (some ⟨b,o,none⟩)/\w.heap[b]? = some (.cells C T fz)/\G5 P t=some s/\y9 P t=some g/\o+s<=C.size/\o<C.size
def BP{t:TypeId}{b o s:Nat}{C:V9}{T:TypeId}{g:Bool}(hs:G5 P t=some s)(n:y9 P t=some g)(h1:o+s<=C.size)(p:o<C.size):∃ v,∀ w:World,w.heap[b]? = some (.cells C T fz)->(Instr.loadAt t (.pointer (some ⟨b,o,none⟩))).run P w=.ok v w:=by
 have a:∀ w:World,w.heap[b]? = some (.cells C T fz)->∀ j v,C[o+j]? = some v->w.cell? ⟨b,o+j,none⟩=some v:=fun w hw j v hv=>by simp[World.cell?,hw,hv]
 cases g with
 | true =>
   refine⟨.agg ⟨(C.toList.drop o).take s⟩,fun w hw=>?_⟩;have q:((C.toList.drop o).take s).length=s:=by rw[G7,D1,Q9];omega
   have f:=K0 (P:=P) (w:=w) (b:=b) (o:=o) q (fun j v e=>by
    have i:j<s:=by have:=(B0.1 e).1;omega
    rw[F2 i,H7,P0]at e;exact a w hw j v e)
   unfold Instr.loadAt;simp[A4,Instr.sureAddr,loadVar,bT n,K4 hs,Result.andThen,f]
 | false =>
   refine⟨C[o],fun w hw=>?_⟩
   have:=a w hw 0 C[o] (by simp[p]);unfold Instr.loadAt;simp[A4,Instr.sureAddr,loadVar,bT n,Result.andThen,run_load,show w.cell? ⟨b,o,none⟩=some C[o]from by simpa using this]
def wE{b o:Nat}{T:TypeId}{fz:Nat×Nat}:∀ (vs:List Value) (i:Nat) (C:Array Value) (w w':World),w.heap[b]? = some (.cells C T fz)->o+i+vs.length<=C.size->(storeCells ⟨b,o,none⟩ vs i).run P w=.ok () w' ->
  (∀ k,k≠b->w'.heap[k]? = w.heap[k]?)/\∃ C',w'.heap[b]? = some (.cells C' T fz)/\C'.size=C.size
 | [],i,C,w,w',h,_,hr=>by cases hr;exact⟨fun _ _=>rfl,C,h,rfl⟩
 | v::r,i,C,w,w',h,hl,hr=>by
   simp only[D8]at hl;have f:o+i<C.size:=A2;have p:w.cell? ⟨b,o+i,none⟩=some C[o+i]:=by simp[World.cell?,h,f]
   have q:(w.setCell ⟨b,o+i,none⟩ v).heap[b]? = some (.cells (C.setIfInBounds (o+i) v) T fz):=by
    simp[World.setCell,G4,h]
   unfold storeCells at hr;simp only[A4,K0.add_none']at hr;have a:(store ⟨b,o+i,none⟩ v).run P w=.ok () (w.setCell ⟨b,o+i,none⟩ v)∨∃ x w2,(store ⟨b,o+i,none⟩ v).run P w=.halt x w2:=by
    unfold store;cases v<;>first
     | exact .inr ⟨_,_,rfl⟩
     | (simp only[Sem.run,p]
        split
        .exact .inr ⟨_,_,rfl⟩
        .exact .inl rfl)
   rcases a with a|⟨x,w2,a⟩
   .rw[a]at hr;simp only[Result.andThen]at hr;obtain⟨s,C',j,n⟩:=wE r (i+1) _ _ _ q (by simp;omega) hr;refine⟨fun k g=>?_,C',j,by rw[n];simp⟩;rw[s k g];simp only[World.setCell,G4];rw[A6 (fun e=>g e.symm)]
   .rw[a]at hr;cases hr
def DK{t:TypeId}{b o s:Nat}{C:V9}{T:TypeId}{y:Value}{w:World}(hs:G5 P t=some s)(hw:w.heap[b]? = some (.cells C T fz))(h1:o+s<=C.size)(hr:(Instr.storeAt t (.pointer (some ⟨b,o,none⟩)) y).run P w=.ok () w') :
  (∀ k,k≠b->w'.heap[k]? = w.heap[k]?)/\∃ C',w'.heap[b]? = some (.cells C' T fz)/\C'.size=C.size:=by
 unfold Instr.storeAt at hr;simp only[A4,Instr.sureAddr,storeVar,K4 hs,Result.andThen,Sem.run_pure]at hr;by_cases a:y.cells.size≠s
 .rw[A9 a]at hr;cases hr
 .rw[A6 a]at hr;have a:=Classical.not_not.1 a;exact wE y.cells.toList 0 C w w' hw (by rw[Q9,a];omega) hr
structure LH (P:Program) (ops:List Oper) (s:Act×World):Prop where
 pl:∀ o ∈ ops,∀ t x,lV o.op=some (t,x)->AH P s.2 t (s.1.eval x)
 ap:∀ i j a b,i<j->ops[i]? = some a->ops[j]? = some b->rH b i=false->(fK a.op || fK b.op)=true->∀ t x u y,lV a.op=some (t,x)->lV b.op=some (u,y)->∀ p q,s.1.eval x=.pointer (some p)->s.1.eval y=.pointer (some q)->p.block≠q.block
def yC{b:Nat}:u9 l b=true↔b ∈ l:=by
 unfold u9;rw[P3];constructor
 .rintro⟨x,h,e⟩;have:=A0 e;subst this;exact h
 .intro h;exact⟨b,h,dJ b⟩
def IJ{a:List Tmp}:∀ {l:List Oper} {k i:Nat} {o:Oper},YF a k l=true->l[i]? = some o->A6K a (k+i) o=true
 | [],k,i,o,_,h=>by simp at h
 | p::l,k,0,o,h,hi=>by
   simp at hi;subst hi;exact(B4 h).1
 | p::l,k,i+1,o,h,hi=>by
   have:=IJ (l:=l) (k:=k+1) (i:=i) (o:=o) (B4 h).2 (by simpa using hi);rw[show k+(i+1)=k+1+i by omega];exact this
structure One (ops:List Oper) (i:Nat) (o:Oper):Prop where
 cls:FN o.op=true
 grd:o.guard=none
 ads:∀ p ∈ ops,∀ t x,lV p.op=some (t,x)->∀ d,o.dst=some d->d ∉ oZ x
 lt:∀ e ∈ o.after,Region.binds .any e=true->e.on<i
def mK{ops:List Oper}(h:kO ops=true){i:Nat}{o:Oper}(hi:ops[i]? = some o):One ops i o:=by
 have h1:=IJ (B4 h).1 hi;rw[F1]at h1;unfold A6K at h1;obtain⟨a,h1⟩:=B4 h1;obtain⟨a2,h1⟩:=B4 h1;obtain⟨a3,a4⟩:=B4 h1;refine⟨a,?_,fun p hp t x hx d f hm=>?_,fun e he j=>?_⟩
 .cases b:o.guard with
  | none=>rfl
  | some g=>rw[b]at a2;cases a2
 .have:u9 (A1V ops) d=true:=yC.2 (List.mem_flatMap.2 ⟨p,hp,by rw[hx];exact hm⟩);unfold BE at a3;rw[f]at a3;simp only at a3;rw[this]at a3;cases a3
 .have:=eX.1 a4 e he;rw[j]at this;exact A1 this
def HN{p:Oper->Oper->Bool}{ops:List Oper}(h:DX p ops=true){i j:Nat}{a b:Oper}(f:i<j)(hi:ops[i]? = some a)(g:ops[j]? = some b)(he:rH b i=false):p a b=true:=by
 unfold DX at h;have e:=(B0.1 g).1
 have:=D3.1 (D3.1 h j (S3.2 e)) i (S3.2 f);rw[hi,g]at this;simp only[he,P8]at this;exact this
def HS{o:Oper}{a:Act}(b:∀ t,d=some t->t ∉ XF o.op)(f:FN o.op=true):nG o.op (a.put d v).eval=nG o.op a.eval:=by
 cases g:o.op<;>rw[g]at f b<;>first
  | cases f;done
  | skip
 .unfold nG;simp only;rw[hO b]
 .unfold nG;simp only;rw[hO b]
 .unfold nG;simp only;rw[hO b]
 .unfold nG;simp only;rw[hO (fun t e hm=>b t e (B7.2 (.inl hm))),hO (fun t e hm=>b t e (B7.2 (.inr hm)))]
def vJ{o:Oper}{s:Act×World}(e:FN o.op=true)(a:fK o.op=false)(hp:∀ t x,lV o.op=some (t,x)->AH P s.2 t (s.1.eval x))(h:(nG o.op s.1.eval).run P s.2=.ok v w'):w'=s.2:=by
 cases z:o.op<;>rw[z]at e a h hp<;>first
  | cases e;done
  | cases a;done
  | skip
 .cases h;rfl
 .cases h;rfl
 .rename_i t x;obtain⟨b,o',C,T,fz,sz,g,j,p,i,q,f,n⟩:=hp t x rfl;obtain⟨u,hu⟩:=BP (P:=P) (T:=T) (fz:=fz) i q f n;have h:(Instr.loadAt t (s.1.eval x)).run P s.2=.ok v w':=h;rw[j,hu s.2 p]at h;cases h;rfl
def wD{o:Oper}{s:Act×World}(a:fK o.op=true)(hp:∀ t x,lV o.op=some (t,x)->AH P s.2 t (s.1.eval x))(h:(nG o.op s.1.eval).run P s.2=.ok v w') :
  ∃ t x b o' C T fz,lV o.op=some (t,x)/\s.1.eval x=.pointer (some ⟨b,o',none⟩)/\s.2.heap[b]? = some (.cells C T fz)/\(∀ k,k≠b->w'.heap[k]? = s.2.heap[k]?)/\∃ C',w'.heap[b]? = some (.cells C' T fz)/\C'.size=C.size:=by
 cases p:o.op<;>rw[p]at a h hp<;>first
  | cases a;done
  | skip
 rename_i t x y;obtain⟨b,o',C,T,fz,sz,g,e,f,n,B,i,A⟩:=hp t x rfl;have h:(do Instr.storeAt t (s.1.eval x) (s.1.eval y);pure undef:Sem Value).run P s.2=.ok v w':=h;simp only[A4]at h;cases hr:(Instr.storeAt t (s.1.eval x) (s.1.eval y)).run P s.2 with
 | ok u w2 =>
   rw[hr]at h;simp only[Result.andThen,Sem.run_pure]at h;cases h;rw[e]at hr;obtain⟨q,j⟩:=DK n f i hr;exact⟨t,x,b,o',C,T,fz,rfl,e,f,q,j⟩
 | halt z w2=>rw[hr]at h;cases h
def AH.keep{w:World}{t:TypeId}{p:Value}(h:AH P w t p)(j:∀ (b:Nat) (C:Array Value) (T:TypeId) (fz:Nat×Nat),w.heap[b]? = some (.cells C T fz)->∃ C',w'.heap[b]? = some (.cells C' T fz)/\C'.size=C.size):AH P w' t p:=by
 obtain⟨b,o,C,T,fz,s,g,e,f,a,i,n,q⟩:=h;obtain⟨C',h1,u⟩:=j b C T fz f;exact⟨b,o,C',T,fz,s,g,e,h1,a,i,A2,A2⟩
def LH.step{ops:List Oper}{s B:Act×World}{i:Nat}{o:Oper}(hr:kO ops=true)(A:LH P ops s)(hi:ops[i]? = some o)(h:sW P o s=some B):LH P ops B:=by
 obtain⟨v,h1,O⟩:=vP h;have I:=mK hr hi;have f:=C7 hi;have g:∀ p ∈ ops,∀ t x,lV p.op=some (t,x)->B.1.eval x=s.1.eval x:=fun p hp t x hx=>by rw[O];exact hO (I.ads p hp t x hx)
 have S:∀ (b:Nat) (C:Array Value) (T:TypeId) (fz:Nat×Nat),s.2.heap[b]? = some (.cells C T fz)->∃ C',B.2.heap[b]? = some (.cells C' T fz)/\C'.size=C.size:=fun b C T fz D=>by
  cases n:fK o.op with
  | false=>rw[vJ I.cls n (fun t x hx=>A.pl o f t x hx) h1];exact⟨C,D,rfl⟩
  | true =>
    obtain⟨t,x,b',o',X,W,V,Y,Z,L,R,C',K,N⟩:=wD n (fun t x hx=>A.pl o f t x hx) h1;by_cases e:b=b'
    .subst e;rw[L]at D;cases D;exact⟨C',K,N⟩
    .exact⟨C,by rw[R b e];exact D,rfl⟩
 refine⟨fun p hp t x hx=>by rw[g p hp t x hx];exact(A.pl p hp t x hx).keep S,fun i j a b E h3 F Q M t x u y H J p q G z=>?_⟩;rw[g a (C7 h3) t x H]at G;rw[g b (C7 F) u y J]at z;exact A.ap i j a b E h3 F Q M t x u y H J p q G z
def A0s{ops:List Oper}{s s1 s2:Act×World}{i j:Nat}{a b:Oper}(hr:kO ops=true)(M:LH P ops s)(B:i<j)(hi:ops[i]? = some a)(J:ops[j]? = some b)(he:rH b i=false)(h1:sW P a s=some s1)(h2:sW P b s1=some s2):∃ t,sW P b s=some t/\sW P a t=some s2:=by
 have O:=mK hr hi;have N:=mK hr J;have ma:=C7 hi;have mb:=C7 J;have f:=HN (B4 hr).2 B hi J he;unfold A8I at f;obtain⟨i1,f⟩:=B4 f;obtain⟨i2,f⟩:=B4 f;obtain⟨i3,i4⟩:=B4 f;have Q:∀ t,a.dst=some t->t ∉ XF b.op:=fun t R hm=>by
  unfold BE at i2;rw[R]at i2;simp only at i2;rw[yC.2 hm]at i2;cases i2
 have S:∀ t,b.dst=some t->t ∉ XF a.op:=fun t R hm=>by
  unfold BE at i3;rw[R]at i3;simp only at i3;rw[yC.2 hm]at i3;cases i3
 have W:∀ x y,a.dst=some x->b.dst=some y->x≠y:=fun x y hx hy e=>by
  rw[hx,hy]at i1;simp only at i1;subst e;rw[dJ]at i1;cases i1
 obtain⟨v,L,e2⟩:=vP h1;obtain⟨u,F,e4⟩:=vP h2;obtain⟨a1,w1⟩:=s1;obtain⟨a2,w2⟩:=s2;obtain⟨a0,w0⟩:=s;simp only at L e2 F e4;subst e2;subst e4;rw[HS Q N.cls]at F;suffices hh:∃ w',(nG b.op a0.eval).run P w0=.ok u w'/\(nG a.op a0.eval).run P w'=.ok v w2 by
  obtain⟨w',q1,q2⟩:=hh;refine⟨(a0.put b.dst u,w'),mX (s:=(a0,w0)) q1,?_⟩
  have:=mX (P:=P) (o:=a) (s:=(a0.put b.dst u,w')) (v:=v) (w':=w2) (by show(nG a.op (a0.put b.dst u).eval).run P w'=_;rw[HS S O.cls];exact q2);rw[this];simp only;rw[XI W]
 have G:∀ t x,lV a.op=some (t,x)->AH P w0 t (a0.eval x):=fun t x hx=>M.pl a ma t x hx
 have q:∀ t x,lV b.op=some (t,x)->AH P w0 t (a0.eval x):=fun t x hx=>M.pl b mb t x hx
 have n:∀ {o:Oper} {w w':World} {r:Value},FN o.op=true->fK o.op=false->(∀ t x,lV o.op=some (t,x)->∃ p A C T fz s g,a0.eval x=.pointer (some ⟨p,A,none⟩)/\w.heap[p]? = some (.cells C T fz)/\w'.heap[p]? = some (.cells C T fz)/\G5 P t=some s/\y9 P t=some g/\A+s<=C.size/\A<C.size)->(nG o.op a0.eval).run P w=.ok r w->(nG o.op a0.eval).run P w'=.ok r w':=fun{o w w' r} hc I hp h=>by
  cases ho:o.op<;>rw[ho]at hc I h hp<;>first
   | cases hc;done
   | cases I;done
   | skip
  .cases h;rfl
  .cases h;rfl
  .rename_i t x;obtain⟨p,A,C,T,fz,sz,g,f1,f2,f3,f4,f5,f6,f7⟩:=hp t x rfl;obtain⟨z,hz⟩:=BP (P:=P) (T:=T) (fz:=fz) f4 f5 f6 f7;have h:(Instr.loadAt t (a0.eval x)).run P w=.ok r w:=h;show(Instr.loadAt t (a0.eval x)).run P w'=.ok r w';rw[f1,hz w f2]at h;rw[f1,hz w' f3];cases h;rfl
 cases H:fK a.op with
 | false =>
   have hw:w1=w0:=vJ (s:=(a0,w0)) O.cls H G L;subst hw;refine⟨w2,F,?_⟩;refine n O.cls H (fun t x hx=>?_) L;obtain⟨p,A,C,T,fz,sz,g,f1,f2,f3,f4,f5,f6⟩:=G t x hx;cases D:fK b.op with
   | false =>
     have Y:w2=w1:=vJ (s:=(a0,w1)) N.cls D q F;subst Y;exact⟨p,A,C,T,fz,sz,g,f1,f2,f2,f3,f4,f5,f6⟩
   | true =>
     obtain⟨X,x',b',o',C0,T0,Z,g1,g2,g3,g4,_⟩:=wD (s:=(a0,w1)) D q F;have E:=M.ap i j a b B hi J he (by rw[H,D];rfl) t x X x' hx g1 _ _ f1 g2;exact⟨p,A,C,T,fz,sz,g,f1,f2,(g4 p E).trans f2,f3,f4,f5,f6⟩
 | true =>
   have D:fK b.op=false:=by
    cases h:fK b.op with
    | false=>rfl
    | true=>rw[H,h]at i4;cases i4
   obtain⟨X,x',b',o',C0,T0,Z,g1,g2,g3,g4,C1,g5,g6⟩:=wD (s:=(a0,w0)) H G L;have K:∀ t x,lV b.op=some (t,x)->AH P w1 t (a0.eval x):=fun t x hx=>(q t x hx).keep fun b C T fz V=>by
    by_cases e:b=b'
    .subst e;rw[g3]at V;cases V;exact⟨C1,g5,g6⟩
    .exact⟨C,by rw[g4 b e];exact V,rfl⟩
   have hw:w2=w1:=vJ (s:=(a0,w1)) N.cls D K F;subst hw;refine⟨w0,?_,L⟩;refine n N.cls D (fun t x hx=>?_) F;obtain⟨p,A,C,T,fz,sz,g,f1,f2,f3,f4,f5,f6⟩:=q t x hx;have E:=M.ap i j a b B hi J he (by rw[H,D];rfl) X x' t x g1 hx _ _ g2 f1;exact⟨p,A,C,T,fz,sz,g,f1,(g4 p (fun e=>E e.symm)).trans f2,f2,f3,f4,f5,f6⟩
def DQ(P:Program)(ops:List Oper):G9->Act×World->Option (Act×World)
 | [],s=>some s
 | i::l,s=>match ops[i]? with
   | some o=>match sW P o s with
     | some s=>DQ P ops l s
     | none=>none
   | none=>DQ P ops l s
def nU{ops:List Oper}(hr:kO ops=true){j:Nat}{b:Oper}(f:ops[j]? = some b){l2:G9}{r:Act×World}:∀ (l1:List Nat) (s:Act×World),LH P ops s->(∀ i ∈ l1,i<j/\rH b i=false)->DQ P ops (l1++j::l2) s=some r->∃ s1,sW P b s=some s1/\DQ P ops (l1++l2) s1=some r
 | [],s,hg,_,h=>by
   simp only[G3,DQ,f]at h;split at h
   .rename_i s1 h1;exact⟨s1,h1,h⟩
   .cases h
 | i::l1,s,hg,hl,h=>by
   obtain⟨h0,he⟩:=hl i B2;have e:∀ i ∈ l1,i<j/\rH b i=false:=fun k o=>hl k (C3 _ o)
   simp only[R7,DQ]at h ⊢;cases hi:ops[i]? with
   | none =>
     rw[hi]at h;exact nU hr f l1 s hg e h
   | some a =>
     rw[hi]at h;simp only at h ⊢;split at h
     .rename_i n h1;obtain⟨s1,g,p⟩:=nU hr f l1 n (hg.step hr hi h1) e h;obtain⟨t,t1,t2⟩:=A0s hr hg h0 hi f he h1 g;exact⟨t,t1,by rw[t2];exact p⟩
     .cases h
def kA(n:Nat)(listed:Array Bool):G9:=(List.range n).filter fun i=>!listed.getD i true
def pW{n:Nat}{i:Nat}:i ∈ kA n listed↔i<n/\listed.getD i true=false:=by
 unfold kA;rw[O6,S3];simp
def DT(n:Nat)(listed:Array Bool):(kA n listed).Pairwise (· < ·):=List.Pairwise.filter _ List.pairwise_lt_range
def XE{n:Nat}{i:Nat}{l1 l2:G9}(hi:i<listed.size)(h:kA n listed=l1++i::l2):kA n (listed.setIfInBounds i true)=l1++l2:=by
 have hp:=DT n listed;rw[h]at hp;have b:∀ k ∈ l1++l2,(k != i)=true:=fun k a=>by
  have hp:=List.pairwise_append.1 hp;rcases B7.1 a with a|a
  .have:=hp.2.2 k a i B2;simp;omega
  .have:=(List.pairwise_cons.1 hp.2.1).1 k a;simp;omega
 have e:kA n (listed.setIfInBounds i true)=(kA n listed).filter fun k=>k != i:=by
  unfold kA;rw[List.filter_filter];apply List.filter_congr;intro k _;simp only[B6,F8];by_cases e:i=k
  .subst e;simp[hi]
  .simp[e,Ne.symm e]
 rw[e,h,List.filter_append,List.filter_cons];have f:(i != i)=false:=by simp
 rw[f];simp only[J3,if_false];rw[dA.2 fun k a=>b k (B7.2 (.inl a)),dA.2 fun k a=>b k (B7.2 (.inr a))]
def BK{ops:Array Oper}(hr:kO ops.toList=true){Q:Exit->Act->World->Prop}:∀ (fuel:Nat) (listed:Array Bool) (a:Act) (w:World) (r:Act×World),listed.size=ops.size->LH P ops.toList (a,w)->(kA ops.size listed).length=fuel->DQ P ops.toList (kA ops.size listed) (a,w)=some r->Q .normal r.1 r.2->iF P rd .any ops Q fuel listed a w
 | 0,listed,a,w,r,hsz,hg,hl,h,hq=>by
   have h0:=G1.1 hl;rw[h0]at h;cases h;refine⟨?_,hq⟩;rw[bQ];intro i hi;have:i ∈ kA ops.size listed:=by
    unfold Region.ready at hi;rw[O6]at hi;unfold kA;rw[O6];exact⟨hi.1,(B4 hi.2).1⟩
   rw[h0]at this;cases this
 | fuel+1,listed,a,w,r,hsz,hg,hl,h,hq=>by
   have j:∀ {i:Nat},i<ops.size->∃ o,ops.toList[i]? = some o/\ops[i]? = some o:=fun{i} hi=>⟨ops[i],by simp[hi],by simp[hi]⟩
   refine⟨fun I=>?_,fun i hi=>?_⟩
   ·
    cases g:kA ops.size listed with
    | nil=>rw[g]at hl;cases hl
    | cons i t =>
      exfalso;have F:i ∈ kA ops.size listed:=by rw[g];exact B2
      obtain⟨i1,i2⟩:=pW.1 F;obtain⟨o,x,z⟩:=j i1;have A:=mK hr x;have f:=DT ops.size listed;rw[g]at f;have u:∀ k,k<i->listed.getD k false=true:=fun k G=>by
       have q:k<listed.size:=A2;cases hv:listed.getD k true with
       | true=>rw[<- hv];simp[B6,q]
       | false =>
         have:k ∈ kA ops.size listed:=pW.2 ⟨A2,hv⟩;rw[g]at this;rcases B3.1 this with e|hm
         .omega
         .have:=(List.pairwise_cons.1 f).1 k hm;omega
      have:i ∈ Region.ready .any ops listed:=by
       unfold Region.ready;rw[O6,S3];refine⟨i1,?_⟩;rw[i2,z];simp only[Bool.not_false,Bool.true_and,K9,bN];rw[eX];intro e he;cases M:Region.binds .any e with
       | false=>rfl
       | true=>rw[u e.on (A.lt e he M)];rfl
      rw[I]at this;cases this
   .have hi':=hi;unfold Region.ready at hi;rw[O6,S3]at hi;obtain⟨i1,i2⟩:=hi;obtain⟨o,x,z⟩:=j i1;have A:=mK hr x;rw[z]at i2;obtain⟨i2,i3⟩:=B4 i2;simp only[K9,bN]at i3;have E:listed.getD i true=false:=by simpa using i2
    have s:i ∈ kA ops.size listed:=pW.2 ⟨i1,E⟩;obtain⟨l1,l2,b⟩:=List.append_of_mem s;have f:=DT ops.size listed;rw[b]at f;have D:∀ k ∈ l1,k<i/\rH o k=false:=fun k G=>by
     refine⟨(List.pairwise_append.1 f).2.2 k G i B2,?_⟩;cases he:rH o k with
     | false=>rfl
     | true =>
       exfalso;unfold rH at he;rw[Array.any_eq_true']at he;obtain⟨e,hm,he⟩:=he;obtain⟨K,B⟩:=B4 he;have B:=A0 B
       have:=(eX.1 i3) e hm;rw[K,B]at this;simp only[P7,P8]at this;have q:=(pW (n:=ops.size) (listed:=listed) (i:=k)).1 (by rw[b];exact B7.2 (.inl G));have C:k<listed.size:=A2;have p:=q.2;simp[B6,C]at this p;rw[this]at p;cases p
    rw[b]at h;obtain⟨s1,H,L⟩:=nU hr x l1 (a,w) hg D h;have X3:=XE (n:=ops.size) (listed:=listed) (i:=i) (l1:=l1) (l2:=l2) A2 b;obtain⟨J,w1⟩:=s1;unfold gI;rw[z];simp only;have hw:Region.wanted o (yielded ops a.tmps)=true:=by unfold Region.wanted;rw[A.grd]
    rw[A9 hw];refine A1j A.cls H (BK hr fuel (listed.setIfInBounds i true) J w1 r (by simpa using hsz) (hg.step hr x H) ?_ (by rw[X3];exact L) hq);rw[X3];have:(l1++i::l2).length=fuel+1:=by rw[<- b];exact hl
    simp at this ⊢;omega
def AX{ops:Array Oper}(hr:kO ops.toList=true){Q:Exit->Act->World->Prop}:∀ (d k:Nat) (a:Act) (w:World),k+d=ops.size->wpL P rd ops (fun e a' w'=>e=.normal/\Q e a' w') (ops.toList.drop k) a w->∃ r,DQ P ops.toList (List.range' k d) (a,w)=some r/\Q .normal r.1 r.2
 | 0,k,a,w,hk,h=>by
   have:ops.toList.drop k=[]:=R4 (by simp;omega);rw[this]at h;exact⟨(a,w),rfl,h.2⟩
 | d+1,k,a,w,hk,h=>by
   have b:k<ops.toList.length:=by simp;omega
   rw[Z7 b]at h;have f:=mK hr (A5 b);unfold wpL at h;have hw:Region.wanted ops.toList[k] (yielded ops a.tmps)=true:=by unfold Region.wanted;rw[f.grd]
   rw[A9 hw]at h;obtain⟨a',w',h1,i⟩:=A24 f.cls (fun c a w hh=>by cases hh.1) h;obtain⟨r,r1,g⟩:=AX hr d (k+1) a' w' A2 i;refine⟨r,?_,g⟩;rw[List.range'_succ];simp only[DQ,A5 b,h1];exact r1
def A19{ops:Array Oper}(hr:kO ops.toList=true){Q:Exit->Act->World->Prop}{a:Act}{w:World}(b:∀ w',w'.heap=w.heap->LH P ops.toList (a,w'))(h:∀ d,wpL P rd ops (fun e a' w'=>e=.normal/\Q e a' w') ops.toList a { w with drawn:=d })(d:Nat):iF P rd .any ops Q ops.size (Array.replicate ops.size false) a { w with drawn:=d }:=by
 obtain⟨r,r1,f⟩:=AX hr ops.size 0 a { w with drawn:=d } A2 (by simpa using h d);have e:kA ops.size (Array.replicate ops.size false)=List.range' 0 ops.size:=by
  unfold kA;rw[List.range_eq_range',dA];intro i hi;have:i<ops.size:=by have:=List.mem_range'.1 hi;omega
  simp[B6,this]
 exact BK hr ops.size _ a _ r (by simp) (b _ rfl) (by rw[e];simp) (by rw[e];exact r1) f
end
end
end Go.Sx
