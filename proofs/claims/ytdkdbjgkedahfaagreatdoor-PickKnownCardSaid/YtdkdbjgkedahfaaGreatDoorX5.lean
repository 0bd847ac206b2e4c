import Derived.Test.YtdkdbjgkedahfaaGreatDoorX4
import Derived.MapKept
import Derived.WideKeyRuns
import Derived.Lib.Builder
import Derived.LoopNIn
import Derived.RangeFuncRecord
set_option linter.all false
set_option maxRecDepth 100000
set_option maxHeartbeats 4000000
namespace Go.Sx
open Go
variable {ks l l1 l2 ts:I7}{k' v v' x':Value}{cs:List Frame}{clock k pi:Nat}{y:MTy}{d:Option Tmp}{kt pt ty:TypeId}{r us vs:List U}{rows rs:List (List U)}{es es':Array MapEntry}{hs xs:E0}{c:Code}{e':MapEntry}{tys:List TypeId}{w':World}{fz:Nat×Nat}{listed:Array Bool}
section
open Go
variable [Ora]
section
variable {P:Program} {base:Nat} {ρ:Ren} {m m':Mem} {w:World}
def vK:∀ {ts:I7} {cs cs':E0},BD ts cs=true->(∀ t ∈ ts,t<10)->LR ρ cs cs'->(cs.map (F3 Ora.env)).map H7=ts/\cs'=(cs.map (F3 Ora.env)).map W3
 | [],[],cs',_,_,hl=>by cases hl.nil_inv;exact⟨rfl,rfl⟩
 | t::ts,v::vs,cs',h,ht,hl=>by
   obtain⟨f,g⟩:=B3 (show(Nat.beq (H6 v) t && BD ts vs)=true from h);have f:=A1 f;obtain⟨v',r,rfl,g1,g2⟩:=hl.tail;obtain⟨a,b⟩:=vK g (fun x i=>ht x (D1 _ i)) g2;obtain⟨c,d⟩:=cE g1 (by rw[f];exact ht t B6);have e:W3 (F3 Ora.env v)=v':=by unfold W3;rw[c];rfl
   exact⟨by rw[E4,E4,a,d,f],by rw[E4,E4,e,<- b]⟩
 | [],_::_,_,h,_,_=>by cases h
 | _::_,[],_,h,_,_=>by cases h
def lZ{a:Bool}{cs:E0}(h:pW a ts v=some cs)(g:∀ t ∈ ts,t<10)(i:VR ρ v v'):v'=m6 a (cs.map (F3 Ora.env))/\(cs.map (F3 Ora.env)).map H7=ts:=by
 unfold pW at h;split at h
 .rename_i c;obtain⟨f,h⟩:=A3 h;cases h;obtain⟨cs',rfl,j⟩:=Z7 i;obtain⟨e,b⟩:=vK f g j;exact⟨by rw[b];rfl,e⟩
 .cases h
 .obtain⟨f,h⟩:=A3 h;cases h;obtain⟨e,b⟩:=vK f g (LR.cons i LR.nil);refine⟨?_,e⟩
  have:=D8 List.head? b
  simpa [m6]using this
def zL{t:Nat}(h:iK P t=some k):k<10:=by
 unfold iK at h;split at h
 .cases h;decide
 .cases h;have:=N1 ‹_›;omega
 .cases h;decide
 .cases h
def MU:∀ {g:List Field} {i:Nat} {l:I7},wT P g i=some l->∀ t ∈ l,t<10
 | [],i,l,h,t,e=>by cases h;cases e
 | f::g,i,l,h,t,e=>by
   unfold wT at h;split at h
   .rename_i a b n j;obtain⟨_,h⟩:=A3 h;cases h;rcases C4.1 e with rfl|e
    .exact zL n
    .exact MU j t e
   .cases h
def HP{T:TypeId}(h:VK P T=some y):P.underlying T=some (.map y.kt y.vt)/\qH P y.kt=some (y.ka,y.ks)/\RC P y.vt=some (y.va,y.vs)/\0<y.ks.length/\(∀ t ∈ y.ks,t<10)/\(∀ t ∈ y.vs,t<10)/\(y.va=false->y.vs.length=1):=by
 unfold VK at h;split at h
 .rename_i kt vt hu;split at h
  .rename_i ka k ks va vs b a;cases h;refine⟨hu,b,a,Nat.succ_pos _,?_,?_,?_⟩
   .intro t f;unfold qH at b;split at b
    .cases hs:P.stoodInHeld kt with
     | true=>rw[hs]at b;cases b
     | false =>
       rw[hs]at b;simp only[E7]at b;split at b
       .rename_i l g;cases b;exact MU g t f
       .cases b
    .split at b
     .rename_i z i;cases b;simp only[C4,V9,or_false]at f;subst f;exact zL i
     .cases b
   .intro t f;unfold RC at a;split at a
    .obtain⟨h3,a⟩:=A3 a;cases a;exact A2 (E8.1 h3 t f)
    .obtain⟨h3,a⟩:=A3 a;cases a;simp only[C4,V9,or_false]at f;subst f;exact A2 h3
    .cases a
   .intro e;have e:va=false:=e;subst e;unfold RC at a;split at a
    .obtain⟨_,a⟩:=A3 a;cases a
    .obtain⟨_,a⟩:=A3 a;cases a;rfl
    .cases a
  .cases h
 .cases h
def RM{t:TypeId}{u v:U}(h:iK P t=some k)(f:H7 u=k)(g:H7 v=k)(n:Nat)(w:World):(Op.equalIn (n+1) t (W3 u) (W3 v)).run P w=.ok (isU u v) w:=by
 have A:=zL h;unfold iK at h;split at h
 .rename_i hu;cases h;cases u<;>simp only[H7]at f<;>first|omega|skip
  .have:=N1 ‹_›;omega
  .cases v<;>simp only[H7]at g<;>first|omega|skip
   .have:=N1 ‹_›;omega
   .simp[W3,toV,isU,eqU,Op.equalIn,A5,D7 hu,Result.andThen]
 .rename_i j hu;cases h;cases u with
  | int a x =>
    cases v with
    | int b z =>
      have o:=tK f;have i:=tK g;subst o;subst i;simp[W3,toV,isU,eqU,Op.equalIn,A5,D7 hu,Result.andThen]
    | bool b=>simp only[H7]at g;have:=N1 j;omega
    | str s=>simp only[H7]at g;have:=N1 j;omega
    | seq _ _ _=>simp only[H7]at g;omega
    | none=>simp only[H7]at g;omega
  | bool b=>simp only[H7]at f;have:=N1 j;omega
  | str s=>simp only[H7]at f;have:=N1 j;omega
  | seq _ _ _=>simp only[H7]at f;omega
  | none=>simp only[H7]at f;omega
 .rename_i hu;cases h;cases u<;>simp only[H7]at f<;>first|omega|skip
  .have:=N1 ‹_›;omega
  .cases v<;>simp only[H7]at g<;>first|omega|skip
   .have:=N1 ‹_›;omega
   .rename_i p q
    have:=run_equalIn_string (P:=P) w n t ⟨⟨p⟩⟩ ⟨⟨q⟩⟩ hu;have e:∀ s:List UInt8,W3 (.str s)=.string ⟨⟨s⟩⟩:=fun _=>rfl
    rw[e,e,this];simp[isU,eqU,ByteArray.toList_eq]
 .cases h
def YV{t:TypeId}{d:TypeDesc}{u v:U}(i:P.underlying t=some d)(h:iK P t=some k)(f:H7 u=k)(g:H7 v=k):Instr.sameNow d (W3 u) (W3 v)=some (isU u v):=by
 unfold iK at h;split at h
 .rename_i hu;rw[hu]at i;cases i;cases h;cases u<;>simp only[H7]at f<;>first|omega|skip
  .have:=N1 ‹_›;omega
  .cases v<;>simp only[H7]at g<;>first|omega|skip
   .have:=N1 ‹_›;omega
   .simp[W3,toV,isU,eqU,Instr.sameNow]
 .rename_i j hu;rw[hu]at i;cases i;cases h;cases u with
  | int a x =>
    cases v with
    | int b z =>
      have o:=tK f;have n:=tK g;subst o;subst n;simp[W3,toV,isU,eqU,Instr.sameNow]
    | bool b=>simp only[H7]at g;have:=N1 j;omega
    | str s=>simp only[H7]at g;have:=N1 j;omega
    | seq _ _ _=>simp only[H7]at g;have:=N1 j;omega
    | none=>simp only[H7]at g;have:=N1 j;omega
  | bool b=>simp only[H7]at f;have:=N1 j;omega
  | str s=>simp only[H7]at f;have:=N1 j;omega
  | seq _ _ _=>simp only[H7]at f;have:=N1 j;omega
  | none=>simp only[H7]at f;have:=N1 j;omega
 .rename_i hu;rw[hu]at i;cases i;cases h;cases u<;>simp only[H7]at f<;>first|omega|skip
  .have:=N1 ‹_›;omega
  .cases v<;>simp only[H7]at g<;>first|omega|skip
   .have:=N1 ‹_›;omega
   .rename_i p q;have e:(ByteArray.mk ⟨p⟩ == ByteArray.mk ⟨q⟩)=(p == q):=by
     show(Array.mk p == Array.mk q)=_;rw[M2,beq_iff_eq,beq_iff_eq];exact⟨fun h=>by injection h,fun h=>by rw[h]⟩
    simp[W3,toV,isU,eqU,Instr.sameNow,e]
 .cases h
def uP{t:TypeId}(h:iK P t=some k){X:E0}{i:Nat}(f:X[i]? = some v)(w:World):(part t ⟨X⟩ i).run P w=.ok v w:=by
 have a:∀ d,P.underlying t=some d->(match d with|.struct _|.array _ _=>False|_=>True)->(part t ⟨X⟩ i).run P w=.ok v w:=fun d e b=>by
  cases d<;>simp only at b<;>simp[part,isAgg,A5,D7 e,Result.andThen,f]
 unfold iK at h;split at h
 .exact a _ ‹_› trivial
 .exact a _ ‹_› trivial
 .exact a _ ‹_› trivial
 .cases h
def FI:∀ {g:List Field} {i:Nat} {ks:I7} {us vs:List U} {p q:E0},wT P g i=some ks->us.map H7=ks->vs.map H7=ks->p.length=i->q.length=i->∀ (n:Nat) (w:World),(Op.eqFields (n+1) ⟨p++us.map W3⟩ ⟨q++vs.map W3⟩ g).run P w=.ok (u5 us vs) w
 | [],i,ks,us,vs,p,q,h,h1,h2,hp,hq,n,w=>by
   cases h;have e:us=[]:=by simpa using h1
   have b:vs=[]:=by simpa using h2
   subst e;subst b;simp[Op.eqFields,u5]
 | f::g,i,ks,us,vs,p,q,h,h1,h2,hp,hq,n,w=>by
   unfold wT at h;split at h
   .rename_i t l o A;obtain⟨z,h⟩:=A3 h;cases h;obtain⟨j,a⟩:=B3 z;have a:=A1 a;have B:f.name ≠ "_":=by simpa using j
    cases us with
    | nil=>cases h1
    | cons u us =>
      cases vs with
      | nil=>cases h2
      | cons v vs =>
        simp only[E4,D4]at h1 h2;have g1:(p++(u::us).map W3)[f.offset]? = some (W3 u):=by rw[a,<- hp,E9 (A7 _)];simp
        have g2:(q++(v::vs).map W3)[f.offset]? = some (W3 v):=by rw[a,<- hq,E9 (A7 _)];simp
        have e:=uP o g1 w;have b:=uP o g2 w;have x:=RM o h1.1 h2.1 n w;have s:=FI (p:=p++[W3 u]) (q:=q++[W3 v]) A h1.2 h2.2 (by simp[hp]) (by simp[hq]) n w;rw[C7,C7]at s;unfold Op.eqFields;rw[B0 B];simp only[u5];cases hs:isU u v with
        | false =>
          simp only[A5,e,b,x,hs,Result.andThen_ok];simp
        | true =>
          simp only[A5,e,b,x,hs,Result.andThen_ok,Bool.true_and];exact s
   .cases h
def A51{a:Bool}(h:qH P kt=some (a,ks))(e:us.map H7=ks)(b:vs.map H7=ks)(w:World):(Op.equal kt (m6 a us) (m6 a vs)).run P w=.ok (u5 us vs) w:=by
 unfold qH at h;split at h
 .rename_i i hu;cases hs:P.stoodInHeld kt with
  | true=>rw[hs]at h;cases h
  | false =>
    rw[hs]at h;simp only[E7]at h;split at h
    .rename_i l j;cases h;have f:P.fieldsOf kt=i:=by simp[Program.fieldsOf,hu]
     show(Op.equalIn (9999+1) kt (.agg _) (.agg _)).run P w=_;rw[run_equalIn_struct (P:=P) w 9999 kt _ _ (by rw[f];exact hu) hs,f];exact FI (p:=[]) (q:=[]) j e b rfl rfl 9998 w
    .cases h
 .split at h
  .rename_i k g;cases h;cases us with
   | nil=>cases e
   | cons u us=>cases us with
     | cons _ _=>simp at e
     | nil=>cases vs with
       | nil=>cases b
       | cons v vs=>cases vs with
         | cons _ _=>simp at b
         | nil =>
           simp only[E4,I3,D4,and_true]at e b
           have:=RM g e b 9999 w;show(Op.equalIn (9999+1) kt (W3 u) (W3 v)).run P w=_;rw[this];simp[u5]
  .cases h
def BP{t:TypeId}(h:iK P t=some k)(e:Bool)(n:Nat)(v:Value)(w:World):(Instr.checkKey e (n+1) t v).run P w=.ok () w:=by
 unfold iK at h;split at h
 .rename_i hu;simp[Instr.checkKey,A5,D7 hu,Result.andThen]
 .rename_i hu;simp[Instr.checkKey,A5,D7 hu,Result.andThen]
 .rename_i hu;simp[Instr.checkKey,A5,D7 hu,Result.andThen]
 .cases h
def uC(e:Bool)(n:Nat)(w:World):∀ (L:List Field) (i:Nat) (ks:List Nat) (us:List U) (p:List Value),wT P L i=some ks->us.map H7=ks->p.length=i ->
  (forIn L PUnit.unit fun f (_:PUnit)=>if f.name ≠ "_" then(do let x <- part f.type ⟨p++us.map W3⟩ f.offset;Instr.checkKey e (n+1) f.type x;pure (ForInStep.yield PUnit.unit):Sem (ForInStep PUnit))else pure (ForInStep.yield PUnit.unit)).run P w=.ok PUnit.unit w
 | [],i,ks,us,p,h,h1,hp=>by simp
 | f::fs,i,ks,us,p,h,h1,hp=>by
   unfold wT at h;split at h
   .rename_i t l j q;obtain⟨o,h⟩:=A3 h;cases h;obtain⟨b,a⟩:=B3 o;have a:=A1 a;have A:f.name ≠ "_":=by simpa using b
    cases us with
    | nil=>cases h1
    | cons u us =>
      simp only[E4,D4]at h1;have g1:(p++(u::us).map W3)[f.offset]? = some (W3 u):=by rw[a,<- hp,E9 (A7 _)];simp
      have z:=uP j g1 w;have s:=BP j e n (W3 u) w;have g:=uC e n w fs (i+1) l us (p++[W3 u]) q h1.2 (by simp[hp]);rw[C7]at g;rw[List.forIn_cons];simp only[B0 A,A5,z,s,Result.andThen_ok,Sem.run_pure];exact g
   .cases h
def FN{a:Bool}(h:qH P kt=some (a,ks))(i:us.map H7=ks)(e:Bool)(w:World):(Instr.checkKey e 10000 kt (m6 a us)).run P w=.ok () w:=by
 unfold qH at h;split at h
 .rename_i f hu;cases hs:P.stoodInHeld kt with
  | true=>rw[hs]at h;cases h
  | false =>
    rw[hs]at h;simp only[E7]at h;split at h
    .rename_i l g;have h:=h;cases h;have key:∀ n:Nat,(Instr.checkKey e (n+2) kt (.agg ⟨us.map W3⟩)).run P w=.ok () w:=fun n=>by
      rw[Instr.checkKey];simp only[A5,D7 hu,Result.andThen_ok];rw[<- Array.forIn_toList]
      have:=uC e n w f.toList 0 _ us [] g i rfl;rw[R1]at this;rw[this];rfl
     exact key 9998
    .cases h
 .split at h
  .rename_i k b;cases h;exact BP b e 9999 _ w
  .cases h
def qB(k:List U):List (List U)->Nat->Option (Nat×List U)
 | [],_=>none
 | r::rs,i=>if u5 k r then some (i,r)else qB k rs (i+1)
def uX:∀ (us r:List U),u5 us (r.take us.length)=u5 us r
 | [],r=>rfl
 | a::us,[]=>rfl
 | a::us,b::r=>by
   show(isU a b && u5 us (r.take us.length))=(isU a b && u5 us r);rw[uX us r]
def xM.head{e:MapEntry}{es:List MapEntry}(h:xM y (r::rs) (e::es)):(r.map H7=y.ks++y.vs/\e.key=m6 y.ka (r.take y.ks.length)/\e.val=m6 y.va (r.drop y.ks.length))/\xM y rs es :=
 ⟨h.2 0 r e rfl rfl,by have:=h.1;simpa using this,fun i row a f b=>h.2 (i+1) row a (by simpa using f) (by simpa using b)⟩
def DP(h:r.map H7=y.ks++y.vs):(r.take y.ks.length).map H7=y.ks/\(r.drop y.ks.length).map H7=y.vs:=by
 constructor
 .rw[List.map_take,h,List.take_left'];rfl
 .rw[List.map_drop,h,List.drop_left'];rfl
abbrev DD(y:MTy)(us:List U)(rows:List (List U))(i:Nat):Option (Nat×Value):=(qB us rows i).map fun p=>(p.1,m6 y.va (p.2.drop y.ks.length))
def GB{y:MTy}(g:qH P y.kt=some (y.ka,y.ks)){us:List U}(f:us.map H7=y.ks):∀ {rows:List (List U)} {es:List MapEntry} (i:Nat),xM y rows es->(Instr.findAsking y.kt (m6 y.ka us) es i).run P w=.ok (DD y us rows i) w
 | [],[],i,_=>by simp[Instr.findAsking,DD,qB]
 | [],_::_,i,h=>by have:=h.1;simp at this
 | _::_,[],i,h=>by have:=h.1;simp at this
 | r::rs,e::es,i,h=>by
   obtain⟨⟨a,b,c⟩,d⟩:=h.head;obtain⟨t1,t2⟩:=DP a;have hlen:us.length=y.ks.length:=by rw[<- f,I4]
   have o:=A51 (P:=P) g f t1 w;have n:u5 us (r.take y.ks.length)=u5 us r:=by rw[<- hlen];exact uX us r
   have j:=GB g f (i+1) d;unfold Instr.findAsking;rw[b];simp only[A5,o,n,Result.andThen_ok,DD,qB];cases p:u5 us r with
   | true=>simp[c]
   | false=>simp only[K5,if_false];exact j
def A0G{y:MTy}{k:Nat}{d:TypeDesc}(o:P.underlying y.kt=some d)(hs:iK P y.kt=some k)(n:y.ka=false)(f:y.ks=[k]){u:U}(j:H7 u=k):∀ {rows:List (List U)} {es:List MapEntry} (i:Nat),xM y rows es->Instr.findNow d (W3 u) es i=some (DD y [u] rows i)
 | [],[],i,_=>rfl
 | [],_::_,i,h=>by have:=h.1;simp at this
 | _::_,[],i,h=>by have:=h.1;simp at this
 | r::rs,e::es,i,h=>by
   obtain⟨⟨a,b,c⟩,s⟩:=h.head;cases r with
   | nil=>rw[f]at a;simp at a
   | cons g r =>
     have a0:H7 g=k:=by rw[f]at a;simp at a;exact a.1
     have b:e.key=W3 g:=by rw[b,n,f];rfl
     have q:=YV o hs j a0;have p:=A0G o hs n f j (i+1) s;unfold Instr.findNow;rw[b,q];simp only[DD,qB,u5,qO];cases t:isU u g with
     | true=>simp[c]
     | false=>simp only[K5,if_false];exact p
def AW(a:qH P y.kt=some (y.ka,y.ks))(b:us.map H7=y.ks){es:List MapEntry}(h:xM y rows es):(Instr.findKey y.kt (m6 y.ka us) es).run P w=.ok (DD y us rows 0) w:=by
 have g:=a;unfold qH at a;split at a
 .rename_i j hu;rw[run_findKey_eq w (by rw[hu]) (m6 y.ka us) es];exact GB g b 0 h
 .split at a
  .rename_i k hs;have i:y.ka=false:=(D8 Prod.fst (A8 a)).symm;have e:y.ks=[k]:=(D8 Prod.snd (A8 a)).symm;rw[e]at b;cases us with
   | nil=>simp at b
   | cons u us=>cases us with
     | cons _ _=>simp at b
     | nil =>
       simp only[E4,I3,D4,and_true]at b;obtain⟨d,f⟩:∃ d,P.underlying y.kt=some d:=by
        cases f:P.underlying y.kt with
        | some d=>exact⟨d,rfl⟩
        | none=>unfold iK at hs;rw[f]at hs;cases hs
       rw[i];exact MapKept.run_findKey f (A0G f hs i e b 0 h)
  .cases a
def MP{k:List U}:∀ (rows:List (List U)) (i:Nat),(qB k rows i).isSome=rows.any (u5 k)
 | [],_=>rfl
 | r::rs,i=>by
   simp only[qB,qN];cases u5 k r with
   | true=>rfl
   | false=>simp only[K5,if_false,Z3];exact MP rs (i+1)
def EZ{k:List U}:∀ (rows:List (List U)) (i:Nat),(qB k rows i).map (·.2)=rows.find? (u5 k)
 | [],_=>rfl
 | r::rs,i=>by
   simp only[qB,List.find?_cons];cases u5 k r with
   | true=>rfl
   | false=>simp only[K5,if_false];exact EZ rs (i+1)
def tM{k:List U}:∀ {rows:List (List U)} {i j:Nat} {r:List U},qB k rows i=some (j,r)->i<=j/\rows[j-i]? = some r/\u5 k r=true
 | [],_,_,_,h=>by cases h
 | x::rs,i,j,r,h=>by
   unfold qB at h;cases e:u5 k x with
   | true=>rw[e]at h;cases h;exact⟨A7 _,by simp,e⟩
   | false =>
     rw[e]at h;obtain⟨a,b,c⟩:=tM (rows:=rs) h;exact⟨A0,by rw[show j-i=(j-(i+1))+1 by omega];exact b,c⟩
def LD{kw:Nat}{c:List U}:∀ (rows:List (List U)) (i:Nat),ZP kw c rows=match qB (c.take kw) rows i with
  | some p=>rows.set (p.1-i) c
  | none=>rows++[c]
 | [],_=>rfl
 | r::rs,i=>by
   unfold ZP qB;cases e:u5 (c.take kw) r with
   | true=>simp
   | false =>
     simp only[K5,if_false];rw[LD rs (i+1)];cases b:qB (c.take kw) rs (i+1)with
     | none=>rfl
     | some p =>
       obtain⟨a,_⟩:=tM (r:=p.2) (j:=p.1) b;show r::rs.set (p.1-(i+1)) c=(r::rs).set (p.1-i) c;rw[show p.1-i=(p.1-(i+1))+1 by omega];rfl
def IB{b:Nat}(h:VR ρ (.map (some b)) v'):∃ l,ρ b=some l/\v'=.map (some l.blk):=by
 cases h with
 | pure hp=>simp[J8]at hp
 | map h=>exact⟨_,h,rfl⟩
def A2S{T:TypeId}(h:HR P base ρ m.H w)(p:base<=w.heap.size)(a:A0M P m T=some (v,m'))(j:L1 ρ m.n m'.hi)(u:Sat m'.lg):VOk P base ρ m w (Instr.makeMap T none) v m':=by
 unfold A0M at a;split at a
 .rename_i y o;rw[P5]at a;have f:=cK a;have z:=mN (lg:=m'.lg) u (by rw[f];exact .refl _);obtain⟨x,B,s,wd,rows,A⟩:=z;have g:Ora.env m.lg.nx=.seq false y.w []:=by
   have hw:0<y.w:=by have:=(HP o).2.2.2.1;unfold MTy.w;omega
   rw[x];show(if y.w=0 then U.none else match aN y.w (0 / y.w) []with
    | some r=>U.seq false y.w r
    | none=>.none)=_
   rw[A9 A0,Nat.zero_div];rfl
  have b:=St.wLg h (hZ m (10+y.w) (.mk y.w) []);obtain⟨q,t,h3⟩:=St.alloc (w':={ w with heap:=w.heap.push (.map #[] 0) }) (l:=lc w.heap.size 0 0) b.hr p a (by rw[XQ];exact j) ⟨rfl,rfl,rfl⟩ rfl rfl
   ⟨⟨rfl,rfl⟩,y,#[],0,[],o,.inl rfl,by simp,g,⟨rfl,fun i row e hr=>by simp at hr⟩,List.nodup_nil,fun e he=>by cases he⟩
  refine⟨.map (some w.heap.size),_,_,?_,?_,St.trans j b h3⟩
  .simp[Instr.makeMap,newObj,Sem.run,A5,Result.andThen]
  .rw[q];exact .map t
 .cases a
def kH{t:Nat}{op:LOp}(h:X4 m t op xs=some (v,m'))(f:Sat m'.lg):t<10/\H7 (evU op (xs.map (F3 Ora.env)))=t/\VR ρ v (W3 (evU op (xs.map (F3 Ora.env)))):=by
 obtain⟨u,g,e,r,b,i,a⟩:=O0 h f;subst g;refine⟨a,e,?_⟩;have:W3 (evU op (xs.map (F3 Ora.env)))=r:=by unfold W3;rw[b];rfl
 rw[this];exact i ρ
def FC{wd kw c t:Nat}{b:E0}{p:Bool}{rows:List (List U)}(u:Ora.env c=.seq p wd rows)(A:b.length=kw):∀ {ts:I7} {f:E0} {j:Nat} {m m':Mem} {hs:E0},vF wd kw c t b ts f j m=some (hs,m')->Sat m'.lg ->
  K7 m m'/\m.lg.le m'.lg/\hs.length=ts.length/\f.length=ts.length /\
  (∀ r,rows.find? (u5 (b.map (F3 Ora.env)))=some r->∀ i:Nat,i<ts.length->∃ v,hs[i]? = some v/\VR ρ v (W3 (r.getD (j+i) .none))) /\
  (rows.find? (u5 (b.map (F3 Ora.env)))=none->∀ i:Nat,i<ts.length->∃ v z,hs[i]? = some v/\f[i]? = some z/\VR ρ v (W3 (F3 Ora.env z)))
 | [],[],j,m,m',hs,h,hS=>by
   cases h;exact⟨.refl _,.refl _,rfl,rfl,fun r _ i hi=>(by simp at hi),fun _ i hi=>(by simp at hi)⟩
 | [],_::_,j,m,m',hs,h,hS=>by cases h
 | _::_,[],j,m,m',hs,h,hS=>by cases h
 | tg::ts,z::f,j,m,m',hs,h,hS=>by
   unfold vF at h;split at h
   .rename_i v m1 n;split at h
    .rename_i r m2 hr;cases h;obtain⟨E,a2,a3,a4,a5,D⟩:=FC u A hr hS;have g:Sat m1.lg:=hS.le a2;obtain⟨_,_,a⟩:=kH (ρ:=ρ) n g;have o:evU (.mget wd kw j) ((hole c t::z::b).map (F3 Ora.env))=(match rows.find? (u5 (b.map (F3 Ora.env)))with
       | some r=>r.getD j .none
       | none=>F3 Ora.env z):=by
      show evU (.mget wd kw j) (Ora.env c::F3 Ora.env z::b.map (F3 Ora.env))=_;rw[u];show(if wd=wd/\(b.map (F3 Ora.env)).length=kw then _ else U.none)=_;rw[B0 ⟨rfl,by rw[I4];exact A⟩];cases rows.find? (u5 (b.map (F3 Ora.env)))<;>rfl
     rw[o]at a;refine⟨(I8 n).trans E,(J1 n).trans a2,by simp[a3],by simp[a4],fun F e i hi=>?_,fun e i hi=>?_⟩
     .cases i with
      | zero=>rw[e]at a;exact⟨v,rfl,a⟩
      | succ i =>
        obtain⟨x,s,q⟩:=a5 F e i (by simpa using hi);exact⟨x,by simpa using s,by rw[show j+(i+1)=j+1+i by omega];exact q⟩
     .cases i with
      | zero=>rw[e]at a;exact⟨v,z,rfl,rfl,a⟩
      | succ i =>
        obtain⟨x,C,s,q,B⟩:=D e i (by simpa using hi);exact⟨x,C,by simpa using s,by simpa using q,B⟩
    .cases h
   .cases h
def A5T{vs:E0}(n:hs.length=vs.length)(h:∀ i:Nat,i<vs.length->∃ v v',hs[i]? = some v/\vs[i]? = some v'/\VR ρ v v'):LR ρ hs vs:=⟨n,fun i v v' o g=>by
 obtain⟨a,b,f,e,j⟩:=h i (B1.1 g).1;rw[o]at f;rw[g]at e;cases f;cases e;exact j⟩
def A1h{a:Bool}(h:A1i a hs=some v)(b:LR ρ hs (us.map W3)):VR ρ v (m6 a us):=by
 unfold A1i at h;split at h
 .cases h;exact .agg b.1 b.2
 .cases h;cases us with
  | nil=>have:=b.1;simp at this
  | cons u us =>
    obtain⟨v',r,e,g,_⟩:=b.tail;rw[E4,D4]at e;rw[<- e.1]at g;exact g
 .cases h
def VM{T:TypeId}{x k:Value}{ok:Bool}(h:HR P base ρ m.H w)(o:AG P m T x k ok=some (v,m'))(hx:VR ρ x x')(hk:VR ρ k k')(Y:Sat m'.lg):VOk P base ρ m w (Instr.lookup T x' k' ok) v m':=by
 unfold AG at o;split at o
 .rename_i r y hy;obtain⟨hu,I,av,ar,X,ay,aq⟩:=HP hy;obtain⟨l,hl,rfl⟩:=IB hx;split at o
  .rename_i c t T2 f z hg V hz;obtain⟨L,a⟩:=A3 o;clear o;have L:=A1 L;subst L;split at a
   .rename_i zc Z;split at a
    .rename_i hs m1 M;split at a
     .rename_i v1 hv;obtain⟨⟨⟨au,ao⟩,y2,es,clock,rows,g1,g2,g3,g4,g5,g6⟩,_⟩:=h.atl hl hg;rw[hy]at g1;have g1:=A8 g1;subst g1;obtain⟨k1,k2⟩:=lZ V X hk;have S:VR ρ z z:=.ofC (yU hz).choose_spec.2.2;obtain⟨z1,z2⟩:=lZ Z ay S;have C:f.length=y.ks.length:=by rw[<- k2];simp
      have az:Sat m1.lg:=by
       cases ok with
       | false=>cases a;exact Y
       | true =>
         simp only[F1]at a;split at a
         .rename_i K;cases a;exact Y.le (J1 K)
         .cases a
      obtain⟨a1,a2,a3,a4,a5,a6⟩:=FC (ρ:=ρ) g4 C M az;have E:=AW (P:=P) (w:=w) I k2 g5;have D:=FN (P:=P) I k2 es.isEmpty w;have j:=EZ (k:=f.map (F3 Ora.env)) rows 0;have A:∀ {us:List U},LR ρ hs (us.map W3)->VR ρ v1 (m6 y.va us):=fun g=>A1h hv g
      have F:∃ val,VR ρ v1 val/\(Instr.lookup T2 (.map (some l.blk)) k' ok).run P w=.ok (if ok then .tuple #[val,.bool (rows.any (u5 (f.map (F3 Ora.env))))]else val) w:=by
       have G:(getObj l.blk).run P w=.ok (.map es clock) w:=by simp[getObj,Sem.run,g3]
       have e:=MP (k:=f.map (F3 Ora.env)) rows 0;cases u:qB (f.map (F3 Ora.env)) rows 0 with
       | none =>
         rw[u]at j e;have g:LR ρ hs ((zc.map (F3 Ora.env)).map W3):=A5T (by rw[a3,I4,I4,a4]) fun i hi=>by
          have O:i<y.vs.length:=by rw[I4,I4,a4]at hi;exact hi
          obtain⟨N,z',Q,R,e3⟩:=a6 j.symm i O;exact⟨N,_,Q,by rw[H9,H9,R];rfl,e3⟩
         refine⟨z,by rw[z1];exact A g,?_⟩;have e:rows.any (u5 (f.map (F3 Ora.env)))=false:=e.symm;rw[k1];simp only[Instr.lookup,A5,D7 hu,Result.andThen_ok,G,D,E,DD,u,Option.map_none,cI hz,Sem.run_pure,e]
       | some p =>
         obtain⟨pi,q⟩:=p;rw[u]at j e;obtain⟨_,J,q2⟩:=tM u;have J:rows[pi]? = some q:=by simpa using J
         have ax:pi<es.toList.length:=by rw[<- g5.1];exact(B1.1 J).1
         obtain⟨t1,t2,t3⟩:=g5.2 pi q es.toList[pi] J (A6 ax);have aw:q.length=y.ks.length+y.vs.length:=by
          have:=D8 List.length t1
          simpa using this
         have g:LR ρ hs ((q.drop y.ks.length).map W3):=A5T (by rw[a3,I4,K8];omega) fun i hi=>by
          rw[I4,K8]at hi;obtain⟨N,Q,R⟩:=a5 q j.symm i A0;refine⟨N,_,Q,?_,R⟩;rw[H9,J2,A6 A0,M1,C6,A6 A0];rfl
         refine⟨m6 y.va (q.drop y.ks.length),A g,?_⟩;have e:rows.any (u5 (f.map (F3 Ora.env)))=true:=e.symm;rw[k1];simp only[Instr.lookup,A5,D7 hu,Result.andThen_ok,G,D,E,DD,u,M1,Sem.run_pure,e]
      obtain⟨val,s,n⟩:=F;cases ok with
      | false =>
        cases a;obtain⟨lg,rfl⟩:=a1;exact⟨val,ρ,w,n,s,St.wLg h lg⟩
      | true =>
        simp only[F1]at a;split at a
        .rename_i b m2 K;cases a;obtain⟨_,_,B⟩:=kH (ρ:=ρ) K Y;have W:evU (.mhas y.w y.ks.length) ((hole c t::f).map (F3 Ora.env))=.bool (rows.any (u5 (f.map (F3 Ora.env)))):=by
          show evU (.mhas y.w y.ks.length) (Ora.env c::f.map (F3 Ora.env))=_;rw[g4];show(if y.w=y.w/\(f.map (F3 Ora.env)).length=y.ks.length then _ else U.none)=_;rw[B0 ⟨rfl,by rw[I4];exact C⟩]
         rw[W]at B;obtain⟨lg,rfl⟩:=a1.trans (I8 K);refine⟨.tuple #[val,.bool (rows.any (u5 (f.map (F3 Ora.env))))],ρ,w,n,?_,St.wLg h lg⟩
         have:=LR.cons s (LR.cons B LR.nil);exact .tuple this.1 this.2
        .cases a
     .cases a
    .cases a
   .cases a
  .cases o
 .cases o
def YS{i:Nat}{c:List U}(h:xM y rows es.toList)(b:c.map H7=y.ks++y.vs)(g:e'.key=m6 y.ka (c.take y.ks.length))(f:e'.val=m6 y.va (c.drop y.ks.length))(a:es'.toList=es.toList.set i e'):xM y (rows.set i c) es'.toList:=by
 rw[a];refine⟨by rw[mP,mP];exact h.1,fun j row e hr he=>?_⟩;rw[List.getElem?_set]at hr he;by_cases q:i=j
 .subst q;rw[B0 rfl]at hr he;split at hr
  .cases hr;split at he
   .cases he;exact⟨b,g,f⟩
   .cases he
  .cases hr
 .rw[A9 q]at hr he;exact h.2 j row e hr he
def ZQ{k:Value}(h:GG es.toList clock):GG (es.push ⟨k,v,clock⟩).toList (clock+1):=by
 obtain⟨i,a⟩:=h;rw[Array.toList_push];refine⟨?_,fun e he=>?_⟩
 .rw[Y3,List.nodup_append];refine⟨i,by simp,fun x f y b g=>?_⟩;simp only[E4,I3,gZ]at b;obtain⟨e,he,rfl⟩:=O9.1 f
  have:=a e he;omega
 .rcases B7.1 he with he|he
  .have:=a e he;omega
  .rw[gZ.1 he];show clock<clock+1;omega
def PV{f:MapEntry->Value×Value}(h:GG es.toList clock):GG (es.modify pi fun e=>{ e with key:=(f e).1,val:=(f e).2 }).toList clock:=by
 obtain⟨o,i⟩:=h;have g:(es.modify pi fun e=>{ e with key:=(f e).1,val:=(f e).2 }).toList.map (·.born)=es.toList.map (·.born):=by
  apply dC;intro j;rw[H9,H9,R7,I1,R7];by_cases b:pi=j
  .rw[B0 b];cases es[j]?<;>rfl
  .rw[A9 b]
 refine⟨by rw[g];exact o,fun e he=>?_⟩;have:e.born ∈ es.toList.map (·.born):=by rw[<- g];exact List.mem_map_of_mem he
 obtain⟨x,n,a⟩:=O9.1 this;rw[<- a];exact i x n
def VF{c:List U}(h:xM y rows es.toList)(f:c.map H7=y.ks++y.vs)(i:e'.key=m6 y.ka (c.take y.ks.length))(g:e'.val=m6 y.va (c.drop y.ks.length)):xM y (rows++[c]) (es.push e').toList:=by
 rw[Array.toList_push];refine⟨by rw[A4,A4,h.1];rfl,fun j row e hr he=>?_⟩;rw[List.getElem?_append]at hr he;rw[h.1]at hr;split at he
 .rename_i a;rw[B0 a]at hr;exact h.2 j row e hr he
 .rename_i a;rw[A9 a]at hr;cases b:j-es.toList.length with
  | zero =>
    rw[b]at hr he;cases hr;cases he;exact⟨f,i,g⟩
  | succ n=>rw[b]at hr;cases hr
def PA{u v:U}(f:H7 u<10)(h:isU u v=true):u=v:=by
 unfold isU at h;cases u with
 | int k a =>
   cases v with
   | int j b =>
     simp only[eqU]at h;by_cases e:k=j
     .subst e;rw[B0 rfl]at h;have h:(a == b)=true:=h;rw[eq_of_beq h]
     .rw[A9 e]at h;cases h
   | _=>simp[eqU]at h
 | bool a =>
   cases v with
   | bool b =>
     have h:(a == b)=true:=h;rw[eq_of_beq h]
   | _=>simp[eqU]at h
 | str a =>
   cases v with
   | str b =>
     have h:(a == b)=true:=h;rw[eq_of_beq h]
   | _=>simp[eqU]at h
 | seq _ _ _=>simp only[H7]at f;omega
 | none=>simp only[H7]at f;omega
def zG:∀ {us vs:List U},us.map H7=vs.map H7->(∀ t ∈ us.map H7,t<10)->u5 us vs=true->us=vs
 | [],[],_,_,_=>rfl
 | [],_::_,h,_,_=>by cases h
 | _::_,[],h,_,_=>by cases h
 | u::us,v::vs,h,ht,hk=>by
   obtain⟨a,b⟩:=B3 (show(isU u v && u5 us vs)=true from hk);simp only[E4,D4]at h;rw[PA (ht _ B6) a,zG h.2 (fun t q=>ht t (D1 _ q)) b]
def FU{u:U}(h:H7 u<10)(n:Nat):Instr.sameBits n (W3 u) (W3 u)=true:=by
 cases u with
 | int k a=>cases n<;>simp[W3,toV,Instr.sameBits]
 | bool b=>cases n<;>simp[W3,toV,Instr.sameBits]
 | str s=>cases n<;>(simp only[W3,toV,kT,Instr.sameBits];show(Array.mk s == Array.mk s)=true;simp)
 | seq _ _ _=>simp only[H7]at h;omega
 | none=>simp only[H7]at h;omega
def WG{a:Bool}(h:∀ t ∈ us.map H7,t<10)(b:a=false->us≠[])(n:Nat):Instr.sameBits (n+1) (m6 a us) (m6 a us)=true:=by
 cases a with
 | true =>
   simp only[m6,Instr.sameBits,J5,beq_self_eq_true,true_and,E8];intro p hp;obtain⟨i,hi,he⟩:=List.mem_iff_getElem.1 hp;simp only[List.getElem_zip,List.getElem_map]at he;subst he;exact FU (h _ (O9.2 ⟨_,P4 _,rfl⟩)) n
 | false =>
   cases us with
   | nil=>exact absurd rfl (b rfl)
   | cons u us=>exact FU (h _ B6) _
def LA{T:TypeId}{x k e e':Value}(h:HR P base ρ m.H w)(hb:base<=w.heap.size)(I:EG P m T x k e=some (v,m'))(hf:L1 ρ m.n m'.hi)(hx:VR ρ x x')(hk:VR ρ k k')(he:VR ρ e e')(hS:Sat m'.lg):v=undef/\UOk P base ρ m w (Instr.mapUpdate T x' k' e') m':=by
 unfold EG at I;split at I
 .rename_i r y hy;obtain⟨hu,aq,ad,bz,G,ah,bx⟩:=HP hy;obtain⟨l,hl,rfl⟩:=IB hx;split at I
  .rename_i c t Q i u hg al ak;obtain⟨N,z⟩:=A3 I;clear I;obtain⟨N,O⟩:=B3 N;have O:t<1000:=A2 O;have N:=A1 N;subst N;rw[P5]at z;unfold PW at z;split at z
   .rename_i m2 m9;cases z;have aj:=fF m9;obtain⟨e1,e2,aa,wd,ae,e3⟩:=mN (lg:=m'.lg) hS (by rw[aj];exact .refl _);obtain⟨⟨⟨S,af⟩,y2,es,clock,rows,g1,g2,g3,g4,g5,g6⟩,_⟩:=h.atl hl hg;rw[hy]at g1;have g1:=A8 g1;subst g1;obtain⟨E,D⟩:=lZ al G hk;obtain⟨v1,v2⟩:=lZ ak ah he;have B:i.length=y.ks.length:=by rw[<- D];simp
    have an:u.length=y.vs.length:=by rw[<- v2];simp
    have ag:((i++u).map (F3 Ora.env)).length=y.w:=by rw[I4,A4,B,an];rfl
    have au:((i++u).map (F3 Ora.env)).map H7=y.ks++y.vs:=by rw[Y3,Y3,D,v2]
    have A:((i++u).map (F3 Ora.env)).take y.ks.length=i.map (F3 Ora.env):=by rw[Y3,List.take_left' (by rw[I4];exact B)]
    have C:((i++u).map (F3 Ora.env)).drop y.ks.length=u.map (F3 Ora.env):=by rw[Y3,List.drop_left' (by rw[I4];exact B)]
    have o:Ora.env m.lg.nx=.seq false y.w (ZP y.ks.length ((i++u).map (F3 Ora.env)) rows):=by
     rw[e1];show evU (.mput y.w y.ks.length) (Ora.env c::(i++u).map (F3 Ora.env))=_;rw[g4];show(if y.w=y.w/\((i++u).map (F3 Ora.env)).length=y.w then _ else U.none)=_;rw[B0 ⟨rfl,ag⟩]
    rw[LD _ 0,A]at o;have ar:(getObj l.blk).run P w=.ok (.map es clock) w:=by simp[getObj,Sem.run,g3]
    have av:=AW (P:=P) (w:=w) aq D g5;have ax:=FN (P:=P) aq D false w;have aw:=St.wLg h (hZ m t (.mput y.w y.ks.length) (hole c t::(i++u)));have ao:Hp.get (m.wLg (hZ m t (.mput y.w y.ks.length) (hole c t::(i++u)))).H r=some (.mp c t Q):=by rw[mY];exact hg
    have s:l.blk<w.heap.size:=(D5.1 g3).1;refine⟨rfl,?_⟩;have X:∀ (b:Array MapEntry) (a:Nat),(setObj l.blk (.map b a)).run P w=.ok () { w with heap:=w.heap.set l.blk (.map b a) s }:=fun b a=>by
     have V:w.heap[l.blk]=.map es clock:=by
      have q:=g3;rw[H1 s]at q;exact A8 q
     simp[setObj,Sem.run,V,Array.setIfInBounds,s]
    have fin:∀ (b:Array MapEntry) (a:Nat) (g:List (List U)),Ora.env m.lg.nx=.seq false y.w g->xM y g b.toList->GG b.toList a->(Instr.mapUpdate Q (.map (some l.blk)) k' e').run P w=.ok () { w with heap:=w.heap.set l.blk (.map b a) s }->UOk P base ρ m w (Instr.mapUpdate Q (.map (some l.blk)) k' e') m':=fun b a g L q2 q4 q3=>by
     refine⟨ρ,_,q3,St.trans hf aw (St.write (ab:=.mp c t Q) (ab':=.mp m.lg.nx t Q) aw.hr m9 ao rfl hl S ⟨rfl,rfl,rfl⟩ (by simp) (fun j hj=>?_) ?_)⟩
     .show(w.heap.set l.blk _ s)[j]? = _;rw[bO,A9 (fun e=>hj e.symm)]
     .refine⟨⟨S,af⟩,y,b,a,g,hy,.inl (g2.resolve_right fun q=>by have:=q.1;omega),?_,L,q2,q4⟩;show(w.heap.set l.blk _ s)[l.blk]? = _;rw[bO,B0 rfl]
    cases Z:qB (i.map (F3 Ora.env)) rows 0 with
    | none =>
      rw[Z]at o;refine fin (es.push ⟨k',e',clock⟩) (clock+1) _ o (VF g5 au (by rw[A];exact E) (by rw[C];exact v1)) (ZQ g6) ?_;rw[E];simp only[Instr.mapUpdate,A5,D7 hu,Result.andThen_ok,ar,ax,av,DD,Z,Option.map_none,X]
    | some p =>
      obtain⟨pi,M⟩:=p;rw[Z]at o;have o:Ora.env m.lg.nx=.seq false y.w (rows.set pi ((i++u).map (F3 Ora.env))):=o;obtain⟨_,L,q2⟩:=tM Z;have L:rows[pi]? = some M:=by simpa using L
      have J:pi<es.toList.length:=by rw[<- g5.1];exact(B1.1 L).1
      obtain⟨t1,t2,t3⟩:=g5.2 pi M es.toList[pi] L (A6 J);obtain⟨ai,_⟩:=DP t1;have F:i.map (F3 Ora.env)=M.take y.ks.length:=by
       refine zG (by rw[D,ai]) (by rw[D];exact G) ?_
       have:=uX (i.map (F3 Ora.env)) M;rw[I4,B]at this;rw[this];exact q2
      have ay:pi<es.size:=by simpa using J
      refine fin (es.modify pi fun e2=>{ e2 with key:=k',val:=e' }) clock _ o (YS (e':=⟨k',e',(es[pi]).born⟩) g5 au (by rw[A];exact E) (by rw[C];exact v1) ?_) (PV (f:=fun _=>(k',e')) g6) ?_
      .apply dC;intro j;rw[R7,I1,List.getElem?_set];by_cases hj:pi=j
       .subst hj;rw[B0 rfl,B0 rfl,B0 J,H1 ay];rfl
       .rw[A9 hj,A9 hj];simp
      .have R:((es[pi]?).map (·.key)).getD k'=k':=by
        rw[H1 ay];show es[pi].key=k';have t2:es[pi].key=m6 y.ka (M.take y.ks.length):=t2;rw[t2,<- F,E]
       have K:Instr.sameBits 10000 k' k'=true:=by
        rw[E];exact WG (by rw[D];exact G) (fun _ q=>by have:=D8 List.length D;rw[q]at this;simp at this;omega) 9999
       have az:(Instr.keyThatStays k' k').run P w=.ok k' w:=by
        simp only[Instr.keyThatStays,K,if_true,Sem.run_pure]
       have W:(Instr.findKey y.kt k' es.toList).run P w=.ok (some (pi,m6 y.va (M.drop y.ks.length))) w:=by
        rw[E,av];simp[DD,Z]
       have Y:(Instr.checkKey false 10000 y.kt k').run P w=.ok () w:=by rw[E];exact ax
       simp only[Instr.mapUpdate,A5,D7 hu,Result.andThen_ok,ar,Y,W,R,az,X]
   .cases z
  .cases I
 .cases I
def A0Z{T:TypeId}{x:Value}(h:HR P base ρ m.H w)(a:ME P m T x=some (v,m'))(p:VR ρ x x')(o:Sat m'.lg):VOk P base ρ m w (Builtin.len_ ⟨T::tys⟩ ty #[x']) v m':=by
 unfold ME at a;split at a
 .rename_i kt s r hu;obtain⟨l,f,rfl⟩:=IB p;split at a
  .rename_i c t q i;obtain⟨⟨⟨j,g⟩,u,es,clock,rows,g1,g2,g3,g4,g5,g6⟩,_⟩:=h.atl f i;obtain⟨n,⟨lg,rfl⟩,_,_⟩:=nX (ρ:=ρ) a g4 o;have b:(getObj l.blk).run P w=.ok (.map es clock) w:=by simp[getObj,Sem.run,g3]
   refine⟨_,ρ,w,?_,n,St.wLg h lg⟩
   have:=g5.1;have e:es.size=rows.length:=by rw[this];simp
   simp[Builtin.len_,A5,D7 hu,Result.andThen,goInt,b,e]
  .cases a
 .cases a
def A2T{T:TypeId}(a:A0M P m T=some (v,m')):m.lg.le m'.lg:=by
 unfold A0M at a;split at a
 .rw[P5]at a;rw[cK a];exact Z8
 .cases a
def vE{wd kw c t:Nat}{b:E0}:∀ {ts:I7} {a:E0} {j:Nat} {m m':Mem} {hs:E0},vF wd kw c t b ts a j m=some (hs,m')->m.lg.le m'.lg
 | [],[],j,m,m',hs,h=>by cases h;exact .refl _
 | [],_::_,j,m,m',hs,h=>by cases h
 | _::_,[],j,m,m',hs,h=>by cases h
 | tg::ts,z::a,j,m,m',hs,h=>by
   unfold vF at h;split at h
   .rename_i e;split at h
    .rename_i hr;cases h;exact(J1 e).trans (vE hr)
    .cases h
   .cases h
def VN{T:TypeId}{x k:Value}{ok:Bool}(a:AG P m T x k ok=some (v,m')):m.lg.le m'.lg:=by
 unfold AG at a;split at a
 .split at a
  .obtain⟨_,a⟩:=A3 a;split at a
   .split at a
    .rename_i b;split at a
     .cases ok with
      | false=>cases a;exact vE b
      | true =>
        simp only[F1]at a;split at a
        .rename_i e;cases a;exact(vE b).trans (J1 e)
        .cases a
     .cases a
    .cases a
   .cases a
  .cases a
 .cases a
def LB{T:TypeId}{x k e:Value}(a:EG P m T x k e=some (v,m')):m.lg.le m'.lg:=by
 unfold EG at a;split at a
 .split at a
  .obtain⟨_,a⟩:=A3 a;rw[P5]at a;unfold PW at a;split at a
   .rename_i m9;cases a;rw[fF m9];exact Z8
   .cases a
  .cases a
 .cases a
def A0a{T:TypeId}{x:Value}(a:ME P m T x=some (v,m')):m.lg.le m'.lg:=by
 unfold ME at a;split at a
 .split at a
  .exact(dN a).2
  .cases a
 .cases a
end
end
section
open Go
variable [Ora]
section
variable {P:Program} {base:Nat} {ρ:Ren} {m m':Mem} {w:World}
omit [Ora] in
def NQ{G:Nat->Option Obj}:∀ {us:List U} {s:List UInt8} {vs:E0},vQ us=some s->u9 G us vs->∃ e:List Int,vs=e.map (Value.int .u8)/\s=e.map fun n=>UInt8.ofNat n.toNat
 | [],s,vs,h,he=>by
   cases h;have:vs=[]:=H3.1 he.1.symm;subst this;exact⟨[],rfl,rfl⟩
 | u::us,s,vs,h,he=>by
   unfold vQ at h;split at h
   .rename_i heq;cases heq
   .rename_i n r heq;cases heq;split at h
    .split at h
     .rename_i l f;cases h;cases vs with
      | nil=>have:=he.1;simp at this
      | cons v vr =>
        obtain⟨e,p,j⟩:=NQ (vs:=vr) f ⟨by have:=he.1;simpa using this,fun i a b g o=>he.2 (i+1) a b (by simpa using g) (by simpa using o)⟩
        have:=pQ (he.2 0 _ v rfl rfl) rfl;subst this;exact⟨(Int.ofNat n)::e,by rw[p];rfl,by rw[j];rfl⟩
     .cases h
    .cases h
   .cases h
def KL{t:TypeId}{n:Nat}(h:I2 P t=some n):∃ inf,P.info? t=some inf/\inf.size=n:=by
 unfold I2 at h;cases hi:P.info? t with
 | none=>rw[hi]at h;cases h
 | some inf=>rw[hi]at h;exact⟨inf,rfl,A8 h⟩
def KO(d:Nat)(t:TypeId):sameLayout P (d+1) t t=true:=by simp[sameLayout]
def A1E:∃ d,P.depth=d+1:=⟨2*(P.types.size+Made.depth)+1,rfl⟩
def QA{T:TypeId}{n off:Nat}(hs:P.cellsOf T≠0)(hr:off%P.cellsOf T=0)(e:off / P.cellsOf T+1<=n):liesAt P P.depth T n off T 1=true:=by
 obtain⟨d,a⟩:=A1E (P:=P);have b:rowAt P (sameLayout P P.depth · T) P.depth T n off 1=true:=by
  rw[a];unfold rowAt;simp only[hs,if_false,hr,KO];simp[e]
 rw[a]at b ⊢;unfold liesAt;rw[a,b];rfl
def A1I{s t:TypeId}{x:Value}(h:HR P base ρ m.H w)(g:TO P m s t x=some (v,m'))(I:VR ρ x x'):VOk P base ρ m w (convert s t x') v m':=by
 unfold TO at g;split at g
 .rename_i e b o hs L;obtain⟨l,F,_,rfl⟩:=Q3 I;split at g
  .rename_i k cs T ro A G;obtain⟨D,g⟩:=A3 g;have D:o<cs.length:=A2 D;cases g;obtain⟨inf,a,O⟩:=KL A;obtain⟨⟨p,C,fz,i,q,Q,_⟩,_⟩:=h.atl F G;obtain⟨v',h3,_⟩:=Q o cs[o] (A6 D);have K:l.sh+o<C.size:=(D5.1 h3).1;exact VOk.same h (Lib.run_to_unsafe w ⟨l.blk,o+l.sh,none⟩ hs L a A0 (show w.shape? l.blk=some (i,C.size) by simp[World.shape?,q]) (by show o+l.sh<C.size;omega)) I
  .cases g
 .rename_i u b hs L;obtain⟨l,F,_,rfl⟩:=Q3 I;split at g
  .rename_i k cs T A G;obtain⟨J,f⟩:=A3 g;clear g;obtain⟨B,N⟩:=B3 J;have B:=A1 B;have N:=A1 N;clear J;subst B;cases f;obtain⟨inf,a,O⟩:=KL A;obtain⟨⟨p,C,fz,i,q,Q,h3⟩,_⟩:=h.atl F G;obtain⟨rfl,_,S⟩:=h3 rfl;obtain⟨_,M⟩:=S inf a;have E:P.cellsOf i=k+1:=by unfold Program.cellsOf;rw[a];exact O
   have z:k<cs.length:=A0;obtain⟨v',V,_⟩:=Q k cs[k] (A6 z);have K:l.sh+k<C.size:=(D5.1 V).1;refine VOk.same h (Lib.run_from_unsafe w ⟨l.blk,0+l.sh,none⟩ hs L a (show w.shape? l.blk=some (i,C.size) by simp[World.shape?,q]) ?_) I;show liesAt P P.depth i (C.size / P.cellsOf i) (0+l.sh) i 1=true;rw[F9];refine QA A0 (by rw[E];rw[O]at M;exact M) ?_;rw[E];have M:l.sh%(k+1)=0:=by rw[O]at M;exact M
   have Y:l.sh=(k+1)*(l.sh / (k+1)):=by have:=Nat.div_add_mod l.sh (k+1);omega
   refine(Nat.le_div_iff_mul_le A0).2 ?_;rw[I9,jD,dA];omega
  .cases g
 .rename_i X e b o n c hs L;obtain⟨J,f⟩:=A3 g;clear g;obtain⟨B,N⟩:=B3 J;have B:=A1 B;clear J;subst B;split at f
  .rename_i cs T hu G;split at f
   .rename_i m1 m9;cases f;obtain⟨l,mm,F,rfl⟩:∃ l mm,ρ b=some l/\x'=.slice (some ⟨l.blk,o+l.sh,none⟩) n mm:=by
     cases I with
     | pure hp=>simp[J8]at hp
     | sl q _=>exact⟨_,_,q,rfl⟩
     | op q _ _ _=>exact⟨_,_,q,rfl⟩
     | opE _=>simp at N
    obtain⟨⟨p,C,fz,i,z2,z3,z4⟩,_⟩:=h.atl F G;have R:w.shape? l.blk=some (i,C.size):=by simp[World.shape?,z2]
    refine⟨_,ρ,w.freeze ⟨l.blk,C.size,none⟩ 1,?_,I,St.write h m9 G rfl F p ?_ ?_ ?_ ?_⟩
    .simp[convert,run_underlying L,run_underlying hu,markStringish,R]
    .simp[World.freeze]
    .simp[World.freeze]
    .intro j W;simp only[World.freeze,Nat.one_ne_zero,if_false,I1];rw[A9 (fun e=>W e.symm)]
    .refine⟨p,C,(if fz.1 == fz.2 then(C.size,C.size+1)else(min fz.1 C.size,max fz.2 (C.size+1))),i,?_,z3,fun E=>⟨(z4 E).1,(z4 E).2.1.mark,(z4 E).2.2⟩⟩;simp only[World.freeze,Nat.one_ne_zero,if_false,I1,if_true,z2,M1]
   .cases f
  .cases f
 .cases g
def ZS{op:BinOp}{t:TypeId}{x y:Operand}{a a' b b':Value}(h:HR P base ρ m.H w)(i:RW P m op t a b=some (v,m'))(B:VR ρ a a')(A:VR ρ b b'):VOk P base ρ m w (do eqGuard op t x y a' b';binOp op t a' b') v m':=by
 unfold RW at i;split at i
 .rename_i e C p D E hu;obtain⟨u,f⟩:=A3 i;clear i;obtain⟨s,q⟩:=B3 u;have s:=A1 s;have q:=A1 q;clear u;subst s;subst q;obtain⟨l,z,_,rfl⟩:=Q3 B;obtain⟨l2,o,_,rfl⟩:=Q3 A;rw[z]at o
  have:=A8 o;subst this;have heq:∀ j,P.info? e=some j->∀ d:Nat,(Op.equalIn (d+1) t (.pointer (some ⟨l.blk,p+l.sh,none⟩)) (.pointer (some ⟨l.blk,p+l.sh,none⟩))).run P w=.ok true w:=fun j n d=>by
   simp[Op.equalIn,run_underlying hu,sizeOf,typeInfo,n,run_sameAddr_same]
  have g:(eqGuard op t x y (.pointer (some ⟨l.blk,p+l.sh,none⟩)) (.pointer (some ⟨l.blk,p+l.sh,none⟩))).run P w=.ok () w:=by
   unfold eqGuard;split<;>simp
  split at f
  .rename_i j n;cases f;refine VOk.same h (v':=.bool true) ?_ (.pure rfl);rw[A5,g];simp[Result.andThen,binOp,Op.equal,Op.maxDepth,heq j n 9999]
  .rename_i j n;cases f;refine VOk.same h (v':=.bool false) ?_ (.pure rfl);rw[A5,g];simp[Result.andThen,binOp,Op.equal,Op.maxDepth,heq j n 9999]
  .cases f
 .cases i
def St.laid{o:Obj}(h:HR P base ρ m.H w):St P base ρ ρ m m w { w with heap:=w.heap.push o } :=
 have g:∀ k,k<w.heap.size->(w.heap.push o)[k]? = w.heap[k]? := fun k g=>by rw[aP,A9 A0]
 ⟨fun _ _ h=>h,fun b l f a=>(by rw[f]at a;cases a),A7 _,A7 _,fun h=>h,
  ⟨h.dom,fun id hid ab i=>by
    obtain⟨l,f,a,h3⟩:=h.at_ id hid ab i;exact⟨l,f,a.mono (fun _ _ h=>h) (fun k e=>g k (a.tc e)),h3⟩⟩,
  fun _ h=>h,fun b f a=>absurd f a,fun k e _=>g k e,by simp,⟨rfl,rfl,rfl⟩,fun b l f a=>(by rw[f]at a;cases a),fun _ _ _ _=>rfl,fun _ h=>.inr h⟩
def A5f{tys:Array TypeId}{x:Value}(h:HR P base ρ m.H w)(a:sdM P m ty x=some (v,m'))(u:VR ρ x x'):VOk P base ρ m w (Builtin.unsafeSliceData_ tys ty #[x']) v m':=by
 unfold sdM at a;split at a
 .rename_i e he;split at a
  .rename_i b i t;split at a
   .rename_i c tc T g ro E;cases a;have u:VR ρ (own b i t) x':=u;rcases(iS u).1 with⟨l,wd,f,j,h3,rfl⟩|⟨l,wd,rows,f,j,h3,F,G,rfl⟩
    .exact VOk.same h rfl (.sdt ⟨l,f,.inl ⟨j,rfl⟩⟩)
    .have n:Builtin.unsafeSliceData_ tys ty #[.slice (some ⟨l.blk,l.sh,none⟩) l.len l.cap]=(do
       if l.cap≠0 then pure (.pointer (some ⟨l.blk,l.sh,none⟩))
       else if(<- viewAt l.blk).isSome then pure (.pointer (some ⟨l.blk,l.sh,none⟩))
       else pure (.pointer (some ⟨<- newObj (.view ⟨l.blk,l.sh,none⟩ (<- elemOf ty)),0,none⟩))):=rfl
     rw[n];by_cases p:l.cap=0
     .rw[A9 (by simpa using p)];obtain⟨B,inf,_,_,_,A⟩:=SqR.ex (h.atl f E).1;rcases A with⟨o,_⟩|⟨_,o⟩
      .rw[j]at o;cases o
      .obtain⟨C,fz,D,q,lg,z,_⟩:=o;have s:w.shape? l.blk=some (D,C.size):=by simp[World.shape?,z]
       refine⟨.pointer (some ⟨w.heap.size,0,none⟩),ρ,{ w with heap:=w.heap.push (.view ⟨l.blk,l.sh,none⟩ e) },?_,.sdt ⟨l,f,.inr ⟨j,_,rfl,fun h=>absurd p h⟩⟩,St.laid h⟩;simp[viewAt,s,elemOf,D7 he,newObj,Sem.run,A5,Result.andThen]
     .rw[B0 p];exact VOk.same h rfl (.sdt ⟨l,f,.inr ⟨j,_,rfl,fun _=>rfl⟩⟩)
   .cases a
  .cases a
 .cases a
def A5Y{p l p' l':Value}(h:HR P base ρ m.H w)(L:usM P m pt p l=some (v,m'))(hp:VR ρ p p')(hl:VR ρ l l')(hS:Sat m'.lg)(hf:L1 ρ m.n m'.hi) :
  VOk P base ρ m w (Builtin.unsafeString_ ⟨pt::tys⟩ ty #[p',l']) v m':=by
 have D:IntKind.i64.max=9223372036854775807:=rfl;unfold usM at L;split at L
 .rename_i b;obtain⟨az,L⟩:=A3 L;have az:H6 l<8:=A2 az;obtain⟨k,n0,rfl,aa,_⟩:=O2 hl az;split at L
  .rename_i c tc T g e hg ai;obtain⟨hq,E⟩:=A3 L;clear L;obtain⟨q1,q2⟩:=B3 hq;have q1:=A1 q1;have q2:=A1 q2;clear hq;subst q1;subst q2;split at E
   .rename_i u m1 bw S;split at E
    .rename_i m2 m9;cases E;have ag:=fF m9;have ae:Sat m1.lg:=by rw[<- ag];exact hS
     obtain⟨u0,e1,e2,r,e3,e4,e5⟩:=O0 S ae;obtain⟨lg,rfl⟩:=I8 S;obtain⟨o,N,hv⟩:=A2e (show VR ρ (sdt b) p' from hp);have F:=St.wLg h lg;obtain⟨wd,inf,k1,k2,k3,I⟩:=SqR.ex (h.atl N hg).1;have bz:wd=1:=A0;subst bz;have f:evU .ustr [Ora.env c,.int k n0]=u0:=by
      have:F3 Ora.env (hole c 11)=Ora.env c:=rfl;rw[<- this,<- aa];exact e1
     have M:∀ ay rows,Ora.env c=.seq ay 1 rows->∃ (n:Nat) (R:List UInt8),n0=(n:Int)/\n<=rows.length/\n<=1000000000/\xL (rows.take n)=some R/\u0=.str R:=fun ay rows hc=>by
      rw[hc]at f;cases n0 with
      | negSucc z=>have:u0=.none:=f.symm;subst this;cases e3
      | ofNat n =>
        have f:(if 1=1/\n<=rows.length/\n<=vR then match xL (rows.take n)with
         | some s=>U.str s
         | none=>.none else .none)=u0:=f
        split at f
        .rename_i ao;split at f
         .rename_i R M;exact⟨n,R,rfl,ao.2.1,ao.2.2,M,f.symm⟩
         .subst f;cases e3
        .subst f;cases e3
     have B:P.cellsOf e=1:=by unfold Program.cellsOf;rw[k2];exact k3
     have Y:∀ {ρ:Ren} {w:World} {lx:Loc},BR P ρ (.sq c 11 e g false) lx w->BR P ρ (.sq c 11 e g true) lx w:=fun hb=>by
      obtain⟨wd,inf,k1,k2,k3,I⟩:=SqR.ex hb;refine⟨⟨wd,inf,k1,k2,k3,I.imp (fun x=>x) fun⟨a,C,fz,T',rows,lg,b1,b2,b3,b4,b5,b6,b7,b8,_⟩=>⟨a,C,fz,T',rows,lg,b1,b2,b3,b4,b5,b6,b7,b8,fun hh=>by cases hh⟩⟩⟩
     have V:Hp.get (m.wLg lg).H b=some (.sq c 11 e g false):=by rw[mY];exact hg
     have Q:St P base ρ ρ m m' w w:=St.trans hf F (St.same0 F.hr m9 V rfl N (Y (F.hr.atl N V).1) fun q hq=>hq.imp (fun⟨_,b⟩=>⟨rfl,b⟩) fun⟨hh,_⟩=>by cases hh);rcases hv with⟨ar,rfl⟩|⟨W,a,rfl,ha⟩
     .rcases I with⟨_,K⟩|⟨K,_⟩
      .obtain⟨n,R,rfl,j1,_,j2,rfl⟩:=M _ _ K;have hn:n=0:=by simpa using j1
       subst hn;cases j2;cases e3;refine⟨.string ByteArray.empty,ρ,w,?_,e4 ρ,Q⟩;have t:Builtin.unsafeString_ ⟨pt::tys⟩ ty #[.pointer none,.int k ((0:Nat):Int)] =
         (do
           let n <- asInt (.int k ((0:Nat):Int))
           if n<0 then runtimePanic (.error "unsafe.String: len out of range")
           if n>IntKind.i64.max then unsupported (.unsafePointer "String: a length above the largest int")
           if n=0 then pure (.string .empty)
           else runtimePanic (.error "unsafe.String: ptr is nil and len is not zero")):=rfl
       rw[t];simp[asInt,asIntOf,D]
      .rw[ar]at K;cases K
     .rcases I with⟨K,_⟩|⟨_,K⟩
      .rw[W]at K;cases K
      obtain⟨C,fz,T',rows,au,z1,z2,z3,z4,z5,z6,z7,z8,z9⟩:=K;obtain⟨rfl,bx⟩:=z9 rfl;obtain⟨n,R,rfl,j1,j0,j2,rfl⟩:=M _ _ z2;cases e3;have t:Builtin.unsafeString_ ⟨pt::tys⟩ ty #[.pointer (some a),.int k (n:Int)] =
       (do
         let n <- asInt (.int k (n:Int))
         if n<0 then runtimePanic (.error "unsafe.String: len out of range")
         if n>IntKind.i64.max then unsupported (.unsafePointer "String: a length above the largest int")
         if n=0 then pure (.string .empty)
         else if <- variablesAt a (<- elemOf pt) n.toNat then do
          let s <- loadBytes a .empty n.toNat
          freeze a n.toNat
          pure (.string s)
         else unsupported (.unsafePointer "String: not so many bytes at ptr")):=rfl
      have an:¬ (n:Int)<0:=A0;have aq:¬ (9223372036854775807:Int)<(n:Int):=A0;by_cases A:n=0
      .subst A;cases j2;refine⟨.string ByteArray.empty,ρ,w,?_,e4 ρ,Q⟩;rw[t];simp[asInt,asIntOf,D]
      .have hz:¬ (n:Int)=0:=A0;have av:o.cap≠0:=A0;have ha:=ha av;subst ha;obtain⟨y1,y2,y3⟩:=JB j2;have hlen:(rows.take n).length=n:=by simp;omega
       have ak:o.sh+n<=C.size:=A0;obtain⟨ns,r1,r2⟩:∃ ns:List Int,(C.toList.drop o.sh).take n=ns.map (Value.int .u8)/\R=ns.map fun n=>UInt8.ofNat n.toNat:=by
        refine NQ (G:=au.G) y1 ⟨by rw[y2,hlen];simp;omega,fun i u v b1 b2=>?_⟩;have al:i<n:=by have:=(B1.1 b1).1;rw[y2,hlen]at this;exact this
        have aw:i<rows.length:=A0;have O:rows[i]? = some rows[i]:=A6 aw;have Z:(rows.take n)[i]? = some rows[i]:=by rw[G6 al];exact O
        have bu:rows[i].length=1:=z6 _ (P4 aw);have h0:rows[i][0]? = some (rows[i][0]' A0):=A6 A0;obtain⟨_,I⟩:=y3 i _ 0 _ Z h0;rw[b1]at I;have I:=A8 I;rw[I];have hc:C[o.sh+i*1+0]? = some v:=by
         rw[G6 al,J2]at b2
         simpa using b2
        exact z8 i _ 0 _ v O h0 hc
       have ah:ns.length=n:=by
        have:=D8 List.length r1;simp at this;omega
       have J:∀ (j:Nat) (v:Value),(ns.map (Value.int .u8))[j]? = some v->w.cell? ⟨o.blk,o.sh+j,none⟩=some v:=fun j v hj=>by
        rw[<- r1]at hj;have aj:j<n:=by have:=(B1.1 hj).1;simp at this;omega
        rw[G6 aj,J2]at hj;simp only[World.cell?,z1]
        simpa using hj
       have ax:=fZ (P:=P) (w:=w) ns o.blk o.sh .empty J;rw[ah]at ax;have ad:w.shape? o.blk=some (T',C.size):=by simp[World.shape?,z1]
       have X:=AJ (P:=P) B (C.size / P.cellsOf T') o.sh n (by rw[B];simpa using ak);have af:St P base ρ ρ (m.wLg lg) m' w (w.freeze ⟨o.blk,o.sh,none⟩ n):=by
        refine St.write F.hr m9 V rfl N W ?_ ?_ ?_ ?_
        .simp[World.freeze,A]
        .simp[World.freeze,A]
        .intro j hj;simp only[World.freeze,A,if_false,I1];rw[A9 (fun e=>hj e.symm)]
        .refine⟨⟨1,inf,rfl,k2,k3,.inr ⟨W,C,(if fz.1 == fz.2 then(o.sh,o.sh+n)else(min fz.1 o.sh,max fz.2 (o.sh+n))),T',rows,au,?_,z2,z3,z4,z5,z6,z7,z8,fun hc=>by cases hc⟩⟩⟩;simp only[World.freeze,A,if_false,I1,if_true,z1,M1]
       refine⟨.string ⟨⟨R⟩⟩,ρ,w.freeze ⟨o.blk,o.sh,none⟩ n,?_,e4 ρ,St.trans hf F af⟩;rw[t];simp[asInt,asIntOf,D,an,aq,hz,A,variablesAt,ad,elemOf,D7 ai,X,ax,freeze,Sem.run,A5,Result.andThen,r2]
    .cases E
   .cases E
  .cases L
 .cases L
def VD{t:TypeId}{x:Value}(h:HR P base ρ m.H w)(j:base<=w.heap.size)(a:zU P m t x=some (v,m'))(g:L1 ρ m.n m'.hi)(i:VR ρ x x'):VOk P base ρ m w (Instr.range t x') v m':=by
 unfold zU at a;split at a
 .rename_i hu;obtain⟨o,a⟩:=A3 a;obtain⟨s,rfl,_⟩:=bC i (A1 o);have f:∀ e:Ren,(∀ b l,ρ b=some l->e b=some l)->BR P e (.iter [x,.int .i64 (.ofNat 0)]) (lc w.heap.size 0 0) { w with heap:=w.heap.push (.stringIter ⟨⟨s⟩⟩ 0) }:=fun e he =>
   ⟨⟨rfl,rfl⟩,.inl ⟨⟨⟨s⟩⟩,0,by simp[lc],.cons (i.mono he) (.cons (.pure rfl) .nil)⟩⟩
  obtain⟨q,h3,p⟩:=St.alloc (w':={ w with heap:=w.heap.push (.stringIter ⟨⟨s⟩⟩ 0) }) (l:=lc w.heap.size 0 0) h j a g ⟨rfl,rfl,rfl⟩ rfl rfl (f _ (i0 (g m.n (A7 _) (by obtain⟨_,_,rfl⟩:=N0 a;exact(L8 _ _).2))));refine⟨.pointer (some ⟨w.heap.size,0,none⟩),_,_,?_,?_,p⟩
  .simp[Instr.range,A5,D7 hu,Result.andThen,newObj,Sem.run]
  .rw[q];exact .ptr h3
 .cases a
def QO{s p:Value}{b:ByteArray}(h:IV s p=some (b,k)):s=.string b/\p=.int .i64 (.ofNat k):=by
 unfold IV at h;split at h
 .cases h;exact⟨rfl,rfl⟩
 .cases h
def A0J{x:Value}(h:HR P base ρ m.H w)(a:LQ m x=some (v,m'))(hf:L1 ρ m.n m'.hi)(hx:VR ρ x x')(hS:Sat m'.lg):VOk P base ρ m w (Instr.next x' true ty) v m':=by
 unfold LQ at a;split at a
 .rename_i r;obtain⟨l,hl,_,rfl⟩:=Q3 hx;split at a
  .rename_i s p hg;obtain⟨⟨⟨G,D⟩,az⟩,_⟩:=h.atl hl hg;obtain⟨f,n,g1,g2⟩:=az.resolve_right (fun q=>by cases q.1);have Q:(getObj l.blk).run P w=.ok (.stringIter f n) w:=by simp[getObj,Sem.run,g1]
   have i:l.blk<w.heap.size:=(D5.1 g1).1;have J:w.heap[l.blk]=.stringIter f n:=by
    have q:=g1;rw[H1 i]at q;exact A8 q
   obtain⟨s',r1,e1,S,k2⟩:=g2.tail;obtain⟨p',r2,e2,k3,k4⟩:=k2.tail;cases k4.nil_inv;cases e2;cases e1;have V:∀ T:Nat,(setObj l.blk (.stringIter f T)).run P w=.ok () { w with heap:=w.heap.set l.blk (.stringIter f T) i }:=fun T=>by
    simp[setObj,Sem.run,J,Array.setIfInBounds,i]
   have z:n<f.size->(Instr.next (.pointer (some ⟨l.blk,0+l.sh,none⟩)) true ty).run P w=.ok (.tuple #[.bool true,.int .i64 (.ofNat n),.int .i32 (.ofNat (Utf8.decode f n).1)]) { w with heap:=w.heap.set l.blk (.stringIter f (n+(Utf8.decode f n).2)) i }:=fun o=>by
    rw[D];simp[Instr.next,A5,Result.andThen_ok,Q,o,V,goInt]
   have L:¬n<f.size->(Instr.next (.pointer (some ⟨l.blk,0+l.sh,none⟩)) true ty).run P w=.ok (.tuple #[.bool false]) w:=fun o=>by
    rw[D];simp[Instr.next,A5,Result.andThen_ok,Q,o]
   have fin:∀ {m1 m2:Mem} {q:Value},K7 m m1->eA m1 r (.iter [s,q])=some m2->L1 ρ m.n m2.hi->VR ρ q (.int .i64 (.ofNat (n+(Utf8.decode f n).2)))->St P base ρ ρ m m2 w { w with heap:=w.heap.set l.blk (.stringIter f (n+(Utf8.decode f n).2)) i }:=fun{m1 m2 q} e m9 ay X=>by
    obtain⟨lg,rfl⟩:=e;have M:=St.wLg h lg;have R:Hp.get (m.wLg lg).H r=some (.iter [s,p]):=by rw[mY];exact hg
    refine St.trans ay M (St.write (ab:=.iter [s,p]) (ab':=.iter [s,q]) M.hr m9 R rfl hl G ⟨rfl,rfl,rfl⟩ (by simp) (fun j hj=>?_) ?_)
    .show(w.heap.set l.blk _ i)[j]? = _;rw[bO,A9 (fun e=>hj e.symm)]
    .refine⟨⟨G,D⟩,.inl ⟨f,_,?_,.cons S (.cons X .nil)⟩⟩;show(w.heap.set l.blk _ i)[l.blk]? = _;rw[bO,B0 rfl]
   split at a
   .rename_i b k hc;obtain⟨rfl,rfl⟩:=QO hc;have e:=Y7 S;cases e;have e:=K2 k3;cases e;by_cases o:n<f.size
    .have t:Nat.blt n f.data.toList.length=true:=C5 o;rw[t]at a;simp only[F1,F5]at a;split at a
     .rename_i m2 m9;cases a;exact⟨_,ρ,_,z o,.tuple rfl (LR.cons (.pure rfl) (LR.cons (.pure rfl) (LR.cons (.pure rfl) LR.nil))).2,fin ⟨m.lg,by cases m;rfl⟩ m9 hf (.pure rfl)⟩
     .cases a
    .have t:Nat.blt n f.data.toList.length=false:=by
      cases X:Nat.blt n f.data.toList.length with
      | false=>rfl
      | true=>exact absurd (A2 X) o
     rw[t]at a;cases a;exact⟨_,ρ,w,L o,.tuple rfl (LR.cons (.pure rfl) LR.nil).2,St.refl h⟩
   .obtain⟨F,a⟩:=A3 a;obtain⟨F,h2⟩:=B3 F;have F:=A1 F;have h2:=A1 h2;obtain⟨s0,es,as⟩:=bC S F;cases es;obtain⟨kk,nn,ep,ap,_⟩:=O2 k3 A0;cases ep;split at a
    .rename_i hh m1 E;split at a
     .rename_i c H N W hi lg B;have o1:=I8 E;have o2:=I8 B;have key:∀ {b:Bool} {g:Lg},brL lg c=some (b,g)->Sat g->(b=true↔n<s0.length)/\K7 m ⟨H,N,W,hi,g⟩:=fun{b g} t u=>by
       have O:Sat lg:=u.le (gU t);have Y:Sat m1.lg:=V2.le O (J1 B);have u1:VR ρ hh (.int .i64 s0.length):=by
        have:=(kH (ρ:=ρ) E Y).2.2;rw[E4,I3,as]at this;exact this
       obtain⟨rfl,e1⟩:=lT E;obtain⟨k5,n5,e5,a5,_⟩:=O2 u1 (show 3<8 by decide);cases e5;have u2:VR ρ c (.bool (decide ((n:Int)<s0.length))):=by
        have:=(kH (ρ:=ρ) B O).2.2;rw[E4,E4,I3,ap,a5]at this;have e:evU (.bin .lss) [.int .i64 (Int.ofNat n),.int .i64 (s0.length:Int)]=.bool (decide ((n:Int)<s0.length)):=by
         simp[evU,evB,cR,wD,kK,mV,HT,ofV]
        rw[e]at this;exact this
       have:=oJ t u2 u;refine⟨?_,?_⟩
       .have:=Value.bool.inj this;rw[<- this,decide_eq_true_iff];omega
       .exact(o1.trans o2).trans ⟨g,rfl⟩
      split at a
      .rename_i g t;split at a
       .rename_i y m3 C;split at a
        .rename_i q m4 A;split at a
         .rename_i m5 m9;cases a;have K:Sat m4.lg:=by rw[<- fF m9];exact hS
          have I:=K.le (J1 A);have u:Sat g:=I.le (J1 C);obtain⟨kn,ko⟩:=key t u;have o:=kn.1 rfl;have u3:VR ρ y (.int .i32 (.ofNat (Utf8.decode ⟨⟨s0⟩⟩ n).1)):=by
           have:=(kH (ρ:=ρ) C I).2.2;rw[E4,E4,I3,as,ap]at this;exact this
          have u4:VR ρ q (.int .i64 (.ofNat (n+(Utf8.decode ⟨⟨s0⟩⟩ n).2))):=by
           have:=(kH (ρ:=ρ) A K).2.2;rw[E4,E4,I3,as,ap]at this;exact this
          exact⟨_,ρ,_,z o,.tuple rfl (LR.cons (.pure rfl) (LR.cons k3 (LR.cons u3 LR.nil))).2,fin ((ko.trans (I8 C)).trans (I8 A)) m9 hf u4⟩
         .cases a
        .cases a
       .cases a
      .rename_i g t;cases a;obtain⟨kn,ko⟩:=key t hS;have o:¬n<s0.length:=fun q=>by have:=kn.2 q;cases this
       obtain⟨Z,e3⟩:=ko;refine⟨_,ρ,w,L o,.tuple rfl (LR.cons (.pure rfl) LR.nil).2,?_⟩;rw[e3];exact St.wLg h Z
      .cases a
     .cases a
    .cases a
  .cases a
 .cases a
def VE{t:TypeId}{x:Value}(a:zU P m t x=some (v,m')):m.lg.le m'.lg:=by
 unfold zU at a;split at a
 .obtain⟨_,a⟩:=A3 a;rw[cK a];exact .refl _
 .cases a
def A0K{x:Value}(e:LQ m x=some (v,m')):m.lg.le m'.lg:=by
 unfold LQ at e;split at e
 .split at e
  .split at e
   .rename_i b k o;cases f:Nat.blt k b.data.toList.length with
    | true =>
      rw[f]at e;simp only[F1,F5]at e;split at e
      .rename_i m9;cases e;rw[fF m9];exact .refl _
      .cases e
    | false=>rw[f]at e;cases e;exact .refl _
   .obtain⟨_,e⟩:=A3 e;split at e
    .rename_i n;split at e
     .rename_i j;have a:=(J1 n).trans (J1 j);split at e
      .rename_i f;have a:=a.trans (gU f);split at e
       .rename_i i;split at e
        .rename_i g;split at e
         .rename_i m9;cases e;rw[fF m9];exact(a.trans (J1 i)).trans (J1 g)
         .cases e
        .cases e
       .cases e
      .rename_i f;cases e;exact a.trans (gU f)
      .cases e
     .cases e
    .cases e
  .cases e
 .cases e
def A5U{fr:Fr}{g:Operand->Value}{o:Oper}(h:HR P base ρ m.H w)(D:base<=w.heap.size)(b:xtM P fr m o=some (v,m'))(j:L1 ρ m.n m'.hi)(z:FR ρ fr g o.op)(f:Sat m'.lg):NOk P base ρ m w (execOp g o) v m':=by
 obtain⟨dst,op,ty,pos,E,G⟩:=o;unfold xtM at b;simp only at b z;have a:∀ {x},x ∈ op.operands.toList->VR ρ (ev fr x) (g x):=fun i=>z _ i
 split at b
 .rename_i s t x;exact NOk.of (A1I h b (a (x:=x) (by simp[Op.operands])))
 .rename_i op t x y L;exact NOk.of (ZS h b (a (x:=x) (by simp[Op.operands])) (a (x:=y) (by simp[Op.operands])))
 .rename_i xs tys;have l1:=eU (ρ:=ρ) (fr:=fr) (g:=g) (xs:=xs.toList) fun y C=>z y (by show y ∈ (#[]++xs:Array Operand).toList;simpa using C)
  split at b
  .rename_i x i;rw[i]at l1;obtain⟨x',r1,A,g1,g2⟩:=l1.tail;cases g2.nil_inv;have u:xs.map g=#[x']:=by apply K0;simpa using A
   have:=A5f (tys:=tys) h b g1;have B:=NOk.of this;obtain⟨ks,q⟩:∃ ks,execOp g ⟨dst,.call ⟨.builtin .unsafeSliceData,xs,tys⟩,ty,pos,E,G⟩=builtin .unsafeSliceData tys ty ks (xs.map g):=⟨#[],rfl⟩;rw[q,u];exact B
  .cases b
 .rename_i xs tys;have l1:=eU (ρ:=ρ) (fr:=fr) (g:=g) (xs:=xs.toList) fun y C=>z y (by show y ∈ (#[]++xs:Array Operand).toList;simpa using C)
  split at b
  .rename_i p l t rest i I;rw[i]at l1;obtain⟨x',r1,A,g1,g2⟩:=l1.tail;obtain⟨J,K,rfl,g3,g4⟩:=g2.tail;cases g4.nil_inv;have u:xs.map g=#[x',J]:=by apply K0;simpa using A
   have B:=NOk.of (A5Y (ty:=ty) (tys:=rest) h b g1 g3 f j);obtain⟨ks,q⟩:∃ ks,execOp g ⟨dst,.call ⟨.builtin .unsafeString,xs,tys⟩,ty,pos,E,G⟩=builtin .unsafeString tys ty ks (xs.map g):=⟨#[],rfl⟩;have F:tys=⟨t::rest⟩:=by rw[<- I]
   rw[q,u,F];exact B
  .cases b
 .rename_i t;exact NOk.of (A2S h D b j f)
 .rename_i t x k ok;exact NOk.of (VM h b (a (x:=x) (by simp[Op.operands])) (a (x:=k) (by simp[Op.operands])) f)
 .rename_i t x;exact NOk.of (VD h D b j (a (x:=x) (by simp[Op.operands])))
 .rename_i x;exact NOk.of (A0J h b j (a (x:=x) (by simp[Op.operands])) f)
 .rename_i t x k e;obtain⟨rfl,hu⟩:=LA h D b j (a (x:=x) (by simp[Op.operands])) (a (x:=k) (by simp[Op.operands])) (a (x:=e) (by simp[Op.operands])) f;exact NOk.ofU hu
 .rename_i t x k e;obtain⟨rfl,hu⟩:=LA h D b j (a (x:=x) (by simp[Op.operands])) (a (x:=k) (by simp[Op.operands])) (a (x:=e) (by simp[Op.operands])) f;exact NOk.ofU hu
 .rename_i xs tys;have l1:=eU (ρ:=ρ) (fr:=fr) (g:=g) (xs:=xs.toList) fun y C=>z y (by show y ∈ (#[]++xs:Array Operand).toList;simpa using C)
  split at b
  .rename_i x t rest i I;rw[i]at l1;obtain⟨x',r1,A,g1,g2⟩:=l1.tail;cases g2.nil_inv;have u:xs.map g=#[x']:=by apply K0;simpa using A
   have B:=NOk.of (A0Z (ty:=ty) (tys:=rest) h b g1 f);obtain⟨ks,q⟩:∃ ks,execOp g ⟨dst,.call ⟨.builtin .len,xs,tys⟩,ty,pos,E,G⟩=builtin .len tys ty ks (xs.map g):=⟨#[],rfl⟩;have F:tys=⟨t::rest⟩:=by rw[<- I]
   rw[q,u,F];exact B
  .cases b
 .cases b
def A5V{fr:Fr}{o:Oper}(a:xtM P fr m o=some (v,m')):m.lg.le m'.lg:=by
 unfold xtM at a;split at a
 .unfold TO at a;split at a
  .split at a
   .obtain⟨_,a⟩:=A3 a;cases a;exact .refl _
   .cases a
  .split at a
   .obtain⟨_,a⟩:=A3 a;cases a;exact .refl _
   .cases a
  .obtain⟨_,a⟩:=A3 a;split at a
   .split at a
    .rename_i m9;cases a;obtain⟨_,rfl⟩:=Y6 m9;exact .refl _
    .cases a
   .cases a
  .cases a
 .unfold RW at a;split at a
  .obtain⟨_,a⟩:=A3 a;split at a
   .cases a;exact .refl _
   .cases a;exact .refl _
   .cases a
  .cases a
 .split at a
  .unfold sdM at a;split at a
   .split at a
    .split at a
     .cases a;exact .refl _
     .cases a
    .cases a
   .cases a
  .cases a
 .split at a
  .unfold usM at a;split at a
   .obtain⟨_,a⟩:=A3 a;split at a
    .obtain⟨_,a⟩:=A3 a;split at a
     .rename_i b;split at a
      .rename_i hs;cases a;rw[fF hs];exact J1 b
      .cases a
     .cases a
    .cases a
   .cases a
  .cases a
 .exact A2T a
 .exact VN a
 .exact VE a
 .exact A0K a
 .exact LB a
 .exact LB a
 .split at a
  .exact A0a a
  .cases a
 .cases a
end
end
section
open Go
def fw(rd:Option Nat):Fence:={ Fence.wide with round:=rd }
def tQ{rd:Option Nat}{n:Nat}:(fw rd).depth.isSome=true->1<=n:=fun h=>by cases h
def rO{rd:Option Nat}{n:Nat}{P:Program}{f:FuncId}{args:c9}{w:World}{R:Ending->World->Prop}:CallsIn (fw rd) n P f args w R↔Calls P f args w R :=
 ⟨fun h=>callsIn_wide.1 (show CallsIn Fence.wide n P f args w R from h),fun h=>show CallsIn (fw rd) n P f args w R from(callsIn_wide (n:=n)).2 h⟩
section
variable {P:Program} {rd:Option Nat}
def wpO(P:Program)(rd:Option Nat)(o:Oper)(a:Act)(w:World)(K:Act->World->Prop)(Q:Exit->Act->World->Prop):Prop:=o.wpIn (fw rd) 0 P a w K Q
def JN{o:Oper}{a:Act}{w:World}{K f:Act->World->Prop}{Q:Exit->Act->World->Prop}(h:∀ a w,K a w->f a w)(hh:wpO P rd o a w K Q):wpO P rd o a w f Q:=by
 unfold wpO Oper.wpIn at *;refine⟨hh.1,?_⟩;have hh:=hh.2;generalize (o.semAt (fw rd).round a.eval).run P w=r at *;cases r with
 | ok n w' =>
   cases n<;>simp only[Oper.uponIn]at hh ⊢ <;>
    first
     | exact h _ _ hh
     | exact⟨hh.1,CallsIn.mono hh.2 (fun e b he=>by cases e<;>first|exact h _ _ he|exact he)⟩
     | exact⟨hh.1,RowsIn.mono hh.2 (fun _ _ he=>h _ _ he)⟩
     | exact⟨hh.1,RoundIn.mono hh.2 (fun e b he=>by cases e<;>first|exact h _ _ he|exact he)⟩
 | halt x w'=>cases x<;>simp only[Oper.uponIn]at hh ⊢<;>exact hh
def wpL(P:Program)(rd:Option Nat)(ops:Array Oper)(Q:Exit->Act->World->Prop):List Oper->Act->World->Prop
 | [],a,w=>Q .normal a w
 | o::rest,a,w=>if Region.wanted o (yielded ops a.tmps)then wpO P rd o a w (wpL P rd ops Q rest) Q else wpL P rd ops Q rest (a.put o.dst undef) w
def JO{ops:Array Oper}{Q:Exit->Act->World->Prop}{a:Act}{w:World}{rest:List Oper}{o:Oper}
  (h:∀ K:Act->World->Prop,(∀ a w,wpL P rd ops Q rest a w->K a w)->if Region.wanted o (yielded ops a.tmps)then wpO P rd o a w K Q else K (a.put o.dst undef) w):wpL P rd ops Q (o::rest) a w:=h _ fun _ _ h=>h
def QZ{ops:Array Oper}{Q:Exit->Act->World->Prop}:∀ (l:List Oper) (k:Nat),(∀ j,l[j]? = ops[k+j]?)->∀ a w,wpL P rd ops Q l a w->wpOpsIn (fw rd) 0 P ops Q (List.range' k l.length) a w
 | [],k,_,a,w,h=>h
 | o::l,k,hk,a,w,h=>by
   have e:ops[k]? = some o:=by simpa using(hk 0).symm
   have b:=QZ (Q:=Q) l (k+1) (fun j=>by have:=hk (j+1);simpa [dX,fM 1 j]using this);simp only[B2,List.range'_succ,wpOpsIn,e];unfold wpL at h;split
   .rename_i hw;rw[B0 hw]at h;exact JN b h
   .rename_i hw;rw[A9 hw]at h;exact⟨fun _ _=>trivial,b _ _ h⟩
def xF{id:Nat}{ops:Array Oper}{Q:Exit->Act->World->Prop}{a:Act}{w:World}(h:wpL P rd ops Q ops.toList a w):(Code.region id ops false).wpIn (fw rd) 0 P Q a w :=
 wpIn_region (by
  have:=QZ ops.toList 0 (by simp) a w h;rw[List.range_eq_range',<- U6];exact this)
def jU(P:Program)(rd:Option Nat)(ops:Array Oper)(Q:Exit->Act->World->Prop)(i:Nat)(K:Act->World->Prop)(a:Act)(w:World):Prop :=
 match ops[i]? with
 | none=>K a w
 | some o=>if Region.wanted o (yielded ops a.tmps)then wpO P rd o a w K Q else K (a.put o.dst undef) w
def OM{ops:Array Oper}{Q:Exit->Act->World->Prop}{i:Nat}{a:Act}{w:World}{K b:Act->World->Prop}(h:∀ a w,K a w->b a w)(hh:jU P rd ops Q i K a w):jU P rd ops Q i b a w:=by
 unfold jU at *;split
 .exact h _ _ (by simpa [*]using hh)
 .rename_i o e;simp only[e]at hh;split
  .rename_i hw;simp only[hw,if_true]at hh;exact JN h hh
  .rename_i hw;simp only[hw]at hh;exact h _ _ hh
def GI{ops:Array Oper}{Q:Exit->Act->World->Prop}{i:Nat}{rest:I7}{a:Act}{w:World}(h:jU P rd ops Q i (wpOpsIn (fw rd) 0 P ops Q rest) a w):wpOpsIn (fw rd) 0 P ops Q (i::rest) a w:=by
 unfold jU at h;simp only[wpOpsIn];split at h
 .rename_i b;simp only[b];exact h
 .rename_i o e;simp only[e];split at h
  .rename_i hw;rw[B0 hw];exact h
  .rename_i hw;rw[A9 hw];exact⟨fun _ _=>trivial,h⟩
def kU(P:Program)(rd:Option Nat)(md:Region.Mode)(ops:Array Oper)(Q:Exit->Act->World->Prop):Nat->Array Bool->Act->World->Prop
 | 0,listed,a,w=>Region.ready md ops listed=[]/\Q .normal a w
 | fuel+1,listed,a,w=>(Region.ready md ops listed=[]->Q .normal a w)/\∀ i ∈ Region.ready md ops listed,jU P rd ops Q i (kU P rd md ops Q fuel (listed.setIfInBounds i true)) a w
def GJ{md:Region.Mode}{ops:Array Oper}{Q:Exit->Act->World->Prop}:∀ (fuel t:Nat) (listed:Array Bool) (a:Act) (w:World),kU P rd md ops Q fuel listed a w->wpOpsIn (fw rd) 0 P ops Q (Region.linearise.go md ops fuel t listed []) a w:=by
 intro fuel;induction fuel with
 | zero=>intro t listed a w h;simpa [Region.linearise.go,wpOpsIn]using h.2
 | succ fuel g =>
   intro t listed a w h;obtain⟨j,f⟩:=h;simp only[Region.linearise.go];change wpOpsIn (fw rd) 0 P ops Q (match (Region.ready md ops listed)[t%(Region.ready md ops listed).length]? with
    | some i=>Region.linearise.go md ops fuel (t / (Region.ready md ops listed).length) (listed.setIfInBounds i true) [i]
    | none=>[].reverse) a w
   cases hi:(Region.ready md ops listed)[t%(Region.ready md ops listed).length]? with
   | none =>
     have b:Region.ready md ops listed=[]:=by
      cases hr:Region.ready md ops listed with
      | nil=>rfl
      | cons x xs =>
        rw[hr]at hi;have e:t%(x::xs).length<(x::xs).length:=rU _ (by simp);simp at hi;simp at e;omega
     simpa [wpOpsIn]using j b
   | some i =>
     simp only[];rw[linearise_go_acc,List.reverse_singleton,List.singleton_append];exact GI (OM (fun a w=>g _ _ a w) (f i (E6 hi)))
def mX{id:Nat}{ops:Array Oper}{Q:Exit->Act->World->Prop}{a:Act}{w:World}(hm:P.follows .mixedOrders=true)
  (h:kU P rd .any ops Q ops.size (Array.replicate ops.size false) a { w with drawn:=w.drawn+1 }):(Code.region id ops true).wpIn (fw rd) 0 P Q a w :=
 wpIn_region_draw fun t=>by
  simp only[Region.schedule,hm,Bool.true_or,if_true];exact GJ ops.size t _ a _ h
def bP{b:Frame}{a:Act}{k:List Item}{w:World} :step P (lone (b.atR a (.code (.scope c)::k)) cs w)=.next (lone (b.atR a (.code c::.inScope c::k)) cs w) :=
 step_lone_go (by simp[stepG,stepG.exec,Frame.atR])
def CU{b:Frame}{a:Act}{k:List Item}{w:World} :step P (lone (b.atR a (.inScope c::k)) cs w)=.next (lone (b.atR a k) cs w) :=
 step_lone_go (by simp[stepG,stepG.exec,Frame.atR])
def Exit.calm(Q:Exit->Act->World->Prop):Exit->Act->World->Prop
 | .goto _,_,_=>False
 | e,a,w=>Q e a w
def ON{F:Fence}{n:Nat}{Q:Exit->Act->World->Prop}{a:Act}{w:World}(h:c.wpIn F n P (Exit.calm Q) a w):(Code.scope c).wpIn F n P Q a w:=by
 intro b k cs s q hr;have o:(lone (b.atR a (.code (.scope c)::k)) cs w).fenced P F:=fenced_calm q hr rfl;obtain⟨e,g,i,j,f⟩:=h b (.inScope c::k) cs s q hr;cases e with
 | normal=>exact⟨.normal,g,i,j,.head o bP (StepsIn.trans f (.one (fenced_calm q hr rfl) CU))⟩
 | exit id =>
   have u:exitTo id (.inScope c::k)=exitTo id k:=rfl;exact⟨.exit id,g,i,j,fun k' t=>.head o bP (f.1 k' (by rw[u];exact t)),
    fun p t=>let ⟨k₁,x,z⟩:=f.2 p (by rw[u];exact t);⟨k₁,x,.head o bP z⟩⟩
 | goto l=>exact j.elim
 | ret=>exact⟨_,g,i,j,.of_steps (.one o bP) f⟩
 | panic A=>exact⟨_,g,i,j,.of_steps (.one o bP) f⟩
 | outgrown=>exact⟨_,g,i,j,.of_steps (.one o bP) f⟩
end
end
section
open Go
def pX(o:Op)(g:Operand->Value):Sem Value :=
 match o with
 | .move x|.assign x=>pure (g x)
 | .load t x=>Instr.loadAt t (g x)
 | .store t x y=>do Instr.storeAt t (g x) (g y);pure undef
 | _=>stuck "no such operation"
def vM(P:Program)(o:Oper)(s:Act×World):Option (Act×World) :=
 match (pX o.op s.1.eval).run P s.2 with
 | .ok v w'=>some (s.1.put o.dst v,w')
 | .halt _ _=>none
section
variable {P:Program} {rd:Option Nat}
def yO{o:Oper}{s t:Act×World}(h:vM P o s=some t):∃ v,(pX o.op s.1.eval).run P s.2=.ok v t.2/\t.1=s.1.put o.dst v:=by
 unfold vM at h;split at h
 .rename_i v w' hr;cases h;exact⟨v,hr,rfl⟩
 .cases h
def pS{o:Oper}{s:Act×World}(h:(pX o.op s.1.eval).run P s.2=.ok v w'):vM P o s=some (s.1.put o.dst v,w'):=by
 unfold vM;rw[h]
def WL{o:Oper}(a:IU o.op=true)(w:World)(g:Operand->Value):o.about P w g=none:=by
 unfold Oper.about;cases b:o.op<;>rw[b]at a<;>first|rfl|cases a
def RL{o:Oper}(a:IU o.op=true)(g:Operand->Value):∀ c,o.op≠.defer c:=fun c h=>by rw[h]at a;cases a
def A1y{o:Oper}(i:IU o.op=true){a a':Act}{w:World}{K:Act->World->Prop}{Q:Exit->Act->World->Prop}(h:vM P o (a,w)=some (a',w'))(j:K a' w'):wpO P rd o a w K Q:=by
 obtain⟨v,b,n⟩:=yO h;simp only at b n;subst n;unfold wpO Oper.wpIn;refine⟨fun f p=>(by rw[WL i]at p;cases p),?_⟩;rw[Oper.semAt_eq _ _ _ (RL i a.eval)];cases g:o.op<;>rw[g]at i b<;>first
  | cases i;done
  | skip
 .have e:(execOp a.eval o)=pure (.value (a.eval ‹Operand›)):=by unfold execOp;rw[g]
  rw[e];cases b;exact j
 .have e:(execOp a.eval o)=pure (.value (a.eval ‹Operand›)):=by unfold execOp;rw[g]
  rw[e];cases b;exact j
 .rename_i t x;have e:(execOp a.eval o)=(do pure (.value (<- Instr.loadAt t (a.eval x)))):=by unfold execOp;rw[g]
  have b:(Instr.loadAt t (a.eval x)).run P w=.ok v w':=b;rw[e];simp only[A5,b,Result.andThen,Sem.run_pure];exact j
 .rename_i t x y;have e:(execOp a.eval o)=(do Instr.storeAt t (a.eval x) (a.eval y);pure .skip):=by unfold execOp;rw[g]
  have b:(do Instr.storeAt t (a.eval x) (a.eval y);pure undef:Sem Value).run P w=.ok v w':=b;rw[e];simp only[A5]at b ⊢;cases hr:(Instr.storeAt t (a.eval x) (a.eval y)).run P w with
  | ok u w2=>rw[hr]at b;simp only[Result.andThen,Sem.run_pure]at b ⊢;cases b;exact j
  | halt x w2=>rw[hr]at b;cases b
def A2r{o:Oper}(f:IU o.op=true){a:Act}{w:World}{K:Act->World->Prop}{Q:Exit->Act->World->Prop}(g:∀ c a w,¬Q (.panic c) a w)(h:wpO P rd o a w K Q):∃ a' w',vM P o (a,w)=some (a',w')/\K a' w':=by
 unfold wpO Oper.wpIn at h;obtain⟨_,h⟩:=h;rw[Oper.semAt_eq _ _ _ (RL f a.eval)]at h;cases b:o.op<;>rw[b]at f<;>first
  | cases f;done
  | skip
 .rename_i x;have e:(execOp a.eval o)=pure (.value (a.eval x)):=by unfold execOp;rw[b]
  rw[e]at h;exact⟨_,_,pS (s:=(a,w)) (v:=a.eval x) (w':=w) (by rw[b];rfl),h⟩
 .rename_i x;have e:(execOp a.eval o)=pure (.value (a.eval x)):=by unfold execOp;rw[b]
  rw[e]at h;exact⟨_,_,pS (s:=(a,w)) (v:=a.eval x) (w':=w) (by rw[b];rfl),h⟩
 .rename_i t x;have e:(execOp a.eval o)=(do pure (.value (<- Instr.loadAt t (a.eval x)))):=by unfold execOp;rw[b]
  rw[e]at h;simp only[A5]at h;cases hr:(Instr.loadAt t (a.eval x)).run P w with
  | ok v w' =>
    rw[hr]at h;exact⟨_,_,pS (s:=(a,w)) (v:=v) (w':=w') (by rw[b];exact hr),h⟩
  | halt y w' =>
    rw[hr]at h;cases y<;>first|exact absurd h (g _ _ _)|exact h.elim
 .rename_i t x y;have e:(execOp a.eval o)=(do Instr.storeAt t (a.eval x) (a.eval y);pure .skip):=by unfold execOp;rw[b]
  rw[e]at h;simp only[A5]at h;cases hr:(Instr.storeAt t (a.eval x) (a.eval y)).run P w with
  | ok u w' =>
    rw[hr]at h;refine⟨_,_,pS (s:=(a,w)) (v:=undef) (w':=w') ?_,h⟩;rw[b];show(do Instr.storeAt t (a.eval x) (a.eval y);pure undef:Sem Value).run P w=_;simp only[A5,hr,Result.andThen,Sem.run_pure]
  | halt z w' =>
    rw[hr]at h;cases z<;>first|exact absurd h (g _ _ _)|exact h.elim
def ZM{a:Act}{e:Option Tmp}{u:Value}(h:∀ x y,d=some x->e=some y->x≠y):(a.put d v).put e u=(a.put e u).put d v:=by
 cases d with
 | none=>rfl
 | some x=>cases e with
   | none=>rfl
   | some y =>
     have b:=h x y rfl rfl;unfold Act.put;simp only;congr 1;exact Array.setIfInBounds_comm _ _ b
def kM{a:Act}{x:Operand}(h:∀ t,d=some t->t ∉ sO x):(a.put d v).eval x=a.eval x:=by
 cases x with
 | const c=>cases d<;>rfl
 | tmp t =>
   cases d with
   | none=>rfl
   | some y =>
     have:y≠t:=fun e=>h y rfl (by subst e;exact gZ.2 rfl)
     unfold Act.put Act.eval;simp only[B5];rw[Array.getElem?_setIfInBounds_ne this]
 | _=>cases d<;>rfl
variable [Ora]
def DI(P:Program)(w:World)(t:TypeId)(p:Value):Prop :=
 ∃ b o C T fz s g,p=.pointer (some ⟨b,o,none⟩)/\w.heap[b]? = some (.cells C T fz)/\I2 P t=some s/\cQ P t=some g/\o+s<=C.size/\o<C.size
def EQ{t:TypeId}{b o s:Nat}{C:c9}{T:TypeId}{g:Bool}(hs:I2 P t=some s)(n:cQ P t=some g)(x:o+s<=C.size)(u:o<C.size):∃ v,∀ w:World,w.heap[b]? = some (.cells C T fz)->(Instr.loadAt t (.pointer (some ⟨b,o,none⟩))).run P w=.ok v w:=by
 have a:∀ w:World,w.heap[b]? = some (.cells C T fz)->∀ j v,C[o+j]? = some v->w.cell? ⟨b,o+j,none⟩=some v:=fun w hw j v p=>by simp[World.cell?,hw,p]
 cases g with
 | true =>
   refine⟨.agg ⟨(C.toList.drop o).take s⟩,fun w hw=>?_⟩;have q:((C.toList.drop o).take s).length=s:=by rw[dS,K8,U6];omega
   have e:=L2 (P:=P) (w:=w) (b:=b) (o:=o) q (fun j v i=>by
    have f:j<s:=by have:=(B1.1 i).1;omega
    rw[G6 f,J2,R7]at i;exact a w hw j v i)
   unfold Instr.loadAt;simp[A5,Instr.sureAddr,loadVar,dU n,L7 hs,Result.andThen,e]
 | false =>
   refine⟨C[o],fun w hw=>?_⟩
   have:=a w hw 0 C[o] (by simp[u]);unfold Instr.loadAt;simp[A5,Instr.sureAddr,loadVar,dU n,Result.andThen,run_load,show w.cell? ⟨b,o,none⟩=some C[o]from by simpa using this]
def zD{b o:Nat}{T:TypeId}{fz:Nat×Nat}:∀ (vs:List Value) (i:Nat) (C:Array Value) (w w':World),w.heap[b]? = some (.cells C T fz)->o+i+vs.length<=C.size->(storeCells ⟨b,o,none⟩ vs i).run P w=.ok () w' ->
  (∀ k,k≠b->w'.heap[k]? = w.heap[k]?)/\∃ C',w'.heap[b]? = some (.cells C' T fz)/\C'.size=C.size
 | [],i,C,w,w',h,_,hr=>by cases hr;exact⟨fun _ _=>rfl,C,h,rfl⟩
 | v::r,i,C,w,w',h,hl,hr=>by
   simp only[B2]at hl;have f:o+i<C.size:=A0;have n:w.cell? ⟨b,o+i,none⟩=some C[o+i]:=by simp[World.cell?,h,f]
   have p:(w.setCell ⟨b,o+i,none⟩ v).heap[b]? = some (.cells (C.setIfInBounds (o+i) v) T fz):=by
    simp[World.setCell,I1,h]
   unfold storeCells at hr;simp only[A5,L2.add_none']at hr;have a:(store ⟨b,o+i,none⟩ v).run P w=.ok () (w.setCell ⟨b,o+i,none⟩ v)∨∃ x w2,(store ⟨b,o+i,none⟩ v).run P w=.halt x w2:=by
    unfold store;cases v<;>first
     | exact .inr ⟨_,_,rfl⟩
     | (simp only[Sem.run,n]
        split
        .exact .inr ⟨_,_,rfl⟩
        .exact .inl rfl)
   rcases a with a|⟨x,w2,a⟩
   .rw[a]at hr;simp only[Result.andThen]at hr;obtain⟨q,C',j,s⟩:=zD r (i+1) _ _ _ p (by simp;omega) hr;refine⟨fun k g=>?_,C',j,by rw[s];simp⟩;rw[q k g];simp only[World.setCell,I1];rw[A9 (fun e=>g e.symm)]
   .rw[a]at hr;cases hr
def GV{t:TypeId}{b o s:Nat}{C:c9}{T:TypeId}{y:Value}{w:World}(hs:I2 P t=some s)(hw:w.heap[b]? = some (.cells C T fz))(e:o+s<=C.size)(hr:(Instr.storeAt t (.pointer (some ⟨b,o,none⟩)) y).run P w=.ok () w') :
  (∀ k,k≠b->w'.heap[k]? = w.heap[k]?)/\∃ C',w'.heap[b]? = some (.cells C' T fz)/\C'.size=C.size:=by
 unfold Instr.storeAt at hr;simp only[A5,Instr.sureAddr,storeVar,L7 hs,Result.andThen,Sem.run_pure]at hr;by_cases a:y.cells.size≠s
 .rw[B0 a]at hr;cases hr
 .rw[A9 a]at hr;have a:=Q6.1 a;exact zD y.cells.toList 0 C w w' hw (by rw[U6,a];omega) hr
structure OK (P:Program) (ops:List Oper) (s:Act×World):Prop where
 pl:∀ o ∈ ops,∀ t x,oN o.op=some (t,x)->DI P s.2 t (s.1.eval x)
 ap:∀ i j a b,i<j->ops[i]? = some a->ops[j]? = some b->uB b i=false->(iR a.op || iR b.op)=true->∀ t x u y,oN a.op=some (t,x)->oN b.op=some (u,y)->∀ p q,s.1.eval x=.pointer (some p)->s.1.eval y=.pointer (some q)->p.block≠q.block
def AR{b:Nat}:bY l b=true↔b ∈ l:=by
 unfold bY;rw[W1];constructor
 .rintro⟨x,h,e⟩;have:=A1 e;subst this;exact h
 .intro h;exact⟨b,h,fL b⟩
def LM{a:List Tmp}:∀ {l:List Oper} {k i:Nat} {o:Oper},A0D a k l=true->l[i]? = some o->A5q a (k+i) o=true
 | [],k,i,o,_,h=>by simp at h
 | p::l,k,0,o,h,hi=>by
   simp at hi;subst hi;exact(B3 h).1
 | p::l,k,i+1,o,h,hi=>by
   have:=LM (l:=l) (k:=k+1) (i:=i) (o:=o) (B3 h).2 (by simpa using hi);rw[show k+(i+1)=k+1+i by omega];exact this
structure One (ops:List Oper) (i:Nat) (o:Oper):Prop where
 cls:IU o.op=true
 grd:o.guard=none
 ads:∀ p ∈ ops,∀ t x,oN p.op=some (t,x)->∀ d,o.dst=some d->d ∉ sO x
 lt:∀ e ∈ o.after,Region.binds .any e=true->e.on<i
def pC{ops:List Oper}(h:nI ops=true){i:Nat}{o:Oper}(hi:ops[i]? = some o):One ops i o:=by
 have a:=LM (B3 h).1 hi;rw[F9]at a;unfold A5q at a;obtain⟨n,a⟩:=B3 a;obtain⟨a2,a⟩:=B3 a;obtain⟨a3,a4⟩:=B3 a;refine⟨n,?_,fun p hp t x q d j hm=>?_,fun e he b=>?_⟩
 .cases f:o.guard with
  | none=>rfl
  | some g=>rw[f]at a2;cases a2
 .have:bY (A1m ops) d=true:=AR.2 (List.mem_flatMap.2 ⟨p,hp,by rw[q];exact hm⟩);unfold EF at a3;rw[j]at a3;simp only at a3;rw[this]at a3;cases a3
 .have:=hU.1 a4 e he;rw[b]at this;exact A2 this
def KS{p:Oper->Oper->Bool}{ops:List Oper}(h:HI p ops=true){i j:Nat}{a b:Oper}(f:i<j)(hi:ops[i]? = some a)(g:ops[j]? = some b)(he:uB b i=false):p a b=true:=by
 unfold HI at h;have e:=(B1.1 g).1
 have:=E8.1 (E8.1 h j (dB.2 e)) i (dB.2 f);rw[hi,g]at this;simp only[he,Z3]at this;exact this
def KW{o:Oper}{a:Act}(b:∀ t,d=some t->t ∉ ZJ o.op)(f:IU o.op=true):pX o.op (a.put d v).eval=pX o.op a.eval:=by
 cases g:o.op<;>rw[g]at f b<;>first
  | cases f;done
  | skip
 .unfold pX;simp only;rw[kM b]
 .unfold pX;simp only;rw[kM b]
 .unfold pX;simp only;rw[kM b]
 .unfold pX;simp only;rw[kM (fun t e hm=>b t e (B7.2 (.inl hm))),kM (fun t e hm=>b t e (B7.2 (.inr hm)))]
def yD{o:Oper}{s:Act×World}(e:IU o.op=true)(a:iR o.op=false)(hp:∀ t x,oN o.op=some (t,x)->DI P s.2 t (s.1.eval x))(h:(pX o.op s.1.eval).run P s.2=.ok v w'):w'=s.2:=by
 cases p:o.op<;>rw[p]at e a h hp<;>first
  | cases e;done
  | cases a;done
  | skip
 .cases h;rfl
 .cases h;rfl
 .rename_i t x;obtain⟨b,o',C,T,fz,sz,g,q,n,i,z,f,j⟩:=hp t x rfl;obtain⟨u,hu⟩:=EQ (P:=P) (T:=T) (fz:=fz) i z f j;have h:(Instr.loadAt t (s.1.eval x)).run P s.2=.ok v w':=h;rw[q,hu s.2 n]at h;cases h;rfl
def zC{o:Oper}{s:Act×World}(a:iR o.op=true)(hp:∀ t x,oN o.op=some (t,x)->DI P s.2 t (s.1.eval x))(h:(pX o.op s.1.eval).run P s.2=.ok v w') :
  ∃ t x b o' C T fz,oN o.op=some (t,x)/\s.1.eval x=.pointer (some ⟨b,o',none⟩)/\s.2.heap[b]? = some (.cells C T fz)/\(∀ k,k≠b->w'.heap[k]? = s.2.heap[k]?)/\∃ C',w'.heap[b]? = some (.cells C' T fz)/\C'.size=C.size:=by
 cases p:o.op<;>rw[p]at a h hp<;>first
  | cases a;done
  | skip
 rename_i t x y;obtain⟨b,o',C,T,fz,sz,g,f,e,n,B,i,A⟩:=hp t x rfl;have h:(do Instr.storeAt t (s.1.eval x) (s.1.eval y);pure undef:Sem Value).run P s.2=.ok v w':=h;simp only[A5]at h;cases hr:(Instr.storeAt t (s.1.eval x) (s.1.eval y)).run P s.2 with
 | ok u w2 =>
   rw[hr]at h;simp only[Result.andThen,Sem.run_pure]at h;cases h;rw[f]at hr;obtain⟨q,j⟩:=GV n e i hr;exact⟨t,x,b,o',C,T,fz,rfl,f,e,q,j⟩
 | halt z w2=>rw[hr]at h;cases h
def DI.keep{w:World}{t:TypeId}{p:Value}(h:DI P w t p)(n:∀ (b:Nat) (C:Array Value) (T:TypeId) (fz:Nat×Nat),w.heap[b]? = some (.cells C T fz)->∃ C',w'.heap[b]? = some (.cells C' T fz)/\C'.size=C.size):DI P w' t p:=by
 obtain⟨b,o,C,T,fz,s,g,i,f,e,j,q,u⟩:=h;obtain⟨C',a,x⟩:=n b C T fz f;exact⟨b,o,C',T,fz,s,g,i,a,e,j,A0,A0⟩
def OK.step{ops:List Oper}{s E:Act×World}{i:Nat}{o:Oper}(hr:nI ops=true)(D:OK P ops s)(hi:ops[i]? = some o)(h:vM P o s=some E):OK P ops E:=by
 obtain⟨v,G,Q⟩:=yO h;have J:=pC hr hi;have f:=E6 hi;have n:∀ p ∈ ops,∀ t x,oN p.op=some (t,x)->E.1.eval x=s.1.eval x:=fun p hp t x g=>by rw[Q];exact kM (J.ads p hp t x g)
 have V:∀ (b:Nat) (C:Array Value) (T:TypeId) (fz:Nat×Nat),s.2.heap[b]? = some (.cells C T fz)->∃ C',E.2.heap[b]? = some (.cells C' T fz)/\C'.size=C.size:=fun b C T fz B=>by
  cases z:iR o.op with
  | false=>rw[yD J.cls z (fun t x g=>D.pl o f t x g) G];exact⟨C,B,rfl⟩
  | true =>
    obtain⟨t,x,b',o',C0,Y,W,e1,Z,N,S,C',M,O⟩:=zC z (fun t x g=>D.pl o f t x g) G;by_cases e:b=b'
    .subst e;rw[N]at B;cases B;exact⟨C',M,O⟩
    .exact⟨C,by rw[S b e];exact B,rfl⟩
 refine⟨fun p hp t x g=>by rw[n p hp t x g];exact(D.pl p hp t x g).keep V,fun i j a b F h3 H X R t x u y L K p q I A=>?_⟩;rw[n a (E6 h3) t x L]at I;rw[n b (E6 H) u y K]at A;exact D.ap i j a b F h3 H X R t x u y L K p q I A
def A1C{ops:List Oper}{s s1 s2:Act×World}{i j:Nat}{a b:Oper}(hr:nI ops=true)(N:OK P ops s)(F:i<j)(hi:ops[i]? = some a)(M:ops[j]? = some b)(he:uB b i=false)(h1:vM P a s=some s1)(h2:vM P b s1=some s2):∃ t,vM P b s=some t/\vM P a t=some s2:=by
 have Y:=pC hr hi;have O:=pC hr M;have ma:=E6 hi;have mb:=E6 M;have f:=KS (B3 hr).2 F hi M he;unfold A60 at f;obtain⟨i1,f⟩:=B3 f;obtain⟨i2,f⟩:=B3 f;obtain⟨i3,i4⟩:=B3 f;have Q:∀ t,a.dst=some t->t ∉ ZJ b.op:=fun t S hm=>by
  unfold EF at i2;rw[S]at i2;simp only at i2;rw[AR.2 hm]at i2;cases i2
 have X:∀ t,b.dst=some t->t ∉ ZJ a.op:=fun t S hm=>by
  unfold EF at i3;rw[S]at i3;simp only at i3;rw[AR.2 hm]at i3;cases i3
 have Z:∀ x y,a.dst=some x->b.dst=some y->x≠y:=fun x y n hy e=>by
  rw[n,hy]at i1;simp only at i1;subst e;rw[fL]at i1;cases i1
 obtain⟨v,K,e2⟩:=yO h1;obtain⟨u,D,e4⟩:=yO h2;obtain⟨a1,w1⟩:=s1;obtain⟨a2,w2⟩:=s2;obtain⟨a0,w0⟩:=s;simp only at K e2 D e4;subst e2;subst e4;rw[KW Q O.cls]at D;suffices hh:∃ w',(pX b.op a0.eval).run P w0=.ok u w'/\(pX a.op a0.eval).run P w'=.ok v w2 by
  obtain⟨w',q1,q2⟩:=hh;refine⟨(a0.put b.dst u,w'),pS (s:=(a0,w0)) q1,?_⟩
  have:=pS (P:=P) (o:=a) (s:=(a0.put b.dst u,w')) (v:=v) (w':=w2) (by show(pX a.op (a0.put b.dst u).eval).run P w'=_;rw[KW X Y.cls];exact q2);rw[this];simp only;rw[ZM Z]
 have H:∀ t x,oN a.op=some (t,x)->DI P w0 t (a0.eval x):=fun t x n=>N.pl a ma t x n
 have B:∀ t x,oN b.op=some (t,x)->DI P w0 t (a0.eval x):=fun t x n=>N.pl b mb t x n
 have q:∀ {o:Oper} {w w':World} {r:Value},IU o.op=true->iR o.op=false->(∀ t x,oN o.op=some (t,x)->∃ p A C T fz s g,a0.eval x=.pointer (some ⟨p,A,none⟩)/\w.heap[p]? = some (.cells C T fz)/\w'.heap[p]? = some (.cells C T fz)/\I2 P t=some s/\cQ P t=some g/\A+s<=C.size/\A<C.size)->(pX o.op a0.eval).run P w=.ok r w->(pX o.op a0.eval).run P w'=.ok r w':=fun{o w w' r} hc L hp h=>by
  cases ho:o.op<;>rw[ho]at hc L h hp<;>first
   | cases hc;done
   | cases L;done
   | skip
  .cases h;rfl
  .cases h;rfl
  .rename_i t x;obtain⟨p,A,C,T,fz,sz,g,f1,f2,f3,f4,f5,f6,f7⟩:=hp t x rfl;obtain⟨z,hz⟩:=EQ (P:=P) (T:=T) (fz:=fz) f4 f5 f6 f7;have h:(Instr.loadAt t (a0.eval x)).run P w=.ok r w:=h;show(Instr.loadAt t (a0.eval x)).run P w'=.ok r w';rw[f1,hz w f2]at h;rw[f1,hz w' f3];cases h;rfl
 cases I:iR a.op with
 | false =>
   have hw:w1=w0:=yD (s:=(a0,w0)) Y.cls I H K;subst hw;refine⟨w2,D,?_⟩;refine q Y.cls I (fun t x n=>?_) K;obtain⟨p,A,C,T,fz,sz,g,f1,f2,f3,f4,f5,f6⟩:=H t x n;cases G:iR b.op with
   | false =>
     have R:w2=w1:=yD (s:=(a0,w1)) O.cls G B D;subst R;exact⟨p,A,C,T,fz,sz,g,f1,f2,f2,f3,f4,f5,f6⟩
   | true =>
     obtain⟨V,x',b',o',C0,T0,az,g1,g2,g3,g4,_⟩:=zC (s:=(a0,w1)) G B D;have E:=N.ap i j a b F hi M he (by rw[I,G];rfl) t x V x' n g1 _ _ f1 g2;exact⟨p,A,C,T,fz,sz,g,f1,f2,(g4 p E).trans f2,f3,f4,f5,f6⟩
 | true =>
   have G:iR b.op=false:=by
    cases h:iR b.op with
    | false=>rfl
    | true=>rw[I,h]at i4;cases i4
   obtain⟨V,x',b',o',C0,T0,az,g1,g2,g3,g4,C1,g5,g6⟩:=zC (s:=(a0,w0)) I H K;have J:∀ t x,oN b.op=some (t,x)->DI P w1 t (a0.eval x):=fun t x n=>(B t x n).keep fun b C T fz W=>by
    by_cases e:b=b'
    .subst e;rw[g3]at W;cases W;exact⟨C1,g5,g6⟩
    .exact⟨C,by rw[g4 b e];exact W,rfl⟩
   have hw:w2=w1:=yD (s:=(a0,w1)) O.cls G J D;subst hw;refine⟨w0,?_,K⟩;refine q O.cls G (fun t x n=>?_) D;obtain⟨p,A,C,T,fz,sz,g,f1,f2,f3,f4,f5,f6⟩:=B t x n;have E:=N.ap i j a b F hi M he (by rw[I,G];rfl) V x' t x g1 n _ _ g2 f1;exact⟨p,A,C,T,fz,sz,g,f1,(g4 p (fun e=>E e.symm)).trans f2,f2,f3,f4,f5,f6⟩
def HB(P:Program)(ops:List Oper):I7->Act×World->Option (Act×World)
 | [],s=>some s
 | i::l,s=>match ops[i]? with
   | some o=>match vM P o s with
     | some s=>HB P ops l s
     | none=>none
   | none=>HB P ops l s
def qW{ops:List Oper}(hr:nI ops=true){j:Nat}{b:Oper}(g:ops[j]? = some b){l2:I7}{r:Act×World}:∀ (l1:List Nat) (s:Act×World),OK P ops s->(∀ i ∈ l1,i<j/\uB b i=false)->HB P ops (l1++j::l2) s=some r->∃ s1,vM P b s=some s1/\HB P ops (l1++l2) s1=some r
 | [],s,hg,_,h=>by
   simp only[R1,HB,g]at h;split at h
   .rename_i s1 f;exact⟨s1,f,h⟩
   .cases h
 | i::l1,s,hg,hl,h=>by
   obtain⟨u,he⟩:=hl i B6;have e:∀ i ∈ l1,i<j/\uB b i=false:=fun k q=>hl k (D1 _ q)
   simp only[aF,HB]at h ⊢;cases hi:ops[i]? with
   | none =>
     rw[hi]at h;exact qW hr g l1 s hg e h
   | some a =>
     rw[hi]at h;simp only at h ⊢;split at h
     .rename_i p f;obtain⟨s1,o,n⟩:=qW hr g l1 p (hg.step hr hi f) e h;obtain⟨t,t1,t2⟩:=A1C hr hg u hi g he f o;exact⟨t,t1,by rw[t2];exact n⟩
     .cases h
def mT(n:Nat)(listed:Array Bool):I7:=(List.range n).filter fun i=>!listed.getD i true
def tA{n:Nat}{i:Nat}:i ∈ mT n listed↔i<n/\listed.getD i true=false:=by
 unfold mT;rw[U3,dB];simp
def HG(n:Nat)(listed:Array Bool):(mT n listed).Pairwise (· < ·):=List.Pairwise.filter _ List.pairwise_lt_range
def ZI{n:Nat}{i:Nat}(hi:i<listed.size)(h:mT n listed=l1++i::l2):mT n (listed.setIfInBounds i true)=l1++l2:=by
 have hp:=HG n listed;rw[h]at hp;have b:∀ k ∈ l1++l2,(k != i)=true:=fun k a=>by
  have hp:=List.pairwise_append.1 hp;rcases B7.1 a with a|a
  .have:=hp.2.2 k a i B6;simp;omega
  .have:=(List.pairwise_cons.1 hp.2.1).1 k a;simp;omega
 have e:mT n (listed.setIfInBounds i true)=(mT n listed).filter fun k=>k != i:=by
  unfold mT;rw[List.filter_filter];apply List.filter_congr;intro k _;simp only[B5,G5];by_cases e:i=k
  .subst e;simp[hi]
  .simp[e,Ne.symm e]
 rw[e,h,List.filter_append,List.filter_cons];have f:(i != i)=false:=by simp
 rw[f];simp only[K5,if_false];rw[fC.2 fun k a=>b k (B7.2 (.inl a)),fC.2 fun k a=>b k (B7.2 (.inr a))]
def EL{ops:Array Oper}(hr:nI ops.toList=true){Q:Exit->Act->World->Prop}:∀ (fuel:Nat) (listed:Array Bool) (a:Act) (w:World) (r:Act×World),listed.size=ops.size->OK P ops.toList (a,w)->(mT ops.size listed).length=fuel->HB P ops.toList (mT ops.size listed) (a,w)=some r->Q .normal r.1 r.2->kU P rd .any ops Q fuel listed a w
 | 0,listed,a,w,r,hsz,hg,hl,h,hq=>by
   have J:=H3.1 hl;rw[J]at h;cases h;refine⟨?_,hq⟩;rw[dT];intro i hi;have:i ∈ mT ops.size listed:=by
    unfold Region.ready at hi;rw[U3]at hi;unfold mT;rw[U3];exact⟨hi.1,(B3 hi.2).1⟩
   rw[J]at this;cases this
 | fuel+1,listed,a,w,r,hsz,hg,hl,h,hq=>by
   have j:∀ {i:Nat},i<ops.size->∃ o,ops.toList[i]? = some o/\ops[i]? = some o:=fun{i} hi=>⟨ops[i],by simp[hi],by simp[hi]⟩
   refine⟨fun N=>?_,fun i hi=>?_⟩
   ·
    cases g:mT ops.size listed with
    | nil=>rw[g]at hl;cases hl
    | cons i t =>
      exfalso;have D:i ∈ mT ops.size listed:=by rw[g];exact B6
      obtain⟨i1,i2⟩:=tA.1 D;obtain⟨o,s,A⟩:=j i1;have z:=pC hr s;have f:=HG ops.size listed;rw[g]at f;have x:∀ k,k<i->listed.getD k false=true:=fun k G=>by
       have q:k<listed.size:=A0;cases H:listed.getD k true with
       | true=>rw[<- H];simp[B5,q]
       | false =>
         have:k ∈ mT ops.size listed:=tA.2 ⟨A0,H⟩;rw[g]at this;rcases C4.1 this with e|hm
         .omega
         .have:=(List.pairwise_cons.1 f).1 k hm;omega
      have:i ∈ Region.ready .any ops listed:=by
       unfold Region.ready;rw[U3,dB];refine⟨i1,?_⟩;rw[i2,A];simp only[Bool.not_false,Bool.true_and,M1,kT];rw[hU];intro e he;cases K:Region.binds .any e with
       | false=>rfl
       | true=>rw[x e.on (z.lt e he K)];rfl
      rw[N]at this;cases this
   .have hi':=hi;unfold Region.ready at hi;rw[U3,dB]at hi;obtain⟨i1,i2⟩:=hi;obtain⟨o,s,A⟩:=j i1;have z:=pC hr s;rw[A]at i2;obtain⟨i2,i3⟩:=B3 i2;simp only[M1,kT]at i3;have C:listed.getD i true=false:=by simpa using i2
    have u:i ∈ mT ops.size listed:=tA.2 ⟨i1,C⟩;obtain⟨l1,l2,b⟩:=List.append_of_mem u;have f:=HG ops.size listed;rw[b]at f;have E:∀ k ∈ l1,k<i/\uB o k=false:=fun k G=>by
     refine⟨(List.pairwise_append.1 f).2.2 k G i B6,?_⟩;cases he:uB o k with
     | false=>rfl
     | true =>
       exfalso;unfold uB at he;rw[Array.any_eq_true']at he;obtain⟨e,hm,he⟩:=he;obtain⟨M,F⟩:=B3 he;have F:=A1 F
       have:=(hU.1 i3) e hm;rw[M,F]at this;simp only[S5,Z3]at this;have q:=(tA (n:=ops.size) (listed:=listed) (i:=k)).1 (by rw[b];exact B7.2 (.inl G));have B:k<listed.size:=A0;have p:=q.2;simp[B5,B]at this p;rw[this]at p;cases p
    rw[b]at h;obtain⟨s1,I,L⟩:=qW hr s l1 (a,w) hg E h;have m9:=ZI (n:=ops.size) (listed:=listed) (i:=i) (l1:=l1) (l2:=l2) A0 b;obtain⟨O,w1⟩:=s1;unfold jU;rw[A];simp only;have hw:Region.wanted o (yielded ops a.tmps)=true:=by unfold Region.wanted;rw[z.grd]
    rw[B0 hw];refine A1y z.cls I (EL hr fuel (listed.setIfInBounds i true) O w1 r (by simpa using hsz) (hg.step hr s I) ?_ (by rw[m9];exact L) hq);rw[m9];have:(l1++i::l2).length=fuel+1:=by rw[<- b];exact hl
    simp at this ⊢;omega
def DY{ops:Array Oper}(hr:nI ops.toList=true){Q:Exit->Act->World->Prop}:∀ (d k:Nat) (a:Act) (w:World),k+d=ops.size->wpL P rd ops (fun e a' w'=>e=.normal/\Q e a' w') (ops.toList.drop k) a w->∃ r,HB P ops.toList (List.range' k d) (a,w)=some r/\Q .normal r.1 r.2
 | 0,k,a,w,hk,h=>by
   have:ops.toList.drop k=[]:=List.drop_eq_nil_of_le (by simp;omega);rw[this]at h;exact⟨(a,w),rfl,h.2⟩
 | d+1,k,a,w,hk,h=>by
   have b:k<ops.toList.length:=by simp;omega
   rw[aG b]at h;have f:=pC hr (A6 b);unfold wpL at h;have hw:Region.wanted ops.toList[k] (yielded ops a.tmps)=true:=by unfold Region.wanted;rw[f.grd]
   rw[B0 hw]at h;obtain⟨a',w',i,j⟩:=A2r f.cls (fun c a w hh=>by cases hh.1) h;obtain⟨r,r1,g⟩:=DY hr d (k+1) a' w' A0 j;refine⟨r,?_,g⟩;rw[List.range'_succ];simp only[HB,A6 b,i];exact r1
def A1_{ops:Array Oper}(hr:nI ops.toList=true){Q:Exit->Act->World->Prop}{a:Act}{w:World}(f:∀ w',w'.heap=w.heap->OK P ops.toList (a,w'))(h:∀ d,wpL P rd ops (fun e a' w'=>e=.normal/\Q e a' w') ops.toList a { w with drawn:=d })(d:Nat):kU P rd .any ops Q ops.size (Array.replicate ops.size false) a { w with drawn:=d }:=by
 obtain⟨r,r1,b⟩:=DY hr ops.size 0 a { w with drawn:=d } A0 (by simpa using h d);have e:mT ops.size (Array.replicate ops.size false)=List.range' 0 ops.size:=by
  unfold mT;rw[List.range_eq_range',fC];intro i hi;have:i<ops.size:=by have:=List.mem_range'.1 hi;omega
  simp[B5,this]
 exact EL hr ops.size _ a _ r (by simp) (f _ rfl) (by rw[e];simp) (by rw[e];exact r1) b
end
end
end Go.Sx
