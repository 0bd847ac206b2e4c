import Derived.Test.YtbbicpheoakeeaaGreatDoorX4
import Derived.MapKept
import Derived.WideKeyRuns
import Derived.Lib.Builder
import Derived.LoopNIn
import Derived.RangeFuncRecord
set_option linter.all false
set_option maxRecDepth 100000
set_option maxHeartbeats 4000000
namespace Go.Sx
variable {ks l ts:G5}{k' v v' x':Value}{cs:List Frame}{k:Nat}{y:MTy}{d:Option Tmp}{kt pt ty:TypeId}{r us vs:List U}{rows rs:List (List U)}{es es':Array MapEntry}{hs xs:C8}{c:Code}{e':MapEntry}{tys:List TypeId}{w':World}{fz:Nat×Nat}{listed:Array Bool}
section
open Go
variable [Ora]
section
variable {P:Program} {base:Nat} {ρ:Ren} {m m':Mem} {w:World}
def rX:∀ {ts:G5} {cs cs':C8},xG ts cs=true->(∀ t ∈ ts,t<10)->LR ρ cs cs'->(cs.map (D3 Ora.env)).map F7=ts/\cs'=(cs.map (D3 Ora.env)).map R2
 | [],[],cs',_,_,hl=>by cases hl.nil_inv;exact⟨rfl,rfl⟩
 | t::ts,v::vs,cs',h,ht,hl=>by
   obtain⟨h1,f⟩:=B4 (show(Nat.beq (G1 v) t && xG ts vs)=true from h);have h1:=A0 h1;obtain⟨v',r,rfl,g1,g2⟩:=hl.tail;obtain⟨a,b⟩:=rX f (fun x hx=>ht x (B8 _ hx)) g2;obtain⟨c,d⟩:=r9 g1 (by rw[h1];exact ht t B2);have e:R2 (D3 Ora.env v)=v':=by unfold R2;rw[c];rfl
   exact⟨by rw[C3,C3,a,d,h1],by rw[C3,C3,e,<- b]⟩
 | [],_::_,_,h,_,_=>by cases h
 | _::_,[],_,h,_,_=>by cases h
def iG{a:Bool}{cs:C8}(h:mL a ts v=some cs)(f:∀ t ∈ ts,t<10)(hv:VR ρ v v'):v'=W4 a (cs.map (D3 Ora.env))/\(cs.map (D3 Ora.env)).map F7=ts:=by
 unfold mL at h;split at h
 .rename_i c;obtain⟨h1,h⟩:=A3 h;cases h;obtain⟨cs',rfl,g⟩:=U5 hv;obtain⟨b,e⟩:=rX h1 f g;exact⟨by rw[e];rfl,b⟩
 .cases h
 .obtain⟨h1,h⟩:=A3 h;cases h;obtain⟨b,e⟩:=rX h1 f (LR.cons hv LR.nil);refine⟨?_,b⟩
  have:=F0 List.head? e
  simpa [W4]using this
def vI{t:Nat}(h:eS P t=some k):k<10:=by
 unfold eS at h;split at h
 .cases h;decide
 .cases h;have:=K7 ‹_›;omega
 .cases h;decide
 .cases h
def IL:∀ {g:List Field} {i:Nat} {l:G5},tC P g i=some l->∀ t ∈ l,t<10
 | [],i,l,h,t,e=>by cases h;cases e
 | f::g,i,l,h,t,e=>by
   unfold tC at h;split at h
   .rename_i a b h1 j;obtain⟨_,h⟩:=A3 h;cases h;rcases B3.1 e with rfl|e
    .exact vI h1
    .exact IL j t e
   .cases h
def CY{T:TypeId}(h:SA P T=some y):P.underlying T=some (.map y.kt y.vt)/\mV P y.kt=some (y.ka,y.ks)/\NH P y.vt=some (y.va,y.vs)/\0<y.ks.length/\(∀ t ∈ y.ks,t<10)/\(∀ t ∈ y.vs,t<10)/\(y.va=false->y.vs.length=1):=by
 unfold SA at h;split at h
 .rename_i kt vt hu;split at h
  .rename_i ka k ks va vs h1 a;cases h;refine⟨hu,h1,a,Nat.succ_pos _,?_,?_,?_⟩
   .intro t e;unfold mV at h1;split at h1
    .cases hs:P.stoodInHeld kt with
     | true=>rw[hs]at h1;cases h1
     | false =>
       rw[hs]at h1;simp only[D4]at h1;split at h1
       .rename_i l g;cases h1;exact IL g t e
       .cases h1
    .split at h1
     .rename_i z f;cases h1;simp only[B3,L4,or_false]at e;subst e;exact vI f
     .cases h1
   .intro t e;unfold NH at a;split at a
    .obtain⟨h3,a⟩:=A3 a;cases a;exact A1 (D0.1 h3 t e)
    .obtain⟨h3,a⟩:=A3 a;cases a;simp only[B3,L4,or_false]at e;subst e;exact A1 h3
    .cases a
   .intro b;have b:va=false:=b;subst b;unfold NH at a;split at a
    .obtain⟨_,a⟩:=A3 a;cases a
    .obtain⟨_,a⟩:=A3 a;cases a;rfl
    .cases a
  .cases h
 .cases h
def NR{t:TypeId}{u v:U}(h:eS P t=some k)(h1:F7 u=k)(f:F7 v=k)(n:Nat)(w:World):(Op.equalIn (n+1) t (R2 u) (R2 v)).run P w=.ok (isU u v) w:=by
 have o:=vI h;unfold eS at h;split at h
 .rename_i hu;cases h;cases u<;>simp only[F7]at h1<;>first|omega|skip
  .have:=K7 ‹_›;omega
  .cases v<;>simp only[F7]at f<;>first|omega|skip
   .have:=K7 ‹_›;omega
   .simp[R2,toV,isU,eqU,Op.equalIn,A4,C7 hu,Result.andThen]
 .rename_i j hu;cases h;cases u with
  | int a x =>
    cases v with
    | int b z =>
      have i:=pM h1;have g:=pM f;subst i;subst g;simp[R2,toV,isU,eqU,Op.equalIn,A4,C7 hu,Result.andThen]
    | bool b=>simp only[F7]at f;have:=K7 j;omega
    | str s=>simp only[F7]at f;have:=K7 j;omega
    | seq _ _ _=>simp only[F7]at f;omega
    | none=>simp only[F7]at f;omega
  | bool b=>simp only[F7]at h1;have:=K7 j;omega
  | str s=>simp only[F7]at h1;have:=K7 j;omega
  | seq _ _ _=>simp only[F7]at h1;omega
  | none=>simp only[F7]at h1;omega
 .rename_i hu;cases h;cases u<;>simp only[F7]at h1<;>first|omega|skip
  .have:=K7 ‹_›;omega
  .cases v<;>simp only[F7]at f<;>first|omega|skip
   .have:=K7 ‹_›;omega
   .rename_i p q
    have:=run_equalIn_string (P:=P) w n t ⟨⟨p⟩⟩ ⟨⟨q⟩⟩ hu;have e:∀ s:List UInt8,R2 (.str s)=.string ⟨⟨s⟩⟩:=fun _=>rfl
    rw[e,e,this];simp[isU,eqU,ByteArray.toList_eq]
 .cases h
def UF{t:TypeId}{d:TypeDesc}{u v:U}(g:P.underlying t=some d)(h:eS P t=some k)(h1:F7 u=k)(f:F7 v=k):Instr.sameNow d (R2 u) (R2 v)=some (isU u v):=by
 unfold eS at h;split at h
 .rename_i hu;rw[hu]at g;cases g;cases h;cases u<;>simp only[F7]at h1<;>first|omega|skip
  .have:=K7 ‹_›;omega
  .cases v<;>simp only[F7]at f<;>first|omega|skip
   .have:=K7 ‹_›;omega
   .simp[R2,toV,isU,eqU,Instr.sameNow]
 .rename_i j hu;rw[hu]at g;cases g;cases h;cases u with
  | int a x =>
    cases v with
    | int b z =>
      have n:=pM h1;have i:=pM f;subst n;subst i;simp[R2,toV,isU,eqU,Instr.sameNow]
    | bool b=>simp only[F7]at f;have:=K7 j;omega
    | str s=>simp only[F7]at f;have:=K7 j;omega
    | seq _ _ _=>simp only[F7]at f;have:=K7 j;omega
    | none=>simp only[F7]at f;have:=K7 j;omega
  | bool b=>simp only[F7]at h1;have:=K7 j;omega
  | str s=>simp only[F7]at h1;have:=K7 j;omega
  | seq _ _ _=>simp only[F7]at h1;have:=K7 j;omega
  | none=>simp only[F7]at h1;have:=K7 j;omega
 .rename_i hu;rw[hu]at g;cases g;cases h;cases u<;>simp only[F7]at h1<;>first|omega|skip
  .have:=K7 ‹_›;omega
  .cases v<;>simp only[F7]at f<;>first|omega|skip
   .have:=K7 ‹_›;omega
   .rename_i p q;have e:(ByteArray.mk ⟨p⟩ == ByteArray.mk ⟨q⟩)=(p == q):=by
     show(Array.mk p == Array.mk q)=_;rw[J3,beq_iff_eq,beq_iff_eq];exact⟨fun h=>by injection h,fun h=>by rw[h]⟩
    simp[R2,toV,isU,eqU,Instr.sameNow,e]
 .cases h
def qW{t:TypeId}(h:eS P t=some k){X:C8}{i:Nat}(hx:X[i]? = some v)(w:World):(part t ⟨X⟩ i).run P w=.ok v w:=by
 have a:∀ d,P.underlying t=some d->(match d with|.struct _|.array _ _=>False|_=>True)->(part t ⟨X⟩ i).run P w=.ok v w:=fun d b e=>by
  cases d<;>simp only at e<;>simp[part,isAgg,A4,C7 b,Result.andThen,hx]
 unfold eS at h;split at h
 .exact a _ ‹_› trivial
 .exact a _ ‹_› trivial
 .exact a _ ‹_› trivial
 .cases h
def AW:∀ {j:List Field} {i:Nat} {ks:G5} {us vs:List U} {p q:C8},tC P j i=some ks->us.map F7=ks->vs.map F7=ks->p.length=i->q.length=i->∀ (n:Nat) (w:World),(Op.eqFields (n+1) ⟨p++us.map R2⟩ ⟨q++vs.map R2⟩ j).run P w=.ok (S3 us vs) w
 | [],i,ks,us,vs,p,q,h,h1,h2,hp,hq,n,w=>by
   cases h;have e:us=[]:=by simpa using h1
   have b:vs=[]:=by simpa using h2
   subst e;subst b;simp[Op.eqFields,S3]
 | f::j,i,ks,us,vs,p,q,h,h1,h2,hp,hq,n,w=>by
   unfold tC at h;split at h
   .rename_i t l o B;obtain⟨z,h⟩:=A3 h;cases h;obtain⟨g,a⟩:=B4 z;have a:=A0 a;have A:f.name ≠ "_":=by simpa using g
    cases us with
    | nil=>cases h1
    | cons u us =>
      cases vs with
      | nil=>cases h2
      | cons v vs =>
        simp only[C3,I8]at h1 h2;have g1:(p++(u::us).map R2)[f.offset]? = some (R2 u):=by rw[a,<- hp,D5 (A6 _)];simp
        have g2:(q++(v::vs).map R2)[f.offset]? = some (R2 v):=by rw[a,<- hq,D5 (A6 _)];simp
        have e:=qW o g1 w;have b:=qW o g2 w;have x:=NR o h1.1 h2.1 n w;have s:=AW (p:=p++[R2 u]) (q:=q++[R2 v]) B h1.2 h2.2 (by simp[hp]) (by simp[hq]) n w;rw[L8,L8]at s;unfold Op.eqFields;rw[A9 A];simp only[S3];cases hs:isU u v with
        | false =>
          simp only[A4,e,b,x,hs,Result.andThen_ok];simp
        | true =>
          simp only[A4,e,b,x,hs,Result.andThen_ok,Bool.true_and];exact s
   .cases h
def A5W{a:Bool}(h:mV P kt=some (a,ks))(h1:us.map F7=ks)(b:vs.map F7=ks)(w:World):(Op.equal kt (W4 a us) (W4 a vs)).run P w=.ok (S3 us vs) w:=by
 unfold mV at h;split at h
 .rename_i i hu;cases hs:P.stoodInHeld kt with
  | true=>rw[hs]at h;cases h
  | false =>
    rw[hs]at h;simp only[D4]at h;split at h
    .rename_i l f;cases h;have e:P.fieldsOf kt=i:=by simp[Program.fieldsOf,hu]
     show(Op.equalIn (9999+1) kt (.agg _) (.agg _)).run P w=_;rw[run_equalIn_struct (P:=P) w 9999 kt _ _ (by rw[e];exact hu) hs,e];exact AW (p:=[]) (q:=[]) f h1 b rfl rfl 9998 w
    .cases h
 .split at h
  .rename_i k g;cases h;cases us with
   | nil=>cases h1
   | cons u us=>cases us with
     | cons _ _=>simp at h1
     | nil=>cases vs with
       | nil=>cases b
       | cons v vs=>cases vs with
         | cons _ _=>simp at b
         | nil =>
           simp only[C3,F6,I8,and_true]at h1 b
           have:=NR g h1 b 9999 w;show(Op.equalIn (9999+1) kt (R2 u) (R2 v)).run P w=_;rw[this];simp[S3]
  .cases h
def xO{t:TypeId}(h:eS P t=some k)(e:Bool)(n:Nat)(v:Value)(w:World):(Instr.checkKey e (n+1) t v).run P w=.ok () w:=by
 unfold eS at h;split at h
 .rename_i hu;simp[Instr.checkKey,A4,C7 hu,Result.andThen]
 .rename_i hu;simp[Instr.checkKey,A4,C7 hu,Result.andThen]
 .rename_i hu;simp[Instr.checkKey,A4,C7 hu,Result.andThen]
 .cases h
def qJ(e:Bool)(n:Nat)(w:World):∀ (L:List Field) (i:Nat) (ks:List Nat) (us:List U) (p:List Value),tC P L i=some ks->us.map F7=ks->p.length=i ->
  (forIn L PUnit.unit fun f (_:PUnit)=>if f.name ≠ "_" then(do let x <- part f.type ⟨p++us.map R2⟩ f.offset;Instr.checkKey e (n+1) f.type x;pure (ForInStep.yield PUnit.unit):Sem (ForInStep PUnit))else pure (ForInStep.yield PUnit.unit)).run P w=.ok PUnit.unit w
 | [],i,ks,us,p,h,h1,hp=>by simp
 | f::fs,i,ks,us,p,h,h1,hp=>by
   unfold tC at h;split at h
   .rename_i t l j z;obtain⟨o,h⟩:=A3 h;cases h;obtain⟨b,a⟩:=B4 o;have a:=A0 a;have s:f.name ≠ "_":=by simpa using b
    cases us with
    | nil=>cases h1
    | cons u us =>
      simp only[C3,I8]at h1;have g1:(p++(u::us).map R2)[f.offset]? = some (R2 u):=by rw[a,<- hp,D5 (A6 _)];simp
      have A:=qW j g1 w;have q:=xO j e n (R2 u) w;have g:=qJ e n w fs (i+1) l us (p++[R2 u]) z h1.2 (by simp[hp]);rw[L8]at g;rw[List.forIn_cons];simp only[A9 s,A4,A,q,Result.andThen_ok,Sem.run_pure];exact g
   .cases h
def BG{a:Bool}(h:mV P kt=some (a,ks))(h1:us.map F7=ks)(e:Bool)(w:World):(Instr.checkKey e 10000 kt (W4 a us)).run P w=.ok () w:=by
 unfold mV at h;split at h
 .rename_i g hu;cases hs:P.stoodInHeld kt with
  | true=>rw[hs]at h;cases h
  | false =>
    rw[hs]at h;simp only[D4]at h;split at h
    .rename_i l b;have h:=h;cases h;have key:∀ n:Nat,(Instr.checkKey e (n+2) kt (.agg ⟨us.map R2⟩)).run P w=.ok () w:=fun n=>by
      rw[Instr.checkKey];simp only[A4,C7 hu,Result.andThen_ok];rw[<- Array.forIn_toList]
      have:=qJ e n w g.toList 0 _ us [] b h1 rfl;rw[G2]at this;rw[this];rfl
     exact key 9998
    .cases h
 .split at h
  .rename_i k f;cases h;exact xO f e 9999 _ w
  .cases h
def mP(k:List U):List (List U)->Nat->Option (Nat×List U)
 | [],_=>none
 | r::rs,i=>if S3 k r then some (i,r)else mP k rs (i+1)
def rH:∀ (us r:List U),S3 us (r.take us.length)=S3 us r
 | [],r=>rfl
 | a::us,[]=>rfl
 | a::us,b::r=>by
   show(isU a b && S3 us (r.take us.length))=(isU a b && S3 us r);rw[rH us r]
def uA.head{e:MapEntry}{es:List MapEntry}(h:uA y (r::rs) (e::es)):(r.map F7=y.ks++y.vs/\e.key=W4 y.ka (r.take y.ks.length)/\e.val=W4 y.va (r.drop y.ks.length))/\uA y rs es :=
 ⟨h.2 0 r e rfl rfl,by have:=h.1;simpa using this,fun i row a h1 b=>h.2 (i+1) row a (by simpa using h1) (by simpa using b)⟩
def zH(h:r.map F7=y.ks++y.vs):(r.take y.ks.length).map F7=y.ks/\(r.drop y.ks.length).map F7=y.vs:=by
 constructor
 .rw[List.map_take,h,List.take_left'];rfl
 .rw[List.map_drop,h,List.drop_left'];rfl
abbrev yZ(y:MTy)(us:List U)(rows:List (List U))(i:Nat):Option (Nat×Value):=(mP us rows i).map fun p=>(p.1,W4 y.va (p.2.drop y.ks.length))
def BV{y:MTy}(f:mV P y.kt=some (y.ka,y.ks)){us:List U}(h1:us.map F7=y.ks):∀ {rows:List (List U)} {es:List MapEntry} (i:Nat),uA y rows es->(Instr.findAsking y.kt (W4 y.ka us) es i).run P w=.ok (yZ y us rows i) w
 | [],[],i,_=>by simp[Instr.findAsking,yZ,mP]
 | [],_::_,i,h=>by have:=h.1;simp at this
 | _::_,[],i,h=>by have:=h.1;simp at this
 | r::rs,e::es,i,h=>by
   obtain⟨⟨a,b,c⟩,d⟩:=h.head;obtain⟨t1,t2⟩:=zH a;have hlen:us.length=y.ks.length:=by rw[<- h1,E3]
   have g:=A5W (P:=P) f h1 t1 w;have n:S3 us (r.take y.ks.length)=S3 us r:=by rw[<- hlen];exact rH us r
   have j:=BV f h1 (i+1) d;unfold Instr.findAsking;rw[b];simp only[A4,g,n,Result.andThen_ok,yZ,mP];cases o:S3 us r with
   | true=>simp[c]
   | false=>simp only[I9,if_false];exact j
def WI{y:MTy}{k:Nat}{d:TypeDesc}(j:P.underlying y.kt=some d)(hs:eS P y.kt=some k)(n:y.ka=false)(f:y.ks=[k]){u:U}(h1:F7 u=k):∀ {rows:List (List U)} {es:List MapEntry} (i:Nat),uA y rows es->Instr.findNow d (R2 u) es i=some (yZ y [u] rows i)
 | [],[],i,_=>rfl
 | [],_::_,i,h=>by have:=h.1;simp at this
 | _::_,[],i,h=>by have:=h.1;simp at this
 | r::rs,e::es,i,h=>by
   obtain⟨⟨a,b,c⟩,p⟩:=h.head;cases r with
   | nil=>rw[f]at a;simp at a
   | cons g r =>
     have a0:F7 g=k:=by rw[f]at a;simp at a;exact a.1
     have b:e.key=R2 g:=by rw[b,n,f];rfl
     have q:=UF j hs h1 a0;have o:=WI j hs n f h1 (i+1) p;unfold Instr.findNow;rw[b,q];simp only[yZ,mP,S3,mY];cases s:isU u g with
     | true=>simp[c]
     | false=>simp only[I9,if_false];exact o
def xC(a:mV P y.kt=some (y.ka,y.ks))(h1:us.map F7=y.ks){es:List MapEntry}(h:uA y rows es):(Instr.findKey y.kt (W4 y.ka us) es).run P w=.ok (yZ y us rows 0) w:=by
 have f:=a;unfold mV at a;split at a
 .rename_i i hu;rw[run_findKey_eq w (by rw[hu]) (W4 y.ka us) es];exact BV f h1 0 h
 .split at a
  .rename_i k hs;have g:y.ka=false:=(F0 Prod.fst (A8 a)).symm;have b:y.ks=[k]:=(F0 Prod.snd (A8 a)).symm;rw[b]at h1;cases us with
   | nil=>simp at h1
   | cons u us=>cases us with
     | cons _ _=>simp at h1
     | nil =>
       simp only[C3,F6,I8,and_true]at h1;obtain⟨d,e⟩:∃ d,P.underlying y.kt=some d:=by
        cases e:P.underlying y.kt with
        | some d=>exact⟨d,rfl⟩
        | none=>unfold eS at hs;rw[e]at hs;cases hs
       rw[g];exact MapKept.run_findKey e (WI e hs g b h1 0 h)
  .cases a
def IG{k:List U}:∀ (rows:List (List U)) (i:Nat),(mP k rows i).isSome=rows.any (S3 k)
 | [],_=>rfl
 | r::rs,i=>by
   simp only[mP,P0];cases S3 k r with
   | true=>rfl
   | false=>simp only[I9,if_false,P2];exact IG rs (i+1)
def AO{k:List U}:∀ (rows:List (List U)) (i:Nat),(mP k rows i).map (·.2)=rows.find? (S3 k)
 | [],_=>rfl
 | r::rs,i=>by
   simp only[mP,jB];cases S3 k r with
   | true=>rfl
   | false=>simp only[I9,if_false];exact AO rs (i+1)
def pV{k:List U}:∀ {rows:List (List U)} {i j:Nat} {r:List U},mP k rows i=some (j,r)->i<=j/\rows[j-i]? = some r/\S3 k r=true
 | [],_,_,_,h=>by cases h
 | x::rs,i,j,r,h=>by
   unfold mP at h;cases e:S3 k x with
   | true=>rw[e]at h;cases h;exact⟨A6 _,by simp,e⟩
   | false =>
     rw[e]at h;obtain⟨a,b,c⟩:=pV (rows:=rs) h;exact⟨A2,by rw[show j-i=(j-(i+1))+1 by omega];exact b,c⟩
def GV{kw:Nat}{c:List U}:∀ (rows:List (List U)) (i:Nat),GW kw c rows=match mP (c.take kw) rows i with
  | some p=>rows.set (p.1-i) c
  | none=>rows++[c]
 | [],_=>rfl
 | r::rs,i=>by
   unfold GW mP;cases b:S3 (c.take kw) r with
   | true=>simp
   | false =>
     simp only[I9,if_false];rw[GV rs (i+1)];cases hx:mP (c.take kw) rs (i+1)with
     | none=>rfl
     | some p =>
       obtain⟨a,_⟩:=pV (r:=p.2) (j:=p.1) hx;show r::rs.set (p.1-(i+1)) c=(r::rs).set (p.1-i) c;rw[show p.1-i=(p.1-(i+1))+1 by omega];rfl
def DI{b:Nat}(h:VR ρ (.map (some b)) v'):∃ l,ρ b=some l/\v'=.map (some l.blk):=by
 cases h with
 | pure hp=>simp[H9]at hp
 | map h=>exact⟨_,h,rfl⟩
def A1e{T:TypeId}(h:HR P base ρ m.H w)(q:base<=w.heap.size)(a:WT P m T=some (v,m'))(o:J6 ρ m.n m'.hi)(u:Sat m'.lg):VOk P base ρ m w (Instr.makeMap T none) v m':=by
 unfold WT at a;split at a
 .rename_i y j;rw[M8]at a;have f:=t7 a;have x:=iX (lg:=m'.lg) u (by rw[f];exact .refl _);obtain⟨t,z,s,wd,rows,A⟩:=x;have g:Ora.env m.lg.nx=.seq false y.w []:=by
   have hw:0<y.w:=by have:=(CY j).2.2.2.1;unfold MTy.w;omega
   rw[t];show(if y.w=0 then U.none else match Z5 y.w (0 / y.w) []with
    | some r=>U.seq false y.w r
    | none=>.none)=_
   rw[A7 A2,Nat.zero_div];rfl
  have b:=St.wLg h (eL m (10+y.w) (.mk y.w) []);obtain⟨h1,p,h3⟩:=St.alloc (w':={ w with heap:=w.heap.push (.map #[] 0) }) (l:=lc w.heap.size 0 0) b.hr q a (by rw[TD];exact o) ⟨rfl,rfl,rfl⟩ rfl rfl
   ⟨⟨rfl,rfl⟩,y,#[],0,[],j,rfl,by simp,g,rfl,fun i row e hr=>by simp at hr⟩
  refine⟨.map (some w.heap.size),_,_,?_,?_,St.trans o b h3⟩
  .simp[Instr.makeMap,newObj,Sem.run,A4,Result.andThen]
  .rw[h1];exact .map p
 .cases a
def gB{t:Nat}{op:LOp}(h:S5 m t op xs=some (v,m'))(e:Sat m'.lg):t<10/\F7 (evU op (xs.map (D3 Ora.env)))=t/\VR ρ v (R2 (evU op (xs.map (D3 Ora.env)))):=by
 obtain⟨u,a,i,r,b,f,g⟩:=L3 h e;subst a;refine⟨g,i,?_⟩;have:R2 (evU op (xs.map (D3 Ora.env)))=r:=by unfold R2;rw[b];rfl
 rw[this];exact f ρ
def AR{wd kw c t:Nat}{b:C8}{p:Bool}{rows:List (List U)}(s:Ora.env c=.seq p wd rows)(u:b.length=kw):∀ {ts:G5} {f:C8} {j:Nat} {m m':Mem} {hs:C8},rR wd kw c t b ts f j m=some (hs,m')->Sat m'.lg ->
  J1 m m'/\m.lg.le m'.lg/\hs.length=ts.length/\f.length=ts.length /\
  (∀ r,rows.find? (S3 (b.map (D3 Ora.env)))=some r->∀ i:Nat,i<ts.length->∃ v,hs[i]? = some v/\VR ρ v (R2 (r.getD (j+i) .none))) /\
  (rows.find? (S3 (b.map (D3 Ora.env)))=none->∀ i:Nat,i<ts.length->∃ v z,hs[i]? = some v/\f[i]? = some z/\VR ρ v (R2 (D3 Ora.env z)))
 | [],[],j,m,m',hs,h,hS=>by
   cases h;exact⟨.refl _,.refl _,rfl,rfl,fun r _ i hi=>(by simp at hi),fun _ i hi=>(by simp at hi)⟩
 | [],_::_,j,m,m',hs,h,hS=>by cases h
 | _::_,[],j,m,m',hs,h,hS=>by cases h
 | tg::ts,z::f,j,m,m',hs,h,hS=>by
   unfold rR at h;split at h
   .rename_i v m1 hv;split at h
    .rename_i r m2 hr;cases h;obtain⟨C,a2,a3,a4,a5,E⟩:=AR s u hr hS;have o:Sat m1.lg:=hS.le a2;obtain⟨_,_,a⟩:=gB (ρ:=ρ) hv o;have g:evU (.mget wd kw j) ((hole c t::z::b).map (D3 Ora.env))=(match rows.find? (S3 (b.map (D3 Ora.env)))with
       | some r=>r.getD j .none
       | none=>D3 Ora.env z):=by
      show evU (.mget wd kw j) (Ora.env c::D3 Ora.env z::b.map (D3 Ora.env))=_;rw[s];show(if wd=wd/\(b.map (D3 Ora.env)).length=kw then _ else U.none)=_;rw[A9 ⟨rfl,by rw[E3];exact u⟩];cases rows.find? (S3 (b.map (D3 Ora.env)))<;>rfl
     rw[g]at a;refine⟨(G8 hv).trans C,(H4 hv).trans a2,by simp[a3],by simp[a4],fun A e i hi=>?_,fun e i hi=>?_⟩
     .cases i with
      | zero=>rw[e]at a;exact⟨v,rfl,a⟩
      | succ i =>
        obtain⟨x,q,n⟩:=a5 A e i (by simpa using hi);exact⟨x,by simpa using q,by rw[show j+(i+1)=j+1+i by omega];exact n⟩
     .cases i with
      | zero=>rw[e]at a;exact⟨v,z,rfl,rfl,a⟩
      | succ i =>
        obtain⟨x,D,q,n,B⟩:=E e i (by simpa using hi);exact⟨x,D,by simpa using q,by simpa using n,B⟩
    .cases h
   .cases h
def A4e{vs:C8}(j:hs.length=vs.length)(h:∀ i:Nat,i<vs.length->∃ v v',hs[i]? = some v/\vs[i]? = some v'/\VR ρ v v'):LR ρ hs vs:=⟨j,fun i v v' h1 g=>by
 obtain⟨a,b,e,f,n⟩:=h i (B0.1 g).1;rw[h1]at e;rw[g]at f;cases e;cases f;exact n⟩
def A0d{a:Bool}(h:A0e a hs=some v)(b:LR ρ hs (us.map R2)):VR ρ v (W4 a us):=by
 unfold A0e at h;split at h
 .cases h;exact .agg b.1 b.2
 .cases h;cases us with
  | nil=>have:=b.1;simp at this
  | cons u us =>
    obtain⟨v',r,e,g,_⟩:=b.tail;rw[C3,I8]at e;rw[<- e.1]at g;exact g
 .cases h
def SC{T:TypeId}{x k:Value}{ok:Bool}(h:HR P base ρ m.H w)(o:wH P m T x k ok=some (v,m'))(hx:VR ρ x x')(hk:VR ρ k k')(hS:Sat m'.lg):VOk P base ρ m w (Instr.lookup T x' k' ok) v m':=by
 unfold wH at o;split at o
 .rename_i r y hy;obtain⟨hu,B,ao,ar,O,az,av⟩:=CY hy;obtain⟨l,hl,rfl⟩:=DI hx;split at o
  .rename_i c t T2 f z hg Q hz;obtain⟨W,a⟩:=A3 o;clear o;have W:=A0 W;subst W;split at a
   .rename_i zc ax;split at a
    .rename_i hs m1 S;split at a
     .rename_i v1 hv;obtain⟨⟨⟨au,aq⟩,y2,es,clock,rows,g1,g2,g3,g4,g5⟩,_⟩:=h.atl hl hg;rw[hy]at g1;have g1:=A8 g1;subst g1;obtain⟨k1,L⟩:=iG Q O hk;have R:VR ρ z z:=.ofC (uR hz).choose_spec.2.2;obtain⟨z1,z2⟩:=iG ax az R;have u:f.length=y.ks.length:=by rw[<- L];simp
      have ay:Sat m1.lg:=by
       cases ok with
       | false=>cases a;exact hS
       | true =>
         simp only[D7]at a;split at a
         .rename_i K;cases a;exact hS.le (H4 K)
         .cases a
      obtain⟨a1,a2,a3,a4,a5,a6⟩:=AR (ρ:=ρ) g4 u S ay;have F:=xC (P:=P) (w:=w) B L g5;have C:=BG (P:=P) B L es.isEmpty w;have j:=AO (k:=f.map (D3 Ora.env)) rows 0;have G:∀ {us:List U},LR ρ hs (us.map R2)->VR ρ v1 (W4 y.va us):=fun g=>A0d hv g
      have I:∃ val,VR ρ v1 val/\(Instr.lookup T2 (.map (some l.blk)) k' ok).run P w=.ok (if ok then .tuple #[val,.bool (rows.any (S3 (f.map (D3 Ora.env))))]else val) w:=by
       have A:(getObj l.blk).run P w=.ok (.map es clock) w:=by simp[getObj,Sem.run,g3]
       have e:=IG (k:=f.map (D3 Ora.env)) rows 0;cases D:mP (f.map (D3 Ora.env)) rows 0 with
       | none =>
         rw[D]at j e;have g:LR ρ hs ((zc.map (D3 Ora.env)).map R2):=A4e (by rw[a3,E3,E3,a4]) fun i hi=>by
          have M:i<y.vs.length:=by rw[E3,E3,a4]at hi;exact hi
          obtain⟨X,z',Y,N,e3⟩:=a6 j.symm i M;exact⟨X,_,Y,by rw[F9,F9,N];rfl,e3⟩
         refine⟨z,by rw[z1];exact G g,?_⟩;have e:rows.any (S3 (f.map (D3 Ora.env)))=false:=e.symm;rw[k1];simp only[Instr.lookup,A4,C7 hu,Result.andThen_ok,A,C,F,yZ,D,Option.map_none,s9 hz,Sem.run_pure,e]
       | some p =>
         obtain⟨pi,q⟩:=p;rw[D]at j e;obtain⟨_,J,q2⟩:=pV D;have J:rows[pi]? = some q:=by simpa using J
         have Z:pi<es.toList.length:=by rw[<- g5.1];exact(B0.1 J).1
         obtain⟨t1,t2,t3⟩:=g5.2 pi q es.toList[pi] J (A5 Z);have aw:q.length=y.ks.length+y.vs.length:=by
          have:=F0 List.length t1
          simpa using this
         have g:LR ρ hs ((q.drop y.ks.length).map R2):=A4e (by rw[a3,E3,E4];omega) fun i hi=>by
          rw[E3,E4]at hi;obtain⟨X,Y,N⟩:=a5 q j.symm i A2;refine⟨X,_,Y,?_,N⟩;rw[F9,H5,A5 A2,K3,B1,A5 A2];rfl
         refine⟨W4 y.va (q.drop y.ks.length),G g,?_⟩;have e:rows.any (S3 (f.map (D3 Ora.env)))=true:=e.symm;rw[k1];simp only[Instr.lookup,A4,C7 hu,Result.andThen_ok,A,C,F,yZ,D,K3,Sem.run_pure,e]
      obtain⟨val,s,n⟩:=I;cases ok with
      | false =>
        cases a;obtain⟨lg,rfl⟩:=a1;exact⟨val,ρ,w,n,s,St.wLg h lg⟩
      | true =>
        simp only[D7]at a;split at a
        .rename_i b m2 K;cases a;obtain⟨_,_,E⟩:=gB (ρ:=ρ) K hS;have V:evU (.mhas y.w y.ks.length) ((hole c t::f).map (D3 Ora.env))=.bool (rows.any (S3 (f.map (D3 Ora.env)))):=by
          show evU (.mhas y.w y.ks.length) (Ora.env c::f.map (D3 Ora.env))=_;rw[g4];show(if y.w=y.w/\(f.map (D3 Ora.env)).length=y.ks.length then _ else U.none)=_;rw[A9 ⟨rfl,by rw[E3];exact u⟩]
         rw[V]at E;obtain⟨lg,rfl⟩:=a1.trans (G8 K);refine⟨.tuple #[val,.bool (rows.any (S3 (f.map (D3 Ora.env))))],ρ,w,n,?_,St.wLg h lg⟩
         have:=LR.cons s (LR.cons E LR.nil);exact .tuple this.1 this.2
        .cases a
     .cases a
    .cases a
   .cases a
  .cases o
 .cases o
def UC{i:Nat}{c:List U}(h:uA y rows es.toList)(b:c.map F7=y.ks++y.vs)(h1:e'.key=W4 y.ka (c.take y.ks.length))(f:e'.val=W4 y.va (c.drop y.ks.length))(a:es'.toList=es.toList.set i e'):uA y (rows.set i c) es'.toList:=by
 rw[a];refine⟨by rw[Q1,Q1];exact h.1,fun j row e hr he=>?_⟩;rw[List.getElem?_set]at hr he;by_cases q:i=j
 .subst q;rw[A9 rfl]at hr he;split at hr
  .cases hr;split at he
   .cases he;exact⟨b,h1,f⟩
   .cases he
  .cases hr
 .rw[A7 q]at hr he;exact h.2 j row e hr he
def RU{c:List U}(h:uA y rows es.toList)(f:c.map F7=y.ks++y.vs)(h1:e'.key=W4 y.ka (c.take y.ks.length))(g:e'.val=W4 y.va (c.drop y.ks.length)):uA y (rows++[c]) (es.push e').toList:=by
 rw[Array.toList_push];refine⟨by rw[D6,D6,h.1];rfl,fun j row e hr he=>?_⟩;rw[List.getElem?_append]at hr he;rw[h.1]at hr;split at he
 .rename_i a;rw[A9 a]at hr;exact h.2 j row e hr he
 .rename_i a;rw[A7 a]at hr;cases b:j-es.toList.length with
  | zero =>
    rw[b]at hr he;cases hr;cases he;exact⟨f,h1,g⟩
  | succ n=>rw[b]at hr;cases hr
def KR{u v:U}(h1:F7 u<10)(h:isU u v=true):u=v:=by
 unfold isU at h;cases u with
 | int k a =>
   cases v with
   | int j b =>
     simp only[eqU]at h;by_cases e:k=j
     .subst e;rw[A9 rfl]at h;have h:(a == b)=true:=h;rw[eq_of_beq h]
     .rw[A7 e]at h;cases h
   | _=>simp[eqU]at h
 | bool a =>
   cases v with
   | bool b =>
     have h:(a == b)=true:=h;rw[eq_of_beq h]
   | _=>simp[eqU]at h
 | str a =>
   cases v with
   | str b =>
     have h:(a == b)=true:=h;rw[eq_of_beq h]
   | _=>simp[eqU]at h
 | seq _ _ _=>simp only[F7]at h1;omega
 | none=>simp only[F7]at h1;omega
def vD:∀ {us vs:List U},us.map F7=vs.map F7->(∀ t ∈ us.map F7,t<10)->S3 us vs=true->us=vs
 | [],[],_,_,_=>rfl
 | [],_::_,h,_,_=>by cases h
 | _::_,[],h,_,_=>by cases h
 | u::us,v::vs,h,ht,hk=>by
   obtain⟨a,b⟩:=B4 (show(isU u v && S3 us vs)=true from hk);simp only[C3,I8]at h;rw[KR (ht _ B2) a,vD h.2 (fun t q=>ht t (B8 _ q)) b]
def BM{u:U}(h:F7 u<10)(n:Nat):Instr.sameBits n (R2 u) (R2 u)=true:=by
 cases u with
 | int k a=>cases n<;>simp[R2,toV,Instr.sameBits]
 | bool b=>cases n<;>simp[R2,toV,Instr.sameBits]
 | str s=>cases n<;>(simp only[R2,toV,aZ,Instr.sameBits];show(Array.mk s == Array.mk s)=true;simp)
 | seq _ _ _=>simp only[F7]at h;omega
 | none=>simp only[F7]at h;omega
def ST{a:Bool}(h:∀ t ∈ us.map F7,t<10)(b:a=false->us≠[])(n:Nat):Instr.sameBits (n+1) (W4 a us) (W4 a us)=true:=by
 cases a with
 | true =>
   simp only[W4,Instr.sameBits,G4,beq_self_eq_true,true_and,D0];intro p hp;obtain⟨i,hi,he⟩:=List.mem_iff_getElem.1 hp;simp only[List.getElem_zip,List.getElem_map]at he;subst he;exact BM (h _ (L5.2 ⟨_,M7 _,rfl⟩)) n
 | false =>
   cases us with
   | nil=>exact absurd rfl (b rfl)
   | cons u us=>exact BM (h _ B2) _
def GT{T:TypeId}{x k e e':Value}(h:HR P base ρ m.H w)(hb:base<=w.heap.size)(E:zX P m T x k e=some (v,m'))(hf:J6 ρ m.n m'.hi)(hx:VR ρ x x')(hk:VR ρ k k')(he:VR ρ e e')(hS:Sat m'.lg):v=undef/\UOk P base ρ m w (Instr.mapUpdate T x' k' e') m':=by
 unfold zX at E;split at E
 .rename_i r y hy;obtain⟨hu,Y,ad,af,D,ak,ag⟩:=CY hy;obtain⟨l,hl,rfl⟩:=DI hx;split at E
  .rename_i c t Q g s hg ao aq;obtain⟨hT,u⟩:=A3 E;clear E;have hT:=A0 hT;subst hT;rw[M8]at u;unfold LP at u;split at u
   .rename_i m2 W6;cases u;have au:=cU W6;obtain⟨e1,e2,ae,wd,al,e3⟩:=iX (lg:=m'.lg) hS (by rw[au];exact .refl _);obtain⟨⟨⟨X,ah⟩,y2,es,clock,rows,g1,g2,g3,g4,g5⟩,_⟩:=h.atl hl hg;rw[hy]at g1;have g1:=A8 g1;subst g1;obtain⟨G,B⟩:=iG ao D hk;obtain⟨v1,v2⟩:=iG aq ak he;have A:g.length=y.ks.length:=by rw[<- B];simp
    have an:s.length=y.vs.length:=by rw[<- v2];simp
    have aj:((g++s).map (D3 Ora.env)).length=y.w:=by rw[E3,D6,A,an];rfl
    have M:((g++s).map (D3 Ora.env)).map F7=y.ks++y.vs:=by rw[S7,S7,B,v2]
    have z:((g++s).map (D3 Ora.env)).take y.ks.length=g.map (D3 Ora.env):=by rw[S7,List.take_left' (by rw[E3];exact A)]
    have C:((g++s).map (D3 Ora.env)).drop y.ks.length=s.map (D3 Ora.env):=by rw[S7,List.drop_left' (by rw[E3];exact A)]
    have i:Ora.env m.lg.nx=.seq false y.w (GW y.ks.length ((g++s).map (D3 Ora.env)) rows):=by
     rw[e1];show evU (.mput y.w y.ks.length) (Ora.env c::(g++s).map (D3 Ora.env))=_;rw[g4];show(if y.w=y.w/\((g++s).map (D3 Ora.env)).length=y.w then _ else U.none)=_;rw[A9 ⟨rfl,aj⟩]
    rw[GV _ 0,z]at i;have W:(getObj l.blk).run P w=.ok (.map es clock) w:=by simp[getObj,Sem.run,g3]
    have aw:=xC (P:=P) (w:=w) Y B g5;have Z:=BG (P:=P) Y B false w;have av:=St.wLg h (eL m t (.mput y.w y.ks.length) (hole c t::(g++s)));have ar:Hp.get (m.wLg (eL m t (.mput y.w y.ks.length) (hole c t::(g++s)))).H r=some (.mp c t Q):=by rw[jN];exact hg
    have o:l.blk<w.heap.size:=(C5.1 g3).1;refine⟨rfl,?_⟩;have O:∀ (f:Array MapEntry) (a:Nat),(setObj l.blk (.map f a)).run P w=.ok () { w with heap:=w.heap.set l.blk (.map f a) o }:=fun f a=>by
     have ay:w.heap[l.blk]=.map es clock:=by
      have q:=g3;rw[E8 o]at q;exact A8 q
     simp[setObj,Sem.run,ay,Array.setIfInBounds,o]
    have fin:∀ (f:Array MapEntry) (a:Nat) (b:List (List U)),Ora.env m.lg.nx=.seq false y.w b->uA y b f.toList->(Instr.mapUpdate Q (.map (some l.blk)) k' e').run P w=.ok () { w with heap:=w.heap.set l.blk (.map f a) o }->UOk P base ρ m w (Instr.mapUpdate Q (.map (some l.blk)) k' e') m':=fun f a b K q2 q3=>by
     refine⟨ρ,_,q3,St.trans hf av (St.write (ab:=.mp c t Q) (ab':=.mp m.lg.nx t Q) av.hr W6 ar rfl hl X ⟨rfl,rfl,rfl⟩ (by simp) (fun j V=>?_) ?_)⟩
     .show(w.heap.set l.blk _ o)[j]? = _;rw[l5,A7 (fun e=>V e.symm)]
     .refine⟨⟨X,ah⟩,y,f,a,b,hy,g2,?_,K,q2⟩;show(w.heap.set l.blk _ o)[l.blk]? = _;rw[l5,A9 rfl]
    cases hq:mP (g.map (D3 Ora.env)) rows 0 with
    | none =>
      rw[hq]at i;refine fin (es.push ⟨k',e',clock⟩) (clock+1) _ i (RU g5 M (by rw[z];exact G) (by rw[C];exact v1)) ?_;rw[G];simp only[Instr.mapUpdate,A4,C7 hu,Result.andThen_ok,W,Z,aw,yZ,hq,Option.map_none,O]
    | some p =>
      obtain⟨pi,L⟩:=p;rw[hq]at i;have i:Ora.env m.lg.nx=.seq false y.w (rows.set pi ((g++s).map (D3 Ora.env))):=i;obtain⟨_,K,q2⟩:=pV hq;have K:rows[pi]? = some L:=by simpa using K
      have F:pi<es.toList.length:=by rw[<- g5.1];exact(B0.1 K).1
      obtain⟨t1,t2,t3⟩:=g5.2 pi L es.toList[pi] K (A5 F);obtain⟨ai,_⟩:=zH t1;have I:g.map (D3 Ora.env)=L.take y.ks.length:=by
       refine vD (by rw[B,ai]) (by rw[B];exact D) ?_
       have:=rH (g.map (D3 Ora.env)) L;rw[E3,A]at this;rw[this];exact q2
      have R:pi<es.size:=by simpa using F
      refine fin (es.modify pi fun e2=>{ e2 with key:=k',val:=e' }) clock _ i (UC (e':=⟨k',e',(es[pi]).born⟩) g5 M (by rw[z];exact G) (by rw[C];exact v1) ?_) ?_
      .apply fH;intro j;rw[X3,G7,List.getElem?_set];by_cases V:pi=j
       .subst V;rw[A9 rfl,A9 rfl,A9 F,E8 R];rfl
       .rw[A7 V,A7 V];simp
      .have S:((es[pi]?).map (·.key)).getD k'=k':=by
        rw[E8 R];show es[pi].key=k';have t2:es[pi].key=W4 y.ka (L.take y.ks.length):=t2;rw[t2,<- I,G]
       have J:Instr.sameBits 10000 k' k'=true:=by
        rw[G];exact ST (by rw[B];exact D) (fun _ q=>by have:=F0 List.length B;rw[q]at this;simp at this;omega) 9999
       have az:(Instr.keyThatStays k' k').run P w=.ok k' w:=by
        simp only[Instr.keyThatStays,J,if_true,Sem.run_pure]
       have N:(Instr.findKey y.kt k' es.toList).run P w=.ok (some (pi,W4 y.va (L.drop y.ks.length))) w:=by
        rw[G,aw];simp[yZ,hq]
       have ax:(Instr.checkKey false 10000 y.kt k').run P w=.ok () w:=by rw[G];exact Z
       simp only[Instr.mapUpdate,A4,C7 hu,Result.andThen_ok,W,ax,N,S,az,O]
   .cases u
  .cases E
 .cases E
def XD{T:TypeId}{x:Value}(h:HR P base ρ m.H w)(a:HT P m T x=some (v,m'))(hx:VR ρ x x')(n:Sat m'.lg):VOk P base ρ m w (Builtin.len_ ⟨T::tys⟩ ty #[x']) v m':=by
 unfold HT at a;split at a
 .rename_i kt s r hu;obtain⟨l,j,rfl⟩:=DI hx;split at a
  .rename_i c t p i;obtain⟨⟨⟨o,g⟩,q,es,clock,rows,g1,g2,g3,g4,g5⟩,_⟩:=h.atl j i;obtain⟨f,⟨lg,rfl⟩,_,_⟩:=kK (ρ:=ρ) a g4 n;have b:(getObj l.blk).run P w=.ok (.map es clock) w:=by simp[getObj,Sem.run,g3]
   refine⟨_,ρ,w,?_,f,St.wLg h lg⟩
   have:=g5.1;have e:es.size=rows.length:=by rw[this];simp
   simp[Builtin.len_,A4,C7 hu,Result.andThen,goInt,b,e]
  .cases a
 .cases a
def A1f{T:TypeId}(a:WT P m T=some (v,m')):m.lg.le m'.lg:=by
 unfold WT at a;split at a
 .rw[M8]at a;rw[t7 a];exact U6
 .cases a
def rQ{wd kw c t:Nat}{b:C8}:∀ {ts:G5} {a:C8} {j:Nat} {m m':Mem} {hs:C8},rR wd kw c t b ts a j m=some (hs,m')->m.lg.le m'.lg
 | [],[],j,m,m',hs,h=>by cases h;exact .refl _
 | [],_::_,j,m,m',hs,h=>by cases h
 | _::_,[],j,m,m',hs,h=>by cases h
 | tg::ts,z::a,j,m,m',hs,h=>by
   unfold rR at h;split at h
   .rename_i hv;split at h
    .rename_i hr;cases h;exact(H4 hv).trans (rQ hr)
    .cases h
   .cases h
def SD{T:TypeId}{x k:Value}{ok:Bool}(a:wH P m T x k ok=some (v,m')):m.lg.le m'.lg:=by
 unfold wH at a;split at a
 .split at a
  .obtain⟨_,a⟩:=A3 a;split at a
   .split at a
    .rename_i b;split at a
     .cases ok with
      | false=>cases a;exact rQ b
      | true =>
        simp only[D7]at a;split at a
        .rename_i e;cases a;exact(rQ b).trans (H4 e)
        .cases a
     .cases a
    .cases a
   .cases a
  .cases a
 .cases a
def GU{T:TypeId}{x k e:Value}(a:zX P m T x k e=some (v,m')):m.lg.le m'.lg:=by
 unfold zX at a;split at a
 .split at a
  .obtain⟨_,a⟩:=A3 a;rw[M8]at a;unfold LP at a;split at a
   .rename_i W6;cases a;rw[cU W6];exact U6
   .cases a
  .cases a
 .cases a
def XE{T:TypeId}{x:Value}(a:HT P m T x=some (v,m')):m.lg.le m'.lg:=by
 unfold HT at a;split at a
 .split at a
  .exact(aT a).2
  .cases a
 .cases a
end
end
section
open Go
variable [Ora]
section
variable {P:Program} {base:Nat} {ρ:Ren} {m m':Mem} {w:World}
omit [Ora] in
def JP{G:Nat->Option Obj}:∀ {us:List U} {s:List UInt8} {vs:C8},sB us=some s->X7 G us vs->∃ e:List Int,vs=e.map (Value.int .u8)/\s=e.map fun n=>UInt8.ofNat n.toNat
 | [],s,vs,h,he=>by
   cases h;have:vs=[]:=F8.1 he.1.symm;subst this;exact⟨[],rfl,rfl⟩
 | u::us,s,vs,h,he=>by
   unfold sB at h;split at h
   .rename_i heq;cases heq
   .rename_i n r heq;cases heq;split at h
    .split at h
     .rename_i l j;cases h;cases vs with
      | nil=>have:=he.1;simp at this
      | cons v vr =>
        obtain⟨e,o,g⟩:=JP (vs:=vr) j ⟨by have:=he.1;simpa using this,fun i a b h1 f=>he.2 (i+1) a b (by simpa using h1) (by simpa using f)⟩
        have:=eY (he.2 0 _ v rfl rfl) rfl;subst this;exact⟨(Int.ofNat n)::e,by rw[o];rfl,by rw[g];rfl⟩
     .cases h
    .cases h
   .cases h
def GA{t:TypeId}{n:Nat}(h:G3 P t=some n):∃ inf,P.info? t=some inf/\inf.size=n:=by
 unfold G3 at h;cases hi:P.info? t with
 | none=>rw[hi]at h;cases h
 | some inf=>rw[hi]at h;exact⟨inf,rfl,A8 h⟩
def GE(d:Nat)(t:TypeId):sameLayout P (d+1) t t=true:=by simp[sameLayout]
def ZZ:∃ d,P.depth=d+1:=⟨2*(P.types.size+Made.depth)+1,rfl⟩
def LU{T:TypeId}{n off:Nat}(hs:P.cellsOf T≠0)(hr:off%P.cellsOf T=0)(b:off / P.cellsOf T+1<=n):liesAt P P.depth T n off T 1=true:=by
 obtain⟨d,a⟩:=ZZ (P:=P);have h1:rowAt P (sameLayout P P.depth · T) P.depth T n off 1=true:=by
  rw[a];unfold rowAt;simp only[hs,if_false,hr,GE];simp[b]
 rw[a]at h1 ⊢;unfold liesAt;rw[a,h1];rfl
def A0F{s t:TypeId}{x:Value}(h:HR P base ρ m.H w)(g:QK P m s t x=some (v,m'))(hx:VR ρ x x'):VOk P base ρ m w (convert s t x') v m':=by
 unfold QK at g;split at g
 .rename_i e b o hs K;obtain⟨l,F,_,rfl⟩:=N6 hx;split at g
  .rename_i k cs T ro A E;obtain⟨q,g⟩:=A3 g;have q:o<cs.length:=A1 q;cases g;obtain⟨inf,a,L⟩:=GA A;obtain⟨⟨p,C,fz,i,h1,N,_⟩,_⟩:=h.atl F E;obtain⟨v',h3,_⟩:=N o cs[o] (A5 q);have G:l.sh+o<C.size:=(C5.1 h3).1;exact VOk.same h (Lib.run_to_unsafe w ⟨l.blk,o+l.sh,none⟩ hs K a A2 (show w.shape? l.blk=some (i,C.size) by simp[World.shape?,h1]) (by show o+l.sh<C.size;omega)) hx
  .cases g
 .rename_i u b hs K;obtain⟨l,F,_,rfl⟩:=N6 hx;split at g
  .rename_i k cs T A E;obtain⟨I,f⟩:=A3 g;clear g;obtain⟨z,M⟩:=B4 I;have z:=A0 z;have M:=A0 M;clear I;subst z;cases f;obtain⟨inf,a,L⟩:=GA A;obtain⟨⟨p,C,fz,i,h1,N,h3⟩,_⟩:=h.atl F E;obtain⟨rfl,_,S⟩:=h3 rfl;obtain⟨_,J⟩:=S inf a;have D:P.cellsOf i=k+1:=by unfold Program.cellsOf;rw[a];exact L
   have B:k<cs.length:=A2;obtain⟨v',R,_⟩:=N k cs[k] (A5 B);have G:l.sh+k<C.size:=(C5.1 R).1;refine VOk.same h (Lib.run_from_unsafe w ⟨l.blk,0+l.sh,none⟩ hs K a (show w.shape? l.blk=some (i,C.size) by simp[World.shape?,h1]) ?_) hx;show liesAt P P.depth i (C.size / P.cellsOf i) (0+l.sh) i 1=true;rw[E9];refine LU A2 (by rw[D];rw[L]at J;exact J) ?_;rw[D];have J:l.sh%(k+1)=0:=by rw[L]at J;exact J
   have W:l.sh=(k+1)*(l.sh / (k+1)):=by have:=Nat.div_add_mod l.sh (k+1);omega
   refine(Nat.le_div_iff_mul_le A2).2 ?_;rw[H1,fE,y7];omega
  .cases g
 .rename_i V e b o n c hs K;obtain⟨I,f⟩:=A3 g;clear g;obtain⟨z,M⟩:=B4 I;have z:=A0 z;clear I;subst z;split at f
  .rename_i cs T hu E;split at f
   .rename_i m1 W6;cases f;obtain⟨l,mm,F,rfl⟩:∃ l mm,ρ b=some l/\x'=.slice (some ⟨l.blk,o+l.sh,none⟩) n mm:=by
     cases hx with
     | pure hp=>simp[H9]at hp
     | sl h1 _=>exact⟨_,_,h1,rfl⟩
     | op h1 _ _ _=>exact⟨_,_,h1,rfl⟩
     | opE _=>simp at M
    obtain⟨⟨p,C,fz,i,z2,z3,z4⟩,_⟩:=h.atl F E;have O:w.shape? l.blk=some (i,C.size):=by simp[World.shape?,z2]
    refine⟨_,ρ,w.freeze ⟨l.blk,C.size,none⟩ 1,?_,hx,St.write h W6 E rfl F p ?_ ?_ ?_ ?_⟩
    .simp[convert,run_underlying K,run_underlying hu,markStringish,O]
    .simp[World.freeze]
    .simp[World.freeze]
    .intro j Q;simp only[World.freeze,Nat.one_ne_zero,if_false,G7];rw[A7 (fun e=>Q e.symm)]
    .refine⟨p,C,(if fz.1 == fz.2 then(C.size,C.size+1)else(min fz.1 C.size,max fz.2 (C.size+1))),i,?_,z3,fun D=>⟨(z4 D).1,(z4 D).2.1.mark,(z4 D).2.2⟩⟩;simp only[World.freeze,Nat.one_ne_zero,if_false,G7,if_true,z2,K3]
   .cases f
  .cases f
 .cases g
def VS{op:BinOp}{t:TypeId}{x y:Operand}{a a' b b':Value}(h:HR P base ρ m.H w)(o:OF P m op t a b=some (v,m'))(B:VR ρ a a')(z:VR ρ b b'):VOk P base ρ m w (do eqGuard op t x y a' b';binOp op t a' b') v m':=by
 unfold OF at o;split at o
 .rename_i e D p E C hu;obtain⟨u,f⟩:=A3 o;clear o;obtain⟨q,s⟩:=B4 u;have q:=A0 q;have s:=A0 s;clear u;subst q;subst s;obtain⟨l,A,_,rfl⟩:=N6 B;obtain⟨l2,g,_,rfl⟩:=N6 z;rw[A]at g
  have:=A8 g;subst this;have heq:∀ j,P.info? e=some j->∀ d:Nat,(Op.equalIn (d+1) t (.pointer (some ⟨l.blk,p+l.sh,none⟩)) (.pointer (some ⟨l.blk,p+l.sh,none⟩))).run P w=.ok true w:=fun j i d=>by
   simp[Op.equalIn,run_underlying hu,sizeOf,typeInfo,i,run_sameAddr_same]
  have n:(eqGuard op t x y (.pointer (some ⟨l.blk,p+l.sh,none⟩)) (.pointer (some ⟨l.blk,p+l.sh,none⟩))).run P w=.ok () w:=by
   unfold eqGuard;split<;>simp
  split at f
  .rename_i j i;cases f;refine VOk.same h (v':=.bool true) ?_ (.pure rfl);rw[A4,n];simp[Result.andThen,binOp,Op.equal,Op.maxDepth,heq j i 9999]
  .rename_i j i;cases f;refine VOk.same h (v':=.bool false) ?_ (.pure rfl);rw[A4,n];simp[Result.andThen,binOp,Op.equal,Op.maxDepth,heq j i 9999]
  .cases f
 .cases o
def St.laid{o:Obj}(h:HR P base ρ m.H w):St P base ρ ρ m m w { w with heap:=w.heap.push o } :=
 have g:∀ k,k<w.heap.size->(w.heap.push o)[k]? = w.heap[k]? := fun k g=>by rw[Z7,A7 A2]
 ⟨fun _ _ h=>h,fun b l h1 a=>(by rw[h1]at a;cases a),A6 _,A6 _,fun h=>h,
  ⟨h.dom,fun id hid ab f=>by
    obtain⟨l,h1,a,h3⟩:=h.at_ id hid ab f;exact⟨l,h1,a.mono (fun _ _ h=>h) (fun k e=>g k (a.tc e)),h3⟩⟩,
  fun _ h=>h,fun b h1 a=>absurd h1 a,fun k e _=>g k e,by simp,⟨rfl,rfl,rfl⟩,fun b l h1 a=>(by rw[h1]at a;cases a),fun _ _ _ _=>rfl,fun _ h=>.inr h⟩
def A4w{tys:Array TypeId}{x:Value}(h:HR P base ρ m.H w)(a:sdM P m ty x=some (v,m'))(hx:VR ρ x x'):VOk P base ρ m w (Builtin.unsafeSliceData_ tys ty #[x']) v m':=by
 unfold sdM at a;split at a
 .rename_i e he;split at a
  .rename_i b i t;split at a
   .rename_i c tc T g ro u;cases a;have hx:VR ρ (own b i t) x':=hx;rcases(eU hx).1 with⟨l,wd,h1,f,h3,rfl⟩|⟨l,wd,rows,h1,f,h3,E,D,rfl⟩
    .exact VOk.same h rfl (.sdt ⟨l,h1,.inl ⟨f,rfl⟩⟩)
    .have j:Builtin.unsafeSliceData_ tys ty #[.slice (some ⟨l.blk,l.sh,none⟩) l.len l.cap]=(do
       if l.cap≠0 then pure (.pointer (some ⟨l.blk,l.sh,none⟩))
       else if(<- viewAt l.blk).isSome then pure (.pointer (some ⟨l.blk,l.sh,none⟩))
       else pure (.pointer (some ⟨<- newObj (.view ⟨l.blk,l.sh,none⟩ (<- elemOf ty)),0,none⟩))):=rfl
     rw[j];by_cases p:l.cap=0
     .rw[A7 (by simpa using p)];obtain⟨z,inf,_,_,_,s⟩:=SqR.ex (h.atl h1 u).1;rcases s with⟨n,_⟩|⟨_,n⟩
      .rw[f]at n;cases n
      .obtain⟨C,fz,A,o,lg,B,_⟩:=n;have q:w.shape? l.blk=some (A,C.size):=by simp[World.shape?,B]
       refine⟨.pointer (some ⟨w.heap.size,0,none⟩),ρ,{ w with heap:=w.heap.push (.view ⟨l.blk,l.sh,none⟩ e) },?_,.sdt ⟨l,h1,.inr ⟨f,_,rfl,fun h=>absurd p h⟩⟩,St.laid h⟩;simp[viewAt,q,elemOf,C7 he,newObj,Sem.run,A4,Result.andThen]
     .rw[A9 p];exact VOk.same h rfl (.sdt ⟨l,h1,.inr ⟨f,_,rfl,fun _=>rfl⟩⟩)
   .cases a
  .cases a
 .cases a
def A4m{p l p' l':Value}(h:HR P base ρ m.H w)(F:usM P m pt p l=some (v,m'))(hp:VR ρ p p')(hl:VR ρ l l')(hS:Sat m'.lg)(hf:J6 ρ m.n m'.hi) :
  VOk P base ρ m w (Builtin.unsafeString_ ⟨pt::tys⟩ ty #[p',l']) v m':=by
 have A:IntKind.i64.max=9223372036854775807:=rfl;unfold usM at F;split at F
 .rename_i b;obtain⟨W,F⟩:=A3 F;have W:G1 l<8:=A1 W;obtain⟨k,n0,rfl,ah,_⟩:=L6 hl W;split at F
  .rename_i c tc T g e hg af;obtain⟨hq,D⟩:=A3 F;clear F;obtain⟨q1,q2⟩:=B4 hq;have q1:=A0 q1;have q2:=A0 q2;clear hq;subst q1;subst q2;split at D
   .rename_i u m1 bx Q;split at D
    .rename_i m2 W6;cases D;have al:=cU W6;have aa:Sat m1.lg:=by rw[<- al];exact hS
     obtain⟨u0,e1,e2,r,e3,e4,e5⟩:=L3 Q aa;obtain⟨lg,rfl⟩:=G8 Q;obtain⟨l0,J,hv⟩:=A1t (show VR ρ (sdt b) p' from hp);have E:=St.wLg h lg;obtain⟨wd,inf,k1,k2,k3,I⟩:=SqR.ex (h.atl J hg).1;have aj:wd=1:=A2;subst aj;have f:evU .ustr [Ora.env c,.int k n0]=u0:=by
      have:D3 Ora.env (hole c 11)=Ora.env c:=rfl;rw[<- this,<- ah];exact e1
     have K:∀ aq rows,Ora.env c=.seq aq 1 rows->∃ (n:Nat) (N:List UInt8),n0=(n:Int)/\n<=rows.length/\n<=1000000000/\tY (rows.take n)=some N/\u0=.str N:=fun aq rows hc=>by
      rw[hc]at f;cases n0 with
      | negSucc z=>have:u0=.none:=f.symm;subst this;cases e3
      | ofNat n =>
        have f:(if 1=1/\n<=rows.length/\n<=tZ then match tY (rows.take n)with
         | some s=>U.str s
         | none=>.none else .none)=u0:=f
        split at f
        .rename_i az;split at f
         .rename_i N K;exact⟨n,N,rfl,az.2.1,az.2.2,K,f.symm⟩
         .subst f;cases e3
        .subst f;cases e3
     have B:P.cellsOf e=1:=by unfold Program.cellsOf;rw[k2];exact k3
     have Y:∀ {ρ:Ren} {w:World} {lx:Loc},BR P ρ (.sq c 11 e g false) lx w->BR P ρ (.sq c 11 e g true) lx w:=fun hb=>by
      obtain⟨wd,inf,k1,k2,k3,I⟩:=SqR.ex hb;refine⟨⟨wd,inf,k1,k2,k3,I.imp (fun x=>x) fun⟨a,C,fz,T',rows,lg,b1,b2,b3,b4,b5,b6,b7,b8,_⟩=>⟨a,C,fz,T',rows,lg,b1,b2,b3,b4,b5,b6,b7,b8,fun hh=>by cases hh⟩⟩⟩
     have S:Hp.get (m.wLg lg).H b=some (.sq c 11 e g false):=by rw[jN];exact hg
     have R:St P base ρ ρ m m' w w:=St.trans hf E (St.same0 E.hr W6 S rfl J (Y (E.hr.atl J S).1) fun q hq=>hq.imp (fun⟨_,b⟩=>⟨rfl,b⟩) fun⟨hh,_⟩=>by cases hh);rcases hv with⟨ar,rfl⟩|⟨X,a,rfl,ha⟩
     .rcases I with⟨_,M⟩|⟨M,_⟩
      .obtain⟨n,N,rfl,j1,_,j2,rfl⟩:=K _ _ M;have hn:n=0:=by simpa using j1
       subst hn;cases j2;cases e3;refine⟨.string ByteArray.empty,ρ,w,?_,e4 ρ,R⟩;have o:Builtin.unsafeString_ ⟨pt::tys⟩ ty #[.pointer none,.int k ((0:Nat):Int)] =
         (do
           let n <- asInt (.int k ((0:Nat):Int))
           if n<0 then runtimePanic (.error "unsafe.String: len out of range")
           if n>IntKind.i64.max then unsupported (.unsafePointer "String: a length above the largest int")
           if n=0 then pure (.string .empty)
           else runtimePanic (.error "unsafe.String: ptr is nil and len is not zero")):=rfl
       rw[o];simp[asInt,asIntOf,A]
      .rw[ar]at M;cases M
     .rcases I with⟨M,_⟩|⟨_,M⟩
      .rw[X]at M;cases M
      obtain⟨C,fz,T',rows,ao,z1,z2,z3,z4,z5,z6,z7,z8,z9⟩:=M;obtain⟨rfl,bz⟩:=z9 rfl;obtain⟨n,N,rfl,j1,j0,j2,rfl⟩:=K _ _ z2;cases e3;have o:Builtin.unsafeString_ ⟨pt::tys⟩ ty #[.pointer (some a),.int k (n:Int)] =
       (do
         let n <- asInt (.int k (n:Int))
         if n<0 then runtimePanic (.error "unsafe.String: len out of range")
         if n>IntKind.i64.max then unsupported (.unsafePointer "String: a length above the largest int")
         if n=0 then pure (.string .empty)
         else if <- variablesAt a (<- elemOf pt) n.toNat then do
          let s <- loadBytes a .empty n.toNat
          freeze a n.toNat
          pure (.string s)
         else unsupported (.unsafePointer "String: not so many bytes at ptr")):=rfl
      have au:¬ (n:Int)<0:=A2;have av:¬ (9223372036854775807:Int)<(n:Int):=A2;by_cases t:n=0
      .subst t;cases j2;refine⟨.string ByteArray.empty,ρ,w,?_,e4 ρ,R⟩;rw[o];simp[asInt,asIntOf,A]
      .have hz:¬ (n:Int)=0:=A2;have an:l0.cap≠0:=A2;have ha:=ha an;subst ha;obtain⟨y1,y2,y3⟩:=EI j2;have hlen:(rows.take n).length=n:=by simp;omega
       have ak:l0.sh+n<=C.size:=A2;obtain⟨ns,r1,r2⟩:∃ ns:List Int,(C.toList.drop l0.sh).take n=ns.map (Value.int .u8)/\N=ns.map fun n=>UInt8.ofNat n.toNat:=by
        refine JP (G:=ao.G) y1 ⟨by rw[y2,hlen];simp;omega,fun i u v b1 b2=>?_⟩;have ax:i<n:=by have:=(B0.1 b1).1;rw[y2,hlen]at this;exact this
        have aw:i<rows.length:=A2;have O:rows[i]? = some rows[i]:=A5 aw;have V:(rows.take n)[i]? = some rows[i]:=by rw[F2 ax];exact O
        have bw:rows[i].length=1:=z6 _ (M7 aw);have h0:rows[i][0]? = some (rows[i][0]' A2):=A5 A2;obtain⟨_,I⟩:=y3 i _ 0 _ V h0;rw[b1]at I;have I:=A8 I;rw[I];have hc:C[l0.sh+i*1+0]? = some v:=by
         rw[F2 ax,H5]at b2
         simpa using b2
        exact z8 i _ 0 _ v O h0 hc
       have ag:ns.length=n:=by
        have:=F0 List.length r1;simp at this;omega
       have L:∀ (j:Nat) (v:Value),(ns.map (Value.int .u8))[j]? = some v->w.cell? ⟨l0.blk,l0.sh+j,none⟩=some v:=fun j v hj=>by
        rw[<- r1]at hj;have ai:j<n:=by have:=(B0.1 hj).1;simp at this;omega
        rw[F2 ai,H5]at hj;simp only[World.cell?,z1]
        simpa using hj
       have ay:=dP (P:=P) (w:=w) ns l0.blk l0.sh .empty L;rw[ag]at ay;have ae:w.shape? l0.blk=some (T',C.size):=by simp[World.shape?,z1]
       have Z:=wJ (P:=P) B (C.size / P.cellsOf T') l0.sh n (by rw[B];simpa using ak);have ad:St P base ρ ρ (m.wLg lg) m' w (w.freeze ⟨l0.blk,l0.sh,none⟩ n):=by
        refine St.write E.hr W6 S rfl J X ?_ ?_ ?_ ?_
        .simp[World.freeze,t]
        .simp[World.freeze,t]
        .intro j hj;simp only[World.freeze,t,if_false,G7];rw[A7 (fun e=>hj e.symm)]
        .refine⟨⟨1,inf,rfl,k2,k3,.inr ⟨X,C,(if fz.1 == fz.2 then(l0.sh,l0.sh+n)else(min fz.1 l0.sh,max fz.2 (l0.sh+n))),T',rows,ao,?_,z2,z3,z4,z5,z6,z7,z8,fun hc=>by cases hc⟩⟩⟩;simp only[World.freeze,t,if_false,G7,if_true,z1,K3]
       refine⟨.string ⟨⟨N⟩⟩,ρ,w.freeze ⟨l0.blk,l0.sh,none⟩ n,?_,e4 ρ,St.trans hf E ad⟩;rw[o];simp[asInt,asIntOf,A,au,av,hz,t,variablesAt,ae,elemOf,C7 af,Z,ay,freeze,Sem.run,A4,Result.andThen,r2]
    .cases D
   .cases D
  .cases F
 .cases F
def RS{t:TypeId}{x:Value}(h:HR P base ρ m.H w)(j:base<=w.heap.size)(e:vP P m t x=some (v,m'))(g:J6 ρ m.n m'.hi)(hx:VR ρ x x'):VOk P base ρ m w (Instr.range t x') v m':=by
 unfold vP at e;split at e
 .rename_i hu;obtain⟨h1,e⟩:=A3 e;obtain⟨s,rfl,_⟩:=g9 hx (A0 h1);have f:∀ a:Ren,(∀ b l,ρ b=some l->a b=some l)->BR P a (.iter [x,.int .i64 (.ofNat 0)]) (lc w.heap.size 0 0) { w with heap:=w.heap.push (.stringIter ⟨⟨s⟩⟩ 0) }:=fun a he =>
   ⟨⟨rfl,rfl⟩,⟨⟨s⟩⟩,0,by simp[lc],.cons (hx.mono he) (.cons (.pure rfl) .nil)⟩
  obtain⟨i,h3,o⟩:=St.alloc (w':={ w with heap:=w.heap.push (.stringIter ⟨⟨s⟩⟩ 0) }) (l:=lc w.heap.size 0 0) h j e g ⟨rfl,rfl,rfl⟩ rfl rfl (f _ (V7 (g m.n (A6 _) (by obtain⟨_,_,rfl⟩:=K6 e;exact(K2 _ _).2))));refine⟨.pointer (some ⟨w.heap.size,0,none⟩),_,_,?_,?_,o⟩
  .simp[Instr.range,A4,C7 hu,Result.andThen,newObj,Sem.run]
  .rw[i];exact .ptr h3
 .cases e
def MN{s p:Value}{b:ByteArray}(h:EF s p=some (b,k)):s=.string b/\p=.int .i64 (.ofNat k):=by
 unfold EF at h;split at h
 .cases h;exact⟨rfl,rfl⟩
 .cases h
def WN{x:Value}(h:HR P base ρ m.H w)(a:HI m x=some (v,m'))(hf:J6 ρ m.n m'.hi)(hx:VR ρ x x')(hS:Sat m'.lg):VOk P base ρ m w (Instr.next x' true ty) v m':=by
 unfold HI at a;split at a
 .rename_i r;obtain⟨l,hl,_,rfl⟩:=N6 hx;split at a
  .rename_i s p hg;obtain⟨⟨⟨J,E⟩,f,n,g1,g2⟩,_⟩:=h.atl hl hg;have I:(getObj l.blk).run P w=.ok (.stringIter f n) w:=by simp[getObj,Sem.run,g1]
   have i:l.blk<w.heap.size:=(C5.1 g1).1;have L:w.heap[l.blk]=.stringIter f n:=by
    have q:=g1;rw[E8 i]at q;exact A8 q
   obtain⟨s',r1,e1,Z,k2⟩:=g2.tail;obtain⟨p',r2,e2,S,k4⟩:=k2.tail;cases k4.nil_inv;cases e2;cases e1;have T:∀ Q:Nat,(setObj l.blk (.stringIter f Q)).run P w=.ok () { w with heap:=w.heap.set l.blk (.stringIter f Q) i }:=fun Q=>by
    simp[setObj,Sem.run,L,Array.setIfInBounds,i]
   have z:n<f.size->(Instr.next (.pointer (some ⟨l.blk,0+l.sh,none⟩)) true ty).run P w=.ok (.tuple #[.bool true,.int .i64 (.ofNat n),.int .i32 (.ofNat (Utf8.decode f n).1)]) { w with heap:=w.heap.set l.blk (.stringIter f (n+(Utf8.decode f n).2)) i }:=fun o=>by
    rw[E];simp[Instr.next,A4,Result.andThen_ok,I,o,T,goInt]
   have G:¬n<f.size->(Instr.next (.pointer (some ⟨l.blk,0+l.sh,none⟩)) true ty).run P w=.ok (.tuple #[.bool false]) w:=fun o=>by
    rw[E];simp[Instr.next,A4,Result.andThen_ok,I,o]
   have fin:∀ {m1 m2:Mem} {q:Value},J1 m m1->bM m1 r (.iter [s,q])=some m2->J6 ρ m.n m2.hi->VR ρ q (.int .i64 (.ofNat (n+(Utf8.decode f n).2)))->St P base ρ ρ m m2 w { w with heap:=w.heap.set l.blk (.stringIter f (n+(Utf8.decode f n).2)) i }:=fun{m1 m2 q} e W6 ay Y=>by
    obtain⟨lg,rfl⟩:=e;have O:=St.wLg h lg;have R:Hp.get (m.wLg lg).H r=some (.iter [s,p]):=by rw[jN];exact hg
    refine St.trans ay O (St.write (ab:=.iter [s,p]) (ab':=.iter [s,q]) O.hr W6 R rfl hl J ⟨rfl,rfl,rfl⟩ (by simp) (fun j hj=>?_) ?_)
    .show(w.heap.set l.blk _ i)[j]? = _;rw[l5,A7 (fun e=>hj e.symm)]
    .refine⟨⟨J,E⟩,f,_,?_,.cons Z (.cons Y .nil)⟩;show(w.heap.set l.blk _ i)[l.blk]? = _;rw[l5,A9 rfl]
   split at a
   .rename_i b k hc;obtain⟨rfl,rfl⟩:=MN hc;have e:=T5 Z;cases e;have e:=I6 S;cases e;by_cases o:n<f.size
    .have t:Nat.blt n f.data.toList.length=true:=C4 o;rw[t]at a;simp only[D7,E1]at a;split at a
     .rename_i m2 W6;cases a;exact⟨_,ρ,_,z o,.tuple rfl (LR.cons (.pure rfl) (LR.cons (.pure rfl) (LR.cons (.pure rfl) LR.nil))).2,fin ⟨m.lg,by cases m;rfl⟩ W6 hf (.pure rfl)⟩
     .cases a
    .have t:Nat.blt n f.data.toList.length=false:=by
      cases Y:Nat.blt n f.data.toList.length with
      | false=>rfl
      | true=>exact absurd (A1 Y) o
     rw[t]at a;cases a;exact⟨_,ρ,w,G o,.tuple rfl (LR.cons (.pure rfl) LR.nil).2,St.refl h⟩
   .obtain⟨h1,a⟩:=A3 a;obtain⟨h1,h2⟩:=B4 h1;have h1:=A0 h1;have h2:=A0 h2;obtain⟨s0,es,as⟩:=g9 Z h1;cases es;obtain⟨kk,nn,ep,ap,_⟩:=L6 S A2;cases ep;split at a
    .rename_i hh m1 C;split at a
     .rename_i c H N W hi lg B;have o1:=G8 C;have o2:=G8 B;have key:∀ {b:Bool} {g:Lg},brL lg c=some (b,g)->Sat g->(b=true↔n<s0.length)/\J1 m ⟨H,N,W,hi,g⟩:=fun{b g} t u=>by
       have K:Sat lg:=u.le (eF t);have az:Sat m1.lg:=Q6.le K (H4 B);have u1:VR ρ hh (.int .i64 s0.length):=by
        have:=(gB (ρ:=ρ) C az).2.2;rw[C3,F6,as]at this;exact this
       obtain⟨rfl,e1⟩:=hZ C;obtain⟨k5,n5,e5,a5,_⟩:=L6 u1 (show 3<8 by decide);cases e5;have u2:VR ρ c (.bool (decide ((n:Int)<s0.length))):=by
        have:=(gB (ρ:=ρ) B K).2.2;rw[C3,C3,F6,ap,a5]at this;have e:evU (.bin .lss) [.int .i64 (Int.ofNat n),.int .i64 (s0.length:Int)]=.bool (decide ((n:Int)<s0.length)):=by
         simp[evU,evB,v6,sK,gF,jK,DA,ofV]
        rw[e]at this;exact this
       have:=lC t u2 u;refine⟨?_,?_⟩
       .have:=Value.bool.inj this;rw[<- this,decide_eq_true_iff];omega
       .exact(o1.trans o2).trans ⟨g,rfl⟩
      split at a
      .rename_i g t;split at a
       .rename_i y m3 A;split at a
        .rename_i q m4 D;split at a
         .rename_i m5 W6;cases a;have M:Sat m4.lg:=by rw[<- cU W6];exact hS
          have F:=M.le (H4 D);have u:Sat g:=F.le (H4 A);obtain⟨kn,X⟩:=key t u;have o:=kn.1 rfl;have u3:VR ρ y (.int .i32 (.ofNat (Utf8.decode ⟨⟨s0⟩⟩ n).1)):=by
           have:=(gB (ρ:=ρ) A F).2.2;rw[C3,C3,F6,as,ap]at this;exact this
          have u4:VR ρ q (.int .i64 (.ofNat (n+(Utf8.decode ⟨⟨s0⟩⟩ n).2))):=by
           have:=(gB (ρ:=ρ) D M).2.2;rw[C3,C3,F6,as,ap]at this;exact this
          exact⟨_,ρ,_,z o,.tuple rfl (LR.cons (.pure rfl) (LR.cons S (LR.cons u3 LR.nil))).2,fin ((X.trans (G8 A)).trans (G8 D)) W6 hf u4⟩
         .cases a
        .cases a
       .cases a
      .rename_i g t;cases a;obtain⟨kn,X⟩:=key t hS;have o:¬n<s0.length:=fun q=>by have:=kn.2 q;cases this
       obtain⟨V,e3⟩:=X;refine⟨_,ρ,w,G o,.tuple rfl (LR.cons (.pure rfl) LR.nil).2,?_⟩;rw[e3];exact St.wLg h V
      .cases a
     .cases a
    .cases a
  .cases a
 .cases a
def RT{t:TypeId}{x:Value}(a:vP P m t x=some (v,m')):m.lg.le m'.lg:=by
 unfold vP at a;split at a
 .obtain⟨_,a⟩:=A3 a;rw[t7 a];exact .refl _
 .cases a
def WO{x:Value}(e:HI m x=some (v,m')):m.lg.le m'.lg:=by
 unfold HI at e;split at e
 .split at e
  .split at e
   .rename_i b k o;cases f:Nat.blt k b.data.toList.length with
    | true =>
      rw[f]at e;simp only[D7,E1]at e;split at e
      .rename_i W6;cases e;rw[cU W6];exact .refl _
      .cases e
    | false=>rw[f]at e;cases e;exact .refl _
   .obtain⟨_,e⟩:=A3 e;split at e
    .rename_i i;split at e
     .rename_i j;have a:=(H4 i).trans (H4 j);split at e
      .rename_i f;have a:=a.trans (eF f);split at e
       .rename_i n;split at e
        .rename_i g;split at e
         .rename_i W6;cases e;rw[cU W6];exact(a.trans (H4 n)).trans (H4 g)
         .cases e
        .cases e
       .cases e
      .rename_i f;cases e;exact a.trans (eF f)
      .cases e
     .cases e
    .cases e
  .cases e
 .cases e
def A4g{fr:Fr}{g:Operand->Value}{o:Oper}(h:HR P base ρ m.H w)(C:base<=w.heap.size)(b:xtM P fr m o=some (v,m'))(i:J6 ρ m.n m'.hi)(z:FR ρ fr g o.op)(f:Sat m'.lg):NOk P base ρ m w (execOp g o) v m':=by
 obtain⟨dst,op,ty,pos,E,D⟩:=o;unfold xtM at b;simp only at b z;have a:∀ {x},x ∈ op.operands.toList->VR ρ (ev fr x) (g x):=fun hx=>z _ hx
 split at b
 .rename_i s t x;exact NOk.of (A0F h b (a (x:=x) (by simp[Op.operands])))
 .rename_i op t x y J;exact NOk.of (VS h b (a (x:=x) (by simp[Op.operands])) (a (x:=y) (by simp[Op.operands])))
 .rename_i xs tys;have l1:=cG (ρ:=ρ) (fr:=fr) (g:=g) (xs:=xs.toList) fun y j=>z y (by show y ∈ (#[]++xs:Array Operand).toList;simpa using j)
  split at b
  .rename_i x hx;rw[hx]at l1;obtain⟨x',r1,B,g1,g2⟩:=l1.tail;cases g2.nil_inv;have q:xs.map g=#[x']:=by apply I3;simpa using B
   have:=A4w (tys:=tys) h b g1;have A:=NOk.of this;obtain⟨ks,u⟩:∃ ks,execOp g ⟨dst,.call ⟨.builtin .unsafeSliceData,xs,tys⟩,ty,pos,E,D⟩=builtin .unsafeSliceData tys ty ks (xs.map g):=⟨#[],rfl⟩;rw[u,q];exact A
  .cases b
 .rename_i xs tys;have l1:=cG (ρ:=ρ) (fr:=fr) (g:=g) (xs:=xs.toList) fun y j=>z y (by show y ∈ (#[]++xs:Array Operand).toList;simpa using j)
  split at b
  .rename_i p l t rest hx G;rw[hx]at l1;obtain⟨x',r1,B,g1,g2⟩:=l1.tail;obtain⟨I,K,rfl,g3,g4⟩:=g2.tail;cases g4.nil_inv;have q:xs.map g=#[x',I]:=by apply I3;simpa using B
   have A:=NOk.of (A4m (ty:=ty) (tys:=rest) h b g1 g3 f i);obtain⟨ks,u⟩:∃ ks,execOp g ⟨dst,.call ⟨.builtin .unsafeString,xs,tys⟩,ty,pos,E,D⟩=builtin .unsafeString tys ty ks (xs.map g):=⟨#[],rfl⟩;have F:tys=⟨t::rest⟩:=by rw[<- G]
   rw[u,q,F];exact A
  .cases b
 .rename_i t;exact NOk.of (A1e h C b i f)
 .rename_i t x k ok;exact NOk.of (SC h b (a (x:=x) (by simp[Op.operands])) (a (x:=k) (by simp[Op.operands])) f)
 .rename_i t x;exact NOk.of (RS h C b i (a (x:=x) (by simp[Op.operands])))
 .rename_i x;exact NOk.of (WN h b i (a (x:=x) (by simp[Op.operands])) f)
 .rename_i t x k e;obtain⟨rfl,hu⟩:=GT h C b i (a (x:=x) (by simp[Op.operands])) (a (x:=k) (by simp[Op.operands])) (a (x:=e) (by simp[Op.operands])) f;exact NOk.ofU hu
 .rename_i t x k e;obtain⟨rfl,hu⟩:=GT h C b i (a (x:=x) (by simp[Op.operands])) (a (x:=k) (by simp[Op.operands])) (a (x:=e) (by simp[Op.operands])) f;exact NOk.ofU hu
 .rename_i xs tys;have l1:=cG (ρ:=ρ) (fr:=fr) (g:=g) (xs:=xs.toList) fun y j=>z y (by show y ∈ (#[]++xs:Array Operand).toList;simpa using j)
  split at b
  .rename_i x t rest hx G;rw[hx]at l1;obtain⟨x',r1,B,g1,g2⟩:=l1.tail;cases g2.nil_inv;have q:xs.map g=#[x']:=by apply I3;simpa using B
   have A:=NOk.of (XD (ty:=ty) (tys:=rest) h b g1 f);obtain⟨ks,u⟩:∃ ks,execOp g ⟨dst,.call ⟨.builtin .len,xs,tys⟩,ty,pos,E,D⟩=builtin .len tys ty ks (xs.map g):=⟨#[],rfl⟩;have F:tys=⟨t::rest⟩:=by rw[<- G]
   rw[u,q,F];exact A
  .cases b
 .cases b
def A4h{fr:Fr}{o:Oper}(a:xtM P fr m o=some (v,m')):m.lg.le m'.lg:=by
 unfold xtM at a;split at a
 .unfold QK at a;split at a
  .split at a
   .obtain⟨_,a⟩:=A3 a;cases a;exact .refl _
   .cases a
  .split at a
   .obtain⟨_,a⟩:=A3 a;cases a;exact .refl _
   .cases a
  .obtain⟨_,a⟩:=A3 a;split at a
   .split at a
    .rename_i W6;cases a;obtain⟨_,rfl⟩:=T4 W6;exact .refl _
    .cases a
   .cases a
  .cases a
 .unfold OF at a;split at a
  .obtain⟨_,a⟩:=A3 a;split at a
   .cases a;exact .refl _
   .cases a;exact .refl _
   .cases a
  .cases a
 .split at a
  .unfold sdM at a;split at a
   .split at a
    .split at a
     .cases a;exact .refl _
     .cases a
    .cases a
   .cases a
  .cases a
 .split at a
  .unfold usM at a;split at a
   .obtain⟨_,a⟩:=A3 a;split at a
    .obtain⟨_,a⟩:=A3 a;split at a
     .rename_i b;split at a
      .rename_i hs;cases a;rw[cU hs];exact H4 b
      .cases a
     .cases a
    .cases a
   .cases a
  .cases a
 .exact A1f a
 .exact SD a
 .exact RT a
 .exact WO a
 .exact GU a
 .exact GU a
 .split at a
  .exact XE a
  .cases a
 .cases a
end
end
section
open Go
def fw(rd:Option Nat):Fence:={ Fence.wide with round:=rd }
def qA{rd:Option Nat}{n:Nat}:(fw rd).depth.isSome=true->1<=n:=fun h=>by cases h
def nR{rd:Option Nat}{n:Nat}{P:Program}{f:FuncId}{args:U9}{w:World}{R:Ending->World->Prop}:CallsIn (fw rd) n P f args w R↔Calls P f args w R :=
 ⟨fun h=>callsIn_wide.1 (show CallsIn Fence.wide n P f args w R from h),fun h=>show CallsIn (fw rd) n P f args w R from(callsIn_wide (n:=n)).2 h⟩
section
variable {P:Program} {rd:Option Nat}
def wpO(P:Program)(rd:Option Nat)(o:Oper)(a:Act)(w:World)(K:Act->World->Prop)(Q:Exit->Act->World->Prop):Prop:=o.wpIn (fw rd) 0 P a w K Q
def ET{o:Oper}{a:Act}{w:World}{K f:Act->World->Prop}{Q:Exit->Act->World->Prop}(h:∀ a w,K a w->f a w)(hh:wpO P rd o a w K Q):wpO P rd o a w f Q:=by
 unfold wpO Oper.wpIn at *;refine⟨hh.1,?_⟩;have hh:=hh.2;generalize (o.semAt (fw rd).round a.eval).run P w=r at *;cases r with
 | ok n w' =>
   cases n<;>simp only[Oper.uponIn]at hh ⊢ <;>
    first
     | exact h _ _ hh
     | exact⟨hh.1,CallsIn.mono hh.2 (fun e b he=>by cases e<;>first|exact h _ _ he|exact he)⟩
     | exact⟨hh.1,RowsIn.mono hh.2 (fun _ _ he=>h _ _ he)⟩
     | exact⟨hh.1,RoundIn.mono hh.2 (fun e b he=>by cases e<;>first|exact h _ _ he|exact he)⟩
 | halt x w'=>cases x<;>simp only[Oper.uponIn]at hh ⊢<;>exact hh
def wpL(P:Program)(rd:Option Nat)(ops:Array Oper)(Q:Exit->Act->World->Prop):List Oper->Act->World->Prop
 | [],a,w=>Q .normal a w
 | o::rest,a,w=>if Region.wanted o (yielded ops a.tmps)then wpO P rd o a w (wpL P rd ops Q rest) Q else wpL P rd ops Q rest (a.put o.dst undef) w
def EU{ops:Array Oper}{Q:Exit->Act->World->Prop}{a:Act}{w:World}{rest:List Oper}{o:Oper}
  (h:∀ K:Act->World->Prop,(∀ a w,wpL P rd ops Q rest a w->K a w)->if Region.wanted o (yielded ops a.tmps)then wpO P rd o a w K Q else K (a.put o.dst undef) w):wpL P rd ops Q (o::rest) a w:=h _ fun _ _ h=>h
def NE{ops:Array Oper}{Q:Exit->Act->World->Prop}:∀ (l:List Oper) (k:Nat),(∀ j,l[j]? = ops[k+j]?)->∀ a w,wpL P rd ops Q l a w->wpOpsIn (fw rd) 0 P ops Q (List.range' k l.length) a w
 | [],k,_,a,w,h=>h
 | o::l,k,hk,a,w,h=>by
   have h0:ops[k]? = some o:=by simpa using(hk 0).symm
   have b:=NE (Q:=Q) l (k+1) (fun j=>by have:=hk (j+1);simpa [bK,iO 1 j]using this);simp only[E5,List.range'_succ,wpOpsIn,h0];unfold wpL at h;split
   .rename_i hw;rw[A9 hw]at h;exact ET b h
   .rename_i hw;rw[A7 hw]at h;exact⟨fun _ _=>trivial,b _ _ h⟩
def tO{id:Nat}{ops:Array Oper}{Q:Exit->Act->World->Prop}{a:Act}{w:World}(h:wpL P rd ops Q ops.toList a w):(Code.region id ops false).wpIn (fw rd) 0 P Q a w :=
 wpIn_region (by
  have:=NE ops.toList 0 (by simp) a w h;rw[List.range_eq_range',<- Q3];exact this)
def fP(P:Program)(rd:Option Nat)(ops:Array Oper)(Q:Exit->Act->World->Prop)(i:Nat)(K:Act->World->Prop)(a:Act)(w:World):Prop :=
 match ops[i]? with
 | none=>K a w
 | some o=>if Region.wanted o (yielded ops a.tmps)then wpO P rd o a w K Q else K (a.put o.dst undef) w
def KC{ops:Array Oper}{Q:Exit->Act->World->Prop}{i:Nat}{a:Act}{w:World}{K b:Act->World->Prop}(h:∀ a w,K a w->b a w)(hh:fP P rd ops Q i K a w):fP P rd ops Q i b a w:=by
 unfold fP at *;split
 .exact h _ _ (by simpa [*]using hh)
 .rename_i o e;simp only[e]at hh;split
  .rename_i hw;simp only[hw,if_true]at hh;exact ET h hh
  .rename_i hw;simp only[hw]at hh;exact h _ _ hh
def BZ{ops:Array Oper}{Q:Exit->Act->World->Prop}{i:Nat}{rest:G5}{a:Act}{w:World}(h:fP P rd ops Q i (wpOpsIn (fw rd) 0 P ops Q rest) a w):wpOpsIn (fw rd) 0 P ops Q (i::rest) a w:=by
 unfold fP at h;simp only[wpOpsIn];split at h
 .rename_i e;simp only[e];exact h
 .rename_i o b;simp only[b];split at h
  .rename_i hw;rw[A9 hw];exact h
  .rename_i hw;rw[A7 hw];exact⟨fun _ _=>trivial,h⟩
def gO(P:Program)(rd:Option Nat)(md:Region.Mode)(ops:Array Oper)(Q:Exit->Act->World->Prop):Nat->Array Bool->Act->World->Prop
 | 0,listed,a,w=>Region.ready md ops listed=[]/\Q .normal a w
 | fuel+1,listed,a,w=>(Region.ready md ops listed=[]->Q .normal a w)/\∀ i ∈ Region.ready md ops listed,fP P rd ops Q i (gO P rd md ops Q fuel (listed.setIfInBounds i true)) a w
def CA{md:Region.Mode}{ops:Array Oper}{Q:Exit->Act->World->Prop}:∀ (fuel t:Nat) (listed:Array Bool) (a:Act) (w:World),gO P rd md ops Q fuel listed a w->wpOpsIn (fw rd) 0 P ops Q (Region.linearise.go md ops fuel t listed []) a w:=by
 intro fuel;induction fuel with
 | zero=>intro t listed a w h;simpa [Region.linearise.go,wpOpsIn]using h.2
 | succ fuel f =>
   intro t listed a w h;obtain⟨h0,h1⟩:=h;simp only[Region.linearise.go];change wpOpsIn (fw rd) 0 P ops Q (match (Region.ready md ops listed)[t%(Region.ready md ops listed).length]? with
    | some i=>Region.linearise.go md ops fuel (t / (Region.ready md ops listed).length) (listed.setIfInBounds i true) [i]
    | none=>[].reverse) a w
   cases hi:(Region.ready md ops listed)[t%(Region.ready md ops listed).length]? with
   | none =>
     have b:Region.ready md ops listed=[]:=by
      cases hr:Region.ready md ops listed with
      | nil=>rfl
      | cons x xs =>
        rw[hr]at hi;have e:t%(x::xs).length<(x::xs).length:=nV _ (by simp);simp at hi;simp at e;omega
     simpa [wpOpsIn]using h0 b
   | some i =>
     simp only[];rw[linearise_go_acc,List.reverse_singleton,List.singleton_append];exact BZ (KC (fun a w=>f _ _ a w) (h1 i (C6 hi)))
def jM{id:Nat}{ops:Array Oper}{Q:Exit->Act->World->Prop}{a:Act}{w:World}(hm:P.follows .mixedOrders=true)
  (h:gO P rd .any ops Q ops.size (Array.replicate ops.size false) a { w with drawn:=w.drawn+1 }):(Code.region id ops true).wpIn (fw rd) 0 P Q a w :=
 wpIn_region_draw fun t=>by
  simp only[Region.schedule,hm,Bool.true_or,if_true];exact CA ops.size t _ a _ h
def l7{b:Frame}{a:Act}{k:List Item}{w:World} :step P (lone (b.atR a (.code (.scope c)::k)) cs w)=.next (lone (b.atR a (.code c::.inScope c::k)) cs w) :=
 step_lone_go (by simp[stepG,stepG.exec,Frame.atR])
def yR{b:Frame}{a:Act}{k:List Item}{w:World} :step P (lone (b.atR a (.inScope c::k)) cs w)=.next (lone (b.atR a k) cs w) :=
 step_lone_go (by simp[stepG,stepG.exec,Frame.atR])
def Exit.calm(Q:Exit->Act->World->Prop):Exit->Act->World->Prop
 | .goto _,_,_=>False
 | e,a,w=>Q e a w
def KD{F:Fence}{n:Nat}{Q:Exit->Act->World->Prop}{a:Act}{w:World}(h:c.wpIn F n P (Exit.calm Q) a w):(Code.scope c).wpIn F n P Q a w:=by
 intro b k cs o q hr;have h0:(lone (b.atR a (.code (.scope c)::k)) cs w).fenced P F:=fenced_calm q hr rfl;obtain⟨e,i,g,j,f⟩:=h b (.inScope c::k) cs o q hr;cases e with
 | normal=>exact⟨.normal,i,g,j,.head h0 l7 (StepsIn.trans f (.one (fenced_calm q hr rfl) yR))⟩
 | exit id =>
   have hx:exitTo id (.inScope c::k)=exitTo id k:=rfl;exact⟨.exit id,i,g,j,fun k' s=>.head h0 l7 (f.1 k' (by rw[hx];exact s)),
    fun p s=>let ⟨k₁,h1,t⟩:=f.2 p (by rw[hx];exact s);⟨k₁,h1,.head h0 l7 t⟩⟩
 | goto l=>exact j.elim
 | ret=>exact⟨_,i,g,j,.of_steps (.one h0 l7) f⟩
 | panic u=>exact⟨_,i,g,j,.of_steps (.one h0 l7) f⟩
 | outgrown=>exact⟨_,i,g,j,.of_steps (.one h0 l7) f⟩
end
end
section
open Go
def mN(o:Op)(g:Operand->Value):Sem Value :=
 match o with
 | .move x|.assign x=>pure (g x)
 | .load t x=>Instr.loadAt t (g x)
 | .store t x y=>do Instr.storeAt t (g x) (g y);pure undef
 | _=>stuck "no such operation"
def rZ(P:Program)(o:Oper)(s:Act×World):Option (Act×World) :=
 match (mN o.op s.1.eval).run P s.2 with
 | .ok v w'=>some (s.1.put o.dst v,w')
 | .halt _ _=>none
section
variable {P:Program} {rd:Option Nat}
def uN{o:Oper}{s t:Act×World}(h:rZ P o s=some t):∃ v,(mN o.op s.1.eval).run P s.2=.ok v t.2/\t.1=s.1.put o.dst v:=by
 unfold rZ at h;split at h
 .rename_i v w' hr;cases h;exact⟨v,hr,rfl⟩
 .cases h
def mG{o:Oper}{s:Act×World}(h:(mN o.op s.1.eval).run P s.2=.ok v w'):rZ P o s=some (s.1.put o.dst v,w'):=by
 unfold rZ;rw[h]
def SW{o:Oper}(a:EE o.op=true)(w:World)(g:Operand->Value):o.about P w g=none:=by
 unfold Oper.about;cases b:o.op<;>rw[b]at a<;>first|rfl|cases a
def NQ{o:Oper}(a:EE o.op=true)(g:Operand->Value):∀ c,o.op≠.defer c:=fun c h=>by rw[h]at a;cases a
def A0x{o:Oper}(g:EE o.op=true){a a':Act}{w:World}{K:Act->World->Prop}{Q:Exit->Act->World->Prop}(h:rZ P o (a,w)=some (a',w'))(i:K a' w'):wpO P rd o a w K Q:=by
 obtain⟨v,h1,j⟩:=uN h;simp only at h1 j;subst j;unfold wpO Oper.wpIn;refine⟨fun f n=>(by rw[SW g]at n;cases n),?_⟩;rw[Oper.semAt_eq _ _ _ (NQ g a.eval)];cases b:o.op<;>rw[b]at g h1<;>first
  | cases g;done
  | skip
 .have e:(execOp a.eval o)=pure (.value (a.eval ‹Operand›)):=by unfold execOp;rw[b]
  rw[e];cases h1;exact i
 .have e:(execOp a.eval o)=pure (.value (a.eval ‹Operand›)):=by unfold execOp;rw[b]
  rw[e];cases h1;exact i
 .rename_i t x;have e:(execOp a.eval o)=(do pure (.value (<- Instr.loadAt t (a.eval x)))):=by unfold execOp;rw[b]
  have h1:(Instr.loadAt t (a.eval x)).run P w=.ok v w':=h1;rw[e];simp only[A4,h1,Result.andThen,Sem.run_pure];exact i
 .rename_i t x y;have e:(execOp a.eval o)=(do Instr.storeAt t (a.eval x) (a.eval y);pure .skip):=by unfold execOp;rw[b]
  have h1:(do Instr.storeAt t (a.eval x) (a.eval y);pure undef:Sem Value).run P w=.ok v w':=h1;rw[e];simp only[A4]at h1 ⊢;cases hr:(Instr.storeAt t (a.eval x) (a.eval y)).run P w with
  | ok u w2=>rw[hr]at h1;simp only[Result.andThen,Sem.run_pure]at h1 ⊢;cases h1;exact i
  | halt x w2=>rw[hr]at h1;cases h1
def A2J{o:Oper}(f:EE o.op=true){a:Act}{w:World}{K:Act->World->Prop}{Q:Exit->Act->World->Prop}(g:∀ c a w,¬Q (.panic c) a w)(h:wpO P rd o a w K Q):∃ a' w',rZ P o (a,w)=some (a',w')/\K a' w':=by
 unfold wpO Oper.wpIn at h;obtain⟨_,h⟩:=h;rw[Oper.semAt_eq _ _ _ (NQ f a.eval)]at h;cases b:o.op<;>rw[b]at f<;>first
  | cases f;done
  | skip
 .rename_i x;have e:(execOp a.eval o)=pure (.value (a.eval x)):=by unfold execOp;rw[b]
  rw[e]at h;exact⟨_,_,mG (s:=(a,w)) (v:=a.eval x) (w':=w) (by rw[b];rfl),h⟩
 .rename_i x;have e:(execOp a.eval o)=pure (.value (a.eval x)):=by unfold execOp;rw[b]
  rw[e]at h;exact⟨_,_,mG (s:=(a,w)) (v:=a.eval x) (w':=w) (by rw[b];rfl),h⟩
 .rename_i t x;have e:(execOp a.eval o)=(do pure (.value (<- Instr.loadAt t (a.eval x)))):=by unfold execOp;rw[b]
  rw[e]at h;simp only[A4]at h;cases hr:(Instr.loadAt t (a.eval x)).run P w with
  | ok v w' =>
    rw[hr]at h;exact⟨_,_,mG (s:=(a,w)) (v:=v) (w':=w') (by rw[b];exact hr),h⟩
  | halt y w' =>
    rw[hr]at h;cases y<;>first|exact absurd h (g _ _ _)|exact h.elim
 .rename_i t x y;have e:(execOp a.eval o)=(do Instr.storeAt t (a.eval x) (a.eval y);pure .skip):=by unfold execOp;rw[b]
  rw[e]at h;simp only[A4]at h;cases hr:(Instr.storeAt t (a.eval x) (a.eval y)).run P w with
  | ok u w' =>
    rw[hr]at h;refine⟨_,_,mG (s:=(a,w)) (v:=undef) (w':=w') ?_,h⟩;rw[b];show(do Instr.storeAt t (a.eval x) (a.eval y);pure undef:Sem Value).run P w=_;simp only[A4,hr,Result.andThen,Sem.run_pure]
  | halt z w' =>
    rw[hr]at h;cases z<;>first|exact absurd h (g _ _ _)|exact h.elim
def VI{a:Act}{e:Option Tmp}{u:Value}(h:∀ x y,d=some x->e=some y->x≠y):(a.put d v).put e u=(a.put e u).put d v:=by
 cases d with
 | none=>rfl
 | some x=>cases e with
   | none=>rfl
   | some y =>
     have b:=h x y rfl rfl;unfold Act.put;simp only;congr 1;exact Array.setIfInBounds_comm _ _ b
def gG{a:Act}{x:Operand}(h:∀ t,d=some t->t ∉ oG x):(a.put d v).eval x=a.eval x:=by
 cases x with
 | const c=>cases d<;>rfl
 | tmp t =>
   cases d with
   | none=>rfl
   | some y =>
     have:y≠t:=fun e=>h y rfl (by subst e;exact R5.2 rfl)
     unfold Act.put Act.eval;simp only[B5];rw[Array.getElem?_setIfInBounds_ne this]
 | _=>cases d<;>rfl
variable [Ora]
def zB(P:Program)(w:World)(t:TypeId)(p:Value):Prop :=
 ∃ b o C T fz s g,p=.pointer (some ⟨b,o,none⟩)/\w.heap[b]? = some (.cells C T fz)/\G3 P t=some s/\u9 P t=some g/\o+s<=C.size/\o<C.size
def AI{t:TypeId}{b o s:Nat}{C:U9}{T:TypeId}{g:Bool}(hs:G3 P t=some s)(n:u9 P t=some g)(h1:o+s<=C.size)(p:o<C.size):∃ v,∀ w:World,w.heap[b]? = some (.cells C T fz)->(Instr.loadAt t (.pointer (some ⟨b,o,none⟩))).run P w=.ok v w:=by
 have a:∀ w:World,w.heap[b]? = some (.cells C T fz)->∀ j v,C[o+j]? = some v->w.cell? ⟨b,o+j,none⟩=some v:=fun w hw j v hv=>by simp[World.cell?,hw,hv]
 cases g with
 | true =>
   refine⟨.agg ⟨(C.toList.drop o).take s⟩,fun w hw=>?_⟩;have q:((C.toList.drop o).take s).length=s:=by rw[K4,E4,Q3];omega
   have f:=J7 (P:=P) (w:=w) (b:=b) (o:=o) q (fun j v e=>by
    have i:j<s:=by have:=(B0.1 e).1;omega
    rw[F2 i,H5,X3]at e;exact a w hw j v e)
   unfold Instr.loadAt;simp[A4,Instr.sureAddr,loadVar,bG n,K1 hs,Result.andThen,f]
 | false =>
   refine⟨C[o],fun w hw=>?_⟩
   have:=a w hw 0 C[o] (by simp[p]);unfold Instr.loadAt;simp[A4,Instr.sureAddr,loadVar,bG n,Result.andThen,run_load,show w.cell? ⟨b,o,none⟩=some C[o]from by simpa using this]
def vA{b o:Nat}{T:TypeId}{fz:Nat×Nat}:∀ (vs:List Value) (i:Nat) (C:Array Value) (w w':World),w.heap[b]? = some (.cells C T fz)->o+i+vs.length<=C.size->(storeCells ⟨b,o,none⟩ vs i).run P w=.ok () w' ->
  (∀ k,k≠b->w'.heap[k]? = w.heap[k]?)/\∃ C',w'.heap[b]? = some (.cells C' T fz)/\C'.size=C.size
 | [],i,C,w,w',h,_,hr=>by cases hr;exact⟨fun _ _=>rfl,C,h,rfl⟩
 | v::r,i,C,w,w',h,hl,hr=>by
   simp only[E5]at hl;have f:o+i<C.size:=A2;have n:w.cell? ⟨b,o+i,none⟩=some C[o+i]:=by simp[World.cell?,h,f]
   have q:(w.setCell ⟨b,o+i,none⟩ v).heap[b]? = some (.cells (C.setIfInBounds (o+i) v) T fz):=by
    simp[World.setCell,G7,h]
   unfold storeCells at hr;simp only[A4,J7.add_none']at hr;have a:(store ⟨b,o+i,none⟩ v).run P w=.ok () (w.setCell ⟨b,o+i,none⟩ v)∨∃ x w2,(store ⟨b,o+i,none⟩ v).run P w=.halt x w2:=by
    unfold store;cases v<;>first
     | exact .inr ⟨_,_,rfl⟩
     | (simp only[Sem.run,n]
        split
        .exact .inr ⟨_,_,rfl⟩
        .exact .inl rfl)
   rcases a with a|⟨x,w2,a⟩
   .rw[a]at hr;simp only[Result.andThen]at hr;obtain⟨s,C',j,p⟩:=vA r (i+1) _ _ _ q (by simp;omega) hr;refine⟨fun k g=>?_,C',j,by rw[p];simp⟩;rw[s k g];simp only[World.setCell,G7];rw[A7 (fun e=>g e.symm)]
   .rw[a]at hr;cases hr
def CE{t:TypeId}{b o s:Nat}{C:U9}{T:TypeId}{y:Value}{w:World}(hs:G3 P t=some s)(hw:w.heap[b]? = some (.cells C T fz))(h1:o+s<=C.size)(hr:(Instr.storeAt t (.pointer (some ⟨b,o,none⟩)) y).run P w=.ok () w') :
  (∀ k,k≠b->w'.heap[k]? = w.heap[k]?)/\∃ C',w'.heap[b]? = some (.cells C' T fz)/\C'.size=C.size:=by
 unfold Instr.storeAt at hr;simp only[A4,Instr.sureAddr,storeVar,K1 hs,Result.andThen,Sem.run_pure]at hr;by_cases a:y.cells.size≠s
 .rw[A9 a]at hr;cases hr
 .rw[A7 a]at hr;have a:=Classical.not_not.1 a;exact vA y.cells.toList 0 C w w' hw (by rw[Q3,a];omega) hr
structure KA (P:Program) (ops:List Oper) (s:Act×World):Prop where
 pl:∀ o ∈ ops,∀ t x,lE o.op=some (t,x)->zB P s.2 t (s.1.eval x)
 ap:∀ i j a b,i<j->ops[i]? = some a->ops[j]? = some b->qH b i=false->(eT a.op || eT b.op)=true->∀ t x u y,lE a.op=some (t,x)->lE b.op=some (u,y)->∀ p q,s.1.eval x=.pointer (some p)->s.1.eval y=.pointer (some q)->p.block≠q.block
def wX{b:Nat}:o9 l b=true↔b ∈ l:=by
 unfold o9;rw[O8];constructor
 .rintro⟨x,h,e⟩;have:=A0 e;subst this;exact h
 .intro h;exact⟨b,h,cY b⟩
def HE{a:List Tmp}:∀ {l:List Oper} {k i:Nat} {o:Oper},WF a k l=true->l[i]? = some o->A5C a (k+i) o=true
 | [],k,i,o,_,h=>by simp at h
 | p::l,k,0,o,h,hi=>by
   simp at hi;subst hi;exact(B4 h).1
 | p::l,k,i+1,o,h,hi=>by
   have:=HE (l:=l) (k:=k+1) (i:=i) (o:=o) (B4 h).2 (by simpa using hi);rw[show k+(i+1)=k+1+i by omega];exact this
structure One (ops:List Oper) (i:Nat) (o:Oper):Prop where
 cls:EE o.op=true
 grd:o.guard=none
 ads:∀ p ∈ ops,∀ t x,lE p.op=some (t,x)->∀ d,o.dst=some d->d ∉ oG x
 lt:∀ e ∈ o.after,Region.binds .any e=true->e.on<i
def lS{ops:List Oper}(h:jV ops=true){i:Nat}{o:Oper}(hi:ops[i]? = some o):One ops i o:=by
 have h1:=HE (B4 h).1 hi;rw[E9]at h1;unfold A5C at h1;obtain⟨b,h1⟩:=B4 h1;obtain⟨a2,h1⟩:=B4 h1;obtain⟨a3,a4⟩:=B4 h1;refine⟨b,?_,fun p hp t x hx d j hm=>?_,fun e he a=>?_⟩
 .cases f:o.guard with
  | none=>rfl
  | some g=>rw[f]at a2;cases a2
 .have:o9 (A0i ops) d=true:=wX.2 (List.mem_flatMap.2 ⟨p,hp,by rw[hx];exact hm⟩);unfold zW at a3;rw[j]at a3;simp only at a3;rw[this]at a3;cases a3
 .have:=eK.1 a4 e he;rw[a]at this;exact A1 this
def GK{p:Oper->Oper->Bool}{ops:List Oper}(h:CQ p ops=true){i j:Nat}{a b:Oper}(e:i<j)(hi:ops[i]? = some a)(g:ops[j]? = some b)(he:qH b i=false):p a b=true:=by
 unfold CQ at h;have f:=(B0.1 g).1
 have:=D0.1 (D0.1 h j (V2.2 f)) i (V2.2 e);rw[hi,g]at this;simp only[he,P2]at this;exact this
def GO{o:Oper}{a:Act}(b:∀ t,d=some t->t ∉ VF o.op)(f:EE o.op=true):mN o.op (a.put d v).eval=mN o.op a.eval:=by
 cases g:o.op<;>rw[g]at f b<;>first
  | cases f;done
  | skip
 .unfold mN;simp only;rw[gG b]
 .unfold mN;simp only;rw[gG b]
 .unfold mN;simp only;rw[gG b]
 .unfold mN;simp only;rw[gG (fun t e hm=>b t e (B7.2 (.inl hm))),gG (fun t e hm=>b t e (B7.2 (.inr hm)))]
def uG{o:Oper}{s:Act×World}(e:EE o.op=true)(a:eT o.op=false)(hp:∀ t x,lE o.op=some (t,x)->zB P s.2 t (s.1.eval x))(h:(mN o.op s.1.eval).run P s.2=.ok v w'):w'=s.2:=by
 cases z:o.op<;>rw[z]at e a h hp<;>first
  | cases e;done
  | cases a;done
  | skip
 .cases h;rfl
 .cases h;rfl
 .rename_i t x;obtain⟨b,o',C,T,fz,sz,g,p,i,j,q,n,f⟩:=hp t x rfl;obtain⟨u,hu⟩:=AI (P:=P) (T:=T) (fz:=fz) j q n f;have h:(Instr.loadAt t (s.1.eval x)).run P s.2=.ok v w':=h;rw[p,hu s.2 i]at h;cases h;rfl
def uZ{o:Oper}{s:Act×World}(a:eT o.op=true)(hp:∀ t x,lE o.op=some (t,x)->zB P s.2 t (s.1.eval x))(h:(mN o.op s.1.eval).run P s.2=.ok v w') :
  ∃ t x b o' C T fz,lE o.op=some (t,x)/\s.1.eval x=.pointer (some ⟨b,o',none⟩)/\s.2.heap[b]? = some (.cells C T fz)/\(∀ k,k≠b->w'.heap[k]? = s.2.heap[k]?)/\∃ C',w'.heap[b]? = some (.cells C' T fz)/\C'.size=C.size:=by
 cases q:o.op<;>rw[q]at a h hp<;>first
  | cases a;done
  | skip
 rename_i t x y;obtain⟨b,o',C,T,fz,sz,g,f,e,j,B,n,A⟩:=hp t x rfl;have h:(do Instr.storeAt t (s.1.eval x) (s.1.eval y);pure undef:Sem Value).run P s.2=.ok v w':=h;simp only[A4]at h;cases hr:(Instr.storeAt t (s.1.eval x) (s.1.eval y)).run P s.2 with
 | ok u w2 =>
   rw[hr]at h;simp only[Result.andThen,Sem.run_pure]at h;cases h;rw[f]at hr;obtain⟨p,i⟩:=CE j e n hr;exact⟨t,x,b,o',C,T,fz,rfl,f,e,p,i⟩
 | halt z w2=>rw[hr]at h;cases h
def zB.keep{w:World}{t:TypeId}{p:Value}(h:zB P w t p)(f:∀ (b:Nat) (C:Array Value) (T:TypeId) (fz:Nat×Nat),w.heap[b]? = some (.cells C T fz)->∃ C',w'.heap[b]? = some (.cells C' T fz)/\C'.size=C.size):zB P w' t p:=by
 obtain⟨b,o,C,T,fz,s,g,i,a,e,j,u,n⟩:=h;obtain⟨C',h1,q⟩:=f b C T fz a;exact⟨b,o,C',T,fz,s,g,i,h1,e,j,A2,A2⟩
def KA.step{ops:List Oper}{s D:Act×World}{i:Nat}{o:Oper}(hr:jV ops=true)(B:KA P ops s)(hi:ops[i]? = some o)(h:rZ P o s=some D):KA P ops D:=by
 obtain⟨v,h1,L⟩:=uN h;have J:=lS hr hi;have f:=C6 hi;have g:∀ p ∈ ops,∀ t x,lE p.op=some (t,x)->D.1.eval x=s.1.eval x:=fun p hp t x hx=>by rw[L];exact gG (J.ads p hp t x hx)
 have R:∀ (b:Nat) (C:Array Value) (T:TypeId) (fz:Nat×Nat),s.2.heap[b]? = some (.cells C T fz)->∃ C',D.2.heap[b]? = some (.cells C' T fz)/\C'.size=C.size:=fun b C T fz A=>by
  cases n:eT o.op with
  | false=>rw[uG J.cls n (fun t x hx=>B.pl o f t x hx) h1];exact⟨C,A,rfl⟩
  | true =>
    obtain⟨t,x,b',o',W,X,V,Z,Y,M,S,C',O,K⟩:=uZ n (fun t x hx=>B.pl o f t x hx) h1;by_cases e:b=b'
    .subst e;rw[M]at A;cases A;exact⟨C',O,K⟩
    .exact⟨C,by rw[S b e];exact A,rfl⟩
 refine⟨fun p hp t x hx=>by rw[g p hp t x hx];exact(B.pl p hp t x hx).keep R,fun i j a b E h3 I Q N t x u y G H p q F z=>?_⟩;rw[g a (C6 h3) t x G]at F;rw[g b (C6 I) u y H]at z;exact B.ap i j a b E h3 I Q N t x u y G H p q F z
def ZQ{ops:List Oper}{s s1 s2:Act×World}{i j:Nat}{a b:Oper}(hr:jV ops=true)(N:KA P ops s)(G:i<j)(hi:ops[i]? = some a)(I:ops[j]? = some b)(he:qH b i=false)(h1:rZ P a s=some s1)(h2:rZ P b s1=some s2):∃ t,rZ P b s=some t/\rZ P a t=some s2:=by
 have Y:=lS hr hi;have M:=lS hr I;have ma:=C6 hi;have mb:=C6 I;have f:=GK (B4 hr).2 G hi I he;unfold A7D at f;obtain⟨i1,f⟩:=B4 f;obtain⟨i2,f⟩:=B4 f;obtain⟨i3,i4⟩:=B4 f;have S:∀ t,a.dst=some t->t ∉ VF b.op:=fun t X hm=>by
  unfold zW at i2;rw[X]at i2;simp only at i2;rw[wX.2 hm]at i2;cases i2
 have O:∀ t,b.dst=some t->t ∉ VF a.op:=fun t X hm=>by
  unfold zW at i3;rw[X]at i3;simp only at i3;rw[wX.2 hm]at i3;cases i3
 have R:∀ x y,a.dst=some x->b.dst=some y->x≠y:=fun x y hx hy e=>by
  rw[hx,hy]at i1;simp only at i1;subst e;rw[cY]at i1;cases i1
 obtain⟨v,J,e2⟩:=uN h1;obtain⟨u,D,e4⟩:=uN h2;obtain⟨a1,w1⟩:=s1;obtain⟨a2,w2⟩:=s2;obtain⟨a0,w0⟩:=s;simp only at J e2 D e4;subst e2;subst e4;rw[GO S M.cls]at D;suffices hh:∃ w',(mN b.op a0.eval).run P w0=.ok u w'/\(mN a.op a0.eval).run P w'=.ok v w2 by
  obtain⟨w',q1,q2⟩:=hh;refine⟨(a0.put b.dst u,w'),mG (s:=(a0,w0)) q1,?_⟩
  have:=mG (P:=P) (o:=a) (s:=(a0.put b.dst u,w')) (v:=v) (w':=w2) (by show(mN a.op (a0.put b.dst u).eval).run P w'=_;rw[GO O Y.cls];exact q2);rw[this];simp only;rw[VI R]
 have E:∀ t x,lE a.op=some (t,x)->zB P w0 t (a0.eval x):=fun t x hx=>N.pl a ma t x hx
 have q:∀ t x,lE b.op=some (t,x)->zB P w0 t (a0.eval x):=fun t x hx=>N.pl b mb t x hx
 have p:∀ {o:Oper} {w w':World} {r:Value},EE o.op=true->eT o.op=false->(∀ t x,lE o.op=some (t,x)->∃ n A C T fz s g,a0.eval x=.pointer (some ⟨n,A,none⟩)/\w.heap[n]? = some (.cells C T fz)/\w'.heap[n]? = some (.cells C T fz)/\G3 P t=some s/\u9 P t=some g/\A+s<=C.size/\A<C.size)->(mN o.op a0.eval).run P w=.ok r w->(mN o.op a0.eval).run P w'=.ok r w':=fun{o w w' r} hc L hp h=>by
  cases ho:o.op<;>rw[ho]at hc L h hp<;>first
   | cases hc;done
   | cases L;done
   | skip
  .cases h;rfl
  .cases h;rfl
  .rename_i t x;obtain⟨n,A,C,T,fz,sz,g,f1,f2,f3,f4,f5,f6,f7⟩:=hp t x rfl;obtain⟨z,hz⟩:=AI (P:=P) (T:=T) (fz:=fz) f4 f5 f6 f7;have h:(Instr.loadAt t (a0.eval x)).run P w=.ok r w:=h;show(Instr.loadAt t (a0.eval x)).run P w'=.ok r w';rw[f1,hz w f2]at h;rw[f1,hz w' f3];cases h;rfl
 cases H:eT a.op with
 | false =>
   have hw:w1=w0:=uG (s:=(a0,w0)) Y.cls H E J;subst hw;refine⟨w2,D,?_⟩;refine p Y.cls H (fun t x hx=>?_) J;obtain⟨n,A,C,T,fz,sz,g,f1,f2,f3,f4,f5,f6⟩:=E t x hx;cases B:eT b.op with
   | false =>
     have Q:w2=w1:=uG (s:=(a0,w1)) M.cls B q D;subst Q;exact⟨n,A,C,T,fz,sz,g,f1,f2,f2,f3,f4,f5,f6⟩
   | true =>
     obtain⟨V,x',b',o',C0,T0,Z,g1,g2,g3,g4,_⟩:=uZ (s:=(a0,w1)) B q D;have F:=N.ap i j a b G hi I he (by rw[H,B];rfl) t x V x' hx g1 _ _ f1 g2;exact⟨n,A,C,T,fz,sz,g,f1,f2,(g4 n F).trans f2,f3,f4,f5,f6⟩
 | true =>
   have B:eT b.op=false:=by
    cases h:eT b.op with
    | false=>rfl
    | true=>rw[H,h]at i4;cases i4
   obtain⟨V,x',b',o',C0,T0,Z,g1,g2,g3,g4,C1,g5,g6⟩:=uZ (s:=(a0,w0)) H E J;have K:∀ t x,lE b.op=some (t,x)->zB P w1 t (a0.eval x):=fun t x hx=>(q t x hx).keep fun b C T fz W=>by
    by_cases e:b=b'
    .subst e;rw[g3]at W;cases W;exact⟨C1,g5,g6⟩
    .exact⟨C,by rw[g4 b e];exact W,rfl⟩
   have hw:w2=w1:=uG (s:=(a0,w1)) M.cls B K D;subst hw;refine⟨w0,?_,J⟩;refine p M.cls B (fun t x hx=>?_) D;obtain⟨n,A,C,T,fz,sz,g,f1,f2,f3,f4,f5,f6⟩:=q t x hx;have F:=N.ap i j a b G hi I he (by rw[H,B];rfl) V x' t x g1 hx _ _ g2 f1;exact⟨n,A,C,T,fz,sz,g,f1,(g4 n (fun e=>F e.symm)).trans f2,f2,f3,f4,f5,f6⟩
def CK(P:Program)(ops:List Oper):G5->Act×World->Option (Act×World)
 | [],s=>some s
 | i::l,s=>match ops[i]? with
   | some o=>match rZ P o s with
     | some s=>CK P ops l s
     | none=>none
   | none=>CK P ops l s
def nF{ops:List Oper}(hr:jV ops=true){j:Nat}{b:Oper}(f:ops[j]? = some b){l2:G5}{r:Act×World}:∀ (l1:List Nat) (s:Act×World),KA P ops s->(∀ i ∈ l1,i<j/\qH b i=false)->CK P ops (l1++j::l2) s=some r->∃ s1,rZ P b s=some s1/\CK P ops (l1++l2) s1=some r
 | [],s,hg,_,h=>by
   simp only[G2,CK,f]at h;split at h
   .rename_i s1 h1;exact⟨s1,h1,h⟩
   .cases h
 | i::l1,s,hg,hl,h=>by
   obtain⟨h0,he⟩:=hl i B2;have e:∀ i ∈ l1,i<j/\qH b i=false:=fun k n=>hl k (B8 _ n)
   simp only[R1,CK]at h ⊢;cases hi:ops[i]? with
   | none =>
     rw[hi]at h;exact nF hr f l1 s hg e h
   | some a =>
     rw[hi]at h;simp only at h ⊢;split at h
     .rename_i p h1;obtain⟨s1,g,o⟩:=nF hr f l1 p (hg.step hr hi h1) e h;obtain⟨t,t1,t2⟩:=ZQ hr hg h0 hi f he h1 g;exact⟨t,t1,by rw[t2];exact o⟩
     .cases h
def jG(n:Nat)(listed:Array Bool):G5:=(List.range n).filter fun i=>!listed.getD i true
def oW{n:Nat}{i:Nat}:i ∈ jG n listed↔i<n/\listed.getD i true=false:=by
 unfold jG;rw[O4,V2];simp
def CM(n:Nat)(listed:Array Bool):(jG n listed).Pairwise (· < ·):=List.Pairwise.filter _ List.pairwise_lt_range
def VE{n:Nat}{i:Nat}{l1 l2:G5}(hi:i<listed.size)(h:jG n listed=l1++i::l2):jG n (listed.setIfInBounds i true)=l1++l2:=by
 have hp:=CM n listed;rw[h]at hp;have b:∀ k ∈ l1++l2,(k != i)=true:=fun k a=>by
  have hp:=List.pairwise_append.1 hp;rcases B7.1 a with a|a
  .have:=hp.2.2 k a i B2;simp;omega
  .have:=(List.pairwise_cons.1 hp.2.1).1 k a;simp;omega
 have e:jG n (listed.setIfInBounds i true)=(jG n listed).filter fun k=>k != i:=by
  unfold jG;rw[List.filter_filter];apply List.filter_congr;intro k _;simp only[B5,F5];by_cases e:i=k
  .subst e;simp[hi]
  .simp[e,Ne.symm e]
 rw[e,h,List.filter_append,List.filter_cons];have f:(i != i)=false:=by simp
 rw[f];simp only[I9,if_false];rw[cQ.2 fun k a=>b k (B7.2 (.inl a)),cQ.2 fun k a=>b k (B7.2 (.inr a))]
def AD{ops:Array Oper}(hr:jV ops.toList=true){Q:Exit->Act->World->Prop}:∀ (fuel:Nat) (listed:Array Bool) (a:Act) (w:World) (r:Act×World),listed.size=ops.size->KA P ops.toList (a,w)->(jG ops.size listed).length=fuel->CK P ops.toList (jG ops.size listed) (a,w)=some r->Q .normal r.1 r.2->gO P rd .any ops Q fuel listed a w
 | 0,listed,a,w,r,hsz,hg,hl,h,hq=>by
   have h0:=F8.1 hl;rw[h0]at h;cases h;refine⟨?_,hq⟩;rw[bC];intro i hi;have:i ∈ jG ops.size listed:=by
    unfold Region.ready at hi;rw[O4]at hi;unfold jG;rw[O4];exact⟨hi.1,(B4 hi.2).1⟩
   rw[h0]at this;cases this
 | fuel+1,listed,a,w,r,hsz,hg,hl,h,hq=>by
   have j:∀ {i:Nat},i<ops.size->∃ o,ops.toList[i]? = some o/\ops[i]? = some o:=fun{i} hi=>⟨ops[i],by simp[hi],by simp[hi]⟩
   refine⟨fun L=>?_,fun i hi=>?_⟩
   ·
    cases g:jG ops.size listed with
    | nil=>rw[g]at hl;cases hl
    | cons i t =>
      exfalso;have B:i ∈ jG ops.size listed:=by rw[g];exact B2
      obtain⟨i1,i2⟩:=oW.1 B;obtain⟨o,s,z⟩:=j i1;have A:=lS hr s;have f:=CM ops.size listed;rw[g]at f;have u:∀ k,k<i->listed.getD k false=true:=fun k F=>by
       have q:k<listed.size:=A2;cases hv:listed.getD k true with
       | true=>rw[<- hv];simp[B5,q]
       | false =>
         have:k ∈ jG ops.size listed:=oW.2 ⟨A2,hv⟩;rw[g]at this;rcases B3.1 this with e|hm
         .omega
         .have:=(List.pairwise_cons.1 f).1 k hm;omega
      have:i ∈ Region.ready .any ops listed:=by
       unfold Region.ready;rw[O4,V2];refine⟨i1,?_⟩;rw[i2,z];simp only[Bool.not_false,Bool.true_and,K3,aZ];rw[eK];intro e he;cases J:Region.binds .any e with
       | false=>rfl
       | true=>rw[u e.on (A.lt e he J)];rfl
      rw[L]at this;cases this
   .have hi':=hi;unfold Region.ready at hi;rw[O4,V2]at hi;obtain⟨i1,i2⟩:=hi;obtain⟨o,s,z⟩:=j i1;have A:=lS hr s;rw[z]at i2;obtain⟨i2,i3⟩:=B4 i2;simp only[K3,aZ]at i3;have C:listed.getD i true=false:=by simpa using i2
    have x:i ∈ jG ops.size listed:=oW.2 ⟨i1,C⟩;obtain⟨l1,l2,b⟩:=List.append_of_mem x;have f:=CM ops.size listed;rw[b]at f;have G:∀ k ∈ l1,k<i/\qH o k=false:=fun k F=>by
     refine⟨(List.pairwise_append.1 f).2.2 k F i B2,?_⟩;cases he:qH o k with
     | false=>rfl
     | true =>
       exfalso;unfold qH at he;rw[Array.any_eq_true']at he;obtain⟨e,hm,he⟩:=he;obtain⟨I,E⟩:=B4 he;have E:=A0 E
       have:=(eK.1 i3) e hm;rw[I,E]at this;simp only[P1,P2]at this;have q:=(oW (n:=ops.size) (listed:=listed) (i:=k)).1 (by rw[b];exact B7.2 (.inl F));have D:k<listed.size:=A2;have p:=q.2;simp[B5,D]at this p;rw[this]at p;cases p
    rw[b]at h;obtain⟨s1,H,M⟩:=nF hr s l1 (a,w) hg G h;have W6:=VE (n:=ops.size) (listed:=listed) (i:=i) (l1:=l1) (l2:=l2) A2 b;obtain⟨K,w1⟩:=s1;unfold fP;rw[z];simp only;have hw:Region.wanted o (yielded ops a.tmps)=true:=by unfold Region.wanted;rw[A.grd]
    rw[A9 hw];refine A0x A.cls H (AD hr fuel (listed.setIfInBounds i true) K w1 r (by simpa using hsz) (hg.step hr s H) ?_ (by rw[W6];exact M) hq);rw[W6];have:(l1++i::l2).length=fuel+1:=by rw[<- b];exact hl
    simp at this ⊢;omega
def zR{ops:Array Oper}(hr:jV ops.toList=true){Q:Exit->Act->World->Prop}:∀ (d k:Nat) (a:Act) (w:World),k+d=ops.size->wpL P rd ops (fun e a' w'=>e=.normal/\Q e a' w') (ops.toList.drop k) a w->∃ r,CK P ops.toList (List.range' k d) (a,w)=some r/\Q .normal r.1 r.2
 | 0,k,a,w,hk,h=>by
   have:ops.toList.drop k=[]:=Q8 (by simp;omega);rw[this]at h;exact⟨(a,w),rfl,h.2⟩
 | d+1,k,a,w,hk,h=>by
   have b:k<ops.toList.length:=by simp;omega
   rw[Z1 b]at h;have f:=lS hr (A5 b);unfold wpL at h;have hw:Region.wanted ops.toList[k] (yielded ops a.tmps)=true:=by unfold Region.wanted;rw[f.grd]
   rw[A9 hw]at h;obtain⟨a',w',h1,g⟩:=A2J f.cls (fun c a w hh=>by cases hh.1) h;obtain⟨r,r1,i⟩:=zR hr d (k+1) a' w' A2 g;refine⟨r,?_,i⟩;rw[List.range'_succ];simp only[CK,A5 b,h1];exact r1
def A1N{ops:Array Oper}(hr:jV ops.toList=true){Q:Exit->Act->World->Prop}{a:Act}{w:World}(f:∀ w',w'.heap=w.heap->KA P ops.toList (a,w'))(h:∀ d,wpL P rd ops (fun e a' w'=>e=.normal/\Q e a' w') ops.toList a { w with drawn:=d })(d:Nat):gO P rd .any ops Q ops.size (Array.replicate ops.size false) a { w with drawn:=d }:=by
 obtain⟨r,r1,b⟩:=zR hr ops.size 0 a { w with drawn:=d } A2 (by simpa using h d);have e:jG ops.size (Array.replicate ops.size false)=List.range' 0 ops.size:=by
  unfold jG;rw[List.range_eq_range',cQ];intro i hi;have:i<ops.size:=by have:=List.mem_range'.1 hi;omega
  simp[B5,this]
 exact AD hr ops.size _ a _ r (by simp) (f _ rfl) (by rw[e];simp) (by rw[e];exact r1) b
end
end
end Go.Sx
