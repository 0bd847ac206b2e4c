import Derived.Test.YtdimocjaepnifaaGreatDoorX4
import Derived.MapKept
import Derived.WideKeyRuns
import Derived.Lib.Builder
import Derived.LoopNIn
import Derived.RangeFuncRecord
set_option linter.all false
set_option maxRecDepth 100000
set_option maxHeartbeats 4000000
namespace Go.Sx
variable {ks l ts:I9}{k' v v' x':Value}{cs:List Frame}{k:Nat}{y:MTy}{d:Option Tmp}{kt pt ty:TypeId}{r us vs:List U}{rows rs:List (List U)}{es es':Array MapEntry}{hs xs:D6}{c:Code}{e':MapEntry}{tys:List TypeId}{w':World}{fz:Nat×Nat}{listed:Array Bool}
section
open Go
variable [Ora]
section
variable {P:Program} {base:Nat} {ρ:Ren} {m m':Mem} {w:World}
def yO:∀ {ts:I9} {cs cs':D6},FM ts cs=true->(∀ t ∈ ts,t<10)->LR ρ cs cs'->(cs.map (E7 Ora.env)).map G9=ts/\cs'=(cs.map (E7 Ora.env)).map Y8
 | [],[],cs',_,_,hl=>by cases hl.nil_inv;exact⟨rfl,rfl⟩
 | t::ts,v::vs,cs',h,ht,hl=>by
   obtain⟨h1,f⟩:=C5 (show(Nat.beq (I2 v) t && FM ts vs)=true from h);have h1:=A1 h1;obtain⟨v',r,rfl,g1,g2⟩:=hl.tail;obtain⟨a,b⟩:=yO f (fun x g=>ht x (D1 _ g)) g2;obtain⟨c,d⟩:=cZ g1 (by rw[h1];exact ht t C7);have e:Y8 (E7 Ora.env v)=v':=by unfold Y8;rw[c];rfl
   exact⟨by rw[F0,F0,a,d,h1],by rw[F0,F0,e,<- b]⟩
 | [],_::_,_,h,_,_=>by cases h
 | _::_,[],_,h,_,_=>by cases h
def nS{a:Bool}{cs:D6}(h:sQ a ts v=some cs)(g:∀ t ∈ ts,t<10)(f:VR ρ v v'):v'=v6 a (cs.map (E7 Ora.env))/\(cs.map (E7 Ora.env)).map G9=ts:=by
 unfold sQ at h;split at h
 .rename_i c;obtain⟨h1,h⟩:=A6 h;cases h;obtain⟨cs',rfl,i⟩:=o9 f;obtain⟨b,e⟩:=yO h1 g i;exact⟨by rw[e];rfl,b⟩
 .cases h
 .obtain⟨h1,h⟩:=A6 h;cases h;obtain⟨b,e⟩:=yO h1 g (LR.cons f LR.nil);refine⟨?_,b⟩
  have:=G2 List.head? e
  simpa [v6]using this
def DL{t:Nat}(h:jZ P t=some k):k<10:=by
 unfold jZ at h;split at h
 .cases h;decide
 .cases h;have:=Q2 ‹_›;omega
 .cases h;decide
 .cases h
def TT:∀ {g:List Field} {i:Nat} {l:I9},AF P g i=some l->∀ t ∈ l,t<10
 | [],i,l,h,t,e=>by cases h;cases e
 | f::g,i,l,h,t,e=>by
   unfold AF at h;split at h
   .rename_i a b h1 j;obtain⟨_,h⟩:=A6 h;cases h;rcases B7.1 e with rfl|e
    .exact DL h1
    .exact TT j t e
   .cases h
def NJ{T:TypeId}(h:A2F P T=some y):P.underlying T=some (.map y.kt y.vt)/\tD P y.kt=some (y.ka,y.ks)/\ZE P y.vt=some (y.va,y.vs)/\0<y.ks.length/\(∀ t ∈ y.ks,t<10)/\(∀ t ∈ y.vs,t<10)/\(y.va=false->y.vs.length=1):=by
 unfold A2F at h;split at h
 .rename_i kt vt hu;split at h
  .rename_i ka k ks va vs h1 a;cases h;refine⟨hu,h1,a,Nat.succ_pos _,?_,?_,?_⟩
   .intro t e;unfold tD at h1;split at h1
    .cases hs:P.stoodInHeld kt with
     | true=>rw[hs]at h1;cases h1
     | false =>
       rw[hs]at h1;simp only[E8]at h1;split at h1
       .rename_i l g;cases h1;exact TT g t e
       .cases h1
    .split at h1
     .rename_i z f;cases h1;simp only[B7,H7,or_false]at e;subst e;exact DL f
     .cases h1
   .intro t e;unfold ZE at a;split at a
    .obtain⟨h3,a⟩:=A6 a;cases a;exact A2 (D7.1 h3 t e)
    .obtain⟨h3,a⟩:=A6 a;cases a;simp only[B7,H7,or_false]at e;subst e;exact A2 h3
    .cases a
   .intro b;have b:va=false:=b;subst b;unfold ZE at a;split at a
    .obtain⟨_,a⟩:=A6 a;cases a
    .obtain⟨_,a⟩:=A6 a;cases a;rfl
    .cases a
  .cases h
 .cases h
def ZT{t:TypeId}{u v:U}(h:jZ P t=some k)(h1:G9 u=k)(f:G9 v=k)(n:Nat)(w:World):(Op.equalIn (n+1) t (Y8 u) (Y8 v)).run P w=.ok (isU u v) w:=by
 have o:=DL h;unfold jZ at h;split at h
 .rename_i hu;cases h;cases u<;>simp only[G9]at h1<;>first|omega|skip
  .have:=Q2 ‹_›;omega
  .cases v<;>simp only[G9]at f<;>first|omega|skip
   .have:=Q2 ‹_›;omega
   .simp[Y8,toV,isU,eqU,Op.equalIn,A8,D8 hu,Result.andThen]
 .rename_i j hu;cases h;cases u with
  | int a x =>
    cases v with
    | int b z =>
      have i:=wG h1;have g:=wG f;subst i;subst g;simp[Y8,toV,isU,eqU,Op.equalIn,A8,D8 hu,Result.andThen]
    | bool b=>simp only[G9]at f;have:=Q2 j;omega
    | str s=>simp only[G9]at f;have:=Q2 j;omega
    | seq _ _ _=>simp only[G9]at f;omega
    | none=>simp only[G9]at f;omega
  | bool b=>simp only[G9]at h1;have:=Q2 j;omega
  | str s=>simp only[G9]at h1;have:=Q2 j;omega
  | seq _ _ _=>simp only[G9]at h1;omega
  | none=>simp only[G9]at h1;omega
 .rename_i hu;cases h;cases u<;>simp only[G9]at h1<;>first|omega|skip
  .have:=Q2 ‹_›;omega
  .cases v<;>simp only[G9]at f<;>first|omega|skip
   .have:=Q2 ‹_›;omega
   .rename_i p q
    have:=run_equalIn_string (P:=P) w n t ⟨⟨p⟩⟩ ⟨⟨q⟩⟩ hu;have e:∀ s:List UInt8,Y8 (.str s)=.string ⟨⟨s⟩⟩:=fun _=>rfl
    rw[e,e,this];simp[isU,eqU,ByteArray.toList_eq]
 .cases h
def A3i{t:TypeId}{d:TypeDesc}{u v:U}(g:P.underlying t=some d)(h:jZ P t=some k)(h1:G9 u=k)(f:G9 v=k):Instr.sameNow d (Y8 u) (Y8 v)=some (isU u v):=by
 unfold jZ at h;split at h
 .rename_i hu;rw[hu]at g;cases g;cases h;cases u<;>simp only[G9]at h1<;>first|omega|skip
  .have:=Q2 ‹_›;omega
  .cases v<;>simp only[G9]at f<;>first|omega|skip
   .have:=Q2 ‹_›;omega
   .simp[Y8,toV,isU,eqU,Instr.sameNow]
 .rename_i j hu;rw[hu]at g;cases g;cases h;cases u with
  | int a x =>
    cases v with
    | int b z =>
      have n:=wG h1;have i:=wG f;subst n;subst i;simp[Y8,toV,isU,eqU,Instr.sameNow]
    | bool b=>simp only[G9]at f;have:=Q2 j;omega
    | str s=>simp only[G9]at f;have:=Q2 j;omega
    | seq _ _ _=>simp only[G9]at f;have:=Q2 j;omega
    | none=>simp only[G9]at f;have:=Q2 j;omega
  | bool b=>simp only[G9]at h1;have:=Q2 j;omega
  | str s=>simp only[G9]at h1;have:=Q2 j;omega
  | seq _ _ _=>simp only[G9]at h1;have:=Q2 j;omega
  | none=>simp only[G9]at h1;have:=Q2 j;omega
 .rename_i hu;rw[hu]at g;cases g;cases h;cases u<;>simp only[G9]at h1<;>first|omega|skip
  .have:=Q2 ‹_›;omega
  .cases v<;>simp only[G9]at f<;>first|omega|skip
   .have:=Q2 ‹_›;omega
   .rename_i p q;have e:(ByteArray.mk ⟨p⟩ == ByteArray.mk ⟨q⟩)=(p == q):=by
     show(Array.mk p == Array.mk q)=_;rw[N0,beq_iff_eq,beq_iff_eq];exact⟨fun h=>by injection h,fun h=>by rw[h]⟩
    simp[Y8,toV,isU,eqU,Instr.sameNow,e]
 .cases h
def xS{t:TypeId}(h:jZ P t=some k){X:D6}{i:Nat}(e:X[i]? = some v)(w:World):(part t ⟨X⟩ i).run P w=.ok v w:=by
 have a:∀ d,P.underlying t=some d->(match d with|.struct _|.array _ _=>False|_=>True)->(part t ⟨X⟩ i).run P w=.ok v w:=fun d b f=>by
  cases d<;>simp only at f<;>simp[part,isAgg,A8,D8 b,Result.andThen,e]
 unfold jZ at h;split at h
 .exact a _ ‹_› trivial
 .exact a _ ‹_› trivial
 .exact a _ ‹_› trivial
 .cases h
def KD:∀ {g:List Field} {i:Nat} {ks:I9} {us vs:List U} {p q:D6},AF P g i=some ks->us.map G9=ks->vs.map G9=ks->p.length=i->q.length=i->∀ (n:Nat) (w:World),(Op.eqFields (n+1) ⟨p++us.map Y8⟩ ⟨q++vs.map Y8⟩ g).run P w=.ok (Z7 us vs) w
 | [],i,ks,us,vs,p,q,h,h1,h2,hp,hq,n,w=>by
   cases h;have e:us=[]:=by simpa using h1
   have b:vs=[]:=by simpa using h2
   subst e;subst b;simp[Op.eqFields,Z7]
 | f::g,i,ks,us,vs,p,q,h,h1,h2,hp,hq,n,w=>by
   unfold AF at h;split at h
   .rename_i t l o B;obtain⟨z,h⟩:=A6 h;cases h;obtain⟨j,a⟩:=C5 z;have a:=A1 a;have A:f.name ≠ "_":=by simpa using j
    cases us with
    | nil=>cases h1
    | cons u us =>
      cases vs with
      | nil=>cases h2
      | cons v vs =>
        simp only[F0,H8]at h1 h2;have g1:(p++(u::us).map Y8)[f.offset]? = some (Y8 u):=by rw[a,<- hp,E9 (B0 _)];simp
        have g2:(q++(v::vs).map Y8)[f.offset]? = some (Y8 v):=by rw[a,<- hq,E9 (B0 _)];simp
        have e:=xS o g1 w;have b:=xS o g2 w;have s:=ZT o h1.1 h2.1 n w;have x:=KD (p:=p++[Y8 u]) (q:=q++[Y8 v]) B h1.2 h2.2 (by simp[hp]) (by simp[hq]) n w;rw[N5,N5]at x;unfold Op.eqFields;rw[A4 A];simp only[Z7];cases hs:isU u v with
        | false =>
          simp only[A8,e,b,s,hs,Result.andThen_ok];simp
        | true =>
          simp only[A8,e,b,s,hs,Result.andThen_ok,Q6];exact x
   .cases h
def B5U{a:Bool}(h:tD P kt=some (a,ks))(h1:us.map G9=ks)(b:vs.map G9=ks)(w:World):(Op.equal kt (v6 a us) (v6 a vs)).run P w=.ok (Z7 us vs) w:=by
 unfold tD at h;split at h
 .rename_i i hu;cases hs:P.stoodInHeld kt with
  | true=>rw[hs]at h;cases h
  | false =>
    rw[hs]at h;simp only[E8]at h;split at h
    .rename_i l g;cases h;have e:P.fieldsOf kt=i:=by simp[Program.fieldsOf,hu]
     show(Op.equalIn (9999+1) kt (.agg _) (.agg _)).run P w=_;rw[run_equalIn_struct (P:=P) w 9999 kt _ _ (by rw[e];exact hu) hs,e];exact KD (p:=[]) (q:=[]) g h1 b rfl rfl 9998 w
    .cases h
 .split at h
  .rename_i k f;cases h;cases us with
   | nil=>cases h1
   | cons u us=>cases us with
     | cons _ _=>simp at h1
     | nil=>cases vs with
       | nil=>cases b
       | cons v vs=>cases vs with
         | cons _ _=>simp at b
         | nil =>
           simp only[F0,K7,H8,and_true]at h1 b
           have:=ZT f h1 b 9999 w;show(Op.equalIn (9999+1) kt (Y8 u) (Y8 v)).run P w=_;rw[this];simp[Z7]
  .cases h
def FZ{t:TypeId}(h:jZ P t=some k)(e:Bool)(n:Nat)(v:Value)(w:World):(Instr.checkKey e (n+1) t v).run P w=.ok () w:=by
 unfold jZ at h;split at h
 .rename_i hu;simp[Instr.checkKey,A8,D8 hu,Result.andThen]
 .rename_i hu;simp[Instr.checkKey,A8,D8 hu,Result.andThen]
 .rename_i hu;simp[Instr.checkKey,A8,D8 hu,Result.andThen]
 .cases h
def xA(e:Bool)(n:Nat)(w:World):∀ (L:List Field) (i:Nat) (ks:List Nat) (us:List U) (p:List Value),AF P L i=some ks->us.map G9=ks->p.length=i ->
  (forIn L PUnit.unit fun f (_:PUnit)=>if f.name ≠ "_" then(do let x <- part f.type ⟨p++us.map Y8⟩ f.offset;Instr.checkKey e (n+1) f.type x;pure (ForInStep.yield PUnit.unit):Sem (ForInStep PUnit))else pure (ForInStep.yield PUnit.unit)).run P w=.ok PUnit.unit w
 | [],i,ks,us,p,h,h1,hp=>by simp
 | f::fs,i,ks,us,p,h,h1,hp=>by
   unfold AF at h;split at h
   .rename_i t l j A;obtain⟨q,h⟩:=A6 h;cases h;obtain⟨b,a⟩:=C5 q;have a:=A1 a;have s:f.name ≠ "_":=by simpa using b
    cases us with
    | nil=>cases h1
    | cons u us =>
      simp only[F0,H8]at h1;have g1:(p++(u::us).map Y8)[f.offset]? = some (Y8 u):=by rw[a,<- hp,E9 (B0 _)];simp
      have z:=xS j g1 w;have o:=FZ j e n (Y8 u) w;have g:=xA e n w fs (i+1) l us (p++[Y8 u]) A h1.2 (by simp[hp]);rw[N5]at g;rw[List.forIn_cons];simp only[A4 s,A8,z,o,Result.andThen_ok,Sem.run_pure];exact g
   .cases h
def KQ{a:Bool}(h:tD P kt=some (a,ks))(h1:us.map G9=ks)(e:Bool)(w:World):(Instr.checkKey e 10000 kt (v6 a us)).run P w=.ok () w:=by
 unfold tD at h;split at h
 .rename_i g hu;cases hs:P.stoodInHeld kt with
  | true=>rw[hs]at h;cases h
  | false =>
    rw[hs]at h;simp only[E8]at h;split at h
    .rename_i l f;have h:=h;cases h;have key:∀ n:Nat,(Instr.checkKey e (n+2) kt (.agg ⟨us.map Y8⟩)).run P w=.ok () w:=fun n=>by
      rw[Instr.checkKey];simp only[A8,D8 hu,Result.andThen_ok];rw[<- Array.forIn_toList]
      have:=xA e n w g.toList 0 _ us [] f h1 rfl;rw[X4]at this;rw[this];rfl
     exact key 9998
    .cases h
 .split at h
  .rename_i k b;cases h;exact FZ b e 9999 _ w
  .cases h
def sT(k:List U):List (List U)->Nat->Option (Nat×List U)
 | [],_=>none
 | r::rs,i=>if Z7 k r then some (i,r)else sT k rs (i+1)
def yB:∀ (us r:List U),Z7 us (r.take us.length)=Z7 us r
 | [],r=>rfl
 | a::us,[]=>rfl
 | a::us,b::r=>by
   show(isU a b && Z7 us (r.take us.length))=(isU a b && Z7 us r);rw[yB us r]
def BE.head{e:MapEntry}{es:List MapEntry}(h:BE y (r::rs) (e::es)):(r.map G9=y.ks++y.vs/\e.key=v6 y.ka (r.take y.ks.length)/\e.val=v6 y.va (r.drop y.ks.length))/\BE y rs es :=
 ⟨h.2 0 r e rfl rfl,by have:=h.1;simpa using this,fun i row b h1 a=>h.2 (i+1) row b (by simpa using h1) (by simpa using a)⟩
def IC(h:r.map G9=y.ks++y.vs):(r.take y.ks.length).map G9=y.ks/\(r.drop y.ks.length).map G9=y.vs:=by
 constructor
 .rw[bR,h,oM];rfl
 .rw[kZ,h,List.drop_left'];rfl
abbrev HO(y:MTy)(us:List U)(rows:List (List U))(i:Nat):Option (Nat×Value):=(sT us rows i).map fun p=>(p.1,v6 y.va (p.2.drop y.ks.length))
def LE{y:MTy}(f:tD P y.kt=some (y.ka,y.ks)){us:List U}(h1:us.map G9=y.ks):∀ {rows:List (List U)} {es:List MapEntry} (i:Nat),BE y rows es->(Instr.findAsking y.kt (v6 y.ka us) es i).run P w=.ok (HO y us rows i) w
 | [],[],i,_=>by simp[Instr.findAsking,HO,sT]
 | [],_::_,i,h=>by have:=h.1;simp at this
 | _::_,[],i,h=>by have:=h.1;simp at this
 | r::rs,e::es,i,h=>by
   obtain⟨⟨a,b,c⟩,d⟩:=h.head;obtain⟨t1,t2⟩:=IC a;have hlen:us.length=y.ks.length:=by rw[<- h1,H3]
   have g:=B5U (P:=P) f h1 t1 w;have n:Z7 us (r.take y.ks.length)=Z7 us r:=by rw[<- hlen];exact yB us r
   have j:=LE f h1 (i+1) d;unfold Instr.findAsking;rw[b];simp only[A8,g,n,Result.andThen_ok,HO,sT];cases o:Z7 us r with
   | true=>simp[c]
   | false=>simp only[L2,if_false];exact j
def A5N{y:MTy}{k:Nat}{d:TypeDesc}(j:P.underlying y.kt=some d)(hs:jZ P y.kt=some k)(n:y.ka=false)(f:y.ks=[k]){u:U}(h1:G9 u=k):∀ {rows:List (List U)} {es:List MapEntry} (i:Nat),BE y rows es->Instr.findNow d (Y8 u) es i=some (HO y [u] rows i)
 | [],[],i,_=>rfl
 | [],_::_,i,h=>by have:=h.1;simp at this
 | _::_,[],i,h=>by have:=h.1;simp at this
 | r::rs,e::es,i,h=>by
   obtain⟨⟨a,b,c⟩,dd⟩:=h.head;cases r with
   | nil=>rw[f]at a;simp at a
   | cons g r =>
     have a0:G9 g=k:=by rw[f]at a;simp at a;exact a.1
     have b:e.key=Y8 g:=by rw[b,n,f];rfl
     have p:=A3i j hs h1 a0;have o:=A5N j hs n f h1 (i+1) dd;unfold Instr.findNow;rw[b,p];simp only[HO,sT,Z7,lC];cases q:isU u g with
     | true=>simp[c]
     | false=>simp only[L2,if_false];exact o
def FI(a:tD P y.kt=some (y.ka,y.ks))(h1:us.map G9=y.ks){es:List MapEntry}(h:BE y rows es):(Instr.findKey y.kt (v6 y.ka us) es).run P w=.ok (HO y us rows 0) w:=by
 have f:=a;unfold tD at a;split at a
 .rename_i i hu;rw[run_findKey_eq w (by rw[hu]) (v6 y.ka us) es];exact LE f h1 0 h
 .split at a
  .rename_i k hs;have g:y.ka=false:=(G2 Prod.fst (A9 a)).symm;have b:y.ks=[k]:=(G2 Prod.snd (A9 a)).symm;rw[b]at h1;cases us with
   | nil=>simp at h1
   | cons u us=>cases us with
     | cons _ _=>simp at h1
     | nil =>
       simp only[F0,K7,H8,and_true]at h1;obtain⟨d,e⟩:∃ d,P.underlying y.kt=some d:=by
        cases e:P.underlying y.kt with
        | some d=>exact⟨d,rfl⟩
        | none=>unfold jZ at hs;rw[e]at hs;cases hs
       rw[g];exact MapKept.run_findKey e (A5N e hs g b h1 0 h)
  .cases a
def TN{k:List U}:∀ (rows:List (List U)) (i:Nat),(sT k rows i).isSome=rows.any (Z7 k)
 | [],_=>rfl
 | r::rs,i=>by
   simp only[sT,bS];cases Z7 k r with
   | true=>rfl
   | false=>simp only[L2,if_false,R7];exact TN rs (i+1)
def JV{k:List U}:∀ (rows:List (List U)) (i:Nat),(sT k rows i).map (·.2)=rows.find? (Z7 k)
 | [],_=>rfl
 | r::rs,i=>by
   simp only[sT,fX];cases Z7 k r with
   | true=>rfl
   | false=>simp only[L2,if_false];exact JV rs (i+1)
def wK{k:List U}:∀ {rows:List (List U)} {i j:Nat} {r:List U},sT k rows i=some (j,r)->i<=j/\rows[j-i]? = some r/\Z7 k r=true
 | [],_,_,_,h=>by cases h
 | x::rs,i,j,r,h=>by
   unfold sT at h;cases e:Z7 k x with
   | true=>rw[e]at h;cases h;exact⟨B0 _,by simp,e⟩
   | false =>
     rw[e]at h;obtain⟨a,b,c⟩:=wK (rows:=rs) h;exact⟨A0,by rw[show j-i=(j-(i+1))+1 by omega];exact b,c⟩
def RY{kw:Nat}{c:List U}:∀ (rows:List (List U)) (i:Nat),RZ kw c rows=match sT (c.take kw) rows i with
  | some p=>rows.set (p.1-i) c
  | none=>rows++[c]
 | [],_=>rfl
 | r::rs,i=>by
   unfold RZ sT;cases e:Z7 (c.take kw) r with
   | true=>simp
   | false =>
     simp only[L2,if_false];rw[RY rs (i+1)];cases b:sT (c.take kw) rs (i+1)with
     | none=>rfl
     | some p =>
       obtain⟨a,_⟩:=wK (r:=p.2) (j:=p.1) b;show r::rs.set (p.1-(i+1)) c=(r::rs).set (p.1-i) c;rw[show p.1-i=(p.1-(i+1))+1 by omega];rfl
def NS{b:Nat}(h:VR ρ (.map (some b)) v'):∃ l,ρ b=some l/\v'=.map (some l.blk):=by
 cases h with
 | pure hp=>simp[K5]at hp
 | map h=>exact⟨_,h,rfl⟩
def A8t{T:TypeId}(h:HR P base ρ m.H w)(u:base<=w.heap.size)(a:A5T P m T=some (v,m'))(o:M8 ρ m.n m'.hi)(x:Sat m'.lg):VOk P base ρ m w (Instr.makeMap T none) v m':=by
 unfold A5T at a;split at a
 .rename_i y j;rw[S9]at a;have f:=eW a;have q:=oK (lg:=m'.lg) x (by rw[f];exact .refl _);obtain⟨s,A,p,wd,rows,z⟩:=q;have g:Ora.env m.lg.nx=.seq false y.w []:=by
   have hw:0<y.w:=by have:=(NJ j).2.2.2.1;unfold MTy.w;omega
   rw[s];show(if y.w=0 then U.none else match bF y.w (0 / y.w) []with
    | some r=>U.seq false y.w r
    | none=>.none)=_
   rw[A3 A0,Nat.zero_div];rfl
  have b:=St.wLg h (jM m (10+y.w) (.mk y.w) []);obtain⟨h1,t,h3⟩:=St.alloc (w':={ w with heap:=w.heap.push (.map #[] 0) }) (l:=lc w.heap.size 0 0) b.hr u a (by rw[A2n];exact o) ⟨rfl,rfl,rfl⟩ rfl rfl
   ⟨⟨rfl,rfl⟩,y,#[],0,[],j,rfl,by simp,g,rfl,fun i row e hr=>by simp at hr⟩
  refine⟨.map (some w.heap.size),_,_,?_,?_,St.trans o b h3⟩
  .simp[Instr.makeMap,newObj,Sem.run,A8,Result.andThen]
  .rw[h1];exact .map t
 .cases a
def SY{t:Nat}{op:LOp}(h:p8 m t op xs=some (v,m'))(i:Sat m'.lg):t<10/\G9 (evU op (xs.map (E7 Ora.env)))=t/\VR ρ v (Y8 (evU op (xs.map (E7 Ora.env)))):=by
 obtain⟨u,b,g,r,f,e,a⟩:=Q8 h i;subst b;refine⟨a,g,?_⟩;have:Y8 (evU op (xs.map (E7 Ora.env)))=r:=by unfold Y8;rw[f];rfl
 rw[this];exact e ρ
def JY{wd kw c t:Nat}{kc:D6}{f:Bool}{rows:List (List U)}(s:Ora.env c=.seq f wd rows)(u:kc.length=kw):∀ {ts:I9} {e:D6} {j:Nat} {m m':Mem} {hs:D6},yK wd kw c t kc ts e j m=some (hs,m')->Sat m'.lg ->
  N2 m m'/\m.lg.le m'.lg/\hs.length=ts.length/\e.length=ts.length /\
  (∀ r,rows.find? (Z7 (kc.map (E7 Ora.env)))=some r->∀ i:Nat,i<ts.length->∃ v,hs[i]? = some v/\VR ρ v (Y8 (r.getD (j+i) .none))) /\
  (rows.find? (Z7 (kc.map (E7 Ora.env)))=none->∀ i:Nat,i<ts.length->∃ v z,hs[i]? = some v/\e[i]? = some z/\VR ρ v (Y8 (E7 Ora.env z)))
 | [],[],j,m,m',hs,h,hS=>by
   cases h;exact⟨.refl _,.refl _,rfl,rfl,fun r _ i hi=>(by simp at hi),fun _ i hi=>(by simp at hi)⟩
 | [],_::_,j,m,m',hs,h,hS=>by cases h
 | _::_,[],j,m,m',hs,h,hS=>by cases h
 | tg::ts,z::e,j,m,m',hs,h,hS=>by
   unfold yK at h;split at h
   .rename_i v m1 o;split at h
    .rename_i r m2 hr;cases h;obtain⟨D,a2,a3,a4,a5,A⟩:=JY s u hr hS;have q:Sat m1.lg:=hS.le a2;obtain⟨_,_,a⟩:=SY (ρ:=ρ) o q;have p:evU (.mget wd kw j) ((hole c t::z::kc).map (E7 Ora.env))=(match rows.find? (Z7 (kc.map (E7 Ora.env)))with
       | some r=>r.getD j .none
       | none=>E7 Ora.env z):=by
      show evU (.mget wd kw j) (Ora.env c::E7 Ora.env z::kc.map (E7 Ora.env))=_;rw[s];show(if wd=wd/\(kc.map (E7 Ora.env)).length=kw then _ else U.none)=_;rw[A4 ⟨rfl,by rw[H3];exact u⟩];cases rows.find? (Z7 (kc.map (E7 Ora.env)))<;>rfl
     rw[p]at a;refine⟨(K8 o).trans D,(L4 o).trans a2,by simp[a3],by simp[a4],fun E b i hi=>?_,fun b i hi=>?_⟩
     .cases i with
      | zero=>rw[b]at a;exact⟨v,rfl,a⟩
      | succ i =>
        obtain⟨x,n,g⟩:=a5 E b i (by simpa using hi);exact⟨x,by simpa using n,by rw[show j+(i+1)=j+1+i by omega];exact g⟩
     .cases i with
      | zero=>rw[b]at a;exact⟨v,z,rfl,rfl,a⟩
      | succ i =>
        obtain⟨x,C,n,g,B⟩:=A b i (by simpa using hi);exact⟨x,C,by simpa using n,by simpa using g,B⟩
    .cases h
   .cases h
def B4S{vs:D6}(n:hs.length=vs.length)(h:∀ i:Nat,i<vs.length->∃ v v',hs[i]? = some v/\vs[i]? = some v'/\VR ρ v v'):LR ρ hs vs:=⟨n,fun i v v' h1 f=>by
 obtain⟨a,b,e,g,j⟩:=h i (B3.1 f).1;rw[h1]at e;rw[f]at g;cases e;cases g;exact j⟩
def A7J{a:Bool}(h:A7K a hs=some v)(b:LR ρ hs (us.map Y8)):VR ρ v (v6 a us):=by
 unfold A7K at h;split at h
 .cases h;exact .agg b.1 b.2
 .cases h;cases us with
  | nil=>have:=b.1;simp at this
  | cons u us =>
    obtain⟨v',r,e,g,_⟩:=b.tail;rw[F0,H8]at e;rw[<- e.1]at g;exact g
 .cases h
def A2I{T:TypeId}{x k:Value}{ok:Bool}(h:HR P base ρ m.H w)(n:EN P m T x k ok=some (v,m'))(hx:VR ρ x x')(hk:VR ρ k k')(S:Sat m'.lg):VOk P base ρ m w (Instr.lookup T x' k' ok) v m':=by
 unfold EN at n;split at n
 .rename_i r y hy;obtain⟨hu,D,ar,aw,az,R,au⟩:=NJ hy;obtain⟨l,hl,rfl⟩:=NS hx;split at n
  .rename_i c t T2 kc z hg M hz;obtain⟨Z,a⟩:=A6 n;clear n;have Z:=A1 Z;subst Z;split at a
   .rename_i zc X;split at a
    .rename_i hs m1 Y;split at a
     .rename_i v1 hv;obtain⟨⟨⟨ax,av⟩,y2,es,clock,rows,g1,g2,g3,g4,g5⟩,_⟩:=h.atl hl hg;rw[hy]at g1;have g1:=A9 g1;subst g1;obtain⟨k1,L⟩:=nS M az hk;have V:VR ρ z z:=.ofC (CS hz).choose_spec.2.2;obtain⟨z1,z2⟩:=nS X R V;have u:kc.length=y.ks.length:=by rw[<- L];simp
      have N:Sat m1.lg:=by
       cases ok with
       | false=>cases a;exact S
       | true =>
         simp only[F7]at a;split at a
         .rename_i J;cases a;exact S.le (L4 J)
         .cases a
      obtain⟨a1,a2,a3,a4,a5,a6⟩:=JY (ρ:=ρ) g4 u Y N;have A:=FI (P:=P) (w:=w) D L g5;have E:=KQ (P:=P) D L es.isEmpty w;have g:=JV (k:=kc.map (E7 Ora.env)) rows 0;have B:∀ {us:List U},LR ρ hs (us.map Y8)->VR ρ v1 (v6 y.va us):=fun f=>A7J hv f
      have G:∃ val,VR ρ v1 val/\(Instr.lookup T2 (.map (some l.blk)) k' ok).run P w=.ok (if ok then .tuple #[val,.bool (rows.any (Z7 (kc.map (E7 Ora.env))))]else val) w:=by
       have F:(getObj l.blk).run P w=.ok (.map es clock) w:=by simp[getObj,Sem.run,g3]
       have e:=TN (k:=kc.map (E7 Ora.env)) rows 0;cases s:sT (kc.map (E7 Ora.env)) rows 0 with
       | none =>
         rw[s]at g e;have f:LR ρ hs ((zc.map (E7 Ora.env)).map Y8):=B4S (by rw[a3,H3,H3,a4]) fun i hi=>by
          have W:i<y.vs.length:=by rw[H3,H3,a4]at hi;exact hi
          obtain⟨x1,z',K,e2,e3⟩:=a6 g.symm i W;exact⟨x1,_,K,by rw[H9,H9,e2];rfl,e3⟩
         refine⟨z,by rw[z1];exact B f,?_⟩;have e:rows.any (Z7 (kc.map (E7 Ora.env)))=false:=e.symm;rw[k1];simp only[Instr.lookup,A8,D8 hu,Result.andThen_ok,F,E,A,HO,s,Option.map_none,dB hz,Sem.run_pure,e]
       | some p =>
         obtain⟨pi,o⟩:=p;rw[s]at g e;obtain⟨_,I,q2⟩:=wK s;have I:rows[pi]? = some o:=by simpa using I
         have O:pi<es.toList.length:=by rw[<- g5.1];exact(B3.1 I).1
         obtain⟨t1,t2,t3⟩:=g5.2 pi o es.toList[pi] I (A7 O);have ay:o.length=y.ks.length+y.vs.length:=by
          have:=G2 List.length t1
          simpa using this
         have f:LR ρ hs ((o.drop y.ks.length).map Y8):=B4S (by rw[a3,H3,F6];omega) fun i hi=>by
          rw[H3,F6]at hi;obtain⟨x1,K,e2⟩:=a5 o g.symm i A0;refine⟨x1,_,K,?_,e2⟩;rw[H9,J7,A7 A0,P3,B4,A7 A0];rfl
         refine⟨v6 y.va (o.drop y.ks.length),B f,?_⟩;have e:rows.any (Z7 (kc.map (E7 Ora.env)))=true:=e.symm;rw[k1];simp only[Instr.lookup,A8,D8 hu,Result.andThen_ok,F,E,A,HO,s,P3,Sem.run_pure,e]
      obtain⟨val,q,j⟩:=G;cases ok with
      | false =>
        cases a;obtain⟨lg,rfl⟩:=a1;exact⟨val,ρ,w,j,q,St.wLg h lg⟩
      | true =>
        simp only[F7]at a;split at a
        .rename_i b m2 J;cases a;obtain⟨_,_,C⟩:=SY (ρ:=ρ) J S;have Q:evU (.mhas y.w y.ks.length) ((hole c t::kc).map (E7 Ora.env))=.bool (rows.any (Z7 (kc.map (E7 Ora.env)))):=by
          show evU (.mhas y.w y.ks.length) (Ora.env c::kc.map (E7 Ora.env))=_;rw[g4];show(if y.w=y.w/\(kc.map (E7 Ora.env)).length=y.ks.length then _ else U.none)=_;rw[A4 ⟨rfl,by rw[H3];exact u⟩]
         rw[Q]at C;obtain⟨lg,rfl⟩:=a1.trans (K8 J);refine⟨.tuple #[val,.bool (rows.any (Z7 (kc.map (E7 Ora.env))))],ρ,w,j,?_,St.wLg h lg⟩
         have:=LR.cons q (LR.cons C LR.nil);exact .tuple this.1 this.2
        .cases a
     .cases a
    .cases a
   .cases a
  .cases n
 .cases n
def A3f{i:Nat}{c:List U}(h:BE y rows es.toList)(b:c.map G9=y.ks++y.vs)(h1:e'.key=v6 y.ka (c.take y.ks.length))(f:e'.val=v6 y.va (c.drop y.ks.length))(a:es'.toList=es.toList.set i e'):BE y (rows.set i c) es'.toList:=by
 rw[a];refine⟨by rw[bY,bY];exact h.1,fun j row e hr he=>?_⟩;rw[List.getElem?_set]at hr he;by_cases q:i=j
 .subst q;rw[A4 rfl]at hr he;split at hr
  .cases hr;split at he
   .cases he;exact⟨b,h1,f⟩
   .cases he
  .cases hr
 .rw[A3 q]at hr he;exact h.2 j row e hr he
def A2A{c:List U}(h:BE y rows es.toList)(f:c.map G9=y.ks++y.vs)(h1:e'.key=v6 y.ka (c.take y.ks.length))(g:e'.val=v6 y.va (c.drop y.ks.length)):BE y (rows++[c]) (es.push e').toList:=by
 rw[Array.toList_push];refine⟨by rw[B1,B1,h.1];rfl,fun j row e hr he=>?_⟩;rw[List.getElem?_append]at hr he;rw[h.1]at hr;split at he
 .rename_i a;rw[A4 a]at hr;exact h.2 j row e hr he
 .rename_i a;rw[A3 a]at hr;cases b:j-es.toList.length with
  | zero =>
    rw[b]at hr he;cases hr;cases he;exact⟨f,h1,g⟩
  | succ n=>rw[b]at hr;cases hr
def WK{u v:U}(h1:G9 u<10)(h:isU u v=true):u=v:=by
 unfold isU at h;cases u with
 | int k a =>
   cases v with
   | int j b =>
     simp only[eqU]at h;by_cases e:k=j
     .subst e;rw[A4 rfl]at h;have h:(a == b)=true:=h;rw[eq_of_beq h]
     .rw[A3 e]at h;cases h
   | _=>simp[eqU]at h
 | bool a =>
   cases v with
   | bool b =>
     have h:(a == b)=true:=h;rw[eq_of_beq h]
   | _=>simp[eqU]at h
 | str a =>
   cases v with
   | str b =>
     have h:(a == b)=true:=h;rw[eq_of_beq h]
   | _=>simp[eqU]at h
 | seq _ _ _=>simp only[G9]at h1;omega
 | none=>simp only[G9]at h1;omega
def DF:∀ {us vs:List U},us.map G9=vs.map G9->(∀ t ∈ us.map G9,t<10)->Z7 us vs=true->us=vs
 | [],[],_,_,_=>rfl
 | [],_::_,h,_,_=>by cases h
 | _::_,[],h,_,_=>by cases h
 | u::us,v::vs,h,ht,hk=>by
   obtain⟨a,b⟩:=C5 (show(isU u v && Z7 us vs)=true from hk);simp only[F0,H8]at h;rw[WK (ht _ C7) a,DF h.2 (fun t q=>ht t (D1 _ q)) b]
def KV{u:U}(h:G9 u<10)(n:Nat):Instr.sameBits n (Y8 u) (Y8 u)=true:=by
 cases u with
 | int k a=>cases n<;>simp[Y8,toV,Instr.sameBits]
 | bool b=>cases n<;>simp[Y8,toV,Instr.sameBits]
 | str s=>cases n<;>(simp only[Y8,toV,bC,Instr.sameBits];show(Array.mk s == Array.mk s)=true;simp)
 | seq _ _ _=>simp only[G9]at h;omega
 | none=>simp only[G9]at h;omega
def A2c{a:Bool}(h:∀ t ∈ us.map G9,t<10)(b:a=false->us≠[])(n:Nat):Instr.sameBits (n+1) (v6 a us) (v6 a us)=true:=by
 cases a with
 | true =>
   simp only[v6,Instr.sameBits,I3,eO,true_and,D7];intro p hp;obtain⟨i,hi,he⟩:=List.mem_iff_getElem.1 hp;simp only[List.getElem_zip,List.getElem_map]at he;subst he;exact KV (h _ (U2.2 ⟨_,S6 _,rfl⟩)) n
 | false =>
   cases us with
   | nil=>exact absurd rfl (b rfl)
   | cons u us=>exact KV (h _ C7) _
def RW{T:TypeId}{x k e e':Value}(h:HR P base ρ m.H w)(hb:base<=w.heap.size)(E:JD P m T x k e=some (v,m'))(hf:M8 ρ m.n m'.hi)(hx:VR ρ x x')(hk:VR ρ k k')(he:VR ρ e e')(hS:Sat m'.lg):v=undef/\UOk P base ρ m w (Instr.mapUpdate T x' k' e') m':=by
 unfold JD at E;split at E
 .rename_i r y hy;obtain⟨hu,Z,af,ai,F,aq,ah⟩:=NJ hy;obtain⟨l,hl,rfl⟩:=NS hx;split at E
  .rename_i c t T2 kc o hg av aj;obtain⟨hT,u⟩:=A6 E;clear E;have hT:=A1 hT;subst hT;rw[S9]at u;unfold XL at u;split at u
   .rename_i m2 eF;cases u;have ao:=rO eF;obtain⟨e1,e2,ag,wd,ak,e3⟩:=oK (lg:=m'.lg) hS (by rw[ao];exact .refl _);obtain⟨⟨⟨N,au⟩,y2,es,clock,rows,g1,g2,g3,g4,g5⟩,_⟩:=h.atl hl hg;rw[hy]at g1;have g1:=A9 g1;subst g1;obtain⟨C,B⟩:=nS av F hk;obtain⟨v1,v2⟩:=nS aj aq he;have z:kc.length=y.ks.length:=by rw[<- B];simp
    have an:o.length=y.vs.length:=by rw[<- v2];simp
    have aw:((kc++o).map (E7 Ora.env)).length=y.w:=by rw[H3,B1,z,an];rfl
    have Y:((kc++o).map (E7 Ora.env)).map G9=y.ks++y.vs:=by rw[O2,O2,B,v2]
    have s:((kc++o).map (E7 Ora.env)).take y.ks.length=kc.map (E7 Ora.env):=by rw[O2,oM (by rw[H3];exact z)]
    have A:((kc++o).map (E7 Ora.env)).drop y.ks.length=o.map (E7 Ora.env):=by rw[O2,List.drop_left' (by rw[H3];exact z)]
    have g:Ora.env m.lg.nx=.seq false y.w (RZ y.ks.length ((kc++o).map (E7 Ora.env)) rows):=by
     rw[e1];show evU (.mput y.w y.ks.length) (Ora.env c::(kc++o).map (E7 Ora.env))=_;rw[g4];show(if y.w=y.w/\((kc++o).map (E7 Ora.env)).length=y.w then _ else U.none)=_;rw[A4 ⟨rfl,aw⟩]
    rw[RY _ 0,s]at g;have ay:(getObj l.blk).run P w=.ok (.map es clock) w:=by simp[getObj,Sem.run,g3]
    have V:=FI (P:=P) (w:=w) Z B g5;have az:=KQ (P:=P) Z B false w;have L:=St.wLg h (jM m t (.mput y.w y.ks.length) (hole c t::(kc++o)));have ar:Hp.get (m.wLg (jM m t (.mput y.w y.ks.length) (hole c t::(kc++o)))).H r=some (.mp c t T2):=by rw[oV];exact hg
    have i:l.blk<w.heap.size:=(E4.1 g3).1;refine⟨rfl,?_⟩;have ax:∀ (f:Array MapEntry) (a:Nat),(setObj l.blk (.map f a)).run P w=.ok () { w with heap:=w.heap.set l.blk (.map f a) i }:=fun f a=>by
     have W:w.heap[l.blk]=.map es clock:=by
      have q:=g3;rw[I1 i]at q;exact A9 q
     simp[setObj,Sem.run,W,Array.setIfInBounds,i]
    have fin:∀ (f:Array MapEntry) (a:Nat) (b:List (List U)),Ora.env m.lg.nx=.seq false y.w b->BE y b f.toList->(Instr.mapUpdate T2 (.map (some l.blk)) k' e').run P w=.ok () { w with heap:=w.heap.set l.blk (.map f a) i }->UOk P base ρ m w (Instr.mapUpdate T2 (.map (some l.blk)) k' e') m':=fun f a b K q2 q3=>by
     refine⟨ρ,_,q3,St.trans hf L (St.write (ab:=.mp c t T2) (ab':=.mp m.lg.nx t T2) L.hr eF ar rfl hl N ⟨rfl,rfl,rfl⟩ (by simp) (fun j hj=>?_) ?_)⟩
     .show(w.heap.set l.blk _ i)[j]? = _;rw[Array.getElem?_set,A3 (fun e=>hj e.symm)]
     .refine⟨⟨N,au⟩,y,f,a,b,hy,g2,?_,K,q2⟩;show(w.heap.set l.blk _ i)[l.blk]? = _;rw[Array.getElem?_set,A4 rfl]
    cases M:sT (kc.map (E7 Ora.env)) rows 0 with
    | none =>
      rw[M]at g;refine fin (es.push ⟨k',e',clock⟩) (clock+1) _ g (A2A g5 Y (by rw[s];exact C) (by rw[A];exact v1)) ?_;rw[C];simp only[Instr.mapUpdate,A8,D8 hu,Result.andThen_ok,ay,az,V,HO,M,Option.map_none,ax]
    | some p =>
      obtain⟨pi,J⟩:=p;rw[M]at g;have g:Ora.env m.lg.nx=.seq false y.w (rows.set pi ((kc++o).map (E7 Ora.env))):=g;obtain⟨_,K,q2⟩:=wK M;have K:rows[pi]? = some J:=by simpa using K
      have D:pi<es.toList.length:=by rw[<- g5.1];exact(B3.1 K).1
      obtain⟨t1,t2,t3⟩:=g5.2 pi J es.toList[pi] K (A7 D);obtain⟨al,_⟩:=IC t1;have I:kc.map (E7 Ora.env)=J.take y.ks.length:=by
       refine DF (by rw[B,al]) (by rw[B];exact F) ?_
       have:=yB (kc.map (E7 Ora.env)) J;rw[H3,z]at this;rw[this];exact q2
      have X:pi<es.size:=by simpa using D
      refine fin (es.modify pi fun e2=>{ e2 with key:=k',val:=e' }) clock _ g (A3f (e':=⟨k',e',(es[pi]).born⟩) g5 Y (by rw[s];exact C) (by rw[A];exact v1) ?_) ?_
      .apply i7;intro j;rw[Z6,J1,List.getElem?_set];by_cases hj:pi=j
       .subst hj;rw[A4 rfl,A4 rfl,A4 D,I1 X];rfl
       .rw[A3 hj,A3 hj];simp
      .have R:((es[pi]?).map (·.key)).getD k'=k':=by
        rw[I1 X];show es[pi].key=k';have t2:es[pi].key=v6 y.ka (J.take y.ks.length):=t2;rw[t2,<- I,C]
       have G:Instr.sameBits 10000 k' k'=true:=by
        rw[C];exact A2c (by rw[B];exact F) (fun _ q=>by have:=G2 List.length B;rw[q]at this;simp at this;omega) 9999
       have O:(Instr.keyThatStays k' k').run P w=.ok k' w:=by
        simp only[Instr.keyThatStays,G,if_true,Sem.run_pure]
       have S:(Instr.findKey y.kt k' es.toList).run P w=.ok (some (pi,v6 y.va (J.drop y.ks.length))) w:=by
        rw[C,V];simp[HO,M]
       have Q:(Instr.checkKey false 10000 y.kt k').run P w=.ok () w:=by rw[C];exact az
       simp only[Instr.mapUpdate,A8,D8 hu,Result.andThen_ok,ay,Q,S,R,O,ax]
   .cases u
  .cases E
 .cases E
def A5i{T:TypeId}{x:Value}(h:HR P base ρ m.H w)(a:TA P m T x=some (v,m'))(n:VR ρ x x')(p:Sat m'.lg):VOk P base ρ m w (Builtin.len_ ⟨T::tys⟩ ty #[x']) v m':=by
 unfold TA at a;split at a
 .rename_i kt s r hu;obtain⟨l,o,rfl⟩:=NS n;split at a
  .rename_i c t u f;obtain⟨⟨⟨g,j⟩,q,es,clock,rows,g1,g2,g3,g4,g5⟩,_⟩:=h.atl o f;obtain⟨i,⟨lg,rfl⟩,_,_⟩:=pY (ρ:=ρ) a g4 p;have b:(getObj l.blk).run P w=.ok (.map es clock) w:=by simp[getObj,Sem.run,g3]
   refine⟨_,ρ,w,?_,i,St.wLg h lg⟩
   have:=g5.1;have e:es.size=rows.length:=by rw[this];simp
   simp[Builtin.len_,A8,D8 hu,Result.andThen,goInt,b,e]
  .cases a
 .cases a
def A8u{T:TypeId}(a:A5T P m T=some (v,m')):m.lg.le m'.lg:=by
 unfold A5T at a;split at a
 .rw[S9]at a;rw[eW a];exact p7
 .cases a
def yJ{wd kw c t:Nat}{kc:D6}:∀ {ts:I9} {a:D6} {j:Nat} {m m':Mem} {hs:D6},yK wd kw c t kc ts a j m=some (hs,m')->m.lg.le m'.lg
 | [],[],j,m,m',hs,h=>by cases h;exact .refl _
 | [],_::_,j,m,m',hs,h=>by cases h
 | _::_,[],j,m,m',hs,h=>by cases h
 | tg::ts,z::a,j,m,m',hs,h=>by
   unfold yK at h;split at h
   .rename_i b;split at h
    .rename_i hr;cases h;exact(L4 b).trans (yJ hr)
    .cases h
   .cases h
def A2J{T:TypeId}{x k:Value}{ok:Bool}(a:EN P m T x k ok=some (v,m')):m.lg.le m'.lg:=by
 unfold EN at a;split at a
 .split at a
  .obtain⟨_,a⟩:=A6 a;split at a
   .split at a
    .rename_i b;split at a
     .cases ok with
      | false=>cases a;exact yJ b
      | true =>
        simp only[F7]at a;split at a
        .rename_i e;cases a;exact(yJ b).trans (L4 e)
        .cases a
     .cases a
    .cases a
   .cases a
  .cases a
 .cases a
def RX{T:TypeId}{x k e:Value}(a:JD P m T x k e=some (v,m')):m.lg.le m'.lg:=by
 unfold JD at a;split at a
 .split at a
  .obtain⟨_,a⟩:=A6 a;rw[S9]at a;unfold XL at a;split at a
   .rename_i eF;cases a;rw[rO eF];exact p7
   .cases a
  .cases a
 .cases a
def A5j{T:TypeId}{x:Value}(a:TA P m T x=some (v,m')):m.lg.le m'.lg:=by
 unfold TA at a;split at a
 .split at a
  .exact(eD a).2
  .cases a
 .cases a
end
end
section
open Go
variable [Ora]
section
variable {P:Program} {base:Nat} {ρ:Ren} {m m':Mem} {w:World}
omit [Ora] in
def UY{G:Nat->Option Obj}:∀ {us:List U} {s:List UInt8} {vs:D6},yS us=some s->y8 G us vs->∃ e:List Int,vs=e.map (Value.int .u8)/\s=e.map fun n=>UInt8.ofNat n.toNat
 | [],s,vs,h,he=>by
   cases h;have:vs=[]:=D5.1 he.1.symm;subst this;exact⟨[],rfl,rfl⟩
 | u::us,s,vs,h,he=>by
   unfold yS at h;split at h
   .rename_i heq;cases heq
   .rename_i n r heq;cases heq;split at h
    .split at h
     .rename_i l o;cases h;cases vs with
      | nil=>have:=he.1;simp at this
      | cons v vr =>
        obtain⟨e,g,f⟩:=UY (vs:=vr) o ⟨by have:=he.1;simpa using this,fun i a b h1 j=>he.2 (i+1) a b (by simpa using h1) (by simpa using j)⟩
        have:=sK (he.2 0 _ v rfl rfl) rfl;subst this;exact⟨(Int.ofNat n)::e,by rw[g];rfl,by rw[f];rfl⟩
     .cases h
    .cases h
   .cases h
def QT{t:TypeId}{n:Nat}(h:I4 P t=some n):∃ inf,P.info? t=some inf/\inf.size=n:=by
 unfold I4 at h;cases hi:P.info? t with
 | none=>rw[hi]at h;cases h
 | some inf=>rw[hi]at h;exact⟨inf,rfl,A9 h⟩
def QW(d:Nat)(t:TypeId):sameLayout P (d+1) t t=true:=by simp[sameLayout]
def A6s:∃ d,P.depth=d+1:=⟨2*(P.types.size+Made.depth)+1,rfl⟩
def XQ{T:TypeId}{n off:Nat}(hs:P.cellsOf T≠0)(hr:off%P.cellsOf T=0)(b:off / P.cellsOf T+1<=n):liesAt P P.depth T n off T 1=true:=by
 obtain⟨d,a⟩:=A6s (P:=P);have h1:rowAt P (sameLayout P P.depth · T) P.depth T n off 1=true:=by
  rw[a];unfold rowAt;simp only[hs,if_false,hr,QW];simp[b]
 rw[a]at h1 ⊢;unfold liesAt;rw[a,h1];rfl
def A6y{s t:TypeId}{x:Value}(h:HR P base ρ m.H w)(g:A1T P m s t x=some (v,m'))(F:VR ρ x x'):VOk P base ρ m w (convert s t x') v m':=by
 unfold A1T at g;split at g
 .rename_i e b o hs L;obtain⟨l,G,_,rfl⟩:=V0 F;split at g
  .rename_i k cs T ro q D;obtain⟨z,g⟩:=A6 g;have z:o<cs.length:=A2 z;cases g;obtain⟨inf,a,M⟩:=QT q;obtain⟨⟨p,C,fz,i,h1,Q,_⟩,_⟩:=h.atl G D;obtain⟨v',h3,_⟩:=Q o cs[o] (A7 z);have K:l.sh+o<C.size:=(E4.1 h3).1;exact VOk.same h (Lib.run_to_unsafe w ⟨l.blk,o+l.sh,none⟩ hs L a A0 (show w.shape? l.blk=some (i,C.size) by simp[World.shape?,h1]) (by show o+l.sh<C.size;omega)) F
  .cases g
 .rename_i u b hs L;obtain⟨l,G,_,rfl⟩:=V0 F;split at g
  .rename_i k cs T q D;obtain⟨J,f⟩:=A6 g;clear g;obtain⟨B,N⟩:=C5 J;have B:=A1 B;have N:=A1 N;clear J;subst B;cases f;obtain⟨inf,a,M⟩:=QT q;obtain⟨⟨p,C,fz,i,h1,Q,h3⟩,_⟩:=h.atl G D;obtain⟨rfl,_,S⟩:=h3 rfl;obtain⟨_,I⟩:=S inf a;have E:P.cellsOf i=k+1:=by unfold Program.cellsOf;rw[a];exact M
   have A:k<cs.length:=A0;obtain⟨v',V,_⟩:=Q k cs[k] (A7 A);have K:l.sh+k<C.size:=(E4.1 V).1;refine VOk.same h (Lib.run_from_unsafe w ⟨l.blk,0+l.sh,none⟩ hs L a (show w.shape? l.blk=some (i,C.size) by simp[World.shape?,h1]) ?_) F;show liesAt P P.depth i (C.size / P.cellsOf i) (0+l.sh) i 1=true;rw[G0];refine XQ A0 (by rw[E];rw[M]at I;exact I) ?_;rw[E];have I:l.sh%(k+1)=0:=by rw[M]at I;exact I
   have X:l.sh=(k+1)*(l.sh / (k+1)):=by have:=Nat.div_add_mod l.sh (k+1);omega
   refine(Nat.le_div_iff_mul_le A0).2 ?_;rw[J4,kN,bD];omega
  .cases g
 .rename_i W e b o n c hs L;obtain⟨J,f⟩:=A6 g;clear g;obtain⟨B,N⟩:=C5 J;have B:=A1 B;clear J;subst B;split at f
  .rename_i cs T hu D;split at f
   .rename_i m1 eF;cases f;obtain⟨l,mm,G,rfl⟩:∃ l mm,ρ b=some l/\x'=.slice (some ⟨l.blk,o+l.sh,none⟩) n mm:=by
     cases F with
     | pure hp=>simp[K5]at hp
     | sl h1 _=>exact⟨_,_,h1,rfl⟩
     | op h1 _ _ _=>exact⟨_,_,h1,rfl⟩
     | opE _=>simp at N
    obtain⟨⟨p,C,fz,i,z2,z3,z4⟩,_⟩:=h.atl G D;have O:w.shape? l.blk=some (i,C.size):=by simp[World.shape?,z2]
    refine⟨_,ρ,w.freeze ⟨l.blk,C.size,none⟩ 1,?_,F,St.write h eF D rfl G p ?_ ?_ ?_ ?_⟩
    .simp[convert,run_underlying L,run_underlying hu,markStringish,O]
    .simp[World.freeze]
    .simp[World.freeze]
    .intro j R;simp only[World.freeze,Nat.one_ne_zero,if_false,J1];rw[A3 (fun e=>R e.symm)]
    .refine⟨p,C,(if fz.1 == fz.2 then(C.size,C.size+1)else(min fz.1 C.size,max fz.2 (C.size+1))),i,?_,z3,fun E=>⟨(z4 E).1,(z4 E).2.1.mark,(z4 E).2.2⟩⟩;simp only[World.freeze,Nat.one_ne_zero,if_false,J1,if_true,z2,P3]
   .cases f
  .cases f
 .cases g
def A48{op:BinOp}{t:TypeId}{x y:Operand}{a a' b b':Value}(h:HR P base ρ m.H w)(o:A0S P m op t a b=some (v,m'))(z:VR ρ a a')(A:VR ρ b b'):VOk P base ρ m w (do eqGuard op t x y a' b';binOp op t a' b') v m':=by
 unfold A0S at o;split at o
 .rename_i e C p D E hu;obtain⟨u,f⟩:=A6 o;clear o;obtain⟨q,s⟩:=C5 u;have q:=A1 q;have s:=A1 s;clear u;subst q;subst s;obtain⟨l,B,_,rfl⟩:=V0 z;obtain⟨l2,g,_,rfl⟩:=V0 A;rw[B]at g
  have:=A9 g;subst this;have heq:∀ j,P.info? e=some j->∀ d:Nat,(Op.equalIn (d+1) t (.pointer (some ⟨l.blk,p+l.sh,none⟩)) (.pointer (some ⟨l.blk,p+l.sh,none⟩))).run P w=.ok true w:=fun j i d=>by
   simp[Op.equalIn,run_underlying hu,sizeOf,typeInfo,i,run_sameAddr_same]
  have n:(eqGuard op t x y (.pointer (some ⟨l.blk,p+l.sh,none⟩)) (.pointer (some ⟨l.blk,p+l.sh,none⟩))).run P w=.ok () w:=by
   unfold eqGuard;split<;>simp
  split at f
  .rename_i j i;cases f;refine VOk.same h (v':=.bool true) ?_ (.pure rfl);rw[A8,n];simp[Result.andThen,binOp,Op.equal,Op.maxDepth,heq j i 9999]
  .rename_i j i;cases f;refine VOk.same h (v':=.bool false) ?_ (.pure rfl);rw[A8,n];simp[Result.andThen,binOp,Op.equal,Op.maxDepth,heq j i 9999]
  .cases f
 .cases o
def St.laid{o:Obj}(h:HR P base ρ m.H w):St P base ρ ρ m m w { w with heap:=w.heap.push o } :=
 have f:∀ k,k<w.heap.size->(w.heap.push o)[k]? = w.heap[k]? := fun k f=>by rw[bJ,A3 A0]
 ⟨fun _ _ h=>h,fun b l h1 a=>(by rw[h1]at a;cases a),B0 _,B0 _,fun h=>h,
  ⟨h.dom,fun id hid ab g=>by
    obtain⟨l,h1,a,h3⟩:=h.at_ id hid ab g;exact⟨l,h1,a.mono (fun _ _ h=>h) (fun k e=>f k (a.tc e)),h3⟩⟩,
  fun _ h=>h,fun b h1 a=>absurd h1 a,fun k e _=>f k e,by simp,⟨rfl,rfl,rfl⟩,fun b l h1 a=>(by rw[h1]at a;cases a),fun _ _ _ _=>rfl,fun _ h=>.inr h⟩
def B4p{tys:Array TypeId}{x:Value}(h:HR P base ρ m.H w)(a:sdM P m ty x=some (v,m'))(q:VR ρ x x'):VOk P base ρ m w (Builtin.unsafeSliceData_ tys ty #[x']) v m':=by
 unfold sdM at a;split at a
 .rename_i e he;split at a
  .rename_i b i t;split at a
   .rename_i c tc T g ro u;cases a;have q:VR ρ (own b i t) x':=q;rcases(gP q).1 with⟨l,wd,h1,j,h3,rfl⟩|⟨l,wd,rows,h1,j,h3,F,E,rfl⟩
    .exact VOk.same h rfl (.sdt ⟨l,h1,.inl ⟨j,rfl⟩⟩)
    .have f:Builtin.unsafeSliceData_ tys ty #[.slice (some ⟨l.blk,l.sh,none⟩) l.len l.cap]=(do
       if l.cap≠0 then pure (.pointer (some ⟨l.blk,l.sh,none⟩))
       else if(<- viewAt l.blk).isSome then pure (.pointer (some ⟨l.blk,l.sh,none⟩))
       else pure (.pointer (some ⟨<- newObj (.view ⟨l.blk,l.sh,none⟩ (<- elemOf ty)),0,none⟩))):=rfl
     rw[f];by_cases o:l.cap=0
     .rw[A3 (by simpa using o)];obtain⟨A,inf,_,_,_,z⟩:=SqR.ex (h.atl h1 u).1;rcases z with⟨n,_⟩|⟨_,n⟩
      .rw[j]at n;cases n
      .obtain⟨C,fz,D,s,lg,B,_⟩:=n;have p:w.shape? l.blk=some (D,C.size):=by simp[World.shape?,B]
       refine⟨.pointer (some ⟨w.heap.size,0,none⟩),ρ,{ w with heap:=w.heap.push (.view ⟨l.blk,l.sh,none⟩ e) },?_,.sdt ⟨l,h1,.inr ⟨j,_,rfl,fun h=>absurd o h⟩⟩,St.laid h⟩;simp[viewAt,p,elemOf,D8 he,newObj,Sem.run,A8,Result.andThen]
     .rw[A4 o];exact VOk.same h rfl (.sdt ⟨l,h1,.inr ⟨j,_,rfl,fun _=>rfl⟩⟩)
   .cases a
  .cases a
 .cases a
def B4c{p l p' l':Value}(h:HR P base ρ m.H w)(J:usM P m pt p l=some (v,m'))(hp:VR ρ p p')(hl:VR ρ l l')(hS:Sat m'.lg)(hf:M8 ρ m.n m'.hi) :
  VOk P base ρ m w (Builtin.unsafeString_ ⟨pt::tys⟩ ty #[p',l']) v m':=by
 have D:IntKind.i64.max=9223372036854775807:=rfl;unfold usM at J;split at J
 .rename_i b;obtain⟨W,J⟩:=A6 J;have W:I2 l<8:=A2 W;obtain⟨k,n0,rfl,al,_⟩:=S8 hl W;split at J
  .rename_i c tc T g e hg aj;obtain⟨hq,E⟩:=A6 J;clear J;obtain⟨q1,q2⟩:=C5 hq;have q1:=A1 q1;have q2:=A1 q2;clear hq;subst q1;subst q2;split at E
   .rename_i u m1 bz R;split at E
    .rename_i m2 eF;cases E;have af:=rO eF;have ai:Sat m1.lg:=by rw[<- af];exact hS
     obtain⟨u0,e1,e2,r,e3,e4,e5⟩:=Q8 R ai;obtain⟨lg,rfl⟩:=K8 R;obtain⟨l0,F,hv⟩:=A86 (show VR ρ (sdt b) p' from hp);have A:=St.wLg h lg;obtain⟨wd,inf,k1,k2,k3,K⟩:=SqR.ex (h.atl F hg).1;have ad:wd=1:=A0;subst ad;have f:evU .ustr [Ora.env c,.int k n0]=u0:=by
      have:E7 Ora.env (hole c 11)=Ora.env c:=rfl;rw[<- this,<- al];exact e1
     have I:∀ ar rows,Ora.env c=.seq ar 1 rows->∃ (n:Nat) (O:List UInt8),n0=(n:Int)/\n<=rows.length/\n<=1000000000/\BC (rows.take n)=some O/\u0=.str O:=fun ar rows hc=>by
      rw[hc]at f;cases n0 with
      | negSucc z=>have:u0=.none:=f.symm;subst this;cases e3
      | ofNat n =>
        have f:(if 1=1/\n<=rows.length/\n<=BD then match BC (rows.take n)with
         | some s=>U.str s
         | none=>.none else .none)=u0:=f
        split at f
        .rename_i ay;split at f
         .rename_i O I;exact⟨n,O,rfl,ay.2.1,ay.2.2,I,f.symm⟩
         .subst f;cases e3
        .subst f;cases e3
     have B:P.cellsOf e=1:=by unfold Program.cellsOf;rw[k2];exact k3
     have Y:∀ {ρ:Ren} {w:World} {lx:Loc},BR P ρ (.sq c 11 e g false) lx w->BR P ρ (.sq c 11 e g true) lx w:=fun hb=>by
      obtain⟨wd,inf,k1,k2,k3,K⟩:=SqR.ex hb;refine⟨⟨wd,inf,k1,k2,k3,K.imp (fun x=>x) fun⟨a,C,fz,T',rows,lg,b1,b2,b3,b4,b5,b6,b7,b8,_⟩=>⟨a,C,fz,T',rows,lg,b1,b2,b3,b4,b5,b6,b7,b8,fun hh=>by cases hh⟩⟩⟩
     have V:Hp.get (m.wLg lg).H b=some (.sq c 11 e g false):=by rw[oV];exact hg
     have N:St P base ρ ρ m m' w w:=St.trans hf A (St.same0 A.hr eF V rfl F (Y (A.hr.atl F V).1) fun q hq=>hq.imp (fun⟨_,b⟩=>⟨rfl,b⟩) fun⟨hh,_⟩=>by cases hh);rcases hv with⟨au,rfl⟩|⟨S,a,rfl,ha⟩
     .rcases K with⟨_,L⟩|⟨L,_⟩
      .obtain⟨n,O,rfl,j1,_,j2,rfl⟩:=I _ _ L;have hn:n=0:=by simpa using j1
       subst hn;cases j2;cases e3;refine⟨.string ByteArray.empty,ρ,w,?_,e4 ρ,N⟩;have o:Builtin.unsafeString_ ⟨pt::tys⟩ ty #[.pointer none,.int k ((0:Nat):Int)] =
         (do
           let n <- asInt (.int k ((0:Nat):Int))
           if n<0 then runtimePanic (.error "unsafe.String: len out of range")
           if n>IntKind.i64.max then unsupported (.unsafePointer "String: a length above the largest int")
           if n=0 then pure (.string .empty)
           else runtimePanic (.error "unsafe.String: ptr is nil and len is not zero")):=rfl
       rw[o];simp[asInt,asIntOf,D]
      .rw[au]at L;cases L
     .rcases K with⟨L,_⟩|⟨_,L⟩
      .rw[S]at L;cases L
      obtain⟨C,fz,T',rows,az,z1,z2,z3,z4,z5,z6,z7,z8,z9⟩:=L;obtain⟨rfl,bx⟩:=z9 rfl;obtain⟨n,O,rfl,j1,j0,j2,rfl⟩:=I _ _ z2;cases e3;have o:Builtin.unsafeString_ ⟨pt::tys⟩ ty #[.pointer (some a),.int k (n:Int)] =
       (do
         let n <- asInt (.int k (n:Int))
         if n<0 then runtimePanic (.error "unsafe.String: len out of range")
         if n>IntKind.i64.max then unsupported (.unsafePointer "String: a length above the largest int")
         if n=0 then pure (.string .empty)
         else if <- variablesAt a (<- elemOf pt) n.toNat then do
          let s <- loadBytes a .empty n.toNat
          freeze a n.toNat
          pure (.string s)
         else unsupported (.unsafePointer "String: not so many bytes at ptr")):=rfl
      have aw:¬ (n:Int)<0:=A0;have aq:¬ (9223372036854775807:Int)<(n:Int):=A0;by_cases t:n=0
      .subst t;cases j2;refine⟨.string ByteArray.empty,ρ,w,?_,e4 ρ,N⟩;rw[o];simp[asInt,asIntOf,D]
      .have hz:¬ (n:Int)=0:=A0;have av:l0.cap≠0:=A0;have ha:=ha av;subst ha;obtain⟨y1,y2,y3⟩:=OW j2;have hlen:(rows.take n).length=n:=by simp;omega
       have ae:l0.sh+n<=C.size:=A0;obtain⟨ns,r1,r2⟩:∃ ns:List Int,(C.toList.drop l0.sh).take n=ns.map (Value.int .u8)/\O=ns.map fun n=>UInt8.ofNat n.toNat:=by
        refine UY (G:=az.G) y1 ⟨by rw[y2,hlen];simp;omega,fun i u v b1 b2=>?_⟩;have an:i<n:=by have:=(B3.1 b1).1;rw[y2,hlen]at this;exact this
        have ax:i<rows.length:=A0;have Q:rows[i]? = some rows[i]:=A7 ax;have Z:(rows.take n)[i]? = some rows[i]:=by rw[G4 an];exact Q
        have bw:rows[i].length=1:=z6 _ (S6 ax);have h0:rows[i][0]? = some (rows[i][0]' A0):=A7 A0;obtain⟨_,K⟩:=y3 i _ 0 _ Z h0;rw[b1]at K;have K:=A9 K;rw[K];have hc:C[l0.sh+i*1+0]? = some v:=by
         rw[G4 an,J7]at b2
         simpa using b2
        exact z8 i _ 0 _ v Q h0 hc
       have ag:ns.length=n:=by
        have:=G2 List.length r1;simp at this;omega
       have M:∀ (j:Nat) (v:Value),(ns.map (Value.int .u8))[j]? = some v->w.cell? ⟨l0.blk,l0.sh+j,none⟩=some v:=fun j v hj=>by
        rw[<- r1]at hj;have ak:j<n:=by have:=(B3.1 hj).1;simp at this;omega
        rw[G4 ak,J7]at hj;simp only[World.cell?,z1]
        simpa using hj
       have ao:=iK (P:=P) (w:=w) ns l0.blk l0.sh .empty M;rw[ag]at ao;have ah:w.shape? l0.blk=some (T',C.size):=by simp[World.shape?,z1]
       have X:=ER (P:=P) B (C.size / P.cellsOf T') l0.sh n (by rw[B];simpa using ae);have aa:St P base ρ ρ (m.wLg lg) m' w (w.freeze ⟨l0.blk,l0.sh,none⟩ n):=by
        refine St.write A.hr eF V rfl F S ?_ ?_ ?_ ?_
        .simp[World.freeze,t]
        .simp[World.freeze,t]
        .intro j hj;simp only[World.freeze,t,if_false,J1];rw[A3 (fun e=>hj e.symm)]
        .refine⟨⟨1,inf,rfl,k2,k3,.inr ⟨S,C,(if fz.1 == fz.2 then(l0.sh,l0.sh+n)else(min fz.1 l0.sh,max fz.2 (l0.sh+n))),T',rows,az,?_,z2,z3,z4,z5,z6,z7,z8,fun hc=>by cases hc⟩⟩⟩;simp only[World.freeze,t,if_false,J1,if_true,z1,P3]
       refine⟨.string ⟨⟨O⟩⟩,ρ,w.freeze ⟨l0.blk,l0.sh,none⟩ n,?_,e4 ρ,St.trans hf A aa⟩;rw[o];simp[asInt,asIntOf,D,aw,aq,hz,t,variablesAt,ah,elemOf,D8 aj,X,ao,freeze,Sem.run,A8,Result.andThen,r2]
    .cases E
   .cases E
  .cases J
 .cases J
def B4V{fr:Fr}{g:Operand->Value}{o:Oper}(h:HR P base ρ m.H w)(F:base<=w.heap.size)(b:xtM P fr m o=some (v,m'))(C:M8 ρ m.n m'.hi)(j:FR ρ fr g o.op)(i:Sat m'.lg):NOk P base ρ m w (execOp g o) v m':=by
 obtain⟨dst,op,ty,pos,I,D⟩:=o;unfold xtM at b;simp only at b j;have a:∀ {x},x ∈ op.operands.toList->VR ρ (ev fr x) (g x):=fun f=>j _ f
 split at b
 .rename_i s t x;exact NOk.of (A6y h b (a (x:=x) (by simp[Op.operands])))
 .rename_i op t x y K;exact NOk.of (A48 h b (a (x:=x) (by simp[Op.operands])) (a (x:=y) (by simp[Op.operands])))
 .rename_i xs tys;have l1:=fW (ρ:=ρ) (fr:=fr) (g:=g) (xs:=xs.toList) fun y z=>j y (by show y ∈ (#[]++xs:Array Operand).toList;simpa using z)
  split at b
  .rename_i x f;rw[f]at l1;obtain⟨x',r1,B,g1,g2⟩:=l1.tail;cases g2.nil_inv;have u:xs.map g=#[x']:=by apply L3;simpa using B
   have:=B4p (tys:=tys) h b g1;have A:=NOk.of this;obtain⟨ks,q⟩:∃ ks,execOp g ⟨dst,.call ⟨.builtin .unsafeSliceData,xs,tys⟩,ty,pos,I,D⟩=builtin .unsafeSliceData tys ty ks (xs.map g):=⟨#[],rfl⟩;rw[q,u];exact A
  .cases b
 .rename_i xs tys;have l1:=fW (ρ:=ρ) (fr:=fr) (g:=g) (xs:=xs.toList) fun y z=>j y (by show y ∈ (#[]++xs:Array Operand).toList;simpa using z)
  split at b
  .rename_i p l t rest f E;rw[f]at l1;obtain⟨x',r1,B,g1,g2⟩:=l1.tail;obtain⟨J,L,rfl,g3,g4⟩:=g2.tail;cases g4.nil_inv;have u:xs.map g=#[x',J]:=by apply L3;simpa using B
   have A:=NOk.of (B4c (ty:=ty) (tys:=rest) h b g1 g3 i C);obtain⟨ks,q⟩:∃ ks,execOp g ⟨dst,.call ⟨.builtin .unsafeString,xs,tys⟩,ty,pos,I,D⟩=builtin .unsafeString tys ty ks (xs.map g):=⟨#[],rfl⟩;have G:tys=⟨t::rest⟩:=by rw[<- E]
   rw[q,u,G];exact A
  .cases b
 .rename_i t;exact NOk.of (A8t h F b C i)
 .rename_i t x k ok;exact NOk.of (A2I h b (a (x:=x) (by simp[Op.operands])) (a (x:=k) (by simp[Op.operands])) i)
 .rename_i t x k e;obtain⟨rfl,hu⟩:=RW h F b C (a (x:=x) (by simp[Op.operands])) (a (x:=k) (by simp[Op.operands])) (a (x:=e) (by simp[Op.operands])) i;exact NOk.ofU hu
 .rename_i t x k e;obtain⟨rfl,hu⟩:=RW h F b C (a (x:=x) (by simp[Op.operands])) (a (x:=k) (by simp[Op.operands])) (a (x:=e) (by simp[Op.operands])) i;exact NOk.ofU hu
 .rename_i xs tys;have l1:=fW (ρ:=ρ) (fr:=fr) (g:=g) (xs:=xs.toList) fun y z=>j y (by show y ∈ (#[]++xs:Array Operand).toList;simpa using z)
  split at b
  .rename_i x t rest f E;rw[f]at l1;obtain⟨x',r1,B,g1,g2⟩:=l1.tail;cases g2.nil_inv;have u:xs.map g=#[x']:=by apply L3;simpa using B
   have A:=NOk.of (A5i (ty:=ty) (tys:=rest) h b g1 i);obtain⟨ks,q⟩:∃ ks,execOp g ⟨dst,.call ⟨.builtin .len,xs,tys⟩,ty,pos,I,D⟩=builtin .len tys ty ks (xs.map g):=⟨#[],rfl⟩;have G:tys=⟨t::rest⟩:=by rw[<- E]
   rw[q,u,G];exact A
  .cases b
 .cases b
def B4W{fr:Fr}{o:Oper}(a:xtM P fr m o=some (v,m')):m.lg.le m'.lg:=by
 unfold xtM at a;split at a
 .unfold A1T at a;split at a
  .split at a
   .obtain⟨_,a⟩:=A6 a;cases a;exact .refl _
   .cases a
  .split at a
   .obtain⟨_,a⟩:=A6 a;cases a;exact .refl _
   .cases a
  .obtain⟨_,a⟩:=A6 a;split at a
   .split at a
    .rename_i eF;cases a;obtain⟨_,rfl⟩:=d8 eF;exact .refl _
    .cases a
   .cases a
  .cases a
 .unfold A0S at a;split at a
  .obtain⟨_,a⟩:=A6 a;split at a
   .cases a;exact .refl _
   .cases a;exact .refl _
   .cases a
  .cases a
 .split at a
  .unfold sdM at a;split at a
   .split at a
    .split at a
     .cases a;exact .refl _
     .cases a
    .cases a
   .cases a
  .cases a
 .split at a
  .unfold usM at a;split at a
   .obtain⟨_,a⟩:=A6 a;split at a
    .obtain⟨_,a⟩:=A6 a;split at a
     .rename_i b;split at a
      .rename_i hs;cases a;rw[rO hs];exact L4 b
      .cases a
     .cases a
    .cases a
   .cases a
  .cases a
 .exact A8u a
 .exact A2J a
 .exact RX a
 .exact RX a
 .split at a
  .exact A5j a
  .cases a
 .cases a
end
end
section
open Go
def fw(rd:Option Nat):Fence:={ Fence.wide with round:=rd }
def wP{rd:Option Nat}{n:Nat}:(fw rd).depth.isSome=true->1<=n:=fun h=>by cases h
def tW{rd:Option Nat}{n:Nat}{P:Program}{f:FuncId}{args:r7}{w:World}{R:Ending->World->Prop}:CallsIn (fw rd) n P f args w R↔Calls P f args w R :=
 ⟨fun h=>callsIn_wide.1 (show CallsIn Fence.wide n P f args w R from h),fun h=>show CallsIn (fw rd) n P f args w R from(callsIn_wide (n:=n)).2 h⟩
section
variable {P:Program} {rd:Option Nat}
def wpO(P:Program)(rd:Option Nat)(o:Oper)(a:Act)(w:World)(K:Act->World->Prop)(Q:Exit->Act->World->Prop):Prop:=o.wpIn (fw rd) 0 P a w K Q
def PI{o:Oper}{a:Act}{w:World}{K f:Act->World->Prop}{Q:Exit->Act->World->Prop}(h:∀ a w,K a w->f a w)(hh:wpO P rd o a w K Q):wpO P rd o a w f Q:=by
 unfold wpO Oper.wpIn at *;refine⟨hh.1,?_⟩;have hh:=hh.2;generalize (o.semAt (fw rd).round a.eval).run P w=r at *;cases r with
 | ok n w' =>
   cases n<;>simp only[Oper.uponIn]at hh ⊢ <;>
    first
     | exact h _ _ hh
     | exact⟨hh.1,CallsIn.mono hh.2 (fun e b he=>by cases e<;>first|exact h _ _ he|exact he)⟩
     | exact⟨hh.1,RowsIn.mono hh.2 (fun _ _ he=>h _ _ he)⟩
     | exact⟨hh.1,RoundIn.mono hh.2 (fun e b he=>by cases e<;>first|exact h _ _ he|exact he)⟩
 | halt x w'=>cases x<;>simp only[Oper.uponIn]at hh ⊢<;>exact hh
def wpL(P:Program)(rd:Option Nat)(ops:Array Oper)(Q:Exit->Act->World->Prop):List Oper->Act->World->Prop
 | [],a,w=>Q .normal a w
 | o::rest,a,w=>if Region.wanted o (yielded ops a.tmps)then wpO P rd o a w (wpL P rd ops Q rest) Q else wpL P rd ops Q rest (a.put o.dst undef) w
def PJ{ops:Array Oper}{Q:Exit->Act->World->Prop}{a:Act}{w:World}{rest:List Oper}{o:Oper}
  (h:∀ K:Act->World->Prop,(∀ a w,wpL P rd ops Q rest a w->K a w)->if Region.wanted o (yielded ops a.tmps)then wpO P rd o a w K Q else K (a.put o.dst undef) w):wpL P rd ops Q (o::rest) a w:=h _ fun _ _ h=>h
def YZ{ops:Array Oper}{Q:Exit->Act->World->Prop}:∀ (l:List Oper) (k:Nat),(∀ j,l[j]? = ops[k+j]?)->∀ a w,wpL P rd ops Q l a w->wpOpsIn (fw rd) 0 P ops Q (List.range' k l.length) a w
 | [],k,_,a,w,h=>h
 | o::l,k,hk,a,w,h=>by
   have h0:ops[k]? = some o:=by simpa using(hk 0).symm
   have b:=YZ (Q:=Q) l (k+1) (fun j=>by have:=hk (j+1);simpa [fC,oA 1 j]using this);simp only[B6,List.range'_succ,wpOpsIn,h0];unfold wpL at h;split
   .rename_i hw;rw[A4 hw]at h;exact PI b h
   .rename_i hw;rw[A3 hw]at h;exact⟨fun _ _=>trivial,b _ _ h⟩
def AQ{id:Nat}{ops:Array Oper}{Q:Exit->Act->World->Prop}{a:Act}{w:World}(h:wpL P rd ops Q ops.toList a w):(Code.region id ops false).wpIn (fw rd) 0 P Q a w :=
 wpIn_region (by
  have:=YZ ops.toList 0 (by simp) a w h;rw[List.range_eq_range',<- X9];exact this)
def lE(P:Program)(rd:Option Nat)(ops:Array Oper)(Q:Exit->Act->World->Prop)(i:Nat)(K:Act->World->Prop)(a:Act)(w:World):Prop :=
 match ops[i]? with
 | none=>K a w
 | some o=>if Region.wanted o (yielded ops a.tmps)then wpO P rd o a w K Q else K (a.put o.dst undef) w
def VP{ops:Array Oper}{Q:Exit->Act->World->Prop}{i:Nat}{a:Act}{w:World}{K b:Act->World->Prop}(h:∀ a w,K a w->b a w)(hh:lE P rd ops Q i K a w):lE P rd ops Q i b a w:=by
 unfold lE at *;split
 .exact h _ _ (by simpa [*]using hh)
 .rename_i o e;simp only[e]at hh;split
  .rename_i hw;simp only[hw,if_true]at hh;exact PI h hh
  .rename_i hw;simp only[hw]at hh;exact h _ _ hh
def LK{ops:Array Oper}{Q:Exit->Act->World->Prop}{i:Nat}{rest:I9}{a:Act}{w:World}(h:lE P rd ops Q i (wpOpsIn (fw rd) 0 P ops Q rest) a w):wpOpsIn (fw rd) 0 P ops Q (i::rest) a w:=by
 unfold lE at h;simp only[wpOpsIn];split at h
 .rename_i e;simp only[e];exact h
 .rename_i o b;simp only[b];split at h
  .rename_i hw;rw[A4 hw];exact h
  .rename_i hw;rw[A3 hw];exact⟨fun _ _=>trivial,h⟩
def mP(P:Program)(rd:Option Nat)(md:Region.Mode)(ops:Array Oper)(Q:Exit->Act->World->Prop):Nat->Array Bool->Act->World->Prop
 | 0,listed,a,w=>Region.ready md ops listed=[]/\Q .normal a w
 | fuel+1,listed,a,w=>(Region.ready md ops listed=[]->Q .normal a w)/\∀ i ∈ Region.ready md ops listed,lE P rd ops Q i (mP P rd md ops Q fuel (listed.setIfInBounds i true)) a w
def LM{md:Region.Mode}{ops:Array Oper}{Q:Exit->Act->World->Prop}:∀ (fuel t:Nat) (listed:Array Bool) (a:Act) (w:World),mP P rd md ops Q fuel listed a w->wpOpsIn (fw rd) 0 P ops Q (Region.linearise.go md ops fuel t listed []) a w:=by
 intro fuel;induction fuel with
 | zero=>intro t listed a w h;simpa [Region.linearise.go,wpOpsIn]using h.2
 | succ fuel f =>
   intro t listed a w h;obtain⟨h0,h1⟩:=h;simp only[Region.linearise.go];change wpOpsIn (fw rd) 0 P ops Q (match (Region.ready md ops listed)[t%(Region.ready md ops listed).length]? with
    | some i=>Region.linearise.go md ops fuel (t / (Region.ready md ops listed).length) (listed.setIfInBounds i true) [i]
    | none=>[].reverse) a w
   cases hi:(Region.ready md ops listed)[t%(Region.ready md ops listed).length]? with
   | none =>
     have b:Region.ready md ops listed=[]:=by
      cases hr:Region.ready md ops listed with
      | nil=>rfl
      | cons x xs =>
        rw[hr]at hi;have e:t%(x::xs).length<(x::xs).length:=uE _ (by simp);simp at hi;simp at e;omega
     simpa [wpOpsIn]using h0 b
   | some i =>
     simp only[];rw[linearise_go_acc,List.reverse_singleton,List.singleton_append];exact LK (VP (fun a w=>f _ _ a w) (h1 i (E6 hi)))
def oU{id:Nat}{ops:Array Oper}{Q:Exit->Act->World->Prop}{a:Act}{w:World}(hm:P.follows .mixedOrders=true)
  (h:mP P rd .any ops Q ops.size (Array.replicate ops.size false) a { w with drawn:=w.drawn+1 }):(Code.region id ops true).wpIn (fw rd) 0 P Q a w :=
 wpIn_region_draw fun t=>by
  simp only[Region.schedule,hm,Bool.true_or,if_true];exact LM ops.size t _ a _ h
def cM{b:Frame}{a:Act}{k:List Item}{w:World} :step P (lone (b.atR a (.code (.scope c)::k)) cs w)=.next (lone (b.atR a (.code c::.inScope c::k)) cs w) :=
 step_lone_go (by simp[stepG,stepG.exec,Frame.atR])
def HI{b:Frame}{a:Act}{k:List Item}{w:World} :step P (lone (b.atR a (.inScope c::k)) cs w)=.next (lone (b.atR a k) cs w) :=
 step_lone_go (by simp[stepG,stepG.exec,Frame.atR])
def Exit.calm(Q:Exit->Act->World->Prop):Exit->Act->World->Prop
 | .goto _,_,_=>False
 | e,a,w=>Q e a w
def VQ{F:Fence}{n:Nat}{Q:Exit->Act->World->Prop}{a:Act}{w:World}(h:c.wpIn F n P (Exit.calm Q) a w):(Code.scope c).wpIn F n P Q a w:=by
 intro b k cs s q hr;have h0:(lone (b.atR a (.code (.scope c)::k)) cs w).fenced P F:=fenced_calm q hr rfl;obtain⟨e,g,i,j,f⟩:=h b (.inScope c::k) cs s q hr;cases e with
 | normal=>exact⟨.normal,g,i,j,.head h0 cM (StepsIn.trans f (.one (fenced_calm q hr rfl) HI))⟩
 | exit id =>
   have t:exitTo id (.inScope c::k)=exitTo id k:=rfl;exact⟨.exit id,g,i,j,fun k' o=>.head h0 cM (f.1 k' (by rw[t];exact o)),
    fun p o=>let ⟨k₁,h1,u⟩:=f.2 p (by rw[t];exact o);⟨k₁,h1,.head h0 cM u⟩⟩
 | goto l=>exact j.elim
 | ret=>exact⟨_,g,i,j,.of_steps (.one h0 cM) f⟩
 | panic x=>exact⟨_,g,i,j,.of_steps (.one h0 cM) f⟩
 | outgrown=>exact⟨_,g,i,j,.of_steps (.one h0 cM) f⟩
end
end
section
open Go
def sS(o:Op)(g:Operand->Value):Sem Value :=
 match o with
 | .move x|.assign x=>pure (g x)
 | .load t x=>Instr.loadAt t (g x)
 | .store t x y=>do Instr.storeAt t (g x) (g y);pure undef
 | _=>stuck "no such operation"
def yQ(P:Program)(o:Oper)(s:Act×World):Option (Act×World) :=
 match (sS o.op s.1.eval).run P s.2 with
 | .ok v w'=>some (s.1.put o.dst v,w')
 | .halt _ _=>none
section
variable {P:Program} {rd:Option Nat}
def CM{o:Oper}{s t:Act×World}(h:yQ P o s=some t):∃ v,(sS o.op s.1.eval).run P s.2=.ok v t.2/\t.1=s.1.put o.dst v:=by
 unfold yQ at h;split at h
 .rename_i v w' hr;cases h;exact⟨v,hr,rfl⟩
 .cases h
def sL{o:Oper}{s:Act×World}(h:(sS o.op s.1.eval).run P s.2=.ok v w'):yQ P o s=some (s.1.put o.dst v,w'):=by
 unfold yQ;rw[h]
def A2h{o:Oper}(a:OS o.op=true)(w:World)(g:Operand->Value):o.about P w g=none:=by
 unfold Oper.about;cases b:o.op<;>rw[b]at a<;>first|rfl|cases a
def ZS{o:Oper}(a:OS o.op=true)(g:Operand->Value):∀ c,o.op≠.defer c:=fun c h=>by rw[h]at a;cases a
def A7i{o:Oper}(g:OS o.op=true){a a':Act}{w:World}{K:Act->World->Prop}{Q:Exit->Act->World->Prop}(h:yQ P o (a,w)=some (a',w'))(i:K a' w'):wpO P rd o a w K Q:=by
 obtain⟨v,h1,j⟩:=CM h;simp only at h1 j;subst j;unfold wpO Oper.wpIn;refine⟨fun f n=>(by rw[A2h g]at n;cases n),?_⟩;rw[Oper.semAt_eq _ _ _ (ZS g a.eval)];cases b:o.op<;>rw[b]at g h1<;>first
  | cases g;done
  | skip
 .have e:(execOp a.eval o)=pure (.value (a.eval ‹Operand›)):=by unfold execOp;rw[b]
  rw[e];cases h1;exact i
 .have e:(execOp a.eval o)=pure (.value (a.eval ‹Operand›)):=by unfold execOp;rw[b]
  rw[e];cases h1;exact i
 .rename_i t x;have e:(execOp a.eval o)=(do pure (.value (<- Instr.loadAt t (a.eval x)))):=by unfold execOp;rw[b]
  have h1:(Instr.loadAt t (a.eval x)).run P w=.ok v w':=h1;rw[e];simp only[A8,h1,Result.andThen,Sem.run_pure];exact i
 .rename_i t x y;have e:(execOp a.eval o)=(do Instr.storeAt t (a.eval x) (a.eval y);pure .skip):=by unfold execOp;rw[b]
  have h1:(do Instr.storeAt t (a.eval x) (a.eval y);pure undef:Sem Value).run P w=.ok v w':=h1;rw[e];simp only[A8]at h1 ⊢;cases hr:(Instr.storeAt t (a.eval x) (a.eval y)).run P w with
  | ok u w2=>rw[hr]at h1;simp only[Result.andThen,Sem.run_pure]at h1 ⊢;cases h1;exact i
  | halt x w2=>rw[hr]at h1;cases h1
def A9f{o:Oper}(f:OS o.op=true){a:Act}{w:World}{K:Act->World->Prop}{Q:Exit->Act->World->Prop}(g:∀ c a w,¬Q (.panic c) a w)(h:wpO P rd o a w K Q):∃ a' w',yQ P o (a,w)=some (a',w')/\K a' w':=by
 unfold wpO Oper.wpIn at h;obtain⟨_,h⟩:=h;rw[Oper.semAt_eq _ _ _ (ZS f a.eval)]at h;cases b:o.op<;>rw[b]at f<;>first
  | cases f;done
  | skip
 .rename_i x;have e:(execOp a.eval o)=pure (.value (a.eval x)):=by unfold execOp;rw[b]
  rw[e]at h;exact⟨_,_,sL (s:=(a,w)) (v:=a.eval x) (w':=w) (by rw[b];rfl),h⟩
 .rename_i x;have e:(execOp a.eval o)=pure (.value (a.eval x)):=by unfold execOp;rw[b]
  rw[e]at h;exact⟨_,_,sL (s:=(a,w)) (v:=a.eval x) (w':=w) (by rw[b];rfl),h⟩
 .rename_i t x;have e:(execOp a.eval o)=(do pure (.value (<- Instr.loadAt t (a.eval x)))):=by unfold execOp;rw[b]
  rw[e]at h;simp only[A8]at h;cases hr:(Instr.loadAt t (a.eval x)).run P w with
  | ok v w' =>
    rw[hr]at h;exact⟨_,_,sL (s:=(a,w)) (v:=v) (w':=w') (by rw[b];exact hr),h⟩
  | halt y w' =>
    rw[hr]at h;cases y<;>first|exact absurd h (g _ _ _)|exact h.elim
 .rename_i t x y;have e:(execOp a.eval o)=(do Instr.storeAt t (a.eval x) (a.eval y);pure .skip):=by unfold execOp;rw[b]
  rw[e]at h;simp only[A8]at h;cases hr:(Instr.storeAt t (a.eval x) (a.eval y)).run P w with
  | ok u w' =>
    rw[hr]at h;refine⟨_,_,sL (s:=(a,w)) (v:=undef) (w':=w') ?_,h⟩;rw[b];show(do Instr.storeAt t (a.eval x) (a.eval y);pure undef:Sem Value).run P w=_;simp only[A8,hr,Result.andThen,Sem.run_pure]
  | halt z w' =>
    rw[hr]at h;cases z<;>first|exact absurd h (g _ _ _)|exact h.elim
def A45{a:Act}{e:Option Tmp}{u:Value}(h:∀ x y,d=some x->e=some y->x≠y):(a.put d v).put e u=(a.put e u).put d v:=by
 cases d with
 | none=>rfl
 | some x=>cases e with
   | none=>rfl
   | some y =>
     have b:=h x y rfl rfl;unfold Act.put;simp only;congr 1;exact Array.setIfInBounds_comm _ _ b
def mA{a:Act}{x:Operand}(h:∀ t,d=some t->t ∉ uW x):(a.put d v).eval x=a.eval x:=by
 cases x with
 | const c=>cases d<;>rfl
 | tmp t =>
   cases d with
   | none=>rfl
   | some y =>
     have:y≠t:=fun e=>h y rfl (by subst e;exact L1.2 rfl)
     unfold Act.put Act.eval;simp only[C6];rw[Array.getElem?_setIfInBounds_ne this]
 | _=>cases d<;>rfl
variable [Ora]
def HU(P:Program)(w:World)(t:TypeId)(p:Value):Prop :=
 ∃ b o C T fz s g,p=.pointer (some ⟨b,o,none⟩)/\w.heap[b]? = some (.cells C T fz)/\I4 P t=some s/\dF P t=some g/\o+s<=C.size/\o<C.size
def JN{t:TypeId}{b o s:Nat}{C:r7}{T:TypeId}{g:Bool}(hs:I4 P t=some s)(n:dF P t=some g)(h1:o+s<=C.size)(q:o<C.size):∃ v,∀ w:World,w.heap[b]? = some (.cells C T fz)->(Instr.loadAt t (.pointer (some ⟨b,o,none⟩))).run P w=.ok v w:=by
 have a:∀ w:World,w.heap[b]? = some (.cells C T fz)->∀ j v,C[o+j]? = some v->w.cell? ⟨b,o+j,none⟩=some v:=fun w hw j v p=>by simp[World.cell?,hw,p]
 cases g with
 | true =>
   refine⟨.agg ⟨(C.toList.drop o).take s⟩,fun w hw=>?_⟩;have u:((C.toList.drop o).take s).length=s:=by rw[G3,F6,X9];omega
   have e:=N7 (P:=P) (w:=w) (b:=b) (o:=o) u (fun j v f=>by
    have i:j<s:=by have:=(B3.1 f).1;omega
    rw[G4 i,J7,Z6]at f;exact a w hw j v f)
   unfold Instr.loadAt;simp[A8,Instr.sureAddr,loadVar,eT n,P0 hs,Result.andThen,e]
 | false =>
   refine⟨C[o],fun w hw=>?_⟩
   have:=a w hw 0 C[o] (by simp[q]);unfold Instr.loadAt;simp[A8,Instr.sureAddr,loadVar,eT n,Result.andThen,run_load,show w.cell? ⟨b,o,none⟩=some C[o]from by simpa using this]
def DC{b o:Nat}{T:TypeId}{fz:Nat×Nat}:∀ (vs:List Value) (i:Nat) (C:Array Value) (w w':World),w.heap[b]? = some (.cells C T fz)->o+i+vs.length<=C.size->(storeCells ⟨b,o,none⟩ vs i).run P w=.ok () w' ->
  (∀ k,k≠b->w'.heap[k]? = w.heap[k]?)/\∃ C',w'.heap[b]? = some (.cells C' T fz)/\C'.size=C.size
 | [],i,C,w,w',h,_,hr=>by cases hr;exact⟨fun _ _=>rfl,C,h,rfl⟩
 | v::r,i,C,w,w',h,hl,hr=>by
   simp only[B6]at hl;have f:o+i<C.size:=A0;have j:w.cell? ⟨b,o+i,none⟩=some C[o+i]:=by simp[World.cell?,h,f]
   have q:(w.setCell ⟨b,o+i,none⟩ v).heap[b]? = some (.cells (C.setIfInBounds (o+i) v) T fz):=by
    simp[World.setCell,J1,h]
   unfold storeCells at hr;simp only[A8,N7.add_none']at hr;have a:(store ⟨b,o+i,none⟩ v).run P w=.ok () (w.setCell ⟨b,o+i,none⟩ v)∨∃ x w2,(store ⟨b,o+i,none⟩ v).run P w=.halt x w2:=by
    unfold store;cases v<;>first
     | exact .inr ⟨_,_,rfl⟩
     | (simp only[Sem.run,j]
        split
        .exact .inr ⟨_,_,rfl⟩
        .exact .inl rfl)
   rcases a with a|⟨x,w2,a⟩
   .rw[a]at hr;simp only[Result.andThen]at hr;obtain⟨s,C',p,n⟩:=DC r (i+1) _ _ _ q (by simp;omega) hr;refine⟨fun k g=>?_,C',p,by rw[n];simp⟩;rw[s k g];simp only[World.setCell,J1];rw[A3 (fun e=>g e.symm)]
   .rw[a]at hr;cases hr
def MD{t:TypeId}{b o s:Nat}{C:r7}{T:TypeId}{y:Value}{w:World}(hs:I4 P t=some s)(hw:w.heap[b]? = some (.cells C T fz))(h1:o+s<=C.size)(hr:(Instr.storeAt t (.pointer (some ⟨b,o,none⟩)) y).run P w=.ok () w') :
  (∀ k,k≠b->w'.heap[k]? = w.heap[k]?)/\∃ C',w'.heap[b]? = some (.cells C' T fz)/\C'.size=C.size:=by
 unfold Instr.storeAt at hr;simp only[A8,Instr.sureAddr,storeVar,P0 hs,Result.andThen,Sem.run_pure]at hr;by_cases a:y.cells.size≠s
 .rw[A4 a]at hr;cases hr
 .rw[A3 a]at hr;have a:=Classical.not_not.1 a;exact DC y.cells.toList 0 C w w' hw (by rw[X9,a];omega) hr
structure VN (P:Program) (ops:List Oper) (s:Act×World):Prop where
 pl:∀ o ∈ ops,∀ t x,qW o.op=some (t,x)->HU P s.2 t (s.1.eval x)
 ap:∀ i j a b,i<j->ops[i]? = some a->ops[j]? = some b->wX b i=false->(kC a.op || kC b.op)=true->∀ t x u y,qW a.op=some (t,x)->qW b.op=some (u,y)->∀ p q,s.1.eval x=.pointer (some p)->s.1.eval y=.pointer (some q)->p.block≠q.block
def FB{b:Nat}:cV l b=true↔b ∈ l:=by
 unfold cV;rw[Y7];constructor
 .rintro⟨x,h,e⟩;have:=A1 e;subst this;exact h
 .intro h;exact⟨b,h,gT b⟩
def SJ{a:List Tmp}:∀ {l:List Oper} {k i:Nat} {o:Oper},A5G a k l=true->l[i]? = some o->B5F a (k+i) o=true
 | [],k,i,o,_,h=>by simp at h
 | p::l,k,0,o,h,hi=>by
   simp at hi;subst hi;exact(C5 h).1
 | p::l,k,i+1,o,h,hi=>by
   have:=SJ (l:=l) (k:=k+1) (i:=i) (o:=o) (C5 h).2 (by simpa using hi);rw[show k+(i+1)=k+1+i by omega];exact this
structure One (ops:List Oper) (i:Nat) (o:Oper):Prop where
 cls:OS o.op=true
 grd:o.guard=none
 ads:∀ p ∈ ops,∀ t x,qW p.op=some (t,x)->∀ d,o.dst=some d->d ∉ uW x
 lt:∀ e ∈ o.after,Region.binds .any e=true->e.on<i
def rU{ops:List Oper}(h:pK ops=true){i:Nat}{o:Oper}(hi:ops[i]? = some o):One ops i o:=by
 have h1:=SJ (C5 h).1 hi;rw[G0]at h1;unfold B5F at h1;obtain⟨n,h1⟩:=C5 h1;obtain⟨a2,h1⟩:=C5 h1;obtain⟨a3,a4⟩:=C5 h1;refine⟨n,?_,fun p hp t x f d b hm=>?_,fun e he j=>?_⟩
 .cases a:o.guard with
  | none=>rfl
  | some g=>rw[a]at a2;cases a2
 .have:cV (A7Q ops) d=true:=FB.2 (List.mem_flatMap.2 ⟨p,hp,by rw[f];exact hm⟩);unfold JB at a3;rw[b]at a3;simp only at a3;rw[this]at a3;cases a3
 .have:=jL.1 a4 e he;rw[j]at this;exact A2 this
def RK{p:Oper->Oper->Bool}{ops:List Oper}(h:NA p ops=true){i j:Nat}{a b:Oper}(e:i<j)(hi:ops[i]? = some a)(g:ops[j]? = some b)(he:wX b i=false):p a b=true:=by
 unfold NA at h;have f:=(B3.1 g).1
 have:=D7.1 (D7.1 h j (dQ.2 f)) i (dQ.2 e);rw[hi,g]at this;simp only[he,R7]at this;exact this
def RP{o:Oper}{a:Act}(b:∀ t,d=some t->t ∉ A4j o.op)(f:OS o.op=true):sS o.op (a.put d v).eval=sS o.op a.eval:=by
 cases g:o.op<;>rw[g]at f b<;>first
  | cases f;done
  | skip
 .unfold sS;simp only;rw[mA b]
 .unfold sS;simp only;rw[mA b]
 .unfold sS;simp only;rw[mA b]
 .unfold sS;simp only;rw[mA (fun t e hm=>b t e (B5.2 (.inl hm))),mA (fun t e hm=>b t e (B5.2 (.inr hm)))]
def BZ{o:Oper}{s:Act×World}(e:OS o.op=true)(a:kC o.op=false)(hp:∀ t x,qW o.op=some (t,x)->HU P s.2 t (s.1.eval x))(h:(sS o.op s.1.eval).run P s.2=.ok v w'):w'=s.2:=by
 cases z:o.op<;>rw[z]at e a h hp<;>first
  | cases e;done
  | cases a;done
  | skip
 .cases h;rfl
 .cases h;rfl
 .rename_i t x;obtain⟨b,o',C,T,fz,sz,g,j,i,f,p,n,q⟩:=hp t x rfl;obtain⟨u,hu⟩:=JN (P:=P) (T:=T) (fz:=fz) f p n q;have h:(Instr.loadAt t (s.1.eval x)).run P s.2=.ok v w':=h;rw[j,hu s.2 i]at h;cases h;rfl
def DB{o:Oper}{s:Act×World}(a:kC o.op=true)(hp:∀ t x,qW o.op=some (t,x)->HU P s.2 t (s.1.eval x))(h:(sS o.op s.1.eval).run P s.2=.ok v w') :
  ∃ t x b o' C T fz,qW o.op=some (t,x)/\s.1.eval x=.pointer (some ⟨b,o',none⟩)/\s.2.heap[b]? = some (.cells C T fz)/\(∀ k,k≠b->w'.heap[k]? = s.2.heap[k]?)/\∃ C',w'.heap[b]? = some (.cells C' T fz)/\C'.size=C.size:=by
 cases q:o.op<;>rw[q]at a h hp<;>first
  | cases a;done
  | skip
 rename_i t x y;obtain⟨b,o',C,T,fz,sz,g,f,e,i,A,n,B⟩:=hp t x rfl;have h:(do Instr.storeAt t (s.1.eval x) (s.1.eval y);pure undef:Sem Value).run P s.2=.ok v w':=h;simp only[A8]at h;cases hr:(Instr.storeAt t (s.1.eval x) (s.1.eval y)).run P s.2 with
 | ok u w2 =>
   rw[hr]at h;simp only[Result.andThen,Sem.run_pure]at h;cases h;rw[f]at hr;obtain⟨p,j⟩:=MD i e n hr;exact⟨t,x,b,o',C,T,fz,rfl,f,e,p,j⟩
 | halt z w2=>rw[hr]at h;cases h
def HU.keep{w:World}{t:TypeId}{p:Value}(h:HU P w t p)(i:∀ (b:Nat) (C:Array Value) (T:TypeId) (fz:Nat×Nat),w.heap[b]? = some (.cells C T fz)->∃ C',w'.heap[b]? = some (.cells C' T fz)/\C'.size=C.size):HU P w' t p:=by
 obtain⟨b,o,C,T,fz,s,g,f,e,a,j,q,u⟩:=h;obtain⟨C',h1,n⟩:=i b C T fz e;exact⟨b,o,C',T,fz,s,g,f,h1,a,j,A0,A0⟩
def VN.step{ops:List Oper}{s E:Act×World}{i:Nat}{o:Oper}(hr:pK ops=true)(B:VN P ops s)(hi:ops[i]? = some o)(h:yQ P o s=some E):VN P ops E:=by
 obtain⟨v,h1,Q⟩:=CM h;have K:=rU hr hi;have g:=E6 hi;have n:∀ p ∈ ops,∀ t x,qW p.op=some (t,x)->E.1.eval x=s.1.eval x:=fun p hp t x f=>by rw[Q];exact mA (K.ads p hp t x f)
 have O:∀ (b:Nat) (C:Array Value) (T:TypeId) (fz:Nat×Nat),s.2.heap[b]? = some (.cells C T fz)->∃ C',E.2.heap[b]? = some (.cells C' T fz)/\C'.size=C.size:=fun b C T fz D=>by
  cases z:kC o.op with
  | false=>rw[BZ K.cls z (fun t x f=>B.pl o g t x f) h1];exact⟨C,D,rfl⟩
  | true =>
    obtain⟨t,x,b',o',Z,T0,M,Y,X,N,V,C',S,W⟩:=DB z (fun t x f=>B.pl o g t x f) h1;by_cases e:b=b'
    .subst e;rw[N]at D;cases D;exact⟨C',S,W⟩
    .exact⟨C,by rw[V b e];exact D,rfl⟩
 refine⟨fun p hp t x f=>by rw[n p hp t x f];exact(B.pl p hp t x f).keep O,fun i j a b F h3 J L R t x u y G I p q H A=>?_⟩;rw[n a (E6 h3) t x G]at H;rw[n b (E6 J) u y I]at A;exact B.ap i j a b F h3 J L R t x u y G I p q H A
def A6j{ops:List Oper}{s s1 s2:Act×World}{i j:Nat}{a b:Oper}(hr:pK ops=true)(O:VN P ops s)(F:i<j)(hi:ops[i]? = some a)(M:ops[j]? = some b)(he:wX b i=false)(h1:yQ P a s=some s1)(h2:yQ P b s1=some s2):∃ t,yQ P b s=some t/\yQ P a t=some s2:=by
 have Y:=rU hr hi;have N:=rU hr M;have ma:=E6 hi;have mb:=E6 M;have f:=RK (C5 hr).2 F hi M he;unfold B8c at f;obtain⟨i1,f⟩:=C5 f;obtain⟨i2,f⟩:=C5 f;obtain⟨i3,i4⟩:=C5 f;have Q:∀ t,a.dst=some t->t ∉ A4j b.op:=fun t S hm=>by
  unfold JB at i2;rw[S]at i2;simp only at i2;rw[FB.2 hm]at i2;cases i2
 have V:∀ t,b.dst=some t->t ∉ A4j a.op:=fun t S hm=>by
  unfold JB at i3;rw[S]at i3;simp only at i3;rw[FB.2 hm]at i3;cases i3
 have X:∀ x y,a.dst=some x->b.dst=some y->x≠y:=fun x y n hy e=>by
  rw[n,hy]at i1;simp only at i1;subst e;rw[gT]at i1;cases i1
 obtain⟨v,L,e2⟩:=CM h1;obtain⟨u,G,e4⟩:=CM h2;obtain⟨a1,w1⟩:=s1;obtain⟨a2,w2⟩:=s2;obtain⟨a0,w0⟩:=s;simp only at L e2 G e4;subst e2;subst e4;rw[RP Q N.cls]at G;suffices hh:∃ w',(sS b.op a0.eval).run P w0=.ok u w'/\(sS a.op a0.eval).run P w'=.ok v w2 by
  obtain⟨w',q1,q2⟩:=hh;refine⟨(a0.put b.dst u,w'),sL (s:=(a0,w0)) q1,?_⟩
  have:=sL (P:=P) (o:=a) (s:=(a0.put b.dst u,w')) (v:=v) (w':=w2) (by show(sS a.op (a0.put b.dst u).eval).run P w'=_;rw[RP V Y.cls];exact q2);rw[this];simp only;rw[A45 X]
 have H:∀ t x,qW a.op=some (t,x)->HU P w0 t (a0.eval x):=fun t x n=>O.pl a ma t x n
 have B:∀ t x,qW b.op=some (t,x)->HU P w0 t (a0.eval x):=fun t x n=>O.pl b mb t x n
 have p:∀ {o:Oper} {w w':World} {r:Value},OS o.op=true->kC o.op=false->(∀ t x,qW o.op=some (t,x)->∃ q A C T fz s g,a0.eval x=.pointer (some ⟨q,A,none⟩)/\w.heap[q]? = some (.cells C T fz)/\w'.heap[q]? = some (.cells C T fz)/\I4 P t=some s/\dF P t=some g/\A+s<=C.size/\A<C.size)->(sS o.op a0.eval).run P w=.ok r w->(sS o.op a0.eval).run P w'=.ok r w':=fun{o w w' r} hc K hp h=>by
  cases ho:o.op<;>rw[ho]at hc K h hp<;>first
   | cases hc;done
   | cases K;done
   | skip
  .cases h;rfl
  .cases h;rfl
  .rename_i t x;obtain⟨q,A,C,T,fz,sz,g,f1,f2,f3,f4,f5,f6,f7⟩:=hp t x rfl;obtain⟨z,hz⟩:=JN (P:=P) (T:=T) (fz:=fz) f4 f5 f6 f7;have h:(Instr.loadAt t (a0.eval x)).run P w=.ok r w:=h;show(Instr.loadAt t (a0.eval x)).run P w'=.ok r w';rw[f1,hz w f2]at h;rw[f1,hz w' f3];cases h;rfl
 cases I:kC a.op with
 | false =>
   have hw:w1=w0:=BZ (s:=(a0,w0)) Y.cls I H L;subst hw;refine⟨w2,G,?_⟩;refine p Y.cls I (fun t x n=>?_) L;obtain⟨q,A,C,T,fz,sz,g,f1,f2,f3,f4,f5,f6⟩:=H t x n;cases E:kC b.op with
   | false =>
     have W:w2=w1:=BZ (s:=(a0,w1)) N.cls E B G;subst W;exact⟨q,A,C,T,fz,sz,g,f1,f2,f2,f3,f4,f5,f6⟩
   | true =>
     obtain⟨R,x',b',o',C0,T0,Z,g1,g2,g3,g4,_⟩:=DB (s:=(a0,w1)) E B G;have D:=O.ap i j a b F hi M he (by rw[I,E];rfl) t x R x' n g1 _ _ f1 g2;exact⟨q,A,C,T,fz,sz,g,f1,f2,(g4 q D).trans f2,f3,f4,f5,f6⟩
 | true =>
   have E:kC b.op=false:=by
    cases h:kC b.op with
    | false=>rfl
    | true=>rw[I,h]at i4;cases i4
   obtain⟨R,x',b',o',C0,T0,Z,g1,g2,g3,g4,C1,g5,g6⟩:=DB (s:=(a0,w0)) I H L;have J:∀ t x,qW b.op=some (t,x)->HU P w1 t (a0.eval x):=fun t x n=>(B t x n).keep fun b C T fz hb=>by
    by_cases e:b=b'
    .subst e;rw[g3]at hb;cases hb;exact⟨C1,g5,g6⟩
    .exact⟨C,by rw[g4 b e];exact hb,rfl⟩
   have hw:w2=w1:=BZ (s:=(a0,w1)) N.cls E J G;subst hw;refine⟨w0,?_,L⟩;refine p N.cls E (fun t x n=>?_) G;obtain⟨q,A,C,T,fz,sz,g,f1,f2,f3,f4,f5,f6⟩:=B t x n;have D:=O.ap i j a b F hi M he (by rw[I,E];rfl) R x' t x g1 n _ _ g2 f1;exact⟨q,A,C,T,fz,sz,g,f1,(g4 q (fun e=>D e.symm)).trans f2,f2,f3,f4,f5,f6⟩
def MN(P:Program)(ops:List Oper):I9->Act×World->Option (Act×World)
 | [],s=>some s
 | i::l,s=>match ops[i]? with
   | some o=>match yQ P o s with
     | some s=>MN P ops l s
     | none=>none
   | none=>MN P ops l s
def tK{ops:List Oper}(hr:pK ops=true){j:Nat}{b:Oper}(f:ops[j]? = some b){l2:I9}{r:Act×World}:∀ (l1:List Nat) (s:Act×World),VN P ops s->(∀ i ∈ l1,i<j/\wX b i=false)->MN P ops (l1++j::l2) s=some r->∃ s1,yQ P b s=some s1/\MN P ops (l1++l2) s1=some r
 | [],s,hg,_,h=>by
   simp only[X4,MN,f]at h;split at h
   .rename_i s1 h1;exact⟨s1,h1,h⟩
   .cases h
 | i::l1,s,hg,hl,h=>by
   obtain⟨h0,he⟩:=hl i C7;have e:∀ i ∈ l1,i<j/\wX b i=false:=fun k n=>hl k (D1 _ n)
   simp only[Y6,MN]at h ⊢;cases hi:ops[i]? with
   | none =>
     rw[hi]at h;exact tK hr f l1 s hg e h
   | some a =>
     rw[hi]at h;simp only at h ⊢;split at h
     .rename_i p h1;obtain⟨s1,g,o⟩:=tK hr f l1 p (hg.step hr hi h1) e h;obtain⟨t,t1,t2⟩:=A6j hr hg h0 hi f he h1 g;exact⟨t,t1,by rw[t2];exact o⟩
     .cases h
def oP(n:Nat)(listed:Array Bool):I9:=(List.range n).filter fun i=>!listed.getD i true
def vP{n:Nat}{i:Nat}:i ∈ oP n listed↔i<n/\listed.getD i true=false:=by
 unfold oP;rw[X5,dQ];simp
def MU(n:Nat)(listed:Array Bool):(oP n listed).Pairwise (· < ·):=List.Pairwise.filter _ List.pairwise_lt_range
def A4i{n:Nat}{i:Nat}{l1 l2:I9}(hi:i<listed.size)(h:oP n listed=l1++i::l2):oP n (listed.setIfInBounds i true)=l1++l2:=by
 have hp:=MU n listed;rw[h]at hp;have b:∀ k ∈ l1++l2,(k != i)=true:=fun k a=>by
  have hp:=List.pairwise_append.1 hp;rcases B5.1 a with a|a
  .have:=hp.2.2 k a i C7;simp;omega
  .have:=(List.pairwise_cons.1 hp.2.1).1 k a;simp;omega
 have e:oP n (listed.setIfInBounds i true)=(oP n listed).filter fun k=>k != i:=by
  unfold oP;rw[List.filter_filter];apply List.filter_congr;intro k _;simp only[C6,H4];by_cases e:i=k
  .subst e;simp[hi]
  .simp[e,Ne.symm e]
 rw[e,h,List.filter_append,mN];have f:(i != i)=false:=by simp
 rw[f];simp only[L2,if_false];rw[gG.2 fun k a=>b k (B5.2 (.inl a)),gG.2 fun k a=>b k (B5.2 (.inr a))]
def JH{ops:Array Oper}(hr:pK ops.toList=true){Q:Exit->Act->World->Prop}:∀ (fuel:Nat) (listed:Array Bool) (a:Act) (w:World) (r:Act×World),listed.size=ops.size->VN P ops.toList (a,w)->(oP ops.size listed).length=fuel->MN P ops.toList (oP ops.size listed) (a,w)=some r->Q .normal r.1 r.2->mP P rd .any ops Q fuel listed a w
 | 0,listed,a,w,r,hsz,hg,hl,h,hq=>by
   have h0:=D5.1 hl;rw[h0]at h;cases h;refine⟨?_,hq⟩;rw[eP];intro i hi;have:i ∈ oP ops.size listed:=by
    unfold Region.ready at hi;rw[X5]at hi;unfold oP;rw[X5];exact⟨hi.1,(C5 hi.2).1⟩
   rw[h0]at this;cases this
 | fuel+1,listed,a,w,r,hsz,hg,hl,h,hq=>by
   have j:∀ {i:Nat},i<ops.size->∃ o,ops.toList[i]? = some o/\ops[i]? = some o:=fun{i} hi=>⟨ops[i],by simp[hi],by simp[hi]⟩
   refine⟨fun J=>?_,fun i hi=>?_⟩
   ·
    cases g:oP ops.size listed with
    | nil=>rw[g]at hl;cases hl
    | cons i t =>
      exfalso;have D:i ∈ oP ops.size listed:=by rw[g];exact C7
      obtain⟨i1,i2⟩:=vP.1 D;obtain⟨o,u,A⟩:=j i1;have z:=rU hr u;have f:=MU ops.size listed;rw[g]at f;have s:∀ k,k<i->listed.getD k false=true:=fun k G=>by
       have q:k<listed.size:=A0;cases I:listed.getD k true with
       | true=>rw[<- I];simp[C6,q]
       | false =>
         have:k ∈ oP ops.size listed:=vP.2 ⟨A0,I⟩;rw[g]at this;rcases B7.1 this with e|hm
         .omega
         .have:=(List.pairwise_cons.1 f).1 k hm;omega
      have:i ∈ Region.ready .any ops listed:=by
       unfold Region.ready;rw[X5,dQ];refine⟨i1,?_⟩;rw[i2,A];simp only[Bool.not_false,Q6,P3,bC];rw[jL];intro e he;cases L:Region.binds .any e with
       | false=>rfl
       | true=>rw[s e.on (z.lt e he L)];rfl
      rw[J]at this;cases this
   .have hi':=hi;unfold Region.ready at hi;rw[X5,dQ]at hi;obtain⟨i1,i2⟩:=hi;obtain⟨o,u,A⟩:=j i1;have z:=rU hr u;rw[A]at i2;obtain⟨i2,i3⟩:=C5 i2;simp only[P3,bC]at i3;have B:listed.getD i true=false:=by simpa using i2
    have x:i ∈ oP ops.size listed:=vP.2 ⟨i1,B⟩;obtain⟨l1,l2,b⟩:=List.append_of_mem x;have f:=MU ops.size listed;rw[b]at f;have C:∀ k ∈ l1,k<i/\wX o k=false:=fun k G=>by
     refine⟨(List.pairwise_append.1 f).2.2 k G i C7,?_⟩;cases he:wX o k with
     | false=>rfl
     | true =>
       exfalso;unfold wX at he;rw[Array.any_eq_true']at he;obtain⟨e,hm,he⟩:=he;obtain⟨K,F⟩:=C5 he;have F:=A1 F
       have:=(jL.1 i3) e hm;rw[K,F]at this;simp only[V8,R7]at this;have q:=(vP (n:=ops.size) (listed:=listed) (i:=k)).1 (by rw[b];exact B5.2 (.inl G));have E:k<listed.size:=A0;have p:=q.2;simp[C6,E]at this p;rw[this]at p;cases p
    rw[b]at h;obtain⟨s1,H,M⟩:=tK hr u l1 (a,w) hg C h;have eF:=A4i (n:=ops.size) (listed:=listed) (i:=i) (l1:=l1) (l2:=l2) A0 b;obtain⟨N,w1⟩:=s1;unfold lE;rw[A];simp only;have hw:Region.wanted o (yielded ops a.tmps)=true:=by unfold Region.wanted;rw[z.grd]
    rw[A4 hw];refine A7i z.cls H (JH hr fuel (listed.setIfInBounds i true) N w1 r (by simpa using hsz) (hg.step hr u H) ?_ (by rw[eF];exact M) hq);rw[eF];have:(l1++i::l2).length=fuel+1:=by rw[<- b];exact hl
    simp at this ⊢;omega
def IR{ops:Array Oper}(hr:pK ops.toList=true){Q:Exit->Act->World->Prop}:∀ (d k:Nat) (a:Act) (w:World),k+d=ops.size->wpL P rd ops (fun e a' w'=>e=.normal/\Q e a' w') (ops.toList.drop k) a w->∃ r,MN P ops.toList (List.range' k d) (a,w)=some r/\Q .normal r.1 r.2
 | 0,k,a,w,hk,h=>by
   have:ops.toList.drop k=[]:=dT (by simp;omega);rw[this]at h;exact⟨(a,w),rfl,h.2⟩
 | d+1,k,a,w,hk,h=>by
   have b:k<ops.toList.length:=by simp;omega
   rw[bE b]at h;have f:=rU hr (A7 b);unfold wpL at h;have hw:Region.wanted ops.toList[k] (yielded ops a.tmps)=true:=by unfold Region.wanted;rw[f.grd]
   rw[A4 hw]at h;obtain⟨a',w',h1,i⟩:=A9f f.cls (fun c a w hh=>by cases hh.1) h;obtain⟨r,r1,g⟩:=IR hr d (k+1) a' w' A0 i;refine⟨r,?_,g⟩;rw[List.range'_succ];simp only[MN,A7 b,h1];exact r1
def A8R{ops:Array Oper}(hr:pK ops.toList=true){Q:Exit->Act->World->Prop}{a:Act}{w:World}(f:∀ w',w'.heap=w.heap->VN P ops.toList (a,w'))(h:∀ d,wpL P rd ops (fun e a' w'=>e=.normal/\Q e a' w') ops.toList a { w with drawn:=d })(d:Nat):mP P rd .any ops Q ops.size (Array.replicate ops.size false) a { w with drawn:=d }:=by
 obtain⟨r,r1,b⟩:=IR hr ops.size 0 a { w with drawn:=d } A0 (by simpa using h d);have e:oP ops.size (Array.replicate ops.size false)=List.range' 0 ops.size:=by
  unfold oP;rw[List.range_eq_range',gG];intro i hi;have:i<ops.size:=by have:=List.mem_range'.1 hi;omega
  simp[C6,this]
 exact JH hr ops.size _ a _ r (by simp) (f _ rfl) (by rw[e];simp) (by rw[e];exact r1) b
end
end
end Go.Sx
