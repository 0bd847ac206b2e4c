import Derived.Test.YtbbicpheoakeeaaGreatDoorX4
import Derived.MapKept
import Derived.WideKeyRuns
import Derived.Lib.Builder
import Derived.LoopNIn
import Derived.RangeFuncRecord
set_option linter.all false
set_option maxRecDepth 100000
set_option maxHeartbeats 4000000
namespace Go.Sx
variable {ks l ts:G5}{k' v v' x':Value}{cs:List Frame}{k:Nat}{y:MTy}{d:Option Tmp}{kt pt ty:TypeId}{r us vs:List U}{rows rs:List (List U)}{es es':Array MapEntry}{hs xs:C9}{c:Code}{e':MapEntry}{tys:List TypeId}{w':World}{fz:Nat×Nat}{listed:Array Bool}
section
open Go
variable [Ora]
section
variable {P:Program} {base:Nat} {ρ:Ren} {m m':Mem} {w:World}
def rK:∀ {ts:G5} {cs cs':C9},wS ts cs=true->(∀ t ∈ ts,t<10)->LR ρ cs cs'->(cs.map (D3 Ora.env)).map F5=ts/\cs'=(cs.map (D3 Ora.env)).map R6
 | [],[],cs',_,_,hl=>by cases hl.nil_inv;exact⟨rfl,rfl⟩
 | t::ts,v::vs,cs',h,ht,hl=>by
   obtain⟨h1,f⟩:=B3 (show(Nat.beq (G0 v) t && wS ts vs)=true from h);have h1:=A0 h1;obtain⟨v',r,rfl,g1,g2⟩:=hl.tail;obtain⟨a,b⟩:=rK f (fun x hx=>ht x (C3 _ hx)) g2;obtain⟨c,d⟩:=n9 g1 (by rw[h1];exact ht t B1);have e:R6 (D3 Ora.env v)=v':=by unfold R6;rw[c];rfl
   exact⟨by rw[C4,C4,a,d,h1],by rw[C4,C4,e,<- b]⟩
 | [],_::_,_,h,_,_=>by cases h
 | _::_,[],_,h,_,_=>by cases h
def gX{a:Bool}{cs:C9}(h:lZ a ts v=some cs)(f:∀ t ∈ ts,t<10)(hv:VR ρ v v'):v'=V7 a (cs.map (D3 Ora.env))/\(cs.map (D3 Ora.env)).map F5=ts:=by
 unfold lZ at h;split at h
 .rename_i c;obtain⟨h1,h⟩:=A3 h;cases h;obtain⟨cs',rfl,g⟩:=U5 hv;obtain⟨b,e⟩:=rK h1 f g;exact⟨by rw[e];rfl,b⟩
 .cases h
 .obtain⟨h1,h⟩:=A3 h;cases h;obtain⟨b,e⟩:=rK h1 f (LR.cons hv LR.nil);refine⟨?_,b⟩
  have:=F0 List.head? e
  simpa [V7]using this
def uY{t:Nat}(h:eE P t=some k):k<10:=by
 unfold eE at h;split at h
 .cases h;decide
 .cases h;have:=K7 ‹_›;omega
 .cases h;decide
 .cases h
def HN:∀ {g:List Field} {i:Nat} {l:G5},sR P g i=some l->∀ t ∈ l,t<10
 | [],i,l,h,t,e=>by cases h;cases e
 | f::g,i,l,h,t,e=>by
   unfold sR at h;split at h
   .rename_i a b h1 j;obtain⟨_,h⟩:=A3 h;cases h;rcases B4.1 e with rfl|e
    .exact uY h1
    .exact HN j t e
   .cases h
def CH{T:TypeId}(h:RE P T=some y):P.underlying T=some (.map y.kt y.vt)/\mM P y.kt=some (y.ka,y.ks)/\ML P y.vt=some (y.va,y.vs)/\0<y.ks.length/\(∀ t ∈ y.ks,t<10)/\(∀ t ∈ y.vs,t<10)/\(y.va=false->y.vs.length=1):=by
 unfold RE at h;split at h
 .rename_i kt vt hu;split at h
  .rename_i ka k ks va vs h1 a;cases h;refine⟨hu,h1,a,Nat.succ_pos _,?_,?_,?_⟩
   .intro t b;unfold mM at h1;split at h1
    .cases hs:P.stoodInHeld kt with
     | true=>rw[hs]at h1;cases h1
     | false =>
       rw[hs]at h1;simp only[D4]at h1;split at h1
       .rename_i l f;cases h1;exact HN f t b
       .cases h1
    .split at h1
     .rename_i z g;cases h1;simp only[B4,L6,or_false]at b;subst b;exact uY g
     .cases h1
   .intro t b;unfold ML at a;split at a
    .obtain⟨h3,a⟩:=A3 a;cases a;exact A1 (D2.1 h3 t b)
    .obtain⟨h3,a⟩:=A3 a;cases a;simp only[B4,L6,or_false]at b;subst b;exact A1 h3
    .cases a
   .intro e;have e:va=false:=e;subst e;unfold ML at a;split at a
    .obtain⟨_,a⟩:=A3 a;cases a
    .obtain⟨_,a⟩:=A3 a;cases a;rfl
    .cases a
  .cases h
 .cases h
def MW{t:TypeId}{u v:U}(h:eE P t=some k)(h1:F5 u=k)(f:F5 v=k)(n:Nat)(w:World):(Op.equalIn (n+1) t (R6 u) (R6 v)).run P w=.ok (isU u v) w:=by
 have o:=uY h;unfold eE at h;split at h
 .rename_i hu;cases h;cases u<;>simp only[F5]at h1<;>first|omega|skip
  .have:=K7 ‹_›;omega
  .cases v<;>simp only[F5]at f<;>first|omega|skip
   .have:=K7 ‹_›;omega
   .simp[R6,toV,isU,eqU,Op.equalIn,A4,C8 hu,Result.andThen]
 .rename_i j hu;cases h;cases u with
  | int a x =>
    cases v with
    | int b z =>
      have g:=oW h1;have i:=oW f;subst g;subst i;simp[R6,toV,isU,eqU,Op.equalIn,A4,C8 hu,Result.andThen]
    | bool b=>simp only[F5]at f;have:=K7 j;omega
    | str s=>simp only[F5]at f;have:=K7 j;omega
    | seq _ _ _=>simp only[F5]at f;omega
    | none=>simp only[F5]at f;omega
  | bool b=>simp only[F5]at h1;have:=K7 j;omega
  | str s=>simp only[F5]at h1;have:=K7 j;omega
  | seq _ _ _=>simp only[F5]at h1;omega
  | none=>simp only[F5]at h1;omega
 .rename_i hu;cases h;cases u<;>simp only[F5]at h1<;>first|omega|skip
  .have:=K7 ‹_›;omega
  .cases v<;>simp only[F5]at f<;>first|omega|skip
   .have:=K7 ‹_›;omega
   .rename_i p q
    have:=run_equalIn_string (P:=P) w n t ⟨⟨p⟩⟩ ⟨⟨q⟩⟩ hu;have e:∀ s:List UInt8,R6 (.str s)=.string ⟨⟨s⟩⟩:=fun _=>rfl
    rw[e,e,this];simp[isU,eqU,ByteArray.toList_eq]
 .cases h
def TN{t:TypeId}{d:TypeDesc}{u v:U}(g:P.underlying t=some d)(h:eE P t=some k)(h1:F5 u=k)(f:F5 v=k):Instr.sameNow d (R6 u) (R6 v)=some (isU u v):=by
 unfold eE at h;split at h
 .rename_i hu;rw[hu]at g;cases g;cases h;cases u<;>simp only[F5]at h1<;>first|omega|skip
  .have:=K7 ‹_›;omega
  .cases v<;>simp only[F5]at f<;>first|omega|skip
   .have:=K7 ‹_›;omega
   .simp[R6,toV,isU,eqU,Instr.sameNow]
 .rename_i j hu;rw[hu]at g;cases g;cases h;cases u with
  | int a x =>
    cases v with
    | int b z =>
      have i:=oW h1;have n:=oW f;subst i;subst n;simp[R6,toV,isU,eqU,Instr.sameNow]
    | bool b=>simp only[F5]at f;have:=K7 j;omega
    | str s=>simp only[F5]at f;have:=K7 j;omega
    | seq _ _ _=>simp only[F5]at f;have:=K7 j;omega
    | none=>simp only[F5]at f;have:=K7 j;omega
  | bool b=>simp only[F5]at h1;have:=K7 j;omega
  | str s=>simp only[F5]at h1;have:=K7 j;omega
  | seq _ _ _=>simp only[F5]at h1;have:=K7 j;omega
  | none=>simp only[F5]at h1;have:=K7 j;omega
 .rename_i hu;rw[hu]at g;cases g;cases h;cases u<;>simp only[F5]at h1<;>first|omega|skip
  .have:=K7 ‹_›;omega
  .cases v<;>simp only[F5]at f<;>first|omega|skip
   .have:=K7 ‹_›;omega
   .rename_i p q;have e:(ByteArray.mk ⟨p⟩ == ByteArray.mk ⟨q⟩)=(p == q):=by
     show(Array.mk p == Array.mk q)=_;rw[J1,beq_iff_eq,beq_iff_eq];exact⟨fun h=>by injection h,fun h=>by rw[h]⟩
    simp[R6,toV,isU,eqU,Instr.sameNow,e]
 .cases h
def qM{t:TypeId}(h:eE P t=some k){X:C9}{i:Nat}(hx:X[i]? = some v)(w:World):(part t ⟨X⟩ i).run P w=.ok v w:=by
 have a:∀ d,P.underlying t=some d->(match d with|.struct _|.array _ _=>False|_=>True)->(part t ⟨X⟩ i).run P w=.ok v w:=fun d b e=>by
  cases d<;>simp only at e<;>simp[part,isAgg,A4,C8 b,Result.andThen,hx]
 unfold eE at h;split at h
 .exact a _ ‹_› trivial
 .exact a _ ‹_› trivial
 .exact a _ ‹_› trivial
 .cases h
def AI:∀ {o:List Field} {i:Nat} {ks:G5} {us vs:List U} {p q:C9},sR P o i=some ks->us.map F5=ks->vs.map F5=ks->p.length=i->q.length=i->∀ (n:Nat) (w:World),(Op.eqFields (n+1) ⟨p++us.map R6⟩ ⟨q++vs.map R6⟩ o).run P w=.ok (S5 us vs) w
 | [],i,ks,us,vs,p,q,h,h1,h2,hp,hq,n,w=>by
   cases h;have b:us=[]:=by simpa using h1
   have e:vs=[]:=by simpa using h2
   subst b;subst e;simp[Op.eqFields,S5]
 | f::o,i,ks,us,vs,p,q,h,h1,h2,hp,hq,n,w=>by
   unfold sR at h;split at h
   .rename_i t l g B;obtain⟨A,h⟩:=A3 h;cases h;obtain⟨j,a⟩:=B3 A;have a:=A0 a;have z:f.name ≠ "_":=by simpa using j
    cases us with
    | nil=>cases h1
    | cons u us =>
      cases vs with
      | nil=>cases h2
      | cons v vs =>
        simp only[C4,I5]at h1 h2;have g1:(p++(u::us).map R6)[f.offset]? = some (R6 u):=by rw[a,<- hp,D7 (A6 _)];simp
        have g2:(q++(v::vs).map R6)[f.offset]? = some (R6 v):=by rw[a,<- hq,D7 (A6 _)];simp
        have b:=qM g g1 w;have e:=qM g g2 w;have s:=MW g h1.1 h2.1 n w;have x:=AI (p:=p++[R6 u]) (q:=q++[R6 v]) B h1.2 h2.2 (by simp[hp]) (by simp[hq]) n w;rw[L9,L9]at x;unfold Op.eqFields;rw[A9 z];simp only[S5];cases hs:isU u v with
        | false =>
          simp only[A4,b,e,s,hs,Result.andThen_ok];simp
        | true =>
          simp only[A4,b,e,s,hs,Result.andThen_ok,Bool.true_and];exact x
   .cases h
def A4o{a:Bool}(h:mM P kt=some (a,ks))(h1:us.map F5=ks)(b:vs.map F5=ks)(w:World):(Op.equal kt (V7 a us) (V7 a vs)).run P w=.ok (S5 us vs) w:=by
 unfold mM at h;split at h
 .rename_i f hu;cases hs:P.stoodInHeld kt with
  | true=>rw[hs]at h;cases h
  | false =>
    rw[hs]at h;simp only[D4]at h;split at h
    .rename_i l i;cases h;have e:P.fieldsOf kt=f:=by simp[Program.fieldsOf,hu]
     show(Op.equalIn (9999+1) kt (.agg _) (.agg _)).run P w=_;rw[run_equalIn_struct (P:=P) w 9999 kt _ _ (by rw[e];exact hu) hs,e];exact AI (p:=[]) (q:=[]) i h1 b rfl rfl 9998 w
    .cases h
 .split at h
  .rename_i k g;cases h;cases us with
   | nil=>cases h1
   | cons u us=>cases us with
     | cons _ _=>simp at h1
     | nil=>cases vs with
       | nil=>cases b
       | cons v vs=>cases vs with
         | cons _ _=>simp at b
         | nil =>
           simp only[C4,F8,I5,and_true]at h1 b
           have:=MW g h1 b 9999 w;show(Op.equalIn (9999+1) kt (R6 u) (R6 v)).run P w=_;rw[this];simp[S5]
  .cases h
def xA{t:TypeId}(h:eE P t=some k)(e:Bool)(n:Nat)(v:Value)(w:World):(Instr.checkKey e (n+1) t v).run P w=.ok () w:=by
 unfold eE at h;split at h
 .rename_i hu;simp[Instr.checkKey,A4,C8 hu,Result.andThen]
 .rename_i hu;simp[Instr.checkKey,A4,C8 hu,Result.andThen]
 .rename_i hu;simp[Instr.checkKey,A4,C8 hu,Result.andThen]
 .cases h
def qA(e:Bool)(n:Nat)(w:World):∀ (L:List Field) (i:Nat) (ks:List Nat) (us:List U) (p:List Value),sR P L i=some ks->us.map F5=ks->p.length=i ->
  (forIn L PUnit.unit fun f (_:PUnit)=>if f.name ≠ "_" then(do let x <- part f.type ⟨p++us.map R6⟩ f.offset;Instr.checkKey e (n+1) f.type x;pure (ForInStep.yield PUnit.unit):Sem (ForInStep PUnit))else pure (ForInStep.yield PUnit.unit)).run P w=.ok PUnit.unit w
 | [],i,ks,us,p,h,h1,hp=>by simp
 | f::fs,i,ks,us,p,h,h1,hp=>by
   unfold sR at h;split at h
   .rename_i t l g s;obtain⟨q,h⟩:=A3 h;cases h;obtain⟨b,a⟩:=B3 q;have a:=A0 a;have o:f.name ≠ "_":=by simpa using b
    cases us with
    | nil=>cases h1
    | cons u us =>
      simp only[C4,I5]at h1;have g1:(p++(u::us).map R6)[f.offset]? = some (R6 u):=by rw[a,<- hp,D7 (A6 _)];simp
      have z:=qM g g1 w;have A:=xA g e n (R6 u) w;have j:=qA e n w fs (i+1) l us (p++[R6 u]) s h1.2 (by simp[hp]);rw[L9]at j;rw[List.forIn_cons];simp only[A9 o,A4,z,A,Result.andThen_ok,Sem.run_pure];exact j
   .cases h
def AQ{a:Bool}(h:mM P kt=some (a,ks))(h1:us.map F5=ks)(e:Bool)(w:World):(Instr.checkKey e 10000 kt (V7 a us)).run P w=.ok () w:=by
 unfold mM at h;split at h
 .rename_i b hu;cases hs:P.stoodInHeld kt with
  | true=>rw[hs]at h;cases h
  | false =>
    rw[hs]at h;simp only[D4]at h;split at h
    .rename_i l g;have h:=h;cases h;have key:∀ n:Nat,(Instr.checkKey e (n+2) kt (.agg ⟨us.map R6⟩)).run P w=.ok () w:=fun n=>by
      rw[Instr.checkKey];simp only[A4,C8 hu,Result.andThen_ok];rw[<- Array.forIn_toList]
      have:=qA e n w b.toList 0 _ us [] g h1 rfl;rw[G1]at this;rw[this];rfl
     exact key 9998
    .cases h
 .split at h
  .rename_i k f;cases h;exact xA f e 9999 _ w
  .cases h
def mH(k:List U):List (List U)->Nat->Option (Nat×List U)
 | [],_=>none
 | r::rs,i=>if S5 k r then some (i,r)else mH k rs (i+1)
def qU:∀ (us r:List U),S5 us (r.take us.length)=S5 us r
 | [],r=>rfl
 | a::us,[]=>rfl
 | a::us,b::r=>by
   show(isU a b && S5 us (r.take us.length))=(isU a b && S5 us r);rw[qU us r]
def tM.head{e:MapEntry}{es:List MapEntry}(h:tM y (r::rs) (e::es)):(r.map F5=y.ks++y.vs/\e.key=V7 y.ka (r.take y.ks.length)/\e.val=V7 y.va (r.drop y.ks.length))/\tM y rs es :=
 ⟨h.2 0 r e rfl rfl,by have:=h.1;simpa using this,fun i row b h1 a=>h.2 (i+1) row b (by simpa using h1) (by simpa using a)⟩
def yS(h:r.map F5=y.ks++y.vs):(r.take y.ks.length).map F5=y.ks/\(r.drop y.ks.length).map F5=y.vs:=by
 constructor
 .rw[List.map_take,h,List.take_left'];rfl
 .rw[List.map_drop,h,List.drop_left'];rfl
abbrev yL(y:MTy)(us:List U)(rows:List (List U))(i:Nat):Option (Nat×Value):=(mH us rows i).map fun p=>(p.1,V7 y.va (p.2.drop y.ks.length))
def BE{y:MTy}(f:mM P y.kt=some (y.ka,y.ks)){us:List U}(h1:us.map F5=y.ks):∀ {rows:List (List U)} {es:List MapEntry} (i:Nat),tM y rows es->(Instr.findAsking y.kt (V7 y.ka us) es i).run P w=.ok (yL y us rows i) w
 | [],[],i,_=>by simp[Instr.findAsking,yL,mH]
 | [],_::_,i,h=>by have:=h.1;simp at this
 | _::_,[],i,h=>by have:=h.1;simp at this
 | r::rs,e::es,i,h=>by
   obtain⟨⟨a,b,c⟩,d⟩:=h.head;obtain⟨t1,t2⟩:=yS a;have hlen:us.length=y.ks.length:=by rw[<- h1,E3]
   have g:=A4o (P:=P) f h1 t1 w;have n:S5 us (r.take y.ks.length)=S5 us r:=by rw[<- hlen];exact qU us r
   have j:=BE f h1 (i+1) d;unfold Instr.findAsking;rw[b];simp only[A4,g,n,Result.andThen_ok,yL,mH];cases o:S5 us r with
   | true=>simp[c]
   | false=>simp only[I6,if_false];exact j
def VX{y:MTy}{k:Nat}{d:TypeDesc}(n:P.underlying y.kt=some d)(hs:eE P y.kt=some k)(j:y.ka=false)(f:y.ks=[k]){u:U}(h1:F5 u=k):∀ {rows:List (List U)} {es:List MapEntry} (i:Nat),tM y rows es->Instr.findNow d (R6 u) es i=some (yL y [u] rows i)
 | [],[],i,_=>rfl
 | [],_::_,i,h=>by have:=h.1;simp at this
 | _::_,[],i,h=>by have:=h.1;simp at this
 | r::rs,e::es,i,h=>by
   obtain⟨⟨a,b,c⟩,o⟩:=h.head;cases r with
   | nil=>rw[f]at a;simp at a
   | cons g r =>
     have a0:F5 g=k:=by rw[f]at a;simp at a;exact a.1
     have b:e.key=R6 g:=by rw[b,j,f];rfl
     have q:=TN n hs h1 a0;have p:=VX n hs j f h1 (i+1) o;unfold Instr.findNow;rw[b,q];simp only[yL,mH,S5,mP];cases s:isU u g with
     | true=>simp[c]
     | false=>simp only[I6,if_false];exact p
def wO(a:mM P y.kt=some (y.ka,y.ks))(h1:us.map F5=y.ks){es:List MapEntry}(h:tM y rows es):(Instr.findKey y.kt (V7 y.ka us) es).run P w=.ok (yL y us rows 0) w:=by
 have f:=a;unfold mM at a;split at a
 .rename_i i hu;rw[run_findKey_eq w (by rw[hu]) (V7 y.ka us) es];exact BE f h1 0 h
 .split at a
  .rename_i k hs;have g:y.ka=false:=(F0 Prod.fst (A7 a)).symm;have b:y.ks=[k]:=(F0 Prod.snd (A7 a)).symm;rw[b]at h1;cases us with
   | nil=>simp at h1
   | cons u us=>cases us with
     | cons _ _=>simp at h1
     | nil =>
       simp only[C4,F8,I5,and_true]at h1;obtain⟨d,e⟩:∃ d,P.underlying y.kt=some d:=by
        cases e:P.underlying y.kt with
        | some d=>exact⟨d,rfl⟩
        | none=>unfold eE at hs;rw[e]at hs;cases hs
       rw[g];exact MapKept.run_findKey e (VX e hs g b h1 0 h)
  .cases a
def HI{k:List U}:∀ (rows:List (List U)) (i:Nat),(mH k rows i).isSome=rows.any (S5 k)
 | [],_=>rfl
 | r::rs,i=>by
   simp only[mH,P0];cases S5 k r with
   | true=>rfl
   | false=>simp only[I6,if_false,P2];exact HI rs (i+1)
def zZ{k:List U}:∀ (rows:List (List U)) (i:Nat),(mH k rows i).map (·.2)=rows.find? (S5 k)
 | [],_=>rfl
 | r::rs,i=>by
   simp only[mH,iO];cases S5 k r with
   | true=>rfl
   | false=>simp only[I6,if_false];exact zZ rs (i+1)
def pF{k:List U}:∀ {rows:List (List U)} {i j:Nat} {r:List U},mH k rows i=some (j,r)->i<=j/\rows[j-i]? = some r/\S5 k r=true
 | [],_,_,_,h=>by cases h
 | x::rs,i,j,r,h=>by
   unfold mH at h;cases e:S5 k x with
   | true=>rw[e]at h;cases h;exact⟨A6 _,by simp,e⟩
   | false =>
     rw[e]at h;obtain⟨a,b,c⟩:=pF (rows:=rs) h;exact⟨A2,by rw[show j-i=(j-(i+1))+1 by omega];exact b,c⟩
def FT{kw:Nat}{c:List U}:∀ (rows:List (List U)) (i:Nat),FU kw c rows=match mH (c.take kw) rows i with
  | some p=>rows.set (p.1-i) c
  | none=>rows++[c]
 | [],_=>rfl
 | r::rs,i=>by
   unfold FU mH;cases b:S5 (c.take kw) r with
   | true=>simp
   | false =>
     simp only[I6,if_false];rw[FT rs (i+1)];cases hx:mH (c.take kw) rs (i+1)with
     | none=>rfl
     | some p =>
       obtain⟨a,_⟩:=pF (r:=p.2) (j:=p.1) hx;show r::rs.set (p.1-(i+1)) c=(r::rs).set (p.1-i) c;rw[show p.1-i=(p.1-(i+1))+1 by omega];rfl
def CS{b:Nat}(h:VR ρ (.map (some b)) v'):∃ l,ρ b=some l/\v'=.map (some l.blk):=by
 cases h with
 | pure hp=>simp[H9]at hp
 | map h=>exact⟨_,h,rfl⟩
def A1F{T:TypeId}(h:HR P base ρ m.H w)(s:base<=w.heap.size)(a:WG P m T=some (v,m'))(o:J2 ρ m.n m'.hi)(x:Sat m'.lg):VOk P base ρ m w (Instr.makeMap T none) v m':=by
 unfold WG at a;split at a
 .rename_i y j;rw[M9]at a;have f:=p9 a;have u:=iK (lg:=m'.lg) x (by rw[f];exact .refl _);obtain⟨q,A,t,wd,rows,z⟩:=u;have g:Ora.env m.lg.nx=.seq false y.w []:=by
   have hw:0<y.w:=by have:=(CH j).2.2.2.1;unfold MTy.w;omega
   rw[q];show(if y.w=0 then U.none else match Z3 y.w (0 / y.w) []with
    | some r=>U.seq false y.w r
    | none=>.none)=_
   rw[A8 A2,Nat.zero_div];rfl
  have b:=St.wLg h (dY m (10+y.w) (.mk y.w) []);obtain⟨h1,p,h3⟩:=St.alloc (w':={ w with heap:=w.heap.push (.map #[] 0) }) (l:=lc w.heap.size 0 0) b.hr s a (by rw[SK];exact o) ⟨rfl,rfl,rfl⟩ rfl rfl
   ⟨⟨rfl,rfl⟩,y,#[],0,[],j,rfl,by simp,g,rfl,fun i row e hr=>by simp at hr⟩
  refine⟨.map (some w.heap.size),_,_,?_,?_,St.trans o b h3⟩
  .simp[Instr.makeMap,newObj,Sem.run,A4,Result.andThen]
  .rw[h1];exact .map p
 .cases a
def fM{t:Nat}{op:LOp}(h:S7 m t op xs=some (v,m'))(e:Sat m'.lg):t<10/\F5 (evU op (xs.map (D3 Ora.env)))=t/\VR ρ v (R6 (evU op (xs.map (D3 Ora.env)))):=by
 obtain⟨u,f,i,r,b,g,a⟩:=L5 h e;subst f;refine⟨a,i,?_⟩;have:R6 (evU op (xs.map (D3 Ora.env)))=r:=by unfold R6;rw[b];rfl
 rw[this];exact g ρ
def AD{wd kw c t:Nat}{b:C9}{n:Bool}{rows:List (List U)}(s:Ora.env c=.seq n wd rows)(u:b.length=kw):∀ {ts:G5} {f:C9} {j:Nat} {m m':Mem} {hs:C9},rF wd kw c t b ts f j m=some (hs,m')->Sat m'.lg ->
  I9 m m'/\m.lg.le m'.lg/\hs.length=ts.length/\f.length=ts.length /\
  (∀ r,rows.find? (S5 (b.map (D3 Ora.env)))=some r->∀ i:Nat,i<ts.length->∃ v,hs[i]? = some v/\VR ρ v (R6 (r.getD (j+i) .none))) /\
  (rows.find? (S5 (b.map (D3 Ora.env)))=none->∀ i:Nat,i<ts.length->∃ v z,hs[i]? = some v/\f[i]? = some z/\VR ρ v (R6 (D3 Ora.env z)))
 | [],[],j,m,m',hs,h,hS=>by
   cases h;exact⟨.refl _,.refl _,rfl,rfl,fun r _ i hi=>(by simp at hi),fun _ i hi=>(by simp at hi)⟩
 | [],_::_,j,m,m',hs,h,hS=>by cases h
 | _::_,[],j,m,m',hs,h,hS=>by cases h
 | tg::ts,z::f,j,m,m',hs,h,hS=>by
   unfold rF at h;split at h
   .rename_i v m1 hv;split at h
    .rename_i r m2 hr;cases h;obtain⟨C,a2,a3,a4,a5,B⟩:=AD s u hr hS;have o:Sat m1.lg:=hS.le a2;obtain⟨_,_,a⟩:=fM (ρ:=ρ) hv o;have p:evU (.mget wd kw j) ((hole c t::z::b).map (D3 Ora.env))=(match rows.find? (S5 (b.map (D3 Ora.env)))with
       | some r=>r.getD j .none
       | none=>D3 Ora.env z):=by
      show evU (.mget wd kw j) (Ora.env c::D3 Ora.env z::b.map (D3 Ora.env))=_;rw[s];show(if wd=wd/\(b.map (D3 Ora.env)).length=kw then _ else U.none)=_;rw[A9 ⟨rfl,by rw[E3];exact u⟩];cases rows.find? (S5 (b.map (D3 Ora.env)))<;>rfl
     rw[p]at a;refine⟨(G7 hv).trans C,(H1 hv).trans a2,by simp[a3],by simp[a4],fun D e i hi=>?_,fun e i hi=>?_⟩
     .cases i with
      | zero=>rw[e]at a;exact⟨v,rfl,a⟩
      | succ i =>
        obtain⟨x,g,q⟩:=a5 D e i (by simpa using hi);exact⟨x,by simpa using g,by rw[show j+(i+1)=j+1+i by omega];exact q⟩
     .cases i with
      | zero=>rw[e]at a;exact⟨v,z,rfl,rfl,a⟩
      | succ i =>
        obtain⟨x,E,g,q,A⟩:=B e i (by simpa using hi);exact⟨x,E,by simpa using g,by simpa using q,A⟩
    .cases h
   .cases h
def A3z{vs:C9}(n:hs.length=vs.length)(h:∀ i:Nat,i<vs.length->∃ v v',hs[i]? = some v/\vs[i]? = some v'/\VR ρ v v'):LR ρ hs vs:=⟨n,fun i v v' h1 e=>by
 obtain⟨a,b,f,g,j⟩:=h i (B0.1 e).1;rw[h1]at f;rw[e]at g;cases f;cases g;exact j⟩
def A0D{a:Bool}(h:A0E a hs=some v)(b:LR ρ hs (us.map R6)):VR ρ v (V7 a us):=by
 unfold A0E at h;split at h
 .cases h;exact .agg b.1 b.2
 .cases h;cases us with
  | nil=>have:=b.1;simp at this
  | cons u us =>
    obtain⟨v',r,e,g,_⟩:=b.tail;rw[C4,I5]at e;rw[<- e.1]at g;exact g
 .cases h
def RG{T:TypeId}{x k:Value}{ok:Bool}(h:HR P base ρ m.H w)(o:vU P m T x k ok=some (v,m'))(hx:VR ρ x x')(hk:VR ρ k k')(O:Sat m'.lg):VOk P base ρ m w (Instr.lookup T x' k' ok) v m':=by
 unfold vU at o;split at o
 .rename_i r y hy;obtain⟨hu,u,aw,aq,ay,X,au⟩:=CH hy;obtain⟨l,hl,rfl⟩:=CS hx;split at o
  .rename_i c t T2 f z hg Y hz;obtain⟨S,a⟩:=A3 o;clear o;have S:=A0 S;subst S;split at a
   .rename_i zc az;split at a
    .rename_i hs m1 W;split at a
     .rename_i v1 hv;obtain⟨⟨⟨ar,av⟩,y2,es,clock,rows,g1,g2,g3,g4,g5⟩,_⟩:=h.atl hl hg;rw[hy]at g1;have g1:=A7 g1;subst g1;obtain⟨k1,k2⟩:=gX Y ay hk;have L:VR ρ z z:=.ofC (uH hz).choose_spec.2.2;obtain⟨z1,z2⟩:=gX az X L;have D:f.length=y.ks.length:=by rw[<- k2];simp
      have V:Sat m1.lg:=by
       cases ok with
       | false=>cases a;exact O
       | true =>
         simp only[D8]at a;split at a
         .rename_i J;cases a;exact O.le (H1 J)
         .cases a
      obtain⟨a1,a2,a3,a4,a5,a6⟩:=AD (ρ:=ρ) g4 D W V;have G:=wO (P:=P) (w:=w) u k2 g5;have E:=AQ (P:=P) u k2 es.isEmpty w;have j:=zZ (k:=f.map (D3 Ora.env)) rows 0;have A:∀ {us:List U},LR ρ hs (us.map R6)->VR ρ v1 (V7 y.va us):=fun g=>A0D hv g
      have C:∃ val,VR ρ v1 val/\(Instr.lookup T2 (.map (some l.blk)) k' ok).run P w=.ok (if ok then .tuple #[val,.bool (rows.any (S5 (f.map (D3 Ora.env))))]else val) w:=by
       have B:(getObj l.blk).run P w=.ok (.map es clock) w:=by simp[getObj,Sem.run,g3]
       have e:=HI (k:=f.map (D3 Ora.env)) rows 0;cases F:mH (f.map (D3 Ora.env)) rows 0 with
       | none =>
         rw[F]at j e;have g:LR ρ hs ((zc.map (D3 Ora.env)).map R6):=A3z (by rw[a3,E3,E3,a4]) fun i hi=>by
          have N:i<y.vs.length:=by rw[E3,E3,a4]at hi;exact hi
          obtain⟨x1,z',M,R,e3⟩:=a6 j.symm i N;exact⟨x1,_,M,by rw[F9,F9,R];rfl,e3⟩
         refine⟨z,by rw[z1];exact A g,?_⟩;have e:rows.any (S5 (f.map (D3 Ora.env)))=false:=e.symm;rw[k1];simp only[Instr.lookup,A4,C8 hu,Result.andThen_ok,B,E,G,yL,F,Option.map_none,o9 hz,Sem.run_pure,e]
       | some p =>
         obtain⟨pi,q⟩:=p;rw[F]at j e;obtain⟨_,K,q2⟩:=pF F;have K:rows[pi]? = some q:=by simpa using K
         have Z:pi<es.toList.length:=by rw[<- g5.1];exact(B0.1 K).1
         obtain⟨t1,t2,t3⟩:=g5.2 pi q es.toList[pi] K (A5 Z);have ax:q.length=y.ks.length+y.vs.length:=by
          have:=F0 List.length t1
          simpa using this
         have g:LR ρ hs ((q.drop y.ks.length).map R6):=A3z (by rw[a3,E3,E4];omega) fun i hi=>by
          rw[E3,E4]at hi;obtain⟨x1,M,R⟩:=a5 q j.symm i A2;refine⟨x1,_,M,?_,R⟩;rw[F9,H3,A5 A2,K2,B2,A5 A2];rfl
         refine⟨V7 y.va (q.drop y.ks.length),A g,?_⟩;have e:rows.any (S5 (f.map (D3 Ora.env)))=true:=e.symm;rw[k1];simp only[Instr.lookup,A4,C8 hu,Result.andThen_ok,B,E,G,yL,F,K2,Sem.run_pure,e]
      obtain⟨val,s,n⟩:=C;cases ok with
      | false =>
        cases a;obtain⟨lg,rfl⟩:=a1;exact⟨val,ρ,w,n,s,St.wLg h lg⟩
      | true =>
        simp only[D8]at a;split at a
        .rename_i b m2 J;cases a;obtain⟨_,_,I⟩:=fM (ρ:=ρ) J O;have Q:evU (.mhas y.w y.ks.length) ((hole c t::f).map (D3 Ora.env))=.bool (rows.any (S5 (f.map (D3 Ora.env)))):=by
          show evU (.mhas y.w y.ks.length) (Ora.env c::f.map (D3 Ora.env))=_;rw[g4];show(if y.w=y.w/\(f.map (D3 Ora.env)).length=y.ks.length then _ else U.none)=_;rw[A9 ⟨rfl,by rw[E3];exact D⟩]
         rw[Q]at I;obtain⟨lg,rfl⟩:=a1.trans (G7 J);refine⟨.tuple #[val,.bool (rows.any (S5 (f.map (D3 Ora.env))))],ρ,w,n,?_,St.wLg h lg⟩
         have:=LR.cons s (LR.cons I LR.nil);exact .tuple this.1 this.2
        .cases a
     .cases a
    .cases a
   .cases a
  .cases o
 .cases o
def TK{i:Nat}{c:List U}(h:tM y rows es.toList)(f:c.map F5=y.ks++y.vs)(h1:e'.key=V7 y.ka (c.take y.ks.length))(b:e'.val=V7 y.va (c.drop y.ks.length))(a:es'.toList=es.toList.set i e'):tM y (rows.set i c) es'.toList:=by
 rw[a];refine⟨by rw[Q5,Q5];exact h.1,fun j row e hr he=>?_⟩;rw[List.getElem?_set]at hr he;by_cases q:i=j
 .subst q;rw[A9 rfl]at hr he;split at hr
  .cases hr;split at he
   .cases he;exact⟨f,h1,b⟩
   .cases he
  .cases hr
 .rw[A8 q]at hr he;exact h.2 j row e hr he
def QX{c:List U}(h:tM y rows es.toList)(g:c.map F5=y.ks++y.vs)(h1:e'.key=V7 y.ka (c.take y.ks.length))(f:e'.val=V7 y.va (c.drop y.ks.length)):tM y (rows++[c]) (es.push e').toList:=by
 rw[Array.toList_push];refine⟨by rw[B8,B8,h.1];rfl,fun j row e hr he=>?_⟩;rw[List.getElem?_append]at hr he;rw[h.1]at hr;split at he
 .rename_i a;rw[A9 a]at hr;exact h.2 j row e hr he
 .rename_i a;rw[A8 a]at hr;cases b:j-es.toList.length with
  | zero =>
    rw[b]at hr he;cases hr;cases he;exact⟨g,h1,f⟩
  | succ n=>rw[b]at hr;cases hr
def JS{u v:U}(h1:F5 u<10)(h:isU u v=true):u=v:=by
 unfold isU at h;cases u with
 | int k a =>
   cases v with
   | int j b =>
     simp only[eqU]at h;by_cases e:k=j
     .subst e;rw[A9 rfl]at h;have h:(a == b)=true:=h;rw[eq_of_beq h]
     .rw[A8 e]at h;cases h
   | _=>simp[eqU]at h
 | bool a =>
   cases v with
   | bool b =>
     have h:(a == b)=true:=h;rw[eq_of_beq h]
   | _=>simp[eqU]at h
 | str a =>
   cases v with
   | str b =>
     have h:(a == b)=true:=h;rw[eq_of_beq h]
   | _=>simp[eqU]at h
 | seq _ _ _=>simp only[F5]at h1;omega
 | none=>simp only[F5]at h1;omega
def uT:∀ {us vs:List U},us.map F5=vs.map F5->(∀ t ∈ us.map F5,t<10)->S5 us vs=true->us=vs
 | [],[],_,_,_=>rfl
 | [],_::_,h,_,_=>by cases h
 | _::_,[],h,_,_=>by cases h
 | u::us,v::vs,h,ht,hk=>by
   obtain⟨a,b⟩:=B3 (show(isU u v && S5 us vs)=true from hk);simp only[C4,I5]at h;rw[JS (ht _ B1) a,uT h.2 (fun t q=>ht t (C3 _ q)) b]
def AW{u:U}(h:F5 u<10)(n:Nat):Instr.sameBits n (R6 u) (R6 u)=true:=by
 cases u with
 | int k a=>cases n<;>simp[R6,toV,Instr.sameBits]
 | bool b=>cases n<;>simp[R6,toV,Instr.sameBits]
 | str s=>cases n<;>(simp only[R6,toV,aJ,Instr.sameBits];show(Array.mk s == Array.mk s)=true;simp)
 | seq _ _ _=>simp only[F5]at h;omega
 | none=>simp only[F5]at h;omega
def RZ{a:Bool}(h:∀ t ∈ us.map F5,t<10)(b:a=false->us≠[])(n:Nat):Instr.sameBits (n+1) (V7 a us) (V7 a us)=true:=by
 cases a with
 | true =>
   simp only[V7,Instr.sameBits,G4,beq_self_eq_true,true_and,D2];intro p hp;obtain⟨i,hi,he⟩:=List.mem_iff_getElem.1 hp;simp only[List.getElem_zip,List.getElem_map]at he;subst he;exact AW (h _ (K4.2 ⟨_,M8 _,rfl⟩)) n
 | false =>
   cases us with
   | nil=>exact absurd rfl (b rfl)
   | cons u us=>exact AW (h _ B1) _
def FQ{T:TypeId}{x k e e':Value}(h:HR P base ρ m.H w)(hb:base<=w.heap.size)(D:zJ P m T x k e=some (v,m'))(hf:J2 ρ m.n m'.hi)(hx:VR ρ x x')(hk:VR ρ k k')(he:VR ρ e e')(hS:Sat m'.lg):v=undef/\UOk P base ρ m w (Instr.mapUpdate T x' k' e') m':=by
 unfold zJ at D;split at D
 .rename_i r y hy;obtain⟨hu,M,ag,ad,F,an,ae⟩:=CH hy;obtain⟨l,hl,rfl⟩:=CS hx;split at D
  .rename_i c t T2 i s hg al ao;obtain⟨hT,u⟩:=A3 D;clear D;have hT:=A0 hT;subst hT;rw[M9]at u;unfold KP at u;split at u
   .rename_i m2 V9;cases u;have ak:=cI V9;obtain⟨e1,e2,af,wd,ah,e3⟩:=iK (lg:=m'.lg) hS (by rw[ak];exact .refl _);obtain⟨⟨⟨Z,aq⟩,y2,es,clock,rows,g1,g2,g3,g4,g5⟩,_⟩:=h.atl hl hg;rw[hy]at g1;have g1:=A7 g1;subst g1;obtain⟨G,B⟩:=gX al F hk;obtain⟨v1,v2⟩:=gX ao an he;have A:i.length=y.ks.length:=by rw[<- B];simp
    have au:s.length=y.vs.length:=by rw[<- v2];simp
    have ai:((i++s).map (D3 Ora.env)).length=y.w:=by rw[E3,B8,A,au];rfl
    have N:((i++s).map (D3 Ora.env)).map F5=y.ks++y.vs:=by rw[S9,S9,B,v2]
    have z:((i++s).map (D3 Ora.env)).take y.ks.length=i.map (D3 Ora.env):=by rw[S9,List.take_left' (by rw[E3];exact A)]
    have C:((i++s).map (D3 Ora.env)).drop y.ks.length=s.map (D3 Ora.env):=by rw[S9,List.drop_left' (by rw[E3];exact A)]
    have g:Ora.env m.lg.nx=.seq false y.w (FU y.ks.length ((i++s).map (D3 Ora.env)) rows):=by
     rw[e1];show evU (.mput y.w y.ks.length) (Ora.env c::(i++s).map (D3 Ora.env))=_;rw[g4];show(if y.w=y.w/\((i++s).map (D3 Ora.env)).length=y.w then _ else U.none)=_;rw[A9 ⟨rfl,ai⟩]
    rw[FT _ 0,z]at g;have Q:(getObj l.blk).run P w=.ok (.map es clock) w:=by simp[getObj,Sem.run,g3]
    have az:=wO (P:=P) (w:=w) M B g5;have V:=AQ (P:=P) M B false w;have av:=St.wLg h (dY m t (.mput y.w y.ks.length) (hole c t::(i++s)));have ar:Hp.get (m.wLg (dY m t (.mput y.w y.ks.length) (hole c t::(i++s)))).H r=some (.mp c t T2):=by rw[iY];exact hg
    have o:l.blk<w.heap.size:=(C6.1 g3).1;refine⟨rfl,?_⟩;have ay:∀ (f:Array MapEntry) (a:Nat),(setObj l.blk (.map f a)).run P w=.ok () { w with heap:=w.heap.set l.blk (.map f a) o }:=fun f a=>by
     have ax:w.heap[l.blk]=.map es clock:=by
      have q:=g3;rw[E7 o]at q;exact A7 q
     simp[setObj,Sem.run,ax,Array.setIfInBounds,o]
    have fin:∀ (f:Array MapEntry) (a:Nat) (b:List (List U)),Ora.env m.lg.nx=.seq false y.w b->tM y b f.toList->(Instr.mapUpdate T2 (.map (some l.blk)) k' e').run P w=.ok () { w with heap:=w.heap.set l.blk (.map f a) o }->UOk P base ρ m w (Instr.mapUpdate T2 (.map (some l.blk)) k' e') m':=fun f a b K q2 q3=>by
     refine⟨ρ,_,q3,St.trans hf av (St.write (ab:=.mp c t T2) (ab':=.mp m.lg.nx t T2) av.hr V9 ar rfl hl Z ⟨rfl,rfl,rfl⟩ (by simp) (fun j O=>?_) ?_)⟩
     .show(w.heap.set l.blk _ o)[j]? = _;rw[i6,A8 (fun e=>O e.symm)]
     .refine⟨⟨Z,aq⟩,y,f,a,b,hy,g2,?_,K,q2⟩;show(w.heap.set l.blk _ o)[l.blk]? = _;rw[i6,A9 rfl]
    cases X:mH (i.map (D3 Ora.env)) rows 0 with
    | none =>
      rw[X]at g;refine fin (es.push ⟨k',e',clock⟩) (clock+1) _ g (QX g5 N (by rw[z];exact G) (by rw[C];exact v1)) ?_;rw[G];simp only[Instr.mapUpdate,A4,C8 hu,Result.andThen_ok,Q,V,az,yL,X,Option.map_none,ay]
    | some p =>
      obtain⟨pi,L⟩:=p;rw[X]at g;have g:Ora.env m.lg.nx=.seq false y.w (rows.set pi ((i++s).map (D3 Ora.env))):=g;obtain⟨_,K,q2⟩:=pF X;have K:rows[pi]? = some L:=by simpa using K
      have E:pi<es.toList.length:=by rw[<- g5.1];exact(B0.1 K).1
      obtain⟨t1,t2,t3⟩:=g5.2 pi L es.toList[pi] K (A5 E);obtain⟨aj,_⟩:=yS t1;have J:i.map (D3 Ora.env)=L.take y.ks.length:=by
       refine uT (by rw[B,aj]) (by rw[B];exact F) ?_
       have:=qU (i.map (D3 Ora.env)) L;rw[E3,A]at this;rw[this];exact q2
      have S:pi<es.size:=by simpa using E
      refine fin (es.modify pi fun e2=>{ e2 with key:=k',val:=e' }) clock _ g (TK (e':=⟨k',e',(es[pi]).born⟩) g5 N (by rw[z];exact G) (by rw[C];exact v1) ?_) ?_
      .apply eS;intro j;rw[X3,G6,List.getElem?_set];by_cases O:pi=j
       .subst O;rw[A9 rfl,A9 rfl,A9 E,E7 S];rfl
       .rw[A8 O,A8 O];simp
      .have Y:((es[pi]?).map (·.key)).getD k'=k':=by
        rw[E7 S];show es[pi].key=k';have t2:es[pi].key=V7 y.ka (L.take y.ks.length):=t2;rw[t2,<- J,G]
       have I:Instr.sameBits 10000 k' k'=true:=by
        rw[G];exact RZ (by rw[B];exact F) (fun _ q=>by have:=F0 List.length B;rw[q]at this;simp at this;omega) 9999
       have aw:(Instr.keyThatStays k' k').run P w=.ok k' w:=by
        simp only[Instr.keyThatStays,I,if_true,Sem.run_pure]
       have R:(Instr.findKey y.kt k' es.toList).run P w=.ok (some (pi,V7 y.va (L.drop y.ks.length))) w:=by
        rw[G,az];simp[yL,X]
       have W:(Instr.checkKey false 10000 y.kt k').run P w=.ok () w:=by rw[G];exact V
       simp only[Instr.mapUpdate,A4,C8 hu,Result.andThen_ok,Q,W,R,Y,aw,ay]
   .cases u
  .cases D
 .cases D
def WO{T:TypeId}{x:Value}(h:HR P base ρ m.H w)(a:GU P m T x=some (v,m'))(hx:VR ρ x x')(o:Sat m'.lg):VOk P base ρ m w (Builtin.len_ ⟨T::tys⟩ ty #[x']) v m':=by
 unfold GU at a;split at a
 .rename_i kt q r hu;obtain⟨l,g,rfl⟩:=CS hx;split at a
  .rename_i c t s j;obtain⟨⟨⟨i,f⟩,p,es,clock,rows,g1,g2,g3,g4,g5⟩,_⟩:=h.atl g j;obtain⟨n,⟨lg,rfl⟩,_,_⟩:=jX (ρ:=ρ) a g4 o;have b:(getObj l.blk).run P w=.ok (.map es clock) w:=by simp[getObj,Sem.run,g3]
   refine⟨_,ρ,w,?_,n,St.wLg h lg⟩
   have:=g5.1;have e:es.size=rows.length:=by rw[this];simp
   simp[Builtin.len_,A4,C8 hu,Result.andThen,goInt,b,e]
  .cases a
 .cases a
def A1G{T:TypeId}(a:WG P m T=some (v,m')):m.lg.le m'.lg:=by
 unfold WG at a;split at a
 .rw[M9]at a;rw[p9 a];exact U6
 .cases a
def rE{wd kw c t:Nat}{b:C9}:∀ {ts:G5} {a:C9} {j:Nat} {m m':Mem} {hs:C9},rF wd kw c t b ts a j m=some (hs,m')->m.lg.le m'.lg
 | [],[],j,m,m',hs,h=>by cases h;exact .refl _
 | [],_::_,j,m,m',hs,h=>by cases h
 | _::_,[],j,m,m',hs,h=>by cases h
 | tg::ts,z::a,j,m,m',hs,h=>by
   unfold rF at h;split at h
   .rename_i hv;split at h
    .rename_i hr;cases h;exact(H1 hv).trans (rE hr)
    .cases h
   .cases h
def RH{T:TypeId}{x k:Value}{ok:Bool}(a:vU P m T x k ok=some (v,m')):m.lg.le m'.lg:=by
 unfold vU at a;split at a
 .split at a
  .obtain⟨_,a⟩:=A3 a;split at a
   .split at a
    .rename_i b;split at a
     .cases ok with
      | false=>cases a;exact rE b
      | true =>
        simp only[D8]at a;split at a
        .rename_i e;cases a;exact(rE b).trans (H1 e)
        .cases a
     .cases a
    .cases a
   .cases a
  .cases a
 .cases a
def FS{T:TypeId}{x k e:Value}(a:zJ P m T x k e=some (v,m')):m.lg.le m'.lg:=by
 unfold zJ at a;split at a
 .split at a
  .obtain⟨_,a⟩:=A3 a;rw[M9]at a;unfold KP at a;split at a
   .rename_i V9;cases a;rw[cI V9];exact U6
   .cases a
  .cases a
 .cases a
def WP{T:TypeId}{x:Value}(a:GU P m T x=some (v,m')):m.lg.le m'.lg:=by
 unfold GU at a;split at a
 .split at a
  .exact(y8 a).2
  .cases a
 .cases a
end
end
section
open Go
variable [Ora]
section
variable {P:Program} {base:Nat} {ρ:Ren} {m m':Mem} {w:World}
omit [Ora] in
def IR{G:Nat->Option Obj}:∀ {us:List U} {s:List UInt8} {vs:C9},rO us=some s->X7 G us vs->∃ e:List Int,vs=e.map (Value.int .u8)/\s=e.map fun n=>UInt8.ofNat n.toNat
 | [],s,vs,h,he=>by
   cases h;have:vs=[]:=F6.1 he.1.symm;subst this;exact⟨[],rfl,rfl⟩
 | u::us,s,vs,h,he=>by
   unfold rO at h;split at h
   .rename_i heq;cases heq
   .rename_i n r heq;cases heq;split at h
    .split at h
     .rename_i l g;cases h;cases vs with
      | nil=>have:=he.1;simp at this
      | cons v vr =>
        obtain⟨e,j,o⟩:=IR (vs:=vr) g ⟨by have:=he.1;simpa using this,fun i a b h1 f=>he.2 (i+1) a b (by simpa using h1) (by simpa using f)⟩
        have:=eL (he.2 0 _ v rfl rfl) rfl;subst this;exact⟨(Int.ofNat n)::e,by rw[j];rfl,by rw[o];rfl⟩
     .cases h
    .cases h
   .cases h
def FB{t:TypeId}{n:Nat}(h:G3 P t=some n):∃ inf,P.info? t=some inf/\inf.size=n:=by
 unfold G3 at h;cases hi:P.info? t with
 | none=>rw[hi]at h;cases h
 | some inf=>rw[hi]at h;exact⟨inf,rfl,A7 h⟩
def FE(d:Nat)(t:TypeId):sameLayout P (d+1) t t=true:=by simp[sameLayout]
def YZ:∃ d,P.depth=d+1:=⟨2*(P.types.size+Made.depth)+1,rfl⟩
def KT{T:TypeId}{n off:Nat}(hs:P.cellsOf T≠0)(hr:off%P.cellsOf T=0)(b:off / P.cellsOf T+1<=n):liesAt P P.depth T n off T 1=true:=by
 obtain⟨d,a⟩:=YZ (P:=P);have h1:rowAt P (sameLayout P P.depth · T) P.depth T n off 1=true:=by
  rw[a];unfold rowAt;simp only[hs,if_false,hr,FE];simp[b]
 rw[a]at h1 ⊢;unfold liesAt;rw[a,h1];rfl
def ZF{s t:TypeId}{x:Value}(h:HR P base ρ m.H w)(g:PM P m s t x=some (v,m'))(hx:VR ρ x x'):VOk P base ρ m w (convert s t x') v m':=by
 unfold PM at g;split at g
 .rename_i e b o hs G;obtain⟨l,E,_,rfl⟩:=N5 hx;split at g
  .rename_i k cs T ro z F;obtain⟨A,g⟩:=A3 g;have A:o<cs.length:=A1 A;cases g;obtain⟨inf,a,L⟩:=FB z;obtain⟨⟨p,C,fz,i,h1,N,_⟩,_⟩:=h.atl E F;obtain⟨v',h3,_⟩:=N o cs[o] (A5 A);have K:l.sh+o<C.size:=(C6.1 h3).1;exact VOk.same h (Lib.run_to_unsafe w ⟨l.blk,o+l.sh,none⟩ hs G a A2 (show w.shape? l.blk=some (i,C.size) by simp[World.shape?,h1]) (by show o+l.sh<C.size;omega)) hx
  .cases g
 .rename_i u b hs G;obtain⟨l,E,_,rfl⟩:=N5 hx;split at g
  .rename_i k cs T z F;obtain⟨I,f⟩:=A3 g;clear g;obtain⟨B,M⟩:=B3 I;have B:=A0 B;have M:=A0 M;clear I;subst B;cases f;obtain⟨inf,a,L⟩:=FB z;obtain⟨⟨p,C,fz,i,h1,N,h3⟩,_⟩:=h.atl E F;obtain⟨rfl,_,Q⟩:=h3 rfl;obtain⟨_,J⟩:=Q inf a;have D:P.cellsOf i=k+1:=by unfold Program.cellsOf;rw[a];exact L
   have q:k<cs.length:=A2;obtain⟨v',S,_⟩:=N k cs[k] (A5 q);have K:l.sh+k<C.size:=(C6.1 S).1;refine VOk.same h (Lib.run_from_unsafe w ⟨l.blk,0+l.sh,none⟩ hs G a (show w.shape? l.blk=some (i,C.size) by simp[World.shape?,h1]) ?_) hx;show liesAt P P.depth i (C.size / P.cellsOf i) (0+l.sh) i 1=true;rw[E8];refine KT A2 (by rw[D];rw[L]at J;exact J) ?_;rw[D];have J:l.sh%(k+1)=0:=by rw[L]at J;exact J
   have V:l.sh=(k+1)*(l.sh / (k+1)):=by have:=Nat.div_add_mod l.sh (k+1);omega
   refine(Nat.le_div_iff_mul_le A2).2 ?_;rw[G8,eQ,u6];omega
  .cases g
 .rename_i W e b o n c hs G;obtain⟨I,f⟩:=A3 g;clear g;obtain⟨B,M⟩:=B3 I;have B:=A0 B;clear I;subst B;split at f
  .rename_i cs T hu F;split at f
   .rename_i m1 V9;cases f;obtain⟨l,mm,E,rfl⟩:∃ l mm,ρ b=some l/\x'=.slice (some ⟨l.blk,o+l.sh,none⟩) n mm:=by
     cases hx with
     | pure hp=>simp[H9]at hp
     | sl h1 _=>exact⟨_,_,h1,rfl⟩
     | op h1 _ _ _=>exact⟨_,_,h1,rfl⟩
     | opE _=>simp at M
    obtain⟨⟨p,C,fz,i,z2,z3,z4⟩,_⟩:=h.atl E F;have O:w.shape? l.blk=some (i,C.size):=by simp[World.shape?,z2]
    refine⟨_,ρ,w.freeze ⟨l.blk,C.size,none⟩ 1,?_,hx,St.write h V9 F rfl E p ?_ ?_ ?_ ?_⟩
    .simp[convert,run_underlying G,run_underlying hu,markStringish,O]
    .simp[World.freeze]
    .simp[World.freeze]
    .intro j R;simp only[World.freeze,Nat.one_ne_zero,if_false,G6];rw[A8 (fun e=>R e.symm)]
    .refine⟨p,C,(if fz.1 == fz.2 then(C.size,C.size+1)else(min fz.1 C.size,max fz.2 (C.size+1))),i,?_,z3,fun D=>⟨(z4 D).1,(z4 D).2.1.mark,(z4 D).2.2⟩⟩;simp only[World.freeze,Nat.one_ne_zero,if_false,G6,if_true,z2,K2]
   .cases f
  .cases f
 .cases g
def VA{op:BinOp}{t:TypeId}{x y:Operand}{a a' b b':Value}(h:HR P base ρ m.H w)(n:NK P m op t a b=some (v,m'))(z:VR ρ a a')(B:VR ρ b b'):VOk P base ρ m w (do eqGuard op t x y a' b';binOp op t a' b') v m':=by
 unfold NK at n;split at n
 .rename_i e C p D E hu;obtain⟨u,f⟩:=A3 n;clear n;obtain⟨q,s⟩:=B3 u;have q:=A0 q;have s:=A0 s;clear u;subst q;subst s;obtain⟨l,A,_,rfl⟩:=N5 z;obtain⟨l2,o,_,rfl⟩:=N5 B;rw[A]at o
  have:=A7 o;subst this;have heq:∀ j,P.info? e=some j->∀ d:Nat,(Op.equalIn (d+1) t (.pointer (some ⟨l.blk,p+l.sh,none⟩)) (.pointer (some ⟨l.blk,p+l.sh,none⟩))).run P w=.ok true w:=fun j i d=>by
   simp[Op.equalIn,run_underlying hu,sizeOf,typeInfo,i,run_sameAddr_same]
  have g:(eqGuard op t x y (.pointer (some ⟨l.blk,p+l.sh,none⟩)) (.pointer (some ⟨l.blk,p+l.sh,none⟩))).run P w=.ok () w:=by
   unfold eqGuard;split<;>simp
  split at f
  .rename_i j i;cases f;refine VOk.same h (v':=.bool true) ?_ (.pure rfl);rw[A4,g];simp[Result.andThen,binOp,Op.equal,Op.maxDepth,heq j i 9999]
  .rename_i j i;cases f;refine VOk.same h (v':=.bool false) ?_ (.pure rfl);rw[A4,g];simp[Result.andThen,binOp,Op.equal,Op.maxDepth,heq j i 9999]
  .cases f
 .cases n
def St.laid{o:Obj}(h:HR P base ρ m.H w):St P base ρ ρ m m w { w with heap:=w.heap.push o } :=
 have f:∀ k,k<w.heap.size->(w.heap.push o)[k]? = w.heap[k]? := fun k f=>by rw[Z5,A8 A2]
 ⟨fun _ _ h=>h,fun b l h1 a=>(by rw[h1]at a;cases a),A6 _,A6 _,fun h=>h,
  ⟨h.dom,fun id hid ab g=>by
    obtain⟨l,h1,a,h3⟩:=h.at_ id hid ab g;exact⟨l,h1,a.mono (fun _ _ h=>h) (fun k e=>f k (a.tc e)),h3⟩⟩,
  fun _ h=>h,fun b h1 a=>absurd h1 a,fun k e _=>f k e,by simp,⟨rfl,rfl,rfl⟩,fun b l h1 a=>(by rw[h1]at a;cases a),fun _ _ _ _=>rfl,fun _ h=>.inr h⟩
def A4F{tys:Array TypeId}{x:Value}(h:HR P base ρ m.H w)(a:sdM P m ty x=some (v,m'))(hx:VR ρ x x'):VOk P base ρ m w (Builtin.unsafeSliceData_ tys ty #[x']) v m':=by
 unfold sdM at a;split at a
 .rename_i e he;split at a
  .rename_i b i t;split at a
   .rename_i c tc T g ro u;cases a;have hx:VR ρ (own b i t) x':=hx;rcases(eG hx).1 with⟨l,wd,h1,f,h3,rfl⟩|⟨l,wd,rows,h1,f,h3,E,D,rfl⟩
    .exact VOk.same h rfl (.sdt ⟨l,h1,.inl ⟨f,rfl⟩⟩)
    .have j:Builtin.unsafeSliceData_ tys ty #[.slice (some ⟨l.blk,l.sh,none⟩) l.len l.cap]=(do
       if l.cap≠0 then pure (.pointer (some ⟨l.blk,l.sh,none⟩))
       else if(<- viewAt l.blk).isSome then pure (.pointer (some ⟨l.blk,l.sh,none⟩))
       else pure (.pointer (some ⟨<- newObj (.view ⟨l.blk,l.sh,none⟩ (<- elemOf ty)),0,none⟩))):=rfl
     rw[j];by_cases p:l.cap=0
     .rw[A8 (by simpa using p)];obtain⟨A,inf,_,_,_,s⟩:=SqR.ex (h.atl h1 u).1;rcases s with⟨n,_⟩|⟨_,n⟩
      .rw[f]at n;cases n
      .obtain⟨C,fz,B,q,lg,z,_⟩:=n;have o:w.shape? l.blk=some (B,C.size):=by simp[World.shape?,z]
       refine⟨.pointer (some ⟨w.heap.size,0,none⟩),ρ,{ w with heap:=w.heap.push (.view ⟨l.blk,l.sh,none⟩ e) },?_,.sdt ⟨l,h1,.inr ⟨f,_,rfl,fun h=>absurd p h⟩⟩,St.laid h⟩;simp[viewAt,o,elemOf,C8 he,newObj,Sem.run,A4,Result.andThen]
     .rw[A9 p];exact VOk.same h rfl (.sdt ⟨l,h1,.inr ⟨f,_,rfl,fun _=>rfl⟩⟩)
   .cases a
  .cases a
 .cases a
def A37{p l p' l':Value}(h:HR P base ρ m.H w)(L:usM P m pt p l=some (v,m'))(hp:VR ρ p p')(hl:VR ρ l l')(hS:Sat m'.lg)(hf:J2 ρ m.n m'.hi) :
  VOk P base ρ m w (Builtin.unsafeString_ ⟨pt::tys⟩ ty #[p',l']) v m':=by
 have A:IntKind.i64.max=9223372036854775807:=rfl;unfold usM at L;split at L
 .rename_i b;obtain⟨V,L⟩:=A3 L;have V:G0 l<8:=A1 V;obtain⟨k,n0,rfl,ad,_⟩:=L7 hl V;split at L
  .rename_i c tc T g e hg ae;obtain⟨hq,D⟩:=A3 L;clear L;obtain⟨q1,q2⟩:=B3 hq;have q1:=A0 q1;have q2:=A0 q2;clear hq;subst q1;subst q2;split at D
   .rename_i u m1 bx Q;split at D
    .rename_i m2 V9;cases D;have af:=cI V9;have ai:Sat m1.lg:=by rw[<- af];exact hS
     obtain⟨u0,e1,e2,r,e3,e4,e5⟩:=L5 Q ai;obtain⟨lg,rfl⟩:=G7 Q;obtain⟨l0,F,hv⟩:=A1T (show VR ρ (sdt b) p' from hp);have E:=St.wLg h lg;obtain⟨wd,inf,k1,k2,k3,M⟩:=SqR.ex (h.atl F hg).1;have aa:wd=1:=A2;subst aa;have f:evU .ustr [Ora.env c,.int k n0]=u0:=by
      have:D3 Ora.env (hole c 11)=Ora.env c:=rfl;rw[<- this,<- ad];exact e1
     have I:∀ ax rows,Ora.env c=.seq ax 1 rows->∃ (n:Nat) (O:List UInt8),n0=(n:Int)/\n<=rows.length/\n<=1000000000/\tL (rows.take n)=some O/\u0=.str O:=fun ax rows hc=>by
      rw[hc]at f;cases n0 with
      | negSucc z=>have:u0=.none:=f.symm;subst this;cases e3
      | ofNat n =>
        have f:(if 1=1/\n<=rows.length/\n<=qE then match tL (rows.take n)with
         | some s=>U.str s
         | none=>.none else .none)=u0:=f
        split at f
        .rename_i az;split at f
         .rename_i O I;exact⟨n,O,rfl,az.2.1,az.2.2,I,f.symm⟩
         .subst f;cases e3
        .subst f;cases e3
     have B:P.cellsOf e=1:=by unfold Program.cellsOf;rw[k2];exact k3
     have Z:∀ {ρ:Ren} {w:World} {lx:Loc},BR P ρ (.sq c 11 e g false) lx w->BR P ρ (.sq c 11 e g true) lx w:=fun hb=>by
      obtain⟨wd,inf,k1,k2,k3,M⟩:=SqR.ex hb;refine⟨⟨wd,inf,k1,k2,k3,M.imp (fun x=>x) fun⟨a,C,fz,T',rows,lg,b1,b2,b3,b4,b5,b6,b7,b8,_⟩=>⟨a,C,fz,T',rows,lg,b1,b2,b3,b4,b5,b6,b7,b8,fun hh=>by cases hh⟩⟩⟩
     have S:Hp.get (m.wLg lg).H b=some (.sq c 11 e g false):=by rw[iY];exact hg
     have R:St P base ρ ρ m m' w w:=St.trans hf E (St.same0 E.hr V9 S rfl F (Z (E.hr.atl F S).1) fun q hq=>hq.imp (fun⟨_,b⟩=>⟨rfl,b⟩) fun⟨hh,_⟩=>by cases hh);rcases hv with⟨au,rfl⟩|⟨W,a,rfl,ha⟩
     .rcases M with⟨_,K⟩|⟨K,_⟩
      .obtain⟨n,O,rfl,j1,_,j2,rfl⟩:=I _ _ K;have hn:n=0:=by simpa using j1
       subst hn;cases j2;cases e3;refine⟨.string ByteArray.empty,ρ,w,?_,e4 ρ,R⟩;have o:Builtin.unsafeString_ ⟨pt::tys⟩ ty #[.pointer none,.int k ((0:Nat):Int)] =
         (do
           let n <- asInt (.int k ((0:Nat):Int))
           if n<0 then runtimePanic (.error "unsafe.String: len out of range")
           if n>IntKind.i64.max then unsupported (.unsafePointer "String: a length above the largest int")
           if n=0 then pure (.string .empty)
           else runtimePanic (.error "unsafe.String: ptr is nil and len is not zero")):=rfl
       rw[o];simp[asInt,asIntOf,A]
      .rw[au]at K;cases K
     .rcases M with⟨K,_⟩|⟨_,K⟩
      .rw[W]at K;cases K
      obtain⟨C,fz,T',rows,aq,z1,z2,z3,z4,z5,z6,z7,z8,z9⟩:=K;obtain⟨rfl,bw⟩:=z9 rfl;obtain⟨n,O,rfl,j1,j0,j2,rfl⟩:=I _ _ z2;cases e3;have o:Builtin.unsafeString_ ⟨pt::tys⟩ ty #[.pointer (some a),.int k (n:Int)] =
       (do
         let n <- asInt (.int k (n:Int))
         if n<0 then runtimePanic (.error "unsafe.String: len out of range")
         if n>IntKind.i64.max then unsupported (.unsafePointer "String: a length above the largest int")
         if n=0 then pure (.string .empty)
         else if <- variablesAt a (<- elemOf pt) n.toNat then do
          let s <- loadBytes a .empty n.toNat
          freeze a n.toNat
          pure (.string s)
         else unsupported (.unsafePointer "String: not so many bytes at ptr")):=rfl
      have aw:¬ (n:Int)<0:=A2;have ao:¬ (9223372036854775807:Int)<(n:Int):=A2;by_cases t:n=0
      .subst t;cases j2;refine⟨.string ByteArray.empty,ρ,w,?_,e4 ρ,R⟩;rw[o];simp[asInt,asIntOf,A]
      .have hz:¬ (n:Int)=0:=A2;have ay:l0.cap≠0:=A2;have ha:=ha ay;subst ha;obtain⟨y1,y2,y3⟩:=DP j2;have hlen:(rows.take n).length=n:=by simp;omega
       have ah:l0.sh+n<=C.size:=A2;obtain⟨ns,r1,r2⟩:∃ ns:List Int,(C.toList.drop l0.sh).take n=ns.map (Value.int .u8)/\O=ns.map fun n=>UInt8.ofNat n.toNat:=by
        refine IR (G:=aq.G) y1 ⟨by rw[y2,hlen];simp;omega,fun i u v b1 b2=>?_⟩;have ar:i<n:=by have:=(B0.1 b1).1;rw[y2,hlen]at this;exact this
        have an:i<rows.length:=A2;have N:rows[i]? = some rows[i]:=A5 an;have X:(rows.take n)[i]? = some rows[i]:=by rw[F4 ar];exact N
        have bz:rows[i].length=1:=z6 _ (M8 an);have h0:rows[i][0]? = some (rows[i][0]' A2):=A5 A2;obtain⟨_,M⟩:=y3 i _ 0 _ X h0;rw[b1]at M;have M:=A7 M;rw[M];have hc:C[l0.sh+i*1+0]? = some v:=by
         rw[F4 ar,H3]at b2
         simpa using b2
        exact z8 i _ 0 _ v N h0 hc
       have aj:ns.length=n:=by
        have:=F0 List.length r1;simp at this;omega
       have J:∀ (j:Nat) (v:Value),(ns.map (Value.int .u8))[j]? = some v->w.cell? ⟨l0.blk,l0.sh+j,none⟩=some v:=fun j v hj=>by
        rw[<- r1]at hj;have al:j<n:=by have:=(B0.1 hj).1;simp at this;omega
        rw[F4 al,H3]at hj;simp only[World.cell?,z1]
        simpa using hj
       have av:=dD (P:=P) (w:=w) ns l0.blk l0.sh .empty J;rw[aj]at av;have ak:w.shape? l0.blk=some (T',C.size):=by simp[World.shape?,z1]
       have Y:=vW (P:=P) B (C.size / P.cellsOf T') l0.sh n (by rw[B];simpa using ah);have ag:St P base ρ ρ (m.wLg lg) m' w (w.freeze ⟨l0.blk,l0.sh,none⟩ n):=by
        refine St.write E.hr V9 S rfl F W ?_ ?_ ?_ ?_
        .simp[World.freeze,t]
        .simp[World.freeze,t]
        .intro j hj;simp only[World.freeze,t,if_false,G6];rw[A8 (fun e=>hj e.symm)]
        .refine⟨⟨1,inf,rfl,k2,k3,.inr ⟨W,C,(if fz.1 == fz.2 then(l0.sh,l0.sh+n)else(min fz.1 l0.sh,max fz.2 (l0.sh+n))),T',rows,aq,?_,z2,z3,z4,z5,z6,z7,z8,fun hc=>by cases hc⟩⟩⟩;simp only[World.freeze,t,if_false,G6,if_true,z1,K2]
       refine⟨.string ⟨⟨O⟩⟩,ρ,w.freeze ⟨l0.blk,l0.sh,none⟩ n,?_,e4 ρ,St.trans hf E ag⟩;rw[o];simp[asInt,asIntOf,A,aw,ao,hz,t,variablesAt,ak,elemOf,C8 ae,Y,av,freeze,Sem.run,A4,Result.andThen,r2]
    .cases D
   .cases D
  .cases L
 .cases L
def QV{t:TypeId}{x:Value}(h:HR P base ρ m.H w)(o:base<=w.heap.size)(e:vE P m t x=some (v,m'))(g:J2 ρ m.n m'.hi)(hx:VR ρ x x'):VOk P base ρ m w (Instr.range t x') v m':=by
 unfold vE at e;split at e
 .rename_i hu;obtain⟨h1,e⟩:=A3 e;obtain⟨s,rfl,_⟩:=d7 hx (A0 h1);have f:∀ a:Ren,(∀ b l,ρ b=some l->a b=some l)->BR P a (.iter [x,.int .i64 (.ofNat 0)]) (lc w.heap.size 0 0) { w with heap:=w.heap.push (.stringIter ⟨⟨s⟩⟩ 0) }:=fun a he =>
   ⟨⟨rfl,rfl⟩,⟨⟨s⟩⟩,0,by simp[lc],.cons (hx.mono he) (.cons (.pure rfl) .nil)⟩
  obtain⟨i,h3,j⟩:=St.alloc (w':={ w with heap:=w.heap.push (.stringIter ⟨⟨s⟩⟩ 0) }) (l:=lc w.heap.size 0 0) h o e g ⟨rfl,rfl,rfl⟩ rfl rfl (f _ (V4 (g m.n (A6 _) (by obtain⟨_,_,rfl⟩:=K6 e;exact(J9 _ _).2))));refine⟨.pointer (some ⟨w.heap.size,0,none⟩),_,_,?_,?_,j⟩
  .simp[Instr.range,A4,C8 hu,Result.andThen,newObj,Sem.run]
  .rw[i];exact .ptr h3
 .cases e
def LO{s p:Value}{b:ByteArray}(h:DM s p=some (b,k)):s=.string b/\p=.int .i64 (.ofNat k):=by
 unfold DM at h;split at h
 .cases h;exact⟨rfl,rfl⟩
 .cases h
def WB{x:Value}(h:HR P base ρ m.H w)(a:GJ m x=some (v,m'))(hf:J2 ρ m.n m'.hi)(hx:VR ρ x x')(hS:Sat m'.lg):VOk P base ρ m w (Instr.next x' true ty) v m':=by
 unfold GJ at a;split at a
 .rename_i r;obtain⟨l,hl,_,rfl⟩:=N5 hx;split at a
  .rename_i s p hg;obtain⟨⟨⟨I,C⟩,g,n,g1,g2⟩,_⟩:=h.atl hl hg;have F:(getObj l.blk).run P w=.ok (.stringIter g n) w:=by simp[getObj,Sem.run,g1]
   have i:l.blk<w.heap.size:=(C6.1 g1).1;have J:w.heap[l.blk]=.stringIter g n:=by
    have q:=g1;rw[E7 i]at q;exact A7 q
   obtain⟨s',r1,e1,Y,k2⟩:=g2.tail;obtain⟨p',r2,e2,k3,k4⟩:=k2.tail;cases k4.nil_inv;cases e2;cases e1;have X:∀ Z:Nat,(setObj l.blk (.stringIter g Z)).run P w=.ok () { w with heap:=w.heap.set l.blk (.stringIter g Z) i }:=fun Z=>by
    simp[setObj,Sem.run,J,Array.setIfInBounds,i]
   have z:n<g.size->(Instr.next (.pointer (some ⟨l.blk,0+l.sh,none⟩)) true ty).run P w=.ok (.tuple #[.bool true,.int .i64 (.ofNat n),.int .i32 (.ofNat (Utf8.decode g n).1)]) { w with heap:=w.heap.set l.blk (.stringIter g (n+(Utf8.decode g n).2)) i }:=fun o=>by
    rw[C];simp[Instr.next,A4,Result.andThen_ok,F,o,X,goInt]
   have L:¬n<g.size->(Instr.next (.pointer (some ⟨l.blk,0+l.sh,none⟩)) true ty).run P w=.ok (.tuple #[.bool false]) w:=fun o=>by
    rw[C];simp[Instr.next,A4,Result.andThen_ok,F,o]
   have fin:∀ {m1 m2:Mem} {q:Value},I9 m m1->bB m1 r (.iter [s,q])=some m2->J2 ρ m.n m2.hi->VR ρ q (.int .i64 (.ofNat (n+(Utf8.decode g n).2)))->St P base ρ ρ m m2 w { w with heap:=w.heap.set l.blk (.stringIter g (n+(Utf8.decode g n).2)) i }:=fun{m1 m2 q} e V9 R T=>by
    obtain⟨lg,rfl⟩:=e;have M:=St.wLg h lg;have S:Hp.get (m.wLg lg).H r=some (.iter [s,p]):=by rw[iY];exact hg
    refine St.trans R M (St.write (ab:=.iter [s,p]) (ab':=.iter [s,q]) M.hr V9 S rfl hl I ⟨rfl,rfl,rfl⟩ (by simp) (fun j hj=>?_) ?_)
    .show(w.heap.set l.blk _ i)[j]? = _;rw[i6,A8 (fun e=>hj e.symm)]
    .refine⟨⟨I,C⟩,g,_,?_,.cons Y (.cons T .nil)⟩;show(w.heap.set l.blk _ i)[l.blk]? = _;rw[i6,A9 rfl]
   split at a
   .rename_i b k hc;obtain⟨rfl,rfl⟩:=LO hc;have e:=T7 Y;cases e;have e:=I4 k3;cases e;by_cases o:n<g.size
    .have t:Nat.blt n g.data.toList.length=true:=C5 o;rw[t]at a;simp only[D8,E1]at a;split at a
     .rename_i m2 V9;cases a;exact⟨_,ρ,_,z o,.tuple rfl (LR.cons (.pure rfl) (LR.cons (.pure rfl) (LR.cons (.pure rfl) LR.nil))).2,fin ⟨m.lg,by cases m;rfl⟩ V9 hf (.pure rfl)⟩
     .cases a
    .have t:Nat.blt n g.data.toList.length=false:=by
      cases T:Nat.blt n g.data.toList.length with
      | false=>rfl
      | true=>exact absurd (A1 T) o
     rw[t]at a;cases a;exact⟨_,ρ,w,L o,.tuple rfl (LR.cons (.pure rfl) LR.nil).2,St.refl h⟩
   .obtain⟨h1,a⟩:=A3 a;obtain⟨h1,h2⟩:=B3 h1;have h1:=A0 h1;have h2:=A0 h2;obtain⟨s0,es,as⟩:=d7 Y h1;cases es;obtain⟨kk,nn,ep,ap,_⟩:=L7 k3 A2;cases ep;split at a
    .rename_i hh m1 B;split at a
     .rename_i c H N W hi lg E;have o1:=G7 B;have o2:=G7 E;have key:∀ {b:Bool} {f:Lg},brL lg c=some (b,f)->Sat f->(b=true↔n<s0.length)/\I9 m ⟨H,N,W,hi,f⟩:=fun{b f} t u=>by
       have G:Sat lg:=u.le (dT t);have az:Sat m1.lg:=Q8.le G (H1 E);have u1:VR ρ hh (.int .i64 s0.length):=by
        have:=(fM (ρ:=ρ) B az).2.2;rw[C4,F8,as]at this;exact this
       obtain⟨rfl,e1⟩:=gO B;obtain⟨k5,n5,e5,a5,_⟩:=L7 u1 (show 3<8 by decide);cases e5;have u2:VR ρ c (.bool (decide ((n:Int)<s0.length))):=by
        have:=(fM (ρ:=ρ) E G).2.2;rw[C4,C4,F8,ap,a5]at this;have e:evU (.bin .lss) [.int .i64 (Int.ofNat n),.int .i64 (s0.length:Int)]=.bool (decide ((n:Int)<s0.length)):=by
         simp[evU,evB,bH,rZ,iT,mG,CJ,ofV]
        rw[e]at this;exact this
       have:=kN t u2 u;refine⟨?_,?_⟩
       .have:=Value.bool.inj this;rw[<- this,decide_eq_true_iff];omega
       .exact(o1.trans o2).trans ⟨f,rfl⟩
      split at a
      .rename_i f t;split at a
       .rename_i y m3 D;split at a
        .rename_i q m4 A;split at a
         .rename_i m5 V9;cases a;have K:Sat m4.lg:=by rw[<- cI V9];exact hS
          have O:=K.le (H1 A);have u:Sat f:=O.le (H1 D);obtain⟨V,Q⟩:=key t u;have o:=V.1 rfl;have u3:VR ρ y (.int .i32 (.ofNat (Utf8.decode ⟨⟨s0⟩⟩ n).1)):=by
           have:=(fM (ρ:=ρ) D O).2.2;rw[C4,C4,F8,as,ap]at this;exact this
          have u4:VR ρ q (.int .i64 (.ofNat (n+(Utf8.decode ⟨⟨s0⟩⟩ n).2))):=by
           have:=(fM (ρ:=ρ) A K).2.2;rw[C4,C4,F8,as,ap]at this;exact this
          exact⟨_,ρ,_,z o,.tuple rfl (LR.cons (.pure rfl) (LR.cons k3 (LR.cons u3 LR.nil))).2,fin ((Q.trans (G7 D)).trans (G7 A)) V9 hf u4⟩
         .cases a
        .cases a
       .cases a
      .rename_i f t;cases a;obtain⟨V,Q⟩:=key t hS;have o:¬n<s0.length:=fun q=>by have:=V.2 q;cases this
       obtain⟨ay,e3⟩:=Q;refine⟨_,ρ,w,L o,.tuple rfl (LR.cons (.pure rfl) LR.nil).2,?_⟩;rw[e3];exact St.wLg h ay
      .cases a
     .cases a
    .cases a
  .cases a
 .cases a
def QW{t:TypeId}{x:Value}(a:vE P m t x=some (v,m')):m.lg.le m'.lg:=by
 unfold vE at a;split at a
 .obtain⟨_,a⟩:=A3 a;rw[p9 a];exact .refl _
 .cases a
def WC{x:Value}(e:GJ m x=some (v,m')):m.lg.le m'.lg:=by
 unfold GJ at e;split at e
 .split at e
  .split at e
   .rename_i b k o;cases f:Nat.blt k b.data.toList.length with
    | true =>
      rw[f]at e;simp only[D8,E1]at e;split at e
      .rename_i V9;cases e;rw[cI V9];exact .refl _
      .cases e
    | false=>rw[f]at e;cases e;exact .refl _
   .obtain⟨_,e⟩:=A3 e;split at e
    .rename_i g;split at e
     .rename_i n;have a:=(H1 g).trans (H1 n);split at e
      .rename_i f;have a:=a.trans (dT f);split at e
       .rename_i j;split at e
        .rename_i i;split at e
         .rename_i V9;cases e;rw[cI V9];exact(a.trans (H1 j)).trans (H1 i)
         .cases e
        .cases e
       .cases e
      .rename_i f;cases e;exact a.trans (dT f)
      .cases e
     .cases e
    .cases e
  .cases e
 .cases e
def A31{fr:Fr}{g:Operand->Value}{o:Oper}(h:HR P base ρ m.H w)(C:base<=w.heap.size)(b:xtM P fr m o=some (v,m'))(i:J2 ρ m.n m'.hi)(z:FR ρ fr g o.op)(f:Sat m'.lg):NOk P base ρ m w (execOp g o) v m':=by
 obtain⟨dst,op,ty,pos,E,F⟩:=o;unfold xtM at b;simp only at b z;have a:∀ {x},x ∈ op.operands.toList->VR ρ (ev fr x) (g x):=fun hx=>z _ hx
 split at b
 .rename_i s t x;exact NOk.of (ZF h b (a (x:=x) (by simp[Op.operands])))
 .rename_i op t x y K;exact NOk.of (VA h b (a (x:=x) (by simp[Op.operands])) (a (x:=y) (by simp[Op.operands])))
 .rename_i xs tys;have l1:=bW (ρ:=ρ) (fr:=fr) (g:=g) (xs:=xs.toList) fun y u=>z y (by show y ∈ (#[]++xs:Array Operand).toList;simpa using u)
  split at b
  .rename_i x hx;rw[hx]at l1;obtain⟨x',r1,A,g1,g2⟩:=l1.tail;cases g2.nil_inv;have B:xs.map g=#[x']:=by apply I2;simpa using A
   have:=A4F (tys:=tys) h b g1;have q:=NOk.of this;obtain⟨ks,j⟩:∃ ks,execOp g ⟨dst,.call ⟨.builtin .unsafeSliceData,xs,tys⟩,ty,pos,E,F⟩=builtin .unsafeSliceData tys ty ks (xs.map g):=⟨#[],rfl⟩;rw[j,B];exact q
  .cases b
 .rename_i xs tys;have l1:=bW (ρ:=ρ) (fr:=fr) (g:=g) (xs:=xs.toList) fun y u=>z y (by show y ∈ (#[]++xs:Array Operand).toList;simpa using u)
  split at b
  .rename_i p l t rest hx D;rw[hx]at l1;obtain⟨x',r1,A,g1,g2⟩:=l1.tail;obtain⟨I,J,rfl,g3,g4⟩:=g2.tail;cases g4.nil_inv;have B:xs.map g=#[x',I]:=by apply I2;simpa using A
   have q:=NOk.of (A37 (ty:=ty) (tys:=rest) h b g1 g3 f i);obtain⟨ks,j⟩:∃ ks,execOp g ⟨dst,.call ⟨.builtin .unsafeString,xs,tys⟩,ty,pos,E,F⟩=builtin .unsafeString tys ty ks (xs.map g):=⟨#[],rfl⟩;have G:tys=⟨t::rest⟩:=by rw[<- D]
   rw[j,B,G];exact q
  .cases b
 .rename_i t;exact NOk.of (A1F h C b i f)
 .rename_i t x k ok;exact NOk.of (RG h b (a (x:=x) (by simp[Op.operands])) (a (x:=k) (by simp[Op.operands])) f)
 .rename_i t x;exact NOk.of (QV h C b i (a (x:=x) (by simp[Op.operands])))
 .rename_i x;exact NOk.of (WB h b i (a (x:=x) (by simp[Op.operands])) f)
 .rename_i t x k e;obtain⟨rfl,hu⟩:=FQ h C b i (a (x:=x) (by simp[Op.operands])) (a (x:=k) (by simp[Op.operands])) (a (x:=e) (by simp[Op.operands])) f;exact NOk.ofU hu
 .rename_i t x k e;obtain⟨rfl,hu⟩:=FQ h C b i (a (x:=x) (by simp[Op.operands])) (a (x:=k) (by simp[Op.operands])) (a (x:=e) (by simp[Op.operands])) f;exact NOk.ofU hu
 .rename_i xs tys;have l1:=bW (ρ:=ρ) (fr:=fr) (g:=g) (xs:=xs.toList) fun y u=>z y (by show y ∈ (#[]++xs:Array Operand).toList;simpa using u)
  split at b
  .rename_i x t rest hx D;rw[hx]at l1;obtain⟨x',r1,A,g1,g2⟩:=l1.tail;cases g2.nil_inv;have B:xs.map g=#[x']:=by apply I2;simpa using A
   have q:=NOk.of (WO (ty:=ty) (tys:=rest) h b g1 f);obtain⟨ks,j⟩:∃ ks,execOp g ⟨dst,.call ⟨.builtin .len,xs,tys⟩,ty,pos,E,F⟩=builtin .len tys ty ks (xs.map g):=⟨#[],rfl⟩;have G:tys=⟨t::rest⟩:=by rw[<- D]
   rw[j,B,G];exact q
  .cases b
 .cases b
def A32{fr:Fr}{o:Oper}(a:xtM P fr m o=some (v,m')):m.lg.le m'.lg:=by
 unfold xtM at a;split at a
 .unfold PM at a;split at a
  .split at a
   .obtain⟨_,a⟩:=A3 a;cases a;exact .refl _
   .cases a
  .split at a
   .obtain⟨_,a⟩:=A3 a;cases a;exact .refl _
   .cases a
  .obtain⟨_,a⟩:=A3 a;split at a
   .split at a
    .rename_i V9;cases a;obtain⟨_,rfl⟩:=T6 V9;exact .refl _
    .cases a
   .cases a
  .cases a
 .unfold NK at a;split at a
  .obtain⟨_,a⟩:=A3 a;split at a
   .cases a;exact .refl _
   .cases a;exact .refl _
   .cases a
  .cases a
 .split at a
  .unfold sdM at a;split at a
   .split at a
    .split at a
     .cases a;exact .refl _
     .cases a
    .cases a
   .cases a
  .cases a
 .split at a
  .unfold usM at a;split at a
   .obtain⟨_,a⟩:=A3 a;split at a
    .obtain⟨_,a⟩:=A3 a;split at a
     .rename_i b;split at a
      .rename_i hs;cases a;rw[cI hs];exact H1 b
      .cases a
     .cases a
    .cases a
   .cases a
  .cases a
 .exact A1G a
 .exact RH a
 .exact QW a
 .exact WC a
 .exact FS a
 .exact FS a
 .split at a
  .exact WP a
  .cases a
 .cases a
end
end
section
open Go
def fw(rd:Option Nat):Fence:={ Fence.wide with round:=rd }
def pO{rd:Option Nat}{n:Nat}:(fw rd).depth.isSome=true->1<=n:=fun h=>by cases h
def nG{rd:Option Nat}{n:Nat}{P:Program}{f:FuncId}{args:U8}{w:World}{R:Ending->World->Prop}:CallsIn (fw rd) n P f args w R↔Calls P f args w R :=
 ⟨fun h=>callsIn_wide.1 (show CallsIn Fence.wide n P f args w R from h),fun h=>show CallsIn (fw rd) n P f args w R from(callsIn_wide (n:=n)).2 h⟩
section
variable {P:Program} {rd:Option Nat}
def wpO(P:Program)(rd:Option Nat)(o:Oper)(a:Act)(w:World)(K:Act->World->Prop)(Q:Exit->Act->World->Prop):Prop:=o.wpIn (fw rd) 0 P a w K Q
def DX{o:Oper}{a:Act}{w:World}{K f:Act->World->Prop}{Q:Exit->Act->World->Prop}(h:∀ a w,K a w->f a w)(hh:wpO P rd o a w K Q):wpO P rd o a w f Q:=by
 unfold wpO Oper.wpIn at *;refine⟨hh.1,?_⟩;have hh:=hh.2;generalize (o.semAt (fw rd).round a.eval).run P w=r at *;cases r with
 | ok n w' =>
   cases n<;>simp only[Oper.uponIn]at hh ⊢ <;>
    first
     | exact h _ _ hh
     | exact⟨hh.1,CallsIn.mono hh.2 (fun e b he=>by cases e<;>first|exact h _ _ he|exact he)⟩
     | exact⟨hh.1,RowsIn.mono hh.2 (fun _ _ he=>h _ _ he)⟩
     | exact⟨hh.1,RoundIn.mono hh.2 (fun e b he=>by cases e<;>first|exact h _ _ he|exact he)⟩
 | halt x w'=>cases x<;>simp only[Oper.uponIn]at hh ⊢<;>exact hh
def wpL(P:Program)(rd:Option Nat)(ops:Array Oper)(Q:Exit->Act->World->Prop):List Oper->Act->World->Prop
 | [],a,w=>Q .normal a w
 | o::rest,a,w=>if Region.wanted o (yielded ops a.tmps)then wpO P rd o a w (wpL P rd ops Q rest) Q else wpL P rd ops Q rest (a.put o.dst undef) w
def DY{ops:Array Oper}{Q:Exit->Act->World->Prop}{a:Act}{w:World}{rest:List Oper}{o:Oper}
  (h:∀ K:Act->World->Prop,(∀ a w,wpL P rd ops Q rest a w->K a w)->if Region.wanted o (yielded ops a.tmps)then wpO P rd o a w K Q else K (a.put o.dst undef) w):wpL P rd ops Q (o::rest) a w:=h _ fun _ _ h=>h
def MJ{ops:Array Oper}{Q:Exit->Act->World->Prop}:∀ (l:List Oper) (k:Nat),(∀ j,l[j]? = ops[k+j]?)->∀ a w,wpL P rd ops Q l a w->wpOpsIn (fw rd) 0 P ops Q (List.range' k l.length) a w
 | [],k,_,a,w,h=>h
 | o::l,k,hk,a,w,h=>by
   have h0:ops[k]? = some o:=by simpa using(hk 0).symm
   have b:=MJ (Q:=Q) l (k+1) (fun j=>by have:=hk (j+1);simpa [aY,hZ 1 j]using this);simp only[D5,List.range'_succ,wpOpsIn,h0];unfold wpL at h;split
   .rename_i hw;rw[A9 hw]at h;exact DX b h
   .rename_i hw;rw[A8 hw]at h;exact⟨fun _ _=>trivial,b _ _ h⟩
def tC{id:Nat}{ops:Array Oper}{Q:Exit->Act->World->Prop}{a:Act}{w:World}(h:wpL P rd ops Q ops.toList a w):(Code.region id ops false).wpIn (fw rd) 0 P Q a w :=
 wpIn_region (by
  have:=MJ ops.toList 0 (by simp) a w h;rw[List.range_eq_range',<- Q7];exact this)
def eZ(P:Program)(rd:Option Nat)(ops:Array Oper)(Q:Exit->Act->World->Prop)(i:Nat)(K:Act->World->Prop)(a:Act)(w:World):Prop :=
 match ops[i]? with
 | none=>K a w
 | some o=>if Region.wanted o (yielded ops a.tmps)then wpO P rd o a w K Q else K (a.put o.dst undef) w
def JD{ops:Array Oper}{Q:Exit->Act->World->Prop}{i:Nat}{a:Act}{w:World}{K b:Act->World->Prop}(h:∀ a w,K a w->b a w)(hh:eZ P rd ops Q i K a w):eZ P rd ops Q i b a w:=by
 unfold eZ at *;split
 .exact h _ _ (by simpa [*]using hh)
 .rename_i o e;simp only[e]at hh;split
  .rename_i hw;simp only[hw,if_true]at hh;exact DX h hh
  .rename_i hw;simp only[hw]at hh;exact h _ _ hh
def BJ{ops:Array Oper}{Q:Exit->Act->World->Prop}{i:Nat}{rest:G5}{a:Act}{w:World}(h:eZ P rd ops Q i (wpOpsIn (fw rd) 0 P ops Q rest) a w):wpOpsIn (fw rd) 0 P ops Q (i::rest) a w:=by
 unfold eZ at h;simp only[wpOpsIn];split at h
 .rename_i e;simp only[e];exact h
 .rename_i o b;simp only[b];split at h
  .rename_i hw;rw[A9 hw];exact h
  .rename_i hw;rw[A8 hw];exact⟨fun _ _=>trivial,h⟩
def fY(P:Program)(rd:Option Nat)(md:Region.Mode)(ops:Array Oper)(Q:Exit->Act->World->Prop):Nat->Array Bool->Act->World->Prop
 | 0,listed,a,w=>Region.ready md ops listed=[]/\Q .normal a w
 | fuel+1,listed,a,w=>(Region.ready md ops listed=[]->Q .normal a w)/\∀ i ∈ Region.ready md ops listed,eZ P rd ops Q i (fY P rd md ops Q fuel (listed.setIfInBounds i true)) a w
def BK{md:Region.Mode}{ops:Array Oper}{Q:Exit->Act->World->Prop}:∀ (fuel t:Nat) (listed:Array Bool) (a:Act) (w:World),fY P rd md ops Q fuel listed a w->wpOpsIn (fw rd) 0 P ops Q (Region.linearise.go md ops fuel t listed []) a w:=by
 intro fuel;induction fuel with
 | zero=>intro t listed a w h;simpa [Region.linearise.go,wpOpsIn]using h.2
 | succ fuel f =>
   intro t listed a w h;obtain⟨h0,h1⟩:=h;simp only[Region.linearise.go];change wpOpsIn (fw rd) 0 P ops Q (match (Region.ready md ops listed)[t%(Region.ready md ops listed).length]? with
    | some i=>Region.linearise.go md ops fuel (t / (Region.ready md ops listed).length) (listed.setIfInBounds i true) [i]
    | none=>[].reverse) a w
   cases hi:(Region.ready md ops listed)[t%(Region.ready md ops listed).length]? with
   | none =>
     have b:Region.ready md ops listed=[]:=by
      cases hr:Region.ready md ops listed with
      | nil=>rfl
      | cons x xs =>
        rw[hr]at hi;have e:t%(x::xs).length<(x::xs).length:=nK _ (by simp);simp at hi;simp at e;omega
     simpa [wpOpsIn]using h0 b
   | some i =>
     simp only[];rw[linearise_go_acc,List.reverse_singleton,List.singleton_append];exact BJ (JD (fun a w=>f _ _ a w) (h1 i (C7 hi)))
def iX{id:Nat}{ops:Array Oper}{Q:Exit->Act->World->Prop}{a:Act}{w:World}(hm:P.follows .mixedOrders=true)
  (h:fY P rd .any ops Q ops.size (Array.replicate ops.size false) a { w with drawn:=w.drawn+1 }):(Code.region id ops true).wpIn (fw rd) 0 P Q a w :=
 wpIn_region_draw fun t=>by
  simp only[Region.schedule,hm,Bool.true_or,if_true];exact BK ops.size t _ a _ h
def j7{b:Frame}{a:Act}{k:List Item}{w:World} :step P (lone (b.atR a (.code (.scope c)::k)) cs w)=.next (lone (b.atR a (.code c::.inScope c::k)) cs w) :=
 step_lone_go (by simp[stepG,stepG.exec,Frame.atR])
def yC{b:Frame}{a:Act}{k:List Item}{w:World} :step P (lone (b.atR a (.inScope c::k)) cs w)=.next (lone (b.atR a k) cs w) :=
 step_lone_go (by simp[stepG,stepG.exec,Frame.atR])
def Exit.calm(Q:Exit->Act->World->Prop):Exit->Act->World->Prop
 | .goto _,_,_=>False
 | e,a,w=>Q e a w
def JE{F:Fence}{n:Nat}{Q:Exit->Act->World->Prop}{a:Act}{w:World}(h:c.wpIn F n P (Exit.calm Q) a w):(Code.scope c).wpIn F n P Q a w:=by
 intro b k cs o q hr;have h0:(lone (b.atR a (.code (.scope c)::k)) cs w).fenced P F:=fenced_calm q hr rfl;obtain⟨e,i,g,j,f⟩:=h b (.inScope c::k) cs o q hr;cases e with
 | normal=>exact⟨.normal,i,g,j,.head h0 j7 (StepsIn.trans f (.one (fenced_calm q hr rfl) yC))⟩
 | exit id =>
   have hx:exitTo id (.inScope c::k)=exitTo id k:=rfl;exact⟨.exit id,i,g,j,fun k' s=>.head h0 j7 (f.1 k' (by rw[hx];exact s)),
    fun p s=>let ⟨k₁,h1,t⟩:=f.2 p (by rw[hx];exact s);⟨k₁,h1,.head h0 j7 t⟩⟩
 | goto l=>exact j.elim
 | ret=>exact⟨_,i,g,j,.of_steps (.one h0 j7) f⟩
 | panic u=>exact⟨_,i,g,j,.of_steps (.one h0 j7) f⟩
 | outgrown=>exact⟨_,i,g,j,.of_steps (.one h0 j7) f⟩
end
end
section
open Go
def mD(o:Op)(g:Operand->Value):Sem Value :=
 match o with
 | .move x|.assign x=>pure (g x)
 | .load t x=>Instr.loadAt t (g x)
 | .store t x y=>do Instr.storeAt t (g x) (g y);pure undef
 | _=>stuck "no such operation"
def rM(P:Program)(o:Oper)(s:Act×World):Option (Act×World) :=
 match (mD o.op s.1.eval).run P s.2 with
 | .ok v w'=>some (s.1.put o.dst v,w')
 | .halt _ _=>none
section
variable {P:Program} {rd:Option Nat}
def uD{o:Oper}{s t:Act×World}(h:rM P o s=some t):∃ v,(mD o.op s.1.eval).run P s.2=.ok v t.2/\t.1=s.1.put o.dst v:=by
 unfold rM at h;split at h
 .rename_i v w' hr;cases h;exact⟨v,hr,rfl⟩
 .cases h
def lV{o:Oper}{s:Act×World}(h:(mD o.op s.1.eval).run P s.2=.ok v w'):rM P o s=some (s.1.put o.dst v,w'):=by
 unfold rM;rw[h]
def SC{o:Oper}(a:DL o.op=true)(w:World)(g:Operand->Value):o.about P w g=none:=by
 unfold Oper.about;cases b:o.op<;>rw[b]at a<;>first|rfl|cases a
def MV{o:Oper}(a:DL o.op=true)(g:Operand->Value):∀ c,o.op≠.defer c:=fun c h=>by rw[h]at a;cases a
def A0W{o:Oper}(g:DL o.op=true){a a':Act}{w:World}{K:Act->World->Prop}{Q:Exit->Act->World->Prop}(h:rM P o (a,w)=some (a',w'))(i:K a' w'):wpO P rd o a w K Q:=by
 obtain⟨v,h1,j⟩:=uD h;simp only at h1 j;subst j;unfold wpO Oper.wpIn;refine⟨fun f n=>(by rw[SC g]at n;cases n),?_⟩;rw[Oper.semAt_eq _ _ _ (MV g a.eval)];cases b:o.op<;>rw[b]at g h1<;>first
  | cases g;done
  | skip
 .have e:(execOp a.eval o)=pure (.value (a.eval ‹Operand›)):=by unfold execOp;rw[b]
  rw[e];cases h1;exact i
 .have e:(execOp a.eval o)=pure (.value (a.eval ‹Operand›)):=by unfold execOp;rw[b]
  rw[e];cases h1;exact i
 .rename_i t x;have e:(execOp a.eval o)=(do pure (.value (<- Instr.loadAt t (a.eval x)))):=by unfold execOp;rw[b]
  have h1:(Instr.loadAt t (a.eval x)).run P w=.ok v w':=h1;rw[e];simp only[A4,h1,Result.andThen,Sem.run_pure];exact i
 .rename_i t x y;have e:(execOp a.eval o)=(do Instr.storeAt t (a.eval x) (a.eval y);pure .skip):=by unfold execOp;rw[b]
  have h1:(do Instr.storeAt t (a.eval x) (a.eval y);pure undef:Sem Value).run P w=.ok v w':=h1;rw[e];simp only[A4]at h1 ⊢;cases hr:(Instr.storeAt t (a.eval x) (a.eval y)).run P w with
  | ok u w2=>rw[hr]at h1;simp only[Result.andThen,Sem.run_pure]at h1 ⊢;cases h1;exact i
  | halt x w2=>rw[hr]at h1;cases h1
def A1s{o:Oper}(f:DL o.op=true){a:Act}{w:World}{K:Act->World->Prop}{Q:Exit->Act->World->Prop}(g:∀ c a w,¬Q (.panic c) a w)(h:wpO P rd o a w K Q):∃ a' w',rM P o (a,w)=some (a',w')/\K a' w':=by
 unfold wpO Oper.wpIn at h;obtain⟨_,h⟩:=h;rw[Oper.semAt_eq _ _ _ (MV f a.eval)]at h;cases b:o.op<;>rw[b]at f<;>first
  | cases f;done
  | skip
 .rename_i x;have e:(execOp a.eval o)=pure (.value (a.eval x)):=by unfold execOp;rw[b]
  rw[e]at h;exact⟨_,_,lV (s:=(a,w)) (v:=a.eval x) (w':=w) (by rw[b];rfl),h⟩
 .rename_i x;have e:(execOp a.eval o)=pure (.value (a.eval x)):=by unfold execOp;rw[b]
  rw[e]at h;exact⟨_,_,lV (s:=(a,w)) (v:=a.eval x) (w':=w) (by rw[b];rfl),h⟩
 .rename_i t x;have e:(execOp a.eval o)=(do pure (.value (<- Instr.loadAt t (a.eval x)))):=by unfold execOp;rw[b]
  rw[e]at h;simp only[A4]at h;cases hr:(Instr.loadAt t (a.eval x)).run P w with
  | ok v w' =>
    rw[hr]at h;exact⟨_,_,lV (s:=(a,w)) (v:=v) (w':=w') (by rw[b];exact hr),h⟩
  | halt y w' =>
    rw[hr]at h;cases y<;>first|exact absurd h (g _ _ _)|exact h.elim
 .rename_i t x y;have e:(execOp a.eval o)=(do Instr.storeAt t (a.eval x) (a.eval y);pure .skip):=by unfold execOp;rw[b]
  rw[e]at h;simp only[A4]at h;cases hr:(Instr.storeAt t (a.eval x) (a.eval y)).run P w with
  | ok u w' =>
    rw[hr]at h;refine⟨_,_,lV (s:=(a,w)) (v:=undef) (w':=w') ?_,h⟩;rw[b];show(do Instr.storeAt t (a.eval x) (a.eval y);pure undef:Sem Value).run P w=_;simp only[A4,hr,Result.andThen,Sem.run_pure]
  | halt z w' =>
    rw[hr]at h;cases z<;>first|exact absurd h (g _ _ _)|exact h.elim
def UR{a:Act}{e:Option Tmp}{u:Value}(h:∀ x y,d=some x->e=some y->x≠y):(a.put d v).put e u=(a.put e u).put d v:=by
 cases d with
 | none=>rfl
 | some x=>cases e with
   | none=>rfl
   | some y =>
     have b:=h x y rfl rfl;unfold Act.put;simp only;congr 1;exact Array.setIfInBounds_comm _ _ b
def fQ{a:Act}{x:Operand}(h:∀ t,d=some t->t ∉ nT x):(a.put d v).eval x=a.eval x:=by
 cases x with
 | const c=>cases d<;>rfl
 | tmp t =>
   cases d with
   | none=>rfl
   | some y =>
     have:y≠t:=fun e=>h y rfl (by subst e;exact g9.2 rfl)
     unfold Act.put Act.eval;simp only[B5];rw[Array.getElem?_setIfInBounds_ne this]
 | _=>cases d<;>rfl
variable [Ora]
def yN(P:Program)(w:World)(t:TypeId)(p:Value):Prop :=
 ∃ b o C T fz s g,p=.pointer (some ⟨b,o,none⟩)/\w.heap[b]? = some (.cells C T fz)/\G3 P t=some s/\s5 P t=some g/\o+s<=C.size/\o<C.size
def zS{t:TypeId}{b o s:Nat}{C:U8}{T:TypeId}{g:Bool}(hs:G3 P t=some s)(n:s5 P t=some g)(h1:o+s<=C.size)(p:o<C.size):∃ v,∀ w:World,w.heap[b]? = some (.cells C T fz)->(Instr.loadAt t (.pointer (some ⟨b,o,none⟩))).run P w=.ok v w:=by
 have a:∀ w:World,w.heap[b]? = some (.cells C T fz)->∀ j v,C[o+j]? = some v->w.cell? ⟨b,o+j,none⟩=some v:=fun w hw j v hv=>by simp[World.cell?,hw,hv]
 cases g with
 | true =>
   refine⟨.agg ⟨(C.toList.drop o).take s⟩,fun w hw=>?_⟩;have q:((C.toList.drop o).take s).length=s:=by rw[R2,E4,Q7];omega
   have i:=J3 (P:=P) (w:=w) (b:=b) (o:=o) q (fun j v e=>by
    have f:j<s:=by have:=(B0.1 e).1;omega
    rw[F4 f,H3,X3]at e;exact a w hw j v e)
   unfold Instr.loadAt;simp[A4,Instr.sureAddr,loadVar,aT n,J8 hs,Result.andThen,i]
 | false =>
   refine⟨C[o],fun w hw=>?_⟩
   have:=a w hw 0 C[o] (by simp[p]);unfold Instr.loadAt;simp[A4,Instr.sureAddr,loadVar,aT n,Result.andThen,run_load,show w.cell? ⟨b,o,none⟩=some C[o]from by simpa using this]
def uQ{b o:Nat}{T:TypeId}{fz:Nat×Nat}:∀ (vs:List Value) (i:Nat) (C:Array Value) (w w':World),w.heap[b]? = some (.cells C T fz)->o+i+vs.length<=C.size->(storeCells ⟨b,o,none⟩ vs i).run P w=.ok () w' ->
  (∀ k,k≠b->w'.heap[k]? = w.heap[k]?)/\∃ C',w'.heap[b]? = some (.cells C' T fz)/\C'.size=C.size
 | [],i,C,w,w',h,_,hr=>by cases hr;exact⟨fun _ _=>rfl,C,h,rfl⟩
 | v::r,i,C,w,w',h,hl,hr=>by
   simp only[D5]at hl;have f:o+i<C.size:=A2;have p:w.cell? ⟨b,o+i,none⟩=some C[o+i]:=by simp[World.cell?,h,f]
   have q:(w.setCell ⟨b,o+i,none⟩ v).heap[b]? = some (.cells (C.setIfInBounds (o+i) v) T fz):=by
    simp[World.setCell,G6,h]
   unfold storeCells at hr;simp only[A4,J3.add_none']at hr;have a:(store ⟨b,o+i,none⟩ v).run P w=.ok () (w.setCell ⟨b,o+i,none⟩ v)∨∃ x w2,(store ⟨b,o+i,none⟩ v).run P w=.halt x w2:=by
    unfold store;cases v<;>first
     | exact .inr ⟨_,_,rfl⟩
     | (simp only[Sem.run,p]
        split
        .exact .inr ⟨_,_,rfl⟩
        .exact .inl rfl)
   rcases a with a|⟨x,w2,a⟩
   .rw[a]at hr;simp only[Result.andThen]at hr;obtain⟨s,C',j,n⟩:=uQ r (i+1) _ _ _ q (by simp;omega) hr;refine⟨fun k g=>?_,C',j,by rw[n];simp⟩;rw[s k g];simp only[World.setCell,G6];rw[A8 (fun e=>g e.symm)]
   .rw[a]at hr;cases hr
def BO{t:TypeId}{b o s:Nat}{C:U8}{T:TypeId}{y:Value}{w:World}(hs:G3 P t=some s)(hw:w.heap[b]? = some (.cells C T fz))(h1:o+s<=C.size)(hr:(Instr.storeAt t (.pointer (some ⟨b,o,none⟩)) y).run P w=.ok () w') :
  (∀ k,k≠b->w'.heap[k]? = w.heap[k]?)/\∃ C',w'.heap[b]? = some (.cells C' T fz)/\C'.size=C.size:=by
 unfold Instr.storeAt at hr;simp only[A4,Instr.sureAddr,storeVar,J8 hs,Result.andThen,Sem.run_pure]at hr;by_cases a:y.cells.size≠s
 .rw[A9 a]at hr;cases hr
 .rw[A8 a]at hr;have a:=Classical.not_not.1 a;exact uQ y.cells.toList 0 C w w' hw (by rw[Q7,a];omega) hr
structure JB (P:Program) (ops:List Oper) (s:Act×World):Prop where
 pl:∀ o ∈ ops,∀ t x,kP o.op=some (t,x)->yN P s.2 t (s.1.eval x)
 ap:∀ i j a b,i<j->ops[i]? = some a->ops[j]? = some b->pZ b i=false->(eF a.op || eF b.op)=true->∀ t x u y,kP a.op=some (t,x)->kP b.op=some (u,y)->∀ p q,s.1.eval x=.pointer (some p)->s.1.eval y=.pointer (some q)->p.block≠q.block
def wJ{b:Nat}:m9 l b=true↔b ∈ l:=by
 unfold m9;rw[O7];constructor
 .rintro⟨x,h,e⟩;have:=A0 e;subst this;exact h
 .intro h;exact⟨b,h,cN b⟩
def GF{a:List Tmp}:∀ {l:List Oper} {k i:Nat} {o:Oper},VU a k l=true->l[i]? = some o->A4a a (k+i) o=true
 | [],k,i,o,_,h=>by simp at h
 | p::l,k,0,o,h,hi=>by
   simp at hi;subst hi;exact(B3 h).1
 | p::l,k,i+1,o,h,hi=>by
   have:=GF (l:=l) (k:=k+1) (i:=i) (o:=o) (B3 h).2 (by simpa using hi);rw[show k+(i+1)=k+1+i by omega];exact this
structure One (ops:List Oper) (i:Nat) (o:Oper):Prop where
 cls:DL o.op=true
 grd:o.guard=none
 ads:∀ p ∈ ops,∀ t x,kP p.op=some (t,x)->∀ d,o.dst=some d->d ∉ nT x
 lt:∀ e ∈ o.after,Region.binds .any e=true->e.on<i
def lH{ops:List Oper}(h:jH ops=true){i:Nat}{o:Oper}(hi:ops[i]? = some o):One ops i o:=by
 have h1:=GF (B3 h).1 hi;rw[E8]at h1;unfold A4a at h1;obtain⟨f,h1⟩:=B3 h1;obtain⟨a2,h1⟩:=B3 h1;obtain⟨a3,a4⟩:=B3 h1;refine⟨f,?_,fun p hp t x hx d j hm=>?_,fun e he b=>?_⟩
 .cases a:o.guard with
  | none=>rfl
  | some g=>rw[a]at a2;cases a2
 .have:m9 (A0I ops) d=true:=wJ.2 (List.mem_flatMap.2 ⟨p,hp,by rw[hx];exact hm⟩);unfold zI at a3;rw[j]at a3;simp only at a3;rw[this]at a3;cases a3
 .have:=dX.1 a4 e he;rw[b]at this;exact A1 this
def FI{p:Oper->Oper->Bool}{ops:List Oper}(h:CA p ops=true){i j:Nat}{a b:Oper}(e:i<j)(hi:ops[i]? = some a)(g:ops[j]? = some b)(he:pZ b i=false):p a b=true:=by
 unfold CA at h;have f:=(B0.1 g).1
 have:=D2.1 (D2.1 h j (V0.2 f)) i (V0.2 e);rw[hi,g]at this;simp only[he,P2]at this;exact this
def FM{o:Oper}{a:Act}(b:∀ t,d=some t->t ∉ UO o.op)(f:DL o.op=true):mD o.op (a.put d v).eval=mD o.op a.eval:=by
 cases g:o.op<;>rw[g]at f b<;>first
  | cases f;done
  | skip
 .unfold mD;simp only;rw[fQ b]
 .unfold mD;simp only;rw[fQ b]
 .unfold mD;simp only;rw[fQ b]
 .unfold mD;simp only;rw[fQ (fun t e hm=>b t e (B6.2 (.inl hm))),fQ (fun t e hm=>b t e (B6.2 (.inr hm)))]
def tU{o:Oper}{s:Act×World}(e:DL o.op=true)(a:eF o.op=false)(hp:∀ t x,kP o.op=some (t,x)->yN P s.2 t (s.1.eval x))(h:(mD o.op s.1.eval).run P s.2=.ok v w'):w'=s.2:=by
 cases p:o.op<;>rw[p]at e a h hp<;>first
  | cases e;done
  | cases a;done
  | skip
 .cases h;rfl
 .cases h;rfl
 .rename_i t x;obtain⟨b,o',C,T,fz,sz,g,j,z,f,q,i,n⟩:=hp t x rfl;obtain⟨u,hu⟩:=zS (P:=P) (T:=T) (fz:=fz) f q i n;have h:(Instr.loadAt t (s.1.eval x)).run P s.2=.ok v w':=h;rw[j,hu s.2 z]at h;cases h;rfl
def uP{o:Oper}{s:Act×World}(a:eF o.op=true)(hp:∀ t x,kP o.op=some (t,x)->yN P s.2 t (s.1.eval x))(h:(mD o.op s.1.eval).run P s.2=.ok v w') :
  ∃ t x b o' C T fz,kP o.op=some (t,x)/\s.1.eval x=.pointer (some ⟨b,o',none⟩)/\s.2.heap[b]? = some (.cells C T fz)/\(∀ k,k≠b->w'.heap[k]? = s.2.heap[k]?)/\∃ C',w'.heap[b]? = some (.cells C' T fz)/\C'.size=C.size:=by
 cases p:o.op<;>rw[p]at a h hp<;>first
  | cases a;done
  | skip
 rename_i t x y;obtain⟨b,o',C,T,fz,sz,g,e,f,i,B,n,A⟩:=hp t x rfl;have h:(do Instr.storeAt t (s.1.eval x) (s.1.eval y);pure undef:Sem Value).run P s.2=.ok v w':=h;simp only[A4]at h;cases hr:(Instr.storeAt t (s.1.eval x) (s.1.eval y)).run P s.2 with
 | ok u w2 =>
   rw[hr]at h;simp only[Result.andThen,Sem.run_pure]at h;cases h;rw[e]at hr;obtain⟨q,j⟩:=BO i f n hr;exact⟨t,x,b,o',C,T,fz,rfl,e,f,q,j⟩
 | halt z w2=>rw[hr]at h;cases h
def yN.keep{w:World}{t:TypeId}{p:Value}(h:yN P w t p)(f:∀ (b:Nat) (C:Array Value) (T:TypeId) (fz:Nat×Nat),w.heap[b]? = some (.cells C T fz)->∃ C',w'.heap[b]? = some (.cells C' T fz)/\C'.size=C.size):yN P w' t p:=by
 obtain⟨b,o,C,T,fz,s,g,e,j,a,i,q,u⟩:=h;obtain⟨C',h1,n⟩:=f b C T fz j;exact⟨b,o,C',T,fz,s,g,e,h1,a,i,A2,A2⟩
def JB.step{ops:List Oper}{s D:Act×World}{i:Nat}{o:Oper}(hr:jH ops=true)(A:JB P ops s)(hi:ops[i]? = some o)(h:rM P o s=some D):JB P ops D:=by
 obtain⟨v,h1,K⟩:=uD h;have I:=lH hr hi;have f:=C7 hi;have g:∀ p ∈ ops,∀ t x,kP p.op=some (t,x)->D.1.eval x=s.1.eval x:=fun p hp t x hx=>by rw[K];exact fQ (I.ads p hp t x hx)
 have V:∀ (b:Nat) (C:Array Value) (T:TypeId) (fz:Nat×Nat),s.2.heap[b]? = some (.cells C T fz)->∃ C',D.2.heap[b]? = some (.cells C' T fz)/\C'.size=C.size:=fun b C T fz B=>by
  cases z:eF o.op with
  | false=>rw[tU I.cls z (fun t x hx=>A.pl o f t x hx) h1];exact⟨C,B,rfl⟩
  | true =>
    obtain⟨t,x,b',o',W,X,O,Y,Z,L,S,C',N,R⟩:=uP z (fun t x hx=>A.pl o f t x hx) h1;by_cases e:b=b'
    .subst e;rw[L]at B;cases B;exact⟨C',N,R⟩
    .exact⟨C,by rw[S b e];exact B,rfl⟩
 refine⟨fun p hp t x hx=>by rw[g p hp t x hx];exact(A.pl p hp t x hx).keep V,fun i j a b E h3 G M Q t x u y F H p q J n=>?_⟩;rw[g a (C7 h3) t x F]at J;rw[g b (C7 G) u y H]at n;exact A.ap i j a b E h3 G M Q t x u y F H p q J n
def YX{ops:List Oper}{s s1 s2:Act×World}{i j:Nat}{a b:Oper}(hr:jH ops=true)(N:JB P ops s)(G:i<j)(hi:ops[i]? = some a)(I:ops[j]? = some b)(he:pZ b i=false)(h1:rM P a s=some s1)(h2:rM P b s1=some s2):∃ t,rM P b s=some t/\rM P a t=some s2:=by
 have O:=lH hr hi;have M:=lH hr I;have ma:=C7 hi;have mb:=C7 I;have f:=FI (B3 hr).2 G hi I he;unfold A6U at f;obtain⟨i1,f⟩:=B3 f;obtain⟨i2,f⟩:=B3 f;obtain⟨i3,i4⟩:=B3 f;have Z:∀ t,a.dst=some t->t ∉ UO b.op:=fun t V hm=>by
  unfold zI at i2;rw[V]at i2;simp only at i2;rw[wJ.2 hm]at i2;cases i2
 have R:∀ t,b.dst=some t->t ∉ UO a.op:=fun t V hm=>by
  unfold zI at i3;rw[V]at i3;simp only at i3;rw[wJ.2 hm]at i3;cases i3
 have S:∀ x y,a.dst=some x->b.dst=some y->x≠y:=fun x y hx hy e=>by
  rw[hx,hy]at i1;simp only at i1;subst e;rw[cN]at i1;cases i1
 obtain⟨v,J,e2⟩:=uD h1;obtain⟨u,E,e4⟩:=uD h2;obtain⟨a1,w1⟩:=s1;obtain⟨a2,w2⟩:=s2;obtain⟨a0,w0⟩:=s;simp only at J e2 E e4;subst e2;subst e4;rw[FM Z M.cls]at E;suffices hh:∃ w',(mD b.op a0.eval).run P w0=.ok u w'/\(mD a.op a0.eval).run P w'=.ok v w2 by
  obtain⟨w',q1,q2⟩:=hh;refine⟨(a0.put b.dst u,w'),lV (s:=(a0,w0)) q1,?_⟩
  have:=lV (P:=P) (o:=a) (s:=(a0.put b.dst u,w')) (v:=v) (w':=w2) (by show(mD a.op (a0.put b.dst u).eval).run P w'=_;rw[FM R O.cls];exact q2);rw[this];simp only;rw[UR S]
 have F:∀ t x,kP a.op=some (t,x)->yN P w0 t (a0.eval x):=fun t x hx=>N.pl a ma t x hx
 have A:∀ t x,kP b.op=some (t,x)->yN P w0 t (a0.eval x):=fun t x hx=>N.pl b mb t x hx
 have n:∀ {o:Oper} {w w':World} {r:Value},DL o.op=true->eF o.op=false->(∀ t x,kP o.op=some (t,x)->∃ p q C T fz s g,a0.eval x=.pointer (some ⟨p,q,none⟩)/\w.heap[p]? = some (.cells C T fz)/\w'.heap[p]? = some (.cells C T fz)/\G3 P t=some s/\s5 P t=some g/\q+s<=C.size/\q<C.size)->(mD o.op a0.eval).run P w=.ok r w->(mD o.op a0.eval).run P w'=.ok r w':=fun{o w w' r} hc L hp h=>by
  cases ho:o.op<;>rw[ho]at hc L h hp<;>first
   | cases hc;done
   | cases L;done
   | skip
  .cases h;rfl
  .cases h;rfl
  .rename_i t x;obtain⟨p,q,C,T,fz,sz,g,f1,f2,f3,f4,f5,f6,f7⟩:=hp t x rfl;obtain⟨z,hz⟩:=zS (P:=P) (T:=T) (fz:=fz) f4 f5 f6 f7;have h:(Instr.loadAt t (a0.eval x)).run P w=.ok r w:=h;show(Instr.loadAt t (a0.eval x)).run P w'=.ok r w';rw[f1,hz w f2]at h;rw[f1,hz w' f3];cases h;rfl
 cases H:eF a.op with
 | false =>
   have hw:w1=w0:=tU (s:=(a0,w0)) O.cls H F J;subst hw;refine⟨w2,E,?_⟩;refine n O.cls H (fun t x hx=>?_) J;obtain⟨p,q,C,T,fz,sz,g,f1,f2,f3,f4,f5,f6⟩:=F t x hx;cases B:eF b.op with
   | false =>
     have X:w2=w1:=tU (s:=(a0,w1)) M.cls B A E;subst X;exact⟨p,q,C,T,fz,sz,g,f1,f2,f2,f3,f4,f5,f6⟩
   | true =>
     obtain⟨Y,x',b',o',C0,T0,W,g1,g2,g3,g4,_⟩:=uP (s:=(a0,w1)) B A E;have D:=N.ap i j a b G hi I he (by rw[H,B];rfl) t x Y x' hx g1 _ _ f1 g2;exact⟨p,q,C,T,fz,sz,g,f1,f2,(g4 p D).trans f2,f3,f4,f5,f6⟩
 | true =>
   have B:eF b.op=false:=by
    cases h:eF b.op with
    | false=>rfl
    | true=>rw[H,h]at i4;cases i4
   obtain⟨Y,x',b',o',C0,T0,W,g1,g2,g3,g4,C1,g5,g6⟩:=uP (s:=(a0,w0)) H F J;have K:∀ t x,kP b.op=some (t,x)->yN P w1 t (a0.eval x):=fun t x hx=>(A t x hx).keep fun b C T fz Q=>by
    by_cases e:b=b'
    .subst e;rw[g3]at Q;cases Q;exact⟨C1,g5,g6⟩
    .exact⟨C,by rw[g4 b e];exact Q,rfl⟩
   have hw:w2=w1:=tU (s:=(a0,w1)) M.cls B K E;subst hw;refine⟨w0,?_,J⟩;refine n M.cls B (fun t x hx=>?_) E;obtain⟨p,q,C,T,fz,sz,g,f1,f2,f3,f4,f5,f6⟩:=A t x hx;have D:=N.ap i j a b G hi I he (by rw[H,B];rfl) Y x' t x g1 hx _ _ g2 f1;exact⟨p,q,C,T,fz,sz,g,f1,(g4 p (fun e=>D e.symm)).trans f2,f2,f3,f4,f5,f6⟩
def BV(P:Program)(ops:List Oper):G5->Act×World->Option (Act×World)
 | [],s=>some s
 | i::l,s=>match ops[i]? with
   | some o=>match rM P o s with
     | some s=>BV P ops l s
     | none=>none
   | none=>BV P ops l s
def mT{ops:List Oper}(hr:jH ops=true){j:Nat}{b:Oper}(f:ops[j]? = some b){l2:G5}{r:Act×World}:∀ (l1:List Nat) (s:Act×World),JB P ops s->(∀ i ∈ l1,i<j/\pZ b i=false)->BV P ops (l1++j::l2) s=some r->∃ s1,rM P b s=some s1/\BV P ops (l1++l2) s1=some r
 | [],s,hg,_,h=>by
   simp only[G1,BV,f]at h;split at h
   .rename_i s1 h1;exact⟨s1,h1,h⟩
   .cases h
 | i::l1,s,hg,hl,h=>by
   obtain⟨h0,he⟩:=hl i B1;have e:∀ i ∈ l1,i<j/\pZ b i=false:=fun k o=>hl k (C3 _ o)
   simp only[R4,BV]at h ⊢;cases hi:ops[i]? with
   | none =>
     rw[hi]at h;exact mT hr f l1 s hg e h
   | some a =>
     rw[hi]at h;simp only at h ⊢;split at h
     .rename_i n h1;obtain⟨s1,g,p⟩:=mT hr f l1 n (hg.step hr hi h1) e h;obtain⟨t,t1,t2⟩:=YX hr hg h0 hi f he h1 g;exact⟨t,t1,by rw[t2];exact p⟩
     .cases h
def iR(n:Nat)(listed:Array Bool):G5:=(List.range n).filter fun i=>!listed.getD i true
def oJ{n:Nat}{i:Nat}:i ∈ iR n listed↔i<n/\listed.getD i true=false:=by
 unfold iR;rw[Q4,V0];simp
def BX(n:Nat)(listed:Array Bool):(iR n listed).Pairwise (· < ·):=List.Pairwise.filter _ List.pairwise_lt_range
def UN{n:Nat}{i:Nat}{l1 l2:G5}(hi:i<listed.size)(h:iR n listed=l1++i::l2):iR n (listed.setIfInBounds i true)=l1++l2:=by
 have hp:=BX n listed;rw[h]at hp;have b:∀ k ∈ l1++l2,(k != i)=true:=fun k a=>by
  have hp:=List.pairwise_append.1 hp;rcases B6.1 a with a|a
  .have:=hp.2.2 k a i B1;simp;omega
  .have:=(List.pairwise_cons.1 hp.2.1).1 k a;simp;omega
 have e:iR n (listed.setIfInBounds i true)=(iR n listed).filter fun k=>k != i:=by
  unfold iR;rw[List.filter_filter];apply List.filter_congr;intro k _;simp only[B5,F3];by_cases e:i=k
  .subst e;simp[hi]
  .simp[e,Ne.symm e]
 rw[e,h,List.filter_append,List.filter_cons];have f:(i != i)=false:=by simp
 rw[f];simp only[I6,if_false];rw[cF.2 fun k a=>b k (B6.2 (.inl a)),cF.2 fun k a=>b k (B6.2 (.inr a))]
def zN{ops:Array Oper}(hr:jH ops.toList=true){Q:Exit->Act->World->Prop}:∀ (fuel:Nat) (listed:Array Bool) (a:Act) (w:World) (r:Act×World),listed.size=ops.size->JB P ops.toList (a,w)->(iR ops.size listed).length=fuel->BV P ops.toList (iR ops.size listed) (a,w)=some r->Q .normal r.1 r.2->fY P rd .any ops Q fuel listed a w
 | 0,listed,a,w,r,hsz,hg,hl,h,hq=>by
   have h0:=F6.1 hl;rw[h0]at h;cases h;refine⟨?_,hq⟩;rw[aM];intro i hi;have:i ∈ iR ops.size listed:=by
    unfold Region.ready at hi;rw[Q4]at hi;unfold iR;rw[Q4];exact⟨hi.1,(B3 hi.2).1⟩
   rw[h0]at this;cases this
 | fuel+1,listed,a,w,r,hsz,hg,hl,h,hq=>by
   have j:∀ {i:Nat},i<ops.size->∃ o,ops.toList[i]? = some o/\ops[i]? = some o:=fun{i} hi=>⟨ops[i],by simp[hi],by simp[hi]⟩
   refine⟨fun I=>?_,fun i hi=>?_⟩
   ·
    cases g:iR ops.size listed with
    | nil=>rw[g]at hl;cases hl
    | cons i t =>
      exfalso;have F:i ∈ iR ops.size listed:=by rw[g];exact B1
      obtain⟨i1,i2⟩:=oJ.1 F;obtain⟨o,u,z⟩:=j i1;have A:=lH hr u;have f:=BX ops.size listed;rw[g]at f;have s:∀ k,k<i->listed.getD k false=true:=fun k G=>by
       have p:k<listed.size:=A2;cases hv:listed.getD k true with
       | true=>rw[<- hv];simp[B5,p]
       | false =>
         have:k ∈ iR ops.size listed:=oJ.2 ⟨A2,hv⟩;rw[g]at this;rcases B4.1 this with e|hm
         .omega
         .have:=(List.pairwise_cons.1 f).1 k hm;omega
      have:i ∈ Region.ready .any ops listed:=by
       unfold Region.ready;rw[Q4,V0];refine⟨i1,?_⟩;rw[i2,z];simp only[Bool.not_false,Bool.true_and,K2,aJ];rw[dX];intro e he;cases K:Region.binds .any e with
       | false=>rfl
       | true=>rw[s e.on (A.lt e he K)];rfl
      rw[I]at this;cases this
   .have hi':=hi;unfold Region.ready at hi;rw[Q4,V0]at hi;obtain⟨i1,i2⟩:=hi;obtain⟨o,u,z⟩:=j i1;have A:=lH hr u;rw[z]at i2;obtain⟨i2,i3⟩:=B3 i2;simp only[K2,aJ]at i3;have D:listed.getD i true=false:=by simpa using i2
    have x:i ∈ iR ops.size listed:=oJ.2 ⟨i1,D⟩;obtain⟨l1,l2,b⟩:=List.append_of_mem x;have f:=BX ops.size listed;rw[b]at f;have B:∀ k ∈ l1,k<i/\pZ o k=false:=fun k G=>by
     refine⟨(List.pairwise_append.1 f).2.2 k G i B1,?_⟩;cases he:pZ o k with
     | false=>rfl
     | true =>
       exfalso;unfold pZ at he;rw[Array.any_eq_true']at he;obtain⟨e,hm,he⟩:=he;obtain⟨J,C⟩:=B3 he;have C:=A0 C
       have:=(dX.1 i3) e hm;rw[J,C]at this;simp only[P1,P2]at this;have p:=(oJ (n:=ops.size) (listed:=listed) (i:=k)).1 (by rw[b];exact B6.2 (.inl G));have E:k<listed.size:=A2;have q:=p.2;simp[B5,E]at this q;rw[this]at q;cases q
    rw[b]at h;obtain⟨s1,H,M⟩:=mT hr u l1 (a,w) hg B h;have V9:=UN (n:=ops.size) (listed:=listed) (i:=i) (l1:=l1) (l2:=l2) A2 b;obtain⟨L,w1⟩:=s1;unfold eZ;rw[z];simp only;have hw:Region.wanted o (yielded ops a.tmps)=true:=by unfold Region.wanted;rw[A.grd]
    rw[A9 hw];refine A0W A.cls H (zN hr fuel (listed.setIfInBounds i true) L w1 r (by simpa using hsz) (hg.step hr u H) ?_ (by rw[V9];exact M) hq);rw[V9];have:(l1++i::l2).length=fuel+1:=by rw[<- b];exact hl
    simp at this ⊢;omega
def zC{ops:Array Oper}(hr:jH ops.toList=true){Q:Exit->Act->World->Prop}:∀ (d k:Nat) (a:Act) (w:World),k+d=ops.size->wpL P rd ops (fun e a' w'=>e=.normal/\Q e a' w') (ops.toList.drop k) a w->∃ r,BV P ops.toList (List.range' k d) (a,w)=some r/\Q .normal r.1 r.2
 | 0,k,a,w,hk,h=>by
   have:ops.toList.drop k=[]:=O1 (by simp;omega);rw[this]at h;exact⟨(a,w),rfl,h.2⟩
 | d+1,k,a,w,hk,h=>by
   have b:k<ops.toList.length:=by simp;omega
   rw[Z0 b]at h;have f:=lH hr (A5 b);unfold wpL at h;have hw:Region.wanted ops.toList[k] (yielded ops a.tmps)=true:=by unfold Region.wanted;rw[f.grd]
   rw[A9 hw]at h;obtain⟨a',w',h1,g⟩:=A1s f.cls (fun c a w hh=>by cases hh.1) h;obtain⟨r,r1,i⟩:=zC hr d (k+1) a' w' A2 g;refine⟨r,?_,i⟩;rw[List.range'_succ];simp only[BV,A5 b,h1];exact r1
def A0u{ops:Array Oper}(hr:jH ops.toList=true){Q:Exit->Act->World->Prop}{a:Act}{w:World}(b:∀ w',w'.heap=w.heap->JB P ops.toList (a,w'))(h:∀ d,wpL P rd ops (fun e a' w'=>e=.normal/\Q e a' w') ops.toList a { w with drawn:=d })(d:Nat):fY P rd .any ops Q ops.size (Array.replicate ops.size false) a { w with drawn:=d }:=by
 obtain⟨r,r1,f⟩:=zC hr ops.size 0 a { w with drawn:=d } A2 (by simpa using h d);have e:iR ops.size (Array.replicate ops.size false)=List.range' 0 ops.size:=by
  unfold iR;rw[List.range_eq_range',cF];intro i hi;have:i<ops.size:=by have:=List.mem_range'.1 hi;omega
  simp[B5,this]
 exact zN hr ops.size _ a _ r (by simp) (b _ rfl) (by rw[e];simp) (by rw[e];exact r1) f
end
end
end Go.Sx
