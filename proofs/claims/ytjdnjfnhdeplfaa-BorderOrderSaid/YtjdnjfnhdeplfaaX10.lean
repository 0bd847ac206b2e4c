import Derived.Test.YtjdnjfnhdeplfaaX9
import Derived.Shelf.SlSortCmp.NoneTotal
import Derived.Test.YtjdnjfnhdeplfaaProg
import Derived.Shelf.SlGeneric
import Derived.Shelf.Small.Bits
import Derived.Shelf.Small.Wraps
import Derived.Shelf.Strconv.Itoa0
import Derived.Ground.Names2Prog
import Derived.Shelf.Slices.SearchI
import Derived.Ground.SlsfProg
import Derived.WalkKit
set_option linter.all false
set_option maxRecDepth 100000
set_option maxHeartbeats 4000000
namespace Go.Sx
open Go
variable {sl':O4}{v v':Value}{b i s t:Nat}{xs:Array Operand}{tys:Array TypeId}{args:R3}{u:U}{os:Array Obj}{bl' bl0:K4}
section
open Go
def rI{p:PB}{l:Loc}{k:Nat}:Tc p.raw l k↔TcP p l k:=by
 cases p<;>simp[Tc,TcP,PB.raw,PB.rw,AB.on]
section
variable {D:List Deferred} {P:Program} {G:Nat->Option Obj} {base nt:Nat} {ρ:Ren} {sl:O4} {bl:K4} {us:List U} {a:Act} {w w':World}
def F1.world(h:F1 D P G base nt ρ sl bl us a w)(hk:∀ x ∈ bl,∀ l k,ρ x.1=some l->TcP x.2 l k->w'.heap[k]? = w.heap[k]?):F1 D P G base nt ρ sl bl us a w' :=
 ⟨h.size,h.defers,h.fr,fun x f=>by
  obtain⟨l,h1,m⟩:=h.mb x f;refine⟨l,h1,fun F n=>?_⟩;letI O:Ora:=⟨F,G⟩;exact BR.mono (fun _ _ h=>h) (fun k e=>hk x f l k h1 (rI.1 e)) (m F n),h.own⟩
def F1.tc(h:F1 D P G base nt ρ sl bl us a w){x:Nat×PB}(p:x ∈ bl){l:Loc}(f:ρ x.1=some l){k:Nat}(n:TcP x.2 l k):k<w.heap.size:=by
 obtain⟨l2,h1,e⟩:=h.mb x p;rw[f]at h1;cases h1;letI O:Ora:=⟨gE us,G⟩;exact BR.tc (e (gE us) fun j u m=>by simp[gE,m]) (rI.2 n)
def F1.less(h:F1 D P G base nt ρ sl bl us a w)(e:∀ x ∈ sl',x ∈ sl):F1 D P G base nt ρ sl' bl us a w:=⟨h.size,h.defers,fun F f x m=>h.fr F f x (e x m),h.mb,h.own⟩
def F1.more(h:F1 D P G base nt ρ sl bl us a w)(vs:List U):F1 D P G base nt ρ sl bl (us++vs) a w:=by
 have e:∀ F,Q6 (us++vs) F->Q6 us F:=fun F f i u hi=>f i u (by rw[E8 (A9.1 hi).1];exact hi)
 exact⟨h.size,h.defers,fun F f=>h.fr F (e F f),fun x n=>by
  obtain⟨l,h1,m⟩:=h.mb x n;exact⟨l,h1,fun F f=>m F (e F f)⟩,h.own⟩
def F1.put(h:F1 D P G base nt ρ sl bl us a w){d:Nat}(n:∀ x ∈ sl,x.1≠d):F1 D P G base nt ρ sl bl us (a.put (some d) v) w:=by
 refine⟨by simpa [Act.put]using h.size,h.defers,fun F p x m=>?_,h.mb,h.own⟩
 have:=h.fr F p x m;have e:(a.put (some d) v).tmps.getD x.1 undef=a.tmps.getD x.1 undef:=by
  have f:d≠x.1:=fun e=>n x m e.symm
  simp[Act.put,B1,D1,f]
 rw[e];exact this
def F1.with(h:F1 D P G base nt ρ sl bl us a w){d:Nat}{v0 v:Value}(r:d<nt)(q:∀ x ∈ sl,x.1≠d)(y:∀ F,Q6 us F->@VR ⟨F,G⟩ ρ v0 v):F1 D P G base nt ρ ((d,v0)::sl) bl us (a.put (some d) v) w:=by
 have f:=h.put (v:=v) q;refine⟨f.size,f.defers,fun F p x n=>?_,f.mb,f.own⟩;rcases A8.1 n with rfl|n
 .have e:(a.put (some d) v).tmps.getD d undef=v:=by
   have m:d<a.tmps.size:=by rw[h.size];exact r
   simp[Act.put,B1,D1,m]
  rw[e];exact y F p
 .exact f.fr F p x n
def F1.alloc(h:F1 D P G base nt ρ sl bl us a w)(o:Obj):F1 D P G base nt ρ sl bl us a (w.alloc o) :=
 h.world fun x m l k e f=>(MapKept.heap_alloc w o).2 k (h.tc m e f)
def F1.drew(h:F1 D P G base nt ρ sl bl us a w):F1 D P G base nt ρ sl bl us a w.drew:=h.world fun x m l k e f=>rfl
end
def XF{y:MTy}{rows:List (List U)}{es:List MapEntry}(h:pZ y rows es)(r:(es.map (·.born)).Nodup) :
  ∃ g:MapEntry->List U,rows=es.map g/\∀ e ∈ es,(g e).map F3=y.ks++y.vs/\e.key=U2 y.ka ((g e).take y.ks.length)/\e.val=U2 y.va ((g e).drop y.ks.length):=by
 obtain⟨h1,q⟩:=h;have m:∀ (i:Nat) (e:MapEntry),es[i]? = some e->es.findIdx (fun x=>x.born == e.born)=i:=fun i e hi=>by
  obtain⟨f,he⟩:=A9.1 hi;refine(List.findIdx_eq f).2 ⟨by simp[he],fun j p=>?_⟩;have n:j<es.length:=Nat.lt_trans p f
  have:=(List.pairwise_iff_getElem.1 r) j i (by simpa using n) (by simpa using f) p;simp only[List.getElem_map]at this;rw[he]at this
  simpa using this
 refine⟨fun e=>rows.getD (es.findIdx fun x=>x.born == e.born) [],?_,fun e he=>?_⟩
 .apply X5;intro i;rw[F6];cases hi:es[i]? with
  | none=>rw[dI]at hi;simp only[gU];rw[dI];omega
  | some e =>
    simp only[I9,m i e hi];have f:i<rows.length:=by rw[h1];exact(A9.1 hi).1
    simp[B3,f]
 .obtain⟨i,hi⟩:=List.getElem?_of_mem he;have f:i<rows.length:=by rw[h1];exact(A9.1 hi).1
  have z:rows.getD (es.findIdx fun x=>x.born == e.born) []=rows[i]:=by rw[m i e hi];simp[B3,f]
  simp only[z];exact q i _ e (A3 f) hi
end
section
open Go
def u5{a:Act}{d:Nat}(e:d<a.tmps.size):(a.put (some d) v).eval (.tmp d)=v:=by
 simp[Act.put,Act.eval,e,B1]
def X8{a:Act}{d:Nat}(e:d≠t):(a.put (some d) v).eval (.tmp t)=a.eval (.tmp t):=by
 simp[Act.put,Act.eval,e,B1,D1]
def t8{a:Act}{d:Nat} :(a.put (some d) v).tmps.size=a.tmps.size:=by simp[Act.put]
def DX{P:Program}{rd:Option Nat}{Q:Exit->Act->World->Prop}{a:Act}{w:World}{i1 i2 R F d1 d2 t r b since L clock:Nat}{seen:Array Nat}{es:Array MapEntry}{ops1 ops2:Array Oper}{y q z:Oper}{rs:List Oper}{x:Code}
  (h1:ops1.toList=[y,q]) (W:ops2.toList=z::rs) (g1:y.guard=none) (g2:q.guard=none) (ge:z.guard=none) (p1:y.op=.next (.tmp t) false) (H:q.op=.extract (.tmp d1) 0) (S:z.op=.entry (.tmp t))
  (q1:y.dst=some d1) (q2:q.dst=some d2) (M:d1<a.tmps.size) (O:d2<a.tmps.size) (m1:d1≠t) (m2:d2≠t)
  (p:a.eval (.tmp t)=.pointer (some ⟨r,0,none⟩)) (hr:w.heap[r]? = some (.mapIter (some b) since seen L)) (N:w.heap[b]? = some (.map es clock)) (I:r≠b) (hold:∀ x ∈ es.toList,x.born<since) (B:since<=L) (Y:(es.toList.map (·.born)).Nodup)
  (m:(leftOf es seen).size=0->Q (.exit R) ((a.put (some d1) (.tuple #[.bool false])).put (some d2) (.bool false)) w)
  (f:∀ e ∈ (leftOf es seen).toList,∀ w1:World,(w1=w∨w1=w.drew)->wpL P rd ops2 (Exit.then (x.wpIn (fw rd) 0 P (Exit.inBlock F Q)) (Exit.inBlock F Q)) rs
    (((a.put (some d1) (.tuple #[.bool true,e.key,e.val])).put (some d2) (.bool true)).put z.dst (.tuple #[e.key,e.val])) (ChangeMaps.setBlock w1 r (.mapIter (some b) since (seen.push e.born) clock))) :
  (Code.seq (.region i1 ops1 false) (.seq (.cond (.tmp d2) .skip (.exit R)) (.block F (.seq (.region i2 ops2 false) x)))).wpIn (fw rd) 0 P Q a w:=by
 have ex:∀ (A:Act) (w1:World) (v:Value) (vs:Array Value) (C:Exit->Act->World->Prop),A.eval (.tmp d1)=.tuple vs->vs[0]? = some v->wpL P rd ops1 C [] (A.put (some d2) v) w1->wpL P rd ops1 C [q] A w1:=fun A w1 v vs C h3 X V=>by
  refine dZ (v:=v) g2 (by unfold Oper.about;rw[H]) (fun c=>by rw[H];exact fun h=>by cases h) ?_ (by rw[q2];exact V);unfold execOp;rw[H];simp[h3,X,Instr.extract,A4,Sem.run_pure,Result.andThen]
 refine wpIn_seq (R7 ?_);rw[h1];refine BT g1 p1 p hr N hold B (fun Z=>?_) fun e he w1 n=>?_
 .rw[q1];refine ex _ _ (.bool false) _ _ (u5 M) rfl ?_;refine wpIn_seq (wpIn_cond_false (u5 (by rw[t8];exact O)) (wpIn_exit ?_));exact m Z
 .rw[q1];refine ex _ _ (.bool true) _ _ (u5 M) rfl ?_;refine wpIn_seq (wpIn_cond_true (u5 (by rw[t8];exact O)) (wpIn_skip ?_));refine wpIn_block (wpIn_seq (R7 ?_));rw[W];have K:w1.heap[r]? = some (.mapIter (some b) since seen L):=by rcases n with rfl|rfl<;>exact hr
  have E:w1.heap[b]? = some (.map es clock):=by rcases n with rfl|rfl<;>exact N
  have J:r<w1.heap.size:=(B7.1 K).1;refine wJ (r:=r) (b:=b) (since:=since) (clock:=clock) (seen:=seen) (es:=es) (e:=e) ge S ?_ ?_ ?_ (mem_left he).1 Y (f e he w1 n)
  .rw[X8 m2,X8 m1];exact p
  .simp[ChangeMaps.setBlock,J]
  .simp[ChangeMaps.setBlock,D1,I];exact E
#print axioms DX
open Go Go.Sort Go.Proofs
section
variable {P:Program} {rd:Option Nat} {ops:Array Oper} {o:Oper} {rest:List Oper} {a:Act} {w:World} {Q:Exit->Act->World->Prop}
def sJ{f:FuncId}(q:o.guard=none)(m:o.op=.call ⟨.value (.func f),xs,tys⟩)(y:xs.map a.eval=args)(he:(callFunc f args).run P w=.ok (.enter f args) w)
  (r:Calls P f args w fun e w'=>∃ v,e=.returned v/\wpL P rd ops Q rest (a.put o.dst v) w'):wpL P rd ops Q (o::rest) a w:=by
 refine mK fun K x=>?_
 rw[B2 (by simp[Region.wanted,q])];unfold wpO Oper.wpIn;refine⟨fun _ _=>trivial,?_⟩;have p:(execOp a.eval o).run P w=(callFunc f args).run P w:=by
  subst y;unfold execOp;rw[m];simp only[resolve,Act.eval,Deferred.ofValue,pure_bind,invoke];simp
 rw[Oper.semAt_eq _ _ _ (fun c=>by rw[m];exact fun h=>by cases h),p,he,Oper.uponIn_enter];refine⟨eW,aB.2 (r.mono fun e w' ⟨v,h1,n⟩=>?_)⟩;subst h1;exact x _ _ n
end
section
variable {P:Program} {ρ:Ren} {α:Type} [Inhabited α] {encU:α->List U} {k:Nat} {d d':Array α} {T:TypeId} {g:Nat} {l:Loc} {w:World}
def cW(encU:α->List U)(x:α):D0:=(encU x).map P8
def PC(h:toV u=some v):P8 u=v:=by simp[P8,h]
def A11{G:Nat->Option Obj}(h:Enc G u v)(hu:toV u=some v'):v=v':=by
 cases h with
 | sc h=>rw[hu]at h;exact(A5 h).symm
 | nil=>cases hu
 | emp=>cases hu
 | sl=>cases hu
def KU(hk:∀ x,(encU x).length=k)(z:∀ x,∀ u ∈ encU x,∃ v,toV u=some v){r:Nat}{x:U}{row:List U}(hr:(d.toList.map encU)[r]? = some row)(m:row[i]? = some x)(n:toV x=some v):(cW encU d[r]!)[i]! = v:=by
 rw[F6]at hr;obtain⟨y,f,rfl⟩:=Option.map_eq_some_iff.1 hr;have e:r<d.size:=by have:=(A9.1 f).1;simpa using this
 have p:d[r]! = y:=by
  rw[getElem!_pos d r e];have:d.toList[r]? = some d[r]:=by simp[e]
  rw[f]at this;exact(A5 this).symm
 rw[p];have q:=(A9.1 m).1;have:(cW encU y)[i]? = some v:=by
  unfold cW;rw[F6,m];simp[PC n]
 simp[this]
def PS(hk:∀ x,(encU x).length=k)(A:∀ x,∀ u ∈ encU x,∃ v,toV u=some v)[Ora](h:SqR P ρ (.seq false k (d.toList.map encU)) (10+k) T g false l w)(p:l.on=true) :
  HoldsK (cW encU) k w l.blk l.sh d/\d.size=l.len/\l.len<=l.cap/\l.blk<w.heap.size:=by
 obtain⟨wd,inf,h1,z,h3,m⟩:=SqR.ex h;have r:wd=k:=A6;subst r;rcases m with⟨m,_⟩|⟨_,m⟩
 .rw[p]at m;cases m
 obtain⟨C,fz,J,rows,lg,q1,q2,q3,q4,q5,q6,q7,q8,q9⟩:=m;cases q2;obtain⟨q9,q10⟩:=q9 rfl;have hlen:d.size=l.len:=by rw[<- q3];simp
 refine⟨fun j n=>?_,hlen,q4,(B7.1 q1).1⟩;rw[size_flatK]at n;have H:0<wd:=by
  rcases O1 wd with h|h
  .subst h;simp at n
  .exact h
 have E:j / wd*wd+j%wd=j:=by rw[V5];exact gV j wd
 have hr:j / wd<d.size:=Nat.div_lt_of_lt_mul (by rw[V5];exact n);have hm:j%wd<wd:=gJ _ H;have B:d.size*wd<=l.cap*wd:=E7 _ A6;have e:l.sh+j<C.size:=A6;have f:(d.toList.map encU)[j / wd]? = some (encU d[j / wd]!):=by
  rw[F6,getElem!_pos d _ hr];simp[hr]
 obtain⟨x,q⟩:∃ x,(encU d[j / wd]!)[j%wd]? = some x:=⟨_,A3 (by rw[hk];exact hm)⟩;obtain⟨v,y⟩:=A _ x (D8 q);have he:=q8 (j / wd) _ (j%wd) x (C[l.sh+j]'e) f q (by rw[i5,E];exact E4 e);have I:=A11 he y;have F:=KU hk A f q y;constructor
 .rw[get_flatK _ _ _ _ n,F,id];simp only[World.cell?,q1,Option.isSome_none,G4,if_false];rw[E4 e,I]
 .simp only[World.frozen?,q1]
  have:=q10 (l.sh+j) e;by_cases h1:fz.1<=l.sh+j
  .have:¬ l.sh+j<fz.2:=fun z=>this ⟨h1,z⟩
   simp[this]
  .simp[h1]
def bC(n:Nat)(os:Array Obj)(b s:Nat)(m:b<w.heap.size):(sortWorldK (cW encU) k w b s n d' os).heap[b]? = (w.heap[b]?).map (onCells (putCells id s (flatK (cW encU) k d'))) /\
  (∀ j,j<w.heap.size->j≠b->(sortWorldK (cW encU) k w b s n d' os).heap[j]? = w.heap[j]?)/\w.heap.size<=(sortWorldK (cW encU) k w b s n d' os).heap.size /\
  (sortWorldK (cW encU) k w b s n d' os).os=w.os/\(sortWorldK (cW encU) k w b s n d' os).tape=w.tape/\(sortWorldK (cW encU) k w b s n d' os).output=w.output:=by
 have e:(sortWorldK (cW encU) k w b s n d' os).heap=w.heap.modify b (onCells (putCells id s (flatK (cW encU) k d')))++os:=rfl;refine⟨?_,fun j p f=>?_,?_,rfl,rfl,rfl⟩
 .rw[e,J3 (by simpa using m),F4,B2 rfl]
 .rw[e,J3 (by simpa using p),F4,B0 (fun h=>f h.symm)]
 .rw[e];simp
def wR(hk:∀ x,(encU x).length=k)(H:∀ x,∀ u ∈ encU x,∃ v,toV u=some v)[Ora]{n:Nat}(h:SqR P ρ (.seq false k (d.toList.map encU)) (10+k) T g false l w)(f:l.on=true)(K:d'.size=d.size) :
  SqR P ρ (.seq false k (d'.toList.map encU)) (10+k) T g false l (sortWorldK (cW encU) k w l.blk l.sh n d' os):=by
 obtain⟨wd,inf,h1,L,h3,e⟩:=SqR.ex h;have E:wd=k:=A6;subst E;rcases e with⟨e,_⟩|⟨_,e⟩
 .rw[f]at e;cases e
 obtain⟨C,fz,N,rows,lg,q1,q2,q3,q4,q5,q6,q7,q8,q9⟩:=e;cases q2;obtain⟨q9,q10⟩:=q9 rfl;subst q9;have B:=(B7.1 q1).1;obtain⟨S,-⟩:=bC (encU:=encU) (k:=wd) (d':=d') n os l.blk l.sh B;have hlen:d'.size=l.len:=by rw[K,<- q3];simp
 refine⟨⟨wd,inf,rfl,L,h3,.inr ⟨f,putCells id l.sh (flatK (cW encU) wd d') C,fz,N,_,lg,?_,rfl,by simpa using hlen,q4,by simpa [putCells]using q5,fun row m=>?_,q7,?_,fun _=>⟨rfl,fun i hi=>q10 i (by simpa [putCells]using hi)⟩⟩⟩⟩
 .rw[S,q1];rfl
 .obtain⟨x,_,rfl⟩:=I5.1 m;exact hk x
 .intro r row j x v hr A q;have F:r<d'.size:=by have:=(A9.1 hr).1;simpa using this
  obtain⟨y,V,rfl⟩:=I5.1 (D8 hr);have R:j<wd:=by have:=(A9.1 A).1;rwa[hk]at this
  obtain⟨v',p⟩:=H _ x (D8 A);have hm:r*wd+wd<=d'.size*wd:=by
   have:=E7 wd (show r+1<=d'.size from F);rwa[G8,dW]at this
  have z:r*wd+j<d'.size*wd:=A6;have J:d'.size*wd<=l.cap*wd:=E7 _ A6;have I:(r*wd+j) / wd=r:=(blk_iff wd r _ A6).1 ⟨A6,A6⟩;have O:(r*wd+j)%wd=j:=by rw[Nat.mod_eq_sub_div_mul,I];omega
  have M:v=v':=by
   simp only[putCells,Array.getElem?_mapIdx]at q;rw[E4 (show l.sh+r*wd+j<C.size by omega),I9,B2 ⟨A6,by rw[size_flatK];omega⟩,show l.sh+r*wd+j-l.sh=r*wd+j by omega,get_flatK _ _ _ _ z,I,O,KU hk H hr A p,id]at q;exact(A5 q).symm
  rw[M];exact .sc p
end
#print axioms wR
#print axioms sJ
end
section
open Go Go.Sort Go.Proofs
section
variable {P:Program} {rd:Option Nat} {ops:Array Oper} {o:Oper} {rest:List Oper} {a:Act} {w:World} {Q:Exit->Act->World->Prop}
def OV{x:Operand}{t:TypeId}(m:o.guard=none)(e:o.op=.load t x)(q:a.eval x=.pointer (some ⟨b,s,none⟩))(n:Z7 P t=some false)(p:w.cell? ⟨b,s,none⟩=some v)
  (h:wpL P rd ops Q rest (a.put o.dst v) w):wpL P rd ops Q (o::rest) a w:=by
 letI O:Ora:=⟨fun _=>.none,fun _=>none⟩
 have f:=t6 n w;refine dZ (v:=v) (w':=w) m (by unfold Oper.about;rw[e]) (fun c=>by rw[e];exact fun h=>by cases h) ?_ h;unfold execOp;rw[e];simp[q,Instr.loadAt,Instr.sureAddr,loadVar,A4,Result.andThen,run_load,f,p]
end
def l8.of{P:Program}{G:Nat->Option Obj}{base gl n0 nB e nt:Nat}{H0:Hp AB}{L p:K0}{w:World}{ρs:Ren}{n:Nat->Prop}(g:l8 P G base gl n0 nB nt H0 L w ρs n)(f:p.ok gl n0 e nt=true):l8 P G base gl n0 e nt H0 p w ρs n:=by
 obtain⟨y,x,r,q,o5⟩:=bV f;exact⟨g.nt5,g.nt0,x,r,q,fun X m=>(o5 X m).1,fun X m=>(o5 X m).2,g.bs,g.gf,g.sa,g.ko⟩
section
variable {D:List Deferred} {P:Program} {G:Nat->Option Obj} {base nt:Nat} {ρ ρ':Ren} {sl:O4} {bl:K4} {us:List U} {a:Act} {w w':World}
def F1.sub(h:F1 D P G base nt ρ sl bl us a w)(H:∀ x ∈ sl',x ∈ sl)(C:∀ x ∈ bl',∃ y ∈ bl,y.1=x.1/\y.2.raw=x.2.raw):F1 D P G base nt ρ sl' bl' us a w:=by
 have r:∀ p q:PB,p.raw=q.raw->p.rw=q.rw:=fun p q h=>by
  cases p<;>cases q<;>first|rfl|cases h
 refine⟨h.size,h.defers,fun F J x e=>h.fr F J x (H x e),fun x e=>?_,fun x e hw l M m=>?_⟩
 .obtain⟨y,A,f,E⟩:=C x e;rw[<- f,<- E];exact h.mb y A
 .obtain⟨y,A,f,E⟩:=C x e;obtain⟨K,O⟩:=h.own y A (by rw[r _ _ E];exact hw) l (by rw[f];exact M) m;refine⟨K,fun z N l2 n I=>?_⟩;obtain⟨L,B,f1,f2⟩:=C z N;rw[<- f1,<- f];exact O L B l2 (by rw[f1];exact n) (by rw[<- rI,f2,rI];exact I)
def F1.ren(h:F1 D P G base nt ρ sl bl us a w){S:Nat->Bool}(B:∀ x ∈ sl,Z5 S DEP x.2=true/\L6 0 idN DEP x.2=x.2)(m:∀ x ∈ bl,(x.2.names S=true/\x.2.ab 0 idN=x.2.raw)/\S x.1=true)
  (e:∀ b,S b=true->ρ' b=ρ b):F1 D P G base nt ρ' sl bl us a w:=by
 refine⟨h.size,h.defers,fun F r x f=>?_,fun x f=>?_,fun x f hw l n p=>?_⟩
 .obtain⟨h1,z⟩:=B x f
  have:=y4 (G:=G) (E:=F) (F:=F) (ρ:=ρ) (ρ2:=ρ') (S:=S) (nx:=0) (τ:=idN) (fun b l m n=>by show ρ' b=_;rw[e b m];exact n) (fun i=>by rw[E1]) DEP x.2 _ h1 (h.fr F r x f);rw[z]at this;exact this
 .obtain⟨⟨h1,z⟩,h3⟩:=m x f;obtain⟨l,K,I⟩:=h.mb x f;refine⟨l,by rw[e _ h3];exact K,fun F r=>?_⟩
  have:=oQ (P:=P) (G:=G) (E:=F) (F:=F) (ρ:=ρ) (ρ2:=ρ') (S:=S) (nx:=0) (τ:=idN) (fun b l m n=>by show ρ' b=_;rw[e b m];exact n) (fun i=>by rw[E1]) (I F r) h1;rw[z]at this;exact this
 .rw[e _ (m x f).2]at n;obtain⟨H,J⟩:=h.own x f hw l n p;exact⟨H,fun y A l2 q C=>J y A l2 (by rw[<- e _ (m y A).2];exact q) C⟩
def J8(r:Nat)(o:Obj):Loc:=⟨r,0,0,0,fun k=>if k=r then some o else none,true⟩
def X0(ρ:Ren)(b:Nat)(l:Option Loc):Ren:=fun x=>if x=b then l else ρ x
def M5{ρ:Ren}{x:Nat}{l:Option Loc}(h:x≠b):X0 ρ b l x=ρ x:=B0 h
def S1{ρ:Ren}{l:Option Loc}:X0 ρ b l b=l:=B2 rfl
def F1.keep{r:Nat}{o:Obj}(h:F1 D P G base nt (X0 ρ b (some (J8 r o))) sl bl us a w)(J:∀ x ∈ bl,x.1≠b)(hr:w.heap[r]? = some o)(A:base<=r)(z:∀ x ∈ bl,∀ l,ρ x.1=some l->¬ TcP x.2 l r)
  (H:a.tmps.getD t undef=.pointer (some ⟨r,0,none⟩)):F1 D P G base nt (X0 ρ b (some (J8 r o))) ((t,.pointer (some ⟨b,0,none⟩))::sl) ((b,.iter [])::bl) us a w:=by
 have hk:∀ {x:Nat×PB},x ∈ bl->∀ {l:Loc},X0 ρ b (some (J8 r o)) x.1=some l->ρ x.1=some l:=fun{x} m {l} n=>by rw[M5 (J x m)]at n;exact n
 refine⟨h.size,h.defers,fun F E x m=>?_,fun x m=>?_,fun x m hw l n B=>?_⟩
 .rcases A8.1 m with rfl|m
  .show @VR ⟨F,G⟩ _ _ (a.tmps.getD t undef);rw[H];have e:(.pointer (some ⟨r,0,none⟩):Value)=.pointer (some ⟨(J8 r o).blk,0+(J8 r o).sh,none⟩):=rfl;rw[e];exact @VR.ptr ⟨F,G⟩ _ _ _ _ S1
  .exact h.fr F E x m
 .rcases A8.1 m with rfl|m
  .exact⟨J8 r o,S1,fun F E=>⟨⟨rfl,rfl⟩,.inr ⟨rfl,o,B2 rfl,hr⟩⟩⟩
  .exact h.mb x m
 .rcases A8.1 m with rfl|m
  .have:l=J8 r o:=by
    have n:X0 ρ b (some (J8 r o)) b=some l:=n;rw[S1]at n;exact(A5 n).symm
   subst this;refine⟨A,fun y q l2 f p=>?_⟩;rcases A8.1 q with rfl|q
   .rfl
   .exact absurd p (z y q l2 (hk q f))
  .obtain⟨I,K⟩:=h.own x m hw l n B;refine⟨I,fun y q l2 f p=>?_⟩;rcases A8.1 q with rfl|q
   .have:l2=J8 r o:=by
     have f:X0 ρ b (some (J8 r o)) b=some l2:=f;rw[S1]at f;exact(A5 f).symm
    subst this;rcases p with⟨_,_,C⟩|⟨C,_⟩
    .exact absurd (.inl ⟨hw,B,C.symm⟩) (z x m l (hk m n))
    .cases C
   .exact K y q l2 f p
def F1.kept(h:F1 D P G base nt ρ sl bl us a w)(A:(b,PB.iter []) ∈ bl)(y:(t,(.pointer (some ⟨b,0,none⟩):Value)) ∈ sl){r:Nat}{o:Obj}(x:ρ b=some (J8 r o)):w.heap[r]? = some o/\a.tmps.getD t undef=.pointer (some ⟨r,0,none⟩):=by
 obtain⟨l,p,C⟩:=h.mb _ A;have p:ρ b=some l:=p;rw[x]at p;cases p;have f:Q6 us (gE us):=fun j u B=>by simp[gE,B]
 obtain⟨_,h3⟩:=C (gE us) f;constructor
 .rcases h3 with⟨s,n,_,e⟩|⟨_,E,e,z⟩
  .exact absurd e.1 (by simp)
  .have e:(if r=r then some o else none)=some E:=e;rw[B2 rfl]at e;cases e;exact z
 .have:=h.fr (gE us) f _ y;obtain⟨l2,m,_,q⟩:=@L8 ⟨gE us,G⟩ _ _ _ this;have m:ρ b=some l2:=m;rw[x]at m;cases m;have q:a.tmps.getD t undef=.pointer (some ⟨r,0+0,none⟩):=q;exact q
def F1.sorted{α:Type}[Inhabited α]{encU:α->List U}{k g n:Nat}{T:TypeId}{d d':Array α}{l:Loc}(h:F1 D P G base nt ρ [(t,Go.Sx.own b 0 (10+k))] ((b,.sq 0 (10+k) T g)::bl0) (.seq false k (d.toList.map encU)::us) a w)
  (h0:bl0=[(g,.frz)]) (hk:∀ x,(encU x).length=k) (Z:∀ x,∀ u ∈ encU x,∃ v,toV u=some v) (B:ρ b=some l) (f:l.on=true) (M:d'.size=d.size) :
  F1 D P G base nt ρ [(t,Go.Sx.own b 0 (10+k))] ((b,.sq 0 (10+k) T g)::bl0) (.seq false k (d'.toList.map encU)::us) a (sortWorldK (cW encU) k w l.blk l.sh n d' os):=by
 subst h0;have y:Q6 (.seq false k (d.toList.map encU)::us) (gE (.seq false k (d.toList.map encU)::us)):=fun j u W=>by simp[gE,W]
 obtain⟨l1,I,X⟩:=h.mb (b,.sq 0 (10+k) T g) (.head _);have I:ρ b=some l1:=I;rw[B]at I;cases I;have J:l.blk<w.heap.size:=h.tc (.head _) B (.inl ⟨rfl,f,rfl⟩);obtain⟨f1,f2,f3,f4,f5,f6⟩:=bC (w:=w) (encU:=encU) (k:=k) (d':=d') n os l.blk l.sh J;obtain⟨k1,k2⟩:=h.own (b,.sq 0 (10+k) T g) (.head _) rfl l B f;have r:∀ x ∈ [(g,PB.frz)],∀ l2 j,ρ x.1=some l2->TcP x.2 l2 j->(sortWorldK (cW encU) k w l.blk l.sh n d' os).heap[j]? = w.heap[j]? := fun x z l2 j m C=>by
  refine f2 j (h.tc (.tail _ z) m C) fun e=>?_
  subst e;rw[F7.1 z]at m C
  have:=k2 (g,.frz) (.tail _ (.head _)) l2 m C;have:g=b:=this;subst this;rcases C with⟨S,_⟩|⟨_,o,K⟩
  .cases S
  .rw[B]at m;cases m;obtain⟨Y,A,H⟩:=h.mb (g,.frz) (.tail _ (.head _));have A:ρ g=some Y:=A;rw[B]at A;cases A
   have:=(H _ y).1;rw[f]at this;cases this
 refine⟨h.size,h.defers,fun F E x z=>?_,fun x z=>?_,h.own⟩
 .have p:F 0=.seq false k (d'.toList.map encU):=E 0 _ rfl;rw[F7.1 z];obtain⟨q1,q2⟩:=@aF ⟨gE (.seq false k (d.toList.map encU)::us),G⟩ _ _ _ _ _ (h.fr _ y (t,Go.Sx.own b 0 (10+k)) (.head _));have hf:o9 (a.tmps.getD t undef)=true:=by
   rcases q1 with⟨_,_,_,_,_,q⟩|⟨_,_,_,_,_,_,_,_,q⟩<;>(rw[q];rfl)
  refine @VR.own ⟨F,G⟩ _ _ _ _ _ ?_ (by show F3 (F 0)=_;rw[p];rfl) hf;show HL ρ b (F 0) _;rw[p];rcases q1 with⟨l2,w2,r1,r2,_⟩|⟨l2,w2,rows,r1,r2,L,V,R,N⟩
  .rw[B]at r1;cases r1;rw[f]at r2;cases r2
  .refine .inr ⟨l2,k,_,r1,r2,rfl,?_,R,N⟩;have L:U.seq false k (d.toList.map encU)=.seq false w2 rows:=L;cases L;rw[<- V];simp[M]
 .rcases A8.1 z with rfl|z
  .refine⟨l,B,fun F E=>?_⟩;have p:F 0=.seq false k (d'.toList.map encU):=E 0 _ rfl;letI O:Ora:=⟨F,G⟩
   show SqR P ρ (F 0) (10+k) T g false l _;rw[p];refine wR hk Z ?_ f M
   have:=X (gE (.seq false k (d.toList.map encU)::us)) y;exact this
  .obtain⟨l2,A,H⟩:=h.mb x (.tail _ z);refine⟨l2,A,fun F E=>?_⟩;rw[F7.1 z]at A H ⊢;obtain⟨m1,m2⟩:=H _ y;exact⟨m1,fun j o K=>(r (g,.frz) (.head _) l2 j A (.inr ⟨rfl,o,K⟩)).trans (m2 j o K)⟩
end
end
section
open Go
section
variable {P:Program} {rd:Option Nat}
def ZP{ops:Array Oper}{Q:Exit->Act->World->Prop}(Inv:Array Bool->Act->World->Prop)(E:∀ (i:Nat) (o:Oper),ops[i]? = some o->∀ e ∈ o.after.toList,e.on<i)
  (step:∀ (listed:Array Bool) (a:Act) (w:World) (i:Nat) (o:Oper),listed.size=ops.size->Inv listed a w->ops[i]? = some o->listed.getD i false=false->(∀ e ∈ o.after.toList,Region.binds .any e=true->listed.getD e.on false=true)->m9 P rd ops Q i (Inv (listed.setIfInBounds i true)) a w)
  (f:∀ (listed:Array Bool) (a:Act) (w:World),Inv listed a w->(∀ i,i<ops.size->listed.getD i false=true)->Q .normal a w) :
  ∀ (fuel:Nat) (listed:Array Bool) (a:Act) (w:World),listed.size=ops.size->listed.toList.countP (fun b=>!b)=fuel->Inv listed a w->eA P rd .any ops Q fuel listed a w:=by
 letI O:Ora:=⟨fun _=>.none,fun _=>none⟩
 intro fuel;induction fuel with
 | zero =>
   intro listed a w p x inv;have r:∀ i,i<ops.size->listed.getD i false=true:=fun i hi=>by
    have:=uM x i (by simpa [p]using hi);have C:listed[i]? = some true:=by simpa using this
    simp[B1,C]
   refine⟨?_,f listed a w inv r⟩;rw[U8];intro j S;obtain⟨h1,o,C,_⟩:=mem_ready.1 S;have F:j<ops.size:=(B7.1 C).1;have h3:=r j F;have A:j<listed.size:=A6;simp[B1,A]at h1 h3;rw[h1]at h3;cases h3
 | succ fuel M =>
   intro listed a w p x inv;refine⟨fun J=>?_,fun i hi=>?_⟩
   .have key:∀ n i,i<n->i<ops.size->listed.getD i false=true:=by
     intro n;induction n with
     | zero=>intro i h;omega
     | succ n H =>
       intro i R B;by_cases h:i<n
       .exact H i h B
       .cases K:listed.getD i false with
        | true=>rfl
        | false =>
          exfalso;obtain⟨o,I⟩:∃ o,ops[i]? = some o:=⟨_,E4 B⟩;have q:i ∈ Region.ready .any ops listed:=mem_ready.2 ⟨by
           have A:i<listed.size:=A6;simp[B1,A]at K ⊢;exact K,o,I,fun e he L=>by
           have F:=E i o I e (by simpa using he);exact H e.on A6 A6⟩
          rw[J]at q;cases q
    exact f listed a w inv (fun i hi=>key (i+1) i (H9 i) hi)
   .obtain⟨h1,o,I,C⟩:=mem_ready.1 hi;have B:i<ops.size:=(B7.1 I).1;have m:i<listed.size:=A6;have z:listed.getD i false=false:=by
     simp[B1,m]at h1 ⊢;exact h1
    have y:(listed.setIfInBounds i true).toList.countP (fun b=>!b)=fuel:=by
     have N:listed.toList[i]? = some false:=by
      simp[B1,m]at z;simp[m,z]
     have:=pT listed.toList i N;rw[dF];omega
    exact sI (fun a' w' h=>M _ a' w' (by simpa using p) y h) (step listed a w i o p inv I z fun e he L=>C e (by simpa using he) L)
def sK{id:Nat}{ops:Array Oper}{Q:Exit->Act->World->Prop}{a:Act}{w:World}(hm:P.follows .mixedOrders=true)(Inv:Array Bool->Act->World->Prop)(m:∀ (i:Nat) (o:Oper),ops[i]? = some o->∀ e ∈ o.after.toList,e.on<i)
  (step:∀ (listed:Array Bool) (a:Act) (w:World) (i:Nat) (o:Oper),listed.size=ops.size->Inv listed a w->ops[i]? = some o->listed.getD i false=false->(∀ e ∈ o.after.toList,Region.binds .any e=true->listed.getD e.on false=true)->m9 P rd ops Q i (Inv (listed.setIfInBounds i true)) a w)
  (f:∀ (listed:Array Bool) (a:Act) (w:World),Inv listed a w->(∀ i,i<ops.size->listed.getD i false=true)->Q .normal a w) (h0:Inv (Array.replicate ops.size false) a { w with drawn:=w.drawn+1 }) :
  (Code.region id ops true).wpIn (fw rd) 0 P Q a w :=
 cC hm (ZP Inv m step f _ _ _ _ (by simp) (by simp[List.countP_replicate]) h0)
def c8{ops:Array Oper}{Q:Exit->Act->World->Prop}{o:Oper}{K:Act->World->Prop}{a:Act}{w w':World}(n:ops[i]? = some o)(q:o.guard=none)(e:o.about P w a.eval=none)(p:∀ c,o.op≠.defer c)
  (hr:(execOp a.eval o).run P w=.ok (.value v) w') (h:K (a.put o.dst v) w'):m9 P rd ops Q i K a w:=by
 unfold m9;simp only[n];rw[B2 (by simp[Region.wanted,q])];unfold wpO Oper.wpIn;refine⟨fun f m=>(by rw[e]at m;cases m),?_⟩;rw[Oper.semAt_eq _ _ _ p,hr];exact h
def lI{ops:Array Oper}{Q:Exit->Act->World->Prop}{o:Oper}{K:Act->World->Prop}{a:Act}{w:World}{f:FuncId}(y:ops[i]? = some o)(p:o.guard=none)(m:o.op=.call ⟨.value (.func f),xs,tys⟩)(x:xs.map a.eval=args)(he:(callFunc f args).run P w=.ok (.enter f args) w)
  (r:Calls P f args w fun e w'=>∃ v,e=.returned v/\K (a.put o.dst v) w'):m9 P rd ops Q i K a w:=by
 unfold m9;simp only[y];rw[B2 (by simp[Region.wanted,p])];unfold wpO Oper.wpIn;refine⟨fun _ _=>trivial,?_⟩;have n:(execOp a.eval o).run P w=(callFunc f args).run P w:=by
  subst x;unfold execOp;rw[m];simp only[resolve,Act.eval,Deferred.ofValue,pure_bind,invoke];simp
 rw[Oper.semAt_eq _ _ _ (fun c=>by rw[m];exact fun h=>by cases h),n,he,Oper.uponIn_enter];refine⟨eW,aB.2 (r.mono fun e w' ⟨v,h1,q⟩=>?_)⟩;subst h1;exact q
def calls_of_wp{f:FuncId}{fn:Func}{c:Code}{w:World}{R:Ending->World->Prop}(q:P.funcs[f]? = some fn)(p:fn.body=some c)
  (h:c.wpIn (fw none) 0 P (fun e a' w'=>(e=.normal∨e=.ret)/\a'.defers=[]/\LeavesInM (fw none) 0 P fn a'.tmps R [] .returning w') { tmps:=args++Array.replicate (fn.ntmps-args.size) undef,defers:=[] } w):Calls P f args w R:=by
 refine aB.1 (callsIn_of_wp_marks (F:=fw none) (n:=0) q p trivial ?_ rfl);refine wpIn_mono h fun e a' w' ⟨h1,m,h3⟩=>?_
 have h3:LeavesInM (fw none) 0 P fn a'.tmps R a'.defers .returning w':=by rw[m];exact h3
 rcases h1 with rfl|rfl
 .exact h3
 .exact h3
end
end
section
open Go
end
end Go.Sx
namespace Go.Proofs.Ytjdnjfnhdeplfaa
variable {c dc dr i j:Int}{b v:Bool}
section
open Go Go.Sx
def l1{c d:Bool}(k:c=d):[U.bool c]=[U.bool d]:=by rw[k]
def l0{d:Int}(k:c=d):[U.int .i64 c]=[U.int .i64 d]:=by rw[k]
def TA{α:Type}{p:α->Bool}{l:List α}(h:Y2 p l i=none):l.any p=false:=by
 induction l generalizing i with
 | nil=>rfl
 | cons a l e =>
   unfold Y2 at h;cases hp:p a with
   | true=>rw[hp]at h;cases h
   | false=>rw[hp]at h;rw[i6,hp,e h];rfl
def FB{α:Type}{p:α->Bool}{l:List α}(h:Y2 p l i=some j):l.any p=true/\i<=j:=by
 induction l generalizing i with
 | nil=>cases h
 | cons a l e =>
   unfold Y2 at h;cases hp:p a with
   | true=>rw[hp]at h;cases h;rw[i6,hp];exact⟨rfl,Int.le_refl _⟩
   | false=>rw[hp]at h;rw[i6,(e h).1,Bool.or_true];exact⟨rfl,by have:=(e h).2;omega⟩
open Go Go.Sx Go.Proofs.Try
def gl:Nat:=0
def n0:Nat:=0
def CV:List (Nat×List Value):=[]
def H0:Hp AB:=mkH CV
def KD:prog.follows .mixedOrders=true:=F8
def KC:BP prog:=by
 have h:(prog.funcs.toList.all fun fn=>!(fn.name == "runtime.NumGoroutine"))=true:=F8;intro f fn e;have h1:=D3.1 h fn (Array.mem_def.1 (Array.mem_of_getElem? e))
 simpa using h1
def A1o:List (FuncId×EK):=[]
def A2r:∀ p ∈ A1o,vG prog p.1 p.2:=by
 intro p hp;unfold A1o at hp;cases hp
noncomputable abbrev cx(l:List (FuncId×FnC))(e:List LpE):Cx:=⟨prog,A1o,gl,OB l,lpT e⟩
def cxg{G:Nat->Option Obj}{l:List (FuncId×FnC)}{e:List LpE}(h:dC prog G gl l)(k:dU prog G gl e):CxG (cx l e) G:=ZD KD KC A2r h k
abbrev A4u:=Int×Int×Int×Int×Int×Int×Int×List UInt8
abbrev A4v:=Option (List Int)
abbrev A4w:=List UInt8
abbrev l9(G:Nat->Option Obj):Prop:=j7 Try.prog G gl H0 n0
abbrev gH:={L:List (FuncId×FnC) // ∀ {G:Nat->Option Obj},l9 G->dC Try.prog G gl L}
def L0:List (FuncId×FnC):=[]
def rR:Rw (Int×Int×Int×Int×Bool):=rC (cY .i64) (rC (cY .i64) (rC (cY .i64) (rC (cY .i64) (r1 yS))))
def rK:Rw (Int×Int×Int):=rC (cY .i64) (rC (cY .i64) (r1 (cY .i64)))
def rM:Rw (Int×Int×Bool×Bool):=rC (cY .i64) (rC (cY .i64) (rC yS (r1 yS)))
def rN:Rw (Int×Int×Int×Bool):=rC (cY .u8) (rC (cY .u8) (rC (cY .u8) (r1 yS)))
abbrev Rt:=(Int×Int×Int×Int×Bool)
abbrev Mt:=(Int×Int×Bool×Bool)
abbrev Kt:=(Int×Int×Int)
def wB(a b c d:Bool):Int:=match a,b,c,d with
 | true,true,true,true=>0x253c
 | true,false,true,true=>0x2534
 | false,true,true,true=>0x252c
 | true,true,true,false=>0x2524
 | true,true,false,true=>0x251c
 | true,false,true,false=>0x2518
 | true,false,false,true=>0x2514
 | false,true,true,false=>0x2510
 | false,true,false,true=>0x250c
 | true,true,false,false=>0x2502
 | true,false,false,false=>0x2502
 | false,true,false,false=>0x2502
 | false,false,true,true=>0x2500
 | false,false,true,false=>0x2500
 | false,false,false,true=>0x2500
 | false,false,false,false=>0
def vP(r:Rt):Prop:=(if r.2.2.2.2=true then r.2.2.2.1=1 else r.2.2.1=1)/\0<=r.1/\0<=r.2.1/\1<=r.2.2.1/\1<=r.2.2.2.1/\r.1+r.2.2.1<=40/\r.2.1+r.2.2.2.1<=80
instance(r:Rt):Decidable (vP r):=by unfold vP;infer_instance
def MO{r:Rt}(h:r.2.2.2.2=true):vP r↔(r.2.2.2.1=1/\0<=r.1/\0<=r.2.1/\1<=r.2.2.1/\1<=r.2.2.2.1/\r.1+r.2.2.1<=40/\r.2.1+r.2.2.2.1<=80):=by unfold vP;rw[B2 h]
def MP{r:Rt}(h:r.2.2.2.2=false):vP r↔(r.2.2.1=1/\0<=r.1/\0<=r.2.1/\1<=r.2.2.1/\1<=r.2.2.2.1/\r.1+r.2.2.1<=40/\r.2.1+r.2.2.2.1<=80):=by unfold vP;rw[B0 (by rw[h];decide)]
def wD(r:Rt):Bool:=!decide (vP r)
def VV{r:Rt}(h:¬vP r):wD r=true:=by unfold wD;rw[L9 h];rfl
def VW{r:Rt}(h:vP r):wD r=false:=by unfold wD;rw[Q7 h];rfl
def EQ(x:Int):Prop := -9223372036854775808<=x/\x<=9223372036854775807
instance(x:Int):Decidable (EQ x):=by unfold EQ;infer_instance
def rOk(r:Rt):Prop:=EQ r.1/\EQ r.2.1/\EQ r.2.2.1/\EQ r.2.2.2.1
instance(r:Rt):Decidable (rOk r):=by unfold rOk;infer_instance
def rsP(l:List Rt):Prop:=l.length<=64/\∀ r ∈ l,vP r
instance(l:List Rt):Decidable (rsP l):=by unfold rsP;infer_instance
def fZ(l:List Rt):Int:=if rsP l then 0 else 450
def ZN{l:List Rt}(h:Y2 wD l 0=none):∀ g ∈ l,vP g:=fun g e=>by
 have:=TA h
 have:=(List.any_eq_false.1 this) g e;by_cases q:vP g
 .exact q
 .exact absurd (VV q) this
def ZM{l:List Rt}(h:Y2 wD l 0=some j):¬∀ g ∈ l,vP g:=fun k=>by
 obtain⟨g,h1,e⟩:=L1.1 (FB h).1;rw[VW (k g h1)]at e;cases e
noncomputable def A2F:gH:=⟨_,fun e=>.nil⟩
def uR:List U->Option (Nat×List U)
 | [.bool a,.bool b,.bool c,.bool d]=>some (0,[.int .i64 (wB a b c d)])
 | _=>none
def UG(a:Bool)(b:Bool)(c:Bool)(d:Bool):uR [.bool a,.bool b,.bool c,.bool d]=some (0,[.int .i64 (wB a b c d)]):=rfl
def UF:Tr:=.br 0 (.br 1 (.br 2 (.br 3 (.ret [jI 9532]) (.ret [jI 9508])) (.br 3 (.ret [jI 9500]) (.ret [jI 9474]))) (.br 2 (.br 3 (.ret [jI 9524]) (.ret [jI 9496])) (.br 3 (.ret [jI 9492]) (.ret [jI 9474])))) (.br 1 (.br 2 (.br 3 (.ret [jI 9516]) (.ret [jI 9488])) (.br 3 (.ret [jI 9484]) (.ret [jI 9474]))) (.br 2 (.br 3 (.ret [jI 9472]) (.ret [jI 9472])) (.br 3 (.ret [jI 9472]) (.ret [jI 0]))))
def UH{G}(e:l9 G):jO prog G 15 [.s 8,.s 8,.s 8,.s 8] uR [.s 3]:=by
 refine p8 (d:=60) UF (cxg (A2F.2 e) .nil) e ⟨f15,_,func15,rfl⟩ F8 F8 ?_;intro us outs f;unfold uR at f;split at f
 .skip;rename_i a b c d;cases f;unfold UF;refine w0 (.cons 3 _ (.cons 2 _ (.cons 1 _ (.cons 0 _ (.nil))))) ?_;repeat (first|refine w4 (fun g=>?_) fun g=>?_|refine w4B (fun g=>?_) fun g=>?_|(refine w7 [.int .i64 _] ?_;rotate_left))
  all_goals
   first|(simp_all;done)|(simp_all [wB];done)
 .cases f
noncomputable def A3z:gH:=⟨_,fun e=>.nil⟩
def qW:List U->Option (Nat×List U)
 | [u_l,.int .i64 n,.int .i64 i]=>(R2 rR u_l).bind fun l=>if n=((el l).length:Int)/\0<=i/\i<=n/\n<=140737488351232/\(∀ r ∈ el l,rOk r)then sL (Y2 wD ((el l).drop i.toNat) i) [] (fun j=>[.int .i64 j])else none
 | _=>none
def oH(l:(Option (List (Int×Int×Int×Int×Bool))))(n:Int)(i:Int)(e:n=((el l).length:Int)/\0<=i/\i<=n/\n<=140737488351232/\(∀ r ∈ el l,rOk r)):qW [D7 rR l,.int .i64 n,.int .i64 i]=sL (Y2 wD ((el l).drop i.toNat) i) [] (fun j=>[.int .i64 j]):=by
 simp only[qW,J9,G2];exact B2 e
def A0W:K0:=⟨[(0,dat 1 0 15),(1,.func (.func 32) ⟨[]⟩ ⟨[]⟩),(7,h 1 3),(8,h 2 3)],[(1,.frz)],3,[⟨.exit 0,[],[],0⟩,⟨.ret,[(4,h 0 3)],[],1⟩]⟩
noncomputable def UR:Code:=(f39.body).getD .skip
noncomputable def A0S:Code:=match G5 [true,false,true,false] UR with|some (.loop x)=>x|_=>.skip
def A0V:f39.body=some UR:=rfl
def A0U:G5 [true,false,true,false] UR=some (.loop A0S):=F8
def UO(n:Nat):Tr:=.br 10 (aH [h3 5,jI 0]<|.br n (aH [h3 6,jI 0]<|.br (n+1) (aH [h3 7,jI 1]<|.br (n+2) (aH [h3 8,jI 1]<|.br (n+3) (.lt 3 (.min) [h3 5,jI 40]<|aS [jI 40,h3 (n+4)]<|aQ [h3 7,h3 (n+5)]<|.br (n+6) (.lt 3 (.min) [h3 6,jI 80]<|aS [jI 80,h3 (n+7)]<|aQ [h3 8,h3 (n+8)]<|aX [h (n+9) 8]<|.br (n+10) (.ret [jI 1,h3 2]) (aA [h3 2,jI 1]<|.ret [jI (-1),h 0 15,h3 1,h3 (n+11)])) (.ret [jI 1,h3 2])) (.ret [jI 1,h3 2])) (.ret [jI 1,h3 2])) (.ret [jI 1,h3 2])) (.ret [jI 1,h3 2])) (.ret [jI 1,h3 2])
def A0T:Tr:=aL [h3 2,h3 1]<|.br 3 (.lt 8 (.inbs 5) [h3 2,h 0 15]<|.br 4 (.lt 3 (.get 5 0) [h 0 15,h3 2]<|.lt 3 (.get 5 1) [h 0 15,h3 2]<|.lt 3 (.get 5 2) [h 0 15,h3 2]<|.lt 3 (.get 5 3) [h 0 15,h3 2]<|.lt 8 (.get 5 4) [h 0 15,h3 2]<|.br 9 (aE [h3 8,jI 1]<|UO 11) (aE [h3 7,jI 1]<|UO 11)) (.no)) (.ret [jI 0])
def UQ:List U->Nat
 | [u_l,.int .i64 n,.int .i64 i]=>(match R2 rR u_l with|some l=>(n-i).toNat|none=>0)
 | _=>0
def UP(l:(Option (List (Int×Int×Int×Int×Bool))))(n:Int)(i:Int):UQ [D7 rR l,.int .i64 n,.int .i64 i]=(n-i).toNat:=by
 simp only[UQ,J9]
def A3P{G}(r:l9 G):∀ (E:Nat->U) (base:Nat),@x4 ⟨E,G⟩ prog base gl f39.ntmps A0S (e9 prog gl n0 2 A0W qW):=by
 refine kJ (dep:=60) (f:=39) (n0:=n0) (nB:=2) (H0:=H0) UQ A0T (cxg (A3z.2 r) .nil) r func39 A0V A0U F8 F8 F8 ?_;intro us d outs p;have y:=p;unfold qW at p;split at p
 .skip;rename_i B n i;have x:=C3.1 p;clear p;obtain⟨l,m,p⟩:=x;replace m:=K1 m;subst m;split at p
  .rename_i q;clear p y;have C:i<n->rOk ((el l).getD i.toNat default):=fun h=>q.2.2.2.2 _ (EU A6 A6)
   refine⟨rfl,?_⟩;unfold A0T;refine w0 (.cons 2 _ (.cons 1 _ (.cons 0 _ (.nil)))) ?_;repeat (first|refine w4 (fun g=>?_) fun g=>?_|(refine w7 [.int .i64 _,.int .i64 _] ?_;rotate_left)|refine A2Q ?_|refine A0_ ?_|refine PA ?_|refine A4H ?_|refine A4I ?_|refine CE ?_|refine qB ?_|refine WU ?_|refine JA ?_|(refine w7 [.int .i64 _,D7 rR _,.int .i64 _,.int .i64 _] ?_;rotate_left)|refine MR ?_|refine CB ?_|refine w1 (.get 5 0) (u:=.int .i64 _) (e:=N4 rfl A6 A6 rfl) (k':=?_)|refine w1 (.get 5 1) (u:=.int .i64 _) (e:=N4 rfl A6 A6 rfl) (k':=?_)|refine w1 (.get 5 2) (u:=.int .i64 _) (e:=N4 rfl A6 A6 rfl) (k':=?_)|refine w1 (.get 5 3) (u:=.int .i64 _) (e:=N4 rfl A6 A6 rfl) (k':=?_)|refine w1 (.get 5 4) (u:=.bool _) (e:=N4 rfl A6 A6 rfl) (k':=?_)|refine w4B (fun g=>?_) fun g=>?_|(refine w8 ?_;first|omega)|(refine w7 [.int .i64 _] ?_;rotate_left))
   all_goals first
    | refine bW ?_ ?_
      .rw[oH l n (i+1) ⟨q.1,A6,A6,q.2.2.2⟩,oH l n i q,uF (i:=i) q.2.1 A6 (VW (by first|(rw[MO ‹_›];omega)|(rw[MP ‹_›];omega)))]
      .rw[UP,UP];omega
    | refine N7 (d:=0) ?_
      rw[oH l n i q,yA A6];rfl
    | refine N7 (d:=1) ?_
      have A:wD ((el l).getD i.toNat default)=true:=VV (by intro h;have z:=C A6;unfold rOk EQ at z;first|(rw[MO ‹_›]at h;omega)|(rw[MP ‹_›]at h;omega));rw[oH l n i q,xZ (i:=i) q.2.1 A6 A];rfl
  .cases p
 .cases p
noncomputable def A4B:List LpE:=(39,([true,false,true,false],e9 prog gl n0 2 A0W qW))::[]
def WK{G}(e:l9 G):dU prog G gl A4B:=.cons func39 A0V A0U (A3P e) .nil
noncomputable def A3y:gH:=⟨_,fun e=>.nil⟩
def yK:List U->Option (Nat×List U)
 | [u_l]=>(R2 rR u_l).bind fun l=>if((el l).length:Int)<=140737488351232/\(∀ r ∈ el l,rOk r)then some (0,[.int .i64 (fZ (el l))])else none
 | _=>none
def ZG(l:(Option (List (Int×Int×Int×Int×Bool))))(e:((el l).length:Int)<=140737488351232/\(∀ r ∈ el l,rOk r)):yK [D7 rR l]=some (0,[.int .i64 (fZ (el l))]):=by
 simp only[yK,J9,G2];exact B2 e
def A0R:Tr:=aD [h 0 15]<|aG [h3 1,jI 64]<|.br 2 (.ret [jI 450]) (.lp qW [h 0 15,h3 1,jI 0] 0 0 (.ret [jI 0]) (.lp qW [h 0 15,h3 1,jI 0] 1 1 (aH [h3 3,jI 0]<|.br 4 (.ret [jI 450]) (.ret [jI 0])) (.no)))
def A3O{G}(m:l9 G):jO prog G 12 [.s 15] yK [.s 3]:=by
 refine p8 (d:=60) A0R (cxg (A3y.2 m) (WK m)) m ⟨f12,_,func12,rfl⟩ F8 F8 ?_;intro us outs f;unfold yK at f;split at f
 .skip;rename_i q;have n:=C3.1 f;clear f;obtain⟨l,e,f⟩:=n;replace e:=K1 e;subst e;split at f
  .rename_i r;cases f;have x:(el l).drop (0:Int).toNat=el l:=rfl;unfold A0R;refine w0 (.cons 0 _ (.nil)) ?_;repeat (first|(refine w7 [.int .i64 _] ?_;rotate_left)|refine w4 (fun g=>?_) fun g=>?_|refine wN ?_|refine A2P ?_|(refine w6 qW (oH _ _ _ ⟨rfl,K3,A6,A6,r.2⟩) (h0:=fun g=>?_) (h1:=fun v g=>?_);skip;rotate_left;show Wk _ _ (.cons _ _ _);rotate_right)|refine A2Q ?_)
   all_goals
    refine l0 ?_;symm;first
    | (refine B0 fun h=>?_;have:=h.1;omega)
    | exact B2 ⟨A6,ZN ‹_›⟩
    | (exfalso;have:=(FB (p:=wD) (l:=el l) ‹_›).2;omega)
    | exact B0 (fun h=>ZM (l:=el l) ‹_› h.2)
  .cases f
 .cases f
def qq(a b:Mt):Bool:=(a.1 == b.1) && ((a.2.1 == b.2.1) && true)
def fK(x:Option (List Mt))(r c:Int):Option Mt:=(el x).find? (fun a=>(r == a.1) && ((c == a.2.1) && true))
def fV(x:Option (List Mt))(r c:Int):Bool:=(fK x r c).elim false (fun a=>a.2.2.1)
def fH(x:Option (List Mt))(r c:Int):Bool:=(fK x r c).elim false (fun a=>a.2.2.2)
def stM(x:Option (List Mt))(r c:Int)(v:Bool):Option (List Mt):=PW qq x (r,c,fV x r c || v,fH x r c || !v)
def coN(r c:Int)(v:Bool):Nat->Int->Option (List Mt)->Option (List Mt)
 | 0,_,x=>x
 | n+1,j,x=>coN r c v n (j+1) (stM x r (c+j) v)
def roN(r c w:Int)(v:Bool):Nat->Int->Option (List Mt)->Option (List Mt)
 | 0,_,x=>x
 | n+1,i,x=>roN r c w v n (i+1) (coN (r+i) c v w.toNat 0 x)
def ruN(x:Option (List Mt))(r:Rt):Option (List Mt):=roN r.1 r.2.1 r.2.2.2.1 r.2.2.2.2 r.2.2.1.toNat 0 x
def ruL(l:List Rt)(x:Option (List Mt)):Option (List Mt):=l.foldl ruN x
def PQ{x:Option (List Mt)}{r:Int}(h:x≠none):stM x r c v≠none:=by
 cases x with
 | none=>exact absurd rfl h
 | some l=>exact U0 _
def UI{r c:Int}{v:Bool}:∀ (n:Nat) (j:Int) {x:Option (List Mt)},x≠none->coN r c v n j x≠none
 | 0,_,_,h=>h
 | n+1,j,_,h=>UI n (j+1) (PQ h)
def A0F{r c w:Int}{v:Bool}:∀ (n:Nat) (j:Int) {x:Option (List Mt)},x≠none->roN r c w v n j x≠none
 | 0,_,_,h=>h
 | n+1,j,_,h=>A0F n (j+1) (UI _ _ h)
def A3F{r n:Int}{x:Option (List Mt)}(h:j<n):coN r c v (n-j).toNat j x=coN r c v (n-(j+1)).toNat (j+1) (stM x r (c+j) v):=by
 rw[show(n-j).toNat=(n-(j+1)).toNat+1 by omega];rfl
def A3G{r n:Int}{x:Option (List Mt)}(h:¬j<n):coN r c v (n-j).toNat j x=x:=by rw[show(n-j).toNat=0 by omega];rfl
def A2b{r w n:Int}{x:Option (List Mt)}(h:j<n):roN r c w v (n-j).toNat j x=roN r c w v (n-(j+1)).toNat (j+1) (coN (r+j) c v w.toNat 0 x):=by
 rw[show(n-j).toNat=(n-(j+1)).toNat+1 by omega];rfl
def A2c{r w n:Int}{x:Option (List Mt)}(h:¬j<n):roN r c w v (n-j).toNat j x=x:=by rw[show(n-j).toNat=0 by omega];rfl
def A2W{l:List Rt}{x:Option (List Mt)}(h0:0<=i)(h:i<(l.length:Int)):ruL (l.drop i.toNat) x=ruL (l.drop (i+1).toNat) (ruN x (l.getD i.toNat default)):=by
 have e:i.toNat<l.length:=A6;rw[show(i+1).toNat=i.toNat+1 by omega,N5 e];show List.foldl _ _ _=_;rw[gY];simp only[ruL,B3,A3 e,U5]
def A2X{l:List Rt}{x:Option (List Mt)}(h:¬i<(l.length:Int))(h0:0<=i):ruL (l.drop i.toNat) x=x:=by
 rw[V7 A6];rfl
def A2R{x:Option (List Mt)}{r:Int}{a:Bool}(h1:a=(fV x r c || v))(e:b=(fH x r c || !v)):PW qq x (r,c,a,b)=stM x r c v:=by rw[h1,e];rfl
def BZ{r:Rt}(h:vP r):0<=r.1/\0<=r.2.1/\1<=r.2.2.1/\1<=r.2.2.2.1/\r.1+r.2.2.1<=40/\r.2.1+r.2.2.2.1<=80:=h.2
def A2j{a:Bool}(h:a=true):true=(a || v):=by rw[h];rfl
def A2k{a:Bool}(h:a=false):v=(a || v):=by rw[h];rfl
attribute [local irreducible] coN roN ruL stM
noncomputable def A32:gH:=⟨_,fun e=>.nil⟩
def uV:List U->Option (Nat×List U)
 | [.int .i64 i,u_l,.int .i64 n,.int .i64 k,.int .i64 rn,.int .i64 i2,.int .i64 cn,.int .i64 j,.int .i64 r,.int .i64 c,.int .i64 hh,.int .i64 ww,.bool v,u_x]=>(R2 rR u_l).bind fun l=>(R2 rM u_x).bind fun x=>if 0<=i/\i<=40/\0<=j/\j<=cn/\cn<=80/\0<=r/\r<=40/\0<=c/\c<=80/\x≠none then some (0,[D7 rR l,.int .i64 n,.int .i64 k,.int .i64 rn,.int .i64 i2,.int .i64 r,.int .i64 c,.int .i64 hh,.int .i64 ww,.bool v,D7 rM (coN (r+i) c v (cn-j).toNat j x)])else none
 | _=>none
def sB(i:Int)(l:(Option (List (Int×Int×Int×Int×Bool))))(n:Int)(k:Int)(f:Int)(i2:Int)(e:Int)(j:Int)(r:Int)(c:Int)(hh:Int)(ww:Int)(v:Bool)(x:(Option (List (Int×Int×Bool×Bool))))(m:0<=i/\i<=40/\0<=j/\j<=e/\e<=80/\0<=r/\r<=40/\0<=c/\c<=80/\x≠none):uV [.int .i64 i,D7 rR l,.int .i64 n,.int .i64 k,.int .i64 f,.int .i64 i2,.int .i64 e,.int .i64 j,.int .i64 r,.int .i64 c,.int .i64 hh,.int .i64 ww,.bool v,D7 rM x]=some (0,[D7 rR l,.int .i64 n,.int .i64 k,.int .i64 f,.int .i64 i2,.int .i64 r,.int .i64 c,.int .i64 hh,.int .i64 ww,.bool v,D7 rM (coN (r+i) c v (e-j).toNat j x)]):=by
 simp only[uV,J9,G2];exact B2 m
def A0l:K0:=⟨[(3,.map (some 1)),(5,.pointer (some ⟨2,0,none⟩)),(6,h 0 3),(11,dat 3 1 15),(12,h 2 3),(13,h 3 3),(19,h 4 3),(20,h 5 3),(25,h 6 3),(26,h 7 3)],[(2,.cells 29 [h 8 3,h 9 3,h 10 3,h 11 3,h 12 8]),(1,.mp 13 14 55),(3,.frz)],14,[⟨.exit 4,[(3,.map (some 1)),(5,.pointer (some ⟨2,0,none⟩)),(11,dat 4 0 15),(12,h 1 3),(13,h 2 3),(19,h 3 3),(20,h 4 3)],[(2,.cells 29 [h 5 3,h 6 3,h 7 3,h 8 3,h 9 8]),(1,.mp 10 14 55),(4,.frz)],11⟩]⟩
noncomputable def VC:Code:=(f22.body).getD .skip
noncomputable def A0h:Code:=match G5 [true,true,false,true,false,false,true,true,false,false,true,true,false,false,true,true,false,false,true,true,false] VC with|some (.loop x)=>x|_=>.skip
def A0k:f22.body=some VC:=rfl
def A0j:G5 [true,true,false,true,false,false,true,true,false,false,true,true,false,false,true,true,false,false,true,true,false] VC=some (.loop A0h):=F8
def UZ(n:Nat):Tr:=aA [h3 7,jI 1]<|.ret [jI (-1),h3 0,h 1 15,h3 2,h3 3,h3 4,h3 5,h3 6,h3 n,h3 8,h3 9,h3 10,h3 11,h 12 8,h 19 14]
def UY(n:Nat):Tr:=aA [h3 7,jI 1]<|.ret [jI (-1),h3 0,h 1 15,h3 2,h3 3,h3 4,h3 5,h3 6,h3 n,h3 8,h3 9,h3 10,h3 11,h 12 8,h 20 14]
def A0i:Tr:=aL [h3 7,h3 6]<|.br 14 (aA [h3 8,h3 0]<|aA [h3 9,h3 7]<|.lt 8 (.mget 4 2 2) [h 13 14,.bool false,h3 15,h3 16]<|.lt 8 (.mget 4 2 3) [h 13 14,.bool false,h3 15,h3 16]<|.br 17 (.br 18 (.dt 14 (.mput 4 2) [h 13 14,h3 15,h3 16,.bool true,.bool true]<|UZ 20) (aX [h 12 8]<|.dt 14 (.mput 4 2) [h 13 14,h3 15,h3 16,.bool true,h 19 8]<|UY 21)) (.br 18 (.dt 14 (.mput 4 2) [h 13 14,h3 15,h3 16,h 12 8,.bool true]<|UZ 20) (aX [h 12 8]<|.dt 14 (.mput 4 2) [h 13 14,h3 15,h3 16,h 12 8,h 19 8]<|UY 21))) (.ret [jI 0,h 1 15,h3 2,h3 3,h3 4,h3 5,h3 8,h3 9,h3 10,h3 11,h 12 8,h 13 14])
def VB:List U->Nat
 | [.int .i64 i,u_l,.int .i64 n,.int .i64 k,.int .i64 rn,.int .i64 i2,.int .i64 cn,.int .i64 j,.int .i64 r,.int .i64 c,.int .i64 hh,.int .i64 ww,.bool v,u_x]=>(match R2 rR u_l with|some l=>(match R2 rM u_x with|some x=>(cn-j).toNat|none=>0)|none=>0)
 | _=>0
def VA(i:Int)(l:(Option (List (Int×Int×Int×Int×Bool))))(n:Int)(k:Int)(f:Int)(i2:Int)(e:Int)(j:Int)(r:Int)(c:Int)(hh:Int)(ww:Int)(v:Bool)(x:(Option (List (Int×Int×Bool×Bool)))):VB [.int .i64 i,D7 rR l,.int .i64 n,.int .i64 k,.int .i64 f,.int .i64 i2,.int .i64 e,.int .i64 j,.int .i64 r,.int .i64 c,.int .i64 hh,.int .i64 ww,.bool v,D7 rM x]=(e-j).toNat:=by
 simp only[VB,J9]
def A3U{G}(y:l9 G):∀ (E:Nat->U) (base:Nat),@x4 ⟨E,G⟩ prog base gl f22.ntmps A0h (e9 prog gl n0 5 A0l uV):=by
 refine kJ (dep:=60) (f:=22) (n0:=n0) (nB:=5) (H0:=H0) VB A0i (cxg (A32.2 y) .nil) y func22 A0k A0j F8 F8 F8 ?_;intro us d outs m;have F:=m;unfold uV at m;split at m
 .skip;rename_i i I n k C i2 A j r c hh ww v H;have z:=C3.1 m;clear m;obtain⟨l,p,m⟩:=z;replace p:=K1 p;subst p;have h:=C3.1 m;clear m;obtain⟨x,q,m⟩:=h;replace q:=K1 q;subst q;split at m
  .rename_i B;clear m F;refine⟨rfl,?_⟩;unfold A0i;refine w0 (.cons 13 _ (.cons 12 _ (.cons 11 _ (.cons 10 _ (.cons 9 _ (.cons 8 _ (.cons 7 _ (.cons 6 _ (.cons 5 _ (.cons 4 _ (.cons 3 _ (.cons 2 _ (.cons 1 _ (.cons 0 _ (.nil))))))))))))))) ?_;repeat (first|refine CE ?_|refine qB ?_|refine w4 (fun g=>?_) fun g=>?_|refine w4B (fun g=>?_) fun g=>?_|refine w2 (.mput 4 2) (r:=rM) (e:=TG qq (_,_,_,_) rfl rfl (fun _=>rfl) (by first|exact B.2.2.2.2.2.2.2.2.2)) (k':=?_)|(refine w7 [.int .i64 _,.int .i64 _,D7 rR _,.int .i64 _,.int .i64 _,.int .i64 _,.int .i64 _,.int .i64 _,.int .i64 _,.int .i64 _,.int .i64 _,.int .i64 _,.int .i64 _,.bool _,D7 rM _] ?_;rotate_left)|refine JA ?_|refine A1A ?_|refine MR ?_|refine w1x (.mget 4 2 2) (e:=oB U.bool (fun a=>(_ == a.1 && (_ == a.2.1 && true))) (fun a=>a.2.2.1) rfl rfl (fun _=>rfl) (fun _=>rfl)) (k':=?_)|refine w1x (.mget 4 2 3) (e:=oB U.bool (fun a=>(_ == a.1 && (_ == a.2.1 && true))) (fun a=>a.2.2.2) rfl rfl (fun _=>rfl) (fun _=>rfl)) (k':=?_)|(refine w7 [.int .i64 _,D7 rR _,.int .i64 _,.int .i64 _,.int .i64 _,.int .i64 _,.int .i64 _,.int .i64 _,.int .i64 _,.int .i64 _,.bool _,D7 rM _] ?_;rotate_left))
   all_goals first
    | refine bW ?_ ?_
      .rw[A2R (r:=r+i) (c:=c+j) (v:=v) (by first|exact A2j ‹_›|exact A2k ‹_›) (by first|exact A2j ‹_›|exact A2k ‹_›),sB i l n k C i2 A (j+1) r c hh ww v _ ⟨A6,A6,A6,A6,A6,A6,A6,A6,A6,PQ B.2.2.2.2.2.2.2.2.2⟩,sB i l n k C i2 A j r c hh ww v x B,A3F (j:=j) (n:=A) A6]
      .rw[VA,VA];omega
    | refine N7 (d:=0) ?_
      rw[sB i l n k C i2 A j r c hh ww v x B,A3G A6]
  .cases m
 .cases m
noncomputable def A02:List LpE:=(22,([true,true,false,true,false,false,true,true,false,false,true,true,false,false,true,true,false,false,true,true,false],e9 prog gl n0 5 A0l uV))::[]
def FZ{G}(e:l9 G):dU prog G gl A02:=.cons func22 A0k A0j (A3U e) .nil
end
section
open Go Go.Sx Go.Proofs.Try
noncomputable def A31:gH:=⟨_,fun e=>.nil⟩
def uU:List U->Option (Nat×List U)
 | [u_l,.int .i64 n,.int .i64 k,.int .i64 rn,.int .i64 i,.int .i64 r,.int .i64 c,.int .i64 hh,.int .i64 ww,.bool v,u_x]=>(R2 rR u_l).bind fun l=>(R2 rM u_x).bind fun x=>if 0<=i/\i<=rn/\rn<=40/\0<=r/\r<=40/\0<=c/\c<=80/\0<=ww/\ww<=80/\x≠none then some (0,[D7 rR l,.int .i64 n,.int .i64 k,D7 rM (roN r c ww v (rn-i).toNat i x)])else none
 | _=>none
def sA(l:(Option (List (Int×Int×Int×Int×Bool))))(n:Int)(k:Int)(e:Int)(i:Int)(r:Int)(c:Int)(hh:Int)(ww:Int)(v:Bool)(x:(Option (List (Int×Int×Bool×Bool))))(f:0<=i/\i<=e/\e<=40/\0<=r/\r<=40/\0<=c/\c<=80/\0<=ww/\ww<=80/\x≠none):uU [D7 rR l,.int .i64 n,.int .i64 k,.int .i64 e,.int .i64 i,.int .i64 r,.int .i64 c,.int .i64 hh,.int .i64 ww,.bool v,D7 rM x]=some (0,[D7 rR l,.int .i64 n,.int .i64 k,D7 rM (roN r c ww v (e-i).toNat i x)]):=by
 simp only[uU,J9,G2];exact B2 f
def A0g:K0:=⟨[(3,.map (some 1)),(5,.pointer (some ⟨2,0,none⟩)),(11,dat 3 0 15),(12,h 1 3),(13,h 2 3),(19,h 3 3),(20,h 4 3)],[(2,.cells 29 [h 5 3,h 6 3,h 7 3,h 8 3,h 9 8]),(1,.mp 10 14 55),(3,.frz)],11,[⟨.exit 2,[(3,.map (some 1)),(11,dat 4 0 15),(12,h 1 3),(13,h 2 3)],[(1,.mp 3 14 55),(4,.frz)],4⟩]⟩
noncomputable def UX:Code:=(f22.body).getD .skip
noncomputable def A0c:Code:=match G5 [true,true,false,true,false,false,true,true,false,false,true,true,false] UX with|some (.loop x)=>x|_=>.skip
def A0f:f22.body=some UX:=rfl
def A0e:G5 [true,true,false,true,false,false,true,true,false,false,true,true,false] UX=some (.loop A0c):=F8
def A0d:Tr:=aL [h3 4,h3 3]<|.br 11 (.fn uV [h3 4,h 0 15,h3 1,h3 2,h3 3,h3 4,h3 8,jI 0,h3 5,h3 6,h3 7,h3 8,h 9 8,h 10 14] 11<|aA [h3 16,jI 1]<|.ret [jI (-1),h 12 15,h3 13,h3 14,h3 15,h3 23,h3 17,h3 18,h3 19,h3 20,h 21 8,h 22 14]) (.ret [jI 0,h 0 15,h3 1,h3 2,h 10 14])
def UW:List U->Nat
 | [u_l,.int .i64 n,.int .i64 k,.int .i64 rn,.int .i64 i,.int .i64 r,.int .i64 c,.int .i64 hh,.int .i64 ww,.bool v,u_x]=>(match R2 rR u_l with|some l=>(match R2 rM u_x with|some x=>(rn-i).toNat|none=>0)|none=>0)
 | _=>0
def UV(l:(Option (List (Int×Int×Int×Int×Bool))))(n:Int)(k:Int)(e:Int)(i:Int)(r:Int)(c:Int)(hh:Int)(ww:Int)(v:Bool)(x:(Option (List (Int×Int×Bool×Bool)))):UW [D7 rR l,.int .i64 n,.int .i64 k,.int .i64 e,.int .i64 i,.int .i64 r,.int .i64 c,.int .i64 hh,.int .i64 ww,.bool v,D7 rM x]=(e-i).toNat:=by
 simp only[UW,J9]
def A3T{G}(y:l9 G):∀ (E:Nat->U) (base:Nat),@x4 ⟨E,G⟩ prog base gl f22.ntmps A0c (e9 prog gl n0 5 A0g uU):=by
 refine kJ (dep:=60) (f:=22) (n0:=n0) (nB:=5) (H0:=H0) UW A0d (cxg (A31.2 y) (FZ y)) y func22 A0f A0e F8 F8 F8 ?_;intro us d outs m;have C:=m;unfold uU at m;split at m
 .skip;rename_i H n k A i r c hh ww v F;have z:=C3.1 m;clear m;obtain⟨l,p,m⟩:=z;replace p:=K1 p;subst p;have h:=C3.1 m;clear m;obtain⟨x,q,m⟩:=h;replace q:=K1 q;subst q;split at m
  .rename_i B;clear m C;refine⟨rfl,?_⟩;unfold A0d;refine w0 (.cons 10 _ (.cons 9 _ (.cons 8 _ (.cons 7 _ (.cons 6 _ (.cons 5 _ (.cons 4 _ (.cons 3 _ (.cons 2 _ (.cons 1 _ (.cons 0 _ (.nil)))))))))))) ?_;repeat (first|refine CE ?_|refine qB ?_|refine MR ?_|refine w4 (fun g=>?_) fun g=>?_|(refine w3 uV (e:=sB _ _ _ _ _ _ _ _ _ _ _ _ _ _ ⟨A6,A6,A6,A6,A6,A6,A6,A6,A6,B.2.2.2.2.2.2.2.2.2⟩) (k':=?_);show Wk _ _ (.cons _ _ (.cons _ _ (.cons _ _ (.cons _ _ (.cons _ _ (.cons _ _ (.cons _ _ (.cons _ _ (.cons _ _ (.cons _ _ (.cons _ _ _))))))))))))|(refine w7 [.int .i64 _,D7 rR _,.int .i64 _,.int .i64 _,.int .i64 _,.int .i64 _,.int .i64 _,.int .i64 _,.int .i64 _,.int .i64 _,.bool _,D7 rM _] ?_;rotate_left)|(refine w7 [.int .i64 _,D7 rR _,.int .i64 _,.int .i64 _,D7 rM _] ?_;rotate_left))
   all_goals first
    | refine bW ?_ ?_
      .rw[show ww-0=ww by omega,sA l n k A (i+1) r c hh ww v _ ⟨A6,A6,A6,A6,A6,A6,A6,A6,A6,UI _ _ B.2.2.2.2.2.2.2.2.2⟩,sA l n k A i r c hh ww v x B,A2b (j:=i) (n:=A) A6]
      .rw[UV,UV];omega
    | refine N7 (d:=0) ?_
      rw[sA l n k A i r c hh ww v x B,A2c A6]
  .cases m
 .cases m
noncomputable def A4C:List LpE:=(22,([true,true,false,true,false,false,true,true,false,false,true,true,false],e9 prog gl n0 5 A0g uU))::A02
def WL{G}(e:l9 G):dU prog G gl A4C:=.cons func22 A0f A0e (A3T e) (FZ e)
noncomputable def A30:gH:=⟨_,fun e=>.nil⟩
def uT:List U->Option (Nat×List U)
 | [u_l,.int .i64 n,.int .i64 k,u_x]=>(R2 rR u_l).bind fun l=>(R2 rM u_x).bind fun x=>if n=((el l).length:Int)/\0<=k/\k<=n/\n<=140737488351232/\(∀ r ∈ el l,vP r)/\x≠none then some (0,[D7 rM (ruL ((el l).drop k.toNat) x)])else none
 | _=>none
def rZ(l:(Option (List (Int×Int×Int×Int×Bool))))(n:Int)(k:Int)(x:(Option (List (Int×Int×Bool×Bool))))(e:n=((el l).length:Int)/\0<=k/\k<=n/\n<=140737488351232/\(∀ r ∈ el l,vP r)/\x≠none):uT [D7 rR l,.int .i64 n,.int .i64 k,D7 rM x]=some (0,[D7 rM (ruL ((el l).drop k.toNat) x)]):=by
 simp only[uT,J9,G2];exact B2 e
def A0b:K0:=⟨[(3,.map (some 1)),(11,dat 2 0 15),(12,h 1 3),(13,h 2 3)],[(1,.mp 3 14 55),(2,.frz)],4,[⟨.exit 0,[(3,.map (some 1))],[(1,.mp 0 14 55)],1⟩]⟩
noncomputable def UU:Code:=(f22.body).getD .skip
noncomputable def A0X:Code:=match G5 [true,true,false,true,false] UU with|some (.loop x)=>x|_=>.skip
def A0a:f22.body=some UU:=rfl
def A0Z:G5 [true,true,false,true,false] UU=some (.loop A0X):=F8
def A0Y:Tr:=aL [h3 2,h3 1]<|.br 4 (.lt 8 (.inbs 5) [h3 2,h 0 15]<|.br 5 (.lt 3 (.get 5 0) [h 0 15,h3 2]<|.lt 3 (.get 5 1) [h 0 15,h3 2]<|.lt 3 (.get 5 2) [h 0 15,h3 2]<|.lt 3 (.get 5 3) [h 0 15,h3 2]<|.lt 8 (.get 5 4) [h 0 15,h3 2]<|.fn uU [h 0 15,h3 1,h3 2,h3 8,jI 0,h3 6,h3 7,h3 8,h3 9,h 10 8,h 3 14] 4<|aA [h3 13,jI 1]<|.ret [jI (-1),h 11 15,h3 12,h3 15,h 14 14]) (.no)) (.ret [jI 0,h 3 14])
def UT:List U->Nat
 | [u_l,.int .i64 n,.int .i64 k,u_x]=>(match R2 rR u_l with|some l=>(match R2 rM u_x with|some x=>(n-k).toNat|none=>0)|none=>0)
 | _=>0
def US(l:(Option (List (Int×Int×Int×Int×Bool))))(n:Int)(k:Int)(x:(Option (List (Int×Int×Bool×Bool)))):UT [D7 rR l,.int .i64 n,.int .i64 k,D7 rM x]=(n-k).toNat:=by
 simp only[UT,J9]
def A3S{G}(B:l9 G):∀ (E:Nat->U) (base:Nat),@x4 ⟨E,G⟩ prog base gl f22.ntmps A0X (e9 prog gl n0 3 A0b uT):=by
 refine kJ (dep:=60) (f:=22) (n0:=n0) (nB:=3) (H0:=H0) UT A0Y (cxg (A30.2 B) (WL B)) B func22 A0a A0Z F8 F8 F8 ?_;intro us d outs m;have H:=m;unfold uT at m;split at m
 .skip;rename_i J n k I;have C:=C3.1 m;clear m;obtain⟨l,p,m⟩:=C;replace p:=K1 p;subst p;have F:=C3.1 m;clear m;obtain⟨x,q,m⟩:=F;replace q:=K1 q;subst q;split at m
  .rename_i r;clear m H;have A:k<n->vP ((el l).getD k.toNat default):=fun h=>r.2.2.2.2.1 _ (EU A6 A6)
   refine⟨rfl,?_⟩;unfold A0Y;refine w0 (.cons 3 _ (.cons 2 _ (.cons 1 _ (.cons 0 _ (.nil))))) ?_;repeat (first|refine w4 (fun g=>?_) fun g=>?_|refine CE ?_|refine qB ?_|refine MR ?_|refine CB ?_|refine w1 (.get 5 0) (u:=.int .i64 _) (e:=N4 rfl A6 A6 rfl) (k':=?_)|refine w1 (.get 5 1) (u:=.int .i64 _) (e:=N4 rfl A6 A6 rfl) (k':=?_)|refine w1 (.get 5 2) (u:=.int .i64 _) (e:=N4 rfl A6 A6 rfl) (k':=?_)|refine w1 (.get 5 3) (u:=.int .i64 _) (e:=N4 rfl A6 A6 rfl) (k':=?_)|refine w1 (.get 5 4) (u:=.bool _) (e:=N4 rfl A6 A6 rfl) (k':=?_)|(refine w3 uU (e:=sA _ _ _ _ _ _ _ _ _ _ _ ⟨A6,by have z:=(BZ (A A6));omega,by have z:=(BZ (A A6));omega,by have z:=(BZ (A A6));omega,by have z:=(BZ (A A6));omega,by have z:=(BZ (A A6));omega,by have z:=(BZ (A A6));omega,by have z:=(BZ (A A6));omega,by have z:=(BZ (A A6));omega,r.2.2.2.2.2⟩) (k':=?_);show Wk _ _ (.cons _ _ (.cons _ _ (.cons _ _ (.cons _ _ _)))))|(refine w7 [.int .i64 _,D7 rR _,.int .i64 _,.int .i64 _,D7 rM _] ?_;rotate_left)|(refine w8 ?_;first|omega)|(refine w7 [.int .i64 _,D7 rM _] ?_;rotate_left))
   all_goals first
    | refine bW ?_ ?_
      .rw[show ∀ y:Int,y-0=y from fun y=>by omega,rZ l n (k+1) _ ⟨r.1,A6,A6,r.2.2.2.1,r.2.2.2.2.1,A0F _ _ r.2.2.2.2.2⟩,rZ l n k x r,A2W (i:=k) A6 A6];rfl
      .rw[US,US];omega
    | refine N7 (d:=0) ?_
      rw[rZ l n k x r,A2X A6 A6]
  .cases m
 .cases m
noncomputable def ZS:List LpE:=[(22,([true,true,false,true,false],e9 prog gl n0 3 A0b uT))]
def gF{G}(e:l9 G):dU prog G gl ZS:=(.cons func22 A0a A0Z (A3S e) .nil)
noncomputable def A37:gH:=⟨_,fun e=>.nil⟩
def LY:List U->Option (Nat×List U)
 | [u_l]=>(R2 rR u_l).bind fun l=>some (0,[D7 rR l,D7 rK none])
 | _=>none
def LX(l:(Option (List (Int×Int×Int×Int×Bool)))):LY [D7 rR l]=some (0,[D7 rR l,D7 rK none]):=by
 simp only[LY,J9,G2]
def A0z:K0:=⟨[(0,dat 1 0 15)],[(1,.frz)],1,[⟨.normal,[(0,dat 1 0 15),(2,own 2 1 13)],[(1,.frz),(2,.sq 1 13 45 3),(3,.frz)],2⟩]⟩
noncomputable def VN:Code:=(f9.body).getD .skip
noncomputable def VM:Code:=(G5 [false] VN).getD .skip
def A3i:f9.body=some VN:=rfl
def A3g:G5 [false] VN=some VM:=eL F8
def A0x:Tr:=.dt 13 (.nilw 3) []<|.ret [jI 0,h 0 15,h 1 13]
def A0y:K0.ok gl n0 12 f9.ntmps A0z=true:=F8
def A3h{G}(p:l9 G):oP prog G gl n0 12 f9.ntmps H0 A0z LY VM:=by
 refine oF (dep:=60) (f:=9) (n0:=n0) (nB:=12) (H0:=H0) A0x (cxg (A37.2 p) (gF p)) p func9 A3i A3g A0y F8 F8 ?_;intro us d outs n;have x:=n;unfold LY at n;split at n
 .skip;rename_i y;have q:=C3.1 n;clear n;obtain⟨l,m,n⟩:=q;replace m:=K1 m;subst m;clear n x;refine⟨rfl,?_⟩;unfold A0x;refine w0 (.cons 0 _ (.nil)) ?_;repeat (first|refine w2 (.nilw 3) (r:=rK) (e:=jE rfl) (k':=?_)|(refine w7 [.int .i64 _,D7 rR _,D7 rK _] ?_;rotate_left))
  all_goals first
   | refine N7 (d:=0) ?_
     rw[LX l]
 .cases n
noncomputable def A36:gH:=⟨_,fun e=>(.cons (A3O e) .nil)⟩
def yQ:List U->Option (Nat×List U)
 | [u_l,u_o]=>(R2 rR u_l).bind fun l=>(R2 rK u_o).bind fun o=>if((el l).length:Int)<=140737488351232/\(∀ r ∈ el l,rOk r)then if rsP (el l)then some (1,[D7 rR l,D7 rK o])else some (0,[D7 rK none,.int .i64 450])else none
 | _=>none
def sD(l:(Option (List (Int×Int×Int×Int×Bool))))(o:(Option (List (Int×Int×Int))))(e:((el l).length:Int)<=140737488351232/\(∀ r ∈ el l,rOk r)):yQ [D7 rR l,D7 rK o]=if rsP (el l)then some (1,[D7 rR l,D7 rK o])else some (0,[D7 rK none,.int .i64 450]):=by
 simp only[yQ,J9,G2];exact B2 e
def A0w:K0:=⟨[(0,dat 1 0 15),(2,own 2 1 13)],[(1,.frz),(2,.sq 1 13 45 3),(3,.frz)],2,[⟨.ret,[(2,own 2 0 13),(3,h 1 3)],[(2,.sq 0 13 45 3),(3,.frz)],2⟩,⟨.normal,[(0,dat 1 0 15),(2,own 2 1 13)],[(1,.frz),(2,.sq 1 13 45 3),(3,.frz)],2⟩]⟩
noncomputable def VL:Code:=(f9.body).getD .skip
noncomputable def VJ:Code:=(G5 [true,false] VL).getD .skip
def A3f:f9.body=some VL:=rfl
def A3e:G5 [true,false] VL=some VJ:=eL F8
def A0u:Tr:=.fn yK [h 0 15] 1<|aN [h3 2,jI 0]<|.br 3 (.dt 13 (.nilw 3) []<|.ret [jI 0,h 4 13,h3 2]) (.ret [jI 1,h 0 15,h 1 13])
def VK:K0.ok gl n0 12 f9.ntmps A0w=true:=F8
def A0v{G}(q:l9 G):oP prog G gl n0 12 f9.ntmps H0 A0w yQ VJ:=by
 refine oF (dep:=60) (f:=9) (n0:=n0) (nB:=12) (H0:=H0) A0u (cxg (A36.2 q) (gF q)) q func9 A3f A3e VK F8 F8 ?_;intro us d outs m;have z:=m;unfold yQ at m;split at m
 .skip;rename_i F E;have x:=C3.1 m;clear m;obtain⟨l,n,m⟩:=x;replace n:=K1 n;subst n;have y:=C3.1 m;clear m;obtain⟨o,p,m⟩:=y;replace p:=K1 p;subst p;split at m
  .rename_i A;clear m z;have C:rsP (el l)->fZ (el l)=0:=fun h=>B2 h
   have B:¬rsP (el l)->fZ (el l)=450:=fun h=>B0 h
   refine⟨rfl,?_⟩;unfold A0u;refine w0 (.cons 1 _ (.cons 0 _ (.nil))) ?_;repeat (first|refine w31 yK (e:=ZG _ A) (k':=?_)|refine A1B ?_|refine w4 (fun g=>?_) fun g=>?_|refine w2 (.nilw 3) (r:=rK) (e:=jE rfl) (k':=?_)|(refine w7 [.int .i64 _,D7 rK _,.int .i64 _] ?_;rotate_left)|(refine w7 [.int .i64 _,D7 rR _,D7 rK _] ?_;rotate_left))
   all_goals first
    | refine N7 (d:=0) ?_
      rw[sD l o A];by_cases h:rsP (el l)
      .exact absurd (C h) ‹_›
      .rw[B0 h,B h]
    | refine N7 (d:=1) ?_
      rw[sD l o A];by_cases h:rsP (el l)
      .rw[B2 h]
      .exfalso;have:=B h;omega
  .cases m
 .cases m
noncomputable def A35:gH:=⟨_,fun e=>.nil⟩
def LW:List U->Option (Nat×List U)
 | [u_l,u_o]=>(R2 rR u_l).bind fun l=>(R2 rK u_o).bind fun o=>if((el l).length:Int)<=140737488351232/\(∀ r ∈ el l,vP r)then some (0,[D7 rK o,D7 rM (ruL (el l) (some []))])else none
 | _=>none
def LV(l:(Option (List (Int×Int×Int×Int×Bool))))(o:(Option (List (Int×Int×Int))))(e:((el l).length:Int)<=140737488351232/\(∀ r ∈ el l,vP r)):LW [D7 rR l,D7 rK o]=some (0,[D7 rK o,D7 rM (ruL (el l) (some []))]):=by
 simp only[LW,J9,G2];exact B2 e
def A0t:K0:=⟨[(0,dat 1 0 15),(2,own 2 1 13)],[(1,.frz),(2,.sq 1 13 45 3),(3,.frz)],2,[⟨.normal,[(2,own 2 0 13),(5,.pointer (some ⟨4,0,none⟩))],[(2,.sq 0 13 45 3),(4,.cm 55 [.map (some 5)]),(3,.frz),(5,.mm 1 14 55)],2⟩]⟩
noncomputable def VI:Code:=(f9.body).getD .skip
noncomputable def VH:Code:=(G5 [true,true,false] VI).getD .skip
def A3d:f9.body=some VI:=rfl
def A3b:G5 [true,true,false] VI=some VH:=eL F8
def A0r:Tr:=.dt 14 (.mk 4) []<|aD [h 0 15]<|.fn uT [h 0 15,h3 3,jI 0,h 2 14] 1<|.ret [jI 0,h 1 13,h 4 14]
def A0s:K0.ok gl n0 12 f9.ntmps A0t=true:=F8
def A3c{G}(q:l9 G):oP prog G gl n0 12 f9.ntmps H0 A0t LW VH:=by
 refine oF (dep:=60) (f:=9) (n0:=n0) (nB:=12) (H0:=H0) A0r (cxg (A35.2 q) (gF q)) q func9 A3d A3b A0s F8 F8 ?_;intro us d outs m;have z:=m;unfold LW at m;split at m
 .skip;rename_i A B;have x:=C3.1 m;clear m;obtain⟨l,n,m⟩:=x;replace n:=K1 n;subst n;have y:=C3.1 m;clear m;obtain⟨o,p,m⟩:=y;replace p:=K1 p;subst p;split at m
  .rename_i h;clear m z;have C:(el l).drop (0:Int).toNat=el l:=rfl;refine⟨rfl,?_⟩;unfold A0r;refine w0 (.cons 1 _ (.cons 0 _ (.nil))) ?_;repeat (first|refine w2 (.mk 4) (r:=rM) (e:=TH [] rfl K3 rfl) (k':=?_)|refine wN ?_|refine w31 uT (e:=rZ _ _ _ _ ⟨rfl,K3,A6,A6,h.2,U0 _⟩) (k':=?_)|(refine w7 [.int .i64 _,D7 rK _,D7 rM _] ?_;rotate_left))
   all_goals first
    | refine N7 (d:=0) ?_
      rw[LV l o h];rfl
  .cases m
 .cases m
def isM(x:Option (List Mt))(r c:Int):Bool:=(el x).any (fun a=>(r == a.1) && ((c == a.2.1) && true))
def cnS(x:Option (List Mt))(dr dc r c:Int)(v h:Bool):Bool:=isM x (r+dr) (c+dc) && (if dr=0 then h || fH x (r+dr) (c+dc)else v || fV x (r+dr) (c+dc))
def A4e{x:Option (List Mt)}{r:Int}{h:Bool}(g:isM x (r+dr) (c+dc)=false):cnS x dr dc r c v h=false:=by unfold cnS;rw[g];rfl
def A4d{x:Option (List Mt)}{r:Int}{h:Bool}(g:isM x (r+dr) (c+dc)=true)(k:¬dr=0)(q:v=true):cnS x dr dc r c v h=true:=by unfold cnS;rw[g,B0 k,q];rfl
def A4c{x:Option (List Mt)}{r:Int}{h:Bool}(g:isM x (r+dr) (c+dc)=true)(k:¬dr=0)(q:v=false):cnS x dr dc r c v h=fV x (r+dr) (c+dc):=by unfold cnS;rw[g,B0 k,q];rfl
def A4f{x:Option (List Mt)}{r:Int}{h:Bool}(g:isM x (r+dr) (c+dc)=true)(k:dr=0)(q:h=true):cnS x dr dc r c v h=true:=by unfold cnS;rw[g,B2 k,q];rfl
def A4g{x:Option (List Mt)}{r:Int}{h:Bool}(g:isM x (r+dr) (c+dc)=true)(k:dr=0)(q:h=false):cnS x dr dc r c v h=fH x (r+dr) (c+dc):=by unfold cnS;rw[g,B2 k,q];rfl
def mkS(x:Option (List Mt))(r c:Int)(v h:Bool):Int:=wB (cnS x (-1) 0 r c v h) (cnS x 1 0 r c v h) (cnS x 0 (-1) r c v h) (cnS x 0 1 r c v h)
def mkC(x:Option (List Mt))(r c:Int)(v h:Bool):Int:=if mkS x r c v h=0 then(if v=true then 0x2502 else 0x2500)else mkS x r c v h
def A4K{a:Bool}{r:Int}{h:Bool}{m:U}(k:a=b):[U.bool a,.int .i64 r,.int .i64 c,.bool v,.bool h,m]=[U.bool b,.int .i64 r,.int .i64 c,.bool v,.bool h,m]:=by rw[k]
noncomputable def A3x:gH:=⟨_,fun e=>.nil⟩
def oE:List U->Option (Nat×List U)
 | [.int .i64 dr,.int .i64 dc,.int .i64 r,.int .i64 c,.bool v,.bool h,u_x]=>(R2 rM u_x).bind fun x=>if 0<=r/\r<=40/\0<=c/\c<=80 /\ -1<=dr/\dr<=1 /\ -1<=dc/\dc<=1 then some (0,[.bool (cnS x dr dc r c v h),.int .i64 r,.int .i64 c,.bool v,.bool h,D7 rM x])else none
 | _=>none
def LL(dr:Int)(dc:Int)(r:Int)(c:Int)(v:Bool)(h:Bool)(x:(Option (List (Int×Int×Bool×Bool))))(e:0<=r/\r<=40/\0<=c/\c<=80 /\ -1<=dr/\dr<=1 /\ -1<=dc/\dc<=1):oE [.int .i64 dr,.int .i64 dc,.int .i64 r,.int .i64 c,.bool v,.bool h,D7 rM x]=some (0,[.bool (cnS x dr dc r c v h),.int .i64 r,.int .i64 c,.bool v,.bool h,D7 rM x]):=by
 simp only[oE,J9,G2];exact B2 e
def A3J:K0:=⟨[(0,h 0 3),(1,h 1 3),(2,.pointer (some ⟨4,0,none⟩)),(3,.pointer (some ⟨6,0,none⟩)),(4,.pointer (some ⟨7,0,none⟩))],[(4,.cells 55 [.map (some 5)]),(6,.cells 58 [h 2 3,h 3 3]),(7,.cells 60 [h 4 8,h 5 8]),(5,.mp 6 1014 55)],7,[⟨.ret,[(7,h 0 8),(2,.pointer (some ⟨4,0,none⟩)),(3,.pointer (some ⟨6,0,none⟩)),(4,.pointer (some ⟨7,0,none⟩))],[(4,.cells 55 [.map (some 5)]),(6,.cells 58 [h 1 3,h 2 3]),(7,.cells 60 [h 3 8,h 4 8]),(5,.mp 5 1014 55)],6⟩]⟩
noncomputable def A3K:Code:=(f23.body).getD .skip
def A3I:f23.body=some A3K:=rfl
def A0Q:Tr:=aA [h3 2,h3 0]<|aA [h3 3,h3 1]<|.lt 8 (.mget 4 2 2) [h 6 1014,.bool false,h3 7,h3 8]<|.lt 8 (.mget 4 2 3) [h 6 1014,.bool false,h3 7,h3 8]<|.lt 8 (.mhas 4 2) [h 6 1014,h3 7,h3 8]<|aN [h3 0,jI 0]<|.br 12 (.br 11 (.br 4 (.ret [jI 0,.bool true,h3 2,h3 3,h 4 8,h 5 8,h 6 1014]) (.ret [jI 0,h 9 8,h3 2,h3 3,h 4 8,h 5 8,h 6 1014])) (.ret [jI 0,.bool false,h3 2,h3 3,h 4 8,h 5 8,h 6 1014])) (.br 11 (.br 5 (.ret [jI 0,.bool true,h3 2,h3 3,h 4 8,h 5 8,h 6 1014]) (.ret [jI 0,h 10 8,h3 2,h3 3,h 4 8,h 5 8,h 6 1014])) (.ret [jI 0,.bool false,h3 2,h3 3,h 4 8,h 5 8,h 6 1014]))
def A3H{G}(p:l9 G):ML prog G gl 23 (RY prog f23 gl n0 10 A3J oE):=by
 refine A1d (dep:=60) (f:=23) (n0:=n0) (nB:=10) (H0:=H0) A0Q (cxg (A3x.2 p) (gF p)) p func23 A3I F8 F8 F8 ?_;intro us d outs n;have z:=n;unfold oE at n;split at n
 .skip;rename_i dr dc r c v h B;have q:=C3.1 n;clear n;obtain⟨x,m,n⟩:=q;replace m:=K1 m;subst m;split at n
  .rename_i A;clear n z;refine⟨rfl,?_⟩;unfold A0Q;refine w0 (.cons 6 _ (.cons 5 _ (.cons 4 _ (.cons 3 _ (.cons 2 _ (.cons 1 _ (.cons 0 _ (.nil)))))))) ?_;repeat (first|refine w4 (fun g=>?_) fun g=>?_|refine w4B (fun g=>?_) fun g=>?_|(refine w7 [.int .i64 _,.bool _,.int .i64 _,.int .i64 _,.bool _,.bool _,D7 rM _] ?_;rotate_left)|refine CE ?_|refine qB ?_|refine w1x (.mget 4 2 2) (e:=oB U.bool (fun a=>(_ == a.1 && (_ == a.2.1 && true))) (fun a=>a.2.2.1) rfl rfl (fun _=>rfl) (fun _=>rfl)) (k':=?_)|refine w1x (.mget 4 2 3) (e:=oB U.bool (fun a=>(_ == a.1 && (_ == a.2.1 && true))) (fun a=>a.2.2.2) rfl rfl (fun _=>rfl) (fun _=>rfl)) (k':=?_)|refine w1x (.mhas 4 2) (e:=TI (fun a=>(_ == a.1 && (_ == a.2.1 && true))) rfl rfl (fun _=>rfl)) (k':=?_)|refine A1B ?_)
   all_goals first
    | refine N7 (d:=0) ?_
      rw[LL dr dc r c v h x A];refine U4 (fun y=>some (0,y)) (A4K ?_);first|exact A4e ‹_›|exact A4d ‹_› A6 ‹_›|exact A4c ‹_› A6 ‹_›|exact A4f ‹_› A6 ‹_›|exact A4g ‹_› A6 ‹_›
  .cases n
 .cases n
def A2u{x:Option (List Mt)}{r:Int}{h:Bool}(g:wB (cnS x (-1) 0 r c v h) (cnS x 1 0 r c v h) (cnS x 0 (-1) r c v h) (cnS x 0 1 r c v h)=0)(q:v=true):mkC x r c v h=9474:=by
 unfold mkC mkS;rw[B2 g,B2 q]
def A2w{x:Option (List Mt)}{r:Int}{h:Bool}(g:wB (cnS x (-1) 0 r c v h) (cnS x 1 0 r c v h) (cnS x 0 (-1) r c v h) (cnS x 0 1 r c v h)=0)(q:v=false):mkC x r c v h=9472:=by
 unfold mkC mkS;rw[B2 g,B0 (by rw[q];decide)]
def A2v{x:Option (List Mt)}{r:Int}{h:Bool}(g:¬wB (cnS x (-1) 0 r c v h) (cnS x 1 0 r c v h) (cnS x 0 (-1) r c v h) (cnS x 0 1 r c v h)=0):mkC x r c v h=wB (cnS x (-1) 0 r c v h) (cnS x 1 0 r c v h) (cnS x 0 (-1) r c v h) (cnS x 0 1 r c v h):=by
 unfold mkC mkS;rw[B0 g]
attribute [local irreducible] wB mkC cnS
noncomputable def A34:gH:=⟨_,fun e=>(.consM (A3H e) (.cons (UH e) .nil))⟩
def LT:List U->Option (Nat×List U)
 | [u_o,u_x,.int .i64 r,.int .i64 c,.bool v,.bool h]=>(R2 rK u_o).bind fun o=>(R2 rM u_x).bind fun x=>if((el o).length:Int)<=100000000/\0<=r/\r<=40/\0<=c/\c<=80 then some (0,[D7 rK (some (el o++[(r,c,mkC x r c v h)])),D7 rM x])else none
 | _=>none
def LS(o:(Option (List (Int×Int×Int))))(x:(Option (List (Int×Int×Bool×Bool))))(r:Int)(c:Int)(v:Bool)(h:Bool)(e:((el o).length:Int)<=100000000/\0<=r/\r<=40/\0<=c/\c<=80):LT [D7 rK o,D7 rM x,.int .i64 r,.int .i64 c,.bool v,.bool h]=some (0,[D7 rK (some (el o++[(r,c,mkC x r c v h)])),D7 rM x]):=by
 simp only[LT,J9,G2];exact B2 e
def gS:K0:=⟨[(2,own 2 0 13),(5,.pointer (some ⟨4,0,none⟩)),(18,.pointer (some ⟨8,0,none⟩)),(21,.tuple ⟨[.agg ⟨[h 2 3,h 3 3]⟩,.agg ⟨[h 4 8,h 5 8]⟩]⟩)],[(2,.sq 0 13 45 3),(4,.cells 55 [.map (some 5)]),(8,.iter []),(3,.frz),(5,.mp 1 1014 55)],6,[⟨.normal,[(2,own 2 0 13),(5,.pointer (some ⟨4,0,none⟩)),(18,.pointer (some ⟨8,0,none⟩))],[(2,.sq 0 13 45 3),(4,.cells 55 [.map (some 5)]),(8,.iter []),(3,.frz),(5,.mp 1 1014 55)],2⟩]⟩
noncomputable def LU:Code:=(f9.body).getD .skip
noncomputable def VF:Code:=(G5 [true,true,true,false,true,false,false,true,true,false,true] LU).getD .skip
def A3a:f9.body=some LU:=rfl
def A3Y:G5 [true,true,true,false,true,false,false,true,true,false,true] LU=some VF:=eL F8
noncomputable def lG:Array Oper:=match G5 [true,true,true,false,true,false,false,true,true,false,false] LU with|some (.region _ o _)=>o|_=>#[]
def VG(n:Nat):Tr:=aE [h3 30,jI 0]<|.br n (.dt 13 (.snoc 3) [h 0 13,h3 25,h3 26,jI 9472]<|.ret [jI 0,h (n+1) 13,h 29 1014]) (.dt 13 (.snoc 3) [h 0 13,h3 25,h3 26,h3 30]<|.ret [jI 0,h (n+1) 13,h 29 1014])
def A0p:Tr:=.fn oE [jI (-1),jI 0,h3 2,h3 3,h 4 8,h 5 8,h 1 1014] 6<|.fn oE [jI 1,jI 0,h3 7,h3 8,h 9 8,h 10 8,h 11 1014] 6<|.fn oE [jI 0,jI (-1),h3 13,h3 14,h 15 8,h 16 8,h 17 1014] 6<|.fn oE [jI 0,jI 1,h3 19,h3 20,h 21 8,h 22 8,h 23 1014] 6<|.fn uR [h 6 8,h 12 8,h 18 8,h 24 8] 1<|aE [h3 30,jI 0]<|.br 31 (.br 27 (.dt 13 (.snoc 3) [h 0 13,h3 25,h3 26,jI 9474]<|.ret [jI 0,h 32 13,h 29 1014]) (VG 32)) (VG 32)
def A0q:K0.ok gl n0 12 f9.ntmps gS=true:=F8
def A3Z{G}(q:l9 G):WN prog G gl n0 12 f9.ntmps H0 gS LT lG (lG.toList.drop 1) VF:=by
 refine OF (dep:=60) (f:=9) (n0:=n0) (nB:=12) (H0:=H0) A0p (cxg (A34.2 q) .nil) q func9 A3a A3Y A0q F8 F8 ?_;intro us d outs m;have A:=m;unfold LT at m;split at m
 .skip;rename_i B E r c v h;have y:=C3.1 m;clear m;obtain⟨o,p,m⟩:=y;replace p:=K1 p;subst p;have z:=C3.1 m;clear m;obtain⟨x,n,m⟩:=z;replace n:=K1 n;subst n;split at m
  .rename_i C;clear m A;refine⟨rfl,?_⟩;unfold A0p;refine w0 (.cons 5 _ (.cons 4 _ (.cons 3 _ (.cons 2 _ (.cons 1 _ (.cons 0 _ (.nil))))))) ?_;repeat (first|refine w4 (fun g=>?_) fun g=>?_|refine w4B (fun g=>?_) fun g=>?_|refine w2 (.snoc 3) (r:=rK) (e:=jD (a:=(_,_,_)) rfl rfl K3 (by simp[*]<;>omega)) (k':=?_)|(refine w7 [.int .i64 _,D7 rK _,D7 rM _] ?_;rotate_left)|(refine w3 oE (e:=LL _ _ _ _ _ _ _ A6) (k':=?_);show Wk _ _ (.cons _ _ (.cons _ _ (.cons _ _ (.cons _ _ (.cons _ _ (.cons _ _ _)))))))|refine WU ?_|refine w31 uR (e:=UG _ _ _ _) (k':=?_))
   all_goals first
    | refine N7 (d:=0) ?_
      rw[LS o x r c v h C];first|(exact absurd ‹_› (by assumption:¬wB _ _ _ _=0))|rw[A2u ‹_› ‹_›]|rw[A2w ‹_› ‹_›]|rw[A2v ‹_›]
  .cases m
 .cases m
noncomputable def A33:gH:=⟨_,fun e=>.nil⟩
def LQ:List U->Option (Nat×List U)
 | [u_o,u_x]=>(R2 rK u_o).bind fun o=>(R2 rM u_x).bind fun x=>some (0,[D7 rK o,.int .i64 0])
 | _=>none
def LP(o:(Option (List (Int×Int×Int))))(x:(Option (List (Int×Int×Bool×Bool)))):LQ [D7 rK o,D7 rM x]=some (0,[D7 rK o,.int .i64 0]):=by
 simp only[LQ,J9,G2]
def A0o:K0:=⟨[(2,own 2 0 13)],[(2,.sq 0 13 45 3),(3,.frz)],2,[⟨.ret,[(2,own 2 0 13),(3,h 1 3)],[(2,.sq 0 13 45 3),(3,.frz)],2⟩]⟩
noncomputable def VE:Code:=(f9.body).getD .skip
noncomputable def yP:Code:=(G5 [true,true,true,true,true] VE).getD .skip
def A3X:f9.body=some VE:=rfl
def A3V:G5 [true,true,true,true,true] VE=some yP:=eL F8
def A0m:Tr:=.ret [jI 0,h 0 13,jI 0]
def A0n:K0.ok gl n0 12 f9.ntmps A0o=true:=F8
def A3W{G}(r:l9 G):oP prog G gl n0 12 f9.ntmps H0 A0o LQ yP:=by
 refine oF (dep:=60) (f:=9) (n0:=n0) (nB:=12) (H0:=H0) A0m (cxg (A33.2 r) .nil) r func9 A3X A3V A0n F8 F8 ?_;intro us d outs n;have y:=n;unfold LQ at n;split at n
 .skip;rename_i z h;have p:=C3.1 n;clear n;obtain⟨o,m,n⟩:=p;replace m:=K1 m;subst m;have q:=C3.1 n;clear n;obtain⟨x,e,n⟩:=q;replace e:=K1 e;subst e;clear n y;refine⟨rfl,?_⟩;unfold A0m;refine w0 (.cons 1 _ (.cons 0 _ (.nil))) ?_;repeat (first|(refine w7 [.int .i64 _,D7 rK _,.int .i64 _] ?_;rotate_left))
  all_goals first
   | refine N7 (d:=0) ?_
     rw[LP o x]
 .cases n
end
section
open Go Go.Sx
def kM(a:Mt):Int×Int:=(a.1,a.2.1)
def XJ{a b:Mt}:qq a b=true↔kM a=kM b:=by
 unfold qq kM;simp[J1]
def RF{a:Mt}:∀ {R:List Mt},(iK qq a R).map kM=if kM a ∈ R.map kM then R.map kM else R.map kM++[kM a]
 | []=>rfl
 | b::R=>by
   unfold iK;cases f:qq a b with
   | true =>
     have e:=XJ.1 f;rw[B2 rfl,B9,B9,B2 (by rw[e];exact B5),e]
   | false =>
     have e:kM a≠kM b:=fun h=>by rw[XJ.2 h]at f;cases f
     rw[B0 K3,B9,B9,RF];by_cases h:kM a ∈ R.map kM
     .rw[B2 h,B2 (C5 _ h)]
     .rw[B0 h,B0 (by rw[A8];exact fun q=>q.elim e h)];rfl
def DG{a:Mt}:∀ {R:List Mt},(iK qq a R).length<=R.length+1
 | []=>A7 _
 | b::R=>by
   unfold iK;split
   .simp
   .have:=DG (a:=a) (R:=R);simp;omega
def DF{a:Mt}:∀ {R:List Mt} {z:Mt},z ∈ iK qq a R->z=a∨z ∈ R
 | [],z,h=>.inl (F7.1 h)
 | b::R,z,h=>by
   unfold iK at h;split at h
   .rcases A8.1 h with h|h
    .exact .inl h
    .exact .inr (C5 _ h)
   .rcases A8.1 h with h|h
    .exact .inr (by rw[h];exact B5)
    .rcases DF h with h|h
     .exact .inl h
     .exact .inr (C5 _ h)
structure GdM (n:Nat) (x:Option (List Mt)):Prop where
 nn:x≠none
 nd:((el x).map kM).Nodup
 bd:∀ a ∈ el x,0<=a.1/\a.1<40/\0<=a.2.1/\a.2.1<80
 le:(el x).length<=n
def GdM.st{n:Nat}{x:Option (List Mt)}(h:GdM n x){r:Int}(hr:0<=r/\r<40)(q:0<=c/\c<80):GdM (n+1) (stM x r c v):=by
 obtain⟨h1,m,h3,p⟩:=h;cases x with
 | none=>exact absurd rfl h1
 | some l =>
   refine⟨U0 _,?_,fun a B=>?_,?_⟩
   .show((iK qq _ l).map kM).Nodup;rw[RF];split
    .exact m
    .rename_i z;exact dX.2 ⟨m,by simp,fun x A y f=>by rw[F7]at f;subst f;exact fun e=>z (e▸A)⟩
   .rcases DF (show a ∈ iK qq _ l from B)with rfl|h
    .exact⟨hr.1,hr.2,q.1,q.2⟩
    .exact h3 a h
   .have:=DG (a:=(r,c,fV (some l) r c || v,fH (some l) r c || !v)) (R:=l);have p:l.length<=n:=p;show(iK qq _ l).length<=n+1;omega
def GdM.co{r:Int} :∀ {m n:Nat} {j:Int} {x:Option (List Mt)},GdM n x->0<=r/\r<40->0<=c->0<=j->c+j+m<=80->GdM (n+m) (coN r c v m j x)
 | 0,n,j,x,h,_,_,_,_=>h
 | m+1,n,j,x,h,hr,hc,hj,hm=>by
   have:GdM (n+1+m) (coN r c v m (j+1) (stM x r (c+j) v)):=GdM.co (h.st (r:=r) (c:=c+j) (v:=v) hr ⟨A6,A6⟩) hr hc A6 (by push_cast at hm ⊢;omega);rw[show n+(m+1)=n+1+m by omega];exact this
def GdM.ro{r w:Int}(hw:0<=w)(f:0<=c)(e:c+w<=80):∀ {m n:Nat} {i:Int} {x:Option (List Mt)},GdM n x->0<=r->0<=i->r+i+m<=40->GdM (n+m*w.toNat) (roN r c w v m i x)
 | 0,n,i,x,h,_,_,_=>by rw[gI];exact h
 | m+1,n,i,x,h,hr,hi,hm=>by
   have h1:=h.co (r:=r+i) (c:=c) (v:=v) (m:=w.toNat) (j:=0) ⟨A6,by push_cast at hm;omega⟩ f A6 A6;have:GdM (n+w.toNat+m*w.toNat) (roN r c w v m (i+1) (coN (r+i) c v w.toNat 0 x)):=GdM.ro hw f e h1 hr A6 (by push_cast at hm ⊢;omega);rw[show n+(m+1)*w.toNat=n+w.toNat+m*w.toNat by rw[G8,dW];omega];exact this
def GdM.le_{n m:Nat}{x:Option (List Mt)}(h:GdM n x)(hm:n<=m):GdM m x:=⟨h.nn,h.nd,h.bd,B8 h.le hm⟩
def GdM.ru{n:Nat}{x:Option (List Mt)}(h:GdM n x){r:Rt}(f:vP r):GdM (n+80) (ruN x r):=by
 obtain⟨h0,h1,e,h3,p,q,y⟩:=f
 have:=h.ro (r:=r.1) (c:=r.2.1) (w:=r.2.2.2.1) (v:=r.2.2.2.2) A6 e A6 (m:=r.2.2.1.toNat) (i:=0) h1 A6 A6;refine this.le_ ?_;have hle:r.2.2.1.toNat*r.2.2.2.1.toNat<=80:=by
  split at h0
  .rw[h0];simp;omega
  .rw[h0];simp;omega
 omega
def GdM.rul:∀ {l:List Rt} {n:Nat} {x:Option (List Mt)},GdM n x->(∀ r ∈ l,vP r)->GdM (n+80*l.length) (ruL l x)
 | [],n,x,h,_=>h
 | r::l,n,x,h,hv=>by
   have:=GdM.rul (l:=l) (h.ru (hv r B5)) fun r hr=>hv r (C5 _ hr)
   rw[show n+80*(r::l).length=n+80+80*l.length by rw[J2];omega];exact this
def YK{l:List Rt}(h:rsP l):GdM 5120 (ruL l (some [])) :=
 (GdM.rul (n:=0) (x:=some []) ⟨U0 _,jS,(fun a e=>by cases e),A7 _⟩ h.2).le_ (by have:=h.1;omega)
def YM{x:Option (List Mt)}(h:((el x).map kM).Nodup){a:Mt}(e:a ∈ el x):fK x a.1 a.2.1=some a:=by
 unfold fK;generalize m:el x=l at *;clear m;induction l with
 | nil=>cases e
 | cons b l n =>
   rw[N2];rw[B9,gW]at h;rcases A8.1 e with rfl|e
   .simp
   .have:((a.1 == b.1) && ((a.2.1 == b.2.1) && true))=false:=by
     cases f:((a.1 == b.1) && ((a.2.1 == b.2.1) && true))with
     | false=>rfl
     | true =>
       exfalso;simp at f;exact h.1 (I5.2 ⟨a,e,by unfold kM;rw[f.1,f.2]⟩)
    rw[this];exact n h.2 e
def OC(x:Option (List Mt))(p:Int×Int):Int:=mkC x p.1 p.2 (fV x p.1 p.2) (fH x p.1 p.2)
def mark(x:Option (List Mt))(p:Int×Int):Kt:=(p.1,p.2,OC x p)
def XX{x:Option (List Mt)}(h:((el x).map kM).Nodup){a:Mt}(e:a ∈ el x):((a.1,a.2.1,mkC x a.1 a.2.1 a.2.2.1 a.2.2.2):Kt)=mark x (kM a):=by
 have f:=YM h e;unfold mark OC fV fH kM;rw[f];rfl
end
end Go.Proofs.Ytjdnjfnhdeplfaa
namespace Go.Proofs
section
open Go.Shelf
def Try.lays122_ren:Go.Shelf.Ren:=⟨fun|122=>27|215=>37|n=>n,fun|3=>3|4=>4|n=>n,fun|n=>n⟩
def Try.lays122:Go.Proofs.Lays.n122 Try.prog Try.lays122_ren:={
 mixed:=F8
 f122:=eD Try.func27
 f215:=eD Try.func37
 t3:=Try.underlying3
 a3:=Try.isAgg3
 z3:=Try.sizeOf3
 v3:=Try.zeroValue3
 t4:=Try.underlying4
 a4:=Try.isAgg4
 z4:=Try.sizeOf4
 v4:=Try.zeroValue4 }
open Go.RowKit in
def Try.cmp_Compare_int(x y:Int)(w:World) :
  Calls Try.prog 27 #[.int .i64 x,.int .i64 y] w fun e w'=>e=.returned (.int .i64 (Lib.compareInt x y))/\w'=w:=Any.cmp_Compare_int Try.lays122 x y w
def Try.sortL_ren:Go.Shelf.Ren:=⟨fun|6=>24|15=>36|14=>35|28=>48|29=>49|20=>40|21=>41|22=>42|23=>43|24=>44|25=>45|26=>46|27=>47|46=>50|47=>51|48=>52|49=>53|50=>54|57=>55|n=>n,fun|22=>32|24=>45|25=>66|3=>3|39=>78|0=>0|53=>93|55=>95|4=>4|46=>86|45=>85|50=>90|5=>5|9=>9|66=>96|70=>100|76=>102|77=>103|n=>n,fun|n=>n⟩
def Try.sortL:Go.Proofs.SlLaysF0.n6 Try.prog Try.sortL_ren:={
 mixed:=F8
 f6:=⟨Try.f24.name,by decide,eD Try.func24⟩
 f14:=⟨Try.f35.name,by decide,eD Try.func35⟩
 f15:=eD Try.func36
 f20:=⟨Try.f40.name,by decide,eD Try.func40⟩
 f21:=⟨Try.f41.name,by decide,eD Try.func41⟩
 f22:=⟨Try.f42.name,by decide,eD Try.func42⟩
 f23:=⟨Try.f43.name,by decide,eD Try.func43⟩
 f24:=⟨Try.f44.name,by decide,eD Try.func44⟩
 f25:=⟨Try.f45.name,by decide,eD Try.func45⟩
 f26:=⟨Try.f46.name,by decide,eD Try.func46⟩
 f27:=⟨Try.f47.name,by decide,eD Try.func47⟩
 f28:=eD Try.func48
 f29:=eD Try.func49
 f46:=⟨Try.f50.name,by decide,eD Try.func50⟩
 f47:=eD Try.func51
 f48:=eD Try.func52
 f49:=⟨Try.f53.name,by decide,eD Try.func53⟩
 f50:=⟨Try.f54.name,by decide,eD Try.func54⟩
 f57:=⟨Try.f55.name,by decide,eD Try.func55⟩
 t0:=Try.underlying0
 a0:=Try.isAgg0
 z0:=Try.sizeOf0
 v0:=Try.zeroValue0
 t3:=Try.underlying3
 a3:=Try.isAgg3
 z3:=Try.sizeOf3
 v3:=Try.zeroValue3
 t4:=Try.underlying4
 a4:=Try.isAgg4
 z4:=Try.sizeOf4
 v4:=Try.zeroValue4
 t5:=Try.underlying5
 a5:=Try.isAgg5
 z5:=Try.sizeOf5
 v5:=Try.zeroValue5
 t9:=Try.underlying9
 a9:=Try.isAgg9
 z9:=Try.sizeOf9
 v9:=Try.zeroValue9
 t22:=Try.underlying32
 a22:=Try.isAgg32
 z22:=Try.sizeOf32
 v22:=Try.zeroValue32
 t25:=Try.underlying66
 a25:=Try.isAgg66
 z25:=Try.sizeOf66
 v25:=Try.zeroValue66
 t39:=Try.underlying78
 a39:=Try.isAgg78
 z39:=Try.sizeOf78
 v39:=Try.zeroValue78
 t45:=Try.underlying85
 a45:=Try.isAgg85
 z45:=Try.sizeOf85
 v45:=Try.zeroValue85
 t46:=Try.underlying86
 a46:=Try.isAgg86
 z46:=Try.sizeOf86
 v46:=Try.zeroValue86
 t50:=Try.underlying90
 a50:=Try.isAgg90
 z50:=Try.sizeOf90
 v50:=Try.zeroValue90
 t53:=Try.underlying93
 a53:=Try.isAgg93
 z53:=Try.sizeOf93
 v53:=Try.zeroValue93
 t55:=Try.underlying95
 a55:=Try.isAgg95
 z55:=Try.sizeOf95
 v55:=Try.zeroValue95
 t66:=Try.underlying96
 a66:=Try.isAgg96
 z66:=Try.sizeOf96
 v66:=Try.zeroValue96
 t70:=Try.underlying100
 a70:=Try.isAgg100
 z70:=Try.sizeOf100
 v70:=Try.zeroValue100
 t76:=Try.underlying102
 a76:=Try.isAgg102
 z76:=Try.sizeOf102
 v76:=Try.zeroValue102
 t77:=Try.underlying103
 a77:=Try.isAgg103
 z77:=Try.sizeOf103
 v77:=Try.zeroValue103 }
end
section
open Go.Shelf Go.RowKit Go.Lib Go.Sort
set_option maxHeartbeats 2000000 in
def A4P(b:Nat)(x y r:Int)(m:x≠0->r=x)(f:x=0->r=y)(W:World)(T:TypeId)(fr:Nat×Nat)(h:W.heap[b]? = some (.cells #[.int .i64 x,.int .i64 y] T fr)):Calls Try.prog 26 #[.slice (some ⟨b,0,none⟩) 2 2] W fun e w'=>e=.returned (.int .i64 r)/\w'=W:=by
 have h0:W.cell? ⟨b,0,none⟩=some (.int .i64 x):=by simp[World.cell?,h]
 have h1:W.cell? ⟨b,1,none⟩=some (.int .i64 y):=by simp[World.cell?,h]
 go_enter Try.func26,Try.ntmps26
 go_wp2
 refine wp_loop_rounds 3 ?_;rw[rounds_succ]
 go_wp2
 .go_ret
  exact⟨by rw[m (by simpa using(by assumption:(x != 0)=true))];rfl,rfl⟩
 have n:x=0:=by simpa using(by assumption:(x != 0)=false)
 rw[rounds_succ]
 go_wp2
 .go_ret
  exact⟨by rw[f n];rfl,rfl⟩
 have p:y=0:=by simpa using(by assumption:(y != 0)=false)
 rw[rounds_succ]
 go_wp2
 go_ret
 exact⟨by rw[f n,p];rfl,rfl⟩
end
end Go.Proofs
namespace Go.Proofs.Ytjdnjfnhdeplfaa
open Go Go.Sx Go.Sort Go.Shelf
variable {i j:Nat}{u v:Value}{args:R3}
noncomputable def c25:Code:=(Try.f25.body).getD .skip
noncomputable def DP(q:List Bool)(c:Code):Array Oper:=match G5 q c with|some (.region _ o _)=>o|_=>#[]
noncomputable def IE(q:List Bool)(c:Code):Nat:=match G5 q c with|some (.region i _ _)=>i|_=>0
noncomputable def g1:Array Oper:=DP [false] c25
noncomputable def g2:Array Oper:=DP [true,false] c25
def A3k:Try.f25.body=some c25:=rfl
def A1_:c25=.seq (.region (IE [false] c25) g1 false) (.seq (.region (IE [true,false] c25) g2 true) .ret):=F8
def A2_:g1.toList=[g1.getD 0 default,g1.getD 1 default,g1.getD 2 default]:=F8
def nV:g2.size=13:=F8
def A1l:((List.range 13).all fun i=>(g2.getD i default).after.toList.all fun e=>Nat.blt e.on i)=true:=F8
def A0M(h:i<13):g2[i]? = some (g2.getD i default):=by
 have:i<g2.size:=by rw[nV];exact h
 simp[B1,this]
def bH{o:Oper}{listed:Array Bool}(h:∀ e ∈ o.after.toList,Region.binds .any e=true->listed.getD e.on false=true)(j:Nat)(m:(o.after.toList.any fun e=>Nat.beq e.on j && Region.binds .any e)=true):listed.getD j false=true:=by
 obtain⟨e,h1,f⟩:=L1.1 m;obtain⟨f,h3⟩:=M7 f
 have:=h e h1 h3;rw[A0 f]at this;exact this
def zN{listed:Array Bool}(hi:i<listed.size):(listed.setIfInBounds i true).getD j false=if j=i then true else listed.getD j false:=by
 simp only[B1,D1];by_cases h:j=i
 .subst h;simp[hi]
 .rw[B0 (fun e=>h e.symm),B0 h]
structure MI (T:List (Nat×(Nat×Value))) (b2 b3:Nat) (c1 c2:Int) (W1:World) (listed:Array Bool) (a:Act) (w:World):Prop where
 sz:a.tmps.size=17
 df:a.defers=[]
 e2:a.eval (.tmp 2)=.pointer (some ⟨b2,0,none⟩)
 e3:a.eval (.tmp 3)=.pointer (some ⟨b3,0,none⟩)
 tb:∀ e ∈ T,listed.getD e.1 false=true->a.eval (.tmp e.2.1)=e.2.2
 ro:listed.getD 10 false=true->∃ b,a.eval (.tmp 15)=.slice (some ⟨b,0,none⟩) 2 2/\w.heap[b]? = some (.cells #[.int .i64 c1,.int .i64 c2] 3 (0,0))
 wd:∃ q os,w=grow (W1.drewN q) os
def tT(f e:Nat)(p m n q c1 c2 r:Int):List (Nat×(Nat×Value)):=[(0,(5,.pointer (some ⟨f,0,none⟩))),(1,(6,.int .i64 p)),(2,(7,.pointer (some ⟨e,0,none⟩))),(3,(8,.int .i64 n)),(4,(9,.int .i64 c1)),
 (5,(10,.pointer (some ⟨f,1,none⟩))),(6,(11,.int .i64 m)),(7,(12,.pointer (some ⟨e,1,none⟩))),(8,(13,.int .i64 q)),(9,(14,.int .i64 c2)),(11,(16,.int .i64 r)),(12,(4,.int .i64 r))]
def MI.put{T:List (Nat×(Nat×Value))}{x r:Nat}{c1 c2:Int}{p:World}{listed:Array Bool}{a:Act}{w:World}(h:MI T x r c1 c2 p listed a w){d:Nat}(hi:i<listed.size)(z:d<17)(y:d≠2)(h3:d≠3)(n:d≠15)(B:i≠10)
  (A:∀ e ∈ T,(e.1=i->e.2=(d,v))/\(e.1≠i->e.2.1≠d)):MI T x r c1 c2 p (listed.setIfInBounds i true) (a.put (some d) v) w:=by
 refine⟨by rw[t8];exact h.sz,h.df,by rw[X8 y];exact h.e2,by rw[X8 h3];exact h.e3,fun e he m=>?_,fun m=>?_,h.wd⟩
 .obtain⟨t1,t2⟩:=A e he;by_cases f:e.1=i
  .rw[t1 f];exact u5 (by rw[h.sz];exact z)
  .rw[X8 (fun q=>t2 f q.symm)];rw[zN hi,B0 f]at m;exact h.tb e he m
 .rw[zN hi,B0 (fun q=>B q.symm)]at m;rw[X8 n];exact h.ro m
def A2g(b f:Nat)(w:World):(Instr.fieldAt 45 (.pointer (some ⟨b,0,none⟩)) 0).run Try.prog w=.ok (.pointer (some ⟨b,0,none⟩)) w:=F8
def A2f(b f:Nat)(w:World):(Instr.fieldAt 45 (.pointer (some ⟨b,0,none⟩)) 1).run Try.prog w=.ok (.pointer (some ⟨b,1,none⟩)) w:=F8
def A4k(w:World):(isAgg 3).run Try.prog w=.ok false w:=F8
def zS{o:Oper}{a:Act}{w:World}{t x f:Nat}(e:o.op=.fieldAddr t (.tmp x) f)(m:a.eval (.tmp x)=u)(hr:(Instr.fieldAt t u f).run Try.prog w=.ok v w):(execOp a.eval o).run Try.prog w=.ok (.value v) w:=by
 unfold execOp;rw[e];simp[m,A4,hr,Result.andThen,Sem.run_pure]
def zR{o:Oper}{a:Act}{w:World}{x b s:Nat}(e:o.op=.load 3 (.tmp x))(f:a.eval (.tmp x)=.pointer (some ⟨b,s,none⟩))(m:w.cell? ⟨b,s,none⟩=some v):(execOp a.eval o).run Try.prog w=.ok (.value v) w:=by
 unfold execOp;rw[e];simp[f,Instr.loadAt,Instr.sureAddr,loadVar,A4,A4k,Result.andThen,run_load,m]
def A1T{o:Oper}{a:Act}{w:World}{x:Nat}(e:o.op=.assign (.tmp x))(f:a.eval (.tmp x)=v):(execOp a.eval o).run Try.prog w=.ok (.value v) w:=by
 unfold execOp;rw[e];show Sem.run _ (pure (Next.value (a.eval (.tmp x)))) w=_;rw[f];rfl
def A1R{o:Oper}{a:Act}{w:World}{x y:Nat}{c d:Int}(e:o.op=.buildSlice 79 2 #[(0,.tmp x),(1,.tmp y)])(m:a.eval (.tmp x)=.int .i64 c)(f:a.eval (.tmp y)=.int .i64 d):(execOp a.eval o).run Try.prog w=.ok (.value (.slice (some ⟨w.heap.size,0,none⟩) 2 2)) { w with heap:=w.heap.push (.cells #[.int .i64 c,.int .i64 d] 3 (0,0)) }:=by
 unfold execOp;rw[e];simp only[m,f,U7,B9,E5];have hr:(Instr.buildSlice 79 2 #[(0,.int .i64 c),(1,.int .i64 d)]).run Try.prog w=.ok (.slice (some ⟨w.heap.size,0,none⟩) 2 2) { w with heap:=w.heap.push (.cells #[.int .i64 c,.int .i64 d] 3 (0,0)) }:=F8;simp[A4,hr,Result.andThen,Sem.run_pure]
def q0:(g2.getD 0 default).op=.fieldAddr 45 (.tmp 2) 0/\(g2.getD 0 default).dst=some 5/\(g2.getD 0 default).guard=none:=⟨by kernel_rfl,by kernel_rfl,by kernel_rfl⟩
def q1:(g2.getD 1 default).op=.load 3 (.tmp 5)/\(g2.getD 1 default).dst=some 6/\(g2.getD 1 default).guard=none:=⟨by kernel_rfl,by kernel_rfl,by kernel_rfl⟩
def A4b:((g2.getD 1 default).after.toList.any fun e=>Nat.beq e.on 0 && Region.binds .any e)=true:=F8
def q2:(g2.getD 2 default).op=.fieldAddr 45 (.tmp 3) 0/\(g2.getD 2 default).dst=some 7/\(g2.getD 2 default).guard=none:=⟨by kernel_rfl,by kernel_rfl,by kernel_rfl⟩
def q3:(g2.getD 3 default).op=.load 3 (.tmp 7)/\(g2.getD 3 default).dst=some 8/\(g2.getD 3 default).guard=none:=⟨by kernel_rfl,by kernel_rfl,by kernel_rfl⟩
def A4a:((g2.getD 3 default).after.toList.any fun e=>Nat.beq e.on 2 && Region.binds .any e)=true:=F8
noncomputable def ty4:Array TypeId:=match (g2.getD 4 default).op with|.call c=>c.argTypes|_=>#[]
def q4:(g2.getD 4 default).op=.call ⟨.value (.func 27),#[.tmp 6,.tmp 8],ty4⟩/\(g2.getD 4 default).dst=some 9/\(g2.getD 4 default).guard=none:=⟨by kernel_rfl,by kernel_rfl,by kernel_rfl⟩
def A4Z:((g2.getD 4 default).after.toList.any fun e=>Nat.beq e.on 1 && Region.binds .any e)=true:=F8
def A4Y:((g2.getD 4 default).after.toList.any fun e=>Nat.beq e.on 3 && Region.binds .any e)=true:=F8
def q5:(g2.getD 5 default).op=.fieldAddr 45 (.tmp 2) 1/\(g2.getD 5 default).dst=some 10/\(g2.getD 5 default).guard=none:=⟨by kernel_rfl,by kernel_rfl,by kernel_rfl⟩
def q6:(g2.getD 6 default).op=.load 3 (.tmp 10)/\(g2.getD 6 default).dst=some 11/\(g2.getD 6 default).guard=none:=⟨by kernel_rfl,by kernel_rfl,by kernel_rfl⟩
def A4X:((g2.getD 6 default).after.toList.any fun e=>Nat.beq e.on 5 && Region.binds .any e)=true:=F8
def q7:(g2.getD 7 default).op=.fieldAddr 45 (.tmp 3) 1/\(g2.getD 7 default).dst=some 12/\(g2.getD 7 default).guard=none:=⟨by kernel_rfl,by kernel_rfl,by kernel_rfl⟩
def q8:(g2.getD 8 default).op=.load 3 (.tmp 12)/\(g2.getD 8 default).dst=some 13/\(g2.getD 8 default).guard=none:=⟨by kernel_rfl,by kernel_rfl,by kernel_rfl⟩
def A4W:((g2.getD 8 default).after.toList.any fun e=>Nat.beq e.on 7 && Region.binds .any e)=true:=F8
noncomputable def ty9:Array TypeId:=match (g2.getD 9 default).op with|.call c=>c.argTypes|_=>#[]
def q9:(g2.getD 9 default).op=.call ⟨.value (.func 27),#[.tmp 11,.tmp 13],ty9⟩/\(g2.getD 9 default).dst=some 14/\(g2.getD 9 default).guard=none:=⟨by kernel_rfl,by kernel_rfl,by kernel_rfl⟩
def A4V:((g2.getD 9 default).after.toList.any fun e=>Nat.beq e.on 6 && Region.binds .any e)=true:=F8
def A4U:((g2.getD 9 default).after.toList.any fun e=>Nat.beq e.on 8 && Region.binds .any e)=true:=F8
def q10:(g2.getD 10 default).op=.buildSlice 79 2 #[(0,.tmp 9),(1,.tmp 14)]/\(g2.getD 10 default).dst=some 15/\(g2.getD 10 default).guard=none:=⟨by kernel_rfl,by kernel_rfl,by kernel_rfl⟩
def A3D:((g2.getD 10 default).after.toList.any fun e=>Nat.beq e.on 4 && Region.binds .any e)=true:=F8
def A3C:((g2.getD 10 default).after.toList.any fun e=>Nat.beq e.on 9 && Region.binds .any e)=true:=F8
noncomputable def A4F:Array TypeId:=match (g2.getD 11 default).op with|.call c=>c.argTypes|_=>#[]
def q11:(g2.getD 11 default).op=.call ⟨.value (.func 26),#[.tmp 15],A4F⟩/\(g2.getD 11 default).dst=some 16/\(g2.getD 11 default).guard=none:=⟨by kernel_rfl,by kernel_rfl,by kernel_rfl⟩
def A15:((g2.getD 11 default).after.toList.any fun e=>Nat.beq e.on 10 && Region.binds .any e)=true:=F8
def q12:(g2.getD 12 default).op=.assign (.tmp 16)/\(g2.getD 12 default).dst=some 4/\(g2.getD 12 default).guard=none:=⟨by kernel_rfl,by kernel_rfl,by kernel_rfl⟩
def A14:((g2.getD 12 default).after.toList.any fun e=>Nat.beq e.on 11 && Region.binds .any e)=true:=F8
def r2(c1 c2:Int):Int:=if c1=0 then c2 else c1
def A3Q{w:World}:(callFunc 27 args).run Try.prog w=.ok (.enter 27 args) w:=v7 Try.func27 rfl F8
def A4h{w:World}:(callFunc 26 args).run Try.prog w=.ok (.enter 26 args) w:=v7 Try.func26 rfl F8
def UJ{c1 c2:Int}{N M:Nat}{C F X E H Z:Int}{B:World}(Y:B.heap[N]? = some (.cells #[.int .i64 C,.int .i64 F,.int .i64 X] 45 (0,0)))(h3:B.heap[M]? = some (.cells #[.int .i64 E,.int .i64 H,.int .i64 Z] 45 (0,0)))
  (O:∀ W,Calls Try.prog 27 #[.int .i64 C,.int .i64 E] W fun e w'=>e=.returned (.int .i64 c1)/\w'=W) (R:∀ W,Calls Try.prog 27 #[.int .i64 F,.int .i64 H] W fun e w'=>e=.returned (.int .i64 c2)/\w'=W)
  {Q:Exit->Act->World->Prop} (listed:Array Bool) (a:Act) (w:World) (i:Nat) (o:Oper) (V:listed.size=g2.size) (inv:MI (tT N M C F E H c1 c2 (r2 c1 c2)) N M c1 c2 B listed a w) (p:g2[i]? = some o) (hl:listed.getD i false=false)
  (r:∀ e ∈ o.after.toList,Region.binds .any e=true->listed.getD e.on false=true):m9 Try.prog none g2 Q i (MI (tT N M C F E H c1 c2 (r2 c1 c2)) N M c1 c2 B (listed.setIfInBounds i true)) a w:=by
 have hi:i<13:=by rw[<- nV];exact(B7.1 p).1
 have f:i<listed.size:=by rw[V,nV];exact hi
 have y:=p;rw[A0M hi]at y;have y:=A5 y;subst y;obtain⟨q,os,hw⟩:=inv.wd;have S:∀ (b:Nat) (o:Obj),B.heap[b]? = some o->w.heap[b]? = some o:=fun b o h=>by
  rw[hw];show(B.heap++os)[b]? = _;rw[J3 (B7.1 h).1];exact h
 have w2:=S _ _ Y;have w3:=S _ _ h3;have x:i=0∨i=1∨i=2∨i=3∨i=4∨i=5∨i=6∨i=7∨i=8∨i=9∨i=10∨i=11∨i=12:=by omega
 rcases x with rfl|rfl|rfl|rfl|rfl|rfl|rfl|rfl|rfl|rfl|rfl|rfl|rfl
 .obtain⟨p1,n,m⟩:=q0;refine c8 p m (by unfold Oper.about;rw[p1]) (fun c=>by rw[p1];exact fun h=>by cases h) (zS p1 inv.e2 (A2g _ 0 _)) ?_;rw[n];exact inv.put f (by decide) (by decide) (by decide) (by decide) (by decide) (by intro e he;simp only[tT,A8,C4,or_false]at he;rcases he with rfl|rfl|rfl|rfl|rfl|rfl|rfl|rfl|rfl|rfl|rfl|rfl<;>simp)
 .obtain⟨p1,n,m⟩:=q1;have z:=(inv.tb _ (by simp only[tT,A8];exact .inl rfl) (bH r 0 A4b));refine c8 p m (by unfold Oper.about;rw[p1]) (fun c=>by rw[p1];exact fun h=>by cases h) (zR (v:=.int .i64 C) p1 z (by simp[World.cell?,w2])) ?_;rw[n];exact inv.put f (by decide) (by decide) (by decide) (by decide) (by decide) (by intro e he;simp only[tT,A8,C4,or_false]at he;rcases he with rfl|rfl|rfl|rfl|rfl|rfl|rfl|rfl|rfl|rfl|rfl|rfl<;>simp)
 .obtain⟨p1,n,m⟩:=q2;refine c8 p m (by unfold Oper.about;rw[p1]) (fun c=>by rw[p1];exact fun h=>by cases h) (zS p1 inv.e3 (A2g _ 0 _)) ?_;rw[n];exact inv.put f (by decide) (by decide) (by decide) (by decide) (by decide) (by intro e he;simp only[tT,A8,C4,or_false]at he;rcases he with rfl|rfl|rfl|rfl|rfl|rfl|rfl|rfl|rfl|rfl|rfl|rfl<;>simp)
 .obtain⟨p1,n,m⟩:=q3;have z:=(inv.tb _ (by simp only[tT,A8];exact .inr (.inr (.inl rfl))) (bH r 2 A4a));refine c8 p m (by unfold Oper.about;rw[p1]) (fun c=>by rw[p1];exact fun h=>by cases h) (zR (v:=.int .i64 E) p1 z (by simp[World.cell?,w3])) ?_;rw[n];exact inv.put f (by decide) (by decide) (by decide) (by decide) (by decide) (by intro e he;simp only[tT,A8,C4,or_false]at he;rcases he with rfl|rfl|rfl|rfl|rfl|rfl|rfl|rfl|rfl|rfl|rfl|rfl<;>simp)
 .obtain⟨p1,n,m⟩:=q4;have A:=(inv.tb _ (by simp only[tT,A8];exact .inr (.inl rfl)) (bH r 1 A4Z));have z2:=(inv.tb _ (by simp only[tT,A8];exact .inr (.inr (.inr (.inl rfl)))) (bH r 3 A4Y));refine lI p m p1 (args:=#[.int .i64 C,.int .i64 E]) (by simp only[U7,B9,E5,A,z2]) A3Q ((O w).mono fun e w' ⟨K,L⟩=>⟨_,K,?_⟩);rw[n,L];exact inv.put f (by decide) (by decide) (by decide) (by decide) (by decide) (by intro e he;simp only[tT,A8,C4,or_false]at he;rcases he with rfl|rfl|rfl|rfl|rfl|rfl|rfl|rfl|rfl|rfl|rfl|rfl<;>simp)
 .obtain⟨p1,n,m⟩:=q5;refine c8 p m (by unfold Oper.about;rw[p1]) (fun c=>by rw[p1];exact fun h=>by cases h) (zS p1 inv.e2 (A2f _ 0 _)) ?_;rw[n];exact inv.put f (by decide) (by decide) (by decide) (by decide) (by decide) (by intro e he;simp only[tT,A8,C4,or_false]at he;rcases he with rfl|rfl|rfl|rfl|rfl|rfl|rfl|rfl|rfl|rfl|rfl|rfl<;>simp)
 .obtain⟨p1,n,m⟩:=q6;have z:=(inv.tb _ (by simp only[tT,A8];exact .inr (.inr (.inr (.inr (.inr (.inl rfl)))))) (bH r 5 A4X));refine c8 p m (by unfold Oper.about;rw[p1]) (fun c=>by rw[p1];exact fun h=>by cases h) (zR (v:=.int .i64 F) p1 z (by simp[World.cell?,w2])) ?_;rw[n];exact inv.put f (by decide) (by decide) (by decide) (by decide) (by decide) (by intro e he;simp only[tT,A8,C4,or_false]at he;rcases he with rfl|rfl|rfl|rfl|rfl|rfl|rfl|rfl|rfl|rfl|rfl|rfl<;>simp)
 .obtain⟨p1,n,m⟩:=q7;refine c8 p m (by unfold Oper.about;rw[p1]) (fun c=>by rw[p1];exact fun h=>by cases h) (zS p1 inv.e3 (A2f _ 0 _)) ?_;rw[n];exact inv.put f (by decide) (by decide) (by decide) (by decide) (by decide) (by intro e he;simp only[tT,A8,C4,or_false]at he;rcases he with rfl|rfl|rfl|rfl|rfl|rfl|rfl|rfl|rfl|rfl|rfl|rfl<;>simp)
 .obtain⟨p1,n,m⟩:=q8;have z:=(inv.tb _ (by simp only[tT,A8];exact .inr (.inr (.inr (.inr (.inr (.inr (.inr (.inl rfl)))))))) (bH r 7 A4W));refine c8 p m (by unfold Oper.about;rw[p1]) (fun c=>by rw[p1];exact fun h=>by cases h) (zR (v:=.int .i64 H) p1 z (by simp[World.cell?,w3])) ?_;rw[n];exact inv.put f (by decide) (by decide) (by decide) (by decide) (by decide) (by intro e he;simp only[tT,A8,C4,or_false]at he;rcases he with rfl|rfl|rfl|rfl|rfl|rfl|rfl|rfl|rfl|rfl|rfl|rfl<;>simp)
 .obtain⟨p1,n,m⟩:=q9;have A:=(inv.tb _ (by simp only[tT,A8];exact .inr (.inr (.inr (.inr (.inr (.inr (.inl rfl))))))) (bH r 6 A4V));have z2:=(inv.tb _ (by simp only[tT,A8];exact .inr (.inr (.inr (.inr (.inr (.inr (.inr (.inr (.inl rfl))))))))) (bH r 8 A4U));refine lI p m p1 (args:=#[.int .i64 F,.int .i64 H]) (by simp only[U7,B9,E5,A,z2]) A3Q ((R w).mono fun e w' ⟨K,L⟩=>⟨_,K,?_⟩);rw[n,L];exact inv.put f (by decide) (by decide) (by decide) (by decide) (by decide) (by intro e he;simp only[tT,A8,C4,or_false]at he;rcases he with rfl|rfl|rfl|rfl|rfl|rfl|rfl|rfl|rfl|rfl|rfl|rfl<;>simp)
 .obtain⟨p1,n,m⟩:=q10;have A:=(inv.tb _ (by simp only[tT,A8];exact .inr (.inr (.inr (.inr (.inl rfl))))) (bH r 4 A3D));have z2:=(inv.tb _ (by simp only[tT,A8];exact .inr (.inr (.inr (.inr (.inr (.inr (.inr (.inr (.inr (.inl rfl)))))))))) (bH r 9 A3C));refine c8 p m (by unfold Oper.about;rw[p1]) (fun c=>by rw[p1];exact fun h=>by cases h) (A1R p1 A z2) ?_;rw[n];refine⟨by rw[t8];exact inv.sz,inv.df,by rw[X8 (by decide)];exact inv.e2,by rw[X8 (by decide)];exact inv.e3,fun e he J=>?_,fun _=>⟨_,u5 (by rw[inv.sz];decide),by simp⟩,q,os++#[.cells #[.int .i64 c1,.int .i64 c2] 3 (0,0)],?_⟩
  .have I:e.1≠10/\15≠e.2.1:=by
    simp only[tT,A8,C4,or_false]at he;rcases he with rfl|rfl|rfl|rfl|rfl|rfl|rfl|rfl|rfl|rfl|rfl|rfl<;>simp
   rw[zN f,B0 I.1]at J;rw[X8 I.2];exact inv.tb e he J
  .rw[<- grow_grow,<- hw];exact alloc_eq_grow _ _
 .obtain⟨p1,n,m⟩:=q11;obtain⟨b,A,z2⟩:=inv.ro (bH r 10 A15);refine lI p m p1 (args:=#[.slice (some ⟨b,0,none⟩) 2 2]) (by simp only[U7,B9,E5,A]) A4h ((A4P b c1 c2 (r2 c1 c2) (fun h=>B0 h) (fun h=>B2 h) w 3 (0,0) z2).mono fun e w' ⟨K,L⟩=>⟨_,K,?_⟩);rw[n,L];exact inv.put f (by decide) (by decide) (by decide) (by decide) (by decide) (by intro e he;simp only[tT,A8,C4,or_false]at he;rcases he with rfl|rfl|rfl|rfl|rfl|rfl|rfl|rfl|rfl|rfl|rfl|rfl<;>simp)
 .obtain⟨p1,n,m⟩:=q12;have z:=inv.tb (11,(16,.int .i64 (r2 c1 c2))) (by simp[tT]) (bH r 11 A14);refine c8 p m (by unfold Oper.about;rw[p1]) (fun c=>by rw[p1];exact fun h=>by cases h) (A1T (v:=.int .i64 (r2 c1 c2)) p1 z) ?_;rw[n];exact inv.put f (by decide) (by decide) (by decide) (by decide) (by decide) (by intro e he;simp only[tT,A8,C4,or_false]at he;rcases he with rfl|rfl|rfl|rfl|rfl|rfl|rfl|rfl|rfl|rfl|rfl|rfl<;>simp)
def A4S:(g1.getD 0 default).op=.box 45 (.tmp 0)/\(g1.getD 0 default).dst=some 2/\(g1.getD 0 default).guard=none:=⟨by kernel_rfl,by kernel_rfl,by kernel_rfl⟩
def A4R:(g1.getD 1 default).op=.box 45 (.tmp 1)/\(g1.getD 1 default).dst=some 3/\(g1.getD 1 default).guard=none:=⟨by kernel_rfl,by kernel_rfl,by kernel_rfl⟩
noncomputable def z0:Operand:=match (g1.getD 2 default).op with|.assign x=>x|_=>default
def A4Q:(g1.getD 2 default).op=.assign z0/\(g1.getD 2 default).dst=some 4/\(g1.getD 2 default).guard=none:=⟨by kernel_rfl,by kernel_rfl,by kernel_rfl⟩
def QN{o:Oper}{a:Act}{w:World}{x:Nat}{vs:D0}(e:o.op=.box 45 (.tmp x))(f:a.eval (.tmp x)=.agg vs.toArray):(execOp a.eval o).run Try.prog w=.ok (.value (.pointer (some ⟨w.heap.size,0,none⟩))) { w with heap:=w.heap.push (.cells vs.toArray 45 (0,0)) }:=by
 unfold execOp;rw[e];simp only[f];rfl
def A1S{o:Oper}{a:Act}{w:World}{x:Operand}(e:o.op=.assign x):(execOp a.eval o).run Try.prog w=.ok (.value (a.eval x)) w:=by
 unfold execOp;rw[e];rfl
set_option maxHeartbeats 4000000 in
def yJ(f m x n p A:Int)(W:World):Calls Try.prog 25 #[.agg #[.int .i64 f,.int .i64 m,.int .i64 x],.agg #[.int .i64 n,.int .i64 p,.int .i64 A]] W fun e w'=>e=.returned (.int .i64 (r2 (Lib.compareInt f n) (Lib.compareInt m p)))/\∃ q M,w'=grow (W.drewN q) M:=by
 refine Go.Sx.calls_of_wp Try.func25 A3k ?_;rw[A1_];obtain⟨a0,r⟩:∃ a0:Act,a0={ tmps:=#[.agg #[.int .i64 f,.int .i64 m,.int .i64 x],.agg #[.int .i64 n,.int .i64 p,.int .i64 A]]++Array.replicate (Try.f25.ntmps-2) undef,defers:=[] }:=⟨_,rfl⟩;have K:Try.f25.ntmps=17:=F8;have s0:a0.tmps.size=17:=by rw[r,K];rfl
 have N:a0.eval (.tmp 0)=.agg #[.int .i64 f,.int .i64 m,.int .i64 x]:=by rw[r,K];rfl
 have X:a0.eval (.tmp 1)=.agg #[.int .i64 n,.int .i64 p,.int .i64 A]:=by rw[r,K];rfl
 have d0:a0.defers=[]:=by rw[r]
 show Code.wpIn _ _ _ _ _ { tmps:=#[.agg #[.int .i64 f,.int .i64 m,.int .i64 x],.agg #[.int .i64 n,.int .i64 p,.int .i64 A]]++Array.replicate (Try.f25.ntmps-2) undef,defers:=[] } W;rw[<- r];clear r;refine wpIn_seq (R7 ?_);rw[A2_];obtain⟨p1,H,F⟩:=A4S;refine dZ F (by unfold Oper.about;rw[p1]) (fun c=>by rw[p1];exact fun h=>by cases h) (QN (vs:=[.int .i64 f,.int .i64 m,.int .i64 x]) p1 N) ?_;rw[H];obtain⟨p1,H,F⟩:=A4R;refine dZ F (by unfold Oper.about;rw[p1]) (fun c=>by rw[p1];exact fun h=>by cases h) (QN (vs:=[.int .i64 n,.int .i64 p,.int .i64 A]) p1 (by rw[X8 (by decide)];exact X)) ?_;rw[H];obtain⟨p1,H,F⟩:=A4Q;refine dZ F (by unfold Oper.about;rw[p1]) (fun c=>by rw[p1];exact fun h=>by cases h) (A1S p1) ?_;rw[H];obtain⟨z,Y⟩:∃ z,z=((a0.put (some 2) (.pointer (some ⟨W.heap.size,0,none⟩))).put (some 3) (.pointer (some ⟨(W.heap.push (.cells #[.int .i64 f,.int .i64 m,.int .i64 x] 45 (0,0))).size,0,none⟩))).eval z0:=⟨_,rfl⟩;obtain⟨E,y⟩:∃ E:World,E={ W with heap:=(W.heap.push (.cells #[.int .i64 f,.int .i64 m,.int .i64 x] 45 (0,0))).push (.cells #[.int .i64 n,.int .i64 p,.int .i64 A] 45 (0,0)) }:=⟨_,rfl⟩;have R:E.heap[W.heap.size]? = some (.cells #[.int .i64 f,.int .i64 m,.int .i64 x] 45 (0,0)):=by
  rw[y];show((W.heap.push _).push _)[W.heap.size]? = _;rw[L2,B0 (by simp),L2,B2 rfl]
 have h3:E.heap[W.heap.size+1]? = some (.cells #[.int .i64 n,.int .i64 p,.int .i64 A] 45 (0,0)):=by
  rw[y];show((W.heap.push _).push _)[W.heap.size+1]? = _;rw[L2,B2 (by simp)]
 have L:E=grow W #[.cells #[.int .i64 f,.int .i64 m,.int .i64 x] 45 (0,0),.cells #[.int .i64 n,.int .i64 p,.int .i64 A] 45 (0,0)]:=by
  rw[y];exact U4 (fun h=>({ W with heap:=h }:World)) (by apply I1;simp)
 show Exit.then _ _ Exit.normal _ _;refine wpIn_seq (sK (rd:=none) KD (MI (tT W.heap.size (W.heap.size+1) f m n p (Lib.compareInt f n) (Lib.compareInt m p) (r2 (Lib.compareInt f n) (Lib.compareInt m p))) W.heap.size (W.heap.size+1) (Lib.compareInt f n) (Lib.compareInt m p) E)
  (fun i o C e he=>?_) (fun listed a w i o O inv C B S=>UJ R h3 (fun V=>Try.cmp_Compare_int f n V) (fun V=>Try.cmp_Compare_int m p V) listed a w i o O inv C B S) (fun listed a w inv I=>?_) ?_)
 .have hi:i<13:=by rw[<- nV];exact(B7.1 C).1
  rw[A0M hi]at C;have C:=A5 C;subst C;exact A1 (D3.1 (D3.1 A1l i (Y5.2 hi)) e he)
 .refine wpIn_ret ?_;refine⟨.inr rfl,inv.df,?_⟩;have J:=inv.tb (12,(4,.int .i64 (r2 (Lib.compareInt f n) (Lib.compareInt m p)))) (by simp[tT]) (I 12 (by rw[nV];decide));refine⟨.int .i64 (r2 (Lib.compareInt f n) (Lib.compareInt m p)),?_,rfl,?_⟩
  .have:=results_tmp (P:=Try.prog) (fn:=Try.f25) rfl a.tmps w;rw[this];have J:a.tmps.getD 4 undef=.int .i64 (r2 (Lib.compareInt f n) (Lib.compareInt m p)):=J;rw[J]
  .obtain⟨q,os,hw⟩:=inv.wd;refine⟨q,#[.cells #[.int .i64 f,.int .i64 m,.int .i64 x] 45 (0,0),.cells #[.int .i64 n,.int .i64 p,.int .i64 A] 45 (0,0)]++os,?_⟩;rw[hw,L,<- grow_grow];rfl
 .refine⟨by rw[t8,t8,t8];exact s0,d0,by rw[X8 (by decide),X8 (by decide),u5 (by rw[s0];decide)],?_,fun e he B=>?_,fun B=>?_,1,#[],?_⟩
  .rw[X8 (by decide),u5 (by rw[t8,s0];decide)];simp
  .exfalso;have:(Array.replicate g2.size false).getD e.1 false=false:=by simp[B1,T6];split<;>rfl
   rw[this]at B;cases B
  .exfalso;have:(Array.replicate g2.size false).getD 10 false=false:=by simp[B1,T6];split<;>rfl
   rw[this]at B;cases B
  .rw[y];simp[grow,World.drewN]
#print axioms yJ
end Go.Proofs.Ytjdnjfnhdeplfaa
