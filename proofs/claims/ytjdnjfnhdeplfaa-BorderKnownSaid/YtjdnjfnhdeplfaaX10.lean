import Derived.Test.YtjdnjfnhdeplfaaX9
import Derived.Shelf.SlSortCmp.NoneTotal
import Derived.Test.YtjdnjfnhdeplfaaProg
import Derived.Shelf.SlGeneric
import Derived.Shelf.Small.Bits
import Derived.Shelf.Small.Wraps
import Derived.Shelf.Strconv.Itoa0
import Derived.Ground.Names2Prog
import Derived.Shelf.Slices.SearchI
import Derived.Ground.SlsfProg
import Derived.WalkKit
set_option linter.all false
set_option maxRecDepth 100000
set_option maxHeartbeats 4000000
namespace Go.Sx
open Go Go.Sort Go.Proofs
variable {xs:Array Operand}{tys:Array TypeId}{args:Q0}{u:U}{v v':Value}{b i s:Nat}{os:Array Obj}{bl' bl0:J5}
section
open Go Go.Sort Go.Proofs
section
variable {P:Program} {rd:Option Nat} {ops:Array Oper} {o:Oper} {rest:List Oper} {a:Act} {w:World} {Q:Exit->Act->World->Prop}
def rE{f:FuncId}(r:o.guard=none)(m:o.op=.call ⟨.value (.func f),xs,tys⟩)(t:xs.map a.eval=args)(he:(callFunc f args).run P w=.ok (.enter f args) w)
  (x:Calls P f args w fun e w'=>∃ v,e=.returned v/\wpL P rd ops Q rest (a.put o.dst v) w'):wpL P rd ops Q (o::rest) a w:=by
 refine lN fun K p=>?_
 rw[B2 (by simp[Region.wanted,r])];unfold wpO Oper.wpIn;refine⟨fun _ _=>trivial,?_⟩;have n:(execOp a.eval o).run P w=(callFunc f args).run P w:=by
  subst t;unfold execOp;rw[m];simp only[resolve,Act.eval,Deferred.ofValue,pure_bind,invoke];simp
 rw[Oper.semAt_eq _ _ _ (fun c=>by rw[m];exact fun h=>by cases h),n,he,Oper.uponIn_enter];refine⟨eD,v7.2 (x.mono fun e w' ⟨v,h1,q⟩=>?_)⟩;subst h1;exact p _ _ q
end
section
variable {P:Program} {ρ:Ren} {α:Type} [Inhabited α] {encU:α->List U} {k:Nat} {d d':Array α} {T:TypeId} {g:Nat} {l:Loc} {w:World}
def cD(encU:α->List U)(x:α):D0:=(encU x).map O8
def MK(h:toV u=some v):O8 u=v:=by simp[O8,h]
def A0U{G:Nat->Option Obj}(h:Enc G u v)(hu:toV u=some v'):v=v':=by
 cases h with
 | sc h=>rw[hu]at h;exact(A5 h).symm
 | nil=>cases hu
 | emp=>cases hu
 | sl=>cases hu
def IN(hk:∀ x,(encU x).length=k)(t:∀ x,∀ u ∈ encU x,∃ v,toV u=some v){r:Nat}{x:U}{row:List U}(hr:(d.toList.map encU)[r]? = some row)(m:row[i]? = some x)(p:toV x=some v):(cD encU d[r]!)[i]! = v:=by
 rw[F4]at hr;obtain⟨y,f,rfl⟩:=Option.map_eq_some_iff.1 hr;have e:r<d.size:=by have:=(A7.1 f).1;simpa using this
 have q:d[r]! = y:=by
  rw[getElem!_pos d r e];have:d.toList[r]? = some d[r]:=by simp[e]
  rw[f]at this;exact(A5 this).symm
 rw[q];have n:=(A7.1 m).1;have:(cD encU y)[i]? = some v:=by
  unfold cD;rw[F4,m];simp[MK p]
 simp[this]
def NB(hk:∀ x,(encU x).length=k)(z:∀ x,∀ u ∈ encU x,∃ v,toV u=some v)[Ora](h:SqR P ρ (.seq false k (d.toList.map encU)) (10+k) T g false l w)(r:l.on=true) :
  HoldsK (cD encU) k w l.blk l.sh d/\d.size=l.len/\l.len<=l.cap/\l.blk<w.heap.size:=by
 obtain⟨wd,inf,h1,y,h3,m⟩:=SqR.ex h;have p:wd=k:=A9;subst p;rcases m with⟨m,_⟩|⟨_,m⟩
 .rw[r]at m;cases m
 obtain⟨C,fz,I,rows,lg,q1,q2,q3,q4,q5,q6,q7,q8,q9⟩:=m;cases q2;obtain⟨q9,q10⟩:=q9 rfl;have hlen:d.size=l.len:=by rw[<- q3];simp
 refine⟨fun j n=>?_,hlen,q4,(B5.1 q1).1⟩;rw[size_flatK]at n;have H:0<wd:=by
  rcases N0 wd with h|h
  .subst h;simp at n
  .exact h
 have B:j / wd*wd+j%wd=j:=by rw[U0];exact gA j wd
 have hr:j / wd<d.size:=Nat.div_lt_of_lt_mul (by rw[U0];exact n);have hm:j%wd<wd:=fL _ H;have t:d.size*wd<=l.cap*wd:=E4 _ A9;have e:l.sh+j<C.size:=A9;have f:(d.toList.map encU)[j / wd]? = some (encU d[j / wd]!):=by
  rw[F4,getElem!_pos d _ hr];simp[hr]
 obtain⟨x,q⟩:∃ x,(encU d[j / wd]!)[j%wd]? = some x:=⟨_,A4 (by rw[hk];exact hm)⟩;obtain⟨v,A⟩:=z _ x (D6 q);have he:=q8 (j / wd) _ (j%wd) x (C[l.sh+j]'e) f q (by rw[Z7,B];exact E0 e);have F:=A0U he A;have E:=IN hk z f q A;constructor
 .rw[get_flatK _ _ _ _ n,E,id];simp only[World.cell?,q1,Option.isSome_none,G8,if_false];rw[E0 e,F]
 .simp only[World.frozen?,q1]
  have:=q10 (l.sh+j) e;by_cases h1:fz.1<=l.sh+j
  .have:¬ l.sh+j<fz.2:=fun y=>this ⟨h1,y⟩
   simp[this]
  .simp[h1]
def aC(n:Nat)(os:Array Obj)(b s:Nat)(m:b<w.heap.size):(sortWorldK (cD encU) k w b s n d' os).heap[b]? = (w.heap[b]?).map (onCells (putCells id s (flatK (cD encU) k d'))) /\
  (∀ j,j<w.heap.size->j≠b->(sortWorldK (cD encU) k w b s n d' os).heap[j]? = w.heap[j]?)/\w.heap.size<=(sortWorldK (cD encU) k w b s n d' os).heap.size /\
  (sortWorldK (cD encU) k w b s n d' os).os=w.os/\(sortWorldK (cD encU) k w b s n d' os).tape=w.tape/\(sortWorldK (cD encU) k w b s n d' os).output=w.output:=by
 have e:(sortWorldK (cD encU) k w b s n d' os).heap=w.heap.modify b (onCells (putCells id s (flatK (cD encU) k d')))++os:=rfl;refine⟨?_,fun j p f=>?_,?_,rfl,rfl,rfl⟩
 .rw[e,I8 (by simpa using m),F1,B2 rfl]
 .rw[e,I8 (by simpa using p),F1,B1 (fun h=>f h.symm)]
 .rw[e];simp
def vL(hk:∀ x,(encU x).length=k)(H:∀ x,∀ u ∈ encU x,∃ v,toV u=some v)[Ora]{n:Nat}(h:SqR P ρ (.seq false k (d.toList.map encU)) (10+k) T g false l w)(f:l.on=true)(R:d'.size=d.size) :
  SqR P ρ (.seq false k (d'.toList.map encU)) (10+k) T g false l (sortWorldK (cD encU) k w l.blk l.sh n d' os):=by
 obtain⟨wd,inf,h1,K,h3,e⟩:=SqR.ex h;have q:wd=k:=A9;subst q;rcases e with⟨e,_⟩|⟨_,e⟩
 .rw[f]at e;cases e
 obtain⟨C,fz,J,rows,lg,q1,q2,q3,q4,q5,q6,q7,q8,q9⟩:=e;cases q2;obtain⟨q9,q10⟩:=q9 rfl;subst q9;have z:=(B5.1 q1).1;obtain⟨M,-⟩:=aC (encU:=encU) (k:=wd) (d':=d') n os l.blk l.sh z;have hlen:d'.size=l.len:=by rw[R,<- q3];simp
 refine⟨⟨wd,inf,rfl,K,h3,.inr ⟨f,putCells id l.sh (flatK (cD encU) wd d') C,fz,J,_,lg,?_,rfl,by simpa using hlen,q4,by simpa [putCells]using q5,fun row p=>?_,q7,?_,fun _=>⟨rfl,fun i hi=>q10 i (by simpa [putCells]using hi)⟩⟩⟩⟩
 .rw[M,q1];rfl
 .obtain⟨x,_,rfl⟩:=I6.1 p;exact hk x
 .intro r row j x v hr t E;have B:r<d'.size:=by have:=(A7.1 hr).1;simpa using this
  obtain⟨y,S,rfl⟩:=I6.1 (D6 hr);have N:j<wd:=by have:=(A7.1 t).1;rwa[hk]at this
  obtain⟨v',m⟩:=H _ x (D6 t);have hm:r*wd+wd<=d'.size*wd:=by
   have:=E4 wd (show r+1<=d'.size from B);rwa[G0,dD]at this
  have A:r*wd+j<d'.size*wd:=A9;have F:d'.size*wd<=l.cap*wd:=E4 _ A9;have I:(r*wd+j) / wd=r:=(blk_iff wd r _ A9).1 ⟨A9,A9⟩;have O:(r*wd+j)%wd=j:=by rw[Nat.mod_eq_sub_div_mul,I];omega
  have L:v=v':=by
   simp only[putCells,Array.getElem?_mapIdx]at E;rw[E0 (show l.sh+r*wd+j<C.size by omega),I3,B2 ⟨A9,by rw[size_flatK];omega⟩,show l.sh+r*wd+j-l.sh=r*wd+j by omega,get_flatK _ _ _ _ A,I,O,IN hk H hr t m,id]at E;exact(A5 E).symm
  rw[L];exact .sc m
end
#print axioms vL
#print axioms rE
end
section
open Go Go.Sort Go.Proofs
section
variable {P:Program} {rd:Option Nat} {ops:Array Oper} {o:Oper} {rest:List Oper} {a:Act} {w:World} {Q:Exit->Act->World->Prop}
def ME{x:Operand}{t:TypeId}(n:o.guard=none)(e:o.op=.load t x)(p:a.eval x=.pointer (some ⟨b,s,none⟩))(m:Y4 P t=some false)(q:w.cell? ⟨b,s,none⟩=some v)
  (h:wpL P rd ops Q rest (a.put o.dst v) w):wpL P rd ops Q (o::rest) a w:=by
 letI O:Ora:=⟨fun _=>.none,fun _=>none⟩
 have f:=n7 m w;refine dG (v:=v) (w':=w) n (by unfold Oper.about;rw[e]) (fun c=>by rw[e];exact fun h=>by cases h) ?_ h;unfold execOp;rw[e];simp[p,Instr.loadAt,Instr.sureAddr,loadVar,A3,Result.andThen,run_load,f,q]
end
def g7.of{P:Program}{G:Nat->Option Obj}{base gl n0 nB e nt:Nat}{H0:Hp AB}{L p:J4}{w:World}{ρs:Ren}{n:Nat->Prop}(g:g7 P G base gl n0 nB nt H0 L w ρs n)(m:p.ok gl n0 e nt=true):g7 P G base gl n0 e nt H0 p w ρs n:=by
 obtain⟨x,t,r,q,o5⟩:=bE m;exact⟨g.nt5,g.nt0,t,r,q,fun X f=>(o5 X f).1,fun X f=>(o5 X f).2,g.bs,g.gf,g.sa,g.ko⟩
section
variable {D:List Deferred} {P:Program} {G:Nat->Option Obj} {base nt:Nat} {ρ ρ':Ren} {sl:N2} {bl:J5} {us:List U} {a:Act} {w w':World}
def E9.sub(h:E9 D P G base nt ρ sl bl us a w){sl':N2}(K:∀ x ∈ sl',x ∈ sl)(t:∀ x ∈ bl',∃ y ∈ bl,y.1=x.1/\y.2.raw=x.2.raw):E9 D P G base nt ρ sl' bl' us a w:=by
 have A:∀ p q:PB,p.raw=q.raw->p.rw=q.rw:=fun p q h=>by
  cases p<;>cases q<;>first|rfl|cases h
 refine⟨h.size,h.defers,fun F I x e=>h.fr F I x (K x e),fun x e=>?_,fun x e hw l H n=>?_⟩
 .obtain⟨y,r,f,B⟩:=t x e;rw[<- f,<- B];exact h.mb y r
 .obtain⟨y,r,f,B⟩:=t x e;obtain⟨N,L⟩:=h.own y r (by rw[A _ _ B];exact hw) l (by rw[f];exact H) n;refine⟨N,fun z E l2 C J=>?_⟩;obtain⟨M,m,f1,f2⟩:=t z E;rw[<- f1,<- f];exact L M m l2 (by rw[f1];exact C) (by rw[<- qJ,f2,qJ];exact J)
def E9.ren(h:E9 D P G base nt ρ sl bl us a w){S:Nat->Bool}(H:∀ x ∈ sl,Y2 S DEP x.2=true/\K7 0 idN DEP x.2=x.2)(m:∀ x ∈ bl,(x.2.names S=true/\x.2.ab 0 idN=x.2.raw)/\S x.1=true)
  (e:∀ b,S b=true->ρ' b=ρ b):E9 D P G base nt ρ' sl bl us a w:=by
 refine⟨h.size,h.defers,fun F r x f=>?_,fun x f=>?_,fun x f hw l n p=>?_⟩
 .obtain⟨h1,q⟩:=H x f
  have:=t8 (G:=G) (E:=F) (F:=F) (ρ:=ρ) (ρ2:=ρ') (S:=S) (nx:=0) (τ:=idN) (fun b l m n=>by show ρ' b=_;rw[e b m];exact n) (fun i=>by rw[D8]) DEP x.2 _ h1 (h.fr F r x f);rw[q]at this;exact this
 .obtain⟨⟨h1,q⟩,h3⟩:=m x f;obtain⟨l,B,A⟩:=h.mb x f;refine⟨l,by rw[e _ h3];exact B,fun F r=>?_⟩
  have:=nT (P:=P) (G:=G) (E:=F) (F:=F) (ρ:=ρ) (ρ2:=ρ') (S:=S) (nx:=0) (τ:=idN) (fun b l m n=>by show ρ' b=_;rw[e b m];exact n) (fun i=>by rw[D8]) (A F r) h1;rw[q]at this;exact this
 .rw[e _ (m x f).2]at n;obtain⟨J,I⟩:=h.own x f hw l n p;exact⟨J,fun y z l2 t C=>I y z l2 (by rw[<- e _ (m y z).2];exact t) C⟩
def J2(r:Nat)(o:Obj):Loc:=⟨r,0,0,0,fun k=>if k=r then some o else none,true⟩
def V1(ρ:Ren)(b:Nat)(l:Option Loc):Ren:=fun x=>if x=b then l else ρ x
def L9{ρ:Ren}{x:Nat}{l:Option Loc}(h:x≠b):V1 ρ b l x=ρ x:=B1 h
def R0{ρ:Ren}{l:Option Loc}:V1 ρ b l b=l:=B2 rfl
def E9.keep{r t:Nat}{o:Obj}(h:E9 D P G base nt (V1 ρ b (some (J2 r o))) sl bl us a w)(H:∀ x ∈ bl,x.1≠b)(hr:w.heap[r]? = some o)(A:base<=r)(q:∀ x ∈ bl,∀ l,ρ x.1=some l->¬ TcP x.2 l r)
  (I:a.tmps.getD t undef=.pointer (some ⟨r,0,none⟩)):E9 D P G base nt (V1 ρ b (some (J2 r o))) ((t,.pointer (some ⟨b,0,none⟩))::sl) ((b,.iter [])::bl) us a w:=by
 have hk:∀ {x:Nat×PB},x ∈ bl->∀ {l:Loc},V1 ρ b (some (J2 r o)) x.1=some l->ρ x.1=some l:=fun{x} f {l} p=>by rw[L9 (H x f)]at p;exact p
 refine⟨h.size,h.defers,fun F E x f=>?_,fun x f=>?_,fun x f hw l p B=>?_⟩
 .rcases A8.1 f with rfl|f
  .show @VR ⟨F,G⟩ _ _ (a.tmps.getD t undef);rw[I];have e:(.pointer (some ⟨r,0,none⟩):Value)=.pointer (some ⟨(J2 r o).blk,0+(J2 r o).sh,none⟩):=rfl;rw[e];exact @VR.ptr ⟨F,G⟩ _ _ _ _ R0
  .exact h.fr F E x f
 .rcases A8.1 f with rfl|f
  .exact⟨J2 r o,R0,fun F E=>⟨⟨rfl,rfl⟩,.inr ⟨rfl,o,B2 rfl,hr⟩⟩⟩
  .exact h.mb x f
 .rcases A8.1 f with rfl|f
  .have:l=J2 r o:=by
    have p:V1 ρ b (some (J2 r o)) b=some l:=p;rw[R0]at p;exact(A5 p).symm
   subst this;refine⟨A,fun y z l2 m n=>?_⟩;rcases A8.1 z with rfl|z
   .rfl
   .exact absurd n (q y z l2 (hk z m))
  .obtain⟨K,J⟩:=h.own x f hw l p B;refine⟨K,fun y z l2 m n=>?_⟩;rcases A8.1 z with rfl|z
   .have:l2=J2 r o:=by
     have m:V1 ρ b (some (J2 r o)) b=some l2:=m;rw[R0]at m;exact(A5 m).symm
    subst this;rcases n with⟨_,_,C⟩|⟨C,_⟩
    .exact absurd (.inl ⟨hw,B,C.symm⟩) (q x f l (hk f p))
    .cases C
   .exact J y z l2 m n
def E9.kept{t:Nat}(h:E9 D P G base nt ρ sl bl us a w)(y:(b,PB.iter []) ∈ bl)(C:(t,(.pointer (some ⟨b,0,none⟩):Value)) ∈ sl){r:Nat}{o:Obj}(x:ρ b=some (J2 r o)):w.heap[r]? = some o/\a.tmps.getD t undef=.pointer (some ⟨r,0,none⟩):=by
 obtain⟨l,m,B⟩:=h.mb _ y;have m:ρ b=some l:=m;rw[x]at m;cases m;have f:P5 us (gE us):=fun j u z=>by simp[gE,z]
 obtain⟨_,h3⟩:=B (gE us) f;constructor
 .rcases h3 with⟨s,n,_,e⟩|⟨_,E,e,A⟩
  .exact absurd e.1 (by simp)
  .have e:(if r=r then some o else none)=some E:=e;rw[B2 rfl]at e;cases e;exact A
 .have:=h.fr (gE us) f _ C;obtain⟨l2,p,_,q⟩:=@K9 ⟨gE us,G⟩ _ _ _ this;have p:ρ b=some l2:=p;rw[x]at p;cases p;have q:a.tmps.getD t undef=.pointer (some ⟨r,0+0,none⟩):=q;exact q
def E9.sorted{α:Type}[Inhabited α]{encU:α->List U}{k t g n:Nat}{T:TypeId}{d d':Array α}{l:Loc}(h:E9 D P G base nt ρ [(t,Go.Sx.own b 0 (10+k))] ((b,.sq 0 (10+k) T g)::bl0) (.seq false k (d.toList.map encU)::us) a w)
  (h0:bl0=[(g,.frz)]) (hk:∀ x,(encU x).length=k) (V:∀ x,∀ u ∈ encU x,∃ v,toV u=some v) (B:ρ b=some l) (f:l.on=true) (M:d'.size=d.size) :
  E9 D P G base nt ρ [(t,Go.Sx.own b 0 (10+k))] ((b,.sq 0 (10+k) T g)::bl0) (.seq false k (d'.toList.map encU)::us) a (sortWorldK (cD encU) k w l.blk l.sh n d' os):=by
 subst h0;have y:P5 (.seq false k (d.toList.map encU)::us) (gE (.seq false k (d.toList.map encU)::us)):=fun j u W=>by simp[gE,W]
 obtain⟨l1,H,Y⟩:=h.mb (b,.sq 0 (10+k) T g) (.head _);have H:ρ b=some l1:=H;rw[B]at H;cases H;have K:l.blk<w.heap.size:=h.tc (.head _) B (.inl ⟨rfl,f,rfl⟩);obtain⟨f1,f2,f3,f4,f5,f6⟩:=aC (w:=w) (encU:=encU) (k:=k) (d':=d') n os l.blk l.sh K;obtain⟨k1,k2⟩:=h.own (b,.sq 0 (10+k) T g) (.head _) rfl l B f;have r:∀ x ∈ [(g,PB.frz)],∀ l2 j,ρ x.1=some l2->TcP x.2 l2 j->(sortWorldK (cD encU) k w l.blk l.sh n d' os).heap[j]? = w.heap[j]? := fun x p l2 j m I=>by
  refine f2 j (h.tc (.tail _ p) m I) fun e=>?_
  subst e;rw[G6.1 p]at m I
  have:=k2 (g,.frz) (.tail _ (.head _)) l2 m I;have:g=b:=this;subst this;rcases I with⟨S,_⟩|⟨_,o,L⟩
  .cases S
  .rw[B]at m;cases m;obtain⟨l3,A,C⟩:=h.mb (g,.frz) (.tail _ (.head _));have A:ρ g=some l3:=A;rw[B]at A;cases A
   have:=(C _ y).1;rw[f]at this;cases this
 refine⟨h.size,h.defers,fun F E x p=>?_,fun x p=>?_,h.own⟩
 .have z:F 0=.seq false k (d'.toList.map encU):=E 0 _ rfl;rw[G6.1 p];obtain⟨q1,q2⟩:=@x5 ⟨gE (.seq false k (d.toList.map encU)::us),G⟩ _ _ _ _ _ (h.fr _ y (t,Go.Sx.own b 0 (10+k)) (.head _));have N:p8 (a.tmps.getD t undef)=true:=by
   rcases q1 with⟨_,_,_,_,_,q⟩|⟨_,_,_,_,_,_,_,_,q⟩<;>(rw[q];rfl)
  refine @VR.own ⟨F,G⟩ _ _ _ _ _ ?_ (by show F3 (F 0)=_;rw[z];rfl) N;show FG ρ b (F 0) _;rw[z];rcases q1 with⟨l2,w2,r1,r2,_⟩|⟨l2,w2,rows,r1,r2,J,Z,R,X⟩
  .rw[B]at r1;cases r1;rw[f]at r2;cases r2
  .refine .inr ⟨l2,k,_,r1,r2,rfl,?_,R,X⟩;have J:U.seq false k (d.toList.map encU)=.seq false w2 rows:=J;cases J;rw[<- Z];simp[M]
 .rcases A8.1 p with rfl|p
  .refine⟨l,B,fun F E=>?_⟩;have z:F 0=.seq false k (d'.toList.map encU):=E 0 _ rfl;letI O:Ora:=⟨F,G⟩
   show SqR P ρ (F 0) (10+k) T g false l _;rw[z];refine vL hk V ?_ f M
   have:=Y (gE (.seq false k (d.toList.map encU)::us)) y;exact this
  .obtain⟨l2,A,C⟩:=h.mb x (.tail _ p);refine⟨l2,A,fun F E=>?_⟩;rw[G6.1 p]at A C ⊢;obtain⟨m1,m2⟩:=C _ y;exact⟨m1,fun j o L=>(r (g,.frz) (.head _) l2 j A (.inr ⟨rfl,o,L⟩)).trans (m2 j o L)⟩
end
end
section
open Go
section
variable {P:Program} {rd:Option Nat}
def VY{ops:Array Oper}{Q:Exit->Act->World->Prop}(Inv:Array Bool->Act->World->Prop)(C:∀ (i:Nat) (o:Oper),ops[i]? = some o->∀ e ∈ o.after.toList,e.on<i)
  (step:∀ (listed:Array Bool) (a:Act) (w:World) (i:Nat) (o:Oper),listed.size=ops.size->Inv listed a w->ops[i]? = some o->listed.getD i false=false->(∀ e ∈ o.after.toList,Region.binds .any e=true->listed.getD e.on false=true)->i0 P rd ops Q i (Inv (listed.setIfInBounds i true)) a w)
  (f:∀ (listed:Array Bool) (a:Act) (w:World),Inv listed a w->(∀ i,i<ops.size->listed.getD i false=true)->Q .normal a w) :
  ∀ (fuel:Nat) (listed:Array Bool) (a:Act) (w:World),listed.size=ops.size->listed.toList.countP (fun b=>!b)=fuel->Inv listed a w->dH P rd .any ops Q fuel listed a w:=by
 letI O:Ora:=⟨fun _=>.none,fun _=>none⟩
 intro fuel;induction fuel with
 | zero =>
   intro listed a w p q inv;have r:∀ i,i<ops.size->listed.getD i false=true:=fun i hi=>by
    have:=tI q i (by simpa [p]using hi);have F:listed[i]? = some true:=by simpa using this
    simp[B0,F]
   refine⟨?_,f listed a w inv r⟩;rw[S9];intro j L;obtain⟨h1,o,F,_⟩:=mem_ready.1 L;have E:j<ops.size:=(B5.1 F).1;have h3:=r j E;have z:j<listed.size:=A9;simp[B0,z]at h1 h3;rw[h1]at h3;cases h3
 | succ fuel R =>
   intro listed a w p q inv;refine⟨fun I=>?_,fun i hi=>?_⟩
   .have key:∀ n i,i<n->i<ops.size->listed.getD i false=true:=by
     intro n;induction n with
     | zero=>intro i h;omega
     | succ n B =>
       intro i M y;by_cases h:i<n
       .exact B i h y
       .cases K:listed.getD i false with
        | true=>rfl
        | false =>
          exfalso;obtain⟨o,H⟩:∃ o,ops[i]? = some o:=⟨_,E0 y⟩;have t:i ∈ Region.ready .any ops listed:=mem_ready.2 ⟨by
           have z:i<listed.size:=A9;simp[B0,z]at K ⊢;exact K,o,H,fun e he J=>by
           have E:=C i o H e (by simpa using he);exact B e.on A9 A9⟩
          rw[I]at t;cases t
    exact f listed a w inv (fun i hi=>key (i+1) i (H5 i) hi)
   .obtain⟨h1,o,H,F⟩:=mem_ready.1 hi;have y:i<ops.size:=(B5.1 H).1;have m:i<listed.size:=A9;have A:listed.getD i false=false:=by
     simp[B0,m]at h1 ⊢;exact h1
    have x:(listed.setIfInBounds i true).toList.countP (fun b=>!b)=fuel:=by
     have N:listed.toList[i]? = some false:=by
      simp[B0,m]at A;simp[m,A]
     have:=oW listed.toList i N;rw[cL];omega
    exact rD (fun a' w' h=>R _ a' w' (by simpa using p) x h) (step listed a w i o p inv H A fun e he J=>F e (by simpa using he) J)
def rF{id:Nat}{ops:Array Oper}{Q:Exit->Act->World->Prop}{a:Act}{w:World}(hm:P.follows .mixedOrders=true)(Inv:Array Bool->Act->World->Prop)(m:∀ (i:Nat) (o:Oper),ops[i]? = some o->∀ e ∈ o.after.toList,e.on<i)
  (step:∀ (listed:Array Bool) (a:Act) (w:World) (i:Nat) (o:Oper),listed.size=ops.size->Inv listed a w->ops[i]? = some o->listed.getD i false=false->(∀ e ∈ o.after.toList,Region.binds .any e=true->listed.getD e.on false=true)->i0 P rd ops Q i (Inv (listed.setIfInBounds i true)) a w)
  (f:∀ (listed:Array Bool) (a:Act) (w:World),Inv listed a w->(∀ i,i<ops.size->listed.getD i false=true)->Q .normal a w) (h0:Inv (Array.replicate ops.size false) a { w with drawn:=w.drawn+1 }) :
  (Code.region id ops true).wpIn (fw rd) 0 P Q a w :=
 bK hm (VY Inv m step f _ _ _ _ (by simp) (by simp[List.countP_replicate]) h0)
def Y9{ops:Array Oper}{Q:Exit->Act->World->Prop}{o:Oper}{K:Act->World->Prop}{a:Act}{w w':World}(p:ops[i]? = some o)(q:o.guard=none)(e:o.about P w a.eval=none)(n:∀ c,o.op≠.defer c)
  (hr:(execOp a.eval o).run P w=.ok (.value v) w') (h:K (a.put o.dst v) w'):i0 P rd ops Q i K a w:=by
 unfold i0;simp only[p];rw[B2 (by simp[Region.wanted,q])];unfold wpO Oper.wpIn;refine⟨fun f m=>(by rw[e]at m;cases m),?_⟩;rw[Oper.semAt_eq _ _ _ n,hr];exact h
def kK{ops:Array Oper}{Q:Exit->Act->World->Prop}{o:Oper}{K:Act->World->Prop}{a:Act}{w:World}{f:FuncId}(t:ops[i]? = some o)(x:o.guard=none)(m:o.op=.call ⟨.value (.func f),xs,tys⟩)(p:xs.map a.eval=args)(he:(callFunc f args).run P w=.ok (.enter f args) w)
  (q:Calls P f args w fun e w'=>∃ v,e=.returned v/\K (a.put o.dst v) w'):i0 P rd ops Q i K a w:=by
 unfold i0;simp only[t];rw[B2 (by simp[Region.wanted,x])];unfold wpO Oper.wpIn;refine⟨fun _ _=>trivial,?_⟩;have n:(execOp a.eval o).run P w=(callFunc f args).run P w:=by
  subst p;unfold execOp;rw[m];simp only[resolve,Act.eval,Deferred.ofValue,pure_bind,invoke];simp
 rw[Oper.semAt_eq _ _ _ (fun c=>by rw[m];exact fun h=>by cases h),n,he,Oper.uponIn_enter];refine⟨eD,v7.2 (q.mono fun e w' ⟨v,h1,r⟩=>?_)⟩;subst h1;exact r
def calls_of_wp{f:FuncId}{fn:Func}{c:Code}{w:World}{R:Ending->World->Prop}(m:P.funcs[f]? = some fn)(q:fn.body=some c)
  (h:c.wpIn (fw none) 0 P (fun e a' w'=>(e=.normal∨e=.ret)/\a'.defers=[]/\LeavesInM (fw none) 0 P fn a'.tmps R [] .returning w') { tmps:=args++Array.replicate (fn.ntmps-args.size) undef,defers:=[] } w):Calls P f args w R:=by
 refine v7.1 (callsIn_of_wp_marks (F:=fw none) (n:=0) m q trivial ?_ rfl);refine wpIn_mono h fun e a' w' ⟨h1,p,h3⟩=>?_
 have h3:LeavesInM (fw none) 0 P fn a'.tmps R a'.defers .returning w':=by rw[p];exact h3
 rcases h1 with rfl|rfl
 .exact h3
 .exact h3
end
end
section
open Go
end
end Go.Sx
namespace Go.Proofs.Ytjdnjfnhdeplfaa
variable {c dc dr i j:Int}{b v:Bool}
section
open Go Go.Sx
def l1{c d:Bool}(k:c=d):[U.bool c]=[U.bool d]:=by rw[k]
def l0{d:Int}(k:c=d):[U.int .i64 c]=[U.int .i64 d]:=by rw[k]
def QB{α:Type}{p:α->Bool}{l:List α}(h:j8 p l i=none):l.any p=false:=by
 induction l generalizing i with
 | nil=>rfl
 | cons a l e =>
   unfold j8 at h;cases hp:p a with
   | true=>rw[hp]at h;cases h
   | false=>rw[hp]at h;rw[Z8,hp,e h];rfl
def DG{α:Type}{p:α->Bool}{l:List α}(h:j8 p l i=some j):l.any p=true/\i<=j:=by
 induction l generalizing i with
 | nil=>cases h
 | cons a l e =>
   unfold j8 at h;cases hp:p a with
   | true=>rw[hp]at h;cases h;rw[Z8,hp];exact⟨rfl,Int.le_refl _⟩
   | false=>rw[hp]at h;rw[Z8,(e h).1,Bool.or_true];exact⟨rfl,by have:=(e h).2;omega⟩
open Go Go.Sx Go.Proofs.Try
def gl:Nat:=0
def n0:Nat:=0
def BC:List (Nat×List Value):=[]
def H0:Hp AB:=mkH BC
def HX:prog.follows .mixedOrders=true:=G9
def HW:AE prog:=by
 have h:(prog.funcs.toList.all fun fn=>!(fn.name == "runtime.NumGoroutine"))=true:=G9;intro f fn e;have h1:=D2.1 h fn (Array.mem_def.1 (Array.mem_of_getElem? e))
 simpa using h1
def A0G:List (FuncId×EK):=[]
def A1E:∀ p ∈ A0G,uD prog p.1 p.2:=by
 intro p hp;unfold A0G at hp;cases hp
noncomputable abbrev cx(l:List (FuncId×FnC))(e:List LpE):Cx:=⟨prog,A0G,gl,LL l,lpT e⟩
def cxg{G:Nat->Option Obj}{l:List (FuncId×FnC)}{e:List LpE}(h:cI prog G gl l)(k:fX prog G gl e):CxG (cx l e) G:=VK HX HW A1E h k
abbrev A3C:=Int×Int×Int×Int×Int×Int×Int×List UInt8
abbrev A3D:=Option (List Int)
abbrev A3E:=List UInt8
abbrev v8(G:Nat->Option Obj):Prop:=c9 Try.prog G gl H0 n0
abbrev iQ:={L:List (FuncId×FnC) // ∀ {G:Nat->Option Obj},v8 G->cI Try.prog G gl L}
def L0:List (FuncId×FnC):=[]
def rR:Rw (Int×Int×Int×Int×Bool):=rC (jY .i64) (rC (jY .i64) (rC (jY .i64) (rC (jY .i64) (r1 JN))))
def rK:Rw (Int×Int×Int):=rC (jY .i64) (rC (jY .i64) (r1 (jY .i64)))
def rM:Rw (Int×Int×Bool×Bool):=rC (jY .i64) (rC (jY .i64) (rC JN (r1 JN)))
abbrev Rt:=(Int×Int×Int×Int×Bool)
abbrev Mt:=(Int×Int×Bool×Bool)
abbrev Kt:=(Int×Int×Int)
def uX(a b c d:Bool):Int:=match a,b,c,d with
 | true,true,true,true=>0x253c
 | true,false,true,true=>0x2534
 | false,true,true,true=>0x252c
 | true,true,true,false=>0x2524
 | true,true,false,true=>0x251c
 | true,false,true,false=>0x2518
 | true,false,false,true=>0x2514
 | false,true,true,false=>0x2510
 | false,true,false,true=>0x250c
 | true,true,false,false=>0x2502
 | true,false,false,false=>0x2502
 | false,true,false,false=>0x2502
 | false,false,true,true=>0x2500
 | false,false,true,false=>0x2500
 | false,false,false,true=>0x2500
 | false,false,false,false=>0
def vP(r:Rt):Prop:=(if r.2.2.2.2=true then r.2.2.2.1=1 else r.2.2.1=1)/\0<=r.1/\0<=r.2.1/\1<=r.2.2.1/\1<=r.2.2.2.1/\r.1+r.2.2.1<=40/\r.2.1+r.2.2.2.1<=80
instance(r:Rt):Decidable (vP r):=by unfold vP;infer_instance
def A0m{r:Rt}(h:r.2.2.2.2=true):vP r↔(r.2.2.2.1=1/\0<=r.1/\0<=r.2.1/\1<=r.2.2.1/\1<=r.2.2.2.1/\r.1+r.2.2.1<=40/\r.2.1+r.2.2.2.1<=80):=by unfold vP;rw[B2 h]
def A0n{r:Rt}(h:r.2.2.2.2=false):vP r↔(r.2.2.1=1/\0<=r.1/\0<=r.2.1/\1<=r.2.2.1/\1<=r.2.2.2.1/\r.1+r.2.2.1<=40/\r.2.1+r.2.2.2.1<=80):=by unfold vP;rw[B1 (by rw[h];decide)]
def uZ(r:Rt):Bool:=!decide (vP r)
def SP{r:Rt}(h:¬vP r):uZ r=true:=by unfold uZ;rw[U7 h];rfl
def SQ{r:Rt}(h:vP r):uZ r=false:=by unfold uZ;rw[cK h];rfl
def FZ(x:Int):Prop := -9223372036854775808<=x/\x<=9223372036854775807
instance(x:Int):Decidable (FZ x):=by unfold FZ;infer_instance
def rOk(r:Rt):Prop:=FZ r.1/\FZ r.2.1/\FZ r.2.2.1/\FZ r.2.2.2.1
instance(r:Rt):Decidable (rOk r):=by unfold rOk;infer_instance
def rsP(l:List Rt):Prop:=l.length<=64/\∀ r ∈ l,vP r
instance(l:List Rt):Decidable (rsP l):=by unfold rsP;infer_instance
def uV(l:List Rt):Int:=if rsP l then 0 else 450
def VW{l:List Rt}(h:j8 uZ l 0=none):∀ g ∈ l,vP g:=fun g e=>by
 have:=QB h
 have:=(List.any_eq_false.1 this) g e;by_cases q:vP g
 .exact q
 .exact absurd (SP q) this
def VV{l:List Rt}(h:j8 uZ l 0=some j):¬∀ g ∈ l,vP g:=fun k=>by
 obtain⟨g,h1,e⟩:=N1.1 (DG h).1;rw[SQ (k g h1)]at e;cases e
noncomputable def A0g:iQ:=⟨_,fun e=>.nil⟩
def tN:List U->Option (Nat×List U)
 | [.bool a,.bool b,.bool c,.bool d]=>some (0,[.int .i64 (uX a b c d)])
 | _=>none
def RE(a:Bool)(b:Bool)(c:Bool)(d:Bool):tN [.bool a,.bool b,.bool c,.bool d]=some (0,[.int .i64 (uX a b c d)]):=rfl
def RD:Tr:=.br 0 (.br 1 (.br 2 (.br 3 (.ret [jI 9532]) (.ret [jI 9508])) (.br 3 (.ret [jI 9500]) (.ret [jI 9474]))) (.br 2 (.br 3 (.ret [jI 9524]) (.ret [jI 9496])) (.br 3 (.ret [jI 9492]) (.ret [jI 9474])))) (.br 1 (.br 2 (.br 3 (.ret [jI 9516]) (.ret [jI 9488])) (.br 3 (.ret [jI 9484]) (.ret [jI 9474]))) (.br 2 (.br 3 (.ret [jI 9472]) (.ret [jI 9472])) (.br 3 (.ret [jI 9472]) (.ret [jI 0]))))
def RF{G}(e:v8 G):kH prog G 15 [.s 8,.s 8,.s 8,.s 8] tN [.s 3]:=by
 refine dA (d:=60) RD (cxg (A0g.2 e) .nil) e ⟨f15,_,func15,rfl⟩ G9 G9 ?_;intro us outs f;unfold tN at f;split at f
 .skip;rename_i a b c d;cases f;unfold RD;refine w0 (.cons 3 _ (.cons 2 _ (.cons 1 _ (.cons 0 _ (.nil))))) ?_;repeat (first|refine w4 (fun g=>?_) fun g=>?_|refine w4B (fun g=>?_) fun g=>?_|(refine w7 [.int .i64 _] ?_;rotate_left))
  all_goals
   first|(simp_all;done)|(simp_all [uX];done)
 .cases f
noncomputable def A2H:iQ:=⟨_,fun e=>.nil⟩
def pY:List U->Option (Nat×List U)
 | [u_l,.int .i64 n,.int .i64 i]=>(T4 rR u_l).bind fun l=>if n=((el l).length:Int)/\0<=i/\i<=n/\n<=140737488351232/\(∀ r ∈ el l,rOk r)then rG (j8 uZ ((el l).drop i.toNat) i) [] (fun j=>[.int .i64 j])else none
 | _=>none
def nK(l:(Option (List (Int×Int×Int×Int×Bool))))(n:Int)(i:Int)(e:n=((el l).length:Int)/\0<=i/\i<=n/\n<=140737488351232/\(∀ r ∈ el l,rOk r)):pY [E6 rR l,.int .i64 n,.int .i64 i]=rG (j8 uZ ((el l).drop i.toNat) i) [] (fun j=>[.int .i64 j]):=by
 simp only[pY,L2,H4];exact B2 e
def XF:J4:=⟨[(0,dat 1 0 15),(1,.func (.func 32) ⟨[]⟩ ⟨[]⟩),(7,h 1 3),(8,h 2 3)],[(1,.frz)],3,[⟨.exit 0,[],[],0⟩,⟨.ret,[(4,h 0 3)],[],1⟩]⟩
noncomputable def RQ:Code:=(f39.body).getD .skip
noncomputable def XA:Code:=match G3 [true,false,true,false] RQ with|some (.loop x)=>x|_=>.skip
def XE:f39.body=some RQ:=rfl
def XD:G3 [true,false,true,false] RQ=some (.loop XA):=G9
def RN(n:Nat):Tr:=.br 10 (aH [h3 5,jI 0]<|.br n (aH [h3 6,jI 0]<|.br (n+1) (aH [h3 7,jI 1]<|.br (n+2) (aH [h3 8,jI 1]<|.br (n+3) (.lt 3 (.min) [h3 5,jI 40]<|aS [jI 40,h3 (n+4)]<|aQ [h3 7,h3 (n+5)]<|.br (n+6) (.lt 3 (.min) [h3 6,jI 80]<|aS [jI 80,h3 (n+7)]<|aQ [h3 8,h3 (n+8)]<|aX [h (n+9) 8]<|.br (n+10) (.ret [jI 1,h3 2]) (aA [h3 2,jI 1]<|.ret [jI (-1),h 0 15,h3 1,h3 (n+11)])) (.ret [jI 1,h3 2])) (.ret [jI 1,h3 2])) (.ret [jI 1,h3 2])) (.ret [jI 1,h3 2])) (.ret [jI 1,h3 2])) (.ret [jI 1,h3 2])
def XB:Tr:=aL [h3 2,h3 1]<|.br 3 (.lt 8 (.inbs 5) [h3 2,h 0 15]<|.br 4 (.lt 3 (.get 5 0) [h 0 15,h3 2]<|.lt 3 (.get 5 1) [h 0 15,h3 2]<|.lt 3 (.get 5 2) [h 0 15,h3 2]<|.lt 3 (.get 5 3) [h 0 15,h3 2]<|.lt 8 (.get 5 4) [h 0 15,h3 2]<|.br 9 (aE [h3 8,jI 1]<|RN 11) (aE [h3 7,jI 1]<|RN 11)) (.no)) (.ret [jI 0])
def RP:List U->Nat
 | [u_l,.int .i64 n,.int .i64 i]=>(match T4 rR u_l with|some l=>(n-i).toNat|none=>0)
 | _=>0
def RO(l:(Option (List (Int×Int×Int×Int×Bool))))(n:Int)(i:Int):RP [E6 rR l,.int .i64 n,.int .i64 i]=(n-i).toNat:=by
 simp only[RP,L2]
def A1n{G}(t:v8 G):∀ (E:Nat->U) (base:Nat),@w9 ⟨E,G⟩ prog base gl f39.ntmps XA (t6 prog gl n0 2 XF pY):=by
 refine mK (dep:=60) (f:=39) (n0:=n0) (nB:=2) (H0:=H0) RP XB (cxg (A2H.2 t) .nil) t func39 XE XD G9 G9 G9 ?_;intro us d outs p;have x:=p;unfold pY at p;split at p
 .skip;rename_i B n i;have r:=C6.1 p;clear p;obtain⟨l,m,p⟩:=r;replace m:=K5 m;subst m;split at p
  .rename_i q;clear p x;have y:i<n->rOk ((el l).getD i.toNat default):=fun h=>q.2.2.2.2 _ (CZ A9 A9)
   refine⟨rfl,?_⟩;unfold XB;refine w0 (.cons 2 _ (.cons 1 _ (.cons 0 _ (.nil)))) ?_;repeat (first|refine w4 (fun g=>?_) fun g=>?_|(refine w7 [.int .i64 _,.int .i64 _] ?_;rotate_left)|refine A0s ?_|refine A2Z ?_|refine A0q ?_|refine A2b ?_|refine A2c ?_|refine KB ?_|refine vJ ?_|refine YU ?_|refine MN ?_|(refine w7 [.int .i64 _,E6 rR _,.int .i64 _,.int .i64 _] ?_;rotate_left)|refine MO ?_|refine MP ?_|refine w1 (.get 5 0) (u:=.int .i64 _) (e:=X6 rfl A9 A9 rfl) (k':=?_)|refine w1 (.get 5 1) (u:=.int .i64 _) (e:=X6 rfl A9 A9 rfl) (k':=?_)|refine w1 (.get 5 2) (u:=.int .i64 _) (e:=X6 rfl A9 A9 rfl) (k':=?_)|refine w1 (.get 5 3) (u:=.int .i64 _) (e:=X6 rfl A9 A9 rfl) (k':=?_)|refine w1 (.get 5 4) (u:=.bool _) (e:=X6 rfl A9 A9 rfl) (k':=?_)|refine w4B (fun g=>?_) fun g=>?_|(refine w8 ?_;first|omega)|(refine w7 [.int .i64 _] ?_;rotate_left))
   all_goals first
    | refine eB ?_ ?_
      .rw[nK l n (i+1) ⟨q.1,A9,A9,q.2.2.2⟩,nK l n i q,tB (i:=i) q.2.1 A9 (SQ (by first|(rw[A0m ‹_›];omega)|(rw[A0n ‹_›];omega)))]
      .rw[RO,RO];omega
    | refine N9 (d:=0) ?_
      rw[nK l n i q,wW A9];rfl
    | refine N9 (d:=1) ?_
      have A:uZ ((el l).getD i.toNat default)=true:=SP (by intro h;have z:=y A9;unfold rOk FZ at z;first|(rw[A0m ‹_›]at h;omega)|(rw[A0n ‹_›]at h;omega));rw[nK l n i q,wV (i:=i) q.2.1 A9 A];rfl
  .cases p
 .cases p
noncomputable def A2U:List LpE:=(39,([true,false,true,false],t6 prog gl n0 2 XF pY))::[]
def TB{G}(e:v8 G):fX prog G gl A2U:=.cons func39 XE XD (A1n e) .nil
noncomputable def A2G:iQ:=⟨_,fun e=>.nil⟩
def xF:List U->Option (Nat×List U)
 | [u_l]=>(T4 rR u_l).bind fun l=>if((el l).length:Int)<=140737488351232/\(∀ r ∈ el l,rOk r)then some (0,[.int .i64 (uV (el l))])else none
 | _=>none
def VP(l:(Option (List (Int×Int×Int×Int×Bool))))(e:((el l).length:Int)<=140737488351232/\(∀ r ∈ el l,rOk r)):xF [E6 rR l]=some (0,[.int .i64 (uV (el l))]):=by
 simp only[xF,L2,H4];exact B2 e
def WZ:Tr:=aD [h 0 15]<|aG [h3 1,jI 64]<|.br 2 (.ret [jI 450]) (.lp pY [h 0 15,h3 1,jI 0] 0 0 (.ret [jI 0]) (.lp pY [h 0 15,h3 1,jI 0] 1 1 (aH [h3 3,jI 0]<|.br 4 (.ret [jI 450]) (.ret [jI 0])) (.no)))
def A1m{G}(m:v8 G):kH prog G 12 [.s 15] xF [.s 3]:=by
 refine dA (d:=60) WZ (cxg (A2G.2 m) (TB m)) m ⟨f12,_,func12,rfl⟩ G9 G9 ?_;intro us outs f;unfold xF at f;split at f
 .skip;rename_i q;have n:=C6.1 f;clear f;obtain⟨l,e,f⟩:=n;replace e:=K5 e;subst e;split at f
  .rename_i r;cases f;have t:(el l).drop (0:Int).toNat=el l:=rfl;unfold WZ;refine w0 (.cons 0 _ (.nil)) ?_;repeat (first|(refine w7 [.int .i64 _] ?_;rotate_left)|refine w4 (fun g=>?_) fun g=>?_|refine GX ?_|refine A2d ?_|(refine w6 pY (nK _ _ _ ⟨rfl,L7,A9,A9,r.2⟩) (h0:=fun g=>?_) (h1:=fun v g=>?_);skip;rotate_left;show Wk _ _ (.cons _ _ _);rotate_right)|refine A0s ?_)
   all_goals
    refine l0 ?_;symm;first
    | (refine B1 fun h=>?_;have:=h.1;omega)
    | exact B2 ⟨A9,VW ‹_›⟩
    | (exfalso;have:=(DG (p:=uZ) (l:=el l) ‹_›).2;omega)
    | exact B1 (fun h=>VV (l:=el l) ‹_› h.2)
  .cases f
 .cases f
def qq(a b:Mt):Bool:=(a.1 == b.1) && ((a.2.1 == b.2.1) && true)
def fK(x:Option (List Mt))(r c:Int):Option Mt:=(el x).find? (fun a=>(r == a.1) && ((c == a.2.1) && true))
def fV(x:Option (List Mt))(r c:Int):Bool:=(fK x r c).elim false (fun a=>a.2.2.1)
def fH(x:Option (List Mt))(r c:Int):Bool:=(fK x r c).elim false (fun a=>a.2.2.2)
def stM(x:Option (List Mt))(r c:Int)(v:Bool):Option (List Mt):=NG qq x (r,c,fV x r c || v,fH x r c || !v)
def coN(r c:Int)(v:Bool):Nat->Int->Option (List Mt)->Option (List Mt)
 | 0,_,x=>x
 | n+1,j,x=>coN r c v n (j+1) (stM x r (c+j) v)
def roN(r c w:Int)(v:Bool):Nat->Int->Option (List Mt)->Option (List Mt)
 | 0,_,x=>x
 | n+1,i,x=>roN r c w v n (i+1) (coN (r+i) c v w.toNat 0 x)
def ruN(x:Option (List Mt))(r:Rt):Option (List Mt):=roN r.1 r.2.1 r.2.2.2.1 r.2.2.2.2 r.2.2.1.toNat 0 x
def ruL(l:List Rt)(x:Option (List Mt)):Option (List Mt):=l.foldl ruN x
def WJ{x:Option (List Mt)}{r:Int}(h:x≠none):stM x r c v≠none:=by
 cases x with
 | none=>exact absurd rfl h
 | some l=>exact Y6 _
def RH{r c:Int}{v:Bool}:∀ (n:Nat) (j:Int) {x:Option (List Mt)},x≠none->coN r c v n j x≠none
 | 0,_,_,h=>h
 | n+1,j,_,h=>RH n (j+1) (WJ h)
def WN{r c w:Int}{v:Bool}:∀ (n:Nat) (j:Int) {x:Option (List Mt)},x≠none->roN r c w v n j x≠none
 | 0,_,_,h=>h
 | n+1,j,_,h=>WN n (j+1) (RH _ _ h)
def A1d{r n:Int}{x:Option (List Mt)}(h:j<n):coN r c v (n-j).toNat j x=coN r c v (n-(j+1)).toNat (j+1) (stM x r (c+j) v):=by
 rw[show(n-j).toNat=(n-(j+1)).toNat+1 by omega];rfl
def A1e{r n:Int}{x:Option (List Mt)}(h:¬j<n):coN r c v (n-j).toNat j x=x:=by rw[show(n-j).toNat=0 by omega];rfl
def A00{r w n:Int}{x:Option (List Mt)}(h:j<n):roN r c w v (n-j).toNat j x=roN r c w v (n-(j+1)).toNat (j+1) (coN (r+j) c v w.toNat 0 x):=by
 rw[show(n-j).toNat=(n-(j+1)).toNat+1 by omega];rfl
def A01{r w n:Int}{x:Option (List Mt)}(h:¬j<n):roN r c w v (n-j).toNat j x=x:=by rw[show(n-j).toNat=0 by omega];rfl
def A0y{l:List Rt}{x:Option (List Mt)}(h0:0<=i)(h:i<(l.length:Int)):ruL (l.drop i.toNat) x=ruL (l.drop (i+1).toNat) (ruN x (l.getD i.toNat default)):=by
 have e:i.toNat<l.length:=A9;rw[show(i+1).toNat=i.toNat+1 by omega,Q5 e];show List.foldl _ _ _=_;rw[gD];simp only[ruL,B9,A4 e,X9]
def A0z{l:List Rt}{x:Option (List Mt)}(h:¬i<(l.length:Int))(h0:0<=i):ruL (l.drop i.toNat) x=x:=by
 rw[r8 A9];rfl
def A0u{x:Option (List Mt)}{r:Int}{a:Bool}(h1:a=(fV x r c || v))(e:b=(fH x r c || !v)):NG qq x (r,c,a,b)=stM x r c v:=by rw[h1,e];rfl
def AL{r:Rt}(h:vP r):0<=r.1/\0<=r.2.1/\1<=r.2.2.1/\1<=r.2.2.2.1/\r.1+r.2.2.1<=40/\r.2.1+r.2.2.2.1<=80:=h.2
def A08{a:Bool}(h:a=true):true=(a || v):=by rw[h];rfl
def A09{a:Bool}(h:a=false):v=(a || v):=by rw[h];rfl
attribute [local irreducible] coN roN ruL stM
noncomputable def A2K:iQ:=⟨_,fun e=>.nil⟩
def tR:List U->Option (Nat×List U)
 | [.int .i64 i,u_l,.int .i64 n,.int .i64 k,.int .i64 rn,.int .i64 i2,.int .i64 cn,.int .i64 j,.int .i64 r,.int .i64 c,.int .i64 hh,.int .i64 ww,.bool v,u_x]=>(T4 rR u_l).bind fun l=>(T4 rM u_x).bind fun x=>if 0<=i/\i<=40/\0<=j/\j<=cn/\cn<=80/\0<=r/\r<=40/\0<=c/\c<=80/\x≠none then some (0,[E6 rR l,.int .i64 n,.int .i64 k,.int .i64 rn,.int .i64 i2,.int .i64 r,.int .i64 c,.int .i64 hh,.int .i64 ww,.bool v,E6 rM (coN (r+i) c v (cn-j).toNat j x)])else none
 | _=>none
def qW(i:Int)(l:(Option (List (Int×Int×Int×Int×Bool))))(n:Int)(k:Int)(f:Int)(i2:Int)(e:Int)(j:Int)(r:Int)(c:Int)(hh:Int)(ww:Int)(v:Bool)(x:(Option (List (Int×Int×Bool×Bool))))(m:0<=i/\i<=40/\0<=j/\j<=e/\e<=80/\0<=r/\r<=40/\0<=c/\c<=80/\x≠none):tR [.int .i64 i,E6 rR l,.int .i64 n,.int .i64 k,.int .i64 f,.int .i64 i2,.int .i64 e,.int .i64 j,.int .i64 r,.int .i64 c,.int .i64 hh,.int .i64 ww,.bool v,E6 rM x]=some (0,[E6 rR l,.int .i64 n,.int .i64 k,.int .i64 f,.int .i64 i2,.int .i64 r,.int .i64 c,.int .i64 hh,.int .i64 ww,.bool v,E6 rM (coN (r+i) c v (e-j).toNat j x)]):=by
 simp only[tR,L2,H4];exact B2 m
def XU:J4:=⟨[(3,.map (some 1)),(5,.pointer (some ⟨2,0,none⟩)),(6,h 0 3),(11,dat 3 1 15),(12,h 2 3),(13,h 3 3),(19,h 4 3),(20,h 5 3),(25,h 6 3),(26,h 7 3)],[(2,.cells 29 [h 8 3,h 9 3,h 10 3,h 11 3,h 12 8]),(1,.mp 13 14 55),(3,.frz)],14,[⟨.exit 4,[(3,.map (some 1)),(5,.pointer (some ⟨2,0,none⟩)),(11,dat 4 0 15),(12,h 1 3),(13,h 2 3),(19,h 3 3),(20,h 4 3)],[(2,.cells 29 [h 5 3,h 6 3,h 7 3,h 8 3,h 9 8]),(1,.mp 10 14 55),(4,.frz)],11⟩]⟩
noncomputable def SB:Code:=(f22.body).getD .skip
noncomputable def XQ:Code:=match G3 [true,true,false,true,false,false,true,true,false,false,true,true,false,false,true,true,false,false,true,true,false] SB with|some (.loop x)=>x|_=>.skip
def XT:f22.body=some SB:=rfl
def XS:G3 [true,true,false,true,false,false,true,true,false,false,true,true,false,false,true,true,false,false,true,true,false] SB=some (.loop XQ):=G9
def RY(n:Nat):Tr:=aA [h3 7,jI 1]<|.ret [jI (-1),h3 0,h 1 15,h3 2,h3 3,h3 4,h3 5,h3 6,h3 n,h3 8,h3 9,h3 10,h3 11,h 12 8,h 19 14]
def RX(n:Nat):Tr:=aA [h3 7,jI 1]<|.ret [jI (-1),h3 0,h 1 15,h3 2,h3 3,h3 4,h3 5,h3 6,h3 n,h3 8,h3 9,h3 10,h3 11,h 12 8,h 20 14]
def XR:Tr:=aL [h3 7,h3 6]<|.br 14 (aA [h3 8,h3 0]<|aA [h3 9,h3 7]<|.lt 8 (.mget 4 2 2) [h 13 14,.bool false,h3 15,h3 16]<|.lt 8 (.mget 4 2 3) [h 13 14,.bool false,h3 15,h3 16]<|.br 17 (.br 18 (.dt 14 (.mput 4 2) [h 13 14,h3 15,h3 16,.bool true,.bool true]<|RY 20) (aX [h 12 8]<|.dt 14 (.mput 4 2) [h 13 14,h3 15,h3 16,.bool true,h 19 8]<|RX 21)) (.br 18 (.dt 14 (.mput 4 2) [h 13 14,h3 15,h3 16,h 12 8,.bool true]<|RY 20) (aX [h 12 8]<|.dt 14 (.mput 4 2) [h 13 14,h3 15,h3 16,h 12 8,h 19 8]<|RX 21))) (.ret [jI 0,h 1 15,h3 2,h3 3,h3 4,h3 5,h3 8,h3 9,h3 10,h3 11,h 12 8,h 13 14])
def SA:List U->Nat
 | [.int .i64 i,u_l,.int .i64 n,.int .i64 k,.int .i64 rn,.int .i64 i2,.int .i64 cn,.int .i64 j,.int .i64 r,.int .i64 c,.int .i64 hh,.int .i64 ww,.bool v,u_x]=>(match T4 rR u_l with|some l=>(match T4 rM u_x with|some x=>(cn-j).toNat|none=>0)|none=>0)
 | _=>0
def RZ(i:Int)(l:(Option (List (Int×Int×Int×Int×Bool))))(n:Int)(k:Int)(f:Int)(i2:Int)(e:Int)(j:Int)(r:Int)(c:Int)(hh:Int)(ww:Int)(v:Bool)(x:(Option (List (Int×Int×Bool×Bool)))):SA [.int .i64 i,E6 rR l,.int .i64 n,.int .i64 k,.int .i64 f,.int .i64 i2,.int .i64 e,.int .i64 j,.int .i64 r,.int .i64 c,.int .i64 hh,.int .i64 ww,.bool v,E6 rM x]=(e-j).toNat:=by
 simp only[SA,L2]
def A1s{G}(z:v8 G):∀ (E:Nat->U) (base:Nat),@w9 ⟨E,G⟩ prog base gl f22.ntmps XQ (t6 prog gl n0 5 XU tR):=by
 refine mK (dep:=60) (f:=22) (n0:=n0) (nB:=5) (H0:=H0) SA XR (cxg (A2K.2 z) .nil) z func22 XT XS G9 G9 G9 ?_;intro us d outs m;have B:=m;unfold tR at m;split at m
 .skip;rename_i i H n k C i2 A j r c hh ww v F;have t:=C6.1 m;clear m;obtain⟨l,p,m⟩:=t;replace p:=K5 p;subst p;have y:=C6.1 m;clear m;obtain⟨x,q,m⟩:=y;replace q:=K5 q;subst q;split at m
  .rename_i h;clear m B;refine⟨rfl,?_⟩;unfold XR;refine w0 (.cons 13 _ (.cons 12 _ (.cons 11 _ (.cons 10 _ (.cons 9 _ (.cons 8 _ (.cons 7 _ (.cons 6 _ (.cons 5 _ (.cons 4 _ (.cons 3 _ (.cons 2 _ (.cons 1 _ (.cons 0 _ (.nil))))))))))))))) ?_;repeat (first|refine KB ?_|refine vJ ?_|refine w4 (fun g=>?_) fun g=>?_|refine w4B (fun g=>?_) fun g=>?_|refine w2 (.mput 4 2) (r:=rM) (e:=QG qq (_,_,_,_) rfl rfl (fun _=>rfl) (by first|exact h.2.2.2.2.2.2.2.2.2)) (k':=?_)|(refine w7 [.int .i64 _,.int .i64 _,E6 rR _,.int .i64 _,.int .i64 _,.int .i64 _,.int .i64 _,.int .i64 _,.int .i64 _,.int .i64 _,.int .i64 _,.int .i64 _,.int .i64 _,.bool _,E6 rM _] ?_;rotate_left)|refine MN ?_|refine A0r ?_|refine MO ?_|refine w1x (.mget 4 2 2) (e:=nD U.bool (fun a=>(_ == a.1 && (_ == a.2.1 && true))) (fun a=>a.2.2.1) rfl rfl (fun _=>rfl) (fun _=>rfl)) (k':=?_)|refine w1x (.mget 4 2 3) (e:=nD U.bool (fun a=>(_ == a.1 && (_ == a.2.1 && true))) (fun a=>a.2.2.2) rfl rfl (fun _=>rfl) (fun _=>rfl)) (k':=?_)|(refine w7 [.int .i64 _,E6 rR _,.int .i64 _,.int .i64 _,.int .i64 _,.int .i64 _,.int .i64 _,.int .i64 _,.int .i64 _,.int .i64 _,.bool _,E6 rM _] ?_;rotate_left))
   all_goals first
    | refine eB ?_ ?_
      .rw[A0u (r:=r+i) (c:=c+j) (v:=v) (by first|exact A08 ‹_›|exact A09 ‹_›) (by first|exact A08 ‹_›|exact A09 ‹_›),qW i l n k C i2 A (j+1) r c hh ww v _ ⟨A9,A9,A9,A9,A9,A9,A9,A9,A9,WJ h.2.2.2.2.2.2.2.2.2⟩,qW i l n k C i2 A j r c hh ww v x h,A1d (j:=j) (n:=A) A9]
      .rw[RZ,RZ];omega
    | refine N9 (d:=0) ?_
      rw[qW i l n k C i2 A j r c hh ww v x h,A1e A9]
  .cases m
 .cases m
noncomputable def YL:List LpE:=(22,([true,true,false,true,false,false,true,true,false,false,true,true,false,false,true,true,false,false,true,true,false],t6 prog gl n0 5 XU tR))::[]
def EC{G}(e:v8 G):fX prog G gl YL:=.cons func22 XT XS (A1s e) .nil
end
section
open Go Go.Sx Go.Proofs.Try
noncomputable def A2J:iQ:=⟨_,fun e=>.nil⟩
def tQ:List U->Option (Nat×List U)
 | [u_l,.int .i64 n,.int .i64 k,.int .i64 rn,.int .i64 i,.int .i64 r,.int .i64 c,.int .i64 hh,.int .i64 ww,.bool v,u_x]=>(T4 rR u_l).bind fun l=>(T4 rM u_x).bind fun x=>if 0<=i/\i<=rn/\rn<=40/\0<=r/\r<=40/\0<=c/\c<=80/\0<=ww/\ww<=80/\x≠none then some (0,[E6 rR l,.int .i64 n,.int .i64 k,E6 rM (roN r c ww v (rn-i).toNat i x)])else none
 | _=>none
def qV(l:(Option (List (Int×Int×Int×Int×Bool))))(n:Int)(k:Int)(e:Int)(i:Int)(r:Int)(c:Int)(hh:Int)(ww:Int)(v:Bool)(x:(Option (List (Int×Int×Bool×Bool))))(f:0<=i/\i<=e/\e<=40/\0<=r/\r<=40/\0<=c/\c<=80/\0<=ww/\ww<=80/\x≠none):tQ [E6 rR l,.int .i64 n,.int .i64 k,.int .i64 e,.int .i64 i,.int .i64 r,.int .i64 c,.int .i64 hh,.int .i64 ww,.bool v,E6 rM x]=some (0,[E6 rR l,.int .i64 n,.int .i64 k,E6 rM (roN r c ww v (e-i).toNat i x)]):=by
 simp only[tQ,L2,H4];exact B2 f
def XP:J4:=⟨[(3,.map (some 1)),(5,.pointer (some ⟨2,0,none⟩)),(11,dat 3 0 15),(12,h 1 3),(13,h 2 3),(19,h 3 3),(20,h 4 3)],[(2,.cells 29 [h 5 3,h 6 3,h 7 3,h 8 3,h 9 8]),(1,.mp 10 14 55),(3,.frz)],11,[⟨.exit 2,[(3,.map (some 1)),(11,dat 4 0 15),(12,h 1 3),(13,h 2 3)],[(1,.mp 3 14 55),(4,.frz)],4⟩]⟩
noncomputable def RW:Code:=(f22.body).getD .skip
noncomputable def XL:Code:=match G3 [true,true,false,true,false,false,true,true,false,false,true,true,false] RW with|some (.loop x)=>x|_=>.skip
def XO:f22.body=some RW:=rfl
def XN:G3 [true,true,false,true,false,false,true,true,false,false,true,true,false] RW=some (.loop XL):=G9
def XM:Tr:=aL [h3 4,h3 3]<|.br 11 (.fn tR [h3 4,h 0 15,h3 1,h3 2,h3 3,h3 4,h3 8,jI 0,h3 5,h3 6,h3 7,h3 8,h 9 8,h 10 14] 11<|aA [h3 16,jI 1]<|.ret [jI (-1),h 12 15,h3 13,h3 14,h3 15,h3 23,h3 17,h3 18,h3 19,h3 20,h 21 8,h 22 14]) (.ret [jI 0,h 0 15,h3 1,h3 2,h 10 14])
def RV:List U->Nat
 | [u_l,.int .i64 n,.int .i64 k,.int .i64 rn,.int .i64 i,.int .i64 r,.int .i64 c,.int .i64 hh,.int .i64 ww,.bool v,u_x]=>(match T4 rR u_l with|some l=>(match T4 rM u_x with|some x=>(rn-i).toNat|none=>0)|none=>0)
 | _=>0
def RU(l:(Option (List (Int×Int×Int×Int×Bool))))(n:Int)(k:Int)(e:Int)(i:Int)(r:Int)(c:Int)(hh:Int)(ww:Int)(v:Bool)(x:(Option (List (Int×Int×Bool×Bool)))):RV [E6 rR l,.int .i64 n,.int .i64 k,.int .i64 e,.int .i64 i,.int .i64 r,.int .i64 c,.int .i64 hh,.int .i64 ww,.bool v,E6 rM x]=(e-i).toNat:=by
 simp only[RV,L2]
def A1r{G}(t:v8 G):∀ (E:Nat->U) (base:Nat),@w9 ⟨E,G⟩ prog base gl f22.ntmps XL (t6 prog gl n0 5 XP tQ):=by
 refine mK (dep:=60) (f:=22) (n0:=n0) (nB:=5) (H0:=H0) RV XM (cxg (A2J.2 t) (EC t)) t func22 XO XN G9 G9 G9 ?_;intro us d outs m;have B:=m;unfold tQ at m;split at m
 .skip;rename_i F n k A i r c hh ww v C;have y:=C6.1 m;clear m;obtain⟨l,p,m⟩:=y;replace p:=K5 p;subst p;have z:=C6.1 m;clear m;obtain⟨x,q,m⟩:=z;replace q:=K5 q;subst q;split at m
  .rename_i h;clear m B;refine⟨rfl,?_⟩;unfold XM;refine w0 (.cons 10 _ (.cons 9 _ (.cons 8 _ (.cons 7 _ (.cons 6 _ (.cons 5 _ (.cons 4 _ (.cons 3 _ (.cons 2 _ (.cons 1 _ (.cons 0 _ (.nil)))))))))))) ?_;repeat (first|refine KB ?_|refine vJ ?_|refine MO ?_|refine w4 (fun g=>?_) fun g=>?_|(refine w3 tR (e:=qW _ _ _ _ _ _ _ _ _ _ _ _ _ _ ⟨A9,A9,A9,A9,A9,A9,A9,A9,A9,h.2.2.2.2.2.2.2.2.2⟩) (k':=?_);show Wk _ _ (.cons _ _ (.cons _ _ (.cons _ _ (.cons _ _ (.cons _ _ (.cons _ _ (.cons _ _ (.cons _ _ (.cons _ _ (.cons _ _ (.cons _ _ _))))))))))))|(refine w7 [.int .i64 _,E6 rR _,.int .i64 _,.int .i64 _,.int .i64 _,.int .i64 _,.int .i64 _,.int .i64 _,.int .i64 _,.int .i64 _,.bool _,E6 rM _] ?_;rotate_left)|(refine w7 [.int .i64 _,E6 rR _,.int .i64 _,.int .i64 _,E6 rM _] ?_;rotate_left))
   all_goals first
    | refine eB ?_ ?_
      .rw[show ww-0=ww by omega,qV l n k A (i+1) r c hh ww v _ ⟨A9,A9,A9,A9,A9,A9,A9,A9,A9,RH _ _ h.2.2.2.2.2.2.2.2.2⟩,qV l n k A i r c hh ww v x h,A00 (j:=i) (n:=A) A9]
      .rw[RU,RU];omega
    | refine N9 (d:=0) ?_
      rw[qV l n k A i r c hh ww v x h,A01 A9]
  .cases m
 .cases m
noncomputable def A2V:List LpE:=(22,([true,true,false,true,false,false,true,true,false,false,true,true,false],t6 prog gl n0 5 XP tQ))::YL
def TC{G}(e:v8 G):fX prog G gl A2V:=.cons func22 XO XN (A1r e) (EC e)
noncomputable def A2I:iQ:=⟨_,fun e=>.nil⟩
def tP:List U->Option (Nat×List U)
 | [u_l,.int .i64 n,.int .i64 k,u_x]=>(T4 rR u_l).bind fun l=>(T4 rM u_x).bind fun x=>if n=((el l).length:Int)/\0<=k/\k<=n/\n<=140737488351232/\(∀ r ∈ el l,vP r)/\x≠none then some (0,[E6 rM (ruL ((el l).drop k.toNat) x)])else none
 | _=>none
def qU(l:(Option (List (Int×Int×Int×Int×Bool))))(n:Int)(k:Int)(x:(Option (List (Int×Int×Bool×Bool))))(e:n=((el l).length:Int)/\0<=k/\k<=n/\n<=140737488351232/\(∀ r ∈ el l,vP r)/\x≠none):tP [E6 rR l,.int .i64 n,.int .i64 k,E6 rM x]=some (0,[E6 rM (ruL ((el l).drop k.toNat) x)]):=by
 simp only[tP,L2,H4];exact B2 e
def XK:J4:=⟨[(3,.map (some 1)),(11,dat 2 0 15),(12,h 1 3),(13,h 2 3)],[(1,.mp 3 14 55),(2,.frz)],4,[⟨.exit 0,[(3,.map (some 1))],[(1,.mp 0 14 55)],1⟩]⟩
noncomputable def RT:Code:=(f22.body).getD .skip
noncomputable def XG:Code:=match G3 [true,true,false,true,false] RT with|some (.loop x)=>x|_=>.skip
def XJ:f22.body=some RT:=rfl
def XI:G3 [true,true,false,true,false] RT=some (.loop XG):=G9
def XH:Tr:=aL [h3 2,h3 1]<|.br 4 (.lt 8 (.inbs 5) [h3 2,h 0 15]<|.br 5 (.lt 3 (.get 5 0) [h 0 15,h3 2]<|.lt 3 (.get 5 1) [h 0 15,h3 2]<|.lt 3 (.get 5 2) [h 0 15,h3 2]<|.lt 3 (.get 5 3) [h 0 15,h3 2]<|.lt 8 (.get 5 4) [h 0 15,h3 2]<|.fn tQ [h 0 15,h3 1,h3 2,h3 8,jI 0,h3 6,h3 7,h3 8,h3 9,h 10 8,h 3 14] 4<|aA [h3 13,jI 1]<|.ret [jI (-1),h 11 15,h3 12,h3 15,h 14 14]) (.no)) (.ret [jI 0,h 3 14])
def RS:List U->Nat
 | [u_l,.int .i64 n,.int .i64 k,u_x]=>(match T4 rR u_l with|some l=>(match T4 rM u_x with|some x=>(n-k).toNat|none=>0)|none=>0)
 | _=>0
def RR(l:(Option (List (Int×Int×Int×Int×Bool))))(n:Int)(k:Int)(x:(Option (List (Int×Int×Bool×Bool)))):RS [E6 rR l,.int .i64 n,.int .i64 k,E6 rM x]=(n-k).toNat:=by
 simp only[RS,L2]
def A1q{G}(A:v8 G):∀ (E:Nat->U) (base:Nat),@w9 ⟨E,G⟩ prog base gl f22.ntmps XG (t6 prog gl n0 3 XK tP):=by
 refine mK (dep:=60) (f:=22) (n0:=n0) (nB:=3) (H0:=H0) RS XH (cxg (A2I.2 A) (TC A)) A func22 XJ XI G9 G9 G9 ?_;intro us d outs m;have F:=m;unfold tP at m;split at m
 .skip;rename_i I n k H;have B:=C6.1 m;clear m;obtain⟨l,p,m⟩:=B;replace p:=K5 p;subst p;have C:=C6.1 m;clear m;obtain⟨x,q,m⟩:=C;replace q:=K5 q;subst q;split at m
  .rename_i t;clear m F;have r:k<n->vP ((el l).getD k.toNat default):=fun h=>t.2.2.2.2.1 _ (CZ A9 A9)
   refine⟨rfl,?_⟩;unfold XH;refine w0 (.cons 3 _ (.cons 2 _ (.cons 1 _ (.cons 0 _ (.nil))))) ?_;repeat (first|refine w4 (fun g=>?_) fun g=>?_|refine KB ?_|refine vJ ?_|refine MO ?_|refine MP ?_|refine w1 (.get 5 0) (u:=.int .i64 _) (e:=X6 rfl A9 A9 rfl) (k':=?_)|refine w1 (.get 5 1) (u:=.int .i64 _) (e:=X6 rfl A9 A9 rfl) (k':=?_)|refine w1 (.get 5 2) (u:=.int .i64 _) (e:=X6 rfl A9 A9 rfl) (k':=?_)|refine w1 (.get 5 3) (u:=.int .i64 _) (e:=X6 rfl A9 A9 rfl) (k':=?_)|refine w1 (.get 5 4) (u:=.bool _) (e:=X6 rfl A9 A9 rfl) (k':=?_)|(refine w3 tQ (e:=qV _ _ _ _ _ _ _ _ _ _ _ ⟨A9,by have z:=(AL (r A9));omega,by have z:=(AL (r A9));omega,by have z:=(AL (r A9));omega,by have z:=(AL (r A9));omega,by have z:=(AL (r A9));omega,by have z:=(AL (r A9));omega,by have z:=(AL (r A9));omega,by have z:=(AL (r A9));omega,t.2.2.2.2.2⟩) (k':=?_);show Wk _ _ (.cons _ _ (.cons _ _ (.cons _ _ (.cons _ _ _)))))|(refine w7 [.int .i64 _,E6 rR _,.int .i64 _,.int .i64 _,E6 rM _] ?_;rotate_left)|(refine w8 ?_;first|omega)|(refine w7 [.int .i64 _,E6 rM _] ?_;rotate_left))
   all_goals first
    | refine eB ?_ ?_
      .rw[show ∀ y:Int,y-0=y from fun y=>by omega,qU l n (k+1) _ ⟨t.1,A9,A9,t.2.2.2.1,t.2.2.2.2.1,WN _ _ t.2.2.2.2.2⟩,qU l n k x t,A0y (i:=k) A9 A9];rfl
      .rw[RR,RR];omega
    | refine N9 (d:=0) ?_
      rw[qU l n k x t,A0z A9 A9]
  .cases m
 .cases m
noncomputable def WA:List LpE:=[(22,([true,true,false,true,false],t6 prog gl n0 3 XK tP))]
def fG{G}(e:v8 G):fX prog G gl WA:=(.cons func22 XJ XI (A1q e) .nil)
noncomputable def A2P:iQ:=⟨_,fun e=>.nil⟩
def JM:List U->Option (Nat×List U)
 | [u_l]=>(T4 rR u_l).bind fun l=>some (0,[E6 rR l,E6 rK none])
 | _=>none
def JL(l:(Option (List (Int×Int×Int×Int×Bool)))):JM [E6 rR l]=some (0,[E6 rR l,E6 rK none]):=by
 simp only[JM,L2,H4]
def YI:J4:=⟨[(0,dat 1 0 15)],[(1,.frz)],1,[⟨.normal,[(0,dat 1 0 15),(2,own 2 1 13)],[(1,.frz),(2,.sq 1 13 45 3),(3,.frz)],2⟩]⟩
noncomputable def SL:Code:=(f9.body).getD .skip
noncomputable def SK:Code:=(G3 [false] SL).getD .skip
def A16:f9.body=some SL:=rfl
def A14:G3 [false] SL=some SK:=dS G9
def YG:Tr:=.dt 13 (.nilw 3) []<|.ret [jI 0,h 0 15,h 1 13]
def YH:J4.ok gl n0 12 f9.ntmps YI=true:=G9
def A15{G}(p:v8 G):nS prog G gl n0 12 f9.ntmps H0 YI JM SK:=by
 refine nI (dep:=60) (f:=9) (n0:=n0) (nB:=12) (H0:=H0) YG (cxg (A2P.2 p) (fG p)) p func9 A16 A14 YH G9 G9 ?_;intro us d outs n;have t:=n;unfold JM at n;split at n
 .skip;rename_i x;have q:=C6.1 n;clear n;obtain⟨l,m,n⟩:=q;replace m:=K5 m;subst m;clear n t;refine⟨rfl,?_⟩;unfold YG;refine w0 (.cons 0 _ (.nil)) ?_;repeat (first|refine w2 (.nilw 3) (r:=rK) (e:=DK rfl) (k':=?_)|(refine w7 [.int .i64 _,E6 rR _,E6 rK _] ?_;rotate_left))
  all_goals first
   | refine N9 (d:=0) ?_
     rw[JL l]
 .cases n
noncomputable def A2O:iQ:=⟨_,fun e=>(.cons (A1m e) .nil)⟩
def xL:List U->Option (Nat×List U)
 | [u_l,u_o]=>(T4 rR u_l).bind fun l=>(T4 rK u_o).bind fun o=>if((el l).length:Int)<=140737488351232/\(∀ r ∈ el l,rOk r)then if rsP (el l)then some (1,[E6 rR l,E6 rK o])else some (0,[E6 rK none,.int .i64 450])else none
 | _=>none
def qY(l:(Option (List (Int×Int×Int×Int×Bool))))(o:(Option (List (Int×Int×Int))))(e:((el l).length:Int)<=140737488351232/\(∀ r ∈ el l,rOk r)):xL [E6 rR l,E6 rK o]=if rsP (el l)then some (1,[E6 rR l,E6 rK o])else some (0,[E6 rK none,.int .i64 450]):=by
 simp only[xL,L2,H4];exact B2 e
def YF:J4:=⟨[(0,dat 1 0 15),(2,own 2 1 13)],[(1,.frz),(2,.sq 1 13 45 3),(3,.frz)],2,[⟨.ret,[(2,own 2 0 13),(3,h 1 3)],[(2,.sq 0 13 45 3),(3,.frz)],2⟩,⟨.normal,[(0,dat 1 0 15),(2,own 2 1 13)],[(1,.frz),(2,.sq 1 13 45 3),(3,.frz)],2⟩]⟩
noncomputable def SJ:Code:=(f9.body).getD .skip
noncomputable def SH:Code:=(G3 [true,false] SJ).getD .skip
def A13:f9.body=some SJ:=rfl
def A12:G3 [true,false] SJ=some SH:=dS G9
def YD:Tr:=.fn xF [h 0 15] 1<|aN [h3 2,jI 0]<|.br 3 (.dt 13 (.nilw 3) []<|.ret [jI 0,h 4 13,h3 2]) (.ret [jI 1,h 0 15,h 1 13])
def SI:J4.ok gl n0 12 f9.ntmps YF=true:=G9
def YE{G}(q:v8 G):nS prog G gl n0 12 f9.ntmps H0 YF xL SH:=by
 refine nI (dep:=60) (f:=9) (n0:=n0) (nB:=12) (H0:=H0) YD (cxg (A2O.2 q) (fG q)) q func9 A13 A12 SI G9 G9 ?_;intro us d outs m;have y:=m;unfold xL at m;split at m
 .skip;rename_i E C;have t:=C6.1 m;clear m;obtain⟨l,n,m⟩:=t;replace n:=K5 n;subst n;have x:=C6.1 m;clear m;obtain⟨o,p,m⟩:=x;replace p:=K5 p;subst p;split at m
  .rename_i z;clear m y;have B:rsP (el l)->uV (el l)=0:=fun h=>B2 h
   have A:¬rsP (el l)->uV (el l)=450:=fun h=>B1 h
   refine⟨rfl,?_⟩;unfold YD;refine w0 (.cons 1 _ (.cons 0 _ (.nil))) ?_;repeat (first|refine w31 xF (e:=VP _ z) (k':=?_)|refine YT ?_|refine w4 (fun g=>?_) fun g=>?_|refine w2 (.nilw 3) (r:=rK) (e:=DK rfl) (k':=?_)|(refine w7 [.int .i64 _,E6 rK _,.int .i64 _] ?_;rotate_left)|(refine w7 [.int .i64 _,E6 rR _,E6 rK _] ?_;rotate_left))
   all_goals first
    | refine N9 (d:=0) ?_
      rw[qY l o z];by_cases h:rsP (el l)
      .exact absurd (B h) ‹_›
      .rw[B1 h,A h]
    | refine N9 (d:=1) ?_
      rw[qY l o z];by_cases h:rsP (el l)
      .rw[B2 h]
      .exfalso;have:=A h;omega
  .cases m
 .cases m
noncomputable def A2N:iQ:=⟨_,fun e=>.nil⟩
def JK:List U->Option (Nat×List U)
 | [u_l,u_o]=>(T4 rR u_l).bind fun l=>(T4 rK u_o).bind fun o=>if((el l).length:Int)<=140737488351232/\(∀ r ∈ el l,vP r)then some (0,[E6 rK o,E6 rM (ruL (el l) (some []))])else none
 | _=>none
def JI(l:(Option (List (Int×Int×Int×Int×Bool))))(o:(Option (List (Int×Int×Int))))(e:((el l).length:Int)<=140737488351232/\(∀ r ∈ el l,vP r)):JK [E6 rR l,E6 rK o]=some (0,[E6 rK o,E6 rM (ruL (el l) (some []))]):=by
 simp only[JK,L2,H4];exact B2 e
def YC:J4:=⟨[(0,dat 1 0 15),(2,own 2 1 13)],[(1,.frz),(2,.sq 1 13 45 3),(3,.frz)],2,[⟨.normal,[(2,own 2 0 13),(5,.pointer (some ⟨4,0,none⟩))],[(2,.sq 0 13 45 3),(4,.cm 55 [.map (some 5)]),(3,.frz),(5,.mm 1 14 55)],2⟩]⟩
noncomputable def SG:Code:=(f9.body).getD .skip
noncomputable def SF:Code:=(G3 [true,true,false] SG).getD .skip
def A11:f9.body=some SG:=rfl
def A1z:G3 [true,true,false] SG=some SF:=dS G9
def YA:Tr:=.dt 14 (.mk 4) []<|aD [h 0 15]<|.fn tP [h 0 15,h3 3,jI 0,h 2 14] 1<|.ret [jI 0,h 1 13,h 4 14]
def YB:J4.ok gl n0 12 f9.ntmps YC=true:=G9
def A10{G}(q:v8 G):nS prog G gl n0 12 f9.ntmps H0 YC JK SF:=by
 refine nI (dep:=60) (f:=9) (n0:=n0) (nB:=12) (H0:=H0) YA (cxg (A2N.2 q) (fG q)) q func9 A11 A1z YB G9 G9 ?_;intro us d outs m;have y:=m;unfold JK at m;split at m
 .skip;rename_i h A;have t:=C6.1 m;clear m;obtain⟨l,n,m⟩:=t;replace n:=K5 n;subst n;have x:=C6.1 m;clear m;obtain⟨o,p,m⟩:=x;replace p:=K5 p;subst p;split at m
  .rename_i z;clear m y;have B:(el l).drop (0:Int).toNat=el l:=rfl;refine⟨rfl,?_⟩;unfold YA;refine w0 (.cons 1 _ (.cons 0 _ (.nil))) ?_;repeat (first|refine w2 (.mk 4) (r:=rM) (e:=A0J [] rfl L7 rfl) (k':=?_)|refine GX ?_|refine w31 tP (e:=qU _ _ _ _ ⟨rfl,L7,A9,A9,z.2,Y6 _⟩) (k':=?_)|(refine w7 [.int .i64 _,E6 rK _,E6 rM _] ?_;rotate_left))
   all_goals first
    | refine N9 (d:=0) ?_
      rw[JI l o z];rfl
  .cases m
 .cases m
def isM(x:Option (List Mt))(r c:Int):Bool:=(el x).any (fun a=>(r == a.1) && ((c == a.2.1) && true))
def cnS(x:Option (List Mt))(dr dc r c:Int)(v h:Bool):Bool:=isM x (r+dr) (c+dc) && (if dr=0 then h || fH x (r+dr) (c+dc)else v || fV x (r+dr) (c+dc))
def A20{x:Option (List Mt)}{r:Int}{h:Bool}(g:isM x (r+dr) (c+dc)=false):cnS x dr dc r c v h=false:=by unfold cnS;rw[g];rfl
def A2z{x:Option (List Mt)}{r:Int}{h:Bool}(g:isM x (r+dr) (c+dc)=true)(k:¬dr=0)(q:v=true):cnS x dr dc r c v h=true:=by unfold cnS;rw[g,B1 k,q];rfl
def A2y{x:Option (List Mt)}{r:Int}{h:Bool}(g:isM x (r+dr) (c+dc)=true)(k:¬dr=0)(q:v=false):cnS x dr dc r c v h=fV x (r+dr) (c+dc):=by unfold cnS;rw[g,B1 k,q];rfl
def A21{x:Option (List Mt)}{r:Int}{h:Bool}(g:isM x (r+dr) (c+dc)=true)(k:dr=0)(q:h=true):cnS x dr dc r c v h=true:=by unfold cnS;rw[g,B2 k,q];rfl
def A22{x:Option (List Mt)}{r:Int}{h:Bool}(g:isM x (r+dr) (c+dc)=true)(k:dr=0)(q:h=false):cnS x dr dc r c v h=fH x (r+dr) (c+dc):=by unfold cnS;rw[g,B2 k,q];rfl
def mkS(x:Option (List Mt))(r c:Int)(v h:Bool):Int:=uX (cnS x (-1) 0 r c v h) (cnS x 1 0 r c v h) (cnS x 0 (-1) r c v h) (cnS x 0 1 r c v h)
def mkC(x:Option (List Mt))(r c:Int)(v h:Bool):Int:=if mkS x r c v h=0 then(if v=true then 0x2502 else 0x2500)else mkS x r c v h
def A2f{a:Bool}{r:Int}{h:Bool}{m:U}(k:a=b):[U.bool a,.int .i64 r,.int .i64 c,.bool v,.bool h,m]=[U.bool b,.int .i64 r,.int .i64 c,.bool v,.bool h,m]:=by rw[k]
noncomputable def A2F:iQ:=⟨_,fun e=>.nil⟩
def nG:List U->Option (Nat×List U)
 | [.int .i64 dr,.int .i64 dc,.int .i64 r,.int .i64 c,.bool v,.bool h,u_x]=>(T4 rM u_x).bind fun x=>if 0<=r/\r<=40/\0<=c/\c<=80 /\ -1<=dr/\dr<=1 /\ -1<=dc/\dc<=1 then some (0,[.bool (cnS x dr dc r c v h),.int .i64 r,.int .i64 c,.bool v,.bool h,E6 rM x])else none
 | _=>none
def JA(dr:Int)(dc:Int)(r:Int)(c:Int)(v:Bool)(h:Bool)(x:(Option (List (Int×Int×Bool×Bool))))(e:0<=r/\r<=40/\0<=c/\c<=80 /\ -1<=dr/\dr<=1 /\ -1<=dc/\dc<=1):nG [.int .i64 dr,.int .i64 dc,.int .i64 r,.int .i64 c,.bool v,.bool h,E6 rM x]=some (0,[.bool (cnS x dr dc r c v h),.int .i64 r,.int .i64 c,.bool v,.bool h,E6 rM x]):=by
 simp only[nG,L2,H4];exact B2 e
def A1h:J4:=⟨[(0,h 0 3),(1,h 1 3),(2,.pointer (some ⟨4,0,none⟩)),(3,.pointer (some ⟨6,0,none⟩)),(4,.pointer (some ⟨7,0,none⟩))],[(4,.cells 55 [.map (some 5)]),(6,.cells 58 [h 2 3,h 3 3]),(7,.cells 60 [h 4 8,h 5 8]),(5,.mp 6 1014 55)],7,[⟨.ret,[(7,h 0 8),(2,.pointer (some ⟨4,0,none⟩)),(3,.pointer (some ⟨6,0,none⟩)),(4,.pointer (some ⟨7,0,none⟩))],[(4,.cells 55 [.map (some 5)]),(6,.cells 58 [h 1 3,h 2 3]),(7,.cells 60 [h 3 8,h 4 8]),(5,.mp 5 1014 55)],6⟩]⟩
noncomputable def A1i:Code:=(f23.body).getD .skip
def A1g:f23.body=some A1i:=rfl
def WY:Tr:=aA [h3 2,h3 0]<|aA [h3 3,h3 1]<|.lt 8 (.mget 4 2 2) [h 6 1014,.bool false,h3 7,h3 8]<|.lt 8 (.mget 4 2 3) [h 6 1014,.bool false,h3 7,h3 8]<|.lt 8 (.mhas 4 2) [h 6 1014,h3 7,h3 8]<|aN [h3 0,jI 0]<|.br 12 (.br 11 (.br 4 (.ret [jI 0,.bool true,h3 2,h3 3,h 4 8,h 5 8,h 6 1014]) (.ret [jI 0,h 9 8,h3 2,h3 3,h 4 8,h 5 8,h 6 1014])) (.ret [jI 0,.bool false,h3 2,h3 3,h 4 8,h 5 8,h 6 1014])) (.br 11 (.br 5 (.ret [jI 0,.bool true,h3 2,h3 3,h 4 8,h 5 8,h 6 1014]) (.ret [jI 0,h 10 8,h3 2,h3 3,h 4 8,h 5 8,h 6 1014])) (.ret [jI 0,.bool false,h3 2,h3 3,h 4 8,h 5 8,h 6 1014]))
def A1f{G}(p:v8 G):JX prog G gl 23 (OZ prog f23 gl n0 10 A1h nG):=by
 refine ZV (dep:=60) (f:=23) (n0:=n0) (nB:=10) (H0:=H0) WY (cxg (A2F.2 p) (fG p)) p func23 A1g G9 G9 G9 ?_;intro us d outs n;have t:=n;unfold nG at n;split at n
 .skip;rename_i dr dc r c v h A;have q:=C6.1 n;clear n;obtain⟨x,m,n⟩:=q;replace m:=K5 m;subst m;split at n
  .rename_i z;clear n t;refine⟨rfl,?_⟩;unfold WY;refine w0 (.cons 6 _ (.cons 5 _ (.cons 4 _ (.cons 3 _ (.cons 2 _ (.cons 1 _ (.cons 0 _ (.nil)))))))) ?_;repeat (first|refine w4 (fun g=>?_) fun g=>?_|refine w4B (fun g=>?_) fun g=>?_|(refine w7 [.int .i64 _,.bool _,.int .i64 _,.int .i64 _,.bool _,.bool _,E6 rM _] ?_;rotate_left)|refine KB ?_|refine vJ ?_|refine w1x (.mget 4 2 2) (e:=nD U.bool (fun a=>(_ == a.1 && (_ == a.2.1 && true))) (fun a=>a.2.2.1) rfl rfl (fun _=>rfl) (fun _=>rfl)) (k':=?_)|refine w1x (.mget 4 2 3) (e:=nD U.bool (fun a=>(_ == a.1 && (_ == a.2.1 && true))) (fun a=>a.2.2.2) rfl rfl (fun _=>rfl) (fun _=>rfl)) (k':=?_)|refine w1x (.mhas 4 2) (e:=QH (fun a=>(_ == a.1 && (_ == a.2.1 && true))) rfl rfl (fun _=>rfl)) (k':=?_)|refine YT ?_)
   all_goals first
    | refine N9 (d:=0) ?_
      rw[JA dr dc r c v h x z];refine U8 (fun y=>some (0,y)) (A2f ?_);first|exact A20 ‹_›|exact A2z ‹_› A9 ‹_›|exact A2y ‹_› A9 ‹_›|exact A21 ‹_› A9 ‹_›|exact A22 ‹_› A9 ‹_›
  .cases n
 .cases n
def A1G{x:Option (List Mt)}{r:Int}{h:Bool}(g:uX (cnS x (-1) 0 r c v h) (cnS x 1 0 r c v h) (cnS x 0 (-1) r c v h) (cnS x 0 1 r c v h)=0)(q:v=true):mkC x r c v h=9474:=by
 unfold mkC mkS;rw[B2 g,B2 q]
def A1I{x:Option (List Mt)}{r:Int}{h:Bool}(g:uX (cnS x (-1) 0 r c v h) (cnS x 1 0 r c v h) (cnS x 0 (-1) r c v h) (cnS x 0 1 r c v h)=0)(q:v=false):mkC x r c v h=9472:=by
 unfold mkC mkS;rw[B2 g,B1 (by rw[q];decide)]
def A1H{x:Option (List Mt)}{r:Int}{h:Bool}(g:¬uX (cnS x (-1) 0 r c v h) (cnS x 1 0 r c v h) (cnS x 0 (-1) r c v h) (cnS x 0 1 r c v h)=0):mkC x r c v h=uX (cnS x (-1) 0 r c v h) (cnS x 1 0 r c v h) (cnS x 0 (-1) r c v h) (cnS x 0 1 r c v h):=by
 unfold mkC mkS;rw[B1 g]
attribute [local irreducible] uX mkC cnS
noncomputable def A2M:iQ:=⟨_,fun e=>(.consM (A1f e) (.cons (RF e) .nil))⟩
def JG:List U->Option (Nat×List U)
 | [u_o,u_x,.int .i64 r,.int .i64 c,.bool v,.bool h]=>(T4 rK u_o).bind fun o=>(T4 rM u_x).bind fun x=>if((el o).length:Int)<=100000000/\0<=r/\r<=40/\0<=c/\c<=80 then some (0,[E6 rK (some (el o++[(r,c,mkC x r c v h)])),E6 rM x])else none
 | _=>none
def JF(o:(Option (List (Int×Int×Int))))(x:(Option (List (Int×Int×Bool×Bool))))(r:Int)(c:Int)(v:Bool)(h:Bool)(e:((el o).length:Int)<=100000000/\0<=r/\r<=40/\0<=c/\c<=80):JG [E6 rK o,E6 rM x,.int .i64 r,.int .i64 c,.bool v,.bool h]=some (0,[E6 rK (some (el o++[(r,c,mkC x r c v h)])),E6 rM x]):=by
 simp only[JG,L2,H4];exact B2 e
def fW:J4:=⟨[(2,own 2 0 13),(5,.pointer (some ⟨4,0,none⟩)),(18,.pointer (some ⟨8,0,none⟩)),(21,.tuple ⟨[.agg ⟨[h 2 3,h 3 3]⟩,.agg ⟨[h 4 8,h 5 8]⟩]⟩)],[(2,.sq 0 13 45 3),(4,.cells 55 [.map (some 5)]),(8,.iter []),(3,.frz),(5,.mp 1 1014 55)],6,[⟨.normal,[(2,own 2 0 13),(5,.pointer (some ⟨4,0,none⟩)),(18,.pointer (some ⟨8,0,none⟩))],[(2,.sq 0 13 45 3),(4,.cells 55 [.map (some 5)]),(8,.iter []),(3,.frz),(5,.mp 1 1014 55)],2⟩]⟩
noncomputable def JH:Code:=(f9.body).getD .skip
noncomputable def SD:Code:=(G3 [true,true,true,false,true,false,false,true,true,false,true] JH).getD .skip
def A1y:f9.body=some JH:=rfl
def A1w:G3 [true,true,true,false,true,false,false,true,true,false,true] JH=some SD:=dS G9
noncomputable def kG:Array Oper:=match G3 [true,true,true,false,true,false,false,true,true,false,false] JH with|some (.region _ o _)=>o|_=>#[]
def SE(n:Nat):Tr:=aE [h3 30,jI 0]<|.br n (.dt 13 (.snoc 3) [h 0 13,h3 25,h3 26,jI 9472]<|.ret [jI 0,h (n+1) 13,h 29 1014]) (.dt 13 (.snoc 3) [h 0 13,h3 25,h3 26,h3 30]<|.ret [jI 0,h (n+1) 13,h 29 1014])
def XY:Tr:=.fn nG [jI (-1),jI 0,h3 2,h3 3,h 4 8,h 5 8,h 1 1014] 6<|.fn nG [jI 1,jI 0,h3 7,h3 8,h 9 8,h 10 8,h 11 1014] 6<|.fn nG [jI 0,jI (-1),h3 13,h3 14,h 15 8,h 16 8,h 17 1014] 6<|.fn nG [jI 0,jI 1,h3 19,h3 20,h 21 8,h 22 8,h 23 1014] 6<|.fn tN [h 6 8,h 12 8,h 18 8,h 24 8] 1<|aE [h3 30,jI 0]<|.br 31 (.br 27 (.dt 13 (.snoc 3) [h 0 13,h3 25,h3 26,jI 9474]<|.ret [jI 0,h 32 13,h 29 1014]) (SE 32)) (SE 32)
def XZ:J4.ok gl n0 12 f9.ntmps fW=true:=G9
def A1x{G}(y:v8 G):TE prog G gl n0 12 f9.ntmps H0 fW JG kG (kG.toList.drop 1) SD:=by
 refine LO (dep:=60) (f:=9) (n0:=n0) (nB:=12) (H0:=H0) XY (cxg (A2M.2 y) .nil) y func9 A1y A1w XZ G9 G9 ?_;intro us d outs m;have z:=m;unfold JG at m;split at m
 .skip;rename_i B C r c v h;have t:=C6.1 m;clear m;obtain⟨o,p,m⟩:=t;replace p:=K5 p;subst p;have q:=C6.1 m;clear m;obtain⟨x,n,m⟩:=q;replace n:=K5 n;subst n;split at m
  .rename_i A;clear m z;refine⟨rfl,?_⟩;unfold XY;refine w0 (.cons 5 _ (.cons 4 _ (.cons 3 _ (.cons 2 _ (.cons 1 _ (.cons 0 _ (.nil))))))) ?_;repeat (first|refine w4 (fun g=>?_) fun g=>?_|refine w4B (fun g=>?_) fun g=>?_|refine w2 (.snoc 3) (r:=rK) (e:=QF (a:=(_,_,_)) rfl rfl L7 (by simp[*]<;>omega)) (k':=?_)|(refine w7 [.int .i64 _,E6 rK _,E6 rM _] ?_;rotate_left)|(refine w3 nG (e:=JA _ _ _ _ _ _ _ A9) (k':=?_);show Wk _ _ (.cons _ _ (.cons _ _ (.cons _ _ (.cons _ _ (.cons _ _ (.cons _ _ _)))))))|refine YU ?_|refine w31 tN (e:=RE _ _ _ _) (k':=?_))
   all_goals first
    | refine N9 (d:=0) ?_
      rw[JF o x r c v h A];first|(exact absurd ‹_› (by assumption:¬uX _ _ _ _=0))|rw[A1G ‹_› ‹_›]|rw[A1I ‹_› ‹_›]|rw[A1H ‹_›]
  .cases m
 .cases m
noncomputable def A2L:iQ:=⟨_,fun e=>.nil⟩
def JE:List U->Option (Nat×List U)
 | [u_o,u_x]=>(T4 rK u_o).bind fun o=>(T4 rM u_x).bind fun x=>some (0,[E6 rK o,.int .i64 0])
 | _=>none
def JD(o:(Option (List (Int×Int×Int))))(x:(Option (List (Int×Int×Bool×Bool)))):JE [E6 rK o,E6 rM x]=some (0,[E6 rK o,.int .i64 0]):=by
 simp only[JE,L2,H4]
def XX:J4:=⟨[(2,own 2 0 13)],[(2,.sq 0 13 45 3),(3,.frz)],2,[⟨.ret,[(2,own 2 0 13),(3,h 1 3)],[(2,.sq 0 13 45 3),(3,.frz)],2⟩]⟩
noncomputable def SC:Code:=(f9.body).getD .skip
noncomputable def xK:Code:=(G3 [true,true,true,true,true] SC).getD .skip
def A1v:f9.body=some SC:=rfl
def A1t:G3 [true,true,true,true,true] SC=some xK:=dS G9
def XV:Tr:=.ret [jI 0,h 0 13,jI 0]
def XW:J4.ok gl n0 12 f9.ntmps XX=true:=G9
def A1u{G}(q:v8 G):nS prog G gl n0 12 f9.ntmps H0 XX JE xK:=by
 refine nI (dep:=60) (f:=9) (n0:=n0) (nB:=12) (H0:=H0) XV (cxg (A2L.2 q) .nil) q func9 A1v A1t XW G9 G9 ?_;intro us d outs e;have t:=e;unfold JE at e;split at e
 .skip;rename_i z y;have p:=C6.1 e;clear e;obtain⟨o,m,e⟩:=p;replace m:=K5 m;subst m;have r:=C6.1 e;clear e;obtain⟨x,n,e⟩:=r;replace n:=K5 n;subst n;clear e t;refine⟨rfl,?_⟩;unfold XV;refine w0 (.cons 1 _ (.cons 0 _ (.nil))) ?_;repeat (first|(refine w7 [.int .i64 _,E6 rK _,.int .i64 _] ?_;rotate_left))
  all_goals first
   | refine N9 (d:=0) ?_
     rw[JD o x]
 .cases e
end
section
open Go Go.Sx
def kM(a:Mt):Int×Int:=(a.1,a.2.1)
def A04{a b:Mt}:qq a b=true↔kM a=kM b:=by
 unfold qq kM;simp[I9]
def OH{a:Mt}:∀ {R:List Mt},(mE qq a R).map kM=if kM a ∈ R.map kM then R.map kM else R.map kM++[kM a]
 | []=>rfl
 | b::R=>by
   unfold mE;cases f:qq a b with
   | true =>
     have e:=A04.1 f;rw[B2 rfl,B8,B8,B2 (by rw[e];exact B4),e]
   | false =>
     have e:kM a≠kM b:=fun h=>by rw[A04.2 h]at f;cases f
     rw[B1 L7,B8,B8,OH];by_cases h:kM a ∈ R.map kM
     .rw[B2 h,B2 (C5 _ h)]
     .rw[B1 h,B1 (by rw[A8];exact fun q=>q.elim e h)];rfl
def BN{a:Mt}:∀ {R:List Mt},(mE qq a R).length<=R.length+1
 | []=>A6 _
 | b::R=>by
   unfold mE;split
   .simp
   .have:=BN (a:=a) (R:=R);simp;omega
def BM{a:Mt}:∀ {R:List Mt} {z:Mt},z ∈ mE qq a R->z=a∨z ∈ R
 | [],z,h=>.inl (G6.1 h)
 | b::R,z,h=>by
   unfold mE at h;split at h
   .rcases A8.1 h with h|h
    .exact .inl h
    .exact .inr (C5 _ h)
   .rcases A8.1 h with h|h
    .exact .inr (by rw[h];exact B4)
    .rcases BM h with h|h
     .exact .inl h
     .exact .inr (C5 _ h)
structure GdM (n:Nat) (x:Option (List Mt)):Prop where
 nn:x≠none
 nd:((el x).map kM).Nodup
 bd:∀ a ∈ el x,0<=a.1/\a.1<40/\0<=a.2.1/\a.2.1<80
 le:(el x).length<=n
def GdM.st{n:Nat}{x:Option (List Mt)}(h:GdM n x){r:Int}(hr:0<=r/\r<40)(m:0<=c/\c<80):GdM (n+1) (stM x r c v):=by
 obtain⟨h1,p,h3,q⟩:=h;cases x with
 | none=>exact absurd rfl h1
 | some l =>
   refine⟨Y6 _,?_,fun a A=>?_,?_⟩
   .show((mE qq _ l).map kM).Nodup;rw[OH];split
    .exact p
    .rename_i t;exact dE.2 ⟨p,by simp,fun x z y f=>by rw[G6]at f;subst f;exact fun e=>t (e▸z)⟩
   .rcases BM (show a ∈ mE qq _ l from A)with rfl|h
    .exact⟨hr.1,hr.2,m.1,m.2⟩
    .exact h3 a h
   .have:=BN (a:=(r,c,fV (some l) r c || v,fH (some l) r c || !v)) (R:=l);have q:l.length<=n:=q;show(mE qq _ l).length<=n+1;omega
def GdM.co{r:Int} :∀ {m n:Nat} {j:Int} {x:Option (List Mt)},GdM n x->0<=r/\r<40->0<=c->0<=j->c+j+m<=80->GdM (n+m) (coN r c v m j x)
 | 0,n,j,x,h,_,_,_,_=>h
 | m+1,n,j,x,h,hr,hc,hj,hm=>by
   have:GdM (n+1+m) (coN r c v m (j+1) (stM x r (c+j) v)):=GdM.co (h.st (r:=r) (c:=c+j) (v:=v) hr ⟨A9,A9⟩) hr hc A9 (by push_cast at hm ⊢;omega);rw[show n+(m+1)=n+1+m by omega];exact this
def GdM.ro{r w:Int}(hw:0<=w)(f:0<=c)(e:c+w<=80):∀ {m n:Nat} {i:Int} {x:Option (List Mt)},GdM n x->0<=r->0<=i->r+i+m<=40->GdM (n+m*w.toNat) (roN r c w v m i x)
 | 0,n,i,x,h,_,_,_=>by rw[fJ];exact h
 | m+1,n,i,x,h,hr,hi,hm=>by
   have h1:=h.co (r:=r+i) (c:=c) (v:=v) (m:=w.toNat) (j:=0) ⟨A9,by push_cast at hm;omega⟩ f A9 A9;have:GdM (n+w.toNat+m*w.toNat) (roN r c w v m (i+1) (coN (r+i) c v w.toNat 0 x)):=GdM.ro hw f e h1 hr A9 (by push_cast at hm ⊢;omega);rw[show n+(m+1)*w.toNat=n+w.toNat+m*w.toNat by rw[G0,dD];omega];exact this
def GdM.le_{n m:Nat}{x:Option (List Mt)}(h:GdM n x)(hm:n<=m):GdM m x:=⟨h.nn,h.nd,h.bd,B6 h.le hm⟩
def GdM.ru{n:Nat}{x:Option (List Mt)}(h:GdM n x){r:Rt}(f:vP r):GdM (n+80) (ruN x r):=by
 obtain⟨h0,h1,e,h3,q,t,p⟩:=f
 have:=h.ro (r:=r.1) (c:=r.2.1) (w:=r.2.2.2.1) (v:=r.2.2.2.2) A9 e A9 (m:=r.2.2.1.toNat) (i:=0) h1 A9 A9;refine this.le_ ?_;have hle:r.2.2.1.toNat*r.2.2.2.1.toNat<=80:=by
  split at h0
  .rw[h0];simp;omega
  .rw[h0];simp;omega
 omega
def GdM.rul:∀ {l:List Rt} {n:Nat} {x:Option (List Mt)},GdM n x->(∀ r ∈ l,vP r)->GdM (n+80*l.length) (ruL l x)
 | [],n,x,h,_=>h
 | r::l,n,x,h,hv=>by
   have:=GdM.rul (l:=l) (h.ru (hv r B4)) fun r hr=>hv r (C5 _ hr)
   rw[show n+80*(r::l).length=n+80+80*l.length by rw[I7];omega];exact this
def A1V{l:List Rt}(h:rsP l):GdM 5120 (ruL l (some [])) :=
 (GdM.rul (n:=0) (x:=some []) ⟨Y6 _,iT,(fun a e=>by cases e),A6 _⟩ h.2).le_ (by have:=h.1;omega)
def UW{x:Option (List Mt)}(h:((el x).map kM).Nodup){a:Mt}(e:a ∈ el x):fK x a.1 a.2.1=some a:=by
 unfold fK;generalize m:el x=l at *;clear m;induction l with
 | nil=>cases e
 | cons b l n =>
   rw[aP];rw[B8,gB]at h;rcases A8.1 e with rfl|e
   .simp
   .have:((a.1 == b.1) && ((a.2.1 == b.2.1) && true))=false:=by
     cases f:((a.1 == b.1) && ((a.2.1 == b.2.1) && true))with
     | false=>rfl
     | true =>
       exfalso;simp at f;exact h.1 (I6.2 ⟨a,e,by unfold kM;rw[f.1,f.2]⟩)
    rw[this];exact n h.2 e
def RG(x:Option (List Mt))(p:Int×Int):Int:=mkC x p.1 p.2 (fV x p.1 p.2) (fH x p.1 p.2)
def mark(x:Option (List Mt))(p:Int×Int):Kt:=(p.1,p.2,RG x p)
def UI{x:Option (List Mt)}(h:((el x).map kM).Nodup){a:Mt}(e:a ∈ el x):((a.1,a.2.1,mkC x a.1 a.2.1 a.2.2.1 a.2.2.2):Kt)=mark x (kM a):=by
 have f:=UW h e;unfold mark RG fV fH kM;rw[f];rfl
end
end Go.Proofs.Ytjdnjfnhdeplfaa
namespace Go.Proofs
section
open Go.Shelf
def Try.lays122_ren:Go.Shelf.Ren:=⟨fun|122=>27|215=>37|n=>n,fun|3=>3|4=>4|n=>n,fun|n=>n⟩
def Try.lays122:Go.Proofs.Lays.n122 Try.prog Try.lays122_ren:={
 mixed:=G9
 f122:=dL Try.func27
 f215:=dL Try.func37
 t3:=Try.underlying3
 a3:=Try.isAgg3
 z3:=Try.sizeOf3
 v3:=Try.zeroValue3
 t4:=Try.underlying4
 a4:=Try.isAgg4
 z4:=Try.sizeOf4
 v4:=Try.zeroValue4 }
open Go.RowKit in
def Try.cmp_Compare_int(x y:Int)(w:World) :
  Calls Try.prog 27 #[.int .i64 x,.int .i64 y] w fun e w'=>e=.returned (.int .i64 (Lib.compareInt x y))/\w'=w:=Any.cmp_Compare_int Try.lays122 x y w
def Try.sortL_ren:Go.Shelf.Ren:=⟨fun|6=>24|15=>36|14=>35|28=>48|29=>49|20=>40|21=>41|22=>42|23=>43|24=>44|25=>45|26=>46|27=>47|46=>50|47=>51|48=>52|49=>53|50=>54|57=>55|n=>n,fun|22=>32|24=>45|25=>66|3=>3|39=>78|0=>0|53=>93|55=>95|4=>4|46=>86|45=>85|50=>90|5=>5|9=>9|66=>96|70=>100|76=>102|77=>103|n=>n,fun|n=>n⟩
def Try.sortL:Go.Proofs.SlLaysF0.n6 Try.prog Try.sortL_ren:={
 mixed:=G9
 f6:=⟨Try.f24.name,by decide,dL Try.func24⟩
 f14:=⟨Try.f35.name,by decide,dL Try.func35⟩
 f15:=dL Try.func36
 f20:=⟨Try.f40.name,by decide,dL Try.func40⟩
 f21:=⟨Try.f41.name,by decide,dL Try.func41⟩
 f22:=⟨Try.f42.name,by decide,dL Try.func42⟩
 f23:=⟨Try.f43.name,by decide,dL Try.func43⟩
 f24:=⟨Try.f44.name,by decide,dL Try.func44⟩
 f25:=⟨Try.f45.name,by decide,dL Try.func45⟩
 f26:=⟨Try.f46.name,by decide,dL Try.func46⟩
 f27:=⟨Try.f47.name,by decide,dL Try.func47⟩
 f28:=dL Try.func48
 f29:=dL Try.func49
 f46:=⟨Try.f50.name,by decide,dL Try.func50⟩
 f47:=dL Try.func51
 f48:=dL Try.func52
 f49:=⟨Try.f53.name,by decide,dL Try.func53⟩
 f50:=⟨Try.f54.name,by decide,dL Try.func54⟩
 f57:=⟨Try.f55.name,by decide,dL Try.func55⟩
 t0:=Try.underlying0
 a0:=Try.isAgg0
 z0:=Try.sizeOf0
 v0:=Try.zeroValue0
 t3:=Try.underlying3
 a3:=Try.isAgg3
 z3:=Try.sizeOf3
 v3:=Try.zeroValue3
 t4:=Try.underlying4
 a4:=Try.isAgg4
 z4:=Try.sizeOf4
 v4:=Try.zeroValue4
 t5:=Try.underlying5
 a5:=Try.isAgg5
 z5:=Try.sizeOf5
 v5:=Try.zeroValue5
 t9:=Try.underlying9
 a9:=Try.isAgg9
 z9:=Try.sizeOf9
 v9:=Try.zeroValue9
 t22:=Try.underlying32
 a22:=Try.isAgg32
 z22:=Try.sizeOf32
 v22:=Try.zeroValue32
 t25:=Try.underlying66
 a25:=Try.isAgg66
 z25:=Try.sizeOf66
 v25:=Try.zeroValue66
 t39:=Try.underlying78
 a39:=Try.isAgg78
 z39:=Try.sizeOf78
 v39:=Try.zeroValue78
 t45:=Try.underlying85
 a45:=Try.isAgg85
 z45:=Try.sizeOf85
 v45:=Try.zeroValue85
 t46:=Try.underlying86
 a46:=Try.isAgg86
 z46:=Try.sizeOf86
 v46:=Try.zeroValue86
 t50:=Try.underlying90
 a50:=Try.isAgg90
 z50:=Try.sizeOf90
 v50:=Try.zeroValue90
 t53:=Try.underlying93
 a53:=Try.isAgg93
 z53:=Try.sizeOf93
 v53:=Try.zeroValue93
 t55:=Try.underlying95
 a55:=Try.isAgg95
 z55:=Try.sizeOf95
 v55:=Try.zeroValue95
 t66:=Try.underlying96
 a66:=Try.isAgg96
 z66:=Try.sizeOf96
 v66:=Try.zeroValue96
 t70:=Try.underlying100
 a70:=Try.isAgg100
 z70:=Try.sizeOf100
 v70:=Try.zeroValue100
 t76:=Try.underlying102
 a76:=Try.isAgg102
 z76:=Try.sizeOf102
 v76:=Try.zeroValue102
 t77:=Try.underlying103
 a77:=Try.isAgg103
 z77:=Try.sizeOf103
 v77:=Try.zeroValue103 }
end
section
open Go.Shelf Go.RowKit Go.Lib Go.Sort
set_option maxHeartbeats 2000000 in
def A2l(b:Nat)(x y r:Int)(m:x≠0->r=x)(f:x=0->r=y)(W:World)(T:TypeId)(fr:Nat×Nat)(h:W.heap[b]? = some (.cells #[.int .i64 x,.int .i64 y] T fr)):Calls Try.prog 26 #[.slice (some ⟨b,0,none⟩) 2 2] W fun e w'=>e=.returned (.int .i64 r)/\w'=W:=by
 have h0:W.cell? ⟨b,0,none⟩=some (.int .i64 x):=by simp[World.cell?,h]
 have h1:W.cell? ⟨b,1,none⟩=some (.int .i64 y):=by simp[World.cell?,h]
 go_enter Try.func26,Try.ntmps26
 go_wp2
 refine wp_loop_rounds 3 ?_;rw[rounds_succ]
 go_wp2
 .go_ret
  exact⟨by rw[m (by simpa using(by assumption:(x != 0)=true))];rfl,rfl⟩
 have n:x=0:=by simpa using(by assumption:(x != 0)=false)
 rw[rounds_succ]
 go_wp2
 .go_ret
  exact⟨by rw[f n];rfl,rfl⟩
 have p:y=0:=by simpa using(by assumption:(y != 0)=false)
 rw[rounds_succ]
 go_wp2
 go_ret
 exact⟨by rw[f n,p];rfl,rfl⟩
end
end Go.Proofs
namespace Go.Proofs.Ytjdnjfnhdeplfaa
open Go Go.Sx Go.Sort Go.Shelf
variable {i j:Nat}{u v:Value}{args:Q0}{ks l':List (Int×Int)}
noncomputable def c25:Code:=(Try.f25.body).getD .skip
noncomputable def BX(q:List Bool)(c:Code):Array Oper:=match G3 q c with|some (.region _ o _)=>o|_=>#[]
noncomputable def FY(q:List Bool)(c:Code):Nat:=match G3 q c with|some (.region i _ _)=>i|_=>0
noncomputable def g1:Array Oper:=BX [false] c25
noncomputable def g2:Array Oper:=BX [true,false] c25
def A17:Try.f25.body=some c25:=rfl
def A0d:c25=.seq (.region (FY [false] c25) g1 false) (.seq (.region (FY [true,false] c25) g2 true) .ret):=G9
def A1X:g1.toList=[g1.getD 0 default,g1.getD 1 default,g1.getD 2 default]:=G9
def mW:g2.size=13:=G9
def A0D:((List.range 13).all fun i=>(g2.getD i default).after.toList.all fun e=>Nat.blt e.on i)=true:=G9
def WU(h:i<13):g2[i]? = some (g2.getD i default):=by
 have:i<g2.size:=by rw[mW];exact h
 simp[B0,this]
def aM{o:Oper}{listed:Array Bool}(h:∀ e ∈ o.after.toList,Region.binds .any e=true->listed.getD e.on false=true)(j:Nat)(m:(o.after.toList.any fun e=>Nat.beq e.on j && Region.binds .any e)=true):listed.getD j false=true:=by
 obtain⟨e,h1,f⟩:=N1.1 m;obtain⟨f,h3⟩:=M1 f
 have:=h e h1 h3;rw[A0 f]at this;exact this
def yE{listed:Array Bool}(hi:i<listed.size):(listed.setIfInBounds i true).getD j false=if j=i then true else listed.getD j false:=by
 simp only[B0,D1];by_cases h:j=i
 .subst h;simp[hi]
 .rw[B1 (fun e=>h e.symm),B1 h]
structure MI (T:List (Nat×(Nat×Value))) (b2 b3:Nat) (c1 c2:Int) (W1:World) (listed:Array Bool) (a:Act) (w:World):Prop where
 sz:a.tmps.size=17
 df:a.defers=[]
 e2:a.eval (.tmp 2)=.pointer (some ⟨b2,0,none⟩)
 e3:a.eval (.tmp 3)=.pointer (some ⟨b3,0,none⟩)
 tb:∀ e ∈ T,listed.getD e.1 false=true->a.eval (.tmp e.2.1)=e.2.2
 ro:listed.getD 10 false=true->∃ b,a.eval (.tmp 15)=.slice (some ⟨b,0,none⟩) 2 2/\w.heap[b]? = some (.cells #[.int .i64 c1,.int .i64 c2] 3 (0,0))
 wd:∃ q os,w=grow (W1.drewN q) os
def tT(f e:Nat)(p m n q c1 c2 r:Int):List (Nat×(Nat×Value)):=[(0,(5,.pointer (some ⟨f,0,none⟩))),(1,(6,.int .i64 p)),(2,(7,.pointer (some ⟨e,0,none⟩))),(3,(8,.int .i64 n)),(4,(9,.int .i64 c1)),
 (5,(10,.pointer (some ⟨f,1,none⟩))),(6,(11,.int .i64 m)),(7,(12,.pointer (some ⟨e,1,none⟩))),(8,(13,.int .i64 q)),(9,(14,.int .i64 c2)),(11,(16,.int .i64 r)),(12,(4,.int .i64 r))]
def MI.put{T:List (Nat×(Nat×Value))}{t p:Nat}{c1 c2:Int}{r:World}{listed:Array Bool}{a:Act}{w:World}(h:MI T t p c1 c2 r listed a w){d:Nat}(hi:i<listed.size)(y:d<17)(z:d≠2)(h3:d≠3)(n:d≠15)(x:i≠10)
  (A:∀ e ∈ T,(e.1=i->e.2=(d,v))/\(e.1≠i->e.2.1≠d)):MI T t p c1 c2 r (listed.setIfInBounds i true) (a.put (some d) v) w:=by
 refine⟨by rw[n9];exact h.sz,h.df,by rw[W3 z];exact h.e2,by rw[W3 h3];exact h.e3,fun e he m=>?_,fun m=>?_,h.wd⟩
 .obtain⟨t1,t2⟩:=A e he;by_cases f:e.1=i
  .rw[t1 f];exact o7 (by rw[h.sz];exact y)
  .rw[W3 (fun q=>t2 f q.symm)];rw[yE hi,B1 f]at m;exact h.tb e he m
 .rw[yE hi,B1 (fun q=>x q.symm)]at m;rw[W3 n];exact h.ro m
def A06(b f:Nat)(w:World):(Instr.fieldAt 45 (.pointer (some ⟨b,0,none⟩)) 0).run Try.prog w=.ok (.pointer (some ⟨b,0,none⟩)) w:=G9
def A05(b f:Nat)(w:World):(Instr.fieldAt 45 (.pointer (some ⟨b,0,none⟩)) 1).run Try.prog w=.ok (.pointer (some ⟨b,1,none⟩)) w:=G9
def A27(w:World):(isAgg 3).run Try.prog w=.ok false w:=G9
def yK{o:Oper}{a:Act}{w:World}{t x f:Nat}(e:o.op=.fieldAddr t (.tmp x) f)(m:a.eval (.tmp x)=u)(hr:(Instr.fieldAt t u f).run Try.prog w=.ok v w):(execOp a.eval o).run Try.prog w=.ok (.value v) w:=by
 unfold execOp;rw[e];simp[m,A3,hr,Result.andThen,Sem.run_pure]
def yJ{o:Oper}{a:Act}{w:World}{x b s:Nat}(e:o.op=.load 3 (.tmp x))(f:a.eval (.tmp x)=.pointer (some ⟨b,s,none⟩))(m:w.cell? ⟨b,s,none⟩=some v):(execOp a.eval o).run Try.prog w=.ok (.value v) w:=by
 unfold execOp;rw[e];simp[f,Instr.loadAt,Instr.sureAddr,loadVar,A3,A27,Result.andThen,run_load,m]
def ZM{o:Oper}{a:Act}{w:World}{x:Nat}(e:o.op=.assign (.tmp x))(f:a.eval (.tmp x)=v):(execOp a.eval o).run Try.prog w=.ok (.value v) w:=by
 unfold execOp;rw[e];show Sem.run _ (pure (Next.value (a.eval (.tmp x)))) w=_;rw[f];rfl
def ZK{o:Oper}{a:Act}{w:World}{x y:Nat}{c d:Int}(e:o.op=.buildSlice 79 2 #[(0,.tmp x),(1,.tmp y)])(f:a.eval (.tmp x)=.int .i64 c)(m:a.eval (.tmp y)=.int .i64 d):(execOp a.eval o).run Try.prog w=.ok (.value (.slice (some ⟨w.heap.size,0,none⟩) 2 2)) { w with heap:=w.heap.push (.cells #[.int .i64 c,.int .i64 d] 3 (0,0)) }:=by
 unfold execOp;rw[e];simp only[f,m,S4,B8,E3];have hr:(Instr.buildSlice 79 2 #[(0,.int .i64 c),(1,.int .i64 d)]).run Try.prog w=.ok (.slice (some ⟨w.heap.size,0,none⟩) 2 2) { w with heap:=w.heap.push (.cells #[.int .i64 c,.int .i64 d] 3 (0,0)) }:=G9;simp[A3,hr,Result.andThen,Sem.run_pure]
def q0:(g2.getD 0 default).op=.fieldAddr 45 (.tmp 2) 0/\(g2.getD 0 default).dst=some 5/\(g2.getD 0 default).guard=none:=⟨by kernel_rfl,by kernel_rfl,by kernel_rfl⟩
def q1:(g2.getD 1 default).op=.load 3 (.tmp 5)/\(g2.getD 1 default).dst=some 6/\(g2.getD 1 default).guard=none:=⟨by kernel_rfl,by kernel_rfl,by kernel_rfl⟩
def A2x:((g2.getD 1 default).after.toList.any fun e=>Nat.beq e.on 0 && Region.binds .any e)=true:=G9
def q2:(g2.getD 2 default).op=.fieldAddr 45 (.tmp 3) 0/\(g2.getD 2 default).dst=some 7/\(g2.getD 2 default).guard=none:=⟨by kernel_rfl,by kernel_rfl,by kernel_rfl⟩
def q3:(g2.getD 3 default).op=.load 3 (.tmp 7)/\(g2.getD 3 default).dst=some 8/\(g2.getD 3 default).guard=none:=⟨by kernel_rfl,by kernel_rfl,by kernel_rfl⟩
def A2w:((g2.getD 3 default).after.toList.any fun e=>Nat.beq e.on 2 && Region.binds .any e)=true:=G9
noncomputable def ty4:Array TypeId:=match (g2.getD 4 default).op with|.call c=>c.argTypes|_=>#[]
def q4:(g2.getD 4 default).op=.call ⟨.value (.func 27),#[.tmp 6,.tmp 8],ty4⟩/\(g2.getD 4 default).dst=some 9/\(g2.getD 4 default).guard=none:=⟨by kernel_rfl,by kernel_rfl,by kernel_rfl⟩
def A2v:((g2.getD 4 default).after.toList.any fun e=>Nat.beq e.on 1 && Region.binds .any e)=true:=G9
def A2u:((g2.getD 4 default).after.toList.any fun e=>Nat.beq e.on 3 && Region.binds .any e)=true:=G9
def q5:(g2.getD 5 default).op=.fieldAddr 45 (.tmp 2) 1/\(g2.getD 5 default).dst=some 10/\(g2.getD 5 default).guard=none:=⟨by kernel_rfl,by kernel_rfl,by kernel_rfl⟩
def q6:(g2.getD 6 default).op=.load 3 (.tmp 10)/\(g2.getD 6 default).dst=some 11/\(g2.getD 6 default).guard=none:=⟨by kernel_rfl,by kernel_rfl,by kernel_rfl⟩
def A2t:((g2.getD 6 default).after.toList.any fun e=>Nat.beq e.on 5 && Region.binds .any e)=true:=G9
def q7:(g2.getD 7 default).op=.fieldAddr 45 (.tmp 3) 1/\(g2.getD 7 default).dst=some 12/\(g2.getD 7 default).guard=none:=⟨by kernel_rfl,by kernel_rfl,by kernel_rfl⟩
def q8:(g2.getD 8 default).op=.load 3 (.tmp 12)/\(g2.getD 8 default).dst=some 13/\(g2.getD 8 default).guard=none:=⟨by kernel_rfl,by kernel_rfl,by kernel_rfl⟩
def A2s:((g2.getD 8 default).after.toList.any fun e=>Nat.beq e.on 7 && Region.binds .any e)=true:=G9
noncomputable def ty9:Array TypeId:=match (g2.getD 9 default).op with|.call c=>c.argTypes|_=>#[]
def q9:(g2.getD 9 default).op=.call ⟨.value (.func 27),#[.tmp 11,.tmp 13],ty9⟩/\(g2.getD 9 default).dst=some 14/\(g2.getD 9 default).guard=none:=⟨by kernel_rfl,by kernel_rfl,by kernel_rfl⟩
def A2r:((g2.getD 9 default).after.toList.any fun e=>Nat.beq e.on 6 && Region.binds .any e)=true:=G9
def A2q:((g2.getD 9 default).after.toList.any fun e=>Nat.beq e.on 8 && Region.binds .any e)=true:=G9
def q10:(g2.getD 10 default).op=.buildSlice 79 2 #[(0,.tmp 9),(1,.tmp 14)]/\(g2.getD 10 default).dst=some 15/\(g2.getD 10 default).guard=none:=⟨by kernel_rfl,by kernel_rfl,by kernel_rfl⟩
def A1b:((g2.getD 10 default).after.toList.any fun e=>Nat.beq e.on 4 && Region.binds .any e)=true:=G9
def A1a:((g2.getD 10 default).after.toList.any fun e=>Nat.beq e.on 9 && Region.binds .any e)=true:=G9
noncomputable def A2Y:Array TypeId:=match (g2.getD 11 default).op with|.call c=>c.argTypes|_=>#[]
def q11:(g2.getD 11 default).op=.call ⟨.value (.func 26),#[.tmp 15],A2Y⟩/\(g2.getD 11 default).dst=some 16/\(g2.getD 11 default).guard=none:=⟨by kernel_rfl,by kernel_rfl,by kernel_rfl⟩
def A0Y:((g2.getD 11 default).after.toList.any fun e=>Nat.beq e.on 10 && Region.binds .any e)=true:=G9
def q12:(g2.getD 12 default).op=.assign (.tmp 16)/\(g2.getD 12 default).dst=some 4/\(g2.getD 12 default).guard=none:=⟨by kernel_rfl,by kernel_rfl,by kernel_rfl⟩
def A0X:((g2.getD 12 default).after.toList.any fun e=>Nat.beq e.on 11 && Region.binds .any e)=true:=G9
def r2(c1 c2:Int):Int:=if c1=0 then c2 else c1
def A1o{w:World}:(callFunc 27 args).run Try.prog w=.ok (.enter 27 args) w:=p9 Try.func27 rfl G9
def A23{w:World}:(callFunc 26 args).run Try.prog w=.ok (.enter 26 args) w:=p9 Try.func26 rfl G9
def RI{c1 c2:Int}{J H:Nat}{A E S B F Y:Int}{C:World}(V:C.heap[J]? = some (.cells #[.int .i64 A,.int .i64 E,.int .i64 S] 45 (0,0)))(h3:C.heap[H]? = some (.cells #[.int .i64 B,.int .i64 F,.int .i64 Y] 45 (0,0)))
  (N:∀ W,Calls Try.prog 27 #[.int .i64 A,.int .i64 B] W fun e w'=>e=.returned (.int .i64 c1)/\w'=W) (O:∀ W,Calls Try.prog 27 #[.int .i64 E,.int .i64 F] W fun e w'=>e=.returned (.int .i64 c2)/\w'=W)
  {Q:Exit->Act->World->Prop} (listed:Array Bool) (a:Act) (w:World) (i:Nat) (o:Oper) (X:listed.size=g2.size) (inv:MI (tT J H A E B F c1 c2 (r2 c1 c2)) J H c1 c2 C listed a w) (p:g2[i]? = some o) (Z:listed.getD i false=false)
  (r:∀ e ∈ o.after.toList,Region.binds .any e=true->listed.getD e.on false=true):i0 Try.prog none g2 Q i (MI (tT J H A E B F c1 c2 (r2 c1 c2)) J H c1 c2 C (listed.setIfInBounds i true)) a w:=by
 have hi:i<13:=by rw[<- mW];exact(B5.1 p).1
 have f:i<listed.size:=by rw[X,mW];exact hi
 have x:=p;rw[WU hi]at x;have x:=A5 x;subst x;obtain⟨q,os,hw⟩:=inv.wd;have R:∀ (b:Nat) (o:Obj),C.heap[b]? = some o->w.heap[b]? = some o:=fun b o h=>by
  rw[hw];show(C.heap++os)[b]? = _;rw[I8 (B5.1 h).1];exact h
 have w2:=R _ _ V;have w3:=R _ _ h3;have t:i=0∨i=1∨i=2∨i=3∨i=4∨i=5∨i=6∨i=7∨i=8∨i=9∨i=10∨i=11∨i=12:=by omega
 rcases t with rfl|rfl|rfl|rfl|rfl|rfl|rfl|rfl|rfl|rfl|rfl|rfl|rfl
 .obtain⟨p1,m,n⟩:=q0;refine Y9 p n (by unfold Oper.about;rw[p1]) (fun c=>by rw[p1];exact fun h=>by cases h) (yK p1 inv.e2 (A06 _ 0 _)) ?_;rw[m];exact inv.put f (by decide) (by decide) (by decide) (by decide) (by decide) (by intro e he;simp only[tT,A8,C3,or_false]at he;rcases he with rfl|rfl|rfl|rfl|rfl|rfl|rfl|rfl|rfl|rfl|rfl|rfl<;>simp)
 .obtain⟨p1,m,n⟩:=q1;have z:=(inv.tb _ (by simp only[tT,A8];exact .inl rfl) (aM r 0 A2x));refine Y9 p n (by unfold Oper.about;rw[p1]) (fun c=>by rw[p1];exact fun h=>by cases h) (yJ (v:=.int .i64 A) p1 z (by simp[World.cell?,w2])) ?_;rw[m];exact inv.put f (by decide) (by decide) (by decide) (by decide) (by decide) (by intro e he;simp only[tT,A8,C3,or_false]at he;rcases he with rfl|rfl|rfl|rfl|rfl|rfl|rfl|rfl|rfl|rfl|rfl|rfl<;>simp)
 .obtain⟨p1,m,n⟩:=q2;refine Y9 p n (by unfold Oper.about;rw[p1]) (fun c=>by rw[p1];exact fun h=>by cases h) (yK p1 inv.e3 (A06 _ 0 _)) ?_;rw[m];exact inv.put f (by decide) (by decide) (by decide) (by decide) (by decide) (by intro e he;simp only[tT,A8,C3,or_false]at he;rcases he with rfl|rfl|rfl|rfl|rfl|rfl|rfl|rfl|rfl|rfl|rfl|rfl<;>simp)
 .obtain⟨p1,m,n⟩:=q3;have z:=(inv.tb _ (by simp only[tT,A8];exact .inr (.inr (.inl rfl))) (aM r 2 A2w));refine Y9 p n (by unfold Oper.about;rw[p1]) (fun c=>by rw[p1];exact fun h=>by cases h) (yJ (v:=.int .i64 B) p1 z (by simp[World.cell?,w3])) ?_;rw[m];exact inv.put f (by decide) (by decide) (by decide) (by decide) (by decide) (by intro e he;simp only[tT,A8,C3,or_false]at he;rcases he with rfl|rfl|rfl|rfl|rfl|rfl|rfl|rfl|rfl|rfl|rfl|rfl<;>simp)
 .obtain⟨p1,m,n⟩:=q4;have y:=(inv.tb _ (by simp only[tT,A8];exact .inr (.inl rfl)) (aM r 1 A2v));have z2:=(inv.tb _ (by simp only[tT,A8];exact .inr (.inr (.inr (.inl rfl)))) (aM r 3 A2u));refine kK p n p1 (args:=#[.int .i64 A,.int .i64 B]) (by simp only[S4,B8,E3,y,z2]) A1o ((N w).mono fun e w' ⟨M,L⟩=>⟨_,M,?_⟩);rw[m,L];exact inv.put f (by decide) (by decide) (by decide) (by decide) (by decide) (by intro e he;simp only[tT,A8,C3,or_false]at he;rcases he with rfl|rfl|rfl|rfl|rfl|rfl|rfl|rfl|rfl|rfl|rfl|rfl<;>simp)
 .obtain⟨p1,m,n⟩:=q5;refine Y9 p n (by unfold Oper.about;rw[p1]) (fun c=>by rw[p1];exact fun h=>by cases h) (yK p1 inv.e2 (A05 _ 0 _)) ?_;rw[m];exact inv.put f (by decide) (by decide) (by decide) (by decide) (by decide) (by intro e he;simp only[tT,A8,C3,or_false]at he;rcases he with rfl|rfl|rfl|rfl|rfl|rfl|rfl|rfl|rfl|rfl|rfl|rfl<;>simp)
 .obtain⟨p1,m,n⟩:=q6;have z:=(inv.tb _ (by simp only[tT,A8];exact .inr (.inr (.inr (.inr (.inr (.inl rfl)))))) (aM r 5 A2t));refine Y9 p n (by unfold Oper.about;rw[p1]) (fun c=>by rw[p1];exact fun h=>by cases h) (yJ (v:=.int .i64 E) p1 z (by simp[World.cell?,w2])) ?_;rw[m];exact inv.put f (by decide) (by decide) (by decide) (by decide) (by decide) (by intro e he;simp only[tT,A8,C3,or_false]at he;rcases he with rfl|rfl|rfl|rfl|rfl|rfl|rfl|rfl|rfl|rfl|rfl|rfl<;>simp)
 .obtain⟨p1,m,n⟩:=q7;refine Y9 p n (by unfold Oper.about;rw[p1]) (fun c=>by rw[p1];exact fun h=>by cases h) (yK p1 inv.e3 (A05 _ 0 _)) ?_;rw[m];exact inv.put f (by decide) (by decide) (by decide) (by decide) (by decide) (by intro e he;simp only[tT,A8,C3,or_false]at he;rcases he with rfl|rfl|rfl|rfl|rfl|rfl|rfl|rfl|rfl|rfl|rfl|rfl<;>simp)
 .obtain⟨p1,m,n⟩:=q8;have z:=(inv.tb _ (by simp only[tT,A8];exact .inr (.inr (.inr (.inr (.inr (.inr (.inr (.inl rfl)))))))) (aM r 7 A2s));refine Y9 p n (by unfold Oper.about;rw[p1]) (fun c=>by rw[p1];exact fun h=>by cases h) (yJ (v:=.int .i64 F) p1 z (by simp[World.cell?,w3])) ?_;rw[m];exact inv.put f (by decide) (by decide) (by decide) (by decide) (by decide) (by intro e he;simp only[tT,A8,C3,or_false]at he;rcases he with rfl|rfl|rfl|rfl|rfl|rfl|rfl|rfl|rfl|rfl|rfl|rfl<;>simp)
 .obtain⟨p1,m,n⟩:=q9;have y:=(inv.tb _ (by simp only[tT,A8];exact .inr (.inr (.inr (.inr (.inr (.inr (.inl rfl))))))) (aM r 6 A2r));have z2:=(inv.tb _ (by simp only[tT,A8];exact .inr (.inr (.inr (.inr (.inr (.inr (.inr (.inr (.inl rfl))))))))) (aM r 8 A2q));refine kK p n p1 (args:=#[.int .i64 E,.int .i64 F]) (by simp only[S4,B8,E3,y,z2]) A1o ((O w).mono fun e w' ⟨M,L⟩=>⟨_,M,?_⟩);rw[m,L];exact inv.put f (by decide) (by decide) (by decide) (by decide) (by decide) (by intro e he;simp only[tT,A8,C3,or_false]at he;rcases he with rfl|rfl|rfl|rfl|rfl|rfl|rfl|rfl|rfl|rfl|rfl|rfl<;>simp)
 .obtain⟨p1,m,n⟩:=q10;have y:=(inv.tb _ (by simp only[tT,A8];exact .inr (.inr (.inr (.inr (.inl rfl))))) (aM r 4 A1b));have z2:=(inv.tb _ (by simp only[tT,A8];exact .inr (.inr (.inr (.inr (.inr (.inr (.inr (.inr (.inr (.inl rfl)))))))))) (aM r 9 A1a));refine Y9 p n (by unfold Oper.about;rw[p1]) (fun c=>by rw[p1];exact fun h=>by cases h) (ZK p1 y z2) ?_;rw[m];refine⟨by rw[n9];exact inv.sz,inv.df,by rw[W3 (by decide)];exact inv.e2,by rw[W3 (by decide)];exact inv.e3,fun e he I=>?_,fun _=>⟨_,o7 (by rw[inv.sz];decide),by simp⟩,q,os++#[.cells #[.int .i64 c1,.int .i64 c2] 3 (0,0)],?_⟩
  .have K:e.1≠10/\15≠e.2.1:=by
    simp only[tT,A8,C3,or_false]at he;rcases he with rfl|rfl|rfl|rfl|rfl|rfl|rfl|rfl|rfl|rfl|rfl|rfl<;>simp
   rw[yE f,B1 K.1]at I;rw[W3 K.2];exact inv.tb e he I
  .rw[<- grow_grow,<- hw];exact alloc_eq_grow _ _
 .obtain⟨p1,m,n⟩:=q11;obtain⟨b,y,z2⟩:=inv.ro (aM r 10 A0Y);refine kK p n p1 (args:=#[.slice (some ⟨b,0,none⟩) 2 2]) (by simp only[S4,B8,E3,y]) A23 ((A2l b c1 c2 (r2 c1 c2) (fun h=>B1 h) (fun h=>B2 h) w 3 (0,0) z2).mono fun e w' ⟨M,L⟩=>⟨_,M,?_⟩);rw[m,L];exact inv.put f (by decide) (by decide) (by decide) (by decide) (by decide) (by intro e he;simp only[tT,A8,C3,or_false]at he;rcases he with rfl|rfl|rfl|rfl|rfl|rfl|rfl|rfl|rfl|rfl|rfl|rfl<;>simp)
 .obtain⟨p1,m,n⟩:=q12;have z:=inv.tb (11,(16,.int .i64 (r2 c1 c2))) (by simp[tT]) (aM r 11 A0X);refine Y9 p n (by unfold Oper.about;rw[p1]) (fun c=>by rw[p1];exact fun h=>by cases h) (ZM (v:=.int .i64 (r2 c1 c2)) p1 z) ?_;rw[m];exact inv.put f (by decide) (by decide) (by decide) (by decide) (by decide) (by intro e he;simp only[tT,A8,C3,or_false]at he;rcases he with rfl|rfl|rfl|rfl|rfl|rfl|rfl|rfl|rfl|rfl|rfl|rfl<;>simp)
def A2o:(g1.getD 0 default).op=.box 45 (.tmp 0)/\(g1.getD 0 default).dst=some 2/\(g1.getD 0 default).guard=none:=⟨by kernel_rfl,by kernel_rfl,by kernel_rfl⟩
def A2n:(g1.getD 1 default).op=.box 45 (.tmp 1)/\(g1.getD 1 default).dst=some 3/\(g1.getD 1 default).guard=none:=⟨by kernel_rfl,by kernel_rfl,by kernel_rfl⟩
noncomputable def z0:Operand:=match (g1.getD 2 default).op with|.assign x=>x|_=>default
def A2m:(g1.getD 2 default).op=.assign z0/\(g1.getD 2 default).dst=some 4/\(g1.getD 2 default).guard=none:=⟨by kernel_rfl,by kernel_rfl,by kernel_rfl⟩
def NW{o:Oper}{a:Act}{w:World}{x:Nat}{vs:D0}(e:o.op=.box 45 (.tmp x))(f:a.eval (.tmp x)=.agg vs.toArray):(execOp a.eval o).run Try.prog w=.ok (.value (.pointer (some ⟨w.heap.size,0,none⟩))) { w with heap:=w.heap.push (.cells vs.toArray 45 (0,0)) }:=by
 unfold execOp;rw[e];simp only[f];rfl
def ZL{o:Oper}{a:Act}{w:World}{x:Operand}(e:o.op=.assign x):(execOp a.eval o).run Try.prog w=.ok (.value (a.eval x)) w:=by
 unfold execOp;rw[e];rfl
set_option maxHeartbeats 4000000 in
def xE(f m t n p y:Int)(W:World):Calls Try.prog 25 #[.agg #[.int .i64 f,.int .i64 m,.int .i64 t],.agg #[.int .i64 n,.int .i64 p,.int .i64 y]] W fun e w'=>e=.returned (.int .i64 (r2 (Lib.compareInt f n) (Lib.compareInt m p)))/\∃ q I,w'=grow (W.drewN q) I:=by
 refine Go.Sx.calls_of_wp Try.func25 A17 ?_;rw[A0d];obtain⟨a0,r⟩:∃ a0:Act,a0={ tmps:=#[.agg #[.int .i64 f,.int .i64 m,.int .i64 t],.agg #[.int .i64 n,.int .i64 p,.int .i64 y]]++Array.replicate (Try.f25.ntmps-2) undef,defers:=[] }:=⟨_,rfl⟩;have J:Try.f25.ntmps=17:=G9;have s0:a0.tmps.size=17:=by rw[r,J];rfl
 have M:a0.eval (.tmp 0)=.agg #[.int .i64 f,.int .i64 m,.int .i64 t]:=by rw[r,J];rfl
 have R:a0.eval (.tmp 1)=.agg #[.int .i64 n,.int .i64 p,.int .i64 y]:=by rw[r,J];rfl
 have d0:a0.defers=[]:=by rw[r]
 show Code.wpIn _ _ _ _ _ { tmps:=#[.agg #[.int .i64 f,.int .i64 m,.int .i64 t],.agg #[.int .i64 n,.int .i64 p,.int .i64 y]]++Array.replicate (Try.f25.ntmps-2) undef,defers:=[] } W;rw[<- r];clear r;refine wpIn_seq (Q6 ?_);rw[A1X];obtain⟨p1,F,H⟩:=A2o;refine dG H (by unfold Oper.about;rw[p1]) (fun c=>by rw[p1];exact fun h=>by cases h) (NW (vs:=[.int .i64 f,.int .i64 m,.int .i64 t]) p1 M) ?_;rw[F];obtain⟨p1,F,H⟩:=A2n;refine dG H (by unfold Oper.about;rw[p1]) (fun c=>by rw[p1];exact fun h=>by cases h) (NW (vs:=[.int .i64 n,.int .i64 p,.int .i64 y]) p1 (by rw[W3 (by decide)];exact R)) ?_;rw[F];obtain⟨p1,F,H⟩:=A2m;refine dG H (by unfold Oper.about;rw[p1]) (fun c=>by rw[p1];exact fun h=>by cases h) (ZL p1) ?_;rw[F];obtain⟨z,X⟩:∃ z,z=((a0.put (some 2) (.pointer (some ⟨W.heap.size,0,none⟩))).put (some 3) (.pointer (some ⟨(W.heap.push (.cells #[.int .i64 f,.int .i64 m,.int .i64 t] 45 (0,0))).size,0,none⟩))).eval z0:=⟨_,rfl⟩;obtain⟨C,x⟩:∃ C:World,C={ W with heap:=(W.heap.push (.cells #[.int .i64 f,.int .i64 m,.int .i64 t] 45 (0,0))).push (.cells #[.int .i64 n,.int .i64 p,.int .i64 y] 45 (0,0)) }:=⟨_,rfl⟩;have O:C.heap[W.heap.size]? = some (.cells #[.int .i64 f,.int .i64 m,.int .i64 t] 45 (0,0)):=by
  rw[x];show((W.heap.push _).push _)[W.heap.size]? = _;rw[K3,B1 (by simp),K3,B2 rfl]
 have h3:C.heap[W.heap.size+1]? = some (.cells #[.int .i64 n,.int .i64 p,.int .i64 y] 45 (0,0)):=by
  rw[x];show((W.heap.push _).push _)[W.heap.size+1]? = _;rw[K3,B2 (by simp)]
 have K:C=grow W #[.cells #[.int .i64 f,.int .i64 m,.int .i64 t] 45 (0,0),.cells #[.int .i64 n,.int .i64 p,.int .i64 y] 45 (0,0)]:=by
  rw[x];exact U8 (fun h=>({ W with heap:=h }:World)) (by apply H7;simp)
 show Exit.then _ _ Exit.normal _ _;refine wpIn_seq (rF (rd:=none) HX (MI (tT W.heap.size (W.heap.size+1) f m n p (Lib.compareInt f n) (Lib.compareInt m p) (r2 (Lib.compareInt f n) (Lib.compareInt m p))) W.heap.size (W.heap.size+1) (Lib.compareInt f n) (Lib.compareInt m p) C)
  (fun i o B e he=>?_) (fun listed a w i o S inv B A N=>RI O h3 (fun V=>Try.cmp_Compare_int f n V) (fun V=>Try.cmp_Compare_int m p V) listed a w i o S inv B A N) (fun listed a w inv E=>?_) ?_)
 .have hi:i<13:=by rw[<- mW];exact(B5.1 B).1
  rw[WU hi]at B;have B:=A5 B;subst B;exact A1 (D2.1 (D2.1 A0D i (W9.2 hi)) e he)
 .refine wpIn_ret ?_;refine⟨.inr rfl,inv.df,?_⟩;have L:=inv.tb (12,(4,.int .i64 (r2 (Lib.compareInt f n) (Lib.compareInt m p)))) (by simp[tT]) (E 12 (by rw[mW];decide));refine⟨.int .i64 (r2 (Lib.compareInt f n) (Lib.compareInt m p)),?_,rfl,?_⟩
  .have:=results_tmp (P:=Try.prog) (fn:=Try.f25) rfl a.tmps w;rw[this];have L:a.tmps.getD 4 undef=.int .i64 (r2 (Lib.compareInt f n) (Lib.compareInt m p)):=L;rw[L]
  .obtain⟨q,os,hw⟩:=inv.wd;refine⟨q,#[.cells #[.int .i64 f,.int .i64 m,.int .i64 t] 45 (0,0),.cells #[.int .i64 n,.int .i64 p,.int .i64 y] 45 (0,0)]++os,?_⟩;rw[hw,K,<- grow_grow];rfl
 .refine⟨by rw[n9,n9,n9];exact s0,d0,by rw[W3 (by decide),W3 (by decide),o7 (by rw[s0];decide)],?_,fun e he A=>?_,fun A=>?_,1,#[],?_⟩
  .rw[W3 (by decide),o7 (by rw[n9,s0];decide)];simp
  .exfalso;have:(Array.replicate g2.size false).getD e.1 false=false:=by simp[B0,R7];split<;>rfl
   rw[this]at A;cases A
  .exfalso;have:(Array.replicate g2.size false).getD 10 false=false:=by simp[B0,R7];split<;>rfl
   rw[this]at A;cases A
  .rw[x];simp[grow,World.drewN]
#print axioms xE
open Go Go.Sx Go.Sort Go.Shelf Go.Proofs
def cfP(p q:Int×Int):Int:=r2 (Lib.compareInt p.1 q.1) (Lib.compareInt p.2 q.2)
def ltP(p q:Int×Int):Prop:=p.1<q.1∨(p.1=q.1/\p.2<q.2)
instance(p q:Int×Int):Decidable (ltP p q):=by unfold ltP;infer_instance
def jH(p q:Int×Int):ltOf cfP p q=decide (ltP p q):=by
 unfold ltOf;refine decide_eq_decide.2 ?_;unfold cfP r2 Lib.compareInt ltP;by_cases h1:p.1<q.1
 .simp[h1]
 .by_cases m:p.1>q.1
  .have:¬p.1=q.1:=A9;simp[h1,m,this]
  .have e:p.1=q.1:=A9;by_cases h3:p.2<q.2
   .simp[e,h3]
   .by_cases f:p.2>q.2<;>simp[e,h3,f]
def A1L{p q:Int×Int}(h:ltOf cfP p q=true):ltP p q:=O0 ((jH p q).symm.trans h)
def UJ{p q:Int×Int}(h:ltOf cfP p q=false):¬ltP p q:=of_decide_eq_false ((jH p q).symm.trans h)
def A2e:SWO (ltOf cfP) where
 irrefl x:=by rw[jH];simp[ltP]
 trans x y z h1 e:=by
  have h1:=A1L h1;have e:=A1L e;rw[jH];refine cK ?_;unfold ltP at *;omega
 ntrans x y z h1 e:=by
  have h1:=UJ h1;have e:=UJ e;rw[jH];refine U7 ?_;unfold ltP at *;omega
def A2a(x y:Int×Int)(h1:ltOf cfP x y=false)(e:ltOf cfP y x=false):x=y:=by
 have h1:=UJ h1;have e:=UJ e;unfold ltP at *;exact Prod.ext A9 A9
def leP(p q:Int×Int):Bool:=!ltOf cfP q p
def mN{p q:Int×Int}:leP p q=true↔¬ltP q p:=by unfold leP;rw[jH];simp
def EU{l:List (Int×Int)}(h:l.Perm l'):l.mergeSort leP=l'.mergeSort leP:=by
 have e:∀ a b c:Int×Int,leP a b=true->leP b c=true->leP a c=true:=fun a b c h1 f=>by
  rw[mN]at *;unfold ltP at *;omega
 have to:∀ a b:Int×Int,(leP a b || leP b a)=true:=fun a b=>by
  rw[F7,mN,mN];unfold ltP;omega
 refine dN (le:=fun x y=>leP x y=true) (fun a b _ _ h1 f=>?_) (l6 e to l) (l6 e to l') ((Y7 l leP).trans (h.trans (Y7 l' leP).symm));rw[mN]at *;unfold ltP at *;exact Prod.ext A9 A9
def FW(a:Int×Int):List (Int×Int)->List (Int×Int)
 | []=>[a]
 | b::l=>if leP a b then a::b::l else b::FW a l
def sS:List (Int×Int)->List (Int×Int)
 | []=>[]
 | a::l=>FW a (sS l)
def PK{a b c:Int×Int}(h1:leP a b=true)(e:leP b c=true):leP a c=true:=by
 rw[mN]at *;unfold ltP at *;omega
def ZZ{a b:Int×Int}(h:¬leP a b=true):leP b a=true:=by
 rw[mN]at *;unfold ltP at *;omega
def oK{a:Int×Int}:∀ {l:List (Int×Int)},(FW a l).Perm (a::l)
 | []=>iU _
 | b::l=>by
   unfold FW;split
   .exact iU _
   .exact(oK.cons b).trans (List.Perm.swap a b l)
def eZ:∀ {l:List (Int×Int)},(sS l).Perm l
 | []=>iU _
 | a::l=>oK.trans (eZ.cons a)
def pT{a:Int×Int}:∀ {l:List (Int×Int)},l.Pairwise (fun x y=>leP x y=true)->(FW a l).Pairwise (fun x y=>leP x y=true)
 | [],_=>by simp[FW]
 | b::l,h=>by
   unfold FW;rw[P6]at h;split
   .rename_i e;refine P6.2 ⟨fun y f=>?_,P6.2 h⟩;rcases A8.1 f with rfl|f
    .exact e
    .exact PK e (h.1 y f)
   .rename_i e;refine P6.2 ⟨fun y f=>?_,pT h.2⟩;rcases A8.1 (oK.mem_iff.1 f)with rfl|f
    .exact ZZ e
    .exact h.1 y f
def mP:∀ {l:List (Int×Int)},(sS l).Pairwise (fun x y=>leP x y=true)
 | []=>List.Pairwise.nil
 | a::l=>pT mP
def A0A{a b:Int×Int}(h1:leP a b=true)(e:leP b a=true):a=b:=by
 rw[mN]at *;unfold ltP at *;exact Prod.ext A9 A9
def A0o{l:List (Int×Int)}(h1:l.Pairwise (fun x y=>leP x y=true))(e:l'.Pairwise (fun x y=>leP x y=true))(h:l.Perm l'):l=l' :=
 dN (le:=fun x y=>leP x y=true) (fun a b _ _ h1 e=>A0A h1 e) h1 e h
def UO(a b:Int×Int):(leP a b || leP b a)=true:=by
 rw[F7,mN,mN];unfold ltP;omega
def yV(l:List (Int×Int)):(l.mergeSort leP).Pairwise (fun x y=>leP x y=true):=by
 have f:∀ a b c:Int×Int,leP a b=true->leP b c=true->leP a c=true:=fun a b c h1 e=>PK h1 e
 have to:∀ a b:Int×Int,(leP a b || leP b a)=true:=UO;exact l6 f to l
def PU(l:List (Int×Int)):l.mergeSort leP=sS l:=by
 have h1:=yV l;have e:=mP (l:=l);have h3:(l.mergeSort leP).Perm (sS l):=(Y7 l leP).trans (eZ (l:=l)).symm;revert h1 e h3;generalize l.mergeSort leP=x;generalize sS l=y;exact fun h1 e h3=>A0o h1 e h3
def ZO(x:Option (List Mt)):Option (List Kt):=if el x=[]then none else some ((sS ((el x).map kM)).map (mark x))
def clO(l:List Rt):Option (List Kt):=if rsP l then ZO (ruL l (some []))else none
def e9(x:Option (List Mt))(ks:List (Int×Int)):Option (List Kt):=if ks=[]then none else some (ks.map (mark x))
def JW{x:Option (List Mt)} :el (e9 x ks)=ks.map (mark x):=by
 unfold e9;split
 .rename_i h;rw[h];rfl
 .rfl
def LV{x:Option (List Mt)}(h:((el x).map kM).Nodup){a:Mt}(e:a ∈ el x):some (el (e9 x ks)++[((a.1,a.2.1,mkC x a.1 a.2.1 a.2.2.1 a.2.2.2):Kt)])=e9 x (ks++[kM a]):=by
 rw[JW,UI h e];unfold e9;rw[B1 (by simp)];simp
def kX(x:Option (List Mt))(p:Int×Int):List U:=[.int .i64 p.1,.int .i64 p.2,.int .i64 (RG x p)]
def DL(x:Option (List Mt)):∀ p,(kX x p).length=3:=fun _=>rfl
def IU(x:Option (List Mt)):∀ p,∀ u ∈ kX x p,∃ v,toV u=some v:=fun p u hu=>by
 simp only[kX,A8,C3,or_false]at hu;rcases hu with rfl|rfl|rfl<;>exact⟨_,rfl⟩
def oU{x:Option (List Mt)} :E6 rK (some (ks.map (mark x)))=.seq false 3 (ks.map (kX x)):=by
 rw[X7];show U.seq false 3 (List.map rK.enc (ks.map (mark x)))=_;rw[fN];rfl
def RJ(x:Option (List Mt))(e off size:Nat)(w:World):CmpLays Try.prog 25 #[] (cD (kX x)) 3 cfP e off size w:=fun m os f _ p q=>by
 have:=xE p.1 p.2 (RG x p) q.1 q.2 (RG x q) (sortWorldK (cD (kX x)) 3 w e off m f os);exact this
def UQ(w:World):(isAgg 45).run Try.prog w=.ok true w:=G9
def YX(w:World):(Go.sizeOf 45).run Try.prog w=.ok 3 w:=G9
def A1p{w:World}:(callFunc 24 args).run Try.prog w=.ok (.enter 24 args) w:=p9 Try.func24 rfl G9
def A24:∀ (args:Array Value) (w:World),(callFunc 25 args).run Try.prog w=.ok (.enter 25 args) w:=fun args w=>p9 Try.func25 rfl G9
def YW(x:Option (List Mt))(f off cap:Nat)(d:Array (Int×Int))(w:World)(hH:HoldsK (cD (kX x)) 3 w f off d)(hblk:f<w.heap.size)(m:d.size<4611686018427387904) :
  Calls Try.prog 24 #[.slice (some ⟨f,off,none⟩) d.size cap,.func (.func 25) #[] #[]] w fun e w'=>e=.returned (.tuple #[])/\∃ n os,w'=sortWorldK (cD (kX x)) 3 w f off n (d.toList.mergeSort leP).toArray os:=by
 have h:=AnyQ.slices_SortFunc_total Try.sortL 3 UQ YX (cD (kX x)) (fun _=>rfl) (fun p v q=>by
  simp only[cD,kX,B8,E3,A8,C3,or_false]at q;rcases q with rfl|rfl|rfl<;>rfl) cfP A2e 25 #[] f off cap d w (fun args w=>A24 args w) (RJ x f off d.size w) hH hblk m A2a
 exact h
def NC(p:Option Addr)(cap:Nat)(w:World):Calls Try.prog 24 #[.slice p 0 cap,.func (.func 25) #[] #[]] w fun e w'=>e=.returned (.tuple #[])/\w'=w :=
 AnyF.slices_SortFunc_none (P:=Try.prog) (ρ:=Try.sortL_ren) { Try.sortL with } p cap (.func (.func 25) #[] #[]) w
end Go.Proofs.Ytjdnjfnhdeplfaa
