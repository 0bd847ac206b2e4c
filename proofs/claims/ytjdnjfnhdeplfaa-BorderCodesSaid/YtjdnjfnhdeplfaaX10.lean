import Derived.Test.YtjdnjfnhdeplfaaX9
import Derived.Shelf.SlSortCmp.NoneTotal
import Derived.Test.YtjdnjfnhdeplfaaProg
import Derived.Shelf.SlGeneric
import Derived.Shelf.Small.Bits
import Derived.Shelf.Small.Wraps
import Derived.Shelf.Strconv.Itoa0
import Derived.Ground.Names2Prog
import Derived.Shelf.Slices.SearchI
import Derived.Ground.SlsfProg
import Derived.WalkKit
set_option linter.all false
set_option maxRecDepth 100000
set_option maxHeartbeats 4000000
namespace Go.Sx
open Go Go.Sort Go.Proofs
variable {xs:Array Operand}{tys:Array TypeId}{args:Q0}{u:U}{v v':Value}{b i s:Nat}{os:Array Obj}{bl' bl0:J7}
section
open Go Go.Sort Go.Proofs
section
variable {P:Program} {rd:Option Nat} {ops:Array Oper} {o:Oper} {rest:List Oper} {a:Act} {w:World} {Q:Exit->Act->World->Prop}
def rJ{f:FuncId}(r:o.guard=none)(m:o.op=.call ⟨.value (.func f),xs,tys⟩)(x:xs.map a.eval=args)(he:(callFunc f args).run P w=.ok (.enter f args) w)
  (n:Calls P f args w fun e w'=>∃ v,e=.returned v/\wpL P rd ops Q rest (a.put o.dst v) w'):wpL P rd ops Q (o::rest) a w:=by
 refine lQ fun K t=>?_
 rw[B2 (by simp[Region.wanted,r])];unfold wpO Oper.wpIn;refine⟨fun _ _=>trivial,?_⟩;have p:(execOp a.eval o).run P w=(callFunc f args).run P w:=by
  subst x;unfold execOp;rw[m];simp only[resolve,Act.eval,Deferred.ofValue,pure_bind,invoke];simp
 rw[Oper.semAt_eq _ _ _ (fun c=>by rw[m];exact fun h=>by cases h),p,he,Oper.uponIn_enter];refine⟨eG,x6.2 (n.mono fun e w' ⟨v,h1,q⟩=>?_)⟩;subst h1;exact t _ _ q
end
section
variable {P:Program} {ρ:Ren} {α:Type} [Inhabited α] {encU:α->List U} {k:Nat} {d d':Array α} {T:TypeId} {g:Nat} {l:Loc} {w:World}
def cH(encU:α->List U)(x:α):D0:=(encU x).map O8
def MS(h:toV u=some v):O8 u=v:=by simp[O8,h]
def A0c{G:Nat->Option Obj}(h:Enc G u v)(hu:toV u=some v'):v=v':=by
 cases h with
 | sc h=>rw[hu]at h;exact(A5 h).symm
 | nil=>cases hu
 | emp=>cases hu
 | sl=>cases hu
def IW(hk:∀ x,(encU x).length=k)(t:∀ x,∀ u ∈ encU x,∃ v,toV u=some v){r:Nat}{x:U}{row:List U}(hr:(d.toList.map encU)[r]? = some row)(f:row[i]? = some x)(q:toV x=some v):(cH encU d[r]!)[i]! = v:=by
 rw[F4]at hr;obtain⟨y,m,rfl⟩:=Option.map_eq_some_iff.1 hr;have e:r<d.size:=by have:=(A7.1 m).1;simpa using this
 have p:d[r]! = y:=by
  rw[getElem!_pos d r e];have:d.toList[r]? = some d[r]:=by simp[e]
  rw[m]at this;exact(A5 this).symm
 rw[p];have n:=(A7.1 f).1;have:(cH encU y)[i]? = some v:=by
  unfold cH;rw[F4,f];simp[MS q]
 simp[this]
def NK(hk:∀ x,(encU x).length=k)(A:∀ x,∀ u ∈ encU x,∃ v,toV u=some v)[Ora](h:SqR P ρ (.seq false k (d.toList.map encU)) (10+k) T g false l w)(p:l.on=true) :
  HoldsK (cH encU) k w l.blk l.sh d/\d.size=l.len/\l.len<=l.cap/\l.blk<w.heap.size:=by
 obtain⟨wd,inf,h1,z,h3,m⟩:=SqR.ex h;have q:wd=k:=A9;subst q;rcases m with⟨m,_⟩|⟨_,m⟩
 .rw[p]at m;cases m
 obtain⟨C,fz,I,rows,lg,q1,q2,q3,q4,q5,q6,q7,q8,q9⟩:=m;cases q2;obtain⟨q9,q10⟩:=q9 rfl;have hlen:d.size=l.len:=by rw[<- q3];simp
 refine⟨fun j n=>?_,hlen,q4,(B5.1 q1).1⟩;rw[size_flatK]at n;have H:0<wd:=by
  rcases N1 wd with h|h
  .subst h;simp at n
  .exact h
 have F:j / wd*wd+j%wd=j:=by rw[U1];exact gB j wd
 have hr:j / wd<d.size:=Nat.div_lt_of_lt_mul (by rw[U1];exact n);have hm:j%wd<wd:=fN _ H;have y:d.size*wd<=l.cap*wd:=E4 _ A9;have e:l.sh+j<C.size:=A9;have f:(d.toList.map encU)[j / wd]? = some (encU d[j / wd]!):=by
  rw[F4,getElem!_pos d _ hr];simp[hr]
 obtain⟨x,r⟩:∃ x,(encU d[j / wd]!)[j%wd]? = some x:=⟨_,A4 (by rw[hk];exact hm)⟩;obtain⟨v,t⟩:=A _ x (D6 r);have he:=q8 (j / wd) _ (j%wd) x (C[l.sh+j]'e) f r (by rw[Z8,F];exact E0 e);have B:=A0c he t;have E:=IW hk A f r t;constructor
 .rw[get_flatK _ _ _ _ n,E,id];simp only[World.cell?,q1,Option.isSome_none,G9,if_false];rw[E0 e,B]
 .simp only[World.frozen?,q1]
  have:=q10 (l.sh+j) e;by_cases h1:fz.1<=l.sh+j
  .have:¬ l.sh+j<fz.2:=fun z=>this ⟨h1,z⟩
   simp[this]
  .simp[h1]
def aK(n:Nat)(os:Array Obj)(b s:Nat)(m:b<w.heap.size):(sortWorldK (cH encU) k w b s n d' os).heap[b]? = (w.heap[b]?).map (onCells (putCells id s (flatK (cH encU) k d'))) /\
  (∀ j,j<w.heap.size->j≠b->(sortWorldK (cH encU) k w b s n d' os).heap[j]? = w.heap[j]?)/\w.heap.size<=(sortWorldK (cH encU) k w b s n d' os).heap.size /\
  (sortWorldK (cH encU) k w b s n d' os).os=w.os/\(sortWorldK (cH encU) k w b s n d' os).tape=w.tape/\(sortWorldK (cH encU) k w b s n d' os).output=w.output:=by
 have e:(sortWorldK (cH encU) k w b s n d' os).heap=w.heap.modify b (onCells (putCells id s (flatK (cH encU) k d')))++os:=rfl;refine⟨?_,fun j p f=>?_,?_,rfl,rfl,rfl⟩
 .rw[e,I8 (by simpa using m),F1,B2 rfl]
 .rw[e,I8 (by simpa using p),F1,B1 (fun h=>f h.symm)]
 .rw[e];simp
def vQ(hk:∀ x,(encU x).length=k)(I:∀ x,∀ u ∈ encU x,∃ v,toV u=some v)[Ora]{n:Nat}(h:SqR P ρ (.seq false k (d.toList.map encU)) (10+k) T g false l w)(f:l.on=true)(O:d'.size=d.size) :
  SqR P ρ (.seq false k (d'.toList.map encU)) (10+k) T g false l (sortWorldK (cH encU) k w l.blk l.sh n d' os):=by
 obtain⟨wd,inf,h1,N,h3,e⟩:=SqR.ex h;have z:wd=k:=A9;subst z;rcases e with⟨e,_⟩|⟨_,e⟩
 .rw[f]at e;cases e
 obtain⟨C,fz,K,rows,lg,q1,q2,q3,q4,q5,q6,q7,q8,q9⟩:=e;cases q2;obtain⟨q9,q10⟩:=q9 rfl;subst q9;have q:=(B5.1 q1).1;obtain⟨R,-⟩:=aK (encU:=encU) (k:=wd) (d':=d') n os l.blk l.sh q;have hlen:d'.size=l.len:=by rw[O,<- q3];simp
 refine⟨⟨wd,inf,rfl,N,h3,.inr ⟨f,putCells id l.sh (flatK (cH encU) wd d') C,fz,K,_,lg,?_,rfl,by simpa using hlen,q4,by simpa [putCells]using q5,fun row m=>?_,q7,?_,fun _=>⟨rfl,fun i hi=>q10 i (by simpa [putCells]using hi)⟩⟩⟩⟩
 .rw[R,q1];rfl
 .obtain⟨x,_,rfl⟩:=I6.1 m;exact hk x
 .intro r row j x v hr E t;have A:r<d'.size:=by have:=(A7.1 hr).1;simpa using this
  obtain⟨y,S,rfl⟩:=I6.1 (D6 hr);have J:j<wd:=by have:=(A7.1 E).1;rwa[hk]at this
  obtain⟨v',p⟩:=I _ x (D6 E);have hm:r*wd+wd<=d'.size*wd:=by
   have:=E4 wd (show r+1<=d'.size from A);rwa[G1,dG]at this
  have B:r*wd+j<d'.size*wd:=A9;have F:d'.size*wd<=l.cap*wd:=E4 _ A9;have H:(r*wd+j) / wd=r:=(blk_iff wd r _ A9).1 ⟨A9,A9⟩;have L:(r*wd+j)%wd=j:=by rw[Nat.mod_eq_sub_div_mul,H];omega
  have M:v=v':=by
   simp only[putCells,Array.getElem?_mapIdx]at t;rw[E0 (show l.sh+r*wd+j<C.size by omega),I3,B2 ⟨A9,by rw[size_flatK];omega⟩,show l.sh+r*wd+j-l.sh=r*wd+j by omega,get_flatK _ _ _ _ B,H,L,IW hk I hr E p,id]at t;exact(A5 t).symm
  rw[M];exact .sc p
end
#print axioms vQ
#print axioms rJ
end
section
open Go Go.Sort Go.Proofs
section
variable {P:Program} {rd:Option Nat} {ops:Array Oper} {o:Oper} {rest:List Oper} {a:Act} {w:World} {Q:Exit->Act->World->Prop}
def MN{x:Operand}{t:TypeId}(n:o.guard=none)(e:o.op=.load t x)(q:a.eval x=.pointer (some ⟨b,s,none⟩))(p:Y5 P t=some false)(m:w.cell? ⟨b,s,none⟩=some v)
  (h:wpL P rd ops Q rest (a.put o.dst v) w):wpL P rd ops Q (o::rest) a w:=by
 letI O:Ora:=⟨fun _=>.none,fun _=>none⟩
 have f:=o7 p w;refine dJ (v:=v) (w':=w) n (by unfold Oper.about;rw[e]) (fun c=>by rw[e];exact fun h=>by cases h) ?_ h;unfold execOp;rw[e];simp[q,Instr.loadAt,Instr.sureAddr,loadVar,A3,Result.andThen,run_load,f,m]
end
def g8.of{P:Program}{G:Nat->Option Obj}{base gl n0 nB e nt:Nat}{H0:Hp AB}{L n:J5}{w:World}{ρs:Ren}{p:Nat->Prop}(g:g8 P G base gl n0 nB nt H0 L w ρs p)(f:n.ok gl n0 e nt=true):g8 P G base gl n0 e nt H0 n w ρs p:=by
 obtain⟨x,t,q,r,o5⟩:=bI f;exact⟨g.nt5,g.nt0,t,q,r,fun X m=>(o5 X m).1,fun X m=>(o5 X m).2,g.bs,g.gf,g.sa,g.ko⟩
section
variable {D:List Deferred} {P:Program} {G:Nat->Option Obj} {base nt:Nat} {ρ ρ':Ren} {sl:N3} {bl:J7} {us:List U} {a:Act} {w w':World}
def E9.sub(h:E9 D P G base nt ρ sl bl us a w){sl':N3}(K:∀ x ∈ sl',x ∈ sl)(r:∀ x ∈ bl',∃ y ∈ bl,y.1=x.1/\y.2.raw=x.2.raw):E9 D P G base nt ρ sl' bl' us a w:=by
 have A:∀ p q:PB,p.raw=q.raw->p.rw=q.rw:=fun p q h=>by
  cases p<;>cases q<;>first|rfl|cases h
 refine⟨h.size,h.defers,fun F E x e=>h.fr F E x (K x e),fun x e=>?_,fun x e hw l I m=>?_⟩
 .obtain⟨y,B,f,n⟩:=r x e;rw[<- f,<- n];exact h.mb y B
 .obtain⟨y,B,f,n⟩:=r x e;obtain⟨H,L⟩:=h.own y B (by rw[A _ _ n];exact hw) l (by rw[f];exact I) m;refine⟨H,fun z J l2 t N=>?_⟩;obtain⟨M,C,f1,f2⟩:=r z J;rw[<- f1,<- f];exact L M C l2 (by rw[f1];exact t) (by rw[<- qN,f2,qN];exact N)
def E9.ren(h:E9 D P G base nt ρ sl bl us a w){S:Nat->Bool}(C:∀ x ∈ sl,Y3 S DEP x.2=true/\K8 0 idN DEP x.2=x.2)(m:∀ x ∈ bl,(x.2.names S=true/\x.2.ab 0 idN=x.2.raw)/\S x.1=true)
  (e:∀ b,S b=true->ρ' b=ρ b):E9 D P G base nt ρ' sl bl us a w:=by
 refine⟨h.size,h.defers,fun F p x f=>?_,fun x f=>?_,fun x f hw l n q=>?_⟩
 .obtain⟨h1,t⟩:=C x f
  have:=v6 (G:=G) (E:=F) (F:=F) (ρ:=ρ) (ρ2:=ρ') (S:=S) (nx:=0) (τ:=idN) (fun b l m n=>by show ρ' b=_;rw[e b m];exact n) (fun i=>by rw[D8]) DEP x.2 _ h1 (h.fr F p x f);rw[t]at this;exact this
 .obtain⟨⟨h1,t⟩,h3⟩:=m x f;obtain⟨l,J,A⟩:=h.mb x f;refine⟨l,by rw[e _ h3];exact J,fun F p=>?_⟩
  have:=nW (P:=P) (G:=G) (E:=F) (F:=F) (ρ:=ρ) (ρ2:=ρ') (S:=S) (nx:=0) (τ:=idN) (fun b l m n=>by show ρ' b=_;rw[e b m];exact n) (fun i=>by rw[D8]) (A F p) h1;rw[t]at this;exact this
 .rw[e _ (m x f).2]at n;obtain⟨B,H⟩:=h.own x f hw l n q;exact⟨B,fun y z l2 r I=>H y z l2 (by rw[<- e _ (m y z).2];exact r) I⟩
def J3(r:Nat)(o:Obj):Loc:=⟨r,0,0,0,fun k=>if k=r then some o else none,true⟩
def V2(ρ:Ren)(b:Nat)(l:Option Loc):Ren:=fun x=>if x=b then l else ρ x
def M0{ρ:Ren}{x:Nat}{l:Option Loc}(h:x≠b):V2 ρ b l x=ρ x:=B1 h
def R1{ρ:Ren}{l:Option Loc}:V2 ρ b l b=l:=B2 rfl
def E9.keep{r t:Nat}{o:Obj}(h:E9 D P G base nt (V2 ρ b (some (J3 r o))) sl bl us a w)(H:∀ x ∈ bl,x.1≠b)(hr:w.heap[r]? = some o)(A:base<=r)(z:∀ x ∈ bl,∀ l,ρ x.1=some l->¬ TcP x.2 l r)
  (K:a.tmps.getD t undef=.pointer (some ⟨r,0,none⟩)):E9 D P G base nt (V2 ρ b (some (J3 r o))) ((t,.pointer (some ⟨b,0,none⟩))::sl) ((b,.iter [])::bl) us a w:=by
 have hk:∀ {x:Nat×PB},x ∈ bl->∀ {l:Loc},V2 ρ b (some (J3 r o)) x.1=some l->ρ x.1=some l:=fun{x} m {l} n=>by rw[M0 (H x m)]at n;exact n
 refine⟨h.size,h.defers,fun F E x m=>?_,fun x m=>?_,fun x m hw l n B=>?_⟩
 .rcases A8.1 m with rfl|m
  .show @VR ⟨F,G⟩ _ _ (a.tmps.getD t undef);rw[K];have e:(.pointer (some ⟨r,0,none⟩):Value)=.pointer (some ⟨(J3 r o).blk,0+(J3 r o).sh,none⟩):=rfl;rw[e];exact @VR.ptr ⟨F,G⟩ _ _ _ _ R1
  .exact h.fr F E x m
 .rcases A8.1 m with rfl|m
  .exact⟨J3 r o,R1,fun F E=>⟨⟨rfl,rfl⟩,.inr ⟨rfl,o,B2 rfl,hr⟩⟩⟩
  .exact h.mb x m
 .rcases A8.1 m with rfl|m
  .have:l=J3 r o:=by
    have n:V2 ρ b (some (J3 r o)) b=some l:=n;rw[R1]at n;exact(A5 n).symm
   subst this;refine⟨A,fun y q l2 f p=>?_⟩;rcases A8.1 q with rfl|q
   .rfl
   .exact absurd p (z y q l2 (hk q f))
  .obtain⟨I,J⟩:=h.own x m hw l n B;refine⟨I,fun y q l2 f p=>?_⟩;rcases A8.1 q with rfl|q
   .have:l2=J3 r o:=by
     have f:V2 ρ b (some (J3 r o)) b=some l2:=f;rw[R1]at f;exact(A5 f).symm
    subst this;rcases p with⟨_,_,C⟩|⟨C,_⟩
    .exact absurd (.inl ⟨hw,B,C.symm⟩) (z x m l (hk m n))
    .cases C
   .exact J y q l2 f p
def E9.kept{t:Nat}(h:E9 D P G base nt ρ sl bl us a w)(A:(b,PB.iter []) ∈ bl)(B:(t,(.pointer (some ⟨b,0,none⟩):Value)) ∈ sl){r:Nat}{o:Obj}(x:ρ b=some (J3 r o)):w.heap[r]? = some o/\a.tmps.getD t undef=.pointer (some ⟨r,0,none⟩):=by
 obtain⟨l,p,y⟩:=h.mb _ A;have p:ρ b=some l:=p;rw[x]at p;cases p;have f:P5 us (gE us):=fun j u z=>by simp[gE,z]
 obtain⟨_,h3⟩:=y (gE us) f;constructor
 .rcases h3 with⟨s,n,_,e⟩|⟨_,E,e,C⟩
  .exact absurd e.1 (by simp)
  .have e:(if r=r then some o else none)=some E:=e;rw[B2 rfl]at e;cases e;exact C
 .have:=h.fr (gE us) f _ B;obtain⟨l2,m,_,q⟩:=@L1 ⟨gE us,G⟩ _ _ _ this;have m:ρ b=some l2:=m;rw[x]at m;cases m;have q:a.tmps.getD t undef=.pointer (some ⟨r,0+0,none⟩):=q;exact q
def E9.sorted{α:Type}[Inhabited α]{encU:α->List U}{k t g n:Nat}{T:TypeId}{d d':Array α}{l:Loc}(h:E9 D P G base nt ρ [(t,Go.Sx.own b 0 (10+k))] ((b,.sq 0 (10+k) T g)::bl0) (.seq false k (d.toList.map encU)::us) a w)
  (h0:bl0=[(g,.frz)]) (hk:∀ x,(encU x).length=k) (Z:∀ x,∀ u ∈ encU x,∃ v,toV u=some v) (B:ρ b=some l) (f:l.on=true) (M:d'.size=d.size) :
  E9 D P G base nt ρ [(t,Go.Sx.own b 0 (10+k))] ((b,.sq 0 (10+k) T g)::bl0) (.seq false k (d'.toList.map encU)::us) a (sortWorldK (cH encU) k w l.blk l.sh n d' os):=by
 subst h0;have y:P5 (.seq false k (d.toList.map encU)::us) (gE (.seq false k (d.toList.map encU)::us)):=fun j u V=>by simp[gE,V]
 obtain⟨l1,I,R⟩:=h.mb (b,.sq 0 (10+k) T g) (.head _);have I:ρ b=some l1:=I;rw[B]at I;cases I;have J:l.blk<w.heap.size:=h.tc (.head _) B (.inl ⟨rfl,f,rfl⟩);obtain⟨f1,f2,f3,f4,f5,f6⟩:=aK (w:=w) (encU:=encU) (k:=k) (d':=d') n os l.blk l.sh J;obtain⟨k1,k2⟩:=h.own (b,.sq 0 (10+k) T g) (.head _) rfl l B f;have z:∀ x ∈ [(g,PB.frz)],∀ l2 j,ρ x.1=some l2->TcP x.2 l2 j->(sortWorldK (cH encU) k w l.blk l.sh n d' os).heap[j]? = w.heap[j]? := fun x r l2 j m H=>by
  refine f2 j (h.tc (.tail _ r) m H) fun e=>?_
  subst e;rw[G7.1 r]at m H
  have:=k2 (g,.frz) (.tail _ (.head _)) l2 m H;have:g=b:=this;subst this;rcases H with⟨hc,_⟩|⟨_,o,L⟩
  .cases hc
  .rw[B]at m;cases m;obtain⟨S,A,E⟩:=h.mb (g,.frz) (.tail _ (.head _));have A:ρ g=some S:=A;rw[B]at A;cases A
   have:=(E _ y).1;rw[f]at this;cases this
 refine⟨h.size,h.defers,fun F C x r=>?_,fun x r=>?_,h.own⟩
 .have p:F 0=.seq false k (d'.toList.map encU):=C 0 _ rfl;rw[G7.1 r];obtain⟨q1,q2⟩:=@x9 ⟨gE (.seq false k (d.toList.map encU)::us),G⟩ _ _ _ _ _ (h.fr _ y (t,Go.Sx.own b 0 (10+k)) (.head _));have N:j9 (a.tmps.getD t undef)=true:=by
   rcases q1 with⟨_,_,_,_,_,q⟩|⟨_,_,_,_,_,_,_,_,q⟩<;>(rw[q];rfl)
  refine @VR.own ⟨F,G⟩ _ _ _ _ _ ?_ (by show F3 (F 0)=_;rw[p];rfl) N;show FM ρ b (F 0) _;rw[p];rcases q1 with⟨l2,w2,r1,r2,_⟩|⟨l2,w2,rows,r1,r2,K,Y,X,W⟩
  .rw[B]at r1;cases r1;rw[f]at r2;cases r2
  .refine .inr ⟨l2,k,_,r1,r2,rfl,?_,X,W⟩;have K:U.seq false k (d.toList.map encU)=.seq false w2 rows:=K;cases K;rw[<- Y];simp[M]
 .rcases A8.1 r with rfl|r
  .refine⟨l,B,fun F C=>?_⟩;have p:F 0=.seq false k (d'.toList.map encU):=C 0 _ rfl;letI O:Ora:=⟨F,G⟩
   show SqR P ρ (F 0) (10+k) T g false l _;rw[p];refine vQ hk Z ?_ f M
   have:=R (gE (.seq false k (d.toList.map encU)::us)) y;exact this
  .obtain⟨l2,A,E⟩:=h.mb x (.tail _ r);refine⟨l2,A,fun F C=>?_⟩;rw[G7.1 r]at A E ⊢;obtain⟨m1,m2⟩:=E _ y;exact⟨m1,fun j o L=>(z (g,.frz) (.head _) l2 j A (.inr ⟨rfl,o,L⟩)).trans (m2 j o L)⟩
end
end
section
open Go
section
variable {P:Program} {rd:Option Nat}
def WG{ops:Array Oper}{Q:Exit->Act->World->Prop}(Inv:Array Bool->Act->World->Prop)(C:∀ (i:Nat) (o:Oper),ops[i]? = some o->∀ e ∈ o.after.toList,e.on<i)
  (step:∀ (listed:Array Bool) (a:Act) (w:World) (i:Nat) (o:Oper),listed.size=ops.size->Inv listed a w->ops[i]? = some o->listed.getD i false=false->(∀ e ∈ o.after.toList,Region.binds .any e=true->listed.getD e.on false=true)->i5 P rd ops Q i (Inv (listed.setIfInBounds i true)) a w)
  (f:∀ (listed:Array Bool) (a:Act) (w:World),Inv listed a w->(∀ i,i<ops.size->listed.getD i false=true)->Q .normal a w) :
  ∀ (fuel:Nat) (listed:Array Bool) (a:Act) (w:World),listed.size=ops.size->listed.toList.countP (fun b=>!b)=fuel->Inv listed a w->dK P rd .any ops Q fuel listed a w:=by
 letI O:Ora:=⟨fun _=>.none,fun _=>none⟩
 intro fuel;induction fuel with
 | zero =>
   intro listed a w p q inv;have r:∀ i,i<ops.size->listed.getD i false=true:=fun i hi=>by
    have:=tN q i (by simpa [p]using hi);have H:listed[i]? = some true:=by simpa using this
    simp[B0,H]
   refine⟨?_,f listed a w inv r⟩;rw[T4];intro j L;obtain⟨h1,o,H,_⟩:=mem_ready.1 L;have B:j<ops.size:=(B5.1 H).1;have h3:=r j B;have x:j<listed.size:=A9;simp[B0,x]at h1 h3;rw[h1]at h3;cases h3
 | succ fuel R =>
   intro listed a w p q inv;refine⟨fun I=>?_,fun i hi=>?_⟩
   .have key:∀ n i,i<n->i<ops.size->listed.getD i false=true:=by
     intro n;induction n with
     | zero=>intro i h;omega
     | succ n F =>
       intro i N z;by_cases h:i<n
       .exact F i h z
       .cases K:listed.getD i false with
        | true=>rfl
        | false =>
          exfalso;obtain⟨o,E⟩:∃ o,ops[i]? = some o:=⟨_,E0 z⟩;have t:i ∈ Region.ready .any ops listed:=mem_ready.2 ⟨by
           have x:i<listed.size:=A9;simp[B0,x]at K ⊢;exact K,o,E,fun e he J=>by
           have B:=C i o E e (by simpa using he);exact F e.on A9 A9⟩
          rw[I]at t;cases t
    exact f listed a w inv (fun i hi=>key (i+1) i (H5 i) hi)
   .obtain⟨h1,o,E,H⟩:=mem_ready.1 hi;have z:i<ops.size:=(B5.1 E).1;have m:i<listed.size:=A9;have y:listed.getD i false=false:=by
     simp[B0,m]at h1 ⊢;exact h1
    have A:(listed.setIfInBounds i true).toList.countP (fun b=>!b)=fuel:=by
     have M:listed.toList[i]? = some false:=by
      simp[B0,m]at y;simp[m,y]
     have:=oZ listed.toList i M;rw[cP];omega
    exact rI (fun a' w' h=>R _ a' w' (by simpa using p) A h) (step listed a w i o p inv E y fun e he J=>H e (by simpa using he) J)
def rL{id:Nat}{ops:Array Oper}{Q:Exit->Act->World->Prop}{a:Act}{w:World}(hm:P.follows .mixedOrders=true)(Inv:Array Bool->Act->World->Prop)(m:∀ (i:Nat) (o:Oper),ops[i]? = some o->∀ e ∈ o.after.toList,e.on<i)
  (step:∀ (listed:Array Bool) (a:Act) (w:World) (i:Nat) (o:Oper),listed.size=ops.size->Inv listed a w->ops[i]? = some o->listed.getD i false=false->(∀ e ∈ o.after.toList,Region.binds .any e=true->listed.getD e.on false=true)->i5 P rd ops Q i (Inv (listed.setIfInBounds i true)) a w)
  (f:∀ (listed:Array Bool) (a:Act) (w:World),Inv listed a w->(∀ i,i<ops.size->listed.getD i false=true)->Q .normal a w) (h0:Inv (Array.replicate ops.size false) a { w with drawn:=w.drawn+1 }) :
  (Code.region id ops true).wpIn (fw rd) 0 P Q a w :=
 bO hm (WG Inv m step f _ _ _ _ (by simp) (by simp[List.countP_replicate]) h0)
def Z0{ops:Array Oper}{Q:Exit->Act->World->Prop}{o:Oper}{K:Act->World->Prop}{a:Act}{w w':World}(n:ops[i]? = some o)(p:o.guard=none)(e:o.about P w a.eval=none)(q:∀ c,o.op≠.defer c)
  (hr:(execOp a.eval o).run P w=.ok (.value v) w') (h:K (a.put o.dst v) w'):i5 P rd ops Q i K a w:=by
 unfold i5;simp only[n];rw[B2 (by simp[Region.wanted,p])];unfold wpO Oper.wpIn;refine⟨fun f m=>(by rw[e]at m;cases m),?_⟩;rw[Oper.semAt_eq _ _ _ q,hr];exact h
def kK{ops:Array Oper}{Q:Exit->Act->World->Prop}{o:Oper}{K:Act->World->Prop}{a:Act}{w:World}{f:FuncId}(p:ops[i]? = some o)(q:o.guard=none)(m:o.op=.call ⟨.value (.func f),xs,tys⟩)(t:xs.map a.eval=args)(he:(callFunc f args).run P w=.ok (.enter f args) w)
  (x:Calls P f args w fun e w'=>∃ v,e=.returned v/\K (a.put o.dst v) w'):i5 P rd ops Q i K a w:=by
 unfold i5;simp only[p];rw[B2 (by simp[Region.wanted,q])];unfold wpO Oper.wpIn;refine⟨fun _ _=>trivial,?_⟩;have n:(execOp a.eval o).run P w=(callFunc f args).run P w:=by
  subst t;unfold execOp;rw[m];simp only[resolve,Act.eval,Deferred.ofValue,pure_bind,invoke];simp
 rw[Oper.semAt_eq _ _ _ (fun c=>by rw[m];exact fun h=>by cases h),n,he,Oper.uponIn_enter];refine⟨eG,x6.2 (x.mono fun e w' ⟨v,h1,r⟩=>?_)⟩;subst h1;exact r
def calls_of_wp{f:FuncId}{fn:Func}{c:Code}{w:World}{R:Ending->World->Prop}(q:P.funcs[f]? = some fn)(m:fn.body=some c)
  (h:c.wpIn (fw none) 0 P (fun e a' w'=>(e=.normal∨e=.ret)/\a'.defers=[]/\LeavesInM (fw none) 0 P fn a'.tmps R [] .returning w') { tmps:=args++Array.replicate (fn.ntmps-args.size) undef,defers:=[] } w):Calls P f args w R:=by
 refine x6.1 (callsIn_of_wp_marks (F:=fw none) (n:=0) q m trivial ?_ rfl);refine wpIn_mono h fun e a' w' ⟨h1,p,h3⟩=>?_
 have h3:LeavesInM (fw none) 0 P fn a'.tmps R a'.defers .returning w':=by rw[p];exact h3
 rcases h1 with rfl|rfl
 .exact h3
 .exact h3
end
end
section
open Go
end
end Go.Sx
namespace Go.Proofs.Ytjdnjfnhdeplfaa
variable {c dc dr i j:Int}{b v:Bool}
section
open Go Go.Sx
def l1{c d:Bool}(k:c=d):[U.bool c]=[U.bool d]:=by rw[k]
def l0{d:Int}(k:c=d):[U.int .i64 c]=[U.int .i64 d]:=by rw[k]
def QJ{α:Type}{p:α->Bool}{l:List α}(h:l6 p l i=none):l.any p=false:=by
 induction l generalizing i with
 | nil=>rfl
 | cons a l e =>
   unfold l6 at h;cases hp:p a with
   | true=>rw[hp]at h;cases h
   | false=>rw[hp]at h;rw[Z9,hp,e h];rfl
def DL{α:Type}{p:α->Bool}{l:List α}(h:l6 p l i=some j):l.any p=true/\i<=j:=by
 induction l generalizing i with
 | nil=>cases h
 | cons a l e =>
   unfold l6 at h;cases hp:p a with
   | true=>rw[hp]at h;cases h;rw[Z9,hp];exact⟨rfl,Int.le_refl _⟩
   | false=>rw[hp]at h;rw[Z9,(e h).1,Bool.or_true];exact⟨rfl,by have:=(e h).2;omega⟩
open Go Go.Sx Go.Proofs.Try
def gl:Nat:=0
def n0:Nat:=0
def BG:List (Nat×List Value):=[]
def H0:Hp AB:=mkH BG
def IF:prog.follows .mixedOrders=true:=F6
def IE:AH prog:=by
 have h:(prog.funcs.toList.all fun fn=>!(fn.name == "runtime.NumGoroutine"))=true:=F6;intro f fn e;have h1:=D2.1 h fn (Array.mem_def.1 (Array.mem_of_getElem? e))
 simpa using h1
def A0O:List (FuncId×EK):=[]
def A1N:∀ p ∈ A0O,uH prog p.1 p.2:=by
 intro p hp;unfold A0O at hp;cases hp
noncomputable abbrev cx(l:List (FuncId×FnC))(e:List LpE):Cx:=⟨prog,A0O,gl,LU l,lpT e⟩
def cxg{G:Nat->Option Obj}{l:List (FuncId×FnC)}{e:List LpE}(h:cM prog G gl l)(k:fY prog G gl e):CxG (cx l e) G:=VT IF IE A1N h k
abbrev A3N:=Int×Int×Int×Int×Int×Int×Int×List UInt8
abbrev A3O:=Option (List Int)
abbrev A3P:=List UInt8
abbrev t7(G:Nat->Option Obj):Prop:=d7 Try.prog G gl H0 n0
abbrev gL:={L:List (FuncId×FnC) // ∀ {G:Nat->Option Obj},t7 G->cM Try.prog G gl L}
def L0:List (FuncId×FnC):=[]
def rR:Rw (Int×Int×Int×Int×Bool):=rC (kA .i64) (rC (kA .i64) (rC (kA .i64) (rC (kA .i64) (r1 qC))))
def rK:Rw (Int×Int×Int):=rC (kA .i64) (rC (kA .i64) (r1 (kA .i64)))
def rM:Rw (Int×Int×Bool×Bool):=rC (kA .i64) (rC (kA .i64) (rC qC (r1 qC)))
abbrev Rt:=(Int×Int×Int×Int×Bool)
abbrev Mt:=(Int×Int×Bool×Bool)
abbrev Kt:=(Int×Int×Int)
def lD(a b c d:Bool):Int:=match a,b,c,d with
 | true,true,true,true=>0x253c
 | true,false,true,true=>0x2534
 | false,true,true,true=>0x252c
 | true,true,true,false=>0x2524
 | true,true,false,true=>0x251c
 | true,false,true,false=>0x2518
 | true,false,false,true=>0x2514
 | false,true,true,false=>0x2510
 | false,true,false,true=>0x250c
 | true,true,false,false=>0x2502
 | true,false,false,false=>0x2502
 | false,true,false,false=>0x2502
 | false,false,true,true=>0x2500
 | false,false,true,false=>0x2500
 | false,false,false,true=>0x2500
 | false,false,false,false=>0
def vP(r:Rt):Prop:=(if r.2.2.2.2=true then r.2.2.2.1=1 else r.2.2.1=1)/\0<=r.1/\0<=r.2.1/\1<=r.2.2.1/\1<=r.2.2.2.1/\r.1+r.2.2.1<=40/\r.2.1+r.2.2.2.1<=80
instance(r:Rt):Decidable (vP r):=by unfold vP;infer_instance
def A0u{r:Rt}(h:r.2.2.2.2=true):vP r↔(r.2.2.2.1=1/\0<=r.1/\0<=r.2.1/\1<=r.2.2.1/\1<=r.2.2.2.1/\r.1+r.2.2.1<=40/\r.2.1+r.2.2.2.1<=80):=by unfold vP;rw[B2 h]
def A0v{r:Rt}(h:r.2.2.2.2=false):vP r↔(r.2.2.1=1/\0<=r.1/\0<=r.2.1/\1<=r.2.2.1/\1<=r.2.2.2.1/\r.1+r.2.2.1<=40/\r.2.1+r.2.2.2.1<=80):=by unfold vP;rw[B1 (by rw[h];decide)]
def vD(r:Rt):Bool:=!decide (vP r)
def SU{r:Rt}(h:¬vP r):vD r=true:=by unfold vD;rw[U8 h];rfl
def SV{r:Rt}(h:vP r):vD r=false:=by unfold vD;rw[cO h];rfl
def GG(x:Int):Prop := -9223372036854775808<=x/\x<=9223372036854775807
instance(x:Int):Decidable (GG x):=by unfold GG;infer_instance
def rOk(r:Rt):Prop:=GG r.1/\GG r.2.1/\GG r.2.2.1/\GG r.2.2.2.1
instance(r:Rt):Decidable (rOk r):=by unfold rOk;infer_instance
def rsP(l:List Rt):Prop:=l.length<=64/\∀ r ∈ l,vP r
instance(l:List Rt):Decidable (rsP l):=by unfold rsP;infer_instance
def uZ(l:List Rt):Int:=if rsP l then 0 else 450
def WE{l:List Rt}(h:l6 vD l 0=none):∀ g ∈ l,vP g:=fun g e=>by
 have:=QJ h
 have:=(List.any_eq_false.1 this) g e;by_cases q:vP g
 .exact q
 .exact absurd (SU q) this
def WD{l:List Rt}(h:l6 vD l 0=some j):¬∀ g ∈ l,vP g:=fun k=>by
 obtain⟨g,h1,e⟩:=N2.1 (DL h).1;rw[SV (k g h1)]at e;cases e
noncomputable def A0o:gL:=⟨_,fun e=>.nil⟩
def lC:List U->Option (Nat×List U)
 | [.bool a,.bool b,.bool c,.bool d]=>some (0,[.int .i64 (lD a b c d)])
 | _=>none
def DX(a:Bool)(b:Bool)(c:Bool)(d:Bool):lC [.bool a,.bool b,.bool c,.bool d]=some (0,[.int .i64 (lD a b c d)]):=rfl
def RL:Tr:=.br 0 (.br 1 (.br 2 (.br 3 (.ret [jI 9532]) (.ret [jI 9508])) (.br 3 (.ret [jI 9500]) (.ret [jI 9474]))) (.br 2 (.br 3 (.ret [jI 9524]) (.ret [jI 9496])) (.br 3 (.ret [jI 9492]) (.ret [jI 9474])))) (.br 1 (.br 2 (.br 3 (.ret [jI 9516]) (.ret [jI 9488])) (.br 3 (.ret [jI 9484]) (.ret [jI 9474]))) (.br 2 (.br 3 (.ret [jI 9472]) (.ret [jI 9472])) (.br 3 (.ret [jI 9472]) (.ret [jI 0]))))
def GN{G}(e:t7 G):iR prog G 15 [.s 8,.s 8,.s 8,.s 8] lC [.s 3]:=by
 refine l8 (d:=60) RL (cxg (A0o.2 e) .nil) e ⟨f15,_,func15,rfl⟩ F6 F6 ?_;intro us outs f;unfold lC at f;split at f
 .skip;rename_i a b c d;cases f;unfold RL;refine w0 (.cons 3 _ (.cons 2 _ (.cons 1 _ (.cons 0 _ (.nil))))) ?_;repeat (first|refine w4 (fun g=>?_) fun g=>?_|refine w4B (fun g=>?_) fun g=>?_|(refine w7 [.int .i64 _] ?_;rotate_left))
  all_goals
   first|(simp_all;done)|(simp_all [lD];done)
 .cases f
noncomputable def A2S:gL:=⟨_,fun e=>.nil⟩
def qB:List U->Option (Nat×List U)
 | [u_l,.int .i64 n,.int .i64 i]=>(T5 rR u_l).bind fun l=>if n=((el l).length:Int)/\0<=i/\i<=n/\n<=140737488351232/\(∀ r ∈ el l,rOk r)then rN (l6 vD ((el l).drop i.toNat) i) [] (fun j=>[.int .i64 j])else none
 | _=>none
def nN(l:(Option (List (Int×Int×Int×Int×Bool))))(n:Int)(i:Int)(e:n=((el l).length:Int)/\0<=i/\i<=n/\n<=140737488351232/\(∀ r ∈ el l,rOk r)):qB [E6 rR l,.int .i64 n,.int .i64 i]=rN (l6 vD ((el l).drop i.toNat) i) [] (fun j=>[.int .i64 j]):=by
 simp only[qB,L3,H4];exact B2 e
def XN:J5:=⟨[(0,dat 1 0 15),(1,.func (.func 32) ⟨[]⟩ ⟨[]⟩),(7,h 1 3),(8,h 2 3)],[(1,.frz)],3,[⟨.exit 0,[],[],0⟩,⟨.ret,[(4,h 0 3)],[],1⟩]⟩
noncomputable def RV:Code:=(f39.body).getD .skip
noncomputable def XJ:Code:=match G4 [true,false,true,false] RV with|some (.loop x)=>x|_=>.skip
def XM:f39.body=some RV:=rfl
def XL:G4 [true,false,true,false] RV=some (.loop XJ):=F6
def RS(n:Nat):Tr:=.br 10 (aH [h3 5,jI 0]<|.br n (aH [h3 6,jI 0]<|.br (n+1) (aH [h3 7,jI 1]<|.br (n+2) (aH [h3 8,jI 1]<|.br (n+3) (.lt 3 (.min) [h3 5,jI 40]<|aS [jI 40,h3 (n+4)]<|aQ [h3 7,h3 (n+5)]<|.br (n+6) (.lt 3 (.min) [h3 6,jI 80]<|aS [jI 80,h3 (n+7)]<|aQ [h3 8,h3 (n+8)]<|aX [h (n+9) 8]<|.br (n+10) (.ret [jI 1,h3 2]) (aA [h3 2,jI 1]<|.ret [jI (-1),h 0 15,h3 1,h3 (n+11)])) (.ret [jI 1,h3 2])) (.ret [jI 1,h3 2])) (.ret [jI 1,h3 2])) (.ret [jI 1,h3 2])) (.ret [jI 1,h3 2])) (.ret [jI 1,h3 2])
def XK:Tr:=aL [h3 2,h3 1]<|.br 3 (.lt 8 (.inbs 5) [h3 2,h 0 15]<|.br 4 (.lt 3 (.get 5 0) [h 0 15,h3 2]<|.lt 3 (.get 5 1) [h 0 15,h3 2]<|.lt 3 (.get 5 2) [h 0 15,h3 2]<|.lt 3 (.get 5 3) [h 0 15,h3 2]<|.lt 8 (.get 5 4) [h 0 15,h3 2]<|.br 9 (aE [h3 8,jI 1]<|RS 11) (aE [h3 7,jI 1]<|RS 11)) (.no)) (.ret [jI 0])
def RU:List U->Nat
 | [u_l,.int .i64 n,.int .i64 i]=>(match T5 rR u_l with|some l=>(n-i).toNat|none=>0)
 | _=>0
def RT(l:(Option (List (Int×Int×Int×Int×Bool))))(n:Int)(i:Int):RU [E6 rR l,.int .i64 n,.int .i64 i]=(n-i).toNat:=by
 simp only[RU,L3]
def A1x{G}(r:t7 G):∀ (E:Nat->U) (base:Nat),@x7 ⟨E,G⟩ prog base gl f39.ntmps XJ (u6 prog gl n0 2 XN qB):=by
 refine mN (dep:=60) (f:=39) (n0:=n0) (nB:=2) (H0:=H0) RU XK (cxg (A2S.2 r) .nil) r func39 XM XL F6 F6 F6 ?_;intro us d outs p;have x:=p;unfold qB at p;split at p
 .skip;rename_i B n i;have t:=C6.1 p;clear p;obtain⟨l,m,p⟩:=t;replace m:=K6 m;subst m;split at p
  .rename_i q;clear p x;have y:i<n->rOk ((el l).getD i.toNat default):=fun h=>q.2.2.2.2 _ (DE A9 A9)
   refine⟨rfl,?_⟩;unfold XK;refine w0 (.cons 2 _ (.cons 1 _ (.cons 0 _ (.nil)))) ?_;repeat (first|refine w4 (fun g=>?_) fun g=>?_|(refine w7 [.int .i64 _,.int .i64 _] ?_;rotate_left)|refine A00 ?_|refine A2k ?_|refine A0y ?_|refine A2m ?_|refine A2n ?_|refine KJ ?_|refine vN ?_|refine TP ?_|refine MV ?_|(refine w7 [.int .i64 _,E6 rR _,.int .i64 _,.int .i64 _] ?_;rotate_left)|refine MW ?_|refine MX ?_|refine w1 (.get 5 0) (u:=.int .i64 _) (e:=X7 rfl A9 A9 rfl) (k':=?_)|refine w1 (.get 5 1) (u:=.int .i64 _) (e:=X7 rfl A9 A9 rfl) (k':=?_)|refine w1 (.get 5 2) (u:=.int .i64 _) (e:=X7 rfl A9 A9 rfl) (k':=?_)|refine w1 (.get 5 3) (u:=.int .i64 _) (e:=X7 rfl A9 A9 rfl) (k':=?_)|refine w1 (.get 5 4) (u:=.bool _) (e:=X7 rfl A9 A9 rfl) (k':=?_)|refine w4B (fun g=>?_) fun g=>?_|(refine w8 ?_;first|omega)|(refine w7 [.int .i64 _] ?_;rotate_left))
   all_goals first
    | refine eE ?_ ?_
      .rw[nN l n (i+1) ⟨q.1,A9,A9,q.2.2.2⟩,nN l n i q,tG (i:=i) q.2.1 A9 (SV (by first|(rw[A0u ‹_›];omega)|(rw[A0v ‹_›];omega)))]
      .rw[RT,RT];omega
    | refine O0 (d:=0) ?_
      rw[nN l n i q,xA A9];rfl
    | refine O0 (d:=1) ?_
      have A:vD ((el l).getD i.toNat default)=true:=SU (by intro h;have z:=y A9;unfold rOk GG at z;first|(rw[A0u ‹_›]at h;omega)|(rw[A0v ‹_›]at h;omega));rw[nN l n i q,wZ (i:=i) q.2.1 A9 A];rfl
  .cases p
 .cases p
noncomputable def A2f:List LpE:=(39,([true,false,true,false],u6 prog gl n0 2 XN qB))::[]
def TG{G}(e:t7 G):fY prog G gl A2f:=.cons func39 XM XL (A1x e) .nil
noncomputable def A2R:gL:=⟨_,fun e=>.nil⟩
def xJ:List U->Option (Nat×List U)
 | [u_l]=>(T5 rR u_l).bind fun l=>if((el l).length:Int)<=140737488351232/\(∀ r ∈ el l,rOk r)then some (0,[.int .i64 (uZ (el l))])else none
 | _=>none
def VY(l:(Option (List (Int×Int×Int×Int×Bool))))(e:((el l).length:Int)<=140737488351232/\(∀ r ∈ el l,rOk r)):xJ [E6 rR l]=some (0,[.int .i64 (uZ (el l))]):=by
 simp only[xJ,L3,H4];exact B2 e
def XI:Tr:=aD [h 0 15]<|aG [h3 1,jI 64]<|.br 2 (.ret [jI 450]) (.lp qB [h 0 15,h3 1,jI 0] 0 0 (.ret [jI 0]) (.lp qB [h 0 15,h3 1,jI 0] 1 1 (aH [h3 3,jI 0]<|.br 4 (.ret [jI 450]) (.ret [jI 0])) (.no)))
def A1w{G}(m:t7 G):iR prog G 12 [.s 15] xJ [.s 3]:=by
 refine l8 (d:=60) XI (cxg (A2R.2 m) (TG m)) m ⟨f12,_,func12,rfl⟩ F6 F6 ?_;intro us outs f;unfold xJ at f;split at f
 .skip;rename_i q;have n:=C6.1 f;clear f;obtain⟨l,e,f⟩:=n;replace e:=K6 e;subst e;split at f
  .rename_i r;cases f;have t:(el l).drop (0:Int).toNat=el l:=rfl;unfold XI;refine w0 (.cons 0 _ (.nil)) ?_;repeat (first|(refine w7 [.int .i64 _] ?_;rotate_left)|refine w4 (fun g=>?_) fun g=>?_|refine HF ?_|refine A2o ?_|(refine w6 qB (nN _ _ _ ⟨rfl,L8,A9,A9,r.2⟩) (h0:=fun g=>?_) (h1:=fun v g=>?_);skip;rotate_left;show Wk _ _ (.cons _ _ _);rotate_right)|refine A00 ?_)
   all_goals
    refine l0 ?_;symm;first
    | (refine B1 fun h=>?_;have:=h.1;omega)
    | exact B2 ⟨A9,WE ‹_›⟩
    | (exfalso;have:=(DL (p:=vD) (l:=el l) ‹_›).2;omega)
    | exact B1 (fun h=>WD (l:=el l) ‹_› h.2)
  .cases f
 .cases f
def qq(a b:Mt):Bool:=(a.1 == b.1) && ((a.2.1 == b.2.1) && true)
def fK(x:Option (List Mt))(r c:Int):Option Mt:=(el x).find? (fun a=>(r == a.1) && ((c == a.2.1) && true))
def fV(x:Option (List Mt))(r c:Int):Bool:=(fK x r c).elim false (fun a=>a.2.2.1)
def fH(x:Option (List Mt))(r c:Int):Bool:=(fK x r c).elim false (fun a=>a.2.2.2)
def stM(x:Option (List Mt))(r c:Int)(v:Bool):Option (List Mt):=NO qq x (r,c,fV x r c || v,fH x r c || !v)
def coN(r c:Int)(v:Bool):Nat->Int->Option (List Mt)->Option (List Mt)
 | 0,_,x=>x
 | n+1,j,x=>coN r c v n (j+1) (stM x r (c+j) v)
def roN(r c w:Int)(v:Bool):Nat->Int->Option (List Mt)->Option (List Mt)
 | 0,_,x=>x
 | n+1,i,x=>roN r c w v n (i+1) (coN (r+i) c v w.toNat 0 x)
def ruN(x:Option (List Mt))(r:Rt):Option (List Mt):=roN r.1 r.2.1 r.2.2.2.1 r.2.2.2.2 r.2.2.1.toNat 0 x
def ruL(l:List Rt)(x:Option (List Mt)):Option (List Mt):=l.foldl ruN x
def WQ{x:Option (List Mt)}{r:Int}(h:x≠none):stM x r c v≠none:=by
 cases x with
 | none=>exact absurd rfl h
 | some l=>exact Y7 _
def RN{r c:Int}{v:Bool}:∀ (n:Nat) (j:Int) {x:Option (List Mt)},x≠none->coN r c v n j x≠none
 | 0,_,_,h=>h
 | n+1,j,_,h=>RN n (j+1) (WQ h)
def WU{r c w:Int}{v:Bool}:∀ (n:Nat) (j:Int) {x:Option (List Mt)},x≠none->roN r c w v n j x≠none
 | 0,_,_,h=>h
 | n+1,j,_,h=>WU n (j+1) (RN _ _ h)
def A1n{r n:Int}{x:Option (List Mt)}(h:j<n):coN r c v (n-j).toNat j x=coN r c v (n-(j+1)).toNat (j+1) (stM x r (c+j) v):=by
 rw[show(n-j).toNat=(n-(j+1)).toNat+1 by omega];rfl
def A1o{r n:Int}{x:Option (List Mt)}(h:¬j<n):coN r c v (n-j).toNat j x=x:=by rw[show(n-j).toNat=0 by omega];rfl
def A08{r w n:Int}{x:Option (List Mt)}(h:j<n):roN r c w v (n-j).toNat j x=roN r c w v (n-(j+1)).toNat (j+1) (coN (r+j) c v w.toNat 0 x):=by
 rw[show(n-j).toNat=(n-(j+1)).toNat+1 by omega];rfl
def A09{r w n:Int}{x:Option (List Mt)}(h:¬j<n):roN r c w v (n-j).toNat j x=x:=by rw[show(n-j).toNat=0 by omega];rfl
def A06{l:List Rt}{x:Option (List Mt)}(h0:0<=i)(h:i<(l.length:Int)):ruL (l.drop i.toNat) x=ruL (l.drop (i+1).toNat) (ruN x (l.getD i.toNat default)):=by
 have e:i.toNat<l.length:=A9;rw[show(i+1).toNat=i.toNat+1 by omega,Q5 e];show List.foldl _ _ _=_;rw[gF];simp only[ruL,B9,A4 e,Y0]
def A07{l:List Rt}{x:Option (List Mt)}(h:¬i<(l.length:Int))(h0:0<=i):ruL (l.drop i.toNat) x=x:=by
 rw[s8 A9];rfl
def A02{x:Option (List Mt)}{r:Int}{a:Bool}(h1:a=(fV x r c || v))(e:b=(fH x r c || !v)):NO qq x (r,c,a,b)=stM x r c v:=by rw[h1,e];rfl
def AP{r:Rt}(h:vP r):0<=r.1/\0<=r.2.1/\1<=r.2.2.1/\1<=r.2.2.2.1/\r.1+r.2.2.1<=40/\r.2.1+r.2.2.2.1<=80:=h.2
def A1G{a:Bool}(h:a=true):true=(a || v):=by rw[h];rfl
def A1H{a:Bool}(h:a=false):v=(a || v):=by rw[h];rfl
attribute [local irreducible] coN roN ruL stM
noncomputable def A2V:gL:=⟨_,fun e=>.nil⟩
def tW:List U->Option (Nat×List U)
 | [.int .i64 i,u_l,.int .i64 n,.int .i64 k,.int .i64 rn,.int .i64 i2,.int .i64 cn,.int .i64 j,.int .i64 r,.int .i64 c,.int .i64 hh,.int .i64 ww,.bool v,u_x]=>(T5 rR u_l).bind fun l=>(T5 rM u_x).bind fun x=>if 0<=i/\i<=40/\0<=j/\j<=cn/\cn<=80/\0<=r/\r<=40/\0<=c/\c<=80/\x≠none then some (0,[E6 rR l,.int .i64 n,.int .i64 k,.int .i64 rn,.int .i64 i2,.int .i64 r,.int .i64 c,.int .i64 hh,.int .i64 ww,.bool v,E6 rM (coN (r+i) c v (cn-j).toNat j x)])else none
 | _=>none
def rB(i:Int)(l:(Option (List (Int×Int×Int×Int×Bool))))(n:Int)(k:Int)(f:Int)(i2:Int)(e:Int)(j:Int)(r:Int)(c:Int)(hh:Int)(ww:Int)(v:Bool)(x:(Option (List (Int×Int×Bool×Bool))))(m:0<=i/\i<=40/\0<=j/\j<=e/\e<=80/\0<=r/\r<=40/\0<=c/\c<=80/\x≠none):tW [.int .i64 i,E6 rR l,.int .i64 n,.int .i64 k,.int .i64 f,.int .i64 i2,.int .i64 e,.int .i64 j,.int .i64 r,.int .i64 c,.int .i64 hh,.int .i64 ww,.bool v,E6 rM x]=some (0,[E6 rR l,.int .i64 n,.int .i64 k,.int .i64 f,.int .i64 i2,.int .i64 r,.int .i64 c,.int .i64 hh,.int .i64 ww,.bool v,E6 rM (coN (r+i) c v (e-j).toNat j x)]):=by
 simp only[tW,L3,H4];exact B2 m
def YC:J5:=⟨[(3,.map (some 1)),(5,.pointer (some ⟨2,0,none⟩)),(6,h 0 3),(11,dat 3 1 15),(12,h 2 3),(13,h 3 3),(19,h 4 3),(20,h 5 3),(25,h 6 3),(26,h 7 3)],[(2,.cells 29 [h 8 3,h 9 3,h 10 3,h 11 3,h 12 8]),(1,.mp 13 14 55),(3,.frz)],14,[⟨.exit 4,[(3,.map (some 1)),(5,.pointer (some ⟨2,0,none⟩)),(11,dat 4 0 15),(12,h 1 3),(13,h 2 3),(19,h 3 3),(20,h 4 3)],[(2,.cells 29 [h 5 3,h 6 3,h 7 3,h 8 3,h 9 8]),(1,.mp 10 14 55),(4,.frz)],11⟩]⟩
noncomputable def SG:Code:=(f22.body).getD .skip
noncomputable def XY:Code:=match G4 [true,true,false,true,false,false,true,true,false,false,true,true,false,false,true,true,false,false,true,true,false] SG with|some (.loop x)=>x|_=>.skip
def YB:f22.body=some SG:=rfl
def YA:G4 [true,true,false,true,false,false,true,true,false,false,true,true,false,false,true,true,false,false,true,true,false] SG=some (.loop XY):=F6
def SD(n:Nat):Tr:=aA [h3 7,jI 1]<|.ret [jI (-1),h3 0,h 1 15,h3 2,h3 3,h3 4,h3 5,h3 6,h3 n,h3 8,h3 9,h3 10,h3 11,h 12 8,h 19 14]
def SC(n:Nat):Tr:=aA [h3 7,jI 1]<|.ret [jI (-1),h3 0,h 1 15,h3 2,h3 3,h3 4,h3 5,h3 6,h3 n,h3 8,h3 9,h3 10,h3 11,h 12 8,h 20 14]
def XZ:Tr:=aL [h3 7,h3 6]<|.br 14 (aA [h3 8,h3 0]<|aA [h3 9,h3 7]<|.lt 8 (.mget 4 2 2) [h 13 14,.bool false,h3 15,h3 16]<|.lt 8 (.mget 4 2 3) [h 13 14,.bool false,h3 15,h3 16]<|.br 17 (.br 18 (.dt 14 (.mput 4 2) [h 13 14,h3 15,h3 16,.bool true,.bool true]<|SD 20) (aX [h 12 8]<|.dt 14 (.mput 4 2) [h 13 14,h3 15,h3 16,.bool true,h 19 8]<|SC 21)) (.br 18 (.dt 14 (.mput 4 2) [h 13 14,h3 15,h3 16,h 12 8,.bool true]<|SD 20) (aX [h 12 8]<|.dt 14 (.mput 4 2) [h 13 14,h3 15,h3 16,h 12 8,h 19 8]<|SC 21))) (.ret [jI 0,h 1 15,h3 2,h3 3,h3 4,h3 5,h3 8,h3 9,h3 10,h3 11,h 12 8,h 13 14])
def SF:List U->Nat
 | [.int .i64 i,u_l,.int .i64 n,.int .i64 k,.int .i64 rn,.int .i64 i2,.int .i64 cn,.int .i64 j,.int .i64 r,.int .i64 c,.int .i64 hh,.int .i64 ww,.bool v,u_x]=>(match T5 rR u_l with|some l=>(match T5 rM u_x with|some x=>(cn-j).toNat|none=>0)|none=>0)
 | _=>0
def SE(i:Int)(l:(Option (List (Int×Int×Int×Int×Bool))))(n:Int)(k:Int)(f:Int)(i2:Int)(e:Int)(j:Int)(r:Int)(c:Int)(hh:Int)(ww:Int)(v:Bool)(x:(Option (List (Int×Int×Bool×Bool)))):SF [.int .i64 i,E6 rR l,.int .i64 n,.int .i64 k,.int .i64 f,.int .i64 i2,.int .i64 e,.int .i64 j,.int .i64 r,.int .i64 c,.int .i64 hh,.int .i64 ww,.bool v,E6 rM x]=(e-j).toNat:=by
 simp only[SF,L3]
def A12{G}(y:t7 G):∀ (E:Nat->U) (base:Nat),@x7 ⟨E,G⟩ prog base gl f22.ntmps XY (u6 prog gl n0 5 YC tW):=by
 refine mN (dep:=60) (f:=22) (n0:=n0) (nB:=5) (H0:=H0) SF XZ (cxg (A2V.2 y) .nil) y func22 YB YA F6 F6 F6 ?_;intro us d outs m;have B:=m;unfold tW at m;split at m
 .skip;rename_i i F n k C i2 h j r c hh ww v H;have z:=C6.1 m;clear m;obtain⟨l,p,m⟩:=z;replace p:=K6 p;subst p;have t:=C6.1 m;clear m;obtain⟨x,q,m⟩:=t;replace q:=K6 q;subst q;split at m
  .rename_i A;clear m B;refine⟨rfl,?_⟩;unfold XZ;refine w0 (.cons 13 _ (.cons 12 _ (.cons 11 _ (.cons 10 _ (.cons 9 _ (.cons 8 _ (.cons 7 _ (.cons 6 _ (.cons 5 _ (.cons 4 _ (.cons 3 _ (.cons 2 _ (.cons 1 _ (.cons 0 _ (.nil))))))))))))))) ?_;repeat (first|refine KJ ?_|refine vN ?_|refine w4 (fun g=>?_) fun g=>?_|refine w4B (fun g=>?_) fun g=>?_|refine w2 (.mput 4 2) (r:=rM) (e:=QO qq (_,_,_,_) rfl rfl (fun _=>rfl) (by first|exact A.2.2.2.2.2.2.2.2.2)) (k':=?_)|(refine w7 [.int .i64 _,.int .i64 _,E6 rR _,.int .i64 _,.int .i64 _,.int .i64 _,.int .i64 _,.int .i64 _,.int .i64 _,.int .i64 _,.int .i64 _,.int .i64 _,.int .i64 _,.bool _,E6 rM _] ?_;rotate_left)|refine MV ?_|refine A0z ?_|refine MW ?_|refine w1x (.mget 4 2 2) (e:=nG U.bool (fun a=>(_ == a.1 && (_ == a.2.1 && true))) (fun a=>a.2.2.1) rfl rfl (fun _=>rfl) (fun _=>rfl)) (k':=?_)|refine w1x (.mget 4 2 3) (e:=nG U.bool (fun a=>(_ == a.1 && (_ == a.2.1 && true))) (fun a=>a.2.2.2) rfl rfl (fun _=>rfl) (fun _=>rfl)) (k':=?_)|(refine w7 [.int .i64 _,E6 rR _,.int .i64 _,.int .i64 _,.int .i64 _,.int .i64 _,.int .i64 _,.int .i64 _,.int .i64 _,.int .i64 _,.bool _,E6 rM _] ?_;rotate_left))
   all_goals first
    | refine eE ?_ ?_
      .rw[A02 (r:=r+i) (c:=c+j) (v:=v) (by first|exact A1G ‹_›|exact A1H ‹_›) (by first|exact A1G ‹_›|exact A1H ‹_›),rB i l n k C i2 h (j+1) r c hh ww v _ ⟨A9,A9,A9,A9,A9,A9,A9,A9,A9,WQ A.2.2.2.2.2.2.2.2.2⟩,rB i l n k C i2 h j r c hh ww v x A,A1n (j:=j) (n:=h) A9]
      .rw[SE,SE];omega
    | refine O0 (d:=0) ?_
      rw[rB i l n k C i2 h j r c hh ww v x A,A1o A9]
  .cases m
 .cases m
noncomputable def YU:List LpE:=(22,([true,true,false,true,false,false,true,true,false,false,true,true,false,false,true,true,false,false,true,true,false],u6 prog gl n0 5 YC tW))::[]
def EI{G}(e:t7 G):fY prog G gl YU:=.cons func22 YB YA (A12 e) .nil
end
section
open Go Go.Sx Go.Proofs.Try
noncomputable def A2U:gL:=⟨_,fun e=>.nil⟩
def tV:List U->Option (Nat×List U)
 | [u_l,.int .i64 n,.int .i64 k,.int .i64 rn,.int .i64 i,.int .i64 r,.int .i64 c,.int .i64 hh,.int .i64 ww,.bool v,u_x]=>(T5 rR u_l).bind fun l=>(T5 rM u_x).bind fun x=>if 0<=i/\i<=rn/\rn<=40/\0<=r/\r<=40/\0<=c/\c<=80/\0<=ww/\ww<=80/\x≠none then some (0,[E6 rR l,.int .i64 n,.int .i64 k,E6 rM (roN r c ww v (rn-i).toNat i x)])else none
 | _=>none
def rA(l:(Option (List (Int×Int×Int×Int×Bool))))(n:Int)(k:Int)(e:Int)(i:Int)(r:Int)(c:Int)(hh:Int)(ww:Int)(v:Bool)(x:(Option (List (Int×Int×Bool×Bool))))(f:0<=i/\i<=e/\e<=40/\0<=r/\r<=40/\0<=c/\c<=80/\0<=ww/\ww<=80/\x≠none):tV [E6 rR l,.int .i64 n,.int .i64 k,.int .i64 e,.int .i64 i,.int .i64 r,.int .i64 c,.int .i64 hh,.int .i64 ww,.bool v,E6 rM x]=some (0,[E6 rR l,.int .i64 n,.int .i64 k,E6 rM (roN r c ww v (e-i).toNat i x)]):=by
 simp only[tV,L3,H4];exact B2 f
def XX:J5:=⟨[(3,.map (some 1)),(5,.pointer (some ⟨2,0,none⟩)),(11,dat 3 0 15),(12,h 1 3),(13,h 2 3),(19,h 3 3),(20,h 4 3)],[(2,.cells 29 [h 5 3,h 6 3,h 7 3,h 8 3,h 9 8]),(1,.mp 10 14 55),(3,.frz)],11,[⟨.exit 2,[(3,.map (some 1)),(11,dat 4 0 15),(12,h 1 3),(13,h 2 3)],[(1,.mp 3 14 55),(4,.frz)],4⟩]⟩
noncomputable def SB:Code:=(f22.body).getD .skip
noncomputable def XT:Code:=match G4 [true,true,false,true,false,false,true,true,false,false,true,true,false] SB with|some (.loop x)=>x|_=>.skip
def XW:f22.body=some SB:=rfl
def XV:G4 [true,true,false,true,false,false,true,true,false,false,true,true,false] SB=some (.loop XT):=F6
def XU:Tr:=aL [h3 4,h3 3]<|.br 11 (.fn tW [h3 4,h 0 15,h3 1,h3 2,h3 3,h3 4,h3 8,jI 0,h3 5,h3 6,h3 7,h3 8,h 9 8,h 10 14] 11<|aA [h3 16,jI 1]<|.ret [jI (-1),h 12 15,h3 13,h3 14,h3 15,h3 23,h3 17,h3 18,h3 19,h3 20,h 21 8,h 22 14]) (.ret [jI 0,h 0 15,h3 1,h3 2,h 10 14])
def SA:List U->Nat
 | [u_l,.int .i64 n,.int .i64 k,.int .i64 rn,.int .i64 i,.int .i64 r,.int .i64 c,.int .i64 hh,.int .i64 ww,.bool v,u_x]=>(match T5 rR u_l with|some l=>(match T5 rM u_x with|some x=>(rn-i).toNat|none=>0)|none=>0)
 | _=>0
def RZ(l:(Option (List (Int×Int×Int×Int×Bool))))(n:Int)(k:Int)(e:Int)(i:Int)(r:Int)(c:Int)(hh:Int)(ww:Int)(v:Bool)(x:(Option (List (Int×Int×Bool×Bool)))):SA [E6 rR l,.int .i64 n,.int .i64 k,.int .i64 e,.int .i64 i,.int .i64 r,.int .i64 c,.int .i64 hh,.int .i64 ww,.bool v,E6 rM x]=(e-i).toNat:=by
 simp only[SA,L3]
def A11{G}(t:t7 G):∀ (E:Nat->U) (base:Nat),@x7 ⟨E,G⟩ prog base gl f22.ntmps XT (u6 prog gl n0 5 XX tV):=by
 refine mN (dep:=60) (f:=22) (n0:=n0) (nB:=5) (H0:=H0) SA XU (cxg (A2U.2 t) (EI t)) t func22 XW XV F6 F6 F6 ?_;intro us d outs m;have B:=m;unfold tV at m;split at m
 .skip;rename_i C n k h i r c hh ww v F;have z:=C6.1 m;clear m;obtain⟨l,p,m⟩:=z;replace p:=K6 p;subst p;have y:=C6.1 m;clear m;obtain⟨x,q,m⟩:=y;replace q:=K6 q;subst q;split at m
  .rename_i A;clear m B;refine⟨rfl,?_⟩;unfold XU;refine w0 (.cons 10 _ (.cons 9 _ (.cons 8 _ (.cons 7 _ (.cons 6 _ (.cons 5 _ (.cons 4 _ (.cons 3 _ (.cons 2 _ (.cons 1 _ (.cons 0 _ (.nil)))))))))))) ?_;repeat (first|refine KJ ?_|refine vN ?_|refine MW ?_|refine w4 (fun g=>?_) fun g=>?_|(refine w3 tW (e:=rB _ _ _ _ _ _ _ _ _ _ _ _ _ _ ⟨A9,A9,A9,A9,A9,A9,A9,A9,A9,A.2.2.2.2.2.2.2.2.2⟩) (k':=?_);show Wk _ _ (.cons _ _ (.cons _ _ (.cons _ _ (.cons _ _ (.cons _ _ (.cons _ _ (.cons _ _ (.cons _ _ (.cons _ _ (.cons _ _ (.cons _ _ _))))))))))))|(refine w7 [.int .i64 _,E6 rR _,.int .i64 _,.int .i64 _,.int .i64 _,.int .i64 _,.int .i64 _,.int .i64 _,.int .i64 _,.int .i64 _,.bool _,E6 rM _] ?_;rotate_left)|(refine w7 [.int .i64 _,E6 rR _,.int .i64 _,.int .i64 _,E6 rM _] ?_;rotate_left))
   all_goals first
    | refine eE ?_ ?_
      .rw[show ww-0=ww by omega,rA l n k h (i+1) r c hh ww v _ ⟨A9,A9,A9,A9,A9,A9,A9,A9,A9,RN _ _ A.2.2.2.2.2.2.2.2.2⟩,rA l n k h i r c hh ww v x A,A08 (j:=i) (n:=h) A9]
      .rw[RZ,RZ];omega
    | refine O0 (d:=0) ?_
      rw[rA l n k h i r c hh ww v x A,A09 A9]
  .cases m
 .cases m
noncomputable def A2g:List LpE:=(22,([true,true,false,true,false,false,true,true,false,false,true,true,false],u6 prog gl n0 5 XX tV))::YU
def TH{G}(e:t7 G):fY prog G gl A2g:=.cons func22 XW XV (A11 e) (EI e)
noncomputable def A2T:gL:=⟨_,fun e=>.nil⟩
def tU:List U->Option (Nat×List U)
 | [u_l,.int .i64 n,.int .i64 k,u_x]=>(T5 rR u_l).bind fun l=>(T5 rM u_x).bind fun x=>if n=((el l).length:Int)/\0<=k/\k<=n/\n<=140737488351232/\(∀ r ∈ el l,vP r)/\x≠none then some (0,[E6 rM (ruL ((el l).drop k.toNat) x)])else none
 | _=>none
def qZ(l:(Option (List (Int×Int×Int×Int×Bool))))(n:Int)(k:Int)(x:(Option (List (Int×Int×Bool×Bool))))(e:n=((el l).length:Int)/\0<=k/\k<=n/\n<=140737488351232/\(∀ r ∈ el l,vP r)/\x≠none):tU [E6 rR l,.int .i64 n,.int .i64 k,E6 rM x]=some (0,[E6 rM (ruL ((el l).drop k.toNat) x)]):=by
 simp only[tU,L3,H4];exact B2 e
def XS:J5:=⟨[(3,.map (some 1)),(11,dat 2 0 15),(12,h 1 3),(13,h 2 3)],[(1,.mp 3 14 55),(2,.frz)],4,[⟨.exit 0,[(3,.map (some 1))],[(1,.mp 0 14 55)],1⟩]⟩
noncomputable def RY:Code:=(f22.body).getD .skip
noncomputable def XO:Code:=match G4 [true,true,false,true,false] RY with|some (.loop x)=>x|_=>.skip
def XR:f22.body=some RY:=rfl
def XQ:G4 [true,true,false,true,false] RY=some (.loop XO):=F6
def XP:Tr:=aL [h3 2,h3 1]<|.br 4 (.lt 8 (.inbs 5) [h3 2,h 0 15]<|.br 5 (.lt 3 (.get 5 0) [h 0 15,h3 2]<|.lt 3 (.get 5 1) [h 0 15,h3 2]<|.lt 3 (.get 5 2) [h 0 15,h3 2]<|.lt 3 (.get 5 3) [h 0 15,h3 2]<|.lt 8 (.get 5 4) [h 0 15,h3 2]<|.fn tV [h 0 15,h3 1,h3 2,h3 8,jI 0,h3 6,h3 7,h3 8,h3 9,h 10 8,h 3 14] 4<|aA [h3 13,jI 1]<|.ret [jI (-1),h 11 15,h3 12,h3 15,h 14 14]) (.no)) (.ret [jI 0,h 3 14])
def RX:List U->Nat
 | [u_l,.int .i64 n,.int .i64 k,u_x]=>(match T5 rR u_l with|some l=>(match T5 rM u_x with|some x=>(n-k).toNat|none=>0)|none=>0)
 | _=>0
def RW(l:(Option (List (Int×Int×Int×Int×Bool))))(n:Int)(k:Int)(x:(Option (List (Int×Int×Bool×Bool)))):RX [E6 rR l,.int .i64 n,.int .i64 k,E6 rM x]=(n-k).toNat:=by
 simp only[RX,L3]
def A10{G}(A:t7 G):∀ (E:Nat->U) (base:Nat),@x7 ⟨E,G⟩ prog base gl f22.ntmps XO (u6 prog gl n0 3 XS tU):=by
 refine mN (dep:=60) (f:=22) (n0:=n0) (nB:=3) (H0:=H0) RX XP (cxg (A2T.2 A) (TH A)) A func22 XR XQ F6 F6 F6 ?_;intro us d outs m;have F:=m;unfold tU at m;split at m
 .skip;rename_i H n k I;have C:=C6.1 m;clear m;obtain⟨l,p,m⟩:=C;replace p:=K6 p;subst p;have B:=C6.1 m;clear m;obtain⟨x,q,m⟩:=B;replace q:=K6 q;subst q;split at m
  .rename_i t;clear m F;have r:k<n->vP ((el l).getD k.toNat default):=fun h=>t.2.2.2.2.1 _ (DE A9 A9)
   refine⟨rfl,?_⟩;unfold XP;refine w0 (.cons 3 _ (.cons 2 _ (.cons 1 _ (.cons 0 _ (.nil))))) ?_;repeat (first|refine w4 (fun g=>?_) fun g=>?_|refine KJ ?_|refine vN ?_|refine MW ?_|refine MX ?_|refine w1 (.get 5 0) (u:=.int .i64 _) (e:=X7 rfl A9 A9 rfl) (k':=?_)|refine w1 (.get 5 1) (u:=.int .i64 _) (e:=X7 rfl A9 A9 rfl) (k':=?_)|refine w1 (.get 5 2) (u:=.int .i64 _) (e:=X7 rfl A9 A9 rfl) (k':=?_)|refine w1 (.get 5 3) (u:=.int .i64 _) (e:=X7 rfl A9 A9 rfl) (k':=?_)|refine w1 (.get 5 4) (u:=.bool _) (e:=X7 rfl A9 A9 rfl) (k':=?_)|(refine w3 tV (e:=rA _ _ _ _ _ _ _ _ _ _ _ ⟨A9,by have z:=(AP (r A9));omega,by have z:=(AP (r A9));omega,by have z:=(AP (r A9));omega,by have z:=(AP (r A9));omega,by have z:=(AP (r A9));omega,by have z:=(AP (r A9));omega,by have z:=(AP (r A9));omega,by have z:=(AP (r A9));omega,t.2.2.2.2.2⟩) (k':=?_);show Wk _ _ (.cons _ _ (.cons _ _ (.cons _ _ (.cons _ _ _)))))|(refine w7 [.int .i64 _,E6 rR _,.int .i64 _,.int .i64 _,E6 rM _] ?_;rotate_left)|(refine w8 ?_;first|omega)|(refine w7 [.int .i64 _,E6 rM _] ?_;rotate_left))
   all_goals first
    | refine eE ?_ ?_
      .rw[show ∀ y:Int,y-0=y from fun y=>by omega,qZ l n (k+1) _ ⟨t.1,A9,A9,t.2.2.2.1,t.2.2.2.2.1,WU _ _ t.2.2.2.2.2⟩,qZ l n k x t,A06 (i:=k) A9 A9];rfl
      .rw[RW,RW];omega
    | refine O0 (d:=0) ?_
      rw[qZ l n k x t,A07 A9 A9]
  .cases m
 .cases m
noncomputable def WI:List LpE:=[(22,([true,true,false,true,false],u6 prog gl n0 3 XS tU))]
def fJ{G}(e:t7 G):fY prog G gl WI:=(.cons func22 XR XQ (A10 e) .nil)
noncomputable def A2a:gL:=⟨_,fun e=>.nil⟩
def JU:List U->Option (Nat×List U)
 | [u_l]=>(T5 rR u_l).bind fun l=>some (0,[E6 rR l,E6 rK none])
 | _=>none
def JT(l:(Option (List (Int×Int×Int×Int×Bool)))):JU [E6 rR l]=some (0,[E6 rR l,E6 rK none]):=by
 simp only[JU,L3,H4]
def YQ:J5:=⟨[(0,dat 1 0 15)],[(1,.frz)],1,[⟨.normal,[(0,dat 1 0 15),(2,own 2 1 13)],[(1,.frz),(2,.sq 1 13 45 3),(3,.frz)],2⟩]⟩
noncomputable def SQ:Code:=(f9.body).getD .skip
noncomputable def SP:Code:=(G4 [false] SQ).getD .skip
def A2F:f9.body=some SQ:=rfl
def A2D:G4 [false] SQ=some SP:=dV F6
def YO:Tr:=.dt 13 (.nilw 3) []<|.ret [jI 0,h 0 15,h 1 13]
def YP:J5.ok gl n0 12 f9.ntmps YQ=true:=F6
def A2E{G}(p:t7 G):nV prog G gl n0 12 f9.ntmps H0 YQ JU SP:=by
 refine nL (dep:=60) (f:=9) (n0:=n0) (nB:=12) (H0:=H0) YO (cxg (A2a.2 p) (fJ p)) p func9 A2F A2D YP F6 F6 ?_;intro us d outs n;have t:=n;unfold JU at n;split at n
 .skip;rename_i x;have q:=C6.1 n;clear n;obtain⟨l,m,n⟩:=q;replace m:=K6 m;subst m;clear n t;refine⟨rfl,?_⟩;unfold YO;refine w0 (.cons 0 _ (.nil)) ?_;repeat (first|refine w2 (.nilw 3) (r:=rK) (e:=DP rfl) (k':=?_)|(refine w7 [.int .i64 _,E6 rR _,E6 rK _] ?_;rotate_left))
  all_goals first
   | refine O0 (d:=0) ?_
     rw[JT l]
 .cases n
noncomputable def A2Z:gL:=⟨_,fun e=>(.cons (A1w e) .nil)⟩
def xP:List U->Option (Nat×List U)
 | [u_l,u_o]=>(T5 rR u_l).bind fun l=>(T5 rK u_o).bind fun o=>if((el l).length:Int)<=140737488351232/\(∀ r ∈ el l,rOk r)then if rsP (el l)then some (1,[E6 rR l,E6 rK o])else some (0,[E6 rK none,.int .i64 450])else none
 | _=>none
def rE(l:(Option (List (Int×Int×Int×Int×Bool))))(o:(Option (List (Int×Int×Int))))(e:((el l).length:Int)<=140737488351232/\(∀ r ∈ el l,rOk r)):xP [E6 rR l,E6 rK o]=if rsP (el l)then some (1,[E6 rR l,E6 rK o])else some (0,[E6 rK none,.int .i64 450]):=by
 simp only[xP,L3,H4];exact B2 e
def YN:J5:=⟨[(0,dat 1 0 15),(2,own 2 1 13)],[(1,.frz),(2,.sq 1 13 45 3),(3,.frz)],2,[⟨.ret,[(2,own 2 0 13),(3,h 1 3)],[(2,.sq 0 13 45 3),(3,.frz)],2⟩,⟨.normal,[(0,dat 1 0 15),(2,own 2 1 13)],[(1,.frz),(2,.sq 1 13 45 3),(3,.frz)],2⟩]⟩
noncomputable def SO:Code:=(f9.body).getD .skip
noncomputable def SM:Code:=(G4 [true,false] SO).getD .skip
def A2C:f9.body=some SO:=rfl
def A2B:G4 [true,false] SO=some SM:=dV F6
def YL:Tr:=.fn xJ [h 0 15] 1<|aN [h3 2,jI 0]<|.br 3 (.dt 13 (.nilw 3) []<|.ret [jI 0,h 4 13,h3 2]) (.ret [jI 1,h 0 15,h 1 13])
def SN:J5.ok gl n0 12 f9.ntmps YN=true:=F6
def YM{G}(q:t7 G):nV prog G gl n0 12 f9.ntmps H0 YN xP SM:=by
 refine nL (dep:=60) (f:=9) (n0:=n0) (nB:=12) (H0:=H0) YL (cxg (A2Z.2 q) (fJ q)) q func9 A2C A2B SN F6 F6 ?_;intro us d outs m;have y:=m;unfold xP at m;split at m
 .skip;rename_i E C;have x:=C6.1 m;clear m;obtain⟨l,p,m⟩:=x;replace p:=K6 p;subst p;have t:=C6.1 m;clear m;obtain⟨o,n,m⟩:=t;replace n:=K6 n;subst n;split at m
  .rename_i z;clear m y;have B:rsP (el l)->uZ (el l)=0:=fun h=>B2 h
   have A:¬rsP (el l)->uZ (el l)=450:=fun h=>B1 h
   refine⟨rfl,?_⟩;unfold YL;refine w0 (.cons 1 _ (.cons 0 _ (.nil))) ?_;repeat (first|refine w31 xJ (e:=VY _ z) (k':=?_)|refine ZC ?_|refine w4 (fun g=>?_) fun g=>?_|refine w2 (.nilw 3) (r:=rK) (e:=DP rfl) (k':=?_)|(refine w7 [.int .i64 _,E6 rK _,.int .i64 _] ?_;rotate_left)|(refine w7 [.int .i64 _,E6 rR _,E6 rK _] ?_;rotate_left))
   all_goals first
    | refine O0 (d:=0) ?_
      rw[rE l o z];by_cases h:rsP (el l)
      .exact absurd (B h) ‹_›
      .rw[B1 h,A h]
    | refine O0 (d:=1) ?_
      rw[rE l o z];by_cases h:rsP (el l)
      .rw[B2 h]
      .exfalso;have:=A h;omega
  .cases m
 .cases m
noncomputable def A2Y:gL:=⟨_,fun e=>.nil⟩
def JS:List U->Option (Nat×List U)
 | [u_l,u_o]=>(T5 rR u_l).bind fun l=>(T5 rK u_o).bind fun o=>if((el l).length:Int)<=140737488351232/\(∀ r ∈ el l,vP r)then some (0,[E6 rK o,E6 rM (ruL (el l) (some []))])else none
 | _=>none
def JR(l:(Option (List (Int×Int×Int×Int×Bool))))(o:(Option (List (Int×Int×Int))))(e:((el l).length:Int)<=140737488351232/\(∀ r ∈ el l,vP r)):JS [E6 rR l,E6 rK o]=some (0,[E6 rK o,E6 rM (ruL (el l) (some []))]):=by
 simp only[JS,L3,H4];exact B2 e
def YK:J5:=⟨[(0,dat 1 0 15),(2,own 2 1 13)],[(1,.frz),(2,.sq 1 13 45 3),(3,.frz)],2,[⟨.normal,[(2,own 2 0 13),(5,.pointer (some ⟨4,0,none⟩))],[(2,.sq 0 13 45 3),(4,.cm 55 [.map (some 5)]),(3,.frz),(5,.mm 1 14 55)],2⟩]⟩
noncomputable def SL:Code:=(f9.body).getD .skip
noncomputable def SK:Code:=(G4 [true,true,false] SL).getD .skip
def A2A:f9.body=some SL:=rfl
def A19:G4 [true,true,false] SL=some SK:=dV F6
def YI:Tr:=.dt 14 (.mk 4) []<|aD [h 0 15]<|.fn tU [h 0 15,h3 3,jI 0,h 2 14] 1<|.ret [jI 0,h 1 13,h 4 14]
def YJ:J5.ok gl n0 12 f9.ntmps YK=true:=F6
def A1_{G}(q:t7 G):nV prog G gl n0 12 f9.ntmps H0 YK JS SK:=by
 refine nL (dep:=60) (f:=9) (n0:=n0) (nB:=12) (H0:=H0) YI (cxg (A2Y.2 q) (fJ q)) q func9 A2A A19 YJ F6 F6 ?_;intro us d outs m;have y:=m;unfold JS at m;split at m
 .skip;rename_i h A;have x:=C6.1 m;clear m;obtain⟨l,p,m⟩:=x;replace p:=K6 p;subst p;have t:=C6.1 m;clear m;obtain⟨o,n,m⟩:=t;replace n:=K6 n;subst n;split at m
  .rename_i z;clear m y;have B:(el l).drop (0:Int).toNat=el l:=rfl;refine⟨rfl,?_⟩;unfold YI;refine w0 (.cons 1 _ (.cons 0 _ (.nil))) ?_;repeat (first|refine w2 (.mk 4) (r:=rM) (e:=A0R [] rfl L8 rfl) (k':=?_)|refine HF ?_|refine w31 tU (e:=qZ _ _ _ _ ⟨rfl,L8,A9,A9,z.2,Y7 _⟩) (k':=?_)|(refine w7 [.int .i64 _,E6 rK _,E6 rM _] ?_;rotate_left))
   all_goals first
    | refine O0 (d:=0) ?_
      rw[JR l o z];rfl
  .cases m
 .cases m
def isM(x:Option (List Mt))(r c:Int):Bool:=(el x).any (fun a=>(r == a.1) && ((c == a.2.1) && true))
def cnS(x:Option (List Mt))(dr dc r c:Int)(v h:Bool):Bool:=isM x (r+dr) (c+dc) && (if dr=0 then h || fH x (r+dr) (c+dc)else v || fV x (r+dr) (c+dc))
def A3A{x:Option (List Mt)}{r:Int}{h:Bool}(g:isM x (r+dr) (c+dc)=false):cnS x dr dc r c v h=false:=by unfold cnS;rw[g];rfl
def A2_{x:Option (List Mt)}{r:Int}{h:Bool}(g:isM x (r+dr) (c+dc)=true)(k:¬dr=0)(q:v=true):cnS x dr dc r c v h=true:=by unfold cnS;rw[g,B1 k,q];rfl
def A29{x:Option (List Mt)}{r:Int}{h:Bool}(g:isM x (r+dr) (c+dc)=true)(k:¬dr=0)(q:v=false):cnS x dr dc r c v h=fV x (r+dr) (c+dc):=by unfold cnS;rw[g,B1 k,q];rfl
def A3B{x:Option (List Mt)}{r:Int}{h:Bool}(g:isM x (r+dr) (c+dc)=true)(k:dr=0)(q:h=true):cnS x dr dc r c v h=true:=by unfold cnS;rw[g,B2 k,q];rfl
def A3C{x:Option (List Mt)}{r:Int}{h:Bool}(g:isM x (r+dr) (c+dc)=true)(k:dr=0)(q:h=false):cnS x dr dc r c v h=fH x (r+dr) (c+dc):=by unfold cnS;rw[g,B2 k,q];rfl
def mkS(x:Option (List Mt))(r c:Int)(v h:Bool):Int:=lD (cnS x (-1) 0 r c v h) (cnS x 1 0 r c v h) (cnS x 0 (-1) r c v h) (cnS x 0 1 r c v h)
def mkC(x:Option (List Mt))(r c:Int)(v h:Bool):Int:=if mkS x r c v h=0 then(if v=true then 0x2502 else 0x2500)else mkS x r c v h
def A2q{a:Bool}{r:Int}{h:Bool}{m:U}(k:a=b):[U.bool a,.int .i64 r,.int .i64 c,.bool v,.bool h,m]=[U.bool b,.int .i64 r,.int .i64 c,.bool v,.bool h,m]:=by rw[k]
noncomputable def A2Q:gL:=⟨_,fun e=>.nil⟩
def nJ:List U->Option (Nat×List U)
 | [.int .i64 dr,.int .i64 dc,.int .i64 r,.int .i64 c,.bool v,.bool h,u_x]=>(T5 rM u_x).bind fun x=>if 0<=r/\r<=40/\0<=c/\c<=80 /\ -1<=dr/\dr<=1 /\ -1<=dc/\dc<=1 then some (0,[.bool (cnS x dr dc r c v h),.int .i64 r,.int .i64 c,.bool v,.bool h,E6 rM x])else none
 | _=>none
def JI(dr:Int)(dc:Int)(r:Int)(c:Int)(v:Bool)(h:Bool)(x:(Option (List (Int×Int×Bool×Bool))))(e:0<=r/\r<=40/\0<=c/\c<=80 /\ -1<=dr/\dr<=1 /\ -1<=dc/\dc<=1):nJ [.int .i64 dr,.int .i64 dc,.int .i64 r,.int .i64 c,.bool v,.bool h,E6 rM x]=some (0,[.bool (cnS x dr dc r c v h),.int .i64 r,.int .i64 c,.bool v,.bool h,E6 rM x]):=by
 simp only[nJ,L3,H4];exact B2 e
def A1r:J5:=⟨[(0,h 0 3),(1,h 1 3),(2,.pointer (some ⟨4,0,none⟩)),(3,.pointer (some ⟨6,0,none⟩)),(4,.pointer (some ⟨7,0,none⟩))],[(4,.cells 55 [.map (some 5)]),(6,.cells 58 [h 2 3,h 3 3]),(7,.cells 60 [h 4 8,h 5 8]),(5,.mp 6 1014 55)],7,[⟨.ret,[(7,h 0 8),(2,.pointer (some ⟨4,0,none⟩)),(3,.pointer (some ⟨6,0,none⟩)),(4,.pointer (some ⟨7,0,none⟩))],[(4,.cells 55 [.map (some 5)]),(6,.cells 58 [h 1 3,h 2 3]),(7,.cells 60 [h 3 8,h 4 8]),(5,.mp 5 1014 55)],6⟩]⟩
noncomputable def A1s:Code:=(f23.body).getD .skip
def A1q:f23.body=some A1s:=rfl
def XG:Tr:=aA [h3 2,h3 0]<|aA [h3 3,h3 1]<|.lt 8 (.mget 4 2 2) [h 6 1014,.bool false,h3 7,h3 8]<|.lt 8 (.mget 4 2 3) [h 6 1014,.bool false,h3 7,h3 8]<|.lt 8 (.mhas 4 2) [h 6 1014,h3 7,h3 8]<|aN [h3 0,jI 0]<|.br 12 (.br 11 (.br 4 (.ret [jI 0,.bool true,h3 2,h3 3,h 4 8,h 5 8,h 6 1014]) (.ret [jI 0,h 9 8,h3 2,h3 3,h 4 8,h 5 8,h 6 1014])) (.ret [jI 0,.bool false,h3 2,h3 3,h 4 8,h 5 8,h 6 1014])) (.br 11 (.br 5 (.ret [jI 0,.bool true,h3 2,h3 3,h 4 8,h 5 8,h 6 1014]) (.ret [jI 0,h 10 8,h3 2,h3 3,h 4 8,h 5 8,h 6 1014])) (.ret [jI 0,.bool false,h3 2,h3 3,h 4 8,h 5 8,h 6 1014]))
def A1p{G}(p:t7 G):KF prog G gl 23 (PI prog f23 gl n0 10 A1r nJ):=by
 refine A0D (dep:=60) (f:=23) (n0:=n0) (nB:=10) (H0:=H0) XG (cxg (A2Q.2 p) (fJ p)) p func23 A1q F6 F6 F6 ?_;intro us d outs n;have t:=n;unfold nJ at n;split at n
 .skip;rename_i dr dc r c v h z;have q:=C6.1 n;clear n;obtain⟨x,m,n⟩:=q;replace m:=K6 m;subst m;split at n
  .rename_i A;clear n t;refine⟨rfl,?_⟩;unfold XG;refine w0 (.cons 6 _ (.cons 5 _ (.cons 4 _ (.cons 3 _ (.cons 2 _ (.cons 1 _ (.cons 0 _ (.nil)))))))) ?_;repeat (first|refine w4 (fun g=>?_) fun g=>?_|refine w4B (fun g=>?_) fun g=>?_|(refine w7 [.int .i64 _,.bool _,.int .i64 _,.int .i64 _,.bool _,.bool _,E6 rM _] ?_;rotate_left)|refine KJ ?_|refine vN ?_|refine w1x (.mget 4 2 2) (e:=nG U.bool (fun a=>(_ == a.1 && (_ == a.2.1 && true))) (fun a=>a.2.2.1) rfl rfl (fun _=>rfl) (fun _=>rfl)) (k':=?_)|refine w1x (.mget 4 2 3) (e:=nG U.bool (fun a=>(_ == a.1 && (_ == a.2.1 && true))) (fun a=>a.2.2.2) rfl rfl (fun _=>rfl) (fun _=>rfl)) (k':=?_)|refine w1x (.mhas 4 2) (e:=QP (fun a=>(_ == a.1 && (_ == a.2.1 && true))) rfl rfl (fun _=>rfl)) (k':=?_)|refine ZC ?_)
   all_goals first
    | refine O0 (d:=0) ?_
      rw[JI dr dc r c v h x A];refine U9 (fun y=>some (0,y)) (A2q ?_);first|exact A3A ‹_›|exact A2_ ‹_› A9 ‹_›|exact A29 ‹_› A9 ‹_›|exact A3B ‹_› A9 ‹_›|exact A3C ‹_› A9 ‹_›
  .cases n
 .cases n
def A1P{x:Option (List Mt)}{r:Int}{h:Bool}(g:lD (cnS x (-1) 0 r c v h) (cnS x 1 0 r c v h) (cnS x 0 (-1) r c v h) (cnS x 0 1 r c v h)=0)(q:v=true):mkC x r c v h=9474:=by
 unfold mkC mkS;rw[B2 g,B2 q]
def A1R{x:Option (List Mt)}{r:Int}{h:Bool}(g:lD (cnS x (-1) 0 r c v h) (cnS x 1 0 r c v h) (cnS x 0 (-1) r c v h) (cnS x 0 1 r c v h)=0)(q:v=false):mkC x r c v h=9472:=by
 unfold mkC mkS;rw[B2 g,B1 (by rw[q];decide)]
def A1Q{x:Option (List Mt)}{r:Int}{h:Bool}(g:¬lD (cnS x (-1) 0 r c v h) (cnS x 1 0 r c v h) (cnS x 0 (-1) r c v h) (cnS x 0 1 r c v h)=0):mkC x r c v h=lD (cnS x (-1) 0 r c v h) (cnS x 1 0 r c v h) (cnS x 0 (-1) r c v h) (cnS x 0 1 r c v h):=by
 unfold mkC mkS;rw[B1 g]
attribute [local irreducible] lD mkC cnS
noncomputable def A2X:gL:=⟨_,fun e=>(.consM (A1p e) (.cons (GN e) .nil))⟩
def JP:List U->Option (Nat×List U)
 | [u_o,u_x,.int .i64 r,.int .i64 c,.bool v,.bool h]=>(T5 rK u_o).bind fun o=>(T5 rM u_x).bind fun x=>if((el o).length:Int)<=100000000/\0<=r/\r<=40/\0<=c/\c<=80 then some (0,[E6 rK (some (el o++[(r,c,mkC x r c v h)])),E6 rM x])else none
 | _=>none
def JO(o:(Option (List (Int×Int×Int))))(x:(Option (List (Int×Int×Bool×Bool))))(r:Int)(c:Int)(v:Bool)(h:Bool)(e:((el o).length:Int)<=100000000/\0<=r/\r<=40/\0<=c/\c<=80):JP [E6 rK o,E6 rM x,.int .i64 r,.int .i64 c,.bool v,.bool h]=some (0,[E6 rK (some (el o++[(r,c,mkC x r c v h)])),E6 rM x]):=by
 simp only[JP,L3,H4];exact B2 e
def fX:J5:=⟨[(2,own 2 0 13),(5,.pointer (some ⟨4,0,none⟩)),(18,.pointer (some ⟨8,0,none⟩)),(21,.tuple ⟨[.agg ⟨[h 2 3,h 3 3]⟩,.agg ⟨[h 4 8,h 5 8]⟩]⟩)],[(2,.sq 0 13 45 3),(4,.cells 55 [.map (some 5)]),(8,.iter []),(3,.frz),(5,.mp 1 1014 55)],6,[⟨.normal,[(2,own 2 0 13),(5,.pointer (some ⟨4,0,none⟩)),(18,.pointer (some ⟨8,0,none⟩))],[(2,.sq 0 13 45 3),(4,.cells 55 [.map (some 5)]),(8,.iter []),(3,.frz),(5,.mp 1 1014 55)],2⟩]⟩
noncomputable def JQ:Code:=(f9.body).getD .skip
noncomputable def SI:Code:=(G4 [true,true,true,false,true,false,false,true,true,false,true] JQ).getD .skip
def A18:f9.body=some JQ:=rfl
def A16:G4 [true,true,true,false,true,false,false,true,true,false,true] JQ=some SI:=dV F6
noncomputable def kH:Array Oper:=match G4 [true,true,true,false,true,false,false,true,true,false,false] JQ with|some (.region _ o _)=>o|_=>#[]
def SJ(n:Nat):Tr:=aE [h3 30,jI 0]<|.br n (.dt 13 (.snoc 3) [h 0 13,h3 25,h3 26,jI 9472]<|.ret [jI 0,h (n+1) 13,h 29 1014]) (.dt 13 (.snoc 3) [h 0 13,h3 25,h3 26,h3 30]<|.ret [jI 0,h (n+1) 13,h 29 1014])
def YG:Tr:=.fn nJ [jI (-1),jI 0,h3 2,h3 3,h 4 8,h 5 8,h 1 1014] 6<|.fn nJ [jI 1,jI 0,h3 7,h3 8,h 9 8,h 10 8,h 11 1014] 6<|.fn nJ [jI 0,jI (-1),h3 13,h3 14,h 15 8,h 16 8,h 17 1014] 6<|.fn nJ [jI 0,jI 1,h3 19,h3 20,h 21 8,h 22 8,h 23 1014] 6<|.fn lC [h 6 8,h 12 8,h 18 8,h 24 8] 1<|aE [h3 30,jI 0]<|.br 31 (.br 27 (.dt 13 (.snoc 3) [h 0 13,h3 25,h3 26,jI 9474]<|.ret [jI 0,h 32 13,h 29 1014]) (SJ 32)) (SJ 32)
def YH:J5.ok gl n0 12 f9.ntmps fX=true:=F6
def A17{G}(t:t7 G):TJ prog G gl n0 12 f9.ntmps H0 fX JP kH (kH.toList.drop 1) SI:=by
 refine LX (dep:=60) (f:=9) (n0:=n0) (nB:=12) (H0:=H0) YG (cxg (A2X.2 t) .nil) t func9 A18 A16 YH F6 F6 ?_;intro us d outs m;have z:=m;unfold JP at m;split at m
 .skip;rename_i A B r c v h;have y:=C6.1 m;clear m;obtain⟨o,n,m⟩:=y;replace n:=K6 n;subst n;have q:=C6.1 m;clear m;obtain⟨x,p,m⟩:=q;replace p:=K6 p;subst p;split at m
  .rename_i C;clear m z;refine⟨rfl,?_⟩;unfold YG;refine w0 (.cons 5 _ (.cons 4 _ (.cons 3 _ (.cons 2 _ (.cons 1 _ (.cons 0 _ (.nil))))))) ?_;repeat (first|refine w4 (fun g=>?_) fun g=>?_|refine w4B (fun g=>?_) fun g=>?_|refine w2 (.snoc 3) (r:=rK) (e:=QN (a:=(_,_,_)) rfl rfl L8 (by simp[*]<;>omega)) (k':=?_)|(refine w7 [.int .i64 _,E6 rK _,E6 rM _] ?_;rotate_left)|(refine w3 nJ (e:=JI _ _ _ _ _ _ _ A9) (k':=?_);show Wk _ _ (.cons _ _ (.cons _ _ (.cons _ _ (.cons _ _ (.cons _ _ (.cons _ _ _)))))))|refine TP ?_|refine w31 lC (e:=DX _ _ _ _) (k':=?_))
   all_goals first
    | refine O0 (d:=0) ?_
      rw[JO o x r c v h C];first|(exact absurd ‹_› (by assumption:¬lD _ _ _ _=0))|rw[A1P ‹_› ‹_›]|rw[A1R ‹_› ‹_›]|rw[A1Q ‹_›]
  .cases m
 .cases m
noncomputable def A2W:gL:=⟨_,fun e=>.nil⟩
def JN:List U->Option (Nat×List U)
 | [u_o,u_x]=>(T5 rK u_o).bind fun o=>(T5 rM u_x).bind fun x=>some (0,[E6 rK o,.int .i64 0])
 | _=>none
def JM(o:(Option (List (Int×Int×Int))))(x:(Option (List (Int×Int×Bool×Bool)))):JN [E6 rK o,E6 rM x]=some (0,[E6 rK o,.int .i64 0]):=by
 simp only[JN,L3,H4]
def YF:J5:=⟨[(2,own 2 0 13)],[(2,.sq 0 13 45 3),(3,.frz)],2,[⟨.ret,[(2,own 2 0 13),(3,h 1 3)],[(2,.sq 0 13 45 3),(3,.frz)],2⟩]⟩
noncomputable def SH:Code:=(f9.body).getD .skip
noncomputable def xO:Code:=(G4 [true,true,true,true,true] SH).getD .skip
def A15:f9.body=some SH:=rfl
def A13:G4 [true,true,true,true,true] SH=some xO:=dV F6
def YD:Tr:=.ret [jI 0,h 0 13,jI 0]
def YE:J5.ok gl n0 12 f9.ntmps YF=true:=F6
def A14{G}(r:t7 G):nV prog G gl n0 12 f9.ntmps H0 YF JN xO:=by
 refine nL (dep:=60) (f:=9) (n0:=n0) (nB:=12) (H0:=H0) YD (cxg (A2W.2 r) .nil) r func9 A15 A13 YE F6 F6 ?_;intro us d outs m;have t:=m;unfold JN at m;split at m
 .skip;rename_i y z;have p:=C6.1 m;clear m;obtain⟨o,e,m⟩:=p;replace e:=K6 e;subst e;have q:=C6.1 m;clear m;obtain⟨x,n,m⟩:=q;replace n:=K6 n;subst n;clear m t;refine⟨rfl,?_⟩;unfold YD;refine w0 (.cons 1 _ (.cons 0 _ (.nil))) ?_;repeat (first|(refine w7 [.int .i64 _,E6 rK _,.int .i64 _] ?_;rotate_left))
  all_goals first
   | refine O0 (d:=0) ?_
     rw[JM o x]
 .cases m
end
section
open Go Go.Sx
def kM(a:Mt):Int×Int:=(a.1,a.2.1)
def A1C{a b:Mt}:qq a b=true↔kM a=kM b:=by
 unfold qq kM;simp[J0]
def OP{a:Mt}:∀ {R:List Mt},(mH qq a R).map kM=if kM a ∈ R.map kM then R.map kM else R.map kM++[kM a]
 | []=>rfl
 | b::R=>by
   unfold mH;cases f:qq a b with
   | true =>
     have e:=A1C.1 f;rw[B2 rfl,B8,B8,B2 (by rw[e];exact B4),e]
   | false =>
     have e:kM a≠kM b:=fun h=>by rw[A1C.2 h]at f;cases f
     rw[B1 L8,B8,B8,OP];by_cases h:kM a ∈ R.map kM
     .rw[B2 h,B2 (C5 _ h)]
     .rw[B1 h,B1 (by rw[A8];exact fun q=>q.elim e h)];rfl
def BT{a:Mt}:∀ {R:List Mt},(mH qq a R).length<=R.length+1
 | []=>A6 _
 | b::R=>by
   unfold mH;split
   .simp
   .have:=BT (a:=a) (R:=R);simp;omega
def BS{a:Mt}:∀ {R:List Mt} {z:Mt},z ∈ mH qq a R->z=a∨z ∈ R
 | [],z,h=>.inl (G7.1 h)
 | b::R,z,h=>by
   unfold mH at h;split at h
   .rcases A8.1 h with h|h
    .exact .inl h
    .exact .inr (C5 _ h)
   .rcases A8.1 h with h|h
    .exact .inr (by rw[h];exact B4)
    .rcases BS h with h|h
     .exact .inl h
     .exact .inr (C5 _ h)
structure GdM (n:Nat) (x:Option (List Mt)):Prop where
 nn:x≠none
 nd:((el x).map kM).Nodup
 bd:∀ a ∈ el x,0<=a.1/\a.1<40/\0<=a.2.1/\a.2.1<80
 le:(el x).length<=n
def GdM.st{n:Nat}{x:Option (List Mt)}(h:GdM n x){r:Int}(hr:0<=r/\r<40)(q:0<=c/\c<80):GdM (n+1) (stM x r c v):=by
 obtain⟨h1,p,h3,f⟩:=h;cases x with
 | none=>exact absurd rfl h1
 | some l =>
   refine⟨Y7 _,?_,fun a A=>?_,?_⟩
   .show((mH qq _ l).map kM).Nodup;rw[OP];split
    .exact p
    .rename_i t;exact dH.2 ⟨p,by simp,fun x z y m=>by rw[G7]at m;subst m;exact fun e=>t (e▸z)⟩
   .rcases BS (show a ∈ mH qq _ l from A)with rfl|h
    .exact⟨hr.1,hr.2,q.1,q.2⟩
    .exact h3 a h
   .have:=BT (a:=(r,c,fV (some l) r c || v,fH (some l) r c || !v)) (R:=l);have f:l.length<=n:=f;show(mH qq _ l).length<=n+1;omega
def GdM.co{r:Int} :∀ {m n:Nat} {j:Int} {x:Option (List Mt)},GdM n x->0<=r/\r<40->0<=c->0<=j->c+j+m<=80->GdM (n+m) (coN r c v m j x)
 | 0,n,j,x,h,_,_,_,_=>h
 | m+1,n,j,x,h,hr,hc,hj,hm=>by
   have:GdM (n+1+m) (coN r c v m (j+1) (stM x r (c+j) v)):=GdM.co (h.st (r:=r) (c:=c+j) (v:=v) hr ⟨A9,A9⟩) hr hc A9 (by push_cast at hm ⊢;omega);rw[show n+(m+1)=n+1+m by omega];exact this
def GdM.ro{r w:Int}(hw:0<=w)(f:0<=c)(e:c+w<=80):∀ {m n:Nat} {i:Int} {x:Option (List Mt)},GdM n x->0<=r->0<=i->r+i+m<=40->GdM (n+m*w.toNat) (roN r c w v m i x)
 | 0,n,i,x,h,_,_,_=>by rw[fM];exact h
 | m+1,n,i,x,h,hr,hi,hm=>by
   have h1:=h.co (r:=r+i) (c:=c) (v:=v) (m:=w.toNat) (j:=0) ⟨A9,by push_cast at hm;omega⟩ f A9 A9;have:GdM (n+w.toNat+m*w.toNat) (roN r c w v m (i+1) (coN (r+i) c v w.toNat 0 x)):=GdM.ro hw f e h1 hr A9 (by push_cast at hm ⊢;omega);rw[show n+(m+1)*w.toNat=n+w.toNat+m*w.toNat by rw[G1,dG];omega];exact this
def GdM.le_{n m:Nat}{x:Option (List Mt)}(h:GdM n x)(hm:n<=m):GdM m x:=⟨h.nn,h.nd,h.bd,B6 h.le hm⟩
def GdM.ru{n:Nat}{x:Option (List Mt)}(h:GdM n x){r:Rt}(e:vP r):GdM (n+80) (ruN x r):=by
 obtain⟨h0,h1,f,h3,q,t,p⟩:=e
 have:=h.ro (r:=r.1) (c:=r.2.1) (w:=r.2.2.2.1) (v:=r.2.2.2.2) A9 f A9 (m:=r.2.2.1.toNat) (i:=0) h1 A9 A9;refine this.le_ ?_;have hle:r.2.2.1.toNat*r.2.2.2.1.toNat<=80:=by
  split at h0
  .rw[h0];simp;omega
  .rw[h0];simp;omega
 omega
def GdM.rul:∀ {l:List Rt} {n:Nat} {x:Option (List Mt)},GdM n x->(∀ r ∈ l,vP r)->GdM (n+80*l.length) (ruL l x)
 | [],n,x,h,_=>h
 | r::l,n,x,h,hv=>by
   have:=GdM.rul (l:=l) (h.ru (hv r B4)) fun r hr=>hv r (C5 _ hr)
   rw[show n+80*(r::l).length=n+80+80*l.length by rw[I7];omega];exact this
def A1e{l:List Rt}(h:rsP l):GdM 5120 (ruL l (some [])) :=
 (GdM.rul (n:=0) (x:=some []) ⟨Y7 _,iV,(fun a e=>by cases e),A6 _⟩ h.2).le_ (by have:=h.1;omega)
def VE{x:Option (List Mt)}(h:((el x).map kM).Nodup){a:Mt}(e:a ∈ el x):fK x a.1 a.2.1=some a:=by
 unfold fK;generalize n:el x=l at *;clear n;induction l with
 | nil=>cases e
 | cons b l m =>
   rw[aV];rw[B8,gC]at h;rcases A8.1 e with rfl|e
   .simp
   .have:((a.1 == b.1) && ((a.2.1 == b.2.1) && true))=false:=by
     cases f:((a.1 == b.1) && ((a.2.1 == b.2.1) && true))with
     | false=>rfl
     | true =>
       exfalso;simp at f;exact h.1 (I6.2 ⟨a,e,by unfold kM;rw[f.1,f.2]⟩)
    rw[this];exact m h.2 e
def RM(x:Option (List Mt))(p:Int×Int):Int:=mkC x p.1 p.2 (fV x p.1 p.2) (fH x p.1 p.2)
def mark(x:Option (List Mt))(p:Int×Int):Kt:=(p.1,p.2,RM x p)
def UQ{x:Option (List Mt)}(h:((el x).map kM).Nodup){a:Mt}(e:a ∈ el x):((a.1,a.2.1,mkC x a.1 a.2.1 a.2.2.1 a.2.2.2):Kt)=mark x (kM a):=by
 have f:=VE h e;unfold mark RM fV fH kM;rw[f];rfl
end
end Go.Proofs.Ytjdnjfnhdeplfaa
namespace Go.Proofs
section
open Go.Shelf
def Try.lays122_ren:Go.Shelf.Ren:=⟨fun|122=>27|215=>37|n=>n,fun|3=>3|4=>4|n=>n,fun|n=>n⟩
def Try.lays122:Go.Proofs.Lays.n122 Try.prog Try.lays122_ren:={
 mixed:=F6
 f122:=dO Try.func27
 f215:=dO Try.func37
 t3:=Try.underlying3
 a3:=Try.isAgg3
 z3:=Try.sizeOf3
 v3:=Try.zeroValue3
 t4:=Try.underlying4
 a4:=Try.isAgg4
 z4:=Try.sizeOf4
 v4:=Try.zeroValue4 }
open Go.RowKit in
def Try.cmp_Compare_int(x y:Int)(w:World) :
  Calls Try.prog 27 #[.int .i64 x,.int .i64 y] w fun e w'=>e=.returned (.int .i64 (Lib.compareInt x y))/\w'=w:=Any.cmp_Compare_int Try.lays122 x y w
def Try.sortL_ren:Go.Shelf.Ren:=⟨fun|6=>24|15=>36|14=>35|28=>48|29=>49|20=>40|21=>41|22=>42|23=>43|24=>44|25=>45|26=>46|27=>47|46=>50|47=>51|48=>52|49=>53|50=>54|57=>55|n=>n,fun|22=>32|24=>45|25=>66|3=>3|39=>78|0=>0|53=>93|55=>95|4=>4|46=>86|45=>85|50=>90|5=>5|9=>9|66=>96|70=>100|76=>102|77=>103|n=>n,fun|n=>n⟩
def Try.sortL:Go.Proofs.SlLaysF0.n6 Try.prog Try.sortL_ren:={
 mixed:=F6
 f6:=⟨Try.f24.name,by decide,dO Try.func24⟩
 f14:=⟨Try.f35.name,by decide,dO Try.func35⟩
 f15:=dO Try.func36
 f20:=⟨Try.f40.name,by decide,dO Try.func40⟩
 f21:=⟨Try.f41.name,by decide,dO Try.func41⟩
 f22:=⟨Try.f42.name,by decide,dO Try.func42⟩
 f23:=⟨Try.f43.name,by decide,dO Try.func43⟩
 f24:=⟨Try.f44.name,by decide,dO Try.func44⟩
 f25:=⟨Try.f45.name,by decide,dO Try.func45⟩
 f26:=⟨Try.f46.name,by decide,dO Try.func46⟩
 f27:=⟨Try.f47.name,by decide,dO Try.func47⟩
 f28:=dO Try.func48
 f29:=dO Try.func49
 f46:=⟨Try.f50.name,by decide,dO Try.func50⟩
 f47:=dO Try.func51
 f48:=dO Try.func52
 f49:=⟨Try.f53.name,by decide,dO Try.func53⟩
 f50:=⟨Try.f54.name,by decide,dO Try.func54⟩
 f57:=⟨Try.f55.name,by decide,dO Try.func55⟩
 t0:=Try.underlying0
 a0:=Try.isAgg0
 z0:=Try.sizeOf0
 v0:=Try.zeroValue0
 t3:=Try.underlying3
 a3:=Try.isAgg3
 z3:=Try.sizeOf3
 v3:=Try.zeroValue3
 t4:=Try.underlying4
 a4:=Try.isAgg4
 z4:=Try.sizeOf4
 v4:=Try.zeroValue4
 t5:=Try.underlying5
 a5:=Try.isAgg5
 z5:=Try.sizeOf5
 v5:=Try.zeroValue5
 t9:=Try.underlying9
 a9:=Try.isAgg9
 z9:=Try.sizeOf9
 v9:=Try.zeroValue9
 t22:=Try.underlying32
 a22:=Try.isAgg32
 z22:=Try.sizeOf32
 v22:=Try.zeroValue32
 t25:=Try.underlying66
 a25:=Try.isAgg66
 z25:=Try.sizeOf66
 v25:=Try.zeroValue66
 t39:=Try.underlying78
 a39:=Try.isAgg78
 z39:=Try.sizeOf78
 v39:=Try.zeroValue78
 t45:=Try.underlying85
 a45:=Try.isAgg85
 z45:=Try.sizeOf85
 v45:=Try.zeroValue85
 t46:=Try.underlying86
 a46:=Try.isAgg86
 z46:=Try.sizeOf86
 v46:=Try.zeroValue86
 t50:=Try.underlying90
 a50:=Try.isAgg90
 z50:=Try.sizeOf90
 v50:=Try.zeroValue90
 t53:=Try.underlying93
 a53:=Try.isAgg93
 z53:=Try.sizeOf93
 v53:=Try.zeroValue93
 t55:=Try.underlying95
 a55:=Try.isAgg95
 z55:=Try.sizeOf95
 v55:=Try.zeroValue95
 t66:=Try.underlying96
 a66:=Try.isAgg96
 z66:=Try.sizeOf96
 v66:=Try.zeroValue96
 t70:=Try.underlying100
 a70:=Try.isAgg100
 z70:=Try.sizeOf100
 v70:=Try.zeroValue100
 t76:=Try.underlying102
 a76:=Try.isAgg102
 z76:=Try.sizeOf102
 v76:=Try.zeroValue102
 t77:=Try.underlying103
 a77:=Try.isAgg103
 z77:=Try.sizeOf103
 v77:=Try.zeroValue103 }
end
section
open Go.Shelf Go.RowKit Go.Lib Go.Sort
set_option maxHeartbeats 2000000 in
def A2w(b:Nat)(x y r:Int)(m:x≠0->r=x)(f:x=0->r=y)(W:World)(T:TypeId)(fr:Nat×Nat)(h:W.heap[b]? = some (.cells #[.int .i64 x,.int .i64 y] T fr)):Calls Try.prog 26 #[.slice (some ⟨b,0,none⟩) 2 2] W fun e w'=>e=.returned (.int .i64 r)/\w'=W:=by
 have h0:W.cell? ⟨b,0,none⟩=some (.int .i64 x):=by simp[World.cell?,h]
 have h1:W.cell? ⟨b,1,none⟩=some (.int .i64 y):=by simp[World.cell?,h]
 go_enter Try.func26,Try.ntmps26
 go_wp2
 refine wp_loop_rounds 3 ?_;rw[rounds_succ]
 go_wp2
 .go_ret
  exact⟨by rw[m (by simpa using(by assumption:(x != 0)=true))];rfl,rfl⟩
 have n:x=0:=by simpa using(by assumption:(x != 0)=false)
 rw[rounds_succ]
 go_wp2
 .go_ret
  exact⟨by rw[f n];rfl,rfl⟩
 have p:y=0:=by simpa using(by assumption:(y != 0)=false)
 rw[rounds_succ]
 go_wp2
 go_ret
 exact⟨by rw[f n,p];rfl,rfl⟩
end
end Go.Proofs
namespace Go.Proofs.Ytjdnjfnhdeplfaa
open Go Go.Sx Go.Sort Go.Shelf
variable {i j:Nat}{u v:Value}{args:Q0}{ks l':List (Int×Int)}
noncomputable def c25:Code:=(Try.f25.body).getD .skip
noncomputable def CC(q:List Bool)(c:Code):Array Oper:=match G4 q c with|some (.region _ o _)=>o|_=>#[]
noncomputable def GF(q:List Bool)(c:Code):Nat:=match G4 q c with|some (.region i _ _)=>i|_=>0
noncomputable def g1:Array Oper:=CC [false] c25
noncomputable def g2:Array Oper:=CC [true,false] c25
def A2G:Try.f25.body=some c25:=rfl
def A0l:c25=.seq (.region (GF [false] c25) g1 false) (.seq (.region (GF [true,false] c25) g2 true) .ret):=F6
def A1g:g1.toList=[g1.getD 0 default,g1.getD 1 default,g1.getD 2 default]:=F6
def mZ:g2.size=13:=F6
def A0L:((List.range 13).all fun i=>(g2.getD i default).after.toList.all fun e=>Nat.blt e.on i)=true:=F6
def XD(h:i<13):g2[i]? = some (g2.getD i default):=by
 have:i<g2.size:=by rw[mZ];exact h
 simp[B0,this]
def aT{o:Oper}{listed:Array Bool}(h:∀ e ∈ o.after.toList,Region.binds .any e=true->listed.getD e.on false=true)(j:Nat)(m:(o.after.toList.any fun e=>Nat.beq e.on j && Region.binds .any e)=true):listed.getD j false=true:=by
 obtain⟨e,h1,f⟩:=N2.1 m;obtain⟨f,h3⟩:=M2 f
 have:=h e h1 h3;rw[A0 f]at this;exact this
def yI{listed:Array Bool}(hi:i<listed.size):(listed.setIfInBounds i true).getD j false=if j=i then true else listed.getD j false:=by
 simp only[B0,D1];by_cases h:j=i
 .subst h;simp[hi]
 .rw[B1 (fun e=>h e.symm),B1 h]
structure MI (T:List (Nat×(Nat×Value))) (b2 b3:Nat) (c1 c2:Int) (W1:World) (listed:Array Bool) (a:Act) (w:World):Prop where
 sz:a.tmps.size=17
 df:a.defers=[]
 e2:a.eval (.tmp 2)=.pointer (some ⟨b2,0,none⟩)
 e3:a.eval (.tmp 3)=.pointer (some ⟨b3,0,none⟩)
 tb:∀ e ∈ T,listed.getD e.1 false=true->a.eval (.tmp e.2.1)=e.2.2
 ro:listed.getD 10 false=true->∃ b,a.eval (.tmp 15)=.slice (some ⟨b,0,none⟩) 2 2/\w.heap[b]? = some (.cells #[.int .i64 c1,.int .i64 c2] 3 (0,0))
 wd:∃ q os,w=grow (W1.drewN q) os
def tT(f e:Nat)(p q m n c1 c2 r:Int):List (Nat×(Nat×Value)):=[(0,(5,.pointer (some ⟨f,0,none⟩))),(1,(6,.int .i64 p)),(2,(7,.pointer (some ⟨e,0,none⟩))),(3,(8,.int .i64 m)),(4,(9,.int .i64 c1)),
 (5,(10,.pointer (some ⟨f,1,none⟩))),(6,(11,.int .i64 q)),(7,(12,.pointer (some ⟨e,1,none⟩))),(8,(13,.int .i64 n)),(9,(14,.int .i64 c2)),(11,(16,.int .i64 r)),(12,(4,.int .i64 r))]
def MI.put{T:List (Nat×(Nat×Value))}{r p:Nat}{c1 c2:Int}{t:World}{listed:Array Bool}{a:Act}{w:World}(h:MI T r p c1 c2 t listed a w){d:Nat}(hi:i<listed.size)(x:d<17)(z:d≠2)(h3:d≠3)(n:d≠15)(y:i≠10)
  (A:∀ e ∈ T,(e.1=i->e.2=(d,v))/\(e.1≠i->e.2.1≠d)):MI T r p c1 c2 t (listed.setIfInBounds i true) (a.put (some d) v) w:=by
 refine⟨by rw[o9];exact h.sz,h.df,by rw[W4 z];exact h.e2,by rw[W4 h3];exact h.e3,fun e he m=>?_,fun m=>?_,h.wd⟩
 .obtain⟨t1,t2⟩:=A e he;by_cases f:e.1=i
  .rw[t1 f];exact p7 (by rw[h.sz];exact x)
  .rw[W4 (fun q=>t2 f q.symm)];rw[yI hi,B1 f]at m;exact h.tb e he m
 .rw[yI hi,B1 (fun q=>y q.symm)]at m;rw[W4 n];exact h.ro m
def A1E(b f:Nat)(w:World):(Instr.fieldAt 45 (.pointer (some ⟨b,0,none⟩)) 0).run Try.prog w=.ok (.pointer (some ⟨b,0,none⟩)) w:=F6
def A1D(b f:Nat)(w:World):(Instr.fieldAt 45 (.pointer (some ⟨b,0,none⟩)) 1).run Try.prog w=.ok (.pointer (some ⟨b,1,none⟩)) w:=F6
def A3H(w:World):(isAgg 3).run Try.prog w=.ok false w:=F6
def yO{o:Oper}{a:Act}{w:World}{t x f:Nat}(e:o.op=.fieldAddr t (.tmp x) f)(m:a.eval (.tmp x)=u)(hr:(Instr.fieldAt t u f).run Try.prog w=.ok v w):(execOp a.eval o).run Try.prog w=.ok (.value v) w:=by
 unfold execOp;rw[e];simp[m,A3,hr,Result.andThen,Sem.run_pure]
def yN{o:Oper}{a:Act}{w:World}{x b s:Nat}(e:o.op=.load 3 (.tmp x))(m:a.eval (.tmp x)=.pointer (some ⟨b,s,none⟩))(f:w.cell? ⟨b,s,none⟩=some v):(execOp a.eval o).run Try.prog w=.ok (.value v) w:=by
 unfold execOp;rw[e];simp[m,Instr.loadAt,Instr.sureAddr,loadVar,A3,A3H,Result.andThen,run_load,f]
def ZV{o:Oper}{a:Act}{w:World}{x:Nat}(e:o.op=.assign (.tmp x))(f:a.eval (.tmp x)=v):(execOp a.eval o).run Try.prog w=.ok (.value v) w:=by
 unfold execOp;rw[e];show Sem.run _ (pure (Next.value (a.eval (.tmp x)))) w=_;rw[f];rfl
def ZT{o:Oper}{a:Act}{w:World}{x y:Nat}{c d:Int}(e:o.op=.buildSlice 79 2 #[(0,.tmp x),(1,.tmp y)])(f:a.eval (.tmp x)=.int .i64 c)(m:a.eval (.tmp y)=.int .i64 d):(execOp a.eval o).run Try.prog w=.ok (.value (.slice (some ⟨w.heap.size,0,none⟩) 2 2)) { w with heap:=w.heap.push (.cells #[.int .i64 c,.int .i64 d] 3 (0,0)) }:=by
 unfold execOp;rw[e];simp only[f,m,S7,B8,E3];have hr:(Instr.buildSlice 79 2 #[(0,.int .i64 c),(1,.int .i64 d)]).run Try.prog w=.ok (.slice (some ⟨w.heap.size,0,none⟩) 2 2) { w with heap:=w.heap.push (.cells #[.int .i64 c,.int .i64 d] 3 (0,0)) }:=F6;simp[A3,hr,Result.andThen,Sem.run_pure]
def q0:(g2.getD 0 default).op=.fieldAddr 45 (.tmp 2) 0/\(g2.getD 0 default).dst=some 5/\(g2.getD 0 default).guard=none:=⟨by kernel_rfl,by kernel_rfl,by kernel_rfl⟩
def q1:(g2.getD 1 default).op=.load 3 (.tmp 5)/\(g2.getD 1 default).dst=some 6/\(g2.getD 1 default).guard=none:=⟨by kernel_rfl,by kernel_rfl,by kernel_rfl⟩
def A28:((g2.getD 1 default).after.toList.any fun e=>Nat.beq e.on 0 && Region.binds .any e)=true:=F6
def q2:(g2.getD 2 default).op=.fieldAddr 45 (.tmp 3) 0/\(g2.getD 2 default).dst=some 7/\(g2.getD 2 default).guard=none:=⟨by kernel_rfl,by kernel_rfl,by kernel_rfl⟩
def q3:(g2.getD 3 default).op=.load 3 (.tmp 7)/\(g2.getD 3 default).dst=some 8/\(g2.getD 3 default).guard=none:=⟨by kernel_rfl,by kernel_rfl,by kernel_rfl⟩
def A27:((g2.getD 3 default).after.toList.any fun e=>Nat.beq e.on 2 && Region.binds .any e)=true:=F6
noncomputable def ty4:Array TypeId:=match (g2.getD 4 default).op with|.call c=>c.argTypes|_=>#[]
def q4:(g2.getD 4 default).op=.call ⟨.value (.func 27),#[.tmp 6,.tmp 8],ty4⟩/\(g2.getD 4 default).dst=some 9/\(g2.getD 4 default).guard=none:=⟨by kernel_rfl,by kernel_rfl,by kernel_rfl⟩
def A26:((g2.getD 4 default).after.toList.any fun e=>Nat.beq e.on 1 && Region.binds .any e)=true:=F6
def A25:((g2.getD 4 default).after.toList.any fun e=>Nat.beq e.on 3 && Region.binds .any e)=true:=F6
def q5:(g2.getD 5 default).op=.fieldAddr 45 (.tmp 2) 1/\(g2.getD 5 default).dst=some 10/\(g2.getD 5 default).guard=none:=⟨by kernel_rfl,by kernel_rfl,by kernel_rfl⟩
def q6:(g2.getD 6 default).op=.load 3 (.tmp 10)/\(g2.getD 6 default).dst=some 11/\(g2.getD 6 default).guard=none:=⟨by kernel_rfl,by kernel_rfl,by kernel_rfl⟩
def A24:((g2.getD 6 default).after.toList.any fun e=>Nat.beq e.on 5 && Region.binds .any e)=true:=F6
def q7:(g2.getD 7 default).op=.fieldAddr 45 (.tmp 3) 1/\(g2.getD 7 default).dst=some 12/\(g2.getD 7 default).guard=none:=⟨by kernel_rfl,by kernel_rfl,by kernel_rfl⟩
def q8:(g2.getD 8 default).op=.load 3 (.tmp 12)/\(g2.getD 8 default).dst=some 13/\(g2.getD 8 default).guard=none:=⟨by kernel_rfl,by kernel_rfl,by kernel_rfl⟩
def A23:((g2.getD 8 default).after.toList.any fun e=>Nat.beq e.on 7 && Region.binds .any e)=true:=F6
noncomputable def ty9:Array TypeId:=match (g2.getD 9 default).op with|.call c=>c.argTypes|_=>#[]
def q9:(g2.getD 9 default).op=.call ⟨.value (.func 27),#[.tmp 11,.tmp 13],ty9⟩/\(g2.getD 9 default).dst=some 14/\(g2.getD 9 default).guard=none:=⟨by kernel_rfl,by kernel_rfl,by kernel_rfl⟩
def A22:((g2.getD 9 default).after.toList.any fun e=>Nat.beq e.on 6 && Region.binds .any e)=true:=F6
def A21:((g2.getD 9 default).after.toList.any fun e=>Nat.beq e.on 8 && Region.binds .any e)=true:=F6
def q10:(g2.getD 10 default).op=.buildSlice 79 2 #[(0,.tmp 9),(1,.tmp 14)]/\(g2.getD 10 default).dst=some 15/\(g2.getD 10 default).guard=none:=⟨by kernel_rfl,by kernel_rfl,by kernel_rfl⟩
def A1l:((g2.getD 10 default).after.toList.any fun e=>Nat.beq e.on 4 && Region.binds .any e)=true:=F6
def A1k:((g2.getD 10 default).after.toList.any fun e=>Nat.beq e.on 9 && Region.binds .any e)=true:=F6
noncomputable def A2j:Array TypeId:=match (g2.getD 11 default).op with|.call c=>c.argTypes|_=>#[]
def q11:(g2.getD 11 default).op=.call ⟨.value (.func 26),#[.tmp 15],A2j⟩/\(g2.getD 11 default).dst=some 16/\(g2.getD 11 default).guard=none:=⟨by kernel_rfl,by kernel_rfl,by kernel_rfl⟩
def A0g:((g2.getD 11 default).after.toList.any fun e=>Nat.beq e.on 10 && Region.binds .any e)=true:=F6
def q12:(g2.getD 12 default).op=.assign (.tmp 16)/\(g2.getD 12 default).dst=some 4/\(g2.getD 12 default).guard=none:=⟨by kernel_rfl,by kernel_rfl,by kernel_rfl⟩
def A0f:((g2.getD 12 default).after.toList.any fun e=>Nat.beq e.on 11 && Region.binds .any e)=true:=F6
def r2(c1 c2:Int):Int:=if c1=0 then c2 else c1
def A1y{w:World}:(callFunc 27 args).run Try.prog w=.ok (.enter 27 args) w:=r9 Try.func27 rfl F6
def A3D{w:World}:(callFunc 26 args).run Try.prog w=.ok (.enter 26 args) w:=r9 Try.func26 rfl F6
def RO{c1 c2:Int}{L J:Nat}{A F X C B S:Int}{E:World}(V:E.heap[L]? = some (.cells #[.int .i64 A,.int .i64 F,.int .i64 X] 45 (0,0)))(h3:E.heap[J]? = some (.cells #[.int .i64 C,.int .i64 B,.int .i64 S] 45 (0,0)))
  (N:∀ W,Calls Try.prog 27 #[.int .i64 A,.int .i64 C] W fun e w'=>e=.returned (.int .i64 c1)/\w'=W) (O:∀ W,Calls Try.prog 27 #[.int .i64 F,.int .i64 B] W fun e w'=>e=.returned (.int .i64 c2)/\w'=W)
  {Q:Exit->Act->World->Prop} (listed:Array Bool) (a:Act) (w:World) (i:Nat) (o:Oper) (Y:listed.size=g2.size) (inv:MI (tT L J A F C B c1 c2 (r2 c1 c2)) L J c1 c2 E listed a w) (p:g2[i]? = some o) (Z:listed.getD i false=false)
  (r:∀ e ∈ o.after.toList,Region.binds .any e=true->listed.getD e.on false=true):i5 Try.prog none g2 Q i (MI (tT L J A F C B c1 c2 (r2 c1 c2)) L J c1 c2 E (listed.setIfInBounds i true)) a w:=by
 have hi:i<13:=by rw[<- mZ];exact(B5.1 p).1
 have f:i<listed.size:=by rw[Y,mZ];exact hi
 have x:=p;rw[XD hi]at x;have x:=A5 x;subst x;obtain⟨q,os,hw⟩:=inv.wd;have R:∀ (b:Nat) (o:Obj),E.heap[b]? = some o->w.heap[b]? = some o:=fun b o h=>by
  rw[hw];show(E.heap++os)[b]? = _;rw[I8 (B5.1 h).1];exact h
 have w2:=R _ _ V;have w3:=R _ _ h3;have t:i=0∨i=1∨i=2∨i=3∨i=4∨i=5∨i=6∨i=7∨i=8∨i=9∨i=10∨i=11∨i=12:=by omega
 rcases t with rfl|rfl|rfl|rfl|rfl|rfl|rfl|rfl|rfl|rfl|rfl|rfl|rfl
 .obtain⟨p1,m,n⟩:=q0;refine Z0 p n (by unfold Oper.about;rw[p1]) (fun c=>by rw[p1];exact fun h=>by cases h) (yO p1 inv.e2 (A1E _ 0 _)) ?_;rw[m];exact inv.put f (by decide) (by decide) (by decide) (by decide) (by decide) (by intro e he;simp only[tT,A8,C3,or_false]at he;rcases he with rfl|rfl|rfl|rfl|rfl|rfl|rfl|rfl|rfl|rfl|rfl|rfl<;>simp)
 .obtain⟨p1,m,n⟩:=q1;have z:=(inv.tb _ (by simp only[tT,A8];exact .inl rfl) (aT r 0 A28));refine Z0 p n (by unfold Oper.about;rw[p1]) (fun c=>by rw[p1];exact fun h=>by cases h) (yN (v:=.int .i64 A) p1 z (by simp[World.cell?,w2])) ?_;rw[m];exact inv.put f (by decide) (by decide) (by decide) (by decide) (by decide) (by intro e he;simp only[tT,A8,C3,or_false]at he;rcases he with rfl|rfl|rfl|rfl|rfl|rfl|rfl|rfl|rfl|rfl|rfl|rfl<;>simp)
 .obtain⟨p1,m,n⟩:=q2;refine Z0 p n (by unfold Oper.about;rw[p1]) (fun c=>by rw[p1];exact fun h=>by cases h) (yO p1 inv.e3 (A1E _ 0 _)) ?_;rw[m];exact inv.put f (by decide) (by decide) (by decide) (by decide) (by decide) (by intro e he;simp only[tT,A8,C3,or_false]at he;rcases he with rfl|rfl|rfl|rfl|rfl|rfl|rfl|rfl|rfl|rfl|rfl|rfl<;>simp)
 .obtain⟨p1,m,n⟩:=q3;have z:=(inv.tb _ (by simp only[tT,A8];exact .inr (.inr (.inl rfl))) (aT r 2 A27));refine Z0 p n (by unfold Oper.about;rw[p1]) (fun c=>by rw[p1];exact fun h=>by cases h) (yN (v:=.int .i64 C) p1 z (by simp[World.cell?,w3])) ?_;rw[m];exact inv.put f (by decide) (by decide) (by decide) (by decide) (by decide) (by intro e he;simp only[tT,A8,C3,or_false]at he;rcases he with rfl|rfl|rfl|rfl|rfl|rfl|rfl|rfl|rfl|rfl|rfl|rfl<;>simp)
 .obtain⟨p1,m,n⟩:=q4;have y:=(inv.tb _ (by simp only[tT,A8];exact .inr (.inl rfl)) (aT r 1 A26));have z2:=(inv.tb _ (by simp only[tT,A8];exact .inr (.inr (.inr (.inl rfl)))) (aT r 3 A25));refine kK p n p1 (args:=#[.int .i64 A,.int .i64 C]) (by simp only[S7,B8,E3,y,z2]) A1y ((N w).mono fun e w' ⟨I,M⟩=>⟨_,I,?_⟩);rw[m,M];exact inv.put f (by decide) (by decide) (by decide) (by decide) (by decide) (by intro e he;simp only[tT,A8,C3,or_false]at he;rcases he with rfl|rfl|rfl|rfl|rfl|rfl|rfl|rfl|rfl|rfl|rfl|rfl<;>simp)
 .obtain⟨p1,m,n⟩:=q5;refine Z0 p n (by unfold Oper.about;rw[p1]) (fun c=>by rw[p1];exact fun h=>by cases h) (yO p1 inv.e2 (A1D _ 0 _)) ?_;rw[m];exact inv.put f (by decide) (by decide) (by decide) (by decide) (by decide) (by intro e he;simp only[tT,A8,C3,or_false]at he;rcases he with rfl|rfl|rfl|rfl|rfl|rfl|rfl|rfl|rfl|rfl|rfl|rfl<;>simp)
 .obtain⟨p1,m,n⟩:=q6;have z:=(inv.tb _ (by simp only[tT,A8];exact .inr (.inr (.inr (.inr (.inr (.inl rfl)))))) (aT r 5 A24));refine Z0 p n (by unfold Oper.about;rw[p1]) (fun c=>by rw[p1];exact fun h=>by cases h) (yN (v:=.int .i64 F) p1 z (by simp[World.cell?,w2])) ?_;rw[m];exact inv.put f (by decide) (by decide) (by decide) (by decide) (by decide) (by intro e he;simp only[tT,A8,C3,or_false]at he;rcases he with rfl|rfl|rfl|rfl|rfl|rfl|rfl|rfl|rfl|rfl|rfl|rfl<;>simp)
 .obtain⟨p1,m,n⟩:=q7;refine Z0 p n (by unfold Oper.about;rw[p1]) (fun c=>by rw[p1];exact fun h=>by cases h) (yO p1 inv.e3 (A1D _ 0 _)) ?_;rw[m];exact inv.put f (by decide) (by decide) (by decide) (by decide) (by decide) (by intro e he;simp only[tT,A8,C3,or_false]at he;rcases he with rfl|rfl|rfl|rfl|rfl|rfl|rfl|rfl|rfl|rfl|rfl|rfl<;>simp)
 .obtain⟨p1,m,n⟩:=q8;have z:=(inv.tb _ (by simp only[tT,A8];exact .inr (.inr (.inr (.inr (.inr (.inr (.inr (.inl rfl)))))))) (aT r 7 A23));refine Z0 p n (by unfold Oper.about;rw[p1]) (fun c=>by rw[p1];exact fun h=>by cases h) (yN (v:=.int .i64 B) p1 z (by simp[World.cell?,w3])) ?_;rw[m];exact inv.put f (by decide) (by decide) (by decide) (by decide) (by decide) (by intro e he;simp only[tT,A8,C3,or_false]at he;rcases he with rfl|rfl|rfl|rfl|rfl|rfl|rfl|rfl|rfl|rfl|rfl|rfl<;>simp)
 .obtain⟨p1,m,n⟩:=q9;have y:=(inv.tb _ (by simp only[tT,A8];exact .inr (.inr (.inr (.inr (.inr (.inr (.inl rfl))))))) (aT r 6 A22));have z2:=(inv.tb _ (by simp only[tT,A8];exact .inr (.inr (.inr (.inr (.inr (.inr (.inr (.inr (.inl rfl))))))))) (aT r 8 A21));refine kK p n p1 (args:=#[.int .i64 F,.int .i64 B]) (by simp only[S7,B8,E3,y,z2]) A1y ((O w).mono fun e w' ⟨I,M⟩=>⟨_,I,?_⟩);rw[m,M];exact inv.put f (by decide) (by decide) (by decide) (by decide) (by decide) (by intro e he;simp only[tT,A8,C3,or_false]at he;rcases he with rfl|rfl|rfl|rfl|rfl|rfl|rfl|rfl|rfl|rfl|rfl|rfl<;>simp)
 .obtain⟨p1,m,n⟩:=q10;have y:=(inv.tb _ (by simp only[tT,A8];exact .inr (.inr (.inr (.inr (.inl rfl))))) (aT r 4 A1l));have z2:=(inv.tb _ (by simp only[tT,A8];exact .inr (.inr (.inr (.inr (.inr (.inr (.inr (.inr (.inr (.inl rfl)))))))))) (aT r 9 A1k));refine Z0 p n (by unfold Oper.about;rw[p1]) (fun c=>by rw[p1];exact fun h=>by cases h) (ZT p1 y z2) ?_;rw[m];refine⟨by rw[o9];exact inv.sz,inv.df,by rw[W4 (by decide)];exact inv.e2,by rw[W4 (by decide)];exact inv.e3,fun e he K=>?_,fun _=>⟨_,p7 (by rw[inv.sz];decide),by simp⟩,q,os++#[.cells #[.int .i64 c1,.int .i64 c2] 3 (0,0)],?_⟩
  .have H:e.1≠10/\15≠e.2.1:=by
    simp only[tT,A8,C3,or_false]at he;rcases he with rfl|rfl|rfl|rfl|rfl|rfl|rfl|rfl|rfl|rfl|rfl|rfl<;>simp
   rw[yI f,B1 H.1]at K;rw[W4 H.2];exact inv.tb e he K
  .rw[<- grow_grow,<- hw];exact alloc_eq_grow _ _
 .obtain⟨p1,m,n⟩:=q11;obtain⟨b,y,z2⟩:=inv.ro (aT r 10 A0g);refine kK p n p1 (args:=#[.slice (some ⟨b,0,none⟩) 2 2]) (by simp only[S7,B8,E3,y]) A3D ((A2w b c1 c2 (r2 c1 c2) (fun h=>B1 h) (fun h=>B2 h) w 3 (0,0) z2).mono fun e w' ⟨I,M⟩=>⟨_,I,?_⟩);rw[m,M];exact inv.put f (by decide) (by decide) (by decide) (by decide) (by decide) (by intro e he;simp only[tT,A8,C3,or_false]at he;rcases he with rfl|rfl|rfl|rfl|rfl|rfl|rfl|rfl|rfl|rfl|rfl|rfl<;>simp)
 .obtain⟨p1,m,n⟩:=q12;have z:=inv.tb (11,(16,.int .i64 (r2 c1 c2))) (by simp[tT]) (aT r 11 A0f);refine Z0 p n (by unfold Oper.about;rw[p1]) (fun c=>by rw[p1];exact fun h=>by cases h) (ZV (v:=.int .i64 (r2 c1 c2)) p1 z) ?_;rw[m];exact inv.put f (by decide) (by decide) (by decide) (by decide) (by decide) (by intro e he;simp only[tT,A8,C3,or_false]at he;rcases he with rfl|rfl|rfl|rfl|rfl|rfl|rfl|rfl|rfl|rfl|rfl|rfl<;>simp)
def A2z:(g1.getD 0 default).op=.box 45 (.tmp 0)/\(g1.getD 0 default).dst=some 2/\(g1.getD 0 default).guard=none:=⟨by kernel_rfl,by kernel_rfl,by kernel_rfl⟩
def A2y:(g1.getD 1 default).op=.box 45 (.tmp 1)/\(g1.getD 1 default).dst=some 3/\(g1.getD 1 default).guard=none:=⟨by kernel_rfl,by kernel_rfl,by kernel_rfl⟩
noncomputable def z0:Operand:=match (g1.getD 2 default).op with|.assign x=>x|_=>default
def A2x:(g1.getD 2 default).op=.assign z0/\(g1.getD 2 default).dst=some 4/\(g1.getD 2 default).guard=none:=⟨by kernel_rfl,by kernel_rfl,by kernel_rfl⟩
def OE{o:Oper}{a:Act}{w:World}{x:Nat}{vs:D0}(e:o.op=.box 45 (.tmp x))(f:a.eval (.tmp x)=.agg vs.toArray):(execOp a.eval o).run Try.prog w=.ok (.value (.pointer (some ⟨w.heap.size,0,none⟩))) { w with heap:=w.heap.push (.cells vs.toArray 45 (0,0)) }:=by
 unfold execOp;rw[e];simp only[f];rfl
def ZU{o:Oper}{a:Act}{w:World}{x:Operand}(e:o.op=.assign x):(execOp a.eval o).run Try.prog w=.ok (.value (a.eval x)) w:=by
 unfold execOp;rw[e];rfl
set_option maxHeartbeats 4000000 in
def xI(f m t p n x:Int)(W:World):Calls Try.prog 25 #[.agg #[.int .i64 f,.int .i64 m,.int .i64 t],.agg #[.int .i64 p,.int .i64 n,.int .i64 x]] W fun e w'=>e=.returned (.int .i64 (r2 (Lib.compareInt f p) (Lib.compareInt m n)))/\∃ q K,w'=grow (W.drewN q) K:=by
 refine Go.Sx.calls_of_wp Try.func25 A2G ?_;rw[A0l];obtain⟨a0,r⟩:∃ a0:Act,a0={ tmps:=#[.agg #[.int .i64 f,.int .i64 m,.int .i64 t],.agg #[.int .i64 p,.int .i64 n,.int .i64 x]]++Array.replicate (Try.f25.ntmps-2) undef,defers:=[] }:=⟨_,rfl⟩;have J:Try.f25.ntmps=17:=F6;have s0:a0.tmps.size=17:=by rw[r,J];rfl
 have O:a0.eval (.tmp 0)=.agg #[.int .i64 f,.int .i64 m,.int .i64 t]:=by rw[r,J];rfl
 have M:a0.eval (.tmp 1)=.agg #[.int .i64 p,.int .i64 n,.int .i64 x]:=by rw[r,J];rfl
 have d0:a0.defers=[]:=by rw[r]
 show Code.wpIn _ _ _ _ _ { tmps:=#[.agg #[.int .i64 f,.int .i64 m,.int .i64 t],.agg #[.int .i64 p,.int .i64 n,.int .i64 x]]++Array.replicate (Try.f25.ntmps-2) undef,defers:=[] } W;rw[<- r];clear r;refine wpIn_seq (Q6 ?_);rw[A1g];obtain⟨p1,F,H⟩:=A2z;refine dJ H (by unfold Oper.about;rw[p1]) (fun c=>by rw[p1];exact fun h=>by cases h) (OE (vs:=[.int .i64 f,.int .i64 m,.int .i64 t]) p1 O) ?_;rw[F];obtain⟨p1,F,H⟩:=A2y;refine dJ H (by unfold Oper.about;rw[p1]) (fun c=>by rw[p1];exact fun h=>by cases h) (OE (vs:=[.int .i64 p,.int .i64 n,.int .i64 x]) p1 (by rw[W4 (by decide)];exact M)) ?_;rw[F];obtain⟨p1,F,H⟩:=A2x;refine dJ H (by unfold Oper.about;rw[p1]) (fun c=>by rw[p1];exact fun h=>by cases h) (ZU p1) ?_;rw[F];obtain⟨z,X⟩:∃ z,z=((a0.put (some 2) (.pointer (some ⟨W.heap.size,0,none⟩))).put (some 3) (.pointer (some ⟨(W.heap.push (.cells #[.int .i64 f,.int .i64 m,.int .i64 t] 45 (0,0))).size,0,none⟩))).eval z0:=⟨_,rfl⟩;obtain⟨C,y⟩:∃ C:World,C={ W with heap:=(W.heap.push (.cells #[.int .i64 f,.int .i64 m,.int .i64 t] 45 (0,0))).push (.cells #[.int .i64 p,.int .i64 n,.int .i64 x] 45 (0,0)) }:=⟨_,rfl⟩;have R:C.heap[W.heap.size]? = some (.cells #[.int .i64 f,.int .i64 m,.int .i64 t] 45 (0,0)):=by
  rw[y];show((W.heap.push _).push _)[W.heap.size]? = _;rw[K4,B1 (by simp),K4,B2 rfl]
 have h3:C.heap[W.heap.size+1]? = some (.cells #[.int .i64 p,.int .i64 n,.int .i64 x] 45 (0,0)):=by
  rw[y];show((W.heap.push _).push _)[W.heap.size+1]? = _;rw[K4,B2 (by simp)]
 have L:C=grow W #[.cells #[.int .i64 f,.int .i64 m,.int .i64 t] 45 (0,0),.cells #[.int .i64 p,.int .i64 n,.int .i64 x] 45 (0,0)]:=by
  rw[y];exact U9 (fun h=>({ W with heap:=h }:World)) (by apply H7;simp)
 show Exit.then _ _ Exit.normal _ _;refine wpIn_seq (rL (rd:=none) IF (MI (tT W.heap.size (W.heap.size+1) f m p n (Lib.compareInt f p) (Lib.compareInt m n) (r2 (Lib.compareInt f p) (Lib.compareInt m n))) W.heap.size (W.heap.size+1) (Lib.compareInt f p) (Lib.compareInt m n) C)
  (fun i o A e he=>?_) (fun listed a w i o S inv A B N=>RO R h3 (fun V=>Try.cmp_Compare_int f p V) (fun V=>Try.cmp_Compare_int m n V) listed a w i o S inv A B N) (fun listed a w inv E=>?_) ?_)
 .have hi:i<13:=by rw[<- mZ];exact(B5.1 A).1
  rw[XD hi]at A;have A:=A5 A;subst A;exact A1 (D2.1 (D2.1 A0L i (X0.2 hi)) e he)
 .refine wpIn_ret ?_;refine⟨.inr rfl,inv.df,?_⟩;have I:=inv.tb (12,(4,.int .i64 (r2 (Lib.compareInt f p) (Lib.compareInt m n)))) (by simp[tT]) (E 12 (by rw[mZ];decide));refine⟨.int .i64 (r2 (Lib.compareInt f p) (Lib.compareInt m n)),?_,rfl,?_⟩
  .have:=results_tmp (P:=Try.prog) (fn:=Try.f25) rfl a.tmps w;rw[this];have I:a.tmps.getD 4 undef=.int .i64 (r2 (Lib.compareInt f p) (Lib.compareInt m n)):=I;rw[I]
  .obtain⟨q,os,hw⟩:=inv.wd;refine⟨q,#[.cells #[.int .i64 f,.int .i64 m,.int .i64 t] 45 (0,0),.cells #[.int .i64 p,.int .i64 n,.int .i64 x] 45 (0,0)]++os,?_⟩;rw[hw,L,<- grow_grow];rfl
 .refine⟨by rw[o9,o9,o9];exact s0,d0,by rw[W4 (by decide),W4 (by decide),p7 (by rw[s0];decide)],?_,fun e he B=>?_,fun B=>?_,1,#[],?_⟩
  .rw[W4 (by decide),p7 (by rw[o9,s0];decide)];simp
  .exfalso;have:(Array.replicate g2.size false).getD e.1 false=false:=by simp[B0,R8];split<;>rfl
   rw[this]at B;cases B
  .exfalso;have:(Array.replicate g2.size false).getD 10 false=false:=by simp[B0,R8];split<;>rfl
   rw[this]at B;cases B
  .rw[y];simp[grow,World.drewN]
#print axioms xI
open Go Go.Sx Go.Sort Go.Shelf Go.Proofs
def cfP(p q:Int×Int):Int:=r2 (Lib.compareInt p.1 q.1) (Lib.compareInt p.2 q.2)
def ltP(p q:Int×Int):Prop:=p.1<q.1∨(p.1=q.1/\p.2<q.2)
instance(p q:Int×Int):Decidable (ltP p q):=by unfold ltP;infer_instance
def jK(p q:Int×Int):ltOf cfP p q=decide (ltP p q):=by
 unfold ltOf;refine decide_eq_decide.2 ?_;unfold cfP r2 Lib.compareInt ltP;by_cases h1:p.1<q.1
 .simp[h1]
 .by_cases f:p.1>q.1
  .have:¬p.1=q.1:=A9;simp[h1,f,this]
  .have e:p.1=q.1:=A9;by_cases h3:p.2<q.2
   .simp[e,h3]
   .by_cases m:p.2>q.2<;>simp[e,h3,m]
def A1U{p q:Int×Int}(h:ltOf cfP p q=true):ltP p q:=I9 ((jK p q).symm.trans h)
def UR{p q:Int×Int}(h:ltOf cfP p q=false):¬ltP p q:=of_decide_eq_false ((jK p q).symm.trans h)
def A2p:SWO (ltOf cfP) where
 irrefl x:=by rw[jK];simp[ltP]
 trans x y z h1 e:=by
  have h1:=A1U h1;have e:=A1U e;rw[jK];refine cO ?_;unfold ltP at *;omega
 ntrans x y z h1 e:=by
  have h1:=UR h1;have e:=UR e;rw[jK];refine U8 ?_;unfold ltP at *;omega
def A2l(x y:Int×Int)(h1:ltOf cfP x y=false)(e:ltOf cfP y x=false):x=y:=by
 have h1:=UR h1;have e:=UR e;unfold ltP at *;exact Prod.ext A9 A9
def leP(p q:Int×Int):Bool:=!ltOf cfP q p
def mQ{p q:Int×Int}:leP p q=true↔¬ltP q p:=by unfold leP;rw[jK];simp
def FA{l:List (Int×Int)}(h:l.Perm l'):l.mergeSort leP=l'.mergeSort leP:=by
 have e:∀ a b c:Int×Int,leP a b=true->leP b c=true->leP a c=true:=fun a b c h1 f=>by
  rw[mQ]at *;unfold ltP at *;omega
 have to:∀ a b:Int×Int,(leP a b || leP b a)=true:=fun a b=>by
  rw[F8,mQ,mQ];unfold ltP;omega
 refine dQ (le:=fun x y=>leP x y=true) (fun a b _ _ h1 f=>?_) (l9 e to l) (l9 e to l') ((Y8 l leP).trans (h.trans (Y8 l' leP).symm));rw[mQ]at *;unfold ltP at *;exact Prod.ext A9 A9
def GC(a:Int×Int):List (Int×Int)->List (Int×Int)
 | []=>[a]
 | b::l=>if leP a b then a::b::l else b::GC a l
def sX:List (Int×Int)->List (Int×Int)
 | []=>[]
 | a::l=>GC a (sX l)
def PT{a b c:Int×Int}(h1:leP a b=true)(e:leP b c=true):leP a c=true:=by
 rw[mQ]at *;unfold ltP at *;omega
def A0H{a b:Int×Int}(h:¬leP a b=true):leP b a=true:=by
 rw[mQ]at *;unfold ltP at *;omega
def oO{a:Int×Int}:∀ {l:List (Int×Int)},(GC a l).Perm (a::l)
 | []=>iW _
 | b::l=>by
   unfold GC;split
   .exact iW _
   .exact(oO.cons b).trans (List.Perm.swap a b l)
def fB:∀ {l:List (Int×Int)},(sX l).Perm l
 | []=>iW _
 | a::l=>oO.trans (fB.cons a)
def pW{a:Int×Int}:∀ {l:List (Int×Int)},l.Pairwise (fun x y=>leP x y=true)->(GC a l).Pairwise (fun x y=>leP x y=true)
 | [],_=>by simp[GC]
 | b::l,h=>by
   unfold GC;rw[P6]at h;split
   .rename_i e;refine P6.2 ⟨fun y f=>?_,P6.2 h⟩;rcases A8.1 f with rfl|f
    .exact e
    .exact PT e (h.1 y f)
   .rename_i e;refine P6.2 ⟨fun y f=>?_,pW h.2⟩;rcases A8.1 (oO.mem_iff.1 f)with rfl|f
    .exact A0H e
    .exact h.1 y f
def mS:∀ {l:List (Int×Int)},(sX l).Pairwise (fun x y=>leP x y=true)
 | []=>List.Pairwise.nil
 | a::l=>pW mS
def A0I{a b:Int×Int}(h1:leP a b=true)(e:leP b a=true):a=b:=by
 rw[mQ]at *;unfold ltP at *;exact Prod.ext A9 A9
def A0w{l:List (Int×Int)}(h1:l.Pairwise (fun x y=>leP x y=true))(e:l'.Pairwise (fun x y=>leP x y=true))(h:l.Perm l'):l=l' :=
 dQ (le:=fun x y=>leP x y=true) (fun a b _ _ h1 e=>A0I h1 e) h1 e h
def UW(a b:Int×Int):(leP a b || leP b a)=true:=by
 rw[F8,mQ,mQ];unfold ltP;omega
def yZ(l:List (Int×Int)):(l.mergeSort leP).Pairwise (fun x y=>leP x y=true):=by
 have e:∀ a b c:Int×Int,leP a b=true->leP b c=true->leP a c=true:=fun a b c h1 f=>PT h1 f
 have to:∀ a b:Int×Int,(leP a b || leP b a)=true:=UW;exact l9 e to l
def QC(l:List (Int×Int)):l.mergeSort leP=sX l:=by
 have h1:=yZ l;have e:=mS (l:=l);have h3:(l.mergeSort leP).Perm (sX l):=(Y8 l leP).trans (fB (l:=l)).symm;revert h1 e h3;generalize l.mergeSort leP=x;generalize sX l=y;exact fun h1 e h3=>A0w h1 e h3
def ZX(x:Option (List Mt)):Option (List Kt):=if el x=[]then none else some ((sX ((el x).map kM)).map (mark x))
def clO(l:List Rt):Option (List Kt):=if rsP l then ZX (ruL l (some []))else none
def g7(x:Option (List Mt))(ks:List (Int×Int)):Option (List Kt):=if ks=[]then none else some (ks.map (mark x))
def KE{x:Option (List Mt)} :el (g7 x ks)=ks.map (mark x):=by
 unfold g7;split
 .rename_i h;rw[h];rfl
 .rfl
def MD{x:Option (List Mt)}(h:((el x).map kM).Nodup){a:Mt}(e:a ∈ el x):some (el (g7 x ks)++[((a.1,a.2.1,mkC x a.1 a.2.1 a.2.2.1 a.2.2.2):Kt)])=g7 x (ks++[kM a]):=by
 rw[KE,UQ h e];unfold g7;rw[B1 (by simp)];simp
def kY(x:Option (List Mt))(p:Int×Int):List U:=[.int .i64 p.1,.int .i64 p.2,.int .i64 (RM x p)]
def DQ(x:Option (List Mt)):∀ p,(kY x p).length=3:=fun _=>rfl
def JC(x:Option (List Mt)):∀ p,∀ u ∈ kY x p,∃ v,toV u=some v:=fun p u hu=>by
 simp only[kY,A8,C3,or_false]at hu;rcases hu with rfl|rfl|rfl<;>exact⟨_,rfl⟩
def oX{x:Option (List Mt)} :E6 rK (some (ks.map (mark x)))=.seq false 3 (ks.map (kY x)):=by
 rw[X8];show U.seq false 3 (List.map rK.enc (ks.map (mark x)))=_;rw[fP];rfl
def RP(x:Option (List Mt))(e off size:Nat)(w:World):CmpLays Try.prog 25 #[] (cH (kY x)) 3 cfP e off size w:=fun m os f _ p q=>by
 have:=xI p.1 p.2 (RM x p) q.1 q.2 (RM x q) (sortWorldK (cH (kY x)) 3 w e off m f os);exact this
def UY(w:World):(isAgg 45).run Try.prog w=.ok true w:=F6
def ZF(w:World):(Go.sizeOf 45).run Try.prog w=.ok 3 w:=F6
def A1z{w:World}:(callFunc 24 args).run Try.prog w=.ok (.enter 24 args) w:=r9 Try.func24 rfl F6
def A3E:∀ (args:Array Value) (w:World),(callFunc 25 args).run Try.prog w=.ok (.enter 25 args) w:=fun args w=>r9 Try.func25 rfl F6
def ZE(x:Option (List Mt))(f off cap:Nat)(d:Array (Int×Int))(w:World)(hH:HoldsK (cH (kY x)) 3 w f off d)(hblk:f<w.heap.size)(m:d.size<4611686018427387904) :
  Calls Try.prog 24 #[.slice (some ⟨f,off,none⟩) d.size cap,.func (.func 25) #[] #[]] w fun e w'=>e=.returned (.tuple #[])/\∃ n os,w'=sortWorldK (cH (kY x)) 3 w f off n (d.toList.mergeSort leP).toArray os:=by
 have h:=AnyQ.slices_SortFunc_total Try.sortL 3 UY ZF (cH (kY x)) (fun _=>rfl) (fun p v q=>by
  simp only[cH,kY,B8,E3,A8,C3,or_false]at q;rcases q with rfl|rfl|rfl<;>rfl) cfP A2p 25 #[] f off cap d w (fun args w=>A3E args w) (RP x f off d.size w) hH hblk m A2l
 exact h
def NL(p:Option Addr)(cap:Nat)(w:World):Calls Try.prog 24 #[.slice p 0 cap,.func (.func 25) #[] #[]] w fun e w'=>e=.returned (.tuple #[])/\w'=w :=
 AnyF.slices_SortFunc_none (P:=Try.prog) (ρ:=Try.sortL_ren) { Try.sortL with } p cap (.func (.func 25) #[] #[]) w
end Go.Proofs.Ytjdnjfnhdeplfaa
