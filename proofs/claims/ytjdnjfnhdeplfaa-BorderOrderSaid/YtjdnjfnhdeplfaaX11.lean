import Derived.Test.YtjdnjfnhdeplfaaX10
set_option linter.all false
set_option maxRecDepth 100000
set_option maxHeartbeats 4000000
namespace Go.Proofs.Ytjdnjfnhdeplfaa
open Go Go.Sx Go.Sort Go.Shelf Go.Proofs
variable {ks l':List (Int×Int)}{d k t:Nat}{outs us:List U}{ρ ρ3:Sx.Ren}{v:Bool}{rd:Option Nat}{o:Option (List Rt)}{at_ j:Int}
section
open Go Go.Sx Go.Sort Go.Shelf Go.Proofs
def cfP(p q:Int×Int):Int:=r2 (Lib.compareInt p.1 q.1) (Lib.compareInt p.2 q.2)
def ltP(p q:Int×Int):Prop:=p.1<q.1∨(p.1=q.1/\p.2<q.2)
instance(p q:Int×Int):Decidable (ltP p q):=by unfold ltP;infer_instance
def kI(p q:Int×Int):ltOf cfP p q=decide (ltP p q):=by
 unfold ltOf;refine decide_eq_decide.2 ?_;unfold cfP r2 Lib.compareInt ltP;by_cases h1:p.1<q.1
 .simp[h1]
 .by_cases a:p.1>q.1
  .have:¬p.1=q.1:=A6;simp[h1,a,this]
  .have e:p.1=q.1:=A6;by_cases h3:p.2<q.2
   .simp[e,h3]
   .by_cases b:p.2>q.2<;>simp[e,h3,b]
def A2z{p q:Int×Int}(h:ltOf cfP p q=true):ltP p q:=J4 ((kI p q).symm.trans h)
def XY{p q:Int×Int}(h:ltOf cfP p q=false):¬ltP p q:=of_decide_eq_false ((kI p q).symm.trans h)
def A4J:SWO (ltOf cfP) where
 irrefl x:=by rw[kI];simp[ltP]
 trans x y z h1 a:=by
  have h1:=A2z h1;have a:=A2z a;rw[kI];refine Q7 ?_;unfold ltP at *;omega
 ntrans x y z h1 a:=by
  have h1:=XY h1;have a:=XY a;rw[kI];refine L9 ?_;unfold ltP at *;omega
def A4G(x y:Int×Int)(h1:ltOf cfP x y=false)(a:ltOf cfP y x=false):x=y:=by
 have h1:=XY h1;have a:=XY a;unfold ltP at *;exact Prod.ext A6 A6
def leP(p q:Int×Int):Bool:=!ltOf cfP q p
def nK{p q:Int×Int}:leP p q=true↔¬ltP q p:=by unfold leP;rw[kI];simp
def sV{l:List (Int×Int)}(h:l.Perm l'):l.mergeSort leP=l'.mergeSort leP:=by
 have e:∀ a b c:Int×Int,leP a b=true->leP b c=true->leP a c=true:=fun a b c h1 f=>by
  rw[nK]at *;unfold ltP at *;omega
 have to:∀ a b:Int×Int,(leP a b || leP b a)=true:=fun a b=>by
  rw[G0,nK,nK];unfold ltP;omega
 refine eF (le:=fun x y=>leP x y=true) (fun a b _ _ h1 f=>?_) (p9 e to l) (p9 e to l') ((Z9 l leP).trans (h.trans (Z9 l' leP).symm));rw[nK]at *;unfold ltP at *;exact Prod.ext A6 A6
def IC(a:Int×Int):List (Int×Int)->List (Int×Int)
 | []=>[a]
 | b::l=>if leP a b then a::b::l else b::IC a l
def nN:List (Int×Int)->List (Int×Int)
 | []=>[]
 | a::l=>IC a (nN l)
def SJ{a b c:Int×Int}(h1:leP a b=true)(e:leP b c=true):leP a c=true:=by
 rw[nK]at *;unfold ltP at *;omega
def A1h{a b:Int×Int}(h:¬leP a b=true):leP b a=true:=by
 rw[nK]at *;unfold ltP at *;omega
def pI{a:Int×Int}:∀ {l:List (Int×Int)},(IC a l).Perm (a::l)
 | []=>jT _
 | b::l=>by
   unfold IC;split
   .exact jT _
   .exact(pI.cons b).trans (List.Perm.swap a b l)
def fU:∀ {l:List (Int×Int)},(nN l).Perm l
 | []=>jT _
 | a::l=>pI.trans (fU.cons a)
def qR{a:Int×Int}:∀ {l:List (Int×Int)},l.Pairwise (fun x y=>leP x y=true)->(IC a l).Pairwise (fun x y=>leP x y=true)
 | [],_=>by simp[IC]
 | b::l,h=>by
   unfold IC;rw[Q8]at h;split
   .rename_i c;refine Q8.2 ⟨fun y e=>?_,Q8.2 h⟩;rcases A8.1 e with rfl|e
    .exact c
    .exact SJ c (h.1 y e)
   .rename_i c;refine Q8.2 ⟨fun y e=>?_,qR h.2⟩;rcases A8.1 (pI.mem_iff.1 e)with rfl|e
    .exact A1h c
    .exact h.1 y e
def nM:∀ {l:List (Int×Int)},(nN l).Pairwise (fun x y=>leP x y=true)
 | []=>List.Pairwise.nil
 | a::l=>qR nM
def A1i{a b:Int×Int}(h1:leP a b=true)(c:leP b a=true):a=b:=by
 rw[nK]at *;unfold ltP at *;exact Prod.ext A6 A6
def A2M{l:List (Int×Int)}(h1:l.Pairwise (fun x y=>leP x y=true))(c:l'.Pairwise (fun x y=>leP x y=true))(h:l.Perm l'):l=l' :=
 eF (le:=fun x y=>leP x y=true) (fun a b _ _ h1 c=>A1i h1 c) h1 c h
def YD(a b:Int×Int):(leP a b || leP b a)=true:=by
 rw[G0,nK,nK];unfold ltP;omega
def AE(l:List (Int×Int)):(l.mergeSort leP).Pairwise (fun x y=>leP x y=true):=by
 have f:∀ a b c:Int×Int,leP a b=true->leP b c=true->leP a c=true:=fun a b c h1 e=>SJ h1 e
 have to:∀ a b:Int×Int,(leP a b || leP b a)=true:=YD;exact p9 f to l
def tW(l:List (Int×Int)):l.mergeSort leP=nN l:=by
 have h1:=AE l;have a:=nM (l:=l);have h3:(l.mergeSort leP).Perm (nN l):=(Z9 l leP).trans (fU (l:=l)).symm;revert h1 a h3;generalize l.mergeSort leP=x;generalize nN l=y;exact fun h1 a h3=>A2M h1 a h3
def RN(x:Option (List Mt)):Option (List Kt):=if el x=[]then none else some ((nN ((el x).map kM)).map (mark x))
def clO(l:List Rt):Option (List Kt):=if rsP l then RN (ruL l (some []))else none
def l7(x:Option (List Mt))(ks:List (Int×Int)):Option (List Kt):=if ks=[]then none else some (ks.map (mark x))
def MJ{x:Option (List Mt)} :el (l7 x ks)=ks.map (mark x):=by
 unfold l7;split
 .rename_i h;rw[h];rfl
 .rfl
def OL{x:Option (List Mt)}(h:((el x).map kM).Nodup){a:Mt}(b:a ∈ el x):some (el (l7 x ks)++[((a.1,a.2.1,mkC x a.1 a.2.1 a.2.2.1 a.2.2.2):Kt)])=l7 x (ks++[kM a]):=by
 rw[MJ,XX h b];unfold l7;rw[B0 (by simp)];simp
def lW(x:Option (List Mt))(p:Int×Int):List U:=[.int .i64 p.1,.int .i64 p.2,.int .i64 (OC x p)]
def FF(x:Option (List Mt)):∀ p,(lW x p).length=3:=fun _=>rfl
def LE(x:Option (List Mt)):∀ p,∀ u ∈ lW x p,∃ v,toV u=some v:=fun p u hu=>by
 simp only[lW,A8,C4,or_false]at hu;rcases hu with rfl|rfl|rfl<;>exact⟨_,rfl⟩
def pR{x:Option (List Mt)} :D7 rK (some (ks.map (mark x)))=.seq false 3 (ks.map (lW x)):=by
 rw[P0];show U.seq false 3 (List.map rK.enc (ks.map (mark x)))=_;rw[gL];rfl
def UK(x:Option (List Mt))(a off size:Nat)(w:World):CmpLays Try.prog 25 #[] (cW (lW x)) 3 cfP a off size w:=fun m os b _ p q=>by
 have:=yJ p.1 p.2 (OC x p) q.1 q.2 (OC x q) (sortWorldK (cW (lW x)) 3 w a off m b os);exact this
def YF(w:World):(isAgg 45).run Try.prog w=.ok true w:=F8
def A1G(w:World):(Go.sizeOf 45).run Try.prog w=.ok 3 w:=F8
def A3R{args:R3}{w:World}:(callFunc 24 args).run Try.prog w=.ok (.enter 24 args) w:=v7 Try.func24 rfl F8
def A4i:∀ (args:Array Value) (w:World),(callFunc 25 args).run Try.prog w=.ok (.enter 25 args) w:=fun args w=>v7 Try.func25 rfl F8
def A1E(x:Option (List Mt))(a off cap:Nat)(d:Array (Int×Int))(w:World)(hH:HoldsK (cW (lW x)) 3 w a off d)(hblk:a<w.heap.size)(b:d.size<4611686018427387904) :
  Calls Try.prog 24 #[.slice (some ⟨a,off,none⟩) d.size cap,.func (.func 25) #[] #[]] w fun e w'=>e=.returned (.tuple #[])/\∃ n os,w'=sortWorldK (cW (lW x)) 3 w a off n (d.toList.mergeSort leP).toArray os:=by
 have h:=AnyQ.slices_SortFunc_total Try.sortL 3 YF A1G (cW (lW x)) (fun _=>rfl) (fun p v c=>by
  simp only[cW,lW,B9,E5,A8,C4,or_false]at c;rcases c with rfl|rfl|rfl<;>rfl) cfP A4J 25 #[] a off cap d w (fun args w=>A4i args w) (UK x a off d.size w) hH hblk b A4G
 exact h
def PT(p:Option Addr)(cap:Nat)(w:World):Calls Try.prog 24 #[.slice p 0 cap,.func (.func 25) #[] #[]] w fun e w'=>e=.returned (.tuple #[])/\w'=w :=
 AnyF.slices_SortFunc_none (P:=Try.prog) (ρ:=Try.sortL_ren) { Try.sortL with } p cap (.func (.func 25) #[] #[]) w
noncomputable def clB:Code:=(Try.f9.body).getD .skip
noncomputable def o5:Array Oper:=DP [true,true,true,false,false] clB
noncomputable def p1:Array Oper:=DP [true,true,true,false,true,false,false,false] clB
noncomputable def o6:Array Oper:=DP [true,true,true,true,false] clB
noncomputable def clL:Code:=.seq (.region (IE [true,true,true,false,true,false,false,false] clB) p1 false) (.seq (.cond (.tmp 20) .skip (.exit 0)) (.block 1 (.seq (.region (IE [true,true,true,false,true,false,false,true,true,false,false] clB) lG false) VF)))
def A3N:Try.f9.body=some clB:=rfl
def A18:clB=.seq VM (.seq VJ (.seq VH (.seq (.seq (.region (IE [true,true,true,false,false] clB) o5 false) (.block 0 (.loop clL))) (.seq (.region (IE [true,true,true,true,false] clB) o6 false) yP)))):=F8
def A2n:o5.toList=[o5.getD 0 default,o5.getD 1 default]:=F8
def A2i:p1.toList=[p1.getD 0 default,p1.getD 1 default]:=F8
def A2o:lG.toList=lG.getD 0 default::lG.toList.drop 1:=F8
def A2m:o6.toList=[o6.getD 0 default,o6.getD 1 default]:=F8
def o50:(o5.getD 0 default).op=.load 55 (.tmp 5)/\(o5.getD 0 default).dst=some 17/\(o5.getD 0 default).guard=none:=⟨by kernel_rfl,by kernel_rfl,by kernel_rfl⟩
def o51:(o5.getD 1 default).op=.range 55 (.tmp 17)/\(o5.getD 1 default).dst=some 18/\(o5.getD 1 default).guard=none:=⟨by kernel_rfl,by kernel_rfl,by kernel_rfl⟩
def p10:(p1.getD 0 default).op=.next (.tmp 18) false/\(p1.getD 0 default).dst=some 19/\(p1.getD 0 default).guard=none:=⟨by kernel_rfl,by kernel_rfl,by kernel_rfl⟩
def p11:(p1.getD 1 default).op=.extract (.tmp 19) 0/\(p1.getD 1 default).dst=some 20/\(p1.getD 1 default).guard=none:=⟨by kernel_rfl,by kernel_rfl,by kernel_rfl⟩
def o40:(lG.getD 0 default).op=.entry (.tmp 18)/\(lG.getD 0 default).dst=some 21/\(lG.getD 0 default).guard=none:=⟨by kernel_rfl,by kernel_rfl,by kernel_rfl⟩
def o60:(o6.getD 0 default).op=.move (.tmp 2)/\(o6.getD 0 default).dst=some 53/\(o6.getD 0 default).guard=none:=⟨by kernel_rfl,by kernel_rfl,by kernel_rfl⟩
noncomputable def A4E:Array TypeId:=match (o6.getD 1 default).op with|.call c=>c.argTypes|_=>#[]
def o61:(o6.getD 1 default).op=.call ⟨.value (.func 24),#[.tmp 53,.func 25],A4E⟩/\(o6.getD 1 default).dst=some 54/\(o6.getD 1 default).guard=none:=⟨by kernel_rfl,by kernel_rfl,by kernel_rfl⟩
def A2N:Try.prog.underlying 55=some (.map 58 60):=F8
def A3r:Z7 Try.prog 55=some false:=F8
def ZU:HS Try.prog 55=some ⟨58,60,true,[3,3],true,[8,8]⟩:=F8
def AZ:List U->Mt
 | [.int _ r,.int _ c,.bool v,.bool h]=>(r,c,v,h)
 | _=>default
def TU(a:Mt):AZ (rM.enc a)=a:=rfl
def A4T{x:Option (List Mt)}{l:Go.Sx.Loc}{w:World}(h:MpR Try.prog (D7 rM x) t 55 l w):∃ es clock,∃ b:MapEntry->Mt,w.heap[l.blk]? = some (.map es clock)/\el x=es.toList.map b /\
  (∀ e ∈ es.toList,e.key=.agg #[.int .i64 (b e).1,.int .i64 (b e).2.1]/\e.val=.agg #[.bool (b e).2.2.1,.bool (b e).2.2.2])/\rA es.toList clock:=by
 obtain⟨y,es,clock,rows,h1,r,h3,c,p,f⟩:=h;rw[ZU]at h1;cases h1;obtain⟨g,g1,g2⟩:=XF p f.1;rw[P0]at c;have hr:rows=(el x).map rM.enc:=by
  cases x with
  | none=>cases c
  | some l=>cases c;rfl
 refine⟨es,clock,fun e=>AZ (g e),h3,?_,fun e he=>?_,f⟩
 .have:(rows.map AZ)=(es.toList.map g).map AZ:=by rw[g1]
  rw[hr,gL,gL]at this;have q:(AZ ∘ rM.enc)=id:=funext fun a=>TU a
  rw[q,List.map_id]at this;exact this
 .obtain⟨_,i,n⟩:=g2 e he;have hm:g e ∈ rows:=by rw[g1];exact bL he
  rw[hr]at hm;obtain⟨a,_,m⟩:=I5.1 hm;rw[<- m]at i n;show e.key=.agg #[.int .i64 (AZ (g e)).1,.int .i64 (AZ (g e)).2.1]/\e.val=.agg #[.bool (AZ (g e)).2.2.1,.bool (AZ (g e)).2.2.2];rw[<- m];exact⟨i,n⟩
def gR:List U->Option (Nat×List U)
 | [u_l]=>(R2 rR u_l).bind fun l=>if((el l).length:Int)<=140737488351232/\(∀ r ∈ el l,rOk r)then some (0,[D7 rK (clO (el l)),.int .i64 (fZ (el l))])else none
 | _=>none
def LM(l:(Option (List (Int×Int×Int×Int×Bool))))(a:((el l).length:Int)<=140737488351232/\(∀ r ∈ el l,rOk r)):gR [D7 rR l]=some (0,[D7 rK (clO (el l)),.int .i64 (fZ (el l))]):=by
 simp only[gR,J9,G2];exact B2 a
def yI:K0:=⟨[(0,dat 1 0 15)],[(1,.frz)],1,[⟨.ret,[(2,own 2 0 13),(3,h 1 3)],[(2,.sq 0 13 45 3),(3,.frz)],2⟩]⟩
def A3L:K0.ok gl n0 12 Try.f9.ntmps yI=true:=F8
def OE(a:gR us=some (d,outs)):∃ l:Option (List (Int×Int×Int×Int×Bool)),us=[D7 rR l]/\(((el l).length:Int)<=140737488351232/\(∀ r ∈ el l,rOk r))/\d=0/\outs=[D7 rK (clO (el l)),.int .i64 (fZ (el l))]:=by
 unfold gR at a;split at a
 .rename_i f;have e:=C3.1 a;clear a;obtain⟨l,c,b⟩:=e;replace c:=K1 c;subst c;split at b
  .rename_i g;cases b;exact⟨l,rfl,g,rfl,rfl⟩
  .cases b
 .cases a
def SL2:O4:=[(2,own 2 0 13),(5,.pointer (some ⟨4,0,none⟩))]
def BL2:K4:=[(2,.sq 0 13 45 3),(4,.cells 55 [.map (some 5)]),(3,.frz),(5,.mp 1 1014 55)]
def BLm:K4:=[(2,.sq 0 13 45 3),(4,.cm 55 [.map (some 5)]),(3,.frz),(5,.mm 1 14 55)]
structure JJ (G:Nat->Option Obj) (base:Nat) (D:List Deferred) (ρs:Sx.Ren) (φ:Nat->Option Sx.Loc) (Kt Ko:Nat->Prop) (w0:World) (x:Option (List Mt)) (ga:MapEntry->Mt) (b r clock:Nat) (es:Array MapEntry) (seen:Array Nat) (done:List MapEntry) (a:Act) (w:World):Prop where
 ex:∃ ρ2,F1 D Try.prog G base Try.f9.ntmps ρ2 SL2 BL2 [D7 rK (l7 x (done.map fun e=>kM (ga e))),D7 rM x] a w/\Nm n0 ρs φ Kt Ko w0 BL2 ρ2/\(∀ y ∈ BL2,∀ l,ρ2 y.1=some l->¬ TcP y.2 l r)/\ρ2 5=some (J8 b (.map es clock))
 kp:Kp Ko w0 w
 it:a.tmps.getD 18 undef=.pointer (some ⟨r,0,none⟩)
 cr:∃ c0,clock<=c0/\w.heap[r]? = some (.mapIter (some b) clock seen c0)
 mp:w.heap[b]? = some (.map es clock)
 lt:w0.heap.size<=r
 rb:r≠b
def S5(b:Nat):Bool:=!(Nat.beq b 5)
def A4O{G:Nat->Option Obj}{base nt:Nat}{D:List Deferred}{a:Act}{w:World}{g:Sx.Loc}{es:Array MapEntry}{clock:Nat}(h:F1 D Try.prog G base nt ρ3 SL2 BLm us a w)(q:ρ3 5=some g)(hm:w.heap[g.blk]? = some (.map es clock)) :
  F1 D Try.prog G base nt (X0 ρ3 5 (some (J8 g.blk (.map es clock)))) SL2 BL2 us a w:=by
 obtain⟨N,B,J⟩:=h.mb (5,.mm 1 14 55) (by simp[BLm]);have B:ρ3 5=some N:=B;rw[q]at B;cases B;have L:Q6 us (gE us):=fun j u X=>by simp[gE,X]
 have H:g.on=true/\g.sh=0:=(J _ L).1;have A:∀ b l,S5 b=true->ρ3 b=some l->X0 ρ3 5 (some (J8 g.blk (.map es clock))) (idN b)=some l:=fun b l hb c=>by
  have:b≠5:=fun e=>by subst e;cases hb
  show X0 _ _ _ b=_;rw[M5 this];exact c
 have old:∀ x ∈ BL2,∀ l,X0 ρ3 5 (some (J8 g.blk (.map es clock))) x.1=some l->∃ y ∈ BLm,y.1=x.1/\y.2.rw=x.2.rw/\∃ l',ρ3 y.1=some l'/\l'.blk=l.blk/\l'.on=l.on/\∀ k,TcP x.2 l k↔TcP y.2 l' k:=fun x f l c=>by
  simp only[BL2,A8,C4,or_false]at f;rcases f with rfl|rfl|rfl|rfl
  .exact⟨(2,.sq 0 13 45 3),by simp[BLm],rfl,rfl,l,by rw[M5 K3]at c;exact c,rfl,rfl,fun k=>Iff.rfl⟩
  .exact⟨(4,.cm 55 [.map (some 5)]),by simp[BLm],rfl,rfl,l,by rw[M5 K3]at c;exact c,rfl,rfl,fun k=>by simp[TcP,PB.rw]⟩
  .exact⟨(3,.frz),by simp[BLm],rfl,rfl,l,by rw[M5 K3]at c;exact c,rfl,rfl,fun k=>Iff.rfl⟩
  .have c:X0 ρ3 5 (some (J8 g.blk (.map es clock))) 5=some l:=c;rw[S1]at c;cases c;exact⟨(5,.mm 1 14 55),by simp[BLm],rfl,rfl,g,q,rfl,H.1,fun k=>by simp[TcP,PB.rw,J8,H.1]⟩
 refine⟨h.size,h.defers,fun F m x f=>?_,fun x f=>?_,fun x f hw l c I=>?_⟩
 .have R:=h.fr F m x f;simp only[SL2,A8,C4,or_false]at f;rcases f with rfl|rfl
  .exact y4 (G:=G) (E:=F) (F:=F) (S:=S5) (nx:=0) (τ:=idN) A (fun i=>by rw[E1]) DEP (own 2 0 13) _ F8 R
  .exact y4 (G:=G) (E:=F) (F:=F) (S:=S5) (nx:=0) (τ:=idN) A (fun i=>by rw[E1]) DEP (.pointer (some ⟨4,0,none⟩)) _ F8 R
 .simp only[BL2,A8,C4,or_false]at f;rcases f with rfl|rfl|rfl|rfl
  .obtain⟨l,r,s⟩:=h.mb (2,.sq 0 13 45 3) (by simp[BLm]);exact⟨l,A 2 l rfl r,fun F m=>oQ (P:=Try.prog) (G:=G) (E:=F) (F:=F) (S:=S5) (nx:=0) (τ:=idN) A (fun i=>by rw[E1]) (p:=.sq 0 13 45 3) (s F m) rfl⟩
  .obtain⟨l,r,s⟩:=h.mb (4,.cm 55 [.map (some 5)]) (by simp[BLm]);refine⟨l,A 4 l rfl r,fun F m=>?_⟩;obtain⟨h0,C,fz,T',h1,Z,h3⟩:=s F m;refine⟨h0,C,fz,T',h1,fun i v hi=>?_,h3⟩;obtain⟨v',g1,g2⟩:=Z i v hi;refine⟨v',g1,?_⟩;cases i with
   | succ i=>cases hi
   | zero =>
     cases hi;obtain⟨l',q1,rfl⟩:=@nP ⟨F,G⟩ _ _ _ g2;rw[q]at q1;cases q1;exact @VR.map ⟨F,G⟩ _ _ (J8 g.blk (.map es clock)) S1
  .obtain⟨l,r,s⟩:=h.mb (3,.frz) (by simp[BLm]);exact⟨l,A 3 l rfl r,fun F m=>s F m⟩
  .refine⟨_,S1,fun F m=>⟨⟨rfl,rfl⟩,?_⟩⟩;obtain⟨_,y,K,n,rows,q1,q2,q3,q4⟩:=J F m;refine⟨y,K,n,rows,q1,.inr ⟨?_,_,B2 rfl,hm⟩,q3,q4⟩;rcases q2 with q2|⟨q2,_⟩<;>omega
 .obtain⟨y,W,B,J,l',V,e4,e5,e6⟩:=old x f l c;obtain⟨r,s⟩:=h.own y W (by rw[J];exact hw) l' V (by rw[e5];exact I);rw[<- e4];refine⟨r,fun z Y l2 O T=>?_⟩;obtain⟨z',M,f1,_,Q,f3,_,_,f6⟩:=old z Y l2 O;rw[<- f1,<- B];exact s z' M Q f3 ((f6 _).1 T)
def S8(b:Nat):Bool:=Nat.beq b 2 || (Nat.beq b 3 || (Nat.beq b 4 || Nat.beq b 5))
def IU:∀ x ∈ BL2,(x.2.names S8=true/\x.2.ab 0 idN=x.2.raw)/\S8 x.1=true:=fun x a=>by
 simp only[BL2,A8,C4,or_false]at a;rcases a with rfl|rfl|rfl|rfl
 .exact⟨⟨rfl,rfl⟩,rfl⟩
 .exact⟨⟨by kernel_rfl,by kernel_rfl⟩,rfl⟩
 .exact⟨⟨rfl,rfl⟩,rfl⟩
 .exact⟨⟨rfl,rfl⟩,rfl⟩
def WG:∀ x ∈ SL2,Z5 S8 DEP x.2=true/\L6 0 idN DEP x.2=x.2:=fun x a=>by
 simp only[SL2,A8,C4,or_false]at a;rcases a with rfl|rfl
 .exact⟨by kernel_rfl,by kernel_rfl⟩
 .exact⟨by kernel_rfl,by kernel_rfl⟩
def WH{b:Nat}(h:S8 b=true):b≠8:=fun e=>by subst e;cases h
def mE{x:Nat×PB}(h:x ∈ BL2):x.1≠8:=WH (IU x h).2
def H4S:O4:=[(2,own 2 0 13),(5,.pointer (some ⟨4,0,none⟩)),(18,.pointer (some ⟨8,0,none⟩))]
def T21:Value:=.tuple ⟨[.agg ⟨[h 2 3,h 3 3]⟩,.agg ⟨[h 4 8,h 5 8]⟩]⟩
def H4B:K4:=[(2,.sq 0 13 45 3),(4,.cells 55 [.map (some 5)]),(8,.iter []),(3,.frz),(5,.mp 1 1014 55)]
def rU{F:Nat->U}{G:Nat->Option Obj}{i:Nat}{u:U}{v:Value}(a:F i=u)(b:toV u=some v)(c:F3 u=t):@VR ⟨F,G⟩ ρ (.complex .f64 i t) v :=
 @VR.hole ⟨F,G⟩ ρ i t v (by show toV (F i)=_;rw[a];exact b) (by show F3 (F i)=_;rw[a];exact c)
def zI{F:Nat->U}{G:Nat->Option Obj}{a m:U}{r c:Int}{h:Bool}(b:Q6 [a,m,.int .i64 r,.int .i64 c,.bool v,.bool h] F):@VR ⟨F,G⟩ ρ T21 (.tuple #[.agg #[.int .i64 r,.int .i64 c],.agg #[.bool v,.bool h]]):=by
 letI O:Ora:=⟨F,G⟩
 have l1:LR ρ [Sx.h 2 3,Sx.h 3 3] [.int .i64 r,.int .i64 c]:=.cons (rU (b 2 _ rfl) rfl rfl) (.cons (rU (b 3 _ rfl) rfl rfl) .nil);have l2:LR ρ [Sx.h 4 8,Sx.h 5 8] [.bool v,.bool h]:=.cons (rU (b 4 _ rfl) rfl rfl) (.cons (rU (b 5 _ rfl) rfl rfl) .nil);have e:LR ρ [.agg ⟨[Sx.h 2 3,Sx.h 3 3]⟩,.agg ⟨[Sx.h 4 8,Sx.h 5 8]⟩] [.agg ⟨[.int .i64 r,.int .i64 c]⟩,.agg ⟨[.bool v,.bool h]⟩]:=.cons (.agg l1.1 l1.2) (.cons (.agg l2.1 l2.2) .nil);exact .tuple e.1 e.2
def n21:21<Try.f9.ntmps:=A1 F8
def oV(h:(SL2.all fun x=>!(Nat.beq x.1 d))=true):∀ x ∈ SL2,x.1≠d:=fun x a e=>by
 have:=D3.1 h x a;rw[e]at this;simp at this
def UN{G}(ad:l9 G){base:Nat}{D:List Deferred}{ρs:Sx.Ren}{W:Nat->Option Sx.Loc}{Kt R:Nat->Prop}{w0:World}(ring:l8 Try.prog G base gl n0 12 Try.f9.ntmps H0 yI w0 ρs R)
  {x:Option (List Mt)} {c:MapEntry->Mt} {b r clock:Nat} {es:Array MapEntry} (K:GdM 5120 x) (hex:el x=es.toList.map c) (ai:∀ e ∈ es.toList,e.key=.agg #[.int .i64 (c e).1,.int .i64 (c e).2.1]/\e.val=.agg #[.bool (c e).2.2.1,.bool (c e).2.2.2])
  (C:rA es.toList clock) {Q:Exit->Act->World->Prop} {seen:Array Nat} {done:List MapEntry} {a:Act} {w:World} (L:rH es seen done) (J:JJ G base D ρs W Kt R w0 x c b r clock es seen done a w)
  (Y:(leftOf es seen).size=0->∀ a' w',JJ G base D ρs W Kt R w0 x c b r clock es seen done a' w'->Q (.exit 0) a' w') :
  clL.wpIn (fw rd) 0 Try.prog (Exit.then (fun a' w'=>∃ e ∈ (leftOf es seen).toList,JJ G base D ρs W Kt R w0 x c b r clock es (seen.push e.born) (done++[e]) a' w') Q) a w:=by
 obtain⟨⟨ρ2,hd,nm,N,h5⟩,kp,it,⟨c0,ay,hr⟩,hm,n,I⟩:=J;have ae:a.tmps.size=Try.f9.ntmps:=hd.size;have br:21<a.tmps.size:=by rw[ae];exact n21
 have ak:r<w.heap.size:=(B7.1 hr).1;refine DX (ops1:=p1) (ops2:=lG) (t:=18) (d1:=19) (d2:=20) (since:=clock) (clock:=clock) A2i A2o p10.2.2 p11.2.2 o40.2.2 p10.1 p11.1 o40.1 p10.2.1 p11.2.1 A6 A6 K3 K3 it hr hm I C.2 ay C.1 (fun hz=>?_) fun e he w1 Z=>?_
 .show Q (.exit 0) _ _;refine Y hz _ _ ⟨⟨ρ2,(hd.put (oV rfl)).put (oV rfl),nm,N,h5⟩,kp,?_,⟨c0,ay,hr⟩,hm,n,I⟩
  have:=X8 (a:=a.put (some 19) (.tuple #[.bool false])) (d:=20) (t:=18) (v:=.bool false) K3;have h2:=X8 (a:=a) (d:=19) (t:=18) (v:=.tuple #[.bool false]) K3;exact(this.trans h2).trans it
 .obtain⟨ax,_⟩:=mem_left he;obtain⟨hk,hv⟩:=ai e ax;have V:c e ∈ el x:=by rw[hex];exact bL ax
  have bt:=K.bd _ V;rw[o40.2.1,hk,hv];obtain⟨obj,E⟩:∃ o,o=Obj.mapIter (some b) clock (seen.push e.born) clock:=⟨_,rfl⟩;rw[<- E];obtain⟨w4,p⟩:∃ w',w'=ChangeMaps.setBlock w1 r obj:=⟨_,rfl⟩;rw[<- p];have P:w1.heap=w.heap:=by rcases Z with rfl|rfl<;>rfl
  have ah:w4.heap[r]? = some obj:=by rw[p];simp[ChangeMaps.setBlock,P,ak]
  have az:∀ k,k≠r->w4.heap[k]? = w.heap[k]? := fun k hk=>by rw[p];simp[ChangeMaps.setBlock,P,D1,Ne.symm hk]
  have al:w4.heap.size=w.heap.size:=by rw[p];simp[ChangeMaps.setBlock,P]
  have q:w4.os=w.os/\w4.tape=w.tape/\w4.output=w.output:=by
   rw[p];rcases Z with rfl|rfl<;>exact⟨rfl,rfl,rfl⟩
  obtain⟨a2,M⟩:∃ a2,a2=(a.put (some 19) (.tuple #[.bool true,.agg #[.int .i64 (c e).1,.int .i64 (c e).2.1],.agg #[.bool (c e).2.2.1,.bool (c e).2.2.2]])).put (some 20) (.bool true):=⟨_,rfl⟩;rw[<- M];have bx:a2.tmps.getD 18 undef=.pointer (some ⟨r,0,none⟩):=by
   rw[M]
   have:=X8 (a:=a.put (some 19) (.tuple #[.bool true,.agg #[.int .i64 (c e).1,.int .i64 (c e).2.1],.agg #[.bool (c e).2.2.1,.bool (c e).2.2.2]])) (d:=20) (t:=18) (v:=.bool true) K3;have h2:=X8 (a:=a) (d:=19) (t:=18) (v:=.tuple #[.bool true,.agg #[.int .i64 (c e).1,.int .i64 (c e).2.1],.agg #[.bool (c e).2.2.1,.bool (c e).2.2.2]]) K3;exact(this.trans h2).trans it
  have af:F1 D Try.prog G base Try.f9.ntmps ρ2 SL2 BL2 ([D7 rK (l7 x (done.map fun e=>kM (c e))),D7 rM x]++[.int .i64 (c e).1,.int .i64 (c e).2.1,.bool (c e).2.2.1,.bool (c e).2.2.2]) a2 w4:=by
   rw[M];exact(((hd.world fun y f l k g B=>az k fun e'=>N y f l g (e'▸B)).more _).put (oV rfl)).put (oV rfl)
  have ag:=af.ren (ρ':=X0 ρ2 8 (some (J8 r obj))) WG IU fun b hb=>M5 (WH hb)
  have aa:=ag.keep (t:=18) (fun y f=>mE f) ah (B8 ring.bs n) N bx;have au:F1 D Try.prog G base Try.f9.ntmps (X0 ρ2 8 (some (J8 r obj))) H4S H4B ([D7 rK (l7 x (done.map fun e=>kM (c e))),D7 rM x]++[.int .i64 (c e).1,.int .i64 (c e).2.1,.bool (c e).2.2.1,.bool (c e).2.2.2]) a2 w4 :=
   aa.sub (fun y f=>by
    simp only[H4S,A8,C4,or_false]at f;rcases f with rfl|rfl|rfl<;>simp[SL2]) fun y f=>⟨y,by
    simp only[H4B,A8,C4,or_false]at f;rcases f with rfl|rfl|rfl|rfl|rfl<;>simp[BL2],rfl,rfl⟩
  have av:=au.with (d:=21) (v0:=T21) (v:=.tuple #[.agg #[.int .i64 (c e).1,.int .i64 (c e).2.1],.agg #[.bool (c e).2.2.1,.bool (c e).2.2.2]]) n21 (fun y f=>by
    simp only[H4S,A8,C4,or_false]at f;rcases f with rfl|rfl|rfl<;>simp) fun F hF=>zI hF
  have bz:F1 D Try.prog G base Try.f9.ntmps (X0 ρ2 8 (some (J8 r obj))) gS.hs gS.hb [D7 rK (l7 x (done.map fun e=>kM (c e))),D7 rM x,.int .i64 (c e).1,.int .i64 (c e).2.1,.bool (c e).2.2.1,.bool (c e).2.2.2] (a2.put (some 21) (.tuple #[.agg #[.int .i64 (c e).1,.int .i64 (c e).2.1],.agg #[.bool (c e).2.2.1,.bool (c e).2.2.2]])) w4 :=
   av.sub (fun y f=>by
    simp only[gS,A8,C4,or_false]at f;rcases f with rfl|rfl|rfl|rfl<;>simp[H4S,T21]) fun y f=>⟨y,f,rfl,rfl⟩
  have ar:Nm n0 ρs (X0 W 8 (some (J8 r obj))) Kt R w0 gS.hb (X0 ρ2 8 (some (J8 r obj))):=by
   refine⟨fun b hb=>absurd hb (bI _),fun b hb hm=>?_,fun y f O=>?_,fun y f l k g B=>?_,fun y f hw l g H=>?_⟩
   .have i:b≠8:=fun e=>hm (by subst e;simp[gS,nms])
    rw[M5 i];refine nm.out b hb fun h=>hm ?_
    simp only[BL2,nms,B9,E5,A8,C4,or_false]at h;rcases h with rfl|rfl|rfl|rfl<;>simp[gS,nms]
   .by_cases i:y.1=8
    .rw[i,S1,S1]
    .rw[M5 i,M5 i];have s:y ∈ BL2:=by
      simp only[gS,A8,C4,or_false]at f;rcases f with rfl|rfl|rfl|rfl|rfl<;>first|exact absurd rfl i|simp[BL2]
     exact nm.fx y s O
   .by_cases i:y.1=8
    .rw[i,S1]at g;cases g;simp only[gS,A8,C4,or_false]at f;rcases f with rfl|rfl|rfl|rfl|rfl<;>first|(cases i;done)|skip
     rcases B with⟨_,_,rfl⟩|⟨h,_⟩
     .exact .inl n
     .cases h
    .rw[M5 i]at g;have s:y ∈ BL2:=by
      simp only[gS,A8,C4,or_false]at f;rcases f with rfl|rfl|rfl|rfl|rfl<;>first|exact absurd rfl i|simp[BL2]
     exact nm.tch y s l k g B
   .by_cases i:y.1=8
    .rw[i,S1]at g;cases g;exact .inl n
    .rw[M5 i]at g;have s:y ∈ BL2:=by
      simp only[gS,A8,C4,or_false]at f;rcases f with rfl|rfl|rfl|rfl|rfl<;>first|exact absurd rfl i|simp[BL2]
     exact nm.own y s hw l g H
  have aj:Kp R w0 w4:=⟨⟨q.1.trans kp.os.1,q.2.1.trans kp.os.2.1,q.2.2.trans kp.os.2.2⟩,by rw[al];exact kp.size,fun k hk hn=>by rw[az k A6];exact kp.keep k hk hn⟩;have hlen:((el (l7 x (done.map fun e=>kM (c e)))).length:Int)<=100000000:=by
   rw[MJ,F0,F0];have h1:=(L.push he);have h2:done.length<=es.toList.length:=by
    have n1:done.Nodup:=bA (·.born) (fun a b h an=>h (by rw[an])) L.hn;exact List.Nodup.length_le_of_subset n1 fun y f=>L.hm y f
   have h3:(el x).length=es.toList.length:=by rw[hex];simp
   have:=K.le;omega
  refine A3Z ad base _ 0 _ _ (LS _ _ _ _ _ _ ⟨hlen,A6⟩) rfl rd _ Kt R ρs w0 D _ (ring.of A0q) (fun a5 w5 A z m aq=>?_) _ _ _ bz ar aj;show ∃ e' ∈ (leftOf es seen).toList,_;have f8:A 8=some (J8 r obj):=by
   have:=m.fx (8,.iter []) (by simp) rfl;rw[this];exact S1
  have f5:A 5=some (J8 b (.map es clock)):=by
   have:=m.fx (5,.mp 1 1014 55) (by simp) rfl;rw[this];show X0 W 8 _ 5=_;rw[M5 K3];have h6:=nm.fx (5,.mp 1 1014 55) (by simp[BL2]) rfl;exact h6.symm.trans h5
  obtain⟨k1,k2⟩:=z.kept (b:=8) (t:=18) (by simp) (by simp) f8;have bw:w5.heap[b]? = some (.map es clock):=by
   obtain⟨l,g1,g2⟩:=z.mb (5,.mp 1 1014 55) (by simp);have g1:A 5=some l:=g1;rw[f5]at g1;cases g1;obtain⟨_,y,bu,aw,rows,q1,q2,q3,q4⟩:=g2 (gE [D7 rK (some (el (l7 x (done.map fun e=>kM (c e)))++[((c e).1,(c e).2.1,mkC x (c e).1 (c e).2.1 (c e).2.2.1 (c e).2.2.2)])),D7 rM x]) fun j u hj=>by simp[gE,hj]
   rcases q2 with q2|⟨_,o,q2,q5⟩
   .rw[ZU]at q1;cases q1;cases q2
   .have q2:(if b=b then some (Obj.map es clock)else none)=some o:=q2;rw[B2 rfl]at q2;cases q2;exact q5
  have X:=z.own (8,.iter []) (by simp) rfl (J8 r obj) f8 rfl;refine⟨e,he,⟨X0 A 8 none,?_,?_,fun y f l g B=>?_,by rw[M5 K3];exact f5⟩,aq,k2,⟨clock,A7 _,by rw[k1,E]⟩,bw,n,I⟩
  .have T:some (el (l7 x (done.map fun e=>kM (c e)))++[(((c e).1,(c e).2.1,mkC x (c e).1 (c e).2.1 (c e).2.2.1 (c e).2.2.2):Int×Int×Int)])=l7 x ((done++[e]).map fun e=>kM (c e)):=by
    rw[OL K.nd V,N1];rfl
   rw[<- T];have ao:=z.sub (sl':=SL2) (bl':=BL2) (fun y f=>by
    simp only[SL2,A8,C4,or_false]at f;rcases f with rfl|rfl<;>simp) fun y f=>⟨y,by
    simp only[BL2,A8,C4,or_false]at f;rcases f with rfl|rfl|rfl|rfl<;>simp,rfl,rfl⟩
   exact ao.ren (S:=S8) WG IU fun b hb=>M5 (WH hb)
  .refine⟨fun b hb=>absurd hb (bI _),fun b hb hm=>?_,fun y f O=>?_,fun y f l k g B=>?_,fun y f hw l g H=>?_⟩
   .by_cases i:b=8
    .subst i;exact S1
    .rw[M5 i];refine m.out b hb fun h=>hm ?_
     simp only[nms,B9,E5,A8,C4,or_false]at h;rcases h with rfl|rfl|rfl|rfl|rfl<;>first|exact absurd rfl i|simp[BL2,nms]
   .rw[M5 (mE f)]
    have:=m.fx y (by
     simp only[BL2,A8,C4,or_false]at f;rcases f with rfl|rfl|rfl|rfl<;>simp) O
    rw[this,M5 (mE f)]
   .rw[M5 (mE f)]at g;exact m.tch y (by
     simp only[BL2,A8,C4,or_false]at f;rcases f with rfl|rfl|rfl|rfl<;>simp) l k g B
   .rw[M5 (mE f)]at g;exact m.own y (by
     simp only[BL2,A8,C4,or_false]at f;rcases f with rfl|rfl|rfl|rfl<;>simp) hw l g H
  .rw[M5 (mE f)]at g
   have:=X.2 y (by
     simp only[BL2,A8,C4,or_false]at f;rcases f with rfl|rfl|rfl|rfl<;>simp) l g B
   exact mE f this
def clX:gT:=⟨.ret,[(2,own 2 0 13),(3,h 1 3)],[(2,.sq 0 13 45 3),(3,.frz)],2⟩
def S6(b:Nat):Bool:=Nat.beq b 2 || Nat.beq b 3
def A39{b:Nat}(h:S6 b=true):b=2∨b=3:=by
 rcases(G0 _ _).mp h with h|h
 .exact .inl (A0 h)
 .exact .inr (A0 h)
def RO(ρ:Sx.Ren):Sx.Ren:=fun b=>if S6 b=true then ρ b else none
def SL1:O4:=[(2,own 2 0 13)]
def BL1:K4:=[(2,.sq 0 13 45 3),(3,.frz)]
def TB{G:Nat->Option Obj}{base:Nat}{D:List Deferred}{a:Act}{w:World}(h:F1 D Try.prog G base Try.f9.ntmps ρ SL2 BL2 us a w):F1 D Try.prog G base Try.f9.ntmps (RO ρ) SL1 BL1 us a w:=by
 have h1:=h.sub (sl':=SL1) (bl':=BL1) (fun y c=>by rw[F7.1 c];simp[SL2]) fun y c=>⟨y,by
  simp only[BL1,A8,C4,or_false]at c;rcases c with rfl|rfl<;>simp[BL2],rfl,rfl⟩
 refine h1.ren (S:=S6) (fun y c=>?_) (fun y c=>?_) fun b e=>B2 e
 .rw[F7.1 c];exact⟨by kernel_rfl,by kernel_rfl⟩
 .simp only[BL1,A8,C4,or_false]at c;rcases c with rfl|rfl
  .exact⟨⟨rfl,rfl⟩,rfl⟩
  .exact⟨⟨rfl,rfl⟩,rfl⟩
def A1m{ρs:Sx.Ren}{p φ':Nat->Option Sx.Loc}{Kt i:Nat->Prop}{w0:World}(h:Nm n0 ρs p Kt i w0 BL2 ρ):Nm n0 ρs φ' Kt i w0 BL1 (RO ρ):=by
 have mem:∀ y ∈ BL1,y ∈ BL2/\S6 y.1=true/\y.2.mv=true:=fun y a=>by
  simp only[BL1,A8,C4,or_false]at a;rcases a with rfl|rfl
  .exact⟨by simp[BL2],rfl,rfl⟩
  .exact⟨by simp[BL2],rfl,rfl⟩
 refine⟨fun b g=>absurd g (bI _),fun b g hm=>?_,fun y a e=>?_,fun y a l k c m=>?_,fun y a hw l c f=>?_⟩
 .refine B0 fun n=>hm ?_
  rcases A39 n with rfl|rfl<;>simp[BL1,nms]
 .rw[(mem y a).2.2]at e;cases e
 .have c:(if S6 y.1=true then ρ y.1 else none)=some l:=c;rw[B2 (mem y a).2.1]at c;exact h.tch y (mem y a).1 l k c m
 .have c:(if S6 y.1=true then ρ y.1 else none)=some l:=c;rw[B2 (mem y a).2.1]at c;exact h.own y (mem y a).1 hw l c f
def n54:54<Try.f9.ntmps:=A1 F8
def A1Q{o:Oper}{a:Act}{w:World}{x:Nat}{v:Value}(b:o.op=.move (.tmp x))(c:a.eval (.tmp x)=v):(execOp a.eval o).run Try.prog w=.ok (.value v) w:=by
 unfold execOp;rw[b];show Sem.run _ (pure (Next.value (a.eval (.tmp x)))) w=_;rw[c];rfl
def A17{G}(L:l9 G){base:Nat}{D:List Deferred}{ρs:Sx.Ren}{W:Nat->Option Sx.Loc}{Kt s:Nat->Prop}{w0:World}(ring:l8 Try.prog G base gl n0 12 Try.f9.ntmps H0 yI w0 ρs s)
  {x:Option (List Mt)} {o:Option (List (Int×Int×Int))} (ho:o=l7 x ks) (hlen:ks.length<=100000000) {Q:Exit->Act->World->Prop} {a:Act} {w:World} {ρ2:Sx.Ren}
  (A:F1 D Try.prog G base Try.f9.ntmps ρ2 SL1 BL1 [D7 rK o,D7 rM x] a w) (nm:Nm n0 ρs W Kt s w0 BL1 ρ2) (kp:Kp s w0 w)
  (hq:∀ (a2:Act) (w2:World) (ρ3:Sx.Ren),F1 D Try.prog G base Try.f9.ntmps ρ3 clX.sl clX.bl [D7 rK (l7 x (ks.mergeSort leP)),.int .i64 0] a2 w2->Nm n0 ρs W Kt s w0 clX.bl ρ3->Kp s w0 w2->Q .ret a2 w2) :
  (Code.seq (.region (IE [true,true,true,true,false] clB) o6 false) yP).wpIn (fw rd) 0 Try.prog Q a w:=by
 subst ho;have Y:a.tmps.size=Try.f9.ntmps:=A.size;have B:Q6 [D7 rK (l7 x ks),D7 rM x] (gE [D7 rK (l7 x ks),D7 rM x]):=fun j u hj=>by simp[gE,hj]
 obtain⟨q1,q2⟩:=@aF ⟨gE [D7 rK (l7 x ks),D7 rM x],G⟩ _ _ _ _ _ (A.fr _ B (2,own 2 0 13) (.head _));have q1:HL ρ2 2 (D7 rK (l7 x ks)) (a.tmps.getD 2 undef):=q1;have last:∀ (w':World),F1 D Try.prog G base Try.f9.ntmps ρ2 SL1 BL1 [D7 rK (l7 x (ks.mergeSort leP)),D7 rM x] a w'->Kp s w0 w'->wpL Try.prog rd o6 (Exit.then (yP.wpIn (fw rd) 0 Try.prog Q) Q) [] ((a.put (some 53) (a.tmps.getD 2 undef)).put (some 54) (.tuple #[])) w':=fun w' M I=>by
  show yP.wpIn (fw rd) 0 Try.prog Q _ _;exact A3W L base _ 0 _ _ (LP _ _) rfl rd W Kt s ρs w0 D _ (ring.of A0n) (fun a2 w2 ρ3 V R N=>hq a2 w2 ρ3 V R N) _ _ _ ((M.put (d:=53) (fun y K=>by rw[F7.1 K];decide)).put (d:=54) (fun y K=>by rw[F7.1 K];decide)) nm I
 refine wpIn_seq (R7 ?_);rw[A2m];refine dZ o60.2.2 (by unfold Oper.about;rw[o60.1]) (fun c=>by rw[o60.1];exact fun h=>by cases h) (A1Q (v:=a.tmps.getD 2 undef) o60.1 rfl) ?_;rw[o60.2.1];have i:(a.put (some 53) (a.tmps.getD 2 undef)).eval (.tmp 53)=a.tmps.getD 2 undef:=u5 (by rw[Y];exact Nat.lt_trans K3 n54);rcases q1 with⟨l,wd,r1,r2,m,r4⟩|⟨l,wd,rows,r1,r2,m,r4,r5,r6⟩
 ·
  rw[r4]at i last ⊢;have P:ks=[]:=by
   unfold l7 at m;split at m
   .assumption
   .rw[pR]at m;cases m
  refine sJ (f:=24) (args:=#[.slice none 0 0,.func (.func 25) #[] #[]]) o61.2.2 o61.1 (by
   simp only[U7,B9,E5,i];rfl) A3R ((PT none 0 w).mono fun e w' ⟨S,X⟩=>⟨_,S,?_⟩)
  rw[o61.2.1,X];refine last w ?_ kp;subst P;rw[List.mergeSort_nil];exact A
 ·
  rw[r6]at i last ⊢;have z:¬ks=[]:=fun e=>by
   unfold l7 at m;rw[B2 e]at m;rw[P0]at m;cases m
  have p:D7 rK (l7 x ks)=.seq false 3 (ks.map (lW x)):=by
   unfold l7;rw[B0 z,pR]
  have C:¬ks.mergeSort leP=[]:=fun e=>z (by
   have:=(Z9 ks leP).length_eq;rw[e]at this;exact D2.1 this.symm)
  have q:D7 rK (l7 x (ks.mergeSort leP))=.seq false 3 ((ks.mergeSort leP).map (lW x)):=by
   unfold l7;rw[B0 C,pR]
  obtain⟨l1,H,e2⟩:=A.mb (2,.sq 0 13 45 3) (.head _);have H:ρ2 2=some l1:=H;rw[r1]at H;cases H;have J:SqR Try.prog ρ2 (.seq false 3 (ks.toArray.toList.map (lW x))) (10+3) 45 3 false l w:=by
   have:=e2 _ B;have:SqR Try.prog ρ2 (D7 rK (l7 x ks)) 13 45 3 false l w:=this;rw[p]at this;exact this
  letI O:Ora:=⟨gE [D7 rK (l7 x ks),D7 rM x],G⟩
  obtain⟨hH,r,az,hblk⟩:=PS (FF x) (LE x) J r2;rw[<- r]at i;refine sJ (f:=24) (args:=#[.slice (some ⟨l.blk,l.sh,none⟩) ks.toArray.size l.cap,.func (.func 25) #[] #[]]) o61.2.2 o61.1 (by
   rw[r];rw[r]at i;simp only[U7,B9,E5,i];rfl) A3R ((A1E x l.blk l.sh l.cap ks.toArray w hH hblk (by simp;omega)).mono fun e w' ⟨S,n,os,X⟩=>⟨_,S,?_⟩)
  rw[o61.2.1,X];have E:=bC (w:=w) (encU:=lW x) (k:=3) (d':=(ks.toArray.toList.mergeSort leP).toArray) n os l.blk l.sh hblk;refine last _ ?_ ⟨⟨E.2.2.2.1.trans kp.os.1,E.2.2.2.2.1.trans kp.os.2.1,E.2.2.2.2.2.trans kp.os.2.2⟩,B8 kp.size E.2.2.1,fun k hk Z=>?_⟩
  .rw[q]
   have:=F1.sorted (encU:=lW x) (b:=2) (k:=3) (t:=2) (g:=3) (n:=n) (T:=45) (d:=ks.toArray) (d':=(ks.toArray.toList.mergeSort leP).toArray) (os:=os) (l:=l) (bl0:=[(3,.frz)]) (us:=[D7 rM x]) (by rw[<- p];exact A) rfl (FF x) (LE x) r1 r2 (by simp);exact this
  .have F:k≠l.blk:=fun e=>by
    subst e;rcases nm.own (2,.sq 0 13 45 3) (.head _) rfl l r1 r2 with h|h
    .omega
    .exact Z h
   rw[E.2.1 k (C9 hk kp.size) F];exact kp.keep k hk Z
set_option maxHeartbeats 4000000 in
def LN{G}(i:l9 G):WM Try.prog G gl n0 12 Try.f9.ntmps H0 yI gR clB:=by
 intro base us d outs X ag hX rd S Kt O ρs w D Q ring bm hq a1 w1 an ak ae af;obtain⟨l,rfl,hc,rfl,rfl⟩:=OE ag;have hX:X=clX:=(A5 hX).symm;subst hX;rw[A18];refine wpIn_seq (A3h i base _ 0 _ _ (LX l) rfl rd S Kt O ρs w D _ (ring.of A0y) (fun a2 w2 ρ2 aw ay au=>?_) a1 w1 an ak ae af);show Code.wpIn _ _ _ _ _ _ _;by_cases hr:rsP (el l)
 .have s2:yQ [D7 rR l,D7 rK none]=some (1,[D7 rR l,D7 rK none]):=(sD l none hc).trans (B2 hr);refine wpIn_seq (A0v i base _ 1 _ _ s2 rfl rd S Kt O ρs w D _ (ring.of VK) (fun a3 w3 ρ3 M H N=>?_) a2 w2 ρ2 aw ay au);show Code.wpIn _ _ _ _ _ _ _;refine wpIn_seq (A3c i base _ 0 _ _ (LV l none ⟨hc.1,hr.2⟩) rfl rd S Kt O ρs w D _ (ring.of A0s) (fun a4 w4 a r c f=>?_) a3 w3 ρ3 M H N);show Code.wpIn _ _ _ _ _ _ _;obtain⟨x,hx⟩:∃ x,x=ruL (el l) (some []):=⟨_,rfl⟩;have Y:GdM 5120 x:=by rw[hx];exact YK hr
  rw[<- hx]at r;have r:F1 D Try.prog G base Try.f9.ntmps a SL2 BLm [D7 rK none,D7 rM x] a4 w4:=r;have c:Nm n0 ρs S Kt O w BLm a:=c;obtain⟨p,f5,g5⟩:=r.mb (5,.mm 1 14 55) (by simp[BLm]);have f5:a 5=some p:=f5;obtain⟨_,ah⟩:=g5 (gE [D7 rK none,D7 rM x]) fun j u hj=>by simp[gE,hj]
  obtain⟨es,clock,ga,hm,hex,ad,F⟩:=A4T (x:=x) ah;have hp:=A4O r f5 hm;have ar:Nm n0 ρs (fun b=>X0 a 5 (some (J8 p.blk (.map es clock))) b) Kt O w BL2 (X0 a 5 (some (J8 p.blk (.map es clock)))):=by
   have E:p.on=true:=(g5 (gE [D7 rK none,D7 rM x]) fun j u hj=>by simp[gE,hj]).1.1;have back:∀ y ∈ BL2,y.1≠5->∃ z ∈ BLm,z.1=y.1/\z.2.rw=y.2.rw/\∀ l k,TcP y.2 l k↔TcP z.2 l k:=fun y g q=>by
    simp only[BL2,A8,C4,or_false]at g;rcases g with rfl|rfl|rfl|rfl
    .exact⟨(2,.sq 0 13 45 3),by simp[BLm],rfl,rfl,fun _ _=>Iff.rfl⟩
    .exact⟨(4,.cm 55 [.map (some 5)]),by simp[BLm],rfl,rfl,fun l k=>by simp[TcP,PB.rw]⟩
    .exact⟨(3,.frz),by simp[BLm],rfl,rfl,fun _ _=>Iff.rfl⟩
    .exact absurd rfl q
   refine⟨fun b hb=>absurd hb (bI _),fun b hb W=>?_,fun y g bo=>rfl,fun y g l' k n R=>?_,fun y g hw l' n ao=>?_⟩
   .have q:b≠5:=fun e=>W (by subst e;simp[BL2,nms])
    rw[M5 q];refine c.out b hb fun h=>W ?_
    simp only[BLm,nms,B9,E5,A8,C4,or_false]at h;rcases h with rfl|rfl|rfl|rfl<;>simp[BL2,nms]
   .by_cases q:y.1=5
    .rw[q,S1]at n;cases n;have:TcP (PB.mm 1 14 55) p k:=by
      simp only[BL2,A8,C4,or_false]at g;rcases g with rfl|rfl|rfl|rfl<;>first|(cases q;done)|skip
      rcases R with⟨_,_,e⟩|⟨e,_⟩
      .exact .inl ⟨rfl,E,e⟩
      .cases e
     exact c.tch (5,.mm 1 14 55) (by simp[BLm]) p k f5 this
    .rw[M5 q]at n;obtain⟨z,hz,P,T,e3⟩:=back y g q;exact c.tch z hz l' k (by rw[P];exact n) ((e3 _ _).1 R)
   .by_cases q:y.1=5
    .rw[q,S1]at n;cases n;exact c.own (5,.mm 1 14 55) (by simp[BLm]) rfl p f5 E
    .rw[M5 q]at n;obtain⟨z,hz,P,T,e3⟩:=back y g q;exact c.own z hz (by rw[T];exact hw) l' (by rw[P];exact n) ao
  obtain⟨I,f4,g4⟩:=hp.mb (4,.cells 55 [.map (some 5)]) (by simp[BL2]);have f4:X0 a 5 (some (J8 p.blk (.map es clock))) 4=some I:=f4;have V:Q6 [D7 rK none,D7 rM x] (gE [D7 rK none,D7 rM x]):=fun j u hj=>by simp[gE,hj]
  have aa:=hp.fr _ V (5,.pointer (some ⟨4,0,none⟩)) (by simp[SL2]);obtain⟨bz,k1,_,k2⟩:=@L8 ⟨gE [D7 rK none,D7 rM x],G⟩ _ _ _ aa;have k1:X0 a 5 (some (J8 p.blk (.map es clock))) 4=some bz:=k1;rw[f4]at k1;cases k1;have k2:a4.tmps.getD 5 undef=.pointer (some ⟨I.blk,0+I.sh,none⟩):=k2;obtain⟨h0,C,fz,T',c1,c2,_⟩:=g4 _ V;obtain⟨v',c3,c4⟩:=c2 0 _ rfl;obtain⟨br,c5,rfl⟩:=@nP ⟨gE [D7 rK none,D7 rM x],G⟩ _ _ _ c4;rw[S1]at c5;cases c5;have c3:C[I.sh+0]? = some (.map (some p.blk)):=c3;have av:a4.tmps.size=Try.f9.ntmps:=hp.size;have bn:=n54;refine wpIn_seq (wpIn_seq (R7 ?_));rw[A2n];refine OV (x:=.tmp 5) (t:=55) (b:=I.blk) (s:=0+I.sh) (v:=.map (some p.blk)) o50.2.2 o50.1 k2 A3r (by
   simp only[World.cell?,c1,Option.isSome_none,G4,if_false];rw[gK 0 I.sh];exact c3) ?_
  rw[o50.2.1];refine wI (m:=.tmp 17) (t:=55) (k:=58) (e:=60) (b:=p.blk) (clock:=clock) (es:=es) o51.2.2 o51.1 A2N (u5 (by rw[av];omega)) hm ?_;rw[o51.2.1];show Code.wpIn _ _ _ _ _ _ _;obtain⟨b,hb⟩:∃ b,b=p.blk:=⟨_,rfl⟩;rw[<- hb]at hm hp ar ⊢;have Z:b<w4.heap.size:=(B7.1 hm).1;obtain⟨w5,B⟩:∃ w',w'=w4.alloc (.mapIter (some b) clock #[] clock):=⟨_,rfl⟩;have A:=MapKept.heap_alloc w4 (.mapIter (some b) clock #[] clock);rw[<- B]at A ⊢;have al:w5.heap[w4.heap.size]? = some (.mapIter (some b) clock #[] clock):=by
   rw[B];show(w4.heap.push _)[w4.heap.size]? = _;rw[L2,B2 rfl]
  have bp:w5.heap.size=w4.heap.size+1:=by
   rw[B];show(w4.heap.push _).size=_;exact Array.size_push _
  have L:w5.os=w4.os/\w5.tape=w4.tape/\w5.output=w4.output:=by rw[B];exact⟨rfl,rfl,rfl⟩
  have aj:(none:Option (List (Int×Int×Int)))=l7 x (([]:List MapEntry).map fun e=>kM (ga e)):=rfl;refine wpIn_block (KH (es:=es) (JJ G base D ρs (fun b'=>X0 a 5 (some (J8 b (.map es clock))) b') Kt O w x ga b w4.heap.size clock es) ?_ fun seen done a' w' ax J=>?_)
  .refine⟨⟨_,?_,ar,fun y g l' n R=>?_,S1⟩,?_,?_,⟨clock,A7 _,al⟩,?_,f.size,A6⟩
   .rw[<- aj];refine F1.world ((hp.put (d:=17) (oV rfl)).put (d:=18) (oV rfl)) fun y g l' k n R=>A.2 k (hp.tc g n R)
   .exact Nat.lt_irrefl _ (hp.tc g n R)
   .exact⟨⟨L.1.trans f.os.1,L.2.1.trans f.os.2.1,L.2.2.trans f.os.2.2⟩,by have:=f.size;omega,fun k hk hn=>(A.2 k (C9 hk f.size)).trans (f.keep k hk hn)⟩
   .exact u5 (by rw[t8,av];omega)
   .rw[A.2 b Z];exact hm
  .refine UN i ring Y hex ad F ax J fun hz a6 w6 J6=>?_
   show Code.wpIn _ _ _ _ _ _ _;obtain⟨⟨bq,aq,bw,_,_⟩,ai,_⟩:=J6;have K:=ax.perm hz F.1;have az:(done.map fun e=>kM (ga e)).Perm ((el x).map kM):=by
    rw[hex,gL];exact K.map _
   refine A17 i ring rfl ?_ (TB aq) (A1m (φ':=S) bw) ai fun a7 w7 bu bt bx bs=>?_
   .have:=az.length_eq;rw[this,F0]
    have:=Y.le;omega
   .refine hq a7 w7 bu ?_ bx bs;have P:l7 x ((done.map fun e=>kM (ga e)).mergeSort leP)=clO (el l):=by
     rw[sV az,tW];unfold clO RN;rw[B2 hr,<- hx];unfold l7;by_cases he:el x=[]
     .rw[he,E5];rfl
     .rw[B0 he,B0 fun h=>he ?_]
      have:=(fU (l:=(el x).map kM)).length_eq;rw[h]at this;have h2:((el x).map kM).length=0:=this.symm;rw[F0]at h2;exact D2.1 h2
    have T:fZ (el l)=0:=B2 hr;rw[<- P,T];exact bt
 .have s2:yQ [D7 rR l,D7 rK none]=some (0,[D7 rK none,.int .i64 450]):=(sD l none hc).trans (B0 hr);refine wpIn_seq (A0v i base _ 0 _ _ s2 rfl rd S Kt O ρs w D _ (ring.of VK) (fun a3 w3 ρ3 M H N=>?_) a2 w2 ρ2 aw ay au);have P:clO (el l)=none:=B0 hr;have T:fZ (el l)=450:=B0 hr;rw[P,T]at hq;exact hq a3 w3 ρ3 M H N
#print axioms LN
def UL{G}(a:l9 G):ML Try.prog G gl 9 (RY Try.prog Try.f9 gl n0 12 yI gR):=fun E base=>by
 letI O:Ora:=⟨E,G⟩
 exact vB (L:=⟨e9 Try.prog gl n0 12 yI gR⟩) Try.func9 A3N (KC 9 _ Try.func9) (ZJ a A3L (LN a) E base)
#print axioms UL
open Go Go.Sx Go.Proofs.Try
def eqK(x y:Kt):Bool:=(x.1 == y.1) && ((x.2.1 == y.2.1) && ((x.2.2 == y.2.2) && true))
def A0N{x y:Kt}:eqK x y=true↔x=y:=by
 obtain⟨b,a2,a3⟩:=x;obtain⟨e,c,a⟩:=y;unfold eqK;simp only[H4,beq_iff_eq,J1,and_true]
def A4D{α:Type}{l r:List α}(h:l.length=r.length):(l.zip r).length=l.length:=by rw[List.length_zip];omega
def neK(p:Kt×Kt):Bool:=!eqK p.1 p.2
def A2q(q:Kt×Kt):neK q=true↔id q.1≠id q.2:=by
 unfold neK;cases h:eqK q.1 q.2 with
 | true=>have:=A0N.1 h;simp[this]
 | false=>simp only[jU,true_iff];intro e;have e:q.1=q.2:=e;rw[A0N.2 e]at h;cases h
def oT(a b:List Kt):Bool:=decide (a.length=b.length) && (Y2 neK (a.zip b) 0).isNone
def QM{a b:List Kt}(h:¬(a.length:Int)=b.length):oT a b=false:=by
 unfold oT;rw[L9 A6,Bool.false_and]
def QL{a b:List Kt}(h:(a.length:Int)=b.length)(c:Y2 neK (a.zip b) 0=none):oT a b=true:=by
 unfold oT;rw[Q7 A6,c];rfl
def QK{a b:List Kt}(c:Y2 neK (a.zip b) 0=some j):oT a b=false:=by
 unfold oT;rw[c,Option.isNone_some,Bool.and_false]
def A1P{a b:List Kt}:oT a b=true↔a=b:=by
 by_cases g:a.length=b.length
 .rcases BQ (f:=id) (p:=neK) A2q (i:=0) g with⟨h1,c⟩|⟨j,h1,_,c⟩
  .rw[List.map_id,List.map_id]at c;rw[QL A6 h1];simp[c]
  .rw[QK h1];simp only[G4,false_iff];intro e;rw[e]at c;exact c rfl
 .rw[QM A6];simp only[G4,false_iff];intro e;rw[e]at g;exact g rfl
def KA{p:Kt×Kt}(h:eqK p.1 p.2=false):neK p=true:=by unfold neK;rw[h];rfl
def KB{p:Kt×Kt}(h:eqK p.1 p.2=true):neK p=false:=by unfold neK;rw[h];rfl
def A2J{b:Bool}(h:(!b)=false):b=true:=by cases b<;>first|rfl|cases h
def A2K{b:Bool}(h:(!b)=true):b=false:=by cases b<;>first|rfl|cases h
abbrev Nt:=(Int×Int×Int×Bool)
def HH(x:Nt):Rt:=if x.2.2.2=true then(x.1%40,x.2.1%80,1+x.2.2.1%(40-x.1%40),1,true)else(x.1%40,x.2.1%80,1,1+x.2.2.1%(80-x.2.1%80),false)
def QV{x:Nt}(h:x.2.2.2=true):HH x=(x.1%40,x.2.1%80,1+x.2.2.1%(40-x.1%40),1,x.2.2.2):=by rw[h];exact B2 h
def QW{x:Nt}(h:x.2.2.2=false):HH x=(x.1%40,x.2.1%80,1,1+x.2.2.1%(80-x.2.1%80),x.2.2.2):=by rw[h];exact B0 (by rw[h];decide)
def ruA:List Nt->Nat->Option (List Rt)->Option (List Rt)
 | x::l,n+1,o=>ruA l n (some (el o++[HH x]))
 | _,_,o=>o
def A2Z{l:List Nt}{i:Int}(h0:0<=i)(h:i<(l.length:Int))(b:i<20):ruA (l.drop i.toNat) (20-i).toNat o=ruA (l.drop (i+1).toNat) (20-(i+1)).toNat (some (el o++[HH (l.getD i.toNat default)])):=by
 have a:i.toNat<l.length:=A6;rw[show(i+1).toNat=i.toNat+1 by omega,N5 a,show(20-i).toNat=(20-(i+1)).toNat+1 by omega];simp only[ruA,B3,A3 a,U5]
def A2a{l:List Nt}{i:Int}(h0:0<=i)(h:¬i<(l.length:Int)):ruA (l.drop i.toNat) (20-i).toNat o=o:=by
 rw[V7 A6];unfold ruA;rfl
def A2Y{l:List Nt}{i:Int}(a:¬i<20):ruA (l.drop i.toNat) (20-i).toNat o=o:=by
 rw[show(20-i).toNat=0 by omega];cases List.drop i.toNat l<;>rfl
def u8P(x:Int):Prop:=0<=x/\x<256
def nOk(x:Nt):Prop:=u8P x.1/\u8P x.2.1/\u8P x.2.2.1
instance(x:Nt):Decidable (nOk x):=by unfold nOk u8P;infer_instance
def A1F{α:Type}{o:Option (List α)}{x:α}:(el (some (el o++[x]))).length=(el o).length+1:=by rw[aI,G1];rfl
def XS{l:List Nt}(h:∀ x ∈ l,nOk x)(k:Nat):nOk (l.getD k default):=by
 by_cases hk:k<l.length
 .rw[B3,A3 hk];exact h _ (H6 hk)
 .rw[B3,L5 A6];unfold nOk u8P;decide
attribute [local irreducible] ruA
noncomputable def A2D:gH:=⟨_,fun a=>.nil⟩
def fG:List U->Option (Nat×List U)
 | [u_a,u_b,.int .i64 i]=>(R2 rK u_a).bind fun a=>(R2 rK u_b).bind fun b=>if 0<=i/\i<=((el a).length:Int)/\(el a).length=(el b).length/\((el a).length:Int)<=140737488351232 then sL (Y2 neK (((el a).zip (el b)).drop i.toNat) i) [] (fun _=>[])else none
 | _=>none
def iD(a:(Option (List (Int×Int×Int))))(b:(Option (List (Int×Int×Int))))(i:Int)(c:0<=i/\i<=((el a).length:Int)/\(el a).length=(el b).length/\((el a).length:Int)<=140737488351232):fG [D7 rK a,D7 rK b,.int .i64 i]=sL (Y2 neK (((el a).zip (el b)).drop i.toNat) i) [] (fun _=>[]):=by
 simp only[fG,J9,G2];exact B2 c
def HC:K0:=⟨[(0,dat 1 0 13),(1,dat 2 1 13),(5,h 2 3)],[(1,.frz),(2,.frz)],3,[⟨.exit 0,[],[],0⟩,⟨.ret,[(4,.bool false)],[],0⟩]⟩
noncomputable def HD:Code:=(f11.body).getD .skip
noncomputable def QB:Code:=match G5 [true,true,false,true,false] HD with|some (.loop x)=>x|_=>.skip
def HB:f11.body=some HD:=rfl
def GZ:G5 [true,true,false,true,false] HD=some (.loop QB):=F8
def QC:Tr:=aD [h 0 13]<|aL [h3 2,h3 3]<|.br 4 (.lt 8 (.inbs 3) [h3 2,h 0 13]<|.br 5 (.lt 3 (.get 3 0) [h 0 13,h3 2]<|.lt 3 (.get 3 1) [h 0 13,h3 2]<|.lt 3 (.get 3 2) [h 0 13,h3 2]<|.lt 8 (.inbs 3) [h3 2,h 1 13]<|.br 9 (.lt 3 (.get 3 0) [h 1 13,h3 2]<|.lt 3 (.get 3 1) [h 1 13,h3 2]<|.lt 3 (.get 3 2) [h 1 13,h3 2]<|.lt 8 (.eqs) [h3 6,h3 10,h3 7,h3 11,h3 8,h3 12]<|aX [h 13 8]<|.br 14 (.ret [jI 1]) (aA [h3 2,jI 1]<|.ret [jI (-1),h 0 13,h 1 13,h3 15])) (.no)) (.no)) (.ret [jI 0])
def HA:List U->Nat
 | [u_a,u_b,.int .i64 i]=>(match R2 rK u_a with|some a=>(match R2 rK u_b with|some b=>(((el a).length:Int)-i).toNat|none=>0)|none=>0)
 | _=>0
def JI(a:(Option (List (Int×Int×Int))))(b:(Option (List (Int×Int×Int))))(i:Int):HA [D7 rK a,D7 rK b,.int .i64 i]=(((el a).length:Int)-i).toNat:=by
 simp only[HA,J9]
def QD{G}(p:l9 G):∀ (E:Nat->U) (base:Nat),@x4 ⟨E,G⟩ prog base gl f11.ntmps QB (e9 prog gl n0 3 HC fG):=by
 refine kJ (dep:=60) (f:=11) (n0:=n0) (nB:=3) (H0:=H0) HA QC (cxg (A2D.2 p) .nil) p func11 HB GZ F8 F8 F8 ?_;intro us d outs c;have s:=c;unfold fG at c;split at c
 .skip;rename_i x w i;have n:=C3.1 c;clear c;obtain⟨a,l,c⟩:=n;replace l:=K1 l;subst l;have q:=C3.1 c;clear c;obtain⟨b,m,c⟩:=q;replace m:=K1 m;subst m;split at c
  .rename_i r;clear c s;have y:=A4D r.2.2.1;refine⟨rfl,?_⟩;unfold QC;refine w0 (.cons 2 _ (.cons 1 _ (.cons 0 _ (.nil)))) ?_;repeat (first|refine w4 (fun g=>?_) fun g=>?_|refine w4B (fun g=>?_) fun g=>?_|refine CB ?_|refine w1 (.get 3 0) (u:=.int .i64 _) (e:=N4 rfl A6 A6 rfl) (k':=?_)|refine w1 (.get 3 1) (u:=.int .i64 _) (e:=N4 rfl A6 A6 rfl) (k':=?_)|refine w1 (.get 3 2) (u:=.int .i64 _) (e:=N4 rfl A6 A6 rfl) (k':=?_)|refine JA ?_|refine A1A ?_|(refine w7 [.int .i64 _] ?_;rotate_left)|refine CE ?_|refine qB ?_|(refine w8 ?_;first|omega)|refine wN ?_|refine MR ?_|refine w1 (.eqs) (e:=rfl) (k':=?_)|(refine w7 [.int .i64 _,D7 rK _,D7 rK _,.int .i64 _] ?_;rotate_left))
   all_goals first
    | refine bW ?_ ?_
      .rw[iD a b (i+1) ⟨A6,A6,A6,A6⟩,iD a b i r,uF (i:=i) A6 A6 (by rw[IV A6 A6 A6];first|exact KA (A2K ‹_›)|exact KB (A2J ‹_›)|exact KA ‹_›|exact KB ‹_›)]
      .rw[JI,JI];omega
    | refine N7 (d:=0) ?_
      rw[iD a b i r,yA A6];rfl
    | refine N7 (d:=1) ?_
      rw[iD a b i r,xZ (i:=i) A6 A6 (by rw[IV A6 A6 A6];first|exact KA (A2K ‹_›)|exact KB (A2J ‹_›)|exact KA ‹_›|exact KB ‹_›)];rfl
  .cases c
 .cases c
noncomputable def A2G:List LpE:=(11,([true,true,false,true,false],e9 prog gl n0 3 HC fG))::[]
def ON{G}(a:l9 G):dU prog G gl A2G:=.cons func11 HB GZ (QD a) .nil
noncomputable def A3u:gH:=⟨_,fun a=>.nil⟩
def iE:List U->Option (Nat×List U)
 | [u_a,u_b]=>(R2 rK u_a).bind fun a=>(R2 rK u_b).bind fun b=>if((el a).length:Int)<=140737488351232/\((el b).length:Int)<=140737488351232 then some (0,[.bool (oT (el a) (el b))])else none
 | _=>none
def JL(a:(Option (List (Int×Int×Int))))(b:(Option (List (Int×Int×Int))))(c:((el a).length:Int)<=140737488351232/\((el b).length:Int)<=140737488351232):iE [D7 rK a,D7 rK b]=some (0,[.bool (oT (el a) (el b))]):=by
 simp only[iE,J9,G2];exact B2 c
def bB:Tr:=.ret [.bool false]
def A0A:Tr:=aD [h 0 13]<|aD [h 1 13]<|aN [h3 2,h3 3]<|.br 4 (bB) (.lp fG [h 0 13,h 1 13,jI 0] 0 0 (.ret [.bool true]) (.lp fG [h 0 13,h 1 13,jI 0] 1 0 (bB) (.no)))
def A0B{G}(i:l9 G):jO prog G 11 [.s 13,.s 13] iE [.s 8]:=by
 refine p8 (d:=60) A0A (cxg (A3u.2 i) (ON i)) i ⟨f11,_,func11,rfl⟩ F8 F8 ?_;intro us outs c;unfold iE at c;split at c
 .skip;rename_i n p;have m:=C3.1 c;clear c;obtain⟨a,e,c⟩:=m;replace e:=K1 e;subst e;have l:=C3.1 c;clear c;obtain⟨b,f,c⟩:=l;replace f:=K1 f;subst f;split at c
  .rename_i q;cases c;unfold A0A;refine w0 (.cons 1 _ (.cons 0 _ (.nil))) ?_;repeat (first|(refine w7 [.bool _] ?_;rotate_left)|refine wN ?_|refine A1B ?_|refine w4 (fun g=>?_) fun g=>?_|(refine w6 fG (iD _ _ _ ⟨K3,A6,A6,A6⟩) (h0:=fun g=>?_) (h1:=fun v g=>?_);skip;rotate_left;skip;rotate_right))
   all_goals
    refine l1 ?_;symm;first
    | exact QM A6
    | exact QL A6 ‹_›
    | exact QK ‹_›
  .cases c
 .cases c
noncomputable def MK:List LpE:=[(11,([true,true,false,true,false],e9 prog gl n0 3 HC fG))]
def vF{G}(a:l9 G):dU prog G gl MK:=(.cons func11 HB GZ (QD a) .nil)
noncomputable def A2E:gH:=⟨_,fun a=>.nil⟩
def lM:List U->Option (Nat×List U)
 | [u_o,.int .i64 i,u_l]=>(R2 rR u_o).bind fun o=>(R2 rN u_l).bind fun l=>if 0<=i/\i<=20/\((el o).length:Int)<=i/\(∀ x ∈ el l,nOk x)/\((el l).length:Int)<=140737488351232 then some (0,[D7 rR (ruA ((el l).drop i.toNat) (20-i).toNat o)])else none
 | _=>none
def mX(o:(Option (List (Int×Int×Int×Int×Bool))))(i:Int)(l:(Option (List (Int×Int×Int×Bool))))(a:0<=i/\i<=20/\((el o).length:Int)<=i/\(∀ x ∈ el l,nOk x)/\((el l).length:Int)<=140737488351232):lM [D7 rR o,.int .i64 i,D7 rN l]=some (0,[D7 rR (ruA ((el l).drop i.toNat) (20-i).toNat o)]):=by
 simp only[lM,J9,G2];exact B2 a
def QU:K0:=⟨[(1,.pointer (some ⟨1,0,none⟩)),(3,own 2 0 15),(4,h 1 3)],[(1,.cells 25 [dat 4 2 14]),(2,.sq 0 15 29 3),(3,.frz),(4,.frz)],3,[⟨.exit 0,[(3,own 5 0 15)],[(5,.sq 0 15 29 6),(6,.frz)],1⟩]⟩
noncomputable def HG:Code:=(f8.body).getD .skip
noncomputable def QQ:Code:=match G5 [true,true,false,true,false] HG with|some (.loop x)=>x|_=>.skip
def QT:f8.body=some HG:=rfl
def QS:G5 [true,true,false,true,false] HG=some (.loop QQ):=F8
def JM(n:Nat):Tr:=aA [h3 1,jI 1]<|.ret [jI (-1),h 19 15,h3 n,h 2 14]
def QR:Tr:=aD [h 2 14]<|aL [h3 1,h3 3]<|.br 4 (aL [h3 1,jI 20]<|.br 5 (.lt 8 (.inbs 4) [h3 1,h 2 14]<|.br 6 (.lt 4 (.get 4 0) [h 2 14,h3 1]<|.lt 4 (.get 4 1) [h 2 14,h3 1]<|.lt 4 (.get 4 2) [h 2 14,h3 1]<|.lt 8 (.get 4 3) [h 2 14,h3 1]<|.lt 4 (.bin .rem) [h 7 4,.int .u8 (40)]<|.lt 3 (.conv .i64) [h 11 4]<|.lt 4 (.bin .rem) [h 8 4,.int .u8 (80)]<|.lt 3 (.conv .i64) [h 13 4]<|.br 10 (.lt 3 (.conv .i64) [h 9 4]<|aS [jI 40,h3 12]<|.lt 3 (.bin .rem) [h3 15,h3 16]<|aA [jI 1,h3 17]<|.dt 15 (.snoc 5) [h 0 15,h3 12,h3 14,h3 18,jI 1,h 10 8]<|JM 20) (.lt 3 (.conv .i64) [h 9 4]<|aS [jI 80,h3 14]<|.lt 3 (.bin .rem) [h3 15,h3 16]<|aA [jI 1,h3 17]<|.dt 15 (.snoc 5) [h 0 15,h3 12,h3 14,jI 1,h3 18,h 10 8]<|JM 20)) (.no)) (.ret [jI 0,h 0 15])) (.ret [jI 0,h 0 15])
def HF:List U->Nat
 | [u_o,.int .i64 i,u_l]=>(match R2 rR u_o with|some o=>(match R2 rN u_l with|some l=>(20-i).toNat|none=>0)|none=>0)
 | _=>0
def JN(o:(Option (List (Int×Int×Int×Int×Bool))))(i:Int)(l:(Option (List (Int×Int×Int×Bool)))):HF [D7 rR o,.int .i64 i,D7 rN l]=(20-i).toNat:=by
 simp only[HF,J9]
def A1U{G}(n:l9 G):∀ (E:Nat->U) (base:Nat),@x4 ⟨E,G⟩ prog base gl f8.ntmps QQ (e9 prog gl n0 7 QU lM):=by
 refine kJ (dep:=60) (f:=8) (n0:=n0) (nB:=7) (H0:=H0) HF QR (cxg (A2E.2 n) (vF n)) n func8 QT QS F8 F8 F8 ?_;intro us d outs b;have w:=b;unfold lM at b;split at b
 .skip;rename_i x i y;have q:=C3.1 b;clear b;obtain⟨o,m,b⟩:=q;replace m:=K1 m;subst m;have p:=C3.1 b;clear b;obtain⟨l,c,b⟩:=p;replace c:=K1 c;subst c;split at b
  .rename_i s;clear b w;have z:=XS s.2.2.2.1 i.toNat;unfold nOk u8P at z;have h:0<=((el l).getD i.toNat default).2.2.1%(40-((el l).getD i.toNat default).1%40)/\((el l).getD i.toNat default).2.2.1%(40-((el l).getD i.toNat default).1%40)<40-((el l).getD i.toNat default).1%40:=⟨W7 _ A6,Q9 _ A6⟩;have z2:0<=((el l).getD i.toNat default).2.2.1%(80-((el l).getD i.toNat default).2.1%80)/\((el l).getD i.toNat default).2.2.1%(80-((el l).getD i.toNat default).2.1%80)<80-((el l).getD i.toNat default).2.1%80:=⟨W7 _ A6,Q9 _ A6⟩;refine⟨rfl,?_⟩;unfold QR;refine w0 (.cons 2 _ (.cons 1 _ (.cons 0 _ (.nil)))) ?_;repeat (first|refine A2O ?_|refine w1 (.bin .rem) (e:=IG _ _ _ A6) (k':=?_)|refine ZY ?_|refine PF ?_|refine CE ?_|refine qB ?_|refine A0_ ?_|refine PA ?_|refine w4 (fun g=>?_) fun g=>?_|refine MR ?_|refine w2 (.snoc 5) (r:=rR) (e:=jD (a:=(_,_,_,_,_)) rfl rfl K3 (by simp[*]<;>omega)) (k':=?_)|(refine w7 [.int .i64 _,D7 rR _,.int .i64 _,D7 rN _] ?_;rotate_left)|(refine w7 [.int .i64 _,D7 rR _] ?_;rotate_left)|refine wN ?_|refine CB ?_|refine w1 (.get 4 0) (u:=.int .u8 _) (e:=N4 rfl A6 A6 rfl) (k':=?_)|refine w1 (.get 4 1) (u:=.int .u8 _) (e:=N4 rfl A6 A6 rfl) (k':=?_)|refine w1 (.get 4 2) (u:=.int .u8 _) (e:=N4 rfl A6 A6 rfl) (k':=?_)|refine w1 (.get 4 3) (u:=.bool _) (e:=N4 rfl A6 A6 rfl) (k':=?_)|refine w4B (fun g=>?_) fun g=>?_|(refine w8 ?_;first|omega))
   all_goals first
    | refine bW ?_ ?_
      .rw[mX _ (i+1) l ⟨A6,A6,by rw[A1F];omega,s.2.2.2⟩,mX o i l s,A2Z (l:=el l) (i:=i) A6 A6 A6];first|rw[QV ‹_›]|rw[QW ‹_›]
      .rw[JN,JN];omega
    | refine N7 (d:=0) ?_
      rw[mX o i l s];first|rw[A2a A6 A6]|rw[A2Y A6]
  .cases b
 .cases b
noncomputable def A2H:List LpE:=(8,([true,true,false,true,false],e9 prog gl n0 7 QU lM))::MK
def OO{G}(a:l9 G):dU prog G gl A2H:=.cons func8 QT QS (A1U a) (vF a)
end
section
open Go Go.Sx Go.Proofs.Try
def BE(l:List Rt):((el (clO l)).length:Int)<=5120:=by
 unfold clO;split
 .rename_i h;have g:=YK h;unfold RN;split
  .decide
  .have:=(fU (l:=(el (ruL l (some []))).map kM)).length_eq;rw[aI,F0,this,F0]
   have:=g.le;omega
 .decide
def ruZ(l:Option (List Nt)):Option (List Rt):=ruA (el l) 20 none
noncomputable def A3v:gH:=⟨_,fun a=>.nil⟩
def wZ:List U->Option (Nat×List U)
 | [u_l]=>(R2 rN u_l).bind fun l=>if(∀ x ∈ el l,nOk x)/\((el l).length:Int)<=140737488351232 then some (0,[D7 rR (ruZ l)])else none
 | _=>none
def XE(l:(Option (List (Int×Int×Int×Bool))))(a:(∀ x ∈ el l,nOk x)/\((el l).length:Int)<=140737488351232):wZ [D7 rN l]=some (0,[D7 rR (ruZ l)]):=by
 simp only[wZ,J9,G2];exact B2 a
def A0E:Tr:=.dt 15 (.nilw 5) []<|.fn lM [h 1 15,jI 0,h 0 14] 1<|.ret [h 2 15]
def A2V{G}(f:l9 G):jO prog G 8 [.a [14]] wZ [.s 15]:=by
 refine p8 (d:=60) A0E (cxg (A3v.2 f) (OO f)) f ⟨f8,_,func8,rfl⟩ F8 F8 ?_;intro us outs c;unfold wZ at c;split at c
 .skip;rename_i m;have g:=C3.1 c;clear c;obtain⟨l,b,c⟩:=g;replace b:=K1 b;subst b;split at c
  .rename_i i;cases c;have n:(el l).drop (0:Int).toNat=el l:=rfl;unfold A0E;refine w0 (.cons 0 _ (.nil)) ?_;repeat (first|refine w2 (.nilw 5) (r:=rR) (e:=jE rfl) (k':=?_)|refine w31 lM (e:=mX _ _ _ ⟨K3,K3,K3,i.1,i.2⟩) (k':=?_)|(refine w7 [D7 rR _] ?_;rotate_left))
   all_goals
    rfl
  .cases c
 .cases c
noncomputable def A3w:gH:=⟨_,fun a=>(.consM (UL a) (.cons (A0B a) .nil))⟩
def yE:List U->Option (Nat×List U)
 | [u_l,u_m]=>(R2 rR u_l).bind fun l=>(R2 rK u_m).bind fun m=>if(((el l).length:Int)<=140737488351232/\(∀ r ∈ el l,rOk r))/\((el m).length:Int)<=140737488351232 then some (0,[.bool ((decide (fZ (el l)=0) && oT (el (clO (el l))) (el m)))])else none
 | _=>none
def ZB(l:(Option (List (Int×Int×Int×Int×Bool))))(m:(Option (List (Int×Int×Int))))(a:(((el l).length:Int)<=140737488351232/\(∀ r ∈ el l,rOk r))/\((el m).length:Int)<=140737488351232):yE [D7 rR l,D7 rK m]=some (0,[.bool ((decide (fZ (el l)=0) && oT (el (clO (el l))) (el m)))]):=by
 simp only[yE,J9,G2];exact B2 a
def A0O:Tr:=.fn gR [h 0 15] 2<|aE [h3 3,jI 0]<|.br 4 (.fn iE [h 2 13,h 1 13] 1<|.ret [h 5 8]) (bB)
def A0P{G}(n:l9 G):jO prog G 19 [.s 15,.s 13] yE [.s 8]:=by
 refine p8 (d:=60) A0O (cxg (A3w.2 n) .nil) n ⟨f19,_,func19,rfl⟩ F8 F8 ?_;intro us outs a;unfold yE at a;split at a
 .skip;rename_i p r;have f:=C3.1 a;clear a;obtain⟨l,b,a⟩:=f;replace b:=K1 b;subst b;have i:=C3.1 a;clear a;obtain⟨m,c,a⟩:=i;replace c:=K1 c;subst c;split at a
  .rename_i q;cases a;have u:=BE (el l);unfold A0O;refine w0 (.cons 1 _ (.cons 0 _ (.nil))) ?_;repeat (first|(refine w7 [.bool _] ?_;rotate_left)|refine w32 gR (e:=LM _ q.1) (k':=?_)|refine WU ?_|refine w4 (fun g=>?_) fun g=>?_|refine w31 iE (e:=JL _ _ ⟨A6,A6⟩) (k':=?_))
   all_goals
    refine l1 ?_;first|(rw[Q7 ‹_›];rfl)|(rw[L9 ‹_›];rfl)
  .cases a
 .cases a
noncomputable def A3t:gH:=⟨_,fun a=>(.cons (A0P a) (.cons (UH a) .nil))⟩
def BU:List U->Option (Nat×List U)
 | []=>some (0,[.bool (True)])
 | _=>none
def WQ :BU []=some (0,[.bool (True)]):=rfl
def A2L{G}(a:l9 G):jO prog G 14 [] BU [.s 8]:=by
 refine wA (d:=60) (cxg (A3t.2 a) .nil) a ⟨f14,_,func14,rfl⟩ ?_;intro us outs b;unfold BU at b;split at b
 .cases b;exact⟨List.replicate 5 1,by kernel_rfl⟩
 .cases b
def pk(i j:Int)(b:Mt):Bool:=decide (b.1=i/\b.2.1=j)
def A2h(i j:Int):(fun b:Mt=>(i == b.1) && ((j == b.2.1) && true))=pk i j:=by
 funext b;unfold pk;rw[I0,decide_eq_true_iff];simp only[H4,beq_iff_eq,and_true];constructor
 .rintro⟨h1,a⟩;exact⟨h1.symm,a.symm⟩
 .rintro⟨h1,a⟩;exact⟨h1.symm,a.symm⟩
def KW{a:Mt}{i j:Int}:∀ {R:List Mt},(iK qq a R).find? (pk i j)=if a.1=i/\a.2.1=j then some a else R.find? (pk i j)
 | []=>by
   show List.find? (pk i j) [a]=_;rw[N2];by_cases h:a.1=i/\a.2.1=j
   .rw[B2 h,show pk i j a=true from Q7 h]
   .rw[B0 h,show pk i j a=false from L9 h]
 | b::R=>by
   unfold iK;cases f:qq a b with
   | true =>
     have hk:(a.1,a.2.1)=(b.1,b.2.1):=XJ.1 f;have l:a.1=b.1:=(Prod.mk.inj hk).1;have m:a.2.1=b.2.1:=(Prod.mk.inj hk).2;rw[B2 rfl,N2,N2];by_cases h:a.1=i/\a.2.1=j
     .rw[B2 h,show pk i j a=true from Q7 h]
     .rw[B0 h,show pk i j a=false from L9 h,show pk i j b=false from L9 (by rw[<- l,<- m];exact h)]
   | false =>
     rw[B0 K3,N2,N2,KW];by_cases c:b.1=i/\b.2.1=j
     .have e:¬(a.1=i/\a.2.1=j):=fun h=>by
       have:qq a b=true:=XJ.2 (by unfold kM;rw[h.1,h.2,c.1,c.2]);rw[this]at f;cases f
      have g:pk i j b=true:=Q7 c;rw[g];exact(B0 e).symm
     .rw[show pk i j b=false from L9 c]
def SZ{a:Mt}{i:Int}{R:List Mt}:(iK qq a R).find? (fun b=>(i == b.1) && ((j == b.2.1) && true))=if a.1=i/\a.2.1=j then some a else R.find? (fun b=>(i == b.1) && ((j == b.2.1) && true)):=by
 rw[A2h];exact KW
def TC{x:Option (List Mt)}(h:x≠none){r c i:Int} :fK (stM x r c v) i j=if r=i/\c=j then some (r,c,fV x r c || v,fH x r c || !v)else fK x i j:=by
 cases x with
 | none=>exact absurd rfl h
 | some l=>exact SZ (a:=(r,c,fV (some l) r c || v,fH (some l) r c || !v)) (R:=l)
def ST{x:Option (List Mt)}{i:Int}:isM x i j=(fK x i j).isSome:=by
 unfold isM fK;rw[I0,L1,List.find?_isSome]
structure Sm (x:Option (List Mt)) (A B C:Int->Int->Prop):Prop where
 nn:x≠none
 a:∀ i j,isM x i j=true↔A i j
 b:∀ i j,fV x i j=true↔B i j
 c:∀ i j,fH x i j=true↔C i j
def Sm.st{x:Option (List Mt)}{A B C:Int->Int->Prop}(h:Sm x A B C){r c:Int} :Sm (stM x r c v) (fun i j=>A i j∨(r=i/\c=j)) (fun i j=>B i j∨((r=i/\c=j)/\v=true)) (fun i j=>C i j∨((r=i/\c=j)/\v=false)):=by
 refine⟨PQ h.nn,fun i j=>?_,fun i j=>?_,fun i j=>?_⟩
 .rw[ST,TC h.nn];by_cases hk:r=i/\c=j
  .rw[B2 hk];simp[hk]
  .rw[B0 hk,<- ST,h.a];simp[hk]
 .unfold fV;rw[TC h.nn];by_cases hk:r=i/\c=j
  .rw[B2 hk];obtain⟨rfl,rfl⟩:=hk;simp only[Option.elim,G0,h.b,and_self,true_and]
  .rw[B0 hk];show fV x i j=true↔_;rw[h.b];simp[hk]
 .unfold fH;rw[TC h.nn];by_cases hk:r=i/\c=j
  .rw[B2 hk];obtain⟨rfl,rfl⟩:=hk;simp only[Option.elim,G0,h.c,and_self,true_and,Bool.not_eq_true']
  .rw[B0 hk];show fH x i j=true↔_;rw[h.c];simp[hk]
def Sm.iff{x:Option (List Mt)}{A B C f e C':Int->Int->Prop}(h:Sm x A B C)(l:∀ i j,A i j↔f i j)(g:∀ i j,B i j↔e i j)(m:∀ i j,C i j↔C' i j):Sm x f e C' :=
 ⟨h.nn,fun i j=>(h.a i j).trans (l i j),fun i j=>(h.b i j).trans (g i j),fun i j=>(h.c i j).trans (m i j)⟩
def Sm.add{x:Option (List Mt)}{A B C P Q:Int->Int->Prop}(h:Sm x (fun i j=>A i j∨P i j) (fun i j=>B i j∨(P i j/\v=true)) (fun i j=>C i j∨(P i j/\v=false)))(a:∀ i j,P i j↔Q i j):Sm x (fun i j=>A i j∨Q i j) (fun i j=>B i j∨(Q i j/\v=true)) (fun i j=>C i j∨(Q i j/\v=false)) :=
 h.iff (fun i j=>by rw[a]) (fun i j=>by rw[a]) fun i j=>by rw[a]
def Sm.two{x:Option (List Mt)}{A B C P Q R:Int->Int->Prop}(h:Sm x (fun i j=>(A i j∨P i j)∨Q i j) (fun i j=>(B i j∨(P i j/\v=true))∨(Q i j/\v=true)) (fun i j=>(C i j∨(P i j/\v=false))∨(Q i j/\v=false)))(hr:∀ i j,R i j↔(P i j∨Q i j)) :
  Sm x (fun i j=>A i j∨R i j) (fun i j=>B i j∨(R i j/\v=true)) (fun i j=>C i j∨(R i j/\v=false)) :=
 h.iff (fun i j=>by rw[hr,or_assoc]) (fun i j=>by rw[hr,or_assoc,<- or_and_right]) fun i j=>by rw[hr,or_assoc,<- or_and_right]
def Sm.co{r c:Int} :∀ {m:Nat} {j0:Int} {x:Option (List Mt)} {A B C:Int->Int->Prop},Sm x A B C->Sm (coN r c v m j0 x) (fun i j=>A i j∨(r=i/\c+j0<=j/\j<c+j0+m)) (fun i j=>B i j∨((r=i/\c+j0<=j/\j<c+j0+m)/\v=true)) (fun i j=>C i j∨((r=i/\c+j0<=j/\j<c+j0+m)/\v=false))
 | 0,j0,x,A,B,C,h=>h.iff (fun i j=>⟨.inl,fun q=>q.elim id fun q=>by omega⟩) (fun i j=>⟨.inl,fun q=>q.elim id fun q=>by omega⟩) fun i j=>⟨.inl,fun q=>q.elim id fun q=>by omega⟩
 | m+1,j0,x,A,B,C,h=>by
   have:Sm (coN r c v m (j0+1) (stM x r (c+j0) v)) _ _ _:=Sm.co (h.st (r:=r) (c:=c+j0) (v:=v));exact this.two fun i j=>by push_cast;omega
def Sm.ro{r c w:Int}(hw:0<=w):∀ {m:Nat} {i0:Int} {x:Option (List Mt)} {A B C:Int->Int->Prop},Sm x A B C->Sm (roN r c w v m i0 x) (fun i j=>A i j∨((r+i0<=i/\i<r+i0+m)/\c<=j/\j<c+w)) (fun i j=>B i j∨(((r+i0<=i/\i<r+i0+m)/\c<=j/\j<c+w)/\v=true)) (fun i j=>C i j∨(((r+i0<=i/\i<r+i0+m)/\c<=j/\j<c+w)/\v=false))
 | 0,i0,x,A,B,C,h=>h.iff (fun i j=>⟨.inl,fun q=>q.elim id fun q=>by omega⟩) (fun i j=>⟨.inl,fun q=>q.elim id fun q=>by omega⟩) fun i j=>⟨.inl,fun q=>q.elim id fun q=>by omega⟩
 | m+1,i0,x,A,B,C,h=>by
   have:Sm (roN r c w v m (i0+1) (coN (r+i0) c v w.toNat 0 x)) _ _ _:=Sm.ro hw (h.co (r:=r+i0) (c:=c) (v:=v) (m:=w.toNat) (j0:=0));exact this.two fun i j=>by push_cast;omega
def inR(r:Rt)(i j:Int):Prop:=(r.1<=i/\i<r.1+r.2.2.1)/\r.2.1<=j/\j<r.2.1+r.2.2.2.1
def Sm.ru{r:Rt}(a:vP r){x:Option (List Mt)}{A B C:Int->Int->Prop}(h:Sm x A B C):Sm (ruN x r) (fun i j=>A i j∨inR r i j) (fun i j=>B i j∨(inR r i j/\r.2.2.2.2=true)) (fun i j=>C i j∨(inR r i j/\r.2.2.2.2=false)):=by
 obtain⟨_,h1,b,h3,e,f,g⟩:=a
 have:=h.ro (r:=r.1) (c:=r.2.1) (w:=r.2.2.2.1) (v:=r.2.2.2.2) A6 (m:=r.2.2.1.toNat) (i0:=0);exact this.add fun i j=>by unfold inR;omega
def inV(l:List Rt)(i j:Int):Prop:=∃ r ∈ l,inR r i j/\r.2.2.2.2=true
def inH(l:List Rt)(i j:Int):Prop:=∃ r ∈ l,inR r i j/\r.2.2.2.2=false
def inA(l:List Rt)(i j:Int):Prop:=∃ r ∈ l,inR r i j
def AU{α:Type}{a:α}{l:List α}{p:α->Prop}:(∃ r ∈ a::l,p r)↔(p a∨∃ r ∈ l,p r):=by
 constructor
 .rintro⟨r,h1,b⟩
  rcases A8.1 h1 with rfl|h1
  .exact .inl b
  .exact .inr ⟨r,h1,b⟩
 .rintro(h|⟨r,h1,b⟩)
  .exact⟨a,B5,h⟩
  .exact⟨r,C5 _ h1,b⟩
def Sm.rul:∀ {l:List Rt} {x:Option (List Mt)} {A B C:Int->Int->Prop},(∀ r ∈ l,vP r)->Sm x A B C->Sm (ruL l x) (fun i j=>A i j∨inA l i j) (fun i j=>B i j∨inV l i j) (fun i j=>C i j∨inH l i j)
 | [],x,A,B,C,_,h=>h.iff (fun i j=>⟨.inl,fun q=>q.elim id (fun⟨r,h,_⟩=>by cases h)⟩) (fun i j=>⟨.inl,fun q=>q.elim id (fun⟨r,h,_⟩=>by cases h)⟩) fun i j=>⟨.inl,fun q=>q.elim id (fun⟨r,h,_⟩=>by cases h)⟩
 | r::l,x,A,B,C,hv,h=>by
   have:=Sm.rul (l:=l) (fun r hr=>hv r (C5 _ hr)) (h.ru (hv r B5));refine this.iff (fun i j=>?_) (fun i j=>?_) fun i j=>?_
   .unfold inA;rw[or_assoc,AU]
   .unfold inV;rw[or_assoc,AU (p:=fun r=>inR r i j/\r.2.2.2.2=true)]
   .unfold inH;rw[or_assoc,AU (p:=fun r=>inR r i j/\r.2.2.2.2=false)]
def sm0{l:List Rt}(h:∀ r ∈ l,vP r):Sm (ruL l (some [])) (inA l) (inV l) (inH l):=by
 have h0:Sm (some []) (fun _ _=>False) (fun _ _=>False) (fun _ _=>False):=⟨U0 _,fun i j=>⟨(fun h=>by cases h),False.elim⟩,fun i j=>⟨(fun h=>by cases h),False.elim⟩,fun i j=>⟨(fun h=>by cases h),False.elim⟩⟩;exact(h0.rul h).iff (fun i j=>by simp) (fun i j=>by simp) fun i j=>by simp
def KF{x:Option (List Mt)}{p:Int×Int}:p ∈ (el x).map kM↔isM x p.1 p.2=true:=by
 unfold isM;rw[L1,I5];constructor
 .rintro⟨a,h1,b⟩
  refine⟨a,h1,?_⟩;rw[<- b];simp[kM]
 .rintro⟨a,h1,b⟩
  refine⟨a,h1,?_⟩;simp at b;exact Prod.ext b.1.symm b.2.symm
def FM{l l':List Rt}(h:rsP l)(m:rsP l')(C:∀ i j,inV l i j↔inV l' i j)(hH:∀ i j,inH l i j↔inH l' i j):clO l=clO l':=by
 have s:=sm0 h.2;have w:=sm0 m.2;have g:=YK h;have n:=YK m;have A:∀ (L:List Rt) i j,inA L i j↔(inV L i j∨inH L i j):=fun L i j=>by
  unfold inA inV inH;constructor
  .rintro⟨r,h1,e⟩
   cases z:r.2.2.2.2
   .exact .inr ⟨r,h1,e,z⟩
   .exact .inl ⟨r,h1,e,z⟩
  .rintro(⟨r,h1,e,_⟩|⟨r,h1,e,_⟩)<;>exact⟨r,h1,e⟩
 have f:∀ i j,isM (ruL l (some [])) i j=isM (ruL l' (some [])) i j:=fun i j=>by rw[I0,s.a,w.a,A,A,C,hH]
 have y:∀ i j,fV (ruL l (some [])) i j=fV (ruL l' (some [])) i j:=fun i j=>by rw[I0,s.b,w.b,C]
 have u:∀ i j,fH (ruL l (some [])) i j=fH (ruL l' (some [])) i j:=fun i j=>by rw[I0,s.c,w.c,hH]
 unfold clO;rw[B2 h,B2 m];revert g n f y u;generalize ruL l (some [])=x;generalize ruL l' (some [])=x';intro g n f y u;have hp:((el x).map kM).Perm ((el x').map kM):=(dE g.nd n.nd).2 fun p=>by rw[KF,KF,f]
 have D:nN ((el x).map kM)=nN ((el x').map kM):=by rw[<- tW,<- tW];exact sV hp
 have hm:mark x=mark x':=funext fun p=>by
  unfold mark OC mkC mkS cnS;simp only[f,y,u]
 have B:el x=[]↔el x'=[]:=by
  have:=hp.length_eq;rw[F0,F0]at this;rw[<- D2,<- D2,this]
 unfold RN;rw[D,hm];by_cases he:el x=[]
 .rw[B2 he,B2 (B.1 he)]
 .rw[B0 he,B0 fun q=>he (B.2 q)]
def CT:∀ {l:List Nt} {n:Nat} {o:Option (List Rt)},el (ruA l n o)=el o++(l.take n).map HH
 | [],n,o=>by cases n<;>simp[ruA]
 | x::l,0,o=>by simp[ruA]
 | x::l,n+1,o=>by
   show el (ruA l n (some (el o++[HH x])))=_;rw[CT,aI,S4,List.take_succ_cons,B9];rfl
def WT{x:Nt}(h:nOk x):vP (HH x):=by
 obtain⟨⟨b,a2⟩,⟨e,c⟩,⟨c1,c2⟩⟩:=h;have f:0<=x.2.2.1%(40-x.1%40)/\x.2.2.1%(40-x.1%40)<40-x.1%40:=⟨W7 _ A6,Q9 _ A6⟩;have z2:0<=x.2.2.1%(80-x.2.1%80)/\x.2.2.1%(80-x.2.1%80)<80-x.2.1%80:=⟨W7 _ A6,Q9 _ A6⟩;cases a:x.2.2.2 with
 | true =>
   rw[QV a,a];refine(MO rfl).2 ⟨rfl,?_,?_,?_,?_,?_,?_⟩<;>dsimp only<;>omega
 | false =>
   rw[QW a,a];refine(MP rfl).2 ⟨rfl,?_,?_,?_,?_,?_,?_⟩<;>dsimp only<;>omega
def A1V{l:Option (List Nt)}(h:∀ x ∈ el l,nOk x):(el (ruZ l)).length<=20/\∀ r ∈ el (ruZ l),vP r:=by
 unfold ruZ;rw[CT];refine⟨by simp[el];omega,fun r hr=>?_⟩;rw[show(el (none:Option (List Rt)))=[]from rfl,P6]at hr;obtain⟨x,a,rfl⟩:=I5.1 hr;exact WT (h x (aY a))
def RW(a:Int)(n:Nat):n=0∨(0<=a%(n:Int)/\a%(n:Int)<(n:Int)):=by
 by_cases h:n=0
 .exact .inl h
 .exact .inr ⟨W7 _ A6,Q9 _ A6⟩
def A1W{r:Rt}(h:vP r):rOk r:=by
 obtain⟨h0,h1,a,h3,b,c,e⟩:=h;unfold rOk EQ;refine⟨?_,?_,?_,?_⟩<;>omega
def SA{l:List Rt}(h:l≠[]){r:Rt}:r ∈ (l.drop k++l.take k)++[l.getD 0 default]↔r ∈ l:=by
 rw[B4,B4,F7];have h0:l.getD 0 default ∈ l:=by
  cases l with
  | nil=>exact absurd rfl h
  | cons a l=>exact B5
 constructor
 .rintro((h|h)|rfl)
  .exact List.mem_of_mem_drop h
  .exact aY h
  .exact h0
 .intro hr;rw[<- List.take_append_drop k l,B4]at hr;exact .inl hr.symm
def CL{T:List Rt}{n:Nat}(b:n<T.length){r1 r2:Rt}{p:Rt->Prop}(hp:p (T.getD n default)↔(p r1∨p r2)):(∃ r ∈ T.set n r1++[r2],p r)↔∃ r ∈ T,p r:=by
 have c:T.getD n default=T[n]:=by rw[B3,A3 b];rfl
 rw[c]at hp;constructor
 .rintro⟨r,h1,a⟩
  rcases B4.1 h1 with h1|h1
  .rcases Z3 h1 with h1|rfl
   .exact⟨r,h1,a⟩
   .exact⟨T[n],H6 b,hp.2 (.inl a)⟩
  .rw[F7.1 h1]at a;exact⟨T[n],H6 b,hp.2 (.inr a)⟩
 .rintro⟨r,h1,a⟩
  obtain⟨m,hm,rfl⟩:=U1 h1;by_cases e:m=n
  .subst e;rcases hp.1 a with h|h
   .exact⟨r1,B4.2 (.inl (List.mem_set hm r1)),h⟩
   .exact⟨r2,B4.2 (.inr (F7.2 rfl)),h⟩
  .refine⟨T[m],B4.2 (.inl ?_),a⟩;have:(T.set n r1)[m]'(by simpa using hm)=T[m]:=List.getElem_set_ne (fun q=>e q.symm) _;rw[<- this];exact H6 _
def wM{l T:List Rt}(a:∀ r,r ∈ T↔r ∈ l):(∀ i j,inV l i j↔inV T i j)/\(∀ i j,inH l i j↔inH T i j):=by
 constructor
 .intro i j;unfold inV;exact⟨fun⟨r,h,k⟩=>⟨r,(a r).2 h,k⟩,fun⟨r,h,k⟩=>⟨r,(a r).1 h,k⟩⟩
 .intro i j;unfold inH;exact⟨fun⟨r,h,k⟩=>⟨r,(a r).2 h,k⟩,fun⟨r,h,k⟩=>⟨r,(a r).1 h,k⟩⟩
def BJ{l T:List Rt}(f:∀ r ∈ l,vP r)(c:l.length<=64)(e:T.length<=64)(i:∀ r,r ∈ T↔r ∈ l):fZ T=0/\clO T=clO l:=by
 have h1:rsP l:=⟨c,f⟩;have g:rsP T:=⟨e,fun r hr=>f r ((i r).1 hr)⟩;obtain⟨a,b⟩:=wM i;exact⟨B2 g,(FM h1 g a b).symm⟩
def FV{l T:List Rt}{n:Nat}(s:∀ r ∈ l,vP r)(f:l.length<=64)(u:T.length<=63)(m:∀ r,r ∈ T↔r ∈ l)(q:n<T.length){r1 r2:Rt}(v1:vP r1)(v2:vP r2)
  (hp:∀ i j,inR (T.getD n default) i j↔(inR r1 i j∨inR r2 i j)) (e:r1.2.2.2.2=(T.getD n default).2.2.2.2) (c:r2.2.2.2.2=(T.getD n default).2.2.2.2):fZ (T.set n r1++[r2])=0/\clO (T.set n r1++[r2])=clO l:=by
 obtain⟨a,b⟩:=wM m;have h1:rsP l:=⟨f,s⟩;have g:rsP (T.set n r1++[r2]):=⟨by rw[G1,W6];simp;omega,fun r hr=>by
  rcases B4.1 hr with hr|hr
  .rcases Z3 hr with hr|rfl
   .exact s r ((m r).1 hr)
   .exact v1
  .rw[F7.1 hr];exact v2⟩
 refine⟨B2 g,(FM h1 g (fun i j=>(a i j).trans ?_) fun i j=>(b i j).trans ?_).symm⟩
 .unfold inV;refine(CL q (p:=fun r=>inR r i j/\r.2.2.2.2=true) ?_).symm;rw[e,c,hp];exact or_and_right
 .unfold inH;refine(CL q (p:=fun r=>inR r i j/\r.2.2.2.2=false) ?_).symm;rw[e,c,hp];exact or_and_right
def A2A{l T:List Rt}{n:Nat}(f:∀ r ∈ l,vP r)(a:l.length<=64)(b:T.length<=63)(g:∀ r,r ∈ T↔r ∈ l)(c:n<T.length)(h0:1<=at_)(h1:at_<(T.getD n default).2.2.1)(e:(T.getD n default).2.2.2.2=true) :
  fZ (T.set n ((T.getD n default).1,(T.getD n default).2.1,at_,1,true)++[((T.getD n default).1+at_,(T.getD n default).2.1,(T.getD n default).2.2.1-at_,1,true)])=0/\clO (T.set n ((T.getD n default).1,(T.getD n default).2.1,at_,1,true)++[((T.getD n default).1+at_,(T.getD n default).2.1,(T.getD n default).2.2.1-at_,1,true)])=clO l:=by
 have hm:T.getD n default ∈ T:=by rw[B3,A3 c];exact H6 c
 have hr:=f _ ((g _).1 hm);rw[MO e]at hr;refine FV f a b g c ?_ ?_ (fun i j=>?_) e.symm e.symm
 .refine(MO rfl).2 ⟨rfl,?_,?_,?_,?_,?_,?_⟩<;>dsimp only<;>omega
 .refine(MO rfl).2 ⟨rfl,?_,?_,?_,?_,?_,?_⟩<;>dsimp only<;>omega
 .unfold inR;dsimp only;omega
def A2B{l T:List Rt}{n:Nat}(f:∀ r ∈ l,vP r)(a:l.length<=64)(b:T.length<=63)(g:∀ r,r ∈ T↔r ∈ l)(c:n<T.length)(h0:1<=at_)(h1:at_<(T.getD n default).2.2.2.1)(e:(T.getD n default).2.2.2.2=false) :
  fZ (T.set n ((T.getD n default).1,(T.getD n default).2.1,1,at_,false)++[((T.getD n default).1,(T.getD n default).2.1+at_,1,(T.getD n default).2.2.2.1-at_,false)])=0/\clO (T.set n ((T.getD n default).1,(T.getD n default).2.1,1,at_,false)++[((T.getD n default).1,(T.getD n default).2.1+at_,1,(T.getD n default).2.2.2.1-at_,false)])=clO l:=by
 have hm:T.getD n default ∈ T:=by rw[B3,A3 c];exact H6 c
 have hr:=f _ ((g _).1 hm);rw[MP e]at hr;refine FV f a b g c ?_ ?_ (fun i j=>?_) e.symm e.symm
 .refine(MP rfl).2 ⟨rfl,?_,?_,?_,?_,?_,?_⟩<;>dsimp only<;>omega
 .refine(MP rfl).2 ⟨rfl,?_,?_,?_,?_,?_,?_⟩<;>dsimp only<;>omega
 .unfold inR;dsimp only;omega
def A2t(a x:Int):x<=0∨(0<=a%x/\a%x<x):=by
 by_cases h:x<=0
 .exact .inl h
 .exact .inr ⟨W7 _ A6,Q9 _ A6⟩
def WF{Z:Option (List Rt)} :el (some (el (E3 (E3 (some []) (E0 Z k (el Z).length)) (E0 Z 0 k))++[(((el Z).getD (0:Int).toNat default).1,((el Z).getD (0:Int).toNat default).2.1,((el Z).getD (0:Int).toNat default).2.2.1,((el Z).getD (0:Int).toNat default).2.2.2.1,((el Z).getD (0:Int).toNat default).2.2.2.2)]):Option (List Rt))=((el Z).drop k++(el Z).take k)++[(el Z).getD 0 default]:=by
 rw[aI,AX,AX,rX,rX];have h1:((el Z).drop k).take ((el Z).length-k)=(el Z).drop k:=List.take_of_length_le (by rw[O2];omega);rw[h1];rfl
def A4o{Z:Option (List Rt)} :(el (some []:Option (List Rt))).length=0/\(el (E0 Z k (el Z).length)).length<=(el Z).length/\(el (E3 (some []) (E0 Z k (el Z).length))).length<=(el Z).length/\(el (E0 Z 0 k)).length<=(el Z).length/\(el (E3 (E3 (some []) (E0 Z k (el Z).length)) (E0 Z 0 k))).length=(el Z).length/\(el (some (el (E3 (E3 (some []) (E0 Z k (el Z).length)) (E0 Z 0 k))++[(((el Z).getD (0:Int).toNat default).1,((el Z).getD (0:Int).toNat default).2.1,((el Z).getD (0:Int).toNat default).2.2.1,((el Z).getD (0:Int).toNat default).2.2.2.1,((el Z).getD (0:Int).toNat default).2.2.2.2)]):Option (List Rt))).length=(el Z).length+1:=by
 rw[WF];refine⟨rfl,?_,?_,?_,?_,?_⟩<;>simp only[AX,rX,G1,List.length_take,O2,y0,aI,gX]<;>omega
def WE{Z:Option (List Rt)}(h:¬((el Z).length:Int)=0)(r:Rt):r ∈ el (some (el (E3 (E3 (some []) (E0 Z k (el Z).length)) (E0 Z 0 k))++[(((el Z).getD (0:Int).toNat default).1,((el Z).getD (0:Int).toNat default).2.1,((el Z).getD (0:Int).toNat default).2.2.1,((el Z).getD (0:Int).toNat default).2.2.2.1,((el Z).getD (0:Int).toNat default).2.2.2.2)]):Option (List Rt))↔r ∈ el Z:=by
 rw[WF];exact SA (fun e=>h (by rw[e];rfl))
def A4p{Z:Option (List Rt)}(h:∀ r ∈ el Z,vP r)(n:Nat):(0<=((el (some (el (E3 (E3 (some []) (E0 Z k (el Z).length)) (E0 Z 0 k))++[(((el Z).getD (0:Int).toNat default).1,((el Z).getD (0:Int).toNat default).2.1,((el Z).getD (0:Int).toNat default).2.2.1,((el Z).getD (0:Int).toNat default).2.2.2.1,((el Z).getD (0:Int).toNat default).2.2.2.2)]):Option (List Rt))).getD n default).1/\((el (some (el (E3 (E3 (some []) (E0 Z k (el Z).length)) (E0 Z 0 k))++[(((el Z).getD (0:Int).toNat default).1,((el Z).getD (0:Int).toNat default).2.1,((el Z).getD (0:Int).toNat default).2.2.1,((el Z).getD (0:Int).toNat default).2.2.2.1,((el Z).getD (0:Int).toNat default).2.2.2.2)]):Option (List Rt))).getD n default).1<=80)/\(0<=((el (some (el (E3 (E3 (some []) (E0 Z k (el Z).length)) (E0 Z 0 k))++[(((el Z).getD (0:Int).toNat default).1,((el Z).getD (0:Int).toNat default).2.1,((el Z).getD (0:Int).toNat default).2.2.1,((el Z).getD (0:Int).toNat default).2.2.2.1,((el Z).getD (0:Int).toNat default).2.2.2.2)]):Option (List Rt))).getD n default).2.1/\((el (some (el (E3 (E3 (some []) (E0 Z k (el Z).length)) (E0 Z 0 k))++[(((el Z).getD (0:Int).toNat default).1,((el Z).getD (0:Int).toNat default).2.1,((el Z).getD (0:Int).toNat default).2.2.1,((el Z).getD (0:Int).toNat default).2.2.2.1,((el Z).getD (0:Int).toNat default).2.2.2.2)]):Option (List Rt))).getD n default).2.1<=80)/\(0<=((el (some (el (E3 (E3 (some []) (E0 Z k (el Z).length)) (E0 Z 0 k))++[(((el Z).getD (0:Int).toNat default).1,((el Z).getD (0:Int).toNat default).2.1,((el Z).getD (0:Int).toNat default).2.2.1,((el Z).getD (0:Int).toNat default).2.2.2.1,((el Z).getD (0:Int).toNat default).2.2.2.2)]):Option (List Rt))).getD n default).2.2.1/\((el (some (el (E3 (E3 (some []) (E0 Z k (el Z).length)) (E0 Z 0 k))++[(((el Z).getD (0:Int).toNat default).1,((el Z).getD (0:Int).toNat default).2.1,((el Z).getD (0:Int).toNat default).2.2.1,((el Z).getD (0:Int).toNat default).2.2.2.1,((el Z).getD (0:Int).toNat default).2.2.2.2)]):Option (List Rt))).getD n default).2.2.1<=80)/\(0<=((el (some (el (E3 (E3 (some []) (E0 Z k (el Z).length)) (E0 Z 0 k))++[(((el Z).getD (0:Int).toNat default).1,((el Z).getD (0:Int).toNat default).2.1,((el Z).getD (0:Int).toNat default).2.2.1,((el Z).getD (0:Int).toNat default).2.2.2.1,((el Z).getD (0:Int).toNat default).2.2.2.2)]):Option (List Rt))).getD n default).2.2.2.1/\((el (some (el (E3 (E3 (some []) (E0 Z k (el Z).length)) (E0 Z 0 k))++[(((el Z).getD (0:Int).toNat default).1,((el Z).getD (0:Int).toNat default).2.1,((el Z).getD (0:Int).toNat default).2.2.1,((el Z).getD (0:Int).toNat default).2.2.2.1,((el Z).getD (0:Int).toNat default).2.2.2.2)]):Option (List Rt))).getD n default).2.2.2.1<=80):=by
 by_cases a:((el Z).length:Int)=0
 .have a:el Z=[]:=D2.1 A6;have e:(List.drop k ([]:List Rt)++List.take k []++[([]:List Rt).getD 0 default])=[default]:=by simp
  have c:∀ n:Nat,([default]:List Rt).getD n default=default:=fun n=>by cases n<;>rfl
  rw[WF,a,e,c];decide
 .have hm:=WE (Z:=Z) (k:=k) a;revert hm;generalize el (some (el (E3 (E3 (some []) (E0 Z k (el Z).length)) (E0 Z 0 k))++[(((el Z).getD (0:Int).toNat default).1,((el Z).getD (0:Int).toNat default).2.1,((el Z).getD (0:Int).toNat default).2.2.1,((el Z).getD (0:Int).toNat default).2.2.2.1,((el Z).getD (0:Int).toNat default).2.2.2.2)]):Option (List Rt))=T;intro hm;by_cases b:n<T.length
  .have:=h _ ((hm (T.getD n default)).1 (by rw[B3,A3 b];exact H6 b));obtain⟨_,h1,f,h3,g,i,l⟩:=this;omega
  .rw[B3,L5 A6];decide
def A4m{Z:Option (List Rt)} :(el (some []:Option (List Rt))).length=0/\(el (E0 Z k ((el Z).length:Int).toNat)).length<=(el Z).length/\(el (E3 (some []) (E0 Z k ((el Z).length:Int).toNat))).length<=(el Z).length/\(el (E0 Z (0:Int).toNat k)).length<=(el Z).length/\(el (E3 (E3 (some []) (E0 Z k ((el Z).length:Int).toNat)) (E0 Z (0:Int).toNat k))).length=(el Z).length/\(el (some (el (E3 (E3 (some []) (E0 Z k ((el Z).length:Int).toNat)) (E0 Z (0:Int).toNat k))++[(((el Z).getD (0:Int).toNat default).1,((el Z).getD (0:Int).toNat default).2.1,((el Z).getD (0:Int).toNat default).2.2.1,((el Z).getD (0:Int).toNat default).2.2.2.1,((el Z).getD (0:Int).toNat default).2.2.2.2)]):Option (List Rt))).length=(el Z).length+1:=A4o
def gD{Z:Option (List Rt)}(h:¬((el Z).length:Int)=0)(r:Rt):r ∈ el (some (el (E3 (E3 (some []) (E0 Z k ((el Z).length:Int).toNat)) (E0 Z (0:Int).toNat k))++[(((el Z).getD (0:Int).toNat default).1,((el Z).getD (0:Int).toNat default).2.1,((el Z).getD (0:Int).toNat default).2.2.1,((el Z).getD (0:Int).toNat default).2.2.2.1,((el Z).getD (0:Int).toNat default).2.2.2.2)]):Option (List Rt))↔r ∈ el Z:=WE h r
def A4n{Z:Option (List Rt)}(h:∀ r ∈ el Z,vP r)(n:Nat):(0<=((el (some (el (E3 (E3 (some []) (E0 Z k ((el Z).length:Int).toNat)) (E0 Z (0:Int).toNat k))++[(((el Z).getD (0:Int).toNat default).1,((el Z).getD (0:Int).toNat default).2.1,((el Z).getD (0:Int).toNat default).2.2.1,((el Z).getD (0:Int).toNat default).2.2.2.1,((el Z).getD (0:Int).toNat default).2.2.2.2)]):Option (List Rt))).getD n default).1/\((el (some (el (E3 (E3 (some []) (E0 Z k ((el Z).length:Int).toNat)) (E0 Z (0:Int).toNat k))++[(((el Z).getD (0:Int).toNat default).1,((el Z).getD (0:Int).toNat default).2.1,((el Z).getD (0:Int).toNat default).2.2.1,((el Z).getD (0:Int).toNat default).2.2.2.1,((el Z).getD (0:Int).toNat default).2.2.2.2)]):Option (List Rt))).getD n default).1<=80)/\(0<=((el (some (el (E3 (E3 (some []) (E0 Z k ((el Z).length:Int).toNat)) (E0 Z (0:Int).toNat k))++[(((el Z).getD (0:Int).toNat default).1,((el Z).getD (0:Int).toNat default).2.1,((el Z).getD (0:Int).toNat default).2.2.1,((el Z).getD (0:Int).toNat default).2.2.2.1,((el Z).getD (0:Int).toNat default).2.2.2.2)]):Option (List Rt))).getD n default).2.1/\((el (some (el (E3 (E3 (some []) (E0 Z k ((el Z).length:Int).toNat)) (E0 Z (0:Int).toNat k))++[(((el Z).getD (0:Int).toNat default).1,((el Z).getD (0:Int).toNat default).2.1,((el Z).getD (0:Int).toNat default).2.2.1,((el Z).getD (0:Int).toNat default).2.2.2.1,((el Z).getD (0:Int).toNat default).2.2.2.2)]):Option (List Rt))).getD n default).2.1<=80)/\(0<=((el (some (el (E3 (E3 (some []) (E0 Z k ((el Z).length:Int).toNat)) (E0 Z (0:Int).toNat k))++[(((el Z).getD (0:Int).toNat default).1,((el Z).getD (0:Int).toNat default).2.1,((el Z).getD (0:Int).toNat default).2.2.1,((el Z).getD (0:Int).toNat default).2.2.2.1,((el Z).getD (0:Int).toNat default).2.2.2.2)]):Option (List Rt))).getD n default).2.2.1/\((el (some (el (E3 (E3 (some []) (E0 Z k ((el Z).length:Int).toNat)) (E0 Z (0:Int).toNat k))++[(((el Z).getD (0:Int).toNat default).1,((el Z).getD (0:Int).toNat default).2.1,((el Z).getD (0:Int).toNat default).2.2.1,((el Z).getD (0:Int).toNat default).2.2.2.1,((el Z).getD (0:Int).toNat default).2.2.2.2)]):Option (List Rt))).getD n default).2.2.1<=80)/\(0<=((el (some (el (E3 (E3 (some []) (E0 Z k ((el Z).length:Int).toNat)) (E0 Z (0:Int).toNat k))++[(((el Z).getD (0:Int).toNat default).1,((el Z).getD (0:Int).toNat default).2.1,((el Z).getD (0:Int).toNat default).2.2.1,((el Z).getD (0:Int).toNat default).2.2.2.1,((el Z).getD (0:Int).toNat default).2.2.2.2)]):Option (List Rt))).getD n default).2.2.2.1/\((el (some (el (E3 (E3 (some []) (E0 Z k ((el Z).length:Int).toNat)) (E0 Z (0:Int).toNat k))++[(((el Z).getD (0:Int).toNat default).1,((el Z).getD (0:Int).toNat default).2.1,((el Z).getD (0:Int).toNat default).2.2.1,((el Z).getD (0:Int).toNat default).2.2.2.1,((el Z).getD (0:Int).toNat default).2.2.2.2)]):Option (List Rt))).getD n default).2.2.2.1<=80):=A4p h n
def A16{L:List Rt}(h:fZ L=0):((L.length:Int)<=140737488351232/\∀ r ∈ L,rOk r):=by
 have:rsP L:=by
  by_cases q:rsP L
  .exact q
  .unfold fZ at h;rw[B0 q]at h;cases h
 exact⟨by have:=this.1;omega,fun r hr=>A1W (this.2 r hr)⟩
def A1O{a b:Option (List Kt)}(h:b=a):oT (el a) (el b)=true:=by rw[h];exact A1P.2 rfl
def A3n:fZ (el (none:Option (List Rt)))=0:=B2 ⟨K3,fun r h=>by cases h⟩
def A3m:oT (el (clO (el (none:Option (List Rt))))) (el (none:Option (List Kt)))=true:=by
 have a:clO (el (none:Option (List Rt)))=RN (ruL (el (none:Option (List Rt))) (some [])):=B2 ⟨K3,fun r h=>by cases h⟩;rw[a];rfl
end
end Go.Proofs.Ytjdnjfnhdeplfaa
