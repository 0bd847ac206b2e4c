import Derived.Test.YtjdnjfnhdeplfaaX10
set_option linter.all false
set_option maxRecDepth 100000
set_option maxHeartbeats 4000000
namespace Go.Proofs.Ytjdnjfnhdeplfaa
open Go Go.Sx Go.Sort Go.Shelf Go.Proofs
variable {d i t:Nat}{outs us:List U}{ρ ρ3:Sx.Ren}{v:Value}{rd:Option Nat}{p:Kt×Kt}
section
open Go Go.Sx Go.Sort Go.Shelf Go.Proofs
noncomputable def clB:Code:=(Try.f9.body).getD .skip
noncomputable def o5:Array Oper:=CC [true,true,true,false,false] clB
noncomputable def p1:Array Oper:=CC [true,true,true,false,true,false,false,false] clB
noncomputable def o6:Array Oper:=CC [true,true,true,true,false] clB
noncomputable def clL:Code:=.seq (.region (GF [true,true,true,false,true,false,false,false] clB) p1 false) (.seq (.cond (.tmp 20) .skip (.exit 0)) (.block 1 (.seq (.region (GF [true,true,true,false,true,false,false,true,true,false,false] clB) kH false) SI)))
def A1v:Try.f9.body=some clB:=rfl
def A0i:clB=.seq SP (.seq SM (.seq SK (.seq (.seq (.region (GF [true,true,true,false,false] clB) o5 false) (.block 0 (.loop clL))) (.seq (.region (GF [true,true,true,true,false] clB) o6 false) xO)))):=F6
def A1K:o5.toList=[o5.getD 0 default,o5.getD 1 default]:=F6
def A1F:p1.toList=[p1.getD 0 default,p1.getD 1 default]:=F6
def A1L:kH.toList=kH.getD 0 default::kH.toList.drop 1:=F6
def A1J:o6.toList=[o6.getD 0 default,o6.getD 1 default]:=F6
def o50:(o5.getD 0 default).op=.load 55 (.tmp 5)/\(o5.getD 0 default).dst=some 17/\(o5.getD 0 default).guard=none:=⟨by kernel_rfl,by kernel_rfl,by kernel_rfl⟩
def o51:(o5.getD 1 default).op=.range 55 (.tmp 17)/\(o5.getD 1 default).dst=some 18/\(o5.getD 1 default).guard=none:=⟨by kernel_rfl,by kernel_rfl,by kernel_rfl⟩
def p10:(p1.getD 0 default).op=.next (.tmp 18) false/\(p1.getD 0 default).dst=some 19/\(p1.getD 0 default).guard=none:=⟨by kernel_rfl,by kernel_rfl,by kernel_rfl⟩
def p11:(p1.getD 1 default).op=.extract (.tmp 19) 0/\(p1.getD 1 default).dst=some 20/\(p1.getD 1 default).guard=none:=⟨by kernel_rfl,by kernel_rfl,by kernel_rfl⟩
def o40:(kH.getD 0 default).op=.entry (.tmp 18)/\(kH.getD 0 default).dst=some 21/\(kH.getD 0 default).guard=none:=⟨by kernel_rfl,by kernel_rfl,by kernel_rfl⟩
def o60:(o6.getD 0 default).op=.move (.tmp 2)/\(o6.getD 0 default).dst=some 53/\(o6.getD 0 default).guard=none:=⟨by kernel_rfl,by kernel_rfl,by kernel_rfl⟩
noncomputable def A2i:Array TypeId:=match (o6.getD 1 default).op with|.call c=>c.argTypes|_=>#[]
def o61:(o6.getD 1 default).op=.call ⟨.value (.func 24),#[.tmp 53,.func 25],A2i⟩/\(o6.getD 1 default).dst=some 54/\(o6.getD 1 default).guard=none:=⟨by kernel_rfl,by kernel_rfl,by kernel_rfl⟩
def A0x:Try.prog.underlying 55=some (.map 58 60):=F6
def A2K:Y5 Try.prog 55=some false:=F6
def WK:FS Try.prog 55=some ⟨58,60,true,[3,3],true,[8,8]⟩:=F6
def zS:List U->Mt
 | [.int _ r,.int _ c,.bool v,.bool h]=>(r,c,v,h)
 | _=>default
def RA(a:Mt):zS (rM.enc a)=a:=rfl
def A20{x:Option (List Mt)}{l:Go.Sx.Loc}{w:World}(h:MpR Try.prog (E6 rM x) t 55 l w):∃ es clock,∃ b:MapEntry->Mt,w.heap[l.blk]? = some (.map es clock)/\el x=es.toList.map b /\
  (∀ e ∈ es.toList,e.key=.agg #[.int .i64 (b e).1,.int .i64 (b e).2.1]/\e.val=.agg #[.bool (b e).2.2.1,.bool (b e).2.2.2])/\qG es.toList clock:=by
 obtain⟨y,es,clock,rows,h1,q,h3,c,o,k⟩:=h;rw[WK]at h1;cases h1;obtain⟨g,g1,g2⟩:=TZ o k.1;rw[X8]at c;have hr:rows=(el x).map rM.enc:=by
  cases x with
  | none=>cases c
  | some l=>cases c;rfl
 refine⟨es,clock,fun e=>zS (g e),h3,?_,fun e he=>?_,k⟩
 .have:(rows.map zS)=(es.toList.map g).map zS:=by rw[g1]
  rw[hr,fP,fP]at this;have n:(zS ∘ rM.enc)=id:=funext fun a=>RA a
  rw[n,List.map_id]at this;exact this
 .obtain⟨_,j,f⟩:=g2 e he;have hm:g e ∈ rows:=by rw[g1];exact aZ he
  rw[hr]at hm;obtain⟨a,_,m⟩:=I6.1 hm;rw[<- m]at j f;show e.key=.agg #[.int .i64 (zS (g e)).1,.int .i64 (zS (g e)).2.1]/\e.val=.agg #[.bool (zS (g e)).2.2.1,.bool (zS (g e)).2.2.2];rw[<- m];exact⟨j,f⟩
def nK:List U->Option (Nat×List U)
 | [u_l]=>(T5 rR u_l).bind fun l=>if((el l).length:Int)<=140737488351232/\(∀ r ∈ el l,rOk r)then some (0,[E6 rK (clO (el l)),.int .i64 (uZ (el l))])else none
 | _=>none
def VW(l:(Option (List (Int×Int×Int×Int×Bool))))(a:((el l).length:Int)<=140737488351232/\(∀ r ∈ el l,rOk r)):nK [E6 rR l]=some (0,[E6 rK (clO (el l)),.int .i64 (uZ (el l))]):=by
 simp only[nK,L3,H4];exact B2 a
def xH:J5:=⟨[(0,dat 1 0 15)],[(1,.frz)],1,[⟨.ret,[(2,own 2 0 13),(3,h 1 3)],[(2,.sq 0 13 45 3),(3,.frz)],2⟩]⟩
def A1t:J5.ok gl n0 12 Try.f9.ntmps xH=true:=F6
def LW(a:nK us=some (d,outs)):∃ l:Option (List (Int×Int×Int×Int×Bool)),us=[E6 rR l]/\(((el l).length:Int)<=140737488351232/\(∀ r ∈ el l,rOk r))/\d=0/\outs=[E6 rK (clO (el l)),.int .i64 (uZ (el l))]:=by
 unfold nK at a;split at a
 .rename_i f;have e:=C6.1 a;clear a;obtain⟨l,c,b⟩:=e;replace c:=K6 c;subst c;split at b
  .rename_i g;cases b;exact⟨l,rfl,g,rfl,rfl⟩
  .cases b
 .cases a
def SL2:N3:=[(2,own 2 0 13),(5,.pointer (some ⟨4,0,none⟩))]
def BL2:J7:=[(2,.sq 0 13 45 3),(4,.cells 55 [.map (some 5)]),(3,.frz),(5,.mp 1 1014 55)]
def BLm:J7:=[(2,.sq 0 13 45 3),(4,.cm 55 [.map (some 5)]),(3,.frz),(5,.mm 1 14 55)]
structure JJ (G:Nat->Option Obj) (base:Nat) (D:List Deferred) (ρs:Sx.Ren) (φ:Nat->Option Sx.Loc) (Kt Ko:Nat->Prop) (w0:World) (x:Option (List Mt)) (ga:MapEntry->Mt) (b r clock:Nat) (es:Array MapEntry) (seen:Array Nat) (done:List MapEntry) (a:Act) (w:World):Prop where
 ex:∃ ρ2,E9 D Try.prog G base Try.f9.ntmps ρ2 SL2 BL2 [E6 rK (g7 x (done.map fun e=>kM (ga e))),E6 rM x] a w/\Nm n0 ρs φ Kt Ko w0 BL2 ρ2/\(∀ y ∈ BL2,∀ l,ρ2 y.1=some l->¬ TcP y.2 l r)/\ρ2 5=some (J3 b (.map es clock))
 kp:Kp Ko w0 w
 it:a.tmps.getD 18 undef=.pointer (some ⟨r,0,none⟩)
 cr:∃ c0,clock<=c0/\w.heap[r]? = some (.mapIter (some b) clock seen c0)
 mp:w.heap[b]? = some (.map es clock)
 lt:w0.heap.size<=r
 rb:r≠b
def S5(b:Nat):Bool:=!(Nat.beq b 5)
def A2v{G:Nat->Option Obj}{base nt:Nat}{D:List Deferred}{a:Act}{w:World}{g:Sx.Loc}{es:Array MapEntry}{clock:Nat}(h:E9 D Try.prog G base nt ρ3 SL2 BLm us a w)(q:ρ3 5=some g)(hm:w.heap[g.blk]? = some (.map es clock)) :
  E9 D Try.prog G base nt (V2 ρ3 5 (some (J3 g.blk (.map es clock)))) SL2 BL2 us a w:=by
 obtain⟨J,A,I⟩:=h.mb (5,.mm 1 14 55) (by simp[BLm]);have A:ρ3 5=some J:=A;rw[q]at A;cases A;have O:P5 us (gE us):=fun j u hj=>by simp[gE,hj]
 have H:g.on=true/\g.sh=0:=(I _ O).1;have s:∀ b l,S5 b=true->ρ3 b=some l->V2 ρ3 5 (some (J3 g.blk (.map es clock))) (idN b)=some l:=fun b l R c=>by
  have:b≠5:=fun e=>by subst e;cases R
  show V2 _ _ _ b=_;rw[M0 this];exact c
 have old:∀ x ∈ BL2,∀ l,V2 ρ3 5 (some (J3 g.blk (.map es clock))) x.1=some l->∃ y ∈ BLm,y.1=x.1/\y.2.rw=x.2.rw/\∃ l',ρ3 y.1=some l'/\l'.blk=l.blk/\l'.on=l.on/\∀ k,TcP x.2 l k↔TcP y.2 l' k:=fun x f l c=>by
  simp only[BL2,A8,C3,or_false]at f;rcases f with rfl|rfl|rfl|rfl
  .exact⟨(2,.sq 0 13 45 3),by simp[BLm],rfl,rfl,l,by rw[M0 L8]at c;exact c,rfl,rfl,fun k=>Iff.rfl⟩
  .exact⟨(4,.cm 55 [.map (some 5)]),by simp[BLm],rfl,rfl,l,by rw[M0 L8]at c;exact c,rfl,rfl,fun k=>by simp[TcP,PB.rw]⟩
  .exact⟨(3,.frz),by simp[BLm],rfl,rfl,l,by rw[M0 L8]at c;exact c,rfl,rfl,fun k=>Iff.rfl⟩
  .have c:V2 ρ3 5 (some (J3 g.blk (.map es clock))) 5=some l:=c;rw[R1]at c;cases c;exact⟨(5,.mm 1 14 55),by simp[BLm],rfl,rfl,g,q,rfl,H.1,fun k=>by simp[TcP,PB.rw,J3,H.1]⟩
 refine⟨h.size,h.defers,fun F m x f=>?_,fun x f=>?_,fun x f hw l c B=>?_⟩
 .have Q:=h.fr F m x f;simp only[SL2,A8,C3,or_false]at f;rcases f with rfl|rfl
  .exact v6 (G:=G) (E:=F) (F:=F) (S:=S5) (nx:=0) (τ:=idN) s (fun i=>by rw[D8]) DEP (own 2 0 13) _ F6 Q
  .exact v6 (G:=G) (E:=F) (F:=F) (S:=S5) (nx:=0) (τ:=idN) s (fun i=>by rw[D8]) DEP (.pointer (some ⟨4,0,none⟩)) _ F6 Q
 .simp only[BL2,A8,C3,or_false]at f;rcases f with rfl|rfl|rfl|rfl
  .obtain⟨l,r,o⟩:=h.mb (2,.sq 0 13 45 3) (by simp[BLm]);exact⟨l,s 2 l rfl r,fun F m=>nW (P:=Try.prog) (G:=G) (E:=F) (F:=F) (S:=S5) (nx:=0) (τ:=idN) s (fun i=>by rw[D8]) (p:=.sq 0 13 45 3) (o F m) rfl⟩
  .obtain⟨l,r,o⟩:=h.mb (4,.cm 55 [.map (some 5)]) (by simp[BLm]);refine⟨l,s 4 l rfl r,fun F m=>?_⟩;obtain⟨h0,C,fz,T',h1,h2,h3⟩:=o F m;refine⟨h0,C,fz,T',h1,fun i v hi=>?_,h3⟩;obtain⟨v',g1,g2⟩:=h2 i v hi;refine⟨v',g1,?_⟩;cases i with
   | succ i=>cases hi
   | zero =>
     cases hi;obtain⟨l',q1,rfl⟩:=@mT ⟨F,G⟩ _ _ _ g2;rw[q]at q1;cases q1;exact @VR.map ⟨F,G⟩ _ _ (J3 g.blk (.map es clock)) R1
  .obtain⟨l,r,o⟩:=h.mb (3,.frz) (by simp[BLm]);exact⟨l,s 3 l rfl r,fun F m=>o F m⟩
  .refine⟨_,R1,fun F m=>⟨⟨rfl,rfl⟩,?_⟩⟩;obtain⟨_,y,L,n,rows,q1,q2,q3,q4⟩:=I F m;refine⟨y,L,n,rows,q1,.inr ⟨?_,_,B2 rfl,hm⟩,q3,q4⟩;rcases q2 with q2|⟨q2,_⟩<;>omega
 .obtain⟨y,V,A,I,l',e3,T,Z,e6⟩:=old x f l c;obtain⟨r,o⟩:=h.own y V (by rw[I];exact hw) l' e3 (by rw[Z];exact B);rw[<- T];refine⟨r,fun z W l2 N Y=>?_⟩;obtain⟨X,M,f1,_,K,f3,_,_,f6⟩:=old z W l2 N;rw[<- f1,<- A];exact o X M K f3 ((f6 _).1 Y)
def S8(b:Nat):Bool:=Nat.beq b 2 || (Nat.beq b 3 || (Nat.beq b 4 || Nat.beq b 5))
def GX:∀ x ∈ BL2,(x.2.names S8=true/\x.2.ab 0 idN=x.2.raw)/\S8 x.1=true:=fun x a=>by
 simp only[BL2,A8,C3,or_false]at a;rcases a with rfl|rfl|rfl|rfl
 .exact⟨⟨rfl,rfl⟩,rfl⟩
 .exact⟨⟨by kernel_rfl,by kernel_rfl⟩,rfl⟩
 .exact⟨⟨rfl,rfl⟩,rfl⟩
 .exact⟨⟨rfl,rfl⟩,rfl⟩
def TC:∀ x ∈ SL2,Y3 S8 DEP x.2=true/\K8 0 idN DEP x.2=x.2:=fun x a=>by
 simp only[SL2,A8,C3,or_false]at a;rcases a with rfl|rfl
 .exact⟨by kernel_rfl,by kernel_rfl⟩
 .exact⟨by kernel_rfl,by kernel_rfl⟩
def TD{b:Nat}(h:S8 b=true):b≠8:=fun e=>by subst e;cases h
def lK{x:Nat×PB}(h:x ∈ BL2):x.1≠8:=TD (GX x h).2
def H4S:N3:=[(2,own 2 0 13),(5,.pointer (some ⟨4,0,none⟩)),(18,.pointer (some ⟨8,0,none⟩))]
def T21:Value:=.tuple ⟨[.agg ⟨[h 2 3,h 3 3]⟩,.agg ⟨[h 4 8,h 5 8]⟩]⟩
def H4B:J7:=[(2,.sq 0 13 45 3),(4,.cells 55 [.map (some 5)]),(8,.iter []),(3,.frz),(5,.mp 1 1014 55)]
def qV{F:Nat->U}{G:Nat->Option Obj}{u:U}(a:F i=u)(b:toV u=some v)(c:F3 u=t):@VR ⟨F,G⟩ ρ (.complex .f64 i t) v :=
 @VR.hole ⟨F,G⟩ ρ i t v (by show toV (F i)=_;rw[a];exact b) (by show F3 (F i)=_;rw[a];exact c)
def yE{F:Nat->U}{G:Nat->Option Obj}{a m:U}{r c:Int}{v h:Bool}(b:P5 [a,m,.int .i64 r,.int .i64 c,.bool v,.bool h] F):@VR ⟨F,G⟩ ρ T21 (.tuple #[.agg #[.int .i64 r,.int .i64 c],.agg #[.bool v,.bool h]]):=by
 letI O:Ora:=⟨F,G⟩
 have l1:LR ρ [Sx.h 2 3,Sx.h 3 3] [.int .i64 r,.int .i64 c]:=.cons (qV (b 2 _ rfl) rfl rfl) (.cons (qV (b 3 _ rfl) rfl rfl) .nil);have l2:LR ρ [Sx.h 4 8,Sx.h 5 8] [.bool v,.bool h]:=.cons (qV (b 4 _ rfl) rfl rfl) (.cons (qV (b 5 _ rfl) rfl rfl) .nil);have e:LR ρ [.agg ⟨[Sx.h 2 3,Sx.h 3 3]⟩,.agg ⟨[Sx.h 4 8,Sx.h 5 8]⟩] [.agg ⟨[.int .i64 r,.int .i64 c]⟩,.agg ⟨[.bool v,.bool h]⟩]:=.cons (.agg l1.1 l1.2) (.cons (.agg l2.1 l2.2) .nil);exact .tuple e.1 e.2
def n21:21<Try.f9.ntmps:=A1 F6
def oA(h:(SL2.all fun x=>!(Nat.beq x.1 d))=true):∀ x ∈ SL2,x.1≠d:=fun x a e=>by
 have:=D2.1 h x a;rw[e]at this;simp at this
def RR{G}(ah:t7 G){base:Nat}{D:List Deferred}{ρs:Sx.Ren}{φ:Nat->Option Sx.Loc}{Kt R:Nat->Prop}{w0:World}(ring:g8 Try.prog G base gl n0 12 Try.f9.ntmps H0 xH w0 ρs R)
  {x:Option (List Mt)} {c:MapEntry->Mt} {b r clock:Nat} {es:Array MapEntry} (L:GdM 5120 x) (hex:el x=es.toList.map c) (bw:∀ e ∈ es.toList,e.key=.agg #[.int .i64 (c e).1,.int .i64 (c e).2.1]/\e.val=.agg #[.bool (c e).2.2.1,.bool (c e).2.2.2])
  (H:qG es.toList clock) {Q:Exit->Act->World->Prop} {seen:Array Nat} {done:List MapEntry} {a:Act} {w:World} (N:qM es seen done) (J:JJ G base D ρs φ Kt R w0 x c b r clock es seen done a w)
  (az:(leftOf es seen).size=0->∀ a' w',JJ G base D ρs φ Kt R w0 x c b r clock es seen done a' w'->Q (.exit 0) a' w') :
  clL.wpIn (fw rd) 0 Try.prog (Exit.then (fun a' w'=>∃ e ∈ (leftOf es seen).toList,JJ G base D ρs φ Kt R w0 x c b r clock es (seen.push e.born) (done++[e]) a' w') Q) a w:=by
 obtain⟨⟨ρ2,hd,nm,O,h5⟩,kp,it,⟨c0,aw,hr⟩,hm,q,V⟩:=J;have an:a.tmps.size=Try.f9.ntmps:=hd.size;have bt:21<a.tmps.size:=by rw[an];exact n21
 have ar:r<w.heap.size:=(B5.1 hr).1;refine CK (ops1:=p1) (ops2:=kH) (t:=18) (d1:=19) (d2:=20) (since:=clock) (clock:=clock) A1F A1L p10.2.2 p11.2.2 o40.2.2 p10.1 p11.1 o40.1 p10.2.1 p11.2.1 A9 A9 L8 L8 it hr hm V H.2 aw H.1 (fun hz=>?_) fun e he w1 Y=>?_
 .show Q (.exit 0) _ _;refine az hz _ _ ⟨⟨ρ2,(hd.put (oA rfl)).put (oA rfl),nm,O,h5⟩,kp,?_,⟨c0,aw,hr⟩,hm,q,V⟩
  have:=W4 (a:=a.put (some 19) (.tuple #[.bool false])) (d:=20) (t:=18) (v:=.bool false) L8;have h2:=W4 (a:=a) (d:=19) (t:=18) (v:=.tuple #[.bool false]) L8;exact(this.trans h2).trans it
 .obtain⟨W,_⟩:=mem_left he;obtain⟨hk,hv⟩:=bw e W;have ax:c e ∈ el x:=by rw[hex];exact aZ W
  have br:=L.bd _ ax;rw[o40.2.1,hk,hv];obtain⟨obj,I⟩:∃ o,o=Obj.mapIter (some b) clock (seen.push e.born) clock:=⟨_,rfl⟩;rw[<- I];obtain⟨w4,A⟩:∃ w',w'=ChangeMaps.setBlock w1 r obj:=⟨_,rfl⟩;rw[<- A];have T:w1.heap=w.heap:=by rcases Y with rfl|rfl<;>rfl
  have aa:w4.heap[r]? = some obj:=by rw[A];simp[ChangeMaps.setBlock,T,ar]
  have ay:∀ k,k≠r->w4.heap[k]? = w.heap[k]? := fun k hk=>by rw[A];simp[ChangeMaps.setBlock,T,D1,Ne.symm hk]
  have ao:w4.heap.size=w.heap.size:=by rw[A];simp[ChangeMaps.setBlock,T]
  have s:w4.os=w.os/\w4.tape=w.tape/\w4.output=w.output:=by
   rw[A];rcases Y with rfl|rfl<;>exact⟨rfl,rfl,rfl⟩
  obtain⟨a2,M⟩:∃ a2,a2=(a.put (some 19) (.tuple #[.bool true,.agg #[.int .i64 (c e).1,.int .i64 (c e).2.1],.agg #[.bool (c e).2.2.1,.bool (c e).2.2.2]])).put (some 20) (.bool true):=⟨_,rfl⟩;rw[<- M];have bu:a2.tmps.getD 18 undef=.pointer (some ⟨r,0,none⟩):=by
   rw[M]
   have:=W4 (a:=a.put (some 19) (.tuple #[.bool true,.agg #[.int .i64 (c e).1,.int .i64 (c e).2.1],.agg #[.bool (c e).2.2.1,.bool (c e).2.2.2]])) (d:=20) (t:=18) (v:=.bool true) L8;have h2:=W4 (a:=a) (d:=19) (t:=18) (v:=.tuple #[.bool true,.agg #[.int .i64 (c e).1,.int .i64 (c e).2.1],.agg #[.bool (c e).2.2.1,.bool (c e).2.2.2]]) L8;exact(this.trans h2).trans it
  have aj:E9 D Try.prog G base Try.f9.ntmps ρ2 SL2 BL2 ([E6 rK (g7 x (done.map fun e=>kM (c e))),E6 rM x]++[.int .i64 (c e).1,.int .i64 (c e).2.1,.bool (c e).2.2.1,.bool (c e).2.2.2]) a2 w4:=by
   rw[M];exact(((hd.world fun y f l k g E=>ay k fun e'=>O y f l g (e'▸E)).more _).put (oA rfl)).put (oA rfl)
  have ag:=aj.ren (ρ':=V2 ρ2 8 (some (J3 r obj))) TC GX fun b hb=>M0 (TD hb)
  have bz:=ag.keep (t:=18) (fun y f=>lK f) aa (B6 ring.bs q) O bu;have aq:E9 D Try.prog G base Try.f9.ntmps (V2 ρ2 8 (some (J3 r obj))) H4S H4B ([E6 rK (g7 x (done.map fun e=>kM (c e))),E6 rM x]++[.int .i64 (c e).1,.int .i64 (c e).2.1,.bool (c e).2.2.1,.bool (c e).2.2.2]) a2 w4 :=
   bz.sub (fun y f=>by
    simp only[H4S,A8,C3,or_false]at f;rcases f with rfl|rfl|rfl<;>simp[SL2]) fun y f=>⟨y,by
    simp only[H4B,A8,C3,or_false]at f;rcases f with rfl|rfl|rfl|rfl|rfl<;>simp[BL2],rfl,rfl⟩
  have bx:=aq.with (d:=21) (v0:=T21) (v:=.tuple #[.agg #[.int .i64 (c e).1,.int .i64 (c e).2.1],.agg #[.bool (c e).2.2.1,.bool (c e).2.2.2]]) n21 (fun y f=>by
    simp only[H4S,A8,C3,or_false]at f;rcases f with rfl|rfl|rfl<;>simp) fun F hF=>yE hF
  have af:E9 D Try.prog G base Try.f9.ntmps (V2 ρ2 8 (some (J3 r obj))) fX.hs fX.hb [E6 rK (g7 x (done.map fun e=>kM (c e))),E6 rM x,.int .i64 (c e).1,.int .i64 (c e).2.1,.bool (c e).2.2.1,.bool (c e).2.2.2] (a2.put (some 21) (.tuple #[.agg #[.int .i64 (c e).1,.int .i64 (c e).2.1],.agg #[.bool (c e).2.2.1,.bool (c e).2.2.2]])) w4 :=
   bx.sub (fun y f=>by
    simp only[fX,A8,C3,or_false]at f;rcases f with rfl|rfl|rfl|rfl<;>simp[H4S,T21]) fun y f=>⟨y,f,rfl,rfl⟩
  have ak:Nm n0 ρs (V2 φ 8 (some (J3 r obj))) Kt R w0 fX.hb (V2 ρ2 8 (some (J3 r obj))):=by
   refine⟨fun b hb=>absurd hb (aU _),fun b hb hm=>?_,fun y f P=>?_,fun y f l k g E=>?_,fun y f hw l g K=>?_⟩
   .have m:b≠8:=fun e=>hm (by subst e;simp[fX,nms])
    rw[M0 m];refine nm.out b hb fun h=>hm ?_
    simp only[BL2,nms,B8,E3,A8,C3,or_false]at h;rcases h with rfl|rfl|rfl|rfl<;>simp[fX,nms]
   .by_cases m:y.1=8
    .rw[m,R1,R1]
    .rw[M0 m,M0 m];have z:y ∈ BL2:=by
      simp only[fX,A8,C3,or_false]at f;rcases f with rfl|rfl|rfl|rfl|rfl<;>first|exact absurd rfl m|simp[BL2]
     exact nm.fx y z P
   .by_cases m:y.1=8
    .rw[m,R1]at g;cases g;simp only[fX,A8,C3,or_false]at f;rcases f with rfl|rfl|rfl|rfl|rfl<;>first|(cases m;done)|skip
     rcases E with⟨_,_,rfl⟩|⟨h,_⟩
     .exact .inl q
     .cases h
    .rw[M0 m]at g;have z:y ∈ BL2:=by
      simp only[fX,A8,C3,or_false]at f;rcases f with rfl|rfl|rfl|rfl|rfl<;>first|exact absurd rfl m|simp[BL2]
     exact nm.tch y z l k g E
   .by_cases m:y.1=8
    .rw[m,R1]at g;cases g;exact .inl q
    .rw[M0 m]at g;have z:y ∈ BL2:=by
      simp only[fX,A8,C3,or_false]at f;rcases f with rfl|rfl|rfl|rfl|rfl<;>first|exact absurd rfl m|simp[BL2]
     exact nm.own y z hw l g K
  have ad:Kp R w0 w4:=⟨⟨s.1.trans kp.os.1,s.2.1.trans kp.os.2.1,s.2.2.trans kp.os.2.2⟩,by rw[ao];exact kp.size,fun k hk hn=>by rw[ay k A9];exact kp.keep k hk hn⟩;have hlen:((el (g7 x (done.map fun e=>kM (c e)))).length:Int)<=100000000:=by
   rw[KE,E8,E8];have h1:=(N.push he);have h2:done.length<=es.toList.length:=by
    have n1:done.Nodup:=aJ (·.born) (fun a b h au=>h (by rw[au])) N.hn;exact List.Nodup.length_le_of_subset n1 fun y f=>N.hm y f
   have h3:(el x).length=es.toList.length:=by rw[hex];simp
   have:=L.le;omega
  refine A17 ah base _ 0 _ _ (JO _ _ _ _ _ _ ⟨hlen,A9⟩) rfl rd _ Kt R ρs w0 D _ (ring.of YH) (fun a5 w5 B C n al=>?_) _ _ _ af ak ad;show ∃ e' ∈ (leftOf es seen).toList,_;have f8:B 8=some (J3 r obj):=by
   have:=n.fx (8,.iter []) (by simp) rfl;rw[this];exact R1
  have f5:B 5=some (J3 b (.map es clock)):=by
   have:=n.fx (5,.mp 1 1014 55) (by simp) rfl;rw[this];show V2 φ 8 _ 5=_;rw[M0 L8];have h6:=nm.fx (5,.mp 1 1014 55) (by simp[BL2]) rfl;exact h6.symm.trans h5
  obtain⟨k1,k2⟩:=C.kept (b:=8) (t:=18) (by simp) (by simp) f8;have ae:w5.heap[b]? = some (.map es clock):=by
   obtain⟨l,g1,g2⟩:=C.mb (5,.mp 1 1014 55) (by simp);have g1:B 5=some l:=g1;rw[f5]at g1;cases g1;obtain⟨_,y,bq,av,rows,q1,q2,q3,q4⟩:=g2 (gE [E6 rK (some (el (g7 x (done.map fun e=>kM (c e)))++[((c e).1,(c e).2.1,mkC x (c e).1 (c e).2.1 (c e).2.2.1 (c e).2.2.2)])),E6 rM x]) fun j u hj=>by simp[gE,hj]
   rcases q2 with q2|⟨_,o,q2,q5⟩
   .rw[WK]at q1;cases q1;cases q2
   .have q2:(if b=b then some (Obj.map es clock)else none)=some o:=q2;rw[B2 rfl]at q2;cases q2;exact q5
  have Z:=C.own (8,.iter []) (by simp) rfl (J3 r obj) f8 rfl;refine⟨e,he,⟨V2 B 8 none,?_,?_,fun y f l g E=>?_,by rw[M0 L8];exact f5⟩,al,k2,⟨clock,A6 _,by rw[k1,I]⟩,ae,q,V⟩
  .have X:some (el (g7 x (done.map fun e=>kM (c e)))++[(((c e).1,(c e).2.1,mkC x (c e).1 (c e).2.1 (c e).2.2.1 (c e).2.2.2):Int×Int×Int)])=g7 x ((done++[e]).map fun e=>kM (c e)):=by
    rw[MD L.nd ax,M6];rfl
   rw[<- X];have ai:=C.sub (sl':=SL2) (bl':=BL2) (fun y f=>by
    simp only[SL2,A8,C3,or_false]at f;rcases f with rfl|rfl<;>simp) fun y f=>⟨y,by
    simp only[BL2,A8,C3,or_false]at f;rcases f with rfl|rfl|rfl|rfl<;>simp,rfl,rfl⟩
   exact ai.ren (S:=S8) TC GX fun b hb=>M0 (TD hb)
  .refine⟨fun b hb=>absurd hb (aU _),fun b hb hm=>?_,fun y f P=>?_,fun y f l k g E=>?_,fun y f hw l g K=>?_⟩
   .by_cases m:b=8
    .subst m;exact R1
    .rw[M0 m];refine n.out b hb fun h=>hm ?_
     simp only[nms,B8,E3,A8,C3,or_false]at h;rcases h with rfl|rfl|rfl|rfl|rfl<;>first|exact absurd rfl m|simp[BL2,nms]
   .rw[M0 (lK f)]
    have:=n.fx y (by
     simp only[BL2,A8,C3,or_false]at f;rcases f with rfl|rfl|rfl|rfl<;>simp) P
    rw[this,M0 (lK f)]
   .rw[M0 (lK f)]at g;exact n.tch y (by
     simp only[BL2,A8,C3,or_false]at f;rcases f with rfl|rfl|rfl|rfl<;>simp) l k g E
   .rw[M0 (lK f)]at g;exact n.own y (by
     simp only[BL2,A8,C3,or_false]at f;rcases f with rfl|rfl|rfl|rfl<;>simp) hw l g K
  .rw[M0 (lK f)]at g
   have:=Z.2 y (by
     simp only[BL2,A8,C3,or_false]at f;rcases f with rfl|rfl|rfl|rfl<;>simp) l g E
   exact lK f this
def clX:fZ:=⟨.ret,[(2,own 2 0 13),(3,h 1 3)],[(2,.sq 0 13 45 3),(3,.frz)],2⟩
def S6(b:Nat):Bool:=Nat.beq b 2 || Nat.beq b 3
def A2c{b:Nat}(h:S6 b=true):b=2∨b=3:=by
 rcases(F8 _ _).mp h with h|h
 .exact .inl (A0 h)
 .exact .inr (A0 h)
def OY(ρ:Sx.Ren):Sx.Ren:=fun b=>if S6 b=true then ρ b else none
def SL1:N3:=[(2,own 2 0 13)]
def BL1:J7:=[(2,.sq 0 13 45 3),(3,.frz)]
def QK{G:Nat->Option Obj}{base:Nat}{D:List Deferred}{a:Act}{w:World}(h:E9 D Try.prog G base Try.f9.ntmps ρ SL2 BL2 us a w):E9 D Try.prog G base Try.f9.ntmps (OY ρ) SL1 BL1 us a w:=by
 have h1:=h.sub (sl':=SL1) (bl':=BL1) (fun y c=>by rw[G7.1 c];simp[SL2]) fun y c=>⟨y,by
  simp only[BL1,A8,C3,or_false]at c;rcases c with rfl|rfl<;>simp[BL2],rfl,rfl⟩
 refine h1.ren (S:=S6) (fun y c=>?_) (fun y c=>?_) fun b e=>B2 e
 .rw[G7.1 c];exact⟨by kernel_rfl,by kernel_rfl⟩
 .simp only[BL1,A8,C3,or_false]at c;rcases c with rfl|rfl
  .exact⟨⟨rfl,rfl⟩,rfl⟩
  .exact⟨⟨rfl,rfl⟩,rfl⟩
def A0M{ρs:Sx.Ren}{m φ':Nat->Option Sx.Loc}{Kt j:Nat->Prop}{w0:World}(h:Nm n0 ρs m Kt j w0 BL2 ρ):Nm n0 ρs φ' Kt j w0 BL1 (OY ρ):=by
 have mem:∀ y ∈ BL1,y ∈ BL2/\S6 y.1=true/\y.2.mv=true:=fun y a=>by
  simp only[BL1,A8,C3,or_false]at a;rcases a with rfl|rfl
  .exact⟨by simp[BL2],rfl,rfl⟩
  .exact⟨by simp[BL2],rfl,rfl⟩
 refine⟨fun b g=>absurd g (aU _),fun b g hm=>?_,fun y a e=>?_,fun y a l k c o=>?_,fun y a hw l c f=>?_⟩
 .refine B1 fun n=>hm ?_
  rcases A2c n with rfl|rfl<;>simp[BL1,nms]
 .rw[(mem y a).2.2]at e;cases e
 .have c:(if S6 y.1=true then ρ y.1 else none)=some l:=c;rw[B2 (mem y a).2.1]at c;exact h.tch y (mem y a).1 l k c o
 .have c:(if S6 y.1=true then ρ y.1 else none)=some l:=c;rw[B2 (mem y a).2.1]at c;exact h.own y (mem y a).1 hw l c f
def n54:54<Try.f9.ntmps:=A1 F6
def ZS{o:Oper}{a:Act}{w:World}{x:Nat}(b:o.op=.move (.tmp x))(c:a.eval (.tmp x)=v):(execOp a.eval o).run Try.prog w=.ok (.value v) w:=by
 unfold execOp;rw[b];show Sem.run _ (pure (Next.value (a.eval (.tmp x)))) w=_;rw[c];rfl
def A0h{G}(S:t7 G){base:Nat}{D:List Deferred}{ρs:Sx.Ren}{Z:Nat->Option Sx.Loc}{Kt z:Nat->Prop}{w0:World}(ring:g8 Try.prog G base gl n0 12 Try.f9.ntmps H0 xH w0 ρs z)
  {x:Option (List Mt)} {ks:List (Int×Int)} {o:Option (List (Int×Int×Int))} (ho:o=g7 x ks) (hlen:ks.length<=100000000) {Q:Exit->Act->World->Prop} {a:Act} {w:World} {ρ2:Sx.Ren}
  (F:E9 D Try.prog G base Try.f9.ntmps ρ2 SL1 BL1 [E6 rK o,E6 rM x] a w) (nm:Nm n0 ρs Z Kt z w0 BL1 ρ2) (kp:Kp z w0 w)
  (hq:∀ (a2:Act) (w2:World) (ρ3:Sx.Ren),E9 D Try.prog G base Try.f9.ntmps ρ3 clX.sl clX.bl [E6 rK (g7 x (ks.mergeSort leP)),.int .i64 0] a2 w2->Nm n0 ρs Z Kt z w0 clX.bl ρ3->Kp z w0 w2->Q .ret a2 w2) :
  (Code.seq (.region (GF [true,true,true,true,false] clB) o6 false) xO).wpIn (fw rd) 0 Try.prog Q a w:=by
 subst ho;have N:a.tmps.size=Try.f9.ntmps:=F.size;have H:P5 [E6 rK (g7 x ks),E6 rM x] (gE [E6 rK (g7 x ks),E6 rM x]):=fun j u hj=>by simp[gE,hj]
 obtain⟨q1,q2⟩:=@x9 ⟨gE [E6 rK (g7 x ks),E6 rM x],G⟩ _ _ _ _ _ (F.fr _ H (2,own 2 0 13) (.head _));have q1:FM ρ2 2 (E6 rK (g7 x ks)) (a.tmps.getD 2 undef):=q1;have last:∀ (w':World),E9 D Try.prog G base Try.f9.ntmps ρ2 SL1 BL1 [E6 rK (g7 x (ks.mergeSort leP)),E6 rM x] a w'->Kp z w0 w'->wpL Try.prog rd o6 (Exit.then (xO.wpIn (fw rd) 0 Try.prog Q) Q) [] ((a.put (some 53) (a.tmps.getD 2 undef)).put (some 54) (.tuple #[])) w':=fun w' X az=>by
  show xO.wpIn (fw rd) 0 Try.prog Q _ _;exact A14 S base _ 0 _ _ (JM _ _) rfl rd Z Kt z ρs w0 D _ (ring.of YE) (fun a2 w2 ρ3 P V Y=>hq a2 w2 ρ3 P V Y) _ _ _ ((X.put (d:=53) (fun y L=>by rw[G7.1 L];decide)).put (d:=54) (fun y L=>by rw[G7.1 L];decide)) nm az
 refine wpIn_seq (Q6 ?_);rw[A1J];refine dJ o60.2.2 (by unfold Oper.about;rw[o60.1]) (fun c=>by rw[o60.1];exact fun h=>by cases h) (ZS (v:=a.tmps.getD 2 undef) o60.1 rfl) ?_;rw[o60.2.1];have m:(a.put (some 53) (a.tmps.getD 2 undef)).eval (.tmp 53)=a.tmps.getD 2 undef:=p7 (by rw[N];exact Nat.lt_trans L8 n54);rcases q1 with⟨l,wd,r1,r2,q,r4⟩|⟨l,wd,rows,r1,r2,q,r4,r5,r6⟩
 ·
  rw[r4]at m last ⊢;have M:ks=[]:=by
   unfold g7 at q;split at q
   .assumption
   .rw[oX]at q;cases q
  refine rJ (f:=24) (args:=#[.slice none 0 0,.func (.func 25) #[] #[]]) o61.2.2 o61.1 (by
   simp only[S7,B8,E3,m];rfl) A1z ((NL none 0 w).mono fun e w' ⟨W,R⟩=>⟨_,W,?_⟩)
  rw[o61.2.1,R];refine last w ?_ kp;subst M;rw[List.mergeSort_nil];exact F
 ·
  rw[r6]at m last ⊢;have B:¬ks=[]:=fun e=>by
   unfold g7 at q;rw[B2 e]at q;rw[X8]at q;cases q
  have r:E6 rK (g7 x ks)=.seq false 3 (ks.map (kY x)):=by
   unfold g7;rw[B1 B,oX]
  have I:¬ks.mergeSort leP=[]:=fun e=>B (by
   have:=(Y8 ks leP).length_eq;rw[e]at this;exact D9.1 this.symm)
  have A:E6 rK (g7 x (ks.mergeSort leP))=.seq false 3 ((ks.mergeSort leP).map (kY x)):=by
   unfold g7;rw[B1 I,oX]
  obtain⟨l1,J,e2⟩:=F.mb (2,.sq 0 13 45 3) (.head _);have J:ρ2 2=some l1:=J;rw[r1]at J;cases J;have K:SqR Try.prog ρ2 (.seq false 3 (ks.toArray.toList.map (kY x))) (10+3) 45 3 false l w:=by
   have:=e2 _ H;have:SqR Try.prog ρ2 (E6 rK (g7 x ks)) 13 45 3 false l w:=this;rw[r]at this;exact this
  letI O:Ora:=⟨gE [E6 rK (g7 x ks),E6 rM x],G⟩
  obtain⟨hH,s,ay,hblk⟩:=NK (DQ x) (JC x) K r2;rw[<- s]at m;refine rJ (f:=24) (args:=#[.slice (some ⟨l.blk,l.sh,none⟩) ks.toArray.size l.cap,.func (.func 25) #[] #[]]) o61.2.2 o61.1 (by
   rw[s];rw[s]at m;simp only[S7,B8,E3,m];rfl) A1z ((ZE x l.blk l.sh l.cap ks.toArray w hH hblk (by simp;omega)).mono fun e w' ⟨W,n,os,R⟩=>⟨_,W,?_⟩)
  rw[o61.2.1,R];have C:=aK (w:=w) (encU:=kY x) (k:=3) (d':=(ks.toArray.toList.mergeSort leP).toArray) n os l.blk l.sh hblk;refine last _ ?_ ⟨⟨C.2.2.2.1.trans kp.os.1,C.2.2.2.2.1.trans kp.os.2.1,C.2.2.2.2.2.trans kp.os.2.2⟩,B6 kp.size C.2.2.1,fun k hk hn=>?_⟩
  .rw[A]
   have:=E9.sorted (encU:=kY x) (b:=2) (k:=3) (t:=2) (g:=3) (n:=n) (T:=45) (d:=ks.toArray) (d':=(ks.toArray.toList.mergeSort leP).toArray) (os:=os) (l:=l) (bl0:=[(3,.frz)]) (us:=[E6 rM x]) (by rw[<- r];exact F) rfl (DQ x) (JC x) r1 r2 (by simp);exact this
  .have E:k≠l.blk:=fun e=>by
    subst e;rcases nm.own (2,.sq 0 13 45 3) (.head _) rfl l r1 r2 with h|h
    .omega
    .exact hn h
   rw[C.2.1 k (C9 hk kp.size) E];exact kp.keep k hk hn
set_option maxHeartbeats 4000000 in
def JK{G}(n:t7 G):TI Try.prog G gl n0 12 Try.f9.ntmps H0 xH nK clB:=by
 intro base us d outs X ae hX rd V Kt N ρs w D Q ring bl hq a1 w1 ak aa ai ah;obtain⟨l,rfl,hc,rfl,rfl⟩:=LW ae;have hX:X=clX:=(A5 hX).symm;subst hX;rw[A0i];refine wpIn_seq (A2E n base _ 0 _ _ (JT l) rfl rd V Kt N ρs w D _ (ring.of YP) (fun a2 w2 ρ2 ax aq ao=>?_) a1 w1 ak aa ai ah);show Code.wpIn _ _ _ _ _ _ _;by_cases hr:rsP (el l)
 .have s2:xP [E6 rR l,E6 rK none]=some (1,[E6 rR l,E6 rK none]):=(rE l none hc).trans (B2 hr);refine wpIn_seq (YM n base _ 1 _ _ s2 rfl rd V Kt N ρs w D _ (ring.of SN) (fun a3 w3 ρ3 L I P=>?_) a2 w2 ρ2 ax aq ao);show Code.wpIn _ _ _ _ _ _ _;refine wpIn_seq (A1_ n base _ 0 _ _ (JR l none ⟨hc.1,hr.2⟩) rfl rd V Kt N ρs w D _ (ring.of YJ) (fun a4 w4 a A c f=>?_) a3 w3 ρ3 L I P);show Code.wpIn _ _ _ _ _ _ _;obtain⟨x,hx⟩:∃ x,x=ruL (el l) (some []):=⟨_,rfl⟩;have av:GdM 5120 x:=by rw[hx];exact A1e hr
  rw[<- hx]at A;have A:E9 D Try.prog G base Try.f9.ntmps a SL2 BLm [E6 rK none,E6 rM x] a4 w4:=A;have c:Nm n0 ρs V Kt N w BLm a:=c;obtain⟨q,f5,g5⟩:=A.mb (5,.mm 1 14 55) (by simp[BLm]);have f5:a 5=some q:=f5;obtain⟨_,bp⟩:=g5 (gE [E6 rK none,E6 rM x]) fun j u hj=>by simp[gE,hj]
  obtain⟨es,clock,ga,hm,hex,bq,H⟩:=A20 (x:=x) bp;have hp:=A2v A f5 hm;have aw:Nm n0 ρs (fun b=>V2 a 5 (some (J3 q.blk (.map es clock))) b) Kt N w BL2 (V2 a 5 (some (J3 q.blk (.map es clock)))):=by
   have F:q.on=true:=(g5 (gE [E6 rK none,E6 rM x]) fun j u hj=>by simp[gE,hj]).1.1;have back:∀ y ∈ BL2,y.1≠5->∃ z ∈ BLm,z.1=y.1/\z.2.rw=y.2.rw/\∀ l k,TcP y.2 l k↔TcP z.2 l k:=fun y g r=>by
    simp only[BL2,A8,C3,or_false]at g;rcases g with rfl|rfl|rfl|rfl
    .exact⟨(2,.sq 0 13 45 3),by simp[BLm],rfl,rfl,fun _ _=>Iff.rfl⟩
    .exact⟨(4,.cm 55 [.map (some 5)]),by simp[BLm],rfl,rfl,fun l k=>by simp[TcP,PB.rw]⟩
    .exact⟨(3,.frz),by simp[BLm],rfl,rfl,fun _ _=>Iff.rfl⟩
    .exact absurd rfl r
   refine⟨fun b Y=>absurd Y (aU _),fun b Y au=>?_,fun y g bj=>rfl,fun y g l' k o S=>?_,fun y g hw l' o ag=>?_⟩
   .have r:b≠5:=fun e=>au (by subst e;simp[BL2,nms])
    rw[M0 r];refine c.out b Y fun h=>au ?_
    simp only[BLm,nms,B8,E3,A8,C3,or_false]at h;rcases h with rfl|rfl|rfl|rfl<;>simp[BL2,nms]
   .by_cases r:y.1=5
    .rw[r,R1]at o;cases o;have:TcP (PB.mm 1 14 55) q k:=by
      simp only[BL2,A8,C3,or_false]at g;rcases g with rfl|rfl|rfl|rfl<;>first|(cases r;done)|skip
      rcases S with⟨_,_,e⟩|⟨e,_⟩
      .exact .inl ⟨rfl,F,e⟩
      .cases e
     exact c.tch (5,.mm 1 14 55) (by simp[BLm]) q k f5 this
    .rw[M0 r]at o;obtain⟨z,Z,K,T,e3⟩:=back y g r;exact c.tch z Z l' k (by rw[K];exact o) ((e3 _ _).1 S)
   .by_cases r:y.1=5
    .rw[r,R1]at o;cases o;exact c.own (5,.mm 1 14 55) (by simp[BLm]) rfl q f5 F
    .rw[M0 r]at o;obtain⟨z,Z,K,T,e3⟩:=back y g r;exact c.own z Z (by rw[T];exact hw) l' (by rw[K];exact o) ag
  obtain⟨O,f4,g4⟩:=hp.mb (4,.cells 55 [.map (some 5)]) (by simp[BL2]);have f4:V2 a 5 (some (J3 q.blk (.map es clock))) 4=some O:=f4;have an:P5 [E6 rK none,E6 rM x] (gE [E6 rK none,E6 rM x]):=fun j u hj=>by simp[gE,hj]
  have aj:=hp.fr _ an (5,.pointer (some ⟨4,0,none⟩)) (by simp[SL2]);obtain⟨bx,k1,_,k2⟩:=@L1 ⟨gE [E6 rK none,E6 rM x],G⟩ _ _ _ aj;have k1:V2 a 5 (some (J3 q.blk (.map es clock))) 4=some bx:=k1;rw[f4]at k1;cases k1;have k2:a4.tmps.getD 5 undef=.pointer (some ⟨O.blk,0+O.sh,none⟩):=k2;obtain⟨h0,C,fz,T',c1,c2,_⟩:=g4 _ an;obtain⟨v',c3,c4⟩:=c2 0 _ rfl;obtain⟨bm,c5,rfl⟩:=@mT ⟨gE [E6 rK none,E6 rM x],G⟩ _ _ _ c4;rw[R1]at c5;cases c5;have c3:C[O.sh+0]? = some (.map (some q.blk)):=c3;have az:a4.tmps.size=Try.f9.ntmps:=hp.size;have bo:=n54;refine wpIn_seq (wpIn_seq (Q6 ?_));rw[A1K];refine MN (x:=.tmp 5) (t:=55) (b:=O.blk) (s:=0+O.sh) (v:=.map (some q.blk)) o50.2.2 o50.1 k2 A2K (by
   simp only[World.cell?,c1,Option.isSome_none,G9,if_false];rw[fO 0 O.sh];exact c3) ?_
  rw[o50.2.1];refine vI (m:=.tmp 17) (t:=55) (k:=58) (e:=60) (b:=q.blk) (clock:=clock) (es:=es) o51.2.2 o51.1 A0x (p7 (by rw[az];omega)) hm ?_;rw[o51.2.1];show Code.wpIn _ _ _ _ _ _ _;obtain⟨b,Y⟩:∃ b,b=q.blk:=⟨_,rfl⟩;rw[<- Y]at hm hp aw ⊢;have ay:b<w4.heap.size:=(B5.1 hm).1;obtain⟨w5,E⟩:∃ w',w'=w4.alloc (.mapIter (some b) clock #[] clock):=⟨_,rfl⟩;have B:=MapKept.heap_alloc w4 (.mapIter (some b) clock #[] clock);rw[<- E]at B ⊢;have bs:w5.heap[w4.heap.size]? = some (.mapIter (some b) clock #[] clock):=by
   rw[E];show(w4.heap.push _)[w4.heap.size]? = _;rw[K4,B2 rfl]
  have bn:w5.heap.size=w4.heap.size+1:=by
   rw[E];show(w4.heap.push _).size=_;exact Array.size_push _
  have R:w5.os=w4.os/\w5.tape=w4.tape/\w5.output=w4.output:=by rw[E];exact⟨rfl,rfl,rfl⟩
  have br:(none:Option (List (Int×Int×Int)))=g7 x (([]:List MapEntry).map fun e=>kM (ga e)):=rfl;refine wpIn_block (II (es:=es) (JJ G base D ρs (fun b'=>V2 a 5 (some (J3 b (.map es clock))) b') Kt N w x ga b w4.heap.size clock es) ?_ fun seen done a' w' ar J=>?_)
  .refine⟨⟨_,?_,aw,fun y g l' o S=>?_,R1⟩,?_,?_,⟨clock,A6 _,bs⟩,?_,f.size,A9⟩
   .rw[<- br];refine E9.world ((hp.put (d:=17) (oA rfl)).put (d:=18) (oA rfl)) fun y g l' k o S=>B.2 k (hp.tc g o S)
   .exact Nat.lt_irrefl _ (hp.tc g o S)
   .exact⟨⟨R.1.trans f.os.1,R.2.1.trans f.os.2.1,R.2.2.trans f.os.2.2⟩,by have:=f.size;omega,fun k hk hn=>(B.2 k (C9 hk f.size)).trans (f.keep k hk hn)⟩
   .exact p7 (by rw[o9,az];omega)
   .rw[B.2 b ay];exact hm
  .refine RR n ring av hex bq H ar J fun Z a6 w6 J6=>?_
   show Code.wpIn _ _ _ _ _ _ _;obtain⟨⟨bk,bt,ad,_,_⟩,bu,_⟩:=J6;have M:=ar.perm Z H.1;have W:(done.map fun e=>kM (ga e)).Perm ((el x).map kM):=by
    rw[hex,fP];exact M.map _
   refine A0h n ring rfl ?_ (QK bt) (A0M (φ':=V) ad) bu fun a7 w7 af bz al bw=>?_
   .have:=W.length_eq;rw[this,E8]
    have:=av.le;omega
   .refine hq a7 w7 af ?_ al bw;have K:g7 x ((done.map fun e=>kM (ga e)).mergeSort leP)=clO (el l):=by
     rw[FA W,QC];unfold clO ZX;rw[B2 hr,<- hx];unfold g7;by_cases he:el x=[]
     .rw[he,E3];rfl
     .rw[B1 he,B1 fun h=>he ?_]
      have:=(fB (l:=(el x).map kM)).length_eq;rw[h]at this;have h2:((el x).map kM).length=0:=this.symm;rw[E8]at h2;exact D9.1 h2
    have T:uZ (el l)=0:=B2 hr;rw[<- K,T];exact bz
 .have s2:xP [E6 rR l,E6 rK none]=some (0,[E6 rK none,.int .i64 450]):=(rE l none hc).trans (B1 hr);refine wpIn_seq (YM n base _ 0 _ _ s2 rfl rd V Kt N ρs w D _ (ring.of SN) (fun a3 w3 ρ3 L I P=>?_) a2 w2 ρ2 ax aq ao);have K:clO (el l)=none:=B1 hr;have T:uZ (el l)=450:=B1 hr;rw[K,T]at hq;exact hq a3 w3 ρ3 L I P
#print axioms JK
def XH{G}(a:t7 G):KF Try.prog G gl 9 (PI Try.prog Try.f9 gl n0 12 xH nK):=fun E base=>by
 letI O:Ora:=⟨E,G⟩
 exact uC (L:=⟨u6 Try.prog gl n0 12 xH nK⟩) Try.func9 A1v (IE 9 _ Try.func9) (WA a A1t (JK a) E base)
#print axioms XH
open Go Go.Sx Go.Proofs.Try
noncomputable def A2O:gL:=⟨_,fun a=>.nil⟩
def BM:List U->Option (Nat×List U)
 | [.bool a,.bool b,.bool c,.bool d]=>some (0,[.int .i64 (lD a b c d)])
 | _=>none
def UD(a:Bool)(b:Bool)(c:Bool)(d:Bool):BM [.bool a,.bool b,.bool c,.bool d]=some (0,[.int .i64 (lD a b c d)]):=rfl
def WV:Tr:=.br 0 (.br 1 (.br 2 (.br 3 (.ret [jI 9532]) (.ret [jI 9508])) (.br 3 (.ret [jI 9500]) (.ret [jI 9474]))) (.br 2 (.br 3 (.ret [jI 9524]) (.ret [jI 9496])) (.br 3 (.ret [jI 9492]) (.ret [jI 9474])))) (.br 1 (.br 2 (.br 3 (.ret [jI 9516]) (.ret [jI 9488])) (.br 3 (.ret [jI 9484]) (.ret [jI 9474]))) (.br 2 (.ret [jI 9472]) (.br 3 (.ret [jI 9472]) (.ret [jI 0]))))
def A1B{G}(e:t7 G):iR prog G 16 [.s 8,.s 8,.s 8,.s 8] BM [.s 3]:=by
 refine l8 (d:=60) WV (cxg (A2O.2 e) .nil) e ⟨f16,_,func16,rfl⟩ F6 F6 ?_;intro us outs f;unfold BM at f;split at f
 .skip;rename_i a b c d;cases f;unfold WV;refine w0 (.cons 3 _ (.cons 2 _ (.cons 1 _ (.cons 0 _ (.nil))))) ?_;repeat (first|refine w4 (fun g=>?_) fun g=>?_|refine w4B (fun g=>?_) fun g=>?_|(refine w7 [.int .i64 _] ?_;rotate_left))
  all_goals
   first|(simp_all;done)|(simp_all [lD];done)|(cases d<;>simp_all [lD];done)|(cases c<;>cases d<;>simp_all [lD];done)
 .cases f
def eqK(x y:Kt):Bool:=(x.1 == y.1) && ((x.2.1 == y.2.1) && ((x.2.2 == y.2.2) && true))
def A2h{α:Type}{l r:List α}(h:l.length=r.length):(l.zip r).length=l.length:=by rw[List.length_zip];omega
def neK(p:Kt×Kt):Bool:=!eqK p.1 p.2
def yL(a b:List Kt):Bool:=decide (a.length=b.length) && (l6 neK (a.zip b) 0).isNone
def ZQ{a b:List Kt}(h:¬(a.length:Int)=b.length):yL a b=false:=by
 unfold yL;rw[U8 A9,Bool.false_and]
def ZP{a b:List Kt}(h:(a.length:Int)=b.length)(c:l6 neK (a.zip b) 0=none):yL a b=true:=by
 unfold yL;rw[cO A9,c];rfl
def ZO{a b:List Kt}{j:Int}(c:l6 neK (a.zip b) 0=some j):yL a b=false:=by
 unfold yL;rw[c,Option.isNone_some,Bool.and_false]
def IC(h:eqK p.1 p.2=false):neK p=true:=by unfold neK;rw[h];rfl
def ID(h:eqK p.1 p.2=true):neK p=false:=by unfold neK;rw[h];rfl
def A0r{b:Bool}(h:(!b)=false):b=true:=by cases b<;>first|rfl|cases h
def A0s{b:Bool}(h:(!b)=true):b=false:=by cases b<;>first|rfl|cases h
abbrev Nt:=(Int×Int×Int×Bool)
def A2t(x:Nt):Rt:=if x.2.2.2=true then(x.1%40,x.2.1%80,1+x.2.2.1%(40-x.1%40),1,true)else(x.1%40,x.2.1%80,1,1+x.2.2.1%(80-x.2.1%80),false)
def ruA:List Nt->Nat->Option (List Rt)->Option (List Rt)
 | x::l,n+1,o=>ruA l n (some (el o++[A2t x]))
 | _,_,o=>o
def u8P(x:Int):Prop:=0<=x/\x<256
def nOk(x:Nt):Prop:=u8P x.1/\u8P x.2.1/\u8P x.2.2.1
instance(x:Nt):Decidable (nOk x):=by unfold nOk u8P;infer_instance
attribute [local irreducible] ruA
noncomputable def A0n:gL:=⟨_,fun a=>.nil⟩
def gR:List U->Option (Nat×List U)
 | [u_a,u_b,.int .i64 i]=>(T5 rK u_a).bind fun a=>(T5 rK u_b).bind fun b=>if 0<=i/\i<=((el a).length:Int)/\(el a).length=(el b).length/\((el a).length:Int)<=140737488351232 then rN (l6 neK (((el a).zip (el b)).drop i.toNat) i) [] (fun _=>[])else none
 | _=>none
def gQ(a:(Option (List (Int×Int×Int))))(b:(Option (List (Int×Int×Int))))(i:Int)(c:0<=i/\i<=((el a).length:Int)/\(el a).length=(el b).length/\((el a).length:Int)<=140737488351232):gR [E6 rK a,E6 rK b,.int .i64 i]=rN (l6 neK (((el a).zip (el b)).drop i.toNat) i) [] (fun _=>[]):=by
 simp only[gR,L3,H4];exact B2 c
def NX:J5:=⟨[(0,dat 1 0 13),(1,dat 2 1 13),(5,h 2 3)],[(1,.frz),(2,.frz)],3,[⟨.exit 0,[],[],0⟩,⟨.ret,[(4,.bool false)],[],0⟩]⟩
noncomputable def FG:Code:=(f11.body).getD .skip
noncomputable def NT:Code:=match G4 [true,true,false,true,false] FG with|some (.loop x)=>x|_=>.skip
def NW:f11.body=some FG:=rfl
def NV:G4 [true,true,false,true,false] FG=some (.loop NT):=F6
def NU:Tr:=aD [h 0 13]<|aL [h3 2,h3 3]<|.br 4 (.lt 8 (.inbs 3) [h3 2,h 0 13]<|.br 5 (.lt 3 (.get 3 0) [h 0 13,h3 2]<|.lt 3 (.get 3 1) [h 0 13,h3 2]<|.lt 3 (.get 3 2) [h 0 13,h3 2]<|.lt 8 (.inbs 3) [h3 2,h 1 13]<|.br 9 (.lt 3 (.get 3 0) [h 1 13,h3 2]<|.lt 3 (.get 3 1) [h 1 13,h3 2]<|.lt 3 (.get 3 2) [h 1 13,h3 2]<|.lt 8 (.eqs) [h3 6,h3 10,h3 7,h3 11,h3 8,h3 12]<|aX [h 13 8]<|.br 14 (.ret [jI 1]) (aA [h3 2,jI 1]<|.ret [jI (-1),h 0 13,h 1 13,h3 15])) (.no)) (.no)) (.ret [jI 0])
def FF:List U->Nat
 | [u_a,u_b,.int .i64 i]=>(match T5 rK u_a with|some a=>(match T5 rK u_b with|some b=>(((el a).length:Int)-i).toNat|none=>0)|none=>0)
 | _=>0
def HN(a:(Option (List (Int×Int×Int))))(b:(Option (List (Int×Int×Int))))(i:Int):FF [E6 rK a,E6 rK b,.int .i64 i]=(((el a).length:Int)-i).toNat:=by
 simp only[FF,L3]
def ZN{G}(l:t7 G):∀ (E:Nat->U) (base:Nat),@x7 ⟨E,G⟩ prog base gl f11.ntmps NT (u6 prog gl n0 3 NX gR):=by
 refine mN (dep:=60) (f:=11) (n0:=n0) (nB:=3) (H0:=H0) FF NU (cxg (A0n.2 l) .nil) l func11 NW NV F6 F6 F6 ?_;intro us d outs c;have q:=c;unfold gR at c;split at c
 .skip;rename_i r s i;have n:=C6.1 c;clear c;obtain⟨a,k,c⟩:=n;replace k:=K6 k;subst k;have m:=C6.1 c;clear c;obtain⟨b,j,c⟩:=m;replace j:=K6 j;subst j;split at c
  .rename_i o;clear c q;have w:=A2h o.2.2.1;refine⟨rfl,?_⟩;unfold NU;refine w0 (.cons 2 _ (.cons 1 _ (.cons 0 _ (.nil)))) ?_;repeat (first|refine w4 (fun g=>?_) fun g=>?_|refine w4B (fun g=>?_) fun g=>?_|refine MX ?_|refine w1 (.get 3 0) (u:=.int .i64 _) (e:=X7 rfl A9 A9 rfl) (k':=?_)|refine w1 (.get 3 1) (u:=.int .i64 _) (e:=X7 rfl A9 A9 rfl) (k':=?_)|refine w1 (.get 3 2) (u:=.int .i64 _) (e:=X7 rfl A9 A9 rfl) (k':=?_)|refine MV ?_|refine A0z ?_|(refine w7 [.int .i64 _] ?_;rotate_left)|refine KJ ?_|refine vN ?_|(refine w8 ?_;first|omega)|refine HF ?_|refine MW ?_|refine w1 (.eqs) (e:=rfl) (k':=?_)|(refine w7 [.int .i64 _,E6 rK _,E6 rK _,.int .i64 _] ?_;rotate_left))
   all_goals first
    | refine eE ?_ ?_
      .rw[gQ a b (i+1) ⟨A9,A9,A9,A9⟩,gQ a b i o,tG (i:=i) A9 A9 (by rw[GY A9 A9 A9];first|exact IC (A0s ‹_›)|exact ID (A0r ‹_›)|exact IC ‹_›|exact ID ‹_›)]
      .rw[HN,HN];omega
    | refine O0 (d:=0) ?_
      rw[gQ a b i o,xA A9];rfl
    | refine O0 (d:=1) ?_
      rw[gQ a b i o,wZ (i:=i) A9 A9 (by rw[GY A9 A9 A9];first|exact IC (A0s ‹_›)|exact ID (A0r ‹_›)|exact IC ‹_›|exact ID ‹_›)];rfl
  .cases c
 .cases c
noncomputable def A0p:List LpE:=(11,([true,true,false,true,false],u6 prog gl n0 3 NX gR))::[]
def MF{G}(a:t7 G):fY prog G gl A0p:=.cons func11 NW NV (ZN a) .nil
noncomputable def A2N:gL:=⟨_,fun a=>.nil⟩
def vV:List U->Option (Nat×List U)
 | [u_a,u_b]=>(T5 rK u_a).bind fun a=>(T5 rK u_b).bind fun b=>if((el a).length:Int)<=140737488351232/\((el b).length:Int)<=140737488351232 then some (0,[.bool (yL (el a) (el b))])else none
 | _=>none
def TX(a:(Option (List (Int×Int×Int))))(b:(Option (List (Int×Int×Int))))(c:((el a).length:Int)<=140737488351232/\((el b).length:Int)<=140737488351232):vV [E6 rK a,E6 rK b]=some (0,[.bool (yL (el a) (el b))]):=by
 simp only[vV,L3,H4];exact B2 c
def WR:Tr:=aD [h 0 13]<|aD [h 1 13]<|aN [h3 2,h3 3]<|.br 4 (.ret [.bool false]) (.lp gR [h 0 13,h 1 13,jI 0] 0 0 (.ret [.bool true]) (.lp gR [h 0 13,h 1 13,jI 0] 1 0 (.ret [.bool false]) (.no)))
def A04{G}(j:t7 G):iR prog G 11 [.s 13,.s 13] vV [.s 8]:=by
 refine l8 (d:=60) WR (cxg (A2N.2 j) (MF j)) j ⟨f11,_,func11,rfl⟩ F6 F6 ?_;intro us outs c;unfold vV at c;split at c
 .skip;rename_i m n;have l:=C6.1 c;clear c;obtain⟨a,f,c⟩:=l;replace f:=K6 f;subst f;have k:=C6.1 c;clear c;obtain⟨b,e,c⟩:=k;replace e:=K6 e;subst e;split at c
  .rename_i o;cases c;unfold WR;refine w0 (.cons 1 _ (.cons 0 _ (.nil))) ?_;repeat (first|(refine w7 [.bool _] ?_;rotate_left)|refine HF ?_|refine ZC ?_|refine w4 (fun g=>?_) fun g=>?_|(refine w6 gR (gQ _ _ _ ⟨L8,A9,A9,A9⟩) (h0:=fun g=>?_) (h1:=fun v g=>?_);skip;rotate_left;skip;rotate_right))
   all_goals
    refine l1 ?_;symm;first
    | exact ZQ A9
    | exact ZP A9 ‹_›
    | exact ZO ‹_›
  .cases c
 .cases c
end
section
open Go Go.Sx Go.Proofs.Try
def VX(l:List Rt):((el (clO l)).length:Int)<=5120:=by
 unfold clO;split
 .rename_i h;have g:=A1e h;unfold ZX;split
  .decide
  .have:=(fB (l:=(el (ruL l (some []))).map kM)).length_eq;rw[jR,E8,this,E8]
   have:=g.le;omega
 .decide
noncomputable def A2P:gL:=⟨_,fun a=>(.consM (XH a) (.cons (A04 a) .nil))⟩
def XF:List U->Option (Nat×List U)
 | [u_l,u_m]=>(T5 rR u_l).bind fun l=>(T5 rK u_m).bind fun m=>if(((el l).length:Int)<=140737488351232/\(∀ r ∈ el l,rOk r))/\((el m).length:Int)<=140737488351232 then some (0,[.bool ((decide (uZ (el l)=0) && yL (el (clO (el l))) (el m)))])else none
 | _=>none
def XE:Tr:=.fn nK [h 0 15] 2<|aE [h3 3,jI 0]<|.br 4 (.fn vV [h 2 13,h 1 13] 1<|.ret [h 5 8]) (.ret [.bool false])
def A1i{G}(j:t7 G):iR prog G 19 [.s 15,.s 13] XF [.s 8]:=by
 refine l8 (d:=60) XE (cxg (A2P.2 j) .nil) j ⟨f19,_,func19,rfl⟩ F6 F6 ?_;intro us outs a;unfold XF at a;split at a
 .skip;rename_i n q;have f:=C6.1 a;clear a;obtain⟨l,c,a⟩:=f;replace c:=K6 c;subst c;have k:=C6.1 a;clear a;obtain⟨m,b,a⟩:=k;replace b:=K6 b;subst b;split at a
  .rename_i o;cases a;have r:=VX (el l);unfold XE;refine w0 (.cons 1 _ (.cons 0 _ (.nil))) ?_;repeat (first|(refine w7 [.bool _] ?_;rotate_left)|refine w32 nK (e:=VW _ o.1) (k':=?_)|refine TP ?_|refine w4 (fun g=>?_) fun g=>?_|refine w31 vV (e:=TX _ _ ⟨A9,A9⟩) (k':=?_))
   all_goals
    refine l1 ?_;first|(rw[cO ‹_›];rfl)|(rw[U8 ‹_›];rfl)
  .cases a
 .cases a
noncomputable def A2M:gL:=⟨_,fun a=>(.cons (A1i a) (.cons (GN a) .nil))⟩
def AK:List U->Option (Nat×List U)
 | []=>some (0,[.bool (True)])
 | _=>none
def TM :AK []=some (0,[.bool (True)]):=rfl
def A0t{G}(a:t7 G):iR prog G 14 [] AK [.s 8]:=by
 refine vB (d:=60) (cxg (A2M.2 a) .nil) a ⟨f14,_,func14,rfl⟩ ?_;intro us outs b;unfold AK at b;split at b
 .cases b;exact⟨List.replicate 5 1,by kernel_rfl⟩
 .cases b
noncomputable def A2b:gL:=⟨_,fun a=>(.cons (GN a) (.cons (A1B a) (.cons (A0t a) .nil)))⟩
def YS:List U->Option (Nat×List U)
 | [.bool a,.bool b,.bool c,.bool d]=>some (0,[.bool (true)])
 | _=>none
def YR:Tr:=.fn lC [h 0 8,h 1 8,h 2 8,h 3 8] 1<|.fn BM [h 0 8,h 1 8,h 2 8,h 3 8] 1<|aE [h3 4,h3 5]<|.br 6 (.fn AK [] 1<|.ret [h 7 8]) (.ret [.bool false])
def A2H{G}(f:t7 G):iR prog G 4 [.s 8,.s 8,.s 8,.s 8] YS [.s 8]:=by
 refine l8 (d:=60) YR (cxg (A2b.2 f) .nil) f ⟨f4,_,func4,rfl⟩ F6 F6 ?_;intro us outs j;unfold YS at j;split at j
 .skip;rename_i a b c d;cases j;unfold YR;refine w0 (.cons 3 _ (.cons 2 _ (.cons 1 _ (.cons 0 _ (.nil))))) ?_;repeat (first|(refine w7 [.bool _] ?_;rotate_left)|refine w31 lC (e:=DX _ _ _ _) (k':=?_)|refine w31 BM (e:=UD _ _ _ _) (k':=?_)|refine TP ?_|refine w4 (fun g=>?_) fun g=>?_|refine w31 AK (e:=TM ) (k':=?_))
  all_goals
   refine l1 ?_;first|rfl|(simp_all;done)
 .cases j
end
end Go.Proofs.Ytjdnjfnhdeplfaa
