import Derived.Test.YtjdnjfnhdeplfaaX10
set_option linter.all false
set_option maxRecDepth 100000
set_option maxHeartbeats 4000000
namespace Go.Proofs.Ytjdnjfnhdeplfaa
open Go Go.Sx Go.Sort Go.Shelf Go.Proofs
variable {d i t:Nat}{outs us:List U}{ρ ρ3:Sx.Ren}{v:Value}{rd:Option Nat}{p:Kt×Kt}
section
open Go Go.Sx Go.Sort Go.Shelf Go.Proofs
noncomputable def clB:Code:=(Try.f9.body).getD .skip
noncomputable def o5:Array Oper:=BX [true,true,true,false,false] clB
noncomputable def p1:Array Oper:=BX [true,true,true,false,true,false,false,false] clB
noncomputable def o6:Array Oper:=BX [true,true,true,true,false] clB
noncomputable def clL:Code:=.seq (.region (FY [true,true,true,false,true,false,false,false] clB) p1 false) (.seq (.cond (.tmp 20) .skip (.exit 0)) (.block 1 (.seq (.region (FY [true,true,true,false,true,false,false,true,true,false,false] clB) kG false) SD)))
def A1l:Try.f9.body=some clB:=rfl
def A0a:clB=.seq SK (.seq SH (.seq SF (.seq (.seq (.region (FY [true,true,true,false,false] clB) o5 false) (.block 0 (.loop clL))) (.seq (.region (FY [true,true,true,true,false] clB) o6 false) xK)))):=G9
def A1B:o5.toList=[o5.getD 0 default,o5.getD 1 default]:=G9
def A07:p1.toList=[p1.getD 0 default,p1.getD 1 default]:=G9
def A1C:kG.toList=kG.getD 0 default::kG.toList.drop 1:=G9
def A1A:o6.toList=[o6.getD 0 default,o6.getD 1 default]:=G9
def o50:(o5.getD 0 default).op=.load 55 (.tmp 5)/\(o5.getD 0 default).dst=some 17/\(o5.getD 0 default).guard=none:=⟨by kernel_rfl,by kernel_rfl,by kernel_rfl⟩
def o51:(o5.getD 1 default).op=.range 55 (.tmp 17)/\(o5.getD 1 default).dst=some 18/\(o5.getD 1 default).guard=none:=⟨by kernel_rfl,by kernel_rfl,by kernel_rfl⟩
def p10:(p1.getD 0 default).op=.next (.tmp 18) false/\(p1.getD 0 default).dst=some 19/\(p1.getD 0 default).guard=none:=⟨by kernel_rfl,by kernel_rfl,by kernel_rfl⟩
def p11:(p1.getD 1 default).op=.extract (.tmp 19) 0/\(p1.getD 1 default).dst=some 20/\(p1.getD 1 default).guard=none:=⟨by kernel_rfl,by kernel_rfl,by kernel_rfl⟩
def o40:(kG.getD 0 default).op=.entry (.tmp 18)/\(kG.getD 0 default).dst=some 21/\(kG.getD 0 default).guard=none:=⟨by kernel_rfl,by kernel_rfl,by kernel_rfl⟩
def o60:(o6.getD 0 default).op=.move (.tmp 2)/\(o6.getD 0 default).dst=some 53/\(o6.getD 0 default).guard=none:=⟨by kernel_rfl,by kernel_rfl,by kernel_rfl⟩
noncomputable def A2X:Array TypeId:=match (o6.getD 1 default).op with|.call c=>c.argTypes|_=>#[]
def o61:(o6.getD 1 default).op=.call ⟨.value (.func 24),#[.tmp 53,.func 25],A2X⟩/\(o6.getD 1 default).dst=some 54/\(o6.getD 1 default).guard=none:=⟨by kernel_rfl,by kernel_rfl,by kernel_rfl⟩
def A0p:Try.prog.underlying 55=some (.map 58 60):=G9
def A2A:Y4 Try.prog 55=some false:=G9
def WC:FL Try.prog 55=some ⟨58,60,true,[3,3],true,[8,8]⟩:=G9
def zP:List U->Mt
 | [.int _ r,.int _ c,.bool v,.bool h]=>(r,c,v,h)
 | _=>default
def QS(a:Mt):zP (rM.enc a)=a:=rfl
def A2p{x:Option (List Mt)}{l:Go.Sx.Loc}{w:World}(h:MpR Try.prog (E6 rM x) t 55 l w):∃ es clock,∃ b:MapEntry->Mt,w.heap[l.blk]? = some (.map es clock)/\el x=es.toList.map b /\
  (∀ e ∈ es.toList,e.key=.agg #[.int .i64 (b e).1,.int .i64 (b e).2.1]/\e.val=.agg #[.bool (b e).2.2.1,.bool (b e).2.2.2])/\qC es.toList clock:=by
 obtain⟨y,es,clock,rows,h1,q,h3,c,n,f⟩:=h;rw[WC]at h1;cases h1;obtain⟨g,g1,g2⟩:=TS n f.1;rw[X7]at c;have hr:rows=(el x).map rM.enc:=by
  cases x with
  | none=>cases c
  | some l=>cases c;rfl
 refine⟨es,clock,fun e=>zP (g e),h3,?_,fun e he=>?_,f⟩
 .have:(rows.map zP)=(es.toList.map g).map zP:=by rw[g1]
  rw[hr,fN,fN]at this;have o:(zP ∘ rM.enc)=id:=funext fun a=>QS a
  rw[o,List.map_id]at this;exact this
 .obtain⟨_,k,m⟩:=g2 e he;have hm:g e ∈ rows:=by rw[g1];exact aU he
  rw[hr]at hm;obtain⟨a,_,j⟩:=I6.1 hm;rw[<- j]at k m;show e.key=.agg #[.int .i64 (zP (g e)).1,.int .i64 (zP (g e)).2.1]/\e.val=.agg #[.bool (zP (g e)).2.2.1,.bool (zP (g e)).2.2.2];rw[<- j];exact⟨k,m⟩
def nH:List U->Option (Nat×List U)
 | [u_l]=>(T4 rR u_l).bind fun l=>if((el l).length:Int)<=140737488351232/\(∀ r ∈ el l,rOk r)then some (0,[E6 rK (clO (el l)),.int .i64 (uV (el l))])else none
 | _=>none
def VN(l:(Option (List (Int×Int×Int×Int×Bool))))(a:((el l).length:Int)<=140737488351232/\(∀ r ∈ el l,rOk r)):nH [E6 rR l]=some (0,[E6 rK (clO (el l)),.int .i64 (uV (el l))]):=by
 simp only[nH,L2,H4];exact B2 a
def xD:J4:=⟨[(0,dat 1 0 15)],[(1,.frz)],1,[⟨.ret,[(2,own 2 0 13),(3,h 1 3)],[(2,.sq 0 13 45 3),(3,.frz)],2⟩]⟩
def A1j:J4.ok gl n0 12 Try.f9.ntmps xD=true:=G9
def LN(a:nH us=some (d,outs)):∃ l:Option (List (Int×Int×Int×Int×Bool)),us=[E6 rR l]/\(((el l).length:Int)<=140737488351232/\(∀ r ∈ el l,rOk r))/\d=0/\outs=[E6 rK (clO (el l)),.int .i64 (uV (el l))]:=by
 unfold nH at a;split at a
 .rename_i e;have f:=C6.1 a;clear a;obtain⟨l,b,c⟩:=f;replace b:=K5 b;subst b;split at c
  .rename_i g;cases c;exact⟨l,rfl,g,rfl,rfl⟩
  .cases c
 .cases a
def SL2:N2:=[(2,own 2 0 13),(5,.pointer (some ⟨4,0,none⟩))]
def BL2:J5:=[(2,.sq 0 13 45 3),(4,.cells 55 [.map (some 5)]),(3,.frz),(5,.mp 1 1014 55)]
def BLm:J5:=[(2,.sq 0 13 45 3),(4,.cm 55 [.map (some 5)]),(3,.frz),(5,.mm 1 14 55)]
structure JJ (G:Nat->Option Obj) (base:Nat) (D:List Deferred) (ρs:Sx.Ren) (φ:Nat->Option Sx.Loc) (Kt Ko:Nat->Prop) (w0:World) (x:Option (List Mt)) (ga:MapEntry->Mt) (b r clock:Nat) (es:Array MapEntry) (seen:Array Nat) (done:List MapEntry) (a:Act) (w:World):Prop where
 ex:∃ ρ2,E9 D Try.prog G base Try.f9.ntmps ρ2 SL2 BL2 [E6 rK (e9 x (done.map fun e=>kM (ga e))),E6 rM x] a w/\Nm n0 ρs φ Kt Ko w0 BL2 ρ2/\(∀ y ∈ BL2,∀ l,ρ2 y.1=some l->¬ TcP y.2 l r)/\ρ2 5=some (J2 b (.map es clock))
 kp:Kp Ko w0 w
 it:a.tmps.getD 18 undef=.pointer (some ⟨r,0,none⟩)
 cr:∃ c0,clock<=c0/\w.heap[r]? = some (.mapIter (some b) clock seen c0)
 mp:w.heap[b]? = some (.map es clock)
 lt:w0.heap.size<=r
 rb:r≠b
def S5(b:Nat):Bool:=!(Nat.beq b 5)
def A2k{G:Nat->Option Obj}{base nt:Nat}{D:List Deferred}{a:Act}{w:World}{g:Sx.Loc}{es:Array MapEntry}{clock:Nat}(h:E9 D Try.prog G base nt ρ3 SL2 BLm us a w)(r:ρ3 5=some g)(hm:w.heap[g.blk]? = some (.map es clock)) :
  E9 D Try.prog G base nt (V1 ρ3 5 (some (J2 g.blk (.map es clock)))) SL2 BL2 us a w:=by
 obtain⟨K,s,I⟩:=h.mb (5,.mm 1 14 55) (by simp[BLm]);have s:ρ3 5=some K:=s;rw[r]at s;cases s;have O:P5 us (gE us):=fun j u hj=>by simp[gE,hj]
 have B:g.on=true/\g.sh=0:=(I _ O).1;have A:∀ b l,S5 b=true->ρ3 b=some l->V1 ρ3 5 (some (J2 g.blk (.map es clock))) (idN b)=some l:=fun b l T c=>by
  have:b≠5:=fun e=>by subst e;cases T
  show V1 _ _ _ b=_;rw[L9 this];exact c
 have old:∀ x ∈ BL2,∀ l,V1 ρ3 5 (some (J2 g.blk (.map es clock))) x.1=some l->∃ y ∈ BLm,y.1=x.1/\y.2.rw=x.2.rw/\∃ l',ρ3 y.1=some l'/\l'.blk=l.blk/\l'.on=l.on/\∀ k,TcP x.2 l k↔TcP y.2 l' k:=fun x f l c=>by
  simp only[BL2,A8,C3,or_false]at f;rcases f with rfl|rfl|rfl|rfl
  .exact⟨(2,.sq 0 13 45 3),by simp[BLm],rfl,rfl,l,by rw[L9 L7]at c;exact c,rfl,rfl,fun k=>Iff.rfl⟩
  .exact⟨(4,.cm 55 [.map (some 5)]),by simp[BLm],rfl,rfl,l,by rw[L9 L7]at c;exact c,rfl,rfl,fun k=>by simp[TcP,PB.rw]⟩
  .exact⟨(3,.frz),by simp[BLm],rfl,rfl,l,by rw[L9 L7]at c;exact c,rfl,rfl,fun k=>Iff.rfl⟩
  .have c:V1 ρ3 5 (some (J2 g.blk (.map es clock))) 5=some l:=c;rw[R0]at c;cases c;exact⟨(5,.mm 1 14 55),by simp[BLm],rfl,rfl,g,r,rfl,B.1,fun k=>by simp[TcP,PB.rw,J2,B.1]⟩
 refine⟨h.size,h.defers,fun F n x f=>?_,fun x f=>?_,fun x f hw l c H=>?_⟩
 .have Q:=h.fr F n x f;simp only[SL2,A8,C3,or_false]at f;rcases f with rfl|rfl
  .exact t8 (G:=G) (E:=F) (F:=F) (S:=S5) (nx:=0) (τ:=idN) A (fun i=>by rw[D8]) DEP (own 2 0 13) _ G9 Q
  .exact t8 (G:=G) (E:=F) (F:=F) (S:=S5) (nx:=0) (τ:=idN) A (fun i=>by rw[D8]) DEP (.pointer (some ⟨4,0,none⟩)) _ G9 Q
 .simp only[BL2,A8,C3,or_false]at f;rcases f with rfl|rfl|rfl|rfl
  .obtain⟨l,q,o⟩:=h.mb (2,.sq 0 13 45 3) (by simp[BLm]);exact⟨l,A 2 l rfl q,fun F n=>nT (P:=Try.prog) (G:=G) (E:=F) (F:=F) (S:=S5) (nx:=0) (τ:=idN) A (fun i=>by rw[D8]) (p:=.sq 0 13 45 3) (o F n) rfl⟩
  .obtain⟨l,q,o⟩:=h.mb (4,.cm 55 [.map (some 5)]) (by simp[BLm]);refine⟨l,A 4 l rfl q,fun F n=>?_⟩;obtain⟨h0,C,fz,T',h1,W,h3⟩:=o F n;refine⟨h0,C,fz,T',h1,fun i v hi=>?_,h3⟩;obtain⟨v',g1,g2⟩:=W i v hi;refine⟨v',g1,?_⟩;cases i with
   | succ i=>cases hi
   | zero =>
     cases hi;obtain⟨l',q1,rfl⟩:=@mQ ⟨F,G⟩ _ _ _ g2;rw[r]at q1;cases q1;exact @VR.map ⟨F,G⟩ _ _ (J2 g.blk (.map es clock)) R0
  .obtain⟨l,q,o⟩:=h.mb (3,.frz) (by simp[BLm]);exact⟨l,A 3 l rfl q,fun F n=>o F n⟩
  .refine⟨_,R0,fun F n=>⟨⟨rfl,rfl⟩,?_⟩⟩;obtain⟨_,y,M,m,rows,q1,q2,q3,q4⟩:=I F n;refine⟨y,M,m,rows,q1,.inr ⟨?_,_,B2 rfl,hm⟩,q3,q4⟩;rcases q2 with q2|⟨q2,_⟩<;>omega
 .obtain⟨y,Z,s,I,l',R,e4,X,e6⟩:=old x f l c;obtain⟨q,o⟩:=h.own y Z (by rw[I];exact hw) l' R (by rw[X];exact H);rw[<- e4];refine⟨q,fun z V l2 L Y=>?_⟩;obtain⟨z',N,f1,_,J,f3,_,_,f6⟩:=old z V l2 L;rw[<- f1,<- s];exact o z' N J f3 ((f6 _).1 Y)
def S8(b:Nat):Bool:=Nat.beq b 2 || (Nat.beq b 3 || (Nat.beq b 4 || Nat.beq b 5))
def GO:∀ x ∈ BL2,(x.2.names S8=true/\x.2.ab 0 idN=x.2.raw)/\S8 x.1=true:=fun x a=>by
 simp only[BL2,A8,C3,or_false]at a;rcases a with rfl|rfl|rfl|rfl
 .exact⟨⟨rfl,rfl⟩,rfl⟩
 .exact⟨⟨by kernel_rfl,by kernel_rfl⟩,rfl⟩
 .exact⟨⟨rfl,rfl⟩,rfl⟩
 .exact⟨⟨rfl,rfl⟩,rfl⟩
def SX:∀ x ∈ SL2,Y2 S8 DEP x.2=true/\K7 0 idN DEP x.2=x.2:=fun x a=>by
 simp only[SL2,A8,C3,or_false]at a;rcases a with rfl|rfl
 .exact⟨by kernel_rfl,by kernel_rfl⟩
 .exact⟨by kernel_rfl,by kernel_rfl⟩
def SY{b:Nat}(h:S8 b=true):b≠8:=fun e=>by subst e;cases h
def lH{x:Nat×PB}(h:x ∈ BL2):x.1≠8:=SY (GO x h).2
def H4S:N2:=[(2,own 2 0 13),(5,.pointer (some ⟨4,0,none⟩)),(18,.pointer (some ⟨8,0,none⟩))]
def T21:Value:=.tuple ⟨[.agg ⟨[h 2 3,h 3 3]⟩,.agg ⟨[h 4 8,h 5 8]⟩]⟩
def H4B:J5:=[(2,.sq 0 13 45 3),(4,.cells 55 [.map (some 5)]),(8,.iter []),(3,.frz),(5,.mp 1 1014 55)]
def qQ{F:Nat->U}{G:Nat->Option Obj}{u:U}(a:F i=u)(b:toV u=some v)(c:F3 u=t):@VR ⟨F,G⟩ ρ (.complex .f64 i t) v :=
 @VR.hole ⟨F,G⟩ ρ i t v (by show toV (F i)=_;rw[a];exact b) (by show F3 (F i)=_;rw[a];exact c)
def yA{F:Nat->U}{G:Nat->Option Obj}{a m:U}{r c:Int}{v h:Bool}(b:P5 [a,m,.int .i64 r,.int .i64 c,.bool v,.bool h] F):@VR ⟨F,G⟩ ρ T21 (.tuple #[.agg #[.int .i64 r,.int .i64 c],.agg #[.bool v,.bool h]]):=by
 letI O:Ora:=⟨F,G⟩
 have l1:LR ρ [Sx.h 2 3,Sx.h 3 3] [.int .i64 r,.int .i64 c]:=.cons (qQ (b 2 _ rfl) rfl rfl) (.cons (qQ (b 3 _ rfl) rfl rfl) .nil);have l2:LR ρ [Sx.h 4 8,Sx.h 5 8] [.bool v,.bool h]:=.cons (qQ (b 4 _ rfl) rfl rfl) (.cons (qQ (b 5 _ rfl) rfl rfl) .nil);have e:LR ρ [.agg ⟨[Sx.h 2 3,Sx.h 3 3]⟩,.agg ⟨[Sx.h 4 8,Sx.h 5 8]⟩] [.agg ⟨[.int .i64 r,.int .i64 c]⟩,.agg ⟨[.bool v,.bool h]⟩]:=.cons (.agg l1.1 l1.2) (.cons (.agg l2.1 l2.2) .nil);exact .tuple e.1 e.2
def n21:21<Try.f9.ntmps:=A1 G9
def nX(h:(SL2.all fun x=>!(Nat.beq x.1 d))=true):∀ x ∈ SL2,x.1≠d:=fun x a e=>by
 have:=D2.1 h x a;rw[e]at this;simp at this
def RM{G}(aa:v8 G){base:Nat}{D:List Deferred}{ρs:Sx.Ren}{Z:Nat->Option Sx.Loc}{Kt N:Nat->Prop}{w0:World}(ring:g7 Try.prog G base gl n0 12 Try.f9.ntmps H0 xD w0 ρs N)
  {x:Option (List Mt)} {c:MapEntry->Mt} {b r clock:Nat} {es:Array MapEntry} (V:GdM 5120 x) (hex:el x=es.toList.map c) (ag:∀ e ∈ es.toList,e.key=.agg #[.int .i64 (c e).1,.int .i64 (c e).2.1]/\e.val=.agg #[.bool (c e).2.2.1,.bool (c e).2.2.2])
  (E:qC es.toList clock) {Q:Exit->Act->World->Prop} {seen:Array Nat} {done:List MapEntry} {a:Act} {w:World} (T:qI es seen done) (J:JJ G base D ρs Z Kt N w0 x c b r clock es seen done a w)
  (az:(leftOf es seen).size=0->∀ a' w',JJ G base D ρs Z Kt N w0 x c b r clock es seen done a' w'->Q (.exit 0) a' w') :
  clL.wpIn (fw rd) 0 Try.prog (Exit.then (fun a' w'=>∃ e ∈ (leftOf es seen).toList,JJ G base D ρs Z Kt N w0 x c b r clock es (seen.push e.born) (done++[e]) a' w') Q) a w:=by
 obtain⟨⟨ρ2,hd,nm,O,h5⟩,kp,it,⟨c0,X,hr⟩,hm,A,P⟩:=J;have aq:a.tmps.size=Try.f9.ntmps:=hd.size;have bp:21<a.tmps.size:=by rw[aq];exact n21
 have bz:r<w.heap.size:=(B5.1 hr).1;refine CF (ops1:=p1) (ops2:=kG) (t:=18) (d1:=19) (d2:=20) (since:=clock) (clock:=clock) A07 A1C p10.2.2 p11.2.2 o40.2.2 p10.1 p11.1 o40.1 p10.2.1 p11.2.1 A9 A9 L7 L7 it hr hm P E.2 X E.1 (fun hz=>?_) fun e he w1 ay=>?_
 .show Q (.exit 0) _ _;refine az hz _ _ ⟨⟨ρ2,(hd.put (nX rfl)).put (nX rfl),nm,O,h5⟩,kp,?_,⟨c0,X,hr⟩,hm,A,P⟩
  have:=W3 (a:=a.put (some 19) (.tuple #[.bool false])) (d:=20) (t:=18) (v:=.bool false) L7;have h2:=W3 (a:=a) (d:=19) (t:=18) (v:=.tuple #[.bool false]) L7;exact(this.trans h2).trans it
 .obtain⟨aw,_⟩:=mem_left he;obtain⟨hk,hv⟩:=ag e aw;have av:c e ∈ el x:=by rw[hex];exact aU aw
  have bq:=V.bd _ av;rw[o40.2.1,hk,hv];obtain⟨obj,H⟩:∃ o,o=Obj.mapIter (some b) clock (seen.push e.born) clock:=⟨_,rfl⟩;rw[<- H];obtain⟨w4,z⟩:∃ w',w'=ChangeMaps.setBlock w1 r obj:=⟨_,rfl⟩;rw[<- z];have R:w1.heap=w.heap:=by rcases ay with rfl|rfl<;>rfl
  have al:w4.heap[r]? = some obj:=by rw[z];simp[ChangeMaps.setBlock,R,bz]
  have W:∀ k,k≠r->w4.heap[k]? = w.heap[k]? := fun k hk=>by rw[z];simp[ChangeMaps.setBlock,R,D1,Ne.symm hk]
  have ao:w4.heap.size=w.heap.size:=by rw[z];simp[ChangeMaps.setBlock,R]
  have q:w4.os=w.os/\w4.tape=w.tape/\w4.output=w.output:=by
   rw[z];rcases ay with rfl|rfl<;>exact⟨rfl,rfl,rfl⟩
  obtain⟨a2,K⟩:∃ a2,a2=(a.put (some 19) (.tuple #[.bool true,.agg #[.int .i64 (c e).1,.int .i64 (c e).2.1],.agg #[.bool (c e).2.2.1,.bool (c e).2.2.2]])).put (some 20) (.bool true):=⟨_,rfl⟩;rw[<- K];have ae:a2.tmps.getD 18 undef=.pointer (some ⟨r,0,none⟩):=by
   rw[K]
   have:=W3 (a:=a.put (some 19) (.tuple #[.bool true,.agg #[.int .i64 (c e).1,.int .i64 (c e).2.1],.agg #[.bool (c e).2.2.1,.bool (c e).2.2.2]])) (d:=20) (t:=18) (v:=.bool true) L7;have h2:=W3 (a:=a) (d:=19) (t:=18) (v:=.tuple #[.bool true,.agg #[.int .i64 (c e).1,.int .i64 (c e).2.1],.agg #[.bool (c e).2.2.1,.bool (c e).2.2.2]]) L7;exact(this.trans h2).trans it
  have bw:E9 D Try.prog G base Try.f9.ntmps ρ2 SL2 BL2 ([E6 rK (e9 x (done.map fun e=>kM (c e))),E6 rM x]++[.int .i64 (c e).1,.int .i64 (c e).2.1,.bool (c e).2.2.1,.bool (c e).2.2.2]) a2 w4:=by
   rw[K];exact(((hd.world fun y f l k g I=>W k fun e'=>O y f l g (e'▸I)).more _).put (nX rfl)).put (nX rfl)
  have bx:=bw.ren (ρ':=V1 ρ2 8 (some (J2 r obj))) SX GO fun b hb=>L9 (SY hb)
  have ah:=bx.keep (t:=18) (fun y f=>lH f) al (B6 ring.bs A) O ae;have ad:E9 D Try.prog G base Try.f9.ntmps (V1 ρ2 8 (some (J2 r obj))) H4S H4B ([E6 rK (e9 x (done.map fun e=>kM (c e))),E6 rM x]++[.int .i64 (c e).1,.int .i64 (c e).2.1,.bool (c e).2.2.1,.bool (c e).2.2.2]) a2 w4 :=
   ah.sub (fun y f=>by
    simp only[H4S,A8,C3,or_false]at f;rcases f with rfl|rfl|rfl<;>simp[SL2]) fun y f=>⟨y,by
    simp only[H4B,A8,C3,or_false]at f;rcases f with rfl|rfl|rfl|rfl|rfl<;>simp[BL2],rfl,rfl⟩
  have ak:=ad.with (d:=21) (v0:=T21) (v:=.tuple #[.agg #[.int .i64 (c e).1,.int .i64 (c e).2.1],.agg #[.bool (c e).2.2.1,.bool (c e).2.2.2]]) n21 (fun y f=>by
    simp only[H4S,A8,C3,or_false]at f;rcases f with rfl|rfl|rfl<;>simp) fun F hF=>yA hF
  have bu:E9 D Try.prog G base Try.f9.ntmps (V1 ρ2 8 (some (J2 r obj))) fW.hs fW.hb [E6 rK (e9 x (done.map fun e=>kM (c e))),E6 rM x,.int .i64 (c e).1,.int .i64 (c e).2.1,.bool (c e).2.2.1,.bool (c e).2.2.2] (a2.put (some 21) (.tuple #[.agg #[.int .i64 (c e).1,.int .i64 (c e).2.1],.agg #[.bool (c e).2.2.1,.bool (c e).2.2.2]])) w4 :=
   ak.sub (fun y f=>by
    simp only[fW,A8,C3,or_false]at f;rcases f with rfl|rfl|rfl|rfl<;>simp[H4S,T21]) fun y f=>⟨y,f,rfl,rfl⟩
  have ai:Nm n0 ρs (V1 Z 8 (some (J2 r obj))) Kt N w0 fW.hb (V1 ρ2 8 (some (J2 r obj))):=by
   refine⟨fun b hb=>absurd hb (aO _),fun b hb hm=>?_,fun y f M=>?_,fun y f l k g I=>?_,fun y f hw l g L=>?_⟩
   .have m:b≠8:=fun e=>hm (by subst e;simp[fW,nms])
    rw[L9 m];refine nm.out b hb fun h=>hm ?_
    simp only[BL2,nms,B8,E3,A8,C3,or_false]at h;rcases h with rfl|rfl|rfl|rfl<;>simp[fW,nms]
   .by_cases m:y.1=8
    .rw[m,R0,R0]
    .rw[L9 m,L9 m];have s:y ∈ BL2:=by
      simp only[fW,A8,C3,or_false]at f;rcases f with rfl|rfl|rfl|rfl|rfl<;>first|exact absurd rfl m|simp[BL2]
     exact nm.fx y s M
   .by_cases m:y.1=8
    .rw[m,R0]at g;cases g;simp only[fW,A8,C3,or_false]at f;rcases f with rfl|rfl|rfl|rfl|rfl<;>first|(cases m;done)|skip
     rcases I with⟨_,_,rfl⟩|⟨h,_⟩
     .exact .inl A
     .cases h
    .rw[L9 m]at g;have s:y ∈ BL2:=by
      simp only[fW,A8,C3,or_false]at f;rcases f with rfl|rfl|rfl|rfl|rfl<;>first|exact absurd rfl m|simp[BL2]
     exact nm.tch y s l k g I
   .by_cases m:y.1=8
    .rw[m,R0]at g;cases g;exact .inl A
    .rw[L9 m]at g;have s:y ∈ BL2:=by
      simp only[fW,A8,C3,or_false]at f;rcases f with rfl|rfl|rfl|rfl|rfl<;>first|exact absurd rfl m|simp[BL2]
     exact nm.own y s hw l g L
  have bt:Kp N w0 w4:=⟨⟨q.1.trans kp.os.1,q.2.1.trans kp.os.2.1,q.2.2.trans kp.os.2.2⟩,by rw[ao];exact kp.size,fun k hk hn=>by rw[W k A9];exact kp.keep k hk hn⟩;have hlen:((el (e9 x (done.map fun e=>kM (c e)))).length:Int)<=100000000:=by
   rw[JW,E8,E8];have h1:=(T.push he);have h2:done.length<=es.toList.length:=by
    have n1:done.Nodup:=aB (·.born) (fun a b h ar=>h (by rw[ar])) T.hn;exact List.Nodup.length_le_of_subset n1 fun y f=>T.hm y f
   have h3:(el x).length=es.toList.length:=by rw[hex];simp
   have:=V.le;omega
  refine A1x aa base _ 0 _ _ (JF _ _ _ _ _ _ ⟨hlen,A9⟩) rfl rd _ Kt N ρs w0 D _ (ring.of XZ) (fun a5 w5 B C n af=>?_) _ _ _ bu ai bt;show ∃ e' ∈ (leftOf es seen).toList,_;have f8:B 8=some (J2 r obj):=by
   have:=n.fx (8,.iter []) (by simp) rfl;rw[this];exact R0
  have f5:B 5=some (J2 b (.map es clock)):=by
   have:=n.fx (5,.mp 1 1014 55) (by simp) rfl;rw[this];show V1 Z 8 _ 5=_;rw[L9 L7];have h6:=nm.fx (5,.mp 1 1014 55) (by simp[BL2]) rfl;exact h6.symm.trans h5
  obtain⟨k1,k2⟩:=C.kept (b:=8) (t:=18) (by simp) (by simp) f8;have an:w5.heap[b]? = some (.map es clock):=by
   obtain⟨l,g1,g2⟩:=C.mb (5,.mp 1 1014 55) (by simp);have g1:B 5=some l:=g1;rw[f5]at g1;cases g1;obtain⟨_,y,br,au,rows,q1,q2,q3,q4⟩:=g2 (gE [E6 rK (some (el (e9 x (done.map fun e=>kM (c e)))++[((c e).1,(c e).2.1,mkC x (c e).1 (c e).2.1 (c e).2.2.1 (c e).2.2.2)])),E6 rM x]) fun j u hj=>by simp[gE,hj]
   rcases q2 with q2|⟨_,o,q2,q5⟩
   .rw[WC]at q1;cases q1;cases q2
   .have q2:(if b=b then some (Obj.map es clock)else none)=some o:=q2;rw[B2 rfl]at q2;cases q2;exact q5
  have Y:=C.own (8,.iter []) (by simp) rfl (J2 r obj) f8 rfl;refine⟨e,he,⟨V1 B 8 none,?_,?_,fun y f l g I=>?_,by rw[L9 L7];exact f5⟩,af,k2,⟨clock,A6 _,by rw[k1,H]⟩,an,A,P⟩
  .have ax:some (el (e9 x (done.map fun e=>kM (c e)))++[(((c e).1,(c e).2.1,mkC x (c e).1 (c e).2.1 (c e).2.2.1 (c e).2.2.2):Int×Int×Int)])=e9 x ((done++[e]).map fun e=>kM (c e)):=by
    rw[LV V.nd av,M5];rfl
   rw[<- ax];have aj:=C.sub (sl':=SL2) (bl':=BL2) (fun y f=>by
    simp only[SL2,A8,C3,or_false]at f;rcases f with rfl|rfl<;>simp) fun y f=>⟨y,by
    simp only[BL2,A8,C3,or_false]at f;rcases f with rfl|rfl|rfl|rfl<;>simp,rfl,rfl⟩
   exact aj.ren (S:=S8) SX GO fun b hb=>L9 (SY hb)
  .refine⟨fun b hb=>absurd hb (aO _),fun b hb hm=>?_,fun y f M=>?_,fun y f l k g I=>?_,fun y f hw l g L=>?_⟩
   .by_cases m:b=8
    .subst m;exact R0
    .rw[L9 m];refine n.out b hb fun h=>hm ?_
     simp only[nms,B8,E3,A8,C3,or_false]at h;rcases h with rfl|rfl|rfl|rfl|rfl<;>first|exact absurd rfl m|simp[BL2,nms]
   .rw[L9 (lH f)]
    have:=n.fx y (by
     simp only[BL2,A8,C3,or_false]at f;rcases f with rfl|rfl|rfl|rfl<;>simp) M
    rw[this,L9 (lH f)]
   .rw[L9 (lH f)]at g;exact n.tch y (by
     simp only[BL2,A8,C3,or_false]at f;rcases f with rfl|rfl|rfl|rfl<;>simp) l k g I
   .rw[L9 (lH f)]at g;exact n.own y (by
     simp only[BL2,A8,C3,or_false]at f;rcases f with rfl|rfl|rfl|rfl<;>simp) hw l g L
  .rw[L9 (lH f)]at g
   have:=Y.2 y (by
     simp only[BL2,A8,C3,or_false]at f;rcases f with rfl|rfl|rfl|rfl<;>simp) l g I
   exact lH f this
def clX:fY:=⟨.ret,[(2,own 2 0 13),(3,h 1 3)],[(2,.sq 0 13 45 3),(3,.frz)],2⟩
def S6(b:Nat):Bool:=Nat.beq b 2 || Nat.beq b 3
def A2R{b:Nat}(h:S6 b=true):b=2∨b=3:=by
 rcases(F7 _ _).mp h with h|h
 .exact .inl (A0 h)
 .exact .inr (A0 h)
def OP(ρ:Sx.Ren):Sx.Ren:=fun b=>if S6 b=true then ρ b else none
def SL1:N2:=[(2,own 2 0 13)]
def BL1:J5:=[(2,.sq 0 13 45 3),(3,.frz)]
def QC{G:Nat->Option Obj}{base:Nat}{D:List Deferred}{a:Act}{w:World}(h:E9 D Try.prog G base Try.f9.ntmps ρ SL2 BL2 us a w):E9 D Try.prog G base Try.f9.ntmps (OP ρ) SL1 BL1 us a w:=by
 have h1:=h.sub (sl':=SL1) (bl':=BL1) (fun y c=>by rw[G6.1 c];simp[SL2]) fun y c=>⟨y,by
  simp only[BL1,A8,C3,or_false]at c;rcases c with rfl|rfl<;>simp[BL2],rfl,rfl⟩
 refine h1.ren (S:=S6) (fun y c=>?_) (fun y c=>?_) fun b e=>B2 e
 .rw[G6.1 c];exact⟨by kernel_rfl,by kernel_rfl⟩
 .simp only[BL1,A8,C3,or_false]at c;rcases c with rfl|rfl
  .exact⟨⟨rfl,rfl⟩,rfl⟩
  .exact⟨⟨rfl,rfl⟩,rfl⟩
def A0E{ρs:Sx.Ren}{n φ':Nat->Option Sx.Loc}{Kt j:Nat->Prop}{w0:World}(h:Nm n0 ρs n Kt j w0 BL2 ρ):Nm n0 ρs φ' Kt j w0 BL1 (OP ρ):=by
 have mem:∀ y ∈ BL1,y ∈ BL2/\S6 y.1=true/\y.2.mv=true:=fun y a=>by
  simp only[BL1,A8,C3,or_false]at a;rcases a with rfl|rfl
  .exact⟨by simp[BL2],rfl,rfl⟩
  .exact⟨by simp[BL2],rfl,rfl⟩
 refine⟨fun b g=>absurd g (aO _),fun b g hm=>?_,fun y a e=>?_,fun y a l k c o=>?_,fun y a hw l c f=>?_⟩
 .refine B1 fun m=>hm ?_
  rcases A2R m with rfl|rfl<;>simp[BL1,nms]
 .rw[(mem y a).2.2]at e;cases e
 .have c:(if S6 y.1=true then ρ y.1 else none)=some l:=c;rw[B2 (mem y a).2.1]at c;exact h.tch y (mem y a).1 l k c o
 .have c:(if S6 y.1=true then ρ y.1 else none)=some l:=c;rw[B2 (mem y a).2.1]at c;exact h.own y (mem y a).1 hw l c f
def n54:54<Try.f9.ntmps:=A1 G9
def ZJ{o:Oper}{a:Act}{w:World}{x:Nat}(b:o.op=.move (.tmp x))(c:a.eval (.tmp x)=v):(execOp a.eval o).run Try.prog w=.ok (.value v) w:=by
 unfold execOp;rw[b];show Sem.run _ (pure (Next.value (a.eval (.tmp x)))) w=_;rw[c];rfl
def A0Z{G}(S:v8 G){base:Nat}{D:List Deferred}{ρs:Sx.Ren}{R:Nat->Option Sx.Loc}{Kt s:Nat->Prop}{w0:World}(ring:g7 Try.prog G base gl n0 12 Try.f9.ntmps H0 xD w0 ρs s)
  {x:Option (List Mt)} {ks:List (Int×Int)} {o:Option (List (Int×Int×Int))} (ho:o=e9 x ks) (hlen:ks.length<=100000000) {Q:Exit->Act->World->Prop} {a:Act} {w:World} {ρ2:Sx.Ren}
  (H:E9 D Try.prog G base Try.f9.ntmps ρ2 SL1 BL1 [E6 rK o,E6 rM x] a w) (nm:Nm n0 ρs R Kt s w0 BL1 ρ2) (kp:Kp s w0 w)
  (hq:∀ (a2:Act) (w2:World) (ρ3:Sx.Ren),E9 D Try.prog G base Try.f9.ntmps ρ3 clX.sl clX.bl [E6 rK (e9 x (ks.mergeSort leP)),.int .i64 0] a2 w2->Nm n0 ρs R Kt s w0 clX.bl ρ3->Kp s w0 w2->Q .ret a2 w2) :
  (Code.seq (.region (FY [true,true,true,true,false] clB) o6 false) xK).wpIn (fw rd) 0 Try.prog Q a w:=by
 subst ho;have L:a.tmps.size=Try.f9.ntmps:=H.size;have F:P5 [E6 rK (e9 x ks),E6 rM x] (gE [E6 rK (e9 x ks),E6 rM x]):=fun j u hj=>by simp[gE,hj]
 obtain⟨q1,q2⟩:=@x5 ⟨gE [E6 rK (e9 x ks),E6 rM x],G⟩ _ _ _ _ _ (H.fr _ F (2,own 2 0 13) (.head _));have q1:FG ρ2 2 (E6 rK (e9 x ks)) (a.tmps.getD 2 undef):=q1;have last:∀ (w':World),E9 D Try.prog G base Try.f9.ntmps ρ2 SL1 BL1 [E6 rK (e9 x (ks.mergeSort leP)),E6 rM x] a w'->Kp s w0 w'->wpL Try.prog rd o6 (Exit.then (xK.wpIn (fw rd) 0 Try.prog Q) Q) [] ((a.put (some 53) (a.tmps.getD 2 undef)).put (some 54) (.tuple #[])) w':=fun w' N M=>by
  show xK.wpIn (fw rd) 0 Try.prog Q _ _;exact A1u S base _ 0 _ _ (JD _ _) rfl rd R Kt s ρs w0 D _ (ring.of XW) (fun a2 w2 ρ3 Y az V=>hq a2 w2 ρ3 Y az V) _ _ _ ((N.put (d:=53) (fun y Z=>by rw[G6.1 Z];decide)).put (d:=54) (fun y Z=>by rw[G6.1 Z];decide)) nm M
 refine wpIn_seq (Q6 ?_);rw[A1A];refine dG o60.2.2 (by unfold Oper.about;rw[o60.1]) (fun c=>by rw[o60.1];exact fun h=>by cases h) (ZJ (v:=a.tmps.getD 2 undef) o60.1 rfl) ?_;rw[o60.2.1];have m:(a.put (some 53) (a.tmps.getD 2 undef)).eval (.tmp 53)=a.tmps.getD 2 undef:=o7 (by rw[L];exact Nat.lt_trans L7 n54);rcases q1 with⟨l,wd,r1,r2,q,r4⟩|⟨l,wd,rows,r1,r2,q,r4,r5,r6⟩
 ·
  rw[r4]at m last ⊢;have K:ks=[]:=by
   unfold e9 at q;split at q
   .assumption
   .rw[oU]at q;cases q
  refine rE (f:=24) (args:=#[.slice none 0 0,.func (.func 25) #[] #[]]) o61.2.2 o61.1 (by
   simp only[S4,B8,E3,m];rfl) A1p ((NC none 0 w).mono fun e w' ⟨X,W⟩=>⟨_,X,?_⟩)
  rw[o61.2.1,W];refine last w ?_ kp;subst K;rw[List.mergeSort_nil];exact H
 ·
  rw[r6]at m last ⊢;have I:¬ks=[]:=fun e=>by
   unfold e9 at q;rw[B2 e]at q;rw[X7]at q;cases q
  have r:E6 rK (e9 x ks)=.seq false 3 (ks.map (kX x)):=by
   unfold e9;rw[B1 I,oU]
  have C:¬ks.mergeSort leP=[]:=fun e=>I (by
   have:=(Y7 ks leP).length_eq;rw[e]at this;exact D9.1 this.symm)
  have A:E6 rK (e9 x (ks.mergeSort leP))=.seq false 3 ((ks.mergeSort leP).map (kX x)):=by
   unfold e9;rw[B1 C,oU]
  obtain⟨l1,J,e2⟩:=H.mb (2,.sq 0 13 45 3) (.head _);have J:ρ2 2=some l1:=J;rw[r1]at J;cases J;have P:SqR Try.prog ρ2 (.seq false 3 (ks.toArray.toList.map (kX x))) (10+3) 45 3 false l w:=by
   have:=e2 _ F;have:SqR Try.prog ρ2 (E6 rK (e9 x ks)) 13 45 3 false l w:=this;rw[r]at this;exact this
  letI O:Ora:=⟨gE [E6 rK (e9 x ks),E6 rM x],G⟩
  obtain⟨hH,z,ay,hblk⟩:=NB (DL x) (IU x) P r2;rw[<- z]at m;refine rE (f:=24) (args:=#[.slice (some ⟨l.blk,l.sh,none⟩) ks.toArray.size l.cap,.func (.func 25) #[] #[]]) o61.2.2 o61.1 (by
   rw[z];rw[z]at m;simp only[S4,B8,E3,m];rfl) A1p ((YW x l.blk l.sh l.cap ks.toArray w hH hblk (by simp;omega)).mono fun e w' ⟨X,n,os,W⟩=>⟨_,X,?_⟩)
  rw[o61.2.1,W];have E:=aC (w:=w) (encU:=kX x) (k:=3) (d':=(ks.toArray.toList.mergeSort leP).toArray) n os l.blk l.sh hblk;refine last _ ?_ ⟨⟨E.2.2.2.1.trans kp.os.1,E.2.2.2.2.1.trans kp.os.2.1,E.2.2.2.2.2.trans kp.os.2.2⟩,B6 kp.size E.2.2.1,fun k hk hn=>?_⟩
  .rw[A]
   have:=E9.sorted (encU:=kX x) (b:=2) (k:=3) (t:=2) (g:=3) (n:=n) (T:=45) (d:=ks.toArray) (d':=(ks.toArray.toList.mergeSort leP).toArray) (os:=os) (l:=l) (bl0:=[(3,.frz)]) (us:=[E6 rM x]) (by rw[<- r];exact H) rfl (DL x) (IU x) r1 r2 (by simp);exact this
  .have B:k≠l.blk:=fun e=>by
    subst e;rcases nm.own (2,.sq 0 13 45 3) (.head _) rfl l r1 r2 with h|h
    .omega
    .exact hn h
   rw[E.2.1 k (C9 hk kp.size) B];exact kp.keep k hk hn
set_option maxHeartbeats 4000000 in
def JB{G}(o:v8 G):TD Try.prog G gl n0 12 Try.f9.ntmps H0 xD nH clB:=by
 intro base us d outs X br hX rd T Kt L ρs w D Q ring bk hq a1 w1 aj an bw ah;obtain⟨l,rfl,hc,rfl,rfl⟩:=LN br;have hX:X=clX:=(A5 hX).symm;subst hX;rw[A0a];refine wpIn_seq (A15 o base _ 0 _ _ (JL l) rfl rd T Kt L ρs w D _ (ring.of YH) (fun a2 w2 ρ2 au ao av=>?_) a1 w1 aj an bw ah);show Code.wpIn _ _ _ _ _ _ _;by_cases hr:rsP (el l)
 .have s2:xL [E6 rR l,E6 rK none]=some (1,[E6 rR l,E6 rK none]):=(qY l none hc).trans (B2 hr);refine wpIn_seq (YE o base _ 1 _ _ s2 rfl rd T Kt L ρs w D _ (ring.of SI) (fun a3 w3 ρ3 N I R=>?_) a2 w2 ρ2 au ao av);show Code.wpIn _ _ _ _ _ _ _;refine wpIn_seq (A10 o base _ 0 _ _ (JI l none ⟨hc.1,hr.2⟩) rfl rd T Kt L ρs w D _ (ring.of YB) (fun a4 w4 a A c f=>?_) a3 w3 ρ3 N I R);show Code.wpIn _ _ _ _ _ _ _;obtain⟨x,hx⟩:∃ x,x=ruL (el l) (some []):=⟨_,rfl⟩;have aq:GdM 5120 x:=by rw[hx];exact A1V hr
  rw[<- hx]at A;have A:E9 D Try.prog G base Try.f9.ntmps a SL2 BLm [E6 rK none,E6 rM x] a4 w4:=A;have c:Nm n0 ρs T Kt L w BLm a:=c;obtain⟨n,f5,g5⟩:=A.mb (5,.mm 1 14 55) (by simp[BLm]);have f5:a 5=some n:=f5;obtain⟨_,bq⟩:=g5 (gE [E6 rK none,E6 rM x]) fun j u hj=>by simp[gE,hj]
  obtain⟨es,clock,ga,hm,hex,ae,H⟩:=A2p (x:=x) bq;have hp:=A2k A f5 hm;have W:Nm n0 ρs (fun b=>V1 a 5 (some (J2 n.blk (.map es clock))) b) Kt L w BL2 (V1 a 5 (some (J2 n.blk (.map es clock)))):=by
   have F:n.on=true:=(g5 (gE [E6 rK none,E6 rM x]) fun j u hj=>by simp[gE,hj]).1.1;have back:∀ y ∈ BL2,y.1≠5->∃ z ∈ BLm,z.1=y.1/\z.2.rw=y.2.rw/\∀ l k,TcP y.2 l k↔TcP z.2 l k:=fun y q r=>by
    simp only[BL2,A8,C3,or_false]at q;rcases q with rfl|rfl|rfl|rfl
    .exact⟨(2,.sq 0 13 45 3),by simp[BLm],rfl,rfl,fun _ _=>Iff.rfl⟩
    .exact⟨(4,.cm 55 [.map (some 5)]),by simp[BLm],rfl,rfl,fun l k=>by simp[TcP,PB.rw]⟩
    .exact⟨(3,.frz),by simp[BLm],rfl,rfl,fun _ _=>Iff.rfl⟩
    .exact absurd rfl r
   refine⟨fun b Z=>absurd Z (aO _),fun b Z ay=>?_,fun y q bn=>rfl,fun y q l' k g V=>?_,fun y q hw l' g ag=>?_⟩
   .have r:b≠5:=fun e=>ay (by subst e;simp[BL2,nms])
    rw[L9 r];refine c.out b Z fun h=>ay ?_
    simp only[BLm,nms,B8,E3,A8,C3,or_false]at h;rcases h with rfl|rfl|rfl|rfl<;>simp[BL2,nms]
   .by_cases r:y.1=5
    .rw[r,R0]at g;cases g;have:TcP (PB.mm 1 14 55) n k:=by
      simp only[BL2,A8,C3,or_false]at q;rcases q with rfl|rfl|rfl|rfl<;>first|(cases r;done)|skip
      rcases V with⟨_,_,e⟩|⟨e,_⟩
      .exact .inl ⟨rfl,F,e⟩
      .cases e
     exact c.tch (5,.mm 1 14 55) (by simp[BLm]) n k f5 this
    .rw[L9 r]at g;obtain⟨z,hz,K,S,e3⟩:=back y q r;exact c.tch z hz l' k (by rw[K];exact g) ((e3 _ _).1 V)
   .by_cases r:y.1=5
    .rw[r,R0]at g;cases g;exact c.own (5,.mm 1 14 55) (by simp[BLm]) rfl n f5 F
    .rw[L9 r]at g;obtain⟨z,hz,K,S,e3⟩:=back y q r;exact c.own z hz (by rw[S];exact hw) l' (by rw[K];exact g) ag
  obtain⟨P,f4,g4⟩:=hp.mb (4,.cells 55 [.map (some 5)]) (by simp[BL2]);have f4:V1 a 5 (some (J2 n.blk (.map es clock))) 4=some P:=f4;have aw:P5 [E6 rK none,E6 rM x] (gE [E6 rK none,E6 rM x]):=fun j u hj=>by simp[gE,hj]
  have ak:=hp.fr _ aw (5,.pointer (some ⟨4,0,none⟩)) (by simp[SL2]);obtain⟨bu,k1,_,k2⟩:=@K9 ⟨gE [E6 rK none,E6 rM x],G⟩ _ _ _ ak;have k1:V1 a 5 (some (J2 n.blk (.map es clock))) 4=some bu:=k1;rw[f4]at k1;cases k1;have k2:a4.tmps.getD 5 undef=.pointer (some ⟨P.blk,0+P.sh,none⟩):=k2;obtain⟨h0,C,fz,T',c1,c2,_⟩:=g4 _ aw;obtain⟨v',c3,c4⟩:=c2 0 _ rfl;obtain⟨bp,c5,rfl⟩:=@mQ ⟨gE [E6 rK none,E6 rM x],G⟩ _ _ _ c4;rw[R0]at c5;cases c5;have c3:C[P.sh+0]? = some (.map (some n.blk)):=c3;have Y:a4.tmps.size=Try.f9.ntmps:=hp.size;have bl:=n54;refine wpIn_seq (wpIn_seq (Q6 ?_));rw[A1B];refine ME (x:=.tmp 5) (t:=55) (b:=P.blk) (s:=0+P.sh) (v:=.map (some n.blk)) o50.2.2 o50.1 k2 A2A (by
   simp only[World.cell?,c1,Option.isSome_none,G8,if_false];rw[fM 0 P.sh];exact c3) ?_
  rw[o50.2.1];refine vE (m:=.tmp 17) (t:=55) (k:=58) (e:=60) (b:=n.blk) (clock:=clock) (es:=es) o51.2.2 o51.1 A0p (o7 (by rw[Y];omega)) hm ?_;rw[o51.2.1];show Code.wpIn _ _ _ _ _ _ _;obtain⟨b,Z⟩:∃ b,b=n.blk:=⟨_,rfl⟩;rw[<- Z]at hm hp W ⊢;have ax:b<w4.heap.size:=(B5.1 hm).1;obtain⟨w5,E⟩:∃ w',w'=w4.alloc (.mapIter (some b) clock #[] clock):=⟨_,rfl⟩;have B:=MapKept.heap_alloc w4 (.mapIter (some b) clock #[] clock);rw[<- E]at B ⊢;have al:w5.heap[w4.heap.size]? = some (.mapIter (some b) clock #[] clock):=by
   rw[E];show(w4.heap.push _)[w4.heap.size]? = _;rw[K3,B2 rfl]
  have bo:w5.heap.size=w4.heap.size+1:=by
   rw[E];show(w4.heap.push _).size=_;exact Array.size_push _
  have O:w5.os=w4.os/\w5.tape=w4.tape/\w5.output=w4.output:=by rw[E];exact⟨rfl,rfl,rfl⟩
  have ad:(none:Option (List (Int×Int×Int)))=e9 x (([]:List MapEntry).map fun e=>kM (ga e)):=rfl;refine wpIn_block (IA (es:=es) (JJ G base D ρs (fun b'=>V1 a 5 (some (J2 b (.map es clock))) b') Kt L w x ga b w4.heap.size clock es) ?_ fun seen done a' w' ar J=>?_)
  .refine⟨⟨_,?_,W,fun y q l' g V=>?_,R0⟩,?_,?_,⟨clock,A6 _,al⟩,?_,f.size,A9⟩
   .rw[<- ad];refine E9.world ((hp.put (d:=17) (nX rfl)).put (d:=18) (nX rfl)) fun y q l' k g V=>B.2 k (hp.tc q g V)
   .exact Nat.lt_irrefl _ (hp.tc q g V)
   .exact⟨⟨O.1.trans f.os.1,O.2.1.trans f.os.2.1,O.2.2.trans f.os.2.2⟩,by have:=f.size;omega,fun k hk hn=>(B.2 k (C9 hk f.size)).trans (f.keep k hk hn)⟩
   .exact o7 (by rw[n9,Y];omega)
   .rw[B.2 b ax];exact hm
  .refine RM o ring aq hex ae H ar J fun hz a6 w6 J6=>?_
   show Code.wpIn _ _ _ _ _ _ _;obtain⟨⟨bm,ai,bx,_,_⟩,aa,_⟩:=J6;have M:=ar.perm hz H.1;have az:(done.map fun e=>kM (ga e)).Perm ((el x).map kM):=by
    rw[hex,fN];exact M.map _
   refine A0Z o ring rfl ?_ (QC ai) (A0E (φ':=T) bx) aa fun a7 w7 bs bt bz af=>?_
   .have:=az.length_eq;rw[this,E8]
    have:=aq.le;omega
   .refine hq a7 w7 bs ?_ bz af;have K:e9 x ((done.map fun e=>kM (ga e)).mergeSort leP)=clO (el l):=by
     rw[EU az,PU];unfold clO ZO;rw[B2 hr,<- hx];unfold e9;by_cases he:el x=[]
     .rw[he,E3];rfl
     .rw[B1 he,B1 fun h=>he ?_]
      have:=(eZ (l:=(el x).map kM)).length_eq;rw[h]at this;have h2:((el x).map kM).length=0:=this.symm;rw[E8]at h2;exact D9.1 h2
    have S:uV (el l)=0:=B2 hr;rw[<- K,S];exact bt
 .have s2:xL [E6 rR l,E6 rK none]=some (0,[E6 rK none,.int .i64 450]):=(qY l none hc).trans (B1 hr);refine wpIn_seq (YE o base _ 0 _ _ s2 rfl rd T Kt L ρs w D _ (ring.of SI) (fun a3 w3 ρ3 N I R=>?_) a2 w2 ρ2 au ao av);have K:clO (el l)=none:=B1 hr;have S:uV (el l)=450:=B1 hr;rw[K,S]at hq;exact hq a3 w3 ρ3 N I R
#print axioms JB
def RK{G}(a:v8 G):JX Try.prog G gl 9 (OZ Try.prog Try.f9 gl n0 12 xD nH):=fun E base=>by
 letI O:Ora:=⟨E,G⟩
 exact tY (L:=⟨t6 Try.prog gl n0 12 xD nH⟩) Try.func9 A1l (HW 9 _ Try.func9) (VS a A1j (JB a) E base)
#print axioms RK
open Go Go.Sx Go.Proofs.Try
def eqK(x y:Kt):Bool:=(x.1 == y.1) && ((x.2.1 == y.2.1) && ((x.2.2 == y.2.2) && true))
def A2W{α:Type}{l r:List α}(h:l.length=r.length):(l.zip r).length=l.length:=by rw[List.length_zip];omega
def neK(p:Kt×Kt):Bool:=!eqK p.1 p.2
def yH(a b:List Kt):Bool:=decide (a.length=b.length) && (j8 neK (a.zip b) 0).isNone
def ZI{a b:List Kt}(h:¬(a.length:Int)=b.length):yH a b=false:=by
 unfold yH;rw[U7 A9,Bool.false_and]
def ZH{a b:List Kt}(h:(a.length:Int)=b.length)(c:j8 neK (a.zip b) 0=none):yH a b=true:=by
 unfold yH;rw[cK A9,c];rfl
def ZG{a b:List Kt}{j:Int}(c:j8 neK (a.zip b) 0=some j):yH a b=false:=by
 unfold yH;rw[c,Option.isNone_some,Bool.and_false]
def HU(h:eqK p.1 p.2=false):neK p=true:=by unfold neK;rw[h];rfl
def HV(h:eqK p.1 p.2=true):neK p=false:=by unfold neK;rw[h];rfl
def A0j{b:Bool}(h:(!b)=false):b=true:=by cases b<;>first|rfl|cases h
def A0k{b:Bool}(h:(!b)=true):b=false:=by cases b<;>first|rfl|cases h
abbrev Nt:=(Int×Int×Int×Bool)
def A2i(x:Nt):Rt:=if x.2.2.2=true then(x.1%40,x.2.1%80,1+x.2.2.1%(40-x.1%40),1,true)else(x.1%40,x.2.1%80,1,1+x.2.2.1%(80-x.2.1%80),false)
def ruA:List Nt->Nat->Option (List Rt)->Option (List Rt)
 | x::l,n+1,o=>ruA l n (some (el o++[A2i x]))
 | _,_,o=>o
def u8P(x:Int):Prop:=0<=x/\x<256
def nOk(x:Nt):Prop:=u8P x.1/\u8P x.2.1/\u8P x.2.2.1
instance(x:Nt):Decidable (nOk x):=by unfold nOk u8P;infer_instance
attribute [local irreducible] ruA
noncomputable def A0f:iQ:=⟨_,fun a=>.nil⟩
def gP:List U->Option (Nat×List U)
 | [u_a,u_b,.int .i64 i]=>(T4 rK u_a).bind fun a=>(T4 rK u_b).bind fun b=>if 0<=i/\i<=((el a).length:Int)/\(el a).length=(el b).length/\((el a).length:Int)<=140737488351232 then rG (j8 neK (((el a).zip (el b)).drop i.toNat) i) [] (fun _=>[])else none
 | _=>none
def gO(a:(Option (List (Int×Int×Int))))(b:(Option (List (Int×Int×Int))))(i:Int)(c:0<=i/\i<=((el a).length:Int)/\(el a).length=(el b).length/\((el a).length:Int)<=140737488351232):gP [E6 rK a,E6 rK b,.int .i64 i]=rG (j8 neK (((el a).zip (el b)).drop i.toNat) i) [] (fun _=>[]):=by
 simp only[gP,L2,H4];exact B2 c
def NP:J4:=⟨[(0,dat 1 0 13),(1,dat 2 1 13),(5,h 2 3)],[(1,.frz),(2,.frz)],3,[⟨.exit 0,[],[],0⟩,⟨.ret,[(4,.bool false)],[],0⟩]⟩
noncomputable def FA:Code:=(f11.body).getD .skip
noncomputable def NL:Code:=match G3 [true,true,false,true,false] FA with|some (.loop x)=>x|_=>.skip
def NO:f11.body=some FA:=rfl
def NN:G3 [true,true,false,true,false] FA=some (.loop NL):=G9
def NM:Tr:=aD [h 0 13]<|aL [h3 2,h3 3]<|.br 4 (.lt 8 (.inbs 3) [h3 2,h 0 13]<|.br 5 (.lt 3 (.get 3 0) [h 0 13,h3 2]<|.lt 3 (.get 3 1) [h 0 13,h3 2]<|.lt 3 (.get 3 2) [h 0 13,h3 2]<|.lt 8 (.inbs 3) [h3 2,h 1 13]<|.br 9 (.lt 3 (.get 3 0) [h 1 13,h3 2]<|.lt 3 (.get 3 1) [h 1 13,h3 2]<|.lt 3 (.get 3 2) [h 1 13,h3 2]<|.lt 8 (.eqs) [h3 6,h3 10,h3 7,h3 11,h3 8,h3 12]<|aX [h 13 8]<|.br 14 (.ret [jI 1]) (aA [h3 2,jI 1]<|.ret [jI (-1),h 0 13,h 1 13,h3 15])) (.no)) (.no)) (.ret [jI 0])
def EZ:List U->Nat
 | [u_a,u_b,.int .i64 i]=>(match T4 rK u_a with|some a=>(match T4 rK u_b with|some b=>(((el a).length:Int)-i).toNat|none=>0)|none=>0)
 | _=>0
def HF(a:(Option (List (Int×Int×Int))))(b:(Option (List (Int×Int×Int))))(i:Int):EZ [E6 rK a,E6 rK b,.int .i64 i]=(((el a).length:Int)-i).toNat:=by
 simp only[EZ,L2]
def ZF{G}(m:v8 G):∀ (E:Nat->U) (base:Nat),@w9 ⟨E,G⟩ prog base gl f11.ntmps NL (t6 prog gl n0 3 NP gP):=by
 refine mK (dep:=60) (f:=11) (n0:=n0) (nB:=3) (H0:=H0) EZ NM (cxg (A0f.2 m) .nil) m func11 NO NN G9 G9 G9 ?_;intro us d outs c;have q:=c;unfold gP at c;split at c
 .skip;rename_i r s i;have n:=C6.1 c;clear c;obtain⟨a,k,c⟩:=n;replace k:=K5 k;subst k;have l:=C6.1 c;clear c;obtain⟨b,j,c⟩:=l;replace j:=K5 j;subst j;split at c
  .rename_i o;clear c q;have w:=A2W o.2.2.1;refine⟨rfl,?_⟩;unfold NM;refine w0 (.cons 2 _ (.cons 1 _ (.cons 0 _ (.nil)))) ?_;repeat (first|refine w4 (fun g=>?_) fun g=>?_|refine w4B (fun g=>?_) fun g=>?_|refine MP ?_|refine w1 (.get 3 0) (u:=.int .i64 _) (e:=X6 rfl A9 A9 rfl) (k':=?_)|refine w1 (.get 3 1) (u:=.int .i64 _) (e:=X6 rfl A9 A9 rfl) (k':=?_)|refine w1 (.get 3 2) (u:=.int .i64 _) (e:=X6 rfl A9 A9 rfl) (k':=?_)|refine MN ?_|refine A0r ?_|(refine w7 [.int .i64 _] ?_;rotate_left)|refine KB ?_|refine vJ ?_|(refine w8 ?_;first|omega)|refine GX ?_|refine MO ?_|refine w1 (.eqs) (e:=rfl) (k':=?_)|(refine w7 [.int .i64 _,E6 rK _,E6 rK _,.int .i64 _] ?_;rotate_left))
   all_goals first
    | refine eB ?_ ?_
      .rw[gO a b (i+1) ⟨A9,A9,A9,A9⟩,gO a b i o,tB (i:=i) A9 A9 (by rw[GP A9 A9 A9];first|exact HU (A0k ‹_›)|exact HV (A0j ‹_›)|exact HU ‹_›|exact HV ‹_›)]
      .rw[HF,HF];omega
    | refine N9 (d:=0) ?_
      rw[gO a b i o,wW A9];rfl
    | refine N9 (d:=1) ?_
      rw[gO a b i o,wV (i:=i) A9 A9 (by rw[GP A9 A9 A9];first|exact HU (A0k ‹_›)|exact HV (A0j ‹_›)|exact HU ‹_›|exact HV ‹_›)];rfl
  .cases c
 .cases c
noncomputable def A0h:List LpE:=(11,([true,true,false,true,false],t6 prog gl n0 3 NP gP))::[]
def LX{G}(a:v8 G):fX prog G gl A0h:=.cons func11 NO NN (ZF a) .nil
noncomputable def A2D:iQ:=⟨_,fun a=>.nil⟩
def vR:List U->Option (Nat×List U)
 | [u_a,u_b]=>(T4 rK u_a).bind fun a=>(T4 rK u_b).bind fun b=>if((el a).length:Int)<=140737488351232/\((el b).length:Int)<=140737488351232 then some (0,[.bool (yH (el a) (el b))])else none
 | _=>none
def TQ(a:(Option (List (Int×Int×Int))))(b:(Option (List (Int×Int×Int))))(c:((el a).length:Int)<=140737488351232/\((el b).length:Int)<=140737488351232):vR [E6 rK a,E6 rK b]=some (0,[.bool (yH (el a) (el b))]):=by
 simp only[vR,L2,H4];exact B2 c
def WK:Tr:=aD [h 0 13]<|aD [h 1 13]<|aN [h3 2,h3 3]<|.br 4 (.ret [.bool false]) (.lp gP [h 0 13,h 1 13,jI 0] 0 0 (.ret [.bool true]) (.lp gP [h 0 13,h 1 13,jI 0] 1 0 (.ret [.bool false]) (.no)))
def A0w{G}(j:v8 G):kH prog G 11 [.s 13,.s 13] vR [.s 8]:=by
 refine dA (d:=60) WK (cxg (A2D.2 j) (LX j)) j ⟨f11,_,func11,rfl⟩ G9 G9 ?_;intro us outs c;unfold vR at c;split at c
 .skip;rename_i n m;have l:=C6.1 c;clear c;obtain⟨a,e,c⟩:=l;replace e:=K5 e;subst e;have k:=C6.1 c;clear c;obtain⟨b,f,c⟩:=k;replace f:=K5 f;subst f;split at c
  .rename_i o;cases c;unfold WK;refine w0 (.cons 1 _ (.cons 0 _ (.nil))) ?_;repeat (first|(refine w7 [.bool _] ?_;rotate_left)|refine GX ?_|refine YT ?_|refine w4 (fun g=>?_) fun g=>?_|(refine w6 gP (gO _ _ _ ⟨L7,A9,A9,A9⟩) (h0:=fun g=>?_) (h1:=fun v g=>?_);skip;rotate_left;skip;rotate_right))
   all_goals
    refine l1 ?_;symm;first
    | exact ZI A9
    | exact ZH A9 ‹_›
    | exact ZG ‹_›
  .cases c
 .cases c
end
section
open Go Go.Sx Go.Proofs.Try
def VO(l:List Rt):((el (clO l)).length:Int)<=5120:=by
 unfold clO;split
 .rename_i h;have g:=A1V h;unfold ZO;split
  .decide
  .have:=(eZ (l:=(el (ruL l (some []))).map kM)).length_eq;rw[jP,E8,this,E8]
   have:=g.le;omega
 .decide
noncomputable def A2E:iQ:=⟨_,fun a=>(.consM (RK a) (.cons (A0w a) .nil))⟩
def WW:List U->Option (Nat×List U)
 | [u_l,u_m]=>(T4 rR u_l).bind fun l=>(T4 rK u_m).bind fun m=>if(((el l).length:Int)<=140737488351232/\(∀ r ∈ el l,rOk r))/\((el m).length:Int)<=140737488351232 then some (0,[.bool ((decide (uV (el l)=0) && yH (el (clO (el l))) (el m)))])else none
 | _=>none
def WV:Tr:=.fn nH [h 0 15] 2<|aE [h3 3,jI 0]<|.br 4 (.fn vR [h 2 13,h 1 13] 1<|.ret [h 5 8]) (.ret [.bool false])
def WX{G}(j:v8 G):kH prog G 19 [.s 15,.s 13] WW [.s 8]:=by
 refine dA (d:=60) WV (cxg (A2E.2 j) .nil) j ⟨f19,_,func19,rfl⟩ G9 G9 ?_;intro us outs a;unfold WW at a;split at a
 .skip;rename_i n o;have f:=C6.1 a;clear a;obtain⟨l,b,a⟩:=f;replace b:=K5 b;subst b;have k:=C6.1 a;clear a;obtain⟨m,c,a⟩:=k;replace c:=K5 c;subst c;split at a
  .rename_i q;cases a;have r:=VO (el l);unfold WV;refine w0 (.cons 1 _ (.cons 0 _ (.nil))) ?_;repeat (first|(refine w7 [.bool _] ?_;rotate_left)|refine w32 nH (e:=VN _ q.1) (k':=?_)|refine YU ?_|refine w4 (fun g=>?_) fun g=>?_|refine w31 vR (e:=TQ _ _ ⟨A9,A9⟩) (k':=?_))
   all_goals
    refine l1 ?_;first|(rw[cK ‹_›];rfl)|(rw[U7 ‹_›];rfl)
  .cases a
 .cases a
noncomputable def A2C:iQ:=⟨_,fun a=>(.cons (WX a) (.cons (RF a) .nil))⟩
def WE:List U->Option (Nat×List U)
 | []=>some (0,[.bool (True)])
 | _=>none
def A0l{G}(a:v8 G):kH prog G 14 [] WE [.s 8]:=by
 refine kE (d:=60) (cxg (A2C.2 a) .nil) a ⟨f14,_,func14,rfl⟩ ?_;intro us outs b;unfold WE at b;split at b
 .cases b;exact⟨List.replicate 5 1,by kernel_rfl⟩
 .cases b
noncomputable def A2Q:iQ:=⟨_,fun a=>(.cons (WX a) (.consM (RK a) (.cons (A0l a) .nil)))⟩
def YJ:List U->Option (Nat×List U)
 | []=>some (0,[.bool (true)])
 | _=>none
def A18{G}(a:v8 G):kH prog G 7 [] YJ [.s 8]:=by
 refine kE (d:=60) (cxg (A2Q.2 a) .nil) a ⟨f7,_,func7,rfl⟩ ?_;intro us outs b;unfold YJ at b;split at b
 .cases b;exact⟨[1,1,1,0,0,0,0,0,0,0,0,0,0,0,0,0,0,0,0,1,1,1],by kernel_rfl⟩
 .cases b
end
end Go.Proofs.Ytjdnjfnhdeplfaa
