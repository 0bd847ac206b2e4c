import Derived.Test.YtbbicpheoakeeaaGreatDoorX3
set_option linter.all false
set_option maxRecDepth 100000
set_option maxHeartbeats 4000000
namespace Go.Sx
variable {rows rows2:List (List U)}{b c cap g i j k o o' sh wd:Nat}{e s t t2 ty:TypeId}{inf:TypeInfo}{fz:Nat×Nat}{b' c' l' v x x' y y' z:Value}{l:Loc}{g0 gs:H9}{cl nul sure:Bool}{d2 ds:TypeDesc}{bh:Beh}{cs cs' new' vs:D3}{td:Td}{row us:List U}{hi lo mx:R2}{op:BinOp}
section
open Go
variable [Ora]
section
variable {P:Program} {base:Nat} {ρ ρ':Ren} {m m':Mem} {w w':World}
def P5.move{R:Nat->Option Obj}{C C':X4}(h:P5 R rows wd C o)(p:∀ i,i<rows.length*wd->C'[o'+i]? = C[o+i]?):P5 R rows wd C' o':=by
 refine⟨h.1,fun r row j u v a a2 a3=>h.2 r row j u v a a2 ?_⟩;have f:=(B1.1 a).1;have d:=(B1.1 a2).1;rw[h.1 _ (D1 a)]at d;have n:(r+1)*wd<=rows.length*wd:=F9 wd f;rw[I3]at n
 have:=p (r*wd+j) A2;rw[show o+r*wd+j=o+(r*wd+j) by omega,<- this,show o'+(r*wd+j)=o'+r*wd+j by omega];exact a3
def P5.append{R:Nat->Option Obj}{C:X4}(h:P5 R rows wd C o)(k:P5 R rows2 wd C (o+rows.length*wd)):P5 R (rows++rows2) wd C o:=by
 refine⟨fun row hr=>(B6.1 hr).elim (h.1 row) (k.1 row),fun r row j u v a a2 a3=>?_⟩;rcases G0 r rows.length with d|d
 .rw[F4 d]at a;exact h.2 r row j u v a a2 a3
 .rw[E4 d]at a;refine k.2 (r-rows.length) row j u v a a2 ?_;have:rows.length*wd+(r-rows.length)*wd=r*wd:=by rw[<- I3];congr 1;omega
  rw[show o+rows.length*wd+(r-rows.length)*wd+j=o+r*wd+j by omega];exact a3
def B00{t:Nat}{T:TypeId}{lg:Loc}{C:X4}(q:Ora.env c=.seq false wd rows)(r:t=10+wd)(hi:P.info? T=some inf)(u:inf.size=wd)(f:rows.length<=cap)(d:sh+cap*wd<=C.size)
  (a:P5 lg.G rows wd C sh) (p:ρ g=some lg) (hw:w.heap[b]? = some (.cells C T fz)) (n:∀ i,i<C.size->¬ (fz.1<=i/\i<fz.2)):BR P ρ (.sq c t T g false) ⟨b,sh,cap,rows.length,fun _=>none,true⟩ w :=
 ⟨⟨wd,inf,r,hi,u,.inr ⟨rfl,C,fz,T,rows,lg,hw,q,rfl,f,d,a.1,p,a.2,fun _=>⟨rfl,n⟩⟩⟩⟩
def dC{t:Nat}{T:TypeId}{lg:Loc}{C:X4}(h:HR P base ρ m.H w)(F:base<=w.heap.size)(u:bZ m c t T g=some (v,m'))(B:K7 ρ m.n m'.hi)
  (r:Ora.env c=.seq false wd rows) (A:t=10+wd) (hi:P.info? T=some inf) (E:inf.size=wd) (a:rows.length<=cap) (p:cap*wd<=C.size) (f:P5 lg.G rows wd C 0) (J:ρ g=some lg) (q:∀ i,i<C.size->¬ (fz.1<=i/\i<fz.2))
  (I:w'.os=w.os/\w'.tape=w.tape/\w'.output=w.output) (hh:w'.heap=w.heap.push (.cells C T fz)):∃ ρ',VR ρ' v (.slice (some ⟨w.heap.size,0,none⟩) rows.length cap)/\St P base ρ ρ' m m' w w':=by
 have d:ρ m.n=none:=by
  obtain⟨_,_,rfl⟩:=M3 u;exact B m.n (A7 _) (L7 _ _).2
 obtain⟨rfl,D,K⟩:=St.alloc (w':=w') (l:=⟨w.heap.size,0,cap,rows.length,fun _=>none,true⟩) h F u B I hh rfl (B00 r A hi E a A2 f (X9 d _ _ J) (by rw[hh];simp) q);exact⟨_,.own (.inr ⟨_,wd,rows,D,rfl,r,rfl,a,rfl⟩) (by rw[r];exact A.symm) rfl,K⟩
def pN{t id:Nat}{T:TypeId}{ab:AB}{lg:Loc}{C:X4}(h:HR P base ρ m.H w)(hle:id<=I4)(F:Hp.get m.H id=some ab)(A:ab.rw=true)(L:ρ id=some l)(r:l.on=true)
  (I:bZ (kS m id) c t T g=some (v,m')) (K:K7 ρ m.n m'.hi)
  (E:Ora.env c=.seq false wd rows) (J:t=10+wd) (hi:P.info? T=some inf) (N:inf.size=wd) (a:rows.length<=cap) (f:sh+cap*wd<=C.size) (q:P5 lg.G rows wd C sh) (R:ρ g=some lg) (B:∀ i,i<C.size->¬ (fz.1<=i/\i<fz.2))
  (Q:w'.os=w.os/\w'.tape=w.tape/\w'.output=w.output) (u:w'.heap.size=w.heap.size) (O:∀ k,k≠l.blk->w'.heap[k]? = w.heap[k]?) (hw:w'.heap[l.blk]? = some (.cells C T fz)) :
  ∃ ρ',VR ρ' v (.slice (some ⟨l.blk,sh,none⟩) rows.length cap)/\St P base ρ ρ' m m' w w':=by
 have p:ρ m.n=none:=by
  have d:=I;unfold bZ at d;rw[n9]at d;obtain⟨_,_,rfl⟩:=M3 d;exact K m.n (A7 _) (L7 _ _).2
 obtain⟨rfl,M,S⟩:=St.move (w':=w') (l':=⟨l.blk,sh,cap,rows.length,fun _=>none,true⟩) h hle F A L I K (fun _=>⟨r,rfl⟩) Q u (fun k D=>O k (D r)) (B00 E J hi N a f q (X9 p _ _ R) hw B) (fun h=>by cases h);exact⟨_,.own (.inr ⟨_,wd,rows,M,rfl,E,rfl,a,rfl⟩) (by rw[E];exact J.symm) rfl,S⟩
def A9k:Loc:=⟨0,0,0,0,fun _=>none,false⟩
def EB{t:Nat}{T:TypeId}{old:Option Nat}(h:HR P base ρ m.H w)(hold:∀ b,old=some b->∃ ab l,b<=I4/\Hp.get m.H b=some ab/\ab.rw=true/\ρ b=some l/\l.on=false)
  (A:bZ (kP old m) c t T g=some (v,m')) (B:K7 ρ m.n m'.hi) (d:Ora.env c=.seq true wd []) (r:t=10+wd) (hi:P.info? T=some inf) (D:inf.size=wd):∃ ρ',VR ρ' v (.slice none 0 0)/\St P base ρ ρ' m m' w w:=by
 have a:∀ ρ':Ren,BR P ρ' (.sq c t T g false) A9k w:=fun ρ'=>⟨⟨wd,inf,r,hi,D,.inl ⟨rfl,d⟩⟩⟩
 cases old with
 | none =>
   obtain⟨rfl,p,u⟩:=St.new0 (l':=A9k) h A B (a _) rfl fun q f=>by
    rcases f with⟨_,f,_⟩|⟨f,_⟩<;>cases f
   exact⟨_,.own (.inl ⟨_,wd,p,rfl,d,rfl⟩) (by rw[d];exact r.symm) rfl,u⟩
 | some b =>
   obtain⟨ab,l,h1,C,h3,E,F⟩:=hold b rfl;obtain⟨rfl,p,u⟩:=St.move (w':=w) (l':=A9k) h h1 C h3 E A B (fun h=>by cases h) ⟨rfl,rfl,rfl⟩ rfl (fun _ _=>rfl) (a _) (fun h=>by cases h);exact⟨_,.own (.inl ⟨_,wd,p,rfl,d,rfl⟩) (by rw[d];exact r.symm) rfl,u⟩
def uJ(h:HR P base ρ m.H w)(a:kT gs m=some (g,m'))(q:K7 ρ m.n m'.hi)(d:ρ j=some l):Hp.get m'.H j=Hp.get m.H j:=by
 have main:∀ {gs:H9},(bif gs.all (pT m)then match hO m fun b m=>some (undef,b,m)with
  | some (_,b,m)=>some (b,m)
  | none=>none else none)=some (g,m')->Hp.get m'.H j=Hp.get m.H j:=fun{gs} a=>by
  obtain⟨h1,a⟩:=A3 a;split at a
  .rename_i r b m1 p;cases a;obtain⟨m2,f,u,_⟩:=R3 p;cases u;rw[lZ f (h.dom j l d),A6];intro e;subst e;obtain⟨_,_,rfl⟩:=M3 f;rw[q m.n (A7 _) (L7 _ _).2]at d;cases d
  .cases a
 unfold kT at a;split at a
 .obtain⟨h1,a⟩:=A3 a;cases a;rfl
 .exact main a
def N6(a:kT gs m=some (g,m')):m.hi<=m'.hi/\m'.lg=m.lg/\m.n<=m'.n:=by
 have main:∀ {gs:H9},(bif gs.all (pT m)then match hO m fun b m=>some (undef,b,m)with
  | some (_,b,m)=>some (b,m)
  | none=>none else none)=some (g,m')->m.hi<=m'.hi/\m'.lg=m.lg/\m.n<=m'.n:=fun{gs} a=>by
  obtain⟨h1,a⟩:=A3 a;split at a
  .rename_i r b m1 d;cases a;obtain⟨m2,f,p,_⟩:=R3 d;cases p;obtain⟨_,_,rfl⟩:=M3 f;exact⟨(L7 _ _).1,rfl,V4 _⟩
  .cases a
 unfold kT at a;split at a
 .obtain⟨h1,a⟩:=A3 a;cases a;exact⟨A7 _,rfl,A7 _⟩
 .exact main a
def B4t(nul:Bool)(wd:Nat)(rows:List (List U)):List (List U)->U
 | []=>.seq nul wd rows
 | r0::r=>.seq false wd (rows++r0::r)
def NN(h:∃ n w r,tM nul wd rows rows2=.seq n w r):rows.length+rows2.length<=xD/\tM nul wd rows rows2=B4t nul wd rows rows2:=by
 by_cases a:rows.length+rows2.length<=xD
 .refine⟨a,?_⟩;unfold tM;rw[A8 a];cases rows2<;>rfl
 .unfold tM at h;rw[A6 a]at h;obtain⟨_,_,_,h⟩:=h;cases h
def TC{old:Option Nat} 
  (hu:P.underlying t=some (.slice e)) (S:P.underlying t2=some d2) (R:dR d2=true) (hi:P.info? e=some inf) (hz:gF P e=some z) (af:z.cells.size=inf.size) (bt:inf.bytes<=90000)
  (h:HR P base ρ m.H w) (hb:base<=w.heap.size) (E:LD m e inf.size c old bh (g0++gs)=some (v,m')) (hf:K7 ρ m.n m'.hi) (hS:Sat m'.lg)
  (al:A4A P base ρ m w e inf.size c g0 old x') (d:YK P ρ w inf.size bh gs y' rows2 new'):VOk P base ρ m w (Builtin.append_ #[t,t2] ty #[x',y']) v m':=by
 unfold LD at E;split at E
 .rename_i g m1 hj;rw[O4]at E;have bo:=N6 hj;generalize br:fZ m1 (10+inf.size) (dY inf.size (hole c (10+inf.size)) bh).1 (dY inf.size (hole c (10+inf.size)) bh).2=lg1 at E;have bw:m'.lg=lg1/\m1.hi<=m'.hi/\m1.n<=m'.n:=by
   unfold bZ at E;cases old with
   | none =>
     simp only[kP]at E;obtain⟨_,_,rfl⟩:=M3 E;exact⟨by simp,by simpa using(L7 m1.hi m1.n).1,by simp⟩
   | some b =>
     simp only[kP,n9]at E;obtain⟨_,_,rfl⟩:=M3 E;exact⟨by simp,by simpa using(L7 m1.hi m1.n).1,by simp⟩
  have ao:K7 ρ m.n m1.hi:=hf.less bw.2.1;obtain⟨M,lg,e1,e2,e3,e4,e5,e6⟩:=fL h hj ao;have q:St P base ρ M m (m1.wLg lg1) w w:=St.trans (by simpa using ao) e1 (St.wLg e1.hr lg1);have F:K7 M (m1.wLg lg1).n m'.hi:=by simpa using hf.step e1
  have bk:Sat (m1.wLg lg1).lg:=by simpa [<- bw.1]using hS
  obtain⟨nul,rows,hc,hx⟩:=al.ex;obtain⟨d1,d2,nx,bj,rws,d3,d4⟩:=kW (m:=m1) (t:=10+inf.size) (op:=(dY inf.size (hole c (10+inf.size)) bh).1) (xs:=(dY inf.size (hole c (10+inf.size)) bh).2) (lg:=lg1) (by simpa using bk) (by rw[l5,br];exact .refl _);rw[d.ev c nul rows hc]at d1;obtain⟨au,aa⟩:=NN ⟨nx,bj,rws,d1.symm.trans d3⟩;rw[aa]at d1;have bp:∀ b ∈ g0,∀ l,ρ b=some l->Sub l.G lg.G:=fun b Y l hl=>e6 b (B6.2 (.inl Y)) l hl
  have bn:∀ b ∈ gs,∀ l,ρ b=some l->Sub l.G lg.G:=fun b Y l hl=>e6 b (B6.2 (.inr Y)) l hl
  have aq:=d.rows lg.G bn;have D:∀ {v':Value} {ρ2:Ren} {w2:World},(Builtin.append_ #[t,t2] ty #[x',y']).run P w=.ok v' w2->VR ρ2 v v'->St P base M ρ2 (m1.wLg lg1) m' w w2->VOk P base ρ m w (Builtin.append_ #[t,t2] ty #[x',y']) v m':=fun hr hv hs =>
   ⟨_,_,_,hr,hv,St.trans hf q hs⟩
  have bx:∀ w,(zeroValue e).run P w=.ok z w:=fun w=>aZ hz w
  have ar:∀ {j l},ρ j=some l->Hp.get (m1.wLg lg1).H j=Hp.get m.H j:=fun bs=>by rw[lL];exact uJ h hj ao bs
  have L:(3*(rows.length+rows2.length)+4000)*inf.bytes<=281474976710656:=by
   have h1:3*(rows.length+rows2.length)+4000<=3000004000:=by unfold xD at au;omega
   have h2:=fW h1 bt;omega
  have Z:rows.length+rows2.length<=1000000000:=au;rcases hx with⟨rfl,rfl,rfl,hold⟩|⟨rfl,b,ab,l,cap,C,fz,rfl,aj,bq,W,ai,bu,rfl,I,ax,X,V,ae⟩
  ·
   have Q:∀ b,old=some b->∃ ab l,b<=I4/\Hp.get (m1.wLg lg1).H b=some ab/\ab.rw=true/\M b=some l/\l.on=false:=fun b Y=>by
    obtain⟨ab,l,J,O,q3,q4,q5⟩:=hold b Y;exact⟨ab,l,J,by rw[ar q4];exact O,q3,e1.ext _ _ q4,q5⟩
   cases f:rows2 with
   | nil =>
     subst f;have B:Ora.env m1.lg.nx=.seq true inf.size []:=d1;obtain⟨ρ2,J,O⟩:=EB q.hr Q E F B rfl hi rfl;have an:new'=[]:=G2.1 (by rw[d.size];simp);exact D (vL hu S R hi (fun wd=>d.len wd) (by have:=d.first w rfl;rw[an]at this;exact this)) J O
   | cons r0 rr =>
     rw[f]at d1;have B:Ora.env m1.lg.nx=.seq false inf.size rows2:=by rw[f];exact d1
     obtain⟨nc,az,p⟩:=iL (P:=P) (w:=w) (ty:=ty) (a:=none) (n:=0) (c:=0) (k:=rows2.length) (old':=[]) (new':=new') (x':=y') hu S R hi bx (fun wd=>d.len wd) (fun _ _=>rfl) (fun wd hw=>d.first wd hw) (by rw[f];simp) (by simpa using L) (by simpa using Z);obtain⟨m2,bm,ay⟩:∃ m2,bZ m2 m1.lg.nx (10+inf.size) e g=some (v,m')/\St P base M M (m1.wLg lg1) m2 w w:=by
      cases old with
      | none=>exact⟨_,E,St.refl q.hr⟩
      | some b =>
        obtain⟨ab,l,J,O,q3,q4,q5⟩:=Q b rfl;exact⟨_,E,St.kill q.hr J O q3⟩
     obtain⟨ρ2,J,O⟩:=dC (w':={ w.drew with heap:=w.heap.push (.cells (({ toList:=[] }:Array Value)++⟨new'⟩++Builtin.zeroCells z.cells (nc-(0+rows2.length))) e (0,0)) }) (cap:=nc) ay.hr hb bm (F.step ay) B rfl hi rfl A2
      (by have:=eR (s:=inf.size) (k:=rows2.length) (n:=0) (nc:=nc) (z:=z) (old':=[]) d.size az af (by simp);exact this)
      (aq.move (C':=({ toList:=[] }:Array Value)++⟨new'⟩++Builtin.zeroCells z.cells (nc-(0+rows2.length))) (o':=0) fun i hi'=>by
        have ag:i<new'.length:=by rw[d.size];exact hi'
        rw[F7 i];rw[MP (A5 ag)];simp[ag]) (ay.ext _ _ e4) (fun i _ hh=>by have h1:0<=i:=hh.1;have h2:i<0:=hh.2;omega) ⟨rfl,rfl,rfl⟩ rfl
     exact D p (by rw[F7];exact J) (St.trans F ay O)
  ·
   have ak:Hp.get (m1.wLg lg1).H b=some ab:=by rw[ar ai];exact bq
   have r:=ae lg.G bp;have aw:=e1.ext _ _ ai;cases f:rows2 with
   | nil =>
     subst f;have B:Ora.env m1.lg.nx=.seq false inf.size rows:=d1;have an:new'=[]:=G2.1 (by rw[d.size];simp);obtain⟨ρ2,J,O⟩:=pN (w':=w) (cap:=cap) (sh:=l.sh) q.hr aj ak W aw bu E F B rfl hi rfl ax X r e4 V ⟨rfl,rfl,rfl⟩ rfl (fun _ _=>rfl) I;have p:=nQ (P:=P) (w:=w) (w':=w) (ty:=ty) (a:=⟨l.blk,l.sh,none⟩) (n:=rows.length) (k:=0) (c:=cap) (new':=new') hu S R hi (fun wd=>d.len wd) (d.first w rfl) A2 (by rw[an];rfl);exact D p J O
   | cons r0 rr =>
     have B:Ora.env m1.lg.nx=.seq false inf.size (rows++rows2):=by rw[f]at d1 ⊢;exact d1
     by_cases K:rows.length+rows2.length<=cap
     .have av:(rows.length+rows2.length)*inf.size<=cap*inf.size:=F9 _ K;rw[I3]at av;obtain⟨w',r1,r2,r3,r4,r5⟩:=d7 (P:=P) (b:=l.blk) (o:=rows.length*inf.size+l.sh) (fz:=fz) new' 0 C w I d.flat (by rw[d.size];omega) V;have bz:(Addr.mk l.blk l.sh none).add (rows.length*inf.size)=⟨l.blk,rows.length*inf.size+l.sh,none⟩:=by
       unfold Addr.add;split
       .rename_i h0;rw[h0];simp
       .simp[kK]
      have p:=nQ (P:=P) (w:=w) (w':=w') (ty:=ty) (a:=⟨l.blk,l.sh,none⟩) (n:=rows.length) (k:=rows2.length) (c:=cap) (new':=new') hu S R hi (fun wd=>d.len wd) (d.first w rfl) K (by rw[bz];exact r1);have T:(Array.mk (dA C.toList (rows.length*inf.size+l.sh+0) new')).size=C.size:=by simp[d8]
      have ah:∀ j,(Array.mk (dA C.toList (rows.length*inf.size+l.sh+0) new'))[j]? = if rows.length*inf.size+l.sh<=j/\j<rows.length*inf.size+l.sh+new'.length then new'[j-(rows.length*inf.size+l.sh)]? else C[j]? := fun j=>by
       rw[J2,lW _ _ _ _ (by simp;rw[d.size];omega)];simp
      obtain⟨ρ2,J,O⟩:=pN (w':=w') (cap:=cap) (sh:=l.sh) (C:=⟨dA C.toList (rows.length*inf.size+l.sh+0) new'⟩) q.hr aj ak W aw bu E F B rfl hi rfl (by simpa using K) (by rw[T];exact X)
       (P5.append (r.move (o':=l.sh) fun i hi'=>by rw[ah,A6 A2]) (aq.move (o':=l.sh+rows.length*inf.size) fun i hi'=>by
         rw[ah,A8 (by rw[d.size];omega),show l.sh+rows.length*inf.size+i-(rows.length*inf.size+l.sh)=i by omega,F7];simp)) e4 (by rw[T];exact V) r2 r3 r5 r4
      rw[B7]at J;exact D p J O
     .have hold:∃ old',old'.length=rows.length*inf.size/\(∀ i,i<rows.length*inf.size->old'[i]? = C[l.sh+i]?)/\∀ wd:World,wd.heap=w.heap->(Builtin.firstCells inf.size rows.length (.slice (some ⟨l.blk,l.sh,none⟩) rows.length cap)).run P wd=.ok ⟨old'⟩ wd:=by
       have av:rows.length*inf.size<=cap*inf.size:=F9 _ ax;have hlen:((C.toList.drop l.sh).take (rows.length*inf.size)).length=rows.length*inf.size:=by simp;omega
       refine⟨(C.toList.drop l.sh).take (rows.length*inf.size),hlen,fun i hi'=>?_,fun wd hw=>?_⟩
       .rw[F0 hi',I7];simp
       .rw[show Builtin.firstCells inf.size rows.length (.slice (some ⟨l.blk,l.sh,none⟩) rows.length cap)=loadCells ⟨l.blk,l.sh,none⟩ (rows.length*inf.size)from rfl];refine K8 hlen fun j v' hj=>?_
        have ad:=(B1.1 hj).1;rw[hlen]at ad;rw[F0 ad,I7]at hj;rw[cJ hw];have bl:C[l.sh+j]? = some v':=by simpa using hj
        simp[World.cell?,I,bl]
      obtain⟨old',o1,o2,o3⟩:=hold;obtain⟨nc,az,p⟩:=iL (P:=P) (w:=w) (ty:=ty) (a:=some ⟨l.blk,l.sh,none⟩) (n:=rows.length) (c:=cap) (k:=rows2.length) (old':=old') (new':=new') (x':=y') hu S R hi bx (fun wd=>d.len wd) o3 (fun wd hw=>d.first wd hw) K L Z;have A:=St.kill q.hr aj ak W;obtain⟨ρ2,J,O⟩:=dC (w':={ w.drew with heap:=w.heap.push (.cells (({ toList:=old' }:Array Value)++⟨new'⟩++Builtin.zeroCells z.cells (nc-(rows.length+rows2.length))) e (0,0)) }) (cap:=nc) A.hr hb E (F.step A) B rfl hi rfl (by simpa using az)
       (eR d.size az af o1)
       (P5.append (r.move (C':=({ toList:=old' }:Array Value)++⟨new'⟩++Builtin.zeroCells z.cells (nc-(rows.length+rows2.length))) (o':=0) fun i hi'=>by
         have N:i<old'.length:=by rw[o1];exact hi'
         rw[F7 i,<- o2 i hi',eS (u:=old'[i]) (by rw[F4 N,A5 N]),A5 N]) (aq.move (o':=0+rows.length*inf.size) fun i hi'=>by
         have N:i<new'.length:=by rw[d.size];exact hi'
         rw[F7 (rows.length*inf.size),F7 i,eS (u:=new'[i]) (by rw[E4 (by rw[o1];omega),o1,X6,A5 N])];simp[N])) (A.ext _ _ e4) (fun i _ hh=>by have h1:0<=i:=hh.1;have h2:i<0:=hh.2;omega) ⟨rfl,rfl,rfl⟩ rfl
      rw[B7]at J;exact D p J (St.trans F A O)
 .cases E
end
end
section
open Go
variable [Ora]
section
variable {P:Program} {base:Nat} {ρ ρ':Ren} {m m':Mem} {w w':World}
def A4k{a:Addr} 
  (hu:P.underlying t=some (.slice e)) (Z:P.underlying t2=some d2) (V:dR d2=true) (hi:P.info? e=some inf) (hz:gF P e=some z) (W:z.cells.size=inf.size) (Q:inf.bytes<=90000)
  (h:HR P base ρ m.H w) (hb:base<=w.heap.size) (q:LD m e inf.size c none bh (b::gs)=some (v,m')) (hf:K7 ρ m.n m'.hi) (hS:Sat m'.lg)
  (hc:Ora.env c=.seq false inf.size rows) (Y:ρ b=some l) (A:Enc l.G (Ora.env c) (.slice (some a) rows.length rows.length)) (d:YK P ρ w inf.size bh gs y' rows2 new') (p:rows2≠[]) :
  VOk P base ρ m w (Builtin.append_ #[t,t2] ty #[.slice (some a) rows.length rows.length,y']) v m':=by
 unfold LD at q;split at q
 .rename_i g m1 N;rw[O4]at q;have ay:=N6 N;generalize T:fZ m1 (10+inf.size) (dY inf.size (hole c (10+inf.size)) bh).1 (dY inf.size (hole c (10+inf.size)) bh).2=lg1 at q;have q:bZ (m1.wLg lg1) m1.lg.nx (10+inf.size) e g=some (v,m'):=q;have L:m'.lg=lg1/\m1.hi<=m'.hi/\m1.n<=m'.n:=by
   unfold bZ at q;obtain⟨_,_,rfl⟩:=M3 q;exact⟨by simp,by simpa using(L7 m1.hi m1.n).1,by simp⟩
  have E:K7 ρ m.n m1.hi:=hf.less L.2.1;obtain⟨J,lg,O,e2,e3,e4,e5,e6⟩:=fL h N E;have B:St P base ρ J m (m1.wLg lg1) w w:=St.trans (by simpa using E) O (St.wLg O.hr lg1);have S:K7 J (m1.wLg lg1).n m'.hi:=by simpa using hf.step O
  have av:Sat (m1.wLg lg1).lg:=by simpa [<- L.1]using hS
  obtain⟨d1,d2,nx,au,rws,d3,d4⟩:=kW (m:=m1) (t:=10+inf.size) (op:=(dY inf.size (hole c (10+inf.size)) bh).1) (xs:=(dY inf.size (hole c (10+inf.size)) bh).2) (lg:=lg1) (by simpa using av) (by rw[l5,T];exact .refl _);rw[d.ev c false rows hc]at d1;obtain⟨C,I⟩:=NN ⟨nx,au,rws,d1.symm.trans d3⟩;rw[I]at d1;have az:Sub l.G lg.G:=e6 b (.head _) l Y;have ax:∀ b ∈ gs,∀ l,ρ b=some l->Sub l.G lg.G:=fun b ar l Y=>e6 b (.tail _ ar) l Y
  have X:=d.rows lg.G ax;have aw:∀ w,(zeroValue e).run P w=.ok z w:=fun w=>aZ hz w
  have r:(3*(rows.length+rows2.length)+4000)*inf.bytes<=281474976710656:=by
   have h1:3*(rows.length+rows2.length)+4000<=3000004000:=by unfold xD at C;omega
   have h2:=fW h1 Q;omega
  have D:rows.length+rows2.length<=1000000000:=C;have aq:0<rows2.length:=eB.2 p;have R:Ora.env m1.lg.nx=.seq false inf.size (rows++rows2):=by
   cases rows2 with
   | nil=>exact absurd rfl p
   | cons r0 rr=>exact d1
  rw[hc]at A;obtain⟨_,old',K,o2,o3,o4⟩:=uV (w:=w) (A.mono az) ((O.hr.atl e4 e5).1.2);have o5:∀ wd:World,wd.heap=w.heap->(Builtin.firstCells inf.size rows.length (.slice (some a) rows.length rows.length)).run P wd=.ok ⟨old'⟩ wd:=fun wd hw=>by
   rw[show Builtin.firstCells inf.size rows.length (.slice (some a) rows.length rows.length)=loadCells a (rows.length*inf.size)from rfl];exact mG K fun j v' N=>by rw[cJ hw];exact o4 j v' N
  obtain⟨nc,M,F⟩:=iL (P:=P) (w:=w) (ty:=ty) (a:=some a) (n:=rows.length) (c:=rows.length) (k:=rows2.length) (old':=old') (new':=new') (x':=y') hu Z V hi aw (fun wd=>d.len wd) o5 (fun wd hw=>d.first wd hw) A2 r D;obtain⟨ρ2,q1,q2⟩:=dC (w':={ w.drew with heap:=w.heap.push (.cells (({ toList:=old' }:Array Value)++⟨new'⟩++Builtin.zeroCells z.cells (nc-(rows.length+rows2.length))) e (0,0)) }) (cap:=nc) B.hr hb q S R rfl hi rfl (by simpa using M)
   (eR d.size M W K)
   (P5.append (o3.move (C':=({ toList:=old' }:Array Value)++⟨new'⟩++Builtin.zeroCells z.cells (nc-(rows.length+rows2.length))) (o':=0) fun i hi'=>by
     have f:i<old'.length:=by rw[K];exact hi'
     rw[F7 i,eS (u:=old'[i]) (by rw[F4 f,A5 f])];simp[f]) (X.move (o':=0+rows.length*inf.size) fun i hi'=>by
     have f:i<new'.length:=by rw[d.size];exact hi'
     rw[F7 (rows.length*inf.size),F7 i,eS (u:=new'[i]) (by rw[E4 (by rw[K];omega),K,X6,A5 f])];simp[f])) e4 (fun i _ hh=>by have h1:0<=i:=hh.1;have h2:i<0:=hh.2;omega) ⟨rfl,rfl,rfl⟩ rfl
  rw[B7]at q1;exact⟨_,_,_,F,q1,St.trans hf B q2⟩
 .cases q
def YG(d:BX P td)(a:A3k td P m e wd y=some (bh,gs,sure,m')):m.hi<=m'.hi/\m.lg.le m'.lg/\m.n<=m'.n:=by
 unfold A3k at a;split at a
 .cases a;exact⟨A7 _,.refl _,A7 _⟩
 .split at a
  .split at a
   .rename_i f;cases a;exact S8 d f
   .cases a
  .cases a
 .split at a
  .rename_i f;cases a;exact d.mono f
  .cases a
 .obtain⟨h1,a⟩:=A3 a;cases a;exact⟨A7 _,.refl _,A7 _⟩
def kA(d:BX P td){old:Option Nat}(a:FL td P m e wd x=some (c,gs,old,m')):m.hi<=m'.hi/\m.lg.le m'.lg/\m.n<=m'.n:=by
 unfold FL at a;split at a
 .rw[O4]at a;simp only[hole]at a;cases a;exact⟨by simp,W9,by simp⟩
 .split at a
  .obtain⟨h1,a⟩:=A3 a;cases a;exact⟨A7 _,.refl _,A7 _⟩
  .cases a
 .split at a
  .obtain⟨h1,a⟩:=A3 a;split at a
   .rename_i f;split at a
    .obtain⟨h1,a⟩:=A3 a;rw[O4]at a;simp only[hole]at a;cases a
     have:=S8 d f;exact⟨by simpa using this.1,this.2.1.trans W9,by simpa using this.2.2⟩
    .cases a
   .cases a
  .cases a
 .cases a
def u9{t:Nat}{T:TypeId}(h:bZ m c t T g=some (v,m')):m.hi<=m'.hi/\m'.lg=m.lg/\m.n<=m'.n:=by
 unfold bZ at h;obtain⟨_,_,rfl⟩:=M3 h;exact⟨(L7 _ _).1,rfl,V4 _⟩
def cH(old:Option Nat)(m:Mem):(kP old m).hi=m.hi/\(kP old m).lg=m.lg/\(kP old m).n=m.n:=by
 cases old with
 | none=>exact⟨rfl,rfl,rfl⟩
 | some b=>simp[kP,n9]
def nT{old:Option Nat}(d:LD m e wd c old bh gs=some (v,m')):m.hi<=m'.hi/\m.lg.le m'.lg/\m.n<=m'.n:=by
 unfold LD at d;split at d
 .rename_i g m1 p;rw[O4]at d;have a:=N6 p;have b:=u9 d;obtain⟨q,r,f⟩:=cH old (m1.wLg (fZ m1 (10+wd) (dY wd (hole c (10+wd)) bh).1 (dY wd (hole c (10+wd)) bh).2));refine⟨?_,?_,?_⟩
  .have:=b.1;rw[q]at this;simp at this;omega
  .rw[b.2.1,r,<- a.2.1];exact W9
  .have:=b.2.2;rw[f]at this;simp at this;omega
 .cases d
def QE{t:Nat}{T:TypeId}{old:Option Nat}(h:HR P base ρ m.H w)(hold:∀ b,old=some b->b<=I4/\Hp.get m.H b≠some .frz)(d:bZ (kP old m) c t T g=some (v,m'))(r:K7 ρ m.n m'.hi):q8 ρ m m':=fun j l h1 a=>by
 have p:=cH old m;unfold bZ at d;rw[lZ d (h.dom j l h1),A6]
 .cases old with
  | none=>exact a
  | some b =>
    show Hp.get (kS m b).H j=_;rw[n9];show Hp.get (m.H.set b none) j=_;obtain⟨q,f⟩:=hold b rfl;rw[F2 _ _ _ _ q (h.dom j l h1),A6]
    .exact a
    .intro e;subst e;exact f a
 .intro e;obtain⟨_,_,rfl⟩:=M3 d;rw[p.2.2]at e;subst e;rw[r m.n (A7 _) (Nat.lt_of_le_of_lt (Nat.le_of_eq p.2.2.symm) (L7 (kP old m).hi (kP old m).n).2)]at h1;cases h1
omit [Ora] in
def PI(h:P.info? e=some inf):H6 P e=some inf.size:=by unfold H6;rw[h]
def DY(f:BX P td)(d:XE td P m e wd x=some (v,m')):m.hi<=m'.hi/\m.lg.le m'.lg/\m.n<=m'.n:=by
 unfold XE at d;split at d
 .obtain⟨_,d⟩:=A3 d;split at d
  .rename_i p;have a:=kA f p;split at d
   .rename_i q;have b:=N6 q;have c:=u9 d;refine⟨?_,?_,?_⟩
    .have:=c.1;rw[(cH _ _).1]at this;omega
    .rw[c.2.1,(cH _ _).2.1,b.2.1];exact a.2.1
    .have:=c.2.2;rw[(cH _ _).2.2]at this;omega
   .cases d
  .cases d
 .cases d
def TI(T:BX P td)(h:HR P base ρ m.H w)(d:XE td P m e wd x=some (v,m'))(Z:K7 ρ m.n m'.hi)(hx:VR ρ x x')(hS:Sat m'.lg) :
  ∃ ρ',VR ρ' v x'/\St P base ρ ρ' m m' w w/\m.lg.le m'.lg/\q8 ρ m m':=by
 unfold XE at d;split at d
 .rename_i inf hi;obtain⟨h1,d⟩:=A3 d;obtain⟨h1,h2⟩:=B8 h1;have h1:=A0 h1;have h2:0<wd:=A1 h2;split at d
  .rename_i c gs old m1 N;have a:=kA T N;split at d
   .rename_i g m2 hj;have b:=N6 hj;have cm:=u9 d;have k1:=cH old m2;have R:m'.lg=m1.lg:=by rw[cm.2.1,k1.2.1,b.2.1]
    have D:m2.hi<=m'.hi:=by have:=cm.1;rw[k1.1]at this;exact this
    obtain⟨W,M,e2,e3,e4⟩:=NZ T h N (Z.less (C6 b.1 D)) hx (by rw[<- R];exact hS) h2 (h1▸PI hi);have p:K7 W m1.n m'.hi:=Z.step M;obtain⟨ρ2,lg,u,j2,j3,j4,j5,j6⟩:=fL M.hr hj (p.less D);have E:K7 ρ2 m2.n m'.hi:=p.step u;obtain⟨nul,rows,hc,ax⟩:=e4.ex;have B:∀ {j l},W j=some l->Hp.get m2.H j=Hp.get m1.H j:=fun az=>uJ M.hr hj (p.less D) az
    have hle:m.lg.le m'.lg:=by rw[R];exact a.2.1
    have r:(∀ b,old=some b->b<=I4/\Hp.get m2.H b≠some .frz)->q8 ρ m m':=fun hq=>(e3.trans M.ext j3).trans (fun b l N=>u.ext b l (M.ext b l N)) (QE u.hr hq d E)
    rcases ax with⟨rfl,rfl,rfl,hold⟩|⟨rfl,b0,ab,l,cap,C,fz,rfl,Y,ay,A,O,aw,rfl,I,Q,L,V,S⟩
    .have f:∀ b,old=some b->∃ ab l,b<=I4/\Hp.get m2.H b=some ab/\ab.rw=true/\ρ2 b=some l/\l.on=false:=fun b q=>by
      obtain⟨ab,l,J,K,q3,q4,q5⟩:=hold b q;exact⟨ab,l,J,by rw[B q4];exact K,q3,u.ext _ _ q4,q5⟩
     obtain⟨F,J,K⟩:=EB u.hr f d E hc rfl hi h1;exact⟨F,J,St.trans Z M (St.trans p u K),hle,r fun b q=>by
      obtain⟨ab,l,J,K,q3,_⟩:=f b q;exact⟨J,fun he=>by rw[K]at he;cases he;cases q3⟩⟩
    .have X:Hp.get m2.H b0=some ab:=by rw[B O];exact ay
     obtain⟨F,J,K⟩:=pN (w':=w) (cap:=cap) (sh:=l.sh) u.hr Y X A (u.ext _ _ O) aw d E hc rfl hi h1 Q L (S lg.G fun b N l hl=>j6 b N l hl) j4 V ⟨rfl,rfl,rfl⟩ rfl (fun _ _=>rfl) I;exact⟨F,J,St.trans Z M (St.trans p u K),hle,r fun b q=>by
      cases q;exact⟨Y,fun he=>by rw[X]at he;cases he;cases A⟩⟩
   .cases d
  .cases d
 .cases d
def RY:∀ (d:Nat),BX P (YX P d)
 | 0=>YY
 | d+1=>by
   have u:=RY d;refine⟨fun{base ρ m m' w t v v' x b} h f p hv r=>?_,fun{m m' t v x b} f=>?_⟩
   .unfold YX at f;split at f
    .split at f
     .split at f
      .rename_i D m1 q;have a:=iH f;obtain⟨E,C,n,B,A⟩:=TI u h q (p.less a.1) hv (r.le a.2.1);obtain⟨ρ2,l,d1,d2,d3,d4,d5,d6⟩:=FY n.hr f (p.step n) C r;exact⟨ρ2,l,St.trans p n d1,d2,d3,d4,d5,B.trans d6,A.trans n.ext (JR n.hr f (p.step n))⟩
      .cases f
     .cases f
    .exact YY.ok h f p hv r
   .unfold YX at f;split at f
    .split at f
     .split at f
      .rename_i D m1 q;have a:=DY u q;have b:=iH f;exact⟨C6 a.1 b.1,a.2.1.trans b.2.1,C6 a.2.2 b.2.2⟩
      .cases f
     .cases f
    .exact iH f
def V7:BX P (tdP P):=RY 3
def IX(d:tQ P m t t2 x y=some (v,m')):m.hi<=m'.hi/\m.lg.le m'.lg/\m.n<=m'.n:=by
 unfold tQ at d;split at d
 .rename_i e d2 hu r;cases f:dR d2 with
  | false=>rw[f]at d;cases d
  | true =>
    rw[f]at d;simp only[Q9,E0]at d;split at d
    .obtain⟨_,d⟩:=A3 d;split at d
     .rename_i p;have a:=YG V7 p;split at d
      .rename_i q;have b:=kA V7 q;have c:=nT d;exact⟨A2,a.2.1.trans (b.2.1.trans c.2.1),A2⟩
      .split at d
       .obtain⟨_,d⟩:=A3 d;have c:=nT d;exact⟨A2,a.2.1.trans c.2.1,A2⟩
       .cases d
     .cases d
    .cases d
 .cases d
def YK.step(h:YK P ρ w wd bh gs y' rows2 new')(f:∀ b ∈ gs,∃ l,ρ b=some l)(he:∀ b l,ρ b=some l->ρ' b=some l):YK P ρ' w wd bh gs y' rows2 new' :=
 ⟨h.len,h.first,h.size,h.flat,fun R hR=>h.rows R fun b d l a=>hR b d l (he b l a),h.ev⟩
def YM{n:Nat}(h:YN P e n=true):∃ z,gF P e=some z/\z.cells.size=n:=by
 unfold YN at h;split at h
 .rename_i z a;exact⟨z,a,A0 h⟩
 .cases h
def RO(h:HR P base ρ m.H w)(N:base<=w.heap.size)(u:tQ P m t t2 x y=some (v,m'))(B:K7 ρ m.n m'.hi)(hx:VR ρ x x')(hy:VR ρ y y')(M:Sat m'.lg) :
  VOk P base ρ m w (Builtin.append_ #[t,t2] ty #[x',y']) v m':=by
 unfold tQ at u;split at u
 .rename_i e d2 hu F;cases q:dR d2 with
  | false=>rw[q]at u;cases u
  | true =>
    rw[q]at u;simp only[Q9,E0]at u;split at u
    .rename_i inf hi;obtain⟨hq,d⟩:=A3 u;clear u;obtain⟨av,Z⟩:=B8 hq;obtain⟨az,ax⟩:=B8 av;have D:=A1 az;have I:0<inf.size:=A1 ax;obtain⟨z,Y,E⟩:=YM Z;have G:H6 P e=some inf.size:=by unfold H6;rw[hi]
     split at d
     .rename_i bh gs sure m1 C;split at d
      .rename_i c g0 old m2 R;have mb:=kA V7 R;have mp:=nT d;have J:K7 ρ m.n m1.hi:=B.less A2;obtain⟨A,rows2,new',f,a2,a3,a4,a5,a6⟩:=VW V7 h C J hy (M.le (mb.2.1.trans mp.2.1)) I G;have p:K7 A m1.n m'.hi:=B.step f;obtain⟨ρ2,W,b2,b3,b4⟩:=NZ V7 f.hr R (p.less mp.1) (hx.mono f.ext) (M.le mp.2.1) I G;obtain⟨v',r,w3,V,S,Q⟩:=TC (ty:=ty) hu F q hi Y E D W.hr N d (p.step W) M b4 (a5.step (fun b au=>(a4 b au).2) W.ext);exact⟨v',r,w3,V,S,St.trans B (St.trans (B.less mp.1) f W) Q⟩
      .split at d
       .rename_i b c tg ar;obtain⟨T,K⟩:=A3 d;clear d;have T:=A0 T;have mp:=nT K;have J:K7 ρ m.n m1.hi:=B.less A2;obtain⟨A,rows2,new',f,a2,a3,a4,a5,a6⟩:=VW V7 h C J hy (M.le mp.2.1) I G;have p:K7 A m1.n m'.hi:=B.step f;obtain⟨l,d1,d2,d3,d4,d5⟩:=gN hx;obtain⟨nul,aw,rows,X,q2⟩:=gU d2 d3 d4;have ay:aw=inf.size:=A2;subst ay;rw[X]at d2;rcases aJ d2 with⟨rfl,rfl,rfl⟩|⟨rfl,a,cap,rfl,hc⟩
        .have L:A4A P base A m1 w e inf.size c [b] none (.slice none 0 0):=⟨true,[],X,.inl ⟨rfl,rfl,rfl,fun b N=>by cases N⟩⟩;obtain⟨v',r,w3,V,S,Q⟩:=TC (ty:=ty) (g0:=[b]) (gs:=gs) hu F q hi Y E D f.hr N K p M L a5;exact⟨v',r,w3,V,S,St.trans B f Q⟩
        .have O:cap=rows.length:=d5;subst O;obtain⟨v',r,w3,V,S,Q⟩:=A4k (ty:=ty) hu F q hi Y E D f.hr N K p M X (f.ext _ _ d1) (by rw[X];exact d2) a5 (a6 rfl);exact⟨v',r,w3,V,S,St.trans B f Q⟩
       .cases d
     .cases d
    .cases u
 .cases u
end
end
section
open Go
variable [Ora]
section
variable {P:Program} {base:Nat} {ρ ρ':Ren} {m m':Mem} {w w':World}
def KW(h:o+us.length<=row.length):(zI row o us).length=row.length:=by
 unfold zI;simp;omega
def A0_(h:o+us.length<=row.length):(zI row o us)[j]? = if o<=j/\j<o+us.length then us[j-o]? else row[j]? := by
 unfold zI;have a:(row.take o).length=o:=by simp;omega
 by_cases h1:j<o
 .rw[A6 A2,M0,F4 A2,F0 h1]
 .by_cases d:j<o+us.length
  .rw[A8 ⟨A2,d⟩,M0,E4 A2,a,F4 A2]
  .rw[A6 A2,E4 (by simp;omega),I7];congr 1
   simp;omega
def P5.set{R:Nat->Option Obj}{s:Nat}{C C':X4}(h:P5 R rows wd C s)(B:k<rows.length)(I:o+us.length<=wd)(he:c9 R us vs)
  (hC:∀ j,C'[j]? = if s+k*wd+o<=j/\j<s+k*wd+o+vs.length then vs[j-(s+k*wd+o)]? else C[j]?):P5 R (rows.set k (zI (rows.getD k []) o us)) wd C' s:=by
 have d:rows[k]? = some rows[k]:=A5 B;have D:rows.getD k []=rows[k]:=by rw[B2,d];rfl
 have p:rows[k].length=wd:=h.1 _ (O1 B);rw[D];refine⟨fun row hr=>?_,fun r row j u v a a2 a3=>?_⟩
 .rcases gA hr with h1|rfl
  .exact h.1 row h1
  .rw[KW A2];exact p
 .rw[hC]at a3;by_cases f:k=r
  .subst f;rw[S4 B]at a;have a:=A9 a;subst a;have E:=(B1.1 a2).1;rw[KW A2,p]at E;rw[A0_ A2]at a2;by_cases n:o<=j/\j<o+us.length
   .rw[A8 n]at a2;rw[A8 (by rw[<- he.1];omega)]at a3;exact he.2 (j-o) u v a2 (by rw[<- a3];congr 1;omega)
   .rw[A6 n]at a2;rw[A6 (by rw[<- he.1];omega)]at a3;exact h.2 k _ j u v d a2 a3
  .rw[dN f]at a;have E:=(B1.1 a2).1;rw[h.1 _ (D1 a)]at E;have H:=(B1.1 a).1;have F:=he.1;rw[A6]at a3
   .exact h.2 r row j u v a a2 a3
   .rcases G0 r k with A|G
    .have q:(r+1)*wd<=k*wd:=F9 wd A;rw[I3]at q;omega
    .have q:(k+1)*wd<=r*wd:=F9 wd A2;rw[I3]at q;omega
def WJ(h:HR P base ρ m.H w)(f:yR P m t x y=some (v,m'))(hf:K7 ρ m.n m'.hi)(hx:VR ρ x x')(hy:VR ρ y y')(hS:Sat m'.lg):UOk P base ρ m w (Instr.storeAt t x' y') m'/\v=undef/\m.lg.le m'.lg:=by
 unfold yR at f;split at f
 .rename_i b i tg z o ts aj;cases E:jS y with
  | true=>rw[E]at f;cases f
  | false =>
  rw[E]at f;simp only[E0]at f;split at f
  .rename_i xs gs m1 hd;split at f
   .rename_i c tc T g hg;obtain⟨M,r⟩:=A3 f;clear f;have M:=A0 M;split at r
    .rename_i g2 m2 hj;rw[O4]at r;simp only[hole]at r;obtain⟨hs,rfl⟩:=nY r;obtain⟨ai,X⟩:=V1 hs;have md:=S8 V7 hd;have mj:=N6 hj;have ah:m2.hi=m'.hi:=by rw[X];simp
     have N:m'.lg=fZ m2 tg (.set (tg-10) o) (hole c tg::z::xs):=by rw[X];simp[hole]
     have Q:m2.lg.le m'.lg:=by rw[N];exact⟨[_],rfl⟩
     have av:K7 ρ m.n m1.hi:=hf.less A2;have S:m1.lg.le m'.lg:=by rw[<- mj.2.1];exact Q
     obtain⟨az,K,e2,e3,e4,e5,e6⟩:=jC V7 h hd av (hy.cells E) (hS.le S);have L:K7 az m1.n m2.hi:=(hf.step K).less A2;obtain⟨ρ2,lg,d1,d2,d3,d4,d5,d6⟩:=fL K.hr hj L;obtain⟨⟨l,wd,kN,k,a1,a2,a3,a4,a5,a6,rfl⟩,a8⟩:=xX hx;have A:=K.ext _ _ a1;obtain⟨a,inf,q1,q2,q3,J⟩:=SqR.ex (K.hr.atl A hg).1;rcases J with⟨J,_⟩|⟨_,J⟩
     .rw[a2]at J;cases J
     obtain⟨C,fz,T',rows,ay,f1,f2,f3,f4,f5,f6,f7,f8,f9⟩:=J;have aw:a=wd:=by
      have:tg=10+wd:=by rw[<- a8,a3];rfl
      omega
     subst aw;obtain⟨rfl,f10⟩:=f9 rfl;have au:tg=10+a:=A2;have al:Sat (m2.wLg (fZ m2 tg (.set (tg-10) o) (hole c tg::z::xs))).lg:=by rw[l5,<- N];exact hS
     obtain⟨r1,r2,nul,ag,rws,r3,r4⟩:=kW al (.refl _);obtain⟨kk,hz⟩:=IW a4;have F:(hole c tg::z::xs).map (D9 Ora.env)=.seq false a rows::.int kk (.ofNat k)::xs.map (D9 Ora.env):=by
      show Ora.env c::D9 Ora.env z::xs.map (D9 Ora.env)=_;rw[f2,hz]
     rw[F,show tg-10=a by omega]at r1;have r1:Ora.env m2.lg.nx=if a=a/\k<rows.length/\o+(xs.map (D9 Ora.env)).length<=a then .seq false a (rows.set k (zI (rows.getD k []) o (xs.map (D9 Ora.env))))else .none:=r1
     by_cases hc:a=a/\k<rows.length/\o+(xs.map (D9 Ora.env)).length<=a
     .rw[A8 hc]at r1;obtain⟨_,Y,O⟩:=hc;have hR:∀ b' ∈ gs,∀ l',az b'=some l'->Sub l'.G lg.G:=fun b' ak l' ao=>d6 b' (.tail _ ak) l' ao
      have d:=e6 lg.G hR;have I:Sub ay.G lg.G:=d6 g (.head _) ay f7;have B:y'.cells.toList.length=(xs.map (D9 Ora.env)).length:=d.1.symm;have an:(k+1)*a<=l.cap*a:=F9 a A2;rw[I3]at an;obtain⟨w',g1,ar,g3,g4,g5⟩:=d7 (P:=P) (b:=l.blk) (o:=l.sh+k*a+o) (fz:=fz) y'.cells.toList 0 C w f1 (EV d) (by rw[B];omega) f10;have af:C.toList.length=C.size:=S0;have p:(Array.mk (dA C.toList (l.sh+k*a+o+0) y'.cells.toList)).size=C.size:=by simp[d8]
      have W:∀ j,(Array.mk (dA C.toList (l.sh+k*a+o+0) y'.cells.toList))[j]? = if l.sh+k*a+o<=j/\j<l.sh+k*a+o+y'.cells.toList.length then y'.cells.toList[j-(l.sh+k*a+o)]? else C[j]? := fun j=>by
       rw[J2,lW _ _ _ _ (by rw[B];omega)];simp
      have q:P5 lg.G rows a C l.sh:=P5.mono ⟨f6,f8⟩ I;have u:St P base ρ ρ2 m (m2.wLg (fZ m2 tg (.set (tg-10) o) (hole c tg::z::xs))) w w:=St.trans (hf.less (by simp;omega)) (St.trans (hf.less A2) K d1) (St.wLg d1.hr _);have D:Hp.get (m2.wLg (fZ m2 tg (.set (tg-10) o) (hole c tg::z::xs))).H b=some (.sq c tc T' g false):=by rw[lL,uJ K.hr hj L A];exact hg
      have ax:=d1.ext _ _ A;have aq:BR P ρ2 (.sq m2.lg.nx tg T' g2 false) l w':=by
       refine⟨⟨a,inf,au,q2,q3,.inr ⟨a2,_,fz,T',_,lg,g4,r1,by rw[M8];exact f3,f4,by rw[p];exact f5,(q.set Y O d W).1,d4,(q.set Y O d W).2,fun _=>⟨rfl,by rw[p];exact f10⟩⟩⟩⟩
      have R:=St.write u.hr hs D rfl ax a2 ar g3 g5 aq (fun h=>by cases h);refine⟨⟨ρ2,w',?_,St.trans hf u R⟩,rfl,md.2.1.trans S⟩;have Z:=jF aj;have V:ts.length=(xs.map (D9 Ora.env)).length:=by
       have:=E1 List.length e5;rw[E7]at this;exact this.symm
      have e:y'.cells.size=ts.length:=by rw[V,<- B];simp
      simp[Instr.storeAt,Instr.sureAddr,storeVar,A4,L5 Z,Result.andThen,e,g1]
     .rw[A6 hc]at r1;rw[r1]at r3;cases r3
    .cases r
   .cases f
  .cases f
 .cases f
def WM{lo' hi' mx':R2}(h:HR P base ρ m.H w)(a:yU P m t x lo hi mx=some (v,m'))(K:K7 ρ m.n m'.hi)(hx:VR ρ x x')(p:OR ρ lo lo')(f:OR ρ hi hi')(q:OR ρ mx mx')(D:Sat m'.lg) :
  VOk P base ρ m w (Instr.sliceAt t x' lo' hi' mx') v m'/\m.lg.le m'.lg:=by
 unfold yU at a;split at a
 .rename_i e b i tg hu;split at a
  .rename_i s u;obtain⟨d,a⟩:=A3 a;have d:=A0 d;obtain⟨l,h1,E,h3,T⟩:=oC hx;obtain⟨⟨r,g1,g2⟩,⟨lg,rfl⟩,g4⟩:=IJ (w:=w) hu u d h1 E h3 (fun h=>by cases h) a p f q D;exact⟨⟨r,ρ,w,g1,g2,St.wLg h lg⟩,g4⟩
  .cases a
 .rename_i e b i tg hu;split at a
  .rename_i s u;obtain⟨d,a⟩:=A3 a;have d:=A0 d;obtain⟨l,h1,E,h3,T,V⟩:=gN hx;obtain⟨⟨r,g1,g2⟩,⟨lg,rfl⟩,g4⟩:=IJ (w:=w) hu u d h1 E h3 (fun _=>V) a p f q D;exact⟨⟨r,ρ,w,g1,g2,St.wLg h lg⟩,g4⟩
  .cases a
 .rename_i e b i tg hu;split at a
  .rename_i s u;obtain⟨d,a⟩:=A3 a;have d:=A0 d;split at a
   .rename_i c tc L m1 S;have B:∀ {m1:Mem},NE m1 L c tg false lo hi mx=some (v,m')->K3 m1 m'/\m1.lg.le m'.lg:=fun{m1} a=>by
     have go:∀ {m1:Mem} {l h:Value} {cc:Bool},gV m1 L c tg l h cc=some (v,m')->K3 m1 m'/\m1.lg.le m'.lg:=fun h=>by
      unfold gV at h;obtain⟨_,h⟩:=A3 h;rw[O4]at h;simp only[D6,L9]at h;obtain⟨_,rfl⟩:=h;exact⟨⟨_,rfl⟩,W9⟩
     unfold NE ND at a;split at a
     .exact go a
     .exact go (A3 a).2
     .split at a
      .rename_i J
       have:=go a;exact⟨(cG J).1.trans this.1,(cG J).2.trans this.2⟩
      .cases a
     .cases a
    obtain⟨⟨lg,G⟩,hle⟩:=B a;have R:m1.hi=m'.hi:=by rw[G];simp
    obtain⟨C,l,I,M,W,O,N,Q⟩:=FY h S (K.less A2) hx (D.le hle);have mono:∀ {o o':R2},OR ρ o o'->OR C o o':=fun{o o'} h=>by
     cases o<;>cases o'<;>first|exact trivial|exact h.elim|exact VR.mono I.ext h
    obtain⟨⟨r,g1,g2⟩,⟨F,A⟩,g4⟩:=IJ (w:=w) (cl:=false) hu u d M O N (fun h=>by cases h) a (mono p) (mono f) (mono q) D;subst A;exact⟨⟨r,C,w,g1,g2,St.trans (K.less (by simp)) I (St.wLg I.hr F)⟩,Q.trans g4⟩
   .cases a
  .cases a
 .cases a
end
end
section
open Go
variable [Ora]
section
variable {P:Program} {base:Nat} {ρ ρ':Ren} {m m':Mem} {w w':World}
def DL{a':Addr}{n c':Nat}{a:List Int}(p:P.underlying s=some (.slice e))(q:P.underlying t=some .string)(he:P.underlying e=some (.int .u8))(d:(loadCells a' n).run P w=.ok (a.map (Value.int .u8)).toArray w) :
  (convert s t (.slice (some a') n c')).run P w=.ok (.string ⟨⟨a.map fun n=>UInt8.ofNat n.toNat⟩⟩) w:=by
 have:=run_bytesToString w a' n c' a d;have f:=pU a [];simp only[G7]at f;simp only[convert,A4,D2 p,D2 q,D2 he,Result.andThen];rw[this,show ByteArray.empty=ByteArray.mk ⟨[]⟩from rfl,f]
def GG{n:Nat}(a:P.underlying s=some (.slice e))(d:P.underlying t=some .string)(he:P.underlying e=some (.int .u8)):(convert s t (.slice none n c)).run P w=.ok (.string ByteArray.empty) w:=by
 simp[convert,A4,D2 a,D2 d,D2 he,Result.andThen,Conv.bytesToString]
def KI{b:ByteArray}(E:P.underlying s=some ds)(F:P.underlying t=some (.slice e))(he:P.underlying e=some (.int .u8))(w:World) :
  ∃ (cap:Nat) (C:Array Value),b.size<=cap/\C.size=cap/\(∀ (i:Nat) (u:Value),(Q0 b.data.toList)[i]? = some u->C[i]? = some u)/\(convert s t (.string b)).run P w=.ok (.slice (some ⟨w.heap.size,0,none⟩) b.size cap) { w.drew with heap:=w.heap.push (.cells C e (C.size,C.size+1)) }:=by
 let q:Question:=.appendCap b.size 0 e
 let cap:=q.cut (w.tape w.drawn q)
 have d:b.size<=cap:=by show b.size<=b.size+_;omega
 have r:(choose q).run P w=.ok cap w.drew:=by
  simp only[choose,Sem.run];rw[A6 (by simp[q,Question.forced])];rfl
 let C:X4:=(b.data.map fun b=>Value.int .u8 b.toNat)++Array.replicate (cap-b.size) (.int .u8 0)
 have hC:C.size=cap:=by
  have:b.data.size=b.size:=rfl;simp[C,this];omega
 refine⟨cap,C,d,hC,fun i u hi=>?_,?_⟩
 .have B:=(B1.1 hi).1;simp[Q0]at B;have f:i<(b.data.map fun b=>Value.int .u8 b.toNat).size:=by simpa using B
  show((b.data.map fun b=>Value.int .u8 b.toNat)++Array.replicate (cap-b.size) (.int .u8 0))[i]? = some u;rw[T8 f]
  simpa [Q0]using hi
 .have n:∀ w2:World,w2.heap[w.heap.size]? = some (.cells C e (0,0))->(markStringish ⟨w.heap.size,0,none⟩).run P w2=.ok () (w2.freeze { block:=w.heap.size,off:=C.size } 1):=fun w2 D=>by
   simp[markStringish,shape,freeze,Sem.run,World.shape?,D]
  have A:({ w.drew with heap:=w.heap.push (.cells C e (0,0)) }:World).freeze { block:=w.heap.size,off:=C.size } 1={ w.drew with heap:=w.heap.push (.cells C e (C.size,C.size+1)) }:=by
   unfold World.freeze;rw[A6 E3];congr 1;apply Array.ext_getElem?;intro i;rw[H4];by_cases hi:w.heap.size=i
   .subst hi;simp
   .rw[A6 hi];simp only[m7];rw[A6 (fun h=>hi h.symm),A6 (fun h=>hi h.symm)]
  have a:(convert s t (.string b)).run P w=(Conv.stringToBytes e b).run P w:=by
   cases ds<;>simp[convert,A4,D2 E,D2 F,D2 he,Result.andThen]
  rw[a];unfold Conv.stringToBytes;simp only[A4,show(choose (.appendCap b.size 0 e)).run P w=.ok cap w.drew from r,Result.andThen];have p:(newRow e C).run P w.drew=.ok ⟨w.heap.size,0,none⟩ { w.drew with heap:=w.heap.push (.cells C e (0,0)) }:=rfl;rw[show(newRow e ((b.data.map fun b=>Value.int .u8 b.toNat)++Array.replicate (cap-b.size) (.int .u8 0))).run P w.drew=_ from p];simp only[Result.andThen];rw[n _ (by simp),A];rfl
def IS:∀ {us:List U} {s:List UInt8} {vs:D3},uZ us=some s->c9 (fun k=>w.heap[k]?) us vs->∃ d:List Int,vs=d.map (Value.int .u8)/\s=d.map fun n=>UInt8.ofNat n.toNat
 | [],s,vs,h,he=>by
   cases h;have:vs=[]:=G2.1 he.1.symm;subst this;exact⟨[],rfl,rfl⟩
 | u::us,s,vs,h,he=>by
   unfold uZ at h;split at h
   .rename_i heq;cases heq
   .rename_i n r heq;cases heq;split at h
    .split at h
     .rename_i l f;cases h;cases vs with
      | nil=>have:=he.1;simp at this
      | cons v vr =>
        obtain⟨d,A,q⟩:=IS (vs:=vr) f ⟨by have:=he.1;simpa using this,fun i a b h1 p=>he.2 (i+1) a b (by simpa using h1) (by simpa using p)⟩
        have:=gT (he.2 0 _ v rfl rfl) rfl;subst this;exact⟨(Int.ofNat n)::d,by rw[A];rfl,by rw[q];rfl⟩
     .cases h
    .cases h
   .cases h
def IT:∀ {rows:List (List U)} {s:List UInt8},xC rows=some s->uZ (rows.flatMap id)=some s/\(rows.flatMap id).length=rows.length/\∀ (r:Nat) (row:List U) (j:Nat) (u:U),rows[r]? = some row->row[j]? = some u->j=0/\(rows.flatMap id)[r]? = some u
 | [],s,h=>by cases h;exact⟨rfl,rfl,fun r row j u h=>by simp at h⟩
 | row::rows,s,h=>by
   unfold xC at h;split at h
   .rename_i heq;cases heq
   .rename_i n r heq;cases heq;split at h
    .rename_i A;split at h
     .rename_i l d;cases h;obtain⟨h1,f,h3⟩:=IT d;refine⟨?_,by show([U.int .u8 (Int.ofNat n)]++rows.flatMap id).length=_;rw[B7,f];simp;omega,fun q row j u a a2=>?_⟩
      .simp only[hH,id,S9,G7,uZ];rw[A8 A,h1]
      .cases q with
       | zero =>
         simp at a;subst a;cases j with
         | zero=>simp at a2;subst a2;exact⟨rfl,rfl⟩
         | succ j=>simp at a2
       | succ q =>
         obtain⟨p,B⟩:=h3 q row j u (by simpa using a) a2;exact⟨p,by simpa using B⟩
     .cases h
    .cases h
   .cases h
def qY{t:Nat}:∀ {l:D3},n7 t l=true->∀ v ∈ l,G8 v=t
 | [],_,v,hv=>by cases hv
 | x::r,h,v,hv=>by
   obtain⟨h1,a⟩:=B8 (show(Nat.beq (G8 x) t && n7 t r)=true from h);rcases B3.1 hv with rfl|hv
   .exact A0 h1
   .exact qY a v hv
def tE{R:Nat->Option Obj}(h:LR ρ cs cs')(f:∀ v ∈ cs,G8 v<10):c9 R (cs.map (D9 Ora.env)) cs':=by
 refine⟨by simp[h.1],fun i u v a a2=>?_⟩;rw[F8]at a;cases d:cs[i]? with
 | none=>rw[d]at a;cases a
 | some x =>
   rw[d]at a;have a:=A9 a;subst a;exact .sc (aV (h.2 i x v d a2) (f x (D1 d))).1
def MD(m m1:Mem):A7X m m1=⟨m.H,m.n,m.W,m1.hi,m1.lg⟩:=by cases m;cases m1;rfl
def St.kept{ρ:Ren}{m:Mem}{w:World}{hi:Nat}{lg:Lg}(h:HR P base ρ m.H w)(hh:m.hi<=hi):St P base ρ ρ m ⟨m.H,m.n,m.W,hi,lg⟩ w w :=
 ⟨fun _ _ h=>h,fun b l h1 a=>(by rw[h1]at a;cases a),A7 _,hh,fun h=>C6 h hh,h,fun _ h=>h,fun b h1 a=>absurd h1 a,fun _ _ _=>rfl,A7 _,⟨rfl,rfl,rfl⟩,fun b l h1 a=>(by rw[h1]at a;cases a),fun _ _ _ _=>rfl,fun _ h=>.inr h⟩
def A3W(h:HR P base ρ m.H w)(hb:base<=w.heap.size)(d:NJ P m s t x=some (v,m'))(Y:K7 ρ m.n m'.hi)(hx:VR ρ x x')(hS:Sat m'.lg):VOk P base ρ m w (convert s t x') v m'/\m.lg.le m'.lg:=by
 unfold NJ at d;split at d
 .rename_i e a n c N Q;split at d
  .rename_i he;split at d
   .rename_i cs hr;obtain⟨E,d⟩:=A3 d;obtain⟨u,p,e2,r,M,O,e5⟩:=N0 d hS;obtain⟨lg,rfl⟩:=I1 d;have q:=St.wLg h lg;have I:=qY E;have key:∀ {a' c'} {L:D3},LR ρ cs L->(loadCells a' n).run P w=.ok ⟨L⟩ w->VOk P base ρ m w (convert s t (.slice (some a') n c')) v (m.wLg lg):=fun{a' c' L} T av=>by
     have az:c9 (fun k=>w.heap[k]?) (cs.map (D9 Ora.env)) L:=tE T (fun v hv=>by rw[I v hv];omega);have J:∃ f,uZ (cs.map (D9 Ora.env))=some f/\u=.str f:=by
      have p:(match uZ (cs.map (D9 Ora.env))with|some s=>U.str s|none=>.none)=u:=p;split at p
      .rename_i f A;exact⟨f,A,p.symm⟩
      .subst p;cases M
     obtain⟨f,K,rfl⟩:=J;cases M;obtain⟨ns,r1,r2⟩:=IS (w:=w) K az;subst r1;subst r2;exact⟨_,ρ,w,DL N Q he av,O ρ,q⟩
    refine⟨?_,I5 d⟩;rcases P8 hx with⟨l,T,_,_,rfl⟩|⟨l,c',T,_,_,_,_,rfl⟩|⟨a',c',_,rfl,_,rfl⟩
    .obtain⟨L,g1,g2,g3⟩:=i6 h hr T;exact key g1 (K8 g2 g3)
    .obtain⟨L,g1,g2,g3⟩:=i6 h hr T;exact key g1 (K8 g2 g3)
    .have:cs=[]:=by
      unfold y9 at hr;split at hr
      .have:=(jX hr).2;simpa using this
      .cases hr
     subst this;exact key .nil (by simp[loadCells,loadCellsFrom])
   .cases d
  .cases d
 .rename_i e fn a1 a2 N Q;split at d
  .rename_i he;split at d
   .rename_i hh b m1 hd;rw[MD]at d;obtain⟨u,p,e2,r,M,O,e5⟩:=N0 d hS;have hle:=I5 d;obtain⟨lg,rfl⟩:=I1 d;obtain⟨X,l,d1,d2,d3,d4,d5,d6⟩:=FY h hd (Y.less (by simp[Mem.wLg])) hx (hS.le hle);have q:St P base ρ ρ m (Mem.wLg ⟨m.H,m.n,m.W,m1.hi,m1.lg⟩ lg) w w:=St.kept h d1.hle;obtain⟨nul,wd,rows,K,q2⟩:=gU d4 d5 A2;have aw:wd=1:=A2;subst aw;rw[K]at d4;have J:∃ f,xC rows=some f/\u=.str f:=by
     have p:evU .str [D9 Ora.env hh]=u:=p;rw[K]at p;have p:(if 1=1 then(match xC rows with|some s=>U.str s|none=>.none)else .none)=u:=p;rw[A8 rfl]at p;split at p
     .rename_i f A;exact⟨f,A,p.symm⟩
     .subst p;cases M
    obtain⟨f,A,rfl⟩:=J;cases M;refine⟨?_,d6.trans hle⟩;have hG:=(d1.hr.atl d2 d3).1.2;rcases aJ d4 with⟨rfl,rfl,rfl⟩|⟨rfl,a,c,rfl,hc⟩
    .cases A;exact⟨_,ρ,w,GG N Q he,O ρ,q⟩
    .obtain⟨_,new',g1,g2,g3,g4⟩:=uV (w:=w) d4 hG;obtain⟨k1,k2,k3⟩:=IT A;have V:c9 (fun k=>w.heap[k]?) (rows.flatMap id) new':=by
      refine⟨by rw[k2,g1];simp,fun i u v b1 b2=>?_⟩;have B:i<rows.length:=by have:=(B1.1 b1).1;rw[k2]at this;exact this
      have au:rows[i].length=1:=g3.1 _ (O1 B);have F:rows[i]? = some rows[i]:=A5 B;have h0:rows[i][0]? = some (rows[i][0]' A2):=A5 A2;obtain⟨_,k4⟩:=k3 i _ 0 _ F h0;rw[b1]at k4;have k4:=A9 k4;rw[k4];exact(g3.2 i _ 0 _ v F h0 (by simpa using b2)).mono hG
     obtain⟨ns,r1,r2⟩:=IS (w:=w) k1 V;subst r1;subst r2;have ay:(ns.map (Value.int .u8)).length=rows.length:=by rw[g1];omega
     exact⟨_,ρ,w,DL N Q he (mG ay g4),O ρ,q⟩
   .cases d
  .cases d
 .rename_i y _ _ _ ds e N Q;obtain⟨E,d⟩:=A3 d;have E:=A0 E;split at d
  .rename_i he;split at d
   .rename_i D;split at d
    .rename_i g m1 hj;rw[O4]at d;simp only[hole]at d;have d:bZ (m1.wLg (fZ m1 11 .byt [y])) m1.lg.nx 11 e g=some (v,m'):=d;have mj:=N6 hj;have mn:=u9 d;simp only[OK,l5,YR]at mn;obtain⟨X,lg,p,e2,M,O,e5,e6⟩:=fL h hj (Y.less A2);have q:St P base ρ X m (m1.wLg (fZ m1 11 .byt [y])) w w:=St.trans (Y.less (by simp;omega)) p (St.wLg p.hr _);obtain⟨f,rfl,f1⟩:=s8 hx E;obtain⟨r1,r2,_⟩:=kW (m:=m1) (t:=11) (op:=.byt) (xs:=[y]) (lg:=m'.lg) hS (by rw[l5,mn.2.1];exact .refl _);have r1:Ora.env m1.lg.nx=evU .byt [D9 Ora.env y]:=r1;rw[f1]at r1;have r1:Ora.env m1.lg.nx=.seq false 1 (kM f):=r1;obtain⟨cap,C,c1,c2,c3,c4⟩:=KI (P:=P) (b:=⟨⟨f⟩⟩) N Q he w;obtain⟨inf,Z,S⟩:∃ inf,P.info? e=some inf/\inf.size=1:=by
      unfold H6 at D;cases hi:P.info? e with
      | none=>rw[hi]at D;cases D
      | some inf=>rw[hi]at D;exact⟨inf,rfl,A9 D⟩
     have ax:ByteArray.size ⟨⟨f⟩⟩=f.length:=rfl;rw[ax]at c1 c4;obtain⟨ρ2,K,q2⟩:=dC (w':={ w.drew with heap:=w.heap.push (.cells C e (C.size,C.size+1)) }) (cap:=cap) (C:=C) q.hr hb d (by simpa using(Y.less (A7 _)).step p) r1 rfl Z S (by rw[iM];exact c1) A2
      ((KL (R:=lg.G) f).move (o':=0) fun i hi=>by
        rw[iM]at hi;have B:i<(Q0 f).length:=by simp[Q0];omega
        rw[F7,c3 i (Q0 f)[i] (A5 B)];simp[B]) O (fun i hi hh=>by have:=hh.1;simp only at this;omega) ⟨rfl,rfl,rfl⟩ rfl
     rw[iM]at K;exact⟨⟨_,ρ2,_,c4,K,St.trans Y q q2⟩,by rw[mn.2.1,<- mj.2.1];exact⟨[_],rfl⟩⟩
    .cases d
   .cases d
  .cases d
 .cases d
def WS(hu:P.underlying t=some (.slice e))(hi:P.info? e=some inf)(n:inf.bytes<=90000)(h0:0<inf.size)(h:∀ w,(zeroValue e).run P w=.ok z w)(p:k<=xD)(w:World) :
  (Instr.makeSlice t (.int .i64 (Int.ofNat k)) (.int .i64 (Int.ofNat k))).run P w=.ok (.slice (some ⟨w.heap.size,0,none⟩) k k) { w with heap:=w.heap.push (.cells ((Array.range (k*inf.size)).map (z.cells[· % z.cells.size]!)) e (0,0)) }:=by
 have p:k<=1000000000:=p;have u:H6 P e=some inf.size:=by simp[H6,hi]
 have wl:IntKind.i64.wrap (Int.ofNat k)=Int.ofNat k:=qK .i64 k (by simp only[OQ];omega);have hm:k*inf.bytes<=1000000000*90000:=fW p n;have a:(askRoom (k*inf.bytes)).run P w=.ok () w:=by
  unfold askRoom roomBytes;rw[A6 A2];rfl
 have q:((inf.bytes:Int)*(k:Int))=((k*inf.bytes:Nat):Int):=by rw[bQ];simp
 unfold Instr.makeSlice;simp only[A4,D2 hu,asInt,asIntOf,Result.andThen,Sem.run_pure,V8 hi,wl];rw[A6]
 .have d:(Int.ofNat k).toNat=k:=by simp
  simp only[A4,Sem.run_pure,Result.andThen,d,a,L5 u];by_cases f:k*inf.size=0
  .have A:∀ z:X4,Array.map (fun x=>z[x%z.size]!) (Array.range (k*inf.size))=⟨[]⟩:=fun z=>by rw[f];apply J5;simp
   simp only[A8 f,A];rfl
  .simp only[A6 f,A4,Sem.run_pure,Result.andThen,h];rfl
 .have r:Int.ofNat k=(k:Int):=rfl;simp only[r,q];simp;omega
def YL{R:Nat->Option Obj}{s:Nat}(h0:0<s)(d:z.cells.size=s)(q:LR ρ z.cells.toList z.cells.toList)(p:∀ v ∈ z.cells.toList,G8 v<10):P5 R (List.replicate k (z.cells.toList.map (D9 Ora.env))) s ((Array.range (k*s)).map (z.cells[· % z.cells.size]!)) 0:=by
 have he:=tE (R:=R) q p;refine⟨fun row hr=>?_,fun r row j u v g1 g2 g3=>?_⟩
 .rw[(List.mem_replicate.1 hr).2];simp[d]
 .have hr:=(B1.1 g1).1;rw[U2]at hr;rw[List.getElem?_replicate,A8 hr]at g1;cases g1;have n:=(B1.1 g2).1;simp only[E7,S0]at n;rw[d]at n;have hm:(r*s+j)%s=j:=by rw[bQ,Nat.mul_add_mod,X5 n]
  have f:r*s+j<k*s:=by
   have:(r+1)*s<=k*s:=F9 s hr;rw[I3,gZ]at this;omega
  rw[F7,Array.getElem?_map,Array.getElem?_range,A8 f]at g3;simp only[L8,D6,d,hm]at g3;have a:j<z.cells.size:=A2;rw[getElem!_pos z.cells j a]at g3;refine he.2 j u v g2 ?_;rw[Q2,F5 a,g3]
def A1t{l c:Value}(h:HR P base ρ m.H w)(Q:base<=w.heap.size)(a:LT P m t l c=some (v,m'))(C:K7 ρ m.n m'.hi)(M:VR ρ l l')(V:VR ρ c c')(T:Sat m'.lg):VOk P base ρ m w (Instr.makeSlice t l' c') v m'/\m.lg.le m'.lg:=by
 unfold LT at a;split at a
 .rename_i e i ti j Y hu;obtain⟨d,A⟩:=A3 a;clear a;obtain⟨d,h3⟩:=B8 d;obtain⟨h1,D⟩:=B8 d;have h1:=A0 h1;have D:=A0 D;have h3:=A0 h3;subst h1 D h3;have a:=A;clear A;split at a
  .rename_i inf hi;obtain⟨d,a⟩:=A3 a;obtain⟨p,f⟩:=B8 d;have p:=A1 p;have f:0<inf.size:=A1 f;split at a
   .rename_i z L;obtain⟨d,a⟩:=A3 a;obtain⟨u,r⟩:=B8 d;have u:=A0 u;have r:∀ v ∈ z.cells.toList,G8 v<10:=fun v hv=>A1 (D5.1 r v hv)
    split at a
    .rename_i g m1 J;rw[O4]at a;simp only[hole]at a;have a:bZ (m1.wLg (fZ m1 (10+inf.size) (.rep inf.size) (hole i 3::z.cells.toList))) m1.lg.nx (10+inf.size) e g=some (v,m'):=a;have R:=N6 J;have G:=u9 a;simp only[OK,l5,YR]at G;obtain⟨E,lg,F,X,e3,S,Z,e6⟩:=fL h J (C.less A2);have B:St P base ρ E m (m1.wLg (fZ m1 (10+inf.size) (.rep inf.size) (hole i 3::z.cells.toList))) w w:=St.trans (C.less (by simp;omega)) F (St.wLg F.hr _);obtain⟨k,n,rfl,f1,f2⟩:=N1 (v:=hole i 3) M (show(3:Nat)<8 by decide);obtain⟨k2,W,rfl,f3,f4⟩:=N1 (v:=hole i 3) V (show(3:Nat)<8 by decide);rw[f1]at f3;cases f3;obtain⟨r1,r2,nul,wd,rows,I,r4⟩:=kW (m:=m1) (t:=10+inf.size) (op:=.rep inf.size) (xs:=hole i 3::z.cells.toList) (lg:=m'.lg) T (by rw[l5,G.2.1];exact .refl _);have r1:Ora.env m1.lg.nx=evU (.rep inf.size) (D9 Ora.env (hole i 3)::z.cells.toList.map (D9 Ora.env)):=r1;rw[f1]at r1;have N:k=.i64:=by
      have f2:(3:Nat)=iR k:=f2;cases k<;>first|rfl|(exfalso;revert f2;decide)
     subst N;cases n with
     | negSucc q=>rw[I]at r1;cases r1
     | ofNat q =>
       have r1:Ora.env m1.lg.nx=if(z.cells.toList.map (D9 Ora.env)).length=inf.size/\q<=xD then .seq false inf.size (List.replicate q (z.cells.toList.map (D9 Ora.env)))else .none:=r1
       by_cases d:(z.cells.toList.map (D9 Ora.env)).length=inf.size/\q<=xD
       .rw[A8 d]at r1;obtain⟨ρ2,K,O⟩:=dC (w':={ w with heap:=w.heap.push (.cells ((Array.range (q*inf.size)).map (z.cells[· % z.cells.size]!)) e (0,0)) }) (cap:=q) (fz:=(0,0)) B.hr Q a (by simpa using(C.less (A7 _)).step F) r1 rfl hi rfl (by simp) (by simp)
         (YL (ρ:=ρ) f u (qG L) r) S (fun i hi hh=>by have:=hh.2;simp only at this;omega) ⟨rfl,rfl,rfl⟩ rfl
        rw[U2]at K;exact⟨⟨_,ρ2,_,WS hu hi p f (fun w=>aZ L w) d.2 w,K,St.trans C B O⟩,by rw[G.2.1,<- R.2.1];exact⟨[_],rfl⟩⟩
       .rw[A6 d,I]at r1;cases r1
    .cases a
   .cases a
  .cases a
 .cases a
end
end
section
open Go
variable [Ora]
section
variable {P:Program} {base:Nat} {ρ ρ':Ren} {m m':Mem} {w w':World}
def TN{t:Nat}(h:U6 m 8 .nilp [hole i t]=some (v,m'))(hi:Ora.env i=.seq nul wd rows)(p:Sat m'.lg):VR ρ v (.bool nul)/\K3 m m'/\m.lg.le m'.lg:=by
 obtain⟨u,d,q,r,f,n,A⟩:=N0 h p;have a:[hole i t].map (D9 Ora.env)=[.seq nul wd rows]:=by
  show[Ora.env i]=_;rw[hi]
 rw[a]at d;have d:U.bool nul=u:=d;subst d;cases f;exact⟨n ρ,I1 h,I5 h⟩
def DM{x y:Operand}{a:Option Addr}{n:Nat}(hu:P.underlying t=some (.slice e))(A:(a=none/\n=0/\c=0/\nul=true)∨(nul=false/\∃ q:Addr,a=some q/\n<=c))(p:op=.eql∨op=.neq)(w:World) :
  (do eqGuard op t x y (.slice a n c) (.slice none 0 0);binOp op t (.slice a n c) (.slice none 0 0):Sem Value).run P w=.ok (.bool (if op=.eql then nul else !nul)) w:=by
 have key:∀ {ρ:Ren} {am:Value},VR ρ am (.slice a n c)->mM P t x y am (.slice none 0 0)=true->tN P .eql t am (.slice none 0 0)=some (.bool nul)->tN P .neq t am (.slice none 0 0)=some (.bool !nul) ->
   (do eqGuard op t x y (.slice a n c) (.slice none 0 0);binOp op t (.slice a n c) (.slice none 0 0):Sem Value).run P w=.ok (.bool (if op=.eql then nul else !nul)) w:=fun{ρ am} hv r h1 h=>by
  have f:VR ρ (.slice none 0 0) (.slice none 0 0):=.pure rfl;have u:=sV (op:=op) (fun _=>r) hv f w;rcases p with rfl|rfl
  .obtain⟨g1,_⟩:=yD h1 hv f w;simp[A4,u,g1,Result.andThen]
  .obtain⟨g1,_⟩:=yD h hv f w;simp[A4,u,g1,Result.andThen]
 rcases A with⟨rfl,rfl,rfl,rfl⟩|⟨rfl,q,rfl,C⟩
 .refine key (ρ:=fun _=>none) (am:=.slice none 0 0) (.pure rfl) rfl ?_ ?_
  .simp[tN,DR,eqM,hu]
  .simp[tN,DR,eqM,hu]
 .obtain⟨d,B⟩:∃ d,Op.maxDepth=d+1:=⟨Op.maxDepth-1,rfl⟩;have he:∀ w,(Op.equal t (.slice (some q) n c) (.slice none 0 0)).run P w=.ok false w:=fun w=>by
   rw[Op.equal,B];simp[Op.equalIn,A4,D2 hu,Result.andThen]
  have r:∀ o:BinOp,(eqGuard o t x y (.slice (some q) n c) (.slice none 0 0)).run P w=.ok () w:=fun o=>by
   unfold eqGuard;cases o<;>rfl
  rcases p with rfl|rfl
  .rw[A4,r];show(do pure (.bool (<- Op.equal t (.slice (some q) n c) (.slice none 0 0))):Sem Value).run P w=_;rw[A4,he];rfl
  .rw[A4,r];show(do pure (.bool (!(<- Op.equal t (.slice (some q) n c) (.slice none 0 0)))):Sem Value).run P w=_;rw[A4,he];rfl
def A4v{x y:Operand}{a a' b:Value}(F:A1i P m op t x y a b=some (v,m'))(J:VR ρ a a')(Q:VR ρ b b')(L:Sat m'.lg) :
  (∃ r,(do eqGuard op t x y a' b';binOp op t a' b':Sem Value).run P w=.ok r w/\VR ρ v r)/\K3 m m'/\m.lg.le m'.lg:=by
 unfold A1i at F;split at F
 .rename_i e k T i tg hu;obtain⟨f,d⟩:=A3 F;clear F;obtain⟨f,A⟩:=B8 f;obtain⟨f,O⟩:=B8 f;have K:b'=.slice none 0 0:=by
   unfold A2c at f;split at f
   .exact Q3 Q
   .cases f
  subst K;obtain⟨nul,wd,rows,C,n,c,D,rfl,N⟩:∃ nul wd rows C n c,Ora.env i=.seq nul wd rows/\a'=.slice C n c/\((C=none/\n=0/\c=0/\nul=true)∨(nul=false/\∃ q:Addr,C=some q/\n<=c)):=by
   have B:∀ {l:Loc},Enc l.G (Ora.env i) a'->G4 (Ora.env i)=tg->10<=tg->∃ nul wd rows C n c,Ora.env i=.seq nul wd rows/\a'=.slice C n c/\((C=none/\n=0/\c=0/\nul=true)∨(nul=false/\∃ q:Addr,C=some q/\n<=c)):=fun h h3 E=>by
    obtain⟨nul,wd,rows,D,_⟩:=gU h h3 E;rw[D]at h;rcases aJ h with⟨rfl,rfl,rfl⟩|⟨rfl,q,c,rfl,S⟩
    .exact⟨_,_,_,_,_,_,D,rfl,.inl ⟨rfl,rfl,rfl,rfl⟩⟩
    .exact⟨_,_,_,_,_,_,D,rfl,.inr ⟨rfl,q,rfl,S⟩⟩
   rcases(J4 _ _).mp A with A|A
   .rcases(J4 _ _).mp A with A|A
    .have:=A0 A;subst this;obtain⟨l,_,h,h3,E⟩:=oC J;exact B h h3 E
    .have:=A0 A;subst this;obtain⟨l,_,h,h3,E,_⟩:=gN J;exact B h h3 E
   .have:=A0 A;subst this;rcases(gM J).1 with⟨l,wd,h1,h,h3,rfl⟩|⟨l,wd,rows,h1,h,h3,E,I,rfl⟩
    .exact⟨_,_,_,_,_,_,h3,rfl,.inl ⟨rfl,rfl,rfl,rfl⟩⟩
    .exact⟨_,_,_,_,_,_,h3,rfl,.inr ⟨rfl,_,rfl,I⟩⟩
  split at d
  .rename_i r H;cases d;obtain⟨g1,g2,g3⟩:=TN (ρ:=ρ) H D L;exact⟨⟨_,DM hu N (.inl rfl) w,g1⟩,g2,g3⟩
  .rename_i hh m1 H;have hle:=I5 d;obtain⟨g1,g2,g3⟩:=TN (ρ:=ρ) H D (L.le hle);obtain⟨u,f1,f2,r,f3,f4,f5⟩:=N0 d L;obtain⟨rfl,R⟩:=jR H;have M:D9 Ora.env (hole m.lg.nx 8)=.bool nul:=by
    obtain⟨p,_⟩:=aV g1 (by show(8:Nat)<10;omega);cases f:D9 Ora.env (hole m.lg.nx 8)with
    | bool b=>rw[f]at p;cases p;rfl
    | int k n=>rw[f]at p;cases p
    | str s=>rw[f]at p;cases p
    | none=>rw[f]at p;cases p
    | seq _ _ _=>rw[f]at p;cases p
   have f1:ev1 .not (D9 Ora.env (hole m.lg.nx 8))=u:=f1;rw[M]at f1;have f1:U.bool (!nul)=u:=f1;subst f1;cases f3;exact⟨⟨_,DM hu N (.inr rfl) w,f4 ρ⟩,g2.trans (I1 d),g3.trans hle⟩
  .cases d
 .cases F
def B0U{fr:Fr}{g:Operand->Value}{o:Oper}(h:HR P base ρ m.H w)(D:base<=w.heap.size)(d:dsM P fr m o.op=some (v,m'))(A:K7 ρ m.n m'.hi)(K:FR ρ fr g o.op)(f:Sat m'.lg):NOk P base ρ m w (execOp g o) v m':=by
 obtain⟨dst,op,ty,pos,L,J⟩:=o;simp only at d K;have a:∀ {x},x ∈ op.operands.toList->VR ρ (ev fr x) (g x):=fun hx=>K _ hx
 have fin:∀ {s:Sem Value},(∃ r,s.run P w=.ok r w/\VR ρ v r)->K3 m m'->NOk P base ρ m w (do pure (.value (<- s))) v m':=fun{s} ⟨r,h1,N⟩ ⟨lg,M⟩=>by
  subst M;exact NOk.of ⟨r,ρ,w,h1,N,St.wLg h lg⟩
 unfold dsM at d;split at d
 .rename_i t x y;exact NOk.of (A1t h D d A (a (x:=x) (by simp[Op.operands])) (a (x:=y) (by simp[Op.operands])) f).1
 .rename_i t x;obtain⟨g1,g2,_⟩:=A1w (w:=w) h d (a (x:=x) (by simp[Op.operands])) f;exact fin (s:=Instr.loadAt t (g x)) g1 g2
 .rename_i t x y;obtain⟨g1,rfl,_⟩:=WJ h d A (a (x:=x) (by simp[Op.operands])) (a (x:=y) (by simp[Op.operands])) f;exact NOk.ofU (s:=Instr.storeAt t (g x) (g y)) g1
 .rename_i t x i;obtain⟨g1,g2,_⟩:=MH (w:=w) d (a (x:=x) (by simp[Op.operands])) (a (x:=i) (by simp[Op.operands])) f;exact fin (s:=Instr.indexAt t (g x) (g i)) g1 g2
 .rename_i s x i;obtain⟨g1,rfl⟩:=MY (w:=w) d (a (x:=x) (by simp[Op.operands]));exact fin (s:=Instr.fieldAt s (g x) i) g1 (.refl _)
 .rename_i t x lo hi mx;obtain⟨g1,_⟩:=WM h d A (a (x:=x) (by simp[Op.operands])) (jU (g:=g) fun y p=>a (by simp[Op.operands]at p ⊢;exact .inr (.inl p))) (jU (g:=g) fun y p=>a (by simp[Op.operands]at p ⊢;exact .inr (.inr (.inl p)))) (jU (g:=g) fun y p=>a (by simp[Op.operands]at p ⊢;exact .inr (.inr (.inr p)))) f;exact NOk.of (s:=Instr.sliceAt t (g x) (lo.map g) (hi.map g) (mx.map g)) g1
 .rename_i s t x;exact NOk.of (A3W h D d A (a (x:=x) (by simp[Op.operands])) f).1
 .rename_i op t x y S;obtain⟨g1,g2,_⟩:=A4v (w:=w) d (a (x:=x) (by simp[Op.operands])) (a (x:=y) (by simp[Op.operands])) f;exact fin (s:=do eqGuard op t x y (g x) (g y);binOp op t (g x) (g y)) g1 g2
 .rename_i xs tys;have l1:=dS (ρ:=ρ) (fr:=fr) (g:=g) (xs:=xs.toList) fun x hx=>a (by show x ∈ (#[]++xs:Array Operand).toList;simpa using hx)
  split at d
  .rename_i x t rest q u;rw[q]at l1;obtain⟨x',r1,G,I,C⟩:=l1.tail
   have:=C.nil_inv;subst this;obtain⟨g1,g2,_⟩:=A47 (w:=w) (ty:=ty) (tys:=rest) d I f;obtain⟨ks,B⟩:∃ ks,execOp g ⟨dst,.call ⟨.builtin .len,xs,tys⟩,ty,pos,L,J⟩=builtin .len tys ty ks (xs.map g):=⟨#[],rfl⟩;have F:xs.map g=⟨xs.toList.map g⟩:=by apply J5;simp
   have E:tys=⟨t::rest⟩:=by rw[<- u]
   rw[B,F,G,E];exact fin (s:=Builtin.len_ ⟨t::rest⟩ ty #[x']) g1 g2
  .cases d
 .rename_i xs tys;have l1:=dS (ρ:=ρ) (fr:=fr) (g:=g) (xs:=xs.toList) fun x hx=>a (by show x ∈ (#[]++xs:Array Operand).toList;simpa using hx)
  split at d
  .rename_i x y t t2 rest q u;rw[q]at l1;obtain⟨x',r1,G,I,C⟩:=l1.tail;obtain⟨y',T,O,R,Q⟩:=C.tail
   have:=Q.nil_inv;subst this
   have:=RO (ty:=ty) h D d A I R f;obtain⟨ks,B⟩:∃ ks,execOp g ⟨dst,.call ⟨.builtin .append,xs,tys⟩,ty,pos,L,J⟩=builtin .append tys ty ks (xs.map g):=⟨#[],rfl⟩;have F:xs.map g=⟨xs.toList.map g⟩:=by apply J5;simp
   have E:tys=⟨t::t2::rest⟩:=by rw[<- u]
   rw[B,F,G,O,E];have e:Builtin.append_ ⟨t::t2::rest⟩ ty #[x',y']=Builtin.append_ #[t,t2] ty #[x',y']:=rfl;refine NOk.of (s:=Builtin.append_ ⟨t::t2::rest⟩ ty #[x',y']) ?_;rw[e];exact this
  .cases d
 .cases d
def gS{wd o i t g:Nat}{z:Value}:∀ {ts:H9} {j:Nat} {m m':Mem} {r:D3},Y8 wd o i t z g ts j m=some (r,m')->m.lg.le m'.lg
 | [],j,m,m',r,h=>by cases h;exact .refl _
 | tg::ts,j,m,m',r,h=>by
   unfold Y8 at h;cases a:Nat.blt tg 10 with
   | true =>
     rw[a]at h;simp only[E6]at h;split at h
     .rename_i d;split at h
      .rename_i hr;cases h;exact(I5 d).trans (gS hr)
      .cases h
     .cases h
   | false =>
     rw[a]at h;simp only[E0]at h;rw[LZ]at h;split at h
     .rename_i hr;cases h;exact W9.trans (gS hr)
     .cases h
def FS{r:Option (D3×Mem)}(h:mX P t r=some (v,m')):∃ vs,r=some (vs,m'):=by
 unfold mX at h;split at h
 .cases h;exact⟨_,rfl⟩
 .cases h;exact⟨_,rfl⟩
 .cases h
def A1x(a:LY P m t x=some (v,m')):m.lg.le m'.lg:=by
 unfold LY at a;split at a
 .obtain⟨_,a⟩:=A3 a;obtain⟨vs,h⟩:=FS a;exact gS h
 .split at a
  .obtain⟨_,a⟩:=A3 a;obtain⟨vs,h⟩:=FS a;exact gS h
  .cases a
 .cases a
def WK(a:yR P m t x y=some (v,m')):m.lg.le m'.lg:=by
 unfold yR at a;split at a
 .cases d:jS y with
  | true=>rw[d]at a;cases a
  | false =>
    rw[d]at a;simp only[E0]at a;split at a
    .rename_i n;split at a
     .obtain⟨_,a⟩:=A3 a;split at a
      .rename_i q;rw[O4]at a;simp only[hole]at a;obtain⟨p,_⟩:=nY a;have md:=S8 V7 n;have f:=N6 q;refine md.2.1.trans ?_;rw[(V1 p).2,<- f.2.1];simp only[l5];exact⟨[_],rfl⟩
      .cases a
     .cases a
    .cases a
 .cases a
def A5F{t:Nat}{k:Value}(h:MJ m i t z k=some (v,m')):m.lg.le m'.lg:=by
 unfold MJ at h;cases a:!(Nat.blt (G8 z) 8)with
 | true=>rw[a]at h;cases h
 | false =>
   rw[a]at h;simp only[E0]at h;split at h
   .rename_i d;split at h
    .rename_i f;cases h;exact(I5 d).trans (fU f)
    .cases h
   .cases h
def MI(h:mL P m t x z=some (v,m')):m.lg.le m'.lg:=by
 unfold mL at h;split at h;all_goals first
  | (split at h
     .obtain⟨_,h⟩:=A3 h;exact A5F h
     .cases h;done)
  | (split at h
     .obtain⟨_,h⟩:=A3 h;rw[E9]at h;cases h;exact .refl _
     .cases h;done)
  | cases h
def MZ{f:Nat}(h:mP P m s x f=some (v,m')):m.lg.le m'.lg:=by
 unfold mP at h;split at h;all_goals first
  | (split at h
     .split at h
      .obtain⟨_,h⟩:=A3 h;rw[E9]at h;cases h;exact .refl _
      .cases h
     .cases h;done)
  | cases h
def IK{t:Nat}(a:NE m b i t cl lo hi mx=some (v,m')):m.lg.le m'.lg:=by
 have go:∀ {m1:Mem} {l h:Value} {cc:Bool},gV m1 b i t l h cc=some (v,m')->m1.lg.le m'.lg:=fun h=>by
  unfold gV at h;obtain⟨_,h⟩:=A3 h;rw[O4]at h;simp only[D6,L9]at h;obtain⟨_,rfl⟩:=h;exact W9
 unfold NE ND at a;split at a
 .exact go a
 .exact go (A3 a).2
 .split at a
  .rename_i d;exact(cG d).2.trans (go a)
  .cases a
 .cases a
def WN(a:yU P m t x lo hi mx=some (v,m')):m.lg.le m'.lg:=by
 unfold yU at a;split at a
 .split at a
  .exact IK (A3 a).2
  .cases a
 .split at a
  .exact IK (A3 a).2
  .cases a
 .split at a
  .obtain⟨_,a⟩:=A3 a;split at a
   .rename_i d;exact(iH d).2.1.trans (IK a)
   .cases a
  .cases a
 .cases a
def A3X(a:NJ P m s t x=some (v,m')):m.lg.le m'.lg:=by
 unfold NJ at a;split at a
 .split at a
  .split at a
   .exact I5 (A3 a).2
   .cases a
  .cases a
 .split at a
  .split at a
   .rename_i n;rw[MD]at a;have d:=I5 a;exact(iH n).2.1.trans d
   .cases a
  .cases a
 .obtain⟨_,a⟩:=A3 a;split at a
  .split at a
   .split at a
    .rename_i p;rw[O4]at a;simp only[hole]at a;have f:=N6 p;rw[(u9 a).2.1,l5,<- f.2.1];exact⟨[_],rfl⟩
    .cases a
   .cases a
  .cases a
 .cases a
def A4w{x y:Operand}{a b:Value}(f:A1i P m op t x y a b=some (v,m')):m.lg.le m'.lg:=by
 unfold A1i at f;split at f
 .obtain⟨_,d⟩:=A3 f;clear f;split at d
  .rename_i n;cases d;exact I5 n
  .rename_i n;exact(I5 n).trans (I5 d)
  .cases d
 .cases f
def A1u{l c:Value}(a:LT P m t l c=some (v,m')):m.lg.le m'.lg:=by
 unfold LT at a;split at a
 .obtain⟨_,a⟩:=A3 a;split at a
  .obtain⟨_,a⟩:=A3 a;split at a
   .obtain⟨_,a⟩:=A3 a;split at a
    .rename_i f;rw[O4]at a;simp only[hole]at a;have d:=N6 f;rw[(u9 a).2.1,l5,<- d.2.1];exact⟨[_],rfl⟩
    .cases a
   .cases a
  .cases a
 .cases a
def B0V{fr:Fr}{o:Op}(a:dsM P fr m o=some (v,m')):m.lg.le m'.lg:=by
 unfold dsM at a;split at a
 .exact A1u a
 .exact A1x a
 .exact WK a
 .exact MI a
 .exact MZ a
 .exact WN a
 .exact A3X a
 .exact A4w a
 .split at a
  .unfold A48 at a;split at a
   .exact(cG a).2
   .exact(cG a).2
   .exact(cG a).2
   .cases a
  .cases a
 .split at a
  .exact(IX a).2.1
  .cases a
 .cases a
end
end
end Go.Sx
