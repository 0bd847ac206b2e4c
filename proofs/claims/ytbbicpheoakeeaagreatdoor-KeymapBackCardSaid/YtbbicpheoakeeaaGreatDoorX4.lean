import Derived.Test.YtbbicpheoakeeaaGreatDoorX3
set_option linter.all false
set_option maxRecDepth 100000
set_option maxHeartbeats 4000000
namespace Go.Sx
variable {rows rows2:List (List U)}{b c cap g i j k o o' sh wd:Nat}{e s t t2 ty:TypeId}{inf:TypeInfo}{fz:Nat×Nat}{b' c' l' v x x' y y' z:Value}{l:Loc}{g0 gs:H1}{cl nul sure:Bool}{d2 ds:TypeDesc}{bh:Beh}{cs cs' new' vs:D2}{td:Td}{row us:List U}{hi lo mx:Q6}{op:BinOp}
section
open Go
variable [Ora]
section
variable {P:Program} {base:Nat} {ρ ρ':Ren} {m m':Mem} {w w':World}
def P1.move{R:Nat->Option Obj}{C C':V9}(h:P1 R rows wd C o)(p:∀ i,i<rows.length*wd->C'[o'+i]? = C[o+i]?):P1 R rows wd C' o':=by
 refine⟨h.1,fun r row j u v a a2 a3=>h.2 r row j u v a a2 ?_⟩;have d:=(B0.1 a).1;have f:=(B0.1 a2).1;rw[h.1 _ (D0 a)]at f;have n:(r+1)*wd<=rows.length*wd:=F6 wd d;rw[H5]at n
 have:=p (r*wd+j) A2;rw[show o+r*wd+j=o+(r*wd+j) by omega,<- this,show o'+(r*wd+j)=o'+r*wd+j by omega];exact a3
def P1.append{R:Nat->Option Obj}{C:V9}(h:P1 R rows wd C o)(k:P1 R rows2 wd C (o+rows.length*wd)):P1 R (rows++rows2) wd C o:=by
 refine⟨fun row hr=>(B5.1 hr).elim (h.1 row) (k.1 row),fun r row j u v a a2 a3=>?_⟩;rcases F7 r rows.length with d|d
 .rw[F2 d]at a;exact h.2 r row j u v a a2 a3
 .rw[E0 d]at a;refine k.2 (r-rows.length) row j u v a a2 ?_;have:rows.length*wd+(r-rows.length)*wd=r*wd:=by rw[<- H5];congr 1;omega
  rw[show o+rows.length*wd+(r-rows.length)*wd+j=o+r*wd+j by omega];exact a3
def A8j{t:Nat}{T:TypeId}{lg:Loc}{C:V9}(q:Ora.env c=.seq false wd rows)(u:t=10+wd)(hi:P.info? T=some inf)(r:inf.size=wd)(f:rows.length<=cap)(d:sh+cap*wd<=C.size)
  (a:P1 lg.G rows wd C sh) (p:ρ g=some lg) (hw:w.heap[b]? = some (.cells C T fz)) (n:∀ i,i<C.size->¬ (fz.1<=i/\i<fz.2)):BR P ρ (.sq c t T g false) ⟨b,sh,cap,rows.length,fun _=>none,true⟩ w :=
 ⟨⟨wd,inf,u,hi,r,.inr ⟨rfl,C,fz,T,rows,lg,hw,q,rfl,f,d,a.1,p,a.2,fun _=>⟨rfl,n⟩⟩⟩⟩
def cD{t:Nat}{T:TypeId}{lg:Loc}{C:V9}(h:HR P base ρ m.H w)(D:base<=w.heap.size)(u:bA m c t T g=some (v,m'))(A:K1 ρ m.n m'.hi)
  (r:Ora.env c=.seq false wd rows) (B:t=10+wd) (hi:P.info? T=some inf) (K:inf.size=wd) (a:rows.length<=cap) (p:cap*wd<=C.size) (f:P1 lg.G rows wd C 0) (E:ρ g=some lg) (q:∀ i,i<C.size->¬ (fz.1<=i/\i<fz.2))
  (F:w'.os=w.os/\w'.tape=w.tape/\w'.output=w.output) (hh:w'.heap=w.heap.push (.cells C T fz)):∃ ρ',VR ρ' v (.slice (some ⟨w.heap.size,0,none⟩) rows.length cap)/\St P base ρ ρ' m m' w w':=by
 have d:ρ m.n=none:=by
  obtain⟨_,_,rfl⟩:=L6 u;exact A m.n (A6 _) (L1 _ _).2
 obtain⟨rfl,I,J⟩:=St.alloc (w':=w') (l:=⟨w.heap.size,0,cap,rows.length,fun _=>none,true⟩) h D u A F hh rfl (A8j r B hi K a A2 f (W9 d _ _ E) (by rw[hh];simp) q);exact⟨_,.own (.inr ⟨_,wd,rows,I,rfl,r,rfl,a,rfl⟩) (by rw[r];exact B.symm) rfl,J⟩
def oH{t id:Nat}{T:TypeId}{ab:AB}{lg:Loc}{C:V9}(h:HR P base ρ m.H w)(hle:id<=H6)(F:Hp.get m.H id=some ab)(B:ab.rw=true)(R:ρ id=some l)(r:l.on=true)
  (I:bA (jS m id) c t T g=some (v,m')) (J:K1 ρ m.n m'.hi)
  (E:Ora.env c=.seq false wd rows) (K:t=10+wd) (hi:P.info? T=some inf) (S:inf.size=wd) (a:rows.length<=cap) (f:sh+cap*wd<=C.size) (p:P1 lg.G rows wd C sh) (L:ρ g=some lg) (D:∀ i,i<C.size->¬ (fz.1<=i/\i<fz.2))
  (M:w'.os=w.os/\w'.tape=w.tape/\w'.output=w.output) (A:w'.heap.size=w.heap.size) (Q:∀ k,k≠l.blk->w'.heap[k]? = w.heap[k]?) (hw:w'.heap[l.blk]? = some (.cells C T fz)) :
  ∃ ρ',VR ρ' v (.slice (some ⟨l.blk,sh,none⟩) rows.length cap)/\St P base ρ ρ' m m' w w':=by
 have d:ρ m.n=none:=by
  have q:=I;unfold bA at q;rw[i7]at q;obtain⟨_,_,rfl⟩:=L6 q;exact J m.n (A6 _) (L1 _ _).2
 obtain⟨rfl,N,O⟩:=St.move (w':=w') (l':=⟨l.blk,sh,cap,rows.length,fun _=>none,true⟩) h hle F B R I J (fun _=>⟨r,rfl⟩) M A (fun k u=>Q k (u r)) (A8j E K hi S a f p (W9 d _ _ L) hw D) (fun h=>by cases h);exact⟨_,.own (.inr ⟨_,wd,rows,N,rfl,E,rfl,a,rfl⟩) (by rw[E];exact K.symm) rfl,O⟩
def A7b:Loc:=⟨0,0,0,0,fun _=>none,false⟩
def CN{t:Nat}{T:TypeId}{old:Option Nat}(h:HR P base ρ m.H w)(hold:∀ b,old=some b->∃ ab l,b<=H6/\Hp.get m.H b=some ab/\ab.rw=true/\ρ b=some l/\l.on=false)
  (A:bA (jR old m) c t T g=some (v,m')) (B:K1 ρ m.n m'.hi) (d:Ora.env c=.seq true wd []) (u:t=10+wd) (hi:P.info? T=some inf) (E:inf.size=wd):∃ ρ',VR ρ' v (.slice none 0 0)/\St P base ρ ρ' m m' w w:=by
 have a:∀ ρ':Ren,BR P ρ' (.sq c t T g false) A7b w:=fun ρ'=>⟨⟨wd,inf,u,hi,E,.inl ⟨rfl,d⟩⟩⟩
 cases old with
 | none =>
   obtain⟨rfl,p,r⟩:=St.new0 (l':=A7b) h A B (a _) rfl fun q f=>by
    rcases f with⟨_,f,_⟩|⟨f,_⟩<;>cases f
   exact⟨_,.own (.inl ⟨_,wd,p,rfl,d,rfl⟩) (by rw[d];exact u.symm) rfl,r⟩
 | some b =>
   obtain⟨ab,l,h1,C,h3,D,F⟩:=hold b rfl;obtain⟨rfl,p,r⟩:=St.move (w':=w) (l':=A7b) h h1 C h3 D A B (fun h=>by cases h) ⟨rfl,rfl,rfl⟩ rfl (fun _ _=>rfl) (a _) (fun h=>by cases h);exact⟨_,.own (.inl ⟨_,wd,p,rfl,d,rfl⟩) (by rw[d];exact u.symm) rfl,r⟩
def tE(h:HR P base ρ m.H w)(a:jT gs m=some (g,m'))(q:K1 ρ m.n m'.hi)(d:ρ j=some l):Hp.get m'.H j=Hp.get m.H j:=by
 have main:∀ {gs:H1},(bif gs.all (oK m)then match gG m fun b m=>some (undef,b,m)with
  | some (_,b,m)=>some (b,m)
  | none=>none else none)=some (g,m')->Hp.get m'.H j=Hp.get m.H j:=fun{gs} a=>by
  obtain⟨h1,a⟩:=A3 a;split at a
  .rename_i r b m1 p;cases a;obtain⟨m2,f,u,_⟩:=Q8 p;cases u;rw[lG f (h.dom j l d),A7];intro e;subst e;obtain⟨_,_,rfl⟩:=L6 f;rw[q m.n (A6 _) (L1 _ _).2]at d;cases d
  .cases a
 unfold jT at a;split at a
 .obtain⟨h1,a⟩:=A3 a;cases a;rfl
 .exact main a
def N2(a:jT gs m=some (g,m')):m.hi<=m'.hi/\m'.lg=m.lg/\m.n<=m'.n:=by
 have main:∀ {gs:H1},(bif gs.all (oK m)then match gG m fun b m=>some (undef,b,m)with
  | some (_,b,m)=>some (b,m)
  | none=>none else none)=some (g,m')->m.hi<=m'.hi/\m'.lg=m.lg/\m.n<=m'.n:=fun{gs} a=>by
  obtain⟨h1,a⟩:=A3 a;split at a
  .rename_i r b m1 d;cases a;obtain⟨m2,p,f,_⟩:=Q8 d;cases f;obtain⟨_,_,rfl⟩:=L6 p;exact⟨(L1 _ _).1,rfl,W7 _⟩
  .cases a
 unfold jT at a;split at a
 .obtain⟨h1,a⟩:=A3 a;cases a;exact⟨A6 _,rfl,A6 _⟩
 .exact main a
def B1t(nul:Bool)(wd:Nat)(rows:List (List U)):List (List U)->U
 | []=>.seq nul wd rows
 | r0::r=>.seq false wd (rows++r0::r)
def LP(h:∃ n w r,mB nul wd rows rows2=.seq n w r):rows.length+rows2.length<=sK/\mB nul wd rows rows2=B1t nul wd rows rows2:=by
 by_cases a:rows.length+rows2.length<=sK
 .refine⟨a,?_⟩;unfold mB;rw[A9 a];cases rows2<;>rfl
 .unfold mB at h;rw[A7 a]at h;obtain⟨_,_,_,h⟩:=h;cases h
def QS{old:Option Nat} 
  (hu:P.underlying t=some (.slice e)) (X:P.underlying t2=some d2) (V:cT d2=true) (hi:P.info? e=some inf) (hz:fJ P e=some z) (bw:z.cells.size=inf.size) (bt:inf.bytes<=90000)
  (h:HR P base ρ m.H w) (hb:base<=w.heap.size) (E:JF m e inf.size c old bh (g0++gs)=some (v,m')) (hf:K1 ρ m.n m'.hi) (hS:Sat m'.lg)
  (aq:A2Z P base ρ m w e inf.size c g0 old x') (d:VO P ρ w inf.size bh gs y' rows2 new'):VOk P base ρ m w (Builtin.append_ #[t,t2] ty #[x',y']) v m':=by
 unfold JF at E;split at E
 .rename_i g m1 hj;rw[N9]at E;have bn:=N2 hj;generalize bj:fF m1 (10+inf.size) (dA inf.size (hole c (10+inf.size)) bh).1 (dA inf.size (hole c (10+inf.size)) bh).2=lg1 at E;have bu:m'.lg=lg1/\m1.hi<=m'.hi/\m1.n<=m'.n:=by
   unfold bA at E;cases old with
   | none =>
     simp only[jR]at E;obtain⟨_,_,rfl⟩:=L6 E;exact⟨by simp,by simpa using(L1 m1.hi m1.n).1,by simp⟩
   | some b =>
     simp only[jR,i7]at E;obtain⟨_,_,rfl⟩:=L6 E;exact⟨by simp,by simpa using(L1 m1.hi m1.n).1,by simp⟩
  have al:K1 ρ m.n m1.hi:=hf.less bu.2.1;obtain⟨M,lg,e1,e2,e3,e4,e5,e6⟩:=eP h hj al;have q:St P base ρ M m (m1.wLg lg1) w w:=St.trans (by simpa using al) e1 (St.wLg e1.hr lg1);have J:K1 M (m1.wLg lg1).n m'.hi:=by simpa using hf.step e1
  have bk:Sat (m1.wLg lg1).lg:=by simpa [<- bu.1]using hS
  obtain⟨nul,rows,hc,hx⟩:=aq.ex;obtain⟨d1,d2,nx,bl,rws,d3,d4⟩:=jV (m:=m1) (t:=10+inf.size) (op:=(dA inf.size (hole c (10+inf.size)) bh).1) (xs:=(dA inf.size (hole c (10+inf.size)) bh).2) (lg:=lg1) (by simpa using bk) (by rw[d7,bj];exact .refl _);rw[d.ev c nul rows hc]at d1;obtain⟨ar,bz⟩:=LP ⟨nx,bl,rws,d1.symm.trans d3⟩;rw[bz]at d1;have bq:∀ b ∈ g0,∀ l,ρ b=some l->Sub l.G lg.G:=fun b T l hl=>e6 b (B5.2 (.inl T)) l hl
  have br:∀ b ∈ gs,∀ l,ρ b=some l->Sub l.G lg.G:=fun b T l hl=>e6 b (B5.2 (.inr T)) l hl
  have aj:=d.rows lg.G br;have B:∀ {v':Value} {ρ2:Ren} {w2:World},(Builtin.append_ #[t,t2] ty #[x',y']).run P w=.ok v' w2->VR ρ2 v v'->St P base M ρ2 (m1.wLg lg1) m' w w2->VOk P base ρ m w (Builtin.append_ #[t,t2] ty #[x',y']) v m':=fun hr hv hs =>
   ⟨_,_,_,hr,hv,St.trans hf q hs⟩
  have af:∀ w,(zeroValue e).run P w=.ok z w:=fun w=>v7 hz w
  have ax:∀ {j l},ρ j=some l->Hp.get (m1.wLg lg1).H j=Hp.get m.H j:=fun bo=>by rw[kM];exact tE h hj al bo
  have K:(3*(rows.length+rows2.length)+4000)*inf.bytes<=281474976710656:=by
   have h1:3*(rows.length+rows2.length)+4000<=3000004000:=by unfold sK at ar;omega
   have h2:=fA h1 bt;omega
  have W:rows.length+rows2.length<=1000000000:=ar;rcases hx with⟨rfl,rfl,rfl,hold⟩|⟨rfl,b,ab,l,cap,C,fz,rfl,ao,bs,Z,aa,ai,rfl,F,av,R,Q,ah⟩
  ·
   have Y:∀ b,old=some b->∃ ab l,b<=H6/\Hp.get (m1.wLg lg1).H b=some ab/\ab.rw=true/\M b=some l/\l.on=false:=fun b T=>by
    obtain⟨ab,l,I,N,q3,q4,q5⟩:=hold b T;exact⟨ab,l,I,by rw[ax q4];exact N,q3,e1.ext _ _ q4,q5⟩
   cases f:rows2 with
   | nil =>
     subst f;have D:Ora.env m1.lg.nx=.seq true inf.size []:=d1;obtain⟨ρ2,I,N⟩:=CN q.hr Y E J D rfl hi rfl;have an:new'=[]:=F8.1 (by rw[d.size];simp);exact B (uH hu X V hi (fun wd=>d.len wd) (by have:=d.first w rfl;rw[an]at this;exact this)) I N
   | cons r0 rr =>
     rw[f]at d1;have D:Ora.env m1.lg.nx=.seq false inf.size rows2:=by rw[f];exact d1
     obtain⟨nc,az,p⟩:=gY (P:=P) (w:=w) (ty:=ty) (a:=none) (n:=0) (c:=0) (k:=rows2.length) (old':=[]) (new':=new') (x':=y') hu X V hi af (fun wd=>d.len wd) (fun _ _=>rfl) (fun wd hw=>d.first wd hw) (by rw[f];simp) (by simpa using K) (by simpa using W);obtain⟨m2,bm,ay⟩:∃ m2,bA m2 m1.lg.nx (10+inf.size) e g=some (v,m')/\St P base M M (m1.wLg lg1) m2 w w:=by
      cases old with
      | none=>exact⟨_,E,St.refl q.hr⟩
      | some b =>
        obtain⟨ab,l,I,N,q3,q4,q5⟩:=Y b rfl;exact⟨_,E,St.kill q.hr I N q3⟩
     obtain⟨ρ2,I,N⟩:=cD (w':={ w.drew with heap:=w.heap.push (.cells (({ toList:=[] }:Array Value)++⟨new'⟩++Builtin.zeroCells z.cells (nc-(0+rows2.length))) e (0,0)) }) (cap:=nc) ay.hr hb bm (J.step ay) D rfl hi rfl A2
      (by have:=dV (s:=inf.size) (k:=rows2.length) (n:=0) (nc:=nc) (z:=z) (old':=[]) d.size az bw (by simp);exact this)
      (aj.move (C':=({ toList:=[] }:Array Value)++⟨new'⟩++Builtin.zeroCells z.cells (nc-(0+rows2.length))) (o':=0) fun i hi'=>by
        have ad:i<new'.length:=by rw[d.size];exact hi'
        rw[F4 i];rw[KR (A5 ad)];simp[ad]) (ay.ext _ _ e4) (fun i _ hh=>by have h1:0<=i:=hh.1;have h2:i<0:=hh.2;omega) ⟨rfl,rfl,rfl⟩ rfl
     exact B p (by rw[F4];exact I) (St.trans J ay N)
  ·
   have ak:Hp.get (m1.wLg lg1).H b=some ab:=by rw[ax aa];exact bs
   have r:=ah lg.G bq;have aw:=e1.ext _ _ aa;cases f:rows2 with
   | nil =>
     subst f;have D:Ora.env m1.lg.nx=.seq false inf.size rows:=d1;have an:new'=[]:=F8.1 (by rw[d.size];simp);obtain⟨ρ2,I,N⟩:=oH (w':=w) (cap:=cap) (sh:=l.sh) q.hr ao ak Z aw ai E J D rfl hi rfl av R r e4 Q ⟨rfl,rfl,rfl⟩ rfl (fun _ _=>rfl) F;have p:=mU (P:=P) (w:=w) (w':=w) (ty:=ty) (a:=⟨l.blk,l.sh,none⟩) (n:=rows.length) (k:=0) (c:=cap) (new':=new') hu X V hi (fun wd=>d.len wd) (d.first w rfl) A2 (by rw[an];rfl);exact B p I N
   | cons r0 rr =>
     have D:Ora.env m1.lg.nx=.seq false inf.size (rows++rows2):=by rw[f]at d1 ⊢;exact d1
     by_cases L:rows.length+rows2.length<=cap
     .have au:(rows.length+rows2.length)*inf.size<=cap*inf.size:=F6 _ L;rw[H5]at au;obtain⟨w',r1,r2,r3,r4,r5⟩:=Z1 (P:=P) (b:=l.blk) (o:=rows.length*inf.size+l.sh) (fz:=fz) new' 0 C w F d.flat (by rw[d.size];omega) Q;have ag:(Addr.mk l.blk l.sh none).add (rows.length*inf.size)=⟨l.blk,rows.length*inf.size+l.sh,none⟩:=by
       unfold Addr.add;split
       .rename_i h0;rw[h0];simp
       .simp[jK]
      have p:=mU (P:=P) (w:=w) (w':=w') (ty:=ty) (a:=⟨l.blk,l.sh,none⟩) (n:=rows.length) (k:=rows2.length) (c:=cap) (new':=new') hu X V hi (fun wd=>d.len wd) (d.first w rfl) L (by rw[ag];exact r1);have S:(Array.mk (cB C.toList (rows.length*inf.size+l.sh+0) new')).size=C.size:=by simp[Z2]
      have ae:∀ j,(Array.mk (cB C.toList (rows.length*inf.size+l.sh+0) new'))[j]? = if rows.length*inf.size+l.sh<=j/\j<rows.length*inf.size+l.sh+new'.length then new'[j-(rows.length*inf.size+l.sh)]? else C[j]? := fun j=>by
       rw[I8,lD _ _ _ _ (by simp;rw[d.size];omega)];simp
      obtain⟨ρ2,I,N⟩:=oH (w':=w') (cap:=cap) (sh:=l.sh) (C:=⟨cB C.toList (rows.length*inf.size+l.sh+0) new'⟩) q.hr ao ak Z aw ai E J D rfl hi rfl (by simpa using L) (by rw[S];exact R)
       (P1.append (r.move (o':=l.sh) fun i hi'=>by rw[ae,A7 A2]) (aj.move (o':=l.sh+rows.length*inf.size) fun i hi'=>by
         rw[ae,A9 (by rw[d.size];omega),show l.sh+rows.length*inf.size+i-(rows.length*inf.size+l.sh)=i by omega,F4];simp)) e4 (by rw[S];exact Q) r2 r3 r5 r4
      rw[B8]at I;exact B p I N
     .have hold:∃ old',old'.length=rows.length*inf.size/\(∀ i,i<rows.length*inf.size->old'[i]? = C[l.sh+i]?)/\∀ wd:World,wd.heap=w.heap->(Builtin.firstCells inf.size rows.length (.slice (some ⟨l.blk,l.sh,none⟩) rows.length cap)).run P wd=.ok ⟨old'⟩ wd:=by
       have au:rows.length*inf.size<=cap*inf.size:=F6 _ av;have hlen:((C.toList.drop l.sh).take (rows.length*inf.size)).length=rows.length*inf.size:=by simp;omega
       refine⟨(C.toList.drop l.sh).take (rows.length*inf.size),hlen,fun i hi'=>?_,fun wd hw=>?_⟩
       .rw[E8 hi',H8];simp
       .rw[show Builtin.firstCells inf.size rows.length (.slice (some ⟨l.blk,l.sh,none⟩) rows.length cap)=loadCells ⟨l.blk,l.sh,none⟩ (rows.length*inf.size)from rfl];refine K2 hlen fun j v' hj=>?_
        have bx:=(B0.1 hj).1;rw[hlen]at bx;rw[E8 bx,H8]at hj;rw[bM hw];have bp:C[l.sh+j]? = some v':=by simpa using hj
        simp[World.cell?,F,bp]
      obtain⟨old',o1,o2,o3⟩:=hold;obtain⟨nc,az,p⟩:=gY (P:=P) (w:=w) (ty:=ty) (a:=some ⟨l.blk,l.sh,none⟩) (n:=rows.length) (c:=cap) (k:=rows2.length) (old':=old') (new':=new') (x':=y') hu X V hi af (fun wd=>d.len wd) o3 (fun wd hw=>d.first wd hw) L K W;have A:=St.kill q.hr ao ak Z;obtain⟨ρ2,I,N⟩:=cD (w':={ w.drew with heap:=w.heap.push (.cells (({ toList:=old' }:Array Value)++⟨new'⟩++Builtin.zeroCells z.cells (nc-(rows.length+rows2.length))) e (0,0)) }) (cap:=nc) A.hr hb E (J.step A) D rfl hi rfl (by simpa using az)
       (dV d.size az bw o1)
       (P1.append (r.move (C':=({ toList:=old' }:Array Value)++⟨new'⟩++Builtin.zeroCells z.cells (nc-(rows.length+rows2.length))) (o':=0) fun i hi'=>by
         have O:i<old'.length:=by rw[o1];exact hi'
         rw[F4 i,<- o2 i hi',dW (u:=old'[i]) (by rw[F2 O,A5 O]),A5 O]) (aj.move (o':=0+rows.length*inf.size) fun i hi'=>by
         have O:i<new'.length:=by rw[d.size];exact hi'
         rw[F4 (rows.length*inf.size),F4 i,dW (u:=new'[i]) (by rw[E0 (by rw[o1];omega),o1,W3,A5 O])];simp[O])) (A.ext _ _ e4) (fun i _ hh=>by have h1:0<=i:=hh.1;have h2:i<0:=hh.2;omega) ⟨rfl,rfl,rfl⟩ rfl
      rw[B8]at I;exact B p I (St.trans J A N)
 .cases E
end
end
section
open Go
variable [Ora]
section
variable {P:Program} {base:Nat} {ρ ρ':Ren} {m m':Mem} {w w':World}
def A26{a:Addr} 
  (hu:P.underlying t=some (.slice e)) (ax:P.underlying t2=some d2) (az:cT d2=true) (hi:P.info? e=some inf) (hz:fJ P e=some z) (ar:z.cells.size=inf.size) (Q:inf.bytes<=90000)
  (h:HR P base ρ m.H w) (hb:base<=w.heap.size) (q:JF m e inf.size c none bh (b::gs)=some (v,m')) (T:K1 ρ m.n m'.hi) (hS:Sat m'.lg)
  (hc:Ora.env c=.seq false inf.size rows) (W:ρ b=some l) (B:Enc l.G (Ora.env c) (.slice (some a) rows.length rows.length)) (d:VO P ρ w inf.size bh gs y' rows2 new') (p:rows2≠[]) :
  VOk P base ρ m w (Builtin.append_ #[t,t2] ty #[.slice (some a) rows.length rows.length,y']) v m':=by
 unfold JF at q;split at q
 .rename_i g m1 N;rw[N9]at q;have V:=N2 N;generalize av:fF m1 (10+inf.size) (dA inf.size (hole c (10+inf.size)) bh).1 (dA inf.size (hole c (10+inf.size)) bh).2=lg1 at q;have q:bA (m1.wLg lg1) m1.lg.nx (10+inf.size) e g=some (v,m'):=q;have M:m'.lg=lg1/\m1.hi<=m'.hi/\m1.n<=m'.n:=by
   unfold bA at q;obtain⟨_,_,rfl⟩:=L6 q;exact⟨by simp,by simpa using(L1 m1.hi m1.n).1,by simp⟩
  have J:K1 ρ m.n m1.hi:=T.less M.2.1;obtain⟨E,lg,O,e2,e3,e4,e5,e6⟩:=eP h N J;have C:St P base ρ E m (m1.wLg lg1) w w:=St.trans (by simpa using J) O (St.wLg O.hr lg1);have aq:K1 E (m1.wLg lg1).n m'.hi:=by simpa using T.step O
  have ay:Sat (m1.wLg lg1).lg:=by simpa [<- M.1]using hS
  obtain⟨d1,d2,nx,Z,rws,d3,d4⟩:=jV (m:=m1) (t:=10+inf.size) (op:=(dA inf.size (hole c (10+inf.size)) bh).1) (xs:=(dA inf.size (hole c (10+inf.size)) bh).2) (lg:=lg1) (by simpa using ay) (by rw[d7,av];exact .refl _);rw[d.ev c false rows hc]at d1;obtain⟨A,L⟩:=LP ⟨nx,Z,rws,d1.symm.trans d3⟩;rw[L]at d1;have S:Sub l.G lg.G:=e6 b (.head _) l W;have R:∀ b ∈ gs,∀ l,ρ b=some l->Sub l.G lg.G:=fun b Y l W=>e6 b (.tail _ Y) l W
  have aw:=d.rows lg.G R;have X:∀ w,(zeroValue e).run P w=.ok z w:=fun w=>v7 hz w
  have r:(3*(rows.length+rows2.length)+4000)*inf.bytes<=281474976710656:=by
   have h1:3*(rows.length+rows2.length)+4000<=3000004000:=by unfold sK at A;omega
   have h2:=fA h1 Q;omega
  have D:rows.length+rows2.length<=1000000000:=A;have ao:0<rows2.length:=dD.2 p;have au:Ora.env m1.lg.nx=.seq false inf.size (rows++rows2):=by
   cases rows2 with
   | nil=>exact absurd rfl p
   | cons r0 rr=>exact d1
  rw[hc]at B;obtain⟨_,old',K,o2,o3,o4⟩:=tR (w:=w) (B.mono S) ((O.hr.atl e4 e5).1.2);have o5:∀ wd:World,wd.heap=w.heap->(Builtin.firstCells inf.size rows.length (.slice (some a) rows.length rows.length)).run P wd=.ok ⟨old'⟩ wd:=fun wd hw=>by
   rw[show Builtin.firstCells inf.size rows.length (.slice (some a) rows.length rows.length)=loadCells a (rows.length*inf.size)from rfl];exact lN K fun j v' N=>by rw[bM hw];exact o4 j v' N
  obtain⟨nc,F,I⟩:=gY (P:=P) (w:=w) (ty:=ty) (a:=some a) (n:=rows.length) (c:=rows.length) (k:=rows2.length) (old':=old') (new':=new') (x':=y') hu ax az hi X (fun wd=>d.len wd) o5 (fun wd hw=>d.first wd hw) A2 r D;obtain⟨ρ2,q1,q2⟩:=cD (w':={ w.drew with heap:=w.heap.push (.cells (({ toList:=old' }:Array Value)++⟨new'⟩++Builtin.zeroCells z.cells (nc-(rows.length+rows2.length))) e (0,0)) }) (cap:=nc) C.hr hb q aq au rfl hi rfl (by simpa using F)
   (dV d.size F ar K)
   (P1.append (o3.move (C':=({ toList:=old' }:Array Value)++⟨new'⟩++Builtin.zeroCells z.cells (nc-(rows.length+rows2.length))) (o':=0) fun i hi'=>by
     have f:i<old'.length:=by rw[K];exact hi'
     rw[F4 i,dW (u:=old'[i]) (by rw[F2 f,A5 f])];simp[f]) (aw.move (o':=0+rows.length*inf.size) fun i hi'=>by
     have f:i<new'.length:=by rw[d.size];exact hi'
     rw[F4 (rows.length*inf.size),F4 i,dW (u:=new'[i]) (by rw[E0 (by rw[K];omega),K,W3,A5 f])];simp[f])) e4 (fun i _ hh=>by have h1:0<=i:=hh.1;have h2:i<0:=hh.2;omega) ⟨rfl,rfl,rfl⟩ rfl
  rw[B8]at q1;exact⟨_,_,_,I,q1,St.trans T C q2⟩
 .cases q
def VL(d:AK P td)(a:A2B td P m e wd y=some (bh,gs,sure,m')):m.hi<=m'.hi/\m.lg.le m'.lg/\m.n<=m'.n:=by
 unfold A2B at a;split at a
 .cases a;exact⟨A6 _,.refl _,A6 _⟩
 .split at a
  .split at a
   .rename_i f;cases a;exact S1 d f
   .cases a
  .cases a
 .split at a
  .rename_i f;cases a;exact d.mono f
  .cases a
 .obtain⟨h1,a⟩:=A3 a;cases a;exact⟨A6 _,.refl _,A6 _⟩
def jC(d:AK P td){old:Option Nat}(a:DY td P m e wd x=some (c,gs,old,m')):m.hi<=m'.hi/\m.lg.le m'.lg/\m.n<=m'.n:=by
 unfold DY at a;split at a
 .rw[N9]at a;simp only[hole]at a;cases a;exact⟨by simp,V7,by simp⟩
 .split at a
  .obtain⟨h1,a⟩:=A3 a;cases a;exact⟨A6 _,.refl _,A6 _⟩
  .cases a
 .split at a
  .obtain⟨h1,a⟩:=A3 a;split at a
   .rename_i f;split at a
    .obtain⟨h1,a⟩:=A3 a;rw[N9]at a;simp only[hole]at a;cases a
     have:=S1 d f;exact⟨by simpa using this.1,this.2.1.trans V7,by simpa using this.2.2⟩
    .cases a
   .cases a
  .cases a
 .cases a
def m9{t:Nat}{T:TypeId}(h:bA m c t T g=some (v,m')):m.hi<=m'.hi/\m'.lg=m.lg/\m.n<=m'.n:=by
 unfold bA at h;obtain⟨_,_,rfl⟩:=L6 h;exact⟨(L1 _ _).1,rfl,W7 _⟩
def bK(old:Option Nat)(m:Mem):(jR old m).hi=m.hi/\(jR old m).lg=m.lg/\(jR old m).n=m.n:=by
 cases old with
 | none=>exact⟨rfl,rfl,rfl⟩
 | some b=>simp[jR,i7]
def mW{old:Option Nat}(d:JF m e wd c old bh gs=some (v,m')):m.hi<=m'.hi/\m.lg.le m'.lg/\m.n<=m'.n:=by
 unfold JF at d;split at d
 .rename_i g m1 f;rw[N9]at d;have a:=N2 f;have b:=m9 d;obtain⟨p,r,q⟩:=bK old (m1.wLg (fF m1 (10+wd) (dA wd (hole c (10+wd)) bh).1 (dA wd (hole c (10+wd)) bh).2));refine⟨?_,?_,?_⟩
  .have:=b.1;rw[p]at this;simp at this;omega
  .rw[b.2.1,r,<- a.2.1];exact V7
  .have:=b.2.2;rw[q]at this;simp at this;omega
 .cases d
def NY{t:Nat}{T:TypeId}{old:Option Nat}(h:HR P base ρ m.H w)(hold:∀ b,old=some b->b<=H6/\Hp.get m.H b≠some .frz)(f:bA (jR old m) c t T g=some (v,m'))(r:K1 ρ m.n m'.hi):j9 ρ m m':=fun j l h1 a=>by
 have p:=bK old m;unfold bA at f;rw[lG f (h.dom j l h1),A7]
 .cases old with
  | none=>exact a
  | some b =>
    show Hp.get (jS m b).H j=_;rw[i7];show Hp.get (m.H.set b none) j=_;obtain⟨q,d⟩:=hold b rfl;rw[F0 _ _ _ _ q (h.dom j l h1),A7]
    .exact a
    .intro e;subst e;exact d a
 .intro e;obtain⟨_,_,rfl⟩:=L6 f;rw[p.2.2]at e;subst e;rw[r m.n (A6 _) (Nat.lt_of_le_of_lt (Nat.le_of_eq p.2.2.symm) (L1 (jR old m).hi (jR old m).n).2)]at h1;cases h1
omit [Ora] in
def NG(h:P.info? e=some inf):G9 P e=some inf.size:=by unfold G9;rw[h]
def CK(f:AK P td)(d:UN td P m e wd x=some (v,m')):m.hi<=m'.hi/\m.lg.le m'.lg/\m.n<=m'.n:=by
 unfold UN at d;split at d
 .obtain⟨_,d⟩:=A3 d;split at d
  .rename_i q;have a:=jC f q;split at d
   .rename_i p;have b:=N2 p;have c:=m9 d;refine⟨?_,?_,?_⟩
    .have:=c.1;rw[(bK _ _).1]at this;omega
    .rw[c.2.1,(bK _ _).2.1,b.2.1];exact a.2.1
    .have:=c.2.2;rw[(bK _ _).2.2]at this;omega
   .cases d
  .cases d
 .cases d
def QX(V:AK P td)(h:HR P base ρ m.H w)(d:UN td P m e wd x=some (v,m'))(Z:K1 ρ m.n m'.hi)(hx:VR ρ x x')(hS:Sat m'.lg) :
  ∃ ρ',VR ρ' v x'/\St P base ρ ρ' m m' w w/\m.lg.le m'.lg/\j9 ρ m m':=by
 unfold UN at d;split at d
 .rename_i inf hi;obtain⟨h1,d⟩:=A3 d;obtain⟨h1,h2⟩:=B6 h1;have h1:=A0 h1;have h2:0<wd:=A1 h2;split at d
  .rename_i c gs old m1 N;have a:=jC V N;split at d
   .rename_i g m2 hj;have b:=N2 hj;have cm:=m9 d;have k1:=bK old m2;have X:m'.lg=m1.lg:=by rw[cm.2.1,k1.2.1,b.2.1]
    have F:m2.hi<=m'.hi:=by have:=cm.1;rw[k1.1]at this;exact this
    obtain⟨O,E,e2,e3,e4⟩:=MA V h N (Z.less (C5 b.1 F)) hx (by rw[<- X];exact hS) h2 (h1▸NG hi);have f:K1 O m1.n m'.hi:=Z.step E;obtain⟨ρ2,lg,u,j2,j3,j4,j5,j6⟩:=eP E.hr hj (f.less F);have M:K1 ρ2 m2.n m'.hi:=f.step u;obtain⟨nul,rows,hc,ax⟩:=e4.ex;have A:∀ {j l},O j=some l->Hp.get m2.H j=Hp.get m1.H j:=fun aw=>tE E.hr hj (f.less F) aw
    have hle:m.lg.le m'.lg:=by rw[X];exact a.2.1
    have r:(∀ b,old=some b->b<=H6/\Hp.get m2.H b≠some .frz)->j9 ρ m m':=fun hq=>(e3.trans E.ext j3).trans (fun b l N=>u.ext b l (E.ext b l N)) (NY u.hr hq d M)
    rcases ax with⟨rfl,rfl,rfl,hold⟩|⟨rfl,b0,ab,l,cap,C,fz,rfl,T,az,B,Y,ay,rfl,I,S,D,Q,R⟩
    .have q:∀ b,old=some b->∃ ab l,b<=H6/\Hp.get m2.H b=some ab/\ab.rw=true/\ρ2 b=some l/\l.on=false:=fun b p=>by
      obtain⟨ab,l,L,J,q3,q4,q5⟩:=hold b p;exact⟨ab,l,L,by rw[A q4];exact J,q3,u.ext _ _ q4,q5⟩
     obtain⟨K,L,J⟩:=CN u.hr q d M hc rfl hi h1;exact⟨K,L,St.trans Z E (St.trans f u J),hle,r fun b p=>by
      obtain⟨ab,l,L,J,q3,_⟩:=q b p;exact⟨L,fun he=>by rw[J]at he;cases he;cases q3⟩⟩
    .have W:Hp.get m2.H b0=some ab:=by rw[A Y];exact az
     obtain⟨K,L,J⟩:=oH (w':=w) (cap:=cap) (sh:=l.sh) u.hr T W B (u.ext _ _ Y) ay d M hc rfl hi h1 S D (R lg.G fun b N l hl=>j6 b N l hl) j4 Q ⟨rfl,rfl,rfl⟩ rfl (fun _ _=>rfl) I;exact⟨K,L,St.trans Z E (St.trans f u J),hle,r fun b p=>by
      cases p;exact⟨T,fun he=>by rw[W]at he;cases he;cases B⟩⟩
   .cases d
  .cases d
 .cases d
def PV:∀ (d:Nat),AK P (WD P d)
 | 0=>WE
 | d+1=>by
   have u:=PV d;refine⟨fun{base ρ m m' w t v v' x b} h f p hv r=>?_,fun{m m' t v x b} f=>?_⟩
   .unfold WD at f;split at f
    .split at f
     .split at f
      .rename_i E m1 q;have a:=gU f;obtain⟨C,B,n,A,D⟩:=QX u h q (p.less a.1) hv (r.le a.2.1);obtain⟨ρ2,l,d1,d2,d3,d4,d5,d6⟩:=EI n.hr f (p.step n) B r;exact⟨ρ2,l,St.trans p n d1,d2,d3,d4,d5,A.trans d6,D.trans n.ext (HV n.hr f (p.step n))⟩
      .cases f
     .cases f
    .exact WE.ok h f p hv r
   .unfold WD at f;split at f
    .split at f
     .split at f
      .rename_i E m1 q;have a:=CK u q;have b:=gU f;exact⟨C5 a.1 b.1,a.2.1.trans b.2.1,C5 a.2.2 b.2.2⟩
      .cases f
     .cases f
    .exact gU f
def V0:AK P (tdP P):=PV 3
def GZ(d:sM P m t t2 x y=some (v,m')):m.hi<=m'.hi/\m.lg.le m'.lg/\m.n<=m'.n:=by
 unfold sM at d;split at d
 .rename_i e d2 hu r;cases f:cT d2 with
  | false=>rw[f]at d;cases d
  | true =>
    rw[f]at d;simp only[Q3,D7]at d;split at d
    .obtain⟨_,d⟩:=A3 d;split at d
     .rename_i p;have a:=VL V0 p;split at d
      .rename_i q;have b:=jC V0 q;have c:=mW d;exact⟨A2,a.2.1.trans (b.2.1.trans c.2.1),A2⟩
      .split at d
       .obtain⟨_,d⟩:=A3 d;have c:=mW d;exact⟨A2,a.2.1.trans c.2.1,A2⟩
       .cases d
     .cases d
    .cases d
 .cases d
def VO.step(h:VO P ρ w wd bh gs y' rows2 new')(f:∀ b ∈ gs,∃ l,ρ b=some l)(he:∀ b l,ρ b=some l->ρ' b=some l):VO P ρ' w wd bh gs y' rows2 new' :=
 ⟨h.len,h.first,h.size,h.flat,fun R hR=>h.rows R fun b a l d=>hR b a l (he b l d),h.ev⟩
def VQ{n:Nat}(h:VS P e n=true):∃ z,fJ P e=some z/\z.cells.size=n:=by
 unfold VS at h;split at h
 .rename_i z a;exact⟨z,a,A0 h⟩
 .cases h
def PK(h:HR P base ρ m.H w)(N:base<=w.heap.size)(q:sM P m t t2 x y=some (v,m'))(B:K1 ρ m.n m'.hi)(hx:VR ρ x x')(hy:VR ρ y y')(M:Sat m'.lg) :
  VOk P base ρ m w (Builtin.append_ #[t,t2] ty #[x',y']) v m':=by
 unfold sM at q;split at q
 .rename_i e d2 hu K;cases p:cT d2 with
  | false=>rw[p]at q;cases q
  | true =>
    rw[p]at q;simp only[Q3,D7]at q;split at q
    .rename_i inf hi;obtain⟨hq,d⟩:=A3 q;clear q;obtain⟨Y,aw⟩:=B6 hq;obtain⟨Z,av⟩:=B6 Y;have D:=A1 Z;have G:0<inf.size:=A1 av;obtain⟨z,hz,L⟩:=VQ aw;have J:G9 P e=some inf.size:=by unfold G9;rw[hi]
     split at d
     .rename_i bh gs sure m1 C;split at d
      .rename_i c g0 old m2 V;have mb:=jC V0 V;have mp:=mW d;have I:K1 ρ m.n m1.hi:=B.less A2;obtain⟨A,rows2,new',r,a2,a3,a4,a5,a6⟩:=TG V0 h C I hy (M.le (mb.2.1.trans mp.2.1)) G J;have u:K1 A m1.n m'.hi:=B.step r;obtain⟨ρ2,W,b2,b3,b4⟩:=MA V0 r.hr V (u.less mp.1) (hx.mono r.ext) (M.le mp.2.1) G J;obtain⟨v',f,w3,Q,T,R⟩:=QS (ty:=ty) hu K p hi hz L D W.hr N d (u.step W) M b4 (a5.step (fun b ay=>(a4 b ay).2) W.ext);exact⟨v',f,w3,Q,T,St.trans B (St.trans (B.less mp.1) r W) R⟩
      .split at d
       .rename_i b c tg au;obtain⟨S,F⟩:=A3 d;clear d;have S:=A0 S;have mp:=mW F;have I:K1 ρ m.n m1.hi:=B.less A2;obtain⟨A,rows2,new',r,a2,a3,a4,a5,a6⟩:=TG V0 h C I hy (M.le mp.2.1) G J;have u:K1 A m1.n m'.hi:=B.step r;obtain⟨l,d1,d2,d3,d4,d5⟩:=fQ hx;obtain⟨nul,ax,rows,X,q2⟩:=fU d2 d3 d4;have az:ax=inf.size:=A2;subst az;rw[X]at d2;rcases t6 d2 with⟨rfl,rfl,rfl⟩|⟨rfl,a,cap,rfl,hc⟩
        .have E:A2Z P base A m1 w e inf.size c [b] none (.slice none 0 0):=⟨true,[],X,.inl ⟨rfl,rfl,rfl,fun b N=>by cases N⟩⟩;obtain⟨v',f,w3,Q,T,R⟩:=QS (ty:=ty) (g0:=[b]) (gs:=gs) hu K p hi hz L D r.hr N F u M E a5;exact⟨v',f,w3,Q,T,St.trans B r R⟩
        .have O:cap=rows.length:=d5;subst O;obtain⟨v',f,w3,Q,T,R⟩:=A26 (ty:=ty) hu K p hi hz L D r.hr N F u M X (r.ext _ _ d1) (by rw[X];exact d2) a5 (a6 rfl);exact⟨v',f,w3,Q,T,St.trans B r R⟩
       .cases d
     .cases d
    .cases q
 .cases q
end
end
section
open Go
variable [Ora]
section
variable {P:Program} {base:Nat} {ρ ρ':Ren} {m m':Mem} {w w':World}
def IZ(h:o+us.length<=row.length):(xW row o us).length=row.length:=by
 unfold xW;simp;omega
def YT(h:o+us.length<=row.length):(xW row o us)[j]? = if o<=j/\j<o+us.length then us[j-o]? else row[j]? := by
 unfold xW;have a:(row.take o).length=o:=by simp;omega
 by_cases h1:j<o
 .rw[A7 A2,M8,F2 A2,E8 h1]
 .by_cases d:j<o+us.length
  .rw[A9 ⟨A2,d⟩,M8,E0 A2,a,F2 A2]
  .rw[A7 A2,E0 (by simp;omega),H8];congr 1
   simp;omega
def P1.set{R:Nat->Option Obj}{s:Nat}{C C':V9}(h:P1 R rows wd C s)(D:k<rows.length)(I:o+us.length<=wd)(he:Z0 R us vs)
  (hC:∀ j,C'[j]? = if s+k*wd+o<=j/\j<s+k*wd+o+vs.length then vs[j-(s+k*wd+o)]? else C[j]?):P1 R (rows.set k (xW (rows.getD k []) o us)) wd C' s:=by
 have d:rows[k]? = some rows[k]:=A5 D;have E:rows.getD k []=rows[k]:=by rw[B1,d];rfl
 have p:rows[k].length=wd:=h.1 _ (N6 D);rw[E];refine⟨fun row hr=>?_,fun r row j u v a a2 a3=>?_⟩
 .rcases List.mem_or_eq_of_mem_set hr with h1|rfl
  .exact h.1 row h1
  .rw[IZ A2];exact p
 .rw[hC]at a3;by_cases f:k=r
  .subst f;rw[R8 D]at a;have a:=A8 a;subst a;have B:=(B0.1 a2).1;rw[IZ A2,p]at B;rw[YT A2]at a2;by_cases n:o<=j/\j<o+us.length
   .rw[A9 n]at a2;rw[A9 (by rw[<- he.1];omega)]at a3;exact he.2 (j-o) u v a2 (by rw[<- a3];congr 1;omega)
   .rw[A7 n]at a2;rw[A7 (by rw[<- he.1];omega)]at a3;exact h.2 k _ j u v d a2 a3
  .rw[cN f]at a;have B:=(B0.1 a2).1;rw[h.1 _ (D0 a)]at B;have F:=(B0.1 a).1;have G:=he.1;rw[A7]at a3
   .exact h.2 r row j u v a a2 a3
   .rcases F7 r k with A|H
    .have q:(r+1)*wd<=k*wd:=F6 wd A;rw[H5]at q;omega
    .have q:(k+1)*wd<=r*wd:=F6 wd A2;rw[H5]at q;omega
def TT(h:HR P base ρ m.H w)(f:xD P m t x y=some (v,m'))(O:K1 ρ m.n m'.hi)(hx:VR ρ x x')(hy:VR ρ y y')(hS:Sat m'.lg):UOk P base ρ m w (Instr.storeAt t x' y') m'/\v=undef/\m.lg.le m'.lg:=by
 unfold xD at f;split at f
 .rename_i b i tg z o ts av;cases E:iV y with
  | true=>rw[E]at f;cases f
  | false =>
  rw[E]at f;simp only[D7]at f;split at f
  .rename_i xs gs m1 hd;split at f
   .rename_i c tc T g hg;obtain⟨aw,p⟩:=A3 f;clear f;have aw:=A0 aw;split at p
    .rename_i g2 m2 hj;rw[N9]at p;simp only[hole]at p;obtain⟨hs,rfl⟩:=nC p;obtain⟨ah,M⟩:=U5 hs;have md:=S1 V0 hd;have mj:=N2 hj;have af:m2.hi=m'.hi:=by rw[M];simp
     have Z:m'.lg=fF m2 tg (.set (tg-10) o) (hole c tg::z::xs):=by rw[M];simp[hole]
     have V:m2.lg.le m'.lg:=by rw[Z];exact⟨[_],rfl⟩
     have an:K1 ρ m.n m1.hi:=O.less A2;have R:m1.lg.le m'.lg:=by rw[<- mj.2.1];exact V
     obtain⟨L,J,e2,e3,e4,e5,e6⟩:=iJ V0 h hd an (hy.cells E) (hS.le R);have ax:K1 L m1.n m2.hi:=(O.step J).less A2;obtain⟨ρ2,lg,d1,d2,d3,d4,d5,d6⟩:=eP J.hr hj ax;obtain⟨⟨l,wd,jN,k,a1,a2,a3,a4,a5,a6,rfl⟩,a8⟩:=wJ hx;have D:=J.ext _ _ a1;obtain⟨a,inf,q1,q2,q3,K⟩:=SqR.ex (J.hr.atl D hg).1;rcases K with⟨K,_⟩|⟨_,K⟩
     .rw[a2]at K;cases K
     obtain⟨C,fz,T',rows,az,f1,f2,f3,f4,f5,f6,f7,f8,f9⟩:=K;have ao:a=wd:=by
      have:tg=10+wd:=by rw[<- a8,a3];rfl
      omega
     subst ao;obtain⟨rfl,f10⟩:=f9 rfl;have aj:tg=10+a:=A2;have ar:Sat (m2.wLg (fF m2 tg (.set (tg-10) o) (hole c tg::z::xs))).lg:=by rw[d7,<- Z];exact hS
     obtain⟨r1,r2,nul,ae,rws,r3,r4⟩:=jV ar (.refl _);obtain⟨kk,hz⟩:=GY a4;have F:(hole c tg::z::xs).map (D6 Ora.env)=.seq false a rows::.int kk (.ofNat k)::xs.map (D6 Ora.env):=by
      show Ora.env c::D6 Ora.env z::xs.map (D6 Ora.env)=_;rw[f2,hz]
     rw[F,show tg-10=a by omega]at r1;have r1:Ora.env m2.lg.nx=if a=a/\k<rows.length/\o+(xs.map (D6 Ora.env)).length<=a then .seq false a (rows.set k (xW (rows.getD k []) o (xs.map (D6 Ora.env))))else .none:=r1
     by_cases hc:a=a/\k<rows.length/\o+(xs.map (D6 Ora.env)).length<=a
     .rw[A9 hc]at r1;obtain⟨_,S,N⟩:=hc;have hR:∀ b' ∈ gs,∀ l',L b'=some l'->Sub l'.G lg.G:=fun b' al l' au=>d6 b' (.tail _ al) l' au
      have d:=e6 lg.G hR;have I:Sub az.G lg.G:=d6 g (.head _) az f7;have B:y'.cells.toList.length=(xs.map (D6 Ora.env)).length:=d.1.symm;have ai:(k+1)*a<=l.cap*a:=F6 a A2;rw[H5]at ai;obtain⟨w',g1,ak,g3,g4,g5⟩:=Z1 (P:=P) (b:=l.blk) (o:=l.sh+k*a+o) (fz:=fz) y'.cells.toList 0 C w f1 (DH d) (by rw[B];omega) f10;have ag:C.toList.length=C.size:=R4;have q:(Array.mk (cB C.toList (l.sh+k*a+o+0) y'.cells.toList)).size=C.size:=by simp[Z2]
      have X:∀ j,(Array.mk (cB C.toList (l.sh+k*a+o+0) y'.cells.toList))[j]? = if l.sh+k*a+o<=j/\j<l.sh+k*a+o+y'.cells.toList.length then y'.cells.toList[j-(l.sh+k*a+o)]? else C[j]? := fun j=>by
       rw[I8,lD _ _ _ _ (by rw[B];omega)];simp
      have r:P1 lg.G rows a C l.sh:=P1.mono ⟨f6,f8⟩ I;have u:St P base ρ ρ2 m (m2.wLg (fF m2 tg (.set (tg-10) o) (hole c tg::z::xs))) w w:=St.trans (O.less (by simp;omega)) (St.trans (O.less A2) J d1) (St.wLg d1.hr _);have A:Hp.get (m2.wLg (fF m2 tg (.set (tg-10) o) (hole c tg::z::xs))).H b=some (.sq c tc T' g false):=by rw[kM,tE J.hr hj ax D];exact hg
      have W:=d1.ext _ _ D;have aq:BR P ρ2 (.sq m2.lg.nx tg T' g2 false) l w':=by
       refine⟨⟨a,inf,aj,q2,q3,.inr ⟨a2,_,fz,T',_,lg,g4,r1,by rw[R2];exact f3,f4,by rw[q];exact f5,(r.set S N d X).1,d4,(r.set S N d X).2,fun _=>⟨rfl,by rw[q];exact f10⟩⟩⟩⟩
      have ay:=St.write u.hr hs A rfl W a2 ak g3 g5 aq (fun h=>by cases h);refine⟨⟨ρ2,w',?_,St.trans O u ay⟩,rfl,md.2.1.trans R⟩;have Q:=iK av;have Y:ts.length=(xs.map (D6 Ora.env)).length:=by
       have:=F1 List.length e5;rw[E5]at this;exact this.symm
      have e:y'.cells.size=ts.length:=by rw[Y,<- B];simp
      simp[Instr.storeAt,Instr.sureAddr,storeVar,A4,K9 Q,Result.andThen,e,g1]
     .rw[A7 hc]at r1;rw[r1]at r3;cases r3
    .cases p
   .cases f
  .cases f
 .cases f
def TW{lo' hi' mx':Q6}(h:HR P base ρ m.H w)(a:xG P m t x lo hi mx=some (v,m'))(J:K1 ρ m.n m'.hi)(hx:VR ρ x x')(p:OR ρ lo lo')(f:OR ρ hi hi')(q:OR ρ mx mx')(D:Sat m'.lg) :
  VOk P base ρ m w (Instr.sliceAt t x' lo' hi' mx') v m'/\m.lg.le m'.lg:=by
 unfold xG at a;split at a
 .rename_i e b i tg hu;split at a
  .rename_i s C;obtain⟨d,a⟩:=A3 a;have d:=A0 d;obtain⟨l,h1,G,h3,S⟩:=nH hx;obtain⟨⟨r,g1,g2⟩,⟨lg,rfl⟩,g4⟩:=GL (w:=w) hu C d h1 G h3 (fun h=>by cases h) a p f q D;exact⟨⟨r,ρ,w,g1,g2,St.wLg h lg⟩,g4⟩
  .cases a
 .rename_i e b i tg hu;split at a
  .rename_i s C;obtain⟨d,a⟩:=A3 a;have d:=A0 d;obtain⟨l,h1,G,h3,S,N⟩:=fQ hx;obtain⟨⟨r,g1,g2⟩,⟨lg,rfl⟩,g4⟩:=GL (w:=w) hu C d h1 G h3 (fun _=>N) a p f q D;exact⟨⟨r,ρ,w,g1,g2,St.wLg h lg⟩,g4⟩
  .cases a
 .rename_i e b i tg hu;split at a
  .rename_i s C;obtain⟨d,a⟩:=A3 a;have d:=A0 d;split at a
   .rename_i c tc K m1 V;have A:∀ {m1:Mem},LI m1 K c tg false lo hi mx=some (v,m')->J9 m1 m'/\m1.lg.le m'.lg:=fun{m1} a=>by
     have go:∀ {m1:Mem} {l h:Value} {cc:Bool},fV m1 K c tg l h cc=some (v,m')->J9 m1 m'/\m1.lg.le m'.lg:=fun h=>by
      unfold fV at h;obtain⟨_,h⟩:=A3 h;rw[N9]at h;simp only[D3,L5]at h;obtain⟨_,rfl⟩:=h;exact⟨⟨_,rfl⟩,V7⟩
     unfold LI LH at a;split at a
     .exact go a
     .exact go (A3 a).2
     .split at a
      .rename_i L
       have:=go a;exact⟨(bJ L).1.trans this.1,(bJ L).2.trans this.2⟩
      .cases a
     .cases a
    obtain⟨⟨lg,I⟩,hle⟩:=A a;have R:m1.hi=m'.hi:=by rw[I];simp
    obtain⟨u,l,E,O,W,Q,M,T⟩:=EI h V (J.less A2) hx (D.le hle);have mono:∀ {o o':Q6},OR ρ o o'->OR u o o':=fun{o o'} h=>by
     cases o<;>cases o'<;>first|exact trivial|exact h.elim|exact VR.mono E.ext h
    obtain⟨⟨r,g1,g2⟩,⟨F,B⟩,g4⟩:=GL (w:=w) (cl:=false) hu C d O Q M (fun h=>by cases h) a (mono p) (mono f) (mono q) D;subst B;exact⟨⟨r,u,w,g1,g2,St.trans (J.less (by simp)) E (St.wLg E.hr F)⟩,T.trans g4⟩
   .cases a
  .cases a
 .cases a
end
end
section
open Go
variable [Ora]
section
variable {P:Program} {base:Nat} {ρ ρ':Ren} {m m':Mem} {w w':World}
def BX{a':Addr}{n c':Nat}{a:List Int}(q:P.underlying s=some (.slice e))(p:P.underlying t=some .string)(he:P.underlying e=some (.int .u8))(d:(loadCells a' n).run P w=.ok (a.map (Value.int .u8)).toArray w) :
  (convert s t (.slice (some a') n c')).run P w=.ok (.string ⟨⟨a.map fun n=>UInt8.ofNat n.toNat⟩⟩) w:=by
 have:=run_bytesToString w a' n c' a d;have f:=oM a [];simp only[G4]at f;simp only[convert,A4,D1 q,D1 p,D1 he,Result.andThen];rw[this,show ByteArray.empty=ByteArray.mk ⟨[]⟩from rfl,f]
def EQ{n:Nat}(a:P.underlying s=some (.slice e))(d:P.underlying t=some .string)(he:P.underlying e=some (.int .u8)):(convert s t (.slice none n c)).run P w=.ok (.string ByteArray.empty) w:=by
 simp[convert,A4,D1 a,D1 d,D1 he,Result.andThen,Conv.bytesToString]
def IN{b:ByteArray}(F:P.underlying s=some ds)(E:P.underlying t=some (.slice e))(he:P.underlying e=some (.int .u8))(w:World) :
  ∃ (cap:Nat) (C:Array Value),b.size<=cap/\C.size=cap/\(∀ (i:Nat) (u:Value),(P6 b.data.toList)[i]? = some u->C[i]? = some u)/\(convert s t (.string b)).run P w=.ok (.slice (some ⟨w.heap.size,0,none⟩) b.size cap) { w.drew with heap:=w.heap.push (.cells C e (C.size,C.size+1)) }:=by
 let q:Question:=.appendCap b.size 0 e
 let cap:=q.cut (w.tape w.drawn q)
 have d:b.size<=cap:=by show b.size<=b.size+_;omega
 have r:(choose q).run P w=.ok cap w.drew:=by
  simp only[choose,Sem.run];rw[A7 (by simp[q,Question.forced])];rfl
 let C:V9:=(b.data.map fun b=>Value.int .u8 b.toNat)++Array.replicate (cap-b.size) (.int .u8 0)
 have hC:C.size=cap:=by
  have:b.data.size=b.size:=rfl;simp[C,this];omega
 refine⟨cap,C,d,hC,fun i u hi=>?_,?_⟩
 .have B:=(B0.1 hi).1;simp[P6]at B;have f:i<(b.data.map fun b=>Value.int .u8 b.toNat).size:=by simpa using B
  show((b.data.map fun b=>Value.int .u8 b.toNat)++Array.replicate (cap-b.size) (.int .u8 0))[i]? = some u;rw[S9 f]
  simpa [P6]using hi
 .have A:∀ w2:World,w2.heap[w.heap.size]? = some (.cells C e (0,0))->(markStringish ⟨w.heap.size,0,none⟩).run P w2=.ok () (w2.freeze { block:=w.heap.size,off:=C.size } 1):=fun w2 D=>by
   simp[markStringish,shape,freeze,Sem.run,World.shape?,D]
  have p:({ w.drew with heap:=w.heap.push (.cells C e (0,0)) }:World).freeze { block:=w.heap.size,off:=C.size } 1={ w.drew with heap:=w.heap.push (.cells C e (C.size,C.size+1)) }:=by
   unfold World.freeze;rw[A7 E6];congr 1;apply Array.ext_getElem?;intro i;rw[H3];by_cases hi:w.heap.size=i
   .subst hi;simp
   .rw[A7 hi];simp only[g7];rw[A7 (fun h=>hi h.symm),A7 (fun h=>hi h.symm)]
  have a:(convert s t (.string b)).run P w=(Conv.stringToBytes e b).run P w:=by
   cases ds<;>simp[convert,A4,D1 F,D1 E,D1 he,Result.andThen]
  rw[a];unfold Conv.stringToBytes;simp only[A4,show(choose (.appendCap b.size 0 e)).run P w=.ok cap w.drew from r,Result.andThen];have n:(newRow e C).run P w.drew=.ok ⟨w.heap.size,0,none⟩ { w.drew with heap:=w.heap.push (.cells C e (0,0)) }:=rfl;rw[show(newRow e ((b.data.map fun b=>Value.int .u8 b.toNat)++Array.replicate (cap-b.size) (.int .u8 0))).run P w.drew=_ from n];simp only[Result.andThen];rw[A _ (by simp),p];rfl
def GS:∀ {us:List U} {s:List UInt8} {vs:D2},tV us=some s->Z0 (fun k=>w.heap[k]?) us vs->∃ d:List Int,vs=d.map (Value.int .u8)/\s=d.map fun n=>UInt8.ofNat n.toNat
 | [],s,vs,h,he=>by
   cases h;have:vs=[]:=F8.1 he.1.symm;subst this;exact⟨[],rfl,rfl⟩
 | u::us,s,vs,h,he=>by
   unfold tV at h;split at h
   .rename_i heq;cases heq
   .rename_i n r heq;cases heq;split at h
    .split at h
     .rename_i l A;cases h;cases vs with
      | nil=>have:=he.1;simp at this
      | cons v vr =>
        obtain⟨d,f,q⟩:=GS (vs:=vr) A ⟨by have:=he.1;simpa using this,fun i a b h1 p=>he.2 (i+1) a b (by simpa using h1) (by simpa using p)⟩
        have:=fT (he.2 0 _ v rfl rfl) rfl;subst this;exact⟨(Int.ofNat n)::d,by rw[f];rfl,by rw[q];rfl⟩
     .cases h
    .cases h
   .cases h
def GT:∀ {rows:List (List U)} {s:List UInt8},tW rows=some s->tV (rows.flatMap id)=some s/\(rows.flatMap id).length=rows.length/\∀ (r:Nat) (row:List U) (j:Nat) (u:U),rows[r]? = some row->row[j]? = some u->j=0/\(rows.flatMap id)[r]? = some u
 | [],s,h=>by cases h;exact⟨rfl,rfl,fun r row j u h=>by simp at h⟩
 | row::rows,s,h=>by
   unfold tW at h;split at h
   .rename_i heq;cases heq
   .rename_i n r heq;cases heq;split at h
    .rename_i f;split at h
     .rename_i l A;cases h;obtain⟨h1,d,h3⟩:=GT A;refine⟨?_,by show([U.int .u8 (Int.ofNat n)]++rows.flatMap id).length=_;rw[B8,d];simp;omega,fun q row j u a a2=>?_⟩
      .simp only[gB,id,S4,G4,tV];rw[A9 f,h1]
      .cases q with
       | zero =>
         simp at a;subst a;cases j with
         | zero=>simp at a2;subst a2;exact⟨rfl,rfl⟩
         | succ j=>simp at a2
       | succ q =>
         obtain⟨B,p⟩:=h3 q row j u (by simpa using a) a2;exact⟨B,by simpa using p⟩
     .cases h
    .cases h
   .cases h
def pY{t:Nat}:∀ {l:D2},g9 t l=true->∀ v ∈ l,G5 v=t
 | [],_,v,hv=>by cases hv
 | x::r,h,v,hv=>by
   obtain⟨h1,a⟩:=B6 (show(Nat.beq (G5 x) t && g9 t r)=true from h);rcases B4.1 hv with rfl|hv
   .exact A0 h1
   .exact pY a v hv
def sB{R:Nat->Option Obj}(h:LR ρ cs cs')(f:∀ v ∈ cs,G5 v<10):Z0 R (cs.map (D6 Ora.env)) cs':=by
 refine⟨by simp[h.1],fun i u v a a2=>?_⟩;rw[G2]at a;cases d:cs[i]? with
 | none=>rw[d]at a;cases a
 | some x =>
   rw[d]at a;have a:=A8 a;subst a;exact .sc (u7 (h.2 i x v d a2) (f x (D0 d))).1
def KF(m m1:Mem):A5k m m1=⟨m.H,m.n,m.W,m1.hi,m1.lg⟩:=by cases m;cases m1;rfl
def St.kept{ρ:Ren}{m:Mem}{w:World}{hi:Nat}{lg:Lg}(h:HR P base ρ m.H w)(hh:m.hi<=hi):St P base ρ ρ m ⟨m.H,m.n,m.W,hi,lg⟩ w w :=
 ⟨fun _ _ h=>h,fun b l h1 a=>(by rw[h1]at a;cases a),A6 _,hh,fun h=>C5 h hh,h,fun _ h=>h,fun b h1 a=>absurd h1 a,fun _ _ _=>rfl,A6 _,⟨rfl,rfl,rfl⟩,fun b l h1 a=>(by rw[h1]at a;cases a),fun _ _ _ _=>rfl,fun _ h=>.inr h⟩
def A1r(h:HR P base ρ m.H w)(hb:base<=w.heap.size)(d:LM P m s t x=some (v,m'))(X:K1 ρ m.n m'.hi)(hx:VR ρ x x')(hS:Sat m'.lg):VOk P base ρ m w (convert s t x') v m'/\m.lg.le m'.lg:=by
 unfold LM at d;split at d
 .rename_i e a n c N Q;split at d
  .rename_i he;split at d
   .rename_i cs hr;obtain⟨E,d⟩:=A3 d;obtain⟨u,f,e2,r,L,M,e5⟩:=M4 d hS;obtain⟨lg,rfl⟩:=H4 d;have q:=St.wLg h lg;have I:=pY E;have key:∀ {a' c'} {O:D2},LR ρ cs O->(loadCells a' n).run P w=.ok ⟨O⟩ w->VOk P base ρ m w (convert s t (.slice (some a') n c')) v (m.wLg lg):=fun{a' c' O} Y aw=>by
     have ax:Z0 (fun k=>w.heap[k]?) (cs.map (D6 Ora.env)) O:=sB Y (fun v hv=>by rw[I v hv];omega);have J:∃ p,tV (cs.map (D6 Ora.env))=some p/\u=.str p:=by
      have f:(match tV (cs.map (D6 Ora.env))with|some s=>U.str s|none=>.none)=u:=f;split at f
      .rename_i p A;exact⟨p,A,f.symm⟩
      .subst f;cases L
     obtain⟨p,K,rfl⟩:=J;cases L;obtain⟨ns,r1,r2⟩:=GS (w:=w) K ax;subst r1;subst r2;exact⟨_,ρ,w,BX N Q he aw,M ρ,q⟩
    refine⟨?_,H7 d⟩;rcases P4 hx with⟨l,Y,_,_,rfl⟩|⟨l,c',Y,_,_,_,_,rfl⟩|⟨a',c',_,rfl,_,rfl⟩
    .obtain⟨O,g1,g2,g3⟩:=Z8 h hr Y;exact key g1 (K2 g2 g3)
    .obtain⟨O,g1,g2,g3⟩:=Z8 h hr Y;exact key g1 (K2 g2 g3)
    .have:cs=[]:=by
      unfold q8 at hr;split at hr
      .have:=(iZ hr).2;simpa using this
      .cases hr
     subst this;exact key .nil (by simp[loadCells,loadCellsFrom])
   .cases d
  .cases d
 .rename_i e fn a1 a2 N Q;split at d
  .rename_i he;split at d
   .rename_i hh b m1 hd;rw[KF]at d;obtain⟨u,f,e2,r,L,M,e5⟩:=M4 d hS;have hle:=H7 d;obtain⟨lg,rfl⟩:=H4 d;obtain⟨V,l,d1,d2,d3,d4,d5,d6⟩:=EI h hd (X.less (by simp[Mem.wLg])) hx (hS.le hle);have q:St P base ρ ρ m (Mem.wLg ⟨m.H,m.n,m.W,m1.hi,m1.lg⟩ lg) w w:=St.kept h d1.hle;obtain⟨nul,wd,rows,K,q2⟩:=fU d4 d5 A2;have av:wd=1:=A2;subst av;rw[K]at d4;have J:∃ p,tW rows=some p/\u=.str p:=by
     have f:evU .str [D6 Ora.env hh]=u:=f;rw[K]at f;have f:(if 1=1 then(match tW rows with|some s=>U.str s|none=>.none)else .none)=u:=f;rw[A9 rfl]at f;split at f
     .rename_i p A;exact⟨p,A,f.symm⟩
     .subst f;cases L
    obtain⟨p,A,rfl⟩:=J;cases L;refine⟨?_,d6.trans hle⟩;have hG:=(d1.hr.atl d2 d3).1.2;rcases t6 d4 with⟨rfl,rfl,rfl⟩|⟨rfl,a,c,rfl,hc⟩
    .cases A;exact⟨_,ρ,w,EQ N Q he,M ρ,q⟩
    .obtain⟨_,new',g1,g2,g3,g4⟩:=tR (w:=w) d4 hG;obtain⟨k1,k2,k3⟩:=GT A;have Z:Z0 (fun k=>w.heap[k]?) (rows.flatMap id) new':=by
      refine⟨by rw[k2,g1];simp,fun i u v b1 b2=>?_⟩;have B:i<rows.length:=by have:=(B0.1 b1).1;rw[k2]at this;exact this
      have au:rows[i].length=1:=g3.1 _ (N6 B);have F:rows[i]? = some rows[i]:=A5 B;have h0:rows[i][0]? = some (rows[i][0]' A2):=A5 A2;obtain⟨_,k4⟩:=k3 i _ 0 _ F h0;rw[b1]at k4;have k4:=A8 k4;rw[k4];exact(g3.2 i _ 0 _ v F h0 (by simpa using b2)).mono hG
     obtain⟨ns,r1,r2⟩:=GS (w:=w) k1 Z;subst r1;subst r2;have az:(ns.map (Value.int .u8)).length=rows.length:=by rw[g1];omega
     exact⟨_,ρ,w,BX N Q he (lN az g4),M ρ,q⟩
   .cases d
  .cases d
 .rename_i y _ _ _ ds e N Q;obtain⟨E,d⟩:=A3 d;have E:=A0 E;split at d
  .rename_i he;split at d
   .rename_i D;split at d
    .rename_i g m1 hj;rw[N9]at d;simp only[hole]at d;have d:bA (m1.wLg (fF m1 11 .byt [y])) m1.lg.nx 11 e g=some (v,m'):=d;have mj:=N2 hj;have mn:=m9 d;simp only[MK,d7,VV]at mn;obtain⟨V,lg,f,e2,L,M,e5,e6⟩:=eP h hj (X.less A2);have q:St P base ρ V m (m1.wLg (fF m1 11 .byt [y])) w w:=St.trans (X.less (by simp;omega)) f (St.wLg f.hr _);obtain⟨p,rfl,f1⟩:=l6 hx E;obtain⟨r1,r2,_⟩:=jV (m:=m1) (t:=11) (op:=.byt) (xs:=[y]) (lg:=m'.lg) hS (by rw[d7,mn.2.1];exact .refl _);have r1:Ora.env m1.lg.nx=evU .byt [D6 Ora.env y]:=r1;rw[f1]at r1;have r1:Ora.env m1.lg.nx=.seq false 1 (jM p):=r1;obtain⟨cap,C,c1,c2,c3,c4⟩:=IN (P:=P) (b:=⟨⟨p⟩⟩) N Q he w;obtain⟨inf,S,T⟩:∃ inf,P.info? e=some inf/\inf.size=1:=by
      unfold G9 at D;cases hi:P.info? e with
      | none=>rw[hi]at D;cases D
      | some inf=>rw[hi]at D;exact⟨inf,rfl,A8 D⟩
     have ay:ByteArray.size ⟨⟨p⟩⟩=p.length:=rfl;rw[ay]at c1 c4;obtain⟨ρ2,K,q2⟩:=cD (w':={ w.drew with heap:=w.heap.push (.cells C e (C.size,C.size+1)) }) (cap:=cap) (C:=C) q.hr hb d (by simpa using(X.less (A6 _)).step f) r1 rfl S T (by rw[gZ];exact c1) A2
      ((IQ (R:=lg.G) p).move (o':=0) fun i hi=>by
        rw[gZ]at hi;have B:i<(P6 p).length:=by simp[P6];omega
        rw[F4,c3 i (P6 p)[i] (A5 B)];simp[B]) M (fun i hi hh=>by have:=hh.1;simp only at this;omega) ⟨rfl,rfl,rfl⟩ rfl
     rw[gZ]at K;exact⟨⟨_,ρ2,_,c4,K,St.trans X q q2⟩,by rw[mn.2.1,<- mj.2.1];exact⟨[_],rfl⟩⟩
    .cases d
   .cases d
  .cases d
 .cases d
def UC(hu:P.underlying t=some (.slice e))(hi:P.info? e=some inf)(d:inf.bytes<=90000)(h0:0<inf.size)(h:∀ w,(zeroValue e).run P w=.ok z w)(f:k<=sK)(w:World) :
  (Instr.makeSlice t (.int .i64 (Int.ofNat k)) (.int .i64 (Int.ofNat k))).run P w=.ok (.slice (some ⟨w.heap.size,0,none⟩) k k) { w with heap:=w.heap.push (.cells ((Array.range (k*inf.size)).map (z.cells[· % z.cells.size]!)) e (0,0)) }:=by
 have f:k<=1000000000:=f;have A:G9 P e=some inf.size:=by simp[G9,hi]
 have wl:IntKind.i64.wrap (Int.ofNat k)=Int.ofNat k:=pF .i64 k (by simp only[MP];omega);have hm:k*inf.bytes<=1000000000*90000:=fA f d;have a:(askRoom (k*inf.bytes)).run P w=.ok () w:=by
  unfold askRoom roomBytes;rw[A7 A2];rfl
 have q:((inf.bytes:Int)*(k:Int))=((k*inf.bytes:Nat):Int):=by rw[aV];simp
 unfold Instr.makeSlice;simp only[A4,D1 hu,asInt,asIntOf,Result.andThen,Sem.run_pure,V1 hi,wl];rw[A7]
 .have n:(Int.ofNat k).toNat=k:=by simp
  simp only[A4,Sem.run_pure,Result.andThen,n,a,K9 A];by_cases p:k*inf.size=0
  .have r:∀ z:V9,Array.map (fun x=>z[x%z.size]!) (Array.range (k*inf.size))=⟨[]⟩:=fun z=>by rw[p];apply J1;simp
   simp only[A9 p,r];rfl
  .simp only[A7 p,A4,Sem.run_pure,Result.andThen,h];rfl
 .have u:Int.ofNat k=(k:Int):=rfl;simp only[u,q];simp;omega
def VP{R:Nat->Option Obj}{s:Nat}(h0:0<s)(n:z.cells.size=s)(p:LR ρ z.cells.toList z.cells.toList)(q:∀ v ∈ z.cells.toList,G5 v<10):P1 R (List.replicate k (z.cells.toList.map (D6 Ora.env))) s ((Array.range (k*s)).map (z.cells[· % z.cells.size]!)) 0:=by
 have he:=sB (R:=R) p q;refine⟨fun row hr=>?_,fun r row j u v g1 g2 g3=>?_⟩
 .rw[(List.mem_replicate.1 hr).2];simp[n]
 .have hr:=(B0.1 g1).1;rw[T6]at hr;rw[List.getElem?_replicate,A9 hr]at g1;cases g1;have f:=(B0.1 g2).1;simp only[E5,R4]at f;rw[n]at f;have hm:(r*s+j)%s=j:=by rw[aV,Nat.mul_add_mod,W1 f]
  have d:r*s+j<k*s:=by
   have:(r+1)*s<=k*s:=F6 s hr;rw[H5,fZ]at this;omega
  rw[F4,Array.getElem?_map,Array.getElem?_range,A9 d]at g3;simp only[L3,D3,n,hm]at g3;have a:j<z.cells.size:=A2;rw[getElem!_pos z.cells j a]at g3;refine he.2 j u v g2 ?_;rw[Y3,F3 a,g3]
def A0N{l c:Value}(h:HR P base ρ m.H w)(M:base<=w.heap.size)(a:JU P m t l c=some (v,m'))(C:K1 ρ m.n m'.hi)(T:VR ρ l l')(V:VR ρ c c')(Q:Sat m'.lg):VOk P base ρ m w (Instr.makeSlice t l' c') v m'/\m.lg.le m'.lg:=by
 unfold JU at a;split at a
 .rename_i e i ti j tj hu;obtain⟨d,A⟩:=A3 a;clear a;obtain⟨d,h3⟩:=B6 d;obtain⟨h1,E⟩:=B6 d;have h1:=A0 h1;have E:=A0 E;have h3:=A0 h3;subst h1 E h3;have a:=A;clear A;split at a
  .rename_i inf hi;obtain⟨d,a⟩:=A3 a;obtain⟨p,f⟩:=B6 d;have p:=A1 p;have f:0<inf.size:=A1 f;split at a
   .rename_i z J;obtain⟨d,a⟩:=A3 a;obtain⟨u,r⟩:=B6 d;have u:=A0 u;have r:∀ v ∈ z.cells.toList,G5 v<10:=fun v hv=>A1 (D4.1 r v hv)
    split at a
    .rename_i g m1 K;rw[N9]at a;simp only[hole]at a;have a:bA (m1.wLg (fF m1 (10+inf.size) (.rep inf.size) (hole i 3::z.cells.toList))) m1.lg.nx (10+inf.size) e g=some (v,m'):=a;have R:=N2 K;have G:=m9 a;simp only[MK,d7,VV]at G;obtain⟨F,lg,D,Y,Z,N,X,e6⟩:=eP h K (C.less A2);have B:St P base ρ F m (m1.wLg (fF m1 (10+inf.size) (.rep inf.size) (hole i 3::z.cells.toList))) w w:=St.trans (C.less (by simp;omega)) D (St.wLg D.hr _);obtain⟨k,n,rfl,f1,f2⟩:=M6 (v:=hole i 3) T (show(3:Nat)<8 by decide);obtain⟨k2,W,rfl,f3,f4⟩:=M6 (v:=hole i 3) V (show(3:Nat)<8 by decide);rw[f1]at f3;cases f3;obtain⟨r1,r2,nul,wd,rows,L,r4⟩:=jV (m:=m1) (t:=10+inf.size) (op:=.rep inf.size) (xs:=hole i 3::z.cells.toList) (lg:=m'.lg) Q (by rw[d7,G.2.1];exact .refl _);have r1:Ora.env m1.lg.nx=evU (.rep inf.size) (D6 Ora.env (hole i 3)::z.cells.toList.map (D6 Ora.env)):=r1;rw[f1]at r1;have S:k=.i64:=by
      have f2:(3:Nat)=hP k:=f2;cases k<;>first|rfl|(exfalso;revert f2;decide)
     subst S;cases n with
     | negSucc q=>rw[L]at r1;cases r1
     | ofNat q =>
       have r1:Ora.env m1.lg.nx=if(z.cells.toList.map (D6 Ora.env)).length=inf.size/\q<=sK then .seq false inf.size (List.replicate q (z.cells.toList.map (D6 Ora.env)))else .none:=r1
       by_cases d:(z.cells.toList.map (D6 Ora.env)).length=inf.size/\q<=sK
       .rw[A9 d]at r1;obtain⟨ρ2,I,O⟩:=cD (w':={ w with heap:=w.heap.push (.cells ((Array.range (q*inf.size)).map (z.cells[· % z.cells.size]!)) e (0,0)) }) (cap:=q) (fz:=(0,0)) B.hr M a (by simpa using(C.less (A6 _)).step D) r1 rfl hi rfl (by simp) (by simp)
         (VP (ρ:=ρ) f u (pA J) r) N (fun i hi hh=>by have:=hh.2;simp only at this;omega) ⟨rfl,rfl,rfl⟩ rfl
        rw[T6]at I;exact⟨⟨_,ρ2,_,UC hu hi p f (fun w=>v7 J w) d.2 w,I,St.trans C B O⟩,by rw[G.2.1,<- R.2.1];exact⟨[_],rfl⟩⟩
       .rw[A7 d,L]at r1;cases r1
    .cases a
   .cases a
  .cases a
 .cases a
end
end
section
open Go
variable [Ora]
section
variable {P:Program} {base:Nat} {ρ ρ':Ren} {m m':Mem} {w w':World}
def RC{t:Nat}(h:U1 m 8 .nilp [hole i t]=some (v,m'))(hi:Ora.env i=.seq nul wd rows)(p:Sat m'.lg):VR ρ v (.bool nul)/\J9 m m'/\m.lg.le m'.lg:=by
 obtain⟨u,d,q,r,f,n,A⟩:=M4 h p;have a:[hole i t].map (D6 Ora.env)=[.seq nul wd rows]:=by
  show[Ora.env i]=_;rw[hi]
 rw[a]at d;have d:U.bool nul=u:=d;subst d;cases f;exact⟨n ρ,H4 h,H7 h⟩
def BY{x y:Operand}{a:Option Addr}{n:Nat}(hu:P.underlying t=some (.slice e))(A:(a=none/\n=0/\c=0/\nul=true)∨(nul=false/\∃ q:Addr,a=some q/\n<=c))(p:op=.eql∨op=.neq)(w:World) :
  (do eqGuard op t x y (.slice a n c) (.slice none 0 0);binOp op t (.slice a n c) (.slice none 0 0):Sem Value).run P w=.ok (.bool (if op=.eql then nul else !nul)) w:=by
 have key:∀ {ρ:Ren} {am:Value},VR ρ am (.slice a n c)->lT P t x y am (.slice none 0 0)=true->sI P .eql t am (.slice none 0 0)=some (.bool nul)->sI P .neq t am (.slice none 0 0)=some (.bool !nul) ->
   (do eqGuard op t x y (.slice a n c) (.slice none 0 0);binOp op t (.slice a n c) (.slice none 0 0):Sem Value).run P w=.ok (.bool (if op=.eql then nul else !nul)) w:=fun{ρ am} hv r h1 h=>by
  have f:VR ρ (.slice none 0 0) (.slice none 0 0):=.pure rfl;have u:=rR (op:=op) (fun _=>r) hv f w;rcases p with rfl|rfl
  .obtain⟨g1,_⟩:=wQ h1 hv f w;simp[A4,u,g1,Result.andThen]
  .obtain⟨g1,_⟩:=wQ h hv f w;simp[A4,u,g1,Result.andThen]
 rcases A with⟨rfl,rfl,rfl,rfl⟩|⟨rfl,q,rfl,C⟩
 .refine key (ρ:=fun _=>none) (am:=.slice none 0 0) (.pure rfl) rfl ?_ ?_
  .simp[sI,CD,eqM,hu]
  .simp[sI,CD,eqM,hu]
 .obtain⟨d,B⟩:∃ d,Op.maxDepth=d+1:=⟨Op.maxDepth-1,rfl⟩;have he:∀ w,(Op.equal t (.slice (some q) n c) (.slice none 0 0)).run P w=.ok false w:=fun w=>by
   rw[Op.equal,B];simp[Op.equalIn,A4,D1 hu,Result.andThen]
  have r:∀ o:BinOp,(eqGuard o t x y (.slice (some q) n c) (.slice none 0 0)).run P w=.ok () w:=fun o=>by
   unfold eqGuard;cases o<;>rfl
  rcases p with rfl|rfl
  .rw[A4,r];show(do pure (.bool (<- Op.equal t (.slice (some q) n c) (.slice none 0 0))):Sem Value).run P w=_;rw[A4,he];rfl
  .rw[A4,r];show(do pure (.bool (!(<- Op.equal t (.slice (some q) n c) (.slice none 0 0)))):Sem Value).run P w=_;rw[A4,he];rfl
def A3J{x y:Operand}{a a' b:Value}(F:A0B P m op t x y a b=some (v,m'))(K:VR ρ a a')(Q:VR ρ b b')(L:Sat m'.lg) :
  (∃ r,(do eqGuard op t x y a' b';binOp op t a' b':Sem Value).run P w=.ok r w/\VR ρ v r)/\J9 m m'/\m.lg.le m'.lg:=by
 unfold A0B at F;split at F
 .rename_i e k T i tg hu;obtain⟨f,d⟩:=A3 F;clear F;obtain⟨f,A⟩:=B6 f;obtain⟨f,N⟩:=B6 f;have M:b'=.slice none 0 0:=by
   unfold A04 at f;split at f
   .exact P8 Q
   .cases f
  subst M;obtain⟨nul,wd,rows,C,n,c,D,rfl,O⟩:∃ nul wd rows C n c,Ora.env i=.seq nul wd rows/\a'=.slice C n c/\((C=none/\n=0/\c=0/\nul=true)∨(nul=false/\∃ q:Addr,C=some q/\n<=c)):=by
   have B:∀ {l:Loc},Enc l.G (Ora.env i) a'->G1 (Ora.env i)=tg->10<=tg->∃ nul wd rows C n c,Ora.env i=.seq nul wd rows/\a'=.slice C n c/\((C=none/\n=0/\c=0/\nul=true)∨(nul=false/\∃ q:Addr,C=some q/\n<=c)):=fun h h3 E=>by
    obtain⟨nul,wd,rows,D,_⟩:=fU h h3 E;rw[D]at h;rcases t6 h with⟨rfl,rfl,rfl⟩|⟨rfl,q,c,rfl,S⟩
    .exact⟨_,_,_,_,_,_,D,rfl,.inl ⟨rfl,rfl,rfl,rfl⟩⟩
    .exact⟨_,_,_,_,_,_,D,rfl,.inr ⟨rfl,q,rfl,S⟩⟩
   rcases(I9 _ _).mp A with A|A
   .rcases(I9 _ _).mp A with A|A
    .have:=A0 A;subst this;obtain⟨l,_,h,h3,E⟩:=nH K;exact B h h3 E
    .have:=A0 A;subst this;obtain⟨l,_,h,h3,E,_⟩:=fQ K;exact B h h3 E
   .have:=A0 A;subst this;rcases(fP K).1 with⟨l,wd,h1,h,h3,rfl⟩|⟨l,wd,rows,h1,h,h3,E,I,rfl⟩
    .exact⟨_,_,_,_,_,_,h3,rfl,.inl ⟨rfl,rfl,rfl,rfl⟩⟩
    .exact⟨_,_,_,_,_,_,h3,rfl,.inr ⟨rfl,_,rfl,I⟩⟩
  split at d
  .rename_i r H;cases d;obtain⟨g1,g2,g3⟩:=RC (ρ:=ρ) H D L;exact⟨⟨_,BY hu O (.inl rfl) w,g1⟩,g2,g3⟩
  .rename_i hh m1 H;have hle:=H7 d;obtain⟨g1,g2,g3⟩:=RC (ρ:=ρ) H D (L.le hle);obtain⟨u,f1,f2,r,f3,f4,f5⟩:=M4 d L;obtain⟨rfl,R⟩:=iU H;have J:D6 Ora.env (hole m.lg.nx 8)=.bool nul:=by
    obtain⟨p,_⟩:=u7 g1 (by show(8:Nat)<10;omega);cases f:D6 Ora.env (hole m.lg.nx 8)with
    | bool b=>rw[f]at p;cases p;rfl
    | int k n=>rw[f]at p;cases p
    | str s=>rw[f]at p;cases p
    | none=>rw[f]at p;cases p
    | seq _ _ _=>rw[f]at p;cases p
   have f1:ev1 .not (D6 Ora.env (hole m.lg.nx 8))=u:=f1;rw[J]at f1;have f1:U.bool (!nul)=u:=f1;subst f1;cases f3;exact⟨⟨_,BY hu O (.inr rfl) w,f4 ρ⟩,g2.trans (H4 d),g3.trans hle⟩
  .cases d
 .cases F
def A8L{fr:Fr}{g:Operand->Value}{o:Oper}(h:HR P base ρ m.H w)(B:base<=w.heap.size)(d:dsM P fr m o.op=some (v,m'))(A:K1 ρ m.n m'.hi)(J:FR ρ fr g o.op)(f:Sat m'.lg):NOk P base ρ m w (execOp g o) v m':=by
 obtain⟨dst,op,ty,pos,K,L⟩:=o;simp only at d J;have a:∀ {x},x ∈ op.operands.toList->VR ρ (ev fr x) (g x):=fun hx=>J _ hx
 have fin:∀ {s:Sem Value},(∃ r,s.run P w=.ok r w/\VR ρ v r)->J9 m m'->NOk P base ρ m w (do pure (.value (<- s))) v m':=fun{s} ⟨r,h1,N⟩ ⟨lg,R⟩=>by
  subst R;exact NOk.of ⟨r,ρ,w,h1,N,St.wLg h lg⟩
 unfold dsM at d;split at d
 .rename_i t x y;exact NOk.of (A0N h B d A (a (x:=x) (by simp[Op.operands])) (a (x:=y) (by simp[Op.operands])) f).1
 .rename_i t x;obtain⟨g1,g2,_⟩:=A0Q (w:=w) h d (a (x:=x) (by simp[Op.operands])) f;exact fin (s:=Instr.loadAt t (g x)) g1 g2
 .rename_i t x y;obtain⟨g1,rfl,_⟩:=TT h d A (a (x:=x) (by simp[Op.operands])) (a (x:=y) (by simp[Op.operands])) f;exact NOk.ofU (s:=Instr.storeAt t (g x) (g y)) g1
 .rename_i t x i;obtain⟨g1,g2,_⟩:=KK (w:=w) d (a (x:=x) (by simp[Op.operands])) (a (x:=i) (by simp[Op.operands])) f;exact fin (s:=Instr.indexAt t (g x) (g i)) g1 g2
 .rename_i s x i;obtain⟨g1,rfl⟩:=LA (w:=w) d (a (x:=x) (by simp[Op.operands]));exact fin (s:=Instr.fieldAt s (g x) i) g1 (.refl _)
 .rename_i t x lo hi mx;obtain⟨g1,_⟩:=TW h d A (a (x:=x) (by simp[Op.operands])) (iX (g:=g) fun y p=>a (by simp[Op.operands]at p ⊢;exact .inr (.inl p))) (iX (g:=g) fun y p=>a (by simp[Op.operands]at p ⊢;exact .inr (.inr (.inl p)))) (iX (g:=g) fun y p=>a (by simp[Op.operands]at p ⊢;exact .inr (.inr (.inr p)))) f;exact NOk.of (s:=Instr.sliceAt t (g x) (lo.map g) (hi.map g) (mx.map g)) g1
 .rename_i s t x;exact NOk.of (A1r h B d A (a (x:=x) (by simp[Op.operands])) f).1
 .rename_i op t x y S;obtain⟨g1,g2,_⟩:=A3J (w:=w) d (a (x:=x) (by simp[Op.operands])) (a (x:=y) (by simp[Op.operands])) f;exact fin (s:=do eqGuard op t x y (g x) (g y);binOp op t (g x) (g y)) g1 g2
 .rename_i xs tys;have l1:=cU (ρ:=ρ) (fr:=fr) (g:=g) (xs:=xs.toList) fun x hx=>a (by show x ∈ (#[]++xs:Array Operand).toList;simpa using hx)
  split at d
  .rename_i x t rest q u;rw[q]at l1;obtain⟨x',r1,F,D,I⟩:=l1.tail
   have:=I.nil_inv;subst this;obtain⟨g1,g2,_⟩:=A3V (w:=w) (ty:=ty) (tys:=rest) d D f;obtain⟨ks,E⟩:∃ ks,execOp g ⟨dst,.call ⟨.builtin .len,xs,tys⟩,ty,pos,K,L⟩=builtin .len tys ty ks (xs.map g):=⟨#[],rfl⟩;have C:xs.map g=⟨xs.toList.map g⟩:=by apply J1;simp
   have G:tys=⟨t::rest⟩:=by rw[<- u]
   rw[E,C,F,G];exact fin (s:=Builtin.len_ ⟨t::rest⟩ ty #[x']) g1 g2
  .cases d
 .rename_i xs tys;have l1:=cU (ρ:=ρ) (fr:=fr) (g:=g) (xs:=xs.toList) fun x hx=>a (by show x ∈ (#[]++xs:Array Operand).toList;simpa using hx)
  split at d
  .rename_i x y t t2 rest q u;rw[q]at l1;obtain⟨x',r1,F,D,I⟩:=l1.tail;obtain⟨y',T,M,O,Q⟩:=I.tail
   have:=Q.nil_inv;subst this
   have:=PK (ty:=ty) h B d A D O f;obtain⟨ks,E⟩:∃ ks,execOp g ⟨dst,.call ⟨.builtin .append,xs,tys⟩,ty,pos,K,L⟩=builtin .append tys ty ks (xs.map g):=⟨#[],rfl⟩;have C:xs.map g=⟨xs.toList.map g⟩:=by apply J1;simp
   have G:tys=⟨t::t2::rest⟩:=by rw[<- u]
   rw[E,C,F,M,G];have e:Builtin.append_ ⟨t::t2::rest⟩ ty #[x',y']=Builtin.append_ #[t,t2] ty #[x',y']:=rfl;refine NOk.of (s:=Builtin.append_ ⟨t::t2::rest⟩ ty #[x',y']) ?_;rw[e];exact this
  .cases d
 .cases d
def fS{wd o i t g:Nat}{z:Value}:∀ {ts:H1} {j:Nat} {m m':Mem} {r:D2},X9 wd o i t z g ts j m=some (r,m')->m.lg.le m'.lg
 | [],j,m,m',r,h=>by cases h;exact .refl _
 | tg::ts,j,m,m',r,h=>by
   unfold X9 at h;cases a:Nat.blt tg 10 with
   | true =>
     rw[a]at h;simp only[E3]at h;split at h
     .rename_i d;split at h
      .rename_i hr;cases h;exact(H7 d).trans (fS hr)
      .cases h
     .cases h
   | false =>
     rw[a]at h;simp only[D7]at h;rw[KA]at h;split at h
     .rename_i hr;cases h;exact V7.trans (fS hr)
     .cases h
def EE{r:Option (D2×Mem)}(h:mE P t r=some (v,m')):∃ vs,r=some (vs,m'):=by
 unfold mE at h;split at h
 .cases h;exact⟨_,rfl⟩
 .cases h;exact⟨_,rfl⟩
 .cases h
def A0R(a:JZ P m t x=some (v,m')):m.lg.le m'.lg:=by
 unfold JZ at a;split at a
 .obtain⟨_,a⟩:=A3 a;obtain⟨vs,h⟩:=EE a;exact fS h
 .split at a
  .obtain⟨_,a⟩:=A3 a;obtain⟨vs,h⟩:=EE a;exact fS h
  .cases a
 .cases a
def TU(a:xD P m t x y=some (v,m')):m.lg.le m'.lg:=by
 unfold xD at a;split at a
 .cases d:iV y with
  | true=>rw[d]at a;cases a
  | false =>
    rw[d]at a;simp only[D7]at a;split at a
    .rename_i n;split at a
     .obtain⟨_,a⟩:=A3 a;split at a
      .rename_i f;rw[N9]at a;simp only[hole]at a;obtain⟨q,_⟩:=nC a;have md:=S1 V0 n;have p:=N2 f;refine md.2.1.trans ?_;rw[(U5 q).2,<- p.2.1];simp only[d7];exact⟨[_],rfl⟩
      .cases a
     .cases a
    .cases a
 .cases a
def A3f{t:Nat}{k:Value}(h:KM m i t z k=some (v,m')):m.lg.le m'.lg:=by
 unfold KM at h;cases a:!(Nat.blt (G5 z) 8)with
 | true=>rw[a]at h;cases h
 | false =>
   rw[a]at h;simp only[D7]at h;split at h
   .rename_i f;split at h
    .rename_i d;cases h;exact(H7 f).trans (eX d)
    .cases h
   .cases h
def KL(h:lS P m t x z=some (v,m')):m.lg.le m'.lg:=by
 unfold lS at h;split at h;all_goals first
  | (split at h
     .obtain⟨_,h⟩:=A3 h;exact A3f h
     .cases h;done)
  | (split at h
     .obtain⟨_,h⟩:=A3 h;rw[E7]at h;cases h;exact .refl _
     .cases h;done)
  | cases h
def LB{f:Nat}(h:lW P m s x f=some (v,m')):m.lg.le m'.lg:=by
 unfold lW at h;split at h;all_goals first
  | (split at h
     .split at h
      .obtain⟨_,h⟩:=A3 h;rw[E7]at h;cases h;exact .refl _
      .cases h
     .cases h;done)
  | cases h
def GM{t:Nat}(a:LI m b i t cl lo hi mx=some (v,m')):m.lg.le m'.lg:=by
 have go:∀ {m1:Mem} {l h:Value} {cc:Bool},fV m1 b i t l h cc=some (v,m')->m1.lg.le m'.lg:=fun h=>by
  unfold fV at h;obtain⟨_,h⟩:=A3 h;rw[N9]at h;simp only[D3,L5]at h;obtain⟨_,rfl⟩:=h;exact V7
 unfold LI LH at a;split at a
 .exact go a
 .exact go (A3 a).2
 .split at a
  .rename_i d;exact(bJ d).2.trans (go a)
  .cases a
 .cases a
def TX(a:xG P m t x lo hi mx=some (v,m')):m.lg.le m'.lg:=by
 unfold xG at a;split at a
 .split at a
  .exact GM (A3 a).2
  .cases a
 .split at a
  .exact GM (A3 a).2
  .cases a
 .split at a
  .obtain⟨_,a⟩:=A3 a;split at a
   .rename_i d;exact(gU d).2.1.trans (GM a)
   .cases a
  .cases a
 .cases a
def A1s(a:LM P m s t x=some (v,m')):m.lg.le m'.lg:=by
 unfold LM at a;split at a
 .split at a
  .split at a
   .exact H7 (A3 a).2
   .cases a
  .cases a
 .split at a
  .split at a
   .rename_i f;rw[KF]at a;have n:=H7 a;exact(gU f).2.1.trans n
   .cases a
  .cases a
 .obtain⟨_,a⟩:=A3 a;split at a
  .split at a
   .split at a
    .rename_i d;rw[N9]at a;simp only[hole]at a;have p:=N2 d;rw[(m9 a).2.1,d7,<- p.2.1];exact⟨[_],rfl⟩
    .cases a
   .cases a
  .cases a
 .cases a
def A3K{x y:Operand}{a b:Value}(f:A0B P m op t x y a b=some (v,m')):m.lg.le m'.lg:=by
 unfold A0B at f;split at f
 .obtain⟨_,d⟩:=A3 f;clear f;split at d
  .rename_i n;cases d;exact H7 n
  .rename_i n;exact(H7 n).trans (H7 d)
  .cases d
 .cases f
def A0O{l c:Value}(a:JU P m t l c=some (v,m')):m.lg.le m'.lg:=by
 unfold JU at a;split at a
 .obtain⟨_,a⟩:=A3 a;split at a
  .obtain⟨_,a⟩:=A3 a;split at a
   .obtain⟨_,a⟩:=A3 a;split at a
    .rename_i d;rw[N9]at a;simp only[hole]at a;have f:=N2 d;rw[(m9 a).2.1,d7,<- f.2.1];exact⟨[_],rfl⟩
    .cases a
   .cases a
  .cases a
 .cases a
def A8M{fr:Fr}{o:Op}(a:dsM P fr m o=some (v,m')):m.lg.le m'.lg:=by
 unfold dsM at a;split at a
 .exact A0O a
 .exact A0R a
 .exact TU a
 .exact KL a
 .exact LB a
 .exact TX a
 .exact A1s a
 .exact A3K a
 .split at a
  .unfold A3W at a;split at a
   .exact(bJ a).2
   .exact(bJ a).2
   .exact(bJ a).2
   .cases a
  .cases a
 .split at a
  .exact(GZ a).2.1
  .cases a
 .cases a
end
end
end Go.Sx
