import Derived.Test.YtbbicpheoakeeaaGreatDoorX3
set_option linter.all false
set_option maxRecDepth 100000
set_option maxHeartbeats 4000000
namespace Go.Sx
variable {rows rows2:List (List U)}{b c cap g i j k o o' sh wd:Nat}{e s t t2 ty:TypeId}{inf:TypeInfo}{fz:Nat×Nat}{b' c' l' v x x' y y' z:Value}{l:Loc}{g0 gs:H5}{cl nul sure:Bool}{d2 ds:TypeDesc}{bh:Beh}{cs cs' new' vs:D3}{td:Td}{row us:List U}{hi lo mx:R3}{op:BinOp}
section
open Go
variable [Ora]
section
variable {P:Program} {base:Nat} {ρ ρ':Ren} {m m':Mem} {w w':World}
def P6.move{R:Nat->Option Obj}{C C':X1}(h:P6 R rows wd C o)(n:∀ i,i<rows.length*wd->C'[o'+i]? = C[o+i]?):P6 R rows wd C' o':=by
 refine⟨h.1,fun r row j u v f a2 a3=>h.2 r row j u v f a2 ?_⟩;have d:=(B1.1 f).1;have a:=(B1.1 a2).1;rw[h.1 _ (D1 f)]at a;have p:(r+1)*wd<=rows.length*wd:=G0 wd d;rw[H7]at p
 have:=n (r*wd+j) A2;rw[show o+r*wd+j=o+(r*wd+j) by omega,<- this,show o'+(r*wd+j)=o'+r*wd+j by omega];exact a3
def P6.append{R:Nat->Option Obj}{C:X1}(h:P6 R rows wd C o)(k:P6 R rows2 wd C (o+rows.length*wd)):P6 R (rows++rows2) wd C o:=by
 refine⟨fun row hr=>(B8.1 hr).elim (h.1 row) (k.1 row),fun r row j u v a a2 a3=>?_⟩;rcases G1 r rows.length with d|d
 .rw[F4 d]at a;exact h.2 r row j u v a a2 a3
 .rw[E4 d]at a;refine k.2 (r-rows.length) row j u v a a2 ?_;have:rows.length*wd+(r-rows.length)*wd=r*wd:=by rw[<- H7];congr 1;omega
  rw[show o+rows.length*wd+(r-rows.length)*wd+j=o+r*wd+j by omega];exact a3
def A9n{t:Nat}{T:TypeId}{lg:Loc}{C:X1}(r:Ora.env c=.seq false wd rows)(p:t=10+wd)(hi:P.info? T=some inf)(q:inf.size=wd)(f:rows.length<=cap)(d:sh+cap*wd<=C.size)
  (a:P6 lg.G rows wd C sh) (u:ρ g=some lg) (hw:w.heap[b]? = some (.cells C T fz)) (n:∀ i,i<C.size->¬ (fz.1<=i/\i<fz.2)):BR P ρ (.sq c t T g false) ⟨b,sh,cap,rows.length,fun _=>none,true⟩ w :=
 ⟨⟨wd,inf,p,hi,q,.inr ⟨rfl,C,fz,T,rows,lg,hw,r,rfl,f,d,a.1,u,a.2,fun _=>⟨rfl,n⟩⟩⟩⟩
def cV{t:Nat}{T:TypeId}{lg:Loc}{C:X1}(h:HR P base ρ m.H w)(E:base<=w.heap.size)(B:bR m c t T g=some (v,m'))(A:K7 ρ m.n m'.hi)
  (q:Ora.env c=.seq false wd rows) (u:t=10+wd) (hi:P.info? T=some inf) (I:inf.size=wd) (a:rows.length<=cap) (p:cap*wd<=C.size) (f:P6 lg.G rows wd C 0) (D:ρ g=some lg) (r:∀ i,i<C.size->¬ (fz.1<=i/\i<fz.2))
  (F:w'.os=w.os/\w'.tape=w.tape/\w'.output=w.output) (hh:w'.heap=w.heap.push (.cells C T fz)):∃ ρ',VR ρ' v (.slice (some ⟨w.heap.size,0,none⟩) rows.length cap)/\St P base ρ ρ' m m' w w':=by
 have d:ρ m.n=none:=by
  obtain⟨_,_,rfl⟩:=M2 B;exact A m.n (A6 _) (L5 _ _).2
 obtain⟨rfl,J,K⟩:=St.alloc (w':=w') (l:=⟨w.heap.size,0,cap,rows.length,fun _=>none,true⟩) h E B A F hh rfl (A9n q u hi I a A2 f (X8 d _ _ D) (by rw[hh];simp) r);exact⟨_,.own (.inr ⟨_,wd,rows,J,rfl,q,rfl,a,rfl⟩) (by rw[q];exact u.symm) rfl,K⟩
def pA{t id:Nat}{T:TypeId}{ab:AB}{lg:Loc}{C:X1}(h:HR P base ρ m.H w)(hle:id<=H8)(A:Hp.get m.H id=some ab)(B:ab.rw=true)(M:ρ id=some l)(r:l.on=true)
  (K:bR (kF m id) c t T g=some (v,m')) (J:K7 ρ m.n m'.hi)
  (D:Ora.env c=.seq false wd rows) (I:t=10+wd) (hi:P.info? T=some inf) (Q:inf.size=wd) (a:rows.length<=cap) (f:sh+cap*wd<=C.size) (q:P6 lg.G rows wd C sh) (L:ρ g=some lg) (E:∀ i,i<C.size->¬ (fz.1<=i/\i<fz.2))
  (N:w'.os=w.os/\w'.tape=w.tape/\w'.output=w.output) (u:w'.heap.size=w.heap.size) (O:∀ k,k≠l.blk->w'.heap[k]? = w.heap[k]?) (hw:w'.heap[l.blk]? = some (.cells C T fz)) :
  ∃ ρ',VR ρ' v (.slice (some ⟨l.blk,sh,none⟩) rows.length cap)/\St P base ρ ρ' m m' w w':=by
 have p:ρ m.n=none:=by
  have d:=K;unfold bR at d;rw[m7]at d;obtain⟨_,_,rfl⟩:=M2 d;exact J m.n (A6 _) (L5 _ _).2
 obtain⟨rfl,R,S⟩:=St.move (w':=w') (l':=⟨l.blk,sh,cap,rows.length,fun _=>none,true⟩) h hle A B M K J (fun _=>⟨r,rfl⟩) N u (fun k F=>O k (F r)) (A9n D I hi Q a f q (X8 p _ _ L) hw E) (fun h=>by cases h);exact⟨_,.own (.inr ⟨_,wd,rows,R,rfl,D,rfl,a,rfl⟩) (by rw[D];exact I.symm) rfl,S⟩
def A8d:Loc:=⟨0,0,0,0,fun _=>none,false⟩
def DR{t:Nat}{T:TypeId}{old:Option Nat}(h:HR P base ρ m.H w)(hold:∀ b,old=some b->∃ ab l,b<=H8/\Hp.get m.H b=some ab/\ab.rw=true/\ρ b=some l/\l.on=false)
  (B:bR (kE old m) c t T g=some (v,m')) (A:K7 ρ m.n m'.hi) (d:Ora.env c=.seq true wd []) (p:t=10+wd) (hi:P.info? T=some inf) (D:inf.size=wd):∃ ρ',VR ρ' v (.slice none 0 0)/\St P base ρ ρ' m m' w w:=by
 have a:∀ ρ':Ren,BR P ρ' (.sq c t T g false) A8d w:=fun ρ'=>⟨⟨wd,inf,p,hi,D,.inl ⟨rfl,d⟩⟩⟩
 cases old with
 | none =>
   obtain⟨rfl,r,u⟩:=St.new0 (l':=A8d) h B A (a _) rfl fun q f=>by
    rcases f with⟨_,f,_⟩|⟨f,_⟩<;>cases f
   exact⟨_,.own (.inl ⟨_,wd,r,rfl,d,rfl⟩) (by rw[d];exact p.symm) rfl,u⟩
 | some b =>
   obtain⟨ab,l,h1,E,h3,C,F⟩:=hold b rfl;obtain⟨rfl,r,u⟩:=St.move (w':=w) (l':=A8d) h h1 E h3 C B A (fun h=>by cases h) ⟨rfl,rfl,rfl⟩ rfl (fun _ _=>rfl) (a _) (fun h=>by cases h);exact⟨_,.own (.inl ⟨_,wd,r,rfl,d,rfl⟩) (by rw[d];exact p.symm) rfl,u⟩
def tW(h:HR P base ρ m.H w)(a:kH gs m=some (g,m'))(u:K7 ρ m.n m'.hi)(d:ρ j=some l):Hp.get m'.H j=Hp.get m.H j:=by
 have main:∀ {gs:H5},(bif gs.all (pF m)then match gT m fun b m=>some (undef,b,m)with
  | some (_,b,m)=>some (b,m)
  | none=>none else none)=some (g,m')->Hp.get m'.H j=Hp.get m.H j:=fun{gs} a=>by
  obtain⟨h1,a⟩:=A3 a;split at a
  .rename_i r b m1 p;cases a;obtain⟨m2,f,q,_⟩:=R5 p;cases q;rw[lR f (h.dom j l d),A7];intro e;subst e;obtain⟨_,_,rfl⟩:=M2 f;rw[u m.n (A6 _) (L5 _ _).2]at d;cases d
  .cases a
 unfold kH at a;split at a
 .obtain⟨h1,a⟩:=A3 a;cases a;rfl
 .exact main a
def N9(a:kH gs m=some (g,m')):m.hi<=m'.hi/\m'.lg=m.lg/\m.n<=m'.n:=by
 have main:∀ {gs:H5},(bif gs.all (pF m)then match gT m fun b m=>some (undef,b,m)with
  | some (_,b,m)=>some (b,m)
  | none=>none else none)=some (g,m')->m.hi<=m'.hi/\m'.lg=m.lg/\m.n<=m'.n:=fun{gs} a=>by
  obtain⟨h1,a⟩:=A3 a;split at a
  .rename_i r b m1 f;cases a;obtain⟨m2,d,p,_⟩:=R5 f;cases p;obtain⟨_,_,rfl⟩:=M2 d;exact⟨(L5 _ _).1,rfl,X7 _⟩
  .cases a
 unfold kH at a;split at a
 .obtain⟨h1,a⟩:=A3 a;cases a;exact⟨A6 _,rfl,A6 _⟩
 .exact main a
def B3M(nul:Bool)(wd:Nat)(rows:List (List U)):List (List U)->U
 | []=>.seq nul wd rows
 | r0::r=>.seq false wd (rows++r0::r)
def MX(h:∃ n w r,mN nul wd rows rows2=.seq n w r):rows.length+rows2.length<=tB/\mN nul wd rows rows2=B3M nul wd rows rows2:=by
 by_cases a:rows.length+rows2.length<=tB
 .refine⟨a,?_⟩;unfold mN;rw[A9 a];cases rows2<;>rfl
 .unfold mN at h;rw[A7 a]at h;obtain⟨_,_,_,h⟩:=h;cases h
def SD{old:Option Nat} 
  (hu:P.underlying t=some (.slice e)) (R:P.underlying t2=some d2) (X:dI d2=true) (hi:P.info? e=some inf) (hz:fT P e=some z) (bw:z.cells.size=inf.size) (bm:inf.bytes<=90000)
  (h:HR P base ρ m.H w) (hb:base<=w.heap.size) (E:KK m e inf.size c old bh (g0++gs)=some (v,m')) (hf:K7 ρ m.n m'.hi) (hS:Sat m'.lg)
  (ak:A3M P base ρ m w e inf.size c g0 old x') (d:XD P ρ w inf.size bh gs y' rows2 new'):VOk P base ρ m w (Builtin.append_ #[t,t2] ty #[x',y']) v m':=by
 unfold KK at E;split at E
 .rename_i g m1 hj;rw[O5]at E;have bo:=N9 hj;generalize bk:fP m1 (10+inf.size) (dP inf.size (hole c (10+inf.size)) bh).1 (dP inf.size (hole c (10+inf.size)) bh).2=lg1 at E;have bz:m'.lg=lg1/\m1.hi<=m'.hi/\m1.n<=m'.n:=by
   unfold bR at E;cases old with
   | none =>
     simp only[kE]at E;obtain⟨_,_,rfl⟩:=M2 E;exact⟨by simp,by simpa using(L5 m1.hi m1.n).1,by simp⟩
   | some b =>
     simp only[kE,m7]at E;obtain⟨_,_,rfl⟩:=M2 E;exact⟨by simp,by simpa using(L5 m1.hi m1.n).1,by simp⟩
  have an:K7 ρ m.n m1.hi:=hf.less bz.2.1;obtain⟨O,lg,e1,e2,e3,e4,e5,e6⟩:=fA h hj an;have q:St P base ρ O m (m1.wLg lg1) w w:=St.trans (by simpa using an) e1 (St.wLg e1.hr lg1);have J:K7 O (m1.wLg lg1).n m'.hi:=by simpa using hf.step e1
  have bt:Sat (m1.wLg lg1).lg:=by simpa [<- bz.1]using hS
  obtain⟨nul,rows,hc,hx⟩:=ak.ex;obtain⟨d1,d2,nx,bj,rws,d3,d4⟩:=kL (m:=m1) (t:=10+inf.size) (op:=(dP inf.size (hole c (10+inf.size)) bh).1) (xs:=(dP inf.size (hole c (10+inf.size)) bh).2) (lg:=lg1) (by simpa using bt) (by rw[i7,bk];exact .refl _);rw[d.ev c nul rows hc]at d1;obtain⟨ar,ah⟩:=MX ⟨nx,bj,rws,d1.symm.trans d3⟩;rw[ah]at d1;have bs:∀ b ∈ g0,∀ l,ρ b=some l->Sub l.G lg.G:=fun b Z l hl=>e6 b (B8.2 (.inl Z)) l hl
  have bp:∀ b ∈ gs,∀ l,ρ b=some l->Sub l.G lg.G:=fun b Z l hl=>e6 b (B8.2 (.inr Z)) l hl
  have ao:=d.rows lg.G bp;have B:∀ {v':Value} {ρ2:Ren} {w2:World},(Builtin.append_ #[t,t2] ty #[x',y']).run P w=.ok v' w2->VR ρ2 v v'->St P base O ρ2 (m1.wLg lg1) m' w w2->VOk P base ρ m w (Builtin.append_ #[t,t2] ty #[x',y']) v m':=fun hr hv hs =>
   ⟨_,_,_,hr,hv,St.trans hf q hs⟩
  have ae:∀ w,(zeroValue e).run P w=.ok z w:=fun w=>aO hz w
  have aw:∀ {j l},ρ j=some l->Hp.get (m1.wLg lg1).H j=Hp.get m.H j:=fun bl=>by rw[lC];exact tW h hj an bl
  have L:(3*(rows.length+rows2.length)+4000)*inf.bytes<=281474976710656:=by
   have h1:3*(rows.length+rows2.length)+4000<=3000004000:=by unfold tB at ar;omega
   have h2:=fK h1 bm;omega
  have W:rows.length+rows2.length<=1000000000:=ar;rcases hx with⟨rfl,rfl,rfl,hold⟩|⟨rfl,b,ab,l,cap,C,fz,rfl,aq,br,S,bu,aa,rfl,F,ax,T,Y,ad⟩
  ·
   have Q:∀ b,old=some b->∃ ab l,b<=H8/\Hp.get (m1.wLg lg1).H b=some ab/\ab.rw=true/\O b=some l/\l.on=false:=fun b Z=>by
    obtain⟨ab,l,I,N,q3,q4,q5⟩:=hold b Z;exact⟨ab,l,I,by rw[aw q4];exact N,q3,e1.ext _ _ q4,q5⟩
   cases f:rows2 with
   | nil =>
     subst f;have D:Ora.env m1.lg.nx=.seq true inf.size []:=d1;obtain⟨ρ2,I,N⟩:=DR q.hr Q E J D rfl hi rfl;have al:new'=[]:=G2.1 (by rw[d.size];simp);exact B (uY hu R X hi (fun wd=>d.len wd) (by have:=d.first w rfl;rw[al]at this;exact this)) I N
   | cons r0 rr =>
     rw[f]at d1;have D:Ora.env m1.lg.nx=.seq false inf.size rows2:=by rw[f];exact d1
     obtain⟨nc,az,p⟩:=iC (P:=P) (w:=w) (ty:=ty) (a:=none) (n:=0) (c:=0) (k:=rows2.length) (old':=[]) (new':=new') (x':=y') hu R X hi ae (fun wd=>d.len wd) (fun _ _=>rfl) (fun wd hw=>d.first wd hw) (by rw[f];simp) (by simpa using L) (by simpa using W);obtain⟨m2,bn,ay⟩:∃ m2,bR m2 m1.lg.nx (10+inf.size) e g=some (v,m')/\St P base O O (m1.wLg lg1) m2 w w:=by
      cases old with
      | none=>exact⟨_,E,St.refl q.hr⟩
      | some b =>
        obtain⟨ab,l,I,N,q3,q4,q5⟩:=Q b rfl;exact⟨_,E,St.kill q.hr I N q3⟩
     obtain⟨ρ2,I,N⟩:=cV (w':={ w.drew with heap:=w.heap.push (.cells (({ toList:=[] }:Array Value)++⟨new'⟩++Builtin.zeroCells z.cells (nc-(0+rows2.length))) e (0,0)) }) (cap:=nc) ay.hr hb bn (J.step ay) D rfl hi rfl A2
      (by have:=eG (s:=inf.size) (k:=rows2.length) (n:=0) (nc:=nc) (z:=z) (old':=[]) d.size az bw (by simp);exact this)
      (ao.move (C':=({ toList:=[] }:Array Value)++⟨new'⟩++Builtin.zeroCells z.cells (nc-(0+rows2.length))) (o':=0) fun i hi'=>by
        have af:i<new'.length:=by rw[d.size];exact hi'
        rw[F7 i];rw[LZ (A5 af)];simp[af]) (ay.ext _ _ e4) (fun i _ hh=>by have h1:0<=i:=hh.1;have h2:i<0:=hh.2;omega) ⟨rfl,rfl,rfl⟩ rfl
     exact B p (by rw[F7];exact I) (St.trans J ay N)
  ·
   have aj:Hp.get (m1.wLg lg1).H b=some ab:=by rw[aw bu];exact br
   have A:=ad lg.G bs;have av:=e1.ext _ _ bu;cases f:rows2 with
   | nil =>
     subst f;have D:Ora.env m1.lg.nx=.seq false inf.size rows:=d1;have al:new'=[]:=G2.1 (by rw[d.size];simp);obtain⟨ρ2,I,N⟩:=pA (w':=w) (cap:=cap) (sh:=l.sh) q.hr aq aj S av aa E J D rfl hi rfl ax T A e4 Y ⟨rfl,rfl,rfl⟩ rfl (fun _ _=>rfl) F;have p:=nJ (P:=P) (w:=w) (w':=w) (ty:=ty) (a:=⟨l.blk,l.sh,none⟩) (n:=rows.length) (k:=0) (c:=cap) (new':=new') hu R X hi (fun wd=>d.len wd) (d.first w rfl) A2 (by rw[al];rfl);exact B p I N
   | cons r0 rr =>
     have D:Ora.env m1.lg.nx=.seq false inf.size (rows++rows2):=by rw[f]at d1 ⊢;exact d1
     by_cases K:rows.length+rows2.length<=cap
     .have au:(rows.length+rows2.length)*inf.size<=cap*inf.size:=G0 _ K;rw[H7]at au;obtain⟨w',r1,r2,r3,r4,r5⟩:=Z7 (P:=P) (b:=l.blk) (o:=rows.length*inf.size+l.sh) (fz:=fz) new' 0 C w F d.flat (by rw[d.size];omega) Y;have ag:(Addr.mk l.blk l.sh none).add (rows.length*inf.size)=⟨l.blk,rows.length*inf.size+l.sh,none⟩:=by
       unfold Addr.add;split
       .rename_i h0;rw[h0];simp
       .simp[jW]
      have p:=nJ (P:=P) (w:=w) (w':=w') (ty:=ty) (a:=⟨l.blk,l.sh,none⟩) (n:=rows.length) (k:=rows2.length) (c:=cap) (new':=new') hu R X hi (fun wd=>d.len wd) (d.first w rfl) K (by rw[ag];exact r1);have V:(Array.mk (cT C.toList (rows.length*inf.size+l.sh+0) new')).size=C.size:=by simp[Z8]
      have bx:∀ j,(Array.mk (cT C.toList (rows.length*inf.size+l.sh+0) new'))[j]? = if rows.length*inf.size+l.sh<=j/\j<rows.length*inf.size+l.sh+new'.length then new'[j-(rows.length*inf.size+l.sh)]? else C[j]? := fun j=>by
       rw[J0,lO _ _ _ _ (by simp;rw[d.size];omega)];simp
      obtain⟨ρ2,I,N⟩:=pA (w':=w') (cap:=cap) (sh:=l.sh) (C:=⟨cT C.toList (rows.length*inf.size+l.sh+0) new'⟩) q.hr aq aj S av aa E J D rfl hi rfl (by simpa using K) (by rw[V];exact T)
       (P6.append (A.move (o':=l.sh) fun i hi'=>by rw[bx,A7 A2]) (ao.move (o':=l.sh+rows.length*inf.size) fun i hi'=>by
         rw[bx,A9 (by rw[d.size];omega),show l.sh+rows.length*inf.size+i-(rows.length*inf.size+l.sh)=i by omega,F7];simp)) e4 (by rw[V];exact Y) r2 r3 r5 r4
      rw[B4]at I;exact B p I N
     .have hold:∃ old',old'.length=rows.length*inf.size/\(∀ i,i<rows.length*inf.size->old'[i]? = C[l.sh+i]?)/\∀ wd:World,wd.heap=w.heap->(Builtin.firstCells inf.size rows.length (.slice (some ⟨l.blk,l.sh,none⟩) rows.length cap)).run P wd=.ok ⟨old'⟩ wd:=by
       have au:rows.length*inf.size<=cap*inf.size:=G0 _ ax;have hlen:((C.toList.drop l.sh).take (rows.length*inf.size)).length=rows.length*inf.size:=by simp;omega
       refine⟨(C.toList.drop l.sh).take (rows.length*inf.size),hlen,fun i hi'=>?_,fun wd hw=>?_⟩
       .rw[E8 hi',I0];simp
       .rw[show Builtin.firstCells inf.size rows.length (.slice (some ⟨l.blk,l.sh,none⟩) rows.length cap)=loadCells ⟨l.blk,l.sh,none⟩ (rows.length*inf.size)from rfl];refine K8 hlen fun j v' hj=>?_
        have ai:=(B1.1 hj).1;rw[hlen]at ai;rw[E8 ai,I0]at hj;rw[cE hw];have bq:C[l.sh+j]? = some v':=by simpa using hj
        simp[World.cell?,F,bq]
      obtain⟨old',o1,o2,o3⟩:=hold;obtain⟨nc,az,p⟩:=iC (P:=P) (w:=w) (ty:=ty) (a:=some ⟨l.blk,l.sh,none⟩) (n:=rows.length) (c:=cap) (k:=rows2.length) (old':=old') (new':=new') (x':=y') hu R X hi ae (fun wd=>d.len wd) o3 (fun wd hw=>d.first wd hw) K L W;have r:=St.kill q.hr aq aj S;obtain⟨ρ2,I,N⟩:=cV (w':={ w.drew with heap:=w.heap.push (.cells (({ toList:=old' }:Array Value)++⟨new'⟩++Builtin.zeroCells z.cells (nc-(rows.length+rows2.length))) e (0,0)) }) (cap:=nc) r.hr hb E (J.step r) D rfl hi rfl (by simpa using az)
       (eG d.size az bw o1)
       (P6.append (A.move (C':=({ toList:=old' }:Array Value)++⟨new'⟩++Builtin.zeroCells z.cells (nc-(rows.length+rows2.length))) (o':=0) fun i hi'=>by
         have M:i<old'.length:=by rw[o1];exact hi'
         rw[F7 i,<- o2 i hi',eH (u:=old'[i]) (by rw[F4 M,A5 M]),A5 M]) (ao.move (o':=0+rows.length*inf.size) fun i hi'=>by
         have M:i<new'.length:=by rw[d.size];exact hi'
         rw[F7 (rows.length*inf.size),F7 i,eH (u:=new'[i]) (by rw[E4 (by rw[o1];omega),o1,X3,A5 M])];simp[M])) (r.ext _ _ e4) (fun i _ hh=>by have h1:0<=i:=hh.1;have h2:i<0:=hh.2;omega) ⟨rfl,rfl,rfl⟩ rfl
      rw[B4]at I;exact B p I (St.trans J r N)
 .cases E
end
end
section
open Go
variable [Ora]
section
variable {P:Program} {base:Nat} {ρ ρ':Ren} {m m':Mem} {w w':World}
def A3r{a:Addr} 
  (hu:P.underlying t=some (.slice e)) (R:P.underlying t2=some d2) (ax:dI d2=true) (hi:P.info? e=some inf) (hz:fT P e=some z) (ar:z.cells.size=inf.size) (az:inf.bytes<=90000)
  (h:HR P base ρ m.H w) (hb:base<=w.heap.size) (q:KK m e inf.size c none bh (b::gs)=some (v,m')) (Y:K7 ρ m.n m'.hi) (hS:Sat m'.lg)
  (hc:Ora.env c=.seq false inf.size rows) (Z:ρ b=some l) (A:Enc l.G (Ora.env c) (.slice (some a) rows.length rows.length)) (d:XD P ρ w inf.size bh gs y' rows2 new') (p:rows2≠[]) :
  VOk P base ρ m w (Builtin.append_ #[t,t2] ty #[.slice (some a) rows.length rows.length,y']) v m':=by
 unfold KK at q;split at q
 .rename_i g m1 N;rw[O5]at q;have W:=N9 N;generalize ay:fP m1 (10+inf.size) (dP inf.size (hole c (10+inf.size)) bh).1 (dP inf.size (hole c (10+inf.size)) bh).2=lg1 at q;have q:bR (m1.wLg lg1) m1.lg.nx (10+inf.size) e g=some (v,m'):=q;have M:m'.lg=lg1/\m1.hi<=m'.hi/\m1.n<=m'.n:=by
   unfold bR at q;obtain⟨_,_,rfl⟩:=M2 q;exact⟨by simp,by simpa using(L5 m1.hi m1.n).1,by simp⟩
  have I:K7 ρ m.n m1.hi:=Y.less M.2.1;obtain⟨L,lg,O,e2,e3,e4,e5,e6⟩:=fA h N I;have B:St P base ρ L m (m1.wLg lg1) w w:=St.trans (by simpa using I) O (St.wLg O.hr lg1);have aw:K7 L (m1.wLg lg1).n m'.hi:=by simpa using Y.step O
  have Q:Sat (m1.wLg lg1).lg:=by simpa [<- M.1]using hS
  obtain⟨d1,d2,nx,au,rws,d3,d4⟩:=kL (m:=m1) (t:=10+inf.size) (op:=(dP inf.size (hole c (10+inf.size)) bh).1) (xs:=(dP inf.size (hole c (10+inf.size)) bh).2) (lg:=lg1) (by simpa using Q) (by rw[i7,ay];exact .refl _);rw[d.ev c false rows hc]at d1;obtain⟨C,E⟩:=MX ⟨nx,au,rws,d1.symm.trans d3⟩;rw[E]at d1;have S:Sub l.G lg.G:=e6 b (.head _) l Z;have V:∀ b ∈ gs,∀ l,ρ b=some l->Sub l.G lg.G:=fun b av l Z=>e6 b (.tail _ av) l Z
  have T:=d.rows lg.G V;have X:∀ w,(zeroValue e).run P w=.ok z w:=fun w=>aO hz w
  have r:(3*(rows.length+rows2.length)+4000)*inf.bytes<=281474976710656:=by
   have h1:3*(rows.length+rows2.length)+4000<=3000004000:=by unfold tB at C;omega
   have h2:=fK h1 az;omega
  have D:rows.length+rows2.length<=1000000000:=C;have ao:0<rows2.length:=dS.2 p;have aq:Ora.env m1.lg.nx=.seq false inf.size (rows++rows2):=by
   cases rows2 with
   | nil=>exact absurd rfl p
   | cons r0 rr=>exact d1
  rw[hc]at A;obtain⟨_,old',J,o2,o3,o4⟩:=uH (w:=w) (A.mono S) ((O.hr.atl e4 e5).1.2);have o5:∀ wd:World,wd.heap=w.heap->(Builtin.firstCells inf.size rows.length (.slice (some a) rows.length rows.length)).run P wd=.ok ⟨old'⟩ wd:=fun wd hw=>by
   rw[show Builtin.firstCells inf.size rows.length (.slice (some a) rows.length rows.length)=loadCells a (rows.length*inf.size)from rfl];exact lY J fun j v' N=>by rw[cE hw];exact o4 j v' N
  obtain⟨nc,F,K⟩:=iC (P:=P) (w:=w) (ty:=ty) (a:=some a) (n:=rows.length) (c:=rows.length) (k:=rows2.length) (old':=old') (new':=new') (x':=y') hu R ax hi X (fun wd=>d.len wd) o5 (fun wd hw=>d.first wd hw) A2 r D;obtain⟨ρ2,q1,q2⟩:=cV (w':={ w.drew with heap:=w.heap.push (.cells (({ toList:=old' }:Array Value)++⟨new'⟩++Builtin.zeroCells z.cells (nc-(rows.length+rows2.length))) e (0,0)) }) (cap:=nc) B.hr hb q aw aq rfl hi rfl (by simpa using F)
   (eG d.size F ar J)
   (P6.append (o3.move (C':=({ toList:=old' }:Array Value)++⟨new'⟩++Builtin.zeroCells z.cells (nc-(rows.length+rows2.length))) (o':=0) fun i hi'=>by
     have f:i<old'.length:=by rw[J];exact hi'
     rw[F7 i,eH (u:=old'[i]) (by rw[F4 f,A5 f])];simp[f]) (T.move (o':=0+rows.length*inf.size) fun i hi'=>by
     have f:i<new'.length:=by rw[d.size];exact hi'
     rw[F7 (rows.length*inf.size),F7 i,eH (u:=new'[i]) (by rw[E4 (by rw[J];omega),J,X3,A5 f])];simp[f])) e4 (fun i _ hh=>by have h1:0<=i:=hh.1;have h2:i<0:=hh.2;omega) ⟨rfl,rfl,rfl⟩ rfl
  rw[B4]at q1;exact⟨_,_,_,K,q1,St.trans Y B q2⟩
 .cases q
def WY(d:BM P td)(a:A2w td P m e wd y=some (bh,gs,sure,m')):m.hi<=m'.hi/\m.lg.le m'.lg/\m.n<=m'.n:=by
 unfold A2w at a;split at a
 .cases a;exact⟨A6 _,.refl _,A6 _⟩
 .split at a
  .split at a
   .rename_i f;cases a;exact S8 d f
   .cases a
  .cases a
 .split at a
  .rename_i f;cases a;exact d.mono f
  .cases a
 .obtain⟨h1,a⟩:=A3 a;cases a;exact⟨A6 _,.refl _,A6 _⟩
def jP(d:BM P td){old:Option Nat}(a:FE td P m e wd x=some (c,gs,old,m')):m.hi<=m'.hi/\m.lg.le m'.lg/\m.n<=m'.n:=by
 unfold FE at a;split at a
 .rw[O5]at a;simp only[hole]at a;cases a;exact⟨by simp,W3,by simp⟩
 .split at a
  .obtain⟨h1,a⟩:=A3 a;cases a;exact⟨A6 _,.refl _,A6 _⟩
  .cases a
 .split at a
  .obtain⟨h1,a⟩:=A3 a;split at a
   .rename_i f;split at a
    .obtain⟨h1,a⟩:=A3 a;rw[O5]at a;simp only[hole]at a;cases a
     have:=S8 d f;exact⟨by simpa using this.1,this.2.1.trans W3,by simpa using this.2.2⟩
    .cases a
   .cases a
  .cases a
 .cases a
def r9{t:Nat}{T:TypeId}(h:bR m c t T g=some (v,m')):m.hi<=m'.hi/\m'.lg=m.lg/\m.n<=m'.n:=by
 unfold bR at h;obtain⟨_,_,rfl⟩:=M2 h;exact⟨(L5 _ _).1,rfl,X7 _⟩
def cC(old:Option Nat)(m:Mem):(kE old m).hi=m.hi/\(kE old m).lg=m.lg/\(kE old m).n=m.n:=by
 cases old with
 | none=>exact⟨rfl,rfl,rfl⟩
 | some b=>simp[kE,m7]
def nL{old:Option Nat}(d:KK m e wd c old bh gs=some (v,m')):m.hi<=m'.hi/\m.lg.le m'.lg/\m.n<=m'.n:=by
 unfold KK at d;split at d
 .rename_i g m1 r;rw[O5]at d;have a:=N9 r;have b:=r9 d;obtain⟨p,f,q⟩:=cC old (m1.wLg (fP m1 (10+wd) (dP wd (hole c (10+wd)) bh).1 (dP wd (hole c (10+wd)) bh).2));refine⟨?_,?_,?_⟩
  .have:=b.1;rw[p]at this;simp at this;omega
  .rw[b.2.1,f,<- a.2.1];exact W3
  .have:=b.2.2;rw[q]at this;simp at this;omega
 .cases d
def PI{t:Nat}{T:TypeId}{old:Option Nat}(h:HR P base ρ m.H w)(hold:∀ b,old=some b->b<=H8/\Hp.get m.H b≠some .frz)(f:bR (kE old m) c t T g=some (v,m'))(r:K7 ρ m.n m'.hi):n8 ρ m m':=fun j l h1 d=>by
 have p:=cC old m;unfold bR at f;rw[lR f (h.dom j l h1),A7]
 .cases old with
  | none=>exact d
  | some b =>
    show Hp.get (kF m b).H j=_;rw[m7];show Hp.get (m.H.set b none) j=_;obtain⟨q,a⟩:=hold b rfl;rw[F1 _ _ _ _ q (h.dom j l h1),A7]
    .exact d
    .intro e;subst e;exact a d
 .intro e;obtain⟨_,_,rfl⟩:=M2 f;rw[p.2.2]at e;subst e;rw[r m.n (A6 _) (Nat.lt_of_le_of_lt (Nat.le_of_eq p.2.2.symm) (L5 (kE old m).hi (kE old m).n).2)]at h1;cases h1
omit [Ora] in
def OM(h:P.info? e=some inf):H4 P e=some inf.size:=by unfold H4;rw[h]
def DO(f:BM P td)(d:VZ td P m e wd x=some (v,m')):m.hi<=m'.hi/\m.lg.le m'.lg/\m.n<=m'.n:=by
 unfold VZ at d;split at d
 .obtain⟨_,d⟩:=A3 d;split at d
  .rename_i p;have a:=jP f p;split at d
   .rename_i q;have b:=N9 q;have c:=r9 d;refine⟨?_,?_,?_⟩
    .have:=c.1;rw[(cC _ _).1]at this;omega
    .rw[c.2.1,(cC _ _).2.1,b.2.1];exact a.2.1
    .have:=c.2.2;rw[(cC _ _).2.2]at this;omega
   .cases d
  .cases d
 .cases d
def SI(Q:BM P td)(h:HR P base ρ m.H w)(d:VZ td P m e wd x=some (v,m'))(Z:K7 ρ m.n m'.hi)(hx:VR ρ x x')(hS:Sat m'.lg) :
  ∃ ρ',VR ρ' v x'/\St P base ρ ρ' m m' w w/\m.lg.le m'.lg/\n8 ρ m m':=by
 unfold VZ at d;split at d
 .rename_i inf hi;obtain⟨h1,d⟩:=A3 d;obtain⟨h1,h2⟩:=B7 h1;have h1:=A0 h1;have h2:0<wd:=A1 h2;split at d
  .rename_i c gs old m1 N;have a:=jP Q N;split at d
   .rename_i g m2 hj;have b:=N9 hj;have cm:=r9 d;have k1:=cC old m2;have T:m'.lg=m1.lg:=by rw[cm.2.1,k1.2.1,b.2.1]
    have J:m2.hi<=m'.hi:=by have:=cm.1;rw[k1.1]at this;exact this
    obtain⟨V,M,e2,e3,e4⟩:=NJ Q h N (Z.less (C6 b.1 J)) hx (by rw[<- T];exact hS) h2 (h1▸OM hi);have q:K7 V m1.n m'.hi:=Z.step M;obtain⟨ρ2,lg,u,j2,j3,j4,j5,j6⟩:=fA M.hr hj (q.less J);have L:K7 ρ2 m2.n m'.hi:=q.step u;obtain⟨nul,rows,hc,az⟩:=e4.ex;have B:∀ {j l},V j=some l->Hp.get m2.H j=Hp.get m1.H j:=fun aw=>tW M.hr hj (q.less J) aw
    have hle:m.lg.le m'.lg:=by rw[T];exact a.2.1
    have p:(∀ b,old=some b->b<=H8/\Hp.get m2.H b≠some .frz)->n8 ρ m m':=fun hq=>(e3.trans M.ext j3).trans (fun b l N=>u.ext b l (M.ext b l N)) (PI u.hr hq d L)
    rcases az with⟨rfl,rfl,rfl,hold⟩|⟨rfl,b0,ab,l,cap,C,fz,rfl,O,ay,A,Y,ax,rfl,D,S,F,W,R⟩
    .have f:∀ b,old=some b->∃ ab l,b<=H8/\Hp.get m2.H b=some ab/\ab.rw=true/\ρ2 b=some l/\l.on=false:=fun b r=>by
      obtain⟨ab,l,E,I,q3,q4,q5⟩:=hold b r;exact⟨ab,l,E,by rw[B q4];exact I,q3,u.ext _ _ q4,q5⟩
     obtain⟨K,E,I⟩:=DR u.hr f d L hc rfl hi h1;exact⟨K,E,St.trans Z M (St.trans q u I),hle,p fun b r=>by
      obtain⟨ab,l,E,I,q3,_⟩:=f b r;exact⟨E,fun he=>by rw[I]at he;cases he;cases q3⟩⟩
    .have X:Hp.get m2.H b0=some ab:=by rw[B Y];exact ay
     obtain⟨K,E,I⟩:=pA (w':=w) (cap:=cap) (sh:=l.sh) u.hr O X A (u.ext _ _ Y) ax d L hc rfl hi h1 S F (R lg.G fun b N l hl=>j6 b N l hl) j4 W ⟨rfl,rfl,rfl⟩ rfl (fun _ _=>rfl) D;exact⟨K,E,St.trans Z M (St.trans q u I),hle,p fun b r=>by
      cases r;exact⟨O,fun he=>by rw[X]at he;cases he;cases A⟩⟩
   .cases d
  .cases d
 .cases d
def RA:∀ (d:Nat),BM P (XR P d)
 | 0=>XS
 | d+1=>by
   have u:=RA d;refine⟨fun{base ρ m m' w t v v' x b} h f p hv q=>?_,fun{m m' t v x b} f=>?_⟩
   .unfold XR at f;split at f
    .split at f
     .split at f
      .rename_i C m1 r;have a:=hP f;obtain⟨E,A,n,D,B⟩:=SI u h r (p.less a.1) hv (q.le a.2.1);obtain⟨ρ2,l,d1,d2,d3,d4,d5,d6⟩:=FP n.hr f (p.step n) A q;exact⟨ρ2,l,St.trans p n d1,d2,d3,d4,d5,D.trans d6,B.trans n.ext (JB n.hr f (p.step n))⟩
      .cases f
     .cases f
    .exact XS.ok h f p hv q
   .unfold XR at f;split at f
    .split at f
     .split at f
      .rename_i C m1 r;have a:=DO u r;have b:=hP f;exact⟨C6 a.1 b.1,a.2.1.trans b.2.1,C6 a.2.2 b.2.2⟩
      .cases f
     .cases f
    .exact hP f
def V5:BM P (tdP P):=RA 3
def IG(d:tD P m t t2 x y=some (v,m')):m.hi<=m'.hi/\m.lg.le m'.lg/\m.n<=m'.n:=by
 unfold tD at d;split at d
 .rename_i e d2 hu r;cases p:dI d2 with
  | false=>rw[p]at d;cases d
  | true =>
    rw[p]at d;simp only[R0,E3]at d;split at d
    .obtain⟨_,d⟩:=A3 d;split at d
     .rename_i f;have a:=WY V5 f;split at d
      .rename_i q;have b:=jP V5 q;have c:=nL d;exact⟨A2,a.2.1.trans (b.2.1.trans c.2.1),A2⟩
      .split at d
       .obtain⟨_,d⟩:=A3 d;have c:=nL d;exact⟨A2,a.2.1.trans c.2.1,A2⟩
       .cases d
     .cases d
    .cases d
 .cases d
def XD.step(h:XD P ρ w wd bh gs y' rows2 new')(f:∀ b ∈ gs,∃ l,ρ b=some l)(he:∀ b l,ρ b=some l->ρ' b=some l):XD P ρ' w wd bh gs y' rows2 new' :=
 ⟨h.len,h.first,h.size,h.flat,fun R hR=>h.rows R fun b a l d=>hR b a l (he b l d),h.ev⟩
def XF{n:Nat}(h:XG P e n=true):∃ z,fT P e=some z/\z.cells.size=n:=by
 unfold XG at h;split at h
 .rename_i z a;exact⟨z,a,A0 h⟩
 .cases h
def QR(h:HR P base ρ m.H w)(N:base<=w.heap.size)(p:tD P m t t2 x y=some (v,m'))(B:K7 ρ m.n m'.hi)(hx:VR ρ x x')(hy:VR ρ y y')(M:Sat m'.lg) :
  VOk P base ρ m w (Builtin.append_ #[t,t2] ty #[x',y']) v m':=by
 unfold tD at p;split at p
 .rename_i e d2 hu F;cases q:dI d2 with
  | false=>rw[q]at p;cases p
  | true =>
    rw[q]at p;simp only[R0,E3]at p;split at p
    .rename_i inf hi;obtain⟨hq,d⟩:=A3 p;clear p;obtain⟨Y,az⟩:=B7 hq;obtain⟨ax,ay⟩:=B7 Y;have I:=A1 ax;have E:0<inf.size:=A1 ay;obtain⟨z,hz,K⟩:=XF az;have D:H4 P e=some inf.size:=by unfold H4;rw[hi]
     split at d
     .rename_i bh gs sure m1 C;split at d
      .rename_i c g0 old m2 S;have mb:=jP V5 S;have mp:=nL d;have G:K7 ρ m.n m1.hi:=B.less A2;obtain⟨A,rows2,new',u,a2,a3,a4,a5,a6⟩:=UQ V5 h C G hy (M.le (mb.2.1.trans mp.2.1)) E D;have r:K7 A m1.n m'.hi:=B.step u;obtain⟨ρ2,W,b2,b3,b4⟩:=NJ V5 u.hr S (r.less mp.1) (hx.mono u.ext) (M.le mp.2.1) E D;obtain⟨v',f,w3,R,V,O⟩:=SD (ty:=ty) hu F q hi hz K I W.hr N d (r.step W) M b4 (a5.step (fun b aw=>(a4 b aw).2) W.ext);exact⟨v',f,w3,R,V,St.trans B (St.trans (B.less mp.1) u W) O⟩
      .split at d
       .rename_i b c tg au;obtain⟨T,L⟩:=A3 d;clear d;have T:=A0 T;have mp:=nL L;have G:K7 ρ m.n m1.hi:=B.less A2;obtain⟨A,rows2,new',u,a2,a3,a4,a5,a6⟩:=UQ V5 h C G hy (M.le mp.2.1) E D;have r:K7 A m1.n m'.hi:=B.step u;obtain⟨l,d1,d2,d3,d4,d5⟩:=gA hx;obtain⟨nul,av,rows,X,q2⟩:=gG d2 d3 d4;have Z:av=inf.size:=A2;subst Z;rw[X]at d2;rcases v6 d2 with⟨rfl,rfl,rfl⟩|⟨rfl,a,cap,rfl,hc⟩
        .have J:A3M P base A m1 w e inf.size c [b] none (.slice none 0 0):=⟨true,[],X,.inl ⟨rfl,rfl,rfl,fun b N=>by cases N⟩⟩;obtain⟨v',f,w3,R,V,O⟩:=SD (ty:=ty) (g0:=[b]) (gs:=gs) hu F q hi hz K I u.hr N L r M J a5;exact⟨v',f,w3,R,V,St.trans B u O⟩
        .have Q:cap=rows.length:=d5;subst Q;obtain⟨v',f,w3,R,V,O⟩:=A3r (ty:=ty) hu F q hi hz K I u.hr N L r M X (u.ext _ _ d1) (by rw[X];exact d2) a5 (a6 rfl);exact⟨v',f,w3,R,V,St.trans B u O⟩
       .cases d
     .cases d
    .cases p
 .cases p
end
end
section
open Go
variable [Ora]
section
variable {P:Program} {base:Nat} {ρ ρ':Ren} {m m':Mem} {w w':World}
def KE(h:o+us.length<=row.length):(yX row o us).length=row.length:=by
 unfold yX;simp;omega
def A0Y(h:o+us.length<=row.length):(yX row o us)[j]? = if o<=j/\j<o+us.length then us[j-o]? else row[j]? := by
 unfold yX;have a:(row.take o).length=o:=by simp;omega
 by_cases h1:j<o
 .rw[A7 A2,M0,F4 A2,E8 h1]
 .by_cases d:j<o+us.length
  .rw[A9 ⟨A2,d⟩,M0,E4 A2,a,F4 A2]
  .rw[A7 A2,E4 (by simp;omega),I0];congr 1
   simp;omega
def P6.set{R:Nat->Option Obj}{s:Nat}{C C':X1}(h:P6 R rows wd C s)(A:k<rows.length)(I:o+us.length<=wd)(he:Z5 R us vs)
  (hC:∀ j,C'[j]? = if s+k*wd+o<=j/\j<s+k*wd+o+vs.length then vs[j-(s+k*wd+o)]? else C[j]?):P6 R (rows.set k (yX (rows.getD k []) o us)) wd C' s:=by
 have d:rows[k]? = some rows[k]:=A5 A;have q:rows.getD k []=rows[k]:=by rw[B0,d];rfl
 have f:rows[k].length=wd:=h.1 _ (O4 A);rw[q];refine⟨fun row hr=>?_,fun r row j u v a a2 a3=>?_⟩
 .rcases fQ hr with h1|rfl
  .exact h.1 row h1
  .rw[KE A2];exact f
 .rw[hC]at a3;by_cases p:k=r
  .subst p;rw[S5 A]at a;have a:=A8 a;subst a;have E:=(B1.1 a2).1;rw[KE A2,f]at E;rw[A0Y A2]at a2;by_cases n:o<=j/\j<o+us.length
   .rw[A9 n]at a2;rw[A9 (by rw[<- he.1];omega)]at a3;exact he.2 (j-o) u v a2 (by rw[<- a3];congr 1;omega)
   .rw[A7 n]at a2;rw[A7 (by rw[<- he.1];omega)]at a3;exact h.2 k _ j u v d a2 a3
  .rw[dF p]at a;have E:=(B1.1 a2).1;rw[h.1 _ (D1 a)]at E;have G:=(B1.1 a).1;have H:=he.1;rw[A7]at a3
   .exact h.2 r row j u v a a2 a3
   .rcases G1 r k with B|F
    .have D:(r+1)*wd<=k*wd:=G0 wd B;rw[H7]at D;omega
    .have D:(k+1)*wd<=r*wd:=G0 wd A2;rw[H7]at D;omega
def VE(h:HR P base ρ m.H w)(f:yF P m t x y=some (v,m'))(S:K7 ρ m.n m'.hi)(hx:VR ρ x x')(hy:VR ρ y y')(hS:Sat m'.lg):UOk P base ρ m w (Instr.storeAt t x' y') m'/\v=undef/\m.lg.le m'.lg:=by
 unfold yF at f;split at f
 .rename_i b i tg z o ts au;cases B:jG y with
  | true=>rw[B]at f;cases f
  | false =>
  rw[B]at f;simp only[E3]at f;split at f
  .rename_i xs gs m1 hd;split at f
   .rename_i c tc T g hg;obtain⟨Q,p⟩:=A3 f;clear f;have Q:=A0 Q;split at p
    .rename_i g2 m2 hj;rw[O5]at p;simp only[hole]at p;obtain⟨hs,rfl⟩:=nQ p;obtain⟨ah,az⟩:=V0 hs;have md:=S8 V5 hd;have mj:=N9 hj;have af:m2.hi=m'.hi:=by rw[az];simp
     have X:m'.lg=fP m2 tg (.set (tg-10) o) (hole c tg::z::xs):=by rw[az];simp[hole]
     have aw:m2.lg.le m'.lg:=by rw[X];exact⟨[_],rfl⟩
     have ar:K7 ρ m.n m1.hi:=S.less A2;have ay:m1.lg.le m'.lg:=by rw[<- mj.2.1];exact aw
     obtain⟨Y,J,e2,e3,e4,e5,e6⟩:=iT V5 h hd ar (hy.cells B) (hS.le ay);have Z:K7 Y m1.n m2.hi:=(S.step J).less A2;obtain⟨ρ2,lg,d1,d2,d3,d4,d5,d6⟩:=fA J.hr hj Z;obtain⟨⟨l,wd,jZ,k,a1,a2,a3,a4,a5,a6,rfl⟩,a8⟩:=xK hx;have E:=J.ext _ _ a1;obtain⟨a,inf,q1,q2,q3,K⟩:=SqR.ex (J.hr.atl E hg).1;rcases K with⟨K,_⟩|⟨_,K⟩
     .rw[a2]at K;cases K
     obtain⟨C,fz,T',rows,W,f1,f2,f3,f4,f5,f6,f7,f8,f9⟩:=K;have av:a=wd:=by
      have:tg=10+wd:=by rw[<- a8,a3];rfl
      omega
     subst av;obtain⟨rfl,f10⟩:=f9 rfl;have an:tg=10+a:=A2;have ai:Sat (m2.wLg (fP m2 tg (.set (tg-10) o) (hole c tg::z::xs))).lg:=by rw[i7,<- X];exact hS
     obtain⟨r1,r2,nul,ae,rws,r3,r4⟩:=kL ai (.refl _);obtain⟨kk,hz⟩:=IF a4;have F:(hole c tg::z::xs).map (E0 Ora.env)=.seq false a rows::.int kk (.ofNat k)::xs.map (E0 Ora.env):=by
      show Ora.env c::E0 Ora.env z::xs.map (E0 Ora.env)=_;rw[f2,hz]
     rw[F,show tg-10=a by omega]at r1;have r1:Ora.env m2.lg.nx=if a=a/\k<rows.length/\o+(xs.map (E0 Ora.env)).length<=a then .seq false a (rows.set k (yX (rows.getD k []) o (xs.map (E0 Ora.env))))else .none:=r1
     by_cases hc:a=a/\k<rows.length/\o+(xs.map (E0 Ora.env)).length<=a
     .rw[A9 hc]at r1;obtain⟨_,N,O⟩:=hc;have hR:∀ b' ∈ gs,∀ l',Y b'=some l'->Sub l'.G lg.G:=fun b' al l' ak=>d6 b' (.tail _ al) l' ak
      have d:=e6 lg.G hR;have D:Sub W.G lg.G:=d6 g (.head _) W f7;have I:y'.cells.toList.length=(xs.map (E0 Ora.env)).length:=d.1.symm;have ao:(k+1)*a<=l.cap*a:=G0 a A2;rw[H7]at ao;obtain⟨w',g1,aq,g3,g4,g5⟩:=Z7 (P:=P) (b:=l.blk) (o:=l.sh+k*a+o) (fz:=fz) y'.cells.toList 0 C w f1 (EM d) (by rw[I];omega) f10;have ag:C.toList.length=C.size:=S1;have r:(Array.mk (cT C.toList (l.sh+k*a+o+0) y'.cells.toList)).size=C.size:=by simp[Z8]
      have R:∀ j,(Array.mk (cT C.toList (l.sh+k*a+o+0) y'.cells.toList))[j]? = if l.sh+k*a+o<=j/\j<l.sh+k*a+o+y'.cells.toList.length then y'.cells.toList[j-(l.sh+k*a+o)]? else C[j]? := fun j=>by
       rw[J0,lO _ _ _ _ (by rw[I];omega)];simp
      have q:P6 lg.G rows a C l.sh:=P6.mono ⟨f6,f8⟩ D;have u:St P base ρ ρ2 m (m2.wLg (fP m2 tg (.set (tg-10) o) (hole c tg::z::xs))) w w:=St.trans (S.less (by simp;omega)) (St.trans (S.less A2) J d1) (St.wLg d1.hr _);have A:Hp.get (m2.wLg (fP m2 tg (.set (tg-10) o) (hole c tg::z::xs))).H b=some (.sq c tc T' g false):=by rw[lC,tW J.hr hj Z E];exact hg
      have M:=d1.ext _ _ E;have aj:BR P ρ2 (.sq m2.lg.nx tg T' g2 false) l w':=by
       refine⟨⟨a,inf,an,q2,q3,.inr ⟨a2,_,fz,T',_,lg,g4,r1,by rw[Q0];exact f3,f4,by rw[r];exact f5,(q.set N O d R).1,d4,(q.set N O d R).2,fun _=>⟨rfl,by rw[r];exact f10⟩⟩⟩⟩
      have ax:=St.write u.hr hs A rfl M a2 aq g3 g5 aj (fun h=>by cases h);refine⟨⟨ρ2,w',?_,St.trans S u ax⟩,rfl,md.2.1.trans ay⟩;have L:=iU au;have V:ts.length=(xs.map (E0 Ora.env)).length:=by
       have:=E1 List.length e5;rw[E9]at this;exact this.symm
      have e:y'.cells.size=ts.length:=by rw[V,<- I];simp
      simp[Instr.storeAt,Instr.sureAddr,storeVar,A4,L4 L,Result.andThen,e,g1]
     .rw[A7 hc]at r1;rw[r1]at r3;cases r3
    .cases p
   .cases f
  .cases f
 .cases f
def VH{lo' hi' mx':R3}(h:HR P base ρ m.H w)(a:yH P m t x lo hi mx=some (v,m'))(K:K7 ρ m.n m'.hi)(hx:VR ρ x x')(q:OR ρ lo lo')(p:OR ρ hi hi')(f:OR ρ mx mx')(D:Sat m'.lg) :
  VOk P base ρ m w (Instr.sliceAt t x' lo' hi' mx') v m'/\m.lg.le m'.lg:=by
 unfold yH at a;split at a
 .rename_i e b i tg hu;split at a
  .rename_i s u;obtain⟨d,a⟩:=A3 a;have d:=A0 d;obtain⟨l,h1,F,h3,M⟩:=nV hx;obtain⟨⟨r,g1,g2⟩,⟨lg,rfl⟩,g4⟩:=HV (w:=w) hu u d h1 F h3 (fun h=>by cases h) a q p f D;exact⟨⟨r,ρ,w,g1,g2,St.wLg h lg⟩,g4⟩
  .cases a
 .rename_i e b i tg hu;split at a
  .rename_i s u;obtain⟨d,a⟩:=A3 a;have d:=A0 d;obtain⟨l,h1,F,h3,M,Q⟩:=gA hx;obtain⟨⟨r,g1,g2⟩,⟨lg,rfl⟩,g4⟩:=HV (w:=w) hu u d h1 F h3 (fun _=>Q) a q p f D;exact⟨⟨r,ρ,w,g1,g2,St.wLg h lg⟩,g4⟩
  .cases a
 .rename_i e b i tg hu;split at a
  .rename_i s u;obtain⟨d,a⟩:=A3 a;have d:=A0 d;split at a
   .rename_i c tc L m1 O;have A:∀ {m1:Mem},MP m1 L c tg false lo hi mx=some (v,m')->K2 m1 m'/\m1.lg.le m'.lg:=fun{m1} a=>by
     have go:∀ {m1:Mem} {l h:Value} {cc:Bool},gH m1 L c tg l h cc=some (v,m')->K2 m1 m'/\m1.lg.le m'.lg:=fun h=>by
      unfold gH at h;obtain⟨_,h⟩:=A3 h;rw[O5]at h;simp only[D5,L9]at h;obtain⟨_,rfl⟩:=h;exact⟨⟨_,rfl⟩,W3⟩
     unfold MP MO at a;split at a
     .exact go a
     .exact go (A3 a).2
     .split at a
      .rename_i J
       have:=go a;exact⟨(cB J).1.trans this.1,(cB J).2.trans this.2⟩
      .cases a
     .cases a
    obtain⟨⟨lg,I⟩,hle⟩:=A a;have R:m1.hi=m'.hi:=by rw[I];simp
    obtain⟨C,l,E,T,W,V,S,N⟩:=FP h O (K.less A2) hx (D.le hle);have mono:∀ {o o':R3},OR ρ o o'->OR C o o':=fun{o o'} h=>by
     cases o<;>cases o'<;>first|exact trivial|exact h.elim|exact VR.mono E.ext h
    obtain⟨⟨r,g1,g2⟩,⟨G,B⟩,g4⟩:=HV (w:=w) (cl:=false) hu u d T V S (fun h=>by cases h) a (mono q) (mono p) (mono f) D;subst B;exact⟨⟨r,C,w,g1,g2,St.trans (K.less (by simp)) E (St.wLg E.hr G)⟩,N.trans g4⟩
   .cases a
  .cases a
 .cases a
end
end
section
open Go
variable [Ora]
section
variable {P:Program} {base:Nat} {ρ ρ':Ren} {m m':Mem} {w w':World}
def CZ{a':Addr}{n c':Nat}{a:List Int}(q:P.underlying s=some (.slice e))(p:P.underlying t=some .string)(he:P.underlying e=some (.int .u8))(d:(loadCells a' n).run P w=.ok (a.map (Value.int .u8)).toArray w) :
  (convert s t (.slice (some a') n c')).run P w=.ok (.string ⟨⟨a.map fun n=>UInt8.ofNat n.toNat⟩⟩) w:=by
 have:=run_bytesToString w a' n c' a d;have f:=pI a [];simp only[H1]at f;simp only[convert,A4,D2 q,D2 p,D2 he,Result.andThen];rw[this,show ByteArray.empty=ByteArray.mk ⟨[]⟩from rfl,f]
def FX{n:Nat}(a:P.underlying s=some (.slice e))(d:P.underlying t=some .string)(he:P.underlying e=some (.int .u8)):(convert s t (.slice none n c)).run P w=.ok (.string ByteArray.empty) w:=by
 simp[convert,A4,D2 a,D2 d,D2 he,Result.andThen,Conv.bytesToString]
def JU{b:ByteArray}(E:P.underlying s=some ds)(D:P.underlying t=some (.slice e))(he:P.underlying e=some (.int .u8))(w:World) :
  ∃ (cap:Nat) (C:Array Value),b.size<=cap/\C.size=cap/\(∀ (i:Nat) (u:Value),(Q1 b.data.toList)[i]? = some u->C[i]? = some u)/\(convert s t (.string b)).run P w=.ok (.slice (some ⟨w.heap.size,0,none⟩) b.size cap) { w.drew with heap:=w.heap.push (.cells C e (C.size,C.size+1)) }:=by
 let q:Question:=.appendCap b.size 0 e
 let cap:=q.cut (w.tape w.drawn q)
 have d:b.size<=cap:=by show b.size<=b.size+_;omega
 have A:(choose q).run P w=.ok cap w.drew:=by
  simp only[choose,Sem.run];rw[A7 (by simp[q,Question.forced])];rfl
 let C:X1:=(b.data.map fun b=>Value.int .u8 b.toNat)++Array.replicate (cap-b.size) (.int .u8 0)
 have hC:C.size=cap:=by
  have:b.data.size=b.size:=rfl;simp[C,this];omega
 refine⟨cap,C,d,hC,fun i u hi=>?_,?_⟩
 .have B:=(B1.1 hi).1;simp[Q1]at B;have n:i<(b.data.map fun b=>Value.int .u8 b.toNat).size:=by simpa using B
  show((b.data.map fun b=>Value.int .u8 b.toNat)++Array.replicate (cap-b.size) (.int .u8 0))[i]? = some u;rw[T8 n]
  simpa [Q1]using hi
 .have r:∀ w2:World,w2.heap[w.heap.size]? = some (.cells C e (0,0))->(markStringish ⟨w.heap.size,0,none⟩).run P w2=.ok () (w2.freeze { block:=w.heap.size,off:=C.size } 1):=fun w2 F=>by
   simp[markStringish,shape,freeze,Sem.run,World.shape?,F]
  have f:({ w.drew with heap:=w.heap.push (.cells C e (0,0)) }:World).freeze { block:=w.heap.size,off:=C.size } 1={ w.drew with heap:=w.heap.push (.cells C e (C.size,C.size+1)) }:=by
   unfold World.freeze;rw[A7 F3];congr 1;apply Array.ext_getElem?;intro i;rw[H3];by_cases hi:w.heap.size=i
   .subst hi;simp
   .rw[A7 hi];simp only[l5];rw[A7 (fun h=>hi h.symm),A7 (fun h=>hi h.symm)]
  have a:(convert s t (.string b)).run P w=(Conv.stringToBytes e b).run P w:=by
   cases ds<;>simp[convert,A4,D2 E,D2 D,D2 he,Result.andThen]
  rw[a];unfold Conv.stringToBytes;simp only[A4,show(choose (.appendCap b.size 0 e)).run P w=.ok cap w.drew from A,Result.andThen];have p:(newRow e C).run P w.drew=.ok ⟨w.heap.size,0,none⟩ { w.drew with heap:=w.heap.push (.cells C e (0,0)) }:=rfl;rw[show(newRow e ((b.data.map fun b=>Value.int .u8 b.toNat)++Array.replicate (cap-b.size) (.int .u8 0))).run P w.drew=_ from p];simp only[Result.andThen];rw[r _ (by simp),f];rfl
def IA:∀ {us:List U} {s:List UInt8} {vs:D3},uL us=some s->Z5 (fun k=>w.heap[k]?) us vs->∃ d:List Int,vs=d.map (Value.int .u8)/\s=d.map fun n=>UInt8.ofNat n.toNat
 | [],s,vs,h,he=>by
   cases h;have:vs=[]:=G2.1 he.1.symm;subst this;exact⟨[],rfl,rfl⟩
 | u::us,s,vs,h,he=>by
   unfold uL at h;split at h
   .rename_i heq;cases heq
   .rename_i n r heq;cases heq;split at h
    .split at h
     .rename_i l f;cases h;cases vs with
      | nil=>have:=he.1;simp at this
      | cons v vr =>
        obtain⟨d,p,A⟩:=IA (vs:=vr) f ⟨by have:=he.1;simpa using this,fun i a b h1 q=>he.2 (i+1) a b (by simpa using h1) (by simpa using q)⟩
        have:=gF (he.2 0 _ v rfl rfl) rfl;subst this;exact⟨(Int.ofNat n)::d,by rw[p];rfl,by rw[A];rfl⟩
     .cases h
    .cases h
   .cases h
def IB:∀ {rows:List (List U)} {s:List UInt8},uM rows=some s->uL (rows.flatMap id)=some s/\(rows.flatMap id).length=rows.length/\∀ (r:Nat) (row:List U) (j:Nat) (u:U),rows[r]? = some row->row[j]? = some u->j=0/\(rows.flatMap id)[r]? = some u
 | [],s,h=>by cases h;exact⟨rfl,rfl,fun r row j u h=>by simp at h⟩
 | row::rows,s,h=>by
   unfold uM at h;split at h
   .rename_i heq;cases heq
   .rename_i n r heq;cases heq;split at h
    .rename_i B;split at h
     .rename_i l d;cases h;obtain⟨h1,p,h3⟩:=IB d;refine⟨?_,by show([U.int .u8 (Int.ofNat n)]++rows.flatMap id).length=_;rw[B4,p];simp;omega,fun q row j u a a2=>?_⟩
      .simp only[gN,id,T4,H1,uL];rw[A9 B,h1]
      .cases q with
       | zero =>
         simp at a;subst a;cases j with
         | zero=>simp at a2;subst a2;exact⟨rfl,rfl⟩
         | succ j=>simp at a2
       | succ q =>
         obtain⟨f,A⟩:=h3 q row j u (by simpa using a) a2;exact⟨f,by simpa using A⟩
     .cases h
    .cases h
   .cases h
def qR{t:Nat}:∀ {l:D3},l7 t l=true->∀ v ∈ l,G8 v=t
 | [],_,v,hv=>by cases hv
 | x::r,h,v,hv=>by
   obtain⟨h1,a⟩:=B7 (show(Nat.beq (G8 x) t && l7 t r)=true from h);rcases B6.1 hv with rfl|hv
   .exact A0 h1
   .exact qR a v hv
def sU{R:Nat->Option Obj}(h:LR ρ cs cs')(f:∀ v ∈ cs,G8 v<10):Z5 R (cs.map (E0 Ora.env)) cs':=by
 refine⟨by simp[h.1],fun i u v a a2=>?_⟩;rw[F9]at a;cases d:cs[i]? with
 | none=>rw[d]at a;cases a
 | some x =>
   rw[d]at a;have a:=A8 a;subst a;exact .sc (aJ (h.2 i x v d a2) (f x (D1 d))).1
def LL(m m1:Mem):A6m m m1=⟨m.H,m.n,m.W,m1.hi,m1.lg⟩:=by cases m;cases m1;rfl
def St.kept{ρ:Ren}{m:Mem}{w:World}{hi:Nat}{lg:Lg}(h:HR P base ρ m.H w)(hh:m.hi<=hi):St P base ρ ρ m ⟨m.H,m.n,m.W,hi,lg⟩ w w :=
 ⟨fun _ _ h=>h,fun b l h1 a=>(by rw[h1]at a;cases a),A6 _,hh,fun h=>C6 h hh,h,fun _ h=>h,fun b h1 a=>absurd h1 a,fun _ _ _=>rfl,A6 _,⟨rfl,rfl,rfl⟩,fun b l h1 a=>(by rw[h1]at a;cases a),fun _ _ _ _=>rfl,fun _ h=>.inr h⟩
def A2f(h:HR P base ρ m.H w)(hb:base<=w.heap.size)(d:MT P m s t x=some (v,m'))(V:K7 ρ m.n m'.hi)(hx:VR ρ x x')(hS:Sat m'.lg):VOk P base ρ m w (convert s t x') v m'/\m.lg.le m'.lg:=by
 unfold MT at d;split at d
 .rename_i e a n c Q M;split at d
  .rename_i he;split at d
   .rename_i cs hr;obtain⟨E,d⟩:=A3 d;obtain⟨u,p,e2,r,N,O,e5⟩:=N2 d hS;obtain⟨lg,rfl⟩:=H6 d;have q:=St.wLg h lg;have J:=qR E;have key:∀ {a' c'} {L:D3},LR ρ cs L->(loadCells a' n).run P w=.ok ⟨L⟩ w->VOk P base ρ m w (convert s t (.slice (some a') n c')) v (m.wLg lg):=fun{a' c' L} X ay=>by
     have aw:Z5 (fun k=>w.heap[k]?) (cs.map (E0 Ora.env)) L:=sU X (fun v hv=>by rw[J v hv];omega);have K:∃ f,uL (cs.map (E0 Ora.env))=some f/\u=.str f:=by
      have p:(match uL (cs.map (E0 Ora.env))with|some s=>U.str s|none=>.none)=u:=p;split at p
      .rename_i f A;exact⟨f,A,p.symm⟩
      .subst p;cases N
     obtain⟨f,I,rfl⟩:=K;cases N;obtain⟨ns,r1,r2⟩:=IA (w:=w) I aw;subst r1;subst r2;exact⟨_,ρ,w,CZ Q M he ay,O ρ,q⟩
    refine⟨?_,H9 d⟩;rcases P8 hx with⟨l,X,_,_,rfl⟩|⟨l,c',X,_,_,_,_,rfl⟩|⟨a',c',_,rfl,_,rfl⟩
    .obtain⟨L,g1,g2,g3⟩:=d8 h hr X;exact key g1 (K8 g2 g3)
    .obtain⟨L,g1,g2,g3⟩:=d8 h hr X;exact key g1 (K8 g2 g3)
    .have:cs=[]:=by
      unfold u6 at hr;split at hr
      .have:=(jM hr).2;simpa using this
      .cases hr
     subst this;exact key .nil (by simp[loadCells,loadCellsFrom])
   .cases d
  .cases d
 .rename_i e fn a1 a2 Q M;split at d
  .rename_i he;split at d
   .rename_i hh b m1 hd;rw[LL]at d;obtain⟨u,p,e2,r,N,O,e5⟩:=N2 d hS;have hle:=H9 d;obtain⟨lg,rfl⟩:=H6 d;obtain⟨Z,l,d1,d2,d3,d4,d5,d6⟩:=FP h hd (V.less (by simp[Mem.wLg])) hx (hS.le hle);have q:St P base ρ ρ m (Mem.wLg ⟨m.H,m.n,m.W,m1.hi,m1.lg⟩ lg) w w:=St.kept h d1.hle;obtain⟨nul,wd,rows,I,q2⟩:=gG d4 d5 A2;have az:wd=1:=A2;subst az;rw[I]at d4;have K:∃ f,uM rows=some f/\u=.str f:=by
     have p:evU .str [E0 Ora.env hh]=u:=p;rw[I]at p;have p:(if 1=1 then(match uM rows with|some s=>U.str s|none=>.none)else .none)=u:=p;rw[A9 rfl]at p;split at p
     .rename_i f A;exact⟨f,A,p.symm⟩
     .subst p;cases N
    obtain⟨f,A,rfl⟩:=K;cases N;refine⟨?_,d6.trans hle⟩;have hG:=(d1.hr.atl d2 d3).1.2;rcases v6 d4 with⟨rfl,rfl,rfl⟩|⟨rfl,a,c,rfl,hc⟩
    .cases A;exact⟨_,ρ,w,FX Q M he,O ρ,q⟩
    .obtain⟨_,new',g1,g2,g3,g4⟩:=uH (w:=w) d4 hG;obtain⟨k1,k2,k3⟩:=IB A;have S:Z5 (fun k=>w.heap[k]?) (rows.flatMap id) new':=by
      refine⟨by rw[k2,g1];simp,fun i u v b1 b2=>?_⟩;have D:i<rows.length:=by have:=(B1.1 b1).1;rw[k2]at this;exact this
      have au:rows[i].length=1:=g3.1 _ (O4 D);have F:rows[i]? = some rows[i]:=A5 D;have h0:rows[i][0]? = some (rows[i][0]' A2):=A5 A2;obtain⟨_,k4⟩:=k3 i _ 0 _ F h0;rw[b1]at k4;have k4:=A8 k4;rw[k4];exact(g3.2 i _ 0 _ v F h0 (by simpa using b2)).mono hG
     obtain⟨ns,r1,r2⟩:=IA (w:=w) k1 S;subst r1;subst r2;have ax:(ns.map (Value.int .u8)).length=rows.length:=by rw[g1];omega
     exact⟨_,ρ,w,CZ Q M he (lY ax g4),O ρ,q⟩
   .cases d
  .cases d
 .rename_i y _ _ _ ds e Q M;obtain⟨E,d⟩:=A3 d;have E:=A0 E;split at d
  .rename_i he;split at d
   .rename_i B;split at d
    .rename_i g m1 hj;rw[O5]at d;simp only[hole]at d;have d:bR (m1.wLg (fP m1 11 .byt [y])) m1.lg.nx 11 e g=some (v,m'):=d;have mj:=N9 hj;have mn:=r9 d;simp only[NT,i7,XJ]at mn;obtain⟨Z,lg,p,e2,N,O,e5,e6⟩:=fA h hj (V.less A2);have q:St P base ρ Z m (m1.wLg (fP m1 11 .byt [y])) w w:=St.trans (V.less (by simp;omega)) p (St.wLg p.hr _);obtain⟨f,rfl,f1⟩:=o7 hx E;obtain⟨r1,r2,_⟩:=kL (m:=m1) (t:=11) (op:=.byt) (xs:=[y]) (lg:=m'.lg) hS (by rw[i7,mn.2.1];exact .refl _);have r1:Ora.env m1.lg.nx=evU .byt [E0 Ora.env y]:=r1;rw[f1]at r1;have r1:Ora.env m1.lg.nx=.seq false 1 (jY f):=r1;obtain⟨cap,C,c1,c2,c3,c4⟩:=JU (P:=P) (b:=⟨⟨f⟩⟩) Q M he w;obtain⟨inf,T,Y⟩:∃ inf,P.info? e=some inf/\inf.size=1:=by
      unfold H4 at B;cases hi:P.info? e with
      | none=>rw[hi]at B;cases B
      | some inf=>rw[hi]at B;exact⟨inf,rfl,A8 B⟩
     have av:ByteArray.size ⟨⟨f⟩⟩=f.length:=rfl;rw[av]at c1 c4;obtain⟨ρ2,I,q2⟩:=cV (w':={ w.drew with heap:=w.heap.push (.cells C e (C.size,C.size+1)) }) (cap:=cap) (C:=C) q.hr hb d (by simpa using(V.less (A6 _)).step p) r1 rfl T Y (by rw[iD];exact c1) A2
      ((JW (R:=lg.G) f).move (o':=0) fun i hi=>by
        rw[iD]at hi;have D:i<(Q1 f).length:=by simp[Q1];omega
        rw[F7,c3 i (Q1 f)[i] (A5 D)];simp[D]) O (fun i hi hh=>by have:=hh.1;simp only at this;omega) ⟨rfl,rfl,rfl⟩ rfl
     rw[iD]at I;exact⟨⟨_,ρ2,_,c4,I,St.trans V q q2⟩,by rw[mn.2.1,<- mj.2.1];exact⟨[_],rfl⟩⟩
    .cases d
   .cases d
  .cases d
 .cases d
def VN(hu:P.underlying t=some (.slice e))(hi:P.info? e=some inf)(n:inf.bytes<=90000)(h0:0<inf.size)(A:∀ w,(zeroValue e).run P w=.ok z w)(p:k<=tB)(w:World) :
  (Instr.makeSlice t (.int .i64 (Int.ofNat k)) (.int .i64 (Int.ofNat k))).run P w=.ok (.slice (some ⟨w.heap.size,0,none⟩) k k) { w with heap:=w.heap.push (.cells ((Array.range (k*inf.size)).map (z.cells[· % z.cells.size]!)) e (0,0)) }:=by
 have p:k<=1000000000:=p;have r:H4 P e=some inf.size:=by simp[H4,hi]
 have wl:IntKind.i64.wrap (Int.ofNat k)=Int.ofNat k:=qD .i64 k (by simp only[NY];omega);have hm:k*inf.bytes<=1000000000*90000:=fK p n;have a:(askRoom (k*inf.bytes)).run P w=.ok () w:=by
  unfold askRoom roomBytes;rw[A7 A2];rfl
 have q:((inf.bytes:Int)*(k:Int))=((k*inf.bytes:Nat):Int):=by rw[bK];simp
 unfold Instr.makeSlice;simp only[A4,D2 hu,asInt,asIntOf,Result.andThen,Sem.run_pure,V6 hi,wl];rw[A7]
 .have f:(Int.ofNat k).toNat=k:=by simp
  simp only[A4,Sem.run_pure,Result.andThen,f,a,L4 r];by_cases d:k*inf.size=0
  .have u:∀ z:X1,Array.map (fun x=>z[x%z.size]!) (Array.range (k*inf.size))=⟨[]⟩:=fun z=>by rw[d];apply J3;simp
   simp only[A9 d,u];rfl
  .simp only[A7 d,A4,Sem.run_pure,Result.andThen,A];rfl
 .have h:Int.ofNat k=(k:Int):=rfl;simp only[h,q];simp;omega
def XE{R:Nat->Option Obj}{s:Nat}(h0:0<s)(d:z.cells.size=s)(q:LR ρ z.cells.toList z.cells.toList)(p:∀ v ∈ z.cells.toList,G8 v<10):P6 R (List.replicate k (z.cells.toList.map (E0 Ora.env))) s ((Array.range (k*s)).map (z.cells[· % z.cells.size]!)) 0:=by
 have he:=sU (R:=R) q p;refine⟨fun row hr=>?_,fun r row j u v g1 g2 g3=>?_⟩
 .rw[(List.mem_replicate.1 hr).2];simp[d]
 .have hr:=(B1.1 g1).1;rw[U1]at hr;rw[List.getElem?_replicate,A9 hr]at g1;cases g1;have n:=(B1.1 g2).1;simp only[E9,S1]at n;rw[d]at n;have hm:(r*s+j)%s=j:=by rw[bK,Nat.mul_add_mod,g7 n]
  have f:r*s+j<k*s:=by
   have:(r+1)*s<=k*s:=G0 s hr;rw[H7,gM]at this;omega
  rw[F7,Array.getElem?_map,Array.getElem?_range,A9 f]at g3;simp only[L6,D5,d,hm]at g3;have a:j<z.cells.size:=A2;rw[getElem!_pos z.cells j a]at g3;refine he.2 j u v g2 ?_;rw[Q2,F5 a,g3]
def A1G{l c:Value}(h:HR P base ρ m.H w)(N:base<=w.heap.size)(a:KZ P m t l c=some (v,m'))(C:K7 ρ m.n m'.hi)(M:VR ρ l l')(S:VR ρ c c')(O:Sat m'.lg):VOk P base ρ m w (Instr.makeSlice t l' c') v m'/\m.lg.le m'.lg:=by
 unfold KZ at a;split at a
 .rename_i e i Z j tj hu;obtain⟨d,B⟩:=A3 a;clear a;obtain⟨d,h3⟩:=B7 d;obtain⟨h1,F⟩:=B7 d;have h1:=A0 h1;have F:=A0 F;have h3:=A0 h3;subst h1 F h3;have a:=B;clear B;split at a
  .rename_i inf hi;obtain⟨d,a⟩:=A3 a;obtain⟨p,f⟩:=B7 d;have p:=A1 p;have f:0<inf.size:=A1 f;split at a
   .rename_i z I;obtain⟨d,a⟩:=A3 a;obtain⟨u,r⟩:=B7 d;have u:=A0 u;have r:∀ v ∈ z.cells.toList,G8 v<10:=fun v hv=>A1 (D7.1 r v hv)
    split at a
    .rename_i g m1 L;rw[O5]at a;simp only[hole]at a;have a:bR (m1.wLg (fP m1 (10+inf.size) (.rep inf.size) (hole i 3::z.cells.toList))) m1.lg.nx (10+inf.size) e g=some (v,m'):=a;have R:=N9 L;have D:=r9 a;simp only[NT,i7,XJ]at D;obtain⟨G,lg,E,e2,e3,T,e5,Y⟩:=fA h L (C.less A2);have A:St P base ρ G m (m1.wLg (fP m1 (10+inf.size) (.rep inf.size) (hole i 3::z.cells.toList))) w w:=St.trans (C.less (by simp;omega)) E (St.wLg E.hr _);obtain⟨k,n,rfl,f1,f2⟩:=N4 (v:=hole i 3) M (show(3:Nat)<8 by decide);obtain⟨k2,W,rfl,f3,f4⟩:=N4 (v:=hole i 3) S (show(3:Nat)<8 by decide);rw[f1]at f3;cases f3;obtain⟨r1,r2,nul,wd,rows,J,X⟩:=kL (m:=m1) (t:=10+inf.size) (op:=.rep inf.size) (xs:=hole i 3::z.cells.toList) (lg:=m'.lg) O (by rw[i7,D.2.1];exact .refl _);have r1:Ora.env m1.lg.nx=evU (.rep inf.size) (E0 Ora.env (hole i 3)::z.cells.toList.map (E0 Ora.env)):=r1;rw[f1]at r1;have Q:k=.i64:=by
      have f2:(3:Nat)=iH k:=f2;cases k<;>first|rfl|(exfalso;revert f2;decide)
     subst Q;cases n with
     | negSucc q=>rw[J]at r1;cases r1
     | ofNat q =>
       have r1:Ora.env m1.lg.nx=if(z.cells.toList.map (E0 Ora.env)).length=inf.size/\q<=tB then .seq false inf.size (List.replicate q (z.cells.toList.map (E0 Ora.env)))else .none:=r1
       by_cases d:(z.cells.toList.map (E0 Ora.env)).length=inf.size/\q<=tB
       .rw[A9 d]at r1;obtain⟨ρ2,K,V⟩:=cV (w':={ w with heap:=w.heap.push (.cells ((Array.range (q*inf.size)).map (z.cells[· % z.cells.size]!)) e (0,0)) }) (cap:=q) (fz:=(0,0)) A.hr N a (by simpa using(C.less (A6 _)).step E) r1 rfl hi rfl (by simp) (by simp)
         (XE (ρ:=ρ) f u (pZ I) r) T (fun i hi hh=>by have:=hh.2;simp only at this;omega) ⟨rfl,rfl,rfl⟩ rfl
        rw[U1]at K;exact⟨⟨_,ρ2,_,VN hu hi p f (fun w=>aO I w) d.2 w,K,St.trans C A V⟩,by rw[D.2.1,<- R.2.1];exact⟨[_],rfl⟩⟩
       .rw[A7 d,J]at r1;cases r1
    .cases a
   .cases a
  .cases a
 .cases a
end
end
section
open Go
variable [Ora]
section
variable {P:Program} {base:Nat} {ρ ρ':Ren} {m m':Mem} {w w':World}
def SN{t:Nat}(h:U5 m 8 .nilp [hole i t]=some (v,m'))(hi:Ora.env i=.seq nul wd rows)(n:Sat m'.lg):VR ρ v (.bool nul)/\K2 m m'/\m.lg.le m'.lg:=by
 obtain⟨u,d,A,r,f,p,q⟩:=N2 h n;have a:[hole i t].map (E0 Ora.env)=[.seq nul wd rows]:=by
  show[Ora.env i]=_;rw[hi]
 rw[a]at d;have d:U.bool nul=u:=d;subst d;cases f;exact⟨p ρ,H6 h,H9 h⟩
def DA{x y:Operand}{a:Option Addr}{n:Nat}(hu:P.underlying t=some (.slice e))(B:(a=none/\n=0/\c=0/\nul=true)∨(nul=false/\∃ q:Addr,a=some q/\n<=c))(p:op=.eql∨op=.neq)(w:World) :
  (do eqGuard op t x y (.slice a n c) (.slice none 0 0);binOp op t (.slice a n c) (.slice none 0 0):Sem Value).run P w=.ok (.bool (if op=.eql then nul else !nul)) w:=by
 have key:∀ {ρ:Ren} {am:Value},VR ρ am (.slice a n c)->mE P t x y am (.slice none 0 0)=true->sZ P .eql t am (.slice none 0 0)=some (.bool nul)->sZ P .neq t am (.slice none 0 0)=some (.bool !nul) ->
   (do eqGuard op t x y (.slice a n c) (.slice none 0 0);binOp op t (.slice a n c) (.slice none 0 0):Sem Value).run P w=.ok (.bool (if op=.eql then nul else !nul)) w:=fun{ρ am} hv r h1 A=>by
  have f:VR ρ (.slice none 0 0) (.slice none 0 0):=.pure rfl;have u:=sL (op:=op) (fun _=>r) hv f w;rcases p with rfl|rfl
  .obtain⟨g1,_⟩:=xS h1 hv f w;simp[A4,u,g1,Result.andThen]
  .obtain⟨g1,_⟩:=xS A hv f w;simp[A4,u,g1,Result.andThen]
 rcases B with⟨rfl,rfl,rfl,rfl⟩|⟨rfl,q,rfl,C⟩
 .refine key (ρ:=fun _=>none) (am:=.slice none 0 0) (.pure rfl) rfl ?_ ?_
  .simp[sZ,DH,eqM,hu]
  .simp[sZ,DH,eqM,hu]
 .obtain⟨d,h⟩:∃ d,Op.maxDepth=d+1:=⟨Op.maxDepth-1,rfl⟩;have he:∀ w,(Op.equal t (.slice (some q) n c) (.slice none 0 0)).run P w=.ok false w:=fun w=>by
   rw[Op.equal,h];simp[Op.equalIn,A4,D2 hu,Result.andThen]
  have r:∀ o:BinOp,(eqGuard o t x y (.slice (some q) n c) (.slice none 0 0)).run P w=.ok () w:=fun o=>by
   unfold eqGuard;cases o<;>rfl
  rcases p with rfl|rfl
  .rw[A4,r];show(do pure (.bool (<- Op.equal t (.slice (some q) n c) (.slice none 0 0))):Sem Value).run P w=_;rw[A4,he];rfl
  .rw[A4,r];show(do pure (.bool (!(<- Op.equal t (.slice (some q) n c) (.slice none 0 0)))):Sem Value).run P w=_;rw[A4,he];rfl
def A33{x y:Operand}{a a' b:Value}(F:A07 P m op t x y a b=some (v,m'))(I:VR ρ a a')(Q:VR ρ b b')(J:Sat m'.lg) :
  (∃ r,(do eqGuard op t x y a' b';binOp op t a' b':Sem Value).run P w=.ok r w/\VR ρ v r)/\K2 m m'/\m.lg.le m'.lg:=by
 unfold A07 at F;split at F
 .rename_i e k T i tg hu;obtain⟨d,f⟩:=A3 F;clear F;obtain⟨d,h⟩:=B7 d;obtain⟨d,N⟩:=B7 d;have L:b'=.slice none 0 0:=by
   unfold A1u at d;split at d
   .exact Q3 Q
   .cases d
  subst L;obtain⟨nul,wd,rows,B,n,c,D,rfl,O⟩:∃ nul wd rows B n c,Ora.env i=.seq nul wd rows/\a'=.slice B n c/\((B=none/\n=0/\c=0/\nul=true)∨(nul=false/\∃ q:Addr,B=some q/\n<=c)):=by
   have C:∀ {l:Loc},Enc l.G (Ora.env i) a'->G4 (Ora.env i)=tg->10<=tg->∃ nul wd rows B n c,Ora.env i=.seq nul wd rows/\a'=.slice B n c/\((B=none/\n=0/\c=0/\nul=true)∨(nul=false/\∃ q:Addr,B=some q/\n<=c)):=fun A h3 E=>by
    obtain⟨nul,wd,rows,D,_⟩:=gG A h3 E;rw[D]at A;rcases v6 A with⟨rfl,rfl,rfl⟩|⟨rfl,q,c,rfl,S⟩
    .exact⟨_,_,_,_,_,_,D,rfl,.inl ⟨rfl,rfl,rfl,rfl⟩⟩
    .exact⟨_,_,_,_,_,_,D,rfl,.inr ⟨rfl,q,rfl,S⟩⟩
   rcases(J2 _ _).mp h with h|h
   .rcases(J2 _ _).mp h with h|h
    .have:=A0 h;subst this;obtain⟨l,_,A,h3,E⟩:=nV I;exact C A h3 E
    .have:=A0 h;subst this;obtain⟨l,_,A,h3,E,_⟩:=gA I;exact C A h3 E
   .have:=A0 h;subst this;rcases(fZ I).1 with⟨l,wd,h1,A,h3,rfl⟩|⟨l,wd,rows,h1,A,h3,E,M,rfl⟩
    .exact⟨_,_,_,_,_,_,h3,rfl,.inl ⟨rfl,rfl,rfl,rfl⟩⟩
    .exact⟨_,_,_,_,_,_,h3,rfl,.inr ⟨rfl,_,rfl,M⟩⟩
  split at f
  .rename_i r H;cases f;obtain⟨g1,g2,g3⟩:=SN (ρ:=ρ) H D J;exact⟨⟨_,DA hu O (.inl rfl) w,g1⟩,g2,g3⟩
  .rename_i hh m1 H;have hle:=H9 f;obtain⟨g1,g2,g3⟩:=SN (ρ:=ρ) H D (J.le hle);obtain⟨u,f1,f2,r,f3,f4,f5⟩:=N2 f J;obtain⟨rfl,R⟩:=jF H;have K:E0 Ora.env (hole m.lg.nx 8)=.bool nul:=by
    obtain⟨p,_⟩:=aJ g1 (by show(8:Nat)<10;omega);cases d:E0 Ora.env (hole m.lg.nx 8)with
    | bool b=>rw[d]at p;cases p;rfl
    | int k n=>rw[d]at p;cases p
    | str s=>rw[d]at p;cases p
    | none=>rw[d]at p;cases p
    | seq _ _ _=>rw[d]at p;cases p
   have f1:ev1 .not (E0 Ora.env (hole m.lg.nx 8))=u:=f1;rw[K]at f1;have f1:U.bool (!nul)=u:=f1;subst f1;cases f3;exact⟨⟨_,DA hu O (.inr rfl) w,f4 ρ⟩,g2.trans (H6 f),g3.trans hle⟩
  .cases f
 .cases F
def A9N{fr:Fr}{g:Operand->Value}{o:Oper}(h:HR P base ρ m.H w)(C:base<=w.heap.size)(d:dsM P fr m o.op=some (v,m'))(A:K7 ρ m.n m'.hi)(J:FR ρ fr g o.op)(f:Sat m'.lg):NOk P base ρ m w (execOp g o) v m':=by
 obtain⟨dst,op,ty,pos,L,K⟩:=o;simp only at d J;have a:∀ {x},x ∈ op.operands.toList->VR ρ (ev fr x) (g x):=fun hx=>J _ hx
 have fin:∀ {s:Sem Value},(∃ r,s.run P w=.ok r w/\VR ρ v r)->K2 m m'->NOk P base ρ m w (do pure (.value (<- s))) v m':=fun{s} ⟨r,h1,O⟩ ⟨lg,M⟩=>by
  subst M;exact NOk.of ⟨r,ρ,w,h1,O,St.wLg h lg⟩
 unfold dsM at d;split at d
 .rename_i t x y;exact NOk.of (A1G h C d A (a (x:=x) (by simp[Op.operands])) (a (x:=y) (by simp[Op.operands])) f).1
 .rename_i t x;obtain⟨g1,g2,_⟩:=A1J (w:=w) h d (a (x:=x) (by simp[Op.operands])) f;exact fin (s:=Instr.loadAt t (g x)) g1 g2
 .rename_i t x y;obtain⟨g1,rfl,_⟩:=VE h d A (a (x:=x) (by simp[Op.operands])) (a (x:=y) (by simp[Op.operands])) f;exact NOk.ofU (s:=Instr.storeAt t (g x) (g y)) g1
 .rename_i t x i;obtain⟨g1,g2,_⟩:=LQ (w:=w) d (a (x:=x) (by simp[Op.operands])) (a (x:=i) (by simp[Op.operands])) f;exact fin (s:=Instr.indexAt t (g x) (g i)) g1 g2
 .rename_i s x i;obtain⟨g1,rfl⟩:=MI (w:=w) d (a (x:=x) (by simp[Op.operands]));exact fin (s:=Instr.fieldAt s (g x) i) g1 (.refl _)
 .rename_i t x lo hi mx;obtain⟨g1,_⟩:=VH h d A (a (x:=x) (by simp[Op.operands])) (jJ (g:=g) fun y p=>a (by simp[Op.operands]at p ⊢;exact .inr (.inl p))) (jJ (g:=g) fun y p=>a (by simp[Op.operands]at p ⊢;exact .inr (.inr (.inl p)))) (jJ (g:=g) fun y p=>a (by simp[Op.operands]at p ⊢;exact .inr (.inr (.inr p)))) f;exact NOk.of (s:=Instr.sliceAt t (g x) (lo.map g) (hi.map g) (mx.map g)) g1
 .rename_i s t x;exact NOk.of (A2f h C d A (a (x:=x) (by simp[Op.operands])) f).1
 .rename_i op t x y S;obtain⟨g1,g2,_⟩:=A33 (w:=w) d (a (x:=x) (by simp[Op.operands])) (a (x:=y) (by simp[Op.operands])) f;exact fin (s:=do eqGuard op t x y (g x) (g y);binOp op t (g x) (g y)) g1 g2
 .rename_i xs tys;have l1:=dJ (ρ:=ρ) (fr:=fr) (g:=g) (xs:=xs.toList) fun x hx=>a (by show x ∈ (#[]++xs:Array Operand).toList;simpa using hx)
  split at d
  .rename_i x t rest u q;rw[u]at l1;obtain⟨x',r1,E,D,I⟩:=l1.tail
   have:=I.nil_inv;subst this;obtain⟨g1,g2,_⟩:=A4F (w:=w) (ty:=ty) (tys:=rest) d D f;obtain⟨ks,F⟩:∃ ks,execOp g ⟨dst,.call ⟨.builtin .len,xs,tys⟩,ty,pos,L,K⟩=builtin .len tys ty ks (xs.map g):=⟨#[],rfl⟩;have B:xs.map g=⟨xs.toList.map g⟩:=by apply J3;simp
   have G:tys=⟨t::rest⟩:=by rw[<- q]
   rw[F,B,E,G];exact fin (s:=Builtin.len_ ⟨t::rest⟩ ty #[x']) g1 g2
  .cases d
 .rename_i xs tys;have l1:=dJ (ρ:=ρ) (fr:=fr) (g:=g) (xs:=xs.toList) fun x hx=>a (by show x ∈ (#[]++xs:Array Operand).toList;simpa using hx)
  split at d
  .rename_i x y t t2 rest u q;rw[u]at l1;obtain⟨x',r1,E,D,I⟩:=l1.tail;obtain⟨y',T,Q,N,R⟩:=I.tail
   have:=R.nil_inv;subst this
   have:=QR (ty:=ty) h C d A D N f;obtain⟨ks,F⟩:∃ ks,execOp g ⟨dst,.call ⟨.builtin .append,xs,tys⟩,ty,pos,L,K⟩=builtin .append tys ty ks (xs.map g):=⟨#[],rfl⟩;have B:xs.map g=⟨xs.toList.map g⟩:=by apply J3;simp
   have G:tys=⟨t::t2::rest⟩:=by rw[<- q]
   rw[F,B,E,Q,G];have e:Builtin.append_ ⟨t::t2::rest⟩ ty #[x',y']=Builtin.append_ #[t,t2] ty #[x',y']:=rfl;refine NOk.of (s:=Builtin.append_ ⟨t::t2::rest⟩ ty #[x',y']) ?_;rw[e];exact this
  .cases d
 .cases d
def gD{wd o i t g:Nat}{z:Value}:∀ {ts:H5} {j:Nat} {m m':Mem} {r:D3},Y6 wd o i t z g ts j m=some (r,m')->m.lg.le m'.lg
 | [],j,m,m',r,h=>by cases h;exact .refl _
 | tg::ts,j,m,m',r,h=>by
   unfold Y6 at h;cases a:Nat.blt tg 10 with
   | true =>
     rw[a]at h;simp only[E6]at h;split at h
     .rename_i d;split at h
      .rename_i hr;cases h;exact(H9 d).trans (gD hr)
      .cases h
     .cases h
   | false =>
     rw[a]at h;simp only[E3]at h;rw[LG]at h;split at h
     .rename_i hr;cases h;exact W3.trans (gD hr)
     .cases h
def FK{r:Option (D3×Mem)}(h:mP P t r=some (v,m')):∃ vs,r=some (vs,m'):=by
 unfold mP at h;split at h
 .cases h;exact⟨_,rfl⟩
 .cases h;exact⟨_,rfl⟩
 .cases h
def A1K(a:LF P m t x=some (v,m')):m.lg.le m'.lg:=by
 unfold LF at a;split at a
 .obtain⟨_,a⟩:=A3 a;obtain⟨vs,h⟩:=FK a;exact gD h
 .split at a
  .obtain⟨_,a⟩:=A3 a;obtain⟨vs,h⟩:=FK a;exact gD h
  .cases a
 .cases a
def VF(a:yF P m t x y=some (v,m')):m.lg.le m'.lg:=by
 unfold yF at a;split at a
 .cases d:jG y with
  | true=>rw[d]at a;cases a
  | false =>
    rw[d]at a;simp only[E3]at a;split at a
    .rename_i p;split at a
     .obtain⟨_,a⟩:=A3 a;split at a
      .rename_i q;rw[O5]at a;simp only[hole]at a;obtain⟨n,_⟩:=nQ a;have md:=S8 V5 p;have f:=N9 q;refine md.2.1.trans ?_;rw[(V0 n).2,<- f.2.1];simp only[i7];exact⟨[_],rfl⟩
      .cases a
     .cases a
    .cases a
 .cases a
def A4Q{t:Nat}{k:Value}(h:LT m i t z k=some (v,m')):m.lg.le m'.lg:=by
 unfold LT at h;cases a:!(Nat.blt (G8 z) 8)with
 | true=>rw[a]at h;cases h
 | false =>
   rw[a]at h;simp only[E3]at h;split at h
   .rename_i f;split at h
    .rename_i d;cases h;exact(H9 f).trans (fI d)
    .cases h
   .cases h
def LS(h:mD P m t x z=some (v,m')):m.lg.le m'.lg:=by
 unfold mD at h;split at h;all_goals first
  | (split at h
     .obtain⟨_,h⟩:=A3 h;exact A4Q h
     .cases h;done)
  | (split at h
     .obtain⟨_,h⟩:=A3 h;rw[F0]at h;cases h;exact .refl _
     .cases h;done)
  | cases h
def MJ{f:Nat}(h:mH P m s x f=some (v,m')):m.lg.le m'.lg:=by
 unfold mH at h;split at h;all_goals first
  | (split at h
     .split at h
      .obtain⟨_,h⟩:=A3 h;rw[F0]at h;cases h;exact .refl _
      .cases h
     .cases h;done)
  | cases h
def HW{t:Nat}(a:MP m b i t cl lo hi mx=some (v,m')):m.lg.le m'.lg:=by
 have go:∀ {m1:Mem} {l h:Value} {cc:Bool},gH m1 b i t l h cc=some (v,m')->m1.lg.le m'.lg:=fun h=>by
  unfold gH at h;obtain⟨_,h⟩:=A3 h;rw[O5]at h;simp only[D5,L9]at h;obtain⟨_,rfl⟩:=h;exact W3
 unfold MP MO at a;split at a
 .exact go a
 .exact go (A3 a).2
 .split at a
  .rename_i d;exact(cB d).2.trans (go a)
  .cases a
 .cases a
def VI(a:yH P m t x lo hi mx=some (v,m')):m.lg.le m'.lg:=by
 unfold yH at a;split at a
 .split at a
  .exact HW (A3 a).2
  .cases a
 .split at a
  .exact HW (A3 a).2
  .cases a
 .split at a
  .obtain⟨_,a⟩:=A3 a;split at a
   .rename_i d;exact(hP d).2.1.trans (HW a)
   .cases a
  .cases a
 .cases a
def A2g(a:MT P m s t x=some (v,m')):m.lg.le m'.lg:=by
 unfold MT at a;split at a
 .split at a
  .split at a
   .exact H9 (A3 a).2
   .cases a
  .cases a
 .split at a
  .split at a
   .rename_i f;rw[LL]at a;have n:=H9 a;exact(hP f).2.1.trans n
   .cases a
  .cases a
 .obtain⟨_,a⟩:=A3 a;split at a
  .split at a
   .split at a
    .rename_i p;rw[O5]at a;simp only[hole]at a;have d:=N9 p;rw[(r9 a).2.1,i7,<- d.2.1];exact⟨[_],rfl⟩
    .cases a
   .cases a
  .cases a
 .cases a
def A34{x y:Operand}{a b:Value}(f:A07 P m op t x y a b=some (v,m')):m.lg.le m'.lg:=by
 unfold A07 at f;split at f
 .obtain⟨_,d⟩:=A3 f;clear f;split at d
  .rename_i n;cases d;exact H9 n
  .rename_i n;exact(H9 n).trans (H9 d)
  .cases d
 .cases f
def A1H{l c:Value}(a:KZ P m t l c=some (v,m')):m.lg.le m'.lg:=by
 unfold KZ at a;split at a
 .obtain⟨_,a⟩:=A3 a;split at a
  .obtain⟨_,a⟩:=A3 a;split at a
   .obtain⟨_,a⟩:=A3 a;split at a
    .rename_i f;rw[O5]at a;simp only[hole]at a;have d:=N9 f;rw[(r9 a).2.1,i7,<- d.2.1];exact⟨[_],rfl⟩
    .cases a
   .cases a
  .cases a
 .cases a
def A9O{fr:Fr}{o:Op}(a:dsM P fr m o=some (v,m')):m.lg.le m'.lg:=by
 unfold dsM at a;split at a
 .exact A1H a
 .exact A1K a
 .exact VF a
 .exact LS a
 .exact MJ a
 .exact VI a
 .exact A2g a
 .exact A34 a
 .split at a
  .unfold A4G at a;split at a
   .exact(cB a).2
   .exact(cB a).2
   .exact(cB a).2
   .cases a
  .cases a
 .split at a
  .exact(IG a).2.1
  .cases a
 .cases a
end
end
end Go.Sx
