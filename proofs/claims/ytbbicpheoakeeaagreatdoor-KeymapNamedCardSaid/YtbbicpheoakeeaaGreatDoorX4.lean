import Derived.Test.YtbbicpheoakeeaaGreatDoorX3
set_option linter.all false
set_option maxRecDepth 100000
set_option maxHeartbeats 4000000
namespace Go.Sx
variable {rows rows2:List (List U)}{b c cap g i j k o o' sh wd:Nat}{e s t t2 ty:TypeId}{inf:TypeInfo}{fz:Nat×Nat}{b' c' l' v x x' y y' z:Value}{l:Loc}{g0 gs:G5}{cl nul sure:Bool}{d2 ds:TypeDesc}{bh:Beh}{cs cs' new' vs:C8}{td:Td}{row us:List U}{hi lo mx:P5}{op:BinOp}
section
open Go
variable [Ora]
section
variable {P:Program} {base:Nat} {ρ ρ':Ren} {m m':Mem} {w w':World}
def N7.move{R:Nat->Option Obj}{C C':U9}(h:N7 R rows wd C o)(n:∀ i,i<rows.length*wd->C'[o'+i]? = C[o+i]?):N7 R rows wd C' o':=by
 refine⟨h.1,fun r row j u v d a2 a3=>h.2 r row j u v d a2 ?_⟩;have f:=(B0.1 d).1;have a:=(B0.1 a2).1;rw[h.1 _ (C6 d)]at a;have p:(r+1)*wd<=rows.length*wd:=F3 wd f;rw[H1]at p
 have:=n (r*wd+j) A2;rw[show o+r*wd+j=o+(r*wd+j) by omega,<- this,show o'+(r*wd+j)=o'+r*wd+j by omega];exact a3
def N7.append{R:Nat->Option Obj}{C:U9}(h:N7 R rows wd C o)(k:N7 R rows2 wd C (o+rows.length*wd)):N7 R (rows++rows2) wd C o:=by
 refine⟨fun row hr=>(B7.1 hr).elim (h.1 row) (k.1 row),fun r row j u v a a2 a3=>?_⟩;rcases F4 r rows.length with d|d
 .rw[E7 d]at a;exact h.2 r row j u v a a2 a3
 .rw[D5 d]at a;refine k.2 (r-rows.length) row j u v a a2 ?_;have:rows.length*wd+(r-rows.length)*wd=r*wd:=by rw[<- H1];congr 1;omega
  rw[show o+rows.length*wd+(r-rows.length)*wd+j=o+r*wd+j by omega];exact a3
def A6M{t:Nat}{T:TypeId}{lg:Loc}{C:U9}(q:Ora.env c=.seq false wd rows)(r:t=10+wd)(hi:P.info? T=some inf)(p:inf.size=wd)(f:rows.length<=cap)(d:sh+cap*wd<=C.size)
  (a:N7 lg.G rows wd C sh) (u:ρ g=some lg) (hw:w.heap[b]? = some (.cells C T fz)) (n:∀ i,i<C.size->¬ (fz.1<=i/\i<fz.2)):BR P ρ (.sq c t T g false) ⟨b,sh,cap,rows.length,fun _=>none,true⟩ w :=
 ⟨⟨wd,inf,r,hi,p,.inr ⟨rfl,C,fz,T,rows,lg,hw,q,rfl,f,d,a.1,u,a.2,fun _=>⟨rfl,n⟩⟩⟩⟩
def bQ{t:Nat}{T:TypeId}{lg:Loc}{C:U9}(h:HR P base ρ m.H w)(F:base<=w.heap.size)(A:aF m c t T g=some (v,m'))(u:J6 ρ m.n m'.hi)
  (p:Ora.env c=.seq false wd rows) (B:t=10+wd) (hi:P.info? T=some inf) (D:inf.size=wd) (a:rows.length<=cap) (r:cap*wd<=C.size) (d:N7 lg.G rows wd C 0) (J:ρ g=some lg) (q:∀ i,i<C.size->¬ (fz.1<=i/\i<fz.2))
  (K:w'.os=w.os/\w'.tape=w.tape/\w'.output=w.output) (hh:w'.heap=w.heap.push (.cells C T fz)):∃ ρ',VR ρ' v (.slice (some ⟨w.heap.size,0,none⟩) rows.length cap)/\St P base ρ ρ' m m' w w':=by
 have f:ρ m.n=none:=by
  obtain⟨_,_,rfl⟩:=K6 A;exact u m.n (A6 _) (K2 _ _).2
 obtain⟨rfl,E,I⟩:=St.alloc (w':=w') (l:=⟨w.heap.size,0,cap,rows.length,fun _=>none,true⟩) h F A u K hh rfl (A6M p B hi D a A2 d (V7 f _ _ J) (by rw[hh];simp) q);exact⟨_,.own (.inr ⟨_,wd,rows,E,rfl,p,rfl,a,rfl⟩) (by rw[p];exact B.symm) rfl,I⟩
def nH{t id:Nat}{T:TypeId}{ab:AB}{lg:Loc}{C:U9}(h:HR P base ρ m.H w)(hle:id<=H3)(E:Hp.get m.H id=some ab)(B:ab.rw=true)(R:ρ id=some l)(r:l.on=true)
  (J:aF (iU m id) c t T g=some (v,m')) (I:J6 ρ m.n m'.hi)
  (u:Ora.env c=.seq false wd rows) (K:t=10+wd) (hi:P.info? T=some inf) (L:inf.size=wd) (a:rows.length<=cap) (f:sh+cap*wd<=C.size) (d:N7 lg.G rows wd C sh) (O:ρ g=some lg) (A:∀ i,i<C.size->¬ (fz.1<=i/\i<fz.2))
  (S:w'.os=w.os/\w'.tape=w.tape/\w'.output=w.output) (D:w'.heap.size=w.heap.size) (Q:∀ k,k≠l.blk->w'.heap[k]? = w.heap[k]?) (hw:w'.heap[l.blk]? = some (.cells C T fz)) :
  ∃ ρ',VR ρ' v (.slice (some ⟨l.blk,sh,none⟩) rows.length cap)/\St P base ρ ρ' m m' w w':=by
 have p:ρ m.n=none:=by
  have q:=J;unfold aF at q;rw[c9]at q;obtain⟨_,_,rfl⟩:=K6 q;exact I m.n (A6 _) (K2 _ _).2
 obtain⟨rfl,M,N⟩:=St.move (w':=w') (l':=⟨l.blk,sh,cap,rows.length,fun _=>none,true⟩) h hle E B R J I (fun _=>⟨r,rfl⟩) S D (fun k F=>Q k (F r)) (A6M u K hi L a f d (V7 p _ _ O) hw A) (fun h=>by cases h);exact⟨_,.own (.inr ⟨_,wd,rows,M,rfl,u,rfl,a,rfl⟩) (by rw[u];exact K.symm) rfl,N⟩
def A5D:Loc:=⟨0,0,0,0,fun _=>none,false⟩
def AF{t:Nat}{T:TypeId}{old:Option Nat}(h:HR P base ρ m.H w)(hold:∀ b,old=some b->∃ ab l,b<=H3/\Hp.get m.H b=some ab/\ab.rw=true/\ρ b=some l/\l.on=false)
  (B:aF (iT old m) c t T g=some (v,m')) (A:J6 ρ m.n m'.hi) (a:Ora.env c=.seq true wd []) (u:t=10+wd) (hi:P.info? T=some inf) (C:inf.size=wd):∃ ρ',VR ρ' v (.slice none 0 0)/\St P base ρ ρ' m m' w w:=by
 have d:∀ ρ':Ren,BR P ρ' (.sq c t T g false) A5D w:=fun ρ'=>⟨⟨wd,inf,u,hi,C,.inl ⟨rfl,a⟩⟩⟩
 cases old with
 | none =>
   obtain⟨rfl,p,r⟩:=St.new0 (l':=A5D) h B A (d _) rfl fun q f=>by
    rcases f with⟨_,f,_⟩|⟨f,_⟩<;>cases f
   exact⟨_,.own (.inl ⟨_,wd,p,rfl,a,rfl⟩) (by rw[a];exact u.symm) rfl,r⟩
 | some b =>
   obtain⟨ab,l,h1,D,h3,E,F⟩:=hold b rfl;obtain⟨rfl,p,r⟩:=St.move (w':=w) (l':=A5D) h h1 D h3 E B A (fun h=>by cases h) ⟨rfl,rfl,rfl⟩ rfl (fun _ _=>rfl) (d _) (fun h=>by cases h);exact⟨_,.own (.inl ⟨_,wd,p,rfl,a,rfl⟩) (by rw[a];exact u.symm) rfl,r⟩
def rJ(h:HR P base ρ m.H w)(a:iV gs m=some (g,m'))(q:J6 ρ m.n m'.hi)(d:ρ j=some l):Hp.get m'.H j=Hp.get m.H j:=by
 have main:∀ {gs:G5},(bif gs.all (nK m)then match fJ m fun b m=>some (undef,b,m)with
  | some (_,b,m)=>some (b,m)
  | none=>none else none)=some (g,m')->Hp.get m'.H j=Hp.get m.H j:=fun{gs} a=>by
  obtain⟨h1,a⟩:=A3 a;split at a
  .rename_i r b m1 u;cases a;obtain⟨m2,f,p,_⟩:=P7 u;cases p;rw[kC f (h.dom j l d),A7];intro e;subst e;obtain⟨_,_,rfl⟩:=K6 f;rw[q m.n (A6 _) (K2 _ _).2]at d;cases d
  .cases a
 unfold iV at a;split at a
 .obtain⟨h1,a⟩:=A3 a;cases a;rfl
 .exact main a
def M1(a:iV gs m=some (g,m')):m.hi<=m'.hi/\m'.lg=m.lg/\m.n<=m'.n:=by
 have main:∀ {gs:G5},(bif gs.all (nK m)then match fJ m fun b m=>some (undef,b,m)with
  | some (_,b,m)=>some (b,m)
  | none=>none else none)=some (g,m')->m.hi<=m'.hi/\m'.lg=m.lg/\m.n<=m'.n:=fun{gs} a=>by
  obtain⟨h1,a⟩:=A3 a;split at a
  .rename_i r b m1 p;cases a;obtain⟨m2,f,d,_⟩:=P7 p;cases d;obtain⟨_,_,rfl⟩:=K6 f;exact⟨(K2 _ _).1,rfl,Y2 _⟩
  .cases a
 unfold iV at a;split at a
 .obtain⟨h1,a⟩:=A3 a;cases a;exact⟨A6 _,rfl,A6 _⟩
 .exact main a
def A84(nul:Bool)(wd:Nat)(rows:List (List U)):List (List U)->U
 | []=>.seq nul wd rows
 | r0::r=>.seq false wd (rows++r0::r)
def JJ(h:∃ n w r,qL nul wd rows rows2=.seq n w r):rows.length+rows2.length<=tZ/\qL nul wd rows rows2=A84 nul wd rows rows2:=by
 by_cases a:rows.length+rows2.length<=tZ
 .refine⟨a,?_⟩;unfold qL;rw[A9 a];cases rows2<;>rfl
 .unfold qL at h;rw[A7 a]at h;obtain⟨_,_,_,h⟩:=h;cases h
def OD{old:Option Nat} 
  (hu:P.underlying t=some (.slice e)) (V:P.underlying t2=some d2) (T:cF d2=true) (hi:P.info? e=some inf) (hz:eO P e=some z) (ae:z.cells.size=inf.size) (br:inf.bytes<=90000)
  (h:HR P base ρ m.H w) (hb:base<=w.heap.size) (E:GX m e inf.size c old bh (g0++gs)=some (v,m')) (hf:J6 ρ m.n m'.hi) (hS:Sat m'.lg)
  (al:A0w P base ρ m w e inf.size c g0 old x') (d:SX P ρ w inf.size bh gs y' rows2 new'):VOk P base ρ m w (Builtin.append_ #[t,t2] ty #[x',y']) v m':=by
 unfold GX at E;split at E
 .rename_i g m1 hj;rw[M8]at E;have bq:=M1 hj;generalize bt:eL m1 (10+inf.size) (cL inf.size (hole c (10+inf.size)) bh).1 (cL inf.size (hole c (10+inf.size)) bh).2=lg1 at E;have bw:m'.lg=lg1/\m1.hi<=m'.hi/\m1.n<=m'.n:=by
   unfold aF at E;cases old with
   | none =>
     simp only[iT]at E;obtain⟨_,_,rfl⟩:=K6 E;exact⟨by simp,by simpa using(K2 m1.hi m1.n).1,by simp⟩
   | some b =>
     simp only[iT,c9]at E;obtain⟨_,_,rfl⟩:=K6 E;exact⟨by simp,by simpa using(K2 m1.hi m1.n).1,by simp⟩
  have ak:J6 ρ m.n m1.hi:=hf.less bw.2.1;obtain⟨N,lg,e1,e2,e3,e4,e5,e6⟩:=dY h hj ak;have q:St P base ρ N m (m1.wLg lg1) w w:=St.trans (by simpa using ak) e1 (St.wLg e1.hr lg1);have J:J6 N (m1.wLg lg1).n m'.hi:=by simpa using hf.step e1
  have bk:Sat (m1.wLg lg1).lg:=by simpa [<- bw.1]using hS
  obtain⟨nul,rows,hc,hx⟩:=al.ex;obtain⟨d1,d2,nx,bp,rws,d3,d4⟩:=iX (m:=m1) (t:=10+inf.size) (op:=(cL inf.size (hole c (10+inf.size)) bh).1) (xs:=(cL inf.size (hole c (10+inf.size)) bh).2) (lg:=lg1) (by simpa using bk) (by rw[Z2,bt];exact .refl _);rw[d.ev c nul rows hc]at d1;obtain⟨av,af⟩:=JJ ⟨nx,bp,rws,d1.symm.trans d3⟩;rw[af]at d1;have bn:∀ b ∈ g0,∀ l,ρ b=some l->Sub l.G lg.G:=fun b W l hl=>e6 b (B7.2 (.inl W)) l hl
  have bm:∀ b ∈ gs,∀ l,ρ b=some l->Sub l.G lg.G:=fun b W l hl=>e6 b (B7.2 (.inr W)) l hl
  have ao:=d.rows lg.G bm;have D:∀ {v':Value} {ρ2:Ren} {w2:World},(Builtin.append_ #[t,t2] ty #[x',y']).run P w=.ok v' w2->VR ρ2 v v'->St P base N ρ2 (m1.wLg lg1) m' w w2->VOk P base ρ m w (Builtin.append_ #[t,t2] ty #[x',y']) v m':=fun hr hv hs =>
   ⟨_,_,_,hr,hv,St.trans hf q hs⟩
  have ah:∀ w,(zeroValue e).run P w=.ok z w:=fun w=>s9 hz w
  have au:∀ {j l},ρ j=some l->Hp.get (m1.wLg lg1).H j=Hp.get m.H j:=fun bj=>by rw[jN];exact rJ h hj ak bj
  have L:(3*(rows.length+rows2.length)+4000)*inf.bytes<=281474976710656:=by
   have h1:3*(rows.length+rows2.length)+4000<=3000004000:=by unfold tZ at av;omega
   have h2:=eH h1 br;omega
  have R:rows.length+rows2.length<=1000000000:=av;rcases hx with⟨rfl,rfl,rfl,hold⟩|⟨rfl,b,ab,l,cap,C,fz,rfl,an,bo,S,ai,aa,rfl,F,ar,Y,Q,bu⟩
  ·
   have Z:∀ b,old=some b->∃ ab l,b<=H3/\Hp.get (m1.wLg lg1).H b=some ab/\ab.rw=true/\N b=some l/\l.on=false:=fun b W=>by
    obtain⟨ab,l,I,O,q3,q4,q5⟩:=hold b W;exact⟨ab,l,I,by rw[au q4];exact O,q3,e1.ext _ _ q4,q5⟩
   cases f:rows2 with
   | nil =>
     subst f;have B:Ora.env m1.lg.nx=.seq true inf.size []:=d1;obtain⟨ρ2,I,O⟩:=AF q.hr Z E J B rfl hi rfl;have aq:new'=[]:=F8.1 (by rw[d.size];simp);exact D (sN hu V T hi (fun wd=>d.len wd) (by have:=d.first w rfl;rw[aq]at this;exact this)) I O
   | cons r0 rr =>
     rw[f]at d1;have B:Ora.env m1.lg.nx=.seq false inf.size rows2:=by rw[f];exact d1
     obtain⟨nc,ay,p⟩:=fX (P:=P) (w:=w) (ty:=ty) (a:=none) (n:=0) (c:=0) (k:=rows2.length) (old':=[]) (new':=new') (x':=y') hu V T hi ah (fun wd=>d.len wd) (fun _ _=>rfl) (fun wd hw=>d.first wd hw) (by rw[f];simp) (by simpa using L) (by simpa using R);obtain⟨m2,bl,az⟩:∃ m2,aF m2 m1.lg.nx (10+inf.size) e g=some (v,m')/\St P base N N (m1.wLg lg1) m2 w w:=by
      cases old with
      | none=>exact⟨_,E,St.refl q.hr⟩
      | some b =>
        obtain⟨ab,l,I,O,q3,q4,q5⟩:=Z b rfl;exact⟨_,E,St.kill q.hr I O q3⟩
     obtain⟨ρ2,I,O⟩:=bQ (w':={ w.drew with heap:=w.heap.push (.cells (({ toList:=[] }:Array Value)++⟨new'⟩++Builtin.zeroCells z.cells (nc-(0+rows2.length))) e (0,0)) }) (cap:=nc) az.hr hb bl (J.step az) B rfl hi rfl A2
      (by have:=dC (s:=inf.size) (k:=rows2.length) (n:=0) (nc:=nc) (z:=z) (old':=[]) d.size ay ae (by simp);exact this)
      (ao.move (C':=({ toList:=[] }:Array Value)++⟨new'⟩++Builtin.zeroCells z.cells (nc-(0+rows2.length))) (o':=0) fun i hi'=>by
        have ag:i<new'.length:=by rw[d.size];exact hi'
        rw[E9 i];rw[IJ (A5 ag)];simp[ag]) (az.ext _ _ e4) (fun i _ hh=>by have h1:0<=i:=hh.1;have h2:i<0:=hh.2;omega) ⟨rfl,rfl,rfl⟩ rfl
     exact D p (by rw[E9];exact I) (St.trans J az O)
  ·
   have aj:Hp.get (m1.wLg lg1).H b=some ab:=by rw[au ai];exact bo
   have A:=bu lg.G bn;have ax:=e1.ext _ _ ai;cases f:rows2 with
   | nil =>
     subst f;have B:Ora.env m1.lg.nx=.seq false inf.size rows:=d1;have aq:new'=[]:=F8.1 (by rw[d.size];simp);obtain⟨ρ2,I,O⟩:=nH (w':=w) (cap:=cap) (sh:=l.sh) q.hr an aj S ax aa E J B rfl hi rfl ar Y A e4 Q ⟨rfl,rfl,rfl⟩ rfl (fun _ _=>rfl) F;have p:=lR (P:=P) (w:=w) (w':=w) (ty:=ty) (a:=⟨l.blk,l.sh,none⟩) (n:=rows.length) (k:=0) (c:=cap) (new':=new') hu V T hi (fun wd=>d.len wd) (d.first w rfl) A2 (by rw[aq];rfl);exact D p I O
   | cons r0 rr =>
     have B:Ora.env m1.lg.nx=.seq false inf.size (rows++rows2):=by rw[f]at d1 ⊢;exact d1
     by_cases K:rows.length+rows2.length<=cap
     .have aw:(rows.length+rows2.length)*inf.size<=cap*inf.size:=F3 _ K;rw[H1]at aw;obtain⟨w',r1,r2,r3,r4,r5⟩:=X8 (P:=P) (b:=l.blk) (o:=rows.length*inf.size+l.sh) (fz:=fz) new' 0 C w F d.flat (by rw[d.size];omega) Q;have bz:(Addr.mk l.blk l.sh none).add (rows.length*inf.size)=⟨l.blk,rows.length*inf.size+l.sh,none⟩:=by
       unfold Addr.add;split
       .rename_i h0;rw[h0];simp
       .simp[iO]
      have p:=lR (P:=P) (w:=w) (w':=w') (ty:=ty) (a:=⟨l.blk,l.sh,none⟩) (n:=rows.length) (k:=rows2.length) (c:=cap) (new':=new') hu V T hi (fun wd=>d.len wd) (d.first w rfl) K (by rw[bz];exact r1);have X:(Array.mk (bO C.toList (rows.length*inf.size+l.sh+0) new')).size=C.size:=by simp[X9]
      have bx:∀ j,(Array.mk (bO C.toList (rows.length*inf.size+l.sh+0) new'))[j]? = if rows.length*inf.size+l.sh<=j/\j<rows.length*inf.size+l.sh+new'.length then new'[j-(rows.length*inf.size+l.sh)]? else C[j]? := fun j=>by
       rw[I0,jZ _ _ _ _ (by simp;rw[d.size];omega)];simp
      obtain⟨ρ2,I,O⟩:=nH (w':=w') (cap:=cap) (sh:=l.sh) (C:=⟨bO C.toList (rows.length*inf.size+l.sh+0) new'⟩) q.hr an aj S ax aa E J B rfl hi rfl (by simpa using K) (by rw[X];exact Y)
       (N7.append (A.move (o':=l.sh) fun i hi'=>by rw[bx,A7 A2]) (ao.move (o':=l.sh+rows.length*inf.size) fun i hi'=>by
         rw[bx,A9 (by rw[d.size];omega),show l.sh+rows.length*inf.size+i-(rows.length*inf.size+l.sh)=i by omega,E9];simp)) e4 (by rw[X];exact Q) r2 r3 r5 r4
      rw[D6]at I;exact D p I O
     .have hold:∃ old',old'.length=rows.length*inf.size/\(∀ i,i<rows.length*inf.size->old'[i]? = C[l.sh+i]?)/\∀ wd:World,wd.heap=w.heap->(Builtin.firstCells inf.size rows.length (.slice (some ⟨l.blk,l.sh,none⟩) rows.length cap)).run P wd=.ok ⟨old'⟩ wd:=by
       have aw:rows.length*inf.size<=cap*inf.size:=F3 _ ar;have hlen:((C.toList.drop l.sh).take (rows.length*inf.size)).length=rows.length*inf.size:=by simp;omega
       refine⟨(C.toList.drop l.sh).take (rows.length*inf.size),hlen,fun i hi'=>?_,fun wd hw=>?_⟩
       .rw[F2 hi',H5];simp
       .rw[show Builtin.firstCells inf.size rows.length (.slice (some ⟨l.blk,l.sh,none⟩) rows.length cap)=loadCells ⟨l.blk,l.sh,none⟩ (rows.length*inf.size)from rfl];refine J7 hlen fun j v' hj=>?_
        have ad:=(B0.1 hj).1;rw[hlen]at ad;rw[F2 ad,H5]at hj;rw[aY hw];have bs:C[l.sh+j]? = some v':=by simpa using hj
        simp[World.cell?,F,bs]
      obtain⟨old',o1,o2,o3⟩:=hold;obtain⟨nc,ay,p⟩:=fX (P:=P) (w:=w) (ty:=ty) (a:=some ⟨l.blk,l.sh,none⟩) (n:=rows.length) (c:=cap) (k:=rows2.length) (old':=old') (new':=new') (x':=y') hu V T hi ah (fun wd=>d.len wd) o3 (fun wd hw=>d.first wd hw) K L R;have r:=St.kill q.hr an aj S;obtain⟨ρ2,I,O⟩:=bQ (w':={ w.drew with heap:=w.heap.push (.cells (({ toList:=old' }:Array Value)++⟨new'⟩++Builtin.zeroCells z.cells (nc-(rows.length+rows2.length))) e (0,0)) }) (cap:=nc) r.hr hb E (J.step r) B rfl hi rfl (by simpa using ay)
       (dC d.size ay ae o1)
       (N7.append (A.move (C':=({ toList:=old' }:Array Value)++⟨new'⟩++Builtin.zeroCells z.cells (nc-(rows.length+rows2.length))) (o':=0) fun i hi'=>by
         have M:i<old'.length:=by rw[o1];exact hi'
         rw[E9 i,<- o2 i hi',dD (u:=old'[i]) (by rw[E7 M,A5 M]),A5 M]) (ao.move (o':=0+rows.length*inf.size) fun i hi'=>by
         have M:i<new'.length:=by rw[d.size];exact hi'
         rw[E9 (rows.length*inf.size),E9 i,dD (u:=new'[i]) (by rw[D5 (by rw[o1];omega),o1,V1,A5 M])];simp[M])) (r.ext _ _ e4) (fun i _ hh=>by have h1:0<=i:=hh.1;have h2:i<0:=hh.2;omega) ⟨rfl,rfl,rfl⟩ rfl
      rw[D6]at I;exact D p I (St.trans J r O)
 .cases E
end
end
section
open Go
variable [Ora]
section
variable {P:Program} {base:Nat} {ρ ρ':Ren} {m m':Mem} {w w':World}
def A1R{a:Addr} 
  (hu:P.underlying t=some (.slice e)) (W:P.underlying t2=some d2) (T:cF d2=true) (hi:P.info? e=some inf) (hz:eO P e=some z) (ay:z.cells.size=inf.size) (S:inf.bytes<=90000)
  (h:HR P base ρ m.H w) (hb:base<=w.heap.size) (q:GX m e inf.size c none bh (b::gs)=some (v,m')) (hf:J6 ρ m.n m'.hi) (hS:Sat m'.lg)
  (hc:Ora.env c=.seq false inf.size rows) (Y:ρ b=some l) (A:Enc l.G (Ora.env c) (.slice (some a) rows.length rows.length)) (d:SX P ρ w inf.size bh gs y' rows2 new') (p:rows2≠[]) :
  VOk P base ρ m w (Builtin.append_ #[t,t2] ty #[.slice (some a) rows.length rows.length,y']) v m':=by
 unfold GX at q;split at q
 .rename_i g m1 N;rw[M8]at q;have V:=M1 N;generalize Q:eL m1 (10+inf.size) (cL inf.size (hole c (10+inf.size)) bh).1 (cL inf.size (hole c (10+inf.size)) bh).2=lg1 at q;have q:aF (m1.wLg lg1) m1.lg.nx (10+inf.size) e g=some (v,m'):=q;have K:m'.lg=lg1/\m1.hi<=m'.hi/\m1.n<=m'.n:=by
   unfold aF at q;obtain⟨_,_,rfl⟩:=K6 q;exact⟨by simp,by simpa using(K2 m1.hi m1.n).1,by simp⟩
  have M:J6 ρ m.n m1.hi:=hf.less K.2.1;obtain⟨E,lg,O,e2,e3,e4,e5,e6⟩:=dY h N M;have B:St P base ρ E m (m1.wLg lg1) w w:=St.trans (by simpa using M) O (St.wLg O.hr lg1);have au:J6 E (m1.wLg lg1).n m'.hi:=by simpa using hf.step O
  have ar:Sat (m1.wLg lg1).lg:=by simpa [<- K.1]using hS
  obtain⟨d1,d2,nx,X,rws,d3,d4⟩:=iX (m:=m1) (t:=10+inf.size) (op:=(cL inf.size (hole c (10+inf.size)) bh).1) (xs:=(cL inf.size (hole c (10+inf.size)) bh).2) (lg:=lg1) (by simpa using ar) (by rw[Z2,Q];exact .refl _);rw[d.ev c false rows hc]at d1;obtain⟨C,I⟩:=JJ ⟨nx,X,rws,d1.symm.trans d3⟩;rw[I]at d1;have aw:Sub l.G lg.G:=e6 b (.head _) l Y;have av:∀ b ∈ gs,∀ l,ρ b=some l->Sub l.G lg.G:=fun b az l Y=>e6 b (.tail _ az) l Y
  have ax:=d.rows lg.G av;have Z:∀ w,(zeroValue e).run P w=.ok z w:=fun w=>s9 hz w
  have r:(3*(rows.length+rows2.length)+4000)*inf.bytes<=281474976710656:=by
   have h1:3*(rows.length+rows2.length)+4000<=3000004000:=by unfold tZ at C;omega
   have h2:=eH h1 S;omega
  have D:rows.length+rows2.length<=1000000000:=C;have aq:0<rows2.length:=cP.2 p;have R:Ora.env m1.lg.nx=.seq false inf.size (rows++rows2):=by
   cases rows2 with
   | nil=>exact absurd rfl p
   | cons r0 rr=>exact d1
  rw[hc]at A;obtain⟨_,old',J,o2,o3,o4⟩:=rY (w:=w) (A.mono aw) ((O.hr.atl e4 e5).1.2);have o5:∀ wd:World,wd.heap=w.heap->(Builtin.firstCells inf.size rows.length (.slice (some a) rows.length rows.length)).run P wd=.ok ⟨old'⟩ wd:=fun wd hw=>by
   rw[show Builtin.firstCells inf.size rows.length (.slice (some a) rows.length rows.length)=loadCells a (rows.length*inf.size)from rfl];exact kJ J fun j v' N=>by rw[aY hw];exact o4 j v' N
  obtain⟨nc,L,F⟩:=fX (P:=P) (w:=w) (ty:=ty) (a:=some a) (n:=rows.length) (c:=rows.length) (k:=rows2.length) (old':=old') (new':=new') (x':=y') hu W T hi Z (fun wd=>d.len wd) o5 (fun wd hw=>d.first wd hw) A2 r D;obtain⟨ρ2,q1,q2⟩:=bQ (w':={ w.drew with heap:=w.heap.push (.cells (({ toList:=old' }:Array Value)++⟨new'⟩++Builtin.zeroCells z.cells (nc-(rows.length+rows2.length))) e (0,0)) }) (cap:=nc) B.hr hb q au R rfl hi rfl (by simpa using L)
   (dC d.size L ay J)
   (N7.append (o3.move (C':=({ toList:=old' }:Array Value)++⟨new'⟩++Builtin.zeroCells z.cells (nc-(rows.length+rows2.length))) (o':=0) fun i hi'=>by
     have f:i<old'.length:=by rw[J];exact hi'
     rw[E9 i,dD (u:=old'[i]) (by rw[E7 f,A5 f])];simp[f]) (ax.move (o':=0+rows.length*inf.size) fun i hi'=>by
     have f:i<new'.length:=by rw[d.size];exact hi'
     rw[E9 (rows.length*inf.size),E9 i,dD (u:=new'[i]) (by rw[D5 (by rw[J];omega),J,V1,A5 f])];simp[f])) e4 (fun i _ hh=>by have h1:0<=i:=hh.1;have h2:i<0:=hh.2;omega) ⟨rfl,rfl,rfl⟩ rfl
  rw[D6]at q1;exact⟨_,_,_,F,q1,St.trans hf B q2⟩
 .cases q
def SU(d:yE P td)(a:A0a td P m e wd y=some (bh,gs,sure,m')):m.hi<=m'.hi/\m.lg.le m'.lg/\m.n<=m'.n:=by
 unfold A0a at a;split at a
 .cases a;exact⟨A6 _,.refl _,A6 _⟩
 .split at a
  .split at a
   .rename_i f;cases a;exact R0 d f
   .cases a
  .cases a
 .split at a
  .rename_i f;cases a;exact d.mono f
  .cases a
 .obtain⟨h1,a⟩:=A3 a;cases a;exact⟨A6 _,.refl _,A6 _⟩
def iH(d:yE P td){old:Option Nat}(a:BQ td P m e wd x=some (c,gs,old,m')):m.hi<=m'.hi/\m.lg.le m'.lg/\m.n<=m'.n:=by
 unfold BQ at a;split at a
 .rw[M8]at a;simp only[hole]at a;cases a;exact⟨by simp,U6,by simp⟩
 .split at a
  .obtain⟨h1,a⟩:=A3 a;cases a;exact⟨A6 _,.refl _,A6 _⟩
  .cases a
 .split at a
  .obtain⟨h1,a⟩:=A3 a;split at a
   .rename_i f;split at a
    .obtain⟨h1,a⟩:=A3 a;rw[M8]at a;simp only[hole]at a;cases a
     have:=R0 d f;exact⟨by simpa using this.1,this.2.1.trans U6,by simpa using this.2.2⟩
    .cases a
   .cases a
  .cases a
 .cases a
def j8{t:Nat}{T:TypeId}(h:aF m c t T g=some (v,m')):m.hi<=m'.hi/\m'.lg=m.lg/\m.n<=m'.n:=by
 unfold aF at h;obtain⟨_,_,rfl⟩:=K6 h;exact⟨(K2 _ _).1,rfl,Y2 _⟩
def aU(old:Option Nat)(m:Mem):(iT old m).hi=m.hi/\(iT old m).lg=m.lg/\(iT old m).n=m.n:=by
 cases old with
 | none=>exact⟨rfl,rfl,rfl⟩
 | some b=>simp[iT,c9]
def lT{old:Option Nat}(d:GX m e wd c old bh gs=some (v,m')):m.hi<=m'.hi/\m.lg.le m'.lg/\m.n<=m'.n:=by
 unfold GX at d;split at d
 .rename_i g m1 q;rw[M8]at d;have a:=M1 q;have b:=j8 d;obtain⟨r,p,f⟩:=aU old (m1.wLg (eL m1 (10+wd) (cL wd (hole c (10+wd)) bh).1 (cL wd (hole c (10+wd)) bh).2));refine⟨?_,?_,?_⟩
  .have:=b.1;rw[r]at this;simp at this;omega
  .rw[b.2.1,p,<- a.2.1];exact U6
  .have:=b.2.2;rw[f]at this;simp at this;omega
 .cases d
def LO{t:Nat}{T:TypeId}{old:Option Nat}(h:HR P base ρ m.H w)(hold:∀ b,old=some b->b<=H3/\Hp.get m.H b≠some .frz)(d:aF (iT old m) c t T g=some (v,m'))(r:J6 ρ m.n m'.hi):e9 ρ m m':=fun j l h1 f=>by
 have p:=aU old m;unfold aF at d;rw[kC d (h.dom j l h1),A7]
 .cases old with
  | none=>exact f
  | some b =>
    show Hp.get (iU m b).H j=_;rw[c9];show Hp.get (m.H.set b none) j=_;obtain⟨q,a⟩:=hold b rfl;rw[E6 _ _ _ _ q (h.dom j l h1),A7]
    .exact f
    .intro e;subst e;exact a f
 .intro e;obtain⟨_,_,rfl⟩:=K6 d;rw[p.2.2]at e;subst e;rw[r m.n (A6 _) (Nat.lt_of_le_of_lt (Nat.le_of_eq p.2.2.symm) (K2 (iT old m).hi (iT old m).n).2)]at h1;cases h1
omit [Ora] in
def KX(h:P.info? e=some inf):G3 P e=some inf.size:=by unfold G3;rw[h]
def AC(f:yE P td)(d:RX td P m e wd x=some (v,m')):m.hi<=m'.hi/\m.lg.le m'.lg/\m.n<=m'.n:=by
 unfold RX at d;split at d
 .obtain⟨_,d⟩:=A3 d;split at d
  .rename_i p;have a:=iH f p;split at d
   .rename_i q;have b:=M1 q;have c:=j8 d;refine⟨?_,?_,?_⟩
    .have:=c.1;rw[(aU _ _).1]at this;omega
    .rw[c.2.1,(aU _ _).2.1,b.2.1];exact a.2.1
    .have:=c.2.2;rw[(aU _ _).2.2]at this;omega
   .cases d
  .cases d
 .cases d
def OG(W:yE P td)(h:HR P base ρ m.H w)(d:RX td P m e wd x=some (v,m'))(Z:J6 ρ m.n m'.hi)(hx:VR ρ x x')(hS:Sat m'.lg) :
  ∃ ρ',VR ρ' v x'/\St P base ρ ρ' m m' w w/\m.lg.le m'.lg/\e9 ρ m m':=by
 unfold RX at d;split at d
 .rename_i inf hi;obtain⟨h1,d⟩:=A3 d;obtain⟨h1,h2⟩:=B4 h1;have h1:=A0 h1;have h2:0<wd:=A1 h2;split at d
  .rename_i c gs old m1 N;have a:=iH W N;split at d
   .rename_i g m2 hj;have b:=M1 hj;have cm:=j8 d;have k1:=aU old m2;have O:m'.lg=m1.lg:=by rw[cm.2.1,k1.2.1,b.2.1]
    have E:m2.hi<=m'.hi:=by have:=cm.1;rw[k1.1]at this;exact this
    obtain⟨S,I,e2,e3,e4⟩:=JV W h N (Z.less (B9 b.1 E)) hx (by rw[<- O];exact hS) h2 (h1▸KX hi);have q:J6 S m1.n m'.hi:=Z.step I;obtain⟨ρ2,lg,u,j2,j3,j4,j5,j6⟩:=dY I.hr hj (q.less E);have L:J6 ρ2 m2.n m'.hi:=q.step u;obtain⟨nul,rows,hc,az⟩:=e4.ex;have B:∀ {j l},S j=some l->Hp.get m2.H j=Hp.get m1.H j:=fun aw=>rJ I.hr hj (q.less E) aw
    have hle:m.lg.le m'.lg:=by rw[O];exact a.2.1
    have p:(∀ b,old=some b->b<=H3/\Hp.get m2.H b≠some .frz)->e9 ρ m m':=fun hq=>(e3.trans I.ext j3).trans (fun b l N=>u.ext b l (I.ext b l N)) (LO u.hr hq d L)
    rcases az with⟨rfl,rfl,rfl,hold⟩|⟨rfl,b0,ab,l,cap,C,fz,rfl,T,ax,A,Q,ay,rfl,D,X,J,R,V⟩
    .have r:∀ b,old=some b->∃ ab l,b<=H3/\Hp.get m2.H b=some ab/\ab.rw=true/\ρ2 b=some l/\l.on=false:=fun b f=>by
      obtain⟨ab,l,F,M,q3,q4,q5⟩:=hold b f;exact⟨ab,l,F,by rw[B q4];exact M,q3,u.ext _ _ q4,q5⟩
     obtain⟨K,F,M⟩:=AF u.hr r d L hc rfl hi h1;exact⟨K,F,St.trans Z I (St.trans q u M),hle,p fun b f=>by
      obtain⟨ab,l,F,M,q3,_⟩:=r b f;exact⟨F,fun he=>by rw[M]at he;cases he;cases q3⟩⟩
    .have Y:Hp.get m2.H b0=some ab:=by rw[B Q];exact ax
     obtain⟨K,F,M⟩:=nH (w':=w) (cap:=cap) (sh:=l.sh) u.hr T Y A (u.ext _ _ Q) ay d L hc rfl hi h1 X J (V lg.G fun b N l hl=>j6 b N l hl) j4 R ⟨rfl,rfl,rfl⟩ rfl (fun _ _=>rfl) D;exact⟨K,F,St.trans Z I (St.trans q u M),hle,p fun b f=>by
      cases f;exact⟨T,fun he=>by rw[Y]at he;cases he;cases A⟩⟩
   .cases d
  .cases d
 .cases d
def NI:∀ (d:Nat),yE P (TL P d)
 | 0=>TM
 | d+1=>by
   have u:=NI d;refine⟨fun{base ρ m m' w t v v' x b} h f p hv r=>?_,fun{m m' t v x b} f=>?_⟩
   .unfold TL at f;split at f
    .split at f
     .split at f
      .rename_i C m1 q;have a:=fS f;obtain⟨B,A,n,D,E⟩:=OG u h q (p.less a.1) hv (r.le a.2.1);obtain⟨ρ2,l,d1,d2,d3,d4,d5,d6⟩:=CB n.hr f (p.step n) A r;exact⟨ρ2,l,St.trans p n d1,d2,d3,d4,d5,D.trans d6,E.trans n.ext (FK n.hr f (p.step n))⟩
      .cases f
     .cases f
    .exact TM.ok h f p hv r
   .unfold TL at f;split at f
    .split at f
     .split at f
      .rename_i C m1 q;have a:=AC u q;have b:=fS f;exact⟨B9 a.1 b.1,a.2.1.trans b.2.1,B9 a.2.2 b.2.2⟩
      .cases f
     .cases f
    .exact fS f
def T9:yE P (tdP P):=NI 3
def EO(d:qP P m t t2 x y=some (v,m')):m.hi<=m'.hi/\m.lg.le m'.lg/\m.n<=m'.n:=by
 unfold qP at d;split at d
 .rename_i e d2 hu r;cases f:cF d2 with
  | false=>rw[f]at d;cases d
  | true =>
    rw[f]at d;simp only[P1,D4]at d;split at d
    .obtain⟨_,d⟩:=A3 d;split at d
     .rename_i p;have a:=SU T9 p;split at d
      .rename_i q;have b:=iH T9 q;have c:=lT d;exact⟨A2,a.2.1.trans (b.2.1.trans c.2.1),A2⟩
      .split at d
       .obtain⟨_,d⟩:=A3 d;have c:=lT d;exact⟨A2,a.2.1.trans c.2.1,A2⟩
       .cases d
     .cases d
    .cases d
 .cases d
def SX.step(h:SX P ρ w wd bh gs y' rows2 new')(f:∀ b ∈ gs,∃ l,ρ b=some l)(he:∀ b l,ρ b=some l->ρ' b=some l):SX P ρ' w wd bh gs y' rows2 new' :=
 ⟨h.len,h.first,h.size,h.flat,fun R hR=>h.rows R fun b d l a=>hR b d l (he b l a),h.ev⟩
def SZ{n:Nat}(h:TA P e n=true):∃ z,eO P e=some z/\z.cells.size=n:=by
 unfold TA at h;split at h
 .rename_i z a;exact⟨z,a,A0 h⟩
 .cases h
def MY(h:HR P base ρ m.H w)(R:base<=w.heap.size)(p:qP P m t t2 x y=some (v,m'))(B:J6 ρ m.n m'.hi)(hx:VR ρ x x')(hy:VR ρ y y')(M:Sat m'.lg) :
  VOk P base ρ m w (Builtin.append_ #[t,t2] ty #[x',y']) v m':=by
 unfold qP at p;split at p
 .rename_i e d2 hu E;cases f:cF d2 with
  | false=>rw[f]at p;cases p
  | true =>
    rw[f]at p;simp only[P1,D4]at p;split at p
    .rename_i inf hi;obtain⟨hq,d⟩:=A3 p;clear p;obtain⟨Y,Z⟩:=B4 hq;obtain⟨ax,av⟩:=B4 Y;have D:=A1 ax;have F:0<inf.size:=A1 av;obtain⟨z,hz,G⟩:=SZ Z;have I:G3 P e=some inf.size:=by unfold G3;rw[hi]
     split at d
     .rename_i bh gs sure m1 C;split at d
      .rename_i c g0 old m2 N;have mb:=iH T9 N;have mp:=lT d;have L:J6 ρ m.n m1.hi:=B.less A2;obtain⟨A,rows2,new',q,a2,a3,a4,a5,a6⟩:=QP T9 h C L hy (M.le (mb.2.1.trans mp.2.1)) F I;have u:J6 A m1.n m'.hi:=B.step q;obtain⟨ρ2,X,b2,b3,b4⟩:=JV T9 q.hr N (u.less mp.1) (hx.mono q.ext) (M.le mp.2.1) F I;obtain⟨v',r,w3,T,S,Q⟩:=OD (ty:=ty) hu E f hi hz G D X.hr R d (u.step X) M b4 (a5.step (fun b aw=>(a4 b aw).2) X.ext);exact⟨v',r,w3,T,S,St.trans B (St.trans (B.less mp.1) q X) Q⟩
      .split at d
       .rename_i b c tg au;obtain⟨O,J⟩:=A3 d;clear d;have O:=A0 O;have mp:=lT J;have L:J6 ρ m.n m1.hi:=B.less A2;obtain⟨A,rows2,new',q,a2,a3,a4,a5,a6⟩:=QP T9 h C L hy (M.le mp.2.1) F I;have u:J6 A m1.n m'.hi:=B.step q;obtain⟨l,d1,d2,d3,d4,d5⟩:=eV hx;obtain⟨nul,ay,rows,W,q2⟩:=eZ d2 d3 d4;have az:ay=inf.size:=A2;subst az;rw[W]at d2;rcases o7 d2 with⟨rfl,rfl,rfl⟩|⟨rfl,a,cap,rfl,hc⟩
        .have K:A0w P base A m1 w e inf.size c [b] none (.slice none 0 0):=⟨true,[],W,.inl ⟨rfl,rfl,rfl,fun b R=>by cases R⟩⟩;obtain⟨v',r,w3,T,S,Q⟩:=OD (ty:=ty) (g0:=[b]) (gs:=gs) hu E f hi hz G D q.hr R J u M K a5;exact⟨v',r,w3,T,S,St.trans B q Q⟩
        .have V:cap=rows.length:=d5;subst V;obtain⟨v',r,w3,T,S,Q⟩:=A1R (ty:=ty) hu E f hi hz G D q.hr R J u M W (q.ext _ _ d1) (by rw[W];exact d2) a5 (a6 rfl);exact⟨v',r,w3,T,S,St.trans B q Q⟩
       .cases d
     .cases d
    .cases p
 .cases p
end
end
section
open Go
variable [Ora]
section
variable {P:Program} {base:Nat} {ρ ρ':Ren} {m m':Mem} {w w':World}
def GQ(h:o+us.length<=row.length):(vS row o us).length=row.length:=by
 unfold vS;simp;omega
def VJ(h:o+us.length<=row.length):(vS row o us)[j]? = if o<=j/\j<o+us.length then us[j-o]? else row[j]? := by
 unfold vS;have a:(row.take o).length=o:=by simp;omega
 by_cases h1:j<o
 .rw[A7 A2,L8,E7 A2,F2 h1]
 .by_cases d:j<o+us.length
  .rw[A9 ⟨A2,d⟩,L8,D5 A2,a,E7 A2]
  .rw[A7 A2,D5 (by simp;omega),H5];congr 1
   simp;omega
def N7.set{R:Nat->Option Obj}{s:Nat}{C C':U9}(h:N7 R rows wd C s)(D:k<rows.length)(I:o+us.length<=wd)(he:X7 R us vs)
  (hC:∀ j,C'[j]? = if s+k*wd+o<=j/\j<s+k*wd+o+vs.length then vs[j-(s+k*wd+o)]? else C[j]?):N7 R (rows.set k (vS (rows.getD k []) o us)) wd C' s:=by
 have a:rows[k]? = some rows[k]:=A5 D;have B:rows.getD k []=rows[k]:=by rw[B1,a];rfl
 have f:rows[k].length=wd:=h.1 _ (M7 D);rw[B];refine⟨fun row hr=>?_,fun r row j u v d a2 a3=>?_⟩
 .rcases List.mem_or_eq_of_mem_set hr with h1|rfl
  .exact h.1 row h1
  .rw[GQ A2];exact f
 .rw[hC]at a3;by_cases p:k=r
  .subst p;rw[Q7 D]at d;have d:=A8 d;subst d;have A:=(B0.1 a2).1;rw[GQ A2,f]at A;rw[VJ A2]at a2;by_cases n:o<=j/\j<o+us.length
   .rw[A9 n]at a2;rw[A9 (by rw[<- he.1];omega)]at a3;exact he.2 (j-o) u v a2 (by rw[<- a3];congr 1;omega)
   .rw[A7 n]at a2;rw[A7 (by rw[<- he.1];omega)]at a3;exact h.2 k _ j u v a a2 a3
  .rw[cA p]at d;have A:=(B0.1 a2).1;rw[h.1 _ (C6 d)]at A;have F:=(B0.1 d).1;have H:=he.1;rw[A7]at a3
   .exact h.2 r row j u v d a2 a3
   .rcases F4 r k with E|G
    .have q:(r+1)*wd<=k*wd:=F3 wd E;rw[H1]at q;omega
    .have q:(k+1)*wd<=r*wd:=F3 wd A2;rw[H1]at q;omega
def RC(h:HR P base ρ m.H w)(f:vC P m t x y=some (v,m'))(hf:J6 ρ m.n m'.hi)(hx:VR ρ x x')(hy:VR ρ y y')(hS:Sat m'.lg):UOk P base ρ m w (Instr.storeAt t x' y') m'/\v=undef/\m.lg.le m'.lg:=by
 unfold vC at f;split at f
 .rename_i b i tg z o ts an;cases I:iA y with
  | true=>rw[I]at f;cases f
  | false =>
  rw[I]at f;simp only[D4]at f;split at f
  .rename_i xs gs m1 hd;split at f
   .rename_i c tc T g hg;obtain⟨Z,q⟩:=A3 f;clear f;have Z:=A0 Z;split at q
    .rename_i g2 m2 hj;rw[M8]at q;simp only[hole]at q;obtain⟨hs,rfl⟩:=lY q;obtain⟨ai,X⟩:=T4 hs;have md:=R0 T9 hd;have mj:=M1 hj;have ah:m2.hi=m'.hi:=by rw[X];simp
     have L:m'.lg=eL m2 tg (.set (tg-10) o) (hole c tg::z::xs):=by rw[X];simp[hole]
     have ay:m2.lg.le m'.lg:=by rw[L];exact⟨[_],rfl⟩
     have ak:J6 ρ m.n m1.hi:=hf.less A2;have N:m1.lg.le m'.lg:=by rw[<- mj.2.1];exact ay
     obtain⟨Q,J,e2,e3,e4,e5,e6⟩:=gS T9 h hd ak (hy.cells I) (hS.le N);have ax:J6 Q m1.n m2.hi:=(hf.step J).less A2;obtain⟨ρ2,lg,d1,d2,d3,d4,d5,d6⟩:=dY J.hr hj ax;obtain⟨⟨l,wd,iR,k,a1,a2,a3,a4,a5,a6,rfl⟩,a8⟩:=uJ hx;have F:=J.ext _ _ a1;obtain⟨a,inf,q1,q2,q3,K⟩:=SqR.ex (J.hr.atl F hg).1;rcases K with⟨K,_⟩|⟨_,K⟩
     .rw[a2]at K;cases K
     obtain⟨C,fz,T',rows,O,f1,f2,f3,f4,f5,f6,f7,f8,f9⟩:=K;have aw:a=wd:=by
      have:tg=10+wd:=by rw[<- a8,a3];rfl
      omega
     subst aw;obtain⟨rfl,f10⟩:=f9 rfl;have aq:tg=10+a:=A2;have al:Sat (m2.wLg (eL m2 tg (.set (tg-10) o) (hole c tg::z::xs))).lg:=by rw[Z2,<- L];exact hS
     obtain⟨r1,r2,nul,ag,rws,r3,r4⟩:=iX al (.refl _);obtain⟨kk,hz⟩:=EN a4;have B:(hole c tg::z::xs).map (D3 Ora.env)=.seq false a rows::.int kk (.ofNat k)::xs.map (D3 Ora.env):=by
      show Ora.env c::D3 Ora.env z::xs.map (D3 Ora.env)=_;rw[f2,hz]
     rw[B,show tg-10=a by omega]at r1;have r1:Ora.env m2.lg.nx=if a=a/\k<rows.length/\o+(xs.map (D3 Ora.env)).length<=a then .seq false a (rows.set k (vS (rows.getD k []) o (xs.map (D3 Ora.env))))else .none:=r1
     by_cases hc:a=a/\k<rows.length/\o+(xs.map (D3 Ora.env)).length<=a
     .rw[A9 hc]at r1;obtain⟨_,W,M⟩:=hc;have hR:∀ b' ∈ gs,∀ l',Q b'=some l'->Sub l'.G lg.G:=fun b' av l' aj=>d6 b' (.tail _ av) l' aj
      have d:=e6 lg.G hR;have A:Sub O.G lg.G:=d6 g (.head _) O f7;have E:y'.cells.toList.length=(xs.map (D3 Ora.env)).length:=d.1.symm;have ar:(k+1)*a<=l.cap*a:=F3 a A2;rw[H1]at ar;obtain⟨w',g1,au,g3,g4,g5⟩:=X8 (P:=P) (b:=l.blk) (o:=l.sh+k*a+o) (fz:=fz) y'.cells.toList 0 C w f1 (AX d) (by rw[E];omega) f10;have af:C.toList.length=C.size:=Q3;have r:(Array.mk (bO C.toList (l.sh+k*a+o+0) y'.cells.toList)).size=C.size:=by simp[X9]
      have az:∀ j,(Array.mk (bO C.toList (l.sh+k*a+o+0) y'.cells.toList))[j]? = if l.sh+k*a+o<=j/\j<l.sh+k*a+o+y'.cells.toList.length then y'.cells.toList[j-(l.sh+k*a+o)]? else C[j]? := fun j=>by
       rw[I0,jZ _ _ _ _ (by rw[E];omega)];simp
      have p:N7 lg.G rows a C l.sh:=N7.mono ⟨f6,f8⟩ A;have u:St P base ρ ρ2 m (m2.wLg (eL m2 tg (.set (tg-10) o) (hole c tg::z::xs))) w w:=St.trans (hf.less (by simp;omega)) (St.trans (hf.less A2) J d1) (St.wLg d1.hr _);have D:Hp.get (m2.wLg (eL m2 tg (.set (tg-10) o) (hole c tg::z::xs))).H b=some (.sq c tc T' g false):=by rw[jN,rJ J.hr hj ax F];exact hg
      have Y:=d1.ext _ _ F;have ao:BR P ρ2 (.sq m2.lg.nx tg T' g2 false) l w':=by
       refine⟨⟨a,inf,aq,q2,q3,.inr ⟨a2,_,fz,T',_,lg,g4,r1,by rw[Q1];exact f3,f4,by rw[r];exact f5,(p.set W M d az).1,d4,(p.set W M d az).2,fun _=>⟨rfl,by rw[r];exact f10⟩⟩⟩⟩
      have V:=St.write u.hr hs D rfl Y a2 au g3 g5 ao (fun h=>by cases h);refine⟨⟨ρ2,w',?_,St.trans hf u V⟩,rfl,md.2.1.trans N⟩;have R:=gV an;have S:ts.length=(xs.map (D3 Ora.env)).length:=by
       have:=F0 List.length e5;rw[E3]at this;exact this.symm
      have e:y'.cells.size=ts.length:=by rw[S,<- E];simp
      simp[Instr.storeAt,Instr.sureAddr,storeVar,A4,K1 R,Result.andThen,e,g1]
     .rw[A7 hc]at r1;rw[r1]at r3;cases r3
    .cases q
   .cases f
  .cases f
 .cases f
def RF{lo' hi' mx':P5}(h:HR P base ρ m.H w)(a:vE P m t x lo hi mx=some (v,m'))(J:J6 ρ m.n m'.hi)(hx:VR ρ x x')(f:OR ρ lo lo')(q:OR ρ hi hi')(p:OR ρ mx mx')(D:Sat m'.lg) :
  VOk P base ρ m w (Instr.sliceAt t x' lo' hi' mx') v m'/\m.lg.le m'.lg:=by
 unfold vE at a;split at a
 .rename_i e b i tg hu;split at a
  .rename_i s u;obtain⟨d,a⟩:=A3 a;have d:=A0 d;obtain⟨l,h1,F,h3,S⟩:=mC hx;obtain⟨⟨r,g1,g2⟩,⟨lg,rfl⟩,g4⟩:=EC (w:=w) hu u d h1 F h3 (fun h=>by cases h) a f q p D;exact⟨⟨r,ρ,w,g1,g2,St.wLg h lg⟩,g4⟩
  .cases a
 .rename_i e b i tg hu;split at a
  .rename_i s u;obtain⟨d,a⟩:=A3 a;have d:=A0 d;obtain⟨l,h1,F,h3,S,R⟩:=eV hx;obtain⟨⟨r,g1,g2⟩,⟨lg,rfl⟩,g4⟩:=EC (w:=w) hu u d h1 F h3 (fun _=>R) a f q p D;exact⟨⟨r,ρ,w,g1,g2,St.wLg h lg⟩,g4⟩
  .cases a
 .rename_i e b i tg hu;split at a
  .rename_i s u;obtain⟨d,a⟩:=A3 a;have d:=A0 d;split at a
   .rename_i c tc K m1 V;have C:∀ {m1:Mem},JB m1 K c tg false lo hi mx=some (v,m')->J1 m1 m'/\m1.lg.le m'.lg:=fun{m1} a=>by
     have go:∀ {m1:Mem} {l h:Value} {cc:Bool},fA m1 K c tg l h cc=some (v,m')->J1 m1 m'/\m1.lg.le m'.lg:=fun h=>by
      unfold fA at h;obtain⟨_,h⟩:=A3 h;rw[M8]at h;simp only[C9,L1]at h;obtain⟨_,rfl⟩:=h;exact⟨⟨_,rfl⟩,U6⟩
     unfold JB JA at a;split at a
     .exact go a
     .exact go (A3 a).2
     .split at a
      .rename_i L
       have:=go a;exact⟨(aT L).1.trans this.1,(aT L).2.trans this.2⟩
      .cases a
     .cases a
    obtain⟨⟨lg,E⟩,hle⟩:=C a;have N:m1.hi=m'.hi:=by rw[E];simp
    obtain⟨B,l,I,O,W,T,Q,M⟩:=CB h V (J.less A2) hx (D.le hle);have mono:∀ {o o':P5},OR ρ o o'->OR B o o':=fun{o o'} h=>by
     cases o<;>cases o'<;>first|exact trivial|exact h.elim|exact VR.mono I.ext h
    obtain⟨⟨r,g1,g2⟩,⟨G,A⟩,g4⟩:=EC (w:=w) (cl:=false) hu u d O T Q (fun h=>by cases h) a (mono f) (mono q) (mono p) D;subst A;exact⟨⟨r,B,w,g1,g2,St.trans (J.less (by simp)) I (St.wLg I.hr G)⟩,M.trans g4⟩
   .cases a
  .cases a
 .cases a
end
end
section
open Go
variable [Ora]
section
variable {P:Program} {base:Nat} {ρ ρ':Ren} {m m':Mem} {w w':World}
def zP{a':Addr}{n c':Nat}{a:List Int}(p:P.underlying s=some (.slice e))(q:P.underlying t=some .string)(he:P.underlying e=some (.int .u8))(d:(loadCells a' n).run P w=.ok (a.map (Value.int .u8)).toArray w) :
  (convert s t (.slice (some a') n c')).run P w=.ok (.string ⟨⟨a.map fun n=>UInt8.ofNat n.toNat⟩⟩) w:=by
 have:=run_bytesToString w a' n c' a d;have f:=nL a [];simp only[G2]at f;simp only[convert,A4,C7 p,C7 q,C7 he,Result.andThen];rw[this,show ByteArray.empty=ByteArray.mk ⟨[]⟩from rfl,f]
def CJ{n:Nat}(a:P.underlying s=some (.slice e))(d:P.underlying t=some .string)(he:P.underlying e=some (.int .u8)):(convert s t (.slice none n c)).run P w=.ok (.string ByteArray.empty) w:=by
 simp[convert,A4,C7 a,C7 d,C7 he,Result.andThen,Conv.bytesToString]
def GF{b:ByteArray}(D:P.underlying s=some ds)(F:P.underlying t=some (.slice e))(he:P.underlying e=some (.int .u8))(w:World) :
  ∃ (cap:Nat) (C:Array Value),b.size<=cap/\C.size=cap/\(∀ (i:Nat) (u:Value),(O5 b.data.toList)[i]? = some u->C[i]? = some u)/\(convert s t (.string b)).run P w=.ok (.slice (some ⟨w.heap.size,0,none⟩) b.size cap) { w.drew with heap:=w.heap.push (.cells C e (C.size,C.size+1)) }:=by
 let q:Question:=.appendCap b.size 0 e
 let cap:=q.cut (w.tape w.drawn q)
 have d:b.size<=cap:=by show b.size<=b.size+_;omega
 have p:(choose q).run P w=.ok cap w.drew:=by
  simp only[choose,Sem.run];rw[A7 (by simp[q,Question.forced])];rfl
 let C:U9:=(b.data.map fun b=>Value.int .u8 b.toNat)++Array.replicate (cap-b.size) (.int .u8 0)
 have hC:C.size=cap:=by
  have:b.data.size=b.size:=rfl;simp[C,this];omega
 refine⟨cap,C,d,hC,fun i u hi=>?_,?_⟩
 .have B:=(B0.1 hi).1;simp[O5]at B;have A:i<(b.data.map fun b=>Value.int .u8 b.toNat).size:=by simpa using B
  show((b.data.map fun b=>Value.int .u8 b.toNat)++Array.replicate (cap-b.size) (.int .u8 0))[i]? = some u;rw[R6 A]
  simpa [O5]using hi
 .have f:∀ w2:World,w2.heap[w.heap.size]? = some (.cells C e (0,0))->(markStringish ⟨w.heap.size,0,none⟩).run P w2=.ok () (w2.freeze { block:=w.heap.size,off:=C.size } 1):=fun w2 E=>by
   simp[markStringish,shape,freeze,Sem.run,World.shape?,E]
  have r:({ w.drew with heap:=w.heap.push (.cells C e (0,0)) }:World).freeze { block:=w.heap.size,off:=C.size } 1={ w.drew with heap:=w.heap.push (.cells C e (C.size,C.size+1)) }:=by
   unfold World.freeze;rw[A7 F1];congr 1;apply Array.ext_getElem?;intro i;rw[G7];by_cases hi:w.heap.size=i
   .subst hi;simp
   .rw[A7 hi];simp only[Z7];rw[A7 (fun h=>hi h.symm),A7 (fun h=>hi h.symm)]
  have a:(convert s t (.string b)).run P w=(Conv.stringToBytes e b).run P w:=by
   cases ds<;>simp[convert,A4,C7 D,C7 F,C7 he,Result.andThen]
  rw[a];unfold Conv.stringToBytes;simp only[A4,show(choose (.appendCap b.size 0 e)).run P w=.ok cap w.drew from p,Result.andThen];have n:(newRow e C).run P w.drew=.ok ⟨w.heap.size,0,none⟩ { w.drew with heap:=w.heap.push (.cells C e (0,0)) }:=rfl;rw[show(newRow e ((b.data.map fun b=>Value.int .u8 b.toNat)++Array.replicate (cap-b.size) (.int .u8 0))).run P w.drew=_ from n];simp only[Result.andThen];rw[f _ (by simp),r];rfl
def EH:∀ {us:List U} {s:List UInt8} {vs:C8},sB us=some s->X7 (fun k=>w.heap[k]?) us vs->∃ d:List Int,vs=d.map (Value.int .u8)/\s=d.map fun n=>UInt8.ofNat n.toNat
 | [],s,vs,h,he=>by
   cases h;have:vs=[]:=F8.1 he.1.symm;subst this;exact⟨[],rfl,rfl⟩
 | u::us,s,vs,h,he=>by
   unfold sB at h;split at h
   .rename_i heq;cases heq
   .rename_i n r heq;cases heq;split at h
    .split at h
     .rename_i l q;cases h;cases vs with
      | nil=>have:=he.1;simp at this
      | cons v vr =>
        obtain⟨d,A,p⟩:=EH (vs:=vr) q ⟨by have:=he.1;simpa using this,fun i a b h1 f=>he.2 (i+1) a b (by simpa using h1) (by simpa using f)⟩
        have:=eY (he.2 0 _ v rfl rfl) rfl;subst this;exact⟨(Int.ofNat n)::d,by rw[A];rfl,by rw[p];rfl⟩
     .cases h
    .cases h
   .cases h
def EI:∀ {rows:List (List U)} {s:List UInt8},tY rows=some s->sB (rows.flatMap id)=some s/\(rows.flatMap id).length=rows.length/\∀ (r:Nat) (row:List U) (j:Nat) (u:U),rows[r]? = some row->row[j]? = some u->j=0/\(rows.flatMap id)[r]? = some u
 | [],s,h=>by cases h;exact⟨rfl,rfl,fun r row j u h=>by simp at h⟩
 | row::rows,s,h=>by
   unfold tY at h;split at h
   .rename_i heq;cases heq
   .rename_i n r heq;cases heq;split at h
    .rename_i A;split at h
     .rename_i l B;cases h;obtain⟨h1,d,h3⟩:=EI B;refine⟨?_,by show([U.int .u8 (Int.ofNat n)]++rows.flatMap id).length=_;rw[D6,d];simp;omega,fun q row j u a a2=>?_⟩
      .simp only[fF,id,R1,G2,sB];rw[A9 A,h1]
      .cases q with
       | zero =>
         simp at a;subst a;cases j with
         | zero=>simp at a2;subst a2;exact⟨rfl,rfl⟩
         | succ j=>simp at a2
       | succ q =>
         obtain⟨f,p⟩:=h3 q row j u (by simpa using a) a2;exact⟨f,by simpa using p⟩
     .cases h
    .cases h
   .cases h
def oN{t:Nat}:∀ {l:C8},Z9 t l=true->∀ v ∈ l,G1 v=t
 | [],_,v,hv=>by cases hv
 | x::r,h,v,hv=>by
   obtain⟨h1,a⟩:=B4 (show(Nat.beq (G1 x) t && Z9 t r)=true from h);rcases B3.1 hv with rfl|hv
   .exact A0 h1
   .exact oN a v hv
def qG{R:Nat->Option Obj}(h:LR ρ cs cs')(f:∀ v ∈ cs,G1 v<10):X7 R (cs.map (D3 Ora.env)) cs':=by
 refine⟨by simp[h.1],fun i u v a a2=>?_⟩;rw[F9]at a;cases d:cs[i]? with
 | none=>rw[d]at a;cases a
 | some x =>
   rw[d]at a;have a:=A8 a;subst a;exact .sc (r9 (h.2 i x v d a2) (f x (C6 d))).1
def HY(m m1:Mem):A3m m m1=⟨m.H,m.n,m.W,m1.hi,m1.lg⟩:=by cases m;cases m1;rfl
def St.kept{ρ:Ren}{m:Mem}{w:World}{hi:Nat}{lg:Lg}(h:HR P base ρ m.H w)(hh:m.hi<=hi):St P base ρ ρ m ⟨m.H,m.n,m.W,hi,lg⟩ w w :=
 ⟨fun _ _ h=>h,fun b l h1 a=>(by rw[h1]at a;cases a),A6 _,hh,fun h=>B9 h hh,h,fun _ h=>h,fun b h1 a=>absurd h1 a,fun _ _ _=>rfl,A6 _,⟨rfl,rfl,rfl⟩,fun b l h1 a=>(by rw[h1]at a;cases a),fun _ _ _ _=>rfl,fun _ h=>.inr h⟩
def A0I(h:HR P base ρ m.H w)(hb:base<=w.heap.size)(d:JF P m s t x=some (v,m'))(Z:J6 ρ m.n m'.hi)(hx:VR ρ x x')(hS:Sat m'.lg):VOk P base ρ m w (convert s t x') v m'/\m.lg.le m'.lg:=by
 unfold JF at d;split at d
 .rename_i e a n c N O;split at d
  .rename_i he;split at d
   .rename_i cs hr;obtain⟨E,d⟩:=A3 d;obtain⟨u,p,e2,r,L,Q,e5⟩:=L3 d hS;obtain⟨lg,rfl⟩:=G8 d;have q:=St.wLg h lg;have K:=oN E;have key:∀ {a' c'} {M:C8},LR ρ cs M->(loadCells a' n).run P w=.ok ⟨M⟩ w->VOk P base ρ m w (convert s t (.slice (some a') n c')) v (m.wLg lg):=fun{a' c' M} V az=>by
     have aw:X7 (fun k=>w.heap[k]?) (cs.map (D3 Ora.env)) M:=qG V (fun v hv=>by rw[K v hv];omega);have J:∃ f,sB (cs.map (D3 Ora.env))=some f/\u=.str f:=by
      have p:(match sB (cs.map (D3 Ora.env))with|some s=>U.str s|none=>.none)=u:=p;split at p
      .rename_i f A;exact⟨f,A,p.symm⟩
      .subst p;cases L
     obtain⟨f,I,rfl⟩:=J;cases L;obtain⟨ns,r1,r2⟩:=EH (w:=w) I aw;subst r1;subst r2;exact⟨_,ρ,w,zP N O he az,Q ρ,q⟩
    refine⟨?_,H4 d⟩;rcases O1 hx with⟨l,V,_,_,rfl⟩|⟨l,c',V,_,_,_,_,rfl⟩|⟨a',c',_,rfl,_,rfl⟩
    .obtain⟨M,g1,g2,g3⟩:=Y5 h hr V;exact key g1 (J7 g2 g3)
    .obtain⟨M,g1,g2,g3⟩:=Y5 h hr V;exact key g1 (J7 g2 g3)
    .have:cs=[]:=by
      unfold m9 at hr;split at hr
      .have:=(iE hr).2;simpa using this
      .cases hr
     subst this;exact key .nil (by simp[loadCells,loadCellsFrom])
   .cases d
  .cases d
 .rename_i e fn a1 a2 N O;split at d
  .rename_i he;split at d
   .rename_i hh b m1 hd;rw[HY]at d;obtain⟨u,p,e2,r,L,Q,e5⟩:=L3 d hS;have hle:=H4 d;obtain⟨lg,rfl⟩:=G8 d;obtain⟨T,l,d1,d2,d3,d4,d5,d6⟩:=CB h hd (Z.less (by simp[Mem.wLg])) hx (hS.le hle);have q:St P base ρ ρ m (Mem.wLg ⟨m.H,m.n,m.W,m1.hi,m1.lg⟩ lg) w w:=St.kept h d1.hle;obtain⟨nul,wd,rows,I,q2⟩:=eZ d4 d5 A2;have av:wd=1:=A2;subst av;rw[I]at d4;have J:∃ f,tY rows=some f/\u=.str f:=by
     have p:evU .str [D3 Ora.env hh]=u:=p;rw[I]at p;have p:(if 1=1 then(match tY rows with|some s=>U.str s|none=>.none)else .none)=u:=p;rw[A9 rfl]at p;split at p
     .rename_i f A;exact⟨f,A,p.symm⟩
     .subst p;cases L
    obtain⟨f,A,rfl⟩:=J;cases L;refine⟨?_,d6.trans hle⟩;have hG:=(d1.hr.atl d2 d3).1.2;rcases o7 d4 with⟨rfl,rfl,rfl⟩|⟨rfl,a,c,rfl,hc⟩
    .cases A;exact⟨_,ρ,w,CJ N O he,Q ρ,q⟩
    .obtain⟨_,new',g1,g2,g3,g4⟩:=rY (w:=w) d4 hG;obtain⟨k1,k2,k3⟩:=EI A;have S:X7 (fun k=>w.heap[k]?) (rows.flatMap id) new':=by
      refine⟨by rw[k2,g1];simp,fun i u v b1 b2=>?_⟩;have B:i<rows.length:=by have:=(B0.1 b1).1;rw[k2]at this;exact this
      have au:rows[i].length=1:=g3.1 _ (M7 B);have F:rows[i]? = some rows[i]:=A5 B;have h0:rows[i][0]? = some (rows[i][0]' A2):=A5 A2;obtain⟨_,k4⟩:=k3 i _ 0 _ F h0;rw[b1]at k4;have k4:=A8 k4;rw[k4];exact(g3.2 i _ 0 _ v F h0 (by simpa using b2)).mono hG
     obtain⟨ns,r1,r2⟩:=EH (w:=w) k1 S;subst r1;subst r2;have ax:(ns.map (Value.int .u8)).length=rows.length:=by rw[g1];omega
     exact⟨_,ρ,w,zP N O he (kJ ax g4),Q ρ,q⟩
   .cases d
  .cases d
 .rename_i y _ _ _ ds e N O;obtain⟨E,d⟩:=A3 d;have E:=A0 E;split at d
  .rename_i he;split at d
   .rename_i D;split at d
    .rename_i g m1 hj;rw[M8]at d;simp only[hole]at d;have d:aF (m1.wLg (eL m1 11 .byt [y])) m1.lg.nx 11 e g=some (v,m'):=d;have mj:=M1 hj;have mn:=j8 d;simp only[KE,Z2,TD]at mn;obtain⟨T,lg,p,e2,L,Q,e5,e6⟩:=dY h hj (Z.less A2);have q:St P base ρ T m (m1.wLg (eL m1 11 .byt [y])) w w:=St.trans (Z.less (by simp;omega)) p (St.wLg p.hr _);obtain⟨f,rfl,f1⟩:=g9 hx E;obtain⟨r1,r2,_⟩:=iX (m:=m1) (t:=11) (op:=.byt) (xs:=[y]) (lg:=m'.lg) hS (by rw[Z2,mn.2.1];exact .refl _);have r1:Ora.env m1.lg.nx=evU .byt [D3 Ora.env y]:=r1;rw[f1]at r1;have r1:Ora.env m1.lg.nx=.seq false 1 (iQ f):=r1;obtain⟨cap,C,c1,c2,c3,c4⟩:=GF (P:=P) (b:=⟨⟨f⟩⟩) N O he w;obtain⟨inf,Y,X⟩:∃ inf,P.info? e=some inf/\inf.size=1:=by
      unfold G3 at D;cases hi:P.info? e with
      | none=>rw[hi]at D;cases D
      | some inf=>rw[hi]at D;exact⟨inf,rfl,A8 D⟩
     have ay:ByteArray.size ⟨⟨f⟩⟩=f.length:=rfl;rw[ay]at c1 c4;obtain⟨ρ2,I,q2⟩:=bQ (w':={ w.drew with heap:=w.heap.push (.cells C e (C.size,C.size+1)) }) (cap:=cap) (C:=C) q.hr hb d (by simpa using(Z.less (A6 _)).step p) r1 rfl Y X (by rw[fY];exact c1) A2
      ((GH (R:=lg.G) f).move (o':=0) fun i hi=>by
        rw[fY]at hi;have B:i<(O5 f).length:=by simp[O5];omega
        rw[E9,c3 i (O5 f)[i] (A5 B)];simp[B]) Q (fun i hi hh=>by have:=hh.1;simp only at this;omega) ⟨rfl,rfl,rfl⟩ rfl
     rw[fY]at I;exact⟨⟨_,ρ2,_,c4,I,St.trans Z q q2⟩,by rw[mn.2.1,<- mj.2.1];exact⟨[_],rfl⟩⟩
    .cases d
   .cases d
  .cases d
 .cases d
def RL(hu:P.underlying t=some (.slice e))(hi:P.info? e=some inf)(f:inf.bytes<=90000)(h0:0<inf.size)(A:∀ w,(zeroValue e).run P w=.ok z w)(q:k<=tZ)(w:World) :
  (Instr.makeSlice t (.int .i64 (Int.ofNat k)) (.int .i64 (Int.ofNat k))).run P w=.ok (.slice (some ⟨w.heap.size,0,none⟩) k k) { w with heap:=w.heap.push (.cells ((Array.range (k*inf.size)).map (z.cells[· % z.cells.size]!)) e (0,0)) }:=by
 have q:k<=1000000000:=q;have u:G3 P e=some inf.size:=by simp[G3,hi]
 have wl:IntKind.i64.wrap (Int.ofNat k)=Int.ofNat k:=oB .i64 k (by simp only[KI];omega);have hm:k*inf.bytes<=1000000000*90000:=eH q f;have a:(askRoom (k*inf.bytes)).run P w=.ok () w:=by
  unfold askRoom roomBytes;rw[A7 A2];rfl
 have d:((inf.bytes:Int)*(k:Int))=((k*inf.bytes:Nat):Int):=by rw[y7];simp
 unfold Instr.makeSlice;simp only[A4,C7 hu,asInt,asIntOf,Result.andThen,Sem.run_pure,U0 hi,wl];rw[A7]
 .have p:(Int.ofNat k).toNat=k:=by simp
  simp only[A4,Sem.run_pure,Result.andThen,p,a,K1 u];by_cases n:k*inf.size=0
  .have h:∀ z:U9,Array.map (fun x=>z[x%z.size]!) (Array.range (k*inf.size))=⟨[]⟩:=fun z=>by rw[n];apply I3;simp
   simp only[A9 n,h];rfl
  .simp only[A7 n,A4,Sem.run_pure,Result.andThen,A];rfl
 .have r:Int.ofNat k=(k:Int):=rfl;simp only[r,d];simp;omega
def SY{R:Nat->Option Obj}{s:Nat}(h0:0<s)(d:z.cells.size=s)(p:LR ρ z.cells.toList z.cells.toList)(q:∀ v ∈ z.cells.toList,G1 v<10):N7 R (List.replicate k (z.cells.toList.map (D3 Ora.env))) s ((Array.range (k*s)).map (z.cells[· % z.cells.size]!)) 0:=by
 have he:=qG (R:=R) p q;refine⟨fun row hr=>?_,fun r row j u v g1 g2 g3=>?_⟩
 .rw[(List.mem_replicate.1 hr).2];simp[d]
 .have hr:=(B0.1 g1).1;rw[S1]at hr;rw[List.getElem?_replicate,A9 hr]at g1;cases g1;have f:=(B0.1 g2).1;simp only[E3,Q3]at f;rw[d]at f;have hm:(r*s+j)%s=j:=by rw[y7,Nat.mul_add_mod,V0 f]
  have n:r*s+j<k*s:=by
   have:(r+1)*s<=k*s:=F3 s hr;rw[H1,fE]at this;omega
  rw[E9,Array.getElem?_map,Array.getElem?_range,A9 n]at g3;simp only[K3,C9,d,hm]at g3;have a:j<z.cells.size:=A2;rw[getElem!_pos z.cells j a]at g3;refine he.2 j u v g2 ?_;rw[X3,E8 a,g3]
def WX{l c:Value}(h:HR P base ρ m.H w)(O:base<=w.heap.size)(a:HL P m t l c=some (v,m'))(C:J6 ρ m.n m'.hi)(Q:VR ρ l l')(N:VR ρ c c')(T:Sat m'.lg):VOk P base ρ m w (Instr.makeSlice t l' c') v m'/\m.lg.le m'.lg:=by
 unfold HL at a;split at a
 .rename_i e i Z j tj hu;obtain⟨d,A⟩:=A3 a;clear a;obtain⟨d,h3⟩:=B4 d;obtain⟨h1,D⟩:=B4 d;have h1:=A0 h1;have D:=A0 D;have h3:=A0 h3;subst h1 D h3;have a:=A;clear A;split at a
  .rename_i inf hi;obtain⟨d,a⟩:=A3 a;obtain⟨p,f⟩:=B4 d;have p:=A1 p;have f:0<inf.size:=A1 f;split at a
   .rename_i z J;obtain⟨d,a⟩:=A3 a;obtain⟨r,u⟩:=B4 d;have r:=A0 r;have u:∀ v ∈ z.cells.toList,G1 v<10:=fun v hv=>A1 (D0.1 u v hv)
    split at a
    .rename_i g m1 K;rw[M8]at a;simp only[hole]at a;have a:aF (m1.wLg (eL m1 (10+inf.size) (.rep inf.size) (hole i 3::z.cells.toList))) m1.lg.nx (10+inf.size) e g=some (v,m'):=a;have M:=M1 K;have G:=j8 a;simp only[KE,Z2,TD]at G;obtain⟨E,lg,F,e2,e3,V,e5,Y⟩:=dY h K (C.less A2);have B:St P base ρ E m (m1.wLg (eL m1 (10+inf.size) (.rep inf.size) (hole i 3::z.cells.toList))) w w:=St.trans (C.less (by simp;omega)) F (St.wLg F.hr _);obtain⟨k,n,rfl,f1,f2⟩:=L6 (v:=hole i 3) Q (show(3:Nat)<8 by decide);obtain⟨W,X,rfl,f3,f4⟩:=L6 (v:=hole i 3) N (show(3:Nat)<8 by decide);rw[f1]at f3;cases f3;obtain⟨r1,r2,nul,wd,rows,L,r4⟩:=iX (m:=m1) (t:=10+inf.size) (op:=.rep inf.size) (xs:=hole i 3::z.cells.toList) (lg:=m'.lg) T (by rw[Z2,G.2.1];exact .refl _);have r1:Ora.env m1.lg.nx=evU (.rep inf.size) (D3 Ora.env (hole i 3)::z.cells.toList.map (D3 Ora.env)):=r1;rw[f1]at r1;have R:k=.i64:=by
      have f2:(3:Nat)=gD k:=f2;cases k<;>first|rfl|(exfalso;revert f2;decide)
     subst R;cases n with
     | negSucc q=>rw[L]at r1;cases r1
     | ofNat q =>
       have r1:Ora.env m1.lg.nx=if(z.cells.toList.map (D3 Ora.env)).length=inf.size/\q<=tZ then .seq false inf.size (List.replicate q (z.cells.toList.map (D3 Ora.env)))else .none:=r1
       by_cases d:(z.cells.toList.map (D3 Ora.env)).length=inf.size/\q<=tZ
       .rw[A9 d]at r1;obtain⟨ρ2,I,S⟩:=bQ (w':={ w with heap:=w.heap.push (.cells ((Array.range (q*inf.size)).map (z.cells[· % z.cells.size]!)) e (0,0)) }) (cap:=q) (fz:=(0,0)) B.hr O a (by simpa using(C.less (A6 _)).step F) r1 rfl hi rfl (by simp) (by simp)
         (SY (ρ:=ρ) f r (nX J) u) V (fun i hi hh=>by have:=hh.2;simp only at this;omega) ⟨rfl,rfl,rfl⟩ rfl
        rw[S1]at I;exact⟨⟨_,ρ2,_,RL hu hi p f (fun w=>s9 J w) d.2 w,I,St.trans C B S⟩,by rw[G.2.1,<- M.2.1];exact⟨[_],rfl⟩⟩
       .rw[A7 d,L]at r1;cases r1
    .cases a
   .cases a
  .cases a
 .cases a
end
end
section
open Go
variable [Ora]
section
variable {P:Program} {base:Nat} {ρ ρ':Ren} {m m':Mem} {w w':World}
def OL{t:Nat}(h:S5 m 8 .nilp [hole i t]=some (v,m'))(hi:Ora.env i=.seq nul wd rows)(n:Sat m'.lg):VR ρ v (.bool nul)/\J1 m m'/\m.lg.le m'.lg:=by
 obtain⟨u,d,A,r,f,p,q⟩:=L3 h n;have a:[hole i t].map (D3 Ora.env)=[.seq nul wd rows]:=by
  show[Ora.env i]=_;rw[hi]
 rw[a]at d;have d:U.bool nul=u:=d;subst d;cases f;exact⟨p ρ,G8 h,H4 h⟩
def zQ{x y:Operand}{a:Option Addr}{n:Nat}(hu:P.underlying t=some (.slice e))(A:(a=none/\n=0/\c=0/\nul=true)∨(nul=false/\∃ q:Addr,a=some q/\n<=c))(p:op=.eql∨op=.neq)(w:World) :
  (do eqGuard op t x y (.slice a n c) (.slice none 0 0);binOp op t (.slice a n c) (.slice none 0 0):Sem Value).run P w=.ok (.bool (if op=.eql then nul else !nul)) w:=by
 have key:∀ {ρ:Ren} {am:Value},VR ρ am (.slice a n c)->kP P t x y am (.slice none 0 0)=true->qM P .eql t am (.slice none 0 0)=some (.bool nul)->qM P .neq t am (.slice none 0 0)=some (.bool !nul) ->
   (do eqGuard op t x y (.slice a n c) (.slice none 0 0);binOp op t (.slice a n c) (.slice none 0 0):Sem Value).run P w=.ok (.bool (if op=.eql then nul else !nul)) w:=fun{ρ am} hv r h1 h=>by
  have f:VR ρ (.slice none 0 0) (.slice none 0 0):=.pure rfl;have u:=pY (op:=op) (fun _=>r) hv f w;rcases p with rfl|rfl
  .obtain⟨g1,_⟩:=uP h1 hv f w;simp[A4,u,g1,Result.andThen]
  .obtain⟨g1,_⟩:=uP h hv f w;simp[A4,u,g1,Result.andThen]
 rcases A with⟨rfl,rfl,rfl,rfl⟩|⟨rfl,q,rfl,C⟩
 .refine key (ρ:=fun _=>none) (am:=.slice none 0 0) (.pure rfl) rfl ?_ ?_
  .simp[qM,zU,eqM,hu]
  .simp[qM,zU,eqM,hu]
 .obtain⟨d,B⟩:∃ d,Op.maxDepth=d+1:=⟨Op.maxDepth-1,rfl⟩;have he:∀ w,(Op.equal t (.slice (some q) n c) (.slice none 0 0)).run P w=.ok false w:=fun w=>by
   rw[Op.equal,B];simp[Op.equalIn,A4,C7 hu,Result.andThen]
  have r:∀ o:BinOp,(eqGuard o t x y (.slice (some q) n c) (.slice none 0 0)).run P w=.ok () w:=fun o=>by
   unfold eqGuard;cases o<;>rfl
  rcases p with rfl|rfl
  .rw[A4,r];show(do pure (.bool (<- Op.equal t (.slice (some q) n c) (.slice none 0 0))):Sem Value).run P w=_;rw[A4,he];rfl
  .rw[A4,r];show(do pure (.bool (!(<- Op.equal t (.slice (some q) n c) (.slice none 0 0)))):Sem Value).run P w=_;rw[A4,he];rfl
def A1Z{x y:Operand}{a a' b:Value}(F:WL P m op t x y a b=some (v,m'))(M:VR ρ a a')(S:VR ρ b b')(L:Sat m'.lg) :
  (∃ r,(do eqGuard op t x y a' b';binOp op t a' b':Sem Value).run P w=.ok r w/\VR ρ v r)/\J1 m m'/\m.lg.le m'.lg:=by
 unfold WL at F;split at F
 .rename_i e k T i tg hu;obtain⟨f,d⟩:=A3 F;clear F;obtain⟨f,A⟩:=B4 f;obtain⟨f,N⟩:=B4 f;have J:b'=.slice none 0 0:=by
   unfold YO at f;split at f
   .exact O6 S
   .cases f
  subst J;obtain⟨nul,wd,rows,B,n,c,D,rfl,O⟩:∃ nul wd rows B n c,Ora.env i=.seq nul wd rows/\a'=.slice B n c/\((B=none/\n=0/\c=0/\nul=true)∨(nul=false/\∃ q:Addr,B=some q/\n<=c)):=by
   have C:∀ {l:Loc},Enc l.G (Ora.env i) a'->F7 (Ora.env i)=tg->10<=tg->∃ nul wd rows B n c,Ora.env i=.seq nul wd rows/\a'=.slice B n c/\((B=none/\n=0/\c=0/\nul=true)∨(nul=false/\∃ q:Addr,B=some q/\n<=c)):=fun h h3 E=>by
    obtain⟨nul,wd,rows,D,_⟩:=eZ h h3 E;rw[D]at h;rcases o7 h with⟨rfl,rfl,rfl⟩|⟨rfl,q,c,rfl,Q⟩
    .exact⟨_,_,_,_,_,_,D,rfl,.inl ⟨rfl,rfl,rfl,rfl⟩⟩
    .exact⟨_,_,_,_,_,_,D,rfl,.inr ⟨rfl,q,rfl,Q⟩⟩
   rcases(I1 _ _).mp A with A|A
   .rcases(I1 _ _).mp A with A|A
    .have:=A0 A;subst this;obtain⟨l,_,h,h3,E⟩:=mC M;exact C h h3 E
    .have:=A0 A;subst this;obtain⟨l,_,h,h3,E,_⟩:=eV M;exact C h h3 E
   .have:=A0 A;subst this;rcases(eU M).1 with⟨l,wd,h1,h,h3,rfl⟩|⟨l,wd,rows,h1,h,h3,E,K,rfl⟩
    .exact⟨_,_,_,_,_,_,h3,rfl,.inl ⟨rfl,rfl,rfl,rfl⟩⟩
    .exact⟨_,_,_,_,_,_,h3,rfl,.inr ⟨rfl,_,rfl,K⟩⟩
  split at d
  .rename_i r H;cases d;obtain⟨g1,g2,g3⟩:=OL (ρ:=ρ) H D L;exact⟨⟨_,zQ hu O (.inl rfl) w,g1⟩,g2,g3⟩
  .rename_i hh m1 H;have hle:=H4 d;obtain⟨g1,g2,g3⟩:=OL (ρ:=ρ) H D (L.le hle);obtain⟨u,f1,f2,r,f3,f4,f5⟩:=L3 d L;obtain⟨rfl,R⟩:=hZ H;have I:D3 Ora.env (hole m.lg.nx 8)=.bool nul:=by
    obtain⟨p,_⟩:=r9 g1 (by show(8:Nat)<10;omega);cases f:D3 Ora.env (hole m.lg.nx 8)with
    | bool b=>rw[f]at p;cases p;rfl
    | int k n=>rw[f]at p;cases p
    | str s=>rw[f]at p;cases p
    | none=>rw[f]at p;cases p
    | seq _ _ _=>rw[f]at p;cases p
   have f1:ev1 .not (D3 Ora.env (hole m.lg.nx 8))=u:=f1;rw[I]at f1;have f1:U.bool (!nul)=u:=f1;subst f1;cases f3;exact⟨⟨_,zQ hu O (.inr rfl) w,f4 ρ⟩,g2.trans (G8 d),g3.trans hle⟩
  .cases d
 .cases F
def A52{fr:Fr}{g:Operand->Value}{o:Oper}(h:HR P base ρ m.H w)(D:base<=w.heap.size)(d:dsM P fr m o.op=some (v,m'))(A:J6 ρ m.n m'.hi)(K:FR ρ fr g o.op)(f:Sat m'.lg):NOk P base ρ m w (execOp g o) v m':=by
 obtain⟨dst,op,ty,pos,L,J⟩:=o;simp only at d K;have a:∀ {x},x ∈ op.operands.toList->VR ρ (ev fr x) (g x):=fun hx=>K _ hx
 have fin:∀ {s:Sem Value},(∃ r,s.run P w=.ok r w/\VR ρ v r)->J1 m m'->NOk P base ρ m w (do pure (.value (<- s))) v m':=fun{s} ⟨r,h1,M⟩ ⟨lg,Q⟩=>by
  subst Q;exact NOk.of ⟨r,ρ,w,h1,M,St.wLg h lg⟩
 unfold dsM at d;split at d
 .rename_i t x y;exact NOk.of (WX h D d A (a (x:=x) (by simp[Op.operands])) (a (x:=y) (by simp[Op.operands])) f).1
 .rename_i t x;obtain⟨g1,g2,_⟩:=XA (w:=w) h d (a (x:=x) (by simp[Op.operands])) f;exact fin (s:=Instr.loadAt t (g x)) g1 g2
 .rename_i t x y;obtain⟨g1,rfl,_⟩:=RC h d A (a (x:=x) (by simp[Op.operands])) (a (x:=y) (by simp[Op.operands])) f;exact NOk.ofU (s:=Instr.storeAt t (g x) (g y)) g1
 .rename_i t x i;obtain⟨g1,g2,_⟩:=IC (w:=w) d (a (x:=x) (by simp[Op.operands])) (a (x:=i) (by simp[Op.operands])) f;exact fin (s:=Instr.indexAt t (g x) (g i)) g1 g2
 .rename_i s x i;obtain⟨g1,rfl⟩:=IT (w:=w) d (a (x:=x) (by simp[Op.operands]));exact fin (s:=Instr.fieldAt s (g x) i) g1 (.refl _)
 .rename_i t x lo hi mx;obtain⟨g1,_⟩:=RF h d A (a (x:=x) (by simp[Op.operands])) (iC (g:=g) fun y p=>a (by simp[Op.operands]at p ⊢;exact .inr (.inl p))) (iC (g:=g) fun y p=>a (by simp[Op.operands]at p ⊢;exact .inr (.inr (.inl p)))) (iC (g:=g) fun y p=>a (by simp[Op.operands]at p ⊢;exact .inr (.inr (.inr p)))) f;exact NOk.of (s:=Instr.sliceAt t (g x) (lo.map g) (hi.map g) (mx.map g)) g1
 .rename_i s t x;exact NOk.of (A0I h D d A (a (x:=x) (by simp[Op.operands])) f).1
 .rename_i op t x y S;obtain⟨g1,g2,_⟩:=A1Z (w:=w) d (a (x:=x) (by simp[Op.operands])) (a (x:=y) (by simp[Op.operands])) f;exact fin (s:=do eqGuard op t x y (g x) (g y);binOp op t (g x) (g y)) g1 g2
 .rename_i xs tys;have l1:=cG (ρ:=ρ) (fr:=fr) (g:=g) (xs:=xs.toList) fun x hx=>a (by show x ∈ (#[]++xs:Array Operand).toList;simpa using hx)
  split at d
  .rename_i x t rest q u;rw[q]at l1;obtain⟨x',r1,E,B,G⟩:=l1.tail
   have:=G.nil_inv;subst this;obtain⟨g1,g2,_⟩:=A1m (w:=w) (ty:=ty) (tys:=rest) d B f;obtain⟨ks,C⟩:∃ ks,execOp g ⟨dst,.call ⟨.builtin .len,xs,tys⟩,ty,pos,L,J⟩=builtin .len tys ty ks (xs.map g):=⟨#[],rfl⟩;have F:xs.map g=⟨xs.toList.map g⟩:=by apply I3;simp
   have I:tys=⟨t::rest⟩:=by rw[<- u]
   rw[C,F,E,I];exact fin (s:=Builtin.len_ ⟨t::rest⟩ ty #[x']) g1 g2
  .cases d
 .rename_i xs tys;have l1:=cG (ρ:=ρ) (fr:=fr) (g:=g) (xs:=xs.toList) fun x hx=>a (by show x ∈ (#[]++xs:Array Operand).toList;simpa using hx)
  split at d
  .rename_i x y t t2 rest q u;rw[q]at l1;obtain⟨x',r1,E,B,G⟩:=l1.tail;obtain⟨y',T,O,N,R⟩:=G.tail
   have:=R.nil_inv;subst this
   have:=MY (ty:=ty) h D d A B N f;obtain⟨ks,C⟩:∃ ks,execOp g ⟨dst,.call ⟨.builtin .append,xs,tys⟩,ty,pos,L,J⟩=builtin .append tys ty ks (xs.map g):=⟨#[],rfl⟩;have F:xs.map g=⟨xs.toList.map g⟩:=by apply I3;simp
   have I:tys=⟨t::t2::rest⟩:=by rw[<- u]
   rw[C,F,E,O,I];have e:Builtin.append_ ⟨t::t2::rest⟩ ty #[x',y']=Builtin.append_ #[t,t2] ty #[x',y']:=rfl;refine NOk.of (s:=Builtin.append_ ⟨t::t2::rest⟩ ty #[x',y']) ?_;rw[e];exact this
  .cases d
 .cases d
def eX{wd o i t g:Nat}{z:Value}:∀ {ts:G5} {j:Nat} {m m':Mem} {r:C8},W7 wd o i t z g ts j m=some (r,m')->m.lg.le m'.lg
 | [],j,m,m',r,h=>by cases h;exact .refl _
 | tg::ts,j,m,m',r,h=>by
   unfold W7 at h;cases a:Nat.blt tg 10 with
   | true =>
     rw[a]at h;simp only[D7]at h;split at h
     .rename_i d;split at h
      .rename_i hr;cases h;exact(H4 d).trans (eX hr)
      .cases h
     .cases h
   | false =>
     rw[a]at h;simp only[D4]at h;rw[HS]at h;split at h
     .rename_i hr;cases h;exact U6.trans (eX hr)
     .cases h
def BX{r:Option (C8×Mem)}(h:lD P t r=some (v,m')):∃ vs,r=some (vs,m'):=by
 unfold lD at h;split at h
 .cases h;exact⟨_,rfl⟩
 .cases h;exact⟨_,rfl⟩
 .cases h
def XB(a:HQ P m t x=some (v,m')):m.lg.le m'.lg:=by
 unfold HQ at a;split at a
 .obtain⟨_,a⟩:=A3 a;obtain⟨vs,h⟩:=BX a;exact eX h
 .split at a
  .obtain⟨_,a⟩:=A3 a;obtain⟨vs,h⟩:=BX a;exact eX h
  .cases a
 .cases a
def RD(a:vC P m t x y=some (v,m')):m.lg.le m'.lg:=by
 unfold vC at a;split at a
 .cases d:iA y with
  | true=>rw[d]at a;cases a
  | false =>
    rw[d]at a;simp only[D4]at a;split at a
    .rename_i p;split at a
     .obtain⟨_,a⟩:=A3 a;split at a
      .rename_i q;rw[M8]at a;simp only[hole]at a;obtain⟨n,_⟩:=lY a;have md:=R0 T9 p;have f:=M1 q;refine md.2.1.trans ?_;rw[(T4 n).2,<- f.2.1];simp only[Z2];exact⟨[_],rfl⟩
      .cases a
     .cases a
    .cases a
 .cases a
def A1v{t:Nat}{k:Value}(h:IE m i t z k=some (v,m')):m.lg.le m'.lg:=by
 unfold IE at h;cases a:!(Nat.blt (G1 z) 8)with
 | true=>rw[a]at h;cases h
 | false =>
   rw[a]at h;simp only[D4]at h;split at h
   .rename_i d;split at h
    .rename_i f;cases h;exact(H4 d).trans (eF f)
    .cases h
   .cases h
def ID(h:kO P m t x z=some (v,m')):m.lg.le m'.lg:=by
 unfold kO at h;split at h;all_goals first
  | (split at h
     .obtain⟨_,h⟩:=A3 h;exact A1v h
     .cases h;done)
  | (split at h
     .obtain⟨_,h⟩:=A3 h;rw[E1]at h;cases h;exact .refl _
     .cases h;done)
  | cases h
def IU{f:Nat}(h:kU P m s x f=some (v,m')):m.lg.le m'.lg:=by
 unfold kU at h;split at h;all_goals first
  | (split at h
     .split at h
      .obtain⟨_,h⟩:=A3 h;rw[E1]at h;cases h;exact .refl _
      .cases h
     .cases h;done)
  | cases h
def ED{t:Nat}(a:JB m b i t cl lo hi mx=some (v,m')):m.lg.le m'.lg:=by
 have go:∀ {m1:Mem} {l h:Value} {cc:Bool},fA m1 b i t l h cc=some (v,m')->m1.lg.le m'.lg:=fun h=>by
  unfold fA at h;obtain⟨_,h⟩:=A3 h;rw[M8]at h;simp only[C9,L1]at h;obtain⟨_,rfl⟩:=h;exact U6
 unfold JB JA at a;split at a
 .exact go a
 .exact go (A3 a).2
 .split at a
  .rename_i d;exact(aT d).2.trans (go a)
  .cases a
 .cases a
def RG(a:vE P m t x lo hi mx=some (v,m')):m.lg.le m'.lg:=by
 unfold vE at a;split at a
 .split at a
  .exact ED (A3 a).2
  .cases a
 .split at a
  .exact ED (A3 a).2
  .cases a
 .split at a
  .obtain⟨_,a⟩:=A3 a;split at a
   .rename_i d;exact(fS d).2.1.trans (ED a)
   .cases a
  .cases a
 .cases a
def A0J(a:JF P m s t x=some (v,m')):m.lg.le m'.lg:=by
 unfold JF at a;split at a
 .split at a
  .split at a
   .exact H4 (A3 a).2
   .cases a
  .cases a
 .split at a
  .split at a
   .rename_i f;rw[HY]at a;have p:=H4 a;exact(fS f).2.1.trans p
   .cases a
  .cases a
 .obtain⟨_,a⟩:=A3 a;split at a
  .split at a
   .split at a
    .rename_i n;rw[M8]at a;simp only[hole]at a;have d:=M1 n;rw[(j8 a).2.1,Z2,<- d.2.1];exact⟨[_],rfl⟩
    .cases a
   .cases a
  .cases a
 .cases a
def A1a{x y:Operand}{a b:Value}(f:WL P m op t x y a b=some (v,m')):m.lg.le m'.lg:=by
 unfold WL at f;split at f
 .obtain⟨_,d⟩:=A3 f;clear f;split at d
  .rename_i n;cases d;exact H4 n
  .rename_i n;exact(H4 n).trans (H4 d)
  .cases d
 .cases f
def WY{l c:Value}(a:HL P m t l c=some (v,m')):m.lg.le m'.lg:=by
 unfold HL at a;split at a
 .obtain⟨_,a⟩:=A3 a;split at a
  .obtain⟨_,a⟩:=A3 a;split at a
   .obtain⟨_,a⟩:=A3 a;split at a
    .rename_i f;rw[M8]at a;simp only[hole]at a;have d:=M1 f;rw[(j8 a).2.1,Z2,<- d.2.1];exact⟨[_],rfl⟩
    .cases a
   .cases a
  .cases a
 .cases a
def A53{fr:Fr}{o:Op}(a:dsM P fr m o=some (v,m')):m.lg.le m'.lg:=by
 unfold dsM at a;split at a
 .exact WY a
 .exact XB a
 .exact RD a
 .exact ID a
 .exact IU a
 .exact RG a
 .exact A0J a
 .exact A1a a
 .split at a
  .unfold A1n at a;split at a
   .exact(aT a).2
   .exact(aT a).2
   .exact(aT a).2
   .cases a
  .cases a
 .split at a
  .exact(EO a).2.1
  .cases a
 .cases a
end
end
end Go.Sx
