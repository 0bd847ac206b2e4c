import Derived.Test.YtbbicpheoakeeaaGreatDoorX3
set_option linter.all false
set_option maxRecDepth 100000
set_option maxHeartbeats 4000000
namespace Go.Sx
variable {rows rows2:List (List U)}{b c cap g i j k o o' sh wd:Nat}{e s t t2 ty:TypeId}{inf:TypeInfo}{fz:Nat×Nat}{b' c' l' v x x' y y' z:Value}{l:Loc}{g0 gs:G9}{cl nul sure:Bool}{d2 ds:TypeDesc}{bh:Beh}{cs cs' new' vs:C9}{td:Td}{row us:List U}{hi lo mx:Q0}{op:BinOp}
section
open Go
variable [Ora]
section
variable {P:Program} {base:Nat} {ρ ρ':Ren} {m m':Mem} {w w':World}
def O1.move{R:Nat->Option Obj}{C C':V9}(h:O1 R rows wd C o)(p:∀ i,i<rows.length*wd->C'[o'+i]? = C[o+i]?):O1 R rows wd C' o':=by
 refine⟨h.1,fun r row j u v f a2 a3=>h.2 r row j u v f a2 ?_⟩;have a:=(B0.1 f).1;have d:=(B0.1 a2).1;rw[h.1 _ (C7 f)]at d;have n:(r+1)*wd<=rows.length*wd:=F4 wd a;rw[H4]at n
 have:=p (r*wd+j) A2;rw[show o+r*wd+j=o+(r*wd+j) by omega,<- this,show o'+(r*wd+j)=o'+r*wd+j by omega];exact a3
def O1.append{R:Nat->Option Obj}{C:V9}(h:O1 R rows wd C o)(k:O1 R rows2 wd C (o+rows.length*wd)):O1 R (rows++rows2) wd C o:=by
 refine⟨fun row hr=>(B7.1 hr).elim (h.1 row) (k.1 row),fun r row j u v a a2 a3=>?_⟩;rcases F6 r rows.length with d|d
 .rw[E9 d]at a;exact h.2 r row j u v a a2 a3
 .rw[E0 d]at a;refine k.2 (r-rows.length) row j u v a a2 ?_;have:rows.length*wd+(r-rows.length)*wd=r*wd:=by rw[<- H4];congr 1;omega
  rw[show o+rows.length*wd+(r-rows.length)*wd+j=o+r*wd+j by omega];exact a3
def A7T{t:Nat}{T:TypeId}{lg:Loc}{C:V9}(p:Ora.env c=.seq false wd rows)(r:t=10+wd)(hi:P.info? T=some inf)(u:inf.size=wd)(f:rows.length<=cap)(d:sh+cap*wd<=C.size)
  (a:O1 lg.G rows wd C sh) (q:ρ g=some lg) (hw:w.heap[b]? = some (.cells C T fz)) (n:∀ i,i<C.size->¬ (fz.1<=i/\i<fz.2)):BR P ρ (.sq c t T g false) ⟨b,sh,cap,rows.length,fun _=>none,true⟩ w :=
 ⟨⟨wd,inf,r,hi,u,.inr ⟨rfl,C,fz,T,rows,lg,hw,p,rfl,f,d,a.1,q,a.2,fun _=>⟨rfl,n⟩⟩⟩⟩
def cE{t:Nat}{T:TypeId}{lg:Loc}{C:V9}(h:HR P base ρ m.H w)(K:base<=w.heap.size)(u:aZ m c t T g=some (v,m'))(B:J9 ρ m.n m'.hi)
  (q:Ora.env c=.seq false wd rows) (A:t=10+wd) (hi:P.info? T=some inf) (F:inf.size=wd) (a:rows.length<=cap) (p:cap*wd<=C.size) (f:O1 lg.G rows wd C 0) (E:ρ g=some lg) (r:∀ i,i<C.size->¬ (fz.1<=i/\i<fz.2))
  (J:w'.os=w.os/\w'.tape=w.tape/\w'.output=w.output) (hh:w'.heap=w.heap.push (.cells C T fz)):∃ ρ',VR ρ' v (.slice (some ⟨w.heap.size,0,none⟩) rows.length cap)/\St P base ρ ρ' m m' w w':=by
 have d:ρ m.n=none:=by
  obtain⟨_,_,rfl⟩:=L3 u;exact B m.n (A7 _) (K7 _ _).2
 obtain⟨rfl,I,D⟩:=St.alloc (w':=w') (l:=⟨w.heap.size,0,cap,rows.length,fun _=>none,true⟩) h K u B J hh rfl (A7T q A hi F a A2 f (W5 d _ _ E) (by rw[hh];simp) r);exact⟨_,.own (.inr ⟨_,wd,rows,I,rfl,q,rfl,a,rfl⟩) (by rw[q];exact A.symm) rfl,D⟩
def nW{t id:Nat}{T:TypeId}{ab:AB}{lg:Loc}{C:V9}(h:HR P base ρ m.H w)(hle:id<=H5)(E:Hp.get m.H id=some ab)(u:ab.rw=true)(R:ρ id=some l)(r:l.on=true)
  (I:aZ (jQ m id) c t T g=some (v,m')) (K:J9 ρ m.n m'.hi)
  (D:Ora.env c=.seq false wd rows) (J:t=10+wd) (hi:P.info? T=some inf) (N:inf.size=wd) (a:rows.length<=cap) (f:sh+cap*wd<=C.size) (q:O1 lg.G rows wd C sh) (M:ρ g=some lg) (F:∀ i,i<C.size->¬ (fz.1<=i/\i<fz.2))
  (S:w'.os=w.os/\w'.tape=w.tape/\w'.output=w.output) (B:w'.heap.size=w.heap.size) (Q:∀ k,k≠l.blk->w'.heap[k]? = w.heap[k]?) (hw:w'.heap[l.blk]? = some (.cells C T fz)) :
  ∃ ρ',VR ρ' v (.slice (some ⟨l.blk,sh,none⟩) rows.length cap)/\St P base ρ ρ' m m' w w':=by
 have p:ρ m.n=none:=by
  have d:=I;unfold aZ at d;rw[g8]at d;obtain⟨_,_,rfl⟩:=L3 d;exact K m.n (A7 _) (K7 _ _).2
 obtain⟨rfl,O,L⟩:=St.move (w':=w') (l':=⟨l.blk,sh,cap,rows.length,fun _=>none,true⟩) h hle E u R I K (fun _=>⟨r,rfl⟩) S B (fun k A=>Q k (A r)) (A7T D J hi N a f q (W5 p _ _ M) hw F) (fun h=>by cases h);exact⟨_,.own (.inr ⟨_,wd,rows,O,rfl,D,rfl,a,rfl⟩) (by rw[D];exact J.symm) rfl,L⟩
def A6L:Loc:=⟨0,0,0,0,fun _=>none,false⟩
def BM{t:Nat}{T:TypeId}{old:Option Nat}(h:HR P base ρ m.H w)(hold:∀ b,old=some b->∃ ab l,b<=H5/\Hp.get m.H b=some ab/\ab.rw=true/\ρ b=some l/\l.on=false)
  (A:aZ (jP old m) c t T g=some (v,m')) (B:J9 ρ m.n m'.hi) (d:Ora.env c=.seq true wd []) (p:t=10+wd) (hi:P.info? T=some inf) (D:inf.size=wd):∃ ρ',VR ρ' v (.slice none 0 0)/\St P base ρ ρ' m m' w w:=by
 have a:∀ ρ':Ren,BR P ρ' (.sq c t T g false) A6L w:=fun ρ'=>⟨⟨wd,inf,p,hi,D,.inl ⟨rfl,d⟩⟩⟩
 cases old with
 | none =>
   obtain⟨rfl,u,r⟩:=St.new0 (l':=A6L) h A B (a _) rfl fun q f=>by
    rcases f with⟨_,f,_⟩|⟨f,_⟩<;>cases f
   exact⟨_,.own (.inl ⟨_,wd,u,rfl,d,rfl⟩) (by rw[d];exact p.symm) rfl,r⟩
 | some b =>
   obtain⟨ab,l,h1,E,h3,C,F⟩:=hold b rfl;obtain⟨rfl,u,r⟩:=St.move (w':=w) (l':=A6L) h h1 E h3 C A B (fun h=>by cases h) ⟨rfl,rfl,rfl⟩ rfl (fun _ _=>rfl) (a _) (fun h=>by cases h);exact⟨_,.own (.inl ⟨_,wd,u,rfl,d,rfl⟩) (by rw[d];exact p.symm) rfl,r⟩
def sJ(h:HR P base ρ m.H w)(a:jR gs m=some (g,m'))(p:J9 ρ m.n m'.hi)(d:ρ j=some l):Hp.get m'.H j=Hp.get m.H j:=by
 have main:∀ {gs:G9},(bif gs.all (oA m)then match fZ m fun b m=>some (undef,b,m)with
  | some (_,b,m)=>some (b,m)
  | none=>none else none)=some (g,m')->Hp.get m'.H j=Hp.get m.H j:=fun{gs} a=>by
  obtain⟨h1,a⟩:=A3 a;split at a
  .rename_i r b m1 q;cases a;obtain⟨m2,f,u,_⟩:=Q1 q;cases u;rw[kX f (h.dom j l d),A6];intro e;subst e;obtain⟨_,_,rfl⟩:=L3 f;rw[p m.n (A7 _) (K7 _ _).2]at d;cases d
  .cases a
 unfold jR at a;split at a
 .obtain⟨h1,a⟩:=A3 a;cases a;rfl
 .exact main a
def M6(a:jR gs m=some (g,m')):m.hi<=m'.hi/\m'.lg=m.lg/\m.n<=m'.n:=by
 have main:∀ {gs:G9},(bif gs.all (oA m)then match fZ m fun b m=>some (undef,b,m)with
  | some (_,b,m)=>some (b,m)
  | none=>none else none)=some (g,m')->m.hi<=m'.hi/\m'.lg=m.lg/\m.n<=m'.n:=fun{gs} a=>by
  obtain⟨h1,a⟩:=A3 a;split at a
  .rename_i r b m1 f;cases a;obtain⟨m2,d,p,_⟩:=Q1 f;cases p;obtain⟨_,_,rfl⟩:=L3 d;exact⟨(K7 _ _).1,rfl,Y9 _⟩
  .cases a
 unfold jR at a;split at a
 .obtain⟨h1,a⟩:=A3 a;cases a;exact⟨A7 _,rfl,A7 _⟩
 .exact main a
def B0F(nul:Bool)(wd:Nat)(rows:List (List U)):List (List U)->U
 | []=>.seq nul wd rows
 | r0::r=>.seq false wd (rows++r0::r)
def KN(h:∃ n w r,rM nul wd rows rows2=.seq n w r):rows.length+rows2.length<=uY/\rM nul wd rows rows2=B0F nul wd rows rows2:=by
 by_cases a:rows.length+rows2.length<=uY
 .refine⟨a,?_⟩;unfold rM;rw[A9 a];cases rows2<;>rfl
 .unfold rM at h;rw[A6 a]at h;obtain⟨_,_,_,h⟩:=h;cases h
def PX{old:Option Nat} 
  (hu:P.underlying t=some (.slice e)) (Y:P.underlying t2=some d2) (V:cQ d2=true) (hi:P.info? e=some inf) (hz:fD P e=some z) (ah:z.cells.size=inf.size) (bq:inf.bytes<=90000)
  (h:HR P base ρ m.H w) (hb:base<=w.heap.size) (E:IB m e inf.size c old bh (g0++gs)=some (v,m')) (hf:J9 ρ m.n m'.hi) (hS:Sat m'.lg)
  (ak:A1i P base ρ m w e inf.size c g0 old x') (d:UR P ρ w inf.size bh gs y' rows2 new'):VOk P base ρ m w (Builtin.append_ #[t,t2] ty #[x',y']) v m':=by
 unfold IB at E;split at E
 .rename_i g m1 hj;rw[N2]at E;have bo:=M6 hj;generalize bk:eZ m1 (10+inf.size) (cW inf.size (hole c (10+inf.size)) bh).1 (cW inf.size (hole c (10+inf.size)) bh).2=lg1 at E;have ad:m'.lg=lg1/\m1.hi<=m'.hi/\m1.n<=m'.n:=by
   unfold aZ at E;cases old with
   | none =>
     simp only[jP]at E;obtain⟨_,_,rfl⟩:=L3 E;exact⟨by simp,by simpa using(K7 m1.hi m1.n).1,by simp⟩
   | some b =>
     simp only[jP,g8]at E;obtain⟨_,_,rfl⟩:=L3 E;exact⟨by simp,by simpa using(K7 m1.hi m1.n).1,by simp⟩
  have ao:J9 ρ m.n m1.hi:=hf.less ad.2.1;obtain⟨O,lg,e1,e2,e3,e4,e5,e6⟩:=eL h hj ao;have p:St P base ρ O m (m1.wLg lg1) w w:=St.trans (by simpa using ao) e1 (St.wLg e1.hr lg1);have J:J9 O (m1.wLg lg1).n m'.hi:=by simpa using hf.step e1
  have bp:Sat (m1.wLg lg1).lg:=by simpa [<- ad.1]using hS
  obtain⟨nul,rows,hc,hx⟩:=ak.ex;obtain⟨d1,d2,nx,br,rws,d3,d4⟩:=jU (m:=m1) (t:=10+inf.size) (op:=(cW inf.size (hole c (10+inf.size)) bh).1) (xs:=(cW inf.size (hole c (10+inf.size)) bh).2) (lg:=lg1) (by simpa using bp) (by rw[Z8,bk];exact .refl _);rw[d.ev c nul rows hc]at d1;obtain⟨ar,ae⟩:=KN ⟨nx,br,rws,d1.symm.trans d3⟩;rw[ae]at d1;have bn:∀ b ∈ g0,∀ l,ρ b=some l->Sub l.G lg.G:=fun b R l hl=>e6 b (B7.2 (.inl R)) l hl
  have bm:∀ b ∈ gs,∀ l,ρ b=some l->Sub l.G lg.G:=fun b R l hl=>e6 b (B7.2 (.inr R)) l hl
  have aj:=d.rows lg.G bm;have D:∀ {v':Value} {ρ2:Ren} {w2:World},(Builtin.append_ #[t,t2] ty #[x',y']).run P w=.ok v' w2->VR ρ2 v v'->St P base O ρ2 (m1.wLg lg1) m' w w2->VOk P base ρ m w (Builtin.append_ #[t,t2] ty #[x',y']) v m':=fun hr hv hs =>
   ⟨_,_,_,hr,hv,St.trans hf p hs⟩
  have ag:∀ w,(zeroValue e).run P w=.ok z w:=fun w=>y4 hz w
  have au:∀ {j l},ρ j=some l->Hp.get (m1.wLg lg1).H j=Hp.get m.H j:=fun bt=>by rw[kG];exact sJ h hj ao bt
  have K:(3*(rows.length+rows2.length)+4000)*inf.bytes<=281474976710656:=by
   have h1:3*(rows.length+rows2.length)+4000<=3000004000:=by unfold uY at ar;omega
   have h2:=eU h1 bq;omega
  have Z:rows.length+rows2.length<=1000000000:=ar;rcases hx with⟨rfl,rfl,rfl,hold⟩|⟨rfl,b,ab,l,cap,C,fz,rfl,an,bl,W,bx,af,rfl,F,aw,S,T,bu⟩
  ·
   have Q:∀ b,old=some b->∃ ab l,b<=H5/\Hp.get (m1.wLg lg1).H b=some ab/\ab.rw=true/\O b=some l/\l.on=false:=fun b R=>by
    obtain⟨ab,l,I,M,q3,q4,q5⟩:=hold b R;exact⟨ab,l,I,by rw[au q4];exact M,q3,e1.ext _ _ q4,q5⟩
   cases f:rows2 with
   | nil =>
     subst f;have B:Ora.env m1.lg.nx=.seq true inf.size []:=d1;obtain⟨ρ2,I,M⟩:=BM p.hr Q E J B rfl hi rfl;have aq:new'=[]:=G1.1 (by rw[d.size];simp);exact D (tL hu Y V hi (fun wd=>d.len wd) (by have:=d.first w rfl;rw[aq]at this;exact this)) I M
   | cons r0 rr =>
     rw[f]at d1;have B:Ora.env m1.lg.nx=.seq false inf.size rows2:=by rw[f];exact d1
     obtain⟨nc,ay,q⟩:=gU (P:=P) (w:=w) (ty:=ty) (a:=none) (n:=0) (c:=0) (k:=rows2.length) (old':=[]) (new':=new') (x':=y') hu Y V hi ag (fun wd=>d.len wd) (fun _ _=>rfl) (fun wd hw=>d.first wd hw) (by rw[f];simp) (by simpa using K) (by simpa using Z);obtain⟨m2,bj,az⟩:∃ m2,aZ m2 m1.lg.nx (10+inf.size) e g=some (v,m')/\St P base O O (m1.wLg lg1) m2 w w:=by
      cases old with
      | none=>exact⟨_,E,St.refl p.hr⟩
      | some b =>
        obtain⟨ab,l,I,M,q3,q4,q5⟩:=Q b rfl;exact⟨_,E,St.kill p.hr I M q3⟩
     obtain⟨ρ2,I,M⟩:=cE (w':={ w.drew with heap:=w.heap.push (.cells (({ toList:=[] }:Array Value)++⟨new'⟩++Builtin.zeroCells z.cells (nc-(0+rows2.length))) e (0,0)) }) (cap:=nc) az.hr hb bj (J.step az) B rfl hi rfl A2
      (by have:=dO (s:=inf.size) (k:=rows2.length) (n:=0) (nc:=nc) (z:=z) (old':=[]) d.size ay ah (by simp);exact this)
      (aj.move (C':=({ toList:=[] }:Array Value)++⟨new'⟩++Builtin.zeroCells z.cells (nc-(0+rows2.length))) (o':=0) fun i hi'=>by
        have bw:i<new'.length:=by rw[d.size];exact hi'
        rw[F1 i];rw[JO (A5 bw)];simp[bw]) (az.ext _ _ e4) (fun i _ hh=>by have h1:0<=i:=hh.1;have h2:i<0:=hh.2;omega) ⟨rfl,rfl,rfl⟩ rfl
     exact D q (by rw[F1];exact I) (St.trans J az M)
  ·
   have al:Hp.get (m1.wLg lg1).H b=some ab:=by rw[au bx];exact bl
   have A:=bu lg.G bn;have ax:=e1.ext _ _ bx;cases f:rows2 with
   | nil =>
     subst f;have B:Ora.env m1.lg.nx=.seq false inf.size rows:=d1;have aq:new'=[]:=G1.1 (by rw[d.size];simp);obtain⟨ρ2,I,M⟩:=nW (w':=w) (cap:=cap) (sh:=l.sh) p.hr an al W ax af E J B rfl hi rfl aw S A e4 T ⟨rfl,rfl,rfl⟩ rfl (fun _ _=>rfl) F;have q:=mJ (P:=P) (w:=w) (w':=w) (ty:=ty) (a:=⟨l.blk,l.sh,none⟩) (n:=rows.length) (k:=0) (c:=cap) (new':=new') hu Y V hi (fun wd=>d.len wd) (d.first w rfl) A2 (by rw[aq];rfl);exact D q I M
   | cons r0 rr =>
     have B:Ora.env m1.lg.nx=.seq false inf.size (rows++rows2):=by rw[f]at d1 ⊢;exact d1
     by_cases L:rows.length+rows2.length<=cap
     .have av:(rows.length+rows2.length)*inf.size<=cap*inf.size:=F4 _ L;rw[H4]at av;obtain⟨w',r1,r2,r3,r4,r5⟩:=Y4 (P:=P) (b:=l.blk) (o:=rows.length*inf.size+l.sh) (fz:=fz) new' 0 C w F d.flat (by rw[d.size];omega) T;have ai:(Addr.mk l.blk l.sh none).add (rows.length*inf.size)=⟨l.blk,rows.length*inf.size+l.sh,none⟩:=by
       unfold Addr.add;split
       .rename_i h0;rw[h0];simp
       .simp[jK]
      have q:=mJ (P:=P) (w:=w) (w':=w') (ty:=ty) (a:=⟨l.blk,l.sh,none⟩) (n:=rows.length) (k:=rows2.length) (c:=cap) (new':=new') hu Y V hi (fun wd=>d.len wd) (d.first w rfl) L (by rw[ai];exact r1);have X:(Array.mk (cC C.toList (rows.length*inf.size+l.sh+0) new')).size=C.size:=by simp[Y5]
      have bz:∀ j,(Array.mk (cC C.toList (rows.length*inf.size+l.sh+0) new'))[j]? = if rows.length*inf.size+l.sh<=j/\j<rows.length*inf.size+l.sh+new'.length then new'[j-(rows.length*inf.size+l.sh)]? else C[j]? := fun j=>by
       rw[I3,kU _ _ _ _ (by simp;rw[d.size];omega)];simp
      obtain⟨ρ2,I,M⟩:=nW (w':=w') (cap:=cap) (sh:=l.sh) (C:=⟨cC C.toList (rows.length*inf.size+l.sh+0) new'⟩) p.hr an al W ax af E J B rfl hi rfl (by simpa using L) (by rw[X];exact S)
       (O1.append (A.move (o':=l.sh) fun i hi'=>by rw[bz,A6 A2]) (aj.move (o':=l.sh+rows.length*inf.size) fun i hi'=>by
         rw[bz,A9 (by rw[d.size];omega),show l.sh+rows.length*inf.size+i-(rows.length*inf.size+l.sh)=i by omega,F1];simp)) e4 (by rw[X];exact T) r2 r3 r5 r4
      rw[D0]at I;exact D q I M
     .have hold:∃ old',old'.length=rows.length*inf.size/\(∀ i,i<rows.length*inf.size->old'[i]? = C[l.sh+i]?)/\∀ wd:World,wd.heap=w.heap->(Builtin.firstCells inf.size rows.length (.slice (some ⟨l.blk,l.sh,none⟩) rows.length cap)).run P wd=.ok ⟨old'⟩ wd:=by
       have av:rows.length*inf.size<=cap*inf.size:=F4 _ aw;have hlen:((C.toList.drop l.sh).take (rows.length*inf.size)).length=rows.length*inf.size:=by simp;omega
       refine⟨(C.toList.drop l.sh).take (rows.length*inf.size),hlen,fun i hi'=>?_,fun wd hw=>?_⟩
       .rw[F2 hi',H7];simp
       .rw[show Builtin.firstCells inf.size rows.length (.slice (some ⟨l.blk,l.sh,none⟩) rows.length cap)=loadCells ⟨l.blk,l.sh,none⟩ (rows.length*inf.size)from rfl];refine K0 hlen fun j v' hj=>?_
        have aa:=(B0.1 hj).1;rw[hlen]at aa;rw[F2 aa,H7]at hj;rw[bM hw];have bs:C[l.sh+j]? = some v':=by simpa using hj
        simp[World.cell?,F,bs]
      obtain⟨old',o1,o2,o3⟩:=hold;obtain⟨nc,ay,q⟩:=gU (P:=P) (w:=w) (ty:=ty) (a:=some ⟨l.blk,l.sh,none⟩) (n:=rows.length) (c:=cap) (k:=rows2.length) (old':=old') (new':=new') (x':=y') hu Y V hi ag (fun wd=>d.len wd) o3 (fun wd hw=>d.first wd hw) L K Z;have r:=St.kill p.hr an al W;obtain⟨ρ2,I,M⟩:=cE (w':={ w.drew with heap:=w.heap.push (.cells (({ toList:=old' }:Array Value)++⟨new'⟩++Builtin.zeroCells z.cells (nc-(rows.length+rows2.length))) e (0,0)) }) (cap:=nc) r.hr hb E (J.step r) B rfl hi rfl (by simpa using ay)
       (dO d.size ay ah o1)
       (O1.append (A.move (C':=({ toList:=old' }:Array Value)++⟨new'⟩++Builtin.zeroCells z.cells (nc-(rows.length+rows2.length))) (o':=0) fun i hi'=>by
         have N:i<old'.length:=by rw[o1];exact hi'
         rw[F1 i,<- o2 i hi',dP (u:=old'[i]) (by rw[E9 N,A5 N]),A5 N]) (aj.move (o':=0+rows.length*inf.size) fun i hi'=>by
         have N:i<new'.length:=by rw[d.size];exact hi'
         rw[F1 (rows.length*inf.size),F1 i,dP (u:=new'[i]) (by rw[E0 (by rw[o1];omega),o1,W1,A5 N])];simp[N])) (r.ext _ _ e4) (fun i _ hh=>by have h1:0<=i:=hh.1;have h2:i<0:=hh.2;omega) ⟨rfl,rfl,rfl⟩ rfl
      rw[D0]at I;exact D q I (St.trans J r M)
 .cases E
end
end
section
open Go
variable [Ora]
section
variable {P:Program} {base:Nat} {ρ ρ':Ren} {m m':Mem} {w w':World}
def A2F{a:Addr} 
  (hu:P.underlying t=some (.slice e)) (au:P.underlying t2=some d2) (X:cQ d2=true) (hi:P.info? e=some inf) (hz:fD P e=some z) (Q:z.cells.size=inf.size) (Z:inf.bytes<=90000)
  (h:HR P base ρ m.H w) (hb:base<=w.heap.size) (q:IB m e inf.size c none bh (b::gs)=some (v,m')) (T:J9 ρ m.n m'.hi) (hS:Sat m'.lg)
  (hc:Ora.env c=.seq false inf.size rows) (V:ρ b=some l) (A:Enc l.G (Ora.env c) (.slice (some a) rows.length rows.length)) (d:UR P ρ w inf.size bh gs y' rows2 new') (p:rows2≠[]) :
  VOk P base ρ m w (Builtin.append_ #[t,t2] ty #[.slice (some a) rows.length rows.length,y']) v m':=by
 unfold IB at q;split at q
 .rename_i g m1 N;rw[N2]at q;have ay:=M6 N;generalize aq:eZ m1 (10+inf.size) (cW inf.size (hole c (10+inf.size)) bh).1 (cW inf.size (hole c (10+inf.size)) bh).2=lg1 at q;have q:aZ (m1.wLg lg1) m1.lg.nx (10+inf.size) e g=some (v,m'):=q;have J:m'.lg=lg1/\m1.hi<=m'.hi/\m1.n<=m'.n:=by
   unfold aZ at q;obtain⟨_,_,rfl⟩:=L3 q;exact⟨by simp,by simpa using(K7 m1.hi m1.n).1,by simp⟩
  have F:J9 ρ m.n m1.hi:=T.less J.2.1;obtain⟨M,lg,O,e2,e3,e4,e5,e6⟩:=eL h N F;have B:St P base ρ M m (m1.wLg lg1) w w:=St.trans (by simpa using F) O (St.wLg O.hr lg1);have ar:J9 M (m1.wLg lg1).n m'.hi:=by simpa using T.step O
  have az:Sat (m1.wLg lg1).lg:=by simpa [<- J.1]using hS
  obtain⟨d1,d2,nx,W,rws,d3,d4⟩:=jU (m:=m1) (t:=10+inf.size) (op:=(cW inf.size (hole c (10+inf.size)) bh).1) (xs:=(cW inf.size (hole c (10+inf.size)) bh).2) (lg:=lg1) (by simpa using az) (by rw[Z8,aq];exact .refl _);rw[d.ev c false rows hc]at d1;obtain⟨C,E⟩:=KN ⟨nx,W,rws,d1.symm.trans d3⟩;rw[E]at d1;have aw:Sub l.G lg.G:=e6 b (.head _) l V;have av:∀ b ∈ gs,∀ l,ρ b=some l->Sub l.G lg.G:=fun b S l V=>e6 b (.tail _ S) l V
  have ax:=d.rows lg.G av;have R:∀ w,(zeroValue e).run P w=.ok z w:=fun w=>y4 hz w
  have r:(3*(rows.length+rows2.length)+4000)*inf.bytes<=281474976710656:=by
   have h1:3*(rows.length+rows2.length)+4000<=3000004000:=by unfold uY at C;omega
   have h2:=eU h1 Z;omega
  have D:rows.length+rows2.length<=1000000000:=C;have ao:0<rows2.length:=cZ.2 p;have Y:Ora.env m1.lg.nx=.seq false inf.size (rows++rows2):=by
   cases rows2 with
   | nil=>exact absurd rfl p
   | cons r0 rr=>exact d1
  rw[hc]at A;obtain⟨_,old',I,o2,o3,o4⟩:=sV (w:=w) (A.mono aw) ((O.hr.atl e4 e5).1.2);have o5:∀ wd:World,wd.heap=w.heap->(Builtin.firstCells inf.size rows.length (.slice (some a) rows.length rows.length)).run P wd=.ok ⟨old'⟩ wd:=fun wd hw=>by
   rw[show Builtin.firstCells inf.size rows.length (.slice (some a) rows.length rows.length)=loadCells a (rows.length*inf.size)from rfl];exact lF I fun j v' N=>by rw[bM hw];exact o4 j v' N
  obtain⟨nc,L,K⟩:=gU (P:=P) (w:=w) (ty:=ty) (a:=some a) (n:=rows.length) (c:=rows.length) (k:=rows2.length) (old':=old') (new':=new') (x':=y') hu au X hi R (fun wd=>d.len wd) o5 (fun wd hw=>d.first wd hw) A2 r D;obtain⟨ρ2,q1,q2⟩:=cE (w':={ w.drew with heap:=w.heap.push (.cells (({ toList:=old' }:Array Value)++⟨new'⟩++Builtin.zeroCells z.cells (nc-(rows.length+rows2.length))) e (0,0)) }) (cap:=nc) B.hr hb q ar Y rfl hi rfl (by simpa using L)
   (dO d.size L Q I)
   (O1.append (o3.move (C':=({ toList:=old' }:Array Value)++⟨new'⟩++Builtin.zeroCells z.cells (nc-(rows.length+rows2.length))) (o':=0) fun i hi'=>by
     have f:i<old'.length:=by rw[I];exact hi'
     rw[F1 i,dP (u:=old'[i]) (by rw[E9 f,A5 f])];simp[f]) (ax.move (o':=0+rows.length*inf.size) fun i hi'=>by
     have f:i<new'.length:=by rw[d.size];exact hi'
     rw[F1 (rows.length*inf.size),F1 i,dP (u:=new'[i]) (by rw[E0 (by rw[I];omega),I,W1,A5 f])];simp[f])) e4 (fun i _ hh=>by have h1:0<=i:=hh.1;have h2:i<0:=hh.2;omega) ⟨rfl,rfl,rfl⟩ rfl
  rw[D0]at q1;exact⟨_,_,_,K,q1,St.trans T B q2⟩
 .cases q
def UO(d:zI P td)(a:A1M td P m e wd y=some (bh,gs,sure,m')):m.hi<=m'.hi/\m.lg.le m'.lg/\m.n<=m'.n:=by
 unfold A1M at a;split at a
 .cases a;exact⟨A7 _,.refl _,A7 _⟩
 .split at a
  .split at a
   .rename_i f;cases a;exact R6 d f
   .cases a
  .cases a
 .split at a
  .rename_i f;cases a;exact d.mono f
  .cases a
 .obtain⟨h1,a⟩:=A3 a;cases a;exact⟨A7 _,.refl _,A7 _⟩
def jC(d:zI P td){old:Option Nat}(a:CX td P m e wd x=some (c,gs,old,m')):m.hi<=m'.hi/\m.lg.le m'.lg/\m.n<=m'.n:=by
 unfold CX at a;split at a
 .rw[N2]at a;simp only[hole]at a;cases a;exact⟨by simp,V5,by simp⟩
 .split at a
  .obtain⟨h1,a⟩:=A3 a;cases a;exact⟨A7 _,.refl _,A7 _⟩
  .cases a
 .split at a
  .obtain⟨h1,a⟩:=A3 a;split at a
   .rename_i f;split at a
    .obtain⟨h1,a⟩:=A3 a;rw[N2]at a;simp only[hole]at a;cases a
     have:=R6 d f;exact⟨by simpa using this.1,this.2.1.trans V5,by simpa using this.2.2⟩
    .cases a
   .cases a
  .cases a
 .cases a
def n8{t:Nat}{T:TypeId}(h:aZ m c t T g=some (v,m')):m.hi<=m'.hi/\m'.lg=m.lg/\m.n<=m'.n:=by
 unfold aZ at h;obtain⟨_,_,rfl⟩:=L3 h;exact⟨(K7 _ _).1,rfl,Y9 _⟩
def bJ(old:Option Nat)(m:Mem):(jP old m).hi=m.hi/\(jP old m).lg=m.lg/\(jP old m).n=m.n:=by
 cases old with
 | none=>exact⟨rfl,rfl,rfl⟩
 | some b=>simp[jP,g8]
def mL{old:Option Nat}(d:IB m e wd c old bh gs=some (v,m')):m.hi<=m'.hi/\m.lg.le m'.lg/\m.n<=m'.n:=by
 unfold IB at d;split at d
 .rename_i g m1 f;rw[N2]at d;have a:=M6 f;have b:=n8 d;obtain⟨q,r,p⟩:=bJ old (m1.wLg (eZ m1 (10+wd) (cW wd (hole c (10+wd)) bh).1 (cW wd (hole c (10+wd)) bh).2));refine⟨?_,?_,?_⟩
  .have:=b.1;rw[q]at this;simp at this;omega
  .rw[b.2.1,r,<- a.2.1];exact V5
  .have:=b.2.2;rw[p]at this;simp at this;omega
 .cases d
def MW{t:Nat}{T:TypeId}{old:Option Nat}(h:HR P base ρ m.H w)(hold:∀ b,old=some b->b<=H5/\Hp.get m.H b≠some .frz)(f:aZ (jP old m) c t T g=some (v,m'))(q:J9 ρ m.n m'.hi):j7 ρ m m':=fun j l h1 a=>by
 have p:=bJ old m;unfold aZ at f;rw[kX f (h.dom j l h1),A6]
 .cases old with
  | none=>exact a
  | some b =>
    show Hp.get (jQ m b).H j=_;rw[g8];show Hp.get (m.H.set b none) j=_;obtain⟨r,d⟩:=hold b rfl;rw[E8 _ _ _ _ r (h.dom j l h1),A6]
    .exact a
    .intro e;subst e;exact d a
 .intro e;obtain⟨_,_,rfl⟩:=L3 f;rw[p.2.2]at e;subst e;rw[q m.n (A7 _) (Nat.lt_of_le_of_lt (Nat.le_of_eq p.2.2.symm) (K7 (jP old m).hi (jP old m).n).2)]at h1;cases h1
omit [Ora] in
def MG(h:P.info? e=some inf):G5 P e=some inf.size:=by unfold G5;rw[h]
def BJ(f:zI P td)(d:TQ td P m e wd x=some (v,m')):m.hi<=m'.hi/\m.lg.le m'.lg/\m.n<=m'.n:=by
 unfold TQ at d;split at d
 .obtain⟨_,d⟩:=A3 d;split at d
  .rename_i q;have a:=jC f q;split at d
   .rename_i p;have b:=M6 p;have c:=n8 d;refine⟨?_,?_,?_⟩
    .have:=c.1;rw[(bJ _ _).1]at this;omega
    .rw[c.2.1,(bJ _ _).2.1,b.2.1];exact a.2.1
    .have:=c.2.2;rw[(bJ _ _).2.2]at this;omega
   .cases d
  .cases d
 .cases d
def QA(O:zI P td)(h:HR P base ρ m.H w)(d:TQ td P m e wd x=some (v,m'))(Z:J9 ρ m.n m'.hi)(hx:VR ρ x x')(hS:Sat m'.lg) :
  ∃ ρ',VR ρ' v x'/\St P base ρ ρ' m m' w w/\m.lg.le m'.lg/\j7 ρ m m':=by
 unfold TQ at d;split at d
 .rename_i inf hi;obtain⟨h1,d⟩:=A3 d;obtain⟨h1,h2⟩:=B4 h1;have h1:=A0 h1;have h2:0<wd:=A1 h2;split at d
  .rename_i c gs old m1 N;have a:=jC O N;split at d
   .rename_i g m2 hj;have b:=M6 hj;have cm:=n8 d;have k1:=bJ old m2;have V:m'.lg=m1.lg:=by rw[cm.2.1,k1.2.1,b.2.1]
    have J:m2.hi<=m'.hi:=by have:=cm.1;rw[k1.1]at this;exact this
    obtain⟨Y,K,e2,e3,e4⟩:=LA O h N (Z.less (B8 b.1 J)) hx (by rw[<- V];exact hS) h2 (h1▸MG hi);have q:J9 Y m1.n m'.hi:=Z.step K;obtain⟨ρ2,lg,u,j2,j3,j4,j5,j6⟩:=eL K.hr hj (q.less J);have L:J9 ρ2 m2.n m'.hi:=q.step u;obtain⟨nul,rows,hc,aw⟩:=e4.ex;have B:∀ {j l},Y j=some l->Hp.get m2.H j=Hp.get m1.H j:=fun ay=>sJ K.hr hj (q.less J) ay
    have hle:m.lg.le m'.lg:=by rw[V];exact a.2.1
    have r:(∀ b,old=some b->b<=H5/\Hp.get m2.H b≠some .frz)->j7 ρ m m':=fun hq=>(e3.trans K.ext j3).trans (fun b l N=>u.ext b l (K.ext b l N)) (MW u.hr hq d L)
    rcases aw with⟨rfl,rfl,rfl,hold⟩|⟨rfl,b0,ab,l,cap,C,fz,rfl,R,ax,A,W,az,rfl,D,T,E,Q,X⟩
    .have f:∀ b,old=some b->∃ ab l,b<=H5/\Hp.get m2.H b=some ab/\ab.rw=true/\ρ2 b=some l/\l.on=false:=fun b p=>by
      obtain⟨ab,l,F,I,q3,q4,q5⟩:=hold b p;exact⟨ab,l,F,by rw[B q4];exact I,q3,u.ext _ _ q4,q5⟩
     obtain⟨M,F,I⟩:=BM u.hr f d L hc rfl hi h1;exact⟨M,F,St.trans Z K (St.trans q u I),hle,r fun b p=>by
      obtain⟨ab,l,F,I,q3,_⟩:=f b p;exact⟨F,fun he=>by rw[I]at he;cases he;cases q3⟩⟩
    .have S:Hp.get m2.H b0=some ab:=by rw[B W];exact ax
     obtain⟨M,F,I⟩:=nW (w':=w) (cap:=cap) (sh:=l.sh) u.hr R S A (u.ext _ _ W) az d L hc rfl hi h1 T E (X lg.G fun b N l hl=>j6 b N l hl) j4 Q ⟨rfl,rfl,rfl⟩ rfl (fun _ _=>rfl) D;exact⟨M,F,St.trans Z K (St.trans q u I),hle,r fun b p=>by
      cases p;exact⟨R,fun he=>by rw[S]at he;cases he;cases A⟩⟩
   .cases d
  .cases d
 .cases d
def OS:∀ (d:Nat),zI P (VD P d)
 | 0=>VE
 | d+1=>by
   have u:=OS d;refine⟨fun{base ρ m m' w t v v' x b} h f p hv r=>?_,fun{m m' t v x b} f=>?_⟩
   .unfold VD at f;split at f
    .split at f
     .split at f
      .rename_i A m1 q;have a:=gM f;obtain⟨E,D,n,C,B⟩:=QA u h q (p.less a.1) hv (r.le a.2.1);obtain⟨ρ2,l,d1,d2,d3,d4,d5,d6⟩:=DJ n.hr f (p.step n) D r;exact⟨ρ2,l,St.trans p n d1,d2,d3,d4,d5,C.trans d6,B.trans n.ext (GQ n.hr f (p.step n))⟩
      .cases f
     .cases f
    .exact VE.ok h f p hv r
   .unfold VD at f;split at f
    .split at f
     .split at f
      .rename_i A m1 q;have a:=BJ u q;have b:=gM f;exact⟨B8 a.1 b.1,a.2.1.trans b.2.1,B8 a.2.2 b.2.2⟩
      .cases f
     .cases f
    .exact gM f
def U9:zI P (tdP P):=OS 3
def FW(d:rR P m t t2 x y=some (v,m')):m.hi<=m'.hi/\m.lg.le m'.lg/\m.n<=m'.n:=by
 unfold rR at d;split at d
 .rename_i e d2 hu r;cases p:cQ d2 with
  | false=>rw[p]at d;cases d
  | true =>
    rw[p]at d;simp only[P7,D7]at d;split at d
    .obtain⟨_,d⟩:=A3 d;split at d
     .rename_i f;have a:=UO U9 f;split at d
      .rename_i q;have b:=jC U9 q;have c:=mL d;exact⟨A2,a.2.1.trans (b.2.1.trans c.2.1),A2⟩
      .split at d
       .obtain⟨_,d⟩:=A3 d;have c:=mL d;exact⟨A2,a.2.1.trans c.2.1,A2⟩
       .cases d
     .cases d
    .cases d
 .cases d
def UR.step(h:UR P ρ w wd bh gs y' rows2 new')(f:∀ b ∈ gs,∃ l,ρ b=some l)(he:∀ b l,ρ b=some l->ρ' b=some l):UR P ρ' w wd bh gs y' rows2 new' :=
 ⟨h.len,h.first,h.size,h.flat,fun R hR=>h.rows R fun b d l a=>hR b d l (he b l a),h.ev⟩
def UT{n:Nat}(h:UU P e n=true):∃ z,fD P e=some z/\z.cells.size=n:=by
 unfold UU at h;split at h
 .rename_i z a;exact⟨z,a,A0 h⟩
 .cases h
def OI(h:HR P base ρ m.H w)(R:base<=w.heap.size)(q:rR P m t t2 x y=some (v,m'))(B:J9 ρ m.n m'.hi)(hx:VR ρ x x')(hy:VR ρ y y')(M:Sat m'.lg) :
  VOk P base ρ m w (Builtin.append_ #[t,t2] ty #[x',y']) v m':=by
 unfold rR at q;split at q
 .rename_i e d2 hu L;cases p:cQ d2 with
  | false=>rw[p]at q;cases q
  | true =>
    rw[p]at q;simp only[P7,D7]at q;split at q
    .rename_i inf hi;obtain⟨hq,d⟩:=A3 q;clear q;obtain⟨az,Z⟩:=B4 hq;obtain⟨ax,aw⟩:=B4 az;have G:=A1 ax;have K:0<inf.size:=A1 aw;obtain⟨z,hz,D⟩:=UT Z;have J:G5 P e=some inf.size:=by unfold G5;rw[hi]
     split at d
     .rename_i bh gs sure m1 C;split at d
      .rename_i c g0 old m2 T;have mb:=jC U9 T;have mp:=mL d;have E:J9 ρ m.n m1.hi:=B.less A2;obtain⟨A,rows2,new',f,a2,a3,a4,a5,a6⟩:=SI U9 h C E hy (M.le (mb.2.1.trans mp.2.1)) K J;have r:J9 A m1.n m'.hi:=B.step f;obtain⟨ρ2,X,b2,b3,b4⟩:=LA U9 f.hr T (r.less mp.1) (hx.mono f.ext) (M.le mp.2.1) K J;obtain⟨v',u,w3,O,N,S⟩:=PX (ty:=ty) hu L p hi hz D G X.hr R d (r.step X) M b4 (a5.step (fun b Y=>(a4 b Y).2) X.ext);exact⟨v',u,w3,O,N,St.trans B (St.trans (B.less mp.1) f X) S⟩
      .split at d
       .rename_i b c tg au;obtain⟨V,I⟩:=A3 d;clear d;have V:=A0 V;have mp:=mL I;have E:J9 ρ m.n m1.hi:=B.less A2;obtain⟨A,rows2,new',f,a2,a3,a4,a5,a6⟩:=SI U9 h C E hy (M.le mp.2.1) K J;have r:J9 A m1.n m'.hi:=B.step f;obtain⟨l,d1,d2,d3,d4,d5⟩:=fM hx;obtain⟨nul,ay,rows,W,q2⟩:=fQ d2 d3 d4;have av:ay=inf.size:=A2;subst av;rw[W]at d2;rcases t7 d2 with⟨rfl,rfl,rfl⟩|⟨rfl,a,cap,rfl,hc⟩
        .have F:A1i P base A m1 w e inf.size c [b] none (.slice none 0 0):=⟨true,[],W,.inl ⟨rfl,rfl,rfl,fun b R=>by cases R⟩⟩;obtain⟨v',u,w3,O,N,S⟩:=PX (ty:=ty) (g0:=[b]) (gs:=gs) hu L p hi hz D G f.hr R I r M F a5;exact⟨v',u,w3,O,N,St.trans B f S⟩
        .have Q:cap=rows.length:=d5;subst Q;obtain⟨v',u,w3,O,N,S⟩:=A2F (ty:=ty) hu L p hi hz D G f.hr R I r M W (f.ext _ _ d1) (by rw[W];exact d2) a5 (a6 rfl);exact⟨v',u,w3,O,N,St.trans B f S⟩
       .cases d
     .cases d
    .cases q
 .cases q
end
end
section
open Go
variable [Ora]
section
variable {P:Program} {base:Nat} {ρ ρ':Ren} {m m':Mem} {w w':World}
def HV(h:o+us.length<=row.length):(wZ row o us).length=row.length:=by
 unfold wZ;simp;omega
def XJ(h:o+us.length<=row.length):(wZ row o us)[j]? = if o<=j/\j<o+us.length then us[j-o]? else row[j]? := by
 unfold wZ;have a:(row.take o).length=o:=by simp;omega
 by_cases h1:j<o
 .rw[A6 A2,M4,E9 A2,F2 h1]
 .by_cases d:j<o+us.length
  .rw[A9 ⟨A2,d⟩,M4,E0 A2,a,E9 A2]
  .rw[A6 A2,E0 (by simp;omega),H7];congr 1
   simp;omega
def O1.set{R:Nat->Option Obj}{s:Nat}{C C':V9}(h:O1 R rows wd C s)(E:k<rows.length)(I:o+us.length<=wd)(he:Y2 R us vs)
  (hC:∀ j,C'[j]? = if s+k*wd+o<=j/\j<s+k*wd+o+vs.length then vs[j-(s+k*wd+o)]? else C[j]?):O1 R (rows.set k (wZ (rows.getD k []) o us)) wd C' s:=by
 have d:rows[k]? = some rows[k]:=A5 E;have A:rows.getD k []=rows[k]:=by rw[B1,d];rfl
 have p:rows[k].length=wd:=h.1 _ (N1 E);rw[A];refine⟨fun row hr=>?_,fun r row j u v a a2 a3=>?_⟩
 .rcases fA hr with h1|rfl
  .exact h.1 row h1
  .rw[HV A2];exact p
 .rw[hC]at a3;by_cases f:k=r
  .subst f;rw[R3 E]at a;have a:=A8 a;subst a;have B:=(B0.1 a2).1;rw[HV A2,p]at B;rw[XJ A2]at a2;by_cases n:o<=j/\j<o+us.length
   .rw[A9 n]at a2;rw[A9 (by rw[<- he.1];omega)]at a3;exact he.2 (j-o) u v a2 (by rw[<- a3];congr 1;omega)
   .rw[A6 n]at a2;rw[A6 (by rw[<- he.1];omega)]at a3;exact h.2 k _ j u v d a2 a3
  .rw[cN f]at a;have B:=(B0.1 a2).1;rw[h.1 _ (C7 a)]at B;have F:=(B0.1 a).1;have G:=he.1;rw[A6]at a3
   .exact h.2 r row j u v a a2 a3
   .rcases F6 r k with q|H
    .have D:(r+1)*wd<=k*wd:=F4 wd q;rw[H4]at D;omega
    .have D:(k+1)*wd<=r*wd:=F4 wd A2;rw[H4]at D;omega
def SV(h:HR P base ρ m.H w)(f:wG P m t x y=some (v,m'))(N:J9 ρ m.n m'.hi)(hx:VR ρ x x')(hy:VR ρ y y')(hS:Sat m'.lg):UOk P base ρ m w (Instr.storeAt t x' y') m'/\v=undef/\m.lg.le m'.lg:=by
 unfold wG at f;split at f
 .rename_i b i tg z o ts ak;cases A:iV y with
  | true=>rw[A]at f;cases f
  | false =>
  rw[A]at f;simp only[D7]at f;split at f
  .rename_i xs gs m1 hd;split at f
   .rename_i c tc T g hg;obtain⟨ax,p⟩:=A3 f;clear f;have ax:=A0 ax;split at p
    .rename_i g2 m2 hj;rw[N2]at p;simp only[hole]at p;obtain⟨hs,rfl⟩:=mQ p;obtain⟨ah,L⟩:=U4 hs;have md:=R6 U9 hd;have mj:=M6 hj;have ag:m2.hi=m'.hi:=by rw[L];simp
     have ay:m'.lg=eZ m2 tg (.set (tg-10) o) (hole c tg::z::xs):=by rw[L];simp[hole]
     have Q:m2.lg.le m'.lg:=by rw[ay];exact⟨[_],rfl⟩
     have ar:J9 ρ m.n m1.hi:=N.less A2;have W:m1.lg.le m'.lg:=by rw[<- mj.2.1];exact Q
     obtain⟨aw,J,e2,e3,e4,e5,e6⟩:=iG U9 h hd ar (hy.cells A) (hS.le W);have Z:J9 aw m1.n m2.hi:=(N.step J).less A2;obtain⟨ρ2,lg,d1,d2,d3,d4,d5,d6⟩:=eL J.hr hj Z;obtain⟨⟨l,wd,jN,k,a1,a2,a3,a4,a5,a6,rfl⟩,a8⟩:=vL hx;have E:=J.ext _ _ a1;obtain⟨a,inf,q1,q2,q3,K⟩:=SqR.ex (J.hr.atl E hg).1;rcases K with⟨K,_⟩|⟨_,K⟩
     .rw[a2]at K;cases K
     obtain⟨C,fz,T',rows,az,f1,f2,f3,f4,f5,f6,f7,f8,f9⟩:=K;have aj:a=wd:=by
      have:tg=10+wd:=by rw[<- a8,a3];rfl
      omega
     subst aj;obtain⟨rfl,f10⟩:=f9 rfl;have ai:tg=10+a:=A2;have al:Sat (m2.wLg (eZ m2 tg (.set (tg-10) o) (hole c tg::z::xs))).lg:=by rw[Z8,<- ay];exact hS
     obtain⟨r1,r2,nul,ae,rws,r3,r4⟩:=jU al (.refl _);obtain⟨kk,hz⟩:=FV a4;have F:(hole c tg::z::xs).map (D6 Ora.env)=.seq false a rows::.int kk (.ofNat k)::xs.map (D6 Ora.env):=by
      show Ora.env c::D6 Ora.env z::xs.map (D6 Ora.env)=_;rw[f2,hz]
     rw[F,show tg-10=a by omega]at r1;have r1:Ora.env m2.lg.nx=if a=a/\k<rows.length/\o+(xs.map (D6 Ora.env)).length<=a then .seq false a (rows.set k (wZ (rows.getD k []) o (xs.map (D6 Ora.env))))else .none:=r1
     by_cases hc:a=a/\k<rows.length/\o+(xs.map (D6 Ora.env)).length<=a
     .rw[A9 hc]at r1;obtain⟨_,M,V⟩:=hc;have hR:∀ b' ∈ gs,∀ l',aw b'=some l'->Sub l'.G lg.G:=fun b' av l' au=>d6 b' (.tail _ av) l' au
      have d:=e6 lg.G hR;have D:Sub az.G lg.G:=d6 g (.head _) az f7;have B:y'.cells.toList.length=(xs.map (D6 Ora.env)).length:=d.1.symm;have an:(k+1)*a<=l.cap*a:=F4 a A2;rw[H4]at an;obtain⟨w',g1,aq,g3,g4,g5⟩:=Y4 (P:=P) (b:=l.blk) (o:=l.sh+k*a+o) (fz:=fz) y'.cells.toList 0 C w f1 (CF d) (by rw[B];omega) f10;have af:C.toList.length=C.size:=Q9;have r:(Array.mk (cC C.toList (l.sh+k*a+o+0) y'.cells.toList)).size=C.size:=by simp[Y5]
      have O:∀ j,(Array.mk (cC C.toList (l.sh+k*a+o+0) y'.cells.toList))[j]? = if l.sh+k*a+o<=j/\j<l.sh+k*a+o+y'.cells.toList.length then y'.cells.toList[j-(l.sh+k*a+o)]? else C[j]? := fun j=>by
       rw[I3,kU _ _ _ _ (by rw[B];omega)];simp
      have q:O1 lg.G rows a C l.sh:=O1.mono ⟨f6,f8⟩ D;have u:St P base ρ ρ2 m (m2.wLg (eZ m2 tg (.set (tg-10) o) (hole c tg::z::xs))) w w:=St.trans (N.less (by simp;omega)) (St.trans (N.less A2) J d1) (St.wLg d1.hr _);have I:Hp.get (m2.wLg (eZ m2 tg (.set (tg-10) o) (hole c tg::z::xs))).H b=some (.sq c tc T' g false):=by rw[kG,sJ J.hr hj Z E];exact hg
      have R:=d1.ext _ _ E;have ao:BR P ρ2 (.sq m2.lg.nx tg T' g2 false) l w':=by
       refine⟨⟨a,inf,ai,q2,q3,.inr ⟨a2,_,fz,T',_,lg,g4,r1,by rw[L9];exact f3,f4,by rw[r];exact f5,(q.set M V d O).1,d4,(q.set M V d O).2,fun _=>⟨rfl,by rw[r];exact f10⟩⟩⟩⟩
      have S:=St.write u.hr hs I rfl R a2 aq g3 g5 ao (fun h=>by cases h);refine⟨⟨ρ2,w',?_,St.trans N u S⟩,rfl,md.2.1.trans W⟩;have X:=iK ak;have Y:ts.length=(xs.map (D6 Ora.env)).length:=by
       have:=D9 List.length e5;rw[E4]at this;exact this.symm
      have e:y'.cells.size=ts.length:=by rw[Y,<- B];simp
      simp[Instr.storeAt,Instr.sureAddr,storeVar,A4,K4 X,Result.andThen,e,g1]
     .rw[A6 hc]at r1;rw[r1]at r3;cases r3
    .cases p
   .cases f
  .cases f
 .cases f
def SY{lo' hi' mx':Q0}(h:HR P base ρ m.H w)(a:wI P m t x lo hi mx=some (v,m'))(K:J9 ρ m.n m'.hi)(hx:VR ρ x x')(q:OR ρ lo lo')(p:OR ρ hi hi')(f:OR ρ mx mx')(D:Sat m'.lg) :
  VOk P base ρ m w (Instr.sliceAt t x' lo' hi' mx') v m'/\m.lg.le m'.lg:=by
 unfold wI at a;split at a
 .rename_i e b i tg hu;split at a
  .rename_i s A;obtain⟨d,a⟩:=A3 a;have d:=A0 d;obtain⟨l,h1,I,h3,M⟩:=mU hx;obtain⟨⟨r,g1,g2⟩,⟨lg,rfl⟩,g4⟩:=FK (w:=w) hu A d h1 I h3 (fun h=>by cases h) a q p f D;exact⟨⟨r,ρ,w,g1,g2,St.wLg h lg⟩,g4⟩
  .cases a
 .rename_i e b i tg hu;split at a
  .rename_i s A;obtain⟨d,a⟩:=A3 a;have d:=A0 d;obtain⟨l,h1,I,h3,M,T⟩:=fM hx;obtain⟨⟨r,g1,g2⟩,⟨lg,rfl⟩,g4⟩:=FK (w:=w) hu A d h1 I h3 (fun _=>T) a q p f D;exact⟨⟨r,ρ,w,g1,g2,St.wLg h lg⟩,g4⟩
  .cases a
 .rename_i e b i tg hu;split at a
  .rename_i s A;obtain⟨d,a⟩:=A3 a;have d:=A0 d;split at a
   .rename_i c tc J m1 Q;have B:∀ {m1:Mem},KF m1 J c tg false lo hi mx=some (v,m')->J5 m1 m'/\m1.lg.le m'.lg:=fun{m1} a=>by
     have go:∀ {m1:Mem} {l h:Value} {cc:Bool},fR m1 J c tg l h cc=some (v,m')->J5 m1 m'/\m1.lg.le m'.lg:=fun h=>by
      unfold fR at h;obtain⟨_,h⟩:=A3 h;rw[N2]at h;simp only[D2,L8]at h;obtain⟨_,rfl⟩:=h;exact⟨⟨_,rfl⟩,V5⟩
     unfold KF KE at a;split at a
     .exact go a
     .exact go (A3 a).2
     .split at a
      .rename_i L
       have:=go a;exact⟨(bH L).1.trans this.1,(bH L).2.trans this.2⟩
      .cases a
     .cases a
    obtain⟨⟨lg,G⟩,hle⟩:=B a;have S:m1.hi=m'.hi:=by rw[G];simp
    obtain⟨C,l,E,R,W,V,N,O⟩:=DJ h Q (K.less A2) hx (D.le hle);have mono:∀ {o o':Q0},OR ρ o o'->OR C o o':=fun{o o'} h=>by
     cases o<;>cases o'<;>first|exact trivial|exact h.elim|exact VR.mono E.ext h
    obtain⟨⟨r,g1,g2⟩,⟨F,u⟩,g4⟩:=FK (w:=w) (cl:=false) hu A d R V N (fun h=>by cases h) a (mono q) (mono p) (mono f) D;subst u;exact⟨⟨r,C,w,g1,g2,St.trans (K.less (by simp)) E (St.wLg E.hr F)⟩,O.trans g4⟩
   .cases a
  .cases a
 .cases a
end
end
section
open Go
variable [Ora]
section
variable {P:Program} {base:Nat} {ρ ρ':Ren} {m m':Mem} {w w':World}
def AV{a':Addr}{n c':Nat}{a:List Int}(q:P.underlying s=some (.slice e))(p:P.underlying t=some .string)(he:P.underlying e=some (.int .u8))(d:(loadCells a' n).run P w=.ok (a.map (Value.int .u8)).toArray w) :
  (convert s t (.slice (some a') n c')).run P w=.ok (.string ⟨⟨a.map fun n=>UInt8.ofNat n.toNat⟩⟩) w:=by
 have:=run_bytesToString w a' n c' a d;have f:=oB a [];simp only[G3]at f;simp only[convert,A4,C8 q,C8 p,C8 he,Result.andThen];rw[this,show ByteArray.empty=ByteArray.mk ⟨[]⟩from rfl,f]
def DP{n:Nat}(a:P.underlying s=some (.slice e))(d:P.underlying t=some .string)(he:P.underlying e=some (.int .u8)):(convert s t (.slice none n c)).run P w=.ok (.string ByteArray.empty) w:=by
 simp[convert,A4,C8 a,C8 d,C8 he,Result.andThen,Conv.bytesToString]
def HJ{b:ByteArray}(E:P.underlying s=some ds)(D:P.underlying t=some (.slice e))(he:P.underlying e=some (.int .u8))(w:World) :
  ∃ (cap:Nat) (C:Array Value),b.size<=cap/\C.size=cap/\(∀ (i:Nat) (u:Value),(O8 b.data.toList)[i]? = some u->C[i]? = some u)/\(convert s t (.string b)).run P w=.ok (.slice (some ⟨w.heap.size,0,none⟩) b.size cap) { w.drew with heap:=w.heap.push (.cells C e (C.size,C.size+1)) }:=by
 let q:Question:=.appendCap b.size 0 e
 let cap:=q.cut (w.tape w.drawn q)
 have d:b.size<=cap:=by show b.size<=b.size+_;omega
 have r:(choose q).run P w=.ok cap w.drew:=by
  simp only[choose,Sem.run];rw[A6 (by simp[q,Question.forced])];rfl
 let C:V9:=(b.data.map fun b=>Value.int .u8 b.toNat)++Array.replicate (cap-b.size) (.int .u8 0)
 have hC:C.size=cap:=by
  have:b.data.size=b.size:=rfl;simp[C,this];omega
 refine⟨cap,C,d,hC,fun i u hi=>?_,?_⟩
 .have B:=(B0.1 hi).1;simp[O8]at B;have p:i<(b.data.map fun b=>Value.int .u8 b.toNat).size:=by simpa using B
  show((b.data.map fun b=>Value.int .u8 b.toNat)++Array.replicate (cap-b.size) (.int .u8 0))[i]? = some u;rw[S4 p]
  simpa [O8]using hi
 .have n:∀ w2:World,w2.heap[w.heap.size]? = some (.cells C e (0,0))->(markStringish ⟨w.heap.size,0,none⟩).run P w2=.ok () (w2.freeze { block:=w.heap.size,off:=C.size } 1):=fun w2 F=>by
   simp[markStringish,shape,freeze,Sem.run,World.shape?,F]
  have A:({ w.drew with heap:=w.heap.push (.cells C e (0,0)) }:World).freeze { block:=w.heap.size,off:=C.size } 1={ w.drew with heap:=w.heap.push (.cells C e (C.size,C.size+1)) }:=by
   unfold World.freeze;rw[A6 F5];congr 1;apply Array.ext_getElem?;intro i;rw[G4];by_cases hi:w.heap.size=i
   .subst hi;simp
   .rw[A6 hi];simp only[d7];rw[A6 (fun h=>hi h.symm),A6 (fun h=>hi h.symm)]
  have a:(convert s t (.string b)).run P w=(Conv.stringToBytes e b).run P w:=by
   cases ds<;>simp[convert,A4,C8 E,C8 D,C8 he,Result.andThen]
  rw[a];unfold Conv.stringToBytes;simp only[A4,show(choose (.appendCap b.size 0 e)).run P w=.ok cap w.drew from r,Result.andThen];have f:(newRow e C).run P w.drew=.ok ⟨w.heap.size,0,none⟩ { w.drew with heap:=w.heap.push (.cells C e (0,0)) }:=rfl;rw[show(newRow e ((b.data.map fun b=>Value.int .u8 b.toNat)++Array.replicate (cap-b.size) (.int .u8 0))).run P w.drew=_ from f];simp only[Result.andThen];rw[n _ (by simp),A];rfl
def FQ:∀ {us:List U} {s:List UInt8} {vs:C9},sZ us=some s->Y2 (fun k=>w.heap[k]?) us vs->∃ d:List Int,vs=d.map (Value.int .u8)/\s=d.map fun n=>UInt8.ofNat n.toNat
 | [],s,vs,h,he=>by
   cases h;have:vs=[]:=G1.1 he.1.symm;subst this;exact⟨[],rfl,rfl⟩
 | u::us,s,vs,h,he=>by
   unfold sZ at h;split at h
   .rename_i heq;cases heq
   .rename_i n r heq;cases heq;split at h
    .split at h
     .rename_i l A;cases h;cases vs with
      | nil=>have:=he.1;simp at this
      | cons v vr =>
        obtain⟨d,f,p⟩:=FQ (vs:=vr) A ⟨by have:=he.1;simpa using this,fun i a b h1 q=>he.2 (i+1) a b (by simpa using h1) (by simpa using q)⟩
        have:=fP (he.2 0 _ v rfl rfl) rfl;subst this;exact⟨(Int.ofNat n)::d,by rw[f];rfl,by rw[p];rfl⟩
     .cases h
    .cases h
   .cases h
def FS:∀ {rows:List (List U)} {s:List UInt8},uX rows=some s->sZ (rows.flatMap id)=some s/\(rows.flatMap id).length=rows.length/\∀ (r:Nat) (row:List U) (j:Nat) (u:U),rows[r]? = some row->row[j]? = some u->j=0/\(rows.flatMap id)[r]? = some u
 | [],s,h=>by cases h;exact⟨rfl,rfl,fun r row j u h=>by simp at h⟩
 | row::rows,s,h=>by
   unfold uX at h;split at h
   .rename_i heq;cases heq
   .rename_i n r heq;cases heq;split at h
    .rename_i f;split at h
     .rename_i l B;cases h;obtain⟨h1,A,h3⟩:=FS B;refine⟨?_,by show([U.int .u8 (Int.ofNat n)]++rows.flatMap id).length=_;rw[D0,A];simp;omega,fun q row j u a a2=>?_⟩
      .simp only[fX,id,R7,G3,sZ];rw[A9 f,h1]
      .cases q with
       | zero =>
         simp at a;subst a;cases j with
         | zero=>simp at a2;subst a2;exact⟨rfl,rfl⟩
         | succ j=>simp at a2
       | succ q =>
         obtain⟨p,d⟩:=h3 q row j u (by simpa using a) a2;exact⟨p,by simpa using d⟩
     .cases h
    .cases h
   .cases h
def pJ{t:Nat}:∀ {l:C9},e9 t l=true->∀ v ∈ l,G2 v=t
 | [],_,v,hv=>by cases hv
 | x::r,h,v,hv=>by
   obtain⟨h1,a⟩:=B4 (show(Nat.beq (G2 x) t && e9 t r)=true from h);rcases B3.1 hv with rfl|hv
   .exact A0 h1
   .exact pJ a v hv
def rF{R:Nat->Option Obj}(h:LR ρ cs cs')(f:∀ v ∈ cs,G2 v<10):Y2 R (cs.map (D6 Ora.env)) cs':=by
 refine⟨by simp[h.1],fun i u v a a2=>?_⟩;rw[F3]at a;cases d:cs[i]? with
 | none=>rw[d]at a;cases a
 | some x =>
   rw[d]at a;have a:=A8 a;subst a;exact .sc (w9 (h.2 i x v d a2) (f x (C7 d))).1
def JC(m m1:Mem):A4j m m1=⟨m.H,m.n,m.W,m1.hi,m1.lg⟩:=by cases m;cases m1;rfl
def St.kept{ρ:Ren}{m:Mem}{w:World}{hi:Nat}{lg:Lg}(h:HR P base ρ m.H w)(hh:m.hi<=hi):St P base ρ ρ m ⟨m.H,m.n,m.W,hi,lg⟩ w w :=
 ⟨fun _ _ h=>h,fun b l h1 a=>(by rw[h1]at a;cases a),A7 _,hh,fun h=>B8 h hh,h,fun _ h=>h,fun b h1 a=>absurd h1 a,fun _ _ _=>rfl,A7 _,⟨rfl,rfl,rfl⟩,fun b l h1 a=>(by rw[h1]at a;cases a),fun _ _ _ _=>rfl,fun _ h=>.inr h⟩
def A08(h:HR P base ρ m.H w)(hb:base<=w.heap.size)(d:KJ P m s t x=some (v,m'))(T:J9 ρ m.n m'.hi)(hx:VR ρ x x')(hS:Sat m'.lg):VOk P base ρ m w (convert s t x') v m'/\m.lg.le m'.lg:=by
 unfold KJ at d;split at d
 .rename_i e a n c O L;split at d
  .rename_i he;split at d
   .rename_i cs hr;obtain⟨E,d⟩:=A3 d;obtain⟨u,p,e2,r,Q,M,e5⟩:=M1 d hS;obtain⟨lg,rfl⟩:=H3 d;have q:=St.wLg h lg;have J:=pJ E;have key:∀ {a' c'} {N:C9},LR ρ cs N->(loadCells a' n).run P w=.ok ⟨N⟩ w->VOk P base ρ m w (convert s t (.slice (some a') n c')) v (m.wLg lg):=fun{a' c' N} V ay=>by
     have aw:Y2 (fun k=>w.heap[k]?) (cs.map (D6 Ora.env)) N:=rF V (fun v hv=>by rw[J v hv];omega);have K:∃ f,sZ (cs.map (D6 Ora.env))=some f/\u=.str f:=by
      have p:(match sZ (cs.map (D6 Ora.env))with|some s=>U.str s|none=>.none)=u:=p;split at p
      .rename_i f A;exact⟨f,A,p.symm⟩
      .subst p;cases Q
     obtain⟨f,I,rfl⟩:=K;cases Q;obtain⟨ns,r1,r2⟩:=FQ (w:=w) I aw;subst r1;subst r2;exact⟨_,ρ,w,AV O L he ay,M ρ,q⟩
    refine⟨?_,H6 d⟩;rcases O5 hx with⟨l,V,_,_,rfl⟩|⟨l,c',V,_,_,_,_,rfl⟩|⟨a',c',_,rfl,_,rfl⟩
    .obtain⟨N,g1,g2,g3⟩:=Z2 h hr V;exact key g1 (K0 g2 g3)
    .obtain⟨N,g1,g2,g3⟩:=Z2 h hr V;exact key g1 (K0 g2 g3)
    .have:cs=[]:=by
      unfold s8 at hr;split at hr
      .have:=(iZ hr).2;simpa using this
      .cases hr
     subst this;exact key .nil (by simp[loadCells,loadCellsFrom])
   .cases d
  .cases d
 .rename_i e fn a1 a2 O L;split at d
  .rename_i he;split at d
   .rename_i hh b m1 hd;rw[JC]at d;obtain⟨u,p,e2,r,Q,M,e5⟩:=M1 d hS;have hle:=H6 d;obtain⟨lg,rfl⟩:=H3 d;obtain⟨Z,l,d1,d2,d3,d4,d5,d6⟩:=DJ h hd (T.less (by simp[Mem.wLg])) hx (hS.le hle);have q:St P base ρ ρ m (Mem.wLg ⟨m.H,m.n,m.W,m1.hi,m1.lg⟩ lg) w w:=St.kept h d1.hle;obtain⟨nul,wd,rows,I,q2⟩:=fQ d4 d5 A2;have ax:wd=1:=A2;subst ax;rw[I]at d4;have K:∃ f,uX rows=some f/\u=.str f:=by
     have p:evU .str [D6 Ora.env hh]=u:=p;rw[I]at p;have p:(if 1=1 then(match uX rows with|some s=>U.str s|none=>.none)else .none)=u:=p;rw[A9 rfl]at p;split at p
     .rename_i f A;exact⟨f,A,p.symm⟩
     .subst p;cases Q
    obtain⟨f,A,rfl⟩:=K;cases Q;refine⟨?_,d6.trans hle⟩;have hG:=(d1.hr.atl d2 d3).1.2;rcases t7 d4 with⟨rfl,rfl,rfl⟩|⟨rfl,a,c,rfl,hc⟩
    .cases A;exact⟨_,ρ,w,DP O L he,M ρ,q⟩
    .obtain⟨_,new',g1,g2,g3,g4⟩:=sV (w:=w) d4 hG;obtain⟨k1,k2,k3⟩:=FS A;have S:Y2 (fun k=>w.heap[k]?) (rows.flatMap id) new':=by
      refine⟨by rw[k2,g1];simp,fun i u v b1 b2=>?_⟩;have D:i<rows.length:=by have:=(B0.1 b1).1;rw[k2]at this;exact this
      have au:rows[i].length=1:=g3.1 _ (N1 D);have F:rows[i]? = some rows[i]:=A5 D;have h0:rows[i][0]? = some (rows[i][0]' A2):=A5 A2;obtain⟨_,k4⟩:=k3 i _ 0 _ F h0;rw[b1]at k4;have k4:=A8 k4;rw[k4];exact(g3.2 i _ 0 _ v F h0 (by simpa using b2)).mono hG
     obtain⟨ns,r1,r2⟩:=FQ (w:=w) k1 S;subst r1;subst r2;have av:(ns.map (Value.int .u8)).length=rows.length:=by rw[g1];omega
     exact⟨_,ρ,w,AV O L he (lF av g4),M ρ,q⟩
   .cases d
  .cases d
 .rename_i y _ _ _ ds e O L;obtain⟨E,d⟩:=A3 d;have E:=A0 E;split at d
  .rename_i he;split at d
   .rename_i B;split at d
    .rename_i g m1 hj;rw[N2]at d;simp only[hole]at d;have d:aZ (m1.wLg (eZ m1 11 .byt [y])) m1.lg.nx 11 e g=some (v,m'):=d;have mj:=M6 hj;have mn:=n8 d;simp only[LL,Z8,UX]at mn;obtain⟨Z,lg,p,e2,Q,M,e5,e6⟩:=eL h hj (T.less A2);have q:St P base ρ Z m (m1.wLg (eZ m1 11 .byt [y])) w w:=St.trans (T.less (by simp;omega)) p (St.wLg p.hr _);obtain⟨f,rfl,f1⟩:=l5 hx E;obtain⟨r1,r2,_⟩:=jU (m:=m1) (t:=11) (op:=.byt) (xs:=[y]) (lg:=m'.lg) hS (by rw[Z8,mn.2.1];exact .refl _);have r1:Ora.env m1.lg.nx=evU .byt [D6 Ora.env y]:=r1;rw[f1]at r1;have r1:Ora.env m1.lg.nx=.seq false 1 (jM f):=r1;obtain⟨cap,C,c1,c2,c3,c4⟩:=HJ (P:=P) (b:=⟨⟨f⟩⟩) O L he w;obtain⟨inf,X,Y⟩:∃ inf,P.info? e=some inf/\inf.size=1:=by
      unfold G5 at B;cases hi:P.info? e with
      | none=>rw[hi]at B;cases B
      | some inf=>rw[hi]at B;exact⟨inf,rfl,A8 B⟩
     have az:ByteArray.size ⟨⟨f⟩⟩=f.length:=rfl;rw[az]at c1 c4;obtain⟨ρ2,I,q2⟩:=cE (w':={ w.drew with heap:=w.heap.push (.cells C e (C.size,C.size+1)) }) (cap:=cap) (C:=C) q.hr hb d (by simpa using(T.less (A7 _)).step p) r1 rfl X Y (by rw[gV];exact c1) A2
      ((HL (R:=lg.G) f).move (o':=0) fun i hi=>by
        rw[gV]at hi;have D:i<(O8 f).length:=by simp[O8];omega
        rw[F1,c3 i (O8 f)[i] (A5 D)];simp[D]) M (fun i hi hh=>by have:=hh.1;simp only at this;omega) ⟨rfl,rfl,rfl⟩ rfl
     rw[gV]at I;exact⟨⟨_,ρ2,_,c4,I,St.trans T q q2⟩,by rw[mn.2.1,<- mj.2.1];exact⟨[_],rfl⟩⟩
    .cases d
   .cases d
  .cases d
 .cases d
def TE(hu:P.underlying t=some (.slice e))(hi:P.info? e=some inf)(p:inf.bytes<=90000)(h0:0<inf.size)(u:∀ w,(zeroValue e).run P w=.ok z w)(f:k<=uY)(w:World) :
  (Instr.makeSlice t (.int .i64 (Int.ofNat k)) (.int .i64 (Int.ofNat k))).run P w=.ok (.slice (some ⟨w.heap.size,0,none⟩) k k) { w with heap:=w.heap.push (.cells ((Array.range (k*inf.size)).map (z.cells[· % z.cells.size]!)) e (0,0)) }:=by
 have f:k<=1000000000:=f;have h:G5 P e=some inf.size:=by simp[G5,hi]
 have wl:IntKind.i64.wrap (Int.ofNat k)=Int.ofNat k:=oT .i64 k (by simp only[LS];omega);have hm:k*inf.bytes<=1000000000*90000:=eU f p;have a:(askRoom (k*inf.bytes)).run P w=.ok () w:=by
  unfold askRoom roomBytes;rw[A6 A2];rfl
 have q:((inf.bytes:Int)*(k:Int))=((k*inf.bytes:Nat):Int):=by rw[aR];simp
 unfold Instr.makeSlice;simp only[A4,C8 hu,asInt,asIntOf,Result.andThen,Sem.run_pure,V0 hi,wl];rw[A6]
 .have d:(Int.ofNat k).toNat=k:=by simp
  simp only[A4,Sem.run_pure,Result.andThen,d,a,K4 h];by_cases n:k*inf.size=0
  .have r:∀ z:V9,Array.map (fun x=>z[x%z.size]!) (Array.range (k*inf.size))=⟨[]⟩:=fun z=>by rw[n];apply I7;simp
   simp only[A9 n,r];rfl
  .simp only[A6 n,A4,Sem.run_pure,Result.andThen,u];rfl
 .have A:Int.ofNat k=(k:Int):=rfl;simp only[A,q];simp;omega
def US{R:Nat->Option Obj}{s:Nat}(h0:0<s)(n:z.cells.size=s)(q:LR ρ z.cells.toList z.cells.toList)(p:∀ v ∈ z.cells.toList,G2 v<10):O1 R (List.replicate k (z.cells.toList.map (D6 Ora.env))) s ((Array.range (k*s)).map (z.cells[· % z.cells.size]!)) 0:=by
 have he:=rF (R:=R) q p;refine⟨fun row hr=>?_,fun r row j u v g1 g2 g3=>?_⟩
 .rw[(List.mem_replicate.1 hr).2];simp[n]
 .have hr:=(B0.1 g1).1;rw[T4]at hr;rw[List.getElem?_replicate,A9 hr]at g1;cases g1;have f:=(B0.1 g2).1;simp only[E4,Q9]at f;rw[n]at f;have hm:(r*s+j)%s=j:=by rw[aR,Nat.mul_add_mod,Z4 f]
  have d:r*s+j<k*s:=by
   have:(r+1)*s<=k*s:=F4 s hr;rw[H4,fV]at this;omega
  rw[F1,Array.getElem?_map,Array.getElem?_range,A9 d]at g3;simp only[K9,D2,n,hm]at g3;have a:j<z.cells.size:=A2;rw[getElem!_pos z.cells j a]at g3;refine he.2 j u v g2 ?_;rw[P0,F0 a,g3]
def YY{l c:Value}(h:HR P base ρ m.H w)(V:base<=w.heap.size)(a:IR P m t l c=some (v,m'))(C:J9 ρ m.n m'.hi)(T:VR ρ l l')(O:VR ρ c c')(M:Sat m'.lg):VOk P base ρ m w (Instr.makeSlice t l' c') v m'/\m.lg.le m'.lg:=by
 unfold IR at a;split at a
 .rename_i e i ti j tj hu;obtain⟨d,A⟩:=A3 a;clear a;obtain⟨d,h3⟩:=B4 d;obtain⟨h1,F⟩:=B4 d;have h1:=A0 h1;have F:=A0 F;have h3:=A0 h3;subst h1 F h3;have a:=A;clear A;split at a
  .rename_i inf hi;obtain⟨d,a⟩:=A3 a;obtain⟨p,f⟩:=B4 d;have p:=A1 p;have f:0<inf.size:=A1 f;split at a
   .rename_i z L;obtain⟨d,a⟩:=A3 a;obtain⟨r,u⟩:=B4 d;have r:=A0 r;have u:∀ v ∈ z.cells.toList,G2 v<10:=fun v hv=>A1 (D3.1 u v hv)
    split at a
    .rename_i g m1 K;rw[N2]at a;simp only[hole]at a;have a:aZ (m1.wLg (eZ m1 (10+inf.size) (.rep inf.size) (hole i 3::z.cells.toList))) m1.lg.nx (10+inf.size) e g=some (v,m'):=a;have Q:=M6 K;have E:=n8 a;simp only[LL,Z8,UX]at E;obtain⟨G,lg,D,e2,Z,R,X,e6⟩:=eL h K (C.less A2);have B:St P base ρ G m (m1.wLg (eZ m1 (10+inf.size) (.rep inf.size) (hole i 3::z.cells.toList))) w w:=St.trans (C.less (by simp;omega)) D (St.wLg D.hr _);obtain⟨k,n,rfl,f1,f2⟩:=M2 (v:=hole i 3) T (show(3:Nat)<8 by decide);obtain⟨Y,W,rfl,f3,f4⟩:=M2 (v:=hole i 3) O (show(3:Nat)<8 by decide);rw[f1]at f3;cases f3;obtain⟨r1,r2,nul,wd,rows,I,r4⟩:=jU (m:=m1) (t:=10+inf.size) (op:=.rep inf.size) (xs:=hole i 3::z.cells.toList) (lg:=m'.lg) M (by rw[Z8,E.2.1];exact .refl _);have r1:Ora.env m1.lg.nx=evU (.rep inf.size) (D6 Ora.env (hole i 3)::z.cells.toList.map (D6 Ora.env)):=r1;rw[f1]at r1;have N:k=.i64:=by
      have f2:(3:Nat)=hH k:=f2;cases k<;>first|rfl|(exfalso;revert f2;decide)
     subst N;cases n with
     | negSucc q=>rw[I]at r1;cases r1
     | ofNat q =>
       have r1:Ora.env m1.lg.nx=if(z.cells.toList.map (D6 Ora.env)).length=inf.size/\q<=uY then .seq false inf.size (List.replicate q (z.cells.toList.map (D6 Ora.env)))else .none:=r1
       by_cases d:(z.cells.toList.map (D6 Ora.env)).length=inf.size/\q<=uY
       .rw[A9 d]at r1;obtain⟨ρ2,J,S⟩:=cE (w':={ w with heap:=w.heap.push (.cells ((Array.range (q*inf.size)).map (z.cells[· % z.cells.size]!)) e (0,0)) }) (cap:=q) (fz:=(0,0)) B.hr V a (by simpa using(C.less (A7 _)).step D) r1 rfl hi rfl (by simp) (by simp)
         (US (ρ:=ρ) f r (oP L) u) R (fun i hi hh=>by have:=hh.2;simp only at this;omega) ⟨rfl,rfl,rfl⟩ rfl
        rw[T4]at J;exact⟨⟨_,ρ2,_,TE hu hi p f (fun w=>y4 L w) d.2 w,J,St.trans C B S⟩,by rw[E.2.1,<- Q.2.1];exact⟨[_],rfl⟩⟩
       .rw[A6 d,I]at r1;cases r1
    .cases a
   .cases a
  .cases a
 .cases a
end
end
section
open Go
variable [Ora]
section
variable {P:Program} {base:Nat} {ρ ρ':Ren} {m m':Mem} {w w':World}
def QF{t:Nat}(h:T9 m 8 .nilp [hole i t]=some (v,m'))(hi:Ora.env i=.seq nul wd rows)(p:Sat m'.lg):VR ρ v (.bool nul)/\J5 m m'/\m.lg.le m'.lg:=by
 obtain⟨u,d,A,r,n,f,q⟩:=M1 h p;have a:[hole i t].map (D6 Ora.env)=[.seq nul wd rows]:=by
  show[Ora.env i]=_;rw[hi]
 rw[a]at d;have d:U.bool nul=u:=d;subst d;cases n;exact⟨f ρ,H3 h,H6 h⟩
def AW{x y:Operand}{a:Option Addr}{n:Nat}(hu:P.underlying t=some (.slice e))(h:(a=none/\n=0/\c=0/\nul=true)∨(nul=false/\∃ q:Addr,a=some q/\n<=c))(p:op=.eql∨op=.neq)(w:World) :
  (do eqGuard op t x y (.slice a n c) (.slice none 0 0);binOp op t (.slice a n c) (.slice none 0 0):Sem Value).run P w=.ok (.bool (if op=.eql then nul else !nul)) w:=by
 have key:∀ {ρ:Ren} {am:Value},VR ρ am (.slice a n c)->lL P t x y am (.slice none 0 0)=true->rN P .eql t am (.slice none 0 0)=some (.bool nul)->rN P .neq t am (.slice none 0 0)=some (.bool !nul) ->
   (do eqGuard op t x y (.slice a n c) (.slice none 0 0);binOp op t (.slice a n c) (.slice none 0 0):Sem Value).run P w=.ok (.bool (if op=.eql then nul else !nul)) w:=fun{ρ am} hv r h1 B=>by
  have f:VR ρ (.slice none 0 0) (.slice none 0 0):=.pure rfl;have u:=qV (op:=op) (fun _=>r) hv f w;rcases p with rfl|rfl
  .obtain⟨g1,_⟩:=vR h1 hv f w;simp[A4,u,g1,Result.andThen]
  .obtain⟨g1,_⟩:=vR B hv f w;simp[A4,u,g1,Result.andThen]
 rcases h with⟨rfl,rfl,rfl,rfl⟩|⟨rfl,q,rfl,C⟩
 .refine key (ρ:=fun _=>none) (am:=.slice none 0 0) (.pure rfl) rfl ?_ ?_
  .simp[rN,BB,eqM,hu]
  .simp[rN,BB,eqM,hu]
 .obtain⟨d,A⟩:∃ d,Op.maxDepth=d+1:=⟨Op.maxDepth-1,rfl⟩;have he:∀ w,(Op.equal t (.slice (some q) n c) (.slice none 0 0)).run P w=.ok false w:=fun w=>by
   rw[Op.equal,A];simp[Op.equalIn,A4,C8 hu,Result.andThen]
  have r:∀ o:BinOp,(eqGuard o t x y (.slice (some q) n c) (.slice none 0 0)).run P w=.ok () w:=fun o=>by
   unfold eqGuard;cases o<;>rfl
  rcases p with rfl|rfl
  .rw[A4,r];show(do pure (.bool (<- Op.equal t (.slice (some q) n c) (.slice none 0 0))):Sem Value).run P w=_;rw[A4,he];rfl
  .rw[A4,r];show(do pure (.bool (!(<- Op.equal t (.slice (some q) n c) (.slice none 0 0)))):Sem Value).run P w=_;rw[A4,he];rfl
def A2N{x y:Operand}{a a' b:Value}(F:YO P m op t x y a b=some (v,m'))(L:VR ρ a a')(S:VR ρ b b')(J:Sat m'.lg) :
  (∃ r,(do eqGuard op t x y a' b';binOp op t a' b':Sem Value).run P w=.ok r w/\VR ρ v r)/\J5 m m'/\m.lg.le m'.lg:=by
 unfold YO at F;split at F
 .rename_i e k T i tg hu;obtain⟨f,d⟩:=A3 F;clear F;obtain⟨f,A⟩:=B4 f;obtain⟨f,N⟩:=B4 f;have I:b'=.slice none 0 0:=by
   unfold A0N at f;split at f
   .exact P1 S
   .cases f
  subst I;obtain⟨nul,wd,rows,B,n,c,E,rfl,O⟩:∃ nul wd rows B n c,Ora.env i=.seq nul wd rows/\a'=.slice B n c/\((B=none/\n=0/\c=0/\nul=true)∨(nul=false/\∃ q:Addr,B=some q/\n<=c)):=by
   have C:∀ {l:Loc},Enc l.G (Ora.env i) a'->F9 (Ora.env i)=tg->10<=tg->∃ nul wd rows B n c,Ora.env i=.seq nul wd rows/\a'=.slice B n c/\((B=none/\n=0/\c=0/\nul=true)∨(nul=false/\∃ q:Addr,B=some q/\n<=c)):=fun h h3 D=>by
    obtain⟨nul,wd,rows,E,_⟩:=fQ h h3 D;rw[E]at h;rcases t7 h with⟨rfl,rfl,rfl⟩|⟨rfl,q,c,rfl,Q⟩
    .exact⟨_,_,_,_,_,_,E,rfl,.inl ⟨rfl,rfl,rfl,rfl⟩⟩
    .exact⟨_,_,_,_,_,_,E,rfl,.inr ⟨rfl,q,rfl,Q⟩⟩
   rcases(I5 _ _).mp A with A|A
   .rcases(I5 _ _).mp A with A|A
    .have:=A0 A;subst this;obtain⟨l,_,h,h3,D⟩:=mU L;exact C h h3 D
    .have:=A0 A;subst this;obtain⟨l,_,h,h3,D,_⟩:=fM L;exact C h h3 D
   .have:=A0 A;subst this;rcases(fL L).1 with⟨l,wd,h1,h,h3,rfl⟩|⟨l,wd,rows,h1,h,h3,D,M,rfl⟩
    .exact⟨_,_,_,_,_,_,h3,rfl,.inl ⟨rfl,rfl,rfl,rfl⟩⟩
    .exact⟨_,_,_,_,_,_,h3,rfl,.inr ⟨rfl,_,rfl,M⟩⟩
  split at d
  .rename_i r H;cases d;obtain⟨g1,g2,g3⟩:=QF (ρ:=ρ) H E J;exact⟨⟨_,AW hu O (.inl rfl) w,g1⟩,g2,g3⟩
  .rename_i hh m1 H;have hle:=H6 d;obtain⟨g1,g2,g3⟩:=QF (ρ:=ρ) H E (J.le hle);obtain⟨u,f1,f2,r,f3,f4,f5⟩:=M1 d J;obtain⟨rfl,R⟩:=iU H;have K:D6 Ora.env (hole m.lg.nx 8)=.bool nul:=by
    obtain⟨p,_⟩:=w9 g1 (by show(8:Nat)<10;omega);cases f:D6 Ora.env (hole m.lg.nx 8)with
    | bool b=>rw[f]at p;cases p;rfl
    | int k n=>rw[f]at p;cases p
    | str s=>rw[f]at p;cases p
    | none=>rw[f]at p;cases p
    | seq _ _ _=>rw[f]at p;cases p
   have f1:ev1 .not (D6 Ora.env (hole m.lg.nx 8))=u:=f1;rw[K]at f1;have f1:U.bool (!nul)=u:=f1;subst f1;cases f3;exact⟨⟨_,AW hu O (.inr rfl) w,f4 ρ⟩,g2.trans (H3 d),g3.trans hle⟩
  .cases d
 .cases F
def A63{fr:Fr}{g:Operand->Value}{o:Oper}(h:HR P base ρ m.H w)(I:base<=w.heap.size)(d:dsM P fr m o.op=some (v,m'))(A:J9 ρ m.n m'.hi)(J:FR ρ fr g o.op)(f:Sat m'.lg):NOk P base ρ m w (execOp g o) v m':=by
 obtain⟨dst,op,ty,pos,K,L⟩:=o;simp only at d J;have a:∀ {x},x ∈ op.operands.toList->VR ρ (ev fr x) (g x):=fun hx=>J _ hx
 have fin:∀ {s:Sem Value},(∃ r,s.run P w=.ok r w/\VR ρ v r)->J5 m m'->NOk P base ρ m w (do pure (.value (<- s))) v m':=fun{s} ⟨r,h1,Q⟩ ⟨lg,R⟩=>by
  subst R;exact NOk.of ⟨r,ρ,w,h1,Q,St.wLg h lg⟩
 unfold dsM at d;split at d
 .rename_i t x y;exact NOk.of (YY h I d A (a (x:=x) (by simp[Op.operands])) (a (x:=y) (by simp[Op.operands])) f).1
 .rename_i t x;obtain⟨g1,g2,_⟩:=ZB (w:=w) h d (a (x:=x) (by simp[Op.operands])) f;exact fin (s:=Instr.loadAt t (g x)) g1 g2
 .rename_i t x y;obtain⟨g1,rfl,_⟩:=SV h d A (a (x:=x) (by simp[Op.operands])) (a (x:=y) (by simp[Op.operands])) f;exact NOk.ofU (s:=Instr.storeAt t (g x) (g y)) g1
 .rename_i t x i;obtain⟨g1,g2,_⟩:=JG (w:=w) d (a (x:=x) (by simp[Op.operands])) (a (x:=i) (by simp[Op.operands])) f;exact fin (s:=Instr.indexAt t (g x) (g i)) g1 g2
 .rename_i s x i;obtain⟨g1,rfl⟩:=JX (w:=w) d (a (x:=x) (by simp[Op.operands]));exact fin (s:=Instr.fieldAt s (g x) i) g1 (.refl _)
 .rename_i t x lo hi mx;obtain⟨g1,_⟩:=SY h d A (a (x:=x) (by simp[Op.operands])) (iX (g:=g) fun y p=>a (by simp[Op.operands]at p ⊢;exact .inr (.inl p))) (iX (g:=g) fun y p=>a (by simp[Op.operands]at p ⊢;exact .inr (.inr (.inl p)))) (iX (g:=g) fun y p=>a (by simp[Op.operands]at p ⊢;exact .inr (.inr (.inr p)))) f;exact NOk.of (s:=Instr.sliceAt t (g x) (lo.map g) (hi.map g) (mx.map g)) g1
 .rename_i s t x;exact NOk.of (A08 h I d A (a (x:=x) (by simp[Op.operands])) f).1
 .rename_i op t x y S;obtain⟨g1,g2,_⟩:=A2N (w:=w) d (a (x:=x) (by simp[Op.operands])) (a (x:=y) (by simp[Op.operands])) f;exact fin (s:=do eqGuard op t x y (g x) (g y);binOp op t (g x) (g y)) g1 g2
 .rename_i xs tys;have l1:=cS (ρ:=ρ) (fr:=fr) (g:=g) (xs:=xs.toList) fun x hx=>a (by show x ∈ (#[]++xs:Array Operand).toList;simpa using hx)
  split at d
  .rename_i x t rest q u;rw[q]at l1;obtain⟨x',r1,B,D,G⟩:=l1.tail
   have:=G.nil_inv;subst this;obtain⟨g1,g2,_⟩:=A2a (w:=w) (ty:=ty) (tys:=rest) d D f;obtain⟨ks,E⟩:∃ ks,execOp g ⟨dst,.call ⟨.builtin .len,xs,tys⟩,ty,pos,K,L⟩=builtin .len tys ty ks (xs.map g):=⟨#[],rfl⟩;have C:xs.map g=⟨xs.toList.map g⟩:=by apply I7;simp
   have F:tys=⟨t::rest⟩:=by rw[<- u]
   rw[E,C,B,F];exact fin (s:=Builtin.len_ ⟨t::rest⟩ ty #[x']) g1 g2
  .cases d
 .rename_i xs tys;have l1:=cS (ρ:=ρ) (fr:=fr) (g:=g) (xs:=xs.toList) fun x hx=>a (by show x ∈ (#[]++xs:Array Operand).toList;simpa using hx)
  split at d
  .rename_i x y t t2 rest q u;rw[q]at l1;obtain⟨x',r1,B,D,G⟩:=l1.tail;obtain⟨y',T,M,O,N⟩:=G.tail
   have:=N.nil_inv;subst this
   have:=OI (ty:=ty) h I d A D O f;obtain⟨ks,E⟩:∃ ks,execOp g ⟨dst,.call ⟨.builtin .append,xs,tys⟩,ty,pos,K,L⟩=builtin .append tys ty ks (xs.map g):=⟨#[],rfl⟩;have C:xs.map g=⟨xs.toList.map g⟩:=by apply I7;simp
   have F:tys=⟨t::t2::rest⟩:=by rw[<- u]
   rw[E,C,B,M,F];have e:Builtin.append_ ⟨t::t2::rest⟩ ty #[x',y']=Builtin.append_ #[t,t2] ty #[x',y']:=rfl;refine NOk.of (s:=Builtin.append_ ⟨t::t2::rest⟩ ty #[x',y']) ?_;rw[e];exact this
  .cases d
 .cases d
def fO{wd o i t g:Nat}{z:Value}:∀ {ts:G9} {j:Nat} {m m':Mem} {r:C9},X4 wd o i t z g ts j m=some (r,m')->m.lg.le m'.lg
 | [],j,m,m',r,h=>by cases h;exact .refl _
 | tg::ts,j,m,m',r,h=>by
   unfold X4 at h;cases a:Nat.blt tg 10 with
   | true =>
     rw[a]at h;simp only[E1]at h;split at h
     .rename_i d;split at h
      .rename_i hr;cases h;exact(H6 d).trans (fO hr)
      .cases h
     .cases h
   | false =>
     rw[a]at h;simp only[D7]at h;rw[IX]at h;split at h
     .rename_i hr;cases h;exact V5.trans (fO hr)
     .cases h
def DD{r:Option (C9×Mem)}(h:lU P t r=some (v,m')):∃ vs,r=some (vs,m'):=by
 unfold lU at h;split at h
 .cases h;exact⟨_,rfl⟩
 .cases h;exact⟨_,rfl⟩
 .cases h
def ZC(a:IW P m t x=some (v,m')):m.lg.le m'.lg:=by
 unfold IW at a;split at a
 .obtain⟨_,a⟩:=A3 a;obtain⟨vs,h⟩:=DD a;exact fO h
 .split at a
  .obtain⟨_,a⟩:=A3 a;obtain⟨vs,h⟩:=DD a;exact fO h
  .cases a
 .cases a
def SW(a:wG P m t x y=some (v,m')):m.lg.le m'.lg:=by
 unfold wG at a;split at a
 .cases d:iV y with
  | true=>rw[d]at a;cases a
  | false =>
    rw[d]at a;simp only[D7]at a;split at a
    .rename_i n;split at a
     .obtain⟨_,a⟩:=A3 a;split at a
      .rename_i f;rw[N2]at a;simp only[hole]at a;obtain⟨p,_⟩:=mQ a;have md:=R6 U9 n;have q:=M6 f;refine md.2.1.trans ?_;rw[(U4 p).2,<- q.2.1];simp only[Z8];exact⟨[_],rfl⟩
      .cases a
     .cases a
    .cases a
 .cases a
def A2i{t:Nat}{k:Value}(h:JI m i t z k=some (v,m')):m.lg.le m'.lg:=by
 unfold JI at h;cases a:!(Nat.blt (G2 z) 8)with
 | true=>rw[a]at h;cases h
 | false =>
   rw[a]at h;simp only[D7]at h;split at h
   .rename_i f;split at h
    .rename_i d;cases h;exact(H6 f).trans (eS d)
    .cases h
   .cases h
def JH(h:lK P m t x z=some (v,m')):m.lg.le m'.lg:=by
 unfold lK at h;split at h;all_goals first
  | (split at h
     .obtain⟨_,h⟩:=A3 h;exact A2i h
     .cases h;done)
  | (split at h
     .obtain⟨_,h⟩:=A3 h;rw[E5]at h;cases h;exact .refl _
     .cases h;done)
  | cases h
def JY{f:Nat}(h:lO P m s x f=some (v,m')):m.lg.le m'.lg:=by
 unfold lO at h;split at h;all_goals first
  | (split at h
     .split at h
      .obtain⟨_,h⟩:=A3 h;rw[E5]at h;cases h;exact .refl _
      .cases h
     .cases h;done)
  | cases h
def FL{t:Nat}(a:KF m b i t cl lo hi mx=some (v,m')):m.lg.le m'.lg:=by
 have go:∀ {m1:Mem} {l h:Value} {cc:Bool},fR m1 b i t l h cc=some (v,m')->m1.lg.le m'.lg:=fun h=>by
  unfold fR at h;obtain⟨_,h⟩:=A3 h;rw[N2]at h;simp only[D2,L8]at h;obtain⟨_,rfl⟩:=h;exact V5
 unfold KF KE at a;split at a
 .exact go a
 .exact go (A3 a).2
 .split at a
  .rename_i d;exact(bH d).2.trans (go a)
  .cases a
 .cases a
def SZ(a:wI P m t x lo hi mx=some (v,m')):m.lg.le m'.lg:=by
 unfold wI at a;split at a
 .split at a
  .exact FL (A3 a).2
  .cases a
 .split at a
  .exact FL (A3 a).2
  .cases a
 .split at a
  .obtain⟨_,a⟩:=A3 a;split at a
   .rename_i d;exact(gM d).2.1.trans (FL a)
   .cases a
  .cases a
 .cases a
def A09(a:KJ P m s t x=some (v,m')):m.lg.le m'.lg:=by
 unfold KJ at a;split at a
 .split at a
  .split at a
   .exact H6 (A3 a).2
   .cases a
  .cases a
 .split at a
  .split at a
   .rename_i n;rw[JC]at a;have d:=H6 a;exact(gM n).2.1.trans d
   .cases a
  .cases a
 .obtain⟨_,a⟩:=A3 a;split at a
  .split at a
   .split at a
    .rename_i f;rw[N2]at a;simp only[hole]at a;have p:=M6 f;rw[(n8 a).2.1,Z8,<- p.2.1];exact⟨[_],rfl⟩
    .cases a
   .cases a
  .cases a
 .cases a
def A2O{x y:Operand}{a b:Value}(f:YO P m op t x y a b=some (v,m')):m.lg.le m'.lg:=by
 unfold YO at f;split at f
 .obtain⟨_,d⟩:=A3 f;clear f;split at d
  .rename_i n;cases d;exact H6 n
  .rename_i n;exact(H6 n).trans (H6 d)
  .cases d
 .cases f
def YZ{l c:Value}(a:IR P m t l c=some (v,m')):m.lg.le m'.lg:=by
 unfold IR at a;split at a
 .obtain⟨_,a⟩:=A3 a;split at a
  .obtain⟨_,a⟩:=A3 a;split at a
   .obtain⟨_,a⟩:=A3 a;split at a
    .rename_i d;rw[N2]at a;simp only[hole]at a;have f:=M6 d;rw[(n8 a).2.1,Z8,<- f.2.1];exact⟨[_],rfl⟩
    .cases a
   .cases a
  .cases a
 .cases a
def A64{fr:Fr}{o:Op}(a:dsM P fr m o=some (v,m')):m.lg.le m'.lg:=by
 unfold dsM at a;split at a
 .exact YZ a
 .exact ZC a
 .exact SW a
 .exact JH a
 .exact JY a
 .exact SZ a
 .exact A09 a
 .exact A2O a
 .split at a
  .unfold A2b at a;split at a
   .exact(bH a).2
   .exact(bH a).2
   .exact(bH a).2
   .cases a
  .cases a
 .split at a
  .exact(FW a).2.1
  .cases a
 .cases a
end
end
end Go.Sx
