import Derived.Test.YtbbicpheoakeeaaGreatDoorX3
set_option linter.all false
set_option maxRecDepth 100000
set_option maxHeartbeats 4000000
namespace Go.Sx
variable {rows rows2:List (List U)}{b c cap g i j k o o' sh wd:Nat}{e s t t2 ty:TypeId}{inf:TypeInfo}{fz:Nat×Nat}{b' c' l' v x x' y y' z:Value}{l:Loc}{g0 gs:H9}{cl nul sure:Bool}{d2 ds:TypeDesc}{bh:Beh}{cs cs' new' vs:D3}{td:Td}{row us:List U}{hi lo mx:R2}{op:BinOp}
section
open Go
variable [Ora]
section
variable {P:Program} {base:Nat} {ρ ρ':Ren} {m m':Mem} {w w':World}
def P5.move{R:Nat->Option Obj}{C C':X4}(h:P5 R rows wd C o)(n:∀ i,i<rows.length*wd->C'[o'+i]? = C[o+i]?):P5 R rows wd C' o':=by
 refine⟨h.1,fun r row j u v f a2 a3=>h.2 r row j u v f a2 ?_⟩;have a:=(B1.1 f).1;have d:=(B1.1 a2).1;rw[h.1 _ (D1 f)]at d;have p:(r+1)*wd<=rows.length*wd:=F9 wd a;rw[I3]at p
 have:=n (r*wd+j) A2;rw[show o+r*wd+j=o+(r*wd+j) by omega,<- this,show o'+(r*wd+j)=o'+r*wd+j by omega];exact a3
def P5.append{R:Nat->Option Obj}{C:X4}(h:P5 R rows wd C o)(k:P5 R rows2 wd C (o+rows.length*wd)):P5 R (rows++rows2) wd C o:=by
 refine⟨fun row hr=>(B6.1 hr).elim (h.1 row) (k.1 row),fun r row j u v a a2 a3=>?_⟩;rcases G0 r rows.length with d|d
 .rw[F4 d]at a;exact h.2 r row j u v a a2 a3
 .rw[E4 d]at a;refine k.2 (r-rows.length) row j u v a a2 ?_;have:rows.length*wd+(r-rows.length)*wd=r*wd:=by rw[<- I3];congr 1;omega
  rw[show o+rows.length*wd+(r-rows.length)*wd+j=o+r*wd+j by omega];exact a3
def B00{t:Nat}{T:TypeId}{lg:Loc}{C:X4}(r:Ora.env c=.seq false wd rows)(q:t=10+wd)(hi:P.info? T=some inf)(u:inf.size=wd)(f:rows.length<=cap)(d:sh+cap*wd<=C.size)
  (a:P5 lg.G rows wd C sh) (p:ρ g=some lg) (hw:w.heap[b]? = some (.cells C T fz)) (n:∀ i,i<C.size->¬ (fz.1<=i/\i<fz.2)):BR P ρ (.sq c t T g false) ⟨b,sh,cap,rows.length,fun _=>none,true⟩ w :=
 ⟨⟨wd,inf,q,hi,u,.inr ⟨rfl,C,fz,T,rows,lg,hw,r,rfl,f,d,a.1,p,a.2,fun _=>⟨rfl,n⟩⟩⟩⟩
def dC{t:Nat}{T:TypeId}{lg:Loc}{C:X4}(h:HR P base ρ m.H w)(I:base<=w.heap.size)(u:bZ m c t T g=some (v,m'))(B:K7 ρ m.n m'.hi)
  (p:Ora.env c=.seq false wd rows) (A:t=10+wd) (hi:P.info? T=some inf) (K:inf.size=wd) (a:rows.length<=cap) (r:cap*wd<=C.size) (d:P5 lg.G rows wd C 0) (F:ρ g=some lg) (q:∀ i,i<C.size->¬ (fz.1<=i/\i<fz.2))
  (J:w'.os=w.os/\w'.tape=w.tape/\w'.output=w.output) (hh:w'.heap=w.heap.push (.cells C T fz)):∃ ρ',VR ρ' v (.slice (some ⟨w.heap.size,0,none⟩) rows.length cap)/\St P base ρ ρ' m m' w w':=by
 have f:ρ m.n=none:=by
  obtain⟨_,_,rfl⟩:=M3 u;exact B m.n (A7 _) (L7 _ _).2
 obtain⟨rfl,D,E⟩:=St.alloc (w':=w') (l:=⟨w.heap.size,0,cap,rows.length,fun _=>none,true⟩) h I u B J hh rfl (B00 p A hi K a A2 d (X9 f _ _ F) (by rw[hh];simp) q);exact⟨_,.own (.inr ⟨_,wd,rows,D,rfl,p,rfl,a,rfl⟩) (by rw[p];exact A.symm) rfl,E⟩
def pN{t id:Nat}{T:TypeId}{ab:AB}{lg:Loc}{C:X4}(h:HR P base ρ m.H w)(hle:id<=I4)(A:Hp.get m.H id=some ab)(F:ab.rw=true)(Q:ρ id=some l)(r:l.on=true)
  (K:bZ (kS m id) c t T g=some (v,m')) (J:K7 ρ m.n m'.hi)
  (u:Ora.env c=.seq false wd rows) (I:t=10+wd) (hi:P.info? T=some inf) (S:inf.size=wd) (a:rows.length<=cap) (f:sh+cap*wd<=C.size) (d:P5 lg.G rows wd C sh) (O:ρ g=some lg) (D:∀ i,i<C.size->¬ (fz.1<=i/\i<fz.2))
  (R:w'.os=w.os/\w'.tape=w.tape/\w'.output=w.output) (B:w'.heap.size=w.heap.size) (N:∀ k,k≠l.blk->w'.heap[k]? = w.heap[k]?) (hw:w'.heap[l.blk]? = some (.cells C T fz)) :
  ∃ ρ',VR ρ' v (.slice (some ⟨l.blk,sh,none⟩) rows.length cap)/\St P base ρ ρ' m m' w w':=by
 have p:ρ m.n=none:=by
  have q:=K;unfold bZ at q;rw[n9]at q;obtain⟨_,_,rfl⟩:=M3 q;exact J m.n (A7 _) (L7 _ _).2
 obtain⟨rfl,L,M⟩:=St.move (w':=w') (l':=⟨l.blk,sh,cap,rows.length,fun _=>none,true⟩) h hle A F Q K J (fun _=>⟨r,rfl⟩) R B (fun k E=>N k (E r)) (B00 u I hi S a f d (X9 p _ _ O) hw D) (fun h=>by cases h);exact⟨_,.own (.inr ⟨_,wd,rows,L,rfl,u,rfl,a,rfl⟩) (by rw[u];exact I.symm) rfl,M⟩
def A9k:Loc:=⟨0,0,0,0,fun _=>none,false⟩
def EB{t:Nat}{T:TypeId}{old:Option Nat}(h:HR P base ρ m.H w)(hold:∀ b,old=some b->∃ ab l,b<=I4/\Hp.get m.H b=some ab/\ab.rw=true/\ρ b=some l/\l.on=false)
  (B:bZ (kP old m) c t T g=some (v,m')) (A:K7 ρ m.n m'.hi) (a:Ora.env c=.seq true wd []) (u:t=10+wd) (hi:P.info? T=some inf) (E:inf.size=wd):∃ ρ',VR ρ' v (.slice none 0 0)/\St P base ρ ρ' m m' w w:=by
 have d:∀ ρ':Ren,BR P ρ' (.sq c t T g false) A9k w:=fun ρ'=>⟨⟨wd,inf,u,hi,E,.inl ⟨rfl,a⟩⟩⟩
 cases old with
 | none =>
   obtain⟨rfl,p,r⟩:=St.new0 (l':=A9k) h B A (d _) rfl fun q f=>by
    rcases f with⟨_,f,_⟩|⟨f,_⟩<;>cases f
   exact⟨_,.own (.inl ⟨_,wd,p,rfl,a,rfl⟩) (by rw[a];exact u.symm) rfl,r⟩
 | some b =>
   obtain⟨ab,l,h1,D,h3,C,F⟩:=hold b rfl;obtain⟨rfl,p,r⟩:=St.move (w':=w) (l':=A9k) h h1 D h3 C B A (fun h=>by cases h) ⟨rfl,rfl,rfl⟩ rfl (fun _ _=>rfl) (d _) (fun h=>by cases h);exact⟨_,.own (.inl ⟨_,wd,p,rfl,a,rfl⟩) (by rw[a];exact u.symm) rfl,r⟩
def uJ(h:HR P base ρ m.H w)(a:kT gs m=some (g,m'))(p:K7 ρ m.n m'.hi)(d:ρ j=some l):Hp.get m'.H j=Hp.get m.H j:=by
 have main:∀ {gs:H9},(bif gs.all (pT m)then match hO m fun b m=>some (undef,b,m)with
  | some (_,b,m)=>some (b,m)
  | none=>none else none)=some (g,m')->Hp.get m'.H j=Hp.get m.H j:=fun{gs} a=>by
  obtain⟨h1,a⟩:=A3 a;split at a
  .rename_i r b m1 u;cases a;obtain⟨m2,f,q,_⟩:=R3 u;cases q;rw[lZ f (h.dom j l d),A6];intro e;subst e;obtain⟨_,_,rfl⟩:=M3 f;rw[p m.n (A7 _) (L7 _ _).2]at d;cases d
  .cases a
 unfold kT at a;split at a
 .obtain⟨h1,a⟩:=A3 a;cases a;rfl
 .exact main a
def N6(a:kT gs m=some (g,m')):m.hi<=m'.hi/\m'.lg=m.lg/\m.n<=m'.n:=by
 have main:∀ {gs:H9},(bif gs.all (pT m)then match hO m fun b m=>some (undef,b,m)with
  | some (_,b,m)=>some (b,m)
  | none=>none else none)=some (g,m')->m.hi<=m'.hi/\m'.lg=m.lg/\m.n<=m'.n:=fun{gs} a=>by
  obtain⟨h1,a⟩:=A3 a;split at a
  .rename_i r b m1 p;cases a;obtain⟨m2,f,d,_⟩:=R3 p;cases d;obtain⟨_,_,rfl⟩:=M3 f;exact⟨(L7 _ _).1,rfl,V4 _⟩
  .cases a
 unfold kT at a;split at a
 .obtain⟨h1,a⟩:=A3 a;cases a;exact⟨A7 _,rfl,A7 _⟩
 .exact main a
def B4t(nul:Bool)(wd:Nat)(rows:List (List U)):List (List U)->U
 | []=>.seq nul wd rows
 | r0::r=>.seq false wd (rows++r0::r)
def NN(h:∃ n w r,tM nul wd rows rows2=.seq n w r):rows.length+rows2.length<=xD/\tM nul wd rows rows2=B4t nul wd rows rows2:=by
 by_cases a:rows.length+rows2.length<=xD
 .refine⟨a,?_⟩;unfold tM;rw[A8 a];cases rows2<;>rfl
 .unfold tM at h;rw[A6 a]at h;obtain⟨_,_,_,h⟩:=h;cases h
def TC{old:Option Nat} 
  (hu:P.underlying t=some (.slice e)) (Q:P.underlying t2=some d2) (X:dR d2=true) (hi:P.info? e=some inf) (hz:gF P e=some z) (ad:z.cells.size=inf.size) (bl:inf.bytes<=90000)
  (h:HR P base ρ m.H w) (hb:base<=w.heap.size) (E:LD m e inf.size c old bh (g0++gs)=some (v,m')) (hf:K7 ρ m.n m'.hi) (hS:Sat m'.lg)
  (ao:A4A P base ρ m w e inf.size c g0 old x') (d:YK P ρ w inf.size bh gs y' rows2 new'):VOk P base ρ m w (Builtin.append_ #[t,t2] ty #[x',y']) v m':=by
 unfold LD at E;split at E
 .rename_i g m1 hj;rw[O4]at E;have bp:=N6 hj;generalize bo:fZ m1 (10+inf.size) (dY inf.size (hole c (10+inf.size)) bh).1 (dY inf.size (hole c (10+inf.size)) bh).2=lg1 at E;have bz:m'.lg=lg1/\m1.hi<=m'.hi/\m1.n<=m'.n:=by
   unfold bZ at E;cases old with
   | none =>
     simp only[kP]at E;obtain⟨_,_,rfl⟩:=M3 E;exact⟨by simp,by simpa using(L7 m1.hi m1.n).1,by simp⟩
   | some b =>
     simp only[kP,n9]at E;obtain⟨_,_,rfl⟩:=M3 E;exact⟨by simp,by simpa using(L7 m1.hi m1.n).1,by simp⟩
  have an:K7 ρ m.n m1.hi:=hf.less bz.2.1;obtain⟨O,lg,e1,e2,e3,e4,e5,e6⟩:=fL h hj an;have q:St P base ρ O m (m1.wLg lg1) w w:=St.trans (by simpa using an) e1 (St.wLg e1.hr lg1);have I:K7 O (m1.wLg lg1).n m'.hi:=by simpa using hf.step e1
  have bm:Sat (m1.wLg lg1).lg:=by simpa [<- bz.1]using hS
  obtain⟨nul,rows,hc,hx⟩:=ao.ex;obtain⟨d1,d2,nx,bn,rws,d3,d4⟩:=kW (m:=m1) (t:=10+inf.size) (op:=(dY inf.size (hole c (10+inf.size)) bh).1) (xs:=(dY inf.size (hole c (10+inf.size)) bh).2) (lg:=lg1) (by simpa using bm) (by rw[l5,bo];exact .refl _);rw[d.ev c nul rows hc]at d1;obtain⟨av,af⟩:=NN ⟨nx,bn,rws,d1.symm.trans d3⟩;rw[af]at d1;have bq:∀ b ∈ g0,∀ l,ρ b=some l->Sub l.G lg.G:=fun b S l hl=>e6 b (B6.2 (.inl S)) l hl
  have bj:∀ b ∈ gs,∀ l,ρ b=some l->Sub l.G lg.G:=fun b S l hl=>e6 b (B6.2 (.inr S)) l hl
  have aq:=d.rows lg.G bj;have D:∀ {v':Value} {ρ2:Ren} {w2:World},(Builtin.append_ #[t,t2] ty #[x',y']).run P w=.ok v' w2->VR ρ2 v v'->St P base O ρ2 (m1.wLg lg1) m' w w2->VOk P base ρ m w (Builtin.append_ #[t,t2] ty #[x',y']) v m':=fun hr hv hs =>
   ⟨_,_,_,hr,hv,St.trans hf q hs⟩
  have ah:∀ w,(zeroValue e).run P w=.ok z w:=fun w=>aZ hz w
  have ar:∀ {j l},ρ j=some l->Hp.get (m1.wLg lg1).H j=Hp.get m.H j:=fun bk=>by rw[lL];exact uJ h hj an bk
  have L:(3*(rows.length+rows2.length)+4000)*inf.bytes<=281474976710656:=by
   have h1:3*(rows.length+rows2.length)+4000<=3000004000:=by unfold xD at av;omega
   have h2:=fW h1 bl;omega
  have Y:rows.length+rows2.length<=1000000000:=av;rcases hx with⟨rfl,rfl,rfl,hold⟩|⟨rfl,b,ab,l,cap,C,fz,rfl,ak,bs,W,bw,ae,rfl,F,au,Z,R,bx⟩
  ·
   have T:∀ b,old=some b->∃ ab l,b<=I4/\Hp.get (m1.wLg lg1).H b=some ab/\ab.rw=true/\O b=some l/\l.on=false:=fun b S=>by
    obtain⟨ab,l,J,M,q3,q4,q5⟩:=hold b S;exact⟨ab,l,J,by rw[ar q4];exact M,q3,e1.ext _ _ q4,q5⟩
   cases f:rows2 with
   | nil =>
     subst f;have B:Ora.env m1.lg.nx=.seq true inf.size []:=d1;obtain⟨ρ2,J,M⟩:=EB q.hr T E I B rfl hi rfl;have aj:new'=[]:=G2.1 (by rw[d.size];simp);exact D (vL hu Q X hi (fun wd=>d.len wd) (by have:=d.first w rfl;rw[aj]at this;exact this)) J M
   | cons r0 rr =>
     rw[f]at d1;have B:Ora.env m1.lg.nx=.seq false inf.size rows2:=by rw[f];exact d1
     obtain⟨nc,ay,p⟩:=iL (P:=P) (w:=w) (ty:=ty) (a:=none) (n:=0) (c:=0) (k:=rows2.length) (old':=[]) (new':=new') (x':=y') hu Q X hi ah (fun wd=>d.len wd) (fun _ _=>rfl) (fun wd hw=>d.first wd hw) (by rw[f];simp) (by simpa using L) (by simpa using Y);obtain⟨m2,br,az⟩:∃ m2,bZ m2 m1.lg.nx (10+inf.size) e g=some (v,m')/\St P base O O (m1.wLg lg1) m2 w w:=by
      cases old with
      | none=>exact⟨_,E,St.refl q.hr⟩
      | some b =>
        obtain⟨ab,l,J,M,q3,q4,q5⟩:=T b rfl;exact⟨_,E,St.kill q.hr J M q3⟩
     obtain⟨ρ2,J,M⟩:=dC (w':={ w.drew with heap:=w.heap.push (.cells (({ toList:=[] }:Array Value)++⟨new'⟩++Builtin.zeroCells z.cells (nc-(0+rows2.length))) e (0,0)) }) (cap:=nc) az.hr hb br (I.step az) B rfl hi rfl A2
      (by have:=eR (s:=inf.size) (k:=rows2.length) (n:=0) (nc:=nc) (z:=z) (old':=[]) d.size ay ad (by simp);exact this)
      (aq.move (C':=({ toList:=[] }:Array Value)++⟨new'⟩++Builtin.zeroCells z.cells (nc-(0+rows2.length))) (o':=0) fun i hi'=>by
        have aa:i<new'.length:=by rw[d.size];exact hi'
        rw[F7 i];rw[MP (A5 aa)];simp[aa]) (az.ext _ _ e4) (fun i _ hh=>by have h1:0<=i:=hh.1;have h2:i<0:=hh.2;omega) ⟨rfl,rfl,rfl⟩ rfl
     exact D p (by rw[F7];exact J) (St.trans I az M)
  ·
   have al:Hp.get (m1.wLg lg1).H b=some ab:=by rw[ar bw];exact bs
   have A:=bx lg.G bq;have ax:=e1.ext _ _ bw;cases f:rows2 with
   | nil =>
     subst f;have B:Ora.env m1.lg.nx=.seq false inf.size rows:=d1;have aj:new'=[]:=G2.1 (by rw[d.size];simp);obtain⟨ρ2,J,M⟩:=pN (w':=w) (cap:=cap) (sh:=l.sh) q.hr ak al W ax ae E I B rfl hi rfl au Z A e4 R ⟨rfl,rfl,rfl⟩ rfl (fun _ _=>rfl) F;have p:=nQ (P:=P) (w:=w) (w':=w) (ty:=ty) (a:=⟨l.blk,l.sh,none⟩) (n:=rows.length) (k:=0) (c:=cap) (new':=new') hu Q X hi (fun wd=>d.len wd) (d.first w rfl) A2 (by rw[aj];rfl);exact D p J M
   | cons r0 rr =>
     have B:Ora.env m1.lg.nx=.seq false inf.size (rows++rows2):=by rw[f]at d1 ⊢;exact d1
     by_cases K:rows.length+rows2.length<=cap
     .have aw:(rows.length+rows2.length)*inf.size<=cap*inf.size:=F9 _ K;rw[I3]at aw;obtain⟨w',r1,r2,r3,r4,r5⟩:=d7 (P:=P) (b:=l.blk) (o:=rows.length*inf.size+l.sh) (fz:=fz) new' 0 C w F d.flat (by rw[d.size];omega) R;have ag:(Addr.mk l.blk l.sh none).add (rows.length*inf.size)=⟨l.blk,rows.length*inf.size+l.sh,none⟩:=by
       unfold Addr.add;split
       .rename_i h0;rw[h0];simp
       .simp[kK]
      have p:=nQ (P:=P) (w:=w) (w':=w') (ty:=ty) (a:=⟨l.blk,l.sh,none⟩) (n:=rows.length) (k:=rows2.length) (c:=cap) (new':=new') hu Q X hi (fun wd=>d.len wd) (d.first w rfl) K (by rw[ag];exact r1);have V:(Array.mk (dA C.toList (rows.length*inf.size+l.sh+0) new')).size=C.size:=by simp[d8]
      have bu:∀ j,(Array.mk (dA C.toList (rows.length*inf.size+l.sh+0) new'))[j]? = if rows.length*inf.size+l.sh<=j/\j<rows.length*inf.size+l.sh+new'.length then new'[j-(rows.length*inf.size+l.sh)]? else C[j]? := fun j=>by
       rw[J2,lW _ _ _ _ (by simp;rw[d.size];omega)];simp
      obtain⟨ρ2,J,M⟩:=pN (w':=w') (cap:=cap) (sh:=l.sh) (C:=⟨dA C.toList (rows.length*inf.size+l.sh+0) new'⟩) q.hr ak al W ax ae E I B rfl hi rfl (by simpa using K) (by rw[V];exact Z)
       (P5.append (A.move (o':=l.sh) fun i hi'=>by rw[bu,A6 A2]) (aq.move (o':=l.sh+rows.length*inf.size) fun i hi'=>by
         rw[bu,A8 (by rw[d.size];omega),show l.sh+rows.length*inf.size+i-(rows.length*inf.size+l.sh)=i by omega,F7];simp)) e4 (by rw[V];exact R) r2 r3 r5 r4
      rw[B7]at J;exact D p J M
     .have hold:∃ old',old'.length=rows.length*inf.size/\(∀ i,i<rows.length*inf.size->old'[i]? = C[l.sh+i]?)/\∀ wd:World,wd.heap=w.heap->(Builtin.firstCells inf.size rows.length (.slice (some ⟨l.blk,l.sh,none⟩) rows.length cap)).run P wd=.ok ⟨old'⟩ wd:=by
       have aw:rows.length*inf.size<=cap*inf.size:=F9 _ au;have hlen:((C.toList.drop l.sh).take (rows.length*inf.size)).length=rows.length*inf.size:=by simp;omega
       refine⟨(C.toList.drop l.sh).take (rows.length*inf.size),hlen,fun i hi'=>?_,fun wd hw=>?_⟩
       .rw[F0 hi',I7];simp
       .rw[show Builtin.firstCells inf.size rows.length (.slice (some ⟨l.blk,l.sh,none⟩) rows.length cap)=loadCells ⟨l.blk,l.sh,none⟩ (rows.length*inf.size)from rfl];refine K8 hlen fun j v' hj=>?_
        have ai:=(B1.1 hj).1;rw[hlen]at ai;rw[F0 ai,I7]at hj;rw[cJ hw];have bt:C[l.sh+j]? = some v':=by simpa using hj
        simp[World.cell?,F,bt]
      obtain⟨old',o1,o2,o3⟩:=hold;obtain⟨nc,ay,p⟩:=iL (P:=P) (w:=w) (ty:=ty) (a:=some ⟨l.blk,l.sh,none⟩) (n:=rows.length) (c:=cap) (k:=rows2.length) (old':=old') (new':=new') (x':=y') hu Q X hi ah (fun wd=>d.len wd) o3 (fun wd hw=>d.first wd hw) K L Y;have r:=St.kill q.hr ak al W;obtain⟨ρ2,J,M⟩:=dC (w':={ w.drew with heap:=w.heap.push (.cells (({ toList:=old' }:Array Value)++⟨new'⟩++Builtin.zeroCells z.cells (nc-(rows.length+rows2.length))) e (0,0)) }) (cap:=nc) r.hr hb E (I.step r) B rfl hi rfl (by simpa using ay)
       (eR d.size ay ad o1)
       (P5.append (A.move (C':=({ toList:=old' }:Array Value)++⟨new'⟩++Builtin.zeroCells z.cells (nc-(rows.length+rows2.length))) (o':=0) fun i hi'=>by
         have N:i<old'.length:=by rw[o1];exact hi'
         rw[F7 i,<- o2 i hi',eS (u:=old'[i]) (by rw[F4 N,A5 N]),A5 N]) (aq.move (o':=0+rows.length*inf.size) fun i hi'=>by
         have N:i<new'.length:=by rw[d.size];exact hi'
         rw[F7 (rows.length*inf.size),F7 i,eS (u:=new'[i]) (by rw[E4 (by rw[o1];omega),o1,X6,A5 N])];simp[N])) (r.ext _ _ e4) (fun i _ hh=>by have h1:0<=i:=hh.1;have h2:i<0:=hh.2;omega) ⟨rfl,rfl,rfl⟩ rfl
      rw[B7]at J;exact D p J (St.trans I r M)
 .cases E
end
end
section
open Go
variable [Ora]
section
variable {P:Program} {base:Nat} {ρ ρ':Ren} {m m':Mem} {w w':World}
def A4k{a:Addr} 
  (hu:P.underlying t=some (.slice e)) (R:P.underlying t2=some d2) (ay:dR d2=true) (hi:P.info? e=some inf) (hz:gF P e=some z) (ax:z.cells.size=inf.size) (aw:inf.bytes<=90000)
  (h:HR P base ρ m.H w) (hb:base<=w.heap.size) (q:LD m e inf.size c none bh (b::gs)=some (v,m')) (hf:K7 ρ m.n m'.hi) (hS:Sat m'.lg)
  (hc:Ora.env c=.seq false inf.size rows) (hl:ρ b=some l) (B:Enc l.G (Ora.env c) (.slice (some a) rows.length rows.length)) (d:YK P ρ w inf.size bh gs y' rows2 new') (p:rows2≠[]) :
  VOk P base ρ m w (Builtin.append_ #[t,t2] ty #[.slice (some a) rows.length rows.length,y']) v m':=by
 unfold LD at q;split at q
 .rename_i g m1 O;rw[O4]at q;have W:=N6 O;generalize X:fZ m1 (10+inf.size) (dY inf.size (hole c (10+inf.size)) bh).1 (dY inf.size (hole c (10+inf.size)) bh).2=lg1 at q;have q:bZ (m1.wLg lg1) m1.lg.nx (10+inf.size) e g=some (v,m'):=q;have L:m'.lg=lg1/\m1.hi<=m'.hi/\m1.n<=m'.n:=by
   unfold bZ at q;obtain⟨_,_,rfl⟩:=M3 q;exact⟨by simp,by simpa using(L7 m1.hi m1.n).1,by simp⟩
  have K:K7 ρ m.n m1.hi:=hf.less L.2.1;obtain⟨M,lg,N,e2,e3,e4,e5,e6⟩:=fL h O K;have A:St P base ρ M m (m1.wLg lg1) w w:=St.trans (by simpa using K) N (St.wLg N.hr lg1);have Z:K7 M (m1.wLg lg1).n m'.hi:=by simpa using hf.step N
  have az:Sat (m1.wLg lg1).lg:=by simpa [<- L.1]using hS
  obtain⟨d1,d2,nx,Y,rws,d3,d4⟩:=kW (m:=m1) (t:=10+inf.size) (op:=(dY inf.size (hole c (10+inf.size)) bh).1) (xs:=(dY inf.size (hole c (10+inf.size)) bh).2) (lg:=lg1) (by simpa using az) (by rw[l5,X];exact .refl _);rw[d.ev c false rows hc]at d1;obtain⟨C,J⟩:=NN ⟨nx,Y,rws,d1.symm.trans d3⟩;rw[J]at d1;have S:Sub l.G lg.G:=e6 b (.head _) l hl;have au:∀ b ∈ gs,∀ l,ρ b=some l->Sub l.G lg.G:=fun b V l hl=>e6 b (.tail _ V) l hl
  have Q:=d.rows lg.G au;have T:∀ w,(zeroValue e).run P w=.ok z w:=fun w=>aZ hz w
  have r:(3*(rows.length+rows2.length)+4000)*inf.bytes<=281474976710656:=by
   have h1:3*(rows.length+rows2.length)+4000<=3000004000:=by unfold xD at C;omega
   have h2:=fW h1 aw;omega
  have D:rows.length+rows2.length<=1000000000:=C;have ar:0<rows2.length:=eB.2 p;have av:Ora.env m1.lg.nx=.seq false inf.size (rows++rows2):=by
   cases rows2 with
   | nil=>exact absurd rfl p
   | cons r0 rr=>exact d1
  rw[hc]at B;obtain⟨_,old',F,o2,o3,o4⟩:=uV (w:=w) (B.mono S) ((N.hr.atl e4 e5).1.2);have o5:∀ wd:World,wd.heap=w.heap->(Builtin.firstCells inf.size rows.length (.slice (some a) rows.length rows.length)).run P wd=.ok ⟨old'⟩ wd:=fun wd hw=>by
   rw[show Builtin.firstCells inf.size rows.length (.slice (some a) rows.length rows.length)=loadCells a (rows.length*inf.size)from rfl];exact mG F fun j v' O=>by rw[cJ hw];exact o4 j v' O
  obtain⟨nc,I,E⟩:=iL (P:=P) (w:=w) (ty:=ty) (a:=some a) (n:=rows.length) (c:=rows.length) (k:=rows2.length) (old':=old') (new':=new') (x':=y') hu R ay hi T (fun wd=>d.len wd) o5 (fun wd hw=>d.first wd hw) A2 r D;obtain⟨ρ2,q1,q2⟩:=dC (w':={ w.drew with heap:=w.heap.push (.cells (({ toList:=old' }:Array Value)++⟨new'⟩++Builtin.zeroCells z.cells (nc-(rows.length+rows2.length))) e (0,0)) }) (cap:=nc) A.hr hb q Z av rfl hi rfl (by simpa using I)
   (eR d.size I ax F)
   (P5.append (o3.move (C':=({ toList:=old' }:Array Value)++⟨new'⟩++Builtin.zeroCells z.cells (nc-(rows.length+rows2.length))) (o':=0) fun i hi'=>by
     have f:i<old'.length:=by rw[F];exact hi'
     rw[F7 i,eS (u:=old'[i]) (by rw[F4 f,A5 f])];simp[f]) (Q.move (o':=0+rows.length*inf.size) fun i hi'=>by
     have f:i<new'.length:=by rw[d.size];exact hi'
     rw[F7 (rows.length*inf.size),F7 i,eS (u:=new'[i]) (by rw[E4 (by rw[F];omega),F,X6,A5 f])];simp[f])) e4 (fun i _ hh=>by have h1:0<=i:=hh.1;have h2:i<0:=hh.2;omega) ⟨rfl,rfl,rfl⟩ rfl
  rw[B7]at q1;exact⟨_,_,_,E,q1,St.trans hf A q2⟩
 .cases q
def YG(d:BX P td)(a:A3k td P m e wd y=some (bh,gs,sure,m')):m.hi<=m'.hi/\m.lg.le m'.lg/\m.n<=m'.n:=by
 unfold A3k at a;split at a
 .cases a;exact⟨A7 _,.refl _,A7 _⟩
 .split at a
  .split at a
   .rename_i f;cases a;exact S8 d f
   .cases a
  .cases a
 .split at a
  .rename_i f;cases a;exact d.mono f
  .cases a
 .obtain⟨h1,a⟩:=A3 a;cases a;exact⟨A7 _,.refl _,A7 _⟩
def kA(d:BX P td){old:Option Nat}(a:FL td P m e wd x=some (c,gs,old,m')):m.hi<=m'.hi/\m.lg.le m'.lg/\m.n<=m'.n:=by
 unfold FL at a;split at a
 .rw[O4]at a;simp only[hole]at a;cases a;exact⟨by simp,W9,by simp⟩
 .split at a
  .obtain⟨h1,a⟩:=A3 a;cases a;exact⟨A7 _,.refl _,A7 _⟩
  .cases a
 .split at a
  .obtain⟨h1,a⟩:=A3 a;split at a
   .rename_i f;split at a
    .obtain⟨h1,a⟩:=A3 a;rw[O4]at a;simp only[hole]at a;cases a
     have:=S8 d f;exact⟨by simpa using this.1,this.2.1.trans W9,by simpa using this.2.2⟩
    .cases a
   .cases a
  .cases a
 .cases a
def u9{t:Nat}{T:TypeId}(h:bZ m c t T g=some (v,m')):m.hi<=m'.hi/\m'.lg=m.lg/\m.n<=m'.n:=by
 unfold bZ at h;obtain⟨_,_,rfl⟩:=M3 h;exact⟨(L7 _ _).1,rfl,V4 _⟩
def cH(old:Option Nat)(m:Mem):(kP old m).hi=m.hi/\(kP old m).lg=m.lg/\(kP old m).n=m.n:=by
 cases old with
 | none=>exact⟨rfl,rfl,rfl⟩
 | some b=>simp[kP,n9]
def nT{old:Option Nat}(d:LD m e wd c old bh gs=some (v,m')):m.hi<=m'.hi/\m.lg.le m'.lg/\m.n<=m'.n:=by
 unfold LD at d;split at d
 .rename_i g m1 p;rw[O4]at d;have a:=N6 p;have b:=u9 d;obtain⟨f,q,r⟩:=cH old (m1.wLg (fZ m1 (10+wd) (dY wd (hole c (10+wd)) bh).1 (dY wd (hole c (10+wd)) bh).2));refine⟨?_,?_,?_⟩
  .have:=b.1;rw[f]at this;simp at this;omega
  .rw[b.2.1,q,<- a.2.1];exact W9
  .have:=b.2.2;rw[r]at this;simp at this;omega
 .cases d
def QE{t:Nat}{T:TypeId}{old:Option Nat}(h:HR P base ρ m.H w)(hold:∀ b,old=some b->b<=I4/\Hp.get m.H b≠some .frz)(f:bZ (kP old m) c t T g=some (v,m'))(q:K7 ρ m.n m'.hi):q8 ρ m m':=fun j l h1 a=>by
 have p:=cH old m;unfold bZ at f;rw[lZ f (h.dom j l h1),A6]
 .cases old with
  | none=>exact a
  | some b =>
    show Hp.get (kS m b).H j=_;rw[n9];show Hp.get (m.H.set b none) j=_;obtain⟨r,d⟩:=hold b rfl;rw[F2 _ _ _ _ r (h.dom j l h1),A6]
    .exact a
    .intro e;subst e;exact d a
 .intro e;obtain⟨_,_,rfl⟩:=M3 f;rw[p.2.2]at e;subst e;rw[q m.n (A7 _) (Nat.lt_of_le_of_lt (Nat.le_of_eq p.2.2.symm) (L7 (kP old m).hi (kP old m).n).2)]at h1;cases h1
omit [Ora] in
def PI(h:P.info? e=some inf):H6 P e=some inf.size:=by unfold H6;rw[h]
def DY(f:BX P td)(d:XE td P m e wd x=some (v,m')):m.hi<=m'.hi/\m.lg.le m'.lg/\m.n<=m'.n:=by
 unfold XE at d;split at d
 .obtain⟨_,d⟩:=A3 d;split at d
  .rename_i q;have a:=kA f q;split at d
   .rename_i p;have b:=N6 p;have c:=u9 d;refine⟨?_,?_,?_⟩
    .have:=c.1;rw[(cH _ _).1]at this;omega
    .rw[c.2.1,(cH _ _).2.1,b.2.1];exact a.2.1
    .have:=c.2.2;rw[(cH _ _).2.2]at this;omega
   .cases d
  .cases d
 .cases d
def TI(O:BX P td)(h:HR P base ρ m.H w)(d:XE td P m e wd x=some (v,m'))(Z:K7 ρ m.n m'.hi)(hx:VR ρ x x')(hS:Sat m'.lg) :
  ∃ ρ',VR ρ' v x'/\St P base ρ ρ' m m' w w/\m.lg.le m'.lg/\q8 ρ m m':=by
 unfold XE at d;split at d
 .rename_i inf hi;obtain⟨h1,d⟩:=A3 d;obtain⟨h1,h2⟩:=B8 h1;have h1:=A0 h1;have h2:0<wd:=A1 h2;split at d
  .rename_i c gs old m1 N;have a:=kA O N;split at d
   .rename_i g m2 hj;have b:=N6 hj;have cm:=u9 d;have k1:=cH old m2;have R:m'.lg=m1.lg:=by rw[cm.2.1,k1.2.1,b.2.1]
    have E:m2.hi<=m'.hi:=by have:=cm.1;rw[k1.1]at this;exact this
    obtain⟨Y,L,e2,e3,e4⟩:=NZ O h N (Z.less (C6 b.1 E)) hx (by rw[<- R];exact hS) h2 (h1▸PI hi);have q:K7 Y m1.n m'.hi:=Z.step L;obtain⟨ρ2,lg,u,j2,j3,j4,j5,j6⟩:=fL L.hr hj (q.less E);have I:K7 ρ2 m2.n m'.hi:=q.step u;obtain⟨nul,rows,hc,az⟩:=e4.ex;have B:∀ {j l},Y j=some l->Hp.get m2.H j=Hp.get m1.H j:=fun aw=>uJ L.hr hj (q.less E) aw
    have hle:m.lg.le m'.lg:=by rw[R];exact a.2.1
    have r:(∀ b,old=some b->b<=I4/\Hp.get m2.H b≠some .frz)->q8 ρ m m':=fun hq=>(e3.trans L.ext j3).trans (fun b l N=>u.ext b l (L.ext b l N)) (QE u.hr hq d I)
    rcases az with⟨rfl,rfl,rfl,hold⟩|⟨rfl,b0,ab,l,cap,C,fz,rfl,T,ay,A,W,ax,rfl,D,X,M,Q,V⟩
    .have p:∀ b,old=some b->∃ ab l,b<=I4/\Hp.get m2.H b=some ab/\ab.rw=true/\ρ2 b=some l/\l.on=false:=fun b f=>by
      obtain⟨ab,l,K,F,q3,q4,q5⟩:=hold b f;exact⟨ab,l,K,by rw[B q4];exact F,q3,u.ext _ _ q4,q5⟩
     obtain⟨J,K,F⟩:=EB u.hr p d I hc rfl hi h1;exact⟨J,K,St.trans Z L (St.trans q u F),hle,r fun b f=>by
      obtain⟨ab,l,K,F,q3,_⟩:=p b f;exact⟨K,fun he=>by rw[F]at he;cases he;cases q3⟩⟩
    .have S:Hp.get m2.H b0=some ab:=by rw[B W];exact ay
     obtain⟨J,K,F⟩:=pN (w':=w) (cap:=cap) (sh:=l.sh) u.hr T S A (u.ext _ _ W) ax d I hc rfl hi h1 X M (V lg.G fun b N l hl=>j6 b N l hl) j4 Q ⟨rfl,rfl,rfl⟩ rfl (fun _ _=>rfl) D;exact⟨J,K,St.trans Z L (St.trans q u F),hle,r fun b f=>by
      cases f;exact⟨T,fun he=>by rw[S]at he;cases he;cases A⟩⟩
   .cases d
  .cases d
 .cases d
def RY:∀ (d:Nat),BX P (YX P d)
 | 0=>YY
 | d+1=>by
   have u:=RY d;refine⟨fun{base ρ m m' w t v v' x b} h f p hv q=>?_,fun{m m' t v x b} f=>?_⟩
   .unfold YX at f;split at f
    .split at f
     .split at f
      .rename_i B m1 r;have a:=iH f;obtain⟨C,D,n,A,E⟩:=TI u h r (p.less a.1) hv (q.le a.2.1);obtain⟨ρ2,l,d1,d2,d3,d4,d5,d6⟩:=FY n.hr f (p.step n) D q;exact⟨ρ2,l,St.trans p n d1,d2,d3,d4,d5,A.trans d6,E.trans n.ext (JR n.hr f (p.step n))⟩
      .cases f
     .cases f
    .exact YY.ok h f p hv q
   .unfold YX at f;split at f
    .split at f
     .split at f
      .rename_i B m1 r;have a:=DY u r;have b:=iH f;exact⟨C6 a.1 b.1,a.2.1.trans b.2.1,C6 a.2.2 b.2.2⟩
      .cases f
     .cases f
    .exact iH f
def V7:BX P (tdP P):=RY 3
def IX(d:tQ P m t t2 x y=some (v,m')):m.hi<=m'.hi/\m.lg.le m'.lg/\m.n<=m'.n:=by
 unfold tQ at d;split at d
 .rename_i e d2 hu r;cases p:dR d2 with
  | false=>rw[p]at d;cases d
  | true =>
    rw[p]at d;simp only[Q9,E0]at d;split at d
    .obtain⟨_,d⟩:=A3 d;split at d
     .rename_i f;have a:=YG V7 f;split at d
      .rename_i q;have b:=kA V7 q;have c:=nT d;exact⟨A2,a.2.1.trans (b.2.1.trans c.2.1),A2⟩
      .split at d
       .obtain⟨_,d⟩:=A3 d;have c:=nT d;exact⟨A2,a.2.1.trans c.2.1,A2⟩
       .cases d
     .cases d
    .cases d
 .cases d
def YK.step(h:YK P ρ w wd bh gs y' rows2 new')(f:∀ b ∈ gs,∃ l,ρ b=some l)(he:∀ b l,ρ b=some l->ρ' b=some l):YK P ρ' w wd bh gs y' rows2 new' :=
 ⟨h.len,h.first,h.size,h.flat,fun R hR=>h.rows R fun b d l a=>hR b d l (he b l a),h.ev⟩
def YM{n:Nat}(h:YN P e n=true):∃ z,gF P e=some z/\z.cells.size=n:=by
 unfold YN at h;split at h
 .rename_i z a;exact⟨z,a,A0 h⟩
 .cases h
def RO(h:HR P base ρ m.H w)(T:base<=w.heap.size)(f:tQ P m t t2 x y=some (v,m'))(C:K7 ρ m.n m'.hi)(hx:VR ρ x x')(hy:VR ρ y y')(M:Sat m'.lg) :
  VOk P base ρ m w (Builtin.append_ #[t,t2] ty #[x',y']) v m':=by
 unfold tQ at f;split at f
 .rename_i e d2 hu D;cases u:dR d2 with
  | false=>rw[u]at f;cases f
  | true =>
    rw[u]at f;simp only[Q9,E0]at f;split at f
    .rename_i inf hi;obtain⟨hq,d⟩:=A3 f;clear f;obtain⟨Z,az⟩:=B8 hq;obtain⟨aw,av⟩:=B8 Z;have K:=A1 aw;have E:0<inf.size:=A1 av;obtain⟨z,hz,J⟩:=YM az;have G:H6 P e=some inf.size:=by unfold H6;rw[hi]
     split at d
     .rename_i bh gs sure m1 B;split at d
      .rename_i c g0 old m2 N;have mb:=kA V7 N;have mp:=nT d;have I:K7 ρ m.n m1.hi:=C.less A2;obtain⟨A,rows2,new',r,a2,a3,a4,a5,a6⟩:=VW V7 h B I hy (M.le (mb.2.1.trans mp.2.1)) E G;have p:K7 A m1.n m'.hi:=C.step r;obtain⟨ρ2,W,b2,b3,b4⟩:=NZ V7 r.hr N (p.less mp.1) (hx.mono r.ext) (M.le mp.2.1) E G;obtain⟨v',q,w3,V,O,R⟩:=TC (ty:=ty) hu D u hi hz J K W.hr T d (p.step W) M b4 (a5.step (fun b ay=>(a4 b ay).2) W.ext);exact⟨v',q,w3,V,O,St.trans C (St.trans (C.less mp.1) r W) R⟩
      .split at d
       .rename_i b c tg au;obtain⟨Q,L⟩:=A3 d;clear d;have Q:=A0 Q;have mp:=nT L;have I:K7 ρ m.n m1.hi:=C.less A2;obtain⟨A,rows2,new',r,a2,a3,a4,a5,a6⟩:=VW V7 h B I hy (M.le mp.2.1) E G;have p:K7 A m1.n m'.hi:=C.step r;obtain⟨l,d1,d2,d3,d4,d5⟩:=gN hx;obtain⟨nul,ax,rows,X,q2⟩:=gU d2 d3 d4;have Y:ax=inf.size:=A2;subst Y;rw[X]at d2;rcases aJ d2 with⟨rfl,rfl,rfl⟩|⟨rfl,a,cap,rfl,hc⟩
        .have F:A4A P base A m1 w e inf.size c [b] none (.slice none 0 0):=⟨true,[],X,.inl ⟨rfl,rfl,rfl,fun b T=>by cases T⟩⟩;obtain⟨v',q,w3,V,O,R⟩:=TC (ty:=ty) (g0:=[b]) (gs:=gs) hu D u hi hz J K r.hr T L p M F a5;exact⟨v',q,w3,V,O,St.trans C r R⟩
        .have S:cap=rows.length:=d5;subst S;obtain⟨v',q,w3,V,O,R⟩:=A4k (ty:=ty) hu D u hi hz J K r.hr T L p M X (r.ext _ _ d1) (by rw[X];exact d2) a5 (a6 rfl);exact⟨v',q,w3,V,O,St.trans C r R⟩
       .cases d
     .cases d
    .cases f
 .cases f
end
end
section
open Go
variable [Ora]
section
variable {P:Program} {base:Nat} {ρ ρ':Ren} {m m':Mem} {w w':World}
def KW(h:o+us.length<=row.length):(zI row o us).length=row.length:=by
 unfold zI;simp;omega
def A0_(h:o+us.length<=row.length):(zI row o us)[j]? = if o<=j/\j<o+us.length then us[j-o]? else row[j]? := by
 unfold zI;have a:(row.take o).length=o:=by simp;omega
 by_cases h1:j<o
 .rw[A6 A2,M0,F4 A2,F0 h1]
 .by_cases d:j<o+us.length
  .rw[A8 ⟨A2,d⟩,M0,E4 A2,a,F4 A2]
  .rw[A6 A2,E4 (by simp;omega),I7];congr 1
   simp;omega
def P5.set{R:Nat->Option Obj}{s:Nat}{C C':X4}(h:P5 R rows wd C s)(E:k<rows.length)(I:o+us.length<=wd)(he:c9 R us vs)
  (hC:∀ j,C'[j]? = if s+k*wd+o<=j/\j<s+k*wd+o+vs.length then vs[j-(s+k*wd+o)]? else C[j]?):P5 R (rows.set k (zI (rows.getD k []) o us)) wd C' s:=by
 have a:rows[k]? = some rows[k]:=A5 E;have A:rows.getD k []=rows[k]:=by rw[B2,a];rfl
 have f:rows[k].length=wd:=h.1 _ (O1 E);rw[A];refine⟨fun row hr=>?_,fun r row j u v d a2 a3=>?_⟩
 .rcases gA hr with h1|rfl
  .exact h.1 row h1
  .rw[KW A2];exact f
 .rw[hC]at a3;by_cases p:k=r
  .subst p;rw[S4 E]at d;have d:=A9 d;subst d;have q:=(B1.1 a2).1;rw[KW A2,f]at q;rw[A0_ A2]at a2;by_cases n:o<=j/\j<o+us.length
   .rw[A8 n]at a2;rw[A8 (by rw[<- he.1];omega)]at a3;exact he.2 (j-o) u v a2 (by rw[<- a3];congr 1;omega)
   .rw[A6 n]at a2;rw[A6 (by rw[<- he.1];omega)]at a3;exact h.2 k _ j u v a a2 a3
  .rw[dN p]at d;have q:=(B1.1 a2).1;rw[h.1 _ (D1 d)]at q;have F:=(B1.1 d).1;have H:=he.1;rw[A6]at a3
   .exact h.2 r row j u v d a2 a3
   .rcases G0 r k with B|G
    .have D:(r+1)*wd<=k*wd:=F9 wd B;rw[I3]at D;omega
    .have D:(k+1)*wd<=r*wd:=F9 wd A2;rw[I3]at D;omega
def WJ(h:HR P base ρ m.H w)(f:yR P m t x y=some (v,m'))(hf:K7 ρ m.n m'.hi)(hx:VR ρ x x')(hy:VR ρ y y')(hS:Sat m'.lg):UOk P base ρ m w (Instr.storeAt t x' y') m'/\v=undef/\m.lg.le m'.lg:=by
 unfold yR at f;split at f
 .rename_i b i tg z o ts ar;cases D:jS y with
  | true=>rw[D]at f;cases f
  | false =>
  rw[D]at f;simp only[E0]at f;split at f
  .rename_i xs gs m1 hd;split at f
   .rename_i c tc T g hg;obtain⟨ax,p⟩:=A3 f;clear f;have ax:=A0 ax;split at p
    .rename_i g2 m2 hj;rw[O4]at p;simp only[hole]at p;obtain⟨hs,rfl⟩:=nY p;obtain⟨ai,M⟩:=V1 hs;have md:=S8 V7 hd;have mj:=N6 hj;have ah:m2.hi=m'.hi:=by rw[M];simp
     have V:m'.lg=fZ m2 tg (.set (tg-10) o) (hole c tg::z::xs):=by rw[M];simp[hole]
     have az:m2.lg.le m'.lg:=by rw[V];exact⟨[_],rfl⟩
     have ao:K7 ρ m.n m1.hi:=hf.less A2;have X:m1.lg.le m'.lg:=by rw[<- mj.2.1];exact az
     obtain⟨ay,K,e2,e3,e4,e5,e6⟩:=jC V7 h hd ao (hy.cells D) (hS.le X);have Y:K7 ay m1.n m2.hi:=(hf.step K).less A2;obtain⟨ρ2,lg,d1,d2,d3,d4,d5,d6⟩:=fL K.hr hj Y;obtain⟨⟨l,wd,kN,k,a1,a2,a3,a4,a5,a6,rfl⟩,a8⟩:=xX hx;have E:=K.ext _ _ a1;obtain⟨a,inf,q1,q2,q3,J⟩:=SqR.ex (K.hr.atl E hg).1;rcases J with⟨J,_⟩|⟨_,J⟩
     .rw[a2]at J;cases J
     obtain⟨C,fz,T',rows,R,f1,f2,f3,f4,f5,f6,f7,f8,f9⟩:=J;have av:a=wd:=by
      have:tg=10+wd:=by rw[<- a8,a3];rfl
      omega
     subst av;obtain⟨rfl,f10⟩:=f9 rfl;have an:tg=10+a:=A2;have aj:Sat (m2.wLg (fZ m2 tg (.set (tg-10) o) (hole c tg::z::xs))).lg:=by rw[l5,<- V];exact hS
     obtain⟨r1,r2,nul,ag,rws,r3,r4⟩:=kW aj (.refl _);obtain⟨kk,hz⟩:=IW a4;have B:(hole c tg::z::xs).map (D9 Ora.env)=.seq false a rows::.int kk (.ofNat k)::xs.map (D9 Ora.env):=by
      show Ora.env c::D9 Ora.env z::xs.map (D9 Ora.env)=_;rw[f2,hz]
     rw[B,show tg-10=a by omega]at r1;have r1:Ora.env m2.lg.nx=if a=a/\k<rows.length/\o+(xs.map (D9 Ora.env)).length<=a then .seq false a (rows.set k (zI (rows.getD k []) o (xs.map (D9 Ora.env))))else .none:=r1
     by_cases hc:a=a/\k<rows.length/\o+(xs.map (D9 Ora.env)).length<=a
     .rw[A8 hc]at r1;obtain⟨_,W,Q⟩:=hc;have hR:∀ b' ∈ gs,∀ l',ay b'=some l'->Sub l'.G lg.G:=fun b' aq l' au=>d6 b' (.tail _ aq) l' au
      have d:=e6 lg.G hR;have A:Sub R.G lg.G:=d6 g (.head _) R f7;have F:y'.cells.toList.length=(xs.map (D9 Ora.env)).length:=d.1.symm;have ak:(k+1)*a<=l.cap*a:=F9 a A2;rw[I3]at ak;obtain⟨w',g1,al,g3,g4,g5⟩:=d7 (P:=P) (b:=l.blk) (o:=l.sh+k*a+o) (fz:=fz) y'.cells.toList 0 C w f1 (EV d) (by rw[F];omega) f10;have af:C.toList.length=C.size:=S0;have r:(Array.mk (dA C.toList (l.sh+k*a+o+0) y'.cells.toList)).size=C.size:=by simp[d8]
      have S:∀ j,(Array.mk (dA C.toList (l.sh+k*a+o+0) y'.cells.toList))[j]? = if l.sh+k*a+o<=j/\j<l.sh+k*a+o+y'.cells.toList.length then y'.cells.toList[j-(l.sh+k*a+o)]? else C[j]? := fun j=>by
       rw[J2,lW _ _ _ _ (by rw[F];omega)];simp
      have q:P5 lg.G rows a C l.sh:=P5.mono ⟨f6,f8⟩ A;have u:St P base ρ ρ2 m (m2.wLg (fZ m2 tg (.set (tg-10) o) (hole c tg::z::xs))) w w:=St.trans (hf.less (by simp;omega)) (St.trans (hf.less A2) K d1) (St.wLg d1.hr _);have I:Hp.get (m2.wLg (fZ m2 tg (.set (tg-10) o) (hole c tg::z::xs))).H b=some (.sq c tc T' g false):=by rw[lL,uJ K.hr hj Y E];exact hg
      have O:=d1.ext _ _ E;have aw:BR P ρ2 (.sq m2.lg.nx tg T' g2 false) l w':=by
       refine⟨⟨a,inf,an,q2,q3,.inr ⟨a2,_,fz,T',_,lg,g4,r1,by rw[M8];exact f3,f4,by rw[r];exact f5,(q.set W Q d S).1,d4,(q.set W Q d S).2,fun _=>⟨rfl,by rw[r];exact f10⟩⟩⟩⟩
      have L:=St.write u.hr hs I rfl O a2 al g3 g5 aw (fun h=>by cases h);refine⟨⟨ρ2,w',?_,St.trans hf u L⟩,rfl,md.2.1.trans X⟩;have N:=jF ar;have Z:ts.length=(xs.map (D9 Ora.env)).length:=by
       have:=E1 List.length e5;rw[E7]at this;exact this.symm
      have e:y'.cells.size=ts.length:=by rw[Z,<- F];simp
      simp[Instr.storeAt,Instr.sureAddr,storeVar,A4,L5 N,Result.andThen,e,g1]
     .rw[A6 hc]at r1;rw[r1]at r3;cases r3
    .cases p
   .cases f
  .cases f
 .cases f
def WM{lo' hi' mx':R2}(h:HR P base ρ m.H w)(a:yU P m t x lo hi mx=some (v,m'))(L:K7 ρ m.n m'.hi)(hx:VR ρ x x')(p:OR ρ lo lo')(q:OR ρ hi hi')(f:OR ρ mx mx')(D:Sat m'.lg) :
  VOk P base ρ m w (Instr.sliceAt t x' lo' hi' mx') v m'/\m.lg.le m'.lg:=by
 unfold yU at a;split at a
 .rename_i e b i tg hu;split at a
  .rename_i s A;obtain⟨d,a⟩:=A3 a;have d:=A0 d;obtain⟨l,h1,F,h3,Q⟩:=oC hx;obtain⟨⟨r,g1,g2⟩,⟨lg,rfl⟩,g4⟩:=IJ (w:=w) hu A d h1 F h3 (fun h=>by cases h) a p q f D;exact⟨⟨r,ρ,w,g1,g2,St.wLg h lg⟩,g4⟩
  .cases a
 .rename_i e b i tg hu;split at a
  .rename_i s A;obtain⟨d,a⟩:=A3 a;have d:=A0 d;obtain⟨l,h1,F,h3,Q,V⟩:=gN hx;obtain⟨⟨r,g1,g2⟩,⟨lg,rfl⟩,g4⟩:=IJ (w:=w) hu A d h1 F h3 (fun _=>V) a p q f D;exact⟨⟨r,ρ,w,g1,g2,St.wLg h lg⟩,g4⟩
  .cases a
 .rename_i e b i tg hu;split at a
  .rename_i s A;obtain⟨d,a⟩:=A3 a;have d:=A0 d;split at a
   .rename_i c tc J m1 M;have B:∀ {m1:Mem},NE m1 J c tg false lo hi mx=some (v,m')->K3 m1 m'/\m1.lg.le m'.lg:=fun{m1} a=>by
     have go:∀ {m1:Mem} {l h:Value} {cc:Bool},gV m1 J c tg l h cc=some (v,m')->K3 m1 m'/\m1.lg.le m'.lg:=fun h=>by
      unfold gV at h;obtain⟨_,h⟩:=A3 h;rw[O4]at h;simp only[D6,L9]at h;obtain⟨_,rfl⟩:=h;exact⟨⟨_,rfl⟩,W9⟩
     unfold NE ND at a;split at a
     .exact go a
     .exact go (A3 a).2
     .split at a
      .rename_i K
       have:=go a;exact⟨(cG K).1.trans this.1,(cG K).2.trans this.2⟩
      .cases a
     .cases a
    obtain⟨⟨lg,I⟩,hle⟩:=B a;have R:m1.hi=m'.hi:=by rw[I];simp
    obtain⟨u,l,G,N,W,S,T,O⟩:=FY h M (L.less A2) hx (D.le hle);have mono:∀ {o o':R2},OR ρ o o'->OR u o o':=fun{o o'} h=>by
     cases o<;>cases o'<;>first|exact trivial|exact h.elim|exact VR.mono G.ext h
    obtain⟨⟨r,g1,g2⟩,⟨E,C⟩,g4⟩:=IJ (w:=w) (cl:=false) hu A d N S T (fun h=>by cases h) a (mono p) (mono q) (mono f) D;subst C;exact⟨⟨r,u,w,g1,g2,St.trans (L.less (by simp)) G (St.wLg G.hr E)⟩,O.trans g4⟩
   .cases a
  .cases a
 .cases a
end
end
section
open Go
variable [Ora]
section
variable {P:Program} {base:Nat} {ρ ρ':Ren} {m m':Mem} {w w':World}
def DL{a':Addr}{n c':Nat}{a:List Int}(q:P.underlying s=some (.slice e))(p:P.underlying t=some .string)(he:P.underlying e=some (.int .u8))(d:(loadCells a' n).run P w=.ok (a.map (Value.int .u8)).toArray w) :
  (convert s t (.slice (some a') n c')).run P w=.ok (.string ⟨⟨a.map fun n=>UInt8.ofNat n.toNat⟩⟩) w:=by
 have:=run_bytesToString w a' n c' a d;have f:=pU a [];simp only[G7]at f;simp only[convert,A4,D2 q,D2 p,D2 he,Result.andThen];rw[this,show ByteArray.empty=ByteArray.mk ⟨[]⟩from rfl,f]
def GG{n:Nat}(d:P.underlying s=some (.slice e))(a:P.underlying t=some .string)(he:P.underlying e=some (.int .u8)):(convert s t (.slice none n c)).run P w=.ok (.string ByteArray.empty) w:=by
 simp[convert,A4,D2 d,D2 a,D2 he,Result.andThen,Conv.bytesToString]
def KI{b:ByteArray}(F:P.underlying s=some ds)(D:P.underlying t=some (.slice e))(he:P.underlying e=some (.int .u8))(w:World) :
  ∃ (cap:Nat) (C:Array Value),b.size<=cap/\C.size=cap/\(∀ (i:Nat) (u:Value),(Q0 b.data.toList)[i]? = some u->C[i]? = some u)/\(convert s t (.string b)).run P w=.ok (.slice (some ⟨w.heap.size,0,none⟩) b.size cap) { w.drew with heap:=w.heap.push (.cells C e (C.size,C.size+1)) }:=by
 let q:Question:=.appendCap b.size 0 e
 let cap:=q.cut (w.tape w.drawn q)
 have d:b.size<=cap:=by show b.size<=b.size+_;omega
 have A:(choose q).run P w=.ok cap w.drew:=by
  simp only[choose,Sem.run];rw[A6 (by simp[q,Question.forced])];rfl
 let C:X4:=(b.data.map fun b=>Value.int .u8 b.toNat)++Array.replicate (cap-b.size) (.int .u8 0)
 have hC:C.size=cap:=by
  have:b.data.size=b.size:=rfl;simp[C,this];omega
 refine⟨cap,C,d,hC,fun i u hi=>?_,?_⟩
 .have B:=(B1.1 hi).1;simp[Q0]at B;have n:i<(b.data.map fun b=>Value.int .u8 b.toNat).size:=by simpa using B
  show((b.data.map fun b=>Value.int .u8 b.toNat)++Array.replicate (cap-b.size) (.int .u8 0))[i]? = some u;rw[T8 n]
  simpa [Q0]using hi
 .have p:∀ w2:World,w2.heap[w.heap.size]? = some (.cells C e (0,0))->(markStringish ⟨w.heap.size,0,none⟩).run P w2=.ok () (w2.freeze { block:=w.heap.size,off:=C.size } 1):=fun w2 E=>by
   simp[markStringish,shape,freeze,Sem.run,World.shape?,E]
  have f:({ w.drew with heap:=w.heap.push (.cells C e (0,0)) }:World).freeze { block:=w.heap.size,off:=C.size } 1={ w.drew with heap:=w.heap.push (.cells C e (C.size,C.size+1)) }:=by
   unfold World.freeze;rw[A6 E3];congr 1;apply Array.ext_getElem?;intro i;rw[H4];by_cases hi:w.heap.size=i
   .subst hi;simp
   .rw[A6 hi];simp only[m7];rw[A6 (fun h=>hi h.symm),A6 (fun h=>hi h.symm)]
  have a:(convert s t (.string b)).run P w=(Conv.stringToBytes e b).run P w:=by
   cases ds<;>simp[convert,A4,D2 F,D2 D,D2 he,Result.andThen]
  rw[a];unfold Conv.stringToBytes;simp only[A4,show(choose (.appendCap b.size 0 e)).run P w=.ok cap w.drew from A,Result.andThen];have r:(newRow e C).run P w.drew=.ok ⟨w.heap.size,0,none⟩ { w.drew with heap:=w.heap.push (.cells C e (0,0)) }:=rfl;rw[show(newRow e ((b.data.map fun b=>Value.int .u8 b.toNat)++Array.replicate (cap-b.size) (.int .u8 0))).run P w.drew=_ from r];simp only[Result.andThen];rw[p _ (by simp),f];rfl
def IS:∀ {us:List U} {s:List UInt8} {vs:D3},uZ us=some s->c9 (fun k=>w.heap[k]?) us vs->∃ d:List Int,vs=d.map (Value.int .u8)/\s=d.map fun n=>UInt8.ofNat n.toNat
 | [],s,vs,h,he=>by
   cases h;have:vs=[]:=G2.1 he.1.symm;subst this;exact⟨[],rfl,rfl⟩
 | u::us,s,vs,h,he=>by
   unfold uZ at h;split at h
   .rename_i heq;cases heq
   .rename_i n r heq;cases heq;split at h
    .split at h
     .rename_i l p;cases h;cases vs with
      | nil=>have:=he.1;simp at this
      | cons v vr =>
        obtain⟨d,A,f⟩:=IS (vs:=vr) p ⟨by have:=he.1;simpa using this,fun i a b h1 q=>he.2 (i+1) a b (by simpa using h1) (by simpa using q)⟩
        have:=gT (he.2 0 _ v rfl rfl) rfl;subst this;exact⟨(Int.ofNat n)::d,by rw[A];rfl,by rw[f];rfl⟩
     .cases h
    .cases h
   .cases h
def IT:∀ {rows:List (List U)} {s:List UInt8},xC rows=some s->uZ (rows.flatMap id)=some s/\(rows.flatMap id).length=rows.length/\∀ (r:Nat) (row:List U) (j:Nat) (u:U),rows[r]? = some row->row[j]? = some u->j=0/\(rows.flatMap id)[r]? = some u
 | [],s,h=>by cases h;exact⟨rfl,rfl,fun r row j u h=>by simp at h⟩
 | row::rows,s,h=>by
   unfold xC at h;split at h
   .rename_i heq;cases heq
   .rename_i n r heq;cases heq;split at h
    .rename_i B;split at h
     .rename_i l f;cases h;obtain⟨h1,p,h3⟩:=IT f;refine⟨?_,by show([U.int .u8 (Int.ofNat n)]++rows.flatMap id).length=_;rw[B7,p];simp;omega,fun q row j u a a2=>?_⟩
      .simp only[hH,id,S9,G7,uZ];rw[A8 B,h1]
      .cases q with
       | zero =>
         simp at a;subst a;cases j with
         | zero=>simp at a2;subst a2;exact⟨rfl,rfl⟩
         | succ j=>simp at a2
       | succ q =>
         obtain⟨A,d⟩:=h3 q row j u (by simpa using a) a2;exact⟨A,by simpa using d⟩
     .cases h
    .cases h
   .cases h
def qY{t:Nat}:∀ {l:D3},n7 t l=true->∀ v ∈ l,G8 v=t
 | [],_,v,hv=>by cases hv
 | x::r,h,v,hv=>by
   obtain⟨h1,a⟩:=B8 (show(Nat.beq (G8 x) t && n7 t r)=true from h);rcases B3.1 hv with rfl|hv
   .exact A0 h1
   .exact qY a v hv
def tE{R:Nat->Option Obj}(h:LR ρ cs cs')(f:∀ v ∈ cs,G8 v<10):c9 R (cs.map (D9 Ora.env)) cs':=by
 refine⟨by simp[h.1],fun i u v a a2=>?_⟩;rw[F8]at a;cases d:cs[i]? with
 | none=>rw[d]at a;cases a
 | some x =>
   rw[d]at a;have a:=A9 a;subst a;exact .sc (aV (h.2 i x v d a2) (f x (D1 d))).1
def MD(m m1:Mem):A7X m m1=⟨m.H,m.n,m.W,m1.hi,m1.lg⟩:=by cases m;cases m1;rfl
def St.kept{ρ:Ren}{m:Mem}{w:World}{hi:Nat}{lg:Lg}(h:HR P base ρ m.H w)(hh:m.hi<=hi):St P base ρ ρ m ⟨m.H,m.n,m.W,hi,lg⟩ w w :=
 ⟨fun _ _ h=>h,fun b l h1 a=>(by rw[h1]at a;cases a),A7 _,hh,fun h=>C6 h hh,h,fun _ h=>h,fun b h1 a=>absurd h1 a,fun _ _ _=>rfl,A7 _,⟨rfl,rfl,rfl⟩,fun b l h1 a=>(by rw[h1]at a;cases a),fun _ _ _ _=>rfl,fun _ h=>.inr h⟩
def A3W(h:HR P base ρ m.H w)(hb:base<=w.heap.size)(d:NJ P m s t x=some (v,m'))(Z:K7 ρ m.n m'.hi)(hx:VR ρ x x')(hS:Sat m'.lg):VOk P base ρ m w (convert s t x') v m'/\m.lg.le m'.lg:=by
 unfold NJ at d;split at d
 .rename_i e a n c O N;split at d
  .rename_i he;split at d
   .rename_i cs hr;obtain⟨D,d⟩:=A3 d;obtain⟨u,p,e2,r,Q,M,e5⟩:=N0 d hS;obtain⟨lg,rfl⟩:=I1 d;have q:=St.wLg h lg;have I:=qY D;have key:∀ {a' c'} {L:D3},LR ρ cs L->(loadCells a' n).run P w=.ok ⟨L⟩ w->VOk P base ρ m w (convert s t (.slice (some a') n c')) v (m.wLg lg):=fun{a' c' L} X az=>by
     have av:c9 (fun k=>w.heap[k]?) (cs.map (D9 Ora.env)) L:=tE X (fun v hv=>by rw[I v hv];omega);have J:∃ f,uZ (cs.map (D9 Ora.env))=some f/\u=.str f:=by
      have p:(match uZ (cs.map (D9 Ora.env))with|some s=>U.str s|none=>.none)=u:=p;split at p
      .rename_i f A;exact⟨f,A,p.symm⟩
      .subst p;cases Q
     obtain⟨f,K,rfl⟩:=J;cases Q;obtain⟨ns,r1,r2⟩:=IS (w:=w) K av;subst r1;subst r2;exact⟨_,ρ,w,DL O N he az,M ρ,q⟩
    refine⟨?_,I5 d⟩;rcases P8 hx with⟨l,X,_,_,rfl⟩|⟨l,c',X,_,_,_,_,rfl⟩|⟨a',c',_,rfl,_,rfl⟩
    .obtain⟨L,g1,g2,g3⟩:=i6 h hr X;exact key g1 (K8 g2 g3)
    .obtain⟨L,g1,g2,g3⟩:=i6 h hr X;exact key g1 (K8 g2 g3)
    .have:cs=[]:=by
      unfold y9 at hr;split at hr
      .have:=(jX hr).2;simpa using this
      .cases hr
     subst this;exact key .nil (by simp[loadCells,loadCellsFrom])
   .cases d
  .cases d
 .rename_i e fn a1 a2 O N;split at d
  .rename_i he;split at d
   .rename_i hh b m1 hd;rw[MD]at d;obtain⟨u,p,e2,r,Q,M,e5⟩:=N0 d hS;have hle:=I5 d;obtain⟨lg,rfl⟩:=I1 d;obtain⟨Y,l,d1,d2,d3,d4,d5,d6⟩:=FY h hd (Z.less (by simp[Mem.wLg])) hx (hS.le hle);have q:St P base ρ ρ m (Mem.wLg ⟨m.H,m.n,m.W,m1.hi,m1.lg⟩ lg) w w:=St.kept h d1.hle;obtain⟨nul,wd,rows,K,q2⟩:=gU d4 d5 A2;have ax:wd=1:=A2;subst ax;rw[K]at d4;have J:∃ f,xC rows=some f/\u=.str f:=by
     have p:evU .str [D9 Ora.env hh]=u:=p;rw[K]at p;have p:(if 1=1 then(match xC rows with|some s=>U.str s|none=>.none)else .none)=u:=p;rw[A8 rfl]at p;split at p
     .rename_i f A;exact⟨f,A,p.symm⟩
     .subst p;cases Q
    obtain⟨f,A,rfl⟩:=J;cases Q;refine⟨?_,d6.trans hle⟩;have hG:=(d1.hr.atl d2 d3).1.2;rcases aJ d4 with⟨rfl,rfl,rfl⟩|⟨rfl,a,c,rfl,hc⟩
    .cases A;exact⟨_,ρ,w,GG O N he,M ρ,q⟩
    .obtain⟨_,new',g1,g2,g3,g4⟩:=uV (w:=w) d4 hG;obtain⟨k1,k2,k3⟩:=IT A;have V:c9 (fun k=>w.heap[k]?) (rows.flatMap id) new':=by
      refine⟨by rw[k2,g1];simp,fun i u v b1 b2=>?_⟩;have E:i<rows.length:=by have:=(B1.1 b1).1;rw[k2]at this;exact this
      have au:rows[i].length=1:=g3.1 _ (O1 E);have F:rows[i]? = some rows[i]:=A5 E;have h0:rows[i][0]? = some (rows[i][0]' A2):=A5 A2;obtain⟨_,k4⟩:=k3 i _ 0 _ F h0;rw[b1]at k4;have k4:=A9 k4;rw[k4];exact(g3.2 i _ 0 _ v F h0 (by simpa using b2)).mono hG
     obtain⟨ns,r1,r2⟩:=IS (w:=w) k1 V;subst r1;subst r2;have ay:(ns.map (Value.int .u8)).length=rows.length:=by rw[g1];omega
     exact⟨_,ρ,w,DL O N he (mG ay g4),M ρ,q⟩
   .cases d
  .cases d
 .rename_i y _ _ _ ds e O N;obtain⟨D,d⟩:=A3 d;have D:=A0 D;split at d
  .rename_i he;split at d
   .rename_i B;split at d
    .rename_i g m1 hj;rw[O4]at d;simp only[hole]at d;have d:bZ (m1.wLg (fZ m1 11 .byt [y])) m1.lg.nx 11 e g=some (v,m'):=d;have mj:=N6 hj;have mn:=u9 d;simp only[OK,l5,YR]at mn;obtain⟨Y,lg,p,e2,Q,M,e5,e6⟩:=fL h hj (Z.less A2);have q:St P base ρ Y m (m1.wLg (fZ m1 11 .byt [y])) w w:=St.trans (Z.less (by simp;omega)) p (St.wLg p.hr _);obtain⟨f,rfl,f1⟩:=s8 hx D;obtain⟨r1,r2,_⟩:=kW (m:=m1) (t:=11) (op:=.byt) (xs:=[y]) (lg:=m'.lg) hS (by rw[l5,mn.2.1];exact .refl _);have r1:Ora.env m1.lg.nx=evU .byt [D9 Ora.env y]:=r1;rw[f1]at r1;have r1:Ora.env m1.lg.nx=.seq false 1 (kM f):=r1;obtain⟨cap,C,c1,c2,c3,c4⟩:=KI (P:=P) (b:=⟨⟨f⟩⟩) O N he w;obtain⟨inf,S,T⟩:∃ inf,P.info? e=some inf/\inf.size=1:=by
      unfold H6 at B;cases hi:P.info? e with
      | none=>rw[hi]at B;cases B
      | some inf=>rw[hi]at B;exact⟨inf,rfl,A9 B⟩
     have aw:ByteArray.size ⟨⟨f⟩⟩=f.length:=rfl;rw[aw]at c1 c4;obtain⟨ρ2,K,q2⟩:=dC (w':={ w.drew with heap:=w.heap.push (.cells C e (C.size,C.size+1)) }) (cap:=cap) (C:=C) q.hr hb d (by simpa using(Z.less (A7 _)).step p) r1 rfl S T (by rw[iM];exact c1) A2
      ((KL (R:=lg.G) f).move (o':=0) fun i hi=>by
        rw[iM]at hi;have E:i<(Q0 f).length:=by simp[Q0];omega
        rw[F7,c3 i (Q0 f)[i] (A5 E)];simp[E]) M (fun i hi hh=>by have:=hh.1;simp only at this;omega) ⟨rfl,rfl,rfl⟩ rfl
     rw[iM]at K;exact⟨⟨_,ρ2,_,c4,K,St.trans Z q q2⟩,by rw[mn.2.1,<- mj.2.1];exact⟨[_],rfl⟩⟩
    .cases d
   .cases d
  .cases d
 .cases d
def WS(hu:P.underlying t=some (.slice e))(hi:P.info? e=some inf)(p:inf.bytes<=90000)(h0:0<inf.size)(u:∀ w,(zeroValue e).run P w=.ok z w)(q:k<=xD)(w:World) :
  (Instr.makeSlice t (.int .i64 (Int.ofNat k)) (.int .i64 (Int.ofNat k))).run P w=.ok (.slice (some ⟨w.heap.size,0,none⟩) k k) { w with heap:=w.heap.push (.cells ((Array.range (k*inf.size)).map (z.cells[· % z.cells.size]!)) e (0,0)) }:=by
 have q:k<=1000000000:=q;have h:H6 P e=some inf.size:=by simp[H6,hi]
 have wl:IntKind.i64.wrap (Int.ofNat k)=Int.ofNat k:=qK .i64 k (by simp only[OQ];omega);have hm:k*inf.bytes<=1000000000*90000:=fW q p;have a:(askRoom (k*inf.bytes)).run P w=.ok () w:=by
  unfold askRoom roomBytes;rw[A6 A2];rfl
 have n:((inf.bytes:Int)*(k:Int))=((k*inf.bytes:Nat):Int):=by rw[bQ];simp
 unfold Instr.makeSlice;simp only[A4,D2 hu,asInt,asIntOf,Result.andThen,Sem.run_pure,V8 hi,wl];rw[A6]
 .have d:(Int.ofNat k).toNat=k:=by simp
  simp only[A4,Sem.run_pure,Result.andThen,d,a,L5 h];by_cases f:k*inf.size=0
  .have r:∀ z:X4,Array.map (fun x=>z[x%z.size]!) (Array.range (k*inf.size))=⟨[]⟩:=fun z=>by rw[f];apply J5;simp
   simp only[A8 f,r];rfl
  .simp only[A6 f,A4,Sem.run_pure,Result.andThen,u];rfl
 .have A:Int.ofNat k=(k:Int):=rfl;simp only[A,n];simp;omega
def YL{R:Nat->Option Obj}{s:Nat}(h0:0<s)(n:z.cells.size=s)(q:LR ρ z.cells.toList z.cells.toList)(p:∀ v ∈ z.cells.toList,G8 v<10):P5 R (List.replicate k (z.cells.toList.map (D9 Ora.env))) s ((Array.range (k*s)).map (z.cells[· % z.cells.size]!)) 0:=by
 have he:=tE (R:=R) q p;refine⟨fun row hr=>?_,fun r row j u v g1 g2 g3=>?_⟩
 .rw[(List.mem_replicate.1 hr).2];simp[n]
 .have hr:=(B1.1 g1).1;rw[U2]at hr;rw[List.getElem?_replicate,A8 hr]at g1;cases g1;have d:=(B1.1 g2).1;simp only[E7,S0]at d;rw[n]at d;have hm:(r*s+j)%s=j:=by rw[bQ,Nat.mul_add_mod,X5 d]
  have f:r*s+j<k*s:=by
   have:(r+1)*s<=k*s:=F9 s hr;rw[I3,gZ]at this;omega
  rw[F7,Array.getElem?_map,Array.getElem?_range,A8 f]at g3;simp only[L8,D6,n,hm]at g3;have a:j<z.cells.size:=A2;rw[getElem!_pos z.cells j a]at g3;refine he.2 j u v g2 ?_;rw[Q2,F5 a,g3]
def A1t{l c:Value}(h:HR P base ρ m.H w)(T:base<=w.heap.size)(a:LT P m t l c=some (v,m'))(C:K7 ρ m.n m'.hi)(S:VR ρ l l')(M:VR ρ c c')(Q:Sat m'.lg):VOk P base ρ m w (Instr.makeSlice t l' c') v m'/\m.lg.le m'.lg:=by
 unfold LT at a;split at a
 .rename_i e i W j tj hu;obtain⟨d,A⟩:=A3 a;clear a;obtain⟨d,h3⟩:=B8 d;obtain⟨h1,D⟩:=B8 d;have h1:=A0 h1;have D:=A0 D;have h3:=A0 h3;subst h1 D h3;have a:=A;clear A;split at a
  .rename_i inf hi;obtain⟨d,a⟩:=A3 a;obtain⟨p,f⟩:=B8 d;have p:=A1 p;have f:0<inf.size:=A1 f;split at a
   .rename_i z K;obtain⟨d,a⟩:=A3 a;obtain⟨u,r⟩:=B8 d;have u:=A0 u;have r:∀ v ∈ z.cells.toList,G8 v<10:=fun v hv=>A1 (D5.1 r v hv)
    split at a
    .rename_i g m1 I;rw[O4]at a;simp only[hole]at a;have a:bZ (m1.wLg (fZ m1 (10+inf.size) (.rep inf.size) (hole i 3::z.cells.toList))) m1.lg.nx (10+inf.size) e g=some (v,m'):=a;have V:=N6 I;have G:=u9 a;simp only[OK,l5,YR]at G;obtain⟨F,lg,E,X,Y,R,e5,e6⟩:=fL h I (C.less A2);have B:St P base ρ F m (m1.wLg (fZ m1 (10+inf.size) (.rep inf.size) (hole i 3::z.cells.toList))) w w:=St.trans (C.less (by simp;omega)) E (St.wLg E.hr _);obtain⟨k,n,rfl,f1,f2⟩:=N1 (v:=hole i 3) S (show(3:Nat)<8 by decide);obtain⟨k2,n2,rfl,f3,f4⟩:=N1 (v:=hole i 3) M (show(3:Nat)<8 by decide);rw[f1]at f3;cases f3;obtain⟨r1,r2,nul,wd,rows,L,Z⟩:=kW (m:=m1) (t:=10+inf.size) (op:=.rep inf.size) (xs:=hole i 3::z.cells.toList) (lg:=m'.lg) Q (by rw[l5,G.2.1];exact .refl _);have r1:Ora.env m1.lg.nx=evU (.rep inf.size) (D9 Ora.env (hole i 3)::z.cells.toList.map (D9 Ora.env)):=r1;rw[f1]at r1;have N:k=.i64:=by
      have f2:(3:Nat)=iR k:=f2;cases k<;>first|rfl|(exfalso;revert f2;decide)
     subst N;cases n with
     | negSucc q=>rw[L]at r1;cases r1
     | ofNat q =>
       have r1:Ora.env m1.lg.nx=if(z.cells.toList.map (D9 Ora.env)).length=inf.size/\q<=xD then .seq false inf.size (List.replicate q (z.cells.toList.map (D9 Ora.env)))else .none:=r1
       by_cases d:(z.cells.toList.map (D9 Ora.env)).length=inf.size/\q<=xD
       .rw[A8 d]at r1;obtain⟨ρ2,J,O⟩:=dC (w':={ w with heap:=w.heap.push (.cells ((Array.range (q*inf.size)).map (z.cells[· % z.cells.size]!)) e (0,0)) }) (cap:=q) (fz:=(0,0)) B.hr T a (by simpa using(C.less (A7 _)).step E) r1 rfl hi rfl (by simp) (by simp)
         (YL (ρ:=ρ) f u (qG K) r) R (fun i hi hh=>by have:=hh.2;simp only at this;omega) ⟨rfl,rfl,rfl⟩ rfl
        rw[U2]at J;exact⟨⟨_,ρ2,_,WS hu hi p f (fun w=>aZ K w) d.2 w,J,St.trans C B O⟩,by rw[G.2.1,<- V.2.1];exact⟨[_],rfl⟩⟩
       .rw[A6 d,L]at r1;cases r1
    .cases a
   .cases a
  .cases a
 .cases a
end
end
section
open Go
variable [Ora]
section
variable {P:Program} {base:Nat} {ρ ρ':Ren} {m m':Mem} {w w':World}
def TN{t:Nat}(h:U6 m 8 .nilp [hole i t]=some (v,m'))(hi:Ora.env i=.seq nul wd rows)(n:Sat m'.lg):VR ρ v (.bool nul)/\K3 m m'/\m.lg.le m'.lg:=by
 obtain⟨u,d,q,r,p,f,A⟩:=N0 h n;have a:[hole i t].map (D9 Ora.env)=[.seq nul wd rows]:=by
  show[Ora.env i]=_;rw[hi]
 rw[a]at d;have d:U.bool nul=u:=d;subst d;cases p;exact⟨f ρ,I1 h,I5 h⟩
def DM{x y:Operand}{a:Option Addr}{n:Nat}(hu:P.underlying t=some (.slice e))(B:(a=none/\n=0/\c=0/\nul=true)∨(nul=false/\∃ q:Addr,a=some q/\n<=c))(p:op=.eql∨op=.neq)(w:World) :
  (do eqGuard op t x y (.slice a n c) (.slice none 0 0);binOp op t (.slice a n c) (.slice none 0 0):Sem Value).run P w=.ok (.bool (if op=.eql then nul else !nul)) w:=by
 have key:∀ {ρ:Ren} {am:Value},VR ρ am (.slice a n c)->mM P t x y am (.slice none 0 0)=true->tN P .eql t am (.slice none 0 0)=some (.bool nul)->tN P .neq t am (.slice none 0 0)=some (.bool !nul) ->
   (do eqGuard op t x y (.slice a n c) (.slice none 0 0);binOp op t (.slice a n c) (.slice none 0 0):Sem Value).run P w=.ok (.bool (if op=.eql then nul else !nul)) w:=fun{ρ am} hv r h1 A=>by
  have f:VR ρ (.slice none 0 0) (.slice none 0 0):=.pure rfl;have u:=sV (op:=op) (fun _=>r) hv f w;rcases p with rfl|rfl
  .obtain⟨g1,_⟩:=yD h1 hv f w;simp[A4,u,g1,Result.andThen]
  .obtain⟨g1,_⟩:=yD A hv f w;simp[A4,u,g1,Result.andThen]
 rcases B with⟨rfl,rfl,rfl,rfl⟩|⟨rfl,q,rfl,C⟩
 .refine key (ρ:=fun _=>none) (am:=.slice none 0 0) (.pure rfl) rfl ?_ ?_
  .simp[tN,DR,eqM,hu]
  .simp[tN,DR,eqM,hu]
 .obtain⟨d,h⟩:∃ d,Op.maxDepth=d+1:=⟨Op.maxDepth-1,rfl⟩;have he:∀ w,(Op.equal t (.slice (some q) n c) (.slice none 0 0)).run P w=.ok false w:=fun w=>by
   rw[Op.equal,h];simp[Op.equalIn,A4,D2 hu,Result.andThen]
  have r:∀ o:BinOp,(eqGuard o t x y (.slice (some q) n c) (.slice none 0 0)).run P w=.ok () w:=fun o=>by
   unfold eqGuard;cases o<;>rfl
  rcases p with rfl|rfl
  .rw[A4,r];show(do pure (.bool (<- Op.equal t (.slice (some q) n c) (.slice none 0 0))):Sem Value).run P w=_;rw[A4,he];rfl
  .rw[A4,r];show(do pure (.bool (!(<- Op.equal t (.slice (some q) n c) (.slice none 0 0)))):Sem Value).run P w=_;rw[A4,he];rfl
def A4v{x y:Operand}{a a' b:Value}(F:A1i P m op t x y a b=some (v,m'))(I:VR ρ a a')(S:VR ρ b b')(J:Sat m'.lg) :
  (∃ r,(do eqGuard op t x y a' b';binOp op t a' b':Sem Value).run P w=.ok r w/\VR ρ v r)/\K3 m m'/\m.lg.le m'.lg:=by
 unfold A1i at F;split at F
 .rename_i e k T i tg hu;obtain⟨f,d⟩:=A3 F;clear F;obtain⟨f,A⟩:=B8 f;obtain⟨f,O⟩:=B8 f;have L:b'=.slice none 0 0:=by
   unfold A2c at f;split at f
   .exact Q3 S
   .cases f
  subst L;obtain⟨nul,wd,rows,B,n,c,E,rfl,N⟩:∃ nul wd rows B n c,Ora.env i=.seq nul wd rows/\a'=.slice B n c/\((B=none/\n=0/\c=0/\nul=true)∨(nul=false/\∃ q:Addr,B=some q/\n<=c)):=by
   have C:∀ {l:Loc},Enc l.G (Ora.env i) a'->G4 (Ora.env i)=tg->10<=tg->∃ nul wd rows B n c,Ora.env i=.seq nul wd rows/\a'=.slice B n c/\((B=none/\n=0/\c=0/\nul=true)∨(nul=false/\∃ q:Addr,B=some q/\n<=c)):=fun h h3 D=>by
    obtain⟨nul,wd,rows,E,_⟩:=gU h h3 D;rw[E]at h;rcases aJ h with⟨rfl,rfl,rfl⟩|⟨rfl,q,c,rfl,Q⟩
    .exact⟨_,_,_,_,_,_,E,rfl,.inl ⟨rfl,rfl,rfl,rfl⟩⟩
    .exact⟨_,_,_,_,_,_,E,rfl,.inr ⟨rfl,q,rfl,Q⟩⟩
   rcases(J4 _ _).mp A with A|A
   .rcases(J4 _ _).mp A with A|A
    .have:=A0 A;subst this;obtain⟨l,_,h,h3,D⟩:=oC I;exact C h h3 D
    .have:=A0 A;subst this;obtain⟨l,_,h,h3,D,_⟩:=gN I;exact C h h3 D
   .have:=A0 A;subst this;rcases(gM I).1 with⟨l,wd,h1,h,h3,rfl⟩|⟨l,wd,rows,h1,h,h3,D,K,rfl⟩
    .exact⟨_,_,_,_,_,_,h3,rfl,.inl ⟨rfl,rfl,rfl,rfl⟩⟩
    .exact⟨_,_,_,_,_,_,h3,rfl,.inr ⟨rfl,_,rfl,K⟩⟩
  split at d
  .rename_i r H;cases d;obtain⟨g1,g2,g3⟩:=TN (ρ:=ρ) H E J;exact⟨⟨_,DM hu N (.inl rfl) w,g1⟩,g2,g3⟩
  .rename_i hh m1 H;have hle:=I5 d;obtain⟨g1,g2,g3⟩:=TN (ρ:=ρ) H E (J.le hle);obtain⟨u,f1,f2,r,f3,f4,f5⟩:=N0 d J;obtain⟨rfl,R⟩:=jR H;have M:D9 Ora.env (hole m.lg.nx 8)=.bool nul:=by
    obtain⟨p,_⟩:=aV g1 (by show(8:Nat)<10;omega);cases f:D9 Ora.env (hole m.lg.nx 8)with
    | bool b=>rw[f]at p;cases p;rfl
    | int k n=>rw[f]at p;cases p
    | str s=>rw[f]at p;cases p
    | none=>rw[f]at p;cases p
    | seq _ _ _=>rw[f]at p;cases p
   have f1:ev1 .not (D9 Ora.env (hole m.lg.nx 8))=u:=f1;rw[M]at f1;have f1:U.bool (!nul)=u:=f1;subst f1;cases f3;exact⟨⟨_,DM hu N (.inr rfl) w,f4 ρ⟩,g2.trans (I1 d),g3.trans hle⟩
  .cases d
 .cases F
def B0U{fr:Fr}{g:Operand->Value}{o:Oper}(h:HR P base ρ m.H w)(F:base<=w.heap.size)(d:dsM P fr m o.op=some (v,m'))(A:K7 ρ m.n m'.hi)(J:FR ρ fr g o.op)(f:Sat m'.lg):NOk P base ρ m w (execOp g o) v m':=by
 obtain⟨dst,op,ty,pos,L,K⟩:=o;simp only at d J;have a:∀ {x},x ∈ op.operands.toList->VR ρ (ev fr x) (g x):=fun hx=>J _ hx
 have fin:∀ {s:Sem Value},(∃ r,s.run P w=.ok r w/\VR ρ v r)->K3 m m'->NOk P base ρ m w (do pure (.value (<- s))) v m':=fun{s} ⟨r,h1,N⟩ ⟨lg,O⟩=>by
  subst O;exact NOk.of ⟨r,ρ,w,h1,N,St.wLg h lg⟩
 unfold dsM at d;split at d
 .rename_i t x y;exact NOk.of (A1t h F d A (a (x:=x) (by simp[Op.operands])) (a (x:=y) (by simp[Op.operands])) f).1
 .rename_i t x;obtain⟨g1,g2,_⟩:=A1w (w:=w) h d (a (x:=x) (by simp[Op.operands])) f;exact fin (s:=Instr.loadAt t (g x)) g1 g2
 .rename_i t x y;obtain⟨g1,rfl,_⟩:=WJ h d A (a (x:=x) (by simp[Op.operands])) (a (x:=y) (by simp[Op.operands])) f;exact NOk.ofU (s:=Instr.storeAt t (g x) (g y)) g1
 .rename_i t x i;obtain⟨g1,g2,_⟩:=MH (w:=w) d (a (x:=x) (by simp[Op.operands])) (a (x:=i) (by simp[Op.operands])) f;exact fin (s:=Instr.indexAt t (g x) (g i)) g1 g2
 .rename_i s x i;obtain⟨g1,rfl⟩:=MY (w:=w) d (a (x:=x) (by simp[Op.operands]));exact fin (s:=Instr.fieldAt s (g x) i) g1 (.refl _)
 .rename_i t x lo hi mx;obtain⟨g1,_⟩:=WM h d A (a (x:=x) (by simp[Op.operands])) (jU (g:=g) fun y p=>a (by simp[Op.operands]at p ⊢;exact .inr (.inl p))) (jU (g:=g) fun y p=>a (by simp[Op.operands]at p ⊢;exact .inr (.inr (.inl p)))) (jU (g:=g) fun y p=>a (by simp[Op.operands]at p ⊢;exact .inr (.inr (.inr p)))) f;exact NOk.of (s:=Instr.sliceAt t (g x) (lo.map g) (hi.map g) (mx.map g)) g1
 .rename_i s t x;exact NOk.of (A3W h F d A (a (x:=x) (by simp[Op.operands])) f).1
 .rename_i op t x y S;obtain⟨g1,g2,_⟩:=A4v (w:=w) d (a (x:=x) (by simp[Op.operands])) (a (x:=y) (by simp[Op.operands])) f;exact fin (s:=do eqGuard op t x y (g x) (g y);binOp op t (g x) (g y)) g1 g2
 .rename_i xs tys;have l1:=dS (ρ:=ρ) (fr:=fr) (g:=g) (xs:=xs.toList) fun x hx=>a (by show x ∈ (#[]++xs:Array Operand).toList;simpa using hx)
  split at d
  .rename_i x t rest u q;rw[u]at l1;obtain⟨x',r1,C,E,D⟩:=l1.tail
   have:=D.nil_inv;subst this;obtain⟨g1,g2,_⟩:=A47 (w:=w) (ty:=ty) (tys:=rest) d E f;obtain⟨ks,B⟩:∃ ks,execOp g ⟨dst,.call ⟨.builtin .len,xs,tys⟩,ty,pos,L,K⟩=builtin .len tys ty ks (xs.map g):=⟨#[],rfl⟩;have G:xs.map g=⟨xs.toList.map g⟩:=by apply J5;simp
   have I:tys=⟨t::rest⟩:=by rw[<- q]
   rw[B,G,C,I];exact fin (s:=Builtin.len_ ⟨t::rest⟩ ty #[x']) g1 g2
  .cases d
 .rename_i xs tys;have l1:=dS (ρ:=ρ) (fr:=fr) (g:=g) (xs:=xs.toList) fun x hx=>a (by show x ∈ (#[]++xs:Array Operand).toList;simpa using hx)
  split at d
  .rename_i x y t t2 rest u q;rw[u]at l1;obtain⟨x',r1,C,E,D⟩:=l1.tail;obtain⟨y',T,Q,R,M⟩:=D.tail
   have:=M.nil_inv;subst this
   have:=RO (ty:=ty) h F d A E R f;obtain⟨ks,B⟩:∃ ks,execOp g ⟨dst,.call ⟨.builtin .append,xs,tys⟩,ty,pos,L,K⟩=builtin .append tys ty ks (xs.map g):=⟨#[],rfl⟩;have G:xs.map g=⟨xs.toList.map g⟩:=by apply J5;simp
   have I:tys=⟨t::t2::rest⟩:=by rw[<- q]
   rw[B,G,C,Q,I];have e:Builtin.append_ ⟨t::t2::rest⟩ ty #[x',y']=Builtin.append_ #[t,t2] ty #[x',y']:=rfl;refine NOk.of (s:=Builtin.append_ ⟨t::t2::rest⟩ ty #[x',y']) ?_;rw[e];exact this
  .cases d
 .cases d
def gS{wd o i t g:Nat}{z:Value}:∀ {ts:H9} {j:Nat} {m m':Mem} {r:D3},Y8 wd o i t z g ts j m=some (r,m')->m.lg.le m'.lg
 | [],j,m,m',r,h=>by cases h;exact .refl _
 | tg::ts,j,m,m',r,h=>by
   unfold Y8 at h;cases a:Nat.blt tg 10 with
   | true =>
     rw[a]at h;simp only[E6]at h;split at h
     .rename_i d;split at h
      .rename_i hr;cases h;exact(I5 d).trans (gS hr)
      .cases h
     .cases h
   | false =>
     rw[a]at h;simp only[E0]at h;rw[LZ]at h;split at h
     .rename_i hr;cases h;exact W9.trans (gS hr)
     .cases h
def FS{r:Option (D3×Mem)}(h:mX P t r=some (v,m')):∃ vs,r=some (vs,m'):=by
 unfold mX at h;split at h
 .cases h;exact⟨_,rfl⟩
 .cases h;exact⟨_,rfl⟩
 .cases h
def A1x(a:LY P m t x=some (v,m')):m.lg.le m'.lg:=by
 unfold LY at a;split at a
 .obtain⟨_,a⟩:=A3 a;obtain⟨vs,h⟩:=FS a;exact gS h
 .split at a
  .obtain⟨_,a⟩:=A3 a;obtain⟨vs,h⟩:=FS a;exact gS h
  .cases a
 .cases a
def WK(a:yR P m t x y=some (v,m')):m.lg.le m'.lg:=by
 unfold yR at a;split at a
 .cases d:jS y with
  | true=>rw[d]at a;cases a
  | false =>
    rw[d]at a;simp only[E0]at a;split at a
    .rename_i f;split at a
     .obtain⟨_,a⟩:=A3 a;split at a
      .rename_i n;rw[O4]at a;simp only[hole]at a;obtain⟨q,_⟩:=nY a;have md:=S8 V7 f;have p:=N6 n;refine md.2.1.trans ?_;rw[(V1 q).2,<- p.2.1];simp only[l5];exact⟨[_],rfl⟩
      .cases a
     .cases a
    .cases a
 .cases a
def A5F{t:Nat}{k:Value}(h:MJ m i t z k=some (v,m')):m.lg.le m'.lg:=by
 unfold MJ at h;cases a:!(Nat.blt (G8 z) 8)with
 | true=>rw[a]at h;cases h
 | false =>
   rw[a]at h;simp only[E0]at h;split at h
   .rename_i d;split at h
    .rename_i f;cases h;exact(I5 d).trans (fU f)
    .cases h
   .cases h
def MI(h:mL P m t x z=some (v,m')):m.lg.le m'.lg:=by
 unfold mL at h;split at h;all_goals first
  | (split at h
     .obtain⟨_,h⟩:=A3 h;exact A5F h
     .cases h;done)
  | (split at h
     .obtain⟨_,h⟩:=A3 h;rw[E9]at h;cases h;exact .refl _
     .cases h;done)
  | cases h
def MZ{f:Nat}(h:mP P m s x f=some (v,m')):m.lg.le m'.lg:=by
 unfold mP at h;split at h;all_goals first
  | (split at h
     .split at h
      .obtain⟨_,h⟩:=A3 h;rw[E9]at h;cases h;exact .refl _
      .cases h
     .cases h;done)
  | cases h
def IK{t:Nat}(a:NE m b i t cl lo hi mx=some (v,m')):m.lg.le m'.lg:=by
 have go:∀ {m1:Mem} {l h:Value} {cc:Bool},gV m1 b i t l h cc=some (v,m')->m1.lg.le m'.lg:=fun h=>by
  unfold gV at h;obtain⟨_,h⟩:=A3 h;rw[O4]at h;simp only[D6,L9]at h;obtain⟨_,rfl⟩:=h;exact W9
 unfold NE ND at a;split at a
 .exact go a
 .exact go (A3 a).2
 .split at a
  .rename_i d;exact(cG d).2.trans (go a)
  .cases a
 .cases a
def WN(a:yU P m t x lo hi mx=some (v,m')):m.lg.le m'.lg:=by
 unfold yU at a;split at a
 .split at a
  .exact IK (A3 a).2
  .cases a
 .split at a
  .exact IK (A3 a).2
  .cases a
 .split at a
  .obtain⟨_,a⟩:=A3 a;split at a
   .rename_i d;exact(iH d).2.1.trans (IK a)
   .cases a
  .cases a
 .cases a
def A3X(a:NJ P m s t x=some (v,m')):m.lg.le m'.lg:=by
 unfold NJ at a;split at a
 .split at a
  .split at a
   .exact I5 (A3 a).2
   .cases a
  .cases a
 .split at a
  .split at a
   .rename_i d;rw[MD]at a;have f:=I5 a;exact(iH d).2.1.trans f
   .cases a
  .cases a
 .obtain⟨_,a⟩:=A3 a;split at a
  .split at a
   .split at a
    .rename_i n;rw[O4]at a;simp only[hole]at a;have p:=N6 n;rw[(u9 a).2.1,l5,<- p.2.1];exact⟨[_],rfl⟩
    .cases a
   .cases a
  .cases a
 .cases a
def A4w{x y:Operand}{a b:Value}(f:A1i P m op t x y a b=some (v,m')):m.lg.le m'.lg:=by
 unfold A1i at f;split at f
 .obtain⟨_,d⟩:=A3 f;clear f;split at d
  .rename_i n;cases d;exact I5 n
  .rename_i n;exact(I5 n).trans (I5 d)
  .cases d
 .cases f
def A1u{l c:Value}(a:LT P m t l c=some (v,m')):m.lg.le m'.lg:=by
 unfold LT at a;split at a
 .obtain⟨_,a⟩:=A3 a;split at a
  .obtain⟨_,a⟩:=A3 a;split at a
   .obtain⟨_,a⟩:=A3 a;split at a
    .rename_i d;rw[O4]at a;simp only[hole]at a;have f:=N6 d;rw[(u9 a).2.1,l5,<- f.2.1];exact⟨[_],rfl⟩
    .cases a
   .cases a
  .cases a
 .cases a
def B0V{fr:Fr}{o:Op}(a:dsM P fr m o=some (v,m')):m.lg.le m'.lg:=by
 unfold dsM at a;split at a
 .exact A1u a
 .exact A1x a
 .exact WK a
 .exact MI a
 .exact MZ a
 .exact WN a
 .exact A3X a
 .exact A4w a
 .split at a
  .unfold A48 at a;split at a
   .exact(cG a).2
   .exact(cG a).2
   .exact(cG a).2
   .cases a
  .cases a
 .split at a
  .exact(IX a).2.1
  .cases a
 .cases a
end
end
end Go.Sx
