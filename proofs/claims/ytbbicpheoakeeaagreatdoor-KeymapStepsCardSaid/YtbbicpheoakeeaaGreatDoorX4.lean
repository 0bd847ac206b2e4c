import Derived.Test.YtbbicpheoakeeaaGreatDoorX3
set_option linter.all false
set_option maxRecDepth 100000
set_option maxHeartbeats 4000000
namespace Go.Sx
variable {rows rows2:List (List U)}{b c cap g i j k o o' sh wd:Nat}{e s t t2 ty:TypeId}{inf:TypeInfo}{fz:Nat×Nat}{b' c' l' v x x' y y' z:Value}{l:Loc}{g0 gs:H6}{cl nul sure:Bool}{d2 ds:TypeDesc}{bh:Beh}{cs cs' new' vs:D2}{td:Td}{row us:List U}{hi lo mx:R1}{op:BinOp}
section
open Go
variable [Ora]
section
variable {P:Program} {base:Nat} {ρ ρ':Ren} {m m':Mem} {w w':World}
def P0.move{R:Nat->Option Obj}{C C':W4}(h:P0 R rows wd C o)(n:∀ i,i<rows.length*wd->C'[o'+i]? = C[o+i]?):P0 R rows wd C' o':=by
 refine⟨h.1,fun r row j u v f a2 a3=>h.2 r row j u v f a2 ?_⟩;have a:=(B3.1 f).1;have d:=(B3.1 a2).1;rw[h.1 _ (D0 f)]at d;have p:(r+1)*wd<=rows.length*wd:=F9 wd a;rw[I1]at p
 have:=n (r*wd+j) A2;rw[show o+r*wd+j=o+(r*wd+j) by omega,<- this,show o'+(r*wd+j)=o'+r*wd+j by omega];exact a3
def P0.append{R:Nat->Option Obj}{C:W4}(h:P0 R rows wd C o)(k:P0 R rows2 wd C (o+rows.length*wd)):P0 R (rows++rows2) wd C o:=by
 refine⟨fun row hr=>(B7.1 hr).elim (h.1 row) (k.1 row),fun r row j u v a a2 a3=>?_⟩;rcases G1 r rows.length with d|d
 .rw[F2 d]at a;exact h.2 r row j u v a a2 a3
 .rw[E1 d]at a;refine k.2 (r-rows.length) row j u v a a2 ?_;have:rows.length*wd+(r-rows.length)*wd=r*wd:=by rw[<- I1];congr 1;omega
  rw[show o+rows.length*wd+(r-rows.length)*wd+j=o+r*wd+j by omega];exact a3
def B0L{t:Nat}{T:TypeId}{lg:Loc}{C:W4}(p:Ora.env c=.seq false wd rows)(r:t=10+wd)(hi:P.info? T=some inf)(q:inf.size=wd)(f:rows.length<=cap)(d:sh+cap*wd<=C.size)
  (a:P0 lg.G rows wd C sh) (u:ρ g=some lg) (hw:w.heap[b]? = some (.cells C T fz)) (n:∀ i,i<C.size->¬ (fz.1<=i/\i<fz.2)):BR P ρ (.sq c t T g false) ⟨b,sh,cap,rows.length,fun _=>none,true⟩ w :=
 ⟨⟨wd,inf,r,hi,q,.inr ⟨rfl,C,fz,T,rows,lg,hw,p,rfl,f,d,a.1,u,a.2,fun _=>⟨rfl,n⟩⟩⟩⟩
def cV{t:Nat}{T:TypeId}{lg:Loc}{C:W4}(h:HR P base ρ m.H w)(E:base<=w.heap.size)(u:bQ m c t T g=some (v,m'))(B:K4 ρ m.n m'.hi)
  (q:Ora.env c=.seq false wd rows) (A:t=10+wd) (hi:P.info? T=some inf) (J:inf.size=wd) (a:rows.length<=cap) (r:cap*wd<=C.size) (f:P0 lg.G rows wd C 0) (K:ρ g=some lg) (p:∀ i,i<C.size->¬ (fz.1<=i/\i<fz.2))
  (F:w'.os=w.os/\w'.tape=w.tape/\w'.output=w.output) (hh:w'.heap=w.heap.push (.cells C T fz)):∃ ρ',VR ρ' v (.slice (some ⟨w.heap.size,0,none⟩) rows.length cap)/\St P base ρ ρ' m m' w w':=by
 have d:ρ m.n=none:=by
  obtain⟨_,_,rfl⟩:=M0 u;exact B m.n (A6 _) (L3 _ _).2
 obtain⟨rfl,D,I⟩:=St.alloc (w':=w') (l:=⟨w.heap.size,0,cap,rows.length,fun _=>none,true⟩) h E u B F hh rfl (B0L q A hi J a A2 f (X4 d _ _ K) (by rw[hh];simp) p);exact⟨_,.own (.inr ⟨_,wd,rows,D,rfl,q,rfl,a,rfl⟩) (by rw[q];exact A.symm) rfl,I⟩
def oZ{t id:Nat}{T:TypeId}{ab:AB}{lg:Loc}{C:W4}(h:HR P base ρ m.H w)(hle:id<=I2)(E:Hp.get m.H id=some ab)(F:ab.rw=true)(Q:ρ id=some l)(r:l.on=true)
  (I:bQ (kJ m id) c t T g=some (v,m')) (K:K4 ρ m.n m'.hi)
  (D:Ora.env c=.seq false wd rows) (J:t=10+wd) (hi:P.info? T=some inf) (R:inf.size=wd) (a:rows.length<=cap) (q:sh+cap*wd<=C.size) (p:P0 lg.G rows wd C sh) (S:ρ g=some lg) (A:∀ i,i<C.size->¬ (fz.1<=i/\i<fz.2))
  (M:w'.os=w.os/\w'.tape=w.tape/\w'.output=w.output) (u:w'.heap.size=w.heap.size) (N:∀ k,k≠l.blk->w'.heap[k]? = w.heap[k]?) (hw:w'.heap[l.blk]? = some (.cells C T fz)) :
  ∃ ρ',VR ρ' v (.slice (some ⟨l.blk,sh,none⟩) rows.length cap)/\St P base ρ ρ' m m' w w':=by
 have f:ρ m.n=none:=by
  have d:=I;unfold bQ at d;rw[l7]at d;obtain⟨_,_,rfl⟩:=M0 d;exact K m.n (A6 _) (L3 _ _).2
 obtain⟨rfl,L,O⟩:=St.move (w':=w') (l':=⟨l.blk,sh,cap,rows.length,fun _=>none,true⟩) h hle E F Q I K (fun _=>⟨r,rfl⟩) M u (fun k B=>N k (B r)) (B0L D J hi R a q p (X4 f _ _ S) hw A) (fun h=>by cases h);exact⟨_,.own (.inr ⟨_,wd,rows,L,rfl,D,rfl,a,rfl⟩) (by rw[D];exact J.symm) rfl,O⟩
def A8z:Loc:=⟨0,0,0,0,fun _=>none,false⟩
def DL{t:Nat}{T:TypeId}{old:Option Nat}(h:HR P base ρ m.H w)(hold:∀ b,old=some b->∃ ab l,b<=I2/\Hp.get m.H b=some ab/\ab.rw=true/\ρ b=some l/\l.on=false)
  (A:bQ (kH old m) c t T g=some (v,m')) (B:K4 ρ m.n m'.hi) (d:Ora.env c=.seq true wd []) (u:t=10+wd) (hi:P.info? T=some inf) (E:inf.size=wd):∃ ρ',VR ρ' v (.slice none 0 0)/\St P base ρ ρ' m m' w w:=by
 have a:∀ ρ':Ren,BR P ρ' (.sq c t T g false) A8z w:=fun ρ'=>⟨⟨wd,inf,u,hi,E,.inl ⟨rfl,d⟩⟩⟩
 cases old with
 | none =>
   obtain⟨rfl,p,r⟩:=St.new0 (l':=A8z) h A B (a _) rfl fun q f=>by
    rcases f with⟨_,f,_⟩|⟨f,_⟩<;>cases f
   exact⟨_,.own (.inl ⟨_,wd,p,rfl,d,rfl⟩) (by rw[d];exact u.symm) rfl,r⟩
 | some b =>
   obtain⟨ab,l,h1,C,h3,D,F⟩:=hold b rfl;obtain⟨rfl,p,r⟩:=St.move (w':=w) (l':=A8z) h h1 C h3 D A B (fun h=>by cases h) ⟨rfl,rfl,rfl⟩ rfl (fun _ _=>rfl) (a _) (fun h=>by cases h);exact⟨_,.own (.inl ⟨_,wd,p,rfl,d,rfl⟩) (by rw[d];exact u.symm) rfl,r⟩
def uD(h:HR P base ρ m.H w)(a:kK gs m=some (g,m'))(u:K4 ρ m.n m'.hi)(d:ρ j=some l):Hp.get m'.H j=Hp.get m.H j:=by
 have main:∀ {gs:H6},(bif gs.all (pI m)then match gW m fun b m=>some (undef,b,m)with
  | some (_,b,m)=>some (b,m)
  | none=>none else none)=some (g,m')->Hp.get m'.H j=Hp.get m.H j:=fun{gs} a=>by
  obtain⟨h1,a⟩:=A3 a;split at a
  .rename_i r b m1 q;cases a;obtain⟨m2,f,p,_⟩:=R3 q;cases p;rw[lS f (h.dom j l d),A8];intro e;subst e;obtain⟨_,_,rfl⟩:=M0 f;rw[u m.n (A6 _) (L3 _ _).2]at d;cases d
  .cases a
 unfold kK at a;split at a
 .obtain⟨h1,a⟩:=A3 a;cases a;rfl
 .exact main a
def N4(a:kK gs m=some (g,m')):m.hi<=m'.hi/\m'.lg=m.lg/\m.n<=m'.n:=by
 have main:∀ {gs:H6},(bif gs.all (pI m)then match gW m fun b m=>some (undef,b,m)with
  | some (_,b,m)=>some (b,m)
  | none=>none else none)=some (g,m')->m.hi<=m'.hi/\m'.lg=m.lg/\m.n<=m'.n:=fun{gs} a=>by
  obtain⟨h1,a⟩:=A3 a;split at a
  .rename_i r b m1 f;cases a;obtain⟨m2,p,d,_⟩:=R3 f;cases d;obtain⟨_,_,rfl⟩:=M0 p;exact⟨(L3 _ _).1,rfl,X3 _⟩
  .cases a
 unfold kK at a;split at a
 .obtain⟨h1,a⟩:=A3 a;cases a;exact⟨A6 _,rfl,A6 _⟩
 .exact main a
def B3O(nul:Bool)(wd:Nat)(rows:List (List U)):List (List U)->U
 | []=>.seq nul wd rows
 | r0::r=>.seq false wd (rows++r0::r)
def NC(h:∃ n w r,mQ nul wd rows rows2=.seq n w r):rows.length+rows2.length<=uV/\mQ nul wd rows rows2=B3O nul wd rows rows2:=by
 by_cases a:rows.length+rows2.length<=uV
 .refine⟨a,?_⟩;unfold mQ;rw[B0 a];cases rows2<;>rfl
 .unfold mQ at h;rw[A8 a]at h;obtain⟨_,_,_,h⟩:=h;cases h
def ST{old:Option Nat} 
  (hu:P.underlying t=some (.slice e)) (T:P.underlying t2=some d2) (Y:dJ d2=true) (hi:P.info? e=some inf) (hz:fX P e=some z) (aa:z.cells.size=inf.size) (bs:inf.bytes<=90000)
  (h:HR P base ρ m.H w) (hb:base<=w.heap.size) (E:KS m e inf.size c old bh (g0++gs)=some (v,m')) (hf:K4 ρ m.n m'.hi) (hS:Sat m'.lg)
  (al:A3w P base ρ m w e inf.size c g0 old x') (d:XZ P ρ w inf.size bh gs y' rows2 new'):VOk P base ρ m w (Builtin.append_ #[t,t2] ty #[x',y']) v m':=by
 unfold KS at E;split at E
 .rename_i g m1 hj;rw[O0]at E;have bn:=N4 hj;generalize bm:fT m1 (10+inf.size) (dR inf.size (hole c (10+inf.size)) bh).1 (dR inf.size (hole c (10+inf.size)) bh).2=lg1 at E;have ag:m'.lg=lg1/\m1.hi<=m'.hi/\m1.n<=m'.n:=by
   unfold bQ at E;cases old with
   | none =>
     simp only[kH]at E;obtain⟨_,_,rfl⟩:=M0 E;exact⟨by simp,by simpa using(L3 m1.hi m1.n).1,by simp⟩
   | some b =>
     simp only[kH,l7]at E;obtain⟨_,_,rfl⟩:=M0 E;exact⟨by simp,by simpa using(L3 m1.hi m1.n).1,by simp⟩
  have ak:K4 ρ m.n m1.hi:=hf.less ag.2.1;obtain⟨M,lg,e1,e2,e3,e4,e5,e6⟩:=fC h hj ak;have q:St P base ρ M m (m1.wLg lg1) w w:=St.trans (by simpa using ak) e1 (St.wLg e1.hr lg1);have F:K4 M (m1.wLg lg1).n m'.hi:=by simpa using hf.step e1
  have bp:Sat (m1.wLg lg1).lg:=by simpa [<- ag.1]using hS
  obtain⟨nul,rows,hc,hx⟩:=al.ex;obtain⟨d1,d2,nx,bt,rws,d3,d4⟩:=kM (m:=m1) (t:=10+inf.size) (op:=(dR inf.size (hole c (10+inf.size)) bh).1) (xs:=(dR inf.size (hole c (10+inf.size)) bh).2) (lg:=lg1) (by simpa using bp) (by rw[g8,bm];exact .refl _);rw[d.ev c nul rows hc]at d1;obtain⟨av,ai⟩:=NC ⟨nx,bt,rws,d1.symm.trans d3⟩;rw[ai]at d1;have bk:∀ b ∈ g0,∀ l,ρ b=some l->Sub l.G lg.G:=fun b X l hl=>e6 b (B7.2 (.inl X)) l hl
  have bq:∀ b ∈ gs,∀ l,ρ b=some l->Sub l.G lg.G:=fun b X l hl=>e6 b (B7.2 (.inr X)) l hl
  have ao:=d.rows lg.G bq;have D:∀ {v':Value} {ρ2:Ren} {w2:World},(Builtin.append_ #[t,t2] ty #[x',y']).run P w=.ok v' w2->VR ρ2 v v'->St P base M ρ2 (m1.wLg lg1) m' w w2->VOk P base ρ m w (Builtin.append_ #[t,t2] ty #[x',y']) v m':=fun hr hv hs =>
   ⟨_,_,_,hr,hv,St.trans hf q hs⟩
  have bu:∀ w,(zeroValue e).run P w=.ok z w:=fun w=>aR hz w
  have aw:∀ {j l},ρ j=some l->Hp.get (m1.wLg lg1).H j=Hp.get m.H j:=fun bo=>by rw[lC];exact uD h hj ak bo
  have L:(3*(rows.length+rows2.length)+4000)*inf.bytes<=281474976710656:=by
   have h1:3*(rows.length+rows2.length)+4000<=3000004000:=by unfold uV at av;omega
   have h2:=fO h1 bs;omega
  have W:rows.length+rows2.length<=1000000000:=av;rcases hx with⟨rfl,rfl,rfl,hold⟩|⟨rfl,b,ab,l,cap,C,fz,rfl,aj,bj,S,ae,bx,rfl,J,au,V,R,bw⟩
  ·
   have Q:∀ b,old=some b->∃ ab l,b<=I2/\Hp.get (m1.wLg lg1).H b=some ab/\ab.rw=true/\M b=some l/\l.on=false:=fun b X=>by
    obtain⟨ab,l,I,N,q3,q4,q5⟩:=hold b X;exact⟨ab,l,I,by rw[aw q4];exact N,q3,e1.ext _ _ q4,q5⟩
   cases f:rows2 with
   | nil =>
     subst f;have B:Ora.env m1.lg.nx=.seq true inf.size []:=d1;obtain⟨ρ2,I,N⟩:=DL q.hr Q E F B rfl hi rfl;have an:new'=[]:=G4.1 (by rw[d.size];simp);exact D (vG hu T Y hi (fun wd=>d.len wd) (by have:=d.first w rfl;rw[an]at this;exact this)) I N
   | cons r0 rr =>
     rw[f]at d1;have B:Ora.env m1.lg.nx=.seq false inf.size rows2:=by rw[f];exact d1
     obtain⟨nc,ay,p⟩:=iE (P:=P) (w:=w) (ty:=ty) (a:=none) (n:=0) (c:=0) (k:=rows2.length) (old':=[]) (new':=new') (x':=y') hu T Y hi bu (fun wd=>d.len wd) (fun _ _=>rfl) (fun wd hw=>d.first wd hw) (by rw[f];simp) (by simpa using L) (by simpa using W);obtain⟨m2,bl,az⟩:∃ m2,bQ m2 m1.lg.nx (10+inf.size) e g=some (v,m')/\St P base M M (m1.wLg lg1) m2 w w:=by
      cases old with
      | none=>exact⟨_,E,St.refl q.hr⟩
      | some b =>
        obtain⟨ab,l,I,N,q3,q4,q5⟩:=Q b rfl;exact⟨_,E,St.kill q.hr I N q3⟩
     obtain⟨ρ2,I,N⟩:=cV (w':={ w.drew with heap:=w.heap.push (.cells (({ toList:=[] }:Array Value)++⟨new'⟩++Builtin.zeroCells z.cells (nc-(0+rows2.length))) e (0,0)) }) (cap:=nc) az.hr hb bl (F.step az) B rfl hi rfl A2
      (by have:=eI (s:=inf.size) (k:=rows2.length) (n:=0) (nc:=nc) (z:=z) (old':=[]) d.size ay aa (by simp);exact this)
      (ao.move (C':=({ toList:=[] }:Array Value)++⟨new'⟩++Builtin.zeroCells z.cells (nc-(0+rows2.length))) (o':=0) fun i hi'=>by
        have af:i<new'.length:=by rw[d.size];exact hi'
        rw[F5 i];rw[MF (A5 af)];simp[af]) (az.ext _ _ e4) (fun i _ hh=>by have h1:0<=i:=hh.1;have h2:i<0:=hh.2;omega) ⟨rfl,rfl,rfl⟩ rfl
     exact D p (by rw[F5];exact I) (St.trans F az N)
  ·
   have aq:Hp.get (m1.wLg lg1).H b=some ab:=by rw[aw ae];exact bj
   have A:=bw lg.G bk;have ar:=e1.ext _ _ ae;cases f:rows2 with
   | nil =>
     subst f;have B:Ora.env m1.lg.nx=.seq false inf.size rows:=d1;have an:new'=[]:=G4.1 (by rw[d.size];simp);obtain⟨ρ2,I,N⟩:=oZ (w':=w) (cap:=cap) (sh:=l.sh) q.hr aj aq S ar bx E F B rfl hi rfl au V A e4 R ⟨rfl,rfl,rfl⟩ rfl (fun _ _=>rfl) J;have p:=nM (P:=P) (w:=w) (w':=w) (ty:=ty) (a:=⟨l.blk,l.sh,none⟩) (n:=rows.length) (k:=0) (c:=cap) (new':=new') hu T Y hi (fun wd=>d.len wd) (d.first w rfl) A2 (by rw[an];rfl);exact D p I N
   | cons r0 rr =>
     have B:Ora.env m1.lg.nx=.seq false inf.size (rows++rows2):=by rw[f]at d1 ⊢;exact d1
     by_cases K:rows.length+rows2.length<=cap
     .have ax:(rows.length+rows2.length)*inf.size<=cap*inf.size:=F9 _ K;rw[I1]at ax;obtain⟨w',r1,r2,r3,r4,r5⟩:=Z2 (P:=P) (b:=l.blk) (o:=rows.length*inf.size+l.sh) (fz:=fz) new' 0 C w J d.flat (by rw[d.size];omega) R;have ad:(Addr.mk l.blk l.sh none).add (rows.length*inf.size)=⟨l.blk,rows.length*inf.size+l.sh,none⟩:=by
       unfold Addr.add;split
       .rename_i h0;rw[h0];simp
       .simp[kA]
      have p:=nM (P:=P) (w:=w) (w':=w') (ty:=ty) (a:=⟨l.blk,l.sh,none⟩) (n:=rows.length) (k:=rows2.length) (c:=cap) (new':=new') hu T Y hi (fun wd=>d.len wd) (d.first w rfl) K (by rw[ad];exact r1);have Z:(Array.mk (cT C.toList (rows.length*inf.size+l.sh+0) new')).size=C.size:=by simp[Z3]
      have ah:∀ j,(Array.mk (cT C.toList (rows.length*inf.size+l.sh+0) new'))[j]? = if rows.length*inf.size+l.sh<=j/\j<rows.length*inf.size+l.sh+new'.length then new'[j-(rows.length*inf.size+l.sh)]? else C[j]? := fun j=>by
       rw[J0,lP _ _ _ _ (by simp;rw[d.size];omega)];simp
      obtain⟨ρ2,I,N⟩:=oZ (w':=w') (cap:=cap) (sh:=l.sh) (C:=⟨cT C.toList (rows.length*inf.size+l.sh+0) new'⟩) q.hr aj aq S ar bx E F B rfl hi rfl (by simpa using K) (by rw[Z];exact V)
       (P0.append (A.move (o':=l.sh) fun i hi'=>by rw[ah,A8 A2]) (ao.move (o':=l.sh+rows.length*inf.size) fun i hi'=>by
         rw[ah,B0 (by rw[d.size];omega),show l.sh+rows.length*inf.size+i-(rows.length*inf.size+l.sh)=i by omega,F5];simp)) e4 (by rw[Z];exact R) r2 r3 r5 r4
      rw[D4]at I;exact D p I N
     .have hold:∃ old',old'.length=rows.length*inf.size/\(∀ i,i<rows.length*inf.size->old'[i]? = C[l.sh+i]?)/\∀ wd:World,wd.heap=w.heap->(Builtin.firstCells inf.size rows.length (.slice (some ⟨l.blk,l.sh,none⟩) rows.length cap)).run P wd=.ok ⟨old'⟩ wd:=by
       have ax:rows.length*inf.size<=cap*inf.size:=F9 _ au;have hlen:((C.toList.drop l.sh).take (rows.length*inf.size)).length=rows.length*inf.size:=by simp;omega
       refine⟨(C.toList.drop l.sh).take (rows.length*inf.size),hlen,fun i hi'=>?_,fun wd hw=>?_⟩
       .rw[E8 hi',I4];simp
       .rw[show Builtin.firstCells inf.size rows.length (.slice (some ⟨l.blk,l.sh,none⟩) rows.length cap)=loadCells ⟨l.blk,l.sh,none⟩ (rows.length*inf.size)from rfl];refine K6 hlen fun j v' hj=>?_
        have bz:=(B3.1 hj).1;rw[hlen]at bz;rw[E8 bz,I4]at hj;rw[cC hw];have br:C[l.sh+j]? = some v':=by simpa using hj
        simp[World.cell?,J,br]
      obtain⟨old',o1,o2,o3⟩:=hold;obtain⟨nc,ay,p⟩:=iE (P:=P) (w:=w) (ty:=ty) (a:=some ⟨l.blk,l.sh,none⟩) (n:=rows.length) (c:=cap) (k:=rows2.length) (old':=old') (new':=new') (x':=y') hu T Y hi bu (fun wd=>d.len wd) o3 (fun wd hw=>d.first wd hw) K L W;have r:=St.kill q.hr aj aq S;obtain⟨ρ2,I,N⟩:=cV (w':={ w.drew with heap:=w.heap.push (.cells (({ toList:=old' }:Array Value)++⟨new'⟩++Builtin.zeroCells z.cells (nc-(rows.length+rows2.length))) e (0,0)) }) (cap:=nc) r.hr hb E (F.step r) B rfl hi rfl (by simpa using ay)
       (eI d.size ay aa o1)
       (P0.append (A.move (C':=({ toList:=old' }:Array Value)++⟨new'⟩++Builtin.zeroCells z.cells (nc-(rows.length+rows2.length))) (o':=0) fun i hi'=>by
         have O:i<old'.length:=by rw[o1];exact hi'
         rw[F5 i,<- o2 i hi',eJ (u:=old'[i]) (by rw[F2 O,A5 O]),A5 O]) (ao.move (o':=0+rows.length*inf.size) fun i hi'=>by
         have O:i<new'.length:=by rw[d.size];exact hi'
         rw[F5 (rows.length*inf.size),F5 i,eJ (u:=new'[i]) (by rw[E1 (by rw[o1];omega),o1,W5,A5 O])];simp[O])) (r.ext _ _ e4) (fun i _ hh=>by have h1:0<=i:=hh.1;have h2:i<0:=hh.2;omega) ⟨rfl,rfl,rfl⟩ rfl
      rw[D4]at I;exact D p I (St.trans F r N)
 .cases E
end
end
section
open Go
variable [Ora]
section
variable {P:Program} {base:Nat} {ρ ρ':Ren} {m m':Mem} {w w':World}
def A4T{a:Addr} 
  (hu:P.underlying t=some (.slice e)) (W:P.underlying t2=some d2) (ay:dJ d2=true) (hi:P.info? e=some inf) (hz:fX P e=some z) (Y:z.cells.size=inf.size) (R:inf.bytes<=90000)
  (h:HR P base ρ m.H w) (hb:base<=w.heap.size) (q:KS m e inf.size c none bh (b::gs)=some (v,m')) (hf:K4 ρ m.n m'.hi) (hS:Sat m'.lg)
  (hc:Ora.env c=.seq false inf.size rows) (hl:ρ b=some l) (B:Enc l.G (Ora.env c) (.slice (some a) rows.length rows.length)) (d:XZ P ρ w inf.size bh gs y' rows2 new') (p:rows2≠[]) :
  VOk P base ρ m w (Builtin.append_ #[t,t2] ty #[.slice (some a) rows.length rows.length,y']) v m':=by
 unfold KS at q;split at q
 .rename_i g m1 O;rw[O0]at q;have az:=N4 O;generalize ax:fT m1 (10+inf.size) (dR inf.size (hole c (10+inf.size)) bh).1 (dR inf.size (hole c (10+inf.size)) bh).2=lg1 at q;have q:bQ (m1.wLg lg1) m1.lg.nx (10+inf.size) e g=some (v,m'):=q;have J:m'.lg=lg1/\m1.hi<=m'.hi/\m1.n<=m'.n:=by
   unfold bQ at q;obtain⟨_,_,rfl⟩:=M0 q;exact⟨by simp,by simpa using(L3 m1.hi m1.n).1,by simp⟩
  have K:K4 ρ m.n m1.hi:=hf.less J.2.1;obtain⟨L,lg,N,e2,e3,e4,e5,e6⟩:=fC h O K;have C:St P base ρ L m (m1.wLg lg1) w w:=St.trans (by simpa using K) N (St.wLg N.hr lg1);have aw:K4 L (m1.wLg lg1).n m'.hi:=by simpa using hf.step N
  have X:Sat (m1.wLg lg1).lg:=by simpa [<- J.1]using hS
  obtain⟨d1,d2,nx,Q,rws,d3,d4⟩:=kM (m:=m1) (t:=10+inf.size) (op:=(dR inf.size (hole c (10+inf.size)) bh).1) (xs:=(dR inf.size (hole c (10+inf.size)) bh).2) (lg:=lg1) (by simpa using X) (by rw[g8,ax];exact .refl _);rw[d.ev c false rows hc]at d1;obtain⟨A,E⟩:=NC ⟨nx,Q,rws,d1.symm.trans d3⟩;rw[E]at d1;have av:Sub l.G lg.G:=e6 b (.head _) l hl;have V:∀ b ∈ gs,∀ l,ρ b=some l->Sub l.G lg.G:=fun b Z l hl=>e6 b (.tail _ Z) l hl
  have S:=d.rows lg.G V;have au:∀ w,(zeroValue e).run P w=.ok z w:=fun w=>aR hz w
  have r:(3*(rows.length+rows2.length)+4000)*inf.bytes<=281474976710656:=by
   have h1:3*(rows.length+rows2.length)+4000<=3000004000:=by unfold uV at A;omega
   have h2:=fO h1 R;omega
  have D:rows.length+rows2.length<=1000000000:=A;have ar:0<rows2.length:=dU.2 p;have T:Ora.env m1.lg.nx=.seq false inf.size (rows++rows2):=by
   cases rows2 with
   | nil=>exact absurd rfl p
   | cons r0 rr=>exact d1
  rw[hc]at B;obtain⟨_,old',I,o2,o3,o4⟩:=uQ (w:=w) (B.mono av) ((N.hr.atl e4 e5).1.2);have o5:∀ wd:World,wd.heap=w.heap->(Builtin.firstCells inf.size rows.length (.slice (some a) rows.length rows.length)).run P wd=.ok ⟨old'⟩ wd:=fun wd hw=>by
   rw[show Builtin.firstCells inf.size rows.length (.slice (some a) rows.length rows.length)=loadCells a (rows.length*inf.size)from rfl];exact lZ I fun j v' O=>by rw[cC hw];exact o4 j v' O
  obtain⟨nc,M,F⟩:=iE (P:=P) (w:=w) (ty:=ty) (a:=some a) (n:=rows.length) (c:=rows.length) (k:=rows2.length) (old':=old') (new':=new') (x':=y') hu W ay hi au (fun wd=>d.len wd) o5 (fun wd hw=>d.first wd hw) A2 r D;obtain⟨ρ2,q1,q2⟩:=cV (w':={ w.drew with heap:=w.heap.push (.cells (({ toList:=old' }:Array Value)++⟨new'⟩++Builtin.zeroCells z.cells (nc-(rows.length+rows2.length))) e (0,0)) }) (cap:=nc) C.hr hb q aw T rfl hi rfl (by simpa using M)
   (eI d.size M Y I)
   (P0.append (o3.move (C':=({ toList:=old' }:Array Value)++⟨new'⟩++Builtin.zeroCells z.cells (nc-(rows.length+rows2.length))) (o':=0) fun i hi'=>by
     have f:i<old'.length:=by rw[I];exact hi'
     rw[F5 i,eJ (u:=old'[i]) (by rw[F2 f,A5 f])];simp[f]) (S.move (o':=0+rows.length*inf.size) fun i hi'=>by
     have f:i<new'.length:=by rw[d.size];exact hi'
     rw[F5 (rows.length*inf.size),F5 i,eJ (u:=new'[i]) (by rw[E1 (by rw[I];omega),I,W5,A5 f])];simp[f])) e4 (fun i _ hh=>by have h1:0<=i:=hh.1;have h2:i<0:=hh.2;omega) ⟨rfl,rfl,rfl⟩ rfl
  rw[D4]at q1;exact⟨_,_,_,F,q1,St.trans hf C q2⟩
 .cases q
def XV(d:BI P td)(a:A3S td P m e wd y=some (bh,gs,sure,m')):m.hi<=m'.hi/\m.lg.le m'.lg/\m.n<=m'.n:=by
 unfold A3S at a;split at a
 .cases a;exact⟨A6 _,.refl _,A6 _⟩
 .split at a
  .split at a
   .rename_i f;cases a;exact S6 d f
   .cases a
  .cases a
 .split at a
  .rename_i f;cases a;exact d.mono f
  .cases a
 .obtain⟨h1,a⟩:=A3 a;cases a;exact⟨A6 _,.refl _,A6 _⟩
def jT(d:BI P td){old:Option Nat}(a:EY td P m e wd x=some (c,gs,old,m')):m.hi<=m'.hi/\m.lg.le m'.lg/\m.n<=m'.n:=by
 unfold EY at a;split at a
 .rw[O0]at a;simp only[hole]at a;cases a;exact⟨by simp,W1,by simp⟩
 .split at a
  .obtain⟨h1,a⟩:=A3 a;cases a;exact⟨A6 _,.refl _,A6 _⟩
  .cases a
 .split at a
  .obtain⟨h1,a⟩:=A3 a;split at a
   .rename_i f;split at a
    .obtain⟨h1,a⟩:=A3 a;rw[O0]at a;simp only[hole]at a;cases a
     have:=S6 d f;exact⟨by simpa using this.1,this.2.1.trans W1,by simpa using this.2.2⟩
    .cases a
   .cases a
  .cases a
 .cases a
def s8{t:Nat}{T:TypeId}(h:bQ m c t T g=some (v,m')):m.hi<=m'.hi/\m'.lg=m.lg/\m.n<=m'.n:=by
 unfold bQ at h;obtain⟨_,_,rfl⟩:=M0 h;exact⟨(L3 _ _).1,rfl,X3 _⟩
def bZ(old:Option Nat)(m:Mem):(kH old m).hi=m.hi/\(kH old m).lg=m.lg/\(kH old m).n=m.n:=by
 cases old with
 | none=>exact⟨rfl,rfl,rfl⟩
 | some b=>simp[kH,l7]
def nO{old:Option Nat}(d:KS m e wd c old bh gs=some (v,m')):m.hi<=m'.hi/\m.lg.le m'.lg/\m.n<=m'.n:=by
 unfold KS at d;split at d
 .rename_i g m1 r;rw[O0]at d;have a:=N4 r;have b:=s8 d;obtain⟨p,q,f⟩:=bZ old (m1.wLg (fT m1 (10+wd) (dR wd (hole c (10+wd)) bh).1 (dR wd (hole c (10+wd)) bh).2));refine⟨?_,?_,?_⟩
  .have:=b.1;rw[p]at this;simp at this;omega
  .rw[b.2.1,q,<- a.2.1];exact W1
  .have:=b.2.2;rw[f]at this;simp at this;omega
 .cases d
def PK{t:Nat}{T:TypeId}{old:Option Nat}(h:HR P base ρ m.H w)(hold:∀ b,old=some b->b<=I2/\Hp.get m.H b≠some .frz)(f:bQ (kH old m) c t T g=some (v,m'))(r:K4 ρ m.n m'.hi):n8 ρ m m':=fun j l h1 a=>by
 have p:=bZ old m;unfold bQ at f;rw[lS f (h.dom j l h1),A8]
 .cases old with
  | none=>exact a
  | some b =>
    show Hp.get (kJ m b).H j=_;rw[l7];show Hp.get (m.H.set b none) j=_;obtain⟨q,d⟩:=hold b rfl;rw[F1 _ _ _ _ q (h.dom j l h1),A8]
    .exact a
    .intro e;subst e;exact d a
 .intro e;obtain⟨_,_,rfl⟩:=M0 f;rw[p.2.2]at e;subst e;rw[r m.n (A6 _) (Nat.lt_of_le_of_lt (Nat.le_of_eq p.2.2.symm) (L3 (kH old m).hi (kH old m).n).2)]at h1;cases h1
omit [Ora] in
def OT(h:P.info? e=some inf):H4 P e=some inf.size:=by unfold H4;rw[h]
def DI(f:BI P td)(d:WU td P m e wd x=some (v,m')):m.hi<=m'.hi/\m.lg.le m'.lg/\m.n<=m'.n:=by
 unfold WU at d;split at d
 .obtain⟨_,d⟩:=A3 d;split at d
  .rename_i p;have a:=jT f p;split at d
   .rename_i q;have b:=N4 q;have c:=s8 d;refine⟨?_,?_,?_⟩
    .have:=c.1;rw[(bZ _ _).1]at this;omega
    .rw[c.2.1,(bZ _ _).2.1,b.2.1];exact a.2.1
    .have:=c.2.2;rw[(bZ _ _).2.2]at this;omega
   .cases d
  .cases d
 .cases d
def SY(R:BI P td)(h:HR P base ρ m.H w)(d:WU td P m e wd x=some (v,m'))(Z:K4 ρ m.n m'.hi)(hx:VR ρ x x')(hS:Sat m'.lg) :
  ∃ ρ',VR ρ' v x'/\St P base ρ ρ' m m' w w/\m.lg.le m'.lg/\n8 ρ m m':=by
 unfold WU at d;split at d
 .rename_i inf hi;obtain⟨h1,d⟩:=A3 d;obtain⟨h1,h2⟩:=B6 h1;have h1:=A0 h1;have h2:0<wd:=A1 h2;split at d
  .rename_i c gs old m1 N;have a:=jT R N;split at d
   .rename_i g m2 hj;have b:=N4 hj;have cm:=s8 d;have k1:=bZ old m2;have T:m'.lg=m1.lg:=by rw[cm.2.1,k1.2.1,b.2.1]
    have I:m2.hi<=m'.hi:=by have:=cm.1;rw[k1.1]at this;exact this
    obtain⟨V,E,e2,e3,e4⟩:=NO R h N (Z.less (C6 b.1 I)) hx (by rw[<- T];exact hS) h2 (h1▸OT hi);have r:K4 V m1.n m'.hi:=Z.step E;obtain⟨ρ2,lg,u,j2,j3,j4,j5,j6⟩:=fC E.hr hj (r.less I);have J:K4 ρ2 m2.n m'.hi:=r.step u;obtain⟨nul,rows,hc,az⟩:=e4.ex;have A:∀ {j l},V j=some l->Hp.get m2.H j=Hp.get m1.H j:=fun ay=>uD E.hr hj (r.less I) ay
    have hle:m.lg.le m'.lg:=by rw[T];exact a.2.1
    have p:(∀ b,old=some b->b<=I2/\Hp.get m2.H b≠some .frz)->n8 ρ m m':=fun hq=>(e3.trans E.ext j3).trans (fun b l N=>u.ext b l (E.ext b l N)) (PK u.hr hq d J)
    rcases az with⟨rfl,rfl,rfl,hold⟩|⟨rfl,b0,ab,l,cap,C,fz,rfl,Y,aw,B,S,ax,rfl,L,X,F,Q,W⟩
    .have f:∀ b,old=some b->∃ ab l,b<=I2/\Hp.get m2.H b=some ab/\ab.rw=true/\ρ2 b=some l/\l.on=false:=fun b q=>by
      obtain⟨ab,l,K,M,q3,q4,q5⟩:=hold b q;exact⟨ab,l,K,by rw[A q4];exact M,q3,u.ext _ _ q4,q5⟩
     obtain⟨D,K,M⟩:=DL u.hr f d J hc rfl hi h1;exact⟨D,K,St.trans Z E (St.trans r u M),hle,p fun b q=>by
      obtain⟨ab,l,K,M,q3,_⟩:=f b q;exact⟨K,fun he=>by rw[M]at he;cases he;cases q3⟩⟩
    .have O:Hp.get m2.H b0=some ab:=by rw[A S];exact aw
     obtain⟨D,K,M⟩:=oZ (w':=w) (cap:=cap) (sh:=l.sh) u.hr Y O B (u.ext _ _ S) ax d J hc rfl hi h1 X F (W lg.G fun b N l hl=>j6 b N l hl) j4 Q ⟨rfl,rfl,rfl⟩ rfl (fun _ _=>rfl) L;exact⟨D,K,St.trans Z E (St.trans r u M),hle,p fun b q=>by
      cases q;exact⟨Y,fun he=>by rw[O]at he;cases he;cases B⟩⟩
   .cases d
  .cases d
 .cases d
def RV:∀ (d:Nat),BI P (YM P d)
 | 0=>YN
 | d+1=>by
   have u:=RV d;refine⟨fun{base ρ m m' w t v v' x b} h f p hv q=>?_,fun{m m' t v x b} f=>?_⟩
   .unfold YM at f;split at f
    .split at f
     .split at f
      .rename_i C m1 r;have a:=hZ f;obtain⟨E,D,n,A,B⟩:=SY u h r (p.less a.1) hv (q.le a.2.1);obtain⟨ρ2,l,d1,d2,d3,d4,d5,d6⟩:=FO n.hr f (p.step n) D q;exact⟨ρ2,l,St.trans p n d1,d2,d3,d4,d5,A.trans d6,B.trans n.ext (JH n.hr f (p.step n))⟩
      .cases f
     .cases f
    .exact YN.ok h f p hv q
   .unfold YM at f;split at f
    .split at f
     .split at f
      .rename_i C m1 r;have a:=DI u r;have b:=hZ f;exact⟨C6 a.1 b.1,a.2.1.trans b.2.1,C6 a.2.2 b.2.2⟩
      .cases f
     .cases f
    .exact hZ f
def V4:BI P (tdP P):=RV 3
def IL(d:tK P m t t2 x y=some (v,m')):m.hi<=m'.hi/\m.lg.le m'.lg/\m.n<=m'.n:=by
 unfold tK at d;split at d
 .rename_i e d2 hu r;cases f:dJ d2 with
  | false=>rw[f]at d;cases d
  | true =>
    rw[f]at d;simp only[Q8,E0]at d;split at d
    .obtain⟨_,d⟩:=A3 d;split at d
     .rename_i p;have a:=XV V4 p;split at d
      .rename_i q;have b:=jT V4 q;have c:=nO d;exact⟨A2,a.2.1.trans (b.2.1.trans c.2.1),A2⟩
      .split at d
       .obtain⟨_,d⟩:=A3 d;have c:=nO d;exact⟨A2,a.2.1.trans c.2.1,A2⟩
       .cases d
     .cases d
    .cases d
 .cases d
def XZ.step(h:XZ P ρ w wd bh gs y' rows2 new')(f:∀ b ∈ gs,∃ l,ρ b=some l)(he:∀ b l,ρ b=some l->ρ' b=some l):XZ P ρ' w wd bh gs y' rows2 new' :=
 ⟨h.len,h.first,h.size,h.flat,fun R hR=>h.rows R fun b a l d=>hR b a l (he b l d),h.ev⟩
def YB{n:Nat}(h:YC P e n=true):∃ z,fX P e=some z/\z.cells.size=n:=by
 unfold YC at h;split at h
 .rename_i z a;exact⟨z,a,A0 h⟩
 .cases h
def RL(h:HR P base ρ m.H w)(Q:base<=w.heap.size)(p:tK P m t t2 x y=some (v,m'))(C:K4 ρ m.n m'.hi)(hx:VR ρ x x')(hy:VR ρ y y')(M:Sat m'.lg) :
  VOk P base ρ m w (Builtin.append_ #[t,t2] ty #[x',y']) v m':=by
 unfold tK at p;split at p
 .rename_i e d2 hu I;cases r:dJ d2 with
  | false=>rw[r]at p;cases p
  | true =>
    rw[r]at p;simp only[Q8,E0]at p;split at p
    .rename_i inf hi;obtain⟨hq,d⟩:=A3 p;clear p;obtain⟨Z,av⟩:=B6 hq;obtain⟨az,ay⟩:=B6 Z;have F:=A1 az;have E:0<inf.size:=A1 ay;obtain⟨z,hz,J⟩:=YB av;have L:H4 P e=some inf.size:=by unfold H4;rw[hi]
     split at d
     .rename_i bh gs sure m1 B;split at d
      .rename_i c g0 old m2 S;have mb:=jT V4 S;have mp:=nO d;have K:K4 ρ m.n m1.hi:=C.less A2;obtain⟨A,rows2,new',q,a2,a3,a4,a5,a6⟩:=VL V4 h B K hy (M.le (mb.2.1.trans mp.2.1)) E L;have u:K4 A m1.n m'.hi:=C.step q;obtain⟨ρ2,W,b2,b3,b4⟩:=NO V4 q.hr S (u.less mp.1) (hx.mono q.ext) (M.le mp.2.1) E L;obtain⟨v',f,w3,V,O,N⟩:=ST (ty:=ty) hu I r hi hz J F W.hr Q d (u.step W) M b4 (a5.step (fun b aw=>(a4 b aw).2) W.ext);exact⟨v',f,w3,V,O,St.trans C (St.trans (C.less mp.1) q W) N⟩
      .split at d
       .rename_i b c tg au;obtain⟨R,D⟩:=A3 d;clear d;have R:=A0 R;have mp:=nO D;have K:K4 ρ m.n m1.hi:=C.less A2;obtain⟨A,rows2,new',q,a2,a3,a4,a5,a6⟩:=VL V4 h B K hy (M.le mp.2.1) E L;have u:K4 A m1.n m'.hi:=C.step q;obtain⟨l,d1,d2,d3,d4,d5⟩:=gG hx;obtain⟨nul,Y,rows,X,q2⟩:=gL d2 d3 d4;have ax:Y=inf.size:=A2;subst ax;rw[X]at d2;rcases y0 d2 with⟨rfl,rfl,rfl⟩|⟨rfl,a,cap,rfl,hc⟩
        .have G:A3w P base A m1 w e inf.size c [b] none (.slice none 0 0):=⟨true,[],X,.inl ⟨rfl,rfl,rfl,fun b Q=>by cases Q⟩⟩;obtain⟨v',f,w3,V,O,N⟩:=ST (ty:=ty) (g0:=[b]) (gs:=gs) hu I r hi hz J F q.hr Q D u M G a5;exact⟨v',f,w3,V,O,St.trans C q N⟩
        .have T:cap=rows.length:=d5;subst T;obtain⟨v',f,w3,V,O,N⟩:=A4T (ty:=ty) hu I r hi hz J F q.hr Q D u M X (q.ext _ _ d1) (by rw[X];exact d2) a5 (a6 rfl);exact⟨v',f,w3,V,O,St.trans C q N⟩
       .cases d
     .cases d
    .cases p
 .cases p
end
end
section
open Go
variable [Ora]
section
variable {P:Program} {base:Nat} {ρ ρ':Ren} {m m':Mem} {w w':World}
def KM(h:o+us.length<=row.length):(yV row o us).length=row.length:=by
 unfold yV;simp;omega
def A0i(h:o+us.length<=row.length):(yV row o us)[j]? = if o<=j/\j<o+us.length then us[j-o]? else row[j]? := by
 unfold yV;have a:(row.take o).length=o:=by simp;omega
 by_cases h1:j<o
 .rw[A8 A2,N1,F2 A2,E8 h1]
 .by_cases d:j<o+us.length
  .rw[B0 ⟨A2,d⟩,N1,E1 A2,a,F2 A2]
  .rw[A8 A2,E1 (by simp;omega),I4];congr 1
   simp;omega
def P0.set{R:Nat->Option Obj}{s:Nat}{C C':W4}(h:P0 R rows wd C s)(D:k<rows.length)(I:o+us.length<=wd)(he:Z0 R us vs)
  (hC:∀ j,C'[j]? = if s+k*wd+o<=j/\j<s+k*wd+o+vs.length then vs[j-(s+k*wd+o)]? else C[j]?):P0 R (rows.set k (yV (rows.getD k []) o us)) wd C' s:=by
 have a:rows[k]? = some rows[k]:=A5 D;have B:rows.getD k []=rows[k]:=by rw[B2,a];rfl
 have p:rows[k].length=wd:=h.1 _ (N9 D);rw[B];refine⟨fun row hr=>?_,fun r row j u v d a2 a3=>?_⟩
 .rcases fU hr with h1|rfl
  .exact h.1 row h1
  .rw[KM A2];exact p
 .rw[hC]at a3;by_cases n:k=r
  .subst n;rw[S3 D]at d;have d:=A9 d;subst d;have A:=(B3.1 a2).1;rw[KM A2,p]at A;rw[A0i A2]at a2;by_cases f:o<=j/\j<o+us.length
   .rw[B0 f]at a2;rw[B0 (by rw[<- he.1];omega)]at a3;exact he.2 (j-o) u v a2 (by rw[<- a3];congr 1;omega)
   .rw[A8 f]at a2;rw[A8 (by rw[<- he.1];omega)]at a3;exact h.2 k _ j u v a a2 a3
  .rw[dF n]at d;have A:=(B3.1 a2).1;rw[h.1 _ (D0 d)]at A;have F:=(B3.1 d).1;have H:=he.1;rw[A8]at a3
   .exact h.2 r row j u v d a2 a3
   .rcases G1 r k with E|G
    .have q:(r+1)*wd<=k*wd:=F9 wd E;rw[I1]at q;omega
    .have q:(k+1)*wd<=r*wd:=F9 wd A2;rw[I1]at q;omega
def VZ(h:HR P base ρ m.H w)(f:yA P m t x y=some (v,m'))(hf:K4 ρ m.n m'.hi)(hx:VR ρ x x')(hy:VR ρ y y')(hS:Sat m'.lg):UOk P base ρ m w (Instr.storeAt t x' y') m'/\v=undef/\m.lg.le m'.lg:=by
 unfold yA at f;split at f
 .rename_i b i tg z o ts ar;cases A:jM y with
  | true=>rw[A]at f;cases f
  | false =>
  rw[A]at f;simp only[E0]at f;split at f
  .rename_i xs gs m1 hd;split at f
   .rename_i c tc T g hg;obtain⟨R,p⟩:=A3 f;clear f;have R:=A0 R;split at p
    .rename_i g2 m2 hj;rw[O0]at p;simp only[hole]at p;obtain⟨hs,rfl⟩:=nT p;obtain⟨ai,Q⟩:=U9 hs;have md:=S6 V4 hd;have mj:=N4 hj;have ag:m2.hi=m'.hi:=by rw[Q];simp
     have X:m'.lg=fT m2 tg (.set (tg-10) o) (hole c tg::z::xs):=by rw[Q];simp[hole]
     have W:m2.lg.le m'.lg:=by rw[X];exact⟨[_],rfl⟩
     have an:K4 ρ m.n m1.hi:=hf.less A2;have Z:m1.lg.le m'.lg:=by rw[<- mj.2.1];exact W
     obtain⟨ax,K,e2,e3,e4,e5,e6⟩:=iU V4 h hd an (hy.cells A) (hS.le Z);have Y:K4 ax m1.n m2.hi:=(hf.step K).less A2;obtain⟨ρ2,lg,d1,d2,d3,d4,d5,d6⟩:=fC K.hr hj Y;obtain⟨⟨l,wd,kE,k,a1,a2,a3,a4,a5,a6,rfl⟩,a8⟩:=xF hx;have E:=K.ext _ _ a1;obtain⟨a,inf,q1,q2,q3,J⟩:=SqR.ex (K.hr.atl E hg).1;rcases J with⟨J,_⟩|⟨_,J⟩
     .rw[a2]at J;cases J
     obtain⟨C,fz,T',rows,ay,f1,f2,f3,f4,f5,f6,f7,f8,f9⟩:=J;have av:a=wd:=by
      have:tg=10+wd:=by rw[<- a8,a3];rfl
      omega
     subst av;obtain⟨rfl,f10⟩:=f9 rfl;have aq:tg=10+a:=A2;have aj:Sat (m2.wLg (fT m2 tg (.set (tg-10) o) (hole c tg::z::xs))).lg:=by rw[g8,<- X];exact hS
     obtain⟨r1,r2,nul,af,rws,r3,r4⟩:=kM aj (.refl _);obtain⟨kk,hz⟩:=IK a4;have B:(hole c tg::z::xs).map (D9 Ora.env)=.seq false a rows::.int kk (.ofNat k)::xs.map (D9 Ora.env):=by
      show Ora.env c::D9 Ora.env z::xs.map (D9 Ora.env)=_;rw[f2,hz]
     rw[B,show tg-10=a by omega]at r1;have r1:Ora.env m2.lg.nx=if a=a/\k<rows.length/\o+(xs.map (D9 Ora.env)).length<=a then .seq false a (rows.set k (yV (rows.getD k []) o (xs.map (D9 Ora.env))))else .none:=r1
     by_cases hc:a=a/\k<rows.length/\o+(xs.map (D9 Ora.env)).length<=a
     .rw[B0 hc]at r1;obtain⟨_,V,N⟩:=hc;have hR:∀ b' ∈ gs,∀ l',ax b'=some l'->Sub l'.G lg.G:=fun b' ao l' ak=>d6 b' (.tail _ ao) l' ak
      have d:=e6 lg.G hR;have I:Sub ay.G lg.G:=d6 g (.head _) ay f7;have F:y'.cells.toList.length=(xs.map (D9 Ora.env)).length:=d.1.symm;have aw:(k+1)*a<=l.cap*a:=F9 a A2;rw[I1]at aw;obtain⟨w',g1,al,g3,g4,g5⟩:=Z2 (P:=P) (b:=l.blk) (o:=l.sh+k*a+o) (fz:=fz) y'.cells.toList 0 C w f1 (EF d) (by rw[F];omega) f10;have ah:C.toList.length=C.size:=S0;have q:(Array.mk (cT C.toList (l.sh+k*a+o+0) y'.cells.toList)).size=C.size:=by simp[Z3]
      have O:∀ j,(Array.mk (cT C.toList (l.sh+k*a+o+0) y'.cells.toList))[j]? = if l.sh+k*a+o<=j/\j<l.sh+k*a+o+y'.cells.toList.length then y'.cells.toList[j-(l.sh+k*a+o)]? else C[j]? := fun j=>by
       rw[J0,lP _ _ _ _ (by rw[F];omega)];simp
      have r:P0 lg.G rows a C l.sh:=P0.mono ⟨f6,f8⟩ I;have u:St P base ρ ρ2 m (m2.wLg (fT m2 tg (.set (tg-10) o) (hole c tg::z::xs))) w w:=St.trans (hf.less (by simp;omega)) (St.trans (hf.less A2) K d1) (St.wLg d1.hr _);have D:Hp.get (m2.wLg (fT m2 tg (.set (tg-10) o) (hole c tg::z::xs))).H b=some (.sq c tc T' g false):=by rw[lC,uD K.hr hj Y E];exact hg
      have S:=d1.ext _ _ E;have au:BR P ρ2 (.sq m2.lg.nx tg T' g2 false) l w':=by
       refine⟨⟨a,inf,aq,q2,q3,.inr ⟨a2,_,fz,T',_,lg,g4,r1,by rw[P7];exact f3,f4,by rw[q];exact f5,(r.set V N d O).1,d4,(r.set V N d O).2,fun _=>⟨rfl,by rw[q];exact f10⟩⟩⟩⟩
      have az:=St.write u.hr hs D rfl S a2 al g3 g5 au (fun h=>by cases h);refine⟨⟨ρ2,w',?_,St.trans hf u az⟩,rfl,md.2.1.trans Z⟩;have L:=iY ar;have M:ts.length=(xs.map (D9 Ora.env)).length:=by
       have:=F4 List.length e5;rw[E7]at this;exact this.symm
      have e:y'.cells.size=ts.length:=by rw[M,<- F];simp
      simp[Instr.storeAt,Instr.sureAddr,storeVar,A4,L1 L,Result.andThen,e,g1]
     .rw[A8 hc]at r1;rw[r1]at r3;cases r3
    .cases p
   .cases f
  .cases f
 .cases f
def WC{lo' hi' mx':R1}(h:HR P base ρ m.H w)(a:yC P m t x lo hi mx=some (v,m'))(L:K4 ρ m.n m'.hi)(hx:VR ρ x x')(q:OR ρ lo lo')(f:OR ρ hi hi')(p:OR ρ mx mx')(D:Sat m'.lg) :
  VOk P base ρ m w (Instr.sliceAt t x' lo' hi' mx') v m'/\m.lg.le m'.lg:=by
 unfold yC at a;split at a
 .rename_i e b i tg hu;split at a
  .rename_i s B;obtain⟨d,a⟩:=A3 a;have d:=A0 d;obtain⟨l,h1,E,h3,V⟩:=nX hx;obtain⟨⟨r,g1,g2⟩,⟨lg,rfl⟩,g4⟩:=IB (w:=w) hu B d h1 E h3 (fun h=>by cases h) a q f p D;exact⟨⟨r,ρ,w,g1,g2,St.wLg h lg⟩,g4⟩
  .cases a
 .rename_i e b i tg hu;split at a
  .rename_i s B;obtain⟨d,a⟩:=A3 a;have d:=A0 d;obtain⟨l,h1,E,h3,V,Q⟩:=gG hx;obtain⟨⟨r,g1,g2⟩,⟨lg,rfl⟩,g4⟩:=IB (w:=w) hu B d h1 E h3 (fun _=>Q) a q f p D;exact⟨⟨r,ρ,w,g1,g2,St.wLg h lg⟩,g4⟩
  .cases a
 .rename_i e b i tg hu;split at a
  .rename_i s B;obtain⟨d,a⟩:=A3 a;have d:=A0 d;split at a
   .rename_i c tc J m1 S;have A:∀ {m1:Mem},MU m1 J c tg false lo hi mx=some (v,m')->K1 m1 m'/\m1.lg.le m'.lg:=fun{m1} a=>by
     have go:∀ {m1:Mem} {l h:Value} {cc:Bool},gM m1 J c tg l h cc=some (v,m')->K1 m1 m'/\m1.lg.le m'.lg:=fun h=>by
      unfold gM at h;obtain⟨_,h⟩:=A3 h;rw[O0]at h;simp only[D5,M4]at h;obtain⟨_,rfl⟩:=h;exact⟨⟨_,rfl⟩,W1⟩
     unfold MU MT at a;split at a
     .exact go a
     .exact go (A3 a).2
     .split at a
      .rename_i K
       have:=go a;exact⟨(bY K).1.trans this.1,(bY K).2.trans this.2⟩
      .cases a
     .cases a
    obtain⟨⟨lg,G⟩,hle⟩:=A a;have N:m1.hi=m'.hi:=by rw[G];simp
    obtain⟨C,l,I,M,W,O,T,R⟩:=FO h S (L.less A2) hx (D.le hle);have mono:∀ {o o':R1},OR ρ o o'->OR C o o':=fun{o o'} h=>by
     cases o<;>cases o'<;>first|exact trivial|exact h.elim|exact VR.mono I.ext h
    obtain⟨⟨r,g1,g2⟩,⟨F,u⟩,g4⟩:=IB (w:=w) (cl:=false) hu B d M O T (fun h=>by cases h) a (mono q) (mono f) (mono p) D;subst u;exact⟨⟨r,C,w,g1,g2,St.trans (L.less (by simp)) I (St.wLg I.hr F)⟩,R.trans g4⟩
   .cases a
  .cases a
 .cases a
end
end
section
open Go
variable [Ora]
section
variable {P:Program} {base:Nat} {ρ ρ':Ren} {m m':Mem} {w w':World}
def CW{a':Addr}{n c':Nat}{a:List Int}(p:P.underlying s=some (.slice e))(q:P.underlying t=some .string)(he:P.underlying e=some (.int .u8))(d:(loadCells a' n).run P w=.ok (a.map (Value.int .u8)).toArray w) :
  (convert s t (.slice (some a') n c')).run P w=.ok (.string ⟨⟨a.map fun n=>UInt8.ofNat n.toNat⟩⟩) w:=by
 have:=run_bytesToString w a' n c' a d;have f:=pJ a [];simp only[G9]at f;simp only[convert,A4,D1 p,D1 q,D1 he,Result.andThen];rw[this,show ByteArray.empty=ByteArray.mk ⟨[]⟩from rfl,f]
def GE{n:Nat}(d:P.underlying s=some (.slice e))(a:P.underlying t=some .string)(he:P.underlying e=some (.int .u8)):(convert s t (.slice none n c)).run P w=.ok (.string ByteArray.empty) w:=by
 simp[convert,A4,D1 d,D1 a,D1 he,Result.andThen,Conv.bytesToString]
def KA{b:ByteArray}(F:P.underlying s=some ds)(E:P.underlying t=some (.slice e))(he:P.underlying e=some (.int .u8))(w:World) :
  ∃ (cap:Nat) (C:Array Value),b.size<=cap/\C.size=cap/\(∀ (i:Nat) (u:Value),(P8 b.data.toList)[i]? = some u->C[i]? = some u)/\(convert s t (.string b)).run P w=.ok (.slice (some ⟨w.heap.size,0,none⟩) b.size cap) { w.drew with heap:=w.heap.push (.cells C e (C.size,C.size+1)) }:=by
 let q:Question:=.appendCap b.size 0 e
 let cap:=q.cut (w.tape w.drawn q)
 have d:b.size<=cap:=by show b.size<=b.size+_;omega
 have r:(choose q).run P w=.ok cap w.drew:=by
  simp only[choose,Sem.run];rw[A8 (by simp[q,Question.forced])];rfl
 let C:W4:=(b.data.map fun b=>Value.int .u8 b.toNat)++Array.replicate (cap-b.size) (.int .u8 0)
 have hC:C.size=cap:=by
  have:b.data.size=b.size:=rfl;simp[C,this];omega
 refine⟨cap,C,d,hC,fun i u hi=>?_,?_⟩
 .have B:=(B3.1 hi).1;simp[P8]at B;have n:i<(b.data.map fun b=>Value.int .u8 b.toNat).size:=by simpa using B
  show((b.data.map fun b=>Value.int .u8 b.toNat)++Array.replicate (cap-b.size) (.int .u8 0))[i]? = some u;rw[T5 n]
  simpa [P8]using hi
 .have f:∀ w2:World,w2.heap[w.heap.size]? = some (.cells C e (0,0))->(markStringish ⟨w.heap.size,0,none⟩).run P w2=.ok () (w2.freeze { block:=w.heap.size,off:=C.size } 1):=fun w2 D=>by
   simp[markStringish,shape,freeze,Sem.run,World.shape?,D]
  have p:({ w.drew with heap:=w.heap.push (.cells C e (0,0)) }:World).freeze { block:=w.heap.size,off:=C.size } 1={ w.drew with heap:=w.heap.push (.cells C e (C.size,C.size+1)) }:=by
   unfold World.freeze;rw[A8 F0];congr 1;apply Array.ext_getElem?;intro i;rw[H3];by_cases hi:w.heap.size=i
   .subst hi;simp
   .rw[A8 hi];simp only[j7];rw[A8 (fun h=>hi h.symm),A8 (fun h=>hi h.symm)]
  have a:(convert s t (.string b)).run P w=(Conv.stringToBytes e b).run P w:=by
   cases ds<;>simp[convert,A4,D1 F,D1 E,D1 he,Result.andThen]
  rw[a];unfold Conv.stringToBytes;simp only[A4,show(choose (.appendCap b.size 0 e)).run P w=.ok cap w.drew from r,Result.andThen];have A:(newRow e C).run P w.drew=.ok ⟨w.heap.size,0,none⟩ { w.drew with heap:=w.heap.push (.cells C e (0,0)) }:=rfl;rw[show(newRow e ((b.data.map fun b=>Value.int .u8 b.toNat)++Array.replicate (cap-b.size) (.int .u8 0))).run P w.drew=_ from A];simp only[Result.andThen];rw[f _ (by simp),p];rfl
def IG:∀ {us:List U} {s:List UInt8} {vs:D2},uU us=some s->Z0 (fun k=>w.heap[k]?) us vs->∃ d:List Int,vs=d.map (Value.int .u8)/\s=d.map fun n=>UInt8.ofNat n.toNat
 | [],s,vs,h,he=>by
   cases h;have:vs=[]:=G4.1 he.1.symm;subst this;exact⟨[],rfl,rfl⟩
 | u::us,s,vs,h,he=>by
   unfold uU at h;split at h
   .rename_i heq;cases heq
   .rename_i n r heq;cases heq;split at h
    .split at h
     .rename_i l q;cases h;cases vs with
      | nil=>have:=he.1;simp at this
      | cons v vr =>
        obtain⟨d,A,f⟩:=IG (vs:=vr) q ⟨by have:=he.1;simpa using this,fun i a b h1 p=>he.2 (i+1) a b (by simpa using h1) (by simpa using p)⟩
        have:=gJ (he.2 0 _ v rfl rfl) rfl;subst this;exact⟨(Int.ofNat n)::d,by rw[A];rfl,by rw[f];rfl⟩
     .cases h
    .cases h
   .cases h
def IH:∀ {rows:List (List U)} {s:List UInt8},wU rows=some s->uU (rows.flatMap id)=some s/\(rows.flatMap id).length=rows.length/\∀ (r:Nat) (row:List U) (j:Nat) (u:U),rows[r]? = some row->row[j]? = some u->j=0/\(rows.flatMap id)[r]? = some u
 | [],s,h=>by cases h;exact⟨rfl,rfl,fun r row j u h=>by simp at h⟩
 | row::rows,s,h=>by
   unfold wU at h;split at h
   .rename_i heq;cases heq
   .rename_i n r heq;cases heq;split at h
    .rename_i d;split at h
     .rename_i l A;cases h;obtain⟨h1,f,h3⟩:=IH A;refine⟨?_,by show([U.int .u8 (Int.ofNat n)]++rows.flatMap id).length=_;rw[D4,f];simp;omega,fun q row j u a a2=>?_⟩
      .simp only[gU,id,S7,G9,uU];rw[B0 d,h1]
      .cases q with
       | zero =>
         simp at a;subst a;cases j with
         | zero=>simp at a2;subst a2;exact⟨rfl,rfl⟩
         | succ j=>simp at a2
       | succ q =>
         obtain⟨B,p⟩:=h3 q row j u (by simpa using a) a2;exact⟨B,by simpa using p⟩
     .cases h
    .cases h
   .cases h
def qP{t:Nat}:∀ {l:D2},j9 t l=true->∀ v ∈ l,G8 v=t
 | [],_,v,hv=>by cases hv
 | x::r,h,v,hv=>by
   obtain⟨h1,a⟩:=B6 (show(Nat.beq (G8 x) t && j9 t r)=true from h);rcases B4.1 hv with rfl|hv
   .exact A0 h1
   .exact qP a v hv
def tC{R:Nat->Option Obj}(h:LR ρ cs cs')(f:∀ v ∈ cs,G8 v<10):Z0 R (cs.map (D9 Ora.env)) cs':=by
 refine⟨by simp[h.1],fun i u v a a2=>?_⟩;rw[F8]at a;cases d:cs[i]? with
 | none=>rw[d]at a;cases a
 | some x =>
   rw[d]at a;have a:=A9 a;subst a;exact .sc (aK (h.2 i x v d a2) (f x (D0 d))).1
def LT(m m1:Mem):A64 m m1=⟨m.H,m.n,m.W,m1.hi,m1.lg⟩:=by cases m;cases m1;rfl
def St.kept{ρ:Ren}{m:Mem}{w:World}{hi:Nat}{lg:Lg}(h:HR P base ρ m.H w)(hh:m.hi<=hi):St P base ρ ρ m ⟨m.H,m.n,m.W,hi,lg⟩ w w :=
 ⟨fun _ _ h=>h,fun b l h1 a=>(by rw[h1]at a;cases a),A6 _,hh,fun h=>C6 h hh,h,fun _ h=>h,fun b h1 a=>absurd h1 a,fun _ _ _=>rfl,A6 _,⟨rfl,rfl,rfl⟩,fun b l h1 a=>(by rw[h1]at a;cases a),fun _ _ _ _=>rfl,fun _ h=>.inr h⟩
def A3C(h:HR P base ρ m.H w)(hb:base<=w.heap.size)(d:MY P m s t x=some (v,m'))(Z:K4 ρ m.n m'.hi)(hx:VR ρ x x')(hS:Sat m'.lg):VOk P base ρ m w (convert s t x') v m'/\m.lg.le m'.lg:=by
 unfold MY at d;split at d
 .rename_i e a n c N M;split at d
  .rename_i he;split at d
   .rename_i cs hr;obtain⟨D,d⟩:=A3 d;obtain⟨u,f,e2,r,L,Q,e5⟩:=M8 d hS;obtain⟨lg,rfl⟩:=H8 d;have q:=St.wLg h lg;have J:=qP D;have key:∀ {a' c'} {O:D2},LR ρ cs O->(loadCells a' n).run P w=.ok ⟨O⟩ w->VOk P base ρ m w (convert s t (.slice (some a') n c')) v (m.wLg lg):=fun{a' c' O} Y ax=>by
     have aw:Z0 (fun k=>w.heap[k]?) (cs.map (D9 Ora.env)) O:=tC Y (fun v hv=>by rw[J v hv];omega);have I:∃ p,uU (cs.map (D9 Ora.env))=some p/\u=.str p:=by
      have f:(match uU (cs.map (D9 Ora.env))with|some s=>U.str s|none=>.none)=u:=f;split at f
      .rename_i p A;exact⟨p,A,f.symm⟩
      .subst f;cases L
     obtain⟨p,K,rfl⟩:=I;cases L;obtain⟨ns,r1,r2⟩:=IG (w:=w) K aw;subst r1;subst r2;exact⟨_,ρ,w,CW N M he ax,Q ρ,q⟩
    refine⟨?_,I3 d⟩;rcases P4 hx with⟨l,Y,_,_,rfl⟩|⟨l,c',Y,_,_,_,_,rfl⟩|⟨a',c',_,rfl,_,rfl⟩
    .obtain⟨O,g1,g2,g3⟩:=c9 h hr Y;exact key g1 (K6 g2 g3)
    .obtain⟨O,g1,g2,g3⟩:=c9 h hr Y;exact key g1 (K6 g2 g3)
    .have:cs=[]:=by
      unfold v6 at hr;split at hr
      .have:=(jQ hr).2;simpa using this
      .cases hr
     subst this;exact key .nil (by simp[loadCells,loadCellsFrom])
   .cases d
  .cases d
 .rename_i e fn a1 a2 N M;split at d
  .rename_i he;split at d
   .rename_i hh b m1 hd;rw[LT]at d;obtain⟨u,f,e2,r,L,Q,e5⟩:=M8 d hS;have hle:=I3 d;obtain⟨lg,rfl⟩:=H8 d;obtain⟨V,l,d1,d2,d3,d4,d5,d6⟩:=FO h hd (Z.less (by simp[Mem.wLg])) hx (hS.le hle);have q:St P base ρ ρ m (Mem.wLg ⟨m.H,m.n,m.W,m1.hi,m1.lg⟩ lg) w w:=St.kept h d1.hle;obtain⟨nul,wd,rows,K,q2⟩:=gL d4 d5 A2;have az:wd=1:=A2;subst az;rw[K]at d4;have I:∃ p,wU rows=some p/\u=.str p:=by
     have f:evU .str [D9 Ora.env hh]=u:=f;rw[K]at f;have f:(if 1=1 then(match wU rows with|some s=>U.str s|none=>.none)else .none)=u:=f;rw[B0 rfl]at f;split at f
     .rename_i p A;exact⟨p,A,f.symm⟩
     .subst f;cases L
    obtain⟨p,A,rfl⟩:=I;cases L;refine⟨?_,d6.trans hle⟩;have hG:=(d1.hr.atl d2 d3).1.2;rcases y0 d4 with⟨rfl,rfl,rfl⟩|⟨rfl,a,c,rfl,hc⟩
    .cases A;exact⟨_,ρ,w,GE N M he,Q ρ,q⟩
    .obtain⟨_,new',g1,g2,g3,g4⟩:=uQ (w:=w) d4 hG;obtain⟨k1,k2,k3⟩:=IH A;have X:Z0 (fun k=>w.heap[k]?) (rows.flatMap id) new':=by
      refine⟨by rw[k2,g1];simp,fun i u v b1 b2=>?_⟩;have B:i<rows.length:=by have:=(B3.1 b1).1;rw[k2]at this;exact this
      have au:rows[i].length=1:=g3.1 _ (N9 B);have F:rows[i]? = some rows[i]:=A5 B;have h0:rows[i][0]? = some (rows[i][0]' A2):=A5 A2;obtain⟨_,k4⟩:=k3 i _ 0 _ F h0;rw[b1]at k4;have k4:=A9 k4;rw[k4];exact(g3.2 i _ 0 _ v F h0 (by simpa using b2)).mono hG
     obtain⟨ns,r1,r2⟩:=IG (w:=w) k1 X;subst r1;subst r2;have ay:(ns.map (Value.int .u8)).length=rows.length:=by rw[g1];omega
     exact⟨_,ρ,w,CW N M he (lZ ay g4),Q ρ,q⟩
   .cases d
  .cases d
 .rename_i y _ _ _ ds e N M;obtain⟨D,d⟩:=A3 d;have D:=A0 D;split at d
  .rename_i he;split at d
   .rename_i E;split at d
    .rename_i g m1 hj;rw[O0]at d;simp only[hole]at d;have d:bQ (m1.wLg (fT m1 11 .byt [y])) m1.lg.nx 11 e g=some (v,m'):=d;have mj:=N4 hj;have mn:=s8 d;simp only[NY,g8,YF]at mn;obtain⟨V,lg,f,e2,L,Q,e5,e6⟩:=fC h hj (Z.less A2);have q:St P base ρ V m (m1.wLg (fT m1 11 .byt [y])) w w:=St.trans (Z.less (by simp;omega)) f (St.wLg f.hr _);obtain⟨p,rfl,f1⟩:=o9 hx D;obtain⟨r1,r2,_⟩:=kM (m:=m1) (t:=11) (op:=.byt) (xs:=[y]) (lg:=m'.lg) hS (by rw[g8,mn.2.1];exact .refl _);have r1:Ora.env m1.lg.nx=evU .byt [D9 Ora.env y]:=r1;rw[f1]at r1;have r1:Ora.env m1.lg.nx=.seq false 1 (kC p):=r1;obtain⟨cap,C,c1,c2,c3,c4⟩:=KA (P:=P) (b:=⟨⟨p⟩⟩) N M he w;obtain⟨inf,S,T⟩:∃ inf,P.info? e=some inf/\inf.size=1:=by
      unfold H4 at E;cases hi:P.info? e with
      | none=>rw[hi]at E;cases E
      | some inf=>rw[hi]at E;exact⟨inf,rfl,A9 E⟩
     have av:ByteArray.size ⟨⟨p⟩⟩=p.length:=rfl;rw[av]at c1 c4;obtain⟨ρ2,K,q2⟩:=cV (w':={ w.drew with heap:=w.heap.push (.cells C e (C.size,C.size+1)) }) (cap:=cap) (C:=C) q.hr hb d (by simpa using(Z.less (A6 _)).step f) r1 rfl S T (by rw[iF];exact c1) A2
      ((KC (R:=lg.G) p).move (o':=0) fun i hi=>by
        rw[iF]at hi;have B:i<(P8 p).length:=by simp[P8];omega
        rw[F5,c3 i (P8 p)[i] (A5 B)];simp[B]) Q (fun i hi hh=>by have:=hh.1;simp only at this;omega) ⟨rfl,rfl,rfl⟩ rfl
     rw[iF]at K;exact⟨⟨_,ρ2,_,c4,K,St.trans Z q q2⟩,by rw[mn.2.1,<- mj.2.1];exact⟨[_],rfl⟩⟩
    .cases d
   .cases d
  .cases d
 .cases d
def WI(hu:P.underlying t=some (.slice e))(hi:P.info? e=some inf)(q:inf.bytes<=90000)(h0:0<inf.size)(r:∀ w,(zeroValue e).run P w=.ok z w)(n:k<=uV)(w:World) :
  (Instr.makeSlice t (.int .i64 (Int.ofNat k)) (.int .i64 (Int.ofNat k))).run P w=.ok (.slice (some ⟨w.heap.size,0,none⟩) k k) { w with heap:=w.heap.push (.cells ((Array.range (k*inf.size)).map (z.cells[· % z.cells.size]!)) e (0,0)) }:=by
 have n:k<=1000000000:=n;have u:H4 P e=some inf.size:=by simp[H4,hi]
 have wl:IntKind.i64.wrap (Int.ofNat k)=Int.ofNat k:=qC .i64 k (by simp only[OE];omega);have hm:k*inf.bytes<=1000000000*90000:=fO n q;have a:(askRoom (k*inf.bytes)).run P w=.ok () w:=by
  unfold askRoom roomBytes;rw[A8 A2];rfl
 have f:((inf.bytes:Int)*(k:Int))=((k*inf.bytes:Nat):Int):=by rw[bH];simp
 unfold Instr.makeSlice;simp only[A4,D1 hu,asInt,asIntOf,Result.andThen,Sem.run_pure,V5 hi,wl];rw[A8]
 .have p:(Int.ofNat k).toNat=k:=by simp
  simp only[A4,Sem.run_pure,Result.andThen,p,a,L1 u];by_cases d:k*inf.size=0
  .have A:∀ z:W4,Array.map (fun x=>z[x%z.size]!) (Array.range (k*inf.size))=⟨[]⟩:=fun z=>by rw[d];apply J2;simp
   simp only[B0 d,A];rfl
  .simp only[A8 d,A4,Sem.run_pure,Result.andThen,r];rfl
 .have h:Int.ofNat k=(k:Int):=rfl;simp only[h,f];simp;omega
def YA{R:Nat->Option Obj}{s:Nat}(h0:0<s)(f:z.cells.size=s)(q:LR ρ z.cells.toList z.cells.toList)(p:∀ v ∈ z.cells.toList,G8 v<10):P0 R (List.replicate k (z.cells.toList.map (D9 Ora.env))) s ((Array.range (k*s)).map (z.cells[· % z.cells.size]!)) 0:=by
 have he:=tC (R:=R) q p;refine⟨fun row hr=>?_,fun r row j u v g1 g2 g3=>?_⟩
 .rw[(List.mem_replicate.1 hr).2];simp[f]
 .have hr:=(B3.1 g1).1;rw[T8]at hr;rw[List.getElem?_replicate,B0 hr]at g1;cases g1;have d:=(B3.1 g2).1;simp only[E7,S0]at d;rw[f]at d;have hm:(r*s+j)%s=j:=by rw[bH,Nat.mul_add_mod,d7 d]
  have n:r*s+j<k*s:=by
   have:(r+1)*s<=k*s:=F9 s hr;rw[I1,gT]at this;omega
  rw[F5,Array.getElem?_map,Array.getElem?_range,B0 n]at g3;simp only[L6,D5,f,hm]at g3;have a:j<z.cells.size:=A2;rw[getElem!_pos z.cells j a]at g3;refine he.2 j u v g2 ?_;rw[Q1,F3 a,g3]
def A1I{l c:Value}(h:HR P base ρ m.H w)(Q:base<=w.heap.size)(a:LH P m t l c=some (v,m'))(C:K4 ρ m.n m'.hi)(V:VR ρ l l')(S:VR ρ c c')(M:Sat m'.lg):VOk P base ρ m w (Instr.makeSlice t l' c') v m'/\m.lg.le m'.lg:=by
 unfold LH at a;split at a
 .rename_i e i ti j Z hu;obtain⟨d,B⟩:=A3 a;clear a;obtain⟨d,h3⟩:=B6 d;obtain⟨h1,D⟩:=B6 d;have h1:=A0 h1;have D:=A0 D;have h3:=A0 h3;subst h1 D h3;have a:=B;clear B;split at a
  .rename_i inf hi;obtain⟨d,a⟩:=A3 a;obtain⟨u,f⟩:=B6 d;have u:=A1 u;have f:0<inf.size:=A1 f;split at a
   .rename_i z L;obtain⟨d,a⟩:=A3 a;obtain⟨r,p⟩:=B6 d;have r:=A0 r;have p:∀ v ∈ z.cells.toList,G8 v<10:=fun v hv=>A1 (D6.1 p v hv)
    split at a
    .rename_i g m1 J;rw[O0]at a;simp only[hole]at a;have a:bQ (m1.wLg (fT m1 (10+inf.size) (.rep inf.size) (hole i 3::z.cells.toList))) m1.lg.nx (10+inf.size) e g=some (v,m'):=a;have N:=N4 J;have F:=s8 a;simp only[NY,g8,YF]at F;obtain⟨G,lg,E,W,e3,R,e5,e6⟩:=fC h J (C.less A2);have A:St P base ρ G m (m1.wLg (fT m1 (10+inf.size) (.rep inf.size) (hole i 3::z.cells.toList))) w w:=St.trans (C.less (by simp;omega)) E (St.wLg E.hr _);obtain⟨k,n,rfl,f1,f2⟩:=M9 (v:=hole i 3) V (show(3:Nat)<8 by decide);obtain⟨X,Y,rfl,f3,f4⟩:=M9 (v:=hole i 3) S (show(3:Nat)<8 by decide);rw[f1]at f3;cases f3;obtain⟨r1,r2,nul,wd,rows,K,r4⟩:=kM (m:=m1) (t:=10+inf.size) (op:=.rep inf.size) (xs:=hole i 3::z.cells.toList) (lg:=m'.lg) M (by rw[g8,F.2.1];exact .refl _);have r1:Ora.env m1.lg.nx=evU (.rep inf.size) (D9 Ora.env (hole i 3)::z.cells.toList.map (D9 Ora.env)):=r1;rw[f1]at r1;have T:k=.i64:=by
      have f2:(3:Nat)=iJ k:=f2;cases k<;>first|rfl|(exfalso;revert f2;decide)
     subst T;cases n with
     | negSucc q=>rw[K]at r1;cases r1
     | ofNat q =>
       have r1:Ora.env m1.lg.nx=if(z.cells.toList.map (D9 Ora.env)).length=inf.size/\q<=uV then .seq false inf.size (List.replicate q (z.cells.toList.map (D9 Ora.env)))else .none:=r1
       by_cases d:(z.cells.toList.map (D9 Ora.env)).length=inf.size/\q<=uV
       .rw[B0 d]at r1;obtain⟨ρ2,I,O⟩:=cV (w':={ w with heap:=w.heap.push (.cells ((Array.range (q*inf.size)).map (z.cells[· % z.cells.size]!)) e (0,0)) }) (cap:=q) (fz:=(0,0)) A.hr Q a (by simpa using(C.less (A6 _)).step E) r1 rfl hi rfl (by simp) (by simp)
         (YA (ρ:=ρ) f r (pY L) p) R (fun i hi hh=>by have:=hh.2;simp only at this;omega) ⟨rfl,rfl,rfl⟩ rfl
        rw[T8]at I;exact⟨⟨_,ρ2,_,WI hu hi u f (fun w=>aR L w) d.2 w,I,St.trans C A O⟩,by rw[F.2.1,<- N.2.1];exact⟨[_],rfl⟩⟩
       .rw[A8 d,K]at r1;cases r1
    .cases a
   .cases a
  .cases a
 .cases a
end
end
section
open Go
variable [Ora]
section
variable {P:Program} {base:Nat} {ρ ρ':Ren} {m m':Mem} {w w':World}
def TD{t:Nat}(h:U3 m 8 .nilp [hole i t]=some (v,m'))(hi:Ora.env i=.seq nul wd rows)(f:Sat m'.lg):VR ρ v (.bool nul)/\K1 m m'/\m.lg.le m'.lg:=by
 obtain⟨u,d,q,r,n,p,A⟩:=M8 h f;have a:[hole i t].map (D9 Ora.env)=[.seq nul wd rows]:=by
  show[Ora.env i]=_;rw[hi]
 rw[a]at d;have d:U.bool nul=u:=d;subst d;cases n;exact⟨p ρ,H8 h,I3 h⟩
def CX{x y:Operand}{a:Option Addr}{n:Nat}(hu:P.underlying t=some (.slice e))(h:(a=none/\n=0/\c=0/\nul=true)∨(nul=false/\∃ q:Addr,a=some q/\n<=c))(p:op=.eql∨op=.neq)(w:World) :
  (do eqGuard op t x y (.slice a n c) (.slice none 0 0);binOp op t (.slice a n c) (.slice none 0 0):Sem Value).run P w=.ok (.bool (if op=.eql then nul else !nul)) w:=by
 have key:∀ {ρ:Ren} {am:Value},VR ρ am (.slice a n c)->mH P t x y am (.slice none 0 0)=true->tH P .eql t am (.slice none 0 0)=some (.bool nul)->tH P .neq t am (.slice none 0 0)=some (.bool !nul) ->
   (do eqGuard op t x y (.slice a n c) (.slice none 0 0);binOp op t (.slice a n c) (.slice none 0 0):Sem Value).run P w=.ok (.bool (if op=.eql then nul else !nul)) w:=fun{ρ am} hv r h1 A=>by
  have f:VR ρ (.slice none 0 0) (.slice none 0 0):=.pure rfl;have u:=sS (op:=op) (fun _=>r) hv f w;rcases p with rfl|rfl
  .obtain⟨g1,_⟩:=xM h1 hv f w;simp[A4,u,g1,Result.andThen]
  .obtain⟨g1,_⟩:=xM A hv f w;simp[A4,u,g1,Result.andThen]
 rcases h with⟨rfl,rfl,rfl,rfl⟩|⟨rfl,q,rfl,C⟩
 .refine key (ρ:=fun _=>none) (am:=.slice none 0 0) (.pure rfl) rfl ?_ ?_
  .simp[tH,DC,eqM,hu]
  .simp[tH,DC,eqM,hu]
 .obtain⟨d,B⟩:∃ d,Op.maxDepth=d+1:=⟨Op.maxDepth-1,rfl⟩;have he:∀ w,(Op.equal t (.slice (some q) n c) (.slice none 0 0)).run P w=.ok false w:=fun w=>by
   rw[Op.equal,B];simp[Op.equalIn,A4,D1 hu,Result.andThen]
  have r:∀ o:BinOp,(eqGuard o t x y (.slice (some q) n c) (.slice none 0 0)).run P w=.ok () w:=fun o=>by
   unfold eqGuard;cases o<;>rfl
  rcases p with rfl|rfl
  .rw[A4,r];show(do pure (.bool (<- Op.equal t (.slice (some q) n c) (.slice none 0 0))):Sem Value).run P w=_;rw[A4,he];rfl
  .rw[A4,r];show(do pure (.bool (!(<- Op.equal t (.slice (some q) n c) (.slice none 0 0)))):Sem Value).run P w=_;rw[A4,he];rfl
def A4a{x y:Operand}{a a' b:Value}(F:A09 P m op t x y a b=some (v,m'))(L:VR ρ a a')(Q:VR ρ b b')(I:Sat m'.lg) :
  (∃ r,(do eqGuard op t x y a' b';binOp op t a' b':Sem Value).run P w=.ok r w/\VR ρ v r)/\K1 m m'/\m.lg.le m'.lg:=by
 unfold A09 at F;split at F
 .rename_i e k T i tg hu;obtain⟨f,d⟩:=A3 F;clear F;obtain⟨f,A⟩:=B6 f;obtain⟨f,O⟩:=B6 f;have M:b'=.slice none 0 0:=by
   unfold A2Q at f;split at f
   .exact Q2 Q
   .cases f
  subst M;obtain⟨nul,wd,rows,B,n,c,D,rfl,N⟩:∃ nul wd rows B n c,Ora.env i=.seq nul wd rows/\a'=.slice B n c/\((B=none/\n=0/\c=0/\nul=true)∨(nul=false/\∃ q:Addr,B=some q/\n<=c)):=by
   have C:∀ {l:Loc},Enc l.G (Ora.env i) a'->G7 (Ora.env i)=tg->10<=tg->∃ nul wd rows B n c,Ora.env i=.seq nul wd rows/\a'=.slice B n c/\((B=none/\n=0/\c=0/\nul=true)∨(nul=false/\∃ q:Addr,B=some q/\n<=c)):=fun h h3 E=>by
    obtain⟨nul,wd,rows,D,_⟩:=gL h h3 E;rw[D]at h;rcases y0 h with⟨rfl,rfl,rfl⟩|⟨rfl,q,c,rfl,R⟩
    .exact⟨_,_,_,_,_,_,D,rfl,.inl ⟨rfl,rfl,rfl,rfl⟩⟩
    .exact⟨_,_,_,_,_,_,D,rfl,.inr ⟨rfl,q,rfl,R⟩⟩
   rcases(J1 _ _).mp A with A|A
   .rcases(J1 _ _).mp A with A|A
    .have:=A0 A;subst this;obtain⟨l,_,h,h3,E⟩:=nX L;exact C h h3 E
    .have:=A0 A;subst this;obtain⟨l,_,h,h3,E,_⟩:=gG L;exact C h h3 E
   .have:=A0 A;subst this;rcases(gF L).1 with⟨l,wd,h1,h,h3,rfl⟩|⟨l,wd,rows,h1,h,h3,E,J,rfl⟩
    .exact⟨_,_,_,_,_,_,h3,rfl,.inl ⟨rfl,rfl,rfl,rfl⟩⟩
    .exact⟨_,_,_,_,_,_,h3,rfl,.inr ⟨rfl,_,rfl,J⟩⟩
  split at d
  .rename_i r H;cases d;obtain⟨g1,g2,g3⟩:=TD (ρ:=ρ) H D I;exact⟨⟨_,CX hu N (.inl rfl) w,g1⟩,g2,g3⟩
  .rename_i hh m1 H;have hle:=I3 d;obtain⟨g1,g2,g3⟩:=TD (ρ:=ρ) H D (I.le hle);obtain⟨u,f1,f2,r,f3,f4,f5⟩:=M8 d I;obtain⟨rfl,S⟩:=jJ H;have K:D9 Ora.env (hole m.lg.nx 8)=.bool nul:=by
    obtain⟨p,_⟩:=aK g1 (by show(8:Nat)<10;omega);cases f:D9 Ora.env (hole m.lg.nx 8)with
    | bool b=>rw[f]at p;cases p;rfl
    | int k n=>rw[f]at p;cases p
    | str s=>rw[f]at p;cases p
    | none=>rw[f]at p;cases p
    | seq _ _ _=>rw[f]at p;cases p
   have f1:ev1 .not (D9 Ora.env (hole m.lg.nx 8))=u:=f1;rw[K]at f1;have f1:U.bool (!nul)=u:=f1;subst f1;cases f3;exact⟨⟨_,CX hu N (.inr rfl) w,f4 ρ⟩,g2.trans (H8 d),g3.trans hle⟩
  .cases d
 .cases F
def A9k{fr:Fr}{g:Operand->Value}{o:Oper}(h:HR P base ρ m.H w)(E:base<=w.heap.size)(d:dsM P fr m o.op=some (v,m'))(A:K4 ρ m.n m'.hi)(L:FR ρ fr g o.op)(f:Sat m'.lg):NOk P base ρ m w (execOp g o) v m':=by
 obtain⟨dst,op,ty,pos,J,K⟩:=o;simp only at d L;have a:∀ {x},x ∈ op.operands.toList->VR ρ (ev fr x) (g x):=fun hx=>L _ hx
 have fin:∀ {s:Sem Value},(∃ r,s.run P w=.ok r w/\VR ρ v r)->K1 m m'->NOk P base ρ m w (do pure (.value (<- s))) v m':=fun{s} ⟨r,h1,O⟩ ⟨lg,Q⟩=>by
  subst Q;exact NOk.of ⟨r,ρ,w,h1,O,St.wLg h lg⟩
 unfold dsM at d;split at d
 .rename_i t x y;exact NOk.of (A1I h E d A (a (x:=x) (by simp[Op.operands])) (a (x:=y) (by simp[Op.operands])) f).1
 .rename_i t x;obtain⟨g1,g2,_⟩:=A1L (w:=w) h d (a (x:=x) (by simp[Op.operands])) f;exact fin (s:=Instr.loadAt t (g x)) g1 g2
 .rename_i t x y;obtain⟨g1,rfl,_⟩:=VZ h d A (a (x:=x) (by simp[Op.operands])) (a (x:=y) (by simp[Op.operands])) f;exact NOk.ofU (s:=Instr.storeAt t (g x) (g y)) g1
 .rename_i t x i;obtain⟨g1,g2,_⟩:=LX (w:=w) d (a (x:=x) (by simp[Op.operands])) (a (x:=i) (by simp[Op.operands])) f;exact fin (s:=Instr.indexAt t (g x) (g i)) g1 g2
 .rename_i s x i;obtain⟨g1,rfl⟩:=MO (w:=w) d (a (x:=x) (by simp[Op.operands]));exact fin (s:=Instr.fieldAt s (g x) i) g1 (.refl _)
 .rename_i t x lo hi mx;obtain⟨g1,_⟩:=WC h d A (a (x:=x) (by simp[Op.operands])) (jO (g:=g) fun y p=>a (by simp[Op.operands]at p ⊢;exact .inr (.inl p))) (jO (g:=g) fun y p=>a (by simp[Op.operands]at p ⊢;exact .inr (.inr (.inl p)))) (jO (g:=g) fun y p=>a (by simp[Op.operands]at p ⊢;exact .inr (.inr (.inr p)))) f;exact NOk.of (s:=Instr.sliceAt t (g x) (lo.map g) (hi.map g) (mx.map g)) g1
 .rename_i s t x;exact NOk.of (A3C h E d A (a (x:=x) (by simp[Op.operands])) f).1
 .rename_i op t x y T;obtain⟨g1,g2,_⟩:=A4a (w:=w) d (a (x:=x) (by simp[Op.operands])) (a (x:=y) (by simp[Op.operands])) f;exact fin (s:=do eqGuard op t x y (g x) (g y);binOp op t (g x) (g y)) g1 g2
 .rename_i xs tys;have l1:=dK (ρ:=ρ) (fr:=fr) (g:=g) (xs:=xs.toList) fun x hx=>a (by show x ∈ (#[]++xs:Array Operand).toList;simpa using hx)
  split at d
  .rename_i x t rest u q;rw[u]at l1;obtain⟨x',r1,G,C,D⟩:=l1.tail
   have:=D.nil_inv;subst this;obtain⟨g1,g2,_⟩:=A4m (w:=w) (ty:=ty) (tys:=rest) d C f;obtain⟨ks,B⟩:∃ ks,execOp g ⟨dst,.call ⟨.builtin .len,xs,tys⟩,ty,pos,J,K⟩=builtin .len tys ty ks (xs.map g):=⟨#[],rfl⟩;have I:xs.map g=⟨xs.toList.map g⟩:=by apply J2;simp
   have F:tys=⟨t::rest⟩:=by rw[<- q]
   rw[B,I,G,F];exact fin (s:=Builtin.len_ ⟨t::rest⟩ ty #[x']) g1 g2
  .cases d
 .rename_i xs tys;have l1:=dK (ρ:=ρ) (fr:=fr) (g:=g) (xs:=xs.toList) fun x hx=>a (by show x ∈ (#[]++xs:Array Operand).toList;simpa using hx)
  split at d
  .rename_i x y t t2 rest u q;rw[u]at l1;obtain⟨x',r1,G,C,D⟩:=l1.tail;obtain⟨y',S,R,N,M⟩:=D.tail
   have:=M.nil_inv;subst this
   have:=RL (ty:=ty) h E d A C N f;obtain⟨ks,B⟩:∃ ks,execOp g ⟨dst,.call ⟨.builtin .append,xs,tys⟩,ty,pos,J,K⟩=builtin .append tys ty ks (xs.map g):=⟨#[],rfl⟩;have I:xs.map g=⟨xs.toList.map g⟩:=by apply J2;simp
   have F:tys=⟨t::t2::rest⟩:=by rw[<- q]
   rw[B,I,G,R,F];have e:Builtin.append_ ⟨t::t2::rest⟩ ty #[x',y']=Builtin.append_ #[t,t2] ty #[x',y']:=rfl;refine NOk.of (s:=Builtin.append_ ⟨t::t2::rest⟩ ty #[x',y']) ?_;rw[e];exact this
  .cases d
 .cases d
def gI{wd o i t g:Nat}{z:Value}:∀ {ts:H6} {j:Nat} {m m':Mem} {r:D2},Y3 wd o i t z g ts j m=some (r,m')->m.lg.le m'.lg
 | [],j,m,m',r,h=>by cases h;exact .refl _
 | tg::ts,j,m,m',r,h=>by
   unfold Y3 at h;cases a:Nat.blt tg 10 with
   | true =>
     rw[a]at h;simp only[E5]at h;split at h
     .rename_i d;split at h
      .rename_i hr;cases h;exact(I3 d).trans (gI hr)
      .cases h
     .cases h
   | false =>
     rw[a]at h;simp only[E0]at h;rw[LN]at h;split at h
     .rename_i hr;cases h;exact W1.trans (gI hr)
     .cases h
def FE{r:Option (D2×Mem)}(h:mT P t r=some (v,m')):∃ vs,r=some (vs,m'):=by
 unfold mT at h;split at h
 .cases h;exact⟨_,rfl⟩
 .cases h;exact⟨_,rfl⟩
 .cases h
def A1M(a:LM P m t x=some (v,m')):m.lg.le m'.lg:=by
 unfold LM at a;split at a
 .obtain⟨_,a⟩:=A3 a;obtain⟨vs,h⟩:=FE a;exact gI h
 .split at a
  .obtain⟨_,a⟩:=A3 a;obtain⟨vs,h⟩:=FE a;exact gI h
  .cases a
 .cases a
def WA(a:yA P m t x y=some (v,m')):m.lg.le m'.lg:=by
 unfold yA at a;split at a
 .cases d:jM y with
  | true=>rw[d]at a;cases a
  | false =>
    rw[d]at a;simp only[E0]at a;split at a
    .rename_i p;split at a
     .obtain⟨_,a⟩:=A3 a;split at a
      .rename_i q;rw[O0]at a;simp only[hole]at a;obtain⟨n,_⟩:=nT a;have md:=S6 V4 p;have f:=N4 q;refine md.2.1.trans ?_;rw[(U9 n).2,<- f.2.1];simp only[g8];exact⟨[_],rfl⟩
      .cases a
     .cases a
    .cases a
 .cases a
def A4v{t:Nat}{k:Value}(h:LZ m i t z k=some (v,m')):m.lg.le m'.lg:=by
 unfold LZ at h;cases a:!(Nat.blt (G8 z) 8)with
 | true=>rw[a]at h;cases h
 | false =>
   rw[a]at h;simp only[E0]at h;split at h
   .rename_i f;split at h
    .rename_i d;cases h;exact(I3 f).trans (fM d)
    .cases h
   .cases h
def LY(h:mG P m t x z=some (v,m')):m.lg.le m'.lg:=by
 unfold mG at h;split at h;all_goals first
  | (split at h
     .obtain⟨_,h⟩:=A3 h;exact A4v h
     .cases h;done)
  | (split at h
     .obtain⟨_,h⟩:=A3 h;rw[E9]at h;cases h;exact .refl _
     .cases h;done)
  | cases h
def MP{f:Nat}(h:mK P m s x f=some (v,m')):m.lg.le m'.lg:=by
 unfold mK at h;split at h;all_goals first
  | (split at h
     .split at h
      .obtain⟨_,h⟩:=A3 h;rw[E9]at h;cases h;exact .refl _
      .cases h
     .cases h;done)
  | cases h
def IC{t:Nat}(a:MU m b i t cl lo hi mx=some (v,m')):m.lg.le m'.lg:=by
 have go:∀ {m1:Mem} {l h:Value} {cc:Bool},gM m1 b i t l h cc=some (v,m')->m1.lg.le m'.lg:=fun h=>by
  unfold gM at h;obtain⟨_,h⟩:=A3 h;rw[O0]at h;simp only[D5,M4]at h;obtain⟨_,rfl⟩:=h;exact W1
 unfold MU MT at a;split at a
 .exact go a
 .exact go (A3 a).2
 .split at a
  .rename_i d;exact(bY d).2.trans (go a)
  .cases a
 .cases a
def WD(a:yC P m t x lo hi mx=some (v,m')):m.lg.le m'.lg:=by
 unfold yC at a;split at a
 .split at a
  .exact IC (A3 a).2
  .cases a
 .split at a
  .exact IC (A3 a).2
  .cases a
 .split at a
  .obtain⟨_,a⟩:=A3 a;split at a
   .rename_i d;exact(hZ d).2.1.trans (IC a)
   .cases a
  .cases a
 .cases a
def A3D(a:MY P m s t x=some (v,m')):m.lg.le m'.lg:=by
 unfold MY at a;split at a
 .split at a
  .split at a
   .exact I3 (A3 a).2
   .cases a
  .cases a
 .split at a
  .split at a
   .rename_i n;rw[LT]at a;have d:=I3 a;exact(hZ n).2.1.trans d
   .cases a
  .cases a
 .obtain⟨_,a⟩:=A3 a;split at a
  .split at a
   .split at a
    .rename_i p;rw[O0]at a;simp only[hole]at a;have f:=N4 p;rw[(s8 a).2.1,g8,<- f.2.1];exact⟨[_],rfl⟩
    .cases a
   .cases a
  .cases a
 .cases a
def A4b{x y:Operand}{a b:Value}(f:A09 P m op t x y a b=some (v,m')):m.lg.le m'.lg:=by
 unfold A09 at f;split at f
 .obtain⟨_,d⟩:=A3 f;clear f;split at d
  .rename_i n;cases d;exact I3 n
  .rename_i n;exact(I3 n).trans (I3 d)
  .cases d
 .cases f
def A1J{l c:Value}(a:LH P m t l c=some (v,m')):m.lg.le m'.lg:=by
 unfold LH at a;split at a
 .obtain⟨_,a⟩:=A3 a;split at a
  .obtain⟨_,a⟩:=A3 a;split at a
   .obtain⟨_,a⟩:=A3 a;split at a
    .rename_i f;rw[O0]at a;simp only[hole]at a;have d:=N4 f;rw[(s8 a).2.1,g8,<- d.2.1];exact⟨[_],rfl⟩
    .cases a
   .cases a
  .cases a
 .cases a
def A9l{fr:Fr}{o:Op}(a:dsM P fr m o=some (v,m')):m.lg.le m'.lg:=by
 unfold dsM at a;split at a
 .exact A1J a
 .exact A1M a
 .exact WA a
 .exact LY a
 .exact MP a
 .exact WD a
 .exact A3D a
 .exact A4b a
 .split at a
  .unfold A4n at a;split at a
   .exact(bY a).2
   .exact(bY a).2
   .exact(bY a).2
   .cases a
  .cases a
 .split at a
  .exact(IL a).2.1
  .cases a
 .cases a
end
end
end Go.Sx
