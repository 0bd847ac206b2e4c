import Derived.Test.YtbbicpheoakeeaaGreatDoorX3
set_option linter.all false
set_option maxRecDepth 100000
set_option maxHeartbeats 4000000
namespace Go.Sx
variable {rows rows2:List (List U)}{b c cap g i j k o o' sh wd:Nat}{e s t t2 ty:TypeId}{inf:TypeInfo}{fz:Nat×Nat}{b' c' l' v x x' y y' z:Value}{l:Loc}{g0 gs:G5}{cl nul sure:Bool}{d2 ds:TypeDesc}{bh:Beh}{cs cs' new' vs:C9}{td:Td}{row us:List U}{hi lo mx:P4}{op:BinOp}
section
open Go
variable [Ora]
section
variable {P:Program} {base:Nat} {ρ ρ':Ren} {m m':Mem} {w w':World}
def N7.move{R:Nat->Option Obj}{C C':U8}(h:N7 R rows wd C o)(p:∀ i,i<rows.length*wd->C'[o'+i]? = C[o+i]?):N7 R rows wd C' o':=by
 refine⟨h.1,fun r row j u v f a2 a3=>h.2 r row j u v f a2 ?_⟩;have d:=(B0.1 f).1;have a:=(B0.1 a2).1;rw[h.1 _ (C7 f)]at a;have n:(r+1)*wd<=rows.length*wd:=F1 wd d;rw[G8]at n
 have:=p (r*wd+j) A2;rw[show o+r*wd+j=o+(r*wd+j) by omega,<- this,show o'+(r*wd+j)=o'+r*wd+j by omega];exact a3
def N7.append{R:Nat->Option Obj}{C:U8}(h:N7 R rows wd C o)(k:N7 R rows2 wd C (o+rows.length*wd)):N7 R (rows++rows2) wd C o:=by
 refine⟨fun row hr=>(B6.1 hr).elim (h.1 row) (k.1 row),fun r row j u v a a2 a3=>?_⟩;rcases F2 r rows.length with d|d
 .rw[E6 d]at a;exact h.2 r row j u v a a2 a3
 .rw[D7 d]at a;refine k.2 (r-rows.length) row j u v a a2 ?_;have:rows.length*wd+(r-rows.length)*wd=r*wd:=by rw[<- G8];congr 1;omega
  rw[show o+rows.length*wd+(r-rows.length)*wd+j=o+r*wd+j by omega];exact a3
def A5g{t:Nat}{T:TypeId}{lg:Loc}{C:U8}(u:Ora.env c=.seq false wd rows)(p:t=10+wd)(hi:P.info? T=some inf)(q:inf.size=wd)(f:rows.length<=cap)(d:sh+cap*wd<=C.size)
  (a:N7 lg.G rows wd C sh) (r:ρ g=some lg) (hw:w.heap[b]? = some (.cells C T fz)) (n:∀ i,i<C.size->¬ (fz.1<=i/\i<fz.2)):BR P ρ (.sq c t T g false) ⟨b,sh,cap,rows.length,fun _=>none,true⟩ w :=
 ⟨⟨wd,inf,p,hi,q,.inr ⟨rfl,C,fz,T,rows,lg,hw,u,rfl,f,d,a.1,r,a.2,fun _=>⟨rfl,n⟩⟩⟩⟩
def bF{t:Nat}{T:TypeId}{lg:Loc}{C:U8}(h:HR P base ρ m.H w)(I:base<=w.heap.size)(A:v7 m c t T g=some (v,m'))(B:J2 ρ m.n m'.hi)
  (p:Ora.env c=.seq false wd rows) (u:t=10+wd) (hi:P.info? T=some inf) (E:inf.size=wd) (a:rows.length<=cap) (r:cap*wd<=C.size) (f:N7 lg.G rows wd C 0) (F:ρ g=some lg) (q:∀ i,i<C.size->¬ (fz.1<=i/\i<fz.2))
  (J:w'.os=w.os/\w'.tape=w.tape/\w'.output=w.output) (hh:w'.heap=w.heap.push (.cells C T fz)):∃ ρ',VR ρ' v (.slice (some ⟨w.heap.size,0,none⟩) rows.length cap)/\St P base ρ ρ' m m' w w':=by
 have d:ρ m.n=none:=by
  obtain⟨_,_,rfl⟩:=K6 A;exact B m.n (A6 _) (J9 _ _).2
 obtain⟨rfl,K,D⟩:=St.alloc (w':=w') (l:=⟨w.heap.size,0,cap,rows.length,fun _=>none,true⟩) h I A B J hh rfl (A5g p u hi E a A2 f (V4 d _ _ F) (by rw[hh];simp) q);exact⟨_,.own (.inr ⟨_,wd,rows,K,rfl,p,rfl,a,rfl⟩) (by rw[p];exact u.symm) rfl,D⟩
def mV{t id:Nat}{T:TypeId}{ab:AB}{lg:Loc}{C:U8}(h:HR P base ρ m.H w)(hle:id<=G9)(E:Hp.get m.H id=some ab)(B:ab.rw=true)(M:ρ id=some l)(r:l.on=true)
  (J:v7 (iH m id) c t T g=some (v,m')) (K:J2 ρ m.n m'.hi)
  (u:Ora.env c=.seq false wd rows) (I:t=10+wd) (hi:P.info? T=some inf) (N:inf.size=wd) (a:rows.length<=cap) (q:sh+cap*wd<=C.size) (f:N7 lg.G rows wd C sh) (O:ρ g=some lg) (D:∀ i,i<C.size->¬ (fz.1<=i/\i<fz.2))
  (Q:w'.os=w.os/\w'.tape=w.tape/\w'.output=w.output) (A:w'.heap.size=w.heap.size) (R:∀ k,k≠l.blk->w'.heap[k]? = w.heap[k]?) (hw:w'.heap[l.blk]? = some (.cells C T fz)) :
  ∃ ρ',VR ρ' v (.slice (some ⟨l.blk,sh,none⟩) rows.length cap)/\St P base ρ ρ' m m' w w':=by
 have d:ρ m.n=none:=by
  have p:=J;unfold v7 at p;rw[Z9]at p;obtain⟨_,_,rfl⟩:=K6 p;exact K m.n (A6 _) (J9 _ _).2
 obtain⟨rfl,S,L⟩:=St.move (w':=w') (l':=⟨l.blk,sh,cap,rows.length,fun _=>none,true⟩) h hle E B M J K (fun _=>⟨r,rfl⟩) Q A (fun k F=>R k (F r)) (A5g u I hi N a q f (V4 d _ _ O) hw D) (fun h=>by cases h);exact⟨_,.own (.inr ⟨_,wd,rows,S,rfl,u,rfl,a,rfl⟩) (by rw[u];exact I.symm) rfl,L⟩
def A4b:Loc:=⟨0,0,0,0,fun _=>none,false⟩
def zP{t:Nat}{T:TypeId}{old:Option Nat}(h:HR P base ρ m.H w)(hold:∀ b,old=some b->∃ ab l,b<=G9/\Hp.get m.H b=some ab/\ab.rw=true/\ρ b=some l/\l.on=false)
  (A:v7 (iG old m) c t T g=some (v,m')) (B:J2 ρ m.n m'.hi) (a:Ora.env c=.seq true wd []) (p:t=10+wd) (hi:P.info? T=some inf) (E:inf.size=wd):∃ ρ',VR ρ' v (.slice none 0 0)/\St P base ρ ρ' m m' w w:=by
 have d:∀ ρ':Ren,BR P ρ' (.sq c t T g false) A4b w:=fun ρ'=>⟨⟨wd,inf,p,hi,E,.inl ⟨rfl,a⟩⟩⟩
 cases old with
 | none =>
   obtain⟨rfl,u,r⟩:=St.new0 (l':=A4b) h A B (d _) rfl fun q f=>by
    rcases f with⟨_,f,_⟩|⟨f,_⟩<;>cases f
   exact⟨_,.own (.inl ⟨_,wd,u,rfl,a,rfl⟩) (by rw[a];exact p.symm) rfl,r⟩
 | some b =>
   obtain⟨ab,l,h1,C,h3,D,F⟩:=hold b rfl;obtain⟨rfl,u,r⟩:=St.move (w':=w) (l':=A4b) h h1 C h3 D A B (fun h=>by cases h) ⟨rfl,rfl,rfl⟩ rfl (fun _ _=>rfl) (d _) (fun h=>by cases h);exact⟨_,.own (.inl ⟨_,wd,u,rfl,a,rfl⟩) (by rw[a];exact p.symm) rfl,r⟩
def qW(h:HR P base ρ m.H w)(a:iI gs m=some (g,m'))(u:J2 ρ m.n m'.hi)(d:ρ j=some l):Hp.get m'.H j=Hp.get m.H j:=by
 have main:∀ {gs:G5},(bif gs.all (mY m)then match eU m fun b m=>some (undef,b,m)with
  | some (_,b,m)=>some (b,m)
  | none=>none else none)=some (g,m')->Hp.get m'.H j=Hp.get m.H j:=fun{gs} a=>by
  obtain⟨h1,a⟩:=A3 a;split at a
  .rename_i r b m1 q;cases a;obtain⟨m2,f,p,_⟩:=P6 q;cases p;rw[jP f (h.dom j l d),A8];intro e;subst e;obtain⟨_,_,rfl⟩:=K6 f;rw[u m.n (A6 _) (J9 _ _).2]at d;cases d
  .cases a
 unfold iI at a;split at a
 .obtain⟨h1,a⟩:=A3 a;cases a;rfl
 .exact main a
def M2(a:iI gs m=some (g,m')):m.hi<=m'.hi/\m'.lg=m.lg/\m.n<=m'.n:=by
 have main:∀ {gs:G5},(bif gs.all (mY m)then match eU m fun b m=>some (undef,b,m)with
  | some (_,b,m)=>some (b,m)
  | none=>none else none)=some (g,m')->m.hi<=m'.hi/\m'.lg=m.lg/\m.n<=m'.n:=fun{gs} a=>by
  obtain⟨h1,a⟩:=A3 a;split at a
  .rename_i r b m1 f;cases a;obtain⟨m2,p,d,_⟩:=P6 f;cases d;obtain⟨_,_,rfl⟩:=K6 p;exact⟨(J9 _ _).1,rfl,Y3 _⟩
  .cases a
 unfold iI at a;split at a
 .obtain⟨h1,a⟩:=A3 a;cases a;exact⟨A6 _,rfl,A6 _⟩
 .exact main a
def A79(nul:Bool)(wd:Nat)(rows:List (List U)):List (List U)->U
 | []=>.seq nul wd rows
 | r0::r=>.seq false wd (rows++r0::r)
def IL(h:∃ n w r,kM nul wd rows rows2=.seq n w r):rows.length+rows2.length<=qE/\kM nul wd rows rows2=A79 nul wd rows rows2:=by
 by_cases a:rows.length+rows2.length<=qE
 .refine⟨a,?_⟩;unfold kM;rw[A9 a];cases rows2<;>rfl
 .unfold kM at h;rw[A8 a]at h;obtain⟨_,_,_,h⟩:=h;cases h
def NI{old:Option Nat} 
  (hu:P.underlying t=some (.slice e)) (Z:P.underlying t2=some d2) (T:bV d2=true) (hi:P.info? e=some inf) (hz:eB P e=some z) (bz:z.cells.size=inf.size) (bq:inf.bytes<=90000)
  (h:HR P base ρ m.H w) (hb:base<=w.heap.size) (E:FV m e inf.size c old bh (g0++gs)=some (v,m')) (hf:J2 ρ m.n m'.hi) (hS:Sat m'.lg)
  (aq:A0V P base ρ m w e inf.size c g0 old x') (d:SE P ρ w inf.size bh gs y' rows2 new'):VOk P base ρ m w (Builtin.append_ #[t,t2] ty #[x',y']) v m':=by
 unfold FV at E;split at E
 .rename_i g m1 hj;rw[M9]at E;have bo:=M2 hj;generalize bk:dY m1 (10+inf.size) (cB inf.size (hole c (10+inf.size)) bh).1 (cB inf.size (hole c (10+inf.size)) bh).2=lg1 at E;have aa:m'.lg=lg1/\m1.hi<=m'.hi/\m1.n<=m'.n:=by
   unfold v7 at E;cases old with
   | none =>
     simp only[iG]at E;obtain⟨_,_,rfl⟩:=K6 E;exact⟨by simp,by simpa using(J9 m1.hi m1.n).1,by simp⟩
   | some b =>
     simp only[iG,Z9]at E;obtain⟨_,_,rfl⟩:=K6 E;exact⟨by simp,by simpa using(J9 m1.hi m1.n).1,by simp⟩
  have aj:J2 ρ m.n m1.hi:=hf.less aa.2.1;obtain⟨N,lg,e1,e2,e3,e4,e5,e6⟩:=dM h hj aj;have p:St P base ρ N m (m1.wLg lg1) w w:=St.trans (by simpa using aj) e1 (St.wLg e1.hr lg1);have J:J2 N (m1.wLg lg1).n m'.hi:=by simpa using hf.step e1
  have bn:Sat (m1.wLg lg1).lg:=by simpa [<- aa.1]using hS
  obtain⟨nul,rows,hc,hx⟩:=aq.ex;obtain⟨d1,d2,nx,bj,rws,d3,d4⟩:=iK (m:=m1) (t:=10+inf.size) (op:=(cB inf.size (hole c (10+inf.size)) bh).1) (xs:=(cB inf.size (hole c (10+inf.size)) bh).2) (lg:=lg1) (by simpa using bn) (by rw[Z1,bk];exact .refl _);rw[d.ev c nul rows hc]at d1;obtain⟨ar,af⟩:=IL ⟨nx,bj,rws,d1.symm.trans d3⟩;rw[af]at d1;have bt:∀ b ∈ g0,∀ l,ρ b=some l->Sub l.G lg.G:=fun b W l hl=>e6 b (B6.2 (.inl W)) l hl
  have br:∀ b ∈ gs,∀ l,ρ b=some l->Sub l.G lg.G:=fun b W l hl=>e6 b (B6.2 (.inr W)) l hl
  have al:=d.rows lg.G br;have D:∀ {v':Value} {ρ2:Ren} {w2:World},(Builtin.append_ #[t,t2] ty #[x',y']).run P w=.ok v' w2->VR ρ2 v v'->St P base N ρ2 (m1.wLg lg1) m' w w2->VOk P base ρ m w (Builtin.append_ #[t,t2] ty #[x',y']) v m':=fun hr hv hs =>
   ⟨_,_,_,hr,hv,St.trans hf p hs⟩
  have bw:∀ w,(zeroValue e).run P w=.ok z w:=fun w=>o9 hz w
  have au:∀ {j l},ρ j=some l->Hp.get (m1.wLg lg1).H j=Hp.get m.H j:=fun bl=>by rw[iY];exact qW h hj aj bl
  have L:(3*(rows.length+rows2.length)+4000)*inf.bytes<=281474976710656:=by
   have h1:3*(rows.length+rows2.length)+4000<=3000004000:=by unfold qE at ar;omega
   have h2:=u5 h1 bq;omega
  have X:rows.length+rows2.length<=1000000000:=ar;rcases hx with⟨rfl,rfl,rfl,hold⟩|⟨rfl,b,ab,l,cap,C,fz,rfl,an,bs,Q,ag,ae,rfl,F,ax,V,R,ah⟩
  ·
   have Y:∀ b,old=some b->∃ ab l,b<=G9/\Hp.get (m1.wLg lg1).H b=some ab/\ab.rw=true/\N b=some l/\l.on=false:=fun b W=>by
    obtain⟨ab,l,I,O,q3,q4,q5⟩:=hold b W;exact⟨ab,l,I,by rw[au q4];exact O,q3,e1.ext _ _ q4,q5⟩
   cases f:rows2 with
   | nil =>
     subst f;have B:Ora.env m1.lg.nx=.seq true inf.size []:=d1;obtain⟨ρ2,I,O⟩:=zP p.hr Y E J B rfl hi rfl;have ao:new'=[]:=F6.1 (by rw[d.size];simp);exact D (sC hu Z T hi (fun wd=>d.len wd) (by have:=d.first w rfl;rw[ao]at this;exact this)) I O
   | cons r0 rr =>
     rw[f]at d1;have B:Ora.env m1.lg.nx=.seq false inf.size rows2:=by rw[f];exact d1
     obtain⟨nc,ay,q⟩:=fI (P:=P) (w:=w) (ty:=ty) (a:=none) (n:=0) (c:=0) (k:=rows2.length) (old':=[]) (new':=new') (x':=y') hu Z T hi bw (fun wd=>d.len wd) (fun _ _=>rfl) (fun wd hw=>d.first wd hw) (by rw[f];simp) (by simpa using L) (by simpa using X);obtain⟨m2,bm,az⟩:∃ m2,v7 m2 m1.lg.nx (10+inf.size) e g=some (v,m')/\St P base N N (m1.wLg lg1) m2 w w:=by
      cases old with
      | none=>exact⟨_,E,St.refl p.hr⟩
      | some b =>
        obtain⟨ab,l,I,O,q3,q4,q5⟩:=Y b rfl;exact⟨_,E,St.kill p.hr I O q3⟩
     obtain⟨ρ2,I,O⟩:=bF (w':={ w.drew with heap:=w.heap.push (.cells (({ toList:=[] }:Array Value)++⟨new'⟩++Builtin.zeroCells z.cells (nc-(0+rows2.length))) e (0,0)) }) (cap:=nc) az.hr hb bm (J.step az) B rfl hi rfl A2
      (by have:=cS (s:=inf.size) (k:=rows2.length) (n:=0) (nc:=nc) (z:=z) (old':=[]) d.size ay bz (by simp);exact this)
      (al.move (C':=({ toList:=[] }:Array Value)++⟨new'⟩++Builtin.zeroCells z.cells (nc-(0+rows2.length))) (o':=0) fun i hi'=>by
        have bx:i<new'.length:=by rw[d.size];exact hi'
        rw[E8 i];rw[HL (A5 bx)];simp[bx]) (az.ext _ _ e4) (fun i _ hh=>by have h1:0<=i:=hh.1;have h2:i<0:=hh.2;omega) ⟨rfl,rfl,rfl⟩ rfl
     exact D q (by rw[E8];exact I) (St.trans J az O)
  ·
   have ak:Hp.get (m1.wLg lg1).H b=some ab:=by rw[au ag];exact bs
   have r:=ah lg.G bt;have aw:=e1.ext _ _ ag;cases f:rows2 with
   | nil =>
     subst f;have B:Ora.env m1.lg.nx=.seq false inf.size rows:=d1;have ao:new'=[]:=F6.1 (by rw[d.size];simp);obtain⟨ρ2,I,O⟩:=mV (w':=w) (cap:=cap) (sh:=l.sh) p.hr an ak Q aw ae E J B rfl hi rfl ax V r e4 R ⟨rfl,rfl,rfl⟩ rfl (fun _ _=>rfl) F;have q:=lG (P:=P) (w:=w) (w':=w) (ty:=ty) (a:=⟨l.blk,l.sh,none⟩) (n:=rows.length) (k:=0) (c:=cap) (new':=new') hu Z T hi (fun wd=>d.len wd) (d.first w rfl) A2 (by rw[ao];rfl);exact D q I O
   | cons r0 rr =>
     have B:Ora.env m1.lg.nx=.seq false inf.size (rows++rows2):=by rw[f]at d1 ⊢;exact d1
     by_cases K:rows.length+rows2.length<=cap
     .have av:(rows.length+rows2.length)*inf.size<=cap*inf.size:=F1 _ K;rw[G8]at av;obtain⟨w',r1,r2,r3,r4,r5⟩:=X9 (P:=P) (b:=l.blk) (o:=rows.length*inf.size+l.sh) (fz:=fz) new' 0 C w F d.flat (by rw[d.size];omega) R;have ai:(Addr.mk l.blk l.sh none).add (rows.length*inf.size)=⟨l.blk,rows.length*inf.size+l.sh,none⟩:=by
       unfold Addr.add;split
       .rename_i h0;rw[h0];simp
       .simp[hZ]
      have q:=lG (P:=P) (w:=w) (w':=w') (ty:=ty) (a:=⟨l.blk,l.sh,none⟩) (n:=rows.length) (k:=rows2.length) (c:=cap) (new':=new') hu Z T hi (fun wd=>d.len wd) (d.first w rfl) K (by rw[ai];exact r1);have S:(Array.mk (bD C.toList (rows.length*inf.size+l.sh+0) new')).size=C.size:=by simp[Y0]
      have ad:∀ j,(Array.mk (bD C.toList (rows.length*inf.size+l.sh+0) new'))[j]? = if rows.length*inf.size+l.sh<=j/\j<rows.length*inf.size+l.sh+new'.length then new'[j-(rows.length*inf.size+l.sh)]? else C[j]? := fun j=>by
       rw[I0,jM _ _ _ _ (by simp;rw[d.size];omega)];simp
      obtain⟨ρ2,I,O⟩:=mV (w':=w') (cap:=cap) (sh:=l.sh) (C:=⟨bD C.toList (rows.length*inf.size+l.sh+0) new'⟩) p.hr an ak Q aw ae E J B rfl hi rfl (by simpa using K) (by rw[S];exact V)
       (N7.append (r.move (o':=l.sh) fun i hi'=>by rw[ad,A8 A2]) (al.move (o':=l.sh+rows.length*inf.size) fun i hi'=>by
         rw[ad,A9 (by rw[d.size];omega),show l.sh+rows.length*inf.size+i-(rows.length*inf.size+l.sh)=i by omega,E8];simp)) e4 (by rw[S];exact R) r2 r3 r5 r4
      rw[B8]at I;exact D q I O
     .have hold:∃ old',old'.length=rows.length*inf.size/\(∀ i,i<rows.length*inf.size->old'[i]? = C[l.sh+i]?)/\∀ wd:World,wd.heap=w.heap->(Builtin.firstCells inf.size rows.length (.slice (some ⟨l.blk,l.sh,none⟩) rows.length cap)).run P wd=.ok ⟨old'⟩ wd:=by
       have av:rows.length*inf.size<=cap*inf.size:=F1 _ ax;have hlen:((C.toList.drop l.sh).take (rows.length*inf.size)).length=rows.length*inf.size:=by simp;omega
       refine⟨(C.toList.drop l.sh).take (rows.length*inf.size),hlen,fun i hi'=>?_,fun wd hw=>?_⟩
       .rw[F4 hi',H3];simp
       .rw[show Builtin.firstCells inf.size rows.length (.slice (some ⟨l.blk,l.sh,none⟩) rows.length cap)=loadCells ⟨l.blk,l.sh,none⟩ (rows.length*inf.size)from rfl];refine J3 hlen fun j v' hj=>?_
        have bu:=(B0.1 hj).1;rw[hlen]at bu;rw[F4 bu,H3]at hj;rw[aF hw];have bp:C[l.sh+j]? = some v':=by simpa using hj
        simp[World.cell?,F,bp]
      obtain⟨old',o1,o2,o3⟩:=hold;obtain⟨nc,ay,q⟩:=fI (P:=P) (w:=w) (ty:=ty) (a:=some ⟨l.blk,l.sh,none⟩) (n:=rows.length) (c:=cap) (k:=rows2.length) (old':=old') (new':=new') (x':=y') hu Z T hi bw (fun wd=>d.len wd) o3 (fun wd hw=>d.first wd hw) K L X;have A:=St.kill p.hr an ak Q;obtain⟨ρ2,I,O⟩:=bF (w':={ w.drew with heap:=w.heap.push (.cells (({ toList:=old' }:Array Value)++⟨new'⟩++Builtin.zeroCells z.cells (nc-(rows.length+rows2.length))) e (0,0)) }) (cap:=nc) A.hr hb E (J.step A) B rfl hi rfl (by simpa using ay)
       (cS d.size ay bz o1)
       (N7.append (r.move (C':=({ toList:=old' }:Array Value)++⟨new'⟩++Builtin.zeroCells z.cells (nc-(rows.length+rows2.length))) (o':=0) fun i hi'=>by
         have M:i<old'.length:=by rw[o1];exact hi'
         rw[E8 i,<- o2 i hi',cT (u:=old'[i]) (by rw[E6 M,A5 M]),A5 M]) (al.move (o':=0+rows.length*inf.size) fun i hi'=>by
         have M:i<new'.length:=by rw[d.size];exact hi'
         rw[E8 (rows.length*inf.size),E8 i,cT (u:=new'[i]) (by rw[D7 (by rw[o1];omega),o1,U9,A5 M])];simp[M])) (A.ext _ _ e4) (fun i _ hh=>by have h1:0<=i:=hh.1;have h2:i<0:=hh.2;omega) ⟨rfl,rfl,rfl⟩ rfl
      rw[B8]at I;exact D q I (St.trans J A O)
 .cases E
end
end
section
open Go
variable [Ora]
section
variable {P:Program} {base:Nat} {ρ ρ':Ren} {m m':Mem} {w w':World}
def A0y{a:Addr} 
  (hu:P.underlying t=some (.slice e)) (av:P.underlying t2=some d2) (Y:bV d2=true) (hi:P.info? e=some inf) (hz:eB P e=some z) (aw:z.cells.size=inf.size) (T:inf.bytes<=90000)
  (h:HR P base ρ m.H w) (hb:base<=w.heap.size) (q:FV m e inf.size c none bh (b::gs)=some (v,m')) (V:J2 ρ m.n m'.hi) (hS:Sat m'.lg)
  (hc:Ora.env c=.seq false inf.size rows) (hl:ρ b=some l) (B:Enc l.G (Ora.env c) (.slice (some a) rows.length rows.length)) (d:SE P ρ w inf.size bh gs y' rows2 new') (p:rows2≠[]) :
  VOk P base ρ m w (Builtin.append_ #[t,t2] ty #[.slice (some a) rows.length rows.length,y']) v m':=by
 unfold FV at q;split at q
 .rename_i g m1 N;rw[M9]at q;have X:=M2 N;generalize ax:dY m1 (10+inf.size) (cB inf.size (hole c (10+inf.size)) bh).1 (cB inf.size (hole c (10+inf.size)) bh).2=lg1 at q;have q:v7 (m1.wLg lg1) m1.lg.nx (10+inf.size) e g=some (v,m'):=q;have K:m'.lg=lg1/\m1.hi<=m'.hi/\m1.n<=m'.n:=by
   unfold v7 at q;obtain⟨_,_,rfl⟩:=K6 q;exact⟨by simp,by simpa using(J9 m1.hi m1.n).1,by simp⟩
  have F:J2 ρ m.n m1.hi:=V.less K.2.1;obtain⟨E,lg,O,e2,e3,e4,e5,e6⟩:=dM h N F;have A:St P base ρ E m (m1.wLg lg1) w w:=St.trans (by simpa using F) O (St.wLg O.hr lg1);have ay:J2 E (m1.wLg lg1).n m'.hi:=by simpa using V.step O
  have Z:Sat (m1.wLg lg1).lg:=by simpa [<- K.1]using hS
  obtain⟨d1,d2,nx,ar,rws,d3,d4⟩:=iK (m:=m1) (t:=10+inf.size) (op:=(cB inf.size (hole c (10+inf.size)) bh).1) (xs:=(cB inf.size (hole c (10+inf.size)) bh).2) (lg:=lg1) (by simpa using Z) (by rw[Z1,ax];exact .refl _);rw[d.ev c false rows hc]at d1;obtain⟨C,J⟩:=IL ⟨nx,ar,rws,d1.symm.trans d3⟩;rw[J]at d1;have R:Sub l.G lg.G:=e6 b (.head _) l hl;have S:∀ b ∈ gs,∀ l,ρ b=some l->Sub l.G lg.G:=fun b az l hl=>e6 b (.tail _ az) l hl
  have W:=d.rows lg.G S;have au:∀ w,(zeroValue e).run P w=.ok z w:=fun w=>o9 hz w
  have r:(3*(rows.length+rows2.length)+4000)*inf.bytes<=281474976710656:=by
   have h1:3*(rows.length+rows2.length)+4000<=3000004000:=by unfold qE at C;omega
   have h2:=u5 h1 T;omega
  have D:rows.length+rows2.length<=1000000000:=C;have aq:0<rows2.length:=cE.2 p;have Q:Ora.env m1.lg.nx=.seq false inf.size (rows++rows2):=by
   cases rows2 with
   | nil=>exact absurd rfl p
   | cons r0 rr=>exact d1
  rw[hc]at B;obtain⟨_,old',M,o2,o3,o4⟩:=rL (w:=w) (B.mono R) ((O.hr.atl e4 e5).1.2);have o5:∀ wd:World,wd.heap=w.heap->(Builtin.firstCells inf.size rows.length (.slice (some a) rows.length rows.length)).run P wd=.ok ⟨old'⟩ wd:=fun wd hw=>by
   rw[show Builtin.firstCells inf.size rows.length (.slice (some a) rows.length rows.length)=loadCells a (rows.length*inf.size)from rfl];exact jW M fun j v' N=>by rw[aF hw];exact o4 j v' N
  obtain⟨nc,L,I⟩:=fI (P:=P) (w:=w) (ty:=ty) (a:=some a) (n:=rows.length) (c:=rows.length) (k:=rows2.length) (old':=old') (new':=new') (x':=y') hu av Y hi au (fun wd=>d.len wd) o5 (fun wd hw=>d.first wd hw) A2 r D;obtain⟨ρ2,q1,q2⟩:=bF (w':={ w.drew with heap:=w.heap.push (.cells (({ toList:=old' }:Array Value)++⟨new'⟩++Builtin.zeroCells z.cells (nc-(rows.length+rows2.length))) e (0,0)) }) (cap:=nc) A.hr hb q ay Q rfl hi rfl (by simpa using L)
   (cS d.size L aw M)
   (N7.append (o3.move (C':=({ toList:=old' }:Array Value)++⟨new'⟩++Builtin.zeroCells z.cells (nc-(rows.length+rows2.length))) (o':=0) fun i hi'=>by
     have f:i<old'.length:=by rw[M];exact hi'
     rw[E8 i,cT (u:=old'[i]) (by rw[E6 f,A5 f])];simp[f]) (W.move (o':=0+rows.length*inf.size) fun i hi'=>by
     have f:i<new'.length:=by rw[d.size];exact hi'
     rw[E8 (rows.length*inf.size),E8 i,cT (u:=new'[i]) (by rw[D7 (by rw[M];omega),M,U9,A5 f])];simp[f])) e4 (fun i _ hh=>by have h1:0<=i:=hh.1;have h2:i<0:=hh.2;omega) ⟨rfl,rfl,rfl⟩ rfl
  rw[B8]at q1;exact⟨_,_,_,I,q1,St.trans V A q2⟩
 .cases q
def SA(d:xO P td)(a:A0B td P m e wd y=some (bh,gs,sure,m')):m.hi<=m'.hi/\m.lg.le m'.lg/\m.n<=m'.n:=by
 unfold A0B at a;split at a
 .cases a;exact⟨A6 _,.refl _,A6 _⟩
 .split at a
  .split at a
   .rename_i f;cases a;exact R1 d f
   .cases a
  .cases a
 .split at a
  .rename_i f;cases a;exact d.mono f
  .cases a
 .obtain⟨h1,a⟩:=A3 a;cases a;exact⟨A6 _,.refl _,A6 _⟩
def gY(d:xO P td){old:Option Nat}(a:BA td P m e wd x=some (c,gs,old,m')):m.hi<=m'.hi/\m.lg.le m'.lg/\m.n<=m'.n:=by
 unfold BA at a;split at a
 .rw[M9]at a;simp only[hole]at a;cases a;exact⟨by simp,U6,by simp⟩
 .split at a
  .obtain⟨h1,a⟩:=A3 a;cases a;exact⟨A6 _,.refl _,A6 _⟩
  .cases a
 .split at a
  .obtain⟨h1,a⟩:=A3 a;split at a
   .rename_i f;split at a
    .obtain⟨h1,a⟩:=A3 a;rw[M9]at a;simp only[hole]at a;cases a
     have:=R1 d f;exact⟨by simpa using this.1,this.2.1.trans U6,by simpa using this.2.2⟩
    .cases a
   .cases a
  .cases a
 .cases a
def g7{t:Nat}{T:TypeId}(h:v7 m c t T g=some (v,m')):m.hi<=m'.hi/\m'.lg=m.lg/\m.n<=m'.n:=by
 unfold v7 at h;obtain⟨_,_,rfl⟩:=K6 h;exact⟨(J9 _ _).1,rfl,Y3 _⟩
def y9(old:Option Nat)(m:Mem):(iG old m).hi=m.hi/\(iG old m).lg=m.lg/\(iG old m).n=m.n:=by
 cases old with
 | none=>exact⟨rfl,rfl,rfl⟩
 | some b=>simp[iG,Z9]
def lI{old:Option Nat}(d:FV m e wd c old bh gs=some (v,m')):m.hi<=m'.hi/\m.lg.le m'.lg/\m.n<=m'.n:=by
 unfold FV at d;split at d
 .rename_i g m1 p;rw[M9]at d;have a:=M2 p;have b:=g7 d;obtain⟨q,r,f⟩:=y9 old (m1.wLg (dY m1 (10+wd) (cB wd (hole c (10+wd)) bh).1 (cB wd (hole c (10+wd)) bh).2));refine⟨?_,?_,?_⟩
  .have:=b.1;rw[q]at this;simp at this;omega
  .rw[b.2.1,r,<- a.2.1];exact U6
  .have:=b.2.2;rw[f]at this;simp at this;omega
 .cases d
def KO{t:Nat}{T:TypeId}{old:Option Nat}(h:HR P base ρ m.H w)(hold:∀ b,old=some b->b<=G9/\Hp.get m.H b≠some .frz)(f:v7 (iG old m) c t T g=some (v,m'))(q:J2 ρ m.n m'.hi):c9 ρ m m':=fun j l h1 a=>by
 have p:=y9 old m;unfold v7 at f;rw[jP f (h.dom j l h1),A8]
 .cases old with
  | none=>exact a
  | some b =>
    show Hp.get (iH m b).H j=_;rw[Z9];show Hp.get (m.H.set b none) j=_;obtain⟨r,d⟩:=hold b rfl;rw[E5 _ _ _ _ r (h.dom j l h1),A8]
    .exact a
    .intro e;subst e;exact d a
 .intro e;obtain⟨_,_,rfl⟩:=K6 f;rw[p.2.2]at e;subst e;rw[q m.n (A6 _) (Nat.lt_of_le_of_lt (Nat.le_of_eq p.2.2.symm) (J9 (iG old m).hi (iG old m).n).2)]at h1;cases h1
omit [Ora] in
def JY(h:P.info? e=some inf):G3 P e=some inf.size:=by unfold G3;rw[h]
def zM(f:xO P td)(d:RB td P m e wd x=some (v,m')):m.hi<=m'.hi/\m.lg.le m'.lg/\m.n<=m'.n:=by
 unfold RB at d;split at d
 .obtain⟨_,d⟩:=A3 d;split at d
  .rename_i q;have a:=gY f q;split at d
   .rename_i p;have b:=M2 p;have c:=g7 d;refine⟨?_,?_,?_⟩
    .have:=c.1;rw[(y9 _ _).1]at this;omega
    .rw[c.2.1,(y9 _ _).2.1,b.2.1];exact a.2.1
    .have:=c.2.2;rw[(y9 _ _).2.2]at this;omega
   .cases d
  .cases d
 .cases d
def NM(Y:xO P td)(h:HR P base ρ m.H w)(d:RB td P m e wd x=some (v,m'))(Z:J2 ρ m.n m'.hi)(hx:VR ρ x x')(hS:Sat m'.lg) :
  ∃ ρ',VR ρ' v x'/\St P base ρ ρ' m m' w w/\m.lg.le m'.lg/\c9 ρ m m':=by
 unfold RB at d;split at d
 .rename_i inf hi;obtain⟨h1,d⟩:=A3 d;obtain⟨h1,h2⟩:=B3 h1;have h1:=A0 h1;have h2:0<wd:=A1 h2;split at d
  .rename_i c gs old m1 N;have a:=gY Y N;split at d
   .rename_i g m2 hj;have b:=M2 hj;have cm:=g7 d;have k1:=y9 old m2;have X:m'.lg=m1.lg:=by rw[cm.2.1,k1.2.1,b.2.1]
    have E:m2.hi<=m'.hi:=by have:=cm.1;rw[k1.1]at this;exact this
    obtain⟨O,D,e2,e3,e4⟩:=IX Y h N (Z.less (B9 b.1 E)) hx (by rw[<- X];exact hS) h2 (h1▸JY hi);have p:J2 O m1.n m'.hi:=Z.step D;obtain⟨ρ2,lg,u,j2,j3,j4,j5,j6⟩:=dM D.hr hj (p.less E);have L:J2 ρ2 m2.n m'.hi:=p.step u;obtain⟨nul,rows,hc,aw⟩:=e4.ex;have B:∀ {j l},O j=some l->Hp.get m2.H j=Hp.get m1.H j:=fun ay=>qW D.hr hj (p.less E) ay
    have hle:m.lg.le m'.lg:=by rw[X];exact a.2.1
    have f:(∀ b,old=some b->b<=G9/\Hp.get m2.H b≠some .frz)->c9 ρ m m':=fun hq=>(e3.trans D.ext j3).trans (fun b l N=>u.ext b l (D.ext b l N)) (KO u.hr hq d L)
    rcases aw with⟨rfl,rfl,rfl,hold⟩|⟨rfl,b0,ab,l,cap,C,fz,rfl,R,az,A,V,ax,rfl,I,S,K,T,Q⟩
    .have r:∀ b,old=some b->∃ ab l,b<=G9/\Hp.get m2.H b=some ab/\ab.rw=true/\ρ2 b=some l/\l.on=false:=fun b q=>by
      obtain⟨ab,l,J,M,q3,q4,q5⟩:=hold b q;exact⟨ab,l,J,by rw[B q4];exact M,q3,u.ext _ _ q4,q5⟩
     obtain⟨F,J,M⟩:=zP u.hr r d L hc rfl hi h1;exact⟨F,J,St.trans Z D (St.trans p u M),hle,f fun b q=>by
      obtain⟨ab,l,J,M,q3,_⟩:=r b q;exact⟨J,fun he=>by rw[M]at he;cases he;cases q3⟩⟩
    .have W:Hp.get m2.H b0=some ab:=by rw[B V];exact az
     obtain⟨F,J,M⟩:=mV (w':=w) (cap:=cap) (sh:=l.sh) u.hr R W A (u.ext _ _ V) ax d L hc rfl hi h1 S K (Q lg.G fun b N l hl=>j6 b N l hl) j4 T ⟨rfl,rfl,rfl⟩ rfl (fun _ _=>rfl) I;exact⟨F,J,St.trans Z D (St.trans p u M),hle,f fun b q=>by
      cases q;exact⟨R,fun he=>by rw[W]at he;cases he;cases A⟩⟩
   .cases d
  .cases d
 .cases d
def MM:∀ (d:Nat),xO P (SS P d)
 | 0=>ST
 | d+1=>by
   have u:=MM d;refine⟨fun{base ρ m m' w t v v' x b} h f p hv r=>?_,fun{m m' t v x b} f=>?_⟩
   .unfold SS at f;split at f
    .split at f
     .split at f
      .rename_i E m1 q;have a:=fC f;obtain⟨D,B,n,C,A⟩:=NM u h q (p.less a.1) hv (r.le a.2.1);obtain⟨ρ2,l,d1,d2,d3,d4,d5,d6⟩:=BL n.hr f (p.step n) B r;exact⟨ρ2,l,St.trans p n d1,d2,d3,d4,d5,C.trans d6,A.trans n.ext (EN n.hr f (p.step n))⟩
      .cases f
     .cases f
    .exact ST.ok h f p hv r
   .unfold SS at f;split at f
    .split at f
     .split at f
      .rename_i E m1 q;have a:=zM u q;have b:=fC f;exact⟨B9 a.1 b.1,a.2.1.trans b.2.1,B9 a.2.2 b.2.2⟩
      .cases f
     .cases f
    .exact fC f
def U0:xO P (tdP P):=MM 3
def DT(d:qG P m t t2 x y=some (v,m')):m.hi<=m'.hi/\m.lg.le m'.lg/\m.n<=m'.n:=by
 unfold qG at d;split at d
 .rename_i e d2 hu r;cases p:bV d2 with
  | false=>rw[p]at d;cases d
  | true =>
    rw[p]at d;simp only[P1,D4]at d;split at d
    .obtain⟨_,d⟩:=A3 d;split at d
     .rename_i f;have a:=SA U0 f;split at d
      .rename_i q;have b:=gY U0 q;have c:=lI d;exact⟨A2,a.2.1.trans (b.2.1.trans c.2.1),A2⟩
      .split at d
       .obtain⟨_,d⟩:=A3 d;have c:=lI d;exact⟨A2,a.2.1.trans c.2.1,A2⟩
       .cases d
     .cases d
    .cases d
 .cases d
def SE.step(h:SE P ρ w wd bh gs y' rows2 new')(f:∀ b ∈ gs,∃ l,ρ b=some l)(he:∀ b l,ρ b=some l->ρ' b=some l):SE P ρ' w wd bh gs y' rows2 new' :=
 ⟨h.len,h.first,h.size,h.flat,fun R hR=>h.rows R fun b a l d=>hR b a l (he b l d),h.ev⟩
def SG{n:Nat}(h:SH P e n=true):∃ z,eB P e=some z/\z.cells.size=n:=by
 unfold SH at h;split at h
 .rename_i z a;exact⟨z,a,A0 h⟩
 .cases h
def MC(h:HR P base ρ m.H w)(Q:base<=w.heap.size)(q:qG P m t t2 x y=some (v,m'))(C:J2 ρ m.n m'.hi)(hx:VR ρ x x')(hy:VR ρ y y')(M:Sat m'.lg) :
  VOk P base ρ m w (Builtin.append_ #[t,t2] ty #[x',y']) v m':=by
 unfold qG at q;split at q
 .rename_i e d2 hu K;cases p:bV d2 with
  | false=>rw[p]at q;cases q
  | true =>
    rw[p]at q;simp only[P1,D4]at q;split at q
    .rename_i inf hi;obtain⟨hq,d⟩:=A3 q;clear q;obtain⟨aw,av⟩:=B3 hq;obtain⟨az,Y⟩:=B3 aw;have E:=A1 az;have L:0<inf.size:=A1 Y;obtain⟨z,Z,J⟩:=SG av;have I:G3 P e=some inf.size:=by unfold G3;rw[hi]
     split at d
     .rename_i bh gs sure m1 B;split at d
      .rename_i c g0 old m2 R;have mb:=gY U0 R;have mp:=lI d;have G:J2 ρ m.n m1.hi:=C.less A2;obtain⟨A,rows2,new',u,a2,a3,a4,a5,a6⟩:=PS U0 h B G hy (M.le (mb.2.1.trans mp.2.1)) L I;have r:J2 A m1.n m'.hi:=C.step u;obtain⟨ρ2,W,b2,b3,b4⟩:=IX U0 u.hr R (r.less mp.1) (hx.mono u.ext) (M.le mp.2.1) L I;obtain⟨v',f,w3,S,V,T⟩:=NI (ty:=ty) hu K p hi Z J E W.hr Q d (r.step W) M b4 (a5.step (fun b ay=>(a4 b ay).2) W.ext);exact⟨v',f,w3,S,V,St.trans C (St.trans (C.less mp.1) u W) T⟩
      .split at d
       .rename_i b c tg ar;obtain⟨N,F⟩:=A3 d;clear d;have N:=A0 N;have mp:=lI F;have G:J2 ρ m.n m1.hi:=C.less A2;obtain⟨A,rows2,new',u,a2,a3,a4,a5,a6⟩:=PS U0 h B G hy (M.le mp.2.1) L I;have r:J2 A m1.n m'.hi:=C.step u;obtain⟨l,d1,d2,d3,d4,d5⟩:=eH hx;obtain⟨nul,au,rows,X,q2⟩:=eM d2 d3 d4;have ax:au=inf.size:=A2;subst ax;rw[X]at d2;rcases m6 d2 with⟨rfl,rfl,rfl⟩|⟨rfl,a,cap,rfl,hc⟩
        .have D:A0V P base A m1 w e inf.size c [b] none (.slice none 0 0):=⟨true,[],X,.inl ⟨rfl,rfl,rfl,fun b Q=>by cases Q⟩⟩;obtain⟨v',f,w3,S,V,T⟩:=NI (ty:=ty) (g0:=[b]) (gs:=gs) hu K p hi Z J E u.hr Q F r M D a5;exact⟨v',f,w3,S,V,St.trans C u T⟩
        .have O:cap=rows.length:=d5;subst O;obtain⟨v',f,w3,S,V,T⟩:=A0y (ty:=ty) hu K p hi Z J E u.hr Q F r M X (u.ext _ _ d1) (by rw[X];exact d2) a5 (a6 rfl);exact⟨v',f,w3,S,V,St.trans C u T⟩
       .cases d
     .cases d
    .cases q
 .cases q
end
end
section
open Go
variable [Ora]
section
variable {P:Program} {base:Nat} {ρ ρ':Ren} {m m':Mem} {w w':World}
def FO(h:o+us.length<=row.length):(vH row o us).length=row.length:=by
 unfold vH;simp;omega
def US(h:o+us.length<=row.length):(vH row o us)[j]? = if o<=j/\j<o+us.length then us[j-o]? else row[j]? := by
 unfold vH;have a:(row.take o).length=o:=by simp;omega
 by_cases h1:j<o
 .rw[A8 A2,L9,E6 A2,F4 h1]
 .by_cases d:j<o+us.length
  .rw[A9 ⟨A2,d⟩,L9,D7 A2,a,E6 A2]
  .rw[A8 A2,D7 (by simp;omega),H3];congr 1
   simp;omega
def N7.set{R:Nat->Option Obj}{s:Nat}{C C':U8}(h:N7 R rows wd C s)(E:k<rows.length)(I:o+us.length<=wd)(he:X7 R us vs)
  (hC:∀ j,C'[j]? = if s+k*wd+o<=j/\j<s+k*wd+o+vs.length then vs[j-(s+k*wd+o)]? else C[j]?):N7 R (rows.set k (vH (rows.getD k []) o us)) wd C' s:=by
 have a:rows[k]? = some rows[k]:=A5 E;have A:rows.getD k []=rows[k]:=by rw[B2,a];rfl
 have p:rows[k].length=wd:=h.1 _ (M8 E);rw[A];refine⟨fun row hr=>?_,fun r row j u v d a2 a3=>?_⟩
 .rcases List.mem_or_eq_of_mem_set hr with h1|rfl
  .exact h.1 row h1
  .rw[FO A2];exact p
 .rw[hC]at a3;by_cases n:k=r
  .subst n;rw[Q9 E]at d;have d:=A7 d;subst d;have D:=(B0.1 a2).1;rw[FO A2,p]at D;rw[US A2]at a2;by_cases f:o<=j/\j<o+us.length
   .rw[A9 f]at a2;rw[A9 (by rw[<- he.1];omega)]at a3;exact he.2 (j-o) u v a2 (by rw[<- a3];congr 1;omega)
   .rw[A8 f]at a2;rw[A8 (by rw[<- he.1];omega)]at a3;exact h.2 k _ j u v a a2 a3
  .rw[bQ n]at d;have D:=(B0.1 a2).1;rw[h.1 _ (C7 d)]at D;have F:=(B0.1 d).1;have H:=he.1;rw[A8]at a3
   .exact h.2 r row j u v d a2 a3
   .rcases F2 r k with B|G
    .have q:(r+1)*wd<=k*wd:=F1 wd B;rw[G8]at q;omega
    .have q:(k+1)*wd<=r*wd:=F1 wd A2;rw[G8]at q;omega
def QG(h:HR P base ρ m.H w)(p:uS P m t x y=some (v,m'))(Q:J2 ρ m.n m'.hi)(hx:VR ρ x x')(hy:VR ρ y y')(hS:Sat m'.lg):UOk P base ρ m w (Instr.storeAt t x' y') m'/\v=undef/\m.lg.le m'.lg:=by
 unfold uS at p;split at p
 .rename_i b i d z o ts au;cases F:gS y with
  | true=>rw[F]at p;cases p
  | false =>
  rw[F]at p;simp only[D4]at p;split at p
  .rename_i xs gs m1 hd;split at p
   .rename_i c tc T g hg;obtain⟨M,u⟩:=A3 p;clear p;have M:=A0 M;split at u
    .rename_i g2 m2 hj;rw[M9]at u;simp only[hole]at u;obtain⟨hs,rfl⟩:=lN u;obtain⟨ag,N⟩:=T6 hs;have md:=R1 U0 hd;have mj:=M2 hj;have af:m2.hi=m'.hi:=by rw[N];simp
     have Z:m'.lg=dY m2 d (.set (d-10) o) (hole c d::z::xs):=by rw[N];simp[hole]
     have X:m2.lg.le m'.lg:=by rw[Z];exact⟨[_],rfl⟩
     have ao:J2 ρ m.n m1.hi:=Q.less A2;have av:m1.lg.le m'.lg:=by rw[<- mj.2.1];exact X
     obtain⟨O,K,e2,e3,e4,e5,e6⟩:=fZ U0 h hd ao (hy.cells F) (hS.le av);have Y:J2 O m1.n m2.hi:=(Q.step K).less A2;obtain⟨ρ2,lg,d1,d2,d3,d4,d5,d6⟩:=dM K.hr hj Y;obtain⟨⟨l,wd,iE,k,a1,a2,a3,a4,a5,a6,rfl⟩,a8⟩:=tZ hx;have I:=K.ext _ _ a1;obtain⟨a,inf,q1,q2,q3,L⟩:=SqR.ex (K.hr.atl I hg).1;rcases L with⟨L,_⟩|⟨_,L⟩
     .rw[a2]at L;cases L
     obtain⟨C,fz,T',rows,ax,f1,f2,f3,f4,f5,f6,f7,f8,f9⟩:=L;have ah:a=wd:=by
      have:d=10+wd:=by rw[<- a8,a3];rfl
      omega
     subst ah;obtain⟨rfl,f10⟩:=f9 rfl;have ar:d=10+a:=A2;have aq:Sat (m2.wLg (dY m2 d (.set (d-10) o) (hole c d::z::xs))).lg:=by rw[Z1,<- Z];exact hS
     obtain⟨r1,r2,nul,ae,rws,r3,r4⟩:=iK aq (.refl _);obtain⟨kk,hz⟩:=DS a4;have E:(hole c d::z::xs).map (D3 Ora.env)=.seq false a rows::.int kk (.ofNat k)::xs.map (D3 Ora.env):=by
      show Ora.env c::D3 Ora.env z::xs.map (D3 Ora.env)=_;rw[f2,hz]
     rw[E,show d-10=a by omega]at r1;have r1:Ora.env m2.lg.nx=if a=a/\k<rows.length/\o+(xs.map (D3 Ora.env)).length<=a then .seq false a (rows.set k (vH (rows.getD k []) o (xs.map (D3 Ora.env))))else .none:=r1
     by_cases hc:a=a/\k<rows.length/\o+(xs.map (D3 Ora.env)).length<=a
     .rw[A9 hc]at r1;obtain⟨_,W,ay⟩:=hc;have hR:∀ b' ∈ gs,∀ l',O b'=some l'->Sub l'.G lg.G:=fun b' ak l' ai=>d6 b' (.tail _ ak) l' ai
      have f:=e6 lg.G hR;have J:Sub ax.G lg.G:=d6 g (.head _) ax f7;have B:y'.cells.toList.length=(xs.map (D3 Ora.env)).length:=f.1.symm;have al:(k+1)*a<=l.cap*a:=F1 a A2;rw[G8]at al;obtain⟨w',g1,an,g3,g4,g5⟩:=X9 (P:=P) (b:=l.blk) (o:=l.sh+k*a+o) (fz:=fz) y'.cells.toList 0 C w f1 (AJ f) (by rw[B];omega) f10;have ad:C.toList.length=C.size:=Q7;have r:(Array.mk (bD C.toList (l.sh+k*a+o+0) y'.cells.toList)).size=C.size:=by simp[Y0]
      have R:∀ j,(Array.mk (bD C.toList (l.sh+k*a+o+0) y'.cells.toList))[j]? = if l.sh+k*a+o<=j/\j<l.sh+k*a+o+y'.cells.toList.length then y'.cells.toList[j-(l.sh+k*a+o)]? else C[j]? := fun j=>by
       rw[I0,jM _ _ _ _ (by rw[B];omega)];simp
      have q:N7 lg.G rows a C l.sh:=N7.mono ⟨f6,f8⟩ J;have A:St P base ρ ρ2 m (m2.wLg (dY m2 d (.set (d-10) o) (hole c d::z::xs))) w w:=St.trans (Q.less (by simp;omega)) (St.trans (Q.less A2) K d1) (St.wLg d1.hr _);have D:Hp.get (m2.wLg (dY m2 d (.set (d-10) o) (hole c d::z::xs))).H b=some (.sq c tc T' g false):=by rw[iY,qW K.hr hj Y I];exact hg
      have V:=d1.ext _ _ I;have aj:BR P ρ2 (.sq m2.lg.nx d T' g2 false) l w':=by
       refine⟨⟨a,inf,ar,q2,q3,.inr ⟨a2,_,fz,T',_,lg,g4,r1,by rw[Q5];exact f3,f4,by rw[r];exact f5,(q.set W ay f R).1,d4,(q.set W ay f R).2,fun _=>⟨rfl,by rw[r];exact f10⟩⟩⟩⟩
      have aw:=St.write A.hr hs D rfl V a2 an g3 g5 aj (fun h=>by cases h);refine⟨⟨ρ2,w',?_,St.trans Q A aw⟩,rfl,md.2.1.trans av⟩;have S:=gB au;have az:ts.length=(xs.map (D3 Ora.env)).length:=by
       have:=F0 List.length e5;rw[E3]at this;exact this.symm
      have e:y'.cells.size=ts.length:=by rw[az,<- B];simp
      simp[Instr.storeAt,Instr.sureAddr,storeVar,A4,J8 S,Result.andThen,e,g1]
     .rw[A8 hc]at r1;rw[r1]at r3;cases r3
    .cases u
   .cases p
  .cases p
 .cases p
def QJ{lo' hi' mx':P4}(h:HR P base ρ m.H w)(a:uU P m t x lo hi mx=some (v,m'))(M:J2 ρ m.n m'.hi)(hx:VR ρ x x')(p:OR ρ lo lo')(q:OR ρ hi hi')(f:OR ρ mx mx')(D:Sat m'.lg) :
  VOk P base ρ m w (Instr.sliceAt t x' lo' hi' mx') v m'/\m.lg.le m'.lg:=by
 unfold uU at a;split at a
 .rename_i e b i E hu;split at a
  .rename_i s u;obtain⟨d,a⟩:=A3 a;have d:=A0 d;obtain⟨l,h1,F,h3,R⟩:=lR hx;obtain⟨⟨r,g1,g2⟩,⟨lg,rfl⟩,g4⟩:=DJ (w:=w) hu u d h1 F h3 (fun h=>by cases h) a p q f D;exact⟨⟨r,ρ,w,g1,g2,St.wLg h lg⟩,g4⟩
  .cases a
 .rename_i e b i E hu;split at a
  .rename_i s u;obtain⟨d,a⟩:=A3 a;have d:=A0 d;obtain⟨l,h1,F,h3,R,O⟩:=eH hx;obtain⟨⟨r,g1,g2⟩,⟨lg,rfl⟩,g4⟩:=DJ (w:=w) hu u d h1 F h3 (fun _=>O) a p q f D;exact⟨⟨r,ρ,w,g1,g2,St.wLg h lg⟩,g4⟩
  .cases a
 .rename_i e b i E hu;split at a
  .rename_i s u;obtain⟨d,a⟩:=A3 a;have d:=A0 d;split at a
   .rename_i c tc L m1 S;have B:∀ {m1:Mem},ID m1 L c E false lo hi mx=some (v,m')->I9 m1 m'/\m1.lg.le m'.lg:=fun{m1} a=>by
     have go:∀ {m1:Mem} {l h:Value} {cc:Bool},eN m1 L c E l h cc=some (v,m')->I9 m1 m'/\m1.lg.le m'.lg:=fun h=>by
      unfold eN at h;obtain⟨_,h⟩:=A3 h;rw[M9]at h;simp only[D0,L2]at h;obtain⟨_,rfl⟩:=h;exact⟨⟨_,rfl⟩,U6⟩
     unfold ID IC at a;split at a
     .exact go a
     .exact go (A3 a).2
     .split at a
      .rename_i K
       have:=go a;exact⟨(y8 K).1.trans this.1,(y8 K).2.trans this.2⟩
      .cases a
     .cases a
    obtain⟨⟨lg,I⟩,hle⟩:=B a;have N:m1.hi=m'.hi:=by rw[I];simp
    obtain⟨A,l,J,W,X,V,Q,T⟩:=BL h S (M.less A2) hx (D.le hle);have mono:∀ {o o':P4},OR ρ o o'->OR A o o':=fun{o o'} h=>by
     cases o<;>cases o'<;>first|exact trivial|exact h.elim|exact VR.mono J.ext h
    obtain⟨⟨r,g1,g2⟩,⟨G,C⟩,g4⟩:=DJ (w:=w) (cl:=false) hu u d W V Q (fun h=>by cases h) a (mono p) (mono q) (mono f) D;subst C;exact⟨⟨r,A,w,g1,g2,St.trans (M.less (by simp)) J (St.wLg J.hr G)⟩,T.trans g4⟩
   .cases a
  .cases a
 .cases a
end
end
section
open Go
variable [Ora]
section
variable {P:Program} {base:Nat} {ρ ρ':Ren} {m m':Mem} {w w':World}
def zA{a':Addr}{n c':Nat}{a:List Int}(p:P.underlying s=some (.slice e))(q:P.underlying t=some .string)(he:P.underlying e=some (.int .u8))(d:(loadCells a' n).run P w=.ok (a.map (Value.int .u8)).toArray w) :
  (convert s t (.slice (some a') n c')).run P w=.ok (.string ⟨⟨a.map fun n=>UInt8.ofNat n.toNat⟩⟩) w:=by
 have:=run_bytesToString w a' n c' a d;have f:=mZ a [];simp only[G1]at f;simp only[convert,A4,C8 p,C8 q,C8 he,Result.andThen];rw[this,show ByteArray.empty=ByteArray.mk ⟨[]⟩from rfl,f]
def BU{n:Nat}(d:P.underlying s=some (.slice e))(a:P.underlying t=some .string)(he:P.underlying e=some (.int .u8)):(convert s t (.slice none n c)).run P w=.ok (.string ByteArray.empty) w:=by
 simp[convert,A4,C8 d,C8 a,C8 he,Result.andThen,Conv.bytesToString]
def FF{b:ByteArray}(F:P.underlying s=some ds)(E:P.underlying t=some (.slice e))(he:P.underlying e=some (.int .u8))(w:World) :
  ∃ (cap:Nat) (C:Array Value),b.size<=cap/\C.size=cap/\(∀ (i:Nat) (u:Value),(O4 b.data.toList)[i]? = some u->C[i]? = some u)/\(convert s t (.string b)).run P w=.ok (.slice (some ⟨w.heap.size,0,none⟩) b.size cap) { w.drew with heap:=w.heap.push (.cells C e (C.size,C.size+1)) }:=by
 let q:Question:=.appendCap b.size 0 e
 let cap:=q.cut (w.tape w.drawn q)
 have d:b.size<=cap:=by show b.size<=b.size+_;omega
 have p:(choose q).run P w=.ok cap w.drew:=by
  simp only[choose,Sem.run];rw[A8 (by simp[q,Question.forced])];rfl
 let C:U8:=(b.data.map fun b=>Value.int .u8 b.toNat)++Array.replicate (cap-b.size) (.int .u8 0)
 have hC:C.size=cap:=by
  have:b.data.size=b.size:=rfl;simp[C,this];omega
 refine⟨cap,C,d,hC,fun i u hi=>?_,?_⟩
 .have B:=(B0.1 hi).1;simp[O4]at B;have A:i<(b.data.map fun b=>Value.int .u8 b.toNat).size:=by simpa using B
  show((b.data.map fun b=>Value.int .u8 b.toNat)++Array.replicate (cap-b.size) (.int .u8 0))[i]? = some u;rw[S0 A]
  simpa [O4]using hi
 .have r:∀ w2:World,w2.heap[w.heap.size]? = some (.cells C e (0,0))->(markStringish ⟨w.heap.size,0,none⟩).run P w2=.ok () (w2.freeze { block:=w.heap.size,off:=C.size } 1):=fun w2 D=>by
   simp[markStringish,shape,freeze,Sem.run,World.shape?,D]
  have n:({ w.drew with heap:=w.heap.push (.cells C e (0,0)) }:World).freeze { block:=w.heap.size,off:=C.size } 1={ w.drew with heap:=w.heap.push (.cells C e (C.size,C.size+1)) }:=by
   unfold World.freeze;rw[A8 F7];congr 1;apply Array.ext_getElem?;intro i;rw[G6];by_cases hi:w.heap.size=i
   .subst hi;simp
   .rw[A8 hi];simp only[Z5];rw[A8 (fun h=>hi h.symm),A8 (fun h=>hi h.symm)]
  have a:(convert s t (.string b)).run P w=(Conv.stringToBytes e b).run P w:=by
   cases ds<;>simp[convert,A4,C8 F,C8 E,C8 he,Result.andThen]
  rw[a];unfold Conv.stringToBytes;simp only[A4,show(choose (.appendCap b.size 0 e)).run P w=.ok cap w.drew from p,Result.andThen];have f:(newRow e C).run P w.drew=.ok ⟨w.heap.size,0,none⟩ { w.drew with heap:=w.heap.push (.cells C e (0,0)) }:=rfl;rw[show(newRow e ((b.data.map fun b=>Value.int .u8 b.toNat)++Array.replicate (cap-b.size) (.int .u8 0))).run P w.drew=_ from f];simp only[Result.andThen];rw[r _ (by simp),n];rfl
def DO:∀ {us:List U} {s:List UInt8} {vs:C9},rO us=some s->X7 (fun k=>w.heap[k]?) us vs->∃ d:List Int,vs=d.map (Value.int .u8)/\s=d.map fun n=>UInt8.ofNat n.toNat
 | [],s,vs,h,he=>by
   cases h;have:vs=[]:=F6.1 he.1.symm;subst this;exact⟨[],rfl,rfl⟩
 | u::us,s,vs,h,he=>by
   unfold rO at h;split at h
   .rename_i heq;cases heq
   .rename_i n r heq;cases heq;split at h
    .split at h
     .rename_i l p;cases h;cases vs with
      | nil=>have:=he.1;simp at this
      | cons v vr =>
        obtain⟨d,q,A⟩:=DO (vs:=vr) p ⟨by have:=he.1;simpa using this,fun i a b h1 f=>he.2 (i+1) a b (by simpa using h1) (by simpa using f)⟩
        have:=eL (he.2 0 _ v rfl rfl) rfl;subst this;exact⟨(Int.ofNat n)::d,by rw[q];rfl,by rw[A];rfl⟩
     .cases h
    .cases h
   .cases h
def DP:∀ {rows:List (List U)} {s:List UInt8},tL rows=some s->rO (rows.flatMap id)=some s/\(rows.flatMap id).length=rows.length/\∀ (r:Nat) (row:List U) (j:Nat) (u:U),rows[r]? = some row->row[j]? = some u->j=0/\(rows.flatMap id)[r]? = some u
 | [],s,h=>by cases h;exact⟨rfl,rfl,fun r row j u h=>by simp at h⟩
 | row::rows,s,h=>by
   unfold tL at h;split at h
   .rename_i heq;cases heq
   .rename_i n r heq;cases heq;split at h
    .rename_i f;split at h
     .rename_i l p;cases h;obtain⟨h1,d,h3⟩:=DP p;refine⟨?_,by show([U.int .u8 (Int.ofNat n)]++rows.flatMap id).length=_;rw[B8,d];simp;omega,fun q row j u a a2=>?_⟩
      .simp only[eR,id,R4,G1,rO];rw[A9 f,h1]
      .cases q with
       | zero =>
         simp at a;subst a;cases j with
         | zero=>simp at a2;subst a2;exact⟨rfl,rfl⟩
         | succ j=>simp at a2
       | succ q =>
         obtain⟨A,B⟩:=h3 q row j u (by simpa using a) a2;exact⟨A,by simpa using B⟩
     .cases h
    .cases h
   .cases h
def oB{t:Nat}:∀ {l:C9},Z7 t l=true->∀ v ∈ l,G0 v=t
 | [],_,v,hv=>by cases hv
 | x::r,h,v,hv=>by
   obtain⟨h1,a⟩:=B3 (show(Nat.beq (G0 x) t && Z7 t r)=true from h);rcases B4.1 hv with rfl|hv
   .exact A0 h1
   .exact oB a v hv
def pX{R:Nat->Option Obj}(h:LR ρ cs cs')(f:∀ v ∈ cs,G0 v<10):X7 R (cs.map (D3 Ora.env)) cs':=by
 refine⟨by simp[h.1],fun i u v a a2=>?_⟩;rw[F9]at a;cases d:cs[i]? with
 | none=>rw[d]at a;cases a
 | some x =>
   rw[d]at a;have a:=A7 a;subst a;exact .sc (n9 (h.2 i x v d a2) (f x (C7 d))).1
def GZ(m m1:Mem):A3E m m1=⟨m.H,m.n,m.W,m1.hi,m1.lg⟩:=by cases m;cases m1;rfl
def St.kept{ρ:Ren}{m:Mem}{w:World}{hi:Nat}{lg:Lg}(h:HR P base ρ m.H w)(hh:m.hi<=hi):St P base ρ ρ m ⟨m.H,m.n,m.W,hi,lg⟩ w w :=
 ⟨fun _ _ h=>h,fun b l h1 a=>(by rw[h1]at a;cases a),A6 _,hh,fun h=>B9 h hh,h,fun _ h=>h,fun b h1 a=>absurd h1 a,fun _ _ _=>rfl,A6 _,⟨rfl,rfl,rfl⟩,fun b l h1 a=>(by rw[h1]at a;cases a),fun _ _ _ _=>rfl,fun _ h=>.inr h⟩
def ZI(h:HR P base ρ m.H w)(hb:base<=w.heap.size)(d:IH P m s t x=some (v,m'))(V:J2 ρ m.n m'.hi)(hx:VR ρ x x')(hS:Sat m'.lg):VOk P base ρ m w (convert s t x') v m'/\m.lg.le m'.lg:=by
 unfold IH at d;split at d
 .rename_i e a n c Q N;split at d
  .rename_i he;split at d
   .rename_i cs hr;obtain⟨B,d⟩:=A3 d;obtain⟨u,p,e2,r,O,L,e5⟩:=L5 d hS;obtain⟨lg,rfl⟩:=G7 d;have q:=St.wLg h lg;have K:=oB B;have key:∀ {a' c'} {M:C9},LR ρ cs M->(loadCells a' n).run P w=.ok ⟨M⟩ w->VOk P base ρ m w (convert s t (.slice (some a') n c')) v (m.wLg lg):=fun{a' c' M} Z ay=>by
     have ax:X7 (fun k=>w.heap[k]?) (cs.map (D3 Ora.env)) M:=pX Z (fun v hv=>by rw[K v hv];omega);have I:∃ f,rO (cs.map (D3 Ora.env))=some f/\u=.str f:=by
      have p:(match rO (cs.map (D3 Ora.env))with|some s=>U.str s|none=>.none)=u:=p;split at p
      .rename_i f A;exact⟨f,A,p.symm⟩
      .subst p;cases O
     obtain⟨f,J,rfl⟩:=I;cases O;obtain⟨ns,r1,r2⟩:=DO (w:=w) J ax;subst r1;subst r2;exact⟨_,ρ,w,zA Q N he ay,L ρ,q⟩
    refine⟨?_,H1 d⟩;rcases O2 hx with⟨l,Z,_,_,rfl⟩|⟨l,c',Z,_,_,_,_,rfl⟩|⟨a',c',_,rfl,_,rfl⟩
    .obtain⟨M,g1,g2,g3⟩:=Y6 h hr Z;exact key g1 (J3 g2 g3)
    .obtain⟨M,g1,g2,g3⟩:=Y6 h hr Z;exact key g1 (J3 g2 g3)
    .have:cs=[]:=by
      unfold l5 at hr;split at hr
      .have:=(gV hr).2;simpa using this
      .cases hr
     subst this;exact key .nil (by simp[loadCells,loadCellsFrom])
   .cases d
  .cases d
 .rename_i e fn a1 a2 Q N;split at d
  .rename_i he;split at d
   .rename_i hh b m1 hd;rw[GZ]at d;obtain⟨u,p,e2,r,O,L,e5⟩:=L5 d hS;have hle:=H1 d;obtain⟨lg,rfl⟩:=G7 d;obtain⟨S,l,d1,d2,d3,d4,d5,d6⟩:=BL h hd (V.less (by simp[Mem.wLg])) hx (hS.le hle);have q:St P base ρ ρ m (Mem.wLg ⟨m.H,m.n,m.W,m1.hi,m1.lg⟩ lg) w w:=St.kept h d1.hle;obtain⟨nul,wd,rows,J,q2⟩:=eM d4 d5 A2;have az:wd=1:=A2;subst az;rw[J]at d4;have I:∃ f,tL rows=some f/\u=.str f:=by
     have p:evU .str [D3 Ora.env hh]=u:=p;rw[J]at p;have p:(if 1=1 then(match tL rows with|some s=>U.str s|none=>.none)else .none)=u:=p;rw[A9 rfl]at p;split at p
     .rename_i f A;exact⟨f,A,p.symm⟩
     .subst p;cases O
    obtain⟨f,A,rfl⟩:=I;cases O;refine⟨?_,d6.trans hle⟩;have hG:=(d1.hr.atl d2 d3).1.2;rcases m6 d4 with⟨rfl,rfl,rfl⟩|⟨rfl,a,c,rfl,hc⟩
    .cases A;exact⟨_,ρ,w,BU Q N he,L ρ,q⟩
    .obtain⟨_,new',g1,g2,g3,g4⟩:=rL (w:=w) d4 hG;obtain⟨k1,k2,k3⟩:=DP A;have Y:X7 (fun k=>w.heap[k]?) (rows.flatMap id) new':=by
      refine⟨by rw[k2,g1];simp,fun i u v b1 b2=>?_⟩;have E:i<rows.length:=by have:=(B0.1 b1).1;rw[k2]at this;exact this
      have au:rows[i].length=1:=g3.1 _ (M8 E);have F:rows[i]? = some rows[i]:=A5 E;have h0:rows[i][0]? = some (rows[i][0]' A2):=A5 A2;obtain⟨_,k4⟩:=k3 i _ 0 _ F h0;rw[b1]at k4;have k4:=A7 k4;rw[k4];exact(g3.2 i _ 0 _ v F h0 (by simpa using b2)).mono hG
     obtain⟨ns,r1,r2⟩:=DO (w:=w) k1 Y;subst r1;subst r2;have aw:(ns.map (Value.int .u8)).length=rows.length:=by rw[g1];omega
     exact⟨_,ρ,w,zA Q N he (jW aw g4),L ρ,q⟩
   .cases d
  .cases d
 .rename_i y _ _ _ ds e Q N;obtain⟨B,d⟩:=A3 d;have B:=A0 B;split at d
  .rename_i he;split at d
   .rename_i D;split at d
    .rename_i g m1 hj;rw[M9]at d;simp only[hole]at d;have d:v7 (m1.wLg (dY m1 11 .byt [y])) m1.lg.nx 11 e g=some (v,m'):=d;have mj:=M2 hj;have mn:=g7 d;simp only[JF,Z1,SK]at mn;obtain⟨S,lg,p,e2,O,L,e5,e6⟩:=dM h hj (V.less A2);have q:St P base ρ S m (m1.wLg (dY m1 11 .byt [y])) w w:=St.trans (V.less (by simp;omega)) p (St.wLg p.hr _);obtain⟨f,rfl,f1⟩:=d7 hx B;obtain⟨r1,r2,_⟩:=iK (m:=m1) (t:=11) (op:=.byt) (xs:=[y]) (lg:=m'.lg) hS (by rw[Z1,mn.2.1];exact .refl _);have r1:Ora.env m1.lg.nx=evU .byt [D3 Ora.env y]:=r1;rw[f1]at r1;have r1:Ora.env m1.lg.nx=.seq false 1 (iD f):=r1;obtain⟨cap,C,c1,c2,c3,c4⟩:=FF (P:=P) (b:=⟨⟨f⟩⟩) Q N he w;obtain⟨inf,T,X⟩:∃ inf,P.info? e=some inf/\inf.size=1:=by
      unfold G3 at D;cases hi:P.info? e with
      | none=>rw[hi]at D;cases D
      | some inf=>rw[hi]at D;exact⟨inf,rfl,A7 D⟩
     have av:ByteArray.size ⟨⟨f⟩⟩=f.length:=rfl;rw[av]at c1 c4;obtain⟨ρ2,J,q2⟩:=bF (w':={ w.drew with heap:=w.heap.push (.cells C e (C.size,C.size+1)) }) (cap:=cap) (C:=C) q.hr hb d (by simpa using(V.less (A6 _)).step p) r1 rfl T X (by rw[fJ];exact c1) A2
      ((FH (R:=lg.G) f).move (o':=0) fun i hi=>by
        rw[fJ]at hi;have E:i<(O4 f).length:=by simp[O4];omega
        rw[E8,c3 i (O4 f)[i] (A5 E)];simp[E]) L (fun i hi hh=>by have:=hh.1;simp only at this;omega) ⟨rfl,rfl,rfl⟩ rfl
     rw[fJ]at J;exact⟨⟨_,ρ2,_,c4,J,St.trans V q q2⟩,by rw[mn.2.1,<- mj.2.1];exact⟨[_],rfl⟩⟩
    .cases d
   .cases d
  .cases d
 .cases d
def QP(hu:P.underlying t=some (.slice e))(hi:P.info? e=some inf)(p:inf.bytes<=90000)(h0:0<inf.size)(r:∀ w,(zeroValue e).run P w=.ok z w)(n:k<=qE)(w:World) :
  (Instr.makeSlice t (.int .i64 (Int.ofNat k)) (.int .i64 (Int.ofNat k))).run P w=.ok (.slice (some ⟨w.heap.size,0,none⟩) k k) { w with heap:=w.heap.push (.cells ((Array.range (k*inf.size)).map (z.cells[· % z.cells.size]!)) e (0,0)) }:=by
 have n:k<=1000000000:=n;have u:G3 P e=some inf.size:=by simp[G3,hi]
 have wl:IntKind.i64.wrap (Int.ofNat k)=Int.ofNat k:=nO .i64 k (by simp only[JK];omega);have hm:k*inf.bytes<=1000000000*90000:=u5 n p;have a:(askRoom (k*inf.bytes)).run P w=.ok () w:=by
  unfold askRoom roomBytes;rw[A8 A2];rfl
 have q:((inf.bytes:Int)*(k:Int))=((k*inf.bytes:Nat):Int):=by rw[u6];simp
 unfold Instr.makeSlice;simp only[A4,C8 hu,asInt,asIntOf,Result.andThen,Sem.run_pure,U1 hi,wl];rw[A8]
 .have f:(Int.ofNat k).toNat=k:=by simp
  simp only[A4,Sem.run_pure,Result.andThen,f,a,J8 u];by_cases d:k*inf.size=0
  .have h:∀ z:U8,Array.map (fun x=>z[x%z.size]!) (Array.range (k*inf.size))=⟨[]⟩:=fun z=>by rw[d];apply I2;simp
   simp only[A9 d,h];rfl
  .simp only[A8 d,A4,Sem.run_pure,Result.andThen,r];rfl
 .have A:Int.ofNat k=(k:Int):=rfl;simp only[A,q];simp;omega
def SF{R:Nat->Option Obj}{s:Nat}(h0:0<s)(f:z.cells.size=s)(q:LR ρ z.cells.toList z.cells.toList)(p:∀ v ∈ z.cells.toList,G0 v<10):N7 R (List.replicate k (z.cells.toList.map (D3 Ora.env))) s ((Array.range (k*s)).map (z.cells[· % z.cells.size]!)) 0:=by
 have he:=pX (R:=R) q p;refine⟨fun row hr=>?_,fun r row j u v g1 g2 g3=>?_⟩
 .rw[(List.mem_replicate.1 hr).2];simp[f]
 .have hr:=(B0.1 g1).1;rw[S3]at hr;rw[List.getElem?_replicate,A9 hr]at g1;cases g1;have n:=(B0.1 g2).1;simp only[E3,Q7]at n;rw[f]at n;have hm:(r*s+j)%s=j:=by rw[u6,Nat.mul_add_mod,Y7 n]
  have d:r*s+j<k*s:=by
   have:(r+1)*s<=k*s:=F1 s hr;rw[G8,eQ]at this;omega
  rw[E8,Array.getElem?_map,Array.getElem?_range,A9 d]at g3;simp only[K2,D0,f,hm]at g3;have a:j<z.cells.size:=A2;rw[getElem!_pos z.cells j a]at g3;refine he.2 j u v g2 ?_;rw[X3,E7 a,g3]
def WJ{l c:Value}(h:HR P base ρ m.H w)(O:base<=w.heap.size)(a:GM P m t l c=some (v,m'))(C:J2 ρ m.n m'.hi)(N:VR ρ l l')(M:VR ρ c c')(Q:Sat m'.lg):VOk P base ρ m w (Instr.makeSlice t l' c') v m'/\m.lg.le m'.lg:=by
 unfold GM at a;split at a
 .rename_i e i X j tj hu;obtain⟨d,A⟩:=A3 a;clear a;obtain⟨d,h3⟩:=B3 d;obtain⟨h1,D⟩:=B3 d;have h1:=A0 h1;have D:=A0 D;have h3:=A0 h3;subst h1 D h3;have a:=A;clear A;split at a
  .rename_i inf hi;obtain⟨d,a⟩:=A3 a;obtain⟨r,f⟩:=B3 d;have r:=A1 r;have f:0<inf.size:=A1 f;split at a
   .rename_i z K;obtain⟨d,a⟩:=A3 a;obtain⟨u,p⟩:=B3 d;have u:=A0 u;have p:∀ v ∈ z.cells.toList,G0 v<10:=fun v hv=>A1 (D2.1 p v hv)
    split at a
    .rename_i g m1 I;rw[M9]at a;simp only[hole]at a;have a:v7 (m1.wLg (dY m1 (10+inf.size) (.rep inf.size) (hole i 3::z.cells.toList))) m1.lg.nx (10+inf.size) e g=some (v,m'):=a;have S:=M2 I;have G:=g7 a;simp only[JF,Z1,SK]at G;obtain⟨E,lg,F,e2,Y,R,e5,e6⟩:=dM h I (C.less A2);have B:St P base ρ E m (m1.wLg (dY m1 (10+inf.size) (.rep inf.size) (hole i 3::z.cells.toList))) w w:=St.trans (C.less (by simp;omega)) F (St.wLg F.hr _);obtain⟨k,n,rfl,f1,f2⟩:=L7 (v:=hole i 3) N (show(3:Nat)<8 by decide);obtain⟨k2,W,rfl,f3,f4⟩:=L7 (v:=hole i 3) M (show(3:Nat)<8 by decide);rw[f1]at f3;cases f3;obtain⟨r1,r2,nul,wd,rows,L,Z⟩:=iK (m:=m1) (t:=10+inf.size) (op:=.rep inf.size) (xs:=hole i 3::z.cells.toList) (lg:=m'.lg) Q (by rw[Z1,G.2.1];exact .refl _);have r1:Ora.env m1.lg.nx=evU (.rep inf.size) (D3 Ora.env (hole i 3)::z.cells.toList.map (D3 Ora.env)):=r1;rw[f1]at r1;have T:k=.i64:=by
      have f2:(3:Nat)=fN k:=f2;cases k<;>first|rfl|(exfalso;revert f2;decide)
     subst T;cases n with
     | negSucc q=>rw[L]at r1;cases r1
     | ofNat q =>
       have r1:Ora.env m1.lg.nx=if(z.cells.toList.map (D3 Ora.env)).length=inf.size/\q<=qE then .seq false inf.size (List.replicate q (z.cells.toList.map (D3 Ora.env)))else .none:=r1
       by_cases d:(z.cells.toList.map (D3 Ora.env)).length=inf.size/\q<=qE
       .rw[A9 d]at r1;obtain⟨ρ2,J,V⟩:=bF (w':={ w with heap:=w.heap.push (.cells ((Array.range (q*inf.size)).map (z.cells[· % z.cells.size]!)) e (0,0)) }) (cap:=q) (fz:=(0,0)) B.hr O a (by simpa using(C.less (A6 _)).step F) r1 rfl hi rfl (by simp) (by simp)
         (SF (ρ:=ρ) f u (nM K) p) R (fun i hi hh=>by have:=hh.2;simp only at this;omega) ⟨rfl,rfl,rfl⟩ rfl
        rw[S3]at J;exact⟨⟨_,ρ2,_,QP hu hi r f (fun w=>o9 K w) d.2 w,J,St.trans C B V⟩,by rw[G.2.1,<- S.2.1];exact⟨[_],rfl⟩⟩
       .rw[A8 d,L]at r1;cases r1
    .cases a
   .cases a
  .cases a
 .cases a
end
end
section
open Go
variable [Ora]
section
variable {P:Program} {base:Nat} {ρ ρ':Ren} {m m':Mem} {w w':World}
def NR{t:Nat}(h:S7 m 8 .nilp [hole i t]=some (v,m'))(hi:Ora.env i=.seq nul wd rows)(n:Sat m'.lg):VR ρ v (.bool nul)/\I9 m m'/\m.lg.le m'.lg:=by
 obtain⟨u,d,A,r,f,p,q⟩:=L5 h n;have a:[hole i t].map (D3 Ora.env)=[.seq nul wd rows]:=by
  show[Ora.env i]=_;rw[hi]
 rw[a]at d;have d:U.bool nul=u:=d;subst d;cases f;exact⟨p ρ,G7 h,H1 h⟩
def zB{x y:Operand}{a:Option Addr}{n:Nat}(hu:P.underlying t=some (.slice e))(A:(a=none/\n=0/\c=0/\nul=true)∨(nul=false/\∃ q:Addr,a=some q/\n<=c))(p:op=.eql∨op=.neq)(w:World) :
  (do eqGuard op t x y (.slice a n c) (.slice none 0 0);binOp op t (.slice a n c) (.slice none 0 0):Sem Value).run P w=.ok (.bool (if op=.eql then nul else !nul)) w:=by
 have key:∀ {ρ:Ren} {am:Value},VR ρ am (.slice a n c)->kC P t x y am (.slice none 0 0)=true->qC P .eql t am (.slice none 0 0)=some (.bool nul)->qC P .neq t am (.slice none 0 0)=some (.bool !nul) ->
   (do eqGuard op t x y (.slice a n c) (.slice none 0 0);binOp op t (.slice a n c) (.slice none 0 0):Sem Value).run P w=.ok (.bool (if op=.eql then nul else !nul)) w:=fun{ρ am} hv r h1 h=>by
  have f:VR ρ (.slice none 0 0) (.slice none 0 0):=.pure rfl;have u:=pL (op:=op) (fun _=>r) hv f w;rcases p with rfl|rfl
  .obtain⟨g1,_⟩:=uF h1 hv f w;simp[A4,u,g1,Result.andThen]
  .obtain⟨g1,_⟩:=uF h hv f w;simp[A4,u,g1,Result.andThen]
 rcases A with⟨rfl,rfl,rfl,rfl⟩|⟨rfl,q,rfl,C⟩
 .refine key (ρ:=fun _=>none) (am:=.slice none 0 0) (.pure rfl) rfl ?_ ?_
  .simp[qC,zG,eqM,hu]
  .simp[qC,zG,eqM,hu]
 .obtain⟨d,B⟩:∃ d,Op.maxDepth=d+1:=⟨Op.maxDepth-1,rfl⟩;have he:∀ w,(Op.equal t (.slice (some q) n c) (.slice none 0 0)).run P w=.ok false w:=fun w=>by
   rw[Op.equal,B];simp[Op.equalIn,A4,C8 hu,Result.andThen]
  have r:∀ o:BinOp,(eqGuard o t x y (.slice (some q) n c) (.slice none 0 0)).run P w=.ok () w:=fun o=>by
   unfold eqGuard;cases o<;>rfl
  rcases p with rfl|rfl
  .rw[A4,r];show(do pure (.bool (<- Op.equal t (.slice (some q) n c) (.slice none 0 0))):Sem Value).run P w=_;rw[A4,he];rfl
  .rw[A4,r];show(do pure (.bool (!(<- Op.equal t (.slice (some q) n c) (.slice none 0 0)))):Sem Value).run P w=_;rw[A4,he];rfl
def A1A{x y:Operand}{a a' b:Value}(F:VZ P m op t x y a b=some (v,m'))(J:VR ρ a a')(T:VR ρ b b')(L:Sat m'.lg) :
  (∃ r,(do eqGuard op t x y a' b';binOp op t a' b':Sem Value).run P w=.ok r w/\VR ρ v r)/\I9 m m'/\m.lg.le m'.lg:=by
 unfold VZ at F;split at F
 .rename_i e k V i Q hu;obtain⟨d,f⟩:=A3 F;clear F;obtain⟨d,A⟩:=B3 d;obtain⟨d,N⟩:=B3 d;have I:b'=.slice none 0 0:=by
   unfold XV at d;split at d
   .exact O5 T
   .cases d
  subst I;obtain⟨nul,wd,rows,B,n,c,E,rfl,O⟩:∃ nul wd rows B n c,Ora.env i=.seq nul wd rows/\a'=.slice B n c/\((B=none/\n=0/\c=0/\nul=true)∨(nul=false/\∃ q:Addr,B=some q/\n<=c)):=by
   have C:∀ {l:Loc},Enc l.G (Ora.env i) a'->F5 (Ora.env i)=Q->10<=Q->∃ nul wd rows B n c,Ora.env i=.seq nul wd rows/\a'=.slice B n c/\((B=none/\n=0/\c=0/\nul=true)∨(nul=false/\∃ q:Addr,B=some q/\n<=c)):=fun h h3 D=>by
    obtain⟨nul,wd,rows,E,_⟩:=eM h h3 D;rw[E]at h;rcases m6 h with⟨rfl,rfl,rfl⟩|⟨rfl,q,c,rfl,S⟩
    .exact⟨_,_,_,_,_,_,E,rfl,.inl ⟨rfl,rfl,rfl,rfl⟩⟩
    .exact⟨_,_,_,_,_,_,E,rfl,.inr ⟨rfl,q,rfl,S⟩⟩
   rcases(I1 _ _).mp A with A|A
   .rcases(I1 _ _).mp A with A|A
    .have:=A0 A;subst this;obtain⟨l,_,h,h3,D⟩:=lR J;exact C h h3 D
    .have:=A0 A;subst this;obtain⟨l,_,h,h3,D,_⟩:=eH J;exact C h h3 D
   .have:=A0 A;subst this;rcases(eG J).1 with⟨l,wd,h1,h,h3,rfl⟩|⟨l,wd,rows,h1,h,h3,D,M,rfl⟩
    .exact⟨_,_,_,_,_,_,h3,rfl,.inl ⟨rfl,rfl,rfl,rfl⟩⟩
    .exact⟨_,_,_,_,_,_,h3,rfl,.inr ⟨rfl,_,rfl,M⟩⟩
  split at f
  .rename_i r H;cases f;obtain⟨g1,g2,g3⟩:=NR (ρ:=ρ) H E L;exact⟨⟨_,zB hu O (.inl rfl) w,g1⟩,g2,g3⟩
  .rename_i hh m1 H;have hle:=H1 f;obtain⟨g1,g2,g3⟩:=NR (ρ:=ρ) H E (L.le hle);obtain⟨u,f1,f2,r,f3,f4,f5⟩:=L5 f L;obtain⟨rfl,R⟩:=gO H;have K:D3 Ora.env (hole m.lg.nx 8)=.bool nul:=by
    obtain⟨p,_⟩:=n9 g1 (by show(8:Nat)<10;omega);cases d:D3 Ora.env (hole m.lg.nx 8)with
    | bool b=>rw[d]at p;cases p;rfl
    | int k n=>rw[d]at p;cases p
    | str s=>rw[d]at p;cases p
    | none=>rw[d]at p;cases p
    | seq _ _ _=>rw[d]at p;cases p
   have f1:ev1 .not (D3 Ora.env (hole m.lg.nx 8))=u:=f1;rw[K]at f1;have f1:U.bool (!nul)=u:=f1;subst f1;cases f3;exact⟨⟨_,zB hu O (.inr rfl) w,f4 ρ⟩,g2.trans (G7 f),g3.trans hle⟩
  .cases f
 .cases F
def A5I{fr:Fr}{g:Operand->Value}{o:Oper}(h:HR P base ρ m.H w)(D:base<=w.heap.size)(d:dsM P fr m o.op=some (v,m'))(A:J2 ρ m.n m'.hi)(J:FR ρ fr g o.op)(f:Sat m'.lg):NOk P base ρ m w (execOp g o) v m':=by
 obtain⟨dst,op,ty,pos,K,L⟩:=o;simp only at d J;have a:∀ {x},x ∈ op.operands.toList->VR ρ (ev fr x) (g x):=fun hx=>J _ hx
 have fin:∀ {s:Sem Value},(∃ r,s.run P w=.ok r w/\VR ρ v r)->I9 m m'->NOk P base ρ m w (do pure (.value (<- s))) v m':=fun{s} ⟨r,h1,M⟩ ⟨lg,Q⟩=>by
  subst Q;exact NOk.of ⟨r,ρ,w,h1,M,St.wLg h lg⟩
 unfold dsM at d;split at d
 .rename_i t x y;exact NOk.of (WJ h D d A (a (x:=x) (by simp[Op.operands])) (a (x:=y) (by simp[Op.operands])) f).1
 .rename_i t x;obtain⟨g1,g2,_⟩:=WM (w:=w) h d (a (x:=x) (by simp[Op.operands])) f;exact fin (s:=Instr.loadAt t (g x)) g1 g2
 .rename_i t x y;obtain⟨g1,rfl,_⟩:=QG h d A (a (x:=x) (by simp[Op.operands])) (a (x:=y) (by simp[Op.operands])) f;exact NOk.ofU (s:=Instr.storeAt t (g x) (g y)) g1
 .rename_i t x i;obtain⟨g1,g2,_⟩:=HE (w:=w) d (a (x:=x) (by simp[Op.operands])) (a (x:=i) (by simp[Op.operands])) f;exact fin (s:=Instr.indexAt t (g x) (g i)) g1 g2
 .rename_i s x i;obtain⟨g1,rfl⟩:=HV (w:=w) d (a (x:=x) (by simp[Op.operands]));exact fin (s:=Instr.fieldAt s (g x) i) g1 (.refl _)
 .rename_i t x lo hi mx;obtain⟨g1,_⟩:=QJ h d A (a (x:=x) (by simp[Op.operands])) (gT (g:=g) fun y p=>a (by simp[Op.operands]at p ⊢;exact .inr (.inl p))) (gT (g:=g) fun y p=>a (by simp[Op.operands]at p ⊢;exact .inr (.inr (.inl p)))) (gT (g:=g) fun y p=>a (by simp[Op.operands]at p ⊢;exact .inr (.inr (.inr p)))) f;exact NOk.of (s:=Instr.sliceAt t (g x) (lo.map g) (hi.map g) (mx.map g)) g1
 .rename_i s t x;exact NOk.of (ZI h D d A (a (x:=x) (by simp[Op.operands])) f).1
 .rename_i op t x y T;obtain⟨g1,g2,_⟩:=A1A (w:=w) d (a (x:=x) (by simp[Op.operands])) (a (x:=y) (by simp[Op.operands])) f;exact fin (s:=do eqGuard op t x y (g x) (g y);binOp op t (g x) (g y)) g1 g2
 .rename_i xs tys;have l1:=bW (ρ:=ρ) (fr:=fr) (g:=g) (xs:=xs.toList) fun x hx=>a (by show x ∈ (#[]++xs:Array Operand).toList;simpa using hx)
  split at d
  .rename_i x t rest u q;rw[u]at l1;obtain⟨x',r1,B,E,G⟩:=l1.tail
   have:=G.nil_inv;subst this;obtain⟨g1,g2,_⟩:=A1N (w:=w) (ty:=ty) (tys:=rest) d E f;obtain⟨ks,I⟩:∃ ks,execOp g ⟨dst,.call ⟨.builtin .len,xs,tys⟩,ty,pos,K,L⟩=builtin .len tys ty ks (xs.map g):=⟨#[],rfl⟩;have C:xs.map g=⟨xs.toList.map g⟩:=by apply I2;simp
   have F:tys=⟨t::rest⟩:=by rw[<- q]
   rw[I,C,B,F];exact fin (s:=Builtin.len_ ⟨t::rest⟩ ty #[x']) g1 g2
  .cases d
 .rename_i xs tys;have l1:=bW (ρ:=ρ) (fr:=fr) (g:=g) (xs:=xs.toList) fun x hx=>a (by show x ∈ (#[]++xs:Array Operand).toList;simpa using hx)
  split at d
  .rename_i x y t t2 rest u q;rw[u]at l1;obtain⟨x',r1,B,E,G⟩:=l1.tail;obtain⟨y',S,N,R,O⟩:=G.tail
   have:=O.nil_inv;subst this
   have:=MC (ty:=ty) h D d A E R f;obtain⟨ks,I⟩:∃ ks,execOp g ⟨dst,.call ⟨.builtin .append,xs,tys⟩,ty,pos,K,L⟩=builtin .append tys ty ks (xs.map g):=⟨#[],rfl⟩;have C:xs.map g=⟨xs.toList.map g⟩:=by apply I2;simp
   have F:tys=⟨t::t2::rest⟩:=by rw[<- q]
   rw[I,C,B,N,F];have e:Builtin.append_ ⟨t::t2::rest⟩ ty #[x',y']=Builtin.append_ #[t,t2] ty #[x',y']:=rfl;refine NOk.of (s:=Builtin.append_ ⟨t::t2::rest⟩ ty #[x',y']) ?_;rw[e];exact this
  .cases d
 .cases d
def eJ{wd o i t g:Nat}{z:Value}:∀ {d:G5} {j:Nat} {m m':Mem} {r:C9},W1 wd o i t z g d j m=some (r,m')->m.lg.le m'.lg
 | [],j,m,m',r,h=>by cases h;exact .refl _
 | tg::d,j,m,m',r,h=>by
   unfold W1 at h;cases a:Nat.blt tg 10 with
   | true =>
     rw[a]at h;simp only[D8]at h;split at h
     .rename_i f;split at h
      .rename_i hr;cases h;exact(H1 f).trans (eJ hr)
      .cases h
     .cases h
   | false =>
     rw[a]at h;simp only[D4]at h;rw[GT]at h;split at h
     .rename_i hr;cases h;exact U6.trans (eJ hr)
     .cases h
def BG{r:Option (C9×Mem)}(h:kO P t r=some (v,m')):∃ vs,r=some (vs,m'):=by
 unfold kO at h;split at h
 .cases h;exact⟨_,rfl⟩
 .cases h;exact⟨_,rfl⟩
 .cases h
def WN(a:GS P m t x=some (v,m')):m.lg.le m'.lg:=by
 unfold GS at a;split at a
 .obtain⟨_,a⟩:=A3 a;obtain⟨vs,h⟩:=BG a;exact eJ h
 .split at a
  .obtain⟨_,a⟩:=A3 a;obtain⟨vs,h⟩:=BG a;exact eJ h
  .cases a
 .cases a
def QH(a:uS P m t x y=some (v,m')):m.lg.le m'.lg:=by
 unfold uS at a;split at a
 .cases d:gS y with
  | true=>rw[d]at a;cases a
  | false =>
    rw[d]at a;simp only[D4]at a;split at a
    .rename_i f;split at a
     .obtain⟨_,a⟩:=A3 a;split at a
      .rename_i p;rw[M9]at a;simp only[hole]at a;obtain⟨n,_⟩:=lN a;have md:=R1 U0 f;have q:=M2 p;refine md.2.1.trans ?_;rw[(T6 n).2,<- q.2.1];simp only[Z1];exact⟨[_],rfl⟩
      .cases a
     .cases a
    .cases a
 .cases a
def A1V{t:Nat}{k:Value}(h:HG m i t z k=some (v,m')):m.lg.le m'.lg:=by
 unfold HG at h;cases a:!(Nat.blt (G0 z) 8)with
 | true=>rw[a]at h;cases h
 | false =>
   rw[a]at h;simp only[D4]at h;split at h
   .rename_i f;split at h
    .rename_i d;cases h;exact(H1 f).trans (dT d)
    .cases h
   .cases h
def HF(h:kB P m t x z=some (v,m')):m.lg.le m'.lg:=by
 unfold kB at h;split at h;all_goals first
  | (split at h
     .obtain⟨_,h⟩:=A3 h;exact A1V h
     .cases h;done)
  | (split at h
     .obtain⟨_,h⟩:=A3 h;rw[E1]at h;cases h;exact .refl _
     .cases h;done)
  | cases h
def HW{f:Nat}(h:kG P m s x f=some (v,m')):m.lg.le m'.lg:=by
 unfold kG at h;split at h;all_goals first
  | (split at h
     .split at h
      .obtain⟨_,h⟩:=A3 h;rw[E1]at h;cases h;exact .refl _
      .cases h
     .cases h;done)
  | cases h
def DK{t:Nat}(a:ID m b i t cl lo hi mx=some (v,m')):m.lg.le m'.lg:=by
 have go:∀ {m1:Mem} {l h:Value} {cc:Bool},eN m1 b i t l h cc=some (v,m')->m1.lg.le m'.lg:=fun h=>by
  unfold eN at h;obtain⟨_,h⟩:=A3 h;rw[M9]at h;simp only[D0,L2]at h;obtain⟨_,rfl⟩:=h;exact U6
 unfold ID IC at a;split at a
 .exact go a
 .exact go (A3 a).2
 .split at a
  .rename_i d;exact(y8 d).2.trans (go a)
  .cases a
 .cases a
def QK(a:uU P m t x lo hi mx=some (v,m')):m.lg.le m'.lg:=by
 unfold uU at a;split at a
 .split at a
  .exact DK (A3 a).2
  .cases a
 .split at a
  .exact DK (A3 a).2
  .cases a
 .split at a
  .obtain⟨_,a⟩:=A3 a;split at a
   .rename_i d;exact(fC d).2.1.trans (DK a)
   .cases a
  .cases a
 .cases a
def ZJ(a:IH P m s t x=some (v,m')):m.lg.le m'.lg:=by
 unfold IH at a;split at a
 .split at a
  .split at a
   .exact H1 (A3 a).2
   .cases a
  .cases a
 .split at a
  .split at a
   .rename_i f;rw[GZ]at a;have d:=H1 a;exact(fC f).2.1.trans d
   .cases a
  .cases a
 .obtain⟨_,a⟩:=A3 a;split at a
  .split at a
   .split at a
    .rename_i n;rw[M9]at a;simp only[hole]at a;have p:=M2 n;rw[(g7 a).2.1,Z1,<- p.2.1];exact⟨[_],rfl⟩
    .cases a
   .cases a
  .cases a
 .cases a
def A1B{x y:Operand}{a b:Value}(f:VZ P m op t x y a b=some (v,m')):m.lg.le m'.lg:=by
 unfold VZ at f;split at f
 .obtain⟨_,d⟩:=A3 f;clear f;split at d
  .rename_i n;cases d;exact H1 n
  .rename_i n;exact(H1 n).trans (H1 d)
  .cases d
 .cases f
def WK{l c:Value}(a:GM P m t l c=some (v,m')):m.lg.le m'.lg:=by
 unfold GM at a;split at a
 .obtain⟨_,a⟩:=A3 a;split at a
  .obtain⟨_,a⟩:=A3 a;split at a
   .obtain⟨_,a⟩:=A3 a;split at a
    .rename_i d;rw[M9]at a;simp only[hole]at a;have f:=M2 d;rw[(g7 a).2.1,Z1,<- f.2.1];exact⟨[_],rfl⟩
    .cases a
   .cases a
  .cases a
 .cases a
def A5J{fr:Fr}{o:Op}(a:dsM P fr m o=some (v,m')):m.lg.le m'.lg:=by
 unfold dsM at a;split at a
 .exact WK a
 .exact WN a
 .exact QH a
 .exact HF a
 .exact HW a
 .exact QK a
 .exact ZJ a
 .exact A1B a
 .split at a
  .unfold A1O at a;split at a
   .exact(y8 a).2
   .exact(y8 a).2
   .exact(y8 a).2
   .cases a
  .cases a
 .split at a
  .exact(DT a).2.1
  .cases a
 .cases a
end
end
end Go.Sx
