import Derived.Test.YtjdnjfnhdeplfaaX3
set_option linter.all false
set_option maxRecDepth 100000
set_option maxHeartbeats 4000000
namespace Go.Sx
open Go
variable {rows rows2:List (List U)}{b c cap g i j k o o' sh wd:Nat}{e s t t2 ty:TypeId}{inf:TypeInfo}{fz:Nat×Nat}{b' c' l' v x x' y y' z:Value}{l:Loc}{g0 gs:F8}{cl nul sure:Bool}{d2 ds:TypeDesc}{bh:Beh}{cs cs' new' vs:D0}{td:Td}{row us:List U}{hi lo mx:N6}{op:BinOp}
section
open Go
variable [Ora]
section
variable {P:Program} {base:Nat} {ρ ρ':Ren} {m m':Mem} {w w':World}
def M2.move{R:Nat->Option Obj}{C C':Q0}(h:M2 R rows wd C o)(p:∀ i,i<rows.length*wd->C'[o'+i]? = C[o+i]?):M2 R rows wd C' o':=by
 refine⟨h.1,fun r row j u v a a2 a3=>h.2 r row j u v a a2 ?_⟩;have f:=(A7.1 a).1;have d:=(A7.1 a2).1;rw[h.1 _ (D6 a)]at d;have n:(r+1)*wd<=rows.length*wd:=E4 wd f;rw[G0]at n
 have:=p (r*wd+j) A9;rw[show o+r*wd+j=o+(r*wd+j) by omega,<- this,show o'+(r*wd+j)=o'+r*wd+j by omega];exact a3
def M2.append{R:Nat->Option Obj}{C:Q0}(h:M2 R rows wd C o)(k:M2 R rows2 wd C (o+rows.length*wd)):M2 R (rows++rows2) wd C o:=by
 refine⟨fun row hr=>(B7.1 hr).elim (h.1 row) (k.1 row),fun r row j u v a a2 a3=>?_⟩;rcases F2 r rows.length with d|d
 .rw[E5 d]at a;exact h.2 r row j u v a a2 a3
 .rw[D5 d]at a;refine k.2 (r-rows.length) row j u v a a2 ?_;have:rows.length*wd+(r-rows.length)*wd=r*wd:=by rw[<- G0];congr 1;omega
  rw[show o+rows.length*wd+(r-rows.length)*wd+j=o+r*wd+j by omega];exact a3
def A0v{t:Nat}{T:TypeId}{lg:Loc}{C:Q0}(u:Ora.env c=.seq false wd rows)(r:t=10+wd)(hi:P.info? T=some inf)(p:inf.size=wd)(f:rows.length<=cap)(d:sh+cap*wd<=C.size)
  (a:M2 lg.G rows wd C sh) (q:ρ g=some lg) (hw:w.heap[b]? = some (.cells C T fz)) (n:∀ i,i<C.size->¬ (fz.1<=i/\i<fz.2)):BR P ρ (.sq c t T g false) ⟨b,sh,cap,rows.length,fun _=>none,true⟩ w :=
 ⟨⟨wd,inf,r,hi,p,.inr ⟨rfl,C,fz,T,rows,lg,hw,u,rfl,f,d,a.1,q,a.2,fun _=>⟨rfl,n⟩⟩⟩⟩
def y0{t:Nat}{T:TypeId}{lg:Loc}{C:Q0}(h:HR P base ρ m.H w)(E:base<=w.heap.size)(u:s9 m c t T g=some (v,m'))(A:I2 ρ m.n m'.hi)
  (p:Ora.env c=.seq false wd rows) (B:t=10+wd) (hi:P.info? T=some inf) (J:inf.size=wd) (a:rows.length<=cap) (q:cap*wd<=C.size) (f:M2 lg.G rows wd C 0) (K:ρ g=some lg) (r:∀ i,i<C.size->¬ (fz.1<=i/\i<fz.2))
  (F:w'.os=w.os/\w'.tape=w.tape/\w'.output=w.output) (hh:w'.heap=w.heap.push (.cells C T fz)):∃ ρ',VR ρ' v (.slice (some ⟨w.heap.size,0,none⟩) rows.length cap)/\St P base ρ ρ' m m' w w':=by
 have d:ρ m.n=none:=by
  obtain⟨_,_,rfl⟩:=J7 u;exact A m.n (A6 _) (J1 _ _).2
 obtain⟨rfl,I,D⟩:=St.alloc (w':=w') (l:=⟨w.heap.size,0,cap,rows.length,fun _=>none,true⟩) h E u A F hh rfl (A0v p B hi J a A9 f (T7 d _ _ K) (by rw[hh];simp) r);exact⟨_,.own (.inr ⟨_,wd,rows,I,rfl,p,rfl,a,rfl⟩) (by rw[p];exact B.symm) rfl,D⟩
def kQ{t id:Nat}{T:TypeId}{ab:AB}{lg:Loc}{C:Q0}(h:HR P base ρ m.H w)(hle:id<=G1)(u:Hp.get m.H id=some ab)(E:ab.rw=true)(M:ρ id=some l)(r:l.on=true)
  (I:s9 (fQ m id) c t T g=some (v,m')) (J:I2 ρ m.n m'.hi)
  (A:Ora.env c=.seq false wd rows) (K:t=10+wd) (hi:P.info? T=some inf) (Q:inf.size=wd) (a:rows.length<=cap) (p:sh+cap*wd<=C.size) (q:M2 lg.G rows wd C sh) (R:ρ g=some lg) (F:∀ i,i<C.size->¬ (fz.1<=i/\i<fz.2))
  (N:w'.os=w.os/\w'.tape=w.tape/\w'.output=w.output) (B:w'.heap.size=w.heap.size) (hk:∀ k,k≠l.blk->w'.heap[k]? = w.heap[k]?) (hw:w'.heap[l.blk]? = some (.cells C T fz)) :
  ∃ ρ',VR ρ' v (.slice (some ⟨l.blk,sh,none⟩) rows.length cap)/\St P base ρ ρ' m m' w w':=by
 have d:ρ m.n=none:=by
  have f:=I;unfold s9 at f;rw[Z4]at f;obtain⟨_,_,rfl⟩:=J7 f;exact J m.n (A6 _) (J1 _ _).2
 obtain⟨rfl,O,L⟩:=St.move (w':=w') (l':=⟨l.blk,sh,cap,rows.length,fun _=>none,true⟩) h hle u E M I J (fun _=>⟨r,rfl⟩) N B (fun k D=>hk k (D r)) (A0v A K hi Q a p q (T7 d _ _ R) hw F) (fun h=>by cases h);exact⟨_,.own (.inr ⟨_,wd,rows,O,rfl,A,rfl,a,rfl⟩) (by rw[A];exact K.symm) rfl,L⟩
def ZT:Loc:=⟨0,0,0,0,fun _=>none,false⟩
def wF{t:Nat}{T:TypeId}{old:Option Nat}(h:HR P base ρ m.H w)(hold:∀ b,old=some b->∃ ab l,b<=G1/\Hp.get m.H b=some ab/\ab.rw=true/\ρ b=some l/\l.on=false)
  (A:s9 (fP old m) c t T g=some (v,m')) (B:I2 ρ m.n m'.hi) (a:Ora.env c=.seq true wd []) (u:t=10+wd) (hi:P.info? T=some inf) (E:inf.size=wd):∃ ρ',VR ρ' v (.slice none 0 0)/\St P base ρ ρ' m m' w w:=by
 have d:∀ ρ':Ren,BR P ρ' (.sq c t T g false) ZT w:=fun ρ'=>⟨⟨wd,inf,u,hi,E,.inl ⟨rfl,a⟩⟩⟩
 cases old with
 | none =>
   obtain⟨rfl,r,p⟩:=St.new0 (l':=ZT) h A B (d _) rfl fun q f=>by
    rcases f with⟨_,f,_⟩|⟨f,_⟩<;>cases f
   exact⟨_,.own (.inl ⟨_,wd,r,rfl,a,rfl⟩) (by rw[a];exact u.symm) rfl,p⟩
 | some b =>
   obtain⟨ab,l,h1,C,h3,D,F⟩:=hold b rfl;obtain⟨rfl,r,p⟩:=St.move (w':=w) (l':=ZT) h h1 C h3 D A B (fun h=>by cases h) ⟨rfl,rfl,rfl⟩ rfl (fun _ _=>rfl) (d _) (fun h=>by cases h);exact⟨_,.own (.inl ⟨_,wd,r,rfl,a,rfl⟩) (by rw[a];exact u.symm) rfl,p⟩
def oH(h:HR P base ρ m.H w)(a:fR gs m=some (g,m'))(f:I2 ρ m.n m'.hi)(d:ρ j=some l):Hp.get m'.H j=Hp.get m.H j:=by
 have main:∀ {gs:F8},(bif gs.all (kU m)then match dJ m fun b m=>some (undef,b,m)with
  | some (_,b,m)=>some (b,m)
  | none=>none else none)=some (g,m')->Hp.get m'.H j=Hp.get m.H j:=fun{gs} a=>by
  obtain⟨h1,a⟩:=A2 a;split at a
  .rename_i r b m1 p;cases a;obtain⟨m2,q1,q2,_⟩:=N7 p;cases q2;rw[gY q1 (h.dom j l d),B1];intro e;subst e;obtain⟨_,_,rfl⟩:=J7 q1;rw[f m.n (A6 _) (J1 _ _).2]at d;cases d
  .cases a
 unfold fR at a;split at a
 .obtain⟨h1,a⟩:=A2 a;cases a;rfl
 .exact main a
def L1(a:fR gs m=some (g,m')):m.hi<=m'.hi/\m'.lg=m.lg/\m.n<=m'.n:=by
 have main:∀ {gs:F8},(bif gs.all (kU m)then match dJ m fun b m=>some (undef,b,m)with
  | some (_,b,m)=>some (b,m)
  | none=>none else none)=some (g,m')->m.hi<=m'.hi/\m'.lg=m.lg/\m.n<=m'.n:=fun{gs} a=>by
  obtain⟨h1,a⟩:=A2 a;split at a
  .rename_i r b m1 d;cases a;obtain⟨m2,q1,q2,_⟩:=N7 d;cases q2;obtain⟨_,_,rfl⟩:=J7 q1;exact⟨(J1 _ _).1,rfl,W8 _⟩
  .cases a
 unfold fR at a;split at a
 .obtain⟨h1,a⟩:=A2 a;cases a;exact⟨A6 _,rfl,A6 _⟩
 .exact main a
def A2j(nul:Bool)(wd:Nat)(rows:List (List U)):List (List U)->U
 | []=>.seq nul wd rows
 | r0::r=>.seq false wd (rows++r0::r)
def DS(h:∃ n w r,nL nul wd rows rows2=.seq n w r):rows.length+rows2.length<=tZ/\nL nul wd rows rows2=A2j nul wd rows rows2:=by
 by_cases a:rows.length+rows2.length<=tZ
 .refine⟨a,?_⟩;unfold nL;rw[B2 a];cases rows2<;>rfl
 .unfold nL at h;rw[B1 a]at h;obtain⟨_,_,_,h⟩:=h;cases h
def HL{old:Option Nat} 
  (hu:P.underlying t=some (.slice e)) (Q:P.underlying t2=some d2) (V:aJ d2=true) (hi:P.info? e=some inf) (hz:cQ P e=some z) (ak:z.cells.size=inf.size) (bp:inf.bytes<=90000)
  (h:HR P base ρ m.H w) (hb:base<=w.heap.size) (E:BQ m e inf.size c old bh (g0++gs)=some (v,m')) (hf:I2 ρ m.n m'.hi) (hS:Sat m'.lg)
  (an:TF P base ρ m w e inf.size c g0 old x') (d:LY P ρ w inf.size bh gs y' rows2 new'):VOk P base ρ m w (Builtin.append_ #[t,t2] ty #[x',y']) v m':=by
 unfold BQ at E;split at E
 .rename_i g m1 hj;rw[L6]at E;have br:=L1 hj;generalize bo:cN m1 (10+inf.size) (aT inf.size (hole c (10+inf.size)) bh).1 (aT inf.size (hole c (10+inf.size)) bh).2=lg1 at E;have ag:m'.lg=lg1/\m1.hi<=m'.hi/\m1.n<=m'.n:=by
   unfold s9 at E;cases old with
   | none =>
     simp only[fP]at E;obtain⟨_,_,rfl⟩:=J7 E;exact⟨by simp,by simpa using(J1 m1.hi m1.n).1,by simp⟩
   | some b =>
     simp only[fP,Z4]at E;obtain⟨_,_,rfl⟩:=J7 E;exact⟨by simp,by simpa using(J1 m1.hi m1.n).1,by simp⟩
  have av:I2 ρ m.n m1.hi:=hf.less ag.2.1;obtain⟨L,lg,e1,e2,e3,e4,e5,e6⟩:=bZ h hj av;have p:St P base ρ L m (m1.wLg lg1) w w:=St.trans (by simpa using av) e1 (St.wLg e1.hr lg1);have I:I2 L (m1.wLg lg1).n m'.hi:=by simpa using hf.step e1
  have bs:Sat (m1.wLg lg1).lg:=by simpa [<- ag.1]using hS
  obtain⟨nul,rows,hc,hx⟩:=an.ex;obtain⟨d1,d2,nx,bu,rws,d3,d4⟩:=fU (m:=m1) (t:=10+inf.size) (op:=(aT inf.size (hole c (10+inf.size)) bh).1) (xs:=(aT inf.size (hole c (10+inf.size)) bh).2) (lg:=lg1) (by simpa using bs) (by rw[Y1,bo];exact .refl _);rw[d.ev c nul rows hc]at d1;obtain⟨ax,ae⟩:=DS ⟨nx,bu,rws,d1.symm.trans d3⟩;rw[ae]at d1;have bn:∀ b ∈ g0,∀ l,ρ b=some l->Sub l.G lg.G:=fun b X l hl=>e6 b (B7.2 (.inl X)) l hl
  have bq:∀ b ∈ gs,∀ l,ρ b=some l->Sub l.G lg.G:=fun b X l hl=>e6 b (B7.2 (.inr X)) l hl
  have au:=d.rows lg.G bq;have B:∀ {v':Value} {ρ2:Ren} {w2:World},(Builtin.append_ #[t,t2] ty #[x',y']).run P w=.ok v' w2->VR ρ2 v v'->St P base L ρ2 (m1.wLg lg1) m' w w2->VOk P base ρ m w (Builtin.append_ #[t,t2] ty #[x',y']) v m':=fun hr hv hs =>
   ⟨_,_,_,hr,hv,St.trans hf p hs⟩
  have af:∀ w,(zeroValue e).run P w=.ok z w:=fun w=>m9 hz w
  have az:∀ {j l},ρ j=some l->Hp.get (m1.wLg lg1).H j=Hp.get m.H j:=fun bx=>by rw[gK];exact oH h hj av bx
  have J:(3*(rows.length+rows2.length)+4000)*inf.bytes<=281474976710656:=by
   have h1:3*(rows.length+rows2.length)+4000<=3000004000:=by unfold tZ at ax;omega
   have h2:=iS h1 bp;omega
  have R:rows.length+rows2.length<=1000000000:=ax;rcases hx with⟨rfl,rfl,rfl,hold⟩|⟨rfl,b,ab,l,cap,C,fz,rfl,ar,bm,T,bz,ah,rfl,F,Z,S,W,aj⟩
  ·
   have N:∀ b,old=some b->∃ ab l,b<=G1/\Hp.get (m1.wLg lg1).H b=some ab/\ab.rw=true/\L b=some l/\l.on=false:=fun b X=>by
    obtain⟨ab,l,q1,q2,q3,q4,q5⟩:=hold b X;exact⟨ab,l,q1,by rw[az q4];exact q2,q3,e1.ext _ _ q4,q5⟩
   cases f:rows2 with
   | nil =>
     subst f;have D:Ora.env m1.lg.nx=.seq true inf.size []:=d1;obtain⟨ρ2,q1,q2⟩:=wF p.hr N E I D rfl hi rfl;have aq:new'=[]:=D9.1 (by rw[d.size];simp);exact B (pJ hu Q V hi (fun wd=>d.len wd) (by have:=d.first w rfl;rw[aq]at this;exact this)) q1 q2
   | cons r0 rr =>
     rw[f]at d1;have D:Ora.env m1.lg.nx=.seq false inf.size rows2:=by rw[f];exact d1
     obtain⟨nc,Y,q⟩:=dV (P:=P) (w:=w) (ty:=ty) (a:=none) (n:=0) (c:=0) (k:=rows2.length) (old':=[]) (new':=new') (x':=y') hu Q V hi af (fun wd=>d.len wd) (fun _ _=>rfl) (fun wd hw=>d.first wd hw) (by rw[f];simp) (by simpa using J) (by simpa using R);obtain⟨m2,bt,st2⟩:∃ m2,s9 m2 m1.lg.nx (10+inf.size) e g=some (v,m')/\St P base L L (m1.wLg lg1) m2 w w:=by
      cases old with
      | none=>exact⟨_,E,St.refl p.hr⟩
      | some b =>
        obtain⟨ab,l,q1,q2,q3,q4,q5⟩:=N b rfl;exact⟨_,E,St.kill p.hr q1 q2 q3⟩
     obtain⟨ρ2,q1,q2⟩:=y0 (w':={ w.drew with heap:=w.heap.push (.cells (({ toList:=[] }:Array Value)++⟨new'⟩++Builtin.zeroCells z.cells (nc-(0+rows2.length))) e (0,0)) }) (cap:=nc) st2.hr hb bt (I.step st2) D rfl hi rfl A9
      (by have:=bF (s:=inf.size) (k:=rows2.length) (n:=0) (nc:=nc) (z:=z) (old':=[]) d.size Y ak (by simp);exact this)
      (au.move (C':=({ toList:=[] }:Array Value)++⟨new'⟩++Builtin.zeroCells z.cells (nc-(0+rows2.length))) (o':=0) fun i hi'=>by
        have aa:i<new'.length:=by rw[d.size];exact hi'
        rw[D8 i];rw[CY (A4 aa)];simp[aa]) (st2.ext _ _ e4) (fun i _ hh=>by have h1:0<=i:=hh.1;have h2:i<0:=hh.2;omega) ⟨rfl,rfl,rfl⟩ rfl
     exact B q (by rw[D8];exact q1) (St.trans I st2 q2)
  ·
   have ao:Hp.get (m1.wLg lg1).H b=some ab:=by rw[az bz];exact bm
   have A:=aj lg.G bn;have aw:=e1.ext _ _ bz;cases f:rows2 with
   | nil =>
     subst f;have D:Ora.env m1.lg.nx=.seq false inf.size rows:=d1;have aq:new'=[]:=D9.1 (by rw[d.size];simp);obtain⟨ρ2,q1,q2⟩:=kQ (w':=w) (cap:=cap) (sh:=l.sh) p.hr ar ao T aw ah E I D rfl hi rfl Z S A e4 W ⟨rfl,rfl,rfl⟩ rfl (fun _ _=>rfl) F;have q:=iZ (P:=P) (w:=w) (w':=w) (ty:=ty) (a:=⟨l.blk,l.sh,none⟩) (n:=rows.length) (k:=0) (c:=cap) (new':=new') hu Q V hi (fun wd=>d.len wd) (d.first w rfl) A9 (by rw[aq];rfl);exact B q q1 q2
   | cons r0 rr =>
     have D:Ora.env m1.lg.nx=.seq false inf.size (rows++rows2):=by rw[f]at d1 ⊢;exact d1
     by_cases K:rows.length+rows2.length<=cap
     .have ay:(rows.length+rows2.length)*inf.size<=cap*inf.size:=E4 _ K;rw[G0]at ay;obtain⟨w',r1,r2,r3,r4,r5⟩:=V9 (P:=P) (b:=l.blk) (o:=rows.length*inf.size+l.sh) (fz:=fz) new' 0 C w F d.flat (by rw[d.size];omega) W;have al:(Addr.mk l.blk l.sh none).add (rows.length*inf.size)=⟨l.blk,rows.length*inf.size+l.sh,none⟩:=by
       unfold Addr.add;split
       .rename_i h0;rw[h0];simp
       .simp[fM]
      have q:=iZ (P:=P) (w:=w) (w':=w') (ty:=ty) (a:=⟨l.blk,l.sh,none⟩) (n:=rows.length) (k:=rows2.length) (c:=cap) (new':=new') hu Q V hi (fun wd=>d.len wd) (d.first w rfl) K (by rw[al];exact r1);have O:(Array.mk (x9 C.toList (rows.length*inf.size+l.sh+0) new')).size=C.size:=by simp[W4]
      have ad:∀ j,(Array.mk (x9 C.toList (rows.length*inf.size+l.sh+0) new'))[j]? = if rows.length*inf.size+l.sh<=j/\j<rows.length*inf.size+l.sh+new'.length then new'[j-(rows.length*inf.size+l.sh)]? else C[j]? := fun j=>by
       rw[I0,gV _ _ _ _ (by simp;rw[d.size];omega)];simp
      obtain⟨ρ2,q1,q2⟩:=kQ (w':=w') (cap:=cap) (sh:=l.sh) (C:=⟨x9 C.toList (rows.length*inf.size+l.sh+0) new'⟩) p.hr ar ao T aw ah E I D rfl hi rfl (by simpa using K) (by rw[O];exact S)
       (M2.append (A.move (o':=l.sh) fun i hi'=>by rw[ad,B1 A9]) (au.move (o':=l.sh+rows.length*inf.size) fun i hi'=>by
         rw[ad,B2 (by rw[d.size];omega),show l.sh+rows.length*inf.size+i-(rows.length*inf.size+l.sh)=i by omega,D8];simp)) e4 (by rw[O];exact W) r2 r3 r5 r4
      rw[G7]at q1;exact B q q1 q2
     .have hold:∃ old',old'.length=rows.length*inf.size/\(∀ i,i<rows.length*inf.size->old'[i]? = C[l.sh+i]?)/\∀ wd:World,wd.heap=w.heap->(Builtin.firstCells inf.size rows.length (.slice (some ⟨l.blk,l.sh,none⟩) rows.length cap)).run P wd=.ok ⟨old'⟩ wd:=by
       have ay:rows.length*inf.size<=cap*inf.size:=E4 _ Z;have hlen:((C.toList.drop l.sh).take (rows.length*inf.size)).length=rows.length*inf.size:=by simp;omega
       refine⟨(C.toList.drop l.sh).take (rows.length*inf.size),hlen,fun i hi'=>?_,fun wd hw=>?_⟩
       .rw[F0 hi',G4];simp
       .rw[show Builtin.firstCells inf.size rows.length (.slice (some ⟨l.blk,l.sh,none⟩) rows.length cap)=loadCells ⟨l.blk,l.sh,none⟩ (rows.length*inf.size)from rfl];refine I5 hlen fun j v' hj=>?_
        have ai:=(A7.1 hj).1;rw[hlen]at ai;rw[F0 ai,G4]at hj;rw[v6 hw];have bw:C[l.sh+j]? = some v':=by simpa using hj
        simp[World.cell?,F,bw]
      obtain⟨old',o1,o2,o3⟩:=hold;obtain⟨nc,Y,q⟩:=dV (P:=P) (w:=w) (ty:=ty) (a:=some ⟨l.blk,l.sh,none⟩) (n:=rows.length) (c:=cap) (k:=rows2.length) (old':=old') (new':=new') (x':=y') hu Q V hi af (fun wd=>d.len wd) o3 (fun wd hw=>d.first wd hw) K J R;have r:=St.kill p.hr ar ao T;obtain⟨ρ2,q1,q2⟩:=y0 (w':={ w.drew with heap:=w.heap.push (.cells (({ toList:=old' }:Array Value)++⟨new'⟩++Builtin.zeroCells z.cells (nc-(rows.length+rows2.length))) e (0,0)) }) (cap:=nc) r.hr hb E (I.step r) D rfl hi rfl (by simpa using Y)
       (bF d.size Y ak o1)
       (M2.append (A.move (C':=({ toList:=old' }:Array Value)++⟨new'⟩++Builtin.zeroCells z.cells (nc-(rows.length+rows2.length))) (o':=0) fun i hi'=>by
         have M:i<old'.length:=by rw[o1];exact hi'
         rw[D8 i,<- o2 i hi',bG (u:=old'[i]) (by rw[E5 M,A4 M]),A4 M]) (au.move (o':=0+rows.length*inf.size) fun i hi'=>by
         have M:i<new'.length:=by rw[d.size];exact hi'
         rw[D8 (rows.length*inf.size),D8 i,bG (u:=new'[i]) (by rw[D5 (by rw[o1];omega),o1,S3,A4 M])];simp[M])) (r.ext _ _ e4) (fun i _ hh=>by have h1:0<=i:=hh.1;have h2:i<0:=hh.2;omega) ⟨rfl,rfl,rfl⟩ rfl
      rw[G7]at q1;exact B q q1 (St.trans I r q2)
 .cases E
end
end
section
open Go
variable [Ora]
section
variable {P:Program} {base:Nat} {ρ ρ':Ren} {m m':Mem} {w w':World}
def TW{a:Addr} 
  (hu:P.underlying t=some (.slice e)) (Q:P.underlying t2=some d2) (aw:aJ d2=true) (hi:P.info? e=some inf) (hz:cQ P e=some z) (S:z.cells.size=inf.size) (az:inf.bytes<=90000)
  (h:HR P base ρ m.H w) (hb:base<=w.heap.size) (q:BQ m e inf.size c none bh (b::gs)=some (v,m')) (hf:I2 ρ m.n m'.hi) (hS:Sat m'.lg)
  (hc:Ora.env c=.seq false inf.size rows) (V:ρ b=some l) (A:Enc l.G (Ora.env c) (.slice (some a) rows.length rows.length)) (d:LY P ρ w inf.size bh gs y' rows2 new') (p:rows2≠[]) :
  VOk P base ρ m w (Builtin.append_ #[t,t2] ty #[.slice (some a) rows.length rows.length,y']) v m':=by
 unfold BQ at q;split at q
 .rename_i g m1 O;rw[L6]at q;have Y:=L1 O;generalize ay:cN m1 (10+inf.size) (aT inf.size (hole c (10+inf.size)) bh).1 (aT inf.size (hole c (10+inf.size)) bh).2=lg1 at q;have q:s9 (m1.wLg lg1) m1.lg.nx (10+inf.size) e g=some (v,m'):=q;have J:m'.lg=lg1/\m1.hi<=m'.hi/\m1.n<=m'.n:=by
   unfold s9 at q;obtain⟨_,_,rfl⟩:=J7 q;exact⟨by simp,by simpa using(J1 m1.hi m1.n).1,by simp⟩
  have E:I2 ρ m.n m1.hi:=hf.less J.2.1;obtain⟨I,lg,N,e2,e3,e4,e5,e6⟩:=bZ h O E;have B:St P base ρ I m (m1.wLg lg1) w w:=St.trans (by simpa using E) N (St.wLg N.hr lg1);have ax:I2 I (m1.wLg lg1).n m'.hi:=by simpa using hf.step N
  have W:Sat (m1.wLg lg1).lg:=by simpa [<- J.1]using hS
  obtain⟨d1,d2,nx,T,rws,d3,d4⟩:=fU (m:=m1) (t:=10+inf.size) (op:=(aT inf.size (hole c (10+inf.size)) bh).1) (xs:=(aT inf.size (hole c (10+inf.size)) bh).2) (lg:=lg1) (by simpa using W) (by rw[Y1,ay];exact .refl _);rw[d.ev c false rows hc]at d1;obtain⟨C,K⟩:=DS ⟨nx,T,rws,d1.symm.trans d3⟩;rw[K]at d1;have av:Sub l.G lg.G:=e6 b (.head _) l V;have Z:∀ b ∈ gs,∀ l,ρ b=some l->Sub l.G lg.G:=fun b ar l V=>e6 b (.tail _ ar) l V
  have R:=d.rows lg.G Z;have X:∀ w,(zeroValue e).run P w=.ok z w:=fun w=>m9 hz w
  have r:(3*(rows.length+rows2.length)+4000)*inf.bytes<=281474976710656:=by
   have h1:3*(rows.length+rows2.length)+4000<=3000004000:=by unfold tZ at C;omega
   have h2:=iS h1 az;omega
  have D:rows.length+rows2.length<=1000000000:=C;have aq:0<rows2.length:=List.length_pos_iff.2 p;have au:Ora.env m1.lg.nx=.seq false inf.size (rows++rows2):=by
   cases rows2 with
   | nil=>exact absurd rfl p
   | cons r0 rr=>exact d1
  rw[hc]at A;obtain⟨_,old',F,o2,o3,o4⟩:=oT (w:=w) (A.mono av) ((N.hr.atl e4 e5).1.2);have o5:∀ wd:World,wd.heap=w.heap->(Builtin.firstCells inf.size rows.length (.slice (some a) rows.length rows.length)).run P wd=.ok ⟨old'⟩ wd:=fun wd hw=>by
   rw[show Builtin.firstCells inf.size rows.length (.slice (some a) rows.length rows.length)=loadCells a (rows.length*inf.size)from rfl];exact hZ F fun j v' O=>by rw[v6 hw];exact o4 j v' O
  obtain⟨nc,M,L⟩:=dV (P:=P) (w:=w) (ty:=ty) (a:=some a) (n:=rows.length) (c:=rows.length) (k:=rows2.length) (old':=old') (new':=new') (x':=y') hu Q aw hi X (fun wd=>d.len wd) o5 (fun wd hw=>d.first wd hw) A9 r D;obtain⟨ρ2,q1,q2⟩:=y0 (w':={ w.drew with heap:=w.heap.push (.cells (({ toList:=old' }:Array Value)++⟨new'⟩++Builtin.zeroCells z.cells (nc-(rows.length+rows2.length))) e (0,0)) }) (cap:=nc) B.hr hb q ax au rfl hi rfl (by simpa using M)
   (bF d.size M S F)
   (M2.append (o3.move (C':=({ toList:=old' }:Array Value)++⟨new'⟩++Builtin.zeroCells z.cells (nc-(rows.length+rows2.length))) (o':=0) fun i hi'=>by
     have f:i<old'.length:=by rw[F];exact hi'
     rw[D8 i,bG (u:=old'[i]) (by rw[E5 f,A4 f])];simp[f]) (R.move (o':=0+rows.length*inf.size) fun i hi'=>by
     have f:i<new'.length:=by rw[d.size];exact hi'
     rw[D8 (rows.length*inf.size),D8 i,bG (u:=new'[i]) (by rw[D5 (by rw[F];omega),F,S3,A4 f])];simp[f])) e4 (fun i _ hh=>by have h1:0<=i:=hh.1;have h2:i<0:=hh.2;omega) ⟨rfl,rfl,rfl⟩ rfl
  rw[G7]at q1;exact⟨_,_,_,L,q1,St.trans hf B q2⟩
 .cases q
def LT(d:uC P td)(a:SO td P m e wd y=some (bh,gs,sure,m')):m.hi<=m'.hi/\m.lg.le m'.lg/\m.n<=m'.n:=by
 unfold SO at a;split at a
 .cases a;exact⟨A6 _,.refl _,A6 _⟩
 .split at a
  .split at a
   .rename_i f;cases a;exact P2 d f
   .cases a
  .cases a
 .split at a
  .rename_i f;cases a;exact d.mono f
  .cases a
 .obtain⟨h1,a⟩:=A2 a;cases a;exact⟨A6 _,.refl _,A6 _⟩
def fF(d:uC P td){old:Option Nat}(a:xR td P m e wd x=some (c,gs,old,m')):m.hi<=m'.hi/\m.lg.le m'.lg/\m.n<=m'.n:=by
 unfold xR at a;split at a
 .rw[L6]at a;simp only[hole]at a;cases a;exact⟨by simp,S0,by simp⟩
 .split at a
  .obtain⟨h1,a⟩:=A2 a;cases a;exact⟨A6 _,.refl _,A6 _⟩
  .cases a
 .split at a
  .obtain⟨h1,a⟩:=A2 a;split at a
   .rename_i f;split at a
    .obtain⟨h1,a⟩:=A2 a;rw[L6]at a;simp only[hole]at a;cases a
     have:=P2 d f;exact⟨by simpa using this.1,this.2.1.trans S0,by simpa using this.2.2⟩
    .cases a
   .cases a
  .cases a
 .cases a
def d9{t:Nat}{T:TypeId}(h:s9 m c t T g=some (v,m')):m.hi<=m'.hi/\m'.lg=m.lg/\m.n<=m'.n:=by
 unfold s9 at h;obtain⟨_,_,rfl⟩:=J7 h;exact⟨(J1 _ _).1,rfl,W8 _⟩
def u7(old:Option Nat)(m:Mem):(fP old m).hi=m.hi/\(fP old m).lg=m.lg/\(fP old m).n=m.n:=by
 cases old with
 | none=>exact⟨rfl,rfl,rfl⟩
 | some b=>simp[fP,Z4]
def jB{old:Option Nat}(d:BQ m e wd c old bh gs=some (v,m')):m.hi<=m'.hi/\m.lg.le m'.lg/\m.n<=m'.n:=by
 unfold BQ at d;split at d
 .rename_i g m1 q;rw[L6]at d;have a:=L1 q;have b:=d9 d;obtain⟨r,f,p⟩:=u7 old (m1.wLg (cN m1 (10+wd) (aT wd (hole c (10+wd)) bh).1 (aT wd (hole c (10+wd)) bh).2));refine⟨?_,?_,?_⟩
  .have:=b.1;rw[r]at this;simp at this;omega
  .rw[b.2.1,f,<- a.2.1];exact S0
  .have:=b.2.2;rw[p]at this;simp at this;omega
 .cases d
def FK{t:Nat}{T:TypeId}{old:Option Nat}(h:HR P base ρ m.H w)(hold:∀ b,old=some b->b<=G1/\Hp.get m.H b≠some .frz)(f:s9 (fP old m) c t T g=some (v,m'))(q:I2 ρ m.n m'.hi):Z6 ρ m m':=fun j l h1 d=>by
 have p:=u7 old m;unfold s9 at f;rw[gY f (h.dom j l h1),B1]
 .cases old with
  | none=>exact d
  | some b =>
    show Hp.get (fQ m b).H j=_;rw[Z4];show Hp.get (m.H.set b none) j=_;obtain⟨r,a⟩:=hold b rfl;rw[E7 _ _ _ _ r (h.dom j l h1),B1]
    .exact d
    .intro e;subst e;exact a d
 .intro e;obtain⟨_,_,rfl⟩:=J7 f;rw[p.2.2]at e;subst e;rw[q m.n (A6 _) (Nat.lt_of_le_of_lt (Nat.le_of_eq p.2.2.symm) (J1 (fP old m).hi (fP old m).n).2)]at h1;cases h1
omit [Ora] in
def EX(h:P.info? e=some inf):F6 P e=some inf.size:=by unfold F6;rw[h]
def wC(f:uC P td)(d:KY td P m e wd x=some (v,m')):m.hi<=m'.hi/\m.lg.le m'.lg/\m.n<=m'.n:=by
 unfold KY at d;split at d
 .obtain⟨_,d⟩:=A2 d;split at d
  .rename_i p;have a:=fF f p;split at d
   .rename_i q;have b:=L1 q;have c:=d9 d;refine⟨?_,?_,?_⟩
    .have:=c.1;rw[(u7 _ _).1]at this;omega
    .rw[c.2.1,(u7 _ _).2.1,b.2.1];exact a.2.1
    .have:=c.2.2;rw[(u7 _ _).2.2]at this;omega
   .cases d
  .cases d
 .cases d
def HO(N:uC P td)(h:HR P base ρ m.H w)(d:KY td P m e wd x=some (v,m'))(X:I2 ρ m.n m'.hi)(hx:VR ρ x x')(hS:Sat m'.lg) :
  ∃ ρ',VR ρ' v x'/\St P base ρ ρ' m m' w w/\m.lg.le m'.lg/\Z6 ρ m m':=by
 unfold KY at d;split at d
 .rename_i inf hi;obtain⟨h1,d⟩:=A2 d;obtain⟨h1,h2⟩:=B3 h1;have h1:=A0 h1;have h2:0<wd:=A1 h2;split at d
  .rename_i c gs old m1 L;have a:=fF N L;split at d
   .rename_i g m2 hj;have b:=L1 hj;have cm:=d9 d;have k1:=u7 old m2;have S:m'.lg=m1.lg:=by rw[cm.2.1,k1.2.1,b.2.1]
    have I:m2.hi<=m'.hi:=by have:=cm.1;rw[k1.1]at this;exact this
    obtain⟨O,F,e2,e3,e4⟩:=EA N h L (X.less (B6 b.1 I)) hx (by rw[<- S];exact hS) h2 (h1▸EX hi);have f:I2 O m1.n m'.hi:=X.step F;obtain⟨ρ2,lg,u,j2,j3,j4,j5,j6⟩:=bZ F.hr hj (f.less I);have K:I2 ρ2 m2.n m'.hi:=f.step u;obtain⟨nul,rows,hc,ay⟩:=e4.ex;have A:∀ {j l},O j=some l->Hp.get m2.H j=Hp.get m1.H j:=fun Y=>oH F.hr hj (f.less I) Y
    have hle:m.lg.le m'.lg:=by rw[S];exact a.2.1
    have q:(∀ b,old=some b->b<=G1/\Hp.get m2.H b≠some .frz)->Z6 ρ m m':=fun hq=>(e3.trans F.ext j3).trans (fun b l L=>u.ext b l (F.ext b l L)) (FK u.hr hq d K)
    rcases ay with⟨rfl,rfl,rfl,hold⟩|⟨rfl,b0,ab,l,cap,C,fz,rfl,R,az,B,W,Z,rfl,D,M,J,V,Q⟩
    .have p:∀ b,old=some b->∃ ab l,b<=G1/\Hp.get m2.H b=some ab/\ab.rw=true/\ρ2 b=some l/\l.on=false:=fun b r=>by
      obtain⟨ab,l,q1,q2,q3,q4,q5⟩:=hold b r;exact⟨ab,l,q1,by rw[A q4];exact q2,q3,u.ext _ _ q4,q5⟩
     obtain⟨E,q1,q2⟩:=wF u.hr p d K hc rfl hi h1;exact⟨E,q1,St.trans X F (St.trans f u q2),hle,q fun b r=>by
      obtain⟨ab,l,q1,q2,q3,_⟩:=p b r;exact⟨q1,fun he=>by rw[q2]at he;cases he;cases q3⟩⟩
    .have T:Hp.get m2.H b0=some ab:=by rw[A W];exact az
     obtain⟨E,q1,q2⟩:=kQ (w':=w) (cap:=cap) (sh:=l.sh) u.hr R T B (u.ext _ _ W) Z d K hc rfl hi h1 M J (Q lg.G fun b L l hl=>j6 b L l hl) j4 V ⟨rfl,rfl,rfl⟩ rfl (fun _ _=>rfl) D;exact⟨E,q1,St.trans X F (St.trans f u q2),hle,q fun b r=>by
      cases r;exact⟨R,fun he=>by rw[T]at he;cases he;cases B⟩⟩
   .cases d
  .cases d
 .cases d
def GW:∀ (d:Nat),uC P (ML P d)
 | 0=>MM
 | d+1=>by
   have u:=GW d;refine⟨fun{base ρ m m' w t v v' x b} h f n r q=>?_,fun{m m' t v x b} f=>?_⟩
   .unfold ML at f;split at f
    .split at f
     .split at f
      .rename_i A m1 p;have a:=dQ f;obtain⟨C,c1,c2,D,B⟩:=HO u h p (n.less a.1) r (q.le a.2.1);obtain⟨ρ2,l,d1,d2,d3,d4,d5,d6⟩:=yB c2.hr f (n.step c2) c1 q;exact⟨ρ2,l,St.trans n c2 d1,d2,d3,d4,d5,D.trans d6,B.trans c2.ext (AM c2.hr f (n.step c2))⟩
      .cases f
     .cases f
    .exact MM.ok h f n r q
   .unfold ML at f;split at f
    .split at f
     .split at f
      .rename_i A m1 p;have a:=wC u p;have b:=dQ f;exact⟨B6 a.1 b.1,a.2.1.trans b.2.1,B6 a.2.2 b.2.2⟩
      .cases f
     .cases f
    .exact dQ f
def R4:uC P (tdP P):=GW 3
def AC(d:nP P m t t2 x y=some (v,m')):m.hi<=m'.hi/\m.lg.le m'.lg/\m.n<=m'.n:=by
 unfold nP at d;split at d
 .rename_i e d2 hu r;cases f:aJ d2 with
  | false=>rw[f]at d;cases d
  | true =>
    rw[f]at d;simp only[N5,D3]at d;split at d
    .obtain⟨_,d⟩:=A2 d;split at d
     .rename_i p;have a:=LT R4 p;split at d
      .rename_i q;have b:=fF R4 q;have c:=jB d;exact⟨A9,a.2.1.trans (b.2.1.trans c.2.1),A9⟩
      .split at d
       .obtain⟨_,d⟩:=A2 d;have c:=jB d;exact⟨A9,a.2.1.trans c.2.1,A9⟩
       .cases d
     .cases d
    .cases d
 .cases d
def LY.step(h:LY P ρ w wd bh gs y' rows2 new')(n:∀ b ∈ gs,∃ l,ρ b=some l)(he:∀ b l,ρ b=some l->ρ' b=some l):LY P ρ' w wd bh gs y' rows2 new' :=
 ⟨h.len,h.first,h.size,h.flat,fun R d=>h.rows R fun b f l a=>d b f l (he b l a),h.ev⟩
def MA{n:Nat}(h:MB P e n=true):∃ z,cQ P e=some z/\z.cells.size=n:=by
 unfold MB at h;split at h
 .rename_i z a;exact⟨z,a,A0 h⟩
 .cases h
def GM(h:HR P base ρ m.H w)(O:base<=w.heap.size)(u:nP P m t t2 x y=some (v,m'))(C:I2 ρ m.n m'.hi)(hx:VR ρ x x')(hy:VR ρ y y')(M:Sat m'.lg) :
  VOk P base ρ m w (Builtin.append_ #[t,t2] ty #[x',y']) v m':=by
 unfold nP at u;split at u
 .rename_i e d2 hu F;cases r:aJ d2 with
  | false=>rw[r]at u;cases u
  | true =>
    rw[r]at u;simp only[N5,D3]at u;split at u
    .rename_i inf hi;obtain⟨hq,d⟩:=A2 u;clear u;obtain⟨az,Z⟩:=B3 hq;obtain⟨Y,ay⟩:=B3 az;have J:=A1 Y;have K:0<inf.size:=A1 ay;obtain⟨z,V,G⟩:=MA Z;have E:F6 P e=some inf.size:=by unfold F6;rw[hi]
     split at d
     .rename_i bh gs sure m1 B;split at d
      .rename_i c g0 old m2 S;have mb:=fF R4 S;have mp:=jB d;have D:I2 ρ m.n m1.hi:=C.less A9;obtain⟨A,rows2,new',p,a2,a3,a4,a5,a6⟩:=JR R4 h B D hy (M.le (mb.2.1.trans mp.2.1)) K E;have q:I2 A m1.n m'.hi:=C.step p;obtain⟨ρ2,T,b2,b3,b4⟩:=EA R4 p.hr S (q.less mp.1) (hx.mono p.ext) (M.le mp.2.1) K E;obtain⟨v',f,w3,c1,c2,Q⟩:=HL (ty:=ty) hu F r hi V G J T.hr O d (q.step T) M b4 (a5.step (fun b ax=>(a4 b ax).2) T.ext);exact⟨v',f,w3,c1,c2,St.trans C (St.trans (C.less mp.1) p T) Q⟩
      .split at d
       .rename_i b c tg aw;obtain⟨R,I⟩:=A2 d;clear d;have R:=A0 R;have mp:=jB I;have D:I2 ρ m.n m1.hi:=C.less A9;obtain⟨A,rows2,new',p,a2,a3,a4,a5,a6⟩:=JR R4 h B D hy (M.le mp.2.1) K E;have q:I2 A m1.n m'.hi:=C.step p;obtain⟨l,d1,d2,d3,d4,d5⟩:=cU hx;obtain⟨nul,W,rows,q1,q2⟩:=cY d2 d3 d4;have X:W=inf.size:=A9;subst X;rw[q1]at d2;rcases j9 d2 with⟨rfl,rfl,rfl⟩|⟨rfl,a,cap,rfl,hc⟩
        .have L:TF P base A m1 w e inf.size c [b] none (.slice none 0 0):=⟨true,[],q1,.inl ⟨rfl,rfl,rfl,fun b O=>by cases O⟩⟩;obtain⟨v',f,w3,c1,c2,Q⟩:=HL (ty:=ty) (g0:=[b]) (gs:=gs) hu F r hi V G J p.hr O I q M L a5;exact⟨v',f,w3,c1,c2,St.trans C p Q⟩
        .have N:cap=rows.length:=d5;subst N;obtain⟨v',f,w3,c1,c2,Q⟩:=TW (ty:=ty) hu F r hi V G J p.hr O I q M q1 (p.ext _ _ d1) (by rw[q1];exact d2) a5 (a6 rfl);exact⟨v',f,w3,c1,c2,St.trans C p Q⟩
       .cases d
     .cases d
    .cases u
 .cases u
end
end
section
open Go
variable [Ora]
section
variable {P:Program} {base:Nat} {ρ ρ':Ren} {m m':Mem} {w w':World}
def BI(h:o+us.length<=row.length):(FE row o us).length=row.length:=by
 unfold FE;simp;omega
def OG(h:o+us.length<=row.length):(FE row o us)[j]? = if o<=j/\j<o+us.length then us[j-o]? else row[j]? := by
 unfold FE;have a:(row.take o).length=o:=by simp;omega
 by_cases h1:j<o
 .rw[B1 A9,V6,E5 A9,F0 h1]
 .by_cases d:j<o+us.length
  .rw[B2 ⟨A9,d⟩,V6,D5 A9,a,E5 A9]
  .rw[B1 A9,D5 (by simp;omega),G4];congr 1
   simp;omega
def M2.set{R:Nat->Option Obj}{s:Nat}{C C':Q0}(h:M2 R rows wd C s)(hk:k<rows.length)(H:o+us.length<=wd)(he:W7 R us vs)
  (hC:∀ j,C'[j]? = if s+k*wd+o<=j/\j<s+k*wd+o+vs.length then vs[j-(s+k*wd+o)]? else C[j]?):M2 R (rows.set k (FE (rows.getD k []) o us)) wd C' s:=by
 have d:rows[k]? = some rows[k]:=A4 hk;have D:rows.getD k []=rows[k]:=by rw[B9,d];rfl
 have p:rows[k].length=wd:=h.1 _ (L5 hk);rw[D];refine⟨fun row hr=>?_,fun r row j u v a a2 a3=>?_⟩
 .rcases List.mem_or_eq_of_mem_set hr with h1|rfl
  .exact h.1 row h1
  .rw[BI A9];exact p
 .rw[hC]at a3;by_cases f:k=r
  .subst f;rw[U1 hk]at a;have a:=A5 a;subst a;have B:=(A7.1 a2).1;rw[BI A9,p]at B;rw[OG A9]at a2;by_cases n:o<=j/\j<o+us.length
   .rw[B2 n]at a2;rw[B2 (by rw[<- he.1];omega)]at a3;exact he.2 (j-o) u v a2 (by rw[<- a3];congr 1;omega)
   .rw[B1 n]at a2;rw[B1 (by rw[<- he.1];omega)]at a3;exact h.2 k _ j u v d a2 a3
  .rw[y9 f]at a;have B:=(A7.1 a2).1;rw[h.1 _ (D6 a)]at B;have F:=(A7.1 a).1;have E:=he.1;rw[B1]at a3
   .exact h.2 r row j u v a a2 a3
   .rcases F2 r k with q|G
    .have A:(r+1)*wd<=k*wd:=E4 wd q;rw[G0]at A;omega
    .have A:(k+1)*wd<=r*wd:=E4 wd A9;rw[G0]at A;omega
def KG(h:HR P base ρ m.H w)(p:rQ P m t x y=some (v,m'))(W:I2 ρ m.n m'.hi)(hx:VR ρ x x')(hy:VR ρ y y')(hS:Sat m'.lg):UOk P base ρ m w (Instr.storeAt t x' y') m'/\v=undef/\m.lg.le m'.lg:=by
 unfold rQ at p;split at p
 .rename_i b i d z o ts ai;cases D:fA y with
  | true=>rw[D]at p;cases p
  | false =>
  rw[D]at p;simp only[D3]at p;split at p
  .rename_i xs gs m1 hd;split at p
   .rename_i c tc T g hg;obtain⟨ax,u⟩:=A2 p;clear p;have ax:=A0 ax;split at u
    .rename_i g2 m2 hj;rw[L6]at u;simp only[hole]at u;obtain⟨hs,rfl⟩:=jG u;obtain⟨ah,ay⟩:=R1 hs;have md:=P2 R4 hd;have mj:=L1 hj;have af:m2.hi=m'.hi:=by rw[ay];simp
     have X:m'.lg=cN m2 d (.set (d-10) o) (hole c d::z::xs):=by rw[ay];simp[hole]
     have Q:m2.lg.le m'.lg:=by rw[X];exact⟨[_],rfl⟩
     have av:I2 ρ m.n m1.hi:=W.less A9;have N:m1.lg.le m'.lg:=by rw[<- mj.2.1];exact Q
     obtain⟨M,K,e2,e3,e4,e5,e6⟩:=eL R4 h hd av (hy.cells D) (hS.le N);have az:I2 M m1.n m2.hi:=(W.step K).less A9;obtain⟨ρ2,lg,d1,d2,d3,d4,d5,d6⟩:=bZ K.hr hj az;obtain⟨⟨l,wd,BC,k,a1,a2,a3,a4,a5,a6,rfl⟩,a8⟩:=qO hx;have B:=K.ext _ _ a1;obtain⟨a,inf,q1,q2,q3,q4⟩:=SqR.ex (K.hr.atl B hg).1;rcases q4 with⟨q4,_⟩|⟨_,q4⟩
     .rw[a2]at q4;cases q4
     obtain⟨C,fz,T',rows,L,f1,f2,f3,f4,f5,f6,f7,f8,f9⟩:=q4;have an:a=wd:=by
      have:d=10+wd:=by rw[<- a8,a3];rfl
      omega
     subst an;obtain⟨rfl,f10⟩:=f9 rfl;have ar:d=10+a:=A9;have aq:Sat (m2.wLg (cN m2 d (.set (d-10) o) (hole c d::z::xs))).lg:=by rw[Y1,<- X];exact hS
     obtain⟨r1,r2,nul,ag,rws,r3,r4⟩:=fU aq (.refl _);obtain⟨kk,hz⟩:=AA a4;have J:(hole c d::z::xs).map (D4 Ora.env)=.seq false a rows::.int kk (.ofNat k)::xs.map (D4 Ora.env):=by
      show Ora.env c::D4 Ora.env z::xs.map (D4 Ora.env)=_;rw[f2,hz]
     rw[J,show d-10=a by omega]at r1;have r1:Ora.env m2.lg.nx=if a=a/\k<rows.length/\o+(xs.map (D4 Ora.env)).length<=a then .seq false a (rows.set k (FE (rows.getD k []) o (xs.map (D4 Ora.env))))else .none:=r1
     by_cases hc:a=a/\k<rows.length/\o+(xs.map (D4 Ora.env)).length<=a
     .rw[B2 hc]at r1;obtain⟨_,S,V⟩:=hc;have hR:∀ b' ∈ gs,∀ l',M b'=some l'->Sub l'.G lg.G:=fun b' aj l' al=>d6 b' (.tail _ aj) l' al
      have f:=e6 lg.G hR;have E:Sub L.G lg.G:=d6 g (.head _) L f7;have F:y'.cells.toList.length=(xs.map (D4 Ora.env)).length:=f.1.symm;have ao:(k+1)*a<=l.cap*a:=E4 a A9;rw[G0]at ao;obtain⟨w',g1,au,g3,g4,g5⟩:=V9 (P:=P) (b:=l.blk) (o:=l.sh+k*a+o) (fz:=fz) y'.cells.toList 0 C w f1 (wZ f) (by rw[F];omega) f10;have ae:C.toList.length=C.size:=O9;have q:(Array.mk (x9 C.toList (l.sh+k*a+o+0) y'.cells.toList)).size=C.size:=by simp[W4]
      have R:∀ j,(Array.mk (x9 C.toList (l.sh+k*a+o+0) y'.cells.toList))[j]? = if l.sh+k*a+o<=j/\j<l.sh+k*a+o+y'.cells.toList.length then y'.cells.toList[j-(l.sh+k*a+o)]? else C[j]? := fun j=>by
       rw[I0,gV _ _ _ _ (by rw[F];omega)];simp
      have r:M2 lg.G rows a C l.sh:=M2.mono ⟨f6,f8⟩ E;have A:St P base ρ ρ2 m (m2.wLg (cN m2 d (.set (d-10) o) (hole c d::z::xs))) w w:=St.trans (W.less (by simp;omega)) (St.trans (W.less A9) K d1) (St.wLg d1.hr _);have I:Hp.get (m2.wLg (cN m2 d (.set (d-10) o) (hole c d::z::xs))).H b=some (.sq c tc T' g false):=by rw[gK,oH K.hr hj az B];exact hg
      have aw:=d1.ext _ _ B;have ak:BR P ρ2 (.sq m2.lg.nx d T' g2 false) l w':=by
       refine⟨⟨a,inf,ar,q2,q3,.inr ⟨a2,_,fz,T',_,lg,g4,r1,by rw[gC];exact f3,f4,by rw[q];exact f5,(r.set S V f R).1,d4,(r.set S V f R).2,fun _=>⟨rfl,by rw[q];exact f10⟩⟩⟩⟩
      have Y:=St.write A.hr hs I rfl aw a2 au g3 g5 ak (fun h=>by cases h);refine⟨⟨ρ2,w',?_,St.trans W A Y⟩,rfl,md.2.1.trans N⟩;have O:=eM ai;have Z:ts.length=(xs.map (D4 Ora.env)).length:=by
       have:=U8 List.length e5;rw[E8]at this;exact this.symm
      have e:y'.cells.size=ts.length:=by rw[Z,<- F];simp
      simp[Instr.storeAt,Instr.sureAddr,storeVar,A3,J0 O,Result.andThen,e,g1]
     .rw[B1 hc]at r1;rw[r1]at r3;cases r3
    .cases u
   .cases p
  .cases p
 .cases p
def KI{lo' hi' mx':N6}(h:HR P base ρ m.H w)(a:rT P m t x lo hi mx=some (v,m'))(L:I2 ρ m.n m'.hi)(G:VR ρ x x')(p:OR ρ lo lo')(f:OR ρ hi hi')(q:OR ρ mx mx')(E:Sat m'.lg) :
  VOk P base ρ m w (Instr.sliceAt t x' lo' hi' mx') v m'/\m.lg.le m'.lg:=by
 unfold rT at a;split at a
 .rename_i e b i D hu;split at a
  .rename_i s C;obtain⟨d,a⟩:=A2 a;have d:=A0 d;obtain⟨l,h1,I,h3,T⟩:=jM G;obtain⟨⟨r,g1,g2⟩,⟨lg,rfl⟩,g4⟩:=zQ (w:=w) hu C d h1 I h3 (fun h=>by cases h) a p f q E;exact⟨⟨r,ρ,w,g1,g2,St.wLg h lg⟩,g4⟩
  .cases a
 .rename_i e b i D hu;split at a
  .rename_i s C;obtain⟨d,a⟩:=A2 a;have d:=A0 d;obtain⟨l,h1,I,h3,T,S⟩:=cU G;obtain⟨⟨r,g1,g2⟩,⟨lg,rfl⟩,g4⟩:=zQ (w:=w) hu C d h1 I h3 (fun _=>S) a p f q E;exact⟨⟨r,ρ,w,g1,g2,St.wLg h lg⟩,g4⟩
  .cases a
 .rename_i e b i D hu;split at a
  .rename_i s C;obtain⟨d,a⟩:=A2 a;have d:=A0 d;split at a
   .rename_i c tc M m1 O;have u:∀ {m1:Mem},DO m1 M c D false lo hi mx=some (v,m')->I1 m1 m'/\m1.lg.le m'.lg:=fun{m1} a=>by
     have go:∀ {m1:Mem} {l h:Value} {X:Bool},cZ m1 M c D l h X=some (v,m')->I1 m1 m'/\m1.lg.le m'.lg:=fun h=>by
      unfold cZ at h;obtain⟨_,h⟩:=A2 h;rw[L6]at h;simp only[C7,I9]at h;obtain⟨_,rfl⟩:=h;exact⟨⟨_,rfl⟩,S0⟩
     unfold DO DN at a;split at a
     .exact go a
     .exact go (A2 a).2
     .split at a
      .rename_i N
       have:=go a;exact⟨(u6 N).1.trans this.1,(u6 N).2.trans this.2⟩
      .cases a
     .cases a
    obtain⟨⟨lg,F⟩,hle⟩:=u a;have R:m1.hi=m'.hi:=by rw[F];simp
    obtain⟨B,l,K,V,Z,W,Q,Y⟩:=yB h O (L.less A9) G (E.le hle);have mono:∀ {o o':N6},OR ρ o o'->OR B o o':=fun{o o'} h=>by
     cases o<;>cases o'<;>first|exact trivial|exact h.elim|exact VR.mono K.ext h
    obtain⟨⟨r,g1,g2⟩,⟨J,A⟩,g4⟩:=zQ (w:=w) (cl:=false) hu C d V W Q (fun h=>by cases h) a (mono p) (mono f) (mono q) E;subst A;exact⟨⟨r,B,w,g1,g2,St.trans (L.less (by simp)) K (St.wLg K.hr J)⟩,Y.trans g4⟩
   .cases a
  .cases a
 .cases a
end
end
section
open Go
variable [Ora]
section
variable {P:Program} {base:Nat} {ρ ρ':Ren} {m m':Mem} {w w':World}
def vS{a':Addr}{n c':Nat}{a:List Int}(p:P.underlying s=some (.slice e))(q:P.underlying t=some .string)(he:P.underlying e=some (.int .u8))(d:(loadCells a' n).run P w=.ok (a.map (Value.int .u8)).toArray w) :
  (convert s t (.slice (some a') n c')).run P w=.ok (.string ⟨⟨a.map fun n=>UInt8.ofNat n.toNat⟩⟩) w:=by
 have:=run_bytesToString w a' n c' a d;have f:=kV a [];simp only[Q7]at f;simp only[convert,A3,C8 p,C8 q,C8 he,Result.andThen];rw[this,show ByteArray.empty=ByteArray.mk ⟨[]⟩from rfl,f]
def yI{n:Nat}(a:P.underlying s=some (.slice e))(d:P.underlying t=some .string)(he:P.underlying e=some (.int .u8)):(convert s t (.slice none n c)).run P w=.ok (.string ByteArray.empty) w:=by
 simp[convert,A3,C8 a,C8 d,C8 he,Result.andThen,Conv.bytesToString]
def BA{b:ByteArray}(F:P.underlying s=some ds)(E:P.underlying t=some (.slice e))(he:P.underlying e=some (.int .u8))(w:World) :
  ∃ (cap:Nat) (C:Array Value),b.size<=cap/\C.size=cap/\(∀ (i:Nat) (u:Value),(M6 b.data.toList)[i]? = some u->C[i]? = some u)/\(convert s t (.string b)).run P w=.ok (.slice (some ⟨w.heap.size,0,none⟩) b.size cap) { w.drew with heap:=w.heap.push (.cells C e (C.size,C.size+1)) }:=by
 let q:Question:=.appendCap b.size 0 e
 let cap:=q.cut (w.tape w.drawn q)
 have d:b.size<=cap:=by show b.size<=b.size+_;omega
 have n:(choose q).run P w=.ok cap w.drew:=by
  simp only[choose,Sem.run];rw[B1 (by simp[q,Question.forced])];rfl
 let C:Q0:=(b.data.map fun b=>Value.int .u8 b.toNat)++Array.replicate (cap-b.size) (.int .u8 0)
 have hC:C.size=cap:=by
  have:b.data.size=b.size:=rfl;simp[C,this];omega
 refine⟨cap,C,d,hC,fun i u hi=>?_,?_⟩
 .have B:=(A7.1 hi).1;simp[M6]at B;have p:i<(b.data.map fun b=>Value.int .u8 b.toNat).size:=by simpa using B
  show((b.data.map fun b=>Value.int .u8 b.toNat)++Array.replicate (cap-b.size) (.int .u8 0))[i]? = some u;rw[I8 p]
  simpa [M6]using hi
 .have A:∀ w2:World,w2.heap[w.heap.size]? = some (.cells C e (0,0))->(markStringish ⟨w.heap.size,0,none⟩).run P w2=.ok () (w2.freeze { block:=w.heap.size,off:=C.size } 1):=fun w2 D=>by
   simp[markStringish,shape,freeze,Sem.run,World.shape?,D]
  have f:({ w.drew with heap:=w.heap.push (.cells C e (0,0)) }:World).freeze { block:=w.heap.size,off:=C.size } 1={ w.drew with heap:=w.heap.push (.cells C e (C.size,C.size+1)) }:=by
   unfold World.freeze;rw[B1 L7];congr 1;apply Array.ext_getElem?;intro i;rw[F1];by_cases hi:w.heap.size=i
   .subst hi;simp
   .rw[B1 hi];simp only[K3];rw[B1 (fun h=>hi h.symm),B1 (fun h=>hi h.symm)]
  have a:(convert s t (.string b)).run P w=(Conv.stringToBytes e b).run P w:=by
   cases ds<;>simp[convert,A3,C8 F,C8 E,C8 he,Result.andThen]
  rw[a];unfold Conv.stringToBytes;simp only[A3,show(choose (.appendCap b.size 0 e)).run P w=.ok cap w.drew from n,Result.andThen];have r:(newRow e C).run P w.drew=.ok ⟨w.heap.size,0,none⟩ { w.drew with heap:=w.heap.push (.cells C e (0,0)) }:=rfl;rw[show(newRow e ((b.data.map fun b=>Value.int .u8 b.toNat)++Array.replicate (cap-b.size) (.int .u8 0))).run P w.drew=_ from r];simp only[Result.andThen];rw[A _ (by simp),f];rfl
def zV:∀ {us:List U} {s:List UInt8} {vs:D0},uY us=some s->W7 (fun k=>w.heap[k]?) us vs->∃ d:List Int,vs=d.map (Value.int .u8)/\s=d.map fun n=>UInt8.ofNat n.toNat
 | [],s,vs,h,he=>by
   cases h;have:vs=[]:=D9.1 he.1.symm;subst this;exact⟨[],rfl,rfl⟩
 | u::us,s,vs,h,he=>by
   unfold uY at h;split at h
   .rename_i heq;cases heq
   .rename_i n r heq;cases heq;split at h
    .split at h
     .rename_i l q;cases h;cases vs with
      | nil=>have:=he.1;simp at this
      | cons v f =>
        obtain⟨d,B,A⟩:=zV (vs:=f) q ⟨by have:=he.1;simpa using this,fun i a b h1 p=>he.2 (i+1) a b (by simpa using h1) (by simpa using p)⟩
        have:=jO (he.2 0 _ v rfl rfl) rfl;subst this;exact⟨(Int.ofNat n)::d,by rw[B];rfl,by rw[A];rfl⟩
     .cases h
    .cases h
   .cases h
def zW:∀ {rows:List (List U)} {s:List UInt8},zX rows=some s->uY (rows.flatMap id)=some s/\(rows.flatMap id).length=rows.length/\∀ (r:Nat) (row:List U) (j:Nat) (u:U),rows[r]? = some row->row[j]? = some u->j=0/\(rows.flatMap id)[r]? = some u
 | [],s,h=>by cases h;exact⟨rfl,rfl,fun r row j u h=>by simp at h⟩
 | row::rows,s,h=>by
   unfold zX at h;split at h
   .rename_i heq;cases heq
   .rename_i n r heq;cases heq;split at h
    .rename_i d;split at h
     .rename_i l A;cases h;obtain⟨h1,f,h3⟩:=zW A;refine⟨?_,by show([U.int .u8 (Int.ofNat n)]++rows.flatMap id).length=_;rw[G7,f];simp;omega,fun q row j u a a2=>?_⟩
      .simp only[dF,id,Y0,Q7,uY];rw[B2 d,h1]
      .cases q with
       | zero =>
         simp at a;subst a;cases j with
         | zero=>simp at a2;subst a2;exact⟨rfl,rfl⟩
         | succ j=>simp at a2
       | succ q =>
         obtain⟨B,p⟩:=h3 q row j u (by simpa using a) a2;exact⟨B,by simpa using p⟩
     .cases h
    .cases h
   .cases h
def lX{t:Nat}:∀ {l:D0},Z1 t l=true->∀ v ∈ l,F5 v=t
 | [],_,v,a=>by cases a
 | x::r,h,v,a=>by
   obtain⟨h1,d⟩:=B3 (show(Nat.beq (F5 x) t && Z1 t r)=true from h);rcases A8.1 a with rfl|a
   .exact A0 h1
   .exact lX d v a
def nE{R:Nat->Option Obj}(h:LR ρ cs cs')(f:∀ v ∈ cs,F5 v<10):W7 R (cs.map (D4 Ora.env)) cs':=by
 refine⟨by simp[h.1],fun i u v a a2=>?_⟩;rw[F4]at a;cases d:cs[i]? with
 | none=>rw[d]at a;cases a
 | some x =>
   rw[d]at a;have a:=A5 a;subst a;exact .sc (l9 (h.2 i x v d a2) (f x (D6 d))).1
def CO(m m1:Mem):WQ m m1=⟨m.H,m.n,m.W,m1.hi,m1.lg⟩:=by cases m;cases m1;rfl
def St.kept{ρ:Ren}{m:Mem}{w:World}{hi:Nat}{lg:Lg}(h:HR P base ρ m.H w)(hh:m.hi<=hi):St P base ρ ρ m ⟨m.H,m.n,m.W,hi,lg⟩ w w :=
 ⟨fun _ _ h=>h,fun b l h1 a=>(by rw[h1]at a;cases a),A6 _,hh,fun h=>B6 h hh,h,fun _ h=>h,fun b h1 a=>absurd h1 a,fun _ _ _=>rfl,A6 _,⟨rfl,rfl,rfl⟩,fun b l h1 a=>(by rw[h1]at a;cases a),fun _ _ _ _=>rfl,fun _ h=>.inr h⟩
def QZ(h:HR P base ρ m.H w)(hb:base<=w.heap.size)(d:DQ P m s t x=some (v,m'))(V:I2 ρ m.n m'.hi)(hx:VR ρ x x')(hS:Sat m'.lg):VOk P base ρ m w (convert s t x') v m'/\m.lg.le m'.lg:=by
 unfold DQ at d;split at d
 .rename_i e a n c N M;split at d
  .rename_i he;split at d
   .rename_i cs hr;obtain⟨D,d⟩:=A2 d;obtain⟨u,f,e2,r,L,O,e5⟩:=K2 d hS;obtain⟨lg,rfl⟩:=F9 d;have q:=St.wLg h lg;have J:=lX D;have key:∀ {a' c'} {K:D0},LR ρ cs K->(loadCells a' n).run P w=.ok ⟨K⟩ w->VOk P base ρ m w (convert s t (.slice (some a') n c')) v (m.wLg lg):=fun{a' c' K} T aw=>by
     have ax:W7 (fun k=>w.heap[k]?) (cs.map (D4 Ora.env)) K:=nE T (fun v hv=>by rw[J v hv];omega);have I:∃ p,uY (cs.map (D4 Ora.env))=some p/\u=.str p:=by
      have f:(match uY (cs.map (D4 Ora.env))with|some s=>U.str s|none=>.none)=u:=f;split at f
      .rename_i p A;exact⟨p,A,f.symm⟩
      .subst f;cases L
     obtain⟨p,q1,rfl⟩:=I;cases L;obtain⟨ns,r1,r2⟩:=zV (w:=w) q1 ax;subst r1;subst r2;exact⟨_,ρ,w,vS N M he aw,O ρ,q⟩
    refine⟨?_,G2 d⟩;rcases M3 hx with⟨l,T,_,_,rfl⟩|⟨l,c',T,_,_,_,_,rfl⟩|⟨a',c',_,rfl,_,rfl⟩
    .obtain⟨K,g1,g2,g3⟩:=X4 h hr T;exact key g1 (I5 g2 g3)
    .obtain⟨K,g1,g2,g3⟩:=X4 h hr T;exact key g1 (I5 g2 g3)
    .have:cs=[]:=by
      unfold i7 at hr;split at hr
      .have:=(fD hr).2;simpa using this
      .cases hr
     subst this;exact key .nil (by simp[loadCells,loadCellsFrom])
   .cases d
  .cases d
 .rename_i e fn a1 a2 N M;split at d
  .rename_i he;split at d
   .rename_i hh b m1 hd;rw[CO]at d;obtain⟨u,f,e2,r,L,O,e5⟩:=K2 d hS;have hle:=G2 d;obtain⟨lg,rfl⟩:=F9 d;obtain⟨Q,l,d1,d2,d3,d4,d5,d6⟩:=yB h hd (V.less (by simp[Mem.wLg])) hx (hS.le hle);have q:St P base ρ ρ m (Mem.wLg ⟨m.H,m.n,m.W,m1.hi,m1.lg⟩ lg) w w:=St.kept h d1.hle;obtain⟨nul,wd,rows,q1,q2⟩:=cY d4 d5 A9;have av:wd=1:=A9;subst av;rw[q1]at d4;have I:∃ p,zX rows=some p/\u=.str p:=by
     have f:evU .str [D4 Ora.env hh]=u:=f;rw[q1]at f;have f:(if 1=1 then(match zX rows with|some s=>U.str s|none=>.none)else .none)=u:=f;rw[B2 rfl]at f;split at f
     .rename_i p A;exact⟨p,A,f.symm⟩
     .subst f;cases L
    obtain⟨p,A,rfl⟩:=I;cases L;refine⟨?_,d6.trans hle⟩;have hG:=(d1.hr.atl d2 d3).1.2;rcases j9 d4 with⟨rfl,rfl,rfl⟩|⟨rfl,a,c,rfl,hc⟩
    .cases A;exact⟨_,ρ,w,yI N M he,O ρ,q⟩
    .obtain⟨_,new',g1,g2,g3,g4⟩:=oT (w:=w) d4 hG;obtain⟨k1,k2,k3⟩:=zW A;have S:W7 (fun k=>w.heap[k]?) (rows.flatMap id) new':=by
      refine⟨by rw[k2,g1];simp,fun i u v b1 b2=>?_⟩;have E:i<rows.length:=by have:=(A7.1 b1).1;rw[k2]at this;exact this
      have au:rows[i].length=1:=g3.1 _ (L5 E);have F:rows[i]? = some rows[i]:=A4 E;have h0:rows[i][0]? = some (rows[i][0]' A9):=A4 A9;obtain⟨_,Z⟩:=k3 i _ 0 _ F h0;rw[b1]at Z;have Z:=A5 Z;rw[Z];exact(g3.2 i _ 0 _ v F h0 (by simpa using b2)).mono hG
     obtain⟨ns,r1,r2⟩:=zV (w:=w) k1 S;subst r1;subst r2;have az:(ns.map (Value.int .u8)).length=rows.length:=by rw[g1];omega
     exact⟨_,ρ,w,vS N M he (hZ az g4),O ρ,q⟩
   .cases d
  .cases d
 .rename_i y _ _ _ ds e N M;obtain⟨D,d⟩:=A2 d;have D:=A0 D;split at d
  .rename_i he;split at d
   .rename_i B;split at d
    .rename_i g m1 hj;rw[L6]at d;simp only[hole]at d;have d:s9 (m1.wLg (cN m1 11 .byt [y])) m1.lg.nx 11 e g=some (v,m'):=d;have mj:=L1 hj;have mn:=d9 d;simp only[EG,Y1,MG]at mn;obtain⟨Q,lg,f,e2,L,O,e5,e6⟩:=bZ h hj (V.less A9);have q:St P base ρ Q m (m1.wLg (cN m1 11 .byt [y])) w w:=St.trans (V.less (by simp;omega)) f (St.wLg f.hr _);obtain⟨p,rfl,f1⟩:=Z9 hx D;obtain⟨r1,r2,_⟩:=fU (m:=m1) (t:=11) (op:=.byt) (xs:=[y]) (lg:=m'.lg) hS (by rw[Y1,mn.2.1];exact .refl _);have r1:Ora.env m1.lg.nx=evU .byt [D4 Ora.env y]:=r1;rw[f1]at r1;have r1:Ora.env m1.lg.nx=.seq false 1 (kA p):=r1;obtain⟨cap,C,c1,c2,c3,c4⟩:=BA (P:=P) (b:=⟨⟨p⟩⟩) N M he w;obtain⟨inf,X,Y⟩:∃ inf,P.info? e=some inf/\inf.size=1:=by
      unfold F6 at B;cases hi:P.info? e with
      | none=>rw[hi]at B;cases B
      | some inf=>rw[hi]at B;exact⟨inf,rfl,A5 B⟩
     have ay:ByteArray.size ⟨⟨p⟩⟩=p.length:=rfl;rw[ay]at c1 c4;obtain⟨ρ2,q1,q2⟩:=y0 (w':={ w.drew with heap:=w.heap.push (.cells C e (C.size,C.size+1)) }) (cap:=cap) (C:=C) q.hr hb d (by simpa using(V.less (A6 _)).step f) r1 rfl X Y (by rw[dW];exact c1) A9
      ((BB (R:=lg.G) p).move (o':=0) fun i hi=>by
        rw[dW]at hi;have E:i<(M6 p).length:=by simp[M6];omega
        rw[D8,c3 i (M6 p)[i] (A4 E)];simp[E]) O (fun i hi hh=>by have:=hh.1;simp only at this;omega) ⟨rfl,rfl,rfl⟩ rfl
     rw[dW]at q1;exact⟨⟨_,ρ2,_,c4,q1,St.trans V q q2⟩,by rw[mn.2.1,<- mj.2.1];exact⟨[_],rfl⟩⟩
    .cases d
   .cases d
  .cases d
 .cases d
def KO(hu:P.underlying t=some (.slice e))(hi:P.info? e=some inf)(d:inf.bytes<=90000)(h0:0<inf.size)(r:∀ w,(zeroValue e).run P w=.ok z w)(hk:k<=tZ)(w:World) :
  (Instr.makeSlice t (.int .i64 (Int.ofNat k)) (.int .i64 (Int.ofNat k))).run P w=.ok (.slice (some ⟨w.heap.size,0,none⟩) k k) { w with heap:=w.heap.push (.cells ((Array.range (k*inf.size)).map (z.cells[· % z.cells.size]!)) e (0,0)) }:=by
 have hk:k<=1000000000:=hk;have u:F6 P e=some inf.size:=by simp[F6,hi]
 have wl:IntKind.i64.wrap (Int.ofNat k)=Int.ofNat k:=lL .i64 k (by simp only[EJ];omega);have hm:k*inf.bytes<=1000000000*90000:=iS hk d;have a:(askRoom (k*inf.bytes)).run P w=.ok () w:=by
  unfold askRoom roomBytes;rw[B1 A9];rfl
 have p:((inf.bytes:Int)*(k:Int))=((k*inf.bytes:Nat):Int):=by rw[U0];simp
 unfold Instr.makeSlice;simp only[A3,C8 hu,asInt,asIntOf,Result.andThen,Sem.run_pure,R5 hi,wl];rw[B1]
 .have n:(Int.ofNat k).toNat=k:=by simp
  simp only[A3,Sem.run_pure,Result.andThen,n,a,J0 u];by_cases f:k*inf.size=0
  .have q:∀ z:Q0,Array.map (fun x=>z[x%z.size]!) (Array.range (k*inf.size))=⟨[]⟩:=fun z=>by rw[f];apply H7;simp
   simp only[B2 f,q];rfl
  .simp only[B1 f,A3,Sem.run_pure,Result.andThen,r];rfl
 .have h:Int.ofNat k=(k:Int):=rfl;simp only[h,p];simp;omega
def LZ{R:Nat->Option Obj}{s:Nat}(h0:0<s)(n:z.cells.size=s)(p:LR ρ z.cells.toList z.cells.toList)(q:∀ v ∈ z.cells.toList,F5 v<10):M2 R (List.replicate k (z.cells.toList.map (D4 Ora.env))) s ((Array.range (k*s)).map (z.cells[· % z.cells.size]!)) 0:=by
 have he:=nE (R:=R) p q;refine⟨fun row hr=>?_,fun r row j u v g1 g2 g3=>?_⟩
 .rw[(List.mem_replicate.1 hr).2];simp[n]
 .have hr:=(A7.1 g1).1;rw[List.length_replicate]at hr;rw[List.getElem?_replicate,B2 hr]at g1;cases g1;have f:=(A7.1 g2).1;simp only[E8,O9]at f;rw[n]at f;have hm:(r*s+j)%s=j:=by rw[U0,Nat.mul_add_mod,Nat.mod_eq_of_lt f]
  have d:r*s+j<k*s:=by
   have:(r+1)*s<=k*s:=E4 s hr;rw[G0,dD]at this;omega
  rw[D8,Array.getElem?_map,Array.getElem?_range,B2 d]at g3;simp only[I3,C7,n,hm]at g3;have a:j<z.cells.size:=A9;rw[getElem!_pos z.cells j a]at g3;refine he.2 j u v g2 ?_;rw[M7,E0 a,g3]
def PC{l c:Value}(h:HR P base ρ m.H w)(M:base<=w.heap.size)(a:CG P m t l c=some (v,m'))(C:I2 ρ m.n m'.hi)(N:VR ρ l l')(L:VR ρ c c')(S:Sat m'.lg):VOk P base ρ m w (Instr.makeSlice t l' c') v m'/\m.lg.le m'.lg:=by
 unfold CG at a;split at a
 .rename_i e i T j X hu;obtain⟨d,A⟩:=A2 a;clear a;obtain⟨d,h3⟩:=B3 d;obtain⟨h1,E⟩:=B3 d;have h1:=A0 h1;have E:=A0 E;have h3:=A0 h3;subst h1 E h3;have a:=A;clear A;split at a
  .rename_i inf hi;obtain⟨d,a⟩:=A2 a;obtain⟨p,f⟩:=B3 d;have p:=A1 p;have f:0<inf.size:=A1 f;split at a
   .rename_i z J;obtain⟨d,a⟩:=A2 a;obtain⟨u,r⟩:=B3 d;have u:=A0 u;have r:∀ v ∈ z.cells.toList,F5 v<10:=fun v Q=>A1 (D2.1 r v Q)
    split at a
    .rename_i g m1 K;rw[L6]at a;simp only[hole]at a;have a:s9 (m1.wLg (cN m1 (10+inf.size) (.rep inf.size) (hole i 3::z.cells.toList))) m1.lg.nx (10+inf.size) e g=some (v,m'):=a;have R:=L1 K;have D:=d9 a;simp only[EG,Y1,MG]at D;obtain⟨F,lg,G,Y,V,O,W,e6⟩:=bZ h K (C.less A9);have B:St P base ρ F m (m1.wLg (cN m1 (10+inf.size) (.rep inf.size) (hole i 3::z.cells.toList))) w w:=St.trans (C.less (by simp;omega)) G (St.wLg G.hr _);obtain⟨k,n,rfl,f1,f2⟩:=K4 (v:=hole i 3) N (show(3:Nat)<8 by decide);obtain⟨k2,n2,rfl,f3,f4⟩:=K4 (v:=hole i 3) L (show(3:Nat)<8 by decide);rw[f1]at f3;cases f3;obtain⟨r1,r2,nul,wd,rows,I,Z⟩:=fU (m:=m1) (t:=10+inf.size) (op:=.rep inf.size) (xs:=hole i 3::z.cells.toList) (lg:=m'.lg) S (by rw[Y1,D.2.1];exact .refl _);have r1:Ora.env m1.lg.nx=evU (.rep inf.size) (D4 Ora.env (hole i 3)::z.cells.toList.map (D4 Ora.env)):=r1;rw[f1]at r1;have hk:k=.i64:=by
      have f2:(3:Nat)=eC k:=f2;cases k<;>first|rfl|(exfalso;revert f2;decide)
     subst hk;cases n with
     | negSucc q=>rw[I]at r1;cases r1
     | ofNat q =>
       have r1:Ora.env m1.lg.nx=if(z.cells.toList.map (D4 Ora.env)).length=inf.size/\q<=tZ then .seq false inf.size (List.replicate q (z.cells.toList.map (D4 Ora.env)))else .none:=r1
       by_cases d:(z.cells.toList.map (D4 Ora.env)).length=inf.size/\q<=tZ
       .rw[B2 d]at r1;obtain⟨ρ2,q1,q2⟩:=y0 (w':={ w with heap:=w.heap.push (.cells ((Array.range (q*inf.size)).map (z.cells[· % z.cells.size]!)) e (0,0)) }) (cap:=q) (fz:=(0,0)) B.hr M a (by simpa using(C.less (A6 _)).step G) r1 rfl hi rfl (by simp) (by simp)
         (LZ (ρ:=ρ) f u (lJ J) r) O (fun i hi hh=>by have:=hh.2;simp only at this;omega) ⟨rfl,rfl,rfl⟩ rfl
        rw[List.length_replicate]at q1;exact⟨⟨_,ρ2,_,KO hu hi p f (fun w=>m9 J w) d.2 w,q1,St.trans C B q2⟩,by rw[D.2.1,<- R.2.1];exact⟨[_],rfl⟩⟩
       .rw[B1 d,I]at r1;cases r1
    .cases a
   .cases a
  .cases a
 .cases a
end
end
section
open Go
variable [Ora]
section
variable {P:Program} {base:Nat} {ρ ρ':Ren} {m m':Mem} {w w':World}
def HT{t:Nat}(h:Q2 m 8 .nilp [hole i t]=some (v,m'))(hi:Ora.env i=.seq nul wd rows)(p:Sat m'.lg):VR ρ v (.bool nul)/\I1 m m'/\m.lg.le m'.lg:=by
 obtain⟨u,d,A,r,n,f,q⟩:=K2 h p;have a:[hole i t].map (D4 Ora.env)=[.seq nul wd rows]:=by
  show[Ora.env i]=_;rw[hi]
 rw[a]at d;have d:U.bool nul=u:=d;subst d;cases n;exact⟨f ρ,F9 h,G2 h⟩
def vT{x y:Operand}{a:Option Addr}{n:Nat}(hu:P.underlying t=some (.slice e))(A:(a=none/\n=0/\c=0/\nul=true)∨(nul=false/\∃ q:Addr,a=some q/\n<=c))(p:op=.eql∨op=.neq)(w:World) :
  (do eqGuard op t x y (.slice a n c) (.slice none 0 0);binOp op t (.slice a n c) (.slice none 0 0):Sem Value).run P w=.ok (.bool (if op=.eql then nul else !nul)) w:=by
 have key:∀ {ρ:Ren} {am:Value},VR ρ am (.slice a n c)->iD P t x y am (.slice none 0 0)=true->nM P .eql t am (.slice none 0 0)=some (.bool nul)->nM P .neq t am (.slice none 0 0)=some (.bool !nul) ->
   (do eqGuard op t x y (.slice a n c) (.slice none 0 0);binOp op t (.slice a n c) (.slice none 0 0):Sem Value).run P w=.ok (.bool (if op=.eql then nul else !nul)) w:=fun{ρ am} u r h1 B=>by
  have f:VR ρ (.slice none 0 0) (.slice none 0 0):=.pure rfl;have h:=mV (op:=op) (fun _=>r) u f w;rcases p with rfl|rfl
  .obtain⟨g1,_⟩:=qZ h1 u f w;simp[A3,h,g1,Result.andThen]
  .obtain⟨g1,_⟩:=qZ B u f w;simp[A3,h,g1,Result.andThen]
 rcases A with⟨rfl,rfl,rfl,rfl⟩|⟨rfl,q,rfl,D⟩
 .refine key (ρ:=fun _=>none) (am:=.slice none 0 0) (.pure rfl) rfl ?_ ?_
  .simp[nM,vW,eqM,hu]
  .simp[nM,vW,eqM,hu]
 .obtain⟨d,C⟩:∃ d,Op.maxDepth=d+1:=⟨Op.maxDepth-1,rfl⟩;have he:∀ w,(Op.equal t (.slice (some q) n c) (.slice none 0 0)).run P w=.ok false w:=fun w=>by
   rw[Op.equal,C];simp[Op.equalIn,A3,C8 hu,Result.andThen]
  have r:∀ o:BinOp,(eqGuard o t x y (.slice (some q) n c) (.slice none 0 0)).run P w=.ok () w:=fun o=>by
   unfold eqGuard;cases o<;>rfl
  rcases p with rfl|rfl
  .rw[A3,r];show(do pure (.bool (<- Op.equal t (.slice (some q) n c) (.slice none 0 0))):Sem Value).run P w=_;rw[A3,he];rfl
  .rw[A3,r];show(do pure (.bool (!(<- Op.equal t (.slice (some q) n c) (.slice none 0 0)))):Sem Value).run P w=_;rw[A3,he];rfl
def UC{x y:Operand}{a a' b:Value}(D:OV P m op t x y a b=some (v,m'))(J:VR ρ a a')(Q:VR ρ b b')(K:Sat m'.lg) :
  (∃ r,(do eqGuard op t x y a' b';binOp op t a' b':Sem Value).run P w=.ok r w/\VR ρ v r)/\I1 m m'/\m.lg.le m'.lg:=by
 unfold OV at D;split at D
 .rename_i e k S i M hu;obtain⟨f,d⟩:=A2 D;clear D;obtain⟨f,hk⟩:=B3 f;obtain⟨f,L⟩:=B3 f;have I:b'=.slice none 0 0:=by
   unfold PV at f;split at f
   .exact M8 Q
   .cases f
  subst I;obtain⟨nul,wd,rows,A,n,c,C,rfl,N⟩:∃ nul wd rows A n c,Ora.env i=.seq nul wd rows/\a'=.slice A n c/\((A=none/\n=0/\c=0/\nul=true)∨(nul=false/\∃ q:Addr,A=some q/\n<=c)):=by
   have h:∀ {l:Loc},Enc l.G (Ora.env i) a'->F3 (Ora.env i)=M->10<=M->∃ nul wd rows A n c,Ora.env i=.seq nul wd rows/\a'=.slice A n c/\((A=none/\n=0/\c=0/\nul=true)∨(nul=false/\∃ q:Addr,A=some q/\n<=c)):=fun p h3 B=>by
    obtain⟨nul,wd,rows,C,_⟩:=cY p h3 B;rw[C]at p;rcases j9 p with⟨rfl,rfl,rfl⟩|⟨rfl,q,c,rfl,O⟩
    .exact⟨_,_,_,_,_,_,C,rfl,.inl ⟨rfl,rfl,rfl,rfl⟩⟩
    .exact⟨_,_,_,_,_,_,C,rfl,.inr ⟨rfl,q,rfl,O⟩⟩
   rcases(F7 _ _).mp hk with hk|hk
   .rcases(F7 _ _).mp hk with hk|hk
    .have:=A0 hk;subst this;obtain⟨l,_,p,h3,B⟩:=jM J;exact h p h3 B
    .have:=A0 hk;subst this;obtain⟨l,_,p,h3,B,_⟩:=cU J;exact h p h3 B
   .have:=A0 hk;subst this;rcases(x5 J).1 with⟨l,wd,h1,p,h3,rfl⟩|⟨l,wd,rows,h1,p,h3,B,H,rfl⟩
    .exact⟨_,_,_,_,_,_,h3,rfl,.inl ⟨rfl,rfl,rfl,rfl⟩⟩
    .exact⟨_,_,_,_,_,_,h3,rfl,.inr ⟨rfl,_,rfl,H⟩⟩
  split at d
  .rename_i r E;cases d;obtain⟨g1,g2,g3⟩:=HT (ρ:=ρ) E C K;exact⟨⟨_,vT hu N (.inl rfl) w,g1⟩,g2,g3⟩
  .rename_i hh m1 E;have hle:=G2 d;obtain⟨g1,g2,g3⟩:=HT (ρ:=ρ) E C (K.le hle);obtain⟨u,f1,f2,r,f3,f4,f5⟩:=K2 d K;obtain⟨rfl,R⟩:=eY E;have F:D4 Ora.env (hole m.lg.nx 8)=.bool nul:=by
    obtain⟨q1,_⟩:=l9 g1 (by show(8:Nat)<10;omega);cases f:D4 Ora.env (hole m.lg.nx 8)with
    | bool b=>rw[f]at q1;cases q1;rfl
    | int k n=>rw[f]at q1;cases q1
    | str s=>rw[f]at q1;cases q1
    | none=>rw[f]at q1;cases q1
    | seq _ _ _=>rw[f]at q1;cases q1
   have f1:ev1 .not (D4 Ora.env (hole m.lg.nx 8))=u:=f1;rw[F]at f1;have f1:U.bool (!nul)=u:=f1;subst f1;cases f3;exact⟨⟨_,vT hu N (.inr rfl) w,f4 ρ⟩,g2.trans (F9 d),g3.trans hle⟩
  .cases d
 .cases D
def A0V{fr:Fr}{g:Operand->Value}{o:Oper}(h:HR P base ρ m.H w)(D:base<=w.heap.size)(d:dsM P fr m o.op=some (v,m'))(A:I2 ρ m.n m'.hi)(K:FR ρ fr g o.op)(f:Sat m'.lg):NOk P base ρ m w (execOp g o) v m':=by
 obtain⟨dst,op,ty,pos,I,J⟩:=o;simp only at d K;have a:∀ {x},x ∈ op.operands.toList->VR ρ (ev fr x) (g x):=fun B=>K _ B
 have fin:∀ {s:Sem Value},(∃ r,s.run P w=.ok r w/\VR ρ v r)->I1 m m'->NOk P base ρ m w (do pure (.value (<- s))) v m':=fun{s} ⟨r,h1,L⟩ ⟨lg,N⟩=>by
  subst N;exact NOk.of ⟨r,ρ,w,h1,L,St.wLg h lg⟩
 unfold dsM at d;split at d
 .rename_i t x y;exact NOk.of (PC h D d A (a (x:=x) (by simp[Op.operands])) (a (x:=y) (by simp[Op.operands])) f).1
 .rename_i t x;obtain⟨g1,g2,_⟩:=PF (w:=w) h d (a (x:=x) (by simp[Op.operands])) f;exact fin (s:=Instr.loadAt t (g x)) g1 g2
 .rename_i t x y;obtain⟨g1,rfl,_⟩:=KG h d A (a (x:=x) (by simp[Op.operands])) (a (x:=y) (by simp[Op.operands])) f;exact NOk.ofU (s:=Instr.storeAt t (g x) (g y)) g1
 .rename_i t x i;obtain⟨g1,g2,_⟩:=CS (w:=w) d (a (x:=x) (by simp[Op.operands])) (a (x:=i) (by simp[Op.operands])) f;exact fin (s:=Instr.indexAt t (g x) (g i)) g1 g2
 .rename_i s x i;obtain⟨g1,rfl⟩:=DI (w:=w) d (a (x:=x) (by simp[Op.operands]));exact fin (s:=Instr.fieldAt s (g x) i) g1 (.refl _)
 .rename_i t x lo hi mx;obtain⟨g1,_⟩:=KI h d A (a (x:=x) (by simp[Op.operands])) (fC (g:=g) fun y p=>a (by simp[Op.operands]at p ⊢;exact .inr (.inl p))) (fC (g:=g) fun y p=>a (by simp[Op.operands]at p ⊢;exact .inr (.inr (.inl p)))) (fC (g:=g) fun y p=>a (by simp[Op.operands]at p ⊢;exact .inr (.inr (.inr p)))) f;exact NOk.of (s:=Instr.sliceAt t (g x) (lo.map g) (hi.map g) (mx.map g)) g1
 .rename_i s t x;exact NOk.of (QZ h D d A (a (x:=x) (by simp[Op.operands])) f).1
 .rename_i op t x y O;obtain⟨g1,g2,_⟩:=UC (w:=w) d (a (x:=x) (by simp[Op.operands])) (a (x:=y) (by simp[Op.operands])) f;exact fin (s:=do eqGuard op t x y (g x) (g y);binOp op t (g x) (g y)) g1 g2
 .rename_i xs tys;have l1:=aK (ρ:=ρ) (fr:=fr) (g:=g) (xs:=xs.toList) fun x B=>a (by show x ∈ (#[]++xs:Array Operand).toList;simpa using B)
  split at d
  .rename_i x t rest q u;rw[q]at l1;obtain⟨x',r1,C,q1,q2⟩:=l1.tail
   have:=q2.nil_inv;subst this;obtain⟨g1,g2,_⟩:=UM (w:=w) (ty:=ty) (tys:=rest) d q1 f;obtain⟨ks,E⟩:∃ ks,execOp g ⟨dst,.call ⟨.builtin .len,xs,tys⟩,ty,pos,I,J⟩=builtin .len tys ty ks (xs.map g):=⟨#[],rfl⟩;have F:xs.map g=⟨xs.toList.map g⟩:=by apply H7;simp
   have G:tys=⟨t::rest⟩:=by rw[<- u]
   rw[E,F,C,G];exact fin (s:=Builtin.len_ ⟨t::rest⟩ ty #[x']) g1 g2
  .cases d
 .rename_i xs tys;have l1:=aK (ρ:=ρ) (fr:=fr) (g:=g) (xs:=xs.toList) fun x B=>a (by show x ∈ (#[]++xs:Array Operand).toList;simpa using B)
  split at d
  .rename_i x y t t2 rest q u;rw[q]at l1;obtain⟨x',r1,C,q1,q2⟩:=l1.tail;obtain⟨y',r2,M,q3,q4⟩:=q2.tail
   have:=q4.nil_inv;subst this
   have:=GM (ty:=ty) h D d A q1 q3 f;obtain⟨ks,E⟩:∃ ks,execOp g ⟨dst,.call ⟨.builtin .append,xs,tys⟩,ty,pos,I,J⟩=builtin .append tys ty ks (xs.map g):=⟨#[],rfl⟩;have F:xs.map g=⟨xs.toList.map g⟩:=by apply H7;simp
   have G:tys=⟨t::t2::rest⟩:=by rw[<- u]
   rw[E,F,C,M,G];have e:Builtin.append_ ⟨t::t2::rest⟩ ty #[x',y']=Builtin.append_ #[t,t2] ty #[x',y']:=rfl;refine NOk.of (s:=Builtin.append_ ⟨t::t2::rest⟩ ty #[x',y']) ?_;rw[e];exact this
  .cases d
 .cases d
def cW{wd o i t g:Nat}{z:Value}:∀ {a:F8} {j:Nat} {m m':Mem} {r:D0},U5 wd o i t z g a j m=some (r,m')->m.lg.le m'.lg
 | [],j,m,m',r,h=>by cases h;exact .refl _
 | tg::a,j,m,m',r,h=>by
   unfold U5 at h;cases d:Nat.blt tg 10 with
   | true =>
     rw[d]at h;simp only[D7]at h;split at h
     .rename_i f;split at h
      .rename_i hr;cases h;exact(G2 f).trans (cW hr)
      .cases h
     .cases h
   | false =>
     rw[d]at h;simp only[D3]at h;rw[CL]at h;split at h
     .rename_i hr;cases h;exact S0.trans (cW hr)
     .cases h
def xW{r:Option (D0×Mem)}(h:iM P t r=some (v,m')):∃ vs,r=some (vs,m'):=by
 unfold iM at h;split at h
 .cases h;exact⟨_,rfl⟩
 .cases h;exact⟨_,rfl⟩
 .cases h
def PG(a:CK P m t x=some (v,m')):m.lg.le m'.lg:=by
 unfold CK at a;split at a
 .obtain⟨_,a⟩:=A2 a;obtain⟨vs,h⟩:=xW a;exact cW h
 .split at a
  .obtain⟨_,a⟩:=A2 a;obtain⟨vs,h⟩:=xW a;exact cW h
  .cases a
 .cases a
def KH(a:rQ P m t x y=some (v,m')):m.lg.le m'.lg:=by
 unfold rQ at a;split at a
 .cases d:fA y with
  | true=>rw[d]at a;cases a
  | false =>
    rw[d]at a;simp only[D3]at a;split at a
    .rename_i n;split at a
     .obtain⟨_,a⟩:=A2 a;split at a
      .rename_i p;rw[L6]at a;simp only[hole]at a;obtain⟨f,_⟩:=jG a;have md:=P2 R4 n;have q:=L1 p;refine md.2.1.trans ?_;rw[(R1 f).2,<- q.2.1];simp only[Y1];exact⟨[_],rfl⟩
      .cases a
     .cases a
    .cases a
 .cases a
def UT{t:Nat}{k:Value}(h:CU m i t z k=some (v,m')):m.lg.le m'.lg:=by
 unfold CU at h;cases a:!(Nat.blt (F5 z) 8)with
 | true=>rw[a]at h;cases h
 | false =>
   rw[a]at h;simp only[D3]at h;split at h
   .rename_i d;split at h
    .rename_i f;cases h;exact(G2 d).trans (cF f)
    .cases h
   .cases h
def CT(h:iC P m t x z=some (v,m')):m.lg.le m'.lg:=by
 unfold iC at h;split at h;all_goals first
  | (split at h
     .obtain⟨_,h⟩:=A2 h;exact UT h
     .cases h;done)
  | (split at h
     .obtain⟨_,h⟩:=A2 h;rw[E1]at h;cases h;exact .refl _
     .cases h;done)
  | cases h
def DJ{f:Nat}(h:iG P m s x f=some (v,m')):m.lg.le m'.lg:=by
 unfold iG at h;split at h;all_goals first
  | (split at h
     .split at h
      .obtain⟨_,h⟩:=A2 h;rw[E1]at h;cases h;exact .refl _
      .cases h
     .cases h;done)
  | cases h
def zR{t:Nat}(a:DO m b i t cl lo hi mx=some (v,m')):m.lg.le m'.lg:=by
 have go:∀ {m1:Mem} {l h:Value} {d:Bool},cZ m1 b i t l h d=some (v,m')->m1.lg.le m'.lg:=fun h=>by
  unfold cZ at h;obtain⟨_,h⟩:=A2 h;rw[L6]at h;simp only[C7,I9]at h;obtain⟨_,rfl⟩:=h;exact S0
 unfold DO DN at a;split at a
 .exact go a
 .exact go (A2 a).2
 .split at a
  .rename_i f;exact(u6 f).2.trans (go a)
  .cases a
 .cases a
def KJ(a:rT P m t x lo hi mx=some (v,m')):m.lg.le m'.lg:=by
 unfold rT at a;split at a
 .split at a
  .exact zR (A2 a).2
  .cases a
 .split at a
  .exact zR (A2 a).2
  .cases a
 .split at a
  .obtain⟨_,a⟩:=A2 a;split at a
   .rename_i d;exact(dQ d).2.1.trans (zR a)
   .cases a
  .cases a
 .cases a
def RA(a:DQ P m s t x=some (v,m')):m.lg.le m'.lg:=by
 unfold DQ at a;split at a
 .split at a
  .split at a
   .exact G2 (A2 a).2
   .cases a
  .cases a
 .split at a
  .split at a
   .rename_i f;rw[CO]at a;have d:=G2 a;exact(dQ f).2.1.trans d
   .cases a
  .cases a
 .obtain⟨_,a⟩:=A2 a;split at a
  .split at a
   .split at a
    .rename_i n;rw[L6]at a;simp only[hole]at a;have p:=L1 n;rw[(d9 a).2.1,Y1,<- p.2.1];exact⟨[_],rfl⟩
    .cases a
   .cases a
  .cases a
 .cases a
def UD{x y:Operand}{a b:Value}(f:OV P m op t x y a b=some (v,m')):m.lg.le m'.lg:=by
 unfold OV at f;split at f
 .obtain⟨_,d⟩:=A2 f;clear f;split at d
  .rename_i n;cases d;exact G2 n
  .rename_i n;exact(G2 n).trans (G2 d)
  .cases d
 .cases f
def PD{l c:Value}(a:CG P m t l c=some (v,m')):m.lg.le m'.lg:=by
 unfold CG at a;split at a
 .obtain⟨_,a⟩:=A2 a;split at a
  .obtain⟨_,a⟩:=A2 a;split at a
   .obtain⟨_,a⟩:=A2 a;split at a
    .rename_i d;rw[L6]at a;simp only[hole]at a;have f:=L1 d;rw[(d9 a).2.1,Y1,<- f.2.1];exact⟨[_],rfl⟩
    .cases a
   .cases a
  .cases a
 .cases a
def A0W{fr:Fr}{o:Op}(a:dsM P fr m o=some (v,m')):m.lg.le m'.lg:=by
 unfold dsM at a;split at a
 .exact PD a
 .exact PG a
 .exact KH a
 .exact CT a
 .exact DJ a
 .exact KJ a
 .exact RA a
 .exact UD a
 .split at a
  .unfold UN at a;split at a
   .exact(u6 a).2
   .exact(u6 a).2
   .exact(u6 a).2
   .cases a
  .cases a
 .split at a
  .exact(AC a).2.1
  .cases a
 .cases a
end
end
end Go.Sx
