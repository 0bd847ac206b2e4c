import Derived.Test.YtjdnjfnhdeplfaaX3
set_option linter.all false
set_option maxRecDepth 100000
set_option maxHeartbeats 4000000
namespace Go.Sx
open Go
variable {rows rows2:List (List U)}{b c cap g i j k o o' sh wd:Nat}{e s t t2 ty:TypeId}{inf:TypeInfo}{fz:Nat×Nat}{b' c' l' v x x' y y' z:Value}{l:Loc}{g0 gs:F9}{cl nul sure:Bool}{d2 ds:TypeDesc}{bh:Beh}{cs cs' new' vs:D0}{td:Td}{row us:List U}{hi lo mx:N7}{op:BinOp}
section
open Go
variable [Ora]
section
variable {P:Program} {base:Nat} {ρ ρ':Ren} {m m':Mem} {w w':World}
def M3.move{R:Nat->Option Obj}{C C':Q0}(h:M3 R rows wd C o)(n:∀ i,i<rows.length*wd->C'[o'+i]? = C[o+i]?):M3 R rows wd C' o':=by
 refine⟨h.1,fun r row j u v a a2 a3=>h.2 r row j u v a a2 ?_⟩;have d:=(A7.1 a).1;have f:=(A7.1 a2).1;rw[h.1 _ (D6 a)]at f;have p:(r+1)*wd<=rows.length*wd:=E4 wd d;rw[G1]at p
 have:=n (r*wd+j) A9;rw[show o+r*wd+j=o+(r*wd+j) by omega,<- this,show o'+(r*wd+j)=o'+r*wd+j by omega];exact a3
def M3.append{R:Nat->Option Obj}{C:Q0}(h:M3 R rows wd C o)(k:M3 R rows2 wd C (o+rows.length*wd)):M3 R (rows++rows2) wd C o:=by
 refine⟨fun row hr=>(B7.1 hr).elim (h.1 row) (k.1 row),fun r row j u v a a2 a3=>?_⟩;rcases F2 r rows.length with d|d
 .rw[E5 d]at a;exact h.2 r row j u v a a2 a3
 .rw[D5 d]at a;refine k.2 (r-rows.length) row j u v a a2 ?_;have:rows.length*wd+(r-rows.length)*wd=r*wd:=by rw[<- G1];congr 1;omega
  rw[show o+rows.length*wd+(r-rows.length)*wd+j=o+r*wd+j by omega];exact a3
def A03{t:Nat}{T:TypeId}{lg:Loc}{C:Q0}(p:Ora.env c=.seq false wd rows)(r:t=10+wd)(hi:P.info? T=some inf)(q:inf.size=wd)(f:rows.length<=cap)(d:sh+cap*wd<=C.size)
  (a:M3 lg.G rows wd C sh) (u:ρ g=some lg) (hw:w.heap[b]? = some (.cells C T fz)) (n:∀ i,i<C.size->¬ (fz.1<=i/\i<fz.2)):BR P ρ (.sq c t T g false) ⟨b,sh,cap,rows.length,fun _=>none,true⟩ w :=
 ⟨⟨wd,inf,r,hi,q,.inr ⟨rfl,C,fz,T,rows,lg,hw,p,rfl,f,d,a.1,u,a.2,fun _=>⟨rfl,n⟩⟩⟩⟩
def y7{t:Nat}{T:TypeId}{lg:Loc}{C:Q0}(h:HR P base ρ m.H w)(E:base<=w.heap.size)(A:u5 m c t T g=some (v,m'))(u:I2 ρ m.n m'.hi)
  (q:Ora.env c=.seq false wd rows) (B:t=10+wd) (hi:P.info? T=some inf) (K:inf.size=wd) (a:rows.length<=cap) (r:cap*wd<=C.size) (f:M3 lg.G rows wd C 0) (J:ρ g=some lg) (p:∀ i,i<C.size->¬ (fz.1<=i/\i<fz.2))
  (I:w'.os=w.os/\w'.tape=w.tape/\w'.output=w.output) (hh:w'.heap=w.heap.push (.cells C T fz)):∃ ρ',VR ρ' v (.slice (some ⟨w.heap.size,0,none⟩) rows.length cap)/\St P base ρ ρ' m m' w w':=by
 have d:ρ m.n=none:=by
  obtain⟨_,_,rfl⟩:=J8 A;exact u m.n (A6 _) (J2 _ _).2
 obtain⟨rfl,D,F⟩:=St.alloc (w':=w') (l:=⟨w.heap.size,0,cap,rows.length,fun _=>none,true⟩) h E A u I hh rfl (A03 q B hi K a A9 f (T8 d _ _ J) (by rw[hh];simp) p);exact⟨_,.own (.inr ⟨_,wd,rows,D,rfl,q,rfl,a,rfl⟩) (by rw[q];exact B.symm) rfl,F⟩
def kQ{t id:Nat}{T:TypeId}{ab:AB}{lg:Loc}{C:Q0}(h:HR P base ρ m.H w)(hle:id<=G2)(F:Hp.get m.H id=some ab)(B:ab.rw=true)(Q:ρ id=some l)(r:l.on=true)
  (J:u5 (fR m id) c t T g=some (v,m')) (I:I2 ρ m.n m'.hi)
  (D:Ora.env c=.seq false wd rows) (K:t=10+wd) (hi:P.info? T=some inf) (R:inf.size=wd) (a:rows.length<=cap) (q:sh+cap*wd<=C.size) (p:M3 lg.G rows wd C sh) (N:ρ g=some lg) (A:∀ i,i<C.size->¬ (fz.1<=i/\i<fz.2))
  (O:w'.os=w.os/\w'.tape=w.tape/\w'.output=w.output) (E:w'.heap.size=w.heap.size) (hk:∀ k,k≠l.blk->w'.heap[k]? = w.heap[k]?) (hw:w'.heap[l.blk]? = some (.cells C T fz)) :
  ∃ ρ',VR ρ' v (.slice (some ⟨l.blk,sh,none⟩) rows.length cap)/\St P base ρ ρ' m m' w w':=by
 have d:ρ m.n=none:=by
  have f:=J;unfold u5 at f;rw[Z5]at f;obtain⟨_,_,rfl⟩:=J8 f;exact I m.n (A6 _) (J2 _ _).2
 obtain⟨rfl,L,M⟩:=St.move (w':=w') (l':=⟨l.blk,sh,cap,rows.length,fun _=>none,true⟩) h hle F B Q J I (fun _=>⟨r,rfl⟩) O E (fun k u=>hk k (u r)) (A03 D K hi R a q p (T8 d _ _ N) hw A) (fun h=>by cases h);exact⟨_,.own (.inr ⟨_,wd,rows,L,rfl,D,rfl,a,rfl⟩) (by rw[D];exact K.symm) rfl,M⟩
def A0B:Loc:=⟨0,0,0,0,fun _=>none,false⟩
def wJ{t:Nat}{T:TypeId}{old:Option Nat}(h:HR P base ρ m.H w)(hold:∀ b,old=some b->∃ ab l,b<=G2/\Hp.get m.H b=some ab/\ab.rw=true/\ρ b=some l/\l.on=false)
  (B:u5 (fQ old m) c t T g=some (v,m')) (A:I2 ρ m.n m'.hi) (a:Ora.env c=.seq true wd []) (u:t=10+wd) (hi:P.info? T=some inf) (E:inf.size=wd):∃ ρ',VR ρ' v (.slice none 0 0)/\St P base ρ ρ' m m' w w:=by
 have d:∀ ρ':Ren,BR P ρ' (.sq c t T g false) A0B w:=fun ρ'=>⟨⟨wd,inf,u,hi,E,.inl ⟨rfl,a⟩⟩⟩
 cases old with
 | none =>
   obtain⟨rfl,p,r⟩:=St.new0 (l':=A0B) h B A (d _) rfl fun q f=>by
    rcases f with⟨_,f,_⟩|⟨f,_⟩<;>cases f
   exact⟨_,.own (.inl ⟨_,wd,p,rfl,a,rfl⟩) (by rw[a];exact u.symm) rfl,r⟩
 | some b =>
   obtain⟨ab,l,h1,D,h3,C,F⟩:=hold b rfl;obtain⟨rfl,p,r⟩:=St.move (w':=w) (l':=A0B) h h1 D h3 C B A (fun h=>by cases h) ⟨rfl,rfl,rfl⟩ rfl (fun _ _=>rfl) (d _) (fun h=>by cases h);exact⟨_,.own (.inl ⟨_,wd,p,rfl,a,rfl⟩) (by rw[a];exact u.symm) rfl,r⟩
def oK(h:HR P base ρ m.H w)(a:fS gs m=some (g,m'))(f:I2 ρ m.n m'.hi)(d:ρ j=some l):Hp.get m'.H j=Hp.get m.H j:=by
 have main:∀ {gs:F9},(bif gs.all (kV m)then match dM m fun b m=>some (undef,b,m)with
  | some (_,b,m)=>some (b,m)
  | none=>none else none)=some (g,m')->Hp.get m'.H j=Hp.get m.H j:=fun{gs} a=>by
  obtain⟨h1,a⟩:=A2 a;split at a
  .rename_i r b m1 p;cases a;obtain⟨m2,q1,q2,_⟩:=N9 p;cases q2;rw[hJ q1 (h.dom j l d),B1];intro e;subst e;obtain⟨_,_,rfl⟩:=J8 q1;rw[f m.n (A6 _) (J2 _ _).2]at d;cases d
  .cases a
 unfold fS at a;split at a
 .obtain⟨h1,a⟩:=A2 a;cases a;rfl
 .exact main a
def L2(a:fS gs m=some (g,m')):m.hi<=m'.hi/\m'.lg=m.lg/\m.n<=m'.n:=by
 have main:∀ {gs:F9},(bif gs.all (kV m)then match dM m fun b m=>some (undef,b,m)with
  | some (_,b,m)=>some (b,m)
  | none=>none else none)=some (g,m')->m.hi<=m'.hi/\m'.lg=m.lg/\m.n<=m'.n:=fun{gs} a=>by
  obtain⟨h1,a⟩:=A2 a;split at a
  .rename_i r b m1 d;cases a;obtain⟨m2,q1,q2,_⟩:=N9 d;cases q2;obtain⟨_,_,rfl⟩:=J8 q1;exact⟨(J2 _ _).1,rfl,W9 _⟩
  .cases a
 unfold fS at a;split at a
 .obtain⟨h1,a⟩:=A2 a;cases a;exact⟨A6 _,rfl,A6 _⟩
 .exact main a
def A2u(nul:Bool)(wd:Nat)(rows:List (List U)):List (List U)->U
 | []=>.seq nul wd rows
 | r0::r=>.seq false wd (rows++r0::r)
def DY(h:∃ n w r,nO nul wd rows rows2=.seq n w r):rows.length+rows2.length<=uD/\nO nul wd rows rows2=A2u nul wd rows rows2:=by
 by_cases a:rows.length+rows2.length<=uD
 .refine⟨a,?_⟩;unfold nO;rw[B2 a];cases rows2<;>rfl
 .unfold nO at h;rw[B1 a]at h;obtain⟨_,_,_,h⟩:=h;cases h
def HU{old:Option Nat} 
  (hu:P.underlying t=some (.slice e)) (W:P.underlying t2=some d2) (O:aP d2=true) (hi:P.info? e=some inf) (hz:cU P e=some z) (ai:z.cells.size=inf.size) (bm:inf.bytes<=90000)
  (h:HR P base ρ m.H w) (hb:base<=w.heap.size) (E:BW m e inf.size c old bh (g0++gs)=some (v,m')) (hf:I2 ρ m.n m'.hi) (hS:Sat m'.lg)
  (av:TK P base ρ m w e inf.size c g0 old x') (d:MG P ρ w inf.size bh gs y' rows2 new'):VOk P base ρ m w (Builtin.append_ #[t,t2] ty #[x',y']) v m':=by
 unfold BW at E;split at E
 .rename_i g m1 hj;rw[L7]at E;have br:=L2 hj;generalize bw:cR m1 (10+inf.size) (aY inf.size (hole c (10+inf.size)) bh).1 (aY inf.size (hole c (10+inf.size)) bh).2=lg1 at E;have ah:m'.lg=lg1/\m1.hi<=m'.hi/\m1.n<=m'.n:=by
   unfold u5 at E;cases old with
   | none =>
     simp only[fQ]at E;obtain⟨_,_,rfl⟩:=J8 E;exact⟨by simp,by simpa using(J2 m1.hi m1.n).1,by simp⟩
   | some b =>
     simp only[fQ,Z5]at E;obtain⟨_,_,rfl⟩:=J8 E;exact⟨by simp,by simpa using(J2 m1.hi m1.n).1,by simp⟩
  have aq:I2 ρ m.n m1.hi:=hf.less ah.2.1;obtain⟨L,lg,e1,e2,e3,e4,e5,e6⟩:=cD h hj aq;have q:St P base ρ L m (m1.wLg lg1) w w:=St.trans (by simpa using aq) e1 (St.wLg e1.hr lg1);have F:I2 L (m1.wLg lg1).n m'.hi:=by simpa using hf.step e1
  have bn:Sat (m1.wLg lg1).lg:=by simpa [<- ah.1]using hS
  obtain⟨nul,rows,hc,hx⟩:=av.ex;obtain⟨d1,d2,nx,bx,rws,d3,d4⟩:=fW (m:=m1) (t:=10+inf.size) (op:=(aY inf.size (hole c (10+inf.size)) bh).1) (xs:=(aY inf.size (hole c (10+inf.size)) bh).2) (lg:=lg1) (by simpa using bn) (by rw[Y2,bw];exact .refl _);rw[d.ev c nul rows hc]at d1;obtain⟨az,bz⟩:=DY ⟨nx,bx,rws,d1.symm.trans d3⟩;rw[bz]at d1;have bp:∀ b ∈ g0,∀ l,ρ b=some l->Sub l.G lg.G:=fun b T l hl=>e6 b (B7.2 (.inl T)) l hl
  have bu:∀ b ∈ gs,∀ l,ρ b=some l->Sub l.G lg.G:=fun b T l hl=>e6 b (B7.2 (.inr T)) l hl
  have an:=d.rows lg.G bu;have D:∀ {v':Value} {ρ2:Ren} {w2:World},(Builtin.append_ #[t,t2] ty #[x',y']).run P w=.ok v' w2->VR ρ2 v v'->St P base L ρ2 (m1.wLg lg1) m' w w2->VOk P base ρ m w (Builtin.append_ #[t,t2] ty #[x',y']) v m':=fun hr hv hs =>
   ⟨_,_,_,hr,hv,St.trans hf q hs⟩
  have ad:∀ w,(zeroValue e).run P w=.ok z w:=fun w=>n9 hz w
  have aw:∀ {j l},ρ j=some l->Hp.get (m1.wLg lg1).H j=Hp.get m.H j:=fun bo=>by rw[gM];exact oK h hj aq bo
  have J:(3*(rows.length+rows2.length)+4000)*inf.bytes<=281474976710656:=by
   have h1:3*(rows.length+rows2.length)+4000<=3000004000:=by unfold uD at az;omega
   have h2:=iU h1 bm;omega
  have R:rows.length+rows2.length<=1000000000:=az;rcases hx with⟨rfl,rfl,rfl,hold⟩|⟨rfl,b,ab,l,cap,C,fz,rfl,au,bs,Q,ak,aj,rfl,I,ax,X,V,aa⟩
  ·
   have N:∀ b,old=some b->∃ ab l,b<=G2/\Hp.get (m1.wLg lg1).H b=some ab/\ab.rw=true/\L b=some l/\l.on=false:=fun b T=>by
    obtain⟨ab,l,q1,q2,q3,q4,q5⟩:=hold b T;exact⟨ab,l,q1,by rw[aw q4];exact q2,q3,e1.ext _ _ q4,q5⟩
   cases f:rows2 with
   | nil =>
     subst f;have B:Ora.env m1.lg.nx=.seq true inf.size []:=d1;obtain⟨ρ2,q1,q2⟩:=wJ q.hr N E F B rfl hi rfl;have ao:new'=[]:=D9.1 (by rw[d.size];simp);exact D (pM hu W O hi (fun wd=>d.len wd) (by have:=d.first w rfl;rw[ao]at this;exact this)) q1 q2
   | cons r0 rr =>
     rw[f]at d1;have B:Ora.env m1.lg.nx=.seq false inf.size rows2:=by rw[f];exact d1
     obtain⟨nc,Y,p⟩:=dY (P:=P) (w:=w) (ty:=ty) (a:=none) (n:=0) (c:=0) (k:=rows2.length) (old':=[]) (new':=new') (x':=y') hu W O hi ad (fun wd=>d.len wd) (fun _ _=>rfl) (fun wd hw=>d.first wd hw) (by rw[f];simp) (by simpa using J) (by simpa using R);obtain⟨m2,bq,st2⟩:∃ m2,u5 m2 m1.lg.nx (10+inf.size) e g=some (v,m')/\St P base L L (m1.wLg lg1) m2 w w:=by
      cases old with
      | none=>exact⟨_,E,St.refl q.hr⟩
      | some b =>
        obtain⟨ab,l,q1,q2,q3,q4,q5⟩:=N b rfl;exact⟨_,E,St.kill q.hr q1 q2 q3⟩
     obtain⟨ρ2,q1,q2⟩:=y7 (w':={ w.drew with heap:=w.heap.push (.cells (({ toList:=[] }:Array Value)++⟨new'⟩++Builtin.zeroCells z.cells (nc-(0+rows2.length))) e (0,0)) }) (cap:=nc) st2.hr hb bq (F.step st2) B rfl hi rfl A9
      (by have:=bJ (s:=inf.size) (k:=rows2.length) (n:=0) (nc:=nc) (z:=z) (old':=[]) d.size Y ai (by simp);exact this)
      (an.move (C':=({ toList:=[] }:Array Value)++⟨new'⟩++Builtin.zeroCells z.cells (nc-(0+rows2.length))) (o':=0) fun i hi'=>by
        have ag:i<new'.length:=by rw[d.size];exact hi'
        rw[D8 i];rw[DD (A4 ag)];simp[ag]) (st2.ext _ _ e4) (fun i _ hh=>by have h1:0<=i:=hh.1;have h2:i<0:=hh.2;omega) ⟨rfl,rfl,rfl⟩ rfl
     exact D p (by rw[D8];exact q1) (St.trans F st2 q2)
  ·
   have ar:Hp.get (m1.wLg lg1).H b=some ab:=by rw[aw ak];exact bs
   have A:=aa lg.G bp;have ay:=e1.ext _ _ ak;cases f:rows2 with
   | nil =>
     subst f;have B:Ora.env m1.lg.nx=.seq false inf.size rows:=d1;have ao:new'=[]:=D9.1 (by rw[d.size];simp);obtain⟨ρ2,q1,q2⟩:=kQ (w':=w) (cap:=cap) (sh:=l.sh) q.hr au ar Q ay aj E F B rfl hi rfl ax X A e4 V ⟨rfl,rfl,rfl⟩ rfl (fun _ _=>rfl) I;have p:=jB (P:=P) (w:=w) (w':=w) (ty:=ty) (a:=⟨l.blk,l.sh,none⟩) (n:=rows.length) (k:=0) (c:=cap) (new':=new') hu W O hi (fun wd=>d.len wd) (d.first w rfl) A9 (by rw[ao];rfl);exact D p q1 q2
   | cons r0 rr =>
     have B:Ora.env m1.lg.nx=.seq false inf.size (rows++rows2):=by rw[f]at d1 ⊢;exact d1
     by_cases K:rows.length+rows2.length<=cap
     .have Z:(rows.length+rows2.length)*inf.size<=cap*inf.size:=E4 _ K;rw[G1]at Z;obtain⟨w',r1,r2,r3,r4,r5⟩:=W3 (P:=P) (b:=l.blk) (o:=rows.length*inf.size+l.sh) (fz:=fz) new' 0 C w I d.flat (by rw[d.size];omega) V;have ae:(Addr.mk l.blk l.sh none).add (rows.length*inf.size)=⟨l.blk,rows.length*inf.size+l.sh,none⟩:=by
       unfold Addr.add;split
       .rename_i h0;rw[h0];simp
       .simp[fO]
      have p:=jB (P:=P) (w:=w) (w':=w') (ty:=ty) (a:=⟨l.blk,l.sh,none⟩) (n:=rows.length) (k:=rows2.length) (c:=cap) (new':=new') hu W O hi (fun wd=>d.len wd) (d.first w rfl) K (by rw[ae];exact r1);have S:(Array.mk (y6 C.toList (rows.length*inf.size+l.sh+0) new')).size=C.size:=by simp[W5]
      have al:∀ j,(Array.mk (y6 C.toList (rows.length*inf.size+l.sh+0) new'))[j]? = if rows.length*inf.size+l.sh<=j/\j<rows.length*inf.size+l.sh+new'.length then new'[j-(rows.length*inf.size+l.sh)]? else C[j]? := fun j=>by
       rw[I0,gX _ _ _ _ (by simp;rw[d.size];omega)];simp
      obtain⟨ρ2,q1,q2⟩:=kQ (w':=w') (cap:=cap) (sh:=l.sh) (C:=⟨y6 C.toList (rows.length*inf.size+l.sh+0) new'⟩) q.hr au ar Q ay aj E F B rfl hi rfl (by simpa using K) (by rw[S];exact X)
       (M3.append (A.move (o':=l.sh) fun i hi'=>by rw[al,B1 A9]) (an.move (o':=l.sh+rows.length*inf.size) fun i hi'=>by
         rw[al,B2 (by rw[d.size];omega),show l.sh+rows.length*inf.size+i-(rows.length*inf.size+l.sh)=i by omega,D8];simp)) e4 (by rw[S];exact V) r2 r3 r5 r4
      rw[G8]at q1;exact D p q1 q2
     .have hold:∃ old',old'.length=rows.length*inf.size/\(∀ i,i<rows.length*inf.size->old'[i]? = C[l.sh+i]?)/\∀ wd:World,wd.heap=w.heap->(Builtin.firstCells inf.size rows.length (.slice (some ⟨l.blk,l.sh,none⟩) rows.length cap)).run P wd=.ok ⟨old'⟩ wd:=by
       have Z:rows.length*inf.size<=cap*inf.size:=E4 _ ax;have hlen:((C.toList.drop l.sh).take (rows.length*inf.size)).length=rows.length*inf.size:=by simp;omega
       refine⟨(C.toList.drop l.sh).take (rows.length*inf.size),hlen,fun i hi'=>?_,fun wd hw=>?_⟩
       .rw[F0 hi',G5];simp
       .rw[show Builtin.firstCells inf.size rows.length (.slice (some ⟨l.blk,l.sh,none⟩) rows.length cap)=loadCells ⟨l.blk,l.sh,none⟩ (rows.length*inf.size)from rfl];refine I5 hlen fun j v' hj=>?_
        have af:=(A7.1 hj).1;rw[hlen]at af;rw[F0 af,G5]at hj;rw[x5 hw];have bt:C[l.sh+j]? = some v':=by simpa using hj
        simp[World.cell?,I,bt]
      obtain⟨old',o1,o2,o3⟩:=hold;obtain⟨nc,Y,p⟩:=dY (P:=P) (w:=w) (ty:=ty) (a:=some ⟨l.blk,l.sh,none⟩) (n:=rows.length) (c:=cap) (k:=rows2.length) (old':=old') (new':=new') (x':=y') hu W O hi ad (fun wd=>d.len wd) o3 (fun wd hw=>d.first wd hw) K J R;have r:=St.kill q.hr au ar Q;obtain⟨ρ2,q1,q2⟩:=y7 (w':={ w.drew with heap:=w.heap.push (.cells (({ toList:=old' }:Array Value)++⟨new'⟩++Builtin.zeroCells z.cells (nc-(rows.length+rows2.length))) e (0,0)) }) (cap:=nc) r.hr hb E (F.step r) B rfl hi rfl (by simpa using Y)
       (bJ d.size Y ai o1)
       (M3.append (A.move (C':=({ toList:=old' }:Array Value)++⟨new'⟩++Builtin.zeroCells z.cells (nc-(rows.length+rows2.length))) (o':=0) fun i hi'=>by
         have M:i<old'.length:=by rw[o1];exact hi'
         rw[D8 i,<- o2 i hi',bK (u:=old'[i]) (by rw[E5 M,A4 M]),A4 M]) (an.move (o':=0+rows.length*inf.size) fun i hi'=>by
         have M:i<new'.length:=by rw[d.size];exact hi'
         rw[D8 (rows.length*inf.size),D8 i,bK (u:=new'[i]) (by rw[D5 (by rw[o1];omega),o1,S4,A4 M])];simp[M])) (r.ext _ _ e4) (fun i _ hh=>by have h1:0<=i:=hh.1;have h2:i<0:=hh.2;omega) ⟨rfl,rfl,rfl⟩ rfl
      rw[G8]at q1;exact D p q1 (St.trans F r q2)
 .cases E
end
end
section
open Go
variable [Ora]
section
variable {P:Program} {base:Nat} {ρ ρ':Ren} {m m':Mem} {w w':World}
def UE{a:Addr} 
  (hu:P.underlying t=some (.slice e)) (ar:P.underlying t2=some d2) (W:aP d2=true) (hi:P.info? e=some inf) (hz:cU P e=some z) (X:z.cells.size=inf.size) (au:inf.bytes<=90000)
  (h:HR P base ρ m.H w) (hb:base<=w.heap.size) (q:BW m e inf.size c none bh (b::gs)=some (v,m')) (Q:I2 ρ m.n m'.hi) (hS:Sat m'.lg)
  (hc:Ora.env c=.seq false inf.size rows) (hl:ρ b=some l) (C:Enc l.G (Ora.env c) (.slice (some a) rows.length rows.length)) (d:MG P ρ w inf.size bh gs y' rows2 new') (p:rows2≠[]) :
  VOk P base ρ m w (Builtin.append_ #[t,t2] ty #[.slice (some a) rows.length rows.length,y']) v m':=by
 unfold BW at q;split at q
 .rename_i g m1 O;rw[L7]at q;have Z:=L2 O;generalize T:cR m1 (10+inf.size) (aY inf.size (hole c (10+inf.size)) bh).1 (aY inf.size (hole c (10+inf.size)) bh).2=lg1 at q;have q:u5 (m1.wLg lg1) m1.lg.nx (10+inf.size) e g=some (v,m'):=q;have J:m'.lg=lg1/\m1.hi<=m'.hi/\m1.n<=m'.n:=by
   unfold u5 at q;obtain⟨_,_,rfl⟩:=J8 q;exact⟨by simp,by simpa using(J2 m1.hi m1.n).1,by simp⟩
  have I:I2 ρ m.n m1.hi:=Q.less J.2.1;obtain⟨E,lg,N,e2,e3,e4,e5,e6⟩:=cD h O I;have A:St P base ρ E m (m1.wLg lg1) w w:=St.trans (by simpa using I) N (St.wLg N.hr lg1);have R:I2 E (m1.wLg lg1).n m'.hi:=by simpa using Q.step N
  have av:Sat (m1.wLg lg1).lg:=by simpa [<- J.1]using hS
  obtain⟨d1,d2,nx,S,rws,d3,d4⟩:=fW (m:=m1) (t:=10+inf.size) (op:=(aY inf.size (hole c (10+inf.size)) bh).1) (xs:=(aY inf.size (hole c (10+inf.size)) bh).2) (lg:=lg1) (by simpa using av) (by rw[Y2,T];exact .refl _);rw[d.ev c false rows hc]at d1;obtain⟨B,M⟩:=DY ⟨nx,S,rws,d1.symm.trans d3⟩;rw[M]at d1;have ax:Sub l.G lg.G:=e6 b (.head _) l hl;have V:∀ b ∈ gs,∀ l,ρ b=some l->Sub l.G lg.G:=fun b ay l hl=>e6 b (.tail _ ay) l hl
  have az:=d.rows lg.G V;have aw:∀ w,(zeroValue e).run P w=.ok z w:=fun w=>n9 hz w
  have r:(3*(rows.length+rows2.length)+4000)*inf.bytes<=281474976710656:=by
   have h1:3*(rows.length+rows2.length)+4000<=3000004000:=by unfold uD at B;omega
   have h2:=iU h1 au;omega
  have D:rows.length+rows2.length<=1000000000:=B;have aq:0<rows2.length:=List.length_pos_iff.2 p;have Y:Ora.env m1.lg.nx=.seq false inf.size (rows++rows2):=by
   cases rows2 with
   | nil=>exact absurd rfl p
   | cons r0 rr=>exact d1
  rw[hc]at C;obtain⟨_,old',K,o2,o3,o4⟩:=oW (w:=w) (C.mono ax) ((N.hr.atl e4 e5).1.2);have o5:∀ wd:World,wd.heap=w.heap->(Builtin.firstCells inf.size rows.length (.slice (some a) rows.length rows.length)).run P wd=.ok ⟨old'⟩ wd:=fun wd hw=>by
   rw[show Builtin.firstCells inf.size rows.length (.slice (some a) rows.length rows.length)=loadCells a (rows.length*inf.size)from rfl];exact iB K fun j v' O=>by rw[x5 hw];exact o4 j v' O
  obtain⟨nc,L,F⟩:=dY (P:=P) (w:=w) (ty:=ty) (a:=some a) (n:=rows.length) (c:=rows.length) (k:=rows2.length) (old':=old') (new':=new') (x':=y') hu ar W hi aw (fun wd=>d.len wd) o5 (fun wd hw=>d.first wd hw) A9 r D;obtain⟨ρ2,q1,q2⟩:=y7 (w':={ w.drew with heap:=w.heap.push (.cells (({ toList:=old' }:Array Value)++⟨new'⟩++Builtin.zeroCells z.cells (nc-(rows.length+rows2.length))) e (0,0)) }) (cap:=nc) A.hr hb q R Y rfl hi rfl (by simpa using L)
   (bJ d.size L X K)
   (M3.append (o3.move (C':=({ toList:=old' }:Array Value)++⟨new'⟩++Builtin.zeroCells z.cells (nc-(rows.length+rows2.length))) (o':=0) fun i hi'=>by
     have f:i<old'.length:=by rw[K];exact hi'
     rw[D8 i,bK (u:=old'[i]) (by rw[E5 f,A4 f])];simp[f]) (az.move (o':=0+rows.length*inf.size) fun i hi'=>by
     have f:i<new'.length:=by rw[d.size];exact hi'
     rw[D8 (rows.length*inf.size),D8 i,bK (u:=new'[i]) (by rw[D5 (by rw[K];omega),K,S4,A4 f])];simp[f])) e4 (fun i _ hh=>by have h1:0<=i:=hh.1;have h2:i<0:=hh.2;omega) ⟨rfl,rfl,rfl⟩ rfl
  rw[G8]at q1;exact⟨_,_,_,F,q1,St.trans Q A q2⟩
 .cases q
def MB(d:uG P td)(a:ST td P m e wd y=some (bh,gs,sure,m')):m.hi<=m'.hi/\m.lg.le m'.lg/\m.n<=m'.n:=by
 unfold ST at a;split at a
 .cases a;exact⟨A6 _,.refl _,A6 _⟩
 .split at a
  .split at a
   .rename_i f;cases a;exact P2 d f
   .cases a
  .cases a
 .split at a
  .rename_i f;cases a;exact d.mono f
  .cases a
 .obtain⟨h1,a⟩:=A2 a;cases a;exact⟨A6 _,.refl _,A6 _⟩
def fI(d:uG P td){old:Option Nat}(a:xV td P m e wd x=some (c,gs,old,m')):m.hi<=m'.hi/\m.lg.le m'.lg/\m.n<=m'.n:=by
 unfold xV at a;split at a
 .rw[L7]at a;simp only[hole]at a;cases a;exact⟨by simp,S1,by simp⟩
 .split at a
  .obtain⟨h1,a⟩:=A2 a;cases a;exact⟨A6 _,.refl _,A6 _⟩
  .cases a
 .split at a
  .obtain⟨h1,a⟩:=A2 a;split at a
   .rename_i f;split at a
    .obtain⟨h1,a⟩:=A2 a;rw[L7]at a;simp only[hole]at a;cases a
     have:=P2 d f;exact⟨by simpa using this.1,this.2.1.trans S1,by simpa using this.2.2⟩
    .cases a
   .cases a
  .cases a
 .cases a
def e9{t:Nat}{T:TypeId}(h:u5 m c t T g=some (v,m')):m.hi<=m'.hi/\m'.lg=m.lg/\m.n<=m'.n:=by
 unfold u5 at h;obtain⟨_,_,rfl⟩:=J8 h;exact⟨(J2 _ _).1,rfl,W9 _⟩
def w9(old:Option Nat)(m:Mem):(fQ old m).hi=m.hi/\(fQ old m).lg=m.lg/\(fQ old m).n=m.n:=by
 cases old with
 | none=>exact⟨rfl,rfl,rfl⟩
 | some b=>simp[fQ,Z5]
def jD{old:Option Nat}(d:BW m e wd c old bh gs=some (v,m')):m.hi<=m'.hi/\m.lg.le m'.lg/\m.n<=m'.n:=by
 unfold BW at d;split at d
 .rename_i g m1 f;rw[L7]at d;have a:=L2 f;have b:=e9 d;obtain⟨r,q,p⟩:=w9 old (m1.wLg (cR m1 (10+wd) (aY wd (hole c (10+wd)) bh).1 (aY wd (hole c (10+wd)) bh).2));refine⟨?_,?_,?_⟩
  .have:=b.1;rw[r]at this;simp at this;omega
  .rw[b.2.1,q,<- a.2.1];exact S1
  .have:=b.2.2;rw[p]at this;simp at this;omega
 .cases d
def FQ{t:Nat}{T:TypeId}{old:Option Nat}(h:HR P base ρ m.H w)(hold:∀ b,old=some b->b<=G2/\Hp.get m.H b≠some .frz)(f:u5 (fQ old m) c t T g=some (v,m'))(r:I2 ρ m.n m'.hi):Z7 ρ m m':=fun j l h1 d=>by
 have p:=w9 old m;unfold u5 at f;rw[hJ f (h.dom j l h1),B1]
 .cases old with
  | none=>exact d
  | some b =>
    show Hp.get (fR m b).H j=_;rw[Z5];show Hp.get (m.H.set b none) j=_;obtain⟨q,a⟩:=hold b rfl;rw[E7 _ _ _ _ q (h.dom j l h1),B1]
    .exact d
    .intro e;subst e;exact a d
 .intro e;obtain⟨_,_,rfl⟩:=J8 f;rw[p.2.2]at e;subst e;rw[r m.n (A6 _) (Nat.lt_of_le_of_lt (Nat.le_of_eq p.2.2.symm) (J2 (fQ old m).hi (fQ old m).n).2)]at h1;cases h1
omit [Ora] in
def FD(h:P.info? e=some inf):F7 P e=some inf.size:=by unfold F7;rw[h]
def wG(f:uG P td)(d:LH td P m e wd x=some (v,m')):m.hi<=m'.hi/\m.lg.le m'.lg/\m.n<=m'.n:=by
 unfold LH at d;split at d
 .obtain⟨_,d⟩:=A2 d;split at d
  .rename_i p;have a:=fI f p;split at d
   .rename_i q;have b:=L2 q;have c:=e9 d;refine⟨?_,?_,?_⟩
    .have:=c.1;rw[(w9 _ _).1]at this;omega
    .rw[c.2.1,(w9 _ _).2.1,b.2.1];exact a.2.1
    .have:=c.2.2;rw[(w9 _ _).2.2]at this;omega
   .cases d
  .cases d
 .cases d
def HX(T:uG P td)(h:HR P base ρ m.H w)(d:LH td P m e wd x=some (v,m'))(X:I2 ρ m.n m'.hi)(hx:VR ρ x x')(hS:Sat m'.lg) :
  ∃ ρ',VR ρ' v x'/\St P base ρ ρ' m m' w w/\m.lg.le m'.lg/\Z7 ρ m m':=by
 unfold LH at d;split at d
 .rename_i inf hi;obtain⟨h1,d⟩:=A2 d;obtain⟨h1,h2⟩:=B3 h1;have h1:=A0 h1;have h2:0<wd:=A1 h2;split at d
  .rename_i c gs old m1 L;have a:=fI T L;split at d
   .rename_i g m2 hj;have b:=L2 hj;have cm:=e9 d;have k1:=w9 old m2;have M:m'.lg=m1.lg:=by rw[cm.2.1,k1.2.1,b.2.1]
    have J:m2.hi<=m'.hi:=by have:=cm.1;rw[k1.1]at this;exact this
    obtain⟨N,F,e2,e3,e4⟩:=EG T h L (X.less (B6 b.1 J)) hx (by rw[<- M];exact hS) h2 (h1▸FD hi);have q:I2 N m1.n m'.hi:=X.step F;obtain⟨ρ2,lg,u,j2,j3,j4,j5,j6⟩:=cD F.hr hj (q.less J);have D:I2 ρ2 m2.n m'.hi:=q.step u;obtain⟨nul,rows,hc,Y⟩:=e4.ex;have B:∀ {j l},N j=some l->Hp.get m2.H j=Hp.get m1.H j:=fun ay=>oK F.hr hj (q.less J) ay
    have hle:m.lg.le m'.lg:=by rw[M];exact a.2.1
    have p:(∀ b,old=some b->b<=G2/\Hp.get m2.H b≠some .frz)->Z7 ρ m m':=fun hq=>(e3.trans F.ext j3).trans (fun b l L=>u.ext b l (F.ext b l L)) (FQ u.hr hq d D)
    rcases Y with⟨rfl,rfl,rfl,hold⟩|⟨rfl,b0,ab,l,cap,C,fz,rfl,O,az,A,R,Z,rfl,I,V,K,S,W⟩
    .have f:∀ b,old=some b->∃ ab l,b<=G2/\Hp.get m2.H b=some ab/\ab.rw=true/\ρ2 b=some l/\l.on=false:=fun b r=>by
      obtain⟨ab,l,q1,q2,q3,q4,q5⟩:=hold b r;exact⟨ab,l,q1,by rw[B q4];exact q2,q3,u.ext _ _ q4,q5⟩
     obtain⟨E,q1,q2⟩:=wJ u.hr f d D hc rfl hi h1;exact⟨E,q1,St.trans X F (St.trans q u q2),hle,p fun b r=>by
      obtain⟨ab,l,q1,q2,q3,_⟩:=f b r;exact⟨q1,fun he=>by rw[q2]at he;cases he;cases q3⟩⟩
    .have Q:Hp.get m2.H b0=some ab:=by rw[B R];exact az
     obtain⟨E,q1,q2⟩:=kQ (w':=w) (cap:=cap) (sh:=l.sh) u.hr O Q A (u.ext _ _ R) Z d D hc rfl hi h1 V K (W lg.G fun b L l hl=>j6 b L l hl) j4 S ⟨rfl,rfl,rfl⟩ rfl (fun _ _=>rfl) I;exact⟨E,q1,St.trans X F (St.trans q u q2),hle,p fun b r=>by
      cases r;exact⟨O,fun he=>by rw[Q]at he;cases he;cases A⟩⟩
   .cases d
  .cases d
 .cases d
def HE:∀ (d:Nat),uG P (MT P d)
 | 0=>MU
 | d+1=>by
   have u:=HE d;refine⟨fun{base ρ m m' w t v v' x b} h f n r q=>?_,fun{m m' t v x b} f=>?_⟩
   .unfold MT at f;split at f
    .split at f
     .split at f
      .rename_i B m1 p;have a:=dT f;obtain⟨D,c1,c2,A,C⟩:=HX u h p (n.less a.1) r (q.le a.2.1);obtain⟨ρ2,l,d1,d2,d3,d4,d5,d6⟩:=yF c2.hr f (n.step c2) c1 q;exact⟨ρ2,l,St.trans n c2 d1,d2,d3,d4,d5,A.trans d6,C.trans c2.ext (AQ c2.hr f (n.step c2))⟩
      .cases f
     .cases f
    .exact MU.ok h f n r q
   .unfold MT at f;split at f
    .split at f
     .split at f
      .rename_i B m1 p;have a:=wG u p;have b:=dT f;exact⟨B6 a.1 b.1,a.2.1.trans b.2.1,B6 a.2.2 b.2.2⟩
      .cases f
     .cases f
    .exact dT f
def R5:uG P (tdP P):=HE 3
def AF(d:nS P m t t2 x y=some (v,m')):m.hi<=m'.hi/\m.lg.le m'.lg/\m.n<=m'.n:=by
 unfold nS at d;split at d
 .rename_i e d2 hu r;cases f:aP d2 with
  | false=>rw[f]at d;cases d
  | true =>
    rw[f]at d;simp only[N6,D3]at d;split at d
    .obtain⟨_,d⟩:=A2 d;split at d
     .rename_i p;have a:=MB R5 p;split at d
      .rename_i q;have b:=fI R5 q;have c:=jD d;exact⟨A9,a.2.1.trans (b.2.1.trans c.2.1),A9⟩
      .split at d
       .obtain⟨_,d⟩:=A2 d;have c:=jD d;exact⟨A9,a.2.1.trans c.2.1,A9⟩
       .cases d
     .cases d
    .cases d
 .cases d
def MG.step(h:MG P ρ w wd bh gs y' rows2 new')(n:∀ b ∈ gs,∃ l,ρ b=some l)(he:∀ b l,ρ b=some l->ρ' b=some l):MG P ρ' w wd bh gs y' rows2 new' :=
 ⟨h.len,h.first,h.size,h.flat,fun R d=>h.rows R fun b a l f=>d b a l (he b l f),h.ev⟩
def MJ{n:Nat}(h:MK P e n=true):∃ z,cU P e=some z/\z.cells.size=n:=by
 unfold MK at h;split at h
 .rename_i z a;exact⟨z,a,A0 h⟩
 .cases h
def GV(h:HR P base ρ m.H w)(N:base<=w.heap.size)(p:nS P m t t2 x y=some (v,m'))(B:I2 ρ m.n m'.hi)(hx:VR ρ x x')(hy:VR ρ y y')(M:Sat m'.lg) :
  VOk P base ρ m w (Builtin.append_ #[t,t2] ty #[x',y']) v m':=by
 unfold nS at p;split at p
 .rename_i e d2 hu L;cases r:aP d2 with
  | false=>rw[r]at p;cases p
  | true =>
    rw[r]at p;simp only[N6,D3]at p;split at p
    .rename_i inf hi;obtain⟨hq,d⟩:=A2 p;clear p;obtain⟨X,ax⟩:=B3 hq;obtain⟨az,Y⟩:=B3 X;have K:=A1 az;have D:0<inf.size:=A1 Y;obtain⟨z,W,I⟩:=MJ ax;have F:F7 P e=some inf.size:=by unfold F7;rw[hi]
     split at d
     .rename_i bh gs sure m1 C;split at d
      .rename_i c g0 old m2 S;have mb:=fI R5 S;have mp:=jD d;have G:I2 ρ m.n m1.hi:=B.less A9;obtain⟨A,rows2,new',q,a2,a3,a4,a5,a6⟩:=JY R5 h C G hy (M.le (mb.2.1.trans mp.2.1)) D F;have f:I2 A m1.n m'.hi:=B.step q;obtain⟨ρ2,T,b2,b3,b4⟩:=EG R5 q.hr S (f.less mp.1) (hx.mono q.ext) (M.le mp.2.1) D F;obtain⟨v',u,w3,c1,c2,Q⟩:=HU (ty:=ty) hu L r hi W I K T.hr N d (f.step T) M b4 (a5.step (fun b ay=>(a4 b ay).2) T.ext);exact⟨v',u,w3,c1,c2,St.trans B (St.trans (B.less mp.1) q T) Q⟩
      .split at d
       .rename_i b c tg aw;obtain⟨O,J⟩:=A2 d;clear d;have O:=A0 O;have mp:=jD J;have G:I2 ρ m.n m1.hi:=B.less A9;obtain⟨A,rows2,new',q,a2,a3,a4,a5,a6⟩:=JY R5 h C G hy (M.le mp.2.1) D F;have f:I2 A m1.n m'.hi:=B.step q;obtain⟨l,d1,d2,d3,d4,d5⟩:=cY hx;obtain⟨nul,V,rows,q1,q2⟩:=dC d2 d3 d4;have Z:V=inf.size:=A9;subst Z;rw[q1]at d2;rcases l7 d2 with⟨rfl,rfl,rfl⟩|⟨rfl,a,cap,rfl,hc⟩
        .have E:TK P base A m1 w e inf.size c [b] none (.slice none 0 0):=⟨true,[],q1,.inl ⟨rfl,rfl,rfl,fun b N=>by cases N⟩⟩;obtain⟨v',u,w3,c1,c2,Q⟩:=HU (ty:=ty) (g0:=[b]) (gs:=gs) hu L r hi W I K q.hr N J f M E a5;exact⟨v',u,w3,c1,c2,St.trans B q Q⟩
        .have R:cap=rows.length:=d5;subst R;obtain⟨v',u,w3,c1,c2,Q⟩:=UE (ty:=ty) hu L r hi W I K q.hr N J f M q1 (q.ext _ _ d1) (by rw[q1];exact d2) a5 (a6 rfl);exact⟨v',u,w3,c1,c2,St.trans B q Q⟩
       .cases d
     .cases d
    .cases p
 .cases p
end
end
section
open Go
variable [Ora]
section
variable {P:Program} {base:Nat} {ρ ρ':Ren} {m m':Mem} {w w':World}
def BN(h:o+us.length<=row.length):(FK row o us).length=row.length:=by
 unfold FK;simp;omega
def OO(h:o+us.length<=row.length):(FK row o us)[j]? = if o<=j/\j<o+us.length then us[j-o]? else row[j]? := by
 unfold FK;have a:(row.take o).length=o:=by simp;omega
 by_cases h1:j<o
 .rw[B1 A9,V7,E5 A9,F0 h1]
 .by_cases d:j<o+us.length
  .rw[B2 ⟨A9,d⟩,V7,D5 A9,a,E5 A9]
  .rw[B1 A9,D5 (by simp;omega),G5];congr 1
   simp;omega
def M3.set{R:Nat->Option Obj}{s:Nat}{C C':Q0}(h:M3 R rows wd C s)(hk:k<rows.length)(H:o+us.length<=wd)(he:W8 R us vs)
  (hC:∀ j,C'[j]? = if s+k*wd+o<=j/\j<s+k*wd+o+vs.length then vs[j-(s+k*wd+o)]? else C[j]?):M3 R (rows.set k (FK (rows.getD k []) o us)) wd C' s:=by
 have a:rows[k]? = some rows[k]:=A4 hk;have B:rows.getD k []=rows[k]:=by rw[B9,a];rfl
 have n:rows[k].length=wd:=h.1 _ (L6 hk);rw[B];refine⟨fun row hr=>?_,fun r row j u v d a2 a3=>?_⟩
 .rcases List.mem_or_eq_of_mem_set hr with h1|rfl
  .exact h.1 row h1
  .rw[BN A9];exact n
 .rw[hC]at a3;by_cases f:k=r
  .subst f;rw[U2 hk]at d;have d:=A5 d;subst d;have A:=(A7.1 a2).1;rw[BN A9,n]at A;rw[OO A9]at a2;by_cases p:o<=j/\j<o+us.length
   .rw[B2 p]at a2;rw[B2 (by rw[<- he.1];omega)]at a3;exact he.2 (j-o) u v a2 (by rw[<- a3];congr 1;omega)
   .rw[B1 p]at a2;rw[B1 (by rw[<- he.1];omega)]at a3;exact h.2 k _ j u v a a2 a3
  .rw[aI f]at d;have A:=(A7.1 a2).1;rw[h.1 _ (D6 d)]at A;have G:=(A7.1 d).1;have F:=he.1;rw[B1]at a3
   .exact h.2 r row j u v d a2 a3
   .rcases F2 r k with q|E
    .have D:(r+1)*wd<=k*wd:=E4 wd q;rw[G1]at D;omega
    .have D:(k+1)*wd<=r*wd:=E4 wd A9;rw[G1]at D;omega
def KO(h:HR P base ρ m.H w)(p:rW P m t x y=some (v,m'))(L:I2 ρ m.n m'.hi)(hx:VR ρ x x')(hy:VR ρ y y')(hS:Sat m'.lg):UOk P base ρ m w (Instr.storeAt t x' y') m'/\v=undef/\m.lg.le m'.lg:=by
 unfold rW at p;split at p
 .rename_i b i d z o ts au;cases I:fC y with
  | true=>rw[I]at p;cases p
  | false =>
  rw[I]at p;simp only[D3]at p;split at p
  .rename_i xs gs m1 hd;split at p
   .rename_i c tc T g hg;obtain⟨az,q⟩:=A2 p;clear p;have az:=A0 az;split at q
    .rename_i g2 m2 hj;rw[L7]at q;simp only[hole]at q;obtain⟨hs,rfl⟩:=jJ q;obtain⟨ah,V⟩:=R2 hs;have md:=P2 R5 hd;have mj:=L2 hj;have ae:m2.hi=m'.hi:=by rw[V];simp
     have N:m'.lg=cR m2 d (.set (d-10) o) (hole c d::z::xs):=by rw[V];simp[hole]
     have aw:m2.lg.le m'.lg:=by rw[N];exact⟨[_],rfl⟩
     have aq:I2 ρ m.n m1.hi:=L.less A9;have ax:m1.lg.le m'.lg:=by rw[<- mj.2.1];exact aw
     obtain⟨R,K,e2,e3,e4,e5,e6⟩:=eN R5 h hd aq (hy.cells I) (hS.le ax);have M:I2 R m1.n m2.hi:=(L.step K).less A9;obtain⟨ρ2,lg,d1,d2,d3,d4,d5,d6⟩:=cD K.hr hj M;obtain⟨⟨l,wd,BG,k,a1,a2,a3,a4,a5,a6,rfl⟩,a8⟩:=qT hx;have B:=K.ext _ _ a1;obtain⟨a,inf,q1,q2,q3,q4⟩:=SqR.ex (K.hr.atl B hg).1;rcases q4 with⟨q4,_⟩|⟨_,q4⟩
     .rw[a2]at q4;cases q4
     obtain⟨C,fz,T',rows,Z,f1,f2,f3,f4,f5,f6,f7,f8,f9⟩:=q4;have av:a=wd:=by
      have:d=10+wd:=by rw[<- a8,a3];rfl
      omega
     subst av;obtain⟨rfl,f10⟩:=f9 rfl;have ak:d=10+a:=A9;have ar:Sat (m2.wLg (cR m2 d (.set (d-10) o) (hole c d::z::xs))).lg:=by rw[Y2,<- N];exact hS
     obtain⟨r1,r2,nul,af,rws,r3,r4⟩:=fW ar (.refl _);obtain⟨kk,hz⟩:=AE a4;have F:(hole c d::z::xs).map (D4 Ora.env)=.seq false a rows::.int kk (.ofNat k)::xs.map (D4 Ora.env):=by
      show Ora.env c::D4 Ora.env z::xs.map (D4 Ora.env)=_;rw[f2,hz]
     rw[F,show d-10=a by omega]at r1;have r1:Ora.env m2.lg.nx=if a=a/\k<rows.length/\o+(xs.map (D4 Ora.env)).length<=a then .seq false a (rows.set k (FK (rows.getD k []) o (xs.map (D4 Ora.env))))else .none:=r1
     by_cases hc:a=a/\k<rows.length/\o+(xs.map (D4 Ora.env)).length<=a
     .rw[B2 hc]at r1;obtain⟨_,ay,W⟩:=hc;have hR:∀ b' ∈ gs,∀ l',R b'=some l'->Sub l'.G lg.G:=fun b' aj l' an=>d6 b' (.tail _ aj) l' an
      have f:=e6 lg.G hR;have D:Sub Z.G lg.G:=d6 g (.head _) Z f7;have J:y'.cells.toList.length=(xs.map (D4 Ora.env)).length:=f.1.symm;have al:(k+1)*a<=l.cap*a:=E4 a A9;rw[G1]at al;obtain⟨w',g1,ao,g3,g4,g5⟩:=W3 (P:=P) (b:=l.blk) (o:=l.sh+k*a+o) (fz:=fz) y'.cells.toList 0 C w f1 (xD f) (by rw[J];omega) f10;have ag:C.toList.length=C.size:=O9;have u:(Array.mk (y6 C.toList (l.sh+k*a+o+0) y'.cells.toList)).size=C.size:=by simp[W5]
      have X:∀ j,(Array.mk (y6 C.toList (l.sh+k*a+o+0) y'.cells.toList))[j]? = if l.sh+k*a+o<=j/\j<l.sh+k*a+o+y'.cells.toList.length then y'.cells.toList[j-(l.sh+k*a+o)]? else C[j]? := fun j=>by
       rw[I0,gX _ _ _ _ (by rw[J];omega)];simp
      have r:M3 lg.G rows a C l.sh:=M3.mono ⟨f6,f8⟩ D;have A:St P base ρ ρ2 m (m2.wLg (cR m2 d (.set (d-10) o) (hole c d::z::xs))) w w:=St.trans (L.less (by simp;omega)) (St.trans (L.less A9) K d1) (St.wLg d1.hr _);have E:Hp.get (m2.wLg (cR m2 d (.set (d-10) o) (hole c d::z::xs))).H b=some (.sq c tc T' g false):=by rw[gM,oK K.hr hj M B];exact hg
      have O:=d1.ext _ _ B;have ai:BR P ρ2 (.sq m2.lg.nx d T' g2 false) l w':=by
       refine⟨⟨a,inf,ak,q2,q3,.inr ⟨a2,_,fz,T',_,lg,g4,r1,by rw[gD];exact f3,f4,by rw[u];exact f5,(r.set ay W f X).1,d4,(r.set ay W f X).2,fun _=>⟨rfl,by rw[u];exact f10⟩⟩⟩⟩
      have S:=St.write A.hr hs E rfl O a2 ao g3 g5 ai (fun h=>by cases h);refine⟨⟨ρ2,w',?_,St.trans L A S⟩,rfl,md.2.1.trans ax⟩;have Y:=eO au;have Q:ts.length=(xs.map (D4 Ora.env)).length:=by
       have:=U9 List.length e5;rw[E8]at this;exact this.symm
      have e:y'.cells.size=ts.length:=by rw[Q,<- J];simp
      simp[Instr.storeAt,Instr.sureAddr,storeVar,A3,J1 Y,Result.andThen,e,g1]
     .rw[B1 hc]at r1;rw[r1]at r3;cases r3
    .cases q
   .cases p
  .cases p
 .cases p
def KQ{lo' hi' mx':N7}(h:HR P base ρ m.H w)(a:rY P m t x lo hi mx=some (v,m'))(L:I2 ρ m.n m'.hi)(J:VR ρ x x')(f:OR ρ lo lo')(p:OR ρ hi hi')(q:OR ρ mx mx')(E:Sat m'.lg) :
  VOk P base ρ m w (Instr.sliceAt t x' lo' hi' mx') v m'/\m.lg.le m'.lg:=by
 unfold rY at a;split at a
 .rename_i e b i D hu;split at a
  .rename_i s B;obtain⟨d,a⟩:=A2 a;have d:=A0 d;obtain⟨l,h1,I,h3,O⟩:=jO J;obtain⟨⟨r,g1,g2⟩,⟨lg,rfl⟩,g4⟩:=zT (w:=w) hu B d h1 I h3 (fun h=>by cases h) a f p q E;exact⟨⟨r,ρ,w,g1,g2,St.wLg h lg⟩,g4⟩
  .cases a
 .rename_i e b i D hu;split at a
  .rename_i s B;obtain⟨d,a⟩:=A2 a;have d:=A0 d;obtain⟨l,h1,I,h3,O,Y⟩:=cY J;obtain⟨⟨r,g1,g2⟩,⟨lg,rfl⟩,g4⟩:=zT (w:=w) hu B d h1 I h3 (fun _=>Y) a f p q E;exact⟨⟨r,ρ,w,g1,g2,St.wLg h lg⟩,g4⟩
  .cases a
 .rename_i e b i D hu;split at a
  .rename_i s B;obtain⟨d,a⟩:=A2 a;have d:=A0 d;split at a
   .rename_i c tc M m1 R;have C:∀ {m1:Mem},DT m1 M c D false lo hi mx=some (v,m')->I1 m1 m'/\m1.lg.le m'.lg:=fun{m1} a=>by
     have go:∀ {m1:Mem} {l h:Value} {W:Bool},dD m1 M c D l h W=some (v,m')->I1 m1 m'/\m1.lg.le m'.lg:=fun h=>by
      unfold dD at h;obtain⟨_,h⟩:=A2 h;rw[L7]at h;simp only[C7,J0]at h;obtain⟨_,rfl⟩:=h;exact⟨⟨_,rfl⟩,S1⟩
     unfold DT DS at a;split at a
     .exact go a
     .exact go (A2 a).2
     .split at a
      .rename_i N
       have:=go a;exact⟨(v8 N).1.trans this.1,(v8 N).2.trans this.2⟩
      .cases a
     .cases a
    obtain⟨⟨lg,G⟩,hle⟩:=C a;have X:m1.hi=m'.hi:=by rw[G];simp
    obtain⟨A,l,K,Q,Z,S,T,V⟩:=yF h R (L.less A9) J (E.le hle);have mono:∀ {o o':N7},OR ρ o o'->OR A o o':=fun{o o'} h=>by
     cases o<;>cases o'<;>first|exact trivial|exact h.elim|exact VR.mono K.ext h
    obtain⟨⟨r,g1,g2⟩,⟨F,u⟩,g4⟩:=zT (w:=w) (cl:=false) hu B d Q S T (fun h=>by cases h) a (mono f) (mono p) (mono q) E;subst u;exact⟨⟨r,A,w,g1,g2,St.trans (L.less (by simp)) K (St.wLg K.hr F)⟩,V.trans g4⟩
   .cases a
  .cases a
 .cases a
end
end
section
open Go
variable [Ora]
section
variable {P:Program} {base:Nat} {ρ ρ':Ren} {m m':Mem} {w w':World}
def vW{a':Addr}{n c':Nat}{a:List Int}(p:P.underlying s=some (.slice e))(q:P.underlying t=some .string)(he:P.underlying e=some (.int .u8))(d:(loadCells a' n).run P w=.ok (a.map (Value.int .u8)).toArray w) :
  (convert s t (.slice (some a') n c')).run P w=.ok (.string ⟨⟨a.map fun n=>UInt8.ofNat n.toNat⟩⟩) w:=by
 have:=run_bytesToString w a' n c' a d;have f:=kW a [];simp only[Q8]at f;simp only[convert,A3,C8 p,C8 q,C8 he,Result.andThen];rw[this,show ByteArray.empty=ByteArray.mk ⟨[]⟩from rfl,f]
def yM{n:Nat}(d:P.underlying s=some (.slice e))(a:P.underlying t=some .string)(he:P.underlying e=some (.int .u8)):(convert s t (.slice none n c)).run P w=.ok (.string ByteArray.empty) w:=by
 simp[convert,A3,C8 d,C8 a,C8 he,Result.andThen,Conv.bytesToString]
def BE{b:ByteArray}(E:P.underlying s=some ds)(F:P.underlying t=some (.slice e))(he:P.underlying e=some (.int .u8))(w:World) :
  ∃ (cap:Nat) (C:Array Value),b.size<=cap/\C.size=cap/\(∀ (i:Nat) (u:Value),(M7 b.data.toList)[i]? = some u->C[i]? = some u)/\(convert s t (.string b)).run P w=.ok (.slice (some ⟨w.heap.size,0,none⟩) b.size cap) { w.drew with heap:=w.heap.push (.cells C e (C.size,C.size+1)) }:=by
 let q:Question:=.appendCap b.size 0 e
 let cap:=q.cut (w.tape w.drawn q)
 have d:b.size<=cap:=by show b.size<=b.size+_;omega
 have n:(choose q).run P w=.ok cap w.drew:=by
  simp only[choose,Sem.run];rw[B1 (by simp[q,Question.forced])];rfl
 let C:Q0:=(b.data.map fun b=>Value.int .u8 b.toNat)++Array.replicate (cap-b.size) (.int .u8 0)
 have hC:C.size=cap:=by
  have:b.data.size=b.size:=rfl;simp[C,this];omega
 refine⟨cap,C,d,hC,fun i u hi=>?_,?_⟩
 .have B:=(A7.1 hi).1;simp[M7]at B;have r:i<(b.data.map fun b=>Value.int .u8 b.toNat).size:=by simpa using B
  show((b.data.map fun b=>Value.int .u8 b.toNat)++Array.replicate (cap-b.size) (.int .u8 0))[i]? = some u;rw[I8 r]
  simpa [M7]using hi
 .have A:∀ w2:World,w2.heap[w.heap.size]? = some (.cells C e (0,0))->(markStringish ⟨w.heap.size,0,none⟩).run P w2=.ok () (w2.freeze { block:=w.heap.size,off:=C.size } 1):=fun w2 D=>by
   simp[markStringish,shape,freeze,Sem.run,World.shape?,D]
  have p:({ w.drew with heap:=w.heap.push (.cells C e (0,0)) }:World).freeze { block:=w.heap.size,off:=C.size } 1={ w.drew with heap:=w.heap.push (.cells C e (C.size,C.size+1)) }:=by
   unfold World.freeze;rw[B1 L8];congr 1;apply Array.ext_getElem?;intro i;rw[F1];by_cases hi:w.heap.size=i
   .subst hi;simp
   .rw[B1 hi];simp only[K4];rw[B1 (fun h=>hi h.symm),B1 (fun h=>hi h.symm)]
  have a:(convert s t (.string b)).run P w=(Conv.stringToBytes e b).run P w:=by
   cases ds<;>simp[convert,A3,C8 E,C8 F,C8 he,Result.andThen]
  rw[a];unfold Conv.stringToBytes;simp only[A3,show(choose (.appendCap b.size 0 e)).run P w=.ok cap w.drew from n,Result.andThen];have f:(newRow e C).run P w.drew=.ok ⟨w.heap.size,0,none⟩ { w.drew with heap:=w.heap.push (.cells C e (0,0)) }:=rfl;rw[show(newRow e ((b.data.map fun b=>Value.int .u8 b.toNat)++Array.replicate (cap-b.size) (.int .u8 0))).run P w.drew=_ from f];simp only[Result.andThen];rw[A _ (by simp),p];rfl
def zY:∀ {us:List U} {s:List UInt8} {vs:D0},vC us=some s->W8 (fun k=>w.heap[k]?) us vs->∃ d:List Int,vs=d.map (Value.int .u8)/\s=d.map fun n=>UInt8.ofNat n.toNat
 | [],s,vs,h,he=>by
   cases h;have:vs=[]:=D9.1 he.1.symm;subst this;exact⟨[],rfl,rfl⟩
 | u::us,s,vs,h,he=>by
   unfold vC at h;split at h
   .rename_i heq;cases heq
   .rename_i n r heq;cases heq;split at h
    .split at h
     .rename_i l q;cases h;cases vs with
      | nil=>have:=he.1;simp at this
      | cons v A =>
        obtain⟨d,B,f⟩:=zY (vs:=A) q ⟨by have:=he.1;simpa using this,fun i a b h1 p=>he.2 (i+1) a b (by simpa using h1) (by simpa using p)⟩
        have:=jQ (he.2 0 _ v rfl rfl) rfl;subst this;exact⟨(Int.ofNat n)::d,by rw[B];rfl,by rw[f];rfl⟩
     .cases h
    .cases h
   .cases h
def zZ:∀ {rows:List (List U)} {s:List UInt8},AA rows=some s->vC (rows.flatMap id)=some s/\(rows.flatMap id).length=rows.length/\∀ (r:Nat) (row:List U) (j:Nat) (u:U),rows[r]? = some row->row[j]? = some u->j=0/\(rows.flatMap id)[r]? = some u
 | [],s,h=>by cases h;exact⟨rfl,rfl,fun r row j u h=>by simp at h⟩
 | row::rows,s,h=>by
   unfold AA at h;split at h
   .rename_i heq;cases heq
   .rename_i n r heq;cases heq;split at h
    .rename_i d;split at h
     .rename_i l A;cases h;obtain⟨h1,p,h3⟩:=zZ A;refine⟨?_,by show([U.int .u8 (Int.ofNat n)]++rows.flatMap id).length=_;rw[G8,p];simp;omega,fun q row j u a a2=>?_⟩
      .simp only[dI,id,Y1,Q8,vC];rw[B2 d,h1]
      .cases q with
       | zero =>
         simp at a;subst a;cases j with
         | zero=>simp at a2;subst a2;exact⟨rfl,rfl⟩
         | succ j=>simp at a2
       | succ q =>
         obtain⟨B,f⟩:=h3 q row j u (by simpa using a) a2;exact⟨B,by simpa using f⟩
     .cases h
    .cases h
   .cases h
def mA{t:Nat}:∀ {l:D0},Z2 t l=true->∀ v ∈ l,F5 v=t
 | [],_,v,a=>by cases a
 | x::r,h,v,a=>by
   obtain⟨h1,d⟩:=B3 (show(Nat.beq (F5 x) t && Z2 t r)=true from h);rcases A8.1 a with rfl|a
   .exact A0 h1
   .exact mA d v a
def nH{R:Nat->Option Obj}(h:LR ρ cs cs')(f:∀ v ∈ cs,F5 v<10):W8 R (cs.map (D4 Ora.env)) cs':=by
 refine⟨by simp[h.1],fun i u v a a2=>?_⟩;rw[F4]at a;cases d:cs[i]? with
 | none=>rw[d]at a;cases a
 | some x =>
   rw[d]at a;have a:=A5 a;subst a;exact .sc (m9 (h.2 i x v d a2) (f x (D6 d))).1
def CT(m m1:Mem):WY m m1=⟨m.H,m.n,m.W,m1.hi,m1.lg⟩:=by cases m;cases m1;rfl
def St.kept{ρ:Ren}{m:Mem}{w:World}{hi:Nat}{lg:Lg}(h:HR P base ρ m.H w)(hh:m.hi<=hi):St P base ρ ρ m ⟨m.H,m.n,m.W,hi,lg⟩ w w :=
 ⟨fun _ _ h=>h,fun b l h1 a=>(by rw[h1]at a;cases a),A6 _,hh,fun h=>B6 h hh,h,fun _ h=>h,fun b h1 a=>absurd h1 a,fun _ _ _=>rfl,A6 _,⟨rfl,rfl,rfl⟩,fun b l h1 a=>(by rw[h1]at a;cases a),fun _ _ _ _=>rfl,fun _ h=>.inr h⟩
def RH(h:HR P base ρ m.H w)(hb:base<=w.heap.size)(d:DV P m s t x=some (v,m'))(Q:I2 ρ m.n m'.hi)(hx:VR ρ x x')(Z:Sat m'.lg):VOk P base ρ m w (convert s t x') v m'/\m.lg.le m'.lg:=by
 unfold DV at d;split at d
 .rename_i e a n c N L;split at d
  .rename_i he;split at d
   .rename_i cs hr;obtain⟨E,d⟩:=A2 d;obtain⟨u,f,e2,r,O,K,e5⟩:=K3 d Z;obtain⟨lg,rfl⟩:=G0 d;have q:=St.wLg h lg;have I:=mA E;have key:∀ {a' c'} {M:D0},LR ρ cs M->(loadCells a' n).run P w=.ok ⟨M⟩ w->VOk P base ρ m w (convert s t (.slice (some a') n c')) v (m.wLg lg):=fun{a' c' M} X ay=>by
     have av:W8 (fun k=>w.heap[k]?) (cs.map (D4 Ora.env)) M:=nH X (fun v hv=>by rw[I v hv];omega);have J:∃ p,vC (cs.map (D4 Ora.env))=some p/\u=.str p:=by
      have f:(match vC (cs.map (D4 Ora.env))with|some s=>U.str s|none=>.none)=u:=f;split at f
      .rename_i p A;exact⟨p,A,f.symm⟩
      .subst f;cases O
     obtain⟨p,q1,rfl⟩:=J;cases O;obtain⟨ns,r1,r2⟩:=zY (w:=w) q1 av;subst r1;subst r2;exact⟨_,ρ,w,vW N L he ay,K ρ,q⟩
    refine⟨?_,G3 d⟩;rcases M4 hx with⟨l,X,_,_,rfl⟩|⟨l,c',X,_,_,_,_,rfl⟩|⟨a',c',_,rfl,_,rfl⟩
    .obtain⟨M,g1,g2,g3⟩:=X5 h hr X;exact key g1 (I5 g2 g3)
    .obtain⟨M,g1,g2,g3⟩:=X5 h hr X;exact key g1 (I5 g2 g3)
    .have:cs=[]:=by
      unfold i9 at hr;split at hr
      .have:=(fF hr).2;simpa using this
      .cases hr
     subst this;exact key .nil (by simp[loadCells,loadCellsFrom])
   .cases d
  .cases d
 .rename_i e fn a1 a2 N L;split at d
  .rename_i he;split at d
   .rename_i hh b m1 hd;rw[CT]at d;obtain⟨u,f,e2,r,O,K,e5⟩:=K3 d Z;have hle:=G3 d;obtain⟨lg,rfl⟩:=G0 d;obtain⟨S,l,d1,d2,d3,d4,d5,d6⟩:=yF h hd (Q.less (by simp[Mem.wLg])) hx (Z.le hle);have q:St P base ρ ρ m (Mem.wLg ⟨m.H,m.n,m.W,m1.hi,m1.lg⟩ lg) w w:=St.kept h d1.hle;obtain⟨nul,wd,rows,q1,q2⟩:=dC d4 d5 A9;have az:wd=1:=A9;subst az;rw[q1]at d4;have J:∃ p,AA rows=some p/\u=.str p:=by
     have f:evU .str [D4 Ora.env hh]=u:=f;rw[q1]at f;have f:(if 1=1 then(match AA rows with|some s=>U.str s|none=>.none)else .none)=u:=f;rw[B2 rfl]at f;split at f
     .rename_i p A;exact⟨p,A,f.symm⟩
     .subst f;cases O
    obtain⟨p,A,rfl⟩:=J;cases O;refine⟨?_,d6.trans hle⟩;have hG:=(d1.hr.atl d2 d3).1.2;rcases l7 d4 with⟨rfl,rfl,rfl⟩|⟨rfl,a,c,rfl,hc⟩
    .cases A;exact⟨_,ρ,w,yM N L he,K ρ,q⟩
    .obtain⟨_,new',g1,g2,g3,g4⟩:=oW (w:=w) d4 hG;obtain⟨k1,k2,k3⟩:=zZ A;have T:W8 (fun k=>w.heap[k]?) (rows.flatMap id) new':=by
      refine⟨by rw[k2,g1];simp,fun i u v b1 b2=>?_⟩;have D:i<rows.length:=by have:=(A7.1 b1).1;rw[k2]at this;exact this
      have au:rows[i].length=1:=g3.1 _ (L6 D);have F:rows[i]? = some rows[i]:=A4 D;have h0:rows[i][0]? = some (rows[i][0]' A9):=A4 A9;obtain⟨_,k4⟩:=k3 i _ 0 _ F h0;rw[b1]at k4;have k4:=A5 k4;rw[k4];exact(g3.2 i _ 0 _ v F h0 (by simpa using b2)).mono hG
     obtain⟨ns,r1,r2⟩:=zY (w:=w) k1 T;subst r1;subst r2;have ax:(ns.map (Value.int .u8)).length=rows.length:=by rw[g1];omega
     exact⟨_,ρ,w,vW N L he (iB ax g4),K ρ,q⟩
   .cases d
  .cases d
 .rename_i y _ _ _ ds e N L;obtain⟨E,d⟩:=A2 d;have E:=A0 E;split at d
  .rename_i he;split at d
   .rename_i B;split at d
    .rename_i g m1 hj;rw[L7]at d;simp only[hole]at d;have d:u5 (m1.wLg (cR m1 11 .byt [y])) m1.lg.nx 11 e g=some (v,m'):=d;have mj:=L2 hj;have mn:=e9 d;simp only[EN,Y2,MP]at mn;obtain⟨S,lg,f,e2,O,K,e5,e6⟩:=cD h hj (Q.less A9);have q:St P base ρ S m (m1.wLg (cR m1 11 .byt [y])) w w:=St.trans (Q.less (by simp;omega)) f (St.wLg f.hr _);obtain⟨p,rfl,f1⟩:=c8 hx E;obtain⟨r1,r2,_⟩:=fW (m:=m1) (t:=11) (op:=.byt) (xs:=[y]) (lg:=m'.lg) Z (by rw[Y2,mn.2.1];exact .refl _);have r1:Ora.env m1.lg.nx=evU .byt [D4 Ora.env y]:=r1;rw[f1]at r1;have r1:Ora.env m1.lg.nx=.seq false 1 (kC p):=r1;obtain⟨cap,C,c1,c2,c3,c4⟩:=BE (P:=P) (b:=⟨⟨p⟩⟩) N L he w;obtain⟨inf,V,Y⟩:∃ inf,P.info? e=some inf/\inf.size=1:=by
      unfold F7 at B;cases hi:P.info? e with
      | none=>rw[hi]at B;cases B
      | some inf=>rw[hi]at B;exact⟨inf,rfl,A5 B⟩
     have aw:ByteArray.size ⟨⟨p⟩⟩=p.length:=rfl;rw[aw]at c1 c4;obtain⟨ρ2,q1,q2⟩:=y7 (w':={ w.drew with heap:=w.heap.push (.cells C e (C.size,C.size+1)) }) (cap:=cap) (C:=C) q.hr hb d (by simpa using(Q.less (A6 _)).step f) r1 rfl V Y (by rw[dZ];exact c1) A9
      ((BF (R:=lg.G) p).move (o':=0) fun i hi=>by
        rw[dZ]at hi;have D:i<(M7 p).length:=by simp[M7];omega
        rw[D8,c3 i (M7 p)[i] (A4 D)];simp[D]) K (fun i hi hh=>by have:=hh.1;simp only at this;omega) ⟨rfl,rfl,rfl⟩ rfl
     rw[dZ]at q1;exact⟨⟨_,ρ2,_,c4,q1,St.trans Q q q2⟩,by rw[mn.2.1,<- mj.2.1];exact⟨[_],rfl⟩⟩
    .cases d
   .cases d
  .cases d
 .cases d
def KW(hu:P.underlying t=some (.slice e))(hi:P.info? e=some inf)(n:inf.bytes<=90000)(h0:0<inf.size)(h:∀ w,(zeroValue e).run P w=.ok z w)(hk:k<=uD)(w:World) :
  (Instr.makeSlice t (.int .i64 (Int.ofNat k)) (.int .i64 (Int.ofNat k))).run P w=.ok (.slice (some ⟨w.heap.size,0,none⟩) k k) { w with heap:=w.heap.push (.cells ((Array.range (k*inf.size)).map (z.cells[· % z.cells.size]!)) e (0,0)) }:=by
 have hk:k<=1000000000:=hk;have r:F7 P e=some inf.size:=by simp[F7,hi]
 have wl:IntKind.i64.wrap (Int.ofNat k)=Int.ofNat k:=lO .i64 k (by simp only[EQ];omega);have hm:k*inf.bytes<=1000000000*90000:=iU hk n;have a:(askRoom (k*inf.bytes)).run P w=.ok () w:=by
  unfold askRoom roomBytes;rw[B1 A9];rfl
 have d:((inf.bytes:Int)*(k:Int))=((k*inf.bytes:Nat):Int):=by rw[U1];simp
 unfold Instr.makeSlice;simp only[A3,C8 hu,asInt,asIntOf,Result.andThen,Sem.run_pure,R6 hi,wl];rw[B1]
 .have p:(Int.ofNat k).toNat=k:=by simp
  simp only[A3,Sem.run_pure,Result.andThen,p,a,J1 r];by_cases f:k*inf.size=0
  .have q:∀ z:Q0,Array.map (fun x=>z[x%z.size]!) (Array.range (k*inf.size))=⟨[]⟩:=fun z=>by rw[f];apply H7;simp
   simp only[B2 f,q];rfl
  .simp only[B1 f,A3,Sem.run_pure,Result.andThen,h];rfl
 .have u:Int.ofNat k=(k:Int):=rfl;simp only[u,d];simp;omega
def MH{R:Nat->Option Obj}{s:Nat}(h0:0<s)(n:z.cells.size=s)(p:LR ρ z.cells.toList z.cells.toList)(q:∀ v ∈ z.cells.toList,F5 v<10):M3 R (List.replicate k (z.cells.toList.map (D4 Ora.env))) s ((Array.range (k*s)).map (z.cells[· % z.cells.size]!)) 0:=by
 have he:=nH (R:=R) p q;refine⟨fun row hr=>?_,fun r row j u v g1 g2 g3=>?_⟩
 .rw[(List.mem_replicate.1 hr).2];simp[n]
 .have hr:=(A7.1 g1).1;rw[List.length_replicate]at hr;rw[List.getElem?_replicate,B2 hr]at g1;cases g1;have f:=(A7.1 g2).1;simp only[E8,O9]at f;rw[n]at f;have hm:(r*s+j)%s=j:=by rw[U1,Nat.mul_add_mod,Nat.mod_eq_of_lt f]
  have d:r*s+j<k*s:=by
   have:(r+1)*s<=k*s:=E4 s hr;rw[G1,dG]at this;omega
  rw[D8,Array.getElem?_map,Array.getElem?_range,B2 d]at g3;simp only[I3,C7,n,hm]at g3;have a:j<z.cells.size:=A9;rw[getElem!_pos z.cells j a]at g3;refine he.2 j u v g2 ?_;rw[M8,E0 a,g3]
def PK{l c:Value}(h:HR P base ρ m.H w)(M:base<=w.heap.size)(a:CL P m t l c=some (v,m'))(C:I2 ρ m.n m'.hi)(R:VR ρ l l')(S:VR ρ c c')(O:Sat m'.lg):VOk P base ρ m w (Instr.makeSlice t l' c') v m'/\m.lg.le m'.lg:=by
 unfold CL at a;split at a
 .rename_i e i ti j tj hu;obtain⟨d,A⟩:=A2 a;clear a;obtain⟨d,h3⟩:=B3 d;obtain⟨h1,F⟩:=B3 d;have h1:=A0 h1;have F:=A0 F;have h3:=A0 h3;subst h1 F h3;have a:=A;clear A;split at a
  .rename_i inf hi;obtain⟨d,a⟩:=A2 a;obtain⟨u,f⟩:=B3 d;have u:=A1 u;have f:0<inf.size:=A1 f;split at a
   .rename_i z K;obtain⟨d,a⟩:=A2 a;obtain⟨p,r⟩:=B3 d;have p:=A0 p;have r:∀ v ∈ z.cells.toList,F5 v<10:=fun v L=>A1 (D2.1 r v L)
    split at a
    .rename_i g m1 I;rw[L7]at a;simp only[hole]at a;have a:u5 (m1.wLg (cR m1 (10+inf.size) (.rep inf.size) (hole i 3::z.cells.toList))) m1.lg.nx (10+inf.size) e g=some (v,m'):=a;have Q:=L2 I;have E:=e9 a;simp only[EN,Y2,MP]at E;obtain⟨D,lg,G,T,W,N,X,Z⟩:=cD h I (C.less A9);have B:St P base ρ D m (m1.wLg (cR m1 (10+inf.size) (.rep inf.size) (hole i 3::z.cells.toList))) w w:=St.trans (C.less (by simp;omega)) G (St.wLg G.hr _);obtain⟨k,n,rfl,f1,f2⟩:=K5 (v:=hole i 3) R (show(3:Nat)<8 by decide);obtain⟨k2,V,rfl,f3,f4⟩:=K5 (v:=hole i 3) S (show(3:Nat)<8 by decide);rw[f1]at f3;cases f3;obtain⟨r1,r2,nul,wd,rows,J,Y⟩:=fW (m:=m1) (t:=10+inf.size) (op:=.rep inf.size) (xs:=hole i 3::z.cells.toList) (lg:=m'.lg) O (by rw[Y2,E.2.1];exact .refl _);have r1:Ora.env m1.lg.nx=evU (.rep inf.size) (D4 Ora.env (hole i 3)::z.cells.toList.map (D4 Ora.env)):=r1;rw[f1]at r1;have hk:k=.i64:=by
      have f2:(3:Nat)=eF k:=f2;cases k<;>first|rfl|(exfalso;revert f2;decide)
     subst hk;cases n with
     | negSucc q=>rw[J]at r1;cases r1
     | ofNat q =>
       have r1:Ora.env m1.lg.nx=if(z.cells.toList.map (D4 Ora.env)).length=inf.size/\q<=uD then .seq false inf.size (List.replicate q (z.cells.toList.map (D4 Ora.env)))else .none:=r1
       by_cases d:(z.cells.toList.map (D4 Ora.env)).length=inf.size/\q<=uD
       .rw[B2 d]at r1;obtain⟨ρ2,q1,q2⟩:=y7 (w':={ w with heap:=w.heap.push (.cells ((Array.range (q*inf.size)).map (z.cells[· % z.cells.size]!)) e (0,0)) }) (cap:=q) (fz:=(0,0)) B.hr M a (by simpa using(C.less (A6 _)).step G) r1 rfl hi rfl (by simp) (by simp)
         (MH (ρ:=ρ) f p (lM K) r) N (fun i hi hh=>by have:=hh.2;simp only at this;omega) ⟨rfl,rfl,rfl⟩ rfl
        rw[List.length_replicate]at q1;exact⟨⟨_,ρ2,_,KW hu hi u f (fun w=>n9 K w) d.2 w,q1,St.trans C B q2⟩,by rw[E.2.1,<- Q.2.1];exact⟨[_],rfl⟩⟩
       .rw[B1 d,J]at r1;cases r1
    .cases a
   .cases a
  .cases a
 .cases a
end
end
section
open Go
variable [Ora]
section
variable {P:Program} {base:Nat} {ρ ρ':Ren} {m m':Mem} {w w':World}
def IB{t:Nat}(h:Q2 m 8 .nilp [hole i t]=some (v,m'))(hi:Ora.env i=.seq nul wd rows)(p:Sat m'.lg):VR ρ v (.bool nul)/\I1 m m'/\m.lg.le m'.lg:=by
 obtain⟨u,d,A,r,n,f,q⟩:=K3 h p;have a:[hole i t].map (D4 Ora.env)=[.seq nul wd rows]:=by
  show[Ora.env i]=_;rw[hi]
 rw[a]at d;have d:U.bool nul=u:=d;subst d;cases n;exact⟨f ρ,G0 h,G3 h⟩
def vX{x y:Operand}{a:Option Addr}{n:Nat}(hu:P.underlying t=some (.slice e))(A:(a=none/\n=0/\c=0/\nul=true)∨(nul=false/\∃ q:Addr,a=some q/\n<=c))(p:op=.eql∨op=.neq)(w:World) :
  (do eqGuard op t x y (.slice a n c) (.slice none 0 0);binOp op t (.slice a n c) (.slice none 0 0):Sem Value).run P w=.ok (.bool (if op=.eql then nul else !nul)) w:=by
 have key:∀ {ρ:Ren} {am:Value},VR ρ am (.slice a n c)->iF P t x y am (.slice none 0 0)=true->nP P .eql t am (.slice none 0 0)=some (.bool nul)->nP P .neq t am (.slice none 0 0)=some (.bool !nul) ->
   (do eqGuard op t x y (.slice a n c) (.slice none 0 0);binOp op t (.slice a n c) (.slice none 0 0):Sem Value).run P w=.ok (.bool (if op=.eql then nul else !nul)) w:=fun{ρ am} u r h1 C=>by
  have f:VR ρ (.slice none 0 0) (.slice none 0 0):=.pure rfl;have h:=mY (op:=op) (fun _=>r) u f w;rcases p with rfl|rfl
  .obtain⟨g1,_⟩:=rF h1 u f w;simp[A3,h,g1,Result.andThen]
  .obtain⟨g1,_⟩:=rF C u f w;simp[A3,h,g1,Result.andThen]
 rcases A with⟨rfl,rfl,rfl,rfl⟩|⟨rfl,q,rfl,D⟩
 .refine key (ρ:=fun _=>none) (am:=.slice none 0 0) (.pure rfl) rfl ?_ ?_
  .simp[nP,wA,eqM,hu]
  .simp[nP,wA,eqM,hu]
 .obtain⟨d,B⟩:∃ d,Op.maxDepth=d+1:=⟨Op.maxDepth-1,rfl⟩;have he:∀ w,(Op.equal t (.slice (some q) n c) (.slice none 0 0)).run P w=.ok false w:=fun w=>by
   rw[Op.equal,B];simp[Op.equalIn,A3,C8 hu,Result.andThen]
  have r:∀ o:BinOp,(eqGuard o t x y (.slice (some q) n c) (.slice none 0 0)).run P w=.ok () w:=fun o=>by
   unfold eqGuard;cases o<;>rfl
  rcases p with rfl|rfl
  .rw[A3,r];show(do pure (.bool (<- Op.equal t (.slice (some q) n c) (.slice none 0 0))):Sem Value).run P w=_;rw[A3,he];rfl
  .rw[A3,r];show(do pure (.bool (!(<- Op.equal t (.slice (some q) n c) (.slice none 0 0)))):Sem Value).run P w=_;rw[A3,he];rfl
def UK{x y:Operand}{a a' b:Value}(D:PE P m op t x y a b=some (v,m'))(K:VR ρ a a')(O:VR ρ b b')(H:Sat m'.lg) :
  (∃ r,(do eqGuard op t x y a' b';binOp op t a' b':Sem Value).run P w=.ok r w/\VR ρ v r)/\I1 m m'/\m.lg.le m'.lg:=by
 unfold PE at D;split at D
 .rename_i e k S i M hu;obtain⟨f,d⟩:=A2 D;clear D;obtain⟨f,hk⟩:=B3 f;obtain⟨f,N⟩:=B3 f;have J:b'=.slice none 0 0:=by
   unfold QD at f;split at f
   .exact M9 O
   .cases f
  subst J;obtain⟨nul,wd,rows,A,n,c,C,rfl,L⟩:∃ nul wd rows A n c,Ora.env i=.seq nul wd rows/\a'=.slice A n c/\((A=none/\n=0/\c=0/\nul=true)∨(nul=false/\∃ q:Addr,A=some q/\n<=c)):=by
   have h:∀ {l:Loc},Enc l.G (Ora.env i) a'->F3 (Ora.env i)=M->10<=M->∃ nul wd rows A n c,Ora.env i=.seq nul wd rows/\a'=.slice A n c/\((A=none/\n=0/\c=0/\nul=true)∨(nul=false/\∃ q:Addr,A=some q/\n<=c)):=fun p h3 B=>by
    obtain⟨nul,wd,rows,C,_⟩:=dC p h3 B;rw[C]at p;rcases l7 p with⟨rfl,rfl,rfl⟩|⟨rfl,q,c,rfl,R⟩
    .exact⟨_,_,_,_,_,_,C,rfl,.inl ⟨rfl,rfl,rfl,rfl⟩⟩
    .exact⟨_,_,_,_,_,_,C,rfl,.inr ⟨rfl,q,rfl,R⟩⟩
   rcases(F8 _ _).mp hk with hk|hk
   .rcases(F8 _ _).mp hk with hk|hk
    .have:=A0 hk;subst this;obtain⟨l,_,p,h3,B⟩:=jO K;exact h p h3 B
    .have:=A0 hk;subst this;obtain⟨l,_,p,h3,B,_⟩:=cY K;exact h p h3 B
   .have:=A0 hk;subst this;rcases(x9 K).1 with⟨l,wd,h1,p,h3,rfl⟩|⟨l,wd,rows,h1,p,h3,B,F,rfl⟩
    .exact⟨_,_,_,_,_,_,h3,rfl,.inl ⟨rfl,rfl,rfl,rfl⟩⟩
    .exact⟨_,_,_,_,_,_,h3,rfl,.inr ⟨rfl,_,rfl,F⟩⟩
  split at d
  .rename_i r E;cases d;obtain⟨g1,g2,g3⟩:=IB (ρ:=ρ) E C H;exact⟨⟨_,vX hu L (.inl rfl) w,g1⟩,g2,g3⟩
  .rename_i hh m1 E;have hle:=G3 d;obtain⟨g1,g2,g3⟩:=IB (ρ:=ρ) E C (H.le hle);obtain⟨u,f1,f2,r,f3,f4,f5⟩:=K3 d H;obtain⟨rfl,Q⟩:=fA E;have I:D4 Ora.env (hole m.lg.nx 8)=.bool nul:=by
    obtain⟨q1,_⟩:=m9 g1 (by show(8:Nat)<10;omega);cases f:D4 Ora.env (hole m.lg.nx 8)with
    | bool b=>rw[f]at q1;cases q1;rfl
    | int k n=>rw[f]at q1;cases q1
    | str s=>rw[f]at q1;cases q1
    | none=>rw[f]at q1;cases q1
    | seq _ _ _=>rw[f]at q1;cases q1
   have f1:ev1 .not (D4 Ora.env (hole m.lg.nx 8))=u:=f1;rw[I]at f1;have f1:U.bool (!nul)=u:=f1;subst f1;cases f3;exact⟨⟨_,vX hu L (.inr rfl) w,f4 ρ⟩,g2.trans (G0 d),g3.trans hle⟩
  .cases d
 .cases D
def A0d{fr:Fr}{g:Operand->Value}{o:Oper}(h:HR P base ρ m.H w)(D:base<=w.heap.size)(d:dsM P fr m o.op=some (v,m'))(A:I2 ρ m.n m'.hi)(J:FR ρ fr g o.op)(f:Sat m'.lg):NOk P base ρ m w (execOp g o) v m':=by
 obtain⟨dst,op,ty,pos,I,K⟩:=o;simp only at d J;have a:∀ {x},x ∈ op.operands.toList->VR ρ (ev fr x) (g x):=fun B=>J _ B
 have fin:∀ {s:Sem Value},(∃ r,s.run P w=.ok r w/\VR ρ v r)->I1 m m'->NOk P base ρ m w (do pure (.value (<- s))) v m':=fun{s} ⟨r,h1,M⟩ ⟨lg,N⟩=>by
  subst N;exact NOk.of ⟨r,ρ,w,h1,M,St.wLg h lg⟩
 unfold dsM at d;split at d
 .rename_i t x y;exact NOk.of (PK h D d A (a (x:=x) (by simp[Op.operands])) (a (x:=y) (by simp[Op.operands])) f).1
 .rename_i t x;obtain⟨g1,g2,_⟩:=PN (w:=w) h d (a (x:=x) (by simp[Op.operands])) f;exact fin (s:=Instr.loadAt t (g x)) g1 g2
 .rename_i t x y;obtain⟨g1,rfl,_⟩:=KO h d A (a (x:=x) (by simp[Op.operands])) (a (x:=y) (by simp[Op.operands])) f;exact NOk.ofU (s:=Instr.storeAt t (g x) (g y)) g1
 .rename_i t x i;obtain⟨g1,g2,_⟩:=CX (w:=w) d (a (x:=x) (by simp[Op.operands])) (a (x:=i) (by simp[Op.operands])) f;exact fin (s:=Instr.indexAt t (g x) (g i)) g1 g2
 .rename_i s x i;obtain⟨g1,rfl⟩:=DN (w:=w) d (a (x:=x) (by simp[Op.operands]));exact fin (s:=Instr.fieldAt s (g x) i) g1 (.refl _)
 .rename_i t x lo hi mx;obtain⟨g1,_⟩:=KQ h d A (a (x:=x) (by simp[Op.operands])) (fE (g:=g) fun y p=>a (by simp[Op.operands]at p ⊢;exact .inr (.inl p))) (fE (g:=g) fun y p=>a (by simp[Op.operands]at p ⊢;exact .inr (.inr (.inl p)))) (fE (g:=g) fun y p=>a (by simp[Op.operands]at p ⊢;exact .inr (.inr (.inr p)))) f;exact NOk.of (s:=Instr.sliceAt t (g x) (lo.map g) (hi.map g) (mx.map g)) g1
 .rename_i s t x;exact NOk.of (RH h D d A (a (x:=x) (by simp[Op.operands])) f).1
 .rename_i op t x y O;obtain⟨g1,g2,_⟩:=UK (w:=w) d (a (x:=x) (by simp[Op.operands])) (a (x:=y) (by simp[Op.operands])) f;exact fin (s:=do eqGuard op t x y (g x) (g y);binOp op t (g x) (g y)) g1 g2
 .rename_i xs tys;have l1:=aR (ρ:=ρ) (fr:=fr) (g:=g) (xs:=xs.toList) fun x B=>a (by show x ∈ (#[]++xs:Array Operand).toList;simpa using B)
  split at d
  .rename_i x t rest u q;rw[u]at l1;obtain⟨x',r1,F,q1,q2⟩:=l1.tail
   have:=q2.nil_inv;subst this;obtain⟨g1,g2,_⟩:=UU (w:=w) (ty:=ty) (tys:=rest) d q1 f;obtain⟨ks,C⟩:∃ ks,execOp g ⟨dst,.call ⟨.builtin .len,xs,tys⟩,ty,pos,I,K⟩=builtin .len tys ty ks (xs.map g):=⟨#[],rfl⟩;have G:xs.map g=⟨xs.toList.map g⟩:=by apply H7;simp
   have E:tys=⟨t::rest⟩:=by rw[<- q]
   rw[C,G,F,E];exact fin (s:=Builtin.len_ ⟨t::rest⟩ ty #[x']) g1 g2
  .cases d
 .rename_i xs tys;have l1:=aR (ρ:=ρ) (fr:=fr) (g:=g) (xs:=xs.toList) fun x B=>a (by show x ∈ (#[]++xs:Array Operand).toList;simpa using B)
  split at d
  .rename_i x y t t2 rest u q;rw[u]at l1;obtain⟨x',r1,F,q1,q2⟩:=l1.tail;obtain⟨y',r2,L,q3,q4⟩:=q2.tail
   have:=q4.nil_inv;subst this
   have:=GV (ty:=ty) h D d A q1 q3 f;obtain⟨ks,C⟩:∃ ks,execOp g ⟨dst,.call ⟨.builtin .append,xs,tys⟩,ty,pos,I,K⟩=builtin .append tys ty ks (xs.map g):=⟨#[],rfl⟩;have G:xs.map g=⟨xs.toList.map g⟩:=by apply H7;simp
   have E:tys=⟨t::t2::rest⟩:=by rw[<- q]
   rw[C,G,F,L,E];have e:Builtin.append_ ⟨t::t2::rest⟩ ty #[x',y']=Builtin.append_ #[t,t2] ty #[x',y']:=rfl;refine NOk.of (s:=Builtin.append_ ⟨t::t2::rest⟩ ty #[x',y']) ?_;rw[e];exact this
  .cases d
 .cases d
def dA{wd o i t g:Nat}{z:Value}:∀ {d:F9} {j:Nat} {m m':Mem} {r:D0},U6 wd o i t z g d j m=some (r,m')->m.lg.le m'.lg
 | [],j,m,m',r,h=>by cases h;exact .refl _
 | tg::d,j,m,m',r,h=>by
   unfold U6 at h;cases a:Nat.blt tg 10 with
   | true =>
     rw[a]at h;simp only[D7]at h;split at h
     .rename_i f;split at h
      .rename_i hr;cases h;exact(G3 f).trans (dA hr)
      .cases h
     .cases h
   | false =>
     rw[a]at h;simp only[D3]at h;rw[CQ]at h;split at h
     .rename_i hr;cases h;exact S1.trans (dA hr)
     .cases h
def yA{r:Option (D0×Mem)}(h:iO P t r=some (v,m')):∃ vs,r=some (vs,m'):=by
 unfold iO at h;split at h
 .cases h;exact⟨_,rfl⟩
 .cases h;exact⟨_,rfl⟩
 .cases h
def PO(a:CP P m t x=some (v,m')):m.lg.le m'.lg:=by
 unfold CP at a;split at a
 .obtain⟨_,a⟩:=A2 a;obtain⟨vs,h⟩:=yA a;exact dA h
 .split at a
  .obtain⟨_,a⟩:=A2 a;obtain⟨vs,h⟩:=yA a;exact dA h
  .cases a
 .cases a
def KP(a:rW P m t x y=some (v,m')):m.lg.le m'.lg:=by
 unfold rW at a;split at a
 .cases d:fC y with
  | true=>rw[d]at a;cases a
  | false =>
    rw[d]at a;simp only[D3]at a;split at a
    .rename_i p;split at a
     .obtain⟨_,a⟩:=A2 a;split at a
      .rename_i f;rw[L7]at a;simp only[hole]at a;obtain⟨n,_⟩:=jJ a;have md:=P2 R5 p;have q:=L2 f;refine md.2.1.trans ?_;rw[(R2 n).2,<- q.2.1];simp only[Y2];exact⟨[_],rfl⟩
      .cases a
     .cases a
    .cases a
 .cases a
def VB{t:Nat}{k:Value}(h:CZ m i t z k=some (v,m')):m.lg.le m'.lg:=by
 unfold CZ at h;cases a:!(Nat.blt (F5 z) 8)with
 | true=>rw[a]at h;cases h
 | false =>
   rw[a]at h;simp only[D3]at h;split at h
   .rename_i f;split at h
    .rename_i d;cases h;exact(G3 f).trans (cJ d)
    .cases h
   .cases h
def CY(h:iE P m t x z=some (v,m')):m.lg.le m'.lg:=by
 unfold iE at h;split at h;all_goals first
  | (split at h
     .obtain⟨_,h⟩:=A2 h;exact VB h
     .cases h;done)
  | (split at h
     .obtain⟨_,h⟩:=A2 h;rw[E1]at h;cases h;exact .refl _
     .cases h;done)
  | cases h
def DO{f:Nat}(h:iI P m s x f=some (v,m')):m.lg.le m'.lg:=by
 unfold iI at h;split at h;all_goals first
  | (split at h
     .split at h
      .obtain⟨_,h⟩:=A2 h;rw[E1]at h;cases h;exact .refl _
      .cases h
     .cases h;done)
  | cases h
def zU{t:Nat}(a:DT m b i t cl lo hi mx=some (v,m')):m.lg.le m'.lg:=by
 have go:∀ {m1:Mem} {l h:Value} {f:Bool},dD m1 b i t l h f=some (v,m')->m1.lg.le m'.lg:=fun h=>by
  unfold dD at h;obtain⟨_,h⟩:=A2 h;rw[L7]at h;simp only[C7,J0]at h;obtain⟨_,rfl⟩:=h;exact S1
 unfold DT DS at a;split at a
 .exact go a
 .exact go (A2 a).2
 .split at a
  .rename_i d;exact(v8 d).2.trans (go a)
  .cases a
 .cases a
def KR(a:rY P m t x lo hi mx=some (v,m')):m.lg.le m'.lg:=by
 unfold rY at a;split at a
 .split at a
  .exact zU (A2 a).2
  .cases a
 .split at a
  .exact zU (A2 a).2
  .cases a
 .split at a
  .obtain⟨_,a⟩:=A2 a;split at a
   .rename_i d;exact(dT d).2.1.trans (zU a)
   .cases a
  .cases a
 .cases a
def RI(a:DV P m s t x=some (v,m')):m.lg.le m'.lg:=by
 unfold DV at a;split at a
 .split at a
  .split at a
   .exact G3 (A2 a).2
   .cases a
  .cases a
 .split at a
  .split at a
   .rename_i n;rw[CT]at a;have f:=G3 a;exact(dT n).2.1.trans f
   .cases a
  .cases a
 .obtain⟨_,a⟩:=A2 a;split at a
  .split at a
   .split at a
    .rename_i d;rw[L7]at a;simp only[hole]at a;have p:=L2 d;rw[(e9 a).2.1,Y2,<- p.2.1];exact⟨[_],rfl⟩
    .cases a
   .cases a
  .cases a
 .cases a
def UL{x y:Operand}{a b:Value}(f:PE P m op t x y a b=some (v,m')):m.lg.le m'.lg:=by
 unfold PE at f;split at f
 .obtain⟨_,d⟩:=A2 f;clear f;split at d
  .rename_i n;cases d;exact G3 n
  .rename_i n;exact(G3 n).trans (G3 d)
  .cases d
 .cases f
def PL{l c:Value}(a:CL P m t l c=some (v,m')):m.lg.le m'.lg:=by
 unfold CL at a;split at a
 .obtain⟨_,a⟩:=A2 a;split at a
  .obtain⟨_,a⟩:=A2 a;split at a
   .obtain⟨_,a⟩:=A2 a;split at a
    .rename_i d;rw[L7]at a;simp only[hole]at a;have f:=L2 d;rw[(e9 a).2.1,Y2,<- f.2.1];exact⟨[_],rfl⟩
    .cases a
   .cases a
  .cases a
 .cases a
def A0e{fr:Fr}{o:Op}(a:dsM P fr m o=some (v,m')):m.lg.le m'.lg:=by
 unfold dsM at a;split at a
 .exact PL a
 .exact PO a
 .exact KP a
 .exact CY a
 .exact DO a
 .exact KR a
 .exact RI a
 .exact UL a
 .split at a
  .unfold UV at a;split at a
   .exact(v8 a).2
   .exact(v8 a).2
   .exact(v8 a).2
   .cases a
  .cases a
 .split at a
  .exact(AF a).2.1
  .cases a
 .cases a
end
end
end Go.Sx
