import Derived.Test.YtdimocjaepnifaaGreatDoorX3
set_option linter.all false
set_option maxRecDepth 100000
set_option maxHeartbeats 4000000
namespace Go.Sx
variable {rows rows2:List (List U)}{b c cap g i j k o o' sh wd:Nat}{e s t t2 ty:TypeId}{inf:TypeInfo}{fz:Nat×Nat}{b' c' l' v x x' y y' z:Value}{l:Loc}{g0 gs:I9}{cl nul sure:Bool}{d2 ds:TypeDesc}{bh:Beh}{cs cs' new' vs:D6}{td:Td}{row us:List U}{hi lo mx:W4}{op:BinOp}
section
open Go
variable [Ora]
section
variable {P:Program} {base:Nat} {ρ ρ':Ren} {m m':Mem} {w w':World}
def T5.move{R:Nat->Option Obj}{C C':r7}(h:T5 R rows wd C o)(n:∀ i,i<rows.length*wd->C'[o'+i]? = C[o+i]?):T5 R rows wd C' o':=by
 refine⟨h.1,fun r row j u v a a2 a3=>h.2 r row j u v a a2 ?_⟩;have f:=(B3.1 a).1;have d:=(B3.1 a2).1;rw[h.1 _ (E6 a)]at d;have p:(r+1)*wd<=rows.length*wd:=G8 wd f;rw[J4]at p
 have:=n (r*wd+j) A0;rw[show o+r*wd+j=o+(r*wd+j) by omega,<- this,show o'+(r*wd+j)=o'+r*wd+j by omega];exact a3
def T5.append{R:Nat->Option Obj}{C:r7}(h:T5 R rows wd C o)(k:T5 R rows2 wd C (o+rows.length*wd)):T5 R (rows++rows2) wd C o:=by
 refine⟨fun row hr=>(B5.1 hr).elim (h.1 row) (k.1 row),fun r row j u v a a2 a3=>?_⟩;rcases G7 r rows.length with d|d
 .rw[F8 d]at a;exact h.2 r row j u v a a2 a3
 .rw[E9 d]at a;refine k.2 (r-rows.length) row j u v a a2 ?_;have:rows.length*wd+(r-rows.length)*wd=r*wd:=by rw[<- J4];congr 1;omega
  rw[show o+rows.length*wd+(r-rows.length)*wd+j=o+r*wd+j by omega];exact a3
def B4j{t:Nat}{T:TypeId}{lg:Loc}{C:r7}(p:Ora.env c=.seq false wd rows)(r:t=10+wd)(hi:P.info? T=some inf)(u:inf.size=wd)(f:rows.length<=cap)(d:sh+cap*wd<=C.size)
  (a:T5 lg.G rows wd C sh) (q:ρ g=some lg) (hw:w.heap[b]? = some (.cells C T fz)) (n:∀ i,i<C.size->¬ (fz.1<=i/\i<fz.2)):BR P ρ (.sq c t T g false) ⟨b,sh,cap,rows.length,fun _=>none,true⟩ w :=
 ⟨⟨wd,inf,r,hi,u,.inr ⟨rfl,C,fz,T,rows,lg,hw,p,rfl,f,d,a.1,q,a.2,fun _=>⟨rfl,n⟩⟩⟩⟩
def fG{t:Nat}{T:TypeId}{lg:Loc}{C:r7}(h:HR P base ρ m.H w)(J:base<=w.heap.size)(A:bO m c t T g=some (v,m'))(B:M8 ρ m.n m'.hi)
  (r:Ora.env c=.seq false wd rows) (u:t=10+wd) (hi:P.info? T=some inf) (I:inf.size=wd) (a:rows.length<=cap) (p:cap*wd<=C.size) (f:T5 lg.G rows wd C 0) (D:ρ g=some lg) (q:∀ i,i<C.size->¬ (fz.1<=i/\i<fz.2))
  (K:w'.os=w.os/\w'.tape=w.tape/\w'.output=w.output) (hh:w'.heap=w.heap.push (.cells C T fz)):∃ ρ',VR ρ' v (.slice (some ⟨w.heap.size,0,none⟩) rows.length cap)/\St P base ρ ρ' m m' w w':=by
 have d:ρ m.n=none:=by
  obtain⟨_,_,rfl⟩:=N1 A;exact B m.n (B0 _) (L9 _ _).2
 obtain⟨rfl,F,E⟩:=St.alloc (w':=w') (l:=⟨w.heap.size,0,cap,rows.length,fun _=>none,true⟩) h J A B K hh rfl (B4j r u hi I a A0 f (u5 d _ _ D) (by rw[hh];simp) q);exact⟨_,.own (.inr ⟨_,wd,rows,F,rfl,r,rfl,a,rfl⟩) (by rw[r];exact u.symm) rfl,E⟩
def tN{t id:Nat}{T:TypeId}{ab:AB}{lg:Loc}{C:r7}(h:HR P base ρ m.H w)(hle:id<=J0)(E:Hp.get m.H id=some ab)(F:ab.rw=true)(S:ρ id=some l)(r:l.on=true)
  (I:bO (oG m id) c t T g=some (v,m')) (J:M8 ρ m.n m'.hi)
  (D:Ora.env c=.seq false wd rows) (K:t=10+wd) (hi:P.info? T=some inf) (Q:inf.size=wd) (a:rows.length<=cap) (d:sh+cap*wd<=C.size) (q:T5 lg.G rows wd C sh) (L:ρ g=some lg) (A:∀ i,i<C.size->¬ (fz.1<=i/\i<fz.2))
  (N:w'.os=w.os/\w'.tape=w.tape/\w'.output=w.output) (B:w'.heap.size=w.heap.size) (R:∀ k,k≠l.blk->w'.heap[k]? = w.heap[k]?) (hw:w'.heap[l.blk]? = some (.cells C T fz)) :
  ∃ ρ',VR ρ' v (.slice (some ⟨l.blk,sh,none⟩) rows.length cap)/\St P base ρ ρ' m m' w w':=by
 have p:ρ m.n=none:=by
  have f:=I;unfold bO at f;rw[bP]at f;obtain⟨_,_,rfl⟩:=N1 f;exact J m.n (B0 _) (L9 _ _).2
 obtain⟨rfl,O,M⟩:=St.move (w':=w') (l':=⟨l.blk,sh,cap,rows.length,fun _=>none,true⟩) h hle E F S I J (fun _=>⟨r,rfl⟩) N B (fun k u=>R k (u r)) (B4j D K hi Q a d q (u5 p _ _ L) hw A) (fun h=>by cases h);exact⟨_,.own (.inr ⟨_,wd,rows,O,rfl,D,rfl,a,rfl⟩) (by rw[D];exact K.symm) rfl,M⟩
def A5J:Loc:=⟨0,0,0,0,fun _=>none,false⟩
def JJ{t:Nat}{T:TypeId}{old:Option Nat}(h:HR P base ρ m.H w)(hold:∀ b,old=some b->∃ ab l,b<=J0/\Hp.get m.H b=some ab/\ab.rw=true/\ρ b=some l/\l.on=false)
  (A:bO (oF old m) c t T g=some (v,m')) (B:M8 ρ m.n m'.hi) (a:Ora.env c=.seq true wd []) (u:t=10+wd) (hi:P.info? T=some inf) (C:inf.size=wd):∃ ρ',VR ρ' v (.slice none 0 0)/\St P base ρ ρ' m m' w w:=by
 have d:∀ ρ':Ren,BR P ρ' (.sq c t T g false) A5J w:=fun ρ'=>⟨⟨wd,inf,u,hi,C,.inl ⟨rfl,a⟩⟩⟩
 cases old with
 | none =>
   obtain⟨rfl,r,p⟩:=St.new0 (l':=A5J) h A B (d _) rfl fun q f=>by
    rcases f with⟨_,f,_⟩|⟨f,_⟩<;>cases f
   exact⟨_,.own (.inl ⟨_,wd,r,rfl,a,rfl⟩) (by rw[a];exact u.symm) rfl,p⟩
 | some b =>
   obtain⟨ab,l,h1,E,h3,D,F⟩:=hold b rfl;obtain⟨rfl,r,p⟩:=St.move (w':=w) (l':=A5J) h h1 E h3 D A B (fun h=>by cases h) ⟨rfl,rfl,rfl⟩ rfl (fun _ _=>rfl) (d _) (fun h=>by cases h);exact⟨_,.own (.inl ⟨_,wd,r,rfl,a,rfl⟩) (by rw[a];exact u.symm) rfl,p⟩
def yD(h:HR P base ρ m.H w)(a:oH gs m=some (g,m'))(u:M8 ρ m.n m'.hi)(d:ρ j=some l):Hp.get m'.H j=Hp.get m.H j:=by
 have main:∀ {gs:I9},(bif gs.all (qF m)then match iR m fun b m=>some (undef,b,m)with
  | some (_,b,m)=>some (b,m)
  | none=>none else none)=some (g,m')->Hp.get m'.H j=Hp.get m.H j:=fun{gs} a=>by
  obtain⟨h1,a⟩:=A6 a;split at a
  .rename_i r b m1 q;cases a;obtain⟨m2,f,p,_⟩:=U3 q;cases p;rw[pR f (h.dom j l d),A3];intro e;subst e;obtain⟨_,_,rfl⟩:=N1 f;rw[u m.n (B0 _) (L9 _ _).2]at d;cases d
  .cases a
 unfold oH at a;split at a
 .obtain⟨h1,a⟩:=A6 a;cases a;rfl
 .exact main a
def Q3(a:oH gs m=some (g,m')):m.hi<=m'.hi/\m'.lg=m.lg/\m.n<=m'.n:=by
 have main:∀ {gs:I9},(bif gs.all (qF m)then match iR m fun b m=>some (undef,b,m)with
  | some (_,b,m)=>some (b,m)
  | none=>none else none)=some (g,m')->m.hi<=m'.hi/\m'.lg=m.lg/\m.n<=m'.n:=fun{gs} a=>by
  obtain⟨h1,a⟩:=A6 a;split at a
  .rename_i r b m1 p;cases a;obtain⟨m2,f,d,_⟩:=U3 p;cases d;obtain⟨_,_,rfl⟩:=N1 f;exact⟨(L9 _ _).1,rfl,t8 _⟩
  .cases a
 unfold oH at a;split at a
 .obtain⟨h1,a⟩:=A6 a;cases a;exact⟨B0 _,rfl,B0 _⟩
 .exact main a
def C1o(nul:Bool)(wd:Nat)(rows:List (List U)):List (List U)->U
 | []=>.seq nul wd rows
 | r0::r=>.seq false wd (rows++r0::r)
def US(h:∃ n w r,qT nul wd rows rows2=.seq n w r):rows.length+rows2.length<=BD/\qT nul wd rows rows2=C1o nul wd rows rows2:=by
 by_cases a:rows.length+rows2.length<=BD
 .refine⟨a,?_⟩;unfold qT;rw[A4 a];cases rows2<;>rfl
 .unfold qT at h;rw[A3 a]at h;obtain⟨_,_,_,h⟩:=h;cases h
def A0Q{old:Option Nat} 
  (hu:P.underlying t=some (.slice e)) (R:P.underlying t2=some d2) (T:fV d2=true) (hi:P.info? e=some inf) (hz:jR P e=some z) (af:z.cells.size=inf.size) (bq:inf.bytes<=90000)
  (h:HR P base ρ m.H w) (hb:base<=w.heap.size) (E:SA m e inf.size c old bh (g0++gs)=some (v,m')) (hf:M8 ρ m.n m'.hi) (hS:Sat m'.lg)
  (ak:A7h P base ρ m w e inf.size c g0 old x') (d:A2i P ρ w inf.size bh gs y' rows2 new'):VOk P base ρ m w (Builtin.append_ #[t,t2] ty #[x',y']) v m':=by
 unfold SA at E;split at E
 .rename_i g m1 hj;rw[S9]at E;have bl:=Q3 hj;generalize bo:jM m1 (10+inf.size) (gD inf.size (hole c (10+inf.size)) bh).1 (gD inf.size (hole c (10+inf.size)) bh).2=lg1 at E;have ag:m'.lg=lg1/\m1.hi<=m'.hi/\m1.n<=m'.n:=by
   unfold bO at E;cases old with
   | none =>
     simp only[oF]at E;obtain⟨_,_,rfl⟩:=N1 E;exact⟨by simp,by simpa using(L9 m1.hi m1.n).1,by simp⟩
   | some b =>
     simp only[oF,bP]at E;obtain⟨_,_,rfl⟩:=N1 E;exact⟨by simp,by simpa using(L9 m1.hi m1.n).1,by simp⟩
  have al:M8 ρ m.n m1.hi:=hf.less ag.2.1;obtain⟨M,lg,e1,e2,e3,e4,e5,e6⟩:=iX h hj al;have q:St P base ρ M m (m1.wLg lg1) w w:=St.trans (by simpa using al) e1 (St.wLg e1.hr lg1);have F:M8 M (m1.wLg lg1).n m'.hi:=by simpa using hf.step e1
  have bs:Sat (m1.wLg lg1).lg:=by simpa [<- ag.1]using hS
  obtain⟨nul,rows,hc,hx⟩:=ak.ex;obtain⟨d1,d2,nx,bn,rws,d3,d4⟩:=oK (m:=m1) (t:=10+inf.size) (op:=(gD inf.size (hole c (10+inf.size)) bh).1) (xs:=(gD inf.size (hole c (10+inf.size)) bh).2) (lg:=lg1) (by simpa using bs) (by rw[x3,bo];exact .refl _);rw[d.ev c nul rows hc]at d1;obtain⟨ar,bx⟩:=US ⟨nx,bn,rws,d1.symm.trans d3⟩;rw[bx]at d1;have bj:∀ b ∈ g0,∀ l,ρ b=some l->Sub l.G lg.G:=fun b Z l hl=>e6 b (B5.2 (.inl Z)) l hl
  have bt:∀ b ∈ gs,∀ l,ρ b=some l->Sub l.G lg.G:=fun b Z l hl=>e6 b (B5.2 (.inr Z)) l hl
  have aq:=d.rows lg.G bt;have B:∀ {v':Value} {ρ2:Ren} {w2:World},(Builtin.append_ #[t,t2] ty #[x',y']).run P w=.ok v' w2->VR ρ2 v v'->St P base M ρ2 (m1.wLg lg1) m' w w2->VOk P base ρ m w (Builtin.append_ #[t,t2] ty #[x',y']) v m':=fun hr hv hs =>
   ⟨_,_,_,hr,hv,St.trans hf q hs⟩
  have bw:∀ w,(zeroValue e).run P w=.ok z w:=fun w=>dB hz w
  have au:∀ {j l},ρ j=some l->Hp.get (m1.wLg lg1).H j=Hp.get m.H j:=fun bp=>by rw[oV];exact yD h hj al bp
  have K:(3*(rows.length+rows2.length)+4000)*inf.bytes<=281474976710656:=by
   have h1:3*(rows.length+rows2.length)+4000<=3000004000:=by unfold BD at ar;omega
   have h2:=qZ h1 bq;omega
  have X:rows.length+rows2.length<=1000000000:=ar;rcases hx with⟨rfl,rfl,rfl,hold⟩|⟨rfl,b,ab,l,cap,C,fz,rfl,aj,br,Y,bz,ah,rfl,I,ax,S,W,ai⟩
  ·
   have Q:∀ b,old=some b->∃ ab l,b<=J0/\Hp.get (m1.wLg lg1).H b=some ab/\ab.rw=true/\M b=some l/\l.on=false:=fun b Z=>by
    obtain⟨ab,l,J,N,q3,q4,q5⟩:=hold b Z;exact⟨ab,l,J,by rw[au q4];exact N,q3,e1.ext _ _ q4,q5⟩
   cases f:rows2 with
   | nil =>
     subst f;have D:Ora.env m1.lg.nx=.seq true inf.size []:=d1;obtain⟨ρ2,J,N⟩:=JJ q.hr Q E F D rfl hi rfl;have an:new'=[]:=D5.1 (by rw[d.size];simp);exact B (zG hu R T hi (fun wd=>d.len wd) (by have:=d.first w rfl;rw[an]at this;exact this)) J N
   | cons r0 rr =>
     rw[f]at d1;have D:Ora.env m1.lg.nx=.seq false inf.size rows2:=by rw[f];exact d1
     obtain⟨nc,az,p⟩:=lN (P:=P) (w:=w) (ty:=ty) (a:=none) (n:=0) (c:=0) (k:=rows2.length) (old':=[]) (new':=new') (x':=y') hu R T hi bw (fun wd=>d.len wd) (fun _ _=>rfl) (fun wd hw=>d.first wd hw) (by rw[f];simp) (by simpa using K) (by simpa using X);obtain⟨m2,bk,ay⟩:∃ m2,bO m2 m1.lg.nx (10+inf.size) e g=some (v,m')/\St P base M M (m1.wLg lg1) m2 w w:=by
      cases old with
      | none=>exact⟨_,E,St.refl q.hr⟩
      | some b =>
        obtain⟨ab,l,J,N,q3,q4,q5⟩:=Q b rfl;exact⟨_,E,St.kill q.hr J N q3⟩
     obtain⟨ρ2,J,N⟩:=fG (w':={ w.drew with heap:=w.heap.push (.cells (({ toList:=[] }:Array Value)++⟨new'⟩++Builtin.zeroCells z.cells (nc-(0+rows2.length))) e (0,0)) }) (cap:=nc) ay.hr hb bk (F.step ay) D rfl hi rfl A0
      (by have:=gY (s:=inf.size) (k:=rows2.length) (n:=0) (nc:=nc) (z:=z) (old':=[]) d.size az af (by simp);exact this)
      (aq.move (C':=({ toList:=[] }:Array Value)++⟨new'⟩++Builtin.zeroCells z.cells (nc-(0+rows2.length))) (o':=0) fun i hi'=>by
        have bu:i<new'.length:=by rw[d.size];exact hi'
        rw[G0 i];rw[TQ (A7 bu)];simp[bu]) (ay.ext _ _ e4) (fun i _ hh=>by have h1:0<=i:=hh.1;have h2:i<0:=hh.2;omega) ⟨rfl,rfl,rfl⟩ rfl
     exact B p (by rw[G0];exact J) (St.trans F ay N)
  ·
   have ao:Hp.get (m1.wLg lg1).H b=some ab:=by rw[au bz];exact br
   have r:=ai lg.G bj;have av:=e1.ext _ _ bz;cases f:rows2 with
   | nil =>
     subst f;have D:Ora.env m1.lg.nx=.seq false inf.size rows:=d1;have an:new'=[]:=D5.1 (by rw[d.size];simp);obtain⟨ρ2,J,N⟩:=tN (w':=w) (cap:=cap) (sh:=l.sh) q.hr aj ao Y av ah E F D rfl hi rfl ax S r e4 W ⟨rfl,rfl,rfl⟩ rfl (fun _ _=>rfl) I;have p:=rT (P:=P) (w:=w) (w':=w) (ty:=ty) (a:=⟨l.blk,l.sh,none⟩) (n:=rows.length) (k:=0) (c:=cap) (new':=new') hu R T hi (fun wd=>d.len wd) (d.first w rfl) A0 (by rw[an];rfl);exact B p J N
   | cons r0 rr =>
     have D:Ora.env m1.lg.nx=.seq false inf.size (rows++rows2):=by rw[f]at d1 ⊢;exact d1
     by_cases L:rows.length+rows2.length<=cap
     .have aw:(rows.length+rows2.length)*inf.size<=cap*inf.size:=G8 _ L;rw[J4]at aw;obtain⟨w',r1,r2,r3,r4,r5⟩:=aF (P:=P) (b:=l.blk) (o:=rows.length*inf.size+l.sh) (fz:=fz) new' 0 C w I d.flat (by rw[d.size];omega) W;have aa:(Addr.mk l.blk l.sh none).add (rows.length*inf.size)=⟨l.blk,rows.length*inf.size+l.sh,none⟩:=by
       unfold Addr.add;split
       .rename_i h0;rw[h0];simp
       .simp[oA]
      have p:=rT (P:=P) (w:=w) (w':=w') (ty:=ty) (a:=⟨l.blk,l.sh,none⟩) (n:=rows.length) (k:=rows2.length) (c:=cap) (new':=new') hu R T hi (fun wd=>d.len wd) (d.first w rfl) L (by rw[aa];exact r1);have V:(Array.mk (fF C.toList (rows.length*inf.size+l.sh+0) new')).size=C.size:=by simp[aJ]
      have ad:∀ j,(Array.mk (fF C.toList (rows.length*inf.size+l.sh+0) new'))[j]? = if rows.length*inf.size+l.sh<=j/\j<rows.length*inf.size+l.sh+new'.length then new'[j-(rows.length*inf.size+l.sh)]? else C[j]? := fun j=>by
       rw[M3,pN _ _ _ _ (by simp;rw[d.size];omega)];simp
      obtain⟨ρ2,J,N⟩:=tN (w':=w') (cap:=cap) (sh:=l.sh) (C:=⟨fF C.toList (rows.length*inf.size+l.sh+0) new'⟩) q.hr aj ao Y av ah E F D rfl hi rfl (by simpa using L) (by rw[V];exact S)
       (T5.append (r.move (o':=l.sh) fun i hi'=>by rw[ad,A3 A0]) (aq.move (o':=l.sh+rows.length*inf.size) fun i hi'=>by
         rw[ad,A4 (by rw[d.size];omega),show l.sh+rows.length*inf.size+i-(rows.length*inf.size+l.sh)=i by omega,G0];simp)) e4 (by rw[V];exact W) r2 r3 r5 r4
      rw[B1]at J;exact B p J N
     .have hold:∃ old',old'.length=rows.length*inf.size/\(∀ i,i<rows.length*inf.size->old'[i]? = C[l.sh+i]?)/\∀ wd:World,wd.heap=w.heap->(Builtin.firstCells inf.size rows.length (.slice (some ⟨l.blk,l.sh,none⟩) rows.length cap)).run P wd=.ok ⟨old'⟩ wd:=by
       have aw:rows.length*inf.size<=cap*inf.size:=G8 _ ax;have hlen:((C.toList.drop l.sh).take (rows.length*inf.size)).length=rows.length*inf.size:=by simp;omega
       refine⟨(C.toList.drop l.sh).take (rows.length*inf.size),hlen,fun i hi'=>?_,fun wd hw=>?_⟩
       .rw[G4 hi',J7];simp
       .rw[show Builtin.firstCells inf.size rows.length (.slice (some ⟨l.blk,l.sh,none⟩) rows.length cap)=loadCells ⟨l.blk,l.sh,none⟩ (rows.length*inf.size)from rfl];refine N7 hlen fun j v' hj=>?_
        have ae:=(B3.1 hj).1;rw[hlen]at ae;rw[G4 ae,J7]at hj;rw[eM hw];have bm:C[l.sh+j]? = some v':=by simpa using hj
        simp[World.cell?,I,bm]
      obtain⟨old',o1,o2,o3⟩:=hold;obtain⟨nc,az,p⟩:=lN (P:=P) (w:=w) (ty:=ty) (a:=some ⟨l.blk,l.sh,none⟩) (n:=rows.length) (c:=cap) (k:=rows2.length) (old':=old') (new':=new') (x':=y') hu R T hi bw (fun wd=>d.len wd) o3 (fun wd hw=>d.first wd hw) L K X;have A:=St.kill q.hr aj ao Y;obtain⟨ρ2,J,N⟩:=fG (w':={ w.drew with heap:=w.heap.push (.cells (({ toList:=old' }:Array Value)++⟨new'⟩++Builtin.zeroCells z.cells (nc-(rows.length+rows2.length))) e (0,0)) }) (cap:=nc) A.hr hb E (F.step A) D rfl hi rfl (by simpa using az)
       (gY d.size az af o1)
       (T5.append (r.move (C':=({ toList:=old' }:Array Value)++⟨new'⟩++Builtin.zeroCells z.cells (nc-(rows.length+rows2.length))) (o':=0) fun i hi'=>by
         have O:i<old'.length:=by rw[o1];exact hi'
         rw[G0 i,<- o2 i hi',gZ (u:=old'[i]) (by rw[F8 O,A7 O]),A7 O]) (aq.move (o':=0+rows.length*inf.size) fun i hi'=>by
         have O:i<new'.length:=by rw[d.size];exact hi'
         rw[G0 (rows.length*inf.size),G0 i,gZ (u:=new'[i]) (by rw[E9 (by rw[o1];omega),o1,r8,A7 O])];simp[O])) (A.ext _ _ e4) (fun i _ hh=>by have h1:0<=i:=hh.1;have h2:i<0:=hh.2;omega) ⟨rfl,rfl,rfl⟩ rfl
      rw[B1]at J;exact B p J (St.trans F A N)
 .cases E
end
end
section
open Go
variable [Ora]
section
variable {P:Program} {base:Nat} {ρ ρ':Ren} {m m':Mem} {w w':World}
def A8c{a:Addr} 
  (hu:P.underlying t=some (.slice e)) (W:P.underlying t2=some d2) (X:fV d2=true) (hi:P.info? e=some inf) (hz:jR P e=some z) (R:z.cells.size=inf.size) (Y:inf.bytes<=90000)
  (h:HR P base ρ m.H w) (hb:base<=w.heap.size) (q:SA m e inf.size c none bh (b::gs)=some (v,m')) (Z:M8 ρ m.n m'.hi) (hS:Sat m'.lg)
  (hc:Ora.env c=.seq false inf.size rows) (hl:ρ b=some l) (B:Enc l.G (Ora.env c) (.slice (some a) rows.length rows.length)) (d:A2i P ρ w inf.size bh gs y' rows2 new') (p:rows2≠[]) :
  VOk P base ρ m w (Builtin.append_ #[t,t2] ty #[.slice (some a) rows.length rows.length,y']) v m':=by
 unfold SA at q;split at q
 .rename_i g m1 O;rw[S9]at q;have aw:=Q3 O;generalize az:jM m1 (10+inf.size) (gD inf.size (hole c (10+inf.size)) bh).1 (gD inf.size (hole c (10+inf.size)) bh).2=lg1 at q;have q:bO (m1.wLg lg1) m1.lg.nx (10+inf.size) e g=some (v,m'):=q;have E:m'.lg=lg1/\m1.hi<=m'.hi/\m1.n<=m'.n:=by
   unfold bO at q;obtain⟨_,_,rfl⟩:=N1 q;exact⟨by simp,by simpa using(L9 m1.hi m1.n).1,by simp⟩
  have K:M8 ρ m.n m1.hi:=Z.less E.2.1;obtain⟨I,lg,N,e2,e3,e4,e5,e6⟩:=iX h O K;have A:St P base ρ I m (m1.wLg lg1) w w:=St.trans (by simpa using K) N (St.wLg N.hr lg1);have ax:M8 I (m1.wLg lg1).n m'.hi:=by simpa using Z.step N
  have T:Sat (m1.wLg lg1).lg:=by simpa [<- E.1]using hS
  obtain⟨d1,d2,nx,ay,rws,d3,d4⟩:=oK (m:=m1) (t:=10+inf.size) (op:=(gD inf.size (hole c (10+inf.size)) bh).1) (xs:=(gD inf.size (hole c (10+inf.size)) bh).2) (lg:=lg1) (by simpa using T) (by rw[x3,az];exact .refl _);rw[d.ev c false rows hc]at d1;obtain⟨C,M⟩:=US ⟨nx,ay,rws,d1.symm.trans d3⟩;rw[M]at d1;have au:Sub l.G lg.G:=e6 b (.head _) l hl;have S:∀ b ∈ gs,∀ l,ρ b=some l->Sub l.G lg.G:=fun b ar l hl=>e6 b (.tail _ ar) l hl
  have Q:=d.rows lg.G S;have av:∀ w,(zeroValue e).run P w=.ok z w:=fun w=>dB hz w
  have r:(3*(rows.length+rows2.length)+4000)*inf.bytes<=281474976710656:=by
   have h1:3*(rows.length+rows2.length)+4000<=3000004000:=by unfold BD at C;omega
   have h2:=qZ h1 Y;omega
  have D:rows.length+rows2.length<=1000000000:=C;have aq:0<rows2.length:=O1.2 p;have V:Ora.env m1.lg.nx=.seq false inf.size (rows++rows2):=by
   cases rows2 with
   | nil=>exact absurd rfl p
   | cons r0 rr=>exact d1
  rw[hc]at B;obtain⟨_,old',F,o2,o3,o4⟩:=yP (w:=w) (B.mono au) ((N.hr.atl e4 e5).1.2);have o5:∀ wd:World,wd.heap=w.heap->(Builtin.firstCells inf.size rows.length (.slice (some a) rows.length rows.length)).run P wd=.ok ⟨old'⟩ wd:=fun wd hw=>by
   rw[show Builtin.firstCells inf.size rows.length (.slice (some a) rows.length rows.length)=loadCells a (rows.length*inf.size)from rfl];exact pX F fun j v' O=>by rw[eM hw];exact o4 j v' O
  obtain⟨nc,L,J⟩:=lN (P:=P) (w:=w) (ty:=ty) (a:=some a) (n:=rows.length) (c:=rows.length) (k:=rows2.length) (old':=old') (new':=new') (x':=y') hu W X hi av (fun wd=>d.len wd) o5 (fun wd hw=>d.first wd hw) A0 r D;obtain⟨ρ2,q1,q2⟩:=fG (w':={ w.drew with heap:=w.heap.push (.cells (({ toList:=old' }:Array Value)++⟨new'⟩++Builtin.zeroCells z.cells (nc-(rows.length+rows2.length))) e (0,0)) }) (cap:=nc) A.hr hb q ax V rfl hi rfl (by simpa using L)
   (gY d.size L R F)
   (T5.append (o3.move (C':=({ toList:=old' }:Array Value)++⟨new'⟩++Builtin.zeroCells z.cells (nc-(rows.length+rows2.length))) (o':=0) fun i hi'=>by
     have f:i<old'.length:=by rw[F];exact hi'
     rw[G0 i,gZ (u:=old'[i]) (by rw[F8 f,A7 f])];simp[f]) (Q.move (o':=0+rows.length*inf.size) fun i hi'=>by
     have f:i<new'.length:=by rw[d.size];exact hi'
     rw[G0 (rows.length*inf.size),G0 i,gZ (u:=new'[i]) (by rw[E9 (by rw[F];omega),F,r8,A7 f])];simp[f])) e4 (fun i _ hh=>by have h1:0<=i:=hh.1;have h2:i<0:=hh.2;omega) ⟨rfl,rfl,rfl⟩ rfl
  rw[B1]at q1;exact⟨_,_,_,J,q1,St.trans Z A q2⟩
 .cases q
def A2d(d:GS P td)(a:A7G td P m e wd y=some (bh,gs,sure,m')):m.hi<=m'.hi/\m.lg.le m'.lg/\m.n<=m'.n:=by
 unfold A7G at a;split at a
 .cases a;exact⟨B0 _,.refl _,B0 _⟩
 .split at a
  .split at a
   .rename_i f;cases a;exact S2 d f
   .cases a
  .cases a
 .split at a
  .rename_i f;cases a;exact d.mono f
  .cases a
 .obtain⟨h1,a⟩:=A6 a;cases a;exact⟨B0 _,.refl _,B0 _⟩
def nV(d:GS P td){old:Option Nat}(a:KZ td P m e wd x=some (c,gs,old,m')):m.hi<=m'.hi/\m.lg.le m'.lg/\m.n<=m'.n:=by
 unfold KZ at a;split at a
 .rw[S9]at a;simp only[hole]at a;cases a;exact⟨by simp,p7,by simp⟩
 .split at a
  .obtain⟨h1,a⟩:=A6 a;cases a;exact⟨B0 _,.refl _,B0 _⟩
  .cases a
 .split at a
  .obtain⟨h1,a⟩:=A6 a;split at a
   .rename_i f;split at a
    .obtain⟨h1,a⟩:=A6 a;rw[S9]at a;simp only[hole]at a;cases a
     have:=S2 d f;exact⟨by simpa using this.1,this.2.1.trans p7,by simpa using this.2.2⟩
    .cases a
   .cases a
  .cases a
 .cases a
def cE{t:Nat}{T:TypeId}(h:bO m c t T g=some (v,m')):m.hi<=m'.hi/\m'.lg=m.lg/\m.n<=m'.n:=by
 unfold bO at h;obtain⟨_,_,rfl⟩:=N1 h;exact⟨(L9 _ _).1,rfl,t8 _⟩
def eE(old:Option Nat)(m:Mem):(oF old m).hi=m.hi/\(oF old m).lg=m.lg/\(oF old m).n=m.n:=by
 cases old with
 | none=>exact⟨rfl,rfl,rfl⟩
 | some b=>simp[oF,bP]
def rV{old:Option Nat}(d:SA m e wd c old bh gs=some (v,m')):m.hi<=m'.hi/\m.lg.le m'.lg/\m.n<=m'.n:=by
 unfold SA at d;split at d
 .rename_i g m1 r;rw[S9]at d;have a:=Q3 r;have b:=cE d;obtain⟨p,q,f⟩:=eE old (m1.wLg (jM m1 (10+wd) (gD wd (hole c (10+wd)) bh).1 (gD wd (hole c (10+wd)) bh).2));refine⟨?_,?_,?_⟩
  .have:=b.1;rw[p]at this;simp at this;omega
  .rw[b.2.1,q,<- a.2.1];exact p7
  .have:=b.2.2;rw[f]at this;simp at this;omega
 .cases d
def XK{t:Nat}{T:TypeId}{old:Option Nat}(h:HR P base ρ m.H w)(hold:∀ b,old=some b->b<=J0/\Hp.get m.H b≠some .frz)(f:bO (oF old m) c t T g=some (v,m'))(r:M8 ρ m.n m'.hi):bQ ρ m m':=fun j l h1 a=>by
 have p:=eE old m;unfold bO at f;rw[pR f (h.dom j l h1),A3]
 .cases old with
  | none=>exact a
  | some b =>
    show Hp.get (oG m b).H j=_;rw[bP];show Hp.get (m.H.set b none) j=_;obtain⟨q,d⟩:=hold b rfl;rw[F5 _ _ _ _ q (h.dom j l h1),A3]
    .exact a
    .intro e;subst e;exact d a
 .intro e;obtain⟨_,_,rfl⟩:=N1 f;rw[p.2.2]at e;subst e;rw[r m.n (B0 _) (jJ (Nat.le_of_eq p.2.2.symm) (L9 (oF old m).hi (oF old m).n).2)]at h1;cases h1
omit [Ora] in
def WP(h:P.info? e=some inf):I4 P e=some inf.size:=by unfold I4;rw[h]
def rX(f:GS P td)(d:SH td P m e wd x=some (v,m')):m.hi<=m'.hi/\m.lg.le m'.lg/\m.n<=m'.n:=by
 unfold SH at d;split at d
 .obtain⟨_,d⟩:=A6 d;split at d
  .rename_i p;have a:=nV f p;split at d
   .rename_i q;have b:=Q3 q;have c:=cE d;refine⟨?_,?_,?_⟩
    .have:=c.1;rw[(eE _ _).1]at this;omega
    .rw[c.2.1,(eE _ _).2.1,b.2.1];exact a.2.1
    .have:=c.2.2;rw[(eE _ _).2.2]at this;omega
   .cases d
  .cases d
 .cases d
def NB(X:GS P td)(h:HR P base ρ m.H w)(d:SH td P m e wd x=some (v,m'))(Z:M8 ρ m.n m'.hi)(hx:VR ρ x x')(hS:Sat m'.lg) :
  ∃ ρ',VR ρ' v x'/\St P base ρ ρ' m m' w w/\m.lg.le m'.lg/\bQ ρ m m':=by
 unfold SH at d;split at d
 .rename_i inf hi;obtain⟨h1,d⟩:=A6 d;obtain⟨h1,h2⟩:=C5 h1;have h1:=A1 h1;have h2:0<wd:=A2 h2;split at d
  .rename_i c gs old m1 N;have a:=nV X N;split at d
   .rename_i g m2 hj;have b:=Q3 hj;have cm:=cE d;have k1:=eE old m2;have V:m'.lg=m1.lg:=by rw[cm.2.1,k1.2.1,b.2.1]
    have D:m2.hi<=m'.hi:=by have:=cm.1;rw[k1.1]at this;exact this
    obtain⟨Q,E,e2,e3,e4⟩:=VF X h N (Z.less (B9 b.1 D)) hx (by rw[<- V];exact hS) h2 (h1▸WP hi);have q:M8 Q m1.n m'.hi:=Z.step E;obtain⟨ρ2,lg,u,j2,j3,j4,j5,j6⟩:=iX E.hr hj (q.less D);have I:M8 ρ2 m2.n m'.hi:=q.step u;obtain⟨nul,rows,hc,aw⟩:=e4.ex;have A:∀ {j l},Q j=some l->Hp.get m2.H j=Hp.get m1.H j:=fun ax=>yD E.hr hj (q.less D) ax
    have hle:m.lg.le m'.lg:=by rw[V];exact a.2.1
    have f:(∀ b,old=some b->b<=J0/\Hp.get m2.H b≠some .frz)->bQ ρ m m':=fun hq=>(e3.trans E.ext j3).trans (fun b l N=>u.ext b l (E.ext b l N)) (XK u.hr hq d I)
    rcases aw with⟨rfl,rfl,rfl,hold⟩|⟨rfl,b0,ab,l,cap,C,fz,rfl,Y,ay,B,W,az,rfl,J,R,F,T,O⟩
    .have p:∀ b,old=some b->∃ ab l,b<=J0/\Hp.get m2.H b=some ab/\ab.rw=true/\ρ2 b=some l/\l.on=false:=fun b r=>by
      obtain⟨ab,l,L,M,q3,q4,q5⟩:=hold b r;exact⟨ab,l,L,by rw[A q4];exact M,q3,u.ext _ _ q4,q5⟩
     obtain⟨K,L,M⟩:=JJ u.hr p d I hc rfl hi h1;exact⟨K,L,St.trans Z E (St.trans q u M),hle,f fun b r=>by
      obtain⟨ab,l,L,M,q3,_⟩:=p b r;exact⟨L,fun he=>by rw[M]at he;cases he;cases q3⟩⟩
    .have S:Hp.get m2.H b0=some ab:=by rw[A W];exact ay
     obtain⟨K,L,M⟩:=tN (w':=w) (cap:=cap) (sh:=l.sh) u.hr Y S B (u.ext _ _ W) az d I hc rfl hi h1 R F (O lg.G fun b N l hl=>j6 b N l hl) j4 T ⟨rfl,rfl,rfl⟩ rfl (fun _ _=>rfl) J;exact⟨K,L,St.trans Z E (St.trans q u M),hle,f fun b r=>by
      cases r;exact⟨Y,fun he=>by rw[S]at he;cases he;cases B⟩⟩
   .cases d
  .cases d
 .cases d
def ZI:∀ (d:Nat),GS P (A27 P d)
 | 0=>A28
 | d+1=>by
   have u:=ZI d;refine⟨fun{base ρ m m' w t v v' x b} h f p A r=>?_,fun{m m' t v x b} f=>?_⟩
   .unfold A27 at f;split at f
    .split at f
     .split at f
      .rename_i B m1 q;have a:=lI f;obtain⟨F,D,n,C,E⟩:=NB u h q (p.less a.1) A (r.le a.2.1);obtain⟨ρ2,l,d1,d2,d3,d4,d5,d6⟩:=LS n.hr f (p.step n) D r;exact⟨ρ2,l,St.trans p n d1,d2,d3,d4,d5,C.trans d6,E.trans n.ext (QA n.hr f (p.step n))⟩
      .cases f
     .cases f
    .exact A28.ok h f p A r
   .unfold A27 at f;split at f
    .split at f
     .split at f
      .rename_i B m1 q;have a:=rX u q;have b:=lI f;exact⟨B9 a.1 b.1,a.2.1.trans b.2.1,B9 a.2.2 b.2.2⟩
      .cases f
     .cases f
    .exact lI f
def U7:GS P (tdP P):=ZI 3
def PC(d:xG P m t t2 x y=some (v,m')):m.hi<=m'.hi/\m.lg.le m'.lg/\m.n<=m'.n:=by
 unfold xG at d;split at d
 .rename_i e d2 hu r;cases p:fV d2 with
  | false=>rw[p]at d;cases d
  | true =>
    rw[p]at d;simp only[V8,E8]at d;split at d
    .obtain⟨_,d⟩:=A6 d;split at d
     .rename_i f;have a:=A2d U7 f;split at d
      .rename_i q;have b:=nV U7 q;have c:=rV d;exact⟨A0,a.2.1.trans (b.2.1.trans c.2.1),A0⟩
      .split at d
       .obtain⟨_,d⟩:=A6 d;have c:=rV d;exact⟨A0,a.2.1.trans c.2.1,A0⟩
       .cases d
     .cases d
    .cases d
 .cases d
def A2i.step(h:A2i P ρ w wd bh gs y' rows2 new')(n:∀ b ∈ gs,∃ l,ρ b=some l)(he:∀ b l,ρ b=some l->ρ' b=some l):A2i P ρ' w wd bh gs y' rows2 new' :=
 ⟨h.len,h.first,h.size,h.flat,fun R f=>h.rows R fun b a l d=>f b a l (he b l d),h.ev⟩
def A2k{n:Nat}(h:A2l P e n=true):∃ z,jR P e=some z/\z.cells.size=n:=by
 unfold A2l at h;split at h
 .rename_i z a;exact⟨z,a,A1 h⟩
 .cases h
def YT(h:HR P base ρ m.H w)(V:base<=w.heap.size)(p:xG P m t t2 x y=some (v,m'))(B:M8 ρ m.n m'.hi)(hx:VR ρ x x')(hy:VR ρ y y')(M:Sat m'.lg) :
  VOk P base ρ m w (Builtin.append_ #[t,t2] ty #[x',y']) v m':=by
 unfold xG at p;split at p
 .rename_i e d2 hu G;cases f:fV d2 with
  | false=>rw[f]at p;cases p
  | true =>
    rw[f]at p;simp only[V8,E8]at p;split at p
    .rename_i inf hi;obtain⟨hq,d⟩:=A6 p;clear p;obtain⟨ax,aw⟩:=C5 hq;obtain⟨ay,Y⟩:=C5 ax;have I:=A2 ay;have L:0<inf.size:=A2 Y;obtain⟨z,hz,E⟩:=A2k aw;have D:I4 P e=some inf.size:=by unfold I4;rw[hi]
     split at d
     .rename_i bh gs sure m1 C;split at d
      .rename_i c g0 old m2 Q;have mb:=nV U7 Q;have mp:=rV d;have J:M8 ρ m.n m1.hi:=B.less A0;obtain⟨A,rows2,new',u,a2,a3,a4,a5,a6⟩:=A1Z U7 h C J hy (M.le (mb.2.1.trans mp.2.1)) L D;have q:M8 A m1.n m'.hi:=B.step u;obtain⟨ρ2,W,b2,b3,b4⟩:=VF U7 u.hr Q (q.less mp.1) (hx.mono u.ext) (M.le mp.2.1) L D;obtain⟨v',r,w3,T,S,R⟩:=A0Q (ty:=ty) hu G f hi hz E I W.hr V d (q.step W) M b4 (a5.step (fun b av=>(a4 b av).2) W.ext);exact⟨v',r,w3,T,S,St.trans B (St.trans (B.less mp.1) u W) R⟩
      .split at d
       .rename_i b c tg au;obtain⟨N,F⟩:=A6 d;clear d;have N:=A1 N;have mp:=rV F;have J:M8 ρ m.n m1.hi:=B.less A0;obtain⟨A,rows2,new',u,a2,a3,a4,a5,a6⟩:=A1Z U7 h C J hy (M.le mp.2.1) L D;have q:M8 A m1.n m'.hi:=B.step u;obtain⟨l,d1,d2,d3,d4,d5⟩:=kE hx;obtain⟨nul,az,rows,X,q2⟩:=kH d2 d3 d4;have Z:az=inf.size:=A0;subst Z;rw[X]at d2;rcases cS d2 with⟨rfl,rfl,rfl⟩|⟨rfl,a,cap,rfl,hc⟩
        .have K:A7h P base A m1 w e inf.size c [b] none (.slice none 0 0):=⟨true,[],X,.inl ⟨rfl,rfl,rfl,fun b V=>by cases V⟩⟩;obtain⟨v',r,w3,T,S,R⟩:=A0Q (ty:=ty) (g0:=[b]) (gs:=gs) hu G f hi hz E I u.hr V F q M K a5;exact⟨v',r,w3,T,S,St.trans B u R⟩
        .have O:cap=rows.length:=d5;subst O;obtain⟨v',r,w3,T,S,R⟩:=A8c (ty:=ty) hu G f hi hz E I u.hr V F q M X (u.ext _ _ d1) (by rw[X];exact d2) a5 (a6 rfl);exact⟨v',r,w3,T,S,St.trans B u R⟩
       .cases d
     .cases d
    .cases p
 .cases p
end
end
section
open Go
variable [Ora]
section
variable {P:Program} {base:Nat} {ρ ρ':Ren} {m m':Mem} {w w':World}
def RU(h:o+us.length<=row.length):(EB row o us).length=row.length:=by
 unfold EB;simp;omega
def A46(h:o+us.length<=row.length):(EB row o us)[j]? = if o<=j/\j<o+us.length then us[j-o]? else row[j]? := by
 unfold EB;have a:(row.take o).length=o:=by simp;omega
 by_cases h1:j<o
 .rw[A3 A0,N5,F8 A0,G4 h1]
 .by_cases d:j<o+us.length
  .rw[A4 ⟨A0,d⟩,N5,E9 A0,a,F8 A0]
  .rw[A3 A0,E9 (by simp;omega),J7];congr 1
   simp;omega
def T5.set{R:Nat->Option Obj}{s:Nat}{C C':r7}(h:T5 R rows wd C s)(B:k<rows.length)(I:o+us.length<=wd)(he:y8 R us vs)
  (hC:∀ j,C'[j]? = if s+k*wd+o<=j/\j<s+k*wd+o+vs.length then vs[j-(s+k*wd+o)]? else C[j]?):T5 R (rows.set k (EB (rows.getD k []) o us)) wd C' s:=by
 have d:rows[k]? = some rows[k]:=A7 B;have E:rows.getD k []=rows[k]:=by rw[B4,d];rfl
 have f:rows[k].length=wd:=h.1 _ (S6 B);rw[E];refine⟨fun row hr=>?_,fun r row j u v a a2 a3=>?_⟩
 .rcases jN hr with h1|rfl
  .exact h.1 row h1
  .rw[RU A0];exact f
 .rw[hC]at a3;by_cases n:k=r
  .subst n;rw[Y2 B]at a;have a:=A9 a;subst a;have q:=(B3.1 a2).1;rw[RU A0,f]at q;rw[A46 A0]at a2;by_cases p:o<=j/\j<o+us.length
   .rw[A4 p]at a2;rw[A4 (by rw[<- he.1];omega)]at a3;exact he.2 (j-o) u v a2 (by rw[<- a3];congr 1;omega)
   .rw[A3 p]at a2;rw[A3 (by rw[<- he.1];omega)]at a3;exact h.2 k _ j u v d a2 a3
  .rw[aR n]at a;have q:=(B3.1 a2).1;rw[h.1 _ (E6 a)]at q;have G:=(B3.1 a).1;have H:=he.1;rw[A3]at a3
   .exact h.2 r row j u v a a2 a3
   .rcases G7 r k with A|F
    .have D:(r+1)*wd<=k*wd:=G8 wd A;rw[J4]at D;omega
    .have D:(k+1)*wd<=r*wd:=G8 wd A0;rw[J4]at D;omega
def A1q(h:HR P base ρ m.H w)(f:DE P m t x y=some (v,m'))(R:M8 ρ m.n m'.hi)(hx:VR ρ x x')(hy:VR ρ y y')(hS:Sat m'.lg):UOk P base ρ m w (Instr.storeAt t x' y') m'/\v=undef/\m.lg.le m'.lg:=by
 unfold DE at f;split at f
 .rename_i b i tg z o ts ak;cases D:nL y with
  | true=>rw[D]at f;cases f
  | false =>
  rw[D]at f;simp only[E8]at f;split at f
  .rename_i xs gs m1 hd;split at f
   .rename_i c tc T g hg;obtain⟨Q,r⟩:=A6 f;clear f;have Q:=A1 Q;split at r
    .rename_i g2 m2 hj;rw[S9]at r;simp only[hole]at r;obtain⟨hs,rfl⟩:=sC r;obtain⟨ah,Z⟩:=d8 hs;have md:=S2 U7 hd;have mj:=Q3 hj;have ag:m2.hi=m'.hi:=by rw[Z];simp
     have Y:m'.lg=jM m2 tg (.set (tg-10) o) (hole c tg::z::xs):=by rw[Z];simp[hole]
     have S:m2.lg.le m'.lg:=by rw[Y];exact⟨[_],rfl⟩
     have aq:M8 ρ m.n m1.hi:=R.less A0;have X:m1.lg.le m'.lg:=by rw[<- mj.2.1];exact S
     obtain⟨N,J,e2,e3,e4,e5,e6⟩:=mQ U7 h hd aq (hy.cells D) (hS.le X);have az:M8 N m1.n m2.hi:=(R.step J).less A0;obtain⟨ρ2,lg,d1,d2,d3,d4,d5,d6⟩:=iX J.hr hj az;obtain⟨⟨l,wd,iM,k,a1,a2,a3,a4,a5,a6,rfl⟩,a8⟩:=CC hx;have I:=J.ext _ _ a1;obtain⟨a,inf,q1,q2,q3,K⟩:=SqR.ex (J.hr.atl I hg).1;rcases K with⟨K,_⟩|⟨_,K⟩
     .rw[a2]at K;cases K
     obtain⟨C,fz,T',rows,M,f1,f2,f3,f4,f5,f6,f7,f8,f9⟩:=K;have an:a=wd:=by
      have:tg=10+wd:=by rw[<- a8,a3];rfl
      omega
     subst an;obtain⟨rfl,f10⟩:=f9 rfl;have av:tg=10+a:=A0;have al:Sat (m2.wLg (jM m2 tg (.set (tg-10) o) (hole c tg::z::xs))).lg:=by rw[x3,<- Y];exact hS
     obtain⟨r1,r2,nul,ae,rws,r3,r4⟩:=oK al (.refl _);obtain⟨kk,hz⟩:=PA a4;have B:(hole c tg::z::xs).map (E7 Ora.env)=.seq false a rows::.int kk (.ofNat k)::xs.map (E7 Ora.env):=by
      show Ora.env c::E7 Ora.env z::xs.map (E7 Ora.env)=_;rw[f2,hz]
     rw[B,show tg-10=a by omega]at r1;have r1:Ora.env m2.lg.nx=if a=a/\k<rows.length/\o+(xs.map (E7 Ora.env)).length<=a then .seq false a (rows.set k (EB (rows.getD k []) o (xs.map (E7 Ora.env))))else .none:=r1
     by_cases hc:a=a/\k<rows.length/\o+(xs.map (E7 Ora.env)).length<=a
     .rw[A4 hc]at r1;obtain⟨_,O,ax⟩:=hc;have hR:∀ b' ∈ gs,∀ l',N b'=some l'->Sub l'.G lg.G:=fun b' ai l' ar=>d6 b' (.tail _ ai) l' ar
      have d:=e6 lg.G hR;have A:Sub M.G lg.G:=d6 g (.head _) M f7;have F:y'.cells.toList.length=(xs.map (E7 Ora.env)).length:=d.1.symm;have au:(k+1)*a<=l.cap*a:=G8 a A0;rw[J4]at au;obtain⟨w',g1,aj,g3,g4,g5⟩:=aF (P:=P) (b:=l.blk) (o:=l.sh+k*a+o) (fz:=fz) y'.cells.toList 0 C w f1 (KE d) (by rw[F];omega) f10;have af:C.toList.length=C.size:=X9;have p:(Array.mk (fF C.toList (l.sh+k*a+o+0) y'.cells.toList)).size=C.size:=by simp[aJ]
      have L:∀ j,(Array.mk (fF C.toList (l.sh+k*a+o+0) y'.cells.toList))[j]? = if l.sh+k*a+o<=j/\j<l.sh+k*a+o+y'.cells.toList.length then y'.cells.toList[j-(l.sh+k*a+o)]? else C[j]? := fun j=>by
       rw[M3,pN _ _ _ _ (by rw[F];omega)];simp
      have q:T5 lg.G rows a C l.sh:=T5.mono ⟨f6,f8⟩ A;have u:St P base ρ ρ2 m (m2.wLg (jM m2 tg (.set (tg-10) o) (hole c tg::z::xs))) w w:=St.trans (R.less (by simp;omega)) (St.trans (R.less A0) J d1) (St.wLg d1.hr _);have E:Hp.get (m2.wLg (jM m2 tg (.set (tg-10) o) (hole c tg::z::xs))).H b=some (.sq c tc T' g false):=by rw[oV,yD J.hr hj az I];exact hg
      have aw:=d1.ext _ _ I;have ao:BR P ρ2 (.sq m2.lg.nx tg T' g2 false) l w':=by
       refine⟨⟨a,inf,av,q2,q3,.inr ⟨a2,_,fz,T',_,lg,g4,r1,by rw[bY];exact f3,f4,by rw[p];exact f5,(q.set O ax d L).1,d4,(q.set O ax d L).2,fun _=>⟨rfl,by rw[p];exact f10⟩⟩⟩⟩
      have W:=St.write u.hr hs E rfl aw a2 aj g3 g5 ao (fun h=>by cases h);refine⟨⟨ρ2,w',?_,St.trans R u W⟩,rfl,md.2.1.trans X⟩;have ay:=mV ak;have V:ts.length=(xs.map (E7 Ora.env)).length:=by
       have:=G2 List.length e5;rw[H3]at this;exact this.symm
      have e:y'.cells.size=ts.length:=by rw[V,<- F];simp
      simp[Instr.storeAt,Instr.sureAddr,storeVar,A8,P0 ay,Result.andThen,e,g1]
     .rw[A3 hc]at r1;rw[r1]at r3;cases r3
    .cases r
   .cases f
  .cases f
 .cases f
def A1v{lo' hi' mx':W4}(h:HR P base ρ m.H w)(a:DG P m t x lo hi mx=some (v,m'))(L:M8 ρ m.n m'.hi)(J:VR ρ x x')(q:OR ρ lo lo')(f:OR ρ hi hi')(p:OR ρ mx mx')(D:Sat m'.lg) :
  VOk P base ρ m w (Instr.sliceAt t x' lo' hi' mx') v m'/\m.lg.le m'.lg:=by
 unfold DG at a;split at a
 .rename_i e b i tg hu;split at a
  .rename_i s A;obtain⟨d,a⟩:=A6 a;have d:=A1 d;obtain⟨l,h1,I,h3,Q⟩:=sI J;obtain⟨⟨r,g1,g2⟩,⟨lg,rfl⟩,g4⟩:=OO (w:=w) hu A d h1 I h3 (fun h=>by cases h) a q f p D;exact⟨⟨r,ρ,w,g1,g2,St.wLg h lg⟩,g4⟩
  .cases a
 .rename_i e b i tg hu;split at a
  .rename_i s A;obtain⟨d,a⟩:=A6 a;have d:=A1 d;obtain⟨l,h1,I,h3,Q,N⟩:=kE J;obtain⟨⟨r,g1,g2⟩,⟨lg,rfl⟩,g4⟩:=OO (w:=w) hu A d h1 I h3 (fun _=>N) a q f p D;exact⟨⟨r,ρ,w,g1,g2,St.wLg h lg⟩,g4⟩
  .cases a
 .rename_i e b i tg hu;split at a
  .rename_i s A;obtain⟨d,a⟩:=A6 a;have d:=A1 d;split at a
   .rename_i c tc K m1 R;have u:∀ {m1:Mem},UK m1 K c tg false lo hi mx=some (v,m')->N2 m1 m'/\m1.lg.le m'.lg:=fun{m1} a=>by
     have go:∀ {m1:Mem} {l h:Value} {T:Bool},kJ m1 K c tg l h T=some (v,m')->N2 m1 m'/\m1.lg.le m'.lg:=fun h=>by
      unfold kJ at h;obtain⟨_,h⟩:=A6 h;rw[S9]at h;simp only[D9,R6]at h;obtain⟨_,rfl⟩:=h;exact⟨⟨_,rfl⟩,p7⟩
     unfold UK UJ at a;split at a
     .exact go a
     .exact go (A6 a).2
     .split at a
      .rename_i M
       have:=go a;exact⟨(eD M).1.trans this.1,(eD M).2.trans this.2⟩
      .cases a
     .cases a
    obtain⟨⟨lg,E⟩,hle⟩:=u a;have S:m1.hi=m'.hi:=by rw[E];simp
    obtain⟨C,l,F,O,Y,W,V,X⟩:=LS h R (L.less A0) J (D.le hle);have mono:∀ {o o':W4},OR ρ o o'->OR C o o':=fun{o o'} h=>by
     cases o<;>cases o'<;>first|exact trivial|exact h.elim|exact VR.mono F.ext h
    obtain⟨⟨r,g1,g2⟩,⟨G,B⟩,g4⟩:=OO (w:=w) (cl:=false) hu A d O W V (fun h=>by cases h) a (mono q) (mono f) (mono p) D;subst B;exact⟨⟨r,C,w,g1,g2,St.trans (L.less (by simp)) F (St.wLg F.hr G)⟩,X.trans g4⟩
   .cases a
  .cases a
 .cases a
end
end
section
open Go
variable [Ora]
section
variable {P:Program} {base:Nat} {ρ ρ':Ren} {m m':Mem} {w w':World}
def IP{a':Addr}{n c':Nat}{a:List Int}(q:P.underlying s=some (.slice e))(p:P.underlying t=some .string)(he:P.underlying e=some (.int .u8))(d:(loadCells a' n).run P w=.ok (a.map (Value.int .u8)).toArray w) :
  (convert s t (.slice (some a') n c')).run P w=.ok (.string ⟨⟨a.map fun n=>UInt8.ofNat n.toNat⟩⟩) w:=by
 have:=run_bytesToString w a' n c' a d;have f:=tQ a [];simp only[X4]at f;simp only[convert,A8,D8 q,D8 p,D8 he,Result.andThen];rw[this,show ByteArray.empty=ByteArray.mk ⟨[]⟩from rfl,f]
def MM{n:Nat}(d:P.underlying s=some (.slice e))(a:P.underlying t=some .string)(he:P.underlying e=some (.int .u8)):(convert s t (.slice none n c)).run P w=.ok (.string ByteArray.empty) w:=by
 simp[convert,A8,D8 d,D8 a,D8 he,Result.andThen,Conv.bytesToString]
def QX{b:ByteArray}(D:P.underlying s=some ds)(F:P.underlying t=some (.slice e))(he:P.underlying e=some (.int .u8))(w:World) :
  ∃ (cap:Nat) (C:Array Value),b.size<=cap/\C.size=cap/\(∀ (i:Nat) (u:Value),(U8 b.data.toList)[i]? = some u->C[i]? = some u)/\(convert s t (.string b)).run P w=.ok (.slice (some ⟨w.heap.size,0,none⟩) b.size cap) { w.drew with heap:=w.heap.push (.cells C e (C.size,C.size+1)) }:=by
 let q:Question:=.appendCap b.size 0 e
 let cap:=q.cut (w.tape w.drawn q)
 have d:b.size<=cap:=by show b.size<=b.size+_;omega
 have r:(choose q).run P w=.ok cap w.drew:=by
  simp only[choose,Sem.run];rw[A3 (by simp[q,Question.forced])];rfl
 let C:r7:=(b.data.map fun b=>Value.int .u8 b.toNat)++Array.replicate (cap-b.size) (.int .u8 0)
 have hC:C.size=cap:=by
  have:b.data.size=b.size:=rfl;simp[C,this];omega
 refine⟨cap,C,d,hC,fun i u hi=>?_,?_⟩
 .have B:=(B3.1 hi).1;simp[U8]at B;have n:i<(b.data.map fun b=>Value.int .u8 b.toNat).size:=by simpa using B
  show((b.data.map fun b=>Value.int .u8 b.toNat)++Array.replicate (cap-b.size) (.int .u8 0))[i]? = some u;rw[Z2 n]
  simpa [U8]using hi
 .have A:∀ w2:World,w2.heap[w.heap.size]? = some (.cells C e (0,0))->(markStringish ⟨w.heap.size,0,none⟩).run P w2=.ok () (w2.freeze { block:=w.heap.size,off:=C.size } 1):=fun w2 E=>by
   simp[markStringish,shape,freeze,Sem.run,World.shape?,E]
  have p:({ w.drew with heap:=w.heap.push (.cells C e (0,0)) }:World).freeze { block:=w.heap.size,off:=C.size } 1={ w.drew with heap:=w.heap.push (.cells C e (C.size,C.size+1)) }:=by
   unfold World.freeze;rw[A3 B8];congr 1;apply Array.ext_getElem?;intro i;rw[J1];by_cases hi:w.heap.size=i
   .subst hi;simp
   .rw[A3 hi];simp only[bJ];rw[A3 (fun h=>hi h.symm),A3 (fun h=>hi h.symm)]
  have a:(convert s t (.string b)).run P w=(Conv.stringToBytes e b).run P w:=by
   cases ds<;>simp[convert,A8,D8 D,D8 F,D8 he,Result.andThen]
  rw[a];unfold Conv.stringToBytes;simp only[A8,show(choose (.appendCap b.size 0 e)).run P w=.ok cap w.drew from r,Result.andThen];have f:(newRow e C).run P w.drew=.ok ⟨w.heap.size,0,none⟩ { w.drew with heap:=w.heap.push (.cells C e (0,0)) }:=rfl;rw[show(newRow e ((b.data.map fun b=>Value.int .u8 b.toNat)++Array.replicate (cap-b.size) (.int .u8 0))).run P w.drew=_ from f];simp only[Result.andThen];rw[A _ (by simp),p];rfl
def OV:∀ {us:List U} {s:List UInt8} {vs:D6},yS us=some s->y8 (fun k=>w.heap[k]?) us vs->∃ d:List Int,vs=d.map (Value.int .u8)/\s=d.map fun n=>UInt8.ofNat n.toNat
 | [],s,vs,h,he=>by
   cases h;have:vs=[]:=D5.1 he.1.symm;subst this;exact⟨[],rfl,rfl⟩
 | u::us,s,vs,h,he=>by
   unfold yS at h;split at h
   .rename_i heq;cases heq
   .rename_i n r heq;cases heq;split at h
    .split at h
     .rename_i l A;cases h;cases vs with
      | nil=>have:=he.1;simp at this
      | cons v vr =>
        obtain⟨d,p,f⟩:=OV (vs:=vr) A ⟨by have:=he.1;simpa using this,fun i a b h1 q=>he.2 (i+1) a b (by simpa using h1) (by simpa using q)⟩
        have:=sK (he.2 0 _ v rfl rfl) rfl;subst this;exact⟨(Int.ofNat n)::d,by rw[p];rfl,by rw[f];rfl⟩
     .cases h
    .cases h
   .cases h
def OW:∀ {rows:List (List U)} {s:List UInt8},BC rows=some s->yS (rows.flatMap id)=some s/\(rows.flatMap id).length=rows.length/\∀ (r:Nat) (row:List U) (j:Nat) (u:U),rows[r]? = some row->row[j]? = some u->j=0/\(rows.flatMap id)[r]? = some u
 | [],s,h=>by cases h;exact⟨rfl,rfl,fun r row j u h=>by simp at h⟩
 | row::rows,s,h=>by
   unfold BC at h;split at h
   .rename_i heq;cases heq
   .rename_i n r heq;cases heq;split at h
    .rename_i d;split at h
     .rename_i l B;cases h;obtain⟨h1,A,h3⟩:=OW B;refine⟨?_,by show([U.int .u8 (Int.ofNat n)]++rows.flatMap id).length=_;rw[B1,A];simp;omega,fun q row j u a a2=>?_⟩
      .simp only[kQ,id,Y6,X4,yS];rw[A4 d,h1]
      .cases q with
       | zero =>
         simp at a;subst a;cases j with
         | zero=>simp at a2;subst a2;exact⟨rfl,rfl⟩
         | succ j=>simp at a2
       | succ q =>
         obtain⟨f,p⟩:=h3 q row j u (by simpa using a) a2;exact⟨f,by simpa using p⟩
     .cases h
    .cases h
   .cases h
def vE{t:Nat}:∀ {l:D6},bM t l=true->∀ v ∈ l,I2 v=t
 | [],_,v,a=>by cases a
 | x::r,h,v,a=>by
   obtain⟨h1,d⟩:=C5 (show(Nat.beq (I2 x) t && bM t r)=true from h);rcases B7.1 a with rfl|a
   .exact A1 h1
   .exact vE d v a
def wW{R:Nat->Option Obj}(h:LR ρ cs cs')(f:∀ v ∈ cs,I2 v<10):y8 R (cs.map (E7 Ora.env)) cs':=by
 refine⟨by simp[h.1],fun i u v a a2=>?_⟩;rw[H9]at a;cases d:cs[i]? with
 | none=>rw[d]at a;cases a
 | some x =>
   rw[d]at a;have a:=A9 a;subst a;exact .sc (cZ (h.2 i x v d a2) (f x (E6 d))).1
def TE(m m1:Mem):B22 m m1=⟨m.H,m.n,m.W,m1.hi,m1.lg⟩:=by cases m;cases m1;rfl
def St.kept{ρ:Ren}{m:Mem}{w:World}{hi:Nat}{lg:Lg}(h:HR P base ρ m.H w)(hh:m.hi<=hi):St P base ρ ρ m ⟨m.H,m.n,m.W,hi,lg⟩ w w :=
 ⟨fun _ _ h=>h,fun b l h1 a=>(by rw[h1]at a;cases a),B0 _,hh,fun h=>B9 h hh,h,fun _ h=>h,fun b h1 a=>absurd h1 a,fun _ _ _=>rfl,B0 _,⟨rfl,rfl,rfl⟩,fun b l h1 a=>(by rw[h1]at a;cases a),fun _ _ _ _=>rfl,fun _ h=>.inr h⟩
def A61(h:HR P base ρ m.H w)(hb:base<=w.heap.size)(d:UO P m s t x=some (v,m'))(V:M8 ρ m.n m'.hi)(hx:VR ρ x x')(hS:Sat m'.lg):VOk P base ρ m w (convert s t x') v m'/\m.lg.le m'.lg:=by
 unfold UO at d;split at d
 .rename_i e a n c O L;split at d
  .rename_i he;split at d
   .rename_i cs hr;obtain⟨B,d⟩:=A6 d;obtain⟨u,f,e2,r,Q,M,e5⟩:=Q8 d hS;obtain⟨lg,rfl⟩:=K8 d;have q:=St.wLg h lg;have I:=vE B;have key:∀ {a' c'} {N:D6},LR ρ cs N->(loadCells a' n).run P w=.ok ⟨N⟩ w->VOk P base ρ m w (convert s t (.slice (some a') n c')) v (m.wLg lg):=fun{a' c' N} Z ax=>by
     have ay:y8 (fun k=>w.heap[k]?) (cs.map (E7 Ora.env)) N:=wW Z (fun v hv=>by rw[I v hv];omega);have J:∃ p,yS (cs.map (E7 Ora.env))=some p/\u=.str p:=by
      have f:(match yS (cs.map (E7 Ora.env))with|some s=>U.str s|none=>.none)=u:=f;split at f
      .rename_i p A;exact⟨p,A,f.symm⟩
      .subst f;cases Q
     obtain⟨p,K,rfl⟩:=J;cases Q;obtain⟨ns,r1,r2⟩:=OV (w:=w) K ay;subst r1;subst r2;exact⟨_,ρ,w,IP O L he ax,M ρ,q⟩
    refine⟨?_,L4 d⟩;rcases U4 hx with⟨l,Z,_,_,rfl⟩|⟨l,c',Z,_,_,_,_,rfl⟩|⟨a',c',_,rfl,_,rfl⟩
    .obtain⟨N,g1,g2,g3⟩:=aY h hr Z;exact key g1 (N7 g2 g3)
    .obtain⟨N,g1,g2,g3⟩:=aY h hr Z;exact key g1 (N7 g2 g3)
    .have:cs=[]:=by
      unfold cO at hr;split at hr
      .have:=(nR hr).2;simpa using this
      .cases hr
     subst this;exact key .nil (by simp[loadCells,loadCellsFrom])
   .cases d
  .cases d
 .rename_i e fn a1 a2 O L;split at d
  .rename_i he;split at d
   .rename_i hh b m1 hd;rw[TE]at d;obtain⟨u,f,e2,r,Q,M,e5⟩:=Q8 d hS;have hle:=L4 d;obtain⟨lg,rfl⟩:=K8 d;obtain⟨S,l,d1,d2,d3,d4,d5,d6⟩:=LS h hd (V.less (by simp[Mem.wLg])) hx (hS.le hle);have q:St P base ρ ρ m (Mem.wLg ⟨m.H,m.n,m.W,m1.hi,m1.lg⟩ lg) w w:=St.kept h d1.hle;obtain⟨nul,wd,rows,K,q2⟩:=kH d4 d5 A0;have aw:wd=1:=A0;subst aw;rw[K]at d4;have J:∃ p,BC rows=some p/\u=.str p:=by
     have f:evU .str [E7 Ora.env hh]=u:=f;rw[K]at f;have f:(if 1=1 then(match BC rows with|some s=>U.str s|none=>.none)else .none)=u:=f;rw[A4 rfl]at f;split at f
     .rename_i p A;exact⟨p,A,f.symm⟩
     .subst f;cases Q
    obtain⟨p,A,rfl⟩:=J;cases Q;refine⟨?_,d6.trans hle⟩;have hG:=(d1.hr.atl d2 d3).1.2;rcases cS d4 with⟨rfl,rfl,rfl⟩|⟨rfl,a,c,rfl,hc⟩
    .cases A;exact⟨_,ρ,w,MM O L he,M ρ,q⟩
    .obtain⟨_,new',g1,g2,g3,g4⟩:=yP (w:=w) d4 hG;obtain⟨k1,k2,k3⟩:=OW A;have Y:y8 (fun k=>w.heap[k]?) (rows.flatMap id) new':=by
      refine⟨by rw[k2,g1];simp,fun i u v b1 b2=>?_⟩;have E:i<rows.length:=by have:=(B3.1 b1).1;rw[k2]at this;exact this
      have au:rows[i].length=1:=g3.1 _ (S6 E);have F:rows[i]? = some rows[i]:=A7 E;have h0:rows[i][0]? = some (rows[i][0]' A0):=A7 A0;obtain⟨_,k4⟩:=k3 i _ 0 _ F h0;rw[b1]at k4;have k4:=A9 k4;rw[k4];exact(g3.2 i _ 0 _ v F h0 (by simpa using b2)).mono hG
     obtain⟨ns,r1,r2⟩:=OV (w:=w) k1 Y;subst r1;subst r2;have az:(ns.map (Value.int .u8)).length=rows.length:=by rw[g1];omega
     exact⟨_,ρ,w,IP O L he (pX az g4),M ρ,q⟩
   .cases d
  .cases d
 .rename_i y _ _ _ ds e O L;obtain⟨B,d⟩:=A6 d;have B:=A1 B;split at d
  .rename_i he;split at d
   .rename_i D;split at d
    .rename_i g m1 hj;rw[S9]at d;simp only[hole]at d;have d:bO (m1.wLg (jM m1 11 .byt [y])) m1.lg.nx 11 e g=some (v,m'):=d;have mj:=Q3 hj;have mn:=cE d;simp only[LN,x3,A2n]at mn;obtain⟨S,lg,f,e2,Q,M,e5,e6⟩:=iX h hj (V.less A0);have q:St P base ρ S m (m1.wLg (jM m1 11 .byt [y])) w w:=St.trans (V.less (by simp;omega)) f (St.wLg f.hr _);obtain⟨p,rfl,f1⟩:=eS hx B;obtain⟨r1,r2,_⟩:=oK (m:=m1) (t:=11) (op:=.byt) (xs:=[y]) (lg:=m'.lg) hS (by rw[x3,mn.2.1];exact .refl _);have r1:Ora.env m1.lg.nx=evU .byt [E7 Ora.env y]:=r1;rw[f1]at r1;have r1:Ora.env m1.lg.nx=.seq false 1 (oC p):=r1;obtain⟨cap,C,c1,c2,c3,c4⟩:=QX (P:=P) (b:=⟨⟨p⟩⟩) O L he w;obtain⟨inf,X,T⟩:∃ inf,P.info? e=some inf/\inf.size=1:=by
      unfold I4 at D;cases hi:P.info? e with
      | none=>rw[hi]at D;cases D
      | some inf=>rw[hi]at D;exact⟨inf,rfl,A9 D⟩
     have av:ByteArray.size ⟨⟨p⟩⟩=p.length:=rfl;rw[av]at c1 c4;obtain⟨ρ2,K,q2⟩:=fG (w':={ w.drew with heap:=w.heap.push (.cells C e (C.size,C.size+1)) }) (cap:=cap) (C:=C) q.hr hb d (by simpa using(V.less (B0 _)).step f) r1 rfl X T (by rw[lO];exact c1) A0
      ((RC (R:=lg.G) p).move (o':=0) fun i hi=>by
        rw[lO]at hi;have E:i<(U8 p).length:=by simp[U8];omega
        rw[G0,c3 i (U8 p)[i] (A7 E)];simp[E]) M (fun i hi hh=>by have:=hh.1;simp only at this;omega) ⟨rfl,rfl,rfl⟩ rfl
     rw[lO]at K;exact⟨⟨_,ρ2,_,c4,K,St.trans V q q2⟩,by rw[mn.2.1,<- mj.2.1];exact⟨[_],rfl⟩⟩
    .cases d
   .cases d
  .cases d
 .cases d
def A13(hu:P.underlying t=some (.slice e))(hi:P.info? e=some inf)(q:inf.bytes<=90000)(h0:0<inf.size)(h:∀ w,(zeroValue e).run P w=.ok z w)(f:k<=BD)(w:World) :
  (Instr.makeSlice t (.int .i64 (Int.ofNat k)) (.int .i64 (Int.ofNat k))).run P w=.ok (.slice (some ⟨w.heap.size,0,none⟩) k k) { w with heap:=w.heap.push (.cells ((Array.range (k*inf.size)).map (z.cells[· % z.cells.size]!)) e (0,0)) }:=by
 have f:k<=1000000000:=f;have A:I4 P e=some inf.size:=by simp[I4,hi]
 have wl:IntKind.i64.wrap (Int.ofNat k)=Int.ofNat k:=uK .i64 k (by simp only[VX];omega);have hm:k*inf.bytes<=1000000000*90000:=qZ f q;have a:(askRoom (k*inf.bytes)).run P w=.ok () w:=by
  unfold askRoom roomBytes;rw[A3 A0];rfl
 have p:((inf.bytes:Int)*(k:Int))=((k*inf.bytes:Nat):Int):=by rw[bD];simp
 unfold Instr.makeSlice;simp only[A8,D8 hu,asInt,asIntOf,Result.andThen,Sem.run_pure,j7 hi,wl];rw[A3]
 .have n:(Int.ofNat k).toNat=k:=by simp
  simp only[A8,Sem.run_pure,Result.andThen,n,a,P0 A];by_cases d:k*inf.size=0
  .have u:∀ z:r7,Array.map (fun x=>z[x%z.size]!) (Array.range (k*inf.size))=⟨[]⟩:=fun z=>by rw[d];apply L3;simp
   simp only[A4 d,u];rfl
  .simp only[A3 d,A8,Sem.run_pure,Result.andThen,h];rfl
 .have r:Int.ofNat k=(k:Int):=rfl;simp only[r,p];simp;omega
def A2j{R:Nat->Option Obj}{s:Nat}(h0:0<s)(d:z.cells.size=s)(p:LR ρ z.cells.toList z.cells.toList)(q:∀ v ∈ z.cells.toList,I2 v<10):T5 R (List.replicate k (z.cells.toList.map (E7 Ora.env))) s ((Array.range (k*s)).map (z.cells[· % z.cells.size]!)) 0:=by
 have he:=wW (R:=R) p q;refine⟨fun row hr=>?_,fun r row j u v g1 g2 g3=>?_⟩
 .rw[(List.mem_replicate.1 hr).2];simp[d]
 .have hr:=(B3.1 g1).1;rw[List.length_replicate]at hr;rw[List.getElem?_replicate,A4 hr]at g1;cases g1;have f:=(B3.1 g2).1;simp only[H3,X9]at f;rw[d]at f;have hm:(r*s+j)%s=j:=by rw[bD,Nat.mul_add_mod,O6 f]
  have n:r*s+j<k*s:=by
   have:(r+1)*s<=k*s:=G8 s hr;rw[J4,kN]at this;omega
  rw[G0,Array.getElem?_map,Array.getElem?_range,A4 n]at g3;simp only[P3,D9,d,hm]at g3;have a:j<z.cells.size:=A0;rw[getElem!_pos z.cells j a]at g3;refine he.2 j u v g2 ?_;rw[Z6,I1 a,g3]
def A5Y{l c:Value}(h:HR P base ρ m.H w)(R:base<=w.heap.size)(a:SS P m t l c=some (v,m'))(C:M8 ρ m.n m'.hi)(V:VR ρ l l')(N:VR ρ c c')(W:Sat m'.lg):VOk P base ρ m w (Instr.makeSlice t l' c') v m'/\m.lg.le m'.lg:=by
 unfold SS at a;split at a
 .rename_i e i Z j tj hu;obtain⟨d,B⟩:=A6 a;clear a;obtain⟨d,h3⟩:=C5 d;obtain⟨h1,F⟩:=C5 d;have h1:=A1 h1;have F:=A1 F;have h3:=A1 h3;subst h1 F h3;have a:=B;clear B;split at a
  .rename_i inf hi;obtain⟨d,a⟩:=A6 a;obtain⟨u,f⟩:=C5 d;have u:=A2 u;have f:0<inf.size:=A2 f;split at a
   .rename_i z L;obtain⟨d,a⟩:=A6 a;obtain⟨r,p⟩:=C5 d;have r:=A1 r;have p:∀ v ∈ z.cells.toList,I2 v<10:=fun v O=>A2 (D7.1 p v O)
    split at a
    .rename_i g m1 I;rw[S9]at a;simp only[hole]at a;have a:bO (m1.wLg (jM m1 (10+inf.size) (.rep inf.size) (hole i 3::z.cells.toList))) m1.lg.nx (10+inf.size) e g=some (v,m'):=a;have M:=Q3 I;have E:=cE a;simp only[LN,x3,A2n]at E;obtain⟨G,lg,D,e2,Y,T,e5,e6⟩:=iX h I (C.less A0);have A:St P base ρ G m (m1.wLg (jM m1 (10+inf.size) (.rep inf.size) (hole i 3::z.cells.toList))) w w:=St.trans (C.less (by simp;omega)) D (St.wLg D.hr _);obtain⟨k,n,rfl,f1,f2⟩:=S8 (v:=hole i 3) V (show(3:Nat)<8 by decide);obtain⟨k2,X,rfl,f3,f4⟩:=S8 (v:=hole i 3) N (show(3:Nat)<8 by decide);rw[f1]at f3;cases f3;obtain⟨r1,r2,nul,wd,rows,K,r4⟩:=oK (m:=m1) (t:=10+inf.size) (op:=.rep inf.size) (xs:=hole i 3::z.cells.toList) (lg:=m'.lg) W (by rw[x3,E.2.1];exact .refl _);have r1:Ora.env m1.lg.nx=evU (.rep inf.size) (E7 Ora.env (hole i 3)::z.cells.toList.map (E7 Ora.env)):=r1;rw[f1]at r1;have Q:k=.i64:=by
      have f2:(3:Nat)=lT k:=f2;cases k<;>first|rfl|(exfalso;revert f2;decide)
     subst Q;cases n with
     | negSucc q=>rw[K]at r1;cases r1
     | ofNat q =>
       have r1:Ora.env m1.lg.nx=if(z.cells.toList.map (E7 Ora.env)).length=inf.size/\q<=BD then .seq false inf.size (List.replicate q (z.cells.toList.map (E7 Ora.env)))else .none:=r1
       by_cases d:(z.cells.toList.map (E7 Ora.env)).length=inf.size/\q<=BD
       .rw[A4 d]at r1;obtain⟨ρ2,J,S⟩:=fG (w':={ w with heap:=w.heap.push (.cells ((Array.range (q*inf.size)).map (z.cells[· % z.cells.size]!)) e (0,0)) }) (cap:=q) (fz:=(0,0)) A.hr R a (by simpa using(C.less (B0 _)).step D) r1 rfl hi rfl (by simp) (by simp)
         (A2j (ρ:=ρ) f r (uG L) p) T (fun i hi hh=>by have:=hh.2;simp only at this;omega) ⟨rfl,rfl,rfl⟩ rfl
        rw[List.length_replicate]at J;exact⟨⟨_,ρ2,_,A13 hu hi u f (fun w=>dB L w) d.2 w,J,St.trans C A S⟩,by rw[E.2.1,<- M.2.1];exact⟨[_],rfl⟩⟩
       .rw[A3 d,K]at r1;cases r1
    .cases a
   .cases a
  .cases a
 .cases a
end
end
section
open Go
variable [Ora]
section
variable {P:Program} {base:Nat} {ρ ρ':Ren} {m m':Mem} {w w':World}
def A0c{t:Nat}(h:p8 m 8 .nilp [hole i t]=some (v,m'))(hi:Ora.env i=.seq nul wd rows)(p:Sat m'.lg):VR ρ v (.bool nul)/\N2 m m'/\m.lg.le m'.lg:=by
 obtain⟨u,d,A,r,n,f,q⟩:=Q8 h p;have a:[hole i t].map (E7 Ora.env)=[.seq nul wd rows]:=by
  show[Ora.env i]=_;rw[hi]
 rw[a]at d;have d:U.bool nul=u:=d;subst d;cases n;exact⟨f ρ,K8 h,L4 h⟩
def IQ{x y:Operand}{a:Option Addr}{n:Nat}(hu:P.underlying t=some (.slice e))(B:(a=none/\n=0/\c=0/\nul=true)∨(nul=false/\∃ q:Addr,a=some q/\n<=c))(p:op=.eql∨op=.neq)(w:World) :
  (do eqGuard op t x y (.slice a n c) (.slice none 0 0);binOp op t (.slice a n c) (.slice none 0 0):Sem Value).run P w=.ok (.bool (if op=.eql then nul else !nul)) w:=by
 have key:∀ {ρ:Ren} {am:Value},VR ρ am (.slice a n c)->qE P t x y am (.slice none 0 0)=true->xD P .eql t am (.slice none 0 0)=some (.bool nul)->xD P .neq t am (.slice none 0 0)=some (.bool !nul) ->
   (do eqGuard op t x y (.slice a n c) (.slice none 0 0);binOp op t (.slice a n c) (.slice none 0 0):Sem Value).run P w=.ok (.bool (if op=.eql then nul else !nul)) w:=fun{ρ am} u r h1 C=>by
  have f:VR ρ (.slice none 0 0) (.slice none 0 0):=.pure rfl;have h:=wO (op:=op) (fun _=>r) u f w;rcases p with rfl|rfl
  .obtain⟨g1,_⟩:=CQ h1 u f w;simp[A8,h,g1,Result.andThen]
  .obtain⟨g1,_⟩:=CQ C u f w;simp[A8,h,g1,Result.andThen]
 rcases B with⟨rfl,rfl,rfl,rfl⟩|⟨rfl,q,rfl,D⟩
 .refine key (ρ:=fun _=>none) (am:=.slice none 0 0) (.pure rfl) rfl ?_ ?_
  .simp[xD,IY,eqM,hu]
  .simp[xD,IY,eqM,hu]
 .obtain⟨d,A⟩:∃ d,Op.maxDepth=d+1:=⟨Op.maxDepth-1,rfl⟩;have he:∀ w,(Op.equal t (.slice (some q) n c) (.slice none 0 0)).run P w=.ok false w:=fun w=>by
   rw[Op.equal,A];simp[Op.equalIn,A8,D8 hu,Result.andThen]
  have r:∀ o:BinOp,(eqGuard o t x y (.slice (some q) n c) (.slice none 0 0)).run P w=.ok () w:=fun o=>by
   unfold eqGuard;cases o<;>rfl
  rcases p with rfl|rfl
  .rw[A8,r];show(do pure (.bool (<- Op.equal t (.slice (some q) n c) (.slice none 0 0))):Sem Value).run P w=_;rw[A8,he];rfl
  .rw[A8,r];show(do pure (.bool (!(<- Op.equal t (.slice (some q) n c) (.slice none 0 0)))):Sem Value).run P w=_;rw[A8,he];rfl
def A8n{x y:Operand}{a a' b:Value}(F:A5O P m op t x y a b=some (v,m'))(K:VR ρ a a')(S:VR ρ b b')(M:Sat m'.lg) :
  (∃ r,(do eqGuard op t x y a' b';binOp op t a' b':Sem Value).run P w=.ok r w/\VR ρ v r)/\N2 m m'/\m.lg.le m'.lg:=by
 unfold A5O at F;split at F
 .rename_i e k T i tg hu;obtain⟨d,f⟩:=A6 F;clear F;obtain⟨d,h⟩:=C5 d;obtain⟨d,O⟩:=C5 d;have L:b'=.slice none 0 0:=by
   unfold A53 at d;split at d
   .exact V5 S
   .cases d
  subst L;obtain⟨nul,wd,rows,B,n,c,E,rfl,N⟩:∃ nul wd rows B n c,Ora.env i=.seq nul wd rows/\a'=.slice B n c/\((B=none/\n=0/\c=0/\nul=true)∨(nul=false/\∃ q:Addr,B=some q/\n<=c)):=by
   have C:∀ {l:Loc},Enc l.G (Ora.env i) a'->G9 (Ora.env i)=tg->10<=tg->∃ nul wd rows B n c,Ora.env i=.seq nul wd rows/\a'=.slice B n c/\((B=none/\n=0/\c=0/\nul=true)∨(nul=false/\∃ q:Addr,B=some q/\n<=c)):=fun A h3 D=>by
    obtain⟨nul,wd,rows,E,_⟩:=kH A h3 D;rw[E]at A;rcases cS A with⟨rfl,rfl,rfl⟩|⟨rfl,q,c,rfl,Q⟩
    .exact⟨_,_,_,_,_,_,E,rfl,.inl ⟨rfl,rfl,rfl,rfl⟩⟩
    .exact⟨_,_,_,_,_,_,E,rfl,.inr ⟨rfl,q,rfl,Q⟩⟩
   rcases(K6 _ _).mp h with h|h
   .rcases(K6 _ _).mp h with h|h
    .have:=A1 h;subst this;obtain⟨l,_,A,h3,D⟩:=sI K;exact C A h3 D
    .have:=A1 h;subst this;obtain⟨l,_,A,h3,D,_⟩:=kE K;exact C A h3 D
   .have:=A1 h;subst this;rcases(gP K).1 with⟨l,wd,h1,A,h3,rfl⟩|⟨l,wd,rows,h1,A,h3,D,J,rfl⟩
    .exact⟨_,_,_,_,_,_,h3,rfl,.inl ⟨rfl,rfl,rfl,rfl⟩⟩
    .exact⟨_,_,_,_,_,_,h3,rfl,.inr ⟨rfl,_,rfl,J⟩⟩
  split at f
  .rename_i r H;cases f;obtain⟨g1,g2,g3⟩:=A0c (ρ:=ρ) H E M;exact⟨⟨_,IQ hu N (.inl rfl) w,g1⟩,g2,g3⟩
  .rename_i hh m1 H;have hle:=L4 f;obtain⟨g1,g2,g3⟩:=A0c (ρ:=ρ) H E (M.le hle);obtain⟨u,f1,f2,r,f3,f4,f5⟩:=Q8 f M;obtain⟨rfl,R⟩:=sG H;have I:E7 Ora.env (hole m.lg.nx 8)=.bool nul:=by
    obtain⟨p,_⟩:=cZ g1 (by show(8:Nat)<10;omega);cases d:E7 Ora.env (hole m.lg.nx 8)with
    | bool b=>rw[d]at p;cases p;rfl
    | int k n=>rw[d]at p;cases p
    | str s=>rw[d]at p;cases p
    | none=>rw[d]at p;cases p
    | seq _ _ _=>rw[d]at p;cases p
   have f1:ev1 .not (E7 Ora.env (hole m.lg.nx 8))=u:=f1;rw[I]at f1;have f1:U.bool (!nul)=u:=f1;subst f1;cases f3;exact⟨⟨_,IQ hu N (.inr rfl) w,f4 ρ⟩,g2.trans (K8 f),g3.trans hle⟩
  .cases f
 .cases F
def B52{fr:Fr}{g:Operand->Value}{o:Oper}(h:HR P base ρ m.H w)(G:base<=w.heap.size)(d:dsM P fr m o.op=some (v,m'))(B:M8 ρ m.n m'.hi)(L:FR ρ fr g o.op)(f:Sat m'.lg):NOk P base ρ m w (execOp g o) v m':=by
 obtain⟨dst,op,ty,pos,M,K⟩:=o;simp only at d L;have a:∀ {x},x ∈ op.operands.toList->VR ρ (ev fr x) (g x):=fun A=>L _ A
 have fin:∀ {s:Sem Value},(∃ r,s.run P w=.ok r w/\VR ρ v r)->N2 m m'->NOk P base ρ m w (do pure (.value (<- s))) v m':=fun{s} ⟨r,h1,N⟩ ⟨lg,S⟩=>by
  subst S;exact NOk.of ⟨r,ρ,w,h1,N,St.wLg h lg⟩
 unfold dsM at d;split at d
 .rename_i t x y;exact NOk.of (A5Y h G d B (a (x:=x) (by simp[Op.operands])) (a (x:=y) (by simp[Op.operands])) f).1
 .rename_i t x;obtain⟨g1,g2,_⟩:=A5b (w:=w) h d (a (x:=x) (by simp[Op.operands])) f;exact fin (s:=Instr.loadAt t (g x)) g1 g2
 .rename_i t x y;obtain⟨g1,rfl,_⟩:=A1q h d B (a (x:=x) (by simp[Op.operands])) (a (x:=y) (by simp[Op.operands])) f;exact NOk.ofU (s:=Instr.storeAt t (g x) (g y)) g1
 .rename_i t x i;obtain⟨g1,g2,_⟩:=TK (w:=w) d (a (x:=x) (by simp[Op.operands])) (a (x:=i) (by simp[Op.operands])) f;exact fin (s:=Instr.indexAt t (g x) (g i)) g1 g2
 .rename_i s x i;obtain⟨g1,rfl⟩:=TZ (w:=w) d (a (x:=x) (by simp[Op.operands]));exact fin (s:=Instr.fieldAt s (g x) i) g1 (.refl _)
 .rename_i t x lo hi mx;obtain⟨g1,_⟩:=A1v h d B (a (x:=x) (by simp[Op.operands])) (nQ (g:=g) fun y p=>a (by simp[Op.operands]at p ⊢;exact .inr (.inl p))) (nQ (g:=g) fun y p=>a (by simp[Op.operands]at p ⊢;exact .inr (.inr (.inl p)))) (nQ (g:=g) fun y p=>a (by simp[Op.operands]at p ⊢;exact .inr (.inr (.inr p)))) f;exact NOk.of (s:=Instr.sliceAt t (g x) (lo.map g) (hi.map g) (mx.map g)) g1
 .rename_i s t x;exact NOk.of (A61 h G d B (a (x:=x) (by simp[Op.operands])) f).1
 .rename_i op t x y T;obtain⟨g1,g2,_⟩:=A8n (w:=w) d (a (x:=x) (by simp[Op.operands])) (a (x:=y) (by simp[Op.operands])) f;exact fin (s:=do eqGuard op t x y (g x) (g y);binOp op t (g x) (g y)) g1 g2
 .rename_i xs tys;have l1:=fW (ρ:=ρ) (fr:=fr) (g:=g) (xs:=xs.toList) fun x A=>a (by show x ∈ (#[]++xs:Array Operand).toList;simpa using A)
  split at d
  .rename_i x t rest u q;rw[u]at l1;obtain⟨x',r1,C,E,I⟩:=l1.tail
   have:=I.nil_inv;subst this;obtain⟨g1,g2,_⟩:=A8y (w:=w) (ty:=ty) (tys:=rest) d E f;obtain⟨ks,D⟩:∃ ks,execOp g ⟨dst,.call ⟨.builtin .len,xs,tys⟩,ty,pos,M,K⟩=builtin .len tys ty ks (xs.map g):=⟨#[],rfl⟩;have F:xs.map g=⟨xs.toList.map g⟩:=by apply L3;simp
   have J:tys=⟨t::rest⟩:=by rw[<- q]
   rw[D,F,C,J];exact fin (s:=Builtin.len_ ⟨t::rest⟩ ty #[x']) g1 g2
  .cases d
 .rename_i xs tys;have l1:=fW (ρ:=ρ) (fr:=fr) (g:=g) (xs:=xs.toList) fun x A=>a (by show x ∈ (#[]++xs:Array Operand).toList;simpa using A)
  split at d
  .rename_i x y t t2 rest u q;rw[u]at l1;obtain⟨x',r1,C,E,I⟩:=l1.tail;obtain⟨y',V,O,Q,R⟩:=I.tail
   have:=R.nil_inv;subst this
   have:=YT (ty:=ty) h G d B E Q f;obtain⟨ks,D⟩:∃ ks,execOp g ⟨dst,.call ⟨.builtin .append,xs,tys⟩,ty,pos,M,K⟩=builtin .append tys ty ks (xs.map g):=⟨#[],rfl⟩;have F:xs.map g=⟨xs.toList.map g⟩:=by apply L3;simp
   have J:tys=⟨t::t2::rest⟩:=by rw[<- q]
   rw[D,F,C,O,J];have e:Builtin.append_ ⟨t::t2::rest⟩ ty #[x',y']=Builtin.append_ #[t,t2] ty #[x',y']:=rfl;refine NOk.of (s:=Builtin.append_ ⟨t::t2::rest⟩ ty #[x',y']) ?_;rw[e];exact this
  .cases d
 .cases d
def kG{wd o i t g:Nat}{z:Value}:∀ {ts:I9} {j:Nat} {m m':Mem} {r:D6},v8 wd o i t z g ts j m=some (r,m')->m.lg.le m'.lg
 | [],j,m,m',r,h=>by cases h;exact .refl _
 | tg::ts,j,m,m',r,h=>by
   unfold v8 at h;cases a:Nat.blt tg 10 with
   | true =>
     rw[a]at h;simp only[F7]at h;split at h
     .rename_i d;split at h
      .rename_i hr;cases h;exact(L4 d).trans (kG hr)
      .cases h
     .cases h
   | false =>
     rw[a]at h;simp only[E8]at h;rw[SZ]at h;split at h
     .rename_i hr;cases h;exact p7.trans (kG hr)
     .cases h
def LG{r:Option (D6×Mem)}(h:qV P t r=some (v,m')):∃ vs,r=some (vs,m'):=by
 unfold qV at h;split at h
 .cases h;exact⟨_,rfl⟩
 .cases h;exact⟨_,rfl⟩
 .cases h
def A5c(a:SW P m t x=some (v,m')):m.lg.le m'.lg:=by
 unfold SW at a;split at a
 .obtain⟨_,a⟩:=A6 a;obtain⟨vs,h⟩:=LG a;exact kG h
 .split at a
  .obtain⟨_,a⟩:=A6 a;obtain⟨vs,h⟩:=LG a;exact kG h
  .cases a
 .cases a
def A1r(a:DE P m t x y=some (v,m')):m.lg.le m'.lg:=by
 unfold DE at a;split at a
 .cases d:nL y with
  | true=>rw[d]at a;cases a
  | false =>
    rw[d]at a;simp only[E8]at a;split at a
    .rename_i f;split at a
     .obtain⟨_,a⟩:=A6 a;split at a
      .rename_i q;rw[S9]at a;simp only[hole]at a;obtain⟨p,_⟩:=sC a;have md:=S2 U7 f;have n:=Q3 q;refine md.2.1.trans ?_;rw[(d8 p).2,<- n.2.1];simp only[x3];exact⟨[_],rfl⟩
      .cases a
     .cases a
    .cases a
 .cases a
def A88{t:Nat}{k:Value}(h:TM m i t z k=some (v,m')):m.lg.le m'.lg:=by
 unfold TM at h;cases a:!(Nat.blt (I2 z) 8)with
 | true=>rw[a]at h;cases h
 | false =>
   rw[a]at h;simp only[E8]at h;split at h
   .rename_i f;split at h
    .rename_i d;cases h;exact(L4 f).trans (qU d)
    .cases h
   .cases h
def TL(h:qD P m t x z=some (v,m')):m.lg.le m'.lg:=by
 unfold qD at h;split at h;all_goals first
  | (split at h
     .obtain⟨_,h⟩:=A6 h;exact A88 h
     .cases h;done)
  | (split at h
     .obtain⟨_,h⟩:=A6 h;rw[G5]at h;cases h;exact .refl _
     .cases h;done)
  | cases h
def UA{f:Nat}(h:qI P m s x f=some (v,m')):m.lg.le m'.lg:=by
 unfold qI at h;split at h;all_goals first
  | (split at h
     .split at h
      .obtain⟨_,h⟩:=A6 h;rw[G5]at h;cases h;exact .refl _
      .cases h
     .cases h;done)
  | cases h
def OP{t:Nat}(a:UK m b i t cl lo hi mx=some (v,m')):m.lg.le m'.lg:=by
 have go:∀ {m1:Mem} {l h:Value} {d:Bool},kJ m1 b i t l h d=some (v,m')->m1.lg.le m'.lg:=fun h=>by
  unfold kJ at h;obtain⟨_,h⟩:=A6 h;rw[S9]at h;simp only[D9,R6]at h;obtain⟨_,rfl⟩:=h;exact p7
 unfold UK UJ at a;split at a
 .exact go a
 .exact go (A6 a).2
 .split at a
  .rename_i f;exact(eD f).2.trans (go a)
  .cases a
 .cases a
def A1w(a:DG P m t x lo hi mx=some (v,m')):m.lg.le m'.lg:=by
 unfold DG at a;split at a
 .split at a
  .exact OP (A6 a).2
  .cases a
 .split at a
  .exact OP (A6 a).2
  .cases a
 .split at a
  .obtain⟨_,a⟩:=A6 a;split at a
   .rename_i d;exact(lI d).2.1.trans (OP a)
   .cases a
  .cases a
 .cases a
def A62(a:UO P m s t x=some (v,m')):m.lg.le m'.lg:=by
 unfold UO at a;split at a
 .split at a
  .split at a
   .exact L4 (A6 a).2
   .cases a
  .cases a
 .split at a
  .split at a
   .rename_i f;rw[TE]at a;have d:=L4 a;exact(lI f).2.1.trans d
   .cases a
  .cases a
 .obtain⟨_,a⟩:=A6 a;split at a
  .split at a
   .split at a
    .rename_i p;rw[S9]at a;simp only[hole]at a;have n:=Q3 p;rw[(cE a).2.1,x3,<- n.2.1];exact⟨[_],rfl⟩
    .cases a
   .cases a
  .cases a
 .cases a
def A8o{x y:Operand}{a b:Value}(f:A5O P m op t x y a b=some (v,m')):m.lg.le m'.lg:=by
 unfold A5O at f;split at f
 .obtain⟨_,d⟩:=A6 f;clear f;split at d
  .rename_i n;cases d;exact L4 n
  .rename_i n;exact(L4 n).trans (L4 d)
  .cases d
 .cases f
def A5Z{l c:Value}(a:SS P m t l c=some (v,m')):m.lg.le m'.lg:=by
 unfold SS at a;split at a
 .obtain⟨_,a⟩:=A6 a;split at a
  .obtain⟨_,a⟩:=A6 a;split at a
   .obtain⟨_,a⟩:=A6 a;split at a
    .rename_i f;rw[S9]at a;simp only[hole]at a;have d:=Q3 f;rw[(cE a).2.1,x3,<- d.2.1];exact⟨[_],rfl⟩
    .cases a
   .cases a
  .cases a
 .cases a
def B53{fr:Fr}{o:Op}(a:dsM P fr m o=some (v,m')):m.lg.le m'.lg:=by
 unfold dsM at a;split at a
 .exact A5Z a
 .exact A5c a
 .exact A1r a
 .exact TL a
 .exact UA a
 .exact A1w a
 .exact A62 a
 .exact A8o a
 .split at a
  .unfold A8z at a;split at a
   .exact(eD a).2
   .exact(eD a).2
   .exact(eD a).2
   .cases a
  .cases a
 .split at a
  .exact(PC a).2.1
  .cases a
 .cases a
end
end
end Go.Sx
