import Derived.Test.YtjdnjfnhdeplfaaX3
set_option linter.all false
set_option maxRecDepth 100000
set_option maxHeartbeats 4000000
namespace Go.Sx
open Go
variable {rows rows2:List (List U)}{b c cap g i j k o o' sh wd:Nat}{e s t t2 ty:TypeId}{inf:TypeInfo}{fz:Nat×Nat}{b' c' l' v x x' y y' z:Value}{l:Loc}{g0 gs:G6}{cl nul sure:Bool}{d2 ds:TypeDesc}{bh:Beh}{cs cs' new' vs:D0}{td:Td}{row us:List U}{hi lo mx:O8}{op:BinOp}
section
open Go
variable [Ora]
section
variable {P:Program} {base:Nat} {ρ ρ':Ren} {m m':Mem} {w w':World}
def M8.move{R:Nat->Option Obj}{C C':R3}(h:M8 R rows wd C o)(p:∀ i,i<rows.length*wd->C'[o'+i]? = C[o+i]?):M8 R rows wd C' o':=by
 refine⟨h.1,fun r row j u v d a2 a3=>h.2 r row j u v d a2 ?_⟩;have f:=(A9.1 d).1;have a:=(A9.1 a2).1;rw[h.1 _ (D8 d)]at a;have n:(r+1)*wd<=rows.length*wd:=E7 wd f;rw[G8]at n
 have:=p (r*wd+j) A6;rw[show o+r*wd+j=o+(r*wd+j) by omega,<- this,show o'+(r*wd+j)=o'+r*wd+j by omega];exact a3
def M8.append{R:Nat->Option Obj}{C:R3}(h:M8 R rows wd C o)(k:M8 R rows2 wd C (o+rows.length*wd)):M8 R (rows++rows2) wd C o:=by
 refine⟨fun row hr=>(B4.1 hr).elim (h.1 row) (k.1 row),fun r row j u v a a2 a3=>?_⟩;rcases F5 r rows.length with d|d
 .rw[E8 d]at a;exact h.2 r row j u v a a2 a3
 .rw[D6 d]at a;refine k.2 (r-rows.length) row j u v a a2 ?_;have:rows.length*wd+(r-rows.length)*wd=r*wd:=by rw[<- G8];congr 1;omega
  rw[show o+rows.length*wd+(r-rows.length)*wd+j=o+r*wd+j by omega];exact a3
def A2S{t:Nat}{T:TypeId}{lg:Loc}{C:R3}(u:Ora.env c=.seq false wd rows)(r:t=10+wd)(hi:P.info? T=some inf)(q:inf.size=wd)(f:rows.length<=cap)(d:sh+cap*wd<=C.size)
  (a:M8 lg.G rows wd C sh) (p:ρ g=some lg) (hw:w.heap[b]? = some (.cells C T fz)) (n:∀ i,i<C.size->¬ (fz.1<=i/\i<fz.2)):BR P ρ (.sq c t T g false) ⟨b,sh,cap,rows.length,fun _=>none,true⟩ w :=
 ⟨⟨wd,inf,r,hi,q,.inr ⟨rfl,C,fz,T,rows,lg,hw,u,rfl,f,d,a.1,p,a.2,fun _=>⟨rfl,n⟩⟩⟩⟩
def aP{t:Nat}{T:TypeId}{lg:Loc}{C:R3}(h:HR P base ρ m.H w)(I:base<=w.heap.size)(A:x8 m c t T g=some (v,m'))(B:I8 ρ m.n m'.hi)
  (q:Ora.env c=.seq false wd rows) (u:t=10+wd) (hi:P.info? T=some inf) (E:inf.size=wd) (a:rows.length<=cap) (p:cap*wd<=C.size) (d:M8 lg.G rows wd C 0) (D:ρ g=some lg) (r:∀ i,i<C.size->¬ (fz.1<=i/\i<fz.2))
  (K:w'.os=w.os/\w'.tape=w.tape/\w'.output=w.output) (hh:w'.heap=w.heap.push (.cells C T fz)):∃ ρ',VR ρ' v (.slice (some ⟨w.heap.size,0,none⟩) rows.length cap)/\St P base ρ ρ' m m' w w':=by
 have f:ρ m.n=none:=by
  obtain⟨_,_,rfl⟩:=K5 A;exact B m.n (A7 _) (J7 _ _).2
 obtain⟨rfl,J,F⟩:=St.alloc (w':=w') (l:=⟨w.heap.size,0,cap,rows.length,fun _=>none,true⟩) h I A B K hh rfl (A2S q u hi E a A6 d (V1 f _ _ D) (by rw[hh];simp) r);exact⟨_,.own (.inr ⟨_,wd,rows,J,rfl,q,rfl,a,rfl⟩) (by rw[q];exact u.symm) rfl,F⟩
def lO{t id:Nat}{T:TypeId}{ab:AB}{lg:Loc}{C:R3}(h:HR P base ρ m.H w)(hle:id<=G9)(B:Hp.get m.H id=some ab)(u:ab.rw=true)(O:ρ id=some l)(r:l.on=true)
  (J:x8 (gN m id) c t T g=some (v,m')) (K:I8 ρ m.n m'.hi)
  (A:Ora.env c=.seq false wd rows) (I:t=10+wd) (hi:P.info? T=some inf) (M:inf.size=wd) (a:rows.length<=cap) (f:sh+cap*wd<=C.size) (p:M8 lg.G rows wd C sh) (L:ρ g=some lg) (D:∀ i,i<C.size->¬ (fz.1<=i/\i<fz.2))
  (R:w'.os=w.os/\w'.tape=w.tape/\w'.output=w.output) (F:w'.heap.size=w.heap.size) (hk:∀ k,k≠l.blk->w'.heap[k]? = w.heap[k]?) (hw:w'.heap[l.blk]? = some (.cells C T fz)) :
  ∃ ρ',VR ρ' v (.slice (some ⟨l.blk,sh,none⟩) rows.length cap)/\St P base ρ ρ' m m' w w':=by
 have q:ρ m.n=none:=by
  have d:=J;unfold x8 at d;rw[g7]at d;obtain⟨_,_,rfl⟩:=K5 d;exact K m.n (A7 _) (J7 _ _).2
 obtain⟨rfl,Q,N⟩:=St.move (w':=w') (l':=⟨l.blk,sh,cap,rows.length,fun _=>none,true⟩) h hle B u O J K (fun _=>⟨r,rfl⟩) R F (fun k E=>hk k (E r)) (A2S A I hi M a f p (V1 q _ _ L) hw D) (fun h=>by cases h);exact⟨_,.own (.inr ⟨_,wd,rows,Q,rfl,A,rfl,a,rfl⟩) (by rw[A];exact I.symm) rfl,N⟩
def A1b:Loc:=⟨0,0,0,0,fun _=>none,false⟩
def xK{t:Nat}{T:TypeId}{old:Option Nat}(h:HR P base ρ m.H w)(hold:∀ b,old=some b->∃ ab l,b<=G9/\Hp.get m.H b=some ab/\ab.rw=true/\ρ b=some l/\l.on=false)
  (A:x8 (gM old m) c t T g=some (v,m')) (B:I8 ρ m.n m'.hi) (d:Ora.env c=.seq true wd []) (p:t=10+wd) (hi:P.info? T=some inf) (C:inf.size=wd):∃ ρ',VR ρ' v (.slice none 0 0)/\St P base ρ ρ' m m' w w:=by
 have a:∀ ρ':Ren,BR P ρ' (.sq c t T g false) A1b w:=fun ρ'=>⟨⟨wd,inf,p,hi,C,.inl ⟨rfl,d⟩⟩⟩
 cases old with
 | none =>
   obtain⟨rfl,u,r⟩:=St.new0 (l':=A1b) h A B (a _) rfl fun q f=>by
    rcases f with⟨_,f,_⟩|⟨f,_⟩<;>cases f
   exact⟨_,.own (.inl ⟨_,wd,u,rfl,d,rfl⟩) (by rw[d];exact p.symm) rfl,r⟩
 | some b =>
   obtain⟨ab,l,h1,D,h3,E,F⟩:=hold b rfl;obtain⟨rfl,u,r⟩:=St.move (w':=w) (l':=A1b) h h1 D h3 E A B (fun h=>by cases h) ⟨rfl,rfl,rfl⟩ rfl (fun _ _=>rfl) (a _) (fun h=>by cases h);exact⟨_,.own (.inl ⟨_,wd,u,rfl,d,rfl⟩) (by rw[d];exact p.symm) rfl,r⟩
def pF(h:HR P base ρ m.H w)(a:gO gs m=some (g,m'))(p:I8 ρ m.n m'.hi)(d:ρ j=some l):Hp.get m'.H j=Hp.get m.H j:=by
 have main:∀ {gs:G6},(bif gs.all (lT m)then match eC m fun b m=>some (undef,b,m)with
  | some (_,b,m)=>some (b,m)
  | none=>none else none)=some (g,m')->Hp.get m'.H j=Hp.get m.H j:=fun{gs} a=>by
  obtain⟨h1,a⟩:=A2 a;split at a
  .rename_i r b m1 f;cases a;obtain⟨m2,q1,q2,_⟩:=O9 f;cases q2;rw[iO q1 (h.dom j l d),B0];intro e;subst e;obtain⟨_,_,rfl⟩:=K5 q1;rw[p m.n (A7 _) (J7 _ _).2]at d;cases d
  .cases a
 unfold gO at a;split at a
 .obtain⟨h1,a⟩:=A2 a;cases a;rfl
 .exact main a
def M0(a:gO gs m=some (g,m')):m.hi<=m'.hi/\m'.lg=m.lg/\m.n<=m'.n:=by
 have main:∀ {gs:G6},(bif gs.all (lT m)then match eC m fun b m=>some (undef,b,m)with
  | some (_,b,m)=>some (b,m)
  | none=>none else none)=some (g,m')->m.hi<=m'.hi/\m'.lg=m.lg/\m.n<=m'.n:=fun{gs} a=>by
  obtain⟨h1,a⟩:=A2 a;split at a
  .rename_i r b m1 d;cases a;obtain⟨m2,q1,q2,_⟩:=O9 d;cases q2;obtain⟨_,_,rfl⟩:=K5 q1;exact⟨(J7 _ _).1,rfl,Y4 _⟩
  .cases a
 unfold gO at a;split at a
 .obtain⟨h1,a⟩:=A2 a;cases a;exact⟨A7 _,rfl,A7 _⟩
 .exact main a
def A4N(nul:Bool)(wd:Nat)(rows:List (List U)):List (List U)->U
 | []=>.seq nul wd rows
 | r0::r=>.seq false wd (rows++r0::r)
def FN(h:∃ n w r,jJ nul wd rows rows2=.seq n w r):rows.length+rows2.length<=rG/\jJ nul wd rows rows2=A4N nul wd rows rows2:=by
 by_cases a:rows.length+rows2.length<=rG
 .refine⟨a,?_⟩;unfold jJ;rw[B2 a];cases rows2<;>rfl
 .unfold jJ at h;rw[B0 a]at h;obtain⟨_,_,_,h⟩:=h;cases h
def JS{old:Option Nat} 
  (hu:P.underlying t=some (.slice e)) (X:P.underlying t2=some d2) (R:bF d2=true) (hi:P.info? e=some inf) (hz:dK P e=some z) (aa:z.cells.size=inf.size) (bs:inf.bytes<=90000)
  (h:HR P base ρ m.H w) (hb:base<=w.heap.size) (E:DJ m e inf.size c old bh (g0++gs)=some (v,m')) (hf:I8 ρ m.n m'.hi) (hS:Sat m'.lg)
  (ao:WO P base ρ m w e inf.size c g0 old x') (d:OP P ρ w inf.size bh gs y' rows2 new'):VOk P base ρ m w (Builtin.append_ #[t,t2] ty #[x',y']) v m':=by
 unfold DJ at E;split at E
 .rename_i g m1 hj;rw[M3]at E;have bw:=M0 hj;generalize bt:dH m1 (10+inf.size) (bK inf.size (hole c (10+inf.size)) bh).1 (bK inf.size (hole c (10+inf.size)) bh).2=lg1 at E;have ag:m'.lg=lg1/\m1.hi<=m'.hi/\m1.n<=m'.n:=by
   unfold x8 at E;cases old with
   | none =>
     simp only[gM]at E;obtain⟨_,_,rfl⟩:=K5 E;exact⟨by simp,by simpa using(J7 m1.hi m1.n).1,by simp⟩
   | some b =>
     simp only[gM,g7]at E;obtain⟨_,_,rfl⟩:=K5 E;exact⟨by simp,by simpa using(J7 m1.hi m1.n).1,by simp⟩
  have av:I8 ρ m.n m1.hi:=hf.less ag.2.1;obtain⟨L,lg,e1,e2,e3,e4,e5,e6⟩:=cS h hj av;have q:St P base ρ L m (m1.wLg lg1) w w:=St.trans (by simpa using av) e1 (St.wLg e1.hr lg1);have F:I8 L (m1.wLg lg1).n m'.hi:=by simpa using hf.step e1
  have bo:Sat (m1.wLg lg1).lg:=by simpa [<- ag.1]using hS
  obtain⟨nul,rows,hc,hx⟩:=ao.ex;obtain⟨d1,d2,nx,bp,rws,d3,d4⟩:=gQ (m:=m1) (t:=10+inf.size) (op:=(bK inf.size (hole c (10+inf.size)) bh).1) (xs:=(bK inf.size (hole c (10+inf.size)) bh).2) (lg:=lg1) (by simpa using bo) (by rw[Z4,bt];exact .refl _);rw[d.ev c nul rows hc]at d1;obtain⟨az,aj⟩:=FN ⟨nx,bp,rws,d1.symm.trans d3⟩;rw[aj]at d1;have bq:∀ b ∈ g0,∀ l,ρ b=some l->Sub l.G lg.G:=fun b W l hl=>e6 b (B4.2 (.inl W)) l hl
  have bm:∀ b ∈ gs,∀ l,ρ b=some l->Sub l.G lg.G:=fun b W l hl=>e6 b (B4.2 (.inr W)) l hl
  have au:=d.rows lg.G bm;have B:∀ {v':Value} {ρ2:Ren} {w2:World},(Builtin.append_ #[t,t2] ty #[x',y']).run P w=.ok v' w2->VR ρ2 v v'->St P base L ρ2 (m1.wLg lg1) m' w w2->VOk P base ρ m w (Builtin.append_ #[t,t2] ty #[x',y']) v m':=fun hr hv hs =>
   ⟨_,_,_,hr,hv,St.trans hf q hs⟩
  have ae:∀ w,(zeroValue e).run P w=.ok z w:=fun w=>s9 hz w
  have ax:∀ {j l},ρ j=some l->Hp.get (m1.wLg lg1).H j=Hp.get m.H j:=fun br=>by rw[hZ];exact pF h hj av br
  have J:(3*(rows.length+rows2.length)+4000)*inf.bytes<=281474976710656:=by
   have h1:3*(rows.length+rows2.length)+4000<=3000004000:=by unfold rG at az;omega
   have h2:=jR h1 bs;omega
  have O:rows.length+rows2.length<=1000000000:=az;rcases hx with⟨rfl,rfl,rfl,hold⟩|⟨rfl,b,ab,l,cap,C,fz,rfl,an,bx,Q,af,al,rfl,I,aw,N,T,ak⟩
  ·
   have S:∀ b,old=some b->∃ ab l,b<=G9/\Hp.get (m1.wLg lg1).H b=some ab/\ab.rw=true/\L b=some l/\l.on=false:=fun b W=>by
    obtain⟨ab,l,q1,q2,q3,q4,q5⟩:=hold b W;exact⟨ab,l,q1,by rw[ax q4];exact q2,q3,e1.ext _ _ q4,q5⟩
   cases f:rows2 with
   | nil =>
     subst f;have D:Ora.env m1.lg.nx=.seq true inf.size []:=d1;obtain⟨ρ2,q1,q2⟩:=xK q.hr S E F D rfl hi rfl;have aq:new'=[]:=D2.1 (by rw[d.size];simp);exact B (qH hu X R hi (fun wd=>d.len wd) (by have:=d.first w rfl;rw[aq]at this;exact this)) q1 q2
   | cons r0 rr =>
     rw[f]at d1;have D:Ora.env m1.lg.nx=.seq false inf.size rows2:=by rw[f];exact d1
     obtain⟨nc,Y,p⟩:=eO (P:=P) (w:=w) (ty:=ty) (a:=none) (n:=0) (c:=0) (k:=rows2.length) (old':=[]) (new':=new') (x':=y') hu X R hi ae (fun wd=>d.len wd) (fun _ _=>rfl) (fun wd hw=>d.first wd hw) (by rw[f];simp) (by simpa using J) (by simpa using O);obtain⟨m2,bn,st2⟩:∃ m2,x8 m2 m1.lg.nx (10+inf.size) e g=some (v,m')/\St P base L L (m1.wLg lg1) m2 w w:=by
      cases old with
      | none=>exact⟨_,E,St.refl q.hr⟩
      | some b =>
        obtain⟨ab,l,q1,q2,q3,q4,q5⟩:=S b rfl;exact⟨_,E,St.kill q.hr q1 q2 q3⟩
     obtain⟨ρ2,q1,q2⟩:=aP (w':={ w.drew with heap:=w.heap.push (.cells (({ toList:=[] }:Array Value)++⟨new'⟩++Builtin.zeroCells z.cells (nc-(0+rows2.length))) e (0,0)) }) (cap:=nc) st2.hr hb bn (F.step st2) D rfl hi rfl A6
      (by have:=bX (s:=inf.size) (k:=rows2.length) (n:=0) (nc:=nc) (z:=z) (old':=[]) d.size Y aa (by simp);exact this)
      (au.move (C':=({ toList:=[] }:Array Value)++⟨new'⟩++Builtin.zeroCells z.cells (nc-(0+rows2.length))) (o':=0) fun i hi'=>by
        have ah:i<new'.length:=by rw[d.size];exact hi'
        rw[E1 i];rw[ET (A3 ah)];simp[ah]) (st2.ext _ _ e4) (fun i _ hh=>by have h1:0<=i:=hh.1;have h2:i<0:=hh.2;omega) ⟨rfl,rfl,rfl⟩ rfl
     exact B p (by rw[E1];exact q1) (St.trans F st2 q2)
  ·
   have ar:Hp.get (m1.wLg lg1).H b=some ab:=by rw[ax af];exact bx
   have A:=ak lg.G bq;have Z:=e1.ext _ _ af;cases f:rows2 with
   | nil =>
     subst f;have D:Ora.env m1.lg.nx=.seq false inf.size rows:=d1;have aq:new'=[]:=D2.1 (by rw[d.size];simp);obtain⟨ρ2,q1,q2⟩:=lO (w':=w) (cap:=cap) (sh:=l.sh) q.hr an ar Q Z al E F D rfl hi rfl aw N A e4 T ⟨rfl,rfl,rfl⟩ rfl (fun _ _=>rfl) I;have p:=jZ (P:=P) (w:=w) (w':=w) (ty:=ty) (a:=⟨l.blk,l.sh,none⟩) (n:=rows.length) (k:=0) (c:=cap) (new':=new') hu X R hi (fun wd=>d.len wd) (d.first w rfl) A6 (by rw[aq];rfl);exact B p q1 q2
   | cons r0 rr =>
     have D:Ora.env m1.lg.nx=.seq false inf.size (rows++rows2):=by rw[f]at d1 ⊢;exact d1
     by_cases K:rows.length+rows2.length<=cap
     .have ay:(rows.length+rows2.length)*inf.size<=cap*inf.size:=E7 _ K;rw[G8]at ay;obtain⟨w',r1,r2,r3,r4,r5⟩:=X7 (P:=P) (b:=l.blk) (o:=rows.length*inf.size+l.sh) (fz:=fz) new' 0 C w I d.flat (by rw[d.size];omega) T;have bz:(Addr.mk l.blk l.sh none).add (rows.length*inf.size)=⟨l.blk,rows.length*inf.size+l.sh,none⟩:=by
       unfold Addr.add;split
       .rename_i h0;rw[h0];simp
       .simp[gK]
      have p:=jZ (P:=P) (w:=w) (w':=w') (ty:=ty) (a:=⟨l.blk,l.sh,none⟩) (n:=rows.length) (k:=rows2.length) (c:=cap) (new':=new') hu X R hi (fun wd=>d.len wd) (d.first w rfl) K (by rw[bz];exact r1);have V:(Array.mk (aO C.toList (rows.length*inf.size+l.sh+0) new')).size=C.size:=by simp[X9]
      have ad:∀ j,(Array.mk (aO C.toList (rows.length*inf.size+l.sh+0) new'))[j]? = if rows.length*inf.size+l.sh<=j/\j<rows.length*inf.size+l.sh+new'.length then new'[j-(rows.length*inf.size+l.sh)]? else C[j]? := fun j=>by
       rw[I6,iL _ _ _ _ (by simp;rw[d.size];omega)];simp
      obtain⟨ρ2,q1,q2⟩:=lO (w':=w') (cap:=cap) (sh:=l.sh) (C:=⟨aO C.toList (rows.length*inf.size+l.sh+0) new'⟩) q.hr an ar Q Z al E F D rfl hi rfl (by simpa using K) (by rw[V];exact N)
       (M8.append (A.move (o':=l.sh) fun i hi'=>by rw[ad,B0 A6]) (au.move (o':=l.sh+rows.length*inf.size) fun i hi'=>by
         rw[ad,B2 (by rw[d.size];omega),show l.sh+rows.length*inf.size+i-(rows.length*inf.size+l.sh)=i by omega,E1];simp)) e4 (by rw[V];exact T) r2 r3 r5 r4
      rw[G1]at q1;exact B p q1 q2
     .have hold:∃ old',old'.length=rows.length*inf.size/\(∀ i,i<rows.length*inf.size->old'[i]? = C[l.sh+i]?)/\∀ wd:World,wd.heap=w.heap->(Builtin.firstCells inf.size rows.length (.slice (some ⟨l.blk,l.sh,none⟩) rows.length cap)).run P wd=.ok ⟨old'⟩ wd:=by
       have ay:rows.length*inf.size<=cap*inf.size:=E7 _ aw;have hlen:((C.toList.drop l.sh).take (rows.length*inf.size)).length=rows.length*inf.size:=by simp;omega
       refine⟨(C.toList.drop l.sh).take (rows.length*inf.size),hlen,fun i hi'=>?_,fun wd hw=>?_⟩
       .rw[F2 hi',H3];simp
       .rw[show Builtin.firstCells inf.size rows.length (.slice (some ⟨l.blk,l.sh,none⟩) rows.length cap)=loadCells ⟨l.blk,l.sh,none⟩ (rows.length*inf.size)from rfl];refine J0 hlen fun j v' hj=>?_
        have ai:=(A9.1 hj).1;rw[hlen]at ai;rw[F2 ai,H3]at hj;rw[y9 hw];have bu:C[l.sh+j]? = some v':=by simpa using hj
        simp[World.cell?,I,bu]
      obtain⟨old',o1,o2,o3⟩:=hold;obtain⟨nc,Y,p⟩:=eO (P:=P) (w:=w) (ty:=ty) (a:=some ⟨l.blk,l.sh,none⟩) (n:=rows.length) (c:=cap) (k:=rows2.length) (old':=old') (new':=new') (x':=y') hu X R hi ae (fun wd=>d.len wd) o3 (fun wd hw=>d.first wd hw) K J O;have r:=St.kill q.hr an ar Q;obtain⟨ρ2,q1,q2⟩:=aP (w':={ w.drew with heap:=w.heap.push (.cells (({ toList:=old' }:Array Value)++⟨new'⟩++Builtin.zeroCells z.cells (nc-(rows.length+rows2.length))) e (0,0)) }) (cap:=nc) r.hr hb E (F.step r) D rfl hi rfl (by simpa using Y)
       (bX d.size Y aa o1)
       (M8.append (A.move (C':=({ toList:=old' }:Array Value)++⟨new'⟩++Builtin.zeroCells z.cells (nc-(rows.length+rows2.length))) (o':=0) fun i hi'=>by
         have M:i<old'.length:=by rw[o1];exact hi'
         rw[E1 i,<- o2 i hi',bY (u:=old'[i]) (by rw[E8 M,A3 M]),A3 M]) (au.move (o':=0+rows.length*inf.size) fun i hi'=>by
         have M:i<new'.length:=by rw[d.size];exact hi'
         rw[E1 (rows.length*inf.size),E1 i,bY (u:=new'[i]) (by rw[D6 (by rw[o1];omega),o1,U6,A3 M])];simp[M])) (r.ext _ _ e4) (fun i _ hh=>by have h1:0<=i:=hh.1;have h2:i<0:=hh.2;omega) ⟨rfl,rfl,rfl⟩ rfl
      rw[G1]at q1;exact B p q1 (St.trans F r q2)
 .cases E
end
end
section
open Go
variable [Ora]
section
variable {P:Program} {base:Nat} {ρ ρ':Ren} {m m':Mem} {w w':World}
def XK{a:Addr} 
  (hu:P.underlying t=some (.slice e)) (au:P.underlying t2=some d2) (ax:bF d2=true) (hi:P.info? e=some inf) (hz:dK P e=some z) (aw:z.cells.size=inf.size) (W:inf.bytes<=90000)
  (h:HR P base ρ m.H w) (hb:base<=w.heap.size) (q:DJ m e inf.size c none bh (b::gs)=some (v,m')) (V:I8 ρ m.n m'.hi) (hS:Sat m'.lg)
  (hc:Ora.env c=.seq false inf.size rows) (hl:ρ b=some l) (B:Enc l.G (Ora.env c) (.slice (some a) rows.length rows.length)) (d:OP P ρ w inf.size bh gs y' rows2 new') (p:rows2≠[]) :
  VOk P base ρ m w (Builtin.append_ #[t,t2] ty #[.slice (some a) rows.length rows.length,y']) v m':=by
 unfold DJ at q;split at q
 .rename_i g m1 N;rw[M3]at q;have Q:=M0 N;generalize T:dH m1 (10+inf.size) (bK inf.size (hole c (10+inf.size)) bh).1 (bK inf.size (hole c (10+inf.size)) bh).2=lg1 at q;have q:x8 (m1.wLg lg1) m1.lg.nx (10+inf.size) e g=some (v,m'):=q;have K:m'.lg=lg1/\m1.hi<=m'.hi/\m1.n<=m'.n:=by
   unfold x8 at q;obtain⟨_,_,rfl⟩:=K5 q;exact⟨by simp,by simpa using(J7 m1.hi m1.n).1,by simp⟩
  have E:I8 ρ m.n m1.hi:=V.less K.2.1;obtain⟨F,lg,O,e2,e3,e4,e5,e6⟩:=cS h N E;have C:St P base ρ F m (m1.wLg lg1) w w:=St.trans (by simpa using E) O (St.wLg O.hr lg1);have ar:I8 F (m1.wLg lg1).n m'.hi:=by simpa using V.step O
  have Z:Sat (m1.wLg lg1).lg:=by simpa [<- K.1]using hS
  obtain⟨d1,d2,nx,Y,rws,d3,d4⟩:=gQ (m:=m1) (t:=10+inf.size) (op:=(bK inf.size (hole c (10+inf.size)) bh).1) (xs:=(bK inf.size (hole c (10+inf.size)) bh).2) (lg:=lg1) (by simpa using Z) (by rw[Z4,T];exact .refl _);rw[d.ev c false rows hc]at d1;obtain⟨A,J⟩:=FN ⟨nx,Y,rws,d1.symm.trans d3⟩;rw[J]at d1;have X:Sub l.G lg.G:=e6 b (.head _) l hl;have ay:∀ b ∈ gs,∀ l,ρ b=some l->Sub l.G lg.G:=fun b av l hl=>e6 b (.tail _ av) l hl
  have R:=d.rows lg.G ay;have az:∀ w,(zeroValue e).run P w=.ok z w:=fun w=>s9 hz w
  have r:(3*(rows.length+rows2.length)+4000)*inf.bytes<=281474976710656:=by
   have h1:3*(rows.length+rows2.length)+4000<=3000004000:=by unfold rG at A;omega
   have h2:=jR h1 W;omega
  have D:rows.length+rows2.length<=1000000000:=A;have aq:0<rows2.length:=List.length_pos_iff.2 p;have S:Ora.env m1.lg.nx=.seq false inf.size (rows++rows2):=by
   cases rows2 with
   | nil=>exact absurd rfl p
   | cons r0 rr=>exact d1
  rw[hc]at B;obtain⟨_,old',L,o2,o3,o4⟩:=pQ (w:=w) (B.mono X) ((O.hr.atl e4 e5).1.2);have o5:∀ wd:World,wd.heap=w.heap->(Builtin.firstCells inf.size rows.length (.slice (some a) rows.length rows.length)).run P wd=.ok ⟨old'⟩ wd:=fun wd hw=>by
   rw[show Builtin.firstCells inf.size rows.length (.slice (some a) rows.length rows.length)=loadCells a (rows.length*inf.size)from rfl];exact iU L fun j v' N=>by rw[y9 hw];exact o4 j v' N
  obtain⟨nc,M,I⟩:=eO (P:=P) (w:=w) (ty:=ty) (a:=some a) (n:=rows.length) (c:=rows.length) (k:=rows2.length) (old':=old') (new':=new') (x':=y') hu au ax hi az (fun wd=>d.len wd) o5 (fun wd hw=>d.first wd hw) A6 r D;obtain⟨ρ2,q1,q2⟩:=aP (w':={ w.drew with heap:=w.heap.push (.cells (({ toList:=old' }:Array Value)++⟨new'⟩++Builtin.zeroCells z.cells (nc-(rows.length+rows2.length))) e (0,0)) }) (cap:=nc) C.hr hb q ar S rfl hi rfl (by simpa using M)
   (bX d.size M aw L)
   (M8.append (o3.move (C':=({ toList:=old' }:Array Value)++⟨new'⟩++Builtin.zeroCells z.cells (nc-(rows.length+rows2.length))) (o':=0) fun i hi'=>by
     have f:i<old'.length:=by rw[L];exact hi'
     rw[E1 i,bY (u:=old'[i]) (by rw[E8 f,A3 f])];simp[f]) (R.move (o':=0+rows.length*inf.size) fun i hi'=>by
     have f:i<new'.length:=by rw[d.size];exact hi'
     rw[E1 (rows.length*inf.size),E1 i,bY (u:=new'[i]) (by rw[D6 (by rw[L];omega),L,U6,A3 f])];simp[f])) e4 (fun i _ hh=>by have h1:0<=i:=hh.1;have h2:i<0:=hh.2;omega) ⟨rfl,rfl,rfl⟩ rfl
  rw[G1]at q1;exact⟨_,_,_,I,q1,St.trans V C q2⟩
 .cases q
def OJ(d:vE P td)(a:VU td P m e wd y=some (bh,gs,sure,m')):m.hi<=m'.hi/\m.lg.le m'.lg/\m.n<=m'.n:=by
 unfold VU at a;split at a
 .cases a;exact⟨A7 _,.refl _,A7 _⟩
 .split at a
  .split at a
   .rename_i f;cases a;exact Q3 d f
   .cases a
  .cases a
 .split at a
  .rename_i f;cases a;exact d.mono f
  .cases a
 .obtain⟨h1,a⟩:=A2 a;cases a;exact⟨A7 _,.refl _,A7 _⟩
def gC(d:vE P td){old:Option Nat}(a:yX td P m e wd x=some (c,gs,old,m')):m.hi<=m'.hi/\m.lg.le m'.lg/\m.n<=m'.n:=by
 unfold yX at a;split at a
 .rw[M3]at a;simp only[hole]at a;cases a;exact⟨by simp,T9,by simp⟩
 .split at a
  .obtain⟨h1,a⟩:=A2 a;cases a;exact⟨A7 _,.refl _,A7 _⟩
  .cases a
 .split at a
  .obtain⟨h1,a⟩:=A2 a;split at a
   .rename_i f;split at a
    .obtain⟨h1,a⟩:=A2 a;rw[M3]at a;simp only[hole]at a;cases a
     have:=Q3 d f;exact⟨by simpa using this.1,this.2.1.trans T9,by simpa using this.2.2⟩
    .cases a
   .cases a
  .cases a
 .cases a
def l6{t:Nat}{T:TypeId}(h:x8 m c t T g=some (v,m')):m.hi<=m'.hi/\m'.lg=m.lg/\m.n<=m'.n:=by
 unfold x8 at h;obtain⟨_,_,rfl⟩:=K5 h;exact⟨(J7 _ _).1,rfl,Y4 _⟩
def y7(old:Option Nat)(m:Mem):(gM old m).hi=m.hi/\(gM old m).lg=m.lg/\(gM old m).n=m.n:=by
 cases old with
 | none=>exact⟨rfl,rfl,rfl⟩
 | some b=>simp[gM,g7]
def kB{old:Option Nat}(d:DJ m e wd c old bh gs=some (v,m')):m.hi<=m'.hi/\m.lg.le m'.lg/\m.n<=m'.n:=by
 unfold DJ at d;split at d
 .rename_i g m1 q;rw[M3]at d;have a:=M0 q;have b:=l6 d;obtain⟨f,p,r⟩:=y7 old (m1.wLg (dH m1 (10+wd) (bK wd (hole c (10+wd)) bh).1 (bK wd (hole c (10+wd)) bh).2));refine⟨?_,?_,?_⟩
  .have:=b.1;rw[f]at this;simp at this;omega
  .rw[b.2.1,p,<- a.2.1];exact T9
  .have:=b.2.2;rw[r]at this;simp at this;omega
 .cases d
def HQ{t:Nat}{T:TypeId}{old:Option Nat}(h:HR P base ρ m.H w)(hold:∀ b,old=some b->b<=G9/\Hp.get m.H b≠some .frz)(f:x8 (gM old m) c t T g=some (v,m'))(r:I8 ρ m.n m'.hi):g9 ρ m m':=fun j l h1 a=>by
 have p:=y7 old m;unfold x8 at f;rw[iO f (h.dom j l h1),B0]
 .cases old with
  | none=>exact a
  | some b =>
    show Hp.get (gN m b).H j=_;rw[g7];show Hp.get (m.H.set b none) j=_;obtain⟨q,d⟩:=hold b rfl;rw[E9 _ _ _ _ q (h.dom j l h1),B0]
    .exact a
    .intro e;subst e;exact d a
 .intro e;obtain⟨_,_,rfl⟩:=K5 f;rw[p.2.2]at e;subst e;rw[r m.n (A7 _) (Nat.lt_of_le_of_lt (Nat.le_of_eq p.2.2.symm) (J7 (gM old m).hi (gM old m).n).2)]at h1;cases h1
omit [Ora] in
def GX(h:P.info? e=some inf):G3 P e=some inf.size:=by unfold G3;rw[h]
def xH(f:vE P td)(d:NP td P m e wd x=some (v,m')):m.hi<=m'.hi/\m.lg.le m'.lg/\m.n<=m'.n:=by
 unfold NP at d;split at d
 .obtain⟨_,d⟩:=A2 d;split at d
  .rename_i p;have a:=gC f p;split at d
   .rename_i q;have b:=M0 q;have c:=l6 d;refine⟨?_,?_,?_⟩
    .have:=c.1;rw[(y7 _ _).1]at this;omega
    .rw[c.2.1,(y7 _ _).2.1,b.2.1];exact a.2.1
    .have:=c.2.2;rw[(y7 _ _).2.2]at this;omega
   .cases d
  .cases d
 .cases d
def JV(S:vE P td)(h:HR P base ρ m.H w)(d:NP td P m e wd x=some (v,m'))(X:I8 ρ m.n m'.hi)(hx:VR ρ x x')(hS:Sat m'.lg) :
  ∃ ρ',VR ρ' v x'/\St P base ρ ρ' m m' w w/\m.lg.le m'.lg/\g9 ρ m m':=by
 unfold NP at d;split at d
 .rename_i inf hi;obtain⟨h1,d⟩:=A2 d;obtain⟨h1,h2⟩:=B6 h1;have h1:=A0 h1;have h2:0<wd:=A1 h2;split at d
  .rename_i c gs old m1 L;have a:=gC S L;split at d
   .rename_i g m2 hj;have b:=M0 hj;have cm:=l6 d;have k1:=y7 old m2;have N:m'.lg=m1.lg:=by rw[cm.2.1,k1.2.1,b.2.1]
    have I:m2.hi<=m'.hi:=by have:=cm.1;rw[k1.1]at this;exact this
    obtain⟨M,J,e2,e3,e4⟩:=FX S h L (X.less (B8 b.1 I)) hx (by rw[<- N];exact hS) h2 (h1▸GX hi);have f:I8 M m1.n m'.hi:=X.step J;obtain⟨ρ2,lg,u,j2,j3,j4,j5,j6⟩:=cS J.hr hj (f.less I);have K:I8 ρ2 m2.n m'.hi:=f.step u;obtain⟨nul,rows,hc,az⟩:=e4.ex;have B:∀ {j l},M j=some l->Hp.get m2.H j=Hp.get m1.H j:=fun ay=>pF J.hr hj (f.less I) ay
    have hle:m.lg.le m'.lg:=by rw[N];exact a.2.1
    have p:(∀ b,old=some b->b<=G9/\Hp.get m2.H b≠some .frz)->g9 ρ m m':=fun hq=>(e3.trans J.ext j3).trans (fun b l L=>u.ext b l (J.ext b l L)) (HQ u.hr hq d K)
    rcases az with⟨rfl,rfl,rfl,hold⟩|⟨rfl,b0,ab,l,cap,C,fz,rfl,R,Z,A,T,Y,rfl,F,W,D,V,Q⟩
    .have q:∀ b,old=some b->∃ ab l,b<=G9/\Hp.get m2.H b=some ab/\ab.rw=true/\ρ2 b=some l/\l.on=false:=fun b r=>by
      obtain⟨ab,l,q1,q2,q3,q4,q5⟩:=hold b r;exact⟨ab,l,q1,by rw[B q4];exact q2,q3,u.ext _ _ q4,q5⟩
     obtain⟨E,q1,q2⟩:=xK u.hr q d K hc rfl hi h1;exact⟨E,q1,St.trans X J (St.trans f u q2),hle,p fun b r=>by
      obtain⟨ab,l,q1,q2,q3,_⟩:=q b r;exact⟨q1,fun he=>by rw[q2]at he;cases he;cases q3⟩⟩
    .have O:Hp.get m2.H b0=some ab:=by rw[B T];exact Z
     obtain⟨E,q1,q2⟩:=lO (w':=w) (cap:=cap) (sh:=l.sh) u.hr R O A (u.ext _ _ T) Y d K hc rfl hi h1 W D (Q lg.G fun b L l hl=>j6 b L l hl) j4 V ⟨rfl,rfl,rfl⟩ rfl (fun _ _=>rfl) F;exact⟨E,q1,St.trans X J (St.trans f u q2),hle,p fun b r=>by
      cases r;exact⟨R,fun he=>by rw[O]at he;cases he;cases A⟩⟩
   .cases d
  .cases d
 .cases d
def IZ:∀ (d:Nat),vE P (PD P d)
 | 0=>PE
 | d+1=>by
   have r:=IZ d;refine⟨fun{base ρ m m' w t v v' x b} h f n u p=>?_,fun{m m' t v x b} f=>?_⟩
   .unfold PD at f;split at f
    .split at f
     .split at f
      .rename_i B m1 q;have a:=eJ f;obtain⟨C,c1,c2,A,D⟩:=JV r h q (n.less a.1) u (p.le a.2.1);obtain⟨ρ2,l,d1,d2,d3,d4,d5,d6⟩:=zJ c2.hr f (n.step c2) c1 p;exact⟨ρ2,l,St.trans n c2 d1,d2,d3,d4,d5,A.trans d6,D.trans c2.ext (CA c2.hr f (n.step c2))⟩
      .cases f
     .cases f
    .exact PE.ok h f n u p
   .unfold PD at f;split at f
    .split at f
     .split at f
      .rename_i B m1 q;have a:=xH r q;have b:=eJ f;exact⟨B8 a.1 b.1,a.2.1.trans b.2.1,B8 a.2.2 b.2.2⟩
      .cases f
     .cases f
    .exact eJ f
def S9:vE P (tdP P):=IZ 3
def BN(d:oM P m t t2 x y=some (v,m')):m.hi<=m'.hi/\m.lg.le m'.lg/\m.n<=m'.n:=by
 unfold oM at d;split at d
 .rename_i e d2 hu r;cases p:bF d2 with
  | false=>rw[p]at d;cases d
  | true =>
    rw[p]at d;simp only[O7,D4]at d;split at d
    .obtain⟨_,d⟩:=A2 d;split at d
     .rename_i f;have a:=OJ S9 f;split at d
      .rename_i q;have b:=gC S9 q;have c:=kB d;exact⟨A6,a.2.1.trans (b.2.1.trans c.2.1),A6⟩
      .split at d
       .obtain⟨_,d⟩:=A2 d;have c:=kB d;exact⟨A6,a.2.1.trans c.2.1,A6⟩
       .cases d
     .cases d
    .cases d
 .cases d
def OP.step(h:OP P ρ w wd bh gs y' rows2 new')(n:∀ b ∈ gs,∃ l,ρ b=some l)(he:∀ b l,ρ b=some l->ρ' b=some l):OP P ρ' w wd bh gs y' rows2 new' :=
 ⟨h.len,h.first,h.size,h.flat,fun R f=>h.rows R fun b a l d=>f b a l (he b l d),h.ev⟩
def OS{n:Nat}(h:OT P e n=true):∃ z,dK P e=some z/\z.cells.size=n:=by
 unfold OT at h;split at h
 .rename_i z a;exact⟨z,a,A0 h⟩
 .cases h
def IS(h:HR P base ρ m.H w)(Q:base<=w.heap.size)(q:oM P m t t2 x y=some (v,m'))(C:I8 ρ m.n m'.hi)(hx:VR ρ x x')(hy:VR ρ y y')(M:Sat m'.lg) :
  VOk P base ρ m w (Builtin.append_ #[t,t2] ty #[x',y']) v m':=by
 unfold oM at q;split at q
 .rename_i e d2 hu J;cases r:bF d2 with
  | false=>rw[r]at q;cases q
  | true =>
    rw[r]at q;simp only[O7,D4]at q;split at q
    .rename_i inf hi;obtain⟨hq,d⟩:=A2 q;clear q;obtain⟨Z,Y⟩:=B6 hq;obtain⟨V,ay⟩:=B6 Z;have E:=A1 V;have L:0<inf.size:=A1 ay;obtain⟨z,X,G⟩:=OS Y;have I:G3 P e=some inf.size:=by unfold G3;rw[hi]
     split at d
     .rename_i bh gs sure m1 B;split at d
      .rename_i c g0 old m2 N;have mb:=gC S9 N;have mp:=kB d;have D:I8 ρ m.n m1.hi:=C.less A6;obtain⟨A,rows2,new',p,a2,a3,a4,a5,a6⟩:=MD S9 h B D hy (M.le (mb.2.1.trans mp.2.1)) L I;have u:I8 A m1.n m'.hi:=C.step p;obtain⟨ρ2,T,b2,b3,b4⟩:=FX S9 p.hr N (u.less mp.1) (hx.mono p.ext) (M.le mp.2.1) L I;obtain⟨v',f,w3,c1,c2,O⟩:=JS (ty:=ty) hu J r hi X G E T.hr Q d (u.step T) M b4 (a5.step (fun b ax=>(a4 b ax).2) T.ext);exact⟨v',f,w3,c1,c2,St.trans C (St.trans (C.less mp.1) p T) O⟩
      .split at d
       .rename_i b c tg aw;obtain⟨R,K⟩:=A2 d;clear d;have R:=A0 R;have mp:=kB K;have D:I8 ρ m.n m1.hi:=C.less A6;obtain⟨A,rows2,new',p,a2,a3,a4,a5,a6⟩:=MD S9 h B D hy (M.le mp.2.1) L I;have u:I8 A m1.n m'.hi:=C.step p;obtain⟨l,d1,d2,d3,d4,d5⟩:=dO hx;obtain⟨nul,az,rows,q1,q2⟩:=dR d2 d3 d4;have W:az=inf.size:=A6;subst W;rw[q1]at d2;rcases p7 d2 with⟨rfl,rfl,rfl⟩|⟨rfl,a,cap,rfl,hc⟩
        .have F:WO P base A m1 w e inf.size c [b] none (.slice none 0 0):=⟨true,[],q1,.inl ⟨rfl,rfl,rfl,fun b Q=>by cases Q⟩⟩;obtain⟨v',f,w3,c1,c2,O⟩:=JS (ty:=ty) (g0:=[b]) (gs:=gs) hu J r hi X G E p.hr Q K u M F a5;exact⟨v',f,w3,c1,c2,St.trans C p O⟩
        .have S:cap=rows.length:=d5;subst S;obtain⟨v',f,w3,c1,c2,O⟩:=XK (ty:=ty) hu J r hi X G E p.hr Q K u M q1 (p.ext _ _ d1) (by rw[q1];exact d2) a5 (a6 rfl);exact⟨v',f,w3,c1,c2,St.trans C p O⟩
       .cases d
     .cases d
    .cases q
 .cases q
end
end
section
open Go
variable [Ora]
section
variable {P:Program} {base:Nat} {ρ ρ':Ren} {m m':Mem} {w w':World}
def DB(h:o+us.length<=row.length):(tH row o us).length=row.length:=by
 unfold tH;simp;omega
def RE(h:o+us.length<=row.length):(tH row o us)[j]? = if o<=j/\j<o+us.length then us[j-o]? else row[j]? := by
 unfold tH;have a:(row.take o).length=o:=by simp;omega
 by_cases h1:j<o
 .rw[B0 A6,S4,E8 A6,F2 h1]
 .by_cases d:j<o+us.length
  .rw[B2 ⟨A6,d⟩,S4,D6 A6,a,E8 A6]
  .rw[B0 A6,D6 (by simp;omega),H3];congr 1
   simp;omega
def M8.set{R:Nat->Option Obj}{s:Nat}{C C':R3}(h:M8 R rows wd C s)(hk:k<rows.length)(H:o+us.length<=wd)(he:Y3 R us vs)
  (hC:∀ j,C'[j]? = if s+k*wd+o<=j/\j<s+k*wd+o+vs.length then vs[j-(s+k*wd+o)]? else C[j]?):M8 R (rows.set k (tH (rows.getD k []) o us)) wd C' s:=by
 have a:rows[k]? = some rows[k]:=A3 hk;have D:rows.getD k []=rows[k]:=by rw[B3,a];rfl
 have p:rows[k].length=wd:=h.1 _ (H6 hk);rw[D];refine⟨fun row hr=>?_,fun r row j u v d a2 a3=>?_⟩
 .rcases Z3 hr with h1|rfl
  .exact h.1 row h1
  .rw[DB A6];exact p
 .rw[hC]at a3;by_cases n:k=r
  .subst n;rw[V6 hk]at d;have d:=A5 d;subst d;have B:=(A9.1 a2).1;rw[DB A6,p]at B;rw[RE A6]at a2;by_cases f:o<=j/\j<o+us.length
   .rw[B2 f]at a2;rw[B2 (by rw[<- he.1];omega)]at a3;exact he.2 (j-o) u v a2 (by rw[<- a3];congr 1;omega)
   .rw[B0 f]at a2;rw[B0 (by rw[<- he.1];omega)]at a3;exact h.2 k _ j u v a a2 a3
  .rw[aZ n]at d;have B:=(A9.1 a2).1;rw[h.1 _ (D8 d)]at B;have E:=(A9.1 d).1;have G:=he.1;rw[B0]at a3
   .exact h.2 r row j u v d a2 a3
   .rcases F5 r k with A|F
    .have q:(r+1)*wd<=k*wd:=E7 wd A;rw[G8]at q;omega
    .have q:(k+1)*wd<=r*wd:=E7 wd A6;rw[G8]at q;omega
def MW(h:HR P base ρ m.H w)(f:sT P m t x y=some (v,m'))(Q:I8 ρ m.n m'.hi)(hx:VR ρ x x')(hy:VR ρ y y')(hS:Sat m'.lg):UOk P base ρ m w (Instr.storeAt t x' y') m'/\v=undef/\m.lg.le m'.lg:=by
 unfold sT at f;split at f
 .rename_i b i tg z o ts ao;cases I:fW y with
  | true=>rw[I]at f;cases f
  | false =>
  rw[I]at f;simp only[D4]at f;split at f
  .rename_i xs gs m1 hd;split at f
   .rename_i c tc T g hg;obtain⟨Z,q⟩:=A2 f;clear f;have Z:=A0 Z;split at q
    .rename_i g2 m2 hj;rw[M3]at q;simp only[hole]at q;obtain⟨hs,rfl⟩:=kH q;obtain⟨ai,L⟩:=S2 hs;have md:=Q3 S9 hd;have mj:=M0 hj;have ag:m2.hi=m'.hi:=by rw[L];simp
     have M:m'.lg=dH m2 tg (.set (tg-10) o) (hole c tg::z::xs):=by rw[L];simp[hole]
     have O:m2.lg.le m'.lg:=by rw[M];exact⟨[_],rfl⟩
     have aw:I8 ρ m.n m1.hi:=Q.less A6;have W:m1.lg.le m'.lg:=by rw[<- mj.2.1];exact O
     obtain⟨K,J,e2,e3,e4,e5,e6⟩:=fD S9 h hd aw (hy.cells I) (hS.le W);have R:I8 K m1.n m2.hi:=(Q.step J).less A6;obtain⟨ρ2,lg,d1,d2,d3,d4,d5,d6⟩:=cS J.hr hj R;obtain⟨⟨l,wd,CV,k,a1,a2,a3,a4,a5,a6,rfl⟩,a8⟩:=rS hx;have F:=J.ext _ _ a1;obtain⟨a,inf,q1,q2,q3,q4⟩:=SqR.ex (J.hr.atl F hg).1;rcases q4 with⟨q4,_⟩|⟨_,q4⟩
     .rw[a2]at q4;cases q4
     obtain⟨C,fz,T',rows,N,f1,f2,f3,f4,f5,f6,f7,f8,f9⟩:=q4;have aj:a=wd:=by
      have:tg=10+wd:=by rw[<- a8,a3];rfl
      omega
     subst aj;obtain⟨rfl,f10⟩:=f9 rfl;have an:tg=10+a:=A6;have av:Sat (m2.wLg (dH m2 tg (.set (tg-10) o) (hole c tg::z::xs))).lg:=by rw[Z4,<- M];exact hS
     obtain⟨r1,r2,nul,af,rws,r3,r4⟩:=gQ av (.refl _);obtain⟨kk,hz⟩:=BM a4;have D:(hole c tg::z::xs).map (D5 Ora.env)=.seq false a rows::.int kk (.ofNat k)::xs.map (D5 Ora.env):=by
      show Ora.env c::D5 Ora.env z::xs.map (D5 Ora.env)=_;rw[f2,hz]
     rw[D,show tg-10=a by omega]at r1;have r1:Ora.env m2.lg.nx=if a=a/\k<rows.length/\o+(xs.map (D5 Ora.env)).length<=a then .seq false a (rows.set k (tH (rows.getD k []) o (xs.map (D5 Ora.env))))else .none:=r1
     by_cases hc:a=a/\k<rows.length/\o+(xs.map (D5 Ora.env)).length<=a
     .rw[B2 hc]at r1;obtain⟨_,Y,S⟩:=hc;have hR:∀ b' ∈ gs,∀ l',K b'=some l'->Sub l'.G lg.G:=fun b' ak l' ar=>d6 b' (.tail _ ak) l' ar
      have d:=e6 lg.G hR;have E:Sub N.G lg.G:=d6 g (.head _) N f7;have B:y'.cells.toList.length=(xs.map (D5 Ora.env)).length:=d.1.symm;have aq:(k+1)*a<=l.cap*a:=E7 a A6;rw[G8]at aq;obtain⟨w',g1,au,g3,g4,g5⟩:=X7 (P:=P) (b:=l.blk) (o:=l.sh+k*a+o) (fz:=fz) y'.cells.toList 0 C w f1 (yD d) (by rw[B];omega) f10;have ah:C.toList.length=C.size:=P9;have r:(Array.mk (aO C.toList (l.sh+k*a+o+0) y'.cells.toList)).size=C.size:=by simp[X9]
      have ay:∀ j,(Array.mk (aO C.toList (l.sh+k*a+o+0) y'.cells.toList))[j]? = if l.sh+k*a+o<=j/\j<l.sh+k*a+o+y'.cells.toList.length then y'.cells.toList[j-(l.sh+k*a+o)]? else C[j]? := fun j=>by
       rw[I6,iL _ _ _ _ (by rw[B];omega)];simp
      have p:M8 lg.G rows a C l.sh:=M8.mono ⟨f6,f8⟩ E;have u:St P base ρ ρ2 m (m2.wLg (dH m2 tg (.set (tg-10) o) (hole c tg::z::xs))) w w:=St.trans (Q.less (by simp;omega)) (St.trans (Q.less A6) J d1) (St.wLg d1.hr _);have A:Hp.get (m2.wLg (dH m2 tg (.set (tg-10) o) (hole c tg::z::xs))).H b=some (.sq c tc T' g false):=by rw[hZ,pF J.hr hj R F];exact hg
      have X:=d1.ext _ _ F;have al:BR P ρ2 (.sq m2.lg.nx tg T' g2 false) l w':=by
       refine⟨⟨a,inf,an,q2,q3,.inr ⟨a2,_,fz,T',_,lg,g4,r1,by rw[W6];exact f3,f4,by rw[r];exact f5,(p.set Y S d ay).1,d4,(p.set Y S d ay).2,fun _=>⟨rfl,by rw[r];exact f10⟩⟩⟩⟩
      have ax:=St.write u.hr hs A rfl X a2 au g3 g5 al (fun h=>by cases h);refine⟨⟨ρ2,w',?_,St.trans Q u ax⟩,rfl,md.2.1.trans W⟩;have V:=fE ao;have az:ts.length=(xs.map (D5 Ora.env)).length:=by
       have:=U4 List.length e5;rw[F0]at this;exact this.symm
      have e:y'.cells.size=ts.length:=by rw[az,<- B];simp
      simp[Instr.storeAt,Instr.sureAddr,storeVar,A4,J5 V,Result.andThen,e,g1]
     .rw[B0 hc]at r1;rw[r1]at r3;cases r3
    .cases q
   .cases f
  .cases f
 .cases f
def MY{lo' hi' mx':O8}(h:HR P base ρ m.H w)(a:sW P m t x lo hi mx=some (v,m'))(M:I8 ρ m.n m'.hi)(F:VR ρ x x')(q:OR ρ lo lo')(p:OR ρ hi hi')(f:OR ρ mx mx')(D:Sat m'.lg) :
  VOk P base ρ m w (Instr.sliceAt t x' lo' hi' mx') v m'/\m.lg.le m'.lg:=by
 unfold sW at a;split at a
 .rename_i e b i tg hu;split at a
  .rename_i s u;obtain⟨d,a⟩:=A2 a;have d:=A0 d;obtain⟨l,h1,E,h3,S⟩:=kO F;obtain⟨⟨r,g1,g2⟩,⟨lg,rfl⟩,g4⟩:=BA (w:=w) hu u d h1 E h3 (fun h=>by cases h) a q p f D;exact⟨⟨r,ρ,w,g1,g2,St.wLg h lg⟩,g4⟩
  .cases a
 .rename_i e b i tg hu;split at a
  .rename_i s u;obtain⟨d,a⟩:=A2 a;have d:=A0 d;obtain⟨l,h1,E,h3,S,N⟩:=dO F;obtain⟨⟨r,g1,g2⟩,⟨lg,rfl⟩,g4⟩:=BA (w:=w) hu u d h1 E h3 (fun _=>N) a q p f D;exact⟨⟨r,ρ,w,g1,g2,St.wLg h lg⟩,g4⟩
  .cases a
 .rename_i e b i tg hu;split at a
  .rename_i s u;obtain⟨d,a⟩:=A2 a;have d:=A0 d;split at a
   .rename_i c tc L m1 Q;have B:∀ {m1:Mem},FI m1 L c tg false lo hi mx=some (v,m')->I7 m1 m'/\m1.lg.le m'.lg:=fun{m1} a=>by
     have go:∀ {m1:Mem} {l h:Value} {W:Bool},dS m1 L c tg l h W=some (v,m')->I7 m1 m'/\m1.lg.le m'.lg:=fun h=>by
      unfold dS at h;obtain⟨_,h⟩:=A2 h;rw[M3]at h;simp only[C7,J1]at h;obtain⟨_,rfl⟩:=h;exact⟨⟨_,rfl⟩,T9⟩
     unfold FI FH at a;split at a
     .exact go a
     .exact go (A2 a).2
     .split at a
      .rename_i K
       have:=go a;exact⟨(y6 K).1.trans this.1,(y6 K).2.trans this.2⟩
      .cases a
     .cases a
    obtain⟨⟨lg,G⟩,hle⟩:=B a;have O:m1.hi=m'.hi:=by rw[G];simp
    obtain⟨A,l,J,V,Y,T,R,X⟩:=zJ h Q (M.less A6) F (D.le hle);have mono:∀ {o o':O8},OR ρ o o'->OR A o o':=fun{o o'} h=>by
     cases o<;>cases o'<;>first|exact trivial|exact h.elim|exact VR.mono J.ext h
    obtain⟨⟨r,g1,g2⟩,⟨I,C⟩,g4⟩:=BA (w:=w) (cl:=false) hu u d V T R (fun h=>by cases h) a (mono q) (mono p) (mono f) D;subst C;exact⟨⟨r,A,w,g1,g2,St.trans (M.less (by simp)) J (St.wLg J.hr I)⟩,X.trans g4⟩
   .cases a
  .cases a
 .cases a
end
end
section
open Go
variable [Ora]
section
variable {P:Program} {base:Nat} {ρ ρ':Ren} {m m':Mem} {w w':World}
def wW{a':Addr}{n c':Nat}{a:List Int}(p:P.underlying s=some (.slice e))(q:P.underlying t=some .string)(he:P.underlying e=some (.int .u8))(d:(loadCells a' n).run P w=.ok (a.map (Value.int .u8)).toArray w) :
  (convert s t (.slice (some a') n c')).run P w=.ok (.string ⟨⟨a.map fun n=>UInt8.ofNat n.toNat⟩⟩) w:=by
 have:=run_bytesToString w a' n c' a d;have f:=lU a [];simp only[P6]at f;simp only[convert,A4,C8 p,C8 q,C8 he,Result.andThen];rw[this,show ByteArray.empty=ByteArray.mk ⟨[]⟩from rfl,f]
def zQ{n:Nat}(a:P.underlying s=some (.slice e))(d:P.underlying t=some .string)(he:P.underlying e=some (.int .u8)):(convert s t (.slice none n c)).run P w=.ok (.string ByteArray.empty) w:=by
 simp[convert,A4,C8 a,C8 d,C8 he,Result.andThen,Conv.bytesToString]
def CS{b:ByteArray}(D:P.underlying s=some ds)(E:P.underlying t=some (.slice e))(he:P.underlying e=some (.int .u8))(w:World) :
  ∃ (cap:Nat) (C:Array Value),b.size<=cap/\C.size=cap/\(∀ (i:Nat) (u:Value),(N3 b.data.toList)[i]? = some u->C[i]? = some u)/\(convert s t (.string b)).run P w=.ok (.slice (some ⟨w.heap.size,0,none⟩) b.size cap) { w.drew with heap:=w.heap.push (.cells C e (C.size,C.size+1)) }:=by
 let q:Question:=.appendCap b.size 0 e
 let cap:=q.cut (w.tape w.drawn q)
 have d:b.size<=cap:=by show b.size<=b.size+_;omega
 have f:(choose q).run P w=.ok cap w.drew:=by
  simp only[choose,Sem.run];rw[B0 (by simp[q,Question.forced])];rfl
 let C:R3:=(b.data.map fun b=>Value.int .u8 b.toNat)++Array.replicate (cap-b.size) (.int .u8 0)
 have hC:C.size=cap:=by
  have:b.data.size=b.size:=rfl;simp[C,this];omega
 refine⟨cap,C,d,hC,fun i u hi=>?_,?_⟩
 .have B:=(A9.1 hi).1;simp[N3]at B;have A:i<(b.data.map fun b=>Value.int .u8 b.toNat).size:=by simpa using B
  show((b.data.map fun b=>Value.int .u8 b.toNat)++Array.replicate (cap-b.size) (.int .u8 0))[i]? = some u;rw[J3 A]
  simpa [N3]using hi
 .have r:∀ w2:World,w2.heap[w.heap.size]? = some (.cells C e (0,0))->(markStringish ⟨w.heap.size,0,none⟩).run P w2=.ok () (w2.freeze { block:=w.heap.size,off:=C.size } 1):=fun w2 F=>by
   simp[markStringish,shape,freeze,Sem.run,World.shape?,F]
  have p:({ w.drew with heap:=w.heap.push (.cells C e (0,0)) }:World).freeze { block:=w.heap.size,off:=C.size } 1={ w.drew with heap:=w.heap.push (.cells C e (C.size,C.size+1)) }:=by
   unfold World.freeze;rw[B0 K3];congr 1;apply Array.ext_getElem?;intro i;rw[F4];by_cases hi:w.heap.size=i
   .subst hi;simp
   .rw[B0 hi];simp only[L2];rw[B0 (fun h=>hi h.symm),B0 (fun h=>hi h.symm)]
  have a:(convert s t (.string b)).run P w=(Conv.stringToBytes e b).run P w:=by
   cases ds<;>simp[convert,A4,C8 D,C8 E,C8 he,Result.andThen]
  rw[a];unfold Conv.stringToBytes;simp only[A4,show(choose (.appendCap b.size 0 e)).run P w=.ok cap w.drew from f,Result.andThen];have n:(newRow e C).run P w.drew=.ok ⟨w.heap.size,0,none⟩ { w.drew with heap:=w.heap.push (.cells C e (0,0)) }:=rfl;rw[show(newRow e ((b.data.map fun b=>Value.int .u8 b.toNat)++Array.replicate (cap-b.size) (.int .u8 0))).run P w.drew=_ from n];simp only[Result.andThen];rw[r _ (by simp),p];rfl
def BG:∀ {us:List U} {s:List UInt8} {vs:D0},wC us=some s->Y3 (fun k=>w.heap[k]?) us vs->∃ d:List Int,vs=d.map (Value.int .u8)/\s=d.map fun n=>UInt8.ofNat n.toNat
 | [],s,vs,h,he=>by
   cases h;have:vs=[]:=D2.1 he.1.symm;subst this;exact⟨[],rfl,rfl⟩
 | u::us,s,vs,h,he=>by
   unfold wC at h;split at h
   .rename_i heq;cases heq
   .rename_i n r heq;cases heq;split at h
    .split at h
     .rename_i l p;cases h;cases vs with
      | nil=>have:=he.1;simp at this
      | cons v B =>
        obtain⟨d,A,q⟩:=BG (vs:=B) p ⟨by have:=he.1;simpa using this,fun i a b h1 f=>he.2 (i+1) a b (by simpa using h1) (by simpa using f)⟩
        have:=kQ (he.2 0 _ v rfl rfl) rfl;subst this;exact⟨(Int.ofNat n)::d,by rw[A];rfl,by rw[q];rfl⟩
     .cases h
    .cases h
   .cases h
def BH:∀ {rows:List (List U)} {s:List UInt8},BI rows=some s->wC (rows.flatMap id)=some s/\(rows.flatMap id).length=rows.length/\∀ (r:Nat) (row:List U) (j:Nat) (u:U),rows[r]? = some row->row[j]? = some u->j=0/\(rows.flatMap id)[r]? = some u
 | [],s,h=>by cases h;exact⟨rfl,rfl,fun r row j u h=>by simp at h⟩
 | row::rows,s,h=>by
   unfold BI at h;split at h
   .rename_i heq;cases heq
   .rename_i n r heq;cases heq;split at h
    .rename_i f;split at h
     .rename_i l p;cases h;obtain⟨h1,d,h3⟩:=BH p;refine⟨?_,by show([U.int .u8 (Int.ofNat n)]++rows.flatMap id).length=_;rw[G1,d];simp;omega,fun q row j u a a2=>?_⟩
      .simp only[dY,id,Z2,P6,wC];rw[B2 f,h1]
      .cases q with
       | zero =>
         simp at a;subst a;cases j with
         | zero=>simp at a2;subst a2;exact⟨rfl,rfl⟩
         | succ j=>simp at a2
       | succ q =>
         obtain⟨B,A⟩:=h3 q row j u (by simpa using a) a2;exact⟨B,by simpa using A⟩
     .cases h
    .cases h
   .cases h
def mU{t:Nat}:∀ {l:D0},d7 t l=true->∀ v ∈ l,F9 v=t
 | [],_,v,a=>by cases a
 | x::r,h,v,a=>by
   obtain⟨h1,d⟩:=B6 (show(Nat.beq (F9 x) t && d7 t r)=true from h);rcases A8.1 a with rfl|a
   .exact A0 h1
   .exact mU d v a
def oC{R:Nat->Option Obj}(h:LR ρ cs cs')(f:∀ v ∈ cs,F9 v<10):Y3 R (cs.map (D5 Ora.env)) cs':=by
 refine⟨by simp[h.1],fun i u v a a2=>?_⟩;rw[F6]at a;cases d:cs[i]? with
 | none=>rw[d]at a;cases a
 | some x =>
   rw[d]at a;have a:=A5 a;subst a;exact .sc (r9 (h.2 i x v d a2) (f x (D8 d))).1
def EG(m m1:Mem):A0I m m1=⟨m.H,m.n,m.W,m1.hi,m1.lg⟩:=by cases m;cases m1;rfl
def St.kept{ρ:Ren}{m:Mem}{w:World}{hi:Nat}{lg:Lg}(h:HR P base ρ m.H w)(hh:m.hi<=hi):St P base ρ ρ m ⟨m.H,m.n,m.W,hi,lg⟩ w w :=
 ⟨fun _ _ h=>h,fun b l h1 a=>(by rw[h1]at a;cases a),A7 _,hh,fun h=>B8 h hh,h,fun _ h=>h,fun b h1 a=>absurd h1 a,fun _ _ _=>rfl,A7 _,⟨rfl,rfl,rfl⟩,fun b l h1 a=>(by rw[h1]at a;cases a),fun _ _ _ _=>rfl,fun _ h=>.inr h⟩
def UB(h:HR P base ρ m.H w)(hb:base<=w.heap.size)(d:FK P m s t x=some (v,m'))(S:I8 ρ m.n m'.hi)(hx:VR ρ x x')(Z:Sat m'.lg):VOk P base ρ m w (convert s t x') v m'/\m.lg.le m'.lg:=by
 unfold FK at d;split at d
 .rename_i e a n c N K;split at d
  .rename_i he;split at d
   .rename_i cs hr;obtain⟨D,d⟩:=A2 d;obtain⟨u,p,e2,r,L,O,e5⟩:=K9 d Z;obtain⟨lg,rfl⟩:=G7 d;have q:=St.wLg h lg;have J:=mU D;have key:∀ {a' c'} {M:D0},LR ρ cs M->(loadCells a' n).run P w=.ok ⟨M⟩ w->VOk P base ρ m w (convert s t (.slice (some a') n c')) v (m.wLg lg):=fun{a' c' M} X ay=>by
     have ax:Y3 (fun k=>w.heap[k]?) (cs.map (D5 Ora.env)) M:=oC X (fun v hv=>by rw[J v hv];omega);have I:∃ f,wC (cs.map (D5 Ora.env))=some f/\u=.str f:=by
      have p:(match wC (cs.map (D5 Ora.env))with|some s=>U.str s|none=>.none)=u:=p;split at p
      .rename_i f A;exact⟨f,A,p.symm⟩
      .subst p;cases L
     obtain⟨f,q1,rfl⟩:=I;cases L;obtain⟨ns,r1,r2⟩:=BG (w:=w) q1 ax;subst r1;subst r2;exact⟨_,ρ,w,wW N K he ay,O ρ,q⟩
    refine⟨?_,H1 d⟩;rcases M9 hx with⟨l,X,_,_,rfl⟩|⟨l,c',X,_,_,_,_,rfl⟩|⟨a',c',_,rfl,_,rfl⟩
    .obtain⟨M,g1,g2,g3⟩:=Y9 h hr X;exact key g1 (J0 g2 g3)
    .obtain⟨M,g1,g2,g3⟩:=Y9 h hr X;exact key g1 (J0 g2 g3)
    .have:cs=[]:=by
      unfold n9 at hr;split at hr
      .have:=(gA hr).2;simpa using this
      .cases hr
     subst this;exact key .nil (by simp[loadCells,loadCellsFrom])
   .cases d
  .cases d
 .rename_i e fn a1 a2 N K;split at d
  .rename_i he;split at d
   .rename_i hh b m1 hd;rw[EG]at d;obtain⟨u,p,e2,r,L,O,e5⟩:=K9 d Z;have hle:=H1 d;obtain⟨lg,rfl⟩:=G7 d;obtain⟨Q,l,d1,d2,d3,d4,d5,d6⟩:=zJ h hd (S.less (by simp[Mem.wLg])) hx (Z.le hle);have q:St P base ρ ρ m (Mem.wLg ⟨m.H,m.n,m.W,m1.hi,m1.lg⟩ lg) w w:=St.kept h d1.hle;obtain⟨nul,wd,rows,q1,q2⟩:=dR d4 d5 A6;have az:wd=1:=A6;subst az;rw[q1]at d4;have I:∃ f,BI rows=some f/\u=.str f:=by
     have p:evU .str [D5 Ora.env hh]=u:=p;rw[q1]at p;have p:(if 1=1 then(match BI rows with|some s=>U.str s|none=>.none)else .none)=u:=p;rw[B2 rfl]at p;split at p
     .rename_i f A;exact⟨f,A,p.symm⟩
     .subst p;cases L
    obtain⟨f,A,rfl⟩:=I;cases L;refine⟨?_,d6.trans hle⟩;have hG:=(d1.hr.atl d2 d3).1.2;rcases p7 d4 with⟨rfl,rfl,rfl⟩|⟨rfl,a,c,rfl,hc⟩
    .cases A;exact⟨_,ρ,w,zQ N K he,O ρ,q⟩
    .obtain⟨_,new',g1,g2,g3,g4⟩:=pQ (w:=w) d4 hG;obtain⟨k1,k2,k3⟩:=BH A;have V:Y3 (fun k=>w.heap[k]?) (rows.flatMap id) new':=by
      refine⟨by rw[k2,g1];simp,fun i u v b1 b2=>?_⟩;have B:i<rows.length:=by have:=(A9.1 b1).1;rw[k2]at this;exact this
      have au:rows[i].length=1:=g3.1 _ (H6 B);have F:rows[i]? = some rows[i]:=A3 B;have h0:rows[i][0]? = some (rows[i][0]' A6):=A3 A6;obtain⟨_,k4⟩:=k3 i _ 0 _ F h0;rw[b1]at k4;have k4:=A5 k4;rw[k4];exact(g3.2 i _ 0 _ v F h0 (by simpa using b2)).mono hG
     obtain⟨ns,r1,r2⟩:=BG (w:=w) k1 V;subst r1;subst r2;have av:(ns.map (Value.int .u8)).length=rows.length:=by rw[g1];omega
     exact⟨_,ρ,w,wW N K he (iU av g4),O ρ,q⟩
   .cases d
  .cases d
 .rename_i y _ _ _ ds e N K;obtain⟨D,d⟩:=A2 d;have D:=A0 D;split at d
  .rename_i he;split at d
   .rename_i E;split at d
    .rename_i g m1 hj;rw[M3]at d;simp only[hole]at d;have d:x8 (m1.wLg (dH m1 11 .byt [y])) m1.lg.nx 11 e g=some (v,m'):=d;have mj:=M0 hj;have mn:=l6 d;simp only[GG,Z4,OX]at mn;obtain⟨Q,lg,p,e2,L,O,e5,e6⟩:=cS h hj (S.less A6);have q:St P base ρ Q m (m1.wLg (dH m1 11 .byt [y])) w w:=St.trans (S.less (by simp;omega)) p (St.wLg p.hr _);obtain⟨f,rfl,f1⟩:=i7 hx D;obtain⟨r1,r2,_⟩:=gQ (m:=m1) (t:=11) (op:=.byt) (xs:=[y]) (lg:=m'.lg) Z (by rw[Z4,mn.2.1];exact .refl _);have r1:Ora.env m1.lg.nx=evU .byt [D5 Ora.env y]:=r1;rw[f1]at r1;have r1:Ora.env m1.lg.nx=.seq false 1 (lC f):=r1;obtain⟨cap,C,c1,c2,c3,c4⟩:=CS (P:=P) (b:=⟨⟨f⟩⟩) N K he w;obtain⟨inf,T,Y⟩:∃ inf,P.info? e=some inf/\inf.size=1:=by
      unfold G3 at E;cases hi:P.info? e with
      | none=>rw[hi]at E;cases E
      | some inf=>rw[hi]at E;exact⟨inf,rfl,A5 E⟩
     have aw:ByteArray.size ⟨⟨f⟩⟩=f.length:=rfl;rw[aw]at c1 c4;obtain⟨ρ2,q1,q2⟩:=aP (w':={ w.drew with heap:=w.heap.push (.cells C e (C.size,C.size+1)) }) (cap:=cap) (C:=C) q.hr hb d (by simpa using(S.less (A7 _)).step p) r1 rfl T Y (by rw[eP];exact c1) A6
      ((CU (R:=lg.G) f).move (o':=0) fun i hi=>by
        rw[eP]at hi;have B:i<(N3 f).length:=by simp[N3];omega
        rw[E1,c3 i (N3 f)[i] (A3 B)];simp[B]) O (fun i hi hh=>by have:=hh.1;simp only at this;omega) ⟨rfl,rfl,rfl⟩ rfl
     rw[eP]at q1;exact⟨⟨_,ρ2,_,c4,q1,St.trans S q q2⟩,by rw[mn.2.1,<- mj.2.1];exact⟨[_],rfl⟩⟩
    .cases d
   .cases d
  .cases d
 .cases d
def NE(hu:P.underlying t=some (.slice e))(hi:P.info? e=some inf)(p:inf.bytes<=90000)(h0:0<inf.size)(h:∀ w,(zeroValue e).run P w=.ok z w)(hk:k<=rG)(w:World) :
  (Instr.makeSlice t (.int .i64 (Int.ofNat k)) (.int .i64 (Int.ofNat k))).run P w=.ok (.slice (some ⟨w.heap.size,0,none⟩) k k) { w with heap:=w.heap.push (.cells ((Array.range (k*inf.size)).map (z.cells[· % z.cells.size]!)) e (0,0)) }:=by
 have hk:k<=1000000000:=hk;have r:G3 P e=some inf.size:=by simp[G3,hi]
 have wl:IntKind.i64.wrap (Int.ofNat k)=Int.ofNat k:=mI .i64 k (by simp only[GJ];omega);have hm:k*inf.bytes<=1000000000*90000:=jR hk p;have a:(askRoom (k*inf.bytes)).run P w=.ok () w:=by
  unfold askRoom roomBytes;rw[B0 A6];rfl
 have d:((inf.bytes:Int)*(k:Int))=((k*inf.bytes:Nat):Int):=by rw[V5];simp
 unfold Instr.makeSlice;simp only[A4,C8 hu,asInt,asIntOf,Result.andThen,Sem.run_pure,T4 hi,wl];rw[B0]
 .have n:(Int.ofNat k).toNat=k:=by simp
  simp only[A4,Sem.run_pure,Result.andThen,n,a,J5 r];by_cases f:k*inf.size=0
  .have q:∀ z:R3,Array.map (fun x=>z[x%z.size]!) (Array.range (k*inf.size))=⟨[]⟩:=fun z=>by rw[f];apply I1;simp
   simp only[B2 f,q];rfl
  .simp only[B0 f,A4,Sem.run_pure,Result.andThen,h];rfl
 .have u:Int.ofNat k=(k:Int):=rfl;simp only[u,d];simp;omega
def OQ{R:Nat->Option Obj}{s:Nat}(h0:0<s)(d:z.cells.size=s)(q:LR ρ z.cells.toList z.cells.toList)(p:∀ v ∈ z.cells.toList,F9 v<10):M8 R (List.replicate k (z.cells.toList.map (D5 Ora.env))) s ((Array.range (k*s)).map (z.cells[· % z.cells.size]!)) 0:=by
 have he:=oC (R:=R) q p;refine⟨fun row hr=>?_,fun r row j u v g1 g2 g3=>?_⟩
 .rw[(List.mem_replicate.1 hr).2];simp[d]
 .have hr:=(A9.1 g1).1;rw[List.length_replicate]at hr;rw[List.getElem?_replicate,B2 hr]at g1;cases g1;have n:=(A9.1 g2).1;simp only[F0,P9]at n;rw[d]at n;have hm:(r*s+j)%s=j:=by rw[V5,Nat.mul_add_mod,Nat.mod_eq_of_lt n]
  have f:r*s+j<k*s:=by
   have:(r+1)*s<=k*s:=E7 s hr;rw[G8,dW]at this;omega
  rw[E1,Array.getElem?_map,Array.getElem?_range,B2 f]at g3;simp only[I9,C7,d,hm]at g3;have a:j<z.cells.size:=A6;rw[getElem!_pos z.cells j a]at g3;refine he.2 j u v g2 ?_;rw[N6,E4 a,g3]
def SB{l c:Value}(h:HR P base ρ m.H w)(Q:base<=w.heap.size)(a:DY P m t l c=some (v,m'))(C:I8 ρ m.n m'.hi)(O:VR ρ l l')(N:VR ρ c c')(L:Sat m'.lg):VOk P base ρ m w (Instr.makeSlice t l' c') v m'/\m.lg.le m'.lg:=by
 unfold DY at a;split at a
 .rename_i e i T j W hu;obtain⟨d,B⟩:=A2 a;clear a;obtain⟨d,h3⟩:=B6 d;obtain⟨h1,D⟩:=B6 d;have h1:=A0 h1;have D:=A0 D;have h3:=A0 h3;subst h1 D h3;have a:=B;clear B;split at a
  .rename_i inf hi;obtain⟨d,a⟩:=A2 a;obtain⟨p,f⟩:=B6 d;have p:=A1 p;have f:0<inf.size:=A1 f;split at a
   .rename_i z J;obtain⟨d,a⟩:=A2 a;obtain⟨u,r⟩:=B6 d;have u:=A0 u;have r:∀ v ∈ z.cells.toList,F9 v<10:=fun v M=>A1 (D3.1 r v M)
    split at a
    .rename_i g m1 I;rw[M3]at a;simp only[hole]at a;have a:x8 (m1.wLg (dH m1 (10+inf.size) (.rep inf.size) (hole i 3::z.cells.toList))) m1.lg.nx (10+inf.size) e g=some (v,m'):=a;have S:=M0 I;have E:=l6 a;simp only[GG,Z4,OX]at E;obtain⟨F,lg,G,e2,X,R,V,e6⟩:=cS h I (C.less A6);have A:St P base ρ F m (m1.wLg (dH m1 (10+inf.size) (.rep inf.size) (hole i 3::z.cells.toList))) w w:=St.trans (C.less (by simp;omega)) G (St.wLg G.hr _);obtain⟨k,n,rfl,f1,f2⟩:=L3 (v:=hole i 3) O (show(3:Nat)<8 by decide);obtain⟨k2,Z,rfl,f3,f4⟩:=L3 (v:=hole i 3) N (show(3:Nat)<8 by decide);rw[f1]at f3;cases f3;obtain⟨r1,r2,nul,wd,rows,K,Y⟩:=gQ (m:=m1) (t:=10+inf.size) (op:=.rep inf.size) (xs:=hole i 3::z.cells.toList) (lg:=m'.lg) L (by rw[Z4,E.2.1];exact .refl _);have r1:Ora.env m1.lg.nx=evU (.rep inf.size) (D5 Ora.env (hole i 3)::z.cells.toList.map (D5 Ora.env)):=r1;rw[f1]at r1;have hk:k=.i64:=by
      have f2:(3:Nat)=eU k:=f2;cases k<;>first|rfl|(exfalso;revert f2;decide)
     subst hk;cases n with
     | negSucc q=>rw[K]at r1;cases r1
     | ofNat q =>
       have r1:Ora.env m1.lg.nx=if(z.cells.toList.map (D5 Ora.env)).length=inf.size/\q<=rG then .seq false inf.size (List.replicate q (z.cells.toList.map (D5 Ora.env)))else .none:=r1
       by_cases d:(z.cells.toList.map (D5 Ora.env)).length=inf.size/\q<=rG
       .rw[B2 d]at r1;obtain⟨ρ2,q1,q2⟩:=aP (w':={ w with heap:=w.heap.push (.cells ((Array.range (q*inf.size)).map (z.cells[· % z.cells.size]!)) e (0,0)) }) (cap:=q) (fz:=(0,0)) A.hr Q a (by simpa using(C.less (A7 _)).step G) r1 rfl hi rfl (by simp) (by simp)
         (OQ (ρ:=ρ) f u (mG J) r) R (fun i hi hh=>by have:=hh.2;simp only at this;omega) ⟨rfl,rfl,rfl⟩ rfl
        rw[List.length_replicate]at q1;exact⟨⟨_,ρ2,_,NE hu hi p f (fun w=>s9 J w) d.2 w,q1,St.trans C A q2⟩,by rw[E.2.1,<- S.2.1];exact⟨[_],rfl⟩⟩
       .rw[B0 d,K]at r1;cases r1
    .cases a
   .cases a
  .cases a
 .cases a
end
end
section
open Go
variable [Ora]
section
variable {P:Program} {base:Nat} {ρ ρ':Ren} {m m':Mem} {w w':World}
def JZ{t:Nat}(h:R4 m 8 .nilp [hole i t]=some (v,m'))(hi:Ora.env i=.seq nul wd rows)(n:Sat m'.lg):VR ρ v (.bool nul)/\I7 m m'/\m.lg.le m'.lg:=by
 obtain⟨u,d,A,r,p,f,q⟩:=K9 h n;have a:[hole i t].map (D5 Ora.env)=[.seq nul wd rows]:=by
  show[Ora.env i]=_;rw[hi]
 rw[a]at d;have d:U.bool nul=u:=d;subst d;cases p;exact⟨f ρ,G7 h,H1 h⟩
def wX{x y:Operand}{a:Option Addr}{n:Nat}(hu:P.underlying t=some (.slice e))(C:(a=none/\n=0/\c=0/\nul=true)∨(nul=false/\∃ q:Addr,a=some q/\n<=c))(p:op=.eql∨op=.neq)(w:World) :
  (do eqGuard op t x y (.slice a n c) (.slice none 0 0);binOp op t (.slice a n c) (.slice none 0 0):Sem Value).run P w=.ok (.bool (if op=.eql then nul else !nul)) w:=by
 have key:∀ {ρ:Ren} {am:Value},VR ρ am (.slice a n c)->iY P t x y am (.slice none 0 0)=true->oI P .eql t am (.slice none 0 0)=some (.bool nul)->oI P .neq t am (.slice none 0 0)=some (.bool !nul) ->
   (do eqGuard op t x y (.slice a n c) (.slice none 0 0);binOp op t (.slice a n c) (.slice none 0 0):Sem Value).run P w=.ok (.bool (if op=.eql then nul else !nul)) w:=fun{ρ am} u r h1 A=>by
  have f:VR ρ (.slice none 0 0) (.slice none 0 0):=.pure rfl;have h:=nU (op:=op) (fun _=>r) u f w;rcases p with rfl|rfl
  .obtain⟨g1,_⟩:=sE h1 u f w;simp[A4,h,g1,Result.andThen]
  .obtain⟨g1,_⟩:=sE A u f w;simp[A4,h,g1,Result.andThen]
 rcases C with⟨rfl,rfl,rfl,rfl⟩|⟨rfl,q,rfl,D⟩
 .refine key (ρ:=fun _=>none) (am:=.slice none 0 0) (.pure rfl) rfl ?_ ?_
  .simp[oI,xB,eqM,hu]
  .simp[oI,xB,eqM,hu]
 .obtain⟨d,B⟩:∃ d,Op.maxDepth=d+1:=⟨Op.maxDepth-1,rfl⟩;have he:∀ w,(Op.equal t (.slice (some q) n c) (.slice none 0 0)).run P w=.ok false w:=fun w=>by
   rw[Op.equal,B];simp[Op.equalIn,A4,C8 hu,Result.andThen]
  have r:∀ o:BinOp,(eqGuard o t x y (.slice (some q) n c) (.slice none 0 0)).run P w=.ok () w:=fun o=>by
   unfold eqGuard;cases o<;>rfl
  rcases p with rfl|rfl
  .rw[A4,r];show(do pure (.bool (<- Op.equal t (.slice (some q) n c) (.slice none 0 0))):Sem Value).run P w=_;rw[A4,he];rfl
  .rw[A4,r];show(do pure (.bool (!(<- Op.equal t (.slice (some q) n c) (.slice none 0 0)))):Sem Value).run P w=_;rw[A4,he];rfl
def XQ{x y:Operand}{a a' b:Value}(D:RT P m op t x y a b=some (v,m'))(K:VR ρ a a')(Q:VR ρ b b')(F:Sat m'.lg) :
  (∃ r,(do eqGuard op t x y a' b';binOp op t a' b':Sem Value).run P w=.ok r w/\VR ρ v r)/\I7 m m'/\m.lg.le m'.lg:=by
 unfold RT at D;split at D
 .rename_i e k R i tg hu;obtain⟨d,f⟩:=A2 D;clear D;obtain⟨d,hk⟩:=B6 d;obtain⟨d,L⟩:=B6 d;have I:b'=.slice none 0 0:=by
   unfold SS at d;split at d
   .exact N9 Q
   .cases d
  subst I;obtain⟨nul,wd,rows,A,n,c,C,rfl,M⟩:∃ nul wd rows A n c,Ora.env i=.seq nul wd rows/\a'=.slice A n c/\((A=none/\n=0/\c=0/\nul=true)∨(nul=false/\∃ q:Addr,A=some q/\n<=c)):=by
   have h:∀ {l:Loc},Enc l.G (Ora.env i) a'->F3 (Ora.env i)=tg->10<=tg->∃ nul wd rows A n c,Ora.env i=.seq nul wd rows/\a'=.slice A n c/\((A=none/\n=0/\c=0/\nul=true)∨(nul=false/\∃ q:Addr,A=some q/\n<=c)):=fun p h3 B=>by
    obtain⟨nul,wd,rows,C,_⟩:=dR p h3 B;rw[C]at p;rcases p7 p with⟨rfl,rfl,rfl⟩|⟨rfl,q,c,rfl,O⟩
    .exact⟨_,_,_,_,_,_,C,rfl,.inl ⟨rfl,rfl,rfl,rfl⟩⟩
    .exact⟨_,_,_,_,_,_,C,rfl,.inr ⟨rfl,q,rfl,O⟩⟩
   rcases(G0 _ _).mp hk with hk|hk
   .rcases(G0 _ _).mp hk with hk|hk
    .have:=A0 hk;subst this;obtain⟨l,_,p,h3,B⟩:=kO K;exact h p h3 B
    .have:=A0 hk;subst this;obtain⟨l,_,p,h3,B,_⟩:=dO K;exact h p h3 B
   .have:=A0 hk;subst this;rcases(aF K).1 with⟨l,wd,h1,p,h3,rfl⟩|⟨l,wd,rows,h1,p,h3,B,J,rfl⟩
    .exact⟨_,_,_,_,_,_,h3,rfl,.inl ⟨rfl,rfl,rfl,rfl⟩⟩
    .exact⟨_,_,_,_,_,_,h3,rfl,.inr ⟨rfl,_,rfl,J⟩⟩
  split at f
  .rename_i r E;cases f;obtain⟨g1,g2,g3⟩:=JZ (ρ:=ρ) E C F;exact⟨⟨_,wX hu M (.inl rfl) w,g1⟩,g2,g3⟩
  .rename_i hh m1 E;have hle:=H1 f;obtain⟨g1,g2,g3⟩:=JZ (ρ:=ρ) E C (F.le hle);obtain⟨u,f1,f2,r,f3,f4,f5⟩:=K9 f F;obtain⟨rfl,N⟩:=fT E;have H:D5 Ora.env (hole m.lg.nx 8)=.bool nul:=by
    obtain⟨q1,_⟩:=r9 g1 (by show(8:Nat)<10;omega);cases d:D5 Ora.env (hole m.lg.nx 8)with
    | bool b=>rw[d]at q1;cases q1;rfl
    | int k n=>rw[d]at q1;cases q1
    | str s=>rw[d]at q1;cases q1
    | none=>rw[d]at q1;cases q1
    | seq _ _ _=>rw[d]at q1;cases q1
   have f1:ev1 .not (D5 Ora.env (hole m.lg.nx 8))=u:=f1;rw[H]at f1;have f1:U.bool (!nul)=u:=f1;subst f1;cases f3;exact⟨⟨_,wX hu M (.inr rfl) w,f4 ρ⟩,g2.trans (G7 f),g3.trans hle⟩
  .cases f
 .cases D
def A12{fr:Fr}{g:Operand->Value}{o:Oper}(h:HR P base ρ m.H w)(D:base<=w.heap.size)(d:dsM P fr m o.op=some (v,m'))(B:I8 ρ m.n m'.hi)(I:FR ρ fr g o.op)(f:Sat m'.lg):NOk P base ρ m w (execOp g o) v m':=by
 obtain⟨dst,op,ty,pos,K,J⟩:=o;simp only at d I;have a:∀ {x},x ∈ op.operands.toList->VR ρ (ev fr x) (g x):=fun A=>I _ A
 have fin:∀ {s:Sem Value},(∃ r,s.run P w=.ok r w/\VR ρ v r)->I7 m m'->NOk P base ρ m w (do pure (.value (<- s))) v m':=fun{s} ⟨r,h1,L⟩ ⟨lg,N⟩=>by
  subst N;exact NOk.of ⟨r,ρ,w,h1,L,St.wLg h lg⟩
 unfold dsM at d;split at d
 .rename_i t x y;exact NOk.of (SB h D d B (a (x:=x) (by simp[Op.operands])) (a (x:=y) (by simp[Op.operands])) f).1
 .rename_i t x;obtain⟨g1,g2,_⟩:=SE (w:=w) h d (a (x:=x) (by simp[Op.operands])) f;exact fin (s:=Instr.loadAt t (g x)) g1 g2
 .rename_i t x y;obtain⟨g1,rfl,_⟩:=MW h d B (a (x:=x) (by simp[Op.operands])) (a (x:=y) (by simp[Op.operands])) f;exact NOk.ofU (s:=Instr.storeAt t (g x) (g y)) g1
 .rename_i t x i;obtain⟨g1,g2,_⟩:=EL (w:=w) d (a (x:=x) (by simp[Op.operands])) (a (x:=i) (by simp[Op.operands])) f;exact fin (s:=Instr.indexAt t (g x) (g i)) g1 g2
 .rename_i s x i;obtain⟨g1,rfl⟩:=FD (w:=w) d (a (x:=x) (by simp[Op.operands]));exact fin (s:=Instr.fieldAt s (g x) i) g1 (.refl _)
 .rename_i t x lo hi mx;obtain⟨g1,_⟩:=MY h d B (a (x:=x) (by simp[Op.operands])) (fY (g:=g) fun y p=>a (by simp[Op.operands]at p ⊢;exact .inr (.inl p))) (fY (g:=g) fun y p=>a (by simp[Op.operands]at p ⊢;exact .inr (.inr (.inl p)))) (fY (g:=g) fun y p=>a (by simp[Op.operands]at p ⊢;exact .inr (.inr (.inr p)))) f;exact NOk.of (s:=Instr.sliceAt t (g x) (lo.map g) (hi.map g) (mx.map g)) g1
 .rename_i s t x;exact NOk.of (UB h D d B (a (x:=x) (by simp[Op.operands])) f).1
 .rename_i op t x y O;obtain⟨g1,g2,_⟩:=XQ (w:=w) d (a (x:=x) (by simp[Op.operands])) (a (x:=y) (by simp[Op.operands])) f;exact fin (s:=do eqGuard op t x y (g x) (g y);binOp op t (g x) (g y)) g1 g2
 .rename_i xs tys;have l1:=bG (ρ:=ρ) (fr:=fr) (g:=g) (xs:=xs.toList) fun x A=>a (by show x ∈ (#[]++xs:Array Operand).toList;simpa using A)
  split at d
  .rename_i x t rest q u;rw[q]at l1;obtain⟨x',r1,C,q1,q2⟩:=l1.tail
   have:=q2.nil_inv;subst this;obtain⟨g1,g2,_⟩:=YB (w:=w) (ty:=ty) (tys:=rest) d q1 f;obtain⟨ks,F⟩:∃ ks,execOp g ⟨dst,.call ⟨.builtin .len,xs,tys⟩,ty,pos,K,J⟩=builtin .len tys ty ks (xs.map g):=⟨#[],rfl⟩;have G:xs.map g=⟨xs.toList.map g⟩:=by apply I1;simp
   have E:tys=⟨t::rest⟩:=by rw[<- u]
   rw[F,G,C,E];exact fin (s:=Builtin.len_ ⟨t::rest⟩ ty #[x']) g1 g2
  .cases d
 .rename_i xs tys;have l1:=bG (ρ:=ρ) (fr:=fr) (g:=g) (xs:=xs.toList) fun x A=>a (by show x ∈ (#[]++xs:Array Operand).toList;simpa using A)
  split at d
  .rename_i x y t t2 rest q u;rw[q]at l1;obtain⟨x',r1,C,q1,q2⟩:=l1.tail;obtain⟨y',r2,M,q3,q4⟩:=q2.tail
   have:=q4.nil_inv;subst this
   have:=IS (ty:=ty) h D d B q1 q3 f;obtain⟨ks,F⟩:∃ ks,execOp g ⟨dst,.call ⟨.builtin .append,xs,tys⟩,ty,pos,K,J⟩=builtin .append tys ty ks (xs.map g):=⟨#[],rfl⟩;have G:xs.map g=⟨xs.toList.map g⟩:=by apply I1;simp
   have E:tys=⟨t::t2::rest⟩:=by rw[<- u]
   rw[F,G,C,M,E];have e:Builtin.append_ ⟨t::t2::rest⟩ ty #[x',y']=Builtin.append_ #[t,t2] ty #[x',y']:=rfl;refine NOk.of (s:=Builtin.append_ ⟨t::t2::rest⟩ ty #[x',y']) ?_;rw[e];exact this
  .cases d
 .cases d
def dQ{wd o i t g:Nat}{z:Value}:∀ {ts:G6} {j:Nat} {m m':Mem} {r:D0},W4 wd o i t z g ts j m=some (r,m')->m.lg.le m'.lg
 | [],j,m,m',r,h=>by cases h;exact .refl _
 | tg::ts,j,m,m',r,h=>by
   unfold W4 at h;cases a:Nat.blt tg 10 with
   | true =>
     rw[a]at h;simp only[D9]at h;split at h
     .rename_i d;split at h
      .rename_i hr;cases h;exact(H1 d).trans (dQ hr)
      .cases h
     .cases h
   | false =>
     rw[a]at h;simp only[D4]at h;rw[ED]at h;split at h
     .rename_i hr;cases h;exact T9.trans (dQ hr)
     .cases h
def zC{r:Option (D0×Mem)}(h:jL P t r=some (v,m')):∃ vs,r=some (vs,m'):=by
 unfold jL at h;split at h
 .cases h;exact⟨_,rfl⟩
 .cases h;exact⟨_,rfl⟩
 .cases h
def SF(a:EC P m t x=some (v,m')):m.lg.le m'.lg:=by
 unfold EC at a;split at a
 .obtain⟨_,a⟩:=A2 a;obtain⟨vs,h⟩:=zC a;exact dQ h
 .split at a
  .obtain⟨_,a⟩:=A2 a;obtain⟨vs,h⟩:=zC a;exact dQ h
  .cases a
 .cases a
def MX(a:sT P m t x y=some (v,m')):m.lg.le m'.lg:=by
 unfold sT at a;split at a
 .cases d:fW y with
  | true=>rw[d]at a;cases a
  | false =>
    rw[d]at a;simp only[D4]at a;split at a
    .rename_i f;split at a
     .obtain⟨_,a⟩:=A2 a;split at a
      .rename_i n;rw[M3]at a;simp only[hole]at a;obtain⟨p,_⟩:=kH a;have md:=Q3 S9 f;have q:=M0 n;refine md.2.1.trans ?_;rw[(S2 p).2,<- q.2.1];simp only[Z4];exact⟨[_],rfl⟩
      .cases a
     .cases a
    .cases a
 .cases a
def YI{t:Nat}{k:Value}(h:EN m i t z k=some (v,m')):m.lg.le m'.lg:=by
 unfold EN at h;cases a:!(Nat.blt (F9 z) 8)with
 | true=>rw[a]at h;cases h
 | false =>
   rw[a]at h;simp only[D4]at h;split at h
   .rename_i d;split at h
    .rename_i f;cases h;exact(H1 d).trans (cZ f)
    .cases h
   .cases h
def EM(h:iX P m t x z=some (v,m')):m.lg.le m'.lg:=by
 unfold iX at h;split at h;all_goals first
  | (split at h
     .obtain⟨_,h⟩:=A2 h;exact YI h
     .cases h;done)
  | (split at h
     .obtain⟨_,h⟩:=A2 h;rw[E6]at h;cases h;exact .refl _
     .cases h;done)
  | cases h
def FE{f:Nat}(h:jB P m s x f=some (v,m')):m.lg.le m'.lg:=by
 unfold jB at h;split at h;all_goals first
  | (split at h
     .split at h
      .obtain⟨_,h⟩:=A2 h;rw[E6]at h;cases h;exact .refl _
      .cases h
     .cases h;done)
  | cases h
def BB{t:Nat}(a:FI m b i t cl lo hi mx=some (v,m')):m.lg.le m'.lg:=by
 have go:∀ {m1:Mem} {l h:Value} {f:Bool},dS m1 b i t l h f=some (v,m')->m1.lg.le m'.lg:=fun h=>by
  unfold dS at h;obtain⟨_,h⟩:=A2 h;rw[M3]at h;simp only[C7,J1]at h;obtain⟨_,rfl⟩:=h;exact T9
 unfold FI FH at a;split at a
 .exact go a
 .exact go (A2 a).2
 .split at a
  .rename_i d;exact(y6 d).2.trans (go a)
  .cases a
 .cases a
def MZ(a:sW P m t x lo hi mx=some (v,m')):m.lg.le m'.lg:=by
 unfold sW at a;split at a
 .split at a
  .exact BB (A2 a).2
  .cases a
 .split at a
  .exact BB (A2 a).2
  .cases a
 .split at a
  .obtain⟨_,a⟩:=A2 a;split at a
   .rename_i d;exact(eJ d).2.1.trans (BB a)
   .cases a
  .cases a
 .cases a
def UC(a:FK P m s t x=some (v,m')):m.lg.le m'.lg:=by
 unfold FK at a;split at a
 .split at a
  .split at a
   .exact H1 (A2 a).2
   .cases a
  .cases a
 .split at a
  .split at a
   .rename_i f;rw[EG]at a;have d:=H1 a;exact(eJ f).2.1.trans d
   .cases a
  .cases a
 .obtain⟨_,a⟩:=A2 a;split at a
  .split at a
   .split at a
    .rename_i n;rw[M3]at a;simp only[hole]at a;have p:=M0 n;rw[(l6 a).2.1,Z4,<- p.2.1];exact⟨[_],rfl⟩
    .cases a
   .cases a
  .cases a
 .cases a
def XR{x y:Operand}{a b:Value}(f:RT P m op t x y a b=some (v,m')):m.lg.le m'.lg:=by
 unfold RT at f;split at f
 .obtain⟨_,d⟩:=A2 f;clear f;split at d
  .rename_i n;cases d;exact H1 n
  .rename_i n;exact(H1 n).trans (H1 d)
  .cases d
 .cases f
def SC{l c:Value}(a:DY P m t l c=some (v,m')):m.lg.le m'.lg:=by
 unfold DY at a;split at a
 .obtain⟨_,a⟩:=A2 a;split at a
  .obtain⟨_,a⟩:=A2 a;split at a
   .obtain⟨_,a⟩:=A2 a;split at a
    .rename_i d;rw[M3]at a;simp only[hole]at a;have f:=M0 d;rw[(l6 a).2.1,Z4,<- f.2.1];exact⟨[_],rfl⟩
    .cases a
   .cases a
  .cases a
 .cases a
def A13{fr:Fr}{o:Op}(a:dsM P fr m o=some (v,m')):m.lg.le m'.lg:=by
 unfold dsM at a;split at a
 .exact SC a
 .exact SF a
 .exact MX a
 .exact EM a
 .exact FE a
 .exact MZ a
 .exact UC a
 .exact XR a
 .split at a
  .unfold YC at a;split at a
   .exact(y6 a).2
   .exact(y6 a).2
   .exact(y6 a).2
   .cases a
  .cases a
 .split at a
  .exact(BN a).2.1
  .cases a
 .cases a
end
end
end Go.Sx
