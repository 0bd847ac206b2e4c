import Derived.Test.YtbbicpheoakeeaaGreatDoorX3
set_option linter.all false
set_option maxRecDepth 100000
set_option maxHeartbeats 4000000
namespace Go.Sx
variable {rows rows2:List (List U)}{b c cap g i j k o o' sh wd:Nat}{e s t t2 ty:TypeId}{inf:TypeInfo}{fz:Nat×Nat}{b' c' l' v x x' y y' z:Value}{l:Loc}{g0 gs:H4}{cl nul sure:Bool}{d2 ds:TypeDesc}{bh:Beh}{cs cs' new' vs:D0}{td:Td}{row us:List U}{hi lo mx:Q3}{op:BinOp}
section
open Go
variable [Ora]
section
variable {P:Program} {base:Nat} {ρ ρ':Ren} {m m':Mem} {w w':World}
def O7.move{R:Nat->Option Obj}{C C':V8}(h:O7 R rows wd C o)(p:∀ i,i<rows.length*wd->C'[o'+i]? = C[o+i]?):O7 R rows wd C' o':=by
 refine⟨h.1,fun r row j u v a a2 a3=>h.2 r row j u v a a2 ?_⟩;have d:=(B0.1 a).1;have f:=(B0.1 a2).1;rw[h.1 _ (C8 a)]at f;have n:(r+1)*wd<=rows.length*wd:=F7 wd d;rw[H6]at n
 have:=p (r*wd+j) A2;rw[show o+r*wd+j=o+(r*wd+j) by omega,<- this,show o'+(r*wd+j)=o'+r*wd+j by omega];exact a3
def O7.append{R:Nat->Option Obj}{C:V8}(h:O7 R rows wd C o)(k:O7 R rows2 wd C (o+rows.length*wd)):O7 R (rows++rows2) wd C o:=by
 refine⟨fun row hr=>(B7.1 hr).elim (h.1 row) (k.1 row),fun r row j u v a a2 a3=>?_⟩;rcases F8 r rows.length with d|d
 .rw[F1 d]at a;exact h.2 r row j u v a a2 a3
 .rw[D8 d]at a;refine k.2 (r-rows.length) row j u v a a2 ?_;have:rows.length*wd+(r-rows.length)*wd=r*wd:=by rw[<- H6];congr 1;omega
  rw[show o+rows.length*wd+(r-rows.length)*wd+j=o+r*wd+j by omega];exact a3
def A8j{t:Nat}{T:TypeId}{lg:Loc}{C:V8}(q:Ora.env c=.seq false wd rows)(u:t=10+wd)(hi:P.info? T=some inf)(p:inf.size=wd)(f:rows.length<=cap)(d:sh+cap*wd<=C.size)
  (a:O7 lg.G rows wd C sh) (r:ρ g=some lg) (hw:w.heap[b]? = some (.cells C T fz)) (n:∀ i,i<C.size->¬ (fz.1<=i/\i<fz.2)):BR P ρ (.sq c t T g false) ⟨b,sh,cap,rows.length,fun _=>none,true⟩ w :=
 ⟨⟨wd,inf,u,hi,p,.inr ⟨rfl,C,fz,T,rows,lg,hw,q,rfl,f,d,a.1,r,a.2,fun _=>⟨rfl,n⟩⟩⟩⟩
def cO{t:Nat}{T:TypeId}{lg:Loc}{C:V8}(h:HR P base ρ m.H w)(I:base<=w.heap.size)(B:bH m c t T g=some (v,m'))(A:K2 ρ m.n m'.hi)
  (r:Ora.env c=.seq false wd rows) (u:t=10+wd) (hi:P.info? T=some inf) (J:inf.size=wd) (a:rows.length<=cap) (p:cap*wd<=C.size) (d:O7 lg.G rows wd C 0) (K:ρ g=some lg) (q:∀ i,i<C.size->¬ (fz.1<=i/\i<fz.2))
  (D:w'.os=w.os/\w'.tape=w.tape/\w'.output=w.output) (hh:w'.heap=w.heap.push (.cells C T fz)):∃ ρ',VR ρ' v (.slice (some ⟨w.heap.size,0,none⟩) rows.length cap)/\St P base ρ ρ' m m' w w':=by
 have f:ρ m.n=none:=by
  obtain⟨_,_,rfl⟩:=L5 B;exact A m.n (A6 _) (K9 _ _).2
 obtain⟨rfl,F,E⟩:=St.alloc (w':=w') (l:=⟨w.heap.size,0,cap,rows.length,fun _=>none,true⟩) h I B A D hh rfl (A8j r u hi J a A2 d (W7 f _ _ K) (by rw[hh];simp) q);exact⟨_,.own (.inr ⟨_,wd,rows,F,rfl,r,rfl,a,rfl⟩) (by rw[r];exact u.symm) rfl,E⟩
def oP{t id:Nat}{T:TypeId}{ab:AB}{lg:Loc}{C:V8}(h:HR P base ρ m.H w)(hle:id<=H7)(B:Hp.get m.H id=some ab)(u:ab.rw=true)(M:ρ id=some l)(r:l.on=true)
  (K:bH (jZ m id) c t T g=some (v,m')) (J:K2 ρ m.n m'.hi)
  (E:Ora.env c=.seq false wd rows) (I:t=10+wd) (hi:P.info? T=some inf) (R:inf.size=wd) (a:rows.length<=cap) (p:sh+cap*wd<=C.size) (d:O7 lg.G rows wd C sh) (S:ρ g=some lg) (D:∀ i,i<C.size->¬ (fz.1<=i/\i<fz.2))
  (L:w'.os=w.os/\w'.tape=w.tape/\w'.output=w.output) (A:w'.heap.size=w.heap.size) (N:∀ k,k≠l.blk->w'.heap[k]? = w.heap[k]?) (hw:w'.heap[l.blk]? = some (.cells C T fz)) :
  ∃ ρ',VR ρ' v (.slice (some ⟨l.blk,sh,none⟩) rows.length cap)/\St P base ρ ρ' m m' w w':=by
 have q:ρ m.n=none:=by
  have f:=K;unfold bH at f;rw[m6]at f;obtain⟨_,_,rfl⟩:=L5 f;exact J m.n (A6 _) (K9 _ _).2
 obtain⟨rfl,Q,O⟩:=St.move (w':=w') (l':=⟨l.blk,sh,cap,rows.length,fun _=>none,true⟩) h hle B u M K J (fun _=>⟨r,rfl⟩) L A (fun k F=>N k (F r)) (A8j E I hi R a p d (W7 q _ _ S) hw D) (fun h=>by cases h);exact⟨_,.own (.inr ⟨_,wd,rows,Q,rfl,E,rfl,a,rfl⟩) (by rw[E];exact I.symm) rfl,O⟩
def A7X:Loc:=⟨0,0,0,0,fun _=>none,false⟩
def CM{t:Nat}{T:TypeId}{old:Option Nat}(h:HR P base ρ m.H w)(hold:∀ b,old=some b->∃ ab l,b<=H7/\Hp.get m.H b=some ab/\ab.rw=true/\ρ b=some l/\l.on=false)
  (B:bH (jY old m) c t T g=some (v,m')) (A:K2 ρ m.n m'.hi) (d:Ora.env c=.seq true wd []) (r:t=10+wd) (hi:P.info? T=some inf) (E:inf.size=wd):∃ ρ',VR ρ' v (.slice none 0 0)/\St P base ρ ρ' m m' w w:=by
 have a:∀ ρ':Ren,BR P ρ' (.sq c t T g false) A7X w:=fun ρ'=>⟨⟨wd,inf,r,hi,E,.inl ⟨rfl,d⟩⟩⟩
 cases old with
 | none =>
   obtain⟨rfl,u,p⟩:=St.new0 (l':=A7X) h B A (a _) rfl fun q f=>by
    rcases f with⟨_,f,_⟩|⟨f,_⟩<;>cases f
   exact⟨_,.own (.inl ⟨_,wd,u,rfl,d,rfl⟩) (by rw[d];exact r.symm) rfl,p⟩
 | some b =>
   obtain⟨ab,l,h1,C,h3,D,F⟩:=hold b rfl;obtain⟨rfl,u,p⟩:=St.move (w':=w) (l':=A7X) h h1 C h3 D B A (fun h=>by cases h) ⟨rfl,rfl,rfl⟩ rfl (fun _ _=>rfl) (a _) (fun h=>by cases h);exact⟨_,.own (.inl ⟨_,wd,u,rfl,d,rfl⟩) (by rw[d];exact r.symm) rfl,p⟩
def tI(h:HR P base ρ m.H w)(a:kA gs m=some (g,m'))(p:K2 ρ m.n m'.hi)(d:ρ j=some l):Hp.get m'.H j=Hp.get m.H j:=by
 have main:∀ {gs:H4},(bif gs.all (oT m)then match gM m fun b m=>some (undef,b,m)with
  | some (_,b,m)=>some (b,m)
  | none=>none else none)=some (g,m')->Hp.get m'.H j=Hp.get m.H j:=fun{gs} a=>by
  obtain⟨h1,a⟩:=A3 a;split at a
  .rename_i r b m1 q;cases a;obtain⟨m2,f,u,_⟩:=Q5 q;cases u;rw[lM f (h.dom j l d),A7];intro e;subst e;obtain⟨_,_,rfl⟩:=L5 f;rw[p m.n (A6 _) (K9 _ _).2]at d;cases d
  .cases a
 unfold kA at a;split at a
 .obtain⟨h1,a⟩:=A3 a;cases a;rfl
 .exact main a
def N1(a:kA gs m=some (g,m')):m.hi<=m'.hi/\m'.lg=m.lg/\m.n<=m'.n:=by
 have main:∀ {gs:H4},(bif gs.all (oT m)then match gM m fun b m=>some (undef,b,m)with
  | some (_,b,m)=>some (b,m)
  | none=>none else none)=some (g,m')->m.hi<=m'.hi/\m'.lg=m.lg/\m.n<=m'.n:=fun{gs} a=>by
  obtain⟨h1,a⟩:=A3 a;split at a
  .rename_i r b m1 f;cases a;obtain⟨m2,d,p,_⟩:=Q5 f;cases p;obtain⟨_,_,rfl⟩:=L5 d;exact⟨(K9 _ _).1,rfl,W6 _⟩
  .cases a
 unfold kA at a;split at a
 .obtain⟨h1,a⟩:=A3 a;cases a;exact⟨A6 _,rfl,A6 _⟩
 .exact main a
def B1t(nul:Bool)(wd:Nat)(rows:List (List U)):List (List U)->U
 | []=>.seq nul wd rows
 | r0::r=>.seq false wd (rows++r0::r)
def LU(h:∃ n w r,sN nul wd rows rows2=.seq n w r):rows.length+rows2.length<=vX/\sN nul wd rows rows2=B1t nul wd rows rows2:=by
 by_cases a:rows.length+rows2.length<=vX
 .refine⟨a,?_⟩;unfold sN;rw[A9 a];cases rows2<;>rfl
 .unfold sN at h;rw[A7 a]at h;obtain⟨_,_,_,h⟩:=h;cases h
def QY{old:Option Nat} 
  (hu:P.underlying t=some (.slice e)) (X:P.underlying t2=some d2) (V:dE d2=true) (hi:P.info? e=some inf) (hz:fQ P e=some z) (ag:z.cells.size=inf.size) (bs:inf.bytes<=90000)
  (h:HR P base ρ m.H w) (hb:base<=w.heap.size) (E:JI m e inf.size c old bh (g0++gs)=some (v,m')) (hf:K2 ρ m.n m'.hi) (hS:Sat m'.lg)
  (an:A2a P base ρ m w e inf.size c g0 old x') (d:VV P ρ w inf.size bh gs y' rows2 new'):VOk P base ρ m w (Builtin.append_ #[t,t2] ty #[x',y']) v m':=by
 unfold JI at E;split at E
 .rename_i g m1 hj;rw[N6]at E;have bl:=N1 hj;generalize bm:fN m1 (10+inf.size) (dN inf.size (hole c (10+inf.size)) bh).1 (dN inf.size (hole c (10+inf.size)) bh).2=lg1 at E;have bx:m'.lg=lg1/\m1.hi<=m'.hi/\m1.n<=m'.n:=by
   unfold bH at E;cases old with
   | none =>
     simp only[jY]at E;obtain⟨_,_,rfl⟩:=L5 E;exact⟨by simp,by simpa using(K9 m1.hi m1.n).1,by simp⟩
   | some b =>
     simp only[jY,m6]at E;obtain⟨_,_,rfl⟩:=L5 E;exact⟨by simp,by simpa using(K9 m1.hi m1.n).1,by simp⟩
  have ak:K2 ρ m.n m1.hi:=hf.less bx.2.1;obtain⟨M,lg,e1,e2,e3,e4,e5,e6⟩:=eW h hj ak;have q:St P base ρ M m (m1.wLg lg1) w w:=St.trans (by simpa using ak) e1 (St.wLg e1.hr lg1);have I:K2 M (m1.wLg lg1).n m'.hi:=by simpa using hf.step e1
  have bk:Sat (m1.wLg lg1).lg:=by simpa [<- bx.1]using hS
  obtain⟨nul,rows,hc,hx⟩:=an.ex;obtain⟨d1,d2,nx,bp,rws,d3,d4⟩:=kC (m:=m1) (t:=10+inf.size) (op:=(dN inf.size (hole c (10+inf.size)) bh).1) (xs:=(dN inf.size (hole c (10+inf.size)) bh).2) (lg:=lg1) (by simpa using bk) (by rw[g9,bm];exact .refl _);rw[d.ev c nul rows hc]at d1;obtain⟨aw,aa⟩:=LU ⟨nx,bp,rws,d1.symm.trans d3⟩;rw[aa]at d1;have br:∀ b ∈ g0,∀ l,ρ b=some l->Sub l.G lg.G:=fun b W l hl=>e6 b (B7.2 (.inl W)) l hl
  have bn:∀ b ∈ gs,∀ l,ρ b=some l->Sub l.G lg.G:=fun b W l hl=>e6 b (B7.2 (.inr W)) l hl
  have aq:=d.rows lg.G bn;have D:∀ {v':Value} {ρ2:Ren} {w2:World},(Builtin.append_ #[t,t2] ty #[x',y']).run P w=.ok v' w2->VR ρ2 v v'->St P base M ρ2 (m1.wLg lg1) m' w w2->VOk P base ρ m w (Builtin.append_ #[t,t2] ty #[x',y']) v m':=fun hr hv hs =>
   ⟨_,_,_,hr,hv,St.trans hf q hs⟩
  have bu:∀ w,(zeroValue e).run P w=.ok z w:=fun w=>aJ hz w
  have au:∀ {j l},ρ j=some l->Hp.get (m1.wLg lg1).H j=Hp.get m.H j:=fun bo=>by rw[kU];exact tI h hj ak bo
  have K:(3*(rows.length+rows2.length)+4000)*inf.bytes<=281474976710656:=by
   have h1:3*(rows.length+rows2.length)+4000<=3000004000:=by unfold vX at aw;omega
   have h2:=fH h1 bs;omega
  have Y:rows.length+rows2.length<=1000000000:=aw;rcases hx with⟨rfl,rfl,rfl,hold⟩|⟨rfl,b,ab,l,cap,C,fz,rfl,aj,bq,Z,af,bz,rfl,F,av,Q,T,ad⟩
  ·
   have R:∀ b,old=some b->∃ ab l,b<=H7/\Hp.get (m1.wLg lg1).H b=some ab/\ab.rw=true/\M b=some l/\l.on=false:=fun b W=>by
    obtain⟨ab,l,J,O,q3,q4,q5⟩:=hold b W;exact⟨ab,l,J,by rw[au q4];exact O,q3,e1.ext _ _ q4,q5⟩
   cases f:rows2 with
   | nil =>
     subst f;have B:Ora.env m1.lg.nx=.seq true inf.size []:=d1;obtain⟨ρ2,J,O⟩:=CM q.hr R E I B rfl hi rfl;have ao:new'=[]:=G0.1 (by rw[d.size];simp);exact D (uK hu X V hi (fun wd=>d.len wd) (by have:=d.first w rfl;rw[ao]at this;exact this)) J O
   | cons r0 rr =>
     rw[f]at d1;have B:Ora.env m1.lg.nx=.seq false inf.size rows2:=by rw[f];exact d1
     obtain⟨nc,az,p⟩:=hP (P:=P) (w:=w) (ty:=ty) (a:=none) (n:=0) (c:=0) (k:=rows2.length) (old':=[]) (new':=new') (x':=y') hu X V hi bu (fun wd=>d.len wd) (fun _ _=>rfl) (fun wd hw=>d.first wd hw) (by rw[f];simp) (by simpa using K) (by simpa using Y);obtain⟨m2,bj,ay⟩:∃ m2,bH m2 m1.lg.nx (10+inf.size) e g=some (v,m')/\St P base M M (m1.wLg lg1) m2 w w:=by
      cases old with
      | none=>exact⟨_,E,St.refl q.hr⟩
      | some b =>
        obtain⟨ab,l,J,O,q3,q4,q5⟩:=R b rfl;exact⟨_,E,St.kill q.hr J O q3⟩
     obtain⟨ρ2,J,O⟩:=cO (w':={ w.drew with heap:=w.heap.push (.cells (({ toList:=[] }:Array Value)++⟨new'⟩++Builtin.zeroCells z.cells (nc-(0+rows2.length))) e (0,0)) }) (cap:=nc) ay.hr hb bj (I.step ay) B rfl hi rfl A2
      (by have:=eD (s:=inf.size) (k:=rows2.length) (n:=0) (nc:=nc) (z:=z) (old':=[]) d.size az ag (by simp);exact this)
      (aq.move (C':=({ toList:=[] }:Array Value)++⟨new'⟩++Builtin.zeroCells z.cells (nc-(0+rows2.length))) (o':=0) fun i hi'=>by
        have ah:i<new'.length:=by rw[d.size];exact hi'
        rw[F4 i];rw[KU (A5 ah)];simp[ah]) (ay.ext _ _ e4) (fun i _ hh=>by have h1:0<=i:=hh.1;have h2:i<0:=hh.2;omega) ⟨rfl,rfl,rfl⟩ rfl
     exact D p (by rw[F4];exact J) (St.trans I ay O)
  ·
   have al:Hp.get (m1.wLg lg1).H b=some ab:=by rw[au af];exact bq
   have A:=ad lg.G br;have ar:=e1.ext _ _ af;cases f:rows2 with
   | nil =>
     subst f;have B:Ora.env m1.lg.nx=.seq false inf.size rows:=d1;have ao:new'=[]:=G0.1 (by rw[d.size];simp);obtain⟨ρ2,J,O⟩:=oP (w':=w) (cap:=cap) (sh:=l.sh) q.hr aj al Z ar bz E I B rfl hi rfl av Q A e4 T ⟨rfl,rfl,rfl⟩ rfl (fun _ _=>rfl) F;have p:=mZ (P:=P) (w:=w) (w':=w) (ty:=ty) (a:=⟨l.blk,l.sh,none⟩) (n:=rows.length) (k:=0) (c:=cap) (new':=new') hu X V hi (fun wd=>d.len wd) (d.first w rfl) A2 (by rw[ao];rfl);exact D p J O
   | cons r0 rr =>
     have B:Ora.env m1.lg.nx=.seq false inf.size (rows++rows2):=by rw[f]at d1 ⊢;exact d1
     by_cases L:rows.length+rows2.length<=cap
     .have ax:(rows.length+rows2.length)*inf.size<=cap*inf.size:=F7 _ L;rw[H6]at ax;obtain⟨w',r1,r2,r3,r4,r5⟩:=Z2 (P:=P) (b:=l.blk) (o:=rows.length*inf.size+l.sh) (fz:=fz) new' 0 C w F d.flat (by rw[d.size];omega) T;have bw:(Addr.mk l.blk l.sh none).add (rows.length*inf.size)=⟨l.blk,rows.length*inf.size+l.sh,none⟩:=by
       unfold Addr.add;split
       .rename_i h0;rw[h0];simp
       .simp[jS]
      have p:=mZ (P:=P) (w:=w) (w':=w') (ty:=ty) (a:=⟨l.blk,l.sh,none⟩) (n:=rows.length) (k:=rows2.length) (c:=cap) (new':=new') hu X V hi (fun wd=>d.len wd) (d.first w rfl) L (by rw[bw];exact r1);have S:(Array.mk (cM C.toList (rows.length*inf.size+l.sh+0) new')).size=C.size:=by simp[Z3]
      have ai:∀ j,(Array.mk (cM C.toList (rows.length*inf.size+l.sh+0) new'))[j]? = if rows.length*inf.size+l.sh<=j/\j<rows.length*inf.size+l.sh+new'.length then new'[j-(rows.length*inf.size+l.sh)]? else C[j]? := fun j=>by
       rw[I9,lJ _ _ _ _ (by simp;rw[d.size];omega)];simp
      obtain⟨ρ2,J,O⟩:=oP (w':=w') (cap:=cap) (sh:=l.sh) (C:=⟨cM C.toList (rows.length*inf.size+l.sh+0) new'⟩) q.hr aj al Z ar bz E I B rfl hi rfl (by simpa using L) (by rw[S];exact Q)
       (O7.append (A.move (o':=l.sh) fun i hi'=>by rw[ai,A7 A2]) (aq.move (o':=l.sh+rows.length*inf.size) fun i hi'=>by
         rw[ai,A9 (by rw[d.size];omega),show l.sh+rows.length*inf.size+i-(rows.length*inf.size+l.sh)=i by omega,F4];simp)) e4 (by rw[S];exact T) r2 r3 r5 r4
      rw[E1]at J;exact D p J O
     .have hold:∃ old',old'.length=rows.length*inf.size/\(∀ i,i<rows.length*inf.size->old'[i]? = C[l.sh+i]?)/\∀ wd:World,wd.heap=w.heap->(Builtin.firstCells inf.size rows.length (.slice (some ⟨l.blk,l.sh,none⟩) rows.length cap)).run P wd=.ok ⟨old'⟩ wd:=by
       have ax:rows.length*inf.size<=cap*inf.size:=F7 _ av;have hlen:((C.toList.drop l.sh).take (rows.length*inf.size)).length=rows.length*inf.size:=by simp;omega
       refine⟨(C.toList.drop l.sh).take (rows.length*inf.size),hlen,fun i hi'=>?_,fun wd hw=>?_⟩
       .rw[E6 hi',H9];simp
       .rw[show Builtin.firstCells inf.size rows.length (.slice (some ⟨l.blk,l.sh,none⟩) rows.length cap)=loadCells ⟨l.blk,l.sh,none⟩ (rows.length*inf.size)from rfl];refine K4 hlen fun j v' hj=>?_
        have ae:=(B0.1 hj).1;rw[hlen]at ae;rw[E6 ae,H9]at hj;rw[bX hw];have bt:C[l.sh+j]? = some v':=by simpa using hj
        simp[World.cell?,F,bt]
      obtain⟨old',o1,o2,o3⟩:=hold;obtain⟨nc,az,p⟩:=hP (P:=P) (w:=w) (ty:=ty) (a:=some ⟨l.blk,l.sh,none⟩) (n:=rows.length) (c:=cap) (k:=rows2.length) (old':=old') (new':=new') (x':=y') hu X V hi bu (fun wd=>d.len wd) o3 (fun wd hw=>d.first wd hw) L K Y;have r:=St.kill q.hr aj al Z;obtain⟨ρ2,J,O⟩:=cO (w':={ w.drew with heap:=w.heap.push (.cells (({ toList:=old' }:Array Value)++⟨new'⟩++Builtin.zeroCells z.cells (nc-(rows.length+rows2.length))) e (0,0)) }) (cap:=nc) r.hr hb E (I.step r) B rfl hi rfl (by simpa using az)
       (eD d.size az ag o1)
       (O7.append (A.move (C':=({ toList:=old' }:Array Value)++⟨new'⟩++Builtin.zeroCells z.cells (nc-(rows.length+rows2.length))) (o':=0) fun i hi'=>by
         have N:i<old'.length:=by rw[o1];exact hi'
         rw[F4 i,<- o2 i hi',eE (u:=old'[i]) (by rw[F1 N,A5 N]),A5 N]) (aq.move (o':=0+rows.length*inf.size) fun i hi'=>by
         have N:i<new'.length:=by rw[d.size];exact hi'
         rw[F4 (rows.length*inf.size),F4 i,eE (u:=new'[i]) (by rw[D8 (by rw[o1];omega),o1,V9,A5 N])];simp[N])) (r.ext _ _ e4) (fun i _ hh=>by have h1:0<=i:=hh.1;have h2:i<0:=hh.2;omega) ⟨rfl,rfl,rfl⟩ rfl
      rw[E1]at J;exact D p J (St.trans I r O)
 .cases E
end
end
section
open Go
variable [Ora]
section
variable {P:Program} {base:Nat} {ρ ρ':Ren} {m m':Mem} {w w':World}
def A24{a:Addr} 
  (hu:P.underlying t=some (.slice e)) (ax:P.underlying t2=some d2) (Z:dE d2=true) (hi:P.info? e=some inf) (hz:fQ P e=some z) (S:z.cells.size=inf.size) (Q:inf.bytes<=90000)
  (h:HR P base ρ m.H w) (hb:base<=w.heap.size) (q:JI m e inf.size c none bh (b::gs)=some (v,m')) (hf:K2 ρ m.n m'.hi) (hS:Sat m'.lg)
  (hc:Ora.env c=.seq false inf.size rows) (T:ρ b=some l) (A:Enc l.G (Ora.env c) (.slice (some a) rows.length rows.length)) (d:VV P ρ w inf.size bh gs y' rows2 new') (p:rows2≠[]) :
  VOk P base ρ m w (Builtin.append_ #[t,t2] ty #[.slice (some a) rows.length rows.length,y']) v m':=by
 unfold JI at q;split at q
 .rename_i g m1 N;rw[N6]at q;have av:=N1 N;generalize aw:fN m1 (10+inf.size) (dN inf.size (hole c (10+inf.size)) bh).1 (dN inf.size (hole c (10+inf.size)) bh).2=lg1 at q;have q:bH (m1.wLg lg1) m1.lg.nx (10+inf.size) e g=some (v,m'):=q;have K:m'.lg=lg1/\m1.hi<=m'.hi/\m1.n<=m'.n:=by
   unfold bH at q;obtain⟨_,_,rfl⟩:=L5 q;exact⟨by simp,by simpa using(K9 m1.hi m1.n).1,by simp⟩
  have L:K2 ρ m.n m1.hi:=hf.less K.2.1;obtain⟨E,lg,O,e2,e3,e4,e5,e6⟩:=eW h N L;have C:St P base ρ E m (m1.wLg lg1) w w:=St.trans (by simpa using L) O (St.wLg O.hr lg1);have X:K2 E (m1.wLg lg1).n m'.hi:=by simpa using hf.step O
  have ar:Sat (m1.wLg lg1).lg:=by simpa [<- K.1]using hS
  obtain⟨d1,d2,nx,Y,rws,d3,d4⟩:=kC (m:=m1) (t:=10+inf.size) (op:=(dN inf.size (hole c (10+inf.size)) bh).1) (xs:=(dN inf.size (hole c (10+inf.size)) bh).2) (lg:=lg1) (by simpa using ar) (by rw[g9,aw];exact .refl _);rw[d.ev c false rows hc]at d1;obtain⟨B,I⟩:=LU ⟨nx,Y,rws,d1.symm.trans d3⟩;rw[I]at d1;have V:Sub l.G lg.G:=e6 b (.head _) l T;have az:∀ b ∈ gs,∀ l,ρ b=some l->Sub l.G lg.G:=fun b ay l T=>e6 b (.tail _ ay) l T
  have R:=d.rows lg.G az;have au:∀ w,(zeroValue e).run P w=.ok z w:=fun w=>aJ hz w
  have r:(3*(rows.length+rows2.length)+4000)*inf.bytes<=281474976710656:=by
   have h1:3*(rows.length+rows2.length)+4000<=3000004000:=by unfold vX at B;omega
   have h2:=fH h1 Q;omega
  have D:rows.length+rows2.length<=1000000000:=B;have aq:0<rows2.length:=dQ.2 p;have W:Ora.env m1.lg.nx=.seq false inf.size (rows++rows2):=by
   cases rows2 with
   | nil=>exact absurd rfl p
   | cons r0 rr=>exact d1
  rw[hc]at A;obtain⟨_,old',M,o2,o3,o4⟩:=tV (w:=w) (A.mono V) ((O.hr.atl e4 e5).1.2);have o5:∀ wd:World,wd.heap=w.heap->(Builtin.firstCells inf.size rows.length (.slice (some a) rows.length rows.length)).run P wd=.ok ⟨old'⟩ wd:=fun wd hw=>by
   rw[show Builtin.firstCells inf.size rows.length (.slice (some a) rows.length rows.length)=loadCells a (rows.length*inf.size)from rfl];exact lT M fun j v' N=>by rw[bX hw];exact o4 j v' N
  obtain⟨nc,F,J⟩:=hP (P:=P) (w:=w) (ty:=ty) (a:=some a) (n:=rows.length) (c:=rows.length) (k:=rows2.length) (old':=old') (new':=new') (x':=y') hu ax Z hi au (fun wd=>d.len wd) o5 (fun wd hw=>d.first wd hw) A2 r D;obtain⟨ρ2,q1,q2⟩:=cO (w':={ w.drew with heap:=w.heap.push (.cells (({ toList:=old' }:Array Value)++⟨new'⟩++Builtin.zeroCells z.cells (nc-(rows.length+rows2.length))) e (0,0)) }) (cap:=nc) C.hr hb q X W rfl hi rfl (by simpa using F)
   (eD d.size F S M)
   (O7.append (o3.move (C':=({ toList:=old' }:Array Value)++⟨new'⟩++Builtin.zeroCells z.cells (nc-(rows.length+rows2.length))) (o':=0) fun i hi'=>by
     have f:i<old'.length:=by rw[M];exact hi'
     rw[F4 i,eE (u:=old'[i]) (by rw[F1 f,A5 f])];simp[f]) (R.move (o':=0+rows.length*inf.size) fun i hi'=>by
     have f:i<new'.length:=by rw[d.size];exact hi'
     rw[F4 (rows.length*inf.size),F4 i,eE (u:=new'[i]) (by rw[D8 (by rw[M];omega),M,V9,A5 f])];simp[f])) e4 (fun i _ hh=>by have h1:0<=i:=hh.1;have h2:i<0:=hh.2;omega) ⟨rfl,rfl,rfl⟩ rfl
  rw[E1]at q1;exact⟨_,_,_,J,q1,St.trans hf C q2⟩
 .cases q
def VS(d:AJ P td)(a:A2C td P m e wd y=some (bh,gs,sure,m')):m.hi<=m'.hi/\m.lg.le m'.lg/\m.n<=m'.n:=by
 unfold A2C at a;split at a
 .cases a;exact⟨A6 _,.refl _,A6 _⟩
 .split at a
  .split at a
   .rename_i f;cases a;exact S1 d f
   .cases a
  .cases a
 .split at a
  .rename_i f;cases a;exact d.mono f
  .cases a
 .obtain⟨h1,a⟩:=A3 a;cases a;exact⟨A6 _,.refl _,A6 _⟩
def jL(d:AJ P td){old:Option Nat}(a:DY td P m e wd x=some (c,gs,old,m')):m.hi<=m'.hi/\m.lg.le m'.lg/\m.n<=m'.n:=by
 unfold DY at a;split at a
 .rw[N6]at a;simp only[hole]at a;cases a;exact⟨by simp,V6,by simp⟩
 .split at a
  .obtain⟨h1,a⟩:=A3 a;cases a;exact⟨A6 _,.refl _,A6 _⟩
  .cases a
 .split at a
  .obtain⟨h1,a⟩:=A3 a;split at a
   .rename_i f;split at a
    .obtain⟨h1,a⟩:=A3 a;rw[N6]at a;simp only[hole]at a;cases a
     have:=S1 d f;exact⟨by simpa using this.1,this.2.1.trans V6,by simpa using this.2.2⟩
    .cases a
   .cases a
  .cases a
 .cases a
def q8{t:Nat}{T:TypeId}(h:bH m c t T g=some (v,m')):m.hi<=m'.hi/\m'.lg=m.lg/\m.n<=m'.n:=by
 unfold bH at h;obtain⟨_,_,rfl⟩:=L5 h;exact⟨(K9 _ _).1,rfl,W6 _⟩
def bT(old:Option Nat)(m:Mem):(jY old m).hi=m.hi/\(jY old m).lg=m.lg/\(jY old m).n=m.n:=by
 cases old with
 | none=>exact⟨rfl,rfl,rfl⟩
 | some b=>simp[jY,m6]
def nC{old:Option Nat}(d:JI m e wd c old bh gs=some (v,m')):m.hi<=m'.hi/\m.lg.le m'.lg/\m.n<=m'.n:=by
 unfold JI at d;split at d
 .rename_i g m1 r;rw[N6]at d;have a:=N1 r;have b:=q8 d;obtain⟨f,q,p⟩:=bT old (m1.wLg (fN m1 (10+wd) (dN wd (hole c (10+wd)) bh).1 (dN wd (hole c (10+wd)) bh).2));refine⟨?_,?_,?_⟩
  .have:=b.1;rw[f]at this;simp at this;omega
  .rw[b.2.1,q,<- a.2.1];exact V6
  .have:=b.2.2;rw[p]at this;simp at this;omega
 .cases d
def OB{t:Nat}{T:TypeId}{old:Option Nat}(h:HR P base ρ m.H w)(hold:∀ b,old=some b->b<=H7/\Hp.get m.H b≠some .frz)(f:bH (jY old m) c t T g=some (v,m'))(q:K2 ρ m.n m'.hi):n8 ρ m m':=fun j l h1 a=>by
 have p:=bT old m;unfold bH at f;rw[lM f (h.dom j l h1),A7]
 .cases old with
  | none=>exact a
  | some b =>
    show Hp.get (jZ m b).H j=_;rw[m6];show Hp.get (m.H.set b none) j=_;obtain⟨r,d⟩:=hold b rfl;rw[F0 _ _ _ _ r (h.dom j l h1),A7]
    .exact a
    .intro e;subst e;exact d a
 .intro e;obtain⟨_,_,rfl⟩:=L5 f;rw[p.2.2]at e;subst e;rw[q m.n (A6 _) (Nat.lt_of_le_of_lt (Nat.le_of_eq p.2.2.symm) (K9 (jY old m).hi (jY old m).n).2)]at h1;cases h1
omit [Ora] in
def NK(h:P.info? e=some inf):H1 P e=some inf.size:=by unfold H1;rw[h]
def CJ(f:AJ P td)(d:UT td P m e wd x=some (v,m')):m.hi<=m'.hi/\m.lg.le m'.lg/\m.n<=m'.n:=by
 unfold UT at d;split at d
 .obtain⟨_,d⟩:=A3 d;split at d
  .rename_i p;have a:=jL f p;split at d
   .rename_i q;have b:=N1 q;have c:=q8 d;refine⟨?_,?_,?_⟩
    .have:=c.1;rw[(bT _ _).1]at this;omega
    .rw[c.2.1,(bT _ _).2.1,b.2.1];exact a.2.1
    .have:=c.2.2;rw[(bT _ _).2.2]at this;omega
   .cases d
  .cases d
 .cases d
def RD(Q:AJ P td)(h:HR P base ρ m.H w)(d:UT td P m e wd x=some (v,m'))(Z:K2 ρ m.n m'.hi)(hx:VR ρ x x')(hS:Sat m'.lg) :
  ∃ ρ',VR ρ' v x'/\St P base ρ ρ' m m' w w/\m.lg.le m'.lg/\n8 ρ m m':=by
 unfold UT at d;split at d
 .rename_i inf hi;obtain⟨h1,d⟩:=A3 d;obtain⟨h1,h2⟩:=B6 h1;have h1:=A0 h1;have h2:0<wd:=A1 h2;split at d
  .rename_i c gs old m1 N;have a:=jL Q N;split at d
   .rename_i g m2 hj;have b:=N1 hj;have cm:=q8 d;have k1:=bT old m2;have X:m'.lg=m1.lg:=by rw[cm.2.1,k1.2.1,b.2.1]
    have F:m2.hi<=m'.hi:=by have:=cm.1;rw[k1.1]at this;exact this
    obtain⟨O,M,e2,e3,e4⟩:=MF Q h N (Z.less (B9 b.1 F)) hx (by rw[<- X];exact hS) h2 (h1▸NK hi);have r:K2 O m1.n m'.hi:=Z.step M;obtain⟨ρ2,lg,u,j2,j3,j4,j5,j6⟩:=eW M.hr hj (r.less F);have J:K2 ρ2 m2.n m'.hi:=r.step u;obtain⟨nul,rows,hc,az⟩:=e4.ex;have A:∀ {j l},O j=some l->Hp.get m2.H j=Hp.get m1.H j:=fun ax=>tI M.hr hj (r.less F) ax
    have hle:m.lg.le m'.lg:=by rw[X];exact a.2.1
    have q:(∀ b,old=some b->b<=H7/\Hp.get m2.H b≠some .frz)->n8 ρ m m':=fun hq=>(e3.trans M.ext j3).trans (fun b l N=>u.ext b l (M.ext b l N)) (OB u.hr hq d J)
    rcases az with⟨rfl,rfl,rfl,hold⟩|⟨rfl,b0,ab,l,cap,C,fz,rfl,Y,ay,B,R,aw,rfl,E,S,D,V,T⟩
    .have f:∀ b,old=some b->∃ ab l,b<=H7/\Hp.get m2.H b=some ab/\ab.rw=true/\ρ2 b=some l/\l.on=false:=fun b p=>by
      obtain⟨ab,l,L,K,q3,q4,q5⟩:=hold b p;exact⟨ab,l,L,by rw[A q4];exact K,q3,u.ext _ _ q4,q5⟩
     obtain⟨I,L,K⟩:=CM u.hr f d J hc rfl hi h1;exact⟨I,L,St.trans Z M (St.trans r u K),hle,q fun b p=>by
      obtain⟨ab,l,L,K,q3,_⟩:=f b p;exact⟨L,fun he=>by rw[K]at he;cases he;cases q3⟩⟩
    .have W:Hp.get m2.H b0=some ab:=by rw[A R];exact ay
     obtain⟨I,L,K⟩:=oP (w':=w) (cap:=cap) (sh:=l.sh) u.hr Y W B (u.ext _ _ R) aw d J hc rfl hi h1 S D (T lg.G fun b N l hl=>j6 b N l hl) j4 V ⟨rfl,rfl,rfl⟩ rfl (fun _ _=>rfl) E;exact⟨I,L,St.trans Z M (St.trans r u K),hle,q fun b p=>by
      cases p;exact⟨Y,fun he=>by rw[W]at he;cases he;cases B⟩⟩
   .cases d
  .cases d
 .cases d
def PZ:∀ (d:Nat),AJ P (WK P d)
 | 0=>WL
 | d+1=>by
   have u:=PZ d;refine⟨fun{base ρ m m' w t v v' x b} h f p hv q=>?_,fun{m m' t v x b} f=>?_⟩
   .unfold WK at f;split at f
    .split at f
     .split at f
      .rename_i E m1 r;have a:=gZ f;obtain⟨D,B,n,A,C⟩:=RD u h r (p.less a.1) hv (q.le a.2.1);obtain⟨ρ2,l,d1,d2,d3,d4,d5,d6⟩:=EJ n.hr f (p.step n) B q;exact⟨ρ2,l,St.trans p n d1,d2,d3,d4,d5,A.trans d6,C.trans n.ext (HZ n.hr f (p.step n))⟩
      .cases f
     .cases f
    .exact WL.ok h f p hv q
   .unfold WK at f;split at f
    .split at f
     .split at f
      .rename_i E m1 r;have a:=CJ u r;have b:=gZ f;exact⟨B9 a.1 b.1,a.2.1.trans b.2.1,B9 a.2.2 b.2.2⟩
      .cases f
     .cases f
    .exact gZ f
def V0:AJ P (tdP P):=PZ 3
def HD(d:sR P m t t2 x y=some (v,m')):m.hi<=m'.hi/\m.lg.le m'.lg/\m.n<=m'.n:=by
 unfold sR at d;split at d
 .rename_i e d2 hu r;cases f:dE d2 with
  | false=>rw[f]at d;cases d
  | true =>
    rw[f]at d;simp only[P9,D6]at d;split at d
    .obtain⟨_,d⟩:=A3 d;split at d
     .rename_i p;have a:=VS V0 p;split at d
      .rename_i q;have b:=jL V0 q;have c:=nC d;exact⟨A2,a.2.1.trans (b.2.1.trans c.2.1),A2⟩
      .split at d
       .obtain⟨_,d⟩:=A3 d;have c:=nC d;exact⟨A2,a.2.1.trans c.2.1,A2⟩
       .cases d
     .cases d
    .cases d
 .cases d
def VV.step(h:VV P ρ w wd bh gs y' rows2 new')(f:∀ b ∈ gs,∃ l,ρ b=some l)(he:∀ b l,ρ b=some l->ρ' b=some l):VV P ρ' w wd bh gs y' rows2 new' :=
 ⟨h.len,h.first,h.size,h.flat,fun R hR=>h.rows R fun b a l d=>hR b a l (he b l d),h.ev⟩
def VX{n:Nat}(h:VY P e n=true):∃ z,fQ P e=some z/\z.cells.size=n:=by
 unfold VY at h;split at h
 .rename_i z a;exact⟨z,a,A0 h⟩
 .cases h
def PO(h:HR P base ρ m.H w)(R:base<=w.heap.size)(q:sR P m t t2 x y=some (v,m'))(C:K2 ρ m.n m'.hi)(hx:VR ρ x x')(hy:VR ρ y y')(M:Sat m'.lg) :
  VOk P base ρ m w (Builtin.append_ #[t,t2] ty #[x',y']) v m':=by
 unfold sR at q;split at q
 .rename_i e d2 hu K;cases r:dE d2 with
  | false=>rw[r]at q;cases q
  | true =>
    rw[r]at q;simp only[P9,D6]at q;split at q
    .rename_i inf hi;obtain⟨hq,d⟩:=A3 q;clear q;obtain⟨ax,aw⟩:=B6 hq;obtain⟨az,Y⟩:=B6 ax;have E:=A1 az;have G:0<inf.size:=A1 Y;obtain⟨z,hz,F⟩:=VX aw;have D:H1 P e=some inf.size:=by unfold H1;rw[hi]
     split at d
     .rename_i bh gs sure m1 B;split at d
      .rename_i c g0 old m2 V;have mb:=jL V0 V;have mp:=nC d;have L:K2 ρ m.n m1.hi:=C.less A2;obtain⟨A,rows2,new',u,a2,a3,a4,a5,a6⟩:=TL V0 h B L hy (M.le (mb.2.1.trans mp.2.1)) G D;have p:K2 A m1.n m'.hi:=C.step u;obtain⟨ρ2,W,b2,b3,b4⟩:=MF V0 u.hr V (p.less mp.1) (hx.mono u.ext) (M.le mp.2.1) G D;obtain⟨v',f,w3,N,S,T⟩:=QY (ty:=ty) hu K r hi hz F E W.hr R d (p.step W) M b4 (a5.step (fun b ay=>(a4 b ay).2) W.ext);exact⟨v',f,w3,N,S,St.trans C (St.trans (C.less mp.1) u W) T⟩
      .split at d
       .rename_i b c tg au;obtain⟨O,I⟩:=A3 d;clear d;have O:=A0 O;have mp:=nC I;have L:K2 ρ m.n m1.hi:=C.less A2;obtain⟨A,rows2,new',u,a2,a3,a4,a5,a6⟩:=TL V0 h B L hy (M.le mp.2.1) G D;have p:K2 A m1.n m'.hi:=C.step u;obtain⟨l,d1,d2,d3,d4,d5⟩:=fX hx;obtain⟨nul,Z,rows,X,q2⟩:=gB d2 d3 d4;have av:Z=inf.size:=A2;subst av;rw[X]at d2;rcases v6 d2 with⟨rfl,rfl,rfl⟩|⟨rfl,a,cap,rfl,hc⟩
        .have J:A2a P base A m1 w e inf.size c [b] none (.slice none 0 0):=⟨true,[],X,.inl ⟨rfl,rfl,rfl,fun b R=>by cases R⟩⟩;obtain⟨v',f,w3,N,S,T⟩:=QY (ty:=ty) (g0:=[b]) (gs:=gs) hu K r hi hz F E u.hr R I p M J a5;exact⟨v',f,w3,N,S,St.trans C u T⟩
        .have Q:cap=rows.length:=d5;subst Q;obtain⟨v',f,w3,N,S,T⟩:=A24 (ty:=ty) hu K r hi hz F E u.hr R I p M X (u.ext _ _ d1) (by rw[X];exact d2) a5 (a6 rfl);exact⟨v',f,w3,N,S,St.trans C u T⟩
       .cases d
     .cases d
    .cases q
 .cases q
end
end
section
open Go
variable [Ora]
section
variable {P:Program} {base:Nat} {ρ ρ':Ren} {m m':Mem} {w w':World}
def JC(h:o+us.length<=row.length):(xU row o us).length=row.length:=by
 unfold xU;simp;omega
def ZA(h:o+us.length<=row.length):(xU row o us)[j]? = if o<=j/\j<o+us.length then us[j-o]? else row[j]? := by
 unfold xU;have a:(row.take o).length=o:=by simp;omega
 by_cases h1:j<o
 .rw[A7 A2,M8,F1 A2,E6 h1]
 .by_cases d:j<o+us.length
  .rw[A9 ⟨A2,d⟩,M8,D8 A2,a,F1 A2]
  .rw[A7 A2,D8 (by simp;omega),H9];congr 1
   simp;omega
def O7.set{R:Nat->Option Obj}{s:Nat}{C C':V8}(h:O7 R rows wd C s)(D:k<rows.length)(I:o+us.length<=wd)(he:Z1 R us vs)
  (hC:∀ j,C'[j]? = if s+k*wd+o<=j/\j<s+k*wd+o+vs.length then vs[j-(s+k*wd+o)]? else C[j]?):O7 R (rows.set k (xU (rows.getD k []) o us)) wd C' s:=by
 have a:rows[k]? = some rows[k]:=A5 D;have B:rows.getD k []=rows[k]:=by rw[B1,a];rfl
 have f:rows[k].length=wd:=h.1 _ (N5 D);rw[B];refine⟨fun row hr=>?_,fun r row j u v d a2 a3=>?_⟩
 .rcases List.mem_or_eq_of_mem_set hr with h1|rfl
  .exact h.1 row h1
  .rw[JC A2];exact f
 .rw[hC]at a3;by_cases p:k=r
  .subst p;rw[R7 D]at d;have d:=A8 d;subst d;have E:=(B0.1 a2).1;rw[JC A2,f]at E;rw[ZA A2]at a2;by_cases n:o<=j/\j<o+us.length
   .rw[A9 n]at a2;rw[A9 (by rw[<- he.1];omega)]at a3;exact he.2 (j-o) u v a2 (by rw[<- a3];congr 1;omega)
   .rw[A7 n]at a2;rw[A7 (by rw[<- he.1];omega)]at a3;exact h.2 k _ j u v a a2 a3
  .rw[dA p]at d;have E:=(B0.1 a2).1;rw[h.1 _ (C8 d)]at E;have G:=(B0.1 d).1;have F:=he.1;rw[A7]at a3
   .exact h.2 r row j u v d a2 a3
   .rcases F8 r k with A|H
    .have q:(r+1)*wd<=k*wd:=F7 wd A;rw[H6]at q;omega
    .have q:(k+1)*wd<=r*wd:=F7 wd A2;rw[H6]at q;omega
def TY(h:HR P base ρ m.H w)(f:xC P m t x y=some (v,m'))(hf:K2 ρ m.n m'.hi)(hx:VR ρ x x')(hy:VR ρ y y')(hS:Sat m'.lg):UOk P base ρ m w (Instr.storeAt t x' y') m'/\v=undef/\m.lg.le m'.lg:=by
 unfold xC at f;split at f
 .rename_i b i tg z o ts aw;cases D:jD y with
  | true=>rw[D]at f;cases f
  | false =>
  rw[D]at f;simp only[D6]at f;split at f
  .rename_i xs gs m1 hd;split at f
   .rename_i c tc T g hg;obtain⟨W,r⟩:=A3 f;clear f;have W:=A0 W;split at r
    .rename_i g2 m2 hj;rw[N6]at r;simp only[hole]at r;obtain⟨hs,rfl⟩:=nI r;obtain⟨ai,Y⟩:=U4 hs;have md:=S1 V0 hd;have mj:=N1 hj;have ag:m2.hi=m'.hi:=by rw[Y];simp
     have ay:m'.lg=fN m2 tg (.set (tg-10) o) (hole c tg::z::xs):=by rw[Y];simp[hole]
     have X:m2.lg.le m'.lg:=by rw[ay];exact⟨[_],rfl⟩
     have aj:K2 ρ m.n m1.hi:=hf.less A2;have L:m1.lg.le m'.lg:=by rw[<- mj.2.1];exact X
     obtain⟨N,K,e2,e3,e4,e5,e6⟩:=iO V0 h hd aj (hy.cells D) (hS.le L);have az:K2 N m1.n m2.hi:=(hf.step K).less A2;obtain⟨ρ2,lg,d1,d2,d3,d4,d5,d6⟩:=eW K.hr hj az;obtain⟨⟨l,wd,jW,k,a1,a2,a3,a4,a5,a6,rfl⟩,a8⟩:=wI hx;have F:=K.ext _ _ a1;obtain⟨a,inf,q1,q2,q3,J⟩:=SqR.ex (K.hr.atl F hg).1;rcases J with⟨J,_⟩|⟨_,J⟩
     .rw[a2]at J;cases J
     obtain⟨C,fz,T',rows,R,f1,f2,f3,f4,f5,f6,f7,f8,f9⟩:=J;have au:a=wd:=by
      have:tg=10+wd:=by rw[<- a8,a3];rfl
      omega
     subst au;obtain⟨rfl,f10⟩:=f9 rfl;have av:tg=10+a:=A2;have an:Sat (m2.wLg (fN m2 tg (.set (tg-10) o) (hole c tg::z::xs))).lg:=by rw[g9,<- ay];exact hS
     obtain⟨r1,r2,nul,af,rws,r3,r4⟩:=kC an (.refl _);obtain⟨kk,hz⟩:=HC a4;have B:(hole c tg::z::xs).map (D5 Ora.env)=.seq false a rows::.int kk (.ofNat k)::xs.map (D5 Ora.env):=by
      show Ora.env c::D5 Ora.env z::xs.map (D5 Ora.env)=_;rw[f2,hz]
     rw[B,show tg-10=a by omega]at r1;have r1:Ora.env m2.lg.nx=if a=a/\k<rows.length/\o+(xs.map (D5 Ora.env)).length<=a then .seq false a (rows.set k (xU (rows.getD k []) o (xs.map (D5 Ora.env))))else .none:=r1
     by_cases hc:a=a/\k<rows.length/\o+(xs.map (D5 Ora.env)).length<=a
     .rw[A9 hc]at r1;obtain⟨_,S,V⟩:=hc;have hR:∀ b' ∈ gs,∀ l',N b'=some l'->Sub l'.G lg.G:=fun b' ao l' al=>d6 b' (.tail _ ao) l' al
      have d:=e6 lg.G hR;have A:Sub R.G lg.G:=d6 g (.head _) R f7;have E:y'.cells.toList.length=(xs.map (D5 Ora.env)).length:=d.1.symm;have aq:(k+1)*a<=l.cap*a:=F7 a A2;rw[H6]at aq;obtain⟨w',g1,ak,g3,g4,g5⟩:=Z2 (P:=P) (b:=l.blk) (o:=l.sh+k*a+o) (fz:=fz) y'.cells.toList 0 C w f1 (DG d) (by rw[E];omega) f10;have ah:C.toList.length=C.size:=R4;have q:(Array.mk (cM C.toList (l.sh+k*a+o+0) y'.cells.toList)).size=C.size:=by simp[Z3]
      have ax:∀ j,(Array.mk (cM C.toList (l.sh+k*a+o+0) y'.cells.toList))[j]? = if l.sh+k*a+o<=j/\j<l.sh+k*a+o+y'.cells.toList.length then y'.cells.toList[j-(l.sh+k*a+o)]? else C[j]? := fun j=>by
       rw[I9,lJ _ _ _ _ (by rw[E];omega)];simp
      have p:O7 lg.G rows a C l.sh:=O7.mono ⟨f6,f8⟩ A;have u:St P base ρ ρ2 m (m2.wLg (fN m2 tg (.set (tg-10) o) (hole c tg::z::xs))) w w:=St.trans (hf.less (by simp;omega)) (St.trans (hf.less A2) K d1) (St.wLg d1.hr _);have I:Hp.get (m2.wLg (fN m2 tg (.set (tg-10) o) (hole c tg::z::xs))).H b=some (.sq c tc T' g false):=by rw[kU,tI K.hr hj az F];exact hg
      have Q:=d1.ext _ _ F;have ar:BR P ρ2 (.sq m2.lg.nx tg T' g2 false) l w':=by
       refine⟨⟨a,inf,av,q2,q3,.inr ⟨a2,_,fz,T',_,lg,g4,r1,by rw[R1];exact f3,f4,by rw[q];exact f5,(p.set S V d ax).1,d4,(p.set S V d ax).2,fun _=>⟨rfl,by rw[q];exact f10⟩⟩⟩⟩
      have O:=St.write u.hr hs I rfl Q a2 ak g3 g5 ar (fun h=>by cases h);refine⟨⟨ρ2,w',?_,St.trans hf u O⟩,rfl,md.2.1.trans L⟩;have Z:=iR aw;have M:ts.length=(xs.map (D5 Ora.env)).length:=by
       have:=F3 List.length e5;rw[E8]at this;exact this.symm
      have e:y'.cells.size=ts.length:=by rw[M,<- E];simp
      simp[Instr.storeAt,Instr.sureAddr,storeVar,A4,K8 Z,Result.andThen,e,g1]
     .rw[A7 hc]at r1;rw[r1]at r3;cases r3
    .cases r
   .cases f
  .cases f
 .cases f
def UB{lo' hi' mx':Q3}(h:HR P base ρ m.H w)(a:xE P m t x lo hi mx=some (v,m'))(L:K2 ρ m.n m'.hi)(hx:VR ρ x x')(p:OR ρ lo lo')(q:OR ρ hi hi')(f:OR ρ mx mx')(D:Sat m'.lg) :
  VOk P base ρ m w (Instr.sliceAt t x' lo' hi' mx') v m'/\m.lg.le m'.lg:=by
 unfold xE at a;split at a
 .rename_i e b i tg hu;split at a
  .rename_i s C;obtain⟨d,a⟩:=A3 a;have d:=A0 d;obtain⟨l,h1,E,h3,Q⟩:=nM hx;obtain⟨⟨r,g1,g2⟩,⟨lg,rfl⟩,g4⟩:=GT (w:=w) hu C d h1 E h3 (fun h=>by cases h) a p q f D;exact⟨⟨r,ρ,w,g1,g2,St.wLg h lg⟩,g4⟩
  .cases a
 .rename_i e b i tg hu;split at a
  .rename_i s C;obtain⟨d,a⟩:=A3 a;have d:=A0 d;obtain⟨l,h1,E,h3,Q,M⟩:=fX hx;obtain⟨⟨r,g1,g2⟩,⟨lg,rfl⟩,g4⟩:=GT (w:=w) hu C d h1 E h3 (fun _=>M) a p q f D;exact⟨⟨r,ρ,w,g1,g2,St.wLg h lg⟩,g4⟩
  .cases a
 .rename_i e b i tg hu;split at a
  .rename_i s C;obtain⟨d,a⟩:=A3 a;have d:=A0 d;split at a
   .rename_i c tc J m1 N;have A:∀ {m1:Mem},LL m1 J c tg false lo hi mx=some (v,m')->J9 m1 m'/\m1.lg.le m'.lg:=fun{m1} a=>by
     have go:∀ {m1:Mem} {l h:Value} {cc:Bool},gD m1 J c tg l h cc=some (v,m')->J9 m1 m'/\m1.lg.le m'.lg:=fun h=>by
      unfold gD at h;obtain⟨_,h⟩:=A3 h;rw[N6]at h;simp only[D2,M0]at h;obtain⟨_,rfl⟩:=h;exact⟨⟨_,rfl⟩,V6⟩
     unfold LL LK at a;split at a
     .exact go a
     .exact go (A3 a).2
     .split at a
      .rename_i K
       have:=go a;exact⟨(bS K).1.trans this.1,(bS K).2.trans this.2⟩
      .cases a
     .cases a
    obtain⟨⟨lg,F⟩,hle⟩:=A a;have V:m1.hi=m'.hi:=by rw[F];simp
    obtain⟨u,l,I,O,W,T,S,R⟩:=EJ h N (L.less A2) hx (D.le hle);have mono:∀ {o o':Q3},OR ρ o o'->OR u o o':=fun{o o'} h=>by
     cases o<;>cases o'<;>first|exact trivial|exact h.elim|exact VR.mono I.ext h
    obtain⟨⟨r,g1,g2⟩,⟨G,B⟩,g4⟩:=GT (w:=w) (cl:=false) hu C d O T S (fun h=>by cases h) a (mono p) (mono q) (mono f) D;subst B;exact⟨⟨r,u,w,g1,g2,St.trans (L.less (by simp)) I (St.wLg I.hr G)⟩,R.trans g4⟩
   .cases a
  .cases a
 .cases a
end
end
section
open Go
variable [Ora]
section
variable {P:Program} {base:Nat} {ρ ρ':Ren} {m m':Mem} {w w':World}
def BX{a':Addr}{n c':Nat}{a:List Int}(p:P.underlying s=some (.slice e))(q:P.underlying t=some .string)(he:P.underlying e=some (.int .u8))(d:(loadCells a' n).run P w=.ok (a.map (Value.int .u8)).toArray w) :
  (convert s t (.slice (some a') n c')).run P w=.ok (.string ⟨⟨a.map fun n=>UInt8.ofNat n.toNat⟩⟩) w:=by
 have:=run_bytesToString w a' n c' a d;have f:=oU a [];simp only[G5]at f;simp only[convert,A4,C9 p,C9 q,C9 he,Result.andThen];rw[this,show ByteArray.empty=ByteArray.mk ⟨[]⟩from rfl,f]
def EU{n:Nat}(a:P.underlying s=some (.slice e))(d:P.underlying t=some .string)(he:P.underlying e=some (.int .u8)):(convert s t (.slice none n c)).run P w=.ok (.string ByteArray.empty) w:=by
 simp[convert,A4,C9 a,C9 d,C9 he,Result.andThen,Conv.bytesToString]
def IS{b:ByteArray}(F:P.underlying s=some ds)(E:P.underlying t=some (.slice e))(he:P.underlying e=some (.int .u8))(w:World) :
  ∃ (cap:Nat) (C:Array Value),b.size<=cap/\C.size=cap/\(∀ (i:Nat) (u:Value),(P2 b.data.toList)[i]? = some u->C[i]? = some u)/\(convert s t (.string b)).run P w=.ok (.slice (some ⟨w.heap.size,0,none⟩) b.size cap) { w.drew with heap:=w.heap.push (.cells C e (C.size,C.size+1)) }:=by
 let q:Question:=.appendCap b.size 0 e
 let cap:=q.cut (w.tape w.drawn q)
 have d:b.size<=cap:=by show b.size<=b.size+_;omega
 have f:(choose q).run P w=.ok cap w.drew:=by
  simp only[choose,Sem.run];rw[A7 (by simp[q,Question.forced])];rfl
 let C:V8:=(b.data.map fun b=>Value.int .u8 b.toNat)++Array.replicate (cap-b.size) (.int .u8 0)
 have hC:C.size=cap:=by
  have:b.data.size=b.size:=rfl;simp[C,this];omega
 refine⟨cap,C,d,hC,fun i u hi=>?_,?_⟩
 .have B:=(B0.1 hi).1;simp[P2]at B;have r:i<(b.data.map fun b=>Value.int .u8 b.toNat).size:=by simpa using B
  show((b.data.map fun b=>Value.int .u8 b.toNat)++Array.replicate (cap-b.size) (.int .u8 0))[i]? = some u;rw[S7 r]
  simpa [P2]using hi
 .have n:∀ w2:World,w2.heap[w.heap.size]? = some (.cells C e (0,0))->(markStringish ⟨w.heap.size,0,none⟩).run P w2=.ok () (w2.freeze { block:=w.heap.size,off:=C.size } 1):=fun w2 D=>by
   simp[markStringish,shape,freeze,Sem.run,World.shape?,D]
  have A:({ w.drew with heap:=w.heap.push (.cells C e (0,0)) }:World).freeze { block:=w.heap.size,off:=C.size } 1={ w.drew with heap:=w.heap.push (.cells C e (C.size,C.size+1)) }:=by
   unfold World.freeze;rw[A7 E7];congr 1;apply Array.ext_getElem?;intro i;rw[G9];by_cases hi:w.heap.size=i
   .subst hi;simp
   .rw[A7 hi];simp only[j8];rw[A7 (fun h=>hi h.symm),A7 (fun h=>hi h.symm)]
  have a:(convert s t (.string b)).run P w=(Conv.stringToBytes e b).run P w:=by
   cases ds<;>simp[convert,A4,C9 F,C9 E,C9 he,Result.andThen]
  rw[a];unfold Conv.stringToBytes;simp only[A4,show(choose (.appendCap b.size 0 e)).run P w=.ok cap w.drew from f,Result.andThen];have p:(newRow e C).run P w.drew=.ok ⟨w.heap.size,0,none⟩ { w.drew with heap:=w.heap.push (.cells C e (0,0)) }:=rfl;rw[show(newRow e ((b.data.map fun b=>Value.int .u8 b.toNat)++Array.replicate (cap-b.size) (.int .u8 0))).run P w.drew=_ from p];simp only[Result.andThen];rw[n _ (by simp),A];rfl
def GY:∀ {us:List U} {s:List UInt8} {vs:D0},tZ us=some s->Z1 (fun k=>w.heap[k]?) us vs->∃ d:List Int,vs=d.map (Value.int .u8)/\s=d.map fun n=>UInt8.ofNat n.toNat
 | [],s,vs,h,he=>by
   cases h;have:vs=[]:=G0.1 he.1.symm;subst this;exact⟨[],rfl,rfl⟩
 | u::us,s,vs,h,he=>by
   unfold tZ at h;split at h
   .rename_i heq;cases heq
   .rename_i n r heq;cases heq;split at h
    .split at h
     .rename_i l p;cases h;cases vs with
      | nil=>have:=he.1;simp at this
      | cons v vr =>
        obtain⟨d,A,q⟩:=GY (vs:=vr) p ⟨by have:=he.1;simpa using this,fun i a b h1 f=>he.2 (i+1) a b (by simpa using h1) (by simpa using f)⟩
        have:=gA (he.2 0 _ v rfl rfl) rfl;subst this;exact⟨(Int.ofNat n)::d,by rw[A];rfl,by rw[q];rfl⟩
     .cases h
    .cases h
   .cases h
def GZ:∀ {rows:List (List U)} {s:List UInt8},vW rows=some s->tZ (rows.flatMap id)=some s/\(rows.flatMap id).length=rows.length/\∀ (r:Nat) (row:List U) (j:Nat) (u:U),rows[r]? = some row->row[j]? = some u->j=0/\(rows.flatMap id)[r]? = some u
 | [],s,h=>by cases h;exact⟨rfl,rfl,fun r row j u h=>by simp at h⟩
 | row::rows,s,h=>by
   unfold vW at h;split at h
   .rename_i heq;cases heq
   .rename_i n r heq;cases heq;split at h
    .rename_i B;split at h
     .rename_i l p;cases h;obtain⟨h1,f,h3⟩:=GZ p;refine⟨?_,by show([U.int .u8 (Int.ofNat n)]++rows.flatMap id).length=_;rw[E1,f];simp;omega,fun q row j u a a2=>?_⟩
      .simp only[gJ,id,S2,G5,tZ];rw[A9 B,h1]
      .cases q with
       | zero =>
         simp at a;subst a;cases j with
         | zero=>simp at a2;subst a2;exact⟨rfl,rfl⟩
         | succ j=>simp at a2
       | succ q =>
         obtain⟨A,d⟩:=h3 q row j u (by simpa using a) a2;exact⟨A,by simpa using d⟩
     .cases h
    .cases h
   .cases h
def qF{t:Nat}:∀ {l:D0},l6 t l=true->∀ v ∈ l,G4 v=t
 | [],_,v,hv=>by cases hv
 | x::r,h,v,hv=>by
   obtain⟨h1,a⟩:=B6 (show(Nat.beq (G4 x) t && l6 t r)=true from h);rcases B5.1 hv with rfl|hv
   .exact A0 h1
   .exact qF a v hv
def sG{R:Nat->Option Obj}(h:LR ρ cs cs')(f:∀ v ∈ cs,G4 v<10):Z1 R (cs.map (D5 Ora.env)) cs':=by
 refine⟨by simp[h.1],fun i u v a a2=>?_⟩;rw[F6]at a;cases d:cs[i]? with
 | none=>rw[d]at a;cases a
 | some x =>
   rw[d]at a;have a:=A8 a;subst a;exact .sc (aB (h.2 i x v d a2) (f x (C8 d))).1
def KH(m m1:Mem):A5h m m1=⟨m.H,m.n,m.W,m1.hi,m1.lg⟩:=by cases m;cases m1;rfl
def St.kept{ρ:Ren}{m:Mem}{w:World}{hi:Nat}{lg:Lg}(h:HR P base ρ m.H w)(hh:m.hi<=hi):St P base ρ ρ m ⟨m.H,m.n,m.W,hi,lg⟩ w w :=
 ⟨fun _ _ h=>h,fun b l h1 a=>(by rw[h1]at a;cases a),A6 _,hh,fun h=>B9 h hh,h,fun _ h=>h,fun b h1 a=>absurd h1 a,fun _ _ _=>rfl,A6 _,⟨rfl,rfl,rfl⟩,fun b l h1 a=>(by rw[h1]at a;cases a),fun _ _ _ _=>rfl,fun _ h=>.inr h⟩
def A1y(h:HR P base ρ m.H w)(hb:base<=w.heap.size)(d:LP P m s t x=some (v,m'))(Z:K2 ρ m.n m'.hi)(hx:VR ρ x x')(hS:Sat m'.lg):VOk P base ρ m w (convert s t x') v m'/\m.lg.le m'.lg:=by
 unfold LP at d;split at d
 .rename_i e a n c O Q;split at d
  .rename_i he;split at d
   .rename_i cs hr;obtain⟨D,d⟩:=A3 d;obtain⟨u,p,e2,r,L,N,e5⟩:=M4 d hS;obtain⟨lg,rfl⟩:=H5 d;have q:=St.wLg h lg;have I:=qF D;have key:∀ {a' c'} {M:D0},LR ρ cs M->(loadCells a' n).run P w=.ok ⟨M⟩ w->VOk P base ρ m w (convert s t (.slice (some a') n c')) v (m.wLg lg):=fun{a' c' M} V ay=>by
     have aw:Z1 (fun k=>w.heap[k]?) (cs.map (D5 Ora.env)) M:=sG V (fun v hv=>by rw[I v hv];omega);have J:∃ f,tZ (cs.map (D5 Ora.env))=some f/\u=.str f:=by
      have p:(match tZ (cs.map (D5 Ora.env))with|some s=>U.str s|none=>.none)=u:=p;split at p
      .rename_i f A;exact⟨f,A,p.symm⟩
      .subst p;cases L
     obtain⟨f,K,rfl⟩:=J;cases L;obtain⟨ns,r1,r2⟩:=GY (w:=w) K aw;subst r1;subst r2;exact⟨_,ρ,w,BX O Q he ay,N ρ,q⟩
    refine⟨?_,H8 d⟩;rcases P0 hx with⟨l,V,_,_,rfl⟩|⟨l,c',V,_,_,_,_,rfl⟩|⟨a',c',_,rfl,_,rfl⟩
    .obtain⟨M,g1,g2,g3⟩:=d8 h hr V;exact key g1 (K4 g2 g3)
    .obtain⟨M,g1,g2,g3⟩:=d8 h hr V;exact key g1 (K4 g2 g3)
    .have:cs=[]:=by
      unfold t8 at hr;split at hr
      .have:=(jH hr).2;simpa using this
      .cases hr
     subst this;exact key .nil (by simp[loadCells,loadCellsFrom])
   .cases d
  .cases d
 .rename_i e fn a1 a2 O Q;split at d
  .rename_i he;split at d
   .rename_i hh b m1 hd;rw[KH]at d;obtain⟨u,p,e2,r,L,N,e5⟩:=M4 d hS;have hle:=H8 d;obtain⟨lg,rfl⟩:=H5 d;obtain⟨T,l,d1,d2,d3,d4,d5,d6⟩:=EJ h hd (Z.less (by simp[Mem.wLg])) hx (hS.le hle);have q:St P base ρ ρ m (Mem.wLg ⟨m.H,m.n,m.W,m1.hi,m1.lg⟩ lg) w w:=St.kept h d1.hle;obtain⟨nul,wd,rows,K,q2⟩:=gB d4 d5 A2;have ax:wd=1:=A2;subst ax;rw[K]at d4;have J:∃ f,vW rows=some f/\u=.str f:=by
     have p:evU .str [D5 Ora.env hh]=u:=p;rw[K]at p;have p:(if 1=1 then(match vW rows with|some s=>U.str s|none=>.none)else .none)=u:=p;rw[A9 rfl]at p;split at p
     .rename_i f A;exact⟨f,A,p.symm⟩
     .subst p;cases L
    obtain⟨f,A,rfl⟩:=J;cases L;refine⟨?_,d6.trans hle⟩;have hG:=(d1.hr.atl d2 d3).1.2;rcases v6 d4 with⟨rfl,rfl,rfl⟩|⟨rfl,a,c,rfl,hc⟩
    .cases A;exact⟨_,ρ,w,EU O Q he,N ρ,q⟩
    .obtain⟨_,new',g1,g2,g3,g4⟩:=tV (w:=w) d4 hG;obtain⟨k1,k2,k3⟩:=GZ A;have S:Z1 (fun k=>w.heap[k]?) (rows.flatMap id) new':=by
      refine⟨by rw[k2,g1];simp,fun i u v b1 b2=>?_⟩;have E:i<rows.length:=by have:=(B0.1 b1).1;rw[k2]at this;exact this
      have au:rows[i].length=1:=g3.1 _ (N5 E);have F:rows[i]? = some rows[i]:=A5 E;have h0:rows[i][0]? = some (rows[i][0]' A2):=A5 A2;obtain⟨_,k4⟩:=k3 i _ 0 _ F h0;rw[b1]at k4;have k4:=A8 k4;rw[k4];exact(g3.2 i _ 0 _ v F h0 (by simpa using b2)).mono hG
     obtain⟨ns,r1,r2⟩:=GY (w:=w) k1 S;subst r1;subst r2;have az:(ns.map (Value.int .u8)).length=rows.length:=by rw[g1];omega
     exact⟨_,ρ,w,BX O Q he (lT az g4),N ρ,q⟩
   .cases d
  .cases d
 .rename_i y _ _ _ ds e O Q;obtain⟨D,d⟩:=A3 d;have D:=A0 D;split at d
  .rename_i he;split at d
   .rename_i B;split at d
    .rename_i g m1 hj;rw[N6]at d;simp only[hole]at d;have d:bH (m1.wLg (fN m1 11 .byt [y])) m1.lg.nx 11 e g=some (v,m'):=d;have mj:=N1 hj;have mn:=q8 d;simp only[MQ,g9,WC]at mn;obtain⟨T,lg,p,e2,L,N,e5,e6⟩:=eW h hj (Z.less A2);have q:St P base ρ T m (m1.wLg (fN m1 11 .byt [y])) w w:=St.trans (Z.less (by simp;omega)) p (St.wLg p.hr _);obtain⟨f,rfl,f1⟩:=o7 hx D;obtain⟨r1,r2,_⟩:=kC (m:=m1) (t:=11) (op:=.byt) (xs:=[y]) (lg:=m'.lg) hS (by rw[g9,mn.2.1];exact .refl _);have r1:Ora.env m1.lg.nx=evU .byt [D5 Ora.env y]:=r1;rw[f1]at r1;have r1:Ora.env m1.lg.nx=.seq false 1 (jV f):=r1;obtain⟨cap,C,c1,c2,c3,c4⟩:=IS (P:=P) (b:=⟨⟨f⟩⟩) O Q he w;obtain⟨inf,X,Y⟩:∃ inf,P.info? e=some inf/\inf.size=1:=by
      unfold H1 at B;cases hi:P.info? e with
      | none=>rw[hi]at B;cases B
      | some inf=>rw[hi]at B;exact⟨inf,rfl,A8 B⟩
     have av:ByteArray.size ⟨⟨f⟩⟩=f.length:=rfl;rw[av]at c1 c4;obtain⟨ρ2,K,q2⟩:=cO (w':={ w.drew with heap:=w.heap.push (.cells C e (C.size,C.size+1)) }) (cap:=cap) (C:=C) q.hr hb d (by simpa using(Z.less (A6 _)).step p) r1 rfl X Y (by rw[hY];exact c1) A2
      ((IU (R:=lg.G) f).move (o':=0) fun i hi=>by
        rw[hY]at hi;have E:i<(P2 f).length:=by simp[P2];omega
        rw[F4,c3 i (P2 f)[i] (A5 E)];simp[E]) N (fun i hi hh=>by have:=hh.1;simp only at this;omega) ⟨rfl,rfl,rfl⟩ rfl
     rw[hY]at K;exact⟨⟨_,ρ2,_,c4,K,St.trans Z q q2⟩,by rw[mn.2.1,<- mj.2.1];exact⟨[_],rfl⟩⟩
    .cases d
   .cases d
  .cases d
 .cases d
def UH(hu:P.underlying t=some (.slice e))(hi:P.info? e=some inf)(p:inf.bytes<=90000)(h0:0<inf.size)(u:∀ w,(zeroValue e).run P w=.ok z w)(d:k<=vX)(w:World) :
  (Instr.makeSlice t (.int .i64 (Int.ofNat k)) (.int .i64 (Int.ofNat k))).run P w=.ok (.slice (some ⟨w.heap.size,0,none⟩) k k) { w with heap:=w.heap.push (.cells ((Array.range (k*inf.size)).map (z.cells[· % z.cells.size]!)) e (0,0)) }:=by
 have d:k<=1000000000:=d;have h:H1 P e=some inf.size:=by simp[H1,hi]
 have wl:IntKind.i64.wrap (Int.ofNat k)=Int.ofNat k:=pP .i64 k (by simp only[MV];omega);have hm:k*inf.bytes<=1000000000*90000:=fH d p;have a:(askRoom (k*inf.bytes)).run P w=.ok () w:=by
  unfold askRoom roomBytes;rw[A7 A2];rfl
 have f:((inf.bytes:Int)*(k:Int))=((k*inf.bytes:Nat):Int):=by rw[bB];simp
 unfold Instr.makeSlice;simp only[A4,C9 hu,asInt,asIntOf,Result.andThen,Sem.run_pure,V1 hi,wl];rw[A7]
 .have n:(Int.ofNat k).toNat=k:=by simp
  simp only[A4,Sem.run_pure,Result.andThen,n,a,K8 h];by_cases q:k*inf.size=0
  .have A:∀ z:V8,Array.map (fun x=>z[x%z.size]!) (Array.range (k*inf.size))=⟨[]⟩:=fun z=>by rw[q];apply J1;simp
   simp only[A9 q,A];rfl
  .simp only[A7 q,A4,Sem.run_pure,Result.andThen,u];rfl
 .have r:Int.ofNat k=(k:Int):=rfl;simp only[r,f];simp;omega
def VW{R:Nat->Option Obj}{s:Nat}(h0:0<s)(n:z.cells.size=s)(p:LR ρ z.cells.toList z.cells.toList)(q:∀ v ∈ z.cells.toList,G4 v<10):O7 R (List.replicate k (z.cells.toList.map (D5 Ora.env))) s ((Array.range (k*s)).map (z.cells[· % z.cells.size]!)) 0:=by
 have he:=sG (R:=R) p q;refine⟨fun row hr=>?_,fun r row j u v g1 g2 g3=>?_⟩
 .rw[(List.mem_replicate.1 hr).2];simp[n]
 .have hr:=(B0.1 g1).1;rw[T5]at hr;rw[List.getElem?_replicate,A9 hr]at g1;cases g1;have f:=(B0.1 g2).1;simp only[E8,R4]at f;rw[n]at f;have hm:(r*s+j)%s=j:=by rw[bB,Nat.mul_add_mod,d9 f]
  have d:r*s+j<k*s:=by
   have:(r+1)*s<=k*s:=F7 s hr;rw[H6,gI]at this;omega
  rw[F4,Array.getElem?_map,Array.getElem?_range,A9 d]at g3;simp only[L2,D2,n,hm]at g3;have a:j<z.cells.size:=A2;rw[getElem!_pos z.cells j a]at g3;refine he.2 j u v g2 ?_;rw[P3,F2 a,g3]
def A0M{l c:Value}(h:HR P base ρ m.H w)(R:base<=w.heap.size)(a:JW P m t l c=some (v,m'))(C:K2 ρ m.n m'.hi)(N:VR ρ l l')(T:VR ρ c c')(M:Sat m'.lg):VOk P base ρ m w (Instr.makeSlice t l' c') v m'/\m.lg.le m'.lg:=by
 unfold JW at a;split at a
 .rename_i e i Z j tj hu;obtain⟨d,B⟩:=A3 a;clear a;obtain⟨d,h3⟩:=B6 d;obtain⟨h1,D⟩:=B6 d;have h1:=A0 h1;have D:=A0 D;have h3:=A0 h3;subst h1 D h3;have a:=B;clear B;split at a
  .rename_i inf hi;obtain⟨d,a⟩:=A3 a;obtain⟨r,f⟩:=B6 d;have r:=A1 r;have f:0<inf.size:=A1 f;split at a
   .rename_i z I;obtain⟨d,a⟩:=A3 a;obtain⟨u,p⟩:=B6 d;have u:=A0 u;have p:∀ v ∈ z.cells.toList,G4 v<10:=fun v hv=>A1 (D4.1 p v hv)
    split at a
    .rename_i g m1 K;rw[N6]at a;simp only[hole]at a;have a:bH (m1.wLg (fN m1 (10+inf.size) (.rep inf.size) (hole i 3::z.cells.toList))) m1.lg.nx (10+inf.size) e g=some (v,m'):=a;have Q:=N1 K;have F:=q8 a;simp only[MQ,g9,WC]at F;obtain⟨E,lg,G,e2,X,V,e5,e6⟩:=eW h K (C.less A2);have A:St P base ρ E m (m1.wLg (fN m1 (10+inf.size) (.rep inf.size) (hole i 3::z.cells.toList))) w w:=St.trans (C.less (by simp;omega)) G (St.wLg G.hr _);obtain⟨k,n,rfl,f1,f2⟩:=M6 (v:=hole i 3) N (show(3:Nat)<8 by decide);obtain⟨W,n2,rfl,f3,f4⟩:=M6 (v:=hole i 3) T (show(3:Nat)<8 by decide);rw[f1]at f3;cases f3;obtain⟨r1,Y,nul,wd,rows,J,r4⟩:=kC (m:=m1) (t:=10+inf.size) (op:=.rep inf.size) (xs:=hole i 3::z.cells.toList) (lg:=m'.lg) M (by rw[g9,F.2.1];exact .refl _);have r1:Ora.env m1.lg.nx=evU (.rep inf.size) (D5 Ora.env (hole i 3)::z.cells.toList.map (D5 Ora.env)):=r1;rw[f1]at r1;have O:k=.i64:=by
      have f2:(3:Nat)=iD k:=f2;cases k<;>first|rfl|(exfalso;revert f2;decide)
     subst O;cases n with
     | negSucc q=>rw[J]at r1;cases r1
     | ofNat q =>
       have r1:Ora.env m1.lg.nx=if(z.cells.toList.map (D5 Ora.env)).length=inf.size/\q<=vX then .seq false inf.size (List.replicate q (z.cells.toList.map (D5 Ora.env)))else .none:=r1
       by_cases d:(z.cells.toList.map (D5 Ora.env)).length=inf.size/\q<=vX
       .rw[A9 d]at r1;obtain⟨ρ2,L,S⟩:=cO (w':={ w with heap:=w.heap.push (.cells ((Array.range (q*inf.size)).map (z.cells[· % z.cells.size]!)) e (0,0)) }) (cap:=q) (fz:=(0,0)) A.hr R a (by simpa using(C.less (A6 _)).step G) r1 rfl hi rfl (by simp) (by simp)
         (VW (ρ:=ρ) f u (pL I) p) V (fun i hi hh=>by have:=hh.2;simp only at this;omega) ⟨rfl,rfl,rfl⟩ rfl
        rw[T5]at L;exact⟨⟨_,ρ2,_,UH hu hi r f (fun w=>aJ I w) d.2 w,L,St.trans C A S⟩,by rw[F.2.1,<- Q.2.1];exact⟨[_],rfl⟩⟩
       .rw[A7 d,J]at r1;cases r1
    .cases a
   .cases a
  .cases a
 .cases a
end
end
section
open Go
variable [Ora]
section
variable {P:Program} {base:Nat} {ρ ρ':Ren} {m m':Mem} {w w':World}
def RI{t:Nat}(h:T9 m 8 .nilp [hole i t]=some (v,m'))(hi:Ora.env i=.seq nul wd rows)(n:Sat m'.lg):VR ρ v (.bool nul)/\J9 m m'/\m.lg.le m'.lg:=by
 obtain⟨u,d,A,r,p,f,q⟩:=M4 h n;have a:[hole i t].map (D5 Ora.env)=[.seq nul wd rows]:=by
  show[Ora.env i]=_;rw[hi]
 rw[a]at d;have d:U.bool nul=u:=d;subst d;cases p;exact⟨f ρ,H5 h,H8 h⟩
def BY{x y:Operand}{a:Option Addr}{n:Nat}(hu:P.underlying t=some (.slice e))(B:(a=none/\n=0/\c=0/\nul=true)∨(nul=false/\∃ q:Addr,a=some q/\n<=c))(p:op=.eql∨op=.neq)(w:World) :
  (do eqGuard op t x y (.slice a n c) (.slice none 0 0);binOp op t (.slice a n c) (.slice none 0 0):Sem Value).run P w=.ok (.bool (if op=.eql then nul else !nul)) w:=by
 have key:∀ {ρ:Ren} {am:Value},VR ρ am (.slice a n c)->lZ P t x y am (.slice none 0 0)=true->sO P .eql t am (.slice none 0 0)=some (.bool nul)->sO P .neq t am (.slice none 0 0)=some (.bool !nul) ->
   (do eqGuard op t x y (.slice a n c) (.slice none 0 0);binOp op t (.slice a n c) (.slice none 0 0):Sem Value).run P w=.ok (.bool (if op=.eql then nul else !nul)) w:=fun{ρ am} hv r h1 h=>by
  have f:VR ρ (.slice none 0 0) (.slice none 0 0):=.pure rfl;have u:=rW (op:=op) (fun _=>r) hv f w;rcases p with rfl|rfl
  .obtain⟨g1,_⟩:=wP h1 hv f w;simp[A4,u,g1,Result.andThen]
  .obtain⟨g1,_⟩:=wP h hv f w;simp[A4,u,g1,Result.andThen]
 rcases B with⟨rfl,rfl,rfl,rfl⟩|⟨rfl,q,rfl,C⟩
 .refine key (ρ:=fun _=>none) (am:=.slice none 0 0) (.pure rfl) rfl ?_ ?_
  .simp[sO,CD,eqM,hu]
  .simp[sO,CD,eqM,hu]
 .obtain⟨d,A⟩:∃ d,Op.maxDepth=d+1:=⟨Op.maxDepth-1,rfl⟩;have he:∀ w,(Op.equal t (.slice (some q) n c) (.slice none 0 0)).run P w=.ok false w:=fun w=>by
   rw[Op.equal,A];simp[Op.equalIn,A4,C9 hu,Result.andThen]
  have r:∀ o:BinOp,(eqGuard o t x y (.slice (some q) n c) (.slice none 0 0)).run P w=.ok () w:=fun o=>by
   unfold eqGuard;cases o<;>rfl
  rcases p with rfl|rfl
  .rw[A4,r];show(do pure (.bool (<- Op.equal t (.slice (some q) n c) (.slice none 0 0))):Sem Value).run P w=_;rw[A4,he];rfl
  .rw[A4,r];show(do pure (.bool (!(<- Op.equal t (.slice (some q) n c) (.slice none 0 0)))):Sem Value).run P w=_;rw[A4,he];rfl
def A3A{x y:Operand}{a a' b:Value}(F:A0C P m op t x y a b=some (v,m'))(K:VR ρ a a')(Q:VR ρ b b')(I:Sat m'.lg) :
  (∃ r,(do eqGuard op t x y a' b';binOp op t a' b':Sem Value).run P w=.ok r w/\VR ρ v r)/\J9 m m'/\m.lg.le m'.lg:=by
 unfold A0C at F;split at F
 .rename_i e k T i tg hu;obtain⟨f,d⟩:=A3 F;clear F;obtain⟨f,A⟩:=B6 f;obtain⟨f,N⟩:=B6 f;have J:b'=.slice none 0 0:=by
   unfold A1E at f;split at f
   .exact P4 Q
   .cases f
  subst J;obtain⟨nul,wd,rows,C,n,c,E,rfl,O⟩:∃ nul wd rows C n c,Ora.env i=.seq nul wd rows/\a'=.slice C n c/\((C=none/\n=0/\c=0/\nul=true)∨(nul=false/\∃ q:Addr,C=some q/\n<=c)):=by
   have B:∀ {l:Loc},Enc l.G (Ora.env i) a'->G2 (Ora.env i)=tg->10<=tg->∃ nul wd rows C n c,Ora.env i=.seq nul wd rows/\a'=.slice C n c/\((C=none/\n=0/\c=0/\nul=true)∨(nul=false/\∃ q:Addr,C=some q/\n<=c)):=fun h h3 D=>by
    obtain⟨nul,wd,rows,E,_⟩:=gB h h3 D;rw[E]at h;rcases v6 h with⟨rfl,rfl,rfl⟩|⟨rfl,q,c,rfl,R⟩
    .exact⟨_,_,_,_,_,_,E,rfl,.inl ⟨rfl,rfl,rfl,rfl⟩⟩
    .exact⟨_,_,_,_,_,_,E,rfl,.inr ⟨rfl,q,rfl,R⟩⟩
   rcases(J0 _ _).mp A with A|A
   .rcases(J0 _ _).mp A with A|A
    .have:=A0 A;subst this;obtain⟨l,_,h,h3,D⟩:=nM K;exact B h h3 D
    .have:=A0 A;subst this;obtain⟨l,_,h,h3,D,_⟩:=fX K;exact B h h3 D
   .have:=A0 A;subst this;rcases(fW K).1 with⟨l,wd,h1,h,h3,rfl⟩|⟨l,wd,rows,h1,h,h3,D,L,rfl⟩
    .exact⟨_,_,_,_,_,_,h3,rfl,.inl ⟨rfl,rfl,rfl,rfl⟩⟩
    .exact⟨_,_,_,_,_,_,h3,rfl,.inr ⟨rfl,_,rfl,L⟩⟩
  split at d
  .rename_i r H;cases d;obtain⟨g1,g2,g3⟩:=RI (ρ:=ρ) H E I;exact⟨⟨_,BY hu O (.inl rfl) w,g1⟩,g2,g3⟩
  .rename_i hh m1 H;have hle:=H8 d;obtain⟨g1,g2,g3⟩:=RI (ρ:=ρ) H E (I.le hle);obtain⟨u,f1,f2,r,f3,f4,f5⟩:=M4 d I;obtain⟨rfl,S⟩:=jB H;have M:D5 Ora.env (hole m.lg.nx 8)=.bool nul:=by
    obtain⟨p,_⟩:=aB g1 (by show(8:Nat)<10;omega);cases f:D5 Ora.env (hole m.lg.nx 8)with
    | bool b=>rw[f]at p;cases p;rfl
    | int k n=>rw[f]at p;cases p
    | str s=>rw[f]at p;cases p
    | none=>rw[f]at p;cases p
    | seq _ _ _=>rw[f]at p;cases p
   have f1:ev1 .not (D5 Ora.env (hole m.lg.nx 8))=u:=f1;rw[M]at f1;have f1:U.bool (!nul)=u:=f1;subst f1;cases f3;exact⟨⟨_,BY hu O (.inr rfl) w,f4 ρ⟩,g2.trans (H5 d),g3.trans hle⟩
  .cases d
 .cases F
def A8J{fr:Fr}{g:Operand->Value}{o:Oper}(h:HR P base ρ m.H w)(D:base<=w.heap.size)(d:dsM P fr m o.op=some (v,m'))(A:K2 ρ m.n m'.hi)(L:FR ρ fr g o.op)(f:Sat m'.lg):NOk P base ρ m w (execOp g o) v m':=by
 obtain⟨dst,op,ty,pos,K,J⟩:=o;simp only at d L;have a:∀ {x},x ∈ op.operands.toList->VR ρ (ev fr x) (g x):=fun hx=>L _ hx
 have fin:∀ {s:Sem Value},(∃ r,s.run P w=.ok r w/\VR ρ v r)->J9 m m'->NOk P base ρ m w (do pure (.value (<- s))) v m':=fun{s} ⟨r,h1,M⟩ ⟨lg,N⟩=>by
  subst N;exact NOk.of ⟨r,ρ,w,h1,M,St.wLg h lg⟩
 unfold dsM at d;split at d
 .rename_i t x y;exact NOk.of (A0M h D d A (a (x:=x) (by simp[Op.operands])) (a (x:=y) (by simp[Op.operands])) f).1
 .rename_i t x;obtain⟨g1,g2,_⟩:=A0P (w:=w) h d (a (x:=x) (by simp[Op.operands])) f;exact fin (s:=Instr.loadAt t (g x)) g1 g2
 .rename_i t x y;obtain⟨g1,rfl,_⟩:=TY h d A (a (x:=x) (by simp[Op.operands])) (a (x:=y) (by simp[Op.operands])) f;exact NOk.ofU (s:=Instr.storeAt t (g x) (g y)) g1
 .rename_i t x i;obtain⟨g1,g2,_⟩:=KM (w:=w) d (a (x:=x) (by simp[Op.operands])) (a (x:=i) (by simp[Op.operands])) f;exact fin (s:=Instr.indexAt t (g x) (g i)) g1 g2
 .rename_i s x i;obtain⟨g1,rfl⟩:=LE (w:=w) d (a (x:=x) (by simp[Op.operands]));exact fin (s:=Instr.fieldAt s (g x) i) g1 (.refl _)
 .rename_i t x lo hi mx;obtain⟨g1,_⟩:=UB h d A (a (x:=x) (by simp[Op.operands])) (jF (g:=g) fun y p=>a (by simp[Op.operands]at p ⊢;exact .inr (.inl p))) (jF (g:=g) fun y p=>a (by simp[Op.operands]at p ⊢;exact .inr (.inr (.inl p)))) (jF (g:=g) fun y p=>a (by simp[Op.operands]at p ⊢;exact .inr (.inr (.inr p)))) f;exact NOk.of (s:=Instr.sliceAt t (g x) (lo.map g) (hi.map g) (mx.map g)) g1
 .rename_i s t x;exact NOk.of (A1y h D d A (a (x:=x) (by simp[Op.operands])) f).1
 .rename_i op t x y S;obtain⟨g1,g2,_⟩:=A3A (w:=w) d (a (x:=x) (by simp[Op.operands])) (a (x:=y) (by simp[Op.operands])) f;exact fin (s:=do eqGuard op t x y (g x) (g y);binOp op t (g x) (g y)) g1 g2
 .rename_i xs tys;have l1:=dF (ρ:=ρ) (fr:=fr) (g:=g) (xs:=xs.toList) fun x hx=>a (by show x ∈ (#[]++xs:Array Operand).toList;simpa using hx)
  split at d
  .rename_i x t rest q u;rw[q]at l1;obtain⟨x',r1,B,I,E⟩:=l1.tail
   have:=E.nil_inv;subst this;obtain⟨g1,g2,_⟩:=A3M (w:=w) (ty:=ty) (tys:=rest) d I f;obtain⟨ks,C⟩:∃ ks,execOp g ⟨dst,.call ⟨.builtin .len,xs,tys⟩,ty,pos,K,J⟩=builtin .len tys ty ks (xs.map g):=⟨#[],rfl⟩;have G:xs.map g=⟨xs.toList.map g⟩:=by apply J1;simp
   have F:tys=⟨t::rest⟩:=by rw[<- u]
   rw[C,G,B,F];exact fin (s:=Builtin.len_ ⟨t::rest⟩ ty #[x']) g1 g2
  .cases d
 .rename_i xs tys;have l1:=dF (ρ:=ρ) (fr:=fr) (g:=g) (xs:=xs.toList) fun x hx=>a (by show x ∈ (#[]++xs:Array Operand).toList;simpa using hx)
  split at d
  .rename_i x y t t2 rest q u;rw[q]at l1;obtain⟨x',r1,B,I,E⟩:=l1.tail;obtain⟨y',T,Q,O,R⟩:=E.tail
   have:=R.nil_inv;subst this
   have:=PO (ty:=ty) h D d A I O f;obtain⟨ks,C⟩:∃ ks,execOp g ⟨dst,.call ⟨.builtin .append,xs,tys⟩,ty,pos,K,J⟩=builtin .append tys ty ks (xs.map g):=⟨#[],rfl⟩;have G:xs.map g=⟨xs.toList.map g⟩:=by apply J1;simp
   have F:tys=⟨t::t2::rest⟩:=by rw[<- u]
   rw[C,G,B,Q,F];have e:Builtin.append_ ⟨t::t2::rest⟩ ty #[x',y']=Builtin.append_ #[t,t2] ty #[x',y']:=rfl;refine NOk.of (s:=Builtin.append_ ⟨t::t2::rest⟩ ty #[x',y']) ?_;rw[e];exact this
  .cases d
 .cases d
def fZ{wd o i t g:Nat}{z:Value}:∀ {ts:H4} {j:Nat} {m m':Mem} {r:D0},X9 wd o i t z g ts j m=some (r,m')->m.lg.le m'.lg
 | [],j,m,m',r,h=>by cases h;exact .refl _
 | tg::ts,j,m,m',r,h=>by
   unfold X9 at h;cases a:Nat.blt tg 10 with
   | true =>
     rw[a]at h;simp only[E3]at h;split at h
     .rename_i d;split at h
      .rename_i hr;cases h;exact(H8 d).trans (fZ hr)
      .cases h
     .cases h
   | false =>
     rw[a]at h;simp only[D6]at h;rw[KC]at h;split at h
     .rename_i hr;cases h;exact V6.trans (fZ hr)
     .cases h
def EE{r:Option (D0×Mem)}(h:mI P t r=some (v,m')):∃ vs,r=some (vs,m'):=by
 unfold mI at h;split at h
 .cases h;exact⟨_,rfl⟩
 .cases h;exact⟨_,rfl⟩
 .cases h
def A0Q(a:KB P m t x=some (v,m')):m.lg.le m'.lg:=by
 unfold KB at a;split at a
 .obtain⟨_,a⟩:=A3 a;obtain⟨vs,h⟩:=EE a;exact fZ h
 .split at a
  .obtain⟨_,a⟩:=A3 a;obtain⟨vs,h⟩:=EE a;exact fZ h
  .cases a
 .cases a
def TZ(a:xC P m t x y=some (v,m')):m.lg.le m'.lg:=by
 unfold xC at a;split at a
 .cases d:jD y with
  | true=>rw[d]at a;cases a
  | false =>
    rw[d]at a;simp only[D6]at a;split at a
    .rename_i n;split at a
     .obtain⟨_,a⟩:=A3 a;split at a
      .rename_i q;rw[N6]at a;simp only[hole]at a;obtain⟨p,_⟩:=nI a;have md:=S1 V0 n;have f:=N1 q;refine md.2.1.trans ?_;rw[(U4 p).2,<- f.2.1];simp only[g9];exact⟨[_],rfl⟩
      .cases a
     .cases a
    .cases a
 .cases a
def A3X{t:Nat}{k:Value}(h:KO m i t z k=some (v,m')):m.lg.le m'.lg:=by
 unfold KO at h;cases a:!(Nat.blt (G4 z) 8)with
 | true=>rw[a]at h;cases h
 | false =>
   rw[a]at h;simp only[D6]at h;split at h
   .rename_i d;split at h
    .rename_i f;cases h;exact(H8 d).trans (fE f)
    .cases h
   .cases h
def KN(h:lY P m t x z=some (v,m')):m.lg.le m'.lg:=by
 unfold lY at h;split at h;all_goals first
  | (split at h
     .obtain⟨_,h⟩:=A3 h;exact A3X h
     .cases h;done)
  | (split at h
     .obtain⟨_,h⟩:=A3 h;rw[E5]at h;cases h;exact .refl _
     .cases h;done)
  | cases h
def LF{f:Nat}(h:mC P m s x f=some (v,m')):m.lg.le m'.lg:=by
 unfold mC at h;split at h;all_goals first
  | (split at h
     .split at h
      .obtain⟨_,h⟩:=A3 h;rw[E5]at h;cases h;exact .refl _
      .cases h
     .cases h;done)
  | cases h
def GU{t:Nat}(a:LL m b i t cl lo hi mx=some (v,m')):m.lg.le m'.lg:=by
 have go:∀ {m1:Mem} {l h:Value} {cc:Bool},gD m1 b i t l h cc=some (v,m')->m1.lg.le m'.lg:=fun h=>by
  unfold gD at h;obtain⟨_,h⟩:=A3 h;rw[N6]at h;simp only[D2,M0]at h;obtain⟨_,rfl⟩:=h;exact V6
 unfold LL LK at a;split at a
 .exact go a
 .exact go (A3 a).2
 .split at a
  .rename_i d;exact(bS d).2.trans (go a)
  .cases a
 .cases a
def UC(a:xE P m t x lo hi mx=some (v,m')):m.lg.le m'.lg:=by
 unfold xE at a;split at a
 .split at a
  .exact GU (A3 a).2
  .cases a
 .split at a
  .exact GU (A3 a).2
  .cases a
 .split at a
  .obtain⟨_,a⟩:=A3 a;split at a
   .rename_i d;exact(gZ d).2.1.trans (GU a)
   .cases a
  .cases a
 .cases a
def A1z(a:LP P m s t x=some (v,m')):m.lg.le m'.lg:=by
 unfold LP at a;split at a
 .split at a
  .split at a
   .exact H8 (A3 a).2
   .cases a
  .cases a
 .split at a
  .split at a
   .rename_i f;rw[KH]at a;have n:=H8 a;exact(gZ f).2.1.trans n
   .cases a
  .cases a
 .obtain⟨_,a⟩:=A3 a;split at a
  .split at a
   .split at a
    .rename_i p;rw[N6]at a;simp only[hole]at a;have d:=N1 p;rw[(q8 a).2.1,g9,<- d.2.1];exact⟨[_],rfl⟩
    .cases a
   .cases a
  .cases a
 .cases a
def A3B{x y:Operand}{a b:Value}(f:A0C P m op t x y a b=some (v,m')):m.lg.le m'.lg:=by
 unfold A0C at f;split at f
 .obtain⟨_,d⟩:=A3 f;clear f;split at d
  .rename_i n;cases d;exact H8 n
  .rename_i n;exact(H8 n).trans (H8 d)
  .cases d
 .cases f
def A0N{l c:Value}(a:JW P m t l c=some (v,m')):m.lg.le m'.lg:=by
 unfold JW at a;split at a
 .obtain⟨_,a⟩:=A3 a;split at a
  .obtain⟨_,a⟩:=A3 a;split at a
   .obtain⟨_,a⟩:=A3 a;split at a
    .rename_i f;rw[N6]at a;simp only[hole]at a;have d:=N1 f;rw[(q8 a).2.1,g9,<- d.2.1];exact⟨[_],rfl⟩
    .cases a
   .cases a
  .cases a
 .cases a
def A8K{fr:Fr}{o:Op}(a:dsM P fr m o=some (v,m')):m.lg.le m'.lg:=by
 unfold dsM at a;split at a
 .exact A0N a
 .exact A0Q a
 .exact TZ a
 .exact KN a
 .exact LF a
 .exact UC a
 .exact A1z a
 .exact A3B a
 .split at a
  .unfold A3N at a;split at a
   .exact(bS a).2
   .exact(bS a).2
   .exact(bS a).2
   .cases a
  .cases a
 .split at a
  .exact(HD a).2.1
  .cases a
 .cases a
end
end
end Go.Sx
