import Derived.Test.YtbbicpheoakeeaaGreatDoorX3
set_option linter.all false
set_option maxRecDepth 100000
set_option maxHeartbeats 4000000
namespace Go.Sx
variable {rows rows2:List (List U)}{b c cap g i j k o o' sh wd:Nat}{e s t t2 ty:TypeId}{inf:TypeInfo}{fz:Nat×Nat}{b' c' l' v x x' y y' z:Value}{l:Loc}{g0 gs:G5}{cl nul sure:Bool}{d2 ds:TypeDesc}{bh:Beh}{cs cs' new' vs:C9}{td:Td}{row us:List U}{hi lo mx:P4}{op:BinOp}
section
open Go
variable [Ora]
section
variable {P:Program} {base:Nat} {ρ ρ':Ren} {m m':Mem} {w w':World}
def N7.move{R:Nat->Option Obj}{C C':U8}(h:N7 R rows wd C o)(p:∀ i,i<rows.length*wd->C'[o'+i]? = C[o+i]?):N7 R rows wd C' o':=by
 refine⟨h.1,fun r row j u v d a2 a3=>h.2 r row j u v d a2 ?_⟩;have a:=(B0.1 d).1;have f:=(B0.1 a2).1;rw[h.1 _ (C7 d)]at f;have n:(r+1)*wd<=rows.length*wd:=F1 wd a;rw[G8]at n
 have:=p (r*wd+j) A2;rw[show o+r*wd+j=o+(r*wd+j) by omega,<- this,show o'+(r*wd+j)=o'+r*wd+j by omega];exact a3
def N7.append{R:Nat->Option Obj}{C:U8}(h:N7 R rows wd C o)(k:N7 R rows2 wd C (o+rows.length*wd)):N7 R (rows++rows2) wd C o:=by
 refine⟨fun row hr=>(B6.1 hr).elim (h.1 row) (k.1 row),fun r row j u v a a2 a3=>?_⟩;rcases F2 r rows.length with d|d
 .rw[E6 d]at a;exact h.2 r row j u v a a2 a3
 .rw[D7 d]at a;refine k.2 (r-rows.length) row j u v a a2 ?_;have:rows.length*wd+(r-rows.length)*wd=r*wd:=by rw[<- G8];congr 1;omega
  rw[show o+rows.length*wd+(r-rows.length)*wd+j=o+r*wd+j by omega];exact a3
def A5g{t:Nat}{T:TypeId}{lg:Loc}{C:U8}(r:Ora.env c=.seq false wd rows)(p:t=10+wd)(hi:P.info? T=some inf)(q:inf.size=wd)(f:rows.length<=cap)(d:sh+cap*wd<=C.size)
  (a:N7 lg.G rows wd C sh) (u:ρ g=some lg) (hw:w.heap[b]? = some (.cells C T fz)) (n:∀ i,i<C.size->¬ (fz.1<=i/\i<fz.2)):BR P ρ (.sq c t T g false) ⟨b,sh,cap,rows.length,fun _=>none,true⟩ w :=
 ⟨⟨wd,inf,p,hi,q,.inr ⟨rfl,C,fz,T,rows,lg,hw,r,rfl,f,d,a.1,u,a.2,fun _=>⟨rfl,n⟩⟩⟩⟩
def bF{t:Nat}{T:TypeId}{lg:Loc}{C:U8}(h:HR P base ρ m.H w)(I:base<=w.heap.size)(A:v7 m c t T g=some (v,m'))(B:J2 ρ m.n m'.hi)
  (p:Ora.env c=.seq false wd rows) (u:t=10+wd) (hi:P.info? T=some inf) (J:inf.size=wd) (a:rows.length<=cap) (q:cap*wd<=C.size) (f:N7 lg.G rows wd C 0) (F:ρ g=some lg) (r:∀ i,i<C.size->¬ (fz.1<=i/\i<fz.2))
  (D:w'.os=w.os/\w'.tape=w.tape/\w'.output=w.output) (hh:w'.heap=w.heap.push (.cells C T fz)):∃ ρ',VR ρ' v (.slice (some ⟨w.heap.size,0,none⟩) rows.length cap)/\St P base ρ ρ' m m' w w':=by
 have d:ρ m.n=none:=by
  obtain⟨_,_,rfl⟩:=K6 A;exact B m.n (A6 _) (J9 _ _).2
 obtain⟨rfl,K,E⟩:=St.alloc (w':=w') (l:=⟨w.heap.size,0,cap,rows.length,fun _=>none,true⟩) h I A B D hh rfl (A5g p u hi J a A2 f (V4 d _ _ F) (by rw[hh];simp) r);exact⟨_,.own (.inr ⟨_,wd,rows,K,rfl,p,rfl,a,rfl⟩) (by rw[p];exact u.symm) rfl,E⟩
def mV{t id:Nat}{T:TypeId}{ab:AB}{lg:Loc}{C:U8}(h:HR P base ρ m.H w)(hle:id<=G9)(D:Hp.get m.H id=some ab)(A:ab.rw=true)(N:ρ id=some l)(r:l.on=true)
  (J:v7 (iH m id) c t T g=some (v,m')) (K:J2 ρ m.n m'.hi)
  (u:Ora.env c=.seq false wd rows) (I:t=10+wd) (hi:P.info? T=some inf) (Q:inf.size=wd) (a:rows.length<=cap) (d:sh+cap*wd<=C.size) (q:N7 lg.G rows wd C sh) (O:ρ g=some lg) (B:∀ i,i<C.size->¬ (fz.1<=i/\i<fz.2))
  (L:w'.os=w.os/\w'.tape=w.tape/\w'.output=w.output) (E:w'.heap.size=w.heap.size) (S:∀ k,k≠l.blk->w'.heap[k]? = w.heap[k]?) (hw:w'.heap[l.blk]? = some (.cells C T fz)) :
  ∃ ρ',VR ρ' v (.slice (some ⟨l.blk,sh,none⟩) rows.length cap)/\St P base ρ ρ' m m' w w':=by
 have p:ρ m.n=none:=by
  have f:=J;unfold v7 at f;rw[Z9]at f;obtain⟨_,_,rfl⟩:=K6 f;exact K m.n (A6 _) (J9 _ _).2
 obtain⟨rfl,R,M⟩:=St.move (w':=w') (l':=⟨l.blk,sh,cap,rows.length,fun _=>none,true⟩) h hle D A N J K (fun _=>⟨r,rfl⟩) L E (fun k F=>S k (F r)) (A5g u I hi Q a d q (V4 p _ _ O) hw B) (fun h=>by cases h);exact⟨_,.own (.inr ⟨_,wd,rows,R,rfl,u,rfl,a,rfl⟩) (by rw[u];exact I.symm) rfl,M⟩
def A4b:Loc:=⟨0,0,0,0,fun _=>none,false⟩
def zP{t:Nat}{T:TypeId}{old:Option Nat}(h:HR P base ρ m.H w)(hold:∀ b,old=some b->∃ ab l,b<=G9/\Hp.get m.H b=some ab/\ab.rw=true/\ρ b=some l/\l.on=false)
  (A:v7 (iG old m) c t T g=some (v,m')) (B:J2 ρ m.n m'.hi) (a:Ora.env c=.seq true wd []) (r:t=10+wd) (hi:P.info? T=some inf) (D:inf.size=wd):∃ ρ',VR ρ' v (.slice none 0 0)/\St P base ρ ρ' m m' w w:=by
 have d:∀ ρ':Ren,BR P ρ' (.sq c t T g false) A4b w:=fun ρ'=>⟨⟨wd,inf,r,hi,D,.inl ⟨rfl,a⟩⟩⟩
 cases old with
 | none =>
   obtain⟨rfl,u,p⟩:=St.new0 (l':=A4b) h A B (d _) rfl fun q f=>by
    rcases f with⟨_,f,_⟩|⟨f,_⟩<;>cases f
   exact⟨_,.own (.inl ⟨_,wd,u,rfl,a,rfl⟩) (by rw[a];exact r.symm) rfl,p⟩
 | some b =>
   obtain⟨ab,l,h1,C,h3,E,F⟩:=hold b rfl;obtain⟨rfl,u,p⟩:=St.move (w':=w) (l':=A4b) h h1 C h3 E A B (fun h=>by cases h) ⟨rfl,rfl,rfl⟩ rfl (fun _ _=>rfl) (d _) (fun h=>by cases h);exact⟨_,.own (.inl ⟨_,wd,u,rfl,a,rfl⟩) (by rw[a];exact r.symm) rfl,p⟩
def qW(h:HR P base ρ m.H w)(a:iI gs m=some (g,m'))(p:J2 ρ m.n m'.hi)(d:ρ j=some l):Hp.get m'.H j=Hp.get m.H j:=by
 have main:∀ {gs:G5},(bif gs.all (mY m)then match eU m fun b m=>some (undef,b,m)with
  | some (_,b,m)=>some (b,m)
  | none=>none else none)=some (g,m')->Hp.get m'.H j=Hp.get m.H j:=fun{gs} a=>by
  obtain⟨h1,a⟩:=A3 a;split at a
  .rename_i r b m1 u;cases a;obtain⟨m2,f,q,_⟩:=P6 u;cases q;rw[jP f (h.dom j l d),A8];intro e;subst e;obtain⟨_,_,rfl⟩:=K6 f;rw[p m.n (A6 _) (J9 _ _).2]at d;cases d
  .cases a
 unfold iI at a;split at a
 .obtain⟨h1,a⟩:=A3 a;cases a;rfl
 .exact main a
def M2(a:iI gs m=some (g,m')):m.hi<=m'.hi/\m'.lg=m.lg/\m.n<=m'.n:=by
 have main:∀ {gs:G5},(bif gs.all (mY m)then match eU m fun b m=>some (undef,b,m)with
  | some (_,b,m)=>some (b,m)
  | none=>none else none)=some (g,m')->m.hi<=m'.hi/\m'.lg=m.lg/\m.n<=m'.n:=fun{gs} a=>by
  obtain⟨h1,a⟩:=A3 a;split at a
  .rename_i r b m1 p;cases a;obtain⟨m2,f,d,_⟩:=P6 p;cases d;obtain⟨_,_,rfl⟩:=K6 f;exact⟨(J9 _ _).1,rfl,Y3 _⟩
  .cases a
 unfold iI at a;split at a
 .obtain⟨h1,a⟩:=A3 a;cases a;exact⟨A6 _,rfl,A6 _⟩
 .exact main a
def A79(nul:Bool)(wd:Nat)(rows:List (List U)):List (List U)->U
 | []=>.seq nul wd rows
 | r0::r=>.seq false wd (rows++r0::r)
def IL(h:∃ n w r,kM nul wd rows rows2=.seq n w r):rows.length+rows2.length<=qE/\kM nul wd rows rows2=A79 nul wd rows rows2:=by
 by_cases a:rows.length+rows2.length<=qE
 .refine⟨a,?_⟩;unfold kM;rw[A9 a];cases rows2<;>rfl
 .unfold kM at h;rw[A8 a]at h;obtain⟨_,_,_,h⟩:=h;cases h
def NI{old:Option Nat} 
  (hu:P.underlying t=some (.slice e)) (Q:P.underlying t2=some d2) (W:bV d2=true) (hi:P.info? e=some inf) (hz:eB P e=some z) (bw:z.cells.size=inf.size) (bs:inf.bytes<=90000)
  (h:HR P base ρ m.H w) (hb:base<=w.heap.size) (E:FV m e inf.size c old bh (g0++gs)=some (v,m')) (hf:J2 ρ m.n m'.hi) (hS:Sat m'.lg)
  (ak:A0V P base ρ m w e inf.size c g0 old x') (d:SE P ρ w inf.size bh gs y' rows2 new'):VOk P base ρ m w (Builtin.append_ #[t,t2] ty #[x',y']) v m':=by
 unfold FV at E;split at E
 .rename_i g m1 hj;rw[M9]at E;have bo:=M2 hj;generalize bj:dY m1 (10+inf.size) (cB inf.size (hole c (10+inf.size)) bh).1 (cB inf.size (hole c (10+inf.size)) bh).2=lg1 at E;have ag:m'.lg=lg1/\m1.hi<=m'.hi/\m1.n<=m'.n:=by
   unfold v7 at E;cases old with
   | none =>
     simp only[iG]at E;obtain⟨_,_,rfl⟩:=K6 E;exact⟨by simp,by simpa using(J9 m1.hi m1.n).1,by simp⟩
   | some b =>
     simp only[iG,Z9]at E;obtain⟨_,_,rfl⟩:=K6 E;exact⟨by simp,by simpa using(J9 m1.hi m1.n).1,by simp⟩
  have aq:J2 ρ m.n m1.hi:=hf.less ag.2.1;obtain⟨N,lg,e1,e2,e3,e4,e5,e6⟩:=dM h hj aq;have q:St P base ρ N m (m1.wLg lg1) w w:=St.trans (by simpa using aq) e1 (St.wLg e1.hr lg1);have F:J2 N (m1.wLg lg1).n m'.hi:=by simpa using hf.step e1
  have bk:Sat (m1.wLg lg1).lg:=by simpa [<- ag.1]using hS
  obtain⟨nul,rows,hc,hx⟩:=ak.ex;obtain⟨d1,d2,nx,bm,rws,d3,d4⟩:=iK (m:=m1) (t:=10+inf.size) (op:=(cB inf.size (hole c (10+inf.size)) bh).1) (xs:=(cB inf.size (hole c (10+inf.size)) bh).2) (lg:=lg1) (by simpa using bk) (by rw[Z1,bj];exact .refl _);rw[d.ev c nul rows hc]at d1;obtain⟨ar,bx⟩:=IL ⟨nx,bm,rws,d1.symm.trans d3⟩;rw[bx]at d1;have br:∀ b ∈ g0,∀ l,ρ b=some l->Sub l.G lg.G:=fun b R l hl=>e6 b (B6.2 (.inl R)) l hl
  have bl:∀ b ∈ gs,∀ l,ρ b=some l->Sub l.G lg.G:=fun b R l hl=>e6 b (B6.2 (.inr R)) l hl
  have al:=d.rows lg.G bl;have D:∀ {v':Value} {ρ2:Ren} {w2:World},(Builtin.append_ #[t,t2] ty #[x',y']).run P w=.ok v' w2->VR ρ2 v v'->St P base N ρ2 (m1.wLg lg1) m' w w2->VOk P base ρ m w (Builtin.append_ #[t,t2] ty #[x',y']) v m':=fun hr hv hs =>
   ⟨_,_,_,hr,hv,St.trans hf q hs⟩
  have ad:∀ w,(zeroValue e).run P w=.ok z w:=fun w=>o9 hz w
  have au:∀ {j l},ρ j=some l->Hp.get (m1.wLg lg1).H j=Hp.get m.H j:=fun bq=>by rw[iY];exact qW h hj aq bq
  have K:(3*(rows.length+rows2.length)+4000)*inf.bytes<=281474976710656:=by
   have h1:3*(rows.length+rows2.length)+4000<=3000004000:=by unfold qE at ar;omega
   have h2:=u5 h1 bs;omega
  have Z:rows.length+rows2.length<=1000000000:=ar;rcases hx with⟨rfl,rfl,rfl,hold⟩|⟨rfl,b,ab,l,cap,C,fz,rfl,an,bn,V,aa,ah,rfl,I,av,T,S,af⟩
  ·
   have X:∀ b,old=some b->∃ ab l,b<=G9/\Hp.get (m1.wLg lg1).H b=some ab/\ab.rw=true/\N b=some l/\l.on=false:=fun b R=>by
    obtain⟨ab,l,J,O,q3,q4,q5⟩:=hold b R;exact⟨ab,l,J,by rw[au q4];exact O,q3,e1.ext _ _ q4,q5⟩
   cases f:rows2 with
   | nil =>
     subst f;have B:Ora.env m1.lg.nx=.seq true inf.size []:=d1;obtain⟨ρ2,J,O⟩:=zP q.hr X E F B rfl hi rfl;have aj:new'=[]:=F6.1 (by rw[d.size];simp);exact D (sC hu Q W hi (fun wd=>d.len wd) (by have:=d.first w rfl;rw[aj]at this;exact this)) J O
   | cons r0 rr =>
     rw[f]at d1;have B:Ora.env m1.lg.nx=.seq false inf.size rows2:=by rw[f];exact d1
     obtain⟨nc,az,p⟩:=fI (P:=P) (w:=w) (ty:=ty) (a:=none) (n:=0) (c:=0) (k:=rows2.length) (old':=[]) (new':=new') (x':=y') hu Q W hi ad (fun wd=>d.len wd) (fun _ _=>rfl) (fun wd hw=>d.first wd hw) (by rw[f];simp) (by simpa using K) (by simpa using Z);obtain⟨m2,bp,ay⟩:∃ m2,v7 m2 m1.lg.nx (10+inf.size) e g=some (v,m')/\St P base N N (m1.wLg lg1) m2 w w:=by
      cases old with
      | none=>exact⟨_,E,St.refl q.hr⟩
      | some b =>
        obtain⟨ab,l,J,O,q3,q4,q5⟩:=X b rfl;exact⟨_,E,St.kill q.hr J O q3⟩
     obtain⟨ρ2,J,O⟩:=bF (w':={ w.drew with heap:=w.heap.push (.cells (({ toList:=[] }:Array Value)++⟨new'⟩++Builtin.zeroCells z.cells (nc-(0+rows2.length))) e (0,0)) }) (cap:=nc) ay.hr hb bp (F.step ay) B rfl hi rfl A2
      (by have:=cS (s:=inf.size) (k:=rows2.length) (n:=0) (nc:=nc) (z:=z) (old':=[]) d.size az bw (by simp);exact this)
      (al.move (C':=({ toList:=[] }:Array Value)++⟨new'⟩++Builtin.zeroCells z.cells (nc-(0+rows2.length))) (o':=0) fun i hi'=>by
        have bz:i<new'.length:=by rw[d.size];exact hi'
        rw[E8 i];rw[HL (A5 bz)];simp[bz]) (ay.ext _ _ e4) (fun i _ hh=>by have h1:0<=i:=hh.1;have h2:i<0:=hh.2;omega) ⟨rfl,rfl,rfl⟩ rfl
     exact D p (by rw[E8];exact J) (St.trans F ay O)
  ·
   have ao:Hp.get (m1.wLg lg1).H b=some ab:=by rw[au aa];exact bn
   have A:=af lg.G br;have aw:=e1.ext _ _ aa;cases f:rows2 with
   | nil =>
     subst f;have B:Ora.env m1.lg.nx=.seq false inf.size rows:=d1;have aj:new'=[]:=F6.1 (by rw[d.size];simp);obtain⟨ρ2,J,O⟩:=mV (w':=w) (cap:=cap) (sh:=l.sh) q.hr an ao V aw ah E F B rfl hi rfl av T A e4 S ⟨rfl,rfl,rfl⟩ rfl (fun _ _=>rfl) I;have p:=lG (P:=P) (w:=w) (w':=w) (ty:=ty) (a:=⟨l.blk,l.sh,none⟩) (n:=rows.length) (k:=0) (c:=cap) (new':=new') hu Q W hi (fun wd=>d.len wd) (d.first w rfl) A2 (by rw[aj];rfl);exact D p J O
   | cons r0 rr =>
     have B:Ora.env m1.lg.nx=.seq false inf.size (rows++rows2):=by rw[f]at d1 ⊢;exact d1
     by_cases L:rows.length+rows2.length<=cap
     .have ax:(rows.length+rows2.length)*inf.size<=cap*inf.size:=F1 _ L;rw[G8]at ax;obtain⟨w',r1,r2,r3,r4,r5⟩:=X9 (P:=P) (b:=l.blk) (o:=rows.length*inf.size+l.sh) (fz:=fz) new' 0 C w I d.flat (by rw[d.size];omega) S;have ai:(Addr.mk l.blk l.sh none).add (rows.length*inf.size)=⟨l.blk,rows.length*inf.size+l.sh,none⟩:=by
       unfold Addr.add;split
       .rename_i h0;rw[h0];simp
       .simp[hZ]
      have p:=lG (P:=P) (w:=w) (w':=w') (ty:=ty) (a:=⟨l.blk,l.sh,none⟩) (n:=rows.length) (k:=rows2.length) (c:=cap) (new':=new') hu Q W hi (fun wd=>d.len wd) (d.first w rfl) L (by rw[ai];exact r1);have Y:(Array.mk (bD C.toList (rows.length*inf.size+l.sh+0) new')).size=C.size:=by simp[Y0]
      have ae:∀ j,(Array.mk (bD C.toList (rows.length*inf.size+l.sh+0) new'))[j]? = if rows.length*inf.size+l.sh<=j/\j<rows.length*inf.size+l.sh+new'.length then new'[j-(rows.length*inf.size+l.sh)]? else C[j]? := fun j=>by
       rw[I0,jM _ _ _ _ (by simp;rw[d.size];omega)];simp
      obtain⟨ρ2,J,O⟩:=mV (w':=w') (cap:=cap) (sh:=l.sh) (C:=⟨bD C.toList (rows.length*inf.size+l.sh+0) new'⟩) q.hr an ao V aw ah E F B rfl hi rfl (by simpa using L) (by rw[Y];exact T)
       (N7.append (A.move (o':=l.sh) fun i hi'=>by rw[ae,A8 A2]) (al.move (o':=l.sh+rows.length*inf.size) fun i hi'=>by
         rw[ae,A9 (by rw[d.size];omega),show l.sh+rows.length*inf.size+i-(rows.length*inf.size+l.sh)=i by omega,E8];simp)) e4 (by rw[Y];exact S) r2 r3 r5 r4
      rw[B8]at J;exact D p J O
     .have hold:∃ old',old'.length=rows.length*inf.size/\(∀ i,i<rows.length*inf.size->old'[i]? = C[l.sh+i]?)/\∀ wd:World,wd.heap=w.heap->(Builtin.firstCells inf.size rows.length (.slice (some ⟨l.blk,l.sh,none⟩) rows.length cap)).run P wd=.ok ⟨old'⟩ wd:=by
       have ax:rows.length*inf.size<=cap*inf.size:=F1 _ av;have hlen:((C.toList.drop l.sh).take (rows.length*inf.size)).length=rows.length*inf.size:=by simp;omega
       refine⟨(C.toList.drop l.sh).take (rows.length*inf.size),hlen,fun i hi'=>?_,fun wd hw=>?_⟩
       .rw[F4 hi',H3];simp
       .rw[show Builtin.firstCells inf.size rows.length (.slice (some ⟨l.blk,l.sh,none⟩) rows.length cap)=loadCells ⟨l.blk,l.sh,none⟩ (rows.length*inf.size)from rfl];refine J3 hlen fun j v' hj=>?_
        have bu:=(B0.1 hj).1;rw[hlen]at bu;rw[F4 bu,H3]at hj;rw[aF hw];have bt:C[l.sh+j]? = some v':=by simpa using hj
        simp[World.cell?,I,bt]
      obtain⟨old',o1,o2,o3⟩:=hold;obtain⟨nc,az,p⟩:=fI (P:=P) (w:=w) (ty:=ty) (a:=some ⟨l.blk,l.sh,none⟩) (n:=rows.length) (c:=cap) (k:=rows2.length) (old':=old') (new':=new') (x':=y') hu Q W hi ad (fun wd=>d.len wd) o3 (fun wd hw=>d.first wd hw) L K Z;have r:=St.kill q.hr an ao V;obtain⟨ρ2,J,O⟩:=bF (w':={ w.drew with heap:=w.heap.push (.cells (({ toList:=old' }:Array Value)++⟨new'⟩++Builtin.zeroCells z.cells (nc-(rows.length+rows2.length))) e (0,0)) }) (cap:=nc) r.hr hb E (F.step r) B rfl hi rfl (by simpa using az)
       (cS d.size az bw o1)
       (N7.append (A.move (C':=({ toList:=old' }:Array Value)++⟨new'⟩++Builtin.zeroCells z.cells (nc-(rows.length+rows2.length))) (o':=0) fun i hi'=>by
         have M:i<old'.length:=by rw[o1];exact hi'
         rw[E8 i,<- o2 i hi',cT (u:=old'[i]) (by rw[E6 M,A5 M]),A5 M]) (al.move (o':=0+rows.length*inf.size) fun i hi'=>by
         have M:i<new'.length:=by rw[d.size];exact hi'
         rw[E8 (rows.length*inf.size),E8 i,cT (u:=new'[i]) (by rw[D7 (by rw[o1];omega),o1,U9,A5 M])];simp[M])) (r.ext _ _ e4) (fun i _ hh=>by have h1:0<=i:=hh.1;have h2:i<0:=hh.2;omega) ⟨rfl,rfl,rfl⟩ rfl
      rw[B8]at J;exact D p J (St.trans F r O)
 .cases E
end
end
section
open Go
variable [Ora]
section
variable {P:Program} {base:Nat} {ρ ρ':Ren} {m m':Mem} {w w':World}
def A0y{a:Addr} 
  (hu:P.underlying t=some (.slice e)) (R:P.underlying t2=some d2) (aw:bV d2=true) (hi:P.info? e=some inf) (hz:eB P e=some z) (au:z.cells.size=inf.size) (T:inf.bytes<=90000)
  (h:HR P base ρ m.H w) (hb:base<=w.heap.size) (q:FV m e inf.size c none bh (b::gs)=some (v,m')) (Z:J2 ρ m.n m'.hi) (hS:Sat m'.lg)
  (hc:Ora.env c=.seq false inf.size rows) (hl:ρ b=some l) (A:Enc l.G (Ora.env c) (.slice (some a) rows.length rows.length)) (d:SE P ρ w inf.size bh gs y' rows2 new') (p:rows2≠[]) :
  VOk P base ρ m w (Builtin.append_ #[t,t2] ty #[.slice (some a) rows.length rows.length,y']) v m':=by
 unfold FV at q;split at q
 .rename_i g m1 O;rw[M9]at q;have Y:=M2 O;generalize ar:dY m1 (10+inf.size) (cB inf.size (hole c (10+inf.size)) bh).1 (cB inf.size (hole c (10+inf.size)) bh).2=lg1 at q;have q:v7 (m1.wLg lg1) m1.lg.nx (10+inf.size) e g=some (v,m'):=q;have J:m'.lg=lg1/\m1.hi<=m'.hi/\m1.n<=m'.n:=by
   unfold v7 at q;obtain⟨_,_,rfl⟩:=K6 q;exact⟨by simp,by simpa using(J9 m1.hi m1.n).1,by simp⟩
  have E:J2 ρ m.n m1.hi:=Z.less J.2.1;obtain⟨K,lg,N,e2,e3,e4,e5,e6⟩:=dM h O E;have B:St P base ρ K m (m1.wLg lg1) w w:=St.trans (by simpa using E) N (St.wLg N.hr lg1);have Q:J2 K (m1.wLg lg1).n m'.hi:=by simpa using Z.step N
  have av:Sat (m1.wLg lg1).lg:=by simpa [<- J.1]using hS
  obtain⟨d1,d2,nx,az,rws,d3,d4⟩:=iK (m:=m1) (t:=10+inf.size) (op:=(cB inf.size (hole c (10+inf.size)) bh).1) (xs:=(cB inf.size (hole c (10+inf.size)) bh).2) (lg:=lg1) (by simpa using av) (by rw[Z1,ar];exact .refl _);rw[d.ev c false rows hc]at d1;obtain⟨C,M⟩:=IL ⟨nx,az,rws,d1.symm.trans d3⟩;rw[M]at d1;have V:Sub l.G lg.G:=e6 b (.head _) l hl;have ax:∀ b ∈ gs,∀ l,ρ b=some l->Sub l.G lg.G:=fun b X l hl=>e6 b (.tail _ X) l hl
  have S:=d.rows lg.G ax;have ay:∀ w,(zeroValue e).run P w=.ok z w:=fun w=>o9 hz w
  have r:(3*(rows.length+rows2.length)+4000)*inf.bytes<=281474976710656:=by
   have h1:3*(rows.length+rows2.length)+4000<=3000004000:=by unfold qE at C;omega
   have h2:=u5 h1 T;omega
  have D:rows.length+rows2.length<=1000000000:=C;have aq:0<rows2.length:=cE.2 p;have W:Ora.env m1.lg.nx=.seq false inf.size (rows++rows2):=by
   cases rows2 with
   | nil=>exact absurd rfl p
   | cons r0 rr=>exact d1
  rw[hc]at A;obtain⟨_,old',F,o2,o3,o4⟩:=rL (w:=w) (A.mono V) ((N.hr.atl e4 e5).1.2);have o5:∀ wd:World,wd.heap=w.heap->(Builtin.firstCells inf.size rows.length (.slice (some a) rows.length rows.length)).run P wd=.ok ⟨old'⟩ wd:=fun wd hw=>by
   rw[show Builtin.firstCells inf.size rows.length (.slice (some a) rows.length rows.length)=loadCells a (rows.length*inf.size)from rfl];exact jW F fun j v' O=>by rw[aF hw];exact o4 j v' O
  obtain⟨nc,I,L⟩:=fI (P:=P) (w:=w) (ty:=ty) (a:=some a) (n:=rows.length) (c:=rows.length) (k:=rows2.length) (old':=old') (new':=new') (x':=y') hu R aw hi ay (fun wd=>d.len wd) o5 (fun wd hw=>d.first wd hw) A2 r D;obtain⟨ρ2,q1,q2⟩:=bF (w':={ w.drew with heap:=w.heap.push (.cells (({ toList:=old' }:Array Value)++⟨new'⟩++Builtin.zeroCells z.cells (nc-(rows.length+rows2.length))) e (0,0)) }) (cap:=nc) B.hr hb q Q W rfl hi rfl (by simpa using I)
   (cS d.size I au F)
   (N7.append (o3.move (C':=({ toList:=old' }:Array Value)++⟨new'⟩++Builtin.zeroCells z.cells (nc-(rows.length+rows2.length))) (o':=0) fun i hi'=>by
     have f:i<old'.length:=by rw[F];exact hi'
     rw[E8 i,cT (u:=old'[i]) (by rw[E6 f,A5 f])];simp[f]) (S.move (o':=0+rows.length*inf.size) fun i hi'=>by
     have f:i<new'.length:=by rw[d.size];exact hi'
     rw[E8 (rows.length*inf.size),E8 i,cT (u:=new'[i]) (by rw[D7 (by rw[F];omega),F,U9,A5 f])];simp[f])) e4 (fun i _ hh=>by have h1:0<=i:=hh.1;have h2:i<0:=hh.2;omega) ⟨rfl,rfl,rfl⟩ rfl
  rw[B8]at q1;exact⟨_,_,_,L,q1,St.trans Z B q2⟩
 .cases q
def SA(d:xO P td)(a:A0B td P m e wd y=some (bh,gs,sure,m')):m.hi<=m'.hi/\m.lg.le m'.lg/\m.n<=m'.n:=by
 unfold A0B at a;split at a
 .cases a;exact⟨A6 _,.refl _,A6 _⟩
 .split at a
  .split at a
   .rename_i f;cases a;exact R1 d f
   .cases a
  .cases a
 .split at a
  .rename_i f;cases a;exact d.mono f
  .cases a
 .obtain⟨h1,a⟩:=A3 a;cases a;exact⟨A6 _,.refl _,A6 _⟩
def gY(d:xO P td){old:Option Nat}(a:BA td P m e wd x=some (c,gs,old,m')):m.hi<=m'.hi/\m.lg.le m'.lg/\m.n<=m'.n:=by
 unfold BA at a;split at a
 .rw[M9]at a;simp only[hole]at a;cases a;exact⟨by simp,U6,by simp⟩
 .split at a
  .obtain⟨h1,a⟩:=A3 a;cases a;exact⟨A6 _,.refl _,A6 _⟩
  .cases a
 .split at a
  .obtain⟨h1,a⟩:=A3 a;split at a
   .rename_i f;split at a
    .obtain⟨h1,a⟩:=A3 a;rw[M9]at a;simp only[hole]at a;cases a
     have:=R1 d f;exact⟨by simpa using this.1,this.2.1.trans U6,by simpa using this.2.2⟩
    .cases a
   .cases a
  .cases a
 .cases a
def g7{t:Nat}{T:TypeId}(h:v7 m c t T g=some (v,m')):m.hi<=m'.hi/\m'.lg=m.lg/\m.n<=m'.n:=by
 unfold v7 at h;obtain⟨_,_,rfl⟩:=K6 h;exact⟨(J9 _ _).1,rfl,Y3 _⟩
def y9(old:Option Nat)(m:Mem):(iG old m).hi=m.hi/\(iG old m).lg=m.lg/\(iG old m).n=m.n:=by
 cases old with
 | none=>exact⟨rfl,rfl,rfl⟩
 | some b=>simp[iG,Z9]
def lI{old:Option Nat}(d:FV m e wd c old bh gs=some (v,m')):m.hi<=m'.hi/\m.lg.le m'.lg/\m.n<=m'.n:=by
 unfold FV at d;split at d
 .rename_i g m1 f;rw[M9]at d;have a:=M2 f;have b:=g7 d;obtain⟨p,r,q⟩:=y9 old (m1.wLg (dY m1 (10+wd) (cB wd (hole c (10+wd)) bh).1 (cB wd (hole c (10+wd)) bh).2));refine⟨?_,?_,?_⟩
  .have:=b.1;rw[p]at this;simp at this;omega
  .rw[b.2.1,r,<- a.2.1];exact U6
  .have:=b.2.2;rw[q]at this;simp at this;omega
 .cases d
def KO{t:Nat}{T:TypeId}{old:Option Nat}(h:HR P base ρ m.H w)(hold:∀ b,old=some b->b<=G9/\Hp.get m.H b≠some .frz)(a:v7 (iG old m) c t T g=some (v,m'))(r:J2 ρ m.n m'.hi):c9 ρ m m':=fun j l h1 d=>by
 have p:=y9 old m;unfold v7 at a;rw[jP a (h.dom j l h1),A8]
 .cases old with
  | none=>exact d
  | some b =>
    show Hp.get (iH m b).H j=_;rw[Z9];show Hp.get (m.H.set b none) j=_;obtain⟨q,f⟩:=hold b rfl;rw[E5 _ _ _ _ q (h.dom j l h1),A8]
    .exact d
    .intro e;subst e;exact f d
 .intro e;obtain⟨_,_,rfl⟩:=K6 a;rw[p.2.2]at e;subst e;rw[r m.n (A6 _) (Nat.lt_of_le_of_lt (Nat.le_of_eq p.2.2.symm) (J9 (iG old m).hi (iG old m).n).2)]at h1;cases h1
omit [Ora] in
def JY(h:P.info? e=some inf):G3 P e=some inf.size:=by unfold G3;rw[h]
def zM(f:xO P td)(d:RB td P m e wd x=some (v,m')):m.hi<=m'.hi/\m.lg.le m'.lg/\m.n<=m'.n:=by
 unfold RB at d;split at d
 .obtain⟨_,d⟩:=A3 d;split at d
  .rename_i p;have a:=gY f p;split at d
   .rename_i q;have b:=M2 q;have c:=g7 d;refine⟨?_,?_,?_⟩
    .have:=c.1;rw[(y9 _ _).1]at this;omega
    .rw[c.2.1,(y9 _ _).2.1,b.2.1];exact a.2.1
    .have:=c.2.2;rw[(y9 _ _).2.2]at this;omega
   .cases d
  .cases d
 .cases d
def NM(X:xO P td)(h:HR P base ρ m.H w)(d:RB td P m e wd x=some (v,m'))(Z:J2 ρ m.n m'.hi)(hx:VR ρ x x')(hS:Sat m'.lg) :
  ∃ ρ',VR ρ' v x'/\St P base ρ ρ' m m' w w/\m.lg.le m'.lg/\c9 ρ m m':=by
 unfold RB at d;split at d
 .rename_i inf hi;obtain⟨h1,d⟩:=A3 d;obtain⟨h1,h2⟩:=B3 h1;have h1:=A0 h1;have h2:0<wd:=A1 h2;split at d
  .rename_i c gs old m1 N;have a:=gY X N;split at d
   .rename_i g m2 hj;have b:=M2 hj;have cm:=g7 d;have k1:=y9 old m2;have Y:m'.lg=m1.lg:=by rw[cm.2.1,k1.2.1,b.2.1]
    have F:m2.hi<=m'.hi:=by have:=cm.1;rw[k1.1]at this;exact this
    obtain⟨T,M,e2,e3,e4⟩:=IX X h N (Z.less (B9 b.1 F)) hx (by rw[<- Y];exact hS) h2 (h1▸JY hi);have f:J2 T m1.n m'.hi:=Z.step M;obtain⟨ρ2,lg,u,j2,j3,j4,j5,j6⟩:=dM M.hr hj (f.less F);have D:J2 ρ2 m2.n m'.hi:=f.step u;obtain⟨nul,rows,hc,aw⟩:=e4.ex;have B:∀ {j l},T j=some l->Hp.get m2.H j=Hp.get m1.H j:=fun ay=>qW M.hr hj (f.less F) ay
    have hle:m.lg.le m'.lg:=by rw[Y];exact a.2.1
    have p:(∀ b,old=some b->b<=G9/\Hp.get m2.H b≠some .frz)->c9 ρ m m':=fun hq=>(e3.trans M.ext j3).trans (fun b l N=>u.ext b l (M.ext b l N)) (KO u.hr hq d D)
    rcases aw with⟨rfl,rfl,rfl,hold⟩|⟨rfl,b0,ab,l,cap,C,fz,rfl,Q,ax,A,V,az,rfl,E,W,I,S,R⟩
    .have r:∀ b,old=some b->∃ ab l,b<=G9/\Hp.get m2.H b=some ab/\ab.rw=true/\ρ2 b=some l/\l.on=false:=fun b q=>by
      obtain⟨ab,l,K,J,q3,q4,q5⟩:=hold b q;exact⟨ab,l,K,by rw[B q4];exact J,q3,u.ext _ _ q4,q5⟩
     obtain⟨L,K,J⟩:=zP u.hr r d D hc rfl hi h1;exact⟨L,K,St.trans Z M (St.trans f u J),hle,p fun b q=>by
      obtain⟨ab,l,K,J,q3,_⟩:=r b q;exact⟨K,fun he=>by rw[J]at he;cases he;cases q3⟩⟩
    .have O:Hp.get m2.H b0=some ab:=by rw[B V];exact ax
     obtain⟨L,K,J⟩:=mV (w':=w) (cap:=cap) (sh:=l.sh) u.hr Q O A (u.ext _ _ V) az d D hc rfl hi h1 W I (R lg.G fun b N l hl=>j6 b N l hl) j4 S ⟨rfl,rfl,rfl⟩ rfl (fun _ _=>rfl) E;exact⟨L,K,St.trans Z M (St.trans f u J),hle,p fun b q=>by
      cases q;exact⟨Q,fun he=>by rw[O]at he;cases he;cases A⟩⟩
   .cases d
  .cases d
 .cases d
def MM:∀ (d:Nat),xO P (SS P d)
 | 0=>ST
 | d+1=>by
   have u:=MM d;refine⟨fun{base ρ m m' w t v v' x b} h f p hv r=>?_,fun{m m' t v x b} f=>?_⟩
   .unfold SS at f;split at f
    .split at f
     .split at f
      .rename_i E m1 q;have a:=fC f;obtain⟨D,C,n,A,B⟩:=NM u h q (p.less a.1) hv (r.le a.2.1);obtain⟨ρ2,l,d1,d2,d3,d4,d5,d6⟩:=BL n.hr f (p.step n) C r;exact⟨ρ2,l,St.trans p n d1,d2,d3,d4,d5,A.trans d6,B.trans n.ext (EN n.hr f (p.step n))⟩
      .cases f
     .cases f
    .exact ST.ok h f p hv r
   .unfold SS at f;split at f
    .split at f
     .split at f
      .rename_i E m1 q;have a:=zM u q;have b:=fC f;exact⟨B9 a.1 b.1,a.2.1.trans b.2.1,B9 a.2.2 b.2.2⟩
      .cases f
     .cases f
    .exact fC f
def U0:xO P (tdP P):=MM 3
def DT(d:qG P m t t2 x y=some (v,m')):m.hi<=m'.hi/\m.lg.le m'.lg/\m.n<=m'.n:=by
 unfold qG at d;split at d
 .rename_i e d2 hu r;cases p:bV d2 with
  | false=>rw[p]at d;cases d
  | true =>
    rw[p]at d;simp only[P1,D4]at d;split at d
    .obtain⟨_,d⟩:=A3 d;split at d
     .rename_i f;have a:=SA U0 f;split at d
      .rename_i q;have b:=gY U0 q;have c:=lI d;exact⟨A2,a.2.1.trans (b.2.1.trans c.2.1),A2⟩
      .split at d
       .obtain⟨_,d⟩:=A3 d;have c:=lI d;exact⟨A2,a.2.1.trans c.2.1,A2⟩
       .cases d
     .cases d
    .cases d
 .cases d
def SE.step(h:SE P ρ w wd bh gs y' rows2 new')(f:∀ b ∈ gs,∃ l,ρ b=some l)(he:∀ b l,ρ b=some l->ρ' b=some l):SE P ρ' w wd bh gs y' rows2 new' :=
 ⟨h.len,h.first,h.size,h.flat,fun R hR=>h.rows R fun b a l d=>hR b a l (he b l d),h.ev⟩
def SG{n:Nat}(h:SH P e n=true):∃ z,eB P e=some z/\z.cells.size=n:=by
 unfold SH at h;split at h
 .rename_i z a;exact⟨z,a,A0 h⟩
 .cases h
def MC(h:HR P base ρ m.H w)(N:base<=w.heap.size)(f:qG P m t t2 x y=some (v,m'))(C:J2 ρ m.n m'.hi)(hx:VR ρ x x')(hy:VR ρ y y')(M:Sat m'.lg) :
  VOk P base ρ m w (Builtin.append_ #[t,t2] ty #[x',y']) v m':=by
 unfold qG at f;split at f
 .rename_i e d2 hu E;cases r:bV d2 with
  | false=>rw[r]at f;cases f
  | true =>
    rw[r]at f;simp only[P1,D4]at f;split at f
    .rename_i inf hi;obtain⟨hq,d⟩:=A3 f;clear f;obtain⟨az,Y⟩:=B3 hq;obtain⟨Z,av⟩:=B3 az;have F:=A1 Z;have G:0<inf.size:=A1 av;obtain⟨z,hz,J⟩:=SG Y;have I:G3 P e=some inf.size:=by unfold G3;rw[hi]
     split at d
     .rename_i bh gs sure m1 B;split at d
      .rename_i c g0 old m2 R;have mb:=gY U0 R;have mp:=lI d;have D:J2 ρ m.n m1.hi:=C.less A2;obtain⟨A,rows2,new',q,a2,a3,a4,a5,a6⟩:=PS U0 h B D hy (M.le (mb.2.1.trans mp.2.1)) G I;have p:J2 A m1.n m'.hi:=C.step q;obtain⟨ρ2,W,b2,b3,b4⟩:=IX U0 q.hr R (p.less mp.1) (hx.mono q.ext) (M.le mp.2.1) G I;obtain⟨v',u,w3,V,O,Q⟩:=NI (ty:=ty) hu E r hi hz J F W.hr N d (p.step W) M b4 (a5.step (fun b ay=>(a4 b ay).2) W.ext);exact⟨v',u,w3,V,O,St.trans C (St.trans (C.less mp.1) q W) Q⟩
      .split at d
       .rename_i b c tg au;obtain⟨S,L⟩:=A3 d;clear d;have S:=A0 S;have mp:=lI L;have D:J2 ρ m.n m1.hi:=C.less A2;obtain⟨A,rows2,new',q,a2,a3,a4,a5,a6⟩:=PS U0 h B D hy (M.le mp.2.1) G I;have p:J2 A m1.n m'.hi:=C.step q;obtain⟨l,d1,d2,d3,d4,d5⟩:=eH hx;obtain⟨nul,ax,rows,X,q2⟩:=eM d2 d3 d4;have aw:ax=inf.size:=A2;subst aw;rw[X]at d2;rcases m6 d2 with⟨rfl,rfl,rfl⟩|⟨rfl,a,cap,rfl,hc⟩
        .have K:A0V P base A m1 w e inf.size c [b] none (.slice none 0 0):=⟨true,[],X,.inl ⟨rfl,rfl,rfl,fun b N=>by cases N⟩⟩;obtain⟨v',u,w3,V,O,Q⟩:=NI (ty:=ty) (g0:=[b]) (gs:=gs) hu E r hi hz J F q.hr N L p M K a5;exact⟨v',u,w3,V,O,St.trans C q Q⟩
        .have T:cap=rows.length:=d5;subst T;obtain⟨v',u,w3,V,O,Q⟩:=A0y (ty:=ty) hu E r hi hz J F q.hr N L p M X (q.ext _ _ d1) (by rw[X];exact d2) a5 (a6 rfl);exact⟨v',u,w3,V,O,St.trans C q Q⟩
       .cases d
     .cases d
    .cases f
 .cases f
end
end
section
open Go
variable [Ora]
section
variable {P:Program} {base:Nat} {ρ ρ':Ren} {m m':Mem} {w w':World}
def FO(h:o+us.length<=row.length):(vH row o us).length=row.length:=by
 unfold vH;simp;omega
def US(h:o+us.length<=row.length):(vH row o us)[j]? = if o<=j/\j<o+us.length then us[j-o]? else row[j]? := by
 unfold vH;have a:(row.take o).length=o:=by simp;omega
 by_cases h1:j<o
 .rw[A8 A2,L9,E6 A2,F4 h1]
 .by_cases d:j<o+us.length
  .rw[A9 ⟨A2,d⟩,L9,D7 A2,a,E6 A2]
  .rw[A8 A2,D7 (by simp;omega),H3];congr 1
   simp;omega
def N7.set{R:Nat->Option Obj}{s:Nat}{C C':U8}(h:N7 R rows wd C s)(E:k<rows.length)(I:o+us.length<=wd)(he:X7 R us vs)
  (hC:∀ j,C'[j]? = if s+k*wd+o<=j/\j<s+k*wd+o+vs.length then vs[j-(s+k*wd+o)]? else C[j]?):N7 R (rows.set k (vH (rows.getD k []) o us)) wd C' s:=by
 have a:rows[k]? = some rows[k]:=A5 E;have q:rows.getD k []=rows[k]:=by rw[B2,a];rfl
 have p:rows[k].length=wd:=h.1 _ (M8 E);rw[q];refine⟨fun row hr=>?_,fun r row j u v d a2 a3=>?_⟩
 .rcases List.mem_or_eq_of_mem_set hr with h1|rfl
  .exact h.1 row h1
  .rw[FO A2];exact p
 .rw[hC]at a3;by_cases n:k=r
  .subst n;rw[Q9 E]at d;have d:=A7 d;subst d;have D:=(B0.1 a2).1;rw[FO A2,p]at D;rw[US A2]at a2;by_cases f:o<=j/\j<o+us.length
   .rw[A9 f]at a2;rw[A9 (by rw[<- he.1];omega)]at a3;exact he.2 (j-o) u v a2 (by rw[<- a3];congr 1;omega)
   .rw[A8 f]at a2;rw[A8 (by rw[<- he.1];omega)]at a3;exact h.2 k _ j u v a a2 a3
  .rw[bQ n]at d;have D:=(B0.1 a2).1;rw[h.1 _ (C7 d)]at D;have H:=(B0.1 d).1;have F:=he.1;rw[A8]at a3
   .exact h.2 r row j u v d a2 a3
   .rcases F2 r k with A|G
    .have B:(r+1)*wd<=k*wd:=F1 wd A;rw[G8]at B;omega
    .have B:(k+1)*wd<=r*wd:=F1 wd A2;rw[G8]at B;omega
def QG(h:HR P base ρ m.H w)(p:uS P m t x y=some (v,m'))(Y:J2 ρ m.n m'.hi)(hx:VR ρ x x')(hy:VR ρ y y')(hS:Sat m'.lg):UOk P base ρ m w (Instr.storeAt t x' y') m'/\v=undef/\m.lg.le m'.lg:=by
 unfold uS at p;split at p
 .rename_i b i d z o ts an;cases J:gS y with
  | true=>rw[J]at p;cases p
  | false =>
  rw[J]at p;simp only[D4]at p;split at p
  .rename_i xs gs m1 hd;split at p
   .rename_i c tc T g hg;obtain⟨az,q⟩:=A3 p;clear p;have az:=A0 az;split at q
    .rename_i g2 m2 hj;rw[M9]at q;simp only[hole]at q;obtain⟨hs,rfl⟩:=lN q;obtain⟨ag,N⟩:=T6 hs;have md:=R1 U0 hd;have mj:=M2 hj;have ae:m2.hi=m'.hi:=by rw[N];simp
     have aw:m'.lg=dY m2 d (.set (d-10) o) (hole c d::z::xs):=by rw[N];simp[hole]
     have Q:m2.lg.le m'.lg:=by rw[aw];exact⟨[_],rfl⟩
     have au:J2 ρ m.n m1.hi:=Y.less A2;have O:m1.lg.le m'.lg:=by rw[<- mj.2.1];exact Q
     obtain⟨W,L,e2,e3,e4,e5,e6⟩:=fZ U0 h hd au (hy.cells J) (hS.le O);have M:J2 W m1.n m2.hi:=(Y.step L).less A2;obtain⟨ρ2,lg,d1,d2,d3,d4,d5,d6⟩:=dM L.hr hj M;obtain⟨⟨l,wd,iE,k,a1,a2,a3,a4,a5,a6,rfl⟩,a8⟩:=tZ hx;have B:=L.ext _ _ a1;obtain⟨a,inf,q1,q2,q3,K⟩:=SqR.ex (L.hr.atl B hg).1;rcases K with⟨K,_⟩|⟨_,K⟩
     .rw[a2]at K;cases K
     obtain⟨C,fz,T',rows,ay,f1,f2,f3,f4,f5,f6,f7,f8,f9⟩:=K;have ao:a=wd:=by
      have:d=10+wd:=by rw[<- a8,a3];rfl
      omega
     subst ao;obtain⟨rfl,f10⟩:=f9 rfl;have ak:d=10+a:=A2;have aj:Sat (m2.wLg (dY m2 d (.set (d-10) o) (hole c d::z::xs))).lg:=by rw[Z1,<- aw];exact hS
     obtain⟨r1,r2,nul,af,rws,r3,r4⟩:=iK aj (.refl _);obtain⟨kk,hz⟩:=DS a4;have E:(hole c d::z::xs).map (D3 Ora.env)=.seq false a rows::.int kk (.ofNat k)::xs.map (D3 Ora.env):=by
      show Ora.env c::D3 Ora.env z::xs.map (D3 Ora.env)=_;rw[f2,hz]
     rw[E,show d-10=a by omega]at r1;have r1:Ora.env m2.lg.nx=if a=a/\k<rows.length/\o+(xs.map (D3 Ora.env)).length<=a then .seq false a (rows.set k (vH (rows.getD k []) o (xs.map (D3 Ora.env))))else .none:=r1
     by_cases hc:a=a/\k<rows.length/\o+(xs.map (D3 Ora.env)).length<=a
     .rw[A9 hc]at r1;obtain⟨_,R,ax⟩:=hc;have hR:∀ b' ∈ gs,∀ l',W b'=some l'->Sub l'.G lg.G:=fun b' aq l' ar=>d6 b' (.tail _ aq) l' ar
      have f:=e6 lg.G hR;have D:Sub ay.G lg.G:=d6 g (.head _) ay f7;have F:y'.cells.toList.length=(xs.map (D3 Ora.env)).length:=f.1.symm;have ah:(k+1)*a<=l.cap*a:=F1 a A2;rw[G8]at ah;obtain⟨w',g1,al,g3,g4,g5⟩:=X9 (P:=P) (b:=l.blk) (o:=l.sh+k*a+o) (fz:=fz) y'.cells.toList 0 C w f1 (AJ f) (by rw[F];omega) f10;have ad:C.toList.length=C.size:=Q7;have r:(Array.mk (bD C.toList (l.sh+k*a+o+0) y'.cells.toList)).size=C.size:=by simp[Y0]
      have X:∀ j,(Array.mk (bD C.toList (l.sh+k*a+o+0) y'.cells.toList))[j]? = if l.sh+k*a+o<=j/\j<l.sh+k*a+o+y'.cells.toList.length then y'.cells.toList[j-(l.sh+k*a+o)]? else C[j]? := fun j=>by
       rw[I0,jM _ _ _ _ (by rw[F];omega)];simp
      have u:N7 lg.G rows a C l.sh:=N7.mono ⟨f6,f8⟩ D;have A:St P base ρ ρ2 m (m2.wLg (dY m2 d (.set (d-10) o) (hole c d::z::xs))) w w:=St.trans (Y.less (by simp;omega)) (St.trans (Y.less A2) L d1) (St.wLg d1.hr _);have I:Hp.get (m2.wLg (dY m2 d (.set (d-10) o) (hole c d::z::xs))).H b=some (.sq c tc T' g false):=by rw[iY,qW L.hr hj M B];exact hg
      have S:=d1.ext _ _ B;have ai:BR P ρ2 (.sq m2.lg.nx d T' g2 false) l w':=by
       refine⟨⟨a,inf,ak,q2,q3,.inr ⟨a2,_,fz,T',_,lg,g4,r1,by rw[Q5];exact f3,f4,by rw[r];exact f5,(u.set R ax f X).1,d4,(u.set R ax f X).2,fun _=>⟨rfl,by rw[r];exact f10⟩⟩⟩⟩
      have Z:=St.write A.hr hs I rfl S a2 al g3 g5 ai (fun h=>by cases h);refine⟨⟨ρ2,w',?_,St.trans Y A Z⟩,rfl,md.2.1.trans O⟩;have av:=gB an;have V:ts.length=(xs.map (D3 Ora.env)).length:=by
       have:=F0 List.length e5;rw[E3]at this;exact this.symm
      have e:y'.cells.size=ts.length:=by rw[V,<- F];simp
      simp[Instr.storeAt,Instr.sureAddr,storeVar,A4,J8 av,Result.andThen,e,g1]
     .rw[A8 hc]at r1;rw[r1]at r3;cases r3
    .cases q
   .cases p
  .cases p
 .cases p
def QJ{lo' hi' mx':P4}(h:HR P base ρ m.H w)(a:uU P m t x lo hi mx=some (v,m'))(M:J2 ρ m.n m'.hi)(hx:VR ρ x x')(q:OR ρ lo lo')(p:OR ρ hi hi')(f:OR ρ mx mx')(D:Sat m'.lg) :
  VOk P base ρ m w (Instr.sliceAt t x' lo' hi' mx') v m'/\m.lg.le m'.lg:=by
 unfold uU at a;split at a
 .rename_i e b i E hu;split at a
  .rename_i s C;obtain⟨d,a⟩:=A3 a;have d:=A0 d;obtain⟨l,h1,F,h3,W⟩:=lR hx;obtain⟨⟨r,g1,g2⟩,⟨lg,rfl⟩,g4⟩:=DJ (w:=w) hu C d h1 F h3 (fun h=>by cases h) a q p f D;exact⟨⟨r,ρ,w,g1,g2,St.wLg h lg⟩,g4⟩
  .cases a
 .rename_i e b i E hu;split at a
  .rename_i s C;obtain⟨d,a⟩:=A3 a;have d:=A0 d;obtain⟨l,h1,F,h3,W,V⟩:=eH hx;obtain⟨⟨r,g1,g2⟩,⟨lg,rfl⟩,g4⟩:=DJ (w:=w) hu C d h1 F h3 (fun _=>V) a q p f D;exact⟨⟨r,ρ,w,g1,g2,St.wLg h lg⟩,g4⟩
  .cases a
 .rename_i e b i E hu;split at a
  .rename_i s C;obtain⟨d,a⟩:=A3 a;have d:=A0 d;split at a
   .rename_i c tc L m1 Q;have B:∀ {m1:Mem},ID m1 L c E false lo hi mx=some (v,m')->I9 m1 m'/\m1.lg.le m'.lg:=fun{m1} a=>by
     have go:∀ {m1:Mem} {l h:Value} {cc:Bool},eN m1 L c E l h cc=some (v,m')->I9 m1 m'/\m1.lg.le m'.lg:=fun h=>by
      unfold eN at h;obtain⟨_,h⟩:=A3 h;rw[M9]at h;simp only[D0,L2]at h;obtain⟨_,rfl⟩:=h;exact⟨⟨_,rfl⟩,U6⟩
     unfold ID IC at a;split at a
     .exact go a
     .exact go (A3 a).2
     .split at a
      .rename_i K
       have:=go a;exact⟨(y8 K).1.trans this.1,(y8 K).2.trans this.2⟩
      .cases a
     .cases a
    obtain⟨⟨lg,G⟩,hle⟩:=B a;have O:m1.hi=m'.hi:=by rw[G];simp
    obtain⟨A,l,J,T,X,R,S,N⟩:=BL h Q (M.less A2) hx (D.le hle);have mono:∀ {o o':P4},OR ρ o o'->OR A o o':=fun{o o'} h=>by
     cases o<;>cases o'<;>first|exact trivial|exact h.elim|exact VR.mono J.ext h
    obtain⟨⟨r,g1,g2⟩,⟨I,u⟩,g4⟩:=DJ (w:=w) (cl:=false) hu C d T R S (fun h=>by cases h) a (mono q) (mono p) (mono f) D;subst u;exact⟨⟨r,A,w,g1,g2,St.trans (M.less (by simp)) J (St.wLg J.hr I)⟩,N.trans g4⟩
   .cases a
  .cases a
 .cases a
end
end
section
open Go
variable [Ora]
section
variable {P:Program} {base:Nat} {ρ ρ':Ren} {m m':Mem} {w w':World}
def zA{a':Addr}{n c':Nat}{a:List Int}(p:P.underlying s=some (.slice e))(q:P.underlying t=some .string)(he:P.underlying e=some (.int .u8))(d:(loadCells a' n).run P w=.ok (a.map (Value.int .u8)).toArray w) :
  (convert s t (.slice (some a') n c')).run P w=.ok (.string ⟨⟨a.map fun n=>UInt8.ofNat n.toNat⟩⟩) w:=by
 have:=run_bytesToString w a' n c' a d;have f:=mZ a [];simp only[G1]at f;simp only[convert,A4,C8 p,C8 q,C8 he,Result.andThen];rw[this,show ByteArray.empty=ByteArray.mk ⟨[]⟩from rfl,f]
def BU{n:Nat}(a:P.underlying s=some (.slice e))(d:P.underlying t=some .string)(he:P.underlying e=some (.int .u8)):(convert s t (.slice none n c)).run P w=.ok (.string ByteArray.empty) w:=by
 simp[convert,A4,C8 a,C8 d,C8 he,Result.andThen,Conv.bytesToString]
def FF{b:ByteArray}(F:P.underlying s=some ds)(D:P.underlying t=some (.slice e))(he:P.underlying e=some (.int .u8))(w:World) :
  ∃ (cap:Nat) (C:Array Value),b.size<=cap/\C.size=cap/\(∀ (i:Nat) (u:Value),(O4 b.data.toList)[i]? = some u->C[i]? = some u)/\(convert s t (.string b)).run P w=.ok (.slice (some ⟨w.heap.size,0,none⟩) b.size cap) { w.drew with heap:=w.heap.push (.cells C e (C.size,C.size+1)) }:=by
 let q:Question:=.appendCap b.size 0 e
 let cap:=q.cut (w.tape w.drawn q)
 have d:b.size<=cap:=by show b.size<=b.size+_;omega
 have A:(choose q).run P w=.ok cap w.drew:=by
  simp only[choose,Sem.run];rw[A8 (by simp[q,Question.forced])];rfl
 let C:U8:=(b.data.map fun b=>Value.int .u8 b.toNat)++Array.replicate (cap-b.size) (.int .u8 0)
 have hC:C.size=cap:=by
  have:b.data.size=b.size:=rfl;simp[C,this];omega
 refine⟨cap,C,d,hC,fun i u hi=>?_,?_⟩
 .have B:=(B0.1 hi).1;simp[O4]at B;have f:i<(b.data.map fun b=>Value.int .u8 b.toNat).size:=by simpa using B
  show((b.data.map fun b=>Value.int .u8 b.toNat)++Array.replicate (cap-b.size) (.int .u8 0))[i]? = some u;rw[S0 f]
  simpa [O4]using hi
 .have p:∀ w2:World,w2.heap[w.heap.size]? = some (.cells C e (0,0))->(markStringish ⟨w.heap.size,0,none⟩).run P w2=.ok () (w2.freeze { block:=w.heap.size,off:=C.size } 1):=fun w2 E=>by
   simp[markStringish,shape,freeze,Sem.run,World.shape?,E]
  have r:({ w.drew with heap:=w.heap.push (.cells C e (0,0)) }:World).freeze { block:=w.heap.size,off:=C.size } 1={ w.drew with heap:=w.heap.push (.cells C e (C.size,C.size+1)) }:=by
   unfold World.freeze;rw[A8 F7];congr 1;apply Array.ext_getElem?;intro i;rw[G6];by_cases hi:w.heap.size=i
   .subst hi;simp
   .rw[A8 hi];simp only[Z5];rw[A8 (fun h=>hi h.symm),A8 (fun h=>hi h.symm)]
  have a:(convert s t (.string b)).run P w=(Conv.stringToBytes e b).run P w:=by
   cases ds<;>simp[convert,A4,C8 F,C8 D,C8 he,Result.andThen]
  rw[a];unfold Conv.stringToBytes;simp only[A4,show(choose (.appendCap b.size 0 e)).run P w=.ok cap w.drew from A,Result.andThen];have n:(newRow e C).run P w.drew=.ok ⟨w.heap.size,0,none⟩ { w.drew with heap:=w.heap.push (.cells C e (0,0)) }:=rfl;rw[show(newRow e ((b.data.map fun b=>Value.int .u8 b.toNat)++Array.replicate (cap-b.size) (.int .u8 0))).run P w.drew=_ from n];simp only[Result.andThen];rw[p _ (by simp),r];rfl
def DO:∀ {us:List U} {s:List UInt8} {vs:C9},rO us=some s->X7 (fun k=>w.heap[k]?) us vs->∃ d:List Int,vs=d.map (Value.int .u8)/\s=d.map fun n=>UInt8.ofNat n.toNat
 | [],s,vs,h,he=>by
   cases h;have:vs=[]:=F6.1 he.1.symm;subst this;exact⟨[],rfl,rfl⟩
 | u::us,s,vs,h,he=>by
   unfold rO at h;split at h
   .rename_i heq;cases heq
   .rename_i n r heq;cases heq;split at h
    .split at h
     .rename_i l f;cases h;cases vs with
      | nil=>have:=he.1;simp at this
      | cons v vr =>
        obtain⟨d,A,q⟩:=DO (vs:=vr) f ⟨by have:=he.1;simpa using this,fun i a b h1 p=>he.2 (i+1) a b (by simpa using h1) (by simpa using p)⟩
        have:=eL (he.2 0 _ v rfl rfl) rfl;subst this;exact⟨(Int.ofNat n)::d,by rw[A];rfl,by rw[q];rfl⟩
     .cases h
    .cases h
   .cases h
def DP:∀ {rows:List (List U)} {s:List UInt8},tL rows=some s->rO (rows.flatMap id)=some s/\(rows.flatMap id).length=rows.length/\∀ (r:Nat) (row:List U) (j:Nat) (u:U),rows[r]? = some row->row[j]? = some u->j=0/\(rows.flatMap id)[r]? = some u
 | [],s,h=>by cases h;exact⟨rfl,rfl,fun r row j u h=>by simp at h⟩
 | row::rows,s,h=>by
   unfold tL at h;split at h
   .rename_i heq;cases heq
   .rename_i n r heq;cases heq;split at h
    .rename_i p;split at h
     .rename_i l f;cases h;obtain⟨h1,A,h3⟩:=DP f;refine⟨?_,by show([U.int .u8 (Int.ofNat n)]++rows.flatMap id).length=_;rw[B8,A];simp;omega,fun q row j u a a2=>?_⟩
      .simp only[eR,id,R4,G1,rO];rw[A9 p,h1]
      .cases q with
       | zero =>
         simp at a;subst a;cases j with
         | zero=>simp at a2;subst a2;exact⟨rfl,rfl⟩
         | succ j=>simp at a2
       | succ q =>
         obtain⟨d,B⟩:=h3 q row j u (by simpa using a) a2;exact⟨d,by simpa using B⟩
     .cases h
    .cases h
   .cases h
def oB{t:Nat}:∀ {l:C9},Z7 t l=true->∀ v ∈ l,G0 v=t
 | [],_,v,hv=>by cases hv
 | x::r,h,v,hv=>by
   obtain⟨h1,a⟩:=B3 (show(Nat.beq (G0 x) t && Z7 t r)=true from h);rcases B4.1 hv with rfl|hv
   .exact A0 h1
   .exact oB a v hv
def pX{R:Nat->Option Obj}(h:LR ρ cs cs')(f:∀ v ∈ cs,G0 v<10):X7 R (cs.map (D3 Ora.env)) cs':=by
 refine⟨by simp[h.1],fun i u v a a2=>?_⟩;rw[F9]at a;cases d:cs[i]? with
 | none=>rw[d]at a;cases a
 | some x =>
   rw[d]at a;have a:=A7 a;subst a;exact .sc (n9 (h.2 i x v d a2) (f x (C7 d))).1
def GZ(m m1:Mem):A3E m m1=⟨m.H,m.n,m.W,m1.hi,m1.lg⟩:=by cases m;cases m1;rfl
def St.kept{ρ:Ren}{m:Mem}{w:World}{hi:Nat}{lg:Lg}(h:HR P base ρ m.H w)(hh:m.hi<=hi):St P base ρ ρ m ⟨m.H,m.n,m.W,hi,lg⟩ w w :=
 ⟨fun _ _ h=>h,fun b l h1 a=>(by rw[h1]at a;cases a),A6 _,hh,fun h=>B9 h hh,h,fun _ h=>h,fun b h1 a=>absurd h1 a,fun _ _ _=>rfl,A6 _,⟨rfl,rfl,rfl⟩,fun b l h1 a=>(by rw[h1]at a;cases a),fun _ _ _ _=>rfl,fun _ h=>.inr h⟩
def ZI(h:HR P base ρ m.H w)(hb:base<=w.heap.size)(d:IH P m s t x=some (v,m'))(X:J2 ρ m.n m'.hi)(hx:VR ρ x x')(hS:Sat m'.lg):VOk P base ρ m w (convert s t x') v m'/\m.lg.le m'.lg:=by
 unfold IH at d;split at d
 .rename_i e a n c N M;split at d
  .rename_i he;split at d
   .rename_i cs hr;obtain⟨E,d⟩:=A3 d;obtain⟨u,p,e2,r,O,Q,e5⟩:=L5 d hS;obtain⟨lg,rfl⟩:=G7 d;have q:=St.wLg h lg;have J:=oB E;have key:∀ {a' c'} {L:C9},LR ρ cs L->(loadCells a' n).run P w=.ok ⟨L⟩ w->VOk P base ρ m w (convert s t (.slice (some a') n c')) v (m.wLg lg):=fun{a' c' L} Z aw=>by
     have az:X7 (fun k=>w.heap[k]?) (cs.map (D3 Ora.env)) L:=pX Z (fun v hv=>by rw[J v hv];omega);have I:∃ f,rO (cs.map (D3 Ora.env))=some f/\u=.str f:=by
      have p:(match rO (cs.map (D3 Ora.env))with|some s=>U.str s|none=>.none)=u:=p;split at p
      .rename_i f A;exact⟨f,A,p.symm⟩
      .subst p;cases O
     obtain⟨f,K,rfl⟩:=I;cases O;obtain⟨ns,r1,r2⟩:=DO (w:=w) K az;subst r1;subst r2;exact⟨_,ρ,w,zA N M he aw,Q ρ,q⟩
    refine⟨?_,H1 d⟩;rcases O2 hx with⟨l,Z,_,_,rfl⟩|⟨l,c',Z,_,_,_,_,rfl⟩|⟨a',c',_,rfl,_,rfl⟩
    .obtain⟨L,g1,g2,g3⟩:=Y6 h hr Z;exact key g1 (J3 g2 g3)
    .obtain⟨L,g1,g2,g3⟩:=Y6 h hr Z;exact key g1 (J3 g2 g3)
    .have:cs=[]:=by
      unfold l5 at hr;split at hr
      .have:=(gV hr).2;simpa using this
      .cases hr
     subst this;exact key .nil (by simp[loadCells,loadCellsFrom])
   .cases d
  .cases d
 .rename_i e fn a1 a2 N M;split at d
  .rename_i he;split at d
   .rename_i hh b m1 hd;rw[GZ]at d;obtain⟨u,p,e2,r,O,Q,e5⟩:=L5 d hS;have hle:=H1 d;obtain⟨lg,rfl⟩:=G7 d;obtain⟨V,l,d1,d2,d3,d4,d5,d6⟩:=BL h hd (X.less (by simp[Mem.wLg])) hx (hS.le hle);have q:St P base ρ ρ m (Mem.wLg ⟨m.H,m.n,m.W,m1.hi,m1.lg⟩ lg) w w:=St.kept h d1.hle;obtain⟨nul,wd,rows,K,q2⟩:=eM d4 d5 A2;have ax:wd=1:=A2;subst ax;rw[K]at d4;have I:∃ f,tL rows=some f/\u=.str f:=by
     have p:evU .str [D3 Ora.env hh]=u:=p;rw[K]at p;have p:(if 1=1 then(match tL rows with|some s=>U.str s|none=>.none)else .none)=u:=p;rw[A9 rfl]at p;split at p
     .rename_i f A;exact⟨f,A,p.symm⟩
     .subst p;cases O
    obtain⟨f,A,rfl⟩:=I;cases O;refine⟨?_,d6.trans hle⟩;have hG:=(d1.hr.atl d2 d3).1.2;rcases m6 d4 with⟨rfl,rfl,rfl⟩|⟨rfl,a,c,rfl,hc⟩
    .cases A;exact⟨_,ρ,w,BU N M he,Q ρ,q⟩
    .obtain⟨_,new',g1,g2,g3,g4⟩:=rL (w:=w) d4 hG;obtain⟨k1,k2,k3⟩:=DP A;have Y:X7 (fun k=>w.heap[k]?) (rows.flatMap id) new':=by
      refine⟨by rw[k2,g1];simp,fun i u v b1 b2=>?_⟩;have D:i<rows.length:=by have:=(B0.1 b1).1;rw[k2]at this;exact this
      have au:rows[i].length=1:=g3.1 _ (M8 D);have F:rows[i]? = some rows[i]:=A5 D;have h0:rows[i][0]? = some (rows[i][0]' A2):=A5 A2;obtain⟨_,k4⟩:=k3 i _ 0 _ F h0;rw[b1]at k4;have k4:=A7 k4;rw[k4];exact(g3.2 i _ 0 _ v F h0 (by simpa using b2)).mono hG
     obtain⟨ns,r1,r2⟩:=DO (w:=w) k1 Y;subst r1;subst r2;have ay:(ns.map (Value.int .u8)).length=rows.length:=by rw[g1];omega
     exact⟨_,ρ,w,zA N M he (jW ay g4),Q ρ,q⟩
   .cases d
  .cases d
 .rename_i y _ _ _ ds e N M;obtain⟨E,d⟩:=A3 d;have E:=A0 E;split at d
  .rename_i he;split at d
   .rename_i B;split at d
    .rename_i g m1 hj;rw[M9]at d;simp only[hole]at d;have d:v7 (m1.wLg (dY m1 11 .byt [y])) m1.lg.nx 11 e g=some (v,m'):=d;have mj:=M2 hj;have mn:=g7 d;simp only[JF,Z1,SK]at mn;obtain⟨V,lg,p,e2,O,Q,e5,e6⟩:=dM h hj (X.less A2);have q:St P base ρ V m (m1.wLg (dY m1 11 .byt [y])) w w:=St.trans (X.less (by simp;omega)) p (St.wLg p.hr _);obtain⟨f,rfl,f1⟩:=d7 hx E;obtain⟨r1,r2,_⟩:=iK (m:=m1) (t:=11) (op:=.byt) (xs:=[y]) (lg:=m'.lg) hS (by rw[Z1,mn.2.1];exact .refl _);have r1:Ora.env m1.lg.nx=evU .byt [D3 Ora.env y]:=r1;rw[f1]at r1;have r1:Ora.env m1.lg.nx=.seq false 1 (iD f):=r1;obtain⟨cap,C,c1,c2,c3,c4⟩:=FF (P:=P) (b:=⟨⟨f⟩⟩) N M he w;obtain⟨inf,T,S⟩:∃ inf,P.info? e=some inf/\inf.size=1:=by
      unfold G3 at B;cases hi:P.info? e with
      | none=>rw[hi]at B;cases B
      | some inf=>rw[hi]at B;exact⟨inf,rfl,A7 B⟩
     have av:ByteArray.size ⟨⟨f⟩⟩=f.length:=rfl;rw[av]at c1 c4;obtain⟨ρ2,K,q2⟩:=bF (w':={ w.drew with heap:=w.heap.push (.cells C e (C.size,C.size+1)) }) (cap:=cap) (C:=C) q.hr hb d (by simpa using(X.less (A6 _)).step p) r1 rfl T S (by rw[fJ];exact c1) A2
      ((FH (R:=lg.G) f).move (o':=0) fun i hi=>by
        rw[fJ]at hi;have D:i<(O4 f).length:=by simp[O4];omega
        rw[E8,c3 i (O4 f)[i] (A5 D)];simp[D]) Q (fun i hi hh=>by have:=hh.1;simp only at this;omega) ⟨rfl,rfl,rfl⟩ rfl
     rw[fJ]at K;exact⟨⟨_,ρ2,_,c4,K,St.trans X q q2⟩,by rw[mn.2.1,<- mj.2.1];exact⟨[_],rfl⟩⟩
    .cases d
   .cases d
  .cases d
 .cases d
def QP(hu:P.underlying t=some (.slice e))(hi:P.info? e=some inf)(n:inf.bytes<=90000)(h0:0<inf.size)(h:∀ w,(zeroValue e).run P w=.ok z w)(q:k<=qE)(w:World) :
  (Instr.makeSlice t (.int .i64 (Int.ofNat k)) (.int .i64 (Int.ofNat k))).run P w=.ok (.slice (some ⟨w.heap.size,0,none⟩) k k) { w with heap:=w.heap.push (.cells ((Array.range (k*inf.size)).map (z.cells[· % z.cells.size]!)) e (0,0)) }:=by
 have q:k<=1000000000:=q;have u:G3 P e=some inf.size:=by simp[G3,hi]
 have wl:IntKind.i64.wrap (Int.ofNat k)=Int.ofNat k:=nO .i64 k (by simp only[JK];omega);have hm:k*inf.bytes<=1000000000*90000:=u5 q n;have a:(askRoom (k*inf.bytes)).run P w=.ok () w:=by
  unfold askRoom roomBytes;rw[A8 A2];rfl
 have p:((inf.bytes:Int)*(k:Int))=((k*inf.bytes:Nat):Int):=by rw[u6];simp
 unfold Instr.makeSlice;simp only[A4,C8 hu,asInt,asIntOf,Result.andThen,Sem.run_pure,U1 hi,wl];rw[A8]
 .have d:(Int.ofNat k).toNat=k:=by simp
  simp only[A4,Sem.run_pure,Result.andThen,d,a,J8 u];by_cases f:k*inf.size=0
  .have A:∀ z:U8,Array.map (fun x=>z[x%z.size]!) (Array.range (k*inf.size))=⟨[]⟩:=fun z=>by rw[f];apply I2;simp
   simp only[A9 f,A];rfl
  .simp only[A8 f,A4,Sem.run_pure,Result.andThen,h];rfl
 .have r:Int.ofNat k=(k:Int):=rfl;simp only[r,p];simp;omega
def SF{R:Nat->Option Obj}{s:Nat}(h0:0<s)(n:z.cells.size=s)(q:LR ρ z.cells.toList z.cells.toList)(p:∀ v ∈ z.cells.toList,G0 v<10):N7 R (List.replicate k (z.cells.toList.map (D3 Ora.env))) s ((Array.range (k*s)).map (z.cells[· % z.cells.size]!)) 0:=by
 have he:=pX (R:=R) q p;refine⟨fun row hr=>?_,fun r row j u v g1 g2 g3=>?_⟩
 .rw[(List.mem_replicate.1 hr).2];simp[n]
 .have hr:=(B0.1 g1).1;rw[S3]at hr;rw[List.getElem?_replicate,A9 hr]at g1;cases g1;have f:=(B0.1 g2).1;simp only[E3,Q7]at f;rw[n]at f;have hm:(r*s+j)%s=j:=by rw[u6,Nat.mul_add_mod,Y7 f]
  have d:r*s+j<k*s:=by
   have:(r+1)*s<=k*s:=F1 s hr;rw[G8,eQ]at this;omega
  rw[E8,Array.getElem?_map,Array.getElem?_range,A9 d]at g3;simp only[K2,D0,n,hm]at g3;have a:j<z.cells.size:=A2;rw[getElem!_pos z.cells j a]at g3;refine he.2 j u v g2 ?_;rw[X3,E7 a,g3]
def WJ{l c:Value}(h:HR P base ρ m.H w)(S:base<=w.heap.size)(a:GM P m t l c=some (v,m'))(C:J2 ρ m.n m'.hi)(N:VR ρ l l')(M:VR ρ c c')(O:Sat m'.lg):VOk P base ρ m w (Instr.makeSlice t l' c') v m'/\m.lg.le m'.lg:=by
 unfold GM at a;split at a
 .rename_i e i ti j tj hu;obtain⟨d,A⟩:=A3 a;clear a;obtain⟨d,h3⟩:=B3 d;obtain⟨h1,E⟩:=B3 d;have h1:=A0 h1;have E:=A0 E;have h3:=A0 h3;subst h1 E h3;have a:=A;clear A;split at a
  .rename_i inf hi;obtain⟨d,a⟩:=A3 a;obtain⟨p,f⟩:=B3 d;have p:=A1 p;have f:0<inf.size:=A1 f;split at a
   .rename_i z J;obtain⟨d,a⟩:=A3 a;obtain⟨r,u⟩:=B3 d;have r:=A0 r;have u:∀ v ∈ z.cells.toList,G0 v<10:=fun v hv=>A1 (D2.1 u v hv)
    split at a
    .rename_i g m1 L;rw[M9]at a;simp only[hole]at a;have a:v7 (m1.wLg (dY m1 (10+inf.size) (.rep inf.size) (hole i 3::z.cells.toList))) m1.lg.nx (10+inf.size) e g=some (v,m'):=a;have T:=M2 L;have D:=g7 a;simp only[JF,Z1,SK]at D;obtain⟨F,lg,G,e2,X,R,e5,Z⟩:=dM h L (C.less A2);have B:St P base ρ F m (m1.wLg (dY m1 (10+inf.size) (.rep inf.size) (hole i 3::z.cells.toList))) w w:=St.trans (C.less (by simp;omega)) G (St.wLg G.hr _);obtain⟨k,n,rfl,f1,f2⟩:=L7 (v:=hole i 3) N (show(3:Nat)<8 by decide);obtain⟨k2,Y,rfl,f3,f4⟩:=L7 (v:=hole i 3) M (show(3:Nat)<8 by decide);rw[f1]at f3;cases f3;obtain⟨r1,r2,nul,wd,rows,K,W⟩:=iK (m:=m1) (t:=10+inf.size) (op:=.rep inf.size) (xs:=hole i 3::z.cells.toList) (lg:=m'.lg) O (by rw[Z1,D.2.1];exact .refl _);have r1:Ora.env m1.lg.nx=evU (.rep inf.size) (D3 Ora.env (hole i 3)::z.cells.toList.map (D3 Ora.env)):=r1;rw[f1]at r1;have V:k=.i64:=by
      have f2:(3:Nat)=fN k:=f2;cases k<;>first|rfl|(exfalso;revert f2;decide)
     subst V;cases n with
     | negSucc q=>rw[K]at r1;cases r1
     | ofNat q =>
       have r1:Ora.env m1.lg.nx=if(z.cells.toList.map (D3 Ora.env)).length=inf.size/\q<=qE then .seq false inf.size (List.replicate q (z.cells.toList.map (D3 Ora.env)))else .none:=r1
       by_cases d:(z.cells.toList.map (D3 Ora.env)).length=inf.size/\q<=qE
       .rw[A9 d]at r1;obtain⟨ρ2,I,Q⟩:=bF (w':={ w with heap:=w.heap.push (.cells ((Array.range (q*inf.size)).map (z.cells[· % z.cells.size]!)) e (0,0)) }) (cap:=q) (fz:=(0,0)) B.hr S a (by simpa using(C.less (A6 _)).step G) r1 rfl hi rfl (by simp) (by simp)
         (SF (ρ:=ρ) f r (nM J) u) R (fun i hi hh=>by have:=hh.2;simp only at this;omega) ⟨rfl,rfl,rfl⟩ rfl
        rw[S3]at I;exact⟨⟨_,ρ2,_,QP hu hi p f (fun w=>o9 J w) d.2 w,I,St.trans C B Q⟩,by rw[D.2.1,<- T.2.1];exact⟨[_],rfl⟩⟩
       .rw[A8 d,K]at r1;cases r1
    .cases a
   .cases a
  .cases a
 .cases a
end
end
section
open Go
variable [Ora]
section
variable {P:Program} {base:Nat} {ρ ρ':Ren} {m m':Mem} {w w':World}
def NR{t:Nat}(h:S7 m 8 .nilp [hole i t]=some (v,m'))(hi:Ora.env i=.seq nul wd rows)(p:Sat m'.lg):VR ρ v (.bool nul)/\I9 m m'/\m.lg.le m'.lg:=by
 obtain⟨u,d,A,r,f,n,q⟩:=L5 h p;have a:[hole i t].map (D3 Ora.env)=[.seq nul wd rows]:=by
  show[Ora.env i]=_;rw[hi]
 rw[a]at d;have d:U.bool nul=u:=d;subst d;cases f;exact⟨n ρ,G7 h,H1 h⟩
def zB{x y:Operand}{a:Option Addr}{n:Nat}(hu:P.underlying t=some (.slice e))(h:(a=none/\n=0/\c=0/\nul=true)∨(nul=false/\∃ q:Addr,a=some q/\n<=c))(p:op=.eql∨op=.neq)(w:World) :
  (do eqGuard op t x y (.slice a n c) (.slice none 0 0);binOp op t (.slice a n c) (.slice none 0 0):Sem Value).run P w=.ok (.bool (if op=.eql then nul else !nul)) w:=by
 have key:∀ {ρ:Ren} {am:Value},VR ρ am (.slice a n c)->kC P t x y am (.slice none 0 0)=true->qC P .eql t am (.slice none 0 0)=some (.bool nul)->qC P .neq t am (.slice none 0 0)=some (.bool !nul) ->
   (do eqGuard op t x y (.slice a n c) (.slice none 0 0);binOp op t (.slice a n c) (.slice none 0 0):Sem Value).run P w=.ok (.bool (if op=.eql then nul else !nul)) w:=fun{ρ am} hv r h1 B=>by
  have f:VR ρ (.slice none 0 0) (.slice none 0 0):=.pure rfl;have u:=pL (op:=op) (fun _=>r) hv f w;rcases p with rfl|rfl
  .obtain⟨g1,_⟩:=uF h1 hv f w;simp[A4,u,g1,Result.andThen]
  .obtain⟨g1,_⟩:=uF B hv f w;simp[A4,u,g1,Result.andThen]
 rcases h with⟨rfl,rfl,rfl,rfl⟩|⟨rfl,q,rfl,C⟩
 .refine key (ρ:=fun _=>none) (am:=.slice none 0 0) (.pure rfl) rfl ?_ ?_
  .simp[qC,zG,eqM,hu]
  .simp[qC,zG,eqM,hu]
 .obtain⟨d,A⟩:∃ d,Op.maxDepth=d+1:=⟨Op.maxDepth-1,rfl⟩;have he:∀ w,(Op.equal t (.slice (some q) n c) (.slice none 0 0)).run P w=.ok false w:=fun w=>by
   rw[Op.equal,A];simp[Op.equalIn,A4,C8 hu,Result.andThen]
  have r:∀ o:BinOp,(eqGuard o t x y (.slice (some q) n c) (.slice none 0 0)).run P w=.ok () w:=fun o=>by
   unfold eqGuard;cases o<;>rfl
  rcases p with rfl|rfl
  .rw[A4,r];show(do pure (.bool (<- Op.equal t (.slice (some q) n c) (.slice none 0 0))):Sem Value).run P w=_;rw[A4,he];rfl
  .rw[A4,r];show(do pure (.bool (!(<- Op.equal t (.slice (some q) n c) (.slice none 0 0)))):Sem Value).run P w=_;rw[A4,he];rfl
def A1A{x y:Operand}{a a' b:Value}(F:VZ P m op t x y a b=some (v,m'))(I:VR ρ a a')(T:VR ρ b b')(K:Sat m'.lg) :
  (∃ r,(do eqGuard op t x y a' b';binOp op t a' b':Sem Value).run P w=.ok r w/\VR ρ v r)/\I9 m m'/\m.lg.le m'.lg:=by
 unfold VZ at F;split at F
 .rename_i e k V i O hu;obtain⟨d,f⟩:=A3 F;clear F;obtain⟨d,A⟩:=B3 d;obtain⟨d,N⟩:=B3 d;have J:b'=.slice none 0 0:=by
   unfold XV at d;split at d
   .exact O5 T
   .cases d
  subst J;obtain⟨nul,wd,rows,B,n,c,D,rfl,Q⟩:∃ nul wd rows B n c,Ora.env i=.seq nul wd rows/\a'=.slice B n c/\((B=none/\n=0/\c=0/\nul=true)∨(nul=false/\∃ q:Addr,B=some q/\n<=c)):=by
   have C:∀ {l:Loc},Enc l.G (Ora.env i) a'->F5 (Ora.env i)=O->10<=O->∃ nul wd rows B n c,Ora.env i=.seq nul wd rows/\a'=.slice B n c/\((B=none/\n=0/\c=0/\nul=true)∨(nul=false/\∃ q:Addr,B=some q/\n<=c)):=fun h h3 E=>by
    obtain⟨nul,wd,rows,D,_⟩:=eM h h3 E;rw[D]at h;rcases m6 h with⟨rfl,rfl,rfl⟩|⟨rfl,q,c,rfl,R⟩
    .exact⟨_,_,_,_,_,_,D,rfl,.inl ⟨rfl,rfl,rfl,rfl⟩⟩
    .exact⟨_,_,_,_,_,_,D,rfl,.inr ⟨rfl,q,rfl,R⟩⟩
   rcases(I1 _ _).mp A with A|A
   .rcases(I1 _ _).mp A with A|A
    .have:=A0 A;subst this;obtain⟨l,_,h,h3,E⟩:=lR I;exact C h h3 E
    .have:=A0 A;subst this;obtain⟨l,_,h,h3,E,_⟩:=eH I;exact C h h3 E
   .have:=A0 A;subst this;rcases(eG I).1 with⟨l,wd,h1,h,h3,rfl⟩|⟨l,wd,rows,h1,h,h3,E,M,rfl⟩
    .exact⟨_,_,_,_,_,_,h3,rfl,.inl ⟨rfl,rfl,rfl,rfl⟩⟩
    .exact⟨_,_,_,_,_,_,h3,rfl,.inr ⟨rfl,_,rfl,M⟩⟩
  split at f
  .rename_i r H;cases f;obtain⟨g1,g2,g3⟩:=NR (ρ:=ρ) H D K;exact⟨⟨_,zB hu Q (.inl rfl) w,g1⟩,g2,g3⟩
  .rename_i hh m1 H;have hle:=H1 f;obtain⟨g1,g2,g3⟩:=NR (ρ:=ρ) H D (K.le hle);obtain⟨u,f1,f2,r,f3,f4,f5⟩:=L5 f K;obtain⟨rfl,S⟩:=gO H;have L:D3 Ora.env (hole m.lg.nx 8)=.bool nul:=by
    obtain⟨p,_⟩:=n9 g1 (by show(8:Nat)<10;omega);cases d:D3 Ora.env (hole m.lg.nx 8)with
    | bool b=>rw[d]at p;cases p;rfl
    | int k n=>rw[d]at p;cases p
    | str s=>rw[d]at p;cases p
    | none=>rw[d]at p;cases p
    | seq _ _ _=>rw[d]at p;cases p
   have f1:ev1 .not (D3 Ora.env (hole m.lg.nx 8))=u:=f1;rw[L]at f1;have f1:U.bool (!nul)=u:=f1;subst f1;cases f3;exact⟨⟨_,zB hu Q (.inr rfl) w,f4 ρ⟩,g2.trans (G7 f),g3.trans hle⟩
  .cases f
 .cases F
def A5I{fr:Fr}{g:Operand->Value}{o:Oper}(h:HR P base ρ m.H w)(E:base<=w.heap.size)(d:dsM P fr m o.op=some (v,m'))(A:J2 ρ m.n m'.hi)(J:FR ρ fr g o.op)(f:Sat m'.lg):NOk P base ρ m w (execOp g o) v m':=by
 obtain⟨dst,op,ty,pos,L,K⟩:=o;simp only at d J;have a:∀ {x},x ∈ op.operands.toList->VR ρ (ev fr x) (g x):=fun hx=>J _ hx
 have fin:∀ {s:Sem Value},(∃ r,s.run P w=.ok r w/\VR ρ v r)->I9 m m'->NOk P base ρ m w (do pure (.value (<- s))) v m':=fun{s} ⟨r,h1,Q⟩ ⟨lg,M⟩=>by
  subst M;exact NOk.of ⟨r,ρ,w,h1,Q,St.wLg h lg⟩
 unfold dsM at d;split at d
 .rename_i t x y;exact NOk.of (WJ h E d A (a (x:=x) (by simp[Op.operands])) (a (x:=y) (by simp[Op.operands])) f).1
 .rename_i t x;obtain⟨g1,g2,_⟩:=WM (w:=w) h d (a (x:=x) (by simp[Op.operands])) f;exact fin (s:=Instr.loadAt t (g x)) g1 g2
 .rename_i t x y;obtain⟨g1,rfl,_⟩:=QG h d A (a (x:=x) (by simp[Op.operands])) (a (x:=y) (by simp[Op.operands])) f;exact NOk.ofU (s:=Instr.storeAt t (g x) (g y)) g1
 .rename_i t x i;obtain⟨g1,g2,_⟩:=HE (w:=w) d (a (x:=x) (by simp[Op.operands])) (a (x:=i) (by simp[Op.operands])) f;exact fin (s:=Instr.indexAt t (g x) (g i)) g1 g2
 .rename_i s x i;obtain⟨g1,rfl⟩:=HV (w:=w) d (a (x:=x) (by simp[Op.operands]));exact fin (s:=Instr.fieldAt s (g x) i) g1 (.refl _)
 .rename_i t x lo hi mx;obtain⟨g1,_⟩:=QJ h d A (a (x:=x) (by simp[Op.operands])) (gT (g:=g) fun y p=>a (by simp[Op.operands]at p ⊢;exact .inr (.inl p))) (gT (g:=g) fun y p=>a (by simp[Op.operands]at p ⊢;exact .inr (.inr (.inl p)))) (gT (g:=g) fun y p=>a (by simp[Op.operands]at p ⊢;exact .inr (.inr (.inr p)))) f;exact NOk.of (s:=Instr.sliceAt t (g x) (lo.map g) (hi.map g) (mx.map g)) g1
 .rename_i s t x;exact NOk.of (ZI h E d A (a (x:=x) (by simp[Op.operands])) f).1
 .rename_i op t x y S;obtain⟨g1,g2,_⟩:=A1A (w:=w) d (a (x:=x) (by simp[Op.operands])) (a (x:=y) (by simp[Op.operands])) f;exact fin (s:=do eqGuard op t x y (g x) (g y);binOp op t (g x) (g y)) g1 g2
 .rename_i xs tys;have l1:=bW (ρ:=ρ) (fr:=fr) (g:=g) (xs:=xs.toList) fun x hx=>a (by show x ∈ (#[]++xs:Array Operand).toList;simpa using hx)
  split at d
  .rename_i x t rest q u;rw[q]at l1;obtain⟨x',r1,C,B,D⟩:=l1.tail
   have:=D.nil_inv;subst this;obtain⟨g1,g2,_⟩:=A1N (w:=w) (ty:=ty) (tys:=rest) d B f;obtain⟨ks,F⟩:∃ ks,execOp g ⟨dst,.call ⟨.builtin .len,xs,tys⟩,ty,pos,L,K⟩=builtin .len tys ty ks (xs.map g):=⟨#[],rfl⟩;have I:xs.map g=⟨xs.toList.map g⟩:=by apply I2;simp
   have G:tys=⟨t::rest⟩:=by rw[<- u]
   rw[F,I,C,G];exact fin (s:=Builtin.len_ ⟨t::rest⟩ ty #[x']) g1 g2
  .cases d
 .rename_i xs tys;have l1:=bW (ρ:=ρ) (fr:=fr) (g:=g) (xs:=xs.toList) fun x hx=>a (by show x ∈ (#[]++xs:Array Operand).toList;simpa using hx)
  split at d
  .rename_i x y t t2 rest q u;rw[q]at l1;obtain⟨x',r1,C,B,D⟩:=l1.tail;obtain⟨y',T,R,N,O⟩:=D.tail
   have:=O.nil_inv;subst this
   have:=MC (ty:=ty) h E d A B N f;obtain⟨ks,F⟩:∃ ks,execOp g ⟨dst,.call ⟨.builtin .append,xs,tys⟩,ty,pos,L,K⟩=builtin .append tys ty ks (xs.map g):=⟨#[],rfl⟩;have I:xs.map g=⟨xs.toList.map g⟩:=by apply I2;simp
   have G:tys=⟨t::t2::rest⟩:=by rw[<- u]
   rw[F,I,C,R,G];have e:Builtin.append_ ⟨t::t2::rest⟩ ty #[x',y']=Builtin.append_ #[t,t2] ty #[x',y']:=rfl;refine NOk.of (s:=Builtin.append_ ⟨t::t2::rest⟩ ty #[x',y']) ?_;rw[e];exact this
  .cases d
 .cases d
def eJ{wd o i t g:Nat}{z:Value}:∀ {a:G5} {j:Nat} {m m':Mem} {r:C9},W1 wd o i t z g a j m=some (r,m')->m.lg.le m'.lg
 | [],j,m,m',r,h=>by cases h;exact .refl _
 | tg::a,j,m,m',r,h=>by
   unfold W1 at h;cases d:Nat.blt tg 10 with
   | true =>
     rw[d]at h;simp only[D8]at h;split at h
     .rename_i f;split at h
      .rename_i hr;cases h;exact(H1 f).trans (eJ hr)
      .cases h
     .cases h
   | false =>
     rw[d]at h;simp only[D4]at h;rw[GT]at h;split at h
     .rename_i hr;cases h;exact U6.trans (eJ hr)
     .cases h
def BG{r:Option (C9×Mem)}(h:kO P t r=some (v,m')):∃ vs,r=some (vs,m'):=by
 unfold kO at h;split at h
 .cases h;exact⟨_,rfl⟩
 .cases h;exact⟨_,rfl⟩
 .cases h
def WN(a:GS P m t x=some (v,m')):m.lg.le m'.lg:=by
 unfold GS at a;split at a
 .obtain⟨_,a⟩:=A3 a;obtain⟨vs,h⟩:=BG a;exact eJ h
 .split at a
  .obtain⟨_,a⟩:=A3 a;obtain⟨vs,h⟩:=BG a;exact eJ h
  .cases a
 .cases a
def QH(a:uS P m t x y=some (v,m')):m.lg.le m'.lg:=by
 unfold uS at a;split at a
 .cases d:gS y with
  | true=>rw[d]at a;cases a
  | false =>
    rw[d]at a;simp only[D4]at a;split at a
    .rename_i f;split at a
     .obtain⟨_,a⟩:=A3 a;split at a
      .rename_i n;rw[M9]at a;simp only[hole]at a;obtain⟨p,_⟩:=lN a;have md:=R1 U0 f;have q:=M2 n;refine md.2.1.trans ?_;rw[(T6 p).2,<- q.2.1];simp only[Z1];exact⟨[_],rfl⟩
      .cases a
     .cases a
    .cases a
 .cases a
def A1V{t:Nat}{k:Value}(h:HG m i t z k=some (v,m')):m.lg.le m'.lg:=by
 unfold HG at h;cases a:!(Nat.blt (G0 z) 8)with
 | true=>rw[a]at h;cases h
 | false =>
   rw[a]at h;simp only[D4]at h;split at h
   .rename_i f;split at h
    .rename_i d;cases h;exact(H1 f).trans (dT d)
    .cases h
   .cases h
def HF(h:kB P m t x z=some (v,m')):m.lg.le m'.lg:=by
 unfold kB at h;split at h;all_goals first
  | (split at h
     .obtain⟨_,h⟩:=A3 h;exact A1V h
     .cases h;done)
  | (split at h
     .obtain⟨_,h⟩:=A3 h;rw[E1]at h;cases h;exact .refl _
     .cases h;done)
  | cases h
def HW{f:Nat}(h:kG P m s x f=some (v,m')):m.lg.le m'.lg:=by
 unfold kG at h;split at h;all_goals first
  | (split at h
     .split at h
      .obtain⟨_,h⟩:=A3 h;rw[E1]at h;cases h;exact .refl _
      .cases h
     .cases h;done)
  | cases h
def DK{t:Nat}(a:ID m b i t cl lo hi mx=some (v,m')):m.lg.le m'.lg:=by
 have go:∀ {m1:Mem} {l h:Value} {cc:Bool},eN m1 b i t l h cc=some (v,m')->m1.lg.le m'.lg:=fun h=>by
  unfold eN at h;obtain⟨_,h⟩:=A3 h;rw[M9]at h;simp only[D0,L2]at h;obtain⟨_,rfl⟩:=h;exact U6
 unfold ID IC at a;split at a
 .exact go a
 .exact go (A3 a).2
 .split at a
  .rename_i d;exact(y8 d).2.trans (go a)
  .cases a
 .cases a
def QK(a:uU P m t x lo hi mx=some (v,m')):m.lg.le m'.lg:=by
 unfold uU at a;split at a
 .split at a
  .exact DK (A3 a).2
  .cases a
 .split at a
  .exact DK (A3 a).2
  .cases a
 .split at a
  .obtain⟨_,a⟩:=A3 a;split at a
   .rename_i d;exact(fC d).2.1.trans (DK a)
   .cases a
  .cases a
 .cases a
def ZJ(a:IH P m s t x=some (v,m')):m.lg.le m'.lg:=by
 unfold IH at a;split at a
 .split at a
  .split at a
   .exact H1 (A3 a).2
   .cases a
  .cases a
 .split at a
  .split at a
   .rename_i d;rw[GZ]at a;have f:=H1 a;exact(fC d).2.1.trans f
   .cases a
  .cases a
 .obtain⟨_,a⟩:=A3 a;split at a
  .split at a
   .split at a
    .rename_i n;rw[M9]at a;simp only[hole]at a;have p:=M2 n;rw[(g7 a).2.1,Z1,<- p.2.1];exact⟨[_],rfl⟩
    .cases a
   .cases a
  .cases a
 .cases a
def A1B{x y:Operand}{a b:Value}(f:VZ P m op t x y a b=some (v,m')):m.lg.le m'.lg:=by
 unfold VZ at f;split at f
 .obtain⟨_,d⟩:=A3 f;clear f;split at d
  .rename_i n;cases d;exact H1 n
  .rename_i n;exact(H1 n).trans (H1 d)
  .cases d
 .cases f
def WK{l c:Value}(a:GM P m t l c=some (v,m')):m.lg.le m'.lg:=by
 unfold GM at a;split at a
 .obtain⟨_,a⟩:=A3 a;split at a
  .obtain⟨_,a⟩:=A3 a;split at a
   .obtain⟨_,a⟩:=A3 a;split at a
    .rename_i d;rw[M9]at a;simp only[hole]at a;have f:=M2 d;rw[(g7 a).2.1,Z1,<- f.2.1];exact⟨[_],rfl⟩
    .cases a
   .cases a
  .cases a
 .cases a
def A5J{fr:Fr}{o:Op}(a:dsM P fr m o=some (v,m')):m.lg.le m'.lg:=by
 unfold dsM at a;split at a
 .exact WK a
 .exact WN a
 .exact QH a
 .exact HF a
 .exact HW a
 .exact QK a
 .exact ZJ a
 .exact A1B a
 .split at a
  .unfold A1O at a;split at a
   .exact(y8 a).2
   .exact(y8 a).2
   .exact(y8 a).2
   .cases a
  .cases a
 .split at a
  .exact(DT a).2.1
  .cases a
 .cases a
end
end
end Go.Sx
