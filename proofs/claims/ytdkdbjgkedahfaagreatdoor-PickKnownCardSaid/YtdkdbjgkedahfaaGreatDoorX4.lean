import Derived.Test.YtdkdbjgkedahfaaGreatDoorX3
set_option linter.all false
set_option maxRecDepth 100000
set_option maxHeartbeats 4000000
namespace Go.Sx
open Go
variable {rows rows2:List (List U)}{b c cap g i j k o o' sh wd:Nat}{e s t t2 ty:TypeId}{inf:TypeInfo}{fz:Nat×Nat}{b' c' l' v x x' y y' z:Value}{l:Loc}{g0 gs:I7}{cl nul sure:Bool}{d2 ds:TypeDesc}{bh:Beh}{cs cs' new' vs:E0}{td:Td}{row us:List U}{hi lo mx:S8}{op:BinOp}
section
open Go
variable [Ora]
section
variable {P:Program} {base:Nat} {ρ ρ':Ren} {m m':Mem} {w w':World}
def Q4.move{R:Nat->Option Obj}{C C':c9}(h:Q4 R rows wd C o)(n:∀ i,i<rows.length*wd->C'[o'+i]? = C[o+i]?):Q4 R rows wd C' o':=by
 refine⟨h.1,fun r row j u v a a2 a3=>h.2 r row j u v a a2 ?_⟩;have f:=(B1.1 a).1;have d:=(B1.1 a2).1;rw[h.1 _ (E6 a)]at d;have p:(r+1)*wd<=rows.length*wd:=G0 wd f;rw[I9]at p
 have:=n (r*wd+j) A0;rw[show o+r*wd+j=o+(r*wd+j) by omega,<- this,show o'+(r*wd+j)=o'+r*wd+j by omega];exact a3
def Q4.append{R:Nat->Option Obj}{C:c9}(h:Q4 R rows wd C o)(k:Q4 R rows2 wd C (o+rows.length*wd)):Q4 R (rows++rows2) wd C o:=by
 refine⟨fun row hr=>(B7.1 hr).elim (h.1 row) (k.1 row),fun r row j u v a a2 a3=>?_⟩;rcases G9 r rows.length with d|d
 .rw[F7 d]at a;exact h.2 r row j u v a a2 a3
 .rw[E9 d]at a;refine k.2 (r-rows.length) row j u v a a2 ?_;have:rows.length*wd+(r-rows.length)*wd=r*wd:=by rw[<- I9];congr 1;omega
  rw[show o+rows.length*wd+(r-rows.length)*wd+j=o+r*wd+j by omega];exact a3
def A6V{t:Nat}{T:TypeId}{lg:Loc}{C:c9}(p:Ora.env c=.seq false wd rows)(q:t=10+wd)(hi:P.info? T=some inf)(r:inf.size=wd)(f:rows.length<=cap)(d:sh+cap*wd<=C.size)
  (a:Q4 lg.G rows wd C sh) (u:ρ g=some lg) (hw:w.heap[b]? = some (.cells C T fz)) (n:∀ i,i<C.size->¬ (fz.1<=i/\i<fz.2)):BR P ρ (.sq c t T g false) ⟨b,sh,cap,rows.length,fun _=>none,true⟩ w :=
 ⟨⟨wd,inf,q,hi,r,.inr ⟨rfl,C,fz,T,rows,lg,hw,p,rfl,f,d,a.1,u,a.2,fun _=>⟨rfl,n⟩⟩⟩⟩
def eG{t:Nat}{T:TypeId}{lg:Loc}{C:c9}(h:HR P base ρ m.H w)(D:base<=w.heap.size)(A:dG m c t T g=some (v,m'))(u:L1 ρ m.n m'.hi)
  (p:Ora.env c=.seq false wd rows) (B:t=10+wd) (hi:P.info? T=some inf) (K:inf.size=wd) (a:rows.length<=cap) (q:cap*wd<=C.size) (d:Q4 lg.G rows wd C 0) (I:ρ g=some lg) (r:∀ i,i<C.size->¬ (fz.1<=i/\i<fz.2))
  (J:w'.os=w.os/\w'.tape=w.tape/\w'.output=w.output) (hh:w'.heap=w.heap.push (.cells C T fz)):∃ ρ',VR ρ' v (.slice (some ⟨w.heap.size,0,none⟩) rows.length cap)/\St P base ρ ρ' m m' w w':=by
 have f:ρ m.n=none:=by
  obtain⟨_,_,rfl⟩:=N0 A;exact u m.n (A7 _) (L8 _ _).2
 obtain⟨rfl,F,E⟩:=St.alloc (w':=w') (l:=⟨w.heap.size,0,cap,rows.length,fun _=>none,true⟩) h D A u J hh rfl (A6V p B hi K a A0 d (i0 f _ _ I) (by rw[hh];simp) r);exact⟨_,.own (.inr ⟨_,wd,rows,F,rfl,p,rfl,a,rfl⟩) (by rw[p];exact B.symm) rfl,E⟩
def qY{t id:Nat}{T:TypeId}{ab:AB}{lg:Loc}{C:c9}(h:HR P base ρ m.H w)(hle:id<=J0)(A:Hp.get m.H id=some ab)(F:ab.rw=true)(L:ρ id=some l)(r:l.on=true)
  (J:dG (mL m id) c t T g=some (v,m')) (I:L1 ρ m.n m'.hi)
  (u:Ora.env c=.seq false wd rows) (K:t=10+wd) (hi:P.info? T=some inf) (R:inf.size=wd) (a:rows.length<=cap) (d:sh+cap*wd<=C.size) (f:Q4 lg.G rows wd C sh) (O:ρ g=some lg) (E:∀ i,i<C.size->¬ (fz.1<=i/\i<fz.2))
  (Q:w'.os=w.os/\w'.tape=w.tape/\w'.output=w.output) (B:w'.heap.size=w.heap.size) (S:∀ k,k≠l.blk->w'.heap[k]? = w.heap[k]?) (hw:w'.heap[l.blk]? = some (.cells C T fz)) :
  ∃ ρ',VR ρ' v (.slice (some ⟨l.blk,sh,none⟩) rows.length cap)/\St P base ρ ρ' m m' w w':=by
 have p:ρ m.n=none:=by
  have q:=J;unfold dG at q;rw[aV]at q;obtain⟨_,_,rfl⟩:=N0 q;exact I m.n (A7 _) (L8 _ _).2
 obtain⟨rfl,N,M⟩:=St.move (w':=w') (l':=⟨l.blk,sh,cap,rows.length,fun _=>none,true⟩) h hle A F L J I (fun _=>⟨r,rfl⟩) Q B (fun k D=>S k (D r)) (A6V u K hi R a d f (i0 p _ _ O) hw E) (fun h=>by cases h);exact⟨_,.own (.inr ⟨_,wd,rows,N,rfl,u,rfl,a,rfl⟩) (by rw[u];exact K.symm) rfl,M⟩
def A5r:Loc:=⟨0,0,0,0,fun _=>none,false⟩
def EN{t:Nat}{T:TypeId}{old:Option Nat}(h:HR P base ρ m.H w)(hold:∀ b,old=some b->∃ ab l,b<=J0/\Hp.get m.H b=some ab/\ab.rw=true/\ρ b=some l/\l.on=false)
  (B:dG (mJ old m) c t T g=some (v,m')) (A:L1 ρ m.n m'.hi) (a:Ora.env c=.seq true wd []) (u:t=10+wd) (hi:P.info? T=some inf) (F:inf.size=wd):∃ ρ',VR ρ' v (.slice none 0 0)/\St P base ρ ρ' m m' w w:=by
 have d:∀ ρ':Ren,BR P ρ' (.sq c t T g false) A5r w:=fun ρ'=>⟨⟨wd,inf,u,hi,F,.inl ⟨rfl,a⟩⟩⟩
 cases old with
 | none =>
   obtain⟨rfl,r,p⟩:=St.new0 (l':=A5r) h B A (d _) rfl fun q f=>by
    rcases f with⟨_,f,_⟩|⟨f,_⟩<;>cases f
   exact⟨_,.own (.inl ⟨_,wd,r,rfl,a,rfl⟩) (by rw[a];exact u.symm) rfl,p⟩
 | some b =>
   obtain⟨ab,l,C,E,h3,D,G⟩:=hold b rfl;obtain⟨rfl,r,p⟩:=St.move (w':=w) (l':=A5r) h C E h3 D B A (fun h=>by cases h) ⟨rfl,rfl,rfl⟩ rfl (fun _ _=>rfl) (d _) (fun h=>by cases h);exact⟨_,.own (.inl ⟨_,wd,r,rfl,a,rfl⟩) (by rw[a];exact u.symm) rfl,p⟩
def uZ(h:HR P base ρ m.H w)(a:mM gs m=some (g,m'))(u:L1 ρ m.n m'.hi)(d:ρ j=some l):Hp.get m'.H j=Hp.get m.H j:=by
 have main:∀ {gs:I7},(bif gs.all (rE m)then match jN m fun b m=>some (undef,b,m)with
  | some (_,b,m)=>some (b,m)
  | none=>none else none)=some (g,m')->Hp.get m'.H j=Hp.get m.H j:=fun{gs} a=>by
  obtain⟨A,a⟩:=A3 a;split at a
  .rename_i r b m1 p;cases a;obtain⟨m2,f,q,_⟩:=T5 p;cases q;rw[nQ f (h.dom j l d),A9];intro e;subst e;obtain⟨_,_,rfl⟩:=N0 f;rw[u m.n (A7 _) (L8 _ _).2]at d;cases d
  .cases a
 unfold mM at a;split at a
 .obtain⟨A,a⟩:=A3 a;cases a;rfl
 .exact main a
def P0(a:mM gs m=some (g,m')):m.hi<=m'.hi/\m'.lg=m.lg/\m.n<=m'.n:=by
 have main:∀ {gs:I7},(bif gs.all (rE m)then match jN m fun b m=>some (undef,b,m)with
  | some (_,b,m)=>some (b,m)
  | none=>none else none)=some (g,m')->m.hi<=m'.hi/\m'.lg=m.lg/\m.n<=m'.n:=fun{gs} a=>by
  obtain⟨q,a⟩:=A3 a;split at a
  .rename_i r b m1 d;cases a;obtain⟨m2,p,f,_⟩:=T5 d;cases f;obtain⟨_,_,rfl⟩:=N0 p;exact⟨(L8 _ _).1,rfl,x6 _⟩
  .cases a
 unfold mM at a;split at a
 .obtain⟨q,a⟩:=A3 a;cases a;exact⟨A7 _,rfl,A7 _⟩
 .exact main a
def A7z(nul:Bool)(wd:Nat)(rows:List (List U)):List (List U)->U
 | []=>.seq nul wd rows
 | r0::r=>.seq false wd (rows++r0::r)
def NL(h:∃ n w r,oI nul wd rows rows2=.seq n w r):rows.length+rows2.length<=vR/\oI nul wd rows rows2=A7z nul wd rows rows2:=by
 by_cases a:rows.length+rows2.length<=vR
 .refine⟨a,?_⟩;unfold oI;rw[B0 a];cases rows2<;>rfl
 .unfold oI at h;rw[A9 a]at h;obtain⟨_,_,_,h⟩:=h;cases h
def RU{old:Option Nat} 
  (hu:P.underlying t=some (.slice e)) (Z:P.underlying t2=some d2) (W:eS d2=true) (hi:P.info? e=some inf) (hz:iC P e=some z) (aa:z.cells.size=inf.size) (bj:inf.bytes<=90000)
  (h:HR P base ρ m.H w) (hb:base<=w.heap.size) (E:LE m e inf.size c old bh (g0++gs)=some (v,m')) (hf:L1 ρ m.n m'.hi) (hS:Sat m'.lg)
  (ak:A1w P base ρ m w e inf.size c g0 old x') (d:WM P ρ w inf.size bh gs y' rows2 new'):VOk P base ρ m w (Builtin.append_ #[t,t2] ty #[x',y']) v m':=by
 unfold LE at E;split at E
 .rename_i g m1 hj;rw[P5]at E;have bq:=P0 hj;generalize bo:hZ m1 (10+inf.size) (fB inf.size (hole c (10+inf.size)) bh).1 (fB inf.size (hole c (10+inf.size)) bh).2=lg1 at E;have bw:m'.lg=lg1/\m1.hi<=m'.hi/\m1.n<=m'.n:=by
   unfold dG at E;cases old with
   | none =>
     simp only[mJ]at E;obtain⟨_,_,rfl⟩:=N0 E;exact⟨by simp,by simpa using(L8 m1.hi m1.n).1,by simp⟩
   | some b =>
     simp only[mJ,aV]at E;obtain⟨_,_,rfl⟩:=N0 E;exact⟨by simp,by simpa using(L8 m1.hi m1.n).1,by simp⟩
  have al:L1 ρ m.n m1.hi:=hf.less bw.2.1;obtain⟨O,lg,e1,e2,e3,e4,e5,e6⟩:=gJ h hj al;have p:St P base ρ O m (m1.wLg lg1) w w:=St.trans (by simpa using al) e1 (St.wLg e1.hr lg1);have F:L1 O (m1.wLg lg1).n m'.hi:=by simpa using hf.step e1
  have bk:Sat (m1.wLg lg1).lg:=by simpa [<- bw.1]using hS
  obtain⟨nul,rows,hc,hx⟩:=ak.ex;obtain⟨d1,d2,nx,bs,rws,d3,d4⟩:=mN (m:=m1) (t:=10+inf.size) (op:=(fB inf.size (hole c (10+inf.size)) bh).1) (xs:=(fB inf.size (hole c (10+inf.size)) bh).2) (lg:=lg1) (by simpa using bk) (by rw[aH,bo];exact .refl _);rw[d.ev c nul rows hc]at d1;obtain⟨ar,bx⟩:=NL ⟨nx,bs,rws,d1.symm.trans d3⟩;rw[bx]at d1;have bm:∀ b ∈ g0,∀ l,ρ b=some l->Sub l.G lg.G:=fun b R l hl=>e6 b (B7.2 (.inl R)) l hl
  have bl:∀ b ∈ gs,∀ l,ρ b=some l->Sub l.G lg.G:=fun b R l hl=>e6 b (B7.2 (.inr R)) l hl
  have aq:=d.rows lg.G bl;have B:∀ {v':Value} {ρ2:Ren} {w2:World},(Builtin.append_ #[t,t2] ty #[x',y']).run P w=.ok v' w2->VR ρ2 v v'->St P base O ρ2 (m1.wLg lg1) m' w w2->VOk P base ρ m w (Builtin.append_ #[t,t2] ty #[x',y']) v m':=fun hr hv hs =>
   ⟨_,_,_,hr,hv,St.trans hf p hs⟩
  have af:∀ w,(zeroValue e).run P w=.ok z w:=fun w=>cI hz w
  have ax:∀ {j l},ρ j=some l->Hp.get (m1.wLg lg1).H j=Hp.get m.H j:=fun bn=>by rw[mY];exact uZ h hj al bn
  have K:(3*(rows.length+rows2.length)+4000)*inf.bytes<=281474976710656:=by
   have h1:3*(rows.length+rows2.length)+4000<=3000004000:=by unfold vR at ar;omega
   have h2:=oT h1 bj;omega
  have S:rows.length+rows2.length<=1000000000:=ar;rcases hx with⟨rfl,rfl,rfl,hold⟩|⟨rfl,b,ab,l,cap,C,fz,rfl,an,bp,T,bz,ag,rfl,J,aw,V,X,ad⟩
  ·
   have Y:∀ b,old=some b->∃ ab l,b<=J0/\Hp.get (m1.wLg lg1).H b=some ab/\ab.rw=true/\O b=some l/\l.on=false:=fun b R=>by
    obtain⟨ab,l,I,M,q3,q4,q5⟩:=hold b R;exact⟨ab,l,I,by rw[ax q4];exact M,q3,e1.ext _ _ q4,q5⟩
   cases f:rows2 with
   | nil =>
     subst f;have D:Ora.env m1.lg.nx=.seq true inf.size []:=d1;obtain⟨ρ2,I,M⟩:=EN p.hr Y E F D rfl hi rfl;have aj:new'=[]:=H3.1 (by rw[d.size];simp);exact B (wH hu Z W hi (fun wd=>d.len wd) (by have:=d.first w rfl;rw[aj]at this;exact this)) I M
   | cons r0 rr =>
     rw[f]at d1;have D:Ora.env m1.lg.nx=.seq false inf.size rows2:=by rw[f];exact d1
     obtain⟨nc,ay,q⟩:=kB (P:=P) (w:=w) (ty:=ty) (a:=none) (n:=0) (c:=0) (k:=rows2.length) (old':=[]) (new':=new') (x':=y') hu Z W hi af (fun wd=>d.len wd) (fun _ _=>rfl) (fun wd hw=>d.first wd hw) (by rw[f];simp) (by simpa using K) (by simpa using S);obtain⟨m2,br,az⟩:∃ m2,dG m2 m1.lg.nx (10+inf.size) e g=some (v,m')/\St P base O O (m1.wLg lg1) m2 w w:=by
      cases old with
      | none=>exact⟨_,E,St.refl p.hr⟩
      | some b =>
        obtain⟨ab,l,I,M,q3,q4,q5⟩:=Y b rfl;exact⟨_,E,St.kill p.hr I M q3⟩
     obtain⟨ρ2,I,M⟩:=eG (w':={ w.drew with heap:=w.heap.push (.cells (({ toList:=[] }:Array Value)++⟨new'⟩++Builtin.zeroCells z.cells (nc-(0+rows2.length))) e (0,0)) }) (cap:=nc) az.hr hb br (F.step az) D rfl hi rfl A0
      (by have:=fO (s:=inf.size) (k:=rows2.length) (n:=0) (nc:=nc) (z:=z) (old':=[]) d.size ay aa (by simp);exact this)
      (aq.move (C':=({ toList:=[] }:Array Value)++⟨new'⟩++Builtin.zeroCells z.cells (nc-(0+rows2.length))) (o':=0) fun i hi'=>by
        have bu:i<new'.length:=by rw[d.size];exact hi'
        rw[F9 i];rw[MS (A6 bu)];simp[bu]) (az.ext _ _ e4) (fun i _ hh=>by have h1:0<=i:=hh.1;have h2:i<0:=hh.2;omega) ⟨rfl,rfl,rfl⟩ rfl
     exact B q (by rw[F9];exact I) (St.trans F az M)
  ·
   have ao:Hp.get (m1.wLg lg1).H b=some ab:=by rw[ax bz];exact bp
   have r:=ad lg.G bm;have av:=e1.ext _ _ bz;cases f:rows2 with
   | nil =>
     subst f;have D:Ora.env m1.lg.nx=.seq false inf.size rows:=d1;have aj:new'=[]:=H3.1 (by rw[d.size];simp);obtain⟨ρ2,I,M⟩:=qY (w':=w) (cap:=cap) (sh:=l.sh) p.hr an ao T av ag E F D rfl hi rfl aw V r e4 X ⟨rfl,rfl,rfl⟩ rfl (fun _ _=>rfl) J;have q:=pB (P:=P) (w:=w) (w':=w) (ty:=ty) (a:=⟨l.blk,l.sh,none⟩) (n:=rows.length) (k:=0) (c:=cap) (new':=new') hu Z W hi (fun wd=>d.len wd) (d.first w rfl) A0 (by rw[aj];rfl);exact B q I M
   | cons r0 rr =>
     have D:Ora.env m1.lg.nx=.seq false inf.size (rows++rows2):=by rw[f]at d1 ⊢;exact d1
     by_cases L:rows.length+rows2.length<=cap
     .have au:(rows.length+rows2.length)*inf.size<=cap*inf.size:=G0 _ L;rw[I9]at au;obtain⟨w',r1,r2,r3,r4,r5⟩:=w6 (P:=P) (b:=l.blk) (o:=rows.length*inf.size+l.sh) (fz:=fz) new' 0 C w J d.flat (by rw[d.size];omega) X;have ae:(Addr.mk l.blk l.sh none).add (rows.length*inf.size)=⟨l.blk,rows.length*inf.size+l.sh,none⟩:=by
       unfold Addr.add;split
       .rename_i h0;rw[h0];simp
       .simp[fM]
      have q:=pB (P:=P) (w:=w) (w':=w') (ty:=ty) (a:=⟨l.blk,l.sh,none⟩) (n:=rows.length) (k:=rows2.length) (c:=cap) (new':=new') hu Z W hi (fun wd=>d.len wd) (d.first w rfl) L (by rw[ae];exact r1);have Q:(Array.mk (eE C.toList (rows.length*inf.size+l.sh+0) new')).size=C.size:=by simp[w7]
      have ah:∀ j,(Array.mk (eE C.toList (rows.length*inf.size+l.sh+0) new'))[j]? = if rows.length*inf.size+l.sh<=j/\j<rows.length*inf.size+l.sh+new'.length then new'[j-(rows.length*inf.size+l.sh)]? else C[j]? := fun j=>by
       rw[K6,nN _ _ _ _ (by simp;rw[d.size];omega)];simp
      obtain⟨ρ2,I,M⟩:=qY (w':=w') (cap:=cap) (sh:=l.sh) (C:=⟨eE C.toList (rows.length*inf.size+l.sh+0) new'⟩) p.hr an ao T av ag E F D rfl hi rfl (by simpa using L) (by rw[Q];exact V)
       (Q4.append (r.move (o':=l.sh) fun i hi'=>by rw[ah,A9 A0]) (aq.move (o':=l.sh+rows.length*inf.size) fun i hi'=>by
         rw[ah,B0 (by rw[d.size];omega),show l.sh+rows.length*inf.size+i-(rows.length*inf.size+l.sh)=i by omega,F9];simp)) e4 (by rw[Q];exact X) r2 r3 r5 r4
      rw[A4]at I;exact B q I M
     .have hold:∃ old',old'.length=rows.length*inf.size/\(∀ i,i<rows.length*inf.size->old'[i]? = C[l.sh+i]?)/\∀ wd:World,wd.heap=w.heap->(Builtin.firstCells inf.size rows.length (.slice (some ⟨l.blk,l.sh,none⟩) rows.length cap)).run P wd=.ok ⟨old'⟩ wd:=by
       have au:rows.length*inf.size<=cap*inf.size:=G0 _ aw;have hlen:((C.toList.drop l.sh).take (rows.length*inf.size)).length=rows.length*inf.size:=by simp;omega
       refine⟨(C.toList.drop l.sh).take (rows.length*inf.size),hlen,fun i hi'=>?_,fun wd hw=>?_⟩
       .rw[G6 hi',J2];simp
       .rw[show Builtin.firstCells inf.size rows.length (.slice (some ⟨l.blk,l.sh,none⟩) rows.length cap)=loadCells ⟨l.blk,l.sh,none⟩ (rows.length*inf.size)from rfl];refine L2 hlen fun j v' hj=>?_
        have ai:=(B1.1 hj).1;rw[hlen]at ai;rw[G6 ai,J2]at hj;rw[dQ hw];have bt:C[l.sh+j]? = some v':=by simpa using hj
        simp[World.cell?,J,bt]
      obtain⟨old',o1,o2,o3⟩:=hold;obtain⟨nc,ay,q⟩:=kB (P:=P) (w:=w) (ty:=ty) (a:=some ⟨l.blk,l.sh,none⟩) (n:=rows.length) (c:=cap) (k:=rows2.length) (old':=old') (new':=new') (x':=y') hu Z W hi af (fun wd=>d.len wd) o3 (fun wd hw=>d.first wd hw) L K S;have A:=St.kill p.hr an ao T;obtain⟨ρ2,I,M⟩:=eG (w':={ w.drew with heap:=w.heap.push (.cells (({ toList:=old' }:Array Value)++⟨new'⟩++Builtin.zeroCells z.cells (nc-(rows.length+rows2.length))) e (0,0)) }) (cap:=nc) A.hr hb E (F.step A) D rfl hi rfl (by simpa using ay)
       (fO d.size ay aa o1)
       (Q4.append (r.move (C':=({ toList:=old' }:Array Value)++⟨new'⟩++Builtin.zeroCells z.cells (nc-(rows.length+rows2.length))) (o':=0) fun i hi'=>by
         have N:i<old'.length:=by rw[o1];exact hi'
         rw[F9 i,<- o2 i hi',fP (u:=old'[i]) (by rw[F7 N,A6 N]),A6 N]) (aq.move (o':=0+rows.length*inf.size) fun i hi'=>by
         have N:i<new'.length:=by rw[d.size];exact hi'
         rw[F9 (rows.length*inf.size),F9 i,fP (u:=new'[i]) (by rw[E9 (by rw[o1];omega),o1,d7,A6 N])];simp[N])) (A.ext _ _ e4) (fun i _ hh=>by have h1:0<=i:=hh.1;have h2:i<0:=hh.2;omega) ⟨rfl,rfl,rfl⟩ rfl
      rw[A4]at I;exact B q I (St.trans F A M)
 .cases E
end
end
section
open Go
variable [Ora]
section
variable {P:Program} {base:Nat} {ρ ρ':Ren} {m m':Mem} {w w':World}
def A2D{a:Addr} 
  (hu:P.underlying t=some (.slice e)) (ar:P.underlying t2=some d2) (az:eS d2=true) (hi:P.info? e=some inf) (hz:iC P e=some z) (Z:z.cells.size=inf.size) (au:inf.bytes<=90000)
  (h:HR P base ρ m.H w) (hb:base<=w.heap.size) (q:LE m e inf.size c none bh (b::gs)=some (v,m')) (hf:L1 ρ m.n m'.hi) (hS:Sat m'.lg)
  (hc:Ora.env c=.seq false inf.size rows) (Y:ρ b=some l) (C:Enc l.G (Ora.env c) (.slice (some a) rows.length rows.length)) (d:WM P ρ w inf.size bh gs y' rows2 new') (p:rows2≠[]) :
  VOk P base ρ m w (Builtin.append_ #[t,t2] ty #[.slice (some a) rows.length rows.length,y']) v m':=by
 unfold LE at q;split at q
 .rename_i g m1 O;rw[P5]at q;have W:=P0 O;generalize X:hZ m1 (10+inf.size) (fB inf.size (hole c (10+inf.size)) bh).1 (fB inf.size (hole c (10+inf.size)) bh).2=lg1 at q;have q:dG (m1.wLg lg1) m1.lg.nx (10+inf.size) e g=some (v,m'):=q;have L:m'.lg=lg1/\m1.hi<=m'.hi/\m1.n<=m'.n:=by
   unfold dG at q;obtain⟨_,_,rfl⟩:=N0 q;exact⟨by simp,by simpa using(L8 m1.hi m1.n).1,by simp⟩
  have I:L1 ρ m.n m1.hi:=hf.less L.2.1;obtain⟨M,lg,N,e2,e3,e4,e5,e6⟩:=gJ h O I;have A:St P base ρ M m (m1.wLg lg1) w w:=St.trans (by simpa using I) N (St.wLg N.hr lg1);have T:L1 M (m1.wLg lg1).n m'.hi:=by simpa using hf.step N
  have av:Sat (m1.wLg lg1).lg:=by simpa [<- L.1]using hS
  obtain⟨d1,d2,nx,V,rws,d3,d4⟩:=mN (m:=m1) (t:=10+inf.size) (op:=(fB inf.size (hole c (10+inf.size)) bh).1) (xs:=(fB inf.size (hole c (10+inf.size)) bh).2) (lg:=lg1) (by simpa using av) (by rw[aH,X];exact .refl _);rw[d.ev c false rows hc]at d1;obtain⟨B,J⟩:=NL ⟨nx,V,rws,d1.symm.trans d3⟩;rw[J]at d1;have ay:Sub l.G lg.G:=e6 b (.head _) l Y;have ax:∀ b ∈ gs,∀ l,ρ b=some l->Sub l.G lg.G:=fun b R l Y=>e6 b (.tail _ R) l Y
  have Q:=d.rows lg.G ax;have S:∀ w,(zeroValue e).run P w=.ok z w:=fun w=>cI hz w
  have r:(3*(rows.length+rows2.length)+4000)*inf.bytes<=281474976710656:=by
   have h1:3*(rows.length+rows2.length)+4000<=3000004000:=by unfold vR at B;omega
   have h2:=oT h1 au;omega
  have D:rows.length+rows2.length<=1000000000:=B;have aq:0<rows2.length:=List.length_pos_iff.2 p;have aw:Ora.env m1.lg.nx=.seq false inf.size (rows++rows2):=by
   cases rows2 with
   | nil=>exact absurd rfl p
   | cons r0 rr=>exact d1
  rw[hc]at C;obtain⟨_,old',E,o2,o3,o4⟩:=vL (w:=w) (C.mono ay) ((N.hr.atl e4 e5).1.2);have o5:∀ wd:World,wd.heap=w.heap->(Builtin.firstCells inf.size rows.length (.slice (some a) rows.length rows.length)).run P wd=.ok ⟨old'⟩ wd:=fun wd hw=>by
   rw[show Builtin.firstCells inf.size rows.length (.slice (some a) rows.length rows.length)=loadCells a (rows.length*inf.size)from rfl];exact nW E fun j v' O=>by rw[dQ hw];exact o4 j v' O
  obtain⟨nc,K,F⟩:=kB (P:=P) (w:=w) (ty:=ty) (a:=some a) (n:=rows.length) (c:=rows.length) (k:=rows2.length) (old':=old') (new':=new') (x':=y') hu ar az hi S (fun wd=>d.len wd) o5 (fun wd hw=>d.first wd hw) A0 r D;obtain⟨ρ2,q1,q2⟩:=eG (w':={ w.drew with heap:=w.heap.push (.cells (({ toList:=old' }:Array Value)++⟨new'⟩++Builtin.zeroCells z.cells (nc-(rows.length+rows2.length))) e (0,0)) }) (cap:=nc) A.hr hb q T aw rfl hi rfl (by simpa using K)
   (fO d.size K Z E)
   (Q4.append (o3.move (C':=({ toList:=old' }:Array Value)++⟨new'⟩++Builtin.zeroCells z.cells (nc-(rows.length+rows2.length))) (o':=0) fun i hi'=>by
     have f:i<old'.length:=by rw[E];exact hi'
     rw[F9 i,fP (u:=old'[i]) (by rw[F7 f,A6 f])];simp[f]) (Q.move (o':=0+rows.length*inf.size) fun i hi'=>by
     have f:i<new'.length:=by rw[d.size];exact hi'
     rw[F9 (rows.length*inf.size),F9 i,fP (u:=new'[i]) (by rw[E9 (by rw[E];omega),E,d7,A6 f])];simp[f])) e4 (fun i _ hh=>by have h1:0<=i:=hh.1;have h2:i<0:=hh.2;omega) ⟨rfl,rfl,rfl⟩ rfl
  rw[A4]at q1;exact⟨_,_,_,F,q1,St.trans hf A q2⟩
 .cases q
def WH(d:CC P td)(a:A1e td P m e wd y=some (bh,gs,sure,m')):m.hi<=m'.hi/\m.lg.le m'.lg/\m.n<=m'.n:=by
 unfold A1e at a;split at a
 .cases a;exact⟨A7 _,.refl _,A7 _⟩
 .split at a
  .split at a
   .rename_i f;cases a;exact V8 d f
   .cases a
  .cases a
 .split at a
  .rename_i f;cases a;exact d.mono f
  .cases a
 .obtain⟨p,a⟩:=A3 a;cases a;exact⟨A7 _,.refl _,A7 _⟩
def mA(d:CC P td){old:Option Nat}(a:FY td P m e wd x=some (c,gs,old,m')):m.hi<=m'.hi/\m.lg.le m'.lg/\m.n<=m'.n:=by
 unfold FY at a;split at a
 .rw[P5]at a;simp only[hole]at a;cases a;exact⟨by simp,Z8,by simp⟩
 .split at a
  .obtain⟨f,a⟩:=A3 a;cases a;exact⟨A7 _,.refl _,A7 _⟩
  .cases a
 .split at a
  .obtain⟨f,a⟩:=A3 a;split at a
   .rename_i p;split at a
    .obtain⟨f,a⟩:=A3 a;rw[P5]at a;simp only[hole]at a;cases a
     have:=V8 d p;exact⟨by simpa using this.1,this.2.1.trans Z8,by simpa using this.2.2⟩
    .cases a
   .cases a
  .cases a
 .cases a
def bL{t:Nat}{T:TypeId}(h:dG m c t T g=some (v,m')):m.hi<=m'.hi/\m'.lg=m.lg/\m.n<=m'.n:=by
 unfold dG at h;obtain⟨_,_,rfl⟩:=N0 h;exact⟨(L8 _ _).1,rfl,x6 _⟩
def dO(old:Option Nat)(m:Mem):(mJ old m).hi=m.hi/\(mJ old m).lg=m.lg/\(mJ old m).n=m.n:=by
 cases old with
 | none=>exact⟨rfl,rfl,rfl⟩
 | some b=>simp[mJ,aV]
def pD{old:Option Nat}(d:LE m e wd c old bh gs=some (v,m')):m.hi<=m'.hi/\m.lg.le m'.lg/\m.n<=m'.n:=by
 unfold LE at d;split at d
 .rename_i g m1 r;rw[P5]at d;have a:=P0 r;have b:=bL d;obtain⟨q,f,p⟩:=dO old (m1.wLg (hZ m1 (10+wd) (fB wd (hole c (10+wd)) bh).1 (fB wd (hole c (10+wd)) bh).2));refine⟨?_,?_,?_⟩
  .have:=b.1;rw[q]at this;simp at this;omega
  .rw[b.2.1,f,<- a.2.1];exact Z8
  .have:=b.2.2;rw[p]at this;simp at this;omega
 .cases d
def PU{t:Nat}{T:TypeId}{old:Option Nat}(h:HR P base ρ m.H w)(hold:∀ b,old=some b->b<=J0/\Hp.get m.H b≠some .frz)(p:dG (mJ old m) c t T g=some (v,m'))(r:L1 ρ m.n m'.hi):aX ρ m m':=fun j l a d=>by
 have q:=dO old m;unfold dG at p;rw[nQ p (h.dom j l a),A9]
 .cases old with
  | none=>exact d
  | some b =>
    show Hp.get (mL m b).H j=_;rw[aV];show Hp.get (m.H.set b none) j=_;obtain⟨u,f⟩:=hold b rfl;rw[F6 _ _ _ _ u (h.dom j l a),A9]
    .exact d
    .intro e;subst e;exact f d
 .intro e;obtain⟨_,_,rfl⟩:=N0 p;rw[q.2.2]at e;subst e;rw[r m.n (A7 _) (Nat.lt_of_le_of_lt (Nat.le_of_eq q.2.2.symm) (L8 (mJ old m).hi (mJ old m).n).2)]at a;cases a
omit [Ora] in
def PG(h:P.info? e=some inf):I2 P e=some inf.size:=by unfold I2;rw[h]
def EJ(f:CC P td)(d:VH td P m e wd x=some (v,m')):m.hi<=m'.hi/\m.lg.le m'.lg/\m.n<=m'.n:=by
 unfold VH at d;split at d
 .obtain⟨_,d⟩:=A3 d;split at d
  .rename_i q;have a:=mA f q;split at d
   .rename_i p;have b:=P0 p;have c:=bL d;refine⟨?_,?_,?_⟩
    .have:=c.1;rw[(dO _ _).1]at this;omega
    .rw[c.2.1,(dO _ _).2.1,b.2.1];exact a.2.1
    .have:=c.2.2;rw[(dO _ _).2.2]at this;omega
   .cases d
  .cases d
 .cases d
def RX(X:CC P td)(h:HR P base ρ m.H w)(d:VH td P m e wd x=some (v,m'))(hf:L1 ρ m.n m'.hi)(hx:VR ρ x x')(hS:Sat m'.lg) :
  ∃ ρ',VR ρ' v x'/\St P base ρ ρ' m m' w w/\m.lg.le m'.lg/\aX ρ m m':=by
 unfold VH at d;split at d
 .rename_i inf hi;obtain⟨D,d⟩:=A3 d;obtain⟨D,h2⟩:=B3 D;have D:=A1 D;have h2:0<wd:=A2 h2;split at d
  .rename_i c gs old m1 O;have a:=mA X O;split at d
   .rename_i g m2 hj;have b:=P0 hj;have cm:=bL d;have k1:=dO old m2;have V:m'.lg=m1.lg:=by rw[cm.2.1,k1.2.1,b.2.1]
    have J:m2.hi<=m'.hi:=by have:=cm.1;rw[k1.1]at this;exact this
    obtain⟨Z,E,e2,e3,e4⟩:=NX X h O (hf.less (C3 b.1 J)) hx (by rw[<- V];exact hS) h2 (D▸PG hi);have p:L1 Z m1.n m'.hi:=hf.step E;obtain⟨ρ2,lg,u,j2,j3,j4,j5,j6⟩:=gJ E.hr hj (p.less J);have F:L1 ρ2 m2.n m'.hi:=p.step u;obtain⟨nul,rows,hc,aw⟩:=e4.ex;have A:∀ {j l},Z j=some l->Hp.get m2.H j=Hp.get m1.H j:=fun ax=>uZ E.hr hj (p.less J) ax
    have hle:m.lg.le m'.lg:=by rw[V];exact a.2.1
    have q:(∀ b,old=some b->b<=J0/\Hp.get m2.H b≠some .frz)->aX ρ m m':=fun hq=>(e3.trans E.ext j3).trans (fun b l O=>u.ext b l (E.ext b l O)) (PU u.hr hq d F)
    rcases aw with⟨rfl,rfl,rfl,hold⟩|⟨rfl,b0,ab,l,cap,C,fz,rfl,T,ay,B,W,az,rfl,L,R,M,Y,S⟩
    .have r:∀ b,old=some b->∃ ab l,b<=J0/\Hp.get m2.H b=some ab/\ab.rw=true/\ρ2 b=some l/\l.on=false:=fun b f=>by
      obtain⟨ab,l,K,N,q3,q4,q5⟩:=hold b f;exact⟨ab,l,K,by rw[A q4];exact N,q3,u.ext _ _ q4,q5⟩
     obtain⟨I,K,N⟩:=EN u.hr r d F hc rfl hi D;exact⟨I,K,St.trans hf E (St.trans p u N),hle,q fun b f=>by
      obtain⟨ab,l,K,N,q3,_⟩:=r b f;exact⟨K,fun he=>by rw[N]at he;cases he;cases q3⟩⟩
    .have Q:Hp.get m2.H b0=some ab:=by rw[A W];exact ay
     obtain⟨I,K,N⟩:=qY (w':=w) (cap:=cap) (sh:=l.sh) u.hr T Q B (u.ext _ _ W) az d F hc rfl hi D R M (S lg.G fun b O l hl=>j6 b O l hl) j4 Y ⟨rfl,rfl,rfl⟩ rfl (fun _ _=>rfl) L;exact⟨I,K,St.trans hf E (St.trans p u N),hle,q fun b f=>by
      cases f;exact⟨T,fun he=>by rw[Q]at he;cases he;cases B⟩⟩
   .cases d
  .cases d
 .cases d
def RD:∀ (d:Nat),CC P (YG P d)
 | 0=>YH
 | d+1=>by
   have A:=RD d;refine⟨fun{base ρ m m' w t v v' x b} h f p u q=>?_,fun{m m' t v x b} f=>?_⟩
   .unfold YG at f;split at f
    .split at f
     .split at f
      .rename_i D m1 r;have a:=jX f;obtain⟨F,E,n,B,C⟩:=RX A h r (p.less a.1) u (q.le a.2.1);obtain⟨ρ2,l,d1,d2,d3,d4,d5,d6⟩:=GS n.hr f (p.step n) E q;exact⟨ρ2,l,St.trans p n d1,d2,d3,d4,d5,B.trans d6,C.trans n.ext (JX n.hr f (p.step n))⟩
      .cases f
     .cases f
    .exact YH.ok h f p u q
   .unfold YG at f;split at f
    .split at f
     .split at f
      .rename_i D m1 r;have a:=EJ A r;have b:=jX f;exact⟨C3 a.1 b.1,a.2.1.trans b.2.1,C3 a.2.2 b.2.2⟩
      .cases f
     .cases f
    .exact jX f
def Z0:CC P (tdP P):=RD 3
def JG(d:uI P m t t2 x y=some (v,m')):m.hi<=m'.hi/\m.lg.le m'.lg/\m.n<=m'.n:=by
 unfold uI at d;split at d
 .rename_i e d2 hu r;cases p:eS d2 with
  | false=>rw[p]at d;cases d
  | true =>
    rw[p]at d;simp only[S5,E7]at d;split at d
    .obtain⟨_,d⟩:=A3 d;split at d
     .rename_i f;have a:=WH Z0 f;split at d
      .rename_i q;have b:=mA Z0 q;have c:=pD d;exact⟨A0,a.2.1.trans (b.2.1.trans c.2.1),A0⟩
      .split at d
       .obtain⟨_,d⟩:=A3 d;have c:=pD d;exact⟨A0,a.2.1.trans c.2.1,A0⟩
       .cases d
     .cases d
    .cases d
 .cases d
def WM.step(h:WM P ρ w wd bh gs y' rows2 new')(n:∀ b ∈ gs,∃ l,ρ b=some l)(he:∀ b l,ρ b=some l->ρ' b=some l):WM P ρ' w wd bh gs y' rows2 new' :=
 ⟨h.len,h.first,h.size,h.flat,fun R a=>h.rows R fun b f l d=>a b f l (he b l d),h.ev⟩
def WO{n:Nat}(h:WP P e n=true):∃ z,iC P e=some z/\z.cells.size=n:=by
 unfold WP at h;split at h
 .rename_i z a;exact⟨z,a,A1 h⟩
 .cases h
def QV(h:HR P base ρ m.H w)(R:base<=w.heap.size)(q:uI P m t t2 x y=some (v,m'))(C:L1 ρ m.n m'.hi)(hx:VR ρ x x')(hy:VR ρ y y')(M:Sat m'.lg) :
  VOk P base ρ m w (Builtin.append_ #[t,t2] ty #[x',y']) v m':=by
 unfold uI at q;split at q
 .rename_i e d2 hu K;cases r:eS d2 with
  | false=>rw[r]at q;cases q
  | true =>
    rw[r]at q;simp only[S5,E7]at q;split at q
    .rename_i inf hi;obtain⟨hq,d⟩:=A3 q;clear q;obtain⟨av,aw⟩:=B3 hq;obtain⟨ax,az⟩:=B3 av;have J:=A2 ax;have L:0<inf.size:=A2 az;obtain⟨z,hz,F⟩:=WO aw;have D:I2 P e=some inf.size:=by unfold I2;rw[hi]
     split at d
     .rename_i bh gs sure m1 B;split at d
      .rename_i c g0 old m2 O;have mb:=mA Z0 O;have mp:=pD d;have G:L1 ρ m.n m1.hi:=C.less A0;obtain⟨A,rows2,new',u,a2,a3,a4,a5,a6⟩:=TX Z0 h B G hy (M.le (mb.2.1.trans mp.2.1)) L D;have f:L1 A m1.n m'.hi:=C.step u;obtain⟨ρ2,X,b2,b3,b4⟩:=NX Z0 u.hr O (f.less mp.1) (hx.mono u.ext) (M.le mp.2.1) L D;obtain⟨v',p,w3,V,Q,T⟩:=RU (ty:=ty) hu K r hi hz F J X.hr R d (f.step X) M b4 (a5.step (fun b Y=>(a4 b Y).2) X.ext);exact⟨v',p,w3,V,Q,St.trans C (St.trans (C.less mp.1) u X) T⟩
      .split at d
       .rename_i b c tg au;obtain⟨S,E⟩:=A3 d;clear d;have S:=A1 S;have mp:=pD E;have G:L1 ρ m.n m1.hi:=C.less A0;obtain⟨A,rows2,new',u,a2,a3,a4,a5,a6⟩:=TX Z0 h B G hy (M.le mp.2.1) L D;have f:L1 A m1.n m'.hi:=C.step u;obtain⟨l,d1,d2,d3,d4,d5⟩:=iT hx;obtain⟨nul,ay,rows,W,q2⟩:=iX d2 d3 d4;have Z:ay=inf.size:=A0;subst Z;rw[W]at d2;rcases bW d2 with⟨rfl,rfl,rfl⟩|⟨rfl,a,cap,rfl,hc⟩
        .have I:A1w P base A m1 w e inf.size c [b] none (.slice none 0 0):=⟨true,[],W,.inl ⟨rfl,rfl,rfl,fun b R=>by cases R⟩⟩;obtain⟨v',p,w3,V,Q,T⟩:=RU (ty:=ty) (g0:=[b]) (gs:=gs) hu K r hi hz F J u.hr R E f M I a5;exact⟨v',p,w3,V,Q,St.trans C u T⟩
        .have N:cap=rows.length:=d5;subst N;obtain⟨v',p,w3,V,Q,T⟩:=A2D (ty:=ty) hu K r hi hz F J u.hr R E f M W (u.ext _ _ d1) (by rw[W];exact d2) a5 (a6 rfl);exact⟨v',p,w3,V,Q,St.trans C u T⟩
       .cases d
     .cases d
    .cases q
 .cases q
end
end
section
open Go
variable [Ora]
section
variable {P:Program} {base:Nat} {ρ ρ':Ren} {m m':Mem} {w w':World}
def KY(h:o+us.length<=row.length):(PP row o us).length=row.length:=by
 unfold PP;simp;omega
def ZN(h:o+us.length<=row.length):(PP row o us)[j]? = if o<=j/\j<o+us.length then us[j-o]? else row[j]? := by
 unfold PP;have a:(row.take o).length=o:=by simp;omega
 by_cases f:j<o
 .rw[A9 A0,C7,F7 A0,G6 f]
 .by_cases d:j<o+us.length
  .rw[B0 ⟨A0,d⟩,C7,E9 A0,a,F7 A0]
  .rw[A9 A0,E9 (by simp;omega),J2];congr 1
   simp;omega
def Q4.set{R:Nat->Option Obj}{s:Nat}{C C':c9}(h:Q4 R rows wd C s)(D:k<rows.length)(J:o+us.length<=wd)(he:u9 R us vs)
  (hC:∀ j,C'[j]? = if s+k*wd+o<=j/\j<s+k*wd+o+vs.length then vs[j-(s+k*wd+o)]? else C[j]?):Q4 R (rows.set k (PP (rows.getD k []) o us)) wd C' s:=by
 have a:rows[k]? = some rows[k]:=A6 D;have E:rows.getD k []=rows[k]:=by rw[C6,a];rfl
 have f:rows[k].length=wd:=h.1 _ (P4 D);rw[E];refine⟨fun row hr=>?_,fun r row j u v d a2 a3=>?_⟩
 .rcases List.mem_or_eq_of_mem_set hr with F|rfl
  .exact h.1 row F
  .rw[KY A0];exact f
 .rw[hC]at a3;by_cases p:k=r
  .subst p;rw[j8 D]at d;have d:=A8 d;subst d;have B:=(B1.1 a2).1;rw[KY A0,f]at B;rw[ZN A0]at a2;by_cases n:o<=j/\j<o+us.length
   .rw[B0 n]at a2;rw[B0 (by rw[<- he.1];omega)]at a3;exact he.2 (j-o) u v a2 (by rw[<- a3];congr 1;omega)
   .rw[A9 n]at a2;rw[A9 (by rw[<- he.1];omega)]at a3;exact h.2 k _ j u v a a2 a3
  .rw[eP p]at d;have B:=(B1.1 a2).1;rw[h.1 _ (E6 d)]at B;have H:=(B1.1 d).1;have G:=he.1;rw[A9]at a3
   .exact h.2 r row j u v d a2 a3
   .rcases G9 r k with A|I
    .have q:(r+1)*wd<=k*wd:=G0 wd A;rw[I9]at q;omega
    .have q:(k+1)*wd<=r*wd:=G0 wd A0;rw[I9]at q;omega
def UM(h:HR P base ρ m.H w)(p:zF P m t x y=some (v,m'))(hf:L1 ρ m.n m'.hi)(hx:VR ρ x x')(hy:VR ρ y y')(hS:Sat m'.lg):UOk P base ρ m w (Instr.storeAt t x' y') m'/\v=undef/\m.lg.le m'.lg:=by
 unfold zF at p;split at p
 .rename_i b i d z o ts aq;cases I:lU y with
  | true=>rw[I]at p;cases p
  | false =>
  rw[I]at p;simp only[E7]at p;split at p
  .rename_i xs gs m1 hd;split at p
   .rename_i c tc T g hg;obtain⟨R,r⟩:=A3 p;clear p;have R:=A1 R;split at r
    .rename_i g2 m2 hj;rw[P5]at r;simp only[hole]at r;obtain⟨hs,rfl⟩:=pJ r;obtain⟨ah,Z⟩:=Y6 hs;have md:=V8 Z0 hd;have mj:=P0 hj;have ae:m2.hi=m'.hi:=by rw[Z];simp
     have az:m'.lg=hZ m2 d (.set (d-10) o) (hole c d::z::xs):=by rw[Z];simp[hole]
     have X:m2.lg.le m'.lg:=by rw[az];exact⟨[_],rfl⟩
     have ao:L1 ρ m.n m1.hi:=hf.less A0;have Q:m1.lg.le m'.lg:=by rw[<- mj.2.1];exact X
     obtain⟨aw,K,e2,e3,e4,e5,e6⟩:=lC Z0 h hd ao (hy.cells I) (hS.le Q);have O:L1 aw m1.n m2.hi:=(hf.step K).less A0;obtain⟨ρ2,lg,d1,d2,d3,d4,d5,d6⟩:=gJ K.hr hj O;obtain⟨⟨l,wd,eC,k,a1,a2,a3,a4,a5,a6,rfl⟩,a8⟩:=yG hx;have D:=K.ext _ _ a1;obtain⟨a,inf,q1,q2,q3,L⟩:=SqR.ex (K.hr.atl D hg).1;rcases L with⟨L,_⟩|⟨_,L⟩
     .rw[a2]at L;cases L
     obtain⟨C,fz,T',rows,M,f1,f2,f3,f4,f5,f6,f7,f8,f9⟩:=L;have aj:a=wd:=by
      have:d=10+wd:=by rw[<- a8,a3];rfl
      omega
     subst aj;obtain⟨rfl,f10⟩:=f9 rfl;have al:d=10+a:=A0;have an:Sat (m2.wLg (hZ m2 d (.set (d-10) o) (hole c d::z::xs))).lg:=by rw[aH,<- az];exact hS
     obtain⟨r1,r2,nul,ag,rws,r3,r4⟩:=mN an (.refl _);obtain⟨kk,hz⟩:=JF a4;have J:(hole c d::z::xs).map (F3 Ora.env)=.seq false a rows::.int kk (.ofNat k)::xs.map (F3 Ora.env):=by
      show Ora.env c::F3 Ora.env z::xs.map (F3 Ora.env)=_;rw[f2,hz]
     rw[J,show d-10=a by omega]at r1;have r1:Ora.env m2.lg.nx=if a=a/\k<rows.length/\o+(xs.map (F3 Ora.env)).length<=a then .seq false a (rows.set k (PP (rows.getD k []) o (xs.map (F3 Ora.env))))else .none:=r1
     by_cases hc:a=a/\k<rows.length/\o+(xs.map (F3 Ora.env)).length<=a
     .rw[B0 hc]at r1;obtain⟨_,Y,S⟩:=hc;have hR:∀ b' ∈ gs,∀ l',aw b'=some l'->Sub l'.G lg.G:=fun b' au l' av=>d6 b' (.tail _ au) l' av
      have f:=e6 lg.G hR;have E:Sub M.G lg.G:=d6 g (.head _) M f7;have B:y'.cells.toList.length=(xs.map (F3 Ora.env)).length:=f.1.symm;have ai:(k+1)*a<=l.cap*a:=G0 a A0;rw[I9]at ai;obtain⟨w',g1,ar,g3,g4,g5⟩:=w6 (P:=P) (b:=l.blk) (o:=l.sh+k*a+o) (fz:=fz) y'.cells.toList 0 C w f1 (FJ f) (by rw[B];omega) f10;have af:C.toList.length=C.size:=U6;have q:(Array.mk (eE C.toList (l.sh+k*a+o+0) y'.cells.toList)).size=C.size:=by simp[w7]
      have N:∀ j,(Array.mk (eE C.toList (l.sh+k*a+o+0) y'.cells.toList))[j]? = if l.sh+k*a+o<=j/\j<l.sh+k*a+o+y'.cells.toList.length then y'.cells.toList[j-(l.sh+k*a+o)]? else C[j]? := fun j=>by
       rw[K6,nN _ _ _ _ (by rw[B];omega)];simp
      have u:Q4 lg.G rows a C l.sh:=Q4.mono ⟨f6,f8⟩ E;have A:St P base ρ ρ2 m (m2.wLg (hZ m2 d (.set (d-10) o) (hole c d::z::xs))) w w:=St.trans (hf.less (by simp;omega)) (St.trans (hf.less A0) K d1) (St.wLg d1.hr _);have F:Hp.get (m2.wLg (hZ m2 d (.set (d-10) o) (hole c d::z::xs))).H b=some (.sq c tc T' g false):=by rw[mY,uZ K.hr hj O D];exact hg
      have W:=d1.ext _ _ D;have ak:BR P ρ2 (.sq m2.lg.nx d T' g2 false) l w':=by
       refine⟨⟨a,inf,al,q2,q3,.inr ⟨a2,_,fz,T',_,lg,g4,r1,by rw[mP];exact f3,f4,by rw[q];exact f5,(u.set Y S f N).1,d4,(u.set Y S f N).2,fun _=>⟨rfl,by rw[q];exact f10⟩⟩⟩⟩
      have ay:=St.write A.hr hs F rfl W a2 ar g3 g5 ak (fun h=>by cases h);refine⟨⟨ρ2,w',?_,St.trans hf A ay⟩,rfl,md.2.1.trans Q⟩;have V:=lH aq;have ax:ts.length=(xs.map (F3 Ora.env)).length:=by
       have:=D8 List.length e5;rw[I4]at this;exact this.symm
      have e:y'.cells.size=ts.length:=by rw[ax,<- B];simp
      simp[Instr.storeAt,Instr.sureAddr,storeVar,A5,L7 V,Result.andThen,e,g1]
     .rw[A9 hc]at r1;rw[r1]at r3;cases r3
    .cases r
   .cases p
  .cases p
 .cases p
def UO{lo' hi' mx':S8}(h:HR P base ρ m.H w)(a:zH P m t x lo hi mx=some (v,m'))(N:L1 ρ m.n m'.hi)(L:VR ρ x x')(p:OR ρ lo lo')(f:OR ρ hi hi')(q:OR ρ mx mx')(D:Sat m'.lg) :
  VOk P base ρ m w (Instr.sliceAt t x' lo' hi' mx') v m'/\m.lg.le m'.lg:=by
 unfold zH at a;split at a
 .rename_i e b i E hu;split at a
  .rename_i s B;obtain⟨d,a⟩:=A3 a;have d:=A1 d;obtain⟨l,G,I,h3,S⟩:=pN L;obtain⟨⟨r,g1,g2⟩,⟨lg,rfl⟩,g4⟩:=IR (w:=w) hu B d G I h3 (fun h=>by cases h) a p f q D;exact⟨⟨r,ρ,w,g1,g2,St.wLg h lg⟩,g4⟩
  .cases a
 .rename_i e b i E hu;split at a
  .rename_i s B;obtain⟨d,a⟩:=A3 a;have d:=A1 d;obtain⟨l,G,I,h3,S,Z⟩:=iT L;obtain⟨⟨r,g1,g2⟩,⟨lg,rfl⟩,g4⟩:=IR (w:=w) hu B d G I h3 (fun _=>Z) a p f q D;exact⟨⟨r,ρ,w,g1,g2,St.wLg h lg⟩,g4⟩
  .cases a
 .rename_i e b i E hu;split at a
  .rename_i s B;obtain⟨d,a⟩:=A3 a;have d:=A1 d;split at a
   .rename_i c tc O m1 Y;have u:∀ {m1:Mem},NG m1 O c E false lo hi mx=some (v,m')->K7 m1 m'/\m1.lg.le m'.lg:=fun{m1} a=>by
     have go:∀ {m1:Mem} {l h:Value} {R:Bool},iZ m1 O c E l h R=some (v,m')->K7 m1 m'/\m1.lg.le m'.lg:=fun h=>by
      unfold iZ at h;obtain⟨_,h⟩:=A3 h;rw[P5]at h;simp only[D9,Q0]at h;obtain⟨_,rfl⟩:=h;exact⟨⟨_,rfl⟩,Z8⟩
     unfold NG NE at a;split at a
     .exact go a
     .exact go (A3 a).2
     .split at a
      .rename_i M
       have:=go a;exact⟨(dN M).1.trans this.1,(dN M).2.trans this.2⟩
      .cases a
     .cases a
    obtain⟨⟨lg,F⟩,hle⟩:=u a;have X:m1.hi=m'.hi:=by rw[F];simp
    obtain⟨C,l,J,V,e3,W,Q,T⟩:=GS h Y (N.less A0) L (D.le hle);have mono:∀ {o o':S8},OR ρ o o'->OR C o o':=fun{o o'} h=>by
     cases o<;>cases o'<;>first|exact trivial|exact h.elim|exact VR.mono J.ext h
    obtain⟨⟨r,g1,g2⟩,⟨K,A⟩,g4⟩:=IR (w:=w) (cl:=false) hu B d V W Q (fun h=>by cases h) a (mono p) (mono f) (mono q) D;subst A;exact⟨⟨r,C,w,g1,g2,St.trans (N.less (by simp)) J (St.wLg J.hr K)⟩,T.trans g4⟩
   .cases a
  .cases a
 .cases a
end
end
section
open Go
variable [Ora]
section
variable {P:Program} {base:Nat} {ρ ρ':Ren} {m m':Mem} {w w':World}
def DW{a':Addr}{n c':Nat}{a:List Int}(q:P.underlying s=some (.slice e))(p:P.underlying t=some .string)(he:P.underlying e=some (.int .u8))(d:(loadCells a' n).run P w=.ok (a.map (Value.int .u8)).toArray w) :
  (convert s t (.slice (some a') n c')).run P w=.ok (.string ⟨⟨a.map fun n=>UInt8.ofNat n.toNat⟩⟩) w:=by
 have:=run_bytesToString w a' n c' a d;have f:=rF a [];simp only[R1]at f;simp only[convert,A5,D7 q,D7 p,D7 he,Result.andThen];rw[this,show ByteArray.empty=ByteArray.mk ⟨[]⟩from rfl,f]
def HA{n:Nat}(d:P.underlying s=some (.slice e))(a:P.underlying t=some .string)(he:P.underlying e=some (.int .u8)):(convert s t (.slice none n c)).run P w=.ok (.string ByteArray.empty) w:=by
 simp[convert,A5,D7 d,D7 a,D7 he,Result.andThen,Conv.bytesToString]
def KP{b:ByteArray}(E:P.underlying s=some ds)(F:P.underlying t=some (.slice e))(he:P.underlying e=some (.int .u8))(w:World) :
  ∃ (cap:Nat) (C:Array Value),b.size<=cap/\C.size=cap/\(∀ (i:Nat) (u:Value),(R3 b.data.toList)[i]? = some u->C[i]? = some u)/\(convert s t (.string b)).run P w=.ok (.slice (some ⟨w.heap.size,0,none⟩) b.size cap) { w.drew with heap:=w.heap.push (.cells C e (C.size,C.size+1)) }:=by
 let q:Question:=.appendCap b.size 0 e
 let cap:=q.cut (w.tape w.drawn q)
 have d:b.size<=cap:=by show b.size<=b.size+_;omega
 have A:(choose q).run P w=.ok cap w.drew:=by
  simp only[choose,Sem.run];rw[A9 (by simp[q,Question.forced])];rfl
 let C:c9:=(b.data.map fun b=>Value.int .u8 b.toNat)++Array.replicate (cap-b.size) (.int .u8 0)
 have hC:C.size=cap:=by
  have:b.data.size=b.size:=rfl;simp[C,this];omega
 refine⟨cap,C,d,hC,fun i u hi=>?_,?_⟩
 .have B:=(B1.1 hi).1;simp[R3]at B;have f:i<(b.data.map fun b=>Value.int .u8 b.toNat).size:=by simpa using B
  show((b.data.map fun b=>Value.int .u8 b.toNat)++Array.replicate (cap-b.size) (.int .u8 0))[i]? = some u;rw[W7 f]
  simpa [R3]using hi
 .have n:∀ w2:World,w2.heap[w.heap.size]? = some (.cells C e (0,0))->(markStringish ⟨w.heap.size,0,none⟩).run P w2=.ok () (w2.freeze { block:=w.heap.size,off:=C.size } 1):=fun w2 D=>by
   simp[markStringish,shape,freeze,Sem.run,World.shape?,D]
  have p:({ w.drew with heap:=w.heap.push (.cells C e (0,0)) }:World).freeze { block:=w.heap.size,off:=C.size } 1={ w.drew with heap:=w.heap.push (.cells C e (C.size,C.size+1)) }:=by
   unfold World.freeze;rw[A9 C8];congr 1;apply Array.ext_getElem?;intro i;rw[I1];by_cases hi:w.heap.size=i
   .subst hi;simp
   .rw[A9 hi];simp only[aP];rw[A9 (fun h=>hi h.symm),A9 (fun h=>hi h.symm)]
  have a:(convert s t (.string b)).run P w=(Conv.stringToBytes e b).run P w:=by
   cases ds<;>simp[convert,A5,D7 E,D7 F,D7 he,Result.andThen]
  rw[a];unfold Conv.stringToBytes;simp only[A5,show(choose (.appendCap b.size 0 e)).run P w=.ok cap w.drew from A,Result.andThen];have r:(newRow e C).run P w.drew=.ok ⟨w.heap.size,0,none⟩ { w.drew with heap:=w.heap.push (.cells C e (0,0)) }:=rfl;rw[show(newRow e ((b.data.map fun b=>Value.int .u8 b.toNat)++Array.replicate (cap-b.size) (.int .u8 0))).run P w.drew=_ from r];simp only[Result.andThen];rw[n _ (by simp),p];rfl
def JA:∀ {us:List U} {s:List UInt8} {vs:E0},vQ us=some s->u9 (fun k=>w.heap[k]?) us vs->∃ d:List Int,vs=d.map (Value.int .u8)/\s=d.map fun n=>UInt8.ofNat n.toNat
 | [],s,vs,h,he=>by
   cases h;have:vs=[]:=H3.1 he.1.symm;subst this;exact⟨[],rfl,rfl⟩
 | u::us,s,vs,h,he=>by
   unfold vQ at h;split at h
   .rename_i heq;cases heq
   .rename_i n r heq;cases heq;split at h
    .split at h
     .rename_i l f;cases h;cases vs with
      | nil=>have:=he.1;simp at this
      | cons v vr =>
        obtain⟨d,B,q⟩:=JA (vs:=vr) f ⟨by have:=he.1;simpa using this,fun i a b p A=>he.2 (i+1) a b (by simpa using p) (by simpa using A)⟩
        have:=pQ (he.2 0 _ v rfl rfl) rfl;subst this;exact⟨(Int.ofNat n)::d,by rw[B];rfl,by rw[q];rfl⟩
     .cases h
    .cases h
   .cases h
def JB:∀ {rows:List (List U)} {s:List UInt8},xL rows=some s->vQ (rows.flatMap id)=some s/\(rows.flatMap id).length=rows.length/\∀ (r:Nat) (row:List U) (j:Nat) (u:U),rows[r]? = some row->row[j]? = some u->j=0/\(rows.flatMap id)[r]? = some u
 | [],s,h=>by cases h;exact⟨rfl,rfl,fun r row j u h=>by simp at h⟩
 | row::rows,s,h=>by
   unfold xL at h;split at h
   .rename_i heq;cases heq
   .rename_i n r heq;cases heq;split at h
    .rename_i C;split at h
     .rename_i l d;cases h;obtain⟨f,p,h3⟩:=JB d;refine⟨?_,by show([U.int .u8 (Int.ofNat n)]++rows.flatMap id).length=_;rw[A4,p];simp;omega,fun q row j u a a2=>?_⟩
      .simp only[jE,id,aF,R1,vQ];rw[B0 C,f]
      .cases q with
       | zero =>
         simp at a;subst a;cases j with
         | zero=>simp at a2;subst a2;exact⟨rfl,rfl⟩
         | succ j=>simp at a2
       | succ q =>
         obtain⟨A,B⟩:=h3 q row j u (by simpa using a) a2;exact⟨A,by simpa using B⟩
     .cases h
    .cases h
   .cases h
def sU{t:Nat}:∀ {l:E0},aR t l=true->∀ v ∈ l,H6 v=t
 | [],_,v,a=>by cases a
 | x::r,h,v,a=>by
   obtain⟨f,d⟩:=B3 (show(Nat.beq (H6 x) t && aR t r)=true from h);rcases C4.1 a with rfl|a
   .exact A1 f
   .exact sU d v a
def uA{R:Nat->Option Obj}(h:LR ρ cs cs')(f:∀ v ∈ cs,H6 v<10):u9 R (cs.map (F3 Ora.env)) cs':=by
 refine⟨by simp[h.1],fun i u v a a2=>?_⟩;rw[H9]at a;cases d:cs[i]? with
 | none=>rw[d]at a;cases a
 | some x =>
   rw[d]at a;have a:=A8 a;subst a;exact .sc (cE (h.2 i x v d a2) (f x (E6 d))).1
def MI(m m1:Mem):A4f m m1=⟨m.H,m.n,m.W,m1.hi,m1.lg⟩:=by cases m;cases m1;rfl
def St.kept{ρ:Ren}{m:Mem}{w:World}{hi:Nat}{lg:Lg}(h:HR P base ρ m.H w)(hh:m.hi<=hi):St P base ρ ρ m ⟨m.H,m.n,m.W,hi,lg⟩ w w :=
 ⟨fun _ _ h=>h,fun b l d a=>(by rw[d]at a;cases a),A7 _,hh,fun h=>C3 h hh,h,fun _ h=>h,fun b d a=>absurd d a,fun _ _ _=>rfl,A7 _,⟨rfl,rfl,rfl⟩,fun b l d a=>(by rw[d]at a;cases a),fun _ _ _ _=>rfl,fun _ h=>.inr h⟩
def A1L(h:HR P base ρ m.H w)(hb:base<=w.heap.size)(d:NJ P m s t x=some (v,m'))(X:L1 ρ m.n m'.hi)(hx:VR ρ x x')(hS:Sat m'.lg):VOk P base ρ m w (convert s t x') v m'/\m.lg.le m'.lg:=by
 unfold NJ at d;split at d
 .rename_i e a n c O M;split at d
  .rename_i he;split at d
   .rename_i cs hr;obtain⟨D,d⟩:=A3 d;obtain⟨u,f,e2,r,L,Q,e5⟩:=O0 d hS;obtain⟨lg,rfl⟩:=I8 d;have q:=St.wLg h lg;have J:=sU D;have key:∀ {a' c'} {N:E0},LR ρ cs N->(loadCells a' n).run P w=.ok ⟨N⟩ w->VOk P base ρ m w (convert s t (.slice (some a') n c')) v (m.wLg lg):=fun{a' c' N} V ax=>by
     have ay:u9 (fun k=>w.heap[k]?) (cs.map (F3 Ora.env)) N:=uA V (fun v hv=>by rw[J v hv];omega);have K:∃ p,vQ (cs.map (F3 Ora.env))=some p/\u=.str p:=by
      have f:(match vQ (cs.map (F3 Ora.env))with|some s=>U.str s|none=>.none)=u:=f;split at f
      .rename_i p A;exact⟨p,A,f.symm⟩
      .subst f;cases L
     obtain⟨p,I,rfl⟩:=K;cases L;obtain⟨ns,r1,r2⟩:=JA (w:=w) I ay;subst r1;subst r2;exact⟨_,ρ,w,DW O M he ax,Q ρ,q⟩
    refine⟨?_,J1 d⟩;rcases Q7 hx with⟨l,V,_,_,rfl⟩|⟨l,c',V,_,_,_,_,rfl⟩|⟨a',c',_,rfl,_,rfl⟩
    .obtain⟨N,g1,g2,g3⟩:=aA h hr V;exact key g1 (L2 g2 g3)
    .obtain⟨N,g1,g2,g3⟩:=aA h hr V;exact key g1 (L2 g2 g3)
    .have:cs=[]:=by
      unfold bR at hr;split at hr
      .have:=(lY hr).2;simpa using this
      .cases hr
     subst this;exact key .nil (by simp[loadCells,loadCellsFrom])
   .cases d
  .cases d
 .rename_i e fn a1 a2 O M;split at d
  .rename_i he;split at d
   .rename_i hh b m1 hd;rw[MI]at d;obtain⟨u,f,e2,r,L,Q,e5⟩:=O0 d hS;have hle:=J1 d;obtain⟨lg,rfl⟩:=I8 d;obtain⟨Z,l,d1,d2,d3,d4,d5,d6⟩:=GS h hd (X.less (by simp[Mem.wLg])) hx (hS.le hle);have q:St P base ρ ρ m (Mem.wLg ⟨m.H,m.n,m.W,m1.hi,m1.lg⟩ lg) w w:=St.kept h d1.hle;obtain⟨nul,wd,rows,I,q2⟩:=iX d4 d5 A0;have aw:wd=1:=A0;subst aw;rw[I]at d4;have K:∃ p,xL rows=some p/\u=.str p:=by
     have f:evU .str [F3 Ora.env hh]=u:=f;rw[I]at f;have f:(if 1=1 then(match xL rows with|some s=>U.str s|none=>.none)else .none)=u:=f;rw[B0 rfl]at f;split at f
     .rename_i p A;exact⟨p,A,f.symm⟩
     .subst f;cases L
    obtain⟨p,A,rfl⟩:=K;cases L;refine⟨?_,d6.trans hle⟩;have hG:=(d1.hr.atl d2 d3).1.2;rcases bW d4 with⟨rfl,rfl,rfl⟩|⟨rfl,a,c,rfl,hc⟩
    .cases A;exact⟨_,ρ,w,HA O M he,Q ρ,q⟩
    .obtain⟨_,new',g1,g2,g3,g4⟩:=vL (w:=w) d4 hG;obtain⟨k1,k2,k3⟩:=JB A;have Y:u9 (fun k=>w.heap[k]?) (rows.flatMap id) new':=by
      refine⟨by rw[k2,g1];simp,fun i u v b1 b2=>?_⟩;have E:i<rows.length:=by have:=(B1.1 b1).1;rw[k2]at this;exact this
      have au:rows[i].length=1:=g3.1 _ (P4 E);have F:rows[i]? = some rows[i]:=A6 E;have h0:rows[i][0]? = some (rows[i][0]' A0):=A6 A0;obtain⟨_,k4⟩:=k3 i _ 0 _ F h0;rw[b1]at k4;have k4:=A8 k4;rw[k4];exact(g3.2 i _ 0 _ v F h0 (by simpa using b2)).mono hG
     obtain⟨ns,r1,r2⟩:=JA (w:=w) k1 Y;subst r1;subst r2;have av:(ns.map (Value.int .u8)).length=rows.length:=by rw[g1];omega
     exact⟨_,ρ,w,DW O M he (nW av g4),Q ρ,q⟩
   .cases d
  .cases d
 .rename_i y _ _ _ ds e O M;obtain⟨D,d⟩:=A3 d;have D:=A1 D;split at d
  .rename_i he;split at d
   .rename_i B;split at d
    .rename_i g m1 hj;rw[P5]at d;simp only[hole]at d;have d:dG (m1.wLg (hZ m1 11 .byt [y])) m1.lg.nx 11 e g=some (v,m'):=d;have mj:=P0 hj;have mn:=bL d;simp only[OP,aH,XQ]at mn;obtain⟨Z,lg,f,e2,L,Q,e5,e6⟩:=gJ h hj (X.less A0);have q:St P base ρ Z m (m1.wLg (hZ m1 11 .byt [y])) w w:=St.trans (X.less (by simp;omega)) f (St.wLg f.hr _);obtain⟨p,rfl,f1⟩:=bC hx D;obtain⟨r1,r2,_⟩:=mN (m:=m1) (t:=11) (op:=.byt) (xs:=[y]) (lg:=m'.lg) hS (by rw[aH,mn.2.1];exact .refl _);have r1:Ora.env m1.lg.nx=evU .byt [F3 Ora.env y]:=r1;rw[f1]at r1;have r1:Ora.env m1.lg.nx=.seq false 1 (mH p):=r1;obtain⟨cap,C,c1,c2,c3,c4⟩:=KP (P:=P) (b:=⟨⟨p⟩⟩) O M he w;obtain⟨inf,S,T⟩:∃ inf,P.info? e=some inf/\inf.size=1:=by
      unfold I2 at B;cases hi:P.info? e with
      | none=>rw[hi]at B;cases B
      | some inf=>rw[hi]at B;exact⟨inf,rfl,A8 B⟩
     have az:ByteArray.size ⟨⟨p⟩⟩=p.length:=rfl;rw[az]at c1 c4;obtain⟨ρ2,I,q2⟩:=eG (w':={ w.drew with heap:=w.heap.push (.cells C e (C.size,C.size+1)) }) (cap:=cap) (C:=C) q.hr hb d (by simpa using(X.less (A7 _)).step f) r1 rfl S T (by rw[kC];exact c1) A0
      ((KQ (R:=lg.G) p).move (o':=0) fun i hi=>by
        rw[kC]at hi;have E:i<(R3 p).length:=by simp[R3];omega
        rw[F9,c3 i (R3 p)[i] (A6 E)];simp[E]) Q (fun i hi hh=>by have:=hh.1;simp only at this;omega) ⟨rfl,rfl,rfl⟩ rfl
     rw[kC]at I;exact⟨⟨_,ρ2,_,c4,I,St.trans X q q2⟩,by rw[mn.2.1,<- mj.2.1];exact⟨[_],rfl⟩⟩
    .cases d
   .cases d
  .cases d
 .cases d
def UU(hu:P.underlying t=some (.slice e))(hi:P.info? e=some inf)(d:inf.bytes<=90000)(B:0<inf.size)(A:∀ w,(zeroValue e).run P w=.ok z w)(f:k<=vR)(w:World) :
  (Instr.makeSlice t (.int .i64 (Int.ofNat k)) (.int .i64 (Int.ofNat k))).run P w=.ok (.slice (some ⟨w.heap.size,0,none⟩) k k) { w with heap:=w.heap.push (.cells ((Array.range (k*inf.size)).map (z.cells[· % z.cells.size]!)) e (0,0)) }:=by
 have f:k<=1000000000:=f;have u:I2 P e=some inf.size:=by simp[I2,hi]
 have wl:IntKind.i64.wrap (Int.ofNat k)=Int.ofNat k:=sA .i64 k (by simp only[OT];omega);have hm:k*inf.bytes<=1000000000*90000:=oT f d;have a:(askRoom (k*inf.bytes)).run P w=.ok () w:=by
  unfold askRoom roomBytes;rw[A9 A0];rfl
 have p:((inf.bytes:Int)*(k:Int))=((k*inf.bytes:Nat):Int):=by rw[dA];simp
 unfold Instr.makeSlice;simp only[A5,D7 hu,asInt,asIntOf,Result.andThen,Sem.run_pure,Z1 hi,wl];rw[A9]
 .have n:(Int.ofNat k).toNat=k:=by simp
  simp only[A5,Sem.run_pure,Result.andThen,n,a,L7 u];by_cases q:k*inf.size=0
  .have r:∀ z:c9,Array.map (fun x=>z[x%z.size]!) (Array.range (k*inf.size))=⟨[]⟩:=fun z=>by rw[q];apply K0;simp
   simp only[B0 q,r];rfl
  .simp only[A9 q,A5,Sem.run_pure,Result.andThen,A];rfl
 .have h:Int.ofNat k=(k:Int):=rfl;simp only[h,p];simp;omega
def WN{R:Nat->Option Obj}{s:Nat}(h:0<s)(d:z.cells.size=s)(q:LR ρ z.cells.toList z.cells.toList)(p:∀ v ∈ z.cells.toList,H6 v<10):Q4 R (List.replicate k (z.cells.toList.map (F3 Ora.env))) s ((Array.range (k*s)).map (z.cells[· % z.cells.size]!)) 0:=by
 have he:=uA (R:=R) q p;refine⟨fun row hr=>?_,fun r row j u v g1 g2 g3=>?_⟩
 .rw[(List.mem_replicate.1 hr).2];simp[d]
 .have hr:=(B1.1 g1).1;rw[List.length_replicate]at hr;rw[List.getElem?_replicate,B0 hr]at g1;cases g1;have n:=(B1.1 g2).1;simp only[I4,U6]at n;rw[d]at n;have hm:(r*s+j)%s=j:=by rw[dA,Nat.mul_add_mod,dR n]
  have f:r*s+j<k*s:=by
   have:(r+1)*s<=k*s:=G0 s hr;rw[I9,jD]at this;omega
  rw[F9,Array.getElem?_map,Array.getElem?_range,B0 f]at g3;simp only[M1,D9,d,hm]at g3;have a:j<z.cells.size:=A0;rw[getElem!_pos z.cells j a]at g3;refine he.2 j u v g2 ?_;rw[R7,H1 a,g3]
def A0O{l c:Value}(h:HR P base ρ m.H w)(R:base<=w.heap.size)(a:LW P m t l c=some (v,m'))(C:L1 ρ m.n m'.hi)(Q:VR ρ l l')(N:VR ρ c c')(T:Sat m'.lg):VOk P base ρ m w (Instr.makeSlice t l' c') v m'/\m.lg.le m'.lg:=by
 unfold LW at a;split at a
 .rename_i e i ti j Y hu;obtain⟨d,A⟩:=A3 a;clear a;obtain⟨d,h3⟩:=B3 d;obtain⟨D,E⟩:=B3 d;have D:=A1 D;have E:=A1 E;have h3:=A1 h3;subst D E h3;have a:=A;clear A;split at a
  .rename_i inf hi;obtain⟨d,a⟩:=A3 a;obtain⟨r,f⟩:=B3 d;have r:=A2 r;have f:0<inf.size:=A2 f;split at a
   .rename_i z M;obtain⟨d,a⟩:=A3 a;obtain⟨p,u⟩:=B3 d;have p:=A1 p;have u:∀ v ∈ z.cells.toList,H6 v<10:=fun v O=>A2 (E8.1 u v O)
    split at a
    .rename_i g m1 L;rw[P5]at a;simp only[hole]at a;have a:dG (m1.wLg (hZ m1 (10+inf.size) (.rep inf.size) (hole i 3::z.cells.toList))) m1.lg.nx (10+inf.size) e g=some (v,m'):=a;have X:=P0 L;have G:=bL a;simp only[OP,aH,XQ]at G;obtain⟨I,lg,F,e2,e3,V,Z,e6⟩:=gJ h L (C.less A0);have B:St P base ρ I m (m1.wLg (hZ m1 (10+inf.size) (.rep inf.size) (hole i 3::z.cells.toList))) w w:=St.trans (C.less (by simp;omega)) F (St.wLg F.hr _);obtain⟨k,n,rfl,f1,f2⟩:=O2 (v:=hole i 3) Q (show(3:Nat)<8 by decide);obtain⟨k2,n2,rfl,f3,f4⟩:=O2 (v:=hole i 3) N (show(3:Nat)<8 by decide);rw[f1]at f3;cases f3;obtain⟨r1,r2,nul,wd,rows,J,r4⟩:=mN (m:=m1) (t:=10+inf.size) (op:=.rep inf.size) (xs:=hole i 3::z.cells.toList) (lg:=m'.lg) T (by rw[aH,G.2.1];exact .refl _);have r1:Ora.env m1.lg.nx=evU (.rep inf.size) (F3 Ora.env (hole i 3)::z.cells.toList.map (F3 Ora.env)):=r1;rw[f1]at r1;have W:k=.i64:=by
      have f2:(3:Nat)=kJ k:=f2;cases k<;>first|rfl|(exfalso;revert f2;decide)
     subst W;cases n with
     | negSucc q=>rw[J]at r1;cases r1
     | ofNat q =>
       have r1:Ora.env m1.lg.nx=if(z.cells.toList.map (F3 Ora.env)).length=inf.size/\q<=vR then .seq false inf.size (List.replicate q (z.cells.toList.map (F3 Ora.env)))else .none:=r1
       by_cases d:(z.cells.toList.map (F3 Ora.env)).length=inf.size/\q<=vR
       .rw[B0 d]at r1;obtain⟨ρ2,K,S⟩:=eG (w':={ w with heap:=w.heap.push (.cells ((Array.range (q*inf.size)).map (z.cells[· % z.cells.size]!)) e (0,0)) }) (cap:=q) (fz:=(0,0)) B.hr R a (by simpa using(C.less (A7 _)).step F) r1 rfl hi rfl (by simp) (by simp)
         (WN (ρ:=ρ) f p (rW M) u) V (fun i hi hh=>by have:=hh.2;simp only at this;omega) ⟨rfl,rfl,rfl⟩ rfl
        rw[List.length_replicate]at K;exact⟨⟨_,ρ2,_,UU hu hi r f (fun w=>cI M w) d.2 w,K,St.trans C B S⟩,by rw[G.2.1,<- X.2.1];exact⟨[_],rfl⟩⟩
       .rw[A9 d,J]at r1;cases r1
    .cases a
   .cases a
  .cases a
 .cases a
end
end
section
open Go
variable [Ora]
section
variable {P:Program} {base:Nat} {ρ ρ':Ren} {m m':Mem} {w w':World}
def SE{t:Nat}(h:X4 m 8 .nilp [hole i t]=some (v,m'))(hi:Ora.env i=.seq nul wd rows)(n:Sat m'.lg):VR ρ v (.bool nul)/\K7 m m'/\m.lg.le m'.lg:=by
 obtain⟨u,d,A,r,f,p,q⟩:=O0 h n;have a:[hole i t].map (F3 Ora.env)=[.seq nul wd rows]:=by
  show[Ora.env i]=_;rw[hi]
 rw[a]at d;have d:U.bool nul=u:=d;subst d;cases f;exact⟨p ρ,I8 h,J1 h⟩
def DX{x y:Operand}{a:Option Addr}{n:Nat}(hu:P.underlying t=some (.slice e))(C:(a=none/\n=0/\c=0/\nul=true)∨(nul=false/\∃ q:Addr,a=some q/\n<=c))(p:op=.eql∨op=.neq)(w:World) :
  (do eqGuard op t x y (.slice a n c) (.slice none 0 0);binOp op t (.slice a n c) (.slice none 0 0):Sem Value).run P w=.ok (.bool (if op=.eql then nul else !nul)) w:=by
 have key:∀ {ρ:Ren} {am:Value},VR ρ am (.slice a n c)->oA P t x y am (.slice none 0 0)=true->uF P .eql t am (.slice none 0 0)=some (.bool nul)->uF P .neq t am (.slice none 0 0)=some (.bool !nul) ->
   (do eqGuard op t x y (.slice a n c) (.slice none 0 0);binOp op t (.slice a n c) (.slice none 0 0):Sem Value).run P w=.ok (.bool (if op=.eql then nul else !nul)) w:=fun{ρ am} u r A B=>by
  have f:VR ρ (.slice none 0 0) (.slice none 0 0):=.pure rfl;have h:=tP (op:=op) (fun _=>r) u f w;rcases p with rfl|rfl
  .obtain⟨g1,_⟩:=yR A u f w;simp[A5,h,g1,Result.andThen]
  .obtain⟨g1,_⟩:=yR B u f w;simp[A5,h,g1,Result.andThen]
 rcases C with⟨rfl,rfl,rfl,rfl⟩|⟨rfl,q,rfl,E⟩
 .refine key (ρ:=fun _=>none) (am:=.slice none 0 0) (.pure rfl) rfl ?_ ?_
  .simp[uF,ED,eqM,hu]
  .simp[uF,ED,eqM,hu]
 .obtain⟨d,D⟩:∃ d,Op.maxDepth=d+1:=⟨Op.maxDepth-1,rfl⟩;have he:∀ w,(Op.equal t (.slice (some q) n c) (.slice none 0 0)).run P w=.ok false w:=fun w=>by
   rw[Op.equal,D];simp[Op.equalIn,A5,D7 hu,Result.andThen]
  have r:∀ o:BinOp,(eqGuard o t x y (.slice (some q) n c) (.slice none 0 0)).run P w=.ok () w:=fun o=>by
   unfold eqGuard;cases o<;>rfl
  rcases p with rfl|rfl
  .rw[A5,r];show(do pure (.bool (<- Op.equal t (.slice (some q) n c) (.slice none 0 0))):Sem Value).run P w=_;rw[A5,he];rfl
  .rw[A5,r];show(do pure (.bool (!(<- Op.equal t (.slice (some q) n c) (.slice none 0 0)))):Sem Value).run P w=_;rw[A5,he];rfl
def A2N{x y:Operand}{a a' b:Value}(F:A0I P m op t x y a b=some (v,m'))(K:VR ρ a a')(S:VR ρ b b')(M:Sat m'.lg) :
  (∃ r,(do eqGuard op t x y a' b';binOp op t a' b':Sem Value).run P w=.ok r w/\VR ρ v r)/\K7 m m'/\m.lg.le m'.lg:=by
 unfold A0I at F;split at F
 .rename_i e k W i Q hu;obtain⟨f,d⟩:=A3 F;clear F;obtain⟨f,A⟩:=B3 f;obtain⟨f,N⟩:=B3 f;have J:b'=.slice none 0 0:=by
   unfold A0l at f;split at f
   .exact R8 S
   .cases f
  subst J;obtain⟨nul,wd,rows,B,n,c,E,rfl,O⟩:∃ nul wd rows B n c,Ora.env i=.seq nul wd rows/\a'=.slice B n c/\((B=none/\n=0/\c=0/\nul=true)∨(nul=false/\∃ q:Addr,B=some q/\n<=c)):=by
   have C:∀ {l:Loc},Enc l.G (Ora.env i) a'->H7 (Ora.env i)=Q->10<=Q->∃ nul wd rows B n c,Ora.env i=.seq nul wd rows/\a'=.slice B n c/\((B=none/\n=0/\c=0/\nul=true)∨(nul=false/\∃ q:Addr,B=some q/\n<=c)):=fun h h3 D=>by
    obtain⟨nul,wd,rows,E,_⟩:=iX h h3 D;rw[E]at h;rcases bW h with⟨rfl,rfl,rfl⟩|⟨rfl,q,c,rfl,R⟩
    .exact⟨_,_,_,_,_,_,E,rfl,.inl ⟨rfl,rfl,rfl,rfl⟩⟩
    .exact⟨_,_,_,_,_,_,E,rfl,.inr ⟨rfl,q,rfl,R⟩⟩
   rcases(J9 _ _).mp A with A|A
   .rcases(J9 _ _).mp A with A|A
    .have:=A1 A;subst this;obtain⟨l,_,h,h3,D⟩:=pN K;exact C h h3 D
    .have:=A1 A;subst this;obtain⟨l,_,h,h3,D,_⟩:=iT K;exact C h h3 D
   .have:=A1 A;subst this;rcases(iS K).1 with⟨l,wd,T,h,h3,rfl⟩|⟨l,wd,rows,T,h,h3,D,I,rfl⟩
    .exact⟨_,_,_,_,_,_,h3,rfl,.inl ⟨rfl,rfl,rfl,rfl⟩⟩
    .exact⟨_,_,_,_,_,_,h3,rfl,.inr ⟨rfl,_,rfl,I⟩⟩
  split at d
  .rename_i r H;cases d;obtain⟨g1,g2,g3⟩:=SE (ρ:=ρ) H E M;exact⟨⟨_,DX hu O (.inl rfl) w,g1⟩,g2,g3⟩
  .rename_i hh m1 H;have hle:=J1 d;obtain⟨g1,g2,g3⟩:=SE (ρ:=ρ) H E (M.le hle);obtain⟨u,f1,f2,r,f3,f4,f5⟩:=O0 d M;obtain⟨rfl,V⟩:=lT H;have L:F3 Ora.env (hole m.lg.nx 8)=.bool nul:=by
    obtain⟨p,_⟩:=cE g1 (by show(8:Nat)<10;omega);cases f:F3 Ora.env (hole m.lg.nx 8)with
    | bool b=>rw[f]at p;cases p;rfl
    | int k n=>rw[f]at p;cases p
    | str s=>rw[f]at p;cases p
    | none=>rw[f]at p;cases p
    | seq _ _ _=>rw[f]at p;cases p
   have f1:ev1 .not (F3 Ora.env (hole m.lg.nx 8))=u:=f1;rw[L]at f1;have f1:U.bool (!nul)=u:=f1;subst f1;cases f3;exact⟨⟨_,DX hu O (.inr rfl) w,f4 ρ⟩,g2.trans (I8 d),g3.trans hle⟩
  .cases d
 .cases F
def A6D{fr:Fr}{g:Operand->Value}{o:Oper}(h:HR P base ρ m.H w)(C:base<=w.heap.size)(d:dsM P fr m o.op=some (v,m'))(A:L1 ρ m.n m'.hi)(K:FR ρ fr g o.op)(f:Sat m'.lg):NOk P base ρ m w (execOp g o) v m':=by
 obtain⟨dst,op,ty,pos,L,M⟩:=o;simp only at d K;have a:∀ {x},x ∈ op.operands.toList->VR ρ (ev fr x) (g x):=fun B=>K _ B
 have fin:∀ {s:Sem Value},(∃ r,s.run P w=.ok r w/\VR ρ v r)->K7 m m'->NOk P base ρ m w (do pure (.value (<- s))) v m':=fun{s} ⟨r,Q,R⟩ ⟨lg,O⟩=>by
  subst O;exact NOk.of ⟨r,ρ,w,Q,R,St.wLg h lg⟩
 unfold dsM at d;split at d
 .rename_i t x y;exact NOk.of (A0O h C d A (a (x:=x) (by simp[Op.operands])) (a (x:=y) (by simp[Op.operands])) f).1
 .rename_i t x;obtain⟨g1,g2,_⟩:=A0R (w:=w) h d (a (x:=x) (by simp[Op.operands])) f;exact fin (s:=Instr.loadAt t (g x)) g1 g2
 .rename_i t x y;obtain⟨g1,rfl,_⟩:=UM h d A (a (x:=x) (by simp[Op.operands])) (a (x:=y) (by simp[Op.operands])) f;exact NOk.ofU (s:=Instr.storeAt t (g x) (g y)) g1
 .rename_i t x i;obtain⟨g1,g2,_⟩:=MM (w:=w) d (a (x:=x) (by simp[Op.operands])) (a (x:=i) (by simp[Op.operands])) f;exact fin (s:=Instr.indexAt t (g x) (g i)) g1 g2
 .rename_i s x i;obtain⟨g1,rfl⟩:=NA (w:=w) d (a (x:=x) (by simp[Op.operands]));exact fin (s:=Instr.fieldAt s (g x) i) g1 (.refl _)
 .rename_i t x lo hi mx;obtain⟨g1,_⟩:=UO h d A (a (x:=x) (by simp[Op.operands])) (lX (g:=g) fun y p=>a (by simp[Op.operands]at p ⊢;exact .inr (.inl p))) (lX (g:=g) fun y p=>a (by simp[Op.operands]at p ⊢;exact .inr (.inr (.inl p)))) (lX (g:=g) fun y p=>a (by simp[Op.operands]at p ⊢;exact .inr (.inr (.inr p)))) f;exact NOk.of (s:=Instr.sliceAt t (g x) (lo.map g) (hi.map g) (mx.map g)) g1
 .rename_i s t x;exact NOk.of (A1L h C d A (a (x:=x) (by simp[Op.operands])) f).1
 .rename_i op t x y W;obtain⟨g1,g2,_⟩:=A2N (w:=w) d (a (x:=x) (by simp[Op.operands])) (a (x:=y) (by simp[Op.operands])) f;exact fin (s:=do eqGuard op t x y (g x) (g y);binOp op t (g x) (g y)) g1 g2
 .rename_i xs tys;have l1:=eU (ρ:=ρ) (fr:=fr) (g:=g) (xs:=xs.toList) fun x B=>a (by show x ∈ (#[]++xs:Array Operand).toList;simpa using B)
  split at d
  .rename_i x t rest u q;rw[u]at l1;obtain⟨x',r1,E,G,D⟩:=l1.tail
   have:=D.nil_inv;subst this;obtain⟨g1,g2,_⟩:=A2Z (w:=w) (ty:=ty) (tys:=rest) d G f;obtain⟨ks,F⟩:∃ ks,execOp g ⟨dst,.call ⟨.builtin .len,xs,tys⟩,ty,pos,L,M⟩=builtin .len tys ty ks (xs.map g):=⟨#[],rfl⟩;have I:xs.map g=⟨xs.toList.map g⟩:=by apply K0;simp
   have J:tys=⟨t::rest⟩:=by rw[<- q]
   rw[F,I,E,J];exact fin (s:=Builtin.len_ ⟨t::rest⟩ ty #[x']) g1 g2
  .cases d
 .rename_i xs tys;have l1:=eU (ρ:=ρ) (fr:=fr) (g:=g) (xs:=xs.toList) fun x B=>a (by show x ∈ (#[]++xs:Array Operand).toList;simpa using B)
  split at d
  .rename_i x y t t2 rest u q;rw[u]at l1;obtain⟨x',r1,E,G,D⟩:=l1.tail;obtain⟨y',V,N,T,S⟩:=D.tail
   have:=S.nil_inv;subst this
   have:=QV (ty:=ty) h C d A G T f;obtain⟨ks,F⟩:∃ ks,execOp g ⟨dst,.call ⟨.builtin .append,xs,tys⟩,ty,pos,L,M⟩=builtin .append tys ty ks (xs.map g):=⟨#[],rfl⟩;have I:xs.map g=⟨xs.toList.map g⟩:=by apply K0;simp
   have J:tys=⟨t::t2::rest⟩:=by rw[<- q]
   rw[F,I,E,N,J];have e:Builtin.append_ ⟨t::t2::rest⟩ ty #[x',y']=Builtin.append_ #[t,t2] ty #[x',y']:=rfl;refine NOk.of (s:=Builtin.append_ ⟨t::t2::rest⟩ ty #[x',y']) ?_;rw[e];exact this
  .cases d
 .cases d
def iV{wd o i t g:Nat}{z:Value}:∀ {a:I7} {j:Nat} {m m':Mem} {r:E0},n7 wd o i t z g a j m=some (r,m')->m.lg.le m'.lg
 | [],j,m,m',r,h=>by cases h;exact .refl _
 | tg::a,j,m,m',r,h=>by
   unfold n7 at h;cases d:Nat.blt tg 10 with
   | true =>
     rw[d]at h;simp only[F1]at h;split at h
     .rename_i f;split at h
      .rename_i hr;cases h;exact(J1 f).trans (iV hr)
      .cases h
     .cases h
   | false =>
     rw[d]at h;simp only[E7]at h;rw[MD]at h;split at h
     .rename_i hr;cases h;exact Z8.trans (iV hr)
     .cases h
def GE{r:Option (E0×Mem)}(h:oM P t r=some (v,m')):∃ vs,r=some (vs,m'):=by
 unfold oM at h;split at h
 .cases h;exact⟨_,rfl⟩
 .cases h;exact⟨_,rfl⟩
 .cases h
def A0S(a:MB P m t x=some (v,m')):m.lg.le m'.lg:=by
 unfold MB at a;split at a
 .obtain⟨_,a⟩:=A3 a;obtain⟨vs,h⟩:=GE a;exact iV h
 .split at a
  .obtain⟨_,a⟩:=A3 a;obtain⟨vs,h⟩:=GE a;exact iV h
  .cases a
 .cases a
def UN(a:zF P m t x y=some (v,m')):m.lg.le m'.lg:=by
 unfold zF at a;split at a
 .cases d:lU y with
  | true=>rw[d]at a;cases a
  | false =>
    rw[d]at a;simp only[E7]at a;split at a
    .rename_i f;split at a
     .obtain⟨_,a⟩:=A3 a;split at a
      .rename_i q;rw[P5]at a;simp only[hole]at a;obtain⟨n,_⟩:=pJ a;have md:=V8 Z0 f;have p:=P0 q;refine md.2.1.trans ?_;rw[(Y6 n).2,<- p.2.1];simp only[aH];exact⟨[_],rfl⟩
      .cases a
     .cases a
    .cases a
 .cases a
def A2g{t:Nat}{k:Value}(h:MO m i t z k=some (v,m')):m.lg.le m'.lg:=by
 unfold MO at h;cases a:!(Nat.blt (H6 z) 8)with
 | true=>rw[a]at h;cases h
 | false =>
   rw[a]at h;simp only[E7]at h;split at h
   .rename_i d;split at h
    .rename_i f;cases h;exact(J1 d).trans (gU f)
    .cases h
   .cases h
def MN(h:nZ P m t x z=some (v,m')):m.lg.le m'.lg:=by
 unfold nZ at h;split at h;all_goals first
  | (split at h
     .obtain⟨_,h⟩:=A3 h;exact A2g h
     .cases h;done)
  | (split at h
     .obtain⟨_,h⟩:=A3 h;rw[F5]at h;cases h;exact .refl _
     .cases h;done)
  | cases h
def NB{f:Nat}(h:oD P m s x f=some (v,m')):m.lg.le m'.lg:=by
 unfold oD at h;split at h;all_goals first
  | (split at h
     .split at h
      .obtain⟨_,h⟩:=A3 h;rw[F5]at h;cases h;exact .refl _
      .cases h
     .cases h;done)
  | cases h
def IS{t:Nat}(a:NG m b i t cl lo hi mx=some (v,m')):m.lg.le m'.lg:=by
 have go:∀ {m1:Mem} {l h:Value} {d:Bool},iZ m1 b i t l h d=some (v,m')->m1.lg.le m'.lg:=fun h=>by
  unfold iZ at h;obtain⟨_,h⟩:=A3 h;rw[P5]at h;simp only[D9,Q0]at h;obtain⟨_,rfl⟩:=h;exact Z8
 unfold NG NE at a;split at a
 .exact go a
 .exact go (A3 a).2
 .split at a
  .rename_i f;exact(dN f).2.trans (go a)
  .cases a
 .cases a
def UP(a:zH P m t x lo hi mx=some (v,m')):m.lg.le m'.lg:=by
 unfold zH at a;split at a
 .split at a
  .exact IS (A3 a).2
  .cases a
 .split at a
  .exact IS (A3 a).2
  .cases a
 .split at a
  .obtain⟨_,a⟩:=A3 a;split at a
   .rename_i d;exact(jX d).2.1.trans (IS a)
   .cases a
  .cases a
 .cases a
def A1M(a:NJ P m s t x=some (v,m')):m.lg.le m'.lg:=by
 unfold NJ at a;split at a
 .split at a
  .split at a
   .exact J1 (A3 a).2
   .cases a
  .cases a
 .split at a
  .split at a
   .rename_i d;rw[MI]at a;have n:=J1 a;exact(jX d).2.1.trans n
   .cases a
  .cases a
 .obtain⟨_,a⟩:=A3 a;split at a
  .split at a
   .split at a
    .rename_i p;rw[P5]at a;simp only[hole]at a;have f:=P0 p;rw[(bL a).2.1,aH,<- f.2.1];exact⟨[_],rfl⟩
    .cases a
   .cases a
  .cases a
 .cases a
def A2O{x y:Operand}{a b:Value}(f:A0I P m op t x y a b=some (v,m')):m.lg.le m'.lg:=by
 unfold A0I at f;split at f
 .obtain⟨_,d⟩:=A3 f;clear f;split at d
  .rename_i n;cases d;exact J1 n
  .rename_i n;exact(J1 n).trans (J1 d)
  .cases d
 .cases f
def A0P{l c:Value}(a:LW P m t l c=some (v,m')):m.lg.le m'.lg:=by
 unfold LW at a;split at a
 .obtain⟨_,a⟩:=A3 a;split at a
  .obtain⟨_,a⟩:=A3 a;split at a
   .obtain⟨_,a⟩:=A3 a;split at a
    .rename_i f;rw[P5]at a;simp only[hole]at a;have d:=P0 f;rw[(bL a).2.1,aH,<- d.2.1];exact⟨[_],rfl⟩
    .cases a
   .cases a
  .cases a
 .cases a
def A6E{fr:Fr}{o:Op}(a:dsM P fr m o=some (v,m')):m.lg.le m'.lg:=by
 unfold dsM at a;split at a
 .exact A0P a
 .exact A0S a
 .exact UN a
 .exact MN a
 .exact NB a
 .exact UP a
 .exact A1M a
 .exact A2O a
 .split at a
  .unfold A2a at a;split at a
   .exact(dN a).2
   .exact(dN a).2
   .exact(dN a).2
   .cases a
  .cases a
 .split at a
  .exact(JG a).2.1
  .cases a
 .cases a
end
end
end Go.Sx
