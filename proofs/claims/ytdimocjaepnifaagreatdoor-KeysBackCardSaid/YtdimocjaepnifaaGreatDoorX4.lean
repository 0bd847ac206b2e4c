import Derived.Test.YtdimocjaepnifaaGreatDoorX3
set_option linter.all false
set_option maxRecDepth 100000
set_option maxHeartbeats 4000000
namespace Go.Sx
variable {rows rows2:List (List U)}{b c cap g i j k o o' sh wd:Nat}{e s t t2 ty:TypeId}{inf:TypeInfo}{fz:Nat×Nat}{b' c' l' v x x' y y' z:Value}{l:Loc}{g0 gs:I1}{cl nul sure:Bool}{d2 ds:TypeDesc}{bh:Beh}{cs cs' new' vs:D4}{td:Td}{row us:List U}{hi lo mx:T5}{op:BinOp}
section
open Go
variable [Ora]
section
variable {P:Program} {base:Nat} {ρ ρ':Ren} {m m':Mem} {w w':World}
def Q7.move{R:Nat→Option Obj}{C C':Z5}(h:Q7 R rows wd C o)(hc:∀ i,i<rows.length*wd→C'[o'+i]? = C[o+i]?):Q7 R rows wd C' o':=by
 refine⟨h.1,fun r row j u v a1 a2 a3=>h.2 r row j u v a1 a2 ?_⟩;have hr1:=(B2.1 a1).1;have hj1:=(B2.1 a2).1;rw[h.1 _ (E6 a1)]at hj1;have h2:(r+1)*wd≤rows.length*wd:=G2 wd hr1;rw[I5]at h2
 have:=hc (r*wd+j) A1;rw[show o+r*wd+j=o+(r*wd+j) by omega,← this,show o'+(r*wd+j)=o'+r*wd+j by omega];exact a3
def Q7.append{R:Nat→Option Obj}{C:Z5}(h:Q7 R rows wd C o)(k:Q7 R rows2 wd C (o+rows.length*wd)):Q7 R (rows++rows2) wd C o:=by
 refine⟨fun row hr=>(B5.1 hr).elim (h.1 row) (k.1 row),fun r row j u v a1 a2 a3=>?_⟩;rcases G4 r rows.length with hl|hl
 ·rw[F2 hl]at a1;exact h.2 r row j u v a1 a2 a3
 ·rw[E3 hl]at a1;refine k.2 (r-rows.length) row j u v a1 a2 ?_;have:rows.length*wd+(r-rows.length)*wd=r*wd:=by rw[← I5];congr 1;omega
  rw[show o+rows.length*wd+(r-rows.length)*wd+j=o+r*wd+j by omega];exact a3
def B1t{t:Nat}{T:TypeId}{lg:Loc}{C:Z5}(hc:Ora.env c=.seq false wd rows)(ht:t=10+wd)(hi:P.info? T=some inf)(hs:inf.size=wd)(hcap:rows.length≤cap)(hroom:sh+cap*wd≤C.size)
  (hrows:Q7 lg.G rows wd C sh) (hg:ρ g=some lg) (hw:w.heap[b]? = some (.cells C T fz)) (hfz:∀ i,i<C.size→¬ (fz.1≤i∧i<fz.2)):BR P ρ (.sq c t T g false) ⟨b,sh,cap,rows.length,fun _=>none,true⟩ w :=
 ⟨⟨wd,inf,ht,hi,hs,.inr ⟨rfl,C,fz,T,rows,lg,hw,hc,rfl,hcap,hroom,hrows.1,hg,hrows.2,fun _=>⟨rfl,hfz⟩⟩⟩⟩
def dH{t:Nat}{T:TypeId}{lg:Loc}{C:Z5}(h:HR P base ρ m.H w)(hb:base≤w.heap.size)(hn:cA m c t T g=some (v,m'))(hf:L6 ρ m.n m'.hi)
  (hc:Ora.env c=.seq false wd rows) (ht:t=10+wd) (hi:P.info? T=some inf) (hs:inf.size=wd) (hcap:rows.length≤cap) (hroom:cap*wd≤C.size) (hrows:Q7 lg.G rows wd C 0) (hg:ρ g=some lg) (hfz:∀ i,i<C.size→¬ (fz.1≤i∧i<fz.2))
  (ho:w'.os=w.os∧w'.tape=w.tape∧w'.output=w.output) (hh:w'.heap=w.heap.push (.cells C T fz)):∃ ρ',VR ρ' v (.slice (some ⟨w.heap.size,0,none⟩) rows.length cap)∧St P base ρ ρ' m m' w w':=by
 have hfree:ρ m.n=none:=by
  obtain⟨_,_,rfl⟩:=N5 hn;exact hf m.n (B0 _) (M5 _ _).2
 obtain⟨rfl,e2,e3⟩:=St.alloc (w':=w') (l:=⟨w.heap.size,0,cap,rows.length,fun _=>none,true⟩) h hb hn hf ho hh rfl (B1t hc ht hi hs hcap A1 hrows (j9 hfree _ _ hg) (by rw[hh];simp) hfz);exact⟨_,.own (.inr ⟨_,wd,rows,e2,rfl,hc,rfl,hcap,rfl⟩) (by rw[hc];exact ht.symm) rfl,e3⟩
def qJ{t id:Nat}{T:TypeId}{ab:AB}{lg:Loc}{C:Z5}(h:HR P base ρ m.H w)(hle:id≤I4)(hgt:Hp.get m.H id=some ab)(hrw:ab.rw=true)(hl:ρ id=some l)(hon:l.on=true)
  (hn:cA (lS m id) c t T g=some (v,m')) (hf:L6 ρ m.n m'.hi)
  (hc:Ora.env c=.seq false wd rows) (ht:t=10+wd) (hi:P.info? T=some inf) (hs:inf.size=wd) (hcap:rows.length≤cap) (hroom:sh+cap*wd≤C.size) (hrows:Q7 lg.G rows wd C sh) (hg:ρ g=some lg) (hfz:∀ i,i<C.size→¬ (fz.1≤i∧i<fz.2))
  (ho:w'.os=w.os∧w'.tape=w.tape∧w'.output=w.output) (hsz:w'.heap.size=w.heap.size) (hk:∀ k,k≠l.blk→w'.heap[k]? = w.heap[k]?) (hw:w'.heap[l.blk]? = some (.cells C T fz)) :
  ∃ ρ',VR ρ' v (.slice (some ⟨l.blk,sh,none⟩) rows.length cap)∧St P base ρ ρ' m m' w w':=by
 have hfree:ρ m.n=none:=by
  have hn2:=hn;unfold cA at hn2;rw[v7]at hn2;obtain⟨_,_,rfl⟩:=N5 hn2;exact hf m.n (B0 _) (M5 _ _).2
 obtain⟨rfl,e2,e3⟩:=St.move (w':=w') (l':=⟨l.blk,sh,cap,rows.length,fun _=>none,true⟩) h hle hgt hrw hl hn hf (fun _=>⟨hon,rfl⟩) ho hsz (fun k hk'=>hk k (hk' hon)) (B1t hc ht hi hs hcap hroom hrows (j9 hfree _ _ hg) hw hfz) (fun h=>by cases h);exact⟨_,.own (.inr ⟨_,wd,rows,e2,rfl,hc,rfl,hcap,rfl⟩) (by rw[hc];exact ht.symm) rfl,e3⟩
def B0K:Loc:=⟨0,0,0,0,fun _=>none,false⟩
def FH{t:Nat}{T:TypeId}{old:Option Nat}(h:HR P base ρ m.H w)(hold:∀ b,old=some b→∃ ab l,b≤I4∧Hp.get m.H b=some ab∧ab.rw=true∧ρ b=some l∧l.on=false)
  (hn:cA (lR old m) c t T g=some (v,m')) (hf:L6 ρ m.n m'.hi) (hc:Ora.env c=.seq true wd []) (ht:t=10+wd) (hi:P.info? T=some inf) (hs:inf.size=wd):∃ ρ',VR ρ' v (.slice none 0 0)∧St P base ρ ρ' m m' w w:=by
 have hbr:∀ ρ':Ren,BR P ρ' (.sq c t T g false) B0K w:=fun ρ'=>⟨⟨wd,inf,ht,hi,hs,.inl ⟨rfl,hc⟩⟩⟩
 cases old with
 | none =>
   obtain⟨rfl,e2,e3⟩:=St.new0 (l':=B0K) h hn hf (hbr _) rfl fun q hq=>by
    rcases hq with⟨_,hq,_⟩|⟨hq,_⟩<;>cases hq
   exact⟨_,.own (.inl ⟨_,wd,e2,rfl,hc,rfl⟩) (by rw[hc];exact ht.symm) rfl,e3⟩
 | some b =>
   obtain⟨ab,l,h1,h2,h3,h4,h5⟩:=hold b rfl;obtain⟨rfl,e2,e3⟩:=St.move (w':=w) (l':=B0K) h h1 h2 h3 h4 hn hf (fun h=>by cases h) ⟨rfl,rfl,rfl⟩ rfl (fun _ _=>rfl) (hbr _) (fun h=>by cases h);exact⟨_,.own (.inl ⟨_,wd,e2,rfl,hc,rfl⟩) (by rw[hc];exact ht.symm) rfl,e3⟩
def vD(h:HR P base ρ m.H w)(ho:lT gs m=some (g,m'))(hf:L6 ρ m.n m'.hi)(hj:ρ j=some l):Hp.get m'.H j=Hp.get m.H j:=by
 have main:∀ {gs:I1},(bif gs.all (qO m)then match iY m fun b m=>some (undef,b,m)with
  | some (_,b,m)=>some (b,m)
  | none=>none else none)=some (g,m')→Hp.get m'.H j=Hp.get m.H j:=fun{gs} ho=>by
  obtain⟨h1,ho⟩:=A5 ho;split at ho
  ·rename_i r b m1 hn;cases ho;obtain⟨m2,q1,q2,_⟩:=T6 hn;cases q2;rw[nF q1 (h.dom j l hj),A3];intro e;subst e;obtain⟨_,_,rfl⟩:=N5 q1;rw[hf m.n (B0 _) (M5 _ _).2]at hj;cases hj
  ·cases ho
 unfold lT at ho;split at ho
 ·obtain⟨h1,ho⟩:=A5 ho;cases ho;rfl
 ·exact main ho
def P1(ho:lT gs m=some (g,m')):m.hi≤m'.hi∧m'.lg=m.lg∧m.n≤m'.n:=by
 have main:∀ {gs:I1},(bif gs.all (qO m)then match iY m fun b m=>some (undef,b,m)with
  | some (_,b,m)=>some (b,m)
  | none=>none else none)=some (g,m')→m.hi≤m'.hi∧m'.lg=m.lg∧m.n≤m'.n:=fun{gs} ho=>by
  obtain⟨h1,ho⟩:=A5 ho;split at ho
  ·rename_i r b m1 hn;cases ho;obtain⟨m2,q1,q2,_⟩:=T6 hn;cases q2;obtain⟨_,_,rfl⟩:=N5 q1;exact⟨(M5 _ _).1,rfl,c8 _⟩
  ·cases ho
 unfold lT at ho;split at ho
 ·obtain⟨h1,ho⟩:=A5 ho;cases ho;exact⟨B0 _,rfl,B0 _⟩
 ·exact main ho
def B5V(nul:Bool)(wd:Nat)(rows:List (List U)):List (List U)→U
 | []=>.seq nul wd rows
 | r0::r=>.seq false wd (rows++r0::r)
def PM(h:∃ n w r,oG nul wd rows rows2=.seq n w r):rows.length+rows2.length≤yE∧oG nul wd rows rows2=B5V nul wd rows rows2:=by
 by_cases hc:rows.length+rows2.length≤yE
 ·refine⟨hc,?_⟩;unfold oG;rw[A4 hc];cases rows2<;>rfl
 ·unfold oG at h;rw[A3 hc]at h;obtain⟨_,_,_,h⟩:=h;cases h
def UM{old:Option Nat} 
  (hu:P.underlying t=some (.slice e)) (hu2:P.underlying t2=some d2) (hd2:dX d2=true) (hi:P.info? e=some inf) (hz:iA P e=some z) (hzs:z.cells.size=inf.size) (hby:inf.bytes≤90000)
  (h:HR P base ρ m.H w) (hb:base≤w.heap.size) (ho:MT m e inf.size c old bh (g0++gs)=some (v,m')) (hf:L6 ρ m.n m'.hi) (hS:Sat m'.lg)
  (hbase:A4V P base ρ m w e inf.size c g0 old x') (hbeh:ZM P ρ w inf.size bh gs y' rows2 new'):VOk P base ρ m w (Builtin.append_ #[t,t2] ty #[x',y']) v m':=by
 unfold MT at ho;split at ho
 ·rename_i g m1 hj;rw[P9]at ho;have hmono:=P1 hj;generalize hlg:hJ m1 (10+inf.size) (eM inf.size (hole c (10+inf.size)) bh).1 (eM inf.size (hole c (10+inf.size)) bh).2=lg1 at ho;have hn2:m'.lg=lg1∧m1.hi≤m'.hi∧m1.n≤m'.n:=by
   unfold cA at ho;cases old with
   | none =>
     simp only[lR]at ho;obtain⟨_,_,rfl⟩:=N5 ho;exact⟨by simp,by simpa using(M5 m1.hi m1.n).1,by simp⟩
   | some b =>
     simp only[lR,v7]at ho;obtain⟨_,_,rfl⟩:=N5 ho;exact⟨by simp,by simpa using(M5 m1.hi m1.n).1,by simp⟩
  have hf1:L6 ρ m.n m1.hi:=hf.less hn2.2.1;obtain⟨ρ1,lg,e1,e2,e3,e4,e5,e6⟩:=gO h hj hf1;have hst1:St P base ρ ρ1 m (m1.wLg lg1) w w:=St.trans (by simpa using hf1) e1 (St.wLg e1.hr lg1);have hf2:L6 ρ1 (m1.wLg lg1).n m'.hi:=by simpa using hf.step e1
  have hS1:Sat (m1.wLg lg1).lg:=by simpa [← hn2.1]using hS
  obtain⟨nul,rows,hc,hx⟩:=hbase.ex;obtain⟨d1,d2,nx,wd2,rws,d3,d4⟩:=lX (m:=m1) (t:=10+inf.size) (op:=(eM inf.size (hole c (10+inf.size)) bh).1) (xs:=(eM inf.size (hole c (10+inf.size)) bh).2) (lg:=lg1) (by simpa using hS1) (by rw[s5,hlg];exact .refl _);rw[hbeh.ev c nul rows hc]at d1;obtain⟨hbig,hcat⟩:=PM ⟨nx,wd2,rws,d1.symm.trans d3⟩;rw[hcat]at d1;have hR1:∀ b ∈ g0,∀ l,ρ b=some l→Sub l.G lg.G:=fun b hb' l hl=>e6 b (B5.2 (.inl hb')) l hl
  have hR2:∀ b ∈ gs,∀ l,ρ b=some l→Sub l.G lg.G:=fun b hb' l hl=>e6 b (B5.2 (.inr hb')) l hl
  have hr2:=hbeh.rows lg.G hR2;have hfin:∀ {v':Value} {ρ2:Ren} {w2:World},(Builtin.append_ #[t,t2] ty #[x',y']).run P w=.ok v' w2→VR ρ2 v v'→St P base ρ1 ρ2 (m1.wLg lg1) m' w w2→VOk P base ρ m w (Builtin.append_ #[t,t2] ty #[x',y']) v m':=fun hr hv hs =>
   ⟨_,_,_,hr,hv,St.trans hf hst1 hs⟩
  have hzr:∀ w,(zeroValue e).run P w=.ok z w:=fun w=>aZ hz w
  have hget:∀ {j l},ρ j=some l→Hp.get (m1.wLg lg1).H j=Hp.get m.H j:=fun hj'=>by rw[pU];exact vD h hj hf1 hj'
  have hroomB:(3*(rows.length+rows2.length)+4000)*inf.bytes≤281474976710656:=by
   have h1:3*(rows.length+rows2.length)+4000≤3000004000:=by unfold yE at hbig;omega
   have h2:=oP h1 hby;omega
  have hbig2:rows.length+rows2.length≤1000000000:=hbig;rcases hx with⟨rfl,rfl,rfl,hold⟩|⟨rfl,b,ab,l,cap,C,fz,rfl,hbm,hbg,hbrw,hbl,hon,rfl,hheap,hcap,hroom,hnfz,hrws⟩
  ·
   have hold1:∀ b,old=some b→∃ ab l,b≤I4∧Hp.get (m1.wLg lg1).H b=some ab∧ab.rw=true∧ρ1 b=some l∧l.on=false:=fun b hb'=>by
    obtain⟨ab,l,q1,q2,q3,q4,q5⟩:=hold b hb';exact⟨ab,l,q1,by rw[hget q4];exact q2,q3,e1.ext _ _ q4,q5⟩
   cases hrow2:rows2 with
   | nil =>
     subst hrow2;have hc2:Ora.env m1.lg.nx=.seq true inf.size []:=d1;obtain⟨ρ2,q1,q2⟩:=FH hst1.hr hold1 ho hf2 hc2 rfl hi rfl;have hn0:new'=[]:=D3.1 (by rw[hbeh.size];simp);exact hfin (wM hu hu2 hd2 hi (fun wd=>hbeh.len wd) (by have:=hbeh.first w rfl;rw[hn0]at this;exact this)) q1 q2
   | cons r0 rr =>
     rw[hrow2]at d1;have hc2:Ora.env m1.lg.nx=.seq false inf.size rows2:=by rw[hrow2];exact d1
     obtain⟨nc,hnc,hrun⟩:=jP (P:=P) (w:=w) (ty:=ty) (a:=none) (n:=0) (c:=0) (k:=rows2.length) (old':=[]) (new':=new') (x':=y') hu hu2 hd2 hi hzr (fun wd=>hbeh.len wd) (fun _ _=>rfl) (fun wd hw=>hbeh.first wd hw) (by rw[hrow2];simp) (by simpa using hroomB) (by simpa using hbig2);obtain⟨m2,hn3,st2⟩:∃ m2,cA m2 m1.lg.nx (10+inf.size) e g=some (v,m')∧St P base ρ1 ρ1 (m1.wLg lg1) m2 w w:=by
      cases old with
      | none=>exact⟨_,ho,St.refl hst1.hr⟩
      | some b =>
        obtain⟨ab,l,q1,q2,q3,q4,q5⟩:=hold1 b rfl;exact⟨_,ho,St.kill hst1.hr q1 q2 q3⟩
     obtain⟨ρ2,q1,q2⟩:=dH (w':={ w.drew with heap:=w.heap.push (.cells (({ toList:=[] }:Array Value)++⟨new'⟩++Builtin.zeroCells z.cells (nc-(0+rows2.length))) e (0,0)) }) (cap:=nc) st2.hr hb hn3 (hf2.step st2) hc2 rfl hi rfl A1
      (by have:=fN (s:=inf.size) (k:=rows2.length) (n:=0) (nc:=nc) (z:=z) (old':=[]) hbeh.size hnc hzs (by simp);exact this)
      (hr2.move (C':=({ toList:=[] }:Array Value)++⟨new'⟩++Builtin.zeroCells z.cells (nc-(0+rows2.length))) (o':=0) fun i hi'=>by
        have hil:i<new'.length:=by rw[hbeh.size];exact hi'
        rw[G0 i];rw[OJ (A8 hil)];simp[hil]) (st2.ext _ _ e4) (fun i _ hh=>by have h1:0≤i:=hh.1;have h2:i<0:=hh.2;omega) ⟨rfl,rfl,rfl⟩ rfl
     exact hfin hrun (by rw[G0];exact q1) (St.trans hf2 st2 q2)
  ·
   have hg1:Hp.get (m1.wLg lg1).H b=some ab:=by rw[hget hbl];exact hbg
   have hrows1:=hrws lg.G hR1;have hbl1:=e1.ext _ _ hbl;cases hrow2:rows2 with
   | nil =>
     subst hrow2;have hc2:Ora.env m1.lg.nx=.seq false inf.size rows:=d1;have hn0:new'=[]:=D3.1 (by rw[hbeh.size];simp);obtain⟨ρ2,q1,q2⟩:=qJ (w':=w) (cap:=cap) (sh:=l.sh) hst1.hr hbm hg1 hbrw hbl1 hon ho hf2 hc2 rfl hi rfl hcap hroom hrows1 e4 hnfz ⟨rfl,rfl,rfl⟩ rfl (fun _ _=>rfl) hheap;have hrun:=oX (P:=P) (w:=w) (w':=w) (ty:=ty) (a:=⟨l.blk,l.sh,none⟩) (n:=rows.length) (k:=0) (c:=cap) (new':=new') hu hu2 hd2 hi (fun wd=>hbeh.len wd) (hbeh.first w rfl) A1 (by rw[hn0];rfl);exact hfin hrun q1 q2
   | cons r0 rr =>
     have hc2:Ora.env m1.lg.nx=.seq false inf.size (rows++rows2):=by rw[hrow2]at d1 ⊢;exact d1
     by_cases hfit:rows.length+rows2.length≤cap
     ·have hsum:(rows.length+rows2.length)*inf.size≤cap*inf.size:=G2 _ hfit;rw[I5]at hsum;obtain⟨w',r1,r2,r3,r4,r5⟩:=n7 (P:=P) (b:=l.blk) (o:=rows.length*inf.size+l.sh) (fz:=fz) new' 0 C w hheap hbeh.flat (by rw[hbeh.size];omega) hnfz;have hadd:(Addr.mk l.blk l.sh none).add (rows.length*inf.size)=⟨l.blk,rows.length*inf.size+l.sh,none⟩:=by
       unfold Addr.add;split
       ·rename_i h0;rw[h0];simp
       ·simp[lN]
      have hrun:=oX (P:=P) (w:=w) (w':=w') (ty:=ty) (a:=⟨l.blk,l.sh,none⟩) (n:=rows.length) (k:=rows2.length) (c:=cap) (new':=new') hu hu2 hd2 hi (fun wd=>hbeh.len wd) (hbeh.first w rfl) hfit (by rw[hadd];exact r1);have hlenC:(Array.mk (dG C.toList (rows.length*inf.size+l.sh+0) new')).size=C.size:=by simp[n8]
      have hg2:∀ j,(Array.mk (dG C.toList (rows.length*inf.size+l.sh+0) new'))[j]? = if rows.length*inf.size+l.sh≤j∧j<rows.length*inf.size+l.sh+new'.length then new'[j-(rows.length*inf.size+l.sh)]? else C[j]? := fun j=>by
       rw[K6,mZ _ _ _ _ (by simp;rw[hbeh.size];omega)];simp
      obtain⟨ρ2,q1,q2⟩:=qJ (w':=w') (cap:=cap) (sh:=l.sh) (C:=⟨dG C.toList (rows.length*inf.size+l.sh+0) new'⟩) hst1.hr hbm hg1 hbrw hbl1 hon ho hf2 hc2 rfl hi rfl (by simpa using hfit) (by rw[hlenC];exact hroom)
       (Q7.append (hrows1.move (o':=l.sh) fun i hi'=>by rw[hg2,A3 A1]) (hr2.move (o':=l.sh+rows.length*inf.size) fun i hi'=>by
         rw[hg2,A4 (by rw[hbeh.size];omega),show l.sh+rows.length*inf.size+i-(rows.length*inf.size+l.sh)=i by omega,G0];simp)) e4 (by rw[hlenC];exact hnfz) r2 r3 r5 r4
      rw[A7]at q1;exact hfin hrun q1 q2
     ·have hold:∃ old',old'.length=rows.length*inf.size∧(∀ i,i<rows.length*inf.size→old'[i]? = C[l.sh+i]?)∧∀ wd:World,wd.heap=w.heap→(Builtin.firstCells inf.size rows.length (.slice (some ⟨l.blk,l.sh,none⟩) rows.length cap)).run P wd=.ok ⟨old'⟩ wd:=by
       have hsum:rows.length*inf.size≤cap*inf.size:=G2 _ hcap;have hlen:((C.toList.drop l.sh).take (rows.length*inf.size)).length=rows.length*inf.size:=by simp;omega
       refine⟨(C.toList.drop l.sh).take (rows.length*inf.size),hlen,fun i hi'=>?_,fun wd hw=>?_⟩
       ·rw[F9 hi',H9];simp
       ·rw[show Builtin.firstCells inf.size rows.length (.slice (some ⟨l.blk,l.sh,none⟩) rows.length cap)=loadCells ⟨l.blk,l.sh,none⟩ (rows.length*inf.size)from rfl];refine L5 hlen fun j v' hj=>?_
        have hjl:=(B2.1 hj).1;rw[hlen]at hjl;rw[F9 hjl,H9]at hj;rw[cQ hw];have hj2:C[l.sh+j]? = some v':=by simpa using hj
        simp[World.cell?,hheap,hj2]
      obtain⟨old',o1,o2,o3⟩:=hold;obtain⟨nc,hnc,hrun⟩:=jP (P:=P) (w:=w) (ty:=ty) (a:=some ⟨l.blk,l.sh,none⟩) (n:=rows.length) (c:=cap) (k:=rows2.length) (old':=old') (new':=new') (x':=y') hu hu2 hd2 hi hzr (fun wd=>hbeh.len wd) o3 (fun wd hw=>hbeh.first wd hw) hfit hroomB hbig2;have hkill:=St.kill hst1.hr hbm hg1 hbrw;obtain⟨ρ2,q1,q2⟩:=dH (w':={ w.drew with heap:=w.heap.push (.cells (({ toList:=old' }:Array Value)++⟨new'⟩++Builtin.zeroCells z.cells (nc-(rows.length+rows2.length))) e (0,0)) }) (cap:=nc) hkill.hr hb ho (hf2.step hkill) hc2 rfl hi rfl (by simpa using hnc)
       (fN hbeh.size hnc hzs o1)
       (Q7.append (hrows1.move (C':=({ toList:=old' }:Array Value)++⟨new'⟩++Builtin.zeroCells z.cells (nc-(rows.length+rows2.length))) (o':=0) fun i hi'=>by
         have hl1:i<old'.length:=by rw[o1];exact hi'
         rw[G0 i,← o2 i hi',fO (u:=old'[i]) (by rw[F2 hl1,A8 hl1]),A8 hl1]) (hr2.move (o':=0+rows.length*inf.size) fun i hi'=>by
         have hl1:i<new'.length:=by rw[hbeh.size];exact hi'
         rw[G0 (rows.length*inf.size),G0 i,fO (u:=new'[i]) (by rw[E3 (by rw[o1];omega),o1,T8,A8 hl1])];simp[hl1])) (hkill.ext _ _ e4) (fun i _ hh=>by have h1:0≤i:=hh.1;have h2:i<0:=hh.2;omega) ⟨rfl,rfl,rfl⟩ rfl
      rw[A7]at q1;exact hfin hrun q1 (St.trans hf2 hkill q2)
 ·cases ho
end
end
section
open Go
variable [Ora]
section
variable {P:Program} {base:Nat} {ρ ρ':Ren} {m m':Mem} {w w':World}
def A47{a:Addr} 
  (hu:P.underlying t=some (.slice e)) (hu2:P.underlying t2=some d2) (hd2:dX d2=true) (hi:P.info? e=some inf) (hz:iA P e=some z) (hzs:z.cells.size=inf.size) (hby:inf.bytes≤90000)
  (h:HR P base ρ m.H w) (hb:base≤w.heap.size) (ho:MT m e inf.size c none bh (b::gs)=some (v,m')) (hf:L6 ρ m.n m'.hi) (hS:Sat m'.lg)
  (hc:Ora.env c=.seq false inf.size rows) (hl:ρ b=some l) (henc:Enc l.G (Ora.env c) (.slice (some a) rows.length rows.length)) (hbeh:ZM P ρ w inf.size bh gs y' rows2 new') (hsure:rows2≠[]) :
  VOk P base ρ m w (Builtin.append_ #[t,t2] ty #[.slice (some a) rows.length rows.length,y']) v m':=by
 unfold MT at ho;split at ho
 ·rename_i g m1 hj;rw[P9]at ho;have hmono:=P1 hj;generalize hlg:hJ m1 (10+inf.size) (eM inf.size (hole c (10+inf.size)) bh).1 (eM inf.size (hole c (10+inf.size)) bh).2=lg1 at ho;have ho:cA (m1.wLg lg1) m1.lg.nx (10+inf.size) e g=some (v,m'):=ho;have hn2:m'.lg=lg1∧m1.hi≤m'.hi∧m1.n≤m'.n:=by
   unfold cA at ho;obtain⟨_,_,rfl⟩:=N5 ho;exact⟨by simp,by simpa using(M5 m1.hi m1.n).1,by simp⟩
  have hf1:L6 ρ m.n m1.hi:=hf.less hn2.2.1;obtain⟨ρ1,lg,e1,e2,e3,e4,e5,e6⟩:=gO h hj hf1;have hst1:St P base ρ ρ1 m (m1.wLg lg1) w w:=St.trans (by simpa using hf1) e1 (St.wLg e1.hr lg1);have hf2:L6 ρ1 (m1.wLg lg1).n m'.hi:=by simpa using hf.step e1
  have hS1:Sat (m1.wLg lg1).lg:=by simpa [← hn2.1]using hS
  obtain⟨d1,d2,nx,wd2,rws,d3,d4⟩:=lX (m:=m1) (t:=10+inf.size) (op:=(eM inf.size (hole c (10+inf.size)) bh).1) (xs:=(eM inf.size (hole c (10+inf.size)) bh).2) (lg:=lg1) (by simpa using hS1) (by rw[s5,hlg];exact .refl _);rw[hbeh.ev c false rows hc]at d1;obtain⟨hbig,hcat⟩:=PM ⟨nx,wd2,rws,d1.symm.trans d3⟩;rw[hcat]at d1;have hR1:Sub l.G lg.G:=e6 b (.head _) l hl;have hR2:∀ b ∈ gs,∀ l,ρ b=some l→Sub l.G lg.G:=fun b hb' l hl=>e6 b (.tail _ hb') l hl
  have hr2:=hbeh.rows lg.G hR2;have hzr:∀ w,(zeroValue e).run P w=.ok z w:=fun w=>aZ hz w
  have hroomB:(3*(rows.length+rows2.length)+4000)*inf.bytes≤281474976710656:=by
   have h1:3*(rows.length+rows2.length)+4000≤3000004000:=by unfold yE at hbig;omega
   have h2:=oP h1 hby;omega
  have hbig2:rows.length+rows2.length≤1000000000:=hbig;have hpos:0<rows2.length:=R4.2 hsure;have hc2:Ora.env m1.lg.nx=.seq false inf.size (rows++rows2):=by
   cases rows2 with
   | nil=>exact absurd rfl hsure
   | cons r0 rr=>exact d1
  rw[hc]at henc;obtain⟨_,old',o1,o2,o3,o4⟩:=vQ (w:=w) (henc.mono hR1) ((e1.hr.atl e4 e5).1.2);have o5:∀ wd:World,wd.heap=w.heap→(Builtin.firstCells inf.size rows.length (.slice (some a) rows.length rows.length)).run P wd=.ok ⟨old'⟩ wd:=fun wd hw=>by
   rw[show Builtin.firstCells inf.size rows.length (.slice (some a) rows.length rows.length)=loadCells a (rows.length*inf.size)from rfl];exact nL o1 fun j v' hj=>by rw[cQ hw];exact o4 j v' hj
  obtain⟨nc,hnc,hrun⟩:=jP (P:=P) (w:=w) (ty:=ty) (a:=some a) (n:=rows.length) (c:=rows.length) (k:=rows2.length) (old':=old') (new':=new') (x':=y') hu hu2 hd2 hi hzr (fun wd=>hbeh.len wd) o5 (fun wd hw=>hbeh.first wd hw) A1 hroomB hbig2;obtain⟨ρ2,q1,q2⟩:=dH (w':={ w.drew with heap:=w.heap.push (.cells (({ toList:=old' }:Array Value)++⟨new'⟩++Builtin.zeroCells z.cells (nc-(rows.length+rows2.length))) e (0,0)) }) (cap:=nc) hst1.hr hb ho hf2 hc2 rfl hi rfl (by simpa using hnc)
   (fN hbeh.size hnc hzs o1)
   (Q7.append (o3.move (C':=({ toList:=old' }:Array Value)++⟨new'⟩++Builtin.zeroCells z.cells (nc-(rows.length+rows2.length))) (o':=0) fun i hi'=>by
     have hl1:i<old'.length:=by rw[o1];exact hi'
     rw[G0 i,fO (u:=old'[i]) (by rw[F2 hl1,A8 hl1])];simp[hl1]) (hr2.move (o':=0+rows.length*inf.size) fun i hi'=>by
     have hl1:i<new'.length:=by rw[hbeh.size];exact hi'
     rw[G0 (rows.length*inf.size),G0 i,fO (u:=new'[i]) (by rw[E3 (by rw[o1];omega),o1,T8,A8 hl1])];simp[hl1])) e4 (fun i _ hh=>by have h1:0≤i:=hh.1;have h2:i<0:=hh.2;omega) ⟨rfl,rfl,rfl⟩ rfl
  rw[A7]at q1;exact⟨_,_,_,hrun,q1,St.trans hf hst1 q2⟩
 ·cases ho
def ZI(htd:CW P td)(ho:A34 td P m e wd y=some (bh,gs,sure,m')):m.hi≤m'.hi∧m.lg.le m'.lg∧m.n≤m'.n:=by
 unfold A34 at ho;split at ho
 ·cases ho;exact⟨B0 _,.refl _,B0 _⟩
 ·split at ho
  ·split at ho
   ·rename_i hd;cases ho;exact V0 htd hd
   ·cases ho
  ·cases ho
 ·split at ho
  ·rename_i hd;cases ho;exact htd.mono hd
  ·cases ho
 ·obtain⟨h1,ho⟩:=A5 ho;cases ho;exact⟨B0 _,.refl _,B0 _⟩
def lJ(htd:CW P td){old:Option Nat}(ho:HB td P m e wd x=some (c,gs,old,m')):m.hi≤m'.hi∧m.lg.le m'.lg∧m.n≤m'.n:=by
 unfold HB at ho;split at ho
 ·rw[P9]at ho;simp only[hole]at ho;cases ho;exact⟨by simp,Z0,by simp⟩
 ·split at ho
  ·obtain⟨h1,ho⟩:=A5 ho;cases ho;exact⟨B0 _,.refl _,B0 _⟩
  ·cases ho
 ·split at ho
  ·obtain⟨h1,ho⟩:=A5 ho;split at ho
   ·rename_i hd;split at ho
    ·obtain⟨h1,ho⟩:=A5 ho;rw[P9]at ho;simp only[hole]at ho;cases ho
     have:=V0 htd hd;exact⟨by simpa using this.1,this.2.1.trans Z0,by simpa using this.2.2⟩
    ·cases ho
   ·cases ho
  ·cases ho
 ·cases ho
def aB{t:Nat}{T:TypeId}(h:cA m c t T g=some (v,m')):m.hi≤m'.hi∧m'.lg=m.lg∧m.n≤m'.n:=by
 unfold cA at h;obtain⟨_,_,rfl⟩:=N5 h;exact⟨(M5 _ _).1,rfl,c8 _⟩
def cK(old:Option Nat)(m:Mem):(lR old m).hi=m.hi∧(lR old m).lg=m.lg∧(lR old m).n=m.n:=by
 cases old with
 | none=>exact⟨rfl,rfl,rfl⟩
 | some b=>simp[lR,v7]
def oZ{old:Option Nat}(ho:MT m e wd c old bh gs=some (v,m')):m.hi≤m'.hi∧m.lg.le m'.lg∧m.n≤m'.n:=by
 unfold MT at ho;split at ho
 ·rename_i g m1 hj;rw[P9]at ho;have a:=P1 hj;have b:=aB ho;obtain⟨k1,k2,k3⟩:=cK old (m1.wLg (hJ m1 (10+wd) (eM wd (hole c (10+wd)) bh).1 (eM wd (hole c (10+wd)) bh).2));refine⟨?_,?_,?_⟩
  ·have:=b.1;rw[k1]at this;simp at this;omega
  ·rw[b.2.1,k2,← a.2.1];exact Z0
  ·have:=b.2.2;rw[k3]at this;simp at this;omega
 ·cases ho
def RS{t:Nat}{T:TypeId}{old:Option Nat}(h:HR P base ρ m.H w)(hold:∀ b,old=some b→b≤I4∧Hp.get m.H b≠some .frz)(ho:cA (lR old m) c t T g=some (v,m'))(hf:L6 ρ m.n m'.hi):x3 ρ m m':=fun j l h1 h2=>by
 have hn:=cK old m;unfold cA at ho;rw[nF ho (h.dom j l h1),A3]
 ·cases old with
  | none=>exact h2
  | some b =>
    show Hp.get (lS m b).H j=_;rw[v7];show Hp.get (m.H.set b none) j=_;obtain⟨hb,hne⟩:=hold b rfl;rw[F7 _ _ _ _ hb (h.dom j l h1),A3]
    ·exact h2
    ·intro e;subst e;exact hne h2
 ·intro e;obtain⟨_,_,rfl⟩:=N5 ho;rw[hn.2.2]at e;subst e;rw[hf m.n (B0 _) (gX (Nat.le_of_eq hn.2.2.symm) (M5 (lR old m).hi (lR old m).n).2)]at h1;cases h1
omit [Ora] in
def RA(h:P.info? e=some inf):H7 P e=some inf.size:=by unfold H7;rw[h]
def FD(htd:CW P td)(ho:YK td P m e wd x=some (v,m')):m.hi≤m'.hi∧m.lg.le m'.lg∧m.n≤m'.n:=by
 unfold YK at ho;split at ho
 ·obtain⟨_,ho⟩:=A5 ho;split at ho
  ·rename_i hb;have a:=lJ htd hb;split at ho
   ·rename_i hj;have b:=P1 hj;have c:=aB ho;refine⟨?_,?_,?_⟩
    ·have:=c.1;rw[(cK _ _).1]at this;omega
    ·rw[c.2.1,(cK _ _).2.1,b.2.1];exact a.2.1
    ·have:=c.2.2;rw[(cK _ _).2.2]at this;omega
   ·cases ho
  ·cases ho
 ·cases ho
def UR(htd:CW P td)(h:HR P base ρ m.H w)(ho:YK td P m e wd x=some (v,m'))(hf:L6 ρ m.n m'.hi)(hx:VR ρ x x')(hS:Sat m'.lg) :
  ∃ ρ',VR ρ' v x'∧St P base ρ ρ' m m' w w∧m.lg.le m'.lg∧x3 ρ m m':=by
 unfold YK at ho;split at ho
 ·rename_i inf hi;obtain⟨h1,ho⟩:=A5 ho;obtain⟨h1,h2⟩:=B8 h1;have h1:=A0 h1;have h2:0<wd:=A2 h2;split at ho
  ·rename_i c gs old m1 hb;have a:=lJ htd hb;split at ho
   ·rename_i g m2 hj;have b:=P1 hj;have cm:=aB ho;have k1:=cK old m2;have hlg:m'.lg=m1.lg:=by rw[cm.2.1,k1.2.1,b.2.1]
    have hhi:m2.hi≤m'.hi:=by have:=cm.1;rw[k1.1]at this;exact this
    obtain⟨ρ1,e1,e2,e3,e4⟩:=PY htd h hb (hf.less (C4 b.1 hhi)) hx (by rw[← hlg];exact hS) h2 (h1▸RA hi);have hf1:L6 ρ1 m1.n m'.hi:=hf.step e1;obtain⟨ρ2,lg,j1,j2,j3,j4,j5,j6⟩:=gO e1.hr hj (hf1.less hhi);have hf2:L6 ρ2 m2.n m'.hi:=hf1.step j1;obtain⟨nul,rows,hc,hxx⟩:=e4.ex;have hget:∀ {j l},ρ1 j=some l→Hp.get m2.H j=Hp.get m1.H j:=fun hj'=>vD e1.hr hj (hf1.less hhi) hj'
    have hle:m.lg.le m'.lg:=by rw[hlg];exact a.2.1
    have hkeep:(∀ b,old=some b→b≤I4∧Hp.get m2.H b≠some .frz)→x3 ρ m m':=fun hq=>(e3.trans e1.ext j3).trans (fun b l hb=>j1.ext b l (e1.ext b l hb)) (RS j1.hr hq ho hf2)
    rcases hxx with⟨rfl,rfl,rfl,hold⟩|⟨rfl,b0,ab,l,cap,C,fz,rfl,hbm,hbg,hbrw,hbl,hon,rfl,hheap,hcap,hroom,hnfz,hrws⟩
    ·have hold1:∀ b,old=some b→∃ ab l,b≤I4∧Hp.get m2.H b=some ab∧ab.rw=true∧ρ2 b=some l∧l.on=false:=fun b hb'=>by
      obtain⟨ab,l,q1,q2,q3,q4,q5⟩:=hold b hb';exact⟨ab,l,q1,by rw[hget q4];exact q2,q3,j1.ext _ _ q4,q5⟩
     obtain⟨ρ3,q1,q2⟩:=FH j1.hr hold1 ho hf2 hc rfl hi h1;exact⟨ρ3,q1,St.trans hf e1 (St.trans hf1 j1 q2),hle,hkeep fun b hb'=>by
      obtain⟨ab,l,q1,q2,q3,_⟩:=hold1 b hb';exact⟨q1,fun he=>by rw[q2]at he;cases he;cases q3⟩⟩
    ·have hg1:Hp.get m2.H b0=some ab:=by rw[hget hbl];exact hbg
     obtain⟨ρ3,q1,q2⟩:=qJ (w':=w) (cap:=cap) (sh:=l.sh) j1.hr hbm hg1 hbrw (j1.ext _ _ hbl) hon ho hf2 hc rfl hi h1 hcap hroom (hrws lg.G fun b hb l hl=>j6 b hb l hl) j4 hnfz ⟨rfl,rfl,rfl⟩ rfl (fun _ _=>rfl) hheap;exact⟨ρ3,q1,St.trans hf e1 (St.trans hf1 j1 q2),hle,hkeep fun b hb'=>by
      cases hb';exact⟨hbm,fun he=>by rw[hg1]at he;cases he;cases hbrw⟩⟩
   ·cases ho
  ·cases ho
 ·cases ho
def TS:∀ (d:Nat),CW P (A0L P d)
 | 0=>A0M
 | d+1=>by
   have ih:=TS d;refine⟨fun{base ρ m m' w t v v' x b} h ho hf hv hS=>?_,fun{m m' t v x b} ho=>?_⟩
   ·unfold A0L at ho;split at ho
    ·split at ho
     ·split at ho
      ·rename_i x1 m1 hn;have a:=jJ ho;obtain⟨ρ1,c1,c2,c3,c4⟩:=UR ih h hn (hf.less a.1) hv (hS.le a.2.1);obtain⟨ρ2,l,d1,d2,d3,d4,d5,d6⟩:=HO c2.hr ho (hf.step c2) c1 hS;exact⟨ρ2,l,St.trans hf c2 d1,d2,d3,d4,d5,c3.trans d6,c4.trans c2.ext (LA c2.hr ho (hf.step c2))⟩
      ·cases ho
     ·cases ho
    ·exact A0M.ok h ho hf hv hS
   ·unfold A0L at ho;split at ho
    ·split at ho
     ·split at ho
      ·rename_i x1 m1 hn;have a:=FD ih hn;have b:=jJ ho;exact⟨C4 a.1 b.1,a.2.1.trans b.2.1,C4 a.2.2 b.2.2⟩
      ·cases ho
     ·cases ho
    ·exact jJ ho
def X9:CW P (tdP P):=TS 3
def KH(ho:uK P m t t2 x y=some (v,m')):m.hi≤m'.hi∧m.lg.le m'.lg∧m.n≤m'.n:=by
 unfold uK at ho;split at ho
 ·rename_i e d2 hu hu2;cases hd2:dX d2 with
  | false=>rw[hd2]at ho;cases ho
  | true =>
    rw[hd2]at ho;simp only[Q3,E7]at ho;split at ho
    ·obtain⟨_,ho⟩:=A5 ho;split at ho
     ·rename_i hbeh;have a:=ZI X9 hbeh;split at ho
      ·rename_i hba;have b:=lJ X9 hba;have c:=oZ ho;exact⟨A1,a.2.1.trans (b.2.1.trans c.2.1),A1⟩
      ·split at ho
       ·obtain⟨_,ho⟩:=A5 ho;have c:=oZ ho;exact⟨A1,a.2.1.trans c.2.1,A1⟩
       ·cases ho
     ·cases ho
    ·cases ho
 ·cases ho
def ZM.step(h:ZM P ρ w wd bh gs y' rows2 new')(hg:∀ b ∈ gs,∃ l,ρ b=some l)(he:∀ b l,ρ b=some l→ρ' b=some l):ZM P ρ' w wd bh gs y' rows2 new' :=
 ⟨h.len,h.first,h.size,h.flat,fun R hR=>h.rows R fun b hb l hl=>hR b hb l (he b l hl),h.ev⟩
def ZO{n:Nat}(h:ZP P e n=true):∃ z,iA P e=some z∧z.cells.size=n:=by
 unfold ZP at h;split at h
 ·rename_i z hz;exact⟨z,hz,A0 h⟩
 ·cases h
def TG(h:HR P base ρ m.H w)(hb:base≤w.heap.size)(ho:uK P m t t2 x y=some (v,m'))(hf:L6 ρ m.n m'.hi)(hx:VR ρ x x')(hy:VR ρ y y')(hS:Sat m'.lg) :
  VOk P base ρ m w (Builtin.append_ #[t,t2] ty #[x',y']) v m':=by
 unfold uK at ho;split at ho
 ·rename_i e d2 hu hu2;cases hd2:dX d2 with
  | false=>rw[hd2]at ho;cases ho
  | true =>
    rw[hd2]at ho;simp only[Q3,E7]at ho;split at ho
    ·rename_i inf hi;obtain⟨hq,ho1⟩:=A5 ho;clear ho;obtain⟨hq1,hq2⟩:=B8 hq;obtain⟨hq3,hq4⟩:=B8 hq1;have hby:=A2 hq3;have hwd:0<inf.size:=A2 hq4;obtain⟨z,hz,hzs⟩:=ZO hq2;have hsz:H7 P e=some inf.size:=by unfold H7;rw[hi]
     split at ho1
     ·rename_i bh gs sure m1 hbeh;split at ho1
      ·rename_i c g0 old m2 hba;have mb:=lJ X9 hba;have mp:=oZ ho1;have hf1:L6 ρ m.n m1.hi:=hf.less A1;obtain⟨ρ1,rows2,new',a1,a2,a3,a4,a5,a6⟩:=WZ X9 h hbeh hf1 hy (hS.le (mb.2.1.trans mp.2.1)) hwd hsz;have hf2:L6 ρ1 m1.n m'.hi:=hf.step a1;obtain⟨ρ2,b1,b2,b3,b4⟩:=PY X9 a1.hr hba (hf2.less mp.1) (hx.mono a1.ext) (hS.le mp.2.1) hwd hsz;obtain⟨v',ρ3,w3,c1,c2,c3⟩:=UM (ty:=ty) hu hu2 hd2 hi hz hzs hby b1.hr hb ho1 (hf2.step b1) hS b4 (a5.step (fun b hb'=>(a4 b hb').2) b1.ext);exact⟨v',ρ3,w3,c1,c2,St.trans hf (St.trans (hf.less mp.1) a1 b1) c3⟩
      ·split at ho1
       ·rename_i b c tg hbn;obtain⟨htg,ho2⟩:=A5 ho1;clear ho1;have htg:=A0 htg;have mp:=oZ ho2;have hf1:L6 ρ m.n m1.hi:=hf.less A1;obtain⟨ρ1,rows2,new',a1,a2,a3,a4,a5,a6⟩:=WZ X9 h hbeh hf1 hy (hS.le mp.2.1) hwd hsz;have hf2:L6 ρ1 m1.n m'.hi:=hf.step a1;obtain⟨l,d1,d2,d3,d4,d5⟩:=iM hx;obtain⟨nul,wd2,rows,q1,q2⟩:=iP d2 d3 d4;have hw2:wd2=inf.size:=A1;subst hw2;rw[q1]at d2;rcases aR d2 with⟨rfl,rfl,rfl⟩|⟨rfl,a,cap,rfl,hc⟩
        ·have hbase:A4V P base ρ1 m1 w e inf.size c [b] none (.slice none 0 0):=⟨true,[],q1,.inl ⟨rfl,rfl,rfl,fun b hb=>by cases hb⟩⟩;obtain⟨v',ρ3,w3,c1,c2,c3⟩:=UM (ty:=ty) (g0:=[b]) (gs:=gs) hu hu2 hd2 hi hz hzs hby a1.hr hb ho2 hf2 hS hbase a5;exact⟨v',ρ3,w3,c1,c2,St.trans hf a1 c3⟩
        ·have hcap:cap=rows.length:=d5;subst hcap;obtain⟨v',ρ3,w3,c1,c2,c3⟩:=A47 (ty:=ty) hu hu2 hd2 hi hz hzs hby a1.hr hb ho2 hf2 hS q1 (a1.ext _ _ d1) (by rw[q1];exact d2) a5 (a6 rfl);exact⟨v',ρ3,w3,c1,c2,St.trans hf a1 c3⟩
       ·cases ho1
     ·cases ho1
    ·cases ho
 ·cases ho
end
end
section
open Go
variable [Ora]
section
variable {P:Program} {base:Nat} {ρ ρ':Ren} {m m':Mem} {w w':World}
def MM(h:o+us.length≤row.length):(RM row o us).length=row.length:=by
 unfold RM;simp;omega
def A1b(h:o+us.length≤row.length):(RM row o us)[j]? = if o≤j∧j<o+us.length then us[j-o]? else row[j]? := by
 unfold RM;have hto:(row.take o).length=o:=by simp;omega
 by_cases h1:j<o
 ·rw[A3 A1,F3,F2 A1,F9 h1]
 ·by_cases h2:j<o+us.length
  ·rw[A4 ⟨A1,h2⟩,F3,E3 A1,hto,F2 A1]
  ·rw[A3 A1,E3 (by simp;omega),H9];congr 1
   simp;omega
def Q7.set{R:Nat→Option Obj}{s:Nat}{C C':Z5}(h:Q7 R rows wd C s)(hk:k<rows.length)(ho:o+us.length≤wd)(he:m7 R us vs)
  (hC:∀ j,C'[j]? = if s+k*wd+o≤j∧j<s+k*wd+o+vs.length then vs[j-(s+k*wd+o)]? else C[j]?):Q7 R (rows.set k (RM (rows.getD k []) o us)) wd C' s:=by
 have hrow:rows[k]? = some rows[k]:=A8 hk;have hgd:rows.getD k []=rows[k]:=by rw[B4,hrow];rfl
 have hrl:rows[k].length=wd:=h.1 _ (N9 hk);rw[hgd];refine⟨fun row hr=>?_,fun r row j u v a1 a2 a3=>?_⟩
 ·rcases List.mem_or_eq_of_mem_set hr with h1|rfl
  ·exact h.1 row h1
  ·rw[MM A1];exact hrl
 ·rw[hC]at a3;by_cases hrk:k=r
  ·subst hrk;rw[d8 hk]at a1;have a1:=B1 a1;subst a1;have hj:=(B2.1 a2).1;rw[MM A1,hrl]at hj;rw[A1b A1]at a2;by_cases hin:o≤j∧j<o+us.length
   ·rw[A4 hin]at a2;rw[A4 (by rw[← he.1];omega)]at a3;exact he.2 (j-o) u v a2 (by rw[← a3];congr 1;omega)
   ·rw[A3 hin]at a2;rw[A3 (by rw[← he.1];omega)]at a3;exact h.2 k _ j u v hrow a2 a3
  ·rw[dR hrk]at a1;have hj:=(B2.1 a2).1;rw[h.1 _ (E6 a1)]at hj;have hr1:=(B2.1 a1).1;have hvl:=he.1;rw[A3]at a3
   ·exact h.2 r row j u v a1 a2 a3
   ·rcases G4 r k with hlt|hge
    ·have h2:(r+1)*wd≤k*wd:=G2 wd hlt;rw[I5]at h2;omega
    ·have h2:(k+1)*wd≤r*wd:=G2 wd A1;rw[I5]at h2;omega
def XQ(h:HR P base ρ m.H w)(ho:zW P m t x y=some (v,m'))(hf:L6 ρ m.n m'.hi)(hx:VR ρ x x')(hy:VR ρ y y')(hS:Sat m'.lg):UOk P base ρ m w (Instr.storeAt t x' y') m'∧v=undef∧m.lg.le m'.lg:=by
 unfold zW at ho;split at ho
 ·rename_i b i tg z o ts hts;cases hw0:lD y with
  | true=>rw[hw0]at ho;cases ho
  | false =>
  rw[hw0]at ho;simp only[E7]at ho;split at ho
  ·rename_i xs gs m1 hd;split at ho
   ·rename_i c tc T g hg;obtain⟨htc,ho1⟩:=A5 ho;clear ho;have htc:=A0 htc;split at ho1
    ·rename_i g2 m2 hj;rw[P9]at ho1;simp only[hole]at ho1;obtain⟨hs,rfl⟩:=pE ho1;obtain⟨hsle,hsm⟩:=X5 hs;have md:=V0 X9 hd;have mj:=P1 hj;have hhi:m2.hi=m'.hi:=by rw[hsm];simp
     have hlg:m'.lg=hJ m2 tg (.set (tg-10) o) (hole c tg::z::xs):=by rw[hsm];simp[hole]
     have hle2:m2.lg.le m'.lg:=by rw[hlg];exact⟨[_],rfl⟩
     have hf1:L6 ρ m.n m1.hi:=hf.less A1;have hl2:m1.lg.le m'.lg:=by rw[← mj.2.1];exact hle2
     obtain⟨ρ1,e1,e2,e3,e4,e5,e6⟩:=kL X9 h hd hf1 (hy.cells hw0) (hS.le hl2);have hf2:L6 ρ1 m1.n m2.hi:=(hf.step e1).less A1;obtain⟨ρ2,lg,d1,d2,d3,d4,d5,d6⟩:=gO e1.hr hj hf2;obtain⟨⟨l,wd,pY,k,a1,a2,a3,a4,a5,a6,rfl⟩,a8⟩:=yX hx;have a1':=e1.ext _ _ a1;obtain⟨wd2,inf,q1,q2,q3,q4⟩:=SqR.ex (e1.hr.atl a1' hg).1;rcases q4 with⟨q4,_⟩|⟨_,q4⟩
     ·rw[a2]at q4;cases q4
     obtain⟨C,fz,T',rows,lg0,f1,f2,f3,f4,f5,f6,f7,f8,f9⟩:=q4;have hwd:wd2=wd:=by
      have:tg=10+wd:=by rw[← a8,a3];rfl
      omega
     subst hwd;obtain⟨rfl,f10⟩:=f9 rfl;have htg:tg=10+wd2:=A1;have hS2:Sat (m2.wLg (hJ m2 tg (.set (tg-10) o) (hole c tg::z::xs))).lg:=by rw[s5,← hlg];exact hS
     obtain⟨r1,r2,nul,wd3,rws,r3,r4⟩:=lX hS2 (.refl _);obtain⟨kk,hz⟩:=KG a4;have hargs:(hole c tg::z::xs).map (E5 Ora.env)=.seq false wd2 rows::.int kk (.ofNat k)::xs.map (E5 Ora.env):=by
      show Ora.env c::E5 Ora.env z::xs.map (E5 Ora.env)=_;rw[f2,hz]
     rw[hargs,show tg-10=wd2 by omega]at r1;have r1:Ora.env m2.lg.nx=if wd2=wd2∧k<rows.length∧o+(xs.map (E5 Ora.env)).length≤wd2 then .seq false wd2 (rows.set k (RM (rows.getD k []) o (xs.map (E5 Ora.env))))else .none:=r1
     by_cases hc:wd2=wd2∧k<rows.length∧o+(xs.map (E5 Ora.env)).length≤wd2
     ·rw[A4 hc]at r1;obtain⟨_,hkl,hol⟩:=hc;have hR:∀ b' ∈ gs,∀ l',ρ1 b'=some l'→Sub l'.G lg.G:=fun b' hb' l' hl'=>d6 b' (.tail _ hb') l' hl'
      have henc:=e6 lg.G hR;have hsub0:Sub lg0.G lg.G:=d6 g (.head _) lg0 f7;have hvl:y'.cells.toList.length=(xs.map (E5 Ora.env)).length:=henc.1.symm;have hk2:(k+1)*wd2≤l.cap*wd2:=G2 wd2 A1;rw[I5]at hk2;obtain⟨w',g1,g2',g3,g4,g5⟩:=n7 (P:=P) (b:=l.blk) (o:=l.sh+k*wd2+o) (fz:=fz) y'.cells.toList 0 C w f1 (GG henc) (by rw[hvl];omega) f10;have hCl:C.toList.length=C.size:=U6;have hlenC:(Array.mk (dG C.toList (l.sh+k*wd2+o+0) y'.cells.toList)).size=C.size:=by simp[n8]
      have hCg:∀ j,(Array.mk (dG C.toList (l.sh+k*wd2+o+0) y'.cells.toList))[j]? = if l.sh+k*wd2+o≤j∧j<l.sh+k*wd2+o+y'.cells.toList.length then y'.cells.toList[j-(l.sh+k*wd2+o)]? else C[j]? := fun j=>by
       rw[K6,mZ _ _ _ _ (by rw[hvl];omega)];simp
      have hrows:Q7 lg.G rows wd2 C l.sh:=Q7.mono ⟨f6,f8⟩ hsub0;have hst1:St P base ρ ρ2 m (m2.wLg (hJ m2 tg (.set (tg-10) o) (hole c tg::z::xs))) w w:=St.trans (hf.less (by simp;omega)) (St.trans (hf.less A1) e1 d1) (St.wLg d1.hr _);have hgetb:Hp.get (m2.wLg (hJ m2 tg (.set (tg-10) o) (hole c tg::z::xs))).H b=some (.sq c tc T' g false):=by rw[pU,vD e1.hr hj hf2 a1'];exact hg
      have hl2':=d1.ext _ _ a1';have hbr:BR P ρ2 (.sq m2.lg.nx tg T' g2 false) l w':=by
       refine⟨⟨wd2,inf,htg,q2,q3,.inr ⟨a2,_,fz,T',_,lg,g4,r1,by rw[lZ];exact f3,f4,by rw[hlenC];exact f5,(hrows.set hkl hol henc hCg).1,d4,(hrows.set hkl hol henc hCg).2,fun _=>⟨rfl,by rw[hlenC];exact f10⟩⟩⟩⟩
      have hst2:=St.write hst1.hr hs hgetb rfl hl2' a2 g2' g3 g5 hbr (fun h=>by cases h);refine⟨⟨ρ2,w',?_,St.trans hf hst1 hst2⟩,rfl,md.2.1.trans hl2⟩;have hsz2:=kO hts;have hts3:ts.length=(xs.map (E5 Ora.env)).length:=by
       have:=H3 List.length e5;rw[G5]at this;exact this.symm
      have e:y'.cells.size=ts.length:=by rw[hts3,← hvl];simp
      simp[Instr.storeAt,Instr.sureAddr,storeVar,A6,M1 hsz2,Result.andThen,e,g1]
     ·rw[A3 hc]at r1;rw[r1]at r3;cases r3
    ·cases ho1
   ·cases ho
  ·cases ho
 ·cases ho
def XT{lo' hi' mx':T5}(h:HR P base ρ m.H w)(ho:zZ P m t x lo hi mx=some (v,m'))(hf:L6 ρ m.n m'.hi)(hx:VR ρ x x')(hlo:OR ρ lo lo')(hhi:OR ρ hi hi')(hmx:OR ρ mx mx')(hS:Sat m'.lg) :
  VOk P base ρ m w (Instr.sliceAt t x' lo' hi' mx') v m'∧m.lg.le m'.lg:=by
 unfold zZ at ho;split at ho
 ·rename_i e b i tg hu;split at ho
  ·rename_i s hs;obtain⟨htg,ho⟩:=A5 ho;have htg:=A0 htg;obtain⟨l,h1,h2,h3,h4⟩:=pJ hx;obtain⟨⟨r,g1,g2⟩,⟨lg,rfl⟩,g4⟩:=JS (w:=w) hu hs htg h1 h2 h3 (fun h=>by cases h) ho hlo hhi hmx hS;exact⟨⟨r,ρ,w,g1,g2,St.wLg h lg⟩,g4⟩
  ·cases ho
 ·rename_i e b i tg hu;split at ho
  ·rename_i s hs;obtain⟨htg,ho⟩:=A5 ho;have htg:=A0 htg;obtain⟨l,h1,h2,h3,h4,h5⟩:=iM hx;obtain⟨⟨r,g1,g2⟩,⟨lg,rfl⟩,g4⟩:=JS (w:=w) hu hs htg h1 h2 h3 (fun _=>h5) ho hlo hhi hmx hS;exact⟨⟨r,ρ,w,g1,g2,St.wLg h lg⟩,g4⟩
  ·cases ho
 ·rename_i e b i tg hu;split at ho
  ·rename_i s hs;obtain⟨htg,ho⟩:=A5 ho;have htg:=A0 htg;split at ho
   ·rename_i c tc b2 m1 hd;have hcut:∀ {m1:Mem},PE m1 b2 c tg false lo hi mx=some (v,m')→L3 m1 m'∧m1.lg.le m'.lg:=fun{m1} ho=>by
     have go:∀ {m1:Mem} {l h:Value} {cc:Bool},iQ m1 b2 c tg l h cc=some (v,m')→L3 m1 m'∧m1.lg.le m'.lg:=fun h=>by
      unfold iQ at h;obtain⟨_,h⟩:=A5 h;rw[P9]at h;simp only[D7,O7]at h;obtain⟨_,rfl⟩:=h;exact⟨⟨_,rfl⟩,Z0⟩
     unfold PE PD at ho;split at ho
     ·exact go ho
     ·exact go (A5 ho).2
     ·split at ho
      ·rename_i hl
       have:=go ho;exact⟨(cJ hl).1.trans this.1,(cJ hl).2.trans this.2⟩
      ·cases ho
     ·cases ho
    obtain⟨⟨lg,hlg⟩,hle⟩:=hcut ho;have hm1:m1.hi=m'.hi:=by rw[hlg];simp
    obtain⟨ρ1,l,e1,e2,e3,e4,e5,e6⟩:=HO h hd (hf.less A1) hx (hS.le hle);have mono:∀ {o o':T5},OR ρ o o'→OR ρ1 o o':=fun{o o'} h=>by
     cases o<;>cases o'<;>first|exact trivial|exact h.elim|exact VR.mono e1.ext h
    obtain⟨⟨r,g1,g2⟩,⟨lg2,hlg2⟩,g4⟩:=JS (w:=w) (cl:=false) hu hs htg e2 e4 e5 (fun h=>by cases h) ho (mono hlo) (mono hhi) (mono hmx) hS;subst hlg2;exact⟨⟨r,ρ1,w,g1,g2,St.trans (hf.less (by simp)) e1 (St.wLg e1.hr lg2)⟩,e6.trans g4⟩
   ·cases ho
  ·cases ho
 ·cases ho
end
end
section
open Go
variable [Ora]
section
variable {P:Program} {base:Nat} {ρ ρ':Ren} {m m':Mem} {w w':World}
def EQ{a':Addr}{n c':Nat}{ns:List Int}(hs:P.underlying s=some (.slice e))(ht:P.underlying t=some .string)(he:P.underlying e=some (.int .u8))(hlc:(loadCells a' n).run P w=.ok (ns.map (Value.int .u8)).toArray w) :
  (convert s t (.slice (some a') n c')).run P w=.ok (.string ⟨⟨ns.map fun n=>UInt8.ofNat n.toNat⟩⟩) w:=by
 have:=run_bytesToString w a' n c' ns hlc;have e2:=qP ns [];simp only[O9]at e2;simp only[convert,A6,D6 hs,D6 ht,D6 he,Result.andThen];rw[this,show ByteArray.empty=ByteArray.mk ⟨[]⟩from rfl,e2]
def HX{n:Nat}(hs:P.underlying s=some (.slice e))(ht:P.underlying t=some .string)(he:P.underlying e=some (.int .u8)):(convert s t (.slice none n c)).run P w=.ok (.string ByteArray.empty) w:=by
 simp[convert,A6,D6 hs,D6 ht,D6 he,Result.andThen,Conv.bytesToString]
def LZ{b:ByteArray}(hs:P.underlying s=some ds)(ht:P.underlying t=some (.slice e))(he:P.underlying e=some (.int .u8))(w:World) :
  ∃ (cap:Nat) (C:Array Value),b.size≤cap∧C.size=cap∧(∀ (i:Nat) (u:Value),(R8 b.data.toList)[i]? = some u→C[i]? = some u)∧(convert s t (.string b)).run P w=.ok (.slice (some ⟨w.heap.size,0,none⟩) b.size cap) { w.drew with heap:=w.heap.push (.cells C e (C.size,C.size+1)) }:=by
 let q:Question:=.appendCap b.size 0 e
 let cap:=q.cut (w.tape w.drawn q)
 have hcap:b.size≤cap:=by show b.size≤b.size+_;omega
 have hch:(choose q).run P w=.ok cap w.drew:=by
  simp only[choose,Sem.run];rw[A3 (by simp[q,Question.forced])];rfl
 let C:Z5:=(b.data.map fun b=>Value.int .u8 b.toNat)++Array.replicate (cap-b.size) (.int .u8 0)
 have hC:C.size=cap:=by
  have:b.data.size=b.size:=rfl;simp[C,this];omega
 refine⟨cap,C,hcap,hC,fun i u hi=>?_,?_⟩
 ·have hl:=(B2.1 hi).1;simp[R8]at hl;have hl':i<(b.data.map fun b=>Value.int .u8 b.toNat).size:=by simpa using hl
  show((b.data.map fun b=>Value.int .u8 b.toNat)++Array.replicate (cap-b.size) (.int .u8 0))[i]? = some u;rw[W1 hl']
  simpa [R8]using hi
 ·have hmk:∀ w2:World,w2.heap[w.heap.size]? = some (.cells C e (0,0))→(markStringish ⟨w.heap.size,0,none⟩).run P w2=.ok () (w2.freeze { block:=w.heap.size,off:=C.size } 1):=fun w2 h2=>by
   simp[markStringish,shape,freeze,Sem.run,World.shape?,h2]
  have hfr:({ w.drew with heap:=w.heap.push (.cells C e (0,0)) }:World).freeze { block:=w.heap.size,off:=C.size } 1={ w.drew with heap:=w.heap.push (.cells C e (C.size,C.size+1)) }:=by
   unfold World.freeze;rw[A3 C3];congr 1
   apply Array.ext_getElem?;intro i;rw[I2];by_cases hi:w.heap.size=i
   ·subst hi;simp
   ·rw[A3 hi];simp only[u5];rw[A3 (fun h=>hi h.symm),A3 (fun h=>hi h.symm)]
  have hconv:(convert s t (.string b)).run P w=(Conv.stringToBytes e b).run P w:=by
   cases ds<;>simp[convert,A6,D6 hs,D6 ht,D6 he,Result.andThen]
  rw[hconv];unfold Conv.stringToBytes;simp only[A6,show(choose (.appendCap b.size 0 e)).run P w=.ok cap w.drew from hch,Result.andThen];have hnr:(newRow e C).run P w.drew=.ok ⟨w.heap.size,0,none⟩ { w.drew with heap:=w.heap.push (.cells C e (0,0)) }:=rfl;rw[show(newRow e ((b.data.map fun b=>Value.int .u8 b.toNat)++Array.replicate (cap-b.size) (.int .u8 0))).run P w.drew=_ from hnr];simp only[Result.andThen];rw[hmk _ (by simp),hfr];rfl
def JX:∀ {us:List U} {s:List UInt8} {vs:D4},vU us=some s→m7 (fun k=>w.heap[k]?) us vs→∃ ns:List Int,vs=ns.map (Value.int .u8)∧s=ns.map fun n=>UInt8.ofNat n.toNat
 | [],s,vs,h,he=>by
   cases h;have:vs=[]:=D3.1 he.1.symm;subst this;exact⟨[],rfl,rfl⟩
 | u::us,s,vs,h,he=>by
   unfold vU at h;split at h
   ·rename_i heq;cases heq
   ·rename_i n r heq;cases heq;split at h
    ·split at h
     ·rename_i l hl;cases h;cases vs with
      | nil=>have:=he.1;simp at this
      | cons v vr =>
        obtain⟨ns,e1,e2⟩:=JX (vs:=vr) hl ⟨by have:=he.1;simpa using this,fun i a b h1 h2=>he.2 (i+1) a b (by simpa using h1) (by simpa using h2)⟩
        have:=pL (he.2 0 _ v rfl rfl) rfl;subst this;exact⟨(Int.ofNat n)::ns,by rw[e1];rfl,by rw[e2];rfl⟩
     ·cases h
    ·cases h
   ·cases h
def JY:∀ {rows:List (List U)} {s:List UInt8},yC rows=some s→vU (rows.flatMap id)=some s∧(rows.flatMap id).length=rows.length∧∀ (r:Nat) (row:List U) (j:Nat) (u:U),rows[r]? = some row→row[j]? = some u→j=0∧(rows.flatMap id)[r]? = some u
 | [],s,h=>by cases h;exact⟨rfl,rfl,fun r row j u h=>by simp at h⟩
 | row::rows,s,h=>by
   unfold yC at h;split at h
   ·rename_i heq;cases heq
   ·rename_i n r heq;cases heq;split at h
    ·rename_i hn;split at h
     ·rename_i l hl;cases h;obtain⟨h1,h2,h3⟩:=JY hl;refine⟨?_,by show([U.int .u8 (Int.ofNat n)]++rows.flatMap id).length=_;rw[A7,h2];simp;omega,fun q row j u a1 a2=>?_⟩
      ·simp only[iV,id,V1,O9,vU];rw[A4 hn,h1]
      ·cases q with
       | zero =>
         simp at a1;subst a1;cases j with
         | zero=>simp at a2;subst a2;exact⟨rfl,rfl⟩
         | succ j=>simp at a2
       | succ q =>
         obtain⟨b1,b2⟩:=h3 q row j u (by simpa using a1) a2;exact⟨b1,by simpa using b2⟩
     ·cases h
    ·cases h
   ·cases h
def sK{t:Nat}:∀ {l:D4},u9 t l=true→∀ v ∈ l,H5 v=t
 | [],_,v,hv=>by cases hv
 | x::r,h,v,hv=>by
   obtain⟨h1,h2⟩:=B8 (show(Nat.beq (H5 x) t && u9 t r)=true from h);rcases C6.1 hv with rfl|hv
   ·exact A0 h1
   ·exact sK h2 v hv
def tX{R:Nat→Option Obj}(h:LR ρ cs cs')(ht:∀ v ∈ cs,H5 v<10):m7 R (cs.map (E5 Ora.env)) cs':=by
 refine⟨by simp[h.1],fun i u v a1 a2=>?_⟩;rw[H6]at a1;cases hc:cs[i]? with
 | none=>rw[hc]at a1;cases a1
 | some x =>
   rw[hc]at a1;have a1:=B1 a1;subst a1;exact .sc (aW (h.2 i x v hc a2) (ht x (E6 hc))).1
def NX(m m1:Mem):A79 m m1=⟨m.H,m.n,m.W,m1.hi,m1.lg⟩:=by cases m;cases m1;rfl
def St.kept{ρ:Ren}{m:Mem}{w:World}{hi:Nat}{lg:Lg}(h:HR P base ρ m.H w)(hh:m.hi≤hi):St P base ρ ρ m ⟨m.H,m.n,m.W,hi,lg⟩ w w :=
 ⟨fun _ _ h=>h,fun b l h1 h2=>(by rw[h1]at h2;cases h2),B0 _,hh,fun h=>C4 h hh,h,fun _ h=>h,fun b h1 h2=>absurd h1 h2,fun _ _ _=>rfl,B0 _,⟨rfl,rfl,rfl⟩,fun b l h1 h2=>(by rw[h1]at h2;cases h2),fun _ _ _ _=>rfl,fun _ h=>.inr h⟩
def A3j(h:HR P base ρ m.H w)(hb:base≤w.heap.size)(ho:PI P m s t x=some (v,m'))(hf:L6 ρ m.n m'.hi)(hx:VR ρ x x')(hS:Sat m'.lg):VOk P base ρ m w (convert s t x') v m'∧m.lg.le m'.lg:=by
 unfold PI at ho;split at ho
 ·rename_i e a n c hs ht;split at ho
  ·rename_i he;split at ho
   ·rename_i cs hr;obtain⟨htg,ho⟩:=A5 ho;obtain⟨u,e1,e2,r,e3,e4,e5⟩:=N6 ho hS;obtain⟨lg,rfl⟩:=J3 ho;have hst:=St.wLg h lg;have htags:=sK htg;have key:∀ {a' c'} {r':D4},LR ρ cs r'→(loadCells a' n).run P w=.ok ⟨r'⟩ w→VOk P base ρ m w (convert s t (.slice (some a') n c')) v (m.wLg lg):=fun{a' c' r'} hl hlc=>by
     have he1:m7 (fun k=>w.heap[k]?) (cs.map (E5 Ora.env)) r':=tX hl (fun v hv=>by rw[htags v hv];omega);have hev:∃ sb,vU (cs.map (E5 Ora.env))=some sb∧u=.str sb:=by
      have e1:(match vU (cs.map (E5 Ora.env))with|some s=>U.str s|none=>.none)=u:=e1;split at e1
      ·rename_i sb hsb;exact⟨sb,hsb,e1.symm⟩
      ·subst e1;cases e3
     obtain⟨sb,q1,rfl⟩:=hev;cases e3;obtain⟨ns,r1,r2⟩:=JX (w:=w) q1 he1;subst r1;subst r2;exact⟨_,ρ,w,EQ hs ht he hlc,e4 ρ,hst⟩
    refine⟨?_,K2 ho⟩;rcases R2 hx with⟨l,hl,_,_,rfl⟩|⟨l,c',hl,_,_,_,_,rfl⟩|⟨a',c',_,rfl,_,rfl⟩
    ·obtain⟨r',g1,g2,g3⟩:=p8 h hr hl;exact key g1 (L5 g2 g3)
    ·obtain⟨r',g1,g2,g3⟩:=p8 h hr hl;exact key g1 (L5 g2 g3)
    ·have:cs=[]:=by
      unfold aO at hr;split at hr
      ·have:=(lG hr).2;simpa using this
      ·cases hr
     subst this;exact key .nil (by simp[loadCells,loadCellsFrom])
   ·cases ho
  ·cases ho
 ·rename_i e fn a1 a2 hs ht;split at ho
  ·rename_i he;split at ho
   ·rename_i hh b m1 hd;rw[NX]at ho;obtain⟨u,e1,e2,r,e3,e4,e5⟩:=N6 ho hS;have hle:=K2 ho;obtain⟨lg,rfl⟩:=J3 ho;obtain⟨ρ1,l,d1,d2,d3,d4,d5,d6⟩:=HO h hd (hf.less (by simp[Mem.wLg])) hx (hS.le hle);have hst:St P base ρ ρ m (Mem.wLg ⟨m.H,m.n,m.W,m1.hi,m1.lg⟩ lg) w w:=St.kept h d1.hle;obtain⟨nul,wd,rows,q1,q2⟩:=iP d4 d5 A1;have hw1:wd=1:=A1;subst hw1;rw[q1]at d4;have hev:∃ sb,yC rows=some sb∧u=.str sb:=by
     have e1:evU .str [E5 Ora.env hh]=u:=e1;rw[q1]at e1;have e1:(if 1=1 then(match yC rows with|some s=>U.str s|none=>.none)else .none)=u:=e1;rw[A4 rfl]at e1;split at e1
     ·rename_i sb hsb;exact⟨sb,hsb,e1.symm⟩
     ·subst e1;cases e3
    obtain⟨sb,hsb,rfl⟩:=hev;cases e3;refine⟨?_,d6.trans hle⟩;have hG:=(d1.hr.atl d2 d3).1.2;rcases aR d4 with⟨rfl,rfl,rfl⟩|⟨rfl,a,c,rfl,hc⟩
    ·cases hsb;exact⟨_,ρ,w,HX hs ht he,e4 ρ,hst⟩
    ·obtain⟨_,new',g1,g2,g3,g4⟩:=vQ (w:=w) d4 hG;obtain⟨k1,k2,k3⟩:=JY hsb;have henc:m7 (fun k=>w.heap[k]?) (rows.flatMap id) new':=by
      refine⟨by rw[k2,g1];simp,fun i u v b1 b2=>?_⟩;have hil:i<rows.length:=by have:=(B2.1 b1).1;rw[k2]at this;exact this
      have hrl:rows[i].length=1:=g3.1 _ (N9 hil);have hrow:rows[i]? = some rows[i]:=A8 hil;have h0:rows[i][0]? = some (rows[i][0]' A1):=A8 A1;obtain⟨_,k4⟩:=k3 i _ 0 _ hrow h0;rw[b1]at k4;have k4:=B1 k4;rw[k4];exact(g3.2 i _ 0 _ v hrow h0 (by simpa using b2)).mono hG
     obtain⟨ns,r1,r2⟩:=JX (w:=w) k1 henc;subst r1;subst r2;have g1':(ns.map (Value.int .u8)).length=rows.length:=by rw[g1];omega
     exact⟨_,ρ,w,EQ hs ht he (nL g1' g4),e4 ρ,hst⟩
   ·cases ho
  ·cases ho
 ·rename_i y _ _ _ ds e hs ht;obtain⟨htg,ho⟩:=A5 ho;have htg:=A0 htg;split at ho
  ·rename_i he;split at ho
   ·rename_i hsz;split at ho
    ·rename_i g m1 hj;rw[P9]at ho;simp only[hole]at ho;have ho:cA (m1.wLg (hJ m1 11 .byt [y])) m1.lg.nx 11 e g=some (v,m'):=ho;have mj:=P1 hj;have mn:=aB ho;simp only[QI,s5,ZT]at mn;obtain⟨ρ1,lg,e1,e2,e3,e4,e5,e6⟩:=gO h hj (hf.less A1);have hst:St P base ρ ρ1 m (m1.wLg (hJ m1 11 .byt [y])) w w:=St.trans (hf.less (by simp;omega)) e1 (St.wLg e1.hr _);obtain⟨sb,rfl,f1⟩:=cV hx htg;obtain⟨r1,r2,_⟩:=lX (m:=m1) (t:=11) (op:=.byt) (xs:=[y]) (lg:=m'.lg) hS (by rw[s5,mn.2.1];exact .refl _);have r1:Ora.env m1.lg.nx=evU .byt [E5 Ora.env y]:=r1;rw[f1]at r1;have r1:Ora.env m1.lg.nx=.seq false 1 (lP sb):=r1;obtain⟨cap,C,c1,c2,c3,c4⟩:=LZ (P:=P) (b:=⟨⟨sb⟩⟩) hs ht he w;obtain⟨inf,hinf,hisz⟩:∃ inf,P.info? e=some inf∧inf.size=1:=by
      unfold H7 at hsz;cases hi:P.info? e with
      | none=>rw[hi]at hsz;cases hsz
      | some inf=>rw[hi]at hsz;exact⟨inf,rfl,B1 hsz⟩
     have hbs:ByteArray.size ⟨⟨sb⟩⟩=sb.length:=rfl;rw[hbs]at c1 c4;obtain⟨ρ2,q1,q2⟩:=dH (w':={ w.drew with heap:=w.heap.push (.cells C e (C.size,C.size+1)) }) (cap:=cap) (C:=C) hst.hr hb ho (by simpa using(hf.less (B0 _)).step e1) r1 rfl hinf hisz (by rw[jQ];exact c1) A1
      ((MB (R:=lg.G) sb).move (o':=0) fun i hi=>by
        rw[jQ]at hi;have hil:i<(R8 sb).length:=by simp[R8];omega
        rw[G0,c3 i (R8 sb)[i] (A8 hil)];simp[hil]) e4 (fun i hi hh=>by have:=hh.1;simp only at this;omega) ⟨rfl,rfl,rfl⟩ rfl
     rw[jQ]at q1;exact⟨⟨_,ρ2,_,c4,q1,St.trans hf hst q2⟩,by rw[mn.2.1,← mj.2.1];exact⟨[_],rfl⟩⟩
    ·cases ho
   ·cases ho
  ·cases ho
 ·cases ho
def YA(hu:P.underlying t=some (.slice e))(hi:P.info? e=some inf)(hby:inf.bytes≤90000)(h0:0<inf.size)(hz:∀ w,(zeroValue e).run P w=.ok z w)(hk:k≤yE)(w:World) :
  (Instr.makeSlice t (.int .i64 (Int.ofNat k)) (.int .i64 (Int.ofNat k))).run P w=.ok (.slice (some ⟨w.heap.size,0,none⟩) k k) { w with heap:=w.heap.push (.cells ((Array.range (k*inf.size)).map (z.cells[· % z.cells.size]!)) e (0,0)) }:=by
 have hk:k≤1000000000:=hk;have hs:H7 P e=some inf.size:=by simp[H7,hi]
 have wl:IntKind.i64.wrap (Int.ofNat k)=Int.ofNat k:=rO .i64 k (by simp only[QO];omega);have hm:k*inf.bytes≤1000000000*90000:=oP hk hby;have hroom:(askRoom (k*inf.bytes)).run P w=.ok () w:=by
  unfold askRoom roomBytes;rw[A3 A1];rfl
 have hcb:((inf.bytes:Int)*(k:Int))=((k*inf.bytes:Nat):Int):=by rw[q9];simp
 unfold Instr.makeSlice;simp only[A6,D6 hu,asInt,asIntOf,Result.andThen,Sem.run_pure,Y0 hi,wl];rw[A3]
 ·have hc2:(Int.ofNat k).toNat=k:=by simp
  simp only[A6,Sem.run_pure,Result.andThen,hc2,hroom,M1 hs];by_cases hq:k*inf.size=0
  ·have e0:∀ z:Z5,Array.map (fun x=>z[x%z.size]!) (Array.range (k*inf.size))=⟨[]⟩:=fun z=>by rw[hq];apply K1;simp
   simp only[A4 hq,e0];rfl
  ·simp only[A3 hq,A6,Sem.run_pure,Result.andThen,hz];rfl
 ·have e1:Int.ofNat k=(k:Int):=rfl;simp only[e1,hcb];simp;omega
def ZN{R:Nat→Option Obj}{s:Nat}(h0:0<s)(hs:z.cells.size=s)(hz:LR ρ z.cells.toList z.cells.toList)(ht:∀ v ∈ z.cells.toList,H5 v<10):Q7 R (List.replicate k (z.cells.toList.map (E5 Ora.env))) s ((Array.range (k*s)).map (z.cells[· % z.cells.size]!)) 0:=by
 have he:=tX (R:=R) hz ht;refine⟨fun row hr=>?_,fun r row j u v g1 g2 g3=>?_⟩
 ·rw[(List.mem_replicate.1 hr).2];simp[hs]
 ·have hr:=(B2.1 g1).1;rw[List.length_replicate]at hr;rw[List.getElem?_replicate,A4 hr]at g1;cases g1;have hj:=(B2.1 g2).1;simp only[G5,U6]at hj;rw[hs]at hj;have hm:(r*s+j)%s=j:=by rw[q9,Nat.mul_add_mod,P7 hj]
  have hlt:r*s+j<k*s:=by
   have:(r+1)*s≤k*s:=G2 s hr;rw[I5,iT]at this;omega
  rw[G0,Array.getElem?_map,Array.getElem?_range,A4 hlt]at g3;simp only[M6,D7,hs,hm]at g3;have hjz:j<z.cells.size:=A1;rw[getElem!_pos z.cells j hjz]at g3;refine he.2 j u v g2 ?_;rw[W6,H4 hjz,g3]
def A12{l c:Value}(h:HR P base ρ m.H w)(hb:base≤w.heap.size)(ho:NL P m t l c=some (v,m'))(hf:L6 ρ m.n m'.hi)(hl:VR ρ l l')(hc:VR ρ c c')(hS:Sat m'.lg):VOk P base ρ m w (Instr.makeSlice t l' c') v m'∧m.lg.le m'.lg:=by
 unfold NL at ho;split at ho
 ·rename_i e i ti j tj hu;obtain⟨hq,ho1⟩:=A5 ho;clear ho;obtain⟨hq,h3⟩:=B8 hq;obtain⟨h1,h2⟩:=B8 hq;have h1:=A0 h1;have h2:=A0 h2;have h3:=A0 h3;subst h1 h2 h3;have ho:=ho1;clear ho1;split at ho
  ·rename_i inf hi;obtain⟨hq,ho⟩:=A5 ho;obtain⟨hby,hsz⟩:=B8 hq;have hby:=A2 hby;have hsz:0<inf.size:=A2 hsz;split at ho
   ·rename_i z hz;obtain⟨hq,ho⟩:=A5 ho;obtain⟨hzs,htg⟩:=B8 hq;have hzs:=A0 hzs;have htg:∀ v ∈ z.cells.toList,H5 v<10:=fun v hv=>A2 (E4.1 htg v hv)
    split at ho
    ·rename_i g m1 hj;rw[P9]at ho;simp only[hole]at ho;have ho:cA (m1.wLg (hJ m1 (10+inf.size) (.rep inf.size) (hole i 3::z.cells.toList))) m1.lg.nx (10+inf.size) e g=some (v,m'):=ho;have mj:=P1 hj;have mn:=aB ho;simp only[QI,s5,ZT]at mn;obtain⟨ρ1,lg,e1,e2,e3,e4,e5,e6⟩:=gO h hj (hf.less A1);have hst:St P base ρ ρ1 m (m1.wLg (hJ m1 (10+inf.size) (.rep inf.size) (hole i 3::z.cells.toList))) w w:=St.trans (hf.less (by simp;omega)) e1 (St.wLg e1.hr _);obtain⟨k,n,rfl,f1,f2⟩:=P8 (v:=hole i 3) hl (show(3:Nat)<8 by decide);obtain⟨k2,n2,rfl,f3,f4⟩:=P8 (v:=hole i 3) hc (show(3:Nat)<8 by decide);rw[f1]at f3;cases f3;obtain⟨r1,r2,nul,wd,rows,r3,r4⟩:=lX (m:=m1) (t:=10+inf.size) (op:=.rep inf.size) (xs:=hole i 3::z.cells.toList) (lg:=m'.lg) hS (by rw[s5,mn.2.1];exact .refl _);have r1:Ora.env m1.lg.nx=evU (.rep inf.size) (E5 Ora.env (hole i 3)::z.cells.toList.map (E5 Ora.env)):=r1;rw[f1]at r1;have hk:k=.i64:=by
      have f2:(3:Nat)=jV k:=f2;cases k<;>first|rfl|(exfalso;revert f2;decide)
     subst hk;cases n with
     | negSucc q=>rw[r3]at r1;cases r1
     | ofNat q =>
       have r1:Ora.env m1.lg.nx=if(z.cells.toList.map (E5 Ora.env)).length=inf.size∧q≤yE then .seq false inf.size (List.replicate q (z.cells.toList.map (E5 Ora.env)))else .none:=r1
       by_cases hq:(z.cells.toList.map (E5 Ora.env)).length=inf.size∧q≤yE
       ·rw[A4 hq]at r1;obtain⟨ρ2,q1,q2⟩:=dH (w':={ w with heap:=w.heap.push (.cells ((Array.range (q*inf.size)).map (z.cells[· % z.cells.size]!)) e (0,0)) }) (cap:=q) (fz:=(0,0)) hst.hr hb ho (by simpa using(hf.less (B0 _)).step e1) r1 rfl hi rfl (by simp) (by simp)
         (ZN (ρ:=ρ) hsz hzs (rH hz) htg) e4 (fun i hi hh=>by have:=hh.2;simp only at this;omega) ⟨rfl,rfl,rfl⟩ rfl
        rw[List.length_replicate]at q1;exact⟨⟨_,ρ2,_,YA hu hi hby hsz (fun w=>aZ hz w) hq.2 w,q1,St.trans hf hst q2⟩,by rw[mn.2.1,← mj.2.1];exact⟨[_],rfl⟩⟩
       ·rw[A3 hq,r3]at r1;cases r1
    ·cases ho
   ·cases ho
  ·cases ho
 ·cases ho
end
end
section
open Go
variable [Ora]
section
variable {P:Program} {base:Nat} {ρ ρ':Ren} {m m':Mem} {w w':World}
def UX{t:Nat}(h:Z1 m 8 .nilp [hole i t]=some (v,m'))(hi:Ora.env i=.seq nul wd rows)(hS:Sat m'.lg):VR ρ v (.bool nul)∧L3 m m'∧m.lg.le m'.lg:=by
 obtain⟨u,e1,e2,r,e3,e4,e5⟩:=N6 h hS;have harg:[hole i t].map (E5 Ora.env)=[.seq nul wd rows]:=by
  show[Ora.env i]=_;rw[hi]
 rw[harg]at e1;have e1:U.bool nul=u:=e1;subst e1;cases e3;exact⟨e4 ρ,J3 h,K2 h⟩
def ER{x y:Operand}{a:Option Addr}{n:Nat}(hu:P.underlying t=some (.slice e))(hn:(a=none∧n=0∧c=0∧nul=true)∨(nul=false∧∃ q:Addr,a=some q∧n≤c))(hop:op=.eql∨op=.neq)(w:World) :
  (do eqGuard op t x y (.slice a n c) (.slice none 0 0);binOp op t (.slice a n c) (.slice none 0 0):Sem Value).run P w=.ok (.bool (if op=.eql then nul else !nul)) w:=by
 have key:∀ {ρ:Ren} {am:Value},VR ρ am (.slice a n c)→nS P t x y am (.slice none 0 0)=true→uH P .eql t am (.slice none 0 0)=some (.bool nul)→uH P .neq t am (.slice none 0 0)=some (.bool !nul) →
   (do eqGuard op t x y (.slice a n c) (.slice none 0 0);binOp op t (.slice a n c) (.slice none 0 0):Sem Value).run P w=.ok (.bool (if op=.eql then nul else !nul)) w:=fun{ρ am} hv hg h1 h2=>by
  have hv0:VR ρ (.slice none 0 0) (.slice none 0 0):=.pure rfl;have hq:=tP (op:=op) (fun _=>hg) hv hv0 w;rcases hop with rfl|rfl
  ·obtain⟨g1,_⟩:=zI h1 hv hv0 w;simp[A6,hq,g1,Result.andThen]
  ·obtain⟨g1,_⟩:=zI h2 hv hv0 w;simp[A6,hq,g1,Result.andThen]
 rcases hn with⟨rfl,rfl,rfl,rfl⟩|⟨rfl,q,rfl,hc⟩
 ·refine key (ρ:=fun _=>none) (am:=.slice none 0 0) (.pure rfl) rfl ?_ ?_
  ·simp[uH,EU,eqM,hu]
  ·simp[uH,EU,eqM,hu]
 ·obtain⟨d,hd⟩:∃ d,Op.maxDepth=d+1:=⟨Op.maxDepth-1,rfl⟩;have he:∀ w,(Op.equal t (.slice (some q) n c) (.slice none 0 0)).run P w=.ok false w:=fun w=>by
   rw[Op.equal,hd];simp[Op.equalIn,A6,D6 hu,Result.andThen]
  have hg:∀ o:BinOp,(eqGuard o t x y (.slice (some q) n c) (.slice none 0 0)).run P w=.ok () w:=fun o=>by
   unfold eqGuard;cases o<;>rfl
  rcases hop with rfl|rfl
  ·rw[A6,hg];show(do pure (.bool (← Op.equal t (.slice (some q) n c) (.slice none 0 0))):Sem Value).run P w=_;rw[A6,he];rfl
  ·rw[A6,hg];show(do pure (.bool (!(← Op.equal t (.slice (some q) n c) (.slice none 0 0)))):Sem Value).run P w=_;rw[A6,he];rfl
def A5I{x y:Operand}{a a' b:Value}(ho:A1v P m op t x y a b=some (v,m'))(ha:VR ρ a a')(hb:VR ρ b b')(hS:Sat m'.lg) :
  (∃ r,(do eqGuard op t x y a' b';binOp op t a' b':Sem Value).run P w=.ok r w∧VR ρ v r)∧L3 m m'∧m.lg.le m'.lg:=by
 unfold A1v at ho;split at ho
 ·rename_i e k b0 i tg hu;obtain⟨hq,ho1⟩:=A5 ho;clear ho;obtain⟨hq,hk⟩:=B8 hq;obtain⟨hq,hcst⟩:=B8 hq;have hbn:b'=.slice none 0 0:=by
   unfold A2a at hq;split at hq
   ·exact S4 hb
   ·cases hq
  subst hbn;obtain⟨nul,wd,rows,ad,n,c,e1,rfl,e2⟩:∃ nul wd rows ad n c,Ora.env i=.seq nul wd rows∧a'=.slice ad n c∧((ad=none∧n=0∧c=0∧nul=true)∨(nul=false∧∃ q:Addr,ad=some q∧n≤c)):=by
   have henc:∀ {l:Loc},Enc l.G (Ora.env i) a'→G7 (Ora.env i)=tg→10≤tg→∃ nul wd rows ad n c,Ora.env i=.seq nul wd rows∧a'=.slice ad n c∧((ad=none∧n=0∧c=0∧nul=true)∨(nul=false∧∃ q:Addr,ad=some q∧n≤c)):=fun h2 h3 h4=>by
    obtain⟨nul,wd,rows,e1,_⟩:=iP h2 h3 h4;rw[e1]at h2;rcases aR h2 with⟨rfl,rfl,rfl⟩|⟨rfl,q,c,rfl,hc⟩
    ·exact⟨_,_,_,_,_,_,e1,rfl,.inl ⟨rfl,rfl,rfl,rfl⟩⟩
    ·exact⟨_,_,_,_,_,_,e1,rfl,.inr ⟨rfl,q,rfl,hc⟩⟩
   rcases(J9 _ _).mp hk with hk|hk
   ·rcases(J9 _ _).mp hk with hk|hk
    ·have:=A0 hk;subst this;obtain⟨l,_,h2,h3,h4⟩:=pJ ha;exact henc h2 h3 h4
    ·have:=A0 hk;subst this;obtain⟨l,_,h2,h3,h4,_⟩:=iM ha;exact henc h2 h3 h4
   ·have:=A0 hk;subst this;rcases(iL ha).1 with⟨l,wd,h1,h2,h3,rfl⟩|⟨l,wd,rows,h1,h2,h3,h4,h40,rfl⟩
    ·exact⟨_,_,_,_,_,_,h3,rfl,.inl ⟨rfl,rfl,rfl,rfl⟩⟩
    ·exact⟨_,_,_,_,_,_,h3,rfl,.inr ⟨rfl,_,rfl,h40⟩⟩
  split at ho1
  ·rename_i r hl;cases ho1;obtain⟨g1,g2,g3⟩:=UX (ρ:=ρ) hl e1 hS;exact⟨⟨_,ER hu e2 (.inl rfl) w,g1⟩,g2,g3⟩
  ·rename_i hh m1 hl;have hle:=K2 ho1;obtain⟨g1,g2,g3⟩:=UX (ρ:=ρ) hl e1 (hS.le hle);obtain⟨u,f1,f2,r,f3,f4,f5⟩:=N6 ho1 hS;obtain⟨rfl,hm1⟩:=pH hl;have hbv:E5 Ora.env (hole m.lg.nx 8)=.bool nul:=by
    obtain⟨q1,_⟩:=aW g1 (by show(8:Nat)<10;omega);cases hq:E5 Ora.env (hole m.lg.nx 8)with
    | bool b=>rw[hq]at q1;cases q1;rfl
    | int k n=>rw[hq]at q1;cases q1
    | str s=>rw[hq]at q1;cases q1
    | none=>rw[hq]at q1;cases q1
    | seq _ _ _=>rw[hq]at q1;cases q1
   have f1:ev1 .not (E5 Ora.env (hole m.lg.nx 8))=u:=f1;rw[hbv]at f1;have f1:U.bool (!nul)=u:=f1;subst f1;cases f3;exact⟨⟨_,ER hu e2 (.inr rfl) w,f4 ρ⟩,g2.trans (J3 ho1),g3.trans hle⟩
  ·cases ho1
 ·cases ho
def B09{fr:Fr}{g:Operand→Value}{o:Oper}(h:HR P base ρ m.H w)(hb:base≤w.heap.size)(ho:dsM P fr m o.op=some (v,m'))(hf:L6 ρ m.n m'.hi)(hg:FR ρ fr g o.op)(hS:Sat m'.lg):NOk P base ρ m w (execOp g o) v m':=by
 obtain⟨dst,op,ty,pos,af,gd⟩:=o;simp only at ho hg;have hx1:∀ {x},x ∈ op.operands.toList→VR ρ (ev fr x) (g x):=fun hx=>hg _ hx
 have fin:∀ {s:Sem Value},(∃ r,s.run P w=.ok r w∧VR ρ v r)→L3 m m'→NOk P base ρ m w (do pure (.value (← s))) v m':=fun{s} ⟨r,h1,h2⟩ ⟨lg,hl⟩=>by
  subst hl;exact NOk.of ⟨r,ρ,w,h1,h2,St.wLg h lg⟩
 unfold dsM at ho;split at ho
 ·rename_i t x y;exact NOk.of (A12 h hb ho hf (hx1 (x:=x) (by simp[Op.operands])) (hx1 (x:=y) (by simp[Op.operands])) hS).1
 ·rename_i t x;obtain⟨g1,g2,_⟩:=A15 (w:=w) h ho (hx1 (x:=x) (by simp[Op.operands])) hS;exact fin (s:=Instr.loadAt t (g x)) g1 g2
 ·rename_i t x y;obtain⟨g1,rfl,_⟩:=XQ h ho hf (hx1 (x:=x) (by simp[Op.operands])) (hx1 (x:=y) (by simp[Op.operands])) hS;exact NOk.ofU (s:=Instr.storeAt t (g x) (g y)) g1
 ·rename_i t x i;obtain⟨g1,g2,_⟩:=OE (w:=w) ho (hx1 (x:=x) (by simp[Op.operands])) (hx1 (x:=i) (by simp[Op.operands])) hS;exact fin (s:=Instr.indexAt t (g x) (g i)) g1 g2
 ·rename_i s x i;obtain⟨g1,rfl⟩:=OU (w:=w) ho (hx1 (x:=x) (by simp[Op.operands]));exact fin (s:=Instr.fieldAt s (g x) i) g1 (.refl _)
 ·rename_i t x lo hi mx;obtain⟨g1,_⟩:=XT h ho hf (hx1 (x:=x) (by simp[Op.operands])) (lF (g:=g) fun y hy=>hx1 (by simp[Op.operands]at hy ⊢;exact .inr (.inl hy))) (lF (g:=g) fun y hy=>hx1 (by simp[Op.operands]at hy ⊢;exact .inr (.inr (.inl hy)))) (lF (g:=g) fun y hy=>hx1 (by simp[Op.operands]at hy ⊢;exact .inr (.inr (.inr hy)))) hS;exact NOk.of (s:=Instr.sliceAt t (g x) (lo.map g) (hi.map g) (mx.map g)) g1
 ·rename_i s t x;exact NOk.of (A3j h hb ho hf (hx1 (x:=x) (by simp[Op.operands])) hS).1
 ·rename_i op t x y yt;obtain⟨g1,g2,_⟩:=A5I (w:=w) ho (hx1 (x:=x) (by simp[Op.operands])) (hx1 (x:=y) (by simp[Op.operands])) hS;exact fin (s:=do eqGuard op t x y (g x) (g y);binOp op t (g x) (g y)) g1 g2
 ·rename_i xs tys;have l1:=dY (ρ:=ρ) (fr:=fr) (g:=g) (xs:=xs.toList) fun x hx=>hx1 (by show x ∈ (#[]++xs:Array Operand).toList;simpa using hx)
  split at ho
  ·rename_i x t rest he1 he2;rw[he1]at l1;obtain⟨x',r1,e3,q1,q2⟩:=l1.tail
   have:=q2.nil_inv;subst this;obtain⟨g1,g2,_⟩:=A5U (w:=w) (ty:=ty) (tys:=rest) ho q1 hS;obtain⟨ks,e2⟩:∃ ks,execOp g ⟨dst,.call ⟨.builtin .len,xs,tys⟩,ty,pos,af,gd⟩=builtin .len tys ty ks (xs.map g):=⟨#[],rfl⟩;have e1:xs.map g=⟨xs.toList.map g⟩:=by apply K1;simp
   have e4:tys=⟨t::rest⟩:=by rw[← he2]
   rw[e2,e1,e3,e4];exact fin (s:=Builtin.len_ ⟨t::rest⟩ ty #[x']) g1 g2
  ·cases ho
 ·rename_i xs tys;have l1:=dY (ρ:=ρ) (fr:=fr) (g:=g) (xs:=xs.toList) fun x hx=>hx1 (by show x ∈ (#[]++xs:Array Operand).toList;simpa using hx)
  split at ho
  ·rename_i x y t t2 rest he1 he2;rw[he1]at l1;obtain⟨x',r1,e3,q1,q2⟩:=l1.tail;obtain⟨y',r2,e5,q3,q4⟩:=q2.tail
   have:=q4.nil_inv;subst this
   have:=TG (ty:=ty) h hb ho hf q1 q3 hS;obtain⟨ks,e2⟩:∃ ks,execOp g ⟨dst,.call ⟨.builtin .append,xs,tys⟩,ty,pos,af,gd⟩=builtin .append tys ty ks (xs.map g):=⟨#[],rfl⟩;have e1:xs.map g=⟨xs.toList.map g⟩:=by apply K1;simp
   have e4:tys=⟨t::t2::rest⟩:=by rw[← he2]
   rw[e2,e1,e3,e5,e4];have e:Builtin.append_ ⟨t::t2::rest⟩ ty #[x',y']=Builtin.append_ #[t,t2] ty #[x',y']:=rfl;refine NOk.of (s:=Builtin.append_ ⟨t::t2::rest⟩ ty #[x',y']) ?_;rw[e];exact this
  ·cases ho
 ·cases ho
def iO{wd o i t g:Nat}{z:Value}:∀ {ts:I1} {j:Nat} {m m':Mem} {r:D4},g9 wd o i t z g ts j m=some (r,m')→m.lg.le m'.lg
 | [],j,m,m',r,h=>by cases h;exact .refl _
 | tg::ts,j,m,m',r,h=>by
   unfold g9 at h;cases ht:Nat.blt tg 10 with
   | true =>
     rw[ht]at h;simp only[F0]at h;split at h
     ·rename_i hl;split at h
      ·rename_i hr;cases h;exact(K2 hl).trans (iO hr)
      ·cases h
     ·cases h
   | false =>
     rw[ht]at h;simp only[E7]at h;rw[NR]at h;split at h
     ·rename_i hr;cases h;exact Z0.trans (iO hr)
     ·cases h
def HH{r:Option (D4×Mem)}(h:oJ P t r=some (v,m')):∃ vs,r=some (vs,m'):=by
 unfold oJ at h;split at h
 ·cases h;exact⟨_,rfl⟩
 ·cases h;exact⟨_,rfl⟩
 ·cases h
def A16(ho:NP P m t x=some (v,m')):m.lg.le m'.lg:=by
 unfold NP at ho;split at ho
 ·obtain⟨_,ho⟩:=A5 ho;obtain⟨vs,h⟩:=HH ho;exact iO h
 ·split at ho
  ·obtain⟨_,ho⟩:=A5 ho;obtain⟨vs,h⟩:=HH ho;exact iO h
  ·cases ho
 ·cases ho
def XR(ho:zW P m t x y=some (v,m')):m.lg.le m'.lg:=by
 unfold zW at ho;split at ho
 ·cases hw0:lD y with
  | true=>rw[hw0]at ho;cases ho
  | false =>
    rw[hw0]at ho;simp only[E7]at ho;split at ho
    ·rename_i hd;split at ho
     ·obtain⟨_,ho⟩:=A5 ho;split at ho
      ·rename_i hj;rw[P9]at ho;simp only[hole]at ho;obtain⟨hs,_⟩:=pE ho;have md:=V0 X9 hd;have mj:=P1 hj;refine md.2.1.trans ?_;rw[(X5 hs).2,← mj.2.1];simp only[s5];exact⟨[_],rfl⟩
      ·cases ho
     ·cases ho
    ·cases ho
 ·cases ho
def A5g{t:Nat}{k:Value}(h:OG m i t z k=some (v,m')):m.lg.le m'.lg:=by
 unfold OG at h;cases hq:!(Nat.blt (H5 z) 8)with
 | true=>rw[hq]at h;cases h
 | false =>
   rw[hq]at h;simp only[E7]at h;split at h
   ·rename_i hl;split at h
    ·rename_i hb;cases h;exact(K2 hl).trans (oI hb)
    ·cases h
   ·cases h
def OF(h:nR P m t x z=some (v,m')):m.lg.le m'.lg:=by
 unfold nR at h;split at h;all_goals first
  | (split at h
     ·obtain⟨_,h⟩:=A5 h;exact A5g h
     ·cases h;done)
  | (split at h
     ·obtain⟨_,h⟩:=A5 h;rw[F5]at h;cases h;exact .refl _
     ·cases h;done)
  | cases h
def OV{f:Nat}(h:nW P m s x f=some (v,m')):m.lg.le m'.lg:=by
 unfold nW at h;split at h;all_goals first
  | (split at h
     ·split at h
      ·obtain⟨_,h⟩:=A5 h;rw[F5]at h;cases h;exact .refl _
      ·cases h
     ·cases h;done)
  | cases h
def JT{t:Nat}(ho:PE m b i t cl lo hi mx=some (v,m')):m.lg.le m'.lg:=by
 have go:∀ {m1:Mem} {l h:Value} {cc:Bool},iQ m1 b i t l h cc=some (v,m')→m1.lg.le m'.lg:=fun h=>by
  unfold iQ at h;obtain⟨_,h⟩:=A5 h;rw[P9]at h;simp only[D7,O7]at h;obtain⟨_,rfl⟩:=h;exact Z0
 unfold PE PD at ho;split at ho
 ·exact go ho
 ·exact go (A5 ho).2
 ·split at ho
  ·rename_i hl;exact(cJ hl).2.trans (go ho)
  ·cases ho
 ·cases ho
def XU(ho:zZ P m t x lo hi mx=some (v,m')):m.lg.le m'.lg:=by
 unfold zZ at ho;split at ho
 ·split at ho
  ·exact JT (A5 ho).2
  ·cases ho
 ·split at ho
  ·exact JT (A5 ho).2
  ·cases ho
 ·split at ho
  ·obtain⟨_,ho⟩:=A5 ho;split at ho
   ·rename_i hd;exact(jJ hd).2.1.trans (JT ho)
   ·cases ho
  ·cases ho
 ·cases ho
def A3k(ho:PI P m s t x=some (v,m')):m.lg.le m'.lg:=by
 unfold PI at ho;split at ho
 ·split at ho
  ·split at ho
   ·exact K2 (A5 ho).2
   ·cases ho
  ·cases ho
 ·split at ho
  ·split at ho
   ·rename_i hd;rw[NX]at ho;have h2:=K2 ho;exact(jJ hd).2.1.trans h2
   ·cases ho
  ·cases ho
 ·obtain⟨_,ho⟩:=A5 ho;split at ho
  ·split at ho
   ·split at ho
    ·rename_i hj;rw[P9]at ho;simp only[hole]at ho;have mj:=P1 hj;rw[(aB ho).2.1,s5,← mj.2.1];exact⟨[_],rfl⟩
    ·cases ho
   ·cases ho
  ·cases ho
 ·cases ho
def A5J{x y:Operand}{a b:Value}(ho:A1v P m op t x y a b=some (v,m')):m.lg.le m'.lg:=by
 unfold A1v at ho;split at ho
 ·obtain⟨_,ho1⟩:=A5 ho;clear ho;split at ho1
  ·rename_i hl;cases ho1;exact K2 hl
  ·rename_i hl;exact(K2 hl).trans (K2 ho1)
  ·cases ho1
 ·cases ho
def A13{l c:Value}(ho:NL P m t l c=some (v,m')):m.lg.le m'.lg:=by
 unfold NL at ho;split at ho
 ·obtain⟨_,ho⟩:=A5 ho;split at ho
  ·obtain⟨_,ho⟩:=A5 ho;split at ho
   ·obtain⟨_,ho⟩:=A5 ho;split at ho
    ·rename_i hj;rw[P9]at ho;simp only[hole]at ho;have mj:=P1 hj;rw[(aB ho).2.1,s5,← mj.2.1];exact⟨[_],rfl⟩
    ·cases ho
   ·cases ho
  ·cases ho
 ·cases ho
def B0_{fr:Fr}{o:Op}(ho:dsM P fr m o=some (v,m')):m.lg.le m'.lg:=by
 unfold dsM at ho;split at ho
 ·exact A13 ho
 ·exact A16 ho
 ·exact XR ho
 ·exact OF ho
 ·exact OV ho
 ·exact XU ho
 ·exact A3k ho
 ·exact A5J ho
 ·split at ho
  ·unfold A5V at ho;split at ho
   ·exact(cJ ho).2
   ·exact(cJ ho).2
   ·exact(cJ ho).2
   ·cases ho
  ·cases ho
 ·split at ho
  ·exact(KH ho).2.1
  ·cases ho
 ·cases ho
end
end
end Go.Sx
