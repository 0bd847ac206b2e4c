/- The law PickFound: for every input the call returns true, and the arguments read behind it as they read before. No condition. -/
import Derived.Test.YtdkdbjgkedahfaaDoorX0
import Derived.ChangeKeysEq
import Derived.Laws.BytesString
namespace Go.Sx
set_option linter.all false
open Go
set_option linter.unusedVariables false
set_option linter.unusedSimpArgs false
variable [Ora]
theorem B8{a b:Bool}(h:(a && b)=true):a=true∧b=true:=by simpa using h
theorem A5{α:Type}{c:Bool}{x:Option α}{y:α}(h:(bif c then x else none)=some y):c=true∧x=some y:=by
 cases c
 ·simp at h
 ·exact⟨rfl,h⟩
theorem M7{m:Mem}{ab:AB}{k:Nat→Value}{v:Value}{m':Mem}(h:u9 m ab k=some (v,m')):m.n≤H3∧v=k m.n∧m'=⟨m.H.set m.n (some ab),m.n+1,m.W,upN m.hi m.n,m.lg⟩:=by
 obtain⟨H,n,W,hi,lg⟩:=m;simp only[u9,E8,A1z]at h;obtain⟨h1,h2⟩:=A5 h;simp only[D3,O5]at h2;exact⟨by simpa using h1,h2.1.symm,h2.2.symm⟩
theorem X6{m:Mem}{id:Nat}{ab:AB}{m':Mem}(h:A2m m id ab=some m'):id≤H3∧m'=⟨m.H.set id (some ab),m.n,id::m.W,m.hi,m.lg⟩:=by
 obtain⟨H,n,W,hi,lg⟩:=m;simp only[A2m,E8,A1z]at h;obtain⟨h1,h2⟩:=A5 h;simp only[D3]at h2;exact⟨by simpa using h1,h2.symm⟩
theorem x7(m:Mem)(id:Nat):A3o m id=⟨m.H.set id none,m.n,id::m.W,m.hi,m.lg⟩:=by
 obtain⟨H,n,W,hi,lg⟩:=m;simp only[A3o,E8,A1z]
theorem L1(hi n:Nat):hi≤upN hi n∧n<upN hi n:=by
 unfold upN;cases h:Nat.blt n hi with
 | true=>have:=A1 h;simp;omega
 | false =>
   have:¬ n<hi:=fun h'=>by rw[show Nat.blt n hi=true from C4 h']at h;cases h
   simp;omega
def upd(ρ:Ren)(n:Nat)(l:Loc):Ren:=fun b=>if b=n then some l else ρ b
theorem i6{ρ:Ren}{n:Nat}{l:Loc}(h:ρ n=none):∀ b k,ρ b=some k→upd ρ n l b=some k:=fun b k hb=>by
 unfold upd;by_cases e:b=n
 ·subst e;rw[h]at hb;cases hb
 ·rw[if_neg e];exact hb
theorem M1(ρ:Ren)(n:Nat)(l:Loc):upd ρ n l n=some l:=by simp[upd]
theorem W4{ρ:Ren}{n:Nat}{l:Loc}{b:Nat}{k:Loc}(h:upd ρ n l b=some k)(h0:ρ b=none):b=n∧k=l:=by
 unfold upd at h;by_cases e:b=n
 ·rw[if_pos e]at h;exact⟨e,(A8 h).symm⟩
 ·rw[if_neg e]at h;rw[h0]at h;cases h
section
variable {P:Program} {base:Nat} {ρ:Ren} {m m':Mem} {w w':World}
theorem St.alloc{ab:AB}{k:Nat→Value}{v:Value}{o:Obj}{l:Loc}(h:HR P base ρ m.H w)(hb:base≤w.heap.size)(hn:u9 m ab k=some (v,m'))(hf:K4 ρ m.n m'.hi)
  (ho:w'.os=w.os∧w'.tape=w.tape∧w'.output=w.output) (hh:w'.heap=w.heap.push o) (hl:l.blk=w.heap.size) (hab:BR P (upd ρ m.n l) ab l w') (hfz:ab≠.frz:=by intro h;cases h) :
  v=k m.n∧upd ρ m.n l m.n=some l∧St P base ρ (upd ρ m.n l) m m' w w':=by
 obtain⟨hle,hv,rfl⟩:=M7 hn;have hfree:ρ m.n=none:=hf m.n (A7 _) (L1 _ _).2;have hext:=i6 (l:=l) hfree;have hTc:∀ k,Tc ab l k→w.heap.size≤k:=fun k hk=>by
  rcases hk with⟨_,_,rfl⟩|⟨rfl,_⟩
  ·omega
  ·exact absurd rfl hfz
 have hold:∀ k,k<w.heap.size→w'.heap[k]? = w.heap[k]? := fun k hk=>by rw[hh,w9];rw[if_neg (by omega)]
 refine⟨hv,M1 _ _ _,hext,fun b k h1 h2=>?_,by simp,(L1 _ _).1,fun _=>m9 (L1 _ _).2,⟨fun b k hk=>?_,fun id hid a ha=>?_⟩,fun b hb=>hb,fun b h1 h2=>absurd h1 h2,fun k hk _=>hold k hk,by rw[hh];simp,ho,fun b k h1 h2 _=>?_,fun id hid h1 h2=>?_,fun k ⟨id,a,q,hid,ha,hq,ht⟩=>?_⟩
 ·obtain⟨rfl,rfl⟩:=W4 h1 h2;exact⟨A7 _,I8 _⟩
 ·cases h0:ρ b with
  | some k0 =>
    rw[hext b k0 h0]at hk
    have:=A8 hk;subst this;exact h.dom b k0 h0
  | none=>obtain⟨rfl,rfl⟩:=W4 hk h0;exact hle
 ·rw[E6 _ _ _ _ hle hid]at ha;by_cases e:id=m.n
  ·rw[if_pos e]at ha;have ha:=A8 ha;subst ha;subst e;refine⟨l,M1 _ _ _,hab,fun _ _=>⟨by omega,fun id2 hid2 ab2 l2 h2 h3 h4=>?_⟩⟩;cases h0:ρ id2 with
   | some k0 =>
     rw[hext id2 k0 h0]at h3
     have:=A8 h3;subst this;rw[E6 _ _ _ _ hle hid2]at h2;by_cases e2:id2=m.n
     ·exact e2
     ·rw[if_neg e2]at h2
      have:=(h.atl h0 h2).1.tc h4;omega
   | none=>exact(W4 h3 h0).1
  ·rw[if_neg e]at ha;obtain⟨l0,h1,h2,h3⟩:=h.at_ id hid a ha;refine⟨l0,hext _ _ h1,h2.mono hext (fun k hk=>hold _ (h2.tc hk)),fun hr ho=>⟨(h3 hr ho).1,fun id2 hid2 ab2 l2 g1 g2 g3=>?_⟩⟩;rw[E6 _ _ _ _ hle hid2]at g1;by_cases e2:id2=m.n
   ·subst e2;rw[M1]at g2
    have:=A8 g2;subst this;have g1:=A8 (by simpa using g1);subst g1
    have:=h2.tc (.inl ⟨AB.rw_on hr,ho,rfl⟩)
    have:=hTc _ g3;omega
   ·rw[if_neg e2]at g1;unfold upd at g2;rw[if_neg e2]at g2;exact(h3 hr ho).2 id2 hid2 ab2 l2 g1 g2 g3
 ·obtain⟨rfl,rfl⟩:=W4 h1 h2;exact .inl (by omega)
 ·rw[E6 _ _ _ _ hle hid,if_neg];intro e;subst e;rcases h2 with h2|h2
  ·omega
  ·have h2:upN m.hi m.n≤m.n:=h2
   have:=(L1 m.hi m.n).2;omega
 ·have ha:Hp.get (m.H.set m.n (some ab)) id=some a:=ha;rw[E6 _ _ _ _ hle hid]at ha;by_cases e:id=m.n
  ·subst e;rw[if_pos rfl]at ha;have ha:=A8 ha;subst ha;rw[M1]at hq;have hq:=A8 hq;subst hq;exact .inl (hTc k ht.2)
  ·rw[if_neg e]at ha;unfold upd at hq;rw[if_neg e]at hq;exact .inr ⟨id,a,q,hid,ha,hq,ht⟩
theorem St.write{ab ab':AB}{id:Nat}{l:Loc}(h:HR P base ρ m.H w)(hs:A2m m id ab'=some m')(hg:Hp.get m.H id=some ab)(hrw:ab.rw=true)(hl:ρ id=some l)(hon:l.on=true)
  (ho:w'.os=w.os∧w'.tape=w.tape∧w'.output=w.output) (hsz:w'.heap.size=w.heap.size) (hk:∀ k,k≠l.blk→w'.heap[k]? = w.heap[k]?) (hb:BR P ρ ab' l w') (hfz:ab'≠.frz:=by intro h;cases h):St P base ρ ρ m m' w w':=by
 have hab3:∀ k,Tc ab' l k→Tc ab l k∨k=l.blk:=fun k hk=>by
  rcases hk with⟨_,_,rfl⟩|⟨rfl,_⟩
  ·exact .inr rfl
  ·exact absurd rfl hfz
 obtain⟨hle,rfl⟩:=X6 hs;obtain⟨h2,h3⟩:=h.atl hl hg;refine⟨fun _ _ h=>h,fun b k h1 h2=>(by rw[h1]at h2;cases h2),A7 _,A7 _,fun h=>h,⟨h.dom,fun id2 hid2 a ha=>?_⟩,fun b hb=>D1 _ hb,fun b h1 h2 k hk'=>?_,fun k hk' hb'=>hk k ?_,by rw[hsz];exact A7 _,ho,fun b k h1 h2=>(by rw[h1]at h2;cases h2),fun id2 hid2 h4 h5=>?_,fun k ⟨id2,a,q,hid2,ha,hq,ht⟩=>.inr ?_⟩
 ·rw[E6 _ _ _ _ hle hid2]at ha;by_cases e:id2=id
  ·rw[if_pos e]at ha;have ha:=A8 ha;subst ha;subst e;refine⟨l,hl,hb,fun _ ho'=>⟨(h3 hrw ho').1,fun id3 hid3 ab3 l3 g1 g2 g3=>?_⟩⟩;rw[E6 _ _ _ _ hle hid3]at g1;by_cases e3:id3=id2
   ·exact e3
   ·rw[if_neg e3]at g1;exact(h3 hrw ho').2 id3 hid3 ab3 l3 g1 g2 g3
  ·rw[if_neg e]at ha;obtain⟨l2,g1,g2,g3⟩:=h.at_ id2 hid2 a ha;have hne:∀ k,Tc a l2 k→k≠l.blk:=fun k hk' hh=>e ((h3 hrw hon).2 id2 hid2 a l2 ha g1 (hh▸hk'))
   refine⟨l2,g1,g2.mono (fun _ _ h=>h) (fun k hk'=>hk _ (hne k hk')),fun hr ho'=>⟨(g3 hr ho').1,fun id3 hid3 ab3 l3 f1 f2 f3=>?_⟩⟩;rw[E6 _ _ _ _ hle hid3]at f1;by_cases e3:id3=id
   ·subst e3;rw[hl]at f2
    have:=A8 f2;subst this;have f1:=A8 (by simpa using f1);subst f1;rcases hab3 _ f3 with f3|f3
    ·exact(g3 hr ho').2 id3 hid3 ab l hg hl f3
    ·exact absurd f3 (hne _ (.inl ⟨AB.rw_on hr,ho',rfl⟩))
   ·rw[if_neg e3]at f1;exact(g3 hr ho').2 id3 hid3 ab3 l3 f1 f2 f3
 ·rcases C5.1 h1 with rfl|h1
  ·exact⟨ab,hg,hrw⟩
  ·exact absurd h1 h2
 ·exact fun e=>hb' id B6 l hl hon e.symm
 ·rw[E6 _ _ _ _ hle hid2,if_neg];intro e;subst e;exact h4 B6
 ·have ha:Hp.get (m.H.set id (some ab')) id2=some a:=ha;rw[E6 _ _ _ _ hle hid2]at ha;by_cases e:id2=id
  ·subst e;rw[if_pos rfl]at ha;have ha:=A8 ha;subst ha;rw[hl]at hq;have hq:=A8 hq;subst hq;refine⟨id2,ab,l,hid2,hg,hl,AB.rw_fr hrw,.inl ⟨AB.rw_on hrw,hon,?_⟩⟩;rcases ht.2 with⟨_,_,h⟩|⟨h,_⟩
   ·exact h
   ·exact absurd h hfz
  ·rw[if_neg e]at ha;exact⟨id2,a,q,hid2,ha,hq,ht⟩
theorem A3d{cs:List Value}{o n:Nat}{r:List Value}(h:B95 cs o n=some r):r=(cs.drop o).take n∧r.length=n:=by
 unfold B95 at h;simp only at h;obtain⟨h1,h2⟩:=A5 h;have h2:=(A8 h2).symm;subst h2;exact⟨rfl,A2 h1⟩
theorem A1i{C:Array Value}{cs:List Value}{s:Nat}(h:∀ (i:Nat) (v:Value),cs[i]? = some v→∃ v',C[s+i]? = some v'∧VR ρ v v'):∃ cs',LR ρ cs cs'∧∀ (i:Nat) (v':Value),cs'[i]? = some v'→C[s+i]? = some v':=by
 induction cs generalizing s with
 | nil=>exact⟨[],.nil,fun i v' h=>by simp at h⟩
 | cons v r ih =>
   obtain⟨v',h1,h2⟩:=h 0 v rfl;obtain⟨r',h3,h4⟩:=ih (s:=s+1) fun i u hi=>by
    obtain⟨u',a,b⟩:=h (i+1) u (by simpa using hi);exact⟨u',by rw[show s+1+i=s+(i+1) by omega];exact a,b⟩
   refine⟨v'::r',.cons h2 h3,fun i u hi=>?_⟩;cases i with
   | zero=>simp at hi;subst hi;simpa using h1
   | succ i =>
     have:=h4 i u (by simpa using hi);rw[show s+(i+1)=s+1+i by omega];exact this
theorem r9{a:Addr}{n:Nat}{r:List Value}{l:Loc}(h:HR P base ρ m.H w)(hr:A0K m a n=some r)(hl:ρ a.block=some l) :
  ∃ r',LR ρ r r'∧r'.length=n∧(∀ (j:Nat) (v':Value),r'[j]? = some v'→w.cell? ⟨l.blk,a.off+l.sh+j,none⟩=some v'):=by
 unfold A0K at hr;split at hr
 ·rename_i cs T ro hspot hg;obtain⟨hr1,hr2⟩:=A3d hr;obtain⟨⟨_,C,fz,T',h2,h3,_⟩,_⟩:=h.atl hl hg;obtain⟨r',h4,h5⟩:=A1i (ρ:=ρ) (C:=C) (cs:=r) (s:=l.sh+a.off) fun i v hi=>by
   have hin:i<n:=by
    have:=(A9.1 hi).1;omega
   rw[hr1,F5 hin,H9]at hi;obtain⟨v',g1,g2⟩:=h3 _ v hi;exact⟨v',by rw[show l.sh+a.off+i=l.sh+(a.off+i) by omega];exact g1,g2⟩
  refine⟨r',h4,h4.1▸hr2,fun j v' hj=>?_⟩
  have:=h5 j v' hj;simp[World.cell?,h2,show a.off+l.sh+j=l.sh+a.off+j by omega,this]
 ·cases hr
theorem J8.add_none'{b o i:Nat}:(Addr.mk b o none).add i=⟨b,o+i,none⟩:=by
 unfold Addr.add;split
 ·rename_i h;subst h;rfl
 ·rfl
theorem J8{b o:Nat}{r':List Value}{n:Nat}(hn:r'.length=n)(h:∀ (j:Nat) (v':Value),r'[j]? = some v'→w.cell? ⟨b,o+j,none⟩=some v'):(loadCells ⟨b,o,none⟩ n).run P w=.ok ⟨r'⟩ w:=by
 subst hn
 have:=run_loadCells_list (P:=P) w ⟨b,o,none⟩ r' (fun j v hj=>by rw[J8.add_none'];exact h j v hj);exact this
theorem A4J{a:Addr}{r':List Value}{n:Nat}(hn:r'.length=n)(h:∀ (j:Nat) (v':Value),r'[j]? = some v'→w.cell? (a.add j)=some v'):(loadCells a n).run P w=.ok ⟨r'⟩ w:=by
 subst hn;exact run_loadCells_list (P:=P) w a r' h
theorem o8:∀ (vs cs:List Value) (k:Nat),(A1B cs k vs).length=cs.length
 | [],_,_=>rfl
 | v::r,cs,k=>by rw[A1B,o8 r];simp
theorem B5o{cs cs':List Value}(h:LR ρ cs cs'):∀ {vs vs':List Value} {k:Nat},LR ρ vs vs'→LR ρ (A1B cs k vs) (A1B cs' k vs')
 | [],vs',k,hv=>by rw[hv.nil_inv];exact h
 | v::r,vs',k,hv=>by
   obtain⟨v',r',rfl,h1,h2⟩:=hv.tail;simp only[A1B];exact B5o (h.set h1 k) h2
theorem C2B{v v':Value}(h:VR ρ v v')(hf:flat v=true):A0n v'=true:=by
 cases h with
 | hole h _=>have:=A2w h;cases v'<;>first|rfl|cases this
 | junk h=>exact h (A2 hf)
 | pure hp=>cases v<;>first|rfl|cases hf|cases hp
 | ixp h hs hi hz hv=>subst hv;rfl
 | sdt h=>exact h.flat
 | _=>first|assumption|exact hf|rfl
theorem B11:∀ {vs vs':List Value},LR ρ vs vs'→vs.all flat=true→vs'.all A0n=true
 | [],vs',h,_=>by rw[h.nil_inv];rfl
 | v::r,vs',h,hf=>by
   obtain⟨v',r',rfl,h1,h2⟩:=h.tail;simp only[A06,I0]at hf ⊢;exact⟨C2B h1 hf.1,B11 h2 hf.2⟩
theorem n9{b o:Nat}{T:TypeId}{fz:Nat×Nat}:∀ (vs:List Value) (i:Nat) (C:Array Value) (w:World),w.heap[b]? = some (.cells C T fz)→vs.all A0n=true→o+i+vs.length≤C.size →
  (∀ i,i<C.size→¬ (fz.1≤i∧i<fz.2)) →
  ∃ w',(storeCells ⟨b,o,none⟩ vs i).run P w=.ok () w'∧(w'.os=w.os∧w'.tape=w.tape∧w'.output=w.output)∧w'.heap.size=w.heap.size∧w'.heap[b]? = some (.cells ⟨A1B C.toList (o+i) vs⟩ T fz)∧∀ k,k≠b→w'.heap[k]? = w.heap[k]?
 | [],i,C,w,h,_,_,_=>⟨w,rfl,⟨rfl,rfl,rfl⟩,rfl,h,fun _ _=>rfl⟩
 | v::r,i,C,w,h,h1,hl,hz=>by
   simp only[A06,I0]at h1;simp only[A3]at hl;have hlt:o+i<C.size:=by omega
   have hb:(w.setCell ⟨b,o+i,none⟩ v).heap[b]? = some (.cells (C.setIfInBounds (o+i) v) T fz):=by
    simp[World.setCell,J4,h]
   obtain⟨w',hr,hs,hsz,hg,hk⟩:=n9 (b:=b) (o:=o) (T:=T) (fz:=fz) r (i+1) (C.setIfInBounds (o+i) v) (w.setCell ⟨b,o+i,none⟩ v) hb h1.2 (by simp;omega) (by simpa using hz);refine⟨w',?_,?_,?_,?_,fun k hk'=>?_⟩
   ·have hc:w.cell? ⟨b,o+i,none⟩=some C[o+i]:=by simp[World.cell?,h,hlt]
    have hf:w.frozen? ⟨b,o+i,none⟩=false:=by
     have:=hz (o+i) hlt;simp only[World.frozen?,h];by_cases h1:fz.1≤o+i<;>by_cases h2:o+i<fz.2<;>simp[h1,h2]<;>exact absurd ⟨h1,h2⟩ this
    have hst:(store ((Addr.mk b o none).add i) v).run P w=.ok () (w.setCell ⟨b,o+i,none⟩ v):=by
     rw[J8.add_none'];unfold store;cases v<;>simp_all [Sem.run,A0n]
    unfold storeCells;simp only[Sem.run_bind,hst,Result.andThen];exact hr
   ·simpa [World.setCell]using hs
   ·rw[hsz];simp[World.setCell]
   ·rw[hg];have:(C.setIfInBounds (o+i) v).toList=C.toList.set (o+i) v:=by simp
    rw[this];simp[A1B,A05]
   ·rw[hk k hk'];simp only[World.setCell,J4];rw[if_neg (fun e=>hk' e.symm)]
theorem A4A(vs:List Value):∀ (cs:List Value) (k i:Nat),k+vs.length≤cs.length→(A1B cs k vs)[i]? = if k≤i∧i<k+vs.length then vs[i-k]? else cs[i]? := by
 induction vs with
 | nil=>intro cs k i h;simp[A1B];intro h1 h2;omega
 | cons v r ih =>
   intro cs k i h;simp only[A3]at h ⊢;rw[A1B,ih (cs.set k v) (k+1) i (by simp;omega)];by_cases h1:k+1≤i∧i<k+1+r.length
   ·rw[if_pos h1,if_pos (by omega),show i-k=(i-(k+1))+1 by omega];rfl
   ·rw[if_neg h1];by_cases h2:i=k
    ·subst h2;rw[if_pos (by omega),A3h,Z2 (by omega)];rfl
    ·rw[if_neg (by omega),A1N (fun e=>h2 e.symm)]
theorem A55{a:Addr}{vs vs':List Value}{l:Loc}(h:HR P base ρ m.H w)(hw:A5P m a vs=some m')(hl:ρ a.block=some l)(hv:LR ρ vs vs') :
  ∃ w',(storeCells ⟨l.blk,a.off+l.sh,none⟩ vs').run P w=.ok () w'∧St P base ρ ρ m m' w w':=by
 unfold A5P at hw;split at hw
 ·rename_i cs T hspot hg;obtain⟨hc,hs⟩:=A5 hw;obtain⟨hc1,hc2⟩:=B8 hc;have hc1:=A1 hc1;rw[H4]at hs;obtain⟨⟨hon,C,fz,T',h2,h3,h4⟩,h5⟩:=h.atl hl hg;obtain⟨rfl,h6,h7⟩:=h4 rfl;have hlast:∀ i,i<cs.length→l.sh+i<C.size:=fun i hi=>by
   obtain⟨v',g,_⟩:=h3 i cs[i] (A6 hi);exact(D7.1 g).1
  have hlen:vs'.length=vs.length:=hv.1.symm;by_cases hz:vs.length=0
  ·have e1:vs=[]:=G0.1 hz;have e2:vs'=[]:=G0.1 (by omega);subst e1;subst e2;exact⟨w,rfl,St.write h hs hg rfl hl hon ⟨rfl,rfl,rfl⟩ rfl (fun _ _=>rfl) ⟨hon,C,fz,_,h2,by simpa [A1B]using h3,h4⟩⟩
  ·have hin:l.sh+(a.off+vs.length-1)<C.size:=hlast _ (by omega);obtain⟨w',hr,ho,hsz,hgb,hk⟩:=n9 (P:=P) (b:=l.blk) (o:=a.off+l.sh) (fz:=fz) vs' 0 C w h2 (B11 hv hc2) (by omega) h6;refine⟨w',hr,St.write h hs hg rfl hl hon ho hsz hk ⟨hon,_,fz,_,hgb,fun i v hi=>?_,fun _=>⟨rfl,by simpa [o8]using h6,by simpa [o8]using h7⟩⟩⟩;rw[A4A _ _ _ _ hc1]at hi;have hpos:C.toList.length=C.size:=by simp
   have hg2:∀ j,(A1B C.toList (a.off+l.sh+0) vs')[l.sh+j]? = if a.off≤j∧j<a.off+vs'.length then vs'[j-a.off]? else C.toList[l.sh+j]? := fun j=>by
    rw[A4A _ _ _ _ (by omega)];by_cases hj:a.off≤j∧j<a.off+vs'.length
    ·rw[if_pos hj,if_pos (by omega),show l.sh+j-(a.off+l.sh+0)=j-a.off by omega]
    ·rw[if_neg hj,if_neg (by omega)]
   show ∃ v',(Array.mk (A1B C.toList (a.off+l.sh+0) vs'))[l.sh+i]? = some v'∧_;simp only[J3,hg2];by_cases hj:a.off≤i∧i<a.off+vs.length
   ·rw[if_pos hj]at hi;rw[if_pos (by omega)];exact hv.get hi
   ·rw[if_neg hj]at hi;rw[if_neg (by omega)];obtain⟨v',g1,g2⟩:=h3 i v hi;exact⟨v',by simpa using g1,g2⟩
 ·cases hw
end
end Go.Sx
namespace Go.Sx
set_option linter.all false
open Go
set_option linter.unusedVariables false
set_option linter.unusedSimpArgs false
variable [Ora]
def VOk(P:Program)(base:Nat)(ρ:Ren)(m:Mem)(w:World)(s:Sem Value)(v:Value)(m':Mem):Prop :=
 ∃ v' ρ' w',s.run P w=.ok v' w'∧VR ρ' v v'∧St P base ρ ρ' m m' w w'
def UOk(P:Program)(base:Nat)(ρ:Ren)(m:Mem)(w:World)(s:Sem Unit)(m':Mem):Prop :=
 ∃ ρ' w',s.run P w=.ok () w'∧St P base ρ ρ' m m' w w'
section
variable {P:Program} {base:Nat} {ρ:Ren} {m m':Mem} {w:World}
theorem VOk.same{s:Sem Value}{v v':Value}(h:HR P base ρ m.H w)(hr:s.run P w=.ok v' w)(hv:VR ρ v v'):VOk P base ρ m w s v m:=⟨v',ρ,w,hr,hv,.refl h⟩
theorem A1E{b:Bool}{v':Value}(h:VR ρ (.bool b) v'):v'=.bool b:=by cases h;rfl
theorem J2{k:IntKind}{n:Int}{v':Value}(h:VR ρ (.int k n) v'):v'=.int k n:=by cases h;rfl
theorem X7{s:ByteArray}{v':Value}(h:VR ρ (.string s) v'):v'=.string s:=by cases h;rfl
theorem Q0{a:Addr}{v':Value}(h:VR ρ (.pointer (some a)) v'):∃ l,ρ a.block=some l∧a.spot=none∧v'=.pointer (some ⟨l.blk,a.off+l.sh,none⟩):=by
 cases h with
 | pure hp=>simp[I2]at hp
 | ptr h=>exact⟨_,h,rfl,rfl⟩
theorem Y9{cs:Array Value}{v':Value}(h:VR ρ (.agg cs) v'):∃ cs',v'=.agg ⟨cs'⟩∧LR ρ cs.toList cs':=by
 cases h with
 | pure hp=>simp[I2]at hp
 | agg ha h=>exact⟨_,rfl,ha,h⟩
theorem A7C{cs:Array Value}{v':Value}(h:VR ρ (.tuple cs) v'):∃ cs',v'=.tuple ⟨cs'⟩∧LR ρ cs.toList cs':=by
 cases h with
 | pure hp=>simp[I2]at hp
 | tuple ha h=>exact⟨_,rfl,ha,h⟩
theorem X3{t:TypeId}{i:TypeInfo}(h:P.info? t=some i)(w:World):(typeInfo t).run P w=.ok i w:=by simp[typeInfo,Sem.run_bind,run_program,Result.andThen,h]
theorem K8{t:TypeId}{n:Nat}(h:G7 P t=some n)(w:World):(sizeOf t).run P w=.ok n w:=by
 unfold G7 at h;split at h
 ·rename_i i hi
  have:=A8 h;subst this;simp[sizeOf,Sem.run_bind,X3 hi,Result.andThen]
 ·cases h
theorem D8{t:TypeId}{d:TypeDesc}(h:P.underlying t=some d)(w:World):(underlying t).run P w=.ok d w:=by simp[underlying,Sem.run_bind,run_program,Result.andThen,h]
theorem A03{t:TypeId}{b:Bool}(h:A0w P t=some b)(w:World):(isAgg t).run P w=.ok b w:=by
 unfold A0w at h;cases hu:P.underlying t with
 | none=>rw[hu]at h;cases h
 | some d =>
   rw[hu]at h;simp only[isAgg,Sem.run_bind,D8 hu,Result.andThen];cases d<;>cases h<;>rfl
theorem B2R{t:TypeId}{z:Value}(h:A2t P t=some z):∃ i,P.info? t=some i∧i.zero=some z∧B3D z=true:=by
 unfold A2t at h;split at h
 ·rename_i i hi;split at h
  ·rename_i v hv;obtain⟨h1,h2⟩:=A5 h
   have:=A8 h2;subst this;exact⟨i,hi,hv,h1⟩
  ·cases h
 ·cases h
theorem A0_{t:TypeId}{z:Value}(h:A2t P t=some z)(w:World):(zeroValue t).run P w=.ok z w:=by
 obtain⟨i,hi,hz,_⟩:=B2R h;simp[zeroValue,Sem.run_bind,X3 hi,Result.andThen,hz]
theorem A54{t:TypeId}{z:Value}(h:A2t P t=some z):LR ρ z.cells.toList z.cells.toList:=by
 obtain⟨i,hi,hz,hp⟩:=B2R h;exact(VR.ofC hp).cells (by cases z<;>first|rfl|cases hp)
theorem B3W{t:TypeId}{a:Addr}{v:Value}{l:Loc}(h:HR P base ρ m.H w)(hv:B59 P m t a=some v)(hl:ρ a.block=some l) :
  ∃ v',(loadVar t ⟨l.blk,a.off+l.sh,none⟩).run P w=.ok v' w∧VR ρ v v':=by
 unfold B59 at hv;split at hv
 ·rename_i ha;split at hv
  ·rename_i n hn;split at hv
   ·rename_i cs hr
    have:=A8 hv;subst this;obtain⟨r',h1,h2,h3⟩:=r9 h hr hl;refine⟨.agg ⟨r'⟩,?_,.agg h1.1 h1.2⟩;simp[loadVar,Sem.run_bind,A03 ha,K8 hn,Result.andThen,J8 h2 h3]
   ·cases hv
  ·cases hv
 ·rename_i ha;split at hv
  ·rename_i u r hr
   have:=A8 hv;subst this;obtain⟨r',h1,h2,h3⟩:=r9 h hr hl;obtain⟨v',r2,rfl,h4,_⟩:=h1.tail;refine⟨v',?_,h4⟩
   have:=h3 0 v' rfl;simp[loadVar,Sem.run_bind,A03 ha,Result.andThen,run_load,show w.cell? ⟨l.blk,a.off+l.sh,none⟩=some v' from by simpa using this]
  ·cases hv
 ·cases hv
theorem B64{t:TypeId}{a:Addr}{v v':Value}{l:Loc}(h:HR P base ρ m.H w)(hs:A8W P m t a v=some m')(hl:ρ a.block=some l)(hv:VR ρ v v') :
  UOk P base ρ m w (storeVar t ⟨l.blk,a.off+l.sh,none⟩ v') m':=by
 unfold A8W at hs;split at hs
 ·rename_i n hn;obtain⟨h1,h2⟩:=A5 hs;obtain⟨h1,hj⟩:=B8 h1;have h1:=A2 h1;have hc:=hv.cells (by simpa using hj);obtain⟨w',hr,hst⟩:=A55 h h2 hl hc;refine⟨ρ,w',?_,hst⟩;have e:v'.cells.size=n:=by
   have:=hc.1;simp at this;omega
  simp[storeVar,Sem.run_bind,K8 hn,Result.andThen,e,hr]
 ·cases hs
theorem A24{t:TypeId}{cs cs':List Value}{off:Nat}{v:Value}(h:A6V P t cs off=some v)(hc:LR ρ cs cs')(w:World):∃ v',(part t ⟨cs'⟩ off).run P w=.ok v' w∧VR ρ v v':=by
 unfold A6V at h;split at h
 ·rename_i ha;split at h
  ·rename_i n hn;split at h
   ·rename_i r hr
    have:=A8 h;subst this;obtain⟨h1,h2⟩:=A3d hr;have hlr:=(hc.drop off).take n;rw[← h1]at hlr;refine⟨.agg ⟨(cs'.drop off).take n⟩,?_,.agg hlr.1 hlr.2⟩;simp[part,Sem.run_bind,A03 ha,K8 hn,Result.andThen,List.extract]
   ·cases h
  ·cases h
 ·rename_i ha;obtain⟨v',h1,h2⟩:=hc.get h;refine⟨v',?_,h2⟩;simp[part,Sem.run_bind,A03 ha,Result.andThen,h1]
 ·cases h
set_option maxHeartbeats 1000000 in
theorem B0I{e:TypeId}{s:Nat}(h:G7 P e=some s):∃ i,P.info? e=some i∧i.size=s:=by
 unfold G7 at h;cases hi:P.info? e with
 | none=>rw[hi]at h;cases h
 | some i=>rw[hi]at h;exact⟨i,rfl,A8 h⟩
theorem A2B{d:Nat}{e:TypeId}{s:Nat}{xs ys:Array Value}:∀ (l:List Nat),Op.eqItems d e s xs ys l=Op.eqFields d xs ys (l.map (C2Y e s))
 | []=>rfl
 | i::l=>by
   rw[F9,Op.eqItems,Op.eqFields,A2B l];have:(C2Y e s i).name ≠ "_":=by show "x" ≠ "_";decide
   rw[if_pos this];rfl
set_option maxHeartbeats 2000000
mutual
theorem B17:∀ (d:Nat) (t:TypeId) (x y x' y':Value) (b:Bool),eqM P d t x y=some b→VR ρ x x'→VR ρ y y'→∀ (n:Nat),d≤n→∀ w:World,(Op.equalIn n t x' y').run P w=.ok b w
 | 0,_,_,_,_,_,_,h,_,_,_,_,_=>by simp[eqM]at h
 | d+1,t,x,y,x',y',b,h,hx,hy,n,hn,w=>by
   obtain⟨n,rfl⟩:∃ k,n=k+1:=⟨n-1,by omega⟩;have hn':d≤n:=by omega
   unfold eqM at h;split at h
   ·rename_i hu;cases A1E hx;cases A1E hy;cases h;simp[Op.equalIn,Sem.run_bind,D8 hu,Result.andThen]
   ·rename_i hu;cases J2 hx;cases J2 hy;obtain⟨h1,h2⟩:=A5 h;cases h2;have h1:=of_decide_eq_true h1;simp[Op.equalIn,Sem.run_bind,D8 hu,Result.andThen,h1]
   ·rename_i hu;cases X7 hx;cases X7 hy;cases h;rw[← ByteArray.toList_eq,← ByteArray.toList_eq];exact run_equalIn_string (P:=P) w n t _ _ hu
   ·rename_i hu;cases h;cases hx with|pure _=>?_
    cases hy with
    | pure _=>rename_i p _;cases p<;>simp[Op.equalIn,Sem.run_bind,D8 hu,Result.andThen]
    | ptr h=>simp[Op.equalIn,Sem.run_bind,D8 hu,Result.andThen]
   ·rename_i hu;cases h;cases hy with|pure _=>?_
    obtain⟨l,_,_,rfl⟩:=Q0 hx;simp[Op.equalIn,Sem.run_bind,D8 hu,Result.andThen]
   ·rename_i hu;cases h;cases hx;cases hy;simp[Op.equalIn,Sem.run_bind,D8 hu,Result.andThen]
   ·rename_i hu;cases h;cases hx;cases hy with
    | pure hp=>simp[I2]at hp
    | iface h=>simp[Op.equalIn,Sem.run_bind,D8 hu,Result.andThen]
   ·rename_i hu;cases h;cases hy;cases hx with
    | pure hp=>simp[I2]at hp
    | iface h=>simp[Op.equalIn,Sem.run_bind,D8 hu,Result.andThen]
   ·rename_i tx vx ty vy hu;cases hx with|pure hp=>simp[I2]at hp|iface hx=>?_
    cases hy with|pure hp=>simp[I2]at hp|iface hy=>?_
    cases ht:Nat.beq tx ty with
    | false =>
      rw[ht]at h;cases h;have:tx≠ty:=fun e=>by subst e;simp at ht
      simp[Op.equalIn,Sem.run_bind,D8 hu,Result.andThen,this]
    | true =>
      rw[ht]at h
      have:=A2 ht;subst this;simp only[cond_true]at h;split at h
      ·rename_i i hi;obtain⟨h1,h2⟩:=A5 h;have ih:=B17 d tx vx vy _ _ b h2 hx hy n hn' w;simp[Op.equalIn,Sem.run_bind,D8 hu,Result.andThen,X3 hi,h1,ih]
      ·cases h
   ·rename_i hu;cases h;cases hx with|pure _=>?_
    cases hy with
    | pure hp=>rename_i p _ _ _;cases p<;>simp[Op.equalIn,Sem.run_bind,D8 hu,Result.andThen]
    | sl h hm=>simp[Op.equalIn,Sem.run_bind,D8 hu,Result.andThen]
    | op h hm hn hc=>simp[Op.equalIn,Sem.run_bind,D8 hu,Result.andThen]
    | opE hs=>simp[Op.equalIn,Sem.run_bind,D8 hu,Result.andThen]
   ·rename_i hu;cases h;cases hy with|pure _=>?_
    cases hx with
    | pure hp=>simp[I2]at hp
    | sl h hm=>simp[Op.equalIn,Sem.run_bind,D8 hu,Result.andThen]
    | op h hm hn hc=>simp[Op.equalIn,Sem.run_bind,D8 hu,Result.andThen]
    | opE hs=>simp[Op.equalIn,Sem.run_bind,D8 hu,Result.andThen]
   ·rename_i hu;cases h;cases hx with|pure _=>?_
    cases hy with
    | pure _=>rename_i p _;cases p<;>simp[Op.equalIn,Sem.run_bind,D8 hu,Result.andThen]
    | map h=>simp[Op.equalIn,Sem.run_bind,D8 hu,Result.andThen]
   ·rename_i hu;cases h;cases hx;cases hy;simp[Op.equalIn,Sem.run_bind,D8 hu,Result.andThen]
   ·rename_i hu;cases h;cases hx;cases hy with
    | pure hp=>simp[I2]at hp
    | func _ _ _ _=>simp[Op.equalIn,Sem.run_bind,D8 hu,Result.andThen]
   ·rename_i hu;cases h;cases hy;cases hx with
    | pure hp=>simp[I2]at hp
    | func _ _ _ _=>simp[Op.equalIn,Sem.run_bind,D8 hu,Result.andThen]
   ·rename_i fs xs ys hu;cases hs:P.stoodInHeld t with
    | true=>rw[hs]at h;cases h
    | false =>
      rw[hs]at h;obtain⟨xs',rfl,hx1⟩:=Y9 hx;obtain⟨ys',rfl,hy1⟩:=Y9 hy;have hf:P.fieldsOf t=fs:=by simp[Program.fieldsOf,hu]
      rw[run_equalIn_struct (P:=P) w n t _ _ (by rw[hf];exact hu) hs,hf];exact B5J d fs.toList xs.toList ys.toList xs' ys' b h hx1 hy1 n hn' w
   ·rename_i k e xs ys hu;split at h
    ·rename_i s hs;obtain⟨xs',rfl,hx1⟩:=Y9 hx;obtain⟨ys',rfl,hy1⟩:=Y9 hy;obtain⟨i,hi,rfl⟩:=B0I hs;rw[run_equalIn_array (P:=P) (w:=w) n _ _ hu hi,show P.cellsOf e=i.size by simp[Program.cellsOf,hi],A2B];exact B5J d _ xs.toList ys.toList xs' ys' b h hx1 hy1 n hn' w
    ·cases h
   ·cases h
theorem B5J:∀ (d:Nat) (fs:List Field) (xs ys xs' ys':List Value) (b:Bool),eqF P d fs xs ys=some b→LR ρ xs xs'→LR ρ ys ys'→∀ (n:Nat),d≤n→∀ w:World,(Op.eqFields n ⟨xs'⟩ ⟨ys'⟩ fs).run P w=.ok b w
 | 0,_,_,_,_,_,_,h,_,_,_,_,_=>by simp[eqF]at h
 | d+1,[],_,_,_,_,_,h,_,_,_,_,_=>by
   simp only[eqF,D3]at h;subst h;simp[Op.eqFields]
 | d+1,f::fs,xs,ys,xs',ys',b,h,hx,hy,n,hn,w=>by
   unfold eqF at h;cases hnm:f.name == "_" with
   | true=>rw[hnm]at h;cases h
   | false =>
     rw[hnm]at h;simp only[cond_false]at h;have hn':f.name ≠ "_":=by simpa using hnm
     split at h
     ·rename_i x y h1 h2;obtain⟨x',g1,g2⟩:=A24 h1 hx w;obtain⟨y',g3,g4⟩:=A24 h2 hy w;split at h
      ·rename_i he;have ih:=B17 d f.type x y x' y' true he g2 g4 n (by omega) w;have ih2:=B5J d fs xs ys xs' ys' b h hx hy n (by omega) w;unfold Op.eqFields;rw[if_pos hn'];simp[Sem.run_bind,g1,g3,Result.andThen,ih,ih2]
      ·rename_i he;cases h;have ih:=B17 d f.type x y x' y' false he g2 g4 n (by omega) w;unfold Op.eqFields;rw[if_pos hn'];simp[Sem.run_bind,g1,g3,Result.andThen,ih]
      ·cases h
     ·cases h
end
end
end Go.Sx
namespace Go.Sx
set_option linter.all false
open Go
set_option linter.unusedVariables false
set_option linter.unusedSimpArgs false
theorem A56(k:IntKind)(m:Nat)(h:m≤B4f k):k.wrap (.ofNat m)=.ofNat m:=by
 cases k<;>simp only[B4f]at h<;>simp only[IntKind.wrap,IntKind.bits,IntKind.signed,Nat.reduceSub]<;>simp<;>omega
theorem A3z(k:IntKind)(n:Int):B0A k n=k.wrap n:=by
 unfold B0A;cases n with
 | ofNat m =>
   simp only;cases h:Nat.ble m (B4f k)with
   | true=>rw[A56 k m (A1 h)];rfl
   | false=>rfl
 | negSucc m=>rfl
theorem B6o(a b:Int):C7J a b=a+b:=by cases a<;>cases b<;>rfl
theorem B50(a b:Int):C6c a b=a*b:=by cases a<;>cases b<;>rfl
theorem B5e(a b:Int):C5H a b=a-b:=by
 cases a<;>cases b<;>try rfl
 rename_i m n;simp only[C5H];cases h:Nat.ble n m with
 | true =>
   have:=A1 h;simp only[cond_true];show Int.ofNat (m-n)=_;have e:(Int.ofNat (m-n))=(m:Int)-(n:Int):=by simp[Int.ofNat_sub this]
   exact e
 | false=>rfl
theorem B43(a b:Int):ltF a b=decide (a<b):=by
 cases a with
 | ofNat m=>cases b with
   | ofNat n =>
     simp only[ltF];rw[M3];simp[Nat.blt,A53];omega
   | negSucc n=>simp only[ltF];symm;simp;omega
 | negSucc m=>cases b with
   | ofNat n=>simp only[ltF];symm;simp;omega
   | negSucc n =>
     simp only[ltF];rw[M3];simp[Nat.blt,A53];omega
theorem B47(a b:Int):leF a b=decide (a≤b):=by
 cases a with
 | ofNat m=>cases b with
   | ofNat n=>simp only[leF];rw[M3];simp[A53]
   | negSucc n=>simp only[leF];symm;simp;omega
 | negSucc m=>cases b with
   | ofNat n=>simp only[leF];symm;simp;omega
   | negSucc n=>simp only[leF];rw[M3];simp[A53];omega
theorem A2d(a b:Int):B18 a b=(a == b):=by
 cases a<;>cases b<;>simp only[B18]<;>rw[M3]<;>simp
 omega
theorem A6M{k j:IntKind}(h:B0L k j=true):k=j:=by cases k<;>cases j<;>first|rfl|cases h
variable [Ora]
section
variable {P:Program} {base:Nat} {ρ:Ren} {m m':Mem} {w:World}
theorem A0e{op:BinOp}{k:IntKind}{a b:Int}{v:Value}(h:A9b op k a b=some v)(w:World):(Op.intBits op k a b).run P w=.ok v w∧I2 v=true:=by
 unfold A9b at h;split at h<;>cases h<;>exact⟨rfl,rfl⟩
theorem C18{op:BinOp}{k:IntKind}{a b:Int}{t:TypeId}{v:Value}(hs:A3Y op=none)(h:A4L op k a b=some v)(w:World):(binOp op t (.int k a) (.int k b)).run P w=.ok v w∧I2 v=true:=by
 unfold A4L at h;cases op<;>simp only[A3Y]at hs<;>try cases hs
 all_goals simp only[A0W,A3z,B6o,B5e,B50,B43,B47,A2d]at h
 case quo =>
  cases hb:(b == 0)<;>rw[hb]at h<;>cases h
  have:b≠0:=by simpa using hb
  exact⟨by simp[binOp,Op.intDiv,this],rfl⟩
 case rem =>
  cases hb:(b == 0)<;>rw[hb]at h<;>cases h
  have:b≠0:=by simpa using hb
  exact⟨by simp[binOp,Op.intDiv,this],rfl⟩
 case and=>exact⟨by simpa [binOp]using(A0e h w).1,(A0e (P:=P) h w).2⟩
 case or=>exact⟨by simpa [binOp]using(A0e h w).1,(A0e (P:=P) h w).2⟩
 case xor=>exact⟨by simpa [binOp]using(A0e h w).1,(A0e (P:=P) h w).2⟩
 case andNot=>exact⟨by simpa [binOp]using(A0e h w).1,(A0e (P:=P) h w).2⟩
 all_goals
  cases h;refine⟨?_,rfl⟩;simp only[binOp,Op.intCmp,Op.intArith,ne_eq,not_true,if_false];rfl
theorem B9J:∀ a b:List UInt8,ltL a b=Op.bytesLess a b
 | [],[]=>rfl
 | _::_,[]=>rfl
 | [],_::_=>rfl
 | a::x,b::y=>by simp[ltL,Op.bytesLess,B9J x y]
theorem B2H(a b:ByteArray):a++b=⟨⟨a.data.toList++b.data.toList⟩⟩:=by
 have h:(a++b).data=⟨a.data.toList++b.data.toList⟩:=by
  rw[ByteArray.data_append];apply J1;simp
 cases hab:a++b with
 | mk d=>rw[hab]at h;simp only at h;rw[h]
theorem C1S{op:BinOp}{a b:ByteArray}{t:TypeId}{v:Value}(h:B8W op a b=some v)(w:World):(binOp op t (.string a) (.string b)).run P w=.ok v w∧I2 v=true:=by
 unfold B8W at h;split at h
 ·obtain⟨h1,h2⟩:=A5 h;rw[H4]at h2;cases h2;refine⟨?_,rfl⟩;have h1:=A1 h1;have:¬ (((a.size+b.size:Nat):Int)>IntKind.i64.max):=by simp[IntKind.max,IntKind.bits,IntKind.signed];omega
  simp only[binOp,Op.stringOp,if_neg this,B2H];rfl
 all_goals first
  | (cases h;refine⟨?_,rfl⟩;simp only[binOp,Op.stringOp,ByteArray.toList_eq,B9J];rfl)
  | cases h
def A8c:Value→Bool
 | .int _ _|.bool _|.string _=>true
 | _=>false
theorem A4g{u:U}{v:Value}(h:toV u=some v):A8c v=true:=by cases u<;>cases h<;>rfl
def C16:Value→Bool
 | .complex _ _ _=>true
 | .func (.yield _) _ _=>true
 | _=>false
theorem B9t{d:Nat}{t:TypeId}{a b:Value}{r:Bool}(h:eqM P d t a b=some r):C16 a=false∧C16 b=false:=by
 cases d with
 | zero=>simp[eqM]at h
 | succ d =>
   unfold eqM at h;split at h<;>first|exact⟨rfl,rfl⟩|cases h
theorem B7V{op:BinOp}{t:TypeId}{x y:Operand}{a b a' b':Value}(hg1:A4O P t x y a b=true)(ha:VR ρ a a')(hb:VR ρ b b')(w:World)(hop:op=.eql∨op=.neq):(eqGuard op t x y a' b').run P w=.ok () w:=by
 unfold eqGuard;rw[if_neg (by rcases hop with rfl|rfl<;>simp)];clear hop;unfold A4O at hg1;split at hg1
 ·cases ha;cases hb;simp only[I5]at hg1;rcases hg1 with hg|hg
  ·cases x<;>simp only[isC]at hg<;>first|rfl|cases hg
  ·cases y<;>simp only[isC]at hg<;>first|(cases x<;>rfl)|cases hg
 ·obtain⟨xs',rfl,_⟩:=Y9 ha;obtain⟨ys',rfl,_⟩:=Y9 hb;have hg:P.eqGuardType P.depth t=false:=by simpa using hg1
  simp[Sem.run_bind,run_program,Result.andThen,hg]
 ·rename_i hn1 hn2;obtain⟨hj1,hj2⟩:=B8 hg1;split
  ·exfalso;cases ha with
   | hole h _=>have:=A4g h;simp[A8c]at this
   | junk=>cases hj1
   | ixp _ _ _ _ hv=>cases hv
   | dat _ he ht h10 _=>obtain⟨_,_,_,q⟩:=he.slice (by omega);cases q
   | clp _ he ht h10 _ _=>obtain⟨_,_,_,q⟩:=he.slice (by omega);cases q
   | own h _ _=>rcases h with⟨_,_,_,_,_,q⟩|⟨_,_,_,_,_,_,_,_,q⟩<;>cases q
   | dpt h _ _=>obtain⟨_,_,_,_,_,_,_,_,_,_,_,_,_,q⟩:=h;cases q
   | opt h _ _=>obtain⟨_,_,_,_,_,_,_,_,_,_,q⟩:=h;cases q
   | sdt h=>obtain⟨_,_,⟨_,q⟩|⟨_,_,q,_⟩⟩:=h<;>cases q
   | pure _ =>
     cases hb with
     | hole h _=>have:=A4g h;simp[A8c]at this
     | junk=>cases hj2
     | ixp _ _ _ _ hv=>cases hv
     | dat _ he ht h10 _=>obtain⟨_,_,_,q⟩:=he.slice (by omega);cases q
     | clp _ he ht h10 _ _=>obtain⟨_,_,_,q⟩:=he.slice (by omega);cases q
     | own h _ _=>rcases h with⟨_,_,_,_,_,q⟩|⟨_,_,_,_,_,_,_,_,q⟩<;>cases q
     | dpt h _ _=>obtain⟨_,_,_,_,_,_,_,_,_,_,_,_,_,q⟩:=h;cases q
     | opt h _ _=>obtain⟨_,_,_,_,_,_,_,_,_,_,q⟩:=h;cases q
     | sdt h=>obtain⟨_,_,⟨_,q⟩|⟨_,_,q,_⟩⟩:=h<;>cases q
     | pure _=>exact hn1 rfl rfl
  ·exfalso;cases ha with
   | hole h _=>have:=A4g h;simp[A8c]at this
   | junk=>cases hj1
   | ixp _ _ _ _ hv=>cases hv
   | dat _ he ht h10 _=>obtain⟨_,_,_,q⟩:=he.slice (by omega);cases q
   | clp _ he ht h10 _ _=>obtain⟨_,_,_,q⟩:=he.slice (by omega);cases q
   | own h _ _=>rcases h with⟨_,_,_,_,_,q⟩|⟨_,_,_,_,_,_,_,_,q⟩<;>cases q
   | dpt h _ _=>obtain⟨_,_,_,_,_,_,_,_,_,_,_,_,_,q⟩:=h;cases q
   | opt h _ _=>obtain⟨_,_,_,_,_,_,_,_,_,_,q⟩:=h;cases q
   | sdt h=>obtain⟨_,_,⟨_,q⟩|⟨_,_,q,_⟩⟩:=h<;>cases q
   | pure h=>simp[I2]at h
   | agg _ _ =>
     cases hb with
     | hole h _=>have:=A4g h;simp[A8c]at this
     | junk=>cases hj2
     | ixp _ _ _ _ hv=>cases hv
     | dat _ he ht h10 _=>obtain⟨_,_,_,q⟩:=he.slice (by omega);cases q
     | clp _ he ht h10 _ _=>obtain⟨_,_,_,q⟩:=he.slice (by omega);cases q
     | own h _ _=>rcases h with⟨_,_,_,_,_,q⟩|⟨_,_,_,_,_,_,_,_,q⟩<;>cases q
     | dpt h _ _=>obtain⟨_,_,_,_,_,_,_,_,_,_,_,_,_,q⟩:=h;cases q
     | opt h _ _=>obtain⟨_,_,_,_,_,_,_,_,_,_,q⟩:=h;cases q
     | sdt h=>obtain⟨_,_,⟨_,q⟩|⟨_,_,q,_⟩⟩:=h<;>cases q
     | pure h=>simp[I2]at h
     | agg _ _=>exact hn2 _ _ rfl rfl
  ·rfl
theorem A6f{op:BinOp}{t:TypeId}{x y:Operand}{a b a' b':Value}(hg:A8_ op=true→A4O P t x y a b=true)(ha:VR ρ a a')(hb:VR ρ b b')(w:World):(eqGuard op t x y a' b').run P w=.ok () w:=by
 cases hop:A8_ op with
 | false =>
   unfold eqGuard;cases op<;>simp only[A8_]at hop<;>first|rfl|cases hop
 | true=>exact B7V (hg hop) ha hb w (by cases op<;>simp only[A8_]at hop<;>first|(exact .inl rfl)|(exact .inr rfl)|cases hop)
theorem C2H{t:TypeId}{a b a' b':Value}(ha:VR ρ a a')(hb:VR ρ b b')(hn1:∀ (k j:IntKind) (x y:Int),a=.int k x→b=.int j y→False)(hn2:∀ x y:ByteArray,a=.string x→b=.string y→False)(hc1:C16 a=false)(hc2:C16 b=false)(e:Bool) :
  binOp (bif e then .eql else .neq) t a' b'=(do let r ← Op.equal t a' b';pure (.bool (bif e then r else !r))):=by
 cases ha with
 | hole _ _=>cases hc1
 | junk=>cases hc1
 | ixp _ _ _ _ _=>cases hc1
 | dat _ _ _ _ _=>cases hc1
 | clp _ _ _ _ _ _=>cases hc1
 | own _ _ _=>cases hc1
 | dpt _ _ _=>cases hc1
 | opt _ _ _=>cases hc1
 | sdt _=>cases hc1
 | pure hp =>
   cases a<;>simp only[I2]at hp<;>try cases hp
   all_goals
    cases hb with
    | hole _ _=>cases hc2
    | junk=>cases hc2
    | ixp _ _ _ _ _=>cases hc2
    | dat _ _ _ _ _=>cases hc2
    | clp _ _ _ _ _ _=>cases hc2
    | own _ _ _=>cases hc2
    | dpt _ _ _=>cases hc2
    | opt _ _ _=>cases hc2
    | sdt _=>cases hc2
    | pure hq=>cases b<;>simp only[I2]at hq<;>first|(cases e<;>rfl)|(exfalso;exact hn1 _ _ _ _ rfl rfl)|(exfalso;exact hn2 _ _ rfl rfl)|cases hq
    | _=>cases e<;>rfl
 | _ =>
   cases hb with
   | hole _ _=>cases hc2
   | junk=>cases hc2
   | ixp _ _ _ _ _=>cases hc2
   | dat _ _ _ _ _=>cases hc2
   | clp _ _ _ _ _ _=>cases hc2
   | own _ _ _=>cases hc2
   | dpt _ _ _=>cases hc2
   | opt _ _ _=>cases hc2
   | sdt _=>cases hc2
   | pure hq=>cases b<;>simp only[I2]at hq<;>first|(cases e<;>rfl)|cases hq
   | _=>cases e<;>rfl
theorem A8M{op:BinOp}{t:TypeId}{a b a' b' v:Value}(h:A6s P op t a b=some v)(ha:VR ρ a a')(hb:VR ρ b b')(w:World):(binOp op t a' b').run P w=.ok v w∧I2 v=true:=by
 unfold A6s at h;split at h
 ·cases J2 ha;cases J2 hb;unfold A0l at h;split at h
  ·rename_i l hl;split at h
   ·rename_i n;cases h;unfold B4r;cases op<;>simp only[A3Y]at hl<;>cases hl
    ·refine⟨?_,by simp[A0W,I2]⟩;simp[binOp,Op.shift,A0W];intro h;omega
    ·refine⟨?_,by simp[A0W,I2]⟩;simp[binOp,Op.shift,A0W];intro h;omega
   ·cases h
  ·rename_i hl;obtain⟨h1,h2⟩:=A5 h;cases A6M h1;exact C18 hl h2 w
 ·cases X7 ha;cases X7 hb;exact C1S h w
 ·rename_i hn1 hn2;unfold B0U at h;have he:∀ r,eqM P 20 t a b=some r→(Op.equal t a' b').run P w=.ok r w:=fun r hr=>B17 20 t a b a' b' r hr ha hb _ (by decide) w
  have hq:=fun(r:Bool) (hr:eqM P 20 t a b=some r) e=>C2H (t:=t) ha hb (fun k j x y=>hn1 k x j y) (fun x y=>hn2 x y) (B9t hr).1 (B9t hr).2 e
  split at h
  ·split at h
   ·rename_i r hr;cases h;refine⟨?_,rfl⟩;have h3:=hq r hr true;simp only[cond_true]at h3;rw[h3];simp[Sem.run_bind,he r hr,Result.andThen]
   ·cases h
  ·split at h
   ·rename_i r hr;cases h;refine⟨?_,rfl⟩;have h3:=hq r hr false;simp only[cond_false]at h3;rw[h3];simp[Sem.run_bind,he r hr,Result.andThen]
   ·cases h
  ·cases h
end
end Go.Sx
namespace Go.Sx
set_option linter.all false
open Go
set_option linter.unusedVariables false
set_option linter.unusedSimpArgs false
variable [Ora]
section
variable {P:Program} {base:Nat} {ρ:Ren} {m m':Mem} {w:World}
theorem A1d(a:Addr)(n:Nat):A0t a n=⟨a.block,a.off+n,none⟩:=by simp[A0t,E8]
theorem c8(b o i:Nat):(Addr.mk b o none).add i=⟨b,o+i,none⟩:=J8.add_none'
theorem A4Q{s:TypeId}{x x' v:Value}{i:Nat}(h:A1G P s x i=some v)(hx:VR ρ x x')(w:World):∃ v',(Instr.fieldAt s x' i).run P w=.ok v' w∧VR ρ v v':=by
 unfold A1G at h;split at h
 ·rename_i fs a hu;obtain⟨l,hl,hs,rfl⟩:=Q0 hx;split at h
  ·rename_i f hf hs';split at h
   ·rename_i n hn;cases h;rw[A1d];refine⟨_,?_,.ptr hl⟩;have hf':fs[i]? = some f:=by simpa using hf
    have:=K8 hn w;simp[Instr.fieldAt,Sem.run_bind,D8 hu,Result.andThen,hf',Instr.sureAddr,fieldPlace,this,c8]
   ·cases h
  ·cases h
 ·cases h
theorem B7X{t:TypeId}{x x' v:Value}{i:Nat}(h:B13 P t x i=some v)(hx:VR ρ x x')(w:World):∃ v',(Instr.field t x' i).run P w=.ok v' w∧VR ρ v v':=by
 unfold B13 at h;split at h
 ·rename_i fs cs hu;obtain⟨cs',rfl,hc⟩:=Y9 hx;split at h
  ·rename_i f hf;obtain⟨v',h1,h2⟩:=A24 h hc w;have hf':fs[i]? = some f:=by simpa using hf
   refine⟨v',?_,h2⟩;simp[Instr.field,Sem.run_bind,D8 hu,Result.andThen,hf',asAgg,h1]
  ·cases h
 ·cases h
theorem A1F{t:TypeId}{x x' i i' v:Value}(h:Z7 P t x i=some v)(hx:VR ρ x x')(hi:VR ρ i i')(w:World):∃ v',(Instr.indexAt t x' i').run P w=.ok v' w∧VR ρ v v':=by
 unfold Z7 at h;split at h
 ·rename_i n e a k0 k hu;cases J2 hi;obtain⟨l,hl,hs,rfl⟩:=Q0 hx;split at h
  ·rename_i s hn hs';obtain⟨h1,h2⟩:=A5 h;cases h2;have h1:k<n:=A1 h1;rw[A1d];refine⟨.pointer (some ⟨l.blk,a.off+k*s+l.sh,none⟩),?_,.ptr hl⟩;simp[Instr.indexAt,Sem.run_bind,D8 hu,Result.andThen,asIntOf,K8 hn,h1,c8,Instr.sureAddr]
  ·cases h
 ·rename_i e a n c k0 k hu;cases J2 hi;split at h
  ·rename_i s hn hs';obtain⟨h1,h2⟩:=A5 h;cases h2;have h1:k<n:=A1 h1;rw[A1d];cases hx with
   | pure hp=>simp[I2]at hp
   | sl hl hm =>
     rename_i b o l;refine⟨.pointer (some ⟨l.blk,o+k*s+l.sh,none⟩),?_,.ptr hl⟩;simp[Instr.indexAt,Sem.run_bind,D8 hu,Result.andThen,asIntOf,K8 hn,h1,c8]
   | op hl hm hn' hc =>
     rename_i b o l _;refine⟨.pointer (some ⟨l.blk,o+k*s+l.sh,none⟩),?_,.ptr hl⟩;simp[Instr.indexAt,Sem.run_bind,D8 hu,Result.andThen,asIntOf,K8 hn,h1,c8]
   | opE hs=>omega
  ·cases h
 ·cases h
theorem A7D{t:TypeId}{x x' i i' v:Value}(h:A4M P t x i=some v)(hx:VR ρ x x')(hi:VR ρ i i')(w:World):∃ v',(Instr.index t x' i').run P w=.ok v' w∧VR ρ v v':=by
 unfold A4M at h;split at h
 ·rename_i n e cs k0 k hu;cases J2 hi;obtain⟨cs',rfl,hc⟩:=Y9 hx;split at h
  ·rename_i s hn;obtain⟨h1,h2⟩:=A5 h;have h1:k<n:=A1 h1;obtain⟨v',h3,h4⟩:=A24 h2 hc w;refine⟨v',?_,h4⟩;simp[Instr.index,Sem.run_bind,D8 hu,Result.andThen,asIntOf,K8 hn,h1,h3]
  ·cases h
 ·rename_i s k0 k hu;cases J2 hi;cases X7 hx;split at h
  ·rename_i b hb;cases h;refine⟨_,?_,.pure rfl⟩;have hlt:k<s.size:=by
    have:=(A9.1 hb).1
    simpa using this
   have hg:s[k]? = some b:=by
    rw[getElem?_pos s k hlt]
    have:=(A9.1 hb).2;rw[← this];rfl
   simp[Instr.index,Sem.run_bind,D8 hu,Result.andThen,asIntOf,hg]
  ·cases h
 ·cases h
theorem B3L{x x' v:Value}{i:Nat}(h:A4C m x i=some (v,m'))(hx:VR ρ x x')(w:World):m'=m∧∃ v',(Instr.extract x' i).run P w=.ok v' w∧VR ρ v v':=by
 unfold A4C at h;split at h
 ·rename_i vs;obtain⟨cs',rfl,hc⟩:=A7C hx;unfold noM at h;split at h
  ·rename_i u hu;cases h;obtain⟨v',h1,h2⟩:=hc.get hu;exact⟨rfl,v',by simp[Instr.extract,h1],h2⟩
  ·cases h
 ·cases h
theorem B0u:∀ (vs:List Value) (off k:Nat) (C:Array Value),((vs.zipIdx k).foldl (fun(cs:Array Value) (x:Value×Nat)=>cs.setIfInBounds (off+x.2) x.1) C)=⟨A1B C.toList (off+k) vs⟩
 | [],off,k,C=>rfl
 | v::r,off,k,C=>by
   simp only[List.zipIdx_cons,List.foldl_cons];rw[B0u r off (k+1)];simp[A1B,A05]
def PR(ρ:Ren):List (Nat×Value)→List (Nat×Value)→Prop
 | [],[]=>True
 | (i,v)::r,(j,v')::r'=>i=j∧VR ρ v v'∧PR ρ r r'
 | _,_=>False
theorem A6n{place:Nat→Option (Nat×Nat)}:∀ {parts parts':List (Nat×Value)} {cs cs' r:List Value},A9G place cs parts=some r→PR ρ parts parts'→LR ρ cs cs'→∃ r',Instr.fill place ⟨cs'⟩ parts'=some ⟨r'⟩∧LR ρ r r'
 | [],[],cs,cs',r,h,_,hc=>by
   simp only[A9G,D3]at h;subst h;exact⟨cs',rfl,hc⟩
 | [],_::_,_,_,_,_,hp,_=>hp.elim
 | _::_,[],_,_,_,_,hp,_=>hp.elim
 | (i,v)::rest,(j,v')::rest',cs,cs',r,h,⟨hij,hv,hp⟩,hc=>by
   subst hij;unfold A9G at h;split at h
   ·cases h
   ·rename_i off size hpl;obtain⟨h1,h2⟩:=A5 h;obtain⟨h3,h4⟩:=B8 h1;obtain⟨h3,hj⟩:=B8 h3;have h3:=A2 h3;have h4:=A1 h4;rw[H4]at h2;have hcv:=hv.cells (by simpa using hj);have hsz:v'.cells.size=v.cells.size:=by have:=hcv.1;simp at this;omega
    obtain⟨r',h5,h6⟩:=A6n h2 hp (B5o hc hcv);refine⟨r',?_,h6⟩;unfold Instr.fill;simp only[hpl];rw[if_neg]
    ·have:=B0u v'.cells.toList off 0 ⟨cs'⟩;have e:(v'.cells.zipIdx.foldl (fun(cs:Array Value) (x:Value×Nat)=>cs.setIfInBounds (off+x.2) x.1) ⟨cs'⟩)=⟨A1B cs' off v'.cells.toList⟩:=by
      rw[← Array.foldl_toList,Array.toList_zipIdx,this];rfl
     have e2:(Array.foldl (fun cs x=>match x with|(c,j)=>cs.setIfInBounds (off+j) c) ({ toList:=cs' }:Array Value) v'.cells.zipIdx)=⟨A1B cs' off v'.cells.toList⟩:=e;rw[e2];exact h5
    ·have:=hc.1;simp[hsz];constructor
     ·exact h3
     ·omega
theorem A8d:∀ (fs:List Field) (ps:List (Nat×Nat)),A6U P fs=some ps→∀ w:World,(fs.mapM (fun f=>do pure (f.offset,← sizeOf f.type):Field→Sem (Nat×Nat))).run P w=.ok ps w
 | [],ps,h,w=>by simp only[A6U,D3]at h;subst h;rfl
 | f::r,ps,h,w=>by
   unfold A6U at h;split at h
   ·rename_i n l hn hl;cases h;have ih:=A8d r l hl w;simp only[List.mapM_cons,Sem.run_bind,K8 hn,Result.andThen,Sem.run_pure];rw[ih]
   ·cases h
theorem B7h{t:TypeId}{parts parts':List (Nat×Value)}{v:Value}(h:B5N P t parts=some v)(hp:PR ρ parts parts')(w:World):∃ v',(Instr.build t ⟨parts'⟩).run P w=.ok v' w∧VR ρ v v':=by
 unfold B5N at h;split at h
 ·rename_i z fs hz hu;split at h
  ·rename_i ps hps;split at h
   ·rename_i cs hcs;cases h;obtain⟨r',h1,h2⟩:=A6n hcs hp (A54 hz);refine⟨.agg ⟨r'⟩,?_,.agg h2.1 h2.2⟩;have hm:(fs.mapM (fun f=>do pure (f.offset,← sizeOf f.type):Field→Sem (Nat×Nat))).run P w=.ok ps.toArray w:=by
     rw[A2K];show(Sem.bind (fs.toList.mapM (fun f=>do pure (f.offset,← sizeOf f.type):Field→Sem (Nat×Nat))) fun l=>Sem.pure l.toArray).run P w=_
     have:=A8d _ _ hps w;have hb:∀ (x:Sem (List (Nat×Nat))) (k:List (Nat×Nat)→Sem (Array (Nat×Nat))),(Sem.bind x k).run P w=(x >>= k).run P w:=fun _ _=>rfl
     rw[hb,Sem.run_bind,this];rfl
    have h1':Instr.fill (fun i=>ps[i]?) z.cells parts'=some ⟨r'⟩:=h1;unfold Instr.build;simp only[Sem.run_bind,A0_ hz,D8 hu,Result.andThen,hm,J3];simp only[h1'];rfl
   ·cases h
  ·cases h
 ·rename_i z n e hz hu;split at h
  ·rename_i s hs;split at h
   ·rename_i cs hcs;cases h;obtain⟨r',h1,h2⟩:=A6n hcs hp (A54 hz);refine⟨.agg ⟨r'⟩,?_,.agg h2.1 h2.2⟩;have h1':Instr.fill (fun i=>some (i*s,s)) z.cells parts'=some ⟨r'⟩:=h1;simp[Instr.build,Sem.run_bind,A0_ hz,D8 hu,Result.andThen,K8 hs,h1']
   ·cases h
  ·cases h
 ·cases h
end
end Go.Sx
namespace Go.Sx
set_option linter.all false
open Go
set_option linter.unusedVariables false
set_option linter.unusedSimpArgs false
variable [Ora]
def OR(ρ:Ren):Option Value→Option Value→Prop
 | none,none=>True
 | some v,some v'=>VR ρ v v'
 | _,_=>False
def Bd(o:Option Value)(top dflt k:Nat):Prop:=(o=none∧k=dflt)∨∃ j,o=some (.int j (.ofNat k))∧k≤top
section
variable {P:Program} {base:Nat} {ρ:Ren} {m m':Mem} {w:World}
theorem N7{o o':Option Value}{top dflt k:Nat}(h:V8 o top dflt=some k)(ho:OR ρ o o'):Bd o' top dflt k:=by
 unfold V8 at h;split at h
 ·cases h;cases o' with
  | none=>exact .inl ⟨rfl,rfl⟩
  | some _=>exact ho.elim
 ·obtain⟨h1,h2⟩:=A5 h;cases h2;cases o' with
  | none=>exact ho.elim
  | some v' =>
    have ho:VR ρ _ v':=ho;cases J2 ho;exact .inr ⟨_,rfl,A1 h1⟩
 ·cases h
theorem B7E{v:Value}{j:IntKind}{k y:Nat}{c:BoundsCode}(hv:v=.int j (.ofNat k))(h:k≤y)(w:World):(Instr.sliceBound v y c).run P w=.ok k w:=by
 subst hv;simp[Instr.sliceBound,Sem.run_bind,asIntOf,Result.andThen,h]
theorem A3P{b:Bool}{len cap l h mm:Nat}{lo hi mx:Option Value}(h1:Bd mx cap cap mm)(h0:hi=none→mx=none)(h2:Bd hi mm len h)(h3:Bd lo h 0 l)(w:World) :
  (Instr.sliceBounds b len cap lo hi mx).run P w=.ok (l,h,mm) w:=by
 unfold Instr.sliceBounds;rcases h1 with⟨rfl,rfl⟩|⟨j,rfl,h1⟩<;>rcases h2 with⟨rfl,rfl⟩|⟨j2,rfl,h2⟩<;>rcases h3 with⟨rfl,rfl⟩|⟨j3,rfl,h3⟩
 all_goals first
  | (exfalso;have:=h0 rfl;cases this;done)
  | (simp only[Sem.run_bind,Sem.run_pure,Result.andThen];repeat (first|rw[B7E rfl ‹_›]|simp only[Result.andThen,Sem.run_bind,Sem.run_pure]));done
theorem VR.slice{a a':Addr}{n c c':Nat}(h:VR ρ (.slice (some a) n c) (.slice (some a') n c')):True:=trivial
theorem P1{a:Addr}{n c:Nat}{x':Value}(h:VR ρ (.slice (some a) n c) x') :
  (∃ l,ρ a.block=some l∧a.spot=none∧c<N3∧x'=.slice (some ⟨l.blk,a.off+l.sh,none⟩) n c) ∨
  (∃ l c',ρ a.block=some l∧a.spot=none∧N3≤c∧n≤c'∧(c=N3→a.off=0→c'=l.cap)∧x'=.slice (some ⟨l.blk,a.off+l.sh,none⟩) n c') ∨
  (∃ a' c',a'.spot=none∧n=0∧c=N3+2∧x'=.slice (some a') 0 c'):=by
 cases h with
 | pure hp=>simp[I2]at hp
 | sl hl hm=>exact .inl ⟨_,hl,rfl,hm,rfl⟩
 | op hl hm hn hc=>exact .inr (.inl ⟨_,_,hl,rfl,hm,hn,hc,rfl⟩)
 | opE hs=>exact .inr (.inr ⟨_,_,hs,rfl,rfl,rfl⟩)
theorem Q3{n c:Nat}{x':Value}(h:VR ρ (.slice none n c) x'):x'=.slice none n c:=by cases h;rfl
theorem OR.none_iff{o o':Option Value}(h:OR ρ o o'):o=none↔o'=none:=by
 cases o<;>cases o'<;>simp_all [OR]
theorem A7X{t e:TypeId}{s n c l h mm:Nat}{a:Option Addr}{lo hi mx:Option Value}(hu:P.underlying t=some (.slice e))(hs:G7 P e=some s)(h1:Bd mx c c mm)(h0:hi=none→mx=none)(h2:Bd hi mm n h)(h3:Bd lo h 0 l)(w:World) :
  (Instr.sliceAt t (.slice a n c) lo hi mx).run P w=.ok (.slice (if mm=l then a else a.map (·.add (l*s))) (h-l) (mm-l)) w:=by
 have:=A3P (P:=P) (b:=true) h1 h0 h2 h3 w;simp[Instr.sliceAt,Instr.slice,Sem.run_bind,D8 hu,Result.andThen,this,K8 hs]
theorem A2q(s:ByteArray)(l h:Nat):s.extract l h=⟨⟨(s.data.toList.drop l).take (h-l)⟩⟩:=by
 have h1:(s.extract l h).data=⟨(s.data.toList.drop l).take (h-l)⟩:=by
  rw[ByteArray.data_extract];apply J1;simp[List.extract]
 cases hab:s.extract l h with
 | mk d=>rw[hab]at h1;simp only at h1;rw[h1]
theorem A2z{t:TypeId}{x x' v:Value}{lo hi mx lo' hi' mx':Option Value}(h:A1P P t x lo hi mx=some v)(hx:VR ρ x x')(hlo:OR ρ lo lo')(hhi:OR ρ hi hi')(hmx:OR ρ mx mx')(w:World) :
  ∃ v',(Instr.sliceAt t x' lo' hi' mx').run P w=.ok v' w∧VR ρ v v':=by
 unfold A1P at h;split at h
 ·
  rename_i s hu;cases X7 hx;split at h
  ·rename_i hh h2;split at h
   ·rename_i l h3;cases h;refine⟨_,?_,.pure rfl⟩;have hm:mx'=none:=hmx.none_iff.1 rfl;subst hm
    have:=A3P (P:=P) (b:=false) (len:=s.size) (cap:=s.size) (mx:=none) (.inl ⟨rfl,rfl⟩) (fun _=>rfl) (N7 h2 hhi) (N7 h3 hlo) w;simp[Instr.sliceAt,Instr.slice,Sem.run_bind,D8 hu,Result.andThen,this,A2q]
   ·cases h
  ·cases h
 ·
  rename_i e n c hu;cases Q3 hx;split at h
  ·rename_i h1 h2 h3;obtain⟨h4,h5⟩:=(by
    cases hq:(mx.isSome && hi.isNone) || (G7 P e).isNone with
    | true=>rw[hq]at h;cases h
    | false=>rw[hq]at h;exact⟨rfl,h⟩:((mx.isSome && hi.isNone) || (G7 P e).isNone)=false∧some (Value.slice none 0 0)=some v)
   cases h5;simp only[X0]at h4;obtain⟨h4,h6⟩:=h4;refine⟨.slice none 0 0,?_,.pure rfl⟩;have hk1:=N7 h1 hmx;have hk2:=N7 h2 hhi;have hk3:=N7 h3 hlo;have z:∀ {o:Option Value} {k:Nat},Bd o 0 0 k→k=0:=fun hb=>by rcases hb with⟨_,rfl⟩|⟨_,_,hb⟩<;>omega
   have z1:=z hk1;have z2:=z hk2;have z3:=z hk3;subst z1;subst z2;subst z3;have h0:hi'=none→mx'=none:=fun hn=>by
    have e1:=(hhi.none_iff).2 hn;subst e1;cases mx with
    | none=>exact hmx.none_iff.1 rfl
    | some _=>simp at h4
   obtain⟨s,hs⟩:∃ s,G7 P e=some s:=by cases hq:G7 P e with|none=>rw[hq]at h6;cases h6|some s=>exact⟨s,rfl⟩
   have:=A3P (P:=P) (b:=true) hk1 h0 hk2 hk3 w;simp[Instr.sliceAt,Instr.slice,Sem.run_bind,D8 hu,Result.andThen,this,K8 hs]
  ·cases h
 ·
  rename_i e a n c hu;split at h
  ·rename_i s hs hspot;have hfin:∀ (c' l hh mm:Nat) (a':Addr),Bd mx' c' c' mm→(hi'=none→mx'=none)→Bd hi' mm n hh→Bd lo' hh 0 l→(Instr.sliceAt t (.slice (some a') n c') lo' hi' mx').run P w=.ok (.slice (if mm=l then some a' else(some a').map (·.add (l*s))) (hh-l) (mm-l)) w :=
    fun c' l hh mm a' h1 h0 h2 h3=>A7X hu hs h1 h0 h2 h3 w
   have hmove:∀ (l mm:Nat) (lc:Loc),ρ a.block=some lc→(if mm=l then some (Addr.mk lc.blk (a.off+lc.sh) none)else(some (Addr.mk lc.blk (a.off+lc.sh) none)).map (·.add (l*s)))=some ⟨lc.blk,(bif Nat.beq mm l then a else A0t a (l*s)).off+lc.sh,none⟩∧(bif Nat.beq mm l then a else A0t a (l*s)).block=a.block∧((bif Nat.beq mm l then a else A0t a (l*s)).spot=none):=fun l mm lc hlc=>by
    by_cases e1:mm=l
    ·subst e1;simp[hspot]
    ·have:Nat.beq mm l=false:=by cases hb:Nat.beq mm l with|false=>rfl|true=>exact absurd (A2 hb) e1
     simp[this,e1,A1d,c8]
   cases hc:Nat.blt c N3 with
   | true =>
     have hc':c<N3:=A1 hc;rw[hc]at h;simp only[cond_true]at h;rcases P1 hx with⟨lc,hl,_,_,rfl⟩|⟨lc,c',_,_,ho,_⟩|⟨a',c',_,_,rfl,_⟩
     ·split at h
      ·rename_i mm h1;split at h
       ·rename_i hh h2;split at h
        ·rename_i l h3;cases h;have hb1:=N7 h1 hmx;have h0:hi'=none→mx'=none:=fun hn=>by
          have e1:=(hhi.none_iff).2 hn;subst e1;cases mx with
          | none=>exact hmx.none_iff.1 rfl
          | some _=>cases h2
         have hb2:Bd hi' mm n hh:=by
          cases hi with
          | none=>cases mx with
            | none=>exact N7 h2 hhi
            | some _=>cases h2
          | some _=>cases mx<;>exact N7 h2 hhi
         refine⟨_,hfin c l hh mm _ hb1 h0 hb2 (N7 h3 hlo),?_⟩;obtain⟨g1,g2,g3⟩:=hmove l mm lc hl;rw[g1];have hmc:mm≤c:=by rcases hb1 with⟨_,rfl⟩|⟨_,_,hb⟩<;>omega
         generalize hA:(bif Nat.beq mm l then a else A0t a (l*s))=A at g2 g3 ⊢;obtain⟨ab,ao,asp⟩:=A;simp only at g2 g3;subst g3;exact .sl (by rw[g2];exact hl) (by omega)
        ·cases h
       ·cases h
      ·cases h
     ·omega
     ·omega
   | false =>
     have hc':N3≤c:=by
      rcases G1 c N3 with hlt|hge
      ·rw[show Nat.blt c N3=true from C4 hlt]at hc;cases hc
      ·exact hge
     rw[hc]at h;simp only[cond_false]at h;split at h
     ·rename_i mv;split at h
      ·rename_i hv mm h1;obtain⟨g0,h⟩:=A5 h;obtain⟨g01,g02⟩:=B8 g0;have g01:mm<N3:=A1 g01;have g02:=A1 g02;split at h
       ·rename_i hh h2;split at h
        ·rename_i l h3;cases h;rcases P1 hx with⟨_,_,_,hlt,_⟩|⟨lc,c',hl,_,_,hn,_,rfl⟩|⟨a',c',_,_,he,_⟩
         ·omega
         ·have hb1:=N7 h1 hmx;have hb1':Bd mx' c' c' mm:=by
           rcases hb1 with⟨hh1,_⟩|⟨j,hj,hb⟩
           ·have:=(hmx.none_iff).2 hh1;cases this
           ·exact .inr ⟨j,hj,by omega⟩
          refine⟨_,hfin c' l hh mm _ hb1' (fun hn=>by have:=(hhi.none_iff).2 hn;cases this) (N7 h2 hhi) (N7 h3 hlo),?_⟩;obtain⟨g1,g2,g3⟩:=hmove l mm lc hl;rw[g1];generalize hA:(bif Nat.beq mm l then a else A0t a (l*s))=A at g2 g3 ⊢;obtain⟨ab,ao,asp⟩:=A;simp only at g2 g3;subst g3;exact .sl (by rw[g2];exact hl) (by omega)
         ·omega
        ·cases h
       ·cases h
      ·cases h
     ·have hm:mx'=none:=hmx.none_iff.1 rfl;subst hm;split at h
      ·rename_i hh h1;have hb2:=N7 h1 hhi;have hhn:hh≤n:=by rcases hb2 with⟨_,rfl⟩|⟨_,_,hb⟩<;>omega
       have up:∀ c',n≤c'→Bd hi' c' n hh:=fun c' hc=>by
        rcases hb2 with hb|⟨j,hj,hb⟩
        ·exact .inl hb
        ·exact .inr ⟨j,hj,by omega⟩
       split at h
       ·rename_i h3;cases h;have hb3:=N7 h3 hlo;rcases P1 hx with⟨_,_,_,hlt,_⟩|⟨lc,c',hl,_,_,hn,hcap,rfl⟩|⟨a',c',ha',rfl,rfl,rfl⟩
        ·omega
        ·refine⟨_,hfin c' 0 hh c' _ (.inl ⟨rfl,rfl⟩) (fun _=>rfl) (up c' hn) hb3,?_⟩;have:(if c'=0 then some (Addr.mk lc.blk (a.off+lc.sh) none)else(some (Addr.mk lc.blk (a.off+lc.sh) none)).map (·.add (0*s)))=some (Addr.mk lc.blk (a.off+lc.sh) none):=by
          simp[c8]
         rw[this];obtain⟨ab,ao,asp⟩:=a;simp only at hspot;subst hspot;exact .op hl hc' (by omega) hcap
        ·have hh0:hh=0:=by omega
         subst hh0;refine⟨_,hfin c' 0 0 c' _ (.inl ⟨rfl,rfl⟩) (fun _=>rfl) (up c' (Nat.zero_le _)) hb3,?_⟩;have:(if c'=0 then some a' else(some a').map (·.add (0*s)))=some a':=by simp[Addr.add]
         rw[this];exact .opE ha'
       ·rename_i l h3;have hb3:=N7 h3 hlo;have hlh:l+1≤hh:=by rcases hb3 with⟨_,hb⟩|⟨_,_,hb⟩<;>omega
        rcases P1 hx with⟨_,_,_,hlt,_⟩|⟨lc,c',hl,_,_,hn,hcap,rfl⟩|⟨a',c',ha',rfl,rfl,rfl⟩
        ·omega
        ·have hf:=hfin c' (l+1) hh c' ⟨lc.blk,a.off+lc.sh,none⟩ (.inl ⟨rfl,rfl⟩) (fun _=>rfl) (up c' hn) hb3;cases hq:Nat.blt (l+1) n with
         | true =>
           have hq':l+1<n:=A1 hq;simp only[hq,cond_true]at h;cases h;refine⟨_,hf,?_⟩;rw[if_neg (by omega),A1d];simp only[P5,c8];rw[show a.off+lc.sh+(l+1)*s=a.off+(l+1)*s+lc.sh by omega];exact .op hl (by unfold N3;omega) (by omega) (fun e=>by unfold N3 at e;omega)
         | false =>
           have hq':¬ l+1<n:=fun hlt=>by rw[show Nat.blt (l+1) n=true from C4 hlt]at hq;cases hq
           simp only[hq,cond_false]at h;cases h;refine⟨_,hf,?_⟩;have e1:hh-(l+1)=0:=by omega
           rw[e1];by_cases e2:c'=l+1
           ·rw[if_pos e2];exact .opE rfl
           ·rw[if_neg e2];simp only[P5,c8];exact .opE rfl
        ·omega
       ·cases h
      ·cases h
  ·cases h
 ·
  rename_i n e a hu;obtain⟨lc,hl,hsp,rfl⟩:=Q0 hx;split at h
  ·rename_i s hs hspot;split at h
   ·rename_i hh h2;split at h
    ·rename_i l h3;obtain⟨hn0,h⟩:=A5 h;have hn0:n<N3:=A1 hn0;cases h;have hm:mx'=none:=hmx.none_iff.1 rfl;subst hm;have hr:=A3P (P:=P) (b:=false) (len:=n) (cap:=n) (mx:=none) (.inl ⟨rfl,rfl⟩) (fun _=>rfl) (N7 h2 hhi) (N7 h3 hlo) w;refine⟨.slice (some ⟨lc.blk,(bif Nat.beq n l then a else A0t a (l*s)).off+lc.sh,none⟩) (hh-l) (n-l),?_,?_⟩
     ·by_cases e1:n=l
      ·subst e1;simp[Instr.sliceAt,Sem.run_bind,D8 hu,Result.andThen,hr,K8 hs,Instr.sureAddr]
      ·have hq:Nat.beq n l=false:=by cases hb:Nat.beq n l with|false=>rfl|true=>exact absurd (A2 hb) e1
       simp[Instr.sliceAt,Sem.run_bind,D8 hu,Result.andThen,hr,K8 hs,Instr.sureAddr,e1,hq,A1d,c8]
     ·have hn:n-l<N3:=by omega
      have g2:(bif Nat.beq n l then a else A0t a (l*s)).block=a.block:=by cases Nat.beq n l<;>simp[A1d]
      have g3:(bif Nat.beq n l then a else A0t a (l*s)).spot=none:=by cases Nat.beq n l<;>simp[A1d,hsp]
      generalize hA:(bif Nat.beq n l then a else A0t a (l*s))=A at g2 g3 ⊢;obtain⟨ab,ao,asp⟩:=A;simp only at g2 g3;subst g3;exact .sl (by rw[g2];exact hl) hn
    ·cases h
   ·cases h
  ·cases h
 ·cases h
end
end Go.Sx
namespace Go.Sx
set_option linter.all false
open Go
set_option linter.unusedVariables false
set_option linter.unusedSimpArgs false
variable [Ora]
section
variable {P:Program} {base:Nat} {ρ:Ren} {m m':Mem} {w:World}
theorem A1j{cs cs':List Value}{C:Array Value}{e:TypeId}{v:Value}{k:Nat→Value}{cap:Nat}{fz:Nat×Nat}{wd:World}(h:HR P base ρ m.H w)(hb:base≤w.heap.size)(hn:u9 m (.cells cs e false) k=some (v,m'))(hf:K4 ρ m.n m'.hi)
  (hc:LR ρ cs cs') (hC:∀ (i:Nat) (v:Value),cs'[i]? = some v→C[i]? = some v) (hfz:∀ i,i<C.size→¬ (fz.1≤i∧i<fz.2)) (hcap:∀ inf,P.info? e=some inf→cap*inf.size≤C.size)
  (hd:wd.os=w.os∧wd.tape=w.tape∧wd.output=w.output) (hh:wd.heap=w.heap) :
  v=k m.n∧upd ρ m.n (lc w.heap.size 0 cap) m.n=some (lc w.heap.size 0 cap)∧St P base ρ (upd ρ m.n (lc w.heap.size 0 cap)) m m' w { wd with heap:=wd.heap.push (.cells C e fz) }:=by
 have hfree:ρ m.n=none:=by
  obtain⟨_,_,rfl⟩:=M7 hn;exact hf m.n (A7 _) (L1 _ _).2
 refine St.alloc (o:=.cells C e fz) h hb hn hf hd (by simp[hh]) rfl ⟨rfl,C,fz,e,by simp[hh],fun i u hi=>?_,fun _=>⟨rfl,hfz,fun inf hi=>⟨by have:=hcap inf hi;simpa using this,Nat.zero_mod _⟩⟩⟩;obtain⟨u',h1,h2⟩:=hc.get hi;exact⟨u',by rw[F0];exact hC i u' h1,h2.mono (i6 hfree)⟩
theorem A3V{cs cs':List Value}{e:TypeId}{v:Value}{k:Nat→Value}(h:HR P base ρ m.H w)(hb:base≤w.heap.size)(hn:u9 m (.cells cs e false) k=some (v,m'))(hf:K4 ρ m.n m'.hi)(hc:LR ρ cs cs') :
  v=k m.n∧upd ρ m.n (lc w.heap.size 0 0) m.n=some (lc w.heap.size 0 0)∧St P base ρ (upd ρ m.n (lc w.heap.size 0 0)) m m' w { w with heap:=w.heap.push (.cells ⟨cs'⟩ e (0,0)) } :=
 A1j (wd:=w) h hb hn hf hc (fun i v hi=>by simpa using hi) (fun i _ hh=>by have h1:0≤i:=hh.1;have h2:i<0:=hh.2;omega) (fun inf _=>by simp) ⟨rfl,rfl,rfl⟩ rfl
theorem B7Q{e:TypeId}{v:Value}(h:HR P base ρ m.H w)(hb:base≤w.heap.size)(ho:B1i P m e=some (v,m'))(hf:K4 ρ m.n m'.hi):VOk P base ρ m w (Instr.alloc e true (.tuple #[])) v m':=by
 unfold B1i at ho;split at ho
 ·rename_i z hz;obtain⟨h1,h2,h3⟩:=A3V h hb ho hf (A54 hz);refine⟨.pointer (some ⟨w.heap.size,0,none⟩),_,_,?_,?_,h3⟩
  ·simp[Instr.alloc,newVar,newRow,Sem.run_bind,A0_ hz,Result.andThen,newObj,Sem.run]
  ·rw[h1];exact .ptr h2
 ·cases ho
theorem C1l{e:TypeId}{x x' v:Value}(h:HR P base ρ m.H w)(hb:base≤w.heap.size)(ho:B9A m e x=some (v,m'))(hf:K4 ρ m.n m'.hi)(hx:VR ρ x x'):VOk P base ρ m w (Instr.box e x') v m':=by
 unfold B9A at ho;obtain⟨hfl,ho⟩:=A5 ho;obtain⟨h1,h2,h3⟩:=A3V h hb ho hf (hx.cells (by
  cases hq:A3X x with
  | false=>rfl
  | true =>
    unfold A3X at hq;split at hq
    ·exfalso;simp only[Value.cells]at hfl;simp[flat]at hfl;simp[hfl]at hq
    ·cases hq))
 refine⟨.pointer (some ⟨w.heap.size,0,none⟩),_,_,?_,?_,h3⟩
 ·simp[Instr.box,newVar,newRow,Sem.run_bind,Result.andThen,newObj,Sem.run]
 ·rw[h1];exact .ptr h2
theorem B27(z:List Value)(hz:z≠[]):∀ (n i:Nat),(B28 z n)[i]? = if i<n*z.length then z[i%z.length]? else none
 | 0,i=>by simp[B28]
 | n+1,i=>by
   have hpos:0<z.length:=List.length_pos_iff.2 hz;rw[B28];by_cases h:i<z.length
   ·rw[E9 h,if_pos (by rw[Nat.succ_mul];omega),A0z h]
   ·rw[E7 (by omega),B27 z hz n,Nat.succ_mul];have e:(i-z.length)%z.length=i%z.length:=by rw[← Nat.mod_eq_sub_mod (by omega)]
    by_cases h2:i-z.length<n*z.length
    ·rw[if_pos h2,if_pos (by omega),e]
    ·rw[if_neg h2,if_neg (by omega)]
theorem B6u{z:Array Value}{n s:Nat}(hz:z.size=s)(hs:n*s≠0):(Array.range (n*s)).map (z[· % z.size]!)=⟨B28 z.toList n⟩:=by
 have hne:z.toList≠[]:=by
  intro e;have:z.size=0:=by simpa using congrArg List.length e
  rw[hz]at this;subst this;simp at hs
 apply J1;apply List.ext_getElem?;intro i;rw[B27 _ hne];simp only[Array.toList_map,Array.toList_range,I9];have hl:z.toList.length=s:=by simpa using hz
 rw[hl];by_cases h:i<n*s
 ·rw[if_pos h,List.getElem?_range h];have hpos:0<s:=by
   rcases U9 s with h0|h0
   ·subst h0;simp at hs
   ·exact h0
  have hm:i%s<z.size:=by rw[hz];exact A52 _ hpos
  simp[hz,getElem!_pos z (i%s) hm,A6 (show i%s<z.toList.length by simpa using hm)]
 ·rw[if_neg h];simp;omega
theorem A99{e:TypeId}{n s:Nat}{zs:List Value}(hs:G7 P e=some s)(h:B1G P e n=some zs) :
  ((n*s=0∧zs=[])∨(n*s≠0∧∃ z:Value,(∀ w,(zeroValue e).run P w=.ok z w)∧(Array.range (n*s)).map (z.cells[· % z.cells.size]!)=⟨zs⟩))∧LR ρ zs zs:=by
 unfold B1G at h;rw[hs]at h;simp only at h;cases hq:Nat.beq (n*s) 0 with
 | true =>
   rw[hq]at h;simp only[cond_true,D3]at h;subst h;exact⟨.inl ⟨A2 hq,rfl⟩,.nil⟩
 | false =>
   rw[hq]at h;simp only[cond_false]at h;have hq':n*s≠0:=fun e=>by rw[e]at hq;cases hq
   split at h
   ·rename_i z hz;obtain⟨h1,h2⟩:=A5 h;cases h2;have h1:=A2 h1;refine⟨.inr ⟨hq',z,fun w=>A0_ hz w,B6u h1 hq'⟩,?_⟩;have hall:∀ l:List Value,LR ρ l l→∀ n,LR ρ (B28 l n) (B28 l n):=fun l hl n=>by
     induction n with
     | zero=>exact .nil
     | succ n ih=>exact hl.append ih
    exact hall _ (A54 hz) n
   ·cases h
theorem A9Z{t:TypeId}{n:Nat}{parts parts':List (Nat×Value)}{v:Value}(h:HR P base ρ m.H w)(hb:base≤w.heap.size)(ho:A1J P m t n parts=some (v,m'))(hf:K4 ρ m.n m'.hi)(hp:PR ρ parts parts') :
  VOk P base ρ m w (Instr.buildSlice t n ⟨parts'⟩) v m':=by
 unfold A1J at ho;split at ho
 ·rename_i e hu;split at ho
  ·rename_i s zs hs hz;obtain⟨h1,ho⟩:=A5 ho;obtain⟨h1,h1o⟩:=B8 h1;have h1:=A1 h1;have h1o:n<N3:=A1 h1o;split at ho
   ·rename_i cs hcs;obtain⟨hzz,hzl⟩:=A99 (ρ:=ρ) hs hz;obtain⟨r',h2,h3⟩:=A6n hcs hp hzl;obtain⟨g1,g2,g3⟩:=A3V h hb ho hf h3;refine⟨.slice (some ⟨w.heap.size,0,none⟩) n n,_,_,?_,?_,g3⟩
    ·unfold Instr.buildSlice;simp only[Sem.run_bind,D8 hu,K8 hs,Result.andThen];rw[if_neg (by omega)];have h2':Instr.fill (fun i=>some (i*s,s)) ⟨zs⟩ parts'=some ⟨r'⟩:=h2;rcases hzz with⟨hq,rfl⟩|⟨hq,z,hzr,hza⟩
     ·have e0:∀ z:Array Value,Array.map (fun x=>z[x%z.size]!) (Array.range (n*s))=⟨[]⟩:=fun z=>by rw[hq];apply J1;simp
      simp only[if_pos hq,e0,h2'];rfl
     ·simp only[if_neg hq,Sem.run_bind,Sem.run_pure,Result.andThen,hzr,hza,h2'];rfl
    ·rw[g1];exact .sl g2 h1o
   ·cases ho
  ·cases ho
 ·cases ho
theorem A90{t:TypeId}{l c l' c' v:Value}(h:HR P base ρ m.H w)(hb:base≤w.heap.size)(ho:A12 P m t l c=some (v,m'))(hf:K4 ρ m.n m'.hi)(hl:VR ρ l l')(hc:VR ρ c c') :
  VOk P base ρ m w (Instr.makeSlice t l' c') v m':=by
 unfold A12 at ho;split at ho
 ·rename_i e j1 l j2 c hu;cases J2 hl;cases J2 hc;split at ho
  ·rename_i i hi;obtain⟨h1,ho⟩:=A5 ho;obtain⟨h1,h3⟩:=B8 h1;obtain⟨h1,h2⟩:=B8 h1;have h1:=A1 h1;have h2:=A1 h2;have h3:=A1 h3;split at ho
   ·rename_i zs hz;rw[H4]at ho;have hs:G7 P e=some i.size:=by simp[G7,hi]
    obtain⟨hzz,hzl⟩:=A99 (ρ:=ρ) hs hz;obtain⟨g1,g2,g3⟩:=A3V h hb ho hf hzl;refine⟨.slice (some ⟨w.heap.size,0,none⟩) l c,_,_,?_,?_,g3⟩
    ·have wl:IntKind.i64.wrap (Int.ofNat l)=Int.ofNat l:=A56 .i64 l (by simp only[B4f];omega);have wc:IntKind.i64.wrap (Int.ofNat c)=Int.ofNat c:=A56 .i64 c (by simp only[B4f];omega);have hroom:(askRoom (c*i.bytes)).run P w=.ok () w:=by
      unfold askRoom roomBytes;rw[if_neg (by omega)];rfl
     have hcb:((i.bytes:Int)*(c:Int))=((c*i.bytes:Nat):Int):=by rw[A0g];simp
     have hlb:((i.bytes:Int)*(l:Int))≤((c*i.bytes:Nat):Int):=by
      have:i.bytes*l≤c*i.bytes:=by rw[A0g];exact F2 _ h1
      exact_mod_cast this
     unfold Instr.makeSlice;simp only[Sem.run_bind,D8 hu,asInt,asIntOf,Result.andThen,Sem.run_pure,X3 hi,wl,wc];rw[if_neg]
     ·have hc2:(Int.ofNat c).toNat=c:=by simp
      have hl2:(Int.ofNat l).toNat=l:=by simp
      simp only[Sem.run_bind,Sem.run_pure,Result.andThen,hc2,hl2,hroom,K8 hs];rcases hzz with⟨hq,rfl⟩|⟨hq,z,hzr,hza⟩
      ·have e0:∀ z:Array Value,Array.map (fun x=>z[x%z.size]!) (Array.range (c*i.size))=⟨[]⟩:=fun z=>by rw[hq];apply J1;simp
       simp only[if_pos hq,e0];rfl
      ·simp only[if_neg hq,Sem.run_bind,Sem.run_pure,Result.andThen,hzr,hza];rfl
     ·have e1:Int.ofNat c=(c:Int):=rfl;have e2:Int.ofNat l=(l:Int):=rfl;simp only[e1,e2,hcb];simp;omega
    ·rw[g1];exact .sl g2 (by unfold N3;omega)
   ·cases ho
  ·cases ho
 ·cases ho
end
end Go.Sx
namespace Go.Sx
set_option linter.all false
open Go
set_option linter.unusedVariables false
set_option linter.unusedSimpArgs false
variable [Ora]
theorem B41(a b:Nat)(h:b<a):Builtin.nextslicecap a b≤3*a+4000:=by
 have grow:∀ r c,Builtin.growBy a r c≤max (c) (2*a+800):=by
  intro r;induction r with
  | zero=>intro c;simp only[Builtin.growBy];exact Nat.le_max_left _ _
  | succ r ih =>
    intro c;simp only[Builtin.growBy];split
    ·exact Nat.le_max_left _ _
    ·have:=ih (c+(c+768) / 4);refine B7 this ?_;rw[Nat.max_le];constructor
     ·refine B7 ?_ (Nat.le_max_right _ _);omega
     ·exact Nat.le_max_right _ _
 unfold Builtin.nextslicecap;split
 ·omega
 ·split
  ·omega
  ·have:=grow 4 b;refine B7 this ?_;rw[Nat.max_le];omega
section
variable {P:Program} {base:Nat} {ρ:Ren} {m m':Mem} {w:World}
theorem A0y{w wd:World}(h:wd.heap=w.heap)(a:Addr):wd.cell? a=w.cell? a:=by simp[World.cell?,h]
theorem A8G(ρ:Ren):∀ l:List UInt8,LR ρ (P8 l) (P8 l)
 | []=>.nil
 | b::r=>.cons (.pure rfl) (A8G ρ r)
theorem A7j{s k:Nat}{y y':Value}{new:List Value}(h:HR P base ρ m.H w)(hn:A11 m s y=some (k,new))(hy:VR ρ y y') :
  (∀ wd,(Builtin.lenOf y').run P wd=.ok k wd)∧∃ new',LR ρ new new'∧∀ wd:World,wd.heap=w.heap→(Builtin.firstCells s k y').run P wd=.ok ⟨new'⟩ wd:=by
 unfold A11 at hn;split at hn
 ·rename_i n c;obtain⟨h1,h2⟩:=A5 hn;have h1:=A2 h1;subst h1;cases h2;cases Q3 hy;exact⟨fun _=>rfl,[],.nil,fun _ _=>rfl⟩
 ·rename_i a n c;split at hn
  ·rename_i cs hr;cases hn;rcases P1 hy with⟨l,hl,_,_,rfl⟩|⟨l,c',hl,_,_,_,_,rfl⟩|⟨a',c',_,rfl,_,rfl⟩
   ·obtain⟨r',h1,h2,h3⟩:=r9 h hr hl;exact⟨fun _=>rfl,r',h1,fun wd hw=>J8 h2 fun j v hj=>by rw[A0y hw];exact h3 j v hj⟩
   ·obtain⟨r',h1,h2,h3⟩:=r9 h hr hl;exact⟨fun _=>rfl,r',h1,fun wd hw=>J8 h2 fun j v hj=>by rw[A0y hw];exact h3 j v hj⟩
   ·have:new=[]:=by
     unfold A0K at hr;split at hr
     ·have:=(A3d hr).2;simp at this;exact this
     ·cases hr
    subst this;refine⟨fun _=>rfl,[],.nil,fun wd _=>?_⟩;simp[Builtin.firstCells,loadCells,loadCellsFrom]
  ·cases hn
 ·rename_i b;obtain⟨_,hn⟩:=A5 hn;cases hn;cases X7 hy;refine⟨fun _=>rfl,P8 b.data.toList,?_,fun wd _=>?_⟩
  ·exact A8G _ _
  ·have e:((b.extract 0 b.size).data.map fun b=>Value.int .u8 b.toNat)=⟨P8 b.data.toList⟩:=by
    apply J1;simp[P8]
   show(pure ((b.extract 0 b.size).data.map fun b=>Value.int .u8 b.toNat):Sem (Array Value)).run P wd=_;rw[e];rfl
 ·cases hn
theorem C5J{d:TypeDesc}(h:A1U d=true):(∃ e,d=.slice e)∨d=.string:=by cases d<;>first|cases h;done|exact .inl ⟨_,rfl⟩|exact .inr rfl
theorem A21{t t2 e:TypeId}{ty:TypeId}{d2:TypeDesc}{n k c:Nat}{a:Option Addr}{x' z:Value}{inf:TypeInfo}{old' new':List Value}(hu:P.underlying t=some (.slice e))(hu2:P.underlying t2=some d2)(hd2:A1U d2=true)
  (hi:P.info? e=some inf) (hz:∀ w,(zeroValue e).run P w=.ok z w) (hlen:∀ wd,(Builtin.lenOf x').run P wd=.ok k wd)
  (hold:∀ wd:World,wd.heap=w.heap→(Builtin.firstCells inf.size n (.slice a n c)).run P wd=.ok ⟨old'⟩ wd) (hnew:∀ wd:World,wd.heap=w.heap→(Builtin.firstCells inf.size k x').run P wd=.ok ⟨new'⟩ wd)
  (hgt:¬ n+k≤c) (hb:(3*(n+k)+4000)*inf.bytes≤281474976710656) (hm:n+k≤1000000000) :
  ∃ nc,n+k≤nc∧(Builtin.append_ #[t,t2] ty #[.slice a n c,x']).run P w=.ok (.slice (some ⟨w.heap.size,0,none⟩) (n+k) nc) { w.drew with heap:=w.heap.push (.cells (⟨old'⟩++⟨new'⟩++Builtin.zeroCells z.cells (nc-(n+k))) e (0,0)) }:=by
 have hs:G7 P e=some inf.size:=by simp[G7,hi]
 have hcap:Builtin.nextslicecap (n+k) c*inf.bytes≤281474976710656:=by
  have:=F2 inf.bytes (B41 (n+k) c (by omega));omega
 let q:Question:=.appendCap (n+k) c e
 let nc:=q.cut (w.tape w.drawn q)
 have hnc:n+k≤nc:=by show n+k≤(n+k)+_;omega
 refine⟨nc,hnc,?_⟩;have hch:(choose q).run P w=.ok nc w.drew:=by
  simp only[choose,Sem.run];rw[if_neg (by simp[q,Question.forced])];rfl
 have hask:∀ k w,(askRoom k).run P w=.ok () w:=fun k w=>by unfold askRoom;split<;>rfl
 unfold Builtin.append_;rcases C5J hd2 with⟨e2,rfl⟩|rfl
 all_goals simp only[J3,S7,S8,Sem.run_bind,D8 hu,D8 hu2,Result.andThen,K8 hs,Sem.run_pure,Q7,if_false,hlen]
 all_goals
  have hmax:¬ (((n+k:Nat):Int)>IntKind.i64.max):=by simp[IntKind.max,IntKind.bits,IntKind.signed];omega
  simp only[if_neg hgt,hmax,false_and,if_false,Sem.run_bind,Result.andThen,X3 hi];rw[if_neg (show ¬ (Builtin.nextslicecap (n+k) c*inf.bytes>2 ^ 48) by simpa using hcap)];have hd:w.drew.heap=w.heap:=rfl;simp only[Sem.run_bind,Sem.run_pure,Result.andThen,show(choose (.appendCap (n+k) c e)).run P w=.ok nc w.drew from hch,hask,hold _ hd,hnew _ hd,hz,X3 hi,Bool.not_false,if_true];rfl
theorem A4k{t t2 e:TypeId}{ty:TypeId}{d2:TypeDesc}{n k c:Nat}{a:Addr}{x':Value}{inf:TypeInfo}{new':List Value}{w':World}(hu:P.underlying t=some (.slice e))(hu2:P.underlying t2=some d2)(hd2:A1U d2=true)
  (hi:P.info? e=some inf) (hlen:∀ wd,(Builtin.lenOf x').run P wd=.ok k wd) (hnew:(Builtin.firstCells inf.size k x').run P w=.ok ⟨new'⟩ w)
  (hle:n+k≤c) (hst:(storeCells (a.add (n*inf.size)) new').run P w=.ok () w') :
  (Builtin.append_ #[t,t2] ty #[.slice (some a) n c,x']).run P w=.ok (.slice (some a) (n+k) c) w':=by
 have hs:G7 P e=some inf.size:=by simp[G7,hi]
 unfold Builtin.append_;rcases C5J hd2 with⟨e2,rfl⟩|rfl
 all_goals simp only[J3,S7,S8,Sem.run_bind,D8 hu,D8 hu2,Result.andThen,K8 hs,Sem.run_pure,Q7,if_false,hlen]
 all_goals simp[if_pos hle,Sem.run_bind,hnew,Result.andThen,hst]
theorem A7Z{t t2 e:TypeId}{ty:TypeId}{d2:TypeDesc}{x':Value}{inf:TypeInfo}(hu:P.underlying t=some (.slice e))(hu2:P.underlying t2=some d2)(hd2:A1U d2=true)
  (hi:P.info? e=some inf) (hlen:∀ wd,(Builtin.lenOf x').run P wd=.ok 0 wd) (hnew:(Builtin.firstCells inf.size 0 x').run P w=.ok #[] w) :
  (Builtin.append_ #[t,t2] ty #[.slice none 0 0,x']).run P w=.ok (.slice none 0 0) w:=by
 have hs:G7 P e=some inf.size:=by simp[G7,hi]
 unfold Builtin.append_;rcases C5J hd2 with⟨e2,rfl⟩|rfl
 all_goals simp only[J3,S7,S8,Sem.run_bind,D8 hu,D8 hu2,Result.andThen,K8 hs,Sem.run_pure,Q7,if_false,hlen]
 all_goals simp[Sem.run_bind,hnew,Result.andThen]
theorem St.kill{ab:AB}{id:Nat}(h:HR P base ρ m.H w)(hle:id≤H3)(hg:Hp.get m.H id=some ab)(hrw:ab.rw=true):St P base ρ ρ m (A3o m id) w w:=by
 rw[x7];refine⟨fun _ _ h=>h,fun b k h1 h2=>(by rw[h1]at h2;cases h2),A7 _,A7 _,fun h=>h,h.sub fun id2 hid2 a ha=>?_,fun b hb=>D1 _ hb,fun b h1 h2 k hk'=>?_,fun k hk' hb'=>rfl,A7 _,⟨rfl,rfl,rfl⟩,fun b k h1 h2=>(by rw[h1]at h2;cases h2),fun id2 hid2 h4 h5=>?_,fun k ⟨id2,a,q,hid2,ha,hq,ht⟩=>.inr ⟨id2,a,q,hid2,?_,hq,ht⟩⟩
 ·rw[E6 _ _ _ _ hle hid2]at ha;by_cases e:id2=id
  ·rw[if_pos e]at ha;cases ha
  ·rw[if_neg e]at ha;exact ha
 ·rcases C5.1 h1 with rfl|h1
  ·exact⟨ab,hg,hrw⟩
  ·exact absurd h1 h2
 ·rw[E6 _ _ _ _ hle hid2,if_neg];intro e;subst e;exact h4 B6
 ·have ha:Hp.get (m.H.set id none) id2=some a:=ha;rw[E6 _ _ _ _ hle hid2]at ha;by_cases e:id2=id
  ·rw[if_pos e]at ha;cases ha
  ·rw[if_neg e]at ha;exact ha
theorem St.grow{ab ab':AB}{id:Nat}{l:Loc}{k:Nat→Value}{v:Value}{w':World}(h:HR P base ρ m.H w)(hle:id≤H3)(hg:Hp.get m.H id=some ab)(hrw:ab.rw=true)(hl:ρ id=some l)(hon:l.on=true)
  (hn:u9 (A3o m id) ab' k=some (v,m')) (hf:K4 ρ m.n m'.hi)
  (ho:w'.os=w.os∧w'.tape=w.tape∧w'.output=w.output) (hsz:w'.heap.size=w.heap.size) (hk:∀ k,k≠l.blk→w'.heap[k]? = w.heap[k]?) (hb:BR P (upd ρ m.n l) ab' l w') (hfz:ab'≠.frz:=by intro h;cases h) :
  v=k m.n∧St P base ρ (upd ρ m.n l) m m' w w':=by
 rw[x7]at hn;obtain⟨hnm,hv,rfl⟩:=M7 hn;have hfree:ρ m.n=none:=hf m.n (A7 _) (L1 _ _).2;have hext:=i6 (l:=l) hfree;obtain⟨h2,h3⟩:=h.atl hl hg;have hTc:∀ k,Tc ab' l k→k=l.blk:=fun k hk=>by
  rcases hk with⟨_,_,rfl⟩|⟨rfl,_⟩
  ·rfl
  ·exact absurd rfl hfz
 have hne:id≠m.n:=fun e=>by subst e;rw[hl]at hfree;cases hfree
 have hget:∀ i,i≤H3→Hp.get ((m.H.set id none).set m.n (some ab')) i=if i=m.n then some ab' else if i=id then none else Hp.get m.H i:=fun i hi=>by
  rw[E6 _ _ _ _ hnm hi,E6 _ _ _ _ hle hi]
 refine⟨hv,hext,fun b q h1 h2=>?_,A0N _,(L1 _ _).1,fun _=>m9 (L1 _ _).2,⟨fun b q hq=>?_,fun i hi a ha=>?_⟩,fun b hb=>D1 _ hb,fun b h1 h2 q hq=>?_,fun q hq hb'=>hk q ?_,by rw[hsz];exact A7 _,ho,fun b q h1 h2 _=>?_,fun i hi h4 h5=>?_,fun k ⟨i,a,q,hi,ha,hq,ht⟩=>.inr ?_⟩
 ·obtain⟨rfl,rfl⟩:=W4 h1 h2;exact⟨A7 _,I8 _⟩
 ·cases h0:ρ b with
  | some q0 =>
    rw[hext b q0 h0]at hq
    have:=A8 hq;subst this;exact h.dom b q0 h0
  | none=>obtain⟨rfl,rfl⟩:=W4 hq h0;exact hnm
 ·have ha:Hp.get ((m.H.set id none).set m.n (some ab')) i=some a:=ha;rw[hget i hi]at ha;have hdis:∀ id2,id2≤H3→∀ ab2 l2,Hp.get ((m.H.set id none).set m.n (some ab')) id2=some ab2→upd ρ m.n l id2=some l2→Tc ab2 l2 l.blk→id2=m.n:=fun id2 hid2 ab2 l2 g1 g2 g3=>by
   rw[hget id2 hid2]at g1;by_cases e2:id2=m.n
   ·exact e2
   ·rw[if_neg e2]at g1;unfold upd at g2;rw[if_neg e2]at g2;by_cases e3:id2=id
    ·rw[if_pos e3]at g1;cases g1
    ·rw[if_neg e3]at g1;exact absurd ((h3 hrw hon).2 id2 hid2 ab2 l2 g1 g2 g3) e3
  by_cases e:i=m.n
  ·rw[if_pos e]at ha;have ha:=A8 ha;subst ha;subst e;exact⟨l,M1 _ _ _,hb,fun _ _=>⟨(h3 hrw hon).1,hdis⟩⟩
  ·rw[if_neg e]at ha;by_cases e3:i=id
   ·rw[if_pos e3]at ha;cases ha
   ·rw[if_neg e3]at ha;obtain⟨l2,g1,g2,g3⟩:=h.at_ i hi a ha;have hnb:∀ k,Tc a l2 k→k≠l.blk:=fun k hk' hh=>e3 ((h3 hrw hon).2 i hi a l2 ha g1 (hh▸hk'))
    refine⟨l2,hext _ _ g1,g2.mono hext (fun k hk'=>hk _ (hnb k hk')),fun hr ho'=>⟨(g3 hr ho').1,fun id3 hid3 ab3 l3 f1 f2 f3=>?_⟩⟩;have f1:Hp.get ((m.H.set id none).set m.n (some ab')) id3=some ab3:=f1;rw[hget id3 hid3]at f1;by_cases e4:id3=m.n
    ·subst e4;rw[M1]at f2
     have:=A8 f2;subst this;rw[if_pos rfl]at f1;have f1:=A8 f1;subst f1;exact absurd (hTc _ f3) (hnb _ (.inl ⟨AB.rw_on hr,ho',rfl⟩))
    ·rw[if_neg e4]at f1;unfold upd at f2;rw[if_neg e4]at f2;by_cases e5:id3=id
     ·rw[if_pos e5]at f1;cases f1
     ·rw[if_neg e5]at f1;exact(g3 hr ho').2 id3 hid3 ab3 l3 f1 f2 f3
 ·rcases C5.1 h1 with rfl|h1
  ·exact⟨ab,hg,hrw⟩
  ·exact absurd h1 h2
 ·exact fun e=>hb' id B6 l hl hon e.symm
 ·obtain⟨rfl,rfl⟩:=W4 h1 h2;exact .inr ⟨id,B6,q,hl,hon,rfl⟩
 ·have hgi:=hget i hi;show Hp.get ((m.H.set id none).set m.n (some ab')) i=_;rw[hgi,if_neg,if_neg]
  ·intro e;subst e;exact h4 B6
  ·intro e;subst e;rcases h5 with h5|h5
   ·omega
   ·have h5:upN m.hi m.n≤m.n:=h5
    have:=(L1 m.hi m.n).2;omega
 ·have ha:Hp.get ((m.H.set id none).set m.n (some ab')) i=some a:=ha;rw[hget i hi]at ha;by_cases e:i=m.n
  ·rw[if_pos e]at ha;have ha:=A8 ha;subst ha;subst e;rw[M1]at hq;have hq:=A8 hq;subst hq;exact⟨id,ab,l,hle,hg,hl,AB.rw_fr hrw,.inl ⟨AB.rw_on hrw,hon,(hTc k ht.2).symm⟩⟩
  ·rw[if_neg e]at ha;unfold upd at hq;rw[if_neg e]at hq;by_cases e3:i=id
   ·rw[if_pos e3]at ha;cases ha
   ·rw[if_neg e3]at ha;exact⟨i,a,q,hi,ha,hq,ht⟩
theorem B1j{s k:Nat}{y:Value}{new:List Value}{z:Value}(h:HR P base ρ m.H w)(hn:A11 m s y=some (k,new))(hz:z.cells.size=s):new.length=k*s:=by
 unfold A11 at hn;split at hn
 ·obtain⟨_,q⟩:=A5 hn;cases q;simp
 ·split at hn
  ·rename_i cs hr;cases hn;unfold A0K at hr;split at hr
   ·exact(A3d hr).2
   ·cases hr
  ·cases hn
 ·rename_i b;obtain⟨q1,hn⟩:=A5 hn;have q1:=A2 q1;subst q1;cases hn;simp[P8]
 ·cases hn
theorem B3n{new':List Value}{r:Array Value}{i:Nat}{u:Value}(h:new'[i]? = some u):(({ toList:=[] }:Array Value)++⟨new'⟩++r)[i]? = some u:=by
 have hl:=(A9.1 h).1;rw[V0 (by simp;exact hl)]
 simpa using h
theorem A1m{old' new':List Value}{r:Array Value}{i:Nat}{u:Value}(h:(old'++new')[i]? = some u):(({ toList:=old' }:Array Value)++⟨new'⟩++r)[i]? = some u:=by
 have hl:=(A9.1 h).1;rw[V0 (by simpa using hl)]
 simpa using h
theorem A1l{s k n nc:Nat}{z:Value}{old' new':List Value}(h1:new'.length=k*s)(hnc:n+k≤nc)(hz:z.cells.size=s)(ho:old'.length=n*s) :
  nc*s≤(({ toList:=old' }:Array Value)++⟨new'⟩++Builtin.zeroCells z.cells (nc-(n+k))).size:=by
 simp[Builtin.zeroCells,ho,h1,hz];rw[← H1,← H1];exact F2 _ (by omega)
theorem B5P{t t2 ty:TypeId}{x y x' y' v:Value}(h:HR P base ρ m.H w)(hb:base≤w.heap.size)(ho:A6u P m t t2 x y=some (v,m'))(hf:K4 ρ m.n m'.hi)(hx:VR ρ x x')(hy:VR ρ y y') :
  VOk P base ρ m w (Builtin.append_ #[t,t2] ty #[x',y']) v m':=by
 unfold A6u at ho;split at ho
 ·rename_i e d2 hu hu2;cases hd2:A1U d2 with
  | false=>rw[hd2]at ho;cases ho
  | true =>
  rw[hd2]at ho;simp only[R4,cond_false]at ho;split at ho
  ·rename_i inf a n c hi;split at ho
   ·rename_i k new z hnew hz;obtain⟨g1,ho⟩:=A5 ho;obtain⟨g1,g4⟩:=B8 g1;obtain⟨g1,g3⟩:=B8 g1;obtain⟨g1,g2⟩:=B8 g1;have g1:=A1 g1;have g2:=A1 g2;have g3:=A2 g3;obtain⟨hlen,new',hnl,hnr⟩:=A7j h hnew hy;have hzr:∀ w,(zeroValue e).run P w=.ok z w:=fun w=>A0_ hz w
    have hnn:new'.length=k*inf.size:=by rw[← hnl.1];exact B1j h hnew g3
    have OPENv:N3=9223372036854775808:=rfl;cases hk:Nat.beq k 0 with
    | true =>
      have hk:=A2 hk;subst hk;have hb0:Nat.beq 0 0=true:=rfl;simp only[hb0,cond_true]at ho;have hn0:new'=[]:=G0.1 (by rw[hnn];simp);subst hn0;cases a with
      | none =>
        simp only at ho;obtain⟨q1,ho⟩:=A5 ho;obtain⟨q1,q2⟩:=B8 q1;have q1:=A2 q1;have q2:=A2 q2;subst q1;subst q2;cases ho;cases Q3 hx;exact VOk.same h (A7Z hu hu2 hd2 hi hlen (hnr w rfl)) (.pure rfl)
      | some ad =>
        simp only at ho;obtain⟨q1,ho⟩:=A5 ho;obtain⟨q1,q2⟩:=B8 q1;have q1:=A1 q1;have q2:=A1 q2;cases ho;rcases P1 hx with⟨l,hl,hsp,hc,rfl⟩|⟨l,c',hl,hsp,hc,hn,hcap,rfl⟩|⟨a',c',_,_,he,_⟩
        ·exact VOk.same h (A4k hu hu2 hd2 hi hlen (hnr w rfl) (by omega) rfl) (by simpa using hx)
        ·exact VOk.same h (A4k hu hu2 hd2 hi hlen (hnr w rfl) (by omega) rfl) (by simpa using hx)
        ·omega
    | false =>
      have hk0:k≠0:=fun e=>by subst e;cases hk
      simp only[hk,cond_false]at ho;cases a with
      | none =>
        simp only at ho;obtain⟨q1,ho⟩:=A5 ho;obtain⟨q1,q2⟩:=B8 q1;have q1:=A2 q1;have q2:=A2 q2;subst q1;subst q2;rw[H4]at ho;cases Q3 hx;obtain⟨nc,hnc,hr⟩:=A21 (ty:=ty) (c:=0) (a:=none) (old':=[]) hu hu2 hd2 hi hzr hlen (fun _ _=>rfl) hnr (by omega) g1 g2;have hsz:∀ inf2,P.info? e=some inf2→nc*inf2.size≤(({ toList:=[] }:Array Value)++⟨new'⟩++Builtin.zeroCells z.cells (nc-(0+k))).size:=fun inf2 h2=>by
         rw[hi]at h2;cases h2;exact A1l hnn hnc g3 (by simp)
        obtain⟨e1,e2,e3⟩:=A1j (wd:=w.drew) (fz:=(0,0)) (cap:=nc) h hb ho hf hnl (fun i u hi=>by
         show(({ toList:=[] }:Array Value)++⟨new'⟩++Builtin.zeroCells z.cells (nc-(0+k)))[i]? = some u;exact B3n hi) (fun i _ hh=>by have h1:0≤i:=hh.1;have h2:i<0:=hh.2;omega) hsz ⟨rfl,rfl,rfl⟩ rfl
        refine⟨_,_,_,hr,?_,e3⟩;rw[e1,F0]
        have:=VR.op (ρ:=upd ρ m.n (lc w.heap.size 0 nc)) (b:=m.n) (o:=0) (n:=k) (m:=N3) (m':=nc) e2 (A7 _) (by omega) (fun _ _=>rfl)
        simpa using this
      | some ad =>
        simp only at ho;cases hco:Nat.blt c N3 with
        | true =>
          have hco':c<N3:=A1 hco;simp only[hco,cond_true]at ho;rcases P1 hx with⟨l,hl,hsp,hc,rfl⟩|⟨l,c',hl,hsp,hc,hn,hcap,rfl⟩|⟨a',c',_,_,he,_⟩
          ·cases hfit:Nat.ble (n+k) c with
           | true =>
             have hfit':=A1 hfit;simp only[hfit,cond_true]at ho;split at ho
             ·rename_i m2 hw;cases ho;rw[A1d]at hw;obtain⟨w',h1,h2⟩:=A55 h hw hl hnl;refine⟨_,ρ,w',A4k hu hu2 hd2 hi hlen (hnr w rfl) hfit' ?_,?_,h2⟩
              ·rw[c8,show ad.off+l.sh+n*inf.size=ad.off+n*inf.size+l.sh by omega];exact h1
              ·obtain⟨ab,ao,asp⟩:=ad;simp only at hsp;subst hsp;exact .sl hl hc
             ·cases ho
           | false =>
             have hfit':¬ n+k≤c:=fun hle=>by rw[show Nat.ble (n+k) c=true from C4 hle]at hfit;cases hfit
             simp only[hfit,cond_false]at ho;split at ho
             ·rename_i old hold;rw[H4]at ho;obtain⟨old',o1,o2,o3⟩:=r9 h hold hl;have holdr:∀ wd:World,wd.heap=w.heap→(Builtin.firstCells inf.size n (.slice (some ⟨l.blk,ad.off+l.sh,none⟩) n c)).run P wd=.ok ⟨old'⟩ wd:=fun wd hw=>J8 o2 fun j u hj=>by rw[A0y hw];exact o3 j u hj
              obtain⟨nc,hnc,hr⟩:=A21 (ty:=ty) hu hu2 hd2 hi hzr hlen holdr hnr hfit' g1 g2;obtain⟨e1,e2,e3⟩:=A1j (wd:=w.drew) (fz:=(0,0)) (cap:=nc) (C:=⟨old'⟩++⟨new'⟩++Builtin.zeroCells z.cells (nc-(n+k))) h hb ho hf (o1.append hnl) (fun i u hi=>A1m hi) (fun i _ hh=>by have h1:0≤i:=hh.1;have h2:i<0:=hh.2;omega)
               (fun inf2 h2=>by rw[hi]at h2;cases h2;exact A1l hnn hnc g3 o2) ⟨rfl,rfl,rfl⟩ rfl
              refine⟨_,_,_,hr,?_,e3⟩;rw[e1]
              have:=VR.op (ρ:=upd ρ m.n (lc w.heap.size 0 nc)) (b:=m.n) (o:=0) (n:=n+k) (m:=N3) (m':=nc) e2 (A7 _) hnc (fun _ _=>rfl)
              simpa using this
             ·cases ho
          ·omega
          ·omega
        | false =>
          simp only[hco,cond_false]at ho;obtain⟨q0,ho2⟩:=A5 ho;clear ho;have ho:=ho2;clear ho2;obtain⟨q1,q2⟩:=B8 q0;replace q1:=A2 q1;replace q2:=A2 q2;clear q0;split at ho
          ·rename_i cs T hsp hg;obtain⟨p1,ho⟩:=A5 ho;rw[I0,I0,I0]at p1;obtain⟨⟨⟨p1,p2⟩,p3⟩,p4⟩:=p1;have p1:=A2 p1;have p2:=A2 p2;have p3:=A1 p3;have p4:ad.block<m.n:=A1 p4;subst p2;rw[H4]at ho;rcases P1 hx with⟨_,_,_,hc,_⟩|⟨l,c',hl,_,_,hn,hcap,rfl⟩|⟨a',c',_,_,he,_⟩
           ·omega
           ·have hcap:=hcap q1 q2;obtain⟨⟨hon,C,fz,T',z2,z3,z4⟩,z5⟩:=h.atl hl hg;obtain⟨rfl,z6,z7⟩:=z4 rfl;have z8:=(z7 inf hi).2;have z7:=(z7 inf hi).1;by_cases hfit:n+k≤c'
            ·
             have hsum:(n+k)*inf.size≤c'*inf.size:=F2 _ hfit;rw[H1]at hsum;obtain⟨w',r1,r2,r3,r4,r5⟩:=n9 (P:=P) (b:=l.blk) (o:=n*inf.size+l.sh) (fz:=fz) new' 0 C w z2 (B11 hnl g4) (by rw[hnn];subst hcap;omega) z6;obtain⟨e1,e3⟩:=St.grow (w':=w') (l:=l) h p3 hg rfl hl hon ho hf r2 r3 r5 (by
              have hfree:ρ m.n=none:=by
               rw[x7]at ho;obtain⟨_,_,rfl⟩:=M7 ho;exact hf m.n (A7 _) (L1 _ _).2
              refine⟨hon,_,fz,_,r4,fun i u hi=>?_,fun _=>⟨rfl,by simpa [o8]using z6,fun inf2 h2=>⟨by simpa [o8]using(by rw[hi]at h2;cases h2;exact z7:l.sh+l.cap*inf2.size≤C.size),by rw[hi]at h2;cases h2;exact z8⟩⟩⟩;show ∃ u',(Array.mk (A1B C.toList (n*inf.size+l.sh+0) new'))[l.sh+i]? = some u'∧_;have hlC:C.toList.length=C.size:=by simp
              rw[J3,A4A _ _ _ _ (by rw[hnn];subst hcap;omega)];by_cases hlt:i<cs.length
              ·rw[E9 hlt]at hi;rw[if_neg (by omega)];obtain⟨u',y1,y2⟩:=z3 i u hi;exact⟨u',by simpa using y1,y2.mono (i6 hfree)⟩
              ·rw[E7 (by omega)]at hi;have hil:=(A9.1 hi).1;have hnl1:=hnl.1;rw[if_pos (by omega)];obtain⟨u',y1,y2⟩:=hnl.get hi;exact⟨u',by rw[show l.sh+i-(n*inf.size+l.sh+0)=i-cs.length by omega];exact y1,y2.mono (i6 hfree)⟩)
             refine⟨_,_,w',A4k (ty:=ty) hu hu2 hd2 hi hlen (hnr w rfl) hfit ?_,?_,e3⟩
             ·rw[c8,q2,show 0+l.sh+n*inf.size=n*inf.size+l.sh by omega];exact r1
             ·rw[e1,q2];exact .op (M1 _ _ _) (A7 _) hfit (fun _ _=>hcap)
            ·
             have st1:=St.kill h p3 hg rfl;have hf1:K4 ρ (A3o m ad.block).n m'.hi:=by rw[x7];exact hf
             obtain⟨old',o1,o2⟩:=A1i (ρ:=ρ) (C:=C) (cs:=cs) (s:=l.sh) z3;have oL:old'.length=n*inf.size:=by rw[← o1.1];exact p1
             have holdr:∀ wd:World,wd.heap=w.heap→(Builtin.firstCells inf.size n (.slice (some ⟨l.blk,ad.off+l.sh,none⟩) n c')).run P wd=.ok ⟨old'⟩ wd:=fun wd hw=>J8 oL fun j u hj=>by
              rw[A0y hw,q2]
              have:=o2 j u hj;simp[World.cell?,z2,this]
             obtain⟨nc,hnc,hr⟩:=A21 (ty:=ty) hu hu2 hd2 hi hzr hlen holdr hnr hfit g1 g2;obtain⟨e1,e2,e3⟩:=A1j (wd:=w.drew) (fz:=(0,0)) (cap:=nc) (C:=⟨old'⟩++⟨new'⟩++Builtin.zeroCells z.cells (nc-(n+k))) st1.hr hb ho hf1 (o1.append hnl) (fun i u hi=>A1m hi) (fun i _ hh=>by have h1:0≤i:=hh.1;have h2:i<0:=hh.2;omega)
              (fun inf2 h2=>by rw[hi]at h2;cases h2;exact A1l hnn hnc g3 oL) ⟨rfl,rfl,rfl⟩ rfl
             refine⟨_,_,_,hr,?_,St.trans hf st1 e3⟩;rw[e1]
             have:=VR.op (ρ:=upd ρ (A3o m ad.block).n (lc w.heap.size 0 nc)) (b:=(A3o m ad.block).n) (o:=0) (n:=n+k) (m:=N3) (m':=nc) e2 (A7 _) hnc (fun _ _=>rfl)
             simpa using this
           ·omega
          ·cases ho
   ·cases ho
  ·cases ho
 ·cases ho
end
end Go.Sx
namespace Go.Sx
set_option linter.all false
open Go
set_option linter.unusedVariables false
set_option linter.unusedSimpArgs false
variable [Ora]
section
variable {P:Program} {base:Nat} {ρ:Ren} {m m':Mem} {w:World}
theorem B4b{op:UnOp}{x x' v:Value}(h:unM op x=some v)(hx:VR ρ x x')(w:World):(Op.unary op x').run P w=.ok v w∧I2 v=true:=by
 unfold unM at h;split at h
 ·cases J2 hx;cases h;exact⟨by simp[Op.unary,Op.intArith,A0W],by simp[A0W,I2]⟩
 ·cases J2 hx;obtain⟨h1,h2⟩:=A0e (P:=P) h w;exact⟨by simpa [Op.unary]using h1,h2⟩
 ·cases A1E hx;cases h;exact⟨rfl,rfl⟩
 ·cases h
theorem C2S{t ty:TypeId}{tys:List TypeId}{x x' v:Value}(ho:C57 P t x=some v)(hx:VR ρ x x')(w:World):(Builtin.cap_ ⟨t::tys⟩ ty #[x']).run P w=.ok v w∧I2 v=true:=by
 unfold C57 at ho;split at ho
 ·rename_i hu;cases Q3 hx;cases ho;exact⟨by simp[Builtin.cap_,Sem.run_bind,D8 hu,Result.andThen,goInt],rfl⟩
 ·rename_i hu;obtain⟨hc,ho⟩:=A5 ho;have hc:_<N3:=A1 hc;cases ho;rcases P1 hx with⟨l,_,_,_,rfl⟩|⟨l,c',_,_,_,_,_,rfl⟩|⟨a',c',_,_,he,_⟩
  ·exact⟨by simp[Builtin.cap_,Sem.run_bind,D8 hu,Result.andThen,goInt],rfl⟩
  ·omega
  ·omega
 ·cases ho
theorem B6D{t ty:TypeId}{tys:List TypeId}{x x' v:Value}(h:HR P base ρ m.H w)(ho:B9T P m t x=some v)(hx:VR ρ x x'):(Builtin.len_ ⟨t::tys⟩ ty #[x']).run P w=.ok v w∧I2 v=true:=by
 unfold B9T at ho;split at ho
 ·rename_i hu;cases X7 hx;cases ho;refine⟨?_,rfl⟩;simp[Builtin.len_,Sem.run_bind,D8 hu,Result.andThen,goInt]
 ·rename_i hu;cases ho;refine⟨?_,rfl⟩;simp[Builtin.len_,Sem.run_bind,D8 hu,Result.andThen,goInt]
 ·rename_i n c hu;cases ho;refine⟨?_,rfl⟩;have hx':∃ a' c',x'=.slice a' n c':=by
   cases hx with
   | pure _=>exact⟨_,_,rfl⟩
   | sl _ _=>exact⟨_,_,rfl⟩
   | op _ _ _ _=>exact⟨_,_,rfl⟩
   | opE _=>exact⟨_,_,rfl⟩
  obtain⟨a',c',rfl⟩:=hx';simp[Builtin.len_,Sem.run_bind,D8 hu,Result.andThen,goInt]
 ·rename_i hu;cases hx with|pure _=>?_
  cases ho;refine⟨?_,rfl⟩;simp[Builtin.len_,Sem.run_bind,D8 hu,Result.andThen,goInt]
 ·rename_i r hu;cases hx with
  | pure hp=>simp[I2]at hp
  | map hl =>
    rename_i l;split at ho
    ·rename_i es cl hg;cases ho;obtain⟨⟨h2,es',h3,h4,_⟩,_⟩:=h.atl hl hg;refine⟨?_,rfl⟩;have hgo:(getObj l.blk).run P w=.ok (.map es' cl) w:=by simp[getObj,Sem.run,h3]
     simp[Builtin.len_,Sem.run_bind,D8 hu,Result.andThen,goInt,hgo,h4]
    ·cases ho
 ·cases ho
theorem B55{ty:TypeId}{tys:Array TypeId}{vs vs':List Value}{v:Value}(ho:C5g vs=some v)(hx:LR ρ vs vs')(w:World):(Builtin.max_ tys ty ⟨vs'⟩).run P w=.ok v w∧I2 v=true:=by
 unfold C5g at ho;split at ho
 ·obtain⟨a',r1,rfl,h1,h2⟩:=hx.tail;obtain⟨b',r2,rfl,h3,h4⟩:=h2.tail;cases h4.nil_inv;cases J2 h1;cases J2 h3;cases ho;exact⟨by simp[Builtin.max_,Builtin.max2],rfl⟩
 ·obtain⟨a',r1,rfl,h1,h2⟩:=hx.tail;obtain⟨b',r2,rfl,h3,h4⟩:=h2.tail;obtain⟨c',r3,rfl,h5,h6⟩:=h4.tail;cases h6.nil_inv;rw[A7H]at ho;cases J2 h1;cases J2 h3;cases J2 h5;cases ho;exact⟨by simp[Builtin.max_,Builtin.max2],rfl⟩
 ·cases ho
theorem B53{ty:TypeId}{tys:Array TypeId}{vs vs':List Value}{v:Value}(ho:C5f vs=some v)(hx:LR ρ vs vs')(w:World):(Builtin.min_ tys ty ⟨vs'⟩).run P w=.ok v w∧I2 v=true:=by
 unfold C5f at ho;split at ho
 ·obtain⟨a',r1,rfl,h1,h2⟩:=hx.tail;obtain⟨b',r2,rfl,h3,h4⟩:=h2.tail;cases h4.nil_inv;cases J2 h1;cases J2 h3;cases ho;exact⟨by simp[Builtin.min_,Builtin.min2],rfl⟩
 ·obtain⟨a',r1,rfl,h1,h2⟩:=hx.tail;obtain⟨b',r2,rfl,h3,h4⟩:=h2.tail;obtain⟨c',r3,rfl,h5,h6⟩:=h4.tail;cases h6.nil_inv;rw[A7H]at ho;cases J2 h1;cases J2 h3;cases J2 h5;cases ho;exact⟨by simp[Builtin.min_,Builtin.min2],rfl⟩
 ·cases ho
theorem A9w{ty:TypeId}{tys:Array TypeId}{x x' v:Value}(h:HR P base ρ m.H w)(ho:A3N m x=some (v,m'))(hx:VR ρ x x'):VOk P base ρ m w (Builtin.unsafeSliceData_ tys ty #[x']) v m':=by
 unfold A3N at ho;split at ho
 ·cases ho;cases Q3 hx;exact VOk.same h rfl (.pure rfl)
 ·rename_i a n c;cases hq:Nat.beq n 0 || Nat.beq c 0 || Nat.beq c (N3+2)with
  | true=>rw[hq]at ho;cases ho
  | false =>
    rw[hq]at ho;simp only[cond_false,D3,O5]at ho;obtain⟨rfl,rfl⟩:=ho;simp only[X0]at hq;obtain⟨⟨q1,q2⟩,q3⟩:=hq;have q1:n≠0:=fun e=>by subst e;cases q1
    have q2:c≠0:=fun e=>by subst e;cases q2
    rcases P1 hx with⟨l,hl,hsp,hc,rfl⟩|⟨l,c',hl,hsp,hc,hn,hcap,rfl⟩|⟨a',c',_,he,_,_⟩
    ·refine VOk.same (v':=.pointer (some ⟨l.blk,a.off+l.sh,none⟩)) h ?_ ?_
     ·have hdef:Builtin.unsafeSliceData_ tys ty #[.slice (some ⟨l.blk,a.off+l.sh,none⟩) n c]=(do
        if c≠0 then pure (.pointer (some ⟨l.blk,a.off+l.sh,none⟩))
        else if(← viewAt l.blk).isSome then pure (.pointer (some ⟨l.blk,a.off+l.sh,none⟩))
        else pure (.pointer (some ⟨← newObj (.view ⟨l.blk,a.off+l.sh,none⟩ (← elemOf ty)),0,none⟩))):=rfl
      rw[hdef,if_pos q2];rfl
     ·obtain⟨ab,ao,asp⟩:=a;simp only at hsp;subst hsp;exact .ptr hl
    ·refine VOk.same (v':=.pointer (some ⟨l.blk,a.off+l.sh,none⟩)) h ?_ ?_
     ·have:c'≠0:=by omega
      have hdef:Builtin.unsafeSliceData_ tys ty #[.slice (some ⟨l.blk,a.off+l.sh,none⟩) n c']=(do
        if c'≠0 then pure (.pointer (some ⟨l.blk,a.off+l.sh,none⟩))
        else if(← viewAt l.blk).isSome then pure (.pointer (some ⟨l.blk,a.off+l.sh,none⟩))
        else pure (.pointer (some ⟨← newObj (.view ⟨l.blk,a.off+l.sh,none⟩ (← elemOf ty)),0,none⟩))):=rfl
      rw[hdef,if_pos this];rfl
     ·obtain⟨ab,ao,asp⟩:=a;simp only at hsp;subst hsp;exact .ptr hl
    ·omega
 ·cases ho
theorem B7P{t:TypeId}{x x' v:Value}(h:HR P base ρ m.H w)(ho:B1h P m t x=some (v,m'))(hx:VR ρ x x'):VOk P base ρ m w (Instr.makeInterface t x') v m':=by
 unfold B1h at ho;split at ho
 ·rename_i d hd;have hmi:(∀ ms,d≠.interface ms)→(Instr.makeInterface t x').run P w=.ok (.iface t x') w:=fun hne=>by
   simp only[Instr.makeInterface,Sem.run_bind,D8 hd,Result.andThen];cases d<;>first|rfl|exact absurd rfl (hne _)
  split at ho
  ·cases ho
  ·rename_i hne;obtain⟨_,ho⟩:=A5 ho;cases ho;exact VOk.same h (hmi fun ms e=>hne ms e) (.iface hx)
 ·cases ho
theorem C1k{x x' v:Value}(ho:B8_ m x=some (v,m'))(hx:VR ρ x x'):m'=m∧VR ρ v x'∧((∃ a,x'=.pointer (some a))∨∃ f a b,x'=.func (.func f) a b):=by
 unfold B8_ at ho;split at ho
 ·cases ho;obtain⟨l,_,_,rfl⟩:=Q0 hx;exact⟨rfl,hx,.inl ⟨_,rfl⟩⟩
 ·cases ho;cases hx with
  | pure hp=>simp[I2]at hp
  | func _ _ _ _=>exact⟨rfl,by constructor<;>assumption,.inr ⟨_,_,_,rfl⟩⟩
 ·cases ho
theorem B96{t ty:TypeId}{tys:List TypeId}{x y x' y' v:Value}(h:HR P base ρ m.H w)(ho:B33 P m t x y=some (v,m'))(hx:VR ρ x x')(hy:VR ρ y y'):VOk P base ρ m w (Builtin.copy_ ⟨t::tys⟩ ty #[x',y']) v m':=by
 unfold B33 at ho;split at ho
 ·rename_i e a n c hu;split at ho
  ·rename_i s hs;split at ho
   ·rename_i k cs hsrc;have hx':∃ a' c',x'=.slice a' n c':=by
     cases hx with
     | pure _=>exact⟨_,_,rfl⟩
     | sl _ _=>exact⟨_,_,rfl⟩
     | op _ _ _ _=>exact⟨_,_,rfl⟩
     | opE _=>exact⟨_,_,rfl⟩
    obtain⟨a',c',rfl⟩:=hx';have hread:∃ L cs',(Builtin.lenOf y').run P w=.ok L w∧Nat.min L n=k∧LR ρ cs cs'∧(Builtin.firstCells s k y').run P w=.ok ⟨cs'⟩ w:=by
     split at hsrc
     ·rename_i k0 _;obtain⟨q,hsrc⟩:=A5 hsrc;have q:=A2 q;subst q;cases hsrc;cases Q3 hy;exact⟨0,[],rfl,by simp,.nil,rfl⟩
     ·rename_i b k0 c0;split at hsrc
      ·rename_i r hr;cases hsrc;rcases P1 hy with⟨l,hl,_,_,rfl⟩|⟨l,c',hl,_,_,_,_,rfl⟩|⟨a',c',_,rfl,_,rfl⟩
       ·obtain⟨r',h1,h2,h3⟩:=r9 h hr hl;exact⟨k0,r',rfl,rfl,h1,J8 h2 h3⟩
       ·obtain⟨r',h1,h2,h3⟩:=r9 h hr hl;exact⟨k0,r',rfl,rfl,h1,J8 h2 h3⟩
       ·have:cs=[]:=by
         unfold A0K at hr;split at hr
         ·have:=(A3d hr).2;simp at this;exact this
         ·cases hr
        subst this;exact⟨0,[],rfl,rfl,.nil,by simp[Builtin.firstCells,loadCells,loadCellsFrom]⟩
      ·cases hsrc
     ·rename_i b;cases hsrc;cases X7 hy;refine⟨b.size,P8 (b.data.toList.take (Nat.min b.size n)),rfl,rfl,A8G _ _,?_⟩;have e:((b.extract 0 (Nat.min b.size n)).data.map fun b=>Value.int .u8 b.toNat)=⟨P8 (b.data.toList.take (Nat.min b.size n))⟩:=by
       apply J1;simp[P8,A2q]
      show(pure ((b.extract 0 (Nat.min b.size n)).data.map fun b=>Value.int .u8 b.toNat):Sem (Array Value)).run P w=_;rw[e];rfl
     ·cases hsrc
    obtain⟨L,cs',r1,r2,r3,r4⟩:=hread;have hbase:(Builtin.copy_ ⟨t::tys⟩ ty #[.slice a' n c',y']).run P w=(match a' with|some a=>(do storeCells a cs';pure (goInt k):Sem Value)|none=>pure (goInt k)).run P w:=by
     unfold Builtin.copy_;simp only[J3,S7,S8,Sem.run_bind,D8 hu,K8 hs,r1,r2,r4,Result.andThen];cases a' with
     | none=>rfl
     | some a=>rfl
    cases a with
    | none =>
      cases Q3 hx;simp only at ho;obtain⟨q,ho⟩:=A5 ho;have q:=A2 q;cases ho;exact VOk.same h (by rw[hbase,q];rfl) (.pure rfl)
    | some ad =>
      simp only at ho;cases hz:Nat.beq cs.length 0 with
      | true =>
        rw[hz]at ho;cases ho;have hz:=A2 hz;have:cs'=[]:=G0.1 (by rw[← r3.1];exact hz);subst this;refine VOk.same h (v':=.int .i64 k) ?_ (.pure rfl);rw[hbase];cases a'<;>rfl
      | false =>
        rw[hz]at ho;simp only[cond_false]at ho;obtain⟨hcl,ho⟩:=A5 ho;have hcl:=A1 hcl;split at ho
        ·rename_i m2 hw;cases ho;rcases P1 hx with⟨l,hl,hsp,hc,he⟩|⟨l,c',hl,hsp,hc,hn,hcap,he⟩|⟨a2,c2,_,hn,hc2,he⟩
         ·cases he;obtain⟨w',h1,h2⟩:=A55 h hw hl r3;exact⟨.int .i64 k,ρ,w',by rw[hbase];simp[Sem.run_bind,h1,Result.andThen,goInt],.pure rfl,h2⟩
         ·cases he;obtain⟨w',h1,h2⟩:=A55 h hw hl r3;exact⟨.int .i64 k,ρ,w',by rw[hbase];simp[Sem.run_bind,h1,Result.andThen,goInt],.pure rfl,h2⟩
         ·have OPENv:N3=9223372036854775808:=rfl;omega
        ·cases ho
   ·cases ho
  ·cases ho
 ·cases ho
theorem A5y:∀ {cs:List Value} {l:List UInt8},bytesOf cs=some l→∃ ns:List Int,cs=ns.map (Value.int .u8)∧l=ns.map fun n=>UInt8.ofNat n.toNat
 | [],l,h=>by simp only[bytesOf,D3]at h;subst h;exact⟨[],rfl,rfl⟩
 | v::r,l,h=>by
   unfold bytesOf at h;split at h
   ·rename_i he;cases he
   ·rename_i n r0 he;cases he;split at h
    ·rename_i l0 h0;cases h;obtain⟨ns,h1,h2⟩:=A5y h0;exact⟨n::ns,by rw[h1];rfl,by rw[h2];rfl⟩
    ·cases h
   ·cases h
theorem A6c:∀ {ns:List Int} {cs':List Value},LR ρ (ns.map (Value.int .u8)) cs'→cs'=ns.map (Value.int .u8)
 | [],cs',h=>h.nil_inv
 | n::r,cs',h=>by
   obtain⟨v',r',rfl,h1,h2⟩:=h.tail;cases J2 h1;rw[A6c h2];rfl
theorem A5n:∀ (ns:List Int) (acc:List UInt8),(ns.foldl (fun r n=>r.push (UInt8.ofNat n.toNat)) (ByteArray.mk ⟨acc⟩))=⟨⟨acc++ns.map fun n=>UInt8.ofNat n.toNat⟩⟩
 | [],acc=>by simp
 | n::r,acc=>by
   rw[List.foldl_cons];have:(ByteArray.mk ⟨acc⟩).push (UInt8.ofNat n.toNat)=⟨⟨acc++[UInt8.ofNat n.toNat]⟩⟩:=by
    show ByteArray.mk (Array.push ⟨acc⟩ _)=_;simp
   rw[this,A5n r];simp
theorem B99{s t:TypeId}{x x' v:Value}(h:HR P base ρ m.H w)(hb:base≤w.heap.size)(ho:B02 P m s t x=some (v,m'))(hf:K4 ρ m.n m'.hi)(hx:VR ρ x x'):VOk P base ρ m w (convert s t x') v m':=by
 unfold B02 at ho;split at ho
 ·rename_i ds k j n hs ht;cases J2 hx;simp only[D3,O5]at ho;obtain⟨rfl,rfl⟩:=ho;refine VOk.same (v':=.int k (k.wrap n)) h ?_ (by rw[A0W,A3z];exact .pure rfl);cases ds<;>simp[convert,Sem.run_bind,D8 hs,D8 ht,Result.andThen,Conv.intToInt]
 ·rename_i ds b hs ht;cases X7 hx;cases ho;refine VOk.same h ?_ (.pure rfl);cases ds<;>simp[convert,Sem.run_bind,D8 hs,D8 ht,Result.andThen]
 ·rename_i ds j n hs ht;cases J2 hx;cases ho;refine VOk.same (v':=.string (Utf8.encode n)) h ?_ (.pure rfl);cases ds<;>simp[convert,Sem.run_bind,D8 hs,D8 ht,Result.andThen,Conv.intToString]
 ·rename_i ds e b hs ht;cases X7 hx;split at ho
  ·rename_i he;split at ho
   ·rename_i hsz;rw[H4]at ho;let q:Question:=.appendCap b.size 0 e
    let cap:=q.cut (w.tape w.drawn q)
    have hcap:b.size≤cap:=by show b.size≤b.size+_;omega
    have hch:(choose q).run P w=.ok cap w.drew:=by
     simp only[choose,Sem.run];rw[if_neg (by simp[q,Question.forced])];rfl
    let C:Array Value:=(b.data.map fun b=>Value.int .u8 b.toNat)++Array.replicate (cap-b.size) (.int .u8 0)
    have hC:C.size=cap:=by
     have:b.data.size=b.size:=rfl;simp[C,this];omega
    obtain⟨e1,e2,e3⟩:=A1j (wd:=w.drew) (fz:=(C.size,C.size+1)) (cap:=cap) (C:=C) h hb ho hf (A8G ρ b.data.toList) (fun i u hi=>by
      have hl:=(A9.1 hi).1;simp[P8]at hl;have hl':i<(b.data.map fun b=>Value.int .u8 b.toNat).size:=by simpa using hl
      show((b.data.map fun b=>Value.int .u8 b.toNat)++Array.replicate (cap-b.size) (.int .u8 0))[i]? = some u;rw[V0 hl']
      simpa [P8]using hi) (fun i hi hh=>by have:=hh.1;simp only at this;omega)
     (fun inf h2=>by
       have:inf.size=1:=by unfold G7 at hsz;rw[h2]at hsz;exact A8 hsz
       rw[this,hC];omega) ⟨rfl,rfl,rfl⟩ rfl
    refine⟨.slice (some ⟨w.heap.size,0,none⟩) b.size cap,_,_,?_,?_,e3⟩
    ·have hmk:∀ w2:World,w2.heap[w.heap.size]? = some (.cells C e (0,0))→(markStringish ⟨w.heap.size,0,none⟩).run P w2=.ok () (w2.freeze { block:=w.heap.size,off:=C.size } 1):=fun w2 h2=>by
      simp[markStringish,shape,freeze,Sem.run,World.shape?,h2]
     have hfr:({ w.drew with heap:=w.heap.push (.cells C e (0,0)) }:World).freeze { block:=w.heap.size,off:=C.size } 1={ w.drew with heap:=w.heap.push (.cells C e (C.size,C.size+1)) }:=by
      unfold World.freeze;rw[if_neg (by decide)];congr 1
      apply Array.ext_getElem?;intro i;rw[J4];by_cases hi:w.heap.size=i
      ·subst hi;simp
      ·rw[if_neg hi];simp only[w9];rw[if_neg (fun h=>hi h.symm),if_neg (fun h=>hi h.symm)]
     have hconv:(convert s t (.string b)).run P w=(Conv.stringToBytes e b).run P w:=by
      cases ds<;>simp[convert,Sem.run_bind,D8 hs,D8 ht,D8 he,Result.andThen]
     rw[hconv];unfold Conv.stringToBytes;simp only[Sem.run_bind,show(choose (.appendCap b.size 0 e)).run P w=.ok cap w.drew from hch,Result.andThen];have hnr:(newRow e C).run P w.drew=.ok ⟨w.heap.size,0,none⟩ { w.drew with heap:=w.heap.push (.cells C e (0,0)) }:=rfl;rw[show(newRow e ((b.data.map fun b=>Value.int .u8 b.toNat)++Array.replicate (cap-b.size) (.int .u8 0))).run P w.drew=_ from hnr];simp only[Result.andThen];rw[hmk _ (by simp),hfr];rfl
    ·rw[e1];exact VR.op (o:=0) (m':=cap) e2 (A7 _) hcap (fun _ _=>rfl)
   ·cases ho
  ·cases ho
 ·rename_i e n c hs ht;cases Q3 hx;split at ho
  ·rename_i he;cases ho;refine VOk.same h (v':=.string ByteArray.empty) ?_ (.pure rfl);simp[convert,Sem.run_bind,D8 hs,D8 ht,D8 he,Result.andThen,Conv.bytesToString]
  ·cases ho
 ·rename_i e a n c hs ht;split at ho
  ·rename_i he;split at ho
   ·rename_i cs hr;split at ho
    ·rename_i l hl;cases ho;obtain⟨ns,h1,h2⟩:=A5y hl;have hfin:∀ a' c',(loadCells a' n).run P w=.ok (ns.map (Value.int .u8)).toArray w→(convert s t (.slice (some a') n c')).run P w=.ok (.string ⟨⟨l⟩⟩) w:=fun a' c' hlc=>by
      have:=run_bytesToString w a' n c' ns hlc;have e2:=A5n ns [];simp only[d8]at e2;simp only[convert,Sem.run_bind,D8 hs,D8 ht,D8 he,Result.andThen];rw[this,show ByteArray.empty=ByteArray.mk ⟨[]⟩from rfl,e2,h2]
     rcases P1 hx with⟨lc,hlc,_,_,rfl⟩|⟨lc,c',hlc,_,_,_,_,rfl⟩|⟨a',c',_,rfl,_,rfl⟩
     ·obtain⟨r',g1,g2,g3⟩:=r9 h hr hlc;rw[h1]at g1
      have:=A6c g1;subst this;exact VOk.same h (hfin _ _ (J8 g2 g3)) (.pure rfl)
     ·obtain⟨r',g1,g2,g3⟩:=r9 h hr hlc;rw[h1]at g1
      have:=A6c g1;subst this;exact VOk.same h (hfin _ _ (J8 g2 g3)) (.pure rfl)
     ·have:cs=[]:=by
       unfold A0K at hr;split at hr
       ·have:=(A3d hr).2;simpa using this
       ·cases hr
      subst this;have:ns=[]:=by cases ns with|nil=>rfl|cons _ _=>cases h1
      subst this;exact VOk.same h (hfin _ _ (by simp[loadCells,loadCellsFrom])) (.pure rfl)
    ·cases ho
   ·cases ho
  ·cases ho
 ·cases ho
end
end Go.Sx
