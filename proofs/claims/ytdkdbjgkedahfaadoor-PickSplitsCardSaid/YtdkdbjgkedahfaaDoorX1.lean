/- The law PickSplits: for every input the call returns true, and the arguments read behind it as they read before. No condition. -/
import Derived.Test.YtdkdbjgkedahfaaDoorX0
import Derived.ChangeKeysEq
import Derived.Laws.BytesString
namespace Go.Sx
set_option linter.all false
open Go
set_option linter.unusedVariables false
set_option linter.unusedSimpArgs false
variable [Ora]
theorem B9{a b:Bool}(h:(a && b)=true):a=true∧b=true:=by simpa using h
theorem A5{α:Type}{c:Bool}{x:Option α}{y:α}(h:(bif c then x else none)=some y):c=true∧x=some y:=by
 cases c
 ·simp at h
 ·exact⟨rfl,h⟩
theorem M5{m:Mem}{ab:AB}{k:Nat→Value}{v:Value}{m':Mem}(h:m9 m ab k=some (v,m')):m.n≤G8∧v=k m.n∧m'=⟨m.H.set m.n (some ab),m.n+1,m.W,upN m.hi m.n,m.lg⟩:=by
 obtain⟨H,n,W,hi,lg⟩:=m;simp only[m9,E6,A1Z]at h;obtain⟨h1,h2⟩:=A5 h;simp only[C9,O1]at h2;exact⟨by simpa using h1,h2.1.symm,h2.2.symm⟩
theorem W4{m:Mem}{id:Nat}{ab:AB}{m':Mem}(h:A2Q m id ab=some m'):id≤G8∧m'=⟨m.H.set id (some ab),m.n,id::m.W,m.hi,m.lg⟩:=by
 obtain⟨H,n,W,hi,lg⟩:=m;simp only[A2Q,E6,A1Z]at h;obtain⟨h1,h2⟩:=A5 h;simp only[C9]at h2;exact⟨by simpa using h1,h2.symm⟩
theorem q8(m:Mem)(id:Nat):A3N m id=⟨m.H.set id none,m.n,id::m.W,m.hi,m.lg⟩:=by
 obtain⟨H,n,W,hi,lg⟩:=m;simp only[A3N,E6,A1Z]
theorem K7(hi n:Nat):hi≤upN hi n∧n<upN hi n:=by
 unfold upN;cases h:Nat.blt n hi with
 | true=>have:=A1 h;simp;omega
 | false =>
   have:¬ n<hi:=fun h'=>by rw[show Nat.blt n hi=true from C3 h']at h;cases h
   simp;omega
def upd(ρ:Ren)(n:Nat)(l:Loc):Ren:=fun b=>if b=n then some l else ρ b
theorem Z0{ρ:Ren}{n:Nat}{l:Loc}(h:ρ n=none):∀ b k,ρ b=some k→upd ρ n l b=some k:=fun b k hb=>by
 unfold upd;by_cases e:b=n
 ·subst e;rw[h]at hb;cases hb
 ·rw[if_neg e];exact hb
theorem L6(ρ:Ren)(n:Nat)(l:Loc):upd ρ n l n=some l:=by simp[upd]
theorem V2{ρ:Ren}{n:Nat}{l:Loc}{b:Nat}{k:Loc}(h:upd ρ n l b=some k)(h0:ρ b=none):b=n∧k=l:=by
 unfold upd at h;by_cases e:b=n
 ·rw[if_pos e]at h;exact⟨e,(A8 h).symm⟩
 ·rw[if_neg e]at h;rw[h0]at h;cases h
section
variable {P:Program} {base:Nat} {ρ:Ren} {m m':Mem} {w w':World}
theorem St.alloc{ab:AB}{k:Nat→Value}{v:Value}{o:Obj}{l:Loc}(h:HR P base ρ m.H w)(hb:base≤w.heap.size)(hn:m9 m ab k=some (v,m'))(hf:K2 ρ m.n m'.hi)
  (ho:w'.os=w.os∧w'.tape=w.tape∧w'.output=w.output) (hh:w'.heap=w.heap.push o) (hl:l.blk=w.heap.size) (hab:BR P (upd ρ m.n l) ab l w') (hfz:ab≠.frz:=by intro h;cases h) :
  v=k m.n∧upd ρ m.n l m.n=some l∧St P base ρ (upd ρ m.n l) m m' w w':=by
 obtain⟨hle,hv,rfl⟩:=M5 hn;have hfree:ρ m.n=none:=hf m.n (A7 _) (K7 _ _).2;have hext:=Z0 (l:=l) hfree;have hTc:∀ k,Tc ab l k→w.heap.size≤k:=fun k hk=>by
  rcases hk with⟨_,_,rfl⟩|⟨rfl,_⟩
  ·omega
  ·exact absurd rfl hfz
 have hold:∀ k,k<w.heap.size→w'.heap[k]? = w.heap[k]? := fun k hk=>by rw[hh,o7];rw[if_neg (by omega)]
 refine⟨hv,L6 _ _ _,hext,fun b k h1 h2=>?_,by simp,(K7 _ _).1,fun _=>Z6 (K7 _ _).2,⟨fun b k hk=>?_,fun id hid a ha=>?_⟩,fun b hb=>hb,fun b h1 h2=>absurd h1 h2,fun k hk _=>hold k hk,by rw[hh];simp,ho,fun b k h1 h2 _=>?_,fun id hid h1 h2=>?_,fun k ⟨id,a,q,hid,ha,hq,ht⟩=>?_⟩
 ·obtain⟨rfl,rfl⟩:=V2 h1 h2;exact⟨A7 _,I6 _⟩
 ·cases h0:ρ b with
  | some k0 =>
    rw[hext b k0 h0]at hk
    have:=A8 hk;subst this;exact h.dom b k0 h0
  | none=>obtain⟨rfl,rfl⟩:=V2 hk h0;exact hle
 ·rw[E4 _ _ _ _ hle hid]at ha;by_cases e:id=m.n
  ·rw[if_pos e]at ha;have ha:=A8 ha;subst ha;subst e;refine⟨l,L6 _ _ _,hab,fun _ _=>⟨by omega,fun id2 hid2 ab2 l2 h2 h3 h4=>?_⟩⟩;cases h0:ρ id2 with
   | some k0 =>
     rw[hext id2 k0 h0]at h3
     have:=A8 h3;subst this;rw[E4 _ _ _ _ hle hid2]at h2;by_cases e2:id2=m.n
     ·exact e2
     ·rw[if_neg e2]at h2
      have:=(h.atl h0 h2).1.tc h4;omega
   | none=>exact(V2 h3 h0).1
  ·rw[if_neg e]at ha;obtain⟨l0,h1,h2,h3⟩:=h.at_ id hid a ha;refine⟨l0,hext _ _ h1,h2.mono hext (fun k hk=>hold _ (h2.tc hk)),fun hr ho=>⟨(h3 hr ho).1,fun id2 hid2 ab2 l2 g1 g2 g3=>?_⟩⟩;rw[E4 _ _ _ _ hle hid2]at g1;by_cases e2:id2=m.n
   ·subst e2;rw[L6]at g2
    have:=A8 g2;subst this;have g1:=A8 (by simpa using g1);subst g1
    have:=h2.tc (.inl ⟨AB.rw_on hr,ho,rfl⟩)
    have:=hTc _ g3;omega
   ·rw[if_neg e2]at g1;unfold upd at g2;rw[if_neg e2]at g2;exact(h3 hr ho).2 id2 hid2 ab2 l2 g1 g2 g3
 ·obtain⟨rfl,rfl⟩:=V2 h1 h2;exact .inl (by omega)
 ·rw[E4 _ _ _ _ hle hid,if_neg];intro e;subst e;rcases h2 with h2|h2
  ·omega
  ·have h2:upN m.hi m.n≤m.n:=h2
   have:=(K7 m.hi m.n).2;omega
 ·have ha:Hp.get (m.H.set m.n (some ab)) id=some a:=ha;rw[E4 _ _ _ _ hle hid]at ha;by_cases e:id=m.n
  ·subst e;rw[if_pos rfl]at ha;have ha:=A8 ha;subst ha;rw[L6]at hq;have hq:=A8 hq;subst hq;exact .inl (hTc k ht.2)
  ·rw[if_neg e]at ha;unfold upd at hq;rw[if_neg e]at hq;exact .inr ⟨id,a,q,hid,ha,hq,ht⟩
theorem St.write{ab ab':AB}{id:Nat}{l:Loc}(h:HR P base ρ m.H w)(hs:A2Q m id ab'=some m')(hg:Hp.get m.H id=some ab)(hrw:ab.rw=true)(hl:ρ id=some l)(hon:l.on=true)
  (ho:w'.os=w.os∧w'.tape=w.tape∧w'.output=w.output) (hsz:w'.heap.size=w.heap.size) (hk:∀ k,k≠l.blk→w'.heap[k]? = w.heap[k]?) (hb:BR P ρ ab' l w') (hfz:ab'≠.frz:=by intro h;cases h):St P base ρ ρ m m' w w':=by
 have hab3:∀ k,Tc ab' l k→Tc ab l k∨k=l.blk:=fun k hk=>by
  rcases hk with⟨_,_,rfl⟩|⟨rfl,_⟩
  ·exact .inr rfl
  ·exact absurd rfl hfz
 obtain⟨hle,rfl⟩:=W4 hs;obtain⟨h2,h3⟩:=h.atl hl hg;refine⟨fun _ _ h=>h,fun b k h1 h2=>(by rw[h1]at h2;cases h2),A7 _,A7 _,fun h=>h,⟨h.dom,fun id2 hid2 a ha=>?_⟩,fun b hb=>C6 _ hb,fun b h1 h2 k hk'=>?_,fun k hk' hb'=>hk k ?_,by rw[hsz];exact A7 _,ho,fun b k h1 h2=>(by rw[h1]at h2;cases h2),fun id2 hid2 h4 h5=>?_,fun k ⟨id2,a,q,hid2,ha,hq,ht⟩=>.inr ?_⟩
 ·rw[E4 _ _ _ _ hle hid2]at ha;by_cases e:id2=id
  ·rw[if_pos e]at ha;have ha:=A8 ha;subst ha;subst e;refine⟨l,hl,hb,fun _ ho'=>⟨(h3 hrw ho').1,fun id3 hid3 ab3 l3 g1 g2 g3=>?_⟩⟩;rw[E4 _ _ _ _ hle hid3]at g1;by_cases e3:id3=id2
   ·exact e3
   ·rw[if_neg e3]at g1;exact(h3 hrw ho').2 id3 hid3 ab3 l3 g1 g2 g3
  ·rw[if_neg e]at ha;obtain⟨l2,g1,g2,g3⟩:=h.at_ id2 hid2 a ha;have hne:∀ k,Tc a l2 k→k≠l.blk:=fun k hk' hh=>e ((h3 hrw hon).2 id2 hid2 a l2 ha g1 (hh▸hk'))
   refine⟨l2,g1,g2.mono (fun _ _ h=>h) (fun k hk'=>hk _ (hne k hk')),fun hr ho'=>⟨(g3 hr ho').1,fun id3 hid3 ab3 l3 f1 f2 f3=>?_⟩⟩;rw[E4 _ _ _ _ hle hid3]at f1;by_cases e3:id3=id
   ·subst e3;rw[hl]at f2
    have:=A8 f2;subst this;have f1:=A8 (by simpa using f1);subst f1;rcases hab3 _ f3 with f3|f3
    ·exact(g3 hr ho').2 id3 hid3 ab l hg hl f3
    ·exact absurd f3 (hne _ (.inl ⟨AB.rw_on hr,ho',rfl⟩))
   ·rw[if_neg e3]at f1;exact(g3 hr ho').2 id3 hid3 ab3 l3 f1 f2 f3
 ·rcases B3.1 h1 with rfl|h1
  ·exact⟨ab,hg,hrw⟩
  ·exact absurd h1 h2
 ·exact fun e=>hb' id B7 l hl hon e.symm
 ·rw[E4 _ _ _ _ hle hid2,if_neg];intro e;subst e;exact h4 B7
 ·have ha:Hp.get (m.H.set id (some ab')) id2=some a:=ha;rw[E4 _ _ _ _ hle hid2]at ha;by_cases e:id2=id
  ·subst e;rw[if_pos rfl]at ha;have ha:=A8 ha;subst ha;rw[hl]at hq;have hq:=A8 hq;subst hq;refine⟨id2,ab,l,hid2,hg,hl,AB.rw_fr hrw,.inl ⟨AB.rw_on hrw,hon,?_⟩⟩;rcases ht.2 with⟨_,_,h⟩|⟨h,_⟩
   ·exact h
   ·exact absurd h hfz
  ·rw[if_neg e]at ha;exact⟨id2,a,q,hid2,ha,hq,ht⟩
theorem A3E{cs:List Value}{o n:Nat}{r:List Value}(h:B9S cs o n=some r):r=(cs.drop o).take n∧r.length=n:=by
 unfold B9S at h;simp only at h;obtain⟨h1,h2⟩:=A5 h;have h2:=(A8 h2).symm;subst h2;exact⟨rfl,A2 h1⟩
theorem A1H{C:Array Value}{cs:List Value}{s:Nat}(h:∀ (i:Nat) (v:Value),cs[i]? = some v→∃ v',C[s+i]? = some v'∧VR ρ v v'):∃ cs',LR ρ cs cs'∧∀ (i:Nat) (v':Value),cs'[i]? = some v'→C[s+i]? = some v':=by
 induction cs generalizing s with
 | nil=>exact⟨[],.nil,fun i v' h=>by simp at h⟩
 | cons v r ih =>
   obtain⟨v',h1,h2⟩:=h 0 v rfl;obtain⟨r',h3,h4⟩:=ih (s:=s+1) fun i u hi=>by
    obtain⟨u',a,b⟩:=h (i+1) u (by simpa using hi);exact⟨u',by rw[show s+1+i=s+(i+1) by omega];exact a,b⟩
   refine⟨v'::r',.cons h2 h3,fun i u hi=>?_⟩;cases i with
   | zero=>simp at hi;subst hi;simpa using h1
   | succ i =>
     have:=h4 i u (by simpa using hi);rw[show s+(i+1)=s+1+i by omega];exact this
theorem j9{a:Addr}{n:Nat}{r:List Value}{l:Loc}(h:HR P base ρ m.H w)(hr:w5 m a n=some r)(hl:ρ a.block=some l) :
  ∃ r',LR ρ r r'∧r'.length=n∧(∀ (j:Nat) (v':Value),r'[j]? = some v'→w.cell? ⟨l.blk,a.off+l.sh+j,none⟩=some v'):=by
 unfold w5 at hr;split at hr
 ·rename_i cs T ro hspot hg;obtain⟨hr1,hr2⟩:=A3E hr;obtain⟨⟨_,C,fz,T',h2,h3,_⟩,_⟩:=h.atl hl hg;obtain⟨r',h4,h5⟩:=A1H (ρ:=ρ) (C:=C) (cs:=r) (s:=l.sh+a.off) fun i v hi=>by
   have hin:i<n:=by
    have:=(A9.1 hi).1;omega
   rw[hr1,F4 hin,H9]at hi;obtain⟨v',g1,g2⟩:=h3 _ v hi;exact⟨v',by rw[show l.sh+a.off+i=l.sh+(a.off+i) by omega];exact g1,g2⟩
  refine⟨r',h4,h4.1▸hr2,fun j v' hj=>?_⟩
  have:=h5 j v' hj;simp[World.cell?,h2,show a.off+l.sh+j=l.sh+a.off+j by omega,this]
 ·cases hr
theorem J4.add_none'{b o i:Nat}:(Addr.mk b o none).add i=⟨b,o+i,none⟩:=by
 unfold Addr.add;split
 ·rename_i h;subst h;rfl
 ·rfl
theorem J4{b o:Nat}{r':List Value}{n:Nat}(hn:r'.length=n)(h:∀ (j:Nat) (v':Value),r'[j]? = some v'→w.cell? ⟨b,o+j,none⟩=some v'):(loadCells ⟨b,o,none⟩ n).run P w=.ok ⟨r'⟩ w:=by
 subst hn
 have:=run_loadCells_list (P:=P) w ⟨b,o,none⟩ r' (fun j v hj=>by rw[J4.add_none'];exact h j v hj);exact this
theorem A3u{a:Addr}{r':List Value}{n:Nat}(hn:r'.length=n)(h:∀ (j:Nat) (v':Value),r'[j]? = some v'→w.cell? (a.add j)=some v'):(loadCells a n).run P w=.ok ⟨r'⟩ w:=by
 subst hn;exact run_loadCells_list (P:=P) w a r' h
theorem d7:∀ (vs cs:List Value) (k:Nat),(A0l cs k vs).length=cs.length
 | [],_,_=>rfl
 | v::r,cs,k=>by rw[A0l,d7 r];simp
theorem B5A{cs cs':List Value}(h:LR ρ cs cs'):∀ {vs vs':List Value} {k:Nat},LR ρ vs vs'→LR ρ (A0l cs k vs) (A0l cs' k vs')
 | [],vs',k,hv=>by rw[hv.nil_inv];exact h
 | v::r,vs',k,hv=>by
   obtain⟨v',r',rfl,h1,h2⟩:=hv.tail;simp only[A0l];exact B5A (h.set h1 k) h2
theorem C1c{v v':Value}(h:VR ρ v v')(hf:flat v=true):A0K v'=true:=by
 cases h with
 | hole h _=>have:=A2Z h;cases v'<;>first|rfl|cases this
 | junk h=>exact h (A2 hf)
 | pure hp=>cases v<;>first|rfl|cases hf|cases hp
 | ixp h hs hi hz hv=>subst hv;rfl
 | sdt h=>exact h.flat
 | _=>first|assumption|exact hf|rfl
theorem B1Y:∀ {vs vs':List Value},LR ρ vs vs'→vs.all flat=true→vs'.all A0K=true
 | [],vs',h,_=>by rw[h.nil_inv];rfl
 | v::r,vs',h,hf=>by
   obtain⟨v',r',rfl,h1,h2⟩:=h.tail;simp only[A0f,I0]at hf ⊢;exact⟨C1c h1 hf.1,B1Y h2 hf.2⟩
theorem Z9{b o:Nat}{T:TypeId}{fz:Nat×Nat}:∀ (vs:List Value) (i:Nat) (C:Array Value) (w:World),w.heap[b]? = some (.cells C T fz)→vs.all A0K=true→o+i+vs.length≤C.size →
  (∀ i,i<C.size→¬ (fz.1≤i∧i<fz.2)) →
  ∃ w',(storeCells ⟨b,o,none⟩ vs i).run P w=.ok () w'∧(w'.os=w.os∧w'.tape=w.tape∧w'.output=w.output)∧w'.heap.size=w.heap.size∧w'.heap[b]? = some (.cells ⟨A0l C.toList (o+i) vs⟩ T fz)∧∀ k,k≠b→w'.heap[k]? = w.heap[k]?
 | [],i,C,w,h,_,_,_=>⟨w,rfl,⟨rfl,rfl,rfl⟩,rfl,h,fun _ _=>rfl⟩
 | v::r,i,C,w,h,h1,hl,hz=>by
   simp only[A0f,I0]at h1;simp only[A3]at hl;have hlt:o+i<C.size:=by omega
   have hb:(w.setCell ⟨b,o+i,none⟩ v).heap[b]? = some (.cells (C.setIfInBounds (o+i) v) T fz):=by
    simp[World.setCell,J0,h]
   obtain⟨w',hr,hs,hsz,hg,hk⟩:=Z9 (b:=b) (o:=o) (T:=T) (fz:=fz) r (i+1) (C.setIfInBounds (o+i) v) (w.setCell ⟨b,o+i,none⟩ v) hb h1.2 (by simp;omega) (by simpa using hz);refine⟨w',?_,?_,?_,?_,fun k hk'=>?_⟩
   ·have hc:w.cell? ⟨b,o+i,none⟩=some C[o+i]:=by simp[World.cell?,h,hlt]
    have hf:w.frozen? ⟨b,o+i,none⟩=false:=by
     have:=hz (o+i) hlt;simp only[World.frozen?,h];by_cases h1:fz.1≤o+i<;>by_cases h2:o+i<fz.2<;>simp[h1,h2]<;>exact absurd ⟨h1,h2⟩ this
    have hst:(store ((Addr.mk b o none).add i) v).run P w=.ok () (w.setCell ⟨b,o+i,none⟩ v):=by
     rw[J4.add_none'];unfold store;cases v<;>simp_all [Sem.run,A0K]
    unfold storeCells;simp only[Sem.run_bind,hst,Result.andThen];exact hr
   ·simpa [World.setCell]using hs
   ·rw[hsz];simp[World.setCell]
   ·rw[hg];have:(C.setIfInBounds (o+i) v).toList=C.toList.set (o+i) v:=by simp
    rw[this];simp[A0l,A0e]
   ·rw[hk k hk'];simp only[World.setCell,J0];rw[if_neg (fun e=>hk' e.symm)]
theorem A3l(vs:List Value):∀ (cs:List Value) (k i:Nat),k+vs.length≤cs.length→(A0l cs k vs)[i]? = if k≤i∧i<k+vs.length then vs[i-k]? else cs[i]? := by
 induction vs with
 | nil=>intro cs k i h;simp[A0l];intro h1 h2;omega
 | cons v r ih =>
   intro cs k i h;simp only[A3]at h ⊢;rw[A0l,ih (cs.set k v) (k+1) i (by simp;omega)];by_cases h1:k+1≤i∧i<k+1+r.length
   ·rw[if_pos h1,if_pos (by omega),show i-k=(i-(k+1))+1 by omega];rfl
   ·rw[if_neg h1];by_cases h2:i=k
    ·subst h2;rw[if_pos (by omega),A3I,X8 (by omega)];rfl
    ·rw[if_neg (by omega),A0u (fun e=>h2 e.symm)]
theorem A5d{a:Addr}{vs vs':List Value}{l:Loc}(h:HR P base ρ m.H w)(hw:A4z m a vs=some m')(hl:ρ a.block=some l)(hv:LR ρ vs vs') :
  ∃ w',(storeCells ⟨l.blk,a.off+l.sh,none⟩ vs').run P w=.ok () w'∧St P base ρ ρ m m' w w':=by
 unfold A4z at hw;split at hw
 ·rename_i cs T hspot hg;obtain⟨hc,hs⟩:=A5 hw;obtain⟨hc1,hc2⟩:=B9 hc;have hc1:=A1 hc1;rw[H5]at hs;obtain⟨⟨hon,C,fz,T',h2,h3,h4⟩,h5⟩:=h.atl hl hg;obtain⟨rfl,h6,h7⟩:=h4 rfl;have hlast:∀ i,i<cs.length→l.sh+i<C.size:=fun i hi=>by
   obtain⟨v',g,_⟩:=h3 i cs[i] (A6 hi);exact(D4.1 g).1
  have hlen:vs'.length=vs.length:=hv.1.symm;by_cases hz:vs.length=0
  ·have e1:vs=[]:=F6.1 hz;have e2:vs'=[]:=F6.1 (by omega);subst e1;subst e2;exact⟨w,rfl,St.write h hs hg rfl hl hon ⟨rfl,rfl,rfl⟩ rfl (fun _ _=>rfl) ⟨hon,C,fz,_,h2,by simpa [A0l]using h3,h4⟩⟩
  ·have hin:l.sh+(a.off+vs.length-1)<C.size:=hlast _ (by omega);obtain⟨w',hr,ho,hsz,hgb,hk⟩:=Z9 (P:=P) (b:=l.blk) (o:=a.off+l.sh) (fz:=fz) vs' 0 C w h2 (B1Y hv hc2) (by omega) h6;refine⟨w',hr,St.write h hs hg rfl hl hon ho hsz hk ⟨hon,_,fz,_,hgb,fun i v hi=>?_,fun _=>⟨rfl,by simpa [d7]using h6,by simpa [d7]using h7⟩⟩⟩;rw[A3l _ _ _ _ hc1]at hi;have hpos:C.toList.length=C.size:=by simp
   have hg2:∀ j,(A0l C.toList (a.off+l.sh+0) vs')[l.sh+j]? = if a.off≤j∧j<a.off+vs'.length then vs'[j-a.off]? else C.toList[l.sh+j]? := fun j=>by
    rw[A3l _ _ _ _ (by omega)];by_cases hj:a.off≤j∧j<a.off+vs'.length
    ·rw[if_pos hj,if_pos (by omega),show l.sh+j-(a.off+l.sh+0)=j-a.off by omega]
    ·rw[if_neg hj,if_neg (by omega)]
   show ∃ v',(Array.mk (A0l C.toList (a.off+l.sh+0) vs'))[l.sh+i]? = some v'∧_;simp only[I9,hg2];by_cases hj:a.off≤i∧i<a.off+vs.length
   ·rw[if_pos hj]at hi;rw[if_pos (by omega)];exact hv.get hi
   ·rw[if_neg hj]at hi;rw[if_neg (by omega)];obtain⟨v',g1,g2⟩:=h3 i v hi;exact⟨v',by simpa using g1,g2⟩
 ·cases hw
end
end Go.Sx
namespace Go.Sx
set_option linter.all false
open Go
set_option linter.unusedVariables false
set_option linter.unusedSimpArgs false
variable [Ora]
def VOk(P:Program)(base:Nat)(ρ:Ren)(m:Mem)(w:World)(s:Sem Value)(v:Value)(m':Mem):Prop :=
 ∃ v' ρ' w',s.run P w=.ok v' w'∧VR ρ' v v'∧St P base ρ ρ' m m' w w'
def UOk(P:Program)(base:Nat)(ρ:Ren)(m:Mem)(w:World)(s:Sem Unit)(m':Mem):Prop :=
 ∃ ρ' w',s.run P w=.ok () w'∧St P base ρ ρ' m m' w w'
section
variable {P:Program} {base:Nat} {ρ:Ren} {m m':Mem} {w:World}
theorem VOk.same{s:Sem Value}{v v':Value}(h:HR P base ρ m.H w)(hr:s.run P w=.ok v' w)(hv:VR ρ v v'):VOk P base ρ m w s v m:=⟨v',ρ,w,hr,hv,.refl h⟩
theorem A0n{b:Bool}{v':Value}(h:VR ρ (.bool b) v'):v'=.bool b:=by cases h;rfl
theorem I8{k:IntKind}{n:Int}{v':Value}(h:VR ρ (.int k n) v'):v'=.int k n:=by cases h;rfl
theorem W5{s:ByteArray}{v':Value}(h:VR ρ (.string s) v'):v'=.string s:=by cases h;rfl
theorem P4{a:Addr}{v':Value}(h:VR ρ (.pointer (some a)) v'):∃ l,ρ a.block=some l∧a.spot=none∧v'=.pointer (some ⟨l.blk,a.off+l.sh,none⟩):=by
 cases h with
 | pure hp=>simp[I2]at hp
 | ptr h=>exact⟨_,h,rfl,rfl⟩
theorem X6{cs:Array Value}{v':Value}(h:VR ρ (.agg cs) v'):∃ cs',v'=.agg ⟨cs'⟩∧LR ρ cs.toList cs':=by
 cases h with
 | pure hp=>simp[I2]at hp
 | agg ha h=>exact⟨_,rfl,ha,h⟩
theorem A6k{cs:Array Value}{v':Value}(h:VR ρ (.tuple cs) v'):∃ cs',v'=.tuple ⟨cs'⟩∧LR ρ cs.toList cs':=by
 cases h with
 | pure hp=>simp[I2]at hp
 | tuple ha h=>exact⟨_,rfl,ha,h⟩
theorem V7{t:TypeId}{i:TypeInfo}(h:P.info? t=some i)(w:World):(typeInfo t).run P w=.ok i w:=by simp[typeInfo,Sem.run_bind,run_program,Result.andThen,h]
theorem K5{t:TypeId}{n:Nat}(h:G3 P t=some n)(w:World):(sizeOf t).run P w=.ok n w:=by
 unfold G3 at h;split at h
 ·rename_i i hi
  have:=A8 h;subst this;simp[sizeOf,Sem.run_bind,V7 hi,Result.andThen]
 ·cases h
theorem D5{t:TypeId}{d:TypeDesc}(h:P.underlying t=some d)(w:World):(underlying t).run P w=.ok d w:=by simp[underlying,Sem.run_bind,run_program,Result.andThen,h]
theorem A0c{t:TypeId}{b:Bool}(h:A0T P t=some b)(w:World):(isAgg t).run P w=.ok b w:=by
 unfold A0T at h;cases hu:P.underlying t with
 | none=>rw[hu]at h;cases h
 | some d =>
   rw[hu]at h;simp only[isAgg,Sem.run_bind,D5 hu,Result.andThen];cases d<;>cases h<;>rfl
theorem B1x{t:TypeId}{z:Value}(h:A2W P t=some z):∃ i,P.info? t=some i∧i.zero=some z∧B2e z=true:=by
 unfold A2W at h;split at h
 ·rename_i i hi;split at h
  ·rename_i v hv;obtain⟨h1,h2⟩:=A5 h
   have:=A8 h2;subst this;exact⟨i,hi,hv,h1⟩
  ·cases h
 ·cases h
theorem A0j{t:TypeId}{z:Value}(h:A2W P t=some z)(w:World):(zeroValue t).run P w=.ok z w:=by
 obtain⟨i,hi,hz,_⟩:=B1x h;simp[zeroValue,Sem.run_bind,V7 hi,Result.andThen,hz]
theorem A5c{t:TypeId}{z:Value}(h:A2W P t=some z):LR ρ z.cells.toList z.cells.toList:=by
 obtain⟨i,hi,hz,hp⟩:=B1x h;exact(VR.ofC hp).cells (by cases z<;>first|rfl|cases hp)
theorem B2v{t:TypeId}{a:Addr}{v:Value}{l:Loc}(h:HR P base ρ m.H w)(hv:B5V P m t a=some v)(hl:ρ a.block=some l) :
  ∃ v',(loadVar t ⟨l.blk,a.off+l.sh,none⟩).run P w=.ok v' w∧VR ρ v v':=by
 unfold B5V at hv;split at hv
 ·rename_i ha;split at hv
  ·rename_i n hn;split at hv
   ·rename_i cs hr
    have:=A8 hv;subst this;obtain⟨r',h1,h2,h3⟩:=j9 h hr hl;refine⟨.agg ⟨r'⟩,?_,.agg h1.1 h1.2⟩;simp[loadVar,Sem.run_bind,A0c ha,K5 hn,Result.andThen,J4 h2 h3]
   ·cases hv
  ·cases hv
 ·rename_i ha;split at hv
  ·rename_i u r hr
   have:=A8 hv;subst this;obtain⟨r',h1,h2,h3⟩:=j9 h hr hl;obtain⟨v',r2,rfl,h4,_⟩:=h1.tail;refine⟨v',?_,h4⟩
   have:=h3 0 v' rfl;simp[loadVar,Sem.run_bind,A0c ha,Result.andThen,run_load,show w.cell? ⟨l.blk,a.off+l.sh,none⟩=some v' from by simpa using this]
  ·cases hv
 ·cases hv
theorem B6P{t:TypeId}{a:Addr}{v v':Value}{l:Loc}(h:HR P base ρ m.H w)(hs:A75 P m t a v=some m')(hl:ρ a.block=some l)(hv:VR ρ v v') :
  UOk P base ρ m w (storeVar t ⟨l.blk,a.off+l.sh,none⟩ v') m':=by
 unfold A75 at hs;split at hs
 ·rename_i n hn;obtain⟨h1,h2⟩:=A5 hs;obtain⟨h1,hj⟩:=B9 h1;have h1:=A2 h1;have hc:=hv.cells (by simpa using hj);obtain⟨w',hr,hst⟩:=A5d h h2 hl hc;refine⟨ρ,w',?_,hst⟩;have e:v'.cells.size=n:=by
   have:=hc.1;simp at this;omega
  simp[storeVar,Sem.run_bind,K5 hn,Result.andThen,e,hr]
 ·cases hs
theorem A2j{t:TypeId}{cs cs':List Value}{off:Nat}{v:Value}(h:A55 P t cs off=some v)(hc:LR ρ cs cs')(w:World):∃ v',(part t ⟨cs'⟩ off).run P w=.ok v' w∧VR ρ v v':=by
 unfold A55 at h;split at h
 ·rename_i ha;split at h
  ·rename_i n hn;split at h
   ·rename_i r hr
    have:=A8 h;subst this;obtain⟨h1,h2⟩:=A3E hr;have hlr:=(hc.drop off).take n;rw[← h1]at hlr;refine⟨.agg ⟨(cs'.drop off).take n⟩,?_,.agg hlr.1 hlr.2⟩;simp[part,Sem.run_bind,A0c ha,K5 hn,Result.andThen,List.extract]
   ·cases h
  ·cases h
 ·rename_i ha;obtain⟨v',h1,h2⟩:=hc.get h;refine⟨v',?_,h2⟩;simp[part,Sem.run_bind,A0c ha,Result.andThen,h1]
 ·cases h
set_option maxHeartbeats 1000000 in
theorem A9s{e:TypeId}{s:Nat}(h:G3 P e=some s):∃ i,P.info? e=some i∧i.size=s:=by
 unfold G3 at h;cases hi:P.info? e with
 | none=>rw[hi]at h;cases h
 | some i=>rw[hi]at h;exact⟨i,rfl,A8 h⟩
theorem A1k{d:Nat}{e:TypeId}{s:Nat}{xs ys:Array Value}:∀ (l:List Nat),Op.eqItems d e s xs ys l=Op.eqFields d xs ys (l.map (C1y e s))
 | []=>rfl
 | i::l=>by
   rw[F9,Op.eqItems,Op.eqFields,A1k l];have:(C1y e s i).name ≠ "_":=by show "x" ≠ "_";decide
   rw[if_pos this];rfl
set_option maxHeartbeats 2000000
mutual
theorem B1d:∀ (d:Nat) (t:TypeId) (x y x' y':Value) (b:Bool),eqM P d t x y=some b→VR ρ x x'→VR ρ y y'→∀ (n:Nat),d≤n→∀ w:World,(Op.equalIn n t x' y').run P w=.ok b w
 | 0,_,_,_,_,_,_,h,_,_,_,_,_=>by simp[eqM]at h
 | d+1,t,x,y,x',y',b,h,hx,hy,n,hn,w=>by
   obtain⟨n,rfl⟩:∃ k,n=k+1:=⟨n-1,by omega⟩;have hn':d≤n:=by omega
   unfold eqM at h;split at h
   ·rename_i hu;cases A0n hx;cases A0n hy;cases h;simp[Op.equalIn,Sem.run_bind,D5 hu,Result.andThen]
   ·rename_i hu;cases I8 hx;cases I8 hy;obtain⟨h1,h2⟩:=A5 h;cases h2;have h1:=of_decide_eq_true h1;simp[Op.equalIn,Sem.run_bind,D5 hu,Result.andThen,h1]
   ·rename_i hu;cases W5 hx;cases W5 hy;cases h;rw[← ByteArray.toList_eq,← ByteArray.toList_eq];exact run_equalIn_string (P:=P) w n t _ _ hu
   ·rename_i hu;cases h;cases hx with|pure _=>?_
    cases hy with
    | pure _=>rename_i p _;cases p<;>simp[Op.equalIn,Sem.run_bind,D5 hu,Result.andThen]
    | ptr h=>simp[Op.equalIn,Sem.run_bind,D5 hu,Result.andThen]
   ·rename_i hu;cases h;cases hy with|pure _=>?_
    obtain⟨l,_,_,rfl⟩:=P4 hx;simp[Op.equalIn,Sem.run_bind,D5 hu,Result.andThen]
   ·rename_i hu;cases h;cases hx;cases hy;simp[Op.equalIn,Sem.run_bind,D5 hu,Result.andThen]
   ·rename_i hu;cases h;cases hx;cases hy with
    | pure hp=>simp[I2]at hp
    | iface h=>simp[Op.equalIn,Sem.run_bind,D5 hu,Result.andThen]
   ·rename_i hu;cases h;cases hy;cases hx with
    | pure hp=>simp[I2]at hp
    | iface h=>simp[Op.equalIn,Sem.run_bind,D5 hu,Result.andThen]
   ·rename_i tx vx ty vy hu;cases hx with|pure hp=>simp[I2]at hp|iface hx=>?_
    cases hy with|pure hp=>simp[I2]at hp|iface hy=>?_
    cases ht:Nat.beq tx ty with
    | false =>
      rw[ht]at h;cases h;have:tx≠ty:=fun e=>by subst e;simp at ht
      simp[Op.equalIn,Sem.run_bind,D5 hu,Result.andThen,this]
    | true =>
      rw[ht]at h
      have:=A2 ht;subst this;simp only[cond_true]at h;split at h
      ·rename_i i hi;obtain⟨h1,h2⟩:=A5 h;have ih:=B1d d tx vx vy _ _ b h2 hx hy n hn' w;simp[Op.equalIn,Sem.run_bind,D5 hu,Result.andThen,V7 hi,h1,ih]
      ·cases h
   ·rename_i hu;cases h;cases hx with|pure _=>?_
    cases hy with
    | pure hp=>rename_i p _ _ _;cases p<;>simp[Op.equalIn,Sem.run_bind,D5 hu,Result.andThen]
    | sl h hm=>simp[Op.equalIn,Sem.run_bind,D5 hu,Result.andThen]
    | op h hm hn hc=>simp[Op.equalIn,Sem.run_bind,D5 hu,Result.andThen]
    | opE hs=>simp[Op.equalIn,Sem.run_bind,D5 hu,Result.andThen]
   ·rename_i hu;cases h;cases hy with|pure _=>?_
    cases hx with
    | pure hp=>simp[I2]at hp
    | sl h hm=>simp[Op.equalIn,Sem.run_bind,D5 hu,Result.andThen]
    | op h hm hn hc=>simp[Op.equalIn,Sem.run_bind,D5 hu,Result.andThen]
    | opE hs=>simp[Op.equalIn,Sem.run_bind,D5 hu,Result.andThen]
   ·rename_i hu;cases h;cases hx with|pure _=>?_
    cases hy with
    | pure _=>rename_i p _;cases p<;>simp[Op.equalIn,Sem.run_bind,D5 hu,Result.andThen]
    | map h=>simp[Op.equalIn,Sem.run_bind,D5 hu,Result.andThen]
   ·rename_i hu;cases h;cases hx;cases hy;simp[Op.equalIn,Sem.run_bind,D5 hu,Result.andThen]
   ·rename_i hu;cases h;cases hx;cases hy with
    | pure hp=>simp[I2]at hp
    | func _ _ _ _=>simp[Op.equalIn,Sem.run_bind,D5 hu,Result.andThen]
   ·rename_i hu;cases h;cases hy;cases hx with
    | pure hp=>simp[I2]at hp
    | func _ _ _ _=>simp[Op.equalIn,Sem.run_bind,D5 hu,Result.andThen]
   ·rename_i fs xs ys hu;cases hs:P.stoodInHeld t with
    | true=>rw[hs]at h;cases h
    | false =>
      rw[hs]at h;obtain⟨xs',rfl,hx1⟩:=X6 hx;obtain⟨ys',rfl,hy1⟩:=X6 hy;have hf:P.fieldsOf t=fs:=by simp[Program.fieldsOf,hu]
      rw[run_equalIn_struct (P:=P) w n t _ _ (by rw[hf];exact hu) hs,hf];exact B4g d fs.toList xs.toList ys.toList xs' ys' b h hx1 hy1 n hn' w
   ·rename_i k e xs ys hu;split at h
    ·rename_i s hs;obtain⟨xs',rfl,hx1⟩:=X6 hx;obtain⟨ys',rfl,hy1⟩:=X6 hy;obtain⟨i,hi,rfl⟩:=A9s hs;rw[run_equalIn_array (P:=P) (w:=w) n _ _ hu hi,show P.cellsOf e=i.size by simp[Program.cellsOf,hi],A1k];exact B4g d _ xs.toList ys.toList xs' ys' b h hx1 hy1 n hn' w
    ·cases h
   ·cases h
theorem B4g:∀ (d:Nat) (fs:List Field) (xs ys xs' ys':List Value) (b:Bool),eqF P d fs xs ys=some b→LR ρ xs xs'→LR ρ ys ys'→∀ (n:Nat),d≤n→∀ w:World,(Op.eqFields n ⟨xs'⟩ ⟨ys'⟩ fs).run P w=.ok b w
 | 0,_,_,_,_,_,_,h,_,_,_,_,_=>by simp[eqF]at h
 | d+1,[],_,_,_,_,_,h,_,_,_,_,_=>by
   simp only[eqF,C9]at h;subst h;simp[Op.eqFields]
 | d+1,f::fs,xs,ys,xs',ys',b,h,hx,hy,n,hn,w=>by
   unfold eqF at h;cases hnm:f.name == "_" with
   | true=>rw[hnm]at h;cases h
   | false =>
     rw[hnm]at h;simp only[cond_false]at h;have hn':f.name ≠ "_":=by simpa using hnm
     split at h
     ·rename_i x y h1 h2;obtain⟨x',g1,g2⟩:=A2j h1 hx w;obtain⟨y',g3,g4⟩:=A2j h2 hy w;split at h
      ·rename_i he;have ih:=B1d d f.type x y x' y' true he g2 g4 n (by omega) w;have ih2:=B4g d fs xs ys xs' ys' b h hx hy n (by omega) w;unfold Op.eqFields;rw[if_pos hn'];simp[Sem.run_bind,g1,g3,Result.andThen,ih,ih2]
      ·rename_i he;cases h;have ih:=B1d d f.type x y x' y' false he g2 g4 n (by omega) w;unfold Op.eqFields;rw[if_pos hn'];simp[Sem.run_bind,g1,g3,Result.andThen,ih]
      ·cases h
     ·cases h
end
end
end Go.Sx
namespace Go.Sx
set_option linter.all false
open Go
set_option linter.unusedVariables false
set_option linter.unusedSimpArgs false
theorem A5e(k:IntKind)(m:Nat)(h:m≤B3x k):k.wrap (.ofNat m)=.ofNat m:=by
 cases k<;>simp only[B3x]at h<;>simp only[IntKind.wrap,IntKind.bits,IntKind.signed,Nat.reduceSub]<;>simp<;>omega
theorem A3a(k:IntKind)(n:Int):A9i k n=k.wrap n:=by
 unfold A9i;cases n with
 | ofNat m =>
   simp only;cases h:Nat.ble m (B3x k)with
   | true=>rw[A5e k m (A1 h)];rfl
   | false=>rfl
 | negSucc m=>rfl
theorem B5_(a b:Int):C6W a b=a+b:=by cases a<;>cases b<;>rfl
theorem B5M(a b:Int):C5v a b=a*b:=by cases a<;>cases b<;>rfl
theorem B40(a b:Int):C4h a b=a-b:=by
 cases a<;>cases b<;>try rfl
 rename_i m n;simp only[C4h];cases h:Nat.ble n m with
 | true =>
   have:=A1 h;simp only[cond_true];show Int.ofNat (m-n)=_;have e:(Int.ofNat (m-n))=(m:Int)-(n:Int):=by simp[Int.ofNat_sub this]
   exact e
 | false=>rfl
theorem B4L(a b:Int):ltF a b=decide (a<b):=by
 cases a with
 | ofNat m=>cases b with
   | ofNat n =>
     simp only[ltF];rw[M0];simp[Nat.blt,A5b];omega
   | negSucc n=>simp only[ltF];symm;simp;omega
 | negSucc m=>cases b with
   | ofNat n=>simp only[ltF];symm;simp;omega
   | negSucc n =>
     simp only[ltF];rw[M0];simp[Nat.blt,A5b];omega
theorem B4R(a b:Int):leF a b=decide (a≤b):=by
 cases a with
 | ofNat m=>cases b with
   | ofNat n=>simp only[leF];rw[M0];simp[A5b]
   | negSucc n=>simp only[leF];symm;simp;omega
 | negSucc m=>cases b with
   | ofNat n=>simp only[leF];symm;simp;omega
   | negSucc n=>simp only[leF];rw[M0];simp[A5b];omega
theorem A2E(a b:Int):B1e a b=(a == b):=by
 cases a<;>cases b<;>simp only[B1e]<;>rw[M0]<;>simp
 omega
theorem A5w{k j:IntKind}(h:A9v k j=true):k=j:=by cases k<;>cases j<;>first|rfl|cases h
variable [Ora]
section
variable {P:Program} {base:Nat} {ρ:Ren} {m m':Mem} {w:World}
theorem A0D{op:BinOp}{k:IntKind}{a b:Int}{v:Value}(h:A9A op k a b=some v)(w:World):(Op.intBits op k a b).run P w=.ok v w∧I2 v=true:=by
 unfold A9A at h;split at h<;>cases h<;>exact⟨rfl,rfl⟩
theorem C1Y{op:BinOp}{k:IntKind}{a b:Int}{t:TypeId}{v:Value}(hs:A2_ op=none)(h:A3w op k a b=some v)(w:World):(binOp op t (.int k a) (.int k b)).run P w=.ok v w∧I2 v=true:=by
 unfold A3w at h;cases op<;>simp only[A2_]at hs<;>try cases hs
 all_goals simp only[y5,A3a,B5_,B40,B5M,B4L,B4R,A2E]at h
 case quo =>
  cases hb:(b == 0)<;>rw[hb]at h<;>cases h
  have:b≠0:=by simpa using hb
  exact⟨by simp[binOp,Op.intDiv,this],rfl⟩
 case rem =>
  cases hb:(b == 0)<;>rw[hb]at h<;>cases h
  have:b≠0:=by simpa using hb
  exact⟨by simp[binOp,Op.intDiv,this],rfl⟩
 case and=>exact⟨by simpa [binOp]using(A0D h w).1,(A0D (P:=P) h w).2⟩
 case or=>exact⟨by simpa [binOp]using(A0D h w).1,(A0D (P:=P) h w).2⟩
 case xor=>exact⟨by simpa [binOp]using(A0D h w).1,(A0D (P:=P) h w).2⟩
 case andNot=>exact⟨by simpa [binOp]using(A0D h w).1,(A0D (P:=P) h w).2⟩
 all_goals
  cases h;refine⟨?_,rfl⟩;simp only[binOp,Op.intCmp,Op.intArith,ne_eq,not_true,if_false];rfl
theorem B8m:∀ a b:List UInt8,ltL a b=Op.bytesLess a b
 | [],[]=>rfl
 | _::_,[]=>rfl
 | [],_::_=>rfl
 | a::x,b::y=>by simp[ltL,Op.bytesLess,B8m x y]
theorem B1n(a b:ByteArray):a++b=⟨⟨a.data.toList++b.data.toList⟩⟩:=by
 have h:(a++b).data=⟨a.data.toList++b.data.toList⟩:=by
  rw[ByteArray.data_append];apply I7;simp
 cases hab:a++b with
 | mk d=>rw[hab]at h;simp only at h;rw[h]
theorem C0m{op:BinOp}{a b:ByteArray}{t:TypeId}{v:Value}(h:C0n op a b=some v)(w:World):(binOp op t (.string a) (.string b)).run P w=.ok v w∧I2 v=true:=by
 unfold C0n at h;split at h
 ·obtain⟨h1,h2⟩:=A5 h;rw[H5]at h2;cases h2;refine⟨?_,rfl⟩;have h1:=A1 h1;have:¬ (((a.size+b.size:Nat):Int)>IntKind.i64.max):=by simp[IntKind.max,IntKind.bits,IntKind.signed];omega
  simp only[binOp,Op.stringOp,if_neg this,B1n];rfl
 all_goals first
  | (cases h;refine⟨?_,rfl⟩;simp only[binOp,Op.stringOp,ByteArray.toList_eq,B8m];rfl)
  | cases h
def A8A:Value→Bool
 | .int _ _|.bool _|.string _=>true
 | _=>false
theorem A4L{u:U}{v:Value}(h:toV u=some v):A8A v=true:=by cases u<;>cases h<;>rfl
def C1W:Value→Bool
 | .complex _ _ _=>true
 | .func (.yield _) _ _=>true
 | _=>false
theorem B9F{d:Nat}{t:TypeId}{a b:Value}{r:Bool}(h:eqM P d t a b=some r):C1W a=false∧C1W b=false:=by
 cases d with
 | zero=>simp[eqM]at h
 | succ d =>
   unfold eqM at h;split at h<;>first|exact⟨rfl,rfl⟩|cases h
theorem B6s{op:BinOp}{t:TypeId}{x y:Operand}{a b a' b':Value}(hg1:A3z P t x y a b=true)(ha:VR ρ a a')(hb:VR ρ b b')(w:World)(hop:op=.eql∨op=.neq):(eqGuard op t x y a' b').run P w=.ok () w:=by
 unfold eqGuard;rw[if_neg (by rcases hop with rfl|rfl<;>simp)];clear hop;unfold A3z at hg1;split at hg1
 ·cases ha;cases hb;simp only[I3]at hg1;rcases hg1 with hg|hg
  ·cases x<;>simp only[isC]at hg<;>first|rfl|cases hg
  ·cases y<;>simp only[isC]at hg<;>first|(cases x<;>rfl)|cases hg
 ·obtain⟨xs',rfl,_⟩:=X6 ha;obtain⟨ys',rfl,_⟩:=X6 hb;have hg:P.eqGuardType P.depth t=false:=by simpa using hg1
  simp[Sem.run_bind,run_program,Result.andThen,hg]
 ·rename_i hn1 hn2;obtain⟨hj1,hj2⟩:=B9 hg1;split
  ·exfalso;cases ha with
   | hole h _=>have:=A4L h;simp[A8A]at this
   | junk=>cases hj1
   | ixp _ _ _ _ hv=>cases hv
   | dat _ he ht h10 _=>obtain⟨_,_,_,q⟩:=he.slice (by omega);cases q
   | clp _ he ht h10 _ _=>obtain⟨_,_,_,q⟩:=he.slice (by omega);cases q
   | own h _ _=>rcases h with⟨_,_,_,_,_,q⟩|⟨_,_,_,_,_,_,_,_,q⟩<;>cases q
   | dpt h _ _=>obtain⟨_,_,_,_,_,_,_,_,_,_,_,_,_,q⟩:=h;cases q
   | opt h _ _=>obtain⟨_,_,_,_,_,_,_,_,_,_,q⟩:=h;cases q
   | sdt h=>obtain⟨_,_,⟨_,q⟩|⟨_,_,q,_⟩⟩:=h<;>cases q
   | pure _ =>
     cases hb with
     | hole h _=>have:=A4L h;simp[A8A]at this
     | junk=>cases hj2
     | ixp _ _ _ _ hv=>cases hv
     | dat _ he ht h10 _=>obtain⟨_,_,_,q⟩:=he.slice (by omega);cases q
     | clp _ he ht h10 _ _=>obtain⟨_,_,_,q⟩:=he.slice (by omega);cases q
     | own h _ _=>rcases h with⟨_,_,_,_,_,q⟩|⟨_,_,_,_,_,_,_,_,q⟩<;>cases q
     | dpt h _ _=>obtain⟨_,_,_,_,_,_,_,_,_,_,_,_,_,q⟩:=h;cases q
     | opt h _ _=>obtain⟨_,_,_,_,_,_,_,_,_,_,q⟩:=h;cases q
     | sdt h=>obtain⟨_,_,⟨_,q⟩|⟨_,_,q,_⟩⟩:=h<;>cases q
     | pure _=>exact hn1 rfl rfl
  ·exfalso;cases ha with
   | hole h _=>have:=A4L h;simp[A8A]at this
   | junk=>cases hj1
   | ixp _ _ _ _ hv=>cases hv
   | dat _ he ht h10 _=>obtain⟨_,_,_,q⟩:=he.slice (by omega);cases q
   | clp _ he ht h10 _ _=>obtain⟨_,_,_,q⟩:=he.slice (by omega);cases q
   | own h _ _=>rcases h with⟨_,_,_,_,_,q⟩|⟨_,_,_,_,_,_,_,_,q⟩<;>cases q
   | dpt h _ _=>obtain⟨_,_,_,_,_,_,_,_,_,_,_,_,_,q⟩:=h;cases q
   | opt h _ _=>obtain⟨_,_,_,_,_,_,_,_,_,_,q⟩:=h;cases q
   | sdt h=>obtain⟨_,_,⟨_,q⟩|⟨_,_,q,_⟩⟩:=h<;>cases q
   | pure h=>simp[I2]at h
   | agg _ _ =>
     cases hb with
     | hole h _=>have:=A4L h;simp[A8A]at this
     | junk=>cases hj2
     | ixp _ _ _ _ hv=>cases hv
     | dat _ he ht h10 _=>obtain⟨_,_,_,q⟩:=he.slice (by omega);cases q
     | clp _ he ht h10 _ _=>obtain⟨_,_,_,q⟩:=he.slice (by omega);cases q
     | own h _ _=>rcases h with⟨_,_,_,_,_,q⟩|⟨_,_,_,_,_,_,_,_,q⟩<;>cases q
     | dpt h _ _=>obtain⟨_,_,_,_,_,_,_,_,_,_,_,_,_,q⟩:=h;cases q
     | opt h _ _=>obtain⟨_,_,_,_,_,_,_,_,_,_,q⟩:=h;cases q
     | sdt h=>obtain⟨_,_,⟨_,q⟩|⟨_,_,q,_⟩⟩:=h<;>cases q
     | pure h=>simp[I2]at h
     | agg _ _=>exact hn2 _ _ rfl rfl
  ·rfl
theorem A6F{op:BinOp}{t:TypeId}{x y:Operand}{a b a' b':Value}(hg:A8l op=true→A3z P t x y a b=true)(ha:VR ρ a a')(hb:VR ρ b b')(w:World):(eqGuard op t x y a' b').run P w=.ok () w:=by
 cases hop:A8l op with
 | false =>
   unfold eqGuard;cases op<;>simp only[A8l]at hop<;>first|rfl|cases hop
 | true=>exact B6s (hg hop) ha hb w (by cases op<;>simp only[A8l]at hop<;>first|(exact .inl rfl)|(exact .inr rfl)|cases hop)
theorem C1h{t:TypeId}{a b a' b':Value}(ha:VR ρ a a')(hb:VR ρ b b')(hn1:∀ (k j:IntKind) (x y:Int),a=.int k x→b=.int j y→False)(hn2:∀ x y:ByteArray,a=.string x→b=.string y→False)(hc1:C1W a=false)(hc2:C1W b=false)(e:Bool) :
  binOp (bif e then .eql else .neq) t a' b'=(do let r ← Op.equal t a' b';pure (.bool (bif e then r else !r))):=by
 cases ha with
 | hole _ _=>cases hc1
 | junk=>cases hc1
 | ixp _ _ _ _ _=>cases hc1
 | dat _ _ _ _ _=>cases hc1
 | clp _ _ _ _ _ _=>cases hc1
 | own _ _ _=>cases hc1
 | dpt _ _ _=>cases hc1
 | opt _ _ _=>cases hc1
 | sdt _=>cases hc1
 | pure hp =>
   cases a<;>simp only[I2]at hp<;>try cases hp
   all_goals
    cases hb with
    | hole _ _=>cases hc2
    | junk=>cases hc2
    | ixp _ _ _ _ _=>cases hc2
    | dat _ _ _ _ _=>cases hc2
    | clp _ _ _ _ _ _=>cases hc2
    | own _ _ _=>cases hc2
    | dpt _ _ _=>cases hc2
    | opt _ _ _=>cases hc2
    | sdt _=>cases hc2
    | pure hq=>cases b<;>simp only[I2]at hq<;>first|(cases e<;>rfl)|(exfalso;exact hn1 _ _ _ _ rfl rfl)|(exfalso;exact hn2 _ _ rfl rfl)|cases hq
    | _=>cases e<;>rfl
 | _ =>
   cases hb with
   | hole _ _=>cases hc2
   | junk=>cases hc2
   | ixp _ _ _ _ _=>cases hc2
   | dat _ _ _ _ _=>cases hc2
   | clp _ _ _ _ _ _=>cases hc2
   | own _ _ _=>cases hc2
   | dpt _ _ _=>cases hc2
   | opt _ _ _=>cases hc2
   | sdt _=>cases hc2
   | pure hq=>cases b<;>simp only[I2]at hq<;>first|(cases e<;>rfl)|cases hq
   | _=>cases e<;>rfl
theorem A7u{op:BinOp}{t:TypeId}{a b a' b' v:Value}(h:A6P P op t a b=some v)(ha:VR ρ a a')(hb:VR ρ b b')(w:World):(binOp op t a' b').run P w=.ok v w∧I2 v=true:=by
 unfold A6P at h;split at h
 ·cases I8 ha;cases I8 hb;unfold A0J at h;split at h
  ·rename_i l hl;split at h
   ·rename_i n;cases h;unfold B39;cases op<;>simp only[A2_]at hl<;>cases hl
    ·refine⟨?_,by simp[y5,I2]⟩;simp[binOp,Op.shift,y5];intro h;omega
    ·refine⟨?_,by simp[y5,I2]⟩;simp[binOp,Op.shift,y5];intro h;omega
   ·cases h
  ·rename_i hl;obtain⟨h1,h2⟩:=A5 h;cases A5w h1;exact C1Y hl h2 w
 ·cases W5 ha;cases W5 hb;exact C0m h w
 ·rename_i hn1 hn2;unfold A94 at h;have he:∀ r,eqM P 20 t a b=some r→(Op.equal t a' b').run P w=.ok r w:=fun r hr=>B1d 20 t a b a' b' r hr ha hb _ (by decide) w
  have hq:=fun(r:Bool) (hr:eqM P 20 t a b=some r) e=>C1h (t:=t) ha hb (fun k j x y=>hn1 k x j y) (fun x y=>hn2 x y) (B9F hr).1 (B9F hr).2 e
  split at h
  ·split at h
   ·rename_i r hr;cases h;refine⟨?_,rfl⟩;have h3:=hq r hr true;simp only[cond_true]at h3;rw[h3];simp[Sem.run_bind,he r hr,Result.andThen]
   ·cases h
  ·split at h
   ·rename_i r hr;cases h;refine⟨?_,rfl⟩;have h3:=hq r hr false;simp only[cond_false]at h3;rw[h3];simp[Sem.run_bind,he r hr,Result.andThen]
   ·cases h
  ·cases h
end
end Go.Sx
namespace Go.Sx
set_option linter.all false
open Go
set_option linter.unusedVariables false
set_option linter.unusedSimpArgs false
variable [Ora]
section
variable {P:Program} {base:Nat} {ρ:Ren} {m m':Mem} {w:World}
theorem A1C(a:Addr)(n:Nat):A0Q a n=⟨a.block,a.off+n,none⟩:=by simp[A0Q,E6]
theorem Y3(b o i:Nat):(Addr.mk b o none).add i=⟨b,o+i,none⟩:=J4.add_none'
theorem A31{s:TypeId}{x x' v:Value}{i:Nat}(h:A0p P s x i=some v)(hx:VR ρ x x')(w:World):∃ v',(Instr.fieldAt s x' i).run P w=.ok v' w∧VR ρ v v':=by
 unfold A0p at h;split at h
 ·rename_i fs a hu;obtain⟨l,hl,hs,rfl⟩:=P4 hx;split at h
  ·rename_i f hf hs';split at h
   ·rename_i n hn;cases h;rw[A1C];refine⟨_,?_,.ptr hl⟩;have hf':fs[i]? = some f:=by simpa using hf
    have:=K5 hn w;simp[Instr.fieldAt,Sem.run_bind,D5 hu,Result.andThen,hf',Instr.sureAddr,fieldPlace,this,Y3]
   ·cases h
  ·cases h
 ·cases h
theorem B6v{t:TypeId}{x x' v:Value}{i:Nat}(h:B1Z P t x i=some v)(hx:VR ρ x x')(w:World):∃ v',(Instr.field t x' i).run P w=.ok v' w∧VR ρ v v':=by
 unfold B1Z at h;split at h
 ·rename_i fs cs hu;obtain⟨cs',rfl,hc⟩:=X6 hx;split at h
  ·rename_i f hf;obtain⟨v',h1,h2⟩:=A2j h hc w;have hf':fs[i]? = some f:=by simpa using hf
   refine⟨v',?_,h2⟩;simp[Instr.field,Sem.run_bind,D5 hu,Result.andThen,hf',asAgg,h1]
  ·cases h
 ·cases h
theorem A0o{t:TypeId}{x x' i i' v:Value}(h:Y0 P t x i=some v)(hx:VR ρ x x')(hi:VR ρ i i')(w:World):∃ v',(Instr.indexAt t x' i').run P w=.ok v' w∧VR ρ v v':=by
 unfold Y0 at h;split at h
 ·rename_i n e a k0 k hu;cases I8 hi;obtain⟨l,hl,hs,rfl⟩:=P4 hx;split at h
  ·rename_i s hn hs';obtain⟨h1,h2⟩:=A5 h;cases h2;have h1:k<n:=A1 h1;rw[A1C];refine⟨.pointer (some ⟨l.blk,a.off+k*s+l.sh,none⟩),?_,.ptr hl⟩;simp[Instr.indexAt,Sem.run_bind,D5 hu,Result.andThen,asIntOf,K5 hn,h1,Y3,Instr.sureAddr]
  ·cases h
 ·rename_i e a n c k0 k hu;cases I8 hi;split at h
  ·rename_i s hn hs';obtain⟨h1,h2⟩:=A5 h;cases h2;have h1:k<n:=A1 h1;rw[A1C];cases hx with
   | pure hp=>simp[I2]at hp
   | sl hl hm =>
     rename_i b o l;refine⟨.pointer (some ⟨l.blk,o+k*s+l.sh,none⟩),?_,.ptr hl⟩;simp[Instr.indexAt,Sem.run_bind,D5 hu,Result.andThen,asIntOf,K5 hn,h1,Y3]
   | op hl hm hn' hc =>
     rename_i b o l _;refine⟨.pointer (some ⟨l.blk,o+k*s+l.sh,none⟩),?_,.ptr hl⟩;simp[Instr.indexAt,Sem.run_bind,D5 hu,Result.andThen,asIntOf,K5 hn,h1,Y3]
   | opE hs=>omega
  ·cases h
 ·cases h
theorem A6l{t:TypeId}{x x' i i' v:Value}(h:A3x P t x i=some v)(hx:VR ρ x x')(hi:VR ρ i i')(w:World):∃ v',(Instr.index t x' i').run P w=.ok v' w∧VR ρ v v':=by
 unfold A3x at h;split at h
 ·rename_i n e cs k0 k hu;cases I8 hi;obtain⟨cs',rfl,hc⟩:=X6 hx;split at h
  ·rename_i s hn;obtain⟨h1,h2⟩:=A5 h;have h1:k<n:=A1 h1;obtain⟨v',h3,h4⟩:=A2j h2 hc w;refine⟨v',?_,h4⟩;simp[Instr.index,Sem.run_bind,D5 hu,Result.andThen,asIntOf,K5 hn,h1,h3]
  ·cases h
 ·rename_i s k0 k hu;cases I8 hi;cases W5 hx;split at h
  ·rename_i b hb;cases h;refine⟨_,?_,.pure rfl⟩;have hlt:k<s.size:=by
    have:=(A9.1 hb).1
    simpa using this
   have hg:s[k]? = some b:=by
    rw[getElem?_pos s k hlt]
    have:=(A9.1 hb).2;rw[← this];rfl
   simp[Instr.index,Sem.run_bind,D5 hu,Result.andThen,asIntOf,hg]
  ·cases h
 ·cases h
theorem B2m{x x' v:Value}{i:Nat}(h:A3n m x i=some (v,m'))(hx:VR ρ x x')(w:World):m'=m∧∃ v',(Instr.extract x' i).run P w=.ok v' w∧VR ρ v v':=by
 unfold A3n at h;split at h
 ·rename_i vs;obtain⟨cs',rfl,hc⟩:=A6k hx;unfold noM at h;split at h
  ·rename_i u hu;cases h;obtain⟨v',h1,h2⟩:=hc.get hu;exact⟨rfl,v',by simp[Instr.extract,h1],h2⟩
  ·cases h
 ·cases h
theorem B0S:∀ (vs:List Value) (off k:Nat) (C:Array Value),((vs.zipIdx k).foldl (fun(cs:Array Value) (x:Value×Nat)=>cs.setIfInBounds (off+x.2) x.1) C)=⟨A0l C.toList (off+k) vs⟩
 | [],off,k,C=>rfl
 | v::r,off,k,C=>by
   simp only[List.zipIdx_cons,List.foldl_cons];rw[B0S r off (k+1)];simp[A0l,A0e]
def PR(ρ:Ren):List (Nat×Value)→List (Nat×Value)→Prop
 | [],[]=>True
 | (i,v)::r,(j,v')::r'=>i=j∧VR ρ v v'∧PR ρ r r'
 | _,_=>False
theorem A6K{place:Nat→Option (Nat×Nat)}:∀ {parts parts':List (Nat×Value)} {cs cs' r:List Value},A8r place cs parts=some r→PR ρ parts parts'→LR ρ cs cs'→∃ r',Instr.fill place ⟨cs'⟩ parts'=some ⟨r'⟩∧LR ρ r r'
 | [],[],cs,cs',r,h,_,hc=>by
   simp only[A8r,C9]at h;subst h;exact⟨cs',rfl,hc⟩
 | [],_::_,_,_,_,_,hp,_=>hp.elim
 | _::_,[],_,_,_,_,hp,_=>hp.elim
 | (i,v)::rest,(j,v')::rest',cs,cs',r,h,⟨hij,hv,hp⟩,hc=>by
   subst hij;unfold A8r at h;split at h
   ·cases h
   ·rename_i off size hpl;obtain⟨h1,h2⟩:=A5 h;obtain⟨h3,h4⟩:=B9 h1;obtain⟨h3,hj⟩:=B9 h3;have h3:=A2 h3;have h4:=A1 h4;rw[H5]at h2;have hcv:=hv.cells (by simpa using hj);have hsz:v'.cells.size=v.cells.size:=by have:=hcv.1;simp at this;omega
    obtain⟨r',h5,h6⟩:=A6K h2 hp (B5A hc hcv);refine⟨r',?_,h6⟩;unfold Instr.fill;simp only[hpl];rw[if_neg]
    ·have:=B0S v'.cells.toList off 0 ⟨cs'⟩;have e:(v'.cells.zipIdx.foldl (fun(cs:Array Value) (x:Value×Nat)=>cs.setIfInBounds (off+x.2) x.1) ⟨cs'⟩)=⟨A0l cs' off v'.cells.toList⟩:=by
      rw[← Array.foldl_toList,Array.toList_zipIdx,this];rfl
     have e2:(Array.foldl (fun cs x=>match x with|(c,j)=>cs.setIfInBounds (off+j) c) ({ toList:=cs' }:Array Value) v'.cells.zipIdx)=⟨A0l cs' off v'.cells.toList⟩:=e;rw[e2];exact h5
    ·have:=hc.1;simp[hsz];constructor
     ·exact h3
     ·omega
theorem A8B:∀ (fs:List Field) (ps:List (Nat×Nat)),A54 P fs=some ps→∀ w:World,(fs.mapM (fun f=>do pure (f.offset,← sizeOf f.type):Field→Sem (Nat×Nat))).run P w=.ok ps w
 | [],ps,h,w=>by simp only[A54,C9]at h;subst h;rfl
 | f::r,ps,h,w=>by
   unfold A54 at h;split at h
   ·rename_i n l hn hl;cases h;have ih:=A8B r l hl w;simp only[List.mapM_cons,Sem.run_bind,K5 hn,Result.andThen,Sem.run_pure];rw[ih]
   ·cases h
theorem B64{t:TypeId}{parts parts':List (Nat×Value)}{v:Value}(h:B4l P t parts=some v)(hp:PR ρ parts parts')(w:World):∃ v',(Instr.build t ⟨parts'⟩).run P w=.ok v' w∧VR ρ v v':=by
 unfold B4l at h;split at h
 ·rename_i z fs hz hu;split at h
  ·rename_i ps hps;split at h
   ·rename_i cs hcs;cases h;obtain⟨r',h1,h2⟩:=A6K hcs hp (A5c hz);refine⟨.agg ⟨r'⟩,?_,.agg h2.1 h2.2⟩;have hm:(fs.mapM (fun f=>do pure (f.offset,← sizeOf f.type):Field→Sem (Nat×Nat))).run P w=.ok ps.toArray w:=by
     rw[A1v];show(Sem.bind (fs.toList.mapM (fun f=>do pure (f.offset,← sizeOf f.type):Field→Sem (Nat×Nat))) fun l=>Sem.pure l.toArray).run P w=_
     have:=A8B _ _ hps w;have hb:∀ (x:Sem (List (Nat×Nat))) (k:List (Nat×Nat)→Sem (Array (Nat×Nat))),(Sem.bind x k).run P w=(x >>= k).run P w:=fun _ _=>rfl
     rw[hb,Sem.run_bind,this];rfl
    have h1':Instr.fill (fun i=>ps[i]?) z.cells parts'=some ⟨r'⟩:=h1;unfold Instr.build;simp only[Sem.run_bind,A0j hz,D5 hu,Result.andThen,hm,I9];simp only[h1'];rfl
   ·cases h
  ·cases h
 ·rename_i z n e hz hu;split at h
  ·rename_i s hs;split at h
   ·rename_i cs hcs;cases h;obtain⟨r',h1,h2⟩:=A6K hcs hp (A5c hz);refine⟨.agg ⟨r'⟩,?_,.agg h2.1 h2.2⟩;have h1':Instr.fill (fun i=>some (i*s,s)) z.cells parts'=some ⟨r'⟩:=h1;simp[Instr.build,Sem.run_bind,A0j hz,D5 hu,Result.andThen,K5 hs,h1']
   ·cases h
  ·cases h
 ·cases h
end
end Go.Sx
namespace Go.Sx
set_option linter.all false
open Go
set_option linter.unusedVariables false
set_option linter.unusedSimpArgs false
variable [Ora]
def OR(ρ:Ren):Option Value→Option Value→Prop
 | none,none=>True
 | some v,some v'=>VR ρ v v'
 | _,_=>False
def Bd(o:Option Value)(top dflt k:Nat):Prop:=(o=none∧k=dflt)∨∃ j,o=some (.int j (.ofNat k))∧k≤top
section
variable {P:Program} {base:Nat} {ρ:Ren} {m m':Mem} {w:World}
theorem N4{o o':Option Value}{top dflt k:Nat}(h:U6 o top dflt=some k)(ho:OR ρ o o'):Bd o' top dflt k:=by
 unfold U6 at h;split at h
 ·cases h;cases o' with
  | none=>exact .inl ⟨rfl,rfl⟩
  | some _=>exact ho.elim
 ·obtain⟨h1,h2⟩:=A5 h;cases h2;cases o' with
  | none=>exact ho.elim
  | some v' =>
    have ho:VR ρ _ v':=ho;cases I8 ho;exact .inr ⟨_,rfl,A1 h1⟩
 ·cases h
theorem B6a{v:Value}{j:IntKind}{k y:Nat}{c:BoundsCode}(hv:v=.int j (.ofNat k))(h:k≤y)(w:World):(Instr.sliceBound v y c).run P w=.ok k w:=by
 subst hv;simp[Instr.sliceBound,Sem.run_bind,asIntOf,Result.andThen,h]
theorem A21{b:Bool}{len cap l h mm:Nat}{lo hi mx:Option Value}(h1:Bd mx cap cap mm)(h0:hi=none→mx=none)(h2:Bd hi mm len h)(h3:Bd lo h 0 l)(w:World) :
  (Instr.sliceBounds b len cap lo hi mx).run P w=.ok (l,h,mm) w:=by
 unfold Instr.sliceBounds;rcases h1 with⟨rfl,rfl⟩|⟨j,rfl,h1⟩<;>rcases h2 with⟨rfl,rfl⟩|⟨j2,rfl,h2⟩<;>rcases h3 with⟨rfl,rfl⟩|⟨j3,rfl,h3⟩
 all_goals first
  | (exfalso;have:=h0 rfl;cases this;done)
  | (simp only[Sem.run_bind,Sem.run_pure,Result.andThen];repeat (first|rw[B6a rfl ‹_›]|simp only[Result.andThen,Sem.run_bind,Sem.run_pure]));done
theorem VR.slice{a a':Addr}{n c c':Nat}(h:VR ρ (.slice (some a) n c) (.slice (some a') n c')):True:=trivial
theorem O8{a:Addr}{n c:Nat}{x':Value}(h:VR ρ (.slice (some a) n c) x') :
  (∃ l,ρ a.block=some l∧a.spot=none∧c<N0∧x'=.slice (some ⟨l.blk,a.off+l.sh,none⟩) n c) ∨
  (∃ l c',ρ a.block=some l∧a.spot=none∧N0≤c∧n≤c'∧(c=N0→a.off=0→c'=l.cap)∧x'=.slice (some ⟨l.blk,a.off+l.sh,none⟩) n c') ∨
  (∃ a' c',a'.spot=none∧n=0∧c=N0+2∧x'=.slice (some a') 0 c'):=by
 cases h with
 | pure hp=>simp[I2]at hp
 | sl hl hm=>exact .inl ⟨_,hl,rfl,hm,rfl⟩
 | op hl hm hn hc=>exact .inr (.inl ⟨_,_,hl,rfl,hm,hn,hc,rfl⟩)
 | opE hs=>exact .inr (.inr ⟨_,_,hs,rfl,rfl,rfl⟩)
theorem P6{n c:Nat}{x':Value}(h:VR ρ (.slice none n c) x'):x'=.slice none n c:=by cases h;rfl
theorem OR.none_iff{o o':Option Value}(h:OR ρ o o'):o=none↔o'=none:=by
 cases o<;>cases o'<;>simp_all [OR]
theorem A65{t e:TypeId}{s n c l h mm:Nat}{a:Option Addr}{lo hi mx:Option Value}(hu:P.underlying t=some (.slice e))(hs:G3 P e=some s)(h1:Bd mx c c mm)(h0:hi=none→mx=none)(h2:Bd hi mm n h)(h3:Bd lo h 0 l)(w:World) :
  (Instr.sliceAt t (.slice a n c) lo hi mx).run P w=.ok (.slice (if mm=l then a else a.map (·.add (l*s))) (h-l) (mm-l)) w:=by
 have:=A21 (P:=P) (b:=true) h1 h0 h2 h3 w;simp[Instr.sliceAt,Instr.slice,Sem.run_bind,D5 hu,Result.andThen,this,K5 hs]
theorem A2S(s:ByteArray)(l h:Nat):s.extract l h=⟨⟨(s.data.toList.drop l).take (h-l)⟩⟩:=by
 have h1:(s.extract l h).data=⟨(s.data.toList.drop l).take (h-l)⟩:=by
  rw[ByteArray.data_extract];apply I7;simp[List.extract]
 cases hab:s.extract l h with
 | mk d=>rw[hab]at h1;simp only at h1;rw[h1]
theorem A2c{t:TypeId}{x x' v:Value}{lo hi mx lo' hi' mx':Option Value}(h:A0x P t x lo hi mx=some v)(hx:VR ρ x x')(hlo:OR ρ lo lo')(hhi:OR ρ hi hi')(hmx:OR ρ mx mx')(w:World) :
  ∃ v',(Instr.sliceAt t x' lo' hi' mx').run P w=.ok v' w∧VR ρ v v':=by
 unfold A0x at h;split at h
 ·
  rename_i s hu;cases W5 hx;split at h
  ·rename_i hh h2;split at h
   ·rename_i l h3;cases h;refine⟨_,?_,.pure rfl⟩;have hm:mx'=none:=hmx.none_iff.1 rfl;subst hm
    have:=A21 (P:=P) (b:=false) (len:=s.size) (cap:=s.size) (mx:=none) (.inl ⟨rfl,rfl⟩) (fun _=>rfl) (N4 h2 hhi) (N4 h3 hlo) w;simp[Instr.sliceAt,Instr.slice,Sem.run_bind,D5 hu,Result.andThen,this,A2S]
   ·cases h
  ·cases h
 ·
  rename_i e n c hu;cases P6 hx;split at h
  ·rename_i h1 h2 h3;obtain⟨h4,h5⟩:=(by
    cases hq:(mx.isSome && hi.isNone) || (G3 P e).isNone with
    | true=>rw[hq]at h;cases h
    | false=>rw[hq]at h;exact⟨rfl,h⟩:((mx.isSome && hi.isNone) || (G3 P e).isNone)=false∧some (Value.slice none 0 0)=some v)
   cases h5;simp only[V5]at h4;obtain⟨h4,h6⟩:=h4;refine⟨.slice none 0 0,?_,.pure rfl⟩;have hk1:=N4 h1 hmx;have hk2:=N4 h2 hhi;have hk3:=N4 h3 hlo;have z:∀ {o:Option Value} {k:Nat},Bd o 0 0 k→k=0:=fun hb=>by rcases hb with⟨_,rfl⟩|⟨_,_,hb⟩<;>omega
   have z1:=z hk1;have z2:=z hk2;have z3:=z hk3;subst z1;subst z2;subst z3;have h0:hi'=none→mx'=none:=fun hn=>by
    have e1:=(hhi.none_iff).2 hn;subst e1;cases mx with
    | none=>exact hmx.none_iff.1 rfl
    | some _=>simp at h4
   obtain⟨s,hs⟩:∃ s,G3 P e=some s:=by cases hq:G3 P e with|none=>rw[hq]at h6;cases h6|some s=>exact⟨s,rfl⟩
   have:=A21 (P:=P) (b:=true) hk1 h0 hk2 hk3 w;simp[Instr.sliceAt,Instr.slice,Sem.run_bind,D5 hu,Result.andThen,this,K5 hs]
  ·cases h
 ·
  rename_i e a n c hu;split at h
  ·rename_i s hs hspot;have hfin:∀ (c' l hh mm:Nat) (a':Addr),Bd mx' c' c' mm→(hi'=none→mx'=none)→Bd hi' mm n hh→Bd lo' hh 0 l→(Instr.sliceAt t (.slice (some a') n c') lo' hi' mx').run P w=.ok (.slice (if mm=l then some a' else(some a').map (·.add (l*s))) (hh-l) (mm-l)) w :=
    fun c' l hh mm a' h1 h0 h2 h3=>A65 hu hs h1 h0 h2 h3 w
   have hmove:∀ (l mm:Nat) (lc:Loc),ρ a.block=some lc→(if mm=l then some (Addr.mk lc.blk (a.off+lc.sh) none)else(some (Addr.mk lc.blk (a.off+lc.sh) none)).map (·.add (l*s)))=some ⟨lc.blk,(bif Nat.beq mm l then a else A0Q a (l*s)).off+lc.sh,none⟩∧(bif Nat.beq mm l then a else A0Q a (l*s)).block=a.block∧((bif Nat.beq mm l then a else A0Q a (l*s)).spot=none):=fun l mm lc hlc=>by
    by_cases e1:mm=l
    ·subst e1;simp[hspot]
    ·have:Nat.beq mm l=false:=by cases hb:Nat.beq mm l with|false=>rfl|true=>exact absurd (A2 hb) e1
     simp[this,e1,A1C,Y3]
   cases hc:Nat.blt c N0 with
   | true =>
     have hc':c<N0:=A1 hc;rw[hc]at h;simp only[cond_true]at h;rcases O8 hx with⟨lc,hl,_,_,rfl⟩|⟨lc,c',_,_,ho,_⟩|⟨a',c',_,_,rfl,_⟩
     ·split at h
      ·rename_i mm h1;split at h
       ·rename_i hh h2;split at h
        ·rename_i l h3;cases h;have hb1:=N4 h1 hmx;have h0:hi'=none→mx'=none:=fun hn=>by
          have e1:=(hhi.none_iff).2 hn;subst e1;cases mx with
          | none=>exact hmx.none_iff.1 rfl
          | some _=>cases h2
         have hb2:Bd hi' mm n hh:=by
          cases hi with
          | none=>cases mx with
            | none=>exact N4 h2 hhi
            | some _=>cases h2
          | some _=>cases mx<;>exact N4 h2 hhi
         refine⟨_,hfin c l hh mm _ hb1 h0 hb2 (N4 h3 hlo),?_⟩;obtain⟨g1,g2,g3⟩:=hmove l mm lc hl;rw[g1];have hmc:mm≤c:=by rcases hb1 with⟨_,rfl⟩|⟨_,_,hb⟩<;>omega
         generalize hA:(bif Nat.beq mm l then a else A0Q a (l*s))=A at g2 g3 ⊢;obtain⟨ab,ao,asp⟩:=A;simp only at g2 g3;subst g3;exact .sl (by rw[g2];exact hl) (by omega)
        ·cases h
       ·cases h
      ·cases h
     ·omega
     ·omega
   | false =>
     have hc':N0≤c:=by
      rcases F7 c N0 with hlt|hge
      ·rw[show Nat.blt c N0=true from C3 hlt]at hc;cases hc
      ·exact hge
     rw[hc]at h;simp only[cond_false]at h;split at h
     ·rename_i mv;split at h
      ·rename_i hv mm h1;obtain⟨g0,h⟩:=A5 h;obtain⟨g01,g02⟩:=B9 g0;have g01:mm<N0:=A1 g01;have g02:=A1 g02;split at h
       ·rename_i hh h2;split at h
        ·rename_i l h3;cases h;rcases O8 hx with⟨_,_,_,hlt,_⟩|⟨lc,c',hl,_,_,hn,_,rfl⟩|⟨a',c',_,_,he,_⟩
         ·omega
         ·have hb1:=N4 h1 hmx;have hb1':Bd mx' c' c' mm:=by
           rcases hb1 with⟨hh1,_⟩|⟨j,hj,hb⟩
           ·have:=(hmx.none_iff).2 hh1;cases this
           ·exact .inr ⟨j,hj,by omega⟩
          refine⟨_,hfin c' l hh mm _ hb1' (fun hn=>by have:=(hhi.none_iff).2 hn;cases this) (N4 h2 hhi) (N4 h3 hlo),?_⟩;obtain⟨g1,g2,g3⟩:=hmove l mm lc hl;rw[g1];generalize hA:(bif Nat.beq mm l then a else A0Q a (l*s))=A at g2 g3 ⊢;obtain⟨ab,ao,asp⟩:=A;simp only at g2 g3;subst g3;exact .sl (by rw[g2];exact hl) (by omega)
         ·omega
        ·cases h
       ·cases h
      ·cases h
     ·have hm:mx'=none:=hmx.none_iff.1 rfl;subst hm;split at h
      ·rename_i hh h1;have hb2:=N4 h1 hhi;have hhn:hh≤n:=by rcases hb2 with⟨_,rfl⟩|⟨_,_,hb⟩<;>omega
       have up:∀ c',n≤c'→Bd hi' c' n hh:=fun c' hc=>by
        rcases hb2 with hb|⟨j,hj,hb⟩
        ·exact .inl hb
        ·exact .inr ⟨j,hj,by omega⟩
       split at h
       ·rename_i h3;cases h;have hb3:=N4 h3 hlo;rcases O8 hx with⟨_,_,_,hlt,_⟩|⟨lc,c',hl,_,_,hn,hcap,rfl⟩|⟨a',c',ha',rfl,rfl,rfl⟩
        ·omega
        ·refine⟨_,hfin c' 0 hh c' _ (.inl ⟨rfl,rfl⟩) (fun _=>rfl) (up c' hn) hb3,?_⟩;have:(if c'=0 then some (Addr.mk lc.blk (a.off+lc.sh) none)else(some (Addr.mk lc.blk (a.off+lc.sh) none)).map (·.add (0*s)))=some (Addr.mk lc.blk (a.off+lc.sh) none):=by
          simp[Y3]
         rw[this];obtain⟨ab,ao,asp⟩:=a;simp only at hspot;subst hspot;exact .op hl hc' (by omega) hcap
        ·have hh0:hh=0:=by omega
         subst hh0;refine⟨_,hfin c' 0 0 c' _ (.inl ⟨rfl,rfl⟩) (fun _=>rfl) (up c' (A4I _)) hb3,?_⟩;have:(if c'=0 then some a' else(some a').map (·.add (0*s)))=some a':=by simp[Addr.add]
         rw[this];exact .opE ha'
       ·rename_i l h3;have hb3:=N4 h3 hlo;have hlh:l+1≤hh:=by rcases hb3 with⟨_,hb⟩|⟨_,_,hb⟩<;>omega
        rcases O8 hx with⟨_,_,_,hlt,_⟩|⟨lc,c',hl,_,_,hn,hcap,rfl⟩|⟨a',c',ha',rfl,rfl,rfl⟩
        ·omega
        ·have hf:=hfin c' (l+1) hh c' ⟨lc.blk,a.off+lc.sh,none⟩ (.inl ⟨rfl,rfl⟩) (fun _=>rfl) (up c' hn) hb3;cases hq:Nat.blt (l+1) n with
         | true =>
           have hq':l+1<n:=A1 hq;simp only[hq,cond_true]at h;cases h;refine⟨_,hf,?_⟩;rw[if_neg (by omega),A1C];simp only[P0,Y3];rw[show a.off+lc.sh+(l+1)*s=a.off+(l+1)*s+lc.sh by omega];exact .op hl (by unfold N0;omega) (by omega) (fun e=>by unfold N0 at e;omega)
         | false =>
           have hq':¬ l+1<n:=fun hlt=>by rw[show Nat.blt (l+1) n=true from C3 hlt]at hq;cases hq
           simp only[hq,cond_false]at h;cases h;refine⟨_,hf,?_⟩;have e1:hh-(l+1)=0:=by omega
           rw[e1];by_cases e2:c'=l+1
           ·rw[if_pos e2];exact .opE rfl
           ·rw[if_neg e2];simp only[P0,Y3];exact .opE rfl
        ·omega
       ·cases h
      ·cases h
  ·cases h
 ·
  rename_i n e a hu;obtain⟨lc,hl,hsp,rfl⟩:=P4 hx;split at h
  ·rename_i s hs hspot;split at h
   ·rename_i hh h2;split at h
    ·rename_i l h3;obtain⟨hn0,h⟩:=A5 h;have hn0:n<N0:=A1 hn0;cases h;have hm:mx'=none:=hmx.none_iff.1 rfl;subst hm;have hr:=A21 (P:=P) (b:=false) (len:=n) (cap:=n) (mx:=none) (.inl ⟨rfl,rfl⟩) (fun _=>rfl) (N4 h2 hhi) (N4 h3 hlo) w;refine⟨.slice (some ⟨lc.blk,(bif Nat.beq n l then a else A0Q a (l*s)).off+lc.sh,none⟩) (hh-l) (n-l),?_,?_⟩
     ·by_cases e1:n=l
      ·subst e1;simp[Instr.sliceAt,Sem.run_bind,D5 hu,Result.andThen,hr,K5 hs,Instr.sureAddr]
      ·have hq:Nat.beq n l=false:=by cases hb:Nat.beq n l with|false=>rfl|true=>exact absurd (A2 hb) e1
       simp[Instr.sliceAt,Sem.run_bind,D5 hu,Result.andThen,hr,K5 hs,Instr.sureAddr,e1,hq,A1C,Y3]
     ·have hn:n-l<N0:=by omega
      have g2:(bif Nat.beq n l then a else A0Q a (l*s)).block=a.block:=by cases Nat.beq n l<;>simp[A1C]
      have g3:(bif Nat.beq n l then a else A0Q a (l*s)).spot=none:=by cases Nat.beq n l<;>simp[A1C,hsp]
      generalize hA:(bif Nat.beq n l then a else A0Q a (l*s))=A at g2 g3 ⊢;obtain⟨ab,ao,asp⟩:=A;simp only at g2 g3;subst g3;exact .sl (by rw[g2];exact hl) hn
    ·cases h
   ·cases h
  ·cases h
 ·cases h
end
end Go.Sx
namespace Go.Sx
set_option linter.all false
open Go
set_option linter.unusedVariables false
set_option linter.unusedSimpArgs false
variable [Ora]
section
variable {P:Program} {base:Nat} {ρ:Ren} {m m':Mem} {w:World}
theorem A1I{cs cs':List Value}{C:Array Value}{e:TypeId}{v:Value}{k:Nat→Value}{cap:Nat}{fz:Nat×Nat}{wd:World}(h:HR P base ρ m.H w)(hb:base≤w.heap.size)(hn:m9 m (.cells cs e false) k=some (v,m'))(hf:K2 ρ m.n m'.hi)
  (hc:LR ρ cs cs') (hC:∀ (i:Nat) (v:Value),cs'[i]? = some v→C[i]? = some v) (hfz:∀ i,i<C.size→¬ (fz.1≤i∧i<fz.2)) (hcap:∀ inf,P.info? e=some inf→cap*inf.size≤C.size)
  (hd:wd.os=w.os∧wd.tape=w.tape∧wd.output=w.output) (hh:wd.heap=w.heap) :
  v=k m.n∧upd ρ m.n (lc w.heap.size 0 cap) m.n=some (lc w.heap.size 0 cap)∧St P base ρ (upd ρ m.n (lc w.heap.size 0 cap)) m m' w { wd with heap:=wd.heap.push (.cells C e fz) }:=by
 have hfree:ρ m.n=none:=by
  obtain⟨_,_,rfl⟩:=M5 hn;exact hf m.n (A7 _) (K7 _ _).2
 refine St.alloc (o:=.cells C e fz) h hb hn hf hd (by simp[hh]) rfl ⟨rfl,C,fz,e,by simp[hh],fun i u hi=>?_,fun _=>⟨rfl,hfz,fun inf hi=>⟨by have:=hcap inf hi;simpa using this,Nat.zero_mod _⟩⟩⟩;obtain⟨u',h1,h2⟩:=hc.get hi;exact⟨u',by rw[E8];exact hC i u' h1,h2.mono (Z0 hfree)⟩
theorem A27{cs cs':List Value}{e:TypeId}{v:Value}{k:Nat→Value}(h:HR P base ρ m.H w)(hb:base≤w.heap.size)(hn:m9 m (.cells cs e false) k=some (v,m'))(hf:K2 ρ m.n m'.hi)(hc:LR ρ cs cs') :
  v=k m.n∧upd ρ m.n (lc w.heap.size 0 0) m.n=some (lc w.heap.size 0 0)∧St P base ρ (upd ρ m.n (lc w.heap.size 0 0)) m m' w { w with heap:=w.heap.push (.cells ⟨cs'⟩ e (0,0)) } :=
 A1I (wd:=w) h hb hn hf hc (fun i v hi=>by simpa using hi) (fun i _ hh=>by have h1:0≤i:=hh.1;have h2:i<0:=hh.2;omega) (fun inf _=>by simp) ⟨rfl,rfl,rfl⟩ rfl
theorem B6n{e:TypeId}{v:Value}(h:HR P base ρ m.H w)(hb:base≤w.heap.size)(ho:B1F P m e=some (v,m'))(hf:K2 ρ m.n m'.hi):VOk P base ρ m w (Instr.alloc e true (.tuple #[])) v m':=by
 unfold B1F at ho;split at ho
 ·rename_i z hz;obtain⟨h1,h2,h3⟩:=A27 h hb ho hf (A5c hz);refine⟨.pointer (some ⟨w.heap.size,0,none⟩),_,_,?_,?_,h3⟩
  ·simp[Instr.alloc,newVar,newRow,Sem.run_bind,A0j hz,Result.andThen,newObj,Sem.run]
  ·rw[h1];exact .ptr h2
 ·cases ho
theorem C1A{e:TypeId}{x x' v:Value}(h:HR P base ρ m.H w)(hb:base≤w.heap.size)(ho:B8a m e x=some (v,m'))(hf:K2 ρ m.n m'.hi)(hx:VR ρ x x'):VOk P base ρ m w (Instr.box e x') v m':=by
 unfold B8a at ho;obtain⟨hfl,ho⟩:=A5 ho;obtain⟨h1,h2,h3⟩:=A27 h hb ho hf (hx.cells (by
  cases hq:A29 x with
  | false=>rfl
  | true =>
    unfold A29 at hq;split at hq
    ·exfalso;simp only[Value.cells]at hfl;simp[flat]at hfl;simp[hfl]at hq
    ·cases hq))
 refine⟨.pointer (some ⟨w.heap.size,0,none⟩),_,_,?_,?_,h3⟩
 ·simp[Instr.box,newVar,newRow,Sem.run_bind,Result.andThen,newObj,Sem.run]
 ·rw[h1];exact .ptr h2
theorem B2W(z:List Value)(hz:z≠[]):∀ (n i:Nat),(B2X z n)[i]? = if i<n*z.length then z[i%z.length]? else none
 | 0,i=>by simp[B2X]
 | n+1,i=>by
   have hpos:0<z.length:=List.length_pos_iff.2 hz;rw[B2X];by_cases h:i<z.length
   ·rw[E7 h,if_pos (by rw[Nat.succ_mul];omega),A0X h]
   ·rw[E5 (by omega),B2W z hz n,Nat.succ_mul];have e:(i-z.length)%z.length=i%z.length:=by rw[← Nat.mod_eq_sub_mod (by omega)]
    by_cases h2:i-z.length<n*z.length
    ·rw[if_pos h2,if_pos (by omega),e]
    ·rw[if_neg h2,if_neg (by omega)]
theorem B6F{z:Array Value}{n s:Nat}(hz:z.size=s)(hs:n*s≠0):(Array.range (n*s)).map (z[· % z.size]!)=⟨B2X z.toList n⟩:=by
 have hne:z.toList≠[]:=by
  intro e;have:z.size=0:=by simpa using congrArg List.length e
  rw[hz]at this;subst this;simp at hs
 apply I7;apply List.ext_getElem?;intro i;rw[B2W _ hne];simp only[Array.toList_map,Array.toList_range,H8];have hl:z.toList.length=s:=by simpa using hz
 rw[hl];by_cases h:i<n*s
 ·rw[if_pos h,List.getElem?_range h];have hpos:0<s:=by
   rcases T8 s with h0|h0
   ·subst h0;simp at hs
   ·exact h0
  have hm:i%s<z.size:=by rw[hz];exact A5a _ hpos
  simp[hz,getElem!_pos z (i%s) hm,A6 (show i%s<z.toList.length by simpa using hm)]
 ·rw[if_neg h];simp;omega
theorem A9g{e:TypeId}{n s:Nat}{zs:List Value}(hs:G3 P e=some s)(h:B0p P e n=some zs) :
  ((n*s=0∧zs=[])∨(n*s≠0∧∃ z:Value,(∀ w,(zeroValue e).run P w=.ok z w)∧(Array.range (n*s)).map (z.cells[· % z.cells.size]!)=⟨zs⟩))∧LR ρ zs zs:=by
 unfold B0p at h;rw[hs]at h;simp only at h;cases hq:Nat.beq (n*s) 0 with
 | true =>
   rw[hq]at h;simp only[cond_true,C9]at h;subst h;exact⟨.inl ⟨A2 hq,rfl⟩,.nil⟩
 | false =>
   rw[hq]at h;simp only[cond_false]at h;have hq':n*s≠0:=fun e=>by rw[e]at hq;cases hq
   split at h
   ·rename_i z hz;obtain⟨h1,h2⟩:=A5 h;cases h2;have h1:=A2 h1;refine⟨.inr ⟨hq',z,fun w=>A0j hz w,B6F h1 hq'⟩,?_⟩;have hall:∀ l:List Value,LR ρ l l→∀ n,LR ρ (B2X l n) (B2X l n):=fun l hl n=>by
     induction n with
     | zero=>exact .nil
     | succ n ih=>exact hl.append ih
    exact hall _ (A5c hz) n
   ·cases h
theorem A89{t:TypeId}{n:Nat}{parts parts':List (Nat×Value)}{v:Value}(h:HR P base ρ m.H w)(hb:base≤w.heap.size)(ho:A0s P m t n parts=some (v,m'))(hf:K2 ρ m.n m'.hi)(hp:PR ρ parts parts') :
  VOk P base ρ m w (Instr.buildSlice t n ⟨parts'⟩) v m':=by
 unfold A0s at ho;split at ho
 ·rename_i e hu;split at ho
  ·rename_i s zs hs hz;obtain⟨h1,ho⟩:=A5 ho;obtain⟨h1,h1o⟩:=B9 h1;have h1:=A1 h1;have h1o:n<N0:=A1 h1o;split at ho
   ·rename_i cs hcs;obtain⟨hzz,hzl⟩:=A9g (ρ:=ρ) hs hz;obtain⟨r',h2,h3⟩:=A6K hcs hp hzl;obtain⟨g1,g2,g3⟩:=A27 h hb ho hf h3;refine⟨.slice (some ⟨w.heap.size,0,none⟩) n n,_,_,?_,?_,g3⟩
    ·unfold Instr.buildSlice;simp only[Sem.run_bind,D5 hu,K5 hs,Result.andThen];rw[if_neg (by omega)];have h2':Instr.fill (fun i=>some (i*s,s)) ⟨zs⟩ parts'=some ⟨r'⟩:=h2;rcases hzz with⟨hq,rfl⟩|⟨hq,z,hzr,hza⟩
     ·have e0:∀ z:Array Value,Array.map (fun x=>z[x%z.size]!) (Array.range (n*s))=⟨[]⟩:=fun z=>by rw[hq];apply I7;simp
      simp only[if_pos hq,e0,h2'];rfl
     ·simp only[if_neg hq,Sem.run_bind,Sem.run_pure,Result.andThen,hzr,hza,h2'];rfl
    ·rw[g1];exact .sl g2 h1o
   ·cases ho
  ·cases ho
 ·cases ho
theorem A9Z{t:TypeId}{l c l' c' v:Value}(h:HR P base ρ m.H w)(hb:base≤w.heap.size)(ho:A1c P m t l c=some (v,m'))(hf:K2 ρ m.n m'.hi)(hl:VR ρ l l')(hc:VR ρ c c') :
  VOk P base ρ m w (Instr.makeSlice t l' c') v m':=by
 unfold A1c at ho;split at ho
 ·rename_i e j1 l j2 c hu;cases I8 hl;cases I8 hc;split at ho
  ·rename_i i hi;obtain⟨h1,ho⟩:=A5 ho;obtain⟨h1,h3⟩:=B9 h1;obtain⟨h1,h2⟩:=B9 h1;have h1:=A1 h1;have h2:=A1 h2;have h3:=A1 h3;split at ho
   ·rename_i zs hz;rw[H5]at ho;have hs:G3 P e=some i.size:=by simp[G3,hi]
    obtain⟨hzz,hzl⟩:=A9g (ρ:=ρ) hs hz;obtain⟨g1,g2,g3⟩:=A27 h hb ho hf hzl;refine⟨.slice (some ⟨w.heap.size,0,none⟩) l c,_,_,?_,?_,g3⟩
    ·have wl:IntKind.i64.wrap (Int.ofNat l)=Int.ofNat l:=A5e .i64 l (by simp only[B3x];omega);have wc:IntKind.i64.wrap (Int.ofNat c)=Int.ofNat c:=A5e .i64 c (by simp only[B3x];omega);have hroom:(askRoom (c*i.bytes)).run P w=.ok () w:=by
      unfold askRoom roomBytes;rw[if_neg (by omega)];rfl
     have hcb:((i.bytes:Int)*(c:Int))=((c*i.bytes:Nat):Int):=by rw[A0F];simp
     have hlb:((i.bytes:Int)*(l:Int))≤((c*i.bytes:Nat):Int):=by
      have:i.bytes*l≤c*i.bytes:=by rw[A0F];exact E9 _ h1
      exact_mod_cast this
     unfold Instr.makeSlice;simp only[Sem.run_bind,D5 hu,asInt,asIntOf,Result.andThen,Sem.run_pure,V7 hi,wl,wc];rw[if_neg]
     ·have hc2:(Int.ofNat c).toNat=c:=by simp
      have hl2:(Int.ofNat l).toNat=l:=by simp
      simp only[Sem.run_bind,Sem.run_pure,Result.andThen,hc2,hl2,hroom,K5 hs];rcases hzz with⟨hq,rfl⟩|⟨hq,z,hzr,hza⟩
      ·have e0:∀ z:Array Value,Array.map (fun x=>z[x%z.size]!) (Array.range (c*i.size))=⟨[]⟩:=fun z=>by rw[hq];apply I7;simp
       simp only[if_pos hq,e0];rfl
      ·simp only[if_neg hq,Sem.run_bind,Sem.run_pure,Result.andThen,hzr,hza];rfl
     ·have e1:Int.ofNat c=(c:Int):=rfl;have e2:Int.ofNat l=(l:Int):=rfl;simp only[e1,e2,hcb];simp;omega
    ·rw[g1];exact .sl g2 (by unfold N0;omega)
   ·cases ho
  ·cases ho
 ·cases ho
end
end Go.Sx
namespace Go.Sx
set_option linter.all false
open Go
set_option linter.unusedVariables false
set_option linter.unusedSimpArgs false
variable [Ora]
theorem B4J(a b:Nat)(h:b<a):Builtin.nextslicecap a b≤3*a+4000:=by
 have grow:∀ r c,Builtin.growBy a r c≤max (c) (2*a+800):=by
  intro r;induction r with
  | zero=>intro c;simp only[Builtin.growBy];exact Nat.le_max_left _ _
  | succ r ih =>
    intro c;simp only[Builtin.growBy];split
    ·exact Nat.le_max_left _ _
    ·have:=ih (c+(c+768) / 4);refine B8 this ?_;rw[Nat.max_le];constructor
     ·refine B8 ?_ (Nat.le_max_right _ _);omega
     ·exact Nat.le_max_right _ _
 unfold Builtin.nextslicecap;split
 ·omega
 ·split
  ·omega
  ·have:=grow 4 b;refine B8 this ?_;rw[Nat.max_le];omega
section
variable {P:Program} {base:Nat} {ρ:Ren} {m m':Mem} {w:World}
theorem A0W{w wd:World}(h:wd.heap=w.heap)(a:Addr):wd.cell? a=w.cell? a:=by simp[World.cell?,h]
theorem A7o(ρ:Ren):∀ l:List UInt8,LR ρ (P2 l) (P2 l)
 | []=>.nil
 | b::r=>.cons (.pure rfl) (A7o ρ r)
theorem A7F{s k:Nat}{y y':Value}{new:List Value}(h:HR P base ρ m.H w)(hn:A1b m s y=some (k,new))(hy:VR ρ y y') :
  (∀ wd,(Builtin.lenOf y').run P wd=.ok k wd)∧∃ new',LR ρ new new'∧∀ wd:World,wd.heap=w.heap→(Builtin.firstCells s k y').run P wd=.ok ⟨new'⟩ wd:=by
 unfold A1b at hn;split at hn
 ·rename_i n c;obtain⟨h1,h2⟩:=A5 hn;have h1:=A2 h1;subst h1;cases h2;cases P6 hy;exact⟨fun _=>rfl,[],.nil,fun _ _=>rfl⟩
 ·rename_i a n c;split at hn
  ·rename_i cs hr;cases hn;rcases O8 hy with⟨l,hl,_,_,rfl⟩|⟨l,c',hl,_,_,_,_,rfl⟩|⟨a',c',_,rfl,_,rfl⟩
   ·obtain⟨r',h1,h2,h3⟩:=j9 h hr hl;exact⟨fun _=>rfl,r',h1,fun wd hw=>J4 h2 fun j v hj=>by rw[A0W hw];exact h3 j v hj⟩
   ·obtain⟨r',h1,h2,h3⟩:=j9 h hr hl;exact⟨fun _=>rfl,r',h1,fun wd hw=>J4 h2 fun j v hj=>by rw[A0W hw];exact h3 j v hj⟩
   ·have:new=[]:=by
     unfold w5 at hr;split at hr
     ·have:=(A3E hr).2;simp at this;exact this
     ·cases hr
    subst this;refine⟨fun _=>rfl,[],.nil,fun wd _=>?_⟩;simp[Builtin.firstCells,loadCells,loadCellsFrom]
  ·cases hn
 ·rename_i b;obtain⟨_,hn⟩:=A5 hn;cases hn;cases W5 hy;refine⟨fun _=>rfl,P2 b.data.toList,?_,fun wd _=>?_⟩
  ·exact A7o _ _
  ·have e:((b.extract 0 b.size).data.map fun b=>Value.int .u8 b.toNat)=⟨P2 b.data.toList⟩:=by
    apply I7;simp[P2]
   show(pure ((b.extract 0 b.size).data.map fun b=>Value.int .u8 b.toNat):Sem (Array Value)).run P wd=_;rw[e];rfl
 ·cases hn
theorem C4m{d:TypeDesc}(h:A02 d=true):(∃ e,d=.slice e)∨d=.string:=by cases d<;>first|cases h;done|exact .inl ⟨_,rfl⟩|exact .inr rfl
theorem A2e{t t2 e:TypeId}{ty:TypeId}{d2:TypeDesc}{n k c:Nat}{a:Option Addr}{x' z:Value}{inf:TypeInfo}{old' new':List Value}(hu:P.underlying t=some (.slice e))(hu2:P.underlying t2=some d2)(hd2:A02 d2=true)
  (hi:P.info? e=some inf) (hz:∀ w,(zeroValue e).run P w=.ok z w) (hlen:∀ wd,(Builtin.lenOf x').run P wd=.ok k wd)
  (hold:∀ wd:World,wd.heap=w.heap→(Builtin.firstCells inf.size n (.slice a n c)).run P wd=.ok ⟨old'⟩ wd) (hnew:∀ wd:World,wd.heap=w.heap→(Builtin.firstCells inf.size k x').run P wd=.ok ⟨new'⟩ wd)
  (hgt:¬ n+k≤c) (hb:(3*(n+k)+4000)*inf.bytes≤281474976710656) (hm:n+k≤1000000000) :
  ∃ nc,n+k≤nc∧(Builtin.append_ #[t,t2] ty #[.slice a n c,x']).run P w=.ok (.slice (some ⟨w.heap.size,0,none⟩) (n+k) nc) { w.drew with heap:=w.heap.push (.cells (⟨old'⟩++⟨new'⟩++Builtin.zeroCells z.cells (nc-(n+k))) e (0,0)) }:=by
 have hs:G3 P e=some inf.size:=by simp[G3,hi]
 have hcap:Builtin.nextslicecap (n+k) c*inf.bytes≤281474976710656:=by
  have:=E9 inf.bytes (B4J (n+k) c (by omega));omega
 let q:Question:=.appendCap (n+k) c e
 let nc:=q.cut (w.tape w.drawn q)
 have hnc:n+k≤nc:=by show n+k≤(n+k)+_;omega
 refine⟨nc,hnc,?_⟩;have hch:(choose q).run P w=.ok nc w.drew:=by
  simp only[choose,Sem.run];rw[if_neg (by simp[q,Question.forced])];rfl
 have hask:∀ k w,(askRoom k).run P w=.ok () w:=fun k w=>by unfold askRoom;split<;>rfl
 unfold Builtin.append_;rcases C4m hd2 with⟨e2,rfl⟩|rfl
 all_goals simp only[I9,R4,R5,Sem.run_bind,D5 hu,D5 hu2,Result.andThen,K5 hs,Sem.run_pure,Q1,if_false,hlen]
 all_goals
  have hmax:¬ (((n+k:Nat):Int)>IntKind.i64.max):=by simp[IntKind.max,IntKind.bits,IntKind.signed];omega
  simp only[if_neg hgt,hmax,false_and,if_false,Sem.run_bind,Result.andThen,V7 hi];rw[if_neg (show ¬ (Builtin.nextslicecap (n+k) c*inf.bytes>2 ^ 48) by simpa using hcap)];have hd:w.drew.heap=w.heap:=rfl;simp only[Sem.run_bind,Sem.run_pure,Result.andThen,show(choose (.appendCap (n+k) c e)).run P w=.ok nc w.drew from hch,hask,hold _ hd,hnew _ hd,hz,V7 hi,Bool.not_false,if_true];rfl
theorem A4O{t t2 e:TypeId}{ty:TypeId}{d2:TypeDesc}{n k c:Nat}{a:Addr}{x':Value}{inf:TypeInfo}{new':List Value}{w':World}(hu:P.underlying t=some (.slice e))(hu2:P.underlying t2=some d2)(hd2:A02 d2=true)
  (hi:P.info? e=some inf) (hlen:∀ wd,(Builtin.lenOf x').run P wd=.ok k wd) (hnew:(Builtin.firstCells inf.size k x').run P w=.ok ⟨new'⟩ w)
  (hle:n+k≤c) (hst:(storeCells (a.add (n*inf.size)) new').run P w=.ok () w') :
  (Builtin.append_ #[t,t2] ty #[.slice (some a) n c,x']).run P w=.ok (.slice (some a) (n+k) c) w':=by
 have hs:G3 P e=some inf.size:=by simp[G3,hi]
 unfold Builtin.append_;rcases C4m hd2 with⟨e2,rfl⟩|rfl
 all_goals simp only[I9,R4,R5,Sem.run_bind,D5 hu,D5 hu2,Result.andThen,K5 hs,Sem.run_pure,Q1,if_false,hlen]
 all_goals simp[if_pos hle,Sem.run_bind,hnew,Result.andThen,hst]
theorem A67{t t2 e:TypeId}{ty:TypeId}{d2:TypeDesc}{x':Value}{inf:TypeInfo}(hu:P.underlying t=some (.slice e))(hu2:P.underlying t2=some d2)(hd2:A02 d2=true)
  (hi:P.info? e=some inf) (hlen:∀ wd,(Builtin.lenOf x').run P wd=.ok 0 wd) (hnew:(Builtin.firstCells inf.size 0 x').run P w=.ok #[] w) :
  (Builtin.append_ #[t,t2] ty #[.slice none 0 0,x']).run P w=.ok (.slice none 0 0) w:=by
 have hs:G3 P e=some inf.size:=by simp[G3,hi]
 unfold Builtin.append_;rcases C4m hd2 with⟨e2,rfl⟩|rfl
 all_goals simp only[I9,R4,R5,Sem.run_bind,D5 hu,D5 hu2,Result.andThen,K5 hs,Sem.run_pure,Q1,if_false,hlen]
 all_goals simp[Sem.run_bind,hnew,Result.andThen]
theorem St.kill{ab:AB}{id:Nat}(h:HR P base ρ m.H w)(hle:id≤G8)(hg:Hp.get m.H id=some ab)(hrw:ab.rw=true):St P base ρ ρ m (A3N m id) w w:=by
 rw[q8];refine⟨fun _ _ h=>h,fun b k h1 h2=>(by rw[h1]at h2;cases h2),A7 _,A7 _,fun h=>h,h.sub fun id2 hid2 a ha=>?_,fun b hb=>C6 _ hb,fun b h1 h2 k hk'=>?_,fun k hk' hb'=>rfl,A7 _,⟨rfl,rfl,rfl⟩,fun b k h1 h2=>(by rw[h1]at h2;cases h2),fun id2 hid2 h4 h5=>?_,fun k ⟨id2,a,q,hid2,ha,hq,ht⟩=>.inr ⟨id2,a,q,hid2,?_,hq,ht⟩⟩
 ·rw[E4 _ _ _ _ hle hid2]at ha;by_cases e:id2=id
  ·rw[if_pos e]at ha;cases ha
  ·rw[if_neg e]at ha;exact ha
 ·rcases B3.1 h1 with rfl|h1
  ·exact⟨ab,hg,hrw⟩
  ·exact absurd h1 h2
 ·rw[E4 _ _ _ _ hle hid2,if_neg];intro e;subst e;exact h4 B7
 ·have ha:Hp.get (m.H.set id none) id2=some a:=ha;rw[E4 _ _ _ _ hle hid2]at ha;by_cases e:id2=id
  ·rw[if_pos e]at ha;cases ha
  ·rw[if_neg e]at ha;exact ha
theorem St.grow{ab ab':AB}{id:Nat}{l:Loc}{k:Nat→Value}{v:Value}{w':World}(h:HR P base ρ m.H w)(hle:id≤G8)(hg:Hp.get m.H id=some ab)(hrw:ab.rw=true)(hl:ρ id=some l)(hon:l.on=true)
  (hn:m9 (A3N m id) ab' k=some (v,m')) (hf:K2 ρ m.n m'.hi)
  (ho:w'.os=w.os∧w'.tape=w.tape∧w'.output=w.output) (hsz:w'.heap.size=w.heap.size) (hk:∀ k,k≠l.blk→w'.heap[k]? = w.heap[k]?) (hb:BR P (upd ρ m.n l) ab' l w') (hfz:ab'≠.frz:=by intro h;cases h) :
  v=k m.n∧St P base ρ (upd ρ m.n l) m m' w w':=by
 rw[q8]at hn;obtain⟨hnm,hv,rfl⟩:=M5 hn;have hfree:ρ m.n=none:=hf m.n (A7 _) (K7 _ _).2;have hext:=Z0 (l:=l) hfree;obtain⟨h2,h3⟩:=h.atl hl hg;have hTc:∀ k,Tc ab' l k→k=l.blk:=fun k hk=>by
  rcases hk with⟨_,_,rfl⟩|⟨rfl,_⟩
  ·rfl
  ·exact absurd rfl hfz
 have hne:id≠m.n:=fun e=>by subst e;rw[hl]at hfree;cases hfree
 have hget:∀ i,i≤G8→Hp.get ((m.H.set id none).set m.n (some ab')) i=if i=m.n then some ab' else if i=id then none else Hp.get m.H i:=fun i hi=>by
  rw[E4 _ _ _ _ hnm hi,E4 _ _ _ _ hle hi]
 refine⟨hv,hext,fun b q h1 h2=>?_,w8 _,(K7 _ _).1,fun _=>Z6 (K7 _ _).2,⟨fun b q hq=>?_,fun i hi a ha=>?_⟩,fun b hb=>C6 _ hb,fun b h1 h2 q hq=>?_,fun q hq hb'=>hk q ?_,by rw[hsz];exact A7 _,ho,fun b q h1 h2 _=>?_,fun i hi h4 h5=>?_,fun k ⟨i,a,q,hi,ha,hq,ht⟩=>.inr ?_⟩
 ·obtain⟨rfl,rfl⟩:=V2 h1 h2;exact⟨A7 _,I6 _⟩
 ·cases h0:ρ b with
  | some q0 =>
    rw[hext b q0 h0]at hq
    have:=A8 hq;subst this;exact h.dom b q0 h0
  | none=>obtain⟨rfl,rfl⟩:=V2 hq h0;exact hnm
 ·have ha:Hp.get ((m.H.set id none).set m.n (some ab')) i=some a:=ha;rw[hget i hi]at ha;have hdis:∀ id2,id2≤G8→∀ ab2 l2,Hp.get ((m.H.set id none).set m.n (some ab')) id2=some ab2→upd ρ m.n l id2=some l2→Tc ab2 l2 l.blk→id2=m.n:=fun id2 hid2 ab2 l2 g1 g2 g3=>by
   rw[hget id2 hid2]at g1;by_cases e2:id2=m.n
   ·exact e2
   ·rw[if_neg e2]at g1;unfold upd at g2;rw[if_neg e2]at g2;by_cases e3:id2=id
    ·rw[if_pos e3]at g1;cases g1
    ·rw[if_neg e3]at g1;exact absurd ((h3 hrw hon).2 id2 hid2 ab2 l2 g1 g2 g3) e3
  by_cases e:i=m.n
  ·rw[if_pos e]at ha;have ha:=A8 ha;subst ha;subst e;exact⟨l,L6 _ _ _,hb,fun _ _=>⟨(h3 hrw hon).1,hdis⟩⟩
  ·rw[if_neg e]at ha;by_cases e3:i=id
   ·rw[if_pos e3]at ha;cases ha
   ·rw[if_neg e3]at ha;obtain⟨l2,g1,g2,g3⟩:=h.at_ i hi a ha;have hnb:∀ k,Tc a l2 k→k≠l.blk:=fun k hk' hh=>e3 ((h3 hrw hon).2 i hi a l2 ha g1 (hh▸hk'))
    refine⟨l2,hext _ _ g1,g2.mono hext (fun k hk'=>hk _ (hnb k hk')),fun hr ho'=>⟨(g3 hr ho').1,fun id3 hid3 ab3 l3 f1 f2 f3=>?_⟩⟩;have f1:Hp.get ((m.H.set id none).set m.n (some ab')) id3=some ab3:=f1;rw[hget id3 hid3]at f1;by_cases e4:id3=m.n
    ·subst e4;rw[L6]at f2
     have:=A8 f2;subst this;rw[if_pos rfl]at f1;have f1:=A8 f1;subst f1;exact absurd (hTc _ f3) (hnb _ (.inl ⟨AB.rw_on hr,ho',rfl⟩))
    ·rw[if_neg e4]at f1;unfold upd at f2;rw[if_neg e4]at f2;by_cases e5:id3=id
     ·rw[if_pos e5]at f1;cases f1
     ·rw[if_neg e5]at f1;exact(g3 hr ho').2 id3 hid3 ab3 l3 f1 f2 f3
 ·rcases B3.1 h1 with rfl|h1
  ·exact⟨ab,hg,hrw⟩
  ·exact absurd h1 h2
 ·exact fun e=>hb' id B7 l hl hon e.symm
 ·obtain⟨rfl,rfl⟩:=V2 h1 h2;exact .inr ⟨id,B7,q,hl,hon,rfl⟩
 ·have hgi:=hget i hi;show Hp.get ((m.H.set id none).set m.n (some ab')) i=_;rw[hgi,if_neg,if_neg]
  ·intro e;subst e;exact h4 B7
  ·intro e;subst e;rcases h5 with h5|h5
   ·omega
   ·have h5:upN m.hi m.n≤m.n:=h5
    have:=(K7 m.hi m.n).2;omega
 ·have ha:Hp.get ((m.H.set id none).set m.n (some ab')) i=some a:=ha;rw[hget i hi]at ha;by_cases e:i=m.n
  ·rw[if_pos e]at ha;have ha:=A8 ha;subst ha;subst e;rw[L6]at hq;have hq:=A8 hq;subst hq;exact⟨id,ab,l,hle,hg,hl,AB.rw_fr hrw,.inl ⟨AB.rw_on hrw,hon,(hTc k ht.2).symm⟩⟩
  ·rw[if_neg e]at ha;unfold upd at hq;rw[if_neg e]at hq;by_cases e3:i=id
   ·rw[if_pos e3]at ha;cases ha
   ·rw[if_neg e3]at ha;exact⟨i,a,q,hi,ha,hq,ht⟩
theorem B1G{s k:Nat}{y:Value}{new:List Value}{z:Value}(h:HR P base ρ m.H w)(hn:A1b m s y=some (k,new))(hz:z.cells.size=s):new.length=k*s:=by
 unfold A1b at hn;split at hn
 ·obtain⟨_,q⟩:=A5 hn;cases q;simp
 ·split at hn
  ·rename_i cs hr;cases hn;unfold w5 at hr;split at hr
   ·exact(A3E hr).2
   ·cases hr
  ·cases hn
 ·rename_i b;obtain⟨q1,hn⟩:=A5 hn;have q1:=A2 q1;subst q1;cases hn;simp[P2]
 ·cases hn
theorem B3B{new':List Value}{r:Array Value}{i:Nat}{u:Value}(h:new'[i]? = some u):(({ toList:=[] }:Array Value)++⟨new'⟩++r)[i]? = some u:=by
 have hl:=(A9.1 h).1;rw[T9 (by simp;exact hl)]
 simpa using h
theorem A1L{old' new':List Value}{r:Array Value}{i:Nat}{u:Value}(h:(old'++new')[i]? = some u):(({ toList:=old' }:Array Value)++⟨new'⟩++r)[i]? = some u:=by
 have hl:=(A9.1 h).1;rw[T9 (by simpa using hl)]
 simpa using h
theorem A1K{s k n nc:Nat}{z:Value}{old' new':List Value}(h1:new'.length=k*s)(hnc:n+k≤nc)(hz:z.cells.size=s)(ho:old'.length=n*s) :
  nc*s≤(({ toList:=old' }:Array Value)++⟨new'⟩++Builtin.zeroCells z.cells (nc-(n+k))).size:=by
 simp[Builtin.zeroCells,ho,h1,hz];rw[← G7,← G7];exact E9 _ (by omega)
theorem B4n{t t2 ty:TypeId}{x y x' y' v:Value}(h:HR P base ρ m.H w)(hb:base≤w.heap.size)(ho:A6R P m t t2 x y=some (v,m'))(hf:K2 ρ m.n m'.hi)(hx:VR ρ x x')(hy:VR ρ y y') :
  VOk P base ρ m w (Builtin.append_ #[t,t2] ty #[x',y']) v m':=by
 unfold A6R at ho;split at ho
 ·rename_i e d2 hu hu2;cases hd2:A02 d2 with
  | false=>rw[hd2]at ho;cases ho
  | true =>
  rw[hd2]at ho;simp only[Q9,cond_false]at ho;split at ho
  ·rename_i inf a n c hi;split at ho
   ·rename_i k new z hnew hz;obtain⟨g1,ho⟩:=A5 ho;obtain⟨g1,g4⟩:=B9 g1;obtain⟨g1,g3⟩:=B9 g1;obtain⟨g1,g2⟩:=B9 g1;have g1:=A1 g1;have g2:=A1 g2;have g3:=A2 g3;obtain⟨hlen,new',hnl,hnr⟩:=A7F h hnew hy;have hzr:∀ w,(zeroValue e).run P w=.ok z w:=fun w=>A0j hz w
    have hnn:new'.length=k*inf.size:=by rw[← hnl.1];exact B1G h hnew g3
    have OPENv:N0=9223372036854775808:=rfl;cases hk:Nat.beq k 0 with
    | true =>
      have hk:=A2 hk;subst hk;have hb0:Nat.beq 0 0=true:=rfl;simp only[hb0,cond_true]at ho;have hn0:new'=[]:=F6.1 (by rw[hnn];simp);subst hn0;cases a with
      | none =>
        simp only at ho;obtain⟨q1,ho⟩:=A5 ho;obtain⟨q1,q2⟩:=B9 q1;have q1:=A2 q1;have q2:=A2 q2;subst q1;subst q2;cases ho;cases P6 hx;exact VOk.same h (A67 hu hu2 hd2 hi hlen (hnr w rfl)) (.pure rfl)
      | some ad =>
        simp only at ho;obtain⟨q1,ho⟩:=A5 ho;obtain⟨q1,q2⟩:=B9 q1;have q1:=A1 q1;have q2:=A1 q2;cases ho;rcases O8 hx with⟨l,hl,hsp,hc,rfl⟩|⟨l,c',hl,hsp,hc,hn,hcap,rfl⟩|⟨a',c',_,_,he,_⟩
        ·exact VOk.same h (A4O hu hu2 hd2 hi hlen (hnr w rfl) (by omega) rfl) (by simpa using hx)
        ·exact VOk.same h (A4O hu hu2 hd2 hi hlen (hnr w rfl) (by omega) rfl) (by simpa using hx)
        ·omega
    | false =>
      have hk0:k≠0:=fun e=>by subst e;cases hk
      simp only[hk,cond_false]at ho;cases a with
      | none =>
        simp only at ho;obtain⟨q1,ho⟩:=A5 ho;obtain⟨q1,q2⟩:=B9 q1;have q1:=A2 q1;have q2:=A2 q2;subst q1;subst q2;rw[H5]at ho;cases P6 hx;obtain⟨nc,hnc,hr⟩:=A2e (ty:=ty) (c:=0) (a:=none) (old':=[]) hu hu2 hd2 hi hzr hlen (fun _ _=>rfl) hnr (by omega) g1 g2;have hsz:∀ inf2,P.info? e=some inf2→nc*inf2.size≤(({ toList:=[] }:Array Value)++⟨new'⟩++Builtin.zeroCells z.cells (nc-(0+k))).size:=fun inf2 h2=>by
         rw[hi]at h2;cases h2;exact A1K hnn hnc g3 (by simp)
        obtain⟨e1,e2,e3⟩:=A1I (wd:=w.drew) (fz:=(0,0)) (cap:=nc) h hb ho hf hnl (fun i u hi=>by
         show(({ toList:=[] }:Array Value)++⟨new'⟩++Builtin.zeroCells z.cells (nc-(0+k)))[i]? = some u;exact B3B hi) (fun i _ hh=>by have h1:0≤i:=hh.1;have h2:i<0:=hh.2;omega) hsz ⟨rfl,rfl,rfl⟩ rfl
        refine⟨_,_,_,hr,?_,e3⟩;rw[e1,E8]
        have:=VR.op (ρ:=upd ρ m.n (lc w.heap.size 0 nc)) (b:=m.n) (o:=0) (n:=k) (m:=N0) (m':=nc) e2 (A7 _) (by omega) (fun _ _=>rfl)
        simpa using this
      | some ad =>
        simp only at ho;cases hco:Nat.blt c N0 with
        | true =>
          have hco':c<N0:=A1 hco;simp only[hco,cond_true]at ho;rcases O8 hx with⟨l,hl,hsp,hc,rfl⟩|⟨l,c',hl,hsp,hc,hn,hcap,rfl⟩|⟨a',c',_,_,he,_⟩
          ·cases hfit:Nat.ble (n+k) c with
           | true =>
             have hfit':=A1 hfit;simp only[hfit,cond_true]at ho;split at ho
             ·rename_i m2 hw;cases ho;rw[A1C]at hw;obtain⟨w',h1,h2⟩:=A5d h hw hl hnl;refine⟨_,ρ,w',A4O hu hu2 hd2 hi hlen (hnr w rfl) hfit' ?_,?_,h2⟩
              ·rw[Y3,show ad.off+l.sh+n*inf.size=ad.off+n*inf.size+l.sh by omega];exact h1
              ·obtain⟨ab,ao,asp⟩:=ad;simp only at hsp;subst hsp;exact .sl hl hc
             ·cases ho
           | false =>
             have hfit':¬ n+k≤c:=fun hle=>by rw[show Nat.ble (n+k) c=true from C3 hle]at hfit;cases hfit
             simp only[hfit,cond_false]at ho;split at ho
             ·rename_i old hold;rw[H5]at ho;obtain⟨old',o1,o2,o3⟩:=j9 h hold hl;have holdr:∀ wd:World,wd.heap=w.heap→(Builtin.firstCells inf.size n (.slice (some ⟨l.blk,ad.off+l.sh,none⟩) n c)).run P wd=.ok ⟨old'⟩ wd:=fun wd hw=>J4 o2 fun j u hj=>by rw[A0W hw];exact o3 j u hj
              obtain⟨nc,hnc,hr⟩:=A2e (ty:=ty) hu hu2 hd2 hi hzr hlen holdr hnr hfit' g1 g2;obtain⟨e1,e2,e3⟩:=A1I (wd:=w.drew) (fz:=(0,0)) (cap:=nc) (C:=⟨old'⟩++⟨new'⟩++Builtin.zeroCells z.cells (nc-(n+k))) h hb ho hf (o1.append hnl) (fun i u hi=>A1L hi) (fun i _ hh=>by have h1:0≤i:=hh.1;have h2:i<0:=hh.2;omega)
               (fun inf2 h2=>by rw[hi]at h2;cases h2;exact A1K hnn hnc g3 o2) ⟨rfl,rfl,rfl⟩ rfl
              refine⟨_,_,_,hr,?_,e3⟩;rw[e1]
              have:=VR.op (ρ:=upd ρ m.n (lc w.heap.size 0 nc)) (b:=m.n) (o:=0) (n:=n+k) (m:=N0) (m':=nc) e2 (A7 _) hnc (fun _ _=>rfl)
              simpa using this
             ·cases ho
          ·omega
          ·omega
        | false =>
          simp only[hco,cond_false]at ho;obtain⟨q0,ho2⟩:=A5 ho;clear ho;have ho:=ho2;clear ho2;obtain⟨q1,q2⟩:=B9 q0;replace q1:=A2 q1;replace q2:=A2 q2;clear q0;split at ho
          ·rename_i cs T hsp hg;obtain⟨p1,ho⟩:=A5 ho;rw[I0,I0,I0]at p1;obtain⟨⟨⟨p1,p2⟩,p3⟩,p4⟩:=p1;have p1:=A2 p1;have p2:=A2 p2;have p3:=A1 p3;have p4:ad.block<m.n:=A1 p4;subst p2;rw[H5]at ho;rcases O8 hx with⟨_,_,_,hc,_⟩|⟨l,c',hl,_,_,hn,hcap,rfl⟩|⟨a',c',_,_,he,_⟩
           ·omega
           ·have hcap:=hcap q1 q2;obtain⟨⟨hon,C,fz,T',z2,z3,z4⟩,z5⟩:=h.atl hl hg;obtain⟨rfl,z6,z7⟩:=z4 rfl;have z8:=(z7 inf hi).2;have z7:=(z7 inf hi).1;by_cases hfit:n+k≤c'
            ·
             have hsum:(n+k)*inf.size≤c'*inf.size:=E9 _ hfit;rw[G7]at hsum;obtain⟨w',r1,r2,r3,r4,r5⟩:=Z9 (P:=P) (b:=l.blk) (o:=n*inf.size+l.sh) (fz:=fz) new' 0 C w z2 (B1Y hnl g4) (by rw[hnn];subst hcap;omega) z6;obtain⟨e1,e3⟩:=St.grow (w':=w') (l:=l) h p3 hg rfl hl hon ho hf r2 r3 r5 (by
              have hfree:ρ m.n=none:=by
               rw[q8]at ho;obtain⟨_,_,rfl⟩:=M5 ho;exact hf m.n (A7 _) (K7 _ _).2
              refine⟨hon,_,fz,_,r4,fun i u hi=>?_,fun _=>⟨rfl,by simpa [d7]using z6,fun inf2 h2=>⟨by simpa [d7]using(by rw[hi]at h2;cases h2;exact z7:l.sh+l.cap*inf2.size≤C.size),by rw[hi]at h2;cases h2;exact z8⟩⟩⟩;show ∃ u',(Array.mk (A0l C.toList (n*inf.size+l.sh+0) new'))[l.sh+i]? = some u'∧_;have hlC:C.toList.length=C.size:=by simp
              rw[I9,A3l _ _ _ _ (by rw[hnn];subst hcap;omega)];by_cases hlt:i<cs.length
              ·rw[E7 hlt]at hi;rw[if_neg (by omega)];obtain⟨u',y1,y2⟩:=z3 i u hi;exact⟨u',by simpa using y1,y2.mono (Z0 hfree)⟩
              ·rw[E5 (by omega)]at hi;have hil:=(A9.1 hi).1;have hnl1:=hnl.1;rw[if_pos (by omega)];obtain⟨u',y1,y2⟩:=hnl.get hi;exact⟨u',by rw[show l.sh+i-(n*inf.size+l.sh+0)=i-cs.length by omega];exact y1,y2.mono (Z0 hfree)⟩)
             refine⟨_,_,w',A4O (ty:=ty) hu hu2 hd2 hi hlen (hnr w rfl) hfit ?_,?_,e3⟩
             ·rw[Y3,q2,show 0+l.sh+n*inf.size=n*inf.size+l.sh by omega];exact r1
             ·rw[e1,q2];exact .op (L6 _ _ _) (A7 _) hfit (fun _ _=>hcap)
            ·
             have st1:=St.kill h p3 hg rfl;have hf1:K2 ρ (A3N m ad.block).n m'.hi:=by rw[q8];exact hf
             obtain⟨old',o1,o2⟩:=A1H (ρ:=ρ) (C:=C) (cs:=cs) (s:=l.sh) z3;have oL:old'.length=n*inf.size:=by rw[← o1.1];exact p1
             have holdr:∀ wd:World,wd.heap=w.heap→(Builtin.firstCells inf.size n (.slice (some ⟨l.blk,ad.off+l.sh,none⟩) n c')).run P wd=.ok ⟨old'⟩ wd:=fun wd hw=>J4 oL fun j u hj=>by
              rw[A0W hw,q2]
              have:=o2 j u hj;simp[World.cell?,z2,this]
             obtain⟨nc,hnc,hr⟩:=A2e (ty:=ty) hu hu2 hd2 hi hzr hlen holdr hnr hfit g1 g2;obtain⟨e1,e2,e3⟩:=A1I (wd:=w.drew) (fz:=(0,0)) (cap:=nc) (C:=⟨old'⟩++⟨new'⟩++Builtin.zeroCells z.cells (nc-(n+k))) st1.hr hb ho hf1 (o1.append hnl) (fun i u hi=>A1L hi) (fun i _ hh=>by have h1:0≤i:=hh.1;have h2:i<0:=hh.2;omega)
              (fun inf2 h2=>by rw[hi]at h2;cases h2;exact A1K hnn hnc g3 oL) ⟨rfl,rfl,rfl⟩ rfl
             refine⟨_,_,_,hr,?_,St.trans hf st1 e3⟩;rw[e1]
             have:=VR.op (ρ:=upd ρ (A3N m ad.block).n (lc w.heap.size 0 nc)) (b:=(A3N m ad.block).n) (o:=0) (n:=n+k) (m:=N0) (m':=nc) e2 (A7 _) hnc (fun _ _=>rfl)
             simpa using this
           ·omega
          ·cases ho
   ·cases ho
  ·cases ho
 ·cases ho
end
end Go.Sx
namespace Go.Sx
set_option linter.all false
open Go
set_option linter.unusedVariables false
set_option linter.unusedSimpArgs false
variable [Ora]
section
variable {P:Program} {base:Nat} {ρ:Ren} {m m':Mem} {w:World}
theorem B3v{op:UnOp}{x x' v:Value}(h:unM op x=some v)(hx:VR ρ x x')(w:World):(Op.unary op x').run P w=.ok v w∧I2 v=true:=by
 unfold unM at h;split at h
 ·cases I8 hx;cases h;exact⟨by simp[Op.unary,Op.intArith,y5],by simp[y5,I2]⟩
 ·cases I8 hx;obtain⟨h1,h2⟩:=A0D (P:=P) h w;exact⟨by simpa [Op.unary]using h1,h2⟩
 ·cases A0n hx;cases h;exact⟨rfl,rfl⟩
 ·cases h
theorem C1s{t ty:TypeId}{tys:List TypeId}{x x' v:Value}(ho:C5T P t x=some v)(hx:VR ρ x x')(w:World):(Builtin.cap_ ⟨t::tys⟩ ty #[x']).run P w=.ok v w∧I2 v=true:=by
 unfold C5T at ho;split at ho
 ·rename_i hu;cases P6 hx;cases ho;exact⟨by simp[Builtin.cap_,Sem.run_bind,D5 hu,Result.andThen,goInt],rfl⟩
 ·rename_i hu;obtain⟨hc,ho⟩:=A5 ho;have hc:_<N0:=A1 hc;cases ho;rcases O8 hx with⟨l,_,_,_,rfl⟩|⟨l,c',_,_,_,_,_,rfl⟩|⟨a',c',_,_,he,_⟩
  ·exact⟨by simp[Builtin.cap_,Sem.run_bind,D5 hu,Result.andThen,goInt],rfl⟩
  ·omega
  ·omega
 ·cases ho
theorem B5Z{t ty:TypeId}{tys:List TypeId}{x x' v:Value}(h:HR P base ρ m.H w)(ho:B8x P m t x=some v)(hx:VR ρ x x'):(Builtin.len_ ⟨t::tys⟩ ty #[x']).run P w=.ok v w∧I2 v=true:=by
 unfold B8x at ho;split at ho
 ·rename_i hu;cases W5 hx;cases ho;refine⟨?_,rfl⟩;simp[Builtin.len_,Sem.run_bind,D5 hu,Result.andThen,goInt]
 ·rename_i hu;cases ho;refine⟨?_,rfl⟩;simp[Builtin.len_,Sem.run_bind,D5 hu,Result.andThen,goInt]
 ·rename_i n c hu;cases ho;refine⟨?_,rfl⟩;have hx':∃ a' c',x'=.slice a' n c':=by
   cases hx with
   | pure _=>exact⟨_,_,rfl⟩
   | sl _ _=>exact⟨_,_,rfl⟩
   | op _ _ _ _=>exact⟨_,_,rfl⟩
   | opE _=>exact⟨_,_,rfl⟩
  obtain⟨a',c',rfl⟩:=hx';simp[Builtin.len_,Sem.run_bind,D5 hu,Result.andThen,goInt]
 ·rename_i hu;cases hx with|pure _=>?_
  cases ho;refine⟨?_,rfl⟩;simp[Builtin.len_,Sem.run_bind,D5 hu,Result.andThen,goInt]
 ·rename_i r hu;cases hx with
  | pure hp=>simp[I2]at hp
  | map hl =>
    rename_i l;split at ho
    ·rename_i es cl hg;cases ho;obtain⟨⟨h2,es',h3,h4,_⟩,_⟩:=h.atl hl hg;refine⟨?_,rfl⟩;have hgo:(getObj l.blk).run P w=.ok (.map es' cl) w:=by simp[getObj,Sem.run,h3]
     simp[Builtin.len_,Sem.run_bind,D5 hu,Result.andThen,goInt,hgo,h4]
    ·cases ho
 ·cases ho
theorem B5Q{ty:TypeId}{tys:Array TypeId}{vs vs':List Value}{v:Value}(ho:C46 vs=some v)(hx:LR ρ vs vs')(w:World):(Builtin.max_ tys ty ⟨vs'⟩).run P w=.ok v w∧I2 v=true:=by
 unfold C46 at ho;split at ho
 ·obtain⟨a',r1,rfl,h1,h2⟩:=hx.tail;obtain⟨b',r2,rfl,h3,h4⟩:=h2.tail;cases h4.nil_inv;cases I8 h1;cases I8 h3;cases ho;exact⟨by simp[Builtin.max_,Builtin.max2],rfl⟩
 ·obtain⟨a',r1,rfl,h1,h2⟩:=hx.tail;obtain⟨b',r2,rfl,h3,h4⟩:=h2.tail;obtain⟨c',r3,rfl,h5,h6⟩:=h4.tail;cases h6.nil_inv;rw[A6o]at ho;cases I8 h1;cases I8 h3;cases I8 h5;cases ho;exact⟨by simp[Builtin.max_,Builtin.max2],rfl⟩
 ·cases ho
theorem B5O{ty:TypeId}{tys:Array TypeId}{vs vs':List Value}{v:Value}(ho:C45 vs=some v)(hx:LR ρ vs vs')(w:World):(Builtin.min_ tys ty ⟨vs'⟩).run P w=.ok v w∧I2 v=true:=by
 unfold C45 at ho;split at ho
 ·obtain⟨a',r1,rfl,h1,h2⟩:=hx.tail;obtain⟨b',r2,rfl,h3,h4⟩:=h2.tail;cases h4.nil_inv;cases I8 h1;cases I8 h3;cases ho;exact⟨by simp[Builtin.min_,Builtin.min2],rfl⟩
 ·obtain⟨a',r1,rfl,h1,h2⟩:=hx.tail;obtain⟨b',r2,rfl,h3,h4⟩:=h2.tail;obtain⟨c',r3,rfl,h5,h6⟩:=h4.tail;cases h6.nil_inv;rw[A6o]at ho;cases I8 h1;cases I8 h3;cases I8 h5;cases ho;exact⟨by simp[Builtin.min_,Builtin.min2],rfl⟩
 ·cases ho
theorem A9U{ty:TypeId}{tys:Array TypeId}{x x' v:Value}(h:HR P base ρ m.H w)(ho:A2z m x=some (v,m'))(hx:VR ρ x x'):VOk P base ρ m w (Builtin.unsafeSliceData_ tys ty #[x']) v m':=by
 unfold A2z at ho;split at ho
 ·cases ho;cases P6 hx;exact VOk.same h rfl (.pure rfl)
 ·rename_i a n c;cases hq:Nat.beq n 0 || Nat.beq c 0 || Nat.beq c (N0+2)with
  | true=>rw[hq]at ho;cases ho
  | false =>
    rw[hq]at ho;simp only[cond_false,C9,O1]at ho;obtain⟨rfl,rfl⟩:=ho;simp only[V5]at hq;obtain⟨⟨q1,q2⟩,q3⟩:=hq;have q1:n≠0:=fun e=>by subst e;cases q1
    have q2:c≠0:=fun e=>by subst e;cases q2
    rcases O8 hx with⟨l,hl,hsp,hc,rfl⟩|⟨l,c',hl,hsp,hc,hn,hcap,rfl⟩|⟨a',c',_,he,_,_⟩
    ·refine VOk.same (v':=.pointer (some ⟨l.blk,a.off+l.sh,none⟩)) h ?_ ?_
     ·have hdef:Builtin.unsafeSliceData_ tys ty #[.slice (some ⟨l.blk,a.off+l.sh,none⟩) n c]=(do
        if c≠0 then pure (.pointer (some ⟨l.blk,a.off+l.sh,none⟩))
        else if(← viewAt l.blk).isSome then pure (.pointer (some ⟨l.blk,a.off+l.sh,none⟩))
        else pure (.pointer (some ⟨← newObj (.view ⟨l.blk,a.off+l.sh,none⟩ (← elemOf ty)),0,none⟩))):=rfl
      rw[hdef,if_pos q2];rfl
     ·obtain⟨ab,ao,asp⟩:=a;simp only at hsp;subst hsp;exact .ptr hl
    ·refine VOk.same (v':=.pointer (some ⟨l.blk,a.off+l.sh,none⟩)) h ?_ ?_
     ·have:c'≠0:=by omega
      have hdef:Builtin.unsafeSliceData_ tys ty #[.slice (some ⟨l.blk,a.off+l.sh,none⟩) n c']=(do
        if c'≠0 then pure (.pointer (some ⟨l.blk,a.off+l.sh,none⟩))
        else if(← viewAt l.blk).isSome then pure (.pointer (some ⟨l.blk,a.off+l.sh,none⟩))
        else pure (.pointer (some ⟨← newObj (.view ⟨l.blk,a.off+l.sh,none⟩ (← elemOf ty)),0,none⟩))):=rfl
      rw[hdef,if_pos this];rfl
     ·obtain⟨ab,ao,asp⟩:=a;simp only at hsp;subst hsp;exact .ptr hl
    ·omega
 ·cases ho
theorem B6m{t:TypeId}{x x' v:Value}(h:HR P base ρ m.H w)(ho:B1E P m t x=some (v,m'))(hx:VR ρ x x'):VOk P base ρ m w (Instr.makeInterface t x') v m':=by
 unfold B1E at ho;split at ho
 ·rename_i d hd;have hmi:(∀ ms,d≠.interface ms)→(Instr.makeInterface t x').run P w=.ok (.iface t x') w:=fun hne=>by
   simp only[Instr.makeInterface,Sem.run_bind,D5 hd,Result.andThen];cases d<;>first|rfl|exact absurd rfl (hne _)
  split at ho
  ·cases ho
  ·rename_i hne;obtain⟨_,ho⟩:=A5 ho;cases ho;exact VOk.same h (hmi fun ms e=>hne ms e) (.iface hx)
 ·cases ho
theorem C0_{x x' v:Value}(ho:B8Z m x=some (v,m'))(hx:VR ρ x x'):m'=m∧VR ρ v x'∧((∃ a,x'=.pointer (some a))∨∃ f a b,x'=.func (.func f) a b):=by
 unfold B8Z at ho;split at ho
 ·cases ho;obtain⟨l,_,_,rfl⟩:=P4 hx;exact⟨rfl,hx,.inl ⟨_,rfl⟩⟩
 ·cases ho;cases hx with
  | pure hp=>simp[I2]at hp
  | func _ _ _ _=>exact⟨rfl,by constructor<;>assumption,.inr ⟨_,_,_,rfl⟩⟩
 ·cases ho
theorem B9T{t ty:TypeId}{tys:List TypeId}{x y x' y' v:Value}(h:HR P base ρ m.H w)(ho:B3O P m t x y=some (v,m'))(hx:VR ρ x x')(hy:VR ρ y y'):VOk P base ρ m w (Builtin.copy_ ⟨t::tys⟩ ty #[x',y']) v m':=by
 unfold B3O at ho;split at ho
 ·rename_i e a n c hu;split at ho
  ·rename_i s hs;split at ho
   ·rename_i k cs hsrc;have hx':∃ a' c',x'=.slice a' n c':=by
     cases hx with
     | pure _=>exact⟨_,_,rfl⟩
     | sl _ _=>exact⟨_,_,rfl⟩
     | op _ _ _ _=>exact⟨_,_,rfl⟩
     | opE _=>exact⟨_,_,rfl⟩
    obtain⟨a',c',rfl⟩:=hx';have hread:∃ L cs',(Builtin.lenOf y').run P w=.ok L w∧Nat.min L n=k∧LR ρ cs cs'∧(Builtin.firstCells s k y').run P w=.ok ⟨cs'⟩ w:=by
     split at hsrc
     ·rename_i k0 _;obtain⟨q,hsrc⟩:=A5 hsrc;have q:=A2 q;subst q;cases hsrc;cases P6 hy;exact⟨0,[],rfl,by simp,.nil,rfl⟩
     ·rename_i b k0 c0;split at hsrc
      ·rename_i r hr;cases hsrc;rcases O8 hy with⟨l,hl,_,_,rfl⟩|⟨l,c',hl,_,_,_,_,rfl⟩|⟨a',c',_,rfl,_,rfl⟩
       ·obtain⟨r',h1,h2,h3⟩:=j9 h hr hl;exact⟨k0,r',rfl,rfl,h1,J4 h2 h3⟩
       ·obtain⟨r',h1,h2,h3⟩:=j9 h hr hl;exact⟨k0,r',rfl,rfl,h1,J4 h2 h3⟩
       ·have:cs=[]:=by
         unfold w5 at hr;split at hr
         ·have:=(A3E hr).2;simp at this;exact this
         ·cases hr
        subst this;exact⟨0,[],rfl,rfl,.nil,by simp[Builtin.firstCells,loadCells,loadCellsFrom]⟩
      ·cases hsrc
     ·rename_i b;cases hsrc;cases W5 hy;refine⟨b.size,P2 (b.data.toList.take (Nat.min b.size n)),rfl,rfl,A7o _ _,?_⟩;have e:((b.extract 0 (Nat.min b.size n)).data.map fun b=>Value.int .u8 b.toNat)=⟨P2 (b.data.toList.take (Nat.min b.size n))⟩:=by
       apply I7;simp[P2,A2S]
      show(pure ((b.extract 0 (Nat.min b.size n)).data.map fun b=>Value.int .u8 b.toNat):Sem (Array Value)).run P w=_;rw[e];rfl
     ·cases hsrc
    obtain⟨L,cs',r1,r2,r3,r4⟩:=hread;have hbase:(Builtin.copy_ ⟨t::tys⟩ ty #[.slice a' n c',y']).run P w=(match a' with|some a=>(do storeCells a cs';pure (goInt k):Sem Value)|none=>pure (goInt k)).run P w:=by
     unfold Builtin.copy_;simp only[I9,R4,R5,Sem.run_bind,D5 hu,K5 hs,r1,r2,r4,Result.andThen];cases a' with
     | none=>rfl
     | some a=>rfl
    cases a with
    | none =>
      cases P6 hx;simp only at ho;obtain⟨q,ho⟩:=A5 ho;have q:=A2 q;cases ho;exact VOk.same h (by rw[hbase,q];rfl) (.pure rfl)
    | some ad =>
      simp only at ho;cases hz:Nat.beq cs.length 0 with
      | true =>
        rw[hz]at ho;cases ho;have hz:=A2 hz;have:cs'=[]:=F6.1 (by rw[← r3.1];exact hz);subst this;refine VOk.same h (v':=.int .i64 k) ?_ (.pure rfl);rw[hbase];cases a'<;>rfl
      | false =>
        rw[hz]at ho;simp only[cond_false]at ho;obtain⟨hcl,ho⟩:=A5 ho;have hcl:=A1 hcl;split at ho
        ·rename_i m2 hw;cases ho;rcases O8 hx with⟨l,hl,hsp,hc,he⟩|⟨l,c',hl,hsp,hc,hn,hcap,he⟩|⟨a2,c2,_,hn,hc2,he⟩
         ·cases he;obtain⟨w',h1,h2⟩:=A5d h hw hl r3;exact⟨.int .i64 k,ρ,w',by rw[hbase];simp[Sem.run_bind,h1,Result.andThen,goInt],.pure rfl,h2⟩
         ·cases he;obtain⟨w',h1,h2⟩:=A5d h hw hl r3;exact⟨.int .i64 k,ρ,w',by rw[hbase];simp[Sem.run_bind,h1,Result.andThen,goInt],.pure rfl,h2⟩
         ·have OPENv:N0=9223372036854775808:=rfl;omega
        ·cases ho
   ·cases ho
  ·cases ho
 ·cases ho
theorem A5W:∀ {cs:List Value} {l:List UInt8},bytesOf cs=some l→∃ ns:List Int,cs=ns.map (Value.int .u8)∧l=ns.map fun n=>UInt8.ofNat n.toNat
 | [],l,h=>by simp only[bytesOf,C9]at h;subst h;exact⟨[],rfl,rfl⟩
 | v::r,l,h=>by
   unfold bytesOf at h;split at h
   ·rename_i he;cases he
   ·rename_i n r0 he;cases he;split at h
    ·rename_i l0 h0;cases h;obtain⟨ns,h1,h2⟩:=A5W h0;exact⟨n::ns,by rw[h1];rfl,by rw[h2];rfl⟩
    ·cases h
   ·cases h
theorem A6C:∀ {ns:List Int} {cs':List Value},LR ρ (ns.map (Value.int .u8)) cs'→cs'=ns.map (Value.int .u8)
 | [],cs',h=>h.nil_inv
 | n::r,cs',h=>by
   obtain⟨v',r',rfl,h1,h2⟩:=h.tail;cases I8 h1;rw[A6C h2];rfl
theorem A5N:∀ (ns:List Int) (acc:List UInt8),(ns.foldl (fun r n=>r.push (UInt8.ofNat n.toNat)) (ByteArray.mk ⟨acc⟩))=⟨⟨acc++ns.map fun n=>UInt8.ofNat n.toNat⟩⟩
 | [],acc=>by simp
 | n::r,acc=>by
   rw[List.foldl_cons];have:(ByteArray.mk ⟨acc⟩).push (UInt8.ofNat n.toNat)=⟨⟨acc++[UInt8.ofNat n.toNat]⟩⟩:=by
    show ByteArray.mk (Array.push ⟨acc⟩ _)=_;simp
   rw[this,A5N r];simp
theorem B9W{s t:TypeId}{x x' v:Value}(h:HR P base ρ m.H w)(hb:base≤w.heap.size)(ho:B0Z P m s t x=some (v,m'))(hf:K2 ρ m.n m'.hi)(hx:VR ρ x x'):VOk P base ρ m w (convert s t x') v m':=by
 unfold B0Z at ho;split at ho
 ·rename_i ds k j n hs ht;cases I8 hx;simp only[C9,O1]at ho;obtain⟨rfl,rfl⟩:=ho;refine VOk.same (v':=.int k (k.wrap n)) h ?_ (by rw[y5,A3a];exact .pure rfl);cases ds<;>simp[convert,Sem.run_bind,D5 hs,D5 ht,Result.andThen,Conv.intToInt]
 ·rename_i ds b hs ht;cases W5 hx;cases ho;refine VOk.same h ?_ (.pure rfl);cases ds<;>simp[convert,Sem.run_bind,D5 hs,D5 ht,Result.andThen]
 ·rename_i ds j n hs ht;cases I8 hx;cases ho;refine VOk.same (v':=.string (Utf8.encode n)) h ?_ (.pure rfl);cases ds<;>simp[convert,Sem.run_bind,D5 hs,D5 ht,Result.andThen,Conv.intToString]
 ·rename_i ds e b hs ht;cases W5 hx;split at ho
  ·rename_i he;split at ho
   ·rename_i hsz;rw[H5]at ho;let q:Question:=.appendCap b.size 0 e
    let cap:=q.cut (w.tape w.drawn q)
    have hcap:b.size≤cap:=by show b.size≤b.size+_;omega
    have hch:(choose q).run P w=.ok cap w.drew:=by
     simp only[choose,Sem.run];rw[if_neg (by simp[q,Question.forced])];rfl
    let C:Array Value:=(b.data.map fun b=>Value.int .u8 b.toNat)++Array.replicate (cap-b.size) (.int .u8 0)
    have hC:C.size=cap:=by
     have:b.data.size=b.size:=rfl;simp[C,this];omega
    obtain⟨e1,e2,e3⟩:=A1I (wd:=w.drew) (fz:=(C.size,C.size+1)) (cap:=cap) (C:=C) h hb ho hf (A7o ρ b.data.toList) (fun i u hi=>by
      have hl:=(A9.1 hi).1;simp[P2]at hl;have hl':i<(b.data.map fun b=>Value.int .u8 b.toNat).size:=by simpa using hl
      show((b.data.map fun b=>Value.int .u8 b.toNat)++Array.replicate (cap-b.size) (.int .u8 0))[i]? = some u;rw[T9 hl']
      simpa [P2]using hi) (fun i hi hh=>by have:=hh.1;simp only at this;omega)
     (fun inf h2=>by
       have:inf.size=1:=by unfold G3 at hsz;rw[h2]at hsz;exact A8 hsz
       rw[this,hC];omega) ⟨rfl,rfl,rfl⟩ rfl
    refine⟨.slice (some ⟨w.heap.size,0,none⟩) b.size cap,_,_,?_,?_,e3⟩
    ·have hmk:∀ w2:World,w2.heap[w.heap.size]? = some (.cells C e (0,0))→(markStringish ⟨w.heap.size,0,none⟩).run P w2=.ok () (w2.freeze { block:=w.heap.size,off:=C.size } 1):=fun w2 h2=>by
      simp[markStringish,shape,freeze,Sem.run,World.shape?,h2]
     have hfr:({ w.drew with heap:=w.heap.push (.cells C e (0,0)) }:World).freeze { block:=w.heap.size,off:=C.size } 1={ w.drew with heap:=w.heap.push (.cells C e (C.size,C.size+1)) }:=by
      unfold World.freeze;rw[if_neg (by decide)];congr 1
      apply Array.ext_getElem?;intro i;rw[J0];by_cases hi:w.heap.size=i
      ·subst hi;simp
      ·rw[if_neg hi];simp only[o7];rw[if_neg (fun h=>hi h.symm),if_neg (fun h=>hi h.symm)]
     have hconv:(convert s t (.string b)).run P w=(Conv.stringToBytes e b).run P w:=by
      cases ds<;>simp[convert,Sem.run_bind,D5 hs,D5 ht,D5 he,Result.andThen]
     rw[hconv];unfold Conv.stringToBytes;simp only[Sem.run_bind,show(choose (.appendCap b.size 0 e)).run P w=.ok cap w.drew from hch,Result.andThen];have hnr:(newRow e C).run P w.drew=.ok ⟨w.heap.size,0,none⟩ { w.drew with heap:=w.heap.push (.cells C e (0,0)) }:=rfl;rw[show(newRow e ((b.data.map fun b=>Value.int .u8 b.toNat)++Array.replicate (cap-b.size) (.int .u8 0))).run P w.drew=_ from hnr];simp only[Result.andThen];rw[hmk _ (by simp),hfr];rfl
    ·rw[e1];exact VR.op (o:=0) (m':=cap) e2 (A7 _) hcap (fun _ _=>rfl)
   ·cases ho
  ·cases ho
 ·rename_i e n c hs ht;cases P6 hx;split at ho
  ·rename_i he;cases ho;refine VOk.same h (v':=.string ByteArray.empty) ?_ (.pure rfl);simp[convert,Sem.run_bind,D5 hs,D5 ht,D5 he,Result.andThen,Conv.bytesToString]
  ·cases ho
 ·rename_i e a n c hs ht;split at ho
  ·rename_i he;split at ho
   ·rename_i cs hr;split at ho
    ·rename_i l hl;cases ho;obtain⟨ns,h1,h2⟩:=A5W hl;have hfin:∀ a' c',(loadCells a' n).run P w=.ok (ns.map (Value.int .u8)).toArray w→(convert s t (.slice (some a') n c')).run P w=.ok (.string ⟨⟨l⟩⟩) w:=fun a' c' hlc=>by
      have:=run_bytesToString w a' n c' ns hlc;have e2:=A5N ns [];simp only[U9]at e2;simp only[convert,Sem.run_bind,D5 hs,D5 ht,D5 he,Result.andThen];rw[this,show ByteArray.empty=ByteArray.mk ⟨[]⟩from rfl,e2,h2]
     rcases O8 hx with⟨lc,hlc,_,_,rfl⟩|⟨lc,c',hlc,_,_,_,_,rfl⟩|⟨a',c',_,rfl,_,rfl⟩
     ·obtain⟨r',g1,g2,g3⟩:=j9 h hr hlc;rw[h1]at g1
      have:=A6C g1;subst this;exact VOk.same h (hfin _ _ (J4 g2 g3)) (.pure rfl)
     ·obtain⟨r',g1,g2,g3⟩:=j9 h hr hlc;rw[h1]at g1
      have:=A6C g1;subst this;exact VOk.same h (hfin _ _ (J4 g2 g3)) (.pure rfl)
     ·have:cs=[]:=by
       unfold w5 at hr;split at hr
       ·have:=(A3E hr).2;simpa using this
       ·cases hr
      subst this;have:ns=[]:=by cases ns with|nil=>rfl|cons _ _=>cases h1
      subst this;exact VOk.same h (hfin _ _ (by simp[loadCells,loadCellsFrom])) (.pure rfl)
    ·cases ho
   ·cases ho
  ·cases ho
 ·cases ho
end
end Go.Sx
