/- The law ColorBack: for every input the call returns true, and the arguments read behind it as they read before. No condition. -/
import Derived.Test.YtdmdghooamchfaaDoorX4
import Derived.Lib.Bytealg
import Derived.Lib.MakeNoZero
namespace Go.Sx
set_option linter.all false
open Go
set_option linter.unusedVariables false
set_option linter.unusedSimpArgs false
variable [Ora]
theorem keepL_get {H':Hp AB}:∀ (l:List Nat) (H:Hp AB),(∀ b ∈ l,b≤most)→∀ id,id≤most→Hp.get (keepL H' H l) id=if id ∈ l then Hp.get H' id else Hp.get H id
 | [],H,_,id,_=>by simp [keepL]
 | b::r,H,hl,id,hid=>by
   have hb:=hl b List.mem_cons_self
   rw [keepL,put_eq,keepL_get r _ (fun x hx=>hl x (List.mem_cons_of_mem _ hx)) id hid,hp_get_set _ _ _ _ hb hid]
   by_cases h1:id ∈ r
   ·rw [if_pos h1,if_pos (List.mem_cons_of_mem _ h1)]
   ·rw [if_neg h1]
    by_cases h2:id=b
    ·subst h2; rw [if_pos rfl,if_pos List.mem_cons_self]
    ·rw [if_neg h2,if_neg (by simp [h1,h2])]
theorem hasN_iff {l:List Nat} {b:Nat}:hasN l b=true↔b ∈ l:=by
 unfold hasN
 rw [List.any_eq_true]
 constructor
 ·rintro ⟨x,hx,h⟩; rw [Nat.eq_of_beq_eq_true h]; exact hx
 ·intro h; exact ⟨b,h,by simp⟩
theorem mem_dedup:∀ (l acc:List Nat) (b:Nat),b ∈ dedup l acc↔b ∈ l∨b ∈ acc
 | [],acc,b=>by simp [dedup]
 | x::r,acc,b=>by
   unfold dedup
   cases h:hasN acc x with
   | true =>
     have hx:=hasN_iff.1 h
     simp only [cond_true]
     rw [mem_dedup r acc b]
     constructor
     ·rintro (h|h)
      ·exact .inl (List.mem_cons_of_mem _ h)
      ·exact .inr h
     ·rintro (h|h)
      ·rcases List.mem_cons.1 h with rfl|h
       ·exact .inr hx
       ·exact .inl h
      ·exact .inr h
   | false =>
     simp only [cond_false]
     rw [mem_dedup r (x::acc) b]
     simp only [List.mem_cons]
     constructor
     ·rintro (h|h|h)
      ·exact .inl (.inr h)
      ·exact .inl (.inl h)
      ·exact .inr h
     ·rintro ((h|h)|h)
      ·exact .inr (.inl h)
      ·exact .inl h
      ·exact .inr (.inr h)
theorem bigIds_le {l:List Nat} (h:bigIds l=true):∀ b ∈ l,b≤most:=fun b hb=>Nat.le_of_ble_eq_true (List.all_eq_true.1 h b hb)
section
variable {P:Program} {base gl nt:Nat}
theorem low_VR {ρ ρ1:Ren} {n:Nat} (ho:∀ b l,b < n→ρ1 b=some l→ρ b=some l) {v v':Value} (h:VR ρ1 v v'):∀ (d:Nat),lowV n d v=true→VR ρ v v':=by
 have hl:∀ (low:Value→Bool) (a:List Value),lowL low a=true→∀ (i:Nat) (v:Value),a[i]? = some v→low v=true:=fun low a=>by
  induction a with
  | nil=>intro _ i v h; simp at h
  | cons x r ih =>
    intro h i v hi
    obtain ⟨h1,h2⟩:=boolAnd (show (low x && lowL low r)=true from h)
    cases i with
    | zero=>simp at hi; subst hi; exact h1
    | succ i=>exact ih h2 i v (by simpa using hi)
 induction h with
 | pure h=>intro d _; exact .pure h
 | hole h ht=>intro d _; exact .hole h ht
 | junk h=>intro d _; exact .junk h
 | ixp h hs hi hz hv =>
   intro d hd
   cases d with
   | zero=>cases hd
   | succ d =>
     obtain ⟨g1,_⟩:=boolAnd hd
     obtain ⟨g1,_⟩:=boolAnd (show (lowV n d _ && _)=true from g1)
     cases d with
     | zero=>cases g1
     | succ d=>exact .ixp (ho _ _ (Nat.le_of_ble_eq_true g1) h) hs hi hz hv
 | dat h h1 h2 h3 h4 =>
   intro d hd
   cases d with
   | zero=>cases hd
   | succ d =>
     obtain ⟨g1,_⟩:=boolAnd hd
     obtain ⟨g1,_⟩:=boolAnd (show (lowV n d _ && _)=true from g1)
     cases d with
     | zero=>cases g1
     | succ d=>exact .dat (ho _ _ (Nat.le_of_ble_eq_true g1) h) h1 h2 h3 h4
 | clp h h1 h2 h3 h4 h5 =>
   intro d hd
   cases d with
   | zero=>cases hd
   | succ d =>
     obtain ⟨g1,_⟩:=boolAnd hd
     obtain ⟨g1,_⟩:=boolAnd (show (lowV n d _ && _)=true from g1)
     cases d with
     | zero=>cases g1
     | succ d=>exact .clp (ho _ _ (Nat.le_of_ble_eq_true g1) h) h1 h2 h3 h4 h5
 | own h h1 h2 =>
   intro d hd
   cases d with
   | zero=>cases hd
   | succ d =>
     obtain ⟨g1,_⟩:=boolAnd hd
     obtain ⟨g1,_⟩:=boolAnd (show (lowV n d _ && _)=true from g1)
     cases d with
     | zero=>cases g1
     | succ d=>exact .own (h.imp (fun ⟨l,w,a,b⟩=>⟨l,w,ho _ _ (Nat.le_of_ble_eq_true g1) a,b⟩) fun ⟨l,w,rows,a,b⟩=>⟨l,w,rows,ho _ _ (Nat.le_of_ble_eq_true g1) a,b⟩) h1 h2
 | dpt h h1 h2 =>
   intro d hd
   cases d with
   | zero=>cases hd
   | succ d =>
     obtain ⟨g1,_⟩:=boolAnd hd
     obtain ⟨g1,_⟩:=boolAnd (show (lowV n d _ && _)=true from g1)
     cases d with
     | zero=>cases g1
     | succ d=>exact .dpt (let ⟨l,w,rows,a,s,c,k,h0,r⟩:=h; ⟨l,w,rows,a,s,c,k,ho _ _ (Nat.le_of_ble_eq_true g1) h0,r⟩) h1 h2
 | opt h h1 h2 =>
   intro d hd
   cases d with
   | zero=>cases hd
   | succ d =>
     obtain ⟨g1,_⟩:=boolAnd hd
     obtain ⟨g1,_⟩:=boolAnd (show (lowV n d _ && _)=true from g1)
     cases d with
     | zero=>cases g1
     | succ d=>exact .opt (let ⟨l,w,rows,k,h0,r⟩:=h; ⟨l,w,rows,k,ho _ _ (Nat.le_of_ble_eq_true g1) h0,r⟩) h1 h2
 | ptr h=>intro d hd; cases d with|zero=>cases hd|succ d=>exact .ptr (ho _ _ (Nat.le_of_ble_eq_true hd) h)
 | sl h hm=>intro d hd; cases d with|zero=>cases hd|succ d=>exact .sl (ho _ _ (Nat.le_of_ble_eq_true hd) h) hm
 | op h hm hn hc=>intro d hd; cases d with|zero=>cases hd|succ d=>exact .op (ho _ _ (Nat.le_of_ble_eq_true hd) h) hm hn hc
 | opE hs=>intro d _; exact .opE hs
 | map h=>intro d hd; cases d with|zero=>cases hd|succ d=>exact .map (ho _ _ (Nat.le_of_ble_eq_true hd) h)
 | sdt h =>
   intro d hd
   cases d with
   | zero=>cases hd
   | succ d =>
     obtain ⟨g1,_⟩:=boolAnd hd
     obtain ⟨g1,_⟩:=boolAnd (show (lowV n d _ && _)=true from g1)
     cases d with
     | zero=>cases g1
     | succ d=>exact .sdt (let ⟨l,a,b⟩:=h; ⟨l,ho _ _ (Nat.le_of_ble_eq_true g1) a,b⟩)
 | yv h =>
   intro d hd
   cases d with
   | zero=>cases hd
   | succ d =>
     obtain ⟨g1,_⟩:=boolAnd hd
     obtain ⟨g1,_⟩:=boolAnd (show (lowV n d _ && _)=true from g1)
     cases d with
     | zero=>cases g1
     | succ d=>exact .yv (ho _ _ (Nat.le_of_ble_eq_true g1) h)
 | func ha hb h1 h2 ih1 ih2 =>
   intro d hd
   cases d with
   | zero=>cases hd
   | succ d =>
     obtain ⟨g1,g2⟩:=boolAnd hd
     exact .func ha hb (fun i v v' a b=>ih1 i v v' a b d (hl _ _ g1 i v a)) (fun i v v' a b=>ih2 i v v' a b d (hl _ _ g2 i v a))
 | iface h ih=>intro d hd; cases d with|zero=>cases hd|succ d=>exact .iface (ih d hd)
 | agg ha h ih=>intro d hd; cases d with|zero=>cases hd|succ d=>exact .agg ha (fun i v v' a b=>ih i v v' a b d (hl _ _ hd i v a))
 | tuple ha h ih=>intro d hd; cases d with|zero=>cases hd|succ d=>exact .tuple ha (fun i v v' a b=>ih i v v' a b d (hl _ _ hd i v a))
theorem low_BR {ρ ρ1:Ren} {n:Nat} (ho:∀ b l,b < n→ρ1 b=some l→ρ b=some l) {ab:AB} {l:Loc} {w:World} (h:BR P ρ1 ab l w) (hlow:lowB n (some ab)=true):BR P ρ ab l w:=by
 cases ab with
 | cells cs T ro =>
   obtain ⟨h0,C,fz,T',h1,h2,h3⟩:=h
   refine ⟨h0,C,fz,T',h1,fun i v hi=>?_,h3⟩
   obtain ⟨v',g1,g2⟩:=h2 i v hi
   have hv:lowV n 10 v=true:=by
    have hlow2:lowL (lowV n 10) cs=true:=hlow
    clear h2 g1 g2 hlow
    induction cs generalizing i with
    | nil=>simp at hi
    | cons x r ih =>
      obtain ⟨q1,q2⟩:=boolAnd (show (lowV n 10 x && lowL (lowV n 10) r)=true from hlow2)
      cases i with
      | zero=>simp at hi; subst hi; exact q1
      | succ i=>exact ih i (by simpa using hi) q2
   exact ⟨v',g1,low_VR ho g2 10 hv⟩
 | map es clock =>
   obtain ⟨h0,es',h1,h2,h3⟩:=h
   refine ⟨h0,es',h1,h2,fun i e e' g1 g2=>?_⟩
   obtain ⟨a,b,c,d⟩:=h3 i e e' g1 g2
   have hv:lowV n 10 e.val=true:=by
    have hlow2:lowE n es=true:=hlow
    clear h3 h2 g2 a b c d hlow
    induction es generalizing i with
    | nil=>simp at g1
    | cons x r ih =>
      obtain ⟨q1,q2⟩:=boolAnd (show (lowV n 10 x.key && (lowV n 10 x.val && lowE n r))=true from hlow2)
      obtain ⟨q2,q3⟩:=boolAnd q2
      cases i with
      | zero=>simp at g1; subst g1; exact q2
      | succ i=>exact ih i (by simpa using g1) q3
   exact ⟨a,b,c,low_VR ho d 10 hv⟩
 | iter s pos=>exact h
 | lp f q vs st =>
   obtain ⟨h0,r,h1,h2⟩:=h
   refine ⟨h0,r,h1,h2.code,⟨h2.fr.1,fun i v v' g1 g2=>?_⟩,h2.st⟩
   have hv:lowV n 10 v=true:=by
    have hlow2:lowL (lowV n 10) vs=true:=hlow
    clear h2 g2 hlow
    induction vs generalizing i with
    | nil=>simp at g1
    | cons x r ih =>
      obtain ⟨q1,q2⟩:=boolAnd (show (lowV n 10 x && lowL (lowV n 10) r)=true from hlow2)
      cases i with
      | zero=>simp at g1; subst g1; exact q1
      | succ i=>exact ih i (by simpa using g1) q2
   exact low_VR ho (h2.fr.2 i v v' g1 g2) 10 hv
 | dfr b=>exact h
 | sq c t T g ro =>
   obtain ⟨wd,inf,h1,h2,h3,h4⟩:=SqR.ex h
   refine ⟨⟨wd,inf,h1,h2,h3,h4.imp (fun x=>x) fun ⟨hon,h5⟩=>⟨hon,?_⟩⟩⟩
   obtain ⟨C,fz,T',rows,lg,h1,h2,h3,h4,h5,h6,h7,h8,h9⟩:=h5
   exact ⟨C,fz,T',rows,lg,h1,h2,h3,h4,h5,h6,ho _ _ (Nat.le_of_ble_eq_true hlow) h7,h8,h9⟩
 | frz=>exact h
theorem lowW_mem {n:Nat} {H:Hp AB}:∀ {l:List Nat},lowW n H l=true→∀ b ∈ l,lowB n (Hp.get H b)=true
 | [],_,b,h=>by cases h
 | x::r,h,b,hb=>by
   obtain ⟨h1,h2⟩:=boolAnd (show (lowB n (Hp.get H x) && lowW n H r)=true from h)
   rcases List.mem_cons.1 hb with rfl|hb
   ·exact h1
   ·exact lowW_mem h2 b hb
theorem gc_ok {ρ ρ1:Ren} {m m1 m':Mem} {w w1:World} {v v':Value} (hg:gcM m m1 v=some m') (st:St P base ρ ρ1 ⟨m.H,m.n,[],m.hi,m.lg⟩ m1 w w1) (hat:At P base gl ρ m m'.hi w) (hv:VR ρ1 v v') :
  m'.hi=m1.hi∧∃ ρ2,VR ρ2 v v'∧St P base ρ ρ2 m m' w w1:=by
 have hn1:m1.n≤m1.hi:=st.nhi hat.nh
 have hle:m.hi≤m1.hi:=st.hle
 have hmemW:∀ b,b ∈ dedup (m1.W.filter fun b=>Nat.blt b m.n || Nat.ble m1.hi b) []↔b ∈ m1.W∧(b < m.n∨m1.hi≤b):=fun b=>by
  rw [mem_dedup]
  simp only [List.mem_filter,List.not_mem_nil,or_false,Bool.or_eq_true]
  constructor
  ·rintro ⟨h1,h2⟩; exact ⟨h1,h2.imp (fun h=>Nat.le_of_ble_eq_true h) (fun h=>Nat.le_of_ble_eq_true h)⟩
  ·rintro ⟨h1,h2⟩; exact ⟨h1,h2.imp (fun h=>Nat.ble_eq_true_of_le h) (fun h=>Nat.ble_eq_true_of_le h)⟩
 unfold gcM at hg
 generalize hW:dedup (m1.W.filter fun b=>Nat.blt b m.n || Nat.ble m1.hi b) []=W at hg hmemW
 simp only [forceN_eq,forceL_eq,force8_eq] at hg
 have hold:m1.hi=m'.hi→∀ b l,ρ b=some l→b < m.n∨m1.hi≤b:=fun he b l hb=>by
  rcases Nat.lt_or_ge b m.n with h1|h1
  ·exact .inl h1
  ·rcases Nat.lt_or_ge b m1.hi with h2|h2
   ·rw [hat.fr b h1 (he ▸ h2)] at hb; cases hb
   ·exact .inr h2
 have hnotW:m1.hi=m'.hi→∀ id,id≤most→id ∉ W→∀ ab,Hp.get m.H id=some ab→id ∉ m1.W∧Hp.get m1.H id=some ab:=fun he id hid hnw ab hab=>by
  obtain ⟨l,h1,_,_⟩:=hat.hr.at_ id hid ab hab
  have ho:=hold he id l h1
  have h2:id ∉ m1.W:=fun h=>hnw ((hmemW id).2 ⟨h,ho⟩)
  exact ⟨h2,by rw [st.same id hid h2 ho]; exact hab⟩
 have hwrw:∀ b ∈ W,∀ l,ρ b=some l→∃ ab,Hp.get m.H b=some ab∧ab.rw=true:=fun b hb l hl=>st.wrw b ((hmemW b).1 hb).1 (by simp) l hl
 cases hq:lowV m.n 10 v && lowW m.n m1.H W with
 | true =>
   rw [hq] at hg
   simp only [cond_true] at hg
   obtain ⟨hbig,hg⟩:=cond_some hg
   cases hg
   obtain ⟨q1,q2⟩:=boolAnd hq
   have hbig:=bigIds_le hbig
   have ho:∀ b l,b < m.n→ρ1 b=some l→ρ b=some l:=fun b l hb hl=>by
    cases h0:ρ b with
    | some l0=>rw [st.ext b l0 h0] at hl; exact hl
    | none=>have h:=(st.new b l hl h0).1; exact absurd hb (Nat.not_lt.2 h)
   have hget:∀ id,id≤most→Hp.get (keepL m1.H m.H W) id=if id ∈ W then Hp.get m1.H id else Hp.get m.H id:=fun id hid=>keepL_get W _ hbig id hid
   have hsub:∀ id,id≤most→∀ ab,Hp.get (keepL m1.H m.H W) id=some ab→Hp.get m1.H id=some ab:=fun id hid ab hab=>by
    rw [hget id hid] at hab
    by_cases h:id ∈ W
    ·rw [if_pos h] at hab; exact hab
    ·rw [if_neg h] at hab; exact (hnotW rfl id hid h ab hab).2
   have hr1:=st.hr.sub hsub
   have hρ:∀ id,id≤most→∀ ab,Hp.get (keepL m1.H m.H W) id=some ab→∀ l,ρ1 id=some l→ρ id=some l:=fun id hid ab hab l hl=>by
    cases h0:ρ id with
    | some l0=>rw [st.ext id l0 h0] at hl; exact hl
    | none =>
      exfalso
      have hn:=st.new id l hl h0
      rw [hget id hid] at hab
      by_cases h:id ∈ W
      ·have:=((hmemW id).1 h).2
       have h1:m.n≤id:=hn.1
       have h2:=hn.2
       omega
      ·rw [if_neg h] at hab
       obtain ⟨l0,h1,_⟩:=hat.hr.at_ id hid ab hab
       rw [h1] at h0; cases h0
   refine ⟨rfl,ρ,low_VR ho hv 10 q1,⟨fun _ _ h=>h,fun b k h1 h2=>(by rw [h1] at h2; cases h2),Nat.le_refl _,hle,fun h=>Nat.le_trans h hle,⟨hat.hr.dom,fun id hid ab hab=>?_⟩,fun b hb=>List.mem_append.2 (.inr hb),fun b h1 h2 l hl=>?_,fun k hk hb=>?_,st.size,st.os,fun b k h1 h2=>(by rw [h1] at h2; cases h2),fun id hid h1 h2=>?_,fun k ⟨id,a,q,hid,ha,hq,ht⟩=>?_⟩⟩
   ·obtain ⟨l,g1,g2,g3⟩:=hr1.at_ id hid ab hab
    have hl:=hρ id hid ab hab l g1
    refine ⟨l,hl,?_,fun hrw hon=>⟨(g3 hrw hon).1,fun id2 hid2 ab2 l2 f1 f2 f3=>(g3 hrw hon).2 id2 hid2 ab2 l2 f1 (st.ext _ _ f2) f3⟩⟩
    have hab0:=hab
    rw [hget id hid] at hab
    by_cases h:id ∈ W
    ·rw [if_pos h] at hab
     have:=lowW_mem q2 id h
     rw [hab] at this
     exact low_BR ho g2 this
    ·rw [if_neg h] at hab
     obtain ⟨l0,e1,e2,e3⟩:=hat.hr.at_ id hid ab hab
     rw [hl] at e1
     have:=Option.some.inj e1; subst this
     refine e2.mono (fun _ _ h=>h) (fun k hk=>st.keep k (e2.tc hk) fun b hb lb hlb hlo heq=>?_)
     have hbW:b ∈ W:=(hmemW b).2 ⟨hb,hold rfl b lb hlb⟩
     obtain ⟨abb,c1,c2⟩:=hwrw b hbW lb hlb
     have:=((hat.hr.atl hlb c1).2 c2 hlo).2 id hid ab l hab hl (heq ▸ hk)
     subst this
     exact h hbW
   ·rcases List.mem_append.1 h1 with h|h
    ·exact hwrw b h l hl
    ·exact absurd h h2
   ·exact st.keep k hk fun b hb' l hl ho=>hb b (List.mem_append.2 (.inl ((hmemW b).2 ⟨hb',hold rfl b l hl⟩))) l hl ho
   ·show Hp.get (keepL m1.H m.H W) id=_
    rw [hget id hid,if_neg (fun h=>h1 (List.mem_append.2 (.inl h)))]
   ·have ha:Hp.get (keepL m1.H m.H W) id=some a:=ha
    rw [hget id hid] at ha
    by_cases h:id ∈ W
    ·rw [if_pos h] at ha
     exact st.tch k ⟨id,a,q,hid,ha,st.ext _ _ hq,ht⟩
    ·rw [if_neg h] at ha
     exact .inr ⟨id,a,q,hid,ha,hq,ht⟩
 | false =>
   rw [hq] at hg
   simp only [cond_false] at hg
   generalize hI:(reach m.n m1.H 100000 (idsV 10 v++wOf m1.H W) []).filter (fun b=>Nat.ble m.n b && Nat.blt b m1.hi)=I at hg
   have hIm:∀ b ∈ I,m.n≤b∧b < m1.hi:=fun b hb=>by
    subst hI
    obtain ⟨_,h⟩:=List.mem_filter.1 hb
    obtain ⟨h1,h2⟩:=boolAnd h
    exact ⟨Nat.le_of_ble_eq_true h1,Nat.le_of_ble_eq_true h2⟩
   obtain ⟨hbig,hg⟩:=cond_some hg
   cases hg
   have hbig:=bigIds_le hbig
   have hget:∀ id,id≤most→Hp.get (keepL m1.H m.H (W++I)) id=if id ∈ W++I then Hp.get m1.H id else Hp.get m.H id:=fun id hid=>keepL_get _ _ hbig id hid
   have hsub:∀ id,id≤most→∀ ab,Hp.get (keepL m1.H m.H (W++I)) id=some ab→Hp.get m1.H id=some ab:=fun id hid ab hab=>by
    rw [hget id hid] at hab
    by_cases h:id ∈ W++I
    ·rw [if_pos h] at hab; exact hab
    ·rw [if_neg h] at hab; exact (hnotW rfl id hid (fun hh=>h (List.mem_append.2 (.inl hh))) ab hab).2
   refine ⟨rfl,ρ1,hv,⟨st.ext,st.new,st.nle,hle,fun _=>hn1,st.hr.sub hsub,fun b hb=>List.mem_append.2 (.inr hb),fun b h1 h2 l hl=>?_,fun k hk hb=>?_,st.size,st.os,fun b l h1 h2 ho=>?_,fun id hid h1 h2=>?_,fun k ⟨id,a,q,hid,ha,hq,ht⟩=>?_⟩⟩
   ·rcases List.mem_append.1 h1 with h|h
    ·exact hwrw b h l hl
    ·exact absurd h h2
   ·exact st.keep k hk fun b hb' l hl ho=>hb b (List.mem_append.2 (.inl ((hmemW b).2 ⟨hb',hold rfl b l hl⟩))) l hl ho
   ·rcases st.blk b l h1 h2 ho with h|⟨b0,h3,l0,h4,h5⟩
    ·exact .inl h
    ·exact .inr ⟨b0,List.mem_append.2 (.inl ((hmemW b0).2 ⟨h3,hold rfl b0 l0 h4⟩)),l0,h4,h5⟩
   ·show Hp.get (keepL m1.H m.H (W++I)) id=_
    rw [hget id hid,if_neg]
    intro h
    rcases List.mem_append.1 h with h|h
    ·exact h1 (List.mem_append.2 (.inl h))
    ·have:=hIm id h
     have h2:id < m.n∨m1.hi≤id:=h2
     omega
   ·have ha:Hp.get (keepL m1.H m.H (W++I)) id=some a:=ha
    rw [hget id hid] at ha
    by_cases h:id ∈ W++I
    ·rw [if_pos h] at ha
     exact st.tch k ⟨id,a,q,hid,ha,hq,ht⟩
    ·rw [if_neg h] at ha
     obtain ⟨l0,e1,_⟩:=hat.hr.at_ id hid a ha
     rw [st.ext _ _ e1] at hq
     have:=Option.some.inj hq; subst this
     exact .inr ⟨id,a,l0,hid,ha,e1,ht⟩
theorem argFr_get:∀ (vs:List Value) (fr:Fr) (i t:Nat),i+vs.length≤512→t < 512→(argFr fr i vs).get t=if i≤t∧t < i+vs.length then vs.getD (t - i) undef else fr.get t
 | [],fr,i,t,_,_=>by simp [argFr]; intro h1 h2; omega
 | v::r,fr,i,t,h,ht=>by
   simp only [List.length_cons] at h ⊢
   rw [argFr,setS_set,argFr_get r _ (i+1) t (by omega) ht,fr_get_set _ _ _ _ (by omega) ht]
   by_cases h1:i+1≤t∧t < i+1+r.length
   ·rw [if_pos h1,if_pos (by omega),show t - i=(t - (i+1))+1 by omega]; rfl
   ·rw [if_neg h1]
    by_cases h2:t=i
    ·subst h2; rw [if_pos rfl,if_pos (by omega),Nat.sub_self]; rfl
    ·rw [if_neg h2,if_neg (by omega)]
def resS (tmps:Array Value):ResultVar→Sem Value
 | .tmp t=>pure (tmps.getD t undef)
 | .cell a t=>do loadVar t (← asAddr (tmps.getD a undef))
variable {z:Zn}
theorem resL_ok {ρ:Ren} {s:S} {a:Act} {w:World} (h:HR P base ρ s.m.H w) (hf:FrR z ρ nt s.fr a):∀ (rs:List ResultVar) (vs:List Value),resL P nt s rs=some vs→∃ vs',LR ρ vs vs' ∧
  (rs.mapM (resS a.tmps)).run P w=.ok vs' w
 | [],vs,hr=>by
   simp only [resL,Option.some.injEq] at hr; subst hr
   exact ⟨[],.nil,rfl⟩
 | r::rs,vs,hr=>by
   unfold resL at hr
   split at hr
   ·rename_i v vs0 h1 h2
    cases hr
    obtain ⟨vs',g1,g2⟩:=resL_ok h hf rs vs0 h2
    have hone:∃ v',VR ρ v v'∧(resS a.tmps r).run P w=.ok v' w:=by
     unfold resV at h1
     split at h1
     ·rename_i t
      obtain ⟨q1,q2⟩:=cond_some h1
      cases q2
      exact ⟨_,hf.get t (Nat.le_of_ble_eq_true q1),rfl⟩
     ·rename_i c t
      obtain ⟨q1,q2⟩:=cond_some h1
      have hv:=hf.get c (Nat.le_of_ble_eq_true q1)
      split at q2
      ·rename_i ad hev
       rw [hev] at hv
       obtain ⟨l,hl,_,e⟩:=inv_ptr hv
       obtain ⟨v',e1,e2⟩:=loadM_ok h q2 hl
       exact ⟨v',e2,by simp [resS,e,asAddr,e1]⟩
      ·cases q2
    obtain ⟨v',e1,e2⟩:=hone
    refine ⟨v'::vs',.cons e1 g1,?_⟩
    simp only [List.mapM_cons,Sem.run_bind,e2,g2,Result.andThen,Sem.run_pure]
   ·cases hr
theorem resM_ok {ρ:Ren} {fn:Func} {s:S} {a:Act} {w:World} {v:Value} (h:HR P base ρ s.m.H w) (hf:FrR z ρ fn.ntmps s.fr a) (hr:resM fn P s=some v):∃ v',VR ρ v v'∧(results fn a.tmps).run P w=.ok v' w:=by
 unfold resM at hr
 have key:∀ vs,resL P fn.ntmps s fn.results.toList=some vs→∃ vs',LR ρ vs vs'∧(results fn a.tmps).run P w=.ok (if h:vs'.toArray.size=1 then vs'.toArray[0] else .tuple vs'.toArray) w:=fun vs hvs=>by
  obtain ⟨vs',g1,g2⟩:=resL_ok h hf _ vs hvs
  refine ⟨vs',g1,?_⟩
  have he:results fn a.tmps=(do let vs ← fn.results.mapM (resS a.tmps); pure (if h:vs.size=1 then vs[0] else .tuple vs)):=by
   unfold results; rfl
  have hm:(fn.results.mapM (resS a.tmps)).run P w=.ok vs'.toArray w:=by
   rw [Array.mapM_eq_mapM_toList]
   show (Sem.bind (fn.results.toList.mapM (resS a.tmps)) fun l=>Sem.pure l.toArray).run P w=_
   have hb:∀ (x:Sem (List Value)) (k:List Value→Sem (Array Value)),(Sem.bind x k).run P w=(x >>= k).run P w:=fun _ _=>rfl
   rw [hb,Sem.run_bind,g2]; rfl
  rw [he,Sem.run_bind,hm]
  rfl
 split at hr
 ·rename_i u hl
  cases hr
  obtain ⟨vs',g1,g2⟩:=key _ hl
  obtain ⟨v',r',rfl,g3,g4⟩:=g1.tail
  cases g4.nil_inv
  exact ⟨v',g3,g2⟩
 ·rename_i vs hne hl
  cases hr
  obtain ⟨vs',g1,g2⟩:=key _ hl
  refine ⟨.tuple ⟨vs'⟩,.tuple g1.1 g1.2,?_⟩
  rw [g2,dif_neg]
  intro h1
  have h1:vs'.length=1:=by simpa using h1
  have h2:vs.length=1:=by rw [g1.1]; exact h1
  obtain ⟨x,rfl⟩:=List.length_eq_one_iff.1 h2
  exact hne x rfl
 ·cases hr
def NameOk (P:Program):Prop:=∀ (f:Nat) (fn:Func),P.funcs[f]? = some fn→(fn.name == "runtime.NumGoroutine")=false
theorem gcM_lg {m m1 m':Mem} {v:Value} (hg:gcM m m1 v=some m'):m'.lg=m1.lg:=by
 unfold gcM at hg
 simp only [forceN_eq,forceL_eq,force8_eq] at hg
 cases hq:lowV m.n 10 v && lowW m.n m1.H (dedup (m1.W.filter fun b=>Nat.blt b m.n || Nat.ble m1.hi b) []) with
 | true=>rw [hq] at hg; obtain ⟨_,q⟩:=cond_some hg; cases q; rfl
 | false=>rw [hq] at hg; obtain ⟨_,q⟩:=cond_some hg; cases q; rfl
theorem takeD_hl:∀ {l:List Nat} {m m':Mem},takeD l m=some m'→m'.hi=m.hi∧m'.n=m.n∧m'.lg=m.lg
 | [],m,m',h=>by cases h; exact ⟨rfl,rfl,rfl⟩
 | b::r,m,m',h=>by
   unfold takeD at h
   split at h
   ·split at h
    ·rename_i m1 hm
     obtain ⟨_,e⟩:=setM_eq hm
     obtain ⟨h1,h2,h3⟩:=takeD_hl h
     subst e
     exact ⟨h1,h2,h3⟩
    ·cases h
   ·cases h
theorem endM_eq {fn:Func} {m m':Mem} {r:Option (Ex × S)} {v:Value} (h:endM fn P m r=some (v,m')):∃ e s m1,r=some (e,s)∧(e=.normal∨e=.ret)∧takeD (dvG fn.ntmps s.fr) s.m=some m1∧resM fn P ⟨s.fr,m1⟩=some v∧gcM m m1 v=some m':=by
 have key:∀ (fr:Fr) (m0:Mem),(match takeD (dvG fn.ntmps fr) m0 with
  | some m1=>match resM fn P ⟨fr,m1⟩ with
    | some v=>match gcM m m1 v with
      | some m=>some (v,m)
      | none=>none
    | none=>none
  | none=>none)=some (v,m')→∃ m1,takeD (dvG fn.ntmps fr) m0=some m1∧resM fn P ⟨fr,m1⟩=some v∧gcM m m1 v=some m':=fun fr m0 h=>by
  split at h
  ·rename_i m1 h1
   split at h
   ·rename_i u h2
    split at h
    ·rename_i m2 h3; cases h; exact ⟨m1,h1,h2,h3⟩
    ·cases h
   ·cases h
  ·cases h
 unfold endM at h
 split at h
 ·rename_i fr m1
  obtain ⟨m2,a,b,c⟩:=key _ _ h
  exact ⟨_,_,m2,rfl,.inl rfl,a,b,c⟩
 ·rename_i fr m1
  obtain ⟨m2,a,b,c⟩:=key _ _ h
  exact ⟨_,_,m2,rfl,.inr rfl,a,b,c⟩
 ·cases h
theorem body_lg {fn:Func} {c:Code} {call:CallT} (hc:CallOk P base gl call) (hd:DrawsOk P base gl call) {lp:LpT} (hlp:LpOk P base gl fn.ntmps c lp) {vs:List Value} {m m':Mem} {v:Value}
  (hr:bodyM fn P (compC P fn.ntmps gl call lp [] c) vs m=some (v,m')):m.lg.le m'.lg:=by
 unfold bodyM at hr
 obtain ⟨_,hr⟩:=cond_some hr
 obtain ⟨e,s,m1,h1,_,h2,h3,h4⟩:=endM_eq hr
 have hst:startM (compC P fn.ntmps gl call lp [] c) (argFr fr0 0 vs) m=(compC P fn.ntmps gl call lp [] c).run ⟨argFr fr0 0 vs,⟨m.H,m.n,[],m.hi,m.lg⟩⟩:=rfl
 rw [hst] at h1
 have k1:=(code_hi hc hd hlp c [] rfl _ _ _ h1).2
 rw [gcM_lg h4,(takeD_hl h2).2.2]; exact k1
theorem leaves_ok {fn:Func} {tmps:Array Value} {R:Ending→World→Prop} {ρ:Ren} {hi:Nat}:∀ (ids:List Nat) (ds:List Deferred) (m md:Mem) (w:World),takeD ids m=some md→DfR ρ ids ds→HR P base ρ m.H w→Free ρ m.n md.hi →
  (∀ w',St P base ρ ρ m md w w'→∃ v,(results fn tmps).run P w'=.ok v w'∧R (.returned v) w')→LeavesInM (fw none) 0 P fn tmps R ds .returning w
 | [],ds,m,md,w,h,hd,hr,hf,hR=>by
   cases h
   have:ds=[]:=List.length_eq_zero_iff.1 hd.1.symm
   subst this
   exact hR w (.refl hr)
 | b::r,[],m,md,w,h,hd,hr,hf,hR=>by have:=hd.1; simp at this
 | b::r,d::ds,m,md,w,h,hd,hr,hf,hR=>by
   unfold takeD at h
   split at h
   ·rename_i hg
    split at h
    ·rename_i m1 hm
     obtain ⟨l,hl,hdm⟩:=hd.2 0 b d rfl rfl
     obtain ⟨⟨⟨b1,b2⟩,x,b3,b4⟩,_⟩:=hr.atl hl hg
     have:=b4 rfl
     subst this
     obtain ⟨p1,p2,p3⟩:=putObj_get (o:=.deferred none) (Array.getElem?_eq_some_iff.1 b3).1
     have st1:St P base ρ ρ m m1 w (w.putObj l.blk (.deferred none)):=St.write hr hm hg rfl hl b1 ⟨rfl,rfl,rfl⟩ p1 p3 ⟨⟨b1,b2⟩,_,p2,fun h=>by cases h⟩
     obtain ⟨e1,e2⟩:=setM_eq hm
     have hn:m1.n=m.n:=by rw [e2]
     refine ⟨(by intro h; cases h),.inl ⟨l.blk,_,by rw [hdm]; rfl,run_takeDeferred b3,?_⟩⟩
     exact leaves_ok (hi:=hi) r ds m1 md _ h ⟨by have:=hd.1; simpa using this,fun i id d a b=>hd.2 (i+1) id d (by simpa using a) (by simpa using b)⟩ st1.hr (by rw [hn]; exact hf) fun w' st2=>hR w' (St.trans hf st1 st2)
    ·cases h
   ·cases h
theorem body_ok {f:FuncId} {fn:Func} {c:Code} {call:CallT} (hf:P.funcs[f]? = some fn) (hb:fn.body=some c) (hnm:(fn.name == "runtime.NumGoroutine")=false) (hc:CallOk P base gl call) (hd:DrawsOk P base gl call) {lp:LpT} (hlp:LpOk P base gl fn.ntmps c lp) :
  FnOk P base gl f ⟨bodyM fn P (compC P fn.ntmps gl call lp [] c)⟩:=by
 refine ⟨fun vs m m' v hr=>body_lg hc hd hlp hr,?_⟩
 intro ρ m m' w vs vs' v hr hS hat hl
 have hr:bodyM fn P (compC P fn.ntmps gl call lp [] c) vs m=some (v,m'):=hr
 unfold bodyM at hr
 obtain ⟨h1,hr⟩:=cond_some hr
 obtain ⟨h1,h2⟩:=boolAnd h1
 have h1:=Nat.le_of_ble_eq_true h1
 have h2:=Nat.le_of_ble_eq_true h2
 left
 constructor
 ·have hn:fn.name ≠ "runtime.NumGoroutine":=by simpa using hnm
  simp [callFunc,hf,hn,hb]
 ·obtain ⟨e,s,m1,hrun,he,htk,hres,hgc⟩:=endM_eq hr
  have hst:startM (compC P fn.ntmps gl call lp [] c) (argFr fr0 0 vs) m=(compC P fn.ntmps gl call lp [] c).run ⟨argFr fr0 0 vs,⟨m.H,m.n,[],m.hi,m.lg⟩⟩:=rfl
  rw [hst] at hrun
  have hun:∀ t,vs.length≤t→t < 512→(argFr fr0 0 vs).get t=undef:=fun t k1 k2=>by
   rw [argFr_get _ _ _ _ (by omega) k2,if_neg (by omega),fr_get0]
  have hfr:FrR ⟨none,[]⟩ ρ fn.ntmps (argFr fr0 0 vs) { tmps:=⟨vs'⟩++Array.replicate (fn.ntmps - (Array.mk vs').size) undef,defers:=[] }:=by
   have hlen:=hl.1
   refine ⟨by simp; omega,h2,⟨[],rfl,?_⟩,fun hn=>⟨fun _=>rfl,fun b hb=>?_⟩,fun t ht=>?_⟩
   ·unfold dvG
    cases hq:Nat.ble fn.ntmps 510 with
    | true =>
      have:=Nat.le_of_ble_eq_true hq
      rw [hun 510 (by omega) (by decide)]
      exact .nil
    | false=>exact .nil
   ·rw [hun 511 (by omega) (by decide)] at hb; cases hb
   ·rw [argFr_get _ _ _ _ (by omega) (by omega)]
    by_cases hlt:t < vs.length
    ·rw [if_pos (by omega)]
     have hlt':t < vs'.length:=by omega
     have:=hl.2 t vs[t] vs'[t] (List.getElem?_eq_getElem hlt) (List.getElem?_eq_getElem hlt')
     simpa [Array.getD_eq_getD_getElem?,Array.getElem?_append,hlt,hlt',List.getD_eq_getElem?_getD] using this
    ·rw [if_neg (by omega),fr_get0]
     have hlt':¬ t < vs'.length:=by omega
     have:(({ toList:=vs' }:Array Value)++Array.replicate (fn.ntmps - (Array.mk vs').size) undef).getD t undef=undef:=by
      simp [Array.getD_eq_getD_getElem?,Array.getElem?_append,hlt',Array.getElem?_replicate]
      split <;> rfl
     rw [this]; exact undef_VR ρ
  have hhi:m1.hi=m'.hi:=by
   have hgc:=hgc
   unfold gcM at hgc
   simp only [forceN_eq,forceL_eq,force8_eq] at hgc
   cases hq:lowV m.n 10 v && lowW m.n m1.H (dedup (m1.W.filter fun b=>Nat.blt b m.n || Nat.ble m1.hi b) []) with
   | true=>rw [hq] at hgc; obtain ⟨_,q⟩:=cond_some hgc; cases q; rfl
   | false=>rw [hq] at hgc; obtain ⟨_,q⟩:=cond_some hgc; cases q; rfl
  obtain ⟨t1,t2,t3⟩:=takeD_hl htk
  have hat0:At P base gl ρ ⟨m.H,m.n,[],m.hi,m.lg⟩ s.m.hi w:=⟨hat.hr,hat.bs,fun b q1 q2=>hat.fr b q1 (by rw [← hhi,t1]; exact q2),hat.gr,hat.nh,fun b hb=>(by cases hb),hat.gf⟩
  have hS1:Sat s.m.lg:=by rw [← t3,← gcM_lg hgc]; exact hS
  refine callsIn_fw.1 (callsIn_of_wp_marks (F:=fw none) (n:=0) hf hb trivial ?_ rfl)
  refine code_ok (z:=⟨none,[]⟩) hc hd hlp c [] rfl ρ _ s e _ w _ hrun hS1 hat0 hfr fun ρ1 a1 w1 f1 st1=>?_
  obtain ⟨ds,d1,d2⟩:=f1.df
  have d1:a1.defers=ds:=by rw [d1]; simp
  have hlv:LeavesInM (fw none) 0 P fn a1.tmps (Post P base ρ m m' w v) a1.defers .returning w1:=by
   rw [d1]
   have hat1:=hat0.step st1
   refine leaves_ok (base:=base) (ρ:=ρ1) (hi:=0) _ _ _ _ _ htk d2 st1.hr (by rw [t1]; exact hat1.fr) fun w' st2=>?_
   have st3:=St.trans (by have:=hat0.fr; rw [t1]; exact this) st1 st2
   obtain ⟨v',g1,g2⟩:=resM_ok (s:=⟨s.fr,m1⟩) st2.hr f1 hres
   obtain ⟨_,ρ2,g3,g4⟩:=gc_ok hgc st3 hat g1
   exact ⟨v',g2,v',ρ2,rfl,g3,g4⟩
  rcases he with rfl|rfl
  ·exact hlv
  ·exact hlv
theorem putPs_ok {ρ:Ren} {nt:Nat} (hn:nt≤512):∀ (ps:List Tmp) (args args':List Value) (fr fr':Fr) (tmps:Array Value),putPs ps args fr=some fr'→LR ρ args args'→(∀ t ∈ ps,t < nt)→tmps.size=nt→(∀ t,t < nt→VR ρ (fr.get t) (tmps.getD t undef)) →
  ps.length=args'.length∧((ps.zip args').foldl (fun tmps (t,a)=>tmps.setIfInBounds t a) tmps).size=nt∧(∀ t,t < nt→VR ρ (fr'.get t) (((ps.zip args').foldl (fun tmps (t,a)=>tmps.setIfInBounds t a) tmps).getD t undef))∧∀ t,nt≤t→t < 512→fr'.get t=fr.get t
 | [],[],args',fr,fr',tmps,h,hl,hp,hs,hg=>by
   cases h
   rw [hl.nil_inv]
   exact ⟨rfl,hs,hg,fun _ _ _=>rfl⟩
 | [],_::_,_,_,_,_,h,_,_,_,_=>by cases h
 | _::_,[],_,_,_,_,h,_,_,_,_=>by cases h
 | t::ps,v::vs,args',fr,fr',tmps,h,hl,hp,hs,hg=>by
   obtain ⟨v',r',rfl,h1,h2⟩:=hl.tail
   have ht:t < nt:=hp t List.mem_cons_self
   have h:putPs ps vs (fr.set t v)=some fr':=by
    have e:putPs (t::ps) (v::vs) fr=putPs ps vs (fr.set t v):=setS_eq t v fr (fun fr=>putPs ps vs fr)
    rw [← e]; exact h
   obtain ⟨k1,k2,k3,k4⟩:=putPs_ok hn ps vs r' (fr.set t v) fr' (tmps.setIfInBounds t v') h h2 (fun u hu=>hp u (List.mem_cons_of_mem _ hu)) (by simp [hs]) (fun u hu=>by
    rw [fr_get_set _ _ _ _ (Nat.lt_of_lt_of_le ht hn) (Nat.lt_of_lt_of_le hu hn)]
    simp only [Array.getD_eq_getD_getElem?,Array.getElem?_setIfInBounds]
    by_cases e:u=t
    ·subst e
     rw [if_pos rfl,if_pos rfl,if_pos (by rw [hs]; exact hu)]
     exact h1
    ·rw [if_neg e,if_neg (fun h=>e h.symm)]
     have:=hg u hu
     simpa [Array.getD_eq_getD_getElem?] using this)
   refine ⟨by simp [k1],k2,k3,fun u h3 h4=>?_⟩
   rw [k4 u h3 h4,fr_get_set _ _ _ _ (Nat.lt_of_lt_of_le ht hn) h4,if_neg (fun e=>by subst e; exact absurd ht (Nat.not_lt.2 h3))]
theorem roundEnd_eq {b:Nat} {r:Option (Ex × S)} {v:Value} {m':Mem} (h:roundEnd b r=some (v,m')):∃ e s f q vs,r=some (e,s)∧Hp.get s.m.H b=some (.lp f q vs 1)∧setM s.m b (.lp f q vs (exN e))=some m'∧v=.bool (isNorm e):=by
 unfold roundEnd at h
 split at h
 ·rename_i e fr m
  split at h
  ·rename_i f q vs hg
   rw [forceN_eq] at h
   split at h
   ·rename_i m1 hm; cases h; exact ⟨e,⟨fr,m⟩,f,q,vs,rfl,hg,hm,rfl⟩
   ·cases h
  ·cases h
 ·cases h
theorem roundMid_eq {b:Nat} {c:CodeC} {r:Option (Ex × S)} {v:Value} {m':Mem} (h:roundMid b c r=some (v,m')):∃ s f q vs m1,r=some (.normal,s)∧Hp.get s.m.H b=some (.lp f q vs 0)∧setM s.m b (.lp f q vs 1)=some m1∧roundEnd b (c.run ⟨s.fr,m1⟩)=some (v,m'):=by
 unfold roundMid at h
 split at h
 ·rename_i fr m
  split at h
  ·rename_i f q vs hg
   split at h
   ·rename_i m1 hm; exact ⟨⟨fr,m⟩,f,q,vs,m1,rfl,hg,hm,h⟩
   ·cases h
  ·cases h
 ·cases h
theorem roundM_eq {C:Cx} {call:CallT} {vs:List Value} {m m':Mem} {v:Value} (h:(roundM C call).run vs m=some (v,m')):∃ b args f q fs fn body x ps as bd fr,vs=yv b::args∧Hp.get m.H b=some (.lp f q fs 0)∧C.P.funcs[f]? = some fn∧fn.body=some body∧codeAt q body=some (.rangeFunc x ps as bd) ∧
  fn.ntmps≤510∧(∀ t ∈ ps.toList,t < fn.ntmps)∧putPs ps.toList args (argFr fr0 0 fs)=some fr ∧
  roundMid b (compC C.P fn.ntmps C.gl call (C.lp f) (q++[true]) bd) ((compC C.P fn.ntmps C.gl call (C.lp f) (q++[false]) as).run ⟨fr.set 511 (yv b),m⟩)=some (v,m'):=by
 unfold roundM at h
 simp only at h
 split at h
 ·cases h
 ·rename_i u args
  split at h
  ·cases h
  ·rename_i b hb
   have:=yieldV_eq hb
   subst this
   split at h
   ·rename_i f q fs hg
    split at h
    ·cases h
    ·rename_i fn hf
     split at h
     ·cases h
     ·rename_i body hbd
      split at h
      ·rename_i x ps as bd hq
       obtain ⟨h1,h⟩:=cond_some h
       obtain ⟨h1,h2⟩:=boolAnd h1
       split at h
       ·rename_i fr hfr
        refine ⟨b,args,f,q,fs,fn,body,x,ps,as,bd,fr,rfl,hg,by simpa using hf,hbd,hq,Nat.le_of_ble_eq_true h1,fun t ht=>Nat.le_of_ble_eq_true (List.all_eq_true.1 h2 t ht),hfr,?_⟩
        have e:∀ (k:Fr→Res),setS (sel 7) (sel 7) (sel 7) (yv b) fr k=k (fr.set 511 (yv b)):=fun k=>setS_eq 511 (yv b) fr k
        rw [e] at h; exact h
       ·cases h
      ·cases h
   ·cases h
theorem round_ok {C:Cx} {call:CallT} (hc:CallOk C.P base C.gl call) (hd:DrawsOk C.P base C.gl call) (hlp:∀ f fn body,C.P.funcs[f]? = some fn→fn.body=some body→LpOk C.P base C.gl fn.ntmps body (C.lp f)):YlOk C.P base C.gl (roundM C call):=by
 refine ⟨fun vs m m' v h=>?_,fun ρ m m' w b args args' v l h hS hat hl hbl=>?_⟩
 ·obtain ⟨b,args,f,q,fs,fn,body,x,ps,as,bd,fr,rfl,_,h1,h2,h3,_,_,_,h⟩:=roundM_eq h
  obtain ⟨s1,f2,q2,fs2,m2,g1,_,g3,h⟩:=roundMid_eq h
  obtain ⟨e,s2,f3,q3,fs3,k1,_,k3,_⟩:=roundEnd_eq h
  have a1:=(code_hi hc hd (hlp f fn body h1 h2) as (q++[false]) (codeAt_snoc h3 rfl) _ _ _ g1).2
  have a2:=(code_hi hc hd (hlp f fn body h1 h2) bd (q++[true]) (codeAt_snoc h3 rfl) _ _ _ k1).2
  rw [(setM_hl k3).2]
  have a2:m2.lg.le s2.m.lg:=a2
  rw [(setM_hl g3).2] at a2
  exact a1.trans a2
 ·obtain ⟨b',args2,f,q,fs,fn,body,x,ps,as,bd,fr,e0,hg,h1,h2,h3,h4,h5,h6,h⟩:=roundM_eq h
  cases e0
  obtain ⟨s1,f2,q2,fs2,m2,g1,g2,g3,h⟩:=roundMid_eq h
  obtain ⟨e,s2,f3,q3,fs3,k1,k2,k3,rfl⟩:=roundEnd_eq h
  have c1:=code_hi hc hd (hlp f fn body h1 h2) as (q++[false]) (codeAt_snoc h3 rfl) _ _ _ g1
  have c2:=code_hi hc hd (hlp f fn body h1 h2) bd (q++[true]) (codeAt_snoc h3 rfl) _ _ _ k1
  obtain ⟨j1,j2⟩:=setM_hl g3
  obtain ⟨j3,j4⟩:=setM_hl k3
  have hS2:Sat s2.m.lg:=by rw [← j4]; exact hS
  have hS1:Sat s1.m.lg:=by rw [← j2]; exact SatL.le hS2 c2.2
  have hi2:m2.hi≤s2.m.hi:=c2.1
  obtain ⟨⟨⟨b1,b2⟩,r,b3,b4⟩,_⟩:=hat.hr.atl hbl hg
  obtain ⟨fn',body',x',e1,e2,e3,e4⟩:=b4.code
  rw [h1] at e1
  cases e1
  rw [h2] at e2
  cases e2
  rw [h3] at e3
  cases e3
  have hlen:=b4.fr.1
  have hun:∀ t,fs.length≤t→t < 512→(argFr fr0 0 fs).get t=undef:=fun t q1 q2=>by
   rw [argFr_get _ _ _ _ (by omega) q2,if_neg (by omega),fr_get0]
  obtain ⟨p1,p2,p3,p4⟩:=putPs_ok (ρ:=ρ) (nt:=fn.ntmps) (by omega) r.params.toList args args' (argFr fr0 0 fs) fr r.tmps h6 hl h5 (by simpa [e4] using hlen.symm) (fun t ht=>by
   rw [argFr_get _ _ _ _ (by omega) (by omega),if_pos (by omega)]
   have hlt:t < fs.length:=by omega
   have hlt':t < r.tmps.toList.length:=by omega
   have:=b4.fr.2 t fs[t] _ (List.getElem?_eq_getElem hlt) (List.getElem?_eq_getElem hlt')
   have hlt2:t < r.tmps.size:=by simpa using hlt'
   simpa [Array.getD_eq_getD_getElem?,hlt,hlt2,List.getD_eq_getElem?_getD] using this)
  have hfold:(r.params.zip ⟨args'⟩).foldl (fun tmps (t,a)=>tmps.setIfInBounds t a) r.tmps=(r.params.toList.zip args').foldl (fun tmps (t,a)=>tmps.setIfInBounds t a) r.tmps:=by
   rw [← Array.foldl_toList]; simp
  refine ⟨r.fn,_,r.assign,r.body,run_yield b3 (by show args'.length=_; rw [← p1]; simp),?_⟩
  rw [hfold]
  refine roundIn_of_wpIn (F:=Fence.wide) (n:=0) trivial ?_
  have hget:∀ t,t < 511→(fr.set 511 (yv b)).get t=fr.get t:=fun t ht=>by rw [fr_get_set _ _ _ _ (by decide) (by omega),if_neg (by omega)]
  have hfr:FrR ⟨some l.blk,[]⟩ ρ fn.ntmps (fr.set 511 (yv b)) { tmps:=(r.params.toList.zip args').foldl (fun tmps (t,a)=>tmps.setIfInBounds t a) r.tmps,defers:=[] }:=by
   refine ⟨p2,by omega,⟨[],rfl,?_⟩,fun _=>?_,fun t ht=>by rw [hget t (by omega)]; exact p3 t ht⟩
   ·unfold dvG
    rw [hget 510 (by decide),p4 510 h4 (by decide),hun 510 (by omega) (by decide)]
    cases Nat.ble fn.ntmps 510 <;> exact .nil
   ·rw [fr_get_set _ _ _ _ (by decide) (by decide),if_pos rfl]
    refine ⟨fun hu=>(by cases hu),fun b0 hb0=>?_⟩
    have:b0=b:=by
     have:yieldV (yv b)=some b:=rfl
     rw [this] at hb0; exact (Option.some.inj hb0).symm
    subst this
    exact ⟨l,hbl,rfl⟩
  have hfree:Free ρ m.n m'.hi:=hat.fr
  refine code_ok (z:=⟨some l.blk,[]⟩) hc hd (hlp f fn body h1 h2) r.assign (q++[false]) (codeAt_snoc h3 rfl) ρ ⟨fr.set 511 (yv b),m⟩ s1 .normal _ w _ g1 hS1 (hat.less (by rw [j3]; omega)) hfr fun ρ1 a1 w1 f1 st1=>?_
  have hb1:=st1.ext _ _ hbl
  obtain ⟨⟨⟨_,_⟩,r2,d3,d4⟩,_⟩:=st1.hr.atl hb1 g2
  obtain ⟨o1,o2,o3⟩:=putObj_get (o:=.loop { r2 with state:=.busy }) (Array.getElem?_eq_some_iff.1 d3).1
  have st2:St C.P base ρ1 ρ1 s1.m m2 w1 (w1.putObj l.blk (.loop { r2 with state:=.busy })):=St.write st1.hr g3 g2 rfl hb1 b1 ⟨rfl,rfl,rfl⟩ o1 o3 ⟨⟨b1,b2⟩,_,o2,d4.code,d4.fr,rfl⟩
  refine ⟨_,run_beginRound d3 d4.st.1,?_⟩
  have hat1:=(hat.step st1)
  have hat2:=hat1.step st2
  refine code_ok (z:=⟨some l.blk,[]⟩) hc hd (hlp f fn body h1 h2) r.body (q++[true]) (codeAt_snoc h3 rfl) ρ1 ⟨s1.fr,m2⟩ s2 e _ _ _ k1 hS2 (hat2.less (by rw [j3]; exact Nat.le_refl _)) f1 fun ρ2 a2 w3 f3 st3=>?_
  have hb2:=st3.ext _ _ hb1
  obtain ⟨⟨⟨_,_⟩,r3,d5,d6⟩,_⟩:=st3.hr.atl hb2 k2
  have fin:∀ (jump:Option Code),StR (exN e) (if jump.isNone then .ready else .done) jump→jump.isNone=isNorm e→∃ v w',(Instr.endRound l.blk jump).run C.P w3=.ok v w'∧Post C.P base ρ m m' w (.bool (isNorm e)) (.returned v) w':=fun jump hj he=>by
   refine ⟨_,_,run_endRound jump d5,?_⟩
   obtain ⟨o4,o5,o6⟩:=putObj_get (o:=.loop { r3 with state:=if jump.isNone then .ready else .done,pending:=jump }) (Array.getElem?_eq_some_iff.1 d5).1
   have st4:St C.P base ρ2 ρ2 s2.m m' w3 (w3.putObj l.blk (.loop { r3 with state:=if jump.isNone then .ready else .done,pending:=jump })):=St.write st3.hr k3 k2 rfl hb2 b1 ⟨rfl,rfl,rfl⟩ o4 o6 ⟨⟨b1,b2⟩,_,o5,d6.code,d6.fr,hj⟩
   exact ⟨_,ρ2,rfl,by rw [he]; exact .pure rfl,St.trans hfree st1 (St.trans hat1.fr st2 (St.trans hat2.fr st3 st4))⟩
  cases e with
  | normal=>exact fin none ⟨rfl,rfl⟩ rfl
  | ret=>exact fin (some .ret) ⟨rfl,rfl⟩ rfl
  | exit k=>exact fin (some (.exit k)) ⟨rfl,rfl⟩ rfl
structure CxOk (C:Cx) (base:Nat):Prop where
 names:NameOk C.P
 ext:∀ f k fn,C.P.funcs[f]? = some fn→fn.body=none→findE C.ext f=some k→FnOk C.P base C.gl f ⟨extM k⟩
 con:∀ f c,C.con f=some c→FnOk C.P base C.gl f c
 lp:∀ f fn body,C.P.funcs[f]? = some fn→fn.body=some body→LpOk C.P base C.gl fn.ntmps body (C.lp f)
 draws:∀ call,CallOk C.P base C.gl call→DrawsOk C.P base C.gl call
theorem noFn_ok (f:FuncId):FnOk P base gl f ⟨fun _ _=>none⟩:=⟨fun vs m m' v hr=>(by cases hr),fun ρ m m' w vs vs' v hr=>(by cases hr)⟩
theorem noYl_ok:YlOk P base gl ⟨fun _ _=>none⟩:=⟨fun vs m m' v hr=>(by cases hr),fun ρ m m' w b args args' v l hr=>(by cases hr)⟩
theorem callY_ok {C:Cx} (h:CxOk C base):∀ (d:Nat),CallOk C.P base C.gl (callY C d)
 | 0=>⟨fun f=>noFn_ok f,noYl_ok⟩
 | d+1=>by
   have hc:=callY_ok h d
   refine ⟨fun f=>?_,round_ok hc (h.draws _ hc) h.lp⟩
   show FnOk C.P base C.gl f (callF C (callY C d) f)
   unfold callF
   split
   ·exact noFn_ok f
   ·rename_i fn hf
    have hf:C.P.funcs[f]? = some fn:=by simpa using hf
    split
    ·rename_i c hcon; exact h.con f c hcon
    ·split
     ·rename_i hb
      split
      ·rename_i k hk; exact h.ext f k fn hf hb hk
      ·exact noFn_ok f
     ·rename_i c hb
      exact body_ok (gl:=C.gl) hf hb (h.names f fn hf) hc (h.draws _ hc) (h.lp f fn c hf hb)
end
end Go.Sx

namespace Go.Sx
set_option linter.all false
open Go
set_option linter.unusedVariables false
set_option linter.unusedSimpArgs false
variable [Ora]
def StepAt (P:Program) (nt gl:Nat) (call:CallT) (all:List Oper) (b:List Nat) (rs:List Rec) (so:Bool) (o:Oper) (fr fr':Fr) (m m2:Mem) (v:Value):Prop :=
 dstOk nt o.dst=true∧okOp nt gl o.op=true∧fr'=dstF o.dst v fr ∧
 ((∃ lg,wantM nt fr m.lg all o=some (false,lg)∧v=undef∧m2=m.wLg lg) ∨
   (so=true∧∃ lg,wantM nt fr m.lg all o=some (true,lg)∧(stepC P call o).run fr (m.wLg lg)=some (v,m2)∧m.hi≤m2.hi) ∨
   (so=false∧∃ lg,wantM nt fr m.lg all o=some (true,lg)∧∃ mv m',viewM (m.wLg lg) (clsM fr o.op) (openR b rs)=some mv∧(stepC P call o).run fr mv=some (v,m')∧m'.W=[]∧m.hi≤m'.hi∧mergeM (m.wLg lg) m'=some m2))
def Traced (P:Program) (nt gl:Nat) (call:CallT) (all:List Oper) (r:List Oper) (i:Nat) (bs:List (List Nat)) (rs:List Rec) (s s':S):Prop :=
  ∃ (F:Nat→Fr) (M:Nat→Mem) (V:Nat→Value) (R:Nat→List Rec),F i=s.fr∧M i=s.m∧R i=rs∧F (i+r.length)=s'.fr∧M (i+r.length)=s'.m ∧
   ∀ j o,r[j]? = some o→StepAt P nt gl call all (bs.getD j []) (R (i+j)) (soloB o.op (i+j) (bs.getD j []) (bs.drop (j+1))) o (F (i+j)) (F (i+j+1)) (M (i+j)) (M (i+j+1)) (V (i+j)) ∧
    ((R (i+j+1)=R (i+j)∧∃ lg,M (i+j+1)=(M (i+j)).wLg lg)∨(soloB o.op (i+j) (bs.getD j []) (bs.drop (j+1))=true∧R (i+j+1)=[])∨R (i+j+1)=⟨i+j,(M (i+j)).n,(M (i+j+1)).n⟩::R (i+j))
theorem trace {P:Program} {nt gl:Nat} {call:CallT} {all:List Oper}:∀ (r:List Oper) (i:Nat) (bs:List (List Nat)) (rs:List Rec) (s s':S),runDraw P nt gl call all r i bs rs s=some s'→Traced P nt gl call all r i bs rs s s'
 | [],i,bs,rs,s,s',h=>by
   have h:some s=some s':=by cases bs <;> exact h
   cases h
   exact ⟨fun _=>s.fr,fun _=>s.m,fun _=>undef,fun _=>rs,rfl,rfl,rfl,rfl,rfl,fun j o hj=>by simp at hj⟩
 | o::r,i,[],rs,s,s',h=>by obtain ⟨fr,m⟩:=s; cases h
 | o::r,i,b::bs,rs,⟨fr,⟨H0,n0,W0,hi0,lg0⟩⟩,s',h=>by
   generalize hmdef:(⟨H0,n0,W0,hi0,lg0⟩:Mem)=m at h
   have glue:∀ (v:Value) (m2:Mem) (rs2:List Rec),StepAt P nt gl call all b rs (soloB o.op i b bs) o fr (dstF o.dst v fr) m m2 v→((rs2=rs∧∃ lg,m2=m.wLg lg)∨(soloB o.op i b bs=true∧rs2=[])∨rs2=⟨i,m.n,m2.n⟩::rs)→runDraw P nt gl call all r (i+1) bs rs2 ⟨dstF o.dst v fr,m2⟩=some s'→Traced P nt gl call all (o::r) i (b::bs) rs ⟨fr,m⟩ s':=fun v m2 rs2 hst hrs hrun=>by
    obtain ⟨F,M,V,R,f1,f2,f3,f4,f5,f6⟩:=trace r (i+1) bs rs2 _ s' hrun
    refine ⟨fun j=>if j≤i then fr else F j,fun j=>if j≤i then m else M j,fun j=>if j≤i then v else V j,fun j=>if j≤i then rs else R j,by simp,by simp,by simp,?_,?_,?_⟩
    ·simp only [List.length_cons]
     rw [if_neg (by omega),show i+(r.length+1)=i+1+r.length by omega]; exact f4
    ·simp only [List.length_cons]
     rw [if_neg (by omega),show i+(r.length+1)=i+1+r.length by omega]; exact f5
    ·intro j o' hj
     cases j with
     | zero =>
       simp at hj; subst hj
       simp only [Nat.add_zero,Nat.le_refl,if_true,Nat.not_succ_le_self,if_false,f1,f2,f3]
       exact ⟨hst,hrs⟩
     | succ j =>
       have hj':r[j]? = some o':=by simpa using hj
       have:=f6 j o' hj'
       simp only [show ¬ i+(j+1)≤i by omega,show ¬ i+(j+1)+1≤i by omega,if_false]
       rw [show i+(j+1)=i+1+j by omega]
       simpa using this
   subst hmdef
   unfold runDraw at h
   split at h
   ·rename_i lg hw hd
    obtain ⟨d1,d2⟩:=boolAnd hd
    cases hso:soloB o.op i b bs with
    | true =>
      rw [hso] at h glue
      simp only [cond_true] at h
      split at h
      ·rename_i v m2 hr
       obtain ⟨hhi,h⟩:=cond_some h
       rw [dstC_run] at h
       exact glue v m2 _ ⟨d1,d2,rfl,.inr (.inl ⟨rfl,lg,hw,hr,Nat.le_of_ble_eq_true hhi⟩)⟩ (.inr (.inl ⟨rfl,rfl⟩)) h
      ·cases h
    | false =>
      rw [hso] at h glue
      simp only [cond_false] at h
      unfold drawOne at h
      simp only at h
      split at h
      ·rename_i mv hv
       split at h
       ·rename_i v m' hr
        split at h
        ·rename_i hW hhi
         split at h
         ·rename_i m2 hm
          rw [dstC_run] at h
          exact glue v m2 _ ⟨d1,d2,rfl,.inr (.inr ⟨rfl,lg,hw,mv,m',hv,hr,hW,Nat.le_of_ble_eq_true hhi,hm⟩)⟩ (.inr (.inr rfl)) h
         ·cases h
        ·cases h
       ·cases h
      ·cases h
   ·rename_i lg hw hd
    obtain ⟨d1,d2⟩:=boolAnd hd
    rw [dstC_run] at h
    exact glue undef _ _ ⟨d1,d2,rfl,.inl ⟨lg,hw,rfl,rfl⟩⟩ (.inl ⟨rfl,lg,rfl⟩) h
   ·cases h
theorem addN_mem {l:List Nat} {b k:Nat} (h:k ∈ addN l b):k=b∨k ∈ l:=by
 unfold addN at h
 cases e:hasN l b with
 | true=>rw [e] at h; exact .inr h
 | false=>rw [e,cond_false,forceN_eq] at h; exact List.mem_cons.1 h
theorem joinN_mem:∀ {a b:List Nat} {k:Nat},k ∈ joinN a b→k ∈ a∨k ∈ b
 | [],b,k,h=>.inr h
 | x::a,b,k,h=>by
   rcases addN_mem (show k ∈ addN (joinN a b) x from h) with rfl|h
   ·exact .inl List.mem_cons_self
   ·rcases joinN_mem h with h|h
    ·exact .inl (List.mem_cons_of_mem _ h)
    ·exact .inr h
theorem ancOf_mem {acc:List (List Nat)}:∀ {es:List Edge} {k:Nat},k ∈ ancOf acc es→∃ e ∈ es,Region.binds .any e=true∧(k=e.on∨k ∈ acc.getD e.on [])
 | [],k,h=>by cases h
 | e::r,k,h=>by
   unfold ancOf at h
   cases hb:Region.binds .any e with
   | true =>
     rw [hb] at h
     rw [cond_true] at h
     rcases (addN_mem h).imp_right joinN_mem with h|h|h
     ·exact ⟨e,List.mem_cons_self,hb,.inl h⟩
     ·exact ⟨e,List.mem_cons_self,hb,.inr h⟩
     ·obtain ⟨e',h1,h2⟩:=ancOf_mem h
      exact ⟨e',List.mem_cons_of_mem _ h1,h2⟩
   | false =>
     rw [hb] at h
     obtain ⟨e',h1,h2⟩:=ancOf_mem h
     exact ⟨e',List.mem_cons_of_mem _ h1,h2⟩
theorem ancs_spec:∀ (r:List Oper) (acc:List (List Nat)),∃ tl,ancs r acc=acc++tl∧tl.length=r.length∧∀ j o,r[j]? = some o→∃ pre,pre=(acc++tl).take (acc.length+j)∧tl[j]? = some (ancOf pre o.after.toList)
 | [],acc=>⟨[],by simp [ancs],rfl,fun j o h=>by simp at h⟩
 | o::r,acc=>by
   obtain ⟨tl,h1,h2,h3⟩:=ancs_spec r (acc++[ancOf acc o.after.toList])
   refine ⟨ancOf acc o.after.toList::tl,by rw [ancs,forceL_eq,h1]; simp,by simp [h2],fun j o' hj=>?_⟩
   cases j with
   | zero =>
     simp at hj; subst hj
     exact ⟨_,rfl,by simp⟩
   | succ j =>
     obtain ⟨pre,g1,g2⟩:=h3 j o' (by simpa using hj)
     refine ⟨pre,?_,by simpa using g2⟩
     rw [g1]
     simp [Nat.add_assoc,Nat.add_comm 1 j]
theorem anc_mem {ops:List Oper} {i k:Nat} {o:Oper} (ho:ops[i]? = some o) (he:∀ e ∈ o.after.toList,Region.binds .any e=true→e.on < i) (hk:k ∈ (ancs ops []).getD i []) :
  ∃ e ∈ o.after.toList,Region.binds .any e=true∧(k=e.on∨k ∈ (ancs ops []).getD e.on []):=by
 obtain ⟨tl,h1,h2,h3⟩:=ancs_spec ops []
 simp only [List.nil_append] at h1 h3
 obtain ⟨pre,g1,g2⟩:=h3 i o ho
 rw [h1] at hk ⊢
 rw [List.getD_eq_getElem?_getD,g2] at hk
 obtain ⟨e,e1,e2,e3⟩:=ancOf_mem (show k ∈ ancOf pre o.after.toList from hk)
 refine ⟨e,e1,e2,e3.imp id fun h=>?_⟩
 have hlt:=he e e1 e2
 rw [g1] at h
 simp only [List.length_nil,Nat.zero_add,List.getD_eq_getElem?_getD] at h ⊢
 rw [List.getElem?_take_of_lt hlt] at h
 exact h
def Closed (ops:List Oper) (D:Nat→Prop):Prop:=∀ i o,ops[i]? = some o→D i→∀ e ∈ o.after.toList,Region.binds .any e=true→D e.on
theorem anc_in {ops:List Oper} {D:Nat→Prop} (hc:Closed ops D) (hb:∀ i o,ops[i]? = some o→∀ e ∈ o.after.toList,Region.binds .any e=true→e.on < i) :
  ∀ (n i k:Nat) (o:Oper),i < n→ops[i]? = some o→(∀ e ∈ o.after.toList,Region.binds .any e=true→D e.on)→k ∈ (ancs ops []).getD i []→D k
 | 0,i,k,o,h,_,_,_=>by omega
 | n+1,i,k,o,h,ho,he,hk=>by
   obtain ⟨e,e1,e2,e3⟩:=anc_mem ho (hb i o ho) hk
   rcases e3 with rfl|e3
   ·exact he e e1 e2
   ·have hlt:=hb i o ho e e1 e2
    have hlen:e.on < ops.length:=Nat.lt_trans hlt (List.getElem?_eq_some_iff.1 ho).1
    refine anc_in hc hb n e.on k ops[e.on] (by omega) (List.getElem?_eq_getElem hlen) (fun e' h1 h2=>hc e.on _ (List.getElem?_eq_getElem hlen) (he e e1 e2) e' h1 h2) e3
theorem backL_get {H0:Hp AB}:∀ (l:List Nat) (H:Hp AB),(∀ b ∈ l,b≤most)→∀ id,id≤most→Hp.get (backL H0 H l) id=if id ∈ l then Hp.get H0 id else Hp.get H id
 | [],H,_,id,_=>by simp [backL]
 | b::r,H,hl,id,hid=>by
   have hb:=hl b List.mem_cons_self
   rw [backL,put_eq,backL_get r _ (fun x hx=>hl x (List.mem_cons_of_mem _ hx)) id hid,hp_get_set _ _ _ _ hb hid]
   by_cases h1:id ∈ r
   ·rw [if_pos h1,if_pos (List.mem_cons_of_mem _ h1)]
   ·rw [if_neg h1]
    by_cases h2:id=b
    ·subst h2; rw [if_pos rfl,if_pos List.mem_cons_self]
    ·rw [if_neg h2,if_neg (by simp [h1,h2])]
theorem hideL_get:∀ (l:List Nat) (H:Hp AB),(∀ b ∈ l,b≤most)→∀ id,id≤most→Hp.get (hideL H l) id=if id ∈ l then none else Hp.get H id
 | [],H,_,id,_=>by simp [hideL]
 | b::r,H,hl,id,hid=>by
   have hb:=hl b List.mem_cons_self
   rw [hideL,put_eq,hideL_get r _ (fun x hx=>hl x (List.mem_cons_of_mem _ hx)) id hid,hp_get_set _ _ _ _ hb hid]
   by_cases h1:id ∈ r
   ·rw [if_pos h1,if_pos (List.mem_cons_of_mem _ h1)]
   ·rw [if_neg h1]
    by_cases h2:id=b
    ·subst h2; rw [if_pos rfl,if_pos List.mem_cons_self]
    ·rw [if_neg h2,if_neg (by simp [h1,h2])]
theorem mem_span:∀ (n lo b:Nat),b ∈ span lo n↔lo≤b∧b < lo+n
 | 0,lo,b=>by simp [span]
 | n+1,lo,b=>by
   simp only [span,List.mem_cons,mem_span n (lo+1) b]; omega
theorem merge_ok {m m' m2:Mem} (h:mergeM m m'=some m2) (hn:m.n≤m.hi) (hhi:m.hi≤m'.hi):m.n≤m2.n∧m.hi≤m2.hi∧m2.n≤m2.hi∧m2.W=m.W∧(m2.n=m'.hi∨(m2.n=m.n∧m'.hi≤m.n))∧m2.hi=m'.hi∧m2.lg=m'.lg ∧
  ∀ id,id≤most→Hp.get m2.H id=if m.n≤id∧id < m2.n then Hp.get m'.H id else Hp.get m.H id:=by
 unfold mergeM at h
 cases hq:Nat.ble m'.hi m.n with
 | true =>
   have hq:=Nat.le_of_ble_eq_true hq
   have hq2:Nat.ble m'.hi m.n=true:=Nat.ble_eq_true_of_le hq
   rw [hq2] at h
   cases h
   refine ⟨Nat.le_refl _,Nat.le_refl _,hn,rfl,.inr ⟨rfl,hq⟩,by show m.hi=m'.hi; omega,rfl,fun id hid=>?_⟩
   rw [if_neg (by show ¬ (m.n≤id∧id < m.n); omega)]
 | false =>
   have hq':m.n < m'.hi:=by
    rcases Nat.lt_or_ge m.n m'.hi with h1|h1
    ·exact h1
    ·rw [show Nat.ble m'.hi m.n=true from Nat.ble_eq_true_of_le h1] at hq; cases hq
   rw [hq] at h
   simp only [cond_false] at h
   obtain ⟨hb,h⟩:=cond_some h
   have hb:=Nat.le_of_ble_eq_true hb
   simp only [forceN_eq,force8_eq] at h
   cases h
   refine ⟨Nat.le_of_lt hq',hhi,Nat.le_refl _,rfl,.inl rfl,rfl,rfl,fun id hid=>?_⟩
   show Hp.get (backL m'.H m.H (span m.n (m'.hi - m.n))) id=_
   rw [backL_get _ _ (fun b hb'=>by have:=(mem_span _ _ _).1 hb'; omega) id hid]
   by_cases h1:m.n≤id∧id < m'.hi
   ·rw [if_pos ((mem_span _ _ _).2 (by omega)),if_pos h1]
   ·rw [if_neg (fun h=>h1 (by have:=(mem_span _ _ _).1 h; omega)),if_neg h1]
def fval (D:Nat→Bool) (dst:Nat→Option Tmp) (V:Nat→Value) (f0:Tmp→Value) (t:Tmp):Nat→Value
 | 0=>f0 t
 | n+1=>if D n=true∧dst n=some t then V n else fval D dst V f0 t n
theorem fval_congr {D D':Nat→Bool} {dst:Nat→Option Tmp} {V:Nat→Value} {f0:Tmp→Value} {t:Tmp}:∀ (n:Nat),(∀ k,k < n→dst k=some t→D k=D' k)→fval D dst V f0 t n=fval D' dst V f0 t n
 | 0,_=>rfl
 | n+1,h=>by
   unfold fval
   have ih:=fval_congr (V:=V) (f0:=f0) n fun k hk=>h k (Nat.lt_succ_of_lt hk)
   by_cases hd:dst n=some t
   ·rw [h n (Nat.lt_succ_self n) hd,ih]
   ·rw [if_neg (fun hh=>hd hh.2),if_neg (fun hh=>hd hh.2),ih]
theorem fval_add {D D':Nat→Bool} {dst:Nat→Option Tmp} {V:Nat→Value} {f0:Tmp→Value} {t:Tmp} {i:Nat} (hD:∀ k,k≠i→D' k=D k) (hi:D' i=true):∀ (n:Nat),i < n→dst i=some t→(∀ k,i < k→k < n→dst k=some t→D k=false)→fval D' dst V f0 t n=V i
 | 0,h,_,_=>by omega
 | n+1,h,hd,hl=>by
   unfold fval
   by_cases e:n=i
   ·subst e; rw [if_pos ⟨hi,hd⟩]
   ·have hlt:i < n:=by omega
    rw [if_neg (fun hh=>by
     have h1:=hl n hlt (Nat.lt_succ_self n) hh.2
     rw [hD n e,h1] at hh; exact absurd hh.1 (by simp))]
    exact fval_add hD hi n hlt hd fun k hk hkn=>hl k hk (Nat.lt_succ_of_lt hkn)
theorem fval_other {D D':Nat→Bool} {dst:Nat→Option Tmp} {V:Nat→Value} {f0:Tmp→Value} {t:Tmp} {i:Nat} (hD:∀ k,k≠i→D' k=D k) (hd:dst i≠some t) (n:Nat):fval D' dst V f0 t n=fval D dst V f0 t n :=
 fval_congr n fun k _ hk=>hD k fun e=>hd (e ▸ hk)
structure HRf (P:Program) (base:Nat) (ρ:Ren) (G:Nat→Option AB) (w:World):Prop where
 dom:∀ b l,ρ b=some l→b≤most
 at_:∀ id,id≤most→∀ ab,G id=some ab→∃ l,ρ id=some l∧BR P ρ ab l w∧(ab.rw=true→l.on=true→base≤l.blk∧∀ id2,id2≤most→∀ ab2 l2,G id2=some ab2→ρ id2=some l2→Tc ab2 l2 l.blk→id2=id)
theorem HRf.hr {P:Program} {base:Nat} {ρ:Ren} {G:Nat→Option AB} {H:Hp AB} {w:World} (h:HRf P base ρ G w) (hs:∀ id,id≤most→∀ ab,Hp.get H id=some ab→G id=some ab):HR P base ρ H w :=
 ⟨h.dom,fun id hid ab hab=>let ⟨l,a,b,c⟩:=h.at_ id hid ab (hs id hid ab hab); ⟨l,a,b,fun hr ho=>⟨(c hr ho).1,fun id2 hid2 ab2 l2 g=>(c hr ho).2 id2 hid2 ab2 l2 (hs id2 hid2 ab2 g)⟩⟩⟩
theorem HR.f {P:Program} {base:Nat} {ρ:Ren} {H:Hp AB} {w:World} (h:HR P base ρ H w) {G:Nat→Option AB} (hs:∀ id,id≤most→∀ ab,G id=some ab→Hp.get H id=some ab):HRf P base ρ G w :=
 ⟨h.dom,fun id hid ab hab=>let ⟨l,a,b,c⟩:=h.at_ id hid ab (hs id hid ab hab); ⟨l,a,b,fun hr ho=>⟨(c hr ho).1,fun id2 hid2 ab2 l2 g=>(c hr ho).2 id2 hid2 ab2 l2 (hs id2 hid2 ab2 g)⟩⟩⟩
def Ff (ρ:Ren) (G:Nat→Option AB) (k:Nat):Prop:=∃ id ab l,id≤most∧G id=some ab∧ρ id=some l∧Tf ab l k
end Go.Sx

namespace Go.Sx
set_option linter.all false
open Go
set_option linter.unusedVariables false
set_option linter.unusedSimpArgs false
variable [Ora]
def soAt (ops:Array Oper) (i:Nat) (o:Oper):Bool:=soloB o.op i ((ancs ops.toList []).getD i []) ((ancs ops.toList []).drop (i+1))
structure Rg (P:Program) (base gl nt:Nat) (call:CallT) (ops:Array Oper) (F:Nat→Fr) (M:Nat→Mem) (V:Nat→Value) (R:Nat→List Rec):Prop where
 st:∀ i o,ops[i]? = some o→StepAt P nt gl call ops.toList ((ancs ops.toList []).getD i []) (R i) (soAt ops i o) o (F i) (F (i+1)) (M i) (M (i+1)) (V i)
 rc:∀ i o,ops[i]? = some o→(R (i+1)=R i∧∃ lg,M (i+1)=(M i).wLg lg)∨(soAt ops i o=true∧R (i+1)=[])∨R (i+1)=⟨i,(M i).n,(M (i+1)).n⟩::R i
 ok:opsOk ops.toList (ancs ops.toList []) ops.toList 0=true
structure Ph (ops:Array Oper) (M:Nat→Mem) (lo up:Nat):Prop where
 le:lo≤up
 sz:up≤ops.size
 nh:(M lo).n≤(M lo).hi
 mx:∀ i o,lo≤i→i < up→ops[i]? = some o→soAt ops i o=false
section
variable {P:Program} {base gl nt:Nat} {call:CallT} {ops:Array Oper} {F:Nat→Fr} {M:Nat→Mem} {V:Nat→Value} {R:Nat→List Rec} {lo up:Nat}
theorem get_of_lt {i:Nat} (h:i < ops.size):∃ o,ops[i]? = some o:=⟨ops[i],by simp [h]⟩
theorem Rg.one (g:Rg P base gl nt call ops F M V R) {i:Nat} {o:Oper} (ho:ops[i]? = some o) (hso:soAt ops i o=false) (hn:(M i).n≤(M i).hi):(M i).n≤(M (i+1)).n∧(M i).hi≤(M (i+1)).hi∧(M (i+1)).n≤(M (i+1)).hi∧(M (i+1)).W=(M i).W ∧
  ∀ id,id≤most→(id < (M i).n∨(M (i+1)).n≤id)→Hp.get (M (i+1)).H id=Hp.get (M i).H id:=by
 obtain ⟨_,_,_,h⟩:=g.st i o ho
 rcases h with ⟨lg,_,_,h⟩|⟨h,_⟩|⟨_,lg,_,mv,m',_,_,_,hhi,hm⟩
 ·rw [h]; exact ⟨Nat.le_refl _,Nat.le_refl _,hn,rfl,fun _ _ _=>rfl⟩
 ·rw [hso] at h; cases h
 ·obtain ⟨h1,h2,h3,h4,_,_,_,h5⟩:=merge_ok hm hn hhi
  exact ⟨h1,h2,h3,h4,fun id hid hh=>by rw [h5 id hid,if_neg (by show ¬ ((M i).n≤id∧_); omega)]; rfl⟩
theorem Rg.allD (g:Rg P base gl nt call ops F M V R) (ph:Ph ops M lo up):∀ d,lo+d≤up→(M lo).n≤(M (lo+d)).n∧(M lo).hi≤(M (lo+d)).hi∧(M (lo+d)).n≤(M (lo+d)).hi∧(M (lo+d)).W=(M lo).W ∧
  ∀ id,id≤most→(id < (M lo).n∨(M (lo+d)).n≤id)→Hp.get (M (lo+d)).H id=Hp.get (M lo).H id
 | 0,_=>⟨Nat.le_refl _,Nat.le_refl _,ph.nh,rfl,fun _ _ _=>rfl⟩
 | d+1,h=>by
   obtain ⟨h1,h2,h3,h4,h5⟩:=g.allD ph d (by omega)
   obtain ⟨o,ho⟩:=get_of_lt (ops:=ops) (i:=lo+d) (by have:=ph.sz; omega)
   obtain ⟨k1,k2,k3,k4,k5⟩:=g.one ho (ph.mx _ o (by omega) (by omega) ho) h3
   exact ⟨Nat.le_trans h1 k1,Nat.le_trans h2 k2,k3,k4.trans h4,fun id hid hh=>by
    rw [show lo+(d+1)=lo+d+1 by omega] at hh ⊢
    rw [k5 id hid (by omega),h5 id hid (by omega)]⟩
theorem Rg.all (g:Rg P base gl nt call ops F M V R) (ph:Ph ops M lo up) {i:Nat} (h0:lo≤i) (h:i≤up):(M lo).n≤(M i).n∧(M lo).hi≤(M i).hi∧(M i).n≤(M i).hi∧(M i).W=(M lo).W ∧
  ∀ id,id≤most→(id < (M lo).n∨(M i).n≤id)→Hp.get (M i).H id=Hp.get (M lo).H id:=by
 have:=g.allD ph (i - lo) (by omega)
 rwa [show lo+(i - lo)=i by omega] at this
theorem Rg.mono (g:Rg P base gl nt call ops F M V R) (ph:Ph ops M lo up) {i:Nat} (h0:lo≤i):∀ d,i+d≤up→(M i).n≤(M (i+d)).n∧(M i).hi≤(M (i+d)).hi∧∀ id,id≤most→id < (M i).n→Hp.get (M (i+d)).H id=Hp.get (M i).H id
 | 0,_=>⟨Nat.le_refl _,Nat.le_refl _,fun _ _ _=>rfl⟩
 | d+1,h=>by
   obtain ⟨h1,h2,h5⟩:=g.mono ph h0 d (by omega)
   obtain ⟨o,ho⟩:=get_of_lt (ops:=ops) (i:=i+d) (by have:=ph.sz; omega)
   obtain ⟨k1,k2,k3,k4,k5⟩:=g.one ho (ph.mx _ o (by omega) (by omega) ho) (g.all ph (i:=i+d) (by omega) (by omega)).2.2.1
   exact ⟨Nat.le_trans h1 k1,Nat.le_trans h2 k2,fun id hid hh=>by rw [show i+(d+1)=i+d+1 by omega,k5 id hid (by omega),h5 id hid hh]⟩
theorem Rg.le (g:Rg P base gl nt call ops F M V R) (ph:Ph ops M lo up) {i j:Nat} (h0:lo≤i) (h:i≤j) (hj:j≤up):(M i).n≤(M j).n∧(M i).hi≤(M j).hi∧∀ id,id≤most→id < (M i).n→Hp.get (M j).H id=Hp.get (M i).H id:=by
 have:=g.mono ph h0 (j - i) (by omega)
 rwa [show i+(j - i)=j by omega] at this
theorem view_lg {m mv:Mem} {c:Cls} {us:List Rec} (h:viewM m c us=some mv):mv.lg=m.lg:=by
 obtain ⟨H,n,W,hi,lg⟩:=m
 unfold viewM at h
 simp only at h
 cases c with
 | free=>cases h; rfl
 | one b =>
   simp only at h
   cases hq:hasN (hidden us) b || !(Nat.ble b most) with
   | true=>rw [hq] at h; cases h
   | false=>rw [hq,put_eq] at h; cases h; rfl
 | all =>
   simp only at h
   obtain ⟨hb,h⟩:=cond_some h
   cases h; rfl
theorem merge_lg {m m' m2:Mem} (h:mergeM m m'=some m2):m2.lg=m'.lg:=by
 unfold mergeM at h
 cases hq:Nat.ble m'.hi m.n with
 | true=>rw [hq] at h; cases h; rfl
 | false =>
   rw [hq] at h
   obtain ⟨_,h⟩:=cond_some h
   simp only [forceN_eq,force8_eq] at h
   cases h
   rfl
theorem stepAt_lg {all:List Oper} {b:List Nat} {rs:List Rec} {so:Bool} {o:Oper} {fr fr':Fr} {m m2:Mem} {v:Value} (hc:CallOk P base gl call) (h:StepAt P nt gl call all b rs so o fr fr' m m2 v):m.lg.le m2.lg:=by
 obtain ⟨_,_,_,h⟩:=h
 rcases h with ⟨lg,hw,_,h⟩|⟨_,lg,hw,hr,_⟩|⟨_,lg,hw,mv,m',hv,hr,_,hhi,hm⟩
 ·rw [h]; exact wantM_le hw
 ·have h1:=stepC_lg hc hr
  rw [wLg_lg] at h1
  exact (wantM_le hw).trans h1
 ·rw [merge_lg hm]
  have h1:=stepC_lg hc hr
  rw [view_lg hv] at h1
  exact (wantM_le hw).trans h1
theorem Rg.lgs (g:Rg P base gl nt call ops F M V R) (hc:CallOk P base gl call) {i:Nat}:∀ d,i+d≤ops.size→(M i).lg.le (M (i+d)).lg
 | 0,_=>.refl _
 | d+1,h=>by
   obtain ⟨o,ho⟩:=get_of_lt (ops:=ops) (i:=i+d) (by omega)
   exact (g.lgs hc d (by omega)).trans (stepAt_lg hc (g.st (i+d) o ho))
theorem Rg.who (g:Rg P base gl nt call ops F M V R) (ph:Ph ops M lo up):∀ d,lo+d≤up→∀ b,(M lo).n≤b→b < (M (lo+d)).n→∃ k,lo≤k∧k < lo+d∧(M k).n≤b∧b < (M (k+1)).n
 | 0,_,b,h1,h2=>by have h2:b < (M lo).n:=h2; omega
 | d+1,h,b,h1,h2=>by
   rcases Nat.lt_or_ge b (M (lo+d)).n with h3|h3
   ·obtain ⟨k,k0,k1,k2⟩:=g.who ph d (by omega) b h1 h3
    exact ⟨k,k0,by omega,k2⟩
   ·exact ⟨lo+d,by omega,by omega,h3,h2⟩
theorem mem_hidden:∀ {rs:List Rec} {b:Nat},b ∈ hidden rs↔∃ r ∈ rs,r.lo≤b∧b < r.hi
 | [],b=>by simp [hidden]
 | r::rs,b=>by
   simp only [hidden,List.mem_append,mem_span,mem_hidden (rs:=rs),List.mem_cons]
   constructor
   ·rintro (h|⟨r',h1,h2⟩)
    ·exact ⟨r,.inl rfl,by omega⟩
    ·exact ⟨r',.inr h1,h2⟩
   ·rintro ⟨r',rfl|h1,h2⟩
    ·exact .inl (by omega)
    ·exact .inr ⟨r',h1,h2⟩
theorem Rg.recs (g:Rg P base gl nt call ops F M V R) (ph:Ph ops M lo up):∀ d,lo+d≤up→∀ k,lo≤k→k < lo+d→∀ b,(M k).n≤b→b < (M (k+1)).n→⟨k,(M k).n,(M (k+1)).n⟩ ∈ R (lo+d)
 | 0,_,k,_,h,_,_,_=>by omega
 | d+1,hi,k,hk,h,b,h1,h2=>by
   obtain ⟨o,ho⟩:=get_of_lt (ops:=ops) (i:=lo+d) (by have:=ph.sz; omega)
   have hmx:=ph.mx _ o (by omega) (by omega) ho
   show _ ∈ R (lo+d+1)
   by_cases e:k=lo+d
   ·subst e
    rcases g.rc (lo+d) o ho with ⟨_,lg,h3⟩|⟨h3,_⟩|h3
    ·rw [h3] at h2; have h2:b < (M (lo+d)).n:=h2; omega
    ·rw [hmx] at h3; cases h3
    ·rw [h3]; exact List.mem_cons_self
   ·have:=g.recs ph d (by omega) k hk (by omega) b h1 h2
    rcases g.rc (lo+d) o ho with ⟨h3,_⟩|⟨h3,_⟩|h3
    ·rw [h3]; exact this
    ·rw [hmx] at h3; cases h3
    ·rw [h3]; exact List.mem_cons_of_mem _ this
theorem view_ok {m mv:Mem} {c:Cls} {us:List Rec} (h:viewM m c us=some mv):mv.n=m.n∧mv.hi=m.hi∧mv.W=[]∧mv.lg=m.lg∧∀ id,id≤most→∀ ab,Hp.get mv.H id=some ab→Hp.get m.H id=some ab∧id ∉ hidden us:=by
 obtain ⟨H,n,W,hi,lg⟩:=m
 unfold viewM at h
 simp only at h
 cases c with
 | free =>
   cases h
   exact ⟨rfl,rfl,rfl,rfl,fun id _ ab hab=>by rw [hp_get0] at hab; cases hab⟩
 | one b =>
   simp only at h
   cases hq:hasN (hidden us) b || !(Nat.ble b most) with
   | true=>rw [hq] at h; cases h
   | false =>
     rw [hq,put_eq] at h
     cases h
     simp only [Bool.or_eq_false_iff,Bool.not_eq_false'] at hq
     have hb:=Nat.le_of_ble_eq_true hq.2
     refine ⟨rfl,rfl,rfl,rfl,fun id hid ab hab=>?_⟩
     have hab:Hp.get (Hp.set hp0 b (Hp.get H b)) id=some ab:=hab
     rw [hp_get_set _ _ _ _ hb hid] at hab
     by_cases e:id=b
     ·subst e
      rw [if_pos rfl] at hab
      exact ⟨hab,fun hm=>by rw [hasN_iff.2 hm] at hq; exact absurd hq.1 (by simp)⟩
     ·rw [if_neg e,hp_get0] at hab; cases hab
 | all =>
   simp only at h
   obtain ⟨hb,h⟩:=cond_some h
   cases h
   refine ⟨rfl,rfl,rfl,rfl,fun id hid ab hab=>?_⟩
   have hab:Hp.get (hideL H (hidden us)) id=some ab:=hab
   rw [hideL_get _ _ (bigIds_le hb) id hid] at hab
   by_cases e:id ∈ hidden us
   ·rw [if_pos e] at hab; cases hab
   ·rw [if_neg e] at hab; exact ⟨hab,e⟩
def used (M:Nat→Mem) (D:Nat→Bool) (b:Nat):Nat→Bool
 | 0=>false
 | n+1=>(D n && Nat.ble (M n).n b && Nat.blt b (M (n+1)).n) || used M D b n
theorem used_iff {D:Nat→Bool} {b:Nat}:∀ n,used M D b n=true↔∃ k,k < n∧D k=true∧(M k).n≤b∧b < (M (k+1)).n
 | 0=>by simp [used]
 | n+1=>by
   simp only [used,Bool.or_eq_true,Bool.and_eq_true,used_iff n]
   constructor
   ·rintro (⟨⟨h1,h2⟩,h3⟩|⟨k,h1,h2⟩)
    ·exact ⟨n,by omega,h1,Nat.le_of_ble_eq_true h2,Nat.le_of_ble_eq_true h3⟩
    ·exact ⟨k,by omega,h2⟩
   ·rintro ⟨k,h1,h2,h3,h4⟩
    by_cases e:k=n
    ·subst e; exact .inl ⟨⟨h2,Nat.ble_eq_true_of_le h3⟩,Nat.ble_eq_true_of_le h4⟩
    ·exact .inr ⟨k,by omega,h2,h3,h4⟩
def Dr (lo:Nat) (D:Nat→Bool) (k:Nat):Bool:=Nat.ble lo k && D k
theorem Dr_iff {lo:Nat} {D:Nat→Bool} {k:Nat}:Dr lo D k=true↔lo≤k∧D k=true:=by
 unfold Dr
 rw [Bool.and_eq_true]
 exact ⟨fun h=>⟨Nat.le_of_ble_eq_true h.1,h.2⟩,fun h=>⟨Nat.ble_eq_true_of_le h.1,h.2⟩⟩
def GD (M:Nat→Mem) (lo N:Nat) (D:Nat→Bool) (b:Nat):Option AB:=bif used M (Dr lo D) b N then Hp.get (M N).H b else Hp.get (M lo).H b
structure Inv (z:Zn) (P:Program) (base gl nt:Nat) (ops:Array Oper) (F:Nat→Fr) (M:Nat→Mem) (V:Nat→Value) (lo up:Nat) (ρ0:Ren) (w0:World) (D:Nat→Bool) (ρ:Ren) (a:Act) (w:World):Prop where
 ext:∀ b l,ρ0 b=some l→ρ b=some l
 new:∀ b l,ρ b=some l→ρ0 b=none→used M (Dr lo D) b up=true∧(l.on=true→w0.heap.size≤l.blk)
 hr:HRf P base ρ (GD M lo up D) w
 keep:∀ k,k < w0.heap.size→w.heap[k]? = w0.heap[k]?
 size:w0.heap.size≤w.heap.size
 os:w.os=w0.os∧w.tape=w0.tape∧w.output=w0.output
 tch:∀ k,Ff ρ (GD M lo up D) k→w0.heap.size≤k∨Fp ρ0 (M lo).H k
 tsz:a.tmps.size=nt
 dfr:ZR z ρ nt (F 0) a.defers
 frm:∀ t,t < nt→VR ρ (fval D (fun k=>(ops[k]?).bind (·.dst)) V (F 0).get t ops.size) (a.tmps.getD t undef)
theorem ops_list {i:Nat} {o:Oper} (h:ops[i]? = some o):ops.toList[i]? = some o:=by simpa using h
theorem opsOk_at {ops:List Oper} {an:List (List Nat)}:∀ (r:List Oper) (i:Nat),opsOk ops an r i=true→∀ j o,r[j]? = some o→edgesOk (i+j) o.after.toList=true∧slotOk an (i+j) (slotsOf ops o) ops 0=true
 | [],i,h,j,o,hj=>by simp at hj
 | x::r,i,h,j,o,hj=>by
   obtain ⟨h1,h2⟩:=boolAnd (show (edgesOk i x.after.toList && (slotOk an i (slotsOf ops x) ops 0 && opsOk ops an r (i+1)))=true from h)
   obtain ⟨h2,h3⟩:=boolAnd h2
   cases j with
   | zero=>simp at hj; subst hj; exact ⟨h1,h2⟩
   | succ j =>
     have:=opsOk_at r (i+1) h3 j o (by simpa using hj)
     rwa [show i+1+j=i+(j+1) by omega] at this
theorem edgesOk_at:∀ {es:List Edge} {i:Nat},edgesOk i es=true→∀ e ∈ es,Region.binds .any e=true→e.on < i
 | [],i,h,e,he,_=>by cases he
 | x::r,i,h,e,he,hb=>by
   obtain ⟨h1,h2⟩:=boolAnd (show ((!(Region.binds .any x) || Nat.blt x.on i) && edgesOk i r)=true from h)
   rcases List.mem_cons.1 he with rfl|he
   ·rw [hb] at h1
    have h1:Nat.blt e.on i=true:=by simpa only [Bool.not_true,Bool.false_or] using h1
    exact Nat.le_of_ble_eq_true h1
   ·exact edgesOk_at h2 e he hb
theorem slotOk_at {an:List (List Nat)} {i:Nat} {sl:List Tmp}:∀ (r:List Oper) (k0:Nat),slotOk an i sl r k0=true→∀ j p t,r[j]? = some p→k0+j≠i→p.dst=some t→t ∈ sl→ordB an i (k0+j)=true
 | [],k0,h,j,p,t,hj,_,_,_=>by simp at hj
 | x::r,k0,h,j,p,t,hj,hne,hd,ht=>by
   obtain ⟨h1,h2⟩:=boolAnd (show ((Nat.beq k0 i || (match x.dst with|none=>true|some t=>!(hasN sl t) || ordB an i k0)) && slotOk an i sl r (k0+1))=true from h)
   cases j with
   | zero =>
     simp at hj; subst hj
     have hb:Nat.beq k0 i=false:=by
      cases hq:Nat.beq k0 i with
      | false=>rfl
      | true=>exact absurd (Nat.eq_of_beq_eq_true hq) hne
     rw [hb,hd,Bool.false_or] at h1
     simp only [hasN_iff.2 ht,Bool.not_true,Bool.false_or] at h1
     exact h1
   | succ j =>
     have:=slotOk_at r (k0+1) h2 j p t (by simpa using hj) (by omega) hd ht
     rwa [show k0+1+j=k0+(j+1) by omega] at this
theorem Rg.slot (g:Rg P base gl nt call ops F M V R) {D:Nat→Bool} (hc:Closed ops.toList fun k=>D k=true) (hlt:∀ k,D k=true→k < ops.size) {i:Nat} {o:Oper} (ho:ops[i]? = some o) (hi:D i=false)
  (hr:∀ e ∈ o.after.toList,Region.binds .any e=true→D e.on=true) {t:Tmp} (ht:t ∈ slotsOf ops.toList o):∀ k p,ops[k]? = some p→k≠i→p.dst=some t→(D k=true↔k < i):=fun k p hp hne hd=>by
 have hb:∀ (i:Nat) (o:Oper),ops.toList[i]? = some o→∀ e ∈ o.after.toList,Region.binds .any e=true→e.on < i:=fun i o ho=>by
  have:=(opsOk_at _ 0 g.ok i o ho).1
  rw [Nat.zero_add] at this
  exact edgesOk_at this
 have h1:=(opsOk_at _ 0 g.ok i o (ops_list ho)).2
 have h2:=slotOk_at _ 0 h1 k p t (ops_list hp) (by omega) hd ht
 rw [Nat.zero_add,Nat.zero_add] at h2
 unfold ordB at h2
 rcases Nat.lt_trichotomy k i with hlt'|heq|hgt
 ·have hq:Nat.blt i k=false:=by
   cases hq:Nat.blt i k with
   | false=>rfl
   | true=>have:i < k:=Nat.le_of_ble_eq_true hq; omega
  rw [hq] at h2
  have hm:=hasN_iff.1 (by simpa using h2)
  exact ⟨fun _=>hlt',fun _=>anc_in hc hb (i+1) i k o (Nat.lt_succ_self i) (ops_list ho) hr hm⟩
 ·exact absurd heq hne
 ·have hq:Nat.blt i k=true:=Nat.ble_eq_true_of_le hgt
  rw [hq] at h2
  have hm:=hasN_iff.1 (by simpa using h2)
  refine ⟨fun hk=>?_,fun h=>by omega⟩
  have:=anc_in hc hb (k+1) k i p (Nat.lt_succ_self k) (ops_list hp) (fun e he hbe=>hc k p (ops_list hp) hk e he hbe) hm
  rw [hi] at this; cases this
theorem Rg.frame (g:Rg P base gl nt call ops F M V R) (hnt:nt≤512) {t:Tmp} (ht:t < nt):∀ i,i≤ops.size→(F i).get t=fval (fun k=>Nat.blt k i) (fun k=>(ops[k]?).bind (·.dst)) V (F 0).get t i
 | 0,_=>rfl
 | i+1,h=>by
   obtain ⟨o,ho⟩:=get_of_lt (ops:=ops) (i:=i) (by omega)
   obtain ⟨h1,_,h3,_⟩:=g.st i o ho
   have ih:=g.frame hnt ht i (by omega)
   have e1:fval (fun k=>Nat.blt k (i+1)) (fun k=>(ops[k]?).bind (·.dst)) V (F 0).get t i=fval (fun k=>Nat.blt k i) (fun k=>(ops[k]?).bind (·.dst)) V (F 0).get t i:=fval_congr i fun k hk _=>by
    rw [show Nat.blt k (i+1)=true from Nat.ble_eq_true_of_le (by omega),show Nat.blt k i=true from Nat.ble_eq_true_of_le hk]
   have e2:Nat.blt i (i+1)=true:=Nat.ble_eq_true_of_le (Nat.le_refl _)
   rw [h3]
   unfold fval
   rw [e1,← ih]
   simp only [e2,ho,Option.bind_some,true_and]
   cases hd:o.dst with
   | none=>simp [dstF]
   | some d =>
     rw [hd] at h1
     have hd':d < nt:=Nat.le_of_ble_eq_true h1
     simp only [dstF,Option.some.injEq]
     rw [fr_get_set _ _ _ _ (Nat.lt_of_lt_of_le hd' hnt) (Nat.lt_of_lt_of_le ht hnt)]
     by_cases e:t=d
     ·subst e; simp
     ·rw [if_neg e,if_neg (fun h=>e h.symm)]
theorem Rg.look (g:Rg P base gl nt call ops F M V R) (hnt:nt≤512) {D:Nat→Bool} (hc:Closed ops.toList fun k=>D k=true) (hlt:∀ k,D k=true→k < ops.size) {i:Nat} {o:Oper} (ho:ops[i]? = some o) (hi:D i=false)
  (hr:∀ e ∈ o.after.toList,Region.binds .any e=true→D e.on=true) {t:Tmp} (ht:t ∈ slotsOf ops.toList o) (htn:t < nt):fval D (fun k=>(ops[k]?).bind (·.dst)) V (F 0).get t ops.size=(F i).get t:=by
 have hil:i < ops.size:=(Array.getElem?_eq_some_iff.1 ho).1
 rw [g.frame hnt htn i (by omega)]
 have hs:=g.slot hc hlt ho hi hr ht
 have e1:fval D (fun k=>(ops[k]?).bind (·.dst)) V (F 0).get t ops.size=fval (fun k=>Nat.blt k i) (fun k=>(ops[k]?).bind (·.dst)) V (F 0).get t ops.size:=fval_congr _ fun k hk hd=>by
  obtain ⟨p,hp⟩:=get_of_lt (ops:=ops) hk
  rw [hp] at hd
  by_cases e:k=i
  ·subst e; rw [hi]; symm
   cases hq:Nat.blt k k with
   | false=>rfl
   | true=>have:k < k:=Nat.le_of_ble_eq_true hq; omega
  ·have:=hs k p hp e hd
   rw [Bool.eq_iff_iff,this]
   exact ⟨fun h=>Nat.ble_eq_true_of_le h,fun h=>Nat.le_of_ble_eq_true h⟩
 rw [e1]
 have e2:∀ d,i+d≤ops.size→fval (fun k=>Nat.blt k i) (fun k=>(ops[k]?).bind (·.dst)) V (F 0).get t (i+d)=fval (fun k=>Nat.blt k i) (fun k=>(ops[k]?).bind (·.dst)) V (F 0).get t i:=by
  intro d
  induction d with
  | zero=>intro _; rfl
  | succ d ih =>
    intro hd
    rw [show i+(d+1)=(i+d)+1 by omega]
    rw [fval,if_neg (fun hh=>by have:i+d < i:=Nat.le_of_ble_eq_true hh.1; omega)]
    exact ih (by omega)
 have:=e2 (ops.size - i) (by omega)
 rwa [show i+(ops.size - i)=ops.size by omega] at this
theorem tmp_slot {o:Oper} {x:Operand} {t:Tmp} (hx:x ∈ o.op.operands.toList) (ht:x=.tmp t):t ∈ slotsOf ops.toList o:=by
 unfold slotsOf
 refine List.mem_append.2 (.inr (List.mem_append.2 (.inl (List.mem_flatMap.2 ⟨x,hx,?_⟩))))
 subst ht; simp [tmpOf]
theorem Rg.step {z:Zn} (g:Rg P base gl nt call ops F M V R) (ph:Ph ops M lo up) (hcall:CallOk P base gl call) {ρ0 ρ:Ren} {w0 w:World} {D D':Nat→Bool} {a:Act} {i:Nat} {o:Oper} {Q:Exit→Act→World→Prop} {K:Act→World→Prop}
  (hat:At P base gl ρ0 (M lo) (M up).hi w0) (hS:Sat (M up).lg) (hnt:nt≤512) (inv:Inv z P base gl nt ops F M V lo up ρ0 w0 D ρ a w) (hc:Closed ops.toList fun k=>D k=true) (hlt:∀ k,D k=true→k < ops.size) (hlo0:∀ k,k < lo→D k=true) (hiup:i < up) (ho:ops[i]? = some o) (hi:D i=false)
  (hr:∀ e ∈ o.after.toList,Region.binds .any e=true→D e.on=true) (hD:∀ k,k≠i→D' k=D k) (hDi:D' i=true)
  (hK:∀ ρ' a' w',Inv z P base gl nt ops F M V lo up ρ0 w0 D' ρ' a' w'→K a' w'):wpOpI P z.rd ops Q i K a w:=by
 have hil:i < ops.size:=(Array.getElem?_eq_some_iff.1 ho).1
 obtain ⟨hd1,hd2,hF,hstep⟩:=g.st i o ho
 have hiL:lo≤i:=by
  rcases Nat.lt_or_ge i lo with h|h
  ·rw [hlo0 i h] at hi; cases hi
  ·exact h
 have hmx:=ph.mx i o hiL hiup ho
 have hsz:=ph.sz
 have hlo:=g.le ph (i:=lo) (j:=i) (Nat.le_refl _) hiL (by omega)
 have hup:=g.le ph (i:=i+1) (j:=up) (by omega) (by omega) (Nat.le_refl _)
 have hone:=g.one ho hmx (g.all ph hiL (by omega)).2.2.1
 have hlook:∀ t,t ∈ slotsOf ops.toList o→t < nt→VR ρ ((F i).get t) (a.tmps.getD t undef):=fun t ht htn=>by
  rw [← g.look hnt hc hlt ho hi hr ht htn]; exact inv.frm t htn
 have hFR:FR ρ (F i) a.eval o.op:=fun x hx=>by
  have hok:okX nt gl x=true:=List.all_eq_true.1 hd2 x hx
  cases x with
  | tmp t=>exact hlook t (tmp_slot hx rfl) (Nat.le_of_ble_eq_true hok)
  | const v=>exact VR.ofC hok
  | global gg=>exact VR.ptr (o:=0) (inv.ext _ _ (hat.gr gg (Nat.le_of_ble_eq_true hok)))
  | func f=>exact .func (a:=[]) (b:=[]) (a':=[]) (b':=[]) rfl rfl (fun i v v' h=>by simp at h) (fun i v v' h=>by simp at h)
 have hwant:∀ lg b,wantM nt (F i) (M i).lg ops.toList o=some (b,lg)→Sat lg→Region.wanted o (yielded ops a.tmps)=b:=fun lg b hw hSl=>by
  unfold wantM at hw
  split at hw
  ·rename_i hg; cases hw; simp [Region.wanted,hg]
  ·rename_i j want hg
   split at hw
   ·rename_i p hp
    split at hw
    ·rename_i t ht
     obtain ⟨h1,h2⟩:=cond_some hw
     have h1:t < nt:=Nat.le_of_ble_eq_true h1
     have hv:=hlook t (by
      unfold slotsOf
      refine List.mem_append.2 (.inr (List.mem_append.2 (.inr ?_)))
      simp [hg,hp,ht]) h1
     exact wanted_of hg hp ht (by rw [inv.tsz]; exact h1) (wantV_ok h2 hv hSl)
    ·cases hw
   ·cases hw
 have hframe:∀ (ρ':Ren) (v':Value),(∀ b l,ρ b=some l→ρ' b=some l)→VR ρ' (V i) v'→∀ t,t < nt→VR ρ' (fval D' (fun k=>(ops[k]?).bind (·.dst)) V (F 0).get t ops.size) ((a.put o.dst v').tmps.getD t undef):=fun ρ' v' he hv t ht=>by
  by_cases hd:o.dst=some t
  ·have hnext:∀ k,i < k→k < ops.size→(ops[k]?).bind (·.dst)=some t→D k=false:=fun k hik hk hkd=>by
    obtain ⟨p,hp⟩:=get_of_lt (ops:=ops) hk
    rw [hp] at hkd
    have:=g.slot hc hlt ho hi hr (t:=t) (by unfold slotsOf; simp [hd]) k p hp (by omega) hkd
    cases hq:D k with
    | false=>rfl
    | true=>have:=this.1 hq; omega
   rw [fval_add hD hDi ops.size hil (by simp [ho,hd]) hnext]
   simp only [hd,Act.put,Array.getD_eq_getD_getElem?]
   rw [Array.getElem?_setIfInBounds,if_pos rfl,if_pos (by rw [inv.tsz]; exact ht)]
   exact hv
  ·rw [fval_other hD (by simp [ho]; exact hd)]
   have h1:=(inv.frm t ht).mono he
   cases hdd:o.dst with
   | none=>exact h1
   | some d =>
     have hne:d≠t:=fun e=>hd (e ▸ hdd)
     simp only [Act.put,Array.getD_eq_getD_getElem?] at h1 ⊢
     rw [Array.getElem?_setIfInBounds,if_neg hne]
     exact h1
 have hused:∀ b,used M (Dr lo D') b up=true↔(used M (Dr lo D) b up=true∨((M i).n≤b∧b < (M (i+1)).n)):=fun b=>by
  rw [used_iff,used_iff]
  constructor
  ·rintro ⟨k,h1,h2,h3⟩
   obtain ⟨h20,h2⟩:=Dr_iff.1 h2
   by_cases e:k=i
   ·subst e; exact .inr h3
   ·rw [hD k e] at h2; exact .inl ⟨k,h1,Dr_iff.2 ⟨h20,h2⟩,h3⟩
  ·rintro (⟨k,h1,h2,h3⟩|h3)
   ·obtain ⟨h20,h2⟩:=Dr_iff.1 h2
    have e:k≠i:=fun e=>by subst e; rw [hi] at h2; cases h2
    exact ⟨k,h1,Dr_iff.2 ⟨h20,by rw [hD k e]; exact h2⟩,h3⟩
   ·exact ⟨i,hiup,Dr_iff.2 ⟨hiL,hDi⟩,h3⟩
 unfold wpOpI
 simp only [ho]
 have hSi:Sat (M (i+1)).lg:=SatL.le hS (by have:=g.lgs hcall (i:=i+1) (up - (i+1)) (by omega); rwa [show i+1+(up - (i+1))=up by omega] at this)
 rcases hstep with ⟨lg,hw,hv,hm⟩|⟨hso,_⟩|⟨_,lg,hw,mv,m',hview,hrun,hW,hhi,hmerge⟩
 rotate_left
 ·rw [hmx] at hso; cases hso
 rotate_left
 ·
  have hSl:Sat lg:=by rw [hm] at hSi; exact hSi
  rw [hwant lg false hw hSl]
  simp only [Bool.false_eq_true,if_false]
  have hG:GD M lo up D'=GD M lo up D:=by
   funext b
   unfold GD
   have:used M (Dr lo D') b up=used M (Dr lo D) b up:=by
    rw [Bool.eq_iff_iff,hused b]
    constructor
    ·rintro (h|h)
     ·exact h
     ·rw [hm] at h; have h2:b < (M i).n:=h.2; omega
    ·exact .inl
   rw [this]
  refine hK ρ _ w ⟨inv.ext,fun b l h1 h2=>⟨(hused b).2 (.inl (inv.new b l h1 h2).1),(inv.new b l h1 h2).2⟩,hG ▸ inv.hr,inv.keep,inv.size,inv.os,hG ▸ inv.tch,?_,?_,hframe ρ undef (fun _ _ h=>h) (hv ▸ undef_VR ρ)⟩
  ·cases hdd:o.dst <;> simp [Act.put,inv.tsz]
  ·rw [put_defers]; exact inv.dfr
 ·have hSm:Sat m'.lg:=by rw [merge_lg hmerge] at hSi; exact hSi
  have hSl:Sat lg:=SatL.le hSm (by have:=stepC_lg hcall hrun; rw [view_lg hview] at this; exact this)
  rw [hwant lg true hw hSl]
  simp only [if_true]
  obtain ⟨v1,v2,v3,_,v4⟩:=view_ok hview
  have v1:mv.n=(M i).n:=v1
  have v2:mv.hi=(M i).hi:=v2
  have v4:∀ id,id≤most→∀ ab,Hp.get mv.H id=some ab→Hp.get (M i).H id=some ab∧id ∉ hidden (openR ((ancs ops.toList []).getD i []) (R i)):=v4
  have hnh:=(g.all ph hiL (by omega)).2.2.1
  obtain ⟨q1,q2,q3,q4,q5,q6,_,q7⟩:=merge_ok hmerge hnh hhi
  have q1:(M i).n≤(M (i+1)).n:=q1
  have q5:(M (i+1)).n=m'.hi∨((M (i+1)).n=(M i).n∧m'.hi≤(M i).n):=q5
  have q7:∀ id,id≤most→Hp.get (M (i+1)).H id=if (M i).n≤id∧id < (M (i+1)).n then Hp.get m'.H id else Hp.get (M i).H id:=q7
  have hsubv:∀ id,id≤most→∀ ab,Hp.get mv.H id=some ab→GD M lo up D id=some ab:=fun id hid ab hab=>by
   obtain ⟨h1,h2⟩:=v4 id hid ab hab
   unfold GD
   by_cases hin:(M lo).n≤id∧id < (M i).n
   ·obtain ⟨k,k0,k1,k2,k3⟩:∃ k,lo≤k∧k < i∧(M k).n≤id∧id < (M (k+1)).n:=by
     have:=g.who ph (i - lo) (by omega) id hin.1 (by rw [show lo+(i - lo)=i by omega]; exact hin.2)
     rwa [show lo+(i - lo)=i by omega] at this
    have hDk:D k=true:=by
     have hrec:(⟨k,(M k).n,(M (k+1)).n⟩:Rec) ∈ R i:=by
      have:=g.recs ph (i - lo) (by omega) k k0 (by omega) id k2 k3
      rwa [show lo+(i - lo)=i by omega] at this
     by_cases hk:k ∈ (ancs ops.toList []).getD i []
     ·exact anc_in hc (fun i o ho=>by
       have:=(opsOk_at _ 0 g.ok i o ho).1
       rw [Nat.zero_add] at this
       exact edgesOk_at this) (i+1) i k o (Nat.lt_succ_self i) (ops_list ho) hr hk
     ·exfalso
      refine h2 (mem_hidden.2 ⟨_,List.mem_filter.2 ⟨hrec,?_⟩,k2,k3⟩)
      cases hq:hasN ((ancs ops.toList []).getD i []) k with
      | false=>rfl
      | true=>exact absurd (hasN_iff.1 hq) hk
    have hu:used M (Dr lo D) id up=true:=(used_iff _).2 ⟨k,by omega,Dr_iff.2 ⟨k0,hDk⟩,k2,k3⟩
    rw [hu]
    simp only [cond_true]
    rw [(g.le ph (i:=i) (j:=up) hiL (by omega) (Nat.le_refl _)).2.2 id hid hin.2]
    exact h1
   ·have hA:=(g.all ph hiL (by omega)).2.2.2.2 id hid (by omega)
    rw [hA] at h1
    have hu:used M (Dr lo D) id up=false:=by
     cases hq:used M (Dr lo D) id up with
     | false=>rfl
     | true =>
       exfalso
       obtain ⟨k,k1,kD,k2,k3⟩:=(used_iff _).1 hq
       have k0:=(Dr_iff.1 kD).1
       obtain ⟨l,e1,_⟩:=hat.hr.at_ id hid ab h1
       have hk0:=g.le ph (i:=lo) (j:=k) (Nat.le_refl _) k0 (by omega)
       have hkN:=g.le ph (i:=k+1) (j:=up) (by omega) (by omega) (Nat.le_refl _)
       have hNn:=(g.all ph ph.le (Nat.le_refl _)).2.2.1
       rw [hat.fr id (by omega) (by omega)] at e1
       cases e1
    rw [hu]
    exact h1
  have hHR:HR P base ρ mv.H w:=inv.hr.hr hsubv
  have hFree:Free ρ mv.n m'.hi:=fun b h1 h2=>by
   rw [v1] at h1
   cases hb:ρ b with
   | none=>rfl
   | some l =>
     exfalso
     cases h0:ρ0 b with
     | some l0 =>
       rw [hat.fr b (by omega) (by omega)] at h0
       cases h0
     | none =>
       obtain ⟨k,k1,k2,k3,k4⟩:=(used_iff _).1 (inv.new b l hb h0).1
       obtain ⟨k0,k2⟩:=Dr_iff.1 k2
       have hki:k≠i:=fun e=>by subst e; rw [hi] at k2; cases k2
       rcases Nat.lt_or_ge k i with hki'|hki'
       ·have:=(g.le ph (i:=k+1) (j:=i) (by omega) (by omega) (by omega)).1
        omega
       ·have:=(g.le ph (i:=i+1) (j:=k) (by omega) (by omega) (by omega)).1
        rcases q5 with q5|⟨_,q5⟩ <;> omega
  have hAt:At P base gl ρ mv m'.hi w:=⟨hHR,Nat.le_trans hat.bs inv.size,hFree,hat.gr.mono inv.ext,(by rw [v1,v2]; exact hnh),fun b hb=>(by rw [v3] at hb; cases hb),fun k o hk=>⟨(hat.gf k o hk).1,(inv.keep k (Nat.lt_of_lt_of_le (hat.gf k o hk).1 hat.bs)).trans (hat.gf k o hk).2⟩⟩
  refine stepC_ok hcall hrun hSm hAt hFR fun v' ρ' w' hv st=>hK ρ' _ w' ?_
  have hkeep:∀ k,k < w.heap.size→w'.heap[k]? = w.heap[k]? := fun k hk=>st.keep k hk fun b hb=>by rw [hW] at hb; cases hb
  have hm'n:m'.n≤m'.hi:=st.nhi (by rw [v1,v2]; exact hnh)
  have hnew:∀ b l,ρ' b=some l→ρ b=none→((M i).n≤b∧b < (M (i+1)).n)∧(l.on=true→w.heap.size≤l.blk):=fun b l h1 h2=>by
   have h3:=st.new b l h1 h2
   rw [v1] at h3
   refine ⟨⟨h3.1,?_⟩,?_⟩
   ·rcases q5 with q5|⟨_,q5⟩ <;> omega
   ·intro ho
    rcases st.blk b l h1 h2 ho with h|⟨b0,h,_⟩
    ·exact h
    ·rw [hW] at h; cases h
  have hin:∀ id,id≤most→(M i).n≤id→id < (M (i+1)).n→GD M lo up D' id=Hp.get m'.H id∧ρ id=none:=fun id hid h1 h2=>by
   constructor
   ·unfold GD
    rw [(hused id).2 (.inr ⟨h1,h2⟩)]
    simp only [cond_true]
    rw [hup.2.2 id hid h2,q7 id hid,if_pos ⟨h1,h2⟩]
   ·refine hFree id (by rw [v1]; exact h1) ?_
    rcases q5 with q5|⟨q5,_⟩
    ·omega
    ·rw [q5] at h2; omega
  have hout:∀ id,¬ ((M i).n≤id∧id < (M (i+1)).n)→GD M lo up D' id=GD M lo up D id:=fun id hid=>by
   unfold GD
   have:used M (Dr lo D') id up=used M (Dr lo D) id up:=by
    rw [Bool.eq_iff_iff,hused id]
    exact ⟨fun h=>h.elim (fun h=>h) (fun h=>absurd h hid),.inl⟩
   rw [this]
  have hFf:∀ k,Ff ρ' (GD M lo up D') k→w.heap.size≤k∨Ff ρ (GD M lo up D) k:=fun k ⟨id,ab,l,hid,hab,hl,ht⟩=>by
   by_cases hI:(M i).n≤id∧id < (M (i+1)).n
   ·rw [(hin id hid hI.1 hI.2).1] at hab
    rcases st.tch k ⟨id,ab,l,hid,hab,hl,ht⟩ with h|⟨id0,ab0,l0,e1,e2,e3,e4⟩
    ·exact .inl h
    ·exact .inr ⟨id0,ab0,l0,e1,hsubv id0 e1 ab0 e2,e3,e4⟩
   ·rw [hout id hI] at hab
    obtain ⟨l3,c1,_⟩:=inv.hr.at_ id hid ab hab
    rw [st.ext id l3 c1] at hl
    have:=Option.some.inj hl; subst this
    exact .inr ⟨id,ab,l3,hid,hab,c1,ht⟩
  refine ⟨fun b l h=>st.ext b l (inv.ext b l h),fun b l h1 h2=>?_,⟨st.hr.dom,fun id hid ab hab=>?_⟩,fun k hk=>by rw [hkeep k (Nat.lt_of_lt_of_le hk inv.size),inv.keep k hk],Nat.le_trans inv.size st.size,⟨st.os.1.trans inv.os.1,st.os.2.1.trans inv.os.2.1,st.os.2.2.trans inv.os.2.2⟩,fun k hk=>(hFf k hk).elim (fun h=>.inl (Nat.le_trans inv.size h)) (inv.tch k),?_,?_,hframe ρ' v' st.ext hv⟩
  ·cases h0:ρ b with
   | some l1 =>
     rw [st.ext b l1 h0] at h1
     have:=Option.some.inj h1; subst this
     exact ⟨(hused b).2 (.inl (inv.new b l1 h0 h2).1),(inv.new b l1 h0 h2).2⟩
   | none =>
     have:=hnew b l h1 h0
     exact ⟨(hused b).2 (.inr this.1),fun ho=>Nat.le_trans inv.size (this.2 ho)⟩
  ·by_cases hI:(M i).n≤id∧id < (M (i+1)).n
   ·obtain ⟨h1,h2⟩:=hin id hid hI.1 hI.2
    rw [h1] at hab
    obtain ⟨l,e1,e2,e3⟩:=st.hr.at_ id hid ab hab
    refine ⟨l,e1,e2,fun hrw hon=>⟨(e3 hrw hon).1,fun id2 hid2 ab2 l2 f1 f2 f3=>?_⟩⟩
    by_cases hI2:(M i).n≤id2∧id2 < (M (i+1)).n
    ·rw [(hin id2 hid2 hI2.1 hI2.2).1] at f1
     exact (e3 hrw hon).2 id2 hid2 ab2 l2 f1 f2 f3
    ·rw [hout id2 hI2] at f1
     obtain ⟨l3,c1,c2,_⟩:=inv.hr.at_ id2 hid2 ab2 f1
     rw [st.ext id2 l3 c1] at f2
     have:=Option.some.inj f2; subst this
     have h5:=c2.tc f3
     have h6:=(hnew id l e1 h2).2 hon
     omega
   ·rw [hout id hI] at hab
    obtain ⟨l,e1,e2,e3⟩:=inv.hr.at_ id hid ab hab
    refine ⟨l,st.ext _ _ e1,e2.mono st.ext (fun k hk=>hkeep _ (e2.tc hk)),fun hrw hon=>⟨(e3 hrw hon).1,fun id2 hid2 ab2 l2 f1 f2 f3=>?_⟩⟩
    by_cases hI2:(M i).n≤id2∧id2 < (M (i+1)).n
    ·exfalso
     rw [(hin id2 hid2 hI2.1 hI2.2).1] at f1
     have hfr:ab2.fr=true:=by
      cases hq:ab2.fr with
      | true=>rfl
      | false =>
        exfalso
        rcases f3 with ⟨_,h1,h2⟩|⟨h1,_⟩
        ·have h5:=(hnew id2 l2 f2 (hin id2 hid2 hI2.1 hI2.2).2).2 h1
         have h6:=e2.tc (.inl ⟨AB.rw_on hrw,hon,rfl⟩)
         omega
        ·rw [h1] at hq; cases hq
     rcases st.tch _ ⟨id2,ab2,l2,hid2,f1,f2,hfr,f3⟩ with h|⟨id0,ab0,l0,c1,c2,c3,_,c4⟩
     ·have:=e2.tc (.inl ⟨AB.rw_on hrw,hon,rfl⟩); omega
     ·have h7:=(e3 hrw hon).2 id0 c1 ab0 l0 (hsubv id0 c1 ab0 c2) c3 c4
      subst h7
      have h8:=hsubv id0 c1 ab0 c2
      rw [hab] at h8
      have h8:=Option.some.inj h8; subst h8
      have h9:id0 < mv.n∨m'.hi≤id0:=by
       rcases Nat.lt_or_ge id0 mv.n with h|h
       ·exact .inl h
       ·rcases Nat.lt_or_ge id0 m'.hi with h'|h'
        ·rw [hFree id0 h h'] at e1; cases e1
        ·exact .inr h'
      have h10:=st.same id0 c1 (by rw [hW]; simp) h9
      rw [c2] at h10
      obtain ⟨_,h11⟩:=st.hr.atl (st.ext _ _ e1) h10
      have:=(h11 hrw hon).2 id2 hid2 ab2 l2 f1 f2 f3
      subst this
      exact hI hI2
    ·rw [hout id2 hI2] at f1
     obtain ⟨l3,c1,_⟩:=inv.hr.at_ id2 hid2 ab2 f1
     rw [st.ext id2 l3 c1] at f2
     have:=Option.some.inj f2; subst this
     exact (e3 hrw hon).2 id2 hid2 ab2 l3 f1 c1 f3
  ·cases hdd:o.dst <;> simp [Act.put,inv.tsz]
  ·rw [put_defers]; exact inv.dfr.congr st.ext fun _=>⟨rfl,rfl⟩
end
end Go.Sx

namespace Go.Sx
set_option linter.all false
open Go
set_option linter.unusedVariables false
set_option linter.unusedSimpArgs false
variable [Ora]
theorem count_set:∀ (l:List Bool) (i:Nat),l[i]? = some false→(l.set i true).countP (fun b=>!b)+1=l.countP (fun b=>!b)
 | [],i,h=>by simp at h
 | b::r,0,h=>by simp at h; subst h; simp
 | b::r,i+1,h=>by
   have:=count_set r i (by simpa using h)
   rw [List.set_cons_succ,List.countP_cons,List.countP_cons]
   omega
theorem count_zero {l:List Bool} (h:l.countP (fun b=>!b)=0):∀ i,i < l.length→l[i]? = some true:=fun i hi=>by
 rw [List.countP_eq_zero] at h
 have:=h l[i] (List.getElem_mem hi)
 rw [List.getElem?_eq_getElem hi]
 cases hb:l[i] with
 | true=>rfl
 | false=>rw [hb] at this; exact absurd rfl this
section
variable {P:Program} {base gl:Nat} {call:CallT}
theorem merge_hi {m m' m2:Mem} (h:mergeM m m'=some m2) (hhi:m.hi≤m'.hi):m.hi≤m2.hi:=by
 unfold mergeM at h
 cases hq:Nat.ble m'.hi m.n with
 | true=>rw [hq] at h; cases h; exact Nat.le_refl _
 | false =>
   rw [hq] at h
   obtain ⟨_,h⟩:=cond_some h
   simp only [forceN_eq,force8_eq] at h
   cases h
   exact hhi
theorem allBelow_mem:∀ {n:Nat} {b:List Nat},allBelow n b=true→∀ k,k < n→k ∈ b
 | 0,_,_,k,h=>by omega
 | n+1,b,h,k,hk=>by
   obtain ⟨h1,h2⟩:=boolAnd (show (hasN b n && allBelow n b)=true from h)
   by_cases e:k=n
   ·subst e; exact hasN_iff.1 h1
   ·exact allBelow_mem h2 k (by omega)
theorem soAt_below {ops:Array Oper} {i:Nat} {o:Oper} (h:soAt ops i o=true):∀ k,k < i→k ∈ (ancs ops.toList []).getD i []:=by
 obtain ⟨_,h⟩:=boolAnd (show (wrO o.op && _)=true from h)
 obtain ⟨h,_⟩:=boolAnd h
 exact allBelow_mem h
theorem soAt_later {ops:Array Oper} {i:Nat} {o:Oper} (h:soAt ops i o=true):∀ j,i < j→j < ops.size→i ∈ (ancs ops.toList []).getD j []:=fun j hj hs=>by
 obtain ⟨_,h⟩:=boolAnd (show (wrO o.op && _)=true from h)
 obtain ⟨_,h⟩:=boolAnd h
 obtain ⟨tl,e1,e2,_⟩:=ancs_spec ops.toList []
 have hlen:(ancs ops.toList []).length=ops.size:=by rw [e1]; simpa using e2
 have hj2:j < (ancs ops.toList []).length:=by omega
 have hm:(ancs ops.toList [])[j] ∈ (ancs ops.toList []).drop (i+1):=by
  rw [List.mem_drop_iff_getElem]
  exact ⟨j - (i+1),by omega,by congr 1; omega⟩
 have:=List.all_eq_true.1 h _ hm
 rw [List.getD_eq_getElem?_getD,List.getElem?_eq_getElem hj2]
 exact hasN_iff.1 this
theorem next_solo (ops:Array Oper):∀ (d lo:Nat),lo+d=ops.size→∃ up,lo≤up∧up≤ops.size∧(∀ i o,lo≤i→i < up→ops[i]? = some o→soAt ops i o=false)∧(up < ops.size→∃ o,ops[up]? = some o∧soAt ops up o=true)
 | 0,lo,h=>⟨lo,Nat.le_refl _,by omega,fun i o h1 h2=>by omega,fun h2=>by omega⟩
 | d+1,lo,h=>by
   obtain ⟨o,ho⟩:=get_of_lt (ops:=ops) (i:=lo) (by omega)
   cases hs:soAt ops lo o with
   | true=>exact ⟨lo,Nat.le_refl _,by omega,fun i o h1 h2=>by omega,fun _=>⟨o,ho,hs⟩⟩
   | false =>
     obtain ⟨up,h1,h2,h3,h4⟩:=next_solo ops d (lo+1) (by omega)
     refine ⟨up,by omega,h2,fun i o' a b c=>?_,h4⟩
     by_cases e:i=lo
     ·subst e; rw [ho] at c; cases c; exact hs
     ·exact h3 i o' (by omega) b c
section
variable {nt:Nat} {ops:Array Oper} {F:Nat→Fr} {M:Nat→Mem} {V:Nat→Value} {R:Nat→List Rec} {lo up:Nat}
theorem Rg.frameUp (g:Rg P base gl nt call ops F M V R) (hnt:nt≤512) {t:Tmp} (ht:t < nt) {i:Nat} (hi:i≤ops.size):fval (fun k=>Nat.blt k i) (fun k=>(ops[k]?).bind (·.dst)) V (F 0).get t ops.size=(F i).get t:=by
 rw [g.frame hnt ht i hi]
 have e2:∀ d,i+d≤ops.size→fval (fun k=>Nat.blt k i) (fun k=>(ops[k]?).bind (·.dst)) V (F 0).get t (i+d)=fval (fun k=>Nat.blt k i) (fun k=>(ops[k]?).bind (·.dst)) V (F 0).get t i:=by
  intro d
  induction d with
  | zero=>intro _; rfl
  | succ d ih =>
    intro hd
    rw [show i+(d+1)=(i+d)+1 by omega]
    rw [fval,if_neg (fun hh=>by have:i+d < i:=Nat.le_of_ble_eq_true hh.1; omega)]
    exact ih (by omega)
 have:=e2 (ops.size - i) (by omega)
 rwa [show i+(ops.size - i)=ops.size by omega] at this
theorem bltB {k i:Nat}:Nat.blt k i=true↔k < i:=⟨fun h=>Nat.le_of_ble_eq_true h,fun h=>Nat.ble_eq_true_of_le h⟩
theorem Rg.own (g:Rg P base gl nt call ops F M V R) (hn:nt≤510):∀ (i:Nat),i≤ops.size→(F i).get 510=(F 0).get 510∧(F i).get 511=(F 0).get 511
 | 0,_=>⟨rfl,rfl⟩
 | i+1,hi=>by
   obtain ⟨o,ho⟩:=get_of_lt (ops:=ops) (i:=i) (by omega)
   obtain ⟨d1,_,d3,_⟩:=g.st i o ho
   have ih:=g.own hn i (by omega)
   have key:∀ t,510≤t→t < 512→(F (i+1)).get t=(F i).get t:=fun t h1 h2=>by
    rw [d3]
    cases hd:o.dst with
    | none=>rfl
    | some d =>
      rw [hd] at d1
      have hlt:d < nt:=Nat.le_of_ble_eq_true d1
      show ((F i).set d _).get t=_
      rw [fr_get_set _ _ _ _ (Nat.lt_of_lt_of_le hlt (by omega)) h2,if_neg (fun e=>by subst e; exact absurd hlt (Nat.not_lt.2 (Nat.le_trans hn h1)))]
   exact ⟨(key 510 (by decide) (by decide)).trans ih.1,(key 511 (by decide) (by decide)).trans ih.2⟩
theorem Rg.done {z:Zn} (g:Rg P base gl nt call ops F M V R) (ph:Ph ops M lo up) (hnt:nt≤512) {D:Nat→Bool} {ρL ρ:Ren} {a:Act} {wL w':World} (hD:∀ i,D i=true↔i < up) (inv:Inv z P base gl nt ops F M V lo up ρL wL D ρ a w'):FrR z ρ nt (F up) a∧St P base ρL ρ (M lo) (M up) wL w':=by
 have hG:∀ id,id≤most→GD M lo up D id=Hp.get (M up).H id:=fun id hid=>by
  unfold GD
  cases hu:used M (Dr lo D) id up with
  | true=>rfl
  | false =>
    simp only [cond_false]
    refine ((g.all ph ph.le (Nat.le_refl _)).2.2.2.2 id hid ?_).symm
    rcases Nat.lt_or_ge id (M lo).n with h1|h1
    ·exact .inl h1
    ·rcases Nat.lt_or_ge id (M up).n with h2|h2
     ·exfalso
      have hle:=ph.le
      obtain ⟨k,k0,k1,k2,k3⟩:=g.who ph (up - lo) (by omega) id h1 (by rw [show lo+(up - lo)=up by omega]; exact h2)
      rw [(used_iff (M:=M) (D:=Dr lo D) up).2 ⟨k,by omega,Dr_iff.2 ⟨k0,(hD k).2 (by omega)⟩,k2,k3⟩] at hu
      cases hu
     ·exact .inr h2
 have hall:=g.all ph ph.le (Nat.le_refl _)
 have hz:=inv.dfr.congr (fun _ _ h=>h) (fun hn=>g.own hn up ph.sz)
 refine ⟨⟨inv.tsz,hnt,hz.1,hz.2,fun t ht=>?_⟩,?_⟩
 ·have h1:=inv.frm t ht
  rw [← g.frameUp hnt ht ph.sz]
  rwa [fval_congr (D':=fun k=>Nat.blt k up) ops.size (fun k hk _=>by rw [Bool.eq_iff_iff,hD k,bltB])] at h1
 ·refine ⟨inv.ext,fun b l h1 h2=>?_,hall.1,hall.2.1,fun _=>hall.2.2.1,inv.hr.hr fun id hid ab hab=>by rw [hG id hid]; exact hab,fun b hb=>by rw [hall.2.2.2.1]; exact hb,fun b h1 h2=>by rw [hall.2.2.2.1] at h1; exact absurd h1 h2,
     fun k hk _=>inv.keep k hk,inv.size,inv.os,fun b l h1 h2 ho=>.inl ((inv.new b l h1 h2).2 ho),fun id hid h1 h2=>?_,fun k ⟨id,ab,l,e1,e2,e3,e4⟩=>inv.tch k ⟨id,ab,l,e1,(hG id e1).trans e2,e3,e4⟩⟩
  ·obtain ⟨k,k1,kD,k2,k3⟩:=(used_iff _).1 (inv.new b l h1 h2).1
   have k0:=(Dr_iff.1 kD).1
   have e1:=(g.le ph (i:=lo) (j:=k) (Nat.le_refl _) k0 (by omega)).1
   have e2:=(g.le ph (i:=k+1) (j:=up) (by omega) (by omega) (Nat.le_refl _)).1
   omega
  ·refine hall.2.2.2.2 id hid ?_
   rcases h2 with h2|h2
   ·exact .inl h2
   ·exact .inr (by have:=hall.2.2.1; omega)
theorem Rg.fresh {z:Zn} (g:Rg P base gl nt call ops F M V R) (hle:lo≤ops.size) {D:Nat→Bool} {ρ:Ren} {a:Act} {w:World} (hD:∀ i,D i=true↔i < lo) (hr:HR P base ρ (M lo).H w) (hfr:FrR z ρ nt (F lo) a):Inv z P base gl nt ops F M V lo up ρ w D ρ a w:=by
 have hu:∀ b n,used M (Dr lo D) b n=false:=fun b n=>by
  cases hq:used M (Dr lo D) b n with
  | false=>rfl
  | true =>
    obtain ⟨k,_,h,_⟩:=(used_iff _).1 hq
    obtain ⟨h1,h2⟩:=Dr_iff.1 h
    have:=(hD k).1 h2
    omega
 have hGD:∀ id ab,GD M lo up D id=some ab→Hp.get (M lo).H id=some ab:=fun id ab hab=>by
  unfold GD at hab
  rw [hu] at hab
  exact hab
 refine ⟨fun _ _ h=>h,fun b l h1 h2=>(by rw [h1] at h2; cases h2),hr.f fun id hid ab hab=>hGD id ab hab,fun _ _=>rfl,Nat.le_refl _,⟨rfl,rfl,rfl⟩,fun k ⟨id,ab,l,e1,e2,e3,e4⟩=>.inr ⟨id,ab,l,e1,hGD id ab e2,e3,e4⟩,hfr.size,hfr.zr.congr (fun _ _ h=>h) (fun hn=>⟨(g.own hn lo hle).1.symm,(g.own hn lo hle).2.symm⟩),fun t ht=>?_⟩
 have h1:=hfr.get t ht
 rw [← g.frameUp hfr.le ht hle] at h1
 rwa [fval_congr (D':=D) ops.size (fun k hk _=>by rw [Bool.eq_iff_iff,hD k,bltB])] at h1
end
theorem draws_ok (hm:P.follows .mixedOrders=true) (hcall:CallOk P base gl call):DrawsOk P base gl call:=by
 intro nt ops hok s s' hrun
 obtain ⟨F,M,V,R,f1,f2,f3,f4,f5,f6⟩:=trace ops.toList 0 _ _ s s' hrun
 simp only [Nat.zero_add,Array.length_toList] at f4 f5 f6
 have hmono:∀ i,i≤ops.size→∀ d,i+d≤ops.size→(M i).hi≤(M (i+d)).hi∧(M i).lg.le (M (i+d)).lg:=by
  intro i _ d
  induction d with
  | zero=>intro _; exact ⟨Nat.le_refl _,.refl _⟩
  | succ d ih =>
    intro h
    have h1:=ih (by omega)
    obtain ⟨o,ho⟩:=get_of_lt (ops:=ops) (i:=i+d) (by omega)
    obtain ⟨hst,_⟩:=f6 (i+d) o (ops_list ho)
    refine ⟨?_,h1.2.trans (stepAt_lg hcall hst)⟩
    obtain ⟨_,_,_,h2⟩:=hst
    rcases h2 with ⟨_,_,_,h2⟩|⟨_,_,_,_,h2⟩|⟨_,_,_,mv,m',_,_,_,hhi,h2⟩
    ·show _≤(M (i+d+1)).hi
     rw [h2]; exact h1.1
    ·exact Nat.le_trans h1.1 h2
    ·exact Nat.le_trans h1.1 (merge_hi h2 hhi)
 have hmono':∀ i j,i≤j→j≤ops.size→(M i).hi≤(M j).hi∧(M i).lg.le (M j).lg:=fun i j h1 h2=>by
  have:=hmono i (by omega) (j - i) (by omega)
  rwa [show i+(j - i)=j by omega] at this
 constructor
 ·have:=hmono' 0 ops.size (by omega) (Nat.le_refl _)
  rw [f2,f5] at this; exact this
 ·intro z ρ0 a0 w id Q hSat hat hfr hQ
  have g:Rg P base gl nt call ops F M V R:=⟨fun i o ho=>(f6 i o (ops_list ho)).1,fun i o ho=>(f6 i o (ops_list ho)).2,hok⟩
  have hsub:∀ i o,ops[i]? = some o→∀ e ∈ o.after.toList,Region.binds .any e=true→e.on < i:=fun i o ho=>by
   have:=(opsOk_at _ 0 g.ok i o (ops_list ho)).1
   rw [Nat.zero_add] at this
   exact edgesOk_at this
  refine wpI_region_any hm ?_
  generalize hw1:({ w with drawn:=w.drawn+1 }:World)=w1
  have hh1:w1.heap=w.heap:=by rw [← hw1]
  have ho1:w1.os=w.os∧w1.tape=w.tape∧w1.output=w.output:=by rw [← hw1]; exact ⟨rfl,rfl,rfl⟩
  have hat1:At P base gl ρ0 (M 0) (M ops.size).hi w1:=by
   rw [f2,f5]
   exact ⟨⟨fun b l h=>hat.hr.dom b l h,fun id hid ab hab=>by
    obtain ⟨l,e1,e2,e3⟩:=hat.hr.at_ id hid ab hab
    exact ⟨l,e1,e2.mono (fun _ _ h=>h) (fun _ _=>by rw [hh1]),e3⟩⟩,by rw [hh1]; exact hat.bs,hat.fr,hat.gr,hat.nh,hat.wb,fun k o hk=>by rw [hh1]; exact hat.gf k o hk⟩
  have hSatM:∀ i,i≤ops.size→Sat (M i).lg:=fun i hi=>SatL.le hSat (by rw [← f5]; exact (hmono' i ops.size hi (Nat.le_refl _)).2)
  have hfree1:Free ρ0 (M 0).n (M ops.size).hi:=hat1.fr
  have fin:∀ (ρ:Ren) (a:Act) (w':World),FrR z ρ nt (F ops.size) a→St P base ρ0 ρ (M 0) (M ops.size) w1 w'→Q .normal a w':=fun ρ a w' hf st=>by
   refine hQ ρ a w' (by rw [← f4]; exact hf) ?_
   rw [← f2,← f5]
   exact ⟨st.ext,st.new,st.nle,st.hle,st.nhi,st.hr,st.wsub,st.wrw,fun k hk hb=>by rw [st.keep k (by rw [hh1]; exact hk) hb,hh1],by rw [← hh1]; exact st.size,⟨st.os.1.trans ho1.1,st.os.2.1.trans ho1.2.1,st.os.2.2.trans ho1.2.2⟩,fun b l h1 h2 h3=>by rw [← hh1]; exact st.blk b l h1 h2 h3,st.same,fun k hk=>by rw [← hh1]; exact st.tch k hk⟩
  have main:∀ (fuel:Nat) (listed:Array Bool) (lo up:Nat) (ρL ρ:Ren) (a:Act) (wL w':World),listed.size=ops.size→listed.toList.countP (fun b=>!b)=fuel→Closed ops.toList (fun k=>listed.getD k false=true) →
    Ph ops M lo up→(up < ops.size→∃ o,ops[up]? = some o∧soAt ops up o=true)→St P base ρ0 ρL (M 0) (M lo) w1 wL→At P base gl ρL (M lo) (M ops.size).hi wL→(∀ k,k < lo→listed.getD k false=true)→(∀ k,listed.getD k false=true→k < up) →
    Inv z P base gl nt ops F M V lo up ρL wL (fun k=>listed.getD k false) ρ a w'→wpAnyI P z.rd .any ops Q fuel listed a w':=by
   intro fuel
   induction fuel with
   | zero =>
     intro listed lo up ρL ρ a wL w' hsz hcnt hcl ph hsolo st0 hatL hlo0 hup0 inv
     have hall:∀ i,i < ops.size→listed.getD i false=true:=fun i hi=>by
      have:=count_zero hcnt i (by simpa [hsz] using hi)
      have h2:listed[i]? = some true:=by simpa using this
      simp [Array.getD_eq_getD_getElem?,h2]
     have hups:up=ops.size:=by
      rcases Nat.lt_or_ge up ops.size with h|h
      ·have:=hup0 up (hall up h); omega
      ·have:=ph.sz; omega
     refine ⟨?_,?_⟩
     ·rw [List.eq_nil_iff_forall_not_mem]
      intro j hj
      obtain ⟨h1,o,h2,_⟩:=mem_ready.1 hj
      have hlt:j < ops.size:=(Array.getElem?_eq_some_iff.1 h2).1
      have h3:=hall j hlt
      have hj2:j < listed.size:=by omega
      simp [Array.getD_eq_getD_getElem?,hj2] at h1 h3
      rw [h1] at h3; cases h3
     ·subst hups
      obtain ⟨q1,q2⟩:=g.done ph hfr.le (fun i=>⟨fun h=>hup0 i h,fun h=>hall i h⟩) inv
      exact fin ρ a w' q1 (St.trans hfree1 st0 q2)
   | succ fuel ih =>
     intro listed lo up ρL ρ a wL w' hsz hcnt hcl ph hsolo st0 hatL hlo0 hup0 inv
     refine ⟨fun hre=>?_,fun i hi=>?_⟩
     ·
      have key:∀ n i,i < n→i < ops.size→listed.getD i false=true:=by
       intro n
       induction n with
       | zero=>intro i h; omega
       | succ n ihn =>
         intro i hin hil
         by_cases h:i < n
         ·exact ihn i h hil
         ·cases hq:listed.getD i false with
          | true=>rfl
          | false =>
            exfalso
            obtain ⟨o,ho⟩:=get_of_lt (ops:=ops) hil
            have hmem:i ∈ Region.ready .any ops listed:=mem_ready.2 ⟨by
             have hj2:i < listed.size:=by omega
             simp [Array.getD_eq_getD_getElem?,hj2] at hq ⊢
             exact hq,o,ho,fun e he hb=>by
             have hlt:=hsub i o ho e (by simpa using he) hb
             exact ihn e.on (by omega) (by omega)⟩
            rw [hre] at hmem; cases hmem
      have hall:∀ i,i < ops.size→listed.getD i false=true:=fun i hi=>key (i+1) i (Nat.lt_succ_self i) hi
      have hups:up=ops.size:=by
       rcases Nat.lt_or_ge up ops.size with h|h
       ·have:=hup0 up (hall up h); omega
       ·have:=ph.sz; omega
      subst hups
      obtain ⟨q1,q2⟩:=g.done ph hfr.le (fun i=>⟨fun h=>hup0 i h,fun h=>hall i h⟩) inv
      exact fin ρ a w' q1 (St.trans hfree1 st0 q2)
     ·obtain ⟨h1,o,ho,h2⟩:=mem_ready.1 hi
      have hil:i < ops.size:=(Array.getElem?_eq_some_iff.1 ho).1
      have hil2:i < listed.size:=by omega
      have h1':listed.getD i false=false:=by
       simp [Array.getD_eq_getD_getElem?,hil2] at h1 ⊢
       exact h1
      have hother:∀ k,k≠i→(listed.setIfInBounds i true).getD k false=listed.getD k false:=fun k hk=>by
       simp only [Array.getD_eq_getD_getElem?,Array.getElem?_setIfInBounds]
       rw [if_neg (fun e=>hk e.symm)]
      have hself:(listed.setIfInBounds i true).getD i false=true:=by
       simp [Array.getD_eq_getD_getElem?,Array.getElem?_setIfInBounds,hil2]
      have hr:∀ e ∈ o.after.toList,Region.binds .any e=true→listed.getD e.on false=true:=fun e he hb=>h2 e (by simpa using he) hb
      have hsz':(listed.setIfInBounds i true).size=ops.size:=by simpa using hsz
      have hcnt':(listed.setIfInBounds i true).toList.countP (fun b=>!b)=fuel:=by
       have hg:listed.toList[i]? = some false:=by
        simp [Array.getD_eq_getD_getElem?,hil2] at h1'
        simp [hil2,h1']
       have:=count_set listed.toList i hg
       rw [Array.toList_setIfInBounds]
       omega
      have hcl':Closed ops.toList (fun k=>(listed.setIfInBounds i true).getD k false=true):=by
       intro k o' ho' hk e he hb
       by_cases e1:e.on=i
       ·rw [e1]; exact hself
       ·show (listed.setIfInBounds i true).getD e.on false=true
        rw [hother e.on e1]
        by_cases e2:k=i
        ·subst e2
         have:ops.toList[k]? = some o:=ops_list ho
         rw [this] at ho'
         cases ho'
         exact hr e he hb
        ·have hk:(listed.setIfInBounds i true).getD k false=true:=hk
         rw [hother k e2] at hk
         exact hcl k o' ho' hk e he hb
      have hanc:∀ k,k ∈ (ancs ops.toList []).getD i []→listed.getD k false=true:=fun k hk=>anc_in hcl (fun i o ho=>by
        have:=(opsOk_at _ 0 g.ok i o ho).1
        rw [Nat.zero_add] at this
        exact edgesOk_at this) (i+1) i k o (Nat.lt_succ_self i) (ops_list ho) hr hk
      have hlt:∀ k,listed.getD k false=true→k < ops.size:=fun k hk=>Nat.lt_of_lt_of_le (hup0 k hk) ph.sz
      rcases Nat.lt_or_ge i up with hiu|hiu
      ·
       have hne:∀ k,k < lo→k≠i:=fun k hk e=>by subst e; rw [hlo0 k hk] at h1'; cases h1'
       refine g.step ph hcall (hatL.less (hmono' up ops.size ph.sz (Nat.le_refl _)).1) (hSatM up ph.sz) hfr.le inv hcl hlt hlo0 hiu ho h1' hr hother hself fun ρ' a' w'' inv'=>ih (listed.setIfInBounds i true) lo up ρL ρ' a' wL w'' hsz' hcnt' hcl' ph hsolo st0 hatL (fun k hk=>?_) (fun k hk=>?_) inv'
       ·rw [hother k (hne k hk)]; exact hlo0 k hk
       ·by_cases e:k=i
        ·omega
        ·rw [hother k e] at hk; exact hup0 k hk
      ·
       obtain ⟨os,hos,hso⟩:=hsolo (by omega)
       have hiup:i=up:=by
        rcases Nat.lt_or_ge up i with h|h
        ·have:=hup0 up (hanc up (soAt_later hso i h hil)); omega
        ·omega
       subst hiup
       rw [ho] at hos
       cases hos
       have hD:∀ k,listed.getD k false=true↔k < i:=fun k=>⟨hup0 k,fun h=>hanc k (soAt_below hso k h)⟩
       obtain ⟨q1,q2⟩:=g.done ph hfr.le hD inv
       have st1:St P base ρ0 ρ (M 0) (M i) w1 w':=St.trans (hfree1.less (hmono' i ops.size (by omega) (Nat.le_refl _)).1) st0 q2
       have hat2:At P base gl ρ (M i) (M ops.size).hi w':=hatL.step q2
       obtain ⟨d1,d2,d3,hst⟩:=g.st i o ho
       have hnext:∀ (ρ':Ren) (v':Value) (w'':World),VR ρ' (V i) v'→St P base ρ ρ' (M i) (M (i+1)) w' w''→wpAnyI P z.rd .any ops Q fuel (listed.setIfInBounds i true) (a.put o.dst v') w'':=fun ρ' v' w'' hv st2=>by
        obtain ⟨up',u1,u2,u3,u4⟩:=next_solo ops (ops.size - (i+1)) (i+1) (by omega)
        have hat3:=hat2.step st2
        have hfr3:FrR z ρ' nt (F (i+1)) (a.put o.dst v'):=by rw [d3]; exact (q1.mono st2.ext).dst d1 hv
        have hD':∀ k,(listed.setIfInBounds i true).getD k false=true↔k < i+1:=fun k=>by
         by_cases e:k=i
         ·subst e; rw [hself]; simp
         ·rw [hother k e,hD k]; omega
        exact ih (listed.setIfInBounds i true) (i+1) up' ρ' ρ' _ w'' w'' hsz' hcnt' hcl' ⟨u1,u2,hat3.nh,u3⟩ u4 (St.trans (hfree1.less (hmono' (i+1) ops.size (by omega) (Nat.le_refl _)).1) st1 st2) hat3 (fun k hk=>(hD' k).2 hk) (fun k hk=>by have:=(hD' k).1 hk; omega) (g.fresh (by omega) hD' st2.hr hfr3)
       unfold wpOpI
       simp only [ho]
       rcases hst with ⟨lg,hw,hv,hmm⟩|⟨_,lg,hw,hrun2,hhi⟩|⟨hso2,_⟩
       ·have hSl:Sat lg:=by have:=hSatM (i+1) (by omega); rw [hmm] at this; simpa using this
        rw [wantM_ok q1 hw hSl]
        simp only [Bool.false_eq_true,if_false]
        refine hnext ρ undef w' (hv ▸ undef_VR ρ) ?_
        rw [hmm]; exact St.wLg hat2.hr lg
       ·have hSm:=hSatM (i+1) (by omega)
        have hSl:Sat lg:=SatL.le hSm (by have:=stepC_lg hcall hrun2; rw [wLg_lg] at this; exact this)
        rw [wantM_ok q1 hw hSl]
        simp only [if_true]
        have hat4:At P base gl ρ ((M i).wLg lg) (M (i+1)).hi w':=(hat2.wLg lg).less (hmono' (i+1) ops.size (by omega) (Nat.le_refl _)).1
        refine stepC_ok hcall hrun2 hSm hat4 (q1.ops hat2.gr d2) fun v' ρ' w'' hv st2=>hnext ρ' v' w'' hv ?_
        have hst3:=St.wLg (m:=M i) hat2.hr lg
        exact St.trans (by have:=hat2.fr; exact this.less (hmono' (i+1) ops.size (by omega) (Nat.le_refl _)).1) hst3 st2
       ·rw [hso] at hso2; cases hso2
  obtain ⟨up,u1,u2,u3,u4⟩:=next_solo ops ops.size 0 (by omega)
  have hD0:∀ k,(Array.replicate ops.size false).getD k false=true↔k < 0:=fun k=>by
   simp only [Array.getD_eq_getD_getElem?,Array.getElem?_replicate]
   split <;> simp
  refine main ops.size _ 0 up ρ0 ρ0 a0 w1 w1 (by simp) (by simp [List.countP_replicate]) (fun k o ho hk=>by have:=(hD0 k).1 hk; omega) ⟨u1,u2,hat1.nh,u3⟩ u4 (St.refl hat1.hr) hat1 (fun k hk=>by omega) (fun k hk=>by have:=(hD0 k).1 hk; omega) (g.fresh (by omega) hD0 hat1.hr (by rw [f1]; exact hfr))
end
end Go.Sx

namespace Go.Sx
set_option linter.all false
open Go
set_option linter.unusedVariables false
set_option linter.unusedSimpArgs false
variable [Ora]
section
variable {P:Program} {base gl:Nat}
theorem ext_run {f:FuncId} {fn:Func} {e:Array Value→Sem Value} {args:Array Value} {w w':World} {v:Value} (hf:P.funcs[f]? = some fn) (hnm:(fn.name == "runtime.NumGoroutine")=false) (hb:fn.body=none) (hn:Extern.findNext fn=none) (he:Extern.find fn=some e)
  (hr:(e args).run P w=.ok v w'):(callFunc f args).run P w=.ok (.value v) w':=by
 have hnm':fn.name ≠ "runtime.NumGoroutine":=by simpa using hnm
 simp [callFunc,Sem.run_bind,run_program,Result.andThen,hf,hnm',hb,hn,he,mark,Sem.run,hr]
theorem extM_inv {k:EK} {vs:List Value} {m m':Mem} {v:Value} (h:extM k vs m=some (v,m')) :
  (k=.noEscape∧vs=[v]∧m'=m) ∨
  (k=.indexByteString∧∃ s c,vs=[.string s,.int .u8 (.ofNat c)]∧v=.int .i64 (indexB s.data.toList (UInt8.ofNat c) 0)∧m'=m) ∨
  (k=.countString∧∃ s c,vs=[.string s,.int .u8 (.ofNat c)]∧v=.int .i64 (countB (UInt8.ofNat c) s.data.toList 0)∧m'=m) ∨
  (∃ e n,k=.makeNoZero e∧vs=[.int .i64 (.ofNat n)]∧n≤1000000000∧newM m (.cells [] e false) (fun b=>.slice (some ⟨b,0,none⟩) n OPEN)=some (v,m')):=by
 unfold extM at h
 split at h
 ·cases h; exact .inl ⟨rfl,rfl,rfl⟩
 ·cases h; exact .inr (.inl ⟨rfl,_,_,rfl,rfl,rfl⟩)
 ·cases h; exact .inr (.inr (.inl ⟨rfl,_,_,rfl,rfl,rfl⟩))
 ·obtain ⟨h1,h⟩:=cond_some h
  exact .inr (.inr (.inr ⟨_,_,rfl,rfl,Nat.le_of_ble_eq_true h1,h⟩))
 ·cases h
theorem extM_lg {k:EK} {vs:List Value} {m m':Mem} {v:Value} (h:(FnC.mk (extM k)).run vs m=some (v,m')):m.lg.le m'.lg:=by
 have h:extM k vs m=some (v,m'):=h
 rcases extM_inv h with ⟨_,_,rfl⟩|⟨_,_,_,_,_,rfl⟩|⟨_,_,_,_,_,rfl⟩|⟨_,_,_,_,_,h⟩
 ·exact .refl _
 ·exact .refl _
 ·exact .refl _
 ·obtain ⟨_,_,rfl⟩:=newM_eq h
  exact .refl _
theorem noEscape_ok {f:FuncId} {fn:Func} (hf:P.funcs[f]? = some fn) (hnm:(fn.name == "runtime.NumGoroutine")=false) (hb:fn.body=none) (hn:Extern.findNext fn=none) (he:Extern.find fn=some Extern.AbiNoEscape.same):FnOk P base gl f ⟨extM .noEscape⟩:=by
 refine ⟨fun vs m m' v hr=>extM_lg hr,?_⟩
 intro ρ m m' w vs vs' v hr hS hat hl
 have hr:extM .noEscape vs m=some (v,m'):=hr
 rcases extM_inv hr with ⟨_,rfl,rfl⟩|⟨h,_⟩|⟨h,_⟩|⟨_,_,h,_⟩
 ·obtain ⟨v',r',rfl,h1,h2⟩:=hl.tail
  cases h2.nil_inv
  exact .inr ⟨v',ρ,w,ext_run hf hnm hb hn he rfl,h1,.refl hat.hr⟩
 ·cases h
 ·cases h
 ·cases h
theorem indexB_eq (c:UInt8):∀ (l:List UInt8) (k:Nat),indexB l c k=if Lib.indexByte l c == -1 then -1 else Lib.indexByte l c+k
 | [],k=>rfl
 | x::r,k=>by
   have hg:=Lib.indexByte_ge r c
   have ih:=indexB_eq c r (k+1)
   rw [indexB,Lib.indexByte]
   by_cases e:x=c
   ·subst e; simp
   ·have e1:(x == c)=false:=by simpa using e
    simp only [e1,decide_eq_false e,cond_false]
    rw [ih]
    by_cases h:Lib.indexByte r c = -1
    ·simp [h]
    ·have h2:(Lib.indexByte r c == -1)=false:=by simpa using h
     have h3:(Lib.indexByte r c+1 == -1)=false:=by simp; omega
     simp only [h2,h3,Bool.false_eq_true,if_false]
     omega
theorem indexB_lib (c:UInt8) (l:List UInt8):indexB l c 0=Lib.indexByte l c:=by
 rw [indexB_eq]
 by_cases h:Lib.indexByte l c = -1
 ·simp [h]
 ·have h2:(Lib.indexByte l c == -1)=false:=by simpa using h
  simp [h2]
theorem countB_lib (c:UInt8):∀ (l:List UInt8) (n:Nat),countB c l n=n+l.count c
 | [],n=>rfl
 | x::r,n=>by
   rw [countB,List.count_cons]
   by_cases e:x=c
   ·subst e
    simp only [decide_true,cond_true,forceN_eq,beq_self_eq_true,if_true]
    rw [countB_lib x r (n+1)]; omega
   ·have e1:(x == c)=false:=by simpa using e
    simp only [decide_eq_false e,cond_false,e1,Bool.false_eq_true,if_false]
    rw [countB_lib c r n]; omega
theorem indexByte_ok {f:FuncId} {fn:Func} (hf:P.funcs[f]? = some fn) (hnm:(fn.name == "runtime.NumGoroutine")=false) (hb:fn.body=none) (hn:Extern.findNext fn=none) (he:Extern.find fn=some Extern.BytealgIndexByte.indexByte):FnOk P base gl f ⟨extM .indexByteString⟩:=by
 refine ⟨fun vs m m' v hr=>extM_lg hr,?_⟩
 intro ρ m m' w vs vs' v hr hS hat hl
 have hr:extM .indexByteString vs m=some (v,m'):=hr
 rcases extM_inv hr with ⟨h,_⟩|⟨_,s,c,rfl,rfl,rfl⟩|⟨h,_⟩|⟨_,_,h,_⟩
 ·cases h
 ·obtain ⟨v1,r1,rfl,h1,h2⟩:=hl.tail
  obtain ⟨v2,r2,rfl,h3,h4⟩:=h2.tail
  cases h4.nil_inv
  cases inv_str h1
  cases inv_int h3
  refine .inr ⟨_,ρ,w,ext_run hf hnm hb hn he (Lib.run_indexByteString s (.ofNat c) w),?_,.refl hat.hr⟩
  rw [indexB_lib]; exact .pure rfl
 ·cases h
 ·cases h
theorem countString_ok {f:FuncId} {fn:Func} (hf:P.funcs[f]? = some fn) (hnm:(fn.name == "runtime.NumGoroutine")=false) (hb:fn.body=none) (hn:Extern.findNext fn=none) (he:Extern.find fn=some Extern.BytealgCount.count):FnOk P base gl f ⟨extM .countString⟩:=by
 refine ⟨fun vs m m' v hr=>extM_lg hr,?_⟩
 intro ρ m m' w vs vs' v hr hS hat hl
 have hr:extM .countString vs m=some (v,m'):=hr
 rcases extM_inv hr with ⟨h,_⟩|⟨h,_⟩|⟨_,s,c,rfl,rfl,rfl⟩|⟨_,_,h,_⟩
 ·cases h
 ·cases h
 ·obtain ⟨v1,r1,rfl,h1,h2⟩:=hl.tail
  obtain ⟨v2,r2,rfl,h3,h4⟩:=h2.tail
  cases h4.nil_inv
  cases inv_str h1
  cases inv_int h3
  refine .inr ⟨_,ρ,w,ext_run hf hnm hb hn he (Lib.run_countString s (.ofNat c) w),?_,.refl hat.hr⟩
  rw [countB_lib,Nat.zero_add]; exact .pure rfl
 ·cases h
theorem makeNoZero_ok {f:FuncId} {fn:Func} {ps:Array TypeId} {t e:TypeId} (hf:P.funcs[f]? = some fn) (hnm:(fn.name == "runtime.NumGoroutine")=false) (hb:fn.body=none) (hn:Extern.findNext fn=none) (he:Extern.find fn=some (Extern.BytealgMakeNoZero.makeNoZero ps #[t]))
  (hu:P.underlying t=some (.slice e)) (hi:(P.info? e).map (·.size)=some 1):FnOk P base gl f ⟨extM (.makeNoZero e)⟩:=by
 refine ⟨fun vs m m' v hr=>extM_lg hr,?_⟩
 intro ρ m m' w vs vs' v hr hS hat hl
 have hr:extM (.makeNoZero e) vs m=some (v,m'):=hr
 rcases extM_inv hr with ⟨h,_⟩|⟨h,_⟩|⟨h,_⟩|⟨e',n,h,rfl,hn9,hr⟩
 ·cases h
 ·cases h
 ·cases h
 ·cases h
  obtain ⟨v1,r1,rfl,h1,h2⟩:=hl.tail
  cases h2.nil_inv
  cases inv_int h1
  obtain ⟨cs,hrun,hle,_⟩:=Lib.run_makeNoZero (P:=P) w ps t e hu n (by omega)
  obtain ⟨e1,e2,e3⟩:=new_cells (wd:=w.drew.drew) (fz:=(0,0)) (cap:=cs.size) (C:=cs) (cs':=[]) hat.hr hat.bs hr hat.fr (.nil) (fun i u hi=>by simp at hi) (fun i _ hh=>by have h1:0≤i:=hh.1; have h2:i < 0:=hh.2; omega)
   (fun inf h2=>by rw [h2] at hi; have hi:some inf.size=some 1:=hi; have hi:=Option.some.inj hi; rw [hi]; omega) ⟨rfl,rfl,rfl⟩ rfl
  refine .inr ⟨_,_,_,ext_run hf hnm hb hn he hrun,?_,e3⟩
  rw [e1]
  have:=VR.op (ρ:=upd ρ m.n (lc w.heap.size 0 cs.size)) (b:=m.n) (o:=0) (n:=n) (m:=OPEN) (m':=cs.size) e2 (Nat.le_refl _) hle (fun _ _=>rfl)
  simpa using this
end
end Go.Sx

namespace Go.Sx
set_option linter.all false
open Go
set_option linter.unusedVariables false
variable [Ora]
structure ExtRow (P:Program) (f:FuncId) (k:EK):Prop where
 row:∃ fn,P.funcs[f]? = some fn∧(fn.name == "runtime.NumGoroutine")=false∧fn.body=none∧Extern.findNext fn=none ∧
  ((k=.noEscape∧Extern.find fn=some Extern.AbiNoEscape.same)∨(k=.indexByteString∧Extern.find fn=some Extern.BytealgIndexByte.indexByte)∨(k=.countString∧Extern.find fn=some Extern.BytealgCount.count) ∨
    (∃ e ps t,k=.makeNoZero e∧Extern.find fn=some (Extern.BytealgMakeNoZero.makeNoZero ps #[t])∧P.underlying t=some (.slice e)∧(P.info? e).map (·.size)=some 1))
theorem ExtRow.ok {P:Program} {f:FuncId} {k:EK} {base gl:Nat} (h:ExtRow P f k):FnOk P base gl f ⟨extM k⟩:=by
 obtain ⟨fn,h1,h2,h3,h4,h5⟩:=h.row
 rcases h5 with ⟨rfl,h5⟩|⟨rfl,h5⟩|⟨rfl,h5⟩|⟨e,ps,t,rfl,h5,h6,h7⟩
 ·exact noEscape_ok h1 h2 h3 h4 h5
 ·exact indexByte_ok h1 h2 h3 h4 h5
 ·exact countString_ok h1 h2 h3 h4 h5
 ·exact makeNoZero_ok h1 h2 h3 h4 h5 h6 h7
theorem findE_mem:∀ {l:List (FuncId × EK)} {f:FuncId} {k:EK},findE l f=some k→(f,k) ∈ l
 | (g,j)::r,f,k,h=>by
   rw [findE] at h
   cases e:Nat.beq g f with
   | true =>
     rw [e] at h
     cases h
     rw [Nat.eq_of_beq_eq_true e]; exact .head _
   | false =>
     rw [e] at h
     exact .tail _ (findE_mem h)
theorem cxOk_of {P:Program} {ext:List (FuncId × EK)} {gl base:Nat} {con:FuncId→Option FnC} {lp:FuncId→LpT} (hm:P.follows .mixedOrders=true) (hn:NameOk P) (he:∀ p ∈ ext,ExtRow P p.1 p.2)
  (hc:∀ f c,con f=some c→FnOk P base gl f c) (hl:∀ f fn body,P.funcs[f]? = some fn→fn.body=some body→LpOk P base gl fn.ntmps body (lp f)) :
  CxOk ⟨P,ext,gl,con,lp⟩ base :=
 { names:=hn,ext:=fun f k fn _ _ h=>(he _ (findE_mem h)).ok,con:=hc,lp:=hl,draws:=fun _ h=>draws_ok hm h }
end Go.Sx
