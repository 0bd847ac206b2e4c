/- The law PickWords: for every input the call returns true, and the arguments read behind it as they read before. No condition. -/
import Derived.Test.YtdkdbjgkedahfaaDoorX5
import Derived.Lib.Bytealg
import Derived.Lib.MakeNoZero
namespace Go.Sx
set_option linter.all false
open Go
set_option linter.unusedVariables false
set_option linter.unusedSimpArgs false
variable [Ora]
def soAt (ops:Array Oper) (i:Nat) (o:Oper):Bool:=soloB o.op i ((ancs ops.toList []).getD i []) ((ancs ops.toList []).drop (i+1))
structure Rg (P:Program) (base gl nt:Nat) (call:CallT) (ops:Array Oper) (F:Nat→Fr) (M:Nat→Mem) (V:Nat→Value) (R:Nat→List Rec):Prop where
 st:∀ i o,ops[i]? = some o→StepAt P nt gl call ops.toList ((ancs ops.toList []).getD i []) (R i) (soAt ops i o) o (F i) (F (i+1)) (M i) (M (i+1)) (V i)
 rc:∀ i o,ops[i]? = some o→(R (i+1)=R i∧∃ lg,M (i+1)=(M i).wLg lg)∨(soAt ops i o=true∧R (i+1)=[])∨R (i+1)=⟨i,(M i).n,(M (i+1)).n⟩::R i
 ok:opsOk ops.toList (ancs ops.toList []) ops.toList 0=true
structure Ph (ops:Array Oper) (M:Nat→Mem) (lo up:Nat):Prop where
 le:lo≤up
 sz:up≤ops.size
 nh:(M lo).n≤(M lo).hi
 mx:∀ i o,lo≤i→i < up→ops[i]? = some o→soAt ops i o=false
section
variable {P:Program} {base gl nt:Nat} {call:CallT} {ops:Array Oper} {F:Nat→Fr} {M:Nat→Mem} {V:Nat→Value} {R:Nat→List Rec} {lo up:Nat}
theorem get_of_lt {i:Nat} (h:i < ops.size):∃ o,ops[i]? = some o:=⟨ops[i],by simp [h]⟩
theorem Rg.one (g:Rg P base gl nt call ops F M V R) {i:Nat} {o:Oper} (ho:ops[i]? = some o) (hso:soAt ops i o=false) (hn:(M i).n≤(M i).hi):(M i).n≤(M (i+1)).n∧(M i).hi≤(M (i+1)).hi∧(M (i+1)).n≤(M (i+1)).hi∧(M (i+1)).W=(M i).W ∧
  ∀ id,id≤most→(id < (M i).n∨(M (i+1)).n≤id)→Hp.get (M (i+1)).H id=Hp.get (M i).H id:=by
 obtain ⟨_,_,_,h⟩:=g.st i o ho
 rcases h with ⟨lg,_,_,h⟩|⟨h,_⟩|⟨_,lg,_,mv,m',_,_,_,hhi,hm⟩
 ·rw [h]; exact ⟨Nat.le_refl _,Nat.le_refl _,hn,rfl,fun _ _ _=>rfl⟩
 ·rw [hso] at h; cases h
 ·obtain ⟨h1,h2,h3,h4,_,_,_,h5⟩:=merge_ok hm hn hhi
  exact ⟨h1,h2,h3,h4,fun id hid hh=>by rw [h5 id hid,if_neg (by show ¬ ((M i).n≤id∧_); omega)]; rfl⟩
theorem Rg.allD (g:Rg P base gl nt call ops F M V R) (ph:Ph ops M lo up):∀ d,lo+d≤up→(M lo).n≤(M (lo+d)).n∧(M lo).hi≤(M (lo+d)).hi∧(M (lo+d)).n≤(M (lo+d)).hi∧(M (lo+d)).W=(M lo).W ∧
  ∀ id,id≤most→(id < (M lo).n∨(M (lo+d)).n≤id)→Hp.get (M (lo+d)).H id=Hp.get (M lo).H id
 | 0,_=>⟨Nat.le_refl _,Nat.le_refl _,ph.nh,rfl,fun _ _ _=>rfl⟩
 | d+1,h=>by
   obtain ⟨h1,h2,h3,h4,h5⟩:=g.allD ph d (by omega)
   obtain ⟨o,ho⟩:=get_of_lt (ops:=ops) (i:=lo+d) (by have:=ph.sz; omega)
   obtain ⟨k1,k2,k3,k4,k5⟩:=g.one ho (ph.mx _ o (by omega) (by omega) ho) h3
   exact ⟨Nat.le_trans h1 k1,Nat.le_trans h2 k2,k3,k4.trans h4,fun id hid hh=>by
    rw [show lo+(d+1)=lo+d+1 by omega] at hh ⊢
    rw [k5 id hid (by omega),h5 id hid (by omega)]⟩
theorem Rg.all (g:Rg P base gl nt call ops F M V R) (ph:Ph ops M lo up) {i:Nat} (h0:lo≤i) (h:i≤up):(M lo).n≤(M i).n∧(M lo).hi≤(M i).hi∧(M i).n≤(M i).hi∧(M i).W=(M lo).W ∧
  ∀ id,id≤most→(id < (M lo).n∨(M i).n≤id)→Hp.get (M i).H id=Hp.get (M lo).H id:=by
 have:=g.allD ph (i - lo) (by omega)
 rwa [show lo+(i - lo)=i by omega] at this
theorem Rg.mono (g:Rg P base gl nt call ops F M V R) (ph:Ph ops M lo up) {i:Nat} (h0:lo≤i):∀ d,i+d≤up→(M i).n≤(M (i+d)).n∧(M i).hi≤(M (i+d)).hi∧∀ id,id≤most→id < (M i).n→Hp.get (M (i+d)).H id=Hp.get (M i).H id
 | 0,_=>⟨Nat.le_refl _,Nat.le_refl _,fun _ _ _=>rfl⟩
 | d+1,h=>by
   obtain ⟨h1,h2,h5⟩:=g.mono ph h0 d (by omega)
   obtain ⟨o,ho⟩:=get_of_lt (ops:=ops) (i:=i+d) (by have:=ph.sz; omega)
   obtain ⟨k1,k2,k3,k4,k5⟩:=g.one ho (ph.mx _ o (by omega) (by omega) ho) (g.all ph (i:=i+d) (by omega) (by omega)).2.2.1
   exact ⟨Nat.le_trans h1 k1,Nat.le_trans h2 k2,fun id hid hh=>by rw [show i+(d+1)=i+d+1 by omega,k5 id hid (by omega),h5 id hid hh]⟩
theorem Rg.le (g:Rg P base gl nt call ops F M V R) (ph:Ph ops M lo up) {i j:Nat} (h0:lo≤i) (h:i≤j) (hj:j≤up):(M i).n≤(M j).n∧(M i).hi≤(M j).hi∧∀ id,id≤most→id < (M i).n→Hp.get (M j).H id=Hp.get (M i).H id:=by
 have:=g.mono ph h0 (j - i) (by omega)
 rwa [show i+(j - i)=j by omega] at this
theorem view_lg {m mv:Mem} {c:Cls} {us:List Rec} (h:viewM m c us=some mv):mv.lg=m.lg:=by
 obtain ⟨H,n,W,hi,lg⟩:=m
 unfold viewM at h
 simp only at h
 cases c with
 | free=>cases h; rfl
 | one b =>
   simp only at h
   cases hq:hasN (hidden us) b || !(Nat.ble b most) with
   | true=>rw [hq] at h; cases h
   | false=>rw [hq,put_eq] at h; cases h; rfl
 | all =>
   simp only at h
   obtain ⟨hb,h⟩:=cond_some h
   cases h; rfl
theorem merge_lg {m m' m2:Mem} (h:mergeM m m'=some m2):m2.lg=m'.lg:=by
 unfold mergeM at h
 cases hq:Nat.ble m'.hi m.n with
 | true=>rw [hq] at h; cases h; rfl
 | false =>
   rw [hq] at h
   obtain ⟨_,h⟩:=cond_some h
   simp only [forceN_eq,force8_eq] at h
   cases h
   rfl
theorem stepAt_lg {all:List Oper} {b:List Nat} {rs:List Rec} {so:Bool} {o:Oper} {fr fr':Fr} {m m2:Mem} {v:Value} (hc:CallOk P base gl call) (h:StepAt P nt gl call all b rs so o fr fr' m m2 v):m.lg.le m2.lg:=by
 obtain ⟨_,_,_,h⟩:=h
 rcases h with ⟨lg,hw,_,h⟩|⟨_,lg,hw,hr,_⟩|⟨_,lg,hw,mv,m',hv,hr,_,hhi,hm⟩
 ·rw [h]; exact wantM_le hw
 ·have h1:=stepC_lg hc hr
  rw [wLg_lg] at h1
  exact (wantM_le hw).trans h1
 ·rw [merge_lg hm]
  have h1:=stepC_lg hc hr
  rw [view_lg hv] at h1
  exact (wantM_le hw).trans h1
theorem Rg.lgs (g:Rg P base gl nt call ops F M V R) (hc:CallOk P base gl call) {i:Nat}:∀ d,i+d≤ops.size→(M i).lg.le (M (i+d)).lg
 | 0,_=>.refl _
 | d+1,h=>by
   obtain ⟨o,ho⟩:=get_of_lt (ops:=ops) (i:=i+d) (by omega)
   exact (g.lgs hc d (by omega)).trans (stepAt_lg hc (g.st (i+d) o ho))
theorem Rg.who (g:Rg P base gl nt call ops F M V R) (ph:Ph ops M lo up):∀ d,lo+d≤up→∀ b,(M lo).n≤b→b < (M (lo+d)).n→∃ k,lo≤k∧k < lo+d∧(M k).n≤b∧b < (M (k+1)).n
 | 0,_,b,h1,h2=>by have h2:b < (M lo).n:=h2; omega
 | d+1,h,b,h1,h2=>by
   rcases Nat.lt_or_ge b (M (lo+d)).n with h3|h3
   ·obtain ⟨k,k0,k1,k2⟩:=g.who ph d (by omega) b h1 h3
    exact ⟨k,k0,by omega,k2⟩
   ·exact ⟨lo+d,by omega,by omega,h3,h2⟩
theorem mem_hidden:∀ {rs:List Rec} {b:Nat},b ∈ hidden rs↔∃ r ∈ rs,r.lo≤b∧b < r.hi
 | [],b=>by simp [hidden]
 | r::rs,b=>by
   simp only [hidden,List.mem_append,mem_span,mem_hidden (rs:=rs),List.mem_cons]
   constructor
   ·rintro (h|⟨r',h1,h2⟩)
    ·exact ⟨r,.inl rfl,by omega⟩
    ·exact ⟨r',.inr h1,h2⟩
   ·rintro ⟨r',rfl|h1,h2⟩
    ·exact .inl (by omega)
    ·exact .inr ⟨r',h1,h2⟩
theorem Rg.recs (g:Rg P base gl nt call ops F M V R) (ph:Ph ops M lo up):∀ d,lo+d≤up→∀ k,lo≤k→k < lo+d→∀ b,(M k).n≤b→b < (M (k+1)).n→⟨k,(M k).n,(M (k+1)).n⟩ ∈ R (lo+d)
 | 0,_,k,_,h,_,_,_=>by omega
 | d+1,hi,k,hk,h,b,h1,h2=>by
   obtain ⟨o,ho⟩:=get_of_lt (ops:=ops) (i:=lo+d) (by have:=ph.sz; omega)
   have hmx:=ph.mx _ o (by omega) (by omega) ho
   show _ ∈ R (lo+d+1)
   by_cases e:k=lo+d
   ·subst e
    rcases g.rc (lo+d) o ho with ⟨_,lg,h3⟩|⟨h3,_⟩|h3
    ·rw [h3] at h2; have h2:b < (M (lo+d)).n:=h2; omega
    ·rw [hmx] at h3; cases h3
    ·rw [h3]; exact List.mem_cons_self
   ·have:=g.recs ph d (by omega) k hk (by omega) b h1 h2
    rcases g.rc (lo+d) o ho with ⟨h3,_⟩|⟨h3,_⟩|h3
    ·rw [h3]; exact this
    ·rw [hmx] at h3; cases h3
    ·rw [h3]; exact List.mem_cons_of_mem _ this
theorem view_ok {m mv:Mem} {c:Cls} {us:List Rec} (h:viewM m c us=some mv):mv.n=m.n∧mv.hi=m.hi∧mv.W=[]∧mv.lg=m.lg∧∀ id,id≤most→∀ ab,Hp.get mv.H id=some ab→Hp.get m.H id=some ab∧id ∉ hidden us:=by
 obtain ⟨H,n,W,hi,lg⟩:=m
 unfold viewM at h
 simp only at h
 cases c with
 | free =>
   cases h
   exact ⟨rfl,rfl,rfl,rfl,fun id _ ab hab=>by rw [hp_get0] at hab; cases hab⟩
 | one b =>
   simp only at h
   cases hq:hasN (hidden us) b || !(Nat.ble b most) with
   | true=>rw [hq] at h; cases h
   | false =>
     rw [hq,put_eq] at h
     cases h
     simp only [Bool.or_eq_false_iff,Bool.not_eq_false'] at hq
     have hb:=Nat.le_of_ble_eq_true hq.2
     refine ⟨rfl,rfl,rfl,rfl,fun id hid ab hab=>?_⟩
     have hab:Hp.get (Hp.set hp0 b (Hp.get H b)) id=some ab:=hab
     rw [hp_get_set _ _ _ _ hb hid] at hab
     by_cases e:id=b
     ·subst e
      rw [if_pos rfl] at hab
      exact ⟨hab,fun hm=>by rw [hasN_iff.2 hm] at hq; exact absurd hq.1 (by simp)⟩
     ·rw [if_neg e,hp_get0] at hab; cases hab
 | all =>
   simp only at h
   obtain ⟨hb,h⟩:=cond_some h
   cases h
   refine ⟨rfl,rfl,rfl,rfl,fun id hid ab hab=>?_⟩
   have hab:Hp.get (hideL H (hidden us)) id=some ab:=hab
   rw [hideL_get _ _ (bigIds_le hb) id hid] at hab
   by_cases e:id ∈ hidden us
   ·rw [if_pos e] at hab; cases hab
   ·rw [if_neg e] at hab; exact ⟨hab,e⟩
def used (M:Nat→Mem) (D:Nat→Bool) (b:Nat):Nat→Bool
 | 0=>false
 | n+1=>(D n && Nat.ble (M n).n b && Nat.blt b (M (n+1)).n) || used M D b n
theorem used_iff {D:Nat→Bool} {b:Nat}:∀ n,used M D b n=true↔∃ k,k < n∧D k=true∧(M k).n≤b∧b < (M (k+1)).n
 | 0=>by simp [used]
 | n+1=>by
   simp only [used,Bool.or_eq_true,Bool.and_eq_true,used_iff n]
   constructor
   ·rintro (⟨⟨h1,h2⟩,h3⟩|⟨k,h1,h2⟩)
    ·exact ⟨n,by omega,h1,Nat.le_of_ble_eq_true h2,Nat.le_of_ble_eq_true h3⟩
    ·exact ⟨k,by omega,h2⟩
   ·rintro ⟨k,h1,h2,h3,h4⟩
    by_cases e:k=n
    ·subst e; exact .inl ⟨⟨h2,Nat.ble_eq_true_of_le h3⟩,Nat.ble_eq_true_of_le h4⟩
    ·exact .inr ⟨k,by omega,h2,h3,h4⟩
def Dr (lo:Nat) (D:Nat→Bool) (k:Nat):Bool:=Nat.ble lo k && D k
theorem Dr_iff {lo:Nat} {D:Nat→Bool} {k:Nat}:Dr lo D k=true↔lo≤k∧D k=true:=by
 unfold Dr
 rw [Bool.and_eq_true]
 exact ⟨fun h=>⟨Nat.le_of_ble_eq_true h.1,h.2⟩,fun h=>⟨Nat.ble_eq_true_of_le h.1,h.2⟩⟩
def GD (M:Nat→Mem) (lo N:Nat) (D:Nat→Bool) (b:Nat):Option AB:=bif used M (Dr lo D) b N then Hp.get (M N).H b else Hp.get (M lo).H b
structure Inv (z:Zn) (P:Program) (base gl nt:Nat) (ops:Array Oper) (F:Nat→Fr) (M:Nat→Mem) (V:Nat→Value) (lo up:Nat) (ρ0:Ren) (w0:World) (D:Nat→Bool) (ρ:Ren) (a:Act) (w:World):Prop where
 ext:∀ b l,ρ0 b=some l→ρ b=some l
 new:∀ b l,ρ b=some l→ρ0 b=none→used M (Dr lo D) b up=true∧(l.on=true→w0.heap.size≤l.blk)
 hr:HRf P base ρ (GD M lo up D) w
 keep:∀ k,k < w0.heap.size→w.heap[k]? = w0.heap[k]?
 size:w0.heap.size≤w.heap.size
 os:w.os=w0.os∧w.tape=w0.tape∧w.output=w0.output
 tch:∀ k,Ff ρ (GD M lo up D) k→w0.heap.size≤k∨Fp ρ0 (M lo).H k
 tsz:a.tmps.size=nt
 dfr:ZR z ρ nt (F 0) a.defers
 frm:∀ t,t < nt→VR ρ (fval D (fun k=>(ops[k]?).bind (·.dst)) V (F 0).get t ops.size) (a.tmps.getD t undef)
theorem ops_list {i:Nat} {o:Oper} (h:ops[i]? = some o):ops.toList[i]? = some o:=by simpa using h
theorem opsOk_at {ops:List Oper} {an:List (List Nat)}:∀ (r:List Oper) (i:Nat),opsOk ops an r i=true→∀ j o,r[j]? = some o→edgesOk (i+j) o.after.toList=true∧slotOk an (i+j) (slotsOf ops o) ops 0=true
 | [],i,h,j,o,hj=>by simp at hj
 | x::r,i,h,j,o,hj=>by
   obtain ⟨h1,h2⟩:=boolAnd (show (edgesOk i x.after.toList && (slotOk an i (slotsOf ops x) ops 0 && opsOk ops an r (i+1)))=true from h)
   obtain ⟨h2,h3⟩:=boolAnd h2
   cases j with
   | zero=>simp at hj; subst hj; exact ⟨h1,h2⟩
   | succ j =>
     have:=opsOk_at r (i+1) h3 j o (by simpa using hj)
     rwa [show i+1+j=i+(j+1) by omega] at this
theorem edgesOk_at:∀ {es:List Edge} {i:Nat},edgesOk i es=true→∀ e ∈ es,Region.binds .any e=true→e.on < i
 | [],i,h,e,he,_=>by cases he
 | x::r,i,h,e,he,hb=>by
   obtain ⟨h1,h2⟩:=boolAnd (show ((!(Region.binds .any x) || Nat.blt x.on i) && edgesOk i r)=true from h)
   rcases List.mem_cons.1 he with rfl|he
   ·rw [hb] at h1
    have h1:Nat.blt e.on i=true:=by simpa only [Bool.not_true,Bool.false_or] using h1
    exact Nat.le_of_ble_eq_true h1
   ·exact edgesOk_at h2 e he hb
theorem slotOk_at {an:List (List Nat)} {i:Nat} {sl:List Tmp}:∀ (r:List Oper) (k0:Nat),slotOk an i sl r k0=true→∀ j p t,r[j]? = some p→k0+j≠i→p.dst=some t→t ∈ sl→ordB an i (k0+j)=true
 | [],k0,h,j,p,t,hj,_,_,_=>by simp at hj
 | x::r,k0,h,j,p,t,hj,hne,hd,ht=>by
   obtain ⟨h1,h2⟩:=boolAnd (show ((Nat.beq k0 i || (match x.dst with|none=>true|some t=>!(hasN sl t) || ordB an i k0)) && slotOk an i sl r (k0+1))=true from h)
   cases j with
   | zero =>
     simp at hj; subst hj
     have hb:Nat.beq k0 i=false:=by
      cases hq:Nat.beq k0 i with
      | false=>rfl
      | true=>exact absurd (Nat.eq_of_beq_eq_true hq) hne
     rw [hb,hd,Bool.false_or] at h1
     simp only [hasN_iff.2 ht,Bool.not_true,Bool.false_or] at h1
     exact h1
   | succ j =>
     have:=slotOk_at r (k0+1) h2 j p t (by simpa using hj) (by omega) hd ht
     rwa [show k0+1+j=k0+(j+1) by omega] at this
theorem Rg.slot (g:Rg P base gl nt call ops F M V R) {D:Nat→Bool} (hc:Closed ops.toList fun k=>D k=true) (hlt:∀ k,D k=true→k < ops.size) {i:Nat} {o:Oper} (ho:ops[i]? = some o) (hi:D i=false)
  (hr:∀ e ∈ o.after.toList,Region.binds .any e=true→D e.on=true) {t:Tmp} (ht:t ∈ slotsOf ops.toList o):∀ k p,ops[k]? = some p→k≠i→p.dst=some t→(D k=true↔k < i):=fun k p hp hne hd=>by
 have hb:∀ (i:Nat) (o:Oper),ops.toList[i]? = some o→∀ e ∈ o.after.toList,Region.binds .any e=true→e.on < i:=fun i o ho=>by
  have:=(opsOk_at _ 0 g.ok i o ho).1
  rw [Nat.zero_add] at this
  exact edgesOk_at this
 have h1:=(opsOk_at _ 0 g.ok i o (ops_list ho)).2
 have h2:=slotOk_at _ 0 h1 k p t (ops_list hp) (by omega) hd ht
 rw [Nat.zero_add,Nat.zero_add] at h2
 unfold ordB at h2
 rcases Nat.lt_trichotomy k i with hlt'|heq|hgt
 ·have hq:Nat.blt i k=false:=by
   cases hq:Nat.blt i k with
   | false=>rfl
   | true=>have:i < k:=Nat.le_of_ble_eq_true hq; omega
  rw [hq] at h2
  have hm:=hasN_iff.1 (by simpa using h2)
  exact ⟨fun _=>hlt',fun _=>anc_in hc hb (i+1) i k o (Nat.lt_succ_self i) (ops_list ho) hr hm⟩
 ·exact absurd heq hne
 ·have hq:Nat.blt i k=true:=Nat.ble_eq_true_of_le hgt
  rw [hq] at h2
  have hm:=hasN_iff.1 (by simpa using h2)
  refine ⟨fun hk=>?_,fun h=>by omega⟩
  have:=anc_in hc hb (k+1) k i p (Nat.lt_succ_self k) (ops_list hp) (fun e he hbe=>hc k p (ops_list hp) hk e he hbe) hm
  rw [hi] at this; cases this
theorem Rg.frame (g:Rg P base gl nt call ops F M V R) (hnt:nt≤512) {t:Tmp} (ht:t < nt):∀ i,i≤ops.size→(F i).get t=fval (fun k=>Nat.blt k i) (fun k=>(ops[k]?).bind (·.dst)) V (F 0).get t i
 | 0,_=>rfl
 | i+1,h=>by
   obtain ⟨o,ho⟩:=get_of_lt (ops:=ops) (i:=i) (by omega)
   obtain ⟨h1,_,h3,_⟩:=g.st i o ho
   have ih:=g.frame hnt ht i (by omega)
   have e1:fval (fun k=>Nat.blt k (i+1)) (fun k=>(ops[k]?).bind (·.dst)) V (F 0).get t i=fval (fun k=>Nat.blt k i) (fun k=>(ops[k]?).bind (·.dst)) V (F 0).get t i:=fval_congr i fun k hk _=>by
    rw [show Nat.blt k (i+1)=true from Nat.ble_eq_true_of_le (by omega),show Nat.blt k i=true from Nat.ble_eq_true_of_le hk]
   have e2:Nat.blt i (i+1)=true:=Nat.ble_eq_true_of_le (Nat.le_refl _)
   rw [h3]
   unfold fval
   rw [e1,← ih]
   simp only [e2,ho,Option.bind_some,true_and]
   cases hd:o.dst with
   | none=>simp [dstF]
   | some d =>
     rw [hd] at h1
     have hd':d < nt:=Nat.le_of_ble_eq_true h1
     simp only [dstF,Option.some.injEq]
     rw [fr_get_set _ _ _ _ (Nat.lt_of_lt_of_le hd' hnt) (Nat.lt_of_lt_of_le ht hnt)]
     by_cases e:t=d
     ·subst e; simp
     ·rw [if_neg e,if_neg (fun h=>e h.symm)]
theorem Rg.look (g:Rg P base gl nt call ops F M V R) (hnt:nt≤512) {D:Nat→Bool} (hc:Closed ops.toList fun k=>D k=true) (hlt:∀ k,D k=true→k < ops.size) {i:Nat} {o:Oper} (ho:ops[i]? = some o) (hi:D i=false)
  (hr:∀ e ∈ o.after.toList,Region.binds .any e=true→D e.on=true) {t:Tmp} (ht:t ∈ slotsOf ops.toList o) (htn:t < nt):fval D (fun k=>(ops[k]?).bind (·.dst)) V (F 0).get t ops.size=(F i).get t:=by
 have hil:i < ops.size:=(Array.getElem?_eq_some_iff.1 ho).1
 rw [g.frame hnt htn i (by omega)]
 have hs:=g.slot hc hlt ho hi hr ht
 have e1:fval D (fun k=>(ops[k]?).bind (·.dst)) V (F 0).get t ops.size=fval (fun k=>Nat.blt k i) (fun k=>(ops[k]?).bind (·.dst)) V (F 0).get t ops.size:=fval_congr _ fun k hk hd=>by
  obtain ⟨p,hp⟩:=get_of_lt (ops:=ops) hk
  rw [hp] at hd
  by_cases e:k=i
  ·subst e; rw [hi]; symm
   cases hq:Nat.blt k k with
   | false=>rfl
   | true=>have:k < k:=Nat.le_of_ble_eq_true hq; omega
  ·have:=hs k p hp e hd
   rw [Bool.eq_iff_iff,this]
   exact ⟨fun h=>Nat.ble_eq_true_of_le h,fun h=>Nat.le_of_ble_eq_true h⟩
 rw [e1]
 have e2:∀ d,i+d≤ops.size→fval (fun k=>Nat.blt k i) (fun k=>(ops[k]?).bind (·.dst)) V (F 0).get t (i+d)=fval (fun k=>Nat.blt k i) (fun k=>(ops[k]?).bind (·.dst)) V (F 0).get t i:=by
  intro d
  induction d with
  | zero=>intro _; rfl
  | succ d ih =>
    intro hd
    rw [show i+(d+1)=(i+d)+1 by omega]
    rw [fval,if_neg (fun hh=>by have:i+d < i:=Nat.le_of_ble_eq_true hh.1; omega)]
    exact ih (by omega)
 have:=e2 (ops.size - i) (by omega)
 rwa [show i+(ops.size - i)=ops.size by omega] at this
theorem tmp_slot {o:Oper} {x:Operand} {t:Tmp} (hx:x ∈ o.op.operands.toList) (ht:x=.tmp t):t ∈ slotsOf ops.toList o:=by
 unfold slotsOf
 refine List.mem_append.2 (.inr (List.mem_append.2 (.inl (List.mem_flatMap.2 ⟨x,hx,?_⟩))))
 subst ht; simp [tmpOf]
theorem Rg.step {z:Zn} (g:Rg P base gl nt call ops F M V R) (ph:Ph ops M lo up) (hcall:CallOk P base gl call) {ρ0 ρ:Ren} {w0 w:World} {D D':Nat→Bool} {a:Act} {i:Nat} {o:Oper} {Q:Exit→Act→World→Prop} {K:Act→World→Prop}
  (hat:At P base gl ρ0 (M lo) (M up).hi w0) (hS:Sat (M up).lg) (hnt:nt≤512) (inv:Inv z P base gl nt ops F M V lo up ρ0 w0 D ρ a w) (hc:Closed ops.toList fun k=>D k=true) (hlt:∀ k,D k=true→k < ops.size) (hlo0:∀ k,k < lo→D k=true) (hiup:i < up) (ho:ops[i]? = some o) (hi:D i=false)
  (hr:∀ e ∈ o.after.toList,Region.binds .any e=true→D e.on=true) (hD:∀ k,k≠i→D' k=D k) (hDi:D' i=true)
  (hK:∀ ρ' a' w',Inv z P base gl nt ops F M V lo up ρ0 w0 D' ρ' a' w'→K a' w'):wpOpI P z.rd ops Q i K a w:=by
 have hil:i < ops.size:=(Array.getElem?_eq_some_iff.1 ho).1
 obtain ⟨hd1,hd2,hF,hstep⟩:=g.st i o ho
 have hiL:lo≤i:=by
  rcases Nat.lt_or_ge i lo with h|h
  ·rw [hlo0 i h] at hi; cases hi
  ·exact h
 have hmx:=ph.mx i o hiL hiup ho
 have hsz:=ph.sz
 have hlo:=g.le ph (i:=lo) (j:=i) (Nat.le_refl _) hiL (by omega)
 have hup:=g.le ph (i:=i+1) (j:=up) (by omega) (by omega) (Nat.le_refl _)
 have hone:=g.one ho hmx (g.all ph hiL (by omega)).2.2.1
 have hlook:∀ t,t ∈ slotsOf ops.toList o→t < nt→VR ρ ((F i).get t) (a.tmps.getD t undef):=fun t ht htn=>by
  rw [← g.look hnt hc hlt ho hi hr ht htn]; exact inv.frm t htn
 have hFR:FR ρ (F i) a.eval o.op:=fun x hx=>by
  have hok:okX nt gl x=true:=List.all_eq_true.1 hd2 x hx
  cases x with
  | tmp t=>exact hlook t (tmp_slot hx rfl) (Nat.le_of_ble_eq_true hok)
  | const v=>exact VR.ofC hok
  | global gg=>exact VR.ptr (o:=0) (inv.ext _ _ (hat.gr gg (Nat.le_of_ble_eq_true hok)))
  | func f=>exact .func (a:=[]) (b:=[]) (a':=[]) (b':=[]) rfl rfl (fun i v v' h=>by simp at h) (fun i v v' h=>by simp at h)
 have hwant:∀ lg b,wantM nt (F i) (M i).lg ops.toList o=some (b,lg)→Sat lg→Region.wanted o (yielded ops a.tmps)=b:=fun lg b hw hSl=>by
  unfold wantM at hw
  split at hw
  ·rename_i hg; cases hw; simp [Region.wanted,hg]
  ·rename_i j want hg
   split at hw
   ·rename_i p hp
    split at hw
    ·rename_i t ht
     obtain ⟨h1,h2⟩:=cond_some hw
     have h1:t < nt:=Nat.le_of_ble_eq_true h1
     have hv:=hlook t (by
      unfold slotsOf
      refine List.mem_append.2 (.inr (List.mem_append.2 (.inr ?_)))
      simp [hg,hp,ht]) h1
     exact wanted_of hg hp ht (by rw [inv.tsz]; exact h1) (wantV_ok h2 hv hSl)
    ·cases hw
   ·cases hw
 have hframe:∀ (ρ':Ren) (v':Value),(∀ b l,ρ b=some l→ρ' b=some l)→VR ρ' (V i) v'→∀ t,t < nt→VR ρ' (fval D' (fun k=>(ops[k]?).bind (·.dst)) V (F 0).get t ops.size) ((a.put o.dst v').tmps.getD t undef):=fun ρ' v' he hv t ht=>by
  by_cases hd:o.dst=some t
  ·have hnext:∀ k,i < k→k < ops.size→(ops[k]?).bind (·.dst)=some t→D k=false:=fun k hik hk hkd=>by
    obtain ⟨p,hp⟩:=get_of_lt (ops:=ops) hk
    rw [hp] at hkd
    have:=g.slot hc hlt ho hi hr (t:=t) (by unfold slotsOf; simp [hd]) k p hp (by omega) hkd
    cases hq:D k with
    | false=>rfl
    | true=>have:=this.1 hq; omega
   rw [fval_add hD hDi ops.size hil (by simp [ho,hd]) hnext]
   simp only [hd,Act.put,Array.getD_eq_getD_getElem?]
   rw [Array.getElem?_setIfInBounds,if_pos rfl,if_pos (by rw [inv.tsz]; exact ht)]
   exact hv
  ·rw [fval_other hD (by simp [ho]; exact hd)]
   have h1:=(inv.frm t ht).mono he
   cases hdd:o.dst with
   | none=>exact h1
   | some d =>
     have hne:d≠t:=fun e=>hd (e ▸ hdd)
     simp only [Act.put,Array.getD_eq_getD_getElem?] at h1 ⊢
     rw [Array.getElem?_setIfInBounds,if_neg hne]
     exact h1
 have hused:∀ b,used M (Dr lo D') b up=true↔(used M (Dr lo D) b up=true∨((M i).n≤b∧b < (M (i+1)).n)):=fun b=>by
  rw [used_iff,used_iff]
  constructor
  ·rintro ⟨k,h1,h2,h3⟩
   obtain ⟨h20,h2⟩:=Dr_iff.1 h2
   by_cases e:k=i
   ·subst e; exact .inr h3
   ·rw [hD k e] at h2; exact .inl ⟨k,h1,Dr_iff.2 ⟨h20,h2⟩,h3⟩
  ·rintro (⟨k,h1,h2,h3⟩|h3)
   ·obtain ⟨h20,h2⟩:=Dr_iff.1 h2
    have e:k≠i:=fun e=>by subst e; rw [hi] at h2; cases h2
    exact ⟨k,h1,Dr_iff.2 ⟨h20,by rw [hD k e]; exact h2⟩,h3⟩
   ·exact ⟨i,hiup,Dr_iff.2 ⟨hiL,hDi⟩,h3⟩
 unfold wpOpI
 simp only [ho]
 have hSi:Sat (M (i+1)).lg:=SatL.le hS (by have:=g.lgs hcall (i:=i+1) (up - (i+1)) (by omega); rwa [show i+1+(up - (i+1))=up by omega] at this)
 rcases hstep with ⟨lg,hw,hv,hm⟩|⟨hso,_⟩|⟨_,lg,hw,mv,m',hview,hrun,hW,hhi,hmerge⟩
 rotate_left
 ·rw [hmx] at hso; cases hso
 rotate_left
 ·
  have hSl:Sat lg:=by rw [hm] at hSi; exact hSi
  rw [hwant lg false hw hSl]
  simp only [Bool.false_eq_true,if_false]
  have hG:GD M lo up D'=GD M lo up D:=by
   funext b
   unfold GD
   have:used M (Dr lo D') b up=used M (Dr lo D) b up:=by
    rw [Bool.eq_iff_iff,hused b]
    constructor
    ·rintro (h|h)
     ·exact h
     ·rw [hm] at h; have h2:b < (M i).n:=h.2; omega
    ·exact .inl
   rw [this]
  refine hK ρ _ w ⟨inv.ext,fun b l h1 h2=>⟨(hused b).2 (.inl (inv.new b l h1 h2).1),(inv.new b l h1 h2).2⟩,hG ▸ inv.hr,inv.keep,inv.size,inv.os,hG ▸ inv.tch,?_,?_,hframe ρ undef (fun _ _ h=>h) (hv ▸ undef_VR ρ)⟩
  ·cases hdd:o.dst <;> simp [Act.put,inv.tsz]
  ·rw [put_defers]; exact inv.dfr
 ·have hSm:Sat m'.lg:=by rw [merge_lg hmerge] at hSi; exact hSi
  have hSl:Sat lg:=SatL.le hSm (by have:=stepC_lg hcall hrun; rw [view_lg hview] at this; exact this)
  rw [hwant lg true hw hSl]
  simp only [if_true]
  obtain ⟨v1,v2,v3,_,v4⟩:=view_ok hview
  have v1:mv.n=(M i).n:=v1
  have v2:mv.hi=(M i).hi:=v2
  have v4:∀ id,id≤most→∀ ab,Hp.get mv.H id=some ab→Hp.get (M i).H id=some ab∧id ∉ hidden (openR ((ancs ops.toList []).getD i []) (R i)):=v4
  have hnh:=(g.all ph hiL (by omega)).2.2.1
  obtain ⟨q1,q2,q3,q4,q5,q6,_,q7⟩:=merge_ok hmerge hnh hhi
  have q1:(M i).n≤(M (i+1)).n:=q1
  have q5:(M (i+1)).n=m'.hi∨((M (i+1)).n=(M i).n∧m'.hi≤(M i).n):=q5
  have q7:∀ id,id≤most→Hp.get (M (i+1)).H id=if (M i).n≤id∧id < (M (i+1)).n then Hp.get m'.H id else Hp.get (M i).H id:=q7
  have hsubv:∀ id,id≤most→∀ ab,Hp.get mv.H id=some ab→GD M lo up D id=some ab:=fun id hid ab hab=>by
   obtain ⟨h1,h2⟩:=v4 id hid ab hab
   unfold GD
   by_cases hin:(M lo).n≤id∧id < (M i).n
   ·obtain ⟨k,k0,k1,k2,k3⟩:∃ k,lo≤k∧k < i∧(M k).n≤id∧id < (M (k+1)).n:=by
     have:=g.who ph (i - lo) (by omega) id hin.1 (by rw [show lo+(i - lo)=i by omega]; exact hin.2)
     rwa [show lo+(i - lo)=i by omega] at this
    have hDk:D k=true:=by
     have hrec:(⟨k,(M k).n,(M (k+1)).n⟩:Rec) ∈ R i:=by
      have:=g.recs ph (i - lo) (by omega) k k0 (by omega) id k2 k3
      rwa [show lo+(i - lo)=i by omega] at this
     by_cases hk:k ∈ (ancs ops.toList []).getD i []
     ·exact anc_in hc (fun i o ho=>by
       have:=(opsOk_at _ 0 g.ok i o ho).1
       rw [Nat.zero_add] at this
       exact edgesOk_at this) (i+1) i k o (Nat.lt_succ_self i) (ops_list ho) hr hk
     ·exfalso
      refine h2 (mem_hidden.2 ⟨_,List.mem_filter.2 ⟨hrec,?_⟩,k2,k3⟩)
      cases hq:hasN ((ancs ops.toList []).getD i []) k with
      | false=>rfl
      | true=>exact absurd (hasN_iff.1 hq) hk
    have hu:used M (Dr lo D) id up=true:=(used_iff _).2 ⟨k,by omega,Dr_iff.2 ⟨k0,hDk⟩,k2,k3⟩
    rw [hu]
    simp only [cond_true]
    rw [(g.le ph (i:=i) (j:=up) hiL (by omega) (Nat.le_refl _)).2.2 id hid hin.2]
    exact h1
   ·have hA:=(g.all ph hiL (by omega)).2.2.2.2 id hid (by omega)
    rw [hA] at h1
    have hu:used M (Dr lo D) id up=false:=by
     cases hq:used M (Dr lo D) id up with
     | false=>rfl
     | true =>
       exfalso
       obtain ⟨k,k1,kD,k2,k3⟩:=(used_iff _).1 hq
       have k0:=(Dr_iff.1 kD).1
       obtain ⟨l,e1,_⟩:=hat.hr.at_ id hid ab h1
       have hk0:=g.le ph (i:=lo) (j:=k) (Nat.le_refl _) k0 (by omega)
       have hkN:=g.le ph (i:=k+1) (j:=up) (by omega) (by omega) (Nat.le_refl _)
       have hNn:=(g.all ph ph.le (Nat.le_refl _)).2.2.1
       rw [hat.fr id (by omega) (by omega)] at e1
       cases e1
    rw [hu]
    exact h1
  have hHR:HR P base ρ mv.H w:=inv.hr.hr hsubv
  have hFree:Free ρ mv.n m'.hi:=fun b h1 h2=>by
   rw [v1] at h1
   cases hb:ρ b with
   | none=>rfl
   | some l =>
     exfalso
     cases h0:ρ0 b with
     | some l0 =>
       rw [hat.fr b (by omega) (by omega)] at h0
       cases h0
     | none =>
       obtain ⟨k,k1,k2,k3,k4⟩:=(used_iff _).1 (inv.new b l hb h0).1
       obtain ⟨k0,k2⟩:=Dr_iff.1 k2
       have hki:k≠i:=fun e=>by subst e; rw [hi] at k2; cases k2
       rcases Nat.lt_or_ge k i with hki'|hki'
       ·have:=(g.le ph (i:=k+1) (j:=i) (by omega) (by omega) (by omega)).1
        omega
       ·have:=(g.le ph (i:=i+1) (j:=k) (by omega) (by omega) (by omega)).1
        rcases q5 with q5|⟨_,q5⟩ <;> omega
  have hAt:At P base gl ρ mv m'.hi w:=⟨hHR,Nat.le_trans hat.bs inv.size,hFree,hat.gr.mono inv.ext,(by rw [v1,v2]; exact hnh),fun b hb=>(by rw [v3] at hb; cases hb),fun k o hk=>⟨(hat.gf k o hk).1,(inv.keep k (Nat.lt_of_lt_of_le (hat.gf k o hk).1 hat.bs)).trans (hat.gf k o hk).2⟩⟩
  refine stepC_ok hcall hrun hSm hAt hFR fun v' ρ' w' hv st=>hK ρ' _ w' ?_
  have hkeep:∀ k,k < w.heap.size→w'.heap[k]? = w.heap[k]? := fun k hk=>st.keep k hk fun b hb=>by rw [hW] at hb; cases hb
  have hm'n:m'.n≤m'.hi:=st.nhi (by rw [v1,v2]; exact hnh)
  have hnew:∀ b l,ρ' b=some l→ρ b=none→((M i).n≤b∧b < (M (i+1)).n)∧(l.on=true→w.heap.size≤l.blk):=fun b l h1 h2=>by
   have h3:=st.new b l h1 h2
   rw [v1] at h3
   refine ⟨⟨h3.1,?_⟩,?_⟩
   ·rcases q5 with q5|⟨_,q5⟩ <;> omega
   ·intro ho
    rcases st.blk b l h1 h2 ho with h|⟨b0,h,_⟩
    ·exact h
    ·rw [hW] at h; cases h
  have hin:∀ id,id≤most→(M i).n≤id→id < (M (i+1)).n→GD M lo up D' id=Hp.get m'.H id∧ρ id=none:=fun id hid h1 h2=>by
   constructor
   ·unfold GD
    rw [(hused id).2 (.inr ⟨h1,h2⟩)]
    simp only [cond_true]
    rw [hup.2.2 id hid h2,q7 id hid,if_pos ⟨h1,h2⟩]
   ·refine hFree id (by rw [v1]; exact h1) ?_
    rcases q5 with q5|⟨q5,_⟩
    ·omega
    ·rw [q5] at h2; omega
  have hout:∀ id,¬ ((M i).n≤id∧id < (M (i+1)).n)→GD M lo up D' id=GD M lo up D id:=fun id hid=>by
   unfold GD
   have:used M (Dr lo D') id up=used M (Dr lo D) id up:=by
    rw [Bool.eq_iff_iff,hused id]
    exact ⟨fun h=>h.elim (fun h=>h) (fun h=>absurd h hid),.inl⟩
   rw [this]
  have hFf:∀ k,Ff ρ' (GD M lo up D') k→w.heap.size≤k∨Ff ρ (GD M lo up D) k:=fun k ⟨id,ab,l,hid,hab,hl,ht⟩=>by
   by_cases hI:(M i).n≤id∧id < (M (i+1)).n
   ·rw [(hin id hid hI.1 hI.2).1] at hab
    rcases st.tch k ⟨id,ab,l,hid,hab,hl,ht⟩ with h|⟨id0,ab0,l0,e1,e2,e3,e4⟩
    ·exact .inl h
    ·exact .inr ⟨id0,ab0,l0,e1,hsubv id0 e1 ab0 e2,e3,e4⟩
   ·rw [hout id hI] at hab
    obtain ⟨l3,c1,_⟩:=inv.hr.at_ id hid ab hab
    rw [st.ext id l3 c1] at hl
    have:=Option.some.inj hl; subst this
    exact .inr ⟨id,ab,l3,hid,hab,c1,ht⟩
  refine ⟨fun b l h=>st.ext b l (inv.ext b l h),fun b l h1 h2=>?_,⟨st.hr.dom,fun id hid ab hab=>?_⟩,fun k hk=>by rw [hkeep k (Nat.lt_of_lt_of_le hk inv.size),inv.keep k hk],Nat.le_trans inv.size st.size,⟨st.os.1.trans inv.os.1,st.os.2.1.trans inv.os.2.1,st.os.2.2.trans inv.os.2.2⟩,fun k hk=>(hFf k hk).elim (fun h=>.inl (Nat.le_trans inv.size h)) (inv.tch k),?_,?_,hframe ρ' v' st.ext hv⟩
  ·cases h0:ρ b with
   | some l1 =>
     rw [st.ext b l1 h0] at h1
     have:=Option.some.inj h1; subst this
     exact ⟨(hused b).2 (.inl (inv.new b l1 h0 h2).1),(inv.new b l1 h0 h2).2⟩
   | none =>
     have:=hnew b l h1 h0
     exact ⟨(hused b).2 (.inr this.1),fun ho=>Nat.le_trans inv.size (this.2 ho)⟩
  ·by_cases hI:(M i).n≤id∧id < (M (i+1)).n
   ·obtain ⟨h1,h2⟩:=hin id hid hI.1 hI.2
    rw [h1] at hab
    obtain ⟨l,e1,e2,e3⟩:=st.hr.at_ id hid ab hab
    refine ⟨l,e1,e2,fun hrw hon=>⟨(e3 hrw hon).1,fun id2 hid2 ab2 l2 f1 f2 f3=>?_⟩⟩
    by_cases hI2:(M i).n≤id2∧id2 < (M (i+1)).n
    ·rw [(hin id2 hid2 hI2.1 hI2.2).1] at f1
     exact (e3 hrw hon).2 id2 hid2 ab2 l2 f1 f2 f3
    ·rw [hout id2 hI2] at f1
     obtain ⟨l3,c1,c2,_⟩:=inv.hr.at_ id2 hid2 ab2 f1
     rw [st.ext id2 l3 c1] at f2
     have:=Option.some.inj f2; subst this
     have h5:=c2.tc f3
     have h6:=(hnew id l e1 h2).2 hon
     omega
   ·rw [hout id hI] at hab
    obtain ⟨l,e1,e2,e3⟩:=inv.hr.at_ id hid ab hab
    refine ⟨l,st.ext _ _ e1,e2.mono st.ext (fun k hk=>hkeep _ (e2.tc hk)),fun hrw hon=>⟨(e3 hrw hon).1,fun id2 hid2 ab2 l2 f1 f2 f3=>?_⟩⟩
    by_cases hI2:(M i).n≤id2∧id2 < (M (i+1)).n
    ·exfalso
     rw [(hin id2 hid2 hI2.1 hI2.2).1] at f1
     have hfr:ab2.fr=true:=by
      cases hq:ab2.fr with
      | true=>rfl
      | false =>
        exfalso
        rcases f3 with ⟨_,h1,h2⟩|⟨h1,_⟩
        ·have h5:=(hnew id2 l2 f2 (hin id2 hid2 hI2.1 hI2.2).2).2 h1
         have h6:=e2.tc (.inl ⟨AB.rw_on hrw,hon,rfl⟩)
         omega
        ·rw [h1] at hq; cases hq
     rcases st.tch _ ⟨id2,ab2,l2,hid2,f1,f2,hfr,f3⟩ with h|⟨id0,ab0,l0,c1,c2,c3,_,c4⟩
     ·have:=e2.tc (.inl ⟨AB.rw_on hrw,hon,rfl⟩); omega
     ·have h7:=(e3 hrw hon).2 id0 c1 ab0 l0 (hsubv id0 c1 ab0 c2) c3 c4
      subst h7
      have h8:=hsubv id0 c1 ab0 c2
      rw [hab] at h8
      have h8:=Option.some.inj h8; subst h8
      have h9:id0 < mv.n∨m'.hi≤id0:=by
       rcases Nat.lt_or_ge id0 mv.n with h|h
       ·exact .inl h
       ·rcases Nat.lt_or_ge id0 m'.hi with h'|h'
        ·rw [hFree id0 h h'] at e1; cases e1
        ·exact .inr h'
      have h10:=st.same id0 c1 (by rw [hW]; simp) h9
      rw [c2] at h10
      obtain ⟨_,h11⟩:=st.hr.atl (st.ext _ _ e1) h10
      have:=(h11 hrw hon).2 id2 hid2 ab2 l2 f1 f2 f3
      subst this
      exact hI hI2
    ·rw [hout id2 hI2] at f1
     obtain ⟨l3,c1,_⟩:=inv.hr.at_ id2 hid2 ab2 f1
     rw [st.ext id2 l3 c1] at f2
     have:=Option.some.inj f2; subst this
     exact (e3 hrw hon).2 id2 hid2 ab2 l3 f1 c1 f3
  ·cases hdd:o.dst <;> simp [Act.put,inv.tsz]
  ·rw [put_defers]; exact inv.dfr.congr st.ext fun _=>⟨rfl,rfl⟩
end
end Go.Sx

namespace Go.Sx
set_option linter.all false
open Go
set_option linter.unusedVariables false
set_option linter.unusedSimpArgs false
variable [Ora]
theorem count_set:∀ (l:List Bool) (i:Nat),l[i]? = some false→(l.set i true).countP (fun b=>!b)+1=l.countP (fun b=>!b)
 | [],i,h=>by simp at h
 | b::r,0,h=>by simp at h; subst h; simp
 | b::r,i+1,h=>by
   have:=count_set r i (by simpa using h)
   rw [List.set_cons_succ,List.countP_cons,List.countP_cons]
   omega
theorem count_zero {l:List Bool} (h:l.countP (fun b=>!b)=0):∀ i,i < l.length→l[i]? = some true:=fun i hi=>by
 rw [List.countP_eq_zero] at h
 have:=h l[i] (List.getElem_mem hi)
 rw [List.getElem?_eq_getElem hi]
 cases hb:l[i] with
 | true=>rfl
 | false=>rw [hb] at this; exact absurd rfl this
section
variable {P:Program} {base gl:Nat} {call:CallT}
theorem merge_hi {m m' m2:Mem} (h:mergeM m m'=some m2) (hhi:m.hi≤m'.hi):m.hi≤m2.hi:=by
 unfold mergeM at h
 cases hq:Nat.ble m'.hi m.n with
 | true=>rw [hq] at h; cases h; exact Nat.le_refl _
 | false =>
   rw [hq] at h
   obtain ⟨_,h⟩:=cond_some h
   simp only [forceN_eq,force8_eq] at h
   cases h
   exact hhi
theorem allBelow_mem:∀ {n:Nat} {b:List Nat},allBelow n b=true→∀ k,k < n→k ∈ b
 | 0,_,_,k,h=>by omega
 | n+1,b,h,k,hk=>by
   obtain ⟨h1,h2⟩:=boolAnd (show (hasN b n && allBelow n b)=true from h)
   by_cases e:k=n
   ·subst e; exact hasN_iff.1 h1
   ·exact allBelow_mem h2 k (by omega)
theorem soAt_below {ops:Array Oper} {i:Nat} {o:Oper} (h:soAt ops i o=true):∀ k,k < i→k ∈ (ancs ops.toList []).getD i []:=by
 obtain ⟨_,h⟩:=boolAnd (show (wrO o.op && _)=true from h)
 obtain ⟨h,_⟩:=boolAnd h
 exact allBelow_mem h
theorem soAt_later {ops:Array Oper} {i:Nat} {o:Oper} (h:soAt ops i o=true):∀ j,i < j→j < ops.size→i ∈ (ancs ops.toList []).getD j []:=fun j hj hs=>by
 obtain ⟨_,h⟩:=boolAnd (show (wrO o.op && _)=true from h)
 obtain ⟨_,h⟩:=boolAnd h
 obtain ⟨tl,e1,e2,_⟩:=ancs_spec ops.toList []
 have hlen:(ancs ops.toList []).length=ops.size:=by rw [e1]; simpa using e2
 have hj2:j < (ancs ops.toList []).length:=by omega
 have hm:(ancs ops.toList [])[j] ∈ (ancs ops.toList []).drop (i+1):=by
  rw [List.mem_drop_iff_getElem]
  exact ⟨j - (i+1),by omega,by congr 1; omega⟩
 have:=List.all_eq_true.1 h _ hm
 rw [List.getD_eq_getElem?_getD,List.getElem?_eq_getElem hj2]
 exact hasN_iff.1 this
theorem next_solo (ops:Array Oper):∀ (d lo:Nat),lo+d=ops.size→∃ up,lo≤up∧up≤ops.size∧(∀ i o,lo≤i→i < up→ops[i]? = some o→soAt ops i o=false)∧(up < ops.size→∃ o,ops[up]? = some o∧soAt ops up o=true)
 | 0,lo,h=>⟨lo,Nat.le_refl _,by omega,fun i o h1 h2=>by omega,fun h2=>by omega⟩
 | d+1,lo,h=>by
   obtain ⟨o,ho⟩:=get_of_lt (ops:=ops) (i:=lo) (by omega)
   cases hs:soAt ops lo o with
   | true=>exact ⟨lo,Nat.le_refl _,by omega,fun i o h1 h2=>by omega,fun _=>⟨o,ho,hs⟩⟩
   | false =>
     obtain ⟨up,h1,h2,h3,h4⟩:=next_solo ops d (lo+1) (by omega)
     refine ⟨up,by omega,h2,fun i o' a b c=>?_,h4⟩
     by_cases e:i=lo
     ·subst e; rw [ho] at c; cases c; exact hs
     ·exact h3 i o' (by omega) b c
section
variable {nt:Nat} {ops:Array Oper} {F:Nat→Fr} {M:Nat→Mem} {V:Nat→Value} {R:Nat→List Rec} {lo up:Nat}
theorem Rg.frameUp (g:Rg P base gl nt call ops F M V R) (hnt:nt≤512) {t:Tmp} (ht:t < nt) {i:Nat} (hi:i≤ops.size):fval (fun k=>Nat.blt k i) (fun k=>(ops[k]?).bind (·.dst)) V (F 0).get t ops.size=(F i).get t:=by
 rw [g.frame hnt ht i hi]
 have e2:∀ d,i+d≤ops.size→fval (fun k=>Nat.blt k i) (fun k=>(ops[k]?).bind (·.dst)) V (F 0).get t (i+d)=fval (fun k=>Nat.blt k i) (fun k=>(ops[k]?).bind (·.dst)) V (F 0).get t i:=by
  intro d
  induction d with
  | zero=>intro _; rfl
  | succ d ih =>
    intro hd
    rw [show i+(d+1)=(i+d)+1 by omega]
    rw [fval,if_neg (fun hh=>by have:i+d < i:=Nat.le_of_ble_eq_true hh.1; omega)]
    exact ih (by omega)
 have:=e2 (ops.size - i) (by omega)
 rwa [show i+(ops.size - i)=ops.size by omega] at this
theorem bltB {k i:Nat}:Nat.blt k i=true↔k < i:=⟨fun h=>Nat.le_of_ble_eq_true h,fun h=>Nat.ble_eq_true_of_le h⟩
theorem Rg.own (g:Rg P base gl nt call ops F M V R) (hn:nt≤510):∀ (i:Nat),i≤ops.size→(F i).get 510=(F 0).get 510∧(F i).get 511=(F 0).get 511
 | 0,_=>⟨rfl,rfl⟩
 | i+1,hi=>by
   obtain ⟨o,ho⟩:=get_of_lt (ops:=ops) (i:=i) (by omega)
   obtain ⟨d1,_,d3,_⟩:=g.st i o ho
   have ih:=g.own hn i (by omega)
   have key:∀ t,510≤t→t < 512→(F (i+1)).get t=(F i).get t:=fun t h1 h2=>by
    rw [d3]
    cases hd:o.dst with
    | none=>rfl
    | some d =>
      rw [hd] at d1
      have hlt:d < nt:=Nat.le_of_ble_eq_true d1
      show ((F i).set d _).get t=_
      rw [fr_get_set _ _ _ _ (Nat.lt_of_lt_of_le hlt (by omega)) h2,if_neg (fun e=>by subst e; exact absurd hlt (Nat.not_lt.2 (Nat.le_trans hn h1)))]
   exact ⟨(key 510 (by decide) (by decide)).trans ih.1,(key 511 (by decide) (by decide)).trans ih.2⟩
theorem Rg.done {z:Zn} (g:Rg P base gl nt call ops F M V R) (ph:Ph ops M lo up) (hnt:nt≤512) {D:Nat→Bool} {ρL ρ:Ren} {a:Act} {wL w':World} (hD:∀ i,D i=true↔i < up) (inv:Inv z P base gl nt ops F M V lo up ρL wL D ρ a w'):FrR z ρ nt (F up) a∧St P base ρL ρ (M lo) (M up) wL w':=by
 have hG:∀ id,id≤most→GD M lo up D id=Hp.get (M up).H id:=fun id hid=>by
  unfold GD
  cases hu:used M (Dr lo D) id up with
  | true=>rfl
  | false =>
    simp only [cond_false]
    refine ((g.all ph ph.le (Nat.le_refl _)).2.2.2.2 id hid ?_).symm
    rcases Nat.lt_or_ge id (M lo).n with h1|h1
    ·exact .inl h1
    ·rcases Nat.lt_or_ge id (M up).n with h2|h2
     ·exfalso
      have hle:=ph.le
      obtain ⟨k,k0,k1,k2,k3⟩:=g.who ph (up - lo) (by omega) id h1 (by rw [show lo+(up - lo)=up by omega]; exact h2)
      rw [(used_iff (M:=M) (D:=Dr lo D) up).2 ⟨k,by omega,Dr_iff.2 ⟨k0,(hD k).2 (by omega)⟩,k2,k3⟩] at hu
      cases hu
     ·exact .inr h2
 have hall:=g.all ph ph.le (Nat.le_refl _)
 have hz:=inv.dfr.congr (fun _ _ h=>h) (fun hn=>g.own hn up ph.sz)
 refine ⟨⟨inv.tsz,hnt,hz.1,hz.2,fun t ht=>?_⟩,?_⟩
 ·have h1:=inv.frm t ht
  rw [← g.frameUp hnt ht ph.sz]
  rwa [fval_congr (D':=fun k=>Nat.blt k up) ops.size (fun k hk _=>by rw [Bool.eq_iff_iff,hD k,bltB])] at h1
 ·refine ⟨inv.ext,fun b l h1 h2=>?_,hall.1,hall.2.1,fun _=>hall.2.2.1,inv.hr.hr fun id hid ab hab=>by rw [hG id hid]; exact hab,fun b hb=>by rw [hall.2.2.2.1]; exact hb,fun b h1 h2=>by rw [hall.2.2.2.1] at h1; exact absurd h1 h2,
     fun k hk _=>inv.keep k hk,inv.size,inv.os,fun b l h1 h2 ho=>.inl ((inv.new b l h1 h2).2 ho),fun id hid h1 h2=>?_,fun k ⟨id,ab,l,e1,e2,e3,e4⟩=>inv.tch k ⟨id,ab,l,e1,(hG id e1).trans e2,e3,e4⟩⟩
  ·obtain ⟨k,k1,kD,k2,k3⟩:=(used_iff _).1 (inv.new b l h1 h2).1
   have k0:=(Dr_iff.1 kD).1
   have e1:=(g.le ph (i:=lo) (j:=k) (Nat.le_refl _) k0 (by omega)).1
   have e2:=(g.le ph (i:=k+1) (j:=up) (by omega) (by omega) (Nat.le_refl _)).1
   omega
  ·refine hall.2.2.2.2 id hid ?_
   rcases h2 with h2|h2
   ·exact .inl h2
   ·exact .inr (by have:=hall.2.2.1; omega)
theorem Rg.fresh {z:Zn} (g:Rg P base gl nt call ops F M V R) (hle:lo≤ops.size) {D:Nat→Bool} {ρ:Ren} {a:Act} {w:World} (hD:∀ i,D i=true↔i < lo) (hr:HR P base ρ (M lo).H w) (hfr:FrR z ρ nt (F lo) a):Inv z P base gl nt ops F M V lo up ρ w D ρ a w:=by
 have hu:∀ b n,used M (Dr lo D) b n=false:=fun b n=>by
  cases hq:used M (Dr lo D) b n with
  | false=>rfl
  | true =>
    obtain ⟨k,_,h,_⟩:=(used_iff _).1 hq
    obtain ⟨h1,h2⟩:=Dr_iff.1 h
    have:=(hD k).1 h2
    omega
 have hGD:∀ id ab,GD M lo up D id=some ab→Hp.get (M lo).H id=some ab:=fun id ab hab=>by
  unfold GD at hab
  rw [hu] at hab
  exact hab
 refine ⟨fun _ _ h=>h,fun b l h1 h2=>(by rw [h1] at h2; cases h2),hr.f fun id hid ab hab=>hGD id ab hab,fun _ _=>rfl,Nat.le_refl _,⟨rfl,rfl,rfl⟩,fun k ⟨id,ab,l,e1,e2,e3,e4⟩=>.inr ⟨id,ab,l,e1,hGD id ab e2,e3,e4⟩,hfr.size,hfr.zr.congr (fun _ _ h=>h) (fun hn=>⟨(g.own hn lo hle).1.symm,(g.own hn lo hle).2.symm⟩),fun t ht=>?_⟩
 have h1:=hfr.get t ht
 rw [← g.frameUp hfr.le ht hle] at h1
 rwa [fval_congr (D':=D) ops.size (fun k hk _=>by rw [Bool.eq_iff_iff,hD k,bltB])] at h1
end
theorem draws_ok (hm:P.follows .mixedOrders=true) (hcall:CallOk P base gl call):DrawsOk P base gl call:=by
 refine ⟨hm,?_⟩
 intro nt ops hok s s' hrun
 obtain ⟨F,M,V,R,f1,f2,f3,f4,f5,f6⟩:=trace ops.toList 0 _ _ s s' hrun
 simp only [Nat.zero_add,Array.length_toList] at f4 f5 f6
 have hmono:∀ i,i≤ops.size→∀ d,i+d≤ops.size→(M i).hi≤(M (i+d)).hi∧(M i).lg.le (M (i+d)).lg:=by
  intro i _ d
  induction d with
  | zero=>intro _; exact ⟨Nat.le_refl _,.refl _⟩
  | succ d ih =>
    intro h
    have h1:=ih (by omega)
    obtain ⟨o,ho⟩:=get_of_lt (ops:=ops) (i:=i+d) (by omega)
    obtain ⟨hst,_⟩:=f6 (i+d) o (ops_list ho)
    refine ⟨?_,h1.2.trans (stepAt_lg hcall hst)⟩
    obtain ⟨_,_,_,h2⟩:=hst
    rcases h2 with ⟨_,_,_,h2⟩|⟨_,_,_,_,h2⟩|⟨_,_,_,mv,m',_,_,_,hhi,h2⟩
    ·show _≤(M (i+d+1)).hi
     rw [h2]; exact h1.1
    ·exact Nat.le_trans h1.1 h2
    ·exact Nat.le_trans h1.1 (merge_hi h2 hhi)
 have hmono':∀ i j,i≤j→j≤ops.size→(M i).hi≤(M j).hi∧(M i).lg.le (M j).lg:=fun i j h1 h2=>by
  have:=hmono i (by omega) (j - i) (by omega)
  rwa [show i+(j - i)=j by omega] at this
 constructor
 ·have:=hmono' 0 ops.size (by omega) (Nat.le_refl _)
  rw [f2,f5] at this; exact this
 ·intro z ρ0 a0 w id Q hSat hat hfr hQ
  have g:Rg P base gl nt call ops F M V R:=⟨fun i o ho=>(f6 i o (ops_list ho)).1,fun i o ho=>(f6 i o (ops_list ho)).2,hok⟩
  have hsub:∀ i o,ops[i]? = some o→∀ e ∈ o.after.toList,Region.binds .any e=true→e.on < i:=fun i o ho=>by
   have:=(opsOk_at _ 0 g.ok i o (ops_list ho)).1
   rw [Nat.zero_add] at this
   exact edgesOk_at this
  refine wpI_region_any hm ?_
  generalize hw1:({ w with drawn:=w.drawn+1 }:World)=w1
  have hh1:w1.heap=w.heap:=by rw [← hw1]
  have ho1:w1.os=w.os∧w1.tape=w.tape∧w1.output=w.output:=by rw [← hw1]; exact ⟨rfl,rfl,rfl⟩
  have hat1:At P base gl ρ0 (M 0) (M ops.size).hi w1:=by
   rw [f2,f5]
   exact ⟨⟨fun b l h=>hat.hr.dom b l h,fun id hid ab hab=>by
    obtain ⟨l,e1,e2,e3⟩:=hat.hr.at_ id hid ab hab
    exact ⟨l,e1,e2.mono (fun _ _ h=>h) (fun _ _=>by rw [hh1]),e3⟩⟩,by rw [hh1]; exact hat.bs,hat.fr,hat.gr,hat.nh,hat.wb,fun k o hk=>by rw [hh1]; exact hat.gf k o hk⟩
  have hSatM:∀ i,i≤ops.size→Sat (M i).lg:=fun i hi=>SatL.le hSat (by rw [← f5]; exact (hmono' i ops.size hi (Nat.le_refl _)).2)
  have hfree1:Free ρ0 (M 0).n (M ops.size).hi:=hat1.fr
  have fin:∀ (ρ:Ren) (a:Act) (w':World),FrR z ρ nt (F ops.size) a→St P base ρ0 ρ (M 0) (M ops.size) w1 w'→Q .normal a w':=fun ρ a w' hf st=>by
   refine hQ ρ a w' (by rw [← f4]; exact hf) ?_
   rw [← f2,← f5]
   exact ⟨st.ext,st.new,st.nle,st.hle,st.nhi,st.hr,st.wsub,st.wrw,fun k hk hb=>by rw [st.keep k (by rw [hh1]; exact hk) hb,hh1],by rw [← hh1]; exact st.size,⟨st.os.1.trans ho1.1,st.os.2.1.trans ho1.2.1,st.os.2.2.trans ho1.2.2⟩,fun b l h1 h2 h3=>by rw [← hh1]; exact st.blk b l h1 h2 h3,st.same,fun k hk=>by rw [← hh1]; exact st.tch k hk⟩
  have main:∀ (fuel:Nat) (listed:Array Bool) (lo up:Nat) (ρL ρ:Ren) (a:Act) (wL w':World),listed.size=ops.size→listed.toList.countP (fun b=>!b)=fuel→Closed ops.toList (fun k=>listed.getD k false=true) →
    Ph ops M lo up→(up < ops.size→∃ o,ops[up]? = some o∧soAt ops up o=true)→St P base ρ0 ρL (M 0) (M lo) w1 wL→At P base gl ρL (M lo) (M ops.size).hi wL→(∀ k,k < lo→listed.getD k false=true)→(∀ k,listed.getD k false=true→k < up) →
    Inv z P base gl nt ops F M V lo up ρL wL (fun k=>listed.getD k false) ρ a w'→wpAnyI P z.rd .any ops Q fuel listed a w':=by
   intro fuel
   induction fuel with
   | zero =>
     intro listed lo up ρL ρ a wL w' hsz hcnt hcl ph hsolo st0 hatL hlo0 hup0 inv
     have hall:∀ i,i < ops.size→listed.getD i false=true:=fun i hi=>by
      have:=count_zero hcnt i (by simpa [hsz] using hi)
      have h2:listed[i]? = some true:=by simpa using this
      simp [Array.getD_eq_getD_getElem?,h2]
     have hups:up=ops.size:=by
      rcases Nat.lt_or_ge up ops.size with h|h
      ·have:=hup0 up (hall up h); omega
      ·have:=ph.sz; omega
     refine ⟨?_,?_⟩
     ·rw [List.eq_nil_iff_forall_not_mem]
      intro j hj
      obtain ⟨h1,o,h2,_⟩:=mem_ready.1 hj
      have hlt:j < ops.size:=(Array.getElem?_eq_some_iff.1 h2).1
      have h3:=hall j hlt
      have hj2:j < listed.size:=by omega
      simp [Array.getD_eq_getD_getElem?,hj2] at h1 h3
      rw [h1] at h3; cases h3
     ·subst hups
      obtain ⟨q1,q2⟩:=g.done ph hfr.le (fun i=>⟨fun h=>hup0 i h,fun h=>hall i h⟩) inv
      exact fin ρ a w' q1 (St.trans hfree1 st0 q2)
   | succ fuel ih =>
     intro listed lo up ρL ρ a wL w' hsz hcnt hcl ph hsolo st0 hatL hlo0 hup0 inv
     refine ⟨fun hre=>?_,fun i hi=>?_⟩
     ·
      have key:∀ n i,i < n→i < ops.size→listed.getD i false=true:=by
       intro n
       induction n with
       | zero=>intro i h; omega
       | succ n ihn =>
         intro i hin hil
         by_cases h:i < n
         ·exact ihn i h hil
         ·cases hq:listed.getD i false with
          | true=>rfl
          | false =>
            exfalso
            obtain ⟨o,ho⟩:=get_of_lt (ops:=ops) hil
            have hmem:i ∈ Region.ready .any ops listed:=mem_ready.2 ⟨by
             have hj2:i < listed.size:=by omega
             simp [Array.getD_eq_getD_getElem?,hj2] at hq ⊢
             exact hq,o,ho,fun e he hb=>by
             have hlt:=hsub i o ho e (by simpa using he) hb
             exact ihn e.on (by omega) (by omega)⟩
            rw [hre] at hmem; cases hmem
      have hall:∀ i,i < ops.size→listed.getD i false=true:=fun i hi=>key (i+1) i (Nat.lt_succ_self i) hi
      have hups:up=ops.size:=by
       rcases Nat.lt_or_ge up ops.size with h|h
       ·have:=hup0 up (hall up h); omega
       ·have:=ph.sz; omega
      subst hups
      obtain ⟨q1,q2⟩:=g.done ph hfr.le (fun i=>⟨fun h=>hup0 i h,fun h=>hall i h⟩) inv
      exact fin ρ a w' q1 (St.trans hfree1 st0 q2)
     ·obtain ⟨h1,o,ho,h2⟩:=mem_ready.1 hi
      have hil:i < ops.size:=(Array.getElem?_eq_some_iff.1 ho).1
      have hil2:i < listed.size:=by omega
      have h1':listed.getD i false=false:=by
       simp [Array.getD_eq_getD_getElem?,hil2] at h1 ⊢
       exact h1
      have hother:∀ k,k≠i→(listed.setIfInBounds i true).getD k false=listed.getD k false:=fun k hk=>by
       simp only [Array.getD_eq_getD_getElem?,Array.getElem?_setIfInBounds]
       rw [if_neg (fun e=>hk e.symm)]
      have hself:(listed.setIfInBounds i true).getD i false=true:=by
       simp [Array.getD_eq_getD_getElem?,Array.getElem?_setIfInBounds,hil2]
      have hr:∀ e ∈ o.after.toList,Region.binds .any e=true→listed.getD e.on false=true:=fun e he hb=>h2 e (by simpa using he) hb
      have hsz':(listed.setIfInBounds i true).size=ops.size:=by simpa using hsz
      have hcnt':(listed.setIfInBounds i true).toList.countP (fun b=>!b)=fuel:=by
       have hg:listed.toList[i]? = some false:=by
        simp [Array.getD_eq_getD_getElem?,hil2] at h1'
        simp [hil2,h1']
       have:=count_set listed.toList i hg
       rw [Array.toList_setIfInBounds]
       omega
      have hcl':Closed ops.toList (fun k=>(listed.setIfInBounds i true).getD k false=true):=by
       intro k o' ho' hk e he hb
       by_cases e1:e.on=i
       ·rw [e1]; exact hself
       ·show (listed.setIfInBounds i true).getD e.on false=true
        rw [hother e.on e1]
        by_cases e2:k=i
        ·subst e2
         have:ops.toList[k]? = some o:=ops_list ho
         rw [this] at ho'
         cases ho'
         exact hr e he hb
        ·have hk:(listed.setIfInBounds i true).getD k false=true:=hk
         rw [hother k e2] at hk
         exact hcl k o' ho' hk e he hb
      have hanc:∀ k,k ∈ (ancs ops.toList []).getD i []→listed.getD k false=true:=fun k hk=>anc_in hcl (fun i o ho=>by
        have:=(opsOk_at _ 0 g.ok i o ho).1
        rw [Nat.zero_add] at this
        exact edgesOk_at this) (i+1) i k o (Nat.lt_succ_self i) (ops_list ho) hr hk
      have hlt:∀ k,listed.getD k false=true→k < ops.size:=fun k hk=>Nat.lt_of_lt_of_le (hup0 k hk) ph.sz
      rcases Nat.lt_or_ge i up with hiu|hiu
      ·
       have hne:∀ k,k < lo→k≠i:=fun k hk e=>by subst e; rw [hlo0 k hk] at h1'; cases h1'
       refine g.step ph hcall (hatL.less (hmono' up ops.size ph.sz (Nat.le_refl _)).1) (hSatM up ph.sz) hfr.le inv hcl hlt hlo0 hiu ho h1' hr hother hself fun ρ' a' w'' inv'=>ih (listed.setIfInBounds i true) lo up ρL ρ' a' wL w'' hsz' hcnt' hcl' ph hsolo st0 hatL (fun k hk=>?_) (fun k hk=>?_) inv'
       ·rw [hother k (hne k hk)]; exact hlo0 k hk
       ·by_cases e:k=i
        ·omega
        ·rw [hother k e] at hk; exact hup0 k hk
      ·
       obtain ⟨os,hos,hso⟩:=hsolo (by omega)
       have hiup:i=up:=by
        rcases Nat.lt_or_ge up i with h|h
        ·have:=hup0 up (hanc up (soAt_later hso i h hil)); omega
        ·omega
       subst hiup
       rw [ho] at hos
       cases hos
       have hD:∀ k,listed.getD k false=true↔k < i:=fun k=>⟨hup0 k,fun h=>hanc k (soAt_below hso k h)⟩
       obtain ⟨q1,q2⟩:=g.done ph hfr.le hD inv
       have st1:St P base ρ0 ρ (M 0) (M i) w1 w':=St.trans (hfree1.less (hmono' i ops.size (by omega) (Nat.le_refl _)).1) st0 q2
       have hat2:At P base gl ρ (M i) (M ops.size).hi w':=hatL.step q2
       obtain ⟨d1,d2,d3,hst⟩:=g.st i o ho
       have hnext:∀ (ρ':Ren) (v':Value) (w'':World),VR ρ' (V i) v'→St P base ρ ρ' (M i) (M (i+1)) w' w''→wpAnyI P z.rd .any ops Q fuel (listed.setIfInBounds i true) (a.put o.dst v') w'':=fun ρ' v' w'' hv st2=>by
        obtain ⟨up',u1,u2,u3,u4⟩:=next_solo ops (ops.size - (i+1)) (i+1) (by omega)
        have hat3:=hat2.step st2
        have hfr3:FrR z ρ' nt (F (i+1)) (a.put o.dst v'):=by rw [d3]; exact (q1.mono st2.ext).dst d1 hv
        have hD':∀ k,(listed.setIfInBounds i true).getD k false=true↔k < i+1:=fun k=>by
         by_cases e:k=i
         ·subst e; rw [hself]; simp
         ·rw [hother k e,hD k]; omega
        exact ih (listed.setIfInBounds i true) (i+1) up' ρ' ρ' _ w'' w'' hsz' hcnt' hcl' ⟨u1,u2,hat3.nh,u3⟩ u4 (St.trans (hfree1.less (hmono' (i+1) ops.size (by omega) (Nat.le_refl _)).1) st1 st2) hat3 (fun k hk=>(hD' k).2 hk) (fun k hk=>by have:=(hD' k).1 hk; omega) (g.fresh (by omega) hD' st2.hr hfr3)
       unfold wpOpI
       simp only [ho]
       rcases hst with ⟨lg,hw,hv,hmm⟩|⟨_,lg,hw,hrun2,hhi⟩|⟨hso2,_⟩
       ·have hSl:Sat lg:=by have:=hSatM (i+1) (by omega); rw [hmm] at this; simpa using this
        rw [wantM_ok q1 hw hSl]
        simp only [Bool.false_eq_true,if_false]
        refine hnext ρ undef w' (hv ▸ undef_VR ρ) ?_
        rw [hmm]; exact St.wLg hat2.hr lg
       ·have hSm:=hSatM (i+1) (by omega)
        have hSl:Sat lg:=SatL.le hSm (by have:=stepC_lg hcall hrun2; rw [wLg_lg] at this; exact this)
        rw [wantM_ok q1 hw hSl]
        simp only [if_true]
        have hat4:At P base gl ρ ((M i).wLg lg) (M (i+1)).hi w':=(hat2.wLg lg).less (hmono' (i+1) ops.size (by omega) (Nat.le_refl _)).1
        refine stepC_ok hcall hrun2 hSm hat4 (q1.ops hat2.gr d2) fun v' ρ' w'' hv st2=>hnext ρ' v' w'' hv ?_
        have hst3:=St.wLg (m:=M i) hat2.hr lg
        exact St.trans (by have:=hat2.fr; exact this.less (hmono' (i+1) ops.size (by omega) (Nat.le_refl _)).1) hst3 st2
       ·rw [hso] at hso2; cases hso2
  obtain ⟨up,u1,u2,u3,u4⟩:=next_solo ops ops.size 0 (by omega)
  have hD0:∀ k,(Array.replicate ops.size false).getD k false=true↔k < 0:=fun k=>by
   simp only [Array.getD_eq_getD_getElem?,Array.getElem?_replicate]
   split <;> simp
  refine main ops.size _ 0 up ρ0 ρ0 a0 w1 w1 (by simp) (by simp [List.countP_replicate]) (fun k o ho hk=>by have:=(hD0 k).1 hk; omega) ⟨u1,u2,hat1.nh,u3⟩ u4 (St.refl hat1.hr) hat1 (fun k hk=>by omega) (fun k hk=>by have:=(hD0 k).1 hk; omega) (g.fresh (by omega) hD0 hat1.hr (by rw [f1]; exact hfr))
end
end Go.Sx

namespace Go.Sx
set_option linter.all false
open Go
set_option linter.unusedVariables false
set_option linter.unusedSimpArgs false
variable [Ora]
section
variable {P:Program} {base gl:Nat}
theorem ext_run {f:FuncId} {fn:Func} {e:Array Value→Sem Value} {args:Array Value} {w w':World} {v:Value} (hf:P.funcs[f]? = some fn) (hnm:(fn.name == "runtime.NumGoroutine")=false) (hb:fn.body=none) (hn:Extern.findNext fn=none) (he:Extern.find fn=some e)
  (hr:(e args).run P w=.ok v w'):(callFunc f args).run P w=.ok (.value v) w':=by
 have hnm':fn.name ≠ "runtime.NumGoroutine":=by simpa using hnm
 simp [callFunc,Sem.run_bind,run_program,Result.andThen,hf,hnm',hb,hn,he,mark,Sem.run,hr]
theorem extM_inv {k:EK} {vs:List Value} {m m':Mem} {v:Value} (h:extM k vs m=some (v,m')) :
  (k=.noEscape∧vs=[v]∧m'=m) ∨
  (k=.indexByteString∧∃ s c,vs=[.string s,.int .u8 (.ofNat c)]∧v=.int .i64 (indexB s.data.toList (UInt8.ofNat c) 0)∧m'=m) ∨
  (k=.countString∧∃ s c,vs=[.string s,.int .u8 (.ofNat c)]∧v=.int .i64 (countB (UInt8.ofNat c) s.data.toList 0)∧m'=m) ∨
  (∃ e n,k=.makeNoZero e∧vs=[.int .i64 (.ofNat n)]∧n≤1000000000∧newM m (.cells [] e false) (fun b=>.slice (some ⟨b,0,none⟩) n OPEN)=some (v,m')):=by
 unfold extM at h
 split at h
 ·cases h; exact .inl ⟨rfl,rfl,rfl⟩
 ·cases h; exact .inr (.inl ⟨rfl,_,_,rfl,rfl,rfl⟩)
 ·cases h; exact .inr (.inr (.inl ⟨rfl,_,_,rfl,rfl,rfl⟩))
 ·obtain ⟨h1,h⟩:=cond_some h
  exact .inr (.inr (.inr ⟨_,_,rfl,rfl,Nat.le_of_ble_eq_true h1,h⟩))
 ·cases h
theorem extM_lg {k:EK} {vs:List Value} {m m':Mem} {v:Value} (h:(FnC.mk (extM k)).run vs m=some (v,m')):m.lg.le m'.lg:=by
 have h:extM k vs m=some (v,m'):=h
 rcases extM_inv h with ⟨_,_,rfl⟩|⟨_,_,_,_,_,rfl⟩|⟨_,_,_,_,_,rfl⟩|⟨_,_,_,_,_,h⟩
 ·exact .refl _
 ·exact .refl _
 ·exact .refl _
 ·obtain ⟨_,_,rfl⟩:=newM_eq h
  exact .refl _
theorem noEscape_ok {f:FuncId} {fn:Func} (hf:P.funcs[f]? = some fn) (hnm:(fn.name == "runtime.NumGoroutine")=false) (hb:fn.body=none) (hn:Extern.findNext fn=none) (he:Extern.find fn=some Extern.AbiNoEscape.same):FnOk P base gl f ⟨extM .noEscape⟩:=by
 refine ⟨fun vs m m' v hr=>extM_lg hr,?_⟩
 intro ρ m m' w vs vs' v hr hS hat hl
 have hr:extM .noEscape vs m=some (v,m'):=hr
 rcases extM_inv hr with ⟨_,rfl,rfl⟩|⟨h,_⟩|⟨h,_⟩|⟨_,_,h,_⟩
 ·obtain ⟨v',r',rfl,h1,h2⟩:=hl.tail
  cases h2.nil_inv
  exact .inr ⟨v',ρ,w,ext_run hf hnm hb hn he rfl,h1,.refl hat.hr⟩
 ·cases h
 ·cases h
 ·cases h
theorem indexB_eq (c:UInt8):∀ (l:List UInt8) (k:Nat),indexB l c k=if Lib.indexByte l c == -1 then -1 else Lib.indexByte l c+k
 | [],k=>rfl
 | x::r,k=>by
   have hg:=Lib.indexByte_ge r c
   have ih:=indexB_eq c r (k+1)
   rw [indexB,Lib.indexByte]
   by_cases e:x=c
   ·subst e; simp
   ·have e1:(x == c)=false:=by simpa using e
    simp only [e1,decide_eq_false e,cond_false]
    rw [ih]
    by_cases h:Lib.indexByte r c = -1
    ·simp [h]
    ·have h2:(Lib.indexByte r c == -1)=false:=by simpa using h
     have h3:(Lib.indexByte r c+1 == -1)=false:=by simp; omega
     simp only [h2,h3,Bool.false_eq_true,if_false]
     omega
theorem indexB_lib (c:UInt8) (l:List UInt8):indexB l c 0=Lib.indexByte l c:=by
 rw [indexB_eq]
 by_cases h:Lib.indexByte l c = -1
 ·simp [h]
 ·have h2:(Lib.indexByte l c == -1)=false:=by simpa using h
  simp [h2]
theorem countB_lib (c:UInt8):∀ (l:List UInt8) (n:Nat),countB c l n=n+l.count c
 | [],n=>rfl
 | x::r,n=>by
   rw [countB,List.count_cons]
   by_cases e:x=c
   ·subst e
    simp only [decide_true,cond_true,forceN_eq,beq_self_eq_true,if_true]
    rw [countB_lib x r (n+1)]; omega
   ·have e1:(x == c)=false:=by simpa using e
    simp only [decide_eq_false e,cond_false,e1,Bool.false_eq_true,if_false]
    rw [countB_lib c r n]; omega
theorem indexByte_ok {f:FuncId} {fn:Func} (hf:P.funcs[f]? = some fn) (hnm:(fn.name == "runtime.NumGoroutine")=false) (hb:fn.body=none) (hn:Extern.findNext fn=none) (he:Extern.find fn=some Extern.BytealgIndexByte.indexByte):FnOk P base gl f ⟨extM .indexByteString⟩:=by
 refine ⟨fun vs m m' v hr=>extM_lg hr,?_⟩
 intro ρ m m' w vs vs' v hr hS hat hl
 have hr:extM .indexByteString vs m=some (v,m'):=hr
 rcases extM_inv hr with ⟨h,_⟩|⟨_,s,c,rfl,rfl,rfl⟩|⟨h,_⟩|⟨_,_,h,_⟩
 ·cases h
 ·obtain ⟨v1,r1,rfl,h1,h2⟩:=hl.tail
  obtain ⟨v2,r2,rfl,h3,h4⟩:=h2.tail
  cases h4.nil_inv
  cases inv_str h1
  cases inv_int h3
  refine .inr ⟨_,ρ,w,ext_run hf hnm hb hn he (Lib.run_indexByteString s (.ofNat c) w),?_,.refl hat.hr⟩
  rw [indexB_lib]; exact .pure rfl
 ·cases h
 ·cases h
theorem countString_ok {f:FuncId} {fn:Func} (hf:P.funcs[f]? = some fn) (hnm:(fn.name == "runtime.NumGoroutine")=false) (hb:fn.body=none) (hn:Extern.findNext fn=none) (he:Extern.find fn=some Extern.BytealgCount.count):FnOk P base gl f ⟨extM .countString⟩:=by
 refine ⟨fun vs m m' v hr=>extM_lg hr,?_⟩
 intro ρ m m' w vs vs' v hr hS hat hl
 have hr:extM .countString vs m=some (v,m'):=hr
 rcases extM_inv hr with ⟨h,_⟩|⟨h,_⟩|⟨_,s,c,rfl,rfl,rfl⟩|⟨_,_,h,_⟩
 ·cases h
 ·cases h
 ·obtain ⟨v1,r1,rfl,h1,h2⟩:=hl.tail
  obtain ⟨v2,r2,rfl,h3,h4⟩:=h2.tail
  cases h4.nil_inv
  cases inv_str h1
  cases inv_int h3
  refine .inr ⟨_,ρ,w,ext_run hf hnm hb hn he (Lib.run_countString s (.ofNat c) w),?_,.refl hat.hr⟩
  rw [countB_lib,Nat.zero_add]; exact .pure rfl
 ·cases h
theorem makeNoZero_ok {f:FuncId} {fn:Func} {ps:Array TypeId} {t e:TypeId} (hf:P.funcs[f]? = some fn) (hnm:(fn.name == "runtime.NumGoroutine")=false) (hb:fn.body=none) (hn:Extern.findNext fn=none) (he:Extern.find fn=some (Extern.BytealgMakeNoZero.makeNoZero ps #[t]))
  (hu:P.underlying t=some (.slice e)) (hi:(P.info? e).map (·.size)=some 1):FnOk P base gl f ⟨extM (.makeNoZero e)⟩:=by
 refine ⟨fun vs m m' v hr=>extM_lg hr,?_⟩
 intro ρ m m' w vs vs' v hr hS hat hl
 have hr:extM (.makeNoZero e) vs m=some (v,m'):=hr
 rcases extM_inv hr with ⟨h,_⟩|⟨h,_⟩|⟨h,_⟩|⟨e',n,h,rfl,hn9,hr⟩
 ·cases h
 ·cases h
 ·cases h
 ·cases h
  obtain ⟨v1,r1,rfl,h1,h2⟩:=hl.tail
  cases h2.nil_inv
  cases inv_int h1
  obtain ⟨cs,hrun,hle,_⟩:=Lib.run_makeNoZero (P:=P) w ps t e hu n (by omega)
  obtain ⟨e1,e2,e3⟩:=new_cells (wd:=w.drew.drew) (fz:=(0,0)) (cap:=cs.size) (C:=cs) (cs':=[]) hat.hr hat.bs hr hat.fr (.nil) (fun i u hi=>by simp at hi) (fun i _ hh=>by have h1:0≤i:=hh.1; have h2:i < 0:=hh.2; omega)
   (fun inf h2=>by rw [h2] at hi; have hi:some inf.size=some 1:=hi; have hi:=Option.some.inj hi; rw [hi]; omega) ⟨rfl,rfl,rfl⟩ rfl
  refine .inr ⟨_,_,_,ext_run hf hnm hb hn he hrun,?_,e3⟩
  rw [e1]
  have:=VR.op (ρ:=upd ρ m.n (lc w.heap.size 0 cs.size)) (b:=m.n) (o:=0) (n:=n) (m:=OPEN) (m':=cs.size) e2 (Nat.le_refl _) hle (fun _ _=>rfl)
  simpa using this
end
end Go.Sx

namespace Go.Sx
set_option linter.all false
open Go
set_option linter.unusedVariables false
variable [Ora]
structure ExtRow (P:Program) (f:FuncId) (k:EK):Prop where
 row:∃ fn,P.funcs[f]? = some fn∧(fn.name == "runtime.NumGoroutine")=false∧fn.body=none∧Extern.findNext fn=none ∧
  ((k=.noEscape∧Extern.find fn=some Extern.AbiNoEscape.same)∨(k=.indexByteString∧Extern.find fn=some Extern.BytealgIndexByte.indexByte)∨(k=.countString∧Extern.find fn=some Extern.BytealgCount.count) ∨
    (∃ e ps t,k=.makeNoZero e∧Extern.find fn=some (Extern.BytealgMakeNoZero.makeNoZero ps #[t])∧P.underlying t=some (.slice e)∧(P.info? e).map (·.size)=some 1))
theorem ExtRow.ok {P:Program} {f:FuncId} {k:EK} {base gl:Nat} (h:ExtRow P f k):FnOk P base gl f ⟨extM k⟩:=by
 obtain ⟨fn,h1,h2,h3,h4,h5⟩:=h.row
 rcases h5 with ⟨rfl,h5⟩|⟨rfl,h5⟩|⟨rfl,h5⟩|⟨e,ps,t,rfl,h5,h6,h7⟩
 ·exact noEscape_ok h1 h2 h3 h4 h5
 ·exact indexByte_ok h1 h2 h3 h4 h5
 ·exact countString_ok h1 h2 h3 h4 h5
 ·exact makeNoZero_ok h1 h2 h3 h4 h5 h6 h7
theorem findE_mem:∀ {l:List (FuncId × EK)} {f:FuncId} {k:EK},findE l f=some k→(f,k) ∈ l
 | (g,j)::r,f,k,h=>by
   rw [findE] at h
   cases e:Nat.beq g f with
   | true =>
     rw [e] at h
     cases h
     rw [Nat.eq_of_beq_eq_true e]; exact .head _
   | false =>
     rw [e] at h
     exact .tail _ (findE_mem h)
theorem cxOk_of {P:Program} {ext:List (FuncId × EK)} {gl base:Nat} {con:FuncId→Option FnC} {lp:FuncId→LpT} (hm:P.follows .mixedOrders=true) (hn:NameOk P) (he:∀ p ∈ ext,ExtRow P p.1 p.2)
  (hc:∀ f c,con f=some c→FnOk P base gl f c) (hl:∀ f fn body,P.funcs[f]? = some fn→fn.body=some body→LpOk P base gl fn.ntmps body (lp f)) :
  CxOk ⟨P,ext,gl,con,lp⟩ base :=
 { names:=hn,ext:=fun f k fn _ _ h=>(he _ (findE_mem h)).ok,con:=hc,lp:=hl,draws:=fun _ h=>draws_ok hm h }
end Go.Sx

namespace Go.Sx
set_option linter.all false
open Go
set_option linter.unusedVariables false
set_option linter.unusedSimpArgs false
inductive Sh where
 | s (t:Nat)
 | a (ts:List Nat)
def valS (t:Nat) (u:U):Option Value:=if tagU u=t then toV u else none
def valC:List Nat→List U→Option (List Value × List U)
 | [],us=>some ([],us)
 | t::ts,u::us=>match valS t u,valC ts us with
   | some v,some (vs,r)=>some (v::vs,r)
   | _,_=>none
 | _::_,[]=>none
def valSh:Sh→List U→Option (Value × List U)
 | .s t,u::us=>match valS t u with
   | some v=>some (v,us)
   | none=>none
 | .s _,[]=>none
 | .a ts,us=>match valC ts us with
   | some (vs,r)=>some (.agg ⟨vs⟩,r)
   | none=>none
def valL:List Sh→List U→Option (List Value)
 | [],[]=>some []
 | [],_::_=>none
 | h::hs,us=>match valSh h us with
   | some (v,r)=>match valL hs r with
     | some vs=>some (v::vs)
     | none=>none
   | none=>none
def tup:List Value→Value
 | [v]=>v
 | vs=>.tuple ⟨vs⟩
structure Grown (w w':World):Prop where
 os:w'.os=w.os∧w'.tape=w.tape∧w'.output=w.output
 size:w.heap.size≤w'.heap.size
 keep:∀ k,k < w.heap.size→w'.heap[k]? = w.heap[k]?
def GOk (G:Nat→Option Obj) (w:World):Prop:=∀ k o,G k=some o→w.heap[k]? = some o
theorem GOk.lt {G:Nat→Option Obj} {w:World} (h:GOk G w) {k:Nat} {o:Obj} (hk:G k=some o):k < w.heap.size:=by
 have:=h k o hk
 rcases Nat.lt_or_ge k w.heap.size with h1|h1
 ·exact h1
 ·rw [Array.getElem?_eq_none h1] at this; cases this
abbrev Spec:=List U→Option (Nat × List U)
def Sh.tags:Sh→List Nat
 | .s t=>[t]
 | .a ts=>ts
def tagsL:List Sh→List Nat
 | []=>[]
 | s::ss=>s.tags++tagsL ss
def Sh.n (s:Sh):Nat:=s.tags.length
def shN:List Sh→Nat
 | []=>0
 | h::hs=>h.n+shN hs
def dataB (ss:List Sh):Bool:=(tagsL ss).any (Nat.ble 10)
inductive ShR (R:Nat→Option Obj):Sh→List U→Value→Prop
 | s {t u v} (h:Enc R u v) (ht:tagU u=t):ShR R (.s t) [u] v
 | a {ts us cs} (h:EncL R us cs) (ht:us.map tagU=ts):ShR R (.a ts) us (.agg ⟨cs⟩)
inductive ShL (R:Nat→Option Obj):List Sh→List U→List Value→Prop
 | nil:ShL R [] [] []
 | cons {s ss us us2 v vs} (h:ShR R s us v) (k:ShL R ss us2 vs):ShL R (s::ss) (us++us2) (v::vs)
theorem EncL.append {R:Nat→Option Obj} {us us2:List U} {vs vs2:List Value} (h:EncL R us vs) (k:EncL R us2 vs2):EncL R (us++us2) (vs++vs2):=by
 refine ⟨by simp [h.1,k.1],fun i u v h1 h2=>?_⟩
 rcases Nat.lt_or_ge i us.length with hl|hl
 ·rw [List.getElem?_append_left hl] at h1
  rw [List.getElem?_append_left (h.1 ▸ hl)] at h2
  exact h.2 i u v h1 h2
 ·rw [List.getElem?_append_right hl] at h1
  rw [List.getElem?_append_right (h.1 ▸ hl),← h.1] at h2
  exact k.2 _ u v h1 h2
theorem EncL.split {R:Nat→Option Obj}:∀ {vs vs2:List Value} {us:List U},EncL R us (vs++vs2)→∃ a b,us=a++b∧EncL R a vs∧EncL R b vs2
 | [],vs2,us,h=>⟨[],us,rfl,.nil,h⟩
 | v::vs,vs2,[],h=>by have:=h.1; simp at this
 | v::vs,vs2,u::us,h=>by
   obtain ⟨a,b,rfl,h1,h2⟩:=EncL.split (vs:=vs) (vs2:=vs2) (us:=us) ⟨by have:=h.1; simpa using this,fun i x y a1 a2=>h.2 (i+1) x y (by simpa using a1) (by simpa using a2)⟩
   exact ⟨u::a,b,rfl,.cons (h.2 0 u v rfl rfl) h1,h2⟩
theorem EncL.mono {R R':Nat→Option Obj} {us:List U} {vs:List Value} (h:EncL R us vs) (k:Sub R R'):EncL R' us vs:=⟨h.1,fun i u v a b=>(h.2 i u v a b).mono k⟩
theorem valC_enc {R:Nat→Option Obj}:∀ {ts:List Nat} {us r:List U} {vs:List Value},valC ts us=some (vs,r)→∃ a,us=a++r∧EncL R a vs∧a.map tagU=ts
 | [],us,r,vs,h=>by cases h; exact ⟨[],rfl,.nil,rfl⟩
 | t::ts,u::us,r,vs,h=>by
   unfold valC at h
   split at h
   ·rename_i v vs0 r0 h1 h2
    cases h
    obtain ⟨a,rfl,e1,e2⟩:=valC_enc (R:=R) h2
    unfold valS at h1
    split at h1
    ·rename_i ht; exact ⟨u::a,rfl,.cons (.sc h1) e1,by simp [ht,e2]⟩
    ·cases h1
   ·cases h
 | _::_,[],_,_,h=>by cases h
theorem valSh_shR {R:Nat→Option Obj} {s:Sh} {us r:List U} {v:Value} (h:valSh s us=some (v,r)):∃ a,us=a++r∧ShR R s a v:=by
 cases s with
 | s t =>
   cases us with
   | nil=>cases h
   | cons u us =>
     simp only [valSh] at h
     split at h
     ·rename_i v1 hv
      cases h
      unfold valS at hv
      split at hv
      ·rename_i ht; exact ⟨[u],rfl,.s (.sc hv) ht⟩
      ·cases hv
     ·cases h
 | a ts =>
   simp only [valSh] at h
   split at h
   ·rename_i vs r0 hv
    cases h
    obtain ⟨a,e1,e2,e3⟩:=valC_enc (R:=R) hv
    exact ⟨a,e1,.a e2 e3⟩
   ·cases h
theorem shL_of_val {R:Nat→Option Obj}:∀ {ss:List Sh} {us:List U} {vs:List Value},valL ss us=some vs→ShL R ss us vs
 | [],[],vs,h=>by cases h; exact .nil
 | [],_::_,_,h=>by cases h
 | s::ss,us,vs,h=>by
   unfold valL at h
   split at h
   ·rename_i v r hv
    split at h
    ·rename_i vs0 hl
     cases h
     obtain ⟨a,rfl,e1⟩:=valSh_shR (R:=R) hv
     exact .cons e1 (shL_of_val hl)
    ·cases h
   ·cases h
theorem encL_toV {R:Nat→Option Obj} {us:List U} {vs vs2:List Value} (h:EncL R us vs) (hl:vs2.length=us.length) (k:∀ (i:Nat) (u:U) (v:Value),us[i]? = some u→vs2[i]? = some v→toV u=some v):vs=vs2:=by
 refine List.ext_getElem? fun i=>?_
 rcases Nat.lt_or_ge i us.length with hi|hi
 ·have h1:us[i]? = some us[i]:=List.getElem?_eq_getElem hi
  have h2:vs[i]? = some (vs[i]'(h.1 ▸ hi)):=List.getElem?_eq_getElem _
  have h3:vs2[i]? = some (vs2[i]'(hl ▸ hi)):=List.getElem?_eq_getElem _
  rw [h2,h3,enc_toV (h.2 i _ _ h1 h2) (k i _ _ h1 h3)]
 ·rw [List.getElem?_eq_none (by rw [← h.1]; exact hi),List.getElem?_eq_none (by rw [hl]; exact hi)]
theorem valC_toV:∀ {ts:List Nat} {us r:List U} {vs:List Value},valC ts us=some (vs,r)→∃ a,us=a++r∧vs.length=a.length∧a.length=ts.length∧∀ (i:Nat) (u:U) (v:Value),a[i]? = some u→vs[i]? = some v→toV u=some v
 | [],us,r,vs,h=>by cases h; exact ⟨[],rfl,rfl,rfl,fun i u v h=>by simp at h⟩
 | t::ts,u::us,r,vs,h=>by
   unfold valC at h
   split at h
   ·rename_i v vs0 r0 h1 h2
    cases h
    obtain ⟨a,rfl,e1,e2,e3⟩:=valC_toV h2
    unfold valS at h1
    split at h1
    ·refine ⟨u::a,rfl,by simp [e1],by simp [e2],fun i x y a1 a2=>?_⟩
     cases i with
     | zero=>simp at a1 a2; subst a1; subst a2; exact h1
     | succ i=>exact e3 i x y (by simpa using a1) (by simpa using a2)
    ·cases h1
   ·cases h
 | _::_,[],_,_,h=>by cases h
theorem val_of_shL {R:Nat→Option Obj}:∀ {ss:List Sh} {us:List U} {vs vs2:List Value},ShL R ss us vs→valL ss us=some vs2→vs=vs2
 | [],us,vs,vs2,h,k=>by cases h; cases k; rfl
 | s::ss,us,vs,vs2,h,k=>by
   cases h with
   | cons h1 h2 =>
     rename_i us1 us2 v vs
     unfold valL at k
     split at k
     ·rename_i v1 r hv
      split at k
      ·rename_i vs0 hl
       cases k
       have hone:us1++us2=us1++us2:=rfl
       cases h1 with
       | s he ht =>
         rename_i t u
         have hv2:(match valS t u with|some v=>some (v,us2)|none=>none)=some (v1,r):=hv
         cases e:valS t u with
         | none=>rw [e] at hv2; cases hv2
         | some w =>
           rw [e] at hv2
           cases hv2
           unfold valS at e
           rw [if_pos ht] at e
           rw [enc_toV he e,val_of_shL h2 hl]
       | a he ht =>
         rename_i ts cs
         simp only [valSh] at hv
         split at hv
         ·rename_i cs2 r0 hc
          cases hv
          obtain ⟨a,e1,e2,e3,e4⟩:=valC_toV hc
          have hlen:a.length=us1.length:=by rw [e3,← ht]; simp
          obtain ⟨rfl,rfl⟩:=List.append_inj e1 hlen.symm
          rw [encL_toV he e2 e4,val_of_shL h2 hl]
         ·cases hv
      ·cases k
     ·cases k
def ConOk (P:Program) (G:Nat→Option Obj) (f:FuncId) (ps:List Sh) (spec:Spec) (rs:List Sh):Prop :=
 ∀ (us outs:List U) (w:World) (vs:List Value) (R:Nat→Option Obj),ShL R ps us vs→spec us=some (0,outs)→GOk G w→GOk R w →
  (callFunc f ⟨vs⟩).run P w=.ok (.enter f ⟨vs⟩) w∧Calls P f ⟨vs⟩ w (fun e w'=>∃ r R',ShL R' rs outs r∧e=.returned (tup r)∧Grown w w'∧GOk R' w'∧∀ k o,R' k=some o→w.heap.size≤k∨∃ o',R k=some o')
def unA:List Sh→List Value→Option (List Value)
 | [],[]=>some []
 | .s _::ss,v::vs=>match unA ss vs with
   | some r=>some (v::r)
   | none=>none
 | .a ts::ss,.agg cs::vs=>bif Nat.beq cs.toList.length ts.length then match unA ss vs with
   | some r=>some (cs.toList++r)
   | none=>none else none
 | _,_=>none
def takeA (P:Program) (ps:List Sh) (vs:List Value) (m:Mem):Option (List Value × Mem) :=
 match unA ps vs with
 | some cs=>match toDL (tdP P) (tagsL ps) cs m with
   | some (xs,[],m)=>some (xs,m)
   | some (xs,gs,m)=>match joinD gs m with
     | some (_,m)=>some (xs,m)
     | none=>none
   | none=>none
 | none=>none
def holeV (i t b:Nat):Value:=bif Nat.blt t 10 then hole i t else dat b i t
def valsC:List Nat→Nat→Nat→List Value
 | [],_,_=>[]
 | t::ts,i,b=>holeV i t b::valsC ts (i+1) b
def valsSh:Sh→Nat→Nat→Value
 | .s t,i,b=>holeV i t b
 | .a ts,i,b=>.agg ⟨valsC ts i b⟩
def valsL:List Sh→Nat→Nat→List Value
 | [],_,_=>[]
 | h::hs,i,b=>valsSh h i b::valsL hs (i+h.n) b
def retA (rs:List Sh) (nx:Nat) (m:Mem):Res :=
 bif dataB rs then match newFrz m fun b m=>some (tup (valsL rs nx b),b,m) with
  | some (v,_,m)=>some (v,m)
  | none=>none
 else some (tup (valsL rs nx 0),m)
def backA (m:Mem) (hi:Nat) (v:Value) (lg:Lg):Res :=
 match m with
 | ⟨H,n,W,_,_⟩=>some (v,⟨H,n,W,hi,lg⟩)
def conF (P:Program) (ps:List Sh) (spec:Spec) (rs:List Sh):FnC:=⟨fun vs m =>
 match takeA P ps vs m with
 | some (xs,⟨H,n,W,hi,⟨nx,pi,log⟩⟩)=>forceN nx fun nx=>forceL xs fun xs=>forceN (nx+shN rs) fun nx'=>bif dataB rs then retA rs nx ⟨H,n,W,hi,⟨nx',pi,.con spec xs nx 0 (shN rs)::log⟩⟩ else backA m hi (tup (valsL rs nx 0)) ⟨nx',pi,.con spec xs nx 0 (shN rs)::log⟩
 | none=>none⟩
theorem conF_eq {P:Program} {ps:List Sh} {spec:Spec} {rs:List Sh} {vs:List Value} {m m':Mem} {v:Value} (h:(conF P ps spec rs).run vs m=some (v,m')) :
  ∃ xs m1,takeA P ps vs m=some (xs,m1)∧((dataB rs=true∧retA rs m1.lg.nx (m1.wLg ⟨m1.lg.nx+shN rs,m1.lg.pi,.con spec xs m1.lg.nx 0 (shN rs)::m1.lg.log⟩)=some (v,m'))∨(dataB rs=false∧v=tup (valsL rs m1.lg.nx 0)∧m'=⟨m.H,m.n,m.W,m1.hi,⟨m1.lg.nx+shN rs,m1.lg.pi,.con spec xs m1.lg.nx 0 (shN rs)::m1.lg.log⟩⟩)):=by
 unfold conF at h
 simp only at h
 split at h
 ·rename_i xs H n W hi nx pi log hx
  simp only [forceN_eq,forceL_eq] at h
  refine ⟨xs,_,hx,?_⟩
  cases hd:dataB rs with
  | true=>rw [hd] at h; exact .inl ⟨rfl,h⟩
  | false =>
    rw [hd] at h
    obtain ⟨H2,n2,W2,hi2,lg2⟩:=m
    cases h
    exact .inr ⟨rfl,rfl,rfl⟩
 ·cases h
variable [Ora]
theorem unA_LR {ρ:Ren}:∀ {ss:List Sh} {vs vs' cs:List Value},unA ss vs=some cs→LR ρ vs vs'→∃ cs',unA ss vs'=some cs'∧LR ρ cs cs'
 | [],[],vs',cs,h,hl=>by cases h; rw [hl.nil_inv]; exact ⟨[],rfl,.nil⟩
 | [],_::_,_,_,h,_=>by cases h
 | .s t::ss,[],_,_,h,_=>by cases h
 | .a t::ss,[],_,_,h,_=>by cases h
 | .s t::ss,v::vs,vs',cs,h,hl=>by
   obtain ⟨v',r',rfl,h1,h2⟩:=hl.tail
   unfold unA at h
   split at h
   ·rename_i r hr
    cases h
    obtain ⟨cs',e1,e2⟩:=unA_LR hr h2
    exact ⟨v'::cs',by simp [unA,e1],.cons h1 e2⟩
   ·cases h
 | .a ts::ss,v::vs,vs',cs,h,hl=>by
   obtain ⟨v',r',rfl,h1,h2⟩:=hl.tail
   cases v with
   | agg c =>
     unfold unA at h
     obtain ⟨hlen,h⟩:=cond_some h
     split at h
     ·rename_i r hr
      cases h
      obtain ⟨cs',e1,e2⟩:=unA_LR hr h2
      obtain ⟨c',rfl,hc⟩:=inv_agg h1
      refine ⟨c'++cs',?_,hc.append e2⟩
      have hl2:Nat.beq c'.length ts.length=true:=by rw [← hc.1]; exact hlen
      simp [unA,e1,hl2]
     ·cases h
   | _=>cases h
theorem shL_of_cells {R:Nat→Option Obj}:∀ {ss:List Sh} {vs cs:List Value} {us:List U},unA ss vs=some cs→EncL R us cs→us.map tagU=tagsL ss→ShL R ss us vs
 | [],[],cs,us,h,he,ht=>by
   cases h
   have:us=[]:=List.length_eq_zero_iff.1 he.1
   subst this; exact .nil
 | [],_::_,_,_,h,_,_=>by cases h
 | .s t::ss,[],_,_,h,_,_=>by cases h
 | .a t::ss,[],_,_,h,_,_=>by cases h
 | .s t::ss,v::vs,cs,us,h,he,ht=>by
   unfold unA at h
   split at h
   ·rename_i r hr
    cases h
    obtain ⟨a,b,rfl,e1,e2⟩:=EncL.split (vs:=[v]) (vs2:=r) he
    match a,e1 with
    | [u],e1 =>
      simp only [List.singleton_append,List.map_cons,tagsL,Sh.tags,List.cons_append,List.nil_append,List.cons.injEq] at ht
      exact .cons (.s (e1.2 0 u v rfl rfl) ht.1) (shL_of_cells hr e2 ht.2)
    | [],e1=>have:=e1.1; simp at this
    | _::_::_,e1=>have:=e1.1; simp at this
   ·cases h
 | .a ts::ss,v::vs,cs,us,h,he,ht=>by
   cases v with
   | agg c =>
     unfold unA at h
     obtain ⟨hlen,h⟩:=cond_some h
     have hlen:=Nat.eq_of_beq_eq_true hlen
     split at h
     ·rename_i r hr
      cases h
      obtain ⟨a,b,rfl,e1,e2⟩:=EncL.split he
      simp only [List.map_append,tagsL,Sh.tags] at ht
      obtain ⟨t1,t2⟩:=List.append_inj ht (by simp [e1.1,hlen])
      obtain ⟨l⟩:=c
      exact .cons (.a e1 t1) (shL_of_cells hr e2 t2)
     ·cases h
   | _=>cases h
section
variable {P:Program} {base gl:Nat}
def RegAt (ρ:Ren) (m:Mem) (R:Nat→Option Obj):Prop:=∀ k o,R k=some o→∃ id ab l,id≤most∧Hp.get m.H id=some ab∧ρ id=some l∧Tf ab l k∧ab.rw=false
theorem takeA_ok {ρ:Ren} {m m':Mem} {w:World} {ps:List Sh} {vs vs' xs:List Value} (h:HR P base ρ m.H w) (ho:takeA P ps vs m=some (xs,m')) (hf:Free ρ m.n m'.hi) (hv:LR ρ vs vs') (hS:Sat m'.lg) :
  ∃ ρ' R,St P base ρ ρ' m m' w w∧m.lg.le m'.lg∧ShL R ps (xs.map (argU Ora.env)) vs'∧GOk R w∧RegAt ρ' m' R:=by
 unfold takeA at ho
 split at ho
 ·rename_i cs hcs
  obtain ⟨cs',e1,e2⟩:=unA_LR hcs hv
  split at ho
  ·rename_i xs0 m1 hd
   cases ho
   obtain ⟨ρ',a1,a2,a3,a4,a5,a6⟩:=toDL_ok tdP_ok h hd hf e2 hS
   exact ⟨ρ',fun _=>none,a1,a2,shL_of_cells e1 (a6 _ fun b hb=>by cases hb) a5,(fun k o hk=>by cases hk),(fun k o hk=>by cases hk)⟩
  ·rename_i xs0 gs m1 hd
   split at ho
   ·rename_i g m2 hj
    cases ho
    have mj:=joinD_mono hj
    obtain ⟨ρ1,a1,a2,a3,a4,a5,a6⟩:=toDL_ok tdP_ok h hd (hf.less mj.1) e2 (by rw [← mj.2.1]; exact hS)
    obtain ⟨ρ2,lg,b1,b2,b3,b4,b5,b6⟩:=joinD_ok a1.hr hj (hf.step a1)
    have hreg:=(b1.hr.atl b4 b5).1.2
    exact ⟨ρ2,lg.G,St.trans hf a1 b1,by rw [mj.2.1]; exact a2,shL_of_cells e1 (a6 _ fun b hb l hl=>b6 b hb l hl) a5,hreg,fun k o hk=>⟨g,_,lg,b1.hr.dom _ _ b4,b5,b4,⟨rfl,.inr ⟨rfl,o,hk⟩⟩,rfl⟩⟩
   ·cases ho
  ·cases ho
 ·cases ho
theorem holeV_VR {ρ:Ren} {R:Nat→Option Obj} {i t b:Nat} {u:U} {v:Value} (h:Enc R u v) (ht:tagU u=t) (he:Ora.env i=u) (hb:10≤t→ρ b=some (regL R)):VR ρ (holeV i t b) v:=by
 unfold holeV
 cases hq:Nat.blt t 10 with
 | true =>
   have h10:t < 10:=Nat.le_of_ble_eq_true hq
   obtain ⟨v1,e1,_,_⟩:=tag_toV (u:=u) (by omega)
   have:=enc_toV h e1
   subst this
   exact .hole (by rw [he]; exact e1) (by rw [he]; exact ht)
 | false =>
   have h10:10≤t:=by
    rcases Nat.lt_or_ge t 10 with hlt|hge
    ·rw [show Nat.blt t 10=true from Nat.ble_eq_true_of_le hlt] at hq; cases hq
    ·exact hge
   exact .dat (hb h10) (by rw [he]; exact h) (by rw [he]; exact ht) h10 (enc_flat h)
theorem valsC_VR {ρ:Ren} {R:Nat→Option Obj} {b:Nat}:∀ {ts:List Nat} {us:List U} {cs:List Value} {i:Nat},EncL R us cs→us.map tagU=ts→(∀ j u,us[j]? = some u→Ora.env (i+j)=u)→(∀ t ∈ ts,10≤t→ρ b=some (regL R))→LR ρ (valsC ts i b) cs
 | [],us,cs,i,h,ht,he,hb=>by
   have:us=[]:=by cases us with|nil=>rfl|cons _ _=>simp at ht
   subst this
   have:cs=[]:=List.length_eq_zero_iff.1 h.1.symm
   subst this; exact .nil
 | t::ts,[],cs,i,h,ht,he,hb=>by simp at ht
 | t::ts,u::us,[],i,h,ht,he,hb=>by have:=h.1; simp at this
 | t::ts,u::us,c::cs,i,h,ht,he,hb=>by
   simp only [List.map_cons,List.cons.injEq] at ht
   refine .cons (holeV_VR (h.2 0 u c rfl rfl) ht.1 (he 0 u rfl) (hb t (.head _))) (valsC_VR ⟨by have:=h.1; simpa using this,fun j x y a1 a2=>h.2 (j+1) x y (by simpa using a1) (by simpa using a2)⟩ ht.2 (fun j x hj=>?_) fun t' ht'=>hb t' (.tail _ ht'))
   have:=he (j+1) x (by simpa using hj)
   rw [show i+1+j=i+(j+1) by omega]; exact this
theorem valsL_VR {ρ:Ren} {R:Nat→Option Obj} {b:Nat}:∀ {ss:List Sh} {us:List U} {vs:List Value} {i:Nat},ShL R ss us vs→(∀ j u,us[j]? = some u→Ora.env (i+j)=u)→(dataB ss=true→ρ b=some (regL R))→LR ρ (valsL ss i b) vs∧us.length=shN ss
 | [],us,vs,i,h,he,hb=>by cases h; exact ⟨.nil,rfl⟩
 | s::ss,us,vs,i,h,he,hb=>by
   cases h with
   | cons h1 h2 =>
     rename_i us1 us2 v vs
     have hd:∀ t ∈ s.tags,10≤t→ρ b=some (regL R):=fun t ht h10=>hb (List.any_eq_true.2 ⟨t,List.mem_append.2 (.inl ht),Nat.ble_eq_true_of_le h10⟩)
     have hd2:dataB ss=true→ρ b=some (regL R):=fun hq=>by
      obtain ⟨t,ht,h10⟩:=List.any_eq_true.1 hq
      exact hb (List.any_eq_true.2 ⟨t,List.mem_append.2 (.inr ht),h10⟩)
     have hn:us1.length=s.n:=by
      cases h1 with
      | s _ _=>rfl
      | a _ ht=>show _=List.length _; rw [← ht]; simp [Sh.tags]
     obtain ⟨g1,g2⟩:=valsL_VR (i:=i+s.n) h2 (fun j u hj=>by
      have:=he (us1.length+j) u (by rw [List.getElem?_append_right (by omega),Nat.add_sub_cancel_left]; exact hj)
      rw [← hn,Nat.add_assoc]; exact this) hd2
     refine ⟨.cons ?_ g1,by simp [shN,hn,g2]⟩
     have he1:∀ j u,us1[j]? = some u→Ora.env (i+j)=u:=fun j u hj=>he j u (by rw [List.getElem?_append_left (List.getElem?_eq_some_iff.1 hj).1]; exact hj)
     cases h1 with
     | s h ht=>exact holeV_VR h ht (by have:=he1 0 _ rfl; simpa using this) (hd _ (.head _))
     | a h ht =>
       have:=valsC_VR (b:=b) h ht he1 hd
       exact .agg this.1 this.2
theorem tup_VR {ρ:Ren} {vs vs':List Value} (h:LR ρ vs vs'):VR ρ (tup vs) (tup vs'):=by
 match vs,vs',h with
 | [],vs',h=>rw [h.nil_inv]; exact .tuple (a:=[]) (a':=[]) rfl (fun i v v' h1 _=>by simp at h1)
 | [v],vs',h =>
   obtain ⟨v',r',rfl,h1,h2⟩:=h.tail
   cases h2.nil_inv
   exact h1
 | v::u::r,vs',h =>
   obtain ⟨v',r',rfl,h1,h2⟩:=h.tail
   obtain ⟨u',r2,rfl,h3,h4⟩:=h2.tail
   exact .tuple h.1 h.2
theorem St.grown {ρ:Ren} {m:Mem} {w w':World} (h:HR P base ρ m.H w) (g:Grown w w'):St P base ρ ρ m m w w' :=
 ⟨fun _ _ h=>h,fun b l h1 h2=>(by rw [h1] at h2; cases h2),Nat.le_refl _,Nat.le_refl _,fun h=>h,
  ⟨h.dom,fun id hid ab hab=>by
    obtain ⟨l,h1,h2,h3⟩:=h.at_ id hid ab hab
    exact ⟨l,h1,h2.mono (fun _ _ h=>h) (fun k hk=>g.keep k (h2.tc hk)),h3⟩⟩,
  fun _ h=>h,fun b h1 h2=>absurd h1 h2,fun k hk _=>g.keep k hk,g.size,g.os,fun b l h1 h2=>(by rw [h1] at h2; cases h2),fun _ _ _ _=>rfl,fun _ h=>.inr h⟩
theorem St.grownLg {ρ:Ren} {m:Mem} {w w':World} (h:HR P base ρ m.H w) (g:Grown w w') (lg:Lg):St P base ρ ρ m (m.wLg lg) w w':=by
 obtain ⟨H,n,W,hi,l⟩:=m
 have r:=St.grown (m:=⟨H,n,W,hi,l⟩) h g
 exact ⟨r.ext,r.new,r.nle,r.hle,r.nhi,r.hr,r.wsub,r.wrw,r.keep,r.size,r.os,r.blk,r.same,r.tch⟩
theorem St.ret {ρ:Ren} {m m1:Mem} {w w':World} {G:Nat→Option Obj} (h:HR P base ρ m.H w) (g:Grown w w') (hn:newM m .frz (fun _=>undef)=some (undef,m1)) (hf:Free ρ m.n m1.hi) (hG:GOk G w')
  (hT:∀ k o,G k=some o→w.heap.size≤k∨∃ id ab l,id≤most∧Hp.get m.H id=some ab∧ρ id=some l∧Tf ab l k∧ab.rw=false):upd ρ m.n (regL G) m.n=some (regL G)∧St P base ρ (upd ρ m.n (regL G)) m m1 w w':=by
 obtain ⟨hle,_,rfl⟩:=newM_eq hn
 have hfree:ρ m.n=none:=hf m.n (Nat.le_refl _) (upN_le _ _).2
 have hext:=upd_ext (l:=regL G) hfree
 refine ⟨upd_self _ _ _,hext,fun b q h1 h2=>?_,by simp,(upN_le _ _).1,fun _=>Nat.succ_le_of_lt (upN_le _ _).2,⟨fun b q hq=>?_,fun id hid a ha=>?_⟩,fun b hb=>hb,fun b h1 h2=>absurd h1 h2,fun q hq _=>g.keep q hq,g.size,g.os,fun b q h1 h2 ho=>?_,fun id hid h1 h2=>?_,fun q ⟨id,a,l,hid,ha,hl,ht⟩=>?_⟩
 ·obtain ⟨rfl,rfl⟩:=upd_inv h1 h2; exact ⟨Nat.le_refl _,Nat.lt_succ_self _⟩
 ·cases h0:ρ b with
  | some k0=>exact h.dom b k0 h0
  | none=>obtain ⟨rfl,rfl⟩:=upd_inv hq h0; exact hle
 ·rw [hp_get_set _ _ _ _ hle hid] at ha
  by_cases e:id=m.n
  ·rw [if_pos e] at ha
   have ha:=Option.some.inj ha; subst ha; subst e
   exact ⟨regL G,upd_self _ _ _,⟨rfl,hG⟩,fun _ ho=>(by cases ho)⟩
  ·rw [if_neg e] at ha
   obtain ⟨l0,h1,h2,h3⟩:=h.at_ id hid a ha
   refine ⟨l0,hext _ _ h1,h2.mono hext (fun k hk=>g.keep k (h2.tc hk)),fun hr ho=>⟨(h3 hr ho).1,fun id2 hid2 ab2 l2 g1 g2 g3=>?_⟩⟩
   rw [hp_get_set _ _ _ _ hle hid2] at g1
   by_cases e2:id2=m.n
   ·subst e2
    rw [upd_self] at g2
    have:=Option.some.inj g2; subst this
    rcases g3 with ⟨_,g3,_⟩|⟨_,o,g3⟩
    ·cases g3
    ·rcases hT _ o g3 with hge|⟨id3,a3,l3,q1,q2,q3,q4,q5⟩
     ·have:=h2.tc (.inl ⟨AB.rw_on hr,ho,rfl⟩); omega
     ·have:=(h3 hr ho).2 id3 q1 a3 l3 q2 q3 q4.2
      subst this
      rw [ha] at q2
      have q2:=Option.some.inj q2; subst q2
      rw [hr] at q5; cases q5
   ·rw [if_neg e2] at g1
    unfold upd at g2
    rw [if_neg e2] at g2
    exact (h3 hr ho).2 id2 hid2 ab2 l2 g1 g2 g3
 ·obtain ⟨rfl,rfl⟩:=upd_inv h1 h2
  cases ho
 ·rw [hp_get_set _ _ _ _ hle hid,if_neg]
  intro e; subst e
  rcases h2 with h2|h2
  ·omega
  ·have h2:upN m.hi m.n≤m.n:=h2
   have:=(upN_le m.hi m.n).2; omega
 ·have ha:Hp.get (m.H.set m.n (some .frz)) id=some a:=ha
  rw [hp_get_set _ _ _ _ hle hid] at ha
  by_cases e:id=m.n
  ·subst e
   rw [if_pos rfl] at ha
   have ha:=Option.some.inj ha; subst ha
   rw [upd_self] at hl
   have hl:=Option.some.inj hl; subst hl
   rcases ht.2 with ⟨_,h3,_⟩|⟨_,o,h3⟩
   ·cases h3
   ·rcases hT _ o h3 with hge|⟨id3,a3,l3,q1,q2,q3,q4,q5⟩
    ·exact .inl hge
    ·exact .inr ⟨id3,a3,l3,q1,q2,q3,q4⟩
  ·rw [if_neg e] at ha
   unfold upd at hl
   rw [if_neg e] at hl
   exact .inr ⟨id,a,l,hid,ha,hl,ht⟩
theorem St.back {ρ:Ren} {m:Mem} {w w':World} {hi:Nat} {lg:Lg} (h:HR P base ρ m.H w) (g:Grown w w') (hh:m.hi≤hi):St P base ρ ρ m ⟨m.H,m.n,m.W,hi,lg⟩ w w':=by
 have r:=St.grownLg (m:=m) h g lg
 refine ⟨r.ext,fun b l h1 h2=>(by rw [h1] at h2; cases h2),Nat.le_refl _,hh,fun h=>Nat.le_trans h hh,?_,fun _ h=>h,fun b h1 h2=>absurd h1 h2,fun k hk _=>g.keep k hk,g.size,g.os,fun b l h1 h2=>(by rw [h1] at h2; cases h2),fun _ _ _ _=>rfl,fun _ h=>.inr h⟩
 have:=r.hr
 rw [wLg_H] at this
 exact this
theorem conF_ok {f:FuncId} {ps:List Sh} {spec:Spec} {rs:List Sh} (h:ConOk P Ora.G f ps spec rs):FnOk P base gl f (conF P ps spec rs):=by
 have hret:∀ {nx:Nat} {m m':Mem} {v:Value},dataB rs=true→retA rs nx m=some (v,m')→m'.lg=m.lg∧m.hi≤m'.hi∧m.n≤m'.n:=fun {nx m m' v} hd hr=>by
  unfold retA at hr
  rw [hd] at hr
  simp only [cond_true] at hr
  split at hr
  ·rename_i hn
   cases hr
   obtain ⟨m2,q1,q2,_⟩:=newFrz_eq hn
   cases q2
   obtain ⟨_,_,rfl⟩:=newM_eq q1
   exact ⟨rfl,(upN_le _ _).1,Nat.le_succ _⟩
  ·cases hr
 have hmono:∀ {vs xs:List Value} {m m1:Mem},takeA P ps vs m=some (xs,m1)→m.lg.le m1.lg∧m.hi≤m1.hi:=fun {vs xs m m1} h1=>by
  unfold takeA at h1
  split at h1
  ·split at h1
   ·rename_i hd; cases h1; exact ⟨(toDL_mono tdP_ok hd).2.1,(toDL_mono tdP_ok hd).1⟩
   ·rename_i hd
    split at h1
    ·rename_i hj; cases h1; exact ⟨by rw [(joinD_mono hj).2.1]; exact (toDL_mono tdP_ok hd).2.1,Nat.le_trans (toDL_mono tdP_ok hd).1 (joinD_mono hj).1⟩
    ·cases h1
   ·cases h1
  ·cases h1
 refine ⟨fun vs m m' v hr=>?_,fun ρ m m' w vs vs' v hr hS hat hl=>.inl ?_⟩
 ·obtain ⟨xs,m1,h1,⟨hd,h2⟩|⟨hd,_,rfl⟩⟩:=conF_eq hr
  ·rw [(hret hd h2).1,wLg_lg]
   exact (hmono h1).1.trans ⟨[_],rfl⟩
  ·exact (hmono h1).1.trans ⟨[_],rfl⟩
 ·obtain ⟨xs,m1,h1,h2⟩:=conF_eq hr
  have hlg:m'.lg=⟨m1.lg.nx+shN rs,m1.lg.pi,.con spec xs m1.lg.nx 0 (shN rs)::m1.lg.log⟩∧m1.hi≤m'.hi:=by
   rcases h2 with ⟨hd,h2⟩|⟨hd,_,rfl⟩
   ·obtain ⟨r1,r2,_⟩:=hret hd h2
    simp only [wLg_lg,wLg_hi] at r1 r2
    exact ⟨r1,r2⟩
   ·exact ⟨rfl,Nat.le_refl _⟩
  obtain ⟨r1,r2⟩:=hlg
  have hlast:LogE.con spec xs m1.lg.nx 0 (shN rs) ∈ m'.lg.log:=by rw [r1]; exact List.mem_cons_self
  have hS1:Sat m1.lg:=SatL.le hS (by rw [r1]; exact ⟨[_],rfl⟩)
  obtain ⟨ρ1,R,a1,a2,a3,a4,a5⟩:=takeA_ok hat.hr h1 (hat.fr.less r2) hl hS1
  obtain ⟨outs,h3,h4,h5⟩:=hS _ hlast
  obtain ⟨h6,h7⟩:=h _ outs w vs' R a3 h3 (fun k o hk=>(hat.gf k o hk).2) a4
  refine ⟨h6,h7.mono fun e w' ⟨r,R',g1,g2,g3,g4,g5⟩=>?_⟩
  rcases h2 with ⟨hd,h2⟩|⟨hd,rfl,rfl⟩
  ·let lg2:Lg:=⟨m1.lg.nx+shN rs,m1.lg.pi,.con spec xs m1.lg.nx 0 (shN rs)::m1.lg.log⟩
   have h2:retA rs m1.lg.nx (m1.wLg lg2)=some (v,m'):=h2
   have hst1:St P base ρ ρ1 m (m1.wLg lg2) w w:=St.trans (hat.fr.less (by simpa using r2)) a1 (St.wLg a1.hr lg2)
   have hf1:Free ρ1 (m1.wLg lg2).n m'.hi:=by simpa using hat.fr.step a1
   unfold retA at h2
   rw [hd] at h2
   simp only [cond_true] at h2
   split at h2
   ·rename_i v0 b m2 hn
    cases h2
    obtain ⟨m3,q1,q2,_⟩:=newFrz_eq hn
    cases q2
    obtain ⟨e1,e2⟩:=St.ret (G:=R') hst1.hr g3 q1 hf1 g4 fun k o hk=>by
     rcases g5 k o hk with hge|⟨o',ho'⟩
     ·exact .inl hge
     ·obtain ⟨id,ab,l,p1,p2,p3,p4,p5⟩:=a5 k o' ho'
      exact .inr ⟨id,ab,l,p1,by rw [wLg_H]; exact p2,p3,p4,p5⟩
    exact ⟨_,_,g2,tup_VR (valsL_VR g1 h5 fun _=>e1).1,St.trans hat.fr hst1 e2⟩
   ·cases h2
  ·exact ⟨_,ρ,g2,tup_VR (valsL_VR g1 h5 fun hq=>by rw [hd] at hq; cases hq).1,St.back hat.hr g3 (hmono h1).2⟩
end
end Go.Sx

namespace Go.Sx
set_option linter.all false
open Go
set_option linter.unusedVariables false
set_option linter.unusedSimpArgs false
inductive Tr where
 | ret (xs:List Value)
 | lt (t:Nat) (op:LOp) (xs:List Value) (k:Tr)
 | dt (t:Nat) (op:LOp) (xs:List Value) (k:Tr)
 | br (i:Nat) (a b:Tr)
 | fn (spec:Spec) (xs:List Value) (n:Nat) (k:Tr)
 | lp (spec:Spec) (xs:List Value) (d n:Nat) (k r:Tr)
 | no
theorem band {a b:Bool} (h:(a && b)=true):a=true∧b=true:=by simpa using h
def gE (E:List U) (i:Nat):U:=E.getD i .none
def Tr.sat (L:List U→Prop):Tr→List U→Prop
 | .ret xs,E=>L (xs.map (argU (gE E)))
 | .lt t op xs k,E=>(t < 10∧tagU (evU op (xs.map (argU (gE E))))=t)∧k.sat L (E++[evU op (xs.map (argU (gE E)))])
 | .dt t op xs k,E=>(tagU (evU op (xs.map (argU (gE E))))=t∧∃ nul w rows,evU op (xs.map (argU (gE E)))=.seq nul w rows)∧k.sat L (E++[evU op (xs.map (argU (gE E)))])
 | .br i a b,E=>∃ c,gE E i=.bool c∧(c=true→a.sat L E)∧(c=false→b.sat L E)
 | .fn spec xs n k,E=>∃ outs,spec (xs.map (argU (gE E)))=some (0,outs)∧outs.length=n∧k.sat L (E++outs)
 | .lp spec xs d n k r,E=>∃ d' outs,spec (xs.map (argU (gE E)))=some (d',outs)∧(d'=d→outs.length=n∧k.sat L (E++outs))∧(d'≠d→r.sat L E)
 | .no,_=>False
abbrev Path:=List Nat × (List Value × List LogE)
def Tr.paths:Tr→List Nat→List LogE→Nat→List Path
 | .ret xs,π,l,_=>[(π.reverse,(xs,l))]
 | .lt t op xs k,π,l,nx=>k.paths π (.lt nx t op xs::l) (nx+1)
 | .dt t op xs k,π,l,nx=>k.paths π (.dt nx t op xs::l) (nx+1)
 | .br i a b,π,l,nx=>a.paths (1::π) (.br i true::l) nx++b.paths (0::π) (.br i false::l) nx
 | .fn spec xs n k,π,l,nx=>k.paths π (.con spec xs nx 0 n::l) (nx+n)
 | .lp spec xs d n k r,π,l,nx=>k.paths (d::π) (.con spec xs nx d n::l) (nx+n)++r.paths π l nx
 | .no,_,_,_=>[]
def wfV (n:Nat):Value→Bool
 | .complex .f64 i _=>Nat.blt i n
 | _=>true
def Tr.wf:Tr→Nat→Bool
 | .ret xs,n=>xs.all (wfV n)
 | .lt _ _ xs k,n=>xs.all (wfV n) && k.wf (n+1)
 | .dt _ _ xs k,n=>xs.all (wfV n) && k.wf (n+1)
 | .br i a b,n=>Nat.blt i n && (a.wf n && b.wf n)
 | .fn _ xs m k,n=>xs.all (wfV n) && k.wf (n+m)
 | .lp _ xs _ m k r,n=>xs.all (wfV n) && (k.wf (n+m) && r.wf n)
 | .no,_=>true
def Agree (E:List U) (F:Nat→U):Prop:=∀ (j:Nat) (u:U),E[j]? = some u→F j=u
theorem Agree.get {E:List U} {F:Nat→U} (h:Agree E F) {i:Nat} (hi:i < E.length):F i=gE E i:=by
 rw [h i _ (List.getElem?_eq_getElem hi)]
 simp [gE,hi]
theorem Agree.front {E E2:List U} {F:Nat→U} (h:Agree (E++E2) F):Agree E F:=fun j u hj=>h j u (by
 rw [List.getElem?_append_left (List.getElem?_eq_some_iff.1 hj).1]; exact hj)
theorem Agree.back {E E2:List U} {F:Nat→U} (h:Agree (E++E2) F):∀ j u,E2[j]? = some u→F (E.length+j)=u:=fun j u hj=>h _ u (by
 rw [List.getElem?_append_right (by omega),Nat.add_sub_cancel_left]; exact hj)
theorem wf_arg {E:List U} {F:Nat→U} (h:Agree E F) {v:Value} (hw:wfV E.length v=true):argU F v=argU (gE E) v:=by
 unfold wfV at hw
 split at hw
 ·have hw:_ < E.length:=Nat.le_of_ble_eq_true hw
  exact h.get hw
 ·rename_i hne
  unfold argU
  split
  ·exact absurd rfl (hne _ _)
  all_goals rfl
theorem wf_args {E:List U} {F:Nat→U} (h:Agree E F) {xs:List Value} (hw:xs.all (wfV E.length)=true):xs.map (argU F)=xs.map (argU (gE E)) :=
 List.map_congr_left fun x hx=>wf_arg h (List.all_eq_true.1 hw x hx)
theorem SatL.cons {F:Nat→U} {e:LogE} {l:List LogE} (h:e.ok F) (k:SatL F l):SatL F (e::l):=fun x hx=>by
 rcases List.mem_cons.1 hx with rfl|hx
 ·exact h
 ·exact k x hx
theorem sat_path {L:List U→Prop}:∀ (t:Tr) (E:List U) (π:List Nat) (l:List LogE),t.wf E.length=true→t.sat L E→(∀ F,Agree E F→SatL F l) →
  ∃ p ∈ t.paths π l E.length,∃ F,Agree E F∧SatL F p.2.2∧L (p.2.1.map (argU F))
 | .ret xs,E,π,l,hw,h,hl=>by
   have ha:Agree E (gE E):=fun j u hj=>by simp [gE,List.getD_eq_getElem?_getD,hj]
   exact ⟨_,List.mem_cons_self,gE E,ha,hl _ ha,h⟩
 | .lt t op xs k,E,π,l,hw,⟨⟨h1,h2⟩,h3⟩,hl=>by
   obtain ⟨w1,w2⟩:=band (show (xs.all (wfV E.length) && k.wf (E.length+1))=true from hw)
   have hw':k.wf (E++[evU op (xs.map (argU (gE E)))]).length=true:=by simpa using w2
   obtain ⟨p,hp,F,f1,f2,f3⟩:=sat_path k (E++[evU op (xs.map (argU (gE E)))]) π (.lt E.length t op xs::l) hw' h3 fun F hF=>by
    have hF1:=hF.front
    have e:=hF.back 0 _ rfl
    refine SatL.cons ?_ (hl F hF1)
    have e:F E.length=evU op (xs.map (argU F)):=by rw [wf_args hF1 w1]; exact e
    refine ⟨e,?_,h1⟩
    rw [e,wf_args hF1 w1]; exact h2
   exact ⟨p,by simpa [Tr.paths] using hp,F,f1.front,f2,f3⟩
 | .dt t op xs k,E,π,l,hw,⟨⟨h2,hq⟩,h3⟩,hl=>by
   obtain ⟨w1,w2⟩:=band (show (xs.all (wfV E.length) && k.wf (E.length+1))=true from hw)
   have hlen:(E++[evU op (xs.map (argU (gE E)))]).length=E.length+1:=by simp
   obtain ⟨p,hp,F,f1,f2,f3⟩:=sat_path k (E++[evU op (xs.map (argU (gE E)))]) π (.dt E.length t op xs::l) (by rw [hlen]; exact w2) h3 fun F hF=>by
    have hF1:=hF.front
    have e:=hF.back 0 _ rfl
    refine SatL.cons ?_ (hl F hF1)
    have e:F E.length=evU op (xs.map (argU F)):=by rw [wf_args hF1 w1]; exact e
    refine ⟨e,?_,?_⟩
    ·rw [e,wf_args hF1 w1]; exact h2
    ·rw [e,wf_args hF1 w1]; exact hq
   exact ⟨p,by simpa [Tr.paths] using hp,F,f1.front,f2,f3⟩
 | .br i a b,E,π,l,hw,⟨c,h1,h2,h3⟩,hl=>by
   obtain ⟨w1,w2⟩:=band (show (Nat.blt i E.length && (a.wf E.length && b.wf E.length))=true from hw)
   obtain ⟨w2,w3⟩:=band w2
   have w1:i < E.length:=Nat.le_of_ble_eq_true w1
   cases c with
   | true =>
     obtain ⟨p,hp,F,f1,f2,f3⟩:=sat_path a E (1::π) (.br i true::l) w2 (h2 rfl) fun F hF=>SatL.cons (by show F i=_; rw [hF.get w1,h1]) (hl F hF)
     exact ⟨p,List.mem_append.2 (.inl hp),F,f1,f2,f3⟩
   | false =>
     obtain ⟨p,hp,F,f1,f2,f3⟩:=sat_path b E (0::π) (.br i false::l) w3 (h3 rfl) fun F hF=>SatL.cons (by show F i=_; rw [hF.get w1,h1]) (hl F hF)
     exact ⟨p,List.mem_append.2 (.inr hp),F,f1,f2,f3⟩
 | .fn spec xs n k,E,π,l,hw,⟨outs,h1,h2,h3⟩,hl=>by
   obtain ⟨w1,w2⟩:=band (show (xs.all (wfV E.length) && k.wf (E.length+n))=true from hw)
   have hlen:(E++outs).length=E.length+n:=by simp [h2]
   obtain ⟨p,hp,F,f1,f2,f3⟩:=sat_path k (E++outs) π (.con spec xs E.length 0 n::l) (by rw [hlen]; exact w2) h3 fun F hF=>by
    refine SatL.cons ⟨outs,?_,h2,hF.back⟩ (hl F hF.front)
    rw [wf_args hF.front w1]; exact h1
   exact ⟨p,by rw [hlen] at hp; exact hp,F,f1.front,f2,f3⟩
 | .lp spec xs d n k r,E,π,l,hw,⟨d',outs,h1,h2,h3⟩,hl=>by
   obtain ⟨w1,w2⟩:=band (show (xs.all (wfV E.length) && (k.wf (E.length+n) && r.wf E.length))=true from hw)
   obtain ⟨w2,w3⟩:=band w2
   by_cases e:d'=d
   ·subst e
    obtain ⟨h2,h4⟩:=h2 rfl
    have hlen:(E++outs).length=E.length+n:=by simp [h2]
    obtain ⟨p,hp,F,f1,f2,f3⟩:=sat_path k (E++outs) (d'::π) (.con spec xs E.length d' n::l) (by rw [hlen]; exact w2) h4 fun F hF=>by
     refine SatL.cons ⟨outs,?_,h2,hF.back⟩ (hl F hF.front)
     rw [wf_args hF.front w1]; exact h1
    exact ⟨p,List.mem_append.2 (.inl (by rw [hlen] at hp; exact hp)),F,f1.front,f2,f3⟩
   ·obtain ⟨p,hp,F,f1,f2,f3⟩:=sat_path r E π l w3 (h3 e) hl
    exact ⟨p,List.mem_append.2 (.inr hp),F,f1,f2,f3⟩
 | .no,E,π,l,hw,h,hl=>h.elim
def mem0 (H0:Hp AB) (n0 k:Nat) (pi:List Nat):Mem:=⟨H0,n0,[],n0,⟨k,pi,[]⟩⟩
def memP (ps:List Sh) (H0:Hp AB) (n0:Nat) (pi:List Nat):Mem:=bif dataB ps then ⟨H0.set n0 (some .frz),n0+1,[],n0+1,⟨shN ps,pi,[]⟩⟩ else mem0 H0 n0 (shN ps) pi
def untup (rs:List Sh) (v:Value):Option (List Value) :=
 match rs with
 | [_]=>some [v]
 | _=>match v with
   | .tuple vs=>some vs.toList
   | _=>none
def endF (P:Program) (rs:List Sh) (r:Res):Option (List Value × List LogE) :=
 match r with
 | some (v,⟨H,n,[],hi,⟨nx,[],log⟩⟩)=>match untup rs v with
   | some vs=>match takeA P rs vs ⟨H,n,[],hi,⟨nx,[],log⟩⟩ with
     | some (xs,⟨_,_,_,_,⟨_,_,log⟩⟩)=>some (xs,log)
     | none=>none
   | none=>none
 | _=>none
def callTop (C:Cx):Nat→FuncId→FnC
 | 0,_=>⟨fun _ _=>none⟩
 | d+1,f=>callF ⟨C.P,C.ext,C.gl,fun _=>none,C.lp⟩ (callY C d) f
theorem callTop_ok [Ora] {C:Cx} {base:Nat} (h:CxOk C base):∀ (d:Nat) (f:FuncId),FnOk C.P base C.gl f (callTop C d f)
 | 0,f=>noFn_ok f
 | d+1,f=>by
   have hc:=callY_ok h d
   show FnOk C.P base C.gl f (callF ⟨C.P,C.ext,C.gl,fun _=>none,C.lp⟩ (callY C d) f)
   unfold callF
   split
   ·exact noFn_ok f
   ·rename_i fn hf
    have hf:C.P.funcs[f]? = some fn:=by simpa using hf
    split
    ·rename_i c hcon; cases hcon
    ·split
     ·rename_i hb
      split
      ·rename_i k hk; exact h.ext f k fn hf hb hk
      ·exact noFn_ok f
     ·rename_i c hb
      exact body_ok (gl:=C.gl) hf hb (h.names f fn hf) hc (h.draws _ hc) (h.lp f fn c hf hb)
def runF (C:Cx) (d:Nat) (f:FuncId) (ps rs:List Sh) (H0:Hp AB) (n0:Nat) (pi:List Nat):Option (List Value × List LogE) :=
 endF C.P rs ((callTop C d f).run (valsL ps 0 n0) (memP ps H0 n0 pi))
theorem endF_eq {P:Program} {rs:List Sh} {r:Res} {xs:List Value} {log:List LogE} (h:endF P rs r=some (xs,log)):∃ v m' vs m2,r=some (v,m')∧m'.W=[]∧untup rs v=some vs∧takeA P rs vs m'=some (xs,m2)∧m2.lg.log=log:=by
 unfold endF at h
 split at h
 ·split at h
  ·rename_i hu
   split at h
   ·rename_i ht
    cases h
    exact ⟨_,_,_,_,rfl,rfl,hu,ht,rfl⟩
   ·cases h
  ·cases h
 ·cases h
theorem untup_VR [Ora] {ρ:Ren} {rs:List Sh} {v v':Value} {vs:List Value} (h:untup rs v=some vs) (hv:VR ρ v v'):∃ vs',LR ρ vs vs'∧untup rs v'=some vs':=by
 unfold untup at h
 split at h
 ·cases h; exact ⟨[v'],.cons hv .nil,rfl⟩
 ·rename_i hne
  split at h
  ·rename_i vs0
   cases h
   obtain ⟨l',rfl,hl⟩:=inv_tuple hv
   refine ⟨l',hl,?_⟩
   unfold untup
   split
   ·rename_i s; exact absurd rfl (hne s)
   ·rfl
  ·cases h
theorem untup_tup {rs:List Sh} {v:Value} {vs:List Value} (h:untup rs v=some vs) (hl:vs.length=rs.length):v=tup vs:=by
 unfold untup at h
 split at h
 ·cases h; rfl
 ·rename_i hne
  split at h
  ·rename_i vs0
   cases h
   obtain ⟨l⟩:=vs0
   match l,rs,hne,hl with
   | [],_,_,_=>rfl
   | [x],[s],hne,_=>exact absurd rfl (hne s)
   | [x],[],_,hl=>simp at hl
   | [x],_::_::_,_,hl=>simp at hl
   | _::_::_,_,_,_=>rfl
  ·cases h
structure StartAt (P:Program) (G:Nat→Option Obj) (gl:Nat) (H0:Hp AB) (n0:Nat) (w:World) (ρ:Ren):Prop where
 hr:∀ (E:Nat→U) (base:Nat),@HR ⟨E,G⟩ P base ρ H0 w
 gr:∀ g,g < gl→ρ g=some (lc g 0 0)
 out:∀ b,n0≤b→ρ b=none
 inG:∀ b l,ρ b=some l→∃ o,G l.blk=some o
 ro:∀ id ab,id≤most→Hp.get H0 id=some ab→ab.fr=false
 le:n0 < most
 gln:gl≤n0
 ex:∀ id cs,id≤most→Hp.get H0 id=some (.cells cs 0 true)→∃ C T fz,w.heap[id]? = some (.cells C T fz)∧C.size=cs.length
def StartOk (P:Program) (G:Nat→Option Obj) (gl:Nat) (H0:Hp AB) (n0:Nat):Prop:=∀ w:World,GOk G w→∃ ρ:Ren,StartAt P G gl H0 n0 w ρ
def mkH:List (Nat × List Value)→Hp AB
 | []=>hp0
 | (b,cs)::r=>Hp.set (mkH r) b (some (.cells cs 0 true))
def conT:List (FuncId × FnC)→FuncId→Option FnC
 | [],_=>none
 | (g,c)::r,f=>bif Nat.beq g f then some c else conT r f
theorem conT_mem:∀ {l:List (FuncId × FnC)} {f:FuncId} {c:FnC},conT l f=some c→(f,c) ∈ l
 | (g,j)::r,f,c,h=>by
   rw [conT] at h
   cases e:Nat.beq g f with
   | true=>rw [e] at h; cases h; rw [Nat.eq_of_beq_eq_true e]; exact .head _
   | false=>rw [e] at h; exact .tail _ (conT_mem h)
def ConsOk (P:Program) (G:Nat→Option Obj) (gl:Nat) (l:List (FuncId × FnC)):Prop:=∀ (E:Nat→U) (base:Nat),∀ p ∈ l,@FnOk ⟨E,G⟩ P base gl p.1 p.2
theorem ConsOk.nil {P:Program} {G:Nat→Option Obj} {gl:Nat}:ConsOk P G gl []:=fun _ _ _ h=>by cases h
theorem ConsOk.cons {P:Program} {G:Nat→Option Obj} {gl:Nat} {l:List (FuncId × FnC)} {f:FuncId} {ps rs:List Sh} {spec:Spec} (h:ConOk P G f ps spec rs) (k:ConsOk P G gl l):ConsOk P G gl ((f,conF P ps spec rs)::l):=fun E base p hp=>by
 rcases List.mem_cons.1 hp with rfl|hp
 ·exact @conF_ok ⟨E,G⟩ P base gl f ps spec rs h
 ·exact k E base p hp
def CxG (C:Cx) (G:Nat→Option Obj):Prop:=∀ (E:Nat→U) (base:Nat),@CxOk ⟨E,G⟩ C base
theorem shL_len {R:Nat→Option Obj}:∀ {ss:List Sh} {us:List U} {vs:List Value},ShL R ss us vs→us.length=shN ss
 | [],us,vs,h=>by cases h; rfl
 | s::ss,us,vs,h=>by
   cases h with
   | cons h1 h2 =>
     rw [List.length_append,shL_len h2]
     cases h1 with
     | s _ _=>simp [shN,Sh.n,Sh.tags]
     | a _ ht=>simp [shN,Sh.n,Sh.tags,← ht]
theorem shL_vlen {R:Nat→Option Obj}:∀ {ss:List Sh} {us:List U} {vs:List Value},ShL R ss us vs→vs.length=ss.length
 | [],us,vs,h=>by cases h; rfl
 | s::ss,us,vs,h=>by
   cases h with
   | cons h1 h2=>simp [shL_vlen h2]
theorem start_at {P:Program} {G R:Nat→Option Obj} {gl n0:Nat} {H0:Hp AB} {w:World} {ρ:Ren} {ps:List Sh} {pi:List Nat} (E:Nat→U) (hsa:StartAt P G gl H0 n0 w ρ) (hR:GOk R w) :
  ∃ ρ2:Ren,@HR ⟨E,G⟩ P w.heap.size ρ2 (memP ps H0 n0 pi).H w∧(∀ b l,ρ b=some l→ρ2 b=some l)∧(∀ b,(memP ps H0 n0 pi).n≤b→ρ2 b=none)∧(dataB ps=true→ρ2 n0=some (regL R))∧(∀ k,Fp ρ2 (memP ps H0 n0 pi).H k→∃ o,R k=some o) ∧
   (memP ps H0 n0 pi).W=[]∧(memP ps H0 n0 pi).n≤(memP ps H0 n0 pi).hi∧(memP ps H0 n0 pi).lg=⟨shN ps,pi,[]⟩∧n0≤(memP ps H0 n0 pi).n:=by
 letI:Ora:=⟨E,G⟩
 have hr:=hsa.hr E w.heap.size
 have hH0:∀ k,¬ Fp ρ H0 k:=fun k ⟨id,ab,l,hid,hab,hl,hf,ht⟩=>by rw [hsa.ro id ab hid hab] at hf; cases hf
 cases hd:dataB ps with
 | false =>
   have e:memP ps H0 n0 pi=mem0 H0 n0 (shN ps) pi:=by unfold memP; rw [hd]; rfl
   rw [e]
   exact ⟨ρ,hr,fun _ _ h=>h,hsa.out,(fun h=>by cases h),(fun k hk=>absurd hk (hH0 k)),rfl,Nat.le_refl _,rfl,Nat.le_refl _⟩
 | true =>
   have e:memP ps H0 n0 pi=⟨H0.set n0 (some .frz),n0+1,[],n0+1,⟨shN ps,pi,[]⟩⟩:=by unfold memP; rw [hd]; rfl
   rw [e]
   have hfree:ρ n0=none:=hsa.out n0 (Nat.le_refl _)
   have hle:n0≤most:=Nat.le_of_lt hsa.le
   refine ⟨upd ρ n0 (regL R),⟨fun b l hb=>?_,fun id hid ab hab=>?_⟩,upd_ext hfree,fun b hb=>?_,fun _=>upd_self _ _ _,fun k ⟨id,ab,l,hid,hab,hl,hf,ht⟩=>?_,rfl,Nat.le_refl _,rfl,Nat.le_succ _⟩
   ·cases h0:ρ b with
    | some l0=>exact hr.dom b l0 h0
    | none=>obtain ⟨rfl,_⟩:=upd_inv hb h0; exact hle
   ·have hab:Hp.get (H0.set n0 (some .frz)) id=some ab:=hab
    rw [hp_get_set _ _ _ _ hle hid] at hab
    by_cases e:id=n0
    ·rw [if_pos e] at hab
     have hab:=Option.some.inj hab; subst hab; subst e
     exact ⟨regL R,upd_self _ _ _,⟨rfl,hR⟩,fun h=>by cases h⟩
    ·rw [if_neg e] at hab
     obtain ⟨l,h1,h2,h3⟩:=hr.at_ id hid ab hab
     refine ⟨l,upd_ext hfree _ _ h1,h2.mono (upd_ext hfree) (fun _ _=>rfl),fun hrw=>?_⟩
     have:=hsa.ro id ab hid hab
     rw [AB.rw_fr hrw] at this; cases this
   ·have hb:n0+1≤b:=hb
    unfold upd
    rw [if_neg (by omega)]
    exact hsa.out b (by omega)
   ·have hab:Hp.get (H0.set n0 (some .frz)) id=some ab:=hab
    rw [hp_get_set _ _ _ _ hle hid] at hab
    by_cases e:id=n0
    ·rw [if_pos e] at hab
     have hab:=Option.some.inj hab; subst hab; subst e
     rw [upd_self] at hl
     have hl:=Option.some.inj hl; subst hl
     rcases ht with ⟨h,_⟩|⟨_,o,h⟩
     ·cases h
     ·exact ⟨o,h⟩
    ·rw [if_neg e] at hab
     rw [hsa.ro id ab hid hab] at hf; cases hf
theorem con_of_run {C:Cx} {G R:Nat→Option Obj} {d:Nat} {f:FuncId} {ps rs:List Sh} {H0:Hp AB} {n0:Nat} {pi:List Nat} {xs:List Value} {log:List LogE} {us:List U} {vs:List Value} {F:Nat→U} {w:World}
  (hC:CxG C G) (hst:StartOk C.P G C.gl H0 n0) (hb:∃ fn c,C.P.funcs[f]? = some fn∧fn.body=some c) (hrun:runF C d f ps rs H0 n0 pi=some (xs,log)) (hv:ShL R ps us vs) (hF:Agree us F) (hS:SatL F log) (hG:GOk G w) (hR:GOk R w) :
  (callFunc f ⟨vs⟩).run C.P w=.ok (.enter f ⟨vs⟩) w∧Calls C.P f ⟨vs⟩ w (fun e w'=>∃ r R',ShL R' rs (xs.map (argU F)) r∧e=.returned (tup r)∧Grown w w'∧GOk R' w'∧∀ k o,R' k=some o→w.heap.size≤k∨∃ o',R k=some o'):=by
 letI:Ora:=⟨F,G⟩
 obtain ⟨v,m',vs1,m2,h1,h2,h3,h4,h5⟩:=endF_eq hrun
 have hcx:=hC F w.heap.size
 have hfn:=callTop_ok hcx d f
 obtain ⟨ρ,hsa⟩:=hst w hG
 obtain ⟨ρ2,b1,b2,b3,b4,b5,b6,b7,b8,b9⟩:=start_at (ps:=ps) (pi:=pi) F hsa hR
 have htm:m'.lg.le m2.lg∧m'.hi≤m2.hi:=by
  unfold takeA at h4
  split at h4
  ·split at h4
   ·rename_i hd; cases h4; have:=toDL_mono (P:=C.P) tdP_ok hd; exact ⟨this.2.1,this.1⟩
   ·rename_i hd
    split at h4
    ·rename_i hj
     cases h4
     have a:=toDL_mono (P:=C.P) tdP_ok hd
     have b:=joinD_mono hj
     exact ⟨by rw [b.2.1]; exact a.2.1,Nat.le_trans a.1 b.1⟩
    ·cases h4
   ·cases h4
  ·cases h4
 have hS2:Sat m2.lg:=by show SatL F m2.lg.log; rw [h5]; exact hS
 have hS1:Sat m'.lg:=SatL.le hS2 htm.1
 have hfree:∀ hi,Free ρ2 (memP ps H0 n0 pi).n hi:=fun hi b q1 _=>b3 b q1
 have hat:At C.P w.heap.size C.gl ρ2 (memP ps H0 n0 pi) m'.hi w:=⟨b1,Nat.le_refl _,hfree _,fun g hg=>b2 _ _ (hsa.gr g hg),b7,fun b hb=>(by rw [b6] at hb; cases hb),fun k o hk=>⟨hG.lt hk,hG k o hk⟩⟩
 have hl:=(valsL_VR (ρ:=ρ2) (R:=R) (b:=n0) (i:=0) hv (fun j u hj=>by rw [Nat.zero_add]; exact hF j u hj) b4).1
 obtain ⟨fn,c,hf,hbd⟩:=hb
 have hnm:fn.name ≠ "runtime.NumGoroutine":=by simpa using hcx.names f fn hf
 have hent:(callFunc f ⟨vs⟩).run C.P w=.ok (.enter f ⟨vs⟩) w:=by simp [callFunc,hf,hnm,hbd]
 refine ⟨hent,?_⟩
 rcases hfn.ok ρ2 _ m' w _ vs v h1 hS1 hat hl with ⟨_,h6⟩|⟨v',ρ',w',h6,_⟩
 ·refine h6.mono fun e w' ⟨v',ρ',g1,g2,g3⟩=>?_
  obtain ⟨vs',q1,q2⟩:=untup_VR h3 g2
  have hf2:Free ρ' m'.n m2.hi:=(hfree m2.hi).step g3
  obtain ⟨ρ3,R',a1,a2,a3,a4,a5⟩:=takeA_ok g3.hr h4 hf2 q1 hS2
  have hgr:Grown w w':=⟨g3.os,g3.size,fun k hk=>g3.keep k hk fun b hb=>by rw [h2] at hb; cases hb⟩
  have hlen:vs'.length=rs.length:=shL_vlen a3
  refine ⟨vs',R',a3,by rw [g1,untup_tup q2 hlen],hgr,a4,fun k o hk=>?_⟩
  obtain ⟨id,ab,l,p1,p2,p3,p4,_⟩:=a5 k o hk
  rcases a1.tch k ⟨id,ab,l,p1,p2,p3,p4⟩ with hge|hfp
  ·exact .inl (Nat.le_trans g3.size hge)
  ·rcases g3.tch k hfp with hge|hfp
   ·exact .inl hge
   ·exact .inr (b5 k hfp)
 ·rw [hent] at h6; cases h6
theorem con_of_tree {C:Cx} {G:Nat→Option Obj} {d:Nat} {f:FuncId} {ps rs:List Sh} {H0:Hp AB} {n0:Nat} {spec:Spec} (t:Tr)
  (hC:CxG C G) (hst:StartOk C.P G C.gl H0 n0) (hb:∃ fn c,C.P.funcs[f]? = some fn∧fn.body=some c)
  (hwf:t.wf (shN ps)=true) (hchk:(t.paths [] [] (shN ps)).map (fun p=>runF C d f ps rs H0 n0 p.1)=(t.paths [] [] (shN ps)).map (fun p=>some p.2))
  (hsat:∀ us outs,spec us=some (0,outs)→t.sat (fun r=>r=outs) us):ConOk C.P G f ps spec rs:=by
 intro us outs w vs R hv hs hG hR
 have hlen:us.length=shN ps:=shL_len hv
 rw [← hlen] at hwf hchk
 obtain ⟨p,hp,F,f1,f2,f3⟩:=sat_path t us [] [] hwf (hsat us outs hs) (fun F _ e he=>by cases he)
 have hrun:runF C d f ps rs H0 n0 p.1=some p.2:=List.map_inj_left.1 hchk p hp
 obtain ⟨h1,h2⟩:=con_of_run (us:=us) hC hst hb (by rw [hrun]) hv f1 f2 hG hR
 exact ⟨h1,h2.mono fun e w' ⟨r,R',g1,g2⟩=>⟨r,R',by rw [← f3]; exact g1,g2⟩⟩
end Go.Sx

namespace Go.Sx
set_option linter.all false
open Go
set_option linter.unusedVariables false
set_option linter.unusedSimpArgs false
section
variable [Ora] {P:Program} {base gl:Nat}
end
end Go.Sx

namespace Go.Sx
set_option linter.all false
open Go
set_option linter.unusedVariables false
abbrev h (i t:Nat):Value:=hole i t
theorem sameK_refl (k:IntKind):sameK k k=true:=by cases k <;> rfl
theorem ev_add (k:IntKind) (a b:Int):evU (.bin .add) [.int k a,.int k b]=.int k (k.wrap (a+b)):=by
 simp [evU,evB,intM2,sameK_refl,isSh,intM,mkI_eq,wrapF_eq,addF_eq,ofV]
theorem ev_sub (k:IntKind) (a b:Int):evU (.bin .sub) [.int k a,.int k b]=.int k (k.wrap (a - b)):=by
 simp [evU,evB,intM2,sameK_refl,isSh,intM,mkI_eq,wrapF_eq,subF_eq,ofV]
theorem ev_mul (k:IntKind) (a b:Int):evU (.bin .mul) [.int k a,.int k b]=.int k (k.wrap (a * b)):=by
 simp [evU,evB,intM2,sameK_refl,isSh,intM,mkI_eq,wrapF_eq,mulF_eq,ofV]
theorem ev_quo (k:IntKind) (a b:Int) (hb:b≠0):evU (.bin .quo) [.int k a,.int k b]=.int k (k.wrap (a.tdiv b)):=by
 have hb':(b == 0)=false:=by simpa using hb
 simp [evU,evB,intM2,sameK_refl,isSh,intM,mkI_eq,eqF'_eq,hb',ofV]
theorem ev_rem (k:IntKind) (a b:Int) (hb:b≠0):evU (.bin .rem) [.int k a,.int k b]=.int k (a.tmod b):=by
 have hb':(b == 0)=false:=by simpa using hb
 simp [evU,evB,intM2,sameK_refl,isSh,intM,mkI_eq,eqF'_eq,hb',ofV]
theorem ev_andNot (k:IntKind) (a b:Int):evU (.bin .andNot) [.int k a,.int k b]=.int k (k.wrap (BitVec.ofInt k.bits a &&& ~~~BitVec.ofInt k.bits b).toNat):=by
 simp [evU,evB,intM2,sameK_refl,isSh,intM,bitsM,ofV]
theorem ev_eql (k:IntKind) (a b:Int):evU (.bin .eql) [.int k a,.int k b]=.bool (decide (a=b)):=by
 simp [evU,evB,intM2,sameK_refl,isSh,intM,eqF'_eq,ofV]
 rw [Bool.eq_iff_iff]; simp
theorem ev_neq (k:IntKind) (a b:Int):evU (.bin .neq) [.int k a,.int k b]=.bool (decide (a≠b)):=by
 simp [evU,evB,intM2,sameK_refl,isSh,intM,eqF'_eq,ofV]
 rw [Bool.eq_iff_iff]; simp
theorem ev_lss (k:IntKind) (a b:Int):evU (.bin .lss) [.int k a,.int k b]=.bool (decide (a < b)):=by
 simp [evU,evB,intM2,sameK_refl,isSh,intM,ltF_eq,ofV]
theorem ev_leq (k:IntKind) (a b:Int):evU (.bin .leq) [.int k a,.int k b]=.bool (decide (a≤b)):=by
 simp [evU,evB,intM2,sameK_refl,isSh,intM,leF_eq,ofV]
theorem ev_gtr (k:IntKind) (a b:Int):evU (.bin .gtr) [.int k a,.int k b]=.bool (decide (b < a)):=by
 simp [evU,evB,intM2,sameK_refl,isSh,intM,ltF_eq,ofV]
theorem ev_geq (k:IntKind) (a b:Int):evU (.bin .geq) [.int k a,.int k b]=.bool (decide (b≤a)):=by
 simp [evU,evB,intM2,sameK_refl,isSh,intM,leF_eq,ofV]
theorem ev_shr (k j:IntKind) (a b:Int) (hb:0≤b):evU (.bin .shr) [.int k a,.int j b]=.int k (a.fdiv (2 ^ (min b.toNat k.bits))):=by
 obtain ⟨n,rfl⟩:∃ n:Nat,b=n:=⟨b.toNat,by omega⟩
 simp [evU,evB,intM2,isSh,shiftM,mkI_eq,ofV]
theorem ev_bne (a b:Bool):evU (.bin .neq) [.bool a,.bool b]=.bool (decide (a≠b)):=by cases a <;> cases b <;> rfl
theorem ev_not (a:Bool):evU (.un .not) [.bool a]=.bool (!a):=rfl
theorem ev_notD (p:Prop) [Decidable p]:evU (.un .not) [.bool (decide p)]=.bool (decide ¬p):=by
 show U.bool (!decide p)=_
 simp
theorem ev_conv (k j:IntKind) (a:Int):evU (.conv k) [.int j a]=.int k (k.wrap a):=rfl
theorem ev_inb (j k:IntKind) (a n:Int):evU .inb [.int j a,.int k n]=.bool (decide (0≤a∧a < n)):=by
 show U.bool (decide (0≤a) && decide (a < n))=_
 simp
theorem ev_sel (j:IntKind) (i:Int) (cs:List U) (h0:0≤i):evU .sel (.int j i::cs)=cs.getD i.toNat .none:=by
 obtain ⟨n,rfl⟩:∃ n:Nat,i=n:=⟨i.toNat,by omega⟩
 rfl
theorem ev_max (k j:IntKind) (a b:Int):evU .max [.int k a,.int j b]=.int k (max a b):=by
 show U.int k (if b > a then b else a)=_
 congr 1; omega
theorem ev_min (k j:IntKind) (a b:Int):evU .min [.int k a,.int j b]=.int k (min a b):=by
 show U.int k (if b < a then b else a)=_
 congr 1; omega
theorem wrap64 {n:Int} (h : -9223372036854775808≤n) (h2:n≤9223372036854775807):IntKind.i64.wrap n=n:=by
 simp only [IntKind.wrap,IntKind.bits,IntKind.signed]; simp; omega
theorem wrap8 {n:Int} (h:0≤n) (h2:n≤255):IntKind.u8.wrap n=n:=by
 simp only [IntKind.wrap,IntKind.bits,IntKind.signed]; simp; omega
theorem wrap32 {n:Int} (h : -2147483648≤n) (h2:n≤2147483647):IntKind.i32.wrap n=n:=by
 simp only [IntKind.wrap,IntKind.bits,IntKind.signed]; simp; omega
theorem ev_addW {k:IntKind} {a b:Int} (hw:k.wrap (a+b)=a+b):evU (.bin .add) [.int k a,.int k b]=.int k (a+b):=by rw [ev_add,hw]
theorem ev_subW {k:IntKind} {a b:Int} (hw:k.wrap (a - b)=a - b):evU (.bin .sub) [.int k a,.int k b]=.int k (a - b):=by rw [ev_sub,hw]
theorem ev_mulW {k:IntKind} {a b:Int} (hw:k.wrap (a * b)=a * b):evU (.bin .mul) [.int k a,.int k b]=.int k (a * b):=by rw [ev_mul,hw]
theorem ev_convW {k j:IntKind} {a:Int} (hw:k.wrap a=a):evU (.conv k) [.int j a]=.int k a:=by rw [ev_conv,hw]
theorem ev_quoW {k:IntKind} {a b:Int} (h0:0≤a) (hb:0 < b) (hw:k.wrap (a / b)=a / b):evU (.bin .quo) [.int k a,.int k b]=.int k (a / b):=by
 rw [ev_quo _ _ _ (by omega),Int.tdiv_eq_ediv_of_nonneg h0,hw]
theorem ev_remW {k:IntKind} {a b:Int} (h0:0≤a) (hb:0 < b):evU (.bin .rem) [.int k a,.int k b]=.int k (a % b):=by
 rw [ev_rem _ _ _ (by omega),Int.tmod_eq_emod_of_nonneg h0]
theorem ev_shrL {k j:IntKind} {a b:Int} (c:Int) (hb:0≤b) (hc:(2:Int) ^ (min b.toNat k.bits)=c):evU (.bin .shr) [.int k a,.int j b]=.int k (a / c):=by
 rw [ev_shr _ _ _ _ hb,← hc,Int.fdiv_eq_ediv_of_nonneg _ (Int.le_of_lt (Int.pow_pos (by decide)))]
theorem ev_selI {k j:IntKind} {i:Int} (zs:List Int) (h0:0≤i) (h1:i < zs.length):evU .sel (.int j i::zs.map (U.int k))=.int k (zs.getD i.toNat 0):=by
 rw [ev_sel _ _ _ h0,List.getD_eq_getElem?_getD,List.getElem?_map,List.getD_eq_getElem?_getD]
 have:i.toNat < zs.length:=by omega
 simp [this]
theorem sat_lt {L:List U→Prop} {t:Nat} {op:LOp} {xs:List Value} {k:Tr} {E:List U} {u:U} (E':List U) (he:evU op (xs.map (argU (gE E)))=u) (ht:t < 10∧tagU u=t) (hE:E++[u]=E') (hk:k.sat L E'):(Tr.lt t op xs k).sat L E:=by
 subst he; subst hE; exact ⟨ht,hk⟩
theorem sat_br {L:List U→Prop} {i:Nat} {a b:Tr} {E:List U} {p:Prop} [Decidable p] (he:gE E i=.bool (decide p)) (ha:p→a.sat L E) (hb:¬p→b.sat L E):(Tr.br i a b).sat L E :=
 ⟨decide p,he,fun h=>ha (of_decide_eq_true h),fun h=>hb (of_decide_eq_false h)⟩
theorem sat_brB {L:List U→Prop} {i:Nat} {a b:Tr} {E:List U} {c:Bool} (he:gE E i=.bool c) (ha:c=true→a.sat L E) (hb:c=false→b.sat L E):(Tr.br i a b).sat L E:=⟨c,he,ha,hb⟩
theorem sat_ret {L:List U→Prop} {xs:List Value} {E:List U} (r:List U) (he:xs.map (argU (gE E))=r) (h:L r):(Tr.ret xs).sat L E:=by subst he; exact h
theorem sat_fn {L:List U→Prop} {spec:Spec} {xs:List Value} {n:Nat} {k:Tr} {E outs:List U} (E':List U) (he:spec (xs.map (argU (gE E)))=some (0,outs)) (hn:outs.length=n) (hE:E++outs=E') (hk:k.sat L E'):(Tr.fn spec xs n k).sat L E:=by
 subst hE; exact ⟨outs,he,hn,hk⟩
end Go.Sx
