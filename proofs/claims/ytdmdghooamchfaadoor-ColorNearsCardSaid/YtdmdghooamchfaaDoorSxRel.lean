/- How the machine's state stands to the program's: numbers of blocks are renamed, capacities that the tape draws are left open. -/
import Derived.Test.YtdmdghooamchfaaDoorSxRun
namespace Go.Sx
set_option linter.all false
open Go
set_option linter.unusedVariables false
set_option linter.unusedSimpArgs false

/-! ### tables -/
theorem sel_upd (d : Nat) (hd : d < 8) {α β : Type} (n : N8 α) (v : α) (k : N8 α → β) : (sel d).upd n v k = k ((sel d).upd n v fun n => n) := by
  match d, hd with
  | 0, _ | 1, _ | 2, _ | 3, _ | 4, _ | 5, _ | 6, _ | 7, _ => rfl
theorem sel_same (d : Nat) (hd : d < 8) {α : Type} (n : N8 α) (v : α) : (sel d).get ((sel d).upd n v fun n => n) = v := by
  match d, hd with
  | 0, _ | 1, _ | 2, _ | 3, _ | 4, _ | 5, _ | 6, _ | 7, _ => rfl
theorem sel_ne (d e : Nat) (hd : d < 8) (he : e < 8) (hne : e ≠ d) {α : Type} (n : N8 α) (v : α) : (sel e).get ((sel d).upd n v fun n => n) = (sel e).get n := by
  match d, hd with
  | 0, _ | 1, _ | 2, _ | 3, _ | 4, _ | 5, _ | 6, _ | 7, _ =>
    match e, he with
    | 0, _ | 1, _ | 2, _ | 3, _ | 4, _ | 5, _ | 6, _ | 7, _ => first | rfl | exact absurd rfl hne
theorem force8_eq {α β : Type} (n : N8 α) (k : N8 α → β) : force8 n k = k n := rfl
theorem m8 (n : Nat) : n % 8 < 8 := Nat.mod_lt _ (by decide)

theorem setS_eq {β : Type} (t : Nat) (v : Value) (fr : Fr) (k : Fr → β) : setS (sel (t / 64 % 8)) (sel (t / 8 % 8)) (sel (t % 8)) v fr k = k (fr.set t v) := by
  unfold Fr.set setS
  rw [sel_upd _ (m8 _)]
  conv => rhs; rw [sel_upd _ (m8 _)]
  rw [sel_upd _ (m8 _)]
  conv => rhs; rw [sel_upd _ (m8 _)]
  rw [sel_upd _ (m8 _)]
theorem sel_getupd (d e : Nat) (hd : d < 8) (he : e < 8) {α : Type} (n : N8 α) (v : α) : (sel e).get ((sel d).upd n v fun n => n) = if e = d then v else (sel e).get n := by
  by_cases h : e = d
  · subst h; rw [if_pos rfl, sel_same _ he]
  · rw [if_neg h, sel_ne _ _ hd he h]
theorem fr_get_set (fr : Fr) (t u : Nat) (v : Value) (ht : t < 512) (hu : u < 512) : (fr.set t v).get u = if u = t then v else fr.get u := by
  unfold Fr.set setS
  simp only [sel_upd _ (m8 _) _ _ (fun n2 => Sel.upd _ _ _ _), sel_upd _ (m8 _) _ _ (fun n1 => Sel.upd _ _ _ _)]
  unfold Fr.get
  rw [sel_getupd _ _ (m8 _) (m8 _)]
  by_cases h1 : u / 64 % 8 = t / 64 % 8
  · rw [if_pos h1, sel_getupd _ _ (m8 _) (m8 _)]
    by_cases h2 : u / 8 % 8 = t / 8 % 8
    · rw [if_pos h2, sel_getupd _ _ (m8 _) (m8 _)]
      by_cases h3 : u % 8 = t % 8
      · rw [if_pos h3, if_pos (by omega)]
      · rw [if_neg h3, if_neg (by intro h; subst h; exact h3 rfl), h1, h2]
    · rw [if_neg h2, if_neg (by intro h; subst h; exact h2 rfl), h1]
  · rw [if_neg h1, if_neg (by intro h; subst h; exact h1 rfl)]
theorem fr_get0 (t : Nat) : fr0.get t = undef := by
  unfold Fr.get fr0
  have h : ∀ (d : Nat) {α : Type} (v : α), d < 8 → (sel d).get (all8 v) = v := fun d α v hd => by
    match d, hd with
    | 0, _ | 1, _ | 2, _ | 3, _ | 4, _ | 5, _ | 6, _ | 7, _ => rfl
  rw [h _ _ (m8 _), h _ _ (m8 _), h _ _ (m8 _)]; rfl

theorem put_eq {α β : Type} (h : Hp α) (n : Nat) (v : Option α) (k : Hp α → β) : h.put n v k = k (h.set n v) := by
  unfold Hp.set Hp.put hset
  rw [sel_upd _ (m8 _), sel_upd _ (m8 _), sel_upd _ (m8 _), sel_upd _ (m8 _), sel_upd _ (m8 _), sel_upd _ (m8 _)]
  conv => rhs; rw [sel_upd _ (m8 _), sel_upd _ (m8 _), sel_upd _ (m8 _), sel_upd _ (m8 _), sel_upd _ (m8 _)]
theorem hp_get_set {α : Type} (h : Hp α) (n m : Nat) (v : Option α) (hn : n ≤ most) (hm : m ≤ most) : (h.set n v).get m = if m = n then v else h.get m := by
  unfold most at hn hm
  unfold Hp.set Hp.put hset
  rw [sel_upd _ (m8 _), sel_upd _ (m8 _), sel_upd _ (m8 _), sel_upd _ (m8 _), sel_upd _ (m8 _)]
  unfold Hp.get
  rw [sel_getupd _ _ (m8 _) (m8 _)]
  by_cases h1 : m / 32768 % 8 = n / 32768 % 8
  · rw [if_pos h1, sel_getupd _ _ (m8 _) (m8 _)]
    by_cases h2 : m / 4096 % 8 = n / 4096 % 8
    · rw [if_pos h2, sel_getupd _ _ (m8 _) (m8 _)]
      by_cases h3 : m / 512 % 8 = n / 512 % 8
      · rw [if_pos h3, sel_getupd _ _ (m8 _) (m8 _)]
        by_cases h4 : m / 64 % 8 = n / 64 % 8
        · rw [if_pos h4, sel_getupd _ _ (m8 _) (m8 _)]
          by_cases h5 : m / 8 % 8 = n / 8 % 8
          · rw [if_pos h5, sel_getupd _ _ (m8 _) (m8 _)]
            by_cases h6 : m % 8 = n % 8
            · rw [if_pos h6, if_pos (by omega)]
            · rw [if_neg h6, if_neg (by intro h; subst h; exact h6 rfl), h1, h2, h3, h4, h5]
          · rw [if_neg h5, if_neg (by intro h; subst h; exact h5 rfl), h1, h2, h3, h4]
        · rw [if_neg h4, if_neg (by intro h; subst h; exact h4 rfl), h1, h2, h3]
      · rw [if_neg h3, if_neg (by intro h; subst h; exact h3 rfl), h1, h2]
    · rw [if_neg h2, if_neg (by intro h; subst h; exact h2 rfl), h1]
  · rw [if_neg h1, if_neg (by intro h; subst h; exact h1 rfl)]
theorem hp_get0 {α : Type} (m : Nat) : (hp0 : Hp α).get m = none := by
  have h : ∀ (d : Nat) {α : Type} (v : α), d < 8 → (sel d).get (all8 v) = v := fun d α v hd => by
    match d, hd with
    | 0, _ | 1, _ | 2, _ | 3, _ | 4, _ | 5, _ | 6, _ | 7, _ => rfl
  unfold Hp.get hp0
  rw [h _ _ (m8 _), h _ _ (m8 _), h _ _ (m8 _), h _ _ (m8 _), h _ _ (m8 _), h _ _ (m8 _)]

theorem forceN_eq {β : Type} (n : Nat) (k : Nat → β) : forceN n k = k n := by cases n <;> rfl
theorem forceI_eq {β : Type} (i : Int) (k : Int → β) : forceI i k = k i := by cases i <;> simp [forceI, forceN_eq]
theorem forceL_eq {α β : Type} : ∀ (l : List α) (k : List α → β), forceL l k = k l
  | [], k => rfl
  | x :: r, k => by simp [forceL, forceL_eq r]
theorem mkI_eq (k : IntKind) (n : Int) : mkI k n = .int k n := by simp [mkI, forceI_eq]

/-! ### what holes stand for -/
def toV : U → Option Value
  | .int k n => some (.int k n)
  | .bool b => some (.bool b)
  | .str s => some (.string ⟨⟨s⟩⟩)
  | _ => none
def tagU : U → Nat
  | .int k _ => kTag k
  | .bool _ => 8
  | .str _ => 9
  | .seq _ _ => 10
  | .none => 99
/-- The integer that a scalar stands for. -/
def argI (E : Nat → U) : Value → Option Int
  | .complex .f64 i _ => match E i with
    | .int _ n => some n
    | _ => none
  | .int _ n => some n
  | _ => none
/-- What the holes stand for in this run; blocks that stay as they are. -/
class Ora where
  env : Nat → U
  G : Nat → Option Obj

/-! ### the relation -/
variable [Ora]
structure Loc where
  blk : Nat
  sh : Nat
  cap : Nat
abbrev Ren := Nat → Option Loc

/-- One cell. -/
def flatR : Value → Bool
  | .agg _ | .tuple _ => false
  | _ => true
theorem flatR_cells {v : Value} (h : flatR v = true) : v.cells = #[v] := by cases v <;> first | rfl | cases h
inductive VR (ρ : Ren) : Value → Value → Prop
  | pure {v} (h : pureV v = true) : VR ρ v v
  | hole {i t v'} (h : toV (Ora.env i) = some v') (ht : tagU (Ora.env i) = t) : VR ρ (.complex .f64 i t) v'
  | junk {i t v'} (h : i = 1 → flatR v' = true) : VR ρ (.complex .f32 i t) v'
  | ixp {a s n i l z v'} (h : ρ a.block = some l) (hs : a.spot = none) (hi : argI Ora.env i = some (.ofNat z)) (hz : z < n) (hv : v' = .pointer (some ⟨l.blk, a.off + z * s + l.sh, none⟩)) : VR ρ (Go.Sx.ixp a s i n) v'
  | ptr {b o l} (h : ρ b = some l) : VR ρ (.pointer (some ⟨b, o, none⟩)) (.pointer (some ⟨l.blk, o + l.sh, none⟩))
  | sl {b o l n m} (h : ρ b = some l) (hm : m < OPEN) : VR ρ (.slice (some ⟨b, o, none⟩) n m) (.slice (some ⟨l.blk, o + l.sh, none⟩) n m)
  | op {b o l n m m'} (h : ρ b = some l) (hm : OPEN ≤ m) (hn : n ≤ m') (hc : m = OPEN → o = 0 → m' = l.cap) : VR ρ (.slice (some ⟨b, o, none⟩) n m) (.slice (some ⟨l.blk, o + l.sh, none⟩) n m')
  | opE {a a' m'} (hs : a'.spot = none) : VR ρ (.slice (some a) 0 (OPEN + 2)) (.slice (some a') 0 m')
  | map {b l} (h : ρ b = some l) : VR ρ (.map (some b)) (.map (some l.blk))
  | func {f a b a' b'} (ha : a.length = a'.length) (hb : b.length = b'.length) (h1 : ∀ (i : Nat) (v v' : Value), a[i]? = some v → a'[i]? = some v' → VR ρ v v') (h2 : ∀ (i : Nat) (v v' : Value), b[i]? = some v → b'[i]? = some v' → VR ρ v v') :
      VR ρ (.func (.func f) ⟨a⟩ ⟨b⟩) (.func (.func f) ⟨a'⟩ ⟨b'⟩)
  | iface {t v v'} (h : VR ρ v v') : VR ρ (.iface t v) (.iface t v')
  | agg {a a'} (ha : a.length = a'.length) (h : ∀ (i : Nat) (v v' : Value), a[i]? = some v → a'[i]? = some v' → VR ρ v v') : VR ρ (.agg ⟨a⟩) (.agg ⟨a'⟩)
  | tuple {a a'} (ha : a.length = a'.length) (h : ∀ (i : Nat) (v v' : Value), a[i]? = some v → a'[i]? = some v' → VR ρ v v') : VR ρ (.tuple ⟨a⟩) (.tuple ⟨a'⟩)

/-- Two lists, value by value. -/
def LR (ρ : Ren) (a a' : List Value) : Prop := a.length = a'.length ∧ ∀ (i : Nat) (v v' : Value), a[i]? = some v → a'[i]? = some v' → VR ρ v v'

theorem VR.mono {ρ ρ' : Ren} (he : ∀ b l, ρ b = some l → ρ' b = some l) {v v' : Value} (h : VR ρ v v') : VR ρ' v v' := by
  induction h with
  | pure h => exact .pure h
  | hole h ht => exact .hole h ht
  | junk h => exact .junk h
  | ixp h hs hi hz hv => exact .ixp (he _ _ h) hs hi hz hv
  | ptr h => exact .ptr (he _ _ h)
  | sl h hm => exact .sl (he _ _ h) hm
  | op h hm hn hc => exact .op (he _ _ h) hm hn hc
  | opE hs => exact .opE hs
  | map h => exact .map (he _ _ h)
  | func ha hb h1 h2 ih1 ih2 => exact .func ha hb ih1 ih2
  | iface h ih => exact .iface ih
  | agg ha h ih => exact .agg ha ih
  | tuple ha h ih => exact .tuple ha ih

theorem LR.mono {ρ ρ' : Ren} (he : ∀ b l, ρ b = some l → ρ' b = some l) {a a' : List Value} (h : LR ρ a a') : LR ρ' a a' := ⟨h.1, fun i v v' h1 h2 => (h.2 i v v' h1 h2).mono he⟩
theorem LR.nil {ρ : Ren} : LR ρ [] [] := ⟨rfl, fun i v v' h => by simp at h⟩
theorem LR.cons {ρ : Ren} {v v' : Value} {a a' : List Value} (hv : VR ρ v v') (h : LR ρ a a') : LR ρ (v :: a) (v' :: a') := by
  refine ⟨by simp [h.1], fun i u u' h1 h2 => ?_⟩
  cases i with
  | zero => simp at h1 h2; subst h1; subst h2; exact hv
  | succ i => exact h.2 i u u' (by simpa using h1) (by simpa using h2)
theorem LR.append {ρ : Ren} {a a' b b' : List Value} (h : LR ρ a a') (k : LR ρ b b') : LR ρ (a ++ b) (a' ++ b') := by
  refine ⟨by simp [h.1, k.1], fun i u u' h1 h2 => ?_⟩
  rcases Nat.lt_or_ge i a.length with hl | hl
  · rw [List.getElem?_append_left hl] at h1
    rw [List.getElem?_append_left (h.1 ▸ hl)] at h2
    exact h.2 i u u' h1 h2
  · rw [List.getElem?_append_right hl] at h1
    rw [List.getElem?_append_right (h.1 ▸ hl), ← h.1] at h2
    exact k.2 _ u u' h1 h2
theorem LR.tail {ρ : Ren} {v : Value} {a a' : List Value} (h : LR ρ (v :: a) a') : ∃ v' r', a' = v' :: r' ∧ VR ρ v v' ∧ LR ρ a r' := by
  obtain ⟨h1, h2⟩ := h
  cases a' with
  | nil => simp at h1
  | cons v' r' => exact ⟨v', r', rfl, h2 0 v v' rfl rfl, by simpa using h1, fun i u u' g1 g2 => h2 (i + 1) u u' (by simpa using g1) (by simpa using g2)⟩
theorem LR.nil_inv {ρ : Ren} {a' : List Value} (h : LR ρ [] a') : a' = [] := List.length_eq_zero_iff.1 h.1.symm
theorem LR.get {ρ : Ren} {a a' : List Value} (h : LR ρ a a') {i : Nat} {v : Value} (hi : a[i]? = some v) : ∃ v', a'[i]? = some v' ∧ VR ρ v v' := by
  have hl := (List.getElem?_eq_some_iff.1 hi).1
  have hl' : i < a'.length := h.1 ▸ hl
  exact ⟨a'[i], List.getElem?_eq_getElem hl', h.2 i v _ hi (List.getElem?_eq_getElem hl')⟩
theorem LR.drop {ρ : Ren} {a a' : List Value} (h : LR ρ a a') (n : Nat) : LR ρ (a.drop n) (a'.drop n) := ⟨by simp [h.1], fun i u u' h1 h2 => by
  rw [List.getElem?_drop] at h1 h2; exact h.2 _ u u' h1 h2⟩
theorem LR.take {ρ : Ren} {a a' : List Value} (h : LR ρ a a') (n : Nat) : LR ρ (a.take n) (a'.take n) := ⟨by simp [h.1], fun i u u' h1 h2 => by
  have hi : i < n := by
    have := (List.getElem?_eq_some_iff.1 h1).1
    simp at this; omega
  rw [List.getElem?_take_of_lt hi] at h1 h2; exact h.2 _ u u' h1 h2⟩
theorem LR.set {ρ : Ren} {a a' : List Value} (h : LR ρ a a') {v v' : Value} (hv : VR ρ v v') (n : Nat) : LR ρ (a.set n v) (a'.set n v') := ⟨by simp [h.1], fun i u u' h1 h2 => by
  by_cases e : n = i
  · subst e
    have hl := (List.getElem?_eq_some_iff.1 h1).1
    simp at hl
    rw [List.getElem?_set_self hl] at h1
    rw [List.getElem?_set_self (h.1 ▸ hl)] at h2
    cases h1; cases h2; exact hv
  · rw [List.getElem?_set_ne e] at h1 h2; exact h.2 _ u u' h1 h2⟩
theorem LR.all_pure {ρ : Ren} : ∀ {a : List Value}, a.all pureV = true → LR ρ a a
  | [], _ => .nil
  | v :: r, h => by simp only [List.all_cons, Bool.and_eq_true] at h; exact .cons (.pure h.1) (LR.all_pure h.2)
theorem VR.ofC {ρ : Ren} {v : Value} (h : pureC v = true) : VR ρ v v := by
  cases v with
  | agg cs =>
    obtain ⟨l⟩ := cs
    have : LR ρ l l := LR.all_pure h
    exact .agg this.1 this.2
  | _ => exact .pure h
/-- Values that look alike outside. -/
theorem toV_pure {u : U} {v : Value} (h : toV u = some v) : pureV v = true := by
  cases u <;> cases h <;> rfl
theorem pure_cells {v : Value} (h : pureV v = true) : v.cells = #[v] := by cases v <;> first | rfl | cases h
theorem VR.cells {ρ : Ren} {v v' : Value} (h : VR ρ v v') (hj : isWide v = false) : LR ρ v.cells.toList v'.cells.toList := by
  have one : ∀ {v v' : Value}, VR ρ v v' → LR ρ [v] [v'] := fun h => .cons h .nil
  cases h with
  | agg ha h => exact ⟨ha, h⟩
  | junk h =>
    have h1 := Nat.eq_of_beq_eq_true (by simpa [isWide] using hj)
    rw [flatR_cells (h h1)]; exact one (.junk h)
  | hole h ht => rw [pure_cells (toV_pure h)]; exact one (.hole h ht)
  | ixp h hs hi hz hv => subst hv; exact one (.ixp h hs hi hz rfl)
  | pure hp =>
    cases v with
    | agg cs => simp [pureV] at hp
    | _ => exact one (.pure hp)
  | ptr h => exact one (.ptr h)
  | sl h hm => exact one (.sl h hm)
  | op h hm hn hc => exact one (.op h hm hn hc)
  | opE hs => exact one (.opE hs)
  | map h => exact one (.map h)
  | func ha hb h1 h2 => exact one (.func ha hb h1 h2)
  | iface h => exact one (.iface h)
  | tuple ha h => exact one (.tuple ha h)

/-! ### memory -/
def AB.rw : AB → Bool
  | .cells _ _ ro => !ro
  | _ => true

def ER (ρ : Ren) (e e' : MapEntry) : Prop := e'.key = e.key ∧ pureC e.key = true ∧ e'.born = e.born ∧ VR ρ e.val e'.val

def BR (P : Program) (ρ : Ren) (ab : AB) (l : Loc) (w : World) : Prop :=
  match ab with
  | .cells cs T ro => ∃ C fz T', w.heap[l.blk]? = some (.cells C T' fz) ∧ (∀ i v, cs[i]? = some v → ∃ v', C[l.sh + i]? = some v' ∧ VR ρ v v') ∧
      (ro = false → T' = T ∧ (∀ i, i < C.size → ¬ (fz.1 ≤ i ∧ i < fz.2)) ∧ ∀ inf, P.info? T = some inf → l.sh + l.cap * inf.size ≤ C.size)
  | .map es clock => l.sh = 0 ∧ ∃ es' : Array MapEntry, w.heap[l.blk]? = some (.map es' clock) ∧ es.length = es'.size ∧ ∀ (i : Nat) (e e' : MapEntry), es[i]? = some e → es'[i]? = some e' → ER ρ e e'
  | .iter s pos => l.sh = 0 ∧ w.heap[l.blk]? = some (.stringIter s pos)

theorem BR.mono {P : Program} {ρ ρ' : Ren} (he : ∀ b l, ρ b = some l → ρ' b = some l) {ab : AB} {l : Loc} {w w' : World} (hw : w'.heap[l.blk]? = w.heap[l.blk]?) (h : BR P ρ ab l w) : BR P ρ' ab l w' := by
  cases ab with
  | cells cs T ro =>
    obtain ⟨C, fz, T', h1, h2, h3⟩ := h
    exact ⟨C, fz, T', hw.trans h1, fun i v hi => let ⟨v', a, b⟩ := h2 i v hi; ⟨v', a, b.mono he⟩, h3⟩
  | map es clock =>
    obtain ⟨h0, es', h1, h2, h3⟩ := h
    exact ⟨h0, es', hw.trans h1, h2, fun i e e' g1 g2 => let ⟨a, b, c, d⟩ := h3 i e e' g1 g2; ⟨a, b, c, d.mono he⟩⟩
  | iter s pos => exact ⟨h.1, hw.trans h.2⟩

structure HR (P : Program) (base : Nat) (ρ : Ren) (H : Hp AB) (w : World) : Prop where
  dom : ∀ b l, ρ b = some l → b ≤ most ∧ l.blk < w.heap.size
  at_ : ∀ id, id ≤ most → ∀ ab, Hp.get H id = some ab → ∃ l, ρ id = some l ∧ BR P ρ ab l w ∧ (ab.rw = true → base ≤ l.blk ∧ ∀ id2, id2 ≤ most → ∀ ab2 l2, Hp.get H id2 = some ab2 → ρ id2 = some l2 → l2.blk = l.blk → id2 = id)

theorem HR.sub {P : Program} {base : Nat} {ρ : Ren} {H H' : Hp AB} {w : World} (h : HR P base ρ H w) (hs : ∀ id, id ≤ most → ∀ ab, Hp.get H' id = some ab → Hp.get H id = some ab) : HR P base ρ H' w :=
  ⟨h.dom, fun id hid ab hab => let ⟨l, a, b, c⟩ := h.at_ id hid ab (hs id hid ab hab); ⟨l, a, b, fun hr => ⟨(c hr).1, fun id2 hid2 ab2 l2 g => (c hr).2 id2 hid2 ab2 l2 (hs id2 hid2 ab2 g)⟩⟩⟩

/-- One step of the memory, from (ρ, m, w) to (ρ', m', w'). -/
structure St (P : Program) (base : Nat) (ρ ρ' : Ren) (m m' : Mem) (w w' : World) : Prop where
  ext : ∀ b l, ρ b = some l → ρ' b = some l
  new : ∀ b l, ρ' b = some l → ρ b = none → m.n ≤ b ∧ b < m'.n
  nle : m.n ≤ m'.n
  hle : m.hi ≤ m'.hi
  nhi : m.n ≤ m.hi → m'.n ≤ m'.hi
  hr : HR P base ρ' m'.H w'
  wsub : ∀ b ∈ m.W, b ∈ m'.W
  wrw : ∀ b ∈ m'.W, b ∉ m.W → ∀ l, ρ b = some l → ∃ ab, Hp.get m.H b = some ab ∧ ab.rw = true
  keep : ∀ k, k < w.heap.size → (∀ b ∈ m'.W, ∀ l, ρ b = some l → l.blk ≠ k) → w'.heap[k]? = w.heap[k]?
  size : w.heap.size ≤ w'.heap.size
  os : w'.os = w.os ∧ w'.tape = w.tape ∧ w'.output = w.output
  blk : ∀ b l, ρ' b = some l → ρ b = none → w.heap.size ≤ l.blk ∨ ∃ b0 ∈ m'.W, ∃ l0, ρ b0 = some l0 ∧ l0.blk = l.blk
  same : ∀ id, id ≤ most → id ∉ m'.W → (id < m.n ∨ m'.hi ≤ id) → Hp.get m'.H id = Hp.get m.H id

/-- The numbers from n to hi are free. -/
def Free (ρ : Ren) (n hi : Nat) : Prop := ∀ b, n ≤ b → b < hi → ρ b = none

theorem St.refl {P : Program} {base : Nat} {ρ : Ren} {m : Mem} {w : World} (h : HR P base ρ m.H w) : St P base ρ ρ m m w w :=
  ⟨fun _ _ h => h, fun b l h1 h2 => (by rw [h1] at h2; cases h2), Nat.le_refl _, Nat.le_refl _, fun h => h, h, fun _ h => h, fun b h1 h2 => absurd h1 h2, fun _ _ _ => rfl, Nat.le_refl _, ⟨rfl, rfl, rfl⟩, fun b l h1 h2 => (by rw [h1] at h2; cases h2), fun _ _ _ _ => rfl⟩

theorem St.trans {P : Program} {base : Nat} {ρ ρ1 ρ2 : Ren} {m m1 m2 : Mem} {w w1 w2 : World} (hf : Free ρ m.n m2.hi) (a : St P base ρ ρ1 m m1 w w1) (c : St P base ρ1 ρ2 m1 m2 w1 w2) : St P base ρ ρ2 m m2 w w2 := by
  refine ⟨fun b l h => c.ext b l (a.ext b l h), fun b l h1 h2 => ?_, Nat.le_trans a.nle c.nle, Nat.le_trans a.hle c.hle, fun h => c.nhi (a.nhi h), c.hr, fun b h => c.wsub b (a.wsub b h), fun b h1 h2 l hl => ?_, fun k hk hb => ?_, Nat.le_trans a.size c.size, ⟨c.os.1.trans a.os.1, c.os.2.1.trans a.os.2.1, c.os.2.2.trans a.os.2.2⟩, fun b l h1 h2 => ?_, fun id hid h1 h2 => ?_⟩
  · cases h : ρ1 b with
    | some l1 => exact ⟨(a.new b l1 h h2).1, Nat.lt_of_lt_of_le (a.new b l1 h h2).2 c.nle⟩
    | none => exact ⟨Nat.le_trans a.nle (c.new b l h1 h).1, (c.new b l h1 h).2⟩
  · by_cases h : b ∈ m1.W
    · exact a.wrw b h h2 l hl
    · obtain ⟨ab, h3, h4⟩ := c.wrw b h1 h l (a.ext b l hl)
      refine ⟨ab, ?_, h4⟩
      rw [← a.same b (a.hr.dom b l (a.ext b l hl)).1 h ?_]
      · exact h3
      · rcases Nat.lt_or_ge b m.n with hlt | hge
        · exact .inl hlt
        · refine .inr ?_
          rcases Nat.lt_or_ge b m2.hi with h5 | h5
          · rw [hf b hge h5] at hl; cases hl
          · exact Nat.le_trans c.hle h5
  · have h1 : w1.heap[k]? = w.heap[k]? := a.keep k hk fun b hbm l hl => hb b (c.wsub b hbm) l hl
    rw [← h1]
    refine c.keep k (Nat.lt_of_lt_of_le hk a.size) fun b hbm l hl => ?_
    cases h : ρ b with
    | some l0 =>
      have := a.ext b l0 h
      rw [this] at hl
      have hl := Option.some.inj hl
      exact hl ▸ hb b hbm l0 h
    | none =>
      rcases a.blk b l hl h with h5 | ⟨b0, h5, l0, h6, h7⟩
      · omega
      · rw [← h7]; exact hb b0 (c.wsub b0 h5) l0 h6
  · cases h : ρ1 b with
    | some l1 =>
      have := c.ext b l1 h
      rw [this] at h1
      have h1 := Option.some.inj h1
      subst h1
      rcases a.blk b l1 h h2 with h5 | ⟨b0, h5, l0, h6, h7⟩
      · exact .inl h5
      · exact .inr ⟨b0, c.wsub b0 h5, l0, h6, h7⟩
    | none =>
      rcases c.blk b l h1 h with h5 | ⟨b0, h5, l0, h6, h7⟩
      · exact .inl (Nat.le_trans a.size h5)
      · cases h8 : ρ b0 with
        | some l1 =>
          have := a.ext b0 l1 h8
          rw [this] at h6
          have h6 := Option.some.inj h6
          exact .inr ⟨b0, h5, l1, h8, h6 ▸ h7⟩
        | none =>
          rcases a.blk b0 l0 h6 h8 with h9 | ⟨b1, h9, l1, h10, h11⟩
          · exact .inl (h7 ▸ h9)
          · exact .inr ⟨b1, c.wsub b1 h9, l1, h10, h11.trans h7⟩
  · have h3 : id ∉ m1.W := fun h => h1 (c.wsub id h)
    rw [c.same id hid h1 (h2.imp (fun h => Nat.lt_of_lt_of_le h a.nle) fun h => h), a.same id hid h3 (h2.imp (fun h => h) fun h => Nat.le_trans c.hle h)]

end Go.Sx
