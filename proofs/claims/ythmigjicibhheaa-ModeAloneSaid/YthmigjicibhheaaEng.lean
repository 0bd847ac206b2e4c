/- A small engine for walks: the state of a walk is kept in the goal: the slots that are known (E), the blocks that the call owns (L), and facts that stay true (F). -/
import Derived.WalkKit
import Derived.OrdersHeld
import Derived.KernelRfl
namespace Go.Eng
open Go Go.RowKit

/-! ### the frame -/
def look : List (Nat × Value) → Nat → Option Value
  | [], _ => none
  | (k, v) :: r, i => bif Nat.beq k i then some v else look r i

structure En (n : Nat) (E : List (Nat × Value)) (a : Act) : Prop where
  defers : a.defers = []
  size : a.tmps.size = n
  get : ∀ i v, look E i = some v → a.tmps[i]? = some v

def ev (E : List (Nat × Value)) : Operand → Option Value
  | .tmp t => look E t
  | .const v => some v
  | .global g => some (.pointer (some ⟨g, 0, none⟩))
  | .func f => some (.func (.func f) #[] #[])

def evs (E : List (Nat × Value)) : List Operand → Option (List Value)
  | [] => some []
  | x :: r => match ev E x, evs E r with
    | some v, some vs => some (v :: vs)
    | _, _ => none

theorem En.eval {n E a x v} (h : En n E a) (hx : ev E x = some v) : a.eval x = v := by
  cases x with
  | tmp t =>
    have := h.get t v hx
    simp [Act.eval, Array.getD_eq_getD_getElem?, this]
  | const u => simpa [ev, Act.eval] using hx
  | global g => simpa [ev, Act.eval] using hx
  | func f => simpa [ev, Act.eval] using hx

theorem En.evals {n E a} (h : En n E a) : ∀ {xs vs}, evs E xs = some vs → xs.map a.eval = vs
  | [], vs, hx => by simpa [evs] using hx
  | x :: r, vs, hx => by
    unfold evs at hx
    cases h1 : ev E x with
    | none => simp [h1] at hx
    | some v =>
      cases h2 : evs E r with
      | none => simp [h1, h2] at hx
      | some us =>
        simp only [h1, h2, Option.some.injEq] at hx
        subst hx
        simp [h.eval h1, h.evals h2]

theorem En.put {n E a d v} (h : En n E a) (hd : Nat.blt d n = true) : En n ((d, v) :: E) (a.put (some d) v) := by
  have hd' : d < n := by simpa [Nat.blt, Nat.ble_eq, Nat.succ_le_iff] using hd
  refine ⟨h.defers, by simp [Act.put, h.size], fun i u hi => ?_⟩
  simp only [Act.put, Array.getElem?_setIfInBounds]
  by_cases e : d = i
  · subst e
    have : some v = some u := by simpa [look] using hi
    rw [if_pos rfl, if_pos (by rw [h.size]; exact hd')]
    exact this
  · rw [if_neg e]
    refine h.get i u ?_
    have e' : Nat.beq d i = false := by
      cases hb : Nat.beq d i with
      | false => rfl
      | true => exact absurd (Nat.eq_of_beq_eq_true hb) e
    simpa [look, e'] using hi

theorem En.put_none {n E a v} (h : En n E a) : En n E (a.put none v) := h

/-- Each row of E' is a row of E. -/
def SubE (E : List (Nat × Value)) : List (Nat × Value) → Prop
  | [] => True
  | (i, v) :: r => look E i = some v ∧ SubE E r

theorem SubE.look {E : List (Nat × Value)} : ∀ {E'}, SubE E E' → ∀ i v, look E' i = some v → look E i = some v
  | [], _, i, v, h => by simp [Eng.look] at h
  | (k, u) :: r, hs, i, v, h => by
    obtain ⟨h1, h2⟩ := hs
    unfold Eng.look at h
    cases hb : Nat.beq k i with
    | true =>
      have e := Nat.eq_of_beq_eq_true hb
      subst e
      simp at h
      rw [h1, h]
    | false =>
      simp [hb] at h
      exact SubE.look h2 i v h

theorem En.sub {n E E' a} (h : En n E a) (hs : SubE E E') : En n E' a := ⟨h.defers, h.size, fun i v hi => h.get i v (hs.look i v hi)⟩

def argE : Nat → List Value → List (Nat × Value)
  | _, [] => []
  | k, v :: r => (k, v) :: argE (k + 1) r

theorem look_argE : ∀ (vs : List Value) (k i : Nat) (v : Value), look (argE k vs) i = some v → k ≤ i ∧ vs[i - k]? = some v
  | [], k, i, v, h => by simp [argE, look] at h
  | u :: r, k, i, v, h => by
    unfold argE look at h
    cases hb : Nat.beq k i with
    | true =>
      have e := Nat.eq_of_beq_eq_true hb
      subst e
      simp at h
      simp [h]
    | false =>
      simp [hb] at h
      obtain ⟨h1, h2⟩ := look_argE r (k + 1) i v h
      refine ⟨by omega, ?_⟩
      rw [show i - k = (i - (k + 1)) + 1 by omega]
      simpa using h2

theorem En.enter {n : Nat} {vs : List Value} (hn : Nat.ble vs.length n = true) : En n (argE 0 vs) { tmps := vs.toArray ++ Array.replicate (n - vs.toArray.size) undef, defers := [] } := by
  have hn' : vs.length ≤ n := by simpa using hn
  refine ⟨rfl, by simp; omega, fun i v h => ?_⟩
  obtain ⟨_, h2⟩ := look_argE vs 0 i v h
  have h3 : vs[i]? = some v := by simpa using h2
  obtain ⟨hi, _⟩ := List.getElem?_eq_some_iff.1 h3
  rw [Array.getElem?_append_left (by simpa using hi)]
  simpa using h3

/-! ### the world -/
/-- From w to w' nothing that was there has turned, but for the blocks of D. -/
structure Keep (D : List Nat) (w w' : World) : Prop where
  os : w'.os = w.os
  tape : w'.tape = w.tape
  output : w'.output = w.output
  size : w.heap.size ≤ w'.heap.size
  block : ∀ k, k < w.heap.size → k ∉ D → w'.heap[k]? = w.heap[k]?

theorem Keep.refl (D w) : Keep D w w := ⟨rfl, rfl, rfl, Nat.le_refl _, fun _ _ _ => rfl⟩
theorem Keep.trans {D a b c} (h : Keep D a b) (k : Keep D b c) : Keep D a c :=
  ⟨k.os.trans h.os, k.tape.trans h.tape, k.output.trans h.output, Nat.le_trans h.size k.size,
    fun i hi hd => (k.block i (Nat.lt_of_lt_of_le hi h.size) hd).trans (h.block i hi hd)⟩
theorem Keep.mono {D D' w w'} (h : Keep D w w') (hs : ∀ k ∈ D, k ∈ D') : Keep D' w w' :=
  ⟨h.os, h.tape, h.output, h.size, fun k hk hd => h.block k hk fun hm => hd (hs k hm)⟩
theorem Keep.below {w w'} (h : Keep [] w w') : Below w.heap.size w w' :=
  ⟨h.os, h.tape, h.output, h.size, fun k hk => h.block k hk (by simp)⟩
theorem Keep.of_below {w w'} (h : Below w.heap.size w w') : Keep [] w w' :=
  ⟨h.os, h.tape, h.output, h.size, fun k hk _ => h.block k hk⟩
theorem Keep.drew (D) (w : World) : Keep D w { w with drawn := w.drawn + 1 } := ⟨rfl, rfl, rfl, Nat.le_refl _, fun _ _ _ => rfl⟩
theorem Keep.alloc (D) (w : World) (o : Obj) : Keep D w { w with heap := w.heap.push o } :=
  ⟨rfl, rfl, rfl, by simp, fun k hk _ => by simp only [Array.getElem?_push]; rw [if_neg (by omega)]⟩

/-- F holds in w, and in whatever world comes of w while nothing turns but the blocks of D. -/
def Fut (D : List Nat) (w : World) (F : World → Prop) : Prop := ∀ w', Keep D w w' → F w'

theorem Fut.now {D w F} (h : Fut D w F) : F w := h w (Keep.refl D w)
theorem Fut.step {D D' w w' F} (h : Fut D w F) (k : Keep D' w w') (hs : ∀ x ∈ D', x ∈ D) : Fut D w' F := fun _ k' => h _ ((k.mono hs).trans k')
theorem Fut.mono {D w F F'} (h : Fut D w F) (hf : ∀ w, F w → F' w) : Fut D w F' := fun _ k => hf _ (h _ k)
theorem Fut.less {D D' w F} (h : Fut D w F) (hs : ∀ k ∈ D', k ∈ D) : Fut D' w F := fun _ k => h _ (k.mono hs)
theorem Fut.and {D w F F'} (h : Fut D w F) (h' : Fut D w F') : Fut D w (fun w => F w ∧ F' w) := fun _ k => ⟨h _ k, h' _ k⟩
theorem Fut.triv {D w} : Fut D w (fun _ => True) := fun _ _ => trivial
/-- A block that is not in D. -/
theorem Fut.block {D w b o} (h : w.heap[b]? = some o) (hb : b ∉ D) : Fut D w (fun w => w.heap[b]? = some o) := fun w' k => by
  have hlt : b < w.heap.size := by
    rcases Nat.lt_or_ge b w.heap.size with h' | h'
    · exact h'
    · rw [Array.getElem?_eq_none h'] at h; cases h
  show w'.heap[b]? = some o
  rw [k.block b hlt hb, h]

abbrev Own := List (Option Nat × Obj)
def keys (L : Own) : List Nat := L.filterMap (·.1)

structure St (Dc D : List Nat) (w0 : World) (L : Own) (F : World → Prop) (w : World) : Prop where
  keep : Keep D w0 w
  sub : ∀ k ∈ D, k ∈ Dc
  dc : ∀ k ∈ Dc, k < w0.heap.size
  own : ∀ x ∈ L, ∀ b, x.1 = some b → (b ∈ D ∨ w0.heap.size ≤ b) ∧ w.heap[b]? = some x.2
  nodup : (keys L).Nodup
  fut : Fut (Dc ++ keys L) w F

section
variable {Dc D : List Nat} {w0 : World} {L : Own} {F : World → Prop} {w : World}

theorem keys_cons (x : Option Nat × Obj) (L : Own) : keys (x :: L) = (match x.1 with | some b => b :: keys L | none => keys L) := by
  unfold keys
  cases h : x.1 <;> simp [h]

theorem mem_keys {b : Nat} : b ∈ keys L ↔ ∃ x ∈ L, x.1 = some b := by simp [keys]

theorem lt_of_get {w : World} {b : Nat} {o : Obj} (h : w.heap[b]? = some o) : b < w.heap.size := by
  rcases Nat.lt_or_ge b w.heap.size with h' | h'
  · exact h'
  · rw [Array.getElem?_eq_none h'] at h; cases h

theorem St.key_lt (h : St Dc D w0 L F w) {b : Nat} (hb : b ∈ keys L) : b < w.heap.size := by
  obtain ⟨x, hx, he⟩ := mem_keys.1 hb
  exact lt_of_get (h.own x hx b he).2

theorem St.dc_lt (h : St Dc D w0 L F w) : ∀ k ∈ Dc ++ keys L, k < w.heap.size := fun k hk => by
  rcases List.mem_append.1 hk with hk | hk
  · exact Nat.lt_of_lt_of_le (h.dc k hk) h.keep.size
  · exact h.key_lt hk

/-- Two worlds with the same heap. -/
theorem St.heap {w' : World} (h : St Dc D w0 L F w) (ho : w'.os = w.os) (ht : w'.tape = w.tape) (hu : w'.output = w.output) (hh : w'.heap = w.heap) : St Dc D w0 L F w' := by
  have k : Keep [] w w' := ⟨ho, ht, hu, by rw [hh]; exact Nat.le_refl _, fun _ _ _ => by rw [hh]⟩
  exact ⟨h.keep.trans (k.mono (by simp)), h.sub, h.dc, fun x hx b hb => by rw [hh]; exact h.own x hx b hb, h.nodup, h.fut.step k (by simp)⟩

theorem St.drew (h : St Dc D w0 L F w) : St Dc D w0 L F { w with drawn := w.drawn + 1 } := h.heap rfl rfl rfl rfl

theorem St.mono (h : St Dc D w0 L F w) {F' : World → Prop} (hf : ∀ w, F w → F' w) : St Dc D w0 L F' w :=
  ⟨h.keep, h.sub, h.dc, h.own, h.nodup, h.fut.mono hf⟩

theorem keys_sublist {L L' : Own} (h : L'.Sublist L) : (keys L').Sublist (keys L) := h.filterMap _

theorem St.less (h : St Dc D w0 L F w) {L' : Own} (hs : L'.Sublist L) : St Dc D w0 L' F w := by
  have hk := keys_sublist hs
  refine ⟨h.keep, h.sub, h.dc, fun x hx => h.own x (hs.subset hx), hk.nodup h.nodup, h.fut.less fun k hk' => ?_⟩
  rcases List.mem_append.1 hk' with m | m
  · exact List.mem_append.2 (.inl m)
  · exact List.mem_append.2 (.inr (hk.subset m))

/-- A new block. -/
theorem St.alloc (h : St Dc D w0 L F w) (o : Obj) : St Dc D w0 ((some w.heap.size, o) :: L) F { w with heap := w.heap.push o } := by
  have kp := Keep.alloc [] w o
  refine ⟨h.keep.trans (kp.mono (by simp)), h.sub, h.dc, ?_, ?_, ?_⟩
  · intro x hx b hb
    rcases List.mem_cons.1 hx with rfl | hx
    · cases hb
      exact ⟨.inr h.keep.size, by simp⟩
    · obtain ⟨h1, h2⟩ := h.own x hx b hb
      have hlt := lt_of_get h2
      exact ⟨h1, by simp only [Array.getElem?_push]; rw [if_neg (by omega)]; exact h2⟩
  · rw [keys_cons]
    refine List.nodup_cons.2 ⟨fun hm => ?_, h.nodup⟩
    have := h.key_lt hm
    omega
  · intro w' k
    have k2 : Keep (Dc ++ keys L) w w' := by
      refine ⟨k.os, k.tape, k.output, Nat.le_trans kp.size k.size, fun i hi hd => ?_⟩
      rw [k.block i (Nat.lt_of_lt_of_le hi kp.size) ?_]
      · exact kp.block i hi (by simp)
      · rw [keys_cons]
        intro hm
        rcases List.mem_append.1 hm with m | m
        · exact hd (List.mem_append.2 (.inl m))
        · rcases List.mem_cons.1 m with rfl | m
          · omega
          · exact hd (List.mem_append.2 (.inr m))
    exact h.fut w' k2

theorem key_at {L : Own} (hn : (keys L).Nodup) : ∀ {i j : Nat} {b : Nat} {o o2 : Obj}, L[i]? = some (some b, o) → L[j]? = some (some b, o2) → i = j := by
  induction L with
  | nil => intro i j b o o2 hi; simp at hi
  | cons x r ih =>
    intro i j b o o2 hi hj
    rw [keys_cons] at hn
    have hr : (keys r).Nodup := by
      cases hx : x.1 with
      | none => simpa [hx] using hn
      | some c => simp [hx] at hn; exact hn.2
    cases i with
    | zero =>
      cases j with
      | zero => rfl
      | succ j =>
        simp at hi hj
        subst hi
        simp at hn
        exact absurd (mem_keys.2 ⟨_, List.mem_of_getElem? hj, rfl⟩) hn.1
    | succ i =>
      cases j with
      | zero =>
        simp at hi hj
        subst hj
        simp at hn
        exact absurd (mem_keys.2 ⟨_, List.mem_of_getElem? hi, rfl⟩) hn.1
      | succ j =>
        simp at hi hj
        rw [ih hr hi hj]

theorem keys_set {b : Nat} {o o' : Obj} : ∀ {L : Own} {i : Nat}, L[i]? = some (some b, o) → keys (L.set i (some b, o')) = keys L
  | [], i, h => by simp at h
  | x :: r, 0, h => by
    simp at h
    subst h
    simp [keys]
  | x :: r, i + 1, h => by
    simp at h
    rw [List.set_cons_succ, keys_cons, keys_cons, keys_set h]

/-- An owned block is written. -/
theorem St.write (h : St Dc D w0 L F w) {i b : Nat} {o o' : Obj} (hi : L[i]? = some (some b, o)) {w' : World} (hw : w'.os = w.os ∧ w'.tape = w.tape ∧ w'.output = w.output ∧ w'.heap.size = w.heap.size)
    (hb : w'.heap[b]? = some o') (hk : ∀ k, k ≠ b → w'.heap[k]? = w.heap[k]?) : St Dc D w0 (L.set i (some b, o')) F w' := by
  obtain ⟨hos, htape, hout, hsz⟩ := hw
  have hm : (some b, o) ∈ L := List.mem_of_getElem? hi
  have hown := h.own _ hm b rfl
  have hkeys := keys_set (o' := o') hi
  have kp : Keep (keys L) w w' := ⟨hos, htape, hout, by omega, fun k _ hd => hk k fun e => hd (e ▸ mem_keys.2 ⟨_, hm, rfl⟩)⟩
  refine ⟨?_, h.sub, h.dc, ?_, by rw [hkeys]; exact h.nodup, by rw [hkeys]; exact h.fut.step kp fun x hx => List.mem_append.2 (.inr hx)⟩
  · refine ⟨hos.trans h.keep.os, htape.trans h.keep.tape, hout.trans h.keep.output, by have := h.keep.size; omega, fun k hk' hd => ?_⟩
    by_cases e : k = b
    · subst e
      rcases hown.1 with hd' | hge
      · exact absurd hd' hd
      · omega
    · rw [hk k e]
      exact h.keep.block k hk' hd
  · intro x hx c hc
    obtain ⟨j, hj⟩ := List.getElem?_of_mem hx
    by_cases e : i = j
    · subst e
      have hlt : i < L.length := (List.getElem?_eq_some_iff.1 hi).1
      rw [List.getElem?_set_self hlt] at hj
      cases hj
      cases hc
      exact ⟨hown.1, hb⟩
    · rw [List.getElem?_set_ne e] at hj
      obtain ⟨h1, h2⟩ := h.own x (List.mem_of_getElem? hj) c hc
      refine ⟨h1, ?_⟩
      rw [hk c fun ec => ?_]
      · exact h2
      · subst ec
        obtain ⟨x1, x2⟩ := x
        simp at hc
        subst hc
        exact e (key_at h.nodup hi hj)

/-- Behind a call that keeps all. -/
theorem St.after (h : St Dc D w0 L F w) {w' : World} (k : Keep [] w w') : St Dc D w0 L F w' := by
  refine ⟨h.keep.trans (k.mono (by simp)), h.sub, h.dc, fun x hx b hb => ?_, h.nodup, h.fut.step k (by simp)⟩
  obtain ⟨h1, h2⟩ := h.own x hx b hb
  exact ⟨h1, by rw [k.block b (lt_of_get h2) (by simp)]; exact h2⟩
theorem St.and (h : St Dc D w0 L F w) {R : World → Prop} (hr : Fut (Dc ++ keys L) w R) : St Dc D w0 L (fun w => F w ∧ R w) w :=
  ⟨h.keep, h.sub, h.dc, h.own, h.nodup, h.fut.and hr⟩
end

/-! ### one operation -/
structure Cx where
  n : Nat
  Dc : List Nat
  D : List Nat
  w0 : World

/-- The state of a walk. -/
def Is (c : Cx) (E : List (Nat × Value)) (L : Own) (F : World → Prop) (a : Act) (w : World) : Prop := En c.n E a ∧ St c.Dc c.D c.w0 L F w

/-- The operation yields v and leaves the world alone. -/
def Yld (P : Program) (c : Cx) (E : List (Nat × Value)) (L : Own) (F : World → Prop) (o : Oper) (v : Value) : Prop :=
  ∀ a w, En c.n E a → St c.Dc c.D c.w0 L F w → (execOp a.eval o).run P w = .ok (.value v) w

/-- The operation changes the world: an x comes with it. -/
def Chg (P : Program) (c : Cx) (E : List (Nat × Value)) (L : Own) (F : World → Prop) (o : Oper) {β : Type} (C : β → Prop) (nx : β → Next) (L' : β → Own) (F' : β → World → Prop) : Prop :=
  ∀ a w, En c.n E a → St c.Dc c.D c.w0 L F w → ∃ x w', C x ∧ (execOp a.eval o).run P w = .ok (nx x) w' ∧ St c.Dc c.D c.w0 (L' x) (F' x) w'

section
variable {P : Program} {c : Cx} {E : List (Nat × Value)} {L : Own} {F : World → Prop} {d : Option Tmp} {ty : TypeId} {ps : String} {af : Array Edge} {g : Option (Nat × Bool)}

theorem run_v {s : Sem Value} {w w' : World} {v : Value} (h : s.run P w = .ok v w') : (do pure (Next.value (← s)) : Sem Next).run P w = .ok (.value v) w' := by
  simp [h, Result.andThen]
theorem run_u {s : Sem Unit} {w w' : World} (h : s.run P w = .ok () w') : (do s; pure Next.skip : Sem Next).run P w = .ok .skip w' := by
  simp [h, Result.andThen]

theorem Y.move {x v} (hx : ev E x = some v) : Yld P c E L F ⟨d, .move x, ty, ps, af, g⟩ v := fun a w he _ => by
  show (pure (Next.value (a.eval x)) : Sem Next).run P w = _
  rw [he.eval hx]; rfl
theorem Y.assign {x v} (hx : ev E x = some v) : Yld P c E L F ⟨d, .assign x, ty, ps, af, g⟩ v := fun a w he _ => by
  show (pure (Next.value (a.eval x)) : Sem Next).run P w = _
  rw [he.eval hx]; rfl
theorem Y.pickT {k x y v t} (hk : ev E k = some (.bool t)) (ht : t = true) (hx : ev E x = some v) : Yld P c E L F ⟨d, .pick k x y, ty, ps, af, g⟩ v := fun a w he _ => by
  subst ht
  simp only [execOp, he.eval hk, he.eval hx, asBool]; rfl
theorem Y.pickF {k x y v t} (hk : ev E k = some (.bool t)) (ht : t = false) (hy : ev E y = some v) : Yld P c E L F ⟨d, .pick k x y, ty, ps, af, g⟩ v := fun a w he _ => by
  subst ht
  simp only [execOp, he.eval hk, he.eval hy, asBool]; rfl
theorem Y.binOp {op xt yt x y vx vy v} (hx : ev E x = some vx) (hy : ev E y = some vy) (hr : ∀ w, (do eqGuard op xt x y vx vy; binOp op xt vx vy : Sem Value).run P w = .ok v w) :
    Yld P c E L F ⟨d, .binOp op xt x y yt, ty, ps, af, g⟩ v := fun a w he _ => by
  simp only [execOp, he.eval hx, he.eval hy]; exact run_v (hr w)
theorem Y.unOp {op xt x vx v} (hx : ev E x = some vx) (hr : ∀ w, (Op.unary op vx).run P w = .ok v w) : Yld P c E L F ⟨d, .unOp op xt x, ty, ps, af, g⟩ v := fun a w he _ => by
  simp only [execOp, he.eval hx]; exact run_v (hr w)
theorem Y.convert {s t x vx v} (hx : ev E x = some vx) (hr : ∀ w, (convert s t vx).run P w = .ok v w) : Yld P c E L F ⟨d, .convert s t x, ty, ps, af, g⟩ v := fun a w he _ => by
  simp only [execOp, he.eval hx]; exact run_v (hr w)
theorem Y.nilCheck {x ad} (hx : ev E x = some (.pointer (some ad))) : Yld P c E L F ⟨d, .nilCheck x, ty, ps, af, g⟩ (.pointer (some ad)) := fun a w he _ => by
  simp only [execOp, he.eval hx]; rfl
theorem Y.fieldAddr {t x vx i v} (hx : ev E x = some vx) (hr : ∀ w, (Instr.fieldAt t vx i).run P w = .ok v w) : Yld P c E L F ⟨d, .fieldAddr t x i, ty, ps, af, g⟩ v := fun a w he _ => by
  simp only [execOp, he.eval hx]; exact run_v (hr w)
theorem Y.field {t x vx i v} (hx : ev E x = some vx) (hr : ∀ w, (Instr.field t vx i).run P w = .ok v w) : Yld P c E L F ⟨d, .field t x i, ty, ps, af, g⟩ v := fun a w he _ => by
  simp only [execOp, he.eval hx]; exact run_v (hr w)
theorem Y.indexAddr {t x y vx vy v} (hx : ev E x = some vx) (hy : ev E y = some vy) (hr : ∀ w, (Instr.indexAt t vx vy).run P w = .ok v w) : Yld P c E L F ⟨d, .indexAddr t x y, ty, ps, af, g⟩ v := fun a w he _ => by
  simp only [execOp, he.eval hx, he.eval hy]; exact run_v (hr w)
theorem Y.index {t x y vx vy v} (hx : ev E x = some vx) (hy : ev E y = some vy) (hr : ∀ w, (Instr.index t vx vy).run P w = .ok v w) : Yld P c E L F ⟨d, .index t x y, ty, ps, af, g⟩ v := fun a w he _ => by
  simp only [execOp, he.eval hx, he.eval hy]; exact run_v (hr w)
theorem Y.extract {x vs i v} (hx : ev E x = some (.tuple (List.toArray vs))) (hv : vs[i]? = some v) : Yld P c E L F ⟨d, .extract x i, ty, ps, af, g⟩ v := fun a w he _ => by
  simp only [execOp, he.eval hx, Instr.extract]
  have : vs.toArray[i]? = some v := by simpa using hv
  rw [this]; rfl
/-- Parts of a struct or an array, in the order of the text. -/
def evp (E : List (Nat × Value)) : List (Nat × Operand) → Option (List (Nat × Value))
  | [] => some []
  | (i, x) :: r => match ev E x, evp E r with
    | some v, some vs => some ((i, v) :: vs)
    | _, _ => none
theorem En.evalp {n a} (h : En n E a) : ∀ {xs vs}, evp E xs = some vs → xs.map (fun x => (x.1, a.eval x.2)) = vs
  | [], vs, hx => by simpa [evp] using hx
  | (i, x) :: r, vs, hx => by
    unfold evp at hx
    cases h1 : ev E x with
    | none => simp [h1] at hx
    | some v =>
      cases h2 : evp E r with
      | none => simp [h1, h2] at hx
      | some us =>
        simp only [h1, h2, Option.some.injEq] at hx
        subst hx
        simp [h.eval h1, h.evalp h2]
theorem Y.build {t : TypeId} {xs : List (Nat × Operand)} {vs v} (hx : evp E xs = some vs) (hr : ∀ w, (Instr.build t vs.toArray).run P w = .ok v w) : Yld P c E L F ⟨d, .build t xs.toArray, ty, ps, af, g⟩ v := fun a w he _ => by
  have e : (xs.toArray.map fun (x : Nat × Operand) => (x.1, a.eval x.2)) = vs.toArray := by
    rw [← he.evalp hx]; simp
  simp only [execOp]
  refine run_v ?_
  rw [show (Array.map (fun x => match x with | (i, x) => (i, a.eval x)) xs.toArray) = vs.toArray from e]
  exact hr w
/-- A builtin that leaves the world alone: 'len', 'cap', 'min', 'max'. -/
theorem Y.bi {b : Builtin} {xs : List Operand} {vs tys v} (hx : evs E xs = some vs) (hr : ∀ w k, (builtin b tys ty k vs.toArray).run P w = .ok (.value v) w) : Yld P c E L F ⟨d, .call ⟨.builtin b, xs.toArray, tys⟩, ty, ps, af, g⟩ v := fun a w he _ => by
  have e : xs.toArray.map a.eval = vs.toArray := by rw [← he.evals hx]; simp
  simp only [execOp, resolve, invoke, pure_bind, e]
  exact hr w _

/-! loads -/
theorem Y.load {t x ad v} (hx : ev E x = some (.pointer (some ad))) (hr : ∀ w, St c.Dc c.D c.w0 L F w → (loadVar t ad).run P w = .ok v w) : Yld P c E L F ⟨d, .load t x, ty, ps, af, g⟩ v := fun a w he hs => by
  simp only [execOp, he.eval hx, Instr.loadAt, Instr.sureAddr]
  exact run_v (by simpa [Sem.run_bind, Result.andThen] using hr w hs)

theorem run_load1 {t : TypeId} {ad : Addr} {v : Value} {w : World} (ha : (isAgg t).run P w = .ok false w) (hv : w.cell? ad = some v) : (loadVar t ad).run P w = .ok v w := by
  simp [loadVar, Sem.run_bind, ha, Result.andThen, run_load, hv]
theorem add_none (b o i : Nat) : (Addr.mk b o none).add i = ⟨b, o + i, none⟩ := by
  unfold Addr.add
  split
  · rename_i h; subst h; rfl
  · rfl
theorem run_loadN {t : TypeId} {b o sz : Nat} {vs : List Value} {w : World} (ha : (isAgg t).run P w = .ok true w) (hz : (sizeOf t).run P w = .ok sz w) (hl : vs.length = sz)
    (hv : ∀ (j : Nat) (v : Value), vs[j]? = some v → w.cell? ⟨b, o + j, none⟩ = some v) : (loadVar t ⟨b, o, none⟩).run P w = .ok (.agg vs.toArray) w := by
  subst hl
  have h := run_loadCells_list (P := P) w ⟨b, o, none⟩ vs (fun j v hj => by rw [add_none]; exact hv j v hj)
  simp [loadVar, Sem.run_bind, ha, Result.andThen, hz, h]
theorem cell_of {w : World} {b : Nat} {cs : List Value} {T : TypeId} {fr : Nat × Nat} (h : w.heap[b]? = some (.cells cs.toArray T fr)) (i : Nat) : w.cell? ⟨b, i, none⟩ = cs[i]? := by
  simp [World.cell?, h]
/-- A scalar out of a block that is owned. -/
theorem Y.load1 {t x b o v cs T fr} (i : Nat) (hx : ev E x = some (.pointer (some ⟨b, o, none⟩))) (hi : L[i]? = some (some b, .cells (List.toArray cs) T fr)) (hv : cs[o]? = some v) (ha : ∀ w, (isAgg t).run P w = .ok false w) :
    Yld P c E L F ⟨d, .load t x, ty, ps, af, g⟩ v :=
  Y.load hx fun w hs => run_load1 (ha w) (by rw [cell_of (hs.own _ (List.mem_of_getElem? hi) b rfl).2]; exact hv)
/-- A struct or an array out of a block that is owned. -/
theorem Y.loadN {t x b o sz cs vs T fr} (i : Nat) (hx : ev E x = some (.pointer (some ⟨b, o, none⟩))) (hi : L[i]? = some (some b, .cells (List.toArray cs) T fr)) (hv : (cs.drop o).take sz = vs) (hl : vs.length = sz)
    (ha : ∀ w, (isAgg t).run P w = .ok true w) (hz : ∀ w, (sizeOf t).run P w = .ok sz w) : Yld P c E L F ⟨d, .load t x, ty, ps, af, g⟩ (.agg vs.toArray) :=
  Y.load hx fun w hs => run_loadN (ha w) (hz w) hl fun j v hj => by
    rw [cell_of (hs.own _ (List.mem_of_getElem? hi) b rfl).2]
    rw [← hv] at hj
    have hlt : j < sz := by
      have := (List.getElem?_eq_some_iff.1 hj).1
      simp at this; omega
    rw [List.getElem?_take_of_lt hlt, List.getElem?_drop] at hj
    exact hj

/-! new blocks, stores -/
theorem C.box {x t vs} (hx : ev E x = some (.agg (List.toArray vs))) :
    Chg P c E L F ⟨d, .box t x, ty, ps, af, g⟩ (fun b => c.w0.heap.size ≤ b) (fun b => .value (.pointer (some ⟨b, 0, none⟩))) (fun b => (some b, .cells vs.toArray t (0, 0)) :: L) (fun _ => F) := fun a w he hs => by
  refine ⟨w.heap.size, _, hs.keep.size, ?_, hs.alloc (.cells vs.toArray t (0, 0))⟩
  simp only [execOp, he.eval hx]
  rfl
theorem C.box1 {x t v} (hx : ev E x = some v) (h1 : v.cells = #[v]) :
    Chg P c E L F ⟨d, .box t x, ty, ps, af, g⟩ (fun b => c.w0.heap.size ≤ b) (fun b => .value (.pointer (some ⟨b, 0, none⟩))) (fun b => (some b, .cells (List.toArray [v]) t (0, 0)) :: L) (fun _ => F) := fun a w he hs => by
  refine ⟨w.heap.size, _, hs.keep.size, ?_, hs.alloc (.cells (List.toArray [v]) t (0, 0))⟩
  simp only [execOp, he.eval hx, Instr.box, newVar, newRow, h1]
  rfl
theorem C.alloc {t z zs} (hz : ∀ w, (zeroValue t).run P w = .ok z w) (hc : z.cells = List.toArray zs) :
    Chg P c E L F ⟨d, .alloc t, ty, ps, af, g⟩ (fun b => c.w0.heap.size ≤ b) (fun b => .value (.pointer (some ⟨b, 0, none⟩))) (fun b => (some b, .cells zs.toArray t (0, 0)) :: L) (fun _ => F) := fun a w he hs => by
  refine ⟨w.heap.size, _, hs.keep.size, ?_, hs.alloc (.cells zs.toArray t (0, 0))⟩
  simp only [execOp]
  refine run_v ?_
  simp [Instr.alloc, newVar, newRow, Sem.run_bind, hz, Result.andThen, hc, newObj, Sem.run]

def one1 : Value → Bool
  | .agg _ | .tuple _ => false
  | _ => true

def setAt : List Value → Nat → List Value → List Value
  | cs, _, [] => cs
  | cs, k, v :: r => setAt (cs.set k v) (k + 1) r

theorem run_storeAt {b o : Nat} {T : TypeId} : ∀ (vs : List Value) (i : Nat) (cs : List Value) (w : World), w.heap[b]? = some (.cells cs.toArray T (0, 0)) → vs.all one1 = true → o + i + vs.length ≤ cs.length →
    ∃ w', (storeCells ⟨b, o, none⟩ vs i).run P w = .ok () w' ∧ (w'.os = w.os ∧ w'.tape = w.tape ∧ w'.output = w.output ∧ w'.heap.size = w.heap.size) ∧ w'.heap[b]? = some (.cells (setAt cs (o + i) vs).toArray T (0, 0)) ∧ ∀ k, k ≠ b → w'.heap[k]? = w.heap[k]?
  | [], i, cs, w, h, _, _ => ⟨w, rfl, ⟨rfl, rfl, rfl, rfl⟩, h, fun _ _ => rfl⟩
  | v :: r, i, cs, w, h, h1, hl => by
    simp only [List.all_cons, Bool.and_eq_true] at h1
    simp only [List.length_cons] at hl
    have hb : (w.setCell ⟨b, o + i, none⟩ v).heap[b]? = some (.cells (cs.set (o + i) v).toArray T (0, 0)) := by
      simp [World.setCell, Array.getElem?_modify, h]
    obtain ⟨w', hr, hs, hg, hk⟩ := run_storeAt (b := b) (o := o) (T := T) r (i + 1) (cs.set (o + i) v) (w.setCell ⟨b, o + i, none⟩ v) hb h1.2 (by rw [List.length_set]; omega)
    refine ⟨w', ?_, ?_, hg, fun k hk' => ?_⟩
    · have hc : w.cell? ⟨b, o + i, none⟩ = some (cs[o + i]'(by omega)) := by rw [cell_of h]; simp
      have hf : w.frozen? ⟨b, o + i, none⟩ = false := by simp [World.frozen?, h]
      have hst : (store ((Addr.mk b o none).add i) v).run P w = .ok () (w.setCell ⟨b, o + i, none⟩ v) := by
        rw [add_none]
        unfold store
        cases v <;> simp_all [Sem.run, one1]
      unfold storeCells
      simp only [Sem.run_bind, hst, Result.andThen]
      exact hr
    · simpa [World.setCell] using hs
    · rw [hk k hk']
      simp only [World.setCell, Array.getElem?_modify]
      rw [if_neg (fun e => hk' e.symm)]

/-- A store into a block that is owned. -/
theorem C.store {t x y b o cs cs' vy vs T} (i : Nat) (hx : ev E x = some (.pointer (some ⟨b, o, none⟩))) (hy : ev E y = some vy) (hc : vy.cells = List.toArray vs) (hi : L[i]? = some (some b, .cells (List.toArray cs) T (0, 0)))
    (h1 : vs.all one1 = true) (hl : Nat.ble (o + vs.length) cs.length = true) (hs' : setAt cs o vs = cs') (hz : ∀ w, (sizeOf t).run P w = .ok vs.length w) :
    Chg P c E L F ⟨d, .store t x y, ty, ps, af, g⟩ (fun (_ : Unit) => True) (fun _ => .skip) (fun _ => L.set i (some b, .cells cs'.toArray T (0, 0))) (fun _ => F) := fun a w he hs => by
  have hown := hs.own _ (List.mem_of_getElem? hi) b rfl
  obtain ⟨w', hr, hw, hg, hk⟩ := run_storeAt (P := P) (b := b) (o := o) (T := T) vs 0 cs w hown.2 h1 (by simpa using hl)
  refine ⟨(), w', trivial, ?_, hs.write hi hw (by rw [hg, ← hs']; rfl) hk⟩
  simp only [execOp, he.eval hx, he.eval hy, Instr.storeAt, Instr.sureAddr]
  refine run_u ?_
  simp [Sem.run_bind, Result.andThen, storeVar, hz, hc, hr]
end
end Go.Eng

namespace Go.Eng
/-! ### lists of operations -/
/-- The operation is wanted: it has no guard, or its guard says so. -/
def Want (ops : Array Oper) (c : Cx) (E : List (Nat × Value)) (o : Oper) : Prop := ∀ a, En c.n E a → Region.wanted o (yielded ops a.tmps) = true
def Skip (ops : Array Oper) (c : Cx) (E : List (Nat × Value)) (o : Oper) : Prop := ∀ a, En c.n E a → Region.wanted o (yielded ops a.tmps) = false

/-- The post of a call: it hands back 'val x', and what was there is as it was but for the blocks of D; what is said of x stays true. -/
def Ret (Dc D : List Nat) (w : World) {α : Type} (val : α → Value) (Φ : α → World → Prop) : Ending → World → Prop :=
  fun e w' => ∃ x, e = .returned (val x) ∧ Keep D w w' ∧ Fut Dc w' (Φ x)
/-- The post of a call that hands back a value without pointers. -/
def RetV (w : World) (v : Value) : Ending → World → Prop := fun e w' => e = .returned v ∧ Keep [] w w'
/-- What a call of function f comes to. -/
def CallOk (P : Program) (f : FuncId) : Prop := ∀ args w, (callFunc f args).run P w = .ok (.enter f args) w

section
variable {P : Program} {c : Cx} {E : List (Nat × Value)} {L : Own} {F : World → Prop} {ops : Array Oper} {Q : Exit → Act → World → Prop} {o : Oper} {rest : List Oper}

theorem Want.none (h : o.guard = none) : Want ops c E o := fun a _ => by simp [Region.wanted, h]
theorem yielded_of {a : Act} {j s : Nat} {b : Bool} (he : En c.n E a) (hj : (ops[j]?).bind (·.dst) = some s) (hs : look E s = some (.bool b)) : yielded ops a.tmps j = some b := by
  simp [yielded, hj, he.get s _ hs]
theorem Want.some (j s : Nat) (b : Bool) {t : Bool} (h : o.guard = .some (j, b)) (hj : (ops[j]?).bind (·.dst) = .some s) (hs : look E s = .some (.bool t)) (ht : t = b) : Want ops c E o := fun a he => by
  subst ht
  simp [Region.wanted, h, yielded_of he hj hs]
theorem Skip.some (j s : Nat) (b : Bool) {t : Bool} (h : o.guard = .some (j, b)) (hj : (ops[j]?).bind (·.dst) = .some s) (hs : look E s = .some (.bool t)) (ht : t = !b) : Skip ops c E o := fun a he => by
  subst ht
  simp [Region.wanted, h, yielded_of he hj hs]
/-- A guard whose slot holds nothing (its own operation was passed over). -/
theorem Skip.undef (j s : Nat) (b : Bool) (h : o.guard = .some (j, b)) (hj : (ops[j]?).bind (·.dst) = .some s) (hs : look E s = .some undef) : Skip ops c E o := fun a he => by
  have : yielded ops a.tmps j = .none := by simp [yielded, hj, he.get s _ hs, Go.undef]
  simp [Region.wanted, h, this]

theorem callOk_of {f : FuncId} {fn : Func} (hf : P.funcs[f]? = some fn) (hn : (fn.name == "runtime.NumGoroutine") = false) (hb : fn.body.isNone = false) : CallOk P f := fun args w => by
  have hn' : fn.name ≠ "runtime.NumGoroutine" := by simpa using hn
  have hb' : fn.body ≠ .none := by intro e; simp [e] at hb
  simp [callFunc, hf, hn', hb']

def Seg (P : Program) (ops : Array Oper) (Q : Exit → Act → World → Prop) (c : Cx) (rest : List Oper) (E : List (Nat × Value)) (L : Own) (F : World → Prop) : Prop :=
  ∀ a w, En c.n E a → St c.Dc c.D c.w0 L F w → wpList P ops Q rest a w

theorem Seg.go (hw : Want ops c E o) (h : ∀ a w, En c.n E a → St c.Dc c.D c.w0 L F w → ∀ K : Act → World → Prop, (∀ a w, wpList P ops Q rest a w → K a w) → o.wp P a w K Q) : Seg P ops Q c (o :: rest) E L F :=
  fun a w he hs => wpList_step fun K hK => by rw [if_pos (hw a he)]; exact h a w he hs K hK

theorem Seg.skip {d} (hd : o.dst = some d) (hn : Nat.blt d c.n = true) (hw : Skip ops c E o) (k : Seg P ops Q c rest ((d, undef) :: E) L F) : Seg P ops Q c (o :: rest) E L F :=
  fun a w he hs => wpList_step fun K hK => by rw [if_neg (by rw [hw a he]; simp)]; rw [hd]; exact hK _ _ (k _ _ (he.put hn) hs)
theorem Seg.skip0 (hd : o.dst = none) (hw : Skip ops c E o) (k : Seg P ops Q c rest E L F) : Seg P ops Q c (o :: rest) E L F :=
  fun a w he hs => wpList_step fun K hK => by rw [if_neg (by rw [hw a he]; simp)]; rw [hd]; exact hK _ _ (k _ _ he.put_none hs)
theorem Seg.y {d v} (hd : o.dst = some d) (hn : Nat.blt d c.n = true) (hw : Want ops c E o) (hy : Yld P c E L F o v) (k : Seg P ops Q c rest ((d, v) :: E) L F) : Seg P ops Q c (o :: rest) E L F :=
  Seg.go hw fun a w he hs K hK => by
    unfold Oper.wp
    rw [hy a w he hs, Oper.upon_value, hd]
    exact hK _ _ (k _ _ (he.put hn) hs)
theorem Seg.chg {d} {β : Type} {C : β → Prop} {v : β → Value} {L' : β → Own} {F' : β → World → Prop} (hd : o.dst = some d) (hn : Nat.blt d c.n = true) (hw : Want ops c E o)
    (hc : Chg P c E L F o C (fun x => .value (v x)) L' F') (k : ∀ x, C x → Seg P ops Q c rest ((d, v x) :: E) (L' x) (F' x)) : Seg P ops Q c (o :: rest) E L F :=
  Seg.go hw fun a w he hs K hK => by
    obtain ⟨x, w', hx, hr, hs'⟩ := hc a w he hs
    unfold Oper.wp
    rw [hr, Oper.upon_value, hd]
    exact hK _ _ (k x hx _ _ (he.put hn) hs')
theorem Seg.chs {β : Type} {C : β → Prop} {L' : β → Own} {F' : β → World → Prop} (hd : o.dst = none) (hw : Want ops c E o)
    (hc : Chg P c E L F o C (fun _ => .skip) L' F') (k : ∀ x, C x → Seg P ops Q c rest E (L' x) (F' x)) : Seg P ops Q c (o :: rest) E L F :=
  Seg.go hw fun a w he hs K hK => by
    obtain ⟨x, w', hx, hr, hs'⟩ := hc a w he hs
    unfold Oper.wp
    rw [hr, Oper.upon_skip, hd]
    exact hK _ _ (k x hx _ _ he.put_none hs')

/-- The operation calls function f with these arguments. -/
def Cal (P : Program) (c : Cx) (E : List (Nat × Value)) (L : Own) (F : World → Prop) (o : Oper) (f : FuncId) (vs : List Value) : Prop :=
  ∀ a w, En c.n E a → St c.Dc c.D c.w0 L F w → (execOp a.eval o).run P w = .ok (.enter f vs.toArray) w

theorem K.func {d ty ps af g f xs vs tys} (hx : evs E xs = some vs) (hf : CallOk P f) : Cal P c E L F ⟨d, .call ⟨.value (.func f), List.toArray xs, tys⟩, ty, ps, af, g⟩ f vs := fun a w he _ => by
  have e : xs.toArray.map a.eval = vs.toArray := by rw [← he.evals hx]; simp
  simp only [execOp, resolve, Act.eval, Deferred.ofValue, pure_bind, e, invoke]
  simpa using hf vs.toArray w
/-- A call of a function value. -/
theorem K.value {d ty ps af g f x xs vs cap fst tys} (hy : ev E x = some (.func (.func f) (List.toArray fst) (List.toArray cap))) (hx : evs E xs = some vs) (hf : CallOk P f) :
    Cal P c E L F ⟨d, .call ⟨.value x, List.toArray xs, tys⟩, ty, ps, af, g⟩ f (fst ++ vs ++ cap) := fun a w he _ => by
  have e : xs.toArray.map a.eval = vs.toArray := by rw [← he.evals hx]; simp
  simp only [execOp, resolve, he.eval hy, Deferred.ofValue, pure_bind, e, invoke]
  simpa using hf (fst ++ vs ++ cap).toArray w

theorem Seg.callV {d f vs v} (hd : o.dst = some d) (hn : Nat.blt d c.n = true) (hw : Want ops c E o) (hc : Cal P c E L F o f vs)
    (hf : ∀ w, St c.Dc c.D c.w0 L F w → Calls P f vs.toArray w (RetV w v)) (k : Seg P ops Q c rest ((d, v) :: E) L F) : Seg P ops Q c (o :: rest) E L F :=
  Seg.go hw fun a w he hs K hK => by
    unfold Oper.wp
    rw [hc a w he hs, Oper.upon_enter]
    refine (hf w hs).mono fun e w' ⟨h1, h2⟩ => ?_
    subst h1
    simp only [hd]
    exact hK _ _ (k _ _ (he.put hn) (hs.after h2))
theorem Seg.callR {d f vs} {α : Type} {val : α → Value} {Φ : α → World → Prop} (hd : o.dst = some d) (hn : Nat.blt d c.n = true) (hw : Want ops c E o) (hc : Cal P c E L F o f vs)
    (hf : ∀ w, St c.Dc c.D c.w0 L F w → Calls P f vs.toArray w (Ret (c.Dc ++ keys L) [] w val Φ)) (k : ∀ x, Seg P ops Q c rest ((d, val x) :: E) L (fun w => F w ∧ Φ x w)) : Seg P ops Q c (o :: rest) E L F :=
  Seg.go hw fun a w he hs K hK => by
    unfold Oper.wp
    rw [hc a w he hs, Oper.upon_enter]
    refine (hf w hs).mono fun e w' ⟨x, h1, h2, h3⟩ => ?_
    subst h1
    simp only [hd]
    exact hK _ _ (k x _ _ (he.put hn) ((hs.after h2).and h3))

/-! ### code -/
def Sc (P : Program) (Q : Exit → Act → World → Prop) (c : Cx) (code : Code) (E : List (Nat × Value)) (L : Own) (F : World → Prop) : Prop :=
  ∀ a w, En c.n E a → St c.Dc c.D c.w0 L F w → code.wp P Q a w
def Sx (Q : Exit → Act → World → Prop) (c : Cx) (e : Exit) (E : List (Nat × Value)) (L : Own) (F : World → Prop) : Prop :=
  ∀ a w, En c.n E a → St c.Dc c.D c.w0 L F w → Q e a w
/-- What follows. -/
def Nx (P : Program) (b : Code) (Q : Exit → Act → World → Prop) : Exit → Act → World → Prop := Exit.then (b.wp P Q) Q

theorem Seg.nil (h : Sx Q c .normal E L F) : Seg P ops Q c [] E L F := fun a w he hs => wpList_nil (h a w he hs)
theorem Sc.seq {x y : Code} (h : Sc P (Nx P y Q) c x E L F) : Sc P Q c (.seq x y) E L F := fun a w he hs => wp_seq (h a w he hs)
theorem Sc.region {id : Nat} {l : List Oper} (h : Seg P l.toArray Q c l E L F) : Sc P Q c (.region id l.toArray false) E L F := fun a w he hs => wp_region_lit (h a w he hs)
theorem Sc.skip (h : Sx Q c .normal E L F) : Sc P Q c .skip E L F := fun a w he hs => wp_skip (h a w he hs)
theorem Sc.ret (h : Sx Q c .ret E L F) : Sc P Q c .ret E L F := fun a w he hs => wp_ret (h a w he hs)
theorem Sc.exit {id : Nat} (h : Sx Q c (.exit id) E L F) : Sc P Q c (.exit id) E L F := fun a w he hs => wp_exit (h a w he hs)
theorem Sc.block {id : Nat} {x : Code} (h : Sc P (Exit.inBlock id Q) c x E L F) : Sc P Q c (.block id x) E L F := fun a w he hs => wp_block (h a w he hs)
theorem Sc.cond {x : Operand} {t e : Code} {b : Bool} (hx : ev E x = some (.bool b)) (ht : b = true → Sc P Q c t E L F) (hf : b = false → Sc P Q c e E L F) : Sc P Q c (.cond x t e) E L F :=
  fun a w he hs => wp_cond_split (he.eval hx) (fun h => ht h a w he hs) (fun h => hf h a w he hs)
theorem Sc.condT {x : Operand} {t e : Code} {b : Bool} (hx : ev E x = some (.bool b)) (hb : b = true) (ht : Sc P Q c t E L F) : Sc P Q c (.cond x t e) E L F := fun a w he hs => wp_cond_true (hb ▸ he.eval hx) (ht a w he hs)
theorem Sc.condF {x : Operand} {t e : Code} {b : Bool} (hx : ev E x = some (.bool b)) (hb : b = false) (ht : Sc P Q c e E L F) : Sc P Q c (.cond x t e) E L F := fun a w he hs => wp_cond_false (hb ▸ he.eval hx) (ht a w he hs)

theorem Sx.next {y : Code} (h : Sc P Q c y E L F) : Sx (Nx P y Q) c .normal E L F := h
theorem Sx.next_ret {y : Code} (h : Sx Q c .ret E L F) : Sx (Nx P y Q) c .ret E L F := h
theorem Sx.next_exit {y : Code} {id : Nat} (h : Sx Q c (.exit id) E L F) : Sx (Nx P y Q) c (.exit id) E L F := h
theorem Sx.block_normal {id : Nat} (h : Sx Q c .normal E L F) : Sx (Exit.inBlock id Q) c .normal E L F := h
theorem Sx.block_ret {id : Nat} (h : Sx Q c .ret E L F) : Sx (Exit.inBlock id Q) c .ret E L F := h
theorem Sx.block_exit {id : Nat} (h : Sx Q c .normal E L F) : Sx (Exit.inBlock id Q) c (.exit id) E L F := fun a w he hs => by
  show (if id = id then _ else _); rw [if_pos rfl]; exact h a w he hs
theorem Sx.block_other {id i : Nat} (hne : Nat.beq i id = false) (h : Sx Q c (.exit i) E L F) : Sx (Exit.inBlock id Q) c (.exit i) E L F := fun a w he hs => by
  show (if i = id then _ else _); rw [if_neg (fun e => by subst e; simp at hne)]; exact h a w he hs

/-- Fewer slots, fewer blocks, fewer facts. -/
def pick (L : Own) : List Nat → Own
  | [] => []
  | i :: r => match L[i]? with
    | some x => x :: pick L r
    | none => pick L r
theorem mem_pick {L : Own} : ∀ {is : List Nat} {x}, x ∈ pick L is → ∃ i ∈ is, L[i]? = some x
  | [], x, h => by simp [pick] at h
  | i :: r, x, h => by
    unfold pick at h
    cases hi : L[i]? with
    | none =>
      simp only [hi] at h
      obtain ⟨j, hj, e⟩ := mem_pick h
      exact ⟨j, by simp [hj], e⟩
    | some y =>
      simp only [hi] at h
      rcases List.mem_cons.1 h with rfl | h
      · exact ⟨i, by simp, hi⟩
      · obtain ⟨j, hj, e⟩ := mem_pick h
        exact ⟨j, by simp [hj], e⟩
theorem St.pick {Dc D w0 L F w} (h : St Dc D w0 L F w) {is : List Nat} (hn : is.Nodup) : St Dc D w0 (pick L is) F w := by
  have hsub : ∀ x ∈ Eng.pick L is, x ∈ L := fun x hx => by
    obtain ⟨i, _, hi⟩ := mem_pick hx
    exact List.mem_of_getElem? hi
  refine ⟨h.keep, h.sub, h.dc, fun x hx => h.own x (hsub x hx), ?_, h.fut.less fun k hk => ?_⟩
  · clear hsub
    induction is with
    | nil => simp [Eng.pick, keys]
    | cons i r ih =>
      have hr := ih (List.nodup_cons.1 hn).2
      unfold Eng.pick
      cases hi : L[i]? with
      | none => exact hr
      | some x =>
        show (keys (x :: Eng.pick L r)).Nodup
        rw [keys_cons]
        cases hx : x.1 with
        | none => exact hr
        | some b =>
          refine List.nodup_cons.2 ⟨fun hm => ?_, hr⟩
          obtain ⟨y, hy, e⟩ := mem_keys.1 hm
          obtain ⟨j, hj, e2⟩ := mem_pick hy
          obtain ⟨x1, x2⟩ := x
          obtain ⟨y1, y2⟩ := y
          simp at hx e
          subst hx
          subst e
          have := key_at h.nodup hi e2
          subst this
          exact (List.nodup_cons.1 hn).1 hj
  · rcases List.mem_append.1 hk with m | m
    · exact List.mem_append.2 (.inl m)
    · obtain ⟨x, hx, e⟩ := mem_keys.1 m
      exact List.mem_append.2 (.inr (mem_keys.2 ⟨x, hsub x hx, e⟩))

/-- A loop: the rounds' heads are known by an x. -/
def Head (c : Cx) {α : Type} (J : α → Prop) (m : α → Nat) (Ei : α → List (Nat × Value)) (Li : α → Own) (Fi : α → World → Prop) (x : α) : Act → World → Prop :=
  fun a w => ∃ y, J y ∧ m y < m x ∧ En c.n (Ei y) a ∧ St c.Dc c.D c.w0 (Li y) (Fi y) w

theorem Sc.loop {α : Type} (J : α → Prop) (m : α → Nat) (Ei : α → List (Nat × Value)) (Li : α → Own) (Fi : α → World → Prop) {body : Code} (x0 : α) (h0 : J x0) (hE : SubE E (Ei x0)) (is : List Nat) (hn : is.Nodup) (hL : Li x0 = Eng.pick L is)
    (hF : ∀ w, F w → Fi x0 w) (hr : ∀ x, J x → Sc P (Exit.then (Head c J m Ei Li Fi x) Q) c body (Ei x) (Li x) (Fi x)) : Sc P Q c (.loop body) E L F := fun a w he hs => by
  let I : Act → World → Prop := fun a w => ∃ x, J x ∧ En c.n (Ei x) a ∧ St c.Dc c.D c.w0 (Li x) (Fi x) w
  let Pm : Act → World → Nat → Prop := fun a w k => ∃ x, J x ∧ m x = k ∧ En c.n (Ei x) a ∧ St c.Dc c.D c.w0 (Li x) (Fi x) w
  have least : ∀ a w, I a w → ∃ k, Pm a w k ∧ ∀ j, Pm a w j → k ≤ j := by
    intro a w ⟨x, hx, h1, h2⟩
    have key : ∀ n, Pm a w n → ∃ k, Pm a w k ∧ ∀ j, Pm a w j → k ≤ j := by
      intro n
      induction n using Nat.strongRecOn with
      | _ n ih =>
        intro hn
        by_cases hex : ∃ j, j < n ∧ Pm a w j
        · obtain ⟨j, hj, hp⟩ := hex
          exact ih j hj hp
        · exact ⟨n, hn, fun j hj => Nat.le_of_not_lt fun hlt => hex ⟨j, hlt, hj⟩⟩
    exact key (m x) ⟨x, hx, rfl, h1, h2⟩
  refine wp_loop I (fun a w => by classical exact if h : I a w then Classical.choose (least a w h) else 0) ⟨x0, h0, he.sub hE, ?_⟩ ?_
  · rw [hL]; exact (hs.pick hn).mono hF
  · intro a w hI
    obtain ⟨⟨x, hx, hk, h1, h2⟩, hmin⟩ := Classical.choose_spec (least a w hI)
    refine Code.wp_mono ?_ (hr x hx a w h1 h2)
    intro e a' w' hq
    cases e with
    | normal =>
      obtain ⟨y, hy, hlt, g1, g2⟩ := hq
      have hI' : I a' w' := ⟨y, hy, g1, g2⟩
      refine ⟨hI', ?_⟩
      simp only [dif_pos hI, dif_pos hI']
      have := (Classical.choose_spec (least a' w' hI')).2 (m y) ⟨y, hy, rfl, g1, g2⟩
      omega
    | _ => exact hq

theorem Sx.head {α : Type} {J : α → Prop} {m : α → Nat} {Ei : α → List (Nat × Value)} {Li : α → Own} {Fi : α → World → Prop} {x : α} (y : α) (hy : J y) (hm : m y < m x) (hE : SubE E (Ei y)) (is : List Nat) (hn : is.Nodup)
    (hL : Li y = Eng.pick L is) (hF : ∀ w, F w → Fi y w) : Sx (Exit.then (Head c J m Ei Li Fi x) Q) c .normal E L F := fun a w he hs =>
  ⟨y, hy, hm, he.sub hE, by rw [hL]; exact (hs.pick hn).mono hF⟩
theorem Sx.loop_ret {K : Act → World → Prop} (h : Sx Q c .ret E L F) : Sx (Exit.then K Q) c .ret E L F := h
theorem Sx.loop_exit {K : Act → World → Prop} {id : Nat} (h : Sx Q c (.exit id) E L F) : Sx (Exit.then K Q) c (.exit id) E L F := h

/-- The post of a cut: all ways through the code meet in one form again. -/
def Cut (c : Cx) {α : Type} (J : α → Prop) (Ei : α → List (Nat × Value)) (Li : α → Own) (Fi : α → World → Prop) (Q : Exit → Act → World → Prop) : Exit → Act → World → Prop
  | .normal, a, w => ∃ x, J x ∧ En c.n (Ei x) a ∧ St c.Dc c.D c.w0 (Li x) (Fi x) w
  | .panic _, _, _ => False
  | .outgrown, _, _ => False
  | e, a, w => Q e a w
theorem Cut.panic {α : Type} {J : α → Prop} {Ei : α → List (Nat × Value)} {Li : α → Own} {Fi : α → World → Prop} : ∀ ch a d v w, Cut c J Ei Li Fi Q (.panic ch) (a.put d v) w → Cut c J Ei Li Fi Q (.panic ch) a w := fun _ _ _ _ _ h => h
theorem Sc.cut {α : Type} (J : α → Prop) (Ei : α → List (Nat × Value)) (Li : α → Own) (Fi : α → World → Prop) {code : Code}
    (h : Sc P (Cut c J Ei Li Fi Q) c code E L F) (k : ∀ x, J x → Sx Q c .normal (Ei x) (Li x) (Fi x)) : Sc P Q c code E L F := fun a w he hs =>
  Code.wp_mono (fun e a w q => by
    cases e with
    | normal => obtain ⟨x, hx, h1, h2⟩ := q; exact k x hx a w h1 h2
    | panic _ => exact q.elim
    | outgrown => exact q.elim
    | _ => exact q) (h a w he hs)
theorem Sx.cut {α : Type} {J : α → Prop} {Ei : α → List (Nat × Value)} {Li : α → Own} {Fi : α → World → Prop} (y : α) (hy : J y) (hE : SubE E (Ei y)) (is : List Nat) (hn : is.Nodup)
    (hL : Li y = Eng.pick L is) (hF : ∀ w, F w → Fi y w) : Sx (Cut c J Ei Li Fi Q) c .normal E L F := fun a w he hs =>
  ⟨y, hy, he.sub hE, by rw [hL]; exact (hs.pick hn).mono hF⟩
theorem Sx.cut_ret {α : Type} {J : α → Prop} {Ei : α → List (Nat × Value)} {Li : α → Own} {Fi : α → World → Prop} (h : Sx Q c .ret E L F) : Sx (Cut c J Ei Li Fi Q) c .ret E L F := h
theorem Sx.cut_exit {α : Type} {J : α → Prop} {Ei : α → List (Nat × Value)} {Li : α → Own} {Fi : α → World → Prop} {id : Nat} (h : Sx Q c (.exit id) E L F) : Sx (Cut c J Ei Li Fi Q) c (.exit id) E L F := h

/-- A loop whose rounds are walked one by one. -/
def Sr (P : Program) (Q : Exit → Act → World → Prop) (c : Cx) (body : Code) (n : Nat) (E : List (Nat × Value)) (L : Own) (F : World → Prop) : Prop :=
  ∀ a w, En c.n E a → St c.Dc c.D c.w0 L F w → Code.rounds P body Q n a w
theorem Sc.rounds {body : Code} (n : Nat) (h : Sr P Q c body n E L F) : Sc P Q c (.loop body) E L F := fun a w he hs => wp_loop_rounds n (h a w he hs)
theorem Sr.succ {body : Code} {n : Nat} (h : Sc P (Exit.then (Code.rounds P body Q n) Q) c body E L F) : Sr P Q c body (n + 1) E L F := h
theorem Sx.round {body : Code} {n : Nat} (h : Sr P Q c body n E L F) : Sx (Exit.then (Code.rounds P body Q n) Q) c .normal E L F := h

/-- Weaker: fewer rows, fewer blocks, fewer facts. -/
theorem Sc.weak {code : Code} {E' : List (Nat × Value)} {L' : Own} {F' : World → Prop} (hE : SubE E E') (is : List Nat) (hn : is.Nodup) (hL : L' = Eng.pick L is) (hF : ∀ w, F w → F' w) (h : Sc P Q c code E' L' F') : Sc P Q c code E L F :=
  fun a w he hs => h a w (he.sub hE) (by rw [hL]; exact (hs.pick hn).mono hF)
theorem Sx.weak {e : Exit} {E' : List (Nat × Value)} {L' : Own} {F' : World → Prop} (hE : SubE E E') (is : List Nat) (hn : is.Nodup) (hL : L' = Eng.pick L is) (hF : ∀ w, F w → F' w) (h : Sx Q c e E' L' F') : Sx Q c e E L F :=
  fun a w he hs => h a w (he.sub hE) (by rw [hL]; exact (hs.pick hn).mono hF)
theorem someB {b b' : Bool} (h : b = b') : some (Value.bool b) = some (Value.bool b') := by rw [h]
theorem someI {k : IntKind} {b b' : Int} (h : b = b') : some (Value.int k b) = some (Value.int k b') := by rw [h]
theorem someV {b b' : Value} (h : b = b') : some b = some b' := by rw [h]

/-- A block that is owned is written no more: it becomes a fact. -/
theorem erase_sublist : ∀ (L : Own) (i : Nat), (L.eraseIdx i).Sublist L
  | [], _ => by simp
  | x :: r, 0 => by simp
  | x :: r, i + 1 => by simpa using erase_sublist r i
theorem key_erase : ∀ {L : Own} {i b : Nat} {o : Obj}, (keys L).Nodup → L[i]? = some (some b, o) → b ∉ keys (L.eraseIdx i)
  | [], i, b, o, _, h => by simp at h
  | x :: r, 0, b, o, hn, h => by
    simp at h
    subst h
    rw [keys_cons] at hn
    simpa using (List.nodup_cons.1 hn).1
  | x :: r, i + 1, b, o, hn, h => by
    simp at h
    have hm : b ∈ keys r := mem_keys.2 ⟨_, List.mem_of_getElem? h, rfl⟩
    rw [keys_cons] at hn
    rw [List.eraseIdx_cons_succ, keys_cons]
    cases hx : x.1 with
    | none => simp [hx] at hn; exact key_erase hn h
    | some d =>
      simp only [hx] at hn
      have hn' := List.nodup_cons.1 hn
      intro hm'
      rcases List.mem_cons.1 hm' with rfl | hm'
      · exact hn'.1 hm
      · exact key_erase hn'.2 h hm'
theorem St.ownFut {Dc D w0 L F w} (h : St Dc D w0 L F w) {i b : Nat} {o : Obj} (hi : L[i]? = some (some b, o)) (hb : w0.heap.size ≤ b) : Fut (Dc ++ keys (L.eraseIdx i)) w (fun w => F w ∧ w.heap[b]? = some o) := by
  refine (h.fut.less fun k hk => ?_).and (Fut.block (h.own _ (List.mem_of_getElem? hi) b rfl).2 fun hm => ?_)
  · rcases List.mem_append.1 hk with m | m
    · exact List.mem_append.2 (.inl m)
    · exact List.mem_append.2 (.inr ((keys_sublist (erase_sublist L i)).subset m))
  · rcases List.mem_append.1 hm with m | m
    · have := h.dc b m; omega
    · exact key_erase h.nodup hi m
theorem St.freeze {Dc D w0 L F w} (h : St Dc D w0 L F w) {i b : Nat} {o : Obj} (hi : L[i]? = some (some b, o)) (hb : w0.heap.size ≤ b) : St Dc D w0 (L.eraseIdx i) (fun w => F w ∧ w.heap[b]? = some o) w := by
  have h' := h.less (erase_sublist L i)
  exact ⟨h'.keep, h'.sub, h'.dc, h'.own, h'.nodup, h.ownFut hi hb⟩
theorem Seg.freeze (i : Nat) {b : Nat} {o : Obj} (hi : L[i]? = some (some b, o)) (hb : c.w0.heap.size ≤ b) (k : Seg P ops Q c rest E (L.eraseIdx i) (fun w => F w ∧ w.heap[b]? = some o)) : Seg P ops Q c rest E L F :=
  fun a w he hs => k a w he (hs.freeze hi hb)

/-! ### the function's end -/
def resS (tmps : Array Value) : ResultVar → Sem Value
  | .tmp t => pure (tmps.getD t undef)
  | .cell a t => do loadVar t (← asAddr (tmps.getD a undef))
/-- A result reads as v. -/
def Rv (P : Program) (c : Cx) (E : List (Nat × Value)) (L : Own) (F : World → Prop) (r : ResultVar) (v : Value) : Prop :=
  ∀ a w, En c.n E a → St c.Dc c.D c.w0 L F w → (resS a.tmps r).run P w = .ok v w
theorem Rv.tmp {t v} (h : look E t = some v) : Rv P c E L F (.tmp t) v := fun a w he _ => by
  have : a.tmps.getD t undef = v := by simp [Array.getD_eq_getD_getElem?, he.get t v h]
  simp only [resS, this]; rfl
theorem Rv.cell {t s b cs vs sz T fr} (i : Nat) (h : look E s = some (.pointer (some ⟨b, 0, none⟩))) (hi : L[i]? = some (some b, .cells (List.toArray cs) T fr)) (hv : cs.take sz = vs) (hl : vs.length = sz)
    (ha : ∀ w, (isAgg t).run P w = .ok true w) (hz : ∀ w, (sizeOf t).run P w = .ok sz w) : Rv P c E L F (.cell s t) (.agg vs.toArray) := fun a w he hs => by
  have e : a.tmps.getD s undef = .pointer (some ⟨b, 0, none⟩) := by simp [Array.getD_eq_getD_getElem?, he.get s _ h]
  have := run_loadN (P := P) (t := t) (b := b) (o := 0) (sz := sz) (vs := vs) (w := w) (ha w) (hz w) hl fun j v hj => by
    rw [cell_of (hs.own _ (List.mem_of_getElem? hi) b rfl).2]
    rw [← hv] at hj
    have hlt : j < sz := by
      have := (List.getElem?_eq_some_iff.1 hj).1
      simp at this; omega
    rw [List.getElem?_take_of_lt hlt] at hj
    simpa using hj
  simp [resS, e, asAddr, this]

/-- The blocks that are new hold what L says. -/
def New (w0 : World) (L : Own) (w : World) : Prop := ∀ x ∈ L, ∀ b, x.1 = some b → w0.heap.size ≤ b → w.heap[b]? = some x.2
theorem St.out {Dc D w0 L F w} (h : St Dc D w0 L F w) : Fut Dc w (fun w => F w ∧ New w0 L w) := fun w' k => by
  refine ⟨h.fut w' (k.mono fun x hx => List.mem_append.2 (.inl hx)), fun x hx b hb hge => ?_⟩
  have h2 := (h.own x hx b hb).2
  rw [k.block b (lt_of_get h2) fun hm => ?_]
  · exact h2
  · have := h.dc b hm
    omega

variable {fn : Func}
theorem Sx.body {R : Ending → World → Prop} {e : Exit} (he' : e = .ret ∨ e = .normal) {v} (hr : ∀ a w, En c.n E a → St c.Dc c.D c.w0 L F w → (results fn a.tmps).run P w = .ok v w) (hR : ∀ w, St c.Dc c.D c.w0 L F w → R (.returned v) w) :
    Sx (bodyPost P fn R) c e E L F := fun a w he hs => by
  rcases he' with rfl | rfl
  · exact ⟨he.defers, v, hr a w he hs, hR w hs⟩
  · exact ⟨he.defers, v, hr a w he hs, hR w hs⟩
theorem results_eq (rs : List ResultVar) (h : fn.results = rs.toArray) (tmps : Array Value) : results fn tmps = (do
    let vs ← rs.toArray.mapM (resS tmps)
    pure (if h : vs.size = 1 then vs[0] else .tuple vs)) := by
  unfold results
  rw [h]
  rfl
theorem res0 (h : fn.results = #[]) : ∀ a w, En c.n E a → St c.Dc c.D c.w0 L F w → (results fn a.tmps).run P w = .ok (.tuple #[]) w := fun a w _ _ => by simp [results, h]
theorem res1 {r v} (h : fn.results = #[r]) (h1 : Rv P c E L F r v) : ∀ a w, En c.n E a → St c.Dc c.D c.w0 L F w → (results fn a.tmps).run P w = .ok v w := fun a w he hs => by
  rw [results_eq [r] h]
  simp [h1 a w he hs]
theorem res2 {r s v u} (h : fn.results = #[r, s]) (h1 : Rv P c E L F r v) (h2 : Rv P c E L F s u) : ∀ a w, En c.n E a → St c.Dc c.D c.w0 L F w → (results fn a.tmps).run P w = .ok (.tuple (List.toArray [v, u])) w := fun a w he hs => by
  rw [results_eq [r, s] h]
  simp [Sem.run_bind, Result.andThen, h1 a w he hs, h2 a w he hs]
theorem res3 {r s t v u x} (h : fn.results = #[r, s, t]) (h1 : Rv P c E L F r v) (h2 : Rv P c E L F s u) (h3 : Rv P c E L F t x) : ∀ a w, En c.n E a → St c.Dc c.D c.w0 L F w → (results fn a.tmps).run P w = .ok (.tuple (List.toArray [v, u, x])) w := fun a w he hs => by
  rw [results_eq [r, s, t] h]
  simp [Sem.run_bind, Result.andThen, h1 a w he hs, h2 a w he hs, h3 a w he hs]

/-- The post 'RetV'. -/
theorem RetV.mk {Dc w0 L F w v} (hs : St Dc [] w0 L F w) : RetV w0 v (.returned v) w := ⟨rfl, hs.keep⟩
/-- The post 'Ret'. -/
theorem Ret.mk {Dc D w0 L F w} {α : Type} {val : α → Value} {Φ : α → World → Prop} (x : α) (hs : St Dc D w0 L F w) (h : ∀ w, F w → New w0 L w → Φ x w) : Ret Dc D w0 val Φ (.returned (val x)) w :=
  ⟨x, rfl, hs.keep, hs.out.mono fun w h' => h w h'.1 h'.2⟩

theorem RetV.eq {Dc w0 L F w v v'} (h : v = v') (hs : St Dc [] w0 L F w) : RetV w0 v' (.returned v) w := ⟨by rw [h], hs.keep⟩
theorem Ret.eq {Dc D w0 L F w v} {α : Type} {val : α → Value} {Φ : α → World → Prop} (x : α) (hv : v = val x) (hs : St Dc D w0 L F w) (h : ∀ w, F w → New w0 L w → Φ x w) : Ret Dc D w0 val Φ (.returned v) w :=
  ⟨x, by rw [hv], hs.keep, hs.out.mono fun w h' => h w h'.1 h'.2⟩
/-- How a walk begins: nothing is owned. -/
theorem enter {f : FuncId} {code : Code} {vs : List Value} {w : World} {R : Ending → World → Prop} {n : Nat} (Dc : List Nat) (hf : P.funcs[f]? = some fn) (hb : fn.body = some code) (hnt : fn.ntmps = n) (hd : ∀ k ∈ Dc, k < w.heap.size) (hF : Fut Dc w F) (hn : Nat.ble vs.length n = true)
    (h : Sc P (bodyPost P fn R) ⟨n, Dc, [], w⟩ code (argE 0 vs) [] F) : Calls P f vs.toArray w R :=
  calls_of_wp hf hb (h _ _ (by subst hnt; exact En.enter hn) ⟨Keep.refl _ _, by simp, hd, by simp, by simp [keys], by simpa [keys] using hF⟩)
end
end Go.Eng

namespace Go.Eng
/-! ### a region that draws its order -/
section
variable {P : Program} {c : Cx} {E : List (Nat × Value)} {L Ls : Own} {F Fs : World → Prop} {ops : Array Oper} {Q : Exit → Act → World → Prop} {o : Oper} {fuel : Nat} {listed : Array Bool}

/-- What is left of the region, whatever order the tape picks; Ls and Fs are what its loads lean on. -/
def Sd (P : Program) (ops : Array Oper) (Q : Exit → Act → World → Prop) (c : Cx) (Ls : Own) (Fs : World → Prop) (fuel : Nat) (listed : Array Bool) (E : List (Nat × Value)) (L : Own) (F : World → Prop) : Prop :=
  ∀ a w, En c.n E a → St c.Dc c.D c.w0 L F w → St c.Dc c.D c.w0 Ls Fs w → wpAnyH P .any ops Q (St c.Dc c.D c.w0 Ls Fs) fuel listed a w
/-- Operation i comes up next. -/
def Sp (P : Program) (ops : Array Oper) (Q : Exit → Act → World → Prop) (c : Cx) (Ls : Own) (Fs : World → Prop) (fuel : Nat) (listed : Array Bool) (E : List (Nat × Value)) (L : Own) (F : World → Prop) (i : Nat) : Prop :=
  ∀ a w, En c.n E a → St c.Dc c.D c.w0 L F w → St c.Dc c.D c.w0 Ls Fs w →
    wpOp P ops Q i (fun a' w' => St c.Dc c.D c.w0 Ls Fs w' ∧ wpAnyH P .any ops Q (St c.Dc c.D c.w0 Ls Fs) fuel (listed.setIfInBounds i true) a' w') a w

theorem Sc.draw {id : Nat} {l : List Oper} (hm : P.follows .mixedOrders = true) (hS : ∀ w, St c.Dc c.D c.w0 L F w → St c.Dc c.D c.w0 Ls Fs w) (h : Sd P l.toArray Q c Ls Fs l.toArray.size (Array.replicate l.toArray.size false) E L F) : Sc P Q c (.region id l.toArray true) E L F :=
  fun a _ he hs => wp_region_held hm (h a _ he hs.drew (hS _ hs.drew))
theorem Sd.freeze (i : Nat) {b : Nat} {ob : Obj} (hi : L[i]? = some (some b, ob)) (hb : c.w0.heap.size ≤ b) (k : Sd P ops Q c Ls Fs fuel listed E (L.eraseIdx i) (fun w => F w ∧ w.heap[b]? = some ob)) : Sd P ops Q c Ls Fs fuel listed E L F :=
  fun a w he hs hS => k a w he (hs.freeze hi hb) hS
theorem Sd.done (hr : Region.ready .any ops listed = []) (h : Sx Q c .normal E L F) : Sd P ops Q c Ls Fs fuel listed E L F := fun a w he hs _ => wpAnyH_done hr (h a w he hs) _
theorem Sd.take {d v} (i : Nat) (hi : ops[i]? = some o) (hd : o.dst = some d) (hn : Nat.blt d c.n = true) (hs : Region.noSelect ops = true) (hf : Region.free .any ops listed i = true) (hr : (Region.ready .any ops listed).contains i = true)
    (hQ : ∀ ch a d v w, Q (.panic ch) (a.put d v) w → Q (.panic ch) a w) (hw : Want ops c E o) (hy : Yld P c E Ls Fs o v) (k : Sd P ops Q c Ls Fs fuel (listed.setIfInBounds i true) ((d, v) :: E) L F) : Sd P ops Q c Ls Fs (fuel + 1) listed E L F :=
  fun a w he hst hS => wpAnyH_take hi hs hf hr (fun ch a' w' => hQ ch a' _ _ w') (.inl ⟨hw a he, fun w' hw' => hy a w' he hw'⟩) hS (by rw [hd]; exact k _ _ (he.put hn) hst hS)
theorem Sd.takeSkip {d} (i : Nat) (hi : ops[i]? = some o) (hd : o.dst = some d) (hn : Nat.blt d c.n = true) (hs : Region.noSelect ops = true) (hf : Region.free .any ops listed i = true) (hr : (Region.ready .any ops listed).contains i = true)
    (hQ : ∀ ch a d v w, Q (.panic ch) (a.put d v) w → Q (.panic ch) a w) (hw : Skip ops c E o) (k : Sd P ops Q c Ls Fs fuel (listed.setIfInBounds i true) ((d, undef) :: E) L F) : Sd P ops Q c Ls Fs (fuel + 1) listed E L F :=
  fun a w he hst hS => wpAnyH_take hi hs hf hr (fun ch a' w' => hQ ch a' _ _ w') (.inr ⟨hw a he, rfl⟩) hS (by rw [hd]; exact k _ _ (he.put hn) hst hS)
theorem Sd.all (rs : List Nat) (hr : Region.ready .any ops listed = rs) (hne : rs ≠ []) (h : ∀ i ∈ rs, Sp P ops Q c Ls Fs fuel listed E L F i) : Sd P ops Q c Ls Fs (fuel + 1) listed E L F :=
  fun a w he hst hS => wpAnyH_all hr hne fun i hi => h i hi a w he hst hS
theorem all_nil {p : Nat → Prop} : ∀ i ∈ ([] : List Nat), p i := fun _ h => by cases h
theorem all_cons {p : Nat → Prop} {i : Nat} {r : List Nat} (h : p i) (hr : ∀ j ∈ r, p j) : ∀ j ∈ i :: r, p j := fun j hj => by
  rcases List.mem_cons.1 hj with rfl | hj
  · exact h
  · exact hr j hj

theorem Sp.go {i : Nat} (hi : ops[i]? = some o) (hw : Want ops c E o)
    (h : ∀ a w, En c.n E a → St c.Dc c.D c.w0 L F w → St c.Dc c.D c.w0 Ls Fs w → o.wp P a w (fun a' w' => St c.Dc c.D c.w0 Ls Fs w' ∧ wpAnyH P .any ops Q (St c.Dc c.D c.w0 Ls Fs) fuel (listed.setIfInBounds i true) a' w') Q) : Sp P ops Q c Ls Fs fuel listed E L F i :=
  fun a w he hs hS => by
    unfold wpOp
    simp only [hi, hw a he, if_true]
    exact .inl (h a w he hs hS)
theorem Sp.skip {i d} (hi : ops[i]? = some o) (hd : o.dst = some d) (hn : Nat.blt d c.n = true) (hw : Skip ops c E o) (k : Sd P ops Q c Ls Fs fuel (listed.setIfInBounds i true) ((d, undef) :: E) L F) : Sp P ops Q c Ls Fs fuel listed E L F i :=
  fun a w he hs hS => by
    unfold wpOp
    simp only [hi, hw a he, Bool.false_eq_true, if_false, hd]
    exact ⟨hS, k _ _ (he.put hn) hs hS⟩
theorem Sp.y {i d v} (hi : ops[i]? = some o) (hd : o.dst = some d) (hn : Nat.blt d c.n = true) (hw : Want ops c E o) (hy : Yld P c E L F o v) (k : Sd P ops Q c Ls Fs fuel (listed.setIfInBounds i true) ((d, v) :: E) L F) : Sp P ops Q c Ls Fs fuel listed E L F i :=
  Sp.go hi hw fun a w he hs hS => by
    unfold Oper.wp
    rw [hy a w he hs, Oper.upon_value, hd]
    exact ⟨hS, k _ _ (he.put hn) hs hS⟩
theorem Sp.chg {i d} {β : Type} {C : β → Prop} {v : β → Value} {L' : β → Own} {F' : β → World → Prop} (hi : ops[i]? = some o) (hd : o.dst = some d) (hn : Nat.blt d c.n = true) (hw : Want ops c E o)
    (hc : Chg P c E L F o C (fun x => .value (v x)) L' F') (hS' : ∀ x, C x → ∀ w, St c.Dc c.D c.w0 (L' x) (F' x) w → St c.Dc c.D c.w0 Ls Fs w) (k : ∀ x, C x → Sd P ops Q c Ls Fs fuel (listed.setIfInBounds i true) ((d, v x) :: E) (L' x) (F' x)) : Sp P ops Q c Ls Fs fuel listed E L F i :=
  Sp.go hi hw fun a w he hs _ => by
    obtain ⟨x, w', hx, hr, hs'⟩ := hc a w he hs
    unfold Oper.wp
    rw [hr, Oper.upon_value, hd]
    exact ⟨hS' x hx _ hs', k x hx _ _ (he.put hn) hs' (hS' x hx _ hs')⟩
theorem Sp.chgs {i} {β : Type} {C : β → Prop} {L' : β → Own} {F' : β → World → Prop} (hi : ops[i]? = some o) (hd : o.dst = none) (hw : Want ops c E o)
    (hc : Chg P c E L F o C (fun _ => .skip) L' F') (hS' : ∀ x, C x → ∀ w, St c.Dc c.D c.w0 (L' x) (F' x) w → St c.Dc c.D c.w0 Ls Fs w) (k : ∀ x, C x → Sd P ops Q c Ls Fs fuel (listed.setIfInBounds i true) E (L' x) (F' x)) : Sp P ops Q c Ls Fs fuel listed E L F i :=
  Sp.go hi hw fun a w he hs _ => by
    obtain ⟨x, w', hx, hr, hs'⟩ := hc a w he hs
    unfold Oper.wp
    rw [hr, Oper.upon_skip, hd]
    exact ⟨hS' x hx _ hs', k x hx _ _ he.put_none hs' (hS' x hx _ hs')⟩
theorem Sp.callV {i d f vs v} (hi : ops[i]? = some o) (hd : o.dst = some d) (hn : Nat.blt d c.n = true) (hw : Want ops c E o) (hc : Cal P c E L F o f vs)
    (hf : ∀ w, St c.Dc c.D c.w0 L F w → Calls P f vs.toArray w (RetV w v)) (k : Sd P ops Q c Ls Fs fuel (listed.setIfInBounds i true) ((d, v) :: E) L F) : Sp P ops Q c Ls Fs fuel listed E L F i :=
  Sp.go hi hw fun a w he hs hS => by
    unfold Oper.wp
    rw [hc a w he hs, Oper.upon_enter]
    refine (hf w hs).mono fun e w' ⟨h1, h2⟩ => ?_
    subst h1
    simp only [hd]
    exact ⟨hS.after h2, k _ _ (he.put hn) (hs.after h2) (hS.after h2)⟩
theorem Sp.callR {i d f vs} {α : Type} {val : α → Value} {Φ : α → World → Prop} (hi : ops[i]? = some o) (hd : o.dst = some d) (hn : Nat.blt d c.n = true) (hw : Want ops c E o) (hc : Cal P c E L F o f vs)
    (hf : ∀ w, St c.Dc c.D c.w0 L F w → Calls P f vs.toArray w (Ret (c.Dc ++ keys L) [] w val Φ)) (k : ∀ x, Sd P ops Q c Ls Fs fuel (listed.setIfInBounds i true) ((d, val x) :: E) L (fun w => F w ∧ Φ x w)) : Sp P ops Q c Ls Fs fuel listed E L F i :=
  Sp.go hi hw fun a w he hs hS => by
    unfold Oper.wp
    rw [hc a w he hs, Oper.upon_enter]
    refine (hf w hs).mono fun e w' ⟨x, h1, h2, h3⟩ => ?_
    subst h1
    simp only [hd]
    exact ⟨hS.after h2, k x _ _ (he.put hn) ((hs.after h2).and h3) (hS.after h2)⟩
/-- The region's loads lean on these blocks of L and on F. -/
theorem St.lean {Dc D w0 L Ls F Fs w} (is : List Nat) (hn : is.Nodup) (hF : ∀ w, F w → Fs w) (h : St Dc D w0 L F w) (hL : Ls = Eng.pick L is) : St Dc D w0 Ls Fs w := by rw [hL]; exact (h.pick hn).mono hF
end

/-! ### what operations on numbers and the like come to -/
section
variable {P : Program} {xt : TypeId} {x y : Operand}
theorem eqGuard_int (op : BinOp) (k j : IntKind) (a b : Int) (w : World) : (eqGuard op xt x y (.int k a) (.int j b)).run P w = .ok () w := by
  unfold eqGuard; cases op <;> rfl
theorem eqGuard_bool (op : BinOp) (a b : Bool) (w : World) : (eqGuard op xt x y (.bool a) (.bool b)).run P w = .ok () w := by
  unfold eqGuard; cases op <;> rfl
theorem eqGuard_str (op : BinOp) (a b : ByteArray) (w : World) : (eqGuard op xt x y (.string a) (.string b)).run P w = .ok () w := by
  unfold eqGuard; cases op <;> rfl
theorem bin_of {op vx vy v} (h1 : ∀ w, (eqGuard op xt x y vx vy).run P w = .ok () w) (h2 : ∀ w, (binOp op xt vx vy).run P w = .ok v w) : ∀ w, (do eqGuard op xt x y vx vy; binOp op xt vx vy : Sem Value).run P w = .ok v w := fun w => by
  simp [Sem.run_bind, h1 w, h2 w, Result.andThen]
theorem B.lt (k : IntKind) (a b : Int) : ∀ w, (do eqGuard .lss xt x y (.int k a) (.int k b); binOp .lss xt (.int k a) (.int k b) : Sem Value).run P w = .ok (.bool (decide (a < b))) w :=
  bin_of (eqGuard_int _ _ _ _ _) fun w => by simp [binOp, Op.intCmp]
theorem B.le (k : IntKind) (a b : Int) : ∀ w, (do eqGuard .leq xt x y (.int k a) (.int k b); binOp .leq xt (.int k a) (.int k b) : Sem Value).run P w = .ok (.bool (decide (a ≤ b))) w :=
  bin_of (eqGuard_int _ _ _ _ _) fun w => by simp [binOp, Op.intCmp]
theorem B.gt (k : IntKind) (a b : Int) : ∀ w, (do eqGuard .gtr xt x y (.int k a) (.int k b); binOp .gtr xt (.int k a) (.int k b) : Sem Value).run P w = .ok (.bool (decide (b < a))) w :=
  bin_of (eqGuard_int _ _ _ _ _) fun w => by simp [binOp, Op.intCmp]
theorem B.ge (k : IntKind) (a b : Int) : ∀ w, (do eqGuard .geq xt x y (.int k a) (.int k b); binOp .geq xt (.int k a) (.int k b) : Sem Value).run P w = .ok (.bool (decide (b ≤ a))) w :=
  bin_of (eqGuard_int _ _ _ _ _) fun w => by simp [binOp, Op.intCmp]
theorem B.eq (k : IntKind) (a b : Int) : ∀ w, (do eqGuard .eql xt x y (.int k a) (.int k b); binOp .eql xt (.int k a) (.int k b) : Sem Value).run P w = .ok (.bool (decide (a = b))) w :=
  bin_of (eqGuard_int _ _ _ _ _) fun w => by
    simp only [binOp, Op.intCmp, ne_eq, not_true, if_false]; rfl
theorem B.ne (k : IntKind) (a b : Int) : ∀ w, (do eqGuard .neq xt x y (.int k a) (.int k b); binOp .neq xt (.int k a) (.int k b) : Sem Value).run P w = .ok (.bool (decide (a ≠ b))) w :=
  bin_of (eqGuard_int _ _ _ _ _) fun w => by
    have : (a != b) = decide (a ≠ b) := by by_cases h : a = b <;> simp [h, bne]
    simp only [binOp, Op.intCmp, ne_eq, not_true, if_false, this]; rfl
theorem B.add (k : IntKind) (a b r : Int) (h : k.wrap (a + b) = r) : ∀ w, (do eqGuard .add xt x y (.int k a) (.int k b); binOp .add xt (.int k a) (.int k b) : Sem Value).run P w = .ok (.int k r) w :=
  bin_of (eqGuard_int _ _ _ _ _) fun w => by simp [binOp, Op.intArith, h]
theorem B.sub (k : IntKind) (a b r : Int) (h : k.wrap (a - b) = r) : ∀ w, (do eqGuard .sub xt x y (.int k a) (.int k b); binOp .sub xt (.int k a) (.int k b) : Sem Value).run P w = .ok (.int k r) w :=
  bin_of (eqGuard_int _ _ _ _ _) fun w => by simp [binOp, Op.intArith, h]
theorem B.mul (k : IntKind) (a b r : Int) (h : k.wrap (a * b) = r) : ∀ w, (do eqGuard .mul xt x y (.int k a) (.int k b); binOp .mul xt (.int k a) (.int k b) : Sem Value).run P w = .ok (.int k r) w :=
  bin_of (eqGuard_int _ _ _ _ _) fun w => by simp [binOp, Op.intArith, h]
theorem B.quo (k : IntKind) (a b r : Int) (hb : b ≠ 0) (h : k.wrap (a.tdiv b) = r) : ∀ w, (do eqGuard .quo xt x y (.int k a) (.int k b); binOp .quo xt (.int k a) (.int k b) : Sem Value).run P w = .ok (.int k r) w :=
  bin_of (eqGuard_int _ _ _ _ _) fun w => by simp [binOp, Op.intDiv, h, hb]
theorem B.rem (k : IntKind) (a b r : Int) (hb : b ≠ 0) (h : a.tmod b = r) : ∀ w, (do eqGuard .rem xt x y (.int k a) (.int k b); binOp .rem xt (.int k a) (.int k b) : Sem Value).run P w = .ok (.int k r) w :=
  bin_of (eqGuard_int _ _ _ _ _) fun w => by simp [binOp, Op.intDiv, h, hb]
theorem B.shr (k j : IntKind) (a b r : Int) (hb : 0 ≤ b) (h : a.fdiv (2 ^ (min b.toNat k.bits)) = r) : ∀ w, (do eqGuard .shr xt x y (.int k a) (.int j b); binOp .shr xt (.int k a) (.int j b) : Sem Value).run P w = .ok (.int k r) w :=
  bin_of (eqGuard_int _ _ _ _ _) fun w => by simp [binOp, Op.shift, h, Int.not_lt.2 hb]
theorem B.shl (k j : IntKind) (a b r : Int) (hb : 0 ≤ b) (h : k.wrap (a * 2 ^ (min b.toNat k.bits)) = r) : ∀ w, (do eqGuard .shl xt x y (.int k a) (.int j b); binOp .shl xt (.int k a) (.int j b) : Sem Value).run P w = .ok (.int k r) w :=
  bin_of (eqGuard_int _ _ _ _ _) fun w => by simp [binOp, Op.shift, h, Int.not_lt.2 hb]
theorem B.bits (op : BinOp) (k : IntKind) (a b r : Int) (ho : op = .and ∨ op = .or ∨ op = .xor ∨ op = .andNot) (h : ∀ w, (Op.intBits op k a b).run P w = .ok (.int k r) w) : ∀ w, (do eqGuard op xt x y (.int k a) (.int k b); binOp op xt (.int k a) (.int k b) : Sem Value).run P w = .ok (.int k r) w :=
  bin_of (eqGuard_int _ _ _ _ _) fun w => by rcases ho with rfl | rfl | rfl | rfl <;> simp [binOp, h]
theorem U.not (b : Bool) : ∀ w, (Op.unary .not (.bool b)).run P w = .ok (.bool (!b)) w := fun w => by simp [Op.unary]
theorem U.neg (k : IntKind) (a r : Int) (h : k.wrap (0 - a) = r) : ∀ w, (Op.unary .neg (.int k a)).run P w = .ok (.int k r) w := fun w => by simp only [Op.unary, Op.intArith, h]; rfl
theorem V.int {s t : TypeId} {j k : IntKind} {a r : Int} {ds} (hs : P.underlying s = some ds) (ht : P.underlying t = some (.int k)) (h : k.wrap a = r) : ∀ w, (convert s t (.int j a)).run P w = .ok (.int k r) w := fun w => by
  simp [convert, Sem.run_bind, run_underlying hs, run_underlying ht, Result.andThen, Conv.intToInt, h]

/-! equality -/
/-- x == y comes to b, at type t. -/
def Eqs (P : Program) (n : Nat) (t : TypeId) (x y : Value) (b : Bool) : Prop := ∀ d w, n ≤ d → (Op.equalIn d t x y).run P w = .ok b w
theorem Eqs.int {t k a b} (h : P.underlying t = some (.int k)) : Eqs P 1 t (.int k a) (.int k b) (decide (a = b)) := fun d w hd => by
  obtain ⟨d, rfl⟩ : ∃ e, d = e + 1 := ⟨d - 1, by omega⟩
  rw [show decide (a = b) = (a == b) from rfl]
  exact run_equalIn_int (P := P) w d t k k a b h
theorem Eqs.bool {t a b} (h : P.underlying t = some .bool) : Eqs P 1 t (.bool a) (.bool b) (a == b) := fun d w hd => by
  obtain ⟨d, rfl⟩ : ∃ e, d = e + 1 := ⟨d - 1, by omega⟩
  exact run_equalIn_bool (P := P) w d t a b h
theorem Eqs.str {t a b} (h : P.underlying t = some .string) : Eqs P 1 t (.string a) (.string b) (a.data.toList == b.data.toList) := fun d w hd => by
  obtain ⟨d, rfl⟩ : ∃ e, d = e + 1 := ⟨d - 1, by omega⟩
  rw [← ByteArray.toList_eq, ← ByteArray.toList_eq]
  exact run_equalIn_string (P := P) w d t a b h
def EqF (P : Program) (n : Nat) (xs ys : List Value) (fs : List Field) (b : Bool) : Prop := ∀ d w, n ≤ d → (Op.eqFields d xs.toArray ys.toArray fs).run P w = .ok b w
theorem EqF.nil {n xs ys} : EqF P n xs ys [] true := fun d w _ => by simp [Op.eqFields]
theorem EqF.cons {n xs ys f fs b r u v} (hn : (f.name == "_") = false) (ha : ∀ w, (isAgg f.type).run P w = .ok false w) (hx : xs[f.offset]? = some u) (hy : ys[f.offset]? = some v)
    (h : Eqs P n f.type u v b) (hr : EqF P n xs ys fs r) : EqF P n xs ys (f :: fs) (b && r) := fun d w hd => by
  have hn' : f.name ≠ "_" := by simpa using hn
  have px : (part f.type xs.toArray f.offset).run P w = .ok u w := by
    simp [part, Sem.run_bind, ha, Result.andThen, hx]
  have py : (part f.type ys.toArray f.offset).run P w = .ok v w := by
    simp [part, Sem.run_bind, ha, Result.andThen, hy]
  unfold Op.eqFields
  rw [if_pos hn']
  simp only [Sem.run_bind, px, py, h d w hd, Result.andThen]
  cases b
  · simp
  · simpa using hr d w hd
theorem EqF.consN {n xs ys f fs b r us vs sz} (hn : (f.name == "_") = false) (ha : ∀ w, (isAgg f.type).run P w = .ok true w) (hz : ∀ w, (sizeOf f.type).run P w = .ok sz w) (hx : (xs.drop f.offset).take sz = us) (hy : (ys.drop f.offset).take sz = vs)
    (h : Eqs P n f.type (.agg us.toArray) (.agg vs.toArray) b) (hr : EqF P n xs ys fs r) : EqF P n xs ys (f :: fs) (b && r) := fun d w hd => by
  have hn' : f.name ≠ "_" := by simpa using hn
  have px : (part f.type xs.toArray f.offset).run P w = .ok (.agg us.toArray) w := by
    rw [← hx]; simp [part, Sem.run_bind, ha, Result.andThen, hz, List.extract]
  have py : (part f.type ys.toArray f.offset).run P w = .ok (.agg vs.toArray) w := by
    rw [← hy]; simp [part, Sem.run_bind, ha, Result.andThen, hz, List.extract]
  unfold Op.eqFields
  rw [if_pos hn']
  simp only [Sem.run_bind, px, py, h d w hd, Result.andThen]
  cases b
  · simp
  · simpa using hr d w hd
theorem Eqs.struct {n t xs ys b fs} (ht : P.underlying t = some (.struct (List.toArray fs))) (hp : P.stoodInHeld t = false) (h : EqF P n xs ys fs b) : Eqs P (n + 1) t (.agg xs.toArray) (.agg ys.toArray) b := fun d w hd => by
  obtain ⟨d, rfl⟩ : ∃ e, d = e + 1 := ⟨d - 1, by omega⟩
  have hf : P.fieldsOf t = fs.toArray := by simp [Program.fieldsOf, ht]
  rw [run_equalIn_struct (P := P) w d t _ _ (by rw [hf]; exact ht) hp, hf]
  exact h d w (by omega)
theorem B.eqS {n t xs ys b} (hg : P.eqGuardType P.depth t = false) (h : Eqs P n t (.agg xs) (.agg ys) b) (hn : Nat.ble n 10000 = true) : ∀ w, (do eqGuard .eql t x y (.agg xs) (.agg ys); binOp .eql t (.agg xs) (.agg ys) : Sem Value).run P w = .ok (.bool b) w :=
  bin_of (fun w => run_eqGuard_agg w _ _ _ _ _ _ hg) fun w => by rw [run_eql_struct, h 10000 w (by simpa using hn)]; rfl
theorem B.neS {n t xs ys b} (hg : P.eqGuardType P.depth t = false) (h : Eqs P n t (.agg xs) (.agg ys) b) (hn : Nat.ble n 10000 = true) : ∀ w, (do eqGuard .neq t x y (.agg xs) (.agg ys); binOp .neq t (.agg xs) (.agg ys) : Sem Value).run P w = .ok (.bool (!b)) w :=
  bin_of (fun w => run_eqGuard_agg w _ _ _ _ _ _ hg) fun w => by rw [run_neq_struct, h 10000 w (by simpa using hn)]; rfl
theorem B.eqB (a b : Bool) (h : P.underlying xt = some .bool) : ∀ w, (do eqGuard .eql xt x y (.bool a) (.bool b); binOp .eql xt (.bool a) (.bool b) : Sem Value).run P w = .ok (.bool (a == b)) w :=
  bin_of (eqGuard_bool _ _ _) fun w => by simp only [binOp, Op.equal, Sem.run_bind, (Eqs.bool h) Op.maxDepth w (by decide), Result.andThen]; rfl
theorem B.neB (a b : Bool) (h : P.underlying xt = some .bool) : ∀ w, (do eqGuard .neq xt x y (.bool a) (.bool b); binOp .neq xt (.bool a) (.bool b) : Sem Value).run P w = .ok (.bool (!(a == b))) w :=
  bin_of (eqGuard_bool _ _ _) fun w => by simp only [binOp, Op.equal, Sem.run_bind, (Eqs.bool h) Op.maxDepth w (by decide), Result.andThen]; rfl

theorem B.eqStr (a b : ByteArray) : ∀ w, (do eqGuard .eql xt x y (.string a) (.string b); binOp .eql xt (.string a) (.string b) : Sem Value).run P w = .ok (.bool (a.data.toList == b.data.toList)) w :=
  bin_of (eqGuard_str _ _ _) fun w => by simp only [binOp, Op.stringOp, ByteArray.toList_eq]; rfl
theorem B.neStr (a b : ByteArray) : ∀ w, (do eqGuard .neq xt x y (.string a) (.string b); binOp .neq xt (.string a) (.string b) : Sem Value).run P w = .ok (.bool (!(a.data.toList == b.data.toList))) w :=
  bin_of (eqGuard_str _ _ _) fun w => by simp only [binOp, Op.stringOp, ByteArray.toList_eq]; rfl
/-! addresses -/
theorem A.field {s : TypeId} {fs : List Field} {f : Field} {i b o o' sz : Nat} (hs : P.underlying s = some (.struct (List.toArray fs))) (hf : fs[i]? = some f) (hz : ∀ w, (sizeOf f.type).run P w = .ok sz w) (h0 : Nat.beq sz 0 = false) (ho : o + f.offset = o') :
    ∀ w, (Instr.fieldAt s (.pointer (some ⟨b, o, none⟩)) i).run P w = .ok (.pointer (some ⟨b, o', none⟩)) w := fun w => by
  have h0' : sz ≠ 0 := fun e => by subst e; simp at h0
  simp [Instr.fieldAt, Sem.run_bind, run_underlying hs, Result.andThen, hf, Instr.sureAddr, fieldPlace, hz, h0', add_none, ho]
theorem A.index {t e : TypeId} {b o n m sz o' : Nat} {k : IntKind} {i : Int} (ht : P.underlying t = some (.slice e)) (hz : ∀ w, (sizeOf e).run P w = .ok sz w) (h0 : 0 ≤ i) (hl : i < n) (ho : o + i.toNat * sz = o') :
    ∀ w, (Instr.indexAt t (.slice (some ⟨b, o, none⟩) n m) (.int k i)).run P w = .ok (.pointer (some ⟨b, o', none⟩)) w := fun w => by
  simp [Instr.indexAt, Sem.run_bind, run_underlying ht, Result.andThen, asIntOf, hz, h0, hl, add_none, ho]
theorem A.indexArr {t e : TypeId} {b o n sz o' : Nat} {k : IntKind} {i : Int} (ht : P.underlying t = some (.array n e)) (hz : ∀ w, (sizeOf e).run P w = .ok sz w) (h0 : 0 ≤ i) (hl : i < n) (ho : o + i.toNat * sz = o') :
    ∀ w, (Instr.indexAt t (.pointer (some ⟨b, o, none⟩)) (.int k i)).run P w = .ok (.pointer (some ⟨b, o', none⟩)) w := fun w => by
  simp [Instr.indexAt, Sem.run_bind, run_underlying ht, Result.andThen, asIntOf, hz, h0, hl, add_none, ho, Instr.sureAddr]
theorem run_len {a n m tys ty k} {t e : TypeId} (h : tys[0]? = some t) (ht : P.underlying t = some (.slice e)) : ∀ w, (builtin .len tys ty k (List.toArray [.slice a n m])).run P w = .ok (.value (.int .i64 n)) w := fun w => by
  simp [builtin, Builtin.len_, Sem.run_bind, h, run_underlying ht, Result.andThen, goInt]
theorem run_lenS {s tys ty k} {t : TypeId} (h : tys[0]? = some t) (ht : P.underlying t = some .string) : ∀ w, (builtin .len tys ty k (List.toArray [.string s])).run P w = .ok (.value (.int .i64 s.size)) w := fun w => by
  simp [builtin, Builtin.len_, Sem.run_bind, h, run_underlying ht, Result.andThen, goInt]
end
end Go.Eng

namespace Go.Eng
/-! ### slices and maps that are made; look-ups -/
section
variable {P : Program} {c : Cx} {E : List (Nat × Value)} {L : Own} {F : World → Prop} {d : Option Tmp} {ty : TypeId} {ps : String} {af : Array Edge} {g : Option (Nat × Bool)}

theorem C.buildSlice {t e : TypeId} {n : Nat} {xs : List (Nat × Operand)} {vs cs} (hx : evp E xs = some vs)
    (hr : ∀ w : World, (Instr.buildSlice t n vs.toArray).run P w = .ok (.slice (some ⟨w.heap.size, 0, none⟩) n n) { w with heap := w.heap.push (.cells (List.toArray cs) e (0, 0)) }) :
    Chg P c E L F ⟨d, .buildSlice t n xs.toArray, ty, ps, af, g⟩ (fun b => c.w0.heap.size ≤ b) (fun b => .value (.slice (some ⟨b, 0, none⟩) n n)) (fun b => (some b, .cells cs.toArray e (0, 0)) :: L) (fun _ => F) := fun a w he hs => by
  have e' : (xs.toArray.map fun (x : Nat × Operand) => (x.1, a.eval x.2)) = vs.toArray := by
    rw [← he.evalp hx]; simp
  refine ⟨w.heap.size, _, hs.keep.size, ?_, hs.alloc (.cells cs.toArray e (0, 0))⟩
  simp only [execOp]
  refine run_v ?_
  rw [show (Array.map (fun x => match x with | (i, x) => (i, a.eval x)) xs.toArray) = vs.toArray from e']
  exact hr w
theorem C.makeMap {t : TypeId} : Chg P c E L F ⟨d, .makeMap t none, ty, ps, af, g⟩ (fun b => c.w0.heap.size ≤ b) (fun b => .value (.map (some b))) (fun b => (some b, .map (List.toArray []) 0) :: L) (fun _ => F) := fun a w he hs => by
  refine ⟨w.heap.size, _, hs.keep.size, ?_, hs.alloc (.map (List.toArray []) 0)⟩
  simp only [execOp]
  rfl
theorem run_getMap {w : World} {b : Nat} {es : Array MapEntry} {k : Nat} (h : w.heap[b]? = some (.map es k)) : (getObj b).run P w = .ok (.map es k) w := by
  simp [getObj, Sem.run, h]
theorem run_setObj {w : World} {b : Nat} {es : Array MapEntry} {k : Nat} (o : Obj) (h : w.heap[b]? = some (.map es k)) : (setObj b o).run P w = .ok () { w with heap := w.heap.setIfInBounds b o } := by
  simp [setObj, Sem.run, h]
/-- A new key. -/
theorem C.mapNew {t kt et : TypeId} {x y z vy vz b es clock} (i : Nat) (hx : ev E x = some (.map (some b))) (hy : ev E y = some vy) (hz : ev E z = some vz) (hi : L[i]? = some (some b, .map (List.toArray es) clock)) (ht : P.underlying t = some (.map kt et))
    (hk : ∀ w, (Instr.checkKey false 10000 kt vy).run P w = .ok () w) (hf : ∀ w, (Instr.findKey kt vy es).run P w = .ok none w) :
    Chg P c E L F ⟨d, .mapUpdate t x y z, ty, ps, af, g⟩ (fun (_ : Unit) => True) (fun _ => .skip) (fun _ => L.set i (some b, .map (es ++ [MapEntry.mk vy vz clock]).toArray (clock + 1))) (fun _ => F) := fun a w he hs => by
  have hown := (hs.own _ (List.mem_of_getElem? hi) b rfl).2
  have hlt := lt_of_get hown
  refine ⟨(), { w with heap := w.heap.setIfInBounds b (.map (es ++ [MapEntry.mk vy vz clock]).toArray (clock + 1)) }, trivial, ?_, hs.write hi ⟨rfl, rfl, rfl, by simp⟩ (by simp [hlt]) (fun k hk' => by simp only [Array.getElem?_setIfInBounds]; rw [if_neg (fun e : b = k => hk' e.symm)])⟩
  simp only [execOp, he.eval hx, he.eval hy, he.eval hz]
  refine run_u ?_
  simp [Instr.mapUpdate, Sem.run_bind, run_underlying ht, Result.andThen, run_getMap hown, hk, hf, run_setObj _ hown]
/-- A look-up, whatever the map is known by. -/
theorem Y.lookup {t kt et : TypeId} {x y vx vy v ok} (hx : ev E x = some vx) (hy : ev E y = some vy) (hr : ∀ w, St c.Dc c.D c.w0 L F w → (Instr.lookup t vx vy ok).run P w = .ok v w) (_ht : P.underlying t = some (.map kt et)) :
    Yld P c E L F ⟨d, .lookup t x y ok, ty, ps, af, g⟩ v := fun a w he hs => by
  simp only [execOp, he.eval hx, he.eval hy]; exact run_v (hr w hs)
theorem run_lookup {t kt et : TypeId} {b es clock vy w i v} (ok : Bool) (hw : w.heap[b]? = some (.map (List.toArray es) clock)) (ht : P.underlying t = some (.map kt et)) (hk : (Instr.checkKey es.isEmpty 10000 kt vy).run P w = .ok () w)
    (hf : (Instr.findKey kt vy es).run P w = .ok (some (i, v)) w) : (Instr.lookup t (.map (some b)) vy ok).run P w = .ok (if ok then .tuple (List.toArray [v, .bool true]) else v) w := by
  simp [Instr.lookup, Sem.run_bind, run_underlying ht, Result.andThen, run_getMap hw, hk, hf]
theorem run_lookup_none {t kt et : TypeId} {b es clock vy w z} (ok : Bool) (hw : w.heap[b]? = some (.map (List.toArray es) clock)) (ht : P.underlying t = some (.map kt et)) (hk : (Instr.checkKey es.isEmpty 10000 kt vy).run P w = .ok () w)
    (hf : (Instr.findKey kt vy es).run P w = .ok none w) (hz : (zeroValue et).run P w = .ok z w) : (Instr.lookup t (.map (some b)) vy ok).run P w = .ok (if ok then .tuple (List.toArray [z, .bool false]) else z) w := by
  simp [Instr.lookup, Sem.run_bind, run_underlying ht, Result.andThen, run_getMap hw, hk, hf, hz]
/-- No key of the list is equal to k. -/
theorem run_findAsking_none {kt : TypeId} {k : Value} {w : World} : ∀ {es : List MapEntry} {i : Nat}, (∀ e ∈ es, Eqs P 10000 kt k e.key false) → (Instr.findAsking kt k es i).run P w = .ok none w
  | [], i, _ => rfl
  | e :: r, i, h => by
    have h0 := h e (by simp) Op.maxDepth w (by decide)
    have hr := run_findAsking_none (w := w) (es := r) (i := i + 1) (fun e' he' => h e' (by simp [he']))
    unfold Instr.findAsking
    simp [Sem.run_bind, Op.equal, h0, Result.andThen, hr]
theorem Eqs.mono {n m t x y b} (h : Eqs P n t x y b) (hn : n ≤ m) : Eqs P m t x y b := fun d w hd => h d w (Nat.le_trans hn hd)
/-- The keys are structs. -/
theorem run_findKey_struct {kt : TypeId} {fs : Array Field} {k : Value} {w : World} {es : List MapEntry} {r} (ht : P.underlying kt = some (.struct fs)) (h : (Instr.findAsking kt k es 0).run P w = .ok r w) : (Instr.findKey kt k es).run P w = .ok r w := by
  have hn : ∀ (es' : List MapEntry) (j : Nat), es' ≠ [] → Instr.findNow (.struct fs) k es' j = none := fun es' j hne => by
    cases es' with
    | nil => exact absurd rfl hne
    | cons e r => simp [Instr.findNow, Instr.sameNow]
  cases es with
  | nil =>
    unfold Instr.findAsking at h
    simp [Instr.findKey, run_underlying ht, Result.andThen, Instr.findNow] at h ⊢
    exact h
  | cons e es' =>
    simp [Instr.findKey, Sem.run_bind, run_underlying ht, Result.andThen, hn (e :: es') 0 (by simp), h]
end
end Go.Eng

namespace Go.Eng
/-! ### numbers that fit -/
theorem wr_i64 {x : Int} (h : -9223372036854775808 ≤ x ∧ x ≤ 9223372036854775807) : IntKind.i64.wrap x = x := by
  simp only [IntKind.wrap, IntKind.bits, IntKind.signed, Nat.reduceSub]; simp; omega
theorem wr_i32 {x : Int} (h : -2147483648 ≤ x ∧ x ≤ 2147483647) : IntKind.i32.wrap x = x := by
  simp only [IntKind.wrap, IntKind.bits, IntKind.signed, Nat.reduceSub]; simp; omega
theorem wr_u8 {x : Int} (h : 0 ≤ x ∧ x ≤ 255) : IntKind.u8.wrap x = x := by
  simp only [IntKind.wrap, IntKind.bits, IntKind.signed, Nat.reduceSub]; simp; omega
theorem wr_u16 {x : Int} (h : 0 ≤ x ∧ x ≤ 65535) : IntKind.u16.wrap x = x := by
  simp only [IntKind.wrap, IntKind.bits, IntKind.signed, Nat.reduceSub]; simp; omega
theorem wr_u32 {x : Int} (h : 0 ≤ x ∧ x ≤ 4294967295) : IntKind.u32.wrap x = x := by
  simp only [IntKind.wrap, IntKind.bits, IntKind.signed, Nat.reduceSub]; simp; omega
theorem wr_u64 {x : Int} (h : 0 ≤ x ∧ x ≤ 18446744073709551615) : IntKind.u64.wrap x = x := by
  simp only [IntKind.wrap, IntKind.bits, IntKind.signed, Nat.reduceSub]; simp; omega

/-! ### slices that are read -/
def sadr : Option Addr → Addr
  | some a => a
  | none => ⟨0, 0, none⟩
/-- The slice at a holds the list xs, an element in sz cells. -/
def RowV (sz : Nat) {α : Type} (enc : α → List Value) (a : Option Addr) (xs : List α) (w : World) : Prop :=
  ∀ (i : Nat) (x : α), xs[i]? = some x → a = some ⟨(sadr a).block, (sadr a).off, none⟩ ∧ ∀ (j : Nat) (v : Value), (enc x)[j]? = some v → w.cell? ⟨(sadr a).block, (sadr a).off + i * sz + j, none⟩ = some v

theorem RowV.nil {sz : Nat} {α : Type} {enc : α → List Value} {a : Option Addr} {w : World} : RowV sz enc a [] w := fun i x h => by simp at h
theorem flatMap_get {α : Type} {sz : Nat} {enc : α → List Value} (hsz : ∀ x, (enc x).length = sz) : ∀ (xs : List α) (i : Nat) (x : α) (j : Nat) (v : Value), xs[i]? = some x → (enc x)[j]? = some v → (xs.flatMap enc)[i * sz + j]? = some v
  | [], i, x, j, v, h, _ => by simp at h
  | y :: r, 0, x, j, v, h, hj => by
    simp at h
    subst h
    have hlt : j < (enc y).length := (List.getElem?_eq_some_iff.1 hj).1
    simp [List.flatMap_cons, List.getElem?_append_left hlt, hj]
  | y :: r, i + 1, x, j, v, h, hj => by
    simp at h
    have := flatMap_get hsz r i x j v h hj
    rw [List.flatMap_cons, List.getElem?_append_right (by rw [hsz]; have : (i + 1) * sz = i * sz + sz := Nat.succ_mul i sz; omega), hsz]
    rw [show (i + 1) * sz + j - sz = i * sz + j by have : (i + 1) * sz = i * sz + sz := Nat.succ_mul i sz; omega]
    exact this
/-- A block that holds the list's elements one after the other. -/
theorem RowV.block {sz : Nat} {α : Type} {enc : α → List Value} {b : Nat} {xs : List α} {cs : List Value} {T : TypeId} {fr : Nat × Nat} {w : World} (hsz : ∀ x, (enc x).length = sz) (h : w.heap[b]? = some (.cells cs.toArray T fr)) (rest : List Value) (hc : cs = xs.flatMap enc ++ rest) : RowV sz enc (some ⟨b, 0, none⟩) xs w := fun i x hi => by
  refine ⟨rfl, fun j v hj => ?_⟩
  have hg := flatMap_get hsz xs i x j v hi hj
  show w.cell? ⟨b, 0 + i * sz + j, none⟩ = _
  rw [cell_of h, hc, Nat.zero_add, List.getElem?_append_left (List.getElem?_eq_some_iff.1 hg).1]
  exact hg
section
variable {P : Program} {c : Cx} {E : List (Nat × Value)} {L : Own} {F : World → Prop} {d : Option Tmp} {ty : TypeId} {ps : String} {af : Array Edge} {g : Option (Nat × Bool)}
/-- The address of an element. -/
theorem Y.elemAddr {t e x y a n m b o o' sz} {k : IntKind} {i : Int} (hx : ev E x = some (.slice a n m)) (hy : ev E y = some (.int k i)) (ht : P.underlying t = some (.slice e)) (hz : ∀ w, (sizeOf e).run P w = .ok sz w)
    (ha : ∀ w, F w → a = some ⟨b, o, none⟩) (h0 : 0 ≤ i) (hl : i < n) (ho : o + i.toNat * sz = o') : Yld P c E L F ⟨d, .indexAddr t x y, ty, ps, af, g⟩ (.pointer (some ⟨b, o', none⟩)) := fun a' w he hs => by
  have e1 := ha w hs.fut.now
  subst e1
  exact Y.indexAddr hx hy (A.index ht hz h0 hl ho) a' w he hs
theorem Y.loadF1 {t x ad v} (hx : ev E x = some (.pointer (some ad))) (ha : ∀ w, (isAgg t).run P w = .ok false w) (hf : ∀ w, F w → w.cell? ad = some v) : Yld P c E L F ⟨d, .load t x, ty, ps, af, g⟩ v :=
  Y.load hx fun w hs => run_load1 (ha w) (hf w hs.fut.now)
theorem Y.loadFN {t x b o sz} {vs : List Value} (hx : ev E x = some (.pointer (some ⟨b, o, none⟩))) (ha : ∀ w, (isAgg t).run P w = .ok true w) (hz : ∀ w, (sizeOf t).run P w = .ok sz w) (hl : vs.length = sz)
    (hf : ∀ w, F w → ∀ (j : Nat) (v : Value), vs[j]? = some v → w.cell? ⟨b, o + j, none⟩ = some v) : Yld P c E L F ⟨d, .load t x, ty, ps, af, g⟩ (.agg vs.toArray) :=
  Y.load hx fun w hs => run_loadN (ha w) (hz w) hl (hf w hs.fut.now)
end
theorem blk_cells {w : World} {b o n : Nat} {cs vs : List Value} {T : TypeId} {fr : Nat × Nat} (h : w.heap[b]? = some (.cells cs.toArray T fr)) (hv : (cs.drop o).take n = vs) : ∀ (j : Nat) (v : Value), vs[j]? = some v → w.cell? ⟨b, o + j, none⟩ = some v := fun j v hj => by
  rw [cell_of h]
  rw [← hv] at hj
  have hlt : j < n := by
    have := (List.getElem?_eq_some_iff.1 hj).1
    simp at this; omega
  rw [List.getElem?_take_of_lt hlt, List.getElem?_drop] at hj
  exact hj
theorem getD_some {α : Type} {xs : List α} {k : Nat} (d : α) (h : k < xs.length) : xs[k]? = some (xs.getD k d) := by
  simp [List.getD_eq_getElem?_getD, List.getElem?_eq_getElem h]
theorem New.get {w0 : World} {L : Own} {w : World} (h : New w0 L w) (i : Nat) {b : Nat} {o : Obj} (hi : L[i]? = some (some b, o)) (hb : w0.heap.size ≤ b) : w.heap[b]? = some o := h _ (List.mem_of_getElem? hi) b rfl hb
def encI (x : Int) : List Value := [.int .i64 x]
end Go.Eng

namespace Go.Eng
/-! ### append onto a slice that the call owns (or onto nil) -/
theorem St.of_mem {Dc D w0 L L' F w} (h : St Dc D w0 L F w) (hs : ∀ x ∈ L', x ∈ L) (hn : (keys L').Nodup) : St Dc D w0 L' F w :=
  ⟨h.keep, h.sub, h.dc, fun x hx => h.own x (hs x hx), hn, h.fut.less fun k hk => by
    rcases List.mem_append.1 hk with m | m
    · exact List.mem_append.2 (.inl m)
    · obtain ⟨x, hx, e⟩ := mem_keys.1 m
      exact List.mem_append.2 (.inr (mem_keys.2 ⟨x, hs x hx, e⟩))⟩
theorem nodup_set_new {b : Nat} {o : Obj} : ∀ {L : Own} {i : Nat}, (keys L).Nodup → b ∉ keys L → (keys (L.set i (some b, o))).Nodup
  | [], i, h, _ => by simpa using h
  | x :: r, 0, h, hb => by
    rw [keys_cons] at h hb
    rw [List.set_cons_zero, keys_cons]
    cases hx : x.1 with
    | none => simp only [hx] at h hb; exact List.nodup_cons.2 ⟨hb, h⟩
    | some d => simp only [hx] at h hb; exact List.nodup_cons.2 ⟨fun m => hb (List.mem_cons_of_mem _ m), (List.nodup_cons.1 h).2⟩
  | x :: r, i + 1, h, hb => by
    rw [keys_cons] at h hb
    rw [List.set_cons_succ, keys_cons]
    cases hx : x.1 with
    | none => simp only [hx] at h hb; exact nodup_set_new h hb
    | some d =>
      simp only [hx] at h hb
      have h' := List.nodup_cons.1 h
      refine List.nodup_cons.2 ⟨fun m => ?_, nodup_set_new h'.2 fun m => hb (List.mem_cons_of_mem _ m)⟩
      obtain ⟨y, hy, e⟩ := mem_keys.1 m
      rcases List.mem_or_eq_of_mem_set hy with hy | rfl
      · exact h'.1 (mem_keys.2 ⟨y, hy, e⟩)
      · cases e; exact hb (by simp)
theorem setAt_append : ∀ (ys xs sp : List Value), ys.length ≤ sp.length → setAt (xs ++ sp) xs.length ys = xs ++ ys ++ sp.drop ys.length
  | [], xs, sp, _ => by simp [setAt]
  | y :: r, xs, [], h => by simp at h
  | y :: r, xs, z :: sp, h => by
    simp only [List.length_cons] at h
    have := setAt_append r (xs ++ [y]) sp (by omega)
    simp only [setAt, List.set_append_right _ _ (Nat.le_refl _), Nat.sub_self, List.set_cons_zero, List.length_cons, List.drop_succ_cons]
    simp only [List.length_append, List.length_cons, List.length_nil, Nat.zero_add, List.append_assoc, List.cons_append, List.nil_append] at this ⊢
    exact this
theorem nextcap_le (a b : Nat) (h : b < a) : Builtin.nextslicecap a b ≤ 3 * a + 4000 := by
  have grow : ∀ r c, Builtin.growBy a r c ≤ max (c) (2 * a + 800) := by
    intro r
    induction r with
    | zero => intro c; simp [Builtin.growBy]; omega
    | succ r ih =>
      intro c
      unfold Builtin.growBy
      split
      · omega
      · have := ih (c + (c + 768) / 4)
        omega
  unfold Builtin.nextslicecap
  split
  · omega
  · split
    · omega
    · have := grow 4 b
      omega

def mkA (b : Nat) : Addr := ⟨b, 0, none⟩
section
variable {P : Program} {c : Cx} {E : List (Nat × Value)} {L : Own} {F : World → Prop} {d : Option Tmp} {ty : TypeId} {ps : String} {af : Array Edge} {g : Option (Nat × Bool)}

theorem run_cells {w : World} {b : Nat} {o : Nat} {vs : List Value} (h : ∀ (j : Nat) (v : Value), vs[j]? = some v → w.cell? ⟨b, o + j, none⟩ = some v) : (loadCells ⟨b, o, none⟩ vs.length).run P w = .ok vs.toArray w :=
  run_loadCells_list (P := P) w ⟨b, o, none⟩ vs (fun j v hj => by rw [add_none]; exact h j v hj)

/-- What an append leaves: the block (none: still nil), how many more elements it takes, and what lies there. -/
def App (w0 : World) (sz n : Nat) (x : Option Nat × Nat × List Value) : Prop :=
  x.2.2.length = x.2.1 * sz ∧ (x.1 = none → n = 0 ∧ x.2.1 = 0) ∧ ∀ b, x.1 = some b → w0.heap.size ≤ b
theorem App.nil (w0 : World) (sz : Nat) : App w0 sz 0 (none, 0, []) := ⟨by simp, by simp, by simp⟩
theorem App.full {w0 : World} {sz n b : Nat} (hb : w0.heap.size ≤ b) : App w0 sz n (some b, 0, []) := ⟨by simp, by simp, fun _ h => by cases h; exact hb⟩

theorem C.append {t et t2 : TypeId} {x y : Operand} {ob : Option Nat} {n free m sz bytes : Nat} {a : Option Addr} {m2 : Nat} {xs ys spare : List Value} {z : Value} (i : Nat)
    (hx : ev E x = some (.slice (ob.map mkA) n (n + free))) (hy : ev E y = some (.slice a m m2))
    (hi : L[i]? = some (ob, .cells (List.toArray (xs ++ spare)) et (0, 0))) (hxs : xs.length = n * sz) (happ : App c.w0 sz n (ob, free, spare)) (hys : ys.length = m * sz) (h1 : ys.all one1 = true)
    (hread : ∀ w, St c.Dc c.D c.w0 L F w → m = 0 ∨ ∃ b o, a = some ⟨b, o, none⟩ ∧ ∀ (j : Nat) (v : Value), ys[j]? = some v → w.cell? ⟨b, o + j, none⟩ = some v)
    (ht : P.underlying t = some (.slice et)) (ht2 : P.underlying t2 = some (.slice et)) (hz : ∀ w, (sizeOf et).run P w = .ok sz w) (hzero : ∀ w, (zeroValue et).run P w = .ok z w) (hzs : z.cells.size = sz) (hinfo : ∃ inf, P.info? et = some inf ∧ inf.bytes = bytes)
    (hbound : (3 * (n + m) + 4000) * bytes ≤ 281474976710656) (hnm : n + m ≤ 9223372036854775807) :
    Chg P c E L F ⟨d, .call ⟨.builtin .append, #[x, y], #[t, t2]⟩, ty, ps, af, g⟩ (App c.w0 sz (n + m)) (fun r => .value (.slice (r.1.map mkA) (n + m) (n + m + r.2.1)))
      (fun r => L.set i (r.1, .cells (List.toArray (xs ++ ys ++ r.2.2)) et (0, 0))) (fun _ => F) := fun a' w he hs => by
  obtain ⟨hsp, hnil, hge⟩ := happ
  obtain ⟨inf, hinf, hby⟩ := hinfo
  simp only at hsp hnil hge
  -- the cells that are appended
  have hnew : (Builtin.firstCells sz m (.slice a m m2)).run P w = .ok ys.toArray w := by
    rcases hread w hs with h0 | ⟨b, o, rfl, hc⟩
    · subst h0
      have : ys = [] := List.length_eq_zero_iff.1 (by simpa using hys)
      subst this
      cases a with
      | none => simp [Builtin.firstCells]
      | some ad => simp [Builtin.firstCells, loadCells, loadCellsFrom]
    · simp only [Builtin.firstCells]
      rw [← hys]
      exact run_cells hc
  by_cases hfit : n + m ≤ n + free
  · -- there is room
    cases ob with
    | none =>
      obtain ⟨hn0, hf0⟩ := hnil rfl
      have hm0 : m = 0 := by omega
      subst hn0; subst hf0; subst hm0
      have hys0 : ys = [] := List.length_eq_zero_iff.1 (by simpa using hys)
      have hxs0 : xs = [] := List.length_eq_zero_iff.1 (by simpa using hxs)
      have hsp0 : spare = [] := List.length_eq_zero_iff.1 (by simpa using hsp)
      subst hys0; subst hxs0; subst hsp0
      refine ⟨(none, 0, []), w, ⟨by simp, by simp, by simp⟩, ?_, ?_⟩
      · simp only [execOp, resolve, invoke, builtin, pure_bind, List.map_toArray, List.map_cons, List.map_nil, he.eval hx, he.eval hy]
        refine run_v ?_
        simp [Builtin.append_, Sem.run_bind, run_underlying ht, run_underlying ht2, Result.andThen, hz, Builtin.lenOf, hnew]
      · refine hs.of_mem (fun x hx => ?_) ?_
        · rcases List.mem_or_eq_of_mem_set hx with h | rfl
          · exact h
          · exact List.mem_of_getElem? hi
        · have : L.set i (none, .cells (List.toArray ([] ++ [] ++ [])) et (0, 0)) = L := by
            apply List.ext_getElem?
            intro j
            by_cases hj : i = j
            · subst hj; rw [hi, List.getElem?_set_self (List.getElem?_eq_some_iff.1 hi).1]; rfl
            · rw [List.getElem?_set_ne hj]
          show (keys (L.set i (none, .cells (List.toArray ([] ++ [] ++ [])) et (0, 0)))).Nodup
          rw [this]; exact hs.nodup
    | some b =>
      have hown := (hs.own _ (List.mem_of_getElem? hi) b rfl).2
      have hmul : (n + m) * sz ≤ (n + free) * sz := Nat.mul_le_mul_right _ hfit
      have hl : ys.length ≤ spare.length := by
        rw [hys, hsp]
        have e1 : (n + m) * sz = n * sz + m * sz := Nat.add_mul _ _ _
        have e2 : (n + free) * sz = n * sz + free * sz := Nat.add_mul _ _ _
        omega
      obtain ⟨w', hr, hw, hg, hk⟩ := run_storeAt (P := P) (b := b) (o := n * sz) (T := et) ys 0 (xs ++ spare) w hown h1 (by simp only [List.length_append]; omega)
      rw [Nat.add_zero, ← hxs, setAt_append ys xs spare hl] at hg
      refine ⟨(some b, free - m, spare.drop ys.length), w', ⟨?_, by simp, hge⟩, ?_, hs.write hi hw hg hk⟩
      · simp only [List.length_drop, hys, hsp]
        rw [Nat.sub_mul]
      · simp only [execOp, resolve, invoke, builtin, pure_bind, List.map_toArray, List.map_cons, List.map_nil, he.eval hx, he.eval hy, Option.map_some]
        refine run_v ?_
        have e3 : n + m + (free - m) = n + free := by omega
        have hadd : (mkA b).add (n * sz) = ⟨b, n * sz, none⟩ := by unfold mkA; rw [add_none, Nat.zero_add]
        have hfit' : m ≤ free := by omega
        simp [Builtin.append_, Sem.run_bind, run_underlying ht, run_underlying ht2, Result.andThen, hz, Builtin.lenOf, hnew, hfit', hadd, hr, e3]
  · -- it grows
    have hold : (Builtin.firstCells sz n (.slice (ob.map mkA) n (n + free))).run P w = .ok xs.toArray w := by
      cases ob with
      | none =>
        obtain ⟨hn0, hf0⟩ := hnil rfl
        subst hn0
        have hxs0 : xs = [] := List.length_eq_zero_iff.1 (by simpa using hxs)
        subst hxs0
        simp [Builtin.firstCells]
      | some b =>
        have hown := (hs.own _ (List.mem_of_getElem? hi) b rfl).2
        simp only [Builtin.firstCells, Option.map_some]
        rw [← hxs]
        refine run_cells (b := b) (o := 0) fun j v hj => ?_
        rw [cell_of hown, Nat.zero_add, List.getElem?_append_left (List.getElem?_eq_some_iff.1 hj).1]
        exact hj
    have hcap : Builtin.nextslicecap (n + m) (n + free) * inf.bytes ≤ 281474976710656 := by
      have := Nat.mul_le_mul_right bytes (nextcap_le (n + m) (n + free) (by omega))
      rw [hby]
      omega
    have hcap' : ¬ (281474976710656 < Builtin.nextslicecap (n + m) (n + free) * inf.bytes) := by omega
    let q : Question := .appendCap (n + m) (n + free) et
    let nc := q.cut (w.tape w.drawn q)
    let rest := Builtin.zeroCells z.cells (nc - (n + m))
    have hnc : n + m ≤ nc := by show n + m ≤ (n + m) + _; omega
    let w1 : World := w.drew
    let o : Obj := .cells (xs.toArray ++ ys.toArray ++ rest) et (0, 0)
    have hs1 : St c.Dc c.D c.w0 L F w1 := hs.drew
    have hs2 := hs1.alloc o
    have hrest : rest.toList.length = (nc - (n + m)) * sz := by
      show (Builtin.zeroCells z.cells (nc - (n + m))).toList.length = _
      simp [Builtin.zeroCells, hzs]
    refine ⟨(some w.heap.size, nc - (n + m), rest.toList), { w1 with heap := w1.heap.push o }, ⟨hrest, by simp, fun b hb => by cases hb; exact hs.keep.size⟩, ?_, ?_⟩
    · simp only [execOp, resolve, invoke, builtin, pure_bind, List.map_toArray, List.map_cons, List.map_nil, he.eval hx, he.eval hy]
      refine run_v ?_
      have hf : ¬ (m ≤ free) := by omega
      have e4 : n + m + (nc - (n + m)) = nc := by omega
      have hinfo' : ∀ w, (typeInfo et).run P w = .ok inf w := fun w => by simp [typeInfo, Sem.run_bind, run_program, Result.andThen, hinf]
      have hch : (choose q).run P w = .ok nc w1 := by simp [choose, Sem.run, Question.forced, q, nc, w1]
      have hask : ∀ k w, (askRoom k).run P w = .ok () w := fun k w => by unfold askRoom; split <;> rfl
      have hold1 : (Builtin.firstCells sz n (.slice (ob.map mkA) n (n + free))).run P w1 = .ok xs.toArray w1 := by
        cases ob with
        | none =>
          obtain ⟨hn0, hf0⟩ := hnil rfl
          subst hn0
          have hxs0 : xs = [] := List.length_eq_zero_iff.1 (by simpa using hxs)
          subst hxs0
          simp [Builtin.firstCells]
        | some b =>
          have hown := (hs1.own _ (List.mem_of_getElem? hi) b rfl).2
          simp only [Builtin.firstCells, Option.map_some]
          rw [← hxs]
          refine run_cells (b := b) (o := 0) fun j v hj => ?_
          rw [cell_of hown, Nat.zero_add, List.getElem?_append_left (List.getElem?_eq_some_iff.1 hj).1]
          exact hj
      have hnew1 : (Builtin.firstCells sz m (.slice a m m2)).run P w1 = .ok ys.toArray w1 := by
        rcases hread w1 hs1 with h0 | ⟨b, o, rfl, hc⟩
        · subst h0
          have : ys = [] := List.length_eq_zero_iff.1 (by simpa using hys)
          subst this
          cases a with
          | none => simp [Builtin.firstCells]
          | some ad => simp [Builtin.firstCells, loadCells, loadCellsFrom]
        · simp only [Builtin.firstCells]
          rw [← hys]
          exact run_cells hc
      have hrow : ∀ cs, (newRow et cs).run P w1 = .ok ⟨w1.heap.size, 0, none⟩ { w1 with heap := w1.heap.push (.cells cs et (0, 0)) } := fun cs => rfl
      have hbig : ¬ (9223372036854775807 < (n : Int) + (m : Int)) := by omega
      have hz1 : (match P.underlying t2 with | some (TypeDesc.int _) => true | _ => false) = false := by rw [ht2]
      unfold Builtin.append_
      simp only [List.getElem?_toArray, List.getElem?_cons_zero, List.getElem?_cons_succ, Sem.run_bind, run_underlying ht, run_underlying ht2, Result.andThen, hz, Builtin.lenOf, Sem.run_pure, Bool.false_eq_true, if_false]
      have hfit2 : ¬ (n + m ≤ n + free) := hfit
      have hmax : ¬ (((n + m : Nat) : Int) > IntKind.i64.max) := by simp [IntKind.max, IntKind.bits, IntKind.signed]; omega
      simp only [if_neg hfit2, hinfo', hmax, false_and, if_false, Sem.run_bind, Result.andThen]
      rw [if_neg (show ¬ (Builtin.nextslicecap (n + m) (n + free) * inf.bytes > 2 ^ 48) by simpa using hcap')]
      simp only [Sem.run_bind, Sem.run_pure, Result.andThen, show (choose (.appendCap (n + m) (n + free) et)).run P w = .ok nc w1 from hch, hask, hold1, hzero, hinfo']
      have hnew2 : (Builtin.firstCells sz m (.slice a m m2)).run P w.drew = .ok ys.toArray w.drew := hnew1
      have hrow2 : ∀ cs, (newRow et cs).run P w.drew = .ok ⟨w.heap.size, 0, none⟩ { w.drew with heap := w.drew.heap.push (.cells cs et (0, 0)) } := fun cs => rfl
      simp [e4, w1, hnew2, hrow2]
      simp [o, rest, mkA]
    · have hset : xs.toArray ++ ys.toArray ++ rest = (xs ++ ys ++ rest.toList).toArray := by
        apply Array.ext'; simp
      have : St c.Dc c.D c.w0 (L.set i (some w.heap.size, o)) F { w1 with heap := w1.heap.push o } := by
        refine hs2.of_mem (fun x hx => ?_) (nodup_set_new hs.nodup fun hm => Nat.lt_irrefl _ (hs.key_lt hm))
        rcases List.mem_or_eq_of_mem_set hx with h | rfl
        · exact List.mem_cons_of_mem _ h
        · exact List.mem_cons_self
      show St c.Dc c.D c.w0 (L.set i (some w.heap.size, .cells (xs ++ ys ++ rest.toList).toArray et (0, 0))) F _
      rw [← hset]
      exact this
theorem flatMap_length {α : Type} {sz : Nat} {enc : α → List Value} (hsz : ∀ x, (enc x).length = sz) (xs : List α) : (xs.flatMap enc).length = xs.length * sz := by
  induction xs with
  | nil => simp
  | cons x r ih => rw [List.flatMap_cons, List.length_append, hsz, ih, List.length_cons, Nat.succ_mul]; omega
theorem flatMap_all {α : Type} {enc : α → List Value} (h : ∀ x, (enc x).all one1 = true) (xs : List α) : (xs.flatMap enc).all one1 = true := by
  induction xs with
  | nil => rfl
  | cons x r ih => rw [List.flatMap_cons, List.all_append, h, ih]; rfl

/-- An append of the list bs to the list acc. -/
theorem C.appendL {α : Type} {enc : α → List Value} {t et t2 : TypeId} {x y : Operand} {ob : Option Nat} {free sz bytes : Nat} {a : Option Addr} {m2 : Nat} {acc bs : List α} {spare : List Value} {z : Value} (i : Nat)
    (hsz : ∀ x, (enc x).length = sz) (hone : ∀ x, (enc x).all one1 = true)
    (hx : ev E x = some (.slice (ob.map mkA) acc.length (acc.length + free))) (hy : ev E y = some (.slice a bs.length m2))
    (hi : L[i]? = some (ob, .cells (List.toArray (acc.flatMap enc ++ spare)) et (0, 0))) (happ : App c.w0 sz acc.length (ob, free, spare))
    (hread : ∀ w, St c.Dc c.D c.w0 L F w → bs.length = 0 ∨ ∃ b o, a = some ⟨b, o, none⟩ ∧ ∀ (j : Nat) (v : Value), (bs.flatMap enc)[j]? = some v → w.cell? ⟨b, o + j, none⟩ = some v)
    (ht : P.underlying t = some (.slice et)) (ht2 : P.underlying t2 = some (.slice et)) (hz : ∀ w, (sizeOf et).run P w = .ok sz w) (hzero : ∀ w, (zeroValue et).run P w = .ok z w) (hzs : z.cells.size = sz) (hinfo : ∃ inf, P.info? et = some inf ∧ inf.bytes = bytes)
    (hbound : (3 * (acc.length + bs.length) + 4000) * bytes ≤ 281474976710656) (hnm : acc.length + bs.length ≤ 9223372036854775807) :
    Chg P c E L F ⟨d, .call ⟨.builtin .append, #[x, y], #[t, t2]⟩, ty, ps, af, g⟩ (App c.w0 sz (acc ++ bs).length) (fun r => .value (.slice (r.1.map mkA) (acc ++ bs).length ((acc ++ bs).length + r.2.1)))
      (fun r => L.set i (r.1, .cells (List.toArray ((acc ++ bs).flatMap enc ++ r.2.2)) et (0, 0))) (fun _ => F) := by
  have h := C.append (P := P) (c := c) (E := E) (L := L) (F := F) (d := d) (ty := ty) (ps := ps) (af := af) (g := g) (m := bs.length) (ys := bs.flatMap enc) i hx hy hi (flatMap_length hsz acc) happ (flatMap_length hsz bs) (flatMap_all hone bs) hread ht ht2 hz hzero hzs hinfo hbound hnm
  simpa only [List.length_append, List.flatMap_append] using h

/-- A slice that the call made is handed on. -/
theorem row_out {α : Type} {enc : α → List Value} {sz : Nat} {w0 w : World} {ob : Option Nat} {free : Nat} {spare : List Value} {acc : List α} {T : TypeId} (hn : New w0 L w) (i : Nat)
    (hi : L[i]? = some (ob, .cells (List.toArray (acc.flatMap enc ++ spare)) T (0, 0))) (hA : App w0 sz acc.length (ob, free, spare)) (hsz : ∀ x, (enc x).length = sz) : RowV sz enc (ob.map mkA) acc w := by
  cases ob with
  | none =>
    have : acc = [] := List.length_eq_zero_iff.1 (hA.2.1 rfl).1
    subst this
    exact RowV.nil
  | some b => exact RowV.block hsz (hn.get i hi (hA.2.2 b rfl)) spare rfl
/-- A place for a slice that is nil as yet. -/
theorem St.ghost {Dc D w0 L F w} (h : St Dc D w0 L F w) (o : Obj) : St Dc D w0 ((none, o) :: L) F w :=
  ⟨h.keep, h.sub, h.dc, fun x hx b hb => by
    rcases List.mem_cons.1 hx with rfl | hx
    · cases hb
    · exact h.own x hx b hb, h.nodup, h.fut⟩
theorem Sc.ghost {Q : Exit → Act → World → Prop} {code : Code} (o : Obj) (h : Sc P Q c code E ((none, o) :: L) F) : Sc P Q c code E L F := fun a w he hs => h a w he (hs.ghost o)
/-- What is owned becomes a fact, between two pieces of code. -/
theorem Sc.freeze {Q : Exit → Act → World → Prop} {code : Code} (i : Nat) {b : Nat} {o : Obj} (hi : L[i]? = some (some b, o)) (hb : c.w0.heap.size ≤ b) (k : Sc P Q c code E (L.eraseIdx i) (fun w => F w ∧ w.heap[b]? = some o)) : Sc P Q c code E L F :=
  fun a w he hs => k a w he (hs.freeze hi hb)
theorem Seg.ghost {ops : Array Oper} {Q : Exit → Act → World → Prop} {rest : List Oper} (o : Obj) (h : Seg P ops Q c rest E ((none, o) :: L) F) : Seg P ops Q c rest E L F := fun a w he hs => h a w he (hs.ghost o)
theorem info_of {t b : Nat} (h : (P.info? t).map (·.bytes) = some b) : ∃ inf, P.info? t = some inf ∧ inf.bytes = b := by
  cases hi : P.info? t with
  | none => simp [hi] at h
  | some i => simp [hi] at h; exact ⟨i, rfl, h⟩
/-- The cells of a slice that is read, one after the other. -/
theorem RowV.read {α : Type} {sz : Nat} {enc : α → List Value} {a : Option Addr} {xs : List α} {w : World} (h : RowV sz enc a xs w) (hsz : ∀ x, (enc x).length = sz) :
    xs.length = 0 ∨ ∃ b o, a = some ⟨b, o, none⟩ ∧ ∀ (j : Nat) (v : Value), (xs.flatMap enc)[j]? = some v → w.cell? ⟨b, o + j, none⟩ = some v := by
  cases xs with
  | nil => exact .inl rfl
  | cons x r =>
    have ha := (h 0 x rfl).1
    refine .inr ⟨_, _, ha, ?_⟩
    have key : ∀ (ys : List α) (k : Nat), (∀ (i : Nat) (y : α), ys[i]? = some y → ∀ (j : Nat) (v : Value), (enc y)[j]? = some v → w.cell? ⟨(sadr a).block, (sadr a).off + (k + i) * sz + j, none⟩ = some v) →
        ∀ (j : Nat) (v : Value), (ys.flatMap enc)[j]? = some v → w.cell? ⟨(sadr a).block, (sadr a).off + k * sz + j, none⟩ = some v := by
      intro ys
      induction ys with
      | nil => intro k _ j v hj; simp at hj
      | cons y ys ih =>
        intro k hy j v hj
        rw [List.flatMap_cons] at hj
        rcases Nat.lt_or_ge j sz with hlt | hge
        · rw [List.getElem?_append_left (by rw [hsz]; exact hlt)] at hj
          exact hy 0 y rfl j v hj
        · rw [List.getElem?_append_right (by rw [hsz]; exact hge), hsz] at hj
          have := ih (k + 1) (fun i z hz => by
            have := hy (i + 1) z (by simpa using hz)
            rwa [show k + (i + 1) = k + 1 + i by omega] at this) (j - sz) v hj
          rw [show (sadr a).off + (k + 1) * sz + (j - sz) = (sadr a).off + k * sz + j by rw [Nat.succ_mul]; omega] at this
          exact this
    intro j v hj
    have := key (x :: r) 0 (fun i y hy => by rw [Nat.zero_add]; exact (h i y hy).2) j v hj
    simpa using this
/-- An index into an array of integers. -/
theorem run_indexI {t e : TypeId} {n : Nat} {j k : IntKind} {xs : List Int} {i : Int} (ht : P.underlying t = some (.array n e)) (hz : ∀ w, (sizeOf e).run P w = .ok 1 w) (ha : ∀ w, (isAgg e).run P w = .ok false w) (hl : xs.length = n) (h0 : 0 ≤ i) (hi : i < n) :
    ∀ w, (Instr.index t (.agg (List.toArray (xs.map (Value.int k)))) (.int j i)).run P w = .ok (.int k (xs.getD i.toNat 0)) w := fun w => by
  have hlt : i.toNat < xs.length := by omega
  simp [Instr.index, Sem.run_bind, run_underlying ht, Result.andThen, asIntOf, h0, hi, hz, part, ha, List.getD_eq_getElem?_getD, List.getElem?_eq_getElem hlt]
end
end Go.Eng
