/- The operations, part 6: append, copy. -/
import Derived.Test.YtdmdghooamchfaaDoorSxOp5
namespace Go.Sx
set_option linter.all false
open Go
set_option linter.unusedVariables false
set_option linter.unusedSimpArgs false
variable [Ora]

theorem nextcap_le (a b : Nat) (h : b < a) : Builtin.nextslicecap a b ≤ 3 * a + 4000 := by
  have grow : ∀ r c, Builtin.growBy a r c ≤ max (c) (2 * a + 800) := by
    intro r
    induction r with
    | zero => intro c; simp only [Builtin.growBy]; exact Nat.le_max_left _ _
    | succ r ih =>
      intro c
      simp only [Builtin.growBy]
      split
      · exact Nat.le_max_left _ _
      · have := ih (c + (c + 768) / 4)
        refine Nat.le_trans this ?_
        rw [Nat.max_le]
        constructor
        · refine Nat.le_trans ?_ (Nat.le_max_right _ _); omega
        · exact Nat.le_max_right _ _
  unfold Builtin.nextslicecap
  split
  · omega
  · split
    · omega
    · have := grow 4 b
      refine Nat.le_trans this ?_
      rw [Nat.max_le]; omega

section
variable {P : Program} {base : Nat} {ρ : Ren} {m m' : Mem} {w : World}

theorem cell_heap {w wd : World} (h : wd.heap = w.heap) (a : Addr) : wd.cell? a = w.cell? a := by simp [World.cell?, h]

theorem ints_LR (ρ : Ren) : ∀ l : List UInt8, LR ρ (intsOf l) (intsOf l)
  | [] => .nil
  | b :: r => .cons (.pure rfl) (ints_LR ρ r)
/-- The first cells of what is appended or copied. -/
theorem newCells_ok {s k : Nat} {y y' : Value} {new : List Value} (h : HR P base ρ m.H w) (hn : newCells m s y = some (k, new)) (hy : VR ρ y y') :
    (∀ wd, (Builtin.lenOf y').run P wd = .ok k wd) ∧ ∃ new', LR ρ new new' ∧ ∀ wd : World, wd.heap = w.heap → (Builtin.firstCells s k y').run P wd = .ok ⟨new'⟩ wd := by
  unfold newCells at hn
  split at hn
  · rename_i n c
    obtain ⟨h1, h2⟩ := cond_some hn
    have h1 := Nat.eq_of_beq_eq_true h1
    subst h1
    cases h2
    cases inv_sliceN hy
    exact ⟨fun _ => rfl, [], .nil, fun _ _ => rfl⟩
  · rename_i a n c
    split at hn
    · rename_i cs hr
      cases hn
      rcases inv_slice hy with ⟨l, hl, _, _, rfl⟩ | ⟨l, c', hl, _, _, _, _, rfl⟩ | ⟨a', c', _, rfl, _, rfl⟩
      · obtain ⟨r', h1, h2, h3⟩ := read_ok h hr hl
        exact ⟨fun _ => rfl, r', h1, fun wd hw => load_cells h2 fun j v hj => by rw [cell_heap hw]; exact h3 j v hj⟩
      · obtain ⟨r', h1, h2, h3⟩ := read_ok h hr hl
        exact ⟨fun _ => rfl, r', h1, fun wd hw => load_cells h2 fun j v hj => by rw [cell_heap hw]; exact h3 j v hj⟩
      · have : new = [] := by
          unfold readM at hr
          split at hr
          · have := (cutL_eq hr).2; simp at this; exact this
          · cases hr
        subst this
        refine ⟨fun _ => rfl, [], .nil, fun wd _ => ?_⟩
        simp [Builtin.firstCells, loadCells, loadCellsFrom]
    · cases hn
  · rename_i b
    obtain ⟨_, hn⟩ := cond_some hn
    cases hn
    cases inv_str hy
    refine ⟨fun _ => rfl, intsOf b.data.toList, ?_, fun wd _ => ?_⟩
    · exact ints_LR _ _
    · have e : ((b.extract 0 b.size).data.map fun b => Value.int .u8 b.toNat) = ⟨intsOf b.data.toList⟩ := by
        apply Array.ext'; simp [intsOf]
      show (pure ((b.extract 0 b.size).data.map fun b => Value.int .u8 b.toNat) : Sem (Array Value)).run P wd = _
      rw [e]; rfl
  · cases hn

theorem seqD {d : TypeDesc} (h : isSeqD d = true) : (∃ e, d = .slice e) ∨ d = .string := by cases d <;> first | cases h; done | exact .inl ⟨_, rfl⟩ | exact .inr rfl
theorem run_grow {t t2 e : TypeId} {ty : TypeId} {d2 : TypeDesc} {n k c : Nat} {a : Option Addr} {x' z : Value} {inf : TypeInfo} {old' new' : List Value} (hu : P.underlying t = some (.slice e)) (hu2 : P.underlying t2 = some d2) (hd2 : isSeqD d2 = true)
    (hi : P.info? e = some inf) (hz : ∀ w, (zeroValue e).run P w = .ok z w) (hlen : ∀ wd, (Builtin.lenOf x').run P wd = .ok k wd)
    (hold : ∀ wd : World, wd.heap = w.heap → (Builtin.firstCells inf.size n (.slice a n c)).run P wd = .ok ⟨old'⟩ wd) (hnew : ∀ wd : World, wd.heap = w.heap → (Builtin.firstCells inf.size k x').run P wd = .ok ⟨new'⟩ wd)
    (hgt : ¬ n + k ≤ c) (hb : (3 * (n + k) + 4000) * inf.bytes ≤ 281474976710656) (hm : n + k ≤ 1000000000) :
    ∃ nc, n + k ≤ nc ∧ (Builtin.append_ #[t, t2] ty #[.slice a n c, x']).run P w = .ok (.slice (some ⟨w.heap.size, 0, none⟩) (n + k) nc) { w.drew with heap := w.heap.push (.cells (⟨old'⟩ ++ ⟨new'⟩ ++ Builtin.zeroCells z.cells (nc - (n + k))) e (0, 0)) } := by
  have hs : sizeM P e = some inf.size := by simp [sizeM, hi]
  have hcap : Builtin.nextslicecap (n + k) c * inf.bytes ≤ 281474976710656 := by
    have := Nat.mul_le_mul_right inf.bytes (nextcap_le (n + k) c (by omega))
    omega
  let q : Question := .appendCap (n + k) c e
  let nc := q.cut (w.tape w.drawn q)
  have hnc : n + k ≤ nc := by show n + k ≤ (n + k) + _; omega
  refine ⟨nc, hnc, ?_⟩
  have hch : (choose q).run P w = .ok nc w.drew := by
    simp only [choose, Sem.run]
    rw [if_neg (by simp [q, Question.forced])]
    rfl
  have hask : ∀ k w, (askRoom k).run P w = .ok () w := fun k w => by unfold askRoom; split <;> rfl
  unfold Builtin.append_
  rcases seqD hd2 with ⟨e2, rfl⟩ | rfl
  all_goals simp only [List.getElem?_toArray, List.getElem?_cons_zero, List.getElem?_cons_succ, Sem.run_bind, run_und hu, run_und hu2, Result.andThen, run_size hs, Sem.run_pure, Bool.false_eq_true, if_false, hlen]
  all_goals
    have hmax : ¬ (((n + k : Nat) : Int) > IntKind.i64.max) := by simp [IntKind.max, IntKind.bits, IntKind.signed]; omega
    simp only [if_neg hgt, hmax, false_and, if_false, Sem.run_bind, Result.andThen, run_typeInfo' hi]
    rw [if_neg (show ¬ (Builtin.nextslicecap (n + k) c * inf.bytes > 2 ^ 48) by simpa using hcap)]
    have hd : w.drew.heap = w.heap := rfl
    simp only [Sem.run_bind, Sem.run_pure, Result.andThen, show (choose (.appendCap (n + k) c e)).run P w = .ok nc w.drew from hch, hask, hold _ hd, hnew _ hd, hz, run_typeInfo' hi, Bool.not_false, if_true]
    rfl

theorem run_fit {t t2 e : TypeId} {ty : TypeId} {d2 : TypeDesc} {n k c : Nat} {a : Addr} {x' : Value} {inf : TypeInfo} {new' : List Value} {w' : World} (hu : P.underlying t = some (.slice e)) (hu2 : P.underlying t2 = some d2) (hd2 : isSeqD d2 = true)
    (hi : P.info? e = some inf) (hlen : ∀ wd, (Builtin.lenOf x').run P wd = .ok k wd) (hnew : (Builtin.firstCells inf.size k x').run P w = .ok ⟨new'⟩ w)
    (hle : n + k ≤ c) (hst : (storeCells (a.add (n * inf.size)) new').run P w = .ok () w') :
    (Builtin.append_ #[t, t2] ty #[.slice (some a) n c, x']).run P w = .ok (.slice (some a) (n + k) c) w' := by
  have hs : sizeM P e = some inf.size := by simp [sizeM, hi]
  unfold Builtin.append_
  rcases seqD hd2 with ⟨e2, rfl⟩ | rfl
  all_goals simp only [List.getElem?_toArray, List.getElem?_cons_zero, List.getElem?_cons_succ, Sem.run_bind, run_und hu, run_und hu2, Result.andThen, run_size hs, Sem.run_pure, Bool.false_eq_true, if_false, hlen]
  all_goals simp [if_pos hle, Sem.run_bind, hnew, Result.andThen, hst]

theorem run_fit_nil {t t2 e : TypeId} {ty : TypeId} {d2 : TypeDesc} {x' : Value} {inf : TypeInfo} (hu : P.underlying t = some (.slice e)) (hu2 : P.underlying t2 = some d2) (hd2 : isSeqD d2 = true)
    (hi : P.info? e = some inf) (hlen : ∀ wd, (Builtin.lenOf x').run P wd = .ok 0 wd) (hnew : (Builtin.firstCells inf.size 0 x').run P w = .ok #[] w) :
    (Builtin.append_ #[t, t2] ty #[.slice none 0 0, x']).run P w = .ok (.slice none 0 0) w := by
  have hs : sizeM P e = some inf.size := by simp [sizeM, hi]
  unfold Builtin.append_
  rcases seqD hd2 with ⟨e2, rfl⟩ | rfl
  all_goals simp only [List.getElem?_toArray, List.getElem?_cons_zero, List.getElem?_cons_succ, Sem.run_bind, run_und hu, run_und hu2, Result.andThen, run_size hs, Sem.run_pure, Bool.false_eq_true, if_false, hlen]
  all_goals simp [Sem.run_bind, hnew, Result.andThen]

/-- A block is forgotten. -/
theorem St.kill {ab : AB} {id : Nat} (h : HR P base ρ m.H w) (hle : id ≤ most) (hg : Hp.get m.H id = some ab) (hrw : ab.rw = true) : St P base ρ ρ m (killM m id) w w := by
  rw [killM_eq]
  refine ⟨fun _ _ h => h, fun b k h1 h2 => (by rw [h1] at h2; cases h2), Nat.le_refl _, Nat.le_refl _, fun h => h, h.sub fun id2 hid2 a ha => ?_, fun b hb => List.mem_cons_of_mem _ hb, fun b h1 h2 k hk' => ?_, fun k hk' hb' => rfl, Nat.le_refl _, ⟨rfl, rfl, rfl⟩, fun b k h1 h2 => (by rw [h1] at h2; cases h2), fun id2 hid2 h4 h5 => ?_⟩
  · rw [hp_get_set _ _ _ _ hle hid2] at ha
    by_cases e : id2 = id
    · rw [if_pos e] at ha; cases ha
    · rw [if_neg e] at ha; exact ha
  · rcases List.mem_cons.1 h1 with rfl | h1
    · exact ⟨ab, hg, hrw⟩
    · exact absurd h1 h2
  · rw [hp_get_set _ _ _ _ hle hid2, if_neg]
    intro e; subst e; exact h4 List.mem_cons_self

/-- A slice has grown in its own block: the old number is forgotten, a new one takes its place. -/
theorem St.grow {ab ab' : AB} {id : Nat} {l : Loc} {k : Nat → Value} {v : Value} {w' : World} (h : HR P base ρ m.H w) (hle : id ≤ most) (hg : Hp.get m.H id = some ab) (hrw : ab.rw = true) (hl : ρ id = some l)
    (hn : newM (killM m id) ab' k = some (v, m')) (hf : Free ρ m.n m'.hi)
    (ho : w'.os = w.os ∧ w'.tape = w.tape ∧ w'.output = w.output) (hsz : w'.heap.size = w.heap.size) (hk : ∀ k, k ≠ l.blk → w'.heap[k]? = w.heap[k]?) (hb : BR P (upd ρ m.n l) ab' l w') :
    v = k m.n ∧ St P base ρ (upd ρ m.n l) m m' w w' := by
  rw [killM_eq] at hn
  obtain ⟨hnm, hv, rfl⟩ := newM_eq hn
  have hfree : ρ m.n = none := hf m.n (Nat.le_refl _) (upN_le _ _).2
  have hext := upd_ext (l := l) hfree
  obtain ⟨l0, h1, h2, h3⟩ := h.at_ id hle ab hg
  rw [hl] at h1
  have := Option.some.inj h1; subst this
  have hne : id ≠ m.n := fun e => by subst e; rw [hl] at hfree; cases hfree
  have hget : ∀ i, i ≤ most → Hp.get ((m.H.set id none).set m.n (some ab')) i = if i = m.n then some ab' else if i = id then none else Hp.get m.H i := fun i hi => by
    rw [hp_get_set _ _ _ _ hnm hi, hp_get_set _ _ _ _ hle hi]
  refine ⟨hv, hext, fun b q h1 h2 => ?_, Nat.le_succ _, (upN_le _ _).1, fun _ => Nat.succ_le_of_lt (upN_le _ _).2, ⟨fun b q hq => ?_, fun i hi a ha => ?_⟩, fun b hb => List.mem_cons_of_mem _ hb, fun b h1 h2 q hq => ?_, fun q hq hb' => hk q ?_, by rw [hsz]; exact Nat.le_refl _, ho, fun b q h1 h2 => ?_, fun i hi h4 h5 => ?_⟩
  · obtain ⟨rfl, rfl⟩ := upd_inv h1 h2; exact ⟨Nat.le_refl _, Nat.lt_succ_self _⟩
  · rw [hsz]
    cases h0 : ρ b with
    | some q0 =>
      rw [hext b q0 h0] at hq
      have := Option.some.inj hq; subst this
      exact h.dom b q0 h0
    | none => obtain ⟨rfl, rfl⟩ := upd_inv hq h0; exact ⟨hnm, (h.dom id q hl).2⟩
  · have ha : Hp.get ((m.H.set id none).set m.n (some ab')) i = some a := ha
    rw [hget i hi] at ha
    have hdis : ∀ id2, id2 ≤ most → ∀ ab2 l2, Hp.get ((m.H.set id none).set m.n (some ab')) id2 = some ab2 → upd ρ m.n l id2 = some l2 → l2.blk = l.blk → id2 = m.n := fun id2 hid2 ab2 l2 g1 g2 g3 => by
      rw [hget id2 hid2] at g1
      by_cases e2 : id2 = m.n
      · exact e2
      · rw [if_neg e2] at g1
        unfold upd at g2
        rw [if_neg e2] at g2
        by_cases e3 : id2 = id
        · rw [if_pos e3] at g1; cases g1
        · rw [if_neg e3] at g1
          exact absurd ((h3 hrw).2 id2 hid2 ab2 l2 g1 g2 g3) e3
    by_cases e : i = m.n
    · rw [if_pos e] at ha
      have ha := Option.some.inj ha; subst ha; subst e
      exact ⟨l, upd_self _ _ _, hb, fun _ => ⟨(h3 hrw).1, hdis⟩⟩
    · rw [if_neg e] at ha
      by_cases e3 : i = id
      · rw [if_pos e3] at ha; cases ha
      · rw [if_neg e3] at ha
        obtain ⟨l2, g1, g2, g3⟩ := h.at_ i hi a ha
        have hnb : l2.blk ≠ l.blk := fun hh => e3 ((h3 hrw).2 i hi a l2 ha g1 hh)
        refine ⟨l2, hext _ _ g1, g2.mono hext (hk _ hnb), fun hr => ⟨(g3 hr).1, fun id3 hid3 ab3 l3 f1 f2 f3 => ?_⟩⟩
        have f1 : Hp.get ((m.H.set id none).set m.n (some ab')) id3 = some ab3 := f1
        rw [hget id3 hid3] at f1
        by_cases e4 : id3 = m.n
        · subst e4
          rw [upd_self] at f2
          have := Option.some.inj f2; subst this
          exact absurd f3.symm hnb
        · rw [if_neg e4] at f1
          unfold upd at f2
          rw [if_neg e4] at f2
          by_cases e5 : id3 = id
          · rw [if_pos e5] at f1; cases f1
          · rw [if_neg e5] at f1
            exact (g3 hr).2 id3 hid3 ab3 l3 f1 f2 f3
  · rcases List.mem_cons.1 h1 with rfl | h1
    · exact ⟨ab, hg, hrw⟩
    · exact absurd h1 h2
  · exact fun e => hb' id List.mem_cons_self l hl e.symm
  · obtain ⟨rfl, rfl⟩ := upd_inv h1 h2
    exact .inr ⟨id, List.mem_cons_self, q, hl, rfl⟩
  · have hgi := hget i hi
    show Hp.get ((m.H.set id none).set m.n (some ab')) i = _
    rw [hgi, if_neg, if_neg]
    · intro e; subst e; exact h4 List.mem_cons_self
    · intro e; subst e
      rcases h5 with h5 | h5
      · omega
      · have h5 : upN m.hi m.n ≤ m.n := h5
        have := (upN_le m.hi m.n).2; omega

theorem newCells_len {s k : Nat} {y : Value} {new : List Value} {z : Value} (h : HR P base ρ m.H w) (hn : newCells m s y = some (k, new)) (hz : z.cells.size = s) : new.length = k * s := by
  unfold newCells at hn
  split at hn
  · obtain ⟨_, q⟩ := cond_some hn; cases q; simp
  · split at hn
    · rename_i cs hr
      cases hn
      unfold readM at hr
      split at hr
      · exact (cutL_eq hr).2
      · cases hr
    · cases hn
  · rename_i b
    obtain ⟨q1, hn⟩ := cond_some hn
    have q1 := Nat.eq_of_beq_eq_true q1
    subst q1
    cases hn
    simp [intsOf]
  · cases hn
theorem grow_get {new' : List Value} {r : Array Value} {i : Nat} {u : Value} (h : new'[i]? = some u) : (({ toList := [] } : Array Value) ++ ⟨new'⟩ ++ r)[i]? = some u := by
  have hl := (List.getElem?_eq_some_iff.1 h).1
  rw [Array.getElem?_append_left (by simp; exact hl)]
  simpa using h
theorem grow_get2 {old' new' : List Value} {r : Array Value} {i : Nat} {u : Value} (h : (old' ++ new')[i]? = some u) : (({ toList := old' } : Array Value) ++ ⟨new'⟩ ++ r)[i]? = some u := by
  have hl := (List.getElem?_eq_some_iff.1 h).1
  rw [Array.getElem?_append_left (by simpa using hl)]
  simpa using h
theorem grow_size {s k n nc : Nat} {z : Value} {old' new' : List Value} (h1 : new'.length = k * s) (hnc : n + k ≤ nc) (hz : z.cells.size = s) (ho : old'.length = n * s) :
    nc * s ≤ (({ toList := old' } : Array Value) ++ ⟨new'⟩ ++ Builtin.zeroCells z.cells (nc - (n + k))).size := by
  simp [Builtin.zeroCells, ho, h1, hz]
  rw [← Nat.add_mul, ← Nat.add_mul]
  exact Nat.mul_le_mul_right _ (by omega)

theorem appendM_ok {t t2 ty : TypeId} {x y x' y' v : Value} (h : HR P base ρ m.H w) (hb : base ≤ w.heap.size) (ho : appendM P m t t2 x y = some (v, m')) (hf : Free ρ m.n m'.hi) (hx : VR ρ x x') (hy : VR ρ y y') :
    VOk P base ρ m w (Builtin.append_ #[t, t2] ty #[x', y']) v m' := by
  unfold appendM at ho
  split at ho
  · rename_i e d2 hu hu2
    cases hd2 : isSeqD d2 with
    | false => rw [hd2] at ho; cases ho
    | true =>
    rw [hd2] at ho
    simp only [Bool.not_true, cond_false] at ho
    split at ho
    · rename_i inf a n c hi
      split at ho
      · rename_i k new z hnew hz
        obtain ⟨g1, ho⟩ := cond_some ho
        obtain ⟨g1, g4⟩ := boolAnd g1
        obtain ⟨g1, g3⟩ := boolAnd g1
        obtain ⟨g1, g2⟩ := boolAnd g1
        have g1 := Nat.le_of_ble_eq_true g1
        have g2 := Nat.le_of_ble_eq_true g2
        have g3 := Nat.eq_of_beq_eq_true g3
        obtain ⟨hlen, new', hnl, hnr⟩ := newCells_ok h hnew hy
        have hzr : ∀ w, (zeroValue e).run P w = .ok z w := fun w => run_zero hz w
        have hnn : new'.length = k * inf.size := by rw [← hnl.1]; exact newCells_len h hnew g3
        have OPENv : OPEN = 9223372036854775808 := rfl
        cases hk : Nat.beq k 0 with
        | true =>
          have hk := Nat.eq_of_beq_eq_true hk
          subst hk
          have hb0 : Nat.beq 0 0 = true := rfl
          simp only [hb0, cond_true] at ho
          have hn0 : new' = [] := List.length_eq_zero_iff.1 (by rw [hnn]; simp)
          subst hn0
          cases a with
          | none =>
            simp only at ho
            obtain ⟨q1, ho⟩ := cond_some ho
            obtain ⟨q1, q2⟩ := boolAnd q1
            have q1 := Nat.eq_of_beq_eq_true q1
            have q2 := Nat.eq_of_beq_eq_true q2
            subst q1; subst q2
            cases ho
            cases inv_sliceN hx
            exact VOk.same h (run_fit_nil hu hu2 hd2 hi hlen (hnr w rfl)) (.pure rfl)
          | some ad =>
            simp only at ho
            obtain ⟨q1, ho⟩ := cond_some ho
            obtain ⟨q1, q2⟩ := boolAnd q1
            have q1 := Nat.le_of_ble_eq_true q1
            have q2 := Nat.le_of_ble_eq_true q2
            cases ho
            rcases inv_slice hx with ⟨l, hl, hsp, hc, rfl⟩ | ⟨l, c', hl, hsp, hc, hn, hcap, rfl⟩ | ⟨a', c', _, _, he, _⟩
            · exact VOk.same h (run_fit hu hu2 hd2 hi hlen (hnr w rfl) (by omega) rfl) (by simpa using hx)
            · exact VOk.same h (run_fit hu hu2 hd2 hi hlen (hnr w rfl) (by omega) rfl) (by simpa using hx)
            · omega
        | false =>
          have hk0 : k ≠ 0 := fun e => by subst e; cases hk
          simp only [hk, cond_false] at ho
          cases a with
          | none =>
            simp only at ho
            obtain ⟨q1, ho⟩ := cond_some ho
            obtain ⟨q1, q2⟩ := boolAnd q1
            have q1 := Nat.eq_of_beq_eq_true q1
            have q2 := Nat.eq_of_beq_eq_true q2
            subst q1; subst q2
            rw [forceL_eq] at ho
            cases inv_sliceN hx
            obtain ⟨nc, hnc, hr⟩ := run_grow (ty := ty) (c := 0) (a := none) (old' := []) hu hu2 hd2 hi hzr hlen (fun _ _ => rfl) hnr (by omega) g1 g2
            have hsz : ∀ inf2, P.info? e = some inf2 → nc * inf2.size ≤ (({ toList := [] } : Array Value) ++ ⟨new'⟩ ++ Builtin.zeroCells z.cells (nc - (0 + k))).size := fun inf2 h2 => by
              rw [hi] at h2; cases h2
              exact grow_size hnn hnc g3 (by simp)
            obtain ⟨e1, e2, e3⟩ := new_cells (wd := w.drew) (fz := (0, 0)) (cap := nc) h hb ho hf hnl (fun i u hi => by
              show (({ toList := [] } : Array Value) ++ ⟨new'⟩ ++ Builtin.zeroCells z.cells (nc - (0 + k)))[i]? = some u
              exact grow_get hi) (fun i _ hh => by have h1 : 0 ≤ i := hh.1; have h2 : i < 0 := hh.2; omega) hsz ⟨rfl, rfl, rfl⟩ rfl
            refine ⟨_, _, _, hr, ?_, e3⟩
            rw [e1, Nat.zero_add]
            have := VR.op (ρ := upd ρ m.n ⟨w.heap.size, 0, nc⟩) (b := m.n) (o := 0) (n := k) (m := OPEN) (m' := nc) e2 (Nat.le_refl _) (by omega) (fun _ _ => rfl)
            simpa using this
          | some ad =>
            simp only at ho
            cases hco : Nat.blt c OPEN with
            | true =>
              have hco' : c < OPEN := Nat.le_of_ble_eq_true hco
              simp only [hco, cond_true] at ho
              rcases inv_slice hx with ⟨l, hl, hsp, hc, rfl⟩ | ⟨l, c', hl, hsp, hc, hn, hcap, rfl⟩ | ⟨a', c', _, _, he, _⟩
              · cases hfit : Nat.ble (n + k) c with
                | true =>
                  have hfit' := Nat.le_of_ble_eq_true hfit
                  simp only [hfit, cond_true] at ho
                  split at ho
                  · rename_i m2 hw
                    cases ho
                    rw [plus_eq] at hw
                    obtain ⟨w', h1, h2⟩ := write_ok h hw hl hnl
                    refine ⟨_, ρ, w', run_fit hu hu2 hd2 hi hlen (hnr w rfl) hfit' ?_, ?_, h2⟩
                    · rw [add_none, show ad.off + l.sh + n * inf.size = ad.off + n * inf.size + l.sh by omega]; exact h1
                    · obtain ⟨ab, ao, asp⟩ := ad
                      simp only at hsp; subst hsp
                      exact .sl hl hc
                  · cases ho
                | false =>
                  have hfit' : ¬ n + k ≤ c := fun hle => by rw [show Nat.ble (n + k) c = true from Nat.ble_eq_true_of_le hle] at hfit; cases hfit
                  simp only [hfit, cond_false] at ho
                  split at ho
                  · rename_i old hold
                    rw [forceL_eq] at ho
                    obtain ⟨old', o1, o2, o3⟩ := read_ok h hold hl
                    have holdr : ∀ wd : World, wd.heap = w.heap → (Builtin.firstCells inf.size n (.slice (some ⟨l.blk, ad.off + l.sh, none⟩) n c)).run P wd = .ok ⟨old'⟩ wd := fun wd hw => load_cells o2 fun j u hj => by rw [cell_heap hw]; exact o3 j u hj
                    obtain ⟨nc, hnc, hr⟩ := run_grow (ty := ty) hu hu2 hd2 hi hzr hlen holdr hnr hfit' g1 g2
                    obtain ⟨e1, e2, e3⟩ := new_cells (wd := w.drew) (fz := (0, 0)) (cap := nc) (C := ⟨old'⟩ ++ ⟨new'⟩ ++ Builtin.zeroCells z.cells (nc - (n + k))) h hb ho hf (o1.append hnl) (fun i u hi => grow_get2 hi) (fun i _ hh => by have h1 : 0 ≤ i := hh.1; have h2 : i < 0 := hh.2; omega)
                      (fun inf2 h2 => by rw [hi] at h2; cases h2; exact grow_size hnn hnc g3 o2) ⟨rfl, rfl, rfl⟩ rfl
                    refine ⟨_, _, _, hr, ?_, e3⟩
                    rw [e1]
                    have := VR.op (ρ := upd ρ m.n ⟨w.heap.size, 0, nc⟩) (b := m.n) (o := 0) (n := n + k) (m := OPEN) (m' := nc) e2 (Nat.le_refl _) hnc (fun _ _ => rfl)
                    simpa using this
                  · cases ho
              · omega
              · omega
            | false =>
              simp only [hco, cond_false] at ho
              obtain ⟨q0, ho2⟩ := cond_some ho
              clear ho
              have ho := ho2
              clear ho2
              obtain ⟨q1, q2⟩ := boolAnd q0
              replace q1 := Nat.eq_of_beq_eq_true q1
              replace q2 := Nat.eq_of_beq_eq_true q2
              clear q0
              split at ho
              · rename_i cs T hsp hg
                obtain ⟨p1, ho⟩ := cond_some ho
                rw [Bool.and_eq_true, Bool.and_eq_true, Bool.and_eq_true] at p1
                obtain ⟨⟨⟨p1, p2⟩, p3⟩, p4⟩ := p1
                have p1 := Nat.eq_of_beq_eq_true p1
                have p2 := Nat.eq_of_beq_eq_true p2
                have p3 := Nat.le_of_ble_eq_true p3
                have p4 : ad.block < m.n := Nat.le_of_ble_eq_true p4
                subst p2
                rw [forceL_eq] at ho
                rcases inv_slice hx with ⟨_, _, _, hc, _⟩ | ⟨l, c', hl, _, _, hn, hcap, rfl⟩ | ⟨a', c', _, _, he, _⟩
                · omega
                · have hcap := hcap q1 q2
                  obtain ⟨l0, z1, ⟨C, fz, T', z2, z3, z4⟩, z5⟩ := h.at_ ad.block p3 _ hg
                  rw [hl] at z1
                  have := Option.some.inj z1; subst this
                  obtain ⟨rfl, z6, z7⟩ := z4 rfl
                  have z7 := z7 inf hi
                  by_cases hfit : n + k ≤ c'
                  · -- in its own block
                    have hsum : (n + k) * inf.size ≤ c' * inf.size := Nat.mul_le_mul_right _ hfit
                    rw [Nat.add_mul] at hsum
                    obtain ⟨w', r1, r2, r3, r4, r5⟩ := run_storeCells (P := P) (b := l.blk) (o := n * inf.size + l.sh) (fz := fz) new' 0 C w z2 (flat_LR hnl g4) (by rw [hnn]; subst hcap; omega) z6
                    obtain ⟨e1, e3⟩ := St.grow (w' := w') (l := l) h p3 hg rfl hl ho hf r2 r3 r5 (by
                      have hfree : ρ m.n = none := by
                        rw [killM_eq] at ho
                        obtain ⟨_, _, rfl⟩ := newM_eq ho
                        exact hf m.n (Nat.le_refl _) (upN_le _ _).2
                      refine ⟨_, fz, _, r4, fun i u hi => ?_, fun _ => ⟨rfl, by simpa [putL_length] using z6, fun inf2 h2 => by simpa [putL_length] using (by rw [hi] at h2; cases h2; exact z7 : l.sh + l.cap * inf2.size ≤ C.size)⟩⟩
                      show ∃ u', (Array.mk (putL C.toList (n * inf.size + l.sh + 0) new'))[l.sh + i]? = some u' ∧ _
                      have hlC : C.toList.length = C.size := by simp
                      rw [List.getElem?_toArray, putL_get _ _ _ _ (by rw [hnn]; subst hcap; omega)]
                      by_cases hlt : i < cs.length
                      · rw [List.getElem?_append_left hlt] at hi
                        rw [if_neg (by omega)]
                        obtain ⟨u', y1, y2⟩ := z3 i u hi
                        exact ⟨u', by simpa using y1, y2.mono (upd_ext hfree)⟩
                      · rw [List.getElem?_append_right (by omega)] at hi
                        have hil := (List.getElem?_eq_some_iff.1 hi).1
                        have hnl1 := hnl.1
                        rw [if_pos (by omega)]
                        obtain ⟨u', y1, y2⟩ := hnl.get hi
                        exact ⟨u', by rw [show l.sh + i - (n * inf.size + l.sh + 0) = i - cs.length by omega]; exact y1, y2.mono (upd_ext hfree)⟩)
                    refine ⟨_, _, w', run_fit (ty := ty) hu hu2 hd2 hi hlen (hnr w rfl) hfit ?_, ?_, e3⟩
                    · rw [add_none, q2, show 0 + l.sh + n * inf.size = n * inf.size + l.sh by omega]; exact r1
                    · rw [e1, q2]
                      exact .op (upd_self _ _ _) (Nat.le_refl _) hfit (fun _ _ => hcap)
                  · -- in a block of its own
                    have st1 := St.kill h p3 hg rfl
                    have hf1 : Free ρ (killM m ad.block).n m'.hi := by rw [killM_eq]; exact hf
                    obtain ⟨old', o1, o2⟩ := pick_list (ρ := ρ) (C := C) (cs := cs) (s := l.sh) z3
                    have oL : old'.length = n * inf.size := by rw [← o1.1]; exact p1
                    have holdr : ∀ wd : World, wd.heap = w.heap → (Builtin.firstCells inf.size n (.slice (some ⟨l.blk, ad.off + l.sh, none⟩) n c')).run P wd = .ok ⟨old'⟩ wd := fun wd hw => load_cells oL fun j u hj => by
                      rw [cell_heap hw, q2]
                      have := o2 j u hj
                      simp [World.cell?, z2, this]
                    obtain ⟨nc, hnc, hr⟩ := run_grow (ty := ty) hu hu2 hd2 hi hzr hlen holdr hnr hfit g1 g2
                    obtain ⟨e1, e2, e3⟩ := new_cells (wd := w.drew) (fz := (0, 0)) (cap := nc) (C := ⟨old'⟩ ++ ⟨new'⟩ ++ Builtin.zeroCells z.cells (nc - (n + k))) st1.hr hb ho hf1 (o1.append hnl) (fun i u hi => grow_get2 hi) (fun i _ hh => by have h1 : 0 ≤ i := hh.1; have h2 : i < 0 := hh.2; omega)
                      (fun inf2 h2 => by rw [hi] at h2; cases h2; exact grow_size hnn hnc g3 oL) ⟨rfl, rfl, rfl⟩ rfl
                    refine ⟨_, _, _, hr, ?_, St.trans hf st1 e3⟩
                    rw [e1]
                    have := VR.op (ρ := upd ρ (killM m ad.block).n ⟨w.heap.size, 0, nc⟩) (b := (killM m ad.block).n) (o := 0) (n := n + k) (m := OPEN) (m' := nc) e2 (Nat.le_refl _) hnc (fun _ _ => rfl)
                    simpa using this
                · omega
              · cases ho
      · cases ho
    · cases ho
  · cases ho
end
end Go.Sx
