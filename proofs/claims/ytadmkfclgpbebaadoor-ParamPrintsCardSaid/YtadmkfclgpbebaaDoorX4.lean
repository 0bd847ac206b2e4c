/- The law ParamPrints: for every input the call returns true, and the arguments read behind it as they read before. No condition. -/
import Derived.Test.YtadmkfclgpbebaaDoorX3
import Derived.Lib.Builder
import Derived.LoopNIn
import Derived.RangeFuncRecord
namespace Go.Sx
set_option linter.all false
open Go
set_option linter.unusedVariables false
set_option linter.unusedSimpArgs false
variable [Ora]
section
variable {P : Program} {base : Nat} {ρ ρ' : Ren} {m m' : Mem} {w w' : World}
theorem RowsAt.move {R : Nat → Option Obj} {rows : List (List U)} {wd o o' : Nat} {C C' : Array Value} (h : RowsAt R rows wd C o) (hc : ∀ i, i < rows.length * wd → C'[o' + i]? = C[o + i]?) : RowsAt R rows wd C' o' := by
  refine ⟨h.1, fun r row j u v a1 a2 a3 => h.2 r row j u v a1 a2 ?_⟩
  have hr1 := (List.getElem?_eq_some_iff.1 a1).1
  have hj1 := (List.getElem?_eq_some_iff.1 a2).1
  rw [h.1 _ (List.mem_of_getElem? a1)] at hj1
  have h2 : (r + 1) * wd ≤ rows.length * wd := Nat.mul_le_mul_right wd hr1
  rw [Nat.add_mul] at h2
  have := hc (r * wd + j) (by omega)
  rw [show o + r * wd + j = o + (r * wd + j) by omega, ← this, show o' + (r * wd + j) = o' + r * wd + j by omega]; exact a3
theorem RowsAt.append {R : Nat → Option Obj} {rows rows2 : List (List U)} {wd o : Nat} {C : Array Value} (h : RowsAt R rows wd C o) (k : RowsAt R rows2 wd C (o + rows.length * wd)) : RowsAt R (rows ++ rows2) wd C o := by
  refine ⟨fun row hr => (List.mem_append.1 hr).elim (h.1 row) (k.1 row), fun r row j u v a1 a2 a3 => ?_⟩
  rcases Nat.lt_or_ge r rows.length with hl | hl
  · rw [List.getElem?_append_left hl] at a1
    exact h.2 r row j u v a1 a2 a3
  · rw [List.getElem?_append_right hl] at a1
    refine k.2 (r - rows.length) row j u v a1 a2 ?_
    have : rows.length * wd + (r - rows.length) * wd = r * wd := by rw [← Nat.add_mul]; congr 1; omega
    rw [show o + rows.length * wd + (r - rows.length) * wd + j = o + r * wd + j by omega]; exact a3
theorem sqBR {c t g cap sh wd : Nat} {T : TypeId} {inf : TypeInfo} {rows : List (List U)} {lg : Loc} {C : Array Value} {fz : Nat × Nat} {b : Nat} (hc : Ora.env c = .seq false wd rows) (ht : t = 10 + wd) (hi : P.info? T = some inf) (hs : inf.size = wd) (hcap : rows.length ≤ cap) (hroom : sh + cap * wd ≤ C.size)
    (hrows : RowsAt lg.G rows wd C sh) (hg : ρ g = some lg) (hw : w.heap[b]? = some (.cells C T fz)) (hfz : ∀ i, i < C.size → ¬ (fz.1 ≤ i ∧ i < fz.2)) : BR P ρ (.sq c t T g false) ⟨b, sh, cap, rows.length, fun _ => none, true⟩ w :=
  ⟨⟨wd, inf, ht, hi, hs, .inr ⟨rfl, C, fz, T, rows, lg, hw, hc, rfl, hcap, hroom, hrows.1, hg, hrows.2, fun _ => ⟨rfl, hfz⟩⟩⟩⟩
theorem newSq_alloc {c t g cap wd : Nat} {T : TypeId} {inf : TypeInfo} {rows : List (List U)} {lg : Loc} {C : Array Value} {fz : Nat × Nat} {v : Value} (h : HR P base ρ m.H w) (hb : base ≤ w.heap.size) (hn : newSq m c t T g = some (v, m')) (hf : Free ρ m.n m'.hi)
    (hc : Ora.env c = .seq false wd rows) (ht : t = 10 + wd) (hi : P.info? T = some inf) (hs : inf.size = wd) (hcap : rows.length ≤ cap) (hroom : cap * wd ≤ C.size) (hrows : RowsAt lg.G rows wd C 0) (hg : ρ g = some lg) (hfz : ∀ i, i < C.size → ¬ (fz.1 ≤ i ∧ i < fz.2))
    (ho : w'.os = w.os ∧ w'.tape = w.tape ∧ w'.output = w.output) (hh : w'.heap = w.heap.push (.cells C T fz)) : ∃ ρ', VR ρ' v (.slice (some ⟨w.heap.size, 0, none⟩) rows.length cap) ∧ St P base ρ ρ' m m' w w' := by
  have hfree : ρ m.n = none := by
    obtain ⟨_, _, rfl⟩ := newM_eq hn
    exact hf m.n (Nat.le_refl _) (upN_le _ _).2
  obtain ⟨rfl, e2, e3⟩ := St.alloc (w' := w') (l := ⟨w.heap.size, 0, cap, rows.length, fun _ => none, true⟩) h hb hn hf ho hh rfl (sqBR hc ht hi hs hcap (by omega) hrows (upd_ext hfree _ _ hg) (by rw [hh]; simp) hfz)
  exact ⟨_, .own (.inr ⟨_, wd, rows, e2, rfl, hc, rfl, hcap, rfl⟩) (by rw [hc]; exact ht.symm) rfl, e3⟩
theorem newSq_move {c t g cap sh wd id : Nat} {T : TypeId} {inf : TypeInfo} {ab : AB} {l : Loc} {rows : List (List U)} {lg : Loc} {C : Array Value} {fz : Nat × Nat} {v : Value} (h : HR P base ρ m.H w) (hle : id ≤ most) (hgt : Hp.get m.H id = some ab) (hrw : ab.rw = true) (hl : ρ id = some l) (hon : l.on = true)
    (hn : newSq (killM m id) c t T g = some (v, m')) (hf : Free ρ m.n m'.hi)
    (hc : Ora.env c = .seq false wd rows) (ht : t = 10 + wd) (hi : P.info? T = some inf) (hs : inf.size = wd) (hcap : rows.length ≤ cap) (hroom : sh + cap * wd ≤ C.size) (hrows : RowsAt lg.G rows wd C sh) (hg : ρ g = some lg) (hfz : ∀ i, i < C.size → ¬ (fz.1 ≤ i ∧ i < fz.2))
    (ho : w'.os = w.os ∧ w'.tape = w.tape ∧ w'.output = w.output) (hsz : w'.heap.size = w.heap.size) (hk : ∀ k, k ≠ l.blk → w'.heap[k]? = w.heap[k]?) (hw : w'.heap[l.blk]? = some (.cells C T fz)) :
    ∃ ρ', VR ρ' v (.slice (some ⟨l.blk, sh, none⟩) rows.length cap) ∧ St P base ρ ρ' m m' w w' := by
  have hfree : ρ m.n = none := by
    have hn2 := hn
    unfold newSq at hn2
    rw [killM_eq] at hn2
    obtain ⟨_, _, rfl⟩ := newM_eq hn2
    exact hf m.n (Nat.le_refl _) (upN_le _ _).2
  obtain ⟨rfl, e2, e3⟩ := St.move (w' := w') (l' := ⟨l.blk, sh, cap, rows.length, fun _ => none, true⟩) h hle hgt hrw hl hn hf (fun _ => ⟨hon, rfl⟩) ho hsz (fun k hk' => hk k (hk' hon)) (sqBR hc ht hi hs hcap hroom hrows (upd_ext hfree _ _ hg) hw hfz) (fun h => by cases h)
  exact ⟨_, .own (.inr ⟨_, wd, rows, e2, rfl, hc, rfl, hcap, rfl⟩) (by rw [hc]; exact ht.symm) rfl, e3⟩
def offL : Loc := ⟨0, 0, 0, 0, fun _ => none, false⟩
theorem newSq_nil {c t g wd : Nat} {T : TypeId} {inf : TypeInfo} {old : Option Nat} {v : Value} (h : HR P base ρ m.H w) (hold : ∀ b, old = some b → ∃ ab l, b ≤ most ∧ Hp.get m.H b = some ab ∧ ab.rw = true ∧ ρ b = some l ∧ l.on = false)
    (hn : newSq (killO old m) c t T g = some (v, m')) (hf : Free ρ m.n m'.hi) (hc : Ora.env c = .seq true wd []) (ht : t = 10 + wd) (hi : P.info? T = some inf) (hs : inf.size = wd) : ∃ ρ', VR ρ' v (.slice none 0 0) ∧ St P base ρ ρ' m m' w w := by
  have hbr : ∀ ρ' : Ren, BR P ρ' (.sq c t T g false) offL w := fun ρ' => ⟨⟨wd, inf, ht, hi, hs, .inl ⟨rfl, hc⟩⟩⟩
  cases old with
  | none =>
    obtain ⟨rfl, e2, e3⟩ := St.new0 (l' := offL) h hn hf (hbr _) rfl fun q hq => by
      rcases hq with ⟨_, hq, _⟩ | ⟨hq, _⟩ <;> cases hq
    exact ⟨_, .own (.inl ⟨_, wd, e2, rfl, hc, rfl⟩) (by rw [hc]; exact ht.symm) rfl, e3⟩
  | some b =>
    obtain ⟨ab, l, h1, h2, h3, h4, h5⟩ := hold b rfl
    obtain ⟨rfl, e2, e3⟩ := St.move (w' := w) (l' := offL) h h1 h2 h3 h4 hn hf (fun h => by cases h) ⟨rfl, rfl, rfl⟩ rfl (fun _ _ => rfl) (hbr _) (fun h => by cases h)
    exact ⟨_, .own (.inl ⟨_, wd, e2, rfl, hc, rfl⟩) (by rw [hc]; exact ht.symm) rfl, e3⟩
theorem joinD_get {gs : List Nat} {g : Nat} (h : HR P base ρ m.H w) (ho : joinD gs m = some (g, m')) (hf : Free ρ m.n m'.hi) {j : Nat} {l : Loc} (hj : ρ j = some l) : Hp.get m'.H j = Hp.get m.H j := by
  have main : ∀ {gs : List Nat}, (bif gs.all (frzB m) then match newFrz m fun b m => some (undef, b, m) with
    | some (_, b, m) => some (b, m)
    | none => none else none) = some (g, m') → Hp.get m'.H j = Hp.get m.H j := fun {gs} ho => by
    obtain ⟨h1, ho⟩ := cond_some ho
    split at ho
    · rename_i r b m1 hn
      cases ho
      obtain ⟨m2, q1, q2, _⟩ := newFrz_eq hn
      cases q2
      rw [newM_get q1 (h.dom j l hj), if_neg]
      intro e; subst e
      obtain ⟨_, _, rfl⟩ := newM_eq q1
      rw [hf m.n (Nat.le_refl _) (upN_le _ _).2] at hj; cases hj
    · cases ho
  unfold joinD at ho
  split at ho
  · obtain ⟨h1, ho⟩ := cond_some ho
    cases ho; rfl
  · exact main ho
theorem joinD_mono {gs : List Nat} {g : Nat} (ho : joinD gs m = some (g, m')) : m.hi ≤ m'.hi ∧ m'.lg = m.lg ∧ m.n ≤ m'.n := by
  have main : ∀ {gs : List Nat}, (bif gs.all (frzB m) then match newFrz m fun b m => some (undef, b, m) with
    | some (_, b, m) => some (b, m)
    | none => none else none) = some (g, m') → m.hi ≤ m'.hi ∧ m'.lg = m.lg ∧ m.n ≤ m'.n := fun {gs} ho => by
    obtain ⟨h1, ho⟩ := cond_some ho
    split at ho
    · rename_i r b m1 hn
      cases ho
      obtain ⟨m2, q1, q2, _⟩ := newFrz_eq hn
      cases q2
      obtain ⟨_, _, rfl⟩ := newM_eq q1
      exact ⟨(upN_le _ _).1, rfl, Nat.le_succ _⟩
    · cases ho
  unfold joinD at ho
  split at ho
  · obtain ⟨h1, ho⟩ := cond_some ho
    cases ho; exact ⟨Nat.le_refl _, rfl, Nat.le_refl _⟩
  · exact main ho
def putR (nul : Bool) (wd : Nat) (rows : List (List U)) : List (List U) → U
  | [] => .seq nul wd rows
  | r0 :: r => .seq false wd (rows ++ r0 :: r)
theorem catU_seq {nul : Bool} {wd : Nat} {rows rows2 : List (List U)} (h : ∃ n w r, catU nul wd rows rows2 = .seq n w r) : rows.length + rows2.length ≤ bigN ∧ catU nul wd rows rows2 = putR nul wd rows rows2 := by
  by_cases hc : rows.length + rows2.length ≤ bigN
  · refine ⟨hc, ?_⟩
    unfold catU
    rw [if_pos hc]
    cases rows2 <;> rfl
  · unfold catU at h
    rw [if_neg hc] at h; obtain ⟨_, _, _, h⟩ := h; cases h
theorem putD_ok {t t2 e ty : TypeId} {d2 : TypeDesc} {inf : TypeInfo} {z : Value} {c : Nat} {old : Option Nat} {bh : Beh} {g0 gs : List Nat} {x' y' v : Value} {rows2 : List (List U)} {new' : List Value}
    (hu : P.underlying t = some (.slice e)) (hu2 : P.underlying t2 = some d2) (hd2 : isSeqD d2 = true) (hi : P.info? e = some inf) (hz : zeroM P e = some z) (hzs : z.cells.size = inf.size) (hby : inf.bytes ≤ 90000)
    (h : HR P base ρ m.H w) (hb : base ≤ w.heap.size) (ho : putD m e inf.size c old bh (g0 ++ gs) = some (v, m')) (hf : Free ρ m.n m'.hi) (hS : Sat m'.lg)
    (hbase : BaseR P base ρ m w e inf.size c g0 old x') (hbeh : BehR P ρ w inf.size bh gs y' rows2 new') : VOk P base ρ m w (Builtin.append_ #[t, t2] ty #[x', y']) v m' := by
  unfold putD at ho
  split at ho
  · rename_i g m1 hj
    rw [letD_eq] at ho
    have hmono := joinD_mono hj
    generalize hlg : dtLg m1 (10 + inf.size) (behOp inf.size (hole c (10 + inf.size)) bh).1 (behOp inf.size (hole c (10 + inf.size)) bh).2 = lg1 at ho
    have hn2 : m'.lg = lg1 ∧ m1.hi ≤ m'.hi ∧ m1.n ≤ m'.n := by
      unfold newSq at ho
      cases old with
      | none =>
        simp only [killO] at ho
        obtain ⟨_, _, rfl⟩ := newM_eq ho
        exact ⟨by simp, by simpa using (upN_le m1.hi m1.n).1, by simp⟩
      | some b =>
        simp only [killO, killM_eq] at ho
        obtain ⟨_, _, rfl⟩ := newM_eq ho
        exact ⟨by simp, by simpa using (upN_le m1.hi m1.n).1, by simp⟩
    have hf1 : Free ρ m.n m1.hi := hf.less hn2.2.1
    obtain ⟨ρ1, lg, e1, e2, e3, e4, e5, e6⟩ := joinD_ok h hj hf1
    have hst1 : St P base ρ ρ1 m (m1.wLg lg1) w w := St.trans (by simpa using hf1) e1 (St.wLg e1.hr lg1)
    have hf2 : Free ρ1 (m1.wLg lg1).n m'.hi := by simpa using hf.step e1
    have hS1 : Sat (m1.wLg lg1).lg := by simpa [← hn2.1] using hS
    obtain ⟨nul, rows, hc, hx⟩ := hbase.ex
    obtain ⟨d1, d2, nx, wd2, rws, d3, d4⟩ := dt_ok (m := m1) (t := 10 + inf.size) (op := (behOp inf.size (hole c (10 + inf.size)) bh).1) (xs := (behOp inf.size (hole c (10 + inf.size)) bh).2) (lg := lg1) (by simpa using hS1) (by rw [wLg_lg, hlg]; exact .refl _)
    rw [hbeh.ev c nul rows hc] at d1
    obtain ⟨hbig, hcat⟩ := catU_seq ⟨nx, wd2, rws, d1.symm.trans d3⟩
    rw [hcat] at d1
    have hR1 : ∀ b ∈ g0, ∀ l, ρ b = some l → Sub l.G lg.G := fun b hb' l hl => e6 b (List.mem_append.2 (.inl hb')) l hl
    have hR2 : ∀ b ∈ gs, ∀ l, ρ b = some l → Sub l.G lg.G := fun b hb' l hl => e6 b (List.mem_append.2 (.inr hb')) l hl
    have hr2 := hbeh.rows lg.G hR2
    have hfin : ∀ {v' : Value} {ρ2 : Ren} {w2 : World}, (Builtin.append_ #[t, t2] ty #[x', y']).run P w = .ok v' w2 → VR ρ2 v v' → St P base ρ1 ρ2 (m1.wLg lg1) m' w w2 → VOk P base ρ m w (Builtin.append_ #[t, t2] ty #[x', y']) v m' := fun hr hv hs =>
      ⟨_, _, _, hr, hv, St.trans hf hst1 hs⟩
    have hzr : ∀ w, (zeroValue e).run P w = .ok z w := fun w => run_zero hz w
    have hget : ∀ {j l}, ρ j = some l → Hp.get (m1.wLg lg1).H j = Hp.get m.H j := fun hj' => by rw [wLg_H]; exact joinD_get h hj hf1 hj'
    have hroomB : (3 * (rows.length + rows2.length) + 4000) * inf.bytes ≤ 281474976710656 := by
      have h1 : 3 * (rows.length + rows2.length) + 4000 ≤ 3000004000 := by unfold bigN at hbig; omega
      have h2 := Nat.mul_le_mul h1 hby
      omega
    have hbig2 : rows.length + rows2.length ≤ 1000000000 := hbig
    rcases hx with ⟨rfl, rfl, rfl, hold⟩ | ⟨rfl, b, ab, l, cap, C, fz, rfl, hbm, hbg, hbrw, hbl, hon, rfl, hheap, hcap, hroom, hnfz, hrws⟩
    ·
      have hold1 : ∀ b, old = some b → ∃ ab l, b ≤ most ∧ Hp.get (m1.wLg lg1).H b = some ab ∧ ab.rw = true ∧ ρ1 b = some l ∧ l.on = false := fun b hb' => by
        obtain ⟨ab, l, q1, q2, q3, q4, q5⟩ := hold b hb'
        exact ⟨ab, l, q1, by rw [hget q4]; exact q2, q3, e1.ext _ _ q4, q5⟩
      cases hrow2 : rows2 with
      | nil =>
        subst hrow2
        have hc2 : Ora.env m1.lg.nx = .seq true inf.size [] := d1
        obtain ⟨ρ2, q1, q2⟩ := newSq_nil hst1.hr hold1 ho hf2 hc2 rfl hi rfl
        have hn0 : new' = [] := List.length_eq_zero_iff.1 (by rw [hbeh.size]; simp)
        exact hfin (run_fit_nil hu hu2 hd2 hi (fun wd => hbeh.len wd) (by have := hbeh.first w rfl; rw [hn0] at this; exact this)) q1 q2
      | cons r0 rr =>
        rw [hrow2] at d1
        have hc2 : Ora.env m1.lg.nx = .seq false inf.size rows2 := by rw [hrow2]; exact d1
        obtain ⟨nc, hnc, hrun⟩ := run_grow (P := P) (w := w) (ty := ty) (a := none) (n := 0) (c := 0) (k := rows2.length) (old' := []) (new' := new') (x' := y') hu hu2 hd2 hi hzr (fun wd => hbeh.len wd) (fun _ _ => rfl) (fun wd hw => hbeh.first wd hw) (by rw [hrow2]; simp) (by simpa using hroomB) (by simpa using hbig2)
        obtain ⟨m2, hn3, st2⟩ : ∃ m2, newSq m2 m1.lg.nx (10 + inf.size) e g = some (v, m') ∧ St P base ρ1 ρ1 (m1.wLg lg1) m2 w w := by
          cases old with
          | none => exact ⟨_, ho, St.refl hst1.hr⟩
          | some b =>
            obtain ⟨ab, l, q1, q2, q3, q4, q5⟩ := hold1 b rfl
            exact ⟨_, ho, St.kill hst1.hr q1 q2 q3⟩
        obtain ⟨ρ2, q1, q2⟩ := newSq_alloc (w' := { w.drew with heap := w.heap.push (.cells (({ toList := [] } : Array Value) ++ ⟨new'⟩ ++ Builtin.zeroCells z.cells (nc - (0 + rows2.length))) e (0, 0)) }) (cap := nc) st2.hr hb hn3 (hf2.step st2) hc2 rfl hi rfl (by omega)
          (by have := grow_size (s := inf.size) (k := rows2.length) (n := 0) (nc := nc) (z := z) (old' := []) hbeh.size hnc hzs (by simp); exact this)
          (hr2.move (C' := ({ toList := [] } : Array Value) ++ ⟨new'⟩ ++ Builtin.zeroCells z.cells (nc - (0 + rows2.length))) (o' := 0) fun i hi' => by
            have hil : i < new'.length := by rw [hbeh.size]; exact hi'
            rw [Nat.zero_add i]
            rw [grow_get (List.getElem?_eq_getElem hil)]
            simp [hil]) (st2.ext _ _ e4) (fun i _ hh => by have h1 : 0 ≤ i := hh.1; have h2 : i < 0 := hh.2; omega) ⟨rfl, rfl, rfl⟩ rfl
        exact hfin hrun (by rw [Nat.zero_add]; exact q1) (St.trans hf2 st2 q2)
    ·
      have hg1 : Hp.get (m1.wLg lg1).H b = some ab := by rw [hget hbl]; exact hbg
      have hrows1 := hrws lg.G hR1
      have hbl1 := e1.ext _ _ hbl
      cases hrow2 : rows2 with
      | nil =>
        subst hrow2
        have hc2 : Ora.env m1.lg.nx = .seq false inf.size rows := d1
        have hn0 : new' = [] := List.length_eq_zero_iff.1 (by rw [hbeh.size]; simp)
        obtain ⟨ρ2, q1, q2⟩ := newSq_move (w' := w) (cap := cap) (sh := l.sh) hst1.hr hbm hg1 hbrw hbl1 hon ho hf2 hc2 rfl hi rfl hcap hroom hrows1 e4 hnfz ⟨rfl, rfl, rfl⟩ rfl (fun _ _ => rfl) hheap
        have hrun := run_fit (P := P) (w := w) (w' := w) (ty := ty) (a := ⟨l.blk, l.sh, none⟩) (n := rows.length) (k := 0) (c := cap) (new' := new') hu hu2 hd2 hi (fun wd => hbeh.len wd) (hbeh.first w rfl) (by omega) (by rw [hn0]; rfl)
        exact hfin hrun q1 q2
      | cons r0 rr =>
        have hc2 : Ora.env m1.lg.nx = .seq false inf.size (rows ++ rows2) := by rw [hrow2] at d1 ⊢; exact d1
        by_cases hfit : rows.length + rows2.length ≤ cap
        · have hsum : (rows.length + rows2.length) * inf.size ≤ cap * inf.size := Nat.mul_le_mul_right _ hfit
          rw [Nat.add_mul] at hsum
          obtain ⟨w', r1, r2, r3, r4, r5⟩ := run_storeCells (P := P) (b := l.blk) (o := rows.length * inf.size + l.sh) (fz := fz) new' 0 C w hheap hbeh.flat (by rw [hbeh.size]; omega) hnfz
          have hadd : (Addr.mk l.blk l.sh none).add (rows.length * inf.size) = ⟨l.blk, rows.length * inf.size + l.sh, none⟩ := by
            unfold Addr.add
            split
            · rename_i h0; rw [h0]; simp
            · simp [Nat.add_comm]
          have hrun := run_fit (P := P) (w := w) (w' := w') (ty := ty) (a := ⟨l.blk, l.sh, none⟩) (n := rows.length) (k := rows2.length) (c := cap) (new' := new') hu hu2 hd2 hi (fun wd => hbeh.len wd) (hbeh.first w rfl) hfit (by rw [hadd]; exact r1)
          have hlenC : (Array.mk (putL C.toList (rows.length * inf.size + l.sh + 0) new')).size = C.size := by simp [putL_length]
          have hg2 : ∀ j, (Array.mk (putL C.toList (rows.length * inf.size + l.sh + 0) new'))[j]? = if rows.length * inf.size + l.sh ≤ j ∧ j < rows.length * inf.size + l.sh + new'.length then new'[j - (rows.length * inf.size + l.sh)]? else C[j]? := fun j => by
            rw [List.getElem?_toArray, putL_get _ _ _ _ (by simp; rw [hbeh.size]; omega)]
            simp
          obtain ⟨ρ2, q1, q2⟩ := newSq_move (w' := w') (cap := cap) (sh := l.sh) (C := ⟨putL C.toList (rows.length * inf.size + l.sh + 0) new'⟩) hst1.hr hbm hg1 hbrw hbl1 hon ho hf2 hc2 rfl hi rfl (by simpa using hfit) (by rw [hlenC]; exact hroom)
            (RowsAt.append (hrows1.move (o' := l.sh) fun i hi' => by rw [hg2, if_neg (by omega)]) (hr2.move (o' := l.sh + rows.length * inf.size) fun i hi' => by
              rw [hg2, if_pos (by rw [hbeh.size]; omega), show l.sh + rows.length * inf.size + i - (rows.length * inf.size + l.sh) = i by omega, Nat.zero_add]; simp)) e4 (by rw [hlenC]; exact hnfz) r2 r3 r5 r4
          rw [List.length_append] at q1
          exact hfin hrun q1 q2
        · have hold : ∃ old', old'.length = rows.length * inf.size ∧ (∀ i, i < rows.length * inf.size → old'[i]? = C[l.sh + i]?) ∧ ∀ wd : World, wd.heap = w.heap → (Builtin.firstCells inf.size rows.length (.slice (some ⟨l.blk, l.sh, none⟩) rows.length cap)).run P wd = .ok ⟨old'⟩ wd := by
            have hsum : rows.length * inf.size ≤ cap * inf.size := Nat.mul_le_mul_right _ hcap
            have hlen : ((C.toList.drop l.sh).take (rows.length * inf.size)).length = rows.length * inf.size := by simp; omega
            refine ⟨(C.toList.drop l.sh).take (rows.length * inf.size), hlen, fun i hi' => ?_, fun wd hw => ?_⟩
            · rw [List.getElem?_take_of_lt hi', List.getElem?_drop]; simp
            · rw [show Builtin.firstCells inf.size rows.length (.slice (some ⟨l.blk, l.sh, none⟩) rows.length cap) = loadCells ⟨l.blk, l.sh, none⟩ (rows.length * inf.size) from rfl]
              refine load_cells hlen fun j v' hj => ?_
              have hjl := (List.getElem?_eq_some_iff.1 hj).1
              rw [hlen] at hjl
              rw [List.getElem?_take_of_lt hjl, List.getElem?_drop] at hj
              rw [cell_heap hw]
              have hj2 : C[l.sh + j]? = some v' := by simpa using hj
              simp [World.cell?, hheap, hj2]
          obtain ⟨old', o1, o2, o3⟩ := hold
          obtain ⟨nc, hnc, hrun⟩ := run_grow (P := P) (w := w) (ty := ty) (a := some ⟨l.blk, l.sh, none⟩) (n := rows.length) (c := cap) (k := rows2.length) (old' := old') (new' := new') (x' := y') hu hu2 hd2 hi hzr (fun wd => hbeh.len wd) o3 (fun wd hw => hbeh.first wd hw) hfit hroomB hbig2
          have hkill := St.kill hst1.hr hbm hg1 hbrw
          obtain ⟨ρ2, q1, q2⟩ := newSq_alloc (w' := { w.drew with heap := w.heap.push (.cells (({ toList := old' } : Array Value) ++ ⟨new'⟩ ++ Builtin.zeroCells z.cells (nc - (rows.length + rows2.length))) e (0, 0)) }) (cap := nc) hkill.hr hb ho (hf2.step hkill) hc2 rfl hi rfl (by simpa using hnc)
            (grow_size hbeh.size hnc hzs o1)
            (RowsAt.append (hrows1.move (C' := ({ toList := old' } : Array Value) ++ ⟨new'⟩ ++ Builtin.zeroCells z.cells (nc - (rows.length + rows2.length))) (o' := 0) fun i hi' => by
              have hl1 : i < old'.length := by rw [o1]; exact hi'
              rw [Nat.zero_add i, ← o2 i hi', grow_get2 (u := old'[i]) (by rw [List.getElem?_append_left hl1, List.getElem?_eq_getElem hl1]), List.getElem?_eq_getElem hl1]) (hr2.move (o' := 0 + rows.length * inf.size) fun i hi' => by
              have hl1 : i < new'.length := by rw [hbeh.size]; exact hi'
              rw [Nat.zero_add (rows.length * inf.size), Nat.zero_add i, grow_get2 (u := new'[i]) (by rw [List.getElem?_append_right (by rw [o1]; omega), o1, Nat.add_sub_cancel_left, List.getElem?_eq_getElem hl1])]
              simp [hl1])) (hkill.ext _ _ e4) (fun i _ hh => by have h1 : 0 ≤ i := hh.1; have h2 : i < 0 := hh.2; omega) ⟨rfl, rfl, rfl⟩ rfl
          rw [List.length_append] at q1
          exact hfin hrun q1 (St.trans hf2 hkill q2)
  · cases ho
end
end Go.Sx

namespace Go.Sx
set_option linter.all false
open Go
set_option linter.unusedVariables false
set_option linter.unusedSimpArgs false
variable [Ora]
section
variable {P : Program} {base : Nat} {ρ ρ' : Ren} {m m' : Mem} {w w' : World}
theorem putC_ok {t t2 e ty : TypeId} {d2 : TypeDesc} {inf : TypeInfo} {z : Value} {c b : Nat} {a : Addr} {bh : Beh} {gs : List Nat} {l : Loc} {y' v : Value} {rows rows2 : List (List U)} {new' : List Value}
    (hu : P.underlying t = some (.slice e)) (hu2 : P.underlying t2 = some d2) (hd2 : isSeqD d2 = true) (hi : P.info? e = some inf) (hz : zeroM P e = some z) (hzs : z.cells.size = inf.size) (hby : inf.bytes ≤ 90000)
    (h : HR P base ρ m.H w) (hb : base ≤ w.heap.size) (ho : putD m e inf.size c none bh (b :: gs) = some (v, m')) (hf : Free ρ m.n m'.hi) (hS : Sat m'.lg)
    (hc : Ora.env c = .seq false inf.size rows) (hl : ρ b = some l) (henc : Enc l.G (Ora.env c) (.slice (some a) rows.length rows.length)) (hbeh : BehR P ρ w inf.size bh gs y' rows2 new') (hsure : rows2 ≠ []) :
    VOk P base ρ m w (Builtin.append_ #[t, t2] ty #[.slice (some a) rows.length rows.length, y']) v m' := by
  unfold putD at ho
  split at ho
  · rename_i g m1 hj
    rw [letD_eq] at ho
    have hmono := joinD_mono hj
    generalize hlg : dtLg m1 (10 + inf.size) (behOp inf.size (hole c (10 + inf.size)) bh).1 (behOp inf.size (hole c (10 + inf.size)) bh).2 = lg1 at ho
    have ho : newSq (m1.wLg lg1) m1.lg.nx (10 + inf.size) e g = some (v, m') := ho
    have hn2 : m'.lg = lg1 ∧ m1.hi ≤ m'.hi ∧ m1.n ≤ m'.n := by
      unfold newSq at ho
      obtain ⟨_, _, rfl⟩ := newM_eq ho
      exact ⟨by simp, by simpa using (upN_le m1.hi m1.n).1, by simp⟩
    have hf1 : Free ρ m.n m1.hi := hf.less hn2.2.1
    obtain ⟨ρ1, lg, e1, e2, e3, e4, e5, e6⟩ := joinD_ok h hj hf1
    have hst1 : St P base ρ ρ1 m (m1.wLg lg1) w w := St.trans (by simpa using hf1) e1 (St.wLg e1.hr lg1)
    have hf2 : Free ρ1 (m1.wLg lg1).n m'.hi := by simpa using hf.step e1
    have hS1 : Sat (m1.wLg lg1).lg := by simpa [← hn2.1] using hS
    obtain ⟨d1, d2, nx, wd2, rws, d3, d4⟩ := dt_ok (m := m1) (t := 10 + inf.size) (op := (behOp inf.size (hole c (10 + inf.size)) bh).1) (xs := (behOp inf.size (hole c (10 + inf.size)) bh).2) (lg := lg1) (by simpa using hS1) (by rw [wLg_lg, hlg]; exact .refl _)
    rw [hbeh.ev c false rows hc] at d1
    obtain ⟨hbig, hcat⟩ := catU_seq ⟨nx, wd2, rws, d1.symm.trans d3⟩
    rw [hcat] at d1
    have hR1 : Sub l.G lg.G := e6 b (.head _) l hl
    have hR2 : ∀ b ∈ gs, ∀ l, ρ b = some l → Sub l.G lg.G := fun b hb' l hl => e6 b (.tail _ hb') l hl
    have hr2 := hbeh.rows lg.G hR2
    have hzr : ∀ w, (zeroValue e).run P w = .ok z w := fun w => run_zero hz w
    have hroomB : (3 * (rows.length + rows2.length) + 4000) * inf.bytes ≤ 281474976710656 := by
      have h1 : 3 * (rows.length + rows2.length) + 4000 ≤ 3000004000 := by unfold bigN at hbig; omega
      have h2 := Nat.mul_le_mul h1 hby
      omega
    have hbig2 : rows.length + rows2.length ≤ 1000000000 := hbig
    have hpos : 0 < rows2.length := List.length_pos_iff.2 hsure
    have hc2 : Ora.env m1.lg.nx = .seq false inf.size (rows ++ rows2) := by
      cases rows2 with
      | nil => exact absurd rfl hsure
      | cons r0 rr => exact d1
    rw [hc] at henc
    obtain ⟨_, old', o1, o2, o3, o4⟩ := enc_cells (w := w) (henc.mono hR1) ((e1.hr.atl e4 e5).1.2)
    have o5 : ∀ wd : World, wd.heap = w.heap → (Builtin.firstCells inf.size rows.length (.slice (some a) rows.length rows.length)).run P wd = .ok ⟨old'⟩ wd := fun wd hw => by
      rw [show Builtin.firstCells inf.size rows.length (.slice (some a) rows.length rows.length) = loadCells a (rows.length * inf.size) from rfl]
      exact load_cellsA o1 fun j v' hj => by rw [cell_heap hw]; exact o4 j v' hj
    obtain ⟨nc, hnc, hrun⟩ := run_grow (P := P) (w := w) (ty := ty) (a := some a) (n := rows.length) (c := rows.length) (k := rows2.length) (old' := old') (new' := new') (x' := y') hu hu2 hd2 hi hzr (fun wd => hbeh.len wd) o5 (fun wd hw => hbeh.first wd hw) (by omega) hroomB hbig2
    obtain ⟨ρ2, q1, q2⟩ := newSq_alloc (w' := { w.drew with heap := w.heap.push (.cells (({ toList := old' } : Array Value) ++ ⟨new'⟩ ++ Builtin.zeroCells z.cells (nc - (rows.length + rows2.length))) e (0, 0)) }) (cap := nc) hst1.hr hb ho hf2 hc2 rfl hi rfl (by simpa using hnc)
      (grow_size hbeh.size hnc hzs o1)
      (RowsAt.append (o3.move (C' := ({ toList := old' } : Array Value) ++ ⟨new'⟩ ++ Builtin.zeroCells z.cells (nc - (rows.length + rows2.length))) (o' := 0) fun i hi' => by
        have hl1 : i < old'.length := by rw [o1]; exact hi'
        rw [Nat.zero_add i, grow_get2 (u := old'[i]) (by rw [List.getElem?_append_left hl1, List.getElem?_eq_getElem hl1])]
        simp [hl1]) (hr2.move (o' := 0 + rows.length * inf.size) fun i hi' => by
        have hl1 : i < new'.length := by rw [hbeh.size]; exact hi'
        rw [Nat.zero_add (rows.length * inf.size), Nat.zero_add i, grow_get2 (u := new'[i]) (by rw [List.getElem?_append_right (by rw [o1]; omega), o1, Nat.add_sub_cancel_left, List.getElem?_eq_getElem hl1])]
        simp [hl1])) e4 (fun i _ hh => by have h1 : 0 ≤ i := hh.1; have h2 : i < 0 := hh.2; omega) ⟨rfl, rfl, rfl⟩ rfl
    rw [List.length_append] at q1
    exact ⟨_, _, _, hrun, q1, St.trans hf hst1 q2⟩
  · cases ho
theorem behD_mono {td : Td} (htd : TdOk P td) {e : TypeId} {wd : Nat} {y : Value} {bh : Beh} {gs : List Nat} {sure : Bool} (ho : behD td P m e wd y = some (bh, gs, sure, m')) : m.hi ≤ m'.hi ∧ m.lg.le m'.lg ∧ m.n ≤ m'.n := by
  unfold behD at ho
  split at ho
  · cases ho; exact ⟨Nat.le_refl _, .refl _, Nat.le_refl _⟩
  · split at ho
    · split at ho
      · rename_i hd
        cases ho
        exact toDL_mono htd hd
      · cases ho
    · cases ho
  · split at ho
    · rename_i hd
      cases ho
      exact htd.mono hd
    · cases ho
  · obtain ⟨h1, ho⟩ := cond_some ho
    cases ho; exact ⟨Nat.le_refl _, .refl _, Nat.le_refl _⟩
theorem baseD_mono {td : Td} (htd : TdOk P td) {e : TypeId} {wd c : Nat} {x : Value} {gs : List Nat} {old : Option Nat} (ho : baseD td P m e wd x = some (c, gs, old, m')) : m.hi ≤ m'.hi ∧ m.lg.le m'.lg ∧ m.n ≤ m'.n := by
  unfold baseD at ho
  split at ho
  · rw [letD_eq] at ho
    simp only [hole] at ho
    cases ho
    exact ⟨by simp, dtLg_le, by simp⟩
  · split at ho
    · obtain ⟨h1, ho⟩ := cond_some ho
      cases ho; exact ⟨Nat.le_refl _, .refl _, Nat.le_refl _⟩
    · cases ho
  · split at ho
    · obtain ⟨h1, ho⟩ := cond_some ho
      split at ho
      · rename_i hd
        split at ho
        · obtain ⟨h1, ho⟩ := cond_some ho
          rw [letD_eq] at ho
          simp only [hole] at ho
          cases ho
          have := toDL_mono htd hd
          exact ⟨by simpa using this.1, this.2.1.trans dtLg_le, by simpa using this.2.2⟩
        · cases ho
      · cases ho
    · cases ho
  · cases ho
theorem newSq_mono {c t g : Nat} {T : TypeId} {v : Value} (h : newSq m c t T g = some (v, m')) : m.hi ≤ m'.hi ∧ m'.lg = m.lg ∧ m.n ≤ m'.n := by
  unfold newSq at h
  obtain ⟨_, _, rfl⟩ := newM_eq h
  exact ⟨(upN_le _ _).1, rfl, Nat.le_succ _⟩
theorem killO_mono (old : Option Nat) (m : Mem) : (killO old m).hi = m.hi ∧ (killO old m).lg = m.lg ∧ (killO old m).n = m.n := by
  cases old with
  | none => exact ⟨rfl, rfl, rfl⟩
  | some b => simp [killO, killM_eq]
theorem putD_mono {e : TypeId} {wd c : Nat} {old : Option Nat} {bh : Beh} {gs : List Nat} {v : Value} (ho : putD m e wd c old bh gs = some (v, m')) : m.hi ≤ m'.hi ∧ m.lg.le m'.lg ∧ m.n ≤ m'.n := by
  unfold putD at ho
  split at ho
  · rename_i g m1 hj
    rw [letD_eq] at ho
    have a := joinD_mono hj
    have b := newSq_mono ho
    obtain ⟨k1, k2, k3⟩ := killO_mono old (m1.wLg (dtLg m1 (10 + wd) (behOp wd (hole c (10 + wd)) bh).1 (behOp wd (hole c (10 + wd)) bh).2))
    refine ⟨?_, ?_, ?_⟩
    · have := b.1; rw [k1] at this; simp at this; omega
    · rw [b.2.1, k2, ← a.2.1]; exact dtLg_le
    · have := b.2.2; rw [k3] at this; simp at this; omega
  · cases ho
theorem newSq_keep {c t g : Nat} {T : TypeId} {old : Option Nat} {v : Value} (h : HR P base ρ m.H w) (hold : ∀ b, old = some b → b ≤ most ∧ Hp.get m.H b ≠ some .frz) (ho : newSq (killO old m) c t T g = some (v, m')) (hf : Free ρ m.n m'.hi) : KeepF ρ m m' := fun j l h1 h2 => by
  have hn := killO_mono old m
  unfold newSq at ho
  rw [newM_get ho (h.dom j l h1), if_neg]
  · cases old with
    | none => exact h2
    | some b =>
      show Hp.get (killM m b).H j = _
      rw [killM_eq]
      show Hp.get (m.H.set b none) j = _
      obtain ⟨hb, hne⟩ := hold b rfl
      rw [hp_get_set _ _ _ _ hb (h.dom j l h1), if_neg]
      · exact h2
      · intro e; subst e; exact hne h2
  · intro e
    obtain ⟨_, _, rfl⟩ := newM_eq ho
    rw [hn.2.2] at e
    subst e
    rw [hf m.n (Nat.le_refl _) (Nat.lt_of_le_of_lt (Nat.le_of_eq hn.2.2.symm) (upN_le (killO old m).hi (killO old m).n).2)] at h1
    cases h1
omit [Ora] in
theorem sizeM_info {e : TypeId} {inf : TypeInfo} (h : P.info? e = some inf) : sizeM P e = some inf.size := by unfold sizeM; rw [h]
theorem ownN_mono {td : Td} (htd : TdOk P td) {e : TypeId} {wd : Nat} {x v : Value} (ho : ownN td P m e wd x = some (v, m')) : m.hi ≤ m'.hi ∧ m.lg.le m'.lg ∧ m.n ≤ m'.n := by
  unfold ownN at ho
  split at ho
  · obtain ⟨_, ho⟩ := cond_some ho
    split at ho
    · rename_i hb
      have a := baseD_mono htd hb
      split at ho
      · rename_i hj
        have b := joinD_mono hj
        have c := newSq_mono ho
        refine ⟨?_, ?_, ?_⟩
        · have := c.1; rw [(killO_mono _ _).1] at this; omega
        · rw [c.2.1, (killO_mono _ _).2.1, b.2.1]; exact a.2.1
        · have := c.2.2; rw [(killO_mono _ _).2.2] at this; omega
      · cases ho
    · cases ho
  · cases ho
theorem ownN_ok {td : Td} (htd : TdOk P td) {e : TypeId} {wd : Nat} {x x' v : Value} (h : HR P base ρ m.H w) (ho : ownN td P m e wd x = some (v, m')) (hf : Free ρ m.n m'.hi) (hx : VR ρ x x') (hS : Sat m'.lg) :
    ∃ ρ', VR ρ' v x' ∧ St P base ρ ρ' m m' w w ∧ m.lg.le m'.lg ∧ KeepF ρ m m' := by
  unfold ownN at ho
  split at ho
  · rename_i inf hi
    obtain ⟨h1, ho⟩ := cond_some ho
    obtain ⟨h1, h2⟩ := boolAnd h1
    have h1 := Nat.eq_of_beq_eq_true h1
    have h2 : 0 < wd := Nat.le_of_ble_eq_true h2
    split at ho
    · rename_i c gs old m1 hb
      have a := baseD_mono htd hb
      split at ho
      · rename_i g m2 hj
        have b := joinD_mono hj
        have cm := newSq_mono ho
        have k1 := killO_mono old m2
        have hlg : m'.lg = m1.lg := by rw [cm.2.1, k1.2.1, b.2.1]
        have hhi : m2.hi ≤ m'.hi := by have := cm.1; rw [k1.1] at this; exact this
        obtain ⟨ρ1, e1, e2, e3, e4⟩ := baseD_ok htd h hb (hf.less (Nat.le_trans b.1 hhi)) hx (by rw [← hlg]; exact hS) h2 (h1 ▸ sizeM_info hi)
        have hf1 : Free ρ1 m1.n m'.hi := hf.step e1
        obtain ⟨ρ2, lg, j1, j2, j3, j4, j5, j6⟩ := joinD_ok e1.hr hj (hf1.less hhi)
        have hf2 : Free ρ2 m2.n m'.hi := hf1.step j1
        obtain ⟨nul, rows, hc, hxx⟩ := e4.ex
        have hget : ∀ {j l}, ρ1 j = some l → Hp.get m2.H j = Hp.get m1.H j := fun hj' => joinD_get e1.hr hj (hf1.less hhi) hj'
        have hle : m.lg.le m'.lg := by rw [hlg]; exact a.2.1
        have hkeep : (∀ b, old = some b → b ≤ most ∧ Hp.get m2.H b ≠ some .frz) → KeepF ρ m m' := fun hq => (e3.trans e1.ext j3).trans (fun b l hb => j1.ext b l (e1.ext b l hb)) (newSq_keep j1.hr hq ho hf2)
        rcases hxx with ⟨rfl, rfl, rfl, hold⟩ | ⟨rfl, b0, ab, l, cap, C, fz, rfl, hbm, hbg, hbrw, hbl, hon, rfl, hheap, hcap, hroom, hnfz, hrws⟩
        · have hold1 : ∀ b, old = some b → ∃ ab l, b ≤ most ∧ Hp.get m2.H b = some ab ∧ ab.rw = true ∧ ρ2 b = some l ∧ l.on = false := fun b hb' => by
            obtain ⟨ab, l, q1, q2, q3, q4, q5⟩ := hold b hb'
            exact ⟨ab, l, q1, by rw [hget q4]; exact q2, q3, j1.ext _ _ q4, q5⟩
          obtain ⟨ρ3, q1, q2⟩ := newSq_nil j1.hr hold1 ho hf2 hc rfl hi h1
          exact ⟨ρ3, q1, St.trans hf e1 (St.trans hf1 j1 q2), hle, hkeep fun b hb' => by
            obtain ⟨ab, l, q1, q2, q3, _⟩ := hold1 b hb'
            exact ⟨q1, fun he => by rw [q2] at he; cases he; cases q3⟩⟩
        · have hg1 : Hp.get m2.H b0 = some ab := by rw [hget hbl]; exact hbg
          obtain ⟨ρ3, q1, q2⟩ := newSq_move (w' := w) (cap := cap) (sh := l.sh) j1.hr hbm hg1 hbrw (j1.ext _ _ hbl) hon ho hf2 hc rfl hi h1 hcap hroom (hrws lg.G fun b hb l hl => j6 b hb l hl) j4 hnfz ⟨rfl, rfl, rfl⟩ rfl (fun _ _ => rfl) hheap
          exact ⟨ρ3, q1, St.trans hf e1 (St.trans hf1 j1 q2), hle, hkeep fun b hb' => by
            cases hb'
            exact ⟨hbm, fun he => by rw [hg1] at he; cases he; cases hbrw⟩⟩
      · cases ho
    · cases ho
  · cases ho
theorem toDg_ok : ∀ (d : Nat), TdOk P (toDg P d)
  | 0 => toD_td
  | d + 1 => by
    have ih := toDg_ok d
    refine ⟨fun {base ρ m m' w t v v' x b} h ho hf hv hS => ?_, fun {m m' t v x b} ho => ?_⟩
    · unfold toDg at ho
      split at ho
      · split at ho
        · split at ho
          · rename_i x1 m1 hn
            have a := toD_mono ho
            obtain ⟨ρ1, c1, c2, c3, c4⟩ := ownN_ok ih h hn (hf.less a.1) hv (hS.le a.2.1)
            obtain ⟨ρ2, l, d1, d2, d3, d4, d5, d6⟩ := toD_ok c2.hr ho (hf.step c2) c1 hS
            exact ⟨ρ2, l, St.trans hf c2 d1, d2, d3, d4, d5, c3.trans d6, c4.trans c2.ext (toD_keep c2.hr ho (hf.step c2))⟩
          · cases ho
        · cases ho
      · exact toD_td.ok h ho hf hv hS
    · unfold toDg at ho
      split at ho
      · split at ho
        · split at ho
          · rename_i x1 m1 hn
            have a := ownN_mono ih hn
            have b := toD_mono ho
            exact ⟨Nat.le_trans a.1 b.1, a.2.1.trans b.2.1, Nat.le_trans a.2.2 b.2.2⟩
          · cases ho
        · cases ho
      · exact toD_mono ho
theorem tdP_ok : TdOk P (tdP P) := toDg_ok 3
theorem appendD_mono {t t2 : TypeId} {x y v : Value} (ho : appendD P m t t2 x y = some (v, m')) : m.hi ≤ m'.hi ∧ m.lg.le m'.lg ∧ m.n ≤ m'.n := by
  unfold appendD at ho
  split at ho
  · rename_i e d2 hu hu2
    cases hd2 : isSeqD d2 with
    | false => rw [hd2] at ho; cases ho
    | true =>
      rw [hd2] at ho
      simp only [Bool.not_true, cond_false] at ho
      split at ho
      · obtain ⟨_, ho⟩ := cond_some ho
        split at ho
        · rename_i hbeh
          have a := behD_mono tdP_ok hbeh
          split at ho
          · rename_i hba
            have b := baseD_mono tdP_ok hba
            have c := putD_mono ho
            exact ⟨by omega, a.2.1.trans (b.2.1.trans c.2.1), by omega⟩
          · split at ho
            · obtain ⟨_, ho⟩ := cond_some ho
              have c := putD_mono ho
              exact ⟨by omega, a.2.1.trans c.2.1, by omega⟩
            · cases ho
        · cases ho
      · cases ho
  · cases ho
theorem BehR.step {wd : Nat} {bh : Beh} {gs : List Nat} {y' : Value} {rows2 : List (List U)} {new' : List Value} (h : BehR P ρ w wd bh gs y' rows2 new') (hg : ∀ b ∈ gs, ∃ l, ρ b = some l) (he : ∀ b l, ρ b = some l → ρ' b = some l) : BehR P ρ' w wd bh gs y' rows2 new' :=
  ⟨h.len, h.first, h.size, h.flat, fun R hR => h.rows R fun b hb l hl => hR b hb l (he b l hl), h.ev⟩
theorem zerOk_eq {e : TypeId} {n : Nat} (h : zerOk P e n = true) : ∃ z, zeroM P e = some z ∧ z.cells.size = n := by
  unfold zerOk at h
  split at h
  · rename_i z hz; exact ⟨z, hz, Nat.eq_of_beq_eq_true h⟩
  · cases h
theorem appendD_ok {t t2 ty : TypeId} {x y x' y' v : Value} (h : HR P base ρ m.H w) (hb : base ≤ w.heap.size) (ho : appendD P m t t2 x y = some (v, m')) (hf : Free ρ m.n m'.hi) (hx : VR ρ x x') (hy : VR ρ y y') (hS : Sat m'.lg) :
    VOk P base ρ m w (Builtin.append_ #[t, t2] ty #[x', y']) v m' := by
  unfold appendD at ho
  split at ho
  · rename_i e d2 hu hu2
    cases hd2 : isSeqD d2 with
    | false => rw [hd2] at ho; cases ho
    | true =>
      rw [hd2] at ho
      simp only [Bool.not_true, cond_false] at ho
      split at ho
      · rename_i inf hi
        obtain ⟨hq, ho1⟩ := cond_some ho
        clear ho
        obtain ⟨hq1, hq2⟩ := boolAnd hq
        obtain ⟨hq3, hq4⟩ := boolAnd hq1
        have hby := Nat.le_of_ble_eq_true hq3
        have hwd : 0 < inf.size := Nat.le_of_ble_eq_true hq4
        obtain ⟨z, hz, hzs⟩ := zerOk_eq hq2
        have hsz : sizeM P e = some inf.size := by unfold sizeM; rw [hi]
        split at ho1
        · rename_i bh gs sure m1 hbeh
          split at ho1
          · rename_i c g0 old m2 hba
            have mb := baseD_mono tdP_ok hba
            have mp := putD_mono ho1
            have hf1 : Free ρ m.n m1.hi := hf.less (by omega)
            obtain ⟨ρ1, rows2, new', a1, a2, a3, a4, a5, a6⟩ := behD_ok tdP_ok h hbeh hf1 hy (hS.le (mb.2.1.trans mp.2.1)) hwd hsz
            have hf2 : Free ρ1 m1.n m'.hi := hf.step a1
            obtain ⟨ρ2, b1, b2, b3, b4⟩ := baseD_ok tdP_ok a1.hr hba (hf2.less mp.1) (hx.mono a1.ext) (hS.le mp.2.1) hwd hsz
            obtain ⟨v', ρ3, w3, c1, c2, c3⟩ := putD_ok (ty := ty) hu hu2 hd2 hi hz hzs hby b1.hr hb ho1 (hf2.step b1) hS b4 (a5.step (fun b hb' => (a4 b hb').2) b1.ext)
            exact ⟨v', ρ3, w3, c1, c2, St.trans hf (St.trans (hf.less mp.1) a1 b1) c3⟩
          · split at ho1
            · rename_i b c tg hbn
              obtain ⟨htg, ho2⟩ := cond_some ho1
              clear ho1
              have htg := Nat.eq_of_beq_eq_true htg
              have mp := putD_mono ho2
              have hf1 : Free ρ m.n m1.hi := hf.less (by omega)
              obtain ⟨ρ1, rows2, new', a1, a2, a3, a4, a5, a6⟩ := behD_ok tdP_ok h hbeh hf1 hy (hS.le mp.2.1) hwd hsz
              have hf2 : Free ρ1 m1.n m'.hi := hf.step a1
              obtain ⟨l, d1, d2, d3, d4, d5⟩ := inv_clp hx
              obtain ⟨nul, wd2, rows, q1, q2⟩ := enc_seq d2 d3 d4
              have hw2 : wd2 = inf.size := by omega
              subst hw2
              rw [q1] at d2
              rcases enc_cases d2 with ⟨rfl, rfl, rfl⟩ | ⟨rfl, a, cap, rfl, hc⟩
              · have hbase : BaseR P base ρ1 m1 w e inf.size c [b] none (.slice none 0 0) := ⟨true, [], q1, .inl ⟨rfl, rfl, rfl, fun b hb => by cases hb⟩⟩
                obtain ⟨v', ρ3, w3, c1, c2, c3⟩ := putD_ok (ty := ty) (g0 := [b]) (gs := gs) hu hu2 hd2 hi hz hzs hby a1.hr hb ho2 hf2 hS hbase a5
                exact ⟨v', ρ3, w3, c1, c2, St.trans hf a1 c3⟩
              · have hcap : cap = rows.length := d5
                subst hcap
                obtain ⟨v', ρ3, w3, c1, c2, c3⟩ := putC_ok (ty := ty) hu hu2 hd2 hi hz hzs hby a1.hr hb ho2 hf2 hS q1 (a1.ext _ _ d1) (by rw [q1]; exact d2) a5 (a6 rfl)
                exact ⟨v', ρ3, w3, c1, c2, St.trans hf a1 c3⟩
            · cases ho1
        · cases ho1
      · cases ho
  · cases ho
end
end Go.Sx

namespace Go.Sx
set_option linter.all false
open Go
set_option linter.unusedVariables false
set_option linter.unusedSimpArgs false
variable [Ora]
section
variable {P : Program} {base : Nat} {ρ ρ' : Ren} {m m' : Mem} {w w' : World}
theorem putU_len {row us : List U} {o : Nat} (h : o + us.length ≤ row.length) : (putU row o us).length = row.length := by
  unfold putU; simp; omega
theorem putU_get {row us : List U} {o j : Nat} (h : o + us.length ≤ row.length) : (putU row o us)[j]? = if o ≤ j ∧ j < o + us.length then us[j - o]? else row[j]? := by
  unfold putU
  have hto : (row.take o).length = o := by simp; omega
  by_cases h1 : j < o
  · rw [if_neg (by omega), List.append_assoc, List.getElem?_append_left (by omega), List.getElem?_take_of_lt h1]
  · by_cases h2 : j < o + us.length
    · rw [if_pos ⟨by omega, h2⟩, List.append_assoc, List.getElem?_append_right (by omega), hto, List.getElem?_append_left (by omega)]
    · rw [if_neg (by omega), List.getElem?_append_right (by simp; omega), List.getElem?_drop]
      congr 1
      simp; omega
theorem RowsAt.set {R : Nat → Option Obj} {rows : List (List U)} {wd s k o : Nat} {C C' : Array Value} {us : List U} {vs : List Value} (h : RowsAt R rows wd C s) (hk : k < rows.length) (ho : o + us.length ≤ wd) (he : EncL R us vs)
    (hC : ∀ j, C'[j]? = if s + k * wd + o ≤ j ∧ j < s + k * wd + o + vs.length then vs[j - (s + k * wd + o)]? else C[j]?) : RowsAt R (rows.set k (putU (rows.getD k []) o us)) wd C' s := by
  have hrow : rows[k]? = some rows[k] := List.getElem?_eq_getElem hk
  have hgd : rows.getD k [] = rows[k] := by rw [List.getD_eq_getElem?_getD, hrow]; rfl
  have hrl : rows[k].length = wd := h.1 _ (List.getElem_mem hk)
  rw [hgd]
  refine ⟨fun row hr => ?_, fun r row j u v a1 a2 a3 => ?_⟩
  · rcases List.mem_or_eq_of_mem_set hr with h1 | rfl
    · exact h.1 row h1
    · rw [putU_len (by omega)]; exact hrl
  · rw [hC] at a3
    by_cases hrk : k = r
    · subst hrk
      rw [List.getElem?_set_self hk] at a1
      have a1 := Option.some.inj a1
      subst a1
      have hj := (List.getElem?_eq_some_iff.1 a2).1
      rw [putU_len (by omega), hrl] at hj
      rw [putU_get (by omega)] at a2
      by_cases hin : o ≤ j ∧ j < o + us.length
      · rw [if_pos hin] at a2
        rw [if_pos (by rw [← he.1]; omega)] at a3
        exact he.2 (j - o) u v a2 (by rw [← a3]; congr 1; omega)
      · rw [if_neg hin] at a2
        rw [if_neg (by rw [← he.1]; omega)] at a3
        exact h.2 k _ j u v hrow a2 a3
    · rw [List.getElem?_set_ne hrk] at a1
      have hj := (List.getElem?_eq_some_iff.1 a2).1
      rw [h.1 _ (List.mem_of_getElem? a1)] at hj
      have hr1 := (List.getElem?_eq_some_iff.1 a1).1
      have hvl := he.1
      rw [if_neg] at a3
      · exact h.2 r row j u v a1 a2 a3
      · rcases Nat.lt_or_ge r k with hlt | hge
        · have h2 : (r + 1) * wd ≤ k * wd := Nat.mul_le_mul_right wd hlt
          rw [Nat.add_mul] at h2; omega
        · have h2 : (k + 1) * wd ≤ r * wd := Nat.mul_le_mul_right wd (by omega)
          rw [Nat.add_mul] at h2; omega
theorem storeD_ok {t : TypeId} {x x' y y' v : Value} (h : HR P base ρ m.H w) (ho : storeD P m t x y = some (v, m')) (hf : Free ρ m.n m'.hi) (hx : VR ρ x x') (hy : VR ρ y y') (hS : Sat m'.lg) : UOk P base ρ m w (Instr.storeAt t x' y') m' ∧ v = undef ∧ m.lg.le m'.lg := by
  unfold storeD at ho
  split at ho
  · rename_i b i tg z o ts hts
    cases hw0 : isWide y with
    | true => rw [hw0] at ho; cases ho
    | false =>
    rw [hw0] at ho
    simp only [cond_false] at ho
    split at ho
    · rename_i xs gs m1 hd
      split at ho
      · rename_i c tc T g hg
        obtain ⟨htc, ho1⟩ := cond_some ho
        clear ho
        have htc := Nat.eq_of_beq_eq_true htc
        split at ho1
        · rename_i g2 m2 hj
          rw [letD_eq] at ho1
          simp only [hole] at ho1
          obtain ⟨hs, rfl⟩ := memM_some ho1
          obtain ⟨hsle, hsm⟩ := setM_eq hs
          have md := toDL_mono tdP_ok hd
          have mj := joinD_mono hj
          have hhi : m2.hi = m'.hi := by rw [hsm]; simp
          have hlg : m'.lg = dtLg m2 tg (.set (tg - 10) o) (hole c tg :: z :: xs) := by rw [hsm]; simp [hole]
          have hle2 : m2.lg.le m'.lg := by rw [hlg]; exact ⟨[_], rfl⟩
          have hf1 : Free ρ m.n m1.hi := hf.less (by omega)
          have hl2 : m1.lg.le m'.lg := by rw [← mj.2.1]; exact hle2
          obtain ⟨ρ1, e1, e2, e3, e4, e5, e6⟩ := toDL_ok tdP_ok h hd hf1 (hy.cells hw0) (hS.le hl2)
          have hf2 : Free ρ1 m1.n m2.hi := (hf.step e1).less (by omega)
          obtain ⟨ρ2, lg, d1, d2, d3, d4, d5, d6⟩ := joinD_ok e1.hr hj hf2
          obtain ⟨⟨l, wd, rows0, k, a1, a2, a3, a4, a5, a6, rfl⟩, a8⟩ := inv_opt hx
          have a1' := e1.ext _ _ a1
          obtain ⟨wd2, inf, q1, q2, q3, q4⟩ := SqR.ex (e1.hr.atl a1' hg).1
          rcases q4 with ⟨q4, _⟩ | ⟨_, q4⟩
          · rw [a2] at q4; cases q4
          obtain ⟨C, fz, T', rows, lg0, f1, f2, f3, f4, f5, f6, f7, f8, f9⟩ := q4
          have hwd : wd2 = wd := by
            have : tg = 10 + wd := by rw [← a8, a3]; rfl
            omega
          subst hwd
          obtain ⟨rfl, f10⟩ := f9 rfl
          have htg : tg = 10 + wd2 := by omega
          have hS2 : Sat (m2.wLg (dtLg m2 tg (.set (tg - 10) o) (hole c tg :: z :: xs))).lg := by rw [wLg_lg, ← hlg]; exact hS
          obtain ⟨r1, r2, nul, wd3, rws, r3, r4⟩ := dt_ok hS2 (.refl _)
          obtain ⟨kk, hz⟩ := argU_of a4
          have hargs : (hole c tg :: z :: xs).map (argU Ora.env) = .seq false wd2 rows :: .int kk (.ofNat k) :: xs.map (argU Ora.env) := by
            show Ora.env c :: argU Ora.env z :: xs.map (argU Ora.env) = _
            rw [f2, hz]
          rw [hargs, show tg - 10 = wd2 by omega] at r1
          have r1 : Ora.env m2.lg.nx = if wd2 = wd2 ∧ k < rows.length ∧ o + (xs.map (argU Ora.env)).length ≤ wd2 then .seq false wd2 (rows.set k (putU (rows.getD k []) o (xs.map (argU Ora.env)))) else .none := r1
          by_cases hc : wd2 = wd2 ∧ k < rows.length ∧ o + (xs.map (argU Ora.env)).length ≤ wd2
          · rw [if_pos hc] at r1
            obtain ⟨_, hkl, hol⟩ := hc
            have hR : ∀ b' ∈ gs, ∀ l', ρ1 b' = some l' → Sub l'.G lg.G := fun b' hb' l' hl' => d6 b' (.tail _ hb') l' hl'
            have henc := e6 lg.G hR
            have hsub0 : Sub lg0.G lg.G := d6 g (.head _) lg0 f7
            have hvl : y'.cells.toList.length = (xs.map (argU Ora.env)).length := henc.1.symm
            have hk2 : (k + 1) * wd2 ≤ l.cap * wd2 := Nat.mul_le_mul_right wd2 (by omega)
            rw [Nat.add_mul] at hk2
            obtain ⟨w', g1, g2', g3, g4, g5⟩ := run_storeCells (P := P) (b := l.blk) (o := l.sh + k * wd2 + o) (fz := fz) y'.cells.toList 0 C w f1 (enc_flatL henc) (by rw [hvl]; omega) f10
            have hCl : C.toList.length = C.size := Array.length_toList
            have hlenC : (Array.mk (putL C.toList (l.sh + k * wd2 + o + 0) y'.cells.toList)).size = C.size := by simp [putL_length]
            have hCg : ∀ j, (Array.mk (putL C.toList (l.sh + k * wd2 + o + 0) y'.cells.toList))[j]? = if l.sh + k * wd2 + o ≤ j ∧ j < l.sh + k * wd2 + o + y'.cells.toList.length then y'.cells.toList[j - (l.sh + k * wd2 + o)]? else C[j]? := fun j => by
              rw [List.getElem?_toArray, putL_get _ _ _ _ (by rw [hvl]; omega)]
              simp
            have hrows : RowsAt lg.G rows wd2 C l.sh := RowsAt.mono ⟨f6, f8⟩ hsub0
            have hst1 : St P base ρ ρ2 m (m2.wLg (dtLg m2 tg (.set (tg - 10) o) (hole c tg :: z :: xs))) w w := St.trans (hf.less (by simp; omega)) (St.trans (hf.less (by omega)) e1 d1) (St.wLg d1.hr _)
            have hgetb : Hp.get (m2.wLg (dtLg m2 tg (.set (tg - 10) o) (hole c tg :: z :: xs))).H b = some (.sq c tc T' g false) := by rw [wLg_H, joinD_get e1.hr hj hf2 a1']; exact hg
            have hl2' := d1.ext _ _ a1'
            have hbr : BR P ρ2 (.sq m2.lg.nx tg T' g2 false) l w' := by
              refine ⟨⟨wd2, inf, htg, q2, q3, .inr ⟨a2, _, fz, T', _, lg, g4, r1, by rw [List.length_set]; exact f3, f4, by rw [hlenC]; exact f5, (hrows.set hkl hol henc hCg).1, d4, (hrows.set hkl hol henc hCg).2, fun _ => ⟨rfl, by rw [hlenC]; exact f10⟩⟩⟩⟩
            have hst2 := St.write hst1.hr hs hgetb rfl hl2' a2 g2' g3 g5 hbr (fun h => by cases h)
            refine ⟨⟨ρ2, w', ?_, St.trans hf hst1 hst2⟩, rfl, md.2.1.trans hl2⟩
            have hsz2 := tagsOf_len hts
            have hts3 : ts.length = (xs.map (argU Ora.env)).length := by
              have := congrArg List.length e5
              rw [List.length_map] at this; exact this.symm
            have e : y'.cells.size = ts.length := by rw [hts3, ← hvl]; simp
            simp [Instr.storeAt, Instr.sureAddr, storeVar, Sem.run_bind, run_size hsz2, Result.andThen, e, g1]
          · rw [if_neg hc] at r1
            rw [r1] at r3; cases r3
        · cases ho1
      · cases ho
    · cases ho
  · cases ho
theorem sliceD_ok {t : TypeId} {x x' v : Value} {lo hi mx lo' hi' mx' : Option Value} (h : HR P base ρ m.H w) (ho : sliceD P m t x lo hi mx = some (v, m')) (hf : Free ρ m.n m'.hi) (hx : VR ρ x x') (hlo : OR ρ lo lo') (hhi : OR ρ hi hi') (hmx : OR ρ mx mx') (hS : Sat m'.lg) :
    VOk P base ρ m w (Instr.sliceAt t x' lo' hi' mx') v m' ∧ m.lg.le m'.lg := by
  unfold sliceD at ho
  split at ho
  · rename_i e b i tg hu
    split at ho
    · rename_i s hs
      obtain ⟨htg, ho⟩ := cond_some ho
      have htg := Nat.eq_of_beq_eq_true htg
      obtain ⟨l, h1, h2, h3, h4⟩ := inv_dat hx
      obtain ⟨⟨r, g1, g2⟩, ⟨lg, rfl⟩, g4⟩ := cutD_ok (w := w) hu hs htg h1 h2 h3 (fun h => by cases h) ho hlo hhi hmx hS
      exact ⟨⟨r, ρ, w, g1, g2, St.wLg h lg⟩, g4⟩
    · cases ho
  · rename_i e b i tg hu
    split at ho
    · rename_i s hs
      obtain ⟨htg, ho⟩ := cond_some ho
      have htg := Nat.eq_of_beq_eq_true htg
      obtain ⟨l, h1, h2, h3, h4, h5⟩ := inv_clp hx
      obtain ⟨⟨r, g1, g2⟩, ⟨lg, rfl⟩, g4⟩ := cutD_ok (w := w) hu hs htg h1 h2 h3 (fun _ => h5) ho hlo hhi hmx hS
      exact ⟨⟨r, ρ, w, g1, g2, St.wLg h lg⟩, g4⟩
    · cases ho
  · rename_i e b i tg hu
    split at ho
    · rename_i s hs
      obtain ⟨htg, ho⟩ := cond_some ho
      have htg := Nat.eq_of_beq_eq_true htg
      split at ho
      · rename_i c tc b2 m1 hd
        have hcut : ∀ {m1 : Mem}, cutD m1 b2 c tg false lo hi mx = some (v, m') → OnlyLg m1 m' ∧ m1.lg.le m'.lg := fun {m1} ho => by
          have go : ∀ {m1 : Mem} {l h : Value} {cc : Bool}, cutGo m1 b2 c tg l h cc = some (v, m') → OnlyLg m1 m' ∧ m1.lg.le m'.lg := fun h => by
            unfold cutGo at h
            obtain ⟨_, h⟩ := cond_some h
            rw [letD_eq] at h
            simp only [Option.some.injEq, Prod.mk.injEq] at h
            obtain ⟨_, rfl⟩ := h
            exact ⟨⟨_, rfl⟩, dtLg_le⟩
          unfold cutD cutD2 at ho
          split at ho
          · exact go ho
          · exact go (cond_some ho).2
          · split at ho
            · rename_i hl
              have := go ho
              exact ⟨(lenH_only hl).1.trans this.1, (lenH_only hl).2.trans this.2⟩
            · cases ho
          · cases ho
        obtain ⟨⟨lg, hlg⟩, hle⟩ := hcut ho
        have hm1 : m1.hi = m'.hi := by rw [hlg]; simp
        obtain ⟨ρ1, l, e1, e2, e3, e4, e5, e6⟩ := toD_ok h hd (hf.less (by omega)) hx (hS.le hle)
        have mono : ∀ {o o' : Option Value}, OR ρ o o' → OR ρ1 o o' := fun {o o'} h => by
          cases o <;> cases o' <;> first | exact trivial | exact h.elim | exact VR.mono e1.ext h
        obtain ⟨⟨r, g1, g2⟩, ⟨lg2, hlg2⟩, g4⟩ := cutD_ok (w := w) (cl := false) hu hs htg e2 e4 e5 (fun h => by cases h) ho (mono hlo) (mono hhi) (mono hmx) hS
        subst hlg2
        exact ⟨⟨r, ρ1, w, g1, g2, St.trans (hf.less (by simp)) e1 (St.wLg e1.hr lg2)⟩, e6.trans g4⟩
      · cases ho
    · cases ho
  · cases ho
end
end Go.Sx

namespace Go.Sx
set_option linter.all false
open Go
set_option linter.unusedVariables false
set_option linter.unusedSimpArgs false
variable [Ora]
section
variable {P : Program} {base : Nat} {ρ ρ' : Ren} {m m' : Mem} {w w' : World}
theorem run_toStr {s t e : TypeId} {a' : Addr} {n c' : Nat} {ns : List Int} (hs : P.underlying s = some (.slice e)) (ht : P.underlying t = some .string) (he : P.underlying e = some (.int .u8)) (hlc : (loadCells a' n).run P w = .ok (ns.map (Value.int .u8)).toArray w) :
    (convert s t (.slice (some a') n c')).run P w = .ok (.string ⟨⟨ns.map fun n => UInt8.ofNat n.toNat⟩⟩) w := by
  have := run_bytesToString w a' n c' ns hlc
  have e2 := foldl_push ns []
  simp only [List.nil_append] at e2
  simp only [convert, Sem.run_bind, run_und hs, run_und ht, run_und he, Result.andThen]
  rw [this, show ByteArray.empty = ByteArray.mk ⟨[]⟩ from rfl, e2]
theorem run_toStrNil {s t e : TypeId} {n c : Nat} (hs : P.underlying s = some (.slice e)) (ht : P.underlying t = some .string) (he : P.underlying e = some (.int .u8)) : (convert s t (.slice none n c)).run P w = .ok (.string ByteArray.empty) w := by
  simp [convert, Sem.run_bind, run_und hs, run_und ht, run_und he, Result.andThen, Conv.bytesToString]
theorem run_toBytes {s t e : TypeId} {ds : TypeDesc} {b : ByteArray} (hs : P.underlying s = some ds) (ht : P.underlying t = some (.slice e)) (he : P.underlying e = some (.int .u8)) (w : World) :
    ∃ (cap : Nat) (C : Array Value), b.size ≤ cap ∧ C.size = cap ∧ (∀ (i : Nat) (u : Value), (intsOf b.data.toList)[i]? = some u → C[i]? = some u) ∧ (convert s t (.string b)).run P w = .ok (.slice (some ⟨w.heap.size, 0, none⟩) b.size cap) { w.drew with heap := w.heap.push (.cells C e (C.size, C.size + 1)) } := by
  let q : Question := .appendCap b.size 0 e
  let cap := q.cut (w.tape w.drawn q)
  have hcap : b.size ≤ cap := by show b.size ≤ b.size + _; omega
  have hch : (choose q).run P w = .ok cap w.drew := by
    simp only [choose, Sem.run]
    rw [if_neg (by simp [q, Question.forced])]
    rfl
  let C : Array Value := (b.data.map fun b => Value.int .u8 b.toNat) ++ Array.replicate (cap - b.size) (.int .u8 0)
  have hC : C.size = cap := by
    have : b.data.size = b.size := rfl
    simp [C, this]; omega
  refine ⟨cap, C, hcap, hC, fun i u hi => ?_, ?_⟩
  · have hl := (List.getElem?_eq_some_iff.1 hi).1
    simp [intsOf] at hl
    have hl' : i < (b.data.map fun b => Value.int .u8 b.toNat).size := by simpa using hl
    show ((b.data.map fun b => Value.int .u8 b.toNat) ++ Array.replicate (cap - b.size) (.int .u8 0))[i]? = some u
    rw [Array.getElem?_append_left hl']
    simpa [intsOf] using hi
  · have hmk : ∀ w2 : World, w2.heap[w.heap.size]? = some (.cells C e (0, 0)) → (markStringish ⟨w.heap.size, 0, none⟩).run P w2 = .ok () (w2.freeze { block := w.heap.size, off := C.size } 1) := fun w2 h2 => by
      simp [markStringish, shape, freeze, Sem.run, World.shape?, h2]
    have hfr : ({ w.drew with heap := w.heap.push (.cells C e (0, 0)) } : World).freeze { block := w.heap.size, off := C.size } 1 = { w.drew with heap := w.heap.push (.cells C e (C.size, C.size + 1)) } := by
      unfold World.freeze
      rw [if_neg (by decide)]
      congr 1
      apply Array.ext_getElem?
      intro i
      rw [Array.getElem?_modify]
      by_cases hi : w.heap.size = i
      · subst hi; simp
      · rw [if_neg hi]; simp only [Array.getElem?_push]; rw [if_neg (fun h => hi h.symm), if_neg (fun h => hi h.symm)]
    have hconv : (convert s t (.string b)).run P w = (Conv.stringToBytes e b).run P w := by
      cases ds <;> simp [convert, Sem.run_bind, run_und hs, run_und ht, run_und he, Result.andThen]
    rw [hconv]
    unfold Conv.stringToBytes
    simp only [Sem.run_bind, show (choose (.appendCap b.size 0 e)).run P w = .ok cap w.drew from hch, Result.andThen]
    have hnr : (newRow e C).run P w.drew = .ok ⟨w.heap.size, 0, none⟩ { w.drew with heap := w.heap.push (.cells C e (0, 0)) } := rfl
    rw [show (newRow e ((b.data.map fun b => Value.int .u8 b.toNat) ++ Array.replicate (cap - b.size) (.int .u8 0))).run P w.drew = _ from hnr]
    simp only [Result.andThen]
    rw [hmk _ (by simp), hfr]
    rfl
theorem bytU_eq : ∀ {us : List U} {s : List UInt8} {vs : List Value}, bytU us = some s → EncL (fun k => w.heap[k]?) us vs → ∃ ns : List Int, vs = ns.map (Value.int .u8) ∧ s = ns.map fun n => UInt8.ofNat n.toNat
  | [], s, vs, h, he => by
    cases h
    have : vs = [] := List.length_eq_zero_iff.1 he.1.symm
    subst this
    exact ⟨[], rfl, rfl⟩
  | u :: us, s, vs, h, he => by
    unfold bytU at h
    split at h
    · rename_i heq; cases heq
    · rename_i n r heq
      cases heq
      split at h
      · split at h
        · rename_i l hl
          cases h
          cases vs with
          | nil => have := he.1; simp at this
          | cons v vr =>
            obtain ⟨ns, e1, e2⟩ := bytU_eq (vs := vr) hl ⟨by have := he.1; simpa using this, fun i a b h1 h2 => he.2 (i + 1) a b (by simpa using h1) (by simpa using h2)⟩
            have := enc_toV (he.2 0 _ v rfl rfl) rfl
            subst this
            exact ⟨(Int.ofNat n) :: ns, by rw [e1]; rfl, by rw [e2]; rfl⟩
        · cases h
      · cases h
    · cases h
theorem bytR_eq : ∀ {rows : List (List U)} {s : List UInt8}, bytR rows = some s → bytU (rows.flatMap id) = some s ∧ (rows.flatMap id).length = rows.length ∧ ∀ (r : Nat) (row : List U) (j : Nat) (u : U), rows[r]? = some row → row[j]? = some u → j = 0 ∧ (rows.flatMap id)[r]? = some u
  | [], s, h => by cases h; exact ⟨rfl, rfl, fun r row j u h => by simp at h⟩
  | row :: rows, s, h => by
    unfold bytR at h
    split at h
    · rename_i heq; cases heq
    · rename_i n r heq
      cases heq
      split at h
      · rename_i hn
        split at h
        · rename_i l hl
          cases h
          obtain ⟨h1, h2, h3⟩ := bytR_eq hl
          refine ⟨?_, by show ([U.int .u8 (Int.ofNat n)] ++ rows.flatMap id).length = _; rw [List.length_append, h2]; simp; omega, fun q row j u a1 a2 => ?_⟩
          · simp only [List.flatMap_cons, id, List.cons_append, List.nil_append, bytU]
            rw [if_pos hn, h1]
          · cases q with
            | zero =>
              simp at a1; subst a1
              cases j with
              | zero => simp at a2; subst a2; exact ⟨rfl, rfl⟩
              | succ j => simp at a2
            | succ q =>
              obtain ⟨b1, b2⟩ := h3 q row j u (by simpa using a1) a2
              exact ⟨b1, by simpa using b2⟩
        · cases h
      · cases h
    · cases h
theorem sameTags_all {t : Nat} : ∀ {l : List Value}, sameTags t l = true → ∀ v ∈ l, tagOf v = t
  | [], _, v, hv => by cases hv
  | x :: r, h, v, hv => by
    obtain ⟨h1, h2⟩ := boolAnd (show (Nat.beq (tagOf x) t && sameTags t r) = true from h)
    rcases List.mem_cons.1 hv with rfl | hv
    · exact Nat.eq_of_beq_eq_true h1
    · exact sameTags_all h2 v hv
theorem encL_scalars {R : Nat → Option Obj} {cs cs' : List Value} (h : LR ρ cs cs') (ht : ∀ v ∈ cs, tagOf v < 10) : EncL R (cs.map (argU Ora.env)) cs' := by
  refine ⟨by simp [h.1], fun i u v a1 a2 => ?_⟩
  rw [List.getElem?_map] at a1
  cases hc : cs[i]? with
  | none => rw [hc] at a1; cases a1
  | some x =>
    rw [hc] at a1
    have a1 := Option.some.inj a1; subst a1
    exact .sc (tag_val (h.2 i x v hc a2) (ht x (List.mem_of_getElem? hc))).1
theorem convD_ok {s t : TypeId} {x x' v : Value} (h : HR P base ρ m.H w) (hb : base ≤ w.heap.size) (ho : convD P m s t x = some (v, m')) (hf : Free ρ m.n m'.hi) (hx : VR ρ x x') (hS : Sat m'.lg) : VOk P base ρ m w (convert s t x') v m' ∧ m.lg.le m'.lg := by
  unfold convD at ho
  split at ho
  · rename_i e a n c hs ht
    split at ho
    · rename_i he
      split at ho
      · rename_i cs hr
        obtain ⟨htg, ho⟩ := cond_some ho
        obtain ⟨u, e1, e2, r, e3, e4, e5⟩ := letM_ok ho hS
        obtain ⟨lg, rfl⟩ := letM_only ho
        have hst := St.wLg h lg
        have htags := sameTags_all htg
        have key : ∀ {a' c'} {r' : List Value}, LR ρ cs r' → (loadCells a' n).run P w = .ok ⟨r'⟩ w → VOk P base ρ m w (convert s t (.slice (some a') n c')) v (m.wLg lg) := fun {a' c' r'} hl hlc => by
          have he1 : EncL (fun k => w.heap[k]?) (cs.map (argU Ora.env)) r' := encL_scalars hl (fun v hv => by rw [htags v hv]; omega)
          have hev : ∃ sb, bytU (cs.map (argU Ora.env)) = some sb ∧ u = .str sb := by
            have e1 : (match bytU (cs.map (argU Ora.env)) with | some s => U.str s | none => .none) = u := e1
            split at e1
            · rename_i sb hsb; exact ⟨sb, hsb, e1.symm⟩
            · subst e1; cases e3
          obtain ⟨sb, q1, rfl⟩ := hev
          cases e3
          obtain ⟨ns, r1, r2⟩ := bytU_eq (w := w) q1 he1
          subst r1; subst r2
          exact ⟨_, ρ, w, run_toStr hs ht he hlc, e4 ρ, hst⟩
        refine ⟨?_, letM_le ho⟩
        rcases inv_slice hx with ⟨l, hl, _, _, rfl⟩ | ⟨l, c', hl, _, _, _, _, rfl⟩ | ⟨a', c', _, rfl, _, rfl⟩
        · obtain ⟨r', g1, g2, g3⟩ := read_ok h hr hl
          exact key g1 (load_cells g2 g3)
        · obtain ⟨r', g1, g2, g3⟩ := read_ok h hr hl
          exact key g1 (load_cells g2 g3)
        · have : cs = [] := by
            unfold readM at hr
            split at hr
            · have := (cutL_eq hr).2; simpa using this
            · cases hr
          subst this
          exact key .nil (by simp [loadCells, loadCellsFrom])
      · cases ho
    · cases ho
  · rename_i e fn a1 a2 hs ht
    split at ho
    · rename_i he
      split at ho
      · rename_i hh b m1 hd
        obtain ⟨u, e1, e2, r, e3, e4, e5⟩ := letM_ok ho hS
        have hle := letM_le ho
        obtain ⟨lg, rfl⟩ := letM_only ho
        obtain ⟨ρ1, l, d1, d2, d3, d4, d5, d6⟩ := toD_ok h hd (hf.less (by simp)) hx (hS.le hle)
        have hst : St P base ρ ρ1 m (m1.wLg lg) w w := St.trans hf d1 (St.wLg d1.hr lg)
        obtain ⟨nul, wd, rows, q1, q2⟩ := enc_seq d4 d5 (by omega)
        have hw1 : wd = 1 := by omega
        subst hw1
        rw [q1] at d4
        have hev : ∃ sb, bytR rows = some sb ∧ u = .str sb := by
          have e1 : evU .str [argU Ora.env hh] = u := e1
          rw [q1] at e1
          have e1 : (if 1 = 1 then (match bytR rows with | some s => U.str s | none => .none) else .none) = u := e1
          rw [if_pos rfl] at e1
          split at e1
          · rename_i sb hsb; exact ⟨sb, hsb, e1.symm⟩
          · subst e1; cases e3
        obtain ⟨sb, hsb, rfl⟩ := hev
        cases e3
        refine ⟨?_, d6.trans hle⟩
        have hG := (d1.hr.atl d2 d3).1.2
        rcases enc_cases d4 with ⟨rfl, rfl, rfl⟩ | ⟨rfl, a, c, rfl, hc⟩
        · cases hsb
          exact ⟨_, ρ1, w, run_toStrNil hs ht he, e4 ρ1, hst⟩
        · obtain ⟨_, new', g1, g2, g3, g4⟩ := enc_cells (w := w) d4 hG
          obtain ⟨k1, k2, k3⟩ := bytR_eq hsb
          have henc : EncL (fun k => w.heap[k]?) (rows.flatMap id) new' := by
            refine ⟨by rw [k2, g1]; simp, fun i u v b1 b2 => ?_⟩
            have hil : i < rows.length := by have := (List.getElem?_eq_some_iff.1 b1).1; rw [k2] at this; exact this
            have hrl : rows[i].length = 1 := g3.1 _ (List.getElem_mem hil)
            have hrow : rows[i]? = some rows[i] := List.getElem?_eq_getElem hil
            have h0 : rows[i][0]? = some (rows[i][0]'(by omega)) := List.getElem?_eq_getElem (by omega)
            obtain ⟨_, k4⟩ := k3 i _ 0 _ hrow h0
            rw [b1] at k4
            have k4 := Option.some.inj k4
            rw [k4]
            exact (g3.2 i _ 0 _ v hrow h0 (by simpa using b2)).mono hG
          obtain ⟨ns, r1, r2⟩ := bytU_eq (w := w) k1 henc
          subst r1; subst r2
          have g1' : (ns.map (Value.int .u8)).length = rows.length := by rw [g1]; omega
          exact ⟨_, ρ1, w, run_toStr hs ht he (load_cellsA g1' g4), e4 ρ1, hst⟩
      · cases ho
    · cases ho
  · rename_i y _ _ _ ds e hs ht
    obtain ⟨htg, ho⟩ := cond_some ho
    have htg := Nat.eq_of_beq_eq_true htg
    split at ho
    · rename_i he
      split at ho
      · rename_i hsz
        split at ho
        · rename_i g m1 hj
          rw [letD_eq] at ho
          simp only [hole] at ho
          have ho : newSq (m1.wLg (dtLg m1 11 .byt [y])) m1.lg.nx 11 e g = some (v, m') := ho
          have mj := joinD_mono hj
          have mn := newSq_mono ho
          simp only [wLg_hi, wLg_lg, wLg_n] at mn
          obtain ⟨ρ1, lg, e1, e2, e3, e4, e5, e6⟩ := joinD_ok h hj (hf.less (by omega))
          have hst : St P base ρ ρ1 m (m1.wLg (dtLg m1 11 .byt [y])) w w := St.trans (hf.less (by simp; omega)) e1 (St.wLg e1.hr _)
          obtain ⟨sb, rfl, f1⟩ := tag_str hx htg
          obtain ⟨r1, r2, _⟩ := dt_ok (m := m1) (t := 11) (op := .byt) (xs := [y]) (lg := m'.lg) hS (by rw [wLg_lg, mn.2.1]; exact .refl _)
          have r1 : Ora.env m1.lg.nx = evU .byt [argU Ora.env y] := r1
          rw [f1] at r1
          have r1 : Ora.env m1.lg.nx = .seq false 1 (rowsB sb) := r1
          obtain ⟨cap, C, c1, c2, c3, c4⟩ := run_toBytes (P := P) (b := ⟨⟨sb⟩⟩) hs ht he w
          obtain ⟨inf, hinf, hisz⟩ : ∃ inf, P.info? e = some inf ∧ inf.size = 1 := by
            unfold sizeM at hsz
            cases hi : P.info? e with
            | none => rw [hi] at hsz; cases hsz
            | some inf => rw [hi] at hsz; exact ⟨inf, rfl, Option.some.inj hsz⟩
          have hbs : ByteArray.size ⟨⟨sb⟩⟩ = sb.length := rfl
          rw [hbs] at c1 c4
          obtain ⟨ρ2, q1, q2⟩ := newSq_alloc (w' := { w.drew with heap := w.heap.push (.cells C e (C.size, C.size + 1)) }) (cap := cap) (C := C) hst.hr hb ho (by simpa using (hf.less (Nat.le_refl _)).step e1) r1 rfl hinf hisz (by rw [rowsB_len]; exact c1) (by omega)
            ((rowsB_at (R := lg.G) sb).move (o' := 0) fun i hi => by
              rw [rowsB_len] at hi
              have hil : i < (intsOf sb).length := by simp [intsOf]; omega
              rw [Nat.zero_add, c3 i (intsOf sb)[i] (List.getElem?_eq_getElem hil)]
              simp [hil]) e4 (fun i hi hh => by have := hh.1; simp only at this; omega) ⟨rfl, rfl, rfl⟩ rfl
          rw [rowsB_len] at q1
          exact ⟨⟨_, ρ2, _, c4, q1, St.trans hf hst q2⟩, by rw [mn.2.1, ← mj.2.1]; exact ⟨[_], rfl⟩⟩
        · cases ho
      · cases ho
    · cases ho
  · cases ho
end
end Go.Sx

namespace Go.Sx
set_option linter.all false
open Go
set_option linter.unusedVariables false
set_option linter.unusedSimpArgs false
variable [Ora]
section
variable {P : Program} {base : Nat} {ρ ρ' : Ren} {m m' : Mem} {w w' : World}
theorem nil_row {i t : Nat} {v : Value} {nul : Bool} {wd : Nat} {rows : List (List U)} (h : letM m 8 .nilp [hole i t] = some (v, m')) (hi : Ora.env i = .seq nul wd rows) (hS : Sat m'.lg) : VR ρ v (.bool nul) ∧ OnlyLg m m' ∧ m.lg.le m'.lg := by
  obtain ⟨u, e1, e2, r, e3, e4, e5⟩ := letM_ok h hS
  have harg : [hole i t].map (argU Ora.env) = [.seq nul wd rows] := by
    show [Ora.env i] = _
    rw [hi]
  rw [harg] at e1
  have e1 : U.bool nul = u := e1
  subst e1; cases e3
  exact ⟨e4 ρ, letM_only h, letM_le h⟩
theorem run_isNil {op : BinOp} {t e : TypeId} {x y : Operand} {a : Option Addr} {n c : Nat} {nul : Bool} (hu : P.underlying t = some (.slice e)) (hn : (a = none ∧ n = 0 ∧ c = 0 ∧ nul = true) ∨ (nul = false ∧ ∃ q : Addr, a = some q ∧ n ≤ c)) (hop : op = .eql ∨ op = .neq) (w : World) :
    (do eqGuard op t x y (.slice a n c) (.slice none 0 0); binOp op t (.slice a n c) (.slice none 0 0) : Sem Value).run P w = .ok (.bool (if op = .eql then nul else !nul)) w := by
  have key : ∀ {ρ : Ren} {am : Value}, VR ρ am (.slice a n c) → guardM P t x y am (.slice none 0 0) = true → binM P .eql t am (.slice none 0 0) = some (.bool nul) → binM P .neq t am (.slice none 0 0) = some (.bool !nul) →
      (do eqGuard op t x y (.slice a n c) (.slice none 0 0); binOp op t (.slice a n c) (.slice none 0 0) : Sem Value).run P w = .ok (.bool (if op = .eql then nul else !nul)) w := fun {ρ am} hv hg h1 h2 => by
    have hv0 : VR ρ (.slice none 0 0) (.slice none 0 0) := .pure rfl
    have hq := guard_ok (op := op) (fun _ => hg) hv hv0 w
    rcases hop with rfl | rfl
    · obtain ⟨g1, _⟩ := binM_ok h1 hv hv0 w
      simp [Sem.run_bind, hq, g1, Result.andThen]
    · obtain ⟨g1, _⟩ := binM_ok h2 hv hv0 w
      simp [Sem.run_bind, hq, g1, Result.andThen]
  rcases hn with ⟨rfl, rfl, rfl, rfl⟩ | ⟨rfl, q, rfl, hc⟩
  · refine key (ρ := fun _ => none) (am := .slice none 0 0) (.pure rfl) rfl ?_ ?_
    · simp [binM, restM, eqM, hu]
    · simp [binM, restM, eqM, hu]
  · obtain ⟨d, hd⟩ : ∃ d, Op.maxDepth = d + 1 := ⟨Op.maxDepth - 1, rfl⟩
    have he : ∀ w, (Op.equal t (.slice (some q) n c) (.slice none 0 0)).run P w = .ok false w := fun w => by
      rw [Op.equal, hd]
      simp [Op.equalIn, Sem.run_bind, run_und hu, Result.andThen]
    have hg : ∀ o : BinOp, (eqGuard o t x y (.slice (some q) n c) (.slice none 0 0)).run P w = .ok () w := fun o => by
      unfold eqGuard
      cases o <;> rfl
    rcases hop with rfl | rfl
    · rw [Sem.run_bind, hg]
      show (do pure (.bool (← Op.equal t (.slice (some q) n c) (.slice none 0 0))) : Sem Value).run P w = _
      rw [Sem.run_bind, he]; rfl
    · rw [Sem.run_bind, hg]
      show (do pure (.bool (!(← Op.equal t (.slice (some q) n c) (.slice none 0 0)))) : Sem Value).run P w = _
      rw [Sem.run_bind, he]; rfl
theorem nilD_ok {op : BinOp} {t : TypeId} {x y : Operand} {a a' b b' v : Value} (ho : nilD P m op t x y a b = some (v, m')) (ha : VR ρ a a') (hb : VR ρ b b') (hS : Sat m'.lg) :
    (∃ r, (do eqGuard op t x y a' b'; binOp op t a' b' : Sem Value).run P w = .ok r w ∧ VR ρ v r) ∧ OnlyLg m m' ∧ m.lg.le m'.lg := by
  unfold nilD at ho
  split at ho
  · rename_i e k b0 i tg hu
    obtain ⟨hq, ho1⟩ := cond_some ho
    clear ho
    obtain ⟨hq, hk⟩ := boolAnd hq
    obtain ⟨hq, hcst⟩ := boolAnd hq
    have hbn : b' = .slice none 0 0 := by
      unfold isNilS at hq
      split at hq
      · exact inv_sliceN hb
      · cases hq
    subst hbn
    obtain ⟨nul, wd, rows, ad, n, c, e1, rfl, e2⟩ : ∃ nul wd rows ad n c, Ora.env i = .seq nul wd rows ∧ a' = .slice ad n c ∧ ((ad = none ∧ n = 0 ∧ c = 0 ∧ nul = true) ∨ (nul = false ∧ ∃ q : Addr, ad = some q ∧ n ≤ c)) := by
      have henc : ∀ {l : Loc}, Enc l.G (Ora.env i) a' → tagU (Ora.env i) = tg → 10 ≤ tg → ∃ nul wd rows ad n c, Ora.env i = .seq nul wd rows ∧ a' = .slice ad n c ∧ ((ad = none ∧ n = 0 ∧ c = 0 ∧ nul = true) ∨ (nul = false ∧ ∃ q : Addr, ad = some q ∧ n ≤ c)) := fun h2 h3 h4 => by
        obtain ⟨nul, wd, rows, e1, _⟩ := enc_seq h2 h3 h4
        rw [e1] at h2
        rcases enc_cases h2 with ⟨rfl, rfl, rfl⟩ | ⟨rfl, q, c, rfl, hc⟩
        · exact ⟨_, _, _, _, _, _, e1, rfl, .inl ⟨rfl, rfl, rfl, rfl⟩⟩
        · exact ⟨_, _, _, _, _, _, e1, rfl, .inr ⟨rfl, q, rfl, hc⟩⟩
      rcases (Bool.or_eq_true _ _).mp hk with hk | hk
      · rcases (Bool.or_eq_true _ _).mp hk with hk | hk
        · have := Nat.eq_of_beq_eq_true hk; subst this
          obtain ⟨l, _, h2, h3, h4⟩ := inv_dat ha
          exact henc h2 h3 h4
        · have := Nat.eq_of_beq_eq_true hk; subst this
          obtain ⟨l, _, h2, h3, h4, _⟩ := inv_clp ha
          exact henc h2 h3 h4
      · have := Nat.eq_of_beq_eq_true hk; subst this
        rcases (inv_own ha).1 with ⟨l, wd, h1, h2, h3, rfl⟩ | ⟨l, wd, rows, h1, h2, h3, h4, h40, rfl⟩
        · exact ⟨_, _, _, _, _, _, h3, rfl, .inl ⟨rfl, rfl, rfl, rfl⟩⟩
        · exact ⟨_, _, _, _, _, _, h3, rfl, .inr ⟨rfl, _, rfl, h40⟩⟩
    split at ho1
    · rename_i r hl
      cases ho1
      obtain ⟨g1, g2, g3⟩ := nil_row (ρ := ρ) hl e1 hS
      exact ⟨⟨_, run_isNil hu e2 (.inl rfl) w, g1⟩, g2, g3⟩
    · rename_i hh m1 hl
      have hle := letM_le ho1
      obtain ⟨g1, g2, g3⟩ := nil_row (ρ := ρ) hl e1 (hS.le hle)
      obtain ⟨u, f1, f2, r, f3, f4, f5⟩ := letM_ok ho1 hS
      obtain ⟨rfl, hm1⟩ := letM_eq hl
      have hbv : argU Ora.env (hole m.lg.nx 8) = .bool nul := by
        obtain ⟨q1, _⟩ := tag_val g1 (by show (8 : Nat) < 10; omega)
        cases hq : argU Ora.env (hole m.lg.nx 8) with
        | bool b => rw [hq] at q1; cases q1; rfl
        | int k n => rw [hq] at q1; cases q1
        | str s => rw [hq] at q1; cases q1
        | none => rw [hq] at q1; cases q1
        | seq _ _ _ => rw [hq] at q1; cases q1
      have f1 : ev1 .not (argU Ora.env (hole m.lg.nx 8)) = u := f1
      rw [hbv] at f1
      have f1 : U.bool (!nul) = u := f1
      subst f1; cases f3
      exact ⟨⟨_, run_isNil hu e2 (.inr rfl) w, f4 ρ⟩, g2.trans (letM_only ho1), g3.trans hle⟩
    · cases ho1
  · cases ho
theorem dsM_ok {fr : Fr} {g : Operand → Value} {o : Oper} {v : Value} (h : HR P base ρ m.H w) (hb : base ≤ w.heap.size) (ho : dsM P fr m o.op = some (v, m')) (hf : Free ρ m.n m'.hi) (hg : FR ρ fr g o.op) (hS : Sat m'.lg) : NOk P base ρ m w (execOp g o) v m' := by
  obtain ⟨dst, op, ty, pos, af, gd⟩ := o
  simp only at ho hg
  have hx1 : ∀ {x}, x ∈ op.operands.toList → VR ρ (ev fr x) (g x) := fun hx => hg _ hx
  have fin : ∀ {s : Sem Value}, (∃ r, s.run P w = .ok r w ∧ VR ρ v r) → OnlyLg m m' → NOk P base ρ m w (do pure (.value (← s))) v m' := fun {s} ⟨r, h1, h2⟩ ⟨lg, hl⟩ => by
    subst hl
    exact NOk.of ⟨r, ρ, w, h1, h2, St.wLg h lg⟩
  unfold dsM at ho
  split at ho
  · rename_i t x
    obtain ⟨g1, g2, _⟩ := loadD_ok (w := w) h ho (hx1 (x := x) (by simp [Op.operands])) hS
    exact fin (s := Instr.loadAt t (g x)) g1 g2
  · rename_i t x y
    obtain ⟨g1, rfl, _⟩ := storeD_ok h ho hf (hx1 (x := x) (by simp [Op.operands])) (hx1 (x := y) (by simp [Op.operands])) hS
    exact NOk.ofU (s := Instr.storeAt t (g x) (g y)) g1
  · rename_i t x i
    obtain ⟨g1, g2, _⟩ := indexAtD_ok (w := w) ho (hx1 (x := x) (by simp [Op.operands])) (hx1 (x := i) (by simp [Op.operands])) hS
    exact fin (s := Instr.indexAt t (g x) (g i)) g1 g2
  · rename_i s x i
    obtain ⟨g1, rfl⟩ := fieldAtD_ok (w := w) ho (hx1 (x := x) (by simp [Op.operands]))
    exact fin (s := Instr.fieldAt s (g x) i) g1 (.refl _)
  · rename_i t x lo hi mx
    obtain ⟨g1, _⟩ := sliceD_ok h ho hf (hx1 (x := x) (by simp [Op.operands])) (evO_OR (g := g) fun y hy => hx1 (by simp [Op.operands] at hy ⊢; exact .inr (.inl hy))) (evO_OR (g := g) fun y hy => hx1 (by simp [Op.operands] at hy ⊢; exact .inr (.inr (.inl hy)))) (evO_OR (g := g) fun y hy => hx1 (by simp [Op.operands] at hy ⊢; exact .inr (.inr (.inr hy)))) hS
    exact NOk.of (s := Instr.sliceAt t (g x) (lo.map g) (hi.map g) (mx.map g)) g1
  · rename_i s t x
    exact NOk.of (convD_ok h hb ho hf (hx1 (x := x) (by simp [Op.operands])) hS).1
  · rename_i op t x y yt
    obtain ⟨g1, g2, _⟩ := nilD_ok (w := w) ho (hx1 (x := x) (by simp [Op.operands])) (hx1 (x := y) (by simp [Op.operands])) hS
    exact fin (s := do eqGuard op t x y (g x) (g y); binOp op t (g x) (g y)) g1 g2
  · rename_i xs tys
    have l1 := evL_LR (ρ := ρ) (fr := fr) (g := g) (xs := xs.toList) fun x hx => hx1 (by show x ∈ (#[] ++ xs : Array Operand).toList; simpa using hx)
    split at ho
    · rename_i x t rest he1 he2
      rw [he1] at l1
      obtain ⟨x', r1, e3, q1, q2⟩ := l1.tail
      have := q2.nil_inv; subst this
      obtain ⟨g1, g2, _⟩ := lenD_ok (w := w) (ty := ty) (tys := rest) ho q1 hS
      obtain ⟨ks, e2⟩ : ∃ ks, execOp g ⟨dst, .call ⟨.builtin .len, xs, tys⟩, ty, pos, af, gd⟩ = builtin .len tys ty ks (xs.map g) := ⟨#[], rfl⟩
      have e1 : xs.map g = ⟨xs.toList.map g⟩ := by apply Array.ext'; simp
      have e4 : tys = ⟨t :: rest⟩ := by rw [← he2]
      rw [e2, e1, e3, e4]
      exact fin (s := Builtin.len_ ⟨t :: rest⟩ ty #[x']) g1 g2
    · cases ho
  · rename_i xs tys
    have l1 := evL_LR (ρ := ρ) (fr := fr) (g := g) (xs := xs.toList) fun x hx => hx1 (by show x ∈ (#[] ++ xs : Array Operand).toList; simpa using hx)
    split at ho
    · rename_i x y t t2 rest he1 he2
      rw [he1] at l1
      obtain ⟨x', r1, e3, q1, q2⟩ := l1.tail
      obtain ⟨y', r2, e5, q3, q4⟩ := q2.tail
      have := q4.nil_inv; subst this
      have := appendD_ok (ty := ty) h hb ho hf q1 q3 hS
      obtain ⟨ks, e2⟩ : ∃ ks, execOp g ⟨dst, .call ⟨.builtin .append, xs, tys⟩, ty, pos, af, gd⟩ = builtin .append tys ty ks (xs.map g) := ⟨#[], rfl⟩
      have e1 : xs.map g = ⟨xs.toList.map g⟩ := by apply Array.ext'; simp
      have e4 : tys = ⟨t :: t2 :: rest⟩ := by rw [← he2]
      rw [e2, e1, e3, e5, e4]
      have e : Builtin.append_ ⟨t :: t2 :: rest⟩ ty #[x', y'] = Builtin.append_ #[t, t2] ty #[x', y'] := rfl
      refine NOk.of (s := Builtin.append_ ⟨t :: t2 :: rest⟩ ty #[x', y']) ?_
      rw [e]; exact this
    · cases ho
  · cases ho
theorem getCells_le {wd o i t g : Nat} {z : Value} : ∀ {ts : List Nat} {j : Nat} {m m' : Mem} {r : List Value}, getCells wd o i t z g ts j m = some (r, m') → m.lg.le m'.lg
  | [], j, m, m', r, h => by cases h; exact .refl _
  | tg :: ts, j, m, m', r, h => by
    unfold getCells at h
    cases ht : Nat.blt tg 10 with
    | true =>
      rw [ht] at h
      simp only [cond_true] at h
      split at h
      · rename_i hl
        split at h
        · rename_i hr
          cases h
          exact (letM_le hl).trans (getCells_le hr)
        · cases h
      · cases h
    | false =>
      rw [ht] at h
      simp only [cond_false] at h
      rw [letDo_eq] at h
      split at h
      · rename_i hr
        cases h
        exact dtLg_le.trans (getCells_le hr)
      · cases h
theorem asLoad_le {t : TypeId} {r : Option (List Value × Mem)} {v : Value} (h : asLoad P t r = some (v, m')) : ∃ vs, r = some (vs, m') := by
  unfold asLoad at h
  split at h
  · cases h; exact ⟨_, rfl⟩
  · cases h; exact ⟨_, rfl⟩
  · cases h
theorem loadD_le {t : TypeId} {x v : Value} (ho : loadD P m t x = some (v, m')) : m.lg.le m'.lg := by
  unfold loadD at ho
  split at ho
  · obtain ⟨_, ho⟩ := cond_some ho
    obtain ⟨vs, h⟩ := asLoad_le ho
    exact getCells_le h
  · split at ho
    · obtain ⟨_, ho⟩ := cond_some ho
      obtain ⟨vs, h⟩ := asLoad_le ho
      exact getCells_le h
    · cases ho
  · cases ho
theorem storeD_le {t : TypeId} {x y v : Value} (ho : storeD P m t x y = some (v, m')) : m.lg.le m'.lg := by
  unfold storeD at ho
  split at ho
  · cases hw0 : isWide y with
    | true => rw [hw0] at ho; cases ho
    | false =>
      rw [hw0] at ho
      simp only [cond_false] at ho
      split at ho
      · rename_i hd
        split at ho
        · obtain ⟨_, ho⟩ := cond_some ho
          split at ho
          · rename_i hj
            rw [letD_eq] at ho
            simp only [hole] at ho
            obtain ⟨hs, _⟩ := memM_some ho
            have md := toDL_mono tdP_ok hd
            have mj := joinD_mono hj
            refine md.2.1.trans ?_
            rw [(setM_eq hs).2, ← mj.2.1]
            simp only [wLg_lg]
            exact ⟨[_], rfl⟩
          · cases ho
        · cases ho
      · cases ho
  · cases ho
theorem inbD_le {i t : Nat} {z k v : Value} (h : inbD m i t z k = some (v, m')) : m.lg.le m'.lg := by
  unfold inbD at h
  cases hq : !(Nat.blt (tagOf z) 8) with
  | true => rw [hq] at h; cases h
  | false =>
    rw [hq] at h
    simp only [cond_false] at h
    split at h
    · rename_i hl
      split at h
      · rename_i hb
        cases h
        exact (letM_le hl).trans (brL_le hb)
      · cases h
    · cases h
theorem indexAtD_le {t : TypeId} {x z v : Value} (h : indexAtD P m t x z = some (v, m')) : m.lg.le m'.lg := by
  unfold indexAtD at h
  split at h
  all_goals first
    | (split at h
       · obtain ⟨_, h⟩ := cond_some h; exact inbD_le h
       · cases h; done)
    | (split at h
       · obtain ⟨_, h⟩ := cond_some h; rw [forceN_eq] at h; cases h; exact .refl _
       · cases h; done)
    | cases h
theorem fieldAtD_le {s : TypeId} {x v : Value} {f : Nat} (h : fieldAtD P m s x f = some (v, m')) : m.lg.le m'.lg := by
  unfold fieldAtD at h
  split at h
  all_goals first
    | (split at h
       · split at h
         · obtain ⟨_, h⟩ := cond_some h; rw [forceN_eq] at h; cases h; exact .refl _
         · cases h
       · cases h; done)
    | cases h
theorem cutD_le {b i t : Nat} {cl : Bool} {lo hi mx : Option Value} {v : Value} (ho : cutD m b i t cl lo hi mx = some (v, m')) : m.lg.le m'.lg := by
  have go : ∀ {m1 : Mem} {l h : Value} {cc : Bool}, cutGo m1 b i t l h cc = some (v, m') → m1.lg.le m'.lg := fun h => by
    unfold cutGo at h
    obtain ⟨_, h⟩ := cond_some h
    rw [letD_eq] at h
    simp only [Option.some.injEq, Prod.mk.injEq] at h
    obtain ⟨_, rfl⟩ := h
    exact dtLg_le
  unfold cutD cutD2 at ho
  split at ho
  · exact go ho
  · exact go (cond_some ho).2
  · split at ho
    · rename_i hl
      exact (lenH_only hl).2.trans (go ho)
    · cases ho
  · cases ho
theorem sliceD_le {t : TypeId} {x v : Value} {lo hi mx : Option Value} (ho : sliceD P m t x lo hi mx = some (v, m')) : m.lg.le m'.lg := by
  unfold sliceD at ho
  split at ho
  · split at ho
    · exact cutD_le (cond_some ho).2
    · cases ho
  · split at ho
    · exact cutD_le (cond_some ho).2
    · cases ho
  · split at ho
    · obtain ⟨_, ho⟩ := cond_some ho
      split at ho
      · rename_i hd
        exact (toD_mono hd).2.1.trans (cutD_le ho)
      · cases ho
    · cases ho
  · cases ho
theorem convD_le {s t : TypeId} {x v : Value} (ho : convD P m s t x = some (v, m')) : m.lg.le m'.lg := by
  unfold convD at ho
  split at ho
  · split at ho
    · split at ho
      · exact letM_le (cond_some ho).2
      · cases ho
    · cases ho
  · split at ho
    · split at ho
      · rename_i hd
        exact (toD_mono hd).2.1.trans (letM_le ho)
      · cases ho
    · cases ho
  · obtain ⟨_, ho⟩ := cond_some ho
    split at ho
    · split at ho
      · split at ho
        · rename_i hj
          rw [letD_eq] at ho
          simp only [hole] at ho
          have mj := joinD_mono hj
          rw [(newSq_mono ho).2.1, wLg_lg, ← mj.2.1]
          exact ⟨[_], rfl⟩
        · cases ho
      · cases ho
    · cases ho
  · cases ho
theorem nilD_le {op : BinOp} {t : TypeId} {x y : Operand} {a b v : Value} (ho : nilD P m op t x y a b = some (v, m')) : m.lg.le m'.lg := by
  unfold nilD at ho
  split at ho
  · obtain ⟨_, ho1⟩ := cond_some ho
    clear ho
    split at ho1
    · rename_i hl
      cases ho1
      exact letM_le hl
    · rename_i hl
      exact (letM_le hl).trans (letM_le ho1)
    · cases ho1
  · cases ho
theorem dsM_lg {fr : Fr} {o : Op} {v : Value} (ho : dsM P fr m o = some (v, m')) : m.lg.le m'.lg := by
  unfold dsM at ho
  split at ho
  · exact loadD_le ho
  · exact storeD_le ho
  · exact indexAtD_le ho
  · exact fieldAtD_le ho
  · exact sliceD_le ho
  · exact convD_le ho
  · exact nilD_le ho
  · split at ho
    · unfold lenD at ho
      split at ho
      · exact (lenH_only ho).2
      · exact (lenH_only ho).2
      · exact (lenH_only ho).2
      · cases ho
    · cases ho
  · split at ho
    · exact (appendD_mono ho).2.1
    · cases ho
  · cases ho
end
end Go.Sx

namespace Go.Sx
set_option linter.all false
open Go
set_option linter.unusedVariables false
set_option linter.unusedSimpArgs false
variable [Ora]
section
variable {P : Program} {base : Nat} {ρ : Ren} {m m' : Mem} {w : World}
omit [Ora] in
theorem bytU_eqG {G : Nat → Option Obj} : ∀ {us : List U} {s : List UInt8} {vs : List Value}, bytU us = some s → EncL G us vs → ∃ ns : List Int, vs = ns.map (Value.int .u8) ∧ s = ns.map fun n => UInt8.ofNat n.toNat
  | [], s, vs, h, he => by
    cases h
    have : vs = [] := List.length_eq_zero_iff.1 he.1.symm
    subst this
    exact ⟨[], rfl, rfl⟩
  | u :: us, s, vs, h, he => by
    unfold bytU at h
    split at h
    · rename_i heq; cases heq
    · rename_i n r heq
      cases heq
      split at h
      · split at h
        · rename_i l hl
          cases h
          cases vs with
          | nil => have := he.1; simp at this
          | cons v vr =>
            obtain ⟨ns, e1, e2⟩ := bytU_eqG (vs := vr) hl ⟨by have := he.1; simpa using this, fun i a b h1 h2 => he.2 (i + 1) a b (by simpa using h1) (by simpa using h2)⟩
            have := enc_toV (he.2 0 _ v rfl rfl) rfl
            subst this
            exact ⟨(Int.ofNat n) :: ns, by rw [e1]; rfl, by rw [e2]; rfl⟩
        · cases h
      · cases h
    · cases h
theorem sizeM_eq {t : TypeId} {n : Nat} (h : sizeM P t = some n) : ∃ inf, P.info? t = some inf ∧ inf.size = n := by
  unfold sizeM at h
  cases hi : P.info? t with
  | none => rw [hi] at h; cases h
  | some inf => rw [hi] at h; exact ⟨inf, rfl, Option.some.inj h⟩
theorem same_layout (d : Nat) (t : TypeId) : sameLayout P (d + 1) t t = true := by simp [sameLayout]
theorem depth_eq : ∃ d, P.depth = d + 1 := ⟨2 * (P.types.size + Made.depth) + 1, rfl⟩
theorem liesAt_one {T : TypeId} {n off : Nat} (hs : P.cellsOf T ≠ 0) (hr : off % P.cellsOf T = 0) (hn : off / P.cellsOf T + 1 ≤ n) : liesAt P P.depth T n off T 1 = true := by
  obtain ⟨d, hd⟩ := depth_eq (P := P)
  have h1 : rowAt P (sameLayout P P.depth · T) P.depth T n off 1 = true := by
    rw [hd]
    unfold rowAt
    simp only [hs, if_false, hr, same_layout]
    simp [hn]
  rw [hd] at h1 ⊢
  unfold liesAt
  rw [hd, h1]; rfl
theorem convU_ok {s t : TypeId} {x x' v : Value} (h : HR P base ρ m.H w) (ho : convU P m s t x = some (v, m')) (hx : VR ρ x x') : VOk P base ρ m w (convert s t x') v m' := by
  unfold convU at ho
  split at ho
  · rename_i e b o hs ht
    obtain ⟨l, hl, _, rfl⟩ := inv_ptr hx
    split at ho
    · rename_i k cs T ro hsz hg
      obtain ⟨hlt, ho⟩ := cond_some ho
      have hlt : o < cs.length := Nat.le_of_ble_eq_true hlt
      cases ho
      obtain ⟨inf, hinf, hk⟩ := sizeM_eq hsz
      obtain ⟨⟨hon, C, fz, T', h1, h2, _⟩, _⟩ := h.atl hl hg
      obtain ⟨v', h3, _⟩ := h2 o cs[o] (List.getElem?_eq_getElem hlt)
      have hlt2 : l.sh + o < C.size := (Array.getElem?_eq_some_iff.1 h3).1
      exact VOk.same h (Lib.run_to_unsafe w ⟨l.blk, o + l.sh, none⟩ hs ht hinf (by omega) (show w.shape? l.blk = some (T', C.size) by simp [World.shape?, h1]) (by show o + l.sh < C.size; omega)) hx
    · cases ho
  · rename_i u b hs ht
    obtain ⟨l, hl, _, rfl⟩ := inv_ptr hx
    split at ho
    · rename_i k cs T hsz hg
      obtain ⟨hq, ho1⟩ := cond_some ho
      clear ho
      obtain ⟨q1, q2⟩ := boolAnd hq
      have q1 := Nat.eq_of_beq_eq_true q1
      have q2 := Nat.eq_of_beq_eq_true q2
      clear hq
      subst q1
      cases ho1
      obtain ⟨inf, hinf, hk⟩ := sizeM_eq hsz
      obtain ⟨⟨hon, C, fz, T', h1, h2, h3⟩, _⟩ := h.atl hl hg
      obtain ⟨rfl, _, h4⟩ := h3 rfl
      obtain ⟨_, h5⟩ := h4 inf hinf
      have hc : P.cellsOf T' = k + 1 := by unfold Program.cellsOf; rw [hinf]; exact hk
      have hlast : k < cs.length := by omega
      obtain ⟨v', h6, _⟩ := h2 k cs[k] (List.getElem?_eq_getElem hlast)
      have hlt2 : l.sh + k < C.size := (Array.getElem?_eq_some_iff.1 h6).1
      refine VOk.same h (Lib.run_from_unsafe w ⟨l.blk, 0 + l.sh, none⟩ hs ht hinf (show w.shape? l.blk = some (T', C.size) by simp [World.shape?, h1]) ?_) hx
      show liesAt P P.depth T' (C.size / P.cellsOf T') (0 + l.sh) T' 1 = true
      rw [Nat.zero_add]
      refine liesAt_one (by omega) (by rw [hc]; rw [hk] at h5; exact h5) ?_
      rw [hc]
      have h5 : l.sh % (k + 1) = 0 := by rw [hk] at h5; exact h5
      have e1 : l.sh = (k + 1) * (l.sh / (k + 1)) := by have := Nat.div_add_mod l.sh (k + 1); omega
      refine (Nat.le_div_iff_mul_le (by omega)).2 ?_
      rw [Nat.add_mul, Nat.one_mul, Nat.mul_comm]
      omega
    · cases ho
  · cases ho
theorem ptrEq_ok {op : BinOp} {t : TypeId} {x y : Operand} {a a' b b' v : Value} (h : HR P base ρ m.H w) (ho : ptrEq P m op t a b = some (v, m')) (ha : VR ρ a a') (hb : VR ρ b b') : VOk P base ρ m w (do eqGuard op t x y a' b'; binOp op t a' b') v m' := by
  unfold ptrEq at ho
  split at ho
  · rename_i e b1 o1 b2 o2 hu
    obtain ⟨hq, ho1⟩ := cond_some ho
    clear ho
    obtain ⟨q1, q2⟩ := boolAnd hq
    have q1 := Nat.eq_of_beq_eq_true q1
    have q2 := Nat.eq_of_beq_eq_true q2
    clear hq
    subst q1; subst q2
    obtain ⟨l, hl, _, rfl⟩ := inv_ptr ha
    obtain ⟨l2, hl2, _, rfl⟩ := inv_ptr hb
    rw [hl] at hl2
    have := Option.some.inj hl2; subst this
    have heq : ∀ j, P.info? e = some j → ∀ d : Nat, (Op.equalIn (d + 1) t (.pointer (some ⟨l.blk, o1 + l.sh, none⟩)) (.pointer (some ⟨l.blk, o1 + l.sh, none⟩))).run P w = .ok true w := fun j hj d => by
      simp [Op.equalIn, run_underlying hu, sizeOf, typeInfo, hj, run_sameAddr_same]
    have hgd : (eqGuard op t x y (.pointer (some ⟨l.blk, o1 + l.sh, none⟩)) (.pointer (some ⟨l.blk, o1 + l.sh, none⟩))).run P w = .ok () w := by
      unfold eqGuard
      split <;> simp
    split at ho1
    · rename_i j hj
      cases ho1
      refine VOk.same h (v' := .bool true) ?_ (.pure rfl)
      rw [Sem.run_bind, hgd]
      simp [Result.andThen, binOp, Op.equal, Op.maxDepth, heq j hj 9999]
    · rename_i j hj
      cases ho1
      refine VOk.same h (v' := .bool false) ?_ (.pure rfl)
      rw [Sem.run_bind, hgd]
      simp [Result.andThen, binOp, Op.equal, Op.maxDepth, heq j hj 9999]
    · cases ho1
  · cases ho
theorem St.laid {o : Obj} (h : HR P base ρ m.H w) : St P base ρ ρ m m w { w with heap := w.heap.push o } :=
  have hk : ∀ k, k < w.heap.size → (w.heap.push o)[k]? = w.heap[k]? := fun k hk => by rw [Array.getElem?_push, if_neg (by omega)]
  ⟨fun _ _ h => h, fun b l h1 h2 => (by rw [h1] at h2; cases h2), Nat.le_refl _, Nat.le_refl _, fun h => h,
   ⟨h.dom, fun id hid ab hab => by
      obtain ⟨l, h1, h2, h3⟩ := h.at_ id hid ab hab
      exact ⟨l, h1, h2.mono (fun _ _ h => h) (fun k hk2 => hk k (h2.tc hk2)), h3⟩⟩,
   fun _ h => h, fun b h1 h2 => absurd h1 h2, fun k hk2 _ => hk k hk2, by simp, ⟨rfl, rfl, rfl⟩, fun b l h1 h2 => (by rw [h1] at h2; cases h2), fun _ _ _ _ => rfl, fun _ h => .inr h⟩
theorem sdM_ok {ty : TypeId} {tys : Array TypeId} {x x' v : Value} (h : HR P base ρ m.H w) (ho : sdM P m ty x = some (v, m')) (hx : VR ρ x x') : VOk P base ρ m w (Builtin.unsafeSliceData_ tys ty #[x']) v m' := by
  unfold sdM at ho
  split at ho
  · rename_i e he
    split at ho
    · rename_i b i t
      split at ho
      · rename_i c tc T g ro hg
        cases ho
        have hx : VR ρ (own b i t) x' := hx
        rcases (inv_own hx).1 with ⟨l, wd, h1, h2, h3, rfl⟩ | ⟨l, wd, rows, h1, h2, h3, h4, h5, rfl⟩
        · exact VOk.same h rfl (.sdt ⟨l, h1, .inl ⟨h2, rfl⟩⟩)
        · have hdef : Builtin.unsafeSliceData_ tys ty #[.slice (some ⟨l.blk, l.sh, none⟩) l.len l.cap] = (do
              if l.cap ≠ 0 then pure (.pointer (some ⟨l.blk, l.sh, none⟩))
              else if (← viewAt l.blk).isSome then pure (.pointer (some ⟨l.blk, l.sh, none⟩))
              else pure (.pointer (some ⟨← newObj (.view ⟨l.blk, l.sh, none⟩ (← elemOf ty)), 0, none⟩))) := rfl
          rw [hdef]
          by_cases hc : l.cap = 0
          · rw [if_neg (by simpa using hc)]
            obtain ⟨wd2, inf, _, _, _, k4⟩ := SqR.ex (h.atl h1 hg).1
            rcases k4 with ⟨k5, _⟩ | ⟨_, k5⟩
            · rw [h2] at k5; cases k5
            · obtain ⟨C, fz, T', rows2, lg, j1, _⟩ := k5
              have hsh : w.shape? l.blk = some (T', C.size) := by simp [World.shape?, j1]
              refine ⟨.pointer (some ⟨w.heap.size, 0, none⟩), ρ, { w with heap := w.heap.push (.view ⟨l.blk, l.sh, none⟩ e) }, ?_, .sdt ⟨l, h1, .inr ⟨h2, _, rfl, fun h => absurd hc h⟩⟩, St.laid h⟩
              simp [viewAt, hsh, elemOf, run_und he, newObj, Sem.run, Sem.run_bind, Result.andThen]
          · rw [if_pos hc]
            exact VOk.same h rfl (.sdt ⟨l, h1, .inr ⟨h2, _, rfl, fun _ => rfl⟩⟩)
      · cases ho
    · cases ho
  · cases ho
theorem usM_ok {pt ty : TypeId} {tys : List TypeId} {p l p' l' v : Value} (h : HR P base ρ m.H w) (ho : usM P m pt p l = some (v, m')) (hp : VR ρ p p') (hl : VR ρ l l') (hS : Sat m'.lg) (hf : Free ρ m.n m'.hi) :
    VOk P base ρ m w (Builtin.unsafeString_ ⟨pt :: tys⟩ ty #[p', l']) v m' := by
  have hmax : IntKind.i64.max = 9223372036854775807 := rfl
  unfold usM at ho
  split at ho
  · rename_i b
    obtain ⟨htl, ho⟩ := cond_some ho
    have htl : tagOf l < 8 := Nat.le_of_ble_eq_true htl
    obtain ⟨k, n0, rfl, hn1, _⟩ := tag_int hl htl
    split at ho
    · rename_i c tc T g e hg hpt
      obtain ⟨hq, ho1⟩ := cond_some ho
      clear ho
      obtain ⟨q1, q2⟩ := boolAnd hq
      have q1 := Nat.eq_of_beq_eq_true q1
      have q2 := Nat.eq_of_beq_eq_true q2
      clear hq
      subst q1; subst q2
      split at ho1
      · rename_i u m1 hsz hlet
        split at ho1
        · rename_i m2 hset
          cases ho1
          have hlg := setM_lg hset
          have hS1 : Sat m1.lg := by rw [← hlg]; exact hS
          obtain ⟨u0, e1, e2, r, e3, e4, e5⟩ := letM_ok hlet hS1
          obtain ⟨lg, rfl⟩ := letM_only hlet
          obtain ⟨l0, hl0, hv⟩ := inv_sdt (show VR ρ (sdt b) p' from hp)
          have hst := St.wLg h lg
          obtain ⟨wd, inf, k1, k2, k3, k4⟩ := SqR.ex (h.atl hl0 hg).1
          have hwd : wd = 1 := by omega
          subst hwd
          have hev : evU .ustr [Ora.env c, .int k n0] = u0 := by
            have : argU Ora.env (hole c 11) = Ora.env c := rfl
            rw [← this, ← hn1]; exact e1
          have hsb : ∀ nul rows, Ora.env c = .seq nul 1 rows → ∃ (n : Nat) (sb : List UInt8), n0 = (n : Int) ∧ n ≤ rows.length ∧ n ≤ 1000000000 ∧ bytR (rows.take n) = some sb ∧ u0 = .str sb := fun nul rows hc => by
            rw [hc] at hev
            cases n0 with
            | negSucc z => have : u0 = .none := hev.symm; subst this; cases e3
            | ofNat n =>
              have hev : (if 1 = 1 ∧ n ≤ rows.length ∧ n ≤ bigN then match bytR (rows.take n) with
                | some s => U.str s
                | none => .none else .none) = u0 := hev
              split at hev
              · rename_i hc2
                split at hev
                · rename_i sb hsb; exact ⟨n, sb, rfl, hc2.2.1, hc2.2.2, hsb, hev.symm⟩
                · subst hev; cases e3
              · subst hev; cases e3
          have hcell : P.cellsOf e = 1 := by unfold Program.cellsOf; rw [k2]; exact k3
          have hsame : ∀ {ρ : Ren} {w : World} {lx : Loc}, BR P ρ (.sq c 11 e g false) lx w → BR P ρ (.sq c 11 e g true) lx w := fun hb => by
            obtain ⟨wd, inf, k1, k2, k3, k4⟩ := SqR.ex hb
            refine ⟨⟨wd, inf, k1, k2, k3, k4.imp (fun x => x) fun ⟨a, C, fz, T', rows, lg, b1, b2, b3, b4, b5, b6, b7, b8, _⟩ => ⟨a, C, fz, T', rows, lg, b1, b2, b3, b4, b5, b6, b7, b8, fun hh => by cases hh⟩⟩⟩
          have hg' : Hp.get (m.wLg lg).H b = some (.sq c 11 e g false) := by rw [wLg_H]; exact hg
          have hsts : St P base ρ ρ m m' w w := St.trans hf hst (St.same0 hst.hr hset hg' rfl hl0 (hsame (hst.hr.atl hl0 hg').1) fun q hq => hq.imp (fun ⟨_, b⟩ => ⟨rfl, b⟩) fun ⟨hh, _⟩ => by cases hh)
          rcases hv with ⟨hoff, rfl⟩ | ⟨hon, a, rfl, ha⟩
          · rcases k4 with ⟨_, k5⟩ | ⟨k5, _⟩
            · obtain ⟨n, sb, rfl, j1, _, j2, rfl⟩ := hsb _ _ k5
              have hn : n = 0 := by simpa using j1
              subst hn
              cases j2
              cases e3
              refine ⟨.string ByteArray.empty, ρ, w, ?_, e4 ρ, hsts⟩
              have hdef : Builtin.unsafeString_ ⟨pt :: tys⟩ ty #[.pointer none, .int k ((0 : Nat) : Int)] =
                  (do
                    let n ← asInt (.int k ((0 : Nat) : Int))
                    if n < 0 then runtimePanic (.error "unsafe.String: len out of range")
                    if n > IntKind.i64.max then unsupported (.unsafePointer "String: a length above the largest int")
                    if n = 0 then pure (.string .empty)
                    else runtimePanic (.error "unsafe.String: ptr is nil and len is not zero")) := rfl
              rw [hdef]
              simp [asInt, asIntOf, hmax]
            · rw [hoff] at k5; cases k5
          · rcases k4 with ⟨k5, _⟩ | ⟨_, k5⟩
            · rw [hon] at k5; cases k5
            obtain ⟨C, fz, T', rows, lg2, z1, z2, z3, z4, z5, z6, z7, z8, z9⟩ := k5
            obtain ⟨rfl, z10⟩ := z9 rfl
            obtain ⟨n, sb, rfl, j1, j0, j2, rfl⟩ := hsb _ _ z2
            cases e3
            have hdef : Builtin.unsafeString_ ⟨pt :: tys⟩ ty #[.pointer (some a), .int k (n : Int)] =
              (do
                let n ← asInt (.int k (n : Int))
                if n < 0 then runtimePanic (.error "unsafe.String: len out of range")
                if n > IntKind.i64.max then unsupported (.unsafePointer "String: a length above the largest int")
                if n = 0 then pure (.string .empty)
                else if ← variablesAt a (← elemOf pt) n.toNat then do
                  let s ← loadBytes a .empty n.toNat
                  freeze a n.toNat
                  pure (.string s)
                else unsupported (.unsafePointer "String: not so many bytes at ptr")) := rfl
            have hneg : ¬ (n : Int) < 0 := by omega
            have hbig : ¬ (9223372036854775807 : Int) < (n : Int) := by omega
            by_cases hz2 : n = 0
            · subst hz2
              cases j2
              refine ⟨.string ByteArray.empty, ρ, w, ?_, e4 ρ, hsts⟩
              rw [hdef]
              simp [asInt, asIntOf, hmax]
            · have hz : ¬ (n : Int) = 0 := by omega
              have hcap : l0.cap ≠ 0 := by omega
              have ha := ha hcap
              subst ha
              obtain ⟨y1, y2, y3⟩ := bytR_eq j2
              have hlen : (rows.take n).length = n := by simp; omega
              have hin : l0.sh + n ≤ C.size := by omega
              obtain ⟨ns, r1, r2⟩ : ∃ ns : List Int, (C.toList.drop l0.sh).take n = ns.map (Value.int .u8) ∧ sb = ns.map fun n => UInt8.ofNat n.toNat := by
                refine bytU_eqG (G := lg2.G) y1 ⟨by rw [y2, hlen]; simp; omega, fun i u v b1 b2 => ?_⟩
                have hil : i < n := by have := (List.getElem?_eq_some_iff.1 b1).1; rw [y2, hlen] at this; exact this
                have hir : i < rows.length := by omega
                have hrow : rows[i]? = some rows[i] := List.getElem?_eq_getElem hir
                have hrow2 : (rows.take n)[i]? = some rows[i] := by rw [List.getElem?_take_of_lt hil]; exact hrow
                have hrl : rows[i].length = 1 := z6 _ (List.getElem_mem hir)
                have h0 : rows[i][0]? = some (rows[i][0]'(by omega)) := List.getElem?_eq_getElem (by omega)
                obtain ⟨_, k4⟩ := y3 i _ 0 _ hrow2 h0
                rw [b1] at k4
                have k4 := Option.some.inj k4
                rw [k4]
                have hc : C[l0.sh + i * 1 + 0]? = some v := by
                  rw [List.getElem?_take_of_lt hil, List.getElem?_drop] at b2
                  simpa using b2
                exact z8 i _ 0 _ v hrow h0 hc
              have hnl : ns.length = n := by
                have := congrArg List.length r1
                simp at this; omega
              have hcells : ∀ (j : Nat) (v : Value), (ns.map (Value.int .u8))[j]? = some v → w.cell? ⟨l0.blk, l0.sh + j, none⟩ = some v := fun j v hj => by
                rw [← r1] at hj
                have hjn : j < n := by have := (List.getElem?_eq_some_iff.1 hj).1; simp at this; omega
                rw [List.getElem?_take_of_lt hjn, List.getElem?_drop] at hj
                simp only [World.cell?, z1]
                simpa using hj
              have hlb := run_loadBytes' (P := P) (w := w) ns l0.blk l0.sh .empty hcells
              rw [hnl] at hlb
              have hsh : w.shape? l0.blk = some (T', C.size) := by simp [World.shape?, z1]
              have hlies := liesAt_off (P := P) hcell (C.size / P.cellsOf T') l0.sh n (by rw [hcell]; simpa using hin)
              have st2 : St P base ρ ρ (m.wLg lg) m' w (w.freeze ⟨l0.blk, l0.sh, none⟩ n) := by
                refine St.write hst.hr hset hg' rfl hl0 hon ?_ ?_ ?_ ?_
                · simp [World.freeze, hz2]
                · simp [World.freeze, hz2]
                · intro j hj
                  simp only [World.freeze, hz2, if_false, Array.getElem?_modify]
                  rw [if_neg (fun e => hj e.symm)]
                · refine ⟨⟨1, inf, rfl, k2, k3, .inr ⟨hon, C, (if fz.1 == fz.2 then (l0.sh, l0.sh + n) else (min fz.1 l0.sh, max fz.2 (l0.sh + n))), T', rows, lg2, ?_, z2, z3, z4, z5, z6, z7, z8, fun hc => by cases hc⟩⟩⟩
                  simp only [World.freeze, hz2, if_false, Array.getElem?_modify, if_true, z1, Option.map_some]
              refine ⟨.string ⟨⟨sb⟩⟩, ρ, w.freeze ⟨l0.blk, l0.sh, none⟩ n, ?_, e4 ρ, St.trans hf hst st2⟩
              rw [hdef]
              simp [asInt, asIntOf, hmax, hneg, hbig, hz, hz2, variablesAt, hsh, elemOf, run_und hpt, hlies, hlb, freeze, Sem.run, Sem.run_bind, Result.andThen, r2]
        · cases ho1
      · cases ho1
    · cases ho
  · cases ho
theorem xtM_ok {fr : Fr} {g : Operand → Value} {o : Oper} {v : Value} (h : HR P base ρ m.H w) (hb : base ≤ w.heap.size) (ho : xtM P fr m o = some (v, m')) (hf : Free ρ m.n m'.hi) (hg : FR ρ fr g o.op) (hS : Sat m'.lg) : NOk P base ρ m w (execOp g o) v m' := by
  obtain ⟨dst, op, ty, pos, af, gd⟩ := o
  unfold xtM at ho
  simp only at ho hg
  have hx1 : ∀ {x}, x ∈ op.operands.toList → VR ρ (ev fr x) (g x) := fun hx => hg _ hx
  split at ho
  · rename_i s t x
    exact NOk.of (convU_ok h ho (hx1 (x := x) (by simp [Op.operands])))
  · rename_i op t x y yt
    exact NOk.of (ptrEq_ok h ho (hx1 (x := x) (by simp [Op.operands])) (hx1 (x := y) (by simp [Op.operands])))
  · rename_i xs tys
    have l1 := evL_LR (ρ := ρ) (fr := fr) (g := g) (xs := xs.toList) fun y hy => hg y (by show y ∈ (#[] ++ xs : Array Operand).toList; simpa using hy)
    split at ho
    · rename_i x hx
      rw [hx] at l1
      obtain ⟨x', r1, e1, g1, g2⟩ := l1.tail
      cases g2.nil_inv
      have e2 : xs.map g = #[x'] := by apply Array.ext'; simpa using e1
      have := sdM_ok (tys := tys) h ho g1
      have hn := NOk.of this
      obtain ⟨ks, e3⟩ : ∃ ks, execOp g ⟨dst, .call ⟨.builtin .unsafeSliceData, xs, tys⟩, ty, pos, af, gd⟩ = builtin .unsafeSliceData tys ty ks (xs.map g) := ⟨#[], rfl⟩
      rw [e3, e2]; exact hn
    · cases ho
  · rename_i xs tys
    have l1 := evL_LR (ρ := ρ) (fr := fr) (g := g) (xs := xs.toList) fun y hy => hg y (by show y ∈ (#[] ++ xs : Array Operand).toList; simpa using hy)
    split at ho
    · rename_i p l t rest hx ht
      rw [hx] at l1
      obtain ⟨x', r1, e1, g1, g2⟩ := l1.tail
      obtain ⟨y', r2, rfl, g3, g4⟩ := g2.tail
      cases g4.nil_inv
      have e2 : xs.map g = #[x', y'] := by apply Array.ext'; simpa using e1
      have hn := NOk.of (usM_ok (ty := ty) (tys := rest) h ho g1 g3 hS hf)
      obtain ⟨ks, e3⟩ : ∃ ks, execOp g ⟨dst, .call ⟨.builtin .unsafeString, xs, tys⟩, ty, pos, af, gd⟩ = builtin .unsafeString tys ty ks (xs.map g) := ⟨#[], rfl⟩
      have e4 : tys = ⟨t :: rest⟩ := by rw [← ht]
      rw [e3, e2, e4]; exact hn
    · cases ho
  · cases ho
theorem xtM_lg {fr : Fr} {o : Oper} {v : Value} (ho : xtM P fr m o = some (v, m')) : m.lg.le m'.lg := by
  unfold xtM at ho
  split at ho
  · unfold convU at ho
    split at ho
    · split at ho
      · obtain ⟨_, ho⟩ := cond_some ho; cases ho; exact .refl _
      · cases ho
    · split at ho
      · obtain ⟨_, ho⟩ := cond_some ho; cases ho; exact .refl _
      · cases ho
    · cases ho
  · unfold ptrEq at ho
    split at ho
    · obtain ⟨_, ho⟩ := cond_some ho
      split at ho
      · cases ho; exact .refl _
      · cases ho; exact .refl _
      · cases ho
    · cases ho
  · split at ho
    · unfold sdM at ho
      split at ho
      · split at ho
        · split at ho
          · cases ho; exact .refl _
          · cases ho
        · cases ho
      · cases ho
    · cases ho
  · split at ho
    · unfold usM at ho
      split at ho
      · obtain ⟨_, ho⟩ := cond_some ho
        split at ho
        · obtain ⟨_, ho⟩ := cond_some ho
          split at ho
          · rename_i hl
            split at ho
            · rename_i hs
              cases ho
              rw [setM_lg hs]
              exact letM_le hl
            · cases ho
          · cases ho
        · cases ho
      · cases ho
    · cases ho
  · cases ho
end
end Go.Sx

namespace Go.Sx
set_option linter.all false
open Go
set_option linter.unusedVariables false
def fw (rd : Option Nat) : Fence := { Fence.wide with round := rd }
theorem fw_depth {rd : Option Nat} {n : Nat} : (fw rd).depth.isSome = true → 1 ≤ n := fun h => by cases h
theorem callsIn_fw {rd : Option Nat} {n : Nat} {P : Program} {f : FuncId} {args : Array Value} {w : World} {R : Ending → World → Prop} : CallsIn (fw rd) n P f args w R ↔ Calls P f args w R :=
  ⟨fun h => callsIn_wide.1 (show CallsIn Fence.wide n P f args w R from h), fun h => show CallsIn (fw rd) n P f args w R from (callsIn_wide (n := n)).2 h⟩
section
variable {P : Program} {rd : Option Nat}
def wpO (P : Program) (rd : Option Nat) (o : Oper) (a : Act) (w : World) (K : Act → World → Prop) (Q : Exit → Act → World → Prop) : Prop := o.wpIn (fw rd) 0 P a w K Q
theorem wpO_mono {o : Oper} {a : Act} {w : World} {K K' : Act → World → Prop} {Q : Exit → Act → World → Prop} (h : ∀ a w, K a w → K' a w) (hh : wpO P rd o a w K Q) : wpO P rd o a w K' Q := by
  unfold wpO Oper.wpIn at *
  refine ⟨hh.1, ?_⟩
  have hh := hh.2
  generalize (o.semAt (fw rd).round a.eval).run P w = r at *
  cases r with
  | ok n w' =>
    cases n <;> simp only [Oper.uponIn] at hh ⊢ <;>
      first
        | exact h _ _ hh
        | exact ⟨hh.1, CallsIn.mono hh.2 (fun e w'' he => by cases e <;> first | exact h _ _ he | exact he)⟩
        | exact ⟨hh.1, RowsIn.mono hh.2 (fun _ _ he => h _ _ he)⟩
        | exact ⟨hh.1, RoundIn.mono hh.2 (fun e w'' he => by cases e <;> first | exact h _ _ he | exact he)⟩
  | halt x w' => cases x <;> simp only [Oper.uponIn] at hh ⊢ <;> exact hh
def wpL (P : Program) (rd : Option Nat) (ops : Array Oper) (Q : Exit → Act → World → Prop) : List Oper → Act → World → Prop
  | [], a, w => Q .normal a w
  | o :: rest, a, w => if Region.wanted o (yielded ops a.tmps) then wpO P rd o a w (wpL P rd ops Q rest) Q else wpL P rd ops Q rest (a.put o.dst undef) w
theorem wpL_step {ops : Array Oper} {Q : Exit → Act → World → Prop} {a : Act} {w : World} {rest : List Oper} {o : Oper}
    (h : ∀ K : Act → World → Prop, (∀ a w, wpL P rd ops Q rest a w → K a w) → if Region.wanted o (yielded ops a.tmps) then wpO P rd o a w K Q else K (a.put o.dst undef) w) : wpL P rd ops Q (o :: rest) a w := h _ fun _ _ h => h
theorem wpL_ops {ops : Array Oper} {Q : Exit → Act → World → Prop} : ∀ (l : List Oper) (k : Nat), (∀ j, l[j]? = ops[k + j]?) → ∀ a w, wpL P rd ops Q l a w → wpOpsIn (fw rd) 0 P ops Q (List.range' k l.length) a w
  | [], k, _, a, w, h => h
  | o :: l, k, hk, a, w, h => by
    have h0 : ops[k]? = some o := by simpa using (hk 0).symm
    have ih := wpL_ops (Q := Q) l (k + 1) (fun j => by have := hk (j + 1); simpa [Nat.add_assoc, Nat.add_comm 1 j] using this)
    simp only [List.length_cons, List.range'_succ, wpOpsIn, h0]
    unfold wpL at h
    split
    · rename_i hw; rw [if_pos hw] at h; exact wpO_mono ih h
    · rename_i hw; rw [if_neg hw] at h; exact ⟨fun _ _ => trivial, ih _ _ h⟩
theorem wpI_region_list {id : Nat} {ops : Array Oper} {Q : Exit → Act → World → Prop} {a : Act} {w : World} (h : wpL P rd ops Q ops.toList a w) : (Code.region id ops false).wpIn (fw rd) 0 P Q a w :=
  wpIn_region (by
    have := wpL_ops ops.toList 0 (by simp) a w h
    rw [List.range_eq_range', ← Array.length_toList]; exact this)
def wpOpI (P : Program) (rd : Option Nat) (ops : Array Oper) (Q : Exit → Act → World → Prop) (i : Nat) (K : Act → World → Prop) (a : Act) (w : World) : Prop :=
  match ops[i]? with
  | none => K a w
  | some o => if Region.wanted o (yielded ops a.tmps) then wpO P rd o a w K Q else K (a.put o.dst undef) w
theorem wpOpI_mono {ops : Array Oper} {Q : Exit → Act → World → Prop} {i : Nat} {a : Act} {w : World} {K K' : Act → World → Prop} (h : ∀ a w, K a w → K' a w) (hh : wpOpI P rd ops Q i K a w) : wpOpI P rd ops Q i K' a w := by
  unfold wpOpI at *
  split
  · exact h _ _ (by simpa [*] using hh)
  · rename_i o ho
    simp only [ho] at hh
    split
    · rename_i hw; simp only [hw, if_true] at hh; exact wpO_mono h hh
    · rename_i hw; simp only [hw] at hh; exact h _ _ hh
theorem wpOpsIn_cons {ops : Array Oper} {Q : Exit → Act → World → Prop} {i : Nat} {rest : List Nat} {a : Act} {w : World} (h : wpOpI P rd ops Q i (wpOpsIn (fw rd) 0 P ops Q rest) a w) : wpOpsIn (fw rd) 0 P ops Q (i :: rest) a w := by
  unfold wpOpI at h
  simp only [wpOpsIn]
  split at h
  · rename_i hn; simp only [hn]; exact h
  · rename_i o ho
    simp only [ho]
    split at h
    · rename_i hw; rw [if_pos hw]; exact h
    · rename_i hw; rw [if_neg hw]; exact ⟨fun _ _ => trivial, h⟩
def wpAnyI (P : Program) (rd : Option Nat) (md : Region.Mode) (ops : Array Oper) (Q : Exit → Act → World → Prop) : Nat → Array Bool → Act → World → Prop
  | 0, listed, a, w => Region.ready md ops listed = [] ∧ Q .normal a w
  | fuel + 1, listed, a, w => (Region.ready md ops listed = [] → Q .normal a w) ∧ ∀ i ∈ Region.ready md ops listed, wpOpI P rd ops Q i (wpAnyI P rd md ops Q fuel (listed.setIfInBounds i true)) a w
theorem wpAnyI_sound {md : Region.Mode} {ops : Array Oper} {Q : Exit → Act → World → Prop} : ∀ (fuel t : Nat) (listed : Array Bool) (a : Act) (w : World), wpAnyI P rd md ops Q fuel listed a w → wpOpsIn (fw rd) 0 P ops Q (Region.linearise.go md ops fuel t listed []) a w := by
  intro fuel
  induction fuel with
  | zero => intro t listed a w h; simpa [Region.linearise.go, wpOpsIn] using h.2
  | succ fuel ih =>
    intro t listed a w h
    obtain ⟨h0, h1⟩ := h
    simp only [Region.linearise.go]
    change wpOpsIn (fw rd) 0 P ops Q (match (Region.ready md ops listed)[t % (Region.ready md ops listed).length]? with
      | some i => Region.linearise.go md ops fuel (t / (Region.ready md ops listed).length) (listed.setIfInBounds i true) [i]
      | none => [].reverse) a w
    cases hi : (Region.ready md ops listed)[t % (Region.ready md ops listed).length]? with
    | none =>
      have hnil : Region.ready md ops listed = [] := by
        cases hr : Region.ready md ops listed with
        | nil => rfl
        | cons x xs =>
          rw [hr] at hi
          have hlt : t % (x :: xs).length < (x :: xs).length := Nat.mod_lt _ (by simp)
          simp at hi
          simp at hlt
          omega
      simpa [wpOpsIn] using h0 hnil
    | some i =>
      simp only []
      rw [linearise_go_acc, List.reverse_singleton, List.singleton_append]
      exact wpOpsIn_cons (wpOpI_mono (fun a w => ih _ _ a w) (h1 i (List.mem_of_getElem? hi)))
theorem wpI_region_any {id : Nat} {ops : Array Oper} {Q : Exit → Act → World → Prop} {a : Act} {w : World} (hm : P.follows .mixedOrders = true)
    (h : wpAnyI P rd .any ops Q ops.size (Array.replicate ops.size false) a { w with drawn := w.drawn + 1 }) : (Code.region id ops true).wpIn (fw rd) 0 P Q a w :=
  wpIn_region_draw fun t => by
    simp only [Region.schedule, hm, Bool.true_or, if_true]
    exact wpAnyI_sound ops.size t _ a _ h
end
end Go.Sx
