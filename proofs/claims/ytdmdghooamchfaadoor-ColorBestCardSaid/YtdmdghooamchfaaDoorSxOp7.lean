/- The operations, part 7: copy, lengths, conversions, strings over bytes. -/
import Derived.Test.YtdmdghooamchfaaDoorSxOp6
import Derived.Laws.BytesString
namespace Go.Sx
set_option linter.all false
open Go
set_option linter.unusedVariables false
set_option linter.unusedSimpArgs false
variable [Ora]

section
variable {P : Program} {base : Nat} {ρ : Ren} {m m' : Mem} {w : World}

theorem unM_ok {op : UnOp} {x x' v : Value} (h : unM op x = some v) (hx : VR ρ x x') (w : World) : (Op.unary op x').run P w = .ok v w ∧ pureV v = true := by
  unfold unM at h
  split at h
  · cases inv_int hx; cases h; exact ⟨by simp [Op.unary, Op.intArith, mkI_eq], by simp [mkI_eq, pureV]⟩
  · cases inv_int hx
    obtain ⟨h1, h2⟩ := bitsM_ok (P := P) h w
    exact ⟨by simpa [Op.unary] using h1, h2⟩
  · cases inv_bool hx; cases h; exact ⟨rfl, rfl⟩
  · cases h

theorem lenM_ok {t ty : TypeId} {tys : List TypeId} {x x' v : Value} (h : HR P base ρ m.H w) (ho : lenM P m t x = some v) (hx : VR ρ x x') : (Builtin.len_ ⟨t :: tys⟩ ty #[x']).run P w = .ok v w ∧ pureV v = true := by
  unfold lenM at ho
  split at ho
  · rename_i hu; cases inv_str hx; cases ho
    refine ⟨?_, rfl⟩
    simp [Builtin.len_, Sem.run_bind, run_und hu, Result.andThen, goInt]
  · rename_i hu; cases ho
    refine ⟨?_, rfl⟩
    simp [Builtin.len_, Sem.run_bind, run_und hu, Result.andThen, goInt]
  · rename_i n c hu
    cases ho
    refine ⟨?_, rfl⟩
    have hx' : ∃ a' c', x' = .slice a' n c' := by
      cases hx with
      | pure _ => exact ⟨_, _, rfl⟩
      | sl _ _ => exact ⟨_, _, rfl⟩
      | op _ _ _ _ => exact ⟨_, _, rfl⟩
      | opE _ => exact ⟨_, _, rfl⟩
    obtain ⟨a', c', rfl⟩ := hx'
    simp [Builtin.len_, Sem.run_bind, run_und hu, Result.andThen, goInt]
  · rename_i hu
    cases hx with | pure _ => ?_
    cases ho
    refine ⟨?_, rfl⟩
    simp [Builtin.len_, Sem.run_bind, run_und hu, Result.andThen, goInt]
  · rename_i r hu
    cases hx with
    | pure hp => simp [pureV] at hp
    | map hl =>
      rename_i l
      split at ho
      · rename_i es cl hg
        cases ho
        obtain ⟨l0, h1, ⟨h2, es', h3, h4, _⟩, _⟩ := h.at_ r (h.dom _ _ hl).1 _ hg
        rw [hl] at h1
        have := Option.some.inj h1; subst this
        refine ⟨?_, rfl⟩
        have hgo : (getObj l.blk).run P w = .ok (.map es' cl) w := by simp [getObj, Sem.run, h3]
        simp [Builtin.len_, Sem.run_bind, run_und hu, Result.andThen, goInt, hgo, h4]
      · cases ho
  · cases ho

theorem maxM_ok {ty : TypeId} {tys : Array TypeId} {vs vs' : List Value} {v : Value} (ho : maxM vs = some v) (hx : LR ρ vs vs') (w : World) : (Builtin.max_ tys ty ⟨vs'⟩).run P w = .ok v w ∧ pureV v = true := by
  unfold maxM at ho
  split at ho
  · obtain ⟨a', r1, rfl, h1, h2⟩ := hx.tail
    obtain ⟨b', r2, rfl, h3, h4⟩ := h2.tail
    cases h4.nil_inv
    cases inv_int h1; cases inv_int h3; cases ho
    exact ⟨by simp [Builtin.max_, Builtin.max2], rfl⟩
  · cases ho
theorem minM_ok {ty : TypeId} {tys : Array TypeId} {vs vs' : List Value} {v : Value} (ho : minM vs = some v) (hx : LR ρ vs vs') (w : World) : (Builtin.min_ tys ty ⟨vs'⟩).run P w = .ok v w ∧ pureV v = true := by
  unfold minM at ho
  split at ho
  · obtain ⟨a', r1, rfl, h1, h2⟩ := hx.tail
    obtain ⟨b', r2, rfl, h3, h4⟩ := h2.tail
    cases h4.nil_inv
    cases inv_int h1; cases inv_int h3; cases ho
    exact ⟨by simp [Builtin.min_, Builtin.min2], rfl⟩
  · cases ho

theorem sliceDataM_ok {ty : TypeId} {tys : Array TypeId} {x x' v : Value} (h : HR P base ρ m.H w) (ho : sliceDataM m x = some (v, m')) (hx : VR ρ x x') : VOk P base ρ m w (Builtin.unsafeSliceData_ tys ty #[x']) v m' := by
  unfold sliceDataM at ho
  split at ho
  · cases ho; cases inv_sliceN hx
    exact VOk.same h rfl (.pure rfl)
  · rename_i a n c
    cases hq : Nat.beq n 0 || Nat.beq c 0 || Nat.beq c (OPEN + 2) with
    | true => rw [hq] at ho; cases ho
    | false =>
      rw [hq] at ho
      simp only [cond_false, Option.some.injEq, Prod.mk.injEq] at ho
      obtain ⟨rfl, rfl⟩ := ho
      simp only [Bool.or_eq_false_iff] at hq
      obtain ⟨⟨q1, q2⟩, q3⟩ := hq
      have q1 : n ≠ 0 := fun e => by subst e; cases q1
      have q2 : c ≠ 0 := fun e => by subst e; cases q2
      rcases inv_slice hx with ⟨l, hl, hsp, hc, rfl⟩ | ⟨l, c', hl, hsp, hc, hn, hcap, rfl⟩ | ⟨a', c', _, he, _, _⟩
      · refine VOk.same (v' := .pointer (some ⟨l.blk, a.off + l.sh, none⟩)) h ?_ ?_
        · have hdef : Builtin.unsafeSliceData_ tys ty #[.slice (some ⟨l.blk, a.off + l.sh, none⟩) n c] = (do
              if c ≠ 0 then pure (.pointer (some ⟨l.blk, a.off + l.sh, none⟩))
              else if (← viewAt l.blk).isSome then pure (.pointer (some ⟨l.blk, a.off + l.sh, none⟩))
              else pure (.pointer (some ⟨← newObj (.view ⟨l.blk, a.off + l.sh, none⟩ (← elemOf ty)), 0, none⟩))) := rfl
          rw [hdef, if_pos q2]; rfl
        · obtain ⟨ab, ao, asp⟩ := a; simp only at hsp; subst hsp; exact .ptr hl
      · refine VOk.same (v' := .pointer (some ⟨l.blk, a.off + l.sh, none⟩)) h ?_ ?_
        · have : c' ≠ 0 := by omega
          have hdef : Builtin.unsafeSliceData_ tys ty #[.slice (some ⟨l.blk, a.off + l.sh, none⟩) n c'] = (do
              if c' ≠ 0 then pure (.pointer (some ⟨l.blk, a.off + l.sh, none⟩))
              else if (← viewAt l.blk).isSome then pure (.pointer (some ⟨l.blk, a.off + l.sh, none⟩))
              else pure (.pointer (some ⟨← newObj (.view ⟨l.blk, a.off + l.sh, none⟩ (← elemOf ty)), 0, none⟩))) := rfl
          rw [hdef, if_pos this]; rfl
        · obtain ⟨ab, ao, asp⟩ := a; simp only at hsp; subst hsp; exact .ptr hl
      · omega
  · cases ho

theorem oIface_ok {t : TypeId} {x x' v : Value} (h : HR P base ρ m.H w) (ho : oIface P m t x = some (v, m')) (hx : VR ρ x x') : VOk P base ρ m w (Instr.makeInterface t x') v m' := by
  unfold oIface at ho
  split at ho
  · rename_i d hd
    have hmi : (∀ ms, d ≠ .interface ms) → (Instr.makeInterface t x').run P w = .ok (.iface t x') w := fun hne => by
      simp only [Instr.makeInterface, Sem.run_bind, run_und hd, Result.andThen]
      cases d <;> first | rfl | exact absurd rfl (hne _)
    split at ho
    · cases ho
    · rename_i hne
      obtain ⟨_, ho⟩ := cond_some ho
      cases ho
      exact VOk.same h (hmi fun ms e => hne ms e) (.iface hx)
  · cases ho

theorem oNil_ok {x x' v : Value} (ho : oNil m x = some (v, m')) (hx : VR ρ x x') : m' = m ∧ VR ρ v x' ∧ ((∃ a, x' = .pointer (some a)) ∨ ∃ f a b, x' = .func (.func f) a b) := by
  unfold oNil at ho
  split at ho
  · cases ho
    obtain ⟨l, _, _, rfl⟩ := inv_ptr hx
    exact ⟨rfl, hx, .inl ⟨_, rfl⟩⟩
  · cases ho
    cases hx with
    | pure hp => simp [pureV] at hp
    | func _ _ _ _ => exact ⟨rfl, by constructor <;> assumption, .inr ⟨_, _, _, rfl⟩⟩
  · cases ho

/-! ### copy -/
theorem copyM_ok {t ty : TypeId} {tys : List TypeId} {x y x' y' v : Value} (h : HR P base ρ m.H w) (ho : copyM P m t x y = some (v, m')) (hx : VR ρ x x') (hy : VR ρ y y') : VOk P base ρ m w (Builtin.copy_ ⟨t :: tys⟩ ty #[x', y']) v m' := by
  unfold copyM at ho
  split at ho
  · rename_i e a n c hu
    split at ho
    · rename_i s hs
      split at ho
      · rename_i k cs hsrc
        have hx' : ∃ a' c', x' = .slice a' n c' := by
          cases hx with
          | pure _ => exact ⟨_, _, rfl⟩
          | sl _ _ => exact ⟨_, _, rfl⟩
          | op _ _ _ _ => exact ⟨_, _, rfl⟩
          | opE _ => exact ⟨_, _, rfl⟩
        obtain ⟨a', c', rfl⟩ := hx'
        -- what is copied
        have hread : ∃ L cs', (Builtin.lenOf y').run P w = .ok L w ∧ Nat.min L n = k ∧ LR ρ cs cs' ∧ (Builtin.firstCells s k y').run P w = .ok ⟨cs'⟩ w := by
          split at hsrc
          · rename_i k0 _
            obtain ⟨q, hsrc⟩ := cond_some hsrc
            have q := Nat.eq_of_beq_eq_true q
            subst q
            cases hsrc
            cases inv_sliceN hy
            exact ⟨0, [], rfl, by simp, .nil, rfl⟩
          · rename_i b k0 c0
            split at hsrc
            · rename_i r hr
              cases hsrc
              rcases inv_slice hy with ⟨l, hl, _, _, rfl⟩ | ⟨l, c', hl, _, _, _, _, rfl⟩ | ⟨a', c', _, rfl, _, rfl⟩
              · obtain ⟨r', h1, h2, h3⟩ := read_ok h hr hl
                exact ⟨k0, r', rfl, rfl, h1, load_cells h2 h3⟩
              · obtain ⟨r', h1, h2, h3⟩ := read_ok h hr hl
                exact ⟨k0, r', rfl, rfl, h1, load_cells h2 h3⟩
              · have : cs = [] := by
                  unfold readM at hr
                  split at hr
                  · have := (cutL_eq hr).2; simp at this; exact this
                  · cases hr
                subst this
                exact ⟨0, [], rfl, rfl, .nil, by simp [Builtin.firstCells, loadCells, loadCellsFrom]⟩
            · cases hsrc
          · rename_i b
            cases hsrc
            cases inv_str hy
            refine ⟨b.size, intsOf (b.data.toList.take (Nat.min b.size n)), rfl, rfl, ints_LR _ _, ?_⟩
            have e : ((b.extract 0 (Nat.min b.size n)).data.map fun b => Value.int .u8 b.toNat) = ⟨intsOf (b.data.toList.take (Nat.min b.size n))⟩ := by
              apply Array.ext'; simp [intsOf, bytes_extract]
            show (pure ((b.extract 0 (Nat.min b.size n)).data.map fun b => Value.int .u8 b.toNat) : Sem (Array Value)).run P w = _
            rw [e]; rfl
          · cases hsrc
        obtain ⟨L, cs', r1, r2, r3, r4⟩ := hread
        have hbase : (Builtin.copy_ ⟨t :: tys⟩ ty #[.slice a' n c', y']).run P w = (match a' with | some a => (do storeCells a cs'; pure (goInt k) : Sem Value) | none => pure (goInt k)).run P w := by
          unfold Builtin.copy_
          simp only [List.getElem?_toArray, List.getElem?_cons_zero, List.getElem?_cons_succ, Sem.run_bind, run_und hu, run_size hs, r1, r2, r4, Result.andThen]
          cases a' with
          | none => rfl
          | some a => rfl
        cases a with
        | none =>
          cases inv_sliceN hx
          simp only at ho
          obtain ⟨q, ho⟩ := cond_some ho
          have q := Nat.eq_of_beq_eq_true q
          cases ho
          exact VOk.same h (by rw [hbase, q]; rfl) (.pure rfl)
        | some ad =>
          simp only at ho
          cases hz : Nat.beq cs.length 0 with
          | true =>
            rw [hz] at ho
            cases ho
            have hz := Nat.eq_of_beq_eq_true hz
            have : cs' = [] := List.length_eq_zero_iff.1 (by rw [← r3.1]; exact hz)
            subst this
            refine VOk.same h (v' := .int .i64 k) ?_ (.pure rfl)
            rw [hbase]
            cases a' <;> rfl
          | false =>
            rw [hz] at ho
            simp only [cond_false] at ho
            obtain ⟨hcl, ho⟩ := cond_some ho
            have hcl := Nat.le_of_ble_eq_true hcl
            split at ho
            · rename_i m2 hw
              cases ho
              rcases inv_slice hx with ⟨l, hl, hsp, hc, he⟩ | ⟨l, c', hl, hsp, hc, hn, hcap, he⟩ | ⟨a2, c2, _, hn, hc2, he⟩
              · cases he
                obtain ⟨w', h1, h2⟩ := write_ok h hw hl r3
                exact ⟨.int .i64 k, ρ, w', by rw [hbase]; simp [Sem.run_bind, h1, Result.andThen, goInt], .pure rfl, h2⟩
              · cases he
                obtain ⟨w', h1, h2⟩ := write_ok h hw hl r3
                exact ⟨.int .i64 k, ρ, w', by rw [hbase]; simp [Sem.run_bind, h1, Result.andThen, goInt], .pure rfl, h2⟩
              · have OPENv : OPEN = 9223372036854775808 := rfl
                omega
            · cases ho
      · cases ho
    · cases ho
  · cases ho

/-! ### bytes and strings -/
theorem bytesOf_eq : ∀ {cs : List Value} {l : List UInt8}, bytesOf cs = some l → ∃ ns : List Int, cs = ns.map (Value.int .u8) ∧ l = ns.map fun n => UInt8.ofNat n.toNat
  | [], l, h => by simp only [bytesOf, Option.some.injEq] at h; subst h; exact ⟨[], rfl, rfl⟩
  | v :: r, l, h => by
    unfold bytesOf at h
    split at h
    · rename_i he; cases he
    · rename_i n r0 he
      cases he
      split at h
      · rename_i l0 h0
        cases h
        obtain ⟨ns, h1, h2⟩ := bytesOf_eq h0
        exact ⟨n :: ns, by rw [h1]; rfl, by rw [h2]; rfl⟩
      · cases h
    · cases h
theorem ints_inv : ∀ {ns : List Int} {cs' : List Value}, LR ρ (ns.map (Value.int .u8)) cs' → cs' = ns.map (Value.int .u8)
  | [], cs', h => h.nil_inv
  | n :: r, cs', h => by
    obtain ⟨v', r', rfl, h1, h2⟩ := h.tail
    cases inv_int h1
    rw [ints_inv h2]; rfl
theorem foldl_push : ∀ (ns : List Int) (acc : List UInt8), (ns.foldl (fun r n => r.push (UInt8.ofNat n.toNat)) (ByteArray.mk ⟨acc⟩)) = ⟨⟨acc ++ ns.map fun n => UInt8.ofNat n.toNat⟩⟩
  | [], acc => by simp
  | n :: r, acc => by
    rw [List.foldl_cons]
    have : (ByteArray.mk ⟨acc⟩).push (UInt8.ofNat n.toNat) = ⟨⟨acc ++ [UInt8.ofNat n.toNat]⟩⟩ := by
      show ByteArray.mk (Array.push ⟨acc⟩ _) = _
      simp
    rw [this, foldl_push r]
    simp

theorem convM_ok {s t : TypeId} {x x' v : Value} (h : HR P base ρ m.H w) (hb : base ≤ w.heap.size) (ho : convM P m s t x = some (v, m')) (hf : Free ρ m.n m'.hi) (hx : VR ρ x x') : VOk P base ρ m w (convert s t x') v m' := by
  unfold convM at ho
  split at ho
  · rename_i ds k j n hs ht
    cases inv_int hx
    simp only [Option.some.injEq, Prod.mk.injEq] at ho
    obtain ⟨rfl, rfl⟩ := ho
    refine VOk.same (v' := .int k (k.wrap n)) h ?_ (by rw [mkI_eq, wrapF_eq]; exact .pure rfl)
    cases ds <;> simp [convert, Sem.run_bind, run_und hs, run_und ht, Result.andThen, Conv.intToInt]
  · rename_i ds b hs ht
    cases inv_str hx
    cases ho
    refine VOk.same h ?_ (.pure rfl)
    cases ds <;> simp [convert, Sem.run_bind, run_und hs, run_und ht, Result.andThen]
  · rename_i ds j n hs ht
    cases inv_int hx
    cases ho
    refine VOk.same (v' := .string (Utf8.encode n)) h ?_ (.pure rfl)
    cases ds <;> simp [convert, Sem.run_bind, run_und hs, run_und ht, Result.andThen, Conv.intToString]
  · rename_i ds e b hs ht
    cases inv_str hx
    split at ho
    · rename_i he
      split at ho
      · rename_i hsz
        rw [forceL_eq] at ho
        let q : Question := .appendCap b.size 0 e
        let cap := q.cut (w.tape w.drawn q)
        have hcap : b.size ≤ cap := by show b.size ≤ b.size + _; omega
        have hch : (choose q).run P w = .ok cap w.drew := by
          simp only [choose, Sem.run]
          rw [if_neg (by simp [q, Question.forced])]
          rfl
        let C : Array Value := (b.data.map fun b => Value.int .u8 b.toNat) ++ Array.replicate (cap - b.size) (.int .u8 0)
        have hC : C.size = cap := by
          have : b.data.size = b.size := rfl
          simp [C, this]; omega
        obtain ⟨e1, e2, e3⟩ := new_cells (wd := w.drew) (fz := (C.size, C.size + 1)) (cap := cap) (C := C) h hb ho hf (ints_LR ρ b.data.toList) (fun i u hi => by
            have hl := (List.getElem?_eq_some_iff.1 hi).1
            simp [intsOf] at hl
            have hl' : i < (b.data.map fun b => Value.int .u8 b.toNat).size := by simpa using hl
            show ((b.data.map fun b => Value.int .u8 b.toNat) ++ Array.replicate (cap - b.size) (.int .u8 0))[i]? = some u
            rw [Array.getElem?_append_left hl']
            simpa [intsOf] using hi) (fun i hi hh => by have := hh.1; simp only at this; omega)
          (fun inf h2 => by
            have : inf.size = 1 := by unfold sizeM at hsz; rw [h2] at hsz; exact Option.some.inj hsz
            rw [this, hC]; omega) ⟨rfl, rfl, rfl⟩ rfl
        refine ⟨.slice (some ⟨w.heap.size, 0, none⟩) b.size cap, _, _, ?_, ?_, e3⟩
        · have hmk : ∀ w2 : World, w2.heap[w.heap.size]? = some (.cells C e (0, 0)) → (markStringish ⟨w.heap.size, 0, none⟩).run P w2 = .ok () (w2.freeze { block := w.heap.size, off := C.size } 1) := fun w2 h2 => by
            simp [markStringish, shape, freeze, Sem.run, World.shape?, h2]
          have hfr : ({ w.drew with heap := w.heap.push (.cells C e (0, 0)) } : World).freeze { block := w.heap.size, off := C.size } 1 = { w.drew with heap := w.heap.push (.cells C e (C.size, C.size + 1)) } := by
            unfold World.freeze
            rw [if_neg (by decide)]
            congr 1
            apply Array.ext_getElem?
            intro i
            rw [Array.getElem?_modify]
            by_cases hi : w.heap.size = i
            · subst hi; simp
            · rw [if_neg hi]; simp only [Array.getElem?_push]; rw [if_neg (fun h => hi h.symm), if_neg (fun h => hi h.symm)]
          have hconv : (convert s t (.string b)).run P w = (Conv.stringToBytes e b).run P w := by
            cases ds <;> simp [convert, Sem.run_bind, run_und hs, run_und ht, run_und he, Result.andThen]
          rw [hconv]
          unfold Conv.stringToBytes
          simp only [Sem.run_bind, show (choose (.appendCap b.size 0 e)).run P w = .ok cap w.drew from hch, Result.andThen]
          have hnr : (newRow e C).run P w.drew = .ok ⟨w.heap.size, 0, none⟩ { w.drew with heap := w.heap.push (.cells C e (0, 0)) } := rfl
          rw [show (newRow e ((b.data.map fun b => Value.int .u8 b.toNat) ++ Array.replicate (cap - b.size) (.int .u8 0))).run P w.drew = _ from hnr]
          simp only [Result.andThen]
          rw [hmk _ (by simp), hfr]
          rfl
        · rw [e1]
          exact VR.op (o := 0) (m' := cap) e2 (Nat.le_refl _) hcap (fun _ _ => rfl)
      · cases ho
    · cases ho
  · rename_i e n c hs ht
    cases inv_sliceN hx
    split at ho
    · rename_i he
      cases ho
      refine VOk.same h (v' := .string ByteArray.empty) ?_ (.pure rfl)
      simp [convert, Sem.run_bind, run_und hs, run_und ht, run_und he, Result.andThen, Conv.bytesToString]
    · cases ho
  · rename_i e a n c hs ht
    split at ho
    · rename_i he
      split at ho
      · rename_i cs hr
        split at ho
        · rename_i l hl
          cases ho
          obtain ⟨ns, h1, h2⟩ := bytesOf_eq hl
          have hfin : ∀ a' c', (loadCells a' n).run P w = .ok (ns.map (Value.int .u8)).toArray w → (convert s t (.slice (some a') n c')).run P w = .ok (.string ⟨⟨l⟩⟩) w := fun a' c' hlc => by
            have := run_bytesToString w a' n c' ns hlc
            have e2 := foldl_push ns []
            simp only [List.nil_append] at e2
            simp only [convert, Sem.run_bind, run_und hs, run_und ht, run_und he, Result.andThen]
            rw [this, show ByteArray.empty = ByteArray.mk ⟨[]⟩ from rfl, e2, h2]
          rcases inv_slice hx with ⟨lc, hlc, _, _, rfl⟩ | ⟨lc, c', hlc, _, _, _, _, rfl⟩ | ⟨a', c', _, rfl, _, rfl⟩
          · obtain ⟨r', g1, g2, g3⟩ := read_ok h hr hlc
            rw [h1] at g1
            have := ints_inv g1
            subst this
            exact VOk.same h (hfin _ _ (load_cells g2 g3)) (.pure rfl)
          · obtain ⟨r', g1, g2, g3⟩ := read_ok h hr hlc
            rw [h1] at g1
            have := ints_inv g1
            subst this
            exact VOk.same h (hfin _ _ (load_cells g2 g3)) (.pure rfl)
          · have : cs = [] := by
              unfold readM at hr
              split at hr
              · have := (cutL_eq hr).2; simpa using this
              · cases hr
            subst this
            have : ns = [] := by cases ns with | nil => rfl | cons _ _ => cases h1
            subst this
            exact VOk.same h (hfin _ _ (by simp [loadCells, loadCellsFrom])) (.pure rfl)
        · cases ho
      · cases ho
    · cases ho
  · cases ho
end
end Go.Sx
