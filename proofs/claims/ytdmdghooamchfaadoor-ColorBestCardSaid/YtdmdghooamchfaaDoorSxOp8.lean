/- The operations, part 8: every operation that calls nothing. -/
import Derived.Test.YtdmdghooamchfaaDoorSxOp7
namespace Go.Sx
set_option linter.all false
open Go
set_option linter.unusedVariables false
set_option linter.unusedSimpArgs false
variable [Ora]

section
variable {P : Program} {base : Nat} {ρ : Ren} {m m' : Mem} {w : World}

theorem liesAt_off {e : TypeId} (hc : P.cellsOf e = 1) (count off n : Nat) (hn : off + n ≤ count) : liesAt P P.depth e count off e n = true := by
  have hd : P.depth = (2 * (P.types.size + Made.depth) + 1) + 1 := rfl
  rw [hd]
  simp only [liesAt, Bool.or_eq_true]
  left
  rw [hd]
  simp [rowAt, hc, hn, sameLayout, Nat.mod_one]
theorem run_loadBytes' : ∀ (ns : List Int) (b o : Nat) (acc : ByteArray), (∀ (j : Nat) (v : Value), (ns.map (Value.int .u8))[j]? = some v → w.cell? ⟨b, o + j, none⟩ = some v) →
    (loadBytes ⟨b, o, none⟩ acc ns.length).run P w = .ok ⟨acc.data ++ (ns.map fun n => UInt8.ofNat n.toNat).toArray⟩ w
  | [], b, o, acc, _ => by simp [loadBytes]
  | n :: ns, b, o, acc, h => by
    have h0 : w.cell? ⟨b, o, none⟩ = some (.int .u8 n) := by simpa using h 0 _ rfl
    have ih := run_loadBytes' ns b (o + 1) (acc.push n.toNat.toUInt8) (fun j v hj => by
      have := h (j + 1) v (by simpa using hj)
      rw [show o + 1 + j = o + (j + 1) by omega]; exact this)
    simp only [List.length_cons, loadBytes, Sem.run_bind, run_load, h0, Result.andThen, add_none]
    rw [ih]
    have : (acc.push n.toNat.toUInt8).data = acc.data.push n.toNat.toUInt8 := rfl
    rw [this]
    congr 2
    apply Array.ext'
    simp

theorem unsafeStrM_ok {pt ty : TypeId} {tys : List TypeId} {p l p' l' v : Value} (h : HR P base ρ m.H w) (ho : unsafeStrM P m pt p l = some (v, m')) (hp : VR ρ p p') (hl : VR ρ l l') :
    VOk P base ρ m w (Builtin.unsafeString_ ⟨pt :: tys⟩ ty #[p', l']) v m' := by
  have hmax : IntKind.i64.max = 9223372036854775807 := rfl
  unfold unsafeStrM at ho
  split at ho
  · cases hp with | pure _ => ?_
    cases inv_int hl
    cases ho
    refine VOk.same h (v' := .string ByteArray.empty) ?_ (.pure rfl)
    rename_i k _
    have hdef : Builtin.unsafeString_ ⟨pt :: tys⟩ ty #[.pointer none, .int k (.ofNat 0)] =
        (do
          let n ← asInt (.int k (.ofNat 0))
          if n < 0 then runtimePanic (.error "unsafe.String: len out of range")
          if n > IntKind.i64.max then unsupported (.unsafePointer "String: a length above the largest int")
          if n = 0 then pure (.string .empty)
          else runtimePanic (.error "unsafe.String: ptr is nil and len is not zero")) := rfl
    rw [hdef]
    simp [asInt, asIntOf, hmax]
  · rename_i a k n
    cases inv_int hl
    obtain ⟨lc, hlc, hsp, rfl⟩ := inv_ptr hp
    split at ho
    · rename_i cs T hspot hg
      split at ho
      · rename_i e hpt hT
        obtain ⟨q, ho⟩ := cond_some ho
        obtain ⟨q, q3⟩ := boolAnd q
        obtain ⟨q1, q2⟩ := boolAnd q
        have q1 : 0 < n := Nat.le_of_ble_eq_true q1
        have q2 := Nat.le_of_ble_eq_true q2
        have q3 := Nat.eq_of_beq_eq_true q3
        subst q3
        split at ho
        · rename_i r hr
          split at ho
          · rename_i bs m2 hbs hset
            cases ho
            obtain ⟨ns, h1, h2⟩ := bytesOf_eq hbs
            have hread : readM m a n = some r := by
              unfold readM; rw [hspot, hg]; exact hr
            obtain ⟨r', g1, g2, g3⟩ := read_ok h hread hlc
            rw [h1] at g1
            have hr' := ints_inv g1
            subst hr'
            obtain ⟨l0, z1, ⟨C, fz, T', z2, z3, z4⟩, z5⟩ := h.at_ a.block (h.dom _ _ hlc).1 _ hg
            rw [hlc] at z1
            have := Option.some.inj z1; subst this
            have z2 : w.heap[lc.blk]? = some (.cells C e fz) := by rw [z2, (z4 rfl).1]
            have hnl : ns.length = n := by simpa using g2
            have hcell : P.cellsOf e = 1 := by
              unfold sizeM at hT
              unfold Program.cellsOf
              cases hi : P.info? e with
              | none => rw [hi] at hT; cases hT
              | some i => rw [hi] at hT; have := Option.some.inj hT; simp [this]
            have hin : a.off + lc.sh + n ≤ C.size := by
              have hlast := g3 (n - 1) (.int .u8 ns[n - 1]) (by simp [hnl])
              simp only [World.cell?, z2] at hlast
              have := (Array.getElem?_eq_some_iff.1 (by simpa using hlast)).1
              omega
            have hlb := run_loadBytes' (P := P) (w := w) ns lc.blk (a.off + lc.sh) .empty g3
            rw [hnl] at hlb
            have hsh : w.shape? lc.blk = some (e, C.size) := by simp [World.shape?, z2]
            have hlies := liesAt_off (P := P) hcell (C.size / P.cellsOf e) (a.off + lc.sh) n (by rw [hcell]; simpa using hin)
            have hdef : Builtin.unsafeString_ ⟨pt :: tys⟩ ty #[.pointer (some ⟨lc.blk, a.off + lc.sh, none⟩), .int k (.ofNat n)] =
              (do
                let n ← asInt (.int k (.ofNat n))
                if n < 0 then runtimePanic (.error "unsafe.String: len out of range")
                if n > IntKind.i64.max then unsupported (.unsafePointer "String: a length above the largest int")
                if n = 0 then pure (.string .empty)
                else if ← variablesAt ⟨lc.blk, a.off + lc.sh, none⟩ (← elemOf pt) n.toNat then do
                  let s ← loadBytes ⟨lc.blk, a.off + lc.sh, none⟩ .empty n.toNat
                  freeze ⟨lc.blk, a.off + lc.sh, none⟩ n.toNat
                  pure (.string s)
                else unsupported (.unsafePointer "String: not so many bytes at ptr")) := rfl
            have e1 : Int.ofNat n = (n : Int) := rfl
            have hneg : ¬ (n : Int) < 0 := by omega
            have hbig : ¬ (9223372036854775807 : Int) < (n : Int) := by omega
            have hz : ¬ (n : Int) = 0 := by omega
            have hz2 : n ≠ 0 := by omega
            refine ⟨.string ⟨⟨bs⟩⟩, ρ, w.freeze ⟨lc.blk, a.off + lc.sh, none⟩ n, ?_, .pure rfl, St.write h hset hg rfl hlc ?_ ?_ ?_ ?_⟩
            · rw [hdef]
              simp [asInt, asIntOf, hmax, e1, hneg, hbig, hz, hz2, variablesAt, hsh, elemOf, run_und hpt, hlies, hlb, freeze, Sem.run, Sem.run_bind, Result.andThen, h2]
            · simp [World.freeze, hz2]
            · simp [World.freeze, hz2]
            · intro j hj
              simp only [World.freeze, hz2, if_false, Array.getElem?_modify]
              rw [if_neg (fun e => hj e.symm)]
            · refine ⟨C, (if fz.1 == fz.2 then (a.off + lc.sh, a.off + lc.sh + n) else (min fz.1 (a.off + lc.sh), max fz.2 (a.off + lc.sh + n))), e, ?_, z3, fun hc => by cases hc⟩
              simp only [World.freeze, hz2, if_false, Array.getElem?_modify, if_true, z2, Option.map_some]
          · cases ho
        · cases ho
      · cases ho
    · cases ho
  · cases ho

theorem builtinM_ok {b : Builtin} {vs vs' : List Value} {tys : List TypeId} {ty : TypeId} {ks : Array Bool} {v : Value} (h : HR P base ρ m.H w) (hb : base ≤ w.heap.size) (ho : builtinM P m b vs tys = some (v, m')) (hf : Free ρ m.n m'.hi) (hx : LR ρ vs vs') :
    ∃ s : Sem Value, builtin b ⟨tys⟩ ty ks ⟨vs'⟩ = (do pure (.value (← s))) ∧ VOk P base ρ m w s v m' := by
  unfold builtinM at ho
  split at ho
  · obtain ⟨x', r1, rfl, h1, h2⟩ := hx.tail
    cases h2.nil_inv
    unfold noM at ho
    split at ho
    · rename_i u hu
      cases ho
      obtain ⟨g1, g2⟩ := lenM_ok h hu h1
      exact ⟨_, rfl, VOk.same h g1 (.pure g2)⟩
    · cases ho
  · obtain ⟨x', r1, rfl, h1, h2⟩ := hx.tail
    obtain ⟨y', r2, rfl, h3, h4⟩ := h2.tail
    cases h4.nil_inv
    rename_i t t2 rest
    refine ⟨Builtin.append_ ⟨t :: t2 :: rest⟩ ty #[x', y'], rfl, ?_⟩
    have := appendM_ok (ty := ty) h hb ho hf h1 h3
    have e : Builtin.append_ ⟨t :: t2 :: rest⟩ ty #[x', y'] = Builtin.append_ #[t, t2] ty #[x', y'] := rfl
    rw [e]; exact this
  · obtain ⟨x', r1, rfl, h1, h2⟩ := hx.tail
    obtain ⟨y', r2, rfl, h3, h4⟩ := h2.tail
    cases h4.nil_inv
    exact ⟨_, rfl, copyM_ok h ho h1 h3⟩
  · unfold noM at ho
    split at ho
    · rename_i u hu
      cases ho
      obtain ⟨g1, g2⟩ := maxM_ok (P := P) (ty := ty) (tys := ⟨tys⟩) hu hx w
      exact ⟨_, rfl, VOk.same h g1 (.pure g2)⟩
    · cases ho
  · unfold noM at ho
    split at ho
    · rename_i u hu
      cases ho
      obtain ⟨g1, g2⟩ := minM_ok (P := P) (ty := ty) (tys := ⟨tys⟩) hu hx w
      exact ⟨_, rfl, VOk.same h g1 (.pure g2)⟩
    · cases ho
  · obtain ⟨x', r1, rfl, h1, h2⟩ := hx.tail
    cases h2.nil_inv
    exact ⟨_, rfl, sliceDataM_ok h ho h1⟩
  · obtain ⟨x', r1, rfl, h1, h2⟩ := hx.tail
    obtain ⟨y', r2, rfl, h3, h4⟩ := h2.tail
    cases h4.nil_inv
    exact ⟨_, rfl, unsafeStrM_ok h ho h1 h3⟩
  · cases ho

/-! ### every operation -/
/-- What an operation that calls nothing comes to. -/
def NOk (P : Program) (base : Nat) (ρ : Ren) (m : Mem) (w : World) (s : Sem Next) (v : Value) (m' : Mem) : Prop :=
  ∃ v' ρ' w', (s.run P w = .ok (.value v') w' ∨ (s.run P w = .ok .skip w' ∧ v' = undef)) ∧ VR ρ' v v' ∧ St P base ρ ρ' m m' w w'
theorem NOk.of {s : Sem Value} {v : Value} (h : VOk P base ρ m w s v m') : NOk P base ρ m w (do pure (.value (← s))) v m' := by
  obtain ⟨v', ρ', w', h1, h2, h3⟩ := h
  exact ⟨v', ρ', w', .inl (by simp [Sem.run_bind, h1, Result.andThen]), h2, h3⟩
theorem undef_VR (ρ : Ren) : VR ρ undef undef := .tuple (a := []) (a' := []) rfl (fun i v v' h => by simp at h)
theorem NOk.ofU {s : Sem Unit} (h : UOk P base ρ m w s m') : NOk P base ρ m w (do s; pure .skip) undef m' := by
  obtain ⟨ρ', w', h1, h3⟩ := h
  exact ⟨undef, ρ', w', .inr ⟨by simp [Sem.run_bind, h1, Result.andThen], rfl⟩, undef_VR _, h3⟩
theorem NOk.same {s : Sem Value} {v v' : Value} (h : HR P base ρ m.H w) (hr : s.run P w = .ok v' w) (hv : VR ρ v v') : NOk P base ρ m w (do pure (.value (← s))) v m := NOk.of (VOk.same h hr hv)

/-- The program's frame at the operands of an operation. -/
def FR (ρ : Ren) (fr : Fr) (g : Operand → Value) (o : Op) : Prop := ∀ x ∈ o.operands.toList, VR ρ (ev fr x) (g x)

theorem noM_some {o : Option Value} {v : Value} (h : noM o m = some (v, m')) : o = some v ∧ m' = m := by
  unfold noM at h
  split at h
  · cases h; exact ⟨rfl, rfl⟩
  · cases h
theorem memM_some {o : Option Mem} {v : Value} (h : memM o = some (v, m')) : o = some m' ∧ v = undef := by
  unfold memM at h
  split at h
  · cases h; exact ⟨rfl, rfl⟩
  · cases h
theorem evL_LR {fr : Fr} {g : Operand → Value} : ∀ {xs : List Operand}, (∀ x ∈ xs, VR ρ (ev fr x) (g x)) → LR ρ (evL fr xs) (xs.map g)
  | [], _ => .nil
  | x :: r, h => .cons (h x List.mem_cons_self) (evL_LR fun y hy => h y (List.mem_cons_of_mem _ hy))
theorem evP_PR {fr : Fr} {g : Operand → Value} : ∀ {xs : List (Nat × Operand)}, (∀ x ∈ xs.map (·.2), VR ρ (ev fr x) (g x)) → PR ρ (evP fr xs) (xs.map fun x => (x.1, g x.2))
  | [], _ => trivial
  | (i, x) :: r, h => ⟨rfl, h x (by simp), evP_PR fun y hy => h y (by simp at hy ⊢; exact .inr hy)⟩
theorem evO_OR {fr : Fr} {g : Operand → Value} {x : Option Operand} (h : ∀ y ∈ x.toList, VR ρ (ev fr y) (g y)) : OR ρ (evO fr x) (x.map g) := by
  cases x with
  | none => trivial
  | some y => exact h y (by simp)

set_option maxHeartbeats 1000000 in
theorem opM_ok {fr : Fr} {g : Operand → Value} {o : Oper} {v : Value} (h : HR P base ρ m.H w) (hb : base ≤ w.heap.size) (ho : opM P fr m o.op = some (v, m')) (hf : Free ρ m.n m'.hi) (hg : FR ρ fr g o.op) :
    NOk P base ρ m w (execOp g o) v m' := by
  obtain ⟨dst, op, ty, pos, af, gd⟩ := o
  simp only at ho hg
  have hx1 : ∀ {x}, x ∈ op.operands.toList → VR ρ (ev fr x) (g x) := fun hx => hg _ hx
  unfold opM at ho
  split at ho
  · cases ho
    exact ⟨_, ρ, w, .inl rfl, hx1 (by simp [Op.operands]), .refl h⟩
  · cases ho
    exact ⟨_, ρ, w, .inl rfl, hx1 (by simp [Op.operands]), .refl h⟩
  · rename_i c a b
    have hc := hx1 (x := c) (by simp [Op.operands])
    unfold oPick at ho
    split at ho
    · rename_i hcv
      rw [hcv] at hc
      cases ho
      exact ⟨g a, ρ, w, .inl (by simp [execOp, inv_bool hc, asBool]), hx1 (by simp [Op.operands]), .refl h⟩
    · rename_i hcv
      rw [hcv] at hc
      cases ho
      exact ⟨g b, ρ, w, .inl (by simp [execOp, inv_bool hc, asBool]), hx1 (by simp [Op.operands]), .refl h⟩
    · cases ho
  · exact NOk.of (oAlloc_ok h hb ho hf)
  · exact NOk.of (oBox_ok h hb ho hf (hx1 (by simp [Op.operands])))
  · rename_i t ps
    obtain ⟨h1, rfl⟩ := noM_some ho
    obtain ⟨v', h2, h3⟩ := buildM_ok h1 (evP_PR (g := g) (fun x hx => hx1 (by simpa [Op.operands] using hx))) w
    have e : (ps.map fun (i, x) => (i, g x)) = ⟨ps.toList.map fun x => (x.1, g x.2)⟩ := by apply Array.ext'; simp
    exact NOk.same (s := Instr.build t (ps.map fun (i, x) => (i, g x))) h (by rw [e]; exact h2) h3
  · rename_i t n ps
    have := buildSliceM_ok h hb ho hf (evP_PR (g := g) (fun x hx => hx1 (by simpa [Op.operands] using hx)))
    have e : (ps.map fun (i, x) => (i, g x)) = ⟨ps.toList.map fun x => (x.1, g x.2)⟩ := by apply Array.ext'; simp
    refine NOk.of (s := Instr.buildSlice t n (ps.map fun (i, x) => (i, g x))) ?_
    rw [e]; exact this
  · rename_i t x
    have hx := hx1 (x := x) (by simp [Op.operands])
    unfold oLoad at ho
    split at ho
    · rename_i a hev
      rw [hev] at hx
      obtain ⟨l, hl, hsp, hgx⟩ := inv_ptr hx
      obtain ⟨h1, rfl⟩ := noM_some ho
      obtain ⟨v', h2, h3⟩ := loadM_ok h h1 hl
      refine NOk.same (s := Instr.loadAt t (g x)) h ?_ h3
      rw [hgx]
      simpa [Instr.loadAt, Instr.sureAddr] using h2
    · cases ho
  · rename_i t x y
    have hx := hx1 (x := x) (by simp [Op.operands])
    have hy := hx1 (x := y) (by simp [Op.operands])
    unfold oStore at ho
    split at ho
    · rename_i a hev
      rw [hev] at hx
      obtain ⟨l, hl, hsp, hgx⟩ := inv_ptr hx
      obtain ⟨h1, rfl⟩ := memM_some ho
      have := storeM_ok h h1 hl hy
      refine NOk.ofU (s := Instr.storeAt t (g x) (g y)) ?_
      rw [hgx]
      obtain ⟨ρ', w', r1, r2⟩ := this
      exact ⟨ρ', w', by simpa [Instr.storeAt, Instr.sureAddr] using r1, r2⟩
    · cases ho
  · rename_i x
    have hx := hx1 (x := x) (by simp [Op.operands])
    obtain ⟨hm, h1, h2⟩ := oNil_ok ho hx
    subst hm
    refine ⟨g x, ρ, w, .inl ?_, h1, .refl h⟩
    rcases h2 with ⟨a, ha⟩ | ⟨f, a, b, ha⟩ <;> simp [execOp, ha]
  · rename_i op t x y yt
    have hx := hx1 (x := x) (by simp [Op.operands])
    have hy := hx1 (x := y) (by simp [Op.operands])
    unfold oBin at ho
    have hfin : (isEq op = true → guardM P t x y (ev fr x) (ev fr y) = true) → noM (binM P op t (ev fr x) (ev fr y)) m = some (v, m') → NOk P base ρ m w (execOp g ⟨dst, .binOp op t x y yt, ty, pos, af, gd⟩) v m' := fun hgu hn => by
      obtain ⟨h1, rfl⟩ := noM_some hn
      obtain ⟨h2, h3⟩ := binM_ok h1 hx hy w
      have hq := guard_ok hgu hx hy w
      refine NOk.same (s := do eqGuard op t x y (g x) (g y); binOp op t (g x) (g y)) h ?_ (.pure h3)
      simp [Sem.run_bind, hq, h2, Result.andThen]
    cases hop : isEq op with
    | true =>
      rw [hop] at ho
      simp only [cond_true] at ho
      obtain ⟨h1, h2⟩ := cond_some ho
      exact hfin (fun _ => h1) h2
    | false =>
      rw [hop] at ho
      simp only [cond_false] at ho
      exact hfin (fun h => by rw [hop] at h; cases h) ho
  · rename_i op t x
    obtain ⟨h1, rfl⟩ := noM_some ho
    obtain ⟨h2, h3⟩ := unM_ok (P := P) h1 (hx1 (x := x) (by simp [Op.operands])) w
    exact NOk.same (s := Op.unary op (g x)) h h2 (.pure h3)
  · exact NOk.of (convM_ok h hb ho hf (hx1 (by simp [Op.operands])))
  · exact NOk.of (oIface_ok h ho (hx1 (by simp [Op.operands])))
  · rename_i f first cap
    cases ho
    have l1 := evL_LR (ρ := ρ) (fr := fr) (g := g) (xs := first.toList) fun x hx => hx1 (by simp [Op.operands]; exact .inl (by simpa using hx))
    have l2 := evL_LR (ρ := ρ) (fr := fr) (g := g) (xs := cap.toList) fun x hx => hx1 (by simp [Op.operands]; exact .inr (by simpa using hx))
    refine ⟨.func (.func f) ⟨first.toList.map g⟩ ⟨cap.toList.map g⟩, ρ, w, .inl ?_, .func l1.1 l2.1 l1.2 l2.2, .refl h⟩
    have e1 : first.map g = ⟨first.toList.map g⟩ := by apply Array.ext'; simp
    have e2 : cap.map g = ⟨cap.toList.map g⟩ := by apply Array.ext'; simp
    simp [execOp, Instr.makeFunc, e1, e2]
  · exact NOk.of (makeSliceM_ok h hb ho hf (hx1 (by simp [Op.operands])) (hx1 (by simp [Op.operands])))
  · rename_i t x lo hi mx
    obtain ⟨h1, rfl⟩ := noM_some ho
    obtain ⟨v', h2, h3⟩ := sliceM_ok h1 (hx1 (x := x) (by simp [Op.operands])) (evO_OR (g := g) fun y hy => hx1 (by simp [Op.operands] at hy ⊢; exact .inr (.inl hy))) (evO_OR (g := g) fun y hy => hx1 (by simp [Op.operands] at hy ⊢; exact .inr (.inr (.inl hy)))) (evO_OR (g := g) fun y hy => hx1 (by simp [Op.operands] at hy ⊢; exact .inr (.inr (.inr hy)))) w
    exact NOk.same (s := Instr.sliceAt t (g x) (lo.map g) (hi.map g) (mx.map g)) h h2 h3
  · obtain ⟨h1, rfl⟩ := noM_some ho
    obtain ⟨v', h2, h3⟩ := fieldAtM_ok h1 (hx1 (by simp [Op.operands])) w
    exact NOk.same h h2 h3
  · obtain ⟨h1, rfl⟩ := noM_some ho
    obtain ⟨v', h2, h3⟩ := fieldM_ok h1 (hx1 (by simp [Op.operands])) w
    exact NOk.same h h2 h3
  · obtain ⟨h1, rfl⟩ := noM_some ho
    obtain ⟨v', h2, h3⟩ := indexAtM_ok h1 (hx1 (by simp [Op.operands])) (hx1 (by simp [Op.operands])) w
    exact NOk.same h h2 h3
  · obtain ⟨h1, rfl⟩ := noM_some ho
    obtain ⟨v', h2, h3⟩ := indexM_ok h1 (hx1 (by simp [Op.operands])) (hx1 (by simp [Op.operands])) w
    exact NOk.same h h2 h3
  · obtain ⟨hm, v', h2, h3⟩ := oExtract_ok (P := P) ho (hx1 (by simp [Op.operands])) w
    subst hm
    exact NOk.same h h2 h3
  · rename_i b xs tys
    have l1 := evL_LR (ρ := ρ) (fr := fr) (g := g) (xs := xs.toList) fun x hx => hx1 (by show x ∈ (#[] ++ xs : Array Operand).toList; simpa using hx)
    obtain ⟨ks, e2⟩ : ∃ ks, execOp g ⟨dst, .call ⟨.builtin b, xs, tys⟩, ty, pos, af, gd⟩ = builtin b tys ty ks (xs.map g) := ⟨_, rfl⟩
    obtain ⟨s, e, hs⟩ := builtinM_ok (ty := ty) (ks := ks) h hb ho hf l1
    have e1 : xs.map g = ⟨xs.toList.map g⟩ := by apply Array.ext'; simp
    rw [e2, e1]
    have e3 : tys = ⟨tys.toList⟩ := rfl
    rw [e3, e]
    exact NOk.of hs
  · cases ho
end
end Go.Sx
