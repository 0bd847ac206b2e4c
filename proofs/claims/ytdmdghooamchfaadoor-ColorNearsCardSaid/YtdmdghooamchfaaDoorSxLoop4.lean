/- Loops taken by what is shown of their round, part 4: the loop. -/
import Derived.Test.YtdmdghooamchfaaDoorSxLoop3
namespace Go.Sx
set_option linter.all false
open Go
set_option linter.unusedVariables false
set_option linter.unusedSimpArgs false

theorem sortB_cases {gl : Nat} {nm : List Nat} {b : Nat} (h : sortB gl nm b = true) : b < gl ∨ b ∈ nm := by
  unfold sortB at h
  rcases (Bool.or_eq_true _ _).mp h with h1 | h1
  · exact .inl (Nat.le_of_ble_eq_true h1)
  · unfold hasN at h1
    rw [List.any_eq_true] at h1
    obtain ⟨y, hy, h1⟩ := h1
    rw [Nat.eq_of_beq_eq_true h1]; exact .inr hy
theorem mem_nms {bl : Blks} {b : Nat} (h : b ∈ nms bl) : ∃ x ∈ bl, x.1 = b := by
  obtain ⟨x, h1, h2⟩ := List.mem_map.1 h
  exact ⟨x, h1, h2⟩

/-- What is fixed while the loop goes round. -/
structure Ring (P : Program) (G : Nat → Option Obj) (base gl n0 nB nt : Nat) (H0 : Hp AB) (L : LoopD) (w : World) (ρ ρ2 : Ren) : Prop where
  ok : L.ok gl n0 nB nt = true
  gln : gl ≤ n0
  bs : base ≤ w.heap.size
  gf : ∀ k o, G k = some o → k < base ∧ w.heap[k]? = some o
  old : ∀ b ∈ nms L.hb, ∃ l, ρ b = some l ∧ base ≤ l.blk ∧ l.blk < w.heap.size
  inj : ∀ b ∈ nms L.hb, ∀ b2 ∈ nms L.hb, ∀ l l2, ρ b = some l → ρ b2 = some l2 → l2.blk = l.blk → b2 = b
  on : ∀ b ∈ nms L.hb, ρ2 b = ρ b
  gr : ∀ g, g < gl → ρ g = some ⟨g, 0, 0⟩
  gr2 : ∀ g, g < gl → ρ2 g = some ⟨g, 0, 0⟩
  out : ∀ b, b ∉ nms L.hb → n0 ≤ b → ρ2 b = none
  h0 : ∀ (E : Nat → U) (base : Nat), @HR ⟨E, G⟩ P base ρ2 H0 w
  inG : ∀ b l, b ∉ nms L.hb → ρ2 b = some l → ∃ o, G l.blk = some o
  ro : ∀ id ab, id ≤ most → Hp.get H0 id = some ab → ab.rw = false

/-- A world that comes of w while nothing but the loop's blocks turns. -/
structure Kp (L : LoopD) (ρ : Ren) (w w' : World) : Prop where
  os : w'.os = w.os ∧ w'.tape = w.tape ∧ w'.output = w.output
  size : w.heap.size ≤ w'.heap.size
  keep : ∀ k, k < w.heap.size → (∀ b ∈ nms L.hb, ∀ l, ρ b = some l → l.blk ≠ k) → w'.heap[k]? = w.heap[k]?
theorem Kp.refl {L : LoopD} {ρ : Ren} {w : World} : Kp L ρ w w := ⟨⟨rfl, rfl, rfl⟩, Nat.le_refl _, fun _ _ _ => rfl⟩

section
variable {P : Program} {G : Nat → Option Obj} {base gl n0 nB nt : Nat} {H0 : Hp AB} {L : LoopD} {w : World} {ρ ρ2 : Ren}

theorem Ring.parts (g : Ring P G base gl n0 nB nt H0 L w ρ ρ2) : nt ≤ 512 ∧ n0 ≤ nB ∧ nB ≤ most ∧ (∀ b ∈ nms L.hb, n0 ≤ b ∧ b < nB) ∧ patOk gl nt (nms L.hb) L.hs L.hb = true ∧ ∀ X ∈ L.xs, patOk gl nt (nms L.hb) X.sl X.bl = true ∧ nms X.bl = nms L.hb := by
  obtain ⟨h1, h2⟩ := band g.ok
  obtain ⟨h1, h3⟩ := band h1
  obtain ⟨h1, h4⟩ := band h1
  obtain ⟨h3, h5⟩ := band h3
  obtain ⟨h2, h6⟩ := band h2
  refine ⟨Nat.le_of_ble_eq_true h1, Nat.le_of_ble_eq_true h4, Nat.le_of_ble_eq_true h3, fun b hb => ?_, h2, fun X hX => ?_⟩
  · obtain ⟨q1, q2⟩ := band (List.all_eq_true.1 h5 b hb)
    exact ⟨Nat.le_of_ble_eq_true q1, Nat.le_of_ble_eq_true q2⟩
  · obtain ⟨q1, q2⟩ := band (List.all_eq_true.1 h6 X hX)
    exact ⟨q1, of_decide_eq_true q2⟩
theorem Ring.most (g : Ring P G base gl n0 nB nt H0 L w ρ ρ2) : ∀ b ∈ nms L.hb, b ≤ most := fun b hb => by
  obtain ⟨_, _, h3, h4, _⟩ := g.parts
  have := (h4 b hb).2
  omega
theorem Ring.s12 (g : Ring P G base gl n0 nB nt H0 L w ρ ρ2) : ∀ b l, sortB gl (nms L.hb) b = true → ρ b = some l → ρ2 b = some l := fun b l hs hl => by
  rcases sortB_cases hs with h | h
  · rw [g.gr b h] at hl; rw [g.gr2 b h]; exact hl
  · rw [g.on b h]; exact hl
theorem Ring.s21 (g : Ring P G base gl n0 nB nt H0 L w ρ ρ2) : ∀ b l, sortB gl (nms L.hb) b = true → ρ2 b = some l → ρ b = some l := fun b l hs hl => by
  rcases sortB_cases hs with h | h
  · rw [g.gr2 b h] at hl; rw [g.gr b h]; exact hl
  · rw [g.on b h] at hl; exact hl
theorem Ring.dom (g : Ring P G base gl n0 nB nt H0 L w ρ ρ2) : ∀ b, sortB gl (nms L.hb) b = true → ∃ l, ρ2 b = some l := fun b hs => by
  rcases sortB_cases hs with h | h
  · exact ⟨_, g.gr2 b h⟩
  · obtain ⟨l, h1, _⟩ := g.old b h; exact ⟨l, by rw [g.on b h]; exact h1⟩
/-- What G holds stands in each of the worlds. -/
theorem Ring.held (g : Ring P G base gl n0 nB nt H0 L w ρ ρ2) {w1 : World} (kp : Kp L ρ w w1) {k : Nat} {o : Obj} (hk : G k = some o) : k < base ∧ w1.heap[k]? = some o ∧ w1.heap[k]? = w.heap[k]? := by
  obtain ⟨h1, h2⟩ := g.gf k o hk
  have h3 := kp.keep k (Nat.lt_of_lt_of_le h1 g.bs) fun b hb l hl e => by
    obtain ⟨l0, q1, q2, _⟩ := g.old b hb
    rw [hl] at q1
    have := Option.some.inj q1; subst this
    omega
  exact ⟨h1, h3.trans h2, h3⟩
theorem Ring.lookB (g : Ring P G base gl n0 nB nt H0 L w ρ ρ2) {bl : Blks} (hn : nms bl = nms L.hb) {id : Nat} : (∃ p, lookB bl id = some p ∧ id ∈ nms L.hb ∧ (id, p) ∈ bl) ∨ (lookB bl id = none ∧ id ∉ nms L.hb) := by
  cases h : Go.Sx.lookB bl id with
  | some p =>
    have := lookB_mem h
    exact .inl ⟨p, rfl, by rw [← hn]; exact List.mem_map.2 ⟨_, this, rfl⟩, this⟩
  | none => exact .inr ⟨rfl, by rw [← hn]; exact lookB_none h⟩

/-- The heap at the head. -/
theorem Ring.hr (g : Ring P G base gl n0 nB nt H0 L w ρ ρ2) {w1 : World} (kp : Kp L ρ w w1) {us : List U} {a : Act} (hd : HeadAt P G nt ρ2 L.hs L.hb us a w1) {F : Nat → U} (hF : Agree us F) : @HR ⟨F, G⟩ P base ρ2 (putB 0 L.hb H0) w1 := by
  letI O : Ora := ⟨F, G⟩
  obtain ⟨_, _, _, _, hpat, _⟩ := g.parts
  have hget := fun id hid => putB_get (nx := 0) (H := H0) (bl := L.hb) (fun x hx => g.most x.1 (List.mem_map.2 ⟨x, hx, rfl⟩)) id hid
  have hdom : ∀ b l, ρ2 b = some l → b ≤ Go.Sx.most ∧ l.blk < w1.heap.size := fun b l hb => by
    have := (g.h0 F base).dom b l hb
    exact ⟨this.1, Nat.lt_of_lt_of_le this.2 kp.size⟩
  refine ⟨hdom, fun id hid ab hab => ?_⟩
  rw [hget id hid] at hab
  rcases g.lookB (bl := L.hb) rfl (id := id) with ⟨⟨T, cs⟩, h1, h2, h3⟩ | ⟨h1, h2⟩
  · rw [h1] at hab
    cases hab
    obtain ⟨l, e1, e2⟩ := hd.bl F hF _ h3
    have e1 : ρ2 id = some l := e1
    refine ⟨l, e1, BR_shift (E := F) (F := F) (ρ := ρ2) (S := sortB gl (nms L.hb)) (fun _ _ _ h => h) (fun i => by rw [Nat.zero_add]) e2 (patOk_bl hpat _ h3), fun _ => ?_⟩
    obtain ⟨l0, f1, f2, f3⟩ := g.old id h2
    rw [← g.on id h2, e1] at f1
    have := Option.some.inj f1; subst this
    refine ⟨f2, fun id2 hid2 ab2 l2 q1 q2 q3 => ?_⟩
    by_cases hm : id2 ∈ nms L.hb
    · exact g.inj id h2 id2 hm l l2 (by rw [← g.on id h2]; exact e1) (by rw [← g.on id2 hm]; exact q2) q3
    · obtain ⟨o, ho⟩ := g.inG id2 l2 hm q2
      have := (g.gf l2.blk o ho).1
      omega
  · rw [h1] at hab
    obtain ⟨l, e1, e2, _⟩ := (g.h0 F base).at_ id hid ab hab
    obtain ⟨o, ho⟩ := g.inG id l h2 e1
    exact ⟨l, e1, e2.mono (fun _ _ h => h) (g.held kp ho).2.2, fun hrw => by rw [g.ro id ab hid hab] at hrw; cases hrw⟩

/-- The machine's state at the head. -/
theorem Ring.start (g : Ring P G base gl n0 nB nt H0 L w ρ ρ2) {w1 : World} (kp : Kp L ρ w w1) {us : List U} {a : Act} (hd : HeadAt P G nt ρ2 L.hs L.hb us a w1) {F : Nat → U} (hF : Agree us F) (pi : List Nat) (hi : Nat) :
    @At ⟨F, G⟩ P base gl ρ2 (memB L H0 nB pi) hi w1 ∧ @FrR ⟨F, G⟩ ρ2 nt (frOf 0 L.hs) a := by
  letI O : Ora := ⟨F, G⟩
  obtain ⟨q1, q2, q3, q4, q5, _⟩ := g.parts
  refine ⟨⟨g.hr kp hd hF, Nat.le_trans g.bs kp.size, fun b h1 _ => ?_, g.gr2, Nat.le_refl _, fun b hb => (by cases hb), fun k o hk => ⟨(g.held kp hk).1, (g.held kp hk).2.1⟩⟩, hd.size, q1, hd.defers, fun t ht => ?_⟩
  · have h1 : nB ≤ b := h1
    refine g.out b (fun hm => ?_) (by omega)
    have := (q4 b hm).2
    omega
  · rw [frOf_get (fun x hx => Nat.lt_of_lt_of_le (patOk_sl q5 x hx).1 q1) t (by omega)]
    cases hl : lookS L.hs t with
    | none => exact .junk (fun h => by cases h)
    | some p =>
      have hm := lookS_mem hl
      exact shiftV_VR (G := G) (E := F) (F := F) (S := sortB gl (nms L.hb)) (fun _ _ _ h => h) (fun i => by rw [Nat.zero_add]) DEP p _ (patOk_sl q5 _ hm).2 (hd.fr F hF _ hm)

theorem Ring.kp (g : Ring P G base gl n0 nB nt H0 L w ρ ρ2) {w1 w2 : World} (kp : Kp L ρ w w1) {F : Nat → U} {m1 m2 : Mem} {ρ' : Ren} (st : @St ⟨F, G⟩ P base ρ2 ρ' m1 m2 w1 w2) (hW : ∀ b ∈ m2.W, b ∈ nms L.hb ∨ nB ≤ b) : Kp L ρ w w2 := by
  letI O : Ora := ⟨F, G⟩
  obtain ⟨q1, q2, q3, q4, q5, _⟩ := g.parts
  refine ⟨⟨st.os.1.trans kp.os.1, st.os.2.1.trans kp.os.2.1, st.os.2.2.trans kp.os.2.2⟩, Nat.le_trans kp.size st.size, fun k hk hb => ?_⟩
  rw [st.keep k (Nat.lt_of_lt_of_le hk kp.size) fun b hbW l hl => ?_]
  · exact kp.keep k hk hb
  · by_cases hm : b ∈ nms L.hb
    · exact hb b hm l (by rw [← g.on b hm]; exact hl)
    · rcases hW b hbW with h | h
      · exact absurd h hm
      · rw [g.out b hm (by omega)] at hl; cases hl

/-- Behind a round: what the patterns met. -/
theorem Ring.next (g : Ring P G base gl n0 nB nt H0 L w ρ ρ2) {F : Nat → U} {ρ' : Ren} {s : S} {m1 : Mem} {a : Act} {w1 w2 : World} {sl : Slots} {bl : Blks} {xs : List Value} (hp : patOk gl nt (nms L.hb) sl bl = true) (hn : nms bl = nms L.hb)
    (hf : @FrR ⟨F, G⟩ ρ' nt s.fr a) (st : @St ⟨F, G⟩ P base ρ2 ρ' m1 s.m w1 w2) (hb : bindH s.fr s.m.H sl bl = some xs) : HeadAt P G nt ρ2 sl bl (xs.map (argU F)) a w2 := by
  letI O : Ora := ⟨F, G⟩
  refine head_of (E := F) (ρ := ρ') (fun b l hs hl => ?_) hp hn hf st.hr g.most hb
  obtain ⟨l0, h0⟩ := g.dom b hs
  have := st.ext b l0 h0
  rw [hl] at this
  have := Option.some.inj this; subst this
  exact h0

/-- Behind the loop: the machine's state. -/
theorem Ring.fin (g : Ring P G base gl n0 nB nt H0 L w ρ ρ2) {E : Nat → U} {m : Mem} {X : LoopX} {outs : List U} {a : Act} {w2 : World} {lg : Lg} (hX : X ∈ L.xs) (hr : @HR ⟨E, G⟩ P base ρ m.H w) (hin : ∀ x ∈ L.hb, ∃ vs, Hp.get m.H x.1 = some (.cells vs x.2.1 false)) (kp : Kp L ρ w w2)
    (hd : HeadAt P G nt ρ2 X.sl X.bl outs a w2) {nx : Nat} (hE : ∀ j u, outs[j]? = some u → E (nx + j) = u) :
    @FrR ⟨E, G⟩ ρ nt (frOf nx X.sl) a ∧ @St ⟨E, G⟩ P base ρ ρ m ⟨putB nx X.bl m.H, m.n, nms X.bl ++ m.W, m.hi, lg⟩ w w2 := by
  letI O : Ora := ⟨E, G⟩
  obtain ⟨q1, q2, q3, q4, q5, q6⟩ := g.parts
  obtain ⟨q7, q8⟩ := q6 X hX
  have hag : Agree outs fun j => E (nx + j) := fun j u hj => hE j u hj
  have hin' : ∀ b ∈ nms L.hb, ∃ T vs l, Hp.get m.H b = some (.cells vs T false) ∧ ρ b = some l ∧ ∀ id2, id2 ≤ Go.Sx.most → ∀ ab2 l2, Hp.get m.H id2 = some ab2 → ρ id2 = some l2 → l2.blk = l.blk → id2 = b := fun b hb => by
    obtain ⟨x, hx, rfl⟩ := mem_nms hb
    obtain ⟨vs, hv⟩ := hin x hx
    obtain ⟨l, e1, _, e3⟩ := hr.at_ x.1 (g.most x.1 hb) _ hv
    exact ⟨_, vs, l, hv, e1, (e3 rfl).2⟩
  have hget := fun id hid => putB_get (nx := nx) (H := m.H) (bl := X.bl) (fun x hx => g.most x.1 (by rw [← q8]; exact List.mem_map.2 ⟨x, hx, rfl⟩)) id hid
  have horig : ∀ id ab, id ≤ Go.Sx.most → Hp.get (putB nx X.bl m.H) id = some ab → ∃ ab0, Hp.get m.H id = some ab0 := fun id ab hid hab => by
    rw [hget id hid] at hab
    rcases g.lookB q8 (id := id) with ⟨p, h1, h2, h3⟩ | ⟨h1, h2⟩
    · obtain ⟨T, vs, l, e1, _⟩ := hin' id h2; exact ⟨_, e1⟩
    · rw [h1] at hab; exact ⟨ab, hab⟩
  refine ⟨⟨hd.size, q1, hd.defers, fun t ht => ?_⟩, fun _ _ h => h, fun b l h1 h2 => (by rw [h1] at h2; cases h2), Nat.le_refl _, Nat.le_refl _, fun h => h, ⟨fun b l hb => ⟨(hr.dom b l hb).1, Nat.lt_of_lt_of_le (hr.dom b l hb).2 kp.size⟩, fun id hid ab hab => ?_⟩,
    fun b hb => List.mem_append.2 (.inr hb), fun b h1 h2 l hl => ?_, fun k hk hb => kp.keep k hk fun b hb2 l hl => hb b (List.mem_append.2 (.inl (by rw [q8]; exact hb2))) l hl, kp.size, kp.os, fun b l h1 h2 => (by rw [h1] at h2; cases h2), fun id hid h1 h2 => ?_⟩
  · rw [frOf_get (fun x hx => Nat.lt_of_lt_of_le (patOk_sl q7 x hx).1 q1) t (by omega)]
    cases hl : lookS X.sl t with
    | none => exact .junk (fun h => by cases h)
    | some p =>
      have hm := lookS_mem hl
      exact shiftV_VR (G := G) (E := E) (F := fun j => E (nx + j)) (S := sortB gl (nms L.hb)) g.s21 (fun i => rfl) DEP p _ (patOk_sl q7 _ hm).2 (hd.fr _ hag _ hm)
  · have hab0 := hab
    rw [hget id hid] at hab
    rcases g.lookB q8 (id := id) with ⟨⟨T, cs⟩, h1, h2, h3⟩ | ⟨h1, h2⟩
    · rw [h1] at hab
      cases hab
      obtain ⟨l, e1, e2⟩ := hd.bl _ hag _ h3
      have e1 : ρ2 id = some l := e1
      rw [g.on id h2] at e1
      obtain ⟨T0, vs, l0, f1, f2, f3⟩ := hin' id h2
      rw [e1] at f2
      have := Option.some.inj f2; subst this
      obtain ⟨l1, g1, g2, _⟩ := g.old id h2
      rw [e1] at g1
      have := Option.some.inj g1; subst this
      refine ⟨l, e1, BR_shift (E := E) (F := fun j => E (nx + j)) (S := sortB gl (nms L.hb)) g.s21 (fun i => rfl) e2 (patOk_bl q7 _ h3), fun _ => ⟨g2, fun id2 hid2 ab2 l2 r1 r2 r3 => ?_⟩⟩
      obtain ⟨ab3, r4⟩ := horig id2 ab2 hid2 r1
      exact f3 id2 hid2 ab3 l2 r4 r2 r3
    · rw [h1] at hab
      obtain ⟨l, e1, e2, e3⟩ := hr.at_ id hid ab hab
      refine ⟨l, e1, e2.mono (fun _ _ h => h) (kp.keep l.blk (hr.dom id l e1).2 fun b hb lb hlb heq => ?_), fun hrw => ⟨(e3 hrw).1, fun id2 hid2 ab2 l2 r1 r2 r3 => ?_⟩⟩
      · obtain ⟨T, vs, l0, f1, f2, f3⟩ := hin' b hb
        rw [hlb] at f2
        have := Option.some.inj f2; subst this
        have := f3 id hid ab l hab e1 heq.symm
        subst this
        exact h2 hb
      · obtain ⟨ab3, r4⟩ := horig id2 ab2 hid2 r1
        exact (e3 hrw).2 id2 hid2 ab3 l2 r4 r2 r3
  · rcases List.mem_append.1 h1 with h | h
    · rw [q8] at h
      obtain ⟨T, vs, l0, f1, _⟩ := hin' b h
      exact ⟨_, f1, rfl⟩
    · exact absurd h h2
  · show Hp.get (putB nx X.bl m.H) id = _
    rw [hget id hid]
    rcases g.lookB q8 (id := id) with ⟨p, e1, e2, e3⟩ | ⟨e1, e2⟩
    · exact absurd (List.mem_append.2 (.inl (by rw [q8]; exact e2))) h1
    · rw [e1]
end

/-- The loop. -/
theorem loop_ok {C : Cx} {G : Nat → Option Obj} {n0 nB : Nat} {H0 : Hp AB} {dep : Nat} {f : FuncId} {fn : Func} {body x : Code} {q : List Bool} {L : LoopD} {spec : Spec} (μ : List U → Nat) (t : Tr)
    (hC : CxG C G) (hst : StartOk C.P G C.gl H0 n0) (hf : C.P.funcs[f]? = some fn) (hbody : fn.body = some body) (hx : codeAt q body = some (.loop x)) (hok : L.ok C.gl n0 nB fn.ntmps = true)
    (hwf : t.wf L.k = true) (hchk : (t.paths [] [] L.k).map (fun p => runB C dep f fn.ntmps q x L H0 nB p.1) = (t.paths [] [] L.k).map (fun p => some p.2))
    (hsat : ∀ us d outs, spec us = some (d, outs) → us.length = L.k ∧ t.sat (LeafOk spec μ us) us) : ∀ (E : Nat → U) (base : Nat), @CodeOk ⟨E, G⟩ C.P base C.gl fn.ntmps (.loop x) (loopF L spec) := by
  intro E base
  letI O : Ora := ⟨E, G⟩
  refine ⟨fun s s' e h => ?_, fun ρ s s' e a w Q h hS hat hfr hQ => ?_⟩
  · obtain ⟨xs, d, X, pi, h1, h2, rfl, rfl⟩ := loopF_eq h
    exact ⟨Nat.le_refl _, [_], rfl⟩
  obtain ⟨xs, d, X, pi, h1, h2, rfl, rfl⟩ := loopF_eq h
  obtain ⟨outs, e1, e2, e3⟩ := hS (.con spec xs s.m.lg.nx d X.n) List.mem_cons_self
  obtain ⟨ρs, hsa⟩ := hst w fun k o hk => (hat.gf k o hk).2
  have hbs := bindH_eq h1
  obtain ⟨bs, _, _, hbl⟩ := hbs
  -- names
  have hnb := L.ok C.gl n0 nB fn.ntmps
  obtain ⟨ρ2, hρ2⟩ : ∃ ρ2 : Ren, ρ2 = fun b => if b ∈ nms L.hb then ρ b else ρs b := ⟨_, rfl⟩
  have hpre : (∀ b ∈ nms L.hb, n0 ≤ b ∧ b < nB) ∧ nB ≤ most := by
    obtain ⟨k1, k2⟩ := band hok
    obtain ⟨_, k3⟩ := band k1
    obtain ⟨k3, k5⟩ := band k3
    refine ⟨fun b hb => ?_, Nat.le_of_ble_eq_true k3⟩
    obtain ⟨j1, j2⟩ := band (List.all_eq_true.1 k5 b hb)
    exact ⟨Nat.le_of_ble_eq_true j1, Nat.le_of_ble_eq_true j2⟩
  have hat' : ∀ b ∈ nms L.hb, ∃ T vs l, Hp.get s.m.H b = some (.cells vs T false) ∧ ρ b = some l ∧ base ≤ l.blk ∧ ∀ id2, id2 ≤ most → ∀ ab2 l2, Hp.get s.m.H id2 = some ab2 → ρ id2 = some l2 → l2.blk = l.blk → id2 = b := fun b hb => by
    obtain ⟨y, hy, rfl⟩ := mem_nms hb
    obtain ⟨vs, c, k1, _⟩ := hbl y hy
    obtain ⟨l, j1, _, j3⟩ := hat.hr.at_ y.1 (by have := (hpre.1 _ hb).2; have := hpre.2; omega) _ k1
    exact ⟨_, vs, l, k1, j1, (j3 rfl).1, (j3 rfl).2⟩
  have hdom0 : ∀ b l, ρ b = some l → b ≤ most ∧ l.blk < w.heap.size := hat.hr.dom
  have hs0 : ∀ b ∈ nms L.hb, ρs b = none := fun b hb => hsa.out b (hpre.1 b hb).1
  have g : Ring C.P G base C.gl n0 nB fn.ntmps H0 L w ρ ρ2 := by
    refine ⟨hok, hsa.gln, hat.bs, hat.gf, fun b hb => ?_, fun b hb b2 hb2 l l2 k1 k2 k3 => ?_, fun b hb => by rw [hρ2]; simp [hb], hat.gr, fun b hb => ?_, fun b hb k => ?_, fun E base => ?_, fun b l hb k => ?_, hsa.ro⟩
    · obtain ⟨T, vs, l, _, k2, k3, _⟩ := hat' b hb
      exact ⟨l, k2, k3, (hat.hr.dom b l k2).2⟩
    · obtain ⟨T, vs, l0, _, j2, _, j4⟩ := hat' b hb
      rw [k1] at j2
      have := Option.some.inj j2; subst this
      obtain ⟨T2, vs2, l3, i1, _⟩ := hat' b2 hb2
      exact j4 b2 (by have := (hpre.1 _ hb2).2; have := hpre.2; omega) _ l2 i1 k2 k3
    · have : b ∉ nms L.hb := fun hm => by have := (hpre.1 b hm).1; have := hsa.gln; omega
      rw [hρ2]; simp only [this, if_false]; exact hsa.gr b hb
    · rw [hρ2]; simp only [hb, if_false]; exact hsa.out b k
    · have hr := hsa.hr E base
      have hext : ∀ b l, ρs b = some l → ρ2 b = some l := fun b l hb => by
        have : b ∉ nms L.hb := fun hm => by rw [hs0 b hm] at hb; cases hb
        rw [hρ2]; simp only [this, if_false]; exact hb
      letI O2 : Ora := ⟨E, G⟩
      refine ⟨fun b l hb => ?_, fun id hid ab hab => ?_⟩
      · by_cases hm : b ∈ nms L.hb
        · rw [hρ2] at hb; simp only [hm, if_true] at hb
          exact hdom0 b l hb
        · rw [hρ2] at hb; simp only [hm, if_false] at hb
          exact hr.dom b l hb
      · obtain ⟨l, j1, j2, j3⟩ := hr.at_ id hid ab hab
        exact ⟨l, hext _ _ j1, j2.mono hext rfl, fun hrw => by rw [hsa.ro id ab hid hab] at hrw; cases hrw⟩
    · rw [hρ2] at k; simp only [hb, if_false] at k; exact hsa.inG b l k
  obtain ⟨q1, q2, q3, q4, q5, q6⟩ := g.parts
  have hXm : X ∈ L.xs := List.mem_of_getElem? h2
  have hhead : HeadAt C.P G fn.ntmps ρ2 L.hs L.hb (xs.map (argU E)) a w := head_of (E := E) g.s12 q5 rfl hfr hat.hr g.most h1
  have hin : ∀ y ∈ L.hb, ∃ vs, Hp.get s.m.H y.1 = some (.cells vs y.2.1 false) := fun y hy => by
    obtain ⟨vs, c, k1, _⟩ := hbl y hy; exact ⟨vs, k1⟩
  have hend : ∀ (a2 : Act) (w2 : World), HeadAt C.P G fn.ntmps ρ2 X.sl X.bl outs a2 w2 → Kp L ρ w w2 → Q X.ex.out a2 w2 := fun a2 w2 hd kp => by
    obtain ⟨f1, f2⟩ := g.fin (E := E) (m := s.m) (lg := ⟨s.m.lg.nx + X.n, pi, .con spec xs s.m.lg.nx d X.n :: s.m.lg.log⟩) hXm hat.hr hin kp hd e3
    exact hQ ρ a2 w2 f1 f2
  -- round by round
  have main : ∀ (N : Nat) (us : List U) (a1 : Act) (w1 : World), μ us < N → spec us = some (d, outs) → HeadAt C.P G fn.ntmps ρ2 L.hs L.hb us a1 w1 → Kp L ρ w w1 → Code.rounds C.P x Q N a1 w1 := by
    intro N
    induction N with
    | zero => intro us a1 w1 h; omega
    | succ N ih =>
      intro us a1 w1 hμ hsp hd kp
      show x.wp C.P (Exit.then (Code.rounds C.P x Q N) Q) a1 w1
      obtain ⟨hlen, hs⟩ := hsat us d outs hsp
      have hwf' := hwf
      have hchk' := hchk
      rw [← hlen] at hwf' hchk'
      obtain ⟨p, hp, F, f1, f2, f3⟩ := sat_path t us [] [] hwf' hs (fun F _ e he => by cases he)
      have hrun : runB C dep f fn.ntmps q x L H0 nB p.1 = some p.2 := List.map_inj_left.1 hchk' p hp
      obtain ⟨e1', s1, r1, r2, r3, r4⟩ := endB_eq (ys := p.2.1) (log := p.2.2) hrun
      letI O3 : Ora := ⟨F, G⟩
      have hcx := hC F base
      have hfn := fun f => callN_ok hcx dep f
      obtain ⟨hat1, hfr1⟩ := g.start kp hd f1 p.1 s1.m.hi
      refine code_ok hfn (hcx.draws _ hfn) (hcx.lp f fn body hf hbody) x (q ++ [false]) (codeAt_snoc hx rfl) ρ2 ⟨frOf 0 L.hs, memB L H0 nB p.1⟩ s1 e1' a1 w1 _ r1 (by show SatL F s1.m.lg.log; rw [r2]; exact f2) hat1 hfr1 fun ρ' a' w' g1 st1 => ?_
      have kp' := g.kp kp st1 r3
      rcases r4 with ⟨rfl, ys, hy, hb⟩ | ⟨hne, d2, ys, X2, hy, hX2, rfl, hb⟩
      · rw [hy] at f3
        obtain ⟨k1, _⟩ := f3
        obtain ⟨k1, k2⟩ := k1 rfl
        exact ih _ a' w' (by omega) (k1.trans hsp) (g.next q5 rfl g1 st1 hb) kp'
      · rw [hy] at f3
        obtain ⟨_, k2⟩ := f3
        have k2 := k2 (by simp)
        rw [hsp] at k2
        simp only [Int.ofNat_eq_natCast, Int.toNat_natCast, Option.some.injEq, Prod.mk.injEq] at k2
        obtain ⟨rfl, k3⟩ := k2
        rw [h2] at hX2
        cases hX2
        obtain ⟨j1, j2⟩ := q6 X hXm
        have hd2 := g.next j1 j2 g1 st1 hb
        have := hend a' w' (by rw [k3]; exact hd2) kp'
        cases hex : X.ex with
        | normal => exact absurd hex hne
        | exit j => rw [hex] at this; exact this
        | ret => rw [hex] at this; exact this
  exact wp_loop_rounds (μ (xs.map (argU E)) + 1) (main _ _ a w (Nat.lt_succ_self _) e1 hhead Kp.refl)
end Go.Sx
