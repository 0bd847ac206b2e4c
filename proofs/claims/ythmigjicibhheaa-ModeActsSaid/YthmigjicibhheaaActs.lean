/- The law ModeActs: for every input the call returns true, and the arguments read behind it as they read before. No condition. -/
import Derived.Test.YthmigjicibhheaaRows
import Derived.Test.YthmigjicibhheaaW13
import Derived.WalkKit
import Derived.ProofKit
import Derived.OpenShut
import Derived.Below
import Derived.Carry
import Derived.Lib.SmallJoins
namespace Go.Proofs.Ythmigjicibhheaa.modeActsDone
open Go.ChangeShapes Go.WideShapes Go.ChangeAt Go.RowKit Go.Eng
set_option linter.unusedVariables false
set_option linter.unusedSimpArgs false
theorem own : ownKnob Try.prog.godebug = none := by kernel_rfl
theorem laidOut : laidOutB Try.prog = true := by kernel_rfl
theorem cutcs (cs : List Value) (o k : Nat) {k2 : Nat} {a rest : List Value} (hk : k2 = k) (h1 : (cs.drop o).take k2 = a) (h2 : cs.drop (o + k) = rest) : cs.drop o = a ++ rest := by
  subst hk; rw [← h1, ← h2, ← List.drop_drop]; exact (List.take_append_drop _ _).symm
theorem cellsMd {H : Type} {enc : TypeId × Value → H} {w : World} {base : Nat} {spare : Nat → Bool} {held : Bool} {fuel : Nat} {cs : List Value} {x : DataW H × List MemPlace} (h : DataW.trod enc Try.prog w base spare held fuel 23 cs = some x) : ∃ m : Md, cs = [.bool m.ins, .bool m.nl, .bool m.ck, .bool m.inv, .bool m.org, .bool m.aut, .bool m.vis, .bool m.paste, .bool m.focus, .bool m.sync, .bool m.keypad, .int .i64 m.mouse, .bool m.sgr] := by
  obtain ⟨xs, n, _, _, hl, hlen, hf⟩ := DataW.trod_struct Try.underlying23 h
  have hlen : xs.length = 13 := hlen
  have hl : cs.length = 13 := hl.trans (by kernel_rfl)
  obtain ⟨m0, c0, _⟩ := DataW.trod_bool Try.underlying4 ((hf 0 _ rfl).trans (List.getElem?_eq_getElem (by omega)))
  obtain ⟨m1, c1, _⟩ := DataW.trod_bool Try.underlying4 ((hf 1 _ rfl).trans (List.getElem?_eq_getElem (by omega)))
  obtain ⟨m2, c2, _⟩ := DataW.trod_bool Try.underlying4 ((hf 2 _ rfl).trans (List.getElem?_eq_getElem (by omega)))
  obtain ⟨m3, c3, _⟩ := DataW.trod_bool Try.underlying4 ((hf 3 _ rfl).trans (List.getElem?_eq_getElem (by omega)))
  obtain ⟨m4, c4, _⟩ := DataW.trod_bool Try.underlying4 ((hf 4 _ rfl).trans (List.getElem?_eq_getElem (by omega)))
  obtain ⟨m5, c5, _⟩ := DataW.trod_bool Try.underlying4 ((hf 5 _ rfl).trans (List.getElem?_eq_getElem (by omega)))
  obtain ⟨m6, c6, _⟩ := DataW.trod_bool Try.underlying4 ((hf 6 _ rfl).trans (List.getElem?_eq_getElem (by omega)))
  obtain ⟨m7, c7, _⟩ := DataW.trod_bool Try.underlying4 ((hf 7 _ rfl).trans (List.getElem?_eq_getElem (by omega)))
  obtain ⟨m8, c8, _⟩ := DataW.trod_bool Try.underlying4 ((hf 8 _ rfl).trans (List.getElem?_eq_getElem (by omega)))
  obtain ⟨m9, c9, _⟩ := DataW.trod_bool Try.underlying4 ((hf 9 _ rfl).trans (List.getElem?_eq_getElem (by omega)))
  obtain ⟨m10, c10, _⟩ := DataW.trod_bool Try.underlying4 ((hf 10 _ rfl).trans (List.getElem?_eq_getElem (by omega)))
  obtain ⟨m11, c11, _, _⟩ := DataW.trod_int Try.underlying3 ((hf 11 _ rfl).trans (List.getElem?_eq_getElem (by omega)))
  obtain ⟨m12, c12, _⟩ := DataW.trod_bool Try.underlying4 ((hf 12 _ rfl).trans (List.getElem?_eq_getElem (by omega)))
  refine ⟨⟨m0, m1, m2, m3, m4, m5, m6, m7, m8, m9, m10, m11, m12⟩, ?_⟩
  have e13 : cs.drop 13 = [] := List.drop_eq_nil_of_le (Nat.le_of_eq hl)
  have e12 := cutcs cs 12 1 (by kernel_rfl) c12 e13
  have e11 := cutcs cs 11 1 (by kernel_rfl) c11 e12
  have e10 := cutcs cs 10 1 (by kernel_rfl) c10 e11
  have e9 := cutcs cs 9 1 (by kernel_rfl) c9 e10
  have e8 := cutcs cs 8 1 (by kernel_rfl) c8 e9
  have e7 := cutcs cs 7 1 (by kernel_rfl) c7 e8
  have e6 := cutcs cs 6 1 (by kernel_rfl) c6 e7
  have e5 := cutcs cs 5 1 (by kernel_rfl) c5 e6
  have e4 := cutcs cs 4 1 (by kernel_rfl) c4 e5
  have e3 := cutcs cs 3 1 (by kernel_rfl) c3 e4
  have e2 := cutcs cs 2 1 (by kernel_rfl) c2 e3
  have e1 := cutcs cs 1 1 (by kernel_rfl) c1 e2
  have e0 := cutcs cs 0 1 (by kernel_rfl) c0 e1
  exact e0
theorem openMd {H : Type} {enc : TypeId × Value → H} {w : World} {r : Reach} {b0 base : Nat} {spare : Nat → Bool} {held : Bool} {v : Value} {d : DataW H} {p : List MemPlace} (hv : Value.okWide Try.prog w r b0 23 v) (h : DataW.Trod enc Try.prog w base spare held 23 v d p) : ∃ m : Md, v = .agg (List.toArray [.bool m.ins, .bool m.nl, .bool m.ck, .bool m.inv, .bool m.org, .bool m.aut, .bool m.vis, .bool m.paste, .bool m.focus, .bool m.sync, .bool m.keypad, .int .i64 m.mouse, .bool m.sgr]) := by
  obtain ⟨cs, rfl, _⟩ := okWide_struct Try.underlying23 hv
  obtain ⟨fuel, hf⟩ := h
  obtain ⟨m, e⟩ := cellsMd hf
  obtain ⟨l⟩ := cs
  exact ⟨m, congrArg (fun l => Value.agg (List.toArray l)) e⟩

set_option maxRecDepth 100000 in
set_option maxHeartbeats 4000000 in
theorem lifted (os : Os) (started : os.Started) (H : Type) (enc : TypeId × Value → H) :
    ReturnsInHanded {} Try.checked os 5 .any (Rows.modeActsSpec.pre6 enc Try.prog Try.f5 Rows.modeActsRow.domain false) (Rows.modeActsSpec.post enc Try.prog Try.f5 false true false false) := by
  refine returnsInHanded_of_change (C := Try.checked) own started (by kernel_rfl) Try.func5
    (ChangeSpec.witness6 (enc := enc) (C := Try.checked) false ⟨#[], #[.agg #[.bool false, .bool false, .bool false, .bool false, .bool false, .bool false, .bool false, .bool false, .bool false, .bool false, .bool false, .int .i64 0, .bool false], .int .u16 0], []⟩ 8 (by kernel_rfl) (by kernel_rfl) (by kernel_rfl) (by kernel_rfl)) ?_
  intro W base args ds gs before hval0 hW hcnd _
  have hval : ∀ (j : Nat) t v, Try.f5.params[j]? = some t → args[j]? = some v → Value.okWide Try.prog W .any base t v := hval0
  have hW' := hW
  obtain ⟨p, q, hA0, hV, rfl, hfz, hnd⟩ := hW
  have hA : DataW.TrodAll enc Try.prog W 0 (fun _ => true) true Try.f5.params.toList args.toList ds p := hA0
  rw [Try.params5] at hA hval
  obtain ⟨v0, vs0, d0, ds0, p0, q0, hargs, rfl, rfl, h0, r0⟩ := trodAll_cons hA
  obtain ⟨v1, vs1, d1, ds1, p1, q1, rfl, rfl, rfl, h1, r1⟩ := trodAll_cons r0
  obtain ⟨rfl, rfl, rfl⟩ := trodAll_nil r1
  obtain rfl : args = #[v0, v1] := by cases args; simp_all
  obtain ⟨rfl, rfl⟩ := trodVars_none hV
  have k0 := h0
  have lt0 : ∀ x ∈ p0, x.block < W.heap.size := by obtain ⟨m, hm⟩ := k0; exact DataW.trod_lt m _ _ _ hm
  obtain ⟨a0, rfl⟩ := openMd (hval 0 23 v0 rfl rfl) h0
  obtain ⟨a1, rfl, rfl, rfl, w1⟩ := open_int Try.underlying24 (hval 1 24 v1 rfl rfl) h1
  have b1 : 0 ≤ a1 ∧ a1 ≤ 65535 := by have h := w1; simp only [Lit.wf, Bool.and_eq_true, decide_eq_true_eq] at h; exact ⟨h.1, h.2⟩
  clear hA0 hval0
  simp only [List.append_nil] at hW'
  have hc := modeActs_c a0 a1 W b1
  refine hc.mono fun e W' ⟨he, kp⟩ => ?_
  have bel := kp.below
  subst he
  exact ⟨_, rfl, _, _, _, [], _, [], hW', trodAll_mk1 (shut_bool Try.underlying4 _), (trodAll_cons_mk (Below.trod laidOut (by kernel_rfl) (of_decide_eq_true (by kernel_rfl)) k0 bel lt0) (trodAll_cons_mk (shut_int Try.underlying24 w1) trodAll_mk0)), rfl, bel.frame _, fun h => by cases h⟩
theorem over : Rows.modeActsRow.holds Try.pinned (OpenSpec.ofChange Rows.modeActsSpec) :=
  OpenClaim.holds_of_wide 5 Try.f5 rfl rfl rfl rfl rfl rfl rfl ⟨rfl, rfl, rfl, rfl, rfl⟩ rfl rfl rfl rfl rfl (by kernel_rfl) Try.func5 (by kernel_rfl)
    (of_decide_eq_true (by kernel_rfl)) (by unfold Func.isWrapper; first | (rw [if_pos (by decide +kernel)]; kernel_rfl) | (rw [if_neg (by decide +kernel)]; exact ⟨rfl, rfl⟩))
    (fun os started H enc _ => lifted os started H enc)
/-- The statement. -/
theorem proved : Rows.ModeActsSaid := over
#print axioms proved
end Go.Proofs.Ythmigjicibhheaa.modeActsDone
