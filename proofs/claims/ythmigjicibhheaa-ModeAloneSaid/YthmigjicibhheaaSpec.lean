/- What the functions of the chapter on modes come to, as plain functions. -/
namespace Go.Proofs.Ythmigjicibhheaa
set_option linter.unusedSimpArgs false
set_option linter.unusedVariables false
structure Md where
  ins : Bool
  nl : Bool
  ck : Bool
  inv : Bool
  org : Bool
  aut : Bool
  vis : Bool
  paste : Bool
  focus : Bool
  sync : Bool
  keypad : Bool
  mouse : Int
  sgr : Bool
def MdEq (a b : Md) : Bool := (a.ins == b.ins) && ((a.nl == b.nl) && ((a.ck == b.ck) && ((a.inv == b.inv) && ((a.org == b.org) && ((a.aut == b.aut) && ((a.vis == b.vis) && ((a.paste == b.paste) && ((a.focus == b.focus) && ((a.sync == b.sync) && ((a.keypad == b.keypad) && ((decide (a.mouse = b.mouse)) && ((a.sgr == b.sgr) && (true)))))))))))))

structure Co where
  k : Int
  n : Int
structure Ac where
  kind : Int
  n : Int
  m : Int
  col : Co
  text : ByteArray
def Ac.zero : Ac := ⟨0, 0, 0, ⟨0, 0⟩, ByteArray.empty⟩
def Md.zero : Md := ⟨false, false, false, false, false, false, false, false, false, false, false, 0, false⟩
def mouseS (n : Int) : Bool := decide (n = 9) || decide (n = 1000) || decide (n = 1002) || decide (n = 1003)
def rightS (m : Md) : Bool := decide (m.mouse = 0) || mouseS m.mouse
def checkS (m : Md) : Int := bif rightS m then 0 else 260
def newS : Md := ⟨false, false, false, false, false, true, true, false, false, false, false, 0, false⟩
def toldS (b : Bool) : Int := bif b then 1 else 2
theorem told_bd (b : Bool) : 1 ≤ toldS b ∧ toldS b ≤ 2 := by cases b <;> decide
/-- The first place of v in a list, counted from k; -1 where there is none. -/
def idxFrom : List Int → Int → Nat → Int
  | [], _, _ => -1
  | x :: r, v, k => bif decide (v = x) then (k : Int) else idxFrom r v (k + 1)
theorem drop_getD (s : List Int) (k : Nat) (h : k < s.length) : s.drop k = s.getD k 0 :: s.drop (k + 1) := by
  rw [List.drop_eq_getElem_cons h]; simp [List.getD_eq_getElem?_getD, h]
theorem idxFrom_hit (s : List Int) (v : Int) (k : Nat) (h : k < s.length) (e : decide (v = s.getD k 0) = true) : idxFrom (s.drop k) v k = k := by
  rw [drop_getD s k h, idxFrom, e]; rfl
theorem idxFrom_miss (s : List Int) (v : Int) (k : Nat) (h : k < s.length) (e : decide (v = s.getD k 0) = false) : idxFrom (s.drop k) v k = idxFrom (s.drop (k + 1)) v (k + 1) := by
  rw [drop_getD s k h, idxFrom, e]; rfl
theorem idxFrom_end (s : List Int) (v : Int) (k : Nat) (h : s.length ≤ k) : idxFrom (s.drop k) v k = -1 := by
  rw [List.drop_eq_nil_of_le h]; rfl
def containsS (s : List Int) (v : Int) : Bool := decide (0 ≤ idxFrom s v 0)
theorem contains_mice (n : Int) : containsS [9, 1000, 1002, 1003] n = mouseS n := by
  simp only [containsS, idxFrom, mouseS]
  by_cases h1 : n = 9
  · simp [h1]
  · by_cases h2 : n = 1000
    · simp [h2]
    · by_cases h3 : n = 1002
      · simp [h3]
      · by_cases h4 : n = 1003
        · simp [h4]
        · simp [h1, h2, h3, h4]
theorem check_bad (m : Md) (h : (decide (m.mouse ≠ 0) && !containsS [9, 1000, 1002, 1003] m.mouse) = true) : checkS m = 260 := by
  rw [contains_mice] at h
  simp at h
  simp [checkS, rightS, h]
theorem check_ok (m : Md) (h : (decide (m.mouse ≠ 0) && !containsS [9, 1000, 1002, 1003] m.mouse) = false) : checkS m = 0 := by
  rw [contains_mice] at h
  simp only [checkS, rightS]
  by_cases h0 : m.mouse = 0
  · simp [h0]
  · simp [h0] at h ⊢
    simp [h]
def rputS (m : Md) (dec : Bool) (n : Int) (on : Bool) : Md × Bool :=
  if dec = false then
    if n = 4 then ({ m with ins := on }, true)
    else if n = 20 then ({ m with nl := on }, true)
    else (m, false)
  else
    if n = 1 then ({ m with ck := on }, true)
    else if n = 5 then ({ m with inv := on }, true)
    else if n = 6 then ({ m with org := on }, true)
    else if n = 7 then ({ m with aut := on }, true)
    else if n = 25 then ({ m with vis := on }, true)
    else if n = 1004 then ({ m with focus := on }, true)
    else if n = 1006 then ({ m with sgr := on }, true)
    else if n = 2004 then ({ m with paste := on }, true)
    else if n = 2026 then ({ m with sync := on }, true)
    else if mouseS n then (if on then ({ m with mouse := n }, true) else if m.mouse = n then ({ m with mouse := 0 }, true) else (m, true))
    else (m, false)
def putS (m : Md) (dec : Bool) (n : Int) (on : Bool) : Md × Bool × Int :=
  if checkS m = 0 then ((rputS m dec n on).1, (rputS m dec n on).2, 0) else (Md.zero, false, checkS m)
def rstateS (m : Md) (dec : Bool) (n : Int) (alt : Bool) : Int :=
  if dec = false ∨ n ≠ 47 ∧ n ≠ 1047 ∧ n ≠ 1049 then
    if (rputS m dec n true).2 then (if MdEq (rputS m dec n true).1 m then 1 else 2) else 0
  else if alt then 1 else 2
theorem rstate_bd (m : Md) (dec : Bool) (n : Int) (alt : Bool) : 0 ≤ rstateS m dec n alt ∧ rstateS m dec n alt ≤ 2 := by
  unfold rstateS; split <;> (repeat' split) <;> decide
def stateS (m : Md) (dec : Bool) (n : Int) (alt : Bool) : Int × Int :=
  if checkS m = 0 then (rstateS m dec n alt, 0) else (0, checkS m)
theorem rstate_d1 (m : Md) (n : Int) (alt : Bool) (hno : n ≠ 1 ∧ n ≠ 5 ∧ n ≠ 6 ∧ n ≠ 7 ∧ n ≠ 25 ∧ n ≠ 1004 ∧ n ≠ 1006 ∧ n ≠ 2004 ∧ n ≠ 2026) :
    rstateS m true n alt = if mouseS n = true then toldS (decide (m.mouse = n)) else if n = 47 ∨ n = 1047 ∨ n = 1049 then toldS alt else 0 := by
  obtain ⟨h1, h2, h3, h4, h5, h6, h7, h8, h9⟩ := hno
  by_cases hm : mouseS n = true
  · have hn : n ≠ 47 ∧ n ≠ 1047 ∧ n ≠ 1049 := by
      simp [mouseS] at hm; omega
    have e : decide (n = m.mouse) = decide (m.mouse = n) := by simp [eq_comm]
    simp [rstateS, rputS, h1, h2, h3, h4, h5, h6, h7, h8, h9, hm, hn, MdEq, toldS, Bool.cond_eq_ite]
    simp [eq_comm]
  · by_cases hn : n = 47 ∨ n = 1047 ∨ n = 1049
    · have hq : ¬ (n ≠ 47 ∧ n ≠ 1047 ∧ n ≠ 1049) := by omega
      simp only [rstateS, if_neg hm, if_pos hn]
      rw [if_neg (by simp; omega)]
      simp [toldS, Bool.cond_eq_ite]
    · have hq : (n ≠ 47 ∧ n ≠ 1047 ∧ n ≠ 1049) := by omega
      simp [rstateS, rputS, h1, h2, h3, h4, h5, h6, h7, h8, h9, hm, hn, hq]
def numbersS (dec : Bool) : List Int := if dec then [1, 5, 6, 7, 25, 1004, 1006, 2004, 2026, 9, 1000, 1002, 1003] else [4, 20]
def numsS (n : Int) : List Int := [n, 3, 47, 1047, 1048, 1049] ++ numbersS false ++ numbersS true ++ [Int.tmod n 2100]
def bitS (b k : Int) : Bool := decide (Int.tmod (Int.fdiv b (2 ^ min k.toNat 16)) 2 = 1)
def lput (m : Md) (dec : Bool) (n : Int) (on : Bool) : Md :=
  if (putS m dec n on).2.1 = true ∧ (putS m dec n on).2.2 = 0 then (putS m dec n on).1 else { Md.zero with mouse := -1 }
def lstate (m : Md) (dec : Bool) (n : Int) (alt : Bool) : Int := if (stateS m dec n alt).2 = 0 then (stateS m dec n alt).1 else -1
def ofS (b : Int) : Md :=
  ⟨bitS b 0, bitS b 1, bitS b 2, bitS b 3, bitS b 4, !bitS b 5, !bitS b 6, bitS b 7, bitS b 8, bitS b 9, bitS b 10,
    ([0, 0, 0, 0, 9, 1000, 1002, 1003] : List Int).getD (Int.tmod (Int.fdiv b (2 ^ min (12 : Int).toNat 16)) 8).toNat 0, bitS b 11⟩
theorem of_idx (b : Int) (h : 0 ≤ b ∧ b ≤ 65535) : 0 ≤ Int.tmod (Int.fdiv b (2 ^ min (12 : Int).toNat 16)) 8 ∧ Int.tmod (Int.fdiv b (2 ^ min (12 : Int).toNat 16)) 8 < 8 := by
  have e : Int.fdiv b (2 ^ min (12 : Int).toNat 16) = b / 4096 := by
    rw [Int.fdiv_eq_ediv_of_nonneg _ (by decide)]; rfl
  rw [e, Int.tmod_eq_emod_of_nonneg (by omega)]
  omega
end Go.Proofs.Ythmigjicibhheaa
