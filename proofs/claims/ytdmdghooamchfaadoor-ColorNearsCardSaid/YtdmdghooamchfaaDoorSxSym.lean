/- What the machine makes of holes: operations on what is not known become rows of the log. -/
import Derived.Test.YtdmdghooamchfaaDoorSx
namespace Go.Sx
set_option linter.all false
set_option linter.unusedVariables false
open Go

def isCmp : BinOp → Bool
  | .eql | .neq | .lss | .leq | .gtr | .geq => true
  | _ => false

/-- Two scalars, one a hole. -/
def symBin (P : Program) (m : Mem) (op : BinOp) (t : TypeId) (a b : Value) : Res :=
  let ta := tagOf a
  let tb := tagOf b
  bif (Nat.blt ta 8 && Nat.blt tb 8) || (Nat.beq ta 9 && Nat.beq tb 9) then letM m (bif isCmp op then 8 else ta) (.bin op) [a, b] else
  bif Nat.beq ta 8 && Nat.beq tb 8 && isEq op && (match P.underlying t with | some .bool => true | _ => false) then letM m 8 (.bin op) [a, b] else none

/-- The pairs of scalars by which two structs are held against each other, in order. -/
def isScalar (P : Program) (t : TypeId) (x y : Value) : Bool :=
  match P.underlying t with
  | some .bool => Nat.beq (tagOf x) 8 && Nat.beq (tagOf y) 8
  | some (.int k) => Nat.beq (tagOf x) (kTag k) && Nat.beq (tagOf y) (kTag k)
  | some .string => Nat.beq (tagOf x) 9 && Nat.beq (tagOf y) 9
  | _ => false
mutual
def eqS (P : Program) : Nat → TypeId → Value → Value → Option (List Value)
  | 0, _, _, _ => none
  | d + 1, t, x, y => bif isScalar P t x y then some [x, y] else
    match P.underlying t, x, y with
    | some (.struct fs), .agg xs, .agg ys => bif P.stoodInHeld t then none else eqSF P d fs.toList xs.toList ys.toList
    | _, _, _ => none
def eqSF (P : Program) : Nat → List Field → List Value → List Value → Option (List Value)
  | 0, _, _, _ => none
  | _ + 1, [], _, _ => some []
  | d + 1, f :: fs, xs, ys =>
    bif f.name == "_" then none else
    match partM P f.type xs f.offset, partM P f.type ys f.offset with
    | some x, some y => match eqS P d f.type x y, eqSF P d fs xs ys with
      | some a, some b => some (a ++ b)
      | _, _ => none
    | _, _ => none
end

def symEq (P : Program) (m : Mem) (op : BinOp) (t : TypeId) (x y : Operand) (a b : Value) : Res :=
  bif guardM P t x y a b then
    match op, eqS P 20 t a b with
    | .eql, some l => letM m 8 .eqs l
    | .neq, some l => match letM m 8 .eqs l with
      | some (h, m) => letM m 8 (.un .not) [h]
      | none => none
    | _, _ => none
  else none

/-- The cells of an array, one of them picked. -/
def sameTags (t : Nat) : List Value → Bool
  | [] => true
  | v :: r => Nat.beq (tagOf v) t && sameTags t r
def symIndex (P : Program) (m : Mem) (t : TypeId) (x i : Value) : Res :=
  bif !(Nat.blt (tagOf i) 8) then none else
  match P.underlying t with
  | some .string => bif Nat.beq (tagOf x) 9 then letM m 4 .idx [x, i] else none
  | some (.array n e) => match x, P.underlying e with
    | .agg cs, some (.int k) => bif Nat.beq (cs.toList.length) n && sameTags (kTag k) cs.toList && Nat.beq (sizeD P e) 1 then letM m (kTag k) .sel (i :: cs.toList) else none
    | .agg cs, some .string => bif Nat.beq (cs.toList.length) n && sameTags 9 cs.toList && Nat.beq (sizeD P e) 1 then letM m 9 .sel (i :: cs.toList) else none
    | _, _ => none
  | _ => none
where
  sizeD (P : Program) (e : TypeId) : Nat := match sizeM P e with | some n => n | none => 0

def symSlice (P : Program) (m : Mem) (t : TypeId) (x : Value) (lo hi mx : Option Value) : Res :=
  match P.underlying t, mx with
  | some .string, none => bif Nat.beq (tagOf x) 9 then
      match lo, hi with
      | none, none => some (x, m)
      | some l, none => bif Nat.blt (tagOf l) 8 then letM m 9 .sub1 [x, l] else none
      | none, some h => bif Nat.blt (tagOf h) 8 then letM m 9 .sub [x, .int .i64 0, h] else none
      | some l, some h => bif Nat.blt (tagOf l) 8 && Nat.blt (tagOf h) 8 then letM m 9 .sub [x, l, h] else none
    else none
  | _, _ => none

def symUn (m : Mem) (op : UnOp) (x : Value) : Res :=
  let t := tagOf x
  match op with
  | .not => bif Nat.beq t 8 then letM m 8 (.un .not) [x] else none
  | op => bif Nat.blt t 8 then letM m t (.un op) [x] else none

def symConv (P : Program) (m : Mem) (s t : TypeId) (x : Value) : Res :=
  match P.underlying s, P.underlying t with
  | some (.int _), some (.int k) => bif Nat.blt (tagOf x) 8 then letM m (kTag k) (.conv k) [x] else none
  | some .string, some .string => bif Nat.beq (tagOf x) 9 then some (x, m) else none
  | _, _ => none

def symBuiltin (P : Program) (m : Mem) (b : Builtin) (vs : List Value) (tys : List TypeId) : Res :=
  match b, vs, tys with
  | .len, [x], t :: _ => match P.underlying t with
    | some .string => bif Nat.beq (tagOf x) 9 then letM m 3 .len [x] else none
    | _ => none
  | .max, [x, y], _ => bif Nat.blt (tagOf x) 8 && Nat.beq (tagOf x) (tagOf y) then letM m (tagOf x) .max [x, y] else none
  | .min, [x, y], _ => bif Nat.blt (tagOf x) 8 && Nat.beq (tagOf x) (tagOf y) then letM m (tagOf x) .min [x, y] else none
  | _, _, _ => none

/-- A place of an array or a slice by an index that is not known: it must be in range. -/
def ixAt (m : Mem) (a : Addr) (s n : Nat) (i : Value) : Res :=
  bif !(Nat.blt (tagOf i) 8) then none else
  match letM m 8 .inb [i, .int .i64 (.ofNat n)] with
  | some (b, ⟨H, k, W, hi, lg⟩) => match brL lg b with
    | some (true, lg) => some (ixp a s i n, ⟨H, k, W, hi, lg⟩)
    | _ => none
  | none => none
def symIndexAt (P : Program) (m : Mem) (t : TypeId) (x i : Value) : Res :=
  match P.underlying t, x with
  | some (.array n e), .pointer (some a) => match sizeM P e, a.spot with
    | some s, none => ixAt m a s n i
    | _, _ => none
  | some (.slice e), .slice (some a) n c => match sizeM P e, a.spot with
    | some s, none => bif Nat.beq c (OPEN + 2) then none else ixAt m a s n i
    | _, _ => none
  | _, _ => none
def symFieldAt (P : Program) (m : Mem) (s : TypeId) (x : Value) (i : Nat) : Res :=
  match x with
  | .func (.yield 1) ⟨[.pointer (some a), .int .i64 (.ofNat k), j, .int .i64 (.ofNat n)]⟩ ⟨[]⟩ => match P.underlying s with
    | some (.struct fs) => match fs.toList[i]?, a.spot with
      | some f, none => match sizeM P f.type with
        | some (_ + 1) => some (ixp (plus a f.offset) k j n, m)
        | _ => none
      | _, _ => none
    | _ => none
  | _ => none
/-- Every s-th cell, n of them, from the o-th on. -/
def strideL (cs : List Value) (s o : Nat) : Nat → Option (List Value)
  | 0 => some []
  | n + 1 => match cs[o]?, strideL cs s (o + s) n with
    | some v, some r => some (v :: r)
    | _, _ => none
def tagT (P : Program) (t : TypeId) : Nat :=
  match P.underlying t with
  | some .bool => 8
  | some (.int k) => kTag k
  | some .string => 9
  | _ => 99
def selCells (m : Mem) (cs : List Value) (s n : Nat) (i : Value) : Nat → Nat → Option (List Value × Mem)
  | _, 0 => some ([], m)
  | o, k + 1 => match strideL cs s o n with
    | some (v :: l) => bif sameTags (tagOf v) (v :: l) && Nat.blt (tagOf v) 10 then match letM m (tagOf v) .sel (i :: v :: l) with
      | some (h, m) => match selCells m cs s n i (o + 1) k with
        | some (r, m) => some (h :: r, m)
        | none => none
      | none => none else none
    | _ => none
def symLoad (P : Program) (m : Mem) (t : TypeId) (x : Value) : Res :=
  match x with
  | .func (.yield 1) ⟨[.pointer (some a), .int .i64 (.ofNat s), i, .int .i64 (.ofNat n)]⟩ ⟨[]⟩ =>
    match isAggM P t, sizeM P t with
    | some false, _ => match readM m a ((n - 1) * s + 1) with
      | some cs => match selCells m cs s n i 0 1 with
        | some ([h], m) => some (h, m)
        | _ => none
      | none => none
    | some true, some z => match readM m a ((n - 1) * s + z) with
      | some cs => match selCells m cs s n i 0 z with
        | some (hs, m) => some (.agg ⟨hs⟩, m)
        | none => none
      | none => none
    | _, _ => none
  | _ => none

def symPick (m : Mem) (c a b : Value) : Res :=
  match m with
  | ⟨H, n, W, hi, lg⟩ => match brL lg c with
    | some (true, lg) => some (a, ⟨H, n, W, hi, lg⟩)
    | some (false, lg) => some (b, ⟨H, n, W, hi, lg⟩)
    | none => none

def symM (P : Program) (fr : Fr) (m : Mem) (o : Op) : Res :=
  match o with
  | .pick c a b => symPick m (ev fr c) (ev fr a) (ev fr b)
  | .binOp op t x y _ => match symBin P m op t (ev fr x) (ev fr y) with
    | some r => some r
    | none => symEq P m op t x y (ev fr x) (ev fr y)
  | .unOp op _ x => symUn m op (ev fr x)
  | .convert s t x => symConv P m s t (ev fr x)
  | .slice t x lo hi mx => symSlice P m t (ev fr x) (evO fr lo) (evO fr hi) (evO fr mx)
  | .index t x i => symIndex P m t (ev fr x) (ev fr i)
  | .indexAddr t x i => symIndexAt P m t (ev fr x) (ev fr i)
  | .fieldAddr s x i => symFieldAt P m s (ev fr x) i
  | .load t x => symLoad P m t (ev fr x)
  | .call ⟨.builtin b, xs, tys⟩ => symBuiltin P m b (evL fr xs.toList) tys.toList
  | _ => none
end Go.Sx
