/- A machine that runs closed calls of a translated program in Lean's kernel: one order, one heap of its own numbering. MxSound.lean shows that what it comes to is what the program comes to, whatever the tape. -/
import Derived.WalkKit
import Derived.OrdersHeld
import Derived.KernelRfl
namespace Go.Sx
set_option linter.all false
set_option linter.unusedVariables false
open Go

/-! ### tables by number: eight by eight -/
structure N8 (α : Type) where
  c0 : α
  c1 : α
  c2 : α
  c3 : α
  c4 : α
  c5 : α
  c6 : α
  c7 : α
structure Sel where
  get : {α : Type} → N8 α → α
  upd : {α β : Type} → N8 α → α → (N8 α → β) → β
def sel : Nat → Sel
  | 0 => ⟨fun n => n.c0, fun n v k => match n with | ⟨a0, a1, a2, a3, a4, a5, a6, a7⟩ => k ⟨v, a1, a2, a3, a4, a5, a6, a7⟩⟩
  | 1 => ⟨fun n => n.c1, fun n v k => match n with | ⟨a0, a1, a2, a3, a4, a5, a6, a7⟩ => k ⟨a0, v, a2, a3, a4, a5, a6, a7⟩⟩
  | 2 => ⟨fun n => n.c2, fun n v k => match n with | ⟨a0, a1, a2, a3, a4, a5, a6, a7⟩ => k ⟨a0, a1, v, a3, a4, a5, a6, a7⟩⟩
  | 3 => ⟨fun n => n.c3, fun n v k => match n with | ⟨a0, a1, a2, a3, a4, a5, a6, a7⟩ => k ⟨a0, a1, a2, v, a4, a5, a6, a7⟩⟩
  | 4 => ⟨fun n => n.c4, fun n v k => match n with | ⟨a0, a1, a2, a3, a4, a5, a6, a7⟩ => k ⟨a0, a1, a2, a3, v, a5, a6, a7⟩⟩
  | 5 => ⟨fun n => n.c5, fun n v k => match n with | ⟨a0, a1, a2, a3, a4, a5, a6, a7⟩ => k ⟨a0, a1, a2, a3, a4, v, a6, a7⟩⟩
  | 6 => ⟨fun n => n.c6, fun n v k => match n with | ⟨a0, a1, a2, a3, a4, a5, a6, a7⟩ => k ⟨a0, a1, a2, a3, a4, a5, v, a7⟩⟩
  | _ => ⟨fun n => n.c7, fun n v k => match n with | ⟨a0, a1, a2, a3, a4, a5, a6, a7⟩ => k ⟨a0, a1, a2, a3, a4, a5, a6, v⟩⟩
def all8 {α : Type} (v : α) : N8 α := ⟨v, v, v, v, v, v, v, v⟩
/-- What is left is worked out before it is put in. -/
def force8 {α β : Type} (n : N8 α) (k : N8 α → β) : β :=
  match n with
  | ⟨a0, a1, a2, a3, a4, a5, a6, a7⟩ => k ⟨a0, a1, a2, a3, a4, a5, a6, a7⟩

abbrev Fr := N8 (N8 (N8 Value))
def Fr.get (fr : Fr) (t : Nat) : Value := (sel (t % 8)).get ((sel (t / 8 % 8)).get ((sel (t / 64 % 8)).get fr))
def setS {β : Type} (a b c : Sel) (v : Value) (fr : Fr) (k : Fr → β) : β :=
  c.upd (b.get (a.get fr)) v fun n2 => b.upd (a.get fr) n2 fun n1 => a.upd fr n1 k
def Fr.set (fr : Fr) (t : Nat) (v : Value) : Fr := setS (sel (t / 64 % 8)) (sel (t / 8 % 8)) (sel (t % 8)) v fr fun fr => fr
def fr0 : Fr := all8 (all8 (all8 (.tuple #[])))

abbrev Hp (α : Type) := N8 (N8 (N8 (N8 (N8 (N8 (Option α))))))
def Hp.get {α : Type} (h : Hp α) (n : Nat) : Option α :=
  (sel (n % 8)).get ((sel (n / 8 % 8)).get ((sel (n / 64 % 8)).get ((sel (n / 512 % 8)).get ((sel (n / 4096 % 8)).get ((sel (n / 32768 % 8)).get h)))))
def hset {α β : Type} (a b c d e f : Sel) (v : Option α) (h : Hp α) (k : Hp α → β) : β :=
  f.upd (e.get (d.get (c.get (b.get (a.get h))))) v fun n5 => e.upd (d.get (c.get (b.get (a.get h)))) n5 fun n4 => d.upd (c.get (b.get (a.get h))) n4 fun n3 => c.upd (b.get (a.get h)) n3 fun n2 => b.upd (a.get h) n2 fun n1 => a.upd h n1 k
/-- h with v at n, handed on. -/
def Hp.put {α β : Type} (h : Hp α) (n : Nat) (v : Option α) (k : Hp α → β) : β :=
  hset (sel (n / 32768 % 8)) (sel (n / 4096 % 8)) (sel (n / 512 % 8)) (sel (n / 64 % 8)) (sel (n / 8 % 8)) (sel (n % 8)) v h k
def Hp.set {α : Type} (h : Hp α) (n : Nat) (v : Option α) : Hp α := h.put n v fun h => h
def hp0 {α : Type} : Hp α := all8 (all8 (all8 (all8 (all8 (all8 none)))))
/-- The numbers go so far. -/
def most : Nat := 262143

def forceN {β : Type} (n : Nat) (k : Nat → β) : β :=
  match n with
  | 0 => k 0
  | m + 1 => k (Nat.succ m)
def forceI {β : Type} (i : Int) (k : Int → β) : β :=
  match i with
  | .ofNat n => forceN n fun n => k (.ofNat n)
  | .negSucc n => forceN n fun n => k (.negSucc n)
/-- The list's spine is worked out. -/
def forceL {α β : Type} : List α → (List α → β) → β
  | [], k => k []
  | x :: r, k => forceL r fun r => k (x :: r)
def forceV {β : Type} (v : Value) (k : Value → β) : β :=
  match v with
  | .int j n => forceI n fun n => k (.int j n)
  | .bool true => k (.bool true)
  | .bool false => k (.bool false)
  | .string s => forceL s.data.toList fun l => k (.string ⟨⟨l⟩⟩)
  | .agg cs => forceL cs.toList fun l => k (.agg ⟨l⟩)
  | .slice a n m => forceN n fun n => forceN m fun m => k (.slice a n m)
  | .tuple vs => forceL vs.toList fun l => k (.tuple ⟨l⟩)
  | v => k v

/-! ### integers, quickly -/
def topN : IntKind → Nat
  | .i8 => 127 | .i16 => 32767 | .i32 => 2147483647 | .i64 => 9223372036854775807
  | .u8 => 255 | .u16 => 65535 | .u32 => 4294967295 | .u64 => 18446744073709551615
def wrapF (k : IntKind) (n : Int) : Int :=
  match n with
  | .ofNat m => bif Nat.ble m (topN k) then .ofNat m else k.wrap (.ofNat m)
  | .negSucc m => k.wrap (.negSucc m)
def addF (a b : Int) : Int :=
  match a, b with
  | .ofNat m, .ofNat n => .ofNat (Nat.add m n)
  | a, b => a + b
def subF (a b : Int) : Int :=
  match a, b with
  | .ofNat m, .ofNat n => bif Nat.ble n m then .ofNat (Nat.sub m n) else .ofNat m - .ofNat n
  | a, b => a - b
def mulF (a b : Int) : Int :=
  match a, b with
  | .ofNat m, .ofNat n => .ofNat (Nat.mul m n)
  | a, b => a * b
def ltF (a b : Int) : Bool :=
  match a, b with
  | .ofNat m, .ofNat n => Nat.blt m n
  | .negSucc _, .ofNat _ => true
  | .ofNat _, .negSucc _ => false
  | .negSucc m, .negSucc n => Nat.blt n m
def leF (a b : Int) : Bool :=
  match a, b with
  | .ofNat m, .ofNat n => Nat.ble m n
  | .negSucc _, .ofNat _ => true
  | .ofNat _, .negSucc _ => false
  | .negSucc m, .negSucc n => Nat.ble n m
def eqF' (a b : Int) : Bool :=
  match a, b with
  | .ofNat m, .ofNat n => Nat.beq m n
  | .negSucc m, .negSucc n => Nat.beq m n
  | _, _ => false
def sameK : IntKind → IntKind → Bool
  | .i8, .i8 | .i16, .i16 | .i32, .i32 | .i64, .i64 | .u8, .u8 | .u16, .u16 | .u32, .u32 | .u64, .u64 => true
  | _, _ => false
def mkI (k : IntKind) (n : Int) : Value := forceI n fun n => .int k n

/-! ### what is not known: numbered holes -/
/-- Pure data: what holes stand for. -/
inductive U where
  | none
  | int (k : IntKind) (n : Int)
  | bool (b : Bool)
  | str (s : List UInt8)
  | seq (nul : Bool) (rows : List (List U))
/-- What a hole's number is reckoned from. -/
inductive LOp where
  | bin (op : BinOp)
  | un (op : UnOp)
  | conv (k : IntKind)
  | len
  | idx
  | sub
  | sub1
  | sel
  | eqs
  | inb
  | max
  | min
/-- Rows of the log, the last one first. -/
inductive LogE where
  | lt (i t : Nat) (op : LOp) (xs : List Value)
  | br (i : Nat) (b : Bool)
  | as (op : LOp) (xs : List Value)
  | con (spec : List U → Option (Nat × List U)) (xs : List Value) (i d n : Nat)
structure Lg where
  nx : Nat
  pi : List Nat
  log : List LogE
def hole (i t : Nat) : Value := .complex .f64 i t
/-- A slot of which nothing is known. -/
def junk : Value := .complex .f32 0 0
/-- A pointer to one of n places, s cells apart. -/
def ixp (a : Addr) (s : Nat) (i : Value) (n : Nat) : Value := .func (.yield 1) ⟨[.pointer (some a), .int .i64 (.ofNat s), i, .int .i64 (.ofNat n)]⟩ ⟨[]⟩
def isJunk : Value → Bool
  | .complex .f32 _ _ => true
  | _ => false
/-- Nothing is known of it, but that it is one cell. -/
def one : Value := .complex .f32 1 0
/-- It may be more cells than one. -/
def isWide : Value → Bool
  | .complex .f32 i _ => !(Nat.beq i 1)
  | _ => false
def isHole : Value → Bool
  | .complex .f64 _ _ => true
  | _ => false
def kTag : IntKind → Nat
  | .i8 => 0 | .i16 => 1 | .i32 => 2 | .i64 => 3 | .u8 => 4 | .u16 => 5 | .u32 => 6 | .u64 => 7
def tagOf : Value → Nat
  | .int k _ => kTag k
  | .bool _ => 8
  | .string _ => 9
  | .complex .f64 _ t => t
  | _ => 99

/-! ### the memory -/
inductive AB where
  | cells (cs : List Value) (T : TypeId) (ro : Bool)
  | map (es : List MapEntry) (clock : Nat)
  | iter (s : ByteArray) (pos : Nat)

structure Mem where
  H : Hp AB
  n : Nat
  W : List Nat
  hi : Nat
  lg : Lg

structure S where
  fr : Fr
  m : Mem

inductive Ex where
  | normal
  | exit (id : Nat)
  | ret

/-- A capacity from here on is not known. -/
def OPEN : Nat := 9223372036854775808

/-- A value without an address. -/
def pureV : Value → Bool
  | .bool _ | .int _ _ | .string _ | .pointer none | .slice none _ _ | .map none | .nilFunc | .nilIface => true
  | _ => false
def pureC : Value → Bool
  | .agg cs => cs.toList.all pureV
  | v => pureV v

def ev (fr : Fr) : Operand → Value
  | .tmp t => fr.get t
  | .const v => v
  | .global g => .pointer (some ⟨g, 0, none⟩)
  | .func f => .func (.func f) #[] #[]
/-- An operand that may be asked: a constant must hold no address. -/
def okX (nt gl : Nat) : Operand → Bool
  | .tmp t => Nat.blt t nt
  | .const v => pureC v
  | .global g => Nat.blt g gl
  | .func _ => true
def evL (fr : Fr) : List Operand → List Value
  | [] => []
  | x :: r => ev fr x :: evL fr r
def evP (fr : Fr) : List (Nat × Operand) → List (Nat × Value)
  | [] => []
  | (i, x) :: r => (i, ev fr x) :: evP fr r
def evO (fr : Fr) : Option Operand → Option Value
  | none => none
  | some x => some (ev fr x)

structure XC where
  run : Fr → Value
def accS (a b c : Sel) : XC := ⟨fun fr => c.get (b.get (a.get fr))⟩
def compX : Operand → XC
  | .tmp t => accS (sel (t / 64 % 8)) (sel (t / 8 % 8)) (sel (t % 8))
  | .const v => ⟨fun _ => v⟩
  | .global g => ⟨fun _ => .pointer (some ⟨g, 0, none⟩)⟩
  | .func f => ⟨fun _ => .func (.func f) #[] #[]⟩
theorem compX_run (x : Operand) (fr : Fr) : (compX x).run fr = ev fr x := by cases x <;> rfl
structure LC where
  run : Fr → List Value
def consC (x : XC) (r : LC) (fr : Fr) : List Value := x.run fr :: r.run fr
def compL : List Operand → LC
  | [] => ⟨fun _ => []⟩
  | x :: r => ⟨fun fr => consC (compX x) (compL r) fr⟩
theorem compL_run (fr : Fr) : ∀ xs : List Operand, (compL xs).run fr = evL fr xs
  | [] => rfl
  | x :: r => by
    show (compX x).run fr :: (compL r).run fr = _
    rw [compX_run, compL_run fr r]; rfl

abbrev Res := Option (Value × Mem)

def strOf (l : List UInt8) : Value := .string ⟨⟨l⟩⟩

def upN (hi n : Nat) : Nat := bif Nat.blt n hi then hi else Nat.succ n
/-- The memory with another log. -/
def Mem.wLg (m : Mem) (lg : Lg) : Mem :=
  match m with
  | ⟨H, n, W, hi, _⟩ => ⟨H, n, W, hi, lg⟩
/-- A new hole. -/
def letM (m : Mem) (t : Nat) (op : LOp) (xs : List Value) : Res :=
  match m with
  | ⟨H, n, W, hi, ⟨nx, pi, log⟩⟩ => forceN nx fun nx => forceN t fun t => forceL xs fun xs => some (hole nx t, ⟨H, n, W, hi, ⟨Nat.succ nx, pi, .lt nx t op xs :: log⟩⟩)
def findBr : List LogE → Nat → Option Bool
  | [], _ => none
  | .br j b :: r, i => bif Nat.beq j i then some b else findBr r i
  | _ :: r, i => findBr r i
/-- Which way? A hole is asked of the path's list, once. -/
def brL (lg : Lg) (c : Value) : Option (Bool × Lg) :=
  match c with
  | .bool b => some (b, lg)
  | .complex .f64 i 8 => match lg with
    | ⟨nx, pi, log⟩ => match findBr log i with
      | some b => some (b, ⟨nx, pi, log⟩)
      | none => match pi with
        | 1 :: r => some (true, ⟨nx, r, .br i true :: log⟩)
        | 0 :: r => some (false, ⟨nx, r, .br i false :: log⟩)
        | _ => none
  | _ => none
/-- A new block. -/
def newM (m : Mem) (ab : AB) (k : Nat → Value) : Res :=
  match m with
  | ⟨H, n, W, hi, lg⟩ => bif Nat.ble n most then forceN n fun n => forceN (upN hi n) fun hi => Hp.put H n (some ab) fun H => some (k n, ⟨H, Nat.succ n, W, hi, lg⟩) else none
/-- An old block is written. -/
def setM (m : Mem) (id : Nat) (ab : AB) : Option Mem :=
  match m with
  | ⟨H, n, W, hi, lg⟩ => bif Nat.ble id most then Hp.put H id (some ab) fun H => forceN id fun id => some ⟨H, n, id :: W, hi, lg⟩ else none
def killM (m : Mem) (id : Nat) : Mem :=
  match m with
  | ⟨H, n, W, hi, lg⟩ => Hp.put H id none fun H => forceN id fun id => ⟨H, n, id :: W, hi, lg⟩

def cutL (cs : List Value) (o n : Nat) : Option (List Value) :=
  let r := (cs.drop o).take n
  bif Nat.beq r.length n then some r else none

/-- n cells from an address. -/
def readM (m : Mem) (a : Addr) (n : Nat) : Option (List Value) :=
  match a.spot, Hp.get m.H a.block with
  | none, some (.cells cs _ _) => cutL cs a.off n
  | _, _ => none

def putL : List Value → Nat → List Value → List Value
  | cs, _, [] => cs
  | cs, k, v :: r => putL (cs.set k v) (k + 1) r

def flat : Value → Bool
  | .agg _ | .tuple _ => false
  | .complex .f32 i _ => Nat.beq i 1
  | _ => true

/-- Cells from an address on are written. -/
def writeM (m : Mem) (a : Addr) (vs : List Value) : Option Mem :=
  match a.spot, Hp.get m.H a.block with
  | none, some (.cells cs T false) =>
    bif Nat.ble (a.off + vs.length) cs.length && vs.all flat then forceL (putL cs a.off vs) fun cs => setM m a.block (.cells cs T false) else none
  | _, _ => none

variable (P : Program)

def und (t : TypeId) : Option TypeDesc := P.underlying t
def isAggM (t : TypeId) : Option Bool :=
  match P.underlying t with
  | some (.struct _) | some (.array _ _) => some true
  | some _ => some false
  | none => none
def sizeM (t : TypeId) : Option Nat :=
  match P.info? t with
  | some i => some i.size
  | none => none
def zeroM (t : TypeId) : Option Value :=
  match P.info? t with
  | some i => match i.zero with
    | some v => bif pureC v then some v else none
    | none => none
  | none => none

def loadM (m : Mem) (t : TypeId) (a : Addr) : Option Value :=
  match isAggM P t with
  | some true => match sizeM P t with
    | some n => match readM m a n with
      | some cs => some (.agg ⟨cs⟩)
      | none => none
    | none => none
  | some false => match readM m a 1 with
    | some (v :: _) => some v
    | _ => none
  | none => none

def storeM (m : Mem) (t : TypeId) (a : Addr) (v : Value) : Option Mem :=
  match sizeM P t with
  | some n => bif Nat.beq v.cells.size n && !(isWide v) then writeM m a v.cells.toList else none
  | none => none

def partM (t : TypeId) (cs : List Value) (off : Nat) : Option Value :=
  match isAggM P t with
  | some true => match sizeM P t with
    | some n => match cutL cs off n with
      | some r => some (.agg ⟨r⟩)
      | none => none
    | none => none
  | some false => cs[off]?
  | none => none

/-! ### equality -/
mutual
def eqM : Nat → TypeId → Value → Value → Option Bool
  | 0, _, _, _ => none
  | d + 1, t, x, y => match P.underlying t, x, y with
    | some .bool, .bool a, .bool b => some (a == b)
    | some (.int _), .int k a, .int j b => bif decide (k = j) then some (a == b) else none
    | some .string, .string a, .string b => some (a.data.toList == b.data.toList)
    | some (.pointer _), .pointer none, .pointer b => some b.isNone
    | some (.pointer _), .pointer (some _), .pointer none => some false
    | some (.interface _), .nilIface, .nilIface => some true
    | some (.interface _), .nilIface, .iface _ _ => some false
    | some (.interface _), .iface _ _, .nilIface => some false
    | some (.interface _), .iface tx vx, .iface ty vy => bif Nat.beq tx ty then (match P.info? tx with
      | some i => bif i.comparable then eqM d tx vx vy else none
      | none => none) else some false
    | some (.slice _), .slice none _ _, .slice b _ _ => some b.isNone
    | some (.slice _), .slice (some _) _ _, .slice none _ _ => some false
    | some (.map _ _), .map none, .map b => some b.isNone
    | some (.func _ _ _), .nilFunc, .nilFunc => some true
    | some (.func _ _ _), .nilFunc, .func (.func _) _ _ => some false
    | some (.func _ _ _), .func (.func _) _ _, .nilFunc => some false
    | some (.struct fs), .agg xs, .agg ys => bif P.stoodInHeld t then none else eqF d fs.toList xs.toList ys.toList
    | _, _, _ => none
def eqF : Nat → List Field → List Value → List Value → Option Bool
  | 0, _, _, _ => none
  | _ + 1, [], _, _ => some true
  | d + 1, f :: fs, xs, ys =>
    bif f.name == "_" then none else
    match partM P f.type xs f.offset, partM P f.type ys f.offset with
    | some x, some y => match eqM d f.type x y with
      | some true => eqF d fs xs ys
      | some false => some false
      | none => none
    | _, _ => none
end

def isC : Operand → Bool
  | .const _ => true
  | _ => false
/-- The guard ahead of == and != says nothing. -/
def guardM (t : TypeId) (x y : Operand) (a b : Value) : Bool :=
  match a, b with
  | .nilIface, .nilIface => isC x || isC y
  | .agg _, .agg _ => !P.eqGuardType P.depth t
  | a, b => !(isJunk a) && !(isJunk b)

def bitsM (op : BinOp) (k : IntKind) (x y : Int) : Option Value :=
  match op with
  | .and => some (.int k (k.wrap (BitVec.ofInt k.bits x &&& BitVec.ofInt k.bits y).toNat))
  | .or => some (.int k (k.wrap (BitVec.ofInt k.bits x ||| BitVec.ofInt k.bits y).toNat))
  | .xor => some (.int k (k.wrap (BitVec.ofInt k.bits x ^^^ BitVec.ofInt k.bits y).toNat))
  | .andNot => some (.int k (k.wrap (BitVec.ofInt k.bits x &&& ~~~BitVec.ofInt k.bits y).toNat))
  | _ => none

def ltL : List UInt8 → List UInt8 → Bool
  | _, [] => false
  | [], _ :: _ => true
  | a :: x, b :: y => a < b || (a == b && ltL x y)

def intM (op : BinOp) (k : IntKind) (a b : Int) : Option Value :=
  match op with
  | .add => some (mkI k (wrapF k (addF a b)))
  | .sub => some (mkI k (wrapF k (subF a b)))
  | .mul => some (mkI k (wrapF k (mulF a b)))
  | .quo => bif eqF' b 0 then none else some (mkI k (k.wrap (a.tdiv b)))
  | .rem => bif eqF' b 0 then none else some (mkI k (a.tmod b))
  | .eql => some (.bool (eqF' a b))
  | .neq => some (.bool (!(eqF' a b)))
  | .lss => some (.bool (ltF a b))
  | .leq => some (.bool (leF a b))
  | .gtr => some (.bool (ltF b a))
  | .geq => some (.bool (leF b a))
  | op => bitsM op k a b
def shiftM (left : Bool) (k : IntKind) (a : Int) (b : Nat) : Value :=
  bif left then mkI k (k.wrap (a * 2 ^ (min b k.bits))) else mkI k (a.fdiv (2 ^ (min b k.bits)))
def strM (op : BinOp) (a b : ByteArray) : Option Value :=
  match op with
  | .add => bif Nat.ble (a.size + b.size) 1000000000 then forceL (a.data.toList ++ b.data.toList) fun l => some (.string ⟨⟨l⟩⟩) else none
  | .eql => some (.bool (a.data.toList == b.data.toList))
  | .neq => some (.bool (!(a.data.toList == b.data.toList)))
  | .lss => some (.bool (ltL a.data.toList b.data.toList))
  | .leq => some (.bool (ltL a.data.toList b.data.toList || (a.data.toList == b.data.toList)))
  | .gtr => some (.bool (!(ltL a.data.toList b.data.toList || (a.data.toList == b.data.toList))))
  | .geq => some (.bool (!(ltL a.data.toList b.data.toList)))
  | _ => none
def restM (op : BinOp) (t : TypeId) (x y : Value) : Option Value :=
  match op with
  | .eql => match eqM P 20 t x y with
    | some b => some (.bool b)
    | none => none
  | .neq => match eqM P 20 t x y with
    | some b => some (.bool (!b))
    | none => none
  | _ => none
def isSh : BinOp → Option Bool
  | .shl => some true
  | .shr => some false
  | _ => none
def intM2 (op : BinOp) (k j : IntKind) (a b : Int) : Option Value :=
  match isSh op with
  | some l => match b with
    | .ofNat n => some (shiftM l k a n)
    | .negSucc _ => none
  | none => bif sameK k j then intM op k a b else none
def binM (op : BinOp) (t : TypeId) (x y : Value) : Option Value :=
  match x, y with
  | .int k a, .int j b => intM2 op k j a b
  | .string a, .string b => strM op a b
  | x, y => restM P op t x y

def unM (op : UnOp) (x : Value) : Option Value :=
  match op, x with
  | .neg, .int k n => some (mkI k (k.wrap (0 - n)))
  | .xor, .int k n => bitsM .xor k (if k.signed then -1 else k.max) n
  | .not, .bool b => some (.bool !b)
  | _, _ => none

def bytesOf : List Value → Option (List UInt8)
  | [] => some []
  | .int .u8 n :: r => match bytesOf r with
    | some l => some (UInt8.ofNat n.toNat :: l)
    | none => none
  | _ :: _ => none
def intsOf (l : List UInt8) : List Value := l.map fun b => .int .u8 b.toNat

def convM (m : Mem) (s t : TypeId) (x : Value) : Res :=
  match P.underlying s, P.underlying t, x with
  | some _, some (.int k), .int _ n => some (mkI k (wrapF k n), m)
  | some _, some .string, .string b => some (.string b, m)
  | some _, some .string, .int _ n => some (.string (Utf8.encode n), m)
  | some _, some (.slice e), .string b => match P.underlying e with
    | some (.int .u8) => match sizeM P e with
      | some 1 => forceL (intsOf b.data.toList) fun cs => newM m (.cells cs e false) fun i => .slice (some ⟨i, 0, none⟩) b.size OPEN
      | _ => none
    | _ => none
  | some (.slice e), some .string, .slice none _ _ => match P.underlying e with
    | some (.int .u8) => some (.string ByteArray.empty, m)
    | _ => none
  | some (.slice e), some .string, .slice (some a) n _ => match P.underlying e with
    | some (.int .u8) => match readM m a n with
      | some cs => match bytesOf cs with
        | some l => some (.string ⟨⟨l⟩⟩, m)
        | none => none
      | none => none
    | _ => none
  | _, _, _ => none

/-! ### structs and arrays -/
def fillM (place : Nat → Option (Nat × Nat)) (cells : List Value) : List (Nat × Value) → Option (List Value)
  | [] => some cells
  | (i, v) :: rest => match place i with
    | none => none
    | some (off, size) =>
      bif (Nat.beq v.cells.size size && !(isWide v)) && Nat.ble (off + v.cells.size) cells.length then forceL (putL cells off v.cells.toList) fun cs => fillM place cs rest else none

def placesM : List Field → Option (List (Nat × Nat))
  | [] => some []
  | f :: r => match sizeM P f.type, placesM r with
    | some n, some l => some ((f.offset, n) :: l)
    | _, _ => none

def repL (z : List Value) : Nat → List Value
  | 0 => []
  | n + 1 => z ++ repL z n

def zerosM (e : TypeId) (n : Nat) : Option (List Value) :=
  match sizeM P e with
  | some s => bif Nat.beq (n * s) 0 then some [] else match zeroM P e with
    | some z => bif Nat.beq z.cells.size s then some (repL z.cells.toList n) else none
    | none => none
  | none => none

def buildM (t : TypeId) (parts : List (Nat × Value)) : Option Value :=
  match zeroM P t, P.underlying t with
  | some z, some (.struct fs) => match placesM P fs.toList with
    | some ps => match fillM (ps[·]?) z.cells.toList parts with
      | some cs => some (.agg ⟨cs⟩)
      | none => none
    | none => none
  | some z, some (.array _ e) => match sizeM P e with
    | some s => match fillM (fun i => some (i * s, s)) z.cells.toList parts with
      | some cs => some (.agg ⟨cs⟩)
      | none => none
    | none => none
  | _, _ => none

def buildSliceM (m : Mem) (t : TypeId) (n : Nat) (parts : List (Nat × Value)) : Res :=
  match P.underlying t with
  | some (.slice e) => match sizeM P e, zerosM P e n with
    | some s, some zs => bif Nat.ble (n * s) 16777216 && Nat.blt n OPEN then match fillM (fun i => some (i * s, s)) zs parts with
      | some cs => newM m (.cells cs e false) fun i => .slice (some ⟨i, 0, none⟩) n n
      | none => none else none
    | _, _ => none
  | _ => none

def makeSliceM (m : Mem) (t : TypeId) (l c : Value) : Res :=
  match P.underlying t, l, c with
  | some (.slice e), .int _ (.ofNat l), .int _ (.ofNat c) => match P.info? e with
    | some i => bif Nat.ble l c && Nat.ble c 10000000 && Nat.ble (c * i.bytes) 100000000 then match zerosM P e c with
      | some zs => forceL zs fun zs => newM m (.cells zs e false) fun k => .slice (some ⟨k, 0, none⟩) l c
      | none => none else none
    | none => none
  | _, _, _ => none

/-! ### places -/
def plus (a : Addr) (n : Nat) : Addr := forceN (a.off + n) fun o => ⟨a.block, o, none⟩

def fieldAtM (s : TypeId) (x : Value) (i : Nat) : Option Value :=
  match P.underlying s, x with
  | some (.struct fs), .pointer (some a) => match fs.toList[i]?, a.spot with
    | some f, none => match sizeM P f.type with
      | some (_ + 1) => some (.pointer (some (plus a f.offset)))
      | _ => none
    | _, _ => none
  | _, _ => none

def fieldM (t : TypeId) (x : Value) (i : Nat) : Option Value :=
  match P.underlying t, x with
  | some (.struct fs), .agg cs => match fs.toList[i]? with
    | some f => partM P f.type cs.toList f.offset
    | none => none
  | _, _ => none

def indexAtM (t : TypeId) (x i : Value) : Option Value :=
  match P.underlying t, x, i with
  | some (.array n e), .pointer (some a), .int _ (.ofNat k) => match sizeM P e, a.spot with
    | some s, none => bif Nat.blt k n then some (.pointer (some (plus a (k * s)))) else none
    | _, _ => none
  | some (.slice e), .slice (some a) n _, .int _ (.ofNat k) => match sizeM P e, a.spot with
    | some s, none => bif Nat.blt k n then some (.pointer (some (plus a (k * s)))) else none
    | _, _ => none
  | _, _, _ => none

def indexM (t : TypeId) (x i : Value) : Option Value :=
  match P.underlying t, x, i with
  | some (.array n e), .agg cs, .int _ (.ofNat k) => match sizeM P e with
    | some s => bif Nat.blt k n then partM P e cs.toList (k * s) else none
    | none => none
  | some .string, .string s, .int _ (.ofNat k) => match s.data.toList[k]? with
    | some b => some (.int .u8 b.toNat)
    | none => none
  | _, _, _ => none

/-- The bounds of a slice expression: what is given must be a number that fits. -/
def boundM (v : Option Value) (most dflt : Nat) : Option Nat :=
  match v with
  | none => some dflt
  | some (.int _ (.ofNat k)) => bif Nat.ble k most then some k else none
  | some _ => none

def sliceM (t : TypeId) (x : Value) (lo hi mx : Option Value) : Option Value :=
  match P.underlying t, x with
  | some .string, .string s =>
    match mx, boundM hi s.size s.size with
    | none, some h => match boundM lo h 0 with
      | some l => some (.string ⟨⟨(s.data.toList.drop l).take (h - l)⟩⟩)
      | none => none
    | _, _ => none
  | some (.slice e), .slice none n c =>
    -- nil: nothing to cut
    match n, c, boundM mx 0 0, boundM hi 0 0, boundM lo 0 0 with
    | 0, 0, some _, some _, some _ => bif (mx.isSome && hi.isNone) || (sizeM P e).isNone then none else some (.slice none 0 0)
    | _, _, _, _, _ => none
  | some (.slice e), .slice (some a) n c =>
    match sizeM P e, a.spot with
    | some s, none =>
      bif Nat.blt c OPEN then
        match boundM mx c c with
        | some m => match (match hi, mx with | none, some _ => none | hi, _ => boundM hi m n) with
          | some h => match boundM lo h 0 with
            | some l => some (.slice (some (bif Nat.beq m l then a else plus a (l * s))) (h - l) (m - l))
            | none => none
          | none => none
        | none => none
      else
        -- the capacity is not known: no bound beyond the length
        match mx with
        | some _ => match hi, boundM mx n n with
          | some _, some m => bif Nat.blt m OPEN && Nat.ble c (OPEN + 1) then match boundM hi m n with
            | some h => match boundM lo h 0 with
              | some l => some (.slice (some (bif Nat.beq m l then a else plus a (l * s))) (h - l) (m - l))
              | none => none
            | none => none else none
          | _, _ => none
        | none => match boundM hi n n with
          | some h => match boundM lo h 0 with
            | some 0 => some (.slice (some a) h c)
            | some (l + 1) => let l := l + 1
              bif Nat.blt l n then some (.slice (some (plus a (l * s))) (h - l) (OPEN + 1)) else some (.slice (some a) 0 (OPEN + 2))
            | none => none
          | none => none
    | _, _ => none
  | some (.array n e), .pointer (some a) =>
    match sizeM P e, a.spot, mx with
    | some s, none, none => match boundM hi n n with
      | some h => match boundM lo h 0 with
        | some l => bif Nat.blt n OPEN then some (.slice (some (bif Nat.beq n l then a else plus a (l * s))) (h - l) (n - l)) else none
        | none => none
      | none => none
    | _, _, _ => none
  | _, _ => none

/-! ### append, copy -/
def newCells (m : Mem) (s : Nat) (y : Value) : Option (Nat × List Value) :=
  match y with
  | .slice none n _ => bif Nat.beq n 0 then some (0, []) else none
  | .slice (some a) n _ => match readM m a (n * s) with
    | some cs => some (n, cs)
    | none => none
  | .string b => bif Nat.beq s 1 then some (b.size, intsOf b.data.toList) else none
  | _ => none

def isSeqD : TypeDesc → Bool
  | .slice _ | .string => true
  | _ => false
def appendM (m : Mem) (t t2 : TypeId) (x y : Value) : Res :=
  match P.underlying t, P.underlying t2 with
  | some (.slice e), some d2 =>
    bif !(isSeqD d2) then none else
    match P.info? e, x with
    | some i, .slice a n c => match newCells m i.size y, zeroM P e with
      | some (k, new), some z =>
        bif Nat.ble ((3 * (n + k) + 4000) * i.bytes) 281474976710656 && Nat.ble (n + k) 1000000000 && Nat.beq z.cells.size i.size && new.all flat then
        bif Nat.beq k 0 then (match a with | none => bif Nat.beq n 0 && Nat.beq c 0 then some (x, m) else none | some _ => bif Nat.ble c (OPEN + 1) && Nat.ble n c then some (x, m) else none) else
        match a with
        | none => bif Nat.beq n 0 && Nat.beq c 0 then forceL new fun cs => newM m (.cells cs e false) fun b => .slice (some ⟨b, 0, none⟩) k OPEN else none
        | some ad =>
          bif Nat.blt c OPEN then
            bif Nat.ble (n + k) c then
              match ad.spot, writeM m (plus ad (n * i.size)) new with
              | none, some m' => some (.slice a (n + k) c, m')
              | _, _ => none
            else match readM m ad (n * i.size) with
              | some old => forceL (old ++ new) fun cs => newM m (.cells cs e false) fun b => .slice (some ⟨b, 0, none⟩) (n + k) OPEN
              | none => none
          else bif Nat.beq c OPEN && Nat.beq ad.off 0 then
            match ad.spot, Hp.get m.H ad.block with
            | none, some (.cells cs T false) =>
              bif Nat.beq cs.length (n * i.size) && Nat.beq T e && Nat.ble ad.block most && Nat.blt ad.block m.n then
                forceL (cs ++ new) fun cs => newM (killM m ad.block) (.cells cs e false) fun b => .slice (some ⟨b, 0, none⟩) (n + k) OPEN
              else none
            | _, _ => none
          else none
        else none
      | _, _ => none
    | _, _ => none
  | _, _ => none

def copyM (m : Mem) (t : TypeId) (x y : Value) : Res :=
  match P.underlying t, x with
  | some (.slice e), .slice a n c => match sizeM P e with
    | some s =>
      match (match y with
        | .slice none k _ => bif Nat.beq k 0 then some (0, []) else none
        | .slice (some b) k _ => match readM m b (Nat.min k n * s) with
          | some cs => some (Nat.min k n, cs)
          | none => none
        | .string b => some (Nat.min b.size n, intsOf (b.data.toList.take (Nat.min b.size n)))
        | _ => none : Option (Nat × List Value)) with
      | some (k, cs) => match a with
        | none => bif Nat.beq k 0 then some (.int .i64 0, m) else none
        | some ad => bif Nat.beq cs.length 0 then some (.int .i64 k, m) else bif Nat.ble c (OPEN + 1) then match writeM m ad cs with
          | some m' => some (.int .i64 k, m')
          | none => none else none
      | none => none
    | none => none
  | _, _ => none

def lenM (m : Mem) (t : TypeId) (x : Value) : Option Value :=
  match P.underlying t, x with
  | some .string, .string s => some (.int .i64 s.data.toList.length)
  | some (.array n _), _ => some (.int .i64 n)
  | some (.slice _), .slice _ n _ => some (.int .i64 n)
  | some (.map _ _), .map none => some (.int .i64 0)
  | some (.map _ _), .map (some r) => match Hp.get m.H r with
    | some (.map es _) => some (.int .i64 es.length)
    | _ => none
  | _, _ => none

def maxM : List Value → Option Value
  | [.int k a, .int _ b] => some (.int k (if b > a then b else a))
  | _ => none
def minM : List Value → Option Value
  | [.int k a, .int _ b] => some (.int k (if b < a then b else a))
  | _ => none

/-! ### maps -/
/-- A key that may be compared. -/
def keyOk (t : TypeId) (v : Value) : Bool :=
  match P.underlying t, v with
  | some (.int _), .int _ _ | some .string, .string _ | some .bool, .bool _ => true
  | some (.struct fs), .agg cs => fs.toList.all (fun f => (match P.underlying f.type with | some (.int _) | some .string | some .bool => true | _ => false)) && cs.toList.all pureV
  | _, _ => false

def findM (t : TypeId) (k : Value) : List MapEntry → Nat → Option (Option (Nat × MapEntry))
  | [], _ => some none
  | e :: es, i => match eqM P 20 t k e.key with
    | some true => some (some (i, e))
    | some false => findM t k es (i + 1)
    | none => none

def lookupM (m : Mem) (t : TypeId) (x k : Value) (ok : Bool) : Option Value :=
  match P.underlying t with
  | some (.map kt et) =>
    bif keyOk P kt k then
      match (match x with
        | .map none => some []
        | .map (some r) => match Hp.get m.H r with
          | some (.map es _) => some es
          | _ => none
        | _ => none : Option (List MapEntry)) with
      | some es => match findM P kt k es 0 with
        | some (some (_, e)) => some (bif ok then .tuple ⟨[e.val, .bool true]⟩ else e.val)
        | some none => match zeroM P et with
          | some z => some (bif ok then .tuple ⟨[z, .bool false]⟩ else z)
          | none => none
        | none => none
      | none => none
    else none
  | _ => none

def mapUpdateM (m : Mem) (t : TypeId) (x k v : Value) : Option Mem :=
  match P.underlying t, x with
  | some (.map kt _), .map (some r) =>
    bif keyOk P kt k then match Hp.get m.H r with
      | some (.map es clock) => match findM P kt k es 0 with
        | some (some (i, e)) => bif Instr.sameBits 10000 e.key k then forceL (es.set i { e with key := k, val := v }) fun es => setM m r (.map es clock) else none
        | some none => forceL (es ++ [{ key := k, val := v, born := clock }]) fun es => setM m r (.map es (clock + 1))
        | none => none
      | _ => none
    else none
  | _, _ => none

/-! ### the operations that call nothing -/
def noM (v : Option Value) (m : Mem) : Res :=
  match v with
  | some v => some (v, m)
  | none => none
def memM (m : Option Mem) : Res :=
  match m with
  | some m => some (undef, m)
  | none => none

def oPick (m : Mem) (c a b : Value) : Res :=
  match c with
  | .bool true => some (a, m)
  | .bool false => some (b, m)
  | _ => none
def oAlloc (m : Mem) (e : TypeId) : Res :=
  match zeroM P e with
  | some z => newM m (.cells z.cells.toList e false) fun b => .pointer (some ⟨b, 0, none⟩)
  | none => none
def oBox (m : Mem) (e : TypeId) (v : Value) : Res :=
  bif v.cells.toList.all flat then newM m (.cells v.cells.toList e false) fun b => .pointer (some ⟨b, 0, none⟩) else none
def oLoad (m : Mem) (t : TypeId) (v : Value) : Res :=
  match v with
  | .pointer (some a) => noM (loadM P m t a) m
  | _ => none
def oStore (m : Mem) (t : TypeId) (x v : Value) : Res :=
  match x with
  | .pointer (some a) => memM (storeM P m t a v)
  | _ => none
def oNil (m : Mem) (x : Value) : Res :=
  match x with
  | .pointer (some a) => some (.pointer (some a), m)
  | .func (.func f) a b => some (.func (.func f) a b, m)
  | _ => none
def isEq : BinOp → Bool
  | .eql | .neq => true
  | _ => false
def oBin (m : Mem) (op : BinOp) (t : TypeId) (x y : Operand) (a b : Value) : Res :=
  bif isEq op then (bif guardM P t x y a b then noM (binM P op t a b) m else none) else noM (binM P op t a b) m
def oIface (m : Mem) (t : TypeId) (v : Value) : Res :=
  match P.underlying t with
  | some d => (match d with | .interface _ => none | _ => bif flat v || (match v with | .agg _ => true | _ => false) then some (.iface t v, m) else none)
  | none => none
def oRange (m : Mem) (t : TypeId) (v : Value) : Res :=
  match P.underlying t, v with
  | some .string, .string s => newM m (.iter s 0) fun b => .pointer (some ⟨b, 0, none⟩)
  | _, _ => none
def oNext (m : Mem) (v : Value) : Res :=
  match v with
  | .pointer (some ⟨r, 0, none⟩) => match Hp.get m.H r with
    | some (.iter s pos) => bif Nat.blt pos s.size then
        match setM m r (.iter s (pos + (Utf8.decode s pos).2)) with
        | some m' => some (.tuple ⟨[.bool true, .int .i64 pos, .int .i32 (Utf8.decode s pos).1]⟩, m')
        | none => none
      else some (.tuple ⟨[.bool false]⟩, m)
    | _ => none
  | _ => none
def oExtract (m : Mem) (v : Value) (i : Nat) : Res :=
  match v with
  | .tuple vs => noM vs.toList[i]? m
  | _ => none
def sliceDataM (m : Mem) (x : Value) : Res :=
  match x with
  | .slice none _ _ => some (.pointer none, m)
  | .slice (some a) n c => bif Nat.beq n 0 || Nat.beq c 0 || Nat.beq c (OPEN + 2) then none else some (.pointer (some a), m)
  | _ => none
def unsafeStrM (m : Mem) (pt : TypeId) (p l : Value) : Res :=
  match p, l with
  | .pointer none, .int _ (.ofNat 0) => some (.string ByteArray.empty, m)
  | .pointer (some a), .int _ (.ofNat n) =>
    match a.spot, Hp.get m.H a.block with
    | none, some (.cells cs T false) => match P.underlying pt, sizeM P T with
      | some (.pointer e), some 1 => bif Nat.blt 0 n && Nat.ble n 1000000000 && Nat.beq e T then match cutL cs a.off n with
        | some l => match bytesOf l, setM m a.block (.cells cs T true) with
          | some l, some m' => some (.string ⟨⟨l⟩⟩, m')
          | _, _ => none
        | none => none else none
      | _, _ => none
    | _, _ => none
  | _, _ => none
def builtinM (m : Mem) (b : Builtin) (vs : List Value) (tys : List TypeId) : Res :=
  match b, vs, tys with
  | .len, [x], t :: _ => noM (lenM P m t x) m
  | .append, [x, y], t :: t2 :: _ => appendM P m t t2 x y
  | .copy, [x, y], t :: _ => copyM P m t x y
  | .max, vs, _ => noM (maxM vs) m
  | .min, vs, _ => noM (minM vs) m
  | .unsafeSliceData, [x], _ => sliceDataM m x
  | .unsafeString, [p, l], t :: _ => unsafeStrM P m t p l
  | _, _, _ => none

def opM (fr : Fr) (m : Mem) (o : Op) : Res :=
  match o with
  | .move x | .assign x => some (ev fr x, m)
  | .pick c a b => oPick m (ev fr c) (ev fr a) (ev fr b)
  | .alloc e => oAlloc P m e
  | .box e x => oBox m e (ev fr x)
  | .build t ps => noM (buildM P t (evP fr ps.toList)) m
  | .buildSlice t n ps => buildSliceM P m t n (evP fr ps.toList)
  | .load t x => oLoad P m t (ev fr x)
  | .store t x y => oStore P m t (ev fr x) (ev fr y)
  | .nilCheck x => oNil m (ev fr x)
  | .binOp op t x y _ => oBin P m op t x y (ev fr x) (ev fr y)
  | .unOp op _ x => noM (unM op (ev fr x)) m
  | .convert s t x => convM P m s t (ev fr x)
  | .makeInterface t x => oIface P m t (ev fr x)
  | .makeFunc (.func f) first cap => some (.func (.func f) ⟨evL fr first.toList⟩ ⟨evL fr cap.toList⟩, m)
  | .makeSlice t l c => makeSliceM P m t (ev fr l) (ev fr c)
  | .slice t x lo hi mx => noM (sliceM P t (ev fr x) (evO fr lo) (evO fr hi) (evO fr mx)) m
  | .fieldAddr s x i => noM (fieldAtM P s (ev fr x) i) m
  | .field t x i => noM (fieldM P t (ev fr x) i) m
  | .indexAddr t x i => noM (indexAtM P t (ev fr x) (ev fr i)) m
  | .index t x i => noM (indexM P t (ev fr x) (ev fr i)) m
  | .extract x i => oExtract m (ev fr x) i
  | .call ⟨.builtin b, xs, tys⟩ => builtinM P m b (evL fr xs.toList) tys.toList
  | _ => none

/-! ### the operations, made ready -/
structure OpC where
  run : Fr → Mem → Res
def kMove (x : XC) (fr : Fr) (m : Mem) : Res := some (x.run fr, m)
def kPick (c a b : XC) (fr : Fr) (m : Mem) : Res := oPick m (c.run fr) (a.run fr) (b.run fr)
def kBox (e : TypeId) (x : XC) (fr : Fr) (m : Mem) : Res := oBox m e (x.run fr)
def kLoad (t : TypeId) (x : XC) (fr : Fr) (m : Mem) : Res := oLoad P m t (x.run fr)
def kStore (t : TypeId) (x y : XC) (fr : Fr) (m : Mem) : Res := oStore P m t (x.run fr) (y.run fr)
def kNil (x : XC) (fr : Fr) (m : Mem) : Res := oNil m (x.run fr)
def kBin (op : BinOp) (t : TypeId) (x y : Operand) (cx cy : XC) (fr : Fr) (m : Mem) : Res := oBin P m op t x y (cx.run fr) (cy.run fr)
def kUn (op : UnOp) (x : XC) (fr : Fr) (m : Mem) : Res := noM (unM op (x.run fr)) m
def kConv (s t : TypeId) (x : XC) (fr : Fr) (m : Mem) : Res := convM P m s t (x.run fr)
def kFieldAddr (s : TypeId) (x : XC) (i : Nat) (fr : Fr) (m : Mem) : Res := noM (fieldAtM P s (x.run fr) i) m
def kField (s : TypeId) (x : XC) (i : Nat) (fr : Fr) (m : Mem) : Res := noM (fieldM P s (x.run fr) i) m
def kIndexAddr (t : TypeId) (x i : XC) (fr : Fr) (m : Mem) : Res := noM (indexAtM P t (x.run fr) (i.run fr)) m
def kIndex (t : TypeId) (x i : XC) (fr : Fr) (m : Mem) : Res := noM (indexM P t (x.run fr) (i.run fr)) m
def kExtract (x : XC) (i : Nat) (fr : Fr) (m : Mem) : Res := oExtract m (x.run fr) i
def kBuiltin (b : Builtin) (xs : LC) (tys : List TypeId) (fr : Fr) (m : Mem) : Res := builtinM P m b (xs.run fr) tys
def compOp (o : Op) : OpC :=
  match o with
  | .move x => ⟨kMove (compX x)⟩
  | .assign x => ⟨kMove (compX x)⟩
  | .pick c a b => ⟨kPick (compX c) (compX a) (compX b)⟩
  | .box e x => ⟨kBox e (compX x)⟩
  | .load t x => ⟨kLoad P t (compX x)⟩
  | .store t x y => ⟨kStore P t (compX x) (compX y)⟩
  | .nilCheck x => ⟨kNil (compX x)⟩
  | .binOp op t x y _ => ⟨kBin P op t x y (compX x) (compX y)⟩
  | .unOp op _ x => ⟨kUn op (compX x)⟩
  | .convert s t x => ⟨kConv P s t (compX x)⟩
  | .fieldAddr s x i => ⟨kFieldAddr P s (compX x) i⟩
  | .field t x i => ⟨kField P t (compX x) i⟩
  | .indexAddr t x i => ⟨kIndexAddr P t (compX x) (compX i)⟩
  | .index t x i => ⟨kIndex P t (compX x) (compX i)⟩
  | .extract x i => ⟨kExtract (compX x) i⟩
  | .call ⟨.builtin b, xs, tys⟩ => ⟨kBuiltin P b (compL xs.toList) tys.toList⟩
  | o => ⟨fun fr m => opM P fr m o⟩
theorem compOp_run (o : Op) (fr : Fr) (m : Mem) : (compOp P o).run fr m = opM P fr m o := by
  unfold compOp
  split <;> simp only [kMove, kPick, kBox, kLoad, kStore, kNil, kBin, kUn, kConv, kFieldAddr, kField, kIndexAddr, kIndex, kExtract, kBuiltin, opM, compX_run, compL_run]

/-- The operation's own constants hold no addresses. -/
def okOp (nt gl : Nat) (o : Op) : Bool := o.operands.toList.all (okX nt gl)

end Go.Sx
