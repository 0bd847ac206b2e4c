/- The machine's runs: regions (also those that draw their order), code, calls. -/
import Derived.Test.YtdmdghooamchfaaDoorSxSym
namespace Go.Sx
set_option linter.all false
open Go

inductive EK where
  | noEscape | makeNoZero | indexByteString | countString | indexString | copyString
  deriving DecidableEq


def findE : List (FuncId × EK) → FuncId → Option EK
  | [], _ => none
  | (g, k) :: r, f => bif Nat.beq g f then some k else findE r f

/-- A function, made ready. -/
structure FnC where
  run : List Value → Mem → Res
abbrev CallT := FuncId → FnC

def isUndef : Value → Bool
  | .tuple ⟨[]⟩ => true
  | _ => false

def wantV (lg : Lg) (v : Value) (b : Bool) : Option (Bool × Lg) :=
  match v with
  | .bool c => some (c == b, lg)
  | .complex k i t => match brL lg (.complex k i t) with
    | some (c, lg) => some (c == b, lg)
    | none => none
  | v => bif isUndef v then some (false, lg) else none
/-- Is the operation wanted? -/
def wantM (nt : Nat) (fr : Fr) (lg : Lg) (ops : List Oper) (o : Oper) : Option (Bool × Lg) :=
  match o.guard with
  | none => some (true, lg)
  | some (j, b) => match ops[j]? with
    | some p => match p.dst with
      | some t => bif Nat.blt t nt then wantV lg (fr.get t) b else none
      | none => none
    | none => none

def calleeM (v : Value) (vs : List Value) : Option (FuncId × List Value) :=
  match v with
  | .func (.func f) a b => some (f, a.toList ++ (vs ++ b.toList))
  | _ => none

def oCall (call : CallT) (m : Mem) (v : Value) (vs : List Value) : Res :=
  match calleeM v vs with
  | some (f, vs) => (call f).run vs m
  | none => none
def kCall (call : CallT) (x : XC) (xs : LC) (fr : Fr) (m : Mem) : Res := oCall call m (x.run fr) (xs.run fr)
def kCallF (f : FnC) (xs : LC) (fr : Fr) (m : Mem) : Res := f.run (xs.run fr) m
/-- What the machine does not know as it stands, by the log. -/
def kTry (P : Program) (c : OpC) (o : Op) (fr : Fr) (m : Mem) : Res :=
  match c.run fr m with
  | some r => some r
  | none => symM P fr m o
/-- One operation. -/
def stepC (P : Program) (call : CallT) (o : Op) : OpC :=
  match o with
  | .call ⟨.value (.func f), xs, _⟩ => ⟨kCallF (call f) (compL xs.toList)⟩
  | .call ⟨.value x, xs, _⟩ => ⟨kCall call (compX x) (compL xs.toList)⟩
  | op => ⟨kTry P (compOp P op) op⟩

def dstOk (nt : Nat) (d : Option Tmp) : Bool :=
  match d with
  | some d => Nat.blt d nt
  | none => true

structure DstC where
  run : Value → Fr → (Fr → Option S) → Option S
def dstC (d : Option Tmp) : DstC :=
  match d with
  | some t => ⟨setS (sel (t / 64 % 8)) (sel (t / 8 % 8)) (sel (t % 8))⟩
  | none => ⟨fun _ fr k => k fr⟩

structure RunC where
  run : S → Option S

def runPlain (c : OpC) (d : DstC) (next : RunC) (s : S) : Option S :=
  match s with
  | ⟨fr, m⟩ => match c.run fr m with
    | some (v, m') => bif Nat.ble m.hi m'.hi then d.run v fr fun fr => next.run ⟨fr, m'⟩ else none
    | none => none
def runGuard (nt : Nat) (all : List Oper) (o : Oper) (c : OpC) (d : DstC) (next : RunC) (s : S) : Option S :=
  match s with
  | ⟨fr, ⟨H, n, W, hi, lg⟩⟩ => match wantM nt fr lg all o with
    | some (true, lg) => runPlain c d next ⟨fr, ⟨H, n, W, hi, lg⟩⟩
    | some (false, lg) => d.run undef fr fun fr => next.run ⟨fr, ⟨H, n, W, hi, lg⟩⟩
    | none => none

def compOps (P : Program) (nt gl : Nat) (call : CallT) (all : List Oper) : List Oper → RunC
  | [] => ⟨some⟩
  | o :: r => bif dstOk nt o.dst && okOp nt gl o.op then match o.guard with
    | none => ⟨fun s => runPlain (stepC P call o.op) (dstC o.dst) (compOps P nt gl call all r) s⟩
    | some _ => ⟨fun s => runGuard nt all o (stepC P call o.op) (dstC o.dst) (compOps P nt gl call all r) s⟩
    else ⟨fun _ => none⟩

/-! ### regions that draw their order -/
/-- An operation of the region, and the numbers that it used. -/
structure Rec where
  i : Nat
  lo : Nat
  hi : Nat

inductive Cls where
  | free
  | one (b : Nat)
  | all

def clsM (fr : Fr) (o : Op) : Cls :=
  match o with
  | .move _ | .assign _ | .pick .. | .alloc _ | .box .. | .build .. | .buildSlice .. | .nilCheck _ | .binOp .. | .unOp .. | .makeInterface .. | .makeFunc .. | .makeMap .. | .makeSlice ..
  | .slice .. | .fieldAddr .. | .field .. | .indexAddr .. | .index .. | .extract .. | .range .. => .free
  | .convert _ _ x => match ev fr x with
    | .int _ _ | .string _ => .free
    | _ => .all
  | .call ⟨.builtin .len, xs, _⟩ => match evL fr xs.toList with
    | [.slice _ _ _] | [.string _] => .free
    | _ => .all
  | .call ⟨.builtin .min, _, _⟩ | .call ⟨.builtin .max, _, _⟩ | .call ⟨.builtin .unsafeSliceData, _, _⟩ => .free
  | .load _ x | .store _ x _ => match ev fr x with
    | .pointer (some a) => .one a.block
    | _ => .all
  | _ => .all

def hideL (H : Hp AB) : List Nat → Hp AB
  | [] => H
  | b :: r => Hp.put H b none fun H => hideL H r
/-- What was hidden comes back. -/
def backL (H0 H : Hp AB) : List Nat → Hp AB
  | [] => H
  | b :: r => Hp.put H b (Hp.get H0 b) fun H => backL H0 H r

def span : Nat → Nat → List Nat
  | _, 0 => []
  | lo, n + 1 => lo :: span (lo + 1) n

def hidden : List Rec → List Nat
  | [] => []
  | r :: rs => span r.lo (r.hi - r.lo) ++ hidden rs

def hasN (l : List Nat) (b : Nat) : Bool := l.any (Nat.beq b)
def apartN (a b : List Nat) : Bool := a.all fun x => !hasN b x
def bigIds (l : List Nat) : Bool := l.all fun b => Nat.ble b most

/-- The records that are not ordered ahead of operation i. -/
def openR (b : List Nat) (rs : List Rec) : List Rec := rs.filter fun r => !(hasN b r.i)

def viewM (m : Mem) (c : Cls) (us : List Rec) : Option Mem :=
  match m with
  | ⟨H, n, _, hi, lg⟩ => match c with
    | .free => some ⟨hp0, n, [], hi, lg⟩
    | .one b => bif hasN (hidden us) b || !(Nat.ble b most) then none else Hp.put hp0 b (Hp.get H b) fun H => some ⟨H, n, [], hi, lg⟩
    | .all => bif bigIds (hidden us) then some ⟨hideL H (hidden us), n, [], hi, lg⟩ else none

/-- What the operation left is put to what was there; its numbers are not used again in the region. -/
def mergeM (m m' : Mem) : Option Mem :=
  bif Nat.ble m'.hi m.n then (match m with | ⟨H, n, W, hi, _⟩ => some ⟨H, n, W, hi, m'.lg⟩) else
  bif Nat.ble m'.hi most then force8 (backL m'.H m.H (span m.n (m'.hi - m.n))) fun H => forceN m'.hi fun n => some ⟨H, n, m.W, n, m'.lg⟩ else none

/-- One operation of such a region: its value and the memory behind it go to k. -/
def drawOne (fr : Fr) (m : Mem) (o : Oper) (b : List Nat) (rs : List Rec) (op : OpC) (k : Value → Mem → Option S) : Option S :=
  let us := openR b rs
  let c := clsM fr o.op
  match viewM m c us with
  | some mv => match op.run fr mv with
    | some (v, m') =>
      match m'.W, Nat.ble m.hi m'.hi with
      | [], true => match mergeM m m' with
        | some m2 => k v m2
        | none => none
      | _, _ => none
    | none => none
  | none => none

def runDraw (P : Program) (nt gl : Nat) (call : CallT) (all : List Oper) : List Oper → Nat → List (List Nat) → List Rec → S → Option S
  | [], _, _, _, s => some s
  | _ :: _, _, [], _, _ => none
  | o :: r, i, b :: bs, rs, ⟨fr, ⟨H, n, W, hi, lg⟩⟩ => match wantM nt fr lg all o, dstOk nt o.dst && okOp nt gl o.op with
    | some (true, lg), true => drawOne fr ⟨H, n, W, hi, lg⟩ o b rs (stepC P call o.op) fun v m2 =>
        (dstC o.dst).run v fr fun fr => runDraw P nt gl call all r (i + 1) bs (⟨i, n, m2.n⟩ :: rs) ⟨fr, m2⟩
    | some (false, lg), true => (dstC o.dst).run undef fr fun fr => runDraw P nt gl call all r (i + 1) bs rs ⟨fr, ⟨H, n, W, hi, lg⟩⟩
    | _, _ => none

/-- What must come ahead of each operation. -/
def addN (l : List Nat) (b : Nat) : List Nat := bif hasN l b then l else forceN b fun b => b :: l
def joinN : List Nat → List Nat → List Nat
  | [], b => b
  | x :: a, b => addN (joinN a b) x
def ancOf (acc : List (List Nat)) : List Edge → List Nat
  | [] => []
  | e :: r => bif Region.binds .any e then addN (joinN (acc.getD e.on []) (ancOf acc r)) e.on else ancOf acc r
def ancs : List Oper → List (List Nat) → List (List Nat)
  | [], acc => acc
  | o :: r, acc => forceL (ancOf acc o.after.toList) fun a => ancs r (acc ++ [a])
def tmpOf : Operand → List Tmp
  | .tmp t => [t]
  | _ => []
def slotsOf (ops : List Oper) (o : Oper) : List Tmp :=
  o.dst.toList ++ (o.op.operands.toList.flatMap tmpOf ++ (match o.guard with
    | none => []
    | some (j, _) => match ops[j]? with
      | some p => p.dst.toList
      | none => []))
def ordB (an : List (List Nat)) (i k : Nat) : Bool := bif Nat.blt i k then hasN (an.getD k []) i else hasN (an.getD i []) k
/-- Who writes a slot that operation i looks at or writes is ordered with it. -/
def slotOk (an : List (List Nat)) (i : Nat) (sl : List Tmp) : List Oper → Nat → Bool
  | [], _ => true
  | p :: r, k => (Nat.beq k i || (match p.dst with | none => true | some t => !(hasN sl t) || ordB an i k)) && slotOk an i sl r (k + 1)
def edgesOk (i : Nat) : List Edge → Bool
  | [] => true
  | e :: r => (!(Region.binds .any e) || Nat.blt e.on i) && edgesOk i r
def opsOk (ops : List Oper) (an : List (List Nat)) : List Oper → Nat → Bool
  | [], _ => true
  | o :: r, i => edgesOk i o.after.toList && (slotOk an i (slotsOf ops o) ops 0 && opsOk ops an r (i + 1))
/-- The region's operations are in an order that its edges allow, and each one's slots are ordered with their writers. -/
def drawOk (ops : Array Oper) : Bool := opsOk ops.toList (ancs ops.toList []) ops.toList 0

/-! ### code -/
structure CodeC where
  run : S → Option (Ex × S)

def loopN (f : CodeC) : Nat → S → Option (Ex × S)
  | 0, _ => none
  | n + 1, s => match f.run s with
    | some (.normal, s) => loopN f n s
    | r => r
def cSeq (a b : CodeC) (s : S) : Option (Ex × S) :=
  match a.run s with
  | some (.normal, s) => b.run s
  | r => r
def cCond (c : XC) (a b : CodeC) (s : S) : Option (Ex × S) :=
  match c.run s.fr with
  | .bool true => a.run s
  | .bool false => b.run s
  | v => match s with
    | ⟨fr, ⟨H, n, W, hi, lg⟩⟩ => match brL lg v with
      | some (true, lg) => a.run ⟨fr, ⟨H, n, W, hi, lg⟩⟩
      | some (false, lg) => b.run ⟨fr, ⟨H, n, W, hi, lg⟩⟩
      | none => none
def cBlock (id : Nat) (c : CodeC) (s : S) : Option (Ex × S) :=
  match c.run s with
  | some (.exit j, s) => bif Nat.beq j id then some (.normal, s) else some (.exit j, s)
  | r => r
def cRegion (r : RunC) (s : S) : Option (Ex × S) :=
  match r.run s with
  | some s => some (.normal, s)
  | none => none

/-- Loops that are taken by what is shown of them, by their places. -/
abbrev LpT := List Bool → Option (S → Option (Ex × S))
def cLoop (c : CodeC) (l : Option (S → Option (Ex × S))) (s : S) : Option (Ex × S) :=
  match l with
  | some f => f s
  | none => loopN c 1000000 s

def compC (P : Program) (nt gl : Nat) (call : CallT) (lp : LpT) : List Bool → Code → CodeC
  | _, .skip => ⟨fun s => some (.normal, s)⟩
  | _, .label _ => ⟨fun s => some (.normal, s)⟩
  | _, .region _ ops d => match d with
    | false => ⟨fun s => cRegion (compOps P nt gl call ops.toList ops.toList) s⟩
    | true => bif drawOk ops then ⟨fun s => cRegion ⟨runDraw P nt gl call ops.toList ops.toList 0 (ancs ops.toList []) []⟩ s⟩ else ⟨fun _ => none⟩
  | q, .seq a b => ⟨fun s => cSeq (compC P nt gl call lp (q ++ [false]) a) (compC P nt gl call lp (q ++ [true]) b) s⟩
  | q, .cond c a b => bif okX nt gl c then ⟨fun s => cCond (compX c) (compC P nt gl call lp (q ++ [false]) a) (compC P nt gl call lp (q ++ [true]) b) s⟩ else ⟨fun _ => none⟩
  | q, .block id c => ⟨fun s => cBlock id (compC P nt gl call lp (q ++ [false]) c) s⟩
  | q, .loop c => ⟨fun s => cLoop (compC P nt gl call lp (q ++ [false]) c) (lp q) s⟩
  | _, .exit id => ⟨fun s => some (.exit id, s)⟩
  | _, .ret => ⟨fun s => some (.ret, s)⟩
  | _, _ => ⟨fun _ => none⟩

/-! ### calls -/
def idsL (ids : Value → List Nat) : List Value → List Nat
  | [] => []
  | v :: r => ids v ++ idsL ids r
def idsV : Nat → Value → List Nat
  | 0, _ => []
  | _ + 1, .pointer (some a) => [a.block]
  | _ + 1, .slice (some a) _ _ => [a.block]
  | _ + 1, .map (some b) => [b]
  | d + 1, .func _ a b => idsL (idsV d) a.toList ++ idsL (idsV d) b.toList
  | d + 1, .iface _ v => idsV d v
  | d + 1, .agg cs => idsL (idsV d) cs.toList
  | d + 1, .tuple cs => idsL (idsV d) cs.toList
  | _ + 1, _ => []
def idsE : List MapEntry → List Nat
  | [] => []
  | e :: r => idsV 10 e.val ++ idsE r
def idsB : AB → List Nat
  | .cells cs _ _ => idsL (idsV 10) cs
  | .map es _ => idsE es
  | .iter _ _ => []

/-- The new blocks that may be come to. -/
def reach (n0 : Nat) (H : Hp AB) : Nat → List Nat → List Nat → List Nat
  | 0, _, acc => acc
  | _ + 1, [], acc => acc
  | f + 1, b :: r, acc => bif Nat.blt b n0 || hasN acc b then reach n0 H f r acc else match Hp.get H b with
    | some ab => reach n0 H f (idsB ab ++ r) (b :: acc)
    | none => reach n0 H f r acc

def keepL (H' H : Hp AB) : List Nat → Hp AB
  | [] => H
  | b :: r => Hp.put H b (Hp.get H' b) fun H => keepL H' H r

def wOf (H : Hp AB) : List Nat → List Nat
  | [] => []
  | b :: r => (match Hp.get H b with | some ab => idsB ab | none => []) ++ wOf H r

def dedup : List Nat → List Nat → List Nat
  | [], acc => acc
  | b :: r, acc => bif hasN acc b then dedup r acc else dedup r (b :: acc)

/-- All addresses are in blocks below n. -/
def lowL (low : Value → Bool) : List Value → Bool
  | [] => true
  | v :: r => low v && lowL low r
def lowV (n : Nat) : Nat → Value → Bool
  | 0, _ => false
  | _ + 1, .pointer (some a) => Nat.blt a.block n
  | _ + 1, .slice (some a) _ _ => Nat.blt a.block n
  | _ + 1, .map (some b) => Nat.blt b n
  | d + 1, .func _ a b => lowL (lowV n d) a.toList && lowL (lowV n d) b.toList
  | d + 1, .iface _ v => lowV n d v
  | d + 1, .agg cs => lowL (lowV n d) cs.toList
  | d + 1, .tuple cs => lowL (lowV n d) cs.toList
  | _ + 1, .complex _ _ _ => true
  | _ + 1, v => pureV v
def lowE (n : Nat) : List MapEntry → Bool
  | [] => true
  | e :: r => lowV n 10 e.key && (lowV n 10 e.val && lowE n r)
def lowB (n : Nat) : Option AB → Bool
  | none => true
  | some (.cells cs _ _) => lowL (lowV n 10) cs
  | some (.map es _) => lowE n es
  | some (.iter _ _) => true
def lowW (n : Nat) (H : Hp AB) : List Nat → Bool
  | [] => true
  | b :: r => lowB n (Hp.get H b) && lowW n H r

/-- Behind a call: what was made and can't be come to is forgotten. -/
def gcM (m m' : Mem) (v : Value) : Option Mem :=
  let W := dedup (m'.W.filter fun b => Nat.blt b m.n || Nat.ble m'.hi b) []
  bif lowV m.n 10 v && lowW m.n m'.H W then
    bif bigIds W then force8 (keepL m'.H m.H W) fun H => forceN m'.hi fun hi => forceL (W ++ m.W) fun W => some ⟨H, m.n, W, hi, m'.lg⟩ else none
  else
    let ids := (reach m.n m'.H 100000 (idsV 10 v ++ wOf m'.H W) []).filter fun b => Nat.ble m.n b && Nat.blt b m'.hi
    bif bigIds (W ++ ids) then force8 (keepL m'.H m.H (W ++ ids)) fun H => forceN m'.n fun n => forceN m'.hi fun hi => forceL (W ++ m.W) fun W => some ⟨H, n, W, hi, m'.lg⟩ else none

def resV (P : Program) (nt : Nat) (s : S) : ResultVar → Option Value
  | .tmp t => bif Nat.blt t nt then some (s.fr.get t) else none
  | .cell a t => bif Nat.blt a nt then match s.fr.get a with
    | .pointer (some a) => loadM P s.m t a
    | _ => none else none
def resL (P : Program) (nt : Nat) (s : S) : List ResultVar → Option (List Value)
  | [] => some []
  | r :: rs => match resV P nt s r, resL P nt s rs with
    | some v, some vs => some (v :: vs)
    | _, _ => none
def resM (fn : Func) (P : Program) (s : S) : Option Value :=
  match resL P fn.ntmps s fn.results.toList with
  | some [v] => some v
  | some vs => some (.tuple ⟨vs⟩)
  | none => none

def argFr (fr : Fr) : Nat → List Value → Fr
  | _, [] => fr
  | i, v :: r => setS (sel (i / 64 % 8)) (sel (i / 8 % 8)) (sel (i % 8)) v fr fun fr => argFr fr (i + 1) r

def indexB (l : List UInt8) (c : UInt8) : Nat → Int
  | i => match l with
    | [] => -1
    | b :: r => bif decide (b = c) then (i : Int) else indexB r c (i + 1)
def countB (c : UInt8) : List UInt8 → Nat → Nat
  | [], n => n
  | b :: r, n => bif decide (b = c) then forceN (n + 1) (countB c r) else countB c r n

def extM (k : EK) (args : List Value) (m : Mem) : Res :=
  match k, args with
  | .noEscape, [v] => some (v, m)
  | .indexByteString, [.string s, .int .u8 (.ofNat c)] => some (.int .i64 (indexB s.data.toList (UInt8.ofNat c) 0), m)
  | .countString, [.string s, .int .u8 (.ofNat c)] => some (.int .i64 (countB (UInt8.ofNat c) s.data.toList 0), m)
  | _, _ => none

def endM (fn : Func) (P : Program) (m : Mem) (r : Option (Ex × S)) : Res :=
  match r with
  | some (.normal, s) | some (.ret, s) => match resM fn P s with
    | some v => match gcM m s.m v with
      | some m => some (v, m)
      | none => none
    | none => none
  | _ => none
def startM (c : CodeC) (fr : Fr) (m : Mem) : Option (Ex × S) :=
  match m with
  | ⟨H, n, _, hi, lg⟩ => c.run ⟨fr, ⟨H, n, [], hi, lg⟩⟩
def bodyM (fn : Func) (P : Program) (c : CodeC) (args : List Value) (m : Mem) : Res :=
  bif Nat.ble args.length fn.ntmps && Nat.ble fn.ntmps 512 then endM fn P m (startM c (argFr fr0 0 args) m) else none
structure Cx where
  P : Program
  ext : List (FuncId × EK)
  gl : Nat
  /-- Functions taken by what is shown of them. -/
  con : FuncId → Option FnC
  lp : FuncId → LpT

def callN (C : Cx) : Nat → FuncId → FnC
  | 0, _ => ⟨fun _ _ => none⟩
  | d + 1, f =>
    match C.P.funcs.toList[f]? with
    | none => ⟨fun _ _ => none⟩
    | some fn => match C.con f with
      | some c => c
      | none => match fn.body with
        | none => match findE C.ext f with
          | some k => ⟨extM k⟩
          | none => ⟨fun _ _ => none⟩
        | some c => ⟨bodyM fn C.P (compC C.P fn.ntmps C.gl (callN C d) (C.lp f) [] c)⟩

end Go.Sx
