/- The law PickSplits: for every input the call returns true, and the arguments read behind it as they read before. No condition. -/
import Derived.WalkKit
import Derived.OrdersHeld
import Derived.KernelRfl
namespace Go.Sx
set_option linter.all false
set_option linter.unusedVariables false
open Go
abbrev A1t:=@Array.all_eq_true'
abbrev I7:=@Array.ext'
abbrev B1:=@Array.getD_eq_getD_getElem?
abbrev T9:=@Array.getElem?_append_left
abbrev G6:=@Array.getElem?_eq_getElem
abbrev D4:=@Array.getElem?_eq_some_iff
abbrev J0:=@Array.getElem?_modify
abbrev o7:=@Array.getElem?_push
abbrev A2V:=@Array.getElem?_replicate
abbrev F1:=@Array.getElem?_setIfInBounds
abbrev A0M:=@Array.getElem?_toList
abbrev S1:=@Array.length_toList
abbrev A1v:=@Array.mapM_eq_mapM_toList
abbrev j8:=@Array.mk.injEq
abbrev A1s:=@BitVec.toNat_ofInt
abbrev I0:=@Bool.and_eq_true
abbrev M0:=@Bool.eq_iff_iff
abbrev Q1:=@Bool.false_eq_true
abbrev Y7:=@Bool.false_or
abbrev Q9:=@Bool.not_true
abbrev V5:=@Bool.or_eq_false_iff
abbrev I3:=@Bool.or_eq_true
abbrev U7:=@Classical.byContradiction
abbrev Z7:=@Classical.not_not
abbrev A3U:=@Int.emod_nonneg
abbrev A2N:=@Int.le_refl
abbrev F0:=@Int.le_trans
abbrev A0Z:=@Int.mul_le_mul_of_nonneg_right
abbrev E3:=@Int.natCast_nonneg
abbrev A3T:=@Int.ofNat.injEq
abbrev V4:=@Int.toNat_natCast
abbrev A3S:=@List.all_append
abbrev A0f:=@List.all_cons
abbrev D8:=@List.all_eq_true
abbrev A4y:=@List.any_cons
abbrev Q0:=@List.any_eq_true
abbrev C4:=@List.append_assoc
abbrev C5:=@List.append_nil
abbrev D1:=@List.cons.injEq
abbrev W9:=@List.cons_append
abbrev A1r:=@List.drop_drop
abbrev m6:=@List.drop_eq_getElem_cons
abbrev A1q:=@List.drop_zero
abbrev A0Y:=@List.eq_nil_iff_forall_not_mem
abbrev M9:=@List.eq_nil_of_length_eq_zero
abbrev A0_:=@List.filter_eq_self
abbrev A2M:=@List.flatMap_cons
abbrev B5:=@List.getD_eq_getElem?_getD
abbrev E7:=@List.getElem?_append_left
abbrev E5:=@List.getElem?_append_right
abbrev R5:=@List.getElem?_cons_succ
abbrev R4:=@List.getElem?_cons_zero
abbrev H9:=@List.getElem?_drop
abbrev A6:=@List.getElem?_eq_getElem
abbrev P5:=@List.getElem?_eq_none
abbrev A9:=@List.getElem?_eq_some_iff
abbrev H8:=@List.getElem?_map
abbrev A0u:=@List.getElem?_set_ne
abbrev X8:=@List.getElem?_set_self
abbrev F4:=@List.getElem?_take_of_lt
abbrev I9:=@List.getElem?_toArray
abbrev P9:=@List.getElem_mem
abbrev n9:=@List.getElem_of_mem
abbrev A0:=@List.length_append
abbrev A3:=@List.length_cons
abbrev T4:=@List.length_drop
abbrev F6:=@List.length_eq_zero_iff
abbrev L9:=@List.length_map
abbrev A4:=@List.length_nil
abbrev Y9:=@List.length_singleton
abbrev A09:=@List.map_congr_left
abbrev F9:=@List.map_cons
abbrev I5:=@List.map_nil
abbrev B4:=@List.mem_append
abbrev B3:=@List.mem_cons
abbrev C6:=@List.mem_cons_of_mem
abbrev B7:=@List.mem_cons_self
abbrev R8:=@List.mem_filter
abbrev Q8:=@List.mem_map
abbrev D9:=@List.mem_of_getElem?
abbrev j7:=@List.mem_of_mem_drop
abbrev i9:=@List.mem_of_mem_take
abbrev i7:=@List.mem_range
abbrev A1p:=@List.mem_singleton
abbrev U9:=@List.nil_append
abbrev J3:=@List.not_mem_nil
abbrev A0L:=@List.take_append_drop
abbrev A0e:=@Nat.add_assoc
abbrev A3K:=@Nat.add_comm
abbrev G7:=@Nat.add_mul
abbrev W8:=@Nat.add_sub_cancel_left
abbrev A1G:=@Nat.beq_refl
abbrev A5b:=@Nat.ble_eq
abbrev C3:=@Nat.ble_eq_true_of_le
abbrev A2:=@Nat.eq_of_beq_eq_true
abbrev T8:=@Nat.eq_zero_or_pos
abbrev A1:=@Nat.le_of_ble_eq_true
abbrev A3J:=@Nat.le_of_lt
abbrev A7:=@Nat.le_refl
abbrev w8:=@Nat.le_succ
abbrev B8:=@Nat.le_trans
abbrev D2:=@Nat.lt_of_lt_of_le
abbrev F7:=@Nat.lt_or_ge
abbrev I6:=@Nat.lt_succ_self
abbrev A0X:=@Nat.mod_eq_of_lt
abbrev A5a:=@Nat.mod_lt
abbrev A0F:=@Nat.mul_comm
abbrev u6:=@Nat.mul_div_cancel
abbrev A4J:=@Nat.mul_le_mul
abbrev E9:=@Nat.mul_le_mul_right
abbrev A2L:=@Nat.one_mul
abbrev A3I:=@Nat.sub_self
abbrev Z6:=@Nat.succ_le_of_lt
abbrev E8:=@Nat.zero_add
abbrev A4I:=@Nat.zero_le
abbrev A3H:=@Nat.zero_mul
abbrev B2:=@Option.bind_eq_some_iff
abbrev E1:=@Option.bind_some
abbrev A0E:=@Option.map_eq_some_iff
abbrev P0:=@Option.map_some
abbrev A8:=@Option.some.inj
abbrev C9:=@Option.some.injEq
abbrev O1:=@Prod.mk.injEq
structure N8 (α:Type) where
 c0:α
 c1:α
 c2:α
 c3:α
 c4:α
 c5:α
 c6:α
 c7:α
structure Sel where
 get:{α:Type}→N8 α→α
 upd:{α β:Type}→N8 α→α→(N8 α→β)→β
def sel:Nat→Sel
 | 0=>⟨fun n=>n.c0,fun n v k=>match n with|⟨a0,a1,a2,a3,a4,a5,a6,a7⟩=>k ⟨v,a1,a2,a3,a4,a5,a6,a7⟩⟩
 | 1=>⟨fun n=>n.c1,fun n v k=>match n with|⟨a0,a1,a2,a3,a4,a5,a6,a7⟩=>k ⟨a0,v,a2,a3,a4,a5,a6,a7⟩⟩
 | 2=>⟨fun n=>n.c2,fun n v k=>match n with|⟨a0,a1,a2,a3,a4,a5,a6,a7⟩=>k ⟨a0,a1,v,a3,a4,a5,a6,a7⟩⟩
 | 3=>⟨fun n=>n.c3,fun n v k=>match n with|⟨a0,a1,a2,a3,a4,a5,a6,a7⟩=>k ⟨a0,a1,a2,v,a4,a5,a6,a7⟩⟩
 | 4=>⟨fun n=>n.c4,fun n v k=>match n with|⟨a0,a1,a2,a3,a4,a5,a6,a7⟩=>k ⟨a0,a1,a2,a3,v,a5,a6,a7⟩⟩
 | 5=>⟨fun n=>n.c5,fun n v k=>match n with|⟨a0,a1,a2,a3,a4,a5,a6,a7⟩=>k ⟨a0,a1,a2,a3,a4,v,a6,a7⟩⟩
 | 6=>⟨fun n=>n.c6,fun n v k=>match n with|⟨a0,a1,a2,a3,a4,a5,a6,a7⟩=>k ⟨a0,a1,a2,a3,a4,a5,v,a7⟩⟩
 | _=>⟨fun n=>n.c7,fun n v k=>match n with|⟨a0,a1,a2,a3,a4,a5,a6,a7⟩=>k ⟨a0,a1,a2,a3,a4,a5,a6,v⟩⟩
def A5Z{α:Type}(v:α):N8 α:=⟨v,v,v,v,v,v,v,v⟩
def B1W{α β:Type}(n:N8 α)(k:N8 α→β):β :=
 match n with
 | ⟨a0,a1,a2,a3,a4,a5,a6,a7⟩=>k ⟨a0,a1,a2,a3,a4,a5,a6,a7⟩
abbrev Fr:=N8 (N8 (N8 Value))
def Fr.get(fr:Fr)(t:Nat):Value:=(sel (t%8)).get ((sel (t / 8%8)).get ((sel (t / 64%8)).get fr))
def A7W{β:Type}(a b c:Sel)(v:Value)(fr:Fr)(k:Fr→β):β :=
 c.upd (b.get (a.get fr)) v fun n2=>b.upd (a.get fr) n2 fun n1=>a.upd fr n1 k
def Fr.set(fr:Fr)(t:Nat)(v:Value):Fr:=A7W (sel (t / 64%8)) (sel (t / 8%8)) (sel (t%8)) v fr fun fr=>fr
def fr0:Fr:=A5Z (A5Z (A5Z (.tuple #[])))
abbrev Hp(α:Type):=N8 (N8 (N8 (N8 (N8 (N8 (Option α))))))
def Hp.get{α:Type}(h:Hp α)(n:Nat):Option α :=
 (sel (n%8)).get ((sel (n / 8%8)).get ((sel (n / 64%8)).get ((sel (n / 512%8)).get ((sel (n / 4096%8)).get ((sel (n / 32768%8)).get h)))))
def A3Z{α β:Type}(a b c d e f:Sel)(v:Option α)(h:Hp α)(k:Hp α→β):β :=
 f.upd (e.get (d.get (c.get (b.get (a.get h))))) v fun n5=>e.upd (d.get (c.get (b.get (a.get h)))) n5 fun n4=>d.upd (c.get (b.get (a.get h))) n4 fun n3=>c.upd (b.get (a.get h)) n3 fun n2=>b.upd (a.get h) n2 fun n1=>a.upd h n1 k
def Hp.put{α β:Type}(h:Hp α)(n:Nat)(v:Option α)(k:Hp α→β):β :=
 A3Z (sel (n / 32768%8)) (sel (n / 4096%8)) (sel (n / 512%8)) (sel (n / 64%8)) (sel (n / 8%8)) (sel (n%8)) v h k
def Hp.set{α:Type}(h:Hp α)(n:Nat)(v:Option α):Hp α:=h.put n v fun h=>h
def hp0{α:Type}:Hp α:=A5Z (A5Z (A5Z (A5Z (A5Z (A5Z none)))))
def G8:Nat:=262143
def J7{β:Type}(n:Nat)(k:Nat→β):β :=
 match n with
 | 0=>k 0
 | m+1=>k (Nat.succ m)
def A8o{β:Type}(i:Int)(k:Int→β):β :=
 match i with
 | .ofNat n=>J7 n fun n=>k (.ofNat n)
 | .negSucc n=>J7 n fun n=>k (.negSucc n)
def R7{α β:Type}:List α→(List α→β)→β
 | [],k=>k []
 | x::r,k=>R7 r fun r=>k (x::r)
def B3x:IntKind→Nat
 | .i8=>127|.i16=>32767|.i32=>2147483647|.i64=>9223372036854775807
 | .u8=>255|.u16=>65535|.u32=>4294967295|.u64=>18446744073709551615
def A9i(k:IntKind)(n:Int):Int :=
 match n with
 | .ofNat m=>bif Nat.ble m (B3x k)then .ofNat m else k.wrap (.ofNat m)
 | .negSucc m=>k.wrap (.negSucc m)
def C6W(a b:Int):Int :=
 match a,b with
 | .ofNat m,.ofNat n=>.ofNat (Nat.add m n)
 | a,b=>a+b
def C4h(a b:Int):Int :=
 match a,b with
 | .ofNat m,.ofNat n=>bif Nat.ble n m then .ofNat (Nat.sub m n)else .ofNat m - .ofNat n
 | a,b=>a-b
def C5v(a b:Int):Int :=
 match a,b with
 | .ofNat m,.ofNat n=>.ofNat (Nat.mul m n)
 | a,b=>a*b
def ltF(a b:Int):Bool :=
 match a,b with
 | .ofNat m,.ofNat n=>Nat.blt m n
 | .negSucc _,.ofNat _=>true
 | .ofNat _,.negSucc _=>false
 | .negSucc m,.negSucc n=>Nat.blt n m
def leF(a b:Int):Bool :=
 match a,b with
 | .ofNat m,.ofNat n=>Nat.ble m n
 | .negSucc _,.ofNat _=>true
 | .ofNat _,.negSucc _=>false
 | .negSucc m,.negSucc n=>Nat.ble n m
def B1e(a b:Int):Bool :=
 match a,b with
 | .ofNat m,.ofNat n=>Nat.beq m n
 | .negSucc m,.negSucc n=>Nat.beq m n
 | _,_=>false
def A9v:IntKind→IntKind→Bool
 | .i8,.i8|.i16,.i16|.i32,.i32|.i64,.i64|.u8,.u8|.u16,.u16|.u32,.u32|.u64,.u64=>true
 | _,_=>false
def mkI(k:IntKind)(n:Int):Value:=A8o n fun n=>.int k n
inductive U where
 | none
 | int (k:IntKind) (n:Int)
 | bool (b:Bool)
 | str (s:List UInt8)
 | seq (nul:Bool) (w:Nat) (rows:List (List U))
inductive LOp where
 | bin (op:BinOp)
 | un (op:UnOp)
 | conv (k:IntKind)
 | len
 | idx
 | sub
 | sub1
 | sel
 | eqs
 | inb
 | max
 | min
 | mks
 | inbs (w:Nat)
 | get (w o:Nat)
 | mk (w:Nat)
 | nilw (w:Nat)
 | nilp
 | snoc (w:Nat)
 | cat (w:Nat)
 | cats
 | set (w o:Nat)
 | subs (w:Nat)
 | str
 | byt
 | rep (w:Nat)
 | ustr
inductive r8 where
 | lt (i t:Nat) (op:LOp) (xs:List Value)
 | dt (i t:Nat) (op:LOp) (xs:List Value)
 | br (i:Nat) (b:Bool)
 | as (op:LOp) (xs:List Value)
 | con (spec:List U→Option (Nat×List U)) (xs:List Value) (i d n:Nat)
structure Lg where
 nx:Nat
 pi:List Nat
 log:List r8
def hole(i t:Nat):Value:=.complex .f64 i t
def junk:Value:=.complex .f32 0 0
def ixp(a:Addr)(s:Nat)(i:Value)(n:Nat):Value:=.func (.yield 1) ⟨[.pointer (some a),.int .i64 (.ofNat s),i,.int .i64 (.ofNat n)]⟩ ⟨[]⟩
def dat(b i t:Nat):Value:=.func (.yield 2) ⟨[.pointer (some ⟨b,0,none⟩),.complex .f64 i t]⟩ ⟨[]⟩
def clp(b i t:Nat):Value:=.func (.yield 3) ⟨[.pointer (some ⟨b,0,none⟩),.complex .f64 i t]⟩ ⟨[]⟩
def own(b i t:Nat):Value:=.func (.yield 4) ⟨[.pointer (some ⟨b,0,none⟩),.complex .f64 i t]⟩ ⟨[]⟩
def dpt(b i t:Nat)(z:Value)(o:Nat):Value:=.func (.yield 5) ⟨[.pointer (some ⟨b,0,none⟩),.complex .f64 i t,z,.int .i64 (.ofNat o)]⟩ ⟨[]⟩
def opt(b i t:Nat)(z:Value)(o:Nat):Value:=.func (.yield 6) ⟨[.pointer (some ⟨b,0,none⟩),.complex .f64 i t,z,.int .i64 (.ofNat o)]⟩ ⟨[]⟩
def yv(b:Nat):Value:=.func (.yield 7) ⟨[.pointer (some ⟨b,0,none⟩)]⟩ ⟨[]⟩
def sdt(b:Nat):Value:=.func (.yield 9) ⟨[.pointer (some ⟨b,0,none⟩)]⟩ ⟨[]⟩
def dv(ids:List Nat):Value:=.func (.yield 8) ⟨ids.map fun b=>.pointer (some ⟨b,0,none⟩)⟩ ⟨[]⟩
def B87:Value→Bool
 | .complex .f32 _ _=>true
 | _=>false
def one:Value:=.complex .f32 1 0
def A29:Value→Bool
 | .complex .f32 i _=>!(Nat.beq i 1)
 | _=>false
def A4o:IntKind→Nat
 | .i8=>0|.i16=>1|.i32=>2|.i64=>3|.u8=>4|.u16=>5|.u32=>6|.u64=>7
def G1:Value→Nat
 | .int k _=>A4o k
 | .bool _=>8
 | .string _=>9
 | .complex .f64 _ t=>t
 | _=>99
inductive AB where
 | cells (cs:List Value) (T:TypeId) (ro:Bool)
 | sq (c t:Nat) (T:TypeId) (g:Nat) (ro:Bool)
 | frz
 | map (es:List MapEntry) (clock:Nat)
 | iter (s:ByteArray) (pos:Nat)
 | lp (f:FuncId) (q:List Bool) (vs:List Value) (st:Nat)
 | dfr (b:Bool)
structure Mem where
 H:Hp AB
 n:Nat
 W:List Nat
 hi:Nat
 lg:Lg
structure S where
 fr:Fr
 m:Mem
inductive Ex where
 | normal
 | exit (id:Nat)
 | ret
def G0:List Bool→Code→Option Code
 | [],c=>some c
 | false::q,.seq a _=>G0 q a
 | true::q,.seq _ b=>G0 q b
 | false::q,.cond _ a _=>G0 q a
 | true::q,.cond _ _ b=>G0 q b
 | false::q,.block _ c=>G0 q c
 | false::q,.scope c=>G0 q c
 | false::q,.loop c=>G0 q c
 | false::q,.rangeFunc _ _ a _=>G0 q a
 | true::q,.rangeFunc _ _ _ b=>G0 q b
 | _::_,_=>none
def N0:Nat:=9223372036854775808
def I2:Value→Bool
 | .bool _|.int _ _|.string _|.pointer none|.slice none _ _|.map none|.nilFunc|.nilIface=>true
 | _=>false
def B2e:Value→Bool
 | .agg cs=>cs.toList.all I2
 | v=>I2 v
def ev(fr:Fr):Operand→Value
 | .tmp t=>fr.get t
 | .const v=>v
 | .global g=>.pointer (some ⟨g,0,none⟩)
 | .func f=>.func (.func f) #[] #[]
def okX(nt gl:Nat):Operand→Bool
 | .tmp t=>Nat.blt t nt
 | .const v=>B2e v
 | .global g=>Nat.blt g gl
 | .func _=>true
def evL(fr:Fr):List Operand→List Value
 | []=>[]
 | x::r=>ev fr x::evL fr r
def evP(fr:Fr):List (Nat×Operand)→List (Nat×Value)
 | []=>[]
 | (i,x)::r=>(i,ev fr x)::evP fr r
def evO(fr:Fr):Option Operand→Option Value
 | none=>none
 | some x=>some (ev fr x)
structure XC where
 run:Fr→Value
def C6g(a b c:Sel):XC:=⟨fun fr=>c.get (b.get (a.get fr))⟩
def S7:Operand→XC
 | .tmp t=>C6g (sel (t / 64%8)) (sel (t / 8%8)) (sel (t%8))
 | .const v=>⟨fun _=>v⟩
 | .global g=>⟨fun _=>.pointer (some ⟨g,0,none⟩)⟩
 | .func f=>⟨fun _=>.func (.func f) #[] #[]⟩
theorem A1N(x:Operand)(fr:Fr):(S7 x).run fr=ev fr x:=by cases x<;>rfl
structure LC where
 run:Fr→List Value
def C6M(x:XC)(r:LC)(fr:Fr):List Value:=x.run fr::r.run fr
def A7L:List Operand→LC
 | []=>⟨fun _=>[]⟩
 | x::r=>⟨fun fr=>C6M (S7 x) (A7L r) fr⟩
theorem A4i(fr:Fr):∀ xs:List Operand,(A7L xs).run fr=evL fr xs
 | []=>rfl
 | x::r=>by
   show(S7 x).run fr::(A7L r).run fr=_;rw[A1N,A4i fr r];rfl
abbrev Res:=Option (Value×Mem)
def upN(hi n:Nat):Nat:=bif Nat.blt n hi then hi else Nat.succ n
def Mem.wLg(m:Mem)(lg:Lg):Mem :=
 match m with
 | ⟨H,n,W,hi,_⟩=>⟨H,n,W,hi,lg⟩
def X9(m:Mem)(t:Nat)(op:LOp)(xs:List Value):Res :=
 match m with
 | ⟨H,n,W,hi,⟨nx,pi,log⟩⟩=>J7 nx fun nx=>J7 t fun t=>R7 xs fun xs=>some (hole nx t,⟨H,n,W,hi,⟨Nat.succ nx,pi,.lt nx t op xs::log⟩⟩)
def A9c(m:Mem)(t:Nat)(op:LOp)(xs:List Value)(k:Nat→Mem→Res):Res :=
 match m with
 | ⟨H,n,W,hi,⟨nx,pi,log⟩⟩=>J7 nx fun nx=>J7 t fun t=>R7 xs fun xs=>k nx ⟨H,n,W,hi,⟨Nat.succ nx,pi,.dt nx t op xs::log⟩⟩
def A8q:List r8→Nat→Option Bool
 | [],_=>none
 | .br j b::r,i=>bif Nat.beq j i then some b else A8q r i
 | _::r,i=>A8q r i
def brL(lg:Lg)(c:Value):Option (Bool×Lg) :=
 match c with
 | .bool b=>some (b,lg)
 | .complex .f64 i 8=>match lg with
   | ⟨nx,pi,log⟩=>match A8q log i with
     | some b=>some (b,⟨nx,pi,log⟩)
     | none=>match pi with
       | 1::r=>some (true,⟨nx,r,.br i true::log⟩)
       | 0::r=>some (false,⟨nx,r,.br i false::log⟩)
       | _=>none
 | _=>none
def m9(m:Mem)(ab:AB)(k:Nat→Value):Res :=
 match m with
 | ⟨H,n,W,hi,lg⟩=>bif Nat.ble n G8 then J7 n fun n=>J7 (upN hi n) fun hi=>Hp.put H n (some ab) fun H=>some (k n,⟨H,Nat.succ n,W,hi,lg⟩)else none
def A2Q(m:Mem)(id:Nat)(ab:AB):Option Mem :=
 match m with
 | ⟨H,n,W,hi,lg⟩=>bif Nat.ble id G8 then Hp.put H id (some ab) fun H=>J7 id fun id=>some ⟨H,n,id::W,hi,lg⟩else none
def A3N(m:Mem)(id:Nat):Mem :=
 match m with
 | ⟨H,n,W,hi,lg⟩=>Hp.put H id none fun H=>J7 id fun id=>⟨H,n,id::W,hi,lg⟩
def B9S(cs:List Value)(o n:Nat):Option (List Value) :=
 let r:=(cs.drop o).take n
 bif Nat.beq r.length n then some r else none
def w5(m:Mem)(a:Addr)(n:Nat):Option (List Value) :=
 match a.spot,Hp.get m.H a.block with
 | none,some (.cells cs _ _)=>B9S cs a.off n
 | _,_=>none
def A0l:List Value→Nat→List Value→List Value
 | cs,_,[]=>cs
 | cs,k,v::r=>A0l (cs.set k v) (k+1) r
def flat:Value→Bool
 | .agg _|.tuple _=>false
 | .complex .f32 i _=>Nat.beq i 1
 | _=>true
def A4z(m:Mem)(a:Addr)(vs:List Value):Option Mem :=
 match a.spot,Hp.get m.H a.block with
 | none,some (.cells cs T false) =>
   bif Nat.ble (a.off+vs.length) cs.length && vs.all flat then R7 (A0l cs a.off vs) fun cs=>A2Q m a.block (.cells cs T false)else none
 | _,_=>none
variable (P:Program)
def A0T(t:TypeId):Option Bool :=
 match P.underlying t with
 | some (.struct _)|some (.array _ _)=>some true
 | some _=>some false
 | none=>none
def G3(t:TypeId):Option Nat :=
 match P.info? t with
 | some i=>some i.size
 | none=>none
def A2W(t:TypeId):Option Value :=
 match P.info? t with
 | some i=>match i.zero with
   | some v=>bif B2e v then some v else none
   | none=>none
 | none=>none
def B5V(m:Mem)(t:TypeId)(a:Addr):Option Value :=
 match A0T P t with
 | some true=>match G3 P t with
   | some n=>match w5 m a n with
     | some cs=>some (.agg ⟨cs⟩)
     | none=>none
   | none=>none
 | some false=>match w5 m a 1 with
   | some (v::_)=>some v
   | _=>none
 | none=>none
def A75(m:Mem)(t:TypeId)(a:Addr)(v:Value):Option Mem :=
 match G3 P t with
 | some n=>bif Nat.beq v.cells.size n && !(A29 v)then A4z m a v.cells.toList else none
 | none=>none
def A55(t:TypeId)(cs:List Value)(off:Nat):Option Value :=
 match A0T P t with
 | some true=>match G3 P t with
   | some n=>match B9S cs off n with
     | some r=>some (.agg ⟨r⟩)
     | none=>none
   | none=>none
 | some false=>cs[off]?
 | none=>none
def C1y(e:TypeId)(s i:Nat):Field:={ name := "x",type:=e,offset:=i*s,embedded:=false,tag := "",pkgPath := "",byteOffset:=0 }
mutual
def eqM:Nat→TypeId→Value→Value→Option Bool
 | 0,_,_,_=>none
 | d+1,t,x,y=>match P.underlying t,x,y with
   | some .bool,.bool a,.bool b=>some (a == b)
   | some (.int _),.int k a,.int j b=>bif decide (k=j)then some (a == b)else none
   | some .string,.string a,.string b=>some (a.data.toList == b.data.toList)
   | some (.pointer _),.pointer none,.pointer b=>some b.isNone
   | some (.pointer _),.pointer (some _),.pointer none=>some false
   | some (.interface _),.nilIface,.nilIface=>some true
   | some (.interface _),.nilIface,.iface _ _=>some false
   | some (.interface _),.iface _ _,.nilIface=>some false
   | some (.interface _),.iface tx vx,.iface ty vy=>bif Nat.beq tx ty then(match P.info? tx with
     | some i=>bif i.comparable then eqM d tx vx vy else none
     | none=>none)else some false
   | some (.slice _),.slice none _ _,.slice b _ _=>some b.isNone
   | some (.slice _),.slice (some _) _ _,.slice none _ _=>some false
   | some (.map _ _),.map none,.map b=>some b.isNone
   | some (.func _ _ _),.nilFunc,.nilFunc=>some true
   | some (.func _ _ _),.nilFunc,.func (.func _) _ _=>some false
   | some (.func _ _ _),.func (.func _) _ _,.nilFunc=>some false
   | some (.struct fs),.agg xs,.agg ys=>bif P.stoodInHeld t then none else eqF d fs.toList xs.toList ys.toList
   | some (.array n e),.agg xs,.agg ys=>match G3 P e with
     | some s=>eqF d ((List.range n).map (C1y e s)) xs.toList ys.toList
     | none=>none
   | _,_,_=>none
def eqF:Nat→List Field→List Value→List Value→Option Bool
 | 0,_,_,_=>none
 | _+1,[],_,_=>some true
 | d+1,f::fs,xs,ys =>
   bif f.name == "_" then none else
   match A55 P f.type xs f.offset,A55 P f.type ys f.offset with
   | some x,some y=>match eqM d f.type x y with
     | some true=>eqF d fs xs ys
     | some false=>some false
     | none=>none
   | _,_=>none
end
def isC:Operand→Bool
 | .const _=>true
 | _=>false
def A3z(t:TypeId)(x y:Operand)(a b:Value):Bool :=
 match a,b with
 | .nilIface,.nilIface=>isC x || isC y
 | .agg _,.agg _=>!P.eqGuardType P.depth t
 | a,b=>!(B87 a) && !(B87 b)
def A9A(op:BinOp)(k:IntKind)(x y:Int):Option Value :=
 match op with
 | .and=>some (.int k (k.wrap (BitVec.ofInt k.bits x &&& BitVec.ofInt k.bits y).toNat))
 | .or=>some (.int k (k.wrap (BitVec.ofInt k.bits x ||| BitVec.ofInt k.bits y).toNat))
 | .xor=>some (.int k (k.wrap (BitVec.ofInt k.bits x ^^^ BitVec.ofInt k.bits y).toNat))
 | .andNot=>some (.int k (k.wrap (BitVec.ofInt k.bits x &&& ~~~BitVec.ofInt k.bits y).toNat))
 | _=>none
def ltL:List UInt8→List UInt8→Bool
 | _,[]=>false
 | [],_::_=>true
 | a::x,b::y=>a<b || (a == b && ltL x y)
def A3w(op:BinOp)(k:IntKind)(a b:Int):Option Value :=
 match op with
 | .add=>some (mkI k (A9i k (C6W a b)))
 | .sub=>some (mkI k (A9i k (C4h a b)))
 | .mul=>some (mkI k (A9i k (C5v a b)))
 | .quo=>bif B1e b 0 then none else some (mkI k (k.wrap (a.tdiv b)))
 | .rem=>bif B1e b 0 then none else some (mkI k (a.tmod b))
 | .eql=>some (.bool (B1e a b))
 | .neq=>some (.bool (!(B1e a b)))
 | .lss=>some (.bool (ltF a b))
 | .leq=>some (.bool (leF a b))
 | .gtr=>some (.bool (ltF b a))
 | .geq=>some (.bool (leF b a))
 | op=>A9A op k a b
def B39(left:Bool)(k:IntKind)(a:Int)(b:Nat):Value :=
 bif left then mkI k (k.wrap (a*2 ^ (min b k.bits)))else mkI k (a.fdiv (2 ^ (min b k.bits)))
def C0n(op:BinOp)(a b:ByteArray):Option Value :=
 match op with
 | .add=>bif Nat.ble (a.size+b.size) 1000000000 then R7 (a.data.toList++b.data.toList) fun l=>some (.string ⟨⟨l⟩⟩)else none
 | .eql=>some (.bool (a.data.toList == b.data.toList))
 | .neq=>some (.bool (!(a.data.toList == b.data.toList)))
 | .lss=>some (.bool (ltL a.data.toList b.data.toList))
 | .leq=>some (.bool (ltL a.data.toList b.data.toList || (a.data.toList == b.data.toList)))
 | .gtr=>some (.bool (!(ltL a.data.toList b.data.toList || (a.data.toList == b.data.toList))))
 | .geq=>some (.bool (!(ltL a.data.toList b.data.toList)))
 | _=>none
def A94(op:BinOp)(t:TypeId)(x y:Value):Option Value :=
 match op with
 | .eql=>match eqM P 20 t x y with
   | some b=>some (.bool b)
   | none=>none
 | .neq=>match eqM P 20 t x y with
   | some b=>some (.bool (!b))
   | none=>none
 | _=>none
def A2_:BinOp→Option Bool
 | .shl=>some true
 | .shr=>some false
 | _=>none
def A0J(op:BinOp)(k j:IntKind)(a b:Int):Option Value :=
 match A2_ op with
 | some l=>match b with
   | .ofNat n=>some (B39 l k a n)
   | .negSucc _=>none
 | none=>bif A9v k j then A3w op k a b else none
def A6P(op:BinOp)(t:TypeId)(x y:Value):Option Value :=
 match x,y with
 | .int k a,.int j b=>A0J op k j a b
 | .string a,.string b=>C0n op a b
 | x,y=>A94 P op t x y
def unM(op:UnOp)(x:Value):Option Value :=
 match op,x with
 | .neg,.int k n=>some (mkI k (k.wrap (0-n)))
 | .xor,.int k n=>A9A .xor k (if k.signed then -1 else k.max) n
 | .not,.bool b=>some (.bool !b)
 | _,_=>none
def bytesOf:List Value→Option (List UInt8)
 | []=>some []
 | .int .u8 n::r=>match bytesOf r with
   | some l=>some (UInt8.ofNat n.toNat::l)
   | none=>none
 | _::_=>none
def P2(l:List UInt8):List Value:=l.map fun b=>.int .u8 b.toNat
def B0Z(m:Mem)(s t:TypeId)(x:Value):Res :=
 match P.underlying s,P.underlying t,x with
 | some _,some (.int k),.int _ n=>some (mkI k (A9i k n),m)
 | some _,some .string,.string b=>some (.string b,m)
 | some _,some .string,.int _ n=>some (.string (Utf8.encode n),m)
 | some _,some (.slice e),.string b=>match P.underlying e with
   | some (.int .u8)=>match G3 P e with
     | some 1=>R7 (P2 b.data.toList) fun cs=>m9 m (.cells cs e false) fun i=>.slice (some ⟨i,0,none⟩) b.size N0
     | _=>none
   | _=>none
 | some (.slice e),some .string,.slice none _ _=>match P.underlying e with
   | some (.int .u8)=>some (.string ByteArray.empty,m)
   | _=>none
 | some (.slice e),some .string,.slice (some a) n _=>match P.underlying e with
   | some (.int .u8)=>match w5 m a n with
     | some cs=>match bytesOf cs with
       | some l=>some (.string ⟨⟨l⟩⟩,m)
       | none=>none
     | none=>none
   | _=>none
 | _,_,_=>none
def A8r(place:Nat→Option (Nat×Nat))(cells:List Value):List (Nat×Value)→Option (List Value)
 | []=>some cells
 | (i,v)::rest=>match place i with
   | none=>none
   | some (off,size) =>
     bif (Nat.beq v.cells.size size && !(A29 v)) && Nat.ble (off+v.cells.size) cells.length then R7 (A0l cells off v.cells.toList) fun cs=>A8r place cs rest else none
def A54:List Field→Option (List (Nat×Nat))
 | []=>some []
 | f::r=>match G3 P f.type,A54 r with
   | some n,some l=>some ((f.offset,n)::l)
   | _,_=>none
def B2X(z:List Value):Nat→List Value
 | 0=>[]
 | n+1=>z++B2X z n
def B0p(e:TypeId)(n:Nat):Option (List Value) :=
 match G3 P e with
 | some s=>bif Nat.beq (n*s) 0 then some []else match A2W P e with
   | some z=>bif Nat.beq z.cells.size s then some (B2X z.cells.toList n)else none
   | none=>none
 | none=>none
def B4l(t:TypeId)(parts:List (Nat×Value)):Option Value :=
 match A2W P t,P.underlying t with
 | some z,some (.struct fs)=>match A54 P fs.toList with
   | some ps=>match A8r (ps[·]?) z.cells.toList parts with
     | some cs=>some (.agg ⟨cs⟩)
     | none=>none
   | none=>none
 | some z,some (.array _ e)=>match G3 P e with
   | some s=>match A8r (fun i=>some (i*s,s)) z.cells.toList parts with
     | some cs=>some (.agg ⟨cs⟩)
     | none=>none
   | none=>none
 | _,_=>none
def A0s(m:Mem)(t:TypeId)(n:Nat)(parts:List (Nat×Value)):Res :=
 match P.underlying t with
 | some (.slice e)=>match G3 P e,B0p P e n with
   | some s,some zs=>bif Nat.ble (n*s) 16777216 && Nat.blt n N0 then match A8r (fun i=>some (i*s,s)) zs parts with
     | some cs=>m9 m (.cells cs e false) fun i=>.slice (some ⟨i,0,none⟩) n n
     | none=>none else none
   | _,_=>none
 | _=>none
def A1c(m:Mem)(t:TypeId)(l c:Value):Res :=
 match P.underlying t,l,c with
 | some (.slice e),.int _ (.ofNat l),.int _ (.ofNat c)=>match P.info? e with
   | some i=>bif Nat.ble l c && Nat.ble c 10000000 && Nat.ble (c*i.bytes) 100000000 then match B0p P e c with
     | some zs=>R7 zs fun zs=>m9 m (.cells zs e false) fun k=>.slice (some ⟨k,0,none⟩) l c
     | none=>none else none
   | none=>none
 | _,_,_=>none
def A0Q(a:Addr)(n:Nat):Addr:=J7 (a.off+n) fun o=>⟨a.block,o,none⟩
def A0p(s:TypeId)(x:Value)(i:Nat):Option Value :=
 match P.underlying s,x with
 | some (.struct fs),.pointer (some a)=>match fs.toList[i]?,a.spot with
   | some f,none=>match G3 P f.type with
     | some (_+1)=>some (.pointer (some (A0Q a f.offset)))
     | _=>none
   | _,_=>none
 | _,_=>none
def B1Z(t:TypeId)(x:Value)(i:Nat):Option Value :=
 match P.underlying t,x with
 | some (.struct fs),.agg cs=>match fs.toList[i]? with
   | some f=>A55 P f.type cs.toList f.offset
   | none=>none
 | _,_=>none
def Y0(t:TypeId)(x i:Value):Option Value :=
 match P.underlying t,x,i with
 | some (.array n e),.pointer (some a),.int _ (.ofNat k)=>match G3 P e,a.spot with
   | some s,none=>bif Nat.blt k n then some (.pointer (some (A0Q a (k*s))))else none
   | _,_=>none
 | some (.slice e),.slice (some a) n _,.int _ (.ofNat k)=>match G3 P e,a.spot with
   | some s,none=>bif Nat.blt k n then some (.pointer (some (A0Q a (k*s))))else none
   | _,_=>none
 | _,_,_=>none
def A3x(t:TypeId)(x i:Value):Option Value :=
 match P.underlying t,x,i with
 | some (.array n e),.agg cs,.int _ (.ofNat k)=>match G3 P e with
   | some s=>bif Nat.blt k n then A55 P e cs.toList (k*s)else none
   | none=>none
 | some .string,.string s,.int _ (.ofNat k)=>match s.data.toList[k]? with
   | some b=>some (.int .u8 b.toNat)
   | none=>none
 | _,_,_=>none
def U6(v:Option Value)(G8 dflt:Nat):Option Nat :=
 match v with
 | none=>some dflt
 | some (.int _ (.ofNat k))=>bif Nat.ble k G8 then some k else none
 | some _=>none
def A0x(t:TypeId)(x:Value)(lo hi mx:Option Value):Option Value :=
 match P.underlying t,x with
 | some .string,.string s =>
   match mx,U6 hi s.size s.size with
   | none,some h=>match U6 lo h 0 with
     | some l=>some (.string ⟨⟨(s.data.toList.drop l).take (h-l)⟩⟩)
     | none=>none
   | _,_=>none
 | some (.slice e),.slice none n c =>
   match n,c,U6 mx 0 0,U6 hi 0 0,U6 lo 0 0 with
   | 0,0,some _,some _,some _=>bif (mx.isSome && hi.isNone) || (G3 P e).isNone then none else some (.slice none 0 0)
   | _,_,_,_,_=>none
 | some (.slice e),.slice (some a) n c =>
   match G3 P e,a.spot with
   | some s,none =>
     bif Nat.blt c N0 then
      match U6 mx c c with
      | some m=>match (match hi,mx with|none,some _=>none|hi,_=>U6 hi m n)with
        | some h=>match U6 lo h 0 with
          | some l=>some (.slice (some (bif Nat.beq m l then a else A0Q a (l*s))) (h-l) (m-l))
          | none=>none
        | none=>none
      | none=>none
     else
      match mx with
      | some _=>match hi,U6 mx n n with
        | some _,some m=>bif Nat.blt m N0 && Nat.ble c (N0+1)then match U6 hi m n with
          | some h=>match U6 lo h 0 with
            | some l=>some (.slice (some (bif Nat.beq m l then a else A0Q a (l*s))) (h-l) (m-l))
            | none=>none
          | none=>none else none
        | _,_=>none
      | none=>match U6 hi n n with
        | some h=>match U6 lo h 0 with
          | some 0=>some (.slice (some a) h c)
          | some (l+1)=>let l:=l+1
            bif Nat.blt l n then some (.slice (some (A0Q a (l*s))) (h-l) (N0+1))else some (.slice (some a) 0 (N0+2))
          | none=>none
        | none=>none
   | _,_=>none
 | some (.array n e),.pointer (some a) =>
   match G3 P e,a.spot,mx with
   | some s,none,none=>match U6 hi n n with
     | some h=>match U6 lo h 0 with
       | some l=>bif Nat.blt n N0 then some (.slice (some (bif Nat.beq n l then a else A0Q a (l*s))) (h-l) (n-l))else none
       | none=>none
     | none=>none
   | _,_,_=>none
 | _,_=>none
def A1b(m:Mem)(s:Nat)(y:Value):Option (Nat×List Value) :=
 match y with
 | .slice none n _=>bif Nat.beq n 0 then some (0,[])else none
 | .slice (some a) n _=>match w5 m a (n*s)with
   | some cs=>some (n,cs)
   | none=>none
 | .string b=>bif Nat.beq s 1 then some (b.size,P2 b.data.toList)else none
 | _=>none
def A02:TypeDesc→Bool
 | .slice _|.string=>true
 | _=>false
def A6R(m:Mem)(t t2:TypeId)(x y:Value):Res :=
 match P.underlying t,P.underlying t2 with
 | some (.slice e),some d2 =>
   bif !(A02 d2)then none else
   match P.info? e,x with
   | some i,.slice a n c=>match A1b m i.size y,A2W P e with
     | some (k,new),some z =>
       bif Nat.ble ((3*(n+k)+4000)*i.bytes) 281474976710656 && Nat.ble (n+k) 1000000000 && Nat.beq z.cells.size i.size && new.all flat then
       bif Nat.beq k 0 then(match a with|none=>bif Nat.beq n 0 && Nat.beq c 0 then some (x,m)else none|some _=>bif Nat.ble c (N0+1) && Nat.ble n c then some (x,m)else none)else
       match a with
       | none=>bif Nat.beq n 0 && Nat.beq c 0 then R7 new fun cs=>m9 m (.cells cs e false) fun b=>.slice (some ⟨b,0,none⟩) k N0 else none
       | some ad =>
         bif Nat.blt c N0 then
          bif Nat.ble (n+k) c then
           match ad.spot,A4z m (A0Q ad (n*i.size)) new with
           | none,some m'=>some (.slice a (n+k) c,m')
           | _,_=>none
          else match w5 m ad (n*i.size)with
           | some old=>R7 (old++new) fun cs=>m9 m (.cells cs e false) fun b=>.slice (some ⟨b,0,none⟩) (n+k) N0
           | none=>none
         else bif Nat.beq c N0 && Nat.beq ad.off 0 then
          match ad.spot,Hp.get m.H ad.block with
          | none,some (.cells cs T false) =>
            bif Nat.beq cs.length (n*i.size) && Nat.beq T e && Nat.ble ad.block G8 && Nat.blt ad.block m.n then
             R7 (cs++new) fun cs=>m9 (A3N m ad.block) (.cells cs e false) fun b=>.slice (some ⟨b,0,none⟩) (n+k) N0
            else none
          | _,_=>none
         else none
       else none
     | _,_=>none
   | _,_=>none
 | _,_=>none
def B3O(m:Mem)(t:TypeId)(x y:Value):Res :=
 match P.underlying t,x with
 | some (.slice e),.slice a n c=>match G3 P e with
   | some s =>
     match (match y with
      | .slice none k _=>bif Nat.beq k 0 then some (0,[])else none
      | .slice (some b) k _=>match w5 m b (Nat.min k n*s)with
        | some cs=>some (Nat.min k n,cs)
        | none=>none
      | .string b=>some (Nat.min b.size n,P2 (b.data.toList.take (Nat.min b.size n)))
      | _=>none:Option (Nat×List Value))with
     | some (k,cs)=>match a with
       | none=>bif Nat.beq k 0 then some (.int .i64 0,m)else none
       | some ad=>bif Nat.beq cs.length 0 then some (.int .i64 k,m)else bif Nat.ble c (N0+1)then match A4z m ad cs with
         | some m'=>some (.int .i64 k,m')
         | none=>none else none
     | none=>none
   | none=>none
 | _,_=>none
def B8x(m:Mem)(t:TypeId)(x:Value):Option Value :=
 match P.underlying t,x with
 | some .string,.string s=>some (.int .i64 s.data.toList.length)
 | some (.array n _),_=>some (.int .i64 n)
 | some (.slice _),.slice _ n _=>some (.int .i64 n)
 | some (.map _ _),.map none=>some (.int .i64 0)
 | some (.map _ _),.map (some r)=>match Hp.get m.H r with
   | some (.map es _)=>some (.int .i64 es.length)
   | _=>none
 | _,_=>none
def C5T(t:TypeId)(x:Value):Option Value :=
 match P.underlying t,x with
 | some (.slice _),.slice none _ c=>some (.int .i64 c)
 | some (.slice _),.slice (some a) n c=>bif Nat.blt c N0 then some (.int .i64 c)else none
 | _,_=>none
def C46:List Value→Option Value
 | [.int k a,.int _ b]=>some (.int k (if b>a then b else a))
 | [.int k a,.int _ b,.int _ c]=>A8o (if b>a then b else a) fun d=>some (.int k (if c>d then c else d))
 | _=>none
def C45:List Value→Option Value
 | [.int k a,.int _ b]=>some (.int k (if b<a then b else a))
 | [.int k a,.int _ b,.int _ c]=>A8o (if b<a then b else a) fun d=>some (.int k (if c<d then c else d))
 | _=>none
def noM(v:Option Value)(m:Mem):Res :=
 match v with
 | some v=>some (v,m)
 | none=>none
def C1J(m:Option Mem):Res :=
 match m with
 | some m=>some (undef,m)
 | none=>none
def B5G(m:Mem)(c a b:Value):Res :=
 match c with
 | .bool true=>some (a,m)
 | .bool false=>some (b,m)
 | _=>none
def B1F(m:Mem)(e:TypeId):Res :=
 match A2W P e with
 | some z=>m9 m (.cells z.cells.toList e false) fun b=>.pointer (some ⟨b,0,none⟩)
 | none=>none
def B8a(m:Mem)(e:TypeId)(v:Value):Res :=
 bif v.cells.toList.all flat then m9 m (.cells v.cells.toList e false) fun b=>.pointer (some ⟨b,0,none⟩)else none
def B5H(m:Mem)(t:TypeId)(v:Value):Res :=
 match v with
 | .pointer (some a)=>noM (B5V P m t a) m
 | _=>none
def B1D(m:Mem)(t:TypeId)(x v:Value):Res :=
 match x with
 | .pointer (some a)=>C1J (A75 P m t a v)
 | _=>none
def B8Z(m:Mem)(x:Value):Res :=
 match x with
 | .pointer (some a)=>some (.pointer (some a),m)
 | .func (.func f) a b=>some (.func (.func f) a b,m)
 | _=>none
def A8l:BinOp→Bool
 | .eql|.neq=>true
 | _=>false
def C1B(m:Mem)(op:BinOp)(t:TypeId)(x y:Operand)(a b:Value):Res :=
 bif A8l op then(bif A3z P t x y a b then noM (A6P P op t a b) m else none)else noM (A6P P op t a b) m
def B1E(m:Mem)(t:TypeId)(v:Value):Res :=
 match P.underlying t with
 | some d=>(match d with|.interface _=>none|_=>bif flat v || (match v with|.agg _=>true|_=>false)then some (.iface t v,m)else none)
 | none=>none
def A3n(m:Mem)(v:Value)(i:Nat):Res :=
 match v with
 | .tuple vs=>noM vs.toList[i]? m
 | _=>none
def A2z(m:Mem)(x:Value):Res :=
 match x with
 | .slice none _ _=>some (.pointer none,m)
 | .slice (some a) n c=>bif Nat.beq n 0 || Nat.beq c 0 || Nat.beq c (N0+2)then none else some (.pointer (some a),m)
 | _=>none
def A1R(m:Mem)(pt:TypeId)(p l:Value):Res :=
 match p,l with
 | .pointer none,.int _ (.ofNat 0)=>some (.string ByteArray.empty,m)
 | .pointer (some a),.int _ (.ofNat n) =>
   match a.spot,Hp.get m.H a.block with
   | none,some (.cells cs T false)=>match P.underlying pt,G3 P T with
     | some (.pointer e),some 1=>bif Nat.blt 0 n && Nat.ble n 1000000000 && Nat.beq e T then match B9S cs a.off n with
       | some l=>match bytesOf l,A2Q m a.block (.cells cs T true)with
         | some l,some m'=>some (.string ⟨⟨l⟩⟩,m')
         | _,_=>none
       | none=>none else none
     | _,_=>none
   | _,_=>none
 | _,_=>none
def A2p(m:Mem)(b:Builtin)(vs:List Value)(tys:List TypeId):Res :=
 match b,vs,tys with
 | .len,[x],t::_=>noM (B8x P m t x) m
 | .cap,[x],t::_=>noM (C5T P t x) m
 | .append,[x,y],t::t2::_=>A6R P m t t2 x y
 | .copy,[x,y],t::_=>B3O P m t x y
 | .max,vs,_=>noM (C46 vs) m
 | .min,vs,_=>noM (C45 vs) m
 | .unsafeSliceData,[x],_=>A2z m x
 | .unsafeString,[p,l],t::_=>A1R P m t p l
 | _,_,_=>none
def opM(fr:Fr)(m:Mem)(o:Op):Res :=
 match o with
 | .move x|.assign x=>some (ev fr x,m)
 | .pick c a b=>B5G m (ev fr c) (ev fr a) (ev fr b)
 | .alloc e=>B1F P m e
 | .box e x=>B8a m e (ev fr x)
 | .build t ps=>noM (B4l P t (evP fr ps.toList)) m
 | .buildSlice t n ps=>A0s P m t n (evP fr ps.toList)
 | .load t x=>B5H P m t (ev fr x)
 | .store t x y=>B1D P m t (ev fr x) (ev fr y)
 | .nilCheck x=>B8Z m (ev fr x)
 | .binOp op t x y _=>C1B P m op t x y (ev fr x) (ev fr y)
 | .unOp op _ x=>noM (unM op (ev fr x)) m
 | .convert s t x=>B0Z P m s t (ev fr x)
 | .makeInterface t x=>B1E P m t (ev fr x)
 | .makeFunc (.func f) first cap=>some (.func (.func f) ⟨evL fr first.toList⟩ ⟨evL fr cap.toList⟩,m)
 | .makeSlice t l c=>A1c P m t (ev fr l) (ev fr c)
 | .slice t x lo hi mx=>noM (A0x P t (ev fr x) (evO fr lo) (evO fr hi) (evO fr mx)) m
 | .fieldAddr s x i=>noM (A0p P s (ev fr x) i) m
 | .field t x i=>noM (B1Z P t (ev fr x) i) m
 | .indexAddr t x i=>noM (Y0 P t (ev fr x) (ev fr i)) m
 | .index t x i=>noM (A3x P t (ev fr x) (ev fr i)) m
 | .extract x i=>A3n m (ev fr x) i
 | .call ⟨.builtin b,xs,tys⟩=>A2p P m b (evL fr xs.toList) tys.toList
 | _=>none
structure OpC where
 run:Fr→Mem→Res
def B83(x:XC)(fr:Fr)(m:Mem):Res:=some (x.run fr,m)
def C3g(c a b:XC)(fr:Fr)(m:Mem):Res:=B5G m (c.run fr) (a.run fr) (b.run fr)
def C57(e:TypeId)(x:XC)(fr:Fr)(m:Mem):Res:=B8a m e (x.run fr)
def C3h(t:TypeId)(x:XC)(fr:Fr)(m:Mem):Res:=B5H P m t (x.run fr)
def B82(t:TypeId)(x y:XC)(fr:Fr)(m:Mem):Res:=B1D P m t (x.run fr) (y.run fr)
def C55(x:XC)(fr:Fr)(m:Mem):Res:=B8Z m (x.run fr)
def C58(op:BinOp)(t:TypeId)(x y:Operand)(cx cy:XC)(fr:Fr)(m:Mem):Res:=C1B P m op t x y (cx.run fr) (cy.run fr)
def kUn(op:UnOp)(x:XC)(fr:Fr)(m:Mem):Res:=noM (unM op (x.run fr)) m
def C3i(s t:TypeId)(x:XC)(fr:Fr)(m:Mem):Res:=B0Z P m s t (x.run fr)
def A8h(s:TypeId)(x:XC)(i:Nat)(fr:Fr)(m:Mem):Res:=noM (A0p P s (x.run fr) i) m
def B85(s:TypeId)(x:XC)(i:Nat)(fr:Fr)(m:Mem):Res:=noM (B1Z P s (x.run fr) i) m
def A8g(t:TypeId)(x i:XC)(fr:Fr)(m:Mem):Res:=noM (Y0 P t (x.run fr) (i.run fr)) m
def B84(t:TypeId)(x i:XC)(fr:Fr)(m:Mem):Res:=noM (A3x P t (x.run fr) (i.run fr)) m
def B25(x:XC)(i:Nat)(fr:Fr)(m:Mem):Res:=A3n m (x.run fr) i
def B26(b:Builtin)(xs:LC)(tys:List TypeId)(fr:Fr)(m:Mem):Res:=A2p P m b (xs.run fr) tys
def A82(o:Op):OpC :=
 match o with
 | .move x=>⟨B83 (S7 x)⟩
 | .assign x=>⟨B83 (S7 x)⟩
 | .pick c a b=>⟨C3g (S7 c) (S7 a) (S7 b)⟩
 | .box e x=>⟨C57 e (S7 x)⟩
 | .load t x=>⟨C3h P t (S7 x)⟩
 | .store t x y=>⟨B82 P t (S7 x) (S7 y)⟩
 | .nilCheck x=>⟨C55 (S7 x)⟩
 | .binOp op t x y _=>⟨C58 P op t x y (S7 x) (S7 y)⟩
 | .unOp op _ x=>⟨kUn op (S7 x)⟩
 | .convert s t x=>⟨C3i P s t (S7 x)⟩
 | .fieldAddr s x i=>⟨A8h P s (S7 x) i⟩
 | .field t x i=>⟨B85 P t (S7 x) i⟩
 | .indexAddr t x i=>⟨A8g P t (S7 x) (S7 i)⟩
 | .index t x i=>⟨B84 P t (S7 x) (S7 i)⟩
 | .extract x i=>⟨B25 (S7 x) i⟩
 | .call ⟨.builtin b,xs,tys⟩=>⟨B26 P b (A7L xs.toList) tys.toList⟩
 | o=>⟨fun fr m=>opM P fr m o⟩
theorem A81(o:Op)(fr:Fr)(m:Mem):(A82 P o).run fr m=opM P fr m o:=by
 unfold A82;split<;>simp only[B83,C3g,C57,C3h,B82,C55,C58,kUn,C3i,A8h,B85,A8g,B84,B25,B26,opM,A1N,A4i]
def B4I(nt gl:Nat)(o:Op):Bool:=o.operands.toList.all (okX nt gl)
end Go.Sx
namespace Go.Sx
set_option linter.all false
set_option linter.unusedVariables false
open Go
def C5_:BinOp→Bool
 | .eql|.neq|.lss|.leq|.gtr|.geq=>true
 | _=>false
def A41(P:Program)(m:Mem)(op:BinOp)(t:TypeId)(a b:Value):Res :=
 let ta:=G1 a
 let tb:=G1 b
 bif (Nat.blt ta 8 && Nat.blt tb 8) || (Nat.beq ta 9 && Nat.beq tb 9)then X9 m (bif C5_ op then 8 else ta) (.bin op) [a,b]else
 bif Nat.beq ta 8 && Nat.beq tb 8 && A8l op && (match P.underlying t with|some .bool=>true|_=>false)then X9 m 8 (.bin op) [a,b]else none
def A1g(P:Program)(t:TypeId)(x y:Value):Bool :=
 match P.underlying t with
 | some .bool=>Nat.beq (G1 x) 8 && Nat.beq (G1 y) 8
 | some (.int k)=>Nat.beq (G1 x) (A4o k) && Nat.beq (G1 y) (A4o k)
 | some .string=>Nat.beq (G1 x) 9 && Nat.beq (G1 y) 9
 | _=>false
mutual
def eqS(P:Program):Nat→TypeId→Value→Value→Option (List Value)
 | 0,_,_,_=>none
 | d+1,t,x,y=>bif A1g P t x y then some [x,y]else
   match P.underlying t,x,y with
   | some (.struct fs),.agg xs,.agg ys=>bif P.stoodInHeld t then none else A8v P d fs.toList xs.toList ys.toList
   | some (.array n e),.agg xs,.agg ys=>match G3 P e with
     | some s=>A8v P d ((List.range n).map (C1y e s)) xs.toList ys.toList
     | none=>none
   | _,_,_=>none
def A8v(P:Program):Nat→List Field→List Value→List Value→Option (List Value)
 | 0,_,_,_=>none
 | _+1,[],_,_=>some []
 | d+1,f::fs,xs,ys =>
   bif f.name == "_" then none else
   match A55 P f.type xs f.offset,A55 P f.type ys f.offset with
   | some x,some y=>match eqS P d f.type x y,A8v P d fs xs ys with
     | some a,some b=>some (a++b)
     | _,_=>none
   | _,_=>none
end
def B2J(P:Program)(m:Mem)(op:BinOp)(t:TypeId)(x y:Operand)(a b:Value):Res :=
 bif A3z P t x y a b then
  match op,eqS P 20 t a b with
  | .eql,some l=>X9 m 8 .eqs l
  | .neq,some l=>match X9 m 8 .eqs l with
    | some (h,m)=>X9 m 8 (.un .not) [h]
    | none=>none
  | _,_=>none
 else none
def o9(t:Nat):List Value→Bool
 | []=>true
 | v::r=>Nat.beq (G1 v) t && o9 t r
def o8.sizeD(P:Program)(e:TypeId):Nat:=match G3 P e with|some n=>n|none=>0
def o8(P:Program)(m:Mem)(t:TypeId)(x i:Value):Res :=
 bif !(Nat.blt (G1 i) 8)then none else
 match P.underlying t with
 | some .string=>bif Nat.beq (G1 x) 9 then X9 m 4 .idx [x,i]else none
 | some (.array n e)=>match x,P.underlying e with
   | .agg cs,some (.int k)=>bif Nat.beq (cs.toList.length) n && o9 (A4o k) cs.toList && Nat.beq (o8.sizeD P e) 1 then X9 m (A4o k) .sel (i::cs.toList)else none
   | .agg cs,some .string=>bif Nat.beq (cs.toList.length) n && o9 9 cs.toList && Nat.beq (o8.sizeD P e) 1 then X9 m 9 .sel (i::cs.toList)else none
   | _,_=>none
 | _=>none
def A3c(P:Program)(m:Mem)(t:TypeId)(x:Value)(lo hi mx:Option Value):Res :=
 match P.underlying t,mx with
 | some .string,none=>bif Nat.beq (G1 x) 9 then
    match lo,hi with
    | none,none=>some (x,m)
    | some l,none=>bif Nat.blt (G1 l) 8 then X9 m 9 .sub1 [x,l]else none
    | none,some h=>bif Nat.blt (G1 h) 8 then X9 m 9 .sub [x,.int .i64 0,h]else none
    | some l,some h=>bif Nat.blt (G1 l) 8 && Nat.blt (G1 h) 8 then X9 m 9 .sub [x,l,h]else none
   else none
 | _,_=>none
def B2E(m:Mem)(op:UnOp)(x:Value):Res :=
 let t:=G1 x
 match op with
 | .not=>bif Nat.beq t 8 then X9 m 8 (.un .not) [x]else none
 | op=>bif Nat.blt t 8 then X9 m t (.un op) [x]else none
def A5s(P:Program)(m:Mem)(s t:TypeId)(x:Value):Res :=
 match P.underlying s,P.underlying t with
 | some (.int _),some (.int k)=>bif Nat.blt (G1 x) 8 then X9 m (A4o k) (.conv k) [x]else none
 | some .string,some .string=>bif Nat.beq (G1 x) 9 then some (x,m)else none
 | _,_=>none
def A1U(P:Program)(m:Mem)(b:Builtin)(vs:List Value)(tys:List TypeId):Res :=
 match b,vs,tys with
 | .len,[x],t::_=>match P.underlying t with
   | some .string=>bif Nat.beq (G1 x) 9 then X9 m 3 .len [x]else none
   | _=>none
 | .max,[x,y],_=>bif Nat.blt (G1 x) 8 && Nat.beq (G1 x) (G1 y)then X9 m (G1 x) .max [x,y]else none
 | .min,[x,y],_=>bif Nat.blt (G1 x) 8 && Nat.beq (G1 x) (G1 y)then X9 m (G1 x) .min [x,y]else none
 | _,_,_=>none
def B6r(m:Mem)(a:Addr)(s n:Nat)(i:Value):Res :=
 bif !(Nat.blt (G1 i) 8)then none else
 match X9 m 8 .inb [i,.int .i64 (.ofNat n)]with
 | some (b,⟨H,k,W,hi,lg⟩)=>match brL lg b with
   | some (true,lg)=>some (ixp a s i n,⟨H,k,W,hi,lg⟩)
   | _=>none
 | none=>none
def A1S(P:Program)(m:Mem)(t:TypeId)(x i:Value):Res :=
 match P.underlying t,x with
 | some (.array n e),.pointer (some a)=>match G3 P e,a.spot with
   | some s,none=>B6r m a s n i
   | _,_=>none
 | some (.slice e),.slice (some a) n c=>match G3 P e,a.spot with
   | some s,none=>bif Nat.beq c (N0+2)then none else B6r m a s n i
   | _,_=>none
 | _,_=>none
def A1T(P:Program)(m:Mem)(s:TypeId)(x:Value)(i:Nat):Res :=
 match x with
 | .func (.yield 1) ⟨[.pointer (some a),.int .i64 (.ofNat k),j,.int .i64 (.ofNat n)]⟩ ⟨[]⟩=>match P.underlying s with
   | some (.struct fs)=>match fs.toList[i]?,a.spot with
     | some f,none=>match G3 P f.type with
       | some (_+1)=>some (ixp (A0Q a f.offset) k j n,m)
       | _=>none
     | _,_=>none
   | _=>none
 | _=>none
def A7e(cs:List Value)(s o:Nat):Nat→Option (List Value)
 | 0=>some []
 | n+1=>match cs[o]?,A7e cs s (o+s) n with
   | some v,some r=>some (v::r)
   | _,_=>none
def A0i(m:Mem)(cs:List Value)(s n:Nat)(i:Value):Nat→Nat→Option (List Value×Mem)
 | _,0=>some ([],m)
 | o,k+1=>match A7e cs s o n with
   | some (v::l)=>bif o9 (G1 v) (v::l) && Nat.blt (G1 v) 10 then match X9 m (G1 v) .sel (i::v::l)with
     | some (h,m)=>match A0i m cs s n i (o+1) k with
       | some (r,m)=>some (h::r,m)
       | none=>none
     | none=>none else none
   | _=>none
def A5r(P:Program)(m:Mem)(t:TypeId)(x:Value):Res :=
 match x with
 | .func (.yield 1) ⟨[.pointer (some a),.int .i64 (.ofNat s),i,.int .i64 (.ofNat n)]⟩ ⟨[]⟩ =>
   match A0T P t,G3 P t with
   | some false,_=>match w5 m a ((n-1)*s+1)with
     | some cs=>match A0i m cs s n i 0 1 with
       | some ([h],m)=>some (h,m)
       | _=>none
     | none=>none
   | some true,some z=>match w5 m a ((n-1)*s+z)with
     | some cs=>match A0i m cs s n i 0 z with
       | some (hs,m)=>some (.agg ⟨hs⟩,m)
       | none=>none
     | none=>none
   | _,_=>none
 | _=>none
def A7d(m:Mem)(c a b:Value):Res :=
 match m with
 | ⟨H,n,W,hi,lg⟩=>match brL lg c with
   | some (true,lg)=>some (a,⟨H,n,W,hi,lg⟩)
   | some (false,lg)=>some (b,⟨H,n,W,hi,lg⟩)
   | none=>none
def B7r(P:Program)(fr:Fr)(m:Mem)(o:Op):Res :=
 match o with
 | .pick c a b=>A7d m (ev fr c) (ev fr a) (ev fr b)
 | .binOp op t x y _=>match A41 P m op t (ev fr x) (ev fr y)with
   | some r=>some r
   | none=>B2J P m op t x y (ev fr x) (ev fr y)
 | .unOp op _ x=>B2E m op (ev fr x)
 | .convert s t x=>A5s P m s t (ev fr x)
 | .slice t x lo hi mx=>A3c P m t (ev fr x) (evO fr lo) (evO fr hi) (evO fr mx)
 | .index t x i=>o8 P m t (ev fr x) (ev fr i)
 | .indexAddr t x i=>A1S P m t (ev fr x) (ev fr i)
 | .fieldAddr s x i=>A1T P m s (ev fr x) i
 | .load t x=>A5r P m t (ev fr x)
 | .call ⟨.builtin b,xs,tys⟩=>A1U P m b (evL fr xs.toList) tys.toList
 | _=>none
def A5M(m:Mem)(b:Nat):Bool :=
 match Hp.get m.H b with
 | some .frz=>Nat.ble b G8
 | _=>false
def B4C{α:Type}(l:List α):Nat→List α
 | 0=>[]
 | n+1=>l++B4C l n
mutual
def B7o(P:Program):Nat→TypeId→Option (List Nat)
 | 0,_=>none
 | d+1,t=>match P.underlying t with
   | some .bool=>some [8]
   | some (.int k)=>some [A4o k]
   | some .string=>some [9]
   | some (.slice e)=>match G3 P e with
     | some w=>some [10+w]
     | none=>none
   | some (.struct fs)=>C2p P d fs.toList
   | some (.array n e)=>match B7o P d e with
     | some l=>some (B4C l n)
     | none=>none
   | _=>none
def C2p(P:Program):Nat→List Field→Option (List Nat)
 | 0,_=>none
 | _+1,[]=>some []
 | d+1,f::fs=>match B7o P d f.type,C2p P d fs with
   | some a,some b=>some (a++b)
   | _,_=>none
end
def A40(P:Program)(t:TypeId):Option (List Nat) :=
 match B7o P 30 t,G3 P t with
 | some l,some n=>bif Nat.beq l.length n then some l else none
 | _,_=>none
def Y2.letDo(t:Nat)(op:LOp)(xs:List Value)(m:Mem)(k:Nat→Mem→Option (List Value×Mem)):Option (List Value×Mem) :=
 match m with
 | ⟨H,n,W,hi,⟨nx,pi,log⟩⟩=>J7 nx fun nx=>J7 t fun t=>R7 xs fun xs=>k nx ⟨H,n,W,hi,⟨Nat.succ nx,pi,.dt nx t op xs::log⟩⟩
def Y2(w o i t:Nat)(z:Value)(g:Nat):List Nat→Nat→Mem→Option (List Value×Mem)
 | [],_,m=>some ([],m)
 | tg::ts,j,m=>bif Nat.blt tg 10 then
    match X9 m tg (.get w (o+j)) [hole i t,z]with
    | some (h,m)=>match Y2 w o i t z g ts (j+1) m with
      | some (r,m)=>some (h::r,m)
      | none=>none
    | none=>none
   else Y2.letDo tg (.get w (o+j)) [hole i t,z] m fun nx m=>match Y2 w o i t z g ts (j+1) m with
     | some (r,m)=>some (dat g nx tg::r,m)
     | none=>none
def A4D(P:Program)(t:TypeId)(r:Option (List Value×Mem)):Res :=
 match A0T P t,r with
 | some false,some ([v],m)=>some (v,m)
 | some true,some (vs,m)=>some (.agg ⟨vs⟩,m)
 | _,_=>none
def B2w(P:Program)(m:Mem)(t:TypeId)(x:Value):Res :=
 match x,A40 P t with
 | .func (.yield 5) ⟨[.pointer (some ⟨b,0,none⟩),.complex .f64 i tg,z,.int .i64 (.ofNat o)]⟩ ⟨[]⟩,some ts =>
   bif A5M m b then A4D P t (Y2 (tg-10) o i tg z b ts 0 m)else none
 | .func (.yield 6) ⟨[.pointer (some ⟨b,0,none⟩),.complex .f64 i tg,z,.int .i64 (.ofNat o)]⟩ ⟨[]⟩,some ts =>
   match Hp.get m.H b with
   | some (.sq c tc T g ro)=>bif Nat.beq tc tg then A4D P t (Y2 (tg-10) o c tg z g ts 0 m)else none
   | _=>none
 | _,_=>none
def B2_(m:Mem)(i t:Nat)(z:Value)(k:Value):Res :=
 bif !(Nat.blt (G1 z) 8)then none else
 match X9 m 8 (.inbs (t-10)) [z,hole i t]with
 | some (b,⟨H,n,W,hi,lg⟩)=>match brL lg b with
   | some (true,lg)=>some (k,⟨H,n,W,hi,lg⟩)
   | _=>none
 | none=>none
def A3y(P:Program)(m:Mem)(t:TypeId)(x z:Value):Res :=
 match P.underlying t,x with
 | some (.slice e),.func (.yield 4) ⟨[.pointer (some ⟨b,0,none⟩),.complex .f64 i tg]⟩ ⟨[]⟩=>match G3 P e with
   | some (s+1)=>bif Nat.beq tg (10+(s+1))then B2_ m i tg z (opt b i tg z 0)else none
   | _=>none
 | some (.slice e),.func (.yield 2) ⟨[.pointer (some ⟨b,0,none⟩),.complex .f64 i tg]⟩ ⟨[]⟩=>match G3 P e with
   | some (s+1)=>bif Nat.beq tg (10+(s+1))then B2_ m i tg z (dpt b i tg z 0)else none
   | _=>none
 | some (.slice e),.func (.yield 3) ⟨[.pointer (some ⟨b,0,none⟩),.complex .f64 i tg]⟩ ⟨[]⟩=>match G3 P e with
   | some (s+1)=>bif Nat.beq tg (10+(s+1))then B2_ m i tg z (dpt b i tg z 0)else none
   | _=>none
 | some (.array n e),.func (.yield 5) ⟨[.pointer (some ⟨b,0,none⟩),.complex .f64 i tg,y,.int .i64 (.ofNat o)]⟩ ⟨[]⟩=>match G3 P e,z with
   | some s,.int _ (.ofNat k)=>bif Nat.blt k n && Nat.blt (o+k*s) (tg-10)then some (J7 (o+k*s) fun o=>dpt b i tg y o,m)else none
   | _,_=>none
 | some (.array n e),.func (.yield 6) ⟨[.pointer (some ⟨b,0,none⟩),.complex .f64 i tg,y,.int .i64 (.ofNat o)]⟩ ⟨[]⟩=>match G3 P e,z with
   | some s,.int _ (.ofNat k)=>bif Nat.blt k n && Nat.blt (o+k*s) (tg-10)then some (J7 (o+k*s) fun o=>opt b i tg y o,m)else none
   | _,_=>none
 | _,_=>none
def A32(P:Program)(m:Mem)(s:TypeId)(x:Value)(f:Nat):Res :=
 match P.underlying s,x with
 | some (.struct fs),.func (.yield 5) ⟨[.pointer (some ⟨b,0,none⟩),.complex .f64 i tg,y,.int .i64 (.ofNat o)]⟩ ⟨[]⟩=>match fs.toList[f]? with
   | some fd=>match G3 P fd.type with
     | some (_+1)=>bif Nat.blt (o+fd.offset) (tg-10)then some (J7 (o+fd.offset) fun o=>dpt b i tg y o,m)else none
     | _=>none
   | none=>none
 | some (.struct fs),.func (.yield 6) ⟨[.pointer (some ⟨b,0,none⟩),.complex .f64 i tg,y,.int .i64 (.ofNat o)]⟩ ⟨[]⟩=>match fs.toList[f]? with
   | some fd=>match G3 P fd.type with
     | some (_+1)=>bif Nat.blt (o+fd.offset) (tg-10)then some (J7 (o+fd.offset) fun o=>opt b i tg y o,m)else none
     | _=>none
   | none=>none
 | _,_=>none
def A6J(i:Nat):List r8→Option Nat
 | []=>none
 | .lt j t .len [.complex .f64 k _]::r=>bif Nat.beq k i && Nat.beq t 3 then some j else A6J i r
 | _::r=>A6J i r
def B2z(m:Mem)(i t:Nat):Res :=
 match A6J i m.lg.log with
 | some j=>some (hole j 3,m)
 | none=>X9 m 3 .len [hole i t]
def C1S(P:Program)(m:Mem)(t:TypeId)(x:Value):Res :=
 match P.underlying t,x with
 | some (.slice _),.func (.yield 2) ⟨[.pointer (some ⟨b,0,none⟩),.complex .f64 i tg]⟩ ⟨[]⟩=>B2z m i tg
 | some (.slice _),.func (.yield 3) ⟨[.pointer (some ⟨b,0,none⟩),.complex .f64 i tg]⟩ ⟨[]⟩=>B2z m i tg
 | some (.slice _),.func (.yield 4) ⟨[.pointer (some ⟨b,0,none⟩),.complex .f64 i tg]⟩ ⟨[]⟩=>B2z m i tg
 | _,_=>none
def A2R(m:Mem)(k:Nat→Mem→Option (Value×Nat×Mem)):Option (Value×Nat×Mem) :=
 match m with
 | ⟨H,n,W,hi,lg⟩=>bif Nat.ble n G8 then J7 n fun n=>J7 (upN hi n) fun hi=>Hp.put H n (some .frz) fun H=>k n ⟨H,Nat.succ n,W,hi,lg⟩else none
def toD(t:Nat)(v:Value)(m:Mem):Option (Value×Nat×Mem) :=
 match v with
 | .func (.yield 2) ⟨[.pointer (some ⟨b,0,none⟩),.complex .f64 i tg]⟩ ⟨[]⟩=>bif Nat.beq tg t && A5M m b then some (hole i tg,b,m)else none
 | .func (.yield 3) ⟨[.pointer (some ⟨b,0,none⟩),.complex .f64 i tg]⟩ ⟨[]⟩=>bif Nat.beq tg t && A5M m b then some (hole i tg,b,m)else none
 | .func (.yield 4) ⟨[.pointer (some ⟨b,0,none⟩),.complex .f64 i tg]⟩ ⟨[]⟩=>match Hp.get m.H b with
   | some (.sq c tc T g true)=>bif (Nat.beq tg t && Nat.beq tc t) && A5M m g then A2R m fun b' m=>some (hole c tc,b',m)else none
   | some (.sq c tc T g false)=>bif (Nat.beq tg t && Nat.beq tc t) && A5M m g then match A2Q m b (.sq c tc T g true)with
     | some m=>A2R m fun b' m=>some (hole c tc,b',m)
     | none=>none else none
   | _=>none
 | .slice none 0 0=>bif Nat.ble 10 t then(match A9c m t (.nilw (t-10)) [] fun nx m=>some (hole nx t,m)with
   | some (h,m)=>A2R m fun b' m=>some (h,b',m)
   | none=>none)else none
 | _=>none
abbrev Td:=Nat→Value→Mem→Option (Value×Nat×Mem)
def A9L(td:Td):List Nat→List Value→Mem→Option (List Value×List Nat×Mem)
 | [],[],m=>some ([],[],m)
 | t::ts,v::vs,m=>bif Nat.blt t 10 then
    bif Nat.beq (G1 v) t then match A9L td ts vs m with
     | some (r,gs,m)=>some (v::r,gs,m)
     | none=>none else none
   else match td t v m with
    | some (h,b,m)=>match A9L td ts vs m with
      | some (r,gs,m)=>some (h::r,b::gs,m)
      | none=>none
    | none=>none
 | _,_,_=>none
def A3O(gs:List Nat)(m:Mem):Option (Nat×Mem) :=
 match gs with
 | [g]=>bif A5M m g then some (g,m)else none
 | gs=>bif gs.all (A5M m)then match A2R m fun b m=>some (undef,b,m)with
   | some (_,b,m)=>some (b,m)
   | none=>none else none
def B44:Value→Value→Bool
 | .complex .f64 i _,.complex .f64 j _=>Nat.beq i j
 | .int k a,.int j b=>A9v k j && B1e a b
 | _,_=>false
def A8i(v:Value):Bool:=Nat.blt (G1 v) 8
def A2I(m:Mem)(b i t:Nat)(l h:Value)(c:Bool):Res:=bif A8i l && A8i h then A9c m t (.subs (t-10)) [hole i t,l,h] fun nx m=>some (bif c then clp b nx t else dat b nx t,m)else none
def B3M(m:Mem)(b i t:Nat)(cl:Bool)(l:Value)(hi mx:Option Value):Res :=
 match hi,mx with
 | some h,none=>A2I m b i t l h false
 | some h,some x=>bif B44 h x then A2I m b i t l h true else none
 | none,none=>match B2z m i t with
   | some (h,m)=>A2I m b i t l h cl
   | none=>none
 | none,some _=>none
def C5z(lo:Option Value):Value :=
 match lo with
 | some l=>l
 | none=>.int .i64 0
def B3N(m:Mem)(b i t:Nat)(cl:Bool)(lo hi mx:Option Value):Res:=B3M m b i t cl (C5z lo) hi mx
def A77(P:Program)(m:Mem)(t:TypeId)(x:Value)(lo hi mx:Option Value):Res :=
 match P.underlying t,x with
 | some (.slice e),.func (.yield 2) ⟨[.pointer (some ⟨b,0,none⟩),.complex .f64 i tg]⟩ ⟨[]⟩=>match G3 P e with
   | some s=>bif Nat.beq tg (10+s)then B3N m b i tg false lo hi mx else none
   | none=>none
 | some (.slice e),.func (.yield 3) ⟨[.pointer (some ⟨b,0,none⟩),.complex .f64 i tg]⟩ ⟨[]⟩=>match G3 P e with
   | some s=>bif Nat.beq tg (10+s)then B3N m b i tg true lo hi mx else none
   | none=>none
 | some (.slice e),.func (.yield 4) ⟨[.pointer (some ⟨b,0,none⟩),.complex .f64 i tg]⟩ ⟨[]⟩=>match G3 P e with
   | some s=>bif Nat.beq tg (10+s)then match toD tg x m with
     | some (.complex .f64 c _,b',m)=>B3N m b' c tg false lo hi mx
     | _=>none else none
   | none=>none
 | _,_=>none
inductive Beh where
 | cells (xs:List Value)
 | rows (x:Value)
 | str (x:Value)
def A07(w:Nat)(c:Value):Beh→LOp×List Value
 | .cells xs=>(.snoc w,c::xs)
 | .rows x=>(.cat w,[c,x])
 | .str x=>(.cats,[c,x])
def B9k(td:Td)(P:Program)(m:Mem)(e:TypeId)(w:Nat)(y:Value):Option (Beh×List Nat×Bool×Mem) :=
 match y with
 | .slice none 0 _=>some (.cells [],[],false,m)
 | .slice (some a) n _=>match w5 m a (n*w),A40 P e with
   | some cs,some ts=>match A9L td (B4C ts n) cs m with
     | some (xs,gs,m)=>some (.cells xs,gs,Nat.blt 0 n,m)
     | none=>none
   | _,_=>none
 | .func _ _ _=>match td (10+w) y m with
   | some (x,b,m)=>some (.rows x,[b],false,m)
   | none=>none
 | y=>bif Nat.beq (G1 y) 9 && Nat.beq w 1 then some (.str y,[],false,m)else none
def B0k(td:Td)(P:Program)(m:Mem)(e:TypeId)(w:Nat)(x:Value):Option (Nat×List Nat×Option Nat×Mem) :=
 match x with
 | .slice none 0 0=>match A9c m (10+w) (.nilw w) [] fun nx m=>some (hole nx (10+w),m)with
   | some (.complex .f64 c _,m)=>some (c,[],none,m)
   | _=>none
 | .func (.yield 4) ⟨[.pointer (some ⟨b,0,none⟩),.complex .f64 i tg]⟩ ⟨[]⟩=>match Hp.get m.H b with
   | some (.sq c tc T g false)=>bif (Nat.beq tg (10+w) && Nat.beq tc tg) && (Nat.beq T e && Nat.ble b G8)then some (c,[g],some b,m)else none
   | _=>none
 | .slice (some ⟨b,0,none⟩) n c=>match Hp.get m.H b,A40 P e with
   | some (.cells cs _ _),some ts=>bif Nat.beq cs.length (n*w) && (Nat.beq c n && Nat.blt c N0 || Nat.beq c N0)then match A9L td (B4C ts n) cs m with
     | some (xs,gs,m)=>match Hp.get m.H b with
       | some (.cells _ T false)=>bif Nat.beq T e && Nat.ble b G8 then match A9c m (10+w) (.mk w) xs fun nx m=>some (hole nx (10+w),m)with
         | some (.complex .f64 c _,m)=>some (c,gs,some b,m)
         | _=>none else none
       | _=>none
     | none=>none else none
   | _,_=>none
 | _=>none
def A0I(m:Mem)(c t:Nat)(T:TypeId)(g:Nat):Res:=m9 m (.sq c t T g false) fun b=>own b c t
def B7E(P:Program)(e:TypeId)(n:Nat):Bool :=
 match A2W P e with
 | some z=>Nat.beq z.cells.size n
 | none=>false
def A3M(old:Option Nat)(m:Mem):Mem :=
 match old with
 | some b=>A3N m b
 | none=>m
def B6l(td:Td)(P:Program)(m:Mem)(e:TypeId)(w:Nat)(x:Value):Res :=
 match P.info? e with
 | some inf=>bif Nat.beq inf.size w && Nat.blt 0 w then match B0k td P m e w x with
   | some (c,gs,old,m)=>match A3O gs m with
     | some (g,m)=>A0I (A3M old m) c (10+w) e g
     | none=>none
   | none=>none else none
 | none=>none
def B7k(P:Program):Nat→Td
 | 0=>toD
 | d+1=>fun t v m=>match v with
   | .slice (some ⟨b,0,none⟩) _ _=>match Hp.get m.H b with
     | some (.cells _ T _)=>match B6l (B7k P d) P m T (t-10) v with
       | some (x,m)=>toD t x m
       | none=>none
     | _=>none
   | v=>toD t v m
def tdP(P:Program):Td:=B7k P 3
def B2d(m:Mem)(e:TypeId)(w c:Nat)(old:Option Nat)(bh:Beh)(gs:List Nat):Res :=
 match A3O gs m with
 | some (g,m)=>A9c m (10+w) (A07 w (hole c (10+w)) bh).1 (A07 w (hole c (10+w)) bh).2 fun nx m=>A0I (A3M old m) nx (10+w) e g
 | none=>none
def A6S(P:Program)(m:Mem)(t t2:TypeId)(x y:Value):Res :=
 match P.underlying t,P.underlying t2 with
 | some (.slice e),some d2=>bif !(A02 d2)then none else
   match P.info? e with
   | some i=>bif (Nat.ble i.bytes 90000 && Nat.blt 0 i.size) && B7E P e i.size then
     match B9k (tdP P) P m e i.size y with
     | some (bh,gs,sure,m)=>match B0k (tdP P) P m e i.size x with
       | some (c,g0,old,m)=>B2d m e i.size c old bh (g0++gs)
       | none=>match x,sure with
         | .func (.yield 3) ⟨[.pointer (some ⟨b,0,none⟩),.complex .f64 c tg]⟩ ⟨[]⟩,true=>bif Nat.beq tg (10+i.size)then B2d m e i.size c none bh (b::gs)else none
         | _,_=>none
     | none=>none else none
   | none=>none
 | _,_=>none
def A76(P:Program)(m:Mem)(t:TypeId)(x v:Value):Res :=
 match x,A40 P t with
 | .func (.yield 6) ⟨[.pointer (some ⟨b,0,none⟩),.complex .f64 i tg,z,.int .i64 (.ofNat o)]⟩ ⟨[]⟩,some ts=>bif A29 v then none else
   match A9L (tdP P) ts v.cells.toList m with
   | some (xs,gs,m)=>match Hp.get m.H b with
     | some (.sq c tc T g false)=>bif Nat.beq tc tg then match A3O (g::gs) m with
       | some (g,m)=>match A9c m tg (.set (tg-10) o) (hole c tg::z::xs) fun nx m=>some (hole nx tg,m)with
         | some (.complex .f64 nx _,m)=>C1J (A2Q m b (.sq nx tg T g false))
         | _=>none
       | none=>none else none
     | _=>none
   | none=>none
 | _,_=>none
def C3f(m m1:Mem):Mem :=
 match m,m1 with
 | ⟨H,n,W,_,_⟩,⟨_,_,_,hi,lg⟩=>⟨H,n,W,hi,lg⟩
def B3P(P:Program)(m:Mem)(s t:TypeId)(x:Value):Res :=
 match P.underlying s,P.underlying t,x with
 | some (.slice e),some .string,.slice (some a) n _=>match P.underlying e with
   | some (.int .u8)=>match w5 m a n with
     | some cs=>bif o9 4 cs then X9 m 9 .mks cs else none
     | none=>none
   | _=>none
 | some (.slice e),some .string,.func _ _ _=>match P.underlying e with
   | some (.int .u8)=>match toD 11 x m with
     | some (h,_,m1)=>X9 (C3f m m1) 9 .str [h]
     | none=>none
   | _=>none
 | some _,some (.slice e),x=>bif Nat.beq (G1 x) 9 then match P.underlying e with
   | some (.int .u8)=>match G3 P e with
     | some 1=>match A3O [] m with
       | some (g,m)=>match A9c m 11 .byt [x] fun nx m=>some (hole nx 11,m)with
         | some (.complex .f64 nx _,m)=>A0I m nx 11 e g
         | _=>none
       | none=>none
     | _=>none
   | _=>none else none
 | _,_,_=>none
def B86:Value→Bool
 | .slice none 0 0=>true
 | _=>false
def B8c(P:Program)(m:Mem)(op:BinOp)(t:TypeId)(x y:Operand)(a b:Value):Res :=
 match P.underlying t,a with
 | some (.slice _),.func (.yield k) ⟨[.pointer (some ⟨_,0,none⟩),.complex .f64 i tg]⟩ ⟨[]⟩=>bif B86 b && isC y && (Nat.beq k 2 || Nat.beq k 3 || Nat.beq k 4)then
   match op,X9 m 8 .nilp [hole i tg]with
   | .eql,some r=>some r
   | .neq,some (h,m)=>X9 m 8 (.un .not) [h]
   | _,_=>none else none
 | _,_=>none
def B2r(P:Program)(m:Mem)(t:TypeId)(l c:Value):Res :=
 match P.underlying t,l,c with
 | some (.slice e),.complex .f64 i ti,.complex .f64 j tj=>bif (Nat.beq i j && Nat.beq ti 3) && Nat.beq tj 3 then
   match P.info? e with
   | some inf=>bif Nat.ble inf.bytes 90000 && Nat.blt 0 inf.size then
     match A2W P e with
     | some z=>bif Nat.beq z.cells.size inf.size && z.cells.toList.all (fun z=>Nat.blt (G1 z) 10)then
       match A3O [] m with
       | some (g,m)=>match A9c m (10+inf.size) (.rep inf.size) (hole i 3::z.cells.toList) fun nx m=>some (hole nx (10+inf.size),m)with
         | some (.complex .f64 nx _,m)=>A0I m nx (10+inf.size) e g
         | _=>none
       | none=>none else none
     | none=>none else none
   | none=>none else none
 | _,_,_=>none
def dsM(P:Program)(fr:Fr)(m:Mem)(o:Op):Res :=
 match o with
 | .makeSlice t l c=>B2r P m t (ev fr l) (ev fr c)
 | .load t x=>B2w P m t (ev fr x)
 | .store t x y=>A76 P m t (ev fr x) (ev fr y)
 | .indexAddr t x i=>A3y P m t (ev fr x) (ev fr i)
 | .fieldAddr s x i=>A32 P m s (ev fr x) i
 | .slice t x lo hi mx=>A77 P m t (ev fr x) (evO fr lo) (evO fr hi) (evO fr mx)
 | .convert s t x=>B3P P m s t (ev fr x)
 | .binOp op t x y _=>B8c P m op t x y (ev fr x) (ev fr y)
 | .call ⟨.builtin .len,xs,tys⟩=>match evL fr xs.toList,tys.toList with
   | [x],t::_=>C1S P m t x
   | _,_=>none
 | .call ⟨.builtin .append,xs,tys⟩=>match evL fr xs.toList,tys.toList with
   | [x,y],t::t2::_=>A6S P m t t2 x y
   | _,_=>none
 | _=>none
def B5x(P:Program)(m:Mem)(s t:TypeId)(x:Value):Res :=
 match P.underlying s,P.underlying t,x with
 | some (.pointer e),some .unsafePointer,.pointer (some ⟨b,o,none⟩)=>match G3 P e,Hp.get m.H b with
   | some (_+1),some (.cells cs _ _)=>bif Nat.blt o cs.length then some (x,m)else none
   | _,_=>none
 | some .unsafePointer,some (.pointer u),.pointer (some ⟨b,0,none⟩)=>match G3 P u,Hp.get m.H b with
   | some (k+1),some (.cells cs T false)=>bif Nat.beq T u && Nat.beq cs.length (k+1)then some (x,m)else none
   | _,_=>none
 | _,_,_=>none
def B5C(P:Program)(m:Mem)(op:BinOp)(t:TypeId)(a b:Value):Res :=
 match P.underlying t,a,b with
 | some (.pointer e),.pointer (some ⟨b1,o1,none⟩),.pointer (some ⟨b2,o2,none⟩)=>bif Nat.beq b1 b2 && Nat.beq o1 o2 then match P.info? e,op with
   | some _,.eql=>some (.bool true,m)
   | some _,.neq=>some (.bool false,m)
   | _,_=>none else none
 | _,_,_=>none
def sdM(P:Program)(m:Mem)(ty:TypeId)(x:Value):Res :=
 match P.underlying ty with
 | some (.pointer _)=>match x with
  | .func (.yield 4) ⟨[.pointer (some ⟨b,0,none⟩),.complex .f64 i t]⟩ ⟨[]⟩=>match Hp.get m.H b with
   | some (.sq _ _ _ _ _)=>some (sdt b,m)
   | _=>none
  | _=>none
 | _=>none
def usM(P:Program)(m:Mem)(pt:TypeId)(p l:Value):Res :=
 match p with
 | .func (.yield 9) ⟨[.pointer (some ⟨b,0,none⟩)]⟩ ⟨[]⟩=>bif Nat.blt (G1 l) 8 then match Hp.get m.H b,P.underlying pt with
   | some (.sq c tc T g false),some (.pointer e)=>bif Nat.beq e T && Nat.beq tc 11 then match G3 P T,X9 m 9 .ustr [hole c tc,l]with
     | some 1,some (v,m)=>match A2Q m b (.sq c tc T g true)with
       | some m=>some (v,m)
       | none=>none
     | _,_=>none else none
   | _,_=>none else none
 | _=>none
def xtM(P:Program)(fr:Fr)(m:Mem)(o:Oper):Res :=
 match o.op with
 | .convert s t x=>B5x P m s t (ev fr x)
 | .binOp op t x y _=>B5C P m op t (ev fr x) (ev fr y)
 | .call ⟨.builtin .unsafeSliceData,xs,_⟩=>match evL fr xs.toList with
   | [x]=>sdM P m o.type x
   | _=>none
 | .call ⟨.builtin .unsafeString,xs,tys⟩=>match evL fr xs.toList,tys.toList with
   | [p,l],t::_=>usM P m t p l
   | _,_=>none
 | _=>none
inductive EK where
 | noEscape|makeNoZero (e:TypeId)|indexByteString|countString|indexString|copyString
 deriving DecidableEq
def B3I:List (FuncId×EK)→FuncId→Option EK
 | [],_=>none
 | (g,k)::r,f=>bif Nat.beq g f then some k else B3I r f
structure FnC where
 run:List Value→Mem→Res
structure O7 where
 fn:FuncId→FnC
 yl:FnC
def A4a:Value→Bool
 | .tuple ⟨[]⟩=>true
 | _=>false
def B11(lg:Lg)(v:Value)(b:Bool):Option (Bool×Lg) :=
 match v with
 | .bool c=>some (c == b,lg)
 | .complex k i t=>match brL lg (.complex k i t)with
   | some (c,lg)=>some (c == b,lg)
   | none=>none
 | v=>bif A4a v then some (false,lg)else none
def A0H(nt:Nat)(fr:Fr)(lg:Lg)(ops:List Oper)(o:Oper):Option (Bool×Lg) :=
 match o.guard with
 | none=>some (true,lg)
 | some (j,b)=>match ops[j]? with
   | some p=>match p.dst with
     | some t=>bif Nat.blt t nt then B11 lg (fr.get t) b else none
     | none=>none
   | none=>none
def A7t(v:Value)(vs:List Value):Option (FuncId×List Value) :=
 match v with
 | .func (.func f) a b=>some (f,a.toList++(vs++b.toList))
 | _=>none
def A1P(v:Value):Option Nat :=
 match v with
 | .func (.yield 7) ⟨[.pointer (some ⟨b,0,none⟩)]⟩ ⟨[]⟩=>some b
 | _=>none
def B2n(call:O7)(m:Mem)(v:Value)(vs:List Value):Res :=
 match A7t v vs with
 | some (f,vs)=>(call.fn f).run vs m
 | none=>match A1P v with
   | some _=>call.yl.run (v::vs) m
   | none=>none
def C56(call:O7)(x:XC)(xs:LC)(fr:Fr)(m:Mem):Res:=B2n call m (x.run fr) (xs.run fr)
def C49(f:FnC)(xs:LC)(fr:Fr)(m:Mem):Res:=f.run (xs.run fr) m
def B81(P:Program)(c:OpC)(o:Oper)(fr:Fr)(m:Mem):Res :=
 match c.run fr m with
 | some r=>some r
 | none=>match B7r P fr m o.op with
   | some r=>some r
   | none=>match dsM P fr m o.op with
     | some r=>some r
     | none=>xtM P fr m o
def X0(P:Program)(call:O7)(o:Oper):OpC :=
 match o.op with
 | .call ⟨.value (.func f),xs,_⟩=>⟨C49 (call.fn f) (A7L xs.toList)⟩
 | .call ⟨.value x,xs,_⟩=>⟨C56 call (S7 x) (A7L xs.toList)⟩
 | op=>⟨B81 P (A82 P op) o⟩
def A8w(nt:Nat)(d:Option Tmp):Bool :=
 match d with
 | some d=>Nat.blt d nt
 | none=>true
structure C5Y where
 run:Value→Fr→(Fr→Option S)→Option S
def A7Z(d:Option Tmp):C5Y :=
 match d with
 | some t=>⟨A7W (sel (t / 64%8)) (sel (t / 8%8)) (sel (t%8))⟩
 | none=>⟨fun _ fr k=>k fr⟩
structure C0L where
 run:S→Option S
def A3h(c:OpC)(d:C5Y)(next:C0L)(s:S):Option S :=
 match s with
 | ⟨fr,m⟩=>match c.run fr m with
   | some (v,m')=>bif Nat.ble m.hi m'.hi then d.run v fr fun fr=>next.run ⟨fr,m'⟩else none
   | none=>none
def A1W(nt:Nat)(all:List Oper)(o:Oper)(c:OpC)(d:C5Y)(next:C0L)(s:S):Option S :=
 match s with
 | ⟨fr,⟨H,n,W,hi,lg⟩⟩=>match A0H nt fr lg all o with
   | some (true,lg)=>A3h c d next ⟨fr,⟨H,n,W,hi,lg⟩⟩
   | some (false,lg)=>d.run undef fr fun fr=>next.run ⟨fr,⟨H,n,W,hi,lg⟩⟩
   | none=>none
def V3(P:Program)(nt gl:Nat)(call:O7)(all:List Oper):List Oper→C0L
 | []=>⟨some⟩
 | o::r=>bif A8w nt o.dst && B4I nt gl o.op then match o.guard with
   | none=>⟨fun s=>A3h (X0 P call o) (A7Z o.dst) (V3 P nt gl call all r) s⟩
   | some _=>⟨fun s=>A1W nt all o (X0 P call o) (A7Z o.dst) (V3 P nt gl call all r) s⟩
   else⟨fun _=>none⟩
structure Rec where
 i:Nat
 lo:Nat
 hi:Nat
inductive Cls where
 | free
 | one (b:Nat)
 | all
def C6O(fr:Fr)(o:Op):Cls :=
 match o with
 | .move _|.assign _|.pick ..|.alloc _|.box ..|.build ..|.buildSlice ..|.nilCheck _|.binOp ..|.unOp ..|.makeInterface ..|.makeFunc ..|.makeMap ..|.makeSlice ..
 | .fieldAddr ..|.field ..|.indexAddr ..|.index ..|.extract ..|.range ..=>.free
 | .slice _ x _ _ _=>match ev fr x with
   | .slice _ _ _|.string _|.pointer _|.complex _ _ _=>.free
   | _=>.all
 | .convert _ _ x=>match ev fr x with
   | .int _ _|.string _=>.free
   | _=>.all
 | .call ⟨.builtin .len,xs,_⟩=>match evL fr xs.toList with
   | [.slice _ _ _]|[.string _]=>.free
   | _=>.all
 | .call ⟨.builtin .min,_,_⟩|.call ⟨.builtin .max,_,_⟩=>.free
 | .call ⟨.builtin .unsafeSliceData,xs,_⟩=>match evL fr xs.toList with
   | [.slice _ _ _]=>.free
   | _=>.all
 | .load _ x|.store _ x _=>match ev fr x with
   | .pointer (some a)=>.one a.block
   | _=>.all
 | _=>.all
def B0Q(H:Hp AB):List Nat→Hp AB
 | []=>H
 | b::r=>Hp.put H b none fun H=>B0Q H r
def B0m(H0 H:Hp AB):List Nat→Hp AB
 | []=>H
 | b::r=>Hp.put H b (Hp.get H0 b) fun H=>B0m H0 H r
def B35:Nat→Nat→List Nat
 | _,0=>[]
 | lo,n+1=>lo::B35 (lo+1) n
def d9:List Rec→List Nat
 | []=>[]
 | r::rs=>B35 r.lo (r.hi-r.lo)++d9 rs
def y7(l:List Nat)(b:Nat):Bool:=l.any (Nat.beq b)
def B1q(l:List Nat):Bool:=l.all fun b=>Nat.ble b G8
def B0A(b:List Nat)(rs:List Rec):List Rec:=rs.filter fun r=>!(y7 b r.i)
def A9k(m:Mem)(c:Cls)(us:List Rec):Option Mem :=
 match m with
 | ⟨H,n,_,hi,lg⟩=>match c with
   | .free=>some ⟨hp0,n,[],hi,lg⟩
   | .one b=>bif y7 (d9 us) b || !(Nat.ble b G8)then none else Hp.put hp0 b (Hp.get H b) fun H=>some ⟨H,n,[],hi,lg⟩
   | .all=>bif B1q (d9 us)then some ⟨B0Q H (d9 us),n,[],hi,lg⟩else none
def A3p(m m':Mem):Option Mem :=
 bif Nat.ble m'.hi m.n then(match m with|⟨H,n,W,hi,_⟩=>some ⟨H,n,W,hi,m'.lg⟩)else
 bif Nat.ble m'.hi G8 then B1W (B0m m'.H m.H (B35 m.n (m'.hi-m.n))) fun H=>J7 m'.hi fun n=>some ⟨H,n,m.W,n,m'.lg⟩else none
def B5v(fr:Fr)(m:Mem)(o:Oper)(b:List Nat)(rs:List Rec)(op:OpC)(k:Value→Mem→Option S):Option S :=
 let us:=B0A b rs
 let c:=C6O fr o.op
 match A9k m c us with
 | some mv=>match op.run fr mv with
   | some (v,m') =>
     match m'.W,Nat.ble m.hi m'.hi with
     | [],true=>match A3p m m' with
       | some m2=>k v m2
       | none=>none
     | _,_=>none
   | none=>none
 | none=>none
def wrO:Op→Bool
 | .call _|.store ..=>true
 | _=>false
def y0:Op→Bool
 | .move _|.assign _|.extract ..=>true
 | _=>false
def C4x:Op→Bool
 | .field ..|.fieldAddr ..|.index ..|.indexAddr ..|.binOp ..|.unOp ..|.build ..|.load ..=>true
 | .call ⟨.builtin .len,_,_⟩=>true
 | o=>y0 o
def B3D(fr:Fr)(o:Op):Option Nat :=
 match o with
 | .load _ x=>match ev fr x with
   | .func (.yield 5) ⟨.pointer (some a)::_⟩ _=>some a.block
   | _=>none
 | _=>none
def A8k(H:Hp AB)(b:Nat):Bool :=
 match Hp.get H b with
 | some .frz=>Nat.ble b G8
 | _=>false
def A6Q:Nat:=262144
def B0_(m:Mem)(r:Option Nat)(us:List Rec):Option Mem :=
 match m with
 | ⟨H,_,_,_,lg⟩=>match r with
   | none=>some ⟨hp0,A6Q,[],A6Q,lg⟩
   | some b=>bif y7 (d9 us) b || !(A8k H b)then none else Hp.put hp0 b (some .frz) fun H=>some ⟨H,A6Q,[],A6Q,lg⟩
def A3k(fr:Fr)(m:Mem)(o:Oper)(b:List Nat)(rs:List Rec)(op:OpC):Option (Value×Lg) :=
 match B0_ m (B3D fr o.op) (B0A b rs)with
 | some mv=>match op.run fr mv with
   | some (v,⟨_,_,[],hi,lg⟩)=>bif Nat.beq hi A6Q then some (v,lg)else none
   | _=>none
 | none=>none
abbrev Qs:=List (Nat×Option Nat)
def B1r:Nat→List Nat→Qs→Bool
 | 0,_,_=>true
 | n+1,b,qs=>(y7 b n || qs.any fun q=>Nat.beq n q.1) && B1r n b qs
def B1M(i:Nat):List (List Nat)→List Oper→Bool
 | c::bs,o::r=>(y7 c i || y0 o.op) && B1M i bs r
 | _,_=>true
def B5c(H:Hp AB)(qs:Qs):Bool:=qs.all fun q=>match q.2 with
 | none=>true
 | some b=>A8k H b
def B2L(o:Op)(i:Nat)(b:List Nat)(bs:List (List Nat))(r:List Oper)(qs:Qs):Bool:=wrO o && (B1r i b qs && B1M i bs r)
def s9(P:Program)(nt gl:Nat)(call:O7)(all:List Oper):List Oper→Nat→List (List Nat)→List Rec→Qs→S→Option S
 | [],_,_,_,_,s=>some s
 | _::_,_,[],_,_,_=>none
 | o::r,i,b::bs,rs,qs,⟨fr,⟨H,n,W,hi,lg⟩⟩=>match A0H nt fr lg all o,A8w nt o.dst && B4I nt gl o.op with
   | some (true,lg),true=>bif B2L o.op i b bs r qs then(match (X0 P call o).run fr ⟨H,n,W,hi,lg⟩with
      | some (v,m2)=>bif Nat.ble hi m2.hi && B5c m2.H qs then(A7Z o.dst).run v fr fun fr=>s9 P nt gl call all r (i+1) bs [] qs ⟨fr,m2⟩else none
      | none=>none)
     else match (bif C4x o.op then A3k fr ⟨H,n,W,hi,lg⟩ o b rs (X0 P call o)else none)with
      | some (v,lg2)=>(A7Z o.dst).run v fr fun fr2=>s9 P nt gl call all r (i+1) bs rs ((i,B3D fr o.op)::qs) ⟨fr2,⟨H,n,W,hi,lg2⟩⟩
      | none=>bif y0 o.op then none else B5v fr ⟨H,n,W,hi,lg⟩ o b rs (X0 P call o) fun v m2 =>
        (A7Z o.dst).run v fr fun fr=>s9 P nt gl call all r (i+1) bs (⟨i,n,m2.n⟩::rs) qs ⟨fr,m2⟩
   | some (false,lg),true=>(A7Z o.dst).run undef fr fun fr=>s9 P nt gl call all r (i+1) bs rs ((i,none)::qs) ⟨fr,⟨H,n,W,hi,lg⟩⟩
   | _,_=>none
def B9p(l:List Nat)(b:Nat):List Nat:=bif y7 l b then l else J7 b fun b=>b::l
def B5d:List Nat→List Nat→List Nat
 | [],b=>b
 | x::a,b=>B9p (B5d a b) x
def A6T(acc:List (List Nat)):List Edge→List Nat
 | []=>[]
 | e::r=>bif Region.binds .any e then B9p (B5d (acc.getD e.on []) (A6T acc r)) e.on else A6T acc r
def i6:List Oper→List (List Nat)→List (List Nat)
 | [],acc=>acc
 | o::r,acc=>R7 (A6T acc o.after.toList) fun a=>i6 r (acc++[a])
def A5o:Operand→List Tmp
 | .tmp t=>[t]
 | _=>[]
def W3(ops:List Oper)(o:Oper):List Tmp :=
 o.dst.toList++(o.op.operands.toList.flatMap A5o++(match o.guard with
  | none=>[]
  | some (j,_)=>match ops[j]? with
    | some p=>p.dst.toList
    | none=>[]))
def C09(an:List (List Nat))(i k:Nat):Bool:=bif Nat.blt i k then y7 (an.getD k []) i else y7 (an.getD i []) k
def A6V(an:List (List Nat))(i:Nat)(sl:List Tmp):List Oper→Nat→Bool
 | [],_=>true
 | p::r,k=>(Nat.beq k i || (match p.dst with|none=>true|some t=>!(y7 sl t) || C09 an i k)) && A6V an i sl r (k+1)
def A4g(i:Nat):List Edge→Bool
 | []=>true
 | e::r=>(!(Region.binds .any e) || Nat.blt e.on i) && A4g i r
def B2k(ops:List Oper)(an:List (List Nat)):List Oper→Nat→Bool
 | [],_=>true
 | o::r,i=>A4g i o.after.toList && (A6V an i (W3 ops o) ops 0 && B2k ops an r (i+1))
def B1g(ops:Array Oper):Bool:=B2k ops.toList (i6 ops.toList []) ops.toList 0
def B1j:Op→Bool
 | .move _|.assign _|.load _ _|.store _ _ _=>true
 | _=>false
def A4E:Op→Option (TypeId×Operand)
 | .load t x=>some (t,x)
 | .store t x _=>some (t,x)
 | _=>none
def A19:Op→Bool
 | .store _ _ _=>true
 | _=>false
def B8J:Op→List Tmp
 | .move x|.assign x=>A5o x
 | .load _ x=>A5o x
 | .store _ x y=>A5o x++A5o y
 | _=>[]
def A96(o:Oper)(l:List Tmp):Bool :=
 match o.dst with
 | some d=>y7 l d
 | none=>false
def C6B(a b:Oper):Bool :=
 (match a.dst,b.dst with
   | some d,some e=>!(Nat.beq d e)
   | _,_=>true) && (!(A96 a (B8J b.op)) && (!(A96 b (B8J a.op)) && !(A19 a.op && A19 b.op)))
def A6N(o:Oper)(i:Nat):Bool:=o.after.any fun e=>Region.binds .any e && Nat.beq e.on i
def B9q(l:List Oper):List Tmp:=l.flatMap fun o=>match A4E o.op with
 | some (_,x)=>A5o x
 | none=>[]
def B1A(p:Oper→Oper→Bool)(l:List Oper):Bool :=
 (List.range l.length).all fun j=>(List.range j).all fun i=>match l[i]?,l[j]? with
   | some a,some b=>A6N b i || p a b
   | _,_=>true
def C41(ads:List Tmp)(i:Nat)(o:Oper):Bool:=B1j o.op && ((match o.guard with|none=>true|some _=>false) && (!(A96 o ads) && o.after.all fun e=>!(Region.binds .any e) || Nat.blt e.on i))
def B8Y(ads:List Tmp):Nat→List Oper→Bool
 | _,[]=>true
 | i,o::l=>C41 ads i o && B8Y ads (i+1) l
def A3i(l:List Oper):Bool:=B8Y (B9q l) 0 l && B1A C6B l
def B8P(P:Program)(nt gl:Nat)(fr:Fr)(H:Hp AB)(o:Oper):Bool :=
 match A4E o.op with
 | none=>true
 | some (t,x)=>bif !(okX nt gl x)then false else match ev fr x,A0T P t,G3 P t with
   | .pointer (some a),some _,some s=>match a.spot,Hp.get H a.block with
     | none,some (.cells cs _ false)=>Nat.ble (a.off+s) cs.length && (Nat.blt a.off cs.length && Nat.ble a.block G8)
     | _,_=>false
   | _,_,_=>false
def B9o(fr:Fr)(a b:Oper):Bool :=
 bif A19 a.op || A19 b.op then match A4E a.op,A4E b.op with
  | some (_,x),some (_,y)=>match ev fr x,ev fr y with
    | .pointer (some p),.pointer (some q)=>!(Nat.beq p.block q.block)
    | _,_=>false
  | _,_=>true else true
def A3r(P:Program)(nt gl:Nat)(fr:Fr)(H:Hp AB)(l:List Oper):Bool:=l.all (B8P P nt gl fr H) && B1A (B9o fr) l
structure A3R where
 run:S→Option (Ex×S)
def B0D(f:A3R):Nat→S→Option (Ex×S)
 | 0,_=>none
 | n+1,s=>match f.run s with
   | some (.normal,s)=>B0D f n s
   | r=>r
def B9e(a b:A3R)(s:S):Option (Ex×S) :=
 match a.run s with
 | some (.normal,s)=>b.run s
 | r=>r
def B3U(c:XC)(a b:A3R)(s:S):Option (Ex×S) :=
 match c.run s.fr with
 | .bool true=>a.run s
 | .bool false=>b.run s
 | v=>match s with
   | ⟨fr,⟨H,n,W,hi,lg⟩⟩=>match brL lg v with
     | some (true,lg)=>a.run ⟨fr,⟨H,n,W,hi,lg⟩⟩
     | some (false,lg)=>b.run ⟨fr,⟨H,n,W,hi,lg⟩⟩
     | none=>none
def A88(id:Nat)(c:A3R)(s:S):Option (Ex×S) :=
 match c.run s with
 | some (.exit j,s)=>bif Nat.beq j id then some (.normal,s)else some (.exit j,s)
 | r=>r
def Z5(r:C0L)(s:S):Option (Ex×S) :=
 match r.run s with
 | some s=>some (.normal,s)
 | none=>none
structure LpT where
 me:FuncId
 look:List Bool→Option (S→Option (Ex×S))
def B0E(c:A3R)(L:S→Option (Ex×S)):Nat→S→Option (Ex×S)
 | 0,_=>none
 | n+1,s=>match L s with
   | some r=>some r
   | none=>match c.run s with
     | some (.normal,s)=>B0E c L n s
     | r=>r
def B3S(c:A3R)(l:Option (S→Option (Ex×S)))(s:S):Option (Ex×S) :=
 match l with
 | some f=>B0E c f 4 s
 | none=>B0D c 1000000 s
def frL(fr:Fr):Nat→Nat→List Value
 | _,0=>[]
 | i,n+1=>fr.get i::frL fr (i+1) n
def C3G:Value→Nat
 | .pointer (some a)=>a.block
 | _=>0
def A2n(v:Value):List Nat :=
 match v with
 | .func (.yield 8) ⟨l⟩ ⟨[]⟩=>l.map C3G
 | _=>[]
def exN:Ex→Nat
 | .normal=>0
 | .ret=>2
 | .exit k=>k+4
def nEx:Nat→Option Ex
 | 0=>some .normal
 | 1=>none
 | 2=>some .ret
 | 3=>none
 | k+4=>some (.exit k)
def B1N:Ex→Bool
 | .normal=>true
 | _=>false
def A52(fr:Fr)(hi:Nat)(b:Nat)(r:Res):Option (Ex×S) :=
 match r with
 | some (_,m)=>match Hp.get m.H b with
   | some (.lp f q vs st)=>match nEx st with
     | some e=>bif Nat.ble hi m.hi then match A2Q m b (.lp f q vs 3)with
       | some m=>some (e,⟨fr,m⟩)
       | none=>none else none
     | none=>none
   | _=>none
 | none=>none
def A6E(P:Program)(f:FuncId):Bool :=
 match P.funcs.toList[f]? with
 | some fn=>match fn.body with
   | some _=>true
   | none=>false
 | none=>false
def A0d(P:Program)(nt:Nat)(call:O7)(f:FuncId)(q:List Bool)(g:Value)(fr:Fr)(m:Mem):Option (Ex×S) :=
 R7 (frL fr 0 nt) fun vs=>match m9 m (.lp f q vs 0) yv with
 | some (v,m1)=>match A7t g [v],A1P v with
   | some (k,as),some b=>bif A6E P k then A52 fr m1.hi b ((call.fn k).run as m1)else none
   | _,_=>none
 | none=>none
def A87(P:Program)(nt:Nat)(call:O7)(f:FuncId)(q:List Bool)(x:XC)(s:S):Option (Ex×S) :=
 match s with
 | ⟨fr,m⟩=>bif Nat.ble nt 510 then match A1P (fr.get 511)with
   | some b0=>match Hp.get m.H b0 with
     | some (.lp _ _ _ 1)=>A0d P nt call f q (x.run fr) fr m
     | _=>none
   | none=>bif A4a (fr.get 511)then match m9 m (.dfr true) (fun b=>.pointer (some ⟨b,0,none⟩))with
      | some (.pointer (some a),m1)=>R7 (A2n (fr.get 510)) fun l=>A7W (sel 7) (sel 7) (sel 6) (dv (a.block::l)) fr fun fr2=>A0d P nt call f q (x.run fr) fr2 m1
      | _=>none else none
   else none
def M3(P:Program)(nt gl:Nat)(call:O7)(lp:LpT):List Bool→Code→A3R
 | _,.skip=>⟨fun s=>some (.normal,s)⟩
 | _,.label _=>⟨fun s=>some (.normal,s)⟩
 | _,.region _ ops d=>match d with
   | false=>⟨fun s=>Z5 (V3 P nt gl call ops.toList ops.toList) s⟩
   | true=>bif B1g ops then bif A3i ops.toList then⟨fun s=>bif A3r P nt gl s.fr s.m.H ops.toList then Z5 (V3 P nt gl call ops.toList ops.toList) s else Z5 ⟨s9 P nt gl call ops.toList ops.toList 0 (i6 ops.toList []) [] []⟩ s⟩
     else⟨fun s=>Z5 ⟨s9 P nt gl call ops.toList ops.toList 0 (i6 ops.toList []) [] []⟩ s⟩else⟨fun _=>none⟩
 | q,.seq a b=>⟨fun s=>B9e (M3 P nt gl call lp (q++[false]) a) (M3 P nt gl call lp (q++[true]) b) s⟩
 | q,.cond c a b=>bif okX nt gl c then⟨fun s=>B3U (S7 c) (M3 P nt gl call lp (q++[false]) a) (M3 P nt gl call lp (q++[true]) b) s⟩else⟨fun _=>none⟩
 | q,.block id c=>⟨fun s=>A88 id (M3 P nt gl call lp (q++[false]) c) s⟩
 | q,.loop c=>⟨fun s=>B3S (M3 P nt gl call lp (q++[false]) c) (lp.look q) s⟩
 | q,.rangeFunc x _ _ _=>bif okX nt gl x then⟨fun s=>A87 P nt call lp.me q (S7 x) s⟩else⟨fun _=>none⟩
 | q,.scope c=>M3 P nt gl call lp (q++[false]) c
 | _,.exit id=>⟨fun s=>some (.exit id,s)⟩
 | _,.ret=>⟨fun s=>some (.ret,s)⟩
 | _,_=>⟨fun _=>none⟩
def B4X(ids:Value→List Nat):List Value→List Nat
 | []=>[]
 | v::r=>ids v++B4X ids r
def A9d:Nat→Value→List Nat
 | 0,_=>[]
 | _+1,.pointer (some a)=>[a.block]
 | _+1,.slice (some a) _ _=>[a.block]
 | _+1,.map (some b)=>[b]
 | d+1,.func _ a b=>B4X (A9d d) a.toList++B4X (A9d d) b.toList
 | d+1,.iface _ v=>A9d d v
 | d+1,.agg cs=>B4X (A9d d) cs.toList
 | d+1,.tuple cs=>B4X (A9d d) cs.toList
 | _+1,_=>[]
def C6C:List MapEntry→List Nat
 | []=>[]
 | e::r=>A9d 10 e.val++C6C r
def C6D:AB→List Nat
 | .cells cs _ _=>B4X (A9d 10) cs
 | .map es _=>C6C es
 | .iter _ _=>[]
 | .lp _ _ vs _=>B4X (A9d 10) vs
 | .dfr _=>[]
 | .sq _ _ _ g _=>[g]
 | .frz=>[]
def B2Y(n0:Nat)(H:Hp AB):Nat→List Nat→List Nat→List Nat
 | 0,_,acc=>acc
 | _+1,[],acc=>acc
 | f+1,b::r,acc=>bif Nat.blt b n0 || y7 acc b then B2Y n0 H f r acc else match Hp.get H b with
   | some ab=>B2Y n0 H f (C6D ab++r) (b::acc)
   | none=>B2Y n0 H f r acc
def A1e(H' H:Hp AB):List Nat→Hp AB
 | []=>H
 | b::r=>Hp.put H b (Hp.get H' b) fun H=>A1e H' H r
def wOf(H:Hp AB):List Nat→List Nat
 | []=>[]
 | b::r=>(match Hp.get H b with|some ab=>C6D ab|none=>[])++wOf H r
def A4w:List Nat→List Nat→List Nat
 | [],acc=>acc
 | b::r,acc=>bif y7 acc b then A4w r acc else A4w r (b::acc)
def A6g(low:Value→Bool):List Value→Bool
 | []=>true
 | v::r=>low v && A6g low r
def n7(n:Nat):Nat→Value→Bool
 | 0,_=>false
 | _+1,.pointer (some a)=>Nat.blt a.block n
 | _+1,.slice (some a) _ _=>Nat.blt a.block n
 | _+1,.map (some b)=>Nat.blt b n
 | d+1,.func _ a b=>A6g (n7 n d) a.toList && A6g (n7 n d) b.toList
 | d+1,.iface _ v=>n7 n d v
 | d+1,.agg cs=>A6g (n7 n d) cs.toList
 | d+1,.tuple cs=>A6g (n7 n d) cs.toList
 | _+1,.complex _ _ _=>true
 | _+1,v=>I2 v
def C1L(n:Nat):List MapEntry→Bool
 | []=>true
 | e::r=>n7 n 10 e.key && (n7 n 10 e.val && C1L n r)
def C1M(n:Nat):Option AB→Bool
 | none=>true
 | some (.cells cs _ _)=>A6g (n7 n 10) cs
 | some (.map es _)=>C1L n es
 | some (.iter _ _)=>true
 | some (.lp _ _ vs _)=>A6g (n7 n 10) vs
 | some (.dfr _)=>true
 | some (.sq _ _ _ g _)=>Nat.blt g n
 | some .frz=>true
def B4N(n:Nat)(H:Hp AB):List Nat→Bool
 | []=>true
 | b::r=>C1M n (Hp.get H b) && B4N n H r
def gcM(m m':Mem)(v:Value):Option Mem :=
 let W:=A4w (m'.W.filter fun b=>Nat.blt b m.n || Nat.ble m'.hi b) []
 bif n7 m.n 10 v && B4N m.n m'.H W then
  bif B1q W then B1W (A1e m'.H m.H W) fun H=>J7 m'.hi fun hi=>R7 (W++m.W) fun W=>some ⟨H,m.n,W,hi,m'.lg⟩else none
 else
  let ids:=(B2Y m.n m'.H 100000 (A9d 10 v++wOf m'.H W) []).filter fun b=>Nat.ble m.n b && Nat.blt b m'.hi
  bif B1q (W++ids)then B1W (A1e m'.H m.H (W++ids)) fun H=>J7 m'.n fun n=>J7 m'.hi fun hi=>R7 (W++m.W) fun W=>some ⟨H,n,W,hi,m'.lg⟩else none
def C5n(P:Program)(nt:Nat)(s:S):ResultVar→Option Value
 | .tmp t=>bif Nat.blt t nt then some (s.fr.get t)else none
 | .cell a t=>bif Nat.blt a nt then match s.fr.get a with
   | .pointer (some a)=>B5V P s.m t a
   | _=>none else none
def B6j(P:Program)(nt:Nat)(s:S):List ResultVar→Option (List Value)
 | []=>some []
 | r::rs=>match C5n P nt s r,B6j P nt s rs with
   | some v,some vs=>some (v::vs)
   | _,_=>none
def B6i(fn:Func)(P:Program)(s:S):Option Value :=
 match B6j P fn.ntmps s fn.results.toList with
 | some [v]=>some v
 | some vs=>some (.tuple ⟨vs⟩)
 | none=>none
def A1n(fr:Fr):Nat→List Value→Fr
 | _,[]=>fr
 | i,v::r=>A7W (sel (i / 64%8)) (sel (i / 8%8)) (sel (i%8)) v fr fun fr=>A1n fr (i+1) r
def A6m(l:List UInt8)(c:UInt8):Nat→Int
 | i=>match l with
   | [] => -1
   | b::r=>bif decide (b=c)then(i:Int)else A6m r c (i+1)
def A6s(c:UInt8):List UInt8→Nat→Nat
 | [],n=>n
 | b::r,n=>bif decide (b=c)then J7 (n+1) (A6s c r)else A6s c r n
def A5O(k:EK)(args:List Value)(m:Mem):Res :=
 match k,args with
 | .noEscape,[v]=>some (v,m)
 | .indexByteString,[.string s,.int .u8 (.ofNat c)]=>some (.int .i64 (A6m s.data.toList (UInt8.ofNat c) 0),m)
 | .countString,[.string s,.int .u8 (.ofNat c)]=>some (.int .i64 (A6s (UInt8.ofNat c) s.data.toList 0),m)
 | .makeNoZero e,[.int .i64 (.ofNat n)]=>bif Nat.ble n 1000000000 then m9 m (.cells [] e false) fun b=>.slice (some ⟨b,0,none⟩) n N0 else none
 | _,_=>none
def A5p:List Nat→Mem→Option Mem
 | [],m=>some m
 | b::r,m=>match Hp.get m.H b with
   | some (.dfr true)=>match A2Q m b (.dfr false)with
     | some m=>A5p r m
     | none=>none
   | _=>none
def dvG(nt:Nat)(fr:Fr):List Nat:=bif Nat.ble nt 510 then A2n (fr.get 510)else[]
def C5M(fn:Func)(P:Program)(m:Mem)(r:Option (Ex×S)):Res :=
 match r with
 | some (.normal,⟨fr,m1⟩)|some (.ret,⟨fr,m1⟩)=>match A5p (dvG fn.ntmps fr) m1 with
   | some m1=>match B6i fn P ⟨fr,m1⟩with
     | some v=>match gcM m m1 v with
       | some m=>some (v,m)
       | none=>none
     | none=>none
   | none=>none
 | _=>none
def B34(c:A3R)(fr:Fr)(m:Mem):Option (Ex×S) :=
 match m with
 | ⟨H,n,_,hi,lg⟩=>c.run ⟨fr,⟨H,n,[],hi,lg⟩⟩
def B0g(fn:Func)(P:Program)(c:A3R)(args:List Value)(m:Mem):Res :=
 bif Nat.ble args.length fn.ntmps && Nat.ble fn.ntmps 512 then C5M fn P m (B34 c (A1n fr0 0 args) m)else none
structure Cx where
 P:Program
 ext:List (FuncId×EK)
 gl:Nat
 con:FuncId→Option FnC
 lp:FuncId→LpT
def B0e(C:Cx)(call:O7)(f:FuncId):FnC :=
 match C.P.funcs.toList[f]? with
 | none=>⟨fun _ _=>none⟩
 | some fn=>match C.con f with
   | some c=>c
   | none=>match fn.body with
     | none=>match B3I C.ext f with
       | some k=>⟨A5O k⟩
       | none=>⟨fun _ _=>none⟩
     | some c=>⟨B0g fn C.P (M3 C.P fn.ntmps C.gl call (C.lp f) [] c)⟩
def A7B:List Tmp→List Value→Fr→Option Fr
 | [],[],fr=>some fr
 | t::ts,v::vs,fr=>A7W (sel (t / 64%8)) (sel (t / 8%8)) (sel (t%8)) v fr fun fr=>A7B ts vs fr
 | _,_,_=>none
def A5z(b:Nat)(r:Option (Ex×S)):Res :=
 match r with
 | some (e,⟨_,m⟩)=>match Hp.get m.H b with
   | some (.lp f q vs 1)=>J7 (exN e) fun st=>match A2Q m b (.lp f q vs st)with
     | some m=>some (.bool (B1N e),m)
     | none=>none
   | _=>none
 | none=>none
def A5y(b:Nat)(c:A3R)(r:Option (Ex×S)):Res :=
 match r with
 | some (.normal,⟨fr,m⟩)=>match Hp.get m.H b with
   | some (.lp f q vs 0)=>match A2Q m b (.lp f q vs 1)with
     | some m=>A5z b (c.run ⟨fr,m⟩)
     | none=>none
   | _=>none
 | _=>none
def B07(C:Cx)(call:O7):FnC:=⟨fun vs m =>
 match vs with
 | []=>none
 | v::args=>match A1P v with
   | none=>none
   | some b=>match Hp.get m.H b with
     | some (.lp f q fs 0)=>match C.P.funcs.toList[f]? with
       | none=>none
       | some fn=>match fn.body with
         | none=>none
         | some body=>match G0 q body with
           | some (.rangeFunc _ ps as bd)=>bif Nat.ble fn.ntmps 510 && ps.toList.all (fun t=>Nat.blt t fn.ntmps)then match A7B ps.toList args (A1n fr0 0 fs)with
             | some fr=>A7W (sel 7) (sel 7) (sel 7) v fr fun fr=>A5y b (M3 C.P fn.ntmps C.gl call (C.lp f) (q++[true]) bd) ((M3 C.P fn.ntmps C.gl call (C.lp f) (q++[false]) as).run ⟨fr,m⟩)
             | none=>none else none
           | _=>none
     | _=>none⟩
def A7M(C:Cx):Nat→O7
 | 0=>⟨fun _=>⟨fun _ _=>none⟩,⟨fun _ _=>none⟩⟩
 | d+1=>⟨B0e C (A7M C d),B07 C (A7M C d)⟩
theorem O2(d:Nat)(hd:d<8){α β:Type}(n:N8 α)(v:α)(k:N8 α→β):(sel d).upd n v k=k ((sel d).upd n v fun n=>n):=by
 match d,hd with
 | 0,_|1,_|2,_|3,_|4,_|5,_|6,_|7,_=>rfl
theorem B7z(d:Nat)(hd:d<8){α:Type}(n:N8 α)(v:α):(sel d).get ((sel d).upd n v fun n=>n)=v:=by
 match d,hd with
 | 0,_|1,_|2,_|3,_|4,_|5,_|6,_|7,_=>rfl
theorem C4n(d e:Nat)(hd:d<8)(he:e<8)(hne:e≠d){α:Type}(n:N8 α)(v:α):(sel e).get ((sel d).upd n v fun n=>n)=(sel e).get n:=by
 match d,hd with
 | 0,_|1,_|2,_|3,_|4,_|5,_|6,_|7,_ =>
   match e,he with
   | 0,_|1,_|2,_|3,_|4,_|5,_|6,_|7,_=>first|rfl|exact absurd rfl hne
theorem A1M{α β:Type}(n:N8 α)(k:N8 α→β):B1W n k=k n:=rfl
theorem m8(n:Nat):n%8<8:=A5a _ (by decide)
theorem B01{β:Type}(t:Nat)(v:Value)(fr:Fr)(k:Fr→β):A7W (sel (t / 64%8)) (sel (t / 8%8)) (sel (t%8)) v fr k=k (fr.set t v):=by
 unfold Fr.set A7W;rw[O2 _ (m8 _)];conv=>rhs;rw[O2 _ (m8 _)]
 rw[O2 _ (m8 _)];conv=>rhs;rw[O2 _ (m8 _)]
 rw[O2 _ (m8 _)]
theorem X4(d e:Nat)(hd:d<8)(he:e<8){α:Type}(n:N8 α)(v:α):(sel e).get ((sel d).upd n v fun n=>n)=if e=d then v else(sel e).get n:=by
 by_cases h:e=d
 ·subst h;rw[if_pos rfl,B7z _ he]
 ·rw[if_neg h,C4n _ _ hd he h]
theorem L7(fr:Fr)(t u:Nat)(v:Value)(ht:t<512)(hu:u<512):(fr.set t v).get u=if u=t then v else fr.get u:=by
 unfold Fr.set A7W;simp only[O2 _ (m8 _) _ _ (fun n2=>Sel.upd _ _ _ _),O2 _ (m8 _) _ _ (fun n1=>Sel.upd _ _ _ _)];unfold Fr.get;rw[X4 _ _ (m8 _) (m8 _)];by_cases h1:u / 64%8=t / 64%8
 ·rw[if_pos h1,X4 _ _ (m8 _) (m8 _)];by_cases h2:u / 8%8=t / 8%8
  ·rw[if_pos h2,X4 _ _ (m8 _) (m8 _)];by_cases h3:u%8=t%8
   ·rw[if_pos h3,if_pos (by omega)]
   ·rw[if_neg h3,if_neg (by intro h;subst h;exact h3 rfl),h1,h2]
  ·rw[if_neg h2,if_neg (by intro h;subst h;exact h2 rfl),h1]
 ·rw[if_neg h1,if_neg (by intro h;subst h;exact h1 rfl)]
theorem B1U(t:Nat):fr0.get t=undef:=by
 unfold Fr.get fr0;have h:∀ (d:Nat) {α:Type} (v:α),d<8→(sel d).get (A5Z v)=v:=fun d α v hd=>by
  match d,hd with
  | 0,_|1,_|2,_|3,_|4,_|5,_|6,_|7,_=>rfl
 rw[h _ _ (m8 _),h _ _ (m8 _),h _ _ (m8 _)];rfl
theorem A1Z{α β:Type}(h:Hp α)(n:Nat)(v:Option α)(k:Hp α→β):h.put n v k=k (h.set n v):=by
 unfold Hp.set Hp.put A3Z;rw[O2 _ (m8 _),O2 _ (m8 _),O2 _ (m8 _),O2 _ (m8 _),O2 _ (m8 _),O2 _ (m8 _)];conv=>rhs;rw[O2 _ (m8 _),O2 _ (m8 _),O2 _ (m8 _),O2 _ (m8 _),O2 _ (m8 _)]
theorem E4{α:Type}(h:Hp α)(n m:Nat)(v:Option α)(hn:n≤G8)(hm:m≤G8):(h.set n v).get m=if m=n then v else h.get m:=by
 unfold G8 at hn hm;unfold Hp.set Hp.put A3Z;rw[O2 _ (m8 _),O2 _ (m8 _),O2 _ (m8 _),O2 _ (m8 _),O2 _ (m8 _)];unfold Hp.get;rw[X4 _ _ (m8 _) (m8 _)];by_cases h1:m / 32768%8=n / 32768%8
 ·rw[if_pos h1,X4 _ _ (m8 _) (m8 _)];by_cases h2:m / 4096%8=n / 4096%8
  ·rw[if_pos h2,X4 _ _ (m8 _) (m8 _)];by_cases h3:m / 512%8=n / 512%8
   ·rw[if_pos h3,X4 _ _ (m8 _) (m8 _)];by_cases h4:m / 64%8=n / 64%8
    ·rw[if_pos h4,X4 _ _ (m8 _) (m8 _)];by_cases h5:m / 8%8=n / 8%8
     ·rw[if_pos h5,X4 _ _ (m8 _) (m8 _)];by_cases h6:m%8=n%8
      ·rw[if_pos h6,if_pos (by omega)]
      ·rw[if_neg h6,if_neg (by intro h;subst h;exact h6 rfl),h1,h2,h3,h4,h5]
     ·rw[if_neg h5,if_neg (by intro h;subst h;exact h5 rfl),h1,h2,h3,h4]
    ·rw[if_neg h4,if_neg (by intro h;subst h;exact h4 rfl),h1,h2,h3]
   ·rw[if_neg h3,if_neg (by intro h;subst h;exact h3 rfl),h1,h2]
  ·rw[if_neg h2,if_neg (by intro h;subst h;exact h2 rfl),h1]
 ·rw[if_neg h1,if_neg (by intro h;subst h;exact h1 rfl)]
theorem A6D{α:Type}(m:Nat):(hp0:Hp α).get m=none:=by
 have h:∀ (d:Nat) {α:Type} (v:α),d<8→(sel d).get (A5Z v)=v:=fun d α v hd=>by
  match d,hd with
  | 0,_|1,_|2,_|3,_|4,_|5,_|6,_|7,_=>rfl
 unfold Hp.get hp0;rw[h _ _ (m8 _),h _ _ (m8 _),h _ _ (m8 _),h _ _ (m8 _),h _ _ (m8 _),h _ _ (m8 _)]
theorem E6{β:Type}(n:Nat)(k:Nat→β):J7 n k=k n:=by cases n<;>rfl
theorem A6o{β:Type}(i:Int)(k:Int→β):A8o i k=k i:=by cases i<;>simp[A8o,E6]
theorem H5{α β:Type}:∀ (l:List α) (k:List α→β),R7 l k=k l
 | [],k=>rfl
 | x::r,k=>by simp[R7,H5 r]
theorem y5(k:IntKind)(n:Int):mkI k n=.int k n:=by simp[mkI,A6o]
def toV:U→Option Value
 | .int k n=>some (.int k n)
 | .bool b=>some (.bool b)
 | .str s=>some (.string ⟨⟨s⟩⟩)
 | _=>none
def L1:U→Nat
 | .int k _=>A4o k
 | .bool _=>8
 | .str _=>9
 | .seq _ w _=>10+w
 | .none=>99
def A5Y(E:Nat→U):Value→Option Int
 | .complex .f64 i _=>match E i with
   | .int _ n=>some n
   | _=>none
 | .int _ n=>some n
 | _=>none
class Ora where
 env:Nat→U
 G:Nat→Option Obj
variable [Ora]
structure C6j where
 blk:Nat
 sh:Nat
 cap:Nat
 len:Nat
 G:Nat→Option Obj
 on:Bool
abbrev Loc:=C6j
abbrev lc(b s c:Nat):Loc:=⟨b,s,c,0,fun _=>none,true⟩
abbrev Ren:=Nat→Option Loc
inductive Enc (G:Nat→Option Obj):U→Value→Prop
 | sc {u v} (h:toV u=some v):Enc G u v
 | nil {w}:Enc G (.seq true w []) (.slice none 0 0)
 | emp {w a}:Enc G (.seq false w []) (.slice (some a) 0 0)
 | sl {w rows a o c C T fz} (hc:rows.length≤c) (hg:rows≠[]→G a=some (.cells C T fz)) (hz:rows≠[]→o+rows.length*w≤C.size) (hw:∀ row ∈ rows,row.length=w)
    (h:∀ (r:Nat) (row:List U) (j:Nat) (u:U) (v:Value),rows[r]? = some row→row[j]? = some u→C[o+r*w+j]? = some v→Enc G u v):Enc G (.seq false w rows) (.slice (some ⟨a,o,none⟩) rows.length c)
omit [Ora] in
theorem Enc.mono{G G':Nat→Option Obj}(h:∀ k o,G k=some o→G' k=some o){u:U}{v:Value}(e:Enc G u v):Enc G' u v:=by
 induction e with
 | sc h=>exact .sc h
 | nil=>exact .nil
 | emp=>exact .emp
 | sl hc hg hz hw h1 ih=>exact .sl hc (fun hn=>h _ _ (hg hn)) hz hw ih
omit [Ora] in
theorem Enc.slice{G:Nat→Option Obj}{u:U}{v:Value}(h:Enc G u v)(h10:10≤L1 u):∃ a n c,v=.slice a n c:=by
 cases h with
 | sc h =>
   cases u with
   | int k n=>cases k<;>simp[L1,A4o]at h10
   | bool b=>simp[L1]at h10
   | str s=>simp[L1]at h10
   | none=>cases h
   | seq _ _ _=>cases h
 | nil=>exact⟨_,_,_,rfl⟩
 | emp=>exact⟨_,_,_,rfl⟩
 | sl=>exact⟨_,_,_,rfl⟩
def B9c:Value→Prop
 | .slice _ n c=>c=n
 | _=>False
def B8X(ρ:Ren)(b:Nat)(u:U)(v':Value):Prop :=
 (∃ l w,ρ b=some l∧l.on=false∧u=.seq true w []∧v'=.slice none 0 0)∨(∃ l w rows,ρ b=some l∧l.on=true∧u=.seq false w rows∧rows.length=l.len∧l.len≤l.cap∧v'=.slice (some ⟨l.blk,l.sh,none⟩) l.len l.cap)
def C6L(ρ:Ren)(b:Nat)(u:U)(z:Option Int)(o:Nat)(v':Value):Prop :=
 ∃ l w rows a s c k,ρ b=some l∧u=.seq false w rows∧Enc l.G u (.slice (some ⟨a,s,none⟩) rows.length c)∧z=some (.ofNat k)∧k<rows.length∧o<w∧v'=.pointer (some ⟨a,s+k*w+o,none⟩)
def C5r(ρ:Ren)(b:Nat)(u:U)(z:Option Int)(o:Nat)(v':Value):Prop :=
 ∃ l w rows k,ρ b=some l∧l.on=true∧u=.seq false w rows∧z=some (.ofNat k)∧k<l.len∧o<w∧v'=.pointer (some ⟨l.blk,l.sh+k*w+o,none⟩)
def B6X(ρ:Ren)(b:Nat)(v':Value):Prop:=∃ l,ρ b=some l∧((l.on=false∧v'=.pointer none)∨(l.on=true∧∃ a,v'=.pointer (some a)∧(l.cap≠0→a=⟨l.blk,l.sh,none⟩)))
theorem B6X.cells{ρ:Ren}{b:Nat}{v':Value}(h:B6X ρ b v'):v'.cells=#[v']:=by
 obtain⟨l,_,⟨_,rfl⟩|⟨_,a,rfl,_⟩⟩:=h<;>rfl
def A0K:Value→Bool
 | .agg _|.tuple _=>false
 | _=>true
theorem B6X.flat{ρ:Ren}{b:Nat}{v':Value}(h:B6X ρ b v'):A0K v'=true:=by
 obtain⟨l,_,⟨_,rfl⟩|⟨_,a,rfl,_⟩⟩:=h<;>rfl
theorem w6{v:Value}(h:A0K v=true):v.cells=#[v]:=by cases v<;>first|rfl|cases h
inductive VR (ρ:Ren):Value→Value→Prop
 | pure {v} (h:I2 v=true):VR ρ v v
 | hole {i t v'} (h:toV (Ora.env i)=some v') (ht:L1 (Ora.env i)=t):VR ρ (.complex .f64 i t) v'
 | junk {i t v'} (h:i=1→A0K v'=true):VR ρ (.complex .f32 i t) v'
 | ixp {a s n i l z v'} (h:ρ a.block=some l) (hs:a.spot=none) (hi:A5Y Ora.env i=some (.ofNat z)) (hz:z<n) (hv:v'=.pointer (some ⟨l.blk,a.off+z*s+l.sh,none⟩)):VR ρ (Go.Sx.ixp a s i n) v'
 | dat {b i t v' l} (h:ρ b=some l) (he:Enc l.G (Ora.env i) v') (ht:L1 (Ora.env i)=t) (h10:10≤t) (hf:A0K v'=true):VR ρ (Go.Sx.dat b i t) v'
 | clp {b i t v' l} (h:ρ b=some l) (he:Enc l.G (Ora.env i) v') (ht:L1 (Ora.env i)=t) (h10:10≤t) (hf:A0K v'=true) (hc:B9c v'):VR ρ (Go.Sx.clp b i t) v'
 | own {b i t v'} (h:B8X ρ b (Ora.env i) v') (ht:L1 (Ora.env i)=t) (hf:A0K v'=true):VR ρ (Go.Sx.own b i t) v'
 | dpt {b i t z o v'} (h:C6L ρ b (Ora.env i) (A5Y Ora.env z) o v') (ht:L1 (Ora.env i)=t) (hf:A0K v'=true):VR ρ (Go.Sx.dpt b i t z o) v'
 | opt {b i t z o v'} (h:C5r ρ b (Ora.env i) (A5Y Ora.env z) o v') (ht:L1 (Ora.env i)=t) (hf:A0K v'=true):VR ρ (Go.Sx.opt b i t z o) v'
 | ptr {b o l} (h:ρ b=some l):VR ρ (.pointer (some ⟨b,o,none⟩)) (.pointer (some ⟨l.blk,o+l.sh,none⟩))
 | sl {b o l n m} (h:ρ b=some l) (hm:m<N0):VR ρ (.slice (some ⟨b,o,none⟩) n m) (.slice (some ⟨l.blk,o+l.sh,none⟩) n m)
 | op {b o l n m m'} (h:ρ b=some l) (hm:N0≤m) (hn:n≤m') (hc:m=N0→o=0→m'=l.cap):VR ρ (.slice (some ⟨b,o,none⟩) n m) (.slice (some ⟨l.blk,o+l.sh,none⟩) n m')
 | opE {a a' m'} (hs:a'.spot=none):VR ρ (.slice (some a) 0 (N0+2)) (.slice (some a') 0 m')
 | map {b l} (h:ρ b=some l):VR ρ (.map (some b)) (.map (some l.blk))
 | sdt {b v'} (h:B6X ρ b v'):VR ρ (Go.Sx.sdt b) v'
 | yv {b l} (h:ρ b=some l):VR ρ (Go.Sx.yv b) (.func (.yield l.blk) #[] #[])
 | func {f a b a' b'} (ha:a.length=a'.length) (hb:b.length=b'.length) (h1:∀ (i:Nat) (v v':Value),a[i]? = some v→a'[i]? = some v'→VR ρ v v') (h2:∀ (i:Nat) (v v':Value),b[i]? = some v→b'[i]? = some v'→VR ρ v v') :
    VR ρ (.func (.func f) ⟨a⟩ ⟨b⟩) (.func (.func f) ⟨a'⟩ ⟨b'⟩)
 | iface {t v v'} (h:VR ρ v v'):VR ρ (.iface t v) (.iface t v')
 | agg {a a'} (ha:a.length=a'.length) (h:∀ (i:Nat) (v v':Value),a[i]? = some v→a'[i]? = some v'→VR ρ v v'):VR ρ (.agg ⟨a⟩) (.agg ⟨a'⟩)
 | tuple {a a'} (ha:a.length=a'.length) (h:∀ (i:Nat) (v v':Value),a[i]? = some v→a'[i]? = some v'→VR ρ v v'):VR ρ (.tuple ⟨a⟩) (.tuple ⟨a'⟩)
theorem B88{ρ:Ren}{b:Nat}{v':Value}(h:VR ρ (yv b) v'):∃ l,ρ b=some l∧v'=.func (.yield l.blk) #[] #[]:=by
 generalize hx:yv b=x at h;cases h with
 | yv h=>cases hx;exact⟨_,h,rfl⟩
 | pure hp=>subst hx;simp[yv,I2]at hp
 | _=>simp[yv,ixp,Go.Sx.dat,Go.Sx.clp,Go.Sx.own,Go.Sx.dpt,Go.Sx.opt,Go.Sx.sdt]at hx
theorem C1X{ρ:Ren}{b:Nat}{v':Value}(h:VR ρ (sdt b) v'):B6X ρ b v':=by
 generalize hx:sdt b=x at h;cases h with
 | sdt h=>cases hx;exact h
 | pure hp=>subst hx;simp[sdt,I2]at hp
 | _=>simp[sdt,ixp,Go.Sx.dat,Go.Sx.clp,Go.Sx.own,Go.Sx.dpt,Go.Sx.opt,Go.Sx.yv]at hx
def LR(ρ:Ren)(a a':List Value):Prop:=a.length=a'.length∧∀ (i:Nat) (v v':Value),a[i]? = some v→a'[i]? = some v'→VR ρ v v'
theorem VR.mono{ρ ρ':Ren}(he:∀ b l,ρ b=some l→ρ' b=some l){v v':Value}(h:VR ρ v v'):VR ρ' v v':=by
 induction h with
 | pure h=>exact .pure h
 | hole h ht=>exact .hole h ht
 | junk h=>exact .junk h
 | ixp h hs hi hz hv=>exact .ixp (he _ _ h) hs hi hz hv
 | dat h h1 h2 h3 h4=>exact .dat (he _ _ h) h1 h2 h3 h4
 | clp h h1 h2 h3 h4 h5=>exact .clp (he _ _ h) h1 h2 h3 h4 h5
 | own h h1 h2=>exact .own (h.imp (fun⟨l,w,a,b⟩=>⟨l,w,he _ _ a,b⟩) fun⟨l,w,rows,a,b⟩=>⟨l,w,rows,he _ _ a,b⟩) h1 h2
 | dpt h h1 h2=>exact .dpt (let ⟨l,w,rows,a,s,c,k,h0,r⟩:=h;⟨l,w,rows,a,s,c,k,he _ _ h0,r⟩) h1 h2
 | opt h h1 h2=>exact .opt (let ⟨l,w,rows,k,h0,r⟩:=h;⟨l,w,rows,k,he _ _ h0,r⟩) h1 h2
 | ptr h=>exact .ptr (he _ _ h)
 | sl h hm=>exact .sl (he _ _ h) hm
 | op h hm hn hc=>exact .op (he _ _ h) hm hn hc
 | opE hs=>exact .opE hs
 | map h=>exact .map (he _ _ h)
 | yv h=>exact .yv (he _ _ h)
 | sdt h=>exact .sdt (let ⟨l,a,b⟩:=h;⟨l,he _ _ a,b⟩)
 | func ha hb h1 h2 ih1 ih2=>exact .func ha hb ih1 ih2
 | iface h ih=>exact .iface ih
 | agg ha h ih=>exact .agg ha ih
 | tuple ha h ih=>exact .tuple ha ih
theorem LR.mono{ρ ρ':Ren}(he:∀ b l,ρ b=some l→ρ' b=some l){a a':List Value}(h:LR ρ a a'):LR ρ' a a':=⟨h.1,fun i v v' h1 h2=>(h.2 i v v' h1 h2).mono he⟩
theorem LR.nil{ρ:Ren}:LR ρ [] []:=⟨rfl,fun i v v' h=>by simp at h⟩
theorem LR.cons{ρ:Ren}{v v':Value}{a a':List Value}(hv:VR ρ v v')(h:LR ρ a a'):LR ρ (v::a) (v'::a'):=by
 refine⟨by simp[h.1],fun i u u' h1 h2=>?_⟩;cases i with
 | zero=>simp at h1 h2;subst h1;subst h2;exact hv
 | succ i=>exact h.2 i u u' (by simpa using h1) (by simpa using h2)
theorem LR.append{ρ:Ren}{a a' b b':List Value}(h:LR ρ a a')(k:LR ρ b b'):LR ρ (a++b) (a'++b'):=by
 refine⟨by simp[h.1,k.1],fun i u u' h1 h2=>?_⟩;rcases F7 i a.length with hl|hl
 ·rw[E7 hl]at h1;rw[E7 (h.1▸hl)]at h2;exact h.2 i u u' h1 h2
 ·rw[E5 hl]at h1;rw[E5 (h.1▸hl),← h.1]at h2;exact k.2 _ u u' h1 h2
theorem LR.tail{ρ:Ren}{v:Value}{a a':List Value}(h:LR ρ (v::a) a'):∃ v' r',a'=v'::r'∧VR ρ v v'∧LR ρ a r':=by
 obtain⟨h1,h2⟩:=h;cases a' with
 | nil=>simp at h1
 | cons v' r'=>exact⟨v',r',rfl,h2 0 v v' rfl rfl,by simpa using h1,fun i u u' g1 g2=>h2 (i+1) u u' (by simpa using g1) (by simpa using g2)⟩
theorem LR.nil_inv{ρ:Ren}{a':List Value}(h:LR ρ [] a'):a'=[]:=F6.1 h.1.symm
theorem LR.get{ρ:Ren}{a a':List Value}(h:LR ρ a a'){i:Nat}{v:Value}(hi:a[i]? = some v):∃ v',a'[i]? = some v'∧VR ρ v v':=by
 have hl:=(A9.1 hi).1;have hl':i<a'.length:=h.1▸hl;exact⟨a'[i],A6 hl',h.2 i v _ hi (A6 hl')⟩
theorem LR.drop{ρ:Ren}{a a':List Value}(h:LR ρ a a')(n:Nat):LR ρ (a.drop n) (a'.drop n):=⟨by simp[h.1],fun i u u' h1 h2=>by
 rw[H9]at h1 h2;exact h.2 _ u u' h1 h2⟩
theorem LR.take{ρ:Ren}{a a':List Value}(h:LR ρ a a')(n:Nat):LR ρ (a.take n) (a'.take n):=⟨by simp[h.1],fun i u u' h1 h2=>by
 have hi:i<n:=by
  have:=(A9.1 h1).1;simp at this;omega
 rw[F4 hi]at h1 h2;exact h.2 _ u u' h1 h2⟩
theorem LR.set{ρ:Ren}{a a':List Value}(h:LR ρ a a'){v v':Value}(hv:VR ρ v v')(n:Nat):LR ρ (a.set n v) (a'.set n v'):=⟨by simp[h.1],fun i u u' h1 h2=>by
 by_cases e:n=i
 ·subst e;have hl:=(A9.1 h1).1;simp at hl;rw[X8 hl]at h1;rw[X8 (h.1▸hl)]at h2;cases h1;cases h2;exact hv
 ·rw[A0u e]at h1 h2;exact h.2 _ u u' h1 h2⟩
theorem LR.all_pure{ρ:Ren}:∀ {a:List Value},a.all I2=true→LR ρ a a
 | [],_=>.nil
 | v::r,h=>by simp only[A0f,I0]at h;exact .cons (.pure h.1) (LR.all_pure h.2)
theorem VR.ofC{ρ:Ren}{v:Value}(h:B2e v=true):VR ρ v v:=by
 cases v with
 | agg cs =>
   obtain⟨l⟩:=cs;have:LR ρ l l:=LR.all_pure h;exact .agg this.1 this.2
 | _=>exact .pure h
omit [Ora] in
theorem A2Z{u:U}{v:Value}(h:toV u=some v):I2 v=true:=by
 cases u<;>cases h<;>rfl
theorem B4G{v:Value}(h:I2 v=true):v.cells=#[v]:=by cases v<;>first|rfl|cases h
theorem VR.cells{ρ:Ren}{v v':Value}(h:VR ρ v v')(hj:A29 v=false):LR ρ v.cells.toList v'.cells.toList:=by
 have one:∀ {v v':Value},VR ρ v v'→LR ρ [v] [v']:=fun h=>.cons h .nil
 cases h with
 | agg ha h=>exact⟨ha,h⟩
 | junk h =>
   have h1:=A2 (by simpa [A29]using hj);rw[w6 (h h1)];exact one (.junk h)
 | hole h ht=>rw[B4G (A2Z h)];exact one (.hole h ht)
 | ixp h hs hi hz hv=>subst hv;exact one (.ixp h hs hi hz rfl)
 | pure hp =>
   cases v with
   | agg cs=>simp[I2]at hp
   | _=>exact one (.pure hp)
 | dat h h1 h2 h3 h4=>rw[w6 h4];exact one (.dat h h1 h2 h3 h4)
 | clp h h1 h2 h3 h4 h5=>rw[w6 h4];exact one (.clp h h1 h2 h3 h4 h5)
 | own h h1 h2=>rw[w6 h2];exact one (.own h h1 h2)
 | dpt h h1 h2=>rw[w6 h2];exact one (.dpt h h1 h2)
 | opt h h1 h2=>rw[w6 h2];exact one (.opt h h1 h2)
 | ptr h=>exact one (.ptr h)
 | sl h hm=>exact one (.sl h hm)
 | op h hm hn hc=>exact one (.op h hm hn hc)
 | opE hs=>exact one (.opE hs)
 | map h=>exact one (.map h)
 | yv h=>exact one (.yv h)
 | sdt h=>rw[h.cells];exact one (.sdt h)
 | func ha hb h1 h2=>exact one (.func ha hb h1 h2)
 | iface h=>exact one (.iface h)
 | tuple ha h=>exact one (.tuple ha h)
def AB.on:AB→Bool
 | .frz=>false
 | _=>true
def AB.rw:AB→Bool
 | .cells _ _ ro=>!ro
 | .sq _ _ _ _ ro=>!ro
 | .frz=>false
 | _=>true
theorem AB.rw_on{ab:AB}(h:ab.rw=true):ab.on=true:=by
 cases ab<;>first|rfl|cases h
def Tc(ab:AB)(l:Loc)(k:Nat):Prop:=(ab.on=true∧l.on=true∧l.blk=k)∨(ab=.frz∧∃ o,l.G k=some o)
def ER(ρ:Ren)(e e':MapEntry):Prop:=e'.key=e.key∧B2e e.key=true∧e'.born=e.born∧VR ρ e.val e'.val
def C6h(P:Program)(ρ:Ren)(u:U)(wd:Nat)(T:TypeId)(g:Nat)(ro:Bool)(l:Loc)(w:World):Prop :=
 ∃ C fz T' rows lg,w.heap[l.blk]? = some (.cells C T' fz)∧u=.seq false wd rows∧rows.length=l.len∧l.len≤l.cap∧l.sh+l.cap*wd≤C.size∧(∀ row ∈ rows,row.length=wd)∧ρ g=some lg ∧
  (∀ (r:Nat) (row:List U) (j:Nat) (x:U) (v:Value),rows[r]? = some row→row[j]? = some x→C[l.sh+r*wd+j]? = some v→Enc lg.G x v) ∧
  (ro=false→T'=T∧∀ i,i<C.size→¬ (fz.1≤i∧i<fz.2))
structure SqR (P:Program) (ρ:Ren) (u:U) (t:Nat) (T:TypeId) (g:Nat) (ro:Bool) (l:Loc) (w:World):Prop where
 ex:∃ wd inf,t=10+wd∧P.info? T=some inf∧inf.size=wd∧((l.on=false∧u=.seq true wd [])∨(l.on=true∧C6h P ρ u wd T g ro l w))
def StR(st:Nat)(s:LoopState)(p:Option Code):Prop :=
 match st with
 | 0=>s=.ready∧p=none
 | 1=>s=.busy
 | 2=>s=.done∧p=some .ret
 | 3=>True
 | k+4=>s=.done∧p=some (.exit k)
structure LpR (P:Program) (ρ:Ren) (f:FuncId) (q:List Bool) (vs:List Value) (st:Nat) (r:Loop):Prop where
 code:∃ fn body x,P.funcs[f]? = some fn∧fn.body=some body∧G0 q body=some (.rangeFunc x r.params r.assign r.body)∧vs.length=fn.ntmps
 fr:LR ρ vs r.tmps.toList
 st:StR st r.state r.pending
theorem LpR.mono{P:Program}{ρ ρ':Ren}(he:∀ b l,ρ b=some l→ρ' b=some l){f:FuncId}{q:List Bool}{vs:List Value}{st:Nat}{r:Loop}(h:LpR P ρ f q vs st r):LpR P ρ' f q vs st r:=⟨h.code,h.fr.mono he,h.st⟩
def BR(P:Program)(ρ:Ren)(ab:AB)(l:Loc)(w:World):Prop :=
 match ab with
 | .cells cs T ro=>l.on=true∧∃ C fz T',w.heap[l.blk]? = some (.cells C T' fz)∧(∀ i v,cs[i]? = some v→∃ v',C[l.sh+i]? = some v'∧VR ρ v v') ∧
    (ro=false→T'=T∧(∀ i,i<C.size→¬ (fz.1≤i∧i<fz.2))∧∀ inf,P.info? T=some inf→l.sh+l.cap*inf.size≤C.size∧l.sh%inf.size=0)
 | .map es clock=>(l.on=true∧l.sh=0)∧∃ es':Array MapEntry,w.heap[l.blk]? = some (.map es' clock)∧es.length=es'.size∧∀ (i:Nat) (e e':MapEntry),es[i]? = some e→es'[i]? = some e'→ER ρ e e'
 | .iter s pos=>(l.on=true∧l.sh=0)∧w.heap[l.blk]? = some (.stringIter s pos)
 | .sq c t T g ro=>SqR P ρ (Ora.env c) t T g ro l w
 | .lp f q vs st=>(l.on=true∧l.sh=0)∧∃ r,w.heap[l.blk]? = some (.loop r)∧LpR P ρ f q vs st r
 | .dfr b=>(l.on=true∧l.sh=0)∧∃ x,w.heap[l.blk]? = some (.deferred x)∧(b=true→x=some [])
 | .frz=>l.on=false∧∀ k o,l.G k=some o→w.heap[k]? = some o
theorem BR.mono{P:Program}{ρ ρ':Ren}(he:∀ b l,ρ b=some l→ρ' b=some l){ab:AB}{l:Loc}{w w':World}(hw:∀ k,Tc ab l k→w'.heap[k]? = w.heap[k]?)(h:BR P ρ ab l w):BR P ρ' ab l w':=by
 cases ab with
 | cells cs T ro =>
   obtain⟨h0,C,fz,T',h1,h2,h3⟩:=h;exact⟨h0,C,fz,T',(hw _ (.inl ⟨rfl,h0,rfl⟩)).trans h1,fun i v hi=>let ⟨v',a,b⟩:=h2 i v hi;⟨v',a,b.mono he⟩,h3⟩
 | map es clock =>
   obtain⟨h0,es',h1,h2,h3⟩:=h;exact⟨h0,es',(hw _ (.inl ⟨rfl,h0.1,rfl⟩)).trans h1,h2,fun i e e' g1 g2=>let ⟨a,b,c,d⟩:=h3 i e e' g1 g2;⟨a,b,c,d.mono he⟩⟩
 | iter s pos=>exact⟨h.1,(hw _ (.inl ⟨rfl,h.1.1,rfl⟩)).trans h.2⟩
 | lp f q vs st=>obtain⟨h0,r,h1,h2⟩:=h;exact⟨h0,r,(hw _ (.inl ⟨rfl,h0.1,rfl⟩)).trans h1,h2.mono he⟩
 | dfr b=>obtain⟨h0,x,h1,h2⟩:=h;exact⟨h0,x,(hw _ (.inl ⟨rfl,h0.1,rfl⟩)).trans h1,h2⟩
 | sq c t T g ro =>
   obtain⟨wd,inf,h1,h2,h3,h4⟩:=SqR.ex h;refine⟨⟨wd,inf,h1,h2,h3,h4.imp (fun x=>x) fun⟨hon,h5⟩=>⟨hon,?_⟩⟩⟩;obtain⟨C,fz,T',rows,lg,h1,h2,h3,h4,h5,h6,h7,h8,h9⟩:=h5;exact⟨C,fz,T',rows,lg,(hw _ (.inl ⟨rfl,hon,rfl⟩)).trans h1,h2,h3,h4,h5,h6,he _ _ h7,h8,h9⟩
 | frz=>exact⟨h.1,fun k o hk=>(hw k (.inr ⟨rfl,o,hk⟩)).trans (h.2 k o hk)⟩
structure HR (P:Program) (base:Nat) (ρ:Ren) (H:Hp AB) (w:World):Prop where
 dom:∀ b l,ρ b=some l→b≤G8
 at_:∀ id,id≤G8→∀ ab,Hp.get H id=some ab→∃ l,ρ id=some l∧BR P ρ ab l w∧(ab.rw=true→l.on=true→base≤l.blk∧∀ id2,id2≤G8→∀ ab2 l2,Hp.get H id2=some ab2→ρ id2=some l2→Tc ab2 l2 l.blk→id2=id)
theorem BR.tc{P:Program}{ρ:Ren}{ab:AB}{l:Loc}{w:World}(h:BR P ρ ab l w){k:Nat}(ht:Tc ab l k):k<w.heap.size:=by
 have key:∀ k o,w.heap[k]? = some o→k<w.heap.size:=fun k o ho=>(D4.1 ho).1
 rcases ht with⟨h1,hon,rfl⟩|⟨rfl,o,h1⟩
 ·cases ab with
  | cells cs T ro=>obtain⟨_,C,fz,T',h1,_⟩:=h;exact key _ _ h1
  | map es clock=>obtain⟨h0,es',h1,_⟩:=h;exact key _ _ h1
  | iter s pos=>exact key _ _ h.2
  | lp f q vs st=>obtain⟨_,r,h1,_⟩:=h;exact key _ _ h1
  | dfr b=>obtain⟨_,x,h1,_⟩:=h;exact key _ _ h1
  | sq c t T g ro =>
    obtain⟨wd,inf,_,_,_,h4⟩:=SqR.ex h;rcases h4 with⟨h5,_⟩|⟨_,h5⟩
    ·rw[hon]at h5;cases h5
    ·obtain⟨C,fz,T',rows,lg,h1,_⟩:=h5;exact key _ _ h1
  | frz=>cases h1
 ·exact key _ _ (h.2 k o h1)
theorem HR.atl{P:Program}{base:Nat}{ρ:Ren}{H:Hp AB}{w:World}(h:HR P base ρ H w){id:Nat}{l:Loc}(hl:ρ id=some l){ab:AB}(hg:Hp.get H id=some ab) :
  BR P ρ ab l w∧(ab.rw=true→l.on=true→base≤l.blk∧∀ id2,id2≤G8→∀ ab2 l2,Hp.get H id2=some ab2→ρ id2=some l2→Tc ab2 l2 l.blk→id2=id):=by
 obtain⟨l0,h1,h2,h3⟩:=h.at_ id (h.dom id l hl) ab hg;rw[hl]at h1
 have:=A8 h1;subst this;exact⟨h2,h3⟩
theorem HR.sub{P:Program}{base:Nat}{ρ:Ren}{H H':Hp AB}{w:World}(h:HR P base ρ H w)(hs:∀ id,id≤G8→∀ ab,Hp.get H' id=some ab→Hp.get H id=some ab):HR P base ρ H' w :=
 ⟨h.dom,fun id hid ab hab=>let ⟨l,a,b,c⟩:=h.at_ id hid ab (hs id hid ab hab);⟨l,a,b,fun hr ho=>⟨(c hr ho).1,fun id2 hid2 ab2 l2 g=>(c hr ho).2 id2 hid2 ab2 l2 (hs id2 hid2 ab2 g)⟩⟩⟩
def AB.fr:AB→Bool
 | .cells _ _ ro=>!ro
 | _=>true
theorem AB.rw_fr{ab:AB}(h:ab.rw=true):ab.fr=true:=by
 cases ab<;>first|rfl|exact h
def Tf(ab:AB)(l:Loc)(k:Nat):Prop:=ab.fr=true∧Tc ab l k
def Fp(ρ:Ren)(H:Hp AB)(k:Nat):Prop:=∃ id ab l,id≤G8∧Hp.get H id=some ab∧ρ id=some l∧Tf ab l k
structure St (P:Program) (base:Nat) (ρ ρ':Ren) (m m':Mem) (w w':World):Prop where
 ext:∀ b l,ρ b=some l→ρ' b=some l
 new:∀ b l,ρ' b=some l→ρ b=none→m.n≤b∧b<m'.n
 nle:m.n≤m'.n
 hle:m.hi≤m'.hi
 nhi:m.n≤m.hi→m'.n≤m'.hi
 hr:HR P base ρ' m'.H w'
 wsub:∀ b ∈ m.W,b ∈ m'.W
 wrw:∀ b ∈ m'.W,b ∉ m.W→∀ l,ρ b=some l→∃ ab,Hp.get m.H b=some ab∧ab.rw=true
 keep:∀ k,k<w.heap.size→(∀ b ∈ m'.W,∀ l,ρ b=some l→l.on=true→l.blk≠k)→w'.heap[k]? = w.heap[k]?
 size:w.heap.size≤w'.heap.size
 os:w'.os=w.os∧w'.tape=w.tape∧w'.output=w.output
 blk:∀ b l,ρ' b=some l→ρ b=none→l.on=true→w.heap.size≤l.blk∨∃ b0 ∈ m'.W,∃ l0,ρ b0=some l0∧l0.on=true∧l0.blk=l.blk
 same:∀ id,id≤G8→id ∉ m'.W→(id<m.n∨m'.hi≤id)→Hp.get m'.H id=Hp.get m.H id
 tch:∀ k,Fp ρ' m'.H k→w.heap.size≤k∨Fp ρ m.H k
def K2(ρ:Ren)(n hi:Nat):Prop:=∀ b,n≤b→b<hi→ρ b=none
theorem St.refl{P:Program}{base:Nat}{ρ:Ren}{m:Mem}{w:World}(h:HR P base ρ m.H w):St P base ρ ρ m m w w :=
 ⟨fun _ _ h=>h,fun b l h1 h2=>(by rw[h1]at h2;cases h2),A7 _,A7 _,fun h=>h,h,fun _ h=>h,fun b h1 h2=>absurd h1 h2,fun _ _ _=>rfl,A7 _,⟨rfl,rfl,rfl⟩,fun b l h1 h2=>(by rw[h1]at h2;cases h2),fun _ _ _ _=>rfl,fun _ h=>.inr h⟩
theorem St.trans{P:Program}{base:Nat}{ρ ρ1 ρ2:Ren}{m m1 m2:Mem}{w w1 w2:World}(hf:K2 ρ m.n m2.hi)(a:St P base ρ ρ1 m m1 w w1)(c:St P base ρ1 ρ2 m1 m2 w1 w2):St P base ρ ρ2 m m2 w w2:=by
 refine⟨fun b l h=>c.ext b l (a.ext b l h),fun b l h1 h2=>?_,B8 a.nle c.nle,B8 a.hle c.hle,fun h=>c.nhi (a.nhi h),c.hr,fun b h=>c.wsub b (a.wsub b h),fun b h1 h2 l hl=>?_,fun k hk hb=>?_,B8 a.size c.size,⟨c.os.1.trans a.os.1,c.os.2.1.trans a.os.2.1,c.os.2.2.trans a.os.2.2⟩,fun b l h1 h2 hon=>?_,fun id hid h1 h2=>?_,fun k hk=>(c.tch k hk).elim (fun h=>.inl (B8 a.size h)) (a.tch k)⟩
 ·cases h:ρ1 b with
  | some l1=>exact⟨(a.new b l1 h h2).1,D2 (a.new b l1 h h2).2 c.nle⟩
  | none=>exact⟨B8 a.nle (c.new b l h1 h).1,(c.new b l h1 h).2⟩
 ·by_cases h:b ∈ m1.W
  ·exact a.wrw b h h2 l hl
  ·obtain⟨ab,h3,h4⟩:=c.wrw b h1 h l (a.ext b l hl);refine⟨ab,?_,h4⟩;rw[← a.same b (a.hr.dom b l (a.ext b l hl)) h ?_]
   ·exact h3
   ·rcases F7 b m.n with hlt|hge
    ·exact .inl hlt
    ·refine .inr ?_;rcases F7 b m2.hi with h5|h5
     ·rw[hf b hge h5]at hl;cases hl
     ·exact B8 c.hle h5
 ·have h1:w1.heap[k]? = w.heap[k]? := a.keep k hk fun b hbm l hl ho=>hb b (c.wsub b hbm) l hl ho
  rw[← h1];refine c.keep k (D2 hk a.size) fun b hbm l hl ho=>?_
  cases h:ρ b with
  | some l0 =>
    have:=a.ext b l0 h;rw[this]at hl;have hl:=A8 hl;subst hl;exact hb b hbm l0 h ho
  | none =>
    rcases a.blk b l hl h ho with h5|⟨b0,h5,l0,h6,h60,h7⟩
    ·omega
    ·rw[← h7];exact hb b0 (c.wsub b0 h5) l0 h6 h60
 ·cases h:ρ1 b with
  | some l1 =>
    have:=c.ext b l1 h;rw[this]at h1;have h1:=A8 h1;subst h1;rcases a.blk b l1 h h2 hon with h5|⟨b0,h5,l0,h6,h7⟩
    ·exact .inl h5
    ·exact .inr ⟨b0,c.wsub b0 h5,l0,h6,h7⟩
  | none =>
    rcases c.blk b l h1 h hon with h5|⟨b0,h5,l0,h6,h60,h7⟩
    ·exact .inl (B8 a.size h5)
    ·cases h8:ρ b0 with
     | some l1 =>
       have:=a.ext b0 l1 h8;rw[this]at h6;have h6:=A8 h6;subst h6;exact .inr ⟨b0,h5,l1,h8,h60,h7⟩
     | none =>
       rcases a.blk b0 l0 h6 h8 h60 with h9|⟨b1,h9,l1,h10,h100,h11⟩
       ·exact .inl (h7▸h9)
       ·exact .inr ⟨b1,c.wsub b1 h9,l1,h10,h100,h11.trans h7⟩
 ·have h3:id ∉ m1.W:=fun h=>h1 (c.wsub id h)
  rw[c.same id hid h1 (h2.imp (fun h=>D2 h a.nle) fun h=>h),a.same id hid h3 (h2.imp (fun h=>h) fun h=>B8 c.hle h)]
end Go.Sx
