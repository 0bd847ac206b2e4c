/- The law KeysPastes: for every input the call returns true, and the arguments read behind it as they read before. No condition. -/
import Derived.WalkKit
import Derived.OrdersHeld
import Derived.KernelRfl
namespace Go.Sx
set_option linter.all false
set_option linter.unusedVariables false
open Go
abbrev A1x:=@Array.all_eq_true'
abbrev I3:=@Array.ext'
abbrev B3:=@Array.getD_eq_getD_getElem?
abbrev U0:=@Array.getElem?_append_left
abbrev F3:=@Array.getElem?_eq_getElem
abbrev C6:=@Array.getElem?_eq_some_iff
abbrev G0:=@Array.getElem?_modify
abbrev m7:=@Array.getElem?_push
abbrev A2X:=@Array.getElem?_replicate
abbrev E8:=@Array.getElem?_setIfInBounds
abbrev U3:=@Array.getElem?_toList
abbrev S2:=@Array.length_toList
abbrev A11:=@Array.mapM_eq_mapM_toList
abbrev d8:=@Array.mk.injEq
abbrev X3:=@BitVec.toNat_and
abbrev N5:=@BitVec.toNat_ofInt
abbrev G7:=@Bool.and_eq_true
abbrev T9:=@Bool.and_false
abbrev A2W:=@Bool.and_true
abbrev J1:=@Bool.eq_iff_iff
abbrev X1:=@Bool.false_and
abbrev I2:=@Bool.false_eq_true
abbrev Q7:=@Bool.false_or
abbrev P0:=@Bool.not_true
abbrev O5:=@Bool.or_eq_false_iff
abbrev I1:=@Bool.or_eq_true
abbrev p9:=@Bool.true_and
abbrev D6:=@Decidable.not_not
abbrev A3g:=@Int.emod_nonneg
abbrev A3f:=@Int.ofNat.injEq
abbrev A0w:=@Int.ofNat_eq_natCast
abbrev P5:=@Int.toNat_natCast
abbrev A0_:=@Int.toNat_of_nonneg
abbrev A3e:=@List.all_append
abbrev A0i:=@List.all_cons
abbrev D0:=@List.all_eq_true
abbrev A2V:=@List.any_cons
abbrev X0:=@List.any_eq_true
abbrev H1:=@List.append_assoc
abbrev G8:=@List.cons.injEq
abbrev j7:=@List.cons_append
abbrev R1:=@List.drop_append_of_le_length
abbrev A0I:=@List.drop_drop
abbrev l4:=@List.drop_eq_getElem_cons
abbrev S5:=@List.drop_eq_nil_of_le
abbrev R0:=@List.drop_zero
abbrev A0a:=@List.eq_nil_iff_forall_not_mem
abbrev L9:=@List.eq_nil_of_length_eq_zero
abbrev A0H:=@List.ext_getElem?
abbrev A09:=@List.filter_eq_self
abbrev A04:=@List.find?_cons
abbrev A2M:=@List.flatMap_cons
abbrev B5:=@List.getD_eq_getElem?_getD
abbrev E0:=@List.getElem?_append_left
abbrev D1:=@List.getElem?_append_right
abbrev R7:=@List.getElem?_cons_succ
abbrev R6:=@List.getElem?_cons_zero
abbrev F9:=@List.getElem?_drop
abbrev A3:=@List.getElem?_eq_getElem
abbrev Q1:=@List.getElem?_eq_none
abbrev A10:=@List.getElem?_eq_none_iff
abbrev A9:=@List.getElem?_eq_some_iff
abbrev G5:=@List.getElem?_map
abbrev A0v:=@List.getElem?_set_ne
abbrev X9:=@List.getElem?_set_self
abbrev F0:=@List.getElem?_take_of_lt
abbrev I7:=@List.getElem?_toArray
abbrev O4:=@List.getElem_mem
abbrev m6:=@List.getElem_of_mem
abbrev A1w:=@List.isPrefixOf_iff_prefix
abbrev A7:=@List.length_append
abbrev B6:=@List.length_cons
abbrev C8:=@List.length_drop
abbrev D8:=@List.length_eq_zero_iff
abbrev F5:=@List.length_map
abbrev D9:=@List.length_nil
abbrev W4:=@List.length_pos_iff
abbrev A3d:=@List.length_set
abbrev C9:=@List.length_singleton
abbrev D5:=@List.length_take
abbrev P8:=@List.map_append
abbrev D7:=@List.map_cons
abbrev A5I:=@List.map_drop
abbrev A2L:=@List.map_inj_left
abbrev I0:=@List.map_nil
abbrev A2U:=@List.map_take
abbrev B1:=@List.mem_append
abbrev B7:=@List.mem_cons
abbrev B8:=@List.mem_cons_of_mem
abbrev B4:=@List.mem_cons_self
abbrev S0:=@List.mem_filter
abbrev Q6:=@List.mem_map
abbrev D3:=@List.mem_of_getElem?
abbrev K2:=@List.mem_of_mem_drop
abbrev O2:=@List.mem_of_mem_take
abbrev A0G:=@List.mem_range
abbrev X8:=@List.mem_singleton
abbrev M3:=@List.nil_append
abbrev O1:=@List.not_mem_nil
abbrev Y9:=@List.take_append_drop
abbrev H9:=@List.take_append_of_le_length
abbrev F8:=@List.take_of_length_le
abbrev A1v:=@List.take_take
abbrev A0h:=@Nat.add_assoc
abbrev A1I:=@Nat.add_comm
abbrev G3:=@Nat.add_mul
abbrev R5:=@Nat.add_sub_cancel_left
abbrev A2z:=@Nat.and_le_right
abbrev A1H:=@Nat.beq_refl
abbrev A5f:=@Nat.ble_eq
abbrev C3:=@Nat.ble_eq_true_of_le
abbrev A0:=@Nat.eq_of_beq_eq_true
abbrev T8:=@Nat.eq_zero_or_pos
abbrev A1:=@Nat.le_of_ble_eq_true
abbrev A3R:=@Nat.le_of_lt
abbrev A5:=@Nat.le_refl
abbrev d7:=@Nat.le_succ
abbrev B0:=@Nat.le_trans
abbrev H4:=@Nat.lt_of_le_of_lt
abbrev C7:=@Nat.lt_of_lt_of_le
abbrev E9:=@Nat.lt_or_ge
abbrev I5:=@Nat.lt_succ_self
abbrev Q5:=@Nat.mod_eq_of_lt
abbrev A5e:=@Nat.mod_lt
abbrev i7:=@Nat.mul_comm
abbrev t7:=@Nat.mul_div_cancel
abbrev A0F:=@Nat.mul_le_mul
abbrev E6:=@Nat.mul_le_mul_right
abbrev A2K:=@Nat.one_mul
abbrev A3Q:=@Nat.sub_self
abbrev Z2:=@Nat.succ_le_of_lt
abbrev J0:=@Nat.succ_le_succ
abbrev A08:=@Nat.testBit_two_pow
abbrev E4:=@Nat.zero_add
abbrev v7:=@Nat.zero_le
abbrev A3P:=@Nat.zero_mul
abbrev A6:=@Option.bind_eq_some_iff
abbrev D4:=@Option.bind_some
abbrev A0Z:=@Option.getD_some
abbrev A0E:=@Option.map_eq_some_iff
abbrev K5:=@Option.map_some
abbrev A4:=@Option.some.inj
abbrev C5:=@Option.some.injEq
abbrev L8:=@Option.some_ne_none
abbrev M1:=@Prod.mk.injEq
structure N8 (α:Type) where
 c0:α
 c1:α
 c2:α
 c3:α
 c4:α
 c5:α
 c6:α
 c7:α
structure Sel where
 get:{α:Type}→N8 α→α
 upd:{α β:Type}→N8 α→α→(N8 α→β)→β
def sel:Nat→Sel
 | 0=>⟨fun n=>n.c0,fun n v k=>match n with|⟨a0,a1,a2,a3,a4,a5,a6,a7⟩=>k ⟨v,a1,a2,a3,a4,a5,a6,a7⟩⟩
 | 1=>⟨fun n=>n.c1,fun n v k=>match n with|⟨a0,a1,a2,a3,a4,a5,a6,a7⟩=>k ⟨a0,v,a2,a3,a4,a5,a6,a7⟩⟩
 | 2=>⟨fun n=>n.c2,fun n v k=>match n with|⟨a0,a1,a2,a3,a4,a5,a6,a7⟩=>k ⟨a0,a1,v,a3,a4,a5,a6,a7⟩⟩
 | 3=>⟨fun n=>n.c3,fun n v k=>match n with|⟨a0,a1,a2,a3,a4,a5,a6,a7⟩=>k ⟨a0,a1,a2,v,a4,a5,a6,a7⟩⟩
 | 4=>⟨fun n=>n.c4,fun n v k=>match n with|⟨a0,a1,a2,a3,a4,a5,a6,a7⟩=>k ⟨a0,a1,a2,a3,v,a5,a6,a7⟩⟩
 | 5=>⟨fun n=>n.c5,fun n v k=>match n with|⟨a0,a1,a2,a3,a4,a5,a6,a7⟩=>k ⟨a0,a1,a2,a3,a4,v,a6,a7⟩⟩
 | 6=>⟨fun n=>n.c6,fun n v k=>match n with|⟨a0,a1,a2,a3,a4,a5,a6,a7⟩=>k ⟨a0,a1,a2,a3,a4,a5,v,a7⟩⟩
 | _=>⟨fun n=>n.c7,fun n v k=>match n with|⟨a0,a1,a2,a3,a4,a5,a6,a7⟩=>k ⟨a0,a1,a2,a3,a4,a5,a6,v⟩⟩
def A5d{α:Type}(v:α):N8 α:=⟨v,v,v,v,v,v,v,v⟩
def B2V{α β:Type}(n:N8 α)(k:N8 α→β):β :=
 match n with
 | ⟨a0,a1,a2,a3,a4,a5,a6,a7⟩=>k ⟨a0,a1,a2,a3,a4,a5,a6,a7⟩
abbrev Fr:=N8 (N8 (N8 Value))
def Fr.get(fr:Fr)(t:Nat):Value:=(sel (t%8)).get ((sel (t / 8%8)).get ((sel (t / 64%8)).get fr))
def A71{β:Type}(a b c:Sel)(v:Value)(fr:Fr)(k:Fr→β):β :=
 c.upd (b.get (a.get fr)) v fun n2=>b.upd (a.get fr) n2 fun n1=>a.upd fr n1 k
def Fr.set(fr:Fr)(t:Nat)(v:Value):Fr:=A71 (sel (t / 64%8)) (sel (t / 8%8)) (sel (t%8)) v fr fun fr=>fr
def fr0:Fr:=A5d (A5d (A5d (.tuple #[])))
abbrev Hp(α:Type):=N8 (N8 (N8 (N8 (N8 (N8 (Option α))))))
def Hp.get{α:Type}(h:Hp α)(n:Nat):Option α :=
 (sel (n%8)).get ((sel (n / 8%8)).get ((sel (n / 64%8)).get ((sel (n / 512%8)).get ((sel (n / 4096%8)).get ((sel (n / 32768%8)).get h)))))
def A0V{α β:Type}(a b c d e f:Sel)(v:Option α)(h:Hp α)(k:Hp α→β):β :=
 f.upd (e.get (d.get (c.get (b.get (a.get h))))) v fun n5=>e.upd (d.get (c.get (b.get (a.get h)))) n5 fun n4=>d.upd (c.get (b.get (a.get h))) n4 fun n3=>c.upd (b.get (a.get h)) n3 fun n2=>b.upd (a.get h) n2 fun n1=>a.upd h n1 k
def Hp.put{α β:Type}(h:Hp α)(n:Nat)(v:Option α)(k:Hp α→β):β :=
 A0V (sel (n / 32768%8)) (sel (n / 4096%8)) (sel (n / 512%8)) (sel (n / 64%8)) (sel (n / 8%8)) (sel (n%8)) v h k
def Hp.set{α:Type}(h:Hp α)(n:Nat)(v:Option α):Hp α:=h.put n v fun h=>h
def hp0{α:Type}:Hp α:=A5d (A5d (A5d (A5d (A5d (A5d none)))))
def G2:Nat:=262143
def J3{β:Type}(n:Nat)(k:Nat→β):β :=
 match n with
 | 0=>k 0
 | m+1=>k (Nat.succ m)
def A9R{β:Type}(i:Int)(k:Int→β):β :=
 match i with
 | .ofNat n=>J3 n fun n=>k (.ofNat n)
 | .negSucc n=>J3 n fun n=>k (.negSucc n)
def R8{α β:Type}:List α→(List α→β)→β
 | [],k=>k []
 | x::r,k=>R8 r fun r=>k (x::r)
def B4x:IntKind→Nat
 | .i8=>127|.i16=>32767|.i32=>2147483647|.i64=>9223372036854775807
 | .u8=>255|.u16=>65535|.u32=>4294967295|.u64=>18446744073709551615
def B0V(k:IntKind)(n:Int):Int :=
 match n with
 | .ofNat m=>bif Nat.ble m (B4x k)then .ofNat m else k.wrap (.ofNat m)
 | .negSucc m=>k.wrap (.negSucc m)
def D0J(a b:Int):Int :=
 match a,b with
 | .ofNat m,.ofNat n=>.ofNat (Nat.add m n)
 | a,b=>a+b
def C6x(a b:Int):Int :=
 match a,b with
 | .ofNat m,.ofNat n=>bif Nat.ble n m then .ofNat (Nat.sub m n)else .ofNat m - .ofNat n
 | a,b=>a-b
def C9B(a b:Int):Int :=
 match a,b with
 | .ofNat m,.ofNat n=>.ofNat (Nat.mul m n)
 | a,b=>a*b
def ltF(a b:Int):Bool :=
 match a,b with
 | .ofNat m,.ofNat n=>Nat.blt m n
 | .negSucc _,.ofNat _=>true
 | .ofNat _,.negSucc _=>false
 | .negSucc m,.negSucc n=>Nat.blt n m
def leF(a b:Int):Bool :=
 match a,b with
 | .ofNat m,.ofNat n=>Nat.ble m n
 | .negSucc _,.ofNat _=>true
 | .ofNat _,.negSucc _=>false
 | .negSucc m,.negSucc n=>Nat.ble n m
def B0Q(a b:Int):Bool :=
 match a,b with
 | .ofNat m,.ofNat n=>Nat.beq m n
 | .negSucc m,.negSucc n=>Nat.beq m n
 | _,_=>false
def A8z:IntKind→IntKind→Bool
 | .i8,.i8|.i16,.i16|.i32,.i32|.i64,.i64|.u8,.u8|.u16,.u16|.u32,.u32|.u64,.u64=>true
 | _,_=>false
def mkI(k:IntKind)(n:Int):Value:=A9R n fun n=>.int k n
inductive U where
 | none
 | int (k:IntKind) (n:Int)
 | bool (b:Bool)
 | str (s:List UInt8)
 | seq (nul:Bool) (w:Nat) (rows:List (List U))
inductive LOp where
 | bin (op:BinOp)
 | un (op:UnOp)
 | conv (k:IntKind)
 | len
 | idx
 | sub
 | sub1
 | sel
 | eqs
 | inb
 | max
 | min
 | mks
 | inbs (w:Nat)
 | get (w o:Nat)
 | mk (w:Nat)
 | nilw (w:Nat)
 | nilp
 | snoc (w:Nat)
 | cat (w:Nat)
 | cats
 | set (w o:Nat)
 | subs (w:Nat)
 | str
 | byt
 | rep (w:Nat)
 | ustr
 | mhas (w kw:Nat)
 | mget (w kw o:Nat)
 | mput (w kw:Nat)
inductive c9 where
 | lt (i t:Nat) (op:LOp) (xs:List Value)
 | dt (i t:Nat) (op:LOp) (xs:List Value)
 | br (i:Nat) (b:Bool)
 | as (op:LOp) (xs:List Value)
 | con (spec:List U→Option (Nat×List U)) (xs:List Value) (i d n:Nat)
structure Lg where
 nx:Nat
 pi:List Nat
 log:List c9
def hole(i t:Nat):Value:=.complex .f64 i t
def junk:Value:=.complex .f32 0 0
def ixp(a:Addr)(s:Nat)(i:Value)(n:Nat):Value:=.func (.yield 1) ⟨[.pointer (some a),.int .i64 (.ofNat s),i,.int .i64 (.ofNat n)]⟩ ⟨[]⟩
def dat(b i t:Nat):Value:=.func (.yield 2) ⟨[.pointer (some ⟨b,0,none⟩),.complex .f64 i t]⟩ ⟨[]⟩
def clp(b i t:Nat):Value:=.func (.yield 3) ⟨[.pointer (some ⟨b,0,none⟩),.complex .f64 i t]⟩ ⟨[]⟩
def own(b i t:Nat):Value:=.func (.yield 4) ⟨[.pointer (some ⟨b,0,none⟩),.complex .f64 i t]⟩ ⟨[]⟩
def dpt(b i t:Nat)(z:Value)(o:Nat):Value:=.func (.yield 5) ⟨[.pointer (some ⟨b,0,none⟩),.complex .f64 i t,z,.int .i64 (.ofNat o)]⟩ ⟨[]⟩
def opt(b i t:Nat)(z:Value)(o:Nat):Value:=.func (.yield 6) ⟨[.pointer (some ⟨b,0,none⟩),.complex .f64 i t,z,.int .i64 (.ofNat o)]⟩ ⟨[]⟩
def yv(b:Nat):Value:=.func (.yield 7) ⟨[.pointer (some ⟨b,0,none⟩)]⟩ ⟨[]⟩
def sdt(b:Nat):Value:=.func (.yield 9) ⟨[.pointer (some ⟨b,0,none⟩)]⟩ ⟨[]⟩
def dv(ids:List Nat):Value:=.func (.yield 8) ⟨ids.map fun b=>.pointer (some ⟨b,0,none⟩)⟩ ⟨[]⟩
def B94:Value→Bool
 | .complex .f32 _ _=>true
 | _=>false
def one:Value:=.complex .f32 1 0
def A3D:Value→Bool
 | .complex .f32 i _=>!(Nat.beq i 1)
 | _=>false
def A2m:IntKind→Nat
 | .i8=>0|.i16=>1|.i32=>2|.i64=>3|.u8=>4|.u16=>5|.u32=>6|.u64=>7
def F4:Value→Nat
 | .int k _=>A2m k
 | .bool _=>8
 | .string _=>9
 | .complex .f64 _ t=>t
 | _=>99
inductive AB where
 | cells (cs:List Value) (T:TypeId) (ro:Bool)
 | sq (c t:Nat) (T:TypeId) (g:Nat) (ro:Bool)
 | frz
 | mp (c t:Nat) (T:TypeId)
 | iter (s:ByteArray) (pos:Nat)
 | lp (f:FuncId) (q:List Bool) (vs:List Value) (st:Nat)
 | dfr (b:Bool)
structure Mem where
 H:Hp AB
 n:Nat
 W:List Nat
 hi:Nat
 lg:Lg
structure S where
 fr:Fr
 m:Mem
inductive Ex where
 | normal
 | exit (id:Nat)
 | ret
def H8:List Bool→Code→Option Code
 | [],c=>some c
 | false::q,.seq a _=>H8 q a
 | true::q,.seq _ b=>H8 q b
 | false::q,.cond _ a _=>H8 q a
 | true::q,.cond _ _ b=>H8 q b
 | false::q,.block _ c=>H8 q c
 | false::q,.scope c=>H8 q c
 | false::q,.loop c=>H8 q c
 | false::q,.rangeFunc _ _ a _=>H8 q a
 | true::q,.rangeFunc _ _ _ b=>H8 q b
 | _::_,_=>none
def M0:Nat:=9223372036854775808
def H5:Value→Bool
 | .bool _|.int _ _|.string _|.pointer none|.slice none _ _|.map none|.nilFunc|.nilIface=>true
 | _=>false
def B6O:Value→Bool
 | .agg cs=>cs.toList.all H5
 | v=>H5 v
def ev(fr:Fr):Operand→Value
 | .tmp t=>fr.get t
 | .const v=>v
 | .global g=>.pointer (some ⟨g,0,none⟩)
 | .func f=>.func (.func f) #[] #[]
def okX(nt gl:Nat):Operand→Bool
 | .tmp t=>Nat.blt t nt
 | .const v=>B6O v
 | .global g=>Nat.blt g gl
 | .func _=>true
def evL(fr:Fr):List Operand→List Value
 | []=>[]
 | x::r=>ev fr x::evL fr r
def evP(fr:Fr):List (Nat×Operand)→List (Nat×Value)
 | []=>[]
 | (i,x)::r=>(i,ev fr x)::evP fr r
def evO(fr:Fr):Option Operand→Option Value
 | none=>none
 | some x=>some (ev fr x)
structure XC where
 run:Fr→Value
def D0w(a b c:Sel):XC:=⟨fun fr=>c.get (b.get (a.get fr))⟩
def S7:Operand→XC
 | .tmp t=>D0w (sel (t / 64%8)) (sel (t / 8%8)) (sel (t%8))
 | .const v=>⟨fun _=>v⟩
 | .global g=>⟨fun _=>.pointer (some ⟨g,0,none⟩)⟩
 | .func f=>⟨fun _=>.func (.func f) #[] #[]⟩
theorem A1Q(x:Operand)(fr:Fr):(S7 x).run fr=ev fr x:=by cases x<;>rfl
structure LC where
 run:Fr→List Value
def C93(x:XC)(r:LC)(fr:Fr):List Value:=x.run fr::r.run fr
def A7p:List Operand→LC
 | []=>⟨fun _=>[]⟩
 | x::r=>⟨fun fr=>C93 (S7 x) (A7p r) fr⟩
theorem A42(fr:Fr):∀ xs:List Operand,(A7p xs).run fr=evL fr xs
 | []=>rfl
 | x::r=>by
   show(S7 x).run fr::(A7p r).run fr=_;rw[A1Q,A42 fr r];rfl
abbrev Res:=Option (Value×Mem)
def upN(hi n:Nat):Nat:=bif Nat.blt n hi then hi else Nat.succ n
def Mem.wLg(m:Mem)(lg:Lg):Mem :=
 match m with
 | ⟨H,n,W,hi,_⟩=>⟨H,n,W,hi,lg⟩
def W6(m:Mem)(t:Nat)(op:LOp)(xs:List Value):Res :=
 match m with
 | ⟨H,n,W,hi,⟨nx,pi,log⟩⟩=>J3 nx fun nx=>J3 t fun t=>R8 xs fun xs=>some (hole nx t,⟨H,n,W,hi,⟨Nat.succ nx,pi,.lt nx t op xs::log⟩⟩)
def A74(m:Mem)(t:Nat)(op:LOp)(xs:List Value)(k:Nat→Mem→Res):Res :=
 match m with
 | ⟨H,n,W,hi,⟨nx,pi,log⟩⟩=>J3 nx fun nx=>J3 t fun t=>R8 xs fun xs=>k nx ⟨H,n,W,hi,⟨Nat.succ nx,pi,.dt nx t op xs::log⟩⟩
def A9W:List c9→Nat→Option Bool
 | [],_=>none
 | .br j b::r,i=>bif Nat.beq j i then some b else A9W r i
 | _::r,i=>A9W r i
def brL(lg:Lg)(c:Value):Option (Bool×Lg) :=
 match c with
 | .bool b=>some (b,lg)
 | .complex .f64 i 8=>match lg with
   | ⟨nx,pi,log⟩=>match A9W log i with
     | some b=>some (b,⟨nx,pi,log⟩)
     | none=>match pi with
       | 1::r=>some (true,⟨nx,r,.br i true::log⟩)
       | 0::r=>some (false,⟨nx,r,.br i false::log⟩)
       | _=>none
 | _=>none
def e9(m:Mem)(ab:AB)(k:Nat→Value):Res :=
 match m with
 | ⟨H,n,W,hi,lg⟩=>bif Nat.ble n G2 then J3 n fun n=>J3 (upN hi n) fun hi=>Hp.put H n (some ab) fun H=>some (k n,⟨H,Nat.succ n,W,hi,lg⟩)else none
def A1Z(m:Mem)(id:Nat)(ab:AB):Option Mem :=
 match m with
 | ⟨H,n,W,hi,lg⟩=>bif Nat.ble id G2 then Hp.put H id (some ab) fun H=>J3 id fun id=>some ⟨H,n,id::W,hi,lg⟩else none
def A3X(m:Mem)(id:Nat):Mem :=
 match m with
 | ⟨H,n,W,hi,lg⟩=>Hp.put H id none fun H=>J3 id fun id=>⟨H,n,id::W,hi,lg⟩
def A7E(cs:List Value)(o n:Nat):Option (List Value) :=
 let r:=(cs.drop o).take n
 bif Nat.beq r.length n then some r else none
def u7(m:Mem)(a:Addr)(n:Nat):Option (List Value) :=
 match a.spot,Hp.get m.H a.block with
 | none,some (.cells cs _ _)=>A7E cs a.off n
 | _,_=>none
def A0m:List Value→Nat→List Value→List Value
 | cs,_,[]=>cs
 | cs,k,v::r=>A0m (cs.set k v) (k+1) r
def flat:Value→Bool
 | .agg _|.tuple _=>false
 | .complex .f32 i _=>Nat.beq i 1
 | _=>true
def A5J(m:Mem)(a:Addr)(vs:List Value):Option Mem :=
 match a.spot,Hp.get m.H a.block with
 | none,some (.cells cs T false) =>
   bif Nat.ble (a.off+vs.length) cs.length && vs.all flat then R8 (A0m cs a.off vs) fun cs=>A1Z m a.block (.cells cs T false)else none
 | _,_=>none
variable (P:Program)
def y0(t:TypeId):Option Bool :=
 match P.underlying t with
 | some (.struct _)|some (.array _ _)=>some true
 | some _=>some false
 | none=>none
def F7(t:TypeId):Option Nat :=
 match P.info? t with
 | some i=>some i.size
 | none=>none
def A12(t:TypeId):Option Value :=
 match P.info? t with
 | some i=>match i.zero with
   | some v=>bif B6O v then some v else none
   | none=>none
 | none=>none
def B6c(m:Mem)(t:TypeId)(a:Addr):Option Value :=
 match y0 P t with
 | some true=>match F7 P t with
   | some n=>match u7 m a n with
     | some cs=>some (.agg ⟨cs⟩)
     | none=>none
   | none=>none
 | some false=>match u7 m a 1 with
   | some (v::_)=>some v
   | _=>none
 | none=>none
def A8l(m:Mem)(t:TypeId)(a:Addr)(v:Value):Option Mem :=
 match F7 P t with
 | some n=>bif Nat.beq v.cells.size n && !(A3D v)then A5J m a v.cells.toList else none
 | none=>none
def A6A(t:TypeId)(cs:List Value)(off:Nat):Option Value :=
 match y0 P t with
 | some true=>match F7 P t with
   | some n=>match A7E cs off n with
     | some r=>some (.agg ⟨r⟩)
     | none=>none
   | none=>none
 | some false=>cs[off]?
 | none=>none
def C3k(e:TypeId)(s i:Nat):Field:={ name := "x",type:=e,offset:=i*s,embedded:=false,tag := "",pkgPath := "",byteOffset:=0 }
mutual
def eqM:Nat→TypeId→Value→Value→Option Bool
 | 0,_,_,_=>none
 | d+1,t,x,y=>match P.underlying t,x,y with
   | some .bool,.bool a,.bool b=>some (a == b)
   | some (.int _),.int k a,.int j b=>bif decide (k=j)then some (a == b)else none
   | some .string,.string a,.string b=>some (a.data.toList == b.data.toList)
   | some (.pointer _),.pointer none,.pointer b=>some b.isNone
   | some (.pointer _),.pointer (some _),.pointer none=>some false
   | some (.interface _),.nilIface,.nilIface=>some true
   | some (.interface _),.nilIface,.iface _ _=>some false
   | some (.interface _),.iface _ _,.nilIface=>some false
   | some (.interface _),.iface tx vx,.iface ty vy=>bif Nat.beq tx ty then(match P.info? tx with
     | some i=>bif i.comparable then eqM d tx vx vy else none
     | none=>none)else some false
   | some (.slice _),.slice none _ _,.slice b _ _=>some b.isNone
   | some (.slice _),.slice (some _) _ _,.slice none _ _=>some false
   | some (.map _ _),.map none,.map b=>some b.isNone
   | some (.func _ _ _),.nilFunc,.nilFunc=>some true
   | some (.func _ _ _),.nilFunc,.func (.func _) _ _=>some false
   | some (.func _ _ _),.func (.func _) _ _,.nilFunc=>some false
   | some (.struct fs),.agg xs,.agg ys=>bif P.stoodInHeld t then none else eqF d fs.toList xs.toList ys.toList
   | some (.array n e),.agg xs,.agg ys=>match F7 P e with
     | some s=>eqF d ((List.range n).map (C3k e s)) xs.toList ys.toList
     | none=>none
   | _,_,_=>none
def eqF:Nat→List Field→List Value→List Value→Option Bool
 | 0,_,_,_=>none
 | _+1,[],_,_=>some true
 | d+1,f::fs,xs,ys =>
   bif f.name == "_" then none else
   match A6A P f.type xs f.offset,A6A P f.type ys f.offset with
   | some x,some y=>match eqM d f.type x y with
     | some true=>eqF d fs xs ys
     | some false=>some false
     | none=>none
   | _,_=>none
end
def isC:Operand→Bool
 | .const _=>true
 | _=>false
def A4F(t:TypeId)(x y:Operand)(a b:Value):Bool :=
 match a,b with
 | .nilIface,.nilIface=>isC x || isC y
 | .agg _,.agg _=>!P.eqGuardType P.depth t
 | a,b=>!(B94 a) && !(B94 b)
def A9y(op:BinOp)(k:IntKind)(x y:Int):Option Value :=
 match op with
 | .and=>some (.int k (k.wrap (BitVec.ofInt k.bits x &&& BitVec.ofInt k.bits y).toNat))
 | .or=>some (.int k (k.wrap (BitVec.ofInt k.bits x ||| BitVec.ofInt k.bits y).toNat))
 | .xor=>some (.int k (k.wrap (BitVec.ofInt k.bits x ^^^ BitVec.ofInt k.bits y).toNat))
 | .andNot=>some (.int k (k.wrap (BitVec.ofInt k.bits x &&& ~~~BitVec.ofInt k.bits y).toNat))
 | _=>none
def ltL:List UInt8→List UInt8→Bool
 | _,[]=>false
 | [],_::_=>true
 | a::x,b::y=>a<b || (a == b && ltL x y)
def A46(op:BinOp)(k:IntKind)(a b:Int):Option Value :=
 match op with
 | .add=>some (mkI k (B0V k (D0J a b)))
 | .sub=>some (mkI k (B0V k (C6x a b)))
 | .mul=>some (mkI k (B0V k (C9B a b)))
 | .quo=>bif B0Q b 0 then none else some (mkI k (k.wrap (a.tdiv b)))
 | .rem=>bif B0Q b 0 then none else some (mkI k (a.tmod b))
 | .eql=>some (.bool (B0Q a b))
 | .neq=>some (.bool (!(B0Q a b)))
 | .lss=>some (.bool (ltF a b))
 | .leq=>some (.bool (leF a b))
 | .gtr=>some (.bool (ltF b a))
 | .geq=>some (.bool (leF b a))
 | op=>A9y op k a b
def B1w(left:Bool)(k:IntKind)(a:Int)(b:Nat):Value :=
 bif left then mkI k (k.wrap (a*2 ^ (min b k.bits)))else mkI k (a.fdiv (2 ^ (min b k.bits)))
def B8j(op:BinOp)(a b:ByteArray):Option Value :=
 match op with
 | .add=>bif Nat.ble (a.size+b.size) 1000000000 then R8 (a.data.toList++b.data.toList) fun l=>some (.string ⟨⟨l⟩⟩)else none
 | .eql=>some (.bool (a.data.toList == b.data.toList))
 | .neq=>some (.bool (!(a.data.toList == b.data.toList)))
 | .lss=>some (.bool (ltL a.data.toList b.data.toList))
 | .leq=>some (.bool (ltL a.data.toList b.data.toList || (a.data.toList == b.data.toList)))
 | .gtr=>some (.bool (!(ltL a.data.toList b.data.toList || (a.data.toList == b.data.toList))))
 | .geq=>some (.bool (!(ltL a.data.toList b.data.toList)))
 | _=>none
def B0p(op:BinOp)(t:TypeId)(x y:Value):Option Value :=
 match op with
 | .eql=>match eqM P 20 t x y with
   | some b=>some (.bool b)
   | none=>none
 | .neq=>match eqM P 20 t x y with
   | some b=>some (.bool (!b))
   | none=>none
 | _=>none
def A3E:BinOp→Option Bool
 | .shl=>some true
 | .shr=>some false
 | _=>none
def A0O(op:BinOp)(k j:IntKind)(a b:Int):Option Value :=
 match A3E op with
 | some l=>match b with
   | .ofNat n=>some (B1w l k a n)
   | .negSucc _=>none
 | none=>bif A8z k j then A46 op k a b else none
def A6b(op:BinOp)(t:TypeId)(x y:Value):Option Value :=
 match x,y with
 | .int k a,.int j b=>A0O op k j a b
 | .string a,.string b=>B8j op a b
 | x,y=>B0p P op t x y
def unM(op:UnOp)(x:Value):Option Value :=
 match op,x with
 | .neg,.int k n=>some (mkI k (k.wrap (0-n)))
 | .xor,.int k n=>A9y .xor k (if k.signed then -1 else k.max) n
 | .not,.bool b=>some (.bool !b)
 | _,_=>none
def bytesOf:List Value→Option (List UInt8)
 | []=>some []
 | .int .u8 n::r=>match bytesOf r with
   | some l=>some (UInt8.ofNat n.toNat::l)
   | none=>none
 | _::_=>none
def P9(l:List UInt8):List Value:=l.map fun b=>.int .u8 b.toNat
def B1U(m:Mem)(s t:TypeId)(x:Value):Res :=
 match P.underlying s,P.underlying t,x with
 | some _,some (.int k),.int _ n=>some (mkI k (B0V k n),m)
 | some _,some .string,.string b=>some (.string b,m)
 | some _,some .string,.int _ n=>some (.string (Utf8.encode n),m)
 | some _,some (.slice e),.string b=>match P.underlying e with
   | some (.int .u8)=>match F7 P e with
     | some 1=>R8 (P9 b.data.toList) fun cs=>e9 m (.cells cs e false) fun i=>.slice (some ⟨i,0,none⟩) b.size M0
     | _=>none
   | _=>none
 | some (.slice e),some .string,.slice none _ _=>match P.underlying e with
   | some (.int .u8)=>some (.string ByteArray.empty,m)
   | _=>none
 | some (.slice e),some .string,.slice (some a) n _=>match P.underlying e with
   | some (.int .u8)=>match u7 m a n with
     | some cs=>match bytesOf cs with
       | some l=>some (.string ⟨⟨l⟩⟩,m)
       | none=>none
     | none=>none
   | _=>none
 | _,_,_=>none
def A9X(place:Nat→Option (Nat×Nat))(cells:List Value):List (Nat×Value)→Option (List Value)
 | []=>some cells
 | (i,v)::rest=>match place i with
   | none=>none
   | some (off,size) =>
     bif (Nat.beq v.cells.size size && !(A3D v)) && Nat.ble (off+v.cells.size) cells.length then R8 (A0m cells off v.cells.toList) fun cs=>A9X place cs rest else none
def A5_:List Field→Option (List (Nat×Nat))
 | []=>some []
 | f::r=>match F7 P f.type,A5_ r with
   | some n,some l=>some ((f.offset,n)::l)
   | _,_=>none
def B3V(z:List Value):Nat→List Value
 | 0=>[]
 | n+1=>z++B3V z n
def B1m(e:TypeId)(n:Nat):Option (List Value) :=
 match F7 P e with
 | some s=>bif Nat.beq (n*s) 0 then some []else match A12 P e with
   | some z=>bif Nat.beq z.cells.size s then some (B3V z.cells.toList n)else none
   | none=>none
 | none=>none
def B5p(t:TypeId)(parts:List (Nat×Value)):Option Value :=
 match A12 P t,P.underlying t with
 | some z,some (.struct fs)=>match A5_ P fs.toList with
   | some ps=>match A9X (ps[·]?) z.cells.toList parts with
     | some cs=>some (.agg ⟨cs⟩)
     | none=>none
   | none=>none
 | some z,some (.array _ e)=>match F7 P e with
   | some s=>match A9X (fun i=>some (i*s,s)) z.cells.toList parts with
     | some cs=>some (.agg ⟨cs⟩)
     | none=>none
   | none=>none
 | _,_=>none
def A0s(m:Mem)(t:TypeId)(n:Nat)(parts:List (Nat×Value)):Res :=
 match P.underlying t with
 | some (.slice e)=>match F7 P e,B1m P e n with
   | some s,some zs=>bif Nat.ble (n*s) 16777216 && Nat.blt n M0 then match A9X (fun i=>some (i*s,s)) zs parts with
     | some cs=>e9 m (.cells cs e false) fun i=>.slice (some ⟨i,0,none⟩) n n
     | none=>none else none
   | _,_=>none
 | _=>none
def A1j(m:Mem)(t:TypeId)(l c:Value):Res :=
 match P.underlying t,l,c with
 | some (.slice e),.int _ (.ofNat l),.int _ (.ofNat c)=>match P.info? e with
   | some i=>bif Nat.ble l c && Nat.ble c 10000000 && Nat.ble (c*i.bytes) 100000000 then match B1m P e c with
     | some zs=>R8 zs fun zs=>e9 m (.cells zs e false) fun k=>.slice (some ⟨k,0,none⟩) l c
     | none=>none else none
   | none=>none
 | _,_,_=>none
def A0R(a:Addr)(n:Nat):Addr:=J3 (a.off+n) fun o=>⟨a.block,o,none⟩
def A0q(s:TypeId)(x:Value)(i:Nat):Option Value :=
 match P.underlying s,x with
 | some (.struct fs),.pointer (some a)=>match fs.toList[i]?,a.spot with
   | some f,none=>match F7 P f.type with
     | some (_+1)=>some (.pointer (some (A0R a f.offset)))
     | _=>none
   | _,_=>none
 | _,_=>none
def B2Y(t:TypeId)(x:Value)(i:Nat):Option Value :=
 match P.underlying t,x with
 | some (.struct fs),.agg cs=>match fs.toList[i]? with
   | some f=>A6A P f.type cs.toList f.offset
   | none=>none
 | _,_=>none
def Y2(t:TypeId)(x i:Value):Option Value :=
 match P.underlying t,x,i with
 | some (.array n e),.pointer (some a),.int _ (.ofNat k)=>match F7 P e,a.spot with
   | some s,none=>bif Nat.blt k n then some (.pointer (some (A0R a (k*s))))else none
   | _,_=>none
 | some (.slice e),.slice (some a) n _,.int _ (.ofNat k)=>match F7 P e,a.spot with
   | some s,none=>bif Nat.blt k n then some (.pointer (some (A0R a (k*s))))else none
   | _,_=>none
 | _,_,_=>none
def A4D(t:TypeId)(x i:Value):Option Value :=
 match P.underlying t,x,i with
 | some (.array n e),.agg cs,.int _ (.ofNat k)=>match F7 P e with
   | some s=>bif Nat.blt k n then A6A P e cs.toList (k*s)else none
   | none=>none
 | some .string,.string s,.int _ (.ofNat k)=>match s.data.toList[k]? with
   | some b=>some (.int .u8 b.toNat)
   | none=>none
 | _,_,_=>none
def U6(v:Option Value)(G2 dflt:Nat):Option Nat :=
 match v with
 | none=>some dflt
 | some (.int _ (.ofNat k))=>bif Nat.ble k G2 then some k else none
 | some _=>none
def A0x(t:TypeId)(x:Value)(lo hi mx:Option Value):Option Value :=
 match P.underlying t,x with
 | some .string,.string s =>
   match mx,U6 hi s.size s.size with
   | none,some h=>match U6 lo h 0 with
     | some l=>some (.string ⟨⟨(s.data.toList.drop l).take (h-l)⟩⟩)
     | none=>none
   | _,_=>none
 | some (.slice e),.slice none n c =>
   match n,c,U6 mx 0 0,U6 hi 0 0,U6 lo 0 0 with
   | 0,0,some _,some _,some _=>bif (mx.isSome && hi.isNone) || (F7 P e).isNone then none else some (.slice none 0 0)
   | _,_,_,_,_=>none
 | some (.slice e),.slice (some a) n c =>
   match F7 P e,a.spot with
   | some s,none =>
     bif Nat.blt c M0 then
      match U6 mx c c with
      | some m=>match (match hi,mx with|none,some _=>none|hi,_=>U6 hi m n)with
        | some h=>match U6 lo h 0 with
          | some l=>some (.slice (some (bif Nat.beq m l then a else A0R a (l*s))) (h-l) (m-l))
          | none=>none
        | none=>none
      | none=>none
     else
      match mx with
      | some _=>match hi,U6 mx n n with
        | some _,some m=>bif Nat.blt m M0 && Nat.ble c (M0+1)then match U6 hi m n with
          | some h=>match U6 lo h 0 with
            | some l=>some (.slice (some (bif Nat.beq m l then a else A0R a (l*s))) (h-l) (m-l))
            | none=>none
          | none=>none else none
        | _,_=>none
      | none=>match U6 hi n n with
        | some h=>match U6 lo h 0 with
          | some 0=>some (.slice (some a) h c)
          | some (l+1)=>let l:=l+1
            bif Nat.blt l n then some (.slice (some (A0R a (l*s))) (h-l) (M0+1))else some (.slice (some a) 0 (M0+2))
          | none=>none
        | none=>none
   | _,_=>none
 | some (.array n e),.pointer (some a) =>
   match F7 P e,a.spot,mx with
   | some s,none,none=>match U6 hi n n with
     | some h=>match U6 lo h 0 with
       | some l=>bif Nat.blt n M0 then some (.slice (some (bif Nat.beq n l then a else A0R a (l*s))) (h-l) (n-l))else none
       | none=>none
     | none=>none
   | _,_,_=>none
 | _,_=>none
def A1i(m:Mem)(s:Nat)(y:Value):Option (Nat×List Value) :=
 match y with
 | .slice none n _=>bif Nat.beq n 0 then some (0,[])else none
 | .slice (some a) n _=>match u7 m a (n*s)with
   | some cs=>some (n,cs)
   | none=>none
 | .string b=>bif Nat.beq s 1 then some (b.size,P9 b.data.toList)else none
 | _=>none
def A01:TypeDesc→Bool
 | .slice _|.string=>true
 | _=>false
def A6d(m:Mem)(t t2:TypeId)(x y:Value):Res :=
 match P.underlying t,P.underlying t2 with
 | some (.slice e),some d2 =>
   bif !(A01 d2)then none else
   match P.info? e,x with
   | some i,.slice a n c=>match A1i m i.size y,A12 P e with
     | some (k,new),some z =>
       bif Nat.ble ((3*(n+k)+4000)*i.bytes) 281474976710656 && Nat.ble (n+k) 1000000000 && Nat.beq z.cells.size i.size && new.all flat then
       bif Nat.beq k 0 then(match a with|none=>bif Nat.beq n 0 && Nat.beq c 0 then some (x,m)else none|some _=>bif Nat.ble c (M0+1) && Nat.ble n c then some (x,m)else none)else
       match a with
       | none=>bif Nat.beq n 0 && Nat.beq c 0 then R8 new fun cs=>e9 m (.cells cs e false) fun b=>.slice (some ⟨b,0,none⟩) k M0 else none
       | some ad =>
         bif Nat.blt c M0 then
          bif Nat.ble (n+k) c then
           match ad.spot,A5J m (A0R ad (n*i.size)) new with
           | none,some m'=>some (.slice a (n+k) c,m')
           | _,_=>none
          else match u7 m ad (n*i.size)with
           | some old=>R8 (old++new) fun cs=>e9 m (.cells cs e false) fun b=>.slice (some ⟨b,0,none⟩) (n+k) M0
           | none=>none
         else bif Nat.beq c M0 && Nat.beq ad.off 0 then
          match ad.spot,Hp.get m.H ad.block with
          | none,some (.cells cs T false) =>
            bif Nat.beq cs.length (n*i.size) && Nat.beq T e && Nat.ble ad.block G2 && Nat.blt ad.block m.n then
             R8 (cs++new) fun cs=>e9 (A3X m ad.block) (.cells cs e false) fun b=>.slice (some ⟨b,0,none⟩) (n+k) M0
            else none
          | _,_=>none
         else none
       else none
     | _,_=>none
   | _,_=>none
 | _,_=>none
def B4U(m:Mem)(t:TypeId)(x y:Value):Res :=
 match P.underlying t,x with
 | some (.slice e),.slice a n c=>match F7 P e with
   | some s =>
     match (match y with
      | .slice none k _=>bif Nat.beq k 0 then some (0,[])else none
      | .slice (some b) k _=>match u7 m b (Nat.min k n*s)with
        | some cs=>some (Nat.min k n,cs)
        | none=>none
      | .string b=>some (Nat.min b.size n,P9 (b.data.toList.take (Nat.min b.size n)))
      | _=>none:Option (Nat×List Value))with
     | some (k,cs)=>match a with
       | none=>bif Nat.beq k 0 then some (.int .i64 0,m)else none
       | some ad=>bif Nat.beq cs.length 0 then some (.int .i64 k,m)else bif Nat.ble c (M0+1)then match A5J m ad cs with
         | some m'=>some (.int .i64 k,m')
         | none=>none else none
     | none=>none
   | none=>none
 | _,_=>none
def B9n(m:Mem)(t:TypeId)(x:Value):Option Value :=
 match P.underlying t,x with
 | some .string,.string s=>some (.int .i64 s.data.toList.length)
 | some (.array n _),_=>some (.int .i64 n)
 | some (.slice _),.slice _ n _=>some (.int .i64 n)
 | some (.map _ _),.map none=>some (.int .i64 0)
 | _,_=>none
def C76(t:TypeId)(x:Value):Option Value :=
 match P.underlying t,x with
 | some (.slice _),.slice none _ c=>some (.int .i64 c)
 | some (.slice _),.slice (some a) n c=>bif Nat.blt c M0 then some (.int .i64 c)else none
 | _,_=>none
def C7N:List Value→Option Value
 | [.int k a,.int _ b]=>some (.int k (if b>a then b else a))
 | [.int k a,.int _ b,.int _ c]=>A9R (if b>a then b else a) fun d=>some (.int k (if c>d then c else d))
 | _=>none
def C7M:List Value→Option Value
 | [.int k a,.int _ b]=>some (.int k (if b<a then b else a))
 | [.int k a,.int _ b,.int _ c]=>A9R (if b<a then b else a) fun d=>some (.int k (if c<d then c else d))
 | _=>none
def noM(v:Option Value)(m:Mem):Res :=
 match v with
 | some v=>some (v,m)
 | none=>none
def B5P(m:Option Mem):Res :=
 match m with
 | some m=>some (undef,m)
 | none=>none
def B6T(m:Mem)(c a b:Value):Res :=
 match c with
 | .bool true=>some (a,m)
 | .bool false=>some (b,m)
 | _=>none
def B2D(m:Mem)(e:TypeId):Res :=
 match A12 P e with
 | some z=>e9 m (.cells z.cells.toList e false) fun b=>.pointer (some ⟨b,0,none⟩)
 | none=>none
def B9Z(m:Mem)(e:TypeId)(v:Value):Res :=
 bif v.cells.toList.all flat then e9 m (.cells v.cells.toList e false) fun b=>.pointer (some ⟨b,0,none⟩)else none
def B6U(m:Mem)(t:TypeId)(v:Value):Res :=
 match v with
 | .pointer (some a)=>noM (B6c P m t a) m
 | _=>none
def B2B(m:Mem)(t:TypeId)(x v:Value):Res :=
 match x with
 | .pointer (some a)=>B5P (A8l P m t a v)
 | _=>none
def B9Y(m:Mem)(x:Value):Res :=
 match x with
 | .pointer (some a)=>some (.pointer (some a),m)
 | .func (.func f) a b=>some (.func (.func f) a b,m)
 | _=>none
def A9N:BinOp→Bool
 | .eql|.neq=>true
 | _=>false
def C2h(m:Mem)(op:BinOp)(t:TypeId)(x y:Operand)(a b:Value):Res :=
 bif A9N op then(bif A4F P t x y a b then noM (A6b P op t a b) m else none)else noM (A6b P op t a b) m
def B2C(m:Mem)(t:TypeId)(v:Value):Res :=
 match P.underlying t with
 | some d=>(match d with|.interface _=>none|_=>bif flat v || (match v with|.agg _=>true|_=>false)then some (.iface t v,m)else none)
 | none=>none
def A32(m:Mem)(v:Value)(i:Nat):Res :=
 match v with
 | .tuple vs=>noM vs.toList[i]? m
 | _=>none
def A23(m:Mem)(x:Value):Res :=
 match x with
 | .slice none _ _=>some (.pointer none,m)
 | .slice (some a) n c=>bif Nat.beq n 0 || Nat.beq c 0 || Nat.beq c (M0+2)then none else some (.pointer (some a),m)
 | _=>none
def A1T(m:Mem)(pt:TypeId)(p l:Value):Res :=
 match p,l with
 | .pointer none,.int _ (.ofNat 0)=>some (.string ByteArray.empty,m)
 | .pointer (some a),.int _ (.ofNat n) =>
   match a.spot,Hp.get m.H a.block with
   | none,some (.cells cs T false)=>match P.underlying pt,F7 P T with
     | some (.pointer e),some 1=>bif Nat.blt 0 n && Nat.ble n 1000000000 && Nat.beq e T then match A7E cs a.off n with
       | some l=>match bytesOf l,A1Z m a.block (.cells cs T true)with
         | some l,some m'=>some (.string ⟨⟨l⟩⟩,m')
         | _,_=>none
       | none=>none else none
     | _,_=>none
   | _,_=>none
 | _,_=>none
def A2v(m:Mem)(b:Builtin)(vs:List Value)(tys:List TypeId):Res :=
 match b,vs,tys with
 | .len,[x],t::_=>noM (B9n P m t x) m
 | .cap,[x],t::_=>noM (C76 P t x) m
 | .append,[x,y],t::t2::_=>A6d P m t t2 x y
 | .copy,[x,y],t::_=>B4U P m t x y
 | .max,vs,_=>noM (C7N vs) m
 | .min,vs,_=>noM (C7M vs) m
 | .unsafeSliceData,[x],_=>A23 m x
 | .unsafeString,[p,l],t::_=>A1T P m t p l
 | _,_,_=>none
def opM(fr:Fr)(m:Mem)(o:Op):Res :=
 match o with
 | .move x|.assign x=>some (ev fr x,m)
 | .pick c a b=>B6T m (ev fr c) (ev fr a) (ev fr b)
 | .alloc e=>B2D P m e
 | .box e x=>B9Z m e (ev fr x)
 | .build t ps=>noM (B5p P t (evP fr ps.toList)) m
 | .buildSlice t n ps=>A0s P m t n (evP fr ps.toList)
 | .load t x=>B6U P m t (ev fr x)
 | .store t x y=>B2B P m t (ev fr x) (ev fr y)
 | .nilCheck x=>B9Y m (ev fr x)
 | .binOp op t x y _=>C2h P m op t x y (ev fr x) (ev fr y)
 | .unOp op _ x=>noM (unM op (ev fr x)) m
 | .convert s t x=>B1U P m s t (ev fr x)
 | .makeInterface t x=>B2C P m t (ev fr x)
 | .makeFunc (.func f) first cap=>some (.func (.func f) ⟨evL fr first.toList⟩ ⟨evL fr cap.toList⟩,m)
 | .makeSlice t l c=>A1j P m t (ev fr l) (ev fr c)
 | .slice t x lo hi mx=>noM (A0x P t (ev fr x) (evO fr lo) (evO fr hi) (evO fr mx)) m
 | .fieldAddr s x i=>noM (A0q P s (ev fr x) i) m
 | .field t x i=>noM (B2Y P t (ev fr x) i) m
 | .indexAddr t x i=>noM (Y2 P t (ev fr x) (ev fr i)) m
 | .index t x i=>noM (A4D P t (ev fr x) (ev fr i)) m
 | .extract x i=>A32 m (ev fr x) i
 | .call ⟨.builtin b,xs,tys⟩=>A2v P m b (evL fr xs.toList) tys.toList
 | _=>none
structure OpC where
 run:Fr→Mem→Res
def B9x(x:XC)(fr:Fr)(m:Mem):Res:=some (x.run fr,m)
def C49(c a b:XC)(fr:Fr)(m:Mem):Res:=B6T m (c.run fr) (a.run fr) (b.run fr)
def C9W(e:TypeId)(x:XC)(fr:Fr)(m:Mem):Res:=B9Z m e (x.run fr)
def C4_(t:TypeId)(x:XC)(fr:Fr)(m:Mem):Res:=B6U P m t (x.run fr)
def B9w(t:TypeId)(x y:XC)(fr:Fr)(m:Mem):Res:=B2B P m t (x.run fr) (y.run fr)
def C9U(x:XC)(fr:Fr)(m:Mem):Res:=B9Y m (x.run fr)
def C9X(op:BinOp)(t:TypeId)(x y:Operand)(cx cy:XC)(fr:Fr)(m:Mem):Res:=C2h P m op t x y (cx.run fr) (cy.run fr)
def kUn(op:UnOp)(x:XC)(fr:Fr)(m:Mem):Res:=noM (unM op (x.run fr)) m
def C5A(s t:TypeId)(x:XC)(fr:Fr)(m:Mem):Res:=B1U P m s t (x.run fr)
def A9I(s:TypeId)(x:XC)(i:Nat)(fr:Fr)(m:Mem):Res:=noM (A0q P s (x.run fr) i) m
def B9z(s:TypeId)(x:XC)(i:Nat)(fr:Fr)(m:Mem):Res:=noM (B2Y P s (x.run fr) i) m
def A9H(t:TypeId)(x i:XC)(fr:Fr)(m:Mem):Res:=noM (Y2 P t (x.run fr) (i.run fr)) m
def B9y(t:TypeId)(x i:XC)(fr:Fr)(m:Mem):Res:=noM (A4D P t (x.run fr) (i.run fr)) m
def B35(x:XC)(i:Nat)(fr:Fr)(m:Mem):Res:=A32 m (x.run fr) i
def B36(b:Builtin)(xs:LC)(tys:List TypeId)(fr:Fr)(m:Mem):Res:=A2v P m b (xs.run fr) tys
def A9o(o:Op):OpC :=
 match o with
 | .move x=>⟨B9x (S7 x)⟩
 | .assign x=>⟨B9x (S7 x)⟩
 | .pick c a b=>⟨C49 (S7 c) (S7 a) (S7 b)⟩
 | .box e x=>⟨C9W e (S7 x)⟩
 | .load t x=>⟨C4_ P t (S7 x)⟩
 | .store t x y=>⟨B9w P t (S7 x) (S7 y)⟩
 | .nilCheck x=>⟨C9U (S7 x)⟩
 | .binOp op t x y _=>⟨C9X P op t x y (S7 x) (S7 y)⟩
 | .unOp op _ x=>⟨kUn op (S7 x)⟩
 | .convert s t x=>⟨C5A P s t (S7 x)⟩
 | .fieldAddr s x i=>⟨A9I P s (S7 x) i⟩
 | .field t x i=>⟨B9z P t (S7 x) i⟩
 | .indexAddr t x i=>⟨A9H P t (S7 x) (S7 i)⟩
 | .index t x i=>⟨B9y P t (S7 x) (S7 i)⟩
 | .extract x i=>⟨B35 (S7 x) i⟩
 | .call ⟨.builtin b,xs,tys⟩=>⟨B36 P b (A7p xs.toList) tys.toList⟩
 | o=>⟨fun fr m=>opM P fr m o⟩
theorem A9n(o:Op)(fr:Fr)(m:Mem):(A9o P o).run fr m=opM P fr m o:=by
 unfold A9o;split<;>simp only[B9x,C49,C9W,C4_,B9w,C9U,C9X,kUn,C5A,A9I,B9z,A9H,B9y,B35,B36,opM,A1Q,A42]
def B5K(nt gl:Nat)(o:Op):Bool:=o.operands.toList.all (okX nt gl)
end Go.Sx
namespace Go.Sx
set_option linter.all false
set_option linter.unusedVariables false
open Go
def C9c:BinOp→Bool
 | .eql|.neq|.lss|.leq|.gtr|.geq=>true
 | _=>false
def A5L(P:Program)(m:Mem)(op:BinOp)(t:TypeId)(a b:Value):Res :=
 let ta:=F4 a
 let tb:=F4 b
 bif (Nat.blt ta 8 && Nat.blt tb 8) || (Nat.beq ta 9 && Nat.beq tb 9)then W6 m (bif C9c op then 8 else ta) (.bin op) [a,b]else
 bif Nat.beq ta 8 && Nat.beq tb 8 && A9N op && (match P.underlying t with|some .bool=>true|_=>false)then W6 m 8 (.bin op) [a,b]else none
def A1n(P:Program)(t:TypeId)(x y:Value):Bool :=
 match P.underlying t with
 | some .bool=>Nat.beq (F4 x) 8 && Nat.beq (F4 y) 8
 | some (.int k)=>Nat.beq (F4 x) (A2m k) && Nat.beq (F4 y) (A2m k)
 | some .string=>Nat.beq (F4 x) 9 && Nat.beq (F4 y) 9
 | _=>false
mutual
def eqS(P:Program):Nat→TypeId→Value→Value→Option (List Value)
 | 0,_,_,_=>none
 | d+1,t,x,y=>bif A1n P t x y then some [x,y]else
   match P.underlying t,x,y with
   | some (.struct fs),.agg xs,.agg ys=>bif P.stoodInHeld t then none else A9d P d fs.toList xs.toList ys.toList
   | some (.array n e),.agg xs,.agg ys=>match F7 P e with
     | some s=>A9d P d ((List.range n).map (C3k e s)) xs.toList ys.toList
     | none=>none
   | _,_,_=>none
def A9d(P:Program):Nat→List Field→List Value→List Value→Option (List Value)
 | 0,_,_,_=>none
 | _+1,[],_,_=>some []
 | d+1,f::fs,xs,ys =>
   bif f.name == "_" then none else
   match A6A P f.type xs f.offset,A6A P f.type ys f.offset with
   | some x,some y=>match eqS P d f.type x y,A9d P d fs xs ys with
     | some a,some b=>some (a++b)
     | _,_=>none
   | _,_=>none
end
def B3J(P:Program)(m:Mem)(op:BinOp)(t:TypeId)(x y:Operand)(a b:Value):Res :=
 bif A4F P t x y a b then
  match op,eqS P 20 t a b with
  | .eql,some l=>W6 m 8 .eqs l
  | .neq,some l=>match W6 m 8 .eqs l with
    | some (h,m)=>W6 m 8 (.un .not) [h]
    | none=>none
  | _,_=>none
 else none
def o7(t:Nat):List Value→Bool
 | []=>true
 | v::r=>Nat.beq (F4 v) t && o7 t r
def n8.sizeD(P:Program)(e:TypeId):Nat:=match F7 P e with|some n=>n|none=>0
def n8(P:Program)(m:Mem)(t:TypeId)(x i:Value):Res :=
 bif !(Nat.blt (F4 i) 8)then none else
 match P.underlying t with
 | some .string=>bif Nat.beq (F4 x) 9 then W6 m 4 .idx [x,i]else none
 | some (.array n e)=>match x,P.underlying e with
   | .agg cs,some (.int k)=>bif Nat.beq (cs.toList.length) n && o7 (A2m k) cs.toList && Nat.beq (n8.sizeD P e) 1 then W6 m (A2m k) .sel (i::cs.toList)else none
   | .agg cs,some .string=>bif Nat.beq (cs.toList.length) n && o7 9 cs.toList && Nat.beq (n8.sizeD P e) 1 then W6 m 9 .sel (i::cs.toList)else none
   | _,_=>none
 | _=>none
def A3q(P:Program)(m:Mem)(t:TypeId)(x:Value)(lo hi mx:Option Value):Res :=
 match P.underlying t,mx with
 | some .string,none=>bif Nat.beq (F4 x) 9 then
    match lo,hi with
    | none,none=>some (x,m)
    | some l,none=>bif Nat.blt (F4 l) 8 then W6 m 9 .sub1 [x,l]else none
    | none,some h=>bif Nat.blt (F4 h) 8 then W6 m 9 .sub [x,.int .i64 0,h]else none
    | some l,some h=>bif Nat.blt (F4 l) 8 && Nat.blt (F4 h) 8 then W6 m 9 .sub [x,l,h]else none
   else none
 | _,_=>none
def B3E(m:Mem)(op:UnOp)(x:Value):Res :=
 let t:=F4 x
 match op with
 | .not=>bif Nat.beq t 8 then W6 m 8 (.un .not) [x]else none
 | op=>bif Nat.blt t 8 then W6 m t (.un op) [x]else none
def A5v(P:Program)(m:Mem)(s t:TypeId)(x:Value):Res :=
 match P.underlying s,P.underlying t with
 | some (.int _),some (.int k)=>bif Nat.blt (F4 x) 8 then W6 m (A2m k) (.conv k) [x]else none
 | some .string,some .string=>bif Nat.beq (F4 x) 9 then some (x,m)else none
 | _,_=>none
def A1X(P:Program)(m:Mem)(b:Builtin)(vs:List Value)(tys:List TypeId):Res :=
 match b,vs,tys with
 | .len,[x],t::_=>match P.underlying t with
   | some .string=>bif Nat.beq (F4 x) 9 then W6 m 3 .len [x]else none
   | _=>none
 | .max,[x,y],_=>bif Nat.blt (F4 x) 8 && Nat.beq (F4 x) (F4 y)then W6 m (F4 x) .max [x,y]else none
 | .min,[x,y],_=>bif Nat.blt (F4 x) 8 && Nat.beq (F4 x) (F4 y)then W6 m (F4 x) .min [x,y]else none
 | _,_,_=>none
def B71(m:Mem)(a:Addr)(s n:Nat)(i:Value):Res :=
 bif !(Nat.blt (F4 i) 8)then none else
 match W6 m 8 .inb [i,.int .i64 (.ofNat n)]with
 | some (b,⟨H,k,W,hi,lg⟩)=>match brL lg b with
   | some (true,lg)=>some (ixp a s i n,⟨H,k,W,hi,lg⟩)
   | _=>none
 | none=>none
def A1V(P:Program)(m:Mem)(t:TypeId)(x i:Value):Res :=
 match P.underlying t,x with
 | some (.array n e),.pointer (some a)=>match F7 P e,a.spot with
   | some s,none=>B71 m a s n i
   | _,_=>none
 | some (.slice e),.slice (some a) n c=>match F7 P e,a.spot with
   | some s,none=>bif Nat.beq c (M0+2)then none else B71 m a s n i
   | _,_=>none
 | _,_=>none
def A1W(P:Program)(m:Mem)(s:TypeId)(x:Value)(i:Nat):Res :=
 match x with
 | .func (.yield 1) ⟨[.pointer (some a),.int .i64 (.ofNat k),j,.int .i64 (.ofNat n)]⟩ ⟨[]⟩=>match P.underlying s with
   | some (.struct fs)=>match fs.toList[i]?,a.spot with
     | some f,none=>match F7 P f.type with
       | some (_+1)=>some (ixp (A0R a f.offset) k j n,m)
       | _=>none
     | _,_=>none
   | _=>none
 | _=>none
def A8E(cs:List Value)(s o:Nat):Nat→Option (List Value)
 | 0=>some []
 | n+1=>match cs[o]?,A8E cs s (o+s) n with
   | some v,some r=>some (v::r)
   | _,_=>none
def A0l(m:Mem)(cs:List Value)(s n:Nat)(i:Value):Nat→Nat→Option (List Value×Mem)
 | _,0=>some ([],m)
 | o,k+1=>match A8E cs s o n with
   | some (v::l)=>bif o7 (F4 v) (v::l) && Nat.blt (F4 v) 10 then match W6 m (F4 v) .sel (i::v::l)with
     | some (h,m)=>match A0l m cs s n i (o+1) k with
       | some (r,m)=>some (h::r,m)
       | none=>none
     | none=>none else none
   | _=>none
def A5u(P:Program)(m:Mem)(t:TypeId)(x:Value):Res :=
 match x with
 | .func (.yield 1) ⟨[.pointer (some a),.int .i64 (.ofNat s),i,.int .i64 (.ofNat n)]⟩ ⟨[]⟩ =>
   match y0 P t,F7 P t with
   | some false,_=>match u7 m a ((n-1)*s+1)with
     | some cs=>match A0l m cs s n i 0 1 with
       | some ([h],m)=>some (h,m)
       | _=>none
     | none=>none
   | some true,some z=>match u7 m a ((n-1)*s+z)with
     | some cs=>match A0l m cs s n i 0 z with
       | some (hs,m)=>some (.agg ⟨hs⟩,m)
       | none=>none
     | none=>none
   | _,_=>none
 | _=>none
def A8D(m:Mem)(c a b:Value):Res :=
 match m with
 | ⟨H,n,W,hi,lg⟩=>match brL lg c with
   | some (true,lg)=>some (a,⟨H,n,W,hi,lg⟩)
   | some (false,lg)=>some (b,⟨H,n,W,hi,lg⟩)
   | none=>none
def B8g(P:Program)(fr:Fr)(m:Mem)(o:Op):Res :=
 match o with
 | .pick c a b=>A8D m (ev fr c) (ev fr a) (ev fr b)
 | .binOp op t x y _=>match A5L P m op t (ev fr x) (ev fr y)with
   | some r=>some r
   | none=>B3J P m op t x y (ev fr x) (ev fr y)
 | .unOp op _ x=>B3E m op (ev fr x)
 | .convert s t x=>A5v P m s t (ev fr x)
 | .slice t x lo hi mx=>A3q P m t (ev fr x) (evO fr lo) (evO fr hi) (evO fr mx)
 | .index t x i=>n8 P m t (ev fr x) (ev fr i)
 | .indexAddr t x i=>A1V P m t (ev fr x) (ev fr i)
 | .fieldAddr s x i=>A1W P m s (ev fr x) i
 | .load t x=>A5u P m t (ev fr x)
 | .call ⟨.builtin b,xs,tys⟩=>A1X P m b (evL fr xs.toList) tys.toList
 | _=>none
def A5S(m:Mem)(b:Nat):Bool :=
 match Hp.get m.H b with
 | some .frz=>Nat.ble b G2
 | _=>false
def B5E{α:Type}(l:List α):Nat→List α
 | 0=>[]
 | n+1=>l++B5E l n
mutual
def B8d(P:Program):Nat→TypeId→Option (List Nat)
 | 0,_=>none
 | d+1,t=>match P.underlying t with
   | some .bool=>some [8]
   | some (.int k)=>some [A2m k]
   | some .string=>some [9]
   | some (.slice e)=>match F7 P e with
     | some w=>some [10+w]
     | none=>none
   | some (.struct fs)=>C4G P d fs.toList
   | some (.array n e)=>match B8d P d e with
     | some l=>some (B5E l n)
     | none=>none
   | _=>none
def C4G(P:Program):Nat→List Field→Option (List Nat)
 | 0,_=>none
 | _+1,[]=>some []
 | d+1,f::fs=>match B8d P d f.type,C4G P d fs with
   | some a,some b=>some (a++b)
   | _,_=>none
end
def A3p(P:Program)(t:TypeId):Option (List Nat) :=
 match B8d P 30 t,F7 P t with
 | some l,some n=>bif Nat.beq l.length n then some l else none
 | _,_=>none
def Y3.letDo(t:Nat)(op:LOp)(xs:List Value)(m:Mem)(k:Nat→Mem→Option (List Value×Mem)):Option (List Value×Mem) :=
 match m with
 | ⟨H,n,W,hi,⟨nx,pi,log⟩⟩=>J3 nx fun nx=>J3 t fun t=>R8 xs fun xs=>k nx ⟨H,n,W,hi,⟨Nat.succ nx,pi,.dt nx t op xs::log⟩⟩
def Y3(w o i t:Nat)(z:Value)(g:Nat):List Nat→Nat→Mem→Option (List Value×Mem)
 | [],_,m=>some ([],m)
 | tg::ts,j,m=>bif Nat.blt tg 10 then
    match W6 m tg (.get w (o+j)) [hole i t,z]with
    | some (h,m)=>match Y3 w o i t z g ts (j+1) m with
      | some (r,m)=>some (h::r,m)
      | none=>none
    | none=>none
   else Y3.letDo tg (.get w (o+j)) [hole i t,z] m fun nx m=>match Y3 w o i t z g ts (j+1) m with
     | some (r,m)=>some (dat g nx tg::r,m)
     | none=>none
def A4Z(P:Program)(t:TypeId)(r:Option (List Value×Mem)):Res :=
 match y0 P t,r with
 | some false,some ([v],m)=>some (v,m)
 | some true,some (vs,m)=>some (.agg ⟨vs⟩,m)
 | _,_=>none
def B3x(P:Program)(m:Mem)(t:TypeId)(x:Value):Res :=
 match x,A3p P t with
 | .func (.yield 5) ⟨[.pointer (some ⟨b,0,none⟩),.complex .f64 i tg,z,.int .i64 (.ofNat o)]⟩ ⟨[]⟩,some ts =>
   bif A5S m b then A4Z P t (Y3 (tg-10) o i tg z b ts 0 m)else none
 | .func (.yield 6) ⟨[.pointer (some ⟨b,0,none⟩),.complex .f64 i tg,z,.int .i64 (.ofNat o)]⟩ ⟨[]⟩,some ts =>
   match Hp.get m.H b with
   | some (.sq c tc T g ro)=>bif Nat.beq tc tg then A4Z P t (Y3 (tg-10) o c tg z g ts 0 m)else none
   | _=>none
 | _,_=>none
def B3_(m:Mem)(i t:Nat)(z:Value)(k:Value):Res :=
 bif !(Nat.blt (F4 z) 8)then none else
 match W6 m 8 (.inbs (t-10)) [z,hole i t]with
 | some (b,⟨H,n,W,hi,lg⟩)=>match brL lg b with
   | some (true,lg)=>some (k,⟨H,n,W,hi,lg⟩)
   | _=>none
 | none=>none
def A4E(P:Program)(m:Mem)(t:TypeId)(x z:Value):Res :=
 match P.underlying t,x with
 | some (.slice e),.func (.yield 4) ⟨[.pointer (some ⟨b,0,none⟩),.complex .f64 i tg]⟩ ⟨[]⟩=>match F7 P e with
   | some (s+1)=>bif Nat.beq tg (10+(s+1))then B3_ m i tg z (opt b i tg z 0)else none
   | _=>none
 | some (.slice e),.func (.yield 2) ⟨[.pointer (some ⟨b,0,none⟩),.complex .f64 i tg]⟩ ⟨[]⟩=>match F7 P e with
   | some (s+1)=>bif Nat.beq tg (10+(s+1))then B3_ m i tg z (dpt b i tg z 0)else none
   | _=>none
 | some (.slice e),.func (.yield 3) ⟨[.pointer (some ⟨b,0,none⟩),.complex .f64 i tg]⟩ ⟨[]⟩=>match F7 P e with
   | some (s+1)=>bif Nat.beq tg (10+(s+1))then B3_ m i tg z (dpt b i tg z 0)else none
   | _=>none
 | some (.array n e),.func (.yield 5) ⟨[.pointer (some ⟨b,0,none⟩),.complex .f64 i tg,y,.int .i64 (.ofNat o)]⟩ ⟨[]⟩=>match F7 P e,z with
   | some s,.int _ (.ofNat k)=>bif Nat.blt k n && Nat.blt (o+k*s) (tg-10)then some (J3 (o+k*s) fun o=>dpt b i tg y o,m)else none
   | _,_=>none
 | some (.array n e),.func (.yield 6) ⟨[.pointer (some ⟨b,0,none⟩),.complex .f64 i tg,y,.int .i64 (.ofNat o)]⟩ ⟨[]⟩=>match F7 P e,z with
   | some s,.int _ (.ofNat k)=>bif Nat.blt k n && Nat.blt (o+k*s) (tg-10)then some (J3 (o+k*s) fun o=>opt b i tg y o,m)else none
   | _,_=>none
 | _,_=>none
def A4I(P:Program)(m:Mem)(s:TypeId)(x:Value)(f:Nat):Res :=
 match P.underlying s,x with
 | some (.struct fs),.func (.yield 5) ⟨[.pointer (some ⟨b,0,none⟩),.complex .f64 i tg,y,.int .i64 (.ofNat o)]⟩ ⟨[]⟩=>match fs.toList[f]? with
   | some fd=>match F7 P fd.type with
     | some (_+1)=>bif Nat.blt (o+fd.offset) (tg-10)then some (J3 (o+fd.offset) fun o=>dpt b i tg y o,m)else none
     | _=>none
   | none=>none
 | some (.struct fs),.func (.yield 6) ⟨[.pointer (some ⟨b,0,none⟩),.complex .f64 i tg,y,.int .i64 (.ofNat o)]⟩ ⟨[]⟩=>match fs.toList[f]? with
   | some fd=>match F7 P fd.type with
     | some (_+1)=>bif Nat.blt (o+fd.offset) (tg-10)then some (J3 (o+fd.offset) fun o=>opt b i tg y o,m)else none
     | _=>none
   | none=>none
 | _,_=>none
def A6R(i:Nat):List c9→Option Nat
 | []=>none
 | .lt j t .len [.complex .f64 k _]::r=>bif Nat.beq k i && Nat.beq t 3 then some j else A6R i r
 | _::r=>A6R i r
def B2I(m:Mem)(i t:Nat):Res :=
 match A6R i m.lg.log with
 | some j=>some (hole j 3,m)
 | none=>W6 m 3 .len [hole i t]
def C2u(P:Program)(m:Mem)(t:TypeId)(x:Value):Res :=
 match P.underlying t,x with
 | some (.slice _),.func (.yield 2) ⟨[.pointer (some ⟨b,0,none⟩),.complex .f64 i tg]⟩ ⟨[]⟩=>B2I m i tg
 | some (.slice _),.func (.yield 3) ⟨[.pointer (some ⟨b,0,none⟩),.complex .f64 i tg]⟩ ⟨[]⟩=>B2I m i tg
 | some (.slice _),.func (.yield 4) ⟨[.pointer (some ⟨b,0,none⟩),.complex .f64 i tg]⟩ ⟨[]⟩=>B2I m i tg
 | _,_=>none
def A2O(m:Mem)(k:Nat→Mem→Option (Value×Nat×Mem)):Option (Value×Nat×Mem) :=
 match m with
 | ⟨H,n,W,hi,lg⟩=>bif Nat.ble n G2 then J3 n fun n=>J3 (upN hi n) fun hi=>Hp.put H n (some .frz) fun H=>k n ⟨H,Nat.succ n,W,hi,lg⟩else none
def toD(t:Nat)(v:Value)(m:Mem):Option (Value×Nat×Mem) :=
 match v with
 | .func (.yield 2) ⟨[.pointer (some ⟨b,0,none⟩),.complex .f64 i tg]⟩ ⟨[]⟩=>bif Nat.beq tg t && A5S m b then some (hole i tg,b,m)else none
 | .func (.yield 3) ⟨[.pointer (some ⟨b,0,none⟩),.complex .f64 i tg]⟩ ⟨[]⟩=>bif Nat.beq tg t && A5S m b then some (hole i tg,b,m)else none
 | .func (.yield 4) ⟨[.pointer (some ⟨b,0,none⟩),.complex .f64 i tg]⟩ ⟨[]⟩=>match Hp.get m.H b with
   | some (.sq c tc T g true)=>bif (Nat.beq tg t && Nat.beq tc t) && A5S m g then A2O m fun b' m=>some (hole c tc,b',m)else none
   | some (.sq c tc T g false)=>bif (Nat.beq tg t && Nat.beq tc t) && A5S m g then match A1Z m b (.sq c tc T g true)with
     | some m=>A2O m fun b' m=>some (hole c tc,b',m)
     | none=>none else none
   | _=>none
 | .slice none 0 0=>bif Nat.ble 10 t then(match A74 m t (.nilw (t-10)) [] fun nx m=>some (hole nx t,m)with
   | some (h,m)=>A2O m fun b' m=>some (h,b',m)
   | none=>none)else none
 | _=>none
abbrev Td:=Nat→Value→Mem→Option (Value×Nat×Mem)
def B0B(td:Td):List Nat→List Value→Mem→Option (List Value×List Nat×Mem)
 | [],[],m=>some ([],[],m)
 | t::ts,v::vs,m=>bif Nat.blt t 10 then
    bif Nat.beq (F4 v) t then match B0B td ts vs m with
     | some (r,gs,m)=>some (v::r,gs,m)
     | none=>none else none
   else match td t v m with
    | some (h,b,m)=>match B0B td ts vs m with
      | some (r,gs,m)=>some (h::r,b::gs,m)
      | none=>none
    | none=>none
 | _,_,_=>none
def A3Y(gs:List Nat)(m:Mem):Option (Nat×Mem) :=
 match gs with
 | [g]=>bif A5S m g then some (g,m)else none
 | gs=>bif gs.all (A5S m)then match A2O m fun b m=>some (undef,b,m)with
   | some (_,b,m)=>some (b,m)
   | none=>none else none
def B6G:Value→Value→Bool
 | .complex .f64 i _,.complex .f64 j _=>Nat.beq i j
 | .int k a,.int j b=>A8z k j && B0Q a b
 | _,_=>false
def A9K(v:Value):Bool:=Nat.blt (F4 v) 8
def A2G(m:Mem)(b i t:Nat)(l h:Value)(c:Bool):Res:=bif A9K l && A9K h then A74 m t (.subs (t-10)) [hole i t,l,h] fun nx m=>some (bif c then clp b nx t else dat b nx t,m)else none
def B4S(m:Mem)(b i t:Nat)(cl:Bool)(l:Value)(hi mx:Option Value):Res :=
 match hi,mx with
 | some h,none=>A2G m b i t l h false
 | some h,some x=>bif B6G h x then A2G m b i t l h true else none
 | none,none=>match B2I m i t with
   | some (h,m)=>A2G m b i t l h cl
   | none=>none
 | none,some _=>none
def C9G(lo:Option Value):Value :=
 match lo with
 | some l=>l
 | none=>.int .i64 0
def B4T(m:Mem)(b i t:Nat)(cl:Bool)(lo hi mx:Option Value):Res:=B4S m b i t cl (C9G lo) hi mx
def A8s(P:Program)(m:Mem)(t:TypeId)(x:Value)(lo hi mx:Option Value):Res :=
 match P.underlying t,x with
 | some (.slice e),.func (.yield 2) ⟨[.pointer (some ⟨b,0,none⟩),.complex .f64 i tg]⟩ ⟨[]⟩=>match F7 P e with
   | some s=>bif Nat.beq tg (10+s)then B4T m b i tg false lo hi mx else none
   | none=>none
 | some (.slice e),.func (.yield 3) ⟨[.pointer (some ⟨b,0,none⟩),.complex .f64 i tg]⟩ ⟨[]⟩=>match F7 P e with
   | some s=>bif Nat.beq tg (10+s)then B4T m b i tg true lo hi mx else none
   | none=>none
 | some (.slice e),.func (.yield 4) ⟨[.pointer (some ⟨b,0,none⟩),.complex .f64 i tg]⟩ ⟨[]⟩=>match F7 P e with
   | some s=>bif Nat.beq tg (10+s)then match toD tg x m with
     | some (.complex .f64 c _,b',m)=>B4T m b' c tg false lo hi mx
     | _=>none else none
   | none=>none
 | _,_=>none
inductive Beh where
 | cells (xs:List Value)
 | rows (x:Value)
 | str (x:Value)
def A07(w:Nat)(c:Value):Beh→LOp×List Value
 | .cells xs=>(.snoc w,c::xs)
 | .rows x=>(.cat w,[c,x])
 | .str x=>(.cats,[c,x])
def C0v(td:Td)(P:Program)(m:Mem)(e:TypeId)(w:Nat)(y:Value):Option (Beh×List Nat×Bool×Mem) :=
 match y with
 | .slice none 0 _=>some (.cells [],[],false,m)
 | .slice (some a) n _=>match u7 m a (n*w),A3p P e with
   | some cs,some ts=>match B0B td (B5E ts n) cs m with
     | some (xs,gs,m)=>some (.cells xs,gs,Nat.blt 0 n,m)
     | none=>none
   | _,_=>none
 | .func _ _ _=>match td (10+w) y m with
   | some (x,b,m)=>some (.rows x,[b],false,m)
   | none=>none
 | y=>bif Nat.beq (F4 y) 9 && Nat.beq w 1 then some (.str y,[],false,m)else none
def B1f(td:Td)(P:Program)(m:Mem)(e:TypeId)(w:Nat)(x:Value):Option (Nat×List Nat×Option Nat×Mem) :=
 match x with
 | .slice none 0 0=>match A74 m (10+w) (.nilw w) [] fun nx m=>some (hole nx (10+w),m)with
   | some (.complex .f64 c _,m)=>some (c,[],none,m)
   | _=>none
 | .func (.yield 4) ⟨[.pointer (some ⟨b,0,none⟩),.complex .f64 i tg]⟩ ⟨[]⟩=>match Hp.get m.H b with
   | some (.sq c tc T g false)=>bif (Nat.beq tg (10+w) && Nat.beq tc tg) && (Nat.beq T e && Nat.ble b G2)then some (c,[g],some b,m)else none
   | _=>none
 | .slice (some ⟨b,0,none⟩) n c=>match Hp.get m.H b,A3p P e with
   | some (.cells cs _ _),some ts=>bif Nat.beq cs.length (n*w) && (Nat.beq c n && Nat.blt c M0 || Nat.beq c M0)then match B0B td (B5E ts n) cs m with
     | some (xs,gs,m)=>match Hp.get m.H b with
       | some (.cells _ T false)=>bif Nat.beq T e && Nat.ble b G2 then match A74 m (10+w) (.mk w) xs fun nx m=>some (hole nx (10+w),m)with
         | some (.complex .f64 c _,m)=>some (c,gs,some b,m)
         | _=>none else none
       | _=>none
     | none=>none else none
   | _,_=>none
 | _=>none
def A0N(m:Mem)(c t:Nat)(T:TypeId)(g:Nat):Res:=e9 m (.sq c t T g false) fun b=>own b c t
def B8I(P:Program)(e:TypeId)(n:Nat):Bool :=
 match A12 P e with
 | some z=>Nat.beq z.cells.size n
 | none=>false
def A3W(old:Option Nat)(m:Mem):Mem :=
 match old with
 | some b=>A3X m b
 | none=>m
def B7s(td:Td)(P:Program)(m:Mem)(e:TypeId)(w:Nat)(x:Value):Res :=
 match P.info? e with
 | some inf=>bif Nat.beq inf.size w && Nat.blt 0 w then match B1f td P m e w x with
   | some (c,gs,old,m)=>match A3Y gs m with
     | some (g,m)=>A0N (A3W old m) c (10+w) e g
     | none=>none
   | none=>none else none
 | none=>none
def B8X(P:Program):Nat→Td
 | 0=>toD
 | d+1=>fun t v m=>match v with
   | .slice (some ⟨b,0,none⟩) _ _=>match Hp.get m.H b with
     | some (.cells _ T _)=>match B7s (B8X P d) P m T (t-10) v with
       | some (x,m)=>toD t x m
       | none=>none
     | _=>none
   | v=>toD t v m
def tdP(P:Program):Td:=B8X P 3
def B3e(m:Mem)(e:TypeId)(w c:Nat)(old:Option Nat)(bh:Beh)(gs:List Nat):Res :=
 match A3Y gs m with
 | some (g,m)=>A74 m (10+w) (A07 w (hole c (10+w)) bh).1 (A07 w (hole c (10+w)) bh).2 fun nx m=>A0N (A3W old m) nx (10+w) e g
 | none=>none
def A6e(P:Program)(m:Mem)(t t2:TypeId)(x y:Value):Res :=
 match P.underlying t,P.underlying t2 with
 | some (.slice e),some d2=>bif !(A01 d2)then none else
   match P.info? e with
   | some i=>bif (Nat.ble i.bytes 90000 && Nat.blt 0 i.size) && B8I P e i.size then
     match C0v (tdP P) P m e i.size y with
     | some (bh,gs,sure,m)=>match B1f (tdP P) P m e i.size x with
       | some (c,g0,old,m)=>B3e m e i.size c old bh (g0++gs)
       | none=>match x,sure with
         | .func (.yield 3) ⟨[.pointer (some ⟨b,0,none⟩),.complex .f64 c tg]⟩ ⟨[]⟩,true=>bif Nat.beq tg (10+i.size)then B3e m e i.size c none bh (b::gs)else none
         | _,_=>none
     | none=>none else none
   | none=>none
 | _,_=>none
def A8m(P:Program)(m:Mem)(t:TypeId)(x v:Value):Res :=
 match x,A3p P t with
 | .func (.yield 6) ⟨[.pointer (some ⟨b,0,none⟩),.complex .f64 i tg,z,.int .i64 (.ofNat o)]⟩ ⟨[]⟩,some ts=>bif A3D v then none else
   match B0B (tdP P) ts v.cells.toList m with
   | some (xs,gs,m)=>match Hp.get m.H b with
     | some (.sq c tc T g false)=>bif Nat.beq tc tg then match A3Y (g::gs) m with
       | some (g,m)=>match A74 m tg (.set (tg-10) o) (hole c tg::z::xs) fun nx m=>some (hole nx tg,m)with
         | some (.complex .f64 nx _,m)=>B5P (A1Z m b (.sq nx tg T g false))
         | _=>none
       | none=>none else none
     | _=>none
   | none=>none
 | _,_=>none
def C44(m m1:Mem):Mem :=
 match m,m1 with
 | ⟨H,n,W,_,_⟩,⟨_,_,_,hi,lg⟩=>⟨H,n,W,hi,lg⟩
def B4V(P:Program)(m:Mem)(s t:TypeId)(x:Value):Res :=
 match P.underlying s,P.underlying t,x with
 | some (.slice e),some .string,.slice (some a) n _=>match P.underlying e with
   | some (.int .u8)=>match u7 m a n with
     | some cs=>bif o7 4 cs then W6 m 9 .mks cs else none
     | none=>none
   | _=>none
 | some (.slice e),some .string,.func _ _ _=>match P.underlying e with
   | some (.int .u8)=>match toD 11 x m with
     | some (h,_,m1)=>W6 (C44 m m1) 9 .str [h]
     | none=>none
   | _=>none
 | some _,some (.slice e),x=>bif Nat.beq (F4 x) 9 then match P.underlying e with
   | some (.int .u8)=>match F7 P e with
     | some 1=>match A3Y [] m with
       | some (g,m)=>match A74 m 11 .byt [x] fun nx m=>some (hole nx 11,m)with
         | some (.complex .f64 nx _,m)=>A0N m nx 11 e g
         | _=>none
       | none=>none
     | _=>none
   | _=>none else none
 | _,_,_=>none
def B93:Value→Bool
 | .slice none 0 0=>true
 | _=>false
def B9b(P:Program)(m:Mem)(op:BinOp)(t:TypeId)(x y:Operand)(a b:Value):Res :=
 match P.underlying t,a with
 | some (.slice _),.func (.yield k) ⟨[.pointer (some ⟨_,0,none⟩),.complex .f64 i tg]⟩ ⟨[]⟩=>bif B93 b && isC y && (Nat.beq k 2 || Nat.beq k 3 || Nat.beq k 4)then
   match op,W6 m 8 .nilp [hole i tg]with
   | .eql,some r=>some r
   | .neq,some (h,m)=>W6 m 8 (.un .not) [h]
   | _,_=>none else none
 | _,_=>none
def B3t(P:Program)(m:Mem)(t:TypeId)(l c:Value):Res :=
 match P.underlying t,l,c with
 | some (.slice e),.complex .f64 i ti,.complex .f64 j tj=>bif (Nat.beq i j && Nat.beq ti 3) && Nat.beq tj 3 then
   match P.info? e with
   | some inf=>bif Nat.ble inf.bytes 90000 && Nat.blt 0 inf.size then
     match A12 P e with
     | some z=>bif Nat.beq z.cells.size inf.size && z.cells.toList.all (fun z=>Nat.blt (F4 z) 10)then
       match A3Y [] m with
       | some (g,m)=>match A74 m (10+inf.size) (.rep inf.size) (hole i 3::z.cells.toList) fun nx m=>some (hole nx (10+inf.size),m)with
         | some (.complex .f64 nx _,m)=>A0N m nx (10+inf.size) e g
         | _=>none
       | none=>none else none
     | none=>none else none
   | none=>none else none
 | _,_,_=>none
def dsM(P:Program)(fr:Fr)(m:Mem)(o:Op):Res :=
 match o with
 | .makeSlice t l c=>B3t P m t (ev fr l) (ev fr c)
 | .load t x=>B3x P m t (ev fr x)
 | .store t x y=>A8m P m t (ev fr x) (ev fr y)
 | .indexAddr t x i=>A4E P m t (ev fr x) (ev fr i)
 | .fieldAddr s x i=>A4I P m s (ev fr x) i
 | .slice t x lo hi mx=>A8s P m t (ev fr x) (evO fr lo) (evO fr hi) (evO fr mx)
 | .convert s t x=>B4V P m s t (ev fr x)
 | .binOp op t x y _=>B9b P m op t x y (ev fr x) (ev fr y)
 | .call ⟨.builtin .len,xs,tys⟩=>match evL fr xs.toList,tys.toList with
   | [x],t::_=>C2u P m t x
   | _,_=>none
 | .call ⟨.builtin .append,xs,tys⟩=>match evL fr xs.toList,tys.toList with
   | [x,y],t::t2::_=>A6e P m t t2 x y
   | _,_=>none
 | _=>none
def B67(P:Program)(m:Mem)(s t:TypeId)(x:Value):Res :=
 match P.underlying s,P.underlying t,x with
 | some (.pointer e),some .unsafePointer,.pointer (some ⟨b,o,none⟩)=>match F7 P e,Hp.get m.H b with
   | some (_+1),some (.cells cs _ _)=>bif Nat.blt o cs.length then some (x,m)else none
   | _,_=>none
 | some .unsafePointer,some (.pointer u),.pointer (some ⟨b,0,none⟩)=>match F7 P u,Hp.get m.H b with
   | some (k+1),some (.cells cs T false)=>bif Nat.beq T u && Nat.beq cs.length (k+1)then some (x,m)else none
   | _,_=>none
 | some (.slice _),some (.slice e),.slice (some ⟨b,o,none⟩) n c=>bif Nat.beq s t && !(Nat.beq c (M0+2))then match P.underlying e,Hp.get m.H b with
   | some (.int .u8),some (.cells cs T false)=>match A1Z m b (.cells cs T false)with
     | some m1=>some (x,m1)
     | none=>none
   | _,_=>none else none
 | _,_,_=>none
def B6P(P:Program)(m:Mem)(op:BinOp)(t:TypeId)(a b:Value):Res :=
 match P.underlying t,a,b with
 | some (.pointer e),.pointer (some ⟨b1,o1,none⟩),.pointer (some ⟨b2,o2,none⟩)=>bif Nat.beq b1 b2 && Nat.beq o1 o2 then match P.info? e,op with
   | some _,.eql=>some (.bool true,m)
   | some _,.neq=>some (.bool false,m)
   | _,_=>none else none
 | _,_,_=>none
def sdM(P:Program)(m:Mem)(ty:TypeId)(x:Value):Res :=
 match P.underlying ty with
 | some (.pointer _)=>match x with
  | .func (.yield 4) ⟨[.pointer (some ⟨b,0,none⟩),.complex .f64 i t]⟩ ⟨[]⟩=>match Hp.get m.H b with
   | some (.sq _ _ _ _ _)=>some (sdt b,m)
   | _=>none
  | _=>none
 | _=>none
def usM(P:Program)(m:Mem)(pt:TypeId)(p l:Value):Res :=
 match p with
 | .func (.yield 9) ⟨[.pointer (some ⟨b,0,none⟩)]⟩ ⟨[]⟩=>bif Nat.blt (F4 l) 8 then match Hp.get m.H b,P.underlying pt with
   | some (.sq c tc T g false),some (.pointer e)=>bif Nat.beq e T && Nat.beq tc 11 then match F7 P T,W6 m 9 .ustr [hole c tc,l]with
     | some 1,some (v,m)=>match A1Z m b (.sq c tc T g true)with
       | some m=>some (v,m)
       | none=>none
     | _,_=>none else none
   | _,_=>none else none
 | _=>none
def A17(P:Program)(t:TypeId):Option Nat :=
 match P.underlying t with
 | some .bool=>some 8
 | some (.int k)=>some (A2m k)
 | some .string=>some 9
 | _=>none
def A7m(P:Program):List Field→Nat→Option (List Nat)
 | [],_=>some []
 | f::r,i=>match A17 P f.type,A7m P r (i+1)with
   | some t,some l=>bif !(f.name == "_") && Nat.beq f.offset i then some (t::l)else none
   | _,_=>none
def A5E(P:Program)(t:TypeId):Option (Bool×List Nat) :=
 match P.underlying t with
 | some (.struct fs)=>bif P.stoodInHeld t then none else match A7m P fs.toList 0 with
   | some l=>some (true,l)
   | none=>none
 | _=>match A17 P t with
   | some k=>some (false,[k])
   | none=>none
def B54(P:Program)(t:TypeId):Option (Bool×List Nat) :=
 match y0 P t,A3p P t with
 | some true,some l=>bif l.all (fun k=>Nat.blt k 10)then some (true,l)else none
 | some false,some [k]=>bif Nat.blt k 10 then some (false,[k])else none
 | _,_=>none
structure MTy where
 kt:TypeId
 vt:TypeId
 ka:Bool
 ks:List Nat
 va:Bool
 vs:List Nat
def MTy.w(y:MTy):Nat:=y.ks.length+y.vs.length
def B7v(P:Program)(T:TypeId):Option MTy :=
 match P.underlying T with
 | some (.map kt vt)=>match A5E P kt,B54 P vt with
   | some (ka,k::ks),some (va,vs)=>some ⟨kt,vt,ka,k::ks,va,vs⟩
   | _,_=>none
 | _=>none
def A9b:List Nat→List Value→Bool
 | [],[]=>true
 | t::ts,v::vs=>Nat.beq (F4 v) t && A9b ts vs
 | _,_=>false
def A44(a:Bool)(ts:List Nat)(v:Value):Option (List Value) :=
 match a,v with
 | true,.agg cs=>bif A9b ts cs.toList then some cs.toList else none
 | true,_=>none
 | false,v=>bif A9b ts [v]then some [v]else none
def C0z(a:Bool)(vs:List Value):Option Value :=
 match a,vs with
 | true,vs=>some (.agg ⟨vs⟩)
 | false,[v]=>some v
 | false,_=>none
def B9d(P:Program)(m:Mem)(T:TypeId):Res :=
 match B7v P T with
 | some y=>A74 m (10+y.w) (.mk y.w) [] fun nx m=>e9 m (.mp nx (10+y.w) T) fun b=>.map (some b)
 | none=>none
def A66(w kw c t:Nat)(kc:List Value):List Nat→List Value→Nat→Mem→Option (List Value×Mem)
 | [],[],_,m=>some ([],m)
 | tg::ts,z::zs,j,m=>match W6 m tg (.mget w kw j) (hole c t::z::kc)with
   | some (h,m)=>match A66 w kw c t kc ts zs (j+1) m with
     | some (r,m)=>some (h::r,m)
     | none=>none
   | none=>none
 | _,_,_,_=>none
def A9C(P:Program)(m:Mem)(T:TypeId)(x k:Value)(ok:Bool):Res :=
 match x,B7v P T with
 | .map (some r),some y=>match Hp.get m.H r,A44 y.ka y.ks k,A12 P y.vt with
   | some (.mp c t T2),some kc,some z=>bif Nat.beq T2 T then match A44 y.va y.vs z with
     | some zc=>match A66 y.w y.ks.length c t kc y.vs zc y.ks.length m with
       | some (hs,m)=>match C0z y.va hs with
         | some v=>bif ok then match W6 m 8 (.mhas y.w y.ks.length) (hole c t::kc)with
            | some (b,m)=>some (.tuple ⟨[v,b]⟩,m)
            | none=>none
           else some (v,m)
         | none=>none
       | none=>none
     | none=>none else none
   | _,_,_=>none
 | _,_=>none
def B0t(P:Program)(m:Mem)(T:TypeId)(x k v:Value):Res :=
 match x,B7v P T with
 | .map (some r),some y=>match Hp.get m.H r,A44 y.ka y.ks k,A44 y.va y.vs v with
   | some (.mp c t T2),some kc,some vc=>bif Nat.beq T2 T then A74 m t (.mput y.w y.ks.length) (hole c t::(kc++vc)) fun nx m=>B5P (A1Z m r (.mp nx t T))else none
   | _,_,_=>none
 | _,_=>none
def B30(P:Program)(m:Mem)(T:TypeId)(x:Value):Res :=
 match P.underlying T,x with
 | some (.map _ _),.map (some r)=>match Hp.get m.H r with
   | some (.mp c t _)=>B2I m c t
   | _=>none
 | _,_=>none
def xtM(P:Program)(fr:Fr)(m:Mem)(o:Oper):Res :=
 match o.op with
 | .convert s t x=>B67 P m s t (ev fr x)
 | .binOp op t x y _=>B6P P m op t (ev fr x) (ev fr y)
 | .call ⟨.builtin .unsafeSliceData,xs,_⟩=>match evL fr xs.toList with
   | [x]=>sdM P m o.type x
   | _=>none
 | .call ⟨.builtin .unsafeString,xs,tys⟩=>match evL fr xs.toList,tys.toList with
   | [p,l],t::_=>usM P m t p l
   | _,_=>none
 | .makeMap t none=>B9d P m t
 | .lookup t x k ok=>A9C P m t (ev fr x) (ev fr k) ok
 | .mapUpdate t x k v=>B0t P m t (ev fr x) (ev fr k) (ev fr v)
 | .insert t x k v=>B0t P m t (ev fr x) (ev fr k) (ev fr v)
 | .call ⟨.builtin .len,xs,tys⟩=>match evL fr xs.toList,tys.toList with
   | [x],t::_=>B30 P m t x
   | _,_=>none
 | _=>none
inductive EK where
 | noEscape|makeNoZero (e:TypeId)|indexByteString|countString|indexString|copyString
 deriving DecidableEq
def B4K:List (FuncId×EK)→FuncId→Option EK
 | [],_=>none
 | (g,k)::r,f=>bif Nat.beq g f then some k else B4K r f
structure FnC where
 run:List Value→Mem→Res
structure P4 where
 fn:FuncId→FnC
 yl:FnC
def A4w:Value→Bool
 | .tuple ⟨[]⟩=>true
 | _=>false
def B23(lg:Lg)(v:Value)(b:Bool):Option (Bool×Lg) :=
 match v with
 | .bool c=>some (c == b,lg)
 | .complex k i t=>match brL lg (.complex k i t)with
   | some (c,lg)=>some (c == b,lg)
   | none=>none
 | v=>bif A4w v then some (false,lg)else none
def A0M(nt:Nat)(fr:Fr)(lg:Lg)(ops:List Oper)(o:Oper):Option (Bool×Lg) :=
 match o.guard with
 | none=>some (true,lg)
 | some (j,b)=>match ops[j]? with
   | some p=>match p.dst with
     | some t=>bif Nat.blt t nt then B23 lg (fr.get t) b else none
     | none=>none
   | none=>none
def A8U(v:Value)(vs:List Value):Option (FuncId×List Value) :=
 match v with
 | .func (.func f) a b=>some (f,a.toList++(vs++b.toList))
 | _=>none
def A1R(v:Value):Option Nat :=
 match v with
 | .func (.yield 7) ⟨[.pointer (some ⟨b,0,none⟩)]⟩ ⟨[]⟩=>some b
 | _=>none
def B3n(call:P4)(m:Mem)(v:Value)(vs:List Value):Res :=
 match A8U v vs with
 | some (f,vs)=>(call.fn f).run vs m
 | none=>match A1R v with
   | some _=>call.yl.run (v::vs) m
   | none=>none
def C9V(call:P4)(x:XC)(xs:LC)(fr:Fr)(m:Mem):Res:=B3n call m (x.run fr) (xs.run fr)
def C7S(f:FnC)(xs:LC)(fr:Fr)(m:Mem):Res:=f.run (xs.run fr) m
def B9v(P:Program)(c:OpC)(o:Oper)(fr:Fr)(m:Mem):Res :=
 match c.run fr m with
 | some r=>some r
 | none=>match B8g P fr m o.op with
   | some r=>some r
   | none=>match dsM P fr m o.op with
     | some r=>some r
     | none=>xtM P fr m o
def X4(P:Program)(call:P4)(o:Oper):OpC :=
 match o.op with
 | .call ⟨.value (.func f),xs,_⟩=>⟨C7S (call.fn f) (A7p xs.toList)⟩
 | .call ⟨.value x,xs,_⟩=>⟨C9V call (S7 x) (A7p xs.toList)⟩
 | op=>⟨B9v P (A9o P op) o⟩
def A9j(nt:Nat)(d:Option Tmp):Bool :=
 match d with
 | some d=>Nat.blt d nt
 | none=>true
structure C8B where
 run:Value→Fr→(Fr→Option S)→Option S
def A77(d:Option Tmp):C8B :=
 match d with
 | some t=>⟨A71 (sel (t / 64%8)) (sel (t / 8%8)) (sel (t%8))⟩
 | none=>⟨fun _ fr k=>k fr⟩
structure C1s where
 run:S→Option S
def A3u(c:OpC)(d:C8B)(next:C1s)(s:S):Option S :=
 match s with
 | ⟨fr,m⟩=>match c.run fr m with
   | some (v,m')=>bif Nat.ble m.hi m'.hi then d.run v fr fun fr=>next.run ⟨fr,m'⟩else none
   | none=>none
def A1b(nt:Nat)(all:List Oper)(o:Oper)(c:OpC)(d:C8B)(next:C1s)(s:S):Option S :=
 match s with
 | ⟨fr,⟨H,n,W,hi,lg⟩⟩=>match A0M nt fr lg all o with
   | some (true,lg)=>A3u c d next ⟨fr,⟨H,n,W,hi,lg⟩⟩
   | some (false,lg)=>d.run undef fr fun fr=>next.run ⟨fr,⟨H,n,W,hi,lg⟩⟩
   | none=>none
def V2(P:Program)(nt gl:Nat)(call:P4)(all:List Oper):List Oper→C1s
 | []=>⟨some⟩
 | o::r=>bif A9j nt o.dst && B5K nt gl o.op then match o.guard with
   | none=>⟨fun s=>A3u (X4 P call o) (A77 o.dst) (V2 P nt gl call all r) s⟩
   | some _=>⟨fun s=>A1b nt all o (X4 P call o) (A77 o.dst) (V2 P nt gl call all r) s⟩
   else⟨fun _=>none⟩
structure Rec where
 i:Nat
 lo:Nat
 hi:Nat
inductive Cls where
 | free
 | one (b:Nat)
 | all
def C99(fr:Fr)(o:Op):Cls :=
 match o with
 | .move _|.assign _|.pick ..|.alloc _|.box ..|.build ..|.buildSlice ..|.nilCheck _|.binOp ..|.unOp ..|.makeInterface ..|.makeFunc ..|.makeMap ..|.makeSlice ..
 | .fieldAddr ..|.field ..|.indexAddr ..|.index ..|.extract ..|.range ..=>.free
 | .slice _ x _ _ _=>match ev fr x with
   | .slice _ _ _|.string _|.pointer _|.complex _ _ _=>.free
   | _=>.all
 | .convert _ _ x=>match ev fr x with
   | .int _ _|.string _=>.free
   | _=>.all
 | .call ⟨.builtin .len,xs,_⟩=>match evL fr xs.toList with
   | [.slice _ _ _]|[.string _]=>.free
   | _=>.all
 | .call ⟨.builtin .min,_,_⟩|.call ⟨.builtin .max,_,_⟩=>.free
 | .call ⟨.builtin .unsafeSliceData,xs,_⟩=>match evL fr xs.toList with
   | [.slice _ _ _]=>.free
   | _=>.all
 | .load _ x|.store _ x _=>match ev fr x with
   | .pointer (some a)=>.one a.block
   | _=>.all
 | _=>.all
def B1I(H:Hp AB):List Nat→Hp AB
 | []=>H
 | b::r=>Hp.put H b none fun H=>B1I H r
def B1h(H0 H:Hp AB):List Nat→Hp AB
 | []=>H
 | b::r=>Hp.put H b (Hp.get H0 b) fun H=>B1h H0 H r
def B46:Nat→Nat→List Nat
 | _,0=>[]
 | lo,n+1=>lo::B46 (lo+1) n
def Z9:List Rec→List Nat
 | []=>[]
 | r::rs=>B46 r.lo (r.hi-r.lo)++Z9 rs
def v8(l:List Nat)(b:Nat):Bool:=l.any (Nat.beq b)
def B2p(l:List Nat):Bool:=l.all fun b=>Nat.ble b G2
def B00(b:List Nat)(rs:List Rec):List Rec:=rs.filter fun r=>!(v8 b r.i)
def B0Z(m:Mem)(c:Cls)(us:List Rec):Option Mem :=
 match m with
 | ⟨H,n,_,hi,lg⟩=>match c with
   | .free=>some ⟨hp0,n,[],hi,lg⟩
   | .one b=>bif v8 (Z9 us) b || !(Nat.ble b G2)then none else Hp.put hp0 b (Hp.get H b) fun H=>some ⟨H,n,[],hi,lg⟩
   | .all=>bif B2p (Z9 us)then some ⟨B1I H (Z9 us),n,[],hi,lg⟩else none
def A35(m m':Mem):Option Mem :=
 bif Nat.ble m'.hi m.n then(match m with|⟨H,n,W,hi,_⟩=>some ⟨H,n,W,hi,m'.lg⟩)else
 bif Nat.ble m'.hi G2 then B2V (B1h m'.H m.H (B46 m.n (m'.hi-m.n))) fun H=>J3 m'.hi fun n=>some ⟨H,n,m.W,n,m'.lg⟩else none
def B61(fr:Fr)(m:Mem)(o:Oper)(b:List Nat)(rs:List Rec)(op:OpC)(k:Value→Mem→Option S):Option S :=
 let us:=B00 b rs
 let c:=C99 fr o.op
 match B0Z m c us with
 | some mv=>match op.run fr mv with
   | some (v,m') =>
     match m'.W,Nat.ble m.hi m'.hi with
     | [],true=>match A35 m m' with
       | some m2=>k v m2
       | none=>none
     | _,_=>none
   | none=>none
 | none=>none
def wrO:Op→Bool
 | .call _|.store ..|.mapUpdate ..=>true
 | _=>false
def x6:Op→Bool
 | .move _|.assign _|.extract ..=>true
 | _=>false
def C7A:Op→Bool
 | .field ..|.fieldAddr ..|.index ..|.indexAddr ..|.binOp ..|.unOp ..|.build ..|.load ..|.pick ..|.convert ..|.slice ..|.nilCheck _=>true
 | .call ⟨.builtin .len,_,_⟩=>true
 | o=>x6 o
def B1z(a b:Addr):Bool :=
 match a,b with
 | ⟨x,o,none⟩,⟨y,p,none⟩=>Nat.beq x y && Nat.beq o p
 | _,_=>false
def B5A(f g:Fn):Bool :=
 match f,g with
 | .func f,.func g=>Nat.beq f g
 | .yield f,.yield g=>Nat.beq f g
 | _,_=>false
def B0k(s:Value→Value→Bool):List Value→List Value→Bool
 | [],[]=>true
 | a::l,b::r=>s a b && B0k s l r
 | _,_=>false
def A8y:Nat→Value→Value→Bool
 | _,.bool a,.bool b=>a == b
 | _,.int k n,.int j m=>A8z k j && B0Q n m
 | _,.complex .f64 i t,.complex .f64 j u=>Nat.beq i j && Nat.beq t u
 | _,.complex .f32 i t,.complex .f32 j u=>Nat.beq i j && Nat.beq t u
 | _,.string s,.string t=>decide (s.data.toList=t.data.toList)
 | _,.pointer none,.pointer none=>true
 | _,.pointer (some a),.pointer (some b)=>B1z a b
 | _,.slice none n c,.slice none m d=>Nat.beq n m && Nat.beq c d
 | _,.slice (some a) n c,.slice (some b) m d=>B1z a b && (Nat.beq n m && Nat.beq c d)
 | _,.map none,.map none=>true
 | _,.map (some a),.map (some b)=>Nat.beq a b
 | _,.nilFunc,.nilFunc=>true
 | _,.nilIface,.nilIface=>true
 | d+1,.func f a b,.func g a' b'=>B5A f g && (B0k (A8y d) a.toList a'.toList && B0k (A8y d) b.toList b'.toList)
 | d+1,.iface t v,.iface u w=>Nat.beq t u && A8y d v w
 | _,_,_=>false
def B86(a b:AB):Bool :=
 match a,b with
 | .frz,.frz=>true
 | .cells cs T ro,.cells cs' T' ro'=>B0k (A8y 6) cs cs' && (Nat.beq T T' && (ro == ro'))
 | _,_=>false
def B9F(H:Hp AB)(b:Nat):Option (Nat×AB) :=
 match Hp.get H b with
 | some .frz=>some (b,.frz)
 | some (.cells cs T ro)=>some (b,.cells cs T ro)
 | _=>none
def B4E(H:Hp AB)(fr:Fr)(o:Op):Option (Nat×AB) :=
 match o with
 | .load _ x=>match ev fr x with
   | .func (.yield 5) ⟨.pointer (some a)::_⟩ _=>B9F H a.block
   | .pointer (some a)=>B9F H a.block
   | _=>none
 | _=>none
def A9M(H:Hp AB)(b:Nat)(ab:AB):Bool :=
 match Hp.get H b with
 | some x=>Nat.ble b G2 && B86 x ab
 | none=>false
def A6c:Nat:=262144
def B15(m:Mem)(r:Option (Nat×AB))(us:List Rec):Option Mem :=
 match m with
 | ⟨H,_,_,_,lg⟩=>match r with
   | none=>some ⟨hp0,A6c,[],A6c,lg⟩
   | some (b,ab)=>bif v8 (Z9 us) b || !(A9M H b ab)then none else Hp.put hp0 b (some ab) fun H=>some ⟨H,A6c,[],A6c,lg⟩
def A3z(fr:Fr)(m:Mem)(o:Oper)(b:List Nat)(rs:List Rec)(op:OpC):Option (Value×Lg) :=
 match B15 m (B4E m.H fr o.op) (B00 b rs)with
 | some mv=>match op.run fr mv with
   | some (v,⟨_,_,[],hi,lg⟩)=>bif Nat.beq hi A6c then some (v,lg)else none
   | _=>none
 | none=>none
abbrev Qs:=List (Nat×Option (Nat×AB))
def B2q:Nat→List Nat→Qs→Bool
 | 0,_,_=>true
 | n+1,b,qs=>(v8 b n || qs.any fun q=>Nat.beq n q.1) && B2q n b qs
def B2K(i:Nat):List (List Nat)→List Oper→Bool
 | c::bs,o::r=>(v8 c i || x6 o.op) && B2K i bs r
 | _,_=>true
def C43(H:Hp AB)(r:Option (Nat×AB)):Bool :=
 match r with
 | none=>true
 | some (b,ab)=>A9M H b ab
def B9u(b:List Nat)(H:Hp AB)(qs:Qs):Bool:=qs.all fun q=>v8 b q.1 || C43 H q.2
def B3M(o:Op)(i:Nat)(b:List Nat)(bs:List (List Nat))(r:List Oper)(qs:Qs):Bool:=wrO o && (B2q i b qs && B2K i bs r)
def q9(P:Program)(nt gl:Nat)(call:P4)(all:List Oper):List Oper→Nat→List (List Nat)→List Rec→Qs→S→Option S
 | [],_,_,_,_,s=>some s
 | _::_,_,[],_,_,_=>none
 | o::r,i,b::bs,rs,qs,⟨fr,⟨H,n,W,hi,lg⟩⟩=>match A0M nt fr lg all o,A9j nt o.dst && B5K nt gl o.op with
   | some (true,lg),true=>bif B3M o.op i b bs r qs then(match (X4 P call o).run fr ⟨H,n,W,hi,lg⟩with
      | some (v,m2)=>bif Nat.ble hi m2.hi && B9u b m2.H qs then(A77 o.dst).run v fr fun fr=>q9 P nt gl call all r (i+1) bs [] qs ⟨fr,m2⟩else none
      | none=>none)
     else match (bif C7A o.op then A3z fr ⟨H,n,W,hi,lg⟩ o b rs (X4 P call o)else none)with
      | some (v,lg2)=>(A77 o.dst).run v fr fun fr2=>q9 P nt gl call all r (i+1) bs rs ((i,B4E H fr o.op)::qs) ⟨fr2,⟨H,n,W,hi,lg2⟩⟩
      | none=>bif x6 o.op then none else B61 fr ⟨H,n,W,hi,lg⟩ o b rs (X4 P call o) fun v m2 =>
        (A77 o.dst).run v fr fun fr=>q9 P nt gl call all r (i+1) bs (⟨i,n,m2.n⟩::rs) qs ⟨fr,m2⟩
   | some (false,lg),true=>(A77 o.dst).run undef fr fun fr=>q9 P nt gl call all r (i+1) bs rs ((i,none)::qs) ⟨fr,⟨H,n,W,hi,lg⟩⟩
   | _,_=>none
def C04(l:List Nat)(b:Nat):List Nat:=bif v8 l b then l else J3 b fun b=>b::l
def B6k:List Nat→List Nat→List Nat
 | [],b=>b
 | x::a,b=>C04 (B6k a b) x
def A6f(acc:List (List Nat)):List Edge→List Nat
 | []=>[]
 | e::r=>bif Region.binds .any e then C04 (B6k (acc.getD e.on []) (A6f acc r)) e.on else A6f acc r
def Z3:List Oper→List (List Nat)→List (List Nat)
 | [],acc=>acc
 | o::r,acc=>R8 (A6f acc o.after.toList) fun a=>Z3 r (acc++[a])
def A5r:Operand→List Tmp
 | .tmp t=>[t]
 | _=>[]
def V8(ops:List Oper)(o:Oper):List Tmp :=
 o.dst.toList++(o.op.operands.toList.flatMap A5r++(match o.guard with
  | none=>[]
  | some (j,_)=>match ops[j]? with
    | some p=>p.dst.toList
    | none=>[]))
def C2e(an:List (List Nat))(i k:Nat):Bool:=bif Nat.blt i k then v8 (an.getD k []) i else v8 (an.getD i []) k
def A6n(an:List (List Nat))(i:Nat)(sl:List Tmp):List Oper→Nat→Bool
 | [],_=>true
 | p::r,k=>(Nat.beq k i || (match p.dst with|none=>true|some t=>!(v8 sl t) || C2e an i k)) && A6n an i sl r (k+1)
def A41(i:Nat):List Edge→Bool
 | []=>true
 | e::r=>(!(Region.binds .any e) || Nat.blt e.on i) && A41 i r
def B3k(ops:List Oper)(an:List (List Nat)):List Oper→Nat→Bool
 | [],_=>true
 | o::r,i=>A41 i o.after.toList && (A6n an i (V8 ops o) ops 0 && B3k ops an r (i+1))
def B2h(ops:Array Oper):Bool:=B3k ops.toList (Z3 ops.toList []) ops.toList 0
def B2l:Op→Bool
 | .move _|.assign _|.load _ _|.store _ _ _=>true
 | _=>false
def A4a:Op→Option (TypeId×Operand)
 | .load t x=>some (t,x)
 | .store t x _=>some (t,x)
 | _=>none
def A18:Op→Bool
 | .store _ _ _=>true
 | _=>false
def B9D:Op→List Tmp
 | .move x|.assign x=>A5r x
 | .load _ x=>A5r x
 | .store _ x y=>A5r x++A5r y
 | _=>[]
def B0s(o:Oper)(l:List Tmp):Bool :=
 match o.dst with
 | some d=>v8 l d
 | none=>false
def C9f(a b:Oper):Bool :=
 (match a.dst,b.dst with
   | some d,some e=>!(Nat.beq d e)
   | _,_=>true) && (!(B0s a (B9D b.op)) && (!(B0s b (B9D a.op)) && !(A18 a.op && A18 b.op)))
def A6V(o:Oper)(i:Nat):Bool:=o.after.any fun e=>Region.binds .any e && Nat.beq e.on i
def C05(l:List Oper):List Tmp:=l.flatMap fun o=>match A4a o.op with
 | some (_,x)=>A5r x
 | none=>[]
def B19(p:Oper→Oper→Bool)(l:List Oper):Bool :=
 (List.range l.length).all fun j=>(List.range j).all fun i=>match l[i]?,l[j]? with
   | some a,some b=>A6V b i || p a b
   | _,_=>true
def C7H(ads:List Tmp)(i:Nat)(o:Oper):Bool:=B2l o.op && ((match o.guard with|none=>true|some _=>false) && (!(B0s o ads) && o.after.all fun e=>!(Region.binds .any e) || Nat.blt e.on i))
def B9W(ads:List Tmp):Nat→List Oper→Bool
 | _,[]=>true
 | i,o::l=>C7H ads i o && B9W ads (i+1) l
def A3x(l:List Oper):Bool:=B9W (C05 l) 0 l && B19 C9f l
def B9Q(P:Program)(nt gl:Nat)(fr:Fr)(H:Hp AB)(o:Oper):Bool :=
 match A4a o.op with
 | none=>true
 | some (t,x)=>bif !(okX nt gl x)then false else match ev fr x,y0 P t,F7 P t with
   | .pointer (some a),some _,some s=>match a.spot,Hp.get H a.block with
     | none,some (.cells cs _ false)=>Nat.ble (a.off+s) cs.length && (Nat.blt a.off cs.length && Nat.ble a.block G2)
     | _,_=>false
   | _,_,_=>false
def C01(fr:Fr)(a b:Oper):Bool :=
 bif A18 a.op || A18 b.op then match A4a a.op,A4a b.op with
  | some (_,x),some (_,y)=>match ev fr x,ev fr y with
    | .pointer (some p),.pointer (some q)=>!(Nat.beq p.block q.block)
    | _,_=>false
  | _,_=>true else true
def A37(P:Program)(nt gl:Nat)(fr:Fr)(H:Hp AB)(l:List Oper):Bool:=l.all (B9Q P nt gl fr H) && B19 (C01 fr) l
structure A2J where
 run:S→Option (Ex×S)
def B04(f:A2J):Nat→S→Option (Ex×S)
 | 0,_=>none
 | n+1,s=>match f.run s with
   | some (.normal,s)=>B04 f n s
   | r=>r
def C0t(a b:A2J)(s:S):Option (Ex×S) :=
 match a.run s with
 | some (.normal,s)=>b.run s
 | r=>r
def B4b(c:XC)(a b:A2J)(s:S):Option (Ex×S) :=
 match c.run s.fr with
 | .bool true=>a.run s
 | .bool false=>b.run s
 | v=>match s with
   | ⟨fr,⟨H,n,W,hi,lg⟩⟩=>match brL lg v with
     | some (true,lg)=>a.run ⟨fr,⟨H,n,W,hi,lg⟩⟩
     | some (false,lg)=>b.run ⟨fr,⟨H,n,W,hi,lg⟩⟩
     | none=>none
def A9v(id:Nat)(c:A2J)(s:S):Option (Ex×S) :=
 match c.run s with
 | some (.exit j,s)=>bif Nat.beq j id then some (.normal,s)else some (.exit j,s)
 | r=>r
def Z1(r:C1s)(s:S):Option (Ex×S) :=
 match r.run s with
 | some s=>some (.normal,s)
 | none=>none
structure LpT where
 me:FuncId
 look:List Bool→Option (S→Option (Ex×S))
def B05(c:A2J)(L:S→Option (Ex×S)):Nat→S→Option (Ex×S)
 | 0,_=>none
 | n+1,s=>match L s with
   | some r=>some r
   | none=>match c.run s with
     | some (.normal,s)=>B05 c L n s
     | r=>r
def B4Z(c:A2J)(l:Option (S→Option (Ex×S)))(s:S):Option (Ex×S) :=
 match l with
 | some f=>B05 c f 4 s
 | none=>B04 c 1000000 s
def frL(fr:Fr):Nat→Nat→List Value
 | _,0=>[]
 | i,n+1=>fr.get i::frL fr (i+1) n
def C4k:Value→Nat
 | .pointer (some a)=>a.block
 | _=>0
def A2t(v:Value):List Nat :=
 match v with
 | .func (.yield 8) ⟨l⟩ ⟨[]⟩=>l.map C4k
 | _=>[]
def exN:Ex→Nat
 | .normal=>0
 | .ret=>2
 | .exit k=>k+4
def nEx:Nat→Option Ex
 | 0=>some .normal
 | 1=>none
 | 2=>some .ret
 | 3=>none
 | k+4=>some (.exit k)
def B2N:Ex→Bool
 | .normal=>true
 | _=>false
def A56(fr:Fr)(hi:Nat)(b:Nat)(r:Res):Option (Ex×S) :=
 match r with
 | some (_,m)=>match Hp.get m.H b with
   | some (.lp f q vs st)=>match nEx st with
     | some e=>bif Nat.ble hi m.hi then match A1Z m b (.lp f q vs 3)with
       | some m=>some (e,⟨fr,m⟩)
       | none=>none else none
     | none=>none
   | _=>none
 | none=>none
def A6L(P:Program)(f:FuncId):Bool :=
 match P.funcs.toList[f]? with
 | some fn=>match fn.body with
   | some _=>true
   | none=>false
 | none=>false
def A0d(P:Program)(nt:Nat)(call:P4)(f:FuncId)(q:List Bool)(g:Value)(fr:Fr)(m:Mem):Option (Ex×S) :=
 R8 (frL fr 0 nt) fun vs=>match e9 m (.lp f q vs 0) yv with
 | some (v,m1)=>match A8U g [v],A1R v with
   | some (k,as),some b=>bif A6L P k then A56 fr m1.hi b ((call.fn k).run as m1)else none
   | _,_=>none
 | none=>none
def A9t(P:Program)(nt:Nat)(call:P4)(f:FuncId)(q:List Bool)(x:XC)(s:S):Option (Ex×S) :=
 match s with
 | ⟨fr,m⟩=>bif Nat.ble nt 510 then match A1R (fr.get 511)with
   | some b0=>match Hp.get m.H b0 with
     | some (.lp _ _ _ 1)=>A0d P nt call f q (x.run fr) fr m
     | _=>none
   | none=>bif A4w (fr.get 511)then match e9 m (.dfr true) (fun b=>.pointer (some ⟨b,0,none⟩))with
      | some (.pointer (some a),m1)=>R8 (A2t (fr.get 510)) fun l=>A71 (sel 7) (sel 7) (sel 6) (dv (a.block::l)) fr fun fr2=>A0d P nt call f q (x.run fr) fr2 m1
      | _=>none else none
   else none
def M4(P:Program)(nt gl:Nat)(call:P4)(lp:LpT):List Bool→Code→A2J
 | _,.skip=>⟨fun s=>some (.normal,s)⟩
 | _,.label _=>⟨fun s=>some (.normal,s)⟩
 | _,.region _ ops d=>match d with
   | false=>⟨fun s=>Z1 (V2 P nt gl call ops.toList ops.toList) s⟩
   | true=>bif B2h ops then bif A3x ops.toList then⟨fun s=>bif A37 P nt gl s.fr s.m.H ops.toList then Z1 (V2 P nt gl call ops.toList ops.toList) s else Z1 ⟨q9 P nt gl call ops.toList ops.toList 0 (Z3 ops.toList []) [] []⟩ s⟩
     else⟨fun s=>Z1 ⟨q9 P nt gl call ops.toList ops.toList 0 (Z3 ops.toList []) [] []⟩ s⟩else⟨fun _=>none⟩
 | q,.seq a b=>⟨fun s=>C0t (M4 P nt gl call lp (q++[false]) a) (M4 P nt gl call lp (q++[true]) b) s⟩
 | q,.cond c a b=>bif okX nt gl c then⟨fun s=>B4b (S7 c) (M4 P nt gl call lp (q++[false]) a) (M4 P nt gl call lp (q++[true]) b) s⟩else⟨fun _=>none⟩
 | q,.block id c=>⟨fun s=>A9v id (M4 P nt gl call lp (q++[false]) c) s⟩
 | q,.loop c=>⟨fun s=>B4Z (M4 P nt gl call lp (q++[false]) c) (lp.look q) s⟩
 | q,.rangeFunc x _ _ _=>bif okX nt gl x then⟨fun s=>A9t P nt call lp.me q (S7 x) s⟩else⟨fun _=>none⟩
 | q,.scope c=>M4 P nt gl call lp (q++[false]) c
 | _,.exit id=>⟨fun s=>some (.exit id,s)⟩
 | _,.ret=>⟨fun s=>some (.ret,s)⟩
 | _,_=>⟨fun _=>none⟩
def B5a(ids:Value→List Nat):List Value→List Nat
 | []=>[]
 | v::r=>ids v++B5a ids r
def B2S:Nat→Value→List Nat
 | 0,_=>[]
 | _+1,.pointer (some a)=>[a.block]
 | _+1,.slice (some a) _ _=>[a.block]
 | _+1,.map (some b)=>[b]
 | d+1,.func _ a b=>B5a (B2S d) a.toList++B5a (B2S d) b.toList
 | d+1,.iface _ v=>B2S d v
 | d+1,.agg cs=>B5a (B2S d) cs.toList
 | d+1,.tuple cs=>B5a (B2S d) cs.toList
 | _+1,_=>[]
def C9k:AB→List Nat
 | .cells cs _ _=>B5a (B2S 10) cs
 | .mp _ _ _=>[]
 | .iter _ _=>[]
 | .lp _ _ vs _=>B5a (B2S 10) vs
 | .dfr _=>[]
 | .sq _ _ _ g _=>[g]
 | .frz=>[]
def B3W(n0:Nat)(H:Hp AB):Nat→List Nat→List Nat→List Nat
 | 0,_,acc=>acc
 | _+1,[],acc=>acc
 | f+1,b::r,acc=>bif Nat.blt b n0 || v8 acc b then B3W n0 H f r acc else match Hp.get H b with
   | some ab=>B3W n0 H f (C9k ab++r) (b::acc)
   | none=>B3W n0 H f r acc
def A1l(H' H:Hp AB):List Nat→Hp AB
 | []=>H
 | b::r=>Hp.put H b (Hp.get H' b) fun H=>A1l H' H r
def wOf(H:Hp AB):List Nat→List Nat
 | []=>[]
 | b::r=>(match Hp.get H b with|some ab=>C9k ab|none=>[])++wOf H r
def A5F:List Nat→List Nat→List Nat
 | [],acc=>acc
 | b::r,acc=>bif v8 acc b then A5F r acc else A5F r (b::acc)
def A6v(low:Value→Bool):List Value→Bool
 | []=>true
 | v::r=>low v && A6v low r
def A0K(n:Nat):Nat→Value→Bool
 | 0,_=>false
 | _+1,.pointer (some a)=>Nat.blt a.block n
 | _+1,.slice (some a) _ _=>Nat.blt a.block n
 | _+1,.map (some b)=>Nat.blt b n
 | d+1,.func _ a b=>A6v (A0K n d) a.toList && A6v (A0K n d) b.toList
 | d+1,.iface _ v=>A0K n d v
 | d+1,.agg cs=>A6v (A0K n d) cs.toList
 | d+1,.tuple cs=>A6v (A0K n d) cs.toList
 | _+1,.complex _ _ _=>true
 | _+1,v=>H5 v
def C2r(n:Nat):Option AB→Bool
 | none=>true
 | some (.cells cs _ _)=>A6v (A0K n 10) cs
 | some (.mp _ _ _)=>true
 | some (.iter _ _)=>true
 | some (.lp _ _ vs _)=>A6v (A0K n 10) vs
 | some (.dfr _)=>true
 | some (.sq _ _ _ g _)=>Nat.blt g n
 | some .frz=>true
def B5S(n:Nat)(H:Hp AB):List Nat→Bool
 | []=>true
 | b::r=>C2r n (Hp.get H b) && B5S n H r
def gcM(m m':Mem)(v:Value):Option Mem :=
 let W:=A5F (m'.W.filter fun b=>Nat.blt b m.n || Nat.ble m'.hi b) []
 bif A0K m.n 10 v && B5S m.n m'.H W then
  bif B2p W then B2V (A1l m'.H m.H W) fun H=>J3 m'.hi fun hi=>R8 (W++m.W) fun W=>some ⟨H,m.n,W,hi,m'.lg⟩else none
 else
  let ids:=(B3W m.n m'.H 100000 (B2S 10 v++wOf m'.H W) []).filter fun b=>Nat.ble m.n b && Nat.blt b m'.hi
  bif B2p (W++ids)then B2V (A1l m'.H m.H (W++ids)) fun H=>J3 m'.n fun n=>J3 m'.hi fun hi=>R8 (W++m.W) fun W=>some ⟨H,n,W,hi,m'.lg⟩else none
def C8k(P:Program)(nt:Nat)(s:S):ResultVar→Option Value
 | .tmp t=>bif Nat.blt t nt then some (s.fr.get t)else none
 | .cell a t=>bif Nat.blt a nt then match s.fr.get a with
   | .pointer (some a)=>B6c P s.m t a
   | _=>none else none
def B7n(P:Program)(nt:Nat)(s:S):List ResultVar→Option (List Value)
 | []=>some []
 | r::rs=>match C8k P nt s r,B7n P nt s rs with
   | some v,some vs=>some (v::vs)
   | _,_=>none
def B7m(fn:Func)(P:Program)(s:S):Option Value :=
 match B7n P fn.ntmps s fn.results.toList with
 | some [v]=>some v
 | some vs=>some (.tuple ⟨vs⟩)
 | none=>none
def A1u(fr:Fr):Nat→List Value→Fr
 | _,[]=>fr
 | i,v::r=>A71 (sel (i / 64%8)) (sel (i / 8%8)) (sel (i%8)) v fr fun fr=>A1u fr (i+1) r
def A63(l:List UInt8)(c:UInt8):Nat→Int
 | i=>match l with
   | [] => -1
   | b::r=>bif decide (b=c)then(i:Int)else A63 r c (i+1)
def countB(c:UInt8):List UInt8→Nat→Nat
 | [],n=>n
 | b::r,n=>bif decide (b=c)then J3 (n+1) (countB c r)else countB c r n
def A5V(k:EK)(args:List Value)(m:Mem):Res :=
 match k,args with
 | .noEscape,[v]=>some (v,m)
 | .indexByteString,[.string s,.int .u8 (.ofNat c)]=>some (.int .i64 (A63 s.data.toList (UInt8.ofNat c) 0),m)
 | .countString,[.string s,.int .u8 (.ofNat c)]=>some (.int .i64 (countB (UInt8.ofNat c) s.data.toList 0),m)
 | .makeNoZero e,[.int .i64 (.ofNat n)]=>bif Nat.ble n 1000000000 then e9 m (.cells [] e false) fun b=>.slice (some ⟨b,0,none⟩) n M0 else none
 | _,_=>none
def A5s:List Nat→Mem→Option Mem
 | [],m=>some m
 | b::r,m=>match Hp.get m.H b with
   | some (.dfr true)=>match A1Z m b (.dfr false)with
     | some m=>A5s r m
     | none=>none
   | _=>none
def dvG(nt:Nat)(fr:Fr):List Nat:=bif Nat.ble nt 510 then A2t (fr.get 510)else[]
def C7w(fn:Func)(P:Program)(m:Mem)(r:Option (Ex×S)):Res :=
 match r with
 | some (.normal,⟨fr,m1⟩)|some (.ret,⟨fr,m1⟩)=>match A5s (dvG fn.ntmps fr) m1 with
   | some m1=>match B7m fn P ⟨fr,m1⟩with
     | some v=>match gcM m m1 v with
       | some m=>some (v,m)
       | none=>none
     | none=>none
   | none=>none
 | _=>none
def B45(c:A2J)(fr:Fr)(m:Mem):Option (Ex×S) :=
 match m with
 | ⟨H,n,_,hi,lg⟩=>c.run ⟨fr,⟨H,n,[],hi,lg⟩⟩
def A7q(fn:Func)(P:Program)(c:A2J)(args:List Value)(m:Mem):Res :=
 bif Nat.ble args.length fn.ntmps && Nat.ble fn.ntmps 512 then C7w fn P m (B45 c (A1u fr0 0 args) m)else none
structure Cx where
 P:Program
 ext:List (FuncId×EK)
 gl:Nat
 con:FuncId→Option FnC
 lp:FuncId→LpT
def B1Z(C:Cx)(call:P4)(f:FuncId):FnC :=
 match C.P.funcs.toList[f]? with
 | none=>⟨fun _ _=>none⟩
 | some fn=>match C.con f with
   | some c=>c
   | none=>match fn.body with
     | none=>match B4K C.ext f with
       | some k=>⟨A5V k⟩
       | none=>⟨fun _ _=>none⟩
     | some c=>⟨A7q fn C.P (M4 C.P fn.ntmps C.gl call (C.lp f) [] c)⟩
def A7Z:List Tmp→List Value→Fr→Option Fr
 | [],[],fr=>some fr
 | t::ts,v::vs,fr=>A71 (sel (t / 64%8)) (sel (t / 8%8)) (sel (t%8)) v fr fun fr=>A7Z ts vs fr
 | _,_,_=>none
def A53(b:Nat)(r:Option (Ex×S)):Res :=
 match r with
 | some (e,⟨_,m⟩)=>match Hp.get m.H b with
   | some (.lp f q vs 1)=>J3 (exN e) fun st=>match A1Z m b (.lp f q vs st)with
     | some m=>some (.bool (B2N e),m)
     | none=>none
   | _=>none
 | none=>none
def A52(b:Nat)(c:A2J)(r:Option (Ex×S)):Res :=
 match r with
 | some (.normal,⟨fr,m⟩)=>match Hp.get m.H b with
   | some (.lp f q vs 0)=>match A1Z m b (.lp f q vs 1)with
     | some m=>A53 b (c.run ⟨fr,m⟩)
     | none=>none
   | _=>none
 | _=>none
def B12(C:Cx)(call:P4):FnC:=⟨fun vs m =>
 match vs with
 | []=>none
 | v::args=>match A1R v with
   | none=>none
   | some b=>match Hp.get m.H b with
     | some (.lp f q fs 0)=>match C.P.funcs.toList[f]? with
       | none=>none
       | some fn=>match fn.body with
         | none=>none
         | some body=>match H8 q body with
           | some (.rangeFunc _ ps as bd)=>bif Nat.ble fn.ntmps 510 && ps.toList.all (fun t=>Nat.blt t fn.ntmps)then match A7Z ps.toList args (A1u fr0 0 fs)with
             | some fr=>A71 (sel 7) (sel 7) (sel 7) v fr fun fr=>A52 b (M4 C.P fn.ntmps C.gl call (C.lp f) (q++[true]) bd) ((M4 C.P fn.ntmps C.gl call (C.lp f) (q++[false]) as).run ⟨fr,m⟩)
             | none=>none else none
           | _=>none
     | _=>none⟩
def A5G(C:Cx):Nat→P4
 | 0=>⟨fun _=>⟨fun _ _=>none⟩,⟨fun _ _=>none⟩⟩
 | d+1=>⟨B1Z C (A5G C d),B12 C (A5G C d)⟩
end Go.Sx
