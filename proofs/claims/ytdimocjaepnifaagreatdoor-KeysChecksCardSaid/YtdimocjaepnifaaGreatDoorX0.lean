/- The law KeysChecks: for every input the call returns true, and the arguments read behind it as they read before. No condition. -/
import Derived.WalkKit
import Derived.OrdersHeld
import Derived.KernelRfl
namespace Go.Sx
set_option linter.all false
set_option linter.unusedVariables false
open Go
abbrev A0_:=@Array.all_eq_true'
abbrev H8:=@Array.ext'
abbrev B6:=@Array.getD_eq_getD_getElem?
abbrev R0:=@Array.getElem?_append_left
abbrev F5:=@Array.getElem?_eq_getElem
abbrev D3:=@Array.getElem?_eq_some_iff
abbrev G0:=@Array.getElem?_modify
abbrev Y0:=@Array.getElem?_push
abbrev A1f:=@Array.getElem?_replicate
abbrev F0:=@Array.getElem?_setIfInBounds
abbrev R3:=@Array.getElem?_toList
abbrev P8:=@Array.length_toList
abbrev A1C:=@Array.mapM_eq_mapM_toList
abbrev W9:=@Array.mk.injEq
abbrev w5:=@BitVec.toNat_and
abbrev Q9:=@BitVec.toNat_ofInt
abbrev H6:=@Bool.and_eq_true
abbrev A1e:=@Bool.and_true
abbrev K3:=@Bool.eq_iff_iff
abbrev I2:=@Bool.false_eq_true
abbrev P2:=@Bool.false_or
abbrev N3:=@Bool.not_true
abbrev W8:=@Bool.or_eq_false_iff
abbrev H7:=@Bool.or_eq_true
abbrev I1:=@Decidable.not_not
abbrev A2b:=@Int.ofNat.injEq
abbrev S2:=@Int.toNat_natCast
abbrev A0O:=@Int.toNat_of_nonneg
abbrev A2a:=@List.all_append
abbrev x7:=@List.all_cons
abbrev D4:=@List.all_eq_true
abbrev Z0:=@List.any_cons
abbrev U1:=@List.any_eq_true
abbrev V9:=@List.append_assoc
abbrev C8:=@List.cons.injEq
abbrev X4:=@List.cons_append
abbrev A09:=@List.drop_drop
abbrev X6:=@List.drop_eq_getElem_cons
abbrev A08:=@List.drop_zero
abbrev v8:=@List.eq_nil_iff_forall_not_mem
abbrev L6:=@List.eq_nil_of_length_eq_zero
abbrev o8:=@List.ext_getElem?
abbrev A0N:=@List.filter_eq_self
abbrev A0J:=@List.find?_cons
abbrev A1Y:=@List.flatMap_cons
abbrev B9:=@List.getD_eq_getElem?_getD
abbrev E4:=@List.getElem?_append_left
abbrev D7:=@List.getElem?_append_right
abbrev P5:=@List.getElem?_cons_succ
abbrev P4:=@List.getElem?_cons_zero
abbrev G4:=@List.getElem?_drop
abbrev A3:=@List.getElem?_eq_getElem
abbrev O5:=@List.getElem?_eq_none
abbrev A1B:=@List.getElem?_eq_none_iff
abbrev B1:=@List.getElem?_eq_some_iff
abbrev G3:=@List.getElem?_map
abbrev A0C:=@List.getElem?_set_ne
abbrev U8:=@List.getElem?_set_self
abbrev E8:=@List.getElem?_take_of_lt
abbrev I4:=@List.getElem?_toArray
abbrev O9:=@List.getElem_mem
abbrev X9:=@List.getElem_of_mem
abbrev A9:=@List.length_append
abbrev B3:=@List.length_cons
abbrev B4:=@List.length_drop
abbrev F3:=@List.length_eq_zero_iff
abbrev F7:=@List.length_map
abbrev A6:=@List.length_nil
abbrev A2Z:=@List.length_set
abbrev B0:=@List.length_take
abbrev V4:=@List.map_append
abbrev D5:=@List.map_cons
abbrev G7:=@List.map_nil
abbrev C4:=@List.mem_append
abbrev C3:=@List.mem_cons
abbrev C7:=@List.mem_cons_of_mem
abbrev B8:=@List.mem_cons_self
abbrev P7:=@List.mem_filter
abbrev P1:=@List.mem_map
abbrev D6:=@List.mem_of_getElem?
abbrev o7:=@List.mem_range
abbrev R6:=@List.nil_append
abbrev J5:=@List.not_mem_nil
abbrev r7:=@List.take_append_drop
abbrev x6:=@Nat.add_assoc
abbrev A2N:=@Nat.add_comm
abbrev G2:=@Nat.add_mul
abbrev U0:=@Nat.add_sub_cancel_left
abbrev A1y:=@Nat.and_le_right
abbrev A0U:=@Nat.beq_refl
abbrev A4L:=@Nat.ble_eq
abbrev C6:=@Nat.ble_eq_true_of_le
abbrev A0:=@Nat.eq_of_beq_eq_true
abbrev Q8:=@Nat.eq_zero_or_pos
abbrev A1:=@Nat.le_of_ble_eq_true
abbrev A2M:=@Nat.le_of_lt
abbrev A7:=@Nat.le_refl
abbrev d8:=@Nat.le_succ
abbrev C5:=@Nat.le_trans
abbrev D2:=@Nat.lt_of_lt_of_le
abbrev F2:=@Nat.lt_or_ge
abbrev I0:=@Nat.lt_succ_self
abbrev A1x:=@Nat.mod_eq_of_lt
abbrev A4K:=@Nat.mod_lt
abbrev X3:=@Nat.mul_comm
abbrev Z5:=@Nat.mul_div_cancel
abbrev A3G:=@Nat.mul_le_mul
abbrev E9:=@Nat.mul_le_mul_right
abbrev A1X:=@Nat.one_mul
abbrev A2L:=@Nat.sub_self
abbrev V8:=@Nat.succ_le_of_lt
abbrev E5:=@Nat.zero_add
abbrev A0B:=@Nat.zero_le
abbrev A2K:=@Nat.zero_mul
abbrev K5:=@Option.bind_eq_some_iff
abbrev Q4:=@Option.bind_some
abbrev v7:=@Option.getD_some
abbrev n9:=@Option.map_eq_some_iff
abbrev K2:=@Option.map_some
abbrev A5:=@Option.some.inj
abbrev D1:=@Option.some.injEq
abbrev K4:=@Option.some_ne_none
abbrev N2:=@Prod.mk.injEq
structure N8 (α:Type) where
 c0:α
 c1:α
 c2:α
 c3:α
 c4:α
 c5:α
 c6:α
 c7:α
structure Sel where
 get:{α:Type}→N8 α→α
 upd:{α β:Type}→N8 α→α→(N8 α→β)→β
def sel:Nat→Sel
 | 0=>⟨fun n=>n.c0,fun n v k=>match n with|⟨a0,a1,a2,a3,a4,a5,a6,a7⟩=>k ⟨v,a1,a2,a3,a4,a5,a6,a7⟩⟩
 | 1=>⟨fun n=>n.c1,fun n v k=>match n with|⟨a0,a1,a2,a3,a4,a5,a6,a7⟩=>k ⟨a0,v,a2,a3,a4,a5,a6,a7⟩⟩
 | 2=>⟨fun n=>n.c2,fun n v k=>match n with|⟨a0,a1,a2,a3,a4,a5,a6,a7⟩=>k ⟨a0,a1,v,a3,a4,a5,a6,a7⟩⟩
 | 3=>⟨fun n=>n.c3,fun n v k=>match n with|⟨a0,a1,a2,a3,a4,a5,a6,a7⟩=>k ⟨a0,a1,a2,v,a4,a5,a6,a7⟩⟩
 | 4=>⟨fun n=>n.c4,fun n v k=>match n with|⟨a0,a1,a2,a3,a4,a5,a6,a7⟩=>k ⟨a0,a1,a2,a3,v,a5,a6,a7⟩⟩
 | 5=>⟨fun n=>n.c5,fun n v k=>match n with|⟨a0,a1,a2,a3,a4,a5,a6,a7⟩=>k ⟨a0,a1,a2,a3,a4,v,a6,a7⟩⟩
 | 6=>⟨fun n=>n.c6,fun n v k=>match n with|⟨a0,a1,a2,a3,a4,a5,a6,a7⟩=>k ⟨a0,a1,a2,a3,a4,a5,v,a7⟩⟩
 | _=>⟨fun n=>n.c7,fun n v k=>match n with|⟨a0,a1,a2,a3,a4,a5,a6,a7⟩=>k ⟨a0,a1,a2,a3,a4,a5,a6,v⟩⟩
def A4J{α:Type}(v:α):N8 α:=⟨v,v,v,v,v,v,v,v⟩
def A9x{α β:Type}(n:N8 α)(k:N8 α→β):β :=
 match n with
 | ⟨a0,a1,a2,a3,a4,a5,a6,a7⟩=>k ⟨a0,a1,a2,a3,a4,a5,a6,a7⟩
abbrev Fr:=N8 (N8 (N8 Value))
def Fr.get(fr:Fr)(t:Nat):Value:=(sel (t%8)).get ((sel (t / 8%8)).get ((sel (t / 64%8)).get fr))
def A59{β:Type}(a b c:Sel)(v:Value)(fr:Fr)(k:Fr→β):β :=
 c.upd (b.get (a.get fr)) v fun n2=>b.upd (a.get fr) n2 fun n1=>a.upd fr n1 k
def Fr.set(fr:Fr)(t:Nat)(v:Value):Fr:=A59 (sel (t / 64%8)) (sel (t / 8%8)) (sel (t%8)) v fr fun fr=>fr
def fr0:Fr:=A4J (A4J (A4J (.tuple #[])))
abbrev Hp(α:Type):=N8 (N8 (N8 (N8 (N8 (N8 (Option α))))))
def Hp.get{α:Type}(h:Hp α)(n:Nat):Option α :=
 (sel (n%8)).get ((sel (n / 8%8)).get ((sel (n / 64%8)).get ((sel (n / 512%8)).get ((sel (n / 4096%8)).get ((sel (n / 32768%8)).get h)))))
def u6{α β:Type}(a b c d e f:Sel)(v:Option α)(h:Hp α)(k:Hp α→β):β :=
 f.upd (e.get (d.get (c.get (b.get (a.get h))))) v fun n5=>e.upd (d.get (c.get (b.get (a.get h)))) n5 fun n4=>d.upd (c.get (b.get (a.get h))) n4 fun n3=>c.upd (b.get (a.get h)) n3 fun n2=>b.upd (a.get h) n2 fun n1=>a.upd h n1 k
def Hp.put{α β:Type}(h:Hp α)(n:Nat)(v:Option α)(k:Hp α→β):β :=
 u6 (sel (n / 32768%8)) (sel (n / 4096%8)) (sel (n / 512%8)) (sel (n / 64%8)) (sel (n / 8%8)) (sel (n%8)) v h k
def Hp.set{α:Type}(h:Hp α)(n:Nat)(v:Option α):Hp α:=h.put n v fun h=>h
def hp0{α:Type}:Hp α:=A4J (A4J (A4J (A4J (A4J (A4J none)))))
def G1:Nat:=262143
def I9{β:Type}(n:Nat)(k:Nat→β):β :=
 match n with
 | 0=>k 0
 | m+1=>k (Nat.succ m)
def A7C{β:Type}(i:Int)(k:Int→β):β :=
 match i with
 | .ofNat n=>I9 n fun n=>k (.ofNat n)
 | .negSucc n=>I9 n fun n=>k (.negSucc n)
def P6{α β:Type}:List α→(List α→β)→β
 | [],k=>k []
 | x::r,k=>P6 r fun r=>k (x::r)
def B2G:IntKind→Nat
 | .i8=>127|.i16=>32767|.i32=>2147483647|.i64=>9223372036854775807
 | .u8=>255|.u16=>65535|.u32=>4294967295|.u64=>18446744073709551615
def A8D(k:IntKind)(n:Int):Int :=
 match n with
 | .ofNat m=>bif Nat.ble m (B2G k)then .ofNat m else k.wrap (.ofNat m)
 | .negSucc m=>k.wrap (.negSucc m)
def C2I(a b:Int):Int :=
 match a,b with
 | .ofNat m,.ofNat n=>.ofNat (Nat.add m n)
 | a,b=>a+b
def C0Z(a b:Int):Int :=
 match a,b with
 | .ofNat m,.ofNat n=>bif Nat.ble n m then .ofNat (Nat.sub m n)else .ofNat m - .ofNat n
 | a,b=>a-b
def C1a(a b:Int):Int :=
 match a,b with
 | .ofNat m,.ofNat n=>.ofNat (Nat.mul m n)
 | a,b=>a*b
def ltF(a b:Int):Bool :=
 match a,b with
 | .ofNat m,.ofNat n=>Nat.blt m n
 | .negSucc _,.ofNat _=>true
 | .ofNat _,.negSucc _=>false
 | .negSucc m,.negSucc n=>Nat.blt n m
def leF(a b:Int):Bool :=
 match a,b with
 | .ofNat m,.ofNat n=>Nat.ble m n
 | .negSucc _,.ofNat _=>true
 | .ofNat _,.negSucc _=>false
 | .negSucc m,.negSucc n=>Nat.ble n m
def A78(a b:Int):Bool :=
 match a,b with
 | .ofNat m,.ofNat n=>Nat.beq m n
 | .negSucc m,.negSucc n=>Nat.beq m n
 | _,_=>false
def A6p:IntKind→IntKind→Bool
 | .i8,.i8|.i16,.i16|.i32,.i32|.i64,.i64|.u8,.u8|.u16,.u16|.u32,.u32|.u64,.u64=>true
 | _,_=>false
def mkI(k:IntKind)(n:Int):Value:=A7C n fun n=>.int k n
inductive U where
 | none
 | int (k:IntKind) (n:Int)
 | bool (b:Bool)
 | str (s:List UInt8)
 | seq (nul:Bool) (w:Nat) (rows:List (List U))
inductive LOp where
 | bin (op:BinOp)
 | un (op:UnOp)
 | conv (k:IntKind)
 | len
 | idx
 | sub
 | sub1
 | sel
 | eqs
 | inb
 | max
 | min
 | mks
 | inbs (w:Nat)
 | get (w o:Nat)
 | mk (w:Nat)
 | nilw (w:Nat)
 | nilp
 | snoc (w:Nat)
 | cat (w:Nat)
 | cats
 | set (w o:Nat)
 | subs (w:Nat)
 | str
 | byt
 | rep (w:Nat)
 | ustr
 | mhas (w kw:Nat)
 | mget (w kw o:Nat)
 | mput (w kw:Nat)
inductive Y8 where
 | lt (i t:Nat) (op:LOp) (xs:List Value)
 | dt (i t:Nat) (op:LOp) (xs:List Value)
 | br (i:Nat) (b:Bool)
 | as (op:LOp) (xs:List Value)
 | con (spec:List U→Option (Nat×List U)) (xs:List Value) (i d n:Nat)
structure Lg where
 nx:Nat
 pi:List Nat
 log:List Y8
def hole(i t:Nat):Value:=.complex .f64 i t
def junk:Value:=.complex .f32 0 0
def ixp(a:Addr)(s:Nat)(i:Value)(n:Nat):Value:=.func (.yield 1) ⟨[.pointer (some a),.int .i64 (.ofNat s),i,.int .i64 (.ofNat n)]⟩ ⟨[]⟩
def dat(b i t:Nat):Value:=.func (.yield 2) ⟨[.pointer (some ⟨b,0,none⟩),.complex .f64 i t]⟩ ⟨[]⟩
def clp(b i t:Nat):Value:=.func (.yield 3) ⟨[.pointer (some ⟨b,0,none⟩),.complex .f64 i t]⟩ ⟨[]⟩
def own(b i t:Nat):Value:=.func (.yield 4) ⟨[.pointer (some ⟨b,0,none⟩),.complex .f64 i t]⟩ ⟨[]⟩
def dpt(b i t:Nat)(z:Value)(o:Nat):Value:=.func (.yield 5) ⟨[.pointer (some ⟨b,0,none⟩),.complex .f64 i t,z,.int .i64 (.ofNat o)]⟩ ⟨[]⟩
def opt(b i t:Nat)(z:Value)(o:Nat):Value:=.func (.yield 6) ⟨[.pointer (some ⟨b,0,none⟩),.complex .f64 i t,z,.int .i64 (.ofNat o)]⟩ ⟨[]⟩
def yv(b:Nat):Value:=.func (.yield 7) ⟨[.pointer (some ⟨b,0,none⟩)]⟩ ⟨[]⟩
def sdt(b:Nat):Value:=.func (.yield 9) ⟨[.pointer (some ⟨b,0,none⟩)]⟩ ⟨[]⟩
def dv(ids:List Nat):Value:=.func (.yield 8) ⟨ids.map fun b=>.pointer (some ⟨b,0,none⟩)⟩ ⟨[]⟩
def B6j:Value→Bool
 | .complex .f32 _ _=>true
 | _=>false
def one:Value:=.complex .f32 1 0
def A2A:Value→Bool
 | .complex .f32 i _=>!(Nat.beq i 1)
 | _=>false
def A1r:IntKind→Nat
 | .i8=>0|.i16=>1|.i32=>2|.i64=>3|.u8=>4|.u16=>5|.u32=>6|.u64=>7
def F6:Value→Nat
 | .int k _=>A1r k
 | .bool _=>8
 | .string _=>9
 | .complex .f64 _ t=>t
 | _=>99
inductive AB where
 | cells (cs:List Value) (T:TypeId) (ro:Bool)
 | sq (c t:Nat) (T:TypeId) (g:Nat) (ro:Bool)
 | frz
 | mp (c t:Nat) (T:TypeId)
 | iter (s:ByteArray) (pos:Nat)
 | lp (f:FuncId) (q:List Bool) (vs:List Value) (st:Nat)
 | dfr (b:Bool)
structure Mem where
 H:Hp AB
 n:Nat
 W:List Nat
 hi:Nat
 lg:Lg
structure S where
 fr:Fr
 m:Mem
inductive Ex where
 | normal
 | exit (id:Nat)
 | ret
def J2:List Bool→Code→Option Code
 | [],c=>some c
 | false::q,.seq a _=>J2 q a
 | true::q,.seq _ b=>J2 q b
 | false::q,.cond _ a _=>J2 q a
 | true::q,.cond _ _ b=>J2 q b
 | false::q,.block _ c=>J2 q c
 | false::q,.scope c=>J2 q c
 | false::q,.loop c=>J2 q c
 | false::q,.rangeFunc _ _ a _=>J2 q a
 | true::q,.rangeFunc _ _ _ b=>J2 q b
 | _::_,_=>none
def L9:Nat:=9223372036854775808
def G9:Value→Bool
 | .bool _|.int _ _|.string _|.pointer none|.slice none _ _|.map none|.nilFunc|.nilIface=>true
 | _=>false
def B3T:Value→Bool
 | .agg cs=>cs.toList.all G9
 | v=>G9 v
def ev(fr:Fr):Operand→Value
 | .tmp t=>fr.get t
 | .const v=>v
 | .global g=>.pointer (some ⟨g,0,none⟩)
 | .func f=>.func (.func f) #[] #[]
def okX(nt gl:Nat):Operand→Bool
 | .tmp t=>Nat.blt t nt
 | .const v=>B3T v
 | .global g=>Nat.blt g gl
 | .func _=>true
def evL(fr:Fr):List Operand→List Value
 | []=>[]
 | x::r=>ev fr x::evL fr r
def evP(fr:Fr):List (Nat×Operand)→List (Nat×Value)
 | []=>[]
 | (i,x)::r=>(i,ev fr x)::evP fr r
def evO(fr:Fr):Option Operand→Option Value
 | none=>none
 | some x=>some (ev fr x)
structure XC where
 run:Fr→Value
def C2S(a b c:Sel):XC:=⟨fun fr=>c.get (b.get (a.get fr))⟩
def Q1:Operand→XC
 | .tmp t=>C2S (sel (t / 64%8)) (sel (t / 8%8)) (sel (t%8))
 | .const v=>⟨fun _=>v⟩
 | .global g=>⟨fun _=>.pointer (some ⟨g,0,none⟩)⟩
 | .func f=>⟨fun _=>.func (.func f) #[] #[]⟩
theorem A0c(x:Operand)(fr:Fr):(Q1 x).run fr=ev fr x:=by cases x<;>rfl
structure LC where
 run:Fr→List Value
def C1_(x:XC)(r:LC)(fr:Fr):List Value:=x.run fr::r.run fr
def A52:List Operand→LC
 | []=>⟨fun _=>[]⟩
 | x::r=>⟨fun fr=>C1_ (Q1 x) (A52 r) fr⟩
theorem A3h(fr:Fr):∀ xs:List Operand,(A52 xs).run fr=evL fr xs
 | []=>rfl
 | x::r=>by
   show(Q1 x).run fr::(A52 r).run fr=_;rw[A0c,A3h fr r];rfl
abbrev Res:=Option (Value×Mem)
def upN(hi n:Nat):Nat:=bif Nat.blt n hi then hi else Nat.succ n
def Mem.wLg(m:Mem)(lg:Lg):Mem :=
 match m with
 | ⟨H,n,W,hi,_⟩=>⟨H,n,W,hi,lg⟩
def T7(m:Mem)(t:Nat)(op:LOp)(xs:List Value):Res :=
 match m with
 | ⟨H,n,W,hi,⟨nx,pi,log⟩⟩=>I9 nx fun nx=>I9 t fun t=>P6 xs fun xs=>some (hole nx t,⟨H,n,W,hi,⟨Nat.succ nx,pi,.lt nx t op xs::log⟩⟩)
def A6A(m:Mem)(t:Nat)(op:LOp)(xs:List Value)(k:Nat→Mem→Res):Res :=
 match m with
 | ⟨H,n,W,hi,⟨nx,pi,log⟩⟩=>I9 nx fun nx=>I9 t fun t=>P6 xs fun xs=>k nx ⟨H,n,W,hi,⟨Nat.succ nx,pi,.dt nx t op xs::log⟩⟩
def A7F:List Y8→Nat→Option Bool
 | [],_=>none
 | .br j b::r,i=>bif Nat.beq j i then some b else A7F r i
 | _::r,i=>A7F r i
def brL(lg:Lg)(c:Value):Option (Bool×Lg) :=
 match c with
 | .bool b=>some (b,lg)
 | .complex .f64 i 8=>match lg with
   | ⟨nx,pi,log⟩=>match A7F log i with
     | some b=>some (b,⟨nx,pi,log⟩)
     | none=>match pi with
       | 1::r=>some (true,⟨nx,r,.br i true::log⟩)
       | 0::r=>some (false,⟨nx,r,.br i false::log⟩)
       | _=>none
 | _=>none
def X1(m:Mem)(ab:AB)(k:Nat→Value):Res :=
 match m with
 | ⟨H,n,W,hi,lg⟩=>bif Nat.ble n G1 then I9 n fun n=>I9 (upN hi n) fun hi=>Hp.put H n (some ab) fun H=>some (k n,⟨H,Nat.succ n,W,hi,lg⟩)else none
def A0l(m:Mem)(id:Nat)(ab:AB):Option Mem :=
 match m with
 | ⟨H,n,W,hi,lg⟩=>bif Nat.ble id G1 then Hp.put H id (some ab) fun H=>I9 id fun id=>some ⟨H,n,id::W,hi,lg⟩else none
def A2R(m:Mem)(id:Nat):Mem :=
 match m with
 | ⟨H,n,W,hi,lg⟩=>Hp.put H id none fun H=>I9 id fun id=>⟨H,n,id::W,hi,lg⟩
def B67(cs:List Value)(o n:Nat):Option (List Value) :=
 let r:=(cs.drop o).take n
 bif Nat.beq r.length n then some r else none
def Z8(m:Mem)(a:Addr)(n:Nat):Option (List Value) :=
 match a.spot,Hp.get m.H a.block with
 | none,some (.cells cs _ _)=>B67 cs a.off n
 | _,_=>none
def y0:List Value→Nat→List Value→List Value
 | cs,_,[]=>cs
 | cs,k,v::r=>y0 (cs.set k v) (k+1) r
def flat:Value→Bool
 | .agg _|.tuple _=>false
 | .complex .f32 i _=>Nat.beq i 1
 | _=>true
def A31(m:Mem)(a:Addr)(vs:List Value):Option Mem :=
 match a.spot,Hp.get m.H a.block with
 | none,some (.cells cs T false) =>
   bif Nat.ble (a.off+vs.length) cs.length && vs.all flat then P6 (y0 cs a.off vs) fun cs=>A0l m a.block (.cells cs T false)else none
 | _,_=>none
variable (P:Program)
def l6(t:TypeId):Option Bool :=
 match P.underlying t with
 | some (.struct _)|some (.array _ _)=>some true
 | some _=>some false
 | none=>none
def F9(t:TypeId):Option Nat :=
 match P.info? t with
 | some i=>some i.size
 | none=>none
def A1D(t:TypeId):Option Value :=
 match P.info? t with
 | some i=>match i.zero with
   | some v=>bif B3T v then some v else none
   | none=>none
 | none=>none
def B3f(m:Mem)(t:TypeId)(a:Addr):Option Value :=
 match l6 P t with
 | some true=>match F9 P t with
   | some n=>match Z8 m a n with
     | some cs=>some (.agg ⟨cs⟩)
     | none=>none
   | none=>none
 | some false=>match Z8 m a 1 with
   | some (v::_)=>some v
   | _=>none
 | none=>none
def A6e(m:Mem)(t:TypeId)(a:Addr)(v:Value):Option Mem :=
 match F9 P t with
 | some n=>bif Nat.beq v.cells.size n && !(A2A v)then A31 m a v.cells.toList else none
 | none=>none
def A4k(t:TypeId)(cs:List Value)(off:Nat):Option Value :=
 match l6 P t with
 | some true=>match F9 P t with
   | some n=>match B67 cs off n with
     | some r=>some (.agg ⟨r⟩)
     | none=>none
   | none=>none
 | some false=>cs[off]?
 | none=>none
def B8y(e:TypeId)(s i:Nat):Field:={ name := "x",type:=e,offset:=i*s,embedded:=false,tag := "",pkgPath := "",byteOffset:=0 }
mutual
def eqM:Nat→TypeId→Value→Value→Option Bool
 | 0,_,_,_=>none
 | d+1,t,x,y=>match P.underlying t,x,y with
   | some .bool,.bool a,.bool b=>some (a == b)
   | some (.int _),.int k a,.int j b=>bif decide (k=j)then some (a == b)else none
   | some .string,.string a,.string b=>some (a.data.toList == b.data.toList)
   | some (.pointer _),.pointer none,.pointer b=>some b.isNone
   | some (.pointer _),.pointer (some _),.pointer none=>some false
   | some (.interface _),.nilIface,.nilIface=>some true
   | some (.interface _),.nilIface,.iface _ _=>some false
   | some (.interface _),.iface _ _,.nilIface=>some false
   | some (.interface _),.iface tx vx,.iface ty vy=>bif Nat.beq tx ty then(match P.info? tx with
     | some i=>bif i.comparable then eqM d tx vx vy else none
     | none=>none)else some false
   | some (.slice _),.slice none _ _,.slice b _ _=>some b.isNone
   | some (.slice _),.slice (some _) _ _,.slice none _ _=>some false
   | some (.map _ _),.map none,.map b=>some b.isNone
   | some (.func _ _ _),.nilFunc,.nilFunc=>some true
   | some (.func _ _ _),.nilFunc,.func (.func _) _ _=>some false
   | some (.func _ _ _),.func (.func _) _ _,.nilFunc=>some false
   | some (.struct fs),.agg xs,.agg ys=>bif P.stoodInHeld t then none else eqF d fs.toList xs.toList ys.toList
   | some (.array n e),.agg xs,.agg ys=>match F9 P e with
     | some s=>eqF d ((List.range n).map (B8y e s)) xs.toList ys.toList
     | none=>none
   | _,_,_=>none
def eqF:Nat→List Field→List Value→List Value→Option Bool
 | 0,_,_,_=>none
 | _+1,[],_,_=>some true
 | d+1,f::fs,xs,ys =>
   bif f.name == "_" then none else
   match A4k P f.type xs f.offset,A4k P f.type ys f.offset with
   | some x,some y=>match eqM d f.type x y with
     | some true=>eqF d fs xs ys
     | some false=>some false
     | none=>none
   | _,_=>none
end
def isC:Operand→Bool
 | .const _=>true
 | _=>false
def A21(t:TypeId)(x y:Operand)(a b:Value):Bool :=
 match a,b with
 | .nilIface,.nilIface=>isC x || isC y
 | .agg _,.agg _=>!P.eqGuardType P.depth t
 | a,b=>!(B6j a) && !(B6j b)
def A7j(op:BinOp)(k:IntKind)(x y:Int):Option Value :=
 match op with
 | .and=>some (.int k (k.wrap (BitVec.ofInt k.bits x &&& BitVec.ofInt k.bits y).toNat))
 | .or=>some (.int k (k.wrap (BitVec.ofInt k.bits x ||| BitVec.ofInt k.bits y).toNat))
 | .xor=>some (.int k (k.wrap (BitVec.ofInt k.bits x ^^^ BitVec.ofInt k.bits y).toNat))
 | .andNot=>some (.int k (k.wrap (BitVec.ofInt k.bits x &&& ~~~BitVec.ofInt k.bits y).toNat))
 | _=>none
def ltL:List UInt8→List UInt8→Bool
 | _,[]=>false
 | [],_::_=>true
 | a::x,b::y=>a<b || (a == b && ltL x y)
def A3l(op:BinOp)(k:IntKind)(a b:Int):Option Value :=
 match op with
 | .add=>some (mkI k (A8D k (C2I a b)))
 | .sub=>some (mkI k (A8D k (C0Z a b)))
 | .mul=>some (mkI k (A8D k (C1a a b)))
 | .quo=>bif A78 b 0 then none else some (mkI k (k.wrap (a.tdiv b)))
 | .rem=>bif A78 b 0 then none else some (mkI k (a.tmod b))
 | .eql=>some (.bool (A78 a b))
 | .neq=>some (.bool (!(A78 a b)))
 | .lss=>some (.bool (ltF a b))
 | .leq=>some (.bool (leF a b))
 | .gtr=>some (.bool (ltF b a))
 | .geq=>some (.bool (leF b a))
 | op=>A7j op k a b
def A9R(left:Bool)(k:IntKind)(a:Int)(b:Nat):Value :=
 bif left then mkI k (k.wrap (a*2 ^ (min b k.bits)))else mkI k (a.fdiv (2 ^ (min b k.bits)))
def B5U(op:BinOp)(a b:ByteArray):Option Value :=
 match op with
 | .add=>bif Nat.ble (a.size+b.size) 1000000000 then P6 (a.data.toList++b.data.toList) fun l=>some (.string ⟨⟨l⟩⟩)else none
 | .eql=>some (.bool (a.data.toList == b.data.toList))
 | .neq=>some (.bool (!(a.data.toList == b.data.toList)))
 | .lss=>some (.bool (ltL a.data.toList b.data.toList))
 | .leq=>some (.bool (ltL a.data.toList b.data.toList || (a.data.toList == b.data.toList)))
 | .gtr=>some (.bool (!(ltL a.data.toList b.data.toList || (a.data.toList == b.data.toList))))
 | .geq=>some (.bool (!(ltL a.data.toList b.data.toList)))
 | _=>none
def A8U(op:BinOp)(t:TypeId)(x y:Value):Option Value :=
 match op with
 | .eql=>match eqM P 20 t x y with
   | some b=>some (.bool b)
   | none=>none
 | .neq=>match eqM P 20 t x y with
   | some b=>some (.bool (!b))
   | none=>none
 | _=>none
def A2B:BinOp→Option Bool
 | .shl=>some true
 | .shr=>some false
 | _=>none
def q8(op:BinOp)(k j:IntKind)(a b:Int):Option Value :=
 match A2B op with
 | some l=>match b with
   | .ofNat n=>some (A9R l k a n)
   | .negSucc _=>none
 | none=>bif A6p k j then A3l op k a b else none
def A46(op:BinOp)(t:TypeId)(x y:Value):Option Value :=
 match x,y with
 | .int k a,.int j b=>q8 op k j a b
 | .string a,.string b=>B5U op a b
 | x,y=>A8U P op t x y
def unM(op:UnOp)(x:Value):Option Value :=
 match op,x with
 | .neg,.int k n=>some (mkI k (k.wrap (0-n)))
 | .xor,.int k n=>A7j .xor k (if k.signed then -1 else k.max) n
 | .not,.bool b=>some (.bool !b)
 | _,_=>none
def bytesOf:List Value→Option (List UInt8)
 | []=>some []
 | .int .u8 n::r=>match bytesOf r with
   | some l=>some (UInt8.ofNat n.toNat::l)
   | none=>none
 | _::_=>none
def O2(l:List UInt8):List Value:=l.map fun b=>.int .u8 b.toNat
def A80(m:Mem)(s t:TypeId)(x:Value):Res :=
 match P.underlying s,P.underlying t,x with
 | some _,some (.int k),.int _ n=>some (mkI k (A8D k n),m)
 | some _,some .string,.string b=>some (.string b,m)
 | some _,some .string,.int _ n=>some (.string (Utf8.encode n),m)
 | some _,some (.slice e),.string b=>match P.underlying e with
   | some (.int .u8)=>match F9 P e with
     | some 1=>P6 (O2 b.data.toList) fun cs=>X1 m (.cells cs e false) fun i=>.slice (some ⟨i,0,none⟩) b.size L9
     | _=>none
   | _=>none
 | some (.slice e),some .string,.slice none _ _=>match P.underlying e with
   | some (.int .u8)=>some (.string ByteArray.empty,m)
   | _=>none
 | some (.slice e),some .string,.slice (some a) n _=>match P.underlying e with
   | some (.int .u8)=>match Z8 m a n with
     | some cs=>match bytesOf cs with
       | some l=>some (.string ⟨⟨l⟩⟩,m)
       | none=>none
     | none=>none
   | _=>none
 | _,_,_=>none
def A7G(place:Nat→Option (Nat×Nat))(cells:List Value):List (Nat×Value)→Option (List Value)
 | []=>some cells
 | (i,v)::rest=>match place i with
   | none=>none
   | some (off,size) =>
     bif (Nat.beq v.cells.size size && !(A2A v)) && Nat.ble (off+v.cells.size) cells.length then P6 (y0 cells off v.cells.toList) fun cs=>A7G place cs rest else none
def A4j:List Field→Option (List (Nat×Nat))
 | []=>some []
 | f::r=>match F9 P f.type,A4j r with
   | some n,some l=>some ((f.offset,n)::l)
   | _,_=>none
def B0q(z:List Value):Nat→List Value
 | 0=>[]
 | n+1=>z++B0q z n
def A9J(e:TypeId)(n:Nat):Option (List Value) :=
 match F9 P e with
 | some s=>bif Nat.beq (n*s) 0 then some []else match A1D P e with
   | some z=>bif Nat.beq z.cells.size s then some (B0q z.cells.toList n)else none
   | none=>none
 | none=>none
def B20(t:TypeId)(parts:List (Nat×Value)):Option Value :=
 match A1D P t,P.underlying t with
 | some z,some (.struct fs)=>match A4j P fs.toList with
   | some ps=>match A7G (ps[·]?) z.cells.toList parts with
     | some cs=>some (.agg ⟨cs⟩)
     | none=>none
   | none=>none
 | some z,some (.array _ e)=>match F9 P e with
   | some s=>match A7G (fun i=>some (i*s,s)) z.cells.toList parts with
     | some cs=>some (.agg ⟨cs⟩)
     | none=>none
   | none=>none
 | _,_=>none
def y9(m:Mem)(t:TypeId)(n:Nat)(parts:List (Nat×Value)):Res :=
 match P.underlying t with
 | some (.slice e)=>match F9 P e,A9J P e n with
   | some s,some zs=>bif Nat.ble (n*s) 16777216 && Nat.blt n L9 then match A7G (fun i=>some (i*s,s)) zs parts with
     | some cs=>X1 m (.cells cs e false) fun i=>.slice (some ⟨i,0,none⟩) n n
     | none=>none else none
   | _,_=>none
 | _=>none
def A0v(m:Mem)(t:TypeId)(l c:Value):Res :=
 match P.underlying t,l,c with
 | some (.slice e),.int _ (.ofNat l),.int _ (.ofNat c)=>match P.info? e with
   | some i=>bif Nat.ble l c && Nat.ble c 10000000 && Nat.ble (c*i.bytes) 100000000 then match A9J P e c with
     | some zs=>P6 zs fun zs=>X1 m (.cells zs e false) fun k=>.slice (some ⟨k,0,none⟩) l c
     | none=>none else none
   | none=>none
 | _,_,_=>none
def r9(a:Addr)(n:Nat):Addr:=I9 (a.off+n) fun o=>⟨a.block,o,none⟩
def y7(s:TypeId)(x:Value)(i:Nat):Option Value :=
 match P.underlying s,x with
 | some (.struct fs),.pointer (some a)=>match fs.toList[i]?,a.spot with
   | some f,none=>match F9 P f.type with
     | some (_+1)=>some (.pointer (some (r9 a f.offset)))
     | _=>none
   | _,_=>none
 | _,_=>none
def A90(t:TypeId)(x:Value)(i:Nat):Option Value :=
 match P.underlying t,x with
 | some (.struct fs),.agg cs=>match fs.toList[i]? with
   | some f=>A4k P f.type cs.toList f.offset
   | none=>none
 | _,_=>none
def V1(t:TypeId)(x i:Value):Option Value :=
 match P.underlying t,x,i with
 | some (.array n e),.pointer (some a),.int _ (.ofNat k)=>match F9 P e,a.spot with
   | some s,none=>bif Nat.blt k n then some (.pointer (some (r9 a (k*s))))else none
   | _,_=>none
 | some (.slice e),.slice (some a) n _,.int _ (.ofNat k)=>match F9 P e,a.spot with
   | some s,none=>bif Nat.blt k n then some (.pointer (some (r9 a (k*s))))else none
   | _,_=>none
 | _,_,_=>none
def A2z(t:TypeId)(x i:Value):Option Value :=
 match P.underlying t,x,i with
 | some (.array n e),.agg cs,.int _ (.ofNat k)=>match F9 P e with
   | some s=>bif Nat.blt k n then A4k P e cs.toList (k*s)else none
   | none=>none
 | some .string,.string s,.int _ (.ofNat k)=>match s.data.toList[k]? with
   | some b=>some (.int .u8 b.toNat)
   | none=>none
 | _,_,_=>none
def R5(v:Option Value)(G1 dflt:Nat):Option Nat :=
 match v with
 | none=>some dflt
 | some (.int _ (.ofNat k))=>bif Nat.ble k G1 then some k else none
 | some _=>none
def A0D(t:TypeId)(x:Value)(lo hi mx:Option Value):Option Value :=
 match P.underlying t,x with
 | some .string,.string s =>
   match mx,R5 hi s.size s.size with
   | none,some h=>match R5 lo h 0 with
     | some l=>some (.string ⟨⟨(s.data.toList.drop l).take (h-l)⟩⟩)
     | none=>none
   | _,_=>none
 | some (.slice e),.slice none n c =>
   match n,c,R5 mx 0 0,R5 hi 0 0,R5 lo 0 0 with
   | 0,0,some _,some _,some _=>bif (mx.isSome && hi.isNone) || (F9 P e).isNone then none else some (.slice none 0 0)
   | _,_,_,_,_=>none
 | some (.slice e),.slice (some a) n c =>
   match F9 P e,a.spot with
   | some s,none =>
     bif Nat.blt c L9 then
      match R5 mx c c with
      | some m=>match (match hi,mx with|none,some _=>none|hi,_=>R5 hi m n)with
        | some h=>match R5 lo h 0 with
          | some l=>some (.slice (some (bif Nat.beq m l then a else r9 a (l*s))) (h-l) (m-l))
          | none=>none
        | none=>none
      | none=>none
     else
      match mx with
      | some _=>match hi,R5 mx n n with
        | some _,some m=>bif Nat.blt m L9 && Nat.ble c (L9+1)then match R5 hi m n with
          | some h=>match R5 lo h 0 with
            | some l=>some (.slice (some (bif Nat.beq m l then a else r9 a (l*s))) (h-l) (m-l))
            | none=>none
          | none=>none else none
        | _,_=>none
      | none=>match R5 hi n n with
        | some h=>match R5 lo h 0 with
          | some 0=>some (.slice (some a) h c)
          | some (l+1)=>let l:=l+1
            bif Nat.blt l n then some (.slice (some (r9 a (l*s))) (h-l) (L9+1))else some (.slice (some a) 0 (L9+2))
          | none=>none
        | none=>none
   | _,_=>none
 | some (.array n e),.pointer (some a) =>
   match F9 P e,a.spot,mx with
   | some s,none,none=>match R5 hi n n with
     | some h=>match R5 lo h 0 with
       | some l=>bif Nat.blt n L9 then some (.slice (some (bif Nat.beq n l then a else r9 a (l*s))) (h-l) (n-l))else none
       | none=>none
     | none=>none
   | _,_,_=>none
 | _,_=>none
def A0u(m:Mem)(s:Nat)(y:Value):Option (Nat×List Value) :=
 match y with
 | .slice none n _=>bif Nat.beq n 0 then some (0,[])else none
 | .slice (some a) n _=>match Z8 m a (n*s)with
   | some cs=>some (n,cs)
   | none=>none
 | .string b=>bif Nat.beq s 1 then some (b.size,O2 b.data.toList)else none
 | _=>none
def A0H:TypeDesc→Bool
 | .slice _|.string=>true
 | _=>false
def A48(m:Mem)(t t2:TypeId)(x y:Value):Res :=
 match P.underlying t,P.underlying t2 with
 | some (.slice e),some d2 =>
   bif !(A0H d2)then none else
   match P.info? e,x with
   | some i,.slice a n c=>match A0u m i.size y,A1D P e with
     | some (k,new),some z =>
       bif Nat.ble ((3*(n+k)+4000)*i.bytes) 281474976710656 && Nat.ble (n+k) 1000000000 && Nat.beq z.cells.size i.size && new.all flat then
       bif Nat.beq k 0 then(match a with|none=>bif Nat.beq n 0 && Nat.beq c 0 then some (x,m)else none|some _=>bif Nat.ble c (L9+1) && Nat.ble n c then some (x,m)else none)else
       match a with
       | none=>bif Nat.beq n 0 && Nat.beq c 0 then P6 new fun cs=>X1 m (.cells cs e false) fun b=>.slice (some ⟨b,0,none⟩) k L9 else none
       | some ad =>
         bif Nat.blt c L9 then
          bif Nat.ble (n+k) c then
           match ad.spot,A31 m (r9 ad (n*i.size)) new with
           | none,some m'=>some (.slice a (n+k) c,m')
           | _,_=>none
          else match Z8 m ad (n*i.size)with
           | some old=>P6 (old++new) fun cs=>X1 m (.cells cs e false) fun b=>.slice (some ⟨b,0,none⟩) (n+k) L9
           | none=>none
         else bif Nat.beq c L9 && Nat.beq ad.off 0 then
          match ad.spot,Hp.get m.H ad.block with
          | none,some (.cells cs T false) =>
            bif Nat.beq cs.length (n*i.size) && Nat.beq T e && Nat.ble ad.block G1 && Nat.blt ad.block m.n then
             P6 (cs++new) fun cs=>X1 (A2R m ad.block) (.cells cs e false) fun b=>.slice (some ⟨b,0,none⟩) (n+k) L9
            else none
          | _,_=>none
         else none
       else none
     | _,_=>none
   | _,_=>none
 | _,_=>none
def B1r(m:Mem)(t:TypeId)(x y:Value):Res :=
 match P.underlying t,x with
 | some (.slice e),.slice a n c=>match F9 P e with
   | some s =>
     match (match y with
      | .slice none k _=>bif Nat.beq k 0 then some (0,[])else none
      | .slice (some b) k _=>match Z8 m b (Nat.min k n*s)with
        | some cs=>some (Nat.min k n,cs)
        | none=>none
      | .string b=>some (Nat.min b.size n,O2 (b.data.toList.take (Nat.min b.size n)))
      | _=>none:Option (Nat×List Value))with
     | some (k,cs)=>match a with
       | none=>bif Nat.beq k 0 then some (.int .i64 0,m)else none
       | some ad=>bif Nat.beq cs.length 0 then some (.int .i64 k,m)else bif Nat.ble c (L9+1)then match A31 m ad cs with
         | some m'=>some (.int .i64 k,m')
         | none=>none else none
     | none=>none
   | none=>none
 | _,_=>none
def B6T(m:Mem)(t:TypeId)(x:Value):Option Value :=
 match P.underlying t,x with
 | some .string,.string s=>some (.int .i64 s.data.toList.length)
 | some (.array n _),_=>some (.int .i64 n)
 | some (.slice _),.slice _ n _=>some (.int .i64 n)
 | some (.map _ _),.map none=>some (.int .i64 0)
 | _,_=>none
def C0_(t:TypeId)(x:Value):Option Value :=
 match P.underlying t,x with
 | some (.slice _),.slice none _ c=>some (.int .i64 c)
 | some (.slice _),.slice (some a) n c=>bif Nat.blt c L9 then some (.int .i64 c)else none
 | _,_=>none
def C0r:List Value→Option Value
 | [.int k a,.int _ b]=>some (.int k (if b>a then b else a))
 | [.int k a,.int _ b,.int _ c]=>A7C (if b>a then b else a) fun d=>some (.int k (if c>d then c else d))
 | _=>none
def C0q:List Value→Option Value
 | [.int k a,.int _ b]=>some (.int k (if b<a then b else a))
 | [.int k a,.int _ b,.int _ c]=>A7C (if b<a then b else a) fun d=>some (.int k (if c<d then c else d))
 | _=>none
def noM(v:Option Value)(m:Mem):Res :=
 match v with
 | some v=>some (v,m)
 | none=>none
def B2e(m:Option Mem):Res :=
 match m with
 | some m=>some (undef,m)
 | none=>none
def B3W(m:Mem)(c a b:Value):Res :=
 match c with
 | .bool true=>some (a,m)
 | .bool false=>some (b,m)
 | _=>none
def A9f(m:Mem)(e:TypeId):Res :=
 match A1D P e with
 | some z=>X1 m (.cells z.cells.toList e false) fun b=>.pointer (some ⟨b,0,none⟩)
 | none=>none
def B6F(m:Mem)(e:TypeId)(v:Value):Res :=
 bif v.cells.toList.all flat then X1 m (.cells v.cells.toList e false) fun b=>.pointer (some ⟨b,0,none⟩)else none
def B3X(m:Mem)(t:TypeId)(v:Value):Res :=
 match v with
 | .pointer (some a)=>noM (B3f P m t a) m
 | _=>none
def A9d(m:Mem)(t:TypeId)(x v:Value):Res :=
 match x with
 | .pointer (some a)=>B2e (A6e P m t a v)
 | _=>none
def B6E(m:Mem)(x:Value):Res :=
 match x with
 | .pointer (some a)=>some (.pointer (some a),m)
 | .func (.func f) a b=>some (.func (.func f) a b,m)
 | _=>none
def A6_:BinOp→Bool
 | .eql|.neq=>true
 | _=>false
def B8G(m:Mem)(op:BinOp)(t:TypeId)(x y:Operand)(a b:Value):Res :=
 bif A6_ op then(bif A21 P t x y a b then noM (A46 P op t a b) m else none)else noM (A46 P op t a b) m
def A9e(m:Mem)(t:TypeId)(v:Value):Res :=
 match P.underlying t with
 | some d=>(match d with|.interface _=>none|_=>bif flat v || (match v with|.agg _=>true|_=>false)then some (.iface t v,m)else none)
 | none=>none
def A2p(m:Mem)(v:Value)(i:Nat):Res :=
 match v with
 | .tuple vs=>noM vs.toList[i]? m
 | _=>none
def A12(m:Mem)(x:Value):Res :=
 match x with
 | .slice none _ _=>some (.pointer none,m)
 | .slice (some a) n c=>bif Nat.beq n 0 || Nat.beq c 0 || Nat.beq c (L9+2)then none else some (.pointer (some a),m)
 | _=>none
def A0g(m:Mem)(pt:TypeId)(p l:Value):Res :=
 match p,l with
 | .pointer none,.int _ (.ofNat 0)=>some (.string ByteArray.empty,m)
 | .pointer (some a),.int _ (.ofNat n) =>
   match a.spot,Hp.get m.H a.block with
   | none,some (.cells cs T false)=>match P.underlying pt,F9 P T with
     | some (.pointer e),some 1=>bif Nat.blt 0 n && Nat.ble n 1000000000 && Nat.beq e T then match B67 cs a.off n with
       | some l=>match bytesOf l,A0l m a.block (.cells cs T true)with
         | some l,some m'=>some (.string ⟨⟨l⟩⟩,m')
         | _,_=>none
       | none=>none else none
     | _,_=>none
   | _,_=>none
 | _,_=>none
def A1v(m:Mem)(b:Builtin)(vs:List Value)(tys:List TypeId):Res :=
 match b,vs,tys with
 | .len,[x],t::_=>noM (B6T P m t x) m
 | .cap,[x],t::_=>noM (C0_ P t x) m
 | .append,[x,y],t::t2::_=>A48 P m t t2 x y
 | .copy,[x,y],t::_=>B1r P m t x y
 | .max,vs,_=>noM (C0r vs) m
 | .min,vs,_=>noM (C0q vs) m
 | .unsafeSliceData,[x],_=>A12 m x
 | .unsafeString,[p,l],t::_=>A0g P m t p l
 | _,_,_=>none
def opM(fr:Fr)(m:Mem)(o:Op):Res :=
 match o with
 | .move x|.assign x=>some (ev fr x,m)
 | .pick c a b=>B3W m (ev fr c) (ev fr a) (ev fr b)
 | .alloc e=>A9f P m e
 | .box e x=>B6F m e (ev fr x)
 | .build t ps=>noM (B20 P t (evP fr ps.toList)) m
 | .buildSlice t n ps=>y9 P m t n (evP fr ps.toList)
 | .load t x=>B3X P m t (ev fr x)
 | .store t x y=>A9d P m t (ev fr x) (ev fr y)
 | .nilCheck x=>B6E m (ev fr x)
 | .binOp op t x y _=>B8G P m op t x y (ev fr x) (ev fr y)
 | .unOp op _ x=>noM (unM op (ev fr x)) m
 | .convert s t x=>A80 P m s t (ev fr x)
 | .makeInterface t x=>A9e P m t (ev fr x)
 | .makeFunc (.func f) first cap=>some (.func (.func f) ⟨evL fr first.toList⟩ ⟨evL fr cap.toList⟩,m)
 | .makeSlice t l c=>A0v P m t (ev fr l) (ev fr c)
 | .slice t x lo hi mx=>noM (A0D P t (ev fr x) (evO fr lo) (evO fr hi) (evO fr mx)) m
 | .fieldAddr s x i=>noM (y7 P s (ev fr x) i) m
 | .field t x i=>noM (A90 P t (ev fr x) i) m
 | .indexAddr t x i=>noM (V1 P t (ev fr x) (ev fr i)) m
 | .index t x i=>noM (A2z P t (ev fr x) (ev fr i)) m
 | .extract x i=>A2p m (ev fr x) i
 | .call ⟨.builtin b,xs,tys⟩=>A1v P m b (evL fr xs.toList) tys.toList
 | _=>none
structure OpC where
 run:Fr→Mem→Res
def B6c(x:XC)(fr:Fr)(m:Mem):Res:=some (x.run fr,m)
def B9g(c a b:XC)(fr:Fr)(m:Mem):Res:=B3W m (c.run fr) (a.run fr) (b.run fr)
def C1m(e:TypeId)(x:XC)(fr:Fr)(m:Mem):Res:=B6F m e (x.run fr)
def B9h(t:TypeId)(x:XC)(fr:Fr)(m:Mem):Res:=B3X P m t (x.run fr)
def B6b(t:TypeId)(x y:XC)(fr:Fr)(m:Mem):Res:=A9d P m t (x.run fr) (y.run fr)
def C1k(x:XC)(fr:Fr)(m:Mem):Res:=B6E m (x.run fr)
def C1n(op:BinOp)(t:TypeId)(x y:Operand)(cx cy:XC)(fr:Fr)(m:Mem):Res:=B8G P m op t x y (cx.run fr) (cy.run fr)
def kUn(op:UnOp)(x:XC)(fr:Fr)(m:Mem):Res:=noM (unM op (x.run fr)) m
def B9i(s t:TypeId)(x:XC)(fr:Fr)(m:Mem):Res:=A80 P m s t (x.run fr)
def A66(s:TypeId)(x:XC)(i:Nat)(fr:Fr)(m:Mem):Res:=noM (y7 P s (x.run fr) i) m
def B6e(s:TypeId)(x:XC)(i:Nat)(fr:Fr)(m:Mem):Res:=noM (A90 P s (x.run fr) i) m
def A65(t:TypeId)(x i:XC)(fr:Fr)(m:Mem):Res:=noM (V1 P t (x.run fr) (i.run fr)) m
def B6d(t:TypeId)(x i:XC)(fr:Fr)(m:Mem):Res:=noM (A2z P t (x.run fr) (i.run fr)) m
def B1R(x:XC)(i:Nat)(fr:Fr)(m:Mem):Res:=A2p m (x.run fr) i
def B1S(b:Builtin)(xs:LC)(tys:List TypeId)(fr:Fr)(m:Mem):Res:=A1v P m b (xs.run fr) tys
def A7a(o:Op):OpC :=
 match o with
 | .move x=>⟨B6c (Q1 x)⟩
 | .assign x=>⟨B6c (Q1 x)⟩
 | .pick c a b=>⟨B9g (Q1 c) (Q1 a) (Q1 b)⟩
 | .box e x=>⟨C1m e (Q1 x)⟩
 | .load t x=>⟨B9h P t (Q1 x)⟩
 | .store t x y=>⟨B6b P t (Q1 x) (Q1 y)⟩
 | .nilCheck x=>⟨C1k (Q1 x)⟩
 | .binOp op t x y _=>⟨C1n P op t x y (Q1 x) (Q1 y)⟩
 | .unOp op _ x=>⟨kUn op (Q1 x)⟩
 | .convert s t x=>⟨B9i P s t (Q1 x)⟩
 | .fieldAddr s x i=>⟨A66 P s (Q1 x) i⟩
 | .field t x i=>⟨B6e P t (Q1 x) i⟩
 | .indexAddr t x i=>⟨A65 P t (Q1 x) (Q1 i)⟩
 | .index t x i=>⟨B6d P t (Q1 x) (Q1 i)⟩
 | .extract x i=>⟨B1R (Q1 x) i⟩
 | .call ⟨.builtin b,xs,tys⟩=>⟨B1S P b (A52 xs.toList) tys.toList⟩
 | o=>⟨fun fr m=>opM P fr m o⟩
theorem A7Z(o:Op)(fr:Fr)(m:Mem):(A7a P o).run fr m=opM P fr m o:=by
 unfold A7a;split<;>simp only[B6c,B9g,C1m,B9h,B6b,C1k,C1n,kUn,B9i,A66,B6e,A65,B6d,B1R,B1S,opM,A0c,A3h]
def B2Z(nt gl:Nat)(o:Op):Bool:=o.operands.toList.all (okX nt gl)
end Go.Sx
namespace Go.Sx
set_option linter.all false
set_option linter.unusedVariables false
open Go
def C1o:BinOp→Bool
 | .eql|.neq|.lss|.leq|.gtr|.geq=>true
 | _=>false
def A32(P:Program)(m:Mem)(op:BinOp)(t:TypeId)(a b:Value):Res :=
 let ta:=F6 a
 let tb:=F6 b
 bif (Nat.blt ta 8 && Nat.blt tb 8) || (Nat.beq ta 9 && Nat.beq tb 9)then T7 m (bif C1o op then 8 else ta) (.bin op) [a,b]else
 bif Nat.beq ta 8 && Nat.beq tb 8 && A6_ op && (match P.underlying t with|some .bool=>true|_=>false)then T7 m 8 (.bin op) [a,b]else none
def A0z(P:Program)(t:TypeId)(x y:Value):Bool :=
 match P.underlying t with
 | some .bool=>Nat.beq (F6 x) 8 && Nat.beq (F6 y) 8
 | some (.int k)=>Nat.beq (F6 x) (A1r k) && Nat.beq (F6 y) (A1r k)
 | some .string=>Nat.beq (F6 x) 9 && Nat.beq (F6 y) 9
 | _=>false
mutual
def eqS(P:Program):Nat→TypeId→Value→Value→Option (List Value)
 | 0,_,_,_=>none
 | d+1,t,x,y=>bif A0z P t x y then some [x,y]else
   match P.underlying t,x,y with
   | some (.struct fs),.agg xs,.agg ys=>bif P.stoodInHeld t then none else A7O P d fs.toList xs.toList ys.toList
   | some (.array n e),.agg xs,.agg ys=>match F9 P e with
     | some s=>A7O P d ((List.range n).map (B8y e s)) xs.toList ys.toList
     | none=>none
   | _,_,_=>none
def A7O(P:Program):Nat→List Field→List Value→List Value→Option (List Value)
 | 0,_,_,_=>none
 | _+1,[],_,_=>some []
 | d+1,f::fs,xs,ys =>
   bif f.name == "_" then none else
   match A4k P f.type xs f.offset,A4k P f.type ys f.offset with
   | some x,some y=>match eqS P d f.type x y,A7O P d fs xs ys with
     | some a,some b=>some (a++b)
     | _,_=>none
   | _,_=>none
end
def B0e(P:Program)(m:Mem)(op:BinOp)(t:TypeId)(x y:Operand)(a b:Value):Res :=
 bif A21 P t x y a b then
  match op,eqS P 20 t a b with
  | .eql,some l=>T7 m 8 .eqs l
  | .neq,some l=>match T7 m 8 .eqs l with
    | some (h,m)=>T7 m 8 (.un .not) [h]
    | none=>none
  | _,_=>none
 else none
def Y2(t:Nat):List Value→Bool
 | []=>true
 | v::r=>Nat.beq (F6 v) t && Y2 t r
def Y1.sizeD(P:Program)(e:TypeId):Nat:=match F9 P e with|some n=>n|none=>0
def Y1(P:Program)(m:Mem)(t:TypeId)(x i:Value):Res :=
 bif !(Nat.blt (F6 i) 8)then none else
 match P.underlying t with
 | some .string=>bif Nat.beq (F6 x) 9 then T7 m 4 .idx [x,i]else none
 | some (.array n e)=>match x,P.underlying e with
   | .agg cs,some (.int k)=>bif Nat.beq (cs.toList.length) n && Y2 (A1r k) cs.toList && Nat.beq (Y1.sizeD P e) 1 then T7 m (A1r k) .sel (i::cs.toList)else none
   | .agg cs,some .string=>bif Nat.beq (cs.toList.length) n && Y2 9 cs.toList && Nat.beq (Y1.sizeD P e) 1 then T7 m 9 .sel (i::cs.toList)else none
   | _,_=>none
 | _=>none
def A2g(P:Program)(m:Mem)(t:TypeId)(x:Value)(lo hi mx:Option Value):Res :=
 match P.underlying t,mx with
 | some .string,none=>bif Nat.beq (F6 x) 9 then
    match lo,hi with
    | none,none=>some (x,m)
    | some l,none=>bif Nat.blt (F6 l) 8 then T7 m 9 .sub1 [x,l]else none
    | none,some h=>bif Nat.blt (F6 h) 8 then T7 m 9 .sub [x,.int .i64 0,h]else none
    | some l,some h=>bif Nat.blt (F6 l) 8 && Nat.blt (F6 h) 8 then T7 m 9 .sub [x,l,h]else none
   else none
 | _,_=>none
def B0Z(m:Mem)(op:UnOp)(x:Value):Res :=
 let t:=F6 x
 match op with
 | .not=>bif Nat.beq t 8 then T7 m 8 (.un .not) [x]else none
 | op=>bif Nat.blt t 8 then T7 m t (.un op) [x]else none
def A4X(P:Program)(m:Mem)(s t:TypeId)(x:Value):Res :=
 match P.underlying s,P.underlying t with
 | some (.int _),some (.int k)=>bif Nat.blt (F6 x) 8 then T7 m (A1r k) (.conv k) [x]else none
 | some .string,some .string=>bif Nat.beq (F6 x) 9 then some (x,m)else none
 | _,_=>none
def A0j(P:Program)(m:Mem)(b:Builtin)(vs:List Value)(tys:List TypeId):Res :=
 match b,vs,tys with
 | .len,[x],t::_=>match P.underlying t with
   | some .string=>bif Nat.beq (F6 x) 9 then T7 m 3 .len [x]else none
   | _=>none
 | .max,[x,y],_=>bif Nat.blt (F6 x) 8 && Nat.beq (F6 x) (F6 y)then T7 m (F6 x) .max [x,y]else none
 | .min,[x,y],_=>bif Nat.blt (F6 x) 8 && Nat.beq (F6 x) (F6 y)then T7 m (F6 x) .min [x,y]else none
 | _,_,_=>none
def B4q(m:Mem)(a:Addr)(s n:Nat)(i:Value):Res :=
 bif !(Nat.blt (F6 i) 8)then none else
 match T7 m 8 .inb [i,.int .i64 (.ofNat n)]with
 | some (b,⟨H,k,W,hi,lg⟩)=>match brL lg b with
   | some (true,lg)=>some (ixp a s i n,⟨H,k,W,hi,lg⟩)
   | _=>none
 | none=>none
def A0h(P:Program)(m:Mem)(t:TypeId)(x i:Value):Res :=
 match P.underlying t,x with
 | some (.array n e),.pointer (some a)=>match F9 P e,a.spot with
   | some s,none=>B4q m a s n i
   | _,_=>none
 | some (.slice e),.slice (some a) n c=>match F9 P e,a.spot with
   | some s,none=>bif Nat.beq c (L9+2)then none else B4q m a s n i
   | _,_=>none
 | _,_=>none
def A0i(P:Program)(m:Mem)(s:TypeId)(x:Value)(i:Nat):Res :=
 match x with
 | .func (.yield 1) ⟨[.pointer (some a),.int .i64 (.ofNat k),j,.int .i64 (.ofNat n)]⟩ ⟨[]⟩=>match P.underlying s with
   | some (.struct fs)=>match fs.toList[i]?,a.spot with
     | some f,none=>match F9 P f.type with
       | some (_+1)=>some (ixp (r9 a f.offset) k j n,m)
       | _=>none
     | _,_=>none
   | _=>none
 | _=>none
def A6H(cs:List Value)(s o:Nat):Nat→Option (List Value)
 | 0=>some []
 | n+1=>match cs[o]?,A6H cs s (o+s) n with
   | some v,some r=>some (v::r)
   | _,_=>none
def x9(m:Mem)(cs:List Value)(s n:Nat)(i:Value):Nat→Nat→Option (List Value×Mem)
 | _,0=>some ([],m)
 | o,k+1=>match A6H cs s o n with
   | some (v::l)=>bif Y2 (F6 v) (v::l) && Nat.blt (F6 v) 10 then match T7 m (F6 v) .sel (i::v::l)with
     | some (h,m)=>match x9 m cs s n i (o+1) k with
       | some (r,m)=>some (h::r,m)
       | none=>none
     | none=>none else none
   | _=>none
def A4W(P:Program)(m:Mem)(t:TypeId)(x:Value):Res :=
 match x with
 | .func (.yield 1) ⟨[.pointer (some a),.int .i64 (.ofNat s),i,.int .i64 (.ofNat n)]⟩ ⟨[]⟩ =>
   match l6 P t,F9 P t with
   | some false,_=>match Z8 m a ((n-1)*s+1)with
     | some cs=>match x9 m cs s n i 0 1 with
       | some ([h],m)=>some (h,m)
       | _=>none
     | none=>none
   | some true,some z=>match Z8 m a ((n-1)*s+z)with
     | some cs=>match x9 m cs s n i 0 z with
       | some (hs,m)=>some (.agg ⟨hs⟩,m)
       | none=>none
     | none=>none
   | _,_=>none
 | _=>none
def A6G(m:Mem)(c a b:Value):Res :=
 match m with
 | ⟨H,n,W,hi,lg⟩=>match brL lg c with
   | some (true,lg)=>some (a,⟨H,n,W,hi,lg⟩)
   | some (false,lg)=>some (b,⟨H,n,W,hi,lg⟩)
   | none=>none
def B5R(P:Program)(fr:Fr)(m:Mem)(o:Op):Res :=
 match o with
 | .pick c a b=>A6G m (ev fr c) (ev fr a) (ev fr b)
 | .binOp op t x y _=>match A32 P m op t (ev fr x) (ev fr y)with
   | some r=>some r
   | none=>B0e P m op t x y (ev fr x) (ev fr y)
 | .unOp op _ x=>B0Z m op (ev fr x)
 | .convert s t x=>A4X P m s t (ev fr x)
 | .slice t x lo hi mx=>A2g P m t (ev fr x) (evO fr lo) (evO fr hi) (evO fr mx)
 | .index t x i=>Y1 P m t (ev fr x) (ev fr i)
 | .indexAddr t x i=>A0h P m t (ev fr x) (ev fr i)
 | .fieldAddr s x i=>A0i P m s (ev fr x) i
 | .load t x=>A4W P m t (ev fr x)
 | .call ⟨.builtin b,xs,tys⟩=>A0j P m b (evL fr xs.toList) tys.toList
 | _=>none
def A3_(m:Mem)(b:Nat):Bool :=
 match Hp.get m.H b with
 | some .frz=>Nat.ble b G1
 | _=>false
def B2V{α:Type}(l:List α):Nat→List α
 | 0=>[]
 | n+1=>l++B2V l n
mutual
def B5O(P:Program):Nat→TypeId→Option (List Nat)
 | 0,_=>none
 | d+1,t=>match P.underlying t with
   | some .bool=>some [8]
   | some (.int k)=>some [A1r k]
   | some .string=>some [9]
   | some (.slice e)=>match F9 P e with
     | some w=>some [10+w]
     | none=>none
   | some (.struct fs)=>B86 P d fs.toList
   | some (.array n e)=>match B5O P d e with
     | some l=>some (B2V l n)
     | none=>none
   | _=>none
def B86(P:Program):Nat→List Field→Option (List Nat)
 | 0,_=>none
 | _+1,[]=>some []
 | d+1,f::fs=>match B5O P d f.type,B86 P d fs with
   | some a,some b=>some (a++b)
   | _,_=>none
end
def A2f(P:Program)(t:TypeId):Option (List Nat) :=
 match B5O P 30 t,F9 P t with
 | some l,some n=>bif Nat.beq l.length n then some l else none
 | _,_=>none
def V2.letDo(t:Nat)(op:LOp)(xs:List Value)(m:Mem)(k:Nat→Mem→Option (List Value×Mem)):Option (List Value×Mem) :=
 match m with
 | ⟨H,n,W,hi,⟨nx,pi,log⟩⟩=>I9 nx fun nx=>I9 t fun t=>P6 xs fun xs=>k nx ⟨H,n,W,hi,⟨Nat.succ nx,pi,.dt nx t op xs::log⟩⟩
def V2(w o i t:Nat)(z:Value)(g:Nat):List Nat→Nat→Mem→Option (List Value×Mem)
 | [],_,m=>some ([],m)
 | tg::ts,j,m=>bif Nat.blt tg 10 then
    match T7 m tg (.get w (o+j)) [hole i t,z]with
    | some (h,m)=>match V2 w o i t z g ts (j+1) m with
      | some (r,m)=>some (h::r,m)
      | none=>none
    | none=>none
   else V2.letDo tg (.get w (o+j)) [hole i t,z] m fun nx m=>match V2 w o i t z g ts (j+1) m with
     | some (r,m)=>some (dat g nx tg::r,m)
     | none=>none
def A3A(P:Program)(t:TypeId)(r:Option (List Value×Mem)):Res :=
 match l6 P t,r with
 | some false,some ([v],m)=>some (v,m)
 | some true,some (vs,m)=>some (.agg ⟨vs⟩,m)
 | _,_=>none
def B1H(P:Program)(m:Mem)(t:TypeId)(x:Value):Res :=
 match x,A2f P t with
 | .func (.yield 5) ⟨[.pointer (some ⟨b,0,none⟩),.complex .f64 i tg,z,.int .i64 (.ofNat o)]⟩ ⟨[]⟩,some ts =>
   bif A3_ m b then A3A P t (V2 (tg-10) o i tg z b ts 0 m)else none
 | .func (.yield 6) ⟨[.pointer (some ⟨b,0,none⟩),.complex .f64 i tg,z,.int .i64 (.ofNat o)]⟩ ⟨[]⟩,some ts =>
   match Hp.get m.H b with
   | some (.sq c tc T g ro)=>bif Nat.beq tc tg then A3A P t (V2 (tg-10) o c tg z g ts 0 m)else none
   | _=>none
 | _,_=>none
def B1W(m:Mem)(i t:Nat)(z:Value)(k:Value):Res :=
 bif !(Nat.blt (F6 z) 8)then none else
 match T7 m 8 (.inbs (t-10)) [z,hole i t]with
 | some (b,⟨H,n,W,hi,lg⟩)=>match brL lg b with
   | some (true,lg)=>some (k,⟨H,n,W,hi,lg⟩)
   | _=>none
 | none=>none
def A20(P:Program)(m:Mem)(t:TypeId)(x z:Value):Res :=
 match P.underlying t,x with
 | some (.slice e),.func (.yield 4) ⟨[.pointer (some ⟨b,0,none⟩),.complex .f64 i tg]⟩ ⟨[]⟩=>match F9 P e with
   | some (s+1)=>bif Nat.beq tg (10+(s+1))then B1W m i tg z (opt b i tg z 0)else none
   | _=>none
 | some (.slice e),.func (.yield 2) ⟨[.pointer (some ⟨b,0,none⟩),.complex .f64 i tg]⟩ ⟨[]⟩=>match F9 P e with
   | some (s+1)=>bif Nat.beq tg (10+(s+1))then B1W m i tg z (dpt b i tg z 0)else none
   | _=>none
 | some (.slice e),.func (.yield 3) ⟨[.pointer (some ⟨b,0,none⟩),.complex .f64 i tg]⟩ ⟨[]⟩=>match F9 P e with
   | some (s+1)=>bif Nat.beq tg (10+(s+1))then B1W m i tg z (dpt b i tg z 0)else none
   | _=>none
 | some (.array n e),.func (.yield 5) ⟨[.pointer (some ⟨b,0,none⟩),.complex .f64 i tg,y,.int .i64 (.ofNat o)]⟩ ⟨[]⟩=>match F9 P e,z with
   | some s,.int _ (.ofNat k)=>bif Nat.blt k n && Nat.blt (o+k*s) (tg-10)then some (I9 (o+k*s) fun o=>dpt b i tg y o,m)else none
   | _,_=>none
 | some (.array n e),.func (.yield 6) ⟨[.pointer (some ⟨b,0,none⟩),.complex .f64 i tg,y,.int .i64 (.ofNat o)]⟩ ⟨[]⟩=>match F9 P e,z with
   | some s,.int _ (.ofNat k)=>bif Nat.blt k n && Nat.blt (o+k*s) (tg-10)then some (I9 (o+k*s) fun o=>opt b i tg y o,m)else none
   | _,_=>none
 | _,_=>none
def A24(P:Program)(m:Mem)(s:TypeId)(x:Value)(f:Nat):Res :=
 match P.underlying s,x with
 | some (.struct fs),.func (.yield 5) ⟨[.pointer (some ⟨b,0,none⟩),.complex .f64 i tg,y,.int .i64 (.ofNat o)]⟩ ⟨[]⟩=>match fs.toList[f]? with
   | some fd=>match F9 P fd.type with
     | some (_+1)=>bif Nat.blt (o+fd.offset) (tg-10)then some (I9 (o+fd.offset) fun o=>dpt b i tg y o,m)else none
     | _=>none
   | none=>none
 | some (.struct fs),.func (.yield 6) ⟨[.pointer (some ⟨b,0,none⟩),.complex .f64 i tg,y,.int .i64 (.ofNat o)]⟩ ⟨[]⟩=>match fs.toList[f]? with
   | some fd=>match F9 P fd.type with
     | some (_+1)=>bif Nat.blt (o+fd.offset) (tg-10)then some (I9 (o+fd.offset) fun o=>opt b i tg y o,m)else none
     | _=>none
   | none=>none
 | _,_=>none
def A4x(i:Nat):List Y8→Option Nat
 | []=>none
 | .lt j t .len [.complex .f64 k _]::r=>bif Nat.beq k i && Nat.beq t 3 then some j else A4x i r
 | _::r=>A4x i r
def A9j(m:Mem)(i t:Nat):Res :=
 match A4x i m.lg.log with
 | some j=>some (hole j 3,m)
 | none=>T7 m 3 .len [hole i t]
def B8T(P:Program)(m:Mem)(t:TypeId)(x:Value):Res :=
 match P.underlying t,x with
 | some (.slice _),.func (.yield 2) ⟨[.pointer (some ⟨b,0,none⟩),.complex .f64 i tg]⟩ ⟨[]⟩=>A9j m i tg
 | some (.slice _),.func (.yield 3) ⟨[.pointer (some ⟨b,0,none⟩),.complex .f64 i tg]⟩ ⟨[]⟩=>A9j m i tg
 | some (.slice _),.func (.yield 4) ⟨[.pointer (some ⟨b,0,none⟩),.complex .f64 i tg]⟩ ⟨[]⟩=>A9j m i tg
 | _,_=>none
def A1a(m:Mem)(k:Nat→Mem→Option (Value×Nat×Mem)):Option (Value×Nat×Mem) :=
 match m with
 | ⟨H,n,W,hi,lg⟩=>bif Nat.ble n G1 then I9 n fun n=>I9 (upN hi n) fun hi=>Hp.put H n (some .frz) fun H=>k n ⟨H,Nat.succ n,W,hi,lg⟩else none
def toD(t:Nat)(v:Value)(m:Mem):Option (Value×Nat×Mem) :=
 match v with
 | .func (.yield 2) ⟨[.pointer (some ⟨b,0,none⟩),.complex .f64 i tg]⟩ ⟨[]⟩=>bif Nat.beq tg t && A3_ m b then some (hole i tg,b,m)else none
 | .func (.yield 3) ⟨[.pointer (some ⟨b,0,none⟩),.complex .f64 i tg]⟩ ⟨[]⟩=>bif Nat.beq tg t && A3_ m b then some (hole i tg,b,m)else none
 | .func (.yield 4) ⟨[.pointer (some ⟨b,0,none⟩),.complex .f64 i tg]⟩ ⟨[]⟩=>match Hp.get m.H b with
   | some (.sq c tc T g true)=>bif (Nat.beq tg t && Nat.beq tc t) && A3_ m g then A1a m fun b' m=>some (hole c tc,b',m)else none
   | some (.sq c tc T g false)=>bif (Nat.beq tg t && Nat.beq tc t) && A3_ m g then match A0l m b (.sq c tc T g true)with
     | some m=>A1a m fun b' m=>some (hole c tc,b',m)
     | none=>none else none
   | _=>none
 | .slice none 0 0=>bif Nat.ble 10 t then(match A6A m t (.nilw (t-10)) [] fun nx m=>some (hole nx t,m)with
   | some (h,m)=>A1a m fun b' m=>some (h,b',m)
   | none=>none)else none
 | _=>none
abbrev Td:=Nat→Value→Mem→Option (Value×Nat×Mem)
def A7s(td:Td):List Nat→List Value→Mem→Option (List Value×List Nat×Mem)
 | [],[],m=>some ([],[],m)
 | t::ts,v::vs,m=>bif Nat.blt t 10 then
    bif Nat.beq (F6 v) t then match A7s td ts vs m with
     | some (r,gs,m)=>some (v::r,gs,m)
     | none=>none else none
   else match td t v m with
    | some (h,b,m)=>match A7s td ts vs m with
      | some (r,gs,m)=>some (h::r,b::gs,m)
      | none=>none
    | none=>none
 | _,_,_=>none
def A2S(gs:List Nat)(m:Mem):Option (Nat×Mem) :=
 match gs with
 | [g]=>bif A3_ m g then some (g,m)else none
 | gs=>bif gs.all (A3_ m)then match A1a m fun b m=>some (undef,b,m)with
   | some (_,b,m)=>some (b,m)
   | none=>none else none
def B3J:Value→Value→Bool
 | .complex .f64 i _,.complex .f64 j _=>Nat.beq i j
 | .int k a,.int j b=>A6p k j && A78 a b
 | _,_=>false
def A67(v:Value):Bool:=Nat.blt (F6 v) 8
def A1V(m:Mem)(b i t:Nat)(l h:Value)(c:Bool):Res:=bif A67 l && A67 h then A6A m t (.subs (t-10)) [hole i t,l,h] fun nx m=>some (bif c then clp b nx t else dat b nx t,m)else none
def B1o(m:Mem)(b i t:Nat)(cl:Bool)(l:Value)(hi mx:Option Value):Res :=
 match hi,mx with
 | some h,none=>A1V m b i t l h false
 | some h,some x=>bif B3J h x then A1V m b i t l h true else none
 | none,none=>match A9j m i t with
   | some (h,m)=>A1V m b i t l h cl
   | none=>none
 | none,some _=>none
def C1e(lo:Option Value):Value :=
 match lo with
 | some l=>l
 | none=>.int .i64 0
def B1p(m:Mem)(b i t:Nat)(cl:Bool)(lo hi mx:Option Value):Res:=B1o m b i t cl (C1e lo) hi mx
def A6i(P:Program)(m:Mem)(t:TypeId)(x:Value)(lo hi mx:Option Value):Res :=
 match P.underlying t,x with
 | some (.slice e),.func (.yield 2) ⟨[.pointer (some ⟨b,0,none⟩),.complex .f64 i tg]⟩ ⟨[]⟩=>match F9 P e with
   | some s=>bif Nat.beq tg (10+s)then B1p m b i tg false lo hi mx else none
   | none=>none
 | some (.slice e),.func (.yield 3) ⟨[.pointer (some ⟨b,0,none⟩),.complex .f64 i tg]⟩ ⟨[]⟩=>match F9 P e with
   | some s=>bif Nat.beq tg (10+s)then B1p m b i tg true lo hi mx else none
   | none=>none
 | some (.slice e),.func (.yield 4) ⟨[.pointer (some ⟨b,0,none⟩),.complex .f64 i tg]⟩ ⟨[]⟩=>match F9 P e with
   | some s=>bif Nat.beq tg (10+s)then match toD tg x m with
     | some (.complex .f64 c _,b',m)=>B1p m b' c tg false lo hi mx
     | _=>none else none
   | none=>none
 | _,_=>none
inductive Beh where
 | cells (xs:List Value)
 | rows (x:Value)
 | str (x:Value)
def A0M(w:Nat)(c:Value):Beh→LOp×List Value
 | .cells xs=>(.snoc w,c::xs)
 | .rows x=>(.cat w,[c,x])
 | .str x=>(.cats,[c,x])
def B7K(td:Td)(P:Program)(m:Mem)(e:TypeId)(w:Nat)(y:Value):Option (Beh×List Nat×Bool×Mem) :=
 match y with
 | .slice none 0 _=>some (.cells [],[],false,m)
 | .slice (some a) n _=>match Z8 m a (n*w),A2f P e with
   | some cs,some ts=>match A7s td (B2V ts n) cs m with
     | some (xs,gs,m)=>some (.cells xs,gs,Nat.blt 0 n,m)
     | none=>none
   | _,_=>none
 | .func _ _ _=>match td (10+w) y m with
   | some (x,b,m)=>some (.rows x,[b],false,m)
   | none=>none
 | y=>bif Nat.beq (F6 y) 9 && Nat.beq w 1 then some (.str y,[],false,m)else none
def A9C(td:Td)(P:Program)(m:Mem)(e:TypeId)(w:Nat)(x:Value):Option (Nat×List Nat×Option Nat×Mem) :=
 match x with
 | .slice none 0 0=>match A6A m (10+w) (.nilw w) [] fun nx m=>some (hole nx (10+w),m)with
   | some (.complex .f64 c _,m)=>some (c,[],none,m)
   | _=>none
 | .func (.yield 4) ⟨[.pointer (some ⟨b,0,none⟩),.complex .f64 i tg]⟩ ⟨[]⟩=>match Hp.get m.H b with
   | some (.sq c tc T g false)=>bif (Nat.beq tg (10+w) && Nat.beq tc tg) && (Nat.beq T e && Nat.ble b G1)then some (c,[g],some b,m)else none
   | _=>none
 | .slice (some ⟨b,0,none⟩) n c=>match Hp.get m.H b,A2f P e with
   | some (.cells cs _ _),some ts=>bif Nat.beq cs.length (n*w) && (Nat.beq c n && Nat.blt c L9 || Nat.beq c L9)then match A7s td (B2V ts n) cs m with
     | some (xs,gs,m)=>match Hp.get m.H b with
       | some (.cells _ T false)=>bif Nat.beq T e && Nat.ble b G1 then match A6A m (10+w) (.mk w) xs fun nx m=>some (hole nx (10+w),m)with
         | some (.complex .f64 c _,m)=>some (c,gs,some b,m)
         | _=>none else none
       | _=>none
     | none=>none else none
   | _,_=>none
 | _=>none
def p9(m:Mem)(c t:Nat)(T:TypeId)(g:Nat):Res:=X1 m (.sq c t T g false) fun b=>own b c t
def B5D(P:Program)(e:TypeId)(n:Nat):Bool :=
 match A1D P e with
 | some z=>Nat.beq z.cells.size n
 | none=>false
def A2Q(old:Option Nat)(m:Mem):Mem :=
 match old with
 | some b=>A2R m b
 | none=>m
def B4f(td:Td)(P:Program)(m:Mem)(e:TypeId)(w:Nat)(x:Value):Res :=
 match P.info? e with
 | some inf=>bif Nat.beq inf.size w && Nat.blt 0 w then match A9C td P m e w x with
   | some (c,gs,old,m)=>match A2S gs m with
     | some (g,m)=>p9 (A2Q old m) c (10+w) e g
     | none=>none
   | none=>none else none
 | none=>none
def B5K(P:Program):Nat→Td
 | 0=>toD
 | d+1=>fun t v m=>match v with
   | .slice (some ⟨b,0,none⟩) _ _=>match Hp.get m.H b with
     | some (.cells _ T _)=>match B4f (B5K P d) P m T (t-10) v with
       | some (x,m)=>toD t x m
       | none=>none
     | _=>none
   | v=>toD t v m
def tdP(P:Program):Td:=B5K P 3
def B0z(m:Mem)(e:TypeId)(w c:Nat)(old:Option Nat)(bh:Beh)(gs:List Nat):Res :=
 match A2S gs m with
 | some (g,m)=>A6A m (10+w) (A0M w (hole c (10+w)) bh).1 (A0M w (hole c (10+w)) bh).2 fun nx m=>p9 (A2Q old m) nx (10+w) e g
 | none=>none
def A49(P:Program)(m:Mem)(t t2:TypeId)(x y:Value):Res :=
 match P.underlying t,P.underlying t2 with
 | some (.slice e),some d2=>bif !(A0H d2)then none else
   match P.info? e with
   | some i=>bif (Nat.ble i.bytes 90000 && Nat.blt 0 i.size) && B5D P e i.size then
     match B7K (tdP P) P m e i.size y with
     | some (bh,gs,sure,m)=>match A9C (tdP P) P m e i.size x with
       | some (c,g0,old,m)=>B0z m e i.size c old bh (g0++gs)
       | none=>match x,sure with
         | .func (.yield 3) ⟨[.pointer (some ⟨b,0,none⟩),.complex .f64 c tg]⟩ ⟨[]⟩,true=>bif Nat.beq tg (10+i.size)then B0z m e i.size c none bh (b::gs)else none
         | _,_=>none
     | none=>none else none
   | none=>none
 | _,_=>none
def A6f(P:Program)(m:Mem)(t:TypeId)(x v:Value):Res :=
 match x,A2f P t with
 | .func (.yield 6) ⟨[.pointer (some ⟨b,0,none⟩),.complex .f64 i tg,z,.int .i64 (.ofNat o)]⟩ ⟨[]⟩,some ts=>bif A2A v then none else
   match A7s (tdP P) ts v.cells.toList m with
   | some (xs,gs,m)=>match Hp.get m.H b with
     | some (.sq c tc T g false)=>bif Nat.beq tc tg then match A2S (g::gs) m with
       | some (g,m)=>match A6A m tg (.set (tg-10) o) (hole c tg::z::xs) fun nx m=>some (hole nx tg,m)with
         | some (.complex .f64 nx _,m)=>B2e (A0l m b (.sq nx tg T g false))
         | _=>none
       | none=>none else none
     | _=>none
   | none=>none
 | _,_=>none
def B9b(m m1:Mem):Mem :=
 match m,m1 with
 | ⟨H,n,W,_,_⟩,⟨_,_,_,hi,lg⟩=>⟨H,n,W,hi,lg⟩
def B1s(P:Program)(m:Mem)(s t:TypeId)(x:Value):Res :=
 match P.underlying s,P.underlying t,x with
 | some (.slice e),some .string,.slice (some a) n _=>match P.underlying e with
   | some (.int .u8)=>match Z8 m a n with
     | some cs=>bif Y2 4 cs then T7 m 9 .mks cs else none
     | none=>none
   | _=>none
 | some (.slice e),some .string,.func _ _ _=>match P.underlying e with
   | some (.int .u8)=>match toD 11 x m with
     | some (h,_,m1)=>T7 (B9b m m1) 9 .str [h]
     | none=>none
   | _=>none
 | some _,some (.slice e),x=>bif Nat.beq (F6 x) 9 then match P.underlying e with
   | some (.int .u8)=>match F9 P e with
     | some 1=>match A2S [] m with
       | some (g,m)=>match A6A m 11 .byt [x] fun nx m=>some (hole nx 11,m)with
         | some (.complex .f64 nx _,m)=>p9 m nx 11 e g
         | _=>none
       | none=>none
     | _=>none
   | _=>none else none
 | _,_,_=>none
def B6i:Value→Bool
 | .slice none 0 0=>true
 | _=>false
def B6H(P:Program)(m:Mem)(op:BinOp)(t:TypeId)(x y:Operand)(a b:Value):Res :=
 match P.underlying t,a with
 | some (.slice _),.func (.yield k) ⟨[.pointer (some ⟨_,0,none⟩),.complex .f64 i tg]⟩ ⟨[]⟩=>bif B6i b && isC y && (Nat.beq k 2 || Nat.beq k 3 || Nat.beq k 4)then
   match op,T7 m 8 .nilp [hole i tg]with
   | .eql,some r=>some r
   | .neq,some (h,m)=>T7 m 8 (.un .not) [h]
   | _,_=>none else none
 | _,_=>none
def B1C(P:Program)(m:Mem)(t:TypeId)(l c:Value):Res :=
 match P.underlying t,l,c with
 | some (.slice e),.complex .f64 i ti,.complex .f64 j tj=>bif (Nat.beq i j && Nat.beq ti 3) && Nat.beq tj 3 then
   match P.info? e with
   | some inf=>bif Nat.ble inf.bytes 90000 && Nat.blt 0 inf.size then
     match A1D P e with
     | some z=>bif Nat.beq z.cells.size inf.size && z.cells.toList.all (fun z=>Nat.blt (F6 z) 10)then
       match A2S [] m with
       | some (g,m)=>match A6A m (10+inf.size) (.rep inf.size) (hole i 3::z.cells.toList) fun nx m=>some (hole nx (10+inf.size),m)with
         | some (.complex .f64 nx _,m)=>p9 m nx (10+inf.size) e g
         | _=>none
       | none=>none else none
     | none=>none else none
   | none=>none else none
 | _,_,_=>none
def dsM(P:Program)(fr:Fr)(m:Mem)(o:Op):Res :=
 match o with
 | .makeSlice t l c=>B1C P m t (ev fr l) (ev fr c)
 | .load t x=>B1H P m t (ev fr x)
 | .store t x y=>A6f P m t (ev fr x) (ev fr y)
 | .indexAddr t x i=>A20 P m t (ev fr x) (ev fr i)
 | .fieldAddr s x i=>A24 P m s (ev fr x) i
 | .slice t x lo hi mx=>A6i P m t (ev fr x) (evO fr lo) (evO fr hi) (evO fr mx)
 | .convert s t x=>B1s P m s t (ev fr x)
 | .binOp op t x y _=>B6H P m op t x y (ev fr x) (ev fr y)
 | .call ⟨.builtin .len,xs,tys⟩=>match evL fr xs.toList,tys.toList with
   | [x],t::_=>B8T P m t x
   | _,_=>none
 | .call ⟨.builtin .append,xs,tys⟩=>match evL fr xs.toList,tys.toList with
   | [x,y],t::t2::_=>A49 P m t t2 x y
   | _,_=>none
 | _=>none
def B32(P:Program)(m:Mem)(s t:TypeId)(x:Value):Res :=
 match P.underlying s,P.underlying t,x with
 | some (.pointer e),some .unsafePointer,.pointer (some ⟨b,o,none⟩)=>match F9 P e,Hp.get m.H b with
   | some (_+1),some (.cells cs _ _)=>bif Nat.blt o cs.length then some (x,m)else none
   | _,_=>none
 | some .unsafePointer,some (.pointer u),.pointer (some ⟨b,0,none⟩)=>match F9 P u,Hp.get m.H b with
   | some (k+1),some (.cells cs T false)=>bif Nat.beq T u && Nat.beq cs.length (k+1)then some (x,m)else none
   | _,_=>none
 | some (.slice _),some (.slice e),.slice (some ⟨b,o,none⟩) n c=>bif Nat.beq s t && !(Nat.beq c (L9+2))then match P.underlying e,Hp.get m.H b with
   | some (.int .u8),some (.cells cs T false)=>match A0l m b (.cells cs T true)with
     | some m1=>some (x,m1)
     | none=>none
   | _,_=>none else none
 | _,_,_=>none
def B3U(P:Program)(m:Mem)(op:BinOp)(t:TypeId)(a b:Value):Res :=
 match P.underlying t,a,b with
 | some (.pointer e),.pointer (some ⟨b1,o1,none⟩),.pointer (some ⟨b2,o2,none⟩)=>bif Nat.beq b1 b2 && Nat.beq o1 o2 then match P.info? e,op with
   | some _,.eql=>some (.bool true,m)
   | some _,.neq=>some (.bool false,m)
   | _,_=>none else none
 | _,_,_=>none
def sdM(P:Program)(m:Mem)(ty:TypeId)(x:Value):Res :=
 match P.underlying ty with
 | some (.pointer _)=>match x with
  | .func (.yield 4) ⟨[.pointer (some ⟨b,0,none⟩),.complex .f64 i t]⟩ ⟨[]⟩=>match Hp.get m.H b with
   | some (.sq _ _ _ _ _)=>some (sdt b,m)
   | _=>none
  | _=>none
 | _=>none
def usM(P:Program)(m:Mem)(pt:TypeId)(p l:Value):Res :=
 match p with
 | .func (.yield 9) ⟨[.pointer (some ⟨b,0,none⟩)]⟩ ⟨[]⟩=>bif Nat.blt (F6 l) 8 then match Hp.get m.H b,P.underlying pt with
   | some (.sq c tc T g false),some (.pointer e)=>bif Nat.beq e T && Nat.beq tc 11 then match F9 P T,T7 m 9 .ustr [hole c tc,l]with
     | some 1,some (v,m)=>match A0l m b (.sq c tc T g true)with
       | some m=>some (v,m)
       | none=>none
     | _,_=>none else none
   | _,_=>none else none
 | _=>none
def A1F(P:Program)(t:TypeId):Option Nat :=
 match P.underlying t with
 | some .bool=>some 8
 | some (.int k)=>some (A1r k)
 | some .string=>some 9
 | _=>none
def A5y(P:Program):List Field→Nat→Option (List Nat)
 | [],_=>some []
 | f::r,i=>match A1F P f.type,A5y P r (i+1)with
   | some t,some l=>bif !(f.name == "_") && Nat.beq f.offset i then some (t::l)else none
   | _,_=>none
def A3u(P:Program)(t:TypeId):Option (Bool×List Nat) :=
 match P.underlying t with
 | some (.struct fs)=>bif P.stoodInHeld t then none else match A5y P fs.toList 0 with
   | some l=>some (true,l)
   | none=>none
 | _=>match A1F P t with
   | some k=>some (false,[k])
   | none=>none
def B3A(P:Program)(t:TypeId):Option (Bool×List Nat) :=
 match l6 P t,A2f P t with
 | some true,some l=>bif l.all (fun k=>Nat.blt k 10)then some (true,l)else none
 | some false,some [k]=>bif Nat.blt k 10 then some (false,[k])else none
 | _,_=>none
structure MTy where
 kt:TypeId
 vt:TypeId
 ka:Bool
 ks:List Nat
 va:Bool
 vs:List Nat
def MTy.w(y:MTy):Nat:=y.ks.length+y.vs.length
def B4j(P:Program)(T:TypeId):Option MTy :=
 match P.underlying T with
 | some (.map kt vt)=>match A3u P kt,B3A P vt with
   | some (ka,k::ks),some (va,vs)=>some ⟨kt,vt,ka,k::ks,va,vs⟩
   | _,_=>none
 | _=>none
def A7M:List Nat→List Value→Bool
 | [],[]=>true
 | t::ts,v::vs=>Nat.beq (F6 v) t && A7M ts vs
 | _,_=>false
def A3j(a:Bool)(ts:List Nat)(v:Value):Option (List Value) :=
 match a,v with
 | true,.agg cs=>bif A7M ts cs.toList then some cs.toList else none
 | true,_=>none
 | false,v=>bif A7M ts [v]then some [v]else none
def B7O(a:Bool)(vs:List Value):Option Value :=
 match a,vs with
 | true,vs=>some (.agg ⟨vs⟩)
 | false,[v]=>some v
 | false,_=>none
def B6K(P:Program)(m:Mem)(T:TypeId):Res :=
 match B4j P T with
 | some y=>A6A m (10+y.w) (.mk y.w) [] fun nx m=>X1 m (.mp nx (10+y.w) T) fun b=>.map (some b)
 | none=>none
def A5V(w kw c t:Nat)(kc:List Value):List Nat→List Value→Nat→Mem→Option (List Value×Mem)
 | [],[],_,m=>some ([],m)
 | tg::ts,z::zs,j,m=>match T7 m tg (.mget w kw j) (hole c t::z::kc)with
   | some (h,m)=>match A5V w kw c t kc ts zs (j+1) m with
     | some (r,m)=>some (h::r,m)
     | none=>none
   | none=>none
 | _,_,_,_=>none
def A61(P:Program)(m:Mem)(T:TypeId)(x k:Value)(ok:Bool):Res :=
 match x,B4j P T with
 | .map (some r),some y=>match Hp.get m.H r,A3j y.ka y.ks k,A1D P y.vt with
   | some (.mp c t T2),some kc,some z=>bif Nat.beq T2 T then match A3j y.va y.vs z with
     | some zc=>match A5V y.w y.ks.length c t kc y.vs zc y.ks.length m with
       | some (hs,m)=>match B7O y.va hs with
         | some v=>bif ok then match T7 m 8 (.mhas y.w y.ks.length) (hole c t::kc)with
            | some (b,m)=>some (.tuple ⟨[v,b]⟩,m)
            | none=>none
           else some (v,m)
         | none=>none
       | none=>none
     | none=>none else none
   | _,_,_=>none
 | _,_=>none
def A8X(P:Program)(m:Mem)(T:TypeId)(x k v:Value):Res :=
 match x,B4j P T with
 | .map (some r),some y=>match Hp.get m.H r,A3j y.ka y.ks k,A3j y.va y.vs v with
   | some (.mp c t T2),some kc,some vc=>bif Nat.beq T2 T then A6A m t (.mput y.w y.ks.length) (hole c t::(kc++vc)) fun nx m=>B2e (A0l m r (.mp nx t T))else none
   | _,_,_=>none
 | _,_=>none
def B1K(P:Program)(m:Mem)(T:TypeId)(x:Value):Res :=
 match P.underlying T,x with
 | some (.map _ _),.map (some r)=>match Hp.get m.H r with
   | some (.mp c t _)=>A9j m c t
   | _=>none
 | _,_=>none
def xtM(P:Program)(fr:Fr)(m:Mem)(o:Oper):Res :=
 match o.op with
 | .convert s t x=>B32 P m s t (ev fr x)
 | .binOp op t x y _=>B3U P m op t (ev fr x) (ev fr y)
 | .call ⟨.builtin .unsafeSliceData,xs,_⟩=>match evL fr xs.toList with
   | [x]=>sdM P m o.type x
   | _=>none
 | .call ⟨.builtin .unsafeString,xs,tys⟩=>match evL fr xs.toList,tys.toList with
   | [p,l],t::_=>usM P m t p l
   | _,_=>none
 | .makeMap t none=>B6K P m t
 | .lookup t x k ok=>A61 P m t (ev fr x) (ev fr k) ok
 | .mapUpdate t x k v=>A8X P m t (ev fr x) (ev fr k) (ev fr v)
 | .insert t x k v=>A8X P m t (ev fr x) (ev fr k) (ev fr v)
 | .call ⟨.builtin .len,xs,tys⟩=>match evL fr xs.toList,tys.toList with
   | [x],t::_=>B1K P m t x
   | _,_=>none
 | _=>none
inductive EK where
 | noEscape|makeNoZero (e:TypeId)|indexByteString|countString|indexString|copyString
 deriving DecidableEq
def B1i:List (FuncId×EK)→FuncId→Option EK
 | [],_=>none
 | (g,k)::r,f=>bif Nat.beq g f then some k else B1i r f
structure FnC where
 run:List Value→Mem→Res
structure O0 where
 fn:FuncId→FnC
 yl:FnC
def A3Z:Value→Bool
 | .tuple ⟨[]⟩=>true
 | _=>false
def B0N(lg:Lg)(v:Value)(b:Bool):Option (Bool×Lg) :=
 match v with
 | .bool c=>some (c == b,lg)
 | .complex k i t=>match brL lg (.complex k i t)with
   | some (c,lg)=>some (c == b,lg)
   | none=>none
 | v=>bif A3Z v then some (false,lg)else none
def p8(nt:Nat)(fr:Fr)(lg:Lg)(ops:List Oper)(o:Oper):Option (Bool×Lg) :=
 match o.guard with
 | none=>some (true,lg)
 | some (j,b)=>match ops[j]? with
   | some p=>match p.dst with
     | some t=>bif Nat.blt t nt then B0N lg (fr.get t) b else none
     | none=>none
   | none=>none
def A6U(v:Value)(vs:List Value):Option (FuncId×List Value) :=
 match v with
 | .func (.func f) a b=>some (f,a.toList++(vs++b.toList))
 | _=>none
def A0d(v:Value):Option Nat :=
 match v with
 | .func (.yield 7) ⟨[.pointer (some ⟨b,0,none⟩)]⟩ ⟨[]⟩=>some b
 | _=>none
def B08(call:O0)(m:Mem)(v:Value)(vs:List Value):Res :=
 match A6U v vs with
 | some (f,vs)=>(call.fn f).run vs m
 | none=>match A0d v with
   | some _=>call.yl.run (v::vs) m
   | none=>none
def C1l(call:O0)(x:XC)(xs:LC)(fr:Fr)(m:Mem):Res:=B08 call m (x.run fr) (xs.run fr)
def C0w(f:FnC)(xs:LC)(fr:Fr)(m:Mem):Res:=f.run (xs.run fr) m
def B6a(P:Program)(c:OpC)(o:Oper)(fr:Fr)(m:Mem):Res :=
 match c.run fr m with
 | some r=>some r
 | none=>match B5R P fr m o.op with
   | some r=>some r
   | none=>match dsM P fr m o.op with
     | some r=>some r
     | none=>xtM P fr m o
def U3(P:Program)(call:O0)(o:Oper):OpC :=
 match o.op with
 | .call ⟨.value (.func f),xs,_⟩=>⟨C0w (call.fn f) (A52 xs.toList)⟩
 | .call ⟨.value x,xs,_⟩=>⟨C1l call (Q1 x) (A52 xs.toList)⟩
 | op=>⟨B6a P (A7a P op) o⟩
def A7V(nt:Nat)(d:Option Tmp):Bool :=
 match d with
 | some d=>Nat.blt d nt
 | none=>true
structure C1E where
 run:Value→Fr→(Fr→Option S)→Option S
def A6D(d:Option Tmp):C1E :=
 match d with
 | some t=>⟨A59 (sel (t / 64%8)) (sel (t / 8%8)) (sel (t%8))⟩
 | none=>⟨fun _ fr k=>k fr⟩
structure B7r where
 run:S→Option S
def A2j(c:OpC)(d:C1E)(next:B7r)(s:S):Option S :=
 match s with
 | ⟨fr,m⟩=>match c.run fr m with
   | some (v,m')=>bif Nat.ble m.hi m'.hi then d.run v fr fun fr=>next.run ⟨fr,m'⟩else none
   | none=>none
def A0n(nt:Nat)(all:List Oper)(o:Oper)(c:OpC)(d:C1E)(next:B7r)(s:S):Option S :=
 match s with
 | ⟨fr,⟨H,n,W,hi,lg⟩⟩=>match p8 nt fr lg all o with
   | some (true,lg)=>A2j c d next ⟨fr,⟨H,n,W,hi,lg⟩⟩
   | some (false,lg)=>d.run undef fr fun fr=>next.run ⟨fr,⟨H,n,W,hi,lg⟩⟩
   | none=>none
def S1(P:Program)(nt gl:Nat)(call:O0)(all:List Oper):List Oper→B7r
 | []=>⟨some⟩
 | o::r=>bif A7V nt o.dst && B2Z nt gl o.op then match o.guard with
   | none=>⟨fun s=>A2j (U3 P call o) (A6D o.dst) (S1 P nt gl call all r) s⟩
   | some _=>⟨fun s=>A0n nt all o (U3 P call o) (A6D o.dst) (S1 P nt gl call all r) s⟩
   else⟨fun _=>none⟩
structure Rec where
 i:Nat
 lo:Nat
 hi:Nat
inductive Cls where
 | free
 | one (b:Nat)
 | all
def C2A(fr:Fr)(o:Op):Cls :=
 match o with
 | .move _|.assign _|.pick ..|.alloc _|.box ..|.build ..|.buildSlice ..|.nilCheck _|.binOp ..|.unOp ..|.makeInterface ..|.makeFunc ..|.makeMap ..|.makeSlice ..
 | .fieldAddr ..|.field ..|.indexAddr ..|.index ..|.extract ..|.range ..=>.free
 | .slice _ x _ _ _=>match ev fr x with
   | .slice _ _ _|.string _|.pointer _|.complex _ _ _=>.free
   | _=>.all
 | .convert _ _ x=>match ev fr x with
   | .int _ _|.string _=>.free
   | _=>.all
 | .call ⟨.builtin .len,xs,_⟩=>match evL fr xs.toList with
   | [.slice _ _ _]|[.string _]=>.free
   | _=>.all
 | .call ⟨.builtin .min,_,_⟩|.call ⟨.builtin .max,_,_⟩=>.free
 | .call ⟨.builtin .unsafeSliceData,xs,_⟩=>match evL fr xs.toList with
   | [.slice _ _ _]=>.free
   | _=>.all
 | .load _ x|.store _ x _=>match ev fr x with
   | .pointer (some a)=>.one a.block
   | _=>.all
 | _=>.all
def A8o(H:Hp AB):List Nat→Hp AB
 | []=>H
 | b::r=>Hp.put H b none fun H=>A8o H r
def A9E(H0 H:Hp AB):List Nat→Hp AB
 | []=>H
 | b::r=>Hp.put H b (Hp.get H0 b) fun H=>A9E H0 H r
def B2P:Nat→Nat→List Nat
 | _,0=>[]
 | lo,n+1=>lo::B2P (lo+1) n
def W6:List Rec→List Nat
 | []=>[]
 | r::rs=>B2P r.lo (r.hi-r.lo)++W6 rs
def d9(l:List Nat)(b:Nat):Bool:=l.any (Nat.beq b)
def B0D(l:List Nat):Bool:=l.all fun b=>Nat.ble b G1
def A8c(b:List Nat)(rs:List Rec):List Rec:=rs.filter fun r=>!(d9 b r.i)
def A8F(m:Mem)(c:Cls)(us:List Rec):Option Mem :=
 match m with
 | ⟨H,n,_,hi,lg⟩=>match c with
   | .free=>some ⟨hp0,n,[],hi,lg⟩
   | .one b=>bif d9 (W6 us) b || !(Nat.ble b G1)then none else Hp.put hp0 b (Hp.get H b) fun H=>some ⟨H,n,[],hi,lg⟩
   | .all=>bif B0D (W6 us)then some ⟨A8o H (W6 us),n,[],hi,lg⟩else none
def A2r(m m':Mem):Option Mem :=
 bif Nat.ble m'.hi m.n then(match m with|⟨H,n,W,hi,_⟩=>some ⟨H,n,W,hi,m'.lg⟩)else
 bif Nat.ble m'.hi G1 then A9x (A9E m'.H m.H (B2P m.n (m'.hi-m.n))) fun H=>I9 m'.hi fun n=>some ⟨H,n,m.W,n,m'.lg⟩else none
def B3z(fr:Fr)(m:Mem)(o:Oper)(b:List Nat)(rs:List Rec)(op:OpC)(k:Value→Mem→Option S):Option S :=
 let us:=A8c b rs
 let c:=C2A fr o.op
 match A8F m c us with
 | some mv=>match op.run fr mv with
   | some (v,m') =>
     match m'.W,Nat.ble m.hi m'.hi with
     | [],true=>match A2r m m' with
       | some m2=>k v m2
       | none=>none
     | _,_=>none
   | none=>none
 | none=>none
def wrO:Op→Bool
 | .call _|.store ..|.mapUpdate ..=>true
 | _=>false
def j9:Op→Bool
 | .move _|.assign _|.extract ..=>true
 | _=>false
def C0h:Op→Bool
 | .field ..|.fieldAddr ..|.index ..|.indexAddr ..|.binOp ..|.unOp ..|.build ..|.load ..|.pick ..|.convert ..|.slice ..|.nilCheck _=>true
 | .call ⟨.builtin .len,_,_⟩=>true
 | o=>j9 o
def A9T(a b:Addr):Bool :=
 match a,b with
 | ⟨x,o,none⟩,⟨y,p,none⟩=>Nat.beq x y && Nat.beq o p
 | _,_=>false
def B2U(f g:Fn):Bool :=
 match f,g with
 | .func f,.func g=>Nat.beq f g
 | .yield f,.yield g=>Nat.beq f g
 | _,_=>false
def A8N(s:Value→Value→Bool):List Value→List Value→Bool
 | [],[]=>true
 | a::l,b::r=>s a b && A8N s l r
 | _,_=>false
def A6o:Nat→Value→Value→Bool
 | _,.bool a,.bool b=>a == b
 | _,.int k n,.int j m=>A6p k j && A78 n m
 | _,.complex .f64 i t,.complex .f64 j u=>Nat.beq i j && Nat.beq t u
 | _,.complex .f32 i t,.complex .f32 j u=>Nat.beq i j && Nat.beq t u
 | _,.string s,.string t=>decide (s.data.toList=t.data.toList)
 | _,.pointer none,.pointer none=>true
 | _,.pointer (some a),.pointer (some b)=>A9T a b
 | _,.slice none n c,.slice none m d=>Nat.beq n m && Nat.beq c d
 | _,.slice (some a) n c,.slice (some b) m d=>A9T a b && (Nat.beq n m && Nat.beq c d)
 | _,.map none,.map none=>true
 | _,.map (some a),.map (some b)=>Nat.beq a b
 | _,.nilFunc,.nilFunc=>true
 | _,.nilIface,.nilIface=>true
 | d+1,.func f a b,.func g a' b'=>B2U f g && (A8N (A6o d) a.toList a'.toList && A8N (A6o d) b.toList b'.toList)
 | d+1,.iface t v,.iface u w=>Nat.beq t u && A6o d v w
 | _,_,_=>false
def B5t(a b:AB):Bool :=
 match a,b with
 | .frz,.frz=>true
 | .cells cs T ro,.cells cs' T' ro'=>A8N (A6o 6) cs cs' && (Nat.beq T T' && (ro == ro'))
 | _,_=>false
def B52(H:Hp AB)(b:Nat):Option (Nat×AB) :=
 match Hp.get H b with
 | some .frz=>some (b,.frz)
 | some (.cells cs T ro)=>some (b,.cells cs T ro)
 | _=>none
def B1b(H:Hp AB)(fr:Fr)(o:Op):Option (Nat×AB) :=
 match o with
 | .load _ x=>match ev fr x with
   | .func (.yield 5) ⟨.pointer (some a)::_⟩ _=>B52 H a.block
   | .pointer (some a)=>B52 H a.block
   | _=>none
 | _=>none
def A69(H:Hp AB)(b:Nat)(ab:AB):Bool :=
 match Hp.get H b with
 | some x=>Nat.ble b G1 && B5t x ab
 | none=>false
def A47:Nat:=262144
def A9Y(m:Mem)(r:Option (Nat×AB))(us:List Rec):Option Mem :=
 match m with
 | ⟨H,_,_,_,lg⟩=>match r with
   | none=>some ⟨hp0,A47,[],A47,lg⟩
   | some (b,ab)=>bif d9 (W6 us) b || !(A69 H b ab)then none else Hp.put hp0 b (some ab) fun H=>some ⟨H,A47,[],A47,lg⟩
def A2m(fr:Fr)(m:Mem)(o:Oper)(b:List Nat)(rs:List Rec)(op:OpC):Option (Value×Lg) :=
 match A9Y m (B1b m.H fr o.op) (A8c b rs)with
 | some mv=>match op.run fr mv with
   | some (v,⟨_,_,[],hi,lg⟩)=>bif Nat.beq hi A47 then some (v,lg)else none
   | _=>none
 | none=>none
abbrev Qs:=List (Nat×Option (Nat×AB))
def B0E:Nat→List Nat→Qs→Bool
 | 0,_,_=>true
 | n+1,b,qs=>(d9 b n || qs.any fun q=>Nat.beq n q.1) && B0E n b qs
def A9l(i:Nat):List (List Nat)→List Oper→Bool
 | c::bs,o::r=>(d9 c i || j9 o.op) && A9l i bs r
 | _,_=>true
def B9a(H:Hp AB)(r:Option (Nat×AB)):Bool :=
 match r with
 | none=>true
 | some (b,ab)=>A69 H b ab
def B6Y(b:List Nat)(H:Hp AB)(qs:Qs):Bool:=qs.all fun q=>d9 b q.1 || B9a H q.2
def B0h(o:Op)(i:Nat)(b:List Nat)(bs:List (List Nat))(r:List Oper)(qs:Qs):Bool:=wrO o && (B0E i b qs && A9l i bs r)
def Z1(P:Program)(nt gl:Nat)(call:O0)(all:List Oper):List Oper→Nat→List (List Nat)→List Rec→Qs→S→Option S
 | [],_,_,_,_,s=>some s
 | _::_,_,[],_,_,_=>none
 | o::r,i,b::bs,rs,qs,⟨fr,⟨H,n,W,hi,lg⟩⟩=>match p8 nt fr lg all o,A7V nt o.dst && B2Z nt gl o.op with
   | some (true,lg),true=>bif B0h o.op i b bs r qs then(match (U3 P call o).run fr ⟨H,n,W,hi,lg⟩with
      | some (v,m2)=>bif Nat.ble hi m2.hi && B6Y b m2.H qs then(A6D o.dst).run v fr fun fr=>Z1 P nt gl call all r (i+1) bs [] qs ⟨fr,m2⟩else none
      | none=>none)
     else match (bif C0h o.op then A2m fr ⟨H,n,W,hi,lg⟩ o b rs (U3 P call o)else none)with
      | some (v,lg2)=>(A6D o.dst).run v fr fun fr2=>Z1 P nt gl call all r (i+1) bs rs ((i,B1b H fr o.op)::qs) ⟨fr2,⟨H,n,W,hi,lg2⟩⟩
      | none=>bif j9 o.op then none else B3z fr ⟨H,n,W,hi,lg⟩ o b rs (U3 P call o) fun v m2 =>
        (A6D o.dst).run v fr fun fr=>Z1 P nt gl call all r (i+1) bs (⟨i,n,m2.n⟩::rs) qs ⟨fr,m2⟩
   | some (false,lg),true=>(A6D o.dst).run undef fr fun fr=>Z1 P nt gl call all r (i+1) bs rs ((i,none)::qs) ⟨fr,⟨H,n,W,hi,lg⟩⟩
   | _,_=>none
def B7Q(l:List Nat)(b:Nat):List Nat:=bif d9 l b then l else I9 b fun b=>b::l
def B3k:List Nat→List Nat→List Nat
 | [],b=>b
 | x::a,b=>B7Q (B3k a b) x
def A4_(acc:List (List Nat)):List Edge→List Nat
 | []=>[]
 | e::r=>bif Region.binds .any e then B7Q (B3k (acc.getD e.on []) (A4_ acc r)) e.on else A4_ acc r
def W1:List Oper→List (List Nat)→List (List Nat)
 | [],acc=>acc
 | o::r,acc=>P6 (A4_ acc o.after.toList) fun a=>W1 r (acc++[a])
def A4T:Operand→List Tmp
 | .tmp t=>[t]
 | _=>[]
def S6(ops:List Oper)(o:Oper):List Tmp :=
 o.dst.toList++(o.op.operands.toList.flatMap A4T++(match o.guard with
  | none=>[]
  | some (j,_)=>match ops[j]? with
    | some p=>p.dst.toList
    | none=>[]))
def B8D(an:List (List Nat))(i k:Nat):Bool:=bif Nat.blt i k then d9 (an.getD k []) i else d9 (an.getD i []) k
def A5C(an:List (List Nat))(i:Nat)(sl:List Tmp):List Oper→Nat→Bool
 | [],_=>true
 | p::r,k=>(Nat.beq k i || (match p.dst with|none=>true|some t=>!(d9 sl t) || B8D an i k)) && A5C an i sl r (k+1)
def A3e(i:Nat):List Edge→Bool
 | []=>true
 | e::r=>(!(Region.binds .any e) || Nat.blt e.on i) && A3e i r
def B05(ops:List Oper)(an:List (List Nat)):List Oper→Nat→Bool
 | [],_=>true
 | o::r,i=>A3e i o.after.toList && (A5C an i (S6 ops o) ops 0 && B05 ops an r (i+1))
def A96(ops:Array Oper):Bool:=B05 ops.toList (W1 ops.toList []) ops.toList 0
def A9_:Op→Bool
 | .move _|.assign _|.load _ _|.store _ _ _=>true
 | _=>false
def A3B:Op→Option (TypeId×Operand)
 | .load t x=>some (t,x)
 | .store t x _=>some (t,x)
 | _=>none
def A1N:Op→Bool
 | .store _ _ _=>true
 | _=>false
def B50:Op→List Tmp
 | .move x|.assign x=>A4T x
 | .load _ x=>A4T x
 | .store _ x y=>A4T x++A4T y
 | _=>[]
def A8W(o:Oper)(l:List Tmp):Bool :=
 match o.dst with
 | some d=>d9 l d
 | none=>false
def C1r(a b:Oper):Bool :=
 (match a.dst,b.dst with
   | some d,some e=>!(Nat.beq d e)
   | _,_=>true) && (!(A8W a (B50 b.op)) && (!(A8W b (B50 a.op)) && !(A1N a.op && A1N b.op)))
def A43(o:Oper)(i:Nat):Bool:=o.after.any fun e=>Region.binds .any e && Nat.beq e.on i
def B7R(l:List Oper):List Tmp:=l.flatMap fun o=>match A3B o.op with
 | some (_,x)=>A4T x
 | none=>[]
def A9a(p:Oper→Oper→Bool)(l:List Oper):Bool :=
 (List.range l.length).all fun j=>(List.range j).all fun i=>match l[i]?,l[j]? with
   | some a,some b=>A43 b i || p a b
   | _,_=>true
def C0l(ads:List Tmp)(i:Nat)(o:Oper):Bool:=A9_ o.op && ((match o.guard with|none=>true|some _=>false) && (!(A8W o ads) && o.after.all fun e=>!(Region.binds .any e) || Nat.blt e.on i))
def B6D(ads:List Tmp):Nat→List Oper→Bool
 | _,[]=>true
 | i,o::l=>C0l ads i o && B6D ads (i+1) l
def A2k(l:List Oper):Bool:=B6D (B7R l) 0 l && A9a C1r l
def B58(P:Program)(nt gl:Nat)(fr:Fr)(H:Hp AB)(o:Oper):Bool :=
 match A3B o.op with
 | none=>true
 | some (t,x)=>bif !(okX nt gl x)then false else match ev fr x,l6 P t,F9 P t with
   | .pointer (some a),some _,some s=>match a.spot,Hp.get H a.block with
     | none,some (.cells cs _ false)=>Nat.ble (a.off+s) cs.length && (Nat.blt a.off cs.length && Nat.ble a.block G1)
     | _,_=>false
   | _,_,_=>false
def B7P(fr:Fr)(a b:Oper):Bool :=
 bif A1N a.op || A1N b.op then match A3B a.op,A3B b.op with
  | some (_,x),some (_,y)=>match ev fr x,ev fr y with
    | .pointer (some p),.pointer (some q)=>!(Nat.beq p.block q.block)
    | _,_=>false
  | _,_=>true else true
def A2t(P:Program)(nt gl:Nat)(fr:Fr)(H:Hp AB)(l:List Oper):Bool:=l.all (B58 P nt gl fr H) && A9a (B7P fr) l
structure A2Y where
 run:S→Option (Ex×S)
def A8e(f:A2Y):Nat→S→Option (Ex×S)
 | 0,_=>none
 | n+1,s=>match f.run s with
   | some (.normal,s)=>A8e f n s
   | r=>r
def B7H(a b:A2Y)(s:S):Option (Ex×S) :=
 match a.run s with
 | some (.normal,s)=>b.run s
 | r=>r
def B1y(c:XC)(a b:A2Y)(s:S):Option (Ex×S) :=
 match c.run s.fr with
 | .bool true=>a.run s
 | .bool false=>b.run s
 | v=>match s with
   | ⟨fr,⟨H,n,W,hi,lg⟩⟩=>match brL lg v with
     | some (true,lg)=>a.run ⟨fr,⟨H,n,W,hi,lg⟩⟩
     | some (false,lg)=>b.run ⟨fr,⟨H,n,W,hi,lg⟩⟩
     | none=>none
def A7g(id:Nat)(c:A2Y)(s:S):Option (Ex×S) :=
 match c.run s with
 | some (.exit j,s)=>bif Nat.beq j id then some (.normal,s)else some (.exit j,s)
 | r=>r
def V7(r:B7r)(s:S):Option (Ex×S) :=
 match r.run s with
 | some s=>some (.normal,s)
 | none=>none
structure LpT where
 me:FuncId
 look:List Bool→Option (S→Option (Ex×S))
def A8f(c:A2Y)(L:S→Option (Ex×S)):Nat→S→Option (Ex×S)
 | 0,_=>none
 | n+1,s=>match L s with
   | some r=>some r
   | none=>match c.run s with
     | some (.normal,s)=>A8f c L n s
     | r=>r
def B1w(c:A2Y)(l:Option (S→Option (Ex×S)))(s:S):Option (Ex×S) :=
 match l with
 | some f=>A8f c f 4 s
 | none=>A8e c 1000000 s
def frL(fr:Fr):Nat→Nat→List Value
 | _,0=>[]
 | i,n+1=>fr.get i::frL fr (i+1) n
def B9W:Value→Nat
 | .pointer (some a)=>a.block
 | _=>0
def A1u(v:Value):List Nat :=
 match v with
 | .func (.yield 8) ⟨l⟩ ⟨[]⟩=>l.map B9W
 | _=>[]
def exN:Ex→Nat
 | .normal=>0
 | .ret=>2
 | .exit k=>k+4
def nEx:Nat→Option Ex
 | 0=>some .normal
 | 1=>none
 | 2=>some .ret
 | 3=>none
 | k+4=>some (.exit k)
def A9o:Ex→Bool
 | .normal=>true
 | _=>false
def A4h(fr:Fr)(hi:Nat)(b:Nat)(r:Res):Option (Ex×S) :=
 match r with
 | some (_,m)=>match Hp.get m.H b with
   | some (.lp f q vs st)=>match nEx st with
     | some e=>bif Nat.ble hi m.hi then match A0l m b (.lp f q vs 3)with
       | some m=>some (e,⟨fr,m⟩)
       | none=>none else none
     | none=>none
   | _=>none
 | none=>none
def A4s(P:Program)(f:FuncId):Bool :=
 match P.funcs.toList[f]? with
 | some fn=>match fn.body with
   | some _=>true
   | none=>false
 | none=>false
def w8(P:Program)(nt:Nat)(call:O0)(f:FuncId)(q:List Bool)(g:Value)(fr:Fr)(m:Mem):Option (Ex×S) :=
 P6 (frL fr 0 nt) fun vs=>match X1 m (.lp f q vs 0) yv with
 | some (v,m1)=>match A6U g [v],A0d v with
   | some (k,as),some b=>bif A4s P k then A4h fr m1.hi b ((call.fn k).run as m1)else none
   | _,_=>none
 | none=>none
def A7f(P:Program)(nt:Nat)(call:O0)(f:FuncId)(q:List Bool)(x:XC)(s:S):Option (Ex×S) :=
 match s with
 | ⟨fr,m⟩=>bif Nat.ble nt 510 then match A0d (fr.get 511)with
   | some b0=>match Hp.get m.H b0 with
     | some (.lp _ _ _ 1)=>w8 P nt call f q (x.run fr) fr m
     | _=>none
   | none=>bif A3Z (fr.get 511)then match X1 m (.dfr true) (fun b=>.pointer (some ⟨b,0,none⟩))with
      | some (.pointer (some a),m1)=>P6 (A1u (fr.get 510)) fun l=>A59 (sel 7) (sel 7) (sel 6) (dv (a.block::l)) fr fun fr2=>w8 P nt call f q (x.run fr) fr2 m1
      | _=>none else none
   else none
def L1(P:Program)(nt gl:Nat)(call:O0)(lp:LpT):List Bool→Code→A2Y
 | _,.skip=>⟨fun s=>some (.normal,s)⟩
 | _,.label _=>⟨fun s=>some (.normal,s)⟩
 | _,.region _ ops d=>match d with
   | false=>⟨fun s=>V7 (S1 P nt gl call ops.toList ops.toList) s⟩
   | true=>bif A96 ops then bif A2k ops.toList then⟨fun s=>bif A2t P nt gl s.fr s.m.H ops.toList then V7 (S1 P nt gl call ops.toList ops.toList) s else V7 ⟨Z1 P nt gl call ops.toList ops.toList 0 (W1 ops.toList []) [] []⟩ s⟩
     else⟨fun s=>V7 ⟨Z1 P nt gl call ops.toList ops.toList 0 (W1 ops.toList []) [] []⟩ s⟩else⟨fun _=>none⟩
 | q,.seq a b=>⟨fun s=>B7H (L1 P nt gl call lp (q++[false]) a) (L1 P nt gl call lp (q++[true]) b) s⟩
 | q,.cond c a b=>bif okX nt gl c then⟨fun s=>B1y (Q1 c) (L1 P nt gl call lp (q++[false]) a) (L1 P nt gl call lp (q++[true]) b) s⟩else⟨fun _=>none⟩
 | q,.block id c=>⟨fun s=>A7g id (L1 P nt gl call lp (q++[false]) c) s⟩
 | q,.loop c=>⟨fun s=>B1w (L1 P nt gl call lp (q++[false]) c) (lp.look q) s⟩
 | q,.rangeFunc x _ _ _=>bif okX nt gl x then⟨fun s=>A7f P nt call lp.me q (Q1 x) s⟩else⟨fun _=>none⟩
 | q,.scope c=>L1 P nt gl call lp (q++[false]) c
 | _,.exit id=>⟨fun s=>some (.exit id,s)⟩
 | _,.ret=>⟨fun s=>some (.ret,s)⟩
 | _,_=>⟨fun _=>none⟩
def B2p(ids:Value→List Nat):List Value→List Nat
 | []=>[]
 | v::r=>ids v++B2p ids r
def A9t:Nat→Value→List Nat
 | 0,_=>[]
 | _+1,.pointer (some a)=>[a.block]
 | _+1,.slice (some a) _ _=>[a.block]
 | _+1,.map (some b)=>[b]
 | d+1,.func _ a b=>B2p (A9t d) a.toList++B2p (A9t d) b.toList
 | d+1,.iface _ v=>A9t d v
 | d+1,.agg cs=>B2p (A9t d) cs.toList
 | d+1,.tuple cs=>B2p (A9t d) cs.toList
 | _+1,_=>[]
def C1u:AB→List Nat
 | .cells cs _ _=>B2p (A9t 10) cs
 | .mp _ _ _=>[]
 | .iter _ _=>[]
 | .lp _ _ vs _=>B2p (A9t 10) vs
 | .dfr _=>[]
 | .sq _ _ _ g _=>[g]
 | .frz=>[]
def B0r(n0:Nat)(H:Hp AB):Nat→List Nat→List Nat→List Nat
 | 0,_,acc=>acc
 | _+1,[],acc=>acc
 | f+1,b::r,acc=>bif Nat.blt b n0 || d9 acc b then B0r n0 H f r acc else match Hp.get H b with
   | some ab=>B0r n0 H f (C1u ab++r) (b::acc)
   | none=>B0r n0 H f r acc
def A0x(H' H:Hp AB):List Nat→Hp AB
 | []=>H
 | b::r=>Hp.put H b (Hp.get H' b) fun H=>A0x H' H r
def wOf(H:Hp AB):List Nat→List Nat
 | []=>[]
 | b::r=>(match Hp.get H b with|some ab=>C1u ab|none=>[])++wOf H r
def A3w:List Nat→List Nat→List Nat
 | [],acc=>acc
 | b::r,acc=>bif d9 acc b then A3w r acc else A3w r (b::acc)
def A5L(low:Value→Bool):List Value→Bool
 | []=>true
 | v::r=>low v && A5L low r
def p7(n:Nat):Nat→Value→Bool
 | 0,_=>false
 | _+1,.pointer (some a)=>Nat.blt a.block n
 | _+1,.slice (some a) _ _=>Nat.blt a.block n
 | _+1,.map (some b)=>Nat.blt b n
 | d+1,.func _ a b=>A5L (p7 n d) a.toList && A5L (p7 n d) b.toList
 | d+1,.iface _ v=>p7 n d v
 | d+1,.agg cs=>A5L (p7 n d) cs.toList
 | d+1,.tuple cs=>A5L (p7 n d) cs.toList
 | _+1,.complex _ _ _=>true
 | _+1,v=>G9 v
def B8Q(n:Nat):Option AB→Bool
 | none=>true
 | some (.cells cs _ _)=>A5L (p7 n 10) cs
 | some (.mp _ _ _)=>true
 | some (.iter _ _)=>true
 | some (.lp _ _ vs _)=>A5L (p7 n 10) vs
 | some (.dfr _)=>true
 | some (.sq _ _ _ g _)=>Nat.blt g n
 | some .frz=>true
def B2h(n:Nat)(H:Hp AB):List Nat→Bool
 | []=>true
 | b::r=>B8Q n (Hp.get H b) && B2h n H r
def gcM(m m':Mem)(v:Value):Option Mem :=
 let W:=A3w (m'.W.filter fun b=>Nat.blt b m.n || Nat.ble m'.hi b) []
 bif p7 m.n 10 v && B2h m.n m'.H W then
  bif B0D W then A9x (A0x m'.H m.H W) fun H=>I9 m'.hi fun hi=>P6 (W++m.W) fun W=>some ⟨H,m.n,W,hi,m'.lg⟩else none
 else
  let ids:=(B0r m.n m'.H 100000 (A9t 10 v++wOf m'.H W) []).filter fun b=>Nat.ble m.n b && Nat.blt b m'.hi
  bif B0D (W++ids)then A9x (A0x m'.H m.H (W++ids)) fun H=>I9 m'.n fun n=>I9 m'.hi fun hi=>P6 (W++m.W) fun W=>some ⟨H,n,W,hi,m'.lg⟩else none
def C1N(P:Program)(nt:Nat)(s:S):ResultVar→Option Value
 | .tmp t=>bif Nat.blt t nt then some (s.fr.get t)else none
 | .cell a t=>bif Nat.blt a nt then match s.fr.get a with
   | .pointer (some a)=>B3f P s.m t a
   | _=>none else none
def B4c(P:Program)(nt:Nat)(s:S):List ResultVar→Option (List Value)
 | []=>some []
 | r::rs=>match C1N P nt s r,B4c P nt s rs with
   | some v,some vs=>some (v::vs)
   | _,_=>none
def B4b(fn:Func)(P:Program)(s:S):Option Value :=
 match B4c P fn.ntmps s fn.results.toList with
 | some [v]=>some v
 | some vs=>some (.tuple ⟨vs⟩)
 | none=>none
def A07(fr:Fr):Nat→List Value→Fr
 | _,[]=>fr
 | i,v::r=>A59 (sel (i / 64%8)) (sel (i / 8%8)) (sel (i%8)) v fr fun fr=>A07 fr (i+1) r
def A5S(l:List UInt8)(c:UInt8):Nat→Int
 | i=>match l with
   | [] => -1
   | b::r=>bif decide (b=c)then(i:Int)else A5S r c (i+1)
def A5a(c:UInt8):List UInt8→Nat→Nat
 | [],n=>n
 | b::r,n=>bif decide (b=c)then I9 (n+1) (A5a c r)else A5a c r n
def A4B(k:EK)(args:List Value)(m:Mem):Res :=
 match k,args with
 | .noEscape,[v]=>some (v,m)
 | .indexByteString,[.string s,.int .u8 (.ofNat c)]=>some (.int .i64 (A5S s.data.toList (UInt8.ofNat c) 0),m)
 | .countString,[.string s,.int .u8 (.ofNat c)]=>some (.int .i64 (A5a (UInt8.ofNat c) s.data.toList 0),m)
 | .makeNoZero e,[.int .i64 (.ofNat n)]=>bif Nat.ble n 1000000000 then X1 m (.cells [] e false) fun b=>.slice (some ⟨b,0,none⟩) n L9 else none
 | _,_=>none
def A4U:List Nat→Mem→Option Mem
 | [],m=>some m
 | b::r,m=>match Hp.get m.H b with
   | some (.dfr true)=>match A0l m b (.dfr false)with
     | some m=>A4U r m
     | none=>none
   | _=>none
def dvG(nt:Nat)(fr:Fr):List Nat:=bif Nat.ble nt 510 then A1u (fr.get 510)else[]
def C03(fn:Func)(P:Program)(m:Mem)(r:Option (Ex×S)):Res :=
 match r with
 | some (.normal,⟨fr,m1⟩)|some (.ret,⟨fr,m1⟩)=>match A4U (dvG fn.ntmps fr) m1 with
   | some m1=>match B4b fn P ⟨fr,m1⟩with
     | some v=>match gcM m m1 v with
       | some m=>some (v,m)
       | none=>none
     | none=>none
   | none=>none
 | _=>none
def B2O(c:A2Y)(fr:Fr)(m:Mem):Option (Ex×S) :=
 match m with
 | ⟨H,n,_,hi,lg⟩=>c.run ⟨fr,⟨H,n,[],hi,lg⟩⟩
def A88(fn:Func)(P:Program)(c:A2Y)(args:List Value)(m:Mem):Res :=
 bif Nat.ble args.length fn.ntmps && Nat.ble fn.ntmps 512 then C03 fn P m (B2O c (A07 fr0 0 args) m)else none
structure Cx where
 P:Program
 ext:List (FuncId×EK)
 gl:Nat
 con:FuncId→Option FnC
 lp:FuncId→LpT
def A86(C:Cx)(call:O0)(f:FuncId):FnC :=
 match C.P.funcs.toList[f]? with
 | none=>⟨fun _ _=>none⟩
 | some fn=>match C.con f with
   | some c=>c
   | none=>match fn.body with
     | none=>match B1i C.ext f with
       | some k=>⟨A4B k⟩
       | none=>⟨fun _ _=>none⟩
     | some c=>⟨A88 fn C.P (L1 C.P fn.ntmps C.gl call (C.lp f) [] c)⟩
def A5s:List Tmp→List Value→Fr→Option Fr
 | [],[],fr=>some fr
 | t::ts,v::vs,fr=>A59 (sel (t / 64%8)) (sel (t / 8%8)) (sel (t%8)) v fr fun fr=>A5s ts vs fr
 | _,_,_=>none
def A4d(b:Nat)(r:Option (Ex×S)):Res :=
 match r with
 | some (e,⟨_,m⟩)=>match Hp.get m.H b with
   | some (.lp f q vs 1)=>I9 (exN e) fun st=>match A0l m b (.lp f q vs st)with
     | some m=>some (.bool (A9o e),m)
     | none=>none
   | _=>none
 | none=>none
def A4c(b:Nat)(c:A2Y)(r:Option (Ex×S)):Res :=
 match r with
 | some (.normal,⟨fr,m⟩)=>match Hp.get m.H b with
   | some (.lp f q vs 0)=>match A0l m b (.lp f q vs 1)with
     | some m=>A4d b (c.run ⟨fr,m⟩)
     | none=>none
   | _=>none
 | _=>none
def A9W(C:Cx)(call:O0):FnC:=⟨fun vs m =>
 match vs with
 | []=>none
 | v::args=>match A0d v with
   | none=>none
   | some b=>match Hp.get m.H b with
     | some (.lp f q fs 0)=>match C.P.funcs.toList[f]? with
       | none=>none
       | some fn=>match fn.body with
         | none=>none
         | some body=>match J2 q body with
           | some (.rangeFunc _ ps as bd)=>bif Nat.ble fn.ntmps 510 && ps.toList.all (fun t=>Nat.blt t fn.ntmps)then match A5s ps.toList args (A07 fr0 0 fs)with
             | some fr=>A59 (sel 7) (sel 7) (sel 7) v fr fun fr=>A4c b (L1 C.P fn.ntmps C.gl call (C.lp f) (q++[true]) bd) ((L1 C.P fn.ntmps C.gl call (C.lp f) (q++[false]) as).run ⟨fr,m⟩)
             | none=>none else none
           | _=>none
     | _=>none⟩
def A53(C:Cx):Nat→O0
 | 0=>⟨fun _=>⟨fun _ _=>none⟩,⟨fun _ _=>none⟩⟩
 | d+1=>⟨A86 C (A53 C d),A9W C (A53 C d)⟩
end Go.Sx
