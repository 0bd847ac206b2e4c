/- The law KeysKnown: for every input the call returns true, and the arguments read behind it as they read before. No condition. -/
import Derived.WalkKit
import Derived.OrdersHeld
import Derived.KernelRfl
namespace Go.Sx
set_option linter.all false
set_option linter.unusedVariables false
open Go
abbrev A2L:=@Array.all_eq_true'
abbrev I8:=@Array.ext'
abbrev B6:=@Array.getD_eq_getD_getElem?
abbrev U5:=@Array.getElem?_append_left
abbrev G1:=@Array.getElem?_eq_getElem
abbrev D0:=@Array.getElem?_eq_some_iff
abbrev G7:=@Array.getElem?_modify
abbrev r7:=@Array.getElem?_push
abbrev A2y:=@Array.getElem?_replicate
abbrev F3:=@Array.getElem?_setIfInBounds
abbrev U8:=@Array.getElem?_toList
abbrev S8:=@Array.length_toList
abbrev A2R:=@Array.mapM_eq_mapM_toList
abbrev m5:=@Array.mk.injEq
abbrev Y3:=@BitVec.toNat_and
abbrev O5:=@BitVec.toNat_ofInt
abbrev H7:=@Bool.and_eq_true
abbrev U4:=@Bool.and_false
abbrev A2x:=@Bool.and_true
abbrev K2:=@Bool.eq_iff_iff
abbrev l7:=@Bool.false_and
abbrev I7:=@Bool.false_eq_true
abbrev P8:=@Bool.false_or
abbrev P7:=@Bool.not_true
abbrev P1:=@Bool.or_eq_false_iff
abbrev I6:=@Bool.or_eq_true
abbrev A2w:=@Bool.true_and
abbrev C4:=@Decidable.not_not
abbrev A36:=@Int.emod_nonneg
abbrev A35:=@Int.ofNat.injEq
abbrev A1J:=@Int.ofNat_eq_natCast
abbrev Q3:=@Int.toNat_natCast
abbrev q9:=@Int.toNat_of_nonneg
abbrev A34:=@List.all_append
abbrev A06:=@List.all_cons
abbrev D4:=@List.all_eq_true
abbrev u7:=@List.any_cons
abbrev Y2:=@List.any_eq_true
abbrev W1:=@List.append_assoc
abbrev F7:=@List.cons.injEq
abbrev n9:=@List.cons_append
abbrev A2K:=@List.drop_drop
abbrev o9:=@List.drop_eq_getElem_cons
abbrev A0c:=@List.drop_eq_nil_of_le
abbrev A0b:=@List.drop_zero
abbrev A0y:=@List.eq_nil_iff_forall_not_mem
abbrev M7:=@List.eq_nil_of_length_eq_zero
abbrev A0a:=@List.ext_getElem?
abbrev A1Z:=@List.filter_eq_self
abbrev A1R:=@List.find?_cons
abbrev A2o:=@List.flatMap_cons
abbrev B4:=@List.getD_eq_getElem?_getD
abbrev E4:=@List.getElem?_append_left
abbrev D9:=@List.getElem?_append_right
abbrev S4:=@List.getElem?_cons_succ
abbrev S3:=@List.getElem?_cons_zero
abbrev H6:=@List.getElem?_drop
abbrev A3:=@List.getElem?_eq_getElem
abbrev R3:=@List.getElem?_eq_none
abbrev A2Q:=@List.getElem?_eq_none_iff
abbrev A9:=@List.getElem?_eq_some_iff
abbrev H5:=@List.getElem?_map
abbrev A1I:=@List.getElem?_set_ne
abbrev Y9:=@List.getElem?_set_self
abbrev F0:=@List.getElem?_take_of_lt
abbrev J6:=@List.getElem?_toArray
abbrev P0:=@List.getElem_mem
abbrev q8:=@List.getElem_of_mem
abbrev B0:=@List.length_append
abbrev B8:=@List.length_cons
abbrev D8:=@List.length_drop
abbrev E0:=@List.length_eq_zero_iff
abbrev G2:=@List.length_map
abbrev E1:=@List.length_nil
abbrev X5:=@List.length_pos_iff
abbrev A33:=@List.length_set
abbrev G6:=@List.length_singleton
abbrev E8:=@List.length_take
abbrev V3:=@List.map_append
abbrev A1Y:=@List.map_congr_left
abbrev D7:=@List.map_cons
abbrev A0Z:=@List.map_inj_left
abbrev I5:=@List.map_nil
abbrev B3:=@List.mem_append
abbrev B2:=@List.mem_cons
abbrev C3:=@List.mem_cons_of_mem
abbrev B7:=@List.mem_cons_self
abbrev S6:=@List.mem_filter
abbrev R6:=@List.mem_map
abbrev D6:=@List.mem_of_getElem?
abbrev L1:=@List.mem_of_mem_drop
abbrev O9:=@List.mem_of_mem_take
abbrev A0Y:=@List.mem_range
abbrev Y8:=@List.mem_singleton
abbrev V2:=@List.nil_append
abbrev F9:=@List.not_mem_nil
abbrev A0m:=@List.take_append_drop
abbrev Y7:=@List.take_of_length_le
abbrev A05:=@Nat.add_assoc
abbrev A3q:=@Nat.add_comm
abbrev H3:=@Nat.add_mul
abbrev Y1:=@Nat.add_sub_cancel_left
abbrev A3N:=@Nat.and_le_right
abbrev A1i:=@Nat.beq_refl
abbrev A6F:=@Nat.ble_eq
abbrev B9:=@Nat.ble_eq_true_of_le
abbrev A0:=@Nat.eq_of_beq_eq_true
abbrev U3:=@Nat.eq_zero_or_pos
abbrev A1:=@Nat.le_of_ble_eq_true
abbrev A3p:=@Nat.le_of_lt
abbrev A5:=@Nat.le_refl
abbrev j9:=@Nat.le_succ
abbrev B1:=@Nat.le_trans
abbrev I1:=@Nat.lt_of_le_of_lt
abbrev D2:=@Nat.lt_of_lt_of_le
abbrev F4:=@Nat.lt_or_ge
abbrev J3:=@Nat.lt_succ_self
abbrev T9:=@Nat.mod_eq_of_lt
abbrev A6E:=@Nat.mod_lt
abbrev n8:=@Nat.mul_comm
abbrev x8:=@Nat.mul_div_cancel
abbrev A45:=@Nat.mul_le_mul
abbrev F2:=@Nat.mul_le_mul_right
abbrev A2n:=@Nat.one_mul
abbrev A3o:=@Nat.sub_self
abbrev Z9:=@Nat.succ_le_of_lt
abbrev K1:=@Nat.succ_le_succ
abbrev A1X:=@Nat.testBit_two_pow
abbrev E6:=@Nat.zero_add
abbrev y9:=@Nat.zero_le
abbrev A3n:=@Nat.zero_mul
abbrev A4:=@Option.bind_eq_some_iff
abbrev D1:=@Option.bind_some
abbrev A0x:=@Option.getD_some
abbrev A0X:=@Option.map_eq_some_iff
abbrev L3:=@Option.map_some
abbrev A6:=@Option.some.inj
abbrev C9:=@Option.some.injEq
abbrev M6:=@Option.some_ne_none
abbrev M9:=@Prod.mk.injEq
structure N8 (α:Type) where
 c0:α
 c1:α
 c2:α
 c3:α
 c4:α
 c5:α
 c6:α
 c7:α
structure Sel where
 get:{α:Type}→N8 α→α
 upd:{α β:Type}→N8 α→α→(N8 α→β)→β
def sel:Nat→Sel
 | 0=>⟨fun n=>n.c0,fun n v k=>match n with|⟨a0,a1,a2,a3,a4,a5,a6,a7⟩=>k ⟨v,a1,a2,a3,a4,a5,a6,a7⟩⟩
 | 1=>⟨fun n=>n.c1,fun n v k=>match n with|⟨a0,a1,a2,a3,a4,a5,a6,a7⟩=>k ⟨a0,v,a2,a3,a4,a5,a6,a7⟩⟩
 | 2=>⟨fun n=>n.c2,fun n v k=>match n with|⟨a0,a1,a2,a3,a4,a5,a6,a7⟩=>k ⟨a0,a1,v,a3,a4,a5,a6,a7⟩⟩
 | 3=>⟨fun n=>n.c3,fun n v k=>match n with|⟨a0,a1,a2,a3,a4,a5,a6,a7⟩=>k ⟨a0,a1,a2,v,a4,a5,a6,a7⟩⟩
 | 4=>⟨fun n=>n.c4,fun n v k=>match n with|⟨a0,a1,a2,a3,a4,a5,a6,a7⟩=>k ⟨a0,a1,a2,a3,v,a5,a6,a7⟩⟩
 | 5=>⟨fun n=>n.c5,fun n v k=>match n with|⟨a0,a1,a2,a3,a4,a5,a6,a7⟩=>k ⟨a0,a1,a2,a3,a4,v,a6,a7⟩⟩
 | 6=>⟨fun n=>n.c6,fun n v k=>match n with|⟨a0,a1,a2,a3,a4,a5,a6,a7⟩=>k ⟨a0,a1,a2,a3,a4,a5,v,a7⟩⟩
 | _=>⟨fun n=>n.c7,fun n v k=>match n with|⟨a0,a1,a2,a3,a4,a5,a6,a7⟩=>k ⟨a0,a1,a2,a3,a4,a5,a6,v⟩⟩
def A6D{α:Type}(v:α):N8 α:=⟨v,v,v,v,v,v,v,v⟩
def B3f{α β:Type}(n:N8 α)(k:N8 α→β):β :=
 match n with
 | ⟨a0,a1,a2,a3,a4,a5,a6,a7⟩=>k ⟨a0,a1,a2,a3,a4,a5,a6,a7⟩
abbrev Fr:=N8 (N8 (N8 Value))
def Fr.get(fr:Fr)(t:Nat):Value:=(sel (t%8)).get ((sel (t / 8%8)).get ((sel (t / 64%8)).get fr))
def A8n{β:Type}(a b c:Sel)(v:Value)(fr:Fr)(k:Fr→β):β :=
 c.upd (b.get (a.get fr)) v fun n2=>b.upd (a.get fr) n2 fun n1=>a.upd fr n1 k
def Fr.set(fr:Fr)(t:Nat)(v:Value):Fr:=A8n (sel (t / 64%8)) (sel (t / 8%8)) (sel (t%8)) v fr fun fr=>fr
def fr0:Fr:=A6D (A6D (A6D (.tuple #[])))
abbrev Hp(α:Type):=N8 (N8 (N8 (N8 (N8 (N8 (Option α))))))
def Hp.get{α:Type}(h:Hp α)(n:Nat):Option α :=
 (sel (n%8)).get ((sel (n / 8%8)).get ((sel (n / 64%8)).get ((sel (n / 512%8)).get ((sel (n / 4096%8)).get ((sel (n / 32768%8)).get h)))))
def A0s{α β:Type}(a b c d e f:Sel)(v:Option α)(h:Hp α)(k:Hp α→β):β :=
 f.upd (e.get (d.get (c.get (b.get (a.get h))))) v fun n5=>e.upd (d.get (c.get (b.get (a.get h)))) n5 fun n4=>d.upd (c.get (b.get (a.get h))) n4 fun n3=>c.upd (b.get (a.get h)) n3 fun n2=>b.upd (a.get h) n2 fun n1=>a.upd h n1 k
def Hp.put{α β:Type}(h:Hp α)(n:Nat)(v:Option α)(k:Hp α→β):β :=
 A0s (sel (n / 32768%8)) (sel (n / 4096%8)) (sel (n / 512%8)) (sel (n / 64%8)) (sel (n / 8%8)) (sel (n%8)) v h k
def Hp.set{α:Type}(h:Hp α)(n:Nat)(v:Option α):Hp α:=h.put n v fun h=>h
def hp0{α:Type}:Hp α:=A6D (A6D (A6D (A6D (A6D (A6D none)))))
def H1:Nat:=262143
def J7{β:Type}(n:Nat)(k:Nat→β):β :=
 match n with
 | 0=>k 0
 | m+1=>k (Nat.succ m)
def A7q{β:Type}(i:Int)(k:Int→β):β :=
 match i with
 | .ofNat n=>J7 n fun n=>k (.ofNat n)
 | .negSucc n=>J7 n fun n=>k (.negSucc n)
def Q8{α β:Type}:List α→(List α→β)→β
 | [],k=>k []
 | x::r,k=>Q8 r fun r=>k (x::r)
def B3e{β:Type}(v:Value)(k:Value→β):β :=
 match v with
 | .int j n=>A7q n fun n=>k (.int j n)
 | .bool true=>k (.bool true)
 | .bool false=>k (.bool false)
 | .string s=>Q8 s.data.toList fun l=>k (.string ⟨⟨l⟩⟩)
 | .agg cs=>Q8 cs.toList fun l=>k (.agg ⟨l⟩)
 | .slice a n m=>J7 n fun n=>J7 m fun m=>k (.slice a n m)
 | .tuple vs=>Q8 vs.toList fun l=>k (.tuple ⟨l⟩)
 | v=>k v
def B6K:IntKind→Nat
 | .i8=>127|.i16=>32767|.i32=>2147483647|.i64=>9223372036854775807
 | .u8=>255|.u16=>65535|.u32=>4294967295|.u64=>18446744073709551615
def B1d(k:IntKind)(n:Int):Int :=
 match n with
 | .ofNat m=>bif Nat.ble m (B6K k)then .ofNat m else k.wrap (.ofNat m)
 | .negSucc m=>k.wrap (.negSucc m)
def D5R(a b:Int):Int :=
 match a,b with
 | .ofNat m,.ofNat n=>.ofNat (Nat.add m n)
 | a,b=>a+b
def D2W(a b:Int):Int :=
 match a,b with
 | .ofNat m,.ofNat n=>bif Nat.ble n m then .ofNat (Nat.sub m n)else .ofNat m - .ofNat n
 | a,b=>a-b
def D4K(a b:Int):Int :=
 match a,b with
 | .ofNat m,.ofNat n=>.ofNat (Nat.mul m n)
 | a,b=>a*b
def ltF(a b:Int):Bool :=
 match a,b with
 | .ofNat m,.ofNat n=>Nat.blt m n
 | .negSucc _,.ofNat _=>true
 | .ofNat _,.negSucc _=>false
 | .negSucc m,.negSucc n=>Nat.blt n m
def leF(a b:Int):Bool :=
 match a,b with
 | .ofNat m,.ofNat n=>Nat.ble m n
 | .negSucc _,.ofNat _=>true
 | .ofNat _,.negSucc _=>false
 | .negSucc m,.negSucc n=>Nat.ble n m
def B1Y(a b:Int):Bool :=
 match a,b with
 | .ofNat m,.ofNat n=>Nat.beq m n
 | .negSucc m,.negSucc n=>Nat.beq m n
 | _,_=>false
def A9t:IntKind→IntKind→Bool
 | .i8,.i8|.i16,.i16|.i32,.i32|.i64,.i64|.u8,.u8|.u16,.u16|.u32,.u32|.u64,.u64=>true
 | _,_=>false
def mkI(k:IntKind)(n:Int):Value:=A7q n fun n=>.int k n
inductive U where
 | none
 | int (k:IntKind) (n:Int)
 | bool (b:Bool)
 | str (s:List UInt8)
 | seq (nul:Bool) (w:Nat) (rows:List (List U))
inductive LOp where
 | bin (op:BinOp)
 | un (op:UnOp)
 | conv (k:IntKind)
 | len
 | idx
 | sub
 | sub1
 | sel
 | eqs
 | inb
 | max
 | min
 | mks
 | inbs (w:Nat)
 | get (w o:Nat)
 | mk (w:Nat)
 | nilw (w:Nat)
 | nilp
 | snoc (w:Nat)
 | cat (w:Nat)
 | cats
 | set (w o:Nat)
 | subs (w:Nat)
 | str
 | byt
 | rep (w:Nat)
 | ustr
 | mhas (w kw:Nat)
 | mget (w kw o:Nat)
 | mput (w kw:Nat)
inductive j8 where
 | lt (i t:Nat) (op:LOp) (xs:List Value)
 | dt (i t:Nat) (op:LOp) (xs:List Value)
 | br (i:Nat) (b:Bool)
 | as (op:LOp) (xs:List Value)
 | con (spec:List U→Option (Nat×List U)) (xs:List Value) (i d n:Nat)
structure Lg where
 nx:Nat
 pi:List Nat
 log:List j8
def hole(i t:Nat):Value:=.complex .f64 i t
def junk:Value:=.complex .f32 0 0
def ixp(a:Addr)(s:Nat)(i:Value)(n:Nat):Value:=.func (.yield 1) ⟨[.pointer (some a),.int .i64 (.ofNat s),i,.int .i64 (.ofNat n)]⟩ ⟨[]⟩
def dat(b i t:Nat):Value:=.func (.yield 2) ⟨[.pointer (some ⟨b,0,none⟩),.complex .f64 i t]⟩ ⟨[]⟩
def clp(b i t:Nat):Value:=.func (.yield 3) ⟨[.pointer (some ⟨b,0,none⟩),.complex .f64 i t]⟩ ⟨[]⟩
def own(b i t:Nat):Value:=.func (.yield 4) ⟨[.pointer (some ⟨b,0,none⟩),.complex .f64 i t]⟩ ⟨[]⟩
def dpt(b i t:Nat)(z:Value)(o:Nat):Value:=.func (.yield 5) ⟨[.pointer (some ⟨b,0,none⟩),.complex .f64 i t,z,.int .i64 (.ofNat o)]⟩ ⟨[]⟩
def opt(b i t:Nat)(z:Value)(o:Nat):Value:=.func (.yield 6) ⟨[.pointer (some ⟨b,0,none⟩),.complex .f64 i t,z,.int .i64 (.ofNat o)]⟩ ⟨[]⟩
def yv(b:Nat):Value:=.func (.yield 7) ⟨[.pointer (some ⟨b,0,none⟩)]⟩ ⟨[]⟩
def sdt(b:Nat):Value:=.func (.yield 9) ⟨[.pointer (some ⟨b,0,none⟩)]⟩ ⟨[]⟩
def dv(ids:List Nat):Value:=.func (.yield 8) ⟨ids.map fun b=>.pointer (some ⟨b,0,none⟩)⟩ ⟨[]⟩
def C2H:Value→Bool
 | .complex .f32 _ _=>true
 | _=>false
def one:Value:=.complex .f32 1 0
def A3b:Value→Bool
 | .complex .f32 i _=>!(Nat.beq i 1)
 | _=>false
def A2N:IntKind→Nat
 | .i8=>0|.i16=>1|.i32=>2|.i64=>3|.u8=>4|.u16=>5|.u32=>6|.u64=>7
def F8:Value→Nat
 | .int k _=>A2N k
 | .bool _=>8
 | .string _=>9
 | .complex .f64 _ t=>t
 | _=>99
inductive AB where
 | cells (cs:List Value) (T:TypeId) (ro:Bool)
 | sq (c t:Nat) (T:TypeId) (g:Nat) (ro:Bool)
 | frz
 | mp (c t:Nat) (T:TypeId)
 | iter (s:ByteArray) (pos:Nat)
 | lp (f:FuncId) (q:List Bool) (vs:List Value) (st:Nat)
 | dfr (b:Bool)
structure Mem where
 H:Hp AB
 n:Nat
 W:List Nat
 hi:Nat
 lg:Lg
structure S where
 fr:Fr
 m:Mem
inductive Ex where
 | normal
 | exit (id:Nat)
 | ret
def H4:List Bool→Code→Option Code
 | [],c=>some c
 | false::q,.seq a _=>H4 q a
 | true::q,.seq _ b=>H4 q b
 | false::q,.cond _ a _=>H4 q a
 | true::q,.cond _ _ b=>H4 q b
 | false::q,.block _ c=>H4 q c
 | false::q,.scope c=>H4 q c
 | false::q,.loop c=>H4 q c
 | false::q,.rangeFunc _ _ a _=>H4 q a
 | true::q,.rangeFunc _ _ _ b=>H4 q b
 | _::_,_=>none
def M8:Nat:=9223372036854775808
def H9:Value→Bool
 | .bool _|.int _ _|.string _|.pointer none|.slice none _ _|.map none|.nilFunc|.nilIface=>true
 | _=>false
def B72:Value→Bool
 | .agg cs=>cs.toList.all H9
 | v=>H9 v
def ev(fr:Fr):Operand→Value
 | .tmp t=>fr.get t
 | .const v=>v
 | .global g=>.pointer (some ⟨g,0,none⟩)
 | .func f=>.func (.func f) #[] #[]
def okX(nt gl:Nat):Operand→Bool
 | .tmp t=>Nat.blt t nt
 | .const v=>B72 v
 | .global g=>Nat.blt g gl
 | .func _=>true
def evL(fr:Fr):List Operand→List Value
 | []=>[]
 | x::r=>ev fr x::evL fr r
def evP(fr:Fr):List (Nat×Operand)→List (Nat×Value)
 | []=>[]
 | (i,x)::r=>(i,ev fr x)::evP fr r
def evO(fr:Fr):Option Operand→Option Value
 | none=>none
 | some x=>some (ev fr x)
structure XC where
 run:Fr→Value
def D6F(a b c:Sel):XC:=⟨fun fr=>c.get (b.get (a.get fr))⟩
def T7:Operand→XC
 | .tmp t=>D6F (sel (t / 64%8)) (sel (t / 8%8)) (sel (t%8))
 | .const v=>⟨fun _=>v⟩
 | .global g=>⟨fun _=>.pointer (some ⟨g,0,none⟩)⟩
 | .func f=>⟨fun _=>.func (.func f) #[] #[]⟩
theorem A1p(x:Operand)(fr:Fr):(T7 x).run fr=ev fr x:=by cases x<;>rfl
structure LC where
 run:Fr→List Value
def D4_(x:XC)(r:LC)(fr:Fr):List Value:=x.run fr::r.run fr
def A8a:List Operand→LC
 | []=>⟨fun _=>[]⟩
 | x::r=>⟨fun fr=>D4_ (T7 x) (A8a r) fr⟩
theorem A5Y(fr:Fr):∀ xs:List Operand,(A8a xs).run fr=evL fr xs
 | []=>rfl
 | x::r=>by
   show(T7 x).run fr::(A8a r).run fr=_;rw[A1p,A5Y fr r];rfl
abbrev Res:=Option (Value×Mem)
def upN(hi n:Nat):Nat:=bif Nat.blt n hi then hi else Nat.succ n
def Mem.wLg(m:Mem)(lg:Lg):Mem :=
 match m with
 | ⟨H,n,W,hi,_⟩=>⟨H,n,W,hi,lg⟩
def X6(m:Mem)(t:Nat)(op:LOp)(xs:List Value):Res :=
 match m with
 | ⟨H,n,W,hi,⟨nx,pi,log⟩⟩=>J7 nx fun nx=>J7 t fun t=>Q8 xs fun xs=>some (hole nx t,⟨H,n,W,hi,⟨Nat.succ nx,pi,.lt nx t op xs::log⟩⟩)
def A8q(m:Mem)(t:Nat)(op:LOp)(xs:List Value)(k:Nat→Mem→Res):Res :=
 match m with
 | ⟨H,n,W,hi,⟨nx,pi,log⟩⟩=>J7 nx fun nx=>J7 t fun t=>Q8 xs fun xs=>k nx ⟨H,n,W,hi,⟨Nat.succ nx,pi,.dt nx t op xs::log⟩⟩
def B0X:List j8→Nat→Option Bool
 | [],_=>none
 | .br j b::r,i=>bif Nat.beq j i then some b else B0X r i
 | _::r,i=>B0X r i
def brL(lg:Lg)(c:Value):Option (Bool×Lg) :=
 match c with
 | .bool b=>some (b,lg)
 | .complex .f64 i 8=>match lg with
   | ⟨nx,pi,log⟩=>match B0X log i with
     | some b=>some (b,⟨nx,pi,log⟩)
     | none=>match pi with
       | 1::r=>some (true,⟨nx,r,.br i true::log⟩)
       | 0::r=>some (false,⟨nx,r,.br i false::log⟩)
       | _=>none
 | _=>none
def m7(m:Mem)(ab:AB)(k:Nat→Value):Res :=
 match m with
 | ⟨H,n,W,hi,lg⟩=>bif Nat.ble n H1 then J7 n fun n=>J7 (upN hi n) fun hi=>Hp.put H n (some ab) fun H=>some (k n,⟨H,Nat.succ n,W,hi,lg⟩)else none
def A1x(m:Mem)(id:Nat)(ab:AB):Option Mem :=
 match m with
 | ⟨H,n,W,hi,lg⟩=>bif Nat.ble id H1 then Hp.put H id (some ab) fun H=>J7 id fun id=>some ⟨H,n,id::W,hi,lg⟩else none
def A3y(m:Mem)(id:Nat):Mem :=
 match m with
 | ⟨H,n,W,hi,lg⟩=>Hp.put H id none fun H=>J7 id fun id=>⟨H,n,id::W,hi,lg⟩
def A7z(cs:List Value)(o n:Nat):Option (List Value) :=
 let r:=(cs.drop o).take n
 bif Nat.beq r.length n then some r else none
def y5(m:Mem)(a:Addr)(n:Nat):Option (List Value) :=
 match a.spot,Hp.get m.H a.block with
 | none,some (.cells cs _ _)=>A7z cs a.off n
 | _,_=>none
def A0_:List Value→Nat→List Value→List Value
 | cs,_,[]=>cs
 | cs,k,v::r=>A0_ (cs.set k v) (k+1) r
def flat:Value→Bool
 | .agg _|.tuple _=>false
 | .complex .f32 i _=>Nat.beq i 1
 | _=>true
def A5t(m:Mem)(a:Addr)(vs:List Value):Option Mem :=
 match a.spot,Hp.get m.H a.block with
 | none,some (.cells cs T false) =>
   bif Nat.ble (a.off+vs.length) cs.length && vs.all flat then Q8 (A0_ cs a.off vs) fun cs=>A1x m a.block (.cells cs T false)else none
 | _,_=>none
variable (P:Program)
def A0L(t:TypeId):Option Bool :=
 match P.underlying t with
 | some (.struct _)|some (.array _ _)=>some true
 | some _=>some false
 | none=>none
def G3(t:TypeId):Option Nat :=
 match P.info? t with
 | some i=>some i.size
 | none=>none
def A2S(t:TypeId):Option Value :=
 match P.info? t with
 | some i=>match i.zero with
   | some v=>bif B72 v then some v else none
   | none=>none
 | none=>none
def B8F(m:Mem)(t:TypeId)(a:Addr):Option Value :=
 match A0L P t with
 | some true=>match G3 P t with
   | some n=>match y5 m a n with
     | some cs=>some (.agg ⟨cs⟩)
     | none=>none
   | none=>none
 | some false=>match y5 m a 1 with
   | some (v::_)=>some v
   | _=>none
 | none=>none
def A9f(m:Mem)(t:TypeId)(a:Addr)(v:Value):Option Mem :=
 match G3 P t with
 | some n=>bif Nat.beq v.cells.size n && !(A3b v)then A5t m a v.cells.toList else none
 | none=>none
def A6u(t:TypeId)(cs:List Value)(off:Nat):Option Value :=
 match A0L P t with
 | some true=>match G3 P t with
   | some n=>match A7z cs off n with
     | some r=>some (.agg ⟨r⟩)
     | none=>none
   | none=>none
 | some false=>cs[off]?
 | none=>none
def C7L(e:TypeId)(s i:Nat):Field:={ name := "x",type:=e,offset:=i*s,embedded:=false,tag := "",pkgPath := "",byteOffset:=0 }
mutual
def eqM:Nat→TypeId→Value→Value→Option Bool
 | 0,_,_,_=>none
 | d+1,t,x,y=>match P.underlying t,x,y with
   | some .bool,.bool a,.bool b=>some (a == b)
   | some (.int _),.int k a,.int j b=>bif decide (k=j)then some (a == b)else none
   | some .string,.string a,.string b=>some (a.data.toList == b.data.toList)
   | some (.pointer _),.pointer none,.pointer b=>some b.isNone
   | some (.pointer _),.pointer (some _),.pointer none=>some false
   | some (.interface _),.nilIface,.nilIface=>some true
   | some (.interface _),.nilIface,.iface _ _=>some false
   | some (.interface _),.iface _ _,.nilIface=>some false
   | some (.interface _),.iface tx vx,.iface ty vy=>bif Nat.beq tx ty then(match P.info? tx with
     | some i=>bif i.comparable then eqM d tx vx vy else none
     | none=>none)else some false
   | some (.slice _),.slice none _ _,.slice b _ _=>some b.isNone
   | some (.slice _),.slice (some _) _ _,.slice none _ _=>some false
   | some (.map _ _),.map none,.map b=>some b.isNone
   | some (.func _ _ _),.nilFunc,.nilFunc=>some true
   | some (.func _ _ _),.nilFunc,.func (.func _) _ _=>some false
   | some (.func _ _ _),.func (.func _) _ _,.nilFunc=>some false
   | some (.struct fs),.agg xs,.agg ys=>bif P.stoodInHeld t then none else eqF d fs.toList xs.toList ys.toList
   | some (.array n e),.agg xs,.agg ys=>match G3 P e with
     | some s=>eqF d ((List.range n).map (C7L e s)) xs.toList ys.toList
     | none=>none
   | _,_,_=>none
def eqF:Nat→List Field→List Value→List Value→Option Bool
 | 0,_,_,_=>none
 | _+1,[],_,_=>some true
 | d+1,f::fs,xs,ys =>
   bif f.name == "_" then none else
   match A6u P f.type xs f.offset,A6u P f.type ys f.offset with
   | some x,some y=>match eqM d f.type x y with
     | some true=>eqF d fs xs ys
     | some false=>some false
     | none=>none
   | _,_=>none
end
def isC:Operand→Bool
 | .const _=>true
 | _=>false
def A4h(t:TypeId)(x y:Operand)(a b:Value):Bool :=
 match a,b with
 | .nilIface,.nilIface=>isC x || isC y
 | .agg _,.agg _=>!P.eqGuardType P.depth t
 | a,b=>!(C2H a) && !(C2H b)
def B06(op:BinOp)(k:IntKind)(x y:Int):Option Value :=
 match op with
 | .and=>some (.int k (k.wrap (BitVec.ofInt k.bits x &&& BitVec.ofInt k.bits y).toNat))
 | .or=>some (.int k (k.wrap (BitVec.ofInt k.bits x ||| BitVec.ofInt k.bits y).toNat))
 | .xor=>some (.int k (k.wrap (BitVec.ofInt k.bits x ^^^ BitVec.ofInt k.bits y).toNat))
 | .andNot=>some (.int k (k.wrap (BitVec.ofInt k.bits x &&& ~~~BitVec.ofInt k.bits y).toNat))
 | _=>none
def ltL:List UInt8→List UInt8→Bool
 | _,[]=>false
 | [],_::_=>true
 | a::x,b::y=>a<b || (a == b && ltL x y)
def A4e(op:BinOp)(k:IntKind)(a b:Int):Option Value :=
 match op with
 | .add=>some (mkI k (B1d k (D5R a b)))
 | .sub=>some (mkI k (B1d k (D2W a b)))
 | .mul=>some (mkI k (B1d k (D4K a b)))
 | .quo=>bif B1Y b 0 then none else some (mkI k (k.wrap (a.tdiv b)))
 | .rem=>bif B1Y b 0 then none else some (mkI k (a.tmod b))
 | .eql=>some (.bool (B1Y a b))
 | .neq=>some (.bool (!(B1Y a b)))
 | .lss=>some (.bool (ltF a b))
 | .leq=>some (.bool (leF a b))
 | .gtr=>some (.bool (ltF b a))
 | .geq=>some (.bool (leF b a))
 | op=>B06 op k a b
def B24(left:Bool)(k:IntKind)(a:Int)(b:Nat):Value :=
 bif left then mkI k (k.wrap (a*2 ^ (min b k.bits)))else mkI k (a.fdiv (2 ^ (min b k.bits)))
def C0f(op:BinOp)(a b:ByteArray):Option Value :=
 match op with
 | .add=>bif Nat.ble (a.size+b.size) 1000000000 then Q8 (a.data.toList++b.data.toList) fun l=>some (.string ⟨⟨l⟩⟩)else none
 | .eql=>some (.bool (a.data.toList == b.data.toList))
 | .neq=>some (.bool (!(a.data.toList == b.data.toList)))
 | .lss=>some (.bool (ltL a.data.toList b.data.toList))
 | .leq=>some (.bool (ltL a.data.toList b.data.toList || (a.data.toList == b.data.toList)))
 | .gtr=>some (.bool (!(ltL a.data.toList b.data.toList || (a.data.toList == b.data.toList))))
 | .geq=>some (.bool (!(ltL a.data.toList b.data.toList)))
 | _=>none
def B1x(op:BinOp)(t:TypeId)(x y:Value):Option Value :=
 match op with
 | .eql=>match eqM P 20 t x y with
   | some b=>some (.bool b)
   | none=>none
 | .neq=>match eqM P 20 t x y with
   | some b=>some (.bool (!b))
   | none=>none
 | _=>none
def A3A:BinOp→Option Bool
 | .shl=>some true
 | .shr=>some false
 | _=>none
def A0M(op:BinOp)(k j:IntKind)(a b:Int):Option Value :=
 match A3A op with
 | some l=>match b with
   | .ofNat n=>some (B24 l k a n)
   | .negSucc _=>none
 | none=>bif A9t k j then A4e op k a b else none
def A7J(op:BinOp)(t:TypeId)(x y:Value):Option Value :=
 match x,y with
 | .int k a,.int j b=>A0M op k j a b
 | .string a,.string b=>C0f op a b
 | x,y=>B1x P op t x y
def unM(op:UnOp)(x:Value):Option Value :=
 match op,x with
 | .neg,.int k n=>some (mkI k (k.wrap (0-n)))
 | .xor,.int k n=>B06 .xor k (if k.signed then -1 else k.max) n
 | .not,.bool b=>some (.bool !b)
 | _,_=>none
def bytesOf:List Value→Option (List UInt8)
 | []=>some []
 | .int .u8 n::r=>match bytesOf r with
   | some l=>some (UInt8.ofNat n.toNat::l)
   | none=>none
 | _::_=>none
def Q7(l:List UInt8):List Value:=l.map fun b=>.int .u8 b.toNat
def B2b(m:Mem)(s t:TypeId)(x:Value):Res :=
 match P.underlying s,P.underlying t,x with
 | some _,some (.int k),.int _ n=>some (mkI k (B1d k n),m)
 | some _,some .string,.string b=>some (.string b,m)
 | some _,some .string,.int _ n=>some (.string (Utf8.encode n),m)
 | some _,some (.slice e),.string b=>match P.underlying e with
   | some (.int .u8)=>match G3 P e with
     | some 1=>Q8 (Q7 b.data.toList) fun cs=>m7 m (.cells cs e false) fun i=>.slice (some ⟨i,0,none⟩) b.size M8
     | _=>none
   | _=>none
 | some (.slice e),some .string,.slice none _ _=>match P.underlying e with
   | some (.int .u8)=>some (.string ByteArray.empty,m)
   | _=>none
 | some (.slice e),some .string,.slice (some a) n _=>match P.underlying e with
   | some (.int .u8)=>match y5 m a n with
     | some cs=>match bytesOf cs with
       | some l=>some (.string ⟨⟨l⟩⟩,m)
       | none=>none
     | none=>none
   | _=>none
 | _,_,_=>none
def B0Y(place:Nat→Option (Nat×Nat))(cells:List Value):List (Nat×Value)→Option (List Value)
 | []=>some cells
 | (i,v)::rest=>match place i with
   | none=>none
   | some (off,size) =>
     bif (Nat.beq v.cells.size size && !(A3b v)) && Nat.ble (off+v.cells.size) cells.length then Q8 (A0_ cells off v.cells.toList) fun cs=>B0Y place cs rest else none
def A6t:List Field→Option (List (Nat×Nat))
 | []=>some []
 | f::r=>match G3 P f.type,A6t r with
   | some n,some l=>some ((f.offset,n)::l)
   | _,_=>none
def B4g(z:List Value):Nat→List Value
 | 0=>[]
 | n+1=>z++B4g z n
def B2t(e:TypeId)(n:Nat):Option (List Value) :=
 match G3 P e with
 | some s=>bif Nat.beq (n*s) 0 then some []else match A2S P e with
   | some z=>bif Nat.beq z.cells.size s then some (B4g z.cells.toList n)else none
   | none=>none
 | none=>none
def B7C(t:TypeId)(parts:List (Nat×Value)):Option Value :=
 match A2S P t,P.underlying t with
 | some z,some (.struct fs)=>match A6t P fs.toList with
   | some ps=>match B0Y (ps[·]?) z.cells.toList parts with
     | some cs=>some (.agg ⟨cs⟩)
     | none=>none
   | none=>none
 | some z,some (.array _ e)=>match G3 P e with
   | some s=>match B0Y (fun i=>some (i*s,s)) z.cells.toList parts with
     | some cs=>some (.agg ⟨cs⟩)
     | none=>none
   | none=>none
 | _,_=>none
def A1G(m:Mem)(t:TypeId)(n:Nat)(parts:List (Nat×Value)):Res :=
 match P.underlying t with
 | some (.slice e)=>match G3 P e,B2t P e n with
   | some s,some zs=>bif Nat.ble (n*s) 16777216 && Nat.blt n M8 then match B0Y (fun i=>some (i*s,s)) zs parts with
     | some cs=>m7 m (.cells cs e false) fun i=>.slice (some ⟨i,0,none⟩) n n
     | none=>none else none
   | _,_=>none
 | _=>none
def A17(m:Mem)(t:TypeId)(l c:Value):Res :=
 match P.underlying t,l,c with
 | some (.slice e),.int _ (.ofNat l),.int _ (.ofNat c)=>match P.info? e with
   | some i=>bif Nat.ble l c && Nat.ble c 10000000 && Nat.ble (c*i.bytes) 100000000 then match B2t P e c with
     | some zs=>Q8 zs fun zs=>m7 m (.cells zs e false) fun k=>.slice (some ⟨k,0,none⟩) l c
     | none=>none else none
   | none=>none
 | _,_,_=>none
def A0o(a:Addr)(n:Nat):Addr:=J7 (a.off+n) fun o=>⟨a.block,o,none⟩
def A1E(s:TypeId)(x:Value)(i:Nat):Option Value :=
 match P.underlying s,x with
 | some (.struct fs),.pointer (some a)=>match fs.toList[i]?,a.spot with
   | some f,none=>match G3 P f.type with
     | some (_+1)=>some (.pointer (some (A0o a f.offset)))
     | _=>none
   | _,_=>none
 | _,_=>none
def B3i(t:TypeId)(x:Value)(i:Nat):Option Value :=
 match P.underlying t,x with
 | some (.struct fs),.agg cs=>match fs.toList[i]? with
   | some f=>A6u P f.type cs.toList f.offset
   | none=>none
 | _,_=>none
def Z1(t:TypeId)(x i:Value):Option Value :=
 match P.underlying t,x,i with
 | some (.array n e),.pointer (some a),.int _ (.ofNat k)=>match G3 P e,a.spot with
   | some s,none=>bif Nat.blt k n then some (.pointer (some (A0o a (k*s))))else none
   | _,_=>none
 | some (.slice e),.slice (some a) n _,.int _ (.ofNat k)=>match G3 P e,a.spot with
   | some s,none=>bif Nat.blt k n then some (.pointer (some (A0o a (k*s))))else none
   | _,_=>none
 | _,_,_=>none
def A4f(t:TypeId)(x i:Value):Option Value :=
 match P.underlying t,x,i with
 | some (.array n e),.agg cs,.int _ (.ofNat k)=>match G3 P e with
   | some s=>bif Nat.blt k n then A6u P e cs.toList (k*s)else none
   | none=>none
 | some .string,.string s,.int _ (.ofNat k)=>match s.data.toList[k]? with
   | some b=>some (.int .u8 b.toNat)
   | none=>none
 | _,_,_=>none
def V1(v:Option Value)(H1 dflt:Nat):Option Nat :=
 match v with
 | none=>some dflt
 | some (.int _ (.ofNat k))=>bif Nat.ble k H1 then some k else none
 | some _=>none
def A1K(t:TypeId)(x:Value)(lo hi mx:Option Value):Option Value :=
 match P.underlying t,x with
 | some .string,.string s =>
   match mx,V1 hi s.size s.size with
   | none,some h=>match V1 lo h 0 with
     | some l=>some (.string ⟨⟨(s.data.toList.drop l).take (h-l)⟩⟩)
     | none=>none
   | _,_=>none
 | some (.slice e),.slice none n c =>
   match n,c,V1 mx 0 0,V1 hi 0 0,V1 lo 0 0 with
   | 0,0,some _,some _,some _=>bif (mx.isSome && hi.isNone) || (G3 P e).isNone then none else some (.slice none 0 0)
   | _,_,_,_,_=>none
 | some (.slice e),.slice (some a) n c =>
   match G3 P e,a.spot with
   | some s,none =>
     bif Nat.blt c M8 then
      match V1 mx c c with
      | some m=>match (match hi,mx with|none,some _=>none|hi,_=>V1 hi m n)with
        | some h=>match V1 lo h 0 with
          | some l=>some (.slice (some (bif Nat.beq m l then a else A0o a (l*s))) (h-l) (m-l))
          | none=>none
        | none=>none
      | none=>none
     else
      match mx with
      | some _=>match hi,V1 mx n n with
        | some _,some m=>bif Nat.blt m M8 && Nat.ble c (M8+1)then match V1 hi m n with
          | some h=>match V1 lo h 0 with
            | some l=>some (.slice (some (bif Nat.beq m l then a else A0o a (l*s))) (h-l) (m-l))
            | none=>none
          | none=>none else none
        | _,_=>none
      | none=>match V1 hi n n with
        | some h=>match V1 lo h 0 with
          | some 0=>some (.slice (some a) h c)
          | some (l+1)=>let l:=l+1
            bif Nat.blt l n then some (.slice (some (A0o a (l*s))) (h-l) (M8+1))else some (.slice (some a) 0 (M8+2))
          | none=>none
        | none=>none
   | _,_=>none
 | some (.array n e),.pointer (some a) =>
   match G3 P e,a.spot,mx with
   | some s,none,none=>match V1 hi n n with
     | some h=>match V1 lo h 0 with
       | some l=>bif Nat.blt n M8 then some (.slice (some (bif Nat.beq n l then a else A0o a (l*s))) (h-l) (n-l))else none
       | none=>none
     | none=>none
   | _,_,_=>none
 | _,_=>none
def A16(m:Mem)(s:Nat)(y:Value):Option (Nat×List Value) :=
 match y with
 | .slice none n _=>bif Nat.beq n 0 then some (0,[])else none
 | .slice (some a) n _=>match y5 m a (n*s)with
   | some cs=>some (n,cs)
   | none=>none
 | .string b=>bif Nat.beq s 1 then some (b.size,Q7 b.data.toList)else none
 | _=>none
def A1O:TypeDesc→Bool
 | .slice _|.string=>true
 | _=>false
def A7L(m:Mem)(t t2:TypeId)(x y:Value):Res :=
 match P.underlying t,P.underlying t2 with
 | some (.slice e),some d2 =>
   bif !(A1O d2)then none else
   match P.info? e,x with
   | some i,.slice a n c=>match A16 m i.size y,A2S P e with
     | some (k,new),some z =>
       bif Nat.ble ((3*(n+k)+4000)*i.bytes) 281474976710656 && Nat.ble (n+k) 1000000000 && Nat.beq z.cells.size i.size && new.all flat then
       bif Nat.beq k 0 then(match a with|none=>bif Nat.beq n 0 && Nat.beq c 0 then some (x,m)else none|some _=>bif Nat.ble c (M8+1) && Nat.ble n c then some (x,m)else none)else
       match a with
       | none=>bif Nat.beq n 0 && Nat.beq c 0 then Q8 new fun cs=>m7 m (.cells cs e false) fun b=>.slice (some ⟨b,0,none⟩) k M8 else none
       | some ad =>
         bif Nat.blt c M8 then
          bif Nat.ble (n+k) c then
           match ad.spot,A5t m (A0o ad (n*i.size)) new with
           | none,some m'=>some (.slice a (n+k) c,m')
           | _,_=>none
          else match y5 m ad (n*i.size)with
           | some old=>Q8 (old++new) fun cs=>m7 m (.cells cs e false) fun b=>.slice (some ⟨b,0,none⟩) (n+k) M8
           | none=>none
         else bif Nat.beq c M8 && Nat.beq ad.off 0 then
          match ad.spot,Hp.get m.H ad.block with
          | none,some (.cells cs T false) =>
            bif Nat.beq cs.length (n*i.size) && Nat.beq T e && Nat.ble ad.block H1 && Nat.blt ad.block m.n then
             Q8 (cs++new) fun cs=>m7 (A3y m ad.block) (.cells cs e false) fun b=>.slice (some ⟨b,0,none⟩) (n+k) M8
            else none
          | _,_=>none
         else none
       else none
     | _,_=>none
   | _,_=>none
 | _,_=>none
def B5l(m:Mem)(t:TypeId)(x y:Value):Res :=
 match P.underlying t,x with
 | some (.slice e),.slice a n c=>match G3 P e with
   | some s =>
     match (match y with
      | .slice none k _=>bif Nat.beq k 0 then some (0,[])else none
      | .slice (some b) k _=>match y5 m b (Nat.min k n*s)with
        | some cs=>some (Nat.min k n,cs)
        | none=>none
      | .string b=>some (Nat.min b.size n,Q7 (b.data.toList.take (Nat.min b.size n)))
      | _=>none:Option (Nat×List Value))with
     | some (k,cs)=>match a with
       | none=>bif Nat.beq k 0 then some (.int .i64 0,m)else none
       | some ad=>bif Nat.beq cs.length 0 then some (.int .i64 k,m)else bif Nat.ble c (M8+1)then match A5t m ad cs with
         | some m'=>some (.int .i64 k,m')
         | none=>none else none
     | none=>none
   | none=>none
 | _,_=>none
def C1z(m:Mem)(t:TypeId)(x:Value):Option Value :=
 match P.underlying t,x with
 | some .string,.string s=>some (.int .i64 s.data.toList.length)
 | some (.array n _),_=>some (.int .i64 n)
 | some (.slice _),.slice _ n _=>some (.int .i64 n)
 | some (.map _ _),.map none=>some (.int .i64 0)
 | _,_=>none
def D3L(t:TypeId)(x:Value):Option Value :=
 match P.underlying t,x with
 | some (.slice _),.slice none _ c=>some (.int .i64 c)
 | some (.slice _),.slice (some a) n c=>bif Nat.blt c M8 then some (.int .i64 c)else none
 | _,_=>none
def D2r:List Value→Option Value
 | [.int k a,.int _ b]=>some (.int k (if b>a then b else a))
 | [.int k a,.int _ b,.int _ c]=>A7q (if b>a then b else a) fun d=>some (.int k (if c>d then c else d))
 | _=>none
def D2q:List Value→Option Value
 | [.int k a,.int _ b]=>some (.int k (if b<a then b else a))
 | [.int k a,.int _ b,.int _ c]=>A7q (if b<a then b else a) fun d=>some (.int k (if c<d then c else d))
 | _=>none
def noM(v:Option Value)(m:Mem):Res :=
 match v with
 | some v=>some (v,m)
 | none=>none
def B6p(m:Option Mem):Res :=
 match m with
 | some m=>some (undef,m)
 | none=>none
def B76(m:Mem)(c a b:Value):Res :=
 match c with
 | .bool true=>some (a,m)
 | .bool false=>some (b,m)
 | _=>none
def B3L(m:Mem)(e:TypeId):Res :=
 match A2S P e with
 | some z=>m7 m (.cells z.cells.toList e false) fun b=>.pointer (some ⟨b,0,none⟩)
 | none=>none
def C1l(m:Mem)(e:TypeId)(v:Value):Res :=
 bif v.cells.toList.all flat then m7 m (.cells v.cells.toList e false) fun b=>.pointer (some ⟨b,0,none⟩)else none
def B77(m:Mem)(t:TypeId)(v:Value):Res :=
 match v with
 | .pointer (some a)=>noM (B8F P m t a) m
 | _=>none
def B3J(m:Mem)(t:TypeId)(x v:Value):Res :=
 match x with
 | .pointer (some a)=>B6p (A9f P m t a v)
 | _=>none
def C1k(m:Mem)(x:Value):Res :=
 match x with
 | .pointer (some a)=>some (.pointer (some a),m)
 | .func (.func f) a b=>some (.func (.func f) a b,m)
 | _=>none
def B0O:BinOp→Bool
 | .eql|.neq=>true
 | _=>false
def C6K(m:Mem)(op:BinOp)(t:TypeId)(x y:Operand)(a b:Value):Res :=
 bif B0O op then(bif A4h P t x y a b then noM (A7J P op t a b) m else none)else noM (A7J P op t a b) m
def B3K(m:Mem)(t:TypeId)(v:Value):Res :=
 match P.underlying t with
 | some d=>(match d with|.interface _=>none|_=>bif flat v || (match v with|.agg _=>true|_=>false)then some (.iface t v,m)else none)
 | none=>none
def A4S(m:Mem)(v:Value)(i:Nat):Res :=
 match v with
 | .tuple vs=>noM vs.toList[i]? m
 | _=>none
def A3R(m:Mem)(x:Value):Res :=
 match x with
 | .slice none _ _=>some (.pointer none,m)
 | .slice (some a) n c=>bif Nat.beq n 0 || Nat.beq c 0 || Nat.beq c (M8+2)then none else some (.pointer (some a),m)
 | _=>none
def A1s(m:Mem)(pt:TypeId)(p l:Value):Res :=
 match p,l with
 | .pointer none,.int _ (.ofNat 0)=>some (.string ByteArray.empty,m)
 | .pointer (some a),.int _ (.ofNat n) =>
   match a.spot,Hp.get m.H a.block with
   | none,some (.cells cs T false)=>match P.underlying pt,G3 P T with
     | some (.pointer e),some 1=>bif Nat.blt 0 n && Nat.ble n 1000000000 && Nat.beq e T then match A7z cs a.off n with
       | some l=>match bytesOf l,A1x m a.block (.cells cs T true)with
         | some l,some m'=>some (.string ⟨⟨l⟩⟩,m')
         | _,_=>none
       | none=>none else none
     | _,_=>none
   | _,_=>none
 | _,_=>none
def A3J(m:Mem)(b:Builtin)(vs:List Value)(tys:List TypeId):Res :=
 match b,vs,tys with
 | .len,[x],t::_=>noM (C1z P m t x) m
 | .cap,[x],t::_=>noM (D3L P t x) m
 | .append,[x,y],t::t2::_=>A7L P m t t2 x y
 | .copy,[x,y],t::_=>B5l P m t x y
 | .max,vs,_=>noM (D2r vs) m
 | .min,vs,_=>noM (D2q vs) m
 | .unsafeSliceData,[x],_=>A3R m x
 | .unsafeString,[p,l],t::_=>A1s P m t p l
 | _,_,_=>none
def opM(fr:Fr)(m:Mem)(o:Op):Res :=
 match o with
 | .move x|.assign x=>some (ev fr x,m)
 | .pick c a b=>B76 m (ev fr c) (ev fr a) (ev fr b)
 | .alloc e=>B3L P m e
 | .box e x=>C1l m e (ev fr x)
 | .build t ps=>noM (B7C P t (evP fr ps.toList)) m
 | .buildSlice t n ps=>A1G P m t n (evP fr ps.toList)
 | .load t x=>B77 P m t (ev fr x)
 | .store t x y=>B3J P m t (ev fr x) (ev fr y)
 | .nilCheck x=>C1k m (ev fr x)
 | .binOp op t x y _=>C6K P m op t x y (ev fr x) (ev fr y)
 | .unOp op _ x=>noM (unM op (ev fr x)) m
 | .convert s t x=>B2b P m s t (ev fr x)
 | .makeInterface t x=>B3K P m t (ev fr x)
 | .makeFunc (.func f) first cap=>some (.func (.func f) ⟨evL fr first.toList⟩ ⟨evL fr cap.toList⟩,m)
 | .makeSlice t l c=>A17 P m t (ev fr l) (ev fr c)
 | .slice t x lo hi mx=>noM (A1K P t (ev fr x) (evO fr lo) (evO fr hi) (evO fr mx)) m
 | .fieldAddr s x i=>noM (A1E P s (ev fr x) i) m
 | .field t x i=>noM (B3i P t (ev fr x) i) m
 | .indexAddr t x i=>noM (Z1 P t (ev fr x) (ev fr i)) m
 | .index t x i=>noM (A4f P t (ev fr x) (ev fr i)) m
 | .extract x i=>A4S m (ev fr x) i
 | .call ⟨.builtin b,xs,tys⟩=>A3J P m b (evL fr xs.toList) tys.toList
 | _=>none
structure OpC where
 run:Fr→Mem→Res
def C2C(x:XC)(fr:Fr)(m:Mem):Res:=some (x.run fr,m)
def C9H(c a b:XC)(fr:Fr)(m:Mem):Res:=B76 m (c.run fr) (a.run fr) (b.run fr)
def D4b(e:TypeId)(x:XC)(fr:Fr)(m:Mem):Res:=C1l m e (x.run fr)
def C9I(t:TypeId)(x:XC)(fr:Fr)(m:Mem):Res:=B77 P m t (x.run fr)
def C2B(t:TypeId)(x y:XC)(fr:Fr)(m:Mem):Res:=B3J P m t (x.run fr) (y.run fr)
def D4Z(x:XC)(fr:Fr)(m:Mem):Res:=C1k m (x.run fr)
def D4c(op:BinOp)(t:TypeId)(x y:Operand)(cx cy:XC)(fr:Fr)(m:Mem):Res:=C6K P m op t x y (cx.run fr) (cy.run fr)
def kUn(op:UnOp)(x:XC)(fr:Fr)(m:Mem):Res:=noM (unM op (x.run fr)) m
def C9J(s t:TypeId)(x:XC)(fr:Fr)(m:Mem):Res:=B2b P m s t (x.run fr)
def B0J(s:TypeId)(x:XC)(i:Nat)(fr:Fr)(m:Mem):Res:=noM (A1E P s (x.run fr) i) m
def C2E(s:TypeId)(x:XC)(i:Nat)(fr:Fr)(m:Mem):Res:=noM (B3i P s (x.run fr) i) m
def B0I(t:TypeId)(x i:XC)(fr:Fr)(m:Mem):Res:=noM (Z1 P t (x.run fr) (i.run fr)) m
def C2D(t:TypeId)(x i:XC)(fr:Fr)(m:Mem):Res:=noM (A4f P t (x.run fr) (i.run fr)) m
def B5H(x:XC)(i:Nat)(fr:Fr)(m:Mem):Res:=A4S m (x.run fr) i
def B5I(b:Builtin)(xs:LC)(tys:List TypeId)(fr:Fr)(m:Mem):Res:=A3J P m b (xs.run fr) tys
def B0u(o:Op):OpC :=
 match o with
 | .move x=>⟨C2C (T7 x)⟩
 | .assign x=>⟨C2C (T7 x)⟩
 | .pick c a b=>⟨C9H (T7 c) (T7 a) (T7 b)⟩
 | .box e x=>⟨D4b e (T7 x)⟩
 | .load t x=>⟨C9I P t (T7 x)⟩
 | .store t x y=>⟨C2B P t (T7 x) (T7 y)⟩
 | .nilCheck x=>⟨D4Z (T7 x)⟩
 | .binOp op t x y _=>⟨D4c P op t x y (T7 x) (T7 y)⟩
 | .unOp op _ x=>⟨kUn op (T7 x)⟩
 | .convert s t x=>⟨C9J P s t (T7 x)⟩
 | .fieldAddr s x i=>⟨B0J P s (T7 x) i⟩
 | .field t x i=>⟨C2E P t (T7 x) i⟩
 | .indexAddr t x i=>⟨B0I P t (T7 x) (T7 i)⟩
 | .index t x i=>⟨C2D P t (T7 x) (T7 i)⟩
 | .extract x i=>⟨B5H (T7 x) i⟩
 | .call ⟨.builtin b,xs,tys⟩=>⟨B5I P b (A8a xs.toList) tys.toList⟩
 | o=>⟨fun fr m=>opM P fr m o⟩
theorem B0t(o:Op)(fr:Fr)(m:Mem):(B0u P o).run fr m=opM P fr m o:=by
 unfold B0u;split<;>simp only[C2C,C9H,D4b,C9I,C2B,D4Z,D4c,kUn,C9J,B0J,C2E,B0I,C2D,B5H,B5I,opM,A1p,A5Y]
def B6j(nt gl:Nat)(o:Op):Bool:=o.operands.toList.all (okX nt gl)
end Go.Sx
namespace Go.Sx
set_option linter.all false
set_option linter.unusedVariables false
open Go
def D4h:BinOp→Bool
 | .eql|.neq|.lss|.leq|.gtr|.geq=>true
 | _=>false
def A5u(P:Program)(m:Mem)(op:BinOp)(t:TypeId)(a b:Value):Res :=
 let ta:=F8 a
 let tb:=F8 b
 bif (Nat.blt ta 8 && Nat.blt tb 8) || (Nat.beq ta 9 && Nat.beq tb 9)then X6 m (bif D4h op then 8 else ta) (.bin op) [a,b]else
 bif Nat.beq ta 8 && Nat.beq tb 8 && B0O op && (match P.underlying t with|some .bool=>true|_=>false)then X6 m 8 (.bin op) [a,b]else none
def A2A(P:Program)(t:TypeId)(x y:Value):Bool :=
 match P.underlying t with
 | some .bool=>Nat.beq (F8 x) 8 && Nat.beq (F8 y) 8
 | some (.int k)=>Nat.beq (F8 x) (A2N k) && Nat.beq (F8 y) (A2N k)
 | some .string=>Nat.beq (F8 x) 9 && Nat.beq (F8 y) 9
 | _=>false
mutual
def eqS(P:Program):Nat→TypeId→Value→Value→Option (List Value)
 | 0,_,_,_=>none
 | d+1,t,x,y=>bif A2A P t x y then some [x,y]else
   match P.underlying t,x,y with
   | some (.struct fs),.agg xs,.agg ys=>bif P.stoodInHeld t then none else B0e P d fs.toList xs.toList ys.toList
   | some (.array n e),.agg xs,.agg ys=>match G3 P e with
     | some s=>B0e P d ((List.range n).map (C7L e s)) xs.toList ys.toList
     | none=>none
   | _,_,_=>none
def B0e(P:Program):Nat→List Field→List Value→List Value→Option (List Value)
 | 0,_,_,_=>none
 | _+1,[],_,_=>some []
 | d+1,f::fs,xs,ys =>
   bif f.name == "_" then none else
   match A6u P f.type xs f.offset,A6u P f.type ys f.offset with
   | some x,some y=>match eqS P d f.type x y,B0e P d fs xs ys with
     | some a,some b=>some (a++b)
     | _,_=>none
   | _,_=>none
end
def B4S(P:Program)(m:Mem)(op:BinOp)(t:TypeId)(x y:Operand)(a b:Value):Res :=
 bif A4h P t x y a b then
  match op,eqS P 20 t a b with
  | .eql,some l=>X6 m 8 .eqs l
  | .neq,some l=>match X6 m 8 .eqs l with
    | some (h,m)=>X6 m 8 (.un .not) [h]
    | none=>none
  | _,_=>none
 else none
def s9(t:Nat):List Value→Bool
 | []=>true
 | v::r=>Nat.beq (F8 v) t && s9 t r
def r8.sizeD(P:Program)(e:TypeId):Nat:=match G3 P e with|some n=>n|none=>0
def r8(P:Program)(m:Mem)(t:TypeId)(x i:Value):Res :=
 bif !(Nat.blt (F8 i) 8)then none else
 match P.underlying t with
 | some .string=>bif Nat.beq (F8 x) 9 then X6 m 4 .idx [x,i]else none
 | some (.array n e)=>match x,P.underlying e with
   | .agg cs,some (.int k)=>bif Nat.beq (cs.toList.length) n && s9 (A2N k) cs.toList && Nat.beq (r8.sizeD P e) 1 then X6 m (A2N k) .sel (i::cs.toList)else none
   | .agg cs,some .string=>bif Nat.beq (cs.toList.length) n && s9 9 cs.toList && Nat.beq (r8.sizeD P e) 1 then X6 m 9 .sel (i::cs.toList)else none
   | _,_=>none
 | _=>none
def A4G(P:Program)(m:Mem)(t:TypeId)(x:Value)(lo hi mx:Option Value):Res :=
 match P.underlying t,mx with
 | some .string,none=>bif Nat.beq (F8 x) 9 then
    match lo,hi with
    | none,none=>some (x,m)
    | some l,none=>bif Nat.blt (F8 l) 8 then X6 m 9 .sub1 [x,l]else none
    | none,some h=>bif Nat.blt (F8 h) 8 then X6 m 9 .sub [x,.int .i64 0,h]else none
    | some l,some h=>bif Nat.blt (F8 l) 8 && Nat.blt (F8 h) 8 then X6 m 9 .sub [x,l,h]else none
   else none
 | _,_=>none
def B4N(m:Mem)(op:UnOp)(x:Value):Res :=
 let t:=F8 x
 match op with
 | .not=>bif Nat.beq t 8 then X6 m 8 (.un .not) [x]else none
 | op=>bif Nat.blt t 8 then X6 m t (.un op) [x]else none
def A6Z(P:Program)(m:Mem)(s t:TypeId)(x:Value):Res :=
 match P.underlying s,P.underlying t with
 | some (.int _),some (.int k)=>bif Nat.blt (F8 x) 8 then X6 m (A2N k) (.conv k) [x]else none
 | some .string,some .string=>bif Nat.beq (F8 x) 9 then some (x,m)else none
 | _,_=>none
def A1v(P:Program)(m:Mem)(b:Builtin)(vs:List Value)(tys:List TypeId):Res :=
 match b,vs,tys with
 | .len,[x],t::_=>match P.underlying t with
   | some .string=>bif Nat.beq (F8 x) 9 then X6 m 3 .len [x]else none
   | _=>none
 | .max,[x,y],_=>bif Nat.blt (F8 x) 8 && Nat.beq (F8 x) (F8 y)then X6 m (F8 x) .max [x,y]else none
 | .min,[x,y],_=>bif Nat.blt (F8 x) 8 && Nat.beq (F8 x) (F8 y)then X6 m (F8 x) .min [x,y]else none
 | _,_,_=>none
def B9k(m:Mem)(a:Addr)(s n:Nat)(i:Value):Res :=
 bif !(Nat.blt (F8 i) 8)then none else
 match X6 m 8 .inb [i,.int .i64 (.ofNat n)]with
 | some (b,⟨H,k,W,hi,lg⟩)=>match brL lg b with
   | some (true,lg)=>some (ixp a s i n,⟨H,k,W,hi,lg⟩)
   | _=>none
 | none=>none
def A1t(P:Program)(m:Mem)(t:TypeId)(x i:Value):Res :=
 match P.underlying t,x with
 | some (.array n e),.pointer (some a)=>match G3 P e,a.spot with
   | some s,none=>B9k m a s n i
   | _,_=>none
 | some (.slice e),.slice (some a) n c=>match G3 P e,a.spot with
   | some s,none=>bif Nat.beq c (M8+2)then none else B9k m a s n i
   | _,_=>none
 | _,_=>none
def A1u(P:Program)(m:Mem)(s:TypeId)(x:Value)(i:Nat):Res :=
 match x with
 | .func (.yield 1) ⟨[.pointer (some a),.int .i64 (.ofNat k),j,.int .i64 (.ofNat n)]⟩ ⟨[]⟩=>match P.underlying s with
   | some (.struct fs)=>match fs.toList[i]?,a.spot with
     | some f,none=>match G3 P f.type with
       | some (_+1)=>some (ixp (A0o a f.offset) k j n,m)
       | _=>none
     | _,_=>none
   | _=>none
 | _=>none
def A81(cs:List Value)(s o:Nat):Nat→Option (List Value)
 | 0=>some []
 | n+1=>match cs[o]?,A81 cs s (o+s) n with
   | some v,some r=>some (v::r)
   | _,_=>none
def A09(m:Mem)(cs:List Value)(s n:Nat)(i:Value):Nat→Nat→Option (List Value×Mem)
 | _,0=>some ([],m)
 | o,k+1=>match A81 cs s o n with
   | some (v::l)=>bif s9 (F8 v) (v::l) && Nat.blt (F8 v) 10 then match X6 m (F8 v) .sel (i::v::l)with
     | some (h,m)=>match A09 m cs s n i (o+1) k with
       | some (r,m)=>some (h::r,m)
       | none=>none
     | none=>none else none
   | _=>none
def A6Y(P:Program)(m:Mem)(t:TypeId)(x:Value):Res :=
 match x with
 | .func (.yield 1) ⟨[.pointer (some a),.int .i64 (.ofNat s),i,.int .i64 (.ofNat n)]⟩ ⟨[]⟩ =>
   match A0L P t,G3 P t with
   | some false,_=>match y5 m a ((n-1)*s+1)with
     | some cs=>match A09 m cs s n i 0 1 with
       | some ([h],m)=>some (h,m)
       | _=>none
     | none=>none
   | some true,some z=>match y5 m a ((n-1)*s+z)with
     | some cs=>match A09 m cs s n i 0 z with
       | some (hs,m)=>some (.agg ⟨hs⟩,m)
       | none=>none
     | none=>none
   | _,_=>none
 | _=>none
def A80(m:Mem)(c a b:Value):Res :=
 match m with
 | ⟨H,n,W,hi,lg⟩=>match brL lg c with
   | some (true,lg)=>some (a,⟨H,n,W,hi,lg⟩)
   | some (false,lg)=>some (b,⟨H,n,W,hi,lg⟩)
   | none=>none
def C0c(P:Program)(fr:Fr)(m:Mem)(o:Op):Res :=
 match o with
 | .pick c a b=>A80 m (ev fr c) (ev fr a) (ev fr b)
 | .binOp op t x y _=>match A5u P m op t (ev fr x) (ev fr y)with
   | some r=>some r
   | none=>B4S P m op t x y (ev fr x) (ev fr y)
 | .unOp op _ x=>B4N m op (ev fr x)
 | .convert s t x=>A6Z P m s t (ev fr x)
 | .slice t x lo hi mx=>A4G P m t (ev fr x) (evO fr lo) (evO fr hi) (evO fr mx)
 | .index t x i=>r8 P m t (ev fr x) (ev fr i)
 | .indexAddr t x i=>A1t P m t (ev fr x) (ev fr i)
 | .fieldAddr s x i=>A1u P m s (ev fr x) i
 | .load t x=>A6Y P m t (ev fr x)
 | .call ⟨.builtin b,xs,tys⟩=>A1v P m b (evL fr xs.toList) tys.toList
 | _=>none
def A51(m:Mem)(b:Nat):Bool :=
 match Hp.get m.H b with
 | some .frz=>Nat.ble b H1
 | _=>false
def B6d{α:Type}(l:List α):Nat→List α
 | 0=>[]
 | n+1=>l++B6d l n
mutual
def C0X(P:Program):Nat→TypeId→Option (List Nat)
 | 0,_=>none
 | d+1,t=>match P.underlying t with
   | some .bool=>some [8]
   | some (.int k)=>some [A2N k]
   | some .string=>some [9]
   | some (.slice e)=>match G3 P e with
     | some w=>some [10+w]
     | none=>none
   | some (.struct fs)=>C7u P d fs.toList
   | some (.array n e)=>match C0X P d e with
     | some l=>some (B6d l n)
     | none=>none
   | _=>none
def C7u(P:Program):Nat→List Field→Option (List Nat)
 | 0,_=>none
 | _+1,[]=>some []
 | d+1,f::fs=>match C0X P d f.type,C7u P d fs with
   | some a,some b=>some (a++b)
   | _,_=>none
end
def A4E(P:Program)(t:TypeId):Option (List Nat) :=
 match C0X P 30 t,G3 P t with
 | some l,some n=>bif Nat.beq l.length n then some l else none
 | _,_=>none
def Z2.letDo(t:Nat)(op:LOp)(xs:List Value)(m:Mem)(k:Nat→Mem→Option (List Value×Mem)):Option (List Value×Mem) :=
 match m with
 | ⟨H,n,W,hi,⟨nx,pi,log⟩⟩=>J7 nx fun nx=>J7 t fun t=>Q8 xs fun xs=>k nx ⟨H,n,W,hi,⟨Nat.succ nx,pi,.dt nx t op xs::log⟩⟩
def Z2(w o i t:Nat)(z:Value)(g:Nat):List Nat→Nat→Mem→Option (List Value×Mem)
 | [],_,m=>some ([],m)
 | tg::ts,j,m=>bif Nat.blt tg 10 then
    match X6 m tg (.get w (o+j)) [hole i t,z]with
    | some (h,m)=>match Z2 w o i t z g ts (j+1) m with
      | some (r,m)=>some (h::r,m)
      | none=>none
    | none=>none
   else Z2.letDo tg (.get w (o+j)) [hole i t,z] m fun nx m=>match Z2 w o i t z g ts (j+1) m with
     | some (r,m)=>some (dat g nx tg::r,m)
     | none=>none
def A4z(P:Program)(t:TypeId)(r:Option (List Value×Mem)):Res :=
 match A0L P t,r with
 | some false,some ([v],m)=>some (v,m)
 | some true,some (vs,m)=>some (.agg ⟨vs⟩,m)
 | _,_=>none
def B49(P:Program)(m:Mem)(t:TypeId)(x:Value):Res :=
 match x,A4E P t with
 | .func (.yield 5) ⟨[.pointer (some ⟨b,0,none⟩),.complex .f64 i tg,z,.int .i64 (.ofNat o)]⟩ ⟨[]⟩,some ts =>
   bif A51 m b then A4z P t (Z2 (tg-10) o i tg z b ts 0 m)else none
 | .func (.yield 6) ⟨[.pointer (some ⟨b,0,none⟩),.complex .f64 i tg,z,.int .i64 (.ofNat o)]⟩ ⟨[]⟩,some ts =>
   match Hp.get m.H b with
   | some (.sq c tc T g ro)=>bif Nat.beq tc tg then A4z P t (Z2 (tg-10) o c tg z g ts 0 m)else none
   | _=>none
 | _,_=>none
def B5N(m:Mem)(i t:Nat)(z:Value)(k:Value):Res :=
 bif !(Nat.blt (F8 z) 8)then none else
 match X6 m 8 (.inbs (t-10)) [z,hole i t]with
 | some (b,⟨H,n,W,hi,lg⟩)=>match brL lg b with
   | some (true,lg)=>some (k,⟨H,n,W,hi,lg⟩)
   | _=>none
 | none=>none
def A4g(P:Program)(m:Mem)(t:TypeId)(x z:Value):Res :=
 match P.underlying t,x with
 | some (.slice e),.func (.yield 4) ⟨[.pointer (some ⟨b,0,none⟩),.complex .f64 i tg]⟩ ⟨[]⟩=>match G3 P e with
   | some (s+1)=>bif Nat.beq tg (10+(s+1))then B5N m i tg z (opt b i tg z 0)else none
   | _=>none
 | some (.slice e),.func (.yield 2) ⟨[.pointer (some ⟨b,0,none⟩),.complex .f64 i tg]⟩ ⟨[]⟩=>match G3 P e with
   | some (s+1)=>bif Nat.beq tg (10+(s+1))then B5N m i tg z (dpt b i tg z 0)else none
   | _=>none
 | some (.slice e),.func (.yield 3) ⟨[.pointer (some ⟨b,0,none⟩),.complex .f64 i tg]⟩ ⟨[]⟩=>match G3 P e with
   | some (s+1)=>bif Nat.beq tg (10+(s+1))then B5N m i tg z (dpt b i tg z 0)else none
   | _=>none
 | some (.array n e),.func (.yield 5) ⟨[.pointer (some ⟨b,0,none⟩),.complex .f64 i tg,y,.int .i64 (.ofNat o)]⟩ ⟨[]⟩=>match G3 P e,z with
   | some s,.int _ (.ofNat k)=>bif Nat.blt k n && Nat.blt (o+k*s) (tg-10)then some (J7 (o+k*s) fun o=>dpt b i tg y o,m)else none
   | _,_=>none
 | some (.array n e),.func (.yield 6) ⟨[.pointer (some ⟨b,0,none⟩),.complex .f64 i tg,y,.int .i64 (.ofNat o)]⟩ ⟨[]⟩=>match G3 P e,z with
   | some s,.int _ (.ofNat k)=>bif Nat.blt k n && Nat.blt (o+k*s) (tg-10)then some (J7 (o+k*s) fun o=>opt b i tg y o,m)else none
   | _,_=>none
 | _,_=>none
def A4k(P:Program)(m:Mem)(s:TypeId)(x:Value)(f:Nat):Res :=
 match P.underlying s,x with
 | some (.struct fs),.func (.yield 5) ⟨[.pointer (some ⟨b,0,none⟩),.complex .f64 i tg,y,.int .i64 (.ofNat o)]⟩ ⟨[]⟩=>match fs.toList[f]? with
   | some fd=>match G3 P fd.type with
     | some (_+1)=>bif Nat.blt (o+fd.offset) (tg-10)then some (J7 (o+fd.offset) fun o=>dpt b i tg y o,m)else none
     | _=>none
   | none=>none
 | some (.struct fs),.func (.yield 6) ⟨[.pointer (some ⟨b,0,none⟩),.complex .f64 i tg,y,.int .i64 (.ofNat o)]⟩ ⟨[]⟩=>match fs.toList[f]? with
   | some fd=>match G3 P fd.type with
     | some (_+1)=>bif Nat.blt (o+fd.offset) (tg-10)then some (J7 (o+fd.offset) fun o=>opt b i tg y o,m)else none
     | _=>none
   | none=>none
 | _,_=>none
def A7A(i:Nat):List j8→Option Nat
 | []=>none
 | .lt j t .len [.complex .f64 k _]::r=>bif Nat.beq k i && Nat.beq t 3 then some j else A7A i r
 | _::r=>A7A i r
def B3Q(m:Mem)(i t:Nat):Res :=
 match A7A i m.lg.log with
 | some j=>some (hole j 3,m)
 | none=>X6 m 3 .len [hole i t]
def C6a(P:Program)(m:Mem)(t:TypeId)(x:Value):Res :=
 match P.underlying t,x with
 | some (.slice _),.func (.yield 2) ⟨[.pointer (some ⟨b,0,none⟩),.complex .f64 i tg]⟩ ⟨[]⟩=>B3Q m i tg
 | some (.slice _),.func (.yield 3) ⟨[.pointer (some ⟨b,0,none⟩),.complex .f64 i tg]⟩ ⟨[]⟩=>B3Q m i tg
 | some (.slice _),.func (.yield 4) ⟨[.pointer (some ⟨b,0,none⟩),.complex .f64 i tg]⟩ ⟨[]⟩=>B3Q m i tg
 | _,_=>none
def A2q(m:Mem)(k:Nat→Mem→Option (Value×Nat×Mem)):Option (Value×Nat×Mem) :=
 match m with
 | ⟨H,n,W,hi,lg⟩=>bif Nat.ble n H1 then J7 n fun n=>J7 (upN hi n) fun hi=>Hp.put H n (some .frz) fun H=>k n ⟨H,Nat.succ n,W,hi,lg⟩else none
def toD(t:Nat)(v:Value)(m:Mem):Option (Value×Nat×Mem) :=
 match v with
 | .func (.yield 2) ⟨[.pointer (some ⟨b,0,none⟩),.complex .f64 i tg]⟩ ⟨[]⟩=>bif Nat.beq tg t && A51 m b then some (hole i tg,b,m)else none
 | .func (.yield 3) ⟨[.pointer (some ⟨b,0,none⟩),.complex .f64 i tg]⟩ ⟨[]⟩=>bif Nat.beq tg t && A51 m b then some (hole i tg,b,m)else none
 | .func (.yield 4) ⟨[.pointer (some ⟨b,0,none⟩),.complex .f64 i tg]⟩ ⟨[]⟩=>match Hp.get m.H b with
   | some (.sq c tc T g true)=>bif (Nat.beq tg t && Nat.beq tc t) && A51 m g then A2q m fun b' m=>some (hole c tc,b',m)else none
   | some (.sq c tc T g false)=>bif (Nat.beq tg t && Nat.beq tc t) && A51 m g then match A1x m b (.sq c tc T g true)with
     | some m=>A2q m fun b' m=>some (hole c tc,b',m)
     | none=>none else none
   | _=>none
 | .slice none 0 0=>bif Nat.ble 10 t then(match A8q m t (.nilw (t-10)) [] fun nx m=>some (hole nx t,m)with
   | some (h,m)=>A2q m fun b' m=>some (h,b',m)
   | none=>none)else none
 | _=>none
abbrev Td:=Nat→Value→Mem→Option (Value×Nat×Mem)
def B1K(td:Td):List Nat→List Value→Mem→Option (List Value×List Nat×Mem)
 | [],[],m=>some ([],[],m)
 | t::ts,v::vs,m=>bif Nat.blt t 10 then
    bif Nat.beq (F8 v) t then match B1K td ts vs m with
     | some (r,gs,m)=>some (v::r,gs,m)
     | none=>none else none
   else match td t v m with
    | some (h,b,m)=>match B1K td ts vs m with
      | some (r,gs,m)=>some (h::r,b::gs,m)
      | none=>none
    | none=>none
 | _,_,_=>none
def A3z(gs:List Nat)(m:Mem):Option (Nat×Mem) :=
 match gs with
 | [g]=>bif A51 m g then some (g,m)else none
 | gs=>bif gs.all (A51 m)then match A2q m fun b m=>some (undef,b,m)with
   | some (_,b,m)=>some (b,m)
   | none=>none else none
def B7i:Value→Value→Bool
 | .complex .f64 i _,.complex .f64 j _=>Nat.beq i j
 | .int k a,.int j b=>A9t k j && B1Y a b
 | _,_=>false
def B0L(v:Value):Bool:=Nat.blt (F8 v) 8
def A2j(m:Mem)(b i t:Nat)(l h:Value)(c:Bool):Res:=bif B0L l && B0L h then A8q m t (.subs (t-10)) [hole i t,l,h] fun nx m=>some (bif c then clp b nx t else dat b nx t,m)else none
def B5j(m:Mem)(b i t:Nat)(cl:Bool)(l:Value)(hi mx:Option Value):Res :=
 match hi,mx with
 | some h,none=>A2j m b i t l h false
 | some h,some x=>bif B7i h x then A2j m b i t l h true else none
 | none,none=>match B3Q m i t with
   | some (h,m)=>A2j m b i t l h cl
   | none=>none
 | none,some _=>none
def D4O(lo:Option Value):Value :=
 match lo with
 | some l=>l
 | none=>.int .i64 0
def B5k(m:Mem)(b i t:Nat)(cl:Bool)(lo hi mx:Option Value):Res:=B5j m b i t cl (D4O lo) hi mx
def A9m(P:Program)(m:Mem)(t:TypeId)(x:Value)(lo hi mx:Option Value):Res :=
 match P.underlying t,x with
 | some (.slice e),.func (.yield 2) ⟨[.pointer (some ⟨b,0,none⟩),.complex .f64 i tg]⟩ ⟨[]⟩=>match G3 P e with
   | some s=>bif Nat.beq tg (10+s)then B5k m b i tg false lo hi mx else none
   | none=>none
 | some (.slice e),.func (.yield 3) ⟨[.pointer (some ⟨b,0,none⟩),.complex .f64 i tg]⟩ ⟨[]⟩=>match G3 P e with
   | some s=>bif Nat.beq tg (10+s)then B5k m b i tg true lo hi mx else none
   | none=>none
 | some (.slice e),.func (.yield 4) ⟨[.pointer (some ⟨b,0,none⟩),.complex .f64 i tg]⟩ ⟨[]⟩=>match G3 P e with
   | some s=>bif Nat.beq tg (10+s)then match toD tg x m with
     | some (.complex .f64 c _,b',m)=>B5k m b' c tg false lo hi mx
     | _=>none else none
   | none=>none
 | _,_=>none
inductive Beh where
 | cells (xs:List Value)
 | rows (x:Value)
 | str (x:Value)
def A1W(w:Nat)(c:Value):Beh→LOp×List Value
 | .cells xs=>(.snoc w,c::xs)
 | .rows x=>(.cat w,[c,x])
 | .str x=>(.cats,[c,x])
def C3D(td:Td)(P:Program)(m:Mem)(e:TypeId)(w:Nat)(y:Value):Option (Beh×List Nat×Bool×Mem) :=
 match y with
 | .slice none 0 _=>some (.cells [],[],false,m)
 | .slice (some a) n _=>match y5 m a (n*w),A4E P e with
   | some cs,some ts=>match B1K td (B6d ts n) cs m with
     | some (xs,gs,m)=>some (.cells xs,gs,Nat.blt 0 n,m)
     | none=>none
   | _,_=>none
 | .func _ _ _=>match td (10+w) y m with
   | some (x,b,m)=>some (.rows x,[b],false,m)
   | none=>none
 | y=>bif Nat.beq (F8 y) 9 && Nat.beq w 1 then some (.str y,[],false,m)else none
def B2l(td:Td)(P:Program)(m:Mem)(e:TypeId)(w:Nat)(x:Value):Option (Nat×List Nat×Option Nat×Mem) :=
 match x with
 | .slice none 0 0=>match A8q m (10+w) (.nilw w) [] fun nx m=>some (hole nx (10+w),m)with
   | some (.complex .f64 c _,m)=>some (c,[],none,m)
   | _=>none
 | .func (.yield 4) ⟨[.pointer (some ⟨b,0,none⟩),.complex .f64 i tg]⟩ ⟨[]⟩=>match Hp.get m.H b with
   | some (.sq c tc T g false)=>bif (Nat.beq tg (10+w) && Nat.beq tc tg) && (Nat.beq T e && Nat.ble b H1)then some (c,[g],some b,m)else none
   | _=>none
 | .slice (some ⟨b,0,none⟩) n c=>match Hp.get m.H b,A4E P e with
   | some (.cells cs _ _),some ts=>bif Nat.beq cs.length (n*w) && (Nat.beq c n && Nat.blt c M8 || Nat.beq c M8)then match B1K td (B6d ts n) cs m with
     | some (xs,gs,m)=>match Hp.get m.H b with
       | some (.cells _ T false)=>bif Nat.beq T e && Nat.ble b H1 then match A8q m (10+w) (.mk w) xs fun nx m=>some (hole nx (10+w),m)with
         | some (.complex .f64 c _,m)=>some (c,gs,some b,m)
         | _=>none else none
       | _=>none
     | none=>none else none
   | _,_=>none
 | _=>none
def A0g(m:Mem)(c t:Nat)(T:TypeId)(g:Nat):Res:=m7 m (.sq c t T g false) fun b=>own b c t
def B9_(P:Program)(e:TypeId)(n:Nat):Bool :=
 match A2S P e with
 | some z=>Nat.beq z.cells.size n
 | none=>false
def A3x(old:Option Nat)(m:Mem):Mem :=
 match old with
 | some b=>A3y m b
 | none=>m
def B9b(td:Td)(P:Program)(m:Mem)(e:TypeId)(w:Nat)(x:Value):Res :=
 match P.info? e with
 | some inf=>bif Nat.beq inf.size w && Nat.blt 0 w then match B2l td P m e w x with
   | some (c,gs,old,m)=>match A3z gs m with
     | some (g,m)=>A0g (A3x old m) c (10+w) e g
     | none=>none
   | none=>none else none
 | none=>none
def C0T(P:Program):Nat→Td
 | 0=>toD
 | d+1=>fun t v m=>match v with
   | .slice (some ⟨b,0,none⟩) _ _=>match Hp.get m.H b with
     | some (.cells _ T _)=>match B9b (C0T P d) P m T (t-10) v with
       | some (x,m)=>toD t x m
       | none=>none
     | _=>none
   | v=>toD t v m
def tdP(P:Program):Td:=C0T P 3
def B4q(m:Mem)(e:TypeId)(w c:Nat)(old:Option Nat)(bh:Beh)(gs:List Nat):Res :=
 match A3z gs m with
 | some (g,m)=>A8q m (10+w) (A1W w (hole c (10+w)) bh).1 (A1W w (hole c (10+w)) bh).2 fun nx m=>A0g (A3x old m) nx (10+w) e g
 | none=>none
def A7M(P:Program)(m:Mem)(t t2:TypeId)(x y:Value):Res :=
 match P.underlying t,P.underlying t2 with
 | some (.slice e),some d2=>bif !(A1O d2)then none else
   match P.info? e with
   | some i=>bif (Nat.ble i.bytes 90000 && Nat.blt 0 i.size) && B9_ P e i.size then
     match C3D (tdP P) P m e i.size y with
     | some (bh,gs,sure,m)=>match B2l (tdP P) P m e i.size x with
       | some (c,g0,old,m)=>B4q m e i.size c old bh (g0++gs)
       | none=>match x,sure with
         | .func (.yield 3) ⟨[.pointer (some ⟨b,0,none⟩),.complex .f64 c tg]⟩ ⟨[]⟩,true=>bif Nat.beq tg (10+i.size)then B4q m e i.size c none bh (b::gs)else none
         | _,_=>none
     | none=>none else none
   | none=>none
 | _,_=>none
def A9g(P:Program)(m:Mem)(t:TypeId)(x v:Value):Res :=
 match x,A4E P t with
 | .func (.yield 6) ⟨[.pointer (some ⟨b,0,none⟩),.complex .f64 i tg,z,.int .i64 (.ofNat o)]⟩ ⟨[]⟩,some ts=>bif A3b v then none else
   match B1K (tdP P) ts v.cells.toList m with
   | some (xs,gs,m)=>match Hp.get m.H b with
     | some (.sq c tc T g false)=>bif Nat.beq tc tg then match A3z (g::gs) m with
       | some (g,m)=>match A8q m tg (.set (tg-10) o) (hole c tg::z::xs) fun nx m=>some (hole nx tg,m)with
         | some (.complex .f64 nx _,m)=>B6p (A1x m b (.sq nx tg T g false))
         | _=>none
       | none=>none else none
     | _=>none
   | none=>none
 | _,_=>none
def C9A(m m1:Mem):Mem :=
 match m,m1 with
 | ⟨H,n,W,_,_⟩,⟨_,_,_,hi,lg⟩=>⟨H,n,W,hi,lg⟩
def B5m(P:Program)(m:Mem)(s t:TypeId)(x:Value):Res :=
 match P.underlying s,P.underlying t,x with
 | some (.slice e),some .string,.slice (some a) n _=>match P.underlying e with
   | some (.int .u8)=>match y5 m a n with
     | some cs=>bif s9 4 cs then X6 m 9 .mks cs else none
     | none=>none
   | _=>none
 | some (.slice e),some .string,.func _ _ _=>match P.underlying e with
   | some (.int .u8)=>match toD 11 x m with
     | some (h,_,m1)=>X6 (C9A m m1) 9 .str [h]
     | none=>none
   | _=>none
 | some _,some (.slice e),x=>bif Nat.beq (F8 x) 9 then match P.underlying e with
   | some (.int .u8)=>match G3 P e with
     | some 1=>match A3z [] m with
       | some (g,m)=>match A8q m 11 .byt [x] fun nx m=>some (hole nx 11,m)with
         | some (.complex .f64 nx _,m)=>A0g m nx 11 e g
         | _=>none
       | none=>none
     | _=>none
   | _=>none else none
 | _,_,_=>none
def C2G:Value→Bool
 | .slice none 0 0=>true
 | _=>false
def C1n(P:Program)(m:Mem)(op:BinOp)(t:TypeId)(x y:Operand)(a b:Value):Res :=
 match P.underlying t,a with
 | some (.slice _),.func (.yield k) ⟨[.pointer (some ⟨_,0,none⟩),.complex .f64 i tg]⟩ ⟨[]⟩=>bif C2G b && isC y && (Nat.beq k 2 || Nat.beq k 3 || Nat.beq k 4)then
   match op,X6 m 8 .nilp [hole i tg]with
   | .eql,some r=>some r
   | .neq,some (h,m)=>X6 m 8 (.un .not) [h]
   | _,_=>none else none
 | _,_=>none
def B45(P:Program)(m:Mem)(t:TypeId)(l c:Value):Res :=
 match P.underlying t,l,c with
 | some (.slice e),.complex .f64 i ti,.complex .f64 j tj=>bif (Nat.beq i j && Nat.beq ti 3) && Nat.beq tj 3 then
   match P.info? e with
   | some inf=>bif Nat.ble inf.bytes 90000 && Nat.blt 0 inf.size then
     match A2S P e with
     | some z=>bif Nat.beq z.cells.size inf.size && z.cells.toList.all (fun z=>Nat.blt (F8 z) 10)then
       match A3z [] m with
       | some (g,m)=>match A8q m (10+inf.size) (.rep inf.size) (hole i 3::z.cells.toList) fun nx m=>some (hole nx (10+inf.size),m)with
         | some (.complex .f64 nx _,m)=>A0g m nx (10+inf.size) e g
         | _=>none
       | none=>none else none
     | none=>none else none
   | none=>none else none
 | _,_,_=>none
def dsM(P:Program)(fr:Fr)(m:Mem)(o:Op):Res :=
 match o with
 | .makeSlice t l c=>B45 P m t (ev fr l) (ev fr c)
 | .load t x=>B49 P m t (ev fr x)
 | .store t x y=>A9g P m t (ev fr x) (ev fr y)
 | .indexAddr t x i=>A4g P m t (ev fr x) (ev fr i)
 | .fieldAddr s x i=>A4k P m s (ev fr x) i
 | .slice t x lo hi mx=>A9m P m t (ev fr x) (evO fr lo) (evO fr hi) (evO fr mx)
 | .convert s t x=>B5m P m s t (ev fr x)
 | .binOp op t x y _=>C1n P m op t x y (ev fr x) (ev fr y)
 | .call ⟨.builtin .len,xs,tys⟩=>match evL fr xs.toList,tys.toList with
   | [x],t::_=>C6a P m t x
   | _,_=>none
 | .call ⟨.builtin .append,xs,tys⟩=>match evL fr xs.toList,tys.toList with
   | [x,y],t::t2::_=>A7M P m t t2 x y
   | _,_=>none
 | _=>none
def B8n(P:Program)(m:Mem)(s t:TypeId)(x:Value):Res :=
 match P.underlying s,P.underlying t,x with
 | some (.pointer e),some .unsafePointer,.pointer (some ⟨b,o,none⟩)=>match G3 P e,Hp.get m.H b with
   | some (_+1),some (.cells cs _ _)=>bif Nat.blt o cs.length then some (x,m)else none
   | _,_=>none
 | some .unsafePointer,some (.pointer u),.pointer (some ⟨b,0,none⟩)=>match G3 P u,Hp.get m.H b with
   | some (k+1),some (.cells cs T false)=>bif Nat.beq T u && Nat.beq cs.length (k+1)then some (x,m)else none
   | _,_=>none
 | some (.slice _),some (.slice e),.slice (some ⟨b,o,none⟩) n c=>bif Nat.beq s t && !(Nat.beq c (M8+2))then match P.underlying e,Hp.get m.H b with
   | some (.int .u8),some (.cells cs T false)=>match A1x m b (.cells cs T false)with
     | some m1=>some (x,m1)
     | none=>none
   | _,_=>none else none
 | _,_,_=>none
def B73(P:Program)(m:Mem)(op:BinOp)(t:TypeId)(a b:Value):Res :=
 match P.underlying t,a,b with
 | some (.pointer e),.pointer (some ⟨b1,o1,none⟩),.pointer (some ⟨b2,o2,none⟩)=>bif Nat.beq b1 b2 && Nat.beq o1 o2 then match P.info? e,op with
   | some _,.eql=>some (.bool true,m)
   | some _,.neq=>some (.bool false,m)
   | _,_=>none else none
 | _,_,_=>none
def sdM(P:Program)(m:Mem)(ty:TypeId)(x:Value):Res :=
 match P.underlying ty with
 | some (.pointer _)=>match x with
  | .func (.yield 4) ⟨[.pointer (some ⟨b,0,none⟩),.complex .f64 i t]⟩ ⟨[]⟩=>match Hp.get m.H b with
   | some (.sq _ _ _ _ _)=>some (sdt b,m)
   | _=>none
  | _=>none
 | _=>none
def usM(P:Program)(m:Mem)(pt:TypeId)(p l:Value):Res :=
 match p with
 | .func (.yield 9) ⟨[.pointer (some ⟨b,0,none⟩)]⟩ ⟨[]⟩=>bif Nat.blt (F8 l) 8 then match Hp.get m.H b,P.underlying pt with
   | some (.sq c tc T g false),some (.pointer e)=>bif Nat.beq e T && Nat.beq tc 11 then match G3 P T,X6 m 9 .ustr [hole c tc,l]with
     | some 1,some (v,m)=>match A1x m b (.sq c tc T g true)with
       | some m=>some (v,m)
       | none=>none
     | _,_=>none else none
   | _,_=>none else none
 | _=>none
def A2V(P:Program)(t:TypeId):Option Nat :=
 match P.underlying t with
 | some .bool=>some 8
 | some (.int k)=>some (A2N k)
 | some .string=>some 9
 | _=>none
def A8W(P:Program):List Field→Nat→Option (List Nat)
 | [],_=>some []
 | f::r,i=>match A2V P f.type,A8W P r (i+1)with
   | some t,some l=>bif !(f.name == "_") && Nat.beq f.offset i then some (t::l)else none
   | _,_=>none
def A5k(P:Program)(t:TypeId):Option (Bool×List Nat) :=
 match P.underlying t with
 | some (.struct fs)=>bif P.stoodInHeld t then none else match A8W P fs.toList 0 with
   | some l=>some (true,l)
   | none=>none
 | _=>match A2V P t with
   | some k=>some (false,[k])
   | none=>none
def B7Q(P:Program)(t:TypeId):Option (Bool×List Nat) :=
 match A0L P t,A4E P t with
 | some true,some l=>bif l.all (fun k=>Nat.blt k 10)then some (true,l)else none
 | some false,some [k]=>bif Nat.blt k 10 then some (false,[k])else none
 | _,_=>none
structure MTy where
 kt:TypeId
 vt:TypeId
 ka:Bool
 ks:List Nat
 va:Bool
 vs:List Nat
def MTy.w(y:MTy):Nat:=y.ks.length+y.vs.length
def B9e(P:Program)(T:TypeId):Option MTy :=
 match P.underlying T with
 | some (.map kt vt)=>match A5k P kt,B7Q P vt with
   | some (ka,k::ks),some (va,vs)=>some ⟨kt,vt,ka,k::ks,va,vs⟩
   | _,_=>none
 | _=>none
def B0c:List Nat→List Value→Bool
 | [],[]=>true
 | t::ts,v::vs=>Nat.beq (F8 v) t && B0c ts vs
 | _,_=>false
def A5a(a:Bool)(ts:List Nat)(v:Value):Option (List Value) :=
 match a,v with
 | true,.agg cs=>bif B0c ts cs.toList then some cs.toList else none
 | true,_=>none
 | false,v=>bif B0c ts [v]then some [v]else none
def C3H(a:Bool)(vs:List Value):Option Value :=
 match a,vs with
 | true,vs=>some (.agg ⟨vs⟩)
 | false,[v]=>some v
 | false,_=>none
def C1p(P:Program)(m:Mem)(T:TypeId):Res :=
 match B9e P T with
 | some y=>A8q m (10+y.w) (.mk y.w) [] fun nx m=>m7 m (.mp nx (10+y.w) T) fun b=>.map (some b)
 | none=>none
def A7o(w kw c t:Nat)(kc:List Value):List Nat→List Value→Nat→Mem→Option (List Value×Mem)
 | [],[],_,m=>some ([],m)
 | tg::ts,z::zs,j,m=>match X6 m tg (.mget w kw j) (hole c t::z::kc)with
   | some (h,m)=>match A7o w kw c t kc ts zs (j+1) m with
     | some (r,m)=>some (h::r,m)
     | none=>none
   | none=>none
 | _,_,_,_=>none
def B0D(P:Program)(m:Mem)(T:TypeId)(x k:Value)(ok:Bool):Res :=
 match x,B9e P T with
 | .map (some r),some y=>match Hp.get m.H r,A5a y.ka y.ks k,A2S P y.vt with
   | some (.mp c t T2),some kc,some z=>bif Nat.beq T2 T then match A5a y.va y.vs z with
     | some zc=>match A7o y.w y.ks.length c t kc y.vs zc y.ks.length m with
       | some (hs,m)=>match C3H y.va hs with
         | some v=>bif ok then match X6 m 8 (.mhas y.w y.ks.length) (hole c t::kc)with
            | some (b,m)=>some (.tuple ⟨[v,b]⟩,m)
            | none=>none
           else some (v,m)
         | none=>none
       | none=>none
     | none=>none else none
   | _,_,_=>none
 | _,_=>none
def B11(P:Program)(m:Mem)(T:TypeId)(x k v:Value):Res :=
 match x,B9e P T with
 | .map (some r),some y=>match Hp.get m.H r,A5a y.ka y.ks k,A5a y.va y.vs v with
   | some (.mp c t T2),some kc,some vc=>bif Nat.beq T2 T then A8q m t (.mput y.w y.ks.length) (hole c t::(kc++vc)) fun nx m=>B6p (A1x m r (.mp nx t T))else none
   | _,_,_=>none
 | _,_=>none
def B5B(P:Program)(m:Mem)(T:TypeId)(x:Value):Res :=
 match P.underlying T,x with
 | some (.map _ _),.map (some r)=>match Hp.get m.H r with
   | some (.mp c t _)=>B3Q m c t
   | _=>none
 | _,_=>none
def xtM(P:Program)(fr:Fr)(m:Mem)(o:Oper):Res :=
 match o.op with
 | .convert s t x=>B8n P m s t (ev fr x)
 | .binOp op t x y _=>B73 P m op t (ev fr x) (ev fr y)
 | .call ⟨.builtin .unsafeSliceData,xs,_⟩=>match evL fr xs.toList with
   | [x]=>sdM P m o.type x
   | _=>none
 | .call ⟨.builtin .unsafeString,xs,tys⟩=>match evL fr xs.toList,tys.toList with
   | [p,l],t::_=>usM P m t p l
   | _,_=>none
 | .makeMap t none=>C1p P m t
 | .lookup t x k ok=>B0D P m t (ev fr x) (ev fr k) ok
 | .mapUpdate t x k v=>B11 P m t (ev fr x) (ev fr k) (ev fr v)
 | .insert t x k v=>B11 P m t (ev fr x) (ev fr k) (ev fr v)
 | .call ⟨.builtin .len,xs,tys⟩=>match evL fr xs.toList,tys.toList with
   | [x],t::_=>B5B P m t x
   | _,_=>none
 | _=>none
inductive EK where
 | noEscape|makeNoZero (e:TypeId)|indexByteString|countString|indexString|copyString
 deriving DecidableEq
def B5a:List (FuncId×EK)→FuncId→Option EK
 | [],_=>none
 | (g,k)::r,f=>bif Nat.beq g f then some k else B5a r f
structure FnC where
 run:List Value→Mem→Res
structure Q2 where
 fn:FuncId→FnC
 yl:FnC
def A5M:Value→Bool
 | .tuple ⟨[]⟩=>true
 | _=>false
def B4C(lg:Lg)(v:Value)(b:Bool):Option (Bool×Lg) :=
 match v with
 | .bool c=>some (c == b,lg)
 | .complex k i t=>match brL lg (.complex k i t)with
   | some (c,lg)=>some (c == b,lg)
   | none=>none
 | v=>bif A5M v then some (false,lg)else none
def A0f(nt:Nat)(fr:Fr)(lg:Lg)(ops:List Oper)(o:Oper):Option (Bool×Lg) :=
 match o.guard with
 | none=>some (true,lg)
 | some (j,b)=>match ops[j]? with
   | some p=>match p.dst with
     | some t=>bif Nat.blt t nt then B4C lg (fr.get t) b else none
     | none=>none
   | none=>none
def A9I(v:Value)(vs:List Value):Option (FuncId×List Value) :=
 match v with
 | .func (.func f) a b=>some (f,a.toList++(vs++b.toList))
 | _=>none
def A1q(v:Value):Option Nat :=
 match v with
 | .func (.yield 7) ⟨[.pointer (some ⟨b,0,none⟩)]⟩ ⟨[]⟩=>some b
 | _=>none
def B40(call:Q2)(m:Mem)(v:Value)(vs:List Value):Res :=
 match A9I v vs with
 | some (f,vs)=>(call.fn f).run vs m
 | none=>match A1q v with
   | some _=>call.yl.run (v::vs) m
   | none=>none
def D4a(call:Q2)(x:XC)(xs:LC)(fr:Fr)(m:Mem):Res:=B40 call m (x.run fr) (xs.run fr)
def D2w(f:FnC)(xs:LC)(fr:Fr)(m:Mem):Res:=f.run (xs.run fr) m
def C2A(P:Program)(c:OpC)(o:Oper)(fr:Fr)(m:Mem):Res :=
 match c.run fr m with
 | some r=>some r
 | none=>match C0c P fr m o.op with
   | some r=>some r
   | none=>match dsM P fr m o.op with
     | some r=>some r
     | none=>xtM P fr m o
def Y4(P:Program)(call:Q2)(o:Oper):OpC :=
 match o.op with
 | .call ⟨.value (.func f),xs,_⟩=>⟨D2w (call.fn f) (A8a xs.toList)⟩
 | .call ⟨.value x,xs,_⟩=>⟨D4a call (T7 x) (A8a xs.toList)⟩
 | op=>⟨C2A P (B0u P op) o⟩
def B0k(nt:Nat)(d:Option Tmp):Bool :=
 match d with
 | some d=>Nat.blt d nt
 | none=>true
structure D3R where
 run:Value→Fr→(Fr→Option S)→Option S
def A8t(d:Option Tmp):D3R :=
 match d with
 | some t=>⟨A8n (sel (t / 64%8)) (sel (t / 8%8)) (sel (t%8))⟩
 | none=>⟨fun _ fr k=>k fr⟩
structure C4W where
 run:S→Option S
def A4K(c:OpC)(d:D3R)(next:C4W)(s:S):Option S :=
 match s with
 | ⟨fr,m⟩=>match c.run fr m with
   | some (v,m')=>bif Nat.ble m.hi m'.hi then d.run v fr fun fr=>next.run ⟨fr,m'⟩else none
   | none=>none
def A1z(nt:Nat)(all:List Oper)(o:Oper)(c:OpC)(d:D3R)(next:C4W)(s:S):Option S :=
 match s with
 | ⟨fr,⟨H,n,W,hi,lg⟩⟩=>match A0f nt fr lg all o with
   | some (true,lg)=>A4K c d next ⟨fr,⟨H,n,W,hi,lg⟩⟩
   | some (false,lg)=>d.run undef fr fun fr=>next.run ⟨fr,⟨H,n,W,hi,lg⟩⟩
   | none=>none
def V9(P:Program)(nt gl:Nat)(call:Q2)(all:List Oper):List Oper→C4W
 | []=>⟨some⟩
 | o::r=>bif B0k nt o.dst && B6j nt gl o.op then match o.guard with
   | none=>⟨fun s=>A4K (Y4 P call o) (A8t o.dst) (V9 P nt gl call all r) s⟩
   | some _=>⟨fun s=>A1z nt all o (Y4 P call o) (A8t o.dst) (V9 P nt gl call all r) s⟩
   else⟨fun _=>none⟩
structure Rec where
 i:Nat
 lo:Nat
 hi:Nat
inductive Cls where
 | free
 | one (b:Nat)
 | all
def D5F(fr:Fr)(o:Op):Cls :=
 match o with
 | .move _|.assign _|.pick ..|.alloc _|.box ..|.build ..|.buildSlice ..|.nilCheck _|.binOp ..|.unOp ..|.makeInterface ..|.makeFunc ..|.makeMap ..|.makeSlice ..
 | .fieldAddr ..|.field ..|.indexAddr ..|.index ..|.extract ..|.range ..=>.free
 | .slice _ x _ _ _=>match ev fr x with
   | .slice _ _ _|.string _|.pointer _|.complex _ _ _=>.free
   | _=>.all
 | .convert _ _ x=>match ev fr x with
   | .int _ _|.string _=>.free
   | _=>.all
 | .call ⟨.builtin .len,xs,_⟩=>match evL fr xs.toList with
   | [.slice _ _ _]|[.string _]=>.free
   | _=>.all
 | .call ⟨.builtin .min,_,_⟩|.call ⟨.builtin .max,_,_⟩=>.free
 | .call ⟨.builtin .unsafeSliceData,xs,_⟩=>match evL fr xs.toList with
   | [.slice _ _ _]=>.free
   | _=>.all
 | .load _ x|.store _ x _=>match ev fr x with
   | .pointer (some a)=>.one a.block
   | _=>.all
 | _=>.all
def B2M(H:Hp AB):List Nat→Hp AB
 | []=>H
 | b::r=>Hp.put H b none fun H=>B2M H r
def B2o(H0 H:Hp AB):List Nat→Hp AB
 | []=>H
 | b::r=>Hp.put H b (Hp.get H0 b) fun H=>B2o H0 H r
def B6T:Nat→Nat→List Nat
 | _,0=>[]
 | lo,n+1=>lo::B6T (lo+1) n
def e9:List Rec→List Nat
 | []=>[]
 | r::rs=>B6T r.lo (r.hi-r.lo)++e9 rs
def A0A(l:List Nat)(b:Nat):Bool:=l.any (Nat.beq b)
def B3z(l:List Nat):Bool:=l.all fun b=>Nat.ble b H1
def B16(b:List Nat)(rs:List Rec):List Rec:=rs.filter fun r=>!(A0A b r.i)
def B1e(m:Mem)(c:Cls)(us:List Rec):Option Mem :=
 match m with
 | ⟨H,n,_,hi,lg⟩=>match c with
   | .free=>some ⟨hp0,n,[],hi,lg⟩
   | .one b=>bif A0A (e9 us) b || !(Nat.ble b H1)then none else Hp.put hp0 b (Hp.get H b) fun H=>some ⟨H,n,[],hi,lg⟩
   | .all=>bif B3z (e9 us)then some ⟨B2M H (e9 us),n,[],hi,lg⟩else none
def A4V(m m':Mem):Option Mem :=
 bif Nat.ble m'.hi m.n then(match m with|⟨H,n,W,hi,_⟩=>some ⟨H,n,W,hi,m'.lg⟩)else
 bif Nat.ble m'.hi H1 then B3f (B2o m'.H m.H (B6T m.n (m'.hi-m.n))) fun H=>J7 m'.hi fun n=>some ⟨H,n,m.W,n,m'.lg⟩else none
def B8d(fr:Fr)(m:Mem)(o:Oper)(b:List Nat)(rs:List Rec)(op:OpC)(k:Value→Mem→Option S):Option S :=
 let us:=B16 b rs
 let c:=D5F fr o.op
 match B1e m c us with
 | some mv=>match op.run fr mv with
   | some (v,m') =>
     match m'.W,Nat.ble m.hi m'.hi with
     | [],true=>match A4V m m' with
       | some m2=>k v m2
       | none=>none
     | _,_=>none
   | none=>none
 | none=>none
def wrO:Op→Bool
 | .call _|.store ..|.mapUpdate ..=>true
 | _=>false
def A0H:Op→Bool
 | .move _|.assign _|.extract ..=>true
 | _=>false
def D2i:Op→Bool
 | .field ..|.fieldAddr ..|.index ..|.indexAddr ..|.binOp ..|.unOp ..|.build ..|.load ..|.pick ..|.convert ..|.slice ..|.nilCheck _=>true
 | .call ⟨.builtin .len,_,_⟩=>true
 | o=>A0H o
def B27(a b:Addr):Bool :=
 match a,b with
 | ⟨x,o,none⟩,⟨y,p,none⟩=>Nat.beq x y && Nat.beq o p
 | _,_=>false
def B6Y(f g:Fn):Bool :=
 match f,g with
 | .func f,.func g=>Nat.beq f g
 | .yield f,.yield g=>Nat.beq f g
 | _,_=>false
def B1q(s:Value→Value→Bool):List Value→List Value→Bool
 | [],[]=>true
 | a::l,b::r=>s a b && B1q s l r
 | _,_=>false
def A9s:Nat→Value→Value→Bool
 | _,.bool a,.bool b=>a == b
 | _,.int k n,.int j m=>A9t k j && B1Y n m
 | _,.complex .f64 i t,.complex .f64 j u=>Nat.beq i j && Nat.beq t u
 | _,.complex .f32 i t,.complex .f32 j u=>Nat.beq i j && Nat.beq t u
 | _,.string s,.string t=>decide (s.data.toList=t.data.toList)
 | _,.pointer none,.pointer none=>true
 | _,.pointer (some a),.pointer (some b)=>B27 a b
 | _,.slice none n c,.slice none m d=>Nat.beq n m && Nat.beq c d
 | _,.slice (some a) n c,.slice (some b) m d=>B27 a b && (Nat.beq n m && Nat.beq c d)
 | _,.map none,.map none=>true
 | _,.map (some a),.map (some b)=>Nat.beq a b
 | _,.nilFunc,.nilFunc=>true
 | _,.nilIface,.nilIface=>true
 | d+1,.func f a b,.func g a' b'=>B6Y f g && (B1q (A9s d) a.toList a'.toList && B1q (A9s d) b.toList b'.toList)
 | d+1,.iface t v,.iface u w=>Nat.beq t u && A9s d v w
 | _,_,_=>false
def C04(a b:AB):Bool :=
 match a,b with
 | .frz,.frz=>true
 | .cells cs T ro,.cells cs' T' ro'=>B1q (A9s 6) cs cs' && (Nat.beq T T' && (ro == ro'))
 | _,_=>false
def C1U(H:Hp AB)(b:Nat):Option (Nat×AB) :=
 match Hp.get H b with
 | some .frz=>some (b,.frz)
 | some (.cells cs T ro)=>some (b,.cells cs T ro)
 | _=>none
def B5T(H:Hp AB)(fr:Fr)(o:Op):Option (Nat×AB) :=
 match o with
 | .load _ x=>match ev fr x with
   | .func (.yield 5) ⟨.pointer (some a)::_⟩ _=>C1U H a.block
   | .pointer (some a)=>C1U H a.block
   | _=>none
 | _=>none
def B0N(H:Hp AB)(b:Nat)(ab:AB):Bool :=
 match Hp.get H b with
 | some x=>Nat.ble b H1 && C04 x ab
 | none=>false
def A7K:Nat:=262144
def B3C(m:Mem)(r:Option (Nat×AB))(us:List Rec):Option Mem :=
 match m with
 | ⟨H,_,_,_,lg⟩=>match r with
   | none=>some ⟨hp0,A7K,[],A7K,lg⟩
   | some (b,ab)=>bif A0A (e9 us) b || !(B0N H b ab)then none else Hp.put hp0 b (some ab) fun H=>some ⟨H,A7K,[],A7K,lg⟩
def A4P(fr:Fr)(m:Mem)(o:Oper)(b:List Nat)(rs:List Rec)(op:OpC):Option (Value×Lg) :=
 match B3C m (B5T m.H fr o.op) (B16 b rs)with
 | some mv=>match op.run fr mv with
   | some (v,⟨_,_,[],hi,lg⟩)=>bif Nat.beq hi A7K then some (v,lg)else none
   | _=>none
 | none=>none
abbrev Qs:=List (Nat×Option (Nat×AB))
def B30:Nat→List Nat→Qs→Bool
 | 0,_,_=>true
 | n+1,b,qs=>(A0A b n || qs.any fun q=>Nat.beq n q.1) && B30 n b qs
def B3S(i:Nat):List (List Nat)→List Oper→Bool
 | c::bs,o::r=>(A0A c i || A0H o.op) && B3S i bs r
 | _,_=>true
def C8_(H:Hp AB)(r:Option (Nat×AB)):Bool :=
 match r with
 | none=>true
 | some (b,ab)=>B0N H b ab
def C18(b:List Nat)(H:Hp AB)(qs:Qs):Bool:=qs.all fun q=>A0A b q.1 || C8_ H q.2
def B4V(o:Op)(i:Nat)(b:List Nat)(bs:List (List Nat))(r:List Oper)(qs:Qs):Bool:=wrO o && (B30 i b qs && B3S i bs r)
def v6(P:Program)(nt gl:Nat)(call:Q2)(all:List Oper):List Oper→Nat→List (List Nat)→List Rec→Qs→S→Option S
 | [],_,_,_,_,s=>some s
 | _::_,_,[],_,_,_=>none
 | o::r,i,b::bs,rs,qs,⟨fr,⟨H,n,W,hi,lg⟩⟩=>match A0f nt fr lg all o,B0k nt o.dst && B6j nt gl o.op with
   | some (true,lg),true=>bif B4V o.op i b bs r qs then(match (Y4 P call o).run fr ⟨H,n,W,hi,lg⟩with
      | some (v,m2)=>bif Nat.ble hi m2.hi && C18 b m2.H qs then(A8t o.dst).run v fr fun fr=>v6 P nt gl call all r (i+1) bs [] qs ⟨fr,m2⟩else none
      | none=>none)
     else match (bif D2i o.op then A4P fr ⟨H,n,W,hi,lg⟩ o b rs (Y4 P call o)else none)with
      | some (v,lg2)=>(A8t o.dst).run v fr fun fr2=>v6 P nt gl call all r (i+1) bs rs ((i,B5T H fr o.op)::qs) ⟨fr2,⟨H,n,W,hi,lg2⟩⟩
      | none=>bif A0H o.op then none else B8d fr ⟨H,n,W,hi,lg⟩ o b rs (Y4 P call o) fun v m2 =>
        (A8t o.dst).run v fr fun fr=>v6 P nt gl call all r (i+1) bs (⟨i,n,m2.n⟩::rs) qs ⟨fr,m2⟩
   | some (false,lg),true=>(A8t o.dst).run undef fr fun fr=>v6 P nt gl call all r (i+1) bs rs ((i,none)::qs) ⟨fr,⟨H,n,W,hi,lg⟩⟩
   | _,_=>none
def C3M(l:List Nat)(b:Nat):List Nat:=bif A0A l b then l else J7 b fun b=>b::l
def B8O:List Nat→List Nat→List Nat
 | [],b=>b
 | x::a,b=>C3M (B8O a b) x
def A7N(acc:List (List Nat)):List Edge→List Nat
 | []=>[]
 | e::r=>bif Region.binds .any e then C3M (B8O (acc.getD e.on []) (A7N acc r)) e.on else A7N acc r
def c8:List Oper→List (List Nat)→List (List Nat)
 | [],acc=>acc
 | o::r,acc=>Q8 (A7N acc o.after.toList) fun a=>c8 r (acc++[a])
def A6U:Operand→List Tmp
 | .tmp t=>[t]
 | _=>[]
def X0(ops:List Oper)(o:Oper):List Tmp :=
 o.dst.toList++(o.op.operands.toList.flatMap A6U++(match o.guard with
  | none=>[]
  | some (j,_)=>match ops[j]? with
    | some p=>p.dst.toList
    | none=>[]))
def C6H(an:List (List Nat))(i k:Nat):Bool:=bif Nat.blt i k then A0A (an.getD k []) i else A0A (an.getD i []) k
def A7V(an:List (List Nat))(i:Nat)(sl:List Tmp):List Oper→Nat→Bool
 | [],_=>true
 | p::r,k=>(Nat.beq k i || (match p.dst with|none=>true|some t=>!(A0A sl t) || C6H an i k)) && A7V an i sl r (k+1)
def A5V(i:Nat):List Edge→Bool
 | []=>true
 | e::r=>(!(Region.binds .any e) || Nat.blt e.on i) && A5V i r
def B4x(ops:List Oper)(an:List (List Nat)):List Oper→Nat→Bool
 | [],_=>true
 | o::r,i=>A5V i o.after.toList && (A7V an i (X0 ops o) ops 0 && B4x ops an r (i+1))
def B3q(ops:Array Oper):Bool:=B4x ops.toList (c8 ops.toList []) ops.toList 0
def B3v:Op→Bool
 | .move _|.assign _|.load _ _|.store _ _ _=>true
 | _=>false
def A40:Op→Option (TypeId×Operand)
 | .load t x=>some (t,x)
 | .store t x _=>some (t,x)
 | _=>none
def A2a:Op→Bool
 | .store _ _ _=>true
 | _=>false
def C1O:Op→List Tmp
 | .move x|.assign x=>A6U x
 | .load _ x=>A6U x
 | .store _ x y=>A6U x++A6U y
 | _=>[]
def B10(o:Oper)(l:List Tmp):Bool :=
 match o.dst with
 | some d=>A0A l d
 | none=>false
def D4j(a b:Oper):Bool :=
 (match a.dst,b.dst with
   | some d,some e=>!(Nat.beq d e)
   | _,_=>true) && (!(B10 a (C1O b.op)) && (!(B10 b (C1O a.op)) && !(A2a a.op && A2a b.op)))
def A7D(o:Oper)(i:Nat):Bool:=o.after.any fun e=>Region.binds .any e && Nat.beq e.on i
def C3N(l:List Oper):List Tmp:=l.flatMap fun o=>match A40 o.op with
 | some (_,x)=>A6U x
 | none=>[]
def B3G(p:Oper→Oper→Bool)(l:List Oper):Bool :=
 (List.range l.length).all fun j=>(List.range j).all fun i=>match l[i]?,l[j]? with
   | some a,some b=>A7D b i || p a b
   | _,_=>true
def D2n(ads:List Tmp)(i:Nat)(o:Oper):Bool:=B3v o.op && ((match o.guard with|none=>true|some _=>false) && (!(B10 o ads) && o.after.all fun e=>!(Region.binds .any e) || Nat.blt e.on i))
def C1i(ads:List Tmp):Nat→List Oper→Bool
 | _,[]=>true
 | i,o::l=>D2n ads i o && C1i ads (i+1) l
def A4N(l:List Oper):Bool:=C1i (C3N l) 0 l && B3G D4j l
def C1c(P:Program)(nt gl:Nat)(fr:Fr)(H:Hp AB)(o:Oper):Bool :=
 match A40 o.op with
 | none=>true
 | some (t,x)=>bif !(okX nt gl x)then false else match ev fr x,A0L P t,G3 P t with
   | .pointer (some a),some _,some s=>match a.spot,Hp.get H a.block with
     | none,some (.cells cs _ false)=>Nat.ble (a.off+s) cs.length && (Nat.blt a.off cs.length && Nat.ble a.block H1)
     | _,_=>false
   | _,_,_=>false
def C3I(fr:Fr)(a b:Oper):Bool :=
 bif A2a a.op || A2a b.op then match A40 a.op,A40 b.op with
  | some (_,x),some (_,y)=>match ev fr x,ev fr y with
    | .pointer (some p),.pointer (some q)=>!(Nat.beq p.block q.block)
    | _,_=>false
  | _,_=>true else true
def A4X(P:Program)(nt gl:Nat)(fr:Fr)(H:Hp AB)(l:List Oper):Bool:=l.all (C1c P nt gl fr H) && B3G (C3I fr) l
structure A2m where
 run:S→Option (Ex×S)
def B19(f:A2m):Nat→S→Option (Ex×S)
 | 0,_=>none
 | n+1,s=>match f.run s with
   | some (.normal,s)=>B19 f n s
   | r=>r
def C3B(a b:A2m)(s:S):Option (Ex×S) :=
 match a.run s with
 | some (.normal,s)=>b.run s
 | r=>r
def B5r(c:XC)(a b:A2m)(s:S):Option (Ex×S) :=
 match c.run s.fr with
 | .bool true=>a.run s
 | .bool false=>b.run s
 | v=>match s with
   | ⟨fr,⟨H,n,W,hi,lg⟩⟩=>match brL lg v with
     | some (true,lg)=>a.run ⟨fr,⟨H,n,W,hi,lg⟩⟩
     | some (false,lg)=>b.run ⟨fr,⟨H,n,W,hi,lg⟩⟩
     | none=>none
def B03(id:Nat)(c:A2m)(s:S):Option (Ex×S) :=
 match c.run s with
 | some (.exit j,s)=>bif Nat.beq j id then some (.normal,s)else some (.exit j,s)
 | r=>r
def Z8(r:C4W)(s:S):Option (Ex×S) :=
 match r.run s with
 | some s=>some (.normal,s)
 | none=>none
structure LpT where
 me:FuncId
 look:List Bool→Option (S→Option (Ex×S))
def B1_(c:A2m)(L:S→Option (Ex×S)):Nat→S→Option (Ex×S)
 | 0,_=>none
 | n+1,s=>match L s with
   | some r=>some r
   | none=>match c.run s with
     | some (.normal,s)=>B1_ c L n s
     | r=>r
def B5p(c:A2m)(l:Option (S→Option (Ex×S)))(s:S):Option (Ex×S) :=
 match l with
 | some f=>B1_ c f 4 s
 | none=>B19 c 1000000 s
def frL(fr:Fr):Nat→Nat→List Value
 | _,0=>[]
 | i,n+1=>fr.get i::frL fr (i+1) n
def C8s:Value→Nat
 | .pointer (some a)=>a.block
 | _=>0
def A3H(v:Value):List Nat :=
 match v with
 | .func (.yield 8) ⟨l⟩ ⟨[]⟩=>l.map C8s
 | _=>[]
def exN:Ex→Nat
 | .normal=>0
 | .ret=>2
 | .exit k=>k+4
def nEx:Nat→Option Ex
 | 0=>some .normal
 | 1=>none
 | 2=>some .ret
 | 3=>none
 | k+4=>some (.exit k)
def B3U:Ex→Bool
 | .normal=>true
 | _=>false
def A6p(fr:Fr)(hi:Nat)(b:Nat)(r:Res):Option (Ex×S) :=
 match r with
 | some (_,m)=>match Hp.get m.H b with
   | some (.lp f q vs st)=>match nEx st with
     | some e=>bif Nat.ble hi m.hi then match A1x m b (.lp f q vs 3)with
       | some m=>some (e,⟨fr,m⟩)
       | none=>none else none
     | none=>none
   | _=>none
 | none=>none
def A65(P:Program)(f:FuncId):Bool :=
 match P.funcs.toList[f]? with
 | some fn=>match fn.body with
   | some _=>true
   | none=>false
 | none=>false
def A01(P:Program)(nt:Nat)(call:Q2)(f:FuncId)(q:List Bool)(g:Value)(fr:Fr)(m:Mem):Option (Ex×S) :=
 Q8 (frL fr 0 nt) fun vs=>match m7 m (.lp f q vs 0) yv with
 | some (v,m1)=>match A9I g [v],A1q v with
   | some (k,as),some b=>bif A65 P k then A6p fr m1.hi b ((call.fn k).run as m1)else none
   | _,_=>none
 | none=>none
def B01(P:Program)(nt:Nat)(call:Q2)(f:FuncId)(q:List Bool)(x:XC)(s:S):Option (Ex×S) :=
 match s with
 | ⟨fr,m⟩=>bif Nat.ble nt 510 then match A1q (fr.get 511)with
   | some b0=>match Hp.get m.H b0 with
     | some (.lp _ _ _ 1)=>A01 P nt call f q (x.run fr) fr m
     | _=>none
   | none=>bif A5M (fr.get 511)then match m7 m (.dfr true) (fun b=>.pointer (some ⟨b,0,none⟩))with
      | some (.pointer (some a),m1)=>Q8 (A3H (fr.get 510)) fun l=>A8n (sel 7) (sel 7) (sel 6) (dv (a.block::l)) fr fun fr2=>A01 P nt call f q (x.run fr) fr2 m1
      | _=>none else none
   else none
def N2(P:Program)(nt gl:Nat)(call:Q2)(lp:LpT):List Bool→Code→A2m
 | _,.skip=>⟨fun s=>some (.normal,s)⟩
 | _,.label _=>⟨fun s=>some (.normal,s)⟩
 | _,.region _ ops d=>match d with
   | false=>⟨fun s=>Z8 (V9 P nt gl call ops.toList ops.toList) s⟩
   | true=>bif B3q ops then bif A4N ops.toList then⟨fun s=>bif A4X P nt gl s.fr s.m.H ops.toList then Z8 (V9 P nt gl call ops.toList ops.toList) s else Z8 ⟨v6 P nt gl call ops.toList ops.toList 0 (c8 ops.toList []) [] []⟩ s⟩
     else⟨fun s=>Z8 ⟨v6 P nt gl call ops.toList ops.toList 0 (c8 ops.toList []) [] []⟩ s⟩else⟨fun _=>none⟩
 | q,.seq a b=>⟨fun s=>C3B (N2 P nt gl call lp (q++[false]) a) (N2 P nt gl call lp (q++[true]) b) s⟩
 | q,.cond c a b=>bif okX nt gl c then⟨fun s=>B5r (T7 c) (N2 P nt gl call lp (q++[false]) a) (N2 P nt gl call lp (q++[true]) b) s⟩else⟨fun _=>none⟩
 | q,.block id c=>⟨fun s=>B03 id (N2 P nt gl call lp (q++[false]) c) s⟩
 | q,.loop c=>⟨fun s=>B5p (N2 P nt gl call lp (q++[false]) c) (lp.look q) s⟩
 | q,.rangeFunc x _ _ _=>bif okX nt gl x then⟨fun s=>B01 P nt call lp.me q (T7 x) s⟩else⟨fun _=>none⟩
 | q,.scope c=>N2 P nt gl call lp (q++[false]) c
 | _,.exit id=>⟨fun s=>some (.exit id,s)⟩
 | _,.ret=>⟨fun s=>some (.ret,s)⟩
 | _,_=>⟨fun _=>none⟩
def B61(ids:Value→List Nat):List Value→List Nat
 | []=>[]
 | v::r=>ids v++B61 ids r
def B3a:Nat→Value→List Nat
 | 0,_=>[]
 | _+1,.pointer (some a)=>[a.block]
 | _+1,.slice (some a) _ _=>[a.block]
 | _+1,.map (some b)=>[b]
 | d+1,.func _ a b=>B61 (B3a d) a.toList++B61 (B3a d) b.toList
 | d+1,.iface _ v=>B3a d v
 | d+1,.agg cs=>B61 (B3a d) cs.toList
 | d+1,.tuple cs=>B61 (B3a d) cs.toList
 | _+1,_=>[]
def D4o:AB→List Nat
 | .cells cs _ _=>B61 (B3a 10) cs
 | .mp _ _ _=>[]
 | .iter _ _=>[]
 | .lp _ _ vs _=>B61 (B3a 10) vs
 | .dfr _=>[]
 | .sq _ _ _ g _=>[g]
 | .frz=>[]
def B4h(n0:Nat)(H:Hp AB):Nat→List Nat→List Nat→List Nat
 | 0,_,acc=>acc
 | _+1,[],acc=>acc
 | f+1,b::r,acc=>bif Nat.blt b n0 || A0A acc b then B4h n0 H f r acc else match Hp.get H b with
   | some ab=>B4h n0 H f (D4o ab++r) (b::acc)
   | none=>B4h n0 H f r acc
def A19(H' H:Hp AB):List Nat→Hp AB
 | []=>H
 | b::r=>Hp.put H b (Hp.get H' b) fun H=>A19 H' H r
def wOf(H:Hp AB):List Nat→List Nat
 | []=>[]
 | b::r=>(match Hp.get H b with|some ab=>D4o ab|none=>[])++wOf H r
def A5l:List Nat→List Nat→List Nat
 | [],acc=>acc
 | b::r,acc=>bif A0A acc b then A5l r acc else A5l r (b::acc)
def A7d(low:Value→Bool):List Value→Bool
 | []=>true
 | v::r=>low v && A7d low r
def A0e(n:Nat):Nat→Value→Bool
 | 0,_=>false
 | _+1,.pointer (some a)=>Nat.blt a.block n
 | _+1,.slice (some a) _ _=>Nat.blt a.block n
 | _+1,.map (some b)=>Nat.blt b n
 | d+1,.func _ a b=>A7d (A0e n d) a.toList && A7d (A0e n d) b.toList
 | d+1,.iface _ v=>A0e n d v
 | d+1,.agg cs=>A7d (A0e n d) cs.toList
 | d+1,.tuple cs=>A7d (A0e n d) cs.toList
 | _+1,.complex _ _ _=>true
 | _+1,v=>H9 v
def C6X(n:Nat):Option AB→Bool
 | none=>true
 | some (.cells cs _ _)=>A7d (A0e n 10) cs
 | some (.mp _ _ _)=>true
 | some (.iter _ _)=>true
 | some (.lp _ _ vs _)=>A7d (A0e n 10) vs
 | some (.dfr _)=>true
 | some (.sq _ _ _ g _)=>Nat.blt g n
 | some .frz=>true
def B6s(n:Nat)(H:Hp AB):List Nat→Bool
 | []=>true
 | b::r=>C6X n (Hp.get H b) && B6s n H r
def gcM(m m':Mem)(v:Value):Option Mem :=
 let W:=A5l (m'.W.filter fun b=>Nat.blt b m.n || Nat.ble m'.hi b) []
 bif A0e m.n 10 v && B6s m.n m'.H W then
  bif B3z W then B3f (A19 m'.H m.H W) fun H=>J7 m'.hi fun hi=>Q8 (W++m.W) fun W=>some ⟨H,m.n,W,hi,m'.lg⟩else none
 else
  let ids:=(B4h m.n m'.H 100000 (B3a 10 v++wOf m'.H W) []).filter fun b=>Nat.ble m.n b && Nat.blt b m'.hi
  bif B3z (W++ids)then B3f (A19 m'.H m.H (W++ids)) fun H=>J7 m'.n fun n=>J7 m'.hi fun hi=>Q8 (W++m.W) fun W=>some ⟨H,n,W,hi,m'.lg⟩else none
def D3w(P:Program)(nt:Nat)(s:S):ResultVar→Option Value
 | .tmp t=>bif Nat.blt t nt then some (s.fr.get t)else none
 | .cell a t=>bif Nat.blt a nt then match s.fr.get a with
   | .pointer (some a)=>B8F P s.m t a
   | _=>none else none
def B9Y(P:Program)(nt:Nat)(s:S):List ResultVar→Option (List Value)
 | []=>some []
 | r::rs=>match D3w P nt s r,B9Y P nt s rs with
   | some v,some vs=>some (v::vs)
   | _,_=>none
def B9X(fn:Func)(P:Program)(s:S):Option Value :=
 match B9Y P fn.ntmps s fn.results.toList with
 | some [v]=>some v
 | some vs=>some (.tuple ⟨vs⟩)
 | none=>none
def A2I(fr:Fr):Nat→List Value→Fr
 | _,[]=>fr
 | i,v::r=>A8n (sel (i / 64%8)) (sel (i / 8%8)) (sel (i%8)) v fr fun fr=>A2I fr (i+1) r
def A7k(l:List UInt8)(c:UInt8):Nat→Int
 | i=>match l with
   | [] => -1
   | b::r=>bif decide (b=c)then(i:Int)else A7k r c (i+1)
def countB(c:UInt8):List UInt8→Nat→Nat
 | [],n=>n
 | b::r,n=>bif decide (b=c)then J7 (n+1) (countB c r)else countB c r n
def A55(k:EK)(args:List Value)(m:Mem):Res :=
 match k,args with
 | .noEscape,[v]=>some (v,m)
 | .indexByteString,[.string s,.int .u8 (.ofNat c)]=>some (.int .i64 (A7k s.data.toList (UInt8.ofNat c) 0),m)
 | .countString,[.string s,.int .u8 (.ofNat c)]=>some (.int .i64 (countB (UInt8.ofNat c) s.data.toList 0),m)
 | .makeNoZero e,[.int .i64 (.ofNat n)]=>bif Nat.ble n 1000000000 then m7 m (.cells [] e false) fun b=>.slice (some ⟨b,0,none⟩) n M8 else none
 | _,_=>none
def A6W:List Nat→Mem→Option Mem
 | [],m=>some m
 | b::r,m=>match Hp.get m.H b with
   | some (.dfr true)=>match A1x m b (.dfr false)with
     | some m=>A6W r m
     | none=>none
   | _=>none
def dvG(nt:Nat)(fr:Fr):List Nat:=bif Nat.ble nt 510 then A3H (fr.get 510)else[]
def D3C(fn:Func)(P:Program)(m:Mem)(r:Option (Ex×S)):Res :=
 match r with
 | some (.normal,⟨fr,m1⟩)|some (.ret,⟨fr,m1⟩)=>match A6W (dvG fn.ntmps fr) m1 with
   | some m1=>match B9X fn P ⟨fr,m1⟩with
     | some v=>match gcM m m1 v with
       | some m=>some (v,m)
       | none=>none
     | none=>none
   | none=>none
 | _=>none
def B6S(c:A2m)(fr:Fr)(m:Mem):Option (Ex×S) :=
 match m with
 | ⟨H,n,_,hi,lg⟩=>c.run ⟨fr,⟨H,n,[],hi,lg⟩⟩
def A8b(fn:Func)(P:Program)(c:A2m)(args:List Value)(m:Mem):Res :=
 bif Nat.ble args.length fn.ntmps && Nat.ble fn.ntmps 512 then D3C fn P m (B6S c (A2I fr0 0 args) m)else none
structure Cx where
 P:Program
 ext:List (FuncId×EK)
 gl:Nat
 con:FuncId→Option FnC
 lp:FuncId→LpT
def B2f(C:Cx)(call:Q2)(f:FuncId):FnC :=
 match C.P.funcs.toList[f]? with
 | none=>⟨fun _ _=>none⟩
 | some fn=>match C.con f with
   | some c=>c
   | none=>match fn.body with
     | none=>match B5a C.ext f with
       | some k=>⟨A55 k⟩
       | none=>⟨fun _ _=>none⟩
     | some c=>⟨A8b fn C.P (N2 C.P fn.ntmps C.gl call (C.lp f) [] c)⟩
def A8K:List Tmp→List Value→Fr→Option Fr
 | [],[],fr=>some fr
 | t::ts,v::vs,fr=>A8n (sel (t / 64%8)) (sel (t / 8%8)) (sel (t%8)) v fr fun fr=>A8K ts vs fr
 | _,_,_=>none
def A6j(b:Nat)(r:Option (Ex×S)):Res :=
 match r with
 | some (e,⟨_,m⟩)=>match Hp.get m.H b with
   | some (.lp f q vs 1)=>J7 (exN e) fun st=>match A1x m b (.lp f q vs st)with
     | some m=>some (.bool (B3U e),m)
     | none=>none
   | _=>none
 | none=>none
def A6i(b:Nat)(c:A2m)(r:Option (Ex×S)):Res :=
 match r with
 | some (.normal,⟨fr,m⟩)=>match Hp.get m.H b with
   | some (.lp f q vs 0)=>match A1x m b (.lp f q vs 1)with
     | some m=>A6j b (c.run ⟨fr,m⟩)
     | none=>none
   | _=>none
 | _=>none
def B3A(C:Cx)(call:Q2):FnC:=⟨fun vs m =>
 match vs with
 | []=>none
 | v::args=>match A1q v with
   | none=>none
   | some b=>match Hp.get m.H b with
     | some (.lp f q fs 0)=>match C.P.funcs.toList[f]? with
       | none=>none
       | some fn=>match fn.body with
         | none=>none
         | some body=>match H4 q body with
           | some (.rangeFunc _ ps as bd)=>bif Nat.ble fn.ntmps 510 && ps.toList.all (fun t=>Nat.blt t fn.ntmps)then match A8K ps.toList args (A2I fr0 0 fs)with
             | some fr=>A8n (sel 7) (sel 7) (sel 7) v fr fun fr=>A6i b (N2 C.P fn.ntmps C.gl call (C.lp f) (q++[true]) bd) ((N2 C.P fn.ntmps C.gl call (C.lp f) (q++[false]) as).run ⟨fr,m⟩)
             | none=>none else none
           | _=>none
     | _=>none⟩
def A5r(C:Cx):Nat→Q2
 | 0=>⟨fun _=>⟨fun _ _=>none⟩,⟨fun _ _=>none⟩⟩
 | d+1=>⟨B2f C (A5r C d),B3A C (A5r C d)⟩
end Go.Sx
