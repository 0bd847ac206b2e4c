/- The law PickFound: for every input the call returns true, and the arguments read behind it as they read before. No condition. -/
import Derived.WalkKit
import Derived.OrdersHeld
import Derived.KernelRfl
namespace Go.Sx
set_option linter.all false
set_option linter.unusedVariables false
open Go
abbrev A2J:=@Array.all_eq_true'
abbrev J1:=@Array.ext'
abbrev B1:=@Array.getD_eq_getD_getElem?
abbrev V0:=@Array.getElem?_append_left
abbrev I6:=@Array.getElem?_eq_getElem
abbrev D7:=@Array.getElem?_eq_some_iff
abbrev J4:=@Array.getElem?_modify
abbrev w9:=@Array.getElem?_push
abbrev A2s:=@Array.getElem?_replicate
abbrev F3:=@Array.getElem?_setIfInBounds
abbrev A0p:=@Array.getElem?_toList
abbrev T9:=@Array.length_toList
abbrev A2K:=@Array.mapM_eq_mapM_toList
abbrev r8:=@Array.mk.injEq
abbrev A2I:=@BitVec.toNat_ofInt
abbrev I0:=@Bool.and_eq_true
abbrev M3:=@Bool.eq_iff_iff
abbrev Q7:=@Bool.false_eq_true
abbrev e9:=@Bool.false_or
abbrev R4:=@Bool.not_true
abbrev X0:=@Bool.or_eq_false_iff
abbrev I5:=@Bool.or_eq_true
abbrev V9:=@Classical.byContradiction
abbrev W9:=@Classical.not_not
abbrev W8:=@Int.add_mul
abbrev A3D:=@Int.ediv_le_ediv
abbrev Z3:=@Int.emod_lt_of_pos
abbrev P6:=@Int.emod_nonneg
abbrev R8:=@Int.le_refl
abbrev F1:=@Int.le_trans
abbrev E5:=@Int.mul_le_mul_of_nonneg_right
abbrev r7:=@Int.mul_nonneg
abbrev E3:=@Int.natCast_nonneg
abbrev A3u:=@Int.ofNat.injEq
abbrev W7:=@Int.one_mul
abbrev n7:=@Int.toNat_natCast
abbrev A3t:=@List.all_append
abbrev A06:=@List.all_cons
abbrev E0:=@List.all_eq_true
abbrev A5O:=@List.any_cons
abbrev Q6:=@List.any_eq_true
abbrev C3:=@List.append_assoc
abbrev C8:=@List.append_nil
abbrev D6:=@List.cons.injEq
abbrev Y3:=@List.cons_append
abbrev A2H:=@List.drop_drop
abbrev u6:=@List.drop_eq_getElem_cons
abbrev A0h:=@List.drop_zero
abbrev A00:=@List.eq_nil_iff_forall_not_mem
abbrev N1:=@List.eq_nil_of_length_eq_zero
abbrev A1a:=@List.filter_eq_self
abbrev A2j:=@List.flatMap_cons
abbrev B3:=@List.getD_eq_getElem?_getD
abbrev E9:=@List.getElem?_append_left
abbrev E7:=@List.getElem?_append_right
abbrev S8:=@List.getElem?_cons_succ
abbrev S7:=@List.getElem?_cons_zero
abbrev H9:=@List.getElem?_drop
abbrev A6:=@List.getElem?_eq_getElem
abbrev Q2:=@List.getElem?_eq_none
abbrev A9:=@List.getElem?_eq_some_iff
abbrev I9:=@List.getElem?_map
abbrev A1N:=@List.getElem?_set_ne
abbrev Z2:=@List.getElem?_set_self
abbrev F5:=@List.getElem?_take_of_lt
abbrev J3:=@List.getElem?_toArray
abbrev Q5:=@List.getElem_mem
abbrev w8:=@List.getElem_of_mem
abbrev A0:=@List.length_append
abbrev A3:=@List.length_cons
abbrev M8:=@List.length_drop
abbrev G0:=@List.length_eq_zero_iff
abbrev W1:=@List.length_map
abbrev A4:=@List.length_nil
abbrev A0o:=@List.length_singleton
abbrev F9:=@List.map_cons
abbrev I3:=@List.map_nil
abbrev B5:=@List.mem_append
abbrev C5:=@List.mem_cons
abbrev D1:=@List.mem_cons_of_mem
abbrev B6:=@List.mem_cons_self
abbrev T6:=@List.mem_filter
abbrev U3:=@List.mem_map
abbrev E1:=@List.mem_of_getElem?
abbrev q9:=@List.mem_range
abbrev A2G:=@List.mem_singleton
abbrev d8:=@List.nil_append
abbrev t8:=@List.not_mem_nil
abbrev A0H:=@List.prefix_append
abbrev d7:=@List.prefix_append_right_inj
abbrev A0O:=@List.prefix_iff_eq_take
abbrev i5:=@List.take_append_drop
abbrev A1M:=@List.take_append_of_le_length
abbrev A3C:=@List.take_length
abbrev A05:=@Nat.add_assoc
abbrev A3j:=@Nat.add_comm
abbrev H1:=@Nat.add_mul
abbrev Y2:=@Nat.add_sub_cancel_left
abbrev A1h:=@Nat.beq_refl
abbrev A53:=@Nat.ble_eq
abbrev C4:=@Nat.ble_eq_true_of_le
abbrev A2:=@Nat.eq_of_beq_eq_true
abbrev U9:=@Nat.eq_zero_or_pos
abbrev A1:=@Nat.le_of_ble_eq_true
abbrev A3i:=@Nat.le_of_lt
abbrev A7:=@Nat.le_refl
abbrev A0N:=@Nat.le_succ
abbrev B7:=@Nat.le_trans
abbrev D4:=@Nat.lt_of_lt_of_le
abbrev G1:=@Nat.lt_or_ge
abbrev I8:=@Nat.lt_succ_self
abbrev A0z:=@Nat.mod_eq_of_lt
abbrev A52:=@Nat.mod_lt
abbrev A0g:=@Nat.mul_comm
abbrev A0G:=@Nat.mul_div_cancel
abbrev A4e:=@Nat.mul_le_mul
abbrev F2:=@Nat.mul_le_mul_right
abbrev A2i:=@Nat.one_mul
abbrev A3h:=@Nat.sub_self
abbrev m9:=@Nat.succ_le_of_lt
abbrev F0:=@Nat.zero_add
abbrev A3g:=@Nat.zero_mul
abbrev B4:=@Option.bind_eq_some_iff
abbrev E4:=@Option.bind_some
abbrev A0f:=@Option.map_eq_some_iff
abbrev P5:=@Option.map_some
abbrev A8:=@Option.some.inj
abbrev D3:=@Option.some.injEq
abbrev O5:=@Prod.mk.injEq
structure N8 (α:Type) where
 c0:α
 c1:α
 c2:α
 c3:α
 c4:α
 c5:α
 c6:α
 c7:α
structure Sel where
 get:{α:Type}→N8 α→α
 upd:{α β:Type}→N8 α→α→(N8 α→β)→β
def sel:Nat→Sel
 | 0=>⟨fun n=>n.c0,fun n v k=>match n with|⟨a0,a1,a2,a3,a4,a5,a6,a7⟩=>k ⟨v,a1,a2,a3,a4,a5,a6,a7⟩⟩
 | 1=>⟨fun n=>n.c1,fun n v k=>match n with|⟨a0,a1,a2,a3,a4,a5,a6,a7⟩=>k ⟨a0,v,a2,a3,a4,a5,a6,a7⟩⟩
 | 2=>⟨fun n=>n.c2,fun n v k=>match n with|⟨a0,a1,a2,a3,a4,a5,a6,a7⟩=>k ⟨a0,a1,v,a3,a4,a5,a6,a7⟩⟩
 | 3=>⟨fun n=>n.c3,fun n v k=>match n with|⟨a0,a1,a2,a3,a4,a5,a6,a7⟩=>k ⟨a0,a1,a2,v,a4,a5,a6,a7⟩⟩
 | 4=>⟨fun n=>n.c4,fun n v k=>match n with|⟨a0,a1,a2,a3,a4,a5,a6,a7⟩=>k ⟨a0,a1,a2,a3,v,a5,a6,a7⟩⟩
 | 5=>⟨fun n=>n.c5,fun n v k=>match n with|⟨a0,a1,a2,a3,a4,a5,a6,a7⟩=>k ⟨a0,a1,a2,a3,a4,v,a6,a7⟩⟩
 | 6=>⟨fun n=>n.c6,fun n v k=>match n with|⟨a0,a1,a2,a3,a4,a5,a6,a7⟩=>k ⟨a0,a1,a2,a3,a4,a5,v,a7⟩⟩
 | _=>⟨fun n=>n.c7,fun n v k=>match n with|⟨a0,a1,a2,a3,a4,a5,a6,a7⟩=>k ⟨a0,a1,a2,a3,a4,a5,a6,v⟩⟩
def A51{α:Type}(v:α):N8 α:=⟨v,v,v,v,v,v,v,v⟩
def B1z{α β:Type}(n:N8 α)(k:N8 α→β):β :=
 match n with
 | ⟨a0,a1,a2,a3,a4,a5,a6,a7⟩=>k ⟨a0,a1,a2,a3,a4,a5,a6,a7⟩
abbrev Fr:=N8 (N8 (N8 Value))
def Fr.get(fr:Fr)(t:Nat):Value:=(sel (t%8)).get ((sel (t / 8%8)).get ((sel (t / 64%8)).get fr))
def A71{β:Type}(a b c:Sel)(v:Value)(fr:Fr)(k:Fr→β):β :=
 c.upd (b.get (a.get fr)) v fun n2=>b.upd (a.get fr) n2 fun n1=>a.upd fr n1 k
def Fr.set(fr:Fr)(t:Nat)(v:Value):Fr:=A71 (sel (t / 64%8)) (sel (t / 8%8)) (sel (t%8)) v fr fun fr=>fr
def fr0:Fr:=A51 (A51 (A51 (.tuple #[])))
abbrev Hp(α:Type):=N8 (N8 (N8 (N8 (N8 (N8 (Option α))))))
def Hp.get{α:Type}(h:Hp α)(n:Nat):Option α :=
 (sel (n%8)).get ((sel (n / 8%8)).get ((sel (n / 64%8)).get ((sel (n / 512%8)).get ((sel (n / 4096%8)).get ((sel (n / 32768%8)).get h)))))
def A3x{α β:Type}(a b c d e f:Sel)(v:Option α)(h:Hp α)(k:Hp α→β):β :=
 f.upd (e.get (d.get (c.get (b.get (a.get h))))) v fun n5=>e.upd (d.get (c.get (b.get (a.get h)))) n5 fun n4=>d.upd (c.get (b.get (a.get h))) n4 fun n3=>c.upd (b.get (a.get h)) n3 fun n2=>b.upd (a.get h) n2 fun n1=>a.upd h n1 k
def Hp.put{α β:Type}(h:Hp α)(n:Nat)(v:Option α)(k:Hp α→β):β :=
 A3x (sel (n / 32768%8)) (sel (n / 4096%8)) (sel (n / 512%8)) (sel (n / 64%8)) (sel (n / 8%8)) (sel (n%8)) v h k
def Hp.set{α:Type}(h:Hp α)(n:Nat)(v:Option α):Hp α:=h.put n v fun h=>h
def hp0{α:Type}:Hp α:=A51 (A51 (A51 (A51 (A51 (A51 none)))))
def H3:Nat:=262143
def K1{β:Type}(n:Nat)(k:Nat→β):β :=
 match n with
 | 0=>k 0
 | m+1=>k (Nat.succ m)
def A9D{β:Type}(i:Int)(k:Int→β):β :=
 match i with
 | .ofNat n=>K1 n fun n=>k (.ofNat n)
 | .negSucc n=>K1 n fun n=>k (.negSucc n)
def T4{α β:Type}:List α→(List α→β)→β
 | [],k=>k []
 | x::r,k=>T4 r fun r=>k (x::r)
def B4f:IntKind→Nat
 | .i8=>127|.i16=>32767|.i32=>2147483647|.i64=>9223372036854775807
 | .u8=>255|.u16=>65535|.u32=>4294967295|.u64=>18446744073709551615
def B0A(k:IntKind)(n:Int):Int :=
 match n with
 | .ofNat m=>bif Nat.ble m (B4f k)then .ofNat m else k.wrap (.ofNat m)
 | .negSucc m=>k.wrap (.negSucc m)
def C7J(a b:Int):Int :=
 match a,b with
 | .ofNat m,.ofNat n=>.ofNat (Nat.add m n)
 | a,b=>a+b
def C5H(a b:Int):Int :=
 match a,b with
 | .ofNat m,.ofNat n=>bif Nat.ble n m then .ofNat (Nat.sub m n)else .ofNat m - .ofNat n
 | a,b=>a-b
def C6c(a b:Int):Int :=
 match a,b with
 | .ofNat m,.ofNat n=>.ofNat (Nat.mul m n)
 | a,b=>a*b
def ltF(a b:Int):Bool :=
 match a,b with
 | .ofNat m,.ofNat n=>Nat.blt m n
 | .negSucc _,.ofNat _=>true
 | .ofNat _,.negSucc _=>false
 | .negSucc m,.negSucc n=>Nat.blt n m
def leF(a b:Int):Bool :=
 match a,b with
 | .ofNat m,.ofNat n=>Nat.ble m n
 | .negSucc _,.ofNat _=>true
 | .ofNat _,.negSucc _=>false
 | .negSucc m,.negSucc n=>Nat.ble n m
def B18(a b:Int):Bool :=
 match a,b with
 | .ofNat m,.ofNat n=>Nat.beq m n
 | .negSucc m,.negSucc n=>Nat.beq m n
 | _,_=>false
def B0L:IntKind→IntKind→Bool
 | .i8,.i8|.i16,.i16|.i32,.i32|.i64,.i64|.u8,.u8|.u16,.u16|.u32,.u32|.u64,.u64=>true
 | _,_=>false
def mkI(k:IntKind)(n:Int):Value:=A9D n fun n=>.int k n
inductive U where
 | none
 | int (k:IntKind) (n:Int)
 | bool (b:Bool)
 | str (s:List UInt8)
 | seq (nul:Bool) (w:Nat) (rows:List (List U))
inductive LOp where
 | bin (op:BinOp)
 | un (op:UnOp)
 | conv (k:IntKind)
 | len
 | idx
 | sub
 | sub1
 | sel
 | eqs
 | inb
 | max
 | min
 | mks
 | inbs (w:Nat)
 | get (w o:Nat)
 | mk (w:Nat)
 | nilw (w:Nat)
 | nilp
 | snoc (w:Nat)
 | cat (w:Nat)
 | cats
 | set (w o:Nat)
 | subs (w:Nat)
 | str
 | byt
 | rep (w:Nat)
 | ustr
inductive y4 where
 | lt (i t:Nat) (op:LOp) (xs:List Value)
 | dt (i t:Nat) (op:LOp) (xs:List Value)
 | br (i:Nat) (b:Bool)
 | as (op:LOp) (xs:List Value)
 | con (spec:List U→Option (Nat×List U)) (xs:List Value) (i d n:Nat)
structure Lg where
 nx:Nat
 pi:List Nat
 log:List y4
def hole(i t:Nat):Value:=.complex .f64 i t
def junk:Value:=.complex .f32 0 0
def ixp(a:Addr)(s:Nat)(i:Value)(n:Nat):Value:=.func (.yield 1) ⟨[.pointer (some a),.int .i64 (.ofNat s),i,.int .i64 (.ofNat n)]⟩ ⟨[]⟩
def dat(b i t:Nat):Value:=.func (.yield 2) ⟨[.pointer (some ⟨b,0,none⟩),.complex .f64 i t]⟩ ⟨[]⟩
def clp(b i t:Nat):Value:=.func (.yield 3) ⟨[.pointer (some ⟨b,0,none⟩),.complex .f64 i t]⟩ ⟨[]⟩
def own(b i t:Nat):Value:=.func (.yield 4) ⟨[.pointer (some ⟨b,0,none⟩),.complex .f64 i t]⟩ ⟨[]⟩
def dpt(b i t:Nat)(z:Value)(o:Nat):Value:=.func (.yield 5) ⟨[.pointer (some ⟨b,0,none⟩),.complex .f64 i t,z,.int .i64 (.ofNat o)]⟩ ⟨[]⟩
def opt(b i t:Nat)(z:Value)(o:Nat):Value:=.func (.yield 6) ⟨[.pointer (some ⟨b,0,none⟩),.complex .f64 i t,z,.int .i64 (.ofNat o)]⟩ ⟨[]⟩
def yv(b:Nat):Value:=.func (.yield 7) ⟨[.pointer (some ⟨b,0,none⟩)]⟩ ⟨[]⟩
def sdt(b:Nat):Value:=.func (.yield 9) ⟨[.pointer (some ⟨b,0,none⟩)]⟩ ⟨[]⟩
def dv(ids:List Nat):Value:=.func (.yield 8) ⟨ids.map fun b=>.pointer (some ⟨b,0,none⟩)⟩ ⟨[]⟩
def B9d:Value→Bool
 | .complex .f32 _ _=>true
 | _=>false
def one:Value:=.complex .f32 1 0
def A3X:Value→Bool
 | .complex .f32 i _=>!(Nat.beq i 1)
 | _=>false
def A5D:IntKind→Nat
 | .i8=>0|.i16=>1|.i32=>2|.i64=>3|.u8=>4|.u16=>5|.u32=>6|.u64=>7
def G4:Value→Nat
 | .int k _=>A5D k
 | .bool _=>8
 | .string _=>9
 | .complex .f64 _ t=>t
 | _=>99
inductive AB where
 | cells (cs:List Value) (T:TypeId) (ro:Bool)
 | sq (c t:Nat) (T:TypeId) (g:Nat) (ro:Bool)
 | frz
 | map (es:List MapEntry) (clock:Nat)
 | iter (s:ByteArray) (pos:Nat)
 | lp (f:FuncId) (q:List Bool) (vs:List Value) (st:Nat)
 | dfr (b:Bool)
structure Mem where
 H:Hp AB
 n:Nat
 W:List Nat
 hi:Nat
 lg:Lg
structure S where
 fr:Fr
 m:Mem
inductive Ex where
 | normal
 | exit (id:Nat)
 | ret
def G3:List Bool→Code→Option Code
 | [],c=>some c
 | false::q,.seq a _=>G3 q a
 | true::q,.seq _ b=>G3 q b
 | false::q,.cond _ a _=>G3 q a
 | true::q,.cond _ _ b=>G3 q b
 | false::q,.block _ c=>G3 q c
 | false::q,.scope c=>G3 q c
 | false::q,.loop c=>G3 q c
 | false::q,.rangeFunc _ _ a _=>G3 q a
 | true::q,.rangeFunc _ _ _ b=>G3 q b
 | _::_,_=>none
def N3:Nat:=9223372036854775808
def I2:Value→Bool
 | .bool _|.int _ _|.string _|.pointer none|.slice none _ _|.map none|.nilFunc|.nilIface=>true
 | _=>false
def B3D:Value→Bool
 | .agg cs=>cs.toList.all I2
 | v=>I2 v
def ev(fr:Fr):Operand→Value
 | .tmp t=>fr.get t
 | .const v=>v
 | .global g=>.pointer (some ⟨g,0,none⟩)
 | .func f=>.func (.func f) #[] #[]
def okX(nt gl:Nat):Operand→Bool
 | .tmp t=>Nat.blt t nt
 | .const v=>B3D v
 | .global g=>Nat.blt g gl
 | .func _=>true
def evL(fr:Fr):List Operand→List Value
 | []=>[]
 | x::r=>ev fr x::evL fr r
def evP(fr:Fr):List (Nat×Operand)→List (Nat×Value)
 | []=>[]
 | (i,x)::r=>(i,ev fr x)::evP fr r
def evO(fr:Fr):Option Operand→Option Value
 | none=>none
 | some x=>some (ev fr x)
structure XC where
 run:Fr→Value
def C7U(a b c:Sel):XC:=⟨fun fr=>c.get (b.get (a.get fr))⟩
def U5:Operand→XC
 | .tmp t=>C7U (sel (t / 64%8)) (sel (t / 8%8)) (sel (t%8))
 | .const v=>⟨fun _=>v⟩
 | .global g=>⟨fun _=>.pointer (some ⟨g,0,none⟩)⟩
 | .func f=>⟨fun _=>.func (.func f) #[] #[]⟩
theorem A1o(x:Operand)(fr:Fr):(U5 x).run fr=ev fr x:=by cases x<;>rfl
structure LC where
 run:Fr→List Value
def C7C(x:XC)(r:LC)(fr:Fr):List Value:=x.run fr::r.run fr
def A7p:List Operand→LC
 | []=>⟨fun _=>[]⟩
 | x::r=>⟨fun fr=>C7C (U5 x) (A7p r) fr⟩
theorem A47(fr:Fr):∀ xs:List Operand,(A7p xs).run fr=evL fr xs
 | []=>rfl
 | x::r=>by
   show(U5 x).run fr::(A7p r).run fr=_;rw[A1o,A47 fr r];rfl
abbrev Res:=Option (Value×Mem)
def upN(hi n:Nat):Nat:=bif Nat.blt n hi then hi else Nat.succ n
def Mem.wLg(m:Mem)(lg:Lg):Mem :=
 match m with
 | ⟨H,n,W,hi,_⟩=>⟨H,n,W,hi,lg⟩
def Z6(m:Mem)(t:Nat)(op:LOp)(xs:List Value):Res :=
 match m with
 | ⟨H,n,W,hi,⟨nx,pi,log⟩⟩=>K1 nx fun nx=>K1 t fun t=>T4 xs fun xs=>some (hole nx t,⟨H,n,W,hi,⟨Nat.succ nx,pi,.lt nx t op xs::log⟩⟩)
def A94(m:Mem)(t:Nat)(op:LOp)(xs:List Value)(k:Nat→Mem→Res):Res :=
 match m with
 | ⟨H,n,W,hi,⟨nx,pi,log⟩⟩=>K1 nx fun nx=>K1 t fun t=>T4 xs fun xs=>k nx ⟨H,n,W,hi,⟨Nat.succ nx,pi,.dt nx t op xs::log⟩⟩
def A9F:List y4→Nat→Option Bool
 | [],_=>none
 | .br j b::r,i=>bif Nat.beq j i then some b else A9F r i
 | _::r,i=>A9F r i
def brL(lg:Lg)(c:Value):Option (Bool×Lg) :=
 match c with
 | .bool b=>some (b,lg)
 | .complex .f64 i 8=>match lg with
   | ⟨nx,pi,log⟩=>match A9F log i with
     | some b=>some (b,⟨nx,pi,log⟩)
     | none=>match pi with
       | 1::r=>some (true,⟨nx,r,.br i true::log⟩)
       | 0::r=>some (false,⟨nx,r,.br i false::log⟩)
       | _=>none
 | _=>none
def u9(m:Mem)(ab:AB)(k:Nat→Value):Res :=
 match m with
 | ⟨H,n,W,hi,lg⟩=>bif Nat.ble n H3 then K1 n fun n=>K1 (upN hi n) fun hi=>Hp.put H n (some ab) fun H=>some (k n,⟨H,Nat.succ n,W,hi,lg⟩)else none
def A2m(m:Mem)(id:Nat)(ab:AB):Option Mem :=
 match m with
 | ⟨H,n,W,hi,lg⟩=>bif Nat.ble id H3 then Hp.put H id (some ab) fun H=>K1 id fun id=>some ⟨H,n,id::W,hi,lg⟩else none
def A3o(m:Mem)(id:Nat):Mem :=
 match m with
 | ⟨H,n,W,hi,lg⟩=>Hp.put H id none fun H=>K1 id fun id=>⟨H,n,id::W,hi,lg⟩
def B95(cs:List Value)(o n:Nat):Option (List Value) :=
 let r:=(cs.drop o).take n
 bif Nat.beq r.length n then some r else none
def A0K(m:Mem)(a:Addr)(n:Nat):Option (List Value) :=
 match a.spot,Hp.get m.H a.block with
 | none,some (.cells cs _ _)=>B95 cs a.off n
 | _,_=>none
def A1B:List Value→Nat→List Value→List Value
 | cs,_,[]=>cs
 | cs,k,v::r=>A1B (cs.set k v) (k+1) r
def flat:Value→Bool
 | .agg _|.tuple _=>false
 | .complex .f32 i _=>Nat.beq i 1
 | _=>true
def A5P(m:Mem)(a:Addr)(vs:List Value):Option Mem :=
 match a.spot,Hp.get m.H a.block with
 | none,some (.cells cs T false) =>
   bif Nat.ble (a.off+vs.length) cs.length && vs.all flat then T4 (A1B cs a.off vs) fun cs=>A2m m a.block (.cells cs T false)else none
 | _,_=>none
variable (P:Program)
def A0w(t:TypeId):Option Bool :=
 match P.underlying t with
 | some (.struct _)|some (.array _ _)=>some true
 | some _=>some false
 | none=>none
def G7(t:TypeId):Option Nat :=
 match P.info? t with
 | some i=>some i.size
 | none=>none
def A2t(t:TypeId):Option Value :=
 match P.info? t with
 | some i=>match i.zero with
   | some v=>bif B3D v then some v else none
   | none=>none
 | none=>none
def B59(m:Mem)(t:TypeId)(a:Addr):Option Value :=
 match A0w P t with
 | some true=>match G7 P t with
   | some n=>match A0K m a n with
     | some cs=>some (.agg ⟨cs⟩)
     | none=>none
   | none=>none
 | some false=>match A0K m a 1 with
   | some (v::_)=>some v
   | _=>none
 | none=>none
def A8W(m:Mem)(t:TypeId)(a:Addr)(v:Value):Option Mem :=
 match G7 P t with
 | some n=>bif Nat.beq v.cells.size n && !(A3X v)then A5P m a v.cells.toList else none
 | none=>none
def A6V(t:TypeId)(cs:List Value)(off:Nat):Option Value :=
 match A0w P t with
 | some true=>match G7 P t with
   | some n=>match B95 cs off n with
     | some r=>some (.agg ⟨r⟩)
     | none=>none
   | none=>none
 | some false=>cs[off]?
 | none=>none
def C2Y(e:TypeId)(s i:Nat):Field:={ name := "x",type:=e,offset:=i*s,embedded:=false,tag := "",pkgPath := "",byteOffset:=0 }
mutual
def eqM:Nat→TypeId→Value→Value→Option Bool
 | 0,_,_,_=>none
 | d+1,t,x,y=>match P.underlying t,x,y with
   | some .bool,.bool a,.bool b=>some (a == b)
   | some (.int _),.int k a,.int j b=>bif decide (k=j)then some (a == b)else none
   | some .string,.string a,.string b=>some (a.data.toList == b.data.toList)
   | some (.pointer _),.pointer none,.pointer b=>some b.isNone
   | some (.pointer _),.pointer (some _),.pointer none=>some false
   | some (.interface _),.nilIface,.nilIface=>some true
   | some (.interface _),.nilIface,.iface _ _=>some false
   | some (.interface _),.iface _ _,.nilIface=>some false
   | some (.interface _),.iface tx vx,.iface ty vy=>bif Nat.beq tx ty then(match P.info? tx with
     | some i=>bif i.comparable then eqM d tx vx vy else none
     | none=>none)else some false
   | some (.slice _),.slice none _ _,.slice b _ _=>some b.isNone
   | some (.slice _),.slice (some _) _ _,.slice none _ _=>some false
   | some (.map _ _),.map none,.map b=>some b.isNone
   | some (.func _ _ _),.nilFunc,.nilFunc=>some true
   | some (.func _ _ _),.nilFunc,.func (.func _) _ _=>some false
   | some (.func _ _ _),.func (.func _) _ _,.nilFunc=>some false
   | some (.struct fs),.agg xs,.agg ys=>bif P.stoodInHeld t then none else eqF d fs.toList xs.toList ys.toList
   | some (.array n e),.agg xs,.agg ys=>match G7 P e with
     | some s=>eqF d ((List.range n).map (C2Y e s)) xs.toList ys.toList
     | none=>none
   | _,_,_=>none
def eqF:Nat→List Field→List Value→List Value→Option Bool
 | 0,_,_,_=>none
 | _+1,[],_,_=>some true
 | d+1,f::fs,xs,ys =>
   bif f.name == "_" then none else
   match A6V P f.type xs f.offset,A6V P f.type ys f.offset with
   | some x,some y=>match eqM d f.type x y with
     | some true=>eqF d fs xs ys
     | some false=>some false
     | none=>none
   | _,_=>none
end
def isC:Operand→Bool
 | .const _=>true
 | _=>false
def A4O(t:TypeId)(x y:Operand)(a b:Value):Bool :=
 match a,b with
 | .nilIface,.nilIface=>isC x || isC y
 | .agg _,.agg _=>!P.eqGuardType P.depth t
 | a,b=>!(B9d a) && !(B9d b)
def A9b(op:BinOp)(k:IntKind)(x y:Int):Option Value :=
 match op with
 | .and=>some (.int k (k.wrap (BitVec.ofInt k.bits x &&& BitVec.ofInt k.bits y).toNat))
 | .or=>some (.int k (k.wrap (BitVec.ofInt k.bits x ||| BitVec.ofInt k.bits y).toNat))
 | .xor=>some (.int k (k.wrap (BitVec.ofInt k.bits x ^^^ BitVec.ofInt k.bits y).toNat))
 | .andNot=>some (.int k (k.wrap (BitVec.ofInt k.bits x &&& ~~~BitVec.ofInt k.bits y).toNat))
 | _=>none
def ltL:List UInt8→List UInt8→Bool
 | _,[]=>false
 | [],_::_=>true
 | a::x,b::y=>a<b || (a == b && ltL x y)
def A4L(op:BinOp)(k:IntKind)(a b:Int):Option Value :=
 match op with
 | .add=>some (mkI k (B0A k (C7J a b)))
 | .sub=>some (mkI k (B0A k (C5H a b)))
 | .mul=>some (mkI k (B0A k (C6c a b)))
 | .quo=>bif B18 b 0 then none else some (mkI k (k.wrap (a.tdiv b)))
 | .rem=>bif B18 b 0 then none else some (mkI k (a.tmod b))
 | .eql=>some (.bool (B18 a b))
 | .neq=>some (.bool (!(B18 a b)))
 | .lss=>some (.bool (ltF a b))
 | .leq=>some (.bool (leF a b))
 | .gtr=>some (.bool (ltF b a))
 | .geq=>some (.bool (leF b a))
 | op=>A9b op k a b
def B4r(left:Bool)(k:IntKind)(a:Int)(b:Nat):Value :=
 bif left then mkI k (k.wrap (a*2 ^ (min b k.bits)))else mkI k (a.fdiv (2 ^ (min b k.bits)))
def B8W(op:BinOp)(a b:ByteArray):Option Value :=
 match op with
 | .add=>bif Nat.ble (a.size+b.size) 1000000000 then T4 (a.data.toList++b.data.toList) fun l=>some (.string ⟨⟨l⟩⟩)else none
 | .eql=>some (.bool (a.data.toList == b.data.toList))
 | .neq=>some (.bool (!(a.data.toList == b.data.toList)))
 | .lss=>some (.bool (ltL a.data.toList b.data.toList))
 | .leq=>some (.bool (ltL a.data.toList b.data.toList || (a.data.toList == b.data.toList)))
 | .gtr=>some (.bool (!(ltL a.data.toList b.data.toList || (a.data.toList == b.data.toList))))
 | .geq=>some (.bool (!(ltL a.data.toList b.data.toList)))
 | _=>none
def B0U(op:BinOp)(t:TypeId)(x y:Value):Option Value :=
 match op with
 | .eql=>match eqM P 20 t x y with
   | some b=>some (.bool b)
   | none=>none
 | .neq=>match eqM P 20 t x y with
   | some b=>some (.bool (!b))
   | none=>none
 | _=>none
def A3Y:BinOp→Option Bool
 | .shl=>some true
 | .shr=>some false
 | _=>none
def A0l(op:BinOp)(k j:IntKind)(a b:Int):Option Value :=
 match A3Y op with
 | some l=>match b with
   | .ofNat n=>some (B4r l k a n)
   | .negSucc _=>none
 | none=>bif B0L k j then A4L op k a b else none
def A6s(op:BinOp)(t:TypeId)(x y:Value):Option Value :=
 match x,y with
 | .int k a,.int j b=>A0l op k j a b
 | .string a,.string b=>B8W op a b
 | x,y=>B0U P op t x y
def unM(op:UnOp)(x:Value):Option Value :=
 match op,x with
 | .neg,.int k n=>some (mkI k (k.wrap (0-n)))
 | .xor,.int k n=>A9b .xor k (if k.signed then -1 else k.max) n
 | .not,.bool b=>some (.bool !b)
 | _,_=>none
def bytesOf:List Value→Option (List UInt8)
 | []=>some []
 | .int .u8 n::r=>match bytesOf r with
   | some l=>some (UInt8.ofNat n.toNat::l)
   | none=>none
 | _::_=>none
def P8(l:List UInt8):List Value:=l.map fun b=>.int .u8 b.toNat
def B02(m:Mem)(s t:TypeId)(x:Value):Res :=
 match P.underlying s,P.underlying t,x with
 | some _,some (.int k),.int _ n=>some (mkI k (B0A k n),m)
 | some _,some .string,.string b=>some (.string b,m)
 | some _,some .string,.int _ n=>some (.string (Utf8.encode n),m)
 | some _,some (.slice e),.string b=>match P.underlying e with
   | some (.int .u8)=>match G7 P e with
     | some 1=>T4 (P8 b.data.toList) fun cs=>u9 m (.cells cs e false) fun i=>.slice (some ⟨i,0,none⟩) b.size N3
     | _=>none
   | _=>none
 | some (.slice e),some .string,.slice none _ _=>match P.underlying e with
   | some (.int .u8)=>some (.string ByteArray.empty,m)
   | _=>none
 | some (.slice e),some .string,.slice (some a) n _=>match P.underlying e with
   | some (.int .u8)=>match A0K m a n with
     | some cs=>match bytesOf cs with
       | some l=>some (.string ⟨⟨l⟩⟩,m)
       | none=>none
     | none=>none
   | _=>none
 | _,_,_=>none
def A9G(place:Nat→Option (Nat×Nat))(cells:List Value):List (Nat×Value)→Option (List Value)
 | []=>some cells
 | (i,v)::rest=>match place i with
   | none=>none
   | some (off,size) =>
     bif (Nat.beq v.cells.size size && !(A3X v)) && Nat.ble (off+v.cells.size) cells.length then T4 (A1B cells off v.cells.toList) fun cs=>A9G place cs rest else none
def A6U:List Field→Option (List (Nat×Nat))
 | []=>some []
 | f::r=>match G7 P f.type,A6U r with
   | some n,some l=>some ((f.offset,n)::l)
   | _,_=>none
def B28(z:List Value):Nat→List Value
 | 0=>[]
 | n+1=>z++B28 z n
def B1G(e:TypeId)(n:Nat):Option (List Value) :=
 match G7 P e with
 | some s=>bif Nat.beq (n*s) 0 then some []else match A2t P e with
   | some z=>bif Nat.beq z.cells.size s then some (B28 z.cells.toList n)else none
   | none=>none
 | none=>none
def B5N(t:TypeId)(parts:List (Nat×Value)):Option Value :=
 match A2t P t,P.underlying t with
 | some z,some (.struct fs)=>match A6U P fs.toList with
   | some ps=>match A9G (ps[·]?) z.cells.toList parts with
     | some cs=>some (.agg ⟨cs⟩)
     | none=>none
   | none=>none
 | some z,some (.array _ e)=>match G7 P e with
   | some s=>match A9G (fun i=>some (i*s,s)) z.cells.toList parts with
     | some cs=>some (.agg ⟨cs⟩)
     | none=>none
   | none=>none
 | _,_=>none
def A1J(m:Mem)(t:TypeId)(n:Nat)(parts:List (Nat×Value)):Res :=
 match P.underlying t with
 | some (.slice e)=>match G7 P e,B1G P e n with
   | some s,some zs=>bif Nat.ble (n*s) 16777216 && Nat.blt n N3 then match A9G (fun i=>some (i*s,s)) zs parts with
     | some cs=>u9 m (.cells cs e false) fun i=>.slice (some ⟨i,0,none⟩) n n
     | none=>none else none
   | _,_=>none
 | _=>none
def A12(m:Mem)(t:TypeId)(l c:Value):Res :=
 match P.underlying t,l,c with
 | some (.slice e),.int _ (.ofNat l),.int _ (.ofNat c)=>match P.info? e with
   | some i=>bif Nat.ble l c && Nat.ble c 10000000 && Nat.ble (c*i.bytes) 100000000 then match B1G P e c with
     | some zs=>T4 zs fun zs=>u9 m (.cells zs e false) fun k=>.slice (some ⟨k,0,none⟩) l c
     | none=>none else none
   | none=>none
 | _,_,_=>none
def A0t(a:Addr)(n:Nat):Addr:=K1 (a.off+n) fun o=>⟨a.block,o,none⟩
def A1G(s:TypeId)(x:Value)(i:Nat):Option Value :=
 match P.underlying s,x with
 | some (.struct fs),.pointer (some a)=>match fs.toList[i]?,a.spot with
   | some f,none=>match G7 P f.type with
     | some (_+1)=>some (.pointer (some (A0t a f.offset)))
     | _=>none
   | _,_=>none
 | _,_=>none
def B13(t:TypeId)(x:Value)(i:Nat):Option Value :=
 match P.underlying t,x with
 | some (.struct fs),.agg cs=>match fs.toList[i]? with
   | some f=>A6V P f.type cs.toList f.offset
   | none=>none
 | _,_=>none
def Z7(t:TypeId)(x i:Value):Option Value :=
 match P.underlying t,x,i with
 | some (.array n e),.pointer (some a),.int _ (.ofNat k)=>match G7 P e,a.spot with
   | some s,none=>bif Nat.blt k n then some (.pointer (some (A0t a (k*s))))else none
   | _,_=>none
 | some (.slice e),.slice (some a) n _,.int _ (.ofNat k)=>match G7 P e,a.spot with
   | some s,none=>bif Nat.blt k n then some (.pointer (some (A0t a (k*s))))else none
   | _,_=>none
 | _,_,_=>none
def A4M(t:TypeId)(x i:Value):Option Value :=
 match P.underlying t,x,i with
 | some (.array n e),.agg cs,.int _ (.ofNat k)=>match G7 P e with
   | some s=>bif Nat.blt k n then A6V P e cs.toList (k*s)else none
   | none=>none
 | some .string,.string s,.int _ (.ofNat k)=>match s.data.toList[k]? with
   | some b=>some (.int .u8 b.toNat)
   | none=>none
 | _,_,_=>none
def V8(v:Option Value)(H3 dflt:Nat):Option Nat :=
 match v with
 | none=>some dflt
 | some (.int _ (.ofNat k))=>bif Nat.ble k H3 then some k else none
 | some _=>none
def A1P(t:TypeId)(x:Value)(lo hi mx:Option Value):Option Value :=
 match P.underlying t,x with
 | some .string,.string s =>
   match mx,V8 hi s.size s.size with
   | none,some h=>match V8 lo h 0 with
     | some l=>some (.string ⟨⟨(s.data.toList.drop l).take (h-l)⟩⟩)
     | none=>none
   | _,_=>none
 | some (.slice e),.slice none n c =>
   match n,c,V8 mx 0 0,V8 hi 0 0,V8 lo 0 0 with
   | 0,0,some _,some _,some _=>bif (mx.isSome && hi.isNone) || (G7 P e).isNone then none else some (.slice none 0 0)
   | _,_,_,_,_=>none
 | some (.slice e),.slice (some a) n c =>
   match G7 P e,a.spot with
   | some s,none =>
     bif Nat.blt c N3 then
      match V8 mx c c with
      | some m=>match (match hi,mx with|none,some _=>none|hi,_=>V8 hi m n)with
        | some h=>match V8 lo h 0 with
          | some l=>some (.slice (some (bif Nat.beq m l then a else A0t a (l*s))) (h-l) (m-l))
          | none=>none
        | none=>none
      | none=>none
     else
      match mx with
      | some _=>match hi,V8 mx n n with
        | some _,some m=>bif Nat.blt m N3 && Nat.ble c (N3+1)then match V8 hi m n with
          | some h=>match V8 lo h 0 with
            | some l=>some (.slice (some (bif Nat.beq m l then a else A0t a (l*s))) (h-l) (m-l))
            | none=>none
          | none=>none else none
        | _,_=>none
      | none=>match V8 hi n n with
        | some h=>match V8 lo h 0 with
          | some 0=>some (.slice (some a) h c)
          | some (l+1)=>let l:=l+1
            bif Nat.blt l n then some (.slice (some (A0t a (l*s))) (h-l) (N3+1))else some (.slice (some a) 0 (N3+2))
          | none=>none
        | none=>none
   | _,_=>none
 | some (.array n e),.pointer (some a) =>
   match G7 P e,a.spot,mx with
   | some s,none,none=>match V8 hi n n with
     | some h=>match V8 lo h 0 with
       | some l=>bif Nat.blt n N3 then some (.slice (some (bif Nat.beq n l then a else A0t a (l*s))) (h-l) (n-l))else none
       | none=>none
     | none=>none
   | _,_,_=>none
 | _,_=>none
def A11(m:Mem)(s:Nat)(y:Value):Option (Nat×List Value) :=
 match y with
 | .slice none n _=>bif Nat.beq n 0 then some (0,[])else none
 | .slice (some a) n _=>match A0K m a (n*s)with
   | some cs=>some (n,cs)
   | none=>none
 | .string b=>bif Nat.beq s 1 then some (b.size,P8 b.data.toList)else none
 | _=>none
def A1U:TypeDesc→Bool
 | .slice _|.string=>true
 | _=>false
def A6u(m:Mem)(t t2:TypeId)(x y:Value):Res :=
 match P.underlying t,P.underlying t2 with
 | some (.slice e),some d2 =>
   bif !(A1U d2)then none else
   match P.info? e,x with
   | some i,.slice a n c=>match A11 m i.size y,A2t P e with
     | some (k,new),some z =>
       bif Nat.ble ((3*(n+k)+4000)*i.bytes) 281474976710656 && Nat.ble (n+k) 1000000000 && Nat.beq z.cells.size i.size && new.all flat then
       bif Nat.beq k 0 then(match a with|none=>bif Nat.beq n 0 && Nat.beq c 0 then some (x,m)else none|some _=>bif Nat.ble c (N3+1) && Nat.ble n c then some (x,m)else none)else
       match a with
       | none=>bif Nat.beq n 0 && Nat.beq c 0 then T4 new fun cs=>u9 m (.cells cs e false) fun b=>.slice (some ⟨b,0,none⟩) k N3 else none
       | some ad =>
         bif Nat.blt c N3 then
          bif Nat.ble (n+k) c then
           match ad.spot,A5P m (A0t ad (n*i.size)) new with
           | none,some m'=>some (.slice a (n+k) c,m')
           | _,_=>none
          else match A0K m ad (n*i.size)with
           | some old=>T4 (old++new) fun cs=>u9 m (.cells cs e false) fun b=>.slice (some ⟨b,0,none⟩) (n+k) N3
           | none=>none
         else bif Nat.beq c N3 && Nat.beq ad.off 0 then
          match ad.spot,Hp.get m.H ad.block with
          | none,some (.cells cs T false) =>
            bif Nat.beq cs.length (n*i.size) && Nat.beq T e && Nat.ble ad.block H3 && Nat.blt ad.block m.n then
             T4 (cs++new) fun cs=>u9 (A3o m ad.block) (.cells cs e false) fun b=>.slice (some ⟨b,0,none⟩) (n+k) N3
            else none
          | _,_=>none
         else none
       else none
     | _,_=>none
   | _,_=>none
 | _,_=>none
def B33(m:Mem)(t:TypeId)(x y:Value):Res :=
 match P.underlying t,x with
 | some (.slice e),.slice a n c=>match G7 P e with
   | some s =>
     match (match y with
      | .slice none k _=>bif Nat.beq k 0 then some (0,[])else none
      | .slice (some b) k _=>match A0K m b (Nat.min k n*s)with
        | some cs=>some (Nat.min k n,cs)
        | none=>none
      | .string b=>some (Nat.min b.size n,P8 (b.data.toList.take (Nat.min b.size n)))
      | _=>none:Option (Nat×List Value))with
     | some (k,cs)=>match a with
       | none=>bif Nat.beq k 0 then some (.int .i64 0,m)else none
       | some ad=>bif Nat.beq cs.length 0 then some (.int .i64 k,m)else bif Nat.ble c (N3+1)then match A5P m ad cs with
         | some m'=>some (.int .i64 k,m')
         | none=>none else none
     | none=>none
   | none=>none
 | _,_=>none
def B9T(m:Mem)(t:TypeId)(x:Value):Option Value :=
 match P.underlying t,x with
 | some .string,.string s=>some (.int .i64 s.data.toList.length)
 | some (.array n _),_=>some (.int .i64 n)
 | some (.slice _),.slice _ n _=>some (.int .i64 n)
 | some (.map _ _),.map none=>some (.int .i64 0)
 | some (.map _ _),.map (some r)=>match Hp.get m.H r with
   | some (.map es _)=>some (.int .i64 es.length)
   | _=>none
 | _,_=>none
def C57(t:TypeId)(x:Value):Option Value :=
 match P.underlying t,x with
 | some (.slice _),.slice none _ c=>some (.int .i64 c)
 | some (.slice _),.slice (some a) n c=>bif Nat.blt c N3 then some (.int .i64 c)else none
 | _,_=>none
def C5g:List Value→Option Value
 | [.int k a,.int _ b]=>some (.int k (if b>a then b else a))
 | [.int k a,.int _ b,.int _ c]=>A9D (if b>a then b else a) fun d=>some (.int k (if c>d then c else d))
 | _=>none
def C5f:List Value→Option Value
 | [.int k a,.int _ b]=>some (.int k (if b<a then b else a))
 | [.int k a,.int _ b,.int _ c]=>A9D (if b<a then b else a) fun d=>some (.int k (if c<d then c else d))
 | _=>none
def noM(v:Option Value)(m:Mem):Res :=
 match v with
 | some v=>some (v,m)
 | none=>none
def C1u(m:Option Mem):Res :=
 match m with
 | some m=>some (undef,m)
 | none=>none
def B5u(m:Mem)(c a b:Value):Res :=
 match c with
 | .bool true=>some (a,m)
 | .bool false=>some (b,m)
 | _=>none
def B1i(m:Mem)(e:TypeId):Res :=
 match A2t P e with
 | some z=>u9 m (.cells z.cells.toList e false) fun b=>.pointer (some ⟨b,0,none⟩)
 | none=>none
def B9A(m:Mem)(e:TypeId)(v:Value):Res :=
 bif v.cells.toList.all flat then u9 m (.cells v.cells.toList e false) fun b=>.pointer (some ⟨b,0,none⟩)else none
def B5v(m:Mem)(t:TypeId)(v:Value):Res :=
 match v with
 | .pointer (some a)=>noM (B59 P m t a) m
 | _=>none
def B1g(m:Mem)(t:TypeId)(x v:Value):Res :=
 match x with
 | .pointer (some a)=>C1u (A8W P m t a v)
 | _=>none
def B8_(m:Mem)(x:Value):Res :=
 match x with
 | .pointer (some a)=>some (.pointer (some a),m)
 | .func (.func f) a b=>some (.func (.func f) a b,m)
 | _=>none
def A8_:BinOp→Bool
 | .eql|.neq=>true
 | _=>false
def C1m(m:Mem)(op:BinOp)(t:TypeId)(x y:Operand)(a b:Value):Res :=
 bif A8_ op then(bif A4O P t x y a b then noM (A6s P op t a b) m else none)else noM (A6s P op t a b) m
def B1h(m:Mem)(t:TypeId)(v:Value):Res :=
 match P.underlying t with
 | some d=>(match d with|.interface _=>none|_=>bif flat v || (match v with|.agg _=>true|_=>false)then some (.iface t v,m)else none)
 | none=>none
def A4C(m:Mem)(v:Value)(i:Nat):Res :=
 match v with
 | .tuple vs=>noM vs.toList[i]? m
 | _=>none
def A3N(m:Mem)(x:Value):Res :=
 match x with
 | .slice none _ _=>some (.pointer none,m)
 | .slice (some a) n c=>bif Nat.beq n 0 || Nat.beq c 0 || Nat.beq c (N3+2)then none else some (.pointer (some a),m)
 | _=>none
def A1s(m:Mem)(pt:TypeId)(p l:Value):Res :=
 match p,l with
 | .pointer none,.int _ (.ofNat 0)=>some (.string ByteArray.empty,m)
 | .pointer (some a),.int _ (.ofNat n) =>
   match a.spot,Hp.get m.H a.block with
   | none,some (.cells cs T false)=>match P.underlying pt,G7 P T with
     | some (.pointer e),some 1=>bif Nat.blt 0 n && Nat.ble n 1000000000 && Nat.beq e T then match B95 cs a.off n with
       | some l=>match bytesOf l,A2m m a.block (.cells cs T true)with
         | some l,some m'=>some (.string ⟨⟨l⟩⟩,m')
         | _,_=>none
       | none=>none else none
     | _,_=>none
   | _,_=>none
 | _,_=>none
def A3A(m:Mem)(b:Builtin)(vs:List Value)(tys:List TypeId):Res :=
 match b,vs,tys with
 | .len,[x],t::_=>noM (B9T P m t x) m
 | .cap,[x],t::_=>noM (C57 P t x) m
 | .append,[x,y],t::t2::_=>A6u P m t t2 x y
 | .copy,[x,y],t::_=>B33 P m t x y
 | .max,vs,_=>noM (C5g vs) m
 | .min,vs,_=>noM (C5f vs) m
 | .unsafeSliceData,[x],_=>A3N m x
 | .unsafeString,[p,l],t::_=>A1s P m t p l
 | _,_,_=>none
def opM(fr:Fr)(m:Mem)(o:Op):Res :=
 match o with
 | .move x|.assign x=>some (ev fr x,m)
 | .pick c a b=>B5u m (ev fr c) (ev fr a) (ev fr b)
 | .alloc e=>B1i P m e
 | .box e x=>B9A m e (ev fr x)
 | .build t ps=>noM (B5N P t (evP fr ps.toList)) m
 | .buildSlice t n ps=>A1J P m t n (evP fr ps.toList)
 | .load t x=>B5v P m t (ev fr x)
 | .store t x y=>B1g P m t (ev fr x) (ev fr y)
 | .nilCheck x=>B8_ m (ev fr x)
 | .binOp op t x y _=>C1m P m op t x y (ev fr x) (ev fr y)
 | .unOp op _ x=>noM (unM op (ev fr x)) m
 | .convert s t x=>B02 P m s t (ev fr x)
 | .makeInterface t x=>B1h P m t (ev fr x)
 | .makeFunc (.func f) first cap=>some (.func (.func f) ⟨evL fr first.toList⟩ ⟨evL fr cap.toList⟩,m)
 | .makeSlice t l c=>A12 P m t (ev fr l) (ev fr c)
 | .slice t x lo hi mx=>noM (A1P P t (ev fr x) (evO fr lo) (evO fr hi) (evO fr mx)) m
 | .fieldAddr s x i=>noM (A1G P s (ev fr x) i) m
 | .field t x i=>noM (B13 P t (ev fr x) i) m
 | .indexAddr t x i=>noM (Z7 P t (ev fr x) (ev fr i)) m
 | .index t x i=>noM (A4M P t (ev fr x) (ev fr i)) m
 | .extract x i=>A4C m (ev fr x) i
 | .call ⟨.builtin b,xs,tys⟩=>A3A P m b (evL fr xs.toList) tys.toList
 | _=>none
structure OpC where
 run:Fr→Mem→Res
def B9Z(x:XC)(fr:Fr)(m:Mem):Res:=some (x.run fr,m)
def C34(c a b:XC)(fr:Fr)(m:Mem):Res:=B5u m (c.run fr) (a.run fr) (b.run fr)
def C6o(e:TypeId)(x:XC)(fr:Fr)(m:Mem):Res:=B9A m e (x.run fr)
def C35(t:TypeId)(x:XC)(fr:Fr)(m:Mem):Res:=B5v P m t (x.run fr)
def B9Y(t:TypeId)(x y:XC)(fr:Fr)(m:Mem):Res:=B1g P m t (x.run fr) (y.run fr)
def C6m(x:XC)(fr:Fr)(m:Mem):Res:=B8_ m (x.run fr)
def C6p(op:BinOp)(t:TypeId)(x y:Operand)(cx cy:XC)(fr:Fr)(m:Mem):Res:=C1m P m op t x y (cx.run fr) (cy.run fr)
def kUn(op:UnOp)(x:XC)(fr:Fr)(m:Mem):Res:=noM (unM op (x.run fr)) m
def C36(s t:TypeId)(x:XC)(fr:Fr)(m:Mem):Res:=B02 P m s t (x.run fr)
def A86(s:TypeId)(x:XC)(i:Nat)(fr:Fr)(m:Mem):Res:=noM (A1G P s (x.run fr) i) m
def B9b(s:TypeId)(x:XC)(i:Nat)(fr:Fr)(m:Mem):Res:=noM (B13 P s (x.run fr) i) m
def A85(t:TypeId)(x i:XC)(fr:Fr)(m:Mem):Res:=noM (Z7 P t (x.run fr) (i.run fr)) m
def B9a(t:TypeId)(x i:XC)(fr:Fr)(m:Mem):Res:=noM (A4M P t (x.run fr) (i.run fr)) m
def B3g(x:XC)(i:Nat)(fr:Fr)(m:Mem):Res:=A4C m (x.run fr) i
def B3h(b:Builtin)(xs:LC)(tys:List TypeId)(fr:Fr)(m:Mem):Res:=A3A P m b (xs.run fr) tys
def A9Q(o:Op):OpC :=
 match o with
 | .move x=>⟨B9Z (U5 x)⟩
 | .assign x=>⟨B9Z (U5 x)⟩
 | .pick c a b=>⟨C34 (U5 c) (U5 a) (U5 b)⟩
 | .box e x=>⟨C6o e (U5 x)⟩
 | .load t x=>⟨C35 P t (U5 x)⟩
 | .store t x y=>⟨B9Y P t (U5 x) (U5 y)⟩
 | .nilCheck x=>⟨C6m (U5 x)⟩
 | .binOp op t x y _=>⟨C6p P op t x y (U5 x) (U5 y)⟩
 | .unOp op _ x=>⟨kUn op (U5 x)⟩
 | .convert s t x=>⟨C36 P s t (U5 x)⟩
 | .fieldAddr s x i=>⟨A86 P s (U5 x) i⟩
 | .field t x i=>⟨B9b P t (U5 x) i⟩
 | .indexAddr t x i=>⟨A85 P t (U5 x) (U5 i)⟩
 | .index t x i=>⟨B9a P t (U5 x) (U5 i)⟩
 | .extract x i=>⟨B3g (U5 x) i⟩
 | .call ⟨.builtin b,xs,tys⟩=>⟨B3h P b (A7p xs.toList) tys.toList⟩
 | o=>⟨fun fr m=>opM P fr m o⟩
theorem A9P(o:Op)(fr:Fr)(m:Mem):(A9Q P o).run fr m=opM P fr m o:=by
 unfold A9Q;split<;>simp only[B9Z,C34,C6o,C35,B9Y,C6m,C6p,kUn,C36,A86,B9b,A85,B9a,B3g,B3h,opM,A1o,A47]
def B40(nt gl:Nat)(o:Op):Bool:=o.operands.toList.all (okX nt gl)
end Go.Sx
namespace Go.Sx
set_option linter.all false
set_option linter.unusedVariables false
open Go
def C6q:BinOp→Bool
 | .eql|.neq|.lss|.leq|.gtr|.geq=>true
 | _=>false
def A5R(P:Program)(m:Mem)(op:BinOp)(t:TypeId)(a b:Value):Res :=
 let ta:=G4 a
 let tb:=G4 b
 bif (Nat.blt ta 8 && Nat.blt tb 8) || (Nat.beq ta 9 && Nat.beq tb 9)then Z6 m (bif C6q op then 8 else ta) (.bin op) [a,b]else
 bif Nat.beq ta 8 && Nat.beq tb 8 && A8_ op && (match P.underlying t with|some .bool=>true|_=>false)then Z6 m 8 (.bin op) [a,b]else none
def A16(P:Program)(t:TypeId)(x y:Value):Bool :=
 match P.underlying t with
 | some .bool=>Nat.beq (G4 x) 8 && Nat.beq (G4 y) 8
 | some (.int k)=>Nat.beq (G4 x) (A5D k) && Nat.beq (G4 y) (A5D k)
 | some .string=>Nat.beq (G4 x) 9 && Nat.beq (G4 y) 9
 | _=>false
mutual
def eqS(P:Program):Nat→TypeId→Value→Value→Option (List Value)
 | 0,_,_,_=>none
 | d+1,t,x,y=>bif A16 P t x y then some [x,y]else
   match P.underlying t,x,y with
   | some (.struct fs),.agg xs,.agg ys=>bif P.stoodInHeld t then none else A9J P d fs.toList xs.toList ys.toList
   | some (.array n e),.agg xs,.agg ys=>match G7 P e with
     | some s=>A9J P d ((List.range n).map (C2Y e s)) xs.toList ys.toList
     | none=>none
   | _,_,_=>none
def A9J(P:Program):Nat→List Field→List Value→List Value→Option (List Value)
 | 0,_,_,_=>none
 | _+1,[],_,_=>some []
 | d+1,f::fs,xs,ys =>
   bif f.name == "_" then none else
   match A6V P f.type xs f.offset,A6V P f.type ys f.offset with
   | some x,some y=>match eqS P d f.type x y,A9J P d fs xs ys with
     | some a,some b=>some (a++b)
     | _,_=>none
   | _,_=>none
end
def B2s(P:Program)(m:Mem)(op:BinOp)(t:TypeId)(x y:Operand)(a b:Value):Res :=
 bif A4O P t x y a b then
  match op,eqS P 20 t a b with
  | .eql,some l=>Z6 m 8 .eqs l
  | .neq,some l=>match Z6 m 8 .eqs l with
    | some (h,m)=>Z6 m 8 (.un .not) [h]
    | none=>none
  | _,_=>none
 else none
def x4(t:Nat):List Value→Bool
 | []=>true
 | v::r=>Nat.beq (G4 v) t && x4 t r
def x3.sizeD(P:Program)(e:TypeId):Nat:=match G7 P e with|some n=>n|none=>0
def x3(P:Program)(m:Mem)(t:TypeId)(x i:Value):Res :=
 bif !(Nat.blt (G4 i) 8)then none else
 match P.underlying t with
 | some .string=>bif Nat.beq (G4 x) 9 then Z6 m 4 .idx [x,i]else none
 | some (.array n e)=>match x,P.underlying e with
   | .agg cs,some (.int k)=>bif Nat.beq (cs.toList.length) n && x4 (A5D k) cs.toList && Nat.beq (x3.sizeD P e) 1 then Z6 m (A5D k) .sel (i::cs.toList)else none
   | .agg cs,some .string=>bif Nat.beq (cs.toList.length) n && x4 9 cs.toList && Nat.beq (x3.sizeD P e) 1 then Z6 m 9 .sel (i::cs.toList)else none
   | _,_=>none
 | _=>none
def A31(P:Program)(m:Mem)(t:TypeId)(x:Value)(lo hi mx:Option Value):Res :=
 match P.underlying t,mx with
 | some .string,none=>bif Nat.beq (G4 x) 9 then
    match lo,hi with
    | none,none=>some (x,m)
    | some l,none=>bif Nat.blt (G4 l) 8 then Z6 m 9 .sub1 [x,l]else none
    | none,some h=>bif Nat.blt (G4 h) 8 then Z6 m 9 .sub [x,.int .i64 0,h]else none
    | some l,some h=>bif Nat.blt (G4 l) 8 && Nat.blt (G4 h) 8 then Z6 m 9 .sub [x,l,h]else none
   else none
 | _,_=>none
def B2n(m:Mem)(op:UnOp)(x:Value):Res :=
 let t:=G4 x
 match op with
 | .not=>bif Nat.beq t 8 then Z6 m 8 (.un .not) [x]else none
 | op=>bif Nat.blt t 8 then Z6 m t (.un op) [x]else none
def A6J(P:Program)(m:Mem)(s t:TypeId)(x:Value):Res :=
 match P.underlying s,P.underlying t with
 | some (.int _),some (.int k)=>bif Nat.blt (G4 x) 8 then Z6 m (A5D k) (.conv k) [x]else none
 | some .string,some .string=>bif Nat.beq (G4 x) 9 then some (x,m)else none
 | _,_=>none
def A1w(P:Program)(m:Mem)(b:Builtin)(vs:List Value)(tys:List TypeId):Res :=
 match b,vs,tys with
 | .len,[x],t::_=>match P.underlying t with
   | some .string=>bif Nat.beq (G4 x) 9 then Z6 m 3 .len [x]else none
   | _=>none
 | .max,[x,y],_=>bif Nat.blt (G4 x) 8 && Nat.beq (G4 x) (G4 y)then Z6 m (G4 x) .max [x,y]else none
 | .min,[x,y],_=>bif Nat.blt (G4 x) 8 && Nat.beq (G4 x) (G4 y)then Z6 m (G4 x) .min [x,y]else none
 | _,_,_=>none
def B7U(m:Mem)(a:Addr)(s n:Nat)(i:Value):Res :=
 bif !(Nat.blt (G4 i) 8)then none else
 match Z6 m 8 .inb [i,.int .i64 (.ofNat n)]with
 | some (b,⟨H,k,W,hi,lg⟩)=>match brL lg b with
   | some (true,lg)=>some (ixp a s i n,⟨H,k,W,hi,lg⟩)
   | _=>none
 | none=>none
def A1u(P:Program)(m:Mem)(t:TypeId)(x i:Value):Res :=
 match P.underlying t,x with
 | some (.array n e),.pointer (some a)=>match G7 P e,a.spot with
   | some s,none=>B7U m a s n i
   | _,_=>none
 | some (.slice e),.slice (some a) n c=>match G7 P e,a.spot with
   | some s,none=>bif Nat.beq c (N3+2)then none else B7U m a s n i
   | _,_=>none
 | _,_=>none
def A1v(P:Program)(m:Mem)(s:TypeId)(x:Value)(i:Nat):Res :=
 match x with
 | .func (.yield 1) ⟨[.pointer (some a),.int .i64 (.ofNat k),j,.int .i64 (.ofNat n)]⟩ ⟨[]⟩=>match P.underlying s with
   | some (.struct fs)=>match fs.toList[i]?,a.spot with
     | some f,none=>match G7 P f.type with
       | some (_+1)=>some (ixp (A0t a f.offset) k j n,m)
       | _=>none
     | _,_=>none
   | _=>none
 | _=>none
def A78(cs:List Value)(s o:Nat):Nat→Option (List Value)
 | 0=>some []
 | n+1=>match cs[o]?,A78 cs s (o+s) n with
   | some v,some r=>some (v::r)
   | _,_=>none
def A09(m:Mem)(cs:List Value)(s n:Nat)(i:Value):Nat→Nat→Option (List Value×Mem)
 | _,0=>some ([],m)
 | o,k+1=>match A78 cs s o n with
   | some (v::l)=>bif x4 (G4 v) (v::l) && Nat.blt (G4 v) 10 then match Z6 m (G4 v) .sel (i::v::l)with
     | some (h,m)=>match A09 m cs s n i (o+1) k with
       | some (r,m)=>some (h::r,m)
       | none=>none
     | none=>none else none
   | _=>none
def A6I(P:Program)(m:Mem)(t:TypeId)(x:Value):Res :=
 match x with
 | .func (.yield 1) ⟨[.pointer (some a),.int .i64 (.ofNat s),i,.int .i64 (.ofNat n)]⟩ ⟨[]⟩ =>
   match A0w P t,G7 P t with
   | some false,_=>match A0K m a ((n-1)*s+1)with
     | some cs=>match A09 m cs s n i 0 1 with
       | some ([h],m)=>some (h,m)
       | _=>none
     | none=>none
   | some true,some z=>match A0K m a ((n-1)*s+z)with
     | some cs=>match A09 m cs s n i 0 z with
       | some (hs,m)=>some (.agg ⟨hs⟩,m)
       | none=>none
     | none=>none
   | _,_=>none
 | _=>none
def A77(m:Mem)(c a b:Value):Res :=
 match m with
 | ⟨H,n,W,hi,lg⟩=>match brL lg c with
   | some (true,lg)=>some (a,⟨H,n,W,hi,lg⟩)
   | some (false,lg)=>some (b,⟨H,n,W,hi,lg⟩)
   | none=>none
def B8T(P:Program)(fr:Fr)(m:Mem)(o:Op):Res :=
 match o with
 | .pick c a b=>A77 m (ev fr c) (ev fr a) (ev fr b)
 | .binOp op t x y _=>match A5R P m op t (ev fr x) (ev fr y)with
   | some r=>some r
   | none=>B2s P m op t x y (ev fr x) (ev fr y)
 | .unOp op _ x=>B2n m op (ev fr x)
 | .convert s t x=>A6J P m s t (ev fr x)
 | .slice t x lo hi mx=>A31 P m t (ev fr x) (evO fr lo) (evO fr hi) (evO fr mx)
 | .index t x i=>x3 P m t (ev fr x) (ev fr i)
 | .indexAddr t x i=>A1u P m t (ev fr x) (ev fr i)
 | .fieldAddr s x i=>A1v P m s (ev fr x) i
 | .load t x=>A6I P m t (ev fr x)
 | .call ⟨.builtin b,xs,tys⟩=>A1w P m b (evL fr xs.toList) tys.toList
 | _=>none
def A5m(m:Mem)(b:Nat):Bool :=
 match Hp.get m.H b with
 | some .frz=>Nat.ble b H3
 | _=>false
def B4w{α:Type}(l:List α):Nat→List α
 | 0=>[]
 | n+1=>l++B4w l n
mutual
def B8Q(P:Program):Nat→TypeId→Option (List Nat)
 | 0,_=>none
 | d+1,t=>match P.underlying t with
   | some .bool=>some [8]
   | some (.int k)=>some [A5D k]
   | some .string=>some [9]
   | some (.slice e)=>match G7 P e with
     | some w=>some [10+w]
     | none=>none
   | some (.struct fs)=>C3J P d fs.toList
   | some (.array n e)=>match B8Q P d e with
     | some l=>some (B4w l n)
     | none=>none
   | _=>none
def C3J(P:Program):Nat→List Field→Option (List Nat)
 | 0,_=>none
 | _+1,[]=>some []
 | d+1,f::fs=>match B8Q P d f.type,C3J P d fs with
   | some a,some b=>some (a++b)
   | _,_=>none
end
def A5Q(P:Program)(t:TypeId):Option (List Nat) :=
 match B8Q P 30 t,G7 P t with
 | some l,some n=>bif Nat.beq l.length n then some l else none
 | _,_=>none
def Z9.letDo(t:Nat)(op:LOp)(xs:List Value)(m:Mem)(k:Nat→Mem→Option (List Value×Mem)):Option (List Value×Mem) :=
 match m with
 | ⟨H,n,W,hi,⟨nx,pi,log⟩⟩=>K1 nx fun nx=>K1 t fun t=>T4 xs fun xs=>k nx ⟨H,n,W,hi,⟨Nat.succ nx,pi,.dt nx t op xs::log⟩⟩
def Z9(w o i t:Nat)(z:Value)(g:Nat):List Nat→Nat→Mem→Option (List Value×Mem)
 | [],_,m=>some ([],m)
 | tg::ts,j,m=>bif Nat.blt tg 10 then
    match Z6 m tg (.get w (o+j)) [hole i t,z]with
    | some (h,m)=>match Z9 w o i t z g ts (j+1) m with
      | some (r,m)=>some (h::r,m)
      | none=>none
    | none=>none
   else Z9.letDo tg (.get w (o+j)) [hole i t,z] m fun nx m=>match Z9 w o i t z g ts (j+1) m with
     | some (r,m)=>some (dat g nx tg::r,m)
     | none=>none
def A4Z(P:Program)(t:TypeId)(r:Option (List Value×Mem)):Res :=
 match A0w P t,r with
 | some false,some ([v],m)=>some (v,m)
 | some true,some (vs,m)=>some (.agg ⟨vs⟩,m)
 | _,_=>none
def B3X(P:Program)(m:Mem)(t:TypeId)(x:Value):Res :=
 match x,A5Q P t with
 | .func (.yield 5) ⟨[.pointer (some ⟨b,0,none⟩),.complex .f64 i tg,z,.int .i64 (.ofNat o)]⟩ ⟨[]⟩,some ts =>
   bif A5m m b then A4Z P t (Z9 (tg-10) o i tg z b ts 0 m)else none
 | .func (.yield 6) ⟨[.pointer (some ⟨b,0,none⟩),.complex .f64 i tg,z,.int .i64 (.ofNat o)]⟩ ⟨[]⟩,some ts =>
   match Hp.get m.H b with
   | some (.sq c tc T g ro)=>bif Nat.beq tc tg then A4Z P t (Z9 (tg-10) o c tg z g ts 0 m)else none
   | _=>none
 | _,_=>none
def B3l(m:Mem)(i t:Nat)(z:Value)(k:Value):Res :=
 bif !(Nat.blt (G4 z) 8)then none else
 match Z6 m 8 (.inbs (t-10)) [z,hole i t]with
 | some (b,⟨H,n,W,hi,lg⟩)=>match brL lg b with
   | some (true,lg)=>some (k,⟨H,n,W,hi,lg⟩)
   | _=>none
 | none=>none
def A4N(P:Program)(m:Mem)(t:TypeId)(x z:Value):Res :=
 match P.underlying t,x with
 | some (.slice e),.func (.yield 4) ⟨[.pointer (some ⟨b,0,none⟩),.complex .f64 i tg]⟩ ⟨[]⟩=>match G7 P e with
   | some (s+1)=>bif Nat.beq tg (10+(s+1))then B3l m i tg z (opt b i tg z 0)else none
   | _=>none
 | some (.slice e),.func (.yield 2) ⟨[.pointer (some ⟨b,0,none⟩),.complex .f64 i tg]⟩ ⟨[]⟩=>match G7 P e with
   | some (s+1)=>bif Nat.beq tg (10+(s+1))then B3l m i tg z (dpt b i tg z 0)else none
   | _=>none
 | some (.slice e),.func (.yield 3) ⟨[.pointer (some ⟨b,0,none⟩),.complex .f64 i tg]⟩ ⟨[]⟩=>match G7 P e with
   | some (s+1)=>bif Nat.beq tg (10+(s+1))then B3l m i tg z (dpt b i tg z 0)else none
   | _=>none
 | some (.array n e),.func (.yield 5) ⟨[.pointer (some ⟨b,0,none⟩),.complex .f64 i tg,y,.int .i64 (.ofNat o)]⟩ ⟨[]⟩=>match G7 P e,z with
   | some s,.int _ (.ofNat k)=>bif Nat.blt k n && Nat.blt (o+k*s) (tg-10)then some (K1 (o+k*s) fun o=>dpt b i tg y o,m)else none
   | _,_=>none
 | some (.array n e),.func (.yield 6) ⟨[.pointer (some ⟨b,0,none⟩),.complex .f64 i tg,y,.int .i64 (.ofNat o)]⟩ ⟨[]⟩=>match G7 P e,z with
   | some s,.int _ (.ofNat k)=>bif Nat.blt k n && Nat.blt (o+k*s) (tg-10)then some (K1 (o+k*s) fun o=>opt b i tg y o,m)else none
   | _,_=>none
 | _,_=>none
def A4R(P:Program)(m:Mem)(s:TypeId)(x:Value)(f:Nat):Res :=
 match P.underlying s,x with
 | some (.struct fs),.func (.yield 5) ⟨[.pointer (some ⟨b,0,none⟩),.complex .f64 i tg,y,.int .i64 (.ofNat o)]⟩ ⟨[]⟩=>match fs.toList[f]? with
   | some fd=>match G7 P fd.type with
     | some (_+1)=>bif Nat.blt (o+fd.offset) (tg-10)then some (K1 (o+fd.offset) fun o=>dpt b i tg y o,m)else none
     | _=>none
   | none=>none
 | some (.struct fs),.func (.yield 6) ⟨[.pointer (some ⟨b,0,none⟩),.complex .f64 i tg,y,.int .i64 (.ofNat o)]⟩ ⟨[]⟩=>match fs.toList[f]? with
   | some fd=>match G7 P fd.type with
     | some (_+1)=>bif Nat.blt (o+fd.offset) (tg-10)then some (K1 (o+fd.offset) fun o=>opt b i tg y o,m)else none
     | _=>none
   | none=>none
 | _,_=>none
def A6l(i:Nat):List y4→Option Nat
 | []=>none
 | .lt j t .len [.complex .f64 k _]::r=>bif Nat.beq k i && Nat.beq t 3 then some j else A6l i r
 | _::r=>A6l i r
def B3a(m:Mem)(i t:Nat):Res :=
 match A6l i m.lg.log with
 | some j=>some (hole j 3,m)
 | none=>Z6 m 3 .len [hole i t]
def C13(P:Program)(m:Mem)(t:TypeId)(x:Value):Res :=
 match P.underlying t,x with
 | some (.slice _),.func (.yield 2) ⟨[.pointer (some ⟨b,0,none⟩),.complex .f64 i tg]⟩ ⟨[]⟩=>B3a m i tg
 | some (.slice _),.func (.yield 3) ⟨[.pointer (some ⟨b,0,none⟩),.complex .f64 i tg]⟩ ⟨[]⟩=>B3a m i tg
 | some (.slice _),.func (.yield 4) ⟨[.pointer (some ⟨b,0,none⟩),.complex .f64 i tg]⟩ ⟨[]⟩=>B3a m i tg
 | _,_=>none
def A2o(m:Mem)(k:Nat→Mem→Option (Value×Nat×Mem)):Option (Value×Nat×Mem) :=
 match m with
 | ⟨H,n,W,hi,lg⟩=>bif Nat.ble n H3 then K1 n fun n=>K1 (upN hi n) fun hi=>Hp.put H n (some .frz) fun H=>k n ⟨H,Nat.succ n,W,hi,lg⟩else none
def toD(t:Nat)(v:Value)(m:Mem):Option (Value×Nat×Mem) :=
 match v with
 | .func (.yield 2) ⟨[.pointer (some ⟨b,0,none⟩),.complex .f64 i tg]⟩ ⟨[]⟩=>bif Nat.beq tg t && A5m m b then some (hole i tg,b,m)else none
 | .func (.yield 3) ⟨[.pointer (some ⟨b,0,none⟩),.complex .f64 i tg]⟩ ⟨[]⟩=>bif Nat.beq tg t && A5m m b then some (hole i tg,b,m)else none
 | .func (.yield 4) ⟨[.pointer (some ⟨b,0,none⟩),.complex .f64 i tg]⟩ ⟨[]⟩=>match Hp.get m.H b with
   | some (.sq c tc T g true)=>bif (Nat.beq tg t && Nat.beq tc t) && A5m m g then A2o m fun b' m=>some (hole c tc,b',m)else none
   | some (.sq c tc T g false)=>bif (Nat.beq tg t && Nat.beq tc t) && A5m m g then match A2m m b (.sq c tc T g true)with
     | some m=>A2o m fun b' m=>some (hole c tc,b',m)
     | none=>none else none
   | _=>none
 | .slice none 0 0=>bif Nat.ble 10 t then(match A94 m t (.nilw (t-10)) [] fun nx m=>some (hole nx t,m)with
   | some (h,m)=>A2o m fun b' m=>some (h,b',m)
   | none=>none)else none
 | _=>none
abbrev Td:=Nat→Value→Mem→Option (Value×Nat×Mem)
def A9n(td:Td):List Nat→List Value→Mem→Option (List Value×List Nat×Mem)
 | [],[],m=>some ([],[],m)
 | t::ts,v::vs,m=>bif Nat.blt t 10 then
    bif Nat.beq (G4 v) t then match A9n td ts vs m with
     | some (r,gs,m)=>some (v::r,gs,m)
     | none=>none else none
   else match td t v m with
    | some (h,b,m)=>match A9n td ts vs m with
      | some (r,gs,m)=>some (h::r,b::gs,m)
      | none=>none
    | none=>none
 | _,_,_=>none
def A3p(gs:List Nat)(m:Mem):Option (Nat×Mem) :=
 match gs with
 | [g]=>bif A5m m g then some (g,m)else none
 | gs=>bif gs.all (A5m m)then match A2o m fun b m=>some (undef,b,m)with
   | some (_,b,m)=>some (b,m)
   | none=>none else none
def B5i:Value→Value→Bool
 | .complex .f64 i _,.complex .f64 j _=>Nat.beq i j
 | .int k a,.int j b=>B0L k j && B18 a b
 | _,_=>false
def A87(v:Value):Bool:=Nat.blt (G4 v) 8
def A2g(m:Mem)(b i t:Nat)(l h:Value)(c:Bool):Res:=bif A87 l && A87 h then A94 m t (.subs (t-10)) [hole i t,l,h] fun nx m=>some (bif c then clp b nx t else dat b nx t,m)else none
def B31(m:Mem)(b i t:Nat)(cl:Bool)(l:Value)(hi mx:Option Value):Res :=
 match hi,mx with
 | some h,none=>A2g m b i t l h false
 | some h,some x=>bif B5i h x then A2g m b i t l h true else none
 | none,none=>match B3a m i t with
   | some (h,m)=>A2g m b i t l h cl
   | none=>none
 | none,some _=>none
def C6g(lo:Option Value):Value :=
 match lo with
 | some l=>l
 | none=>.int .i64 0
def B32(m:Mem)(b i t:Nat)(cl:Bool)(lo hi mx:Option Value):Res:=B31 m b i t cl (C6g lo) hi mx
def A8Y(P:Program)(m:Mem)(t:TypeId)(x:Value)(lo hi mx:Option Value):Res :=
 match P.underlying t,x with
 | some (.slice e),.func (.yield 2) ⟨[.pointer (some ⟨b,0,none⟩),.complex .f64 i tg]⟩ ⟨[]⟩=>match G7 P e with
   | some s=>bif Nat.beq tg (10+s)then B32 m b i tg false lo hi mx else none
   | none=>none
 | some (.slice e),.func (.yield 3) ⟨[.pointer (some ⟨b,0,none⟩),.complex .f64 i tg]⟩ ⟨[]⟩=>match G7 P e with
   | some s=>bif Nat.beq tg (10+s)then B32 m b i tg true lo hi mx else none
   | none=>none
 | some (.slice e),.func (.yield 4) ⟨[.pointer (some ⟨b,0,none⟩),.complex .f64 i tg]⟩ ⟨[]⟩=>match G7 P e with
   | some s=>bif Nat.beq tg (10+s)then match toD tg x m with
     | some (.complex .f64 c _,b',m)=>B32 m b' c tg false lo hi mx
     | _=>none else none
   | none=>none
 | _,_=>none
inductive Beh where
 | cells (xs:List Value)
 | rows (x:Value)
 | str (x:Value)
def A1Y(w:Nat)(c:Value):Beh→LOp×List Value
 | .cells xs=>(.snoc w,c::xs)
 | .rows x=>(.cat w,[c,x])
 | .str x=>(.cats,[c,x])
def C0N(td:Td)(P:Program)(m:Mem)(e:TypeId)(w:Nat)(y:Value):Option (Beh×List Nat×Bool×Mem) :=
 match y with
 | .slice none 0 _=>some (.cells [],[],false,m)
 | .slice (some a) n _=>match A0K m a (n*w),A5Q P e with
   | some cs,some ts=>match A9n td (B4w ts n) cs m with
     | some (xs,gs,m)=>some (.cells xs,gs,Nat.blt 0 n,m)
     | none=>none
   | _,_=>none
 | .func _ _ _=>match td (10+w) y m with
   | some (x,b,m)=>some (.rows x,[b],false,m)
   | none=>none
 | y=>bif Nat.beq (G4 y) 9 && Nat.beq w 1 then some (.str y,[],false,m)else none
def B1B(td:Td)(P:Program)(m:Mem)(e:TypeId)(w:Nat)(x:Value):Option (Nat×List Nat×Option Nat×Mem) :=
 match x with
 | .slice none 0 0=>match A94 m (10+w) (.nilw w) [] fun nx m=>some (hole nx (10+w),m)with
   | some (.complex .f64 c _,m)=>some (c,[],none,m)
   | _=>none
 | .func (.yield 4) ⟨[.pointer (some ⟨b,0,none⟩),.complex .f64 i tg]⟩ ⟨[]⟩=>match Hp.get m.H b with
   | some (.sq c tc T g false)=>bif (Nat.beq tg (10+w) && Nat.beq tc tg) && (Nat.beq T e && Nat.ble b H3)then some (c,[g],some b,m)else none
   | _=>none
 | .slice (some ⟨b,0,none⟩) n c=>match Hp.get m.H b,A5Q P e with
   | some (.cells cs _ _),some ts=>bif Nat.beq cs.length (n*w) && (Nat.beq c n && Nat.blt c N3 || Nat.beq c N3)then match A9n td (B4w ts n) cs m with
     | some (xs,gs,m)=>match Hp.get m.H b with
       | some (.cells _ T false)=>bif Nat.beq T e && Nat.ble b H3 then match A94 m (10+w) (.mk w) xs fun nx m=>some (hole nx (10+w),m)with
         | some (.complex .f64 c _,m)=>some (c,gs,some b,m)
         | _=>none else none
       | _=>none
     | none=>none else none
   | _,_=>none
 | _=>none
def A0j(m:Mem)(c t:Nat)(T:TypeId)(g:Nat):Res:=u9 m (.sq c t T g false) fun b=>own b c t
def B7s(P:Program)(e:TypeId)(n:Nat):Bool :=
 match A2t P e with
 | some z=>Nat.beq z.cells.size n
 | none=>false
def A3n(old:Option Nat)(m:Mem):Mem :=
 match old with
 | some b=>A3o m b
 | none=>m
def B7O(td:Td)(P:Program)(m:Mem)(e:TypeId)(w:Nat)(x:Value):Res :=
 match P.info? e with
 | some inf=>bif Nat.beq inf.size w && Nat.blt 0 w then match B1B td P m e w x with
   | some (c,gs,old,m)=>match A3p gs m with
     | some (g,m)=>A0j (A3n old m) c (10+w) e g
     | none=>none
   | none=>none else none
 | none=>none
def B8M(P:Program):Nat→Td
 | 0=>toD
 | d+1=>fun t v m=>match v with
   | .slice (some ⟨b,0,none⟩) _ _=>match Hp.get m.H b with
     | some (.cells _ T _)=>match B7O (B8M P d) P m T (t-10) v with
       | some (x,m)=>toD t x m
       | none=>none
     | _=>none
   | v=>toD t v m
def tdP(P:Program):Td:=B8M P 3
def B3C(m:Mem)(e:TypeId)(w c:Nat)(old:Option Nat)(bh:Beh)(gs:List Nat):Res :=
 match A3p gs m with
 | some (g,m)=>A94 m (10+w) (A1Y w (hole c (10+w)) bh).1 (A1Y w (hole c (10+w)) bh).2 fun nx m=>A0j (A3n old m) nx (10+w) e g
 | none=>none
def A6v(P:Program)(m:Mem)(t t2:TypeId)(x y:Value):Res :=
 match P.underlying t,P.underlying t2 with
 | some (.slice e),some d2=>bif !(A1U d2)then none else
   match P.info? e with
   | some i=>bif (Nat.ble i.bytes 90000 && Nat.blt 0 i.size) && B7s P e i.size then
     match C0N (tdP P) P m e i.size y with
     | some (bh,gs,sure,m)=>match B1B (tdP P) P m e i.size x with
       | some (c,g0,old,m)=>B3C m e i.size c old bh (g0++gs)
       | none=>match x,sure with
         | .func (.yield 3) ⟨[.pointer (some ⟨b,0,none⟩),.complex .f64 c tg]⟩ ⟨[]⟩,true=>bif Nat.beq tg (10+i.size)then B3C m e i.size c none bh (b::gs)else none
         | _,_=>none
     | none=>none else none
   | none=>none
 | _,_=>none
def A8X(P:Program)(m:Mem)(t:TypeId)(x v:Value):Res :=
 match x,A5Q P t with
 | .func (.yield 6) ⟨[.pointer (some ⟨b,0,none⟩),.complex .f64 i tg,z,.int .i64 (.ofNat o)]⟩ ⟨[]⟩,some ts=>bif A3X v then none else
   match A9n (tdP P) ts v.cells.toList m with
   | some (xs,gs,m)=>match Hp.get m.H b with
     | some (.sq c tc T g false)=>bif Nat.beq tc tg then match A3p (g::gs) m with
       | some (g,m)=>match A94 m tg (.set (tg-10) o) (hole c tg::z::xs) fun nx m=>some (hole nx tg,m)with
         | some (.complex .f64 nx _,m)=>C1u (A2m m b (.sq nx tg T g false))
         | _=>none
       | none=>none else none
     | _=>none
   | none=>none
 | _,_=>none
def C33(m m1:Mem):Mem :=
 match m,m1 with
 | ⟨H,n,W,_,_⟩,⟨_,_,_,hi,lg⟩=>⟨H,n,W,hi,lg⟩
def B34(P:Program)(m:Mem)(s t:TypeId)(x:Value):Res :=
 match P.underlying s,P.underlying t,x with
 | some (.slice e),some .string,.slice (some a) n _=>match P.underlying e with
   | some (.int .u8)=>match A0K m a n with
     | some cs=>bif x4 4 cs then Z6 m 9 .mks cs else none
     | none=>none
   | _=>none
 | some (.slice e),some .string,.func _ _ _=>match P.underlying e with
   | some (.int .u8)=>match toD 11 x m with
     | some (h,_,m1)=>Z6 (C33 m m1) 9 .str [h]
     | none=>none
   | _=>none
 | some _,some (.slice e),x=>bif Nat.beq (G4 x) 9 then match P.underlying e with
   | some (.int .u8)=>match G7 P e with
     | some 1=>match A3p [] m with
       | some (g,m)=>match A94 m 11 .byt [x] fun nx m=>some (hole nx 11,m)with
         | some (.complex .f64 nx _,m)=>A0j m nx 11 e g
         | _=>none
       | none=>none
     | _=>none
   | _=>none else none
 | _,_,_=>none
def B9c:Value→Bool
 | .slice none 0 0=>true
 | _=>false
def B9C(P:Program)(m:Mem)(op:BinOp)(t:TypeId)(x y:Operand)(a b:Value):Res :=
 match P.underlying t,a with
 | some (.slice _),.func (.yield k) ⟨[.pointer (some ⟨_,0,none⟩),.complex .f64 i tg]⟩ ⟨[]⟩=>bif B9c b && isC y && (Nat.beq k 2 || Nat.beq k 3 || Nat.beq k 4)then
   match op,Z6 m 8 .nilp [hole i tg]with
   | .eql,some r=>some r
   | .neq,some (h,m)=>Z6 m 8 (.un .not) [h]
   | _,_=>none else none
 | _,_=>none
def B3S(P:Program)(m:Mem)(t:TypeId)(l c:Value):Res :=
 match P.underlying t,l,c with
 | some (.slice e),.complex .f64 i ti,.complex .f64 j tj=>bif (Nat.beq i j && Nat.beq ti 3) && Nat.beq tj 3 then
   match P.info? e with
   | some inf=>bif Nat.ble inf.bytes 90000 && Nat.blt 0 inf.size then
     match A2t P e with
     | some z=>bif Nat.beq z.cells.size inf.size && z.cells.toList.all (fun z=>Nat.blt (G4 z) 10)then
       match A3p [] m with
       | some (g,m)=>match A94 m (10+inf.size) (.rep inf.size) (hole i 3::z.cells.toList) fun nx m=>some (hole nx (10+inf.size),m)with
         | some (.complex .f64 nx _,m)=>A0j m nx (10+inf.size) e g
         | _=>none
       | none=>none else none
     | none=>none else none
   | none=>none else none
 | _,_,_=>none
def dsM(P:Program)(fr:Fr)(m:Mem)(o:Op):Res :=
 match o with
 | .makeSlice t l c=>B3S P m t (ev fr l) (ev fr c)
 | .load t x=>B3X P m t (ev fr x)
 | .store t x y=>A8X P m t (ev fr x) (ev fr y)
 | .indexAddr t x i=>A4N P m t (ev fr x) (ev fr i)
 | .fieldAddr s x i=>A4R P m s (ev fr x) i
 | .slice t x lo hi mx=>A8Y P m t (ev fr x) (evO fr lo) (evO fr hi) (evO fr mx)
 | .convert s t x=>B34 P m s t (ev fr x)
 | .binOp op t x y _=>B9C P m op t x y (ev fr x) (ev fr y)
 | .call ⟨.builtin .len,xs,tys⟩=>match evL fr xs.toList,tys.toList with
   | [x],t::_=>C13 P m t x
   | _,_=>none
 | .call ⟨.builtin .append,xs,tys⟩=>match evL fr xs.toList,tys.toList with
   | [x,y],t::t2::_=>A6v P m t t2 x y
   | _,_=>none
 | _=>none
def B6e(P:Program)(m:Mem)(s t:TypeId)(x:Value):Res :=
 match P.underlying s,P.underlying t,x with
 | some (.pointer e),some .unsafePointer,.pointer (some ⟨b,o,none⟩)=>match G7 P e,Hp.get m.H b with
   | some (_+1),some (.cells cs _ _)=>bif Nat.blt o cs.length then some (x,m)else none
   | _,_=>none
 | some .unsafePointer,some (.pointer u),.pointer (some ⟨b,0,none⟩)=>match G7 P u,Hp.get m.H b with
   | some (k+1),some (.cells cs T false)=>bif Nat.beq T u && Nat.beq cs.length (k+1)then some (x,m)else none
   | _,_=>none
 | _,_,_=>none
def B5q(P:Program)(m:Mem)(op:BinOp)(t:TypeId)(a b:Value):Res :=
 match P.underlying t,a,b with
 | some (.pointer e),.pointer (some ⟨b1,o1,none⟩),.pointer (some ⟨b2,o2,none⟩)=>bif Nat.beq b1 b2 && Nat.beq o1 o2 then match P.info? e,op with
   | some _,.eql=>some (.bool true,m)
   | some _,.neq=>some (.bool false,m)
   | _,_=>none else none
 | _,_,_=>none
def sdM(P:Program)(m:Mem)(ty:TypeId)(x:Value):Res :=
 match P.underlying ty with
 | some (.pointer _)=>match x with
  | .func (.yield 4) ⟨[.pointer (some ⟨b,0,none⟩),.complex .f64 i t]⟩ ⟨[]⟩=>match Hp.get m.H b with
   | some (.sq _ _ _ _ _)=>some (sdt b,m)
   | _=>none
  | _=>none
 | _=>none
def usM(P:Program)(m:Mem)(pt:TypeId)(p l:Value):Res :=
 match p with
 | .func (.yield 9) ⟨[.pointer (some ⟨b,0,none⟩)]⟩ ⟨[]⟩=>bif Nat.blt (G4 l) 8 then match Hp.get m.H b,P.underlying pt with
   | some (.sq c tc T g false),some (.pointer e)=>bif Nat.beq e T && Nat.beq tc 11 then match G7 P T,Z6 m 9 .ustr [hole c tc,l]with
     | some 1,some (v,m)=>match A2m m b (.sq c tc T g true)with
       | some m=>some (v,m)
       | none=>none
     | _,_=>none else none
   | _,_=>none else none
 | _=>none
def xtM(P:Program)(fr:Fr)(m:Mem)(o:Oper):Res :=
 match o.op with
 | .convert s t x=>B6e P m s t (ev fr x)
 | .binOp op t x y _=>B5q P m op t (ev fr x) (ev fr y)
 | .call ⟨.builtin .unsafeSliceData,xs,_⟩=>match evL fr xs.toList with
   | [x]=>sdM P m o.type x
   | _=>none
 | .call ⟨.builtin .unsafeString,xs,tys⟩=>match evL fr xs.toList,tys.toList with
   | [p,l],t::_=>usM P m t p l
   | _,_=>none
 | _=>none
inductive EK where
 | noEscape|makeNoZero (e:TypeId)|indexByteString|countString|indexString|copyString
 deriving DecidableEq
def B3v:List (FuncId×EK)→FuncId→Option EK
 | [],_=>none
 | (g,k)::r,f=>bif Nat.beq g f then some k else B3v r f
structure FnC where
 run:List Value→Mem→Res
structure P0 where
 fn:FuncId→FnC
 yl:FnC
def A4x:Value→Bool
 | .tuple ⟨[]⟩=>true
 | _=>false
def B2Z(lg:Lg)(v:Value)(b:Bool):Option (Bool×Lg) :=
 match v with
 | .bool c=>some (c == b,lg)
 | .complex k i t=>match brL lg (.complex k i t)with
   | some (c,lg)=>some (c == b,lg)
   | none=>none
 | v=>bif A4x v then some (false,lg)else none
def A0i(nt:Nat)(fr:Fr)(lg:Lg)(ops:List Oper)(o:Oper):Option (Bool×Lg) :=
 match o.guard with
 | none=>some (true,lg)
 | some (j,b)=>match ops[j]? with
   | some p=>match p.dst with
     | some t=>bif Nat.blt t nt then B2Z lg (fr.get t) b else none
     | none=>none
   | none=>none
def A8L(v:Value)(vs:List Value):Option (FuncId×List Value) :=
 match v with
 | .func (.func f) a b=>some (f,a.toList++(vs++b.toList))
 | _=>none
def A1q(v:Value):Option Nat :=
 match v with
 | .func (.yield 7) ⟨[.pointer (some ⟨b,0,none⟩)]⟩ ⟨[]⟩=>some b
 | _=>none
def B3M(call:P0)(m:Mem)(v:Value)(vs:List Value):Res :=
 match A8L v vs with
 | some (f,vs)=>(call.fn f).run vs m
 | none=>match A1q v with
   | some _=>call.yl.run (v::vs) m
   | none=>none
def C6n(call:P0)(x:XC)(xs:LC)(fr:Fr)(m:Mem):Res:=B3M call m (x.run fr) (xs.run fr)
def C5k(f:FnC)(xs:LC)(fr:Fr)(m:Mem):Res:=f.run (xs.run fr) m
def B9X(P:Program)(c:OpC)(o:Oper)(fr:Fr)(m:Mem):Res :=
 match c.run fr m with
 | some r=>some r
 | none=>match B8T P fr m o.op with
   | some r=>some r
   | none=>match dsM P fr m o.op with
     | some r=>some r
     | none=>xtM P fr m o
def Y4(P:Program)(call:P0)(o:Oper):OpC :=
 match o.op with
 | .call ⟨.value (.func f),xs,_⟩=>⟨C5k (call.fn f) (A7p xs.toList)⟩
 | .call ⟨.value x,xs,_⟩=>⟨C6n call (U5 x) (A7p xs.toList)⟩
 | op=>⟨B9X P (A9Q P op) o⟩
def A9K(nt:Nat)(d:Option Tmp):Bool :=
 match d with
 | some d=>Nat.blt d nt
 | none=>true
structure C6A where
 run:Value→Fr→(Fr→Option S)→Option S
def A73(d:Option Tmp):C6A :=
 match d with
 | some t=>⟨A71 (sel (t / 64%8)) (sel (t / 8%8)) (sel (t%8))⟩
 | none=>⟨fun _ fr k=>k fr⟩
structure C02 where
 run:S→Option S
def A36(c:OpC)(d:C6A)(next:C02)(s:S):Option S :=
 match s with
 | ⟨fr,m⟩=>match c.run fr m with
   | some (v,m')=>bif Nat.ble m.hi m'.hi then d.run v fr fun fr=>next.run ⟨fr,m'⟩else none
   | none=>none
def A1y(nt:Nat)(all:List Oper)(o:Oper)(c:OpC)(d:C6A)(next:C02)(s:S):Option S :=
 match s with
 | ⟨fr,⟨H,n,W,hi,lg⟩⟩=>match A0i nt fr lg all o with
   | some (true,lg)=>A36 c d next ⟨fr,⟨H,n,W,hi,lg⟩⟩
   | some (false,lg)=>d.run undef fr fun fr=>next.run ⟨fr,⟨H,n,W,hi,lg⟩⟩
   | none=>none
def W6(P:Program)(nt gl:Nat)(call:P0)(all:List Oper):List Oper→C02
 | []=>⟨some⟩
 | o::r=>bif A9K nt o.dst && B40 nt gl o.op then match o.guard with
   | none=>⟨fun s=>A36 (Y4 P call o) (A73 o.dst) (W6 P nt gl call all r) s⟩
   | some _=>⟨fun s=>A1y nt all o (Y4 P call o) (A73 o.dst) (W6 P nt gl call all r) s⟩
   else⟨fun _=>none⟩
structure Rec where
 i:Nat
 lo:Nat
 hi:Nat
inductive Cls where
 | free
 | one (b:Nat)
 | all
def C7D(fr:Fr)(o:Op):Cls :=
 match o with
 | .move _|.assign _|.pick ..|.alloc _|.box ..|.build ..|.buildSlice ..|.nilCheck _|.binOp ..|.unOp ..|.makeInterface ..|.makeFunc ..|.makeMap ..|.makeSlice ..
 | .fieldAddr ..|.field ..|.indexAddr ..|.index ..|.extract ..|.range ..=>.free
 | .slice _ x _ _ _=>match ev fr x with
   | .slice _ _ _|.string _|.pointer _|.complex _ _ _=>.free
   | _=>.all
 | .convert _ _ x=>match ev fr x with
   | .int _ _|.string _=>.free
   | _=>.all
 | .call ⟨.builtin .len,xs,_⟩=>match evL fr xs.toList with
   | [.slice _ _ _]|[.string _]=>.free
   | _=>.all
 | .call ⟨.builtin .min,_,_⟩|.call ⟨.builtin .max,_,_⟩=>.free
 | .call ⟨.builtin .unsafeSliceData,xs,_⟩=>match evL fr xs.toList with
   | [.slice _ _ _]=>.free
   | _=>.all
 | .load _ x|.store _ x _=>match ev fr x with
   | .pointer (some a)=>.one a.block
   | _=>.all
 | _=>.all
def B0s(H:Hp AB):List Nat→Hp AB
 | []=>H
 | b::r=>Hp.put H b none fun H=>B0s H r
def B1D(H0 H:Hp AB):List Nat→Hp AB
 | []=>H
 | b::r=>Hp.put H b (Hp.get H0 b) fun H=>B1D H0 H r
def B4n:Nat→Nat→List Nat
 | _,0=>[]
 | lo,n+1=>lo::B4n (lo+1) n
def p7:List Rec→List Nat
 | []=>[]
 | r::rs=>B4n r.lo (r.hi-r.lo)++p7 rs
def A0Y(l:List Nat)(b:Nat):Bool:=l.any (Nat.beq b)
def B2K(l:List Nat):Bool:=l.all fun b=>Nat.ble b H3
def B0c(b:List Nat)(rs:List Rec):List Rec:=rs.filter fun r=>!(A0Y b r.i)
def B0C(m:Mem)(c:Cls)(us:List Rec):Option Mem :=
 match m with
 | ⟨H,n,_,hi,lg⟩=>match c with
   | .free=>some ⟨hp0,n,[],hi,lg⟩
   | .one b=>bif A0Y (p7 us) b || !(Nat.ble b H3)then none else Hp.put hp0 b (Hp.get H b) fun H=>some ⟨H,n,[],hi,lg⟩
   | .all=>bif B2K (p7 us)then some ⟨B0s H (p7 us),n,[],hi,lg⟩else none
def A4E(m m':Mem):Option Mem :=
 bif Nat.ble m'.hi m.n then(match m with|⟨H,n,W,hi,_⟩=>some ⟨H,n,W,hi,m'.lg⟩)else
 bif Nat.ble m'.hi H3 then B1z (B1D m'.H m.H (B4n m.n (m'.hi-m.n))) fun H=>K1 m'.hi fun n=>some ⟨H,n,m.W,n,m'.lg⟩else none
def B6c(fr:Fr)(m:Mem)(o:Oper)(b:List Nat)(rs:List Rec)(op:OpC)(k:Value→Mem→Option S):Option S :=
 let us:=B0c b rs
 let c:=C7D fr o.op
 match B0C m c us with
 | some mv=>match op.run fr mv with
   | some (v,m') =>
     match m'.W,Nat.ble m.hi m'.hi with
     | [],true=>match A4E m m' with
       | some m2=>k v m2
       | none=>none
     | _,_=>none
   | none=>none
 | none=>none
def wrO:Op→Bool
 | .call _|.store ..=>true
 | _=>false
def A0T:Op→Bool
 | .move _|.assign _|.extract ..=>true
 | _=>false
def C5U:Op→Bool
 | .field ..|.fieldAddr ..|.index ..|.indexAddr ..|.binOp ..|.unOp ..|.build ..|.load ..=>true
 | .call ⟨.builtin .len,_,_⟩=>true
 | o=>A0T o
def B3q(fr:Fr)(o:Op):Option Nat :=
 match o with
 | .load _ x=>match ev fr x with
   | .func (.yield 5) ⟨.pointer (some a)::_⟩ _=>some a.block
   | _=>none
 | _=>none
def A89(H:Hp AB)(b:Nat):Bool :=
 match Hp.get H b with
 | some .frz=>Nat.ble b H3
 | _=>false
def A6t:Nat:=262144
def B1b(m:Mem)(r:Option Nat)(us:List Rec):Option Mem :=
 match m with
 | ⟨H,_,_,_,lg⟩=>match r with
   | none=>some ⟨hp0,A6t,[],A6t,lg⟩
   | some b=>bif A0Y (p7 us) b || !(A89 H b)then none else Hp.put hp0 b (some .frz) fun H=>some ⟨H,A6t,[],A6t,lg⟩
def A3_(fr:Fr)(m:Mem)(o:Oper)(b:List Nat)(rs:List Rec)(op:OpC):Option (Value×Lg) :=
 match B1b m (B3q fr o.op) (B0c b rs)with
 | some mv=>match op.run fr mv with
   | some (v,⟨_,_,[],hi,lg⟩)=>bif Nat.beq hi A6t then some (v,lg)else none
   | _=>none
 | none=>none
abbrev Qs:=List (Nat×Option Nat)
def B2L:Nat→List Nat→Qs→Bool
 | 0,_,_=>true
 | n+1,b,qs=>(A0Y b n || qs.any fun q=>Nat.beq n q.1) && B2L n b qs
def B1p(i:Nat):List (List Nat)→List Oper→Bool
 | c::bs,o::r=>(A0Y c i || A0T o.op) && B1p i bs r
 | _,_=>true
def B6H(H:Hp AB)(qs:Qs):Bool:=qs.all fun q=>match q.2 with
 | none=>true
 | some b=>A89 H b
def B2v(o:Op)(i:Nat)(b:List Nat)(bs:List (List Nat))(r:List Oper)(qs:Qs):Bool:=wrO o && (B2L i b qs && B1p i bs r)
def y7(P:Program)(nt gl:Nat)(call:P0)(all:List Oper):List Oper→Nat→List (List Nat)→List Rec→Qs→S→Option S
 | [],_,_,_,_,s=>some s
 | _::_,_,[],_,_,_=>none
 | o::r,i,b::bs,rs,qs,⟨fr,⟨H,n,W,hi,lg⟩⟩=>match A0i nt fr lg all o,A9K nt o.dst && B40 nt gl o.op with
   | some (true,lg),true=>bif B2v o.op i b bs r qs then(match (Y4 P call o).run fr ⟨H,n,W,hi,lg⟩with
      | some (v,m2)=>bif Nat.ble hi m2.hi && B6H m2.H qs then(A73 o.dst).run v fr fun fr=>y7 P nt gl call all r (i+1) bs [] qs ⟨fr,m2⟩else none
      | none=>none)
     else match (bif C5U o.op then A3_ fr ⟨H,n,W,hi,lg⟩ o b rs (Y4 P call o)else none)with
      | some (v,lg2)=>(A73 o.dst).run v fr fun fr2=>y7 P nt gl call all r (i+1) bs rs ((i,B3q fr o.op)::qs) ⟨fr2,⟨H,n,W,hi,lg2⟩⟩
      | none=>bif A0T o.op then none else B6c fr ⟨H,n,W,hi,lg⟩ o b rs (Y4 P call o) fun v m2 =>
        (A73 o.dst).run v fr fun fr=>y7 P nt gl call all r (i+1) bs (⟨i,n,m2.n⟩::rs) qs ⟨fr,m2⟩
   | some (false,lg),true=>(A73 o.dst).run undef fr fun fr=>y7 P nt gl call all r (i+1) bs rs ((i,none)::qs) ⟨fr,⟨H,n,W,hi,lg⟩⟩
   | _,_=>none
def C0T(l:List Nat)(b:Nat):List Nat:=bif A0Y l b then l else K1 b fun b=>b::l
def B6I:List Nat→List Nat→List Nat
 | [],b=>b
 | x::a,b=>C0T (B6I a b) x
def A6w(acc:List (List Nat)):List Edge→List Nat
 | []=>[]
 | e::r=>bif Region.binds .any e then C0T (B6I (acc.getD e.on []) (A6w acc r)) e.on else A6w acc r
def q8:List Oper→List (List Nat)→List (List Nat)
 | [],acc=>acc
 | o::r,acc=>T4 (A6w acc o.after.toList) fun a=>q8 r (acc++[a])
def A6F:Operand→List Tmp
 | .tmp t=>[t]
 | _=>[]
def X5(ops:List Oper)(o:Oper):List Tmp :=
 o.dst.toList++(o.op.operands.toList.flatMap A6F++(match o.guard with
  | none=>[]
  | some (j,_)=>match ops[j]? with
    | some p=>p.dst.toList
    | none=>[]))
def C1j(an:List (List Nat))(i k:Nat):Bool:=bif Nat.blt i k then A0Y (an.getD k []) i else A0Y (an.getD i []) k
def A6y(an:List (List Nat))(i:Nat)(sl:List Tmp):List Oper→Nat→Bool
 | [],_=>true
 | p::r,k=>(Nat.beq k i || (match p.dst with|none=>true|some t=>!(A0Y sl t) || C1j an i k)) && A6y an i sl r (k+1)
def A45(i:Nat):List Edge→Bool
 | []=>true
 | e::r=>(!(Region.binds .any e) || Nat.blt e.on i) && A45 i r
def B3J(ops:List Oper)(an:List (List Nat)):List Oper→Nat→Bool
 | [],_=>true
 | o::r,i=>A45 i o.after.toList && (A6y an i (X5 ops o) ops 0 && B3J ops an r (i+1))
def B1_(ops:Array Oper):Bool:=B3J ops.toList (q8 ops.toList []) ops.toList 0
def B2D:Op→Bool
 | .move _|.assign _|.load _ _|.store _ _ _=>true
 | _=>false
def A4a:Op→Option (TypeId×Operand)
 | .load t x=>some (t,x)
 | .store t x _=>some (t,x)
 | _=>none
def A2W:Op→Bool
 | .store _ _ _=>true
 | _=>false
def B8u:Op→List Tmp
 | .move x|.assign x=>A6F x
 | .load _ x=>A6F x
 | .store _ x y=>A6F x++A6F y
 | _=>[]
def B0X(o:Oper)(l:List Tmp):Bool :=
 match o.dst with
 | some d=>A0Y l d
 | none=>false
def C6s(a b:Oper):Bool :=
 (match a.dst,b.dst with
   | some d,some e=>!(Nat.beq d e)
   | _,_=>true) && (!(B0X a (B8u b.op)) && (!(B0X b (B8u a.op)) && !(A2W a.op && A2W b.op)))
def A6q(o:Oper)(i:Nat):Bool:=o.after.any fun e=>Region.binds .any e && Nat.beq e.on i
def C0U(l:List Oper):List Tmp:=l.flatMap fun o=>match A4a o.op with
 | some (_,x)=>A6F x
 | none=>[]
def B1d(p:Oper→Oper→Bool)(l:List Oper):Bool :=
 (List.range l.length).all fun j=>(List.range j).all fun i=>match l[i]?,l[j]? with
   | some a,some b=>A6q b i || p a b
   | _,_=>true
def C5b(ads:List Tmp)(i:Nat)(o:Oper):Bool:=B2D o.op && ((match o.guard with|none=>true|some _=>false) && (!(B0X o ads) && o.after.all fun e=>!(Region.binds .any e) || Nat.blt e.on i))
def B89(ads:List Tmp):Nat→List Oper→Bool
 | _,[]=>true
 | i,o::l=>C5b ads i o && B89 ads (i+1) l
def A38(l:List Oper):Bool:=B89 (C0U l) 0 l && B1d C6s l
def B80(P:Program)(nt gl:Nat)(fr:Fr)(H:Hp AB)(o:Oper):Bool :=
 match A4a o.op with
 | none=>true
 | some (t,x)=>bif !(okX nt gl x)then false else match ev fr x,A0w P t,G7 P t with
   | .pointer (some a),some _,some s=>match a.spot,Hp.get H a.block with
     | none,some (.cells cs _ false)=>Nat.ble (a.off+s) cs.length && (Nat.blt a.off cs.length && Nat.ble a.block H3)
     | _,_=>false
   | _,_,_=>false
def C0S(fr:Fr)(a b:Oper):Bool :=
 bif A2W a.op || A2W b.op then match A4a a.op,A4a b.op with
  | some (_,x),some (_,y)=>match ev fr x,ev fr y with
    | .pointer (some p),.pointer (some q)=>!(Nat.beq p.block q.block)
    | _,_=>false
  | _,_=>true else true
def A4G(P:Program)(nt gl:Nat)(fr:Fr)(H:Hp AB)(l:List Oper):Bool:=l.all (B80 P nt gl fr H) && B1d (C0S fr) l
structure A3s where
 run:S→Option (Ex×S)
def B0e(f:A3s):Nat→S→Option (Ex×S)
 | 0,_=>none
 | n+1,s=>match f.run s with
   | some (.normal,s)=>B0e f n s
   | r=>r
def C0H(a b:A3s)(s:S):Option (Ex×S) :=
 match a.run s with
 | some (.normal,s)=>b.run s
 | r=>r
def B3_(c:XC)(a b:A3s)(s:S):Option (Ex×S) :=
 match c.run s.fr with
 | .bool true=>a.run s
 | .bool false=>b.run s
 | v=>match s with
   | ⟨fr,⟨H,n,W,hi,lg⟩⟩=>match brL lg v with
     | some (true,lg)=>a.run ⟨fr,⟨H,n,W,hi,lg⟩⟩
     | some (false,lg)=>b.run ⟨fr,⟨H,n,W,hi,lg⟩⟩
     | none=>none
def A9Y(id:Nat)(c:A3s)(s:S):Option (Ex×S) :=
 match c.run s with
 | some (.exit j,s)=>bif Nat.beq j id then some (.normal,s)else some (.exit j,s)
 | r=>r
def m7(r:C02)(s:S):Option (Ex×S) :=
 match r.run s with
 | some s=>some (.normal,s)
 | none=>none
structure LpT where
 me:FuncId
 look:List Bool→Option (S→Option (Ex×S))
def B0f(c:A3s)(L:S→Option (Ex×S)):Nat→S→Option (Ex×S)
 | 0,_=>none
 | n+1,s=>match L s with
   | some r=>some r
   | none=>match c.run s with
     | some (.normal,s)=>B0f c L n s
     | r=>r
def B38(c:A3s)(l:Option (S→Option (Ex×S)))(s:S):Option (Ex×S) :=
 match l with
 | some f=>B0f c f 4 s
 | none=>B0e c 1000000 s
def frL(fr:Fr):Nat→Nat→List Value
 | _,0=>[]
 | i,n+1=>fr.get i::frL fr (i+1) n
def C3g:Value→Nat
 | .pointer (some a)=>a.block
 | _=>0
def A2_(v:Value):List Nat :=
 match v with
 | .func (.yield 8) ⟨l⟩ ⟨[]⟩=>l.map C3g
 | _=>[]
def exN:Ex→Nat
 | .normal=>0
 | .ret=>2
 | .exit k=>k+4
def nEx:Nat→Option Ex
 | 0=>some .normal
 | 1=>none
 | 2=>some .ret
 | 3=>none
 | k+4=>some (.exit k)
def B1q:Ex→Bool
 | .normal=>true
 | _=>false
def A6S(fr:Fr)(hi:Nat)(b:Nat)(r:Res):Option (Ex×S) :=
 match r with
 | some (_,m)=>match Hp.get m.H b with
   | some (.lp f q vs st)=>match nEx st with
     | some e=>bif Nat.ble hi m.hi then match A2m m b (.lp f q vs 3)with
       | some m=>some (e,⟨fr,m⟩)
       | none=>none else none
     | none=>none
   | _=>none
 | none=>none
def A6e(P:Program)(f:FuncId):Bool :=
 match P.funcs.toList[f]? with
 | some fn=>match fn.body with
   | some _=>true
   | none=>false
 | none=>false
def A04(P:Program)(nt:Nat)(call:P0)(f:FuncId)(q:List Bool)(g:Value)(fr:Fr)(m:Mem):Option (Ex×S) :=
 T4 (frL fr 0 nt) fun vs=>match u9 m (.lp f q vs 0) yv with
 | some (v,m1)=>match A8L g [v],A1q v with
   | some (k,as),some b=>bif A6e P k then A6S fr m1.hi b ((call.fn k).run as m1)else none
   | _,_=>none
 | none=>none
def A9X(P:Program)(nt:Nat)(call:P0)(f:FuncId)(q:List Bool)(x:XC)(s:S):Option (Ex×S) :=
 match s with
 | ⟨fr,m⟩=>bif Nat.ble nt 510 then match A1q (fr.get 511)with
   | some b0=>match Hp.get m.H b0 with
     | some (.lp _ _ _ 1)=>A04 P nt call f q (x.run fr) fr m
     | _=>none
   | none=>bif A4x (fr.get 511)then match u9 m (.dfr true) (fun b=>.pointer (some ⟨b,0,none⟩))with
      | some (.pointer (some a),m1)=>T4 (A2_ (fr.get 510)) fun l=>A71 (sel 7) (sel 7) (sel 6) (dv (a.block::l)) fr fun fr2=>A04 P nt call f q (x.run fr) fr2 m1
      | _=>none else none
   else none
def M5(P:Program)(nt gl:Nat)(call:P0)(lp:LpT):List Bool→Code→A3s
 | _,.skip=>⟨fun s=>some (.normal,s)⟩
 | _,.label _=>⟨fun s=>some (.normal,s)⟩
 | _,.region _ ops d=>match d with
   | false=>⟨fun s=>m7 (W6 P nt gl call ops.toList ops.toList) s⟩
   | true=>bif B1_ ops then bif A38 ops.toList then⟨fun s=>bif A4G P nt gl s.fr s.m.H ops.toList then m7 (W6 P nt gl call ops.toList ops.toList) s else m7 ⟨y7 P nt gl call ops.toList ops.toList 0 (q8 ops.toList []) [] []⟩ s⟩
     else⟨fun s=>m7 ⟨y7 P nt gl call ops.toList ops.toList 0 (q8 ops.toList []) [] []⟩ s⟩else⟨fun _=>none⟩
 | q,.seq a b=>⟨fun s=>C0H (M5 P nt gl call lp (q++[false]) a) (M5 P nt gl call lp (q++[true]) b) s⟩
 | q,.cond c a b=>bif okX nt gl c then⟨fun s=>B3_ (U5 c) (M5 P nt gl call lp (q++[false]) a) (M5 P nt gl call lp (q++[true]) b) s⟩else⟨fun _=>none⟩
 | q,.block id c=>⟨fun s=>A9Y id (M5 P nt gl call lp (q++[false]) c) s⟩
 | q,.loop c=>⟨fun s=>B38 (M5 P nt gl call lp (q++[false]) c) (lp.look q) s⟩
 | q,.rangeFunc x _ _ _=>bif okX nt gl x then⟨fun s=>A9X P nt call lp.me q (U5 x) s⟩else⟨fun _=>none⟩
 | q,.scope c=>M5 P nt gl call lp (q++[false]) c
 | _,.exit id=>⟨fun s=>some (.exit id,s)⟩
 | _,.ret=>⟨fun s=>some (.ret,s)⟩
 | _,_=>⟨fun _=>none⟩
def B5B(ids:Value→List Nat):List Value→List Nat
 | []=>[]
 | v::r=>ids v++B5B ids r
def A95:Nat→Value→List Nat
 | 0,_=>[]
 | _+1,.pointer (some a)=>[a.block]
 | _+1,.slice (some a) _ _=>[a.block]
 | _+1,.map (some b)=>[b]
 | d+1,.func _ a b=>B5B (A95 d) a.toList++B5B (A95 d) b.toList
 | d+1,.iface _ v=>A95 d v
 | d+1,.agg cs=>B5B (A95 d) cs.toList
 | d+1,.tuple cs=>B5B (A95 d) cs.toList
 | _+1,_=>[]
def C6u:List MapEntry→List Nat
 | []=>[]
 | e::r=>A95 10 e.val++C6u r
def C6v:AB→List Nat
 | .cells cs _ _=>B5B (A95 10) cs
 | .map es _=>C6u es
 | .iter _ _=>[]
 | .lp _ _ vs _=>B5B (A95 10) vs
 | .dfr _=>[]
 | .sq _ _ _ g _=>[g]
 | .frz=>[]
def B29(n0:Nat)(H:Hp AB):Nat→List Nat→List Nat→List Nat
 | 0,_,acc=>acc
 | _+1,[],acc=>acc
 | f+1,b::r,acc=>bif Nat.blt b n0 || A0Y acc b then B29 n0 H f r acc else match Hp.get H b with
   | some ab=>B29 n0 H f (C6v ab++r) (b::acc)
   | none=>B29 n0 H f r acc
def A14(H' H:Hp AB):List Nat→Hp AB
 | []=>H
 | b::r=>Hp.put H b (Hp.get H' b) fun H=>A14 H' H r
def wOf(H:Hp AB):List Nat→List Nat
 | []=>[]
 | b::r=>(match Hp.get H b with|some ab=>C6v ab|none=>[])++wOf H r
def A5M:List Nat→List Nat→List Nat
 | [],acc=>acc
 | b::r,acc=>bif A0Y acc b then A5M r acc else A5M r (b::acc)
def A69(low:Value→Bool):List Value→Bool
 | []=>true
 | v::r=>low v && A69 low r
def w5(n:Nat):Nat→Value→Bool
 | 0,_=>false
 | _+1,.pointer (some a)=>Nat.blt a.block n
 | _+1,.slice (some a) _ _=>Nat.blt a.block n
 | _+1,.map (some b)=>Nat.blt b n
 | d+1,.func _ a b=>A69 (w5 n d) a.toList && A69 (w5 n d) b.toList
 | d+1,.iface _ v=>w5 n d v
 | d+1,.agg cs=>A69 (w5 n d) cs.toList
 | d+1,.tuple cs=>A69 (w5 n d) cs.toList
 | _+1,.complex _ _ _=>true
 | _+1,v=>I2 v
def C1v(n:Nat):List MapEntry→Bool
 | []=>true
 | e::r=>w5 n 10 e.key && (w5 n 10 e.val && C1v n r)
def C1w(n:Nat):Option AB→Bool
 | none=>true
 | some (.cells cs _ _)=>A69 (w5 n 10) cs
 | some (.map es _)=>C1v n es
 | some (.iter _ _)=>true
 | some (.lp _ _ vs _)=>A69 (w5 n 10) vs
 | some (.dfr _)=>true
 | some (.sq _ _ _ g _)=>Nat.blt g n
 | some .frz=>true
def B44(n:Nat)(H:Hp AB):List Nat→Bool
 | []=>true
 | b::r=>C1w n (Hp.get H b) && B44 n H r
def gcM(m m':Mem)(v:Value):Option Mem :=
 let W:=A5M (m'.W.filter fun b=>Nat.blt b m.n || Nat.ble m'.hi b) []
 bif w5 m.n 10 v && B44 m.n m'.H W then
  bif B2K W then B1z (A14 m'.H m.H W) fun H=>K1 m'.hi fun hi=>T4 (W++m.W) fun W=>some ⟨H,m.n,W,hi,m'.lg⟩else none
 else
  let ids:=(B29 m.n m'.H 100000 (A95 10 v++wOf m'.H W) []).filter fun b=>Nat.ble m.n b && Nat.blt b m'.hi
  bif B2K (W++ids)then B1z (A14 m'.H m.H (W++ids)) fun H=>K1 m'.n fun n=>K1 m'.hi fun hi=>T4 (W++m.W) fun W=>some ⟨H,n,W,hi,m'.lg⟩else none
def C6R(P:Program)(nt:Nat)(s:S):ResultVar→Option Value
 | .tmp t=>bif Nat.blt t nt then some (s.fr.get t)else none
 | .cell a t=>bif Nat.blt a nt then match s.fr.get a with
   | .pointer (some a)=>B59 P s.m t a
   | _=>none else none
def B7M(P:Program)(nt:Nat)(s:S):List ResultVar→Option (List Value)
 | []=>some []
 | r::rs=>match C6R P nt s r,B7M P nt s rs with
   | some v,some vs=>some (v::vs)
   | _,_=>none
def B7L(fn:Func)(P:Program)(s:S):Option Value :=
 match B7M P fn.ntmps s fn.results.toList with
 | some [v]=>some v
 | some vs=>some (.tuple ⟨vs⟩)
 | none=>none
def A2F(fr:Fr):Nat→List Value→Fr
 | _,[]=>fr
 | i,v::r=>A71 (sel (i / 64%8)) (sel (i / 8%8)) (sel (i%8)) v fr fun fr=>A2F fr (i+1) r
def A7E(l:List UInt8)(c:UInt8):Nat→Int
 | i=>match l with
   | [] => -1
   | b::r=>bif decide (b=c)then(i:Int)else A7E r c (i+1)
def A7M(c:UInt8):List UInt8→Nat→Nat
 | [],n=>n
 | b::r,n=>bif decide (b=c)then K1 (n+1) (A7M c r)else A7M c r n
def A5o(k:EK)(args:List Value)(m:Mem):Res :=
 match k,args with
 | .noEscape,[v]=>some (v,m)
 | .indexByteString,[.string s,.int .u8 (.ofNat c)]=>some (.int .i64 (A7E s.data.toList (UInt8.ofNat c) 0),m)
 | .countString,[.string s,.int .u8 (.ofNat c)]=>some (.int .i64 (A7M (UInt8.ofNat c) s.data.toList 0),m)
 | .makeNoZero e,[.int .i64 (.ofNat n)]=>bif Nat.ble n 1000000000 then u9 m (.cells [] e false) fun b=>.slice (some ⟨b,0,none⟩) n N3 else none
 | _,_=>none
def A6G:List Nat→Mem→Option Mem
 | [],m=>some m
 | b::r,m=>match Hp.get m.H b with
   | some (.dfr true)=>match A2m m b (.dfr false)with
     | some m=>A6G r m
     | none=>none
   | _=>none
def dvG(nt:Nat)(fr:Fr):List Nat:=bif Nat.ble nt 510 then A2_ (fr.get 510)else[]
def C5y(fn:Func)(P:Program)(m:Mem)(r:Option (Ex×S)):Res :=
 match r with
 | some (.normal,⟨fr,m1⟩)|some (.ret,⟨fr,m1⟩)=>match A6G (dvG fn.ntmps fr) m1 with
   | some m1=>match B7L fn P ⟨fr,m1⟩with
     | some v=>match gcM m m1 v with
       | some m=>some (v,m)
       | none=>none
     | none=>none
   | none=>none
 | _=>none
def B4m(c:A3s)(fr:Fr)(m:Mem):Option (Ex×S) :=
 match m with
 | ⟨H,n,_,hi,lg⟩=>c.run ⟨fr,⟨H,n,[],hi,lg⟩⟩
def B08(fn:Func)(P:Program)(c:A3s)(args:List Value)(m:Mem):Res :=
 bif Nat.ble args.length fn.ntmps && Nat.ble fn.ntmps 512 then C5y fn P m (B4m c (A2F fr0 0 args) m)else none
structure Cx where
 P:Program
 ext:List (FuncId×EK)
 gl:Nat
 con:FuncId→Option FnC
 lp:FuncId→LpT
def B06(C:Cx)(call:P0)(f:FuncId):FnC :=
 match C.P.funcs.toList[f]? with
 | none=>⟨fun _ _=>none⟩
 | some fn=>match C.con f with
   | some c=>c
   | none=>match fn.body with
     | none=>match B3v C.ext f with
       | some k=>⟨A5o k⟩
       | none=>⟨fun _ _=>none⟩
     | some c=>⟨B08 fn C.P (M5 C.P fn.ntmps C.gl call (C.lp f) [] c)⟩
def A7g:List Tmp→List Value→Fr→Option Fr
 | [],[],fr=>some fr
 | t::ts,v::vs,fr=>A71 (sel (t / 64%8)) (sel (t / 8%8)) (sel (t%8)) v fr fun fr=>A7g ts vs fr
 | _,_,_=>none
def A6P(b:Nat)(r:Option (Ex×S)):Res :=
 match r with
 | some (e,⟨_,m⟩)=>match Hp.get m.H b with
   | some (.lp f q vs 1)=>K1 (exN e) fun st=>match A2m m b (.lp f q vs st)with
     | some m=>some (.bool (B1q e),m)
     | none=>none
   | _=>none
 | none=>none
def A6O(b:Nat)(c:A3s)(r:Option (Ex×S)):Res :=
 match r with
 | some (.normal,⟨fr,m⟩)=>match Hp.get m.H b with
   | some (.lp f q vs 0)=>match A2m m b (.lp f q vs 1)with
     | some m=>A6P b (c.run ⟨fr,m⟩)
     | none=>none
   | _=>none
 | _=>none
def B1Y(C:Cx)(call:P0):FnC:=⟨fun vs m =>
 match vs with
 | []=>none
 | v::args=>match A1q v with
   | none=>none
   | some b=>match Hp.get m.H b with
     | some (.lp f q fs 0)=>match C.P.funcs.toList[f]? with
       | none=>none
       | some fn=>match fn.body with
         | none=>none
         | some body=>match G3 q body with
           | some (.rangeFunc _ ps as bd)=>bif Nat.ble fn.ntmps 510 && ps.toList.all (fun t=>Nat.blt t fn.ntmps)then match A7g ps.toList args (A2F fr0 0 fs)with
             | some fr=>A71 (sel 7) (sel 7) (sel 7) v fr fun fr=>A6O b (M5 C.P fn.ntmps C.gl call (C.lp f) (q++[true]) bd) ((M5 C.P fn.ntmps C.gl call (C.lp f) (q++[false]) as).run ⟨fr,m⟩)
             | none=>none else none
           | _=>none
     | _=>none⟩
def A7q(C:Cx):Nat→P0
 | 0=>⟨fun _=>⟨fun _ _=>none⟩,⟨fun _ _=>none⟩⟩
 | d+1=>⟨B06 C (A7q C d),B1Y C (A7q C d)⟩
theorem O6(d:Nat)(hd:d<8){α β:Type}(n:N8 α)(v:α)(k:N8 α→β):(sel d).upd n v k=k ((sel d).upd n v fun n=>n):=by
 match d,hd with
 | 0,_|1,_|2,_|3,_|4,_|5,_|6,_|7,_=>rfl
theorem B8Z(d:Nat)(hd:d<8){α:Type}(n:N8 α)(v:α):(sel d).get ((sel d).upd n v fun n=>n)=v:=by
 match d,hd with
 | 0,_|1,_|2,_|3,_|4,_|5,_|6,_|7,_=>rfl
theorem C5K(d e:Nat)(hd:d<8)(he:e<8)(hne:e≠d){α:Type}(n:N8 α)(v:α):(sel e).get ((sel d).upd n v fun n=>n)=(sel e).get n:=by
 match d,hd with
 | 0,_|1,_|2,_|3,_|4,_|5,_|6,_|7,_ =>
   match e,he with
   | 0,_|1,_|2,_|3,_|4,_|5,_|6,_|7,_=>first|rfl|exact absurd rfl hne
theorem A1n{α β:Type}(n:N8 α)(k:N8 α→β):B1z n k=k n:=rfl
theorem m8(n:Nat):n%8<8:=A52 _ (by decide)
theorem B1S{β:Type}(t:Nat)(v:Value)(fr:Fr)(k:Fr→β):A71 (sel (t / 64%8)) (sel (t / 8%8)) (sel (t%8)) v fr k=k (fr.set t v):=by
 unfold Fr.set A71;rw[O6 _ (m8 _)];conv=>rhs;rw[O6 _ (m8 _)]
 rw[O6 _ (m8 _)];conv=>rhs;rw[O6 _ (m8 _)]
 rw[O6 _ (m8 _)]
theorem Y7(d e:Nat)(hd:d<8)(he:e<8){α:Type}(n:N8 α)(v:α):(sel e).get ((sel d).upd n v fun n=>n)=if e=d then v else(sel e).get n:=by
 by_cases h:e=d
 ·subst h;rw[if_pos rfl,B8Z _ he]
 ·rw[if_neg h,C5K _ _ hd he h]
theorem M2(fr:Fr)(t u:Nat)(v:Value)(ht:t<512)(hu:u<512):(fr.set t v).get u=if u=t then v else fr.get u:=by
 unfold Fr.set A71;simp only[O6 _ (m8 _) _ _ (fun n2=>Sel.upd _ _ _ _),O6 _ (m8 _) _ _ (fun n1=>Sel.upd _ _ _ _)];unfold Fr.get;rw[Y7 _ _ (m8 _) (m8 _)];by_cases h1:u / 64%8=t / 64%8
 ·rw[if_pos h1,Y7 _ _ (m8 _) (m8 _)];by_cases h2:u / 8%8=t / 8%8
  ·rw[if_pos h2,Y7 _ _ (m8 _) (m8 _)];by_cases h3:u%8=t%8
   ·rw[if_pos h3,if_pos (by omega)]
   ·rw[if_neg h3,if_neg (by intro h;subst h;exact h3 rfl),h1,h2]
  ·rw[if_neg h2,if_neg (by intro h;subst h;exact h2 rfl),h1]
 ·rw[if_neg h1,if_neg (by intro h;subst h;exact h1 rfl)]
theorem B1x(t:Nat):fr0.get t=undef:=by
 unfold Fr.get fr0;have h:∀ (d:Nat) {α:Type} (v:α),d<8→(sel d).get (A51 v)=v:=fun d α v hd=>by
  match d,hd with
  | 0,_|1,_|2,_|3,_|4,_|5,_|6,_|7,_=>rfl
 rw[h _ _ (m8 _),h _ _ (m8 _),h _ _ (m8 _)];rfl
theorem A1z{α β:Type}(h:Hp α)(n:Nat)(v:Option α)(k:Hp α→β):h.put n v k=k (h.set n v):=by
 unfold Hp.set Hp.put A3x;rw[O6 _ (m8 _),O6 _ (m8 _),O6 _ (m8 _),O6 _ (m8 _),O6 _ (m8 _),O6 _ (m8 _)];conv=>rhs;rw[O6 _ (m8 _),O6 _ (m8 _),O6 _ (m8 _),O6 _ (m8 _),O6 _ (m8 _)]
theorem E6{α:Type}(h:Hp α)(n m:Nat)(v:Option α)(hn:n≤H3)(hm:m≤H3):(h.set n v).get m=if m=n then v else h.get m:=by
 unfold H3 at hn hm;unfold Hp.set Hp.put A3x;rw[O6 _ (m8 _),O6 _ (m8 _),O6 _ (m8 _),O6 _ (m8 _),O6 _ (m8 _)];unfold Hp.get;rw[Y7 _ _ (m8 _) (m8 _)];by_cases h1:m / 32768%8=n / 32768%8
 ·rw[if_pos h1,Y7 _ _ (m8 _) (m8 _)];by_cases h2:m / 4096%8=n / 4096%8
  ·rw[if_pos h2,Y7 _ _ (m8 _) (m8 _)];by_cases h3:m / 512%8=n / 512%8
   ·rw[if_pos h3,Y7 _ _ (m8 _) (m8 _)];by_cases h4:m / 64%8=n / 64%8
    ·rw[if_pos h4,Y7 _ _ (m8 _) (m8 _)];by_cases h5:m / 8%8=n / 8%8
     ·rw[if_pos h5,Y7 _ _ (m8 _) (m8 _)];by_cases h6:m%8=n%8
      ·rw[if_pos h6,if_pos (by omega)]
      ·rw[if_neg h6,if_neg (by intro h;subst h;exact h6 rfl),h1,h2,h3,h4,h5]
     ·rw[if_neg h5,if_neg (by intro h;subst h;exact h5 rfl),h1,h2,h3,h4]
    ·rw[if_neg h4,if_neg (by intro h;subst h;exact h4 rfl),h1,h2,h3]
   ·rw[if_neg h3,if_neg (by intro h;subst h;exact h3 rfl),h1,h2]
  ·rw[if_neg h2,if_neg (by intro h;subst h;exact h2 rfl),h1]
 ·rw[if_neg h1,if_neg (by intro h;subst h;exact h1 rfl)]
theorem A6d{α:Type}(m:Nat):(hp0:Hp α).get m=none:=by
 have h:∀ (d:Nat) {α:Type} (v:α),d<8→(sel d).get (A51 v)=v:=fun d α v hd=>by
  match d,hd with
  | 0,_|1,_|2,_|3,_|4,_|5,_|6,_|7,_=>rfl
 unfold Hp.get hp0;rw[h _ _ (m8 _),h _ _ (m8 _),h _ _ (m8 _),h _ _ (m8 _),h _ _ (m8 _),h _ _ (m8 _)]
theorem E8{β:Type}(n:Nat)(k:Nat→β):K1 n k=k n:=by cases n<;>rfl
theorem A7H{β:Type}(i:Int)(k:Int→β):A9D i k=k i:=by cases i<;>simp[A9D,E8]
theorem H4{α β:Type}:∀ (l:List α) (k:List α→β),T4 l k=k l
 | [],k=>rfl
 | x::r,k=>by simp[T4,H4 r]
theorem A0W(k:IntKind)(n:Int):mkI k n=.int k n:=by simp[mkI,A7H]
def toV:U→Option Value
 | .int k n=>some (.int k n)
 | .bool b=>some (.bool b)
 | .str s=>some (.string ⟨⟨s⟩⟩)
 | _=>none
def L4:U→Nat
 | .int k _=>A5D k
 | .bool _=>8
 | .str _=>9
 | .seq _ w _=>10+w
 | .none=>99
def A50(E:Nat→U):Value→Option Int
 | .complex .f64 i _=>match E i with
   | .int _ n=>some n
   | _=>none
 | .int _ n=>some n
 | _=>none
class Ora where
 env:Nat→U
 G:Nat→Option Obj
variable [Ora]
structure C7X where
 blk:Nat
 sh:Nat
 cap:Nat
 len:Nat
 G:Nat→Option Obj
 on:Bool
abbrev Loc:=C7X
abbrev lc(b s c:Nat):Loc:=⟨b,s,c,0,fun _=>none,true⟩
abbrev Ren:=Nat→Option Loc
inductive Enc (G:Nat→Option Obj):U→Value→Prop
 | sc {u v} (h:toV u=some v):Enc G u v
 | nil {w}:Enc G (.seq true w []) (.slice none 0 0)
 | emp {w a}:Enc G (.seq false w []) (.slice (some a) 0 0)
 | sl {w rows a o c C T fz} (hc:rows.length≤c) (hg:rows≠[]→G a=some (.cells C T fz)) (hz:rows≠[]→o+rows.length*w≤C.size) (hw:∀ row ∈ rows,row.length=w)
    (h:∀ (r:Nat) (row:List U) (j:Nat) (u:U) (v:Value),rows[r]? = some row→row[j]? = some u→C[o+r*w+j]? = some v→Enc G u v):Enc G (.seq false w rows) (.slice (some ⟨a,o,none⟩) rows.length c)
omit [Ora] in
theorem Enc.mono{G G':Nat→Option Obj}(h:∀ k o,G k=some o→G' k=some o){u:U}{v:Value}(e:Enc G u v):Enc G' u v:=by
 induction e with
 | sc h=>exact .sc h
 | nil=>exact .nil
 | emp=>exact .emp
 | sl hc hg hz hw h1 ih=>exact .sl hc (fun hn=>h _ _ (hg hn)) hz hw ih
omit [Ora] in
theorem Enc.slice{G:Nat→Option Obj}{u:U}{v:Value}(h:Enc G u v)(h10:10≤L4 u):∃ a n c,v=.slice a n c:=by
 cases h with
 | sc h =>
   cases u with
   | int k n=>cases k<;>simp[L4,A5D]at h10
   | bool b=>simp[L4]at h10
   | str s=>simp[L4]at h10
   | none=>cases h
   | seq _ _ _=>cases h
 | nil=>exact⟨_,_,_,rfl⟩
 | emp=>exact⟨_,_,_,rfl⟩
 | sl=>exact⟨_,_,_,rfl⟩
def C0F:Value→Prop
 | .slice _ n c=>c=n
 | _=>False
def B88(ρ:Ren)(b:Nat)(u:U)(v':Value):Prop :=
 (∃ l w,ρ b=some l∧l.on=false∧u=.seq true w []∧v'=.slice none 0 0)∨(∃ l w rows,ρ b=some l∧l.on=true∧u=.seq false w rows∧rows.length=l.len∧l.len≤l.cap∧v'=.slice (some ⟨l.blk,l.sh,none⟩) l.len l.cap)
def C7B(ρ:Ren)(b:Nat)(u:U)(z:Option Int)(o:Nat)(v':Value):Prop :=
 ∃ l w rows a s c k,ρ b=some l∧u=.seq false w rows∧Enc l.G u (.slice (some ⟨a,s,none⟩) rows.length c)∧z=some (.ofNat k)∧k<rows.length∧o<w∧v'=.pointer (some ⟨a,s+k*w+o,none⟩)
def C6W(ρ:Ren)(b:Nat)(u:U)(z:Option Int)(o:Nat)(v':Value):Prop :=
 ∃ l w rows k,ρ b=some l∧l.on=true∧u=.seq false w rows∧z=some (.ofNat k)∧k<l.len∧o<w∧v'=.pointer (some ⟨l.blk,l.sh+k*w+o,none⟩)
def B7B(ρ:Ren)(b:Nat)(v':Value):Prop:=∃ l,ρ b=some l∧((l.on=false∧v'=.pointer none)∨(l.on=true∧∃ a,v'=.pointer (some a)∧(l.cap≠0→a=⟨l.blk,l.sh,none⟩)))
theorem B7B.cells{ρ:Ren}{b:Nat}{v':Value}(h:B7B ρ b v'):v'.cells=#[v']:=by
 obtain⟨l,_,⟨_,rfl⟩|⟨_,a,rfl,_⟩⟩:=h<;>rfl
def A0n:Value→Bool
 | .agg _|.tuple _=>false
 | _=>true
theorem B7B.flat{ρ:Ren}{b:Nat}{v':Value}(h:B7B ρ b v'):A0n v'=true:=by
 obtain⟨l,_,⟨_,rfl⟩|⟨_,a,rfl,_⟩⟩:=h<;>rfl
theorem A0L{v:Value}(h:A0n v=true):v.cells=#[v]:=by cases v<;>first|rfl|cases h
inductive VR (ρ:Ren):Value→Value→Prop
 | pure {v} (h:I2 v=true):VR ρ v v
 | hole {i t v'} (h:toV (Ora.env i)=some v') (ht:L4 (Ora.env i)=t):VR ρ (.complex .f64 i t) v'
 | junk {i t v'} (h:i=1→A0n v'=true):VR ρ (.complex .f32 i t) v'
 | ixp {a s n i l z v'} (h:ρ a.block=some l) (hs:a.spot=none) (hi:A50 Ora.env i=some (.ofNat z)) (hz:z<n) (hv:v'=.pointer (some ⟨l.blk,a.off+z*s+l.sh,none⟩)):VR ρ (Go.Sx.ixp a s i n) v'
 | dat {b i t v' l} (h:ρ b=some l) (he:Enc l.G (Ora.env i) v') (ht:L4 (Ora.env i)=t) (h10:10≤t) (hf:A0n v'=true):VR ρ (Go.Sx.dat b i t) v'
 | clp {b i t v' l} (h:ρ b=some l) (he:Enc l.G (Ora.env i) v') (ht:L4 (Ora.env i)=t) (h10:10≤t) (hf:A0n v'=true) (hc:C0F v'):VR ρ (Go.Sx.clp b i t) v'
 | own {b i t v'} (h:B88 ρ b (Ora.env i) v') (ht:L4 (Ora.env i)=t) (hf:A0n v'=true):VR ρ (Go.Sx.own b i t) v'
 | dpt {b i t z o v'} (h:C7B ρ b (Ora.env i) (A50 Ora.env z) o v') (ht:L4 (Ora.env i)=t) (hf:A0n v'=true):VR ρ (Go.Sx.dpt b i t z o) v'
 | opt {b i t z o v'} (h:C6W ρ b (Ora.env i) (A50 Ora.env z) o v') (ht:L4 (Ora.env i)=t) (hf:A0n v'=true):VR ρ (Go.Sx.opt b i t z o) v'
 | ptr {b o l} (h:ρ b=some l):VR ρ (.pointer (some ⟨b,o,none⟩)) (.pointer (some ⟨l.blk,o+l.sh,none⟩))
 | sl {b o l n m} (h:ρ b=some l) (hm:m<N3):VR ρ (.slice (some ⟨b,o,none⟩) n m) (.slice (some ⟨l.blk,o+l.sh,none⟩) n m)
 | op {b o l n m m'} (h:ρ b=some l) (hm:N3≤m) (hn:n≤m') (hc:m=N3→o=0→m'=l.cap):VR ρ (.slice (some ⟨b,o,none⟩) n m) (.slice (some ⟨l.blk,o+l.sh,none⟩) n m')
 | opE {a a' m'} (hs:a'.spot=none):VR ρ (.slice (some a) 0 (N3+2)) (.slice (some a') 0 m')
 | map {b l} (h:ρ b=some l):VR ρ (.map (some b)) (.map (some l.blk))
 | sdt {b v'} (h:B7B ρ b v'):VR ρ (Go.Sx.sdt b) v'
 | yv {b l} (h:ρ b=some l):VR ρ (Go.Sx.yv b) (.func (.yield l.blk) #[] #[])
 | func {f a b a' b'} (ha:a.length=a'.length) (hb:b.length=b'.length) (h1:∀ (i:Nat) (v v':Value),a[i]? = some v→a'[i]? = some v'→VR ρ v v') (h2:∀ (i:Nat) (v v':Value),b[i]? = some v→b'[i]? = some v'→VR ρ v v') :
    VR ρ (.func (.func f) ⟨a⟩ ⟨b⟩) (.func (.func f) ⟨a'⟩ ⟨b'⟩)
 | iface {t v v'} (h:VR ρ v v'):VR ρ (.iface t v) (.iface t v')
 | agg {a a'} (ha:a.length=a'.length) (h:∀ (i:Nat) (v v':Value),a[i]? = some v→a'[i]? = some v'→VR ρ v v'):VR ρ (.agg ⟨a⟩) (.agg ⟨a'⟩)
 | tuple {a a'} (ha:a.length=a'.length) (h:∀ (i:Nat) (v v':Value),a[i]? = some v→a'[i]? = some v'→VR ρ v v'):VR ρ (.tuple ⟨a⟩) (.tuple ⟨a'⟩)
theorem B9e{ρ:Ren}{b:Nat}{v':Value}(h:VR ρ (yv b) v'):∃ l,ρ b=some l∧v'=.func (.yield l.blk) #[] #[]:=by
 generalize hx:yv b=x at h;cases h with
 | yv h=>cases hx;exact⟨_,h,rfl⟩
 | pure hp=>subst hx;simp[yv,I2]at hp
 | _=>simp[yv,ixp,Go.Sx.dat,Go.Sx.clp,Go.Sx.own,Go.Sx.dpt,Go.Sx.opt,Go.Sx.sdt]at hx
theorem C17{ρ:Ren}{b:Nat}{v':Value}(h:VR ρ (sdt b) v'):B7B ρ b v':=by
 generalize hx:sdt b=x at h;cases h with
 | sdt h=>cases hx;exact h
 | pure hp=>subst hx;simp[sdt,I2]at hp
 | _=>simp[sdt,ixp,Go.Sx.dat,Go.Sx.clp,Go.Sx.own,Go.Sx.dpt,Go.Sx.opt,Go.Sx.yv]at hx
def LR(ρ:Ren)(a a':List Value):Prop:=a.length=a'.length∧∀ (i:Nat) (v v':Value),a[i]? = some v→a'[i]? = some v'→VR ρ v v'
theorem VR.mono{ρ ρ':Ren}(he:∀ b l,ρ b=some l→ρ' b=some l){v v':Value}(h:VR ρ v v'):VR ρ' v v':=by
 induction h with
 | pure h=>exact .pure h
 | hole h ht=>exact .hole h ht
 | junk h=>exact .junk h
 | ixp h hs hi hz hv=>exact .ixp (he _ _ h) hs hi hz hv
 | dat h h1 h2 h3 h4=>exact .dat (he _ _ h) h1 h2 h3 h4
 | clp h h1 h2 h3 h4 h5=>exact .clp (he _ _ h) h1 h2 h3 h4 h5
 | own h h1 h2=>exact .own (h.imp (fun⟨l,w,a,b⟩=>⟨l,w,he _ _ a,b⟩) fun⟨l,w,rows,a,b⟩=>⟨l,w,rows,he _ _ a,b⟩) h1 h2
 | dpt h h1 h2=>exact .dpt (let ⟨l,w,rows,a,s,c,k,h0,r⟩:=h;⟨l,w,rows,a,s,c,k,he _ _ h0,r⟩) h1 h2
 | opt h h1 h2=>exact .opt (let ⟨l,w,rows,k,h0,r⟩:=h;⟨l,w,rows,k,he _ _ h0,r⟩) h1 h2
 | ptr h=>exact .ptr (he _ _ h)
 | sl h hm=>exact .sl (he _ _ h) hm
 | op h hm hn hc=>exact .op (he _ _ h) hm hn hc
 | opE hs=>exact .opE hs
 | map h=>exact .map (he _ _ h)
 | yv h=>exact .yv (he _ _ h)
 | sdt h=>exact .sdt (let ⟨l,a,b⟩:=h;⟨l,he _ _ a,b⟩)
 | func ha hb h1 h2 ih1 ih2=>exact .func ha hb ih1 ih2
 | iface h ih=>exact .iface ih
 | agg ha h ih=>exact .agg ha ih
 | tuple ha h ih=>exact .tuple ha ih
theorem LR.mono{ρ ρ':Ren}(he:∀ b l,ρ b=some l→ρ' b=some l){a a':List Value}(h:LR ρ a a'):LR ρ' a a':=⟨h.1,fun i v v' h1 h2=>(h.2 i v v' h1 h2).mono he⟩
theorem LR.nil{ρ:Ren}:LR ρ [] []:=⟨rfl,fun i v v' h=>by simp at h⟩
theorem LR.cons{ρ:Ren}{v v':Value}{a a':List Value}(hv:VR ρ v v')(h:LR ρ a a'):LR ρ (v::a) (v'::a'):=by
 refine⟨by simp[h.1],fun i u u' h1 h2=>?_⟩;cases i with
 | zero=>simp at h1 h2;subst h1;subst h2;exact hv
 | succ i=>exact h.2 i u u' (by simpa using h1) (by simpa using h2)
theorem LR.append{ρ:Ren}{a a' b b':List Value}(h:LR ρ a a')(k:LR ρ b b'):LR ρ (a++b) (a'++b'):=by
 refine⟨by simp[h.1,k.1],fun i u u' h1 h2=>?_⟩;rcases G1 i a.length with hl|hl
 ·rw[E9 hl]at h1;rw[E9 (h.1▸hl)]at h2;exact h.2 i u u' h1 h2
 ·rw[E7 hl]at h1;rw[E7 (h.1▸hl),← h.1]at h2;exact k.2 _ u u' h1 h2
theorem LR.tail{ρ:Ren}{v:Value}{a a':List Value}(h:LR ρ (v::a) a'):∃ v' r',a'=v'::r'∧VR ρ v v'∧LR ρ a r':=by
 obtain⟨h1,h2⟩:=h;cases a' with
 | nil=>simp at h1
 | cons v' r'=>exact⟨v',r',rfl,h2 0 v v' rfl rfl,by simpa using h1,fun i u u' g1 g2=>h2 (i+1) u u' (by simpa using g1) (by simpa using g2)⟩
theorem LR.nil_inv{ρ:Ren}{a':List Value}(h:LR ρ [] a'):a'=[]:=G0.1 h.1.symm
theorem LR.get{ρ:Ren}{a a':List Value}(h:LR ρ a a'){i:Nat}{v:Value}(hi:a[i]? = some v):∃ v',a'[i]? = some v'∧VR ρ v v':=by
 have hl:=(A9.1 hi).1;have hl':i<a'.length:=h.1▸hl;exact⟨a'[i],A6 hl',h.2 i v _ hi (A6 hl')⟩
theorem LR.drop{ρ:Ren}{a a':List Value}(h:LR ρ a a')(n:Nat):LR ρ (a.drop n) (a'.drop n):=⟨by simp[h.1],fun i u u' h1 h2=>by
 rw[H9]at h1 h2;exact h.2 _ u u' h1 h2⟩
theorem LR.take{ρ:Ren}{a a':List Value}(h:LR ρ a a')(n:Nat):LR ρ (a.take n) (a'.take n):=⟨by simp[h.1],fun i u u' h1 h2=>by
 have hi:i<n:=by
  have:=(A9.1 h1).1;simp at this;omega
 rw[F5 hi]at h1 h2;exact h.2 _ u u' h1 h2⟩
theorem LR.set{ρ:Ren}{a a':List Value}(h:LR ρ a a'){v v':Value}(hv:VR ρ v v')(n:Nat):LR ρ (a.set n v) (a'.set n v'):=⟨by simp[h.1],fun i u u' h1 h2=>by
 by_cases e:n=i
 ·subst e;have hl:=(A9.1 h1).1;simp at hl;rw[Z2 hl]at h1;rw[Z2 (h.1▸hl)]at h2;cases h1;cases h2;exact hv
 ·rw[A1N e]at h1 h2;exact h.2 _ u u' h1 h2⟩
theorem LR.all_pure{ρ:Ren}:∀ {a:List Value},a.all I2=true→LR ρ a a
 | [],_=>.nil
 | v::r,h=>by simp only[A06,I0]at h;exact .cons (.pure h.1) (LR.all_pure h.2)
theorem VR.ofC{ρ:Ren}{v:Value}(h:B3D v=true):VR ρ v v:=by
 cases v with
 | agg cs =>
   obtain⟨l⟩:=cs;have:LR ρ l l:=LR.all_pure h;exact .agg this.1 this.2
 | _=>exact .pure h
omit [Ora] in
theorem A2w{u:U}{v:Value}(h:toV u=some v):I2 v=true:=by
 cases u<;>cases h<;>rfl
theorem B4z{v:Value}(h:I2 v=true):v.cells=#[v]:=by cases v<;>first|rfl|cases h
theorem VR.cells{ρ:Ren}{v v':Value}(h:VR ρ v v')(hj:A3X v=false):LR ρ v.cells.toList v'.cells.toList:=by
 have one:∀ {v v':Value},VR ρ v v'→LR ρ [v] [v']:=fun h=>.cons h .nil
 cases h with
 | agg ha h=>exact⟨ha,h⟩
 | junk h =>
   have h1:=A2 (by simpa [A3X]using hj);rw[A0L (h h1)];exact one (.junk h)
 | hole h ht=>rw[B4z (A2w h)];exact one (.hole h ht)
 | ixp h hs hi hz hv=>subst hv;exact one (.ixp h hs hi hz rfl)
 | pure hp =>
   cases v with
   | agg cs=>simp[I2]at hp
   | _=>exact one (.pure hp)
 | dat h h1 h2 h3 h4=>rw[A0L h4];exact one (.dat h h1 h2 h3 h4)
 | clp h h1 h2 h3 h4 h5=>rw[A0L h4];exact one (.clp h h1 h2 h3 h4 h5)
 | own h h1 h2=>rw[A0L h2];exact one (.own h h1 h2)
 | dpt h h1 h2=>rw[A0L h2];exact one (.dpt h h1 h2)
 | opt h h1 h2=>rw[A0L h2];exact one (.opt h h1 h2)
 | ptr h=>exact one (.ptr h)
 | sl h hm=>exact one (.sl h hm)
 | op h hm hn hc=>exact one (.op h hm hn hc)
 | opE hs=>exact one (.opE hs)
 | map h=>exact one (.map h)
 | yv h=>exact one (.yv h)
 | sdt h=>rw[h.cells];exact one (.sdt h)
 | func ha hb h1 h2=>exact one (.func ha hb h1 h2)
 | iface h=>exact one (.iface h)
 | tuple ha h=>exact one (.tuple ha h)
def AB.on:AB→Bool
 | .frz=>false
 | _=>true
def AB.rw:AB→Bool
 | .cells _ _ ro=>!ro
 | .sq _ _ _ _ ro=>!ro
 | .frz=>false
 | _=>true
theorem AB.rw_on{ab:AB}(h:ab.rw=true):ab.on=true:=by
 cases ab<;>first|rfl|cases h
def Tc(ab:AB)(l:Loc)(k:Nat):Prop:=(ab.on=true∧l.on=true∧l.blk=k)∨(ab=.frz∧∃ o,l.G k=some o)
def ER(ρ:Ren)(e e':MapEntry):Prop:=e'.key=e.key∧B3D e.key=true∧e'.born=e.born∧VR ρ e.val e'.val
def C7V(P:Program)(ρ:Ren)(u:U)(wd:Nat)(T:TypeId)(g:Nat)(ro:Bool)(l:Loc)(w:World):Prop :=
 ∃ C fz T' rows lg,w.heap[l.blk]? = some (.cells C T' fz)∧u=.seq false wd rows∧rows.length=l.len∧l.len≤l.cap∧l.sh+l.cap*wd≤C.size∧(∀ row ∈ rows,row.length=wd)∧ρ g=some lg ∧
  (∀ (r:Nat) (row:List U) (j:Nat) (x:U) (v:Value),rows[r]? = some row→row[j]? = some x→C[l.sh+r*wd+j]? = some v→Enc lg.G x v) ∧
  (ro=false→T'=T∧∀ i,i<C.size→¬ (fz.1≤i∧i<fz.2))
structure SqR (P:Program) (ρ:Ren) (u:U) (t:Nat) (T:TypeId) (g:Nat) (ro:Bool) (l:Loc) (w:World):Prop where
 ex:∃ wd inf,t=10+wd∧P.info? T=some inf∧inf.size=wd∧((l.on=false∧u=.seq true wd [])∨(l.on=true∧C7V P ρ u wd T g ro l w))
def StR(st:Nat)(s:LoopState)(p:Option Code):Prop :=
 match st with
 | 0=>s=.ready∧p=none
 | 1=>s=.busy
 | 2=>s=.done∧p=some .ret
 | 3=>True
 | k+4=>s=.done∧p=some (.exit k)
structure LpR (P:Program) (ρ:Ren) (f:FuncId) (q:List Bool) (vs:List Value) (st:Nat) (r:Loop):Prop where
 code:∃ fn body x,P.funcs[f]? = some fn∧fn.body=some body∧G3 q body=some (.rangeFunc x r.params r.assign r.body)∧vs.length=fn.ntmps
 fr:LR ρ vs r.tmps.toList
 st:StR st r.state r.pending
theorem LpR.mono{P:Program}{ρ ρ':Ren}(he:∀ b l,ρ b=some l→ρ' b=some l){f:FuncId}{q:List Bool}{vs:List Value}{st:Nat}{r:Loop}(h:LpR P ρ f q vs st r):LpR P ρ' f q vs st r:=⟨h.code,h.fr.mono he,h.st⟩
def BR(P:Program)(ρ:Ren)(ab:AB)(l:Loc)(w:World):Prop :=
 match ab with
 | .cells cs T ro=>l.on=true∧∃ C fz T',w.heap[l.blk]? = some (.cells C T' fz)∧(∀ i v,cs[i]? = some v→∃ v',C[l.sh+i]? = some v'∧VR ρ v v') ∧
    (ro=false→T'=T∧(∀ i,i<C.size→¬ (fz.1≤i∧i<fz.2))∧∀ inf,P.info? T=some inf→l.sh+l.cap*inf.size≤C.size∧l.sh%inf.size=0)
 | .map es clock=>(l.on=true∧l.sh=0)∧∃ es':Array MapEntry,w.heap[l.blk]? = some (.map es' clock)∧es.length=es'.size∧∀ (i:Nat) (e e':MapEntry),es[i]? = some e→es'[i]? = some e'→ER ρ e e'
 | .iter s pos=>(l.on=true∧l.sh=0)∧w.heap[l.blk]? = some (.stringIter s pos)
 | .sq c t T g ro=>SqR P ρ (Ora.env c) t T g ro l w
 | .lp f q vs st=>(l.on=true∧l.sh=0)∧∃ r,w.heap[l.blk]? = some (.loop r)∧LpR P ρ f q vs st r
 | .dfr b=>(l.on=true∧l.sh=0)∧∃ x,w.heap[l.blk]? = some (.deferred x)∧(b=true→x=some [])
 | .frz=>l.on=false∧∀ k o,l.G k=some o→w.heap[k]? = some o
theorem BR.mono{P:Program}{ρ ρ':Ren}(he:∀ b l,ρ b=some l→ρ' b=some l){ab:AB}{l:Loc}{w w':World}(hw:∀ k,Tc ab l k→w'.heap[k]? = w.heap[k]?)(h:BR P ρ ab l w):BR P ρ' ab l w':=by
 cases ab with
 | cells cs T ro =>
   obtain⟨h0,C,fz,T',h1,h2,h3⟩:=h;exact⟨h0,C,fz,T',(hw _ (.inl ⟨rfl,h0,rfl⟩)).trans h1,fun i v hi=>let ⟨v',a,b⟩:=h2 i v hi;⟨v',a,b.mono he⟩,h3⟩
 | map es clock =>
   obtain⟨h0,es',h1,h2,h3⟩:=h;exact⟨h0,es',(hw _ (.inl ⟨rfl,h0.1,rfl⟩)).trans h1,h2,fun i e e' g1 g2=>let ⟨a,b,c,d⟩:=h3 i e e' g1 g2;⟨a,b,c,d.mono he⟩⟩
 | iter s pos=>exact⟨h.1,(hw _ (.inl ⟨rfl,h.1.1,rfl⟩)).trans h.2⟩
 | lp f q vs st=>obtain⟨h0,r,h1,h2⟩:=h;exact⟨h0,r,(hw _ (.inl ⟨rfl,h0.1,rfl⟩)).trans h1,h2.mono he⟩
 | dfr b=>obtain⟨h0,x,h1,h2⟩:=h;exact⟨h0,x,(hw _ (.inl ⟨rfl,h0.1,rfl⟩)).trans h1,h2⟩
 | sq c t T g ro =>
   obtain⟨wd,inf,h1,h2,h3,h4⟩:=SqR.ex h;refine⟨⟨wd,inf,h1,h2,h3,h4.imp (fun x=>x) fun⟨hon,h5⟩=>⟨hon,?_⟩⟩⟩;obtain⟨C,fz,T',rows,lg,h1,h2,h3,h4,h5,h6,h7,h8,h9⟩:=h5;exact⟨C,fz,T',rows,lg,(hw _ (.inl ⟨rfl,hon,rfl⟩)).trans h1,h2,h3,h4,h5,h6,he _ _ h7,h8,h9⟩
 | frz=>exact⟨h.1,fun k o hk=>(hw k (.inr ⟨rfl,o,hk⟩)).trans (h.2 k o hk)⟩
structure HR (P:Program) (base:Nat) (ρ:Ren) (H:Hp AB) (w:World):Prop where
 dom:∀ b l,ρ b=some l→b≤H3
 at_:∀ id,id≤H3→∀ ab,Hp.get H id=some ab→∃ l,ρ id=some l∧BR P ρ ab l w∧(ab.rw=true→l.on=true→base≤l.blk∧∀ id2,id2≤H3→∀ ab2 l2,Hp.get H id2=some ab2→ρ id2=some l2→Tc ab2 l2 l.blk→id2=id)
theorem BR.tc{P:Program}{ρ:Ren}{ab:AB}{l:Loc}{w:World}(h:BR P ρ ab l w){k:Nat}(ht:Tc ab l k):k<w.heap.size:=by
 have key:∀ k o,w.heap[k]? = some o→k<w.heap.size:=fun k o ho=>(D7.1 ho).1
 rcases ht with⟨h1,hon,rfl⟩|⟨rfl,o,h1⟩
 ·cases ab with
  | cells cs T ro=>obtain⟨_,C,fz,T',h1,_⟩:=h;exact key _ _ h1
  | map es clock=>obtain⟨h0,es',h1,_⟩:=h;exact key _ _ h1
  | iter s pos=>exact key _ _ h.2
  | lp f q vs st=>obtain⟨_,r,h1,_⟩:=h;exact key _ _ h1
  | dfr b=>obtain⟨_,x,h1,_⟩:=h;exact key _ _ h1
  | sq c t T g ro =>
    obtain⟨wd,inf,_,_,_,h4⟩:=SqR.ex h;rcases h4 with⟨h5,_⟩|⟨_,h5⟩
    ·rw[hon]at h5;cases h5
    ·obtain⟨C,fz,T',rows,lg,h1,_⟩:=h5;exact key _ _ h1
  | frz=>cases h1
 ·exact key _ _ (h.2 k o h1)
theorem HR.atl{P:Program}{base:Nat}{ρ:Ren}{H:Hp AB}{w:World}(h:HR P base ρ H w){id:Nat}{l:Loc}(hl:ρ id=some l){ab:AB}(hg:Hp.get H id=some ab) :
  BR P ρ ab l w∧(ab.rw=true→l.on=true→base≤l.blk∧∀ id2,id2≤H3→∀ ab2 l2,Hp.get H id2=some ab2→ρ id2=some l2→Tc ab2 l2 l.blk→id2=id):=by
 obtain⟨l0,h1,h2,h3⟩:=h.at_ id (h.dom id l hl) ab hg;rw[hl]at h1
 have:=A8 h1;subst this;exact⟨h2,h3⟩
theorem HR.sub{P:Program}{base:Nat}{ρ:Ren}{H H':Hp AB}{w:World}(h:HR P base ρ H w)(hs:∀ id,id≤H3→∀ ab,Hp.get H' id=some ab→Hp.get H id=some ab):HR P base ρ H' w :=
 ⟨h.dom,fun id hid ab hab=>let ⟨l,a,b,c⟩:=h.at_ id hid ab (hs id hid ab hab);⟨l,a,b,fun hr ho=>⟨(c hr ho).1,fun id2 hid2 ab2 l2 g=>(c hr ho).2 id2 hid2 ab2 l2 (hs id2 hid2 ab2 g)⟩⟩⟩
def AB.fr:AB→Bool
 | .cells _ _ ro=>!ro
 | _=>true
theorem AB.rw_fr{ab:AB}(h:ab.rw=true):ab.fr=true:=by
 cases ab<;>first|rfl|exact h
def Tf(ab:AB)(l:Loc)(k:Nat):Prop:=ab.fr=true∧Tc ab l k
def Fp(ρ:Ren)(H:Hp AB)(k:Nat):Prop:=∃ id ab l,id≤H3∧Hp.get H id=some ab∧ρ id=some l∧Tf ab l k
structure St (P:Program) (base:Nat) (ρ ρ':Ren) (m m':Mem) (w w':World):Prop where
 ext:∀ b l,ρ b=some l→ρ' b=some l
 new:∀ b l,ρ' b=some l→ρ b=none→m.n≤b∧b<m'.n
 nle:m.n≤m'.n
 hle:m.hi≤m'.hi
 nhi:m.n≤m.hi→m'.n≤m'.hi
 hr:HR P base ρ' m'.H w'
 wsub:∀ b ∈ m.W,b ∈ m'.W
 wrw:∀ b ∈ m'.W,b ∉ m.W→∀ l,ρ b=some l→∃ ab,Hp.get m.H b=some ab∧ab.rw=true
 keep:∀ k,k<w.heap.size→(∀ b ∈ m'.W,∀ l,ρ b=some l→l.on=true→l.blk≠k)→w'.heap[k]? = w.heap[k]?
 size:w.heap.size≤w'.heap.size
 os:w'.os=w.os∧w'.tape=w.tape∧w'.output=w.output
 blk:∀ b l,ρ' b=some l→ρ b=none→l.on=true→w.heap.size≤l.blk∨∃ b0 ∈ m'.W,∃ l0,ρ b0=some l0∧l0.on=true∧l0.blk=l.blk
 same:∀ id,id≤H3→id ∉ m'.W→(id<m.n∨m'.hi≤id)→Hp.get m'.H id=Hp.get m.H id
 tch:∀ k,Fp ρ' m'.H k→w.heap.size≤k∨Fp ρ m.H k
def K4(ρ:Ren)(n hi:Nat):Prop:=∀ b,n≤b→b<hi→ρ b=none
theorem St.refl{P:Program}{base:Nat}{ρ:Ren}{m:Mem}{w:World}(h:HR P base ρ m.H w):St P base ρ ρ m m w w :=
 ⟨fun _ _ h=>h,fun b l h1 h2=>(by rw[h1]at h2;cases h2),A7 _,A7 _,fun h=>h,h,fun _ h=>h,fun b h1 h2=>absurd h1 h2,fun _ _ _=>rfl,A7 _,⟨rfl,rfl,rfl⟩,fun b l h1 h2=>(by rw[h1]at h2;cases h2),fun _ _ _ _=>rfl,fun _ h=>.inr h⟩
theorem St.trans{P:Program}{base:Nat}{ρ ρ1 ρ2:Ren}{m m1 m2:Mem}{w w1 w2:World}(hf:K4 ρ m.n m2.hi)(a:St P base ρ ρ1 m m1 w w1)(c:St P base ρ1 ρ2 m1 m2 w1 w2):St P base ρ ρ2 m m2 w w2:=by
 refine⟨fun b l h=>c.ext b l (a.ext b l h),fun b l h1 h2=>?_,B7 a.nle c.nle,B7 a.hle c.hle,fun h=>c.nhi (a.nhi h),c.hr,fun b h=>c.wsub b (a.wsub b h),fun b h1 h2 l hl=>?_,fun k hk hb=>?_,B7 a.size c.size,⟨c.os.1.trans a.os.1,c.os.2.1.trans a.os.2.1,c.os.2.2.trans a.os.2.2⟩,fun b l h1 h2 hon=>?_,fun id hid h1 h2=>?_,fun k hk=>(c.tch k hk).elim (fun h=>.inl (B7 a.size h)) (a.tch k)⟩
 ·cases h:ρ1 b with
  | some l1=>exact⟨(a.new b l1 h h2).1,D4 (a.new b l1 h h2).2 c.nle⟩
  | none=>exact⟨B7 a.nle (c.new b l h1 h).1,(c.new b l h1 h).2⟩
 ·by_cases h:b ∈ m1.W
  ·exact a.wrw b h h2 l hl
  ·obtain⟨ab,h3,h4⟩:=c.wrw b h1 h l (a.ext b l hl);refine⟨ab,?_,h4⟩;rw[← a.same b (a.hr.dom b l (a.ext b l hl)) h ?_]
   ·exact h3
   ·rcases G1 b m.n with hlt|hge
    ·exact .inl hlt
    ·refine .inr ?_;rcases G1 b m2.hi with h5|h5
     ·rw[hf b hge h5]at hl;cases hl
     ·exact B7 c.hle h5
 ·have h1:w1.heap[k]? = w.heap[k]? := a.keep k hk fun b hbm l hl ho=>hb b (c.wsub b hbm) l hl ho
  rw[← h1];refine c.keep k (D4 hk a.size) fun b hbm l hl ho=>?_
  cases h:ρ b with
  | some l0 =>
    have:=a.ext b l0 h;rw[this]at hl;have hl:=A8 hl;subst hl;exact hb b hbm l0 h ho
  | none =>
    rcases a.blk b l hl h ho with h5|⟨b0,h5,l0,h6,h60,h7⟩
    ·omega
    ·rw[← h7];exact hb b0 (c.wsub b0 h5) l0 h6 h60
 ·cases h:ρ1 b with
  | some l1 =>
    have:=c.ext b l1 h;rw[this]at h1;have h1:=A8 h1;subst h1;rcases a.blk b l1 h h2 hon with h5|⟨b0,h5,l0,h6,h7⟩
    ·exact .inl h5
    ·exact .inr ⟨b0,c.wsub b0 h5,l0,h6,h7⟩
  | none =>
    rcases c.blk b l h1 h hon with h5|⟨b0,h5,l0,h6,h60,h7⟩
    ·exact .inl (B7 a.size h5)
    ·cases h8:ρ b0 with
     | some l1 =>
       have:=a.ext b0 l1 h8;rw[this]at h6;have h6:=A8 h6;subst h6;exact .inr ⟨b0,h5,l1,h8,h60,h7⟩
     | none =>
       rcases a.blk b0 l0 h6 h8 h60 with h9|⟨b1,h9,l1,h10,h100,h11⟩
       ·exact .inl (h7▸h9)
       ·exact .inr ⟨b1,c.wsub b1 h9,l1,h10,h100,h11.trans h7⟩
 ·have h3:id ∉ m1.W:=fun h=>h1 (c.wsub id h)
  rw[c.same id hid h1 (h2.imp (fun h=>D4 h a.nle) fun h=>h),a.same id hid h3 (h2.imp (fun h=>h) fun h=>B7 c.hle h)]
end Go.Sx
