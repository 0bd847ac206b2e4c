/- The law KeysEncodes: for every input the call returns true, and the arguments read behind it as they read before. No condition. -/
import Derived.WalkKit
import Derived.OrdersHeld
import Derived.KernelRfl
namespace Go.Sx
set_option linter.all false
set_option linter.unusedVariables false
open Go
abbrev A1T:=@Array.all_eq_true'
abbrev J0:=@Array.ext'
abbrev B7:=@Array.getD_eq_getD_getElem?
abbrev S6:=@Array.getElem?_append_left
abbrev G2:=@Array.getElem?_eq_getElem
abbrev D7:=@Array.getElem?_eq_some_iff
abbrev G9:=@Array.getElem?_modify
abbrev Z6:=@Array.getElem?_push
abbrev A1w:=@Array.getElem?_replicate
abbrev F8:=@Array.getElem?_setIfInBounds
abbrev T4:=@Array.getElem?_toList
abbrev R2:=@Array.length_toList
abbrev A1W:=@Array.mapM_eq_mapM_toList
abbrev Y3:=@Array.mk.injEq
abbrev y8:=@BitVec.toNat_and
abbrev S5:=@BitVec.toNat_ofInt
abbrev I1:=@Bool.and_eq_true
abbrev A1v:=@Bool.and_true
abbrev K6:=@Bool.eq_iff_iff
abbrev J5:=@Bool.false_eq_true
abbrev Q5:=@Bool.false_or
abbrev O6:=@Bool.not_true
abbrev Y2:=@Bool.or_eq_false_iff
abbrev I9:=@Bool.or_eq_true
abbrev F6:=@Decidable.not_not
abbrev A2x:=@Int.ofNat.injEq
abbrev U3:=@Int.toNat_natCast
abbrev Z5:=@Int.toNat_of_nonneg
abbrev A2w:=@List.all_append
abbrev A0H:=@List.all_cons
abbrev D9:=@List.all_eq_true
abbrev d9:=@List.any_cons
abbrev V6:=@List.any_eq_true
abbrev X6:=@List.append_assoc
abbrev B1:=@List.cons.injEq
abbrev Y8:=@List.cons_append
abbrev A1S:=@List.drop_drop
abbrev Z0:=@List.drop_eq_getElem_cons
abbrev A1R:=@List.drop_zero
abbrev y7:=@List.eq_nil_iff_forall_not_mem
abbrev M7:=@List.eq_nil_of_length_eq_zero
abbrev v7:=@List.ext_getElem?
abbrev A0f:=@List.filter_eq_self
abbrev A0a:=@List.find?_cons
abbrev A1p:=@List.flatMap_cons
abbrev C4:=@List.getD_eq_getElem?_getD
abbrev F1:=@List.getElem?_append_left
abbrev E4:=@List.getElem?_append_right
abbrev Q8:=@List.getElem?_cons_succ
abbrev Q7:=@List.getElem?_cons_zero
abbrev H7:=@List.getElem?_drop
abbrev A6:=@List.getElem?_eq_getElem
abbrev P4:=@List.getElem?_eq_none
abbrev A1V:=@List.getElem?_eq_none_iff
abbrev B3:=@List.getElem?_eq_some_iff
abbrev H6:=@List.getElem?_map
abbrev A0S:=@List.getElem?_set_ne
abbrev W5:=@List.getElem?_set_self
abbrev F5:=@List.getElem?_take_of_lt
abbrev J7:=@List.getElem?_toArray
abbrev P8:=@List.getElem_mem
abbrev Z4:=@List.getElem_of_mem
abbrev A2:=@List.length_append
abbrev A4:=@List.length_cons
abbrev C3:=@List.length_drop
abbrev G1:=@List.length_eq_zero_iff
abbrev G4:=@List.length_map
abbrev A3:=@List.length_nil
abbrev A2v:=@List.length_set
abbrev B2:=@List.length_take
abbrev X0:=@List.map_append
abbrev E0:=@List.map_cons
abbrev H5:=@List.map_nil
abbrev C5:=@List.mem_append
abbrev B5:=@List.mem_cons
abbrev C9:=@List.mem_cons_of_mem
abbrev B9:=@List.mem_cons_self
abbrev R0:=@List.mem_filter
abbrev Q4:=@List.mem_map
abbrev E3:=@List.mem_of_getElem?
abbrev v6:=@List.mem_range
abbrev T8:=@List.nil_append
abbrev E5:=@List.not_mem_nil
abbrev w8:=@List.take_append_drop
abbrev A0G:=@Nat.add_assoc
abbrev A2j:=@Nat.add_comm
abbrev H4:=@Nat.add_mul
abbrev V5:=@Nat.add_sub_cancel_left
abbrev A2J:=@Nat.and_le_right
abbrev A0o:=@Nat.beq_refl
abbrev A4o:=@Nat.ble_eq
abbrev C8:=@Nat.ble_eq_true_of_le
abbrev A0:=@Nat.eq_of_beq_eq_true
abbrev S4:=@Nat.eq_zero_or_pos
abbrev A1:=@Nat.le_of_ble_eq_true
abbrev A2i:=@Nat.le_of_lt
abbrev B0:=@Nat.le_refl
abbrev n9:=@Nat.le_succ
abbrev C6:=@Nat.le_trans
abbrev D6:=@Nat.lt_of_lt_of_le
abbrev F9:=@Nat.lt_or_ge
abbrev J4:=@Nat.lt_succ_self
abbrev A2I:=@Nat.mod_eq_of_lt
abbrev A4n:=@Nat.mod_lt
abbrev Y7:=@Nat.mul_comm
abbrev l9:=@Nat.mul_div_cancel
abbrev A3i:=@Nat.mul_le_mul
abbrev F7:=@Nat.mul_le_mul_right
abbrev A1o:=@Nat.one_mul
abbrev A2h:=@Nat.sub_self
abbrev X5:=@Nat.succ_le_of_lt
abbrev F3:=@Nat.zero_add
abbrev A0R:=@Nat.zero_le
abbrev A2g:=@Nat.zero_mul
abbrev L7:=@Option.bind_eq_some_iff
abbrev S1:=@Option.bind_some
abbrev y6:=@Option.getD_some
abbrev u9:=@Option.map_eq_some_iff
abbrev L5:=@Option.map_some
abbrev A9:=@Option.some.inj
abbrev D3:=@Option.some.injEq
abbrev L6:=@Option.some_ne_none
abbrev O5:=@Prod.mk.injEq
structure N8 (α:Type) where
 c0:α
 c1:α
 c2:α
 c3:α
 c4:α
 c5:α
 c6:α
 c7:α
structure Sel where
 get:{α:Type}→N8 α→α
 upd:{α β:Type}→N8 α→α→(N8 α→β)→β
def sel:Nat→Sel
 | 0=>⟨fun n=>n.c0,fun n v k=>match n with|⟨a0,a1,a2,a3,a4,a5,a6,a7⟩=>k ⟨v,a1,a2,a3,a4,a5,a6,a7⟩⟩
 | 1=>⟨fun n=>n.c1,fun n v k=>match n with|⟨a0,a1,a2,a3,a4,a5,a6,a7⟩=>k ⟨a0,v,a2,a3,a4,a5,a6,a7⟩⟩
 | 2=>⟨fun n=>n.c2,fun n v k=>match n with|⟨a0,a1,a2,a3,a4,a5,a6,a7⟩=>k ⟨a0,a1,v,a3,a4,a5,a6,a7⟩⟩
 | 3=>⟨fun n=>n.c3,fun n v k=>match n with|⟨a0,a1,a2,a3,a4,a5,a6,a7⟩=>k ⟨a0,a1,a2,v,a4,a5,a6,a7⟩⟩
 | 4=>⟨fun n=>n.c4,fun n v k=>match n with|⟨a0,a1,a2,a3,a4,a5,a6,a7⟩=>k ⟨a0,a1,a2,a3,v,a5,a6,a7⟩⟩
 | 5=>⟨fun n=>n.c5,fun n v k=>match n with|⟨a0,a1,a2,a3,a4,a5,a6,a7⟩=>k ⟨a0,a1,a2,a3,a4,v,a6,a7⟩⟩
 | 6=>⟨fun n=>n.c6,fun n v k=>match n with|⟨a0,a1,a2,a3,a4,a5,a6,a7⟩=>k ⟨a0,a1,a2,a3,a4,a5,v,a7⟩⟩
 | _=>⟨fun n=>n.c7,fun n v k=>match n with|⟨a0,a1,a2,a3,a4,a5,a6,a7⟩=>k ⟨a0,a1,a2,a3,a4,a5,a6,v⟩⟩
def A4m{α:Type}(v:α):N8 α:=⟨v,v,v,v,v,v,v,v⟩
def B0a{α β:Type}(n:N8 α)(k:N8 α→β):β :=
 match n with
 | ⟨a0,a1,a2,a3,a4,a5,a6,a7⟩=>k ⟨a0,a1,a2,a3,a4,a5,a6,a7⟩
abbrev Fr:=N8 (N8 (N8 Value))
def Fr.get(fr:Fr)(t:Nat):Value:=(sel (t%8)).get ((sel (t / 8%8)).get ((sel (t / 64%8)).get fr))
def A6a{β:Type}(a b c:Sel)(v:Value)(fr:Fr)(k:Fr→β):β :=
 c.upd (b.get (a.get fr)) v fun n2=>b.upd (a.get fr) n2 fun n1=>a.upd fr n1 k
def Fr.set(fr:Fr)(t:Nat)(v:Value):Fr:=A6a (sel (t / 64%8)) (sel (t / 8%8)) (sel (t%8)) v fr fun fr=>fr
def fr0:Fr:=A4m (A4m (A4m (.tuple #[])))
abbrev Hp(α:Type):=N8 (N8 (N8 (N8 (N8 (N8 (Option α))))))
def Hp.get{α:Type}(h:Hp α)(n:Nat):Option α :=
 (sel (n%8)).get ((sel (n / 8%8)).get ((sel (n / 64%8)).get ((sel (n / 512%8)).get ((sel (n / 4096%8)).get ((sel (n / 32768%8)).get h)))))
def x9{α β:Type}(a b c d e f:Sel)(v:Option α)(h:Hp α)(k:Hp α→β):β :=
 f.upd (e.get (d.get (c.get (b.get (a.get h))))) v fun n5=>e.upd (d.get (c.get (b.get (a.get h)))) n5 fun n4=>d.upd (c.get (b.get (a.get h))) n4 fun n3=>c.upd (b.get (a.get h)) n3 fun n2=>b.upd (a.get h) n2 fun n1=>a.upd h n1 k
def Hp.put{α β:Type}(h:Hp α)(n:Nat)(v:Option α)(k:Hp α→β):β :=
 x9 (sel (n / 32768%8)) (sel (n / 4096%8)) (sel (n / 512%8)) (sel (n / 64%8)) (sel (n / 8%8)) (sel (n%8)) v h k
def Hp.set{α:Type}(h:Hp α)(n:Nat)(v:Option α):Hp α:=h.put n v fun h=>h
def hp0{α:Type}:Hp α:=A4m (A4m (A4m (A4m (A4m (A4m none)))))
def H1:Nat:=262143
def K0{β:Type}(n:Nat)(k:Nat→β):β :=
 match n with
 | 0=>k 0
 | m+1=>k (Nat.succ m)
def A7k{β:Type}(i:Int)(k:Int→β):β :=
 match i with
 | .ofNat n=>K0 n fun n=>k (.ofNat n)
 | .negSucc n=>K0 n fun n=>k (.negSucc n)
def Q9{α β:Type}:List α→(List α→β)→β
 | [],k=>k []
 | x::r,k=>Q9 r fun r=>k (x::r)
def B22:IntKind→Nat
 | .i8=>127|.i16=>32767|.i32=>2147483647|.i64=>9223372036854775807
 | .u8=>255|.u16=>65535|.u32=>4294967295|.u64=>18446744073709551615
def A8l(k:IntKind)(n:Int):Int :=
 match n with
 | .ofNat m=>bif Nat.ble m (B22 k)then .ofNat m else k.wrap (.ofNat m)
 | .negSucc m=>k.wrap (.negSucc m)
def C4A(a b:Int):Int :=
 match a,b with
 | .ofNat m,.ofNat n=>.ofNat (Nat.add m n)
 | a,b=>a+b
def C2N(a b:Int):Int :=
 match a,b with
 | .ofNat m,.ofNat n=>bif Nat.ble n m then .ofNat (Nat.sub m n)else .ofNat m - .ofNat n
 | a,b=>a-b
def C3S(a b:Int):Int :=
 match a,b with
 | .ofNat m,.ofNat n=>.ofNat (Nat.mul m n)
 | a,b=>a*b
def ltF(a b:Int):Bool :=
 match a,b with
 | .ofNat m,.ofNat n=>Nat.blt m n
 | .negSucc _,.ofNat _=>true
 | .ofNat _,.negSucc _=>false
 | .negSucc m,.negSucc n=>Nat.blt n m
def leF(a b:Int):Bool :=
 match a,b with
 | .ofNat m,.ofNat n=>Nat.ble m n
 | .negSucc _,.ofNat _=>true
 | .ofNat _,.negSucc _=>false
 | .negSucc m,.negSucc n=>Nat.ble n m
def A8g(a b:Int):Bool :=
 match a,b with
 | .ofNat m,.ofNat n=>Nat.beq m n
 | .negSucc m,.negSucc n=>Nat.beq m n
 | _,_=>false
def A7H:IntKind→IntKind→Bool
 | .i8,.i8|.i16,.i16|.i32,.i32|.i64,.i64|.u8,.u8|.u16,.u16|.u32,.u32|.u64,.u64=>true
 | _,_=>false
def mkI(k:IntKind)(n:Int):Value:=A7k n fun n=>.int k n
inductive U where
 | none
 | int (k:IntKind) (n:Int)
 | bool (b:Bool)
 | str (s:List UInt8)
 | seq (nul:Bool) (w:Nat) (rows:List (List U))
inductive LOp where
 | bin (op:BinOp)
 | un (op:UnOp)
 | conv (k:IntKind)
 | len
 | idx
 | sub
 | sub1
 | sel
 | eqs
 | inb
 | max
 | min
 | mks
 | inbs (w:Nat)
 | get (w o:Nat)
 | mk (w:Nat)
 | nilw (w:Nat)
 | nilp
 | snoc (w:Nat)
 | cat (w:Nat)
 | cats
 | set (w o:Nat)
 | subs (w:Nat)
 | str
 | byt
 | rep (w:Nat)
 | ustr
 | mhas (w kw:Nat)
 | mget (w kw o:Nat)
 | mput (w kw:Nat)
inductive d7 where
 | lt (i t:Nat) (op:LOp) (xs:List Value)
 | dt (i t:Nat) (op:LOp) (xs:List Value)
 | br (i:Nat) (b:Bool)
 | as (op:LOp) (xs:List Value)
 | con (spec:List U→Option (Nat×List U)) (xs:List Value) (i d n:Nat)
structure Lg where
 nx:Nat
 pi:List Nat
 log:List d7
def hole(i t:Nat):Value:=.complex .f64 i t
def junk:Value:=.complex .f32 0 0
def ixp(a:Addr)(s:Nat)(i:Value)(n:Nat):Value:=.func (.yield 1) ⟨[.pointer (some a),.int .i64 (.ofNat s),i,.int .i64 (.ofNat n)]⟩ ⟨[]⟩
def dat(b i t:Nat):Value:=.func (.yield 2) ⟨[.pointer (some ⟨b,0,none⟩),.complex .f64 i t]⟩ ⟨[]⟩
def clp(b i t:Nat):Value:=.func (.yield 3) ⟨[.pointer (some ⟨b,0,none⟩),.complex .f64 i t]⟩ ⟨[]⟩
def own(b i t:Nat):Value:=.func (.yield 4) ⟨[.pointer (some ⟨b,0,none⟩),.complex .f64 i t]⟩ ⟨[]⟩
def dpt(b i t:Nat)(z:Value)(o:Nat):Value:=.func (.yield 5) ⟨[.pointer (some ⟨b,0,none⟩),.complex .f64 i t,z,.int .i64 (.ofNat o)]⟩ ⟨[]⟩
def opt(b i t:Nat)(z:Value)(o:Nat):Value:=.func (.yield 6) ⟨[.pointer (some ⟨b,0,none⟩),.complex .f64 i t,z,.int .i64 (.ofNat o)]⟩ ⟨[]⟩
def yv(b:Nat):Value:=.func (.yield 7) ⟨[.pointer (some ⟨b,0,none⟩)]⟩ ⟨[]⟩
def sdt(b:Nat):Value:=.func (.yield 9) ⟨[.pointer (some ⟨b,0,none⟩)]⟩ ⟨[]⟩
def dv(ids:List Nat):Value:=.func (.yield 8) ⟨ids.map fun b=>.pointer (some ⟨b,0,none⟩)⟩ ⟨[]⟩
def B7k:Value→Bool
 | .complex .f32 _ _=>true
 | _=>false
def one:Value:=.complex .f32 1 0
def A2W:Value→Bool
 | .complex .f32 i _=>!(Nat.beq i 1)
 | _=>false
def A2A:IntKind→Nat
 | .i8=>0|.i16=>1|.i32=>2|.i64=>3|.u8=>4|.u16=>5|.u32=>6|.u64=>7
def G3:Value→Nat
 | .int k _=>A2A k
 | .bool _=>8
 | .string _=>9
 | .complex .f64 _ t=>t
 | _=>99
inductive AB where
 | cells (cs:List Value) (T:TypeId) (ro:Bool)
 | sq (c t:Nat) (T:TypeId) (g:Nat) (ro:Bool)
 | frz
 | mp (c t:Nat) (T:TypeId)
 | iter (s:ByteArray) (pos:Nat)
 | lp (f:FuncId) (q:List Bool) (vs:List Value) (st:Nat)
 | dfr (b:Bool)
structure Mem where
 H:Hp AB
 n:Nat
 W:List Nat
 hi:Nat
 lg:Lg
structure S where
 fr:Fr
 m:Mem
inductive Ex where
 | normal
 | exit (id:Nat)
 | ret
def K4:List Bool→Code→Option Code
 | [],c=>some c
 | false::q,.seq a _=>K4 q a
 | true::q,.seq _ b=>K4 q b
 | false::q,.cond _ a _=>K4 q a
 | true::q,.cond _ _ b=>K4 q b
 | false::q,.block _ c=>K4 q c
 | false::q,.scope c=>K4 q c
 | false::q,.loop c=>K4 q c
 | false::q,.rangeFunc _ _ a _=>K4 q a
 | true::q,.rangeFunc _ _ _ b=>K4 q b
 | _::_,_=>none
def M9:Nat:=9223372036854775808
def I2:Value→Bool
 | .bool _|.int _ _|.string _|.pointer none|.slice none _ _|.map none|.nilFunc|.nilIface=>true
 | _=>false
def B4L:Value→Bool
 | .agg cs=>cs.toList.all I2
 | v=>I2 v
def ev(fr:Fr):Operand→Value
 | .tmp t=>fr.get t
 | .const v=>v
 | .global g=>.pointer (some ⟨g,0,none⟩)
 | .func f=>.func (.func f) #[] #[]
def okX(nt gl:Nat):Operand→Bool
 | .tmp t=>Nat.blt t nt
 | .const v=>B4L v
 | .global g=>Nat.blt g gl
 | .func _=>true
def evL(fr:Fr):List Operand→List Value
 | []=>[]
 | x::r=>ev fr x::evL fr r
def evP(fr:Fr):List (Nat×Operand)→List (Nat×Value)
 | []=>[]
 | (i,x)::r=>(i,ev fr x)::evP fr r
def evO(fr:Fr):Option Operand→Option Value
 | none=>none
 | some x=>some (ev fr x)
structure XC where
 run:Fr→Value
def C4K(a b c:Sel):XC:=⟨fun fr=>c.get (b.get (a.get fr))⟩
def R8:Operand→XC
 | .tmp t=>C4K (sel (t / 64%8)) (sel (t / 8%8)) (sel (t%8))
 | .const v=>⟨fun _=>v⟩
 | .global g=>⟨fun _=>.pointer (some ⟨g,0,none⟩)⟩
 | .func f=>⟨fun _=>.func (.func f) #[] #[]⟩
theorem A0w(x:Operand)(fr:Fr):(R8 x).run fr=ev fr x:=by cases x<;>rfl
structure LC where
 run:Fr→List Value
def C33(x:XC)(r:LC)(fr:Fr):List Value:=x.run fr::r.run fr
def A6T:List Operand→LC
 | []=>⟨fun _=>[]⟩
 | x::r=>⟨fun fr=>C33 (R8 x) (A6T r) fr⟩
theorem A39(fr:Fr):∀ xs:List Operand,(A6T xs).run fr=evL fr xs
 | []=>rfl
 | x::r=>by
   show(R8 x).run fr::(A6T r).run fr=_;rw[A0w,A39 fr r];rfl
abbrev Res:=Option (Value×Mem)
def upN(hi n:Nat):Nat:=bif Nat.blt n hi then hi else Nat.succ n
def Mem.wLg(m:Mem)(lg:Lg):Mem :=
 match m with
 | ⟨H,n,W,hi,_⟩=>⟨H,n,W,hi,lg⟩
def V2(m:Mem)(t:Nat)(op:LOp)(xs:List Value):Res :=
 match m with
 | ⟨H,n,W,hi,⟨nx,pi,log⟩⟩=>K0 nx fun nx=>K0 t fun t=>Q9 xs fun xs=>some (hole nx t,⟨H,n,W,hi,⟨Nat.succ nx,pi,.lt nx t op xs::log⟩⟩)
def A6d(m:Mem)(t:Nat)(op:LOp)(xs:List Value)(k:Nat→Mem→Res):Res :=
 match m with
 | ⟨H,n,W,hi,⟨nx,pi,log⟩⟩=>K0 nx fun nx=>K0 t fun t=>Q9 xs fun xs=>k nx ⟨H,n,W,hi,⟨Nat.succ nx,pi,.dt nx t op xs::log⟩⟩
def A7n:List d7→Nat→Option Bool
 | [],_=>none
 | .br j b::r,i=>bif Nat.beq j i then some b else A7n r i
 | _::r,i=>A7n r i
def brL(lg:Lg)(c:Value):Option (Bool×Lg) :=
 match c with
 | .bool b=>some (b,lg)
 | .complex .f64 i 8=>match lg with
   | ⟨nx,pi,log⟩=>match A7n log i with
     | some b=>some (b,⟨nx,pi,log⟩)
     | none=>match pi with
       | 1::r=>some (true,⟨nx,r,.br i true::log⟩)
       | 0::r=>some (false,⟨nx,r,.br i false::log⟩)
       | _=>none
 | _=>none
def Y5(m:Mem)(ab:AB)(k:Nat→Value):Res :=
 match m with
 | ⟨H,n,W,hi,lg⟩=>bif Nat.ble n H1 then K0 n fun n=>K0 (upN hi n) fun hi=>Hp.put H n (some ab) fun H=>some (k n,⟨H,Nat.succ n,W,hi,lg⟩)else none
def A05(m:Mem)(id:Nat)(ab:AB):Option Mem :=
 match m with
 | ⟨H,n,W,hi,lg⟩=>bif Nat.ble id H1 then Hp.put H id (some ab) fun H=>K0 id fun id=>some ⟨H,n,id::W,hi,lg⟩else none
def A2n(m:Mem)(id:Nat):Mem :=
 match m with
 | ⟨H,n,W,hi,lg⟩=>Hp.put H id none fun H=>K0 id fun id=>⟨H,n,id::W,hi,lg⟩
def B76(cs:List Value)(o n:Nat):Option (List Value) :=
 let r:=(cs.drop o).take n
 bif Nat.beq r.length n then some r else none
def m6(m:Mem)(a:Addr)(n:Nat):Option (List Value) :=
 match a.spot,Hp.get m.H a.block with
 | none,some (.cells cs _ _)=>B76 cs a.off n
 | _,_=>none
def A0J:List Value→Nat→List Value→List Value
 | cs,_,[]=>cs
 | cs,k,v::r=>A0J (cs.set k v) (k+1) r
def flat:Value→Bool
 | .agg _|.tuple _=>false
 | .complex .f32 i _=>Nat.beq i 1
 | _=>true
def A4S(m:Mem)(a:Addr)(vs:List Value):Option Mem :=
 match a.spot,Hp.get m.H a.block with
 | none,some (.cells cs T false) =>
   bif Nat.ble (a.off+vs.length) cs.length && vs.all flat then Q9 (A0J cs a.off vs) fun cs=>A05 m a.block (.cells cs T false)else none
 | _,_=>none
variable (P:Program)
def r7(t:TypeId):Option Bool :=
 match P.underlying t with
 | some (.struct _)|some (.array _ _)=>some true
 | some _=>some false
 | none=>none
def G8(t:TypeId):Option Nat :=
 match P.info? t with
 | some i=>some i.size
 | none=>none
def A1X(t:TypeId):Option Value :=
 match P.info? t with
 | some i=>match i.zero with
   | some v=>bif B4L v then some v else none
   | none=>none
 | none=>none
def B4Y(m:Mem)(t:TypeId)(a:Addr):Option Value :=
 match r7 P t with
 | some true=>match G8 P t with
   | some n=>match m6 m a n with
     | some cs=>some (.agg ⟨cs⟩)
     | none=>none
   | none=>none
 | some false=>match m6 m a 1 with
   | some (v::_)=>some v
   | _=>none
 | none=>none
def A67(m:Mem)(t:TypeId)(a:Addr)(v:Value):Option Mem :=
 match G8 P t with
 | some n=>bif Nat.beq v.cells.size n && !(A2W v)then A4S m a v.cells.toList else none
 | none=>none
def A5C(t:TypeId)(cs:List Value)(off:Nat):Option Value :=
 match r7 P t with
 | some true=>match G8 P t with
   | some n=>match B76 cs off n with
     | some r=>some (.agg ⟨r⟩)
     | none=>none
   | none=>none
 | some false=>cs[off]?
 | none=>none
def C0C(e:TypeId)(s i:Nat):Field:={ name := "x",type:=e,offset:=i*s,embedded:=false,tag := "",pkgPath := "",byteOffset:=0 }
mutual
def eqM:Nat→TypeId→Value→Value→Option Bool
 | 0,_,_,_=>none
 | d+1,t,x,y=>match P.underlying t,x,y with
   | some .bool,.bool a,.bool b=>some (a == b)
   | some (.int _),.int k a,.int j b=>bif decide (k=j)then some (a == b)else none
   | some .string,.string a,.string b=>some (a.data.toList == b.data.toList)
   | some (.pointer _),.pointer none,.pointer b=>some b.isNone
   | some (.pointer _),.pointer (some _),.pointer none=>some false
   | some (.interface _),.nilIface,.nilIface=>some true
   | some (.interface _),.nilIface,.iface _ _=>some false
   | some (.interface _),.iface _ _,.nilIface=>some false
   | some (.interface _),.iface tx vx,.iface ty vy=>bif Nat.beq tx ty then(match P.info? tx with
     | some i=>bif i.comparable then eqM d tx vx vy else none
     | none=>none)else some false
   | some (.slice _),.slice none _ _,.slice b _ _=>some b.isNone
   | some (.slice _),.slice (some _) _ _,.slice none _ _=>some false
   | some (.map _ _),.map none,.map b=>some b.isNone
   | some (.func _ _ _),.nilFunc,.nilFunc=>some true
   | some (.func _ _ _),.nilFunc,.func (.func _) _ _=>some false
   | some (.func _ _ _),.func (.func _) _ _,.nilFunc=>some false
   | some (.struct fs),.agg xs,.agg ys=>bif P.stoodInHeld t then none else eqF d fs.toList xs.toList ys.toList
   | some (.array n e),.agg xs,.agg ys=>match G8 P e with
     | some s=>eqF d ((List.range n).map (C0C e s)) xs.toList ys.toList
     | none=>none
   | _,_,_=>none
def eqF:Nat→List Field→List Value→List Value→Option Bool
 | 0,_,_,_=>none
 | _+1,[],_,_=>some true
 | d+1,f::fs,xs,ys =>
   bif f.name == "_" then none else
   match A5C P f.type xs f.offset,A5C P f.type ys f.offset with
   | some x,some y=>match eqM d f.type x y with
     | some true=>eqF d fs xs ys
     | some false=>some false
     | none=>none
   | _,_=>none
end
def isC:Operand→Bool
 | .const _=>true
 | _=>false
def A3R(t:TypeId)(x y:Operand)(a b:Value):Bool :=
 match a,b with
 | .nilIface,.nilIface=>isC x || isC y
 | .agg _,.agg _=>!P.eqGuardType P.depth t
 | a,b=>!(B7k a) && !(B7k b)
def A8G(op:BinOp)(k:IntKind)(x y:Int):Option Value :=
 match op with
 | .and=>some (.int k (k.wrap (BitVec.ofInt k.bits x &&& BitVec.ofInt k.bits y).toNat))
 | .or=>some (.int k (k.wrap (BitVec.ofInt k.bits x ||| BitVec.ofInt k.bits y).toNat))
 | .xor=>some (.int k (k.wrap (BitVec.ofInt k.bits x ^^^ BitVec.ofInt k.bits y).toNat))
 | .andNot=>some (.int k (k.wrap (BitVec.ofInt k.bits x &&& ~~~BitVec.ofInt k.bits y).toNat))
 | _=>none
def ltL:List UInt8→List UInt8→Bool
 | _,[]=>false
 | [],_::_=>true
 | a::x,b::y=>a<b || (a == b && ltL x y)
def A3O(op:BinOp)(k:IntKind)(a b:Int):Option Value :=
 match op with
 | .add=>some (mkI k (A8l k (C4A a b)))
 | .sub=>some (mkI k (A8l k (C2N a b)))
 | .mul=>some (mkI k (A8l k (C3S a b)))
 | .quo=>bif A8g b 0 then none else some (mkI k (k.wrap (a.tdiv b)))
 | .rem=>bif A8g b 0 then none else some (mkI k (a.tmod b))
 | .eql=>some (.bool (A8g a b))
 | .neq=>some (.bool (!(A8g a b)))
 | .lss=>some (.bool (ltF a b))
 | .leq=>some (.bool (leF a b))
 | .gtr=>some (.bool (ltF b a))
 | .geq=>some (.bool (leF b a))
 | op=>A8G op k a b
def A94(left:Bool)(k:IntKind)(a:Int)(b:Nat):Value :=
 bif left then mkI k (k.wrap (a*2 ^ (min b k.bits)))else mkI k (a.fdiv (2 ^ (min b k.bits)))
def B6W(op:BinOp)(a b:ByteArray):Option Value :=
 match op with
 | .add=>bif Nat.ble (a.size+b.size) 1000000000 then Q9 (a.data.toList++b.data.toList) fun l=>some (.string ⟨⟨l⟩⟩)else none
 | .eql=>some (.bool (a.data.toList == b.data.toList))
 | .neq=>some (.bool (!(a.data.toList == b.data.toList)))
 | .lss=>some (.bool (ltL a.data.toList b.data.toList))
 | .leq=>some (.bool (ltL a.data.toList b.data.toList || (a.data.toList == b.data.toList)))
 | .gtr=>some (.bool (!(ltL a.data.toList b.data.toList || (a.data.toList == b.data.toList))))
 | .geq=>some (.bool (!(ltL a.data.toList b.data.toList)))
 | _=>none
def A83(op:BinOp)(t:TypeId)(x y:Value):Option Value :=
 match op with
 | .eql=>match eqM P 20 t x y with
   | some b=>some (.bool b)
   | none=>none
 | .neq=>match eqM P 20 t x y with
   | some b=>some (.bool (!b))
   | none=>none
 | _=>none
def A2B:BinOp→Option Bool
 | .shl=>some true
 | .shr=>some false
 | _=>none
def r8(op:BinOp)(k j:IntKind)(a b:Int):Option Value :=
 match A2B op with
 | some l=>match b with
   | .ofNat n=>some (A94 l k a n)
   | .negSucc _=>none
 | none=>bif A7H k j then A3O op k a b else none
def A5W(op:BinOp)(t:TypeId)(x y:Value):Option Value :=
 match x,y with
 | .int k a,.int j b=>r8 op k j a b
 | .string a,.string b=>B6W op a b
 | x,y=>A83 P op t x y
def unM(op:UnOp)(x:Value):Option Value :=
 match op,x with
 | .neg,.int k n=>some (mkI k (k.wrap (0-n)))
 | .xor,.int k n=>A8G .xor k (if k.signed then -1 else k.max) n
 | .not,.bool b=>some (.bool !b)
 | _,_=>none
def bytesOf:List Value→Option (List UInt8)
 | []=>some []
 | .int .u8 n::r=>match bytesOf r with
   | some l=>some (UInt8.ofNat n.toNat::l)
   | none=>none
 | _::_=>none
def P2(l:List UInt8):List Value:=l.map fun b=>.int .u8 b.toNat
def A9d(m:Mem)(s t:TypeId)(x:Value):Res :=
 match P.underlying s,P.underlying t,x with
 | some _,some (.int k),.int _ n=>some (mkI k (A8l k n),m)
 | some _,some .string,.string b=>some (.string b,m)
 | some _,some .string,.int _ n=>some (.string (Utf8.encode n),m)
 | some _,some (.slice e),.string b=>match P.underlying e with
   | some (.int .u8)=>match G8 P e with
     | some 1=>Q9 (P2 b.data.toList) fun cs=>Y5 m (.cells cs e false) fun i=>.slice (some ⟨i,0,none⟩) b.size M9
     | _=>none
   | _=>none
 | some (.slice e),some .string,.slice none _ _=>match P.underlying e with
   | some (.int .u8)=>some (.string ByteArray.empty,m)
   | _=>none
 | some (.slice e),some .string,.slice (some a) n _=>match P.underlying e with
   | some (.int .u8)=>match m6 m a n with
     | some cs=>match bytesOf cs with
       | some l=>some (.string ⟨⟨l⟩⟩,m)
       | none=>none
     | none=>none
   | _=>none
 | _,_,_=>none
def A7o(place:Nat→Option (Nat×Nat))(cells:List Value):List (Nat×Value)→Option (List Value)
 | []=>some cells
 | (i,v)::rest=>match place i with
   | none=>none
   | some (off,size) =>
     bif (Nat.beq v.cells.size size && !(A2W v)) && Nat.ble (off+v.cells.size) cells.length then Q9 (A0J cells off v.cells.toList) fun cs=>A7o place cs rest else none
def A5B:List Field→Option (List (Nat×Nat))
 | []=>some []
 | f::r=>match G8 P f.type,A5B r with
   | some n,some l=>some ((f.offset,n)::l)
   | _,_=>none
def B1Y(z:List Value):Nat→List Value
 | 0=>[]
 | n+1=>z++B1Y z n
def A9w(e:TypeId)(n:Nat):Option (List Value) :=
 match G8 P e with
 | some s=>bif Nat.beq (n*s) 0 then some []else match A1X P e with
   | some z=>bif Nat.beq z.cells.size s then some (B1Y z.cells.toList n)else none
   | none=>none
 | none=>none
def B3o(t:TypeId)(parts:List (Nat×Value)):Option Value :=
 match A1X P t,P.underlying t with
 | some z,some (.struct fs)=>match A5B P fs.toList with
   | some ps=>match A7o (ps[·]?) z.cells.toList parts with
     | some cs=>some (.agg ⟨cs⟩)
     | none=>none
   | none=>none
 | some z,some (.array _ e)=>match G8 P e with
   | some s=>match A7o (fun i=>some (i*s,s)) z.cells.toList parts with
     | some cs=>some (.agg ⟨cs⟩)
     | none=>none
   | none=>none
 | _,_=>none
def A0P(m:Mem)(t:TypeId)(n:Nat)(parts:List (Nat×Value)):Res :=
 match P.underlying t with
 | some (.slice e)=>match G8 P e,A9w P e n with
   | some s,some zs=>bif Nat.ble (n*s) 16777216 && Nat.blt n M9 then match A7o (fun i=>some (i*s,s)) zs parts with
     | some cs=>Y5 m (.cells cs e false) fun i=>.slice (some ⟨i,0,none⟩) n n
     | none=>none else none
   | _,_=>none
 | _=>none
def A1E(m:Mem)(t:TypeId)(l c:Value):Res :=
 match P.underlying t,l,c with
 | some (.slice e),.int _ (.ofNat l),.int _ (.ofNat c)=>match P.info? e with
   | some i=>bif Nat.ble l c && Nat.ble c 10000000 && Nat.ble (c*i.bytes) 100000000 then match A9w P e c with
     | some zs=>Q9 zs fun zs=>Y5 m (.cells zs e false) fun k=>.slice (some ⟨k,0,none⟩) l c
     | none=>none else none
   | none=>none
 | _,_,_=>none
def x3(a:Addr)(n:Nat):Addr:=K0 (a.off+n) fun o=>⟨a.block,o,none⟩
def A0N(s:TypeId)(x:Value)(i:Nat):Option Value :=
 match P.underlying s,x with
 | some (.struct fs),.pointer (some a)=>match fs.toList[i]?,a.spot with
   | some f,none=>match G8 P f.type with
     | some (_+1)=>some (.pointer (some (x3 a f.offset)))
     | _=>none
   | _,_=>none
 | _,_=>none
def B0d(t:TypeId)(x:Value)(i:Nat):Option Value :=
 match P.underlying t,x with
 | some (.struct fs),.agg cs=>match fs.toList[i]? with
   | some f=>A5C P f.type cs.toList f.offset
   | none=>none
 | _,_=>none
def W7(t:TypeId)(x i:Value):Option Value :=
 match P.underlying t,x,i with
 | some (.array n e),.pointer (some a),.int _ (.ofNat k)=>match G8 P e,a.spot with
   | some s,none=>bif Nat.blt k n then some (.pointer (some (x3 a (k*s))))else none
   | _,_=>none
 | some (.slice e),.slice (some a) n _,.int _ (.ofNat k)=>match G8 P e,a.spot with
   | some s,none=>bif Nat.blt k n then some (.pointer (some (x3 a (k*s))))else none
   | _,_=>none
 | _,_,_=>none
def A3P(t:TypeId)(x i:Value):Option Value :=
 match P.underlying t,x,i with
 | some (.array n e),.agg cs,.int _ (.ofNat k)=>match G8 P e with
   | some s=>bif Nat.blt k n then A5C P e cs.toList (k*s)else none
   | none=>none
 | some .string,.string s,.int _ (.ofNat k)=>match s.data.toList[k]? with
   | some b=>some (.int .u8 b.toNat)
   | none=>none
 | _,_,_=>none
def T6(v:Option Value)(H1 dflt:Nat):Option Nat :=
 match v with
 | none=>some dflt
 | some (.int _ (.ofNat k))=>bif Nat.ble k H1 then some k else none
 | some _=>none
def A0T(t:TypeId)(x:Value)(lo hi mx:Option Value):Option Value :=
 match P.underlying t,x with
 | some .string,.string s =>
   match mx,T6 hi s.size s.size with
   | none,some h=>match T6 lo h 0 with
     | some l=>some (.string ⟨⟨(s.data.toList.drop l).take (h-l)⟩⟩)
     | none=>none
   | _,_=>none
 | some (.slice e),.slice none n c =>
   match n,c,T6 mx 0 0,T6 hi 0 0,T6 lo 0 0 with
   | 0,0,some _,some _,some _=>bif (mx.isSome && hi.isNone) || (G8 P e).isNone then none else some (.slice none 0 0)
   | _,_,_,_,_=>none
 | some (.slice e),.slice (some a) n c =>
   match G8 P e,a.spot with
   | some s,none =>
     bif Nat.blt c M9 then
      match T6 mx c c with
      | some m=>match (match hi,mx with|none,some _=>none|hi,_=>T6 hi m n)with
        | some h=>match T6 lo h 0 with
          | some l=>some (.slice (some (bif Nat.beq m l then a else x3 a (l*s))) (h-l) (m-l))
          | none=>none
        | none=>none
      | none=>none
     else
      match mx with
      | some _=>match hi,T6 mx n n with
        | some _,some m=>bif Nat.blt m M9 && Nat.ble c (M9+1)then match T6 hi m n with
          | some h=>match T6 lo h 0 with
            | some l=>some (.slice (some (bif Nat.beq m l then a else x3 a (l*s))) (h-l) (m-l))
            | none=>none
          | none=>none else none
        | _,_=>none
      | none=>match T6 hi n n with
        | some h=>match T6 lo h 0 with
          | some 0=>some (.slice (some a) h c)
          | some (l+1)=>let l:=l+1
            bif Nat.blt l n then some (.slice (some (x3 a (l*s))) (h-l) (M9+1))else some (.slice (some a) 0 (M9+2))
          | none=>none
        | none=>none
   | _,_=>none
 | some (.array n e),.pointer (some a) =>
   match G8 P e,a.spot,mx with
   | some s,none,none=>match T6 hi n n with
     | some h=>match T6 lo h 0 with
       | some l=>bif Nat.blt n M9 then some (.slice (some (bif Nat.beq n l then a else x3 a (l*s))) (h-l) (n-l))else none
       | none=>none
     | none=>none
   | _,_,_=>none
 | _,_=>none
def A1D(m:Mem)(s:Nat)(y:Value):Option (Nat×List Value) :=
 match y with
 | .slice none n _=>bif Nat.beq n 0 then some (0,[])else none
 | .slice (some a) n _=>match m6 m a (n*s)with
   | some cs=>some (n,cs)
   | none=>none
 | .string b=>bif Nat.beq s 1 then some (b.size,P2 b.data.toList)else none
 | _=>none
def A0Y:TypeDesc→Bool
 | .slice _|.string=>true
 | _=>false
def A5Y(m:Mem)(t t2:TypeId)(x y:Value):Res :=
 match P.underlying t,P.underlying t2 with
 | some (.slice e),some d2 =>
   bif !(A0Y d2)then none else
   match P.info? e,x with
   | some i,.slice a n c=>match A1D m i.size y,A1X P e with
     | some (k,new),some z =>
       bif Nat.ble ((3*(n+k)+4000)*i.bytes) 281474976710656 && Nat.ble (n+k) 1000000000 && Nat.beq z.cells.size i.size && new.all flat then
       bif Nat.beq k 0 then(match a with|none=>bif Nat.beq n 0 && Nat.beq c 0 then some (x,m)else none|some _=>bif Nat.ble c (M9+1) && Nat.ble n c then some (x,m)else none)else
       match a with
       | none=>bif Nat.beq n 0 && Nat.beq c 0 then Q9 new fun cs=>Y5 m (.cells cs e false) fun b=>.slice (some ⟨b,0,none⟩) k M9 else none
       | some ad =>
         bif Nat.blt c M9 then
          bif Nat.ble (n+k) c then
           match ad.spot,A4S m (x3 ad (n*i.size)) new with
           | none,some m'=>some (.slice a (n+k) c,m')
           | _,_=>none
          else match m6 m ad (n*i.size)with
           | some old=>Q9 (old++new) fun cs=>Y5 m (.cells cs e false) fun b=>.slice (some ⟨b,0,none⟩) (n+k) M9
           | none=>none
         else bif Nat.beq c M9 && Nat.beq ad.off 0 then
          match ad.spot,Hp.get m.H ad.block with
          | none,some (.cells cs T false) =>
            bif Nat.beq cs.length (n*i.size) && Nat.beq T e && Nat.ble ad.block H1 && Nat.blt ad.block m.n then
             Q9 (cs++new) fun cs=>Y5 (A2n m ad.block) (.cells cs e false) fun b=>.slice (some ⟨b,0,none⟩) (n+k) M9
            else none
          | _,_=>none
         else none
       else none
     | _,_=>none
   | _,_=>none
 | _,_=>none
def B2d(m:Mem)(t:TypeId)(x y:Value):Res :=
 match P.underlying t,x with
 | some (.slice e),.slice a n c=>match G8 P e with
   | some s =>
     match (match y with
      | .slice none k _=>bif Nat.beq k 0 then some (0,[])else none
      | .slice (some b) k _=>match m6 m b (Nat.min k n*s)with
        | some cs=>some (Nat.min k n,cs)
        | none=>none
      | .string b=>some (Nat.min b.size n,P2 (b.data.toList.take (Nat.min b.size n)))
      | _=>none:Option (Nat×List Value))with
     | some (k,cs)=>match a with
       | none=>bif Nat.beq k 0 then some (.int .i64 0,m)else none
       | some ad=>bif Nat.beq cs.length 0 then some (.int .i64 k,m)else bif Nat.ble c (M9+1)then match A4S m ad cs with
         | some m'=>some (.int .i64 k,m')
         | none=>none else none
     | none=>none
   | none=>none
 | _,_=>none
def B7V(m:Mem)(t:TypeId)(x:Value):Option Value :=
 match P.underlying t,x with
 | some .string,.string s=>some (.int .i64 s.data.toList.length)
 | some (.array n _),_=>some (.int .i64 n)
 | some (.slice _),.slice _ n _=>some (.int .i64 n)
 | some (.map _ _),.map none=>some (.int .i64 0)
 | _,_=>none
def C2y(t:TypeId)(x:Value):Option Value :=
 match P.underlying t,x with
 | some (.slice _),.slice none _ c=>some (.int .i64 c)
 | some (.slice _),.slice (some a) n c=>bif Nat.blt c M9 then some (.int .i64 c)else none
 | _,_=>none
def C2e:List Value→Option Value
 | [.int k a,.int _ b]=>some (.int k (if b>a then b else a))
 | [.int k a,.int _ b,.int _ c]=>A7k (if b>a then b else a) fun d=>some (.int k (if c>d then c else d))
 | _=>none
def C2d:List Value→Option Value
 | [.int k a,.int _ b]=>some (.int k (if b<a then b else a))
 | [.int k a,.int _ b,.int _ c]=>A7k (if b<a then b else a) fun d=>some (.int k (if c<d then c else d))
 | _=>none
def noM(v:Option Value)(m:Mem):Res :=
 match v with
 | some v=>some (v,m)
 | none=>none
def B3P(m:Option Mem):Res :=
 match m with
 | some m=>some (undef,m)
 | none=>none
def B4O(m:Mem)(c a b:Value):Res :=
 match c with
 | .bool true=>some (a,m)
 | .bool false=>some (b,m)
 | _=>none
def B0I(m:Mem)(e:TypeId):Res :=
 match A1X P e with
 | some z=>Y5 m (.cells z.cells.toList e false) fun b=>.pointer (some ⟨b,0,none⟩)
 | none=>none
def B7I(m:Mem)(e:TypeId)(v:Value):Res :=
 bif v.cells.toList.all flat then Y5 m (.cells v.cells.toList e false) fun b=>.pointer (some ⟨b,0,none⟩)else none
def B4P(m:Mem)(t:TypeId)(v:Value):Res :=
 match v with
 | .pointer (some a)=>noM (B4Y P m t a) m
 | _=>none
def B0G(m:Mem)(t:TypeId)(x v:Value):Res :=
 match x with
 | .pointer (some a)=>B3P (A67 P m t a v)
 | _=>none
def B7H(m:Mem)(x:Value):Res :=
 match x with
 | .pointer (some a)=>some (.pointer (some a),m)
 | .func (.func f) a b=>some (.func (.func f) a b,m)
 | _=>none
def A7h:BinOp→Bool
 | .eql|.neq=>true
 | _=>false
def B9Y(m:Mem)(op:BinOp)(t:TypeId)(x y:Operand)(a b:Value):Res :=
 bif A7h op then(bif A3R P t x y a b then noM (A5W P op t a b) m else none)else noM (A5W P op t a b) m
def B0H(m:Mem)(t:TypeId)(v:Value):Res :=
 match P.underlying t with
 | some d=>(match d with|.interface _=>none|_=>bif flat v || (match v with|.agg _=>true|_=>false)then some (.iface t v,m)else none)
 | none=>none
def A3E(m:Mem)(v:Value)(i:Nat):Res :=
 match v with
 | .tuple vs=>noM vs.toList[i]? m
 | _=>none
def A2N(m:Mem)(x:Value):Res :=
 match x with
 | .slice none _ _=>some (.pointer none,m)
 | .slice (some a) n c=>bif Nat.beq n 0 || Nat.beq c 0 || Nat.beq c (M9+2)then none else some (.pointer (some a),m)
 | _=>none
def A00(m:Mem)(pt:TypeId)(p l:Value):Res :=
 match p,l with
 | .pointer none,.int _ (.ofNat 0)=>some (.string ByteArray.empty,m)
 | .pointer (some a),.int _ (.ofNat n) =>
   match a.spot,Hp.get m.H a.block with
   | none,some (.cells cs T false)=>match P.underlying pt,G8 P T with
     | some (.pointer e),some 1=>bif Nat.blt 0 n && Nat.ble n 1000000000 && Nat.beq e T then match B76 cs a.off n with
       | some l=>match bytesOf l,A05 m a.block (.cells cs T true)with
         | some l,some m'=>some (.string ⟨⟨l⟩⟩,m')
         | _,_=>none
       | none=>none else none
     | _,_=>none
   | _,_=>none
 | _,_=>none
def A2F(m:Mem)(b:Builtin)(vs:List Value)(tys:List TypeId):Res :=
 match b,vs,tys with
 | .len,[x],t::_=>noM (B7V P m t x) m
 | .cap,[x],t::_=>noM (C2y P t x) m
 | .append,[x,y],t::t2::_=>A5Y P m t t2 x y
 | .copy,[x,y],t::_=>B2d P m t x y
 | .max,vs,_=>noM (C2e vs) m
 | .min,vs,_=>noM (C2d vs) m
 | .unsafeSliceData,[x],_=>A2N m x
 | .unsafeString,[p,l],t::_=>A00 P m t p l
 | _,_,_=>none
def opM(fr:Fr)(m:Mem)(o:Op):Res :=
 match o with
 | .move x|.assign x=>some (ev fr x,m)
 | .pick c a b=>B4O m (ev fr c) (ev fr a) (ev fr b)
 | .alloc e=>B0I P m e
 | .box e x=>B7I m e (ev fr x)
 | .build t ps=>noM (B3o P t (evP fr ps.toList)) m
 | .buildSlice t n ps=>A0P P m t n (evP fr ps.toList)
 | .load t x=>B4P P m t (ev fr x)
 | .store t x y=>B0G P m t (ev fr x) (ev fr y)
 | .nilCheck x=>B7H m (ev fr x)
 | .binOp op t x y _=>B9Y P m op t x y (ev fr x) (ev fr y)
 | .unOp op _ x=>noM (unM op (ev fr x)) m
 | .convert s t x=>A9d P m s t (ev fr x)
 | .makeInterface t x=>B0H P m t (ev fr x)
 | .makeFunc (.func f) first cap=>some (.func (.func f) ⟨evL fr first.toList⟩ ⟨evL fr cap.toList⟩,m)
 | .makeSlice t l c=>A1E P m t (ev fr l) (ev fr c)
 | .slice t x lo hi mx=>noM (A0T P t (ev fr x) (evO fr lo) (evO fr hi) (evO fr mx)) m
 | .fieldAddr s x i=>noM (A0N P s (ev fr x) i) m
 | .field t x i=>noM (B0d P t (ev fr x) i) m
 | .indexAddr t x i=>noM (W7 P t (ev fr x) (ev fr i)) m
 | .index t x i=>noM (A3P P t (ev fr x) (ev fr i)) m
 | .extract x i=>A3E m (ev fr x) i
 | .call ⟨.builtin b,xs,tys⟩=>A2F P m b (evL fr xs.toList) tys.toList
 | _=>none
structure OpC where
 run:Fr→Mem→Res
def B7e(x:XC)(fr:Fr)(m:Mem):Res:=some (x.run fr,m)
def C1A(c a b:XC)(fr:Fr)(m:Mem):Res:=B4O m (c.run fr) (a.run fr) (b.run fr)
def C3c(e:TypeId)(x:XC)(fr:Fr)(m:Mem):Res:=B7I m e (x.run fr)
def C1B(t:TypeId)(x:XC)(fr:Fr)(m:Mem):Res:=B4P P m t (x.run fr)
def B7d(t:TypeId)(x y:XC)(fr:Fr)(m:Mem):Res:=B0G P m t (x.run fr) (y.run fr)
def C3a(x:XC)(fr:Fr)(m:Mem):Res:=B7H m (x.run fr)
def C3d(op:BinOp)(t:TypeId)(x y:Operand)(cx cy:XC)(fr:Fr)(m:Mem):Res:=B9Y P m op t x y (cx.run fr) (cy.run fr)
def kUn(op:UnOp)(x:XC)(fr:Fr)(m:Mem):Res:=noM (unM op (x.run fr)) m
def C1C(s t:TypeId)(x:XC)(fr:Fr)(m:Mem):Res:=A9d P m s t (x.run fr)
def A7d(s:TypeId)(x:XC)(i:Nat)(fr:Fr)(m:Mem):Res:=noM (A0N P s (x.run fr) i) m
def B7g(s:TypeId)(x:XC)(i:Nat)(fr:Fr)(m:Mem):Res:=noM (B0d P s (x.run fr) i) m
def A7c(t:TypeId)(x i:XC)(fr:Fr)(m:Mem):Res:=noM (W7 P t (x.run fr) (i.run fr)) m
def B7f(t:TypeId)(x i:XC)(fr:Fr)(m:Mem):Res:=noM (A3P P t (x.run fr) (i.run fr)) m
def B2C(x:XC)(i:Nat)(fr:Fr)(m:Mem):Res:=A3E m (x.run fr) i
def B2D(b:Builtin)(xs:LC)(tys:List TypeId)(fr:Fr)(m:Mem):Res:=A2F P m b (xs.run fr) tys
def A76(o:Op):OpC :=
 match o with
 | .move x=>⟨B7e (R8 x)⟩
 | .assign x=>⟨B7e (R8 x)⟩
 | .pick c a b=>⟨C1A (R8 c) (R8 a) (R8 b)⟩
 | .box e x=>⟨C3c e (R8 x)⟩
 | .load t x=>⟨C1B P t (R8 x)⟩
 | .store t x y=>⟨B7d P t (R8 x) (R8 y)⟩
 | .nilCheck x=>⟨C3a (R8 x)⟩
 | .binOp op t x y _=>⟨C3d P op t x y (R8 x) (R8 y)⟩
 | .unOp op _ x=>⟨kUn op (R8 x)⟩
 | .convert s t x=>⟨C1C P s t (R8 x)⟩
 | .fieldAddr s x i=>⟨A7d P s (R8 x) i⟩
 | .field t x i=>⟨B7g P t (R8 x) i⟩
 | .indexAddr t x i=>⟨A7c P t (R8 x) (R8 i)⟩
 | .index t x i=>⟨B7f P t (R8 x) (R8 i)⟩
 | .extract x i=>⟨B2C (R8 x) i⟩
 | .call ⟨.builtin b,xs,tys⟩=>⟨B2D P b (A6T xs.toList) tys.toList⟩
 | o=>⟨fun fr m=>opM P fr m o⟩
theorem A75(o:Op)(fr:Fr)(m:Mem):(A76 P o).run fr m=opM P fr m o:=by
 unfold A76;split<;>simp only[B7e,C1A,C3c,C1B,B7d,C3a,C3d,kUn,C1C,A7d,B7g,A7c,B7f,B2C,B2D,opM,A0w,A39]
def B3K(nt gl:Nat)(o:Op):Bool:=o.operands.toList.all (okX nt gl)
end Go.Sx
namespace Go.Sx
set_option linter.all false
set_option linter.unusedVariables false
open Go
def C3e:BinOp→Bool
 | .eql|.neq|.lss|.leq|.gtr|.geq=>true
 | _=>false
def A4T(P:Program)(m:Mem)(op:BinOp)(t:TypeId)(a b:Value):Res :=
 let ta:=G3 a
 let tb:=G3 b
 bif (Nat.blt ta 8 && Nat.blt tb 8) || (Nat.beq ta 9 && Nat.beq tb 9)then V2 m (bif C3e op then 8 else ta) (.bin op) [a,b]else
 bif Nat.beq ta 8 && Nat.beq tb 8 && A7h op && (match P.underlying t with|some .bool=>true|_=>false)then V2 m 8 (.bin op) [a,b]else none
def A1I(P:Program)(t:TypeId)(x y:Value):Bool :=
 match P.underlying t with
 | some .bool=>Nat.beq (G3 x) 8 && Nat.beq (G3 y) 8
 | some (.int k)=>Nat.beq (G3 x) (A2A k) && Nat.beq (G3 y) (A2A k)
 | some .string=>Nat.beq (G3 x) 9 && Nat.beq (G3 y) 9
 | _=>false
mutual
def eqS(P:Program):Nat→TypeId→Value→Value→Option (List Value)
 | 0,_,_,_=>none
 | d+1,t,x,y=>bif A1I P t x y then some [x,y]else
   match P.underlying t,x,y with
   | some (.struct fs),.agg xs,.agg ys=>bif P.stoodInHeld t then none else A7u P d fs.toList xs.toList ys.toList
   | some (.array n e),.agg xs,.agg ys=>match G8 P e with
     | some s=>A7u P d ((List.range n).map (C0C e s)) xs.toList ys.toList
     | none=>none
   | _,_,_=>none
def A7u(P:Program):Nat→List Field→List Value→List Value→Option (List Value)
 | 0,_,_,_=>none
 | _+1,[],_,_=>some []
 | d+1,f::fs,xs,ys =>
   bif f.name == "_" then none else
   match A5C P f.type xs f.offset,A5C P f.type ys f.offset with
   | some x,some y=>match eqS P d f.type x y,A7u P d fs xs ys with
     | some a,some b=>some (a++b)
     | _,_=>none
   | _,_=>none
end
def B1L(P:Program)(m:Mem)(op:BinOp)(t:TypeId)(x y:Operand)(a b:Value):Res :=
 bif A3R P t x y a b then
  match op,eqS P 20 t a b with
  | .eql,some l=>V2 m 8 .eqs l
  | .neq,some l=>match V2 m 8 .eqs l with
    | some (h,m)=>V2 m 8 (.un .not) [h]
    | none=>none
  | _,_=>none
 else none
def Z8(t:Nat):List Value→Bool
 | []=>true
 | v::r=>Nat.beq (G3 v) t && Z8 t r
def Z7.sizeD(P:Program)(e:TypeId):Nat:=match G8 P e with|some n=>n|none=>0
def Z7(P:Program)(m:Mem)(t:TypeId)(x i:Value):Res :=
 bif !(Nat.blt (G3 i) 8)then none else
 match P.underlying t with
 | some .string=>bif Nat.beq (G3 x) 9 then V2 m 4 .idx [x,i]else none
 | some (.array n e)=>match x,P.underlying e with
   | .agg cs,some (.int k)=>bif Nat.beq (cs.toList.length) n && Z8 (A2A k) cs.toList && Nat.beq (Z7.sizeD P e) 1 then V2 m (A2A k) .sel (i::cs.toList)else none
   | .agg cs,some .string=>bif Nat.beq (cs.toList.length) n && Z8 9 cs.toList && Nat.beq (Z7.sizeD P e) 1 then V2 m 9 .sel (i::cs.toList)else none
   | _,_=>none
 | _=>none
def A26(P:Program)(m:Mem)(t:TypeId)(x:Value)(lo hi mx:Option Value):Res :=
 match P.underlying t,mx with
 | some .string,none=>bif Nat.beq (G3 x) 9 then
    match lo,hi with
    | none,none=>some (x,m)
    | some l,none=>bif Nat.blt (G3 l) 8 then V2 m 9 .sub1 [x,l]else none
    | none,some h=>bif Nat.blt (G3 h) 8 then V2 m 9 .sub [x,.int .i64 0,h]else none
    | some l,some h=>bif Nat.blt (G3 l) 8 && Nat.blt (G3 h) 8 then V2 m 9 .sub [x,l,h]else none
   else none
 | _,_=>none
def B1G(m:Mem)(op:UnOp)(x:Value):Res :=
 let t:=G3 x
 match op with
 | .not=>bif Nat.beq t 8 then V2 m 8 (.un .not) [x]else none
 | op=>bif Nat.blt t 8 then V2 m t (.un op) [x]else none
def A4z(P:Program)(m:Mem)(s t:TypeId)(x:Value):Res :=
 match P.underlying s,P.underlying t with
 | some (.int _),some (.int k)=>bif Nat.blt (G3 x) 8 then V2 m (A2A k) (.conv k) [x]else none
 | some .string,some .string=>bif Nat.beq (G3 x) 9 then some (x,m)else none
 | _,_=>none
def A03(P:Program)(m:Mem)(b:Builtin)(vs:List Value)(tys:List TypeId):Res :=
 match b,vs,tys with
 | .len,[x],t::_=>match P.underlying t with
   | some .string=>bif Nat.beq (G3 x) 9 then V2 m 3 .len [x]else none
   | _=>none
 | .max,[x,y],_=>bif Nat.blt (G3 x) 8 && Nat.beq (G3 x) (G3 y)then V2 m (G3 x) .max [x,y]else none
 | .min,[x,y],_=>bif Nat.blt (G3 x) 8 && Nat.beq (G3 x) (G3 y)then V2 m (G3 x) .min [x,y]else none
 | _,_,_=>none
def B5p(m:Mem)(a:Addr)(s n:Nat)(i:Value):Res :=
 bif !(Nat.blt (G3 i) 8)then none else
 match V2 m 8 .inb [i,.int .i64 (.ofNat n)]with
 | some (b,⟨H,k,W,hi,lg⟩)=>match brL lg b with
   | some (true,lg)=>some (ixp a s i n,⟨H,k,W,hi,lg⟩)
   | _=>none
 | none=>none
def A01(P:Program)(m:Mem)(t:TypeId)(x i:Value):Res :=
 match P.underlying t,x with
 | some (.array n e),.pointer (some a)=>match G8 P e,a.spot with
   | some s,none=>B5p m a s n i
   | _,_=>none
 | some (.slice e),.slice (some a) n c=>match G8 P e,a.spot with
   | some s,none=>bif Nat.beq c (M9+2)then none else B5p m a s n i
   | _,_=>none
 | _,_=>none
def A02(P:Program)(m:Mem)(s:TypeId)(x:Value)(i:Nat):Res :=
 match x with
 | .func (.yield 1) ⟨[.pointer (some a),.int .i64 (.ofNat k),j,.int .i64 (.ofNat n)]⟩ ⟨[]⟩=>match P.underlying s with
   | some (.struct fs)=>match fs.toList[i]?,a.spot with
     | some f,none=>match G8 P f.type with
       | some (_+1)=>some (ixp (x3 a f.offset) k j n,m)
       | _=>none
     | _,_=>none
   | _=>none
 | _=>none
def A6k(cs:List Value)(s o:Nat):Nat→Option (List Value)
 | 0=>some []
 | n+1=>match cs[o]?,A6k cs s (o+s) n with
   | some v,some r=>some (v::r)
   | _,_=>none
def A0I(m:Mem)(cs:List Value)(s n:Nat)(i:Value):Nat→Nat→Option (List Value×Mem)
 | _,0=>some ([],m)
 | o,k+1=>match A6k cs s o n with
   | some (v::l)=>bif Z8 (G3 v) (v::l) && Nat.blt (G3 v) 10 then match V2 m (G3 v) .sel (i::v::l)with
     | some (h,m)=>match A0I m cs s n i (o+1) k with
       | some (r,m)=>some (h::r,m)
       | none=>none
     | none=>none else none
   | _=>none
def A4y(P:Program)(m:Mem)(t:TypeId)(x:Value):Res :=
 match x with
 | .func (.yield 1) ⟨[.pointer (some a),.int .i64 (.ofNat s),i,.int .i64 (.ofNat n)]⟩ ⟨[]⟩ =>
   match r7 P t,G8 P t with
   | some false,_=>match m6 m a ((n-1)*s+1)with
     | some cs=>match A0I m cs s n i 0 1 with
       | some ([h],m)=>some (h,m)
       | _=>none
     | none=>none
   | some true,some z=>match m6 m a ((n-1)*s+z)with
     | some cs=>match A0I m cs s n i 0 z with
       | some (hs,m)=>some (.agg ⟨hs⟩,m)
       | none=>none
     | none=>none
   | _,_=>none
 | _=>none
def A6j(m:Mem)(c a b:Value):Res :=
 match m with
 | ⟨H,n,W,hi,lg⟩=>match brL lg c with
   | some (true,lg)=>some (a,⟨H,n,W,hi,lg⟩)
   | some (false,lg)=>some (b,⟨H,n,W,hi,lg⟩)
   | none=>none
def B6T(P:Program)(fr:Fr)(m:Mem)(o:Op):Res :=
 match o with
 | .pick c a b=>A6j m (ev fr c) (ev fr a) (ev fr b)
 | .binOp op t x y _=>match A4T P m op t (ev fr x) (ev fr y)with
   | some r=>some r
   | none=>B1L P m op t x y (ev fr x) (ev fr y)
 | .unOp op _ x=>B1G m op (ev fr x)
 | .convert s t x=>A4z P m s t (ev fr x)
 | .slice t x lo hi mx=>A26 P m t (ev fr x) (evO fr lo) (evO fr hi) (evO fr mx)
 | .index t x i=>Z7 P m t (ev fr x) (ev fr i)
 | .indexAddr t x i=>A01 P m t (ev fr x) (ev fr i)
 | .fieldAddr s x i=>A02 P m s (ev fr x) i
 | .load t x=>A4y P m t (ev fr x)
 | .call ⟨.builtin b,xs,tys⟩=>A03 P m b (evL fr xs.toList) tys.toList
 | _=>none
def A4c(m:Mem)(b:Nat):Bool :=
 match Hp.get m.H b with
 | some .frz=>Nat.ble b H1
 | _=>false
def B3G{α:Type}(l:List α):Nat→List α
 | 0=>[]
 | n+1=>l++B3G l n
mutual
def B6P(P:Program):Nat→TypeId→Option (List Nat)
 | 0,_=>none
 | d+1,t=>match P.underlying t with
   | some .bool=>some [8]
   | some (.int k)=>some [A2A k]
   | some .string=>some [9]
   | some (.slice e)=>match G8 P e with
     | some w=>some [10+w]
     | none=>none
   | some (.struct fs)=>C0K P d fs.toList
   | some (.array n e)=>match B6P P d e with
     | some l=>some (B3G l n)
     | none=>none
   | _=>none
def C0K(P:Program):Nat→List Field→Option (List Nat)
 | 0,_=>none
 | _+1,[]=>some []
 | d+1,f::fs=>match B6P P d f.type,C0K P d fs with
   | some a,some b=>some (a++b)
   | _,_=>none
end
def A25(P:Program)(t:TypeId):Option (List Nat) :=
 match B6P P 30 t,G8 P t with
 | some l,some n=>bif Nat.beq l.length n then some l else none
 | _,_=>none
def W8.letDo(t:Nat)(op:LOp)(xs:List Value)(m:Mem)(k:Nat→Mem→Option (List Value×Mem)):Option (List Value×Mem) :=
 match m with
 | ⟨H,n,W,hi,⟨nx,pi,log⟩⟩=>K0 nx fun nx=>K0 t fun t=>Q9 xs fun xs=>k nx ⟨H,n,W,hi,⟨Nat.succ nx,pi,.dt nx t op xs::log⟩⟩
def W8(w o i t:Nat)(z:Value)(g:Nat):List Nat→Nat→Mem→Option (List Value×Mem)
 | [],_,m=>some ([],m)
 | tg::ts,j,m=>bif Nat.blt tg 10 then
    match V2 m tg (.get w (o+j)) [hole i t,z]with
    | some (h,m)=>match W8 w o i t z g ts (j+1) m with
      | some (r,m)=>some (h::r,m)
      | none=>none
    | none=>none
   else W8.letDo tg (.get w (o+j)) [hole i t,z] m fun nx m=>match W8 w o i t z g ts (j+1) m with
     | some (r,m)=>some (dat g nx tg::r,m)
     | none=>none
def A3d(P:Program)(t:TypeId)(r:Option (List Value×Mem)):Res :=
 match r7 P t,r with
 | some false,some ([v],m)=>some (v,m)
 | some true,some (vs,m)=>some (.agg ⟨vs⟩,m)
 | _,_=>none
def B13(P:Program)(m:Mem)(t:TypeId)(x:Value):Res :=
 match x,A25 P t with
 | .func (.yield 5) ⟨[.pointer (some ⟨b,0,none⟩),.complex .f64 i tg,z,.int .i64 (.ofNat o)]⟩ ⟨[]⟩,some ts =>
   bif A4c m b then A3d P t (W8 (tg-10) o i tg z b ts 0 m)else none
 | .func (.yield 6) ⟨[.pointer (some ⟨b,0,none⟩),.complex .f64 i tg,z,.int .i64 (.ofNat o)]⟩ ⟨[]⟩,some ts =>
   match Hp.get m.H b with
   | some (.sq c tc T g ro)=>bif Nat.beq tc tg then A3d P t (W8 (tg-10) o c tg z g ts 0 m)else none
   | _=>none
 | _,_=>none
def B2H(m:Mem)(i t:Nat)(z:Value)(k:Value):Res :=
 bif !(Nat.blt (G3 z) 8)then none else
 match V2 m 8 (.inbs (t-10)) [z,hole i t]with
 | some (b,⟨H,n,W,hi,lg⟩)=>match brL lg b with
   | some (true,lg)=>some (k,⟨H,n,W,hi,lg⟩)
   | _=>none
 | none=>none
def A3Q(P:Program)(m:Mem)(t:TypeId)(x z:Value):Res :=
 match P.underlying t,x with
 | some (.slice e),.func (.yield 4) ⟨[.pointer (some ⟨b,0,none⟩),.complex .f64 i tg]⟩ ⟨[]⟩=>match G8 P e with
   | some (s+1)=>bif Nat.beq tg (10+(s+1))then B2H m i tg z (opt b i tg z 0)else none
   | _=>none
 | some (.slice e),.func (.yield 2) ⟨[.pointer (some ⟨b,0,none⟩),.complex .f64 i tg]⟩ ⟨[]⟩=>match G8 P e with
   | some (s+1)=>bif Nat.beq tg (10+(s+1))then B2H m i tg z (dpt b i tg z 0)else none
   | _=>none
 | some (.slice e),.func (.yield 3) ⟨[.pointer (some ⟨b,0,none⟩),.complex .f64 i tg]⟩ ⟨[]⟩=>match G8 P e with
   | some (s+1)=>bif Nat.beq tg (10+(s+1))then B2H m i tg z (dpt b i tg z 0)else none
   | _=>none
 | some (.array n e),.func (.yield 5) ⟨[.pointer (some ⟨b,0,none⟩),.complex .f64 i tg,y,.int .i64 (.ofNat o)]⟩ ⟨[]⟩=>match G8 P e,z with
   | some s,.int _ (.ofNat k)=>bif Nat.blt k n && Nat.blt (o+k*s) (tg-10)then some (K0 (o+k*s) fun o=>dpt b i tg y o,m)else none
   | _,_=>none
 | some (.array n e),.func (.yield 6) ⟨[.pointer (some ⟨b,0,none⟩),.complex .f64 i tg,y,.int .i64 (.ofNat o)]⟩ ⟨[]⟩=>match G8 P e,z with
   | some s,.int _ (.ofNat k)=>bif Nat.blt k n && Nat.blt (o+k*s) (tg-10)then some (K0 (o+k*s) fun o=>opt b i tg y o,m)else none
   | _,_=>none
 | _,_=>none
def A3U(P:Program)(m:Mem)(s:TypeId)(x:Value)(f:Nat):Res :=
 match P.underlying s,x with
 | some (.struct fs),.func (.yield 5) ⟨[.pointer (some ⟨b,0,none⟩),.complex .f64 i tg,y,.int .i64 (.ofNat o)]⟩ ⟨[]⟩=>match fs.toList[f]? with
   | some fd=>match G8 P fd.type with
     | some (_+1)=>bif Nat.blt (o+fd.offset) (tg-10)then some (K0 (o+fd.offset) fun o=>dpt b i tg y o,m)else none
     | _=>none
   | none=>none
 | some (.struct fs),.func (.yield 6) ⟨[.pointer (some ⟨b,0,none⟩),.complex .f64 i tg,y,.int .i64 (.ofNat o)]⟩ ⟨[]⟩=>match fs.toList[f]? with
   | some fd=>match G8 P fd.type with
     | some (_+1)=>bif Nat.blt (o+fd.offset) (tg-10)then some (K0 (o+fd.offset) fun o=>opt b i tg y o,m)else none
     | _=>none
   | none=>none
 | _,_=>none
def A5P(i:Nat):List d7→Option Nat
 | []=>none
 | .lt j t .len [.complex .f64 k _]::r=>bif Nat.beq k i && Nat.beq t 3 then some j else A5P i r
 | _::r=>A5P i r
def B0N(m:Mem)(i t:Nat):Res :=
 match A5P i m.lg.log with
 | some j=>some (hole j 3,m)
 | none=>V2 m 3 .len [hole i t]
def B9m(P:Program)(m:Mem)(t:TypeId)(x:Value):Res :=
 match P.underlying t,x with
 | some (.slice _),.func (.yield 2) ⟨[.pointer (some ⟨b,0,none⟩),.complex .f64 i tg]⟩ ⟨[]⟩=>B0N m i tg
 | some (.slice _),.func (.yield 3) ⟨[.pointer (some ⟨b,0,none⟩),.complex .f64 i tg]⟩ ⟨[]⟩=>B0N m i tg
 | some (.slice _),.func (.yield 4) ⟨[.pointer (some ⟨b,0,none⟩),.complex .f64 i tg]⟩ ⟨[]⟩=>B0N m i tg
 | _,_=>none
def A1r(m:Mem)(k:Nat→Mem→Option (Value×Nat×Mem)):Option (Value×Nat×Mem) :=
 match m with
 | ⟨H,n,W,hi,lg⟩=>bif Nat.ble n H1 then K0 n fun n=>K0 (upN hi n) fun hi=>Hp.put H n (some .frz) fun H=>k n ⟨H,Nat.succ n,W,hi,lg⟩else none
def toD(t:Nat)(v:Value)(m:Mem):Option (Value×Nat×Mem) :=
 match v with
 | .func (.yield 2) ⟨[.pointer (some ⟨b,0,none⟩),.complex .f64 i tg]⟩ ⟨[]⟩=>bif Nat.beq tg t && A4c m b then some (hole i tg,b,m)else none
 | .func (.yield 3) ⟨[.pointer (some ⟨b,0,none⟩),.complex .f64 i tg]⟩ ⟨[]⟩=>bif Nat.beq tg t && A4c m b then some (hole i tg,b,m)else none
 | .func (.yield 4) ⟨[.pointer (some ⟨b,0,none⟩),.complex .f64 i tg]⟩ ⟨[]⟩=>match Hp.get m.H b with
   | some (.sq c tc T g true)=>bif (Nat.beq tg t && Nat.beq tc t) && A4c m g then A1r m fun b' m=>some (hole c tc,b',m)else none
   | some (.sq c tc T g false)=>bif (Nat.beq tg t && Nat.beq tc t) && A4c m g then match A05 m b (.sq c tc T g true)with
     | some m=>A1r m fun b' m=>some (hole c tc,b',m)
     | none=>none else none
   | _=>none
 | .slice none 0 0=>bif Nat.ble 10 t then(match A6d m t (.nilw (t-10)) [] fun nx m=>some (hole nx t,m)with
   | some (h,m)=>A1r m fun b' m=>some (h,b',m)
   | none=>none)else none
 | _=>none
abbrev Td:=Nat→Value→Mem→Option (Value×Nat×Mem)
def A8Q(td:Td):List Nat→List Value→Mem→Option (List Value×List Nat×Mem)
 | [],[],m=>some ([],[],m)
 | t::ts,v::vs,m=>bif Nat.blt t 10 then
    bif Nat.beq (G3 v) t then match A8Q td ts vs m with
     | some (r,gs,m)=>some (v::r,gs,m)
     | none=>none else none
   else match td t v m with
    | some (h,b,m)=>match A8Q td ts vs m with
      | some (r,gs,m)=>some (h::r,b::gs,m)
      | none=>none
    | none=>none
 | _,_,_=>none
def A2o(gs:List Nat)(m:Mem):Option (Nat×Mem) :=
 match gs with
 | [g]=>bif A4c m g then some (g,m)else none
 | gs=>bif gs.all (A4c m)then match A1r m fun b m=>some (undef,b,m)with
   | some (_,b,m)=>some (b,m)
   | none=>none else none
def B39:Value→Value→Bool
 | .complex .f64 i _,.complex .f64 j _=>Nat.beq i j
 | .int k a,.int j b=>A7H k j && A8g a b
 | _,_=>false
def A7e(v:Value):Bool:=Nat.blt (G3 v) 8
def A1m(m:Mem)(b i t:Nat)(l h:Value)(c:Bool):Res:=bif A7e l && A7e h then A6d m t (.subs (t-10)) [hole i t,l,h] fun nx m=>some (bif c then clp b nx t else dat b nx t,m)else none
def B2a(m:Mem)(b i t:Nat)(cl:Bool)(l:Value)(hi mx:Option Value):Res :=
 match hi,mx with
 | some h,none=>A1m m b i t l h false
 | some h,some x=>bif B39 h x then A1m m b i t l h true else none
 | none,none=>match B0N m i t with
   | some (h,m)=>A1m m b i t l h cl
   | none=>none
 | none,some _=>none
def C3W(lo:Option Value):Value :=
 match lo with
 | some l=>l
 | none=>.int .i64 0
def B2b(m:Mem)(b i t:Nat)(cl:Bool)(lo hi mx:Option Value):Res:=B2a m b i t cl (C3W lo) hi mx
def A7A(P:Program)(m:Mem)(t:TypeId)(x:Value)(lo hi mx:Option Value):Res :=
 match P.underlying t,x with
 | some (.slice e),.func (.yield 2) ⟨[.pointer (some ⟨b,0,none⟩),.complex .f64 i tg]⟩ ⟨[]⟩=>match G8 P e with
   | some s=>bif Nat.beq tg (10+s)then B2b m b i tg false lo hi mx else none
   | none=>none
 | some (.slice e),.func (.yield 3) ⟨[.pointer (some ⟨b,0,none⟩),.complex .f64 i tg]⟩ ⟨[]⟩=>match G8 P e with
   | some s=>bif Nat.beq tg (10+s)then B2b m b i tg true lo hi mx else none
   | none=>none
 | some (.slice e),.func (.yield 4) ⟨[.pointer (some ⟨b,0,none⟩),.complex .f64 i tg]⟩ ⟨[]⟩=>match G8 P e with
   | some s=>bif Nat.beq tg (10+s)then match toD tg x m with
     | some (.complex .f64 c _,b',m)=>B2b m b' c tg false lo hi mx
     | _=>none else none
   | none=>none
 | _,_=>none
inductive Beh where
 | cells (xs:List Value)
 | rows (x:Value)
 | str (x:Value)
def A0e(w:Nat)(c:Value):Beh→LOp×List Value
 | .cells xs=>(.snoc w,c::xs)
 | .rows x=>(.cat w,[c,x])
 | .str x=>(.cats,[c,x])
def B8I(td:Td)(P:Program)(m:Mem)(e:TypeId)(w:Nat)(y:Value):Option (Beh×List Nat×Bool×Mem) :=
 match y with
 | .slice none 0 _=>some (.cells [],[],false,m)
 | .slice (some a) n _=>match m6 m a (n*w),A25 P e with
   | some cs,some ts=>match A8Q td (B3G ts n) cs m with
     | some (xs,gs,m)=>some (.cells xs,gs,Nat.blt 0 n,m)
     | none=>none
   | _,_=>none
 | .func _ _ _=>match td (10+w) y m with
   | some (x,b,m)=>some (.rows x,[b],false,m)
   | none=>none
 | y=>bif Nat.beq (G3 y) 9 && Nat.beq w 1 then some (.str y,[],false,m)else none
def A9q(td:Td)(P:Program)(m:Mem)(e:TypeId)(w:Nat)(x:Value):Option (Nat×List Nat×Option Nat×Mem) :=
 match x with
 | .slice none 0 0=>match A6d m (10+w) (.nilw w) [] fun nx m=>some (hole nx (10+w),m)with
   | some (.complex .f64 c _,m)=>some (c,[],none,m)
   | _=>none
 | .func (.yield 4) ⟨[.pointer (some ⟨b,0,none⟩),.complex .f64 i tg]⟩ ⟨[]⟩=>match Hp.get m.H b with
   | some (.sq c tc T g false)=>bif (Nat.beq tg (10+w) && Nat.beq tc tg) && (Nat.beq T e && Nat.ble b H1)then some (c,[g],some b,m)else none
   | _=>none
 | .slice (some ⟨b,0,none⟩) n c=>match Hp.get m.H b,A25 P e with
   | some (.cells cs _ _),some ts=>bif Nat.beq cs.length (n*w) && (Nat.beq c n && Nat.blt c M9 || Nat.beq c M9)then match A8Q td (B3G ts n) cs m with
     | some (xs,gs,m)=>match Hp.get m.H b with
       | some (.cells _ T false)=>bif Nat.beq T e && Nat.ble b H1 then match A6d m (10+w) (.mk w) xs fun nx m=>some (hole nx (10+w),m)with
         | some (.complex .f64 c _,m)=>some (c,gs,some b,m)
         | _=>none else none
       | _=>none
     | none=>none else none
   | _,_=>none
 | _=>none
def w7(m:Mem)(c t:Nat)(T:TypeId)(g:Nat):Res:=Y5 m (.sq c t T g false) fun b=>own b c t
def B6E(P:Program)(e:TypeId)(n:Nat):Bool :=
 match A1X P e with
 | some z=>Nat.beq z.cells.size n
 | none=>false
def A2m(old:Option Nat)(m:Mem):Mem :=
 match old with
 | some b=>A2n m b
 | none=>m
def B5f(td:Td)(P:Program)(m:Mem)(e:TypeId)(w:Nat)(x:Value):Res :=
 match P.info? e with
 | some inf=>bif Nat.beq inf.size w && Nat.blt 0 w then match A9q td P m e w x with
   | some (c,gs,old,m)=>match A2o gs m with
     | some (g,m)=>w7 (A2m old m) c (10+w) e g
     | none=>none
   | none=>none else none
 | none=>none
def B6L(P:Program):Nat→Td
 | 0=>toD
 | d+1=>fun t v m=>match v with
   | .slice (some ⟨b,0,none⟩) _ _=>match Hp.get m.H b with
     | some (.cells _ T _)=>match B5f (B6L P d) P m T (t-10) v with
       | some (x,m)=>toD t x m
       | none=>none
     | _=>none
   | v=>toD t v m
def tdP(P:Program):Td:=B6L P 3
def B1k(m:Mem)(e:TypeId)(w c:Nat)(old:Option Nat)(bh:Beh)(gs:List Nat):Res :=
 match A2o gs m with
 | some (g,m)=>A6d m (10+w) (A0e w (hole c (10+w)) bh).1 (A0e w (hole c (10+w)) bh).2 fun nx m=>w7 (A2m old m) nx (10+w) e g
 | none=>none
def A5Z(P:Program)(m:Mem)(t t2:TypeId)(x y:Value):Res :=
 match P.underlying t,P.underlying t2 with
 | some (.slice e),some d2=>bif !(A0Y d2)then none else
   match P.info? e with
   | some i=>bif (Nat.ble i.bytes 90000 && Nat.blt 0 i.size) && B6E P e i.size then
     match B8I (tdP P) P m e i.size y with
     | some (bh,gs,sure,m)=>match A9q (tdP P) P m e i.size x with
       | some (c,g0,old,m)=>B1k m e i.size c old bh (g0++gs)
       | none=>match x,sure with
         | .func (.yield 3) ⟨[.pointer (some ⟨b,0,none⟩),.complex .f64 c tg]⟩ ⟨[]⟩,true=>bif Nat.beq tg (10+i.size)then B1k m e i.size c none bh (b::gs)else none
         | _,_=>none
     | none=>none else none
   | none=>none
 | _,_=>none
def A68(P:Program)(m:Mem)(t:TypeId)(x v:Value):Res :=
 match x,A25 P t with
 | .func (.yield 6) ⟨[.pointer (some ⟨b,0,none⟩),.complex .f64 i tg,z,.int .i64 (.ofNat o)]⟩ ⟨[]⟩,some ts=>bif A2W v then none else
   match A8Q (tdP P) ts v.cells.toList m with
   | some (xs,gs,m)=>match Hp.get m.H b with
     | some (.sq c tc T g false)=>bif Nat.beq tc tg then match A2o (g::gs) m with
       | some (g,m)=>match A6d m tg (.set (tg-10) o) (hole c tg::z::xs) fun nx m=>some (hole nx tg,m)with
         | some (.complex .f64 nx _,m)=>B3P (A05 m b (.sq nx tg T g false))
         | _=>none
       | none=>none else none
     | _=>none
   | none=>none
 | _,_=>none
def C05(m m1:Mem):Mem :=
 match m,m1 with
 | ⟨H,n,W,_,_⟩,⟨_,_,_,hi,lg⟩=>⟨H,n,W,hi,lg⟩
def B2e(P:Program)(m:Mem)(s t:TypeId)(x:Value):Res :=
 match P.underlying s,P.underlying t,x with
 | some (.slice e),some .string,.slice (some a) n _=>match P.underlying e with
   | some (.int .u8)=>match m6 m a n with
     | some cs=>bif Z8 4 cs then V2 m 9 .mks cs else none
     | none=>none
   | _=>none
 | some (.slice e),some .string,.func _ _ _=>match P.underlying e with
   | some (.int .u8)=>match toD 11 x m with
     | some (h,_,m1)=>V2 (C05 m m1) 9 .str [h]
     | none=>none
   | _=>none
 | some _,some (.slice e),x=>bif Nat.beq (G3 x) 9 then match P.underlying e with
   | some (.int .u8)=>match G8 P e with
     | some 1=>match A2o [] m with
       | some (g,m)=>match A6d m 11 .byt [x] fun nx m=>some (hole nx 11,m)with
         | some (.complex .f64 nx _,m)=>w7 m nx 11 e g
         | _=>none
       | none=>none
     | _=>none
   | _=>none else none
 | _,_,_=>none
def B7j:Value→Bool
 | .slice none 0 0=>true
 | _=>false
def B7K(P:Program)(m:Mem)(op:BinOp)(t:TypeId)(x y:Operand)(a b:Value):Res :=
 match P.underlying t,a with
 | some (.slice _),.func (.yield k) ⟨[.pointer (some ⟨_,0,none⟩),.complex .f64 i tg]⟩ ⟨[]⟩=>bif B7j b && isC y && (Nat.beq k 2 || Nat.beq k 3 || Nat.beq k 4)then
   match op,V2 m 8 .nilp [hole i tg]with
   | .eql,some r=>some r
   | .neq,some (h,m)=>V2 m 8 (.un .not) [h]
   | _,_=>none else none
 | _,_=>none
def B1y(P:Program)(m:Mem)(t:TypeId)(l c:Value):Res :=
 match P.underlying t,l,c with
 | some (.slice e),.complex .f64 i ti,.complex .f64 j tj=>bif (Nat.beq i j && Nat.beq ti 3) && Nat.beq tj 3 then
   match P.info? e with
   | some inf=>bif Nat.ble inf.bytes 90000 && Nat.blt 0 inf.size then
     match A1X P e with
     | some z=>bif Nat.beq z.cells.size inf.size && z.cells.toList.all (fun z=>Nat.blt (G3 z) 10)then
       match A2o [] m with
       | some (g,m)=>match A6d m (10+inf.size) (.rep inf.size) (hole i 3::z.cells.toList) fun nx m=>some (hole nx (10+inf.size),m)with
         | some (.complex .f64 nx _,m)=>w7 m nx (10+inf.size) e g
         | _=>none
       | none=>none else none
     | none=>none else none
   | none=>none else none
 | _,_,_=>none
def dsM(P:Program)(fr:Fr)(m:Mem)(o:Op):Res :=
 match o with
 | .makeSlice t l c=>B1y P m t (ev fr l) (ev fr c)
 | .load t x=>B13 P m t (ev fr x)
 | .store t x y=>A68 P m t (ev fr x) (ev fr y)
 | .indexAddr t x i=>A3Q P m t (ev fr x) (ev fr i)
 | .fieldAddr s x i=>A3U P m s (ev fr x) i
 | .slice t x lo hi mx=>A7A P m t (ev fr x) (evO fr lo) (evO fr hi) (evO fr mx)
 | .convert s t x=>B2e P m s t (ev fr x)
 | .binOp op t x y _=>B7K P m op t x y (ev fr x) (ev fr y)
 | .call ⟨.builtin .len,xs,tys⟩=>match evL fr xs.toList,tys.toList with
   | [x],t::_=>B9m P m t x
   | _,_=>none
 | .call ⟨.builtin .append,xs,tys⟩=>match evL fr xs.toList,tys.toList with
   | [x,y],t::t2::_=>A5Z P m t t2 x y
   | _,_=>none
 | _=>none
def B41(P:Program)(m:Mem)(s t:TypeId)(x:Value):Res :=
 match P.underlying s,P.underlying t,x with
 | some (.pointer e),some .unsafePointer,.pointer (some ⟨b,o,none⟩)=>match G8 P e,Hp.get m.H b with
   | some (_+1),some (.cells cs _ _)=>bif Nat.blt o cs.length then some (x,m)else none
   | _,_=>none
 | some .unsafePointer,some (.pointer u),.pointer (some ⟨b,0,none⟩)=>match G8 P u,Hp.get m.H b with
   | some (k+1),some (.cells cs T false)=>bif Nat.beq T u && Nat.beq cs.length (k+1)then some (x,m)else none
   | _,_=>none
 | some (.slice _),some (.slice e),.slice (some ⟨b,o,none⟩) n c=>bif Nat.beq s t && !(Nat.beq c (M9+2))then match P.underlying e,Hp.get m.H b with
   | some (.int .u8),some (.cells cs T false)=>match A05 m b (.cells cs T true)with
     | some m1=>some (x,m1)
     | none=>none
   | _,_=>none else none
 | _,_,_=>none
def B4M(P:Program)(m:Mem)(op:BinOp)(t:TypeId)(a b:Value):Res :=
 match P.underlying t,a,b with
 | some (.pointer e),.pointer (some ⟨b1,o1,none⟩),.pointer (some ⟨b2,o2,none⟩)=>bif Nat.beq b1 b2 && Nat.beq o1 o2 then match P.info? e,op with
   | some _,.eql=>some (.bool true,m)
   | some _,.neq=>some (.bool false,m)
   | _,_=>none else none
 | _,_,_=>none
def sdM(P:Program)(m:Mem)(ty:TypeId)(x:Value):Res :=
 match P.underlying ty with
 | some (.pointer _)=>match x with
  | .func (.yield 4) ⟨[.pointer (some ⟨b,0,none⟩),.complex .f64 i t]⟩ ⟨[]⟩=>match Hp.get m.H b with
   | some (.sq _ _ _ _ _)=>some (sdt b,m)
   | _=>none
  | _=>none
 | _=>none
def usM(P:Program)(m:Mem)(pt:TypeId)(p l:Value):Res :=
 match p with
 | .func (.yield 9) ⟨[.pointer (some ⟨b,0,none⟩)]⟩ ⟨[]⟩=>bif Nat.blt (G3 l) 8 then match Hp.get m.H b,P.underlying pt with
   | some (.sq c tc T g false),some (.pointer e)=>bif Nat.beq e T && Nat.beq tc 11 then match G8 P T,V2 m 9 .ustr [hole c tc,l]with
     | some 1,some (v,m)=>match A05 m b (.sq c tc T g true)with
       | some m=>some (v,m)
       | none=>none
     | _,_=>none else none
   | _,_=>none else none
 | _=>none
def A1Z(P:Program)(t:TypeId):Option Nat :=
 match P.underlying t with
 | some .bool=>some 8
 | some (.int k)=>some (A2A k)
 | some .string=>some 9
 | _=>none
def A6P(P:Program):List Field→Nat→Option (List Nat)
 | [],_=>some []
 | f::r,i=>match A1Z P f.type,A6P P r (i+1)with
   | some t,some l=>bif !(f.name == "_") && Nat.beq f.offset i then some (t::l)else none
   | _,_=>none
def A4L(P:Program)(t:TypeId):Option (Bool×List Nat) :=
 match P.underlying t with
 | some (.struct fs)=>bif P.stoodInHeld t then none else match A6P P fs.toList 0 with
   | some l=>some (true,l)
   | none=>none
 | _=>match A1Z P t with
   | some k=>some (false,[k])
   | none=>none
def B30(P:Program)(t:TypeId):Option (Bool×List Nat) :=
 match r7 P t,A25 P t with
 | some true,some l=>bif l.all (fun k=>Nat.blt k 10)then some (true,l)else none
 | some false,some [k]=>bif Nat.blt k 10 then some (false,[k])else none
 | _,_=>none
structure MTy where
 kt:TypeId
 vt:TypeId
 ka:Bool
 ks:List Nat
 va:Bool
 vs:List Nat
def MTy.w(y:MTy):Nat:=y.ks.length+y.vs.length
def B5i(P:Program)(T:TypeId):Option MTy :=
 match P.underlying T with
 | some (.map kt vt)=>match A4L P kt,B30 P vt with
   | some (ka,k::ks),some (va,vs)=>some ⟨kt,vt,ka,k::ks,va,vs⟩
   | _,_=>none
 | _=>none
def A7s:List Nat→List Value→Bool
 | [],[]=>true
 | t::ts,v::vs=>Nat.beq (G3 v) t && A7s ts vs
 | _,_=>false
def A4A(a:Bool)(ts:List Nat)(v:Value):Option (List Value) :=
 match a,v with
 | true,.agg cs=>bif A7s ts cs.toList then some cs.toList else none
 | true,_=>none
 | false,v=>bif A7s ts [v]then some [v]else none
def B8M(a:Bool)(vs:List Value):Option Value :=
 match a,vs with
 | true,vs=>some (.agg ⟨vs⟩)
 | false,[v]=>some v
 | false,_=>none
def B7M(P:Program)(m:Mem)(T:TypeId):Res :=
 match B5i P T with
 | some y=>A6d m (10+y.w) (.mk y.w) [] fun nx m=>Y5 m (.mp nx (10+y.w) T) fun b=>.map (some b)
 | none=>none
def A5w(w kw c t:Nat)(kc:List Value):List Nat→List Value→Nat→Mem→Option (List Value×Mem)
 | [],[],_,m=>some ([],m)
 | tg::ts,z::zs,j,m=>match V2 m tg (.mget w kw j) (hole c t::z::kc)with
   | some (h,m)=>match A5w w kw c t kc ts zs (j+1) m with
     | some (r,m)=>some (h::r,m)
     | none=>none
   | none=>none
 | _,_,_,_=>none
def A7X(P:Program)(m:Mem)(T:TypeId)(x k:Value)(ok:Bool):Res :=
 match x,B5i P T with
 | .map (some r),some y=>match Hp.get m.H r,A4A y.ka y.ks k,A1X P y.vt with
   | some (.mp c t T2),some kc,some z=>bif Nat.beq T2 T then match A4A y.va y.vs z with
     | some zc=>match A5w y.w y.ks.length c t kc y.vs zc y.ks.length m with
       | some (hs,m)=>match B8M y.va hs with
         | some v=>bif ok then match V2 m 8 (.mhas y.w y.ks.length) (hole c t::kc)with
            | some (b,m)=>some (.tuple ⟨[v,b]⟩,m)
            | none=>none
           else some (v,m)
         | none=>none
       | none=>none
     | none=>none else none
   | _,_,_=>none
 | _,_=>none
def A86(P:Program)(m:Mem)(T:TypeId)(x k v:Value):Res :=
 match x,B5i P T with
 | .map (some r),some y=>match Hp.get m.H r,A4A y.ka y.ks k,A4A y.va y.vs v with
   | some (.mp c t T2),some kc,some vc=>bif Nat.beq T2 T then A6d m t (.mput y.w y.ks.length) (hole c t::(kc++vc)) fun nx m=>B3P (A05 m r (.mp nx t T))else none
   | _,_,_=>none
 | _,_=>none
def B16(P:Program)(m:Mem)(T:TypeId)(x:Value):Res :=
 match P.underlying T,x with
 | some (.map _ _),.map (some r)=>match Hp.get m.H r with
   | some (.mp c t _)=>B0N m c t
   | _=>none
 | _,_=>none
def xtM(P:Program)(fr:Fr)(m:Mem)(o:Oper):Res :=
 match o.op with
 | .convert s t x=>B41 P m s t (ev fr x)
 | .binOp op t x y _=>B4M P m op t (ev fr x) (ev fr y)
 | .call ⟨.builtin .unsafeSliceData,xs,_⟩=>match evL fr xs.toList with
   | [x]=>sdM P m o.type x
   | _=>none
 | .call ⟨.builtin .unsafeString,xs,tys⟩=>match evL fr xs.toList,tys.toList with
   | [p,l],t::_=>usM P m t p l
   | _,_=>none
 | .makeMap t none=>B7M P m t
 | .lookup t x k ok=>A7X P m t (ev fr x) (ev fr k) ok
 | .mapUpdate t x k v=>A86 P m t (ev fr x) (ev fr k) (ev fr v)
 | .insert t x k v=>A86 P m t (ev fr x) (ev fr k) (ev fr v)
 | .call ⟨.builtin .len,xs,tys⟩=>match evL fr xs.toList,tys.toList with
   | [x],t::_=>B16 P m t x
   | _,_=>none
 | _=>none
inductive EK where
 | noEscape|makeNoZero (e:TypeId)|indexByteString|countString|indexString|copyString
 deriving DecidableEq
def B2T:List (FuncId×EK)→FuncId→Option EK
 | [],_=>none
 | (g,k)::r,f=>bif Nat.beq g f then some k else B2T r f
structure FnC where
 run:List Value→Mem→Res
structure P0 where
 fn:FuncId→FnC
 yl:FnC
def A31:Value→Bool
 | .tuple ⟨[]⟩=>true
 | _=>false
def B05(lg:Lg)(v:Value)(b:Bool):Option (Bool×Lg) :=
 match v with
 | .bool c=>some (c == b,lg)
 | .complex k i t=>match brL lg (.complex k i t)with
   | some (c,lg)=>some (c == b,lg)
   | none=>none
 | v=>bif A31 v then some (false,lg)else none
def w6(nt:Nat)(fr:Fr)(lg:Lg)(ops:List Oper)(o:Oper):Option (Bool×Lg) :=
 match o.guard with
 | none=>some (true,lg)
 | some (j,b)=>match ops[j]? with
   | some p=>match p.dst with
     | some t=>bif Nat.blt t nt then B05 lg (fr.get t) b else none
     | none=>none
   | none=>none
def A6x(v:Value)(vs:List Value):Option (FuncId×List Value) :=
 match v with
 | .func (.func f) a b=>some (f,a.toList++(vs++b.toList))
 | _=>none
def A0x(v:Value):Option Nat :=
 match v with
 | .func (.yield 7) ⟨[.pointer (some ⟨b,0,none⟩)]⟩ ⟨[]⟩=>some b
 | _=>none
def B1t(call:P0)(m:Mem)(v:Value)(vs:List Value):Res :=
 match A6x v vs with
 | some (f,vs)=>(call.fn f).run vs m
 | none=>match A0x v with
   | some _=>call.yl.run (v::vs) m
   | none=>none
def C3b(call:P0)(x:XC)(xs:LC)(fr:Fr)(m:Mem):Res:=B1t call m (x.run fr) (xs.run fr)
def C2k(f:FnC)(xs:LC)(fr:Fr)(m:Mem):Res:=f.run (xs.run fr) m
def B7c(P:Program)(c:OpC)(o:Oper)(fr:Fr)(m:Mem):Res :=
 match c.run fr m with
 | some r=>some r
 | none=>match B6T P fr m o.op with
   | some r=>some r
   | none=>match dsM P fr m o.op with
     | some r=>some r
     | none=>xtM P fr m o
def V7(P:Program)(call:P0)(o:Oper):OpC :=
 match o.op with
 | .call ⟨.value (.func f),xs,_⟩=>⟨C2k (call.fn f) (A6T xs.toList)⟩
 | .call ⟨.value x,xs,_⟩=>⟨C3b call (R8 x) (A6T xs.toList)⟩
 | op=>⟨B7c P (A76 P op) o⟩
def A71(nt:Nat)(d:Option Tmp):Bool :=
 match d with
 | some d=>Nat.blt d nt
 | none=>true
structure C22 where
 run:Value→Fr→(Fr→Option S)→Option S
def A6g(d:Option Tmp):C22 :=
 match d with
 | some t=>⟨A6a (sel (t / 64%8)) (sel (t / 8%8)) (sel (t%8))⟩
 | none=>⟨fun _ fr k=>k fr⟩
structure B86 where
 run:S→Option S
def A29(c:OpC)(d:C22)(next:B86)(s:S):Option S :=
 match s with
 | ⟨fr,m⟩=>match c.run fr m with
   | some (v,m')=>bif Nat.ble m.hi m'.hi then d.run v fr fun fr=>next.run ⟨fr,m'⟩else none
   | none=>none
def A07(nt:Nat)(all:List Oper)(o:Oper)(c:OpC)(d:C22)(next:B86)(s:S):Option S :=
 match s with
 | ⟨fr,⟨H,n,W,hi,lg⟩⟩=>match w6 nt fr lg all o with
   | some (true,lg)=>A29 c d next ⟨fr,⟨H,n,W,hi,lg⟩⟩
   | some (false,lg)=>d.run undef fr fun fr=>next.run ⟨fr,⟨H,n,W,hi,lg⟩⟩
   | none=>none
def U2(P:Program)(nt gl:Nat)(call:P0)(all:List Oper):List Oper→B86
 | []=>⟨some⟩
 | o::r=>bif A71 nt o.dst && B3K nt gl o.op then match o.guard with
   | none=>⟨fun s=>A29 (V7 P call o) (A6g o.dst) (U2 P nt gl call all r) s⟩
   | some _=>⟨fun s=>A07 nt all o (V7 P call o) (A6g o.dst) (U2 P nt gl call all r) s⟩
   else⟨fun _=>none⟩
structure Rec where
 i:Nat
 lo:Nat
 hi:Nat
inductive Cls where
 | free
 | one (b:Nat)
 | all
def C34(fr:Fr)(o:Op):Cls :=
 match o with
 | .move _|.assign _|.pick ..|.alloc _|.box ..|.build ..|.buildSlice ..|.nilCheck _|.binOp ..|.unOp ..|.makeInterface ..|.makeFunc ..|.makeMap ..|.makeSlice ..
 | .fieldAddr ..|.field ..|.indexAddr ..|.index ..|.extract ..|.range ..=>.free
 | .slice _ x _ _ _=>match ev fr x with
   | .slice _ _ _|.string _|.pointer _|.complex _ _ _=>.free
   | _=>.all
 | .convert _ _ x=>match ev fr x with
   | .int _ _|.string _=>.free
   | _=>.all
 | .call ⟨.builtin .len,xs,_⟩=>match evL fr xs.toList with
   | [.slice _ _ _]|[.string _]=>.free
   | _=>.all
 | .call ⟨.builtin .min,_,_⟩|.call ⟨.builtin .max,_,_⟩=>.free
 | .call ⟨.builtin .unsafeSliceData,xs,_⟩=>match evL fr xs.toList with
   | [.slice _ _ _]=>.free
   | _=>.all
 | .load _ x|.store _ x _=>match ev fr x with
   | .pointer (some a)=>.one a.block
   | _=>.all
 | _=>.all
def A9M(H:Hp AB):List Nat→Hp AB
 | []=>H
 | b::r=>Hp.put H b none fun H=>A9M H r
def A9s(H0 H:Hp AB):List Nat→Hp AB
 | []=>H
 | b::r=>Hp.put H b (Hp.get H0 b) fun H=>A9s H0 H r
def B3A:Nat→Nat→List Nat
 | _,0=>[]
 | lo,n+1=>lo::B3A (lo+1) n
def Y1:List Rec→List Nat
 | []=>[]
 | r::rs=>B3A r.lo (r.hi-r.lo)++Y1 rs
def o7(l:List Nat)(b:Nat):Bool:=l.any (Nat.beq b)
def B0v(l:List Nat):Bool:=l.all fun b=>Nat.ble b H1
def A9A(b:List Nat)(rs:List Rec):List Rec:=rs.filter fun r=>!(o7 b r.i)
def A8n(m:Mem)(c:Cls)(us:List Rec):Option Mem :=
 match m with
 | ⟨H,n,_,hi,lg⟩=>match c with
   | .free=>some ⟨hp0,n,[],hi,lg⟩
   | .one b=>bif o7 (Y1 us) b || !(Nat.ble b H1)then none else Hp.put hp0 b (Hp.get H b) fun H=>some ⟨H,n,[],hi,lg⟩
   | .all=>bif B0v (Y1 us)then some ⟨A9M H (Y1 us),n,[],hi,lg⟩else none
def A3G(m m':Mem):Option Mem :=
 bif Nat.ble m'.hi m.n then(match m with|⟨H,n,W,hi,_⟩=>some ⟨H,n,W,hi,m'.lg⟩)else
 bif Nat.ble m'.hi H1 then B0a (A9s m'.H m.H (B3A m.n (m'.hi-m.n))) fun H=>K0 m'.hi fun n=>some ⟨H,n,m.W,n,m'.lg⟩else none
def B4u(fr:Fr)(m:Mem)(o:Oper)(b:List Nat)(rs:List Rec)(op:OpC)(k:Value→Mem→Option S):Option S :=
 let us:=A9A b rs
 let c:=C34 fr o.op
 match A8n m c us with
 | some mv=>match op.run fr mv with
   | some (v,m') =>
     match m'.W,Nat.ble m.hi m'.hi with
     | [],true=>match A3G m m' with
       | some m2=>k v m2
       | none=>none
     | _,_=>none
   | none=>none
 | none=>none
def wrO:Op→Bool
 | .call _|.store ..|.mapUpdate ..=>true
 | _=>false
def q8:Op→Bool
 | .move _|.assign _|.extract ..=>true
 | _=>false
def C2W:Op→Bool
 | .field ..|.fieldAddr ..|.index ..|.indexAddr ..|.binOp ..|.unOp ..|.build ..|.load ..|.pick ..|.convert ..|.slice ..|.nilCheck _=>true
 | .call ⟨.builtin .len,_,_⟩=>true
 | o=>q8 o
def A96(a b:Addr):Bool :=
 match a,b with
 | ⟨x,o,none⟩,⟨y,p,none⟩=>Nat.beq x y && Nat.beq o p
 | _,_=>false
def B3F(f g:Fn):Bool :=
 match f,g with
 | .func f,.func g=>Nat.beq f g
 | .yield f,.yield g=>Nat.beq f g
 | _,_=>false
def A8v(s:Value→Value→Bool):List Value→List Value→Bool
 | [],[]=>true
 | a::l,b::r=>s a b && A8v s l r
 | _,_=>false
def A7G:Nat→Value→Value→Bool
 | _,.bool a,.bool b=>a == b
 | _,.int k n,.int j m=>A7H k j && A8g n m
 | _,.complex .f64 i t,.complex .f64 j u=>Nat.beq i j && Nat.beq t u
 | _,.complex .f32 i t,.complex .f32 j u=>Nat.beq i j && Nat.beq t u
 | _,.string s,.string t=>decide (s.data.toList=t.data.toList)
 | _,.pointer none,.pointer none=>true
 | _,.pointer (some a),.pointer (some b)=>A96 a b
 | _,.slice none n c,.slice none m d=>Nat.beq n m && Nat.beq c d
 | _,.slice (some a) n c,.slice (some b) m d=>A96 a b && (Nat.beq n m && Nat.beq c d)
 | _,.map none,.map none=>true
 | _,.map (some a),.map (some b)=>Nat.beq a b
 | _,.nilFunc,.nilFunc=>true
 | _,.nilIface,.nilIface=>true
 | d+1,.func f a b,.func g a' b'=>B3F f g && (A8v (A7G d) a.toList a'.toList && A8v (A7G d) b.toList b'.toList)
 | d+1,.iface t v,.iface u w=>Nat.beq t u && A7G d v w
 | _,_,_=>false
def B6v(a b:AB):Bool :=
 match a,b with
 | .frz,.frz=>true
 | .cells cs T ro,.cells cs' T' ro'=>A8v (A7G 6) cs cs' && (Nat.beq T T' && (ro == ro'))
 | _,_=>false
def B66(H:Hp AB)(b:Nat):Option (Nat×AB) :=
 match Hp.get H b with
 | some .frz=>some (b,.frz)
 | some (.cells cs T ro)=>some (b,.cells cs T ro)
 | _=>none
def B2M(H:Hp AB)(fr:Fr)(o:Op):Option (Nat×AB) :=
 match o with
 | .load _ x=>match ev fr x with
   | .func (.yield 5) ⟨.pointer (some a)::_⟩ _=>B66 H a.block
   | .pointer (some a)=>B66 H a.block
   | _=>none
 | _=>none
def A7g(H:Hp AB)(b:Nat)(ab:AB):Bool :=
 match Hp.get H b with
 | some x=>Nat.ble b H1 && B6v x ab
 | none=>false
def A5X:Nat:=262144
def B0B(m:Mem)(r:Option (Nat×AB))(us:List Rec):Option Mem :=
 match m with
 | ⟨H,_,_,_,lg⟩=>match r with
   | none=>some ⟨hp0,A5X,[],A5X,lg⟩
   | some (b,ab)=>bif o7 (Y1 us) b || !(A7g H b ab)then none else Hp.put hp0 b (some ab) fun H=>some ⟨H,A5X,[],A5X,lg⟩
def A3B(fr:Fr)(m:Mem)(o:Oper)(b:List Nat)(rs:List Rec)(op:OpC):Option (Value×Lg) :=
 match B0B m (B2M m.H fr o.op) (A9A b rs)with
 | some mv=>match op.run fr mv with
   | some (v,⟨_,_,[],hi,lg⟩)=>bif Nat.beq hi A5X then some (v,lg)else none
   | _=>none
 | none=>none
abbrev Qs:=List (Nat×Option (Nat×AB))
def B0w:Nat→List Nat→Qs→Bool
 | 0,_,_=>true
 | n+1,b,qs=>(o7 b n || qs.any fun q=>Nat.beq n q.1) && B0w n b qs
def B0P(i:Nat):List (List Nat)→List Oper→Bool
 | c::bs,o::r=>(o7 c i || q8 o.op) && B0P i bs r
 | _,_=>true
def C04(H:Hp AB)(r:Option (Nat×AB)):Bool :=
 match r with
 | none=>true
 | some (b,ab)=>A7g H b ab
def B7b(b:List Nat)(H:Hp AB)(qs:Qs):Bool:=qs.all fun q=>o7 b q.1 || C04 H q.2
def B1O(o:Op)(i:Nat)(b:List Nat)(bs:List (List Nat))(r:List Oper)(qs:Qs):Bool:=wrO o && (B0w i b qs && B0P i bs r)
def e9(P:Program)(nt gl:Nat)(call:P0)(all:List Oper):List Oper→Nat→List (List Nat)→List Rec→Qs→S→Option S
 | [],_,_,_,_,s=>some s
 | _::_,_,[],_,_,_=>none
 | o::r,i,b::bs,rs,qs,⟨fr,⟨H,n,W,hi,lg⟩⟩=>match w6 nt fr lg all o,A71 nt o.dst && B3K nt gl o.op with
   | some (true,lg),true=>bif B1O o.op i b bs r qs then(match (V7 P call o).run fr ⟨H,n,W,hi,lg⟩with
      | some (v,m2)=>bif Nat.ble hi m2.hi && B7b b m2.H qs then(A6g o.dst).run v fr fun fr=>e9 P nt gl call all r (i+1) bs [] qs ⟨fr,m2⟩else none
      | none=>none)
     else match (bif C2W o.op then A3B fr ⟨H,n,W,hi,lg⟩ o b rs (V7 P call o)else none)with
      | some (v,lg2)=>(A6g o.dst).run v fr fun fr2=>e9 P nt gl call all r (i+1) bs rs ((i,B2M H fr o.op)::qs) ⟨fr2,⟨H,n,W,hi,lg2⟩⟩
      | none=>bif q8 o.op then none else B4u fr ⟨H,n,W,hi,lg⟩ o b rs (V7 P call o) fun v m2 =>
        (A6g o.dst).run v fr fun fr=>e9 P nt gl call all r (i+1) bs (⟨i,n,m2.n⟩::rs) qs ⟨fr,m2⟩
   | some (false,lg),true=>(A6g o.dst).run undef fr fun fr=>e9 P nt gl call all r (i+1) bs rs ((i,none)::qs) ⟨fr,⟨H,n,W,hi,lg⟩⟩
   | _,_=>none
def B8P(l:List Nat)(b:Nat):List Nat:=bif o7 l b then l else K0 b fun b=>b::l
def B4e:List Nat→List Nat→List Nat
 | [],b=>b
 | x::a,b=>B8P (B4e a b) x
def A5a(acc:List (List Nat)):List Edge→List Nat
 | []=>[]
 | e::r=>bif Region.binds .any e then B8P (B4e (acc.getD e.on []) (A5a acc r)) e.on else A5a acc r
def X7:List Oper→List (List Nat)→List (List Nat)
 | [],acc=>acc
 | o::r,acc=>Q9 (A5a acc o.after.toList) fun a=>X7 r (acc++[a])
def A4v:Operand→List Tmp
 | .tmp t=>[t]
 | _=>[]
def U7(ops:List Oper)(o:Oper):List Tmp :=
 o.dst.toList++(o.op.operands.toList.flatMap A4v++(match o.guard with
  | none=>[]
  | some (j,_)=>match ops[j]? with
    | some p=>p.dst.toList
    | none=>[]))
def B9V(an:List (List Nat))(i k:Nat):Bool:=bif Nat.blt i k then o7 (an.getD k []) i else o7 (an.getD i []) k
def A5d(an:List (List Nat))(i:Nat)(sl:List Tmp):List Oper→Nat→Bool
 | [],_=>true
 | p::r,k=>(Nat.beq k i || (match p.dst with|none=>true|some t=>!(o7 sl t) || B9V an i k)) && A5d an i sl r (k+1)
def A36(i:Nat):List Edge→Bool
 | []=>true
 | e::r=>(!(Region.binds .any e) || Nat.blt e.on i) && A36 i r
def B1q(ops:List Oper)(an:List (List Nat)):List Oper→Nat→Bool
 | [],_=>true
 | o::r,i=>A36 i o.after.toList && (A5d an i (U7 ops o) ops 0 && B1q ops an r (i+1))
def B0l(ops:Array Oper):Bool:=B1q ops.toList (X7 ops.toList []) ops.toList 0
def B0q:Op→Bool
 | .move _|.assign _|.load _ _|.store _ _ _=>true
 | _=>false
def A3e:Op→Option (TypeId×Operand)
 | .load t x=>some (t,x)
 | .store t x _=>some (t,x)
 | _=>none
def A1d:Op→Bool
 | .store _ _ _=>true
 | _=>false
def B64:Op→List Tmp
 | .move x|.assign x=>A4v x
 | .load _ x=>A4v x
 | .store _ x y=>A4v x++A4v y
 | _=>[]
def A85(o:Oper)(l:List Tmp):Bool :=
 match o.dst with
 | some d=>o7 l d
 | none=>false
def C3g(a b:Oper):Bool :=
 (match a.dst,b.dst with
   | some d,some e=>!(Nat.beq d e)
   | _,_=>true) && (!(A85 a (B64 b.op)) && (!(A85 b (B64 a.op)) && !(A1d a.op && A1d b.op)))
def A5T(o:Oper)(i:Nat):Bool:=o.after.any fun e=>Region.binds .any e && Nat.beq e.on i
def B8Q(l:List Oper):List Tmp:=l.flatMap fun o=>match A3e o.op with
 | some (_,x)=>A4v x
 | none=>[]
def B0D(p:Oper→Oper→Bool)(l:List Oper):Bool :=
 (List.range l.length).all fun j=>(List.range j).all fun i=>match l[i]?,l[j]? with
   | some a,some b=>A5T b i || p a b
   | _,_=>true
def C2a(ads:List Tmp)(i:Nat)(o:Oper):Bool:=B0q o.op && ((match o.guard with|none=>true|some _=>false) && (!(A85 o ads) && o.after.all fun e=>!(Region.binds .any e) || Nat.blt e.on i))
def B7G(ads:List Tmp):Nat→List Oper→Bool
 | _,[]=>true
 | i,o::l=>C2a ads i o && B7G ads (i+1) l
def A2_(l:List Oper):Bool:=B7G (B8Q l) 0 l && B0D C3g l
def B7A(P:Program)(nt gl:Nat)(fr:Fr)(H:Hp AB)(o:Oper):Bool :=
 match A3e o.op with
 | none=>true
 | some (t,x)=>bif !(okX nt gl x)then false else match ev fr x,r7 P t,G8 P t with
   | .pointer (some a),some _,some s=>match a.spot,Hp.get H a.block with
     | none,some (.cells cs _ false)=>Nat.ble (a.off+s) cs.length && (Nat.blt a.off cs.length && Nat.ble a.block H1)
     | _,_=>false
   | _,_,_=>false
def B8O(fr:Fr)(a b:Oper):Bool :=
 bif A1d a.op || A1d b.op then match A3e a.op,A3e b.op with
  | some (_,x),some (_,y)=>match ev fr x,ev fr y with
    | .pointer (some p),.pointer (some q)=>!(Nat.beq p.block q.block)
    | _,_=>false
  | _,_=>true else true
def A3I(P:Program)(nt gl:Nat)(fr:Fr)(H:Hp AB)(l:List Oper):Bool:=l.all (B7A P nt gl fr H) && B0D (B8O fr) l
structure A2u where
 run:S→Option (Ex×S)
def A9C(f:A2u):Nat→S→Option (Ex×S)
 | 0,_=>none
 | n+1,s=>match f.run s with
   | some (.normal,s)=>A9C f n s
   | r=>r
def B8G(a b:A2u)(s:S):Option (Ex×S) :=
 match a.run s with
 | some (.normal,s)=>b.run s
 | r=>r
def B2j(c:XC)(a b:A2u)(s:S):Option (Ex×S) :=
 match c.run s.fr with
 | .bool true=>a.run s
 | .bool false=>b.run s
 | v=>match s with
   | ⟨fr,⟨H,n,W,hi,lg⟩⟩=>match brL lg v with
     | some (true,lg)=>a.run ⟨fr,⟨H,n,W,hi,lg⟩⟩
     | some (false,lg)=>b.run ⟨fr,⟨H,n,W,hi,lg⟩⟩
     | none=>none
def A8D(id:Nat)(c:A2u)(s:S):Option (Ex×S) :=
 match c.run s with
 | some (.exit j,s)=>bif Nat.beq j id then some (.normal,s)else some (.exit j,s)
 | r=>r
def X4(r:B86)(s:S):Option (Ex×S) :=
 match r.run s with
 | some s=>some (.normal,s)
 | none=>none
structure LpT where
 me:FuncId
 look:List Bool→Option (S→Option (Ex×S))
def A9D(c:A2u)(L:S→Option (Ex×S)):Nat→S→Option (Ex×S)
 | 0,_=>none
 | n+1,s=>match L s with
   | some r=>some r
   | none=>match c.run s with
     | some (.normal,s)=>A9D c L n s
     | r=>r
def B2h(c:A2u)(l:Option (S→Option (Ex×S)))(s:S):Option (Ex×S) :=
 match l with
 | some f=>A9D c f 4 s
 | none=>A9C c 1000000 s
def frL(fr:Fr):Nat→Nat→List Value
 | _,0=>[]
 | i,n+1=>fr.get i::frL fr (i+1) n
def C0y:Value→Nat
 | .pointer (some a)=>a.block
 | _=>0
def A2E(v:Value):List Nat :=
 match v with
 | .func (.yield 8) ⟨l⟩ ⟨[]⟩=>l.map C0y
 | _=>[]
def exN:Ex→Nat
 | .normal=>0
 | .ret=>2
 | .exit k=>k+4
def nEx:Nat→Option Ex
 | 0=>some .normal
 | 1=>none
 | 2=>some .ret
 | 3=>none
 | k+4=>some (.exit k)
def B0R:Ex→Bool
 | .normal=>true
 | _=>false
def A4_(fr:Fr)(hi:Nat)(b:Nat)(r:Res):Option (Ex×S) :=
 match r with
 | some (_,m)=>match Hp.get m.H b with
   | some (.lp f q vs st)=>match nEx st with
     | some e=>bif Nat.ble hi m.hi then match A05 m b (.lp f q vs 3)with
       | some m=>some (e,⟨fr,m⟩)
       | none=>none else none
     | none=>none
   | _=>none
 | none=>none
def A5K(P:Program)(f:FuncId):Bool :=
 match P.funcs.toList[f]? with
 | some fn=>match fn.body with
   | some _=>true
   | none=>false
 | none=>false
def A0B(P:Program)(nt:Nat)(call:P0)(f:FuncId)(q:List Bool)(g:Value)(fr:Fr)(m:Mem):Option (Ex×S) :=
 Q9 (frL fr 0 nt) fun vs=>match Y5 m (.lp f q vs 0) yv with
 | some (v,m1)=>match A6x g [v],A0x v with
   | some (k,as),some b=>bif A5K P k then A4_ fr m1.hi b ((call.fn k).run as m1)else none
   | _,_=>none
 | none=>none
def A8C(P:Program)(nt:Nat)(call:P0)(f:FuncId)(q:List Bool)(x:XC)(s:S):Option (Ex×S) :=
 match s with
 | ⟨fr,m⟩=>bif Nat.ble nt 510 then match A0x (fr.get 511)with
   | some b0=>match Hp.get m.H b0 with
     | some (.lp _ _ _ 1)=>A0B P nt call f q (x.run fr) fr m
     | _=>none
   | none=>bif A31 (fr.get 511)then match Y5 m (.dfr true) (fun b=>.pointer (some ⟨b,0,none⟩))with
      | some (.pointer (some a),m1)=>Q9 (A2E (fr.get 510)) fun l=>A6a (sel 7) (sel 7) (sel 6) (dv (a.block::l)) fr fun fr2=>A0B P nt call f q (x.run fr) fr2 m1
      | _=>none else none
   else none
def M3(P:Program)(nt gl:Nat)(call:P0)(lp:LpT):List Bool→Code→A2u
 | _,.skip=>⟨fun s=>some (.normal,s)⟩
 | _,.label _=>⟨fun s=>some (.normal,s)⟩
 | _,.region _ ops d=>match d with
   | false=>⟨fun s=>X4 (U2 P nt gl call ops.toList ops.toList) s⟩
   | true=>bif B0l ops then bif A2_ ops.toList then⟨fun s=>bif A3I P nt gl s.fr s.m.H ops.toList then X4 (U2 P nt gl call ops.toList ops.toList) s else X4 ⟨e9 P nt gl call ops.toList ops.toList 0 (X7 ops.toList []) [] []⟩ s⟩
     else⟨fun s=>X4 ⟨e9 P nt gl call ops.toList ops.toList 0 (X7 ops.toList []) [] []⟩ s⟩else⟨fun _=>none⟩
 | q,.seq a b=>⟨fun s=>B8G (M3 P nt gl call lp (q++[false]) a) (M3 P nt gl call lp (q++[true]) b) s⟩
 | q,.cond c a b=>bif okX nt gl c then⟨fun s=>B2j (R8 c) (M3 P nt gl call lp (q++[false]) a) (M3 P nt gl call lp (q++[true]) b) s⟩else⟨fun _=>none⟩
 | q,.block id c=>⟨fun s=>A8D id (M3 P nt gl call lp (q++[false]) c) s⟩
 | q,.loop c=>⟨fun s=>B2h (M3 P nt gl call lp (q++[false]) c) (lp.look q) s⟩
 | q,.rangeFunc x _ _ _=>bif okX nt gl x then⟨fun s=>A8C P nt call lp.me q (R8 x) s⟩else⟨fun _=>none⟩
 | q,.scope c=>M3 P nt gl call lp (q++[false]) c
 | _,.exit id=>⟨fun s=>some (.exit id,s)⟩
 | _,.ret=>⟨fun s=>some (.ret,s)⟩
 | _,_=>⟨fun _=>none⟩
def B3c(ids:Value→List Nat):List Value→List Nat
 | []=>[]
 | v::r=>ids v++B3c ids r
def B0W:Nat→Value→List Nat
 | 0,_=>[]
 | _+1,.pointer (some a)=>[a.block]
 | _+1,.slice (some a) _ _=>[a.block]
 | _+1,.map (some b)=>[b]
 | d+1,.func _ a b=>B3c (B0W d) a.toList++B3c (B0W d) b.toList
 | d+1,.iface _ v=>B0W d v
 | d+1,.agg cs=>B3c (B0W d) cs.toList
 | d+1,.tuple cs=>B3c (B0W d) cs.toList
 | _+1,_=>[]
def C3j:AB→List Nat
 | .cells cs _ _=>B3c (B0W 10) cs
 | .mp _ _ _=>[]
 | .iter _ _=>[]
 | .lp _ _ vs _=>B3c (B0W 10) vs
 | .dfr _=>[]
 | .sq _ _ _ g _=>[g]
 | .frz=>[]
def B1a(n0:Nat)(H:Hp AB):Nat→List Nat→List Nat→List Nat
 | 0,_,acc=>acc
 | _+1,[],acc=>acc
 | f+1,b::r,acc=>bif Nat.blt b n0 || o7 acc b then B1a n0 H f r acc else match Hp.get H b with
   | some ab=>B1a n0 H f (C3j ab++r) (b::acc)
   | none=>B1a n0 H f r acc
def A1G(H' H:Hp AB):List Nat→Hp AB
 | []=>H
 | b::r=>Hp.put H b (Hp.get H' b) fun H=>A1G H' H r
def wOf(H:Hp AB):List Nat→List Nat
 | []=>[]
 | b::r=>(match Hp.get H b with|some ab=>C3j ab|none=>[])++wOf H r
def A4N:List Nat→List Nat→List Nat
 | [],acc=>acc
 | b::r,acc=>bif o7 acc b then A4N r acc else A4N r (b::acc)
def A5m(low:Value→Bool):List Value→Bool
 | []=>true
 | v::r=>low v && A5m low r
def w5(n:Nat):Nat→Value→Bool
 | 0,_=>false
 | _+1,.pointer (some a)=>Nat.blt a.block n
 | _+1,.slice (some a) _ _=>Nat.blt a.block n
 | _+1,.map (some b)=>Nat.blt b n
 | d+1,.func _ a b=>A5m (w5 n d) a.toList && A5m (w5 n d) b.toList
 | d+1,.iface _ v=>w5 n d v
 | d+1,.agg cs=>A5m (w5 n d) cs.toList
 | d+1,.tuple cs=>A5m (w5 n d) cs.toList
 | _+1,.complex _ _ _=>true
 | _+1,v=>I2 v
def B9j(n:Nat):Option AB→Bool
 | none=>true
 | some (.cells cs _ _)=>A5m (w5 n 10) cs
 | some (.mp _ _ _)=>true
 | some (.iter _ _)=>true
 | some (.lp _ _ vs _)=>A5m (w5 n 10) vs
 | some (.dfr _)=>true
 | some (.sq _ _ _ g _)=>Nat.blt g n
 | some .frz=>true
def B3S(n:Nat)(H:Hp AB):List Nat→Bool
 | []=>true
 | b::r=>B9j n (Hp.get H b) && B3S n H r
def gcM(m m':Mem)(v:Value):Option Mem :=
 let W:=A4N (m'.W.filter fun b=>Nat.blt b m.n || Nat.ble m'.hi b) []
 bif w5 m.n 10 v && B3S m.n m'.H W then
  bif B0v W then B0a (A1G m'.H m.H W) fun H=>K0 m'.hi fun hi=>Q9 (W++m.W) fun W=>some ⟨H,m.n,W,hi,m'.lg⟩else none
 else
  let ids:=(B1a m.n m'.H 100000 (B0W 10 v++wOf m'.H W) []).filter fun b=>Nat.ble m.n b && Nat.blt b m'.hi
  bif B0v (W++ids)then B0a (A1G m'.H m.H (W++ids)) fun H=>K0 m'.n fun n=>K0 m'.hi fun hi=>Q9 (W++m.W) fun W=>some ⟨H,n,W,hi,m'.lg⟩else none
def C3F(P:Program)(nt:Nat)(s:S):ResultVar→Option Value
 | .tmp t=>bif Nat.blt t nt then some (s.fr.get t)else none
 | .cell a t=>bif Nat.blt a nt then match s.fr.get a with
   | .pointer (some a)=>B4Y P s.m t a
   | _=>none else none
def B5c(P:Program)(nt:Nat)(s:S):List ResultVar→Option (List Value)
 | []=>some []
 | r::rs=>match C3F P nt s r,B5c P nt s rs with
   | some v,some vs=>some (v::vs)
   | _,_=>none
def B5b(fn:Func)(P:Program)(s:S):Option Value :=
 match B5c P fn.ntmps s fn.results.toList with
 | some [v]=>some v
 | some vs=>some (.tuple ⟨vs⟩)
 | none=>none
def A1Q(fr:Fr):Nat→List Value→Fr
 | _,[]=>fr
 | i,v::r=>A6a (sel (i / 64%8)) (sel (i / 8%8)) (sel (i%8)) v fr fun fr=>A1Q fr (i+1) r
def A5t(l:List UInt8)(c:UInt8):Nat→Int
 | i=>match l with
   | [] => -1
   | b::r=>bif decide (b=c)then(i:Int)else A5t r c (i+1)
def A52(c:UInt8):List UInt8→Nat→Nat
 | [],n=>n
 | b::r,n=>bif decide (b=c)then K0 (n+1) (A52 c r)else A52 c r n
def A4e(k:EK)(args:List Value)(m:Mem):Res :=
 match k,args with
 | .noEscape,[v]=>some (v,m)
 | .indexByteString,[.string s,.int .u8 (.ofNat c)]=>some (.int .i64 (A5t s.data.toList (UInt8.ofNat c) 0),m)
 | .countString,[.string s,.int .u8 (.ofNat c)]=>some (.int .i64 (A52 (UInt8.ofNat c) s.data.toList 0),m)
 | .makeNoZero e,[.int .i64 (.ofNat n)]=>bif Nat.ble n 1000000000 then Y5 m (.cells [] e false) fun b=>.slice (some ⟨b,0,none⟩) n M9 else none
 | _,_=>none
def A4w:List Nat→Mem→Option Mem
 | [],m=>some m
 | b::r,m=>match Hp.get m.H b with
   | some (.dfr true)=>match A05 m b (.dfr false)with
     | some m=>A4w r m
     | none=>none
   | _=>none
def dvG(nt:Nat)(fr:Fr):List Nat:=bif Nat.ble nt 510 then A2E (fr.get 510)else[]
def C2r(fn:Func)(P:Program)(m:Mem)(r:Option (Ex×S)):Res :=
 match r with
 | some (.normal,⟨fr,m1⟩)|some (.ret,⟨fr,m1⟩)=>match A4w (dvG fn.ntmps fr) m1 with
   | some m1=>match B5b fn P ⟨fr,m1⟩with
     | some v=>match gcM m m1 v with
       | some m=>some (v,m)
       | none=>none
     | none=>none
   | none=>none
 | _=>none
def B2_(c:A2u)(fr:Fr)(m:Mem):Option (Ex×S) :=
 match m with
 | ⟨H,n,_,hi,lg⟩=>c.run ⟨fr,⟨H,n,[],hi,lg⟩⟩
def A9l(fn:Func)(P:Program)(c:A2u)(args:List Value)(m:Mem):Res :=
 bif Nat.ble args.length fn.ntmps && Nat.ble fn.ntmps 512 then C2r fn P m (B2_ c (A1Q fr0 0 args) m)else none
structure Cx where
 P:Program
 ext:List (FuncId×EK)
 gl:Nat
 con:FuncId→Option FnC
 lp:FuncId→LpT
def A9j(C:Cx)(call:P0)(f:FuncId):FnC :=
 match C.P.funcs.toList[f]? with
 | none=>⟨fun _ _=>none⟩
 | some fn=>match C.con f with
   | some c=>c
   | none=>match fn.body with
     | none=>match B2T C.ext f with
       | some k=>⟨A4e k⟩
       | none=>⟨fun _ _=>none⟩
     | some c=>⟨A9l fn C.P (M3 C.P fn.ntmps C.gl call (C.lp f) [] c)⟩
def A6I:List Tmp→List Value→Fr→Option Fr
 | [],[],fr=>some fr
 | t::ts,v::vs,fr=>A6a (sel (t / 64%8)) (sel (t / 8%8)) (sel (t%8)) v fr fun fr=>A6I ts vs fr
 | _,_,_=>none
def A45(b:Nat)(r:Option (Ex×S)):Res :=
 match r with
 | some (e,⟨_,m⟩)=>match Hp.get m.H b with
   | some (.lp f q vs 1)=>K0 (exN e) fun st=>match A05 m b (.lp f q vs st)with
     | some m=>some (.bool (B0R e),m)
     | none=>none
   | _=>none
 | none=>none
def A44(b:Nat)(c:A2u)(r:Option (Ex×S)):Res :=
 match r with
 | some (.normal,⟨fr,m⟩)=>match Hp.get m.H b with
   | some (.lp f q vs 0)=>match A05 m b (.lp f q vs 1)with
     | some m=>A45 b (c.run ⟨fr,m⟩)
     | none=>none
   | _=>none
 | _=>none
def A99(C:Cx)(call:P0):FnC:=⟨fun vs m =>
 match vs with
 | []=>none
 | v::args=>match A0x v with
   | none=>none
   | some b=>match Hp.get m.H b with
     | some (.lp f q fs 0)=>match C.P.funcs.toList[f]? with
       | none=>none
       | some fn=>match fn.body with
         | none=>none
         | some body=>match K4 q body with
           | some (.rangeFunc _ ps as bd)=>bif Nat.ble fn.ntmps 510 && ps.toList.all (fun t=>Nat.blt t fn.ntmps)then match A6I ps.toList args (A1Q fr0 0 fs)with
             | some fr=>A6a (sel 7) (sel 7) (sel 7) v fr fun fr=>A44 b (M3 C.P fn.ntmps C.gl call (C.lp f) (q++[true]) bd) ((M3 C.P fn.ntmps C.gl call (C.lp f) (q++[false]) as).run ⟨fr,m⟩)
             | none=>none else none
           | _=>none
     | _=>none⟩
def A6U(C:Cx):Nat→P0
 | 0=>⟨fun _=>⟨fun _ _=>none⟩,⟨fun _ _=>none⟩⟩
 | d+1=>⟨A9j C (A6U C d),A99 C (A6U C d)⟩
end Go.Sx
