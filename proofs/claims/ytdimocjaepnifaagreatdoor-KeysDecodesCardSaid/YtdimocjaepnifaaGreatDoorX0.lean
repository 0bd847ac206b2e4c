/- The law KeysDecodes: for every input the call returns true, and the arguments read behind it as they read before. No condition. -/
import Derived.WalkKit
import Derived.OrdersHeld
import Derived.KernelRfl
set_option linter.all false
set_option maxRecDepth 100000
set_option maxHeartbeats 4000000
namespace Go
variable {p:Prop}
abbrev iX:=@Array.all_eq_true'
abbrev L1:=@Array.ext'
abbrev C3:=@Array.getD_eq_getD_getElem?
abbrev Y6:=@Array.getElem?_append_left
abbrev I0:=@Array.getElem?_eq_getElem
abbrev E0:=@Array.getElem?_eq_some_iff
abbrev I8:=@Array.getElem?_modify
abbrev bA:=@Array.getElem?_push
abbrev kO:=@Array.getElem?_replicate
abbrev H4:=@Array.getElem?_setIfInBounds
abbrev Z1:=@Array.getElem?_toList
abbrev W9:=@Array.length_toList
abbrev jC:=@Array.mapM_eq_mapM_toList
abbrev aJ:=@Array.mk.injEq
abbrev o9:=@BitVec.toNat_and
abbrev R9:=@BitVec.toNat_ofInt
abbrev I3:=@Bool.and_eq_true
abbrev P4:=@Bool.and_false
abbrev kN:=@Bool.and_true
abbrev M6:=@Bool.eq_iff_iff
abbrev Q3:=@Bool.false_and
abbrev K9:=@Bool.false_eq_true
abbrev R7:=@Bool.false_or
abbrev V4:=@Bool.not_true
abbrev P0:=@Bool.or_eq_false_iff
abbrev K3:=@Bool.or_eq_true
abbrev Q4:=@Bool.true_and
abbrev O5:=@Decidable.not_not
abbrev nV:=@Int.emod_nonneg
abbrev nU:=@Int.ofNat.injEq
abbrev fA:=@Int.ofNat_eq_natCast
abbrev iW:=@Int.tmod_eq_emod_of_nonneg
abbrev N2:=@Int.toNat_natCast
abbrev U2:=@Int.toNat_of_nonneg
abbrev fN:=@List.all_append
abbrev bK:=@List.all_cons
abbrev D7:=@List.all_eq_true
abbrev bJ:=@List.any_cons
abbrev x7:=@List.any_eq_false
abbrev X9:=@List.any_eq_true
abbrev N1:=@List.append_assoc
abbrev fM:=@List.append_nil
abbrev L5:=@List.cons.inj
abbrev H8:=@List.cons.injEq
abbrev X8:=@List.cons_append
abbrev dI:=@List.drop_drop
abbrev aV:=@List.drop_eq_getElem_cons
abbrev dH:=@List.drop_eq_nil_of_le
abbrev P3:=@List.drop_zero
abbrev eA:=@List.eq_nil_iff_forall_not_mem
abbrev R1:=@List.eq_nil_of_length_eq_zero
abbrev d7:=@List.ext_getElem?
abbrev lY:=@List.filter_cons_of_pos
abbrev fT:=@List.filter_eq_self
abbrev dG:=@List.find?_append
abbrev fL:=@List.find?_cons
abbrev J3:=@List.find?_cons_of_neg
abbrev N0:=@List.find?_cons_of_pos
abbrev kF:=@List.flatMap_cons
abbrev B4:=@List.getD_eq_getElem?_getD
abbrev F5:=@List.getElem?_append_left
abbrev E8:=@List.getElem?_append_right
abbrev W3:=@List.getElem?_cons_succ
abbrev W1:=@List.getElem?_cons_zero
abbrev J2:=@List.getElem?_drop
abbrev A7:=@List.getElem?_eq_getElem
abbrev L9:=@List.getElem?_eq_none
abbrev jB:=@List.getElem?_eq_none_iff
abbrev B3:=@List.getElem?_eq_some_iff
abbrev H9:=@List.getElem?_map
abbrev aF:=@List.getElem?_set_ne
abbrev X5:=@List.getElem?_set_self
abbrev G1:=@List.getElem?_take_of_lt
abbrev L8:=@List.getElem?_toArray
abbrev S3:=@List.getElem_mem
abbrev aZ:=@List.getElem_of_mem
abbrev O1:=@List.isPrefixOf_iff_prefix
abbrev B2:=@List.length_append
abbrev C4:=@List.length_cons
abbrev F4:=@List.length_drop
abbrev D4:=@List.length_eq_zero_iff
abbrev H3:=@List.length_map
abbrev G4:=@List.length_nil
abbrev N6:=@List.length_pos_iff
abbrev fK:=@List.length_set
abbrev F7:=@List.length_singleton
abbrev G8:=@List.length_take
abbrev N7:=@List.map_append
abbrev F0:=@List.map_cons
abbrev kM:=@List.map_drop
abbrev dF:=@List.map_inj_left
abbrev K7:=@List.map_nil
abbrev bH:=@List.map_take
abbrev B5:=@List.mem_append
abbrev c9:=@List.mem_append_left
abbrev w9:=@List.mem_append_right
abbrev B6:=@List.mem_cons
abbrev C8:=@List.mem_cons_of_mem
abbrev C5:=@List.mem_cons_self
abbrev W5:=@List.mem_filter
abbrev T9:=@List.mem_map
abbrev jA:=@List.mem_of_find?_eq_some
abbrev E5:=@List.mem_of_getElem?
abbrev J5:=@List.mem_of_mem_drop
abbrev M9:=@List.mem_of_mem_take
abbrev dE:=@List.mem_range
abbrev K8:=@List.mem_singleton
abbrev W4:=@List.nil_append
abbrev H6:=@List.not_mem_nil
abbrev V0:=@List.take_append_drop
abbrev nT:=@List.take_left'
abbrev lX:=@List.take_length
abbrev L4:=@List.take_of_length_le
abbrev eN:=@Nat.add_assoc
abbrev nK:=@Nat.add_comm
abbrev J1:=@Nat.add_mul
abbrev o8:=@Nat.add_sub_cancel_left
abbrev lW:=@Nat.and_le_right
abbrev gG:=@Nat.beq_refl
abbrev tM:=@Nat.ble_eq
abbrev C9:=@Nat.ble_eq_true_of_le
abbrev A1:=@Nat.eq_of_beq_eq_true
abbrev Y5:=@Nat.eq_zero_or_pos
abbrev A2:=@Nat.le_of_ble_eq_true
abbrev nJ:=@Nat.le_of_lt
abbrev B0:=@Nat.le_refl
abbrev q8:=@Nat.le_succ
abbrev B7:=@Nat.le_trans
abbrev iV:=@Nat.lt_of_le_of_lt
abbrev E3:=@Nat.lt_of_lt_of_le
abbrev G6:=@Nat.lt_or_ge
abbrev kE:=@Nat.lt_succ_of_lt
abbrev K1:=@Nat.lt_succ_self
abbrev kC:=@Nat.lt_trichotomy
abbrev O0:=@Nat.mod_eq_of_lt
abbrev tL:=@Nat.mod_lt
abbrev aU:=@Nat.mul_comm
abbrev bW:=@Nat.mul_div_cancel
abbrev qE:=@Nat.mul_le_mul
abbrev G7:=@Nat.mul_le_mul_right
abbrev kB:=@Nat.one_mul
abbrev nI:=@Nat.sub_self
abbrev gF:=@Nat.sub_zero
abbrev c8:=@Nat.succ_le_of_lt
abbrev fS:=@Nat.testBit_two_pow
abbrev F6:=@Nat.zero_add
abbrev kA:=@Nat.zero_le
abbrev nH:=@Nat.zero_mul
abbrev A5:=@Option.bind_eq_some_iff
abbrev B9:=@Option.bind_some
abbrev aT:=@Option.getD_some
abbrev dD:=@Option.map_eq_some_iff
abbrev P2:=@Option.map_some
abbrev A9:=@Option.some.inj
abbrev D9:=@Option.some.injEq
abbrev Q8:=@Option.some_ne_none
abbrev R6:=@Prod.mk.injEq
abbrev A8:=@Sem.run_bind
abbrev dZ:=@beq_self_eq_true
abbrev E7:=@cond_false
abbrev F3:=@cond_true
abbrev G0:=@congrArg
abbrev D0:=@decide_eq_false
abbrev D2:=@decide_eq_true
abbrev A3:=@if_neg
abbrev A4:=@if_pos
abbrev F9:=@of_decide_eq_true
def C6(h:p:=by kernel_rfl):p:=h
def W6{α:Type}{a:Option α}{b c:α}(h:a=some b)(e:b=c:=by kernel_rfl):a=some c:=h.trans (by rw[e])
def A0(h:p:=by omega):p:=h
def C7(h:p:=by decide):p:=h
end Go
namespace Go.Sx
section
open Go
abbrev D5:=List Value
abbrev I6:=List Nat
abbrev V7:=Option Value
abbrev o7:=Array Value
structure N8 (α:Type) where
 c0:α
 c1:α
 c2:α
 c3:α
 c4:α
 c5:α
 c6:α
 c7:α
structure Sel where
 get:{α:Type}→N8 α→α
 upd:{α β:Type}→N8 α→α→(N8 α→β)→β
def sel:Nat→Sel
 | 0=>⟨fun n=>n.c0,fun n v k=>match n with|⟨a0,a1,a2,a3,a4,a5,a6,a7⟩=>k ⟨v,a1,a2,a3,a4,a5,a6,a7⟩⟩
 | 1=>⟨fun n=>n.c1,fun n v k=>match n with|⟨a0,a1,a2,a3,a4,a5,a6,a7⟩=>k ⟨a0,v,a2,a3,a4,a5,a6,a7⟩⟩
 | 2=>⟨fun n=>n.c2,fun n v k=>match n with|⟨a0,a1,a2,a3,a4,a5,a6,a7⟩=>k ⟨a0,a1,v,a3,a4,a5,a6,a7⟩⟩
 | 3=>⟨fun n=>n.c3,fun n v k=>match n with|⟨a0,a1,a2,a3,a4,a5,a6,a7⟩=>k ⟨a0,a1,a2,v,a4,a5,a6,a7⟩⟩
 | 4=>⟨fun n=>n.c4,fun n v k=>match n with|⟨a0,a1,a2,a3,a4,a5,a6,a7⟩=>k ⟨a0,a1,a2,a3,v,a5,a6,a7⟩⟩
 | 5=>⟨fun n=>n.c5,fun n v k=>match n with|⟨a0,a1,a2,a3,a4,a5,a6,a7⟩=>k ⟨a0,a1,a2,a3,a4,v,a6,a7⟩⟩
 | 6=>⟨fun n=>n.c6,fun n v k=>match n with|⟨a0,a1,a2,a3,a4,a5,a6,a7⟩=>k ⟨a0,a1,a2,a3,a4,a5,v,a7⟩⟩
 | _=>⟨fun n=>n.c7,fun n v k=>match n with|⟨a0,a1,a2,a3,a4,a5,a6,a7⟩=>k ⟨a0,a1,a2,a3,a4,a5,a6,v⟩⟩
def tK{α:Type}(v:α):N8 α:=⟨v,v,v,v,v,v,v,v⟩
def NA{α β:Type}(n:N8 α)(k:N8 α→β):β :=
 match n with
 | ⟨a0,a1,a2,a3,a4,a5,a6,a7⟩=>k ⟨a0,a1,a2,a3,a4,a5,a6,a7⟩
abbrev Fr:=N8 (N8 (N8 Value))
def Fr.get(fr:Fr)(t:Nat):Value:=(sel (t%8)).get ((sel (t / 8%8)).get ((sel (t / 64%8)).get fr))
def zZ{β:Type}(a b c:Sel)(v:Value)(fr:Fr)(k:Fr→β):β :=
 c.upd (b.get (a.get fr)) v fun n2=>b.upd (a.get fr) n2 fun n1=>a.upd fr n1 k
def Fr.set(fr:Fr)(t:Nat)(v:Value):Fr:=zZ (sel (t / 64%8)) (sel (t / 8%8)) (sel (t%8)) v fr fun fr=>fr
def fr0:Fr:=tK (tK (tK (.tuple #[])))
abbrev Hp(α:Type):=N8 (N8 (N8 (N8 (N8 (N8 (Option α))))))
def Hp.get{α:Type}(h:Hp α)(n:Nat):Option α :=
 (sel (n%8)).get ((sel (n / 8%8)).get ((sel (n / 64%8)).get ((sel (n / 512%8)).get ((sel (n / 4096%8)).get ((sel (n / 32768%8)).get h)))))
def dT{α β:Type}(a b c d e f:Sel)(v:Option α)(h:Hp α)(k:Hp α→β):β :=
 f.upd (e.get (d.get (c.get (b.get (a.get h))))) v fun n5=>e.upd (d.get (c.get (b.get (a.get h)))) n5 fun n4=>d.upd (c.get (b.get (a.get h))) n4 fun n3=>c.upd (b.get (a.get h)) n3 fun n2=>b.upd (a.get h) n2 fun n1=>a.upd h n1 k
def Hp.put{α β:Type}(h:Hp α)(n:Nat)(v:Option α)(k:Hp α→β):β :=
 dT (sel (n / 32768%8)) (sel (n / 4096%8)) (sel (n / 512%8)) (sel (n / 64%8)) (sel (n / 8%8)) (sel (n%8)) v h k
def Hp.set{α:Type}(h:Hp α)(n:Nat)(v:Option α):Hp α:=h.put n v fun h=>h
def hp0{α:Type}:Hp α:=tK (tK (tK (tK (tK (tK none)))))
def I7:Nat:=262143
def M1{β:Type}(n:Nat)(k:Nat→β):β :=
 match n with
 | 0=>k 0
 | m+1=>k (Nat.succ m)
def EE{β:Type}(i:Int)(k:Int→β):β :=
 match i with
 | .ofNat n=>M1 n fun n=>k (.ofNat n)
 | .negSucc n=>M1 n fun n=>k (.negSucc n)
def V6{α β:Type}:List α→(List α→β)→β
 | [],k=>k []
 | x::r,k=>V6 r fun r=>k (x::r)
def UJ:IntKind→Nat
 | .i8=>127|.i16=>32767|.i32=>2147483647|.i64=>9223372036854775807
 | .u8=>255|.u16=>65535|.u32=>4294967295|.u64=>18446744073709551615
def GW(k:IntKind)(n:Int):Int :=
 match n with
 | .ofNat m=>bif Nat.ble m (UJ k)then .ofNat m else k.wrap (.ofNat m)
 | .negSucc m=>k.wrap (.negSucc m)
def B74(a b:Int):Int :=
 match a,b with
 | .ofNat m,.ofNat n=>.ofNat (Nat.add m n)
 | a,b=>a+b
def B3Q(a b:Int):Int :=
 match a,b with
 | .ofNat m,.ofNat n=>bif Nat.ble n m then .ofNat (Nat.sub m n)else .ofNat m - .ofNat n
 | a,b=>a-b
def B6S(a b:Int):Int :=
 match a,b with
 | .ofNat m,.ofNat n=>.ofNat (Nat.mul m n)
 | a,b=>a*b
def ltF(a b:Int):Bool :=
 match a,b with
 | .ofNat m,.ofNat n=>Nat.blt m n
 | .negSucc _,.ofNat _=>true
 | .ofNat _,.negSucc _=>false
 | .negSucc m,.negSucc n=>Nat.blt n m
def leF(a b:Int):Bool :=
 match a,b with
 | .ofNat m,.ofNat n=>Nat.ble m n
 | .negSucc _,.ofNat _=>true
 | .ofNat _,.negSucc _=>false
 | .negSucc m,.negSucc n=>Nat.ble n m
def GP(a b:Int):Bool :=
 match a,b with
 | .ofNat m,.ofNat n=>Nat.beq m n
 | .negSucc m,.negSucc n=>Nat.beq m n
 | _,_=>false
def CQ:IntKind→IntKind→Bool
 | .i8,.i8|.i16,.i16|.i32,.i32|.i64,.i64|.u8,.u8|.u16,.u16|.u32,.u32|.u64,.u64=>true
 | _,_=>false
def mkI(k:IntKind)(n:Int):Value:=EE n fun n=>.int k n
inductive U where
 | none
 | int (k:IntKind) (n:Int)
 | bool (b:Bool)
 | str (s:List UInt8)
 | seq (nul:Bool) (w:Nat) (rows:List (List U))
inductive LOp where
 | bin (op:BinOp)
 | un (op:UnOp)
 | conv (k:IntKind)
 | len
 | idx
 | sub
 | sub1
 | sel
 | eqs
 | inb
 | max
 | min
 | mks
 | inbs (w:Nat)
 | get (w o:Nat)
 | mk (w:Nat)
 | nilw (w:Nat)
 | nilp
 | snoc (w:Nat)
 | cat (w:Nat)
 | cats
 | set (w o:Nat)
 | subs (w:Nat)
 | str
 | byt
 | rep (w:Nat)
 | ustr
 | mhas (w kw:Nat)
 | mget (w kw o:Nat)
 | mput (w kw:Nat)
inductive p7 where
 | lt (i t:Nat) (op:LOp) (xs:List Value)
 | dt (i t:Nat) (op:LOp) (xs:List Value)
 | br (i:Nat) (b:Bool)
 | as (op:LOp) (xs:List Value)
 | con (spec:List U→Option (Nat×List U)) (xs:List Value) (i d n:Nat)
structure Lg where
 nx:Nat
 pi:I6
 log:List p7
def hole(i t:Nat):Value:=.complex .f64 i t
def junk:Value:=.complex .f32 0 0
def ixp(a:Addr)(s:Nat)(i:Value)(n:Nat):Value:=.func (.yield 1) ⟨[.pointer (some a),.int .i64 (.ofNat s),i,.int .i64 (.ofNat n)]⟩ ⟨[]⟩
def dat(b i t:Nat):Value:=.func (.yield 2) ⟨[.pointer (some ⟨b,0,none⟩),.complex .f64 i t]⟩ ⟨[]⟩
def clp(b i t:Nat):Value:=.func (.yield 3) ⟨[.pointer (some ⟨b,0,none⟩),.complex .f64 i t]⟩ ⟨[]⟩
def own(b i t:Nat):Value:=.func (.yield 4) ⟨[.pointer (some ⟨b,0,none⟩),.complex .f64 i t]⟩ ⟨[]⟩
def dpt(b i t:Nat)(z:Value)(o:Nat):Value:=.func (.yield 5) ⟨[.pointer (some ⟨b,0,none⟩),.complex .f64 i t,z,.int .i64 (.ofNat o)]⟩ ⟨[]⟩
def opt(b i t:Nat)(z:Value)(o:Nat):Value:=.func (.yield 6) ⟨[.pointer (some ⟨b,0,none⟩),.complex .f64 i t,z,.int .i64 (.ofNat o)]⟩ ⟨[]⟩
def yv(b:Nat):Value:=.func (.yield 7) ⟨[.pointer (some ⟨b,0,none⟩)]⟩ ⟨[]⟩
def sdt(b:Nat):Value:=.func (.yield 9) ⟨[.pointer (some ⟨b,0,none⟩)]⟩ ⟨[]⟩
def dv(ids:List Nat):Value:=.func (.yield 8) ⟨ids.map fun b=>.pointer (some ⟨b,0,none⟩)⟩ ⟨[]⟩
def A48:Value→Bool
 | .complex .f32 _ _=>true
 | _=>false
def one:Value:=.complex .f32 1 0
def mT:Value→Bool
 | .complex .f32 i _=>!(Nat.beq i 1)
 | _=>false
def lF:IntKind→Nat
 | .i8=>0|.i16=>1|.i32=>2|.i64=>3|.u8=>4|.u16=>5|.u32=>6|.u64=>7
def I1:Value→Nat
 | .int k _=>lF k
 | .bool _=>8
 | .string _=>9
 | .complex .f64 _ t=>t
 | _=>99
inductive AB where
 | cells (cs:List Value) (T:TypeId) (ro:Bool)
 | sq (c t:Nat) (T:TypeId) (g:Nat) (ro:Bool)
 | frz
 | mp (c t:Nat) (T:TypeId)
 | iter (s:ByteArray) (pos:Nat)
 | lp (f:FuncId) (q:List Bool) (vs:List Value) (st:Nat)
 | dfr (b:Bool)
structure Mem where
 H:Hp AB
 n:Nat
 W:I6
 hi:Nat
 lg:Lg
structure S where
 fr:Fr
 m:Mem
inductive Ex where
 | normal
 | exit (id:Nat)
 | ret
def H5:List Bool→Code→Option Code
 | [],c=>some c
 | false::q,.seq a _=>H5 q a
 | true::q,.seq _ b=>H5 q b
 | false::q,.cond _ a _=>H5 q a
 | true::q,.cond _ _ b=>H5 q b
 | false::q,.block _ c=>H5 q c
 | false::q,.scope c=>H5 q c
 | false::q,.loop c=>H5 q c
 | false::q,.rangeFunc _ _ a _=>H5 q a
 | true::q,.rangeFunc _ _ _ b=>H5 q b
 | _::_,_=>none
def R5:Nat:=9223372036854775808
def K2:Value→Bool
 | .bool _|.int _ _|.string _|.pointer none|.slice none _ _|.map none|.nilFunc|.nilIface=>true
 | _=>false
def ZA:Value→Bool
 | .agg cs=>cs.toList.all K2
 | v=>K2 v
def ev(fr:Fr):Operand→Value
 | .tmp t=>fr.get t
 | .const v=>v
 | .global g=>.pointer (some ⟨g,0,none⟩)
 | .func f=>.func (.func f) #[] #[]
def okX(nt gl:Nat):Operand→Bool
 | .tmp t=>Nat.blt t nt
 | .const v=>ZA v
 | .global g=>Nat.blt g gl
 | .func _=>true
def evL(fr:Fr):List Operand→D5
 | []=>[]
 | x::r=>ev fr x::evL fr r
def evP(fr:Fr):List (Nat×Operand)→List (Nat×Value)
 | []=>[]
 | (i,x)::r=>(i,ev fr x)::evP fr r
def evO(fr:Fr):Option Operand→V7
 | none=>none
 | some x=>some (ev fr x)
structure XC where
 run:Fr→Value
def C0V(a b c:Sel):XC:=⟨fun fr=>c.get (b.get (a.get fr))⟩
def X6:Operand→XC
 | .tmp t=>C0V (sel (t / 64%8)) (sel (t / 8%8)) (sel (t%8))
 | .const v=>⟨fun _=>v⟩
 | .global g=>⟨fun _=>.pointer (some ⟨g,0,none⟩)⟩
 | .func f=>⟨fun _=>.func (.func f) #[] #[]⟩
def gP(x:Operand)(fr:Fr):(X6 x).run fr=ev fr x:=by cases x<;>rfl
structure LC where
 run:Fr→D5
def B7n(x:XC)(r:LC)(fr:Fr):D5:=x.run fr::r.run fr
def zN:List Operand→LC
 | []=>⟨fun _=>[]⟩
 | x::r=>⟨fun fr=>B7n (X6 x) (zN r) fr⟩
def rU(fr:Fr):∀ xs:List Operand,(zN xs).run fr=evL fr xs
 | []=>rfl
 | x::r=>by
   show(X6 x).run fr::(zN r).run fr=_;rw[gP,rU fr r];rfl
abbrev Res:=Option (Value×Mem)
def upN(hi n:Nat):Nat:=bif Nat.blt n hi then hi else Nat.succ n
def Mem.wLg(m:Mem)(lg:Lg):Mem :=
 match m with
 | ⟨H,n,W,hi,_⟩=>⟨H,n,W,hi,lg⟩
def m7(m:Mem)(t:Nat)(op:LOp)(xs:List Value):Res :=
 match m with
 | ⟨H,n,W,hi,⟨nx,pi,log⟩⟩=>M1 nx fun nx=>M1 t fun t=>V6 xs fun xs=>some (hole nx t,⟨H,n,W,hi,⟨Nat.succ nx,pi,.lt nx t op xs::log⟩⟩)
def AD(m:Mem)(t:Nat)(op:LOp)(xs:List Value)(k:Nat→Mem→Res):Res :=
 match m with
 | ⟨H,n,W,hi,⟨nx,pi,log⟩⟩=>M1 nx fun nx=>M1 t fun t=>V6 xs fun xs=>k nx ⟨H,n,W,hi,⟨Nat.succ nx,pi,.dt nx t op xs::log⟩⟩
def EJ:List p7→Nat→Option Bool
 | [],_=>none
 | .br j b::r,i=>bif Nat.beq j i then some b else EJ r i
 | _::r,i=>EJ r i
def brL(lg:Lg)(c:Value):Option (Bool×Lg) :=
 match c with
 | .bool b=>some (b,lg)
 | .complex .f64 i 8=>match lg with
   | ⟨nx,pi,log⟩=>match EJ log i with
     | some b=>some (b,⟨nx,pi,log⟩)
     | none=>match pi with
       | 1::r=>some (true,⟨nx,r,.br i true::log⟩)
       | 0::r=>some (false,⟨nx,r,.br i false::log⟩)
       | _=>none
 | _=>none
def x8(m:Mem)(ab:AB)(k:Nat→Value):Res :=
 match m with
 | ⟨H,n,W,hi,lg⟩=>bif Nat.ble n I7 then M1 n fun n=>M1 (upN hi n) fun hi=>Hp.put H n (some ab) fun H=>some (k n,⟨H,Nat.succ n,W,hi,lg⟩)else none
def hH(m:Mem)(id:Nat)(ab:AB):Option Mem :=
 match m with
 | ⟨H,n,W,hi,lg⟩=>bif Nat.ble id I7 then Hp.put H id (some ab) fun H=>M1 id fun id=>some ⟨H,n,id::W,hi,lg⟩else none
def nO(m:Mem)(id:Nat):Mem :=
 match m with
 | ⟨H,n,W,hi,lg⟩=>Hp.put H id none fun H=>M1 id fun id=>⟨H,n,id::W,hi,lg⟩
def oB(cs:List Value)(o n:Nat):Option D5 :=
 let r:=(cs.drop o).take n
 bif Nat.beq r.length n then some r else none
def cA(m:Mem)(a:Addr)(n:Nat):Option D5 :=
 match a.spot,Hp.get m.H a.block with
 | none,some (.cells cs _ _)=>oB cs a.off n
 | _,_=>none
def eR:D5→Nat→D5→D5
 | cs,_,[]=>cs
 | cs,k,v::r=>eR (cs.set k v) (k+1) r
def flat:Value→Bool
 | .agg _|.tuple _=>false
 | .complex .f32 i _=>Nat.beq i 1
 | _=>true
def sQ(m:Mem)(a:Addr)(vs:List Value):Option Mem :=
 match a.spot,Hp.get m.H a.block with
 | none,some (.cells cs T false) =>
   bif Nat.ble (a.off+vs.length) cs.length && vs.all flat then V6 (eR cs a.off vs) fun cs=>hH m a.block (.cells cs T false)else none
 | _,_=>none
variable (P:Program)
def cU(t:TypeId):Option Bool :=
 match P.underlying t with
 | some (.struct _)|some (.array _ _)=>some true
 | some _=>some false
 | none=>none
def I4(t:TypeId):Option Nat :=
 match P.info? t with
 | some i=>some i.size
 | none=>none
def jD(t:TypeId):V7 :=
 match P.info? t with
 | some i=>match i.zero with
   | some v=>bif ZA v then some v else none
   | none=>none
 | none=>none
def ZV(m:Mem)(t:TypeId)(a:Addr):V7 :=
 match cU P t with
 | some true=>match I4 P t with
   | some n=>match cA m a n with
     | some cs=>some (.agg ⟨cs⟩)
     | none=>none
   | none=>none
 | some false=>match cA m a 1 with
   | some (v::_)=>some v
   | _=>none
 | none=>none
def CF(m:Mem)(t:TypeId)(a:Addr)(v:Value):Option Mem :=
 match I4 P t with
 | some n=>bif Nat.beq v.cells.size n && !(mT v)then sQ m a v.cells.toList else none
 | none=>none
def vF(t:TypeId)(cs:List Value)(off:Nat):V7 :=
 match cU P t with
 | some true=>match I4 P t with
   | some n=>match oB cs off n with
     | some r=>some (.agg ⟨r⟩)
     | none=>none
   | none=>none
 | some false=>cs[off]?
 | none=>none
def A8x(e:TypeId)(s i:Nat):Field:={ name := "x",type:=e,offset:=i*s,embedded:=false,tag := "",pkgPath := "",byteOffset:=0 }
mutual
def eqM:Nat→TypeId→Value→Value→Option Bool
 | 0,_,_,_=>none
 | d+1,t,x,y=>match P.underlying t,x,y with
   | some .bool,.bool a,.bool b=>some (a == b)
   | some (.int _),.int k a,.int j b=>bif decide (k=j)then some (a == b)else none
   | some .string,.string a,.string b=>some (a.data.toList == b.data.toList)
   | some (.pointer _),.pointer none,.pointer b=>some b.isNone
   | some (.pointer _),.pointer (some _),.pointer none=>some false
   | some (.interface _),.nilIface,.nilIface=>some true
   | some (.interface _),.nilIface,.iface _ _=>some false
   | some (.interface _),.iface _ _,.nilIface=>some false
   | some (.interface _),.iface tx vx,.iface ty vy=>bif Nat.beq tx ty then(match P.info? tx with
     | some i=>bif i.comparable then eqM d tx vx vy else none
     | none=>none)else some false
   | some (.slice _),.slice none _ _,.slice b _ _=>some b.isNone
   | some (.slice _),.slice (some _) _ _,.slice none _ _=>some false
   | some (.map _ _),.map none,.map b=>some b.isNone
   | some (.func _ _ _),.nilFunc,.nilFunc=>some true
   | some (.func _ _ _),.nilFunc,.func (.func _) _ _=>some false
   | some (.func _ _ _),.func (.func _) _ _,.nilFunc=>some false
   | some (.struct fs),.agg xs,.agg ys=>bif P.stoodInHeld t then none else eqF d fs.toList xs.toList ys.toList
   | some (.array n e),.agg xs,.agg ys=>match I4 P e with
     | some s=>eqF d ((List.range n).map (A8x e s)) xs.toList ys.toList
     | none=>none
   | _,_,_=>none
def eqF:Nat→List Field→D5→D5→Option Bool
 | 0,_,_,_=>none
 | _+1,[],_,_=>some true
 | d+1,f::fs,xs,ys =>
   bif f.name == "_" then none else
   match vF P f.type xs f.offset,vF P f.type ys f.offset with
   | some x,some y=>match eqM d f.type x y with
     | some true=>eqF d fs xs ys
     | some false=>some false
     | none=>none
   | _,_=>none
end
def isC:Operand→Bool
 | .const _=>true
 | _=>false
def pK(t:TypeId)(x y:Operand)(a b:Value):Bool :=
 match a,b with
 | .nilIface,.nilIface=>isC x || isC y
 | .agg _,.agg _=>!P.eqGuardType P.depth t
 | a,b=>!(A48 a) && !(A48 b)
def FJ(op:BinOp)(k:IntKind)(x y:Int):V7 :=
 match op with
 | .and=>some (.int k (k.wrap (BitVec.ofInt k.bits x &&& BitVec.ofInt k.bits y).toNat))
 | .or=>some (.int k (k.wrap (BitVec.ofInt k.bits x ||| BitVec.ofInt k.bits y).toNat))
 | .xor=>some (.int k (k.wrap (BitVec.ofInt k.bits x ^^^ BitVec.ofInt k.bits y).toNat))
 | .andNot=>some (.int k (k.wrap (BitVec.ofInt k.bits x &&& ~~~BitVec.ofInt k.bits y).toNat))
 | _=>none
def ltL:List UInt8→List UInt8→Bool
 | _,[]=>false
 | [],_::_=>true
 | a::x,b::y=>a<b || (a == b && ltL x y)
def pH(op:BinOp)(k:IntKind)(a b:Int):V7 :=
 match op with
 | .add=>some (mkI k (GW k (B74 a b)))
 | .sub=>some (mkI k (GW k (B3Q a b)))
 | .mul=>some (mkI k (GW k (B6S a b)))
 | .quo=>bif GP b 0 then none else some (mkI k (k.wrap (a.tdiv b)))
 | .rem=>bif GP b 0 then none else some (mkI k (a.tmod b))
 | .eql=>some (.bool (GP a b))
 | .neq=>some (.bool (!(GP a b)))
 | .lss=>some (.bool (ltF a b))
 | .leq=>some (.bool (leF a b))
 | .gtr=>some (.bool (ltF b a))
 | .geq=>some (.bool (leF b a))
 | op=>FJ op k a b
def LB(left:Bool)(k:IntKind)(a:Int)(b:Nat):Value :=
 bif left then mkI k (k.wrap (a*2 ^ (min b k.bits)))else mkI k (a.fdiv (2 ^ (min b k.bits)))
def A2Y(op:BinOp)(a b:ByteArray):V7 :=
 match op with
 | .add=>bif Nat.ble (a.size+b.size) 1000000000 then V6 (a.data.toList++b.data.toList) fun l=>some (.string ⟨⟨l⟩⟩)else none
 | .eql=>some (.bool (a.data.toList == b.data.toList))
 | .neq=>some (.bool (!(a.data.toList == b.data.toList)))
 | .lss=>some (.bool (ltL a.data.toList b.data.toList))
 | .leq=>some (.bool (ltL a.data.toList b.data.toList || (a.data.toList == b.data.toList)))
 | .gtr=>some (.bool (!(ltL a.data.toList b.data.toList || (a.data.toList == b.data.toList))))
 | .geq=>some (.bool (!(ltL a.data.toList b.data.toList)))
 | _=>none
def HX(op:BinOp)(t:TypeId)(x y:Value):V7 :=
 match op with
 | .eql=>match eqM P 20 t x y with
   | some b=>some (.bool b)
   | none=>none
 | .neq=>match eqM P 20 t x y with
   | some b=>some (.bool (!b))
   | none=>none
 | _=>none
def lG:BinOp→Option Bool
 | .shl=>some true
 | .shr=>some false
 | _=>none
def cV(op:BinOp)(k j:IntKind)(a b:Int):V7 :=
 match lG op with
 | some l=>match b with
   | .ofNat n=>some (LB l k a n)
   | .negSucc _=>none
 | none=>bif CQ k j then pH op k a b else none
def wJ(op:BinOp)(t:TypeId)(x y:Value):V7 :=
 match x,y with
 | .int k a,.int j b=>cV op k j a b
 | .string a,.string b=>A2Y op a b
 | x,y=>HX P op t x y
def unM(op:UnOp)(x:Value):V7 :=
 match op,x with
 | .neg,.int k n=>some (mkI k (k.wrap (0-n)))
 | .xor,.int k n=>FJ .xor k (if k.signed then -1 else k.max) n
 | .not,.bool b=>some (.bool !b)
 | _,_=>none
def bytesOf:D5→Option (List UInt8)
 | []=>some []
 | .int .u8 n::r=>match bytesOf r with
   | some l=>some (UInt8.ofNat n.toNat::l)
   | none=>none
 | _::_=>none
def U5(l:List UInt8):D5:=l.map fun b=>.int .u8 b.toNat
def JN(m:Mem)(s t:TypeId)(x:Value):Res :=
 match P.underlying s,P.underlying t,x with
 | some _,some (.int k),.int _ n=>some (mkI k (GW k n),m)
 | some _,some .string,.string b=>some (.string b,m)
 | some _,some .string,.int _ n=>some (.string (Utf8.encode n),m)
 | some _,some (.slice e),.string b=>match P.underlying e with
   | some (.int .u8)=>match I4 P e with
     | some 1=>V6 (U5 b.data.toList) fun cs=>x8 m (.cells cs e false) fun i=>.slice (some ⟨i,0,none⟩) b.size R5
     | _=>none
   | _=>none
 | some (.slice e),some .string,.slice none _ _=>match P.underlying e with
   | some (.int .u8)=>some (.string ByteArray.empty,m)
   | _=>none
 | some (.slice e),some .string,.slice (some a) n _=>match P.underlying e with
   | some (.int .u8)=>match cA m a n with
     | some cs=>match bytesOf cs with
       | some l=>some (.string ⟨⟨l⟩⟩,m)
       | none=>none
     | none=>none
   | _=>none
 | _,_,_=>none
def EL(place:Nat→Option (Nat×Nat))(cells:List Value):List (Nat×Value)→Option D5
 | []=>some cells
 | (i,v)::rest=>match place i with
   | none=>none
   | some (off,size) =>
     bif (Nat.beq v.cells.size size && !(mT v)) && Nat.ble (off+v.cells.size) cells.length then V6 (eR cells off v.cells.toList) fun cs=>EL place cs rest else none
def vE:List Field→Option (List (Nat×Nat))
 | []=>some []
 | f::r=>match I4 P f.type,vE r with
   | some n,some l=>some ((f.offset,n)::l)
   | _,_=>none
def QG(z:List Value):Nat→D5
 | 0=>[]
 | n+1=>z++QG z n
def KH(e:TypeId)(n:Nat):Option D5 :=
 match I4 P e with
 | some s=>bif Nat.beq (n*s) 0 then some []else match jD P e with
   | some z=>bif Nat.beq z.cells.size s then some (QG z.cells.toList n)else none
   | none=>none
 | none=>none
def WT(t:TypeId)(parts:List (Nat×Value)):V7 :=
 match jD P t,P.underlying t with
 | some z,some (.struct fs)=>match vE P fs.toList with
   | some ps=>match EL (ps[·]?) z.cells.toList parts with
     | some cs=>some (.agg ⟨cs⟩)
     | none=>none
   | none=>none
 | some z,some (.array _ e)=>match I4 P e with
   | some s=>match EL (fun i=>some (i*s,s)) z.cells.toList parts with
     | some cs=>some (.agg ⟨cs⟩)
     | none=>none
   | none=>none
 | _,_=>none
def eX(m:Mem)(t:TypeId)(n:Nat)(parts:List (Nat×Value)):Res :=
 match P.underlying t with
 | some (.slice e)=>match I4 P e,KH P e n with
   | some s,some zs=>bif Nat.ble (n*s) 16777216 && Nat.blt n R5 then match EL (fun i=>some (i*s,s)) zs parts with
     | some cs=>x8 m (.cells cs e false) fun i=>.slice (some ⟨i,0,none⟩) n n
     | none=>none else none
   | _,_=>none
 | _=>none
def iG(m:Mem)(t:TypeId)(l c:Value):Res :=
 match P.underlying t,l,c with
 | some (.slice e),.int _ (.ofNat l),.int _ (.ofNat c)=>match P.info? e with
   | some i=>bif Nat.ble l c && Nat.ble c 10000000 && Nat.ble (c*i.bytes) 100000000 then match KH P e c with
     | some zs=>V6 zs fun zs=>x8 m (.cells zs e false) fun k=>.slice (some ⟨k,0,none⟩) l c
     | none=>none else none
   | none=>none
 | _,_,_=>none
def dP(a:Addr)(n:Nat):Addr:=M1 (a.off+n) fun o=>⟨a.block,o,none⟩
def eV(s:TypeId)(x:Value)(i:Nat):V7 :=
 match P.underlying s,x with
 | some (.struct fs),.pointer (some a)=>match fs.toList[i]?,a.spot with
   | some f,none=>match I4 P f.type with
     | some (_+1)=>some (.pointer (some (dP a f.offset)))
     | _=>none
   | _,_=>none
 | _,_=>none
def ND(t:TypeId)(x:Value)(i:Nat):V7 :=
 match P.underlying t,x with
 | some (.struct fs),.agg cs=>match fs.toList[i]? with
   | some f=>vF P f.type cs.toList f.offset
   | none=>none
 | _,_=>none
def u5(t:TypeId)(x i:Value):V7 :=
 match P.underlying t,x,i with
 | some (.array n e),.pointer (some a),.int _ (.ofNat k)=>match I4 P e,a.spot with
   | some s,none=>bif Nat.blt k n then some (.pointer (some (dP a (k*s))))else none
   | _,_=>none
 | some (.slice e),.slice (some a) n _,.int _ (.ofNat k)=>match I4 P e,a.spot with
   | some s,none=>bif Nat.blt k n then some (.pointer (some (dP a (k*s))))else none
   | _,_=>none
 | _,_,_=>none
def pI(t:TypeId)(x i:Value):V7 :=
 match P.underlying t,x,i with
 | some (.array n e),.agg cs,.int _ (.ofNat k)=>match I4 P e with
   | some s=>bif Nat.blt k n then vF P e cs.toList (k*s)else none
   | none=>none
 | some .string,.string s,.int _ (.ofNat k)=>match s.data.toList[k]? with
   | some b=>some (.int .u8 b.toNat)
   | none=>none
 | _,_,_=>none
def Z3(v:Option Value)(I7 dflt:Nat):Option Nat :=
 match v with
 | none=>some dflt
 | some (.int _ (.ofNat k))=>bif Nat.ble k I7 then some k else none
 | some _=>none
def fB(t:TypeId)(x:Value)(lo hi mx:Option Value):V7 :=
 match P.underlying t,x with
 | some .string,.string s =>
   match mx,Z3 hi s.size s.size with
   | none,some h=>match Z3 lo h 0 with
     | some l=>some (.string ⟨⟨(s.data.toList.drop l).take (h-l)⟩⟩)
     | none=>none
   | _,_=>none
 | some (.slice e),.slice none n c =>
   match n,c,Z3 mx 0 0,Z3 hi 0 0,Z3 lo 0 0 with
   | 0,0,some _,some _,some _=>bif (mx.isSome && hi.isNone) || (I4 P e).isNone then none else some (.slice none 0 0)
   | _,_,_,_,_=>none
 | some (.slice e),.slice (some a) n c =>
   match I4 P e,a.spot with
   | some s,none =>
     bif Nat.blt c R5 then
      match Z3 mx c c with
      | some m=>match (match hi,mx with|none,some _=>none|hi,_=>Z3 hi m n)with
        | some h=>match Z3 lo h 0 with
          | some l=>some (.slice (some (bif Nat.beq m l then a else dP a (l*s))) (h-l) (m-l))
          | none=>none
        | none=>none
      | none=>none
     else
      match mx with
      | some _=>match hi,Z3 mx n n with
        | some _,some m=>bif Nat.blt m R5 && Nat.ble c (R5+1)then match Z3 hi m n with
          | some h=>match Z3 lo h 0 with
            | some l=>some (.slice (some (bif Nat.beq m l then a else dP a (l*s))) (h-l) (m-l))
            | none=>none
          | none=>none else none
        | _,_=>none
      | none=>match Z3 hi n n with
        | some h=>match Z3 lo h 0 with
          | some 0=>some (.slice (some a) h c)
          | some (l+1)=>let l:=l+1
            bif Nat.blt l n then some (.slice (some (dP a (l*s))) (h-l) (R5+1))else some (.slice (some a) 0 (R5+2))
          | none=>none
        | none=>none
   | _,_=>none
 | some (.array n e),.pointer (some a) =>
   match I4 P e,a.spot,mx with
   | some s,none,none=>match Z3 hi n n with
     | some h=>match Z3 lo h 0 with
       | some l=>bif Nat.blt n R5 then some (.slice (some (bif Nat.beq n l then a else dP a (l*s))) (h-l) (n-l))else none
       | none=>none
     | none=>none
   | _,_,_=>none
 | _,_=>none
def iF(m:Mem)(s:Nat)(y:Value):Option (Nat×List Value) :=
 match y with
 | .slice none n _=>bif Nat.beq n 0 then some (0,[])else none
 | .slice (some a) n _=>match cA m a (n*s)with
   | some cs=>some (n,cs)
   | none=>none
 | .string b=>bif Nat.beq s 1 then some (b.size,U5 b.data.toList)else none
 | _=>none
def fI:TypeDesc→Bool
 | .slice _|.string=>true
 | _=>false
def wM(m:Mem)(t t2:TypeId)(x y:Value):Res :=
 match P.underlying t,P.underlying t2 with
 | some (.slice e),some d2 =>
   bif !(fI d2)then none else
   match P.info? e,x with
   | some i,.slice a n c=>match iF m i.size y,jD P e with
     | some (k,new),some z =>
       bif Nat.ble ((3*(n+k)+4000)*i.bytes) 281474976710656 && Nat.ble (n+k) 1000000000 && Nat.beq z.cells.size i.size && new.all flat then
       bif Nat.beq k 0 then(match a with|none=>bif Nat.beq n 0 && Nat.beq c 0 then some (x,m)else none|some _=>bif Nat.ble c (R5+1) && Nat.ble n c then some (x,m)else none)else
       match a with
       | none=>bif Nat.beq n 0 && Nat.beq c 0 then V6 new fun cs=>x8 m (.cells cs e false) fun b=>.slice (some ⟨b,0,none⟩) k R5 else none
       | some ad =>
         bif Nat.blt c R5 then
          bif Nat.ble (n+k) c then
           match ad.spot,sQ m (dP ad (n*i.size)) new with
           | none,some m'=>some (.slice a (n+k) c,m')
           | _,_=>none
          else match cA m ad (n*i.size)with
           | some old=>V6 (old++new) fun cs=>x8 m (.cells cs e false) fun b=>.slice (some ⟨b,0,none⟩) (n+k) R5
           | none=>none
         else bif Nat.beq c R5 && Nat.beq ad.off 0 then
          match ad.spot,Hp.get m.H ad.block with
          | none,some (.cells cs T false) =>
            bif Nat.beq cs.length (n*i.size) && Nat.beq T e && Nat.ble ad.block I7 && Nat.blt ad.block m.n then
             V6 (cs++new) fun cs=>x8 (nO m ad.block) (.cells cs e false) fun b=>.slice (some ⟨b,0,none⟩) (n+k) R5
            else none
          | _,_=>none
         else none
       else none
     | _,_=>none
   | _,_=>none
 | _,_=>none
def TB(m:Mem)(t:TypeId)(x y:Value):Res :=
 match P.underlying t,x with
 | some (.slice e),.slice a n c=>match I4 P e with
   | some s =>
     match (match y with
      | .slice none k _=>bif Nat.beq k 0 then some (0,[])else none
      | .slice (some b) k _=>match cA m b (Nat.min k n*s)with
        | some cs=>some (Nat.min k n,cs)
        | none=>none
      | .string b=>some (Nat.min b.size n,U5 (b.data.toList.take (Nat.min b.size n)))
      | _=>none:Option (Nat×List Value))with
     | some (k,cs)=>match a with
       | none=>bif Nat.beq k 0 then some (.int .i64 0,m)else none
       | some ad=>bif Nat.beq cs.length 0 then some (.int .i64 k,m)else bif Nat.ble c (R5+1)then match sQ m ad cs with
         | some m'=>some (.int .i64 k,m')
         | none=>none else none
     | none=>none
   | none=>none
 | _,_=>none
def A4p(m:Mem)(t:TypeId)(x:Value):V7 :=
 match P.underlying t,x with
 | some .string,.string s=>some (.int .i64 s.data.toList.length)
 | some (.array n _),_=>some (.int .i64 n)
 | some (.slice _),.slice _ n _=>some (.int .i64 n)
 | some (.map _ _),.map none=>some (.int .i64 0)
 | _,_=>none
def B4j(t:TypeId)(x:Value):V7 :=
 match P.underlying t,x with
 | some (.slice _),.slice none _ c=>some (.int .i64 c)
 | some (.slice _),.slice (some a) n c=>bif Nat.blt c R5 then some (.int .i64 c)else none
 | _,_=>none
def B31:D5→V7
 | [.int k a,.int _ b]=>some (.int k (if b>a then b else a))
 | [.int k a,.int _ b,.int _ c]=>EE (if b>a then b else a) fun d=>some (.int k (if c>d then c else d))
 | _=>none
def B30:D5→V7
 | [.int k a,.int _ b]=>some (.int k (if b<a then b else a))
 | [.int k a,.int _ b,.int _ c]=>EE (if b<a then b else a) fun d=>some (.int k (if c<d then c else d))
 | _=>none
def noM(v:Option Value)(m:Mem):Res :=
 match v with
 | some v=>some (v,m)
 | none=>none
def VW(m:Option Mem):Res :=
 match m with
 | some m=>some (undef,m)
 | none=>none
def ZI(m:Mem)(c a b:Value):Res :=
 match c with
 | .bool true=>some (a,m)
 | .bool false=>some (b,m)
 | _=>none
def MC(m:Mem)(e:TypeId):Res :=
 match jD P e with
 | some z=>x8 m (.cells z.cells.toList e false) fun b=>.pointer (some ⟨b,0,none⟩)
 | none=>none
def A4U(m:Mem)(e:TypeId)(v:Value):Res :=
 bif v.cells.toList.all flat then x8 m (.cells v.cells.toList e false) fun b=>.pointer (some ⟨b,0,none⟩)else none
def ZJ(m:Mem)(t:TypeId)(v:Value):Res :=
 match v with
 | .pointer (some a)=>noM (ZV P m t a) m
 | _=>none
def MA(m:Mem)(t:TypeId)(x v:Value):Res :=
 match x with
 | .pointer (some a)=>VW (CF P m t a v)
 | _=>none
def A4T(m:Mem)(x:Value):Res :=
 match x with
 | .pointer (some a)=>some (.pointer (some a),m)
 | .func (.func f) a b=>some (.func (.func f) a b,m)
 | _=>none
def DZ:BinOp→Bool
 | .eql|.neq=>true
 | _=>false
def A7k(m:Mem)(op:BinOp)(t:TypeId)(x y:Operand)(a b:Value):Res :=
 bif DZ op then(bif pK P t x y a b then noM (wJ P op t a b) m else none)else noM (wJ P op t a b) m
def MB(m:Mem)(t:TypeId)(v:Value):Res :=
 match P.underlying t with
 | some d=>(match d with|.interface _=>none|_=>bif flat v || (match v with|.agg _=>true|_=>false)then some (.iface t v,m)else none)
 | none=>none
def oX(m:Mem)(v:Value)(i:Nat):Res :=
 match v with
 | .tuple vs=>noM vs.toList[i]? m
 | _=>none
def mH(m:Mem)(x:Value):Res :=
 match x with
 | .slice none _ _=>some (.pointer none,m)
 | .slice (some a) n c=>bif Nat.beq n 0 || Nat.beq c 0 || Nat.beq c (R5+2)then none else some (.pointer (some a),m)
 | _=>none
def gS(m:Mem)(pt:TypeId)(p l:Value):Res :=
 match p,l with
 | .pointer none,.int _ (.ofNat 0)=>some (.string ByteArray.empty,m)
 | .pointer (some a),.int _ (.ofNat n) =>
   match a.spot,Hp.get m.H a.block with
   | none,some (.cells cs T false)=>match P.underlying pt,I4 P T with
     | some (.pointer e),some 1=>bif Nat.blt 0 n && Nat.ble n 1000000000 && Nat.beq e T then match oB cs a.off n with
       | some l=>match bytesOf l,hH m a.block (.cells cs T true)with
         | some l,some m'=>some (.string ⟨⟨l⟩⟩,m')
         | _,_=>none
       | none=>none else none
     | _,_=>none
   | _,_=>none
 | _,_=>none
def lT(m:Mem)(b:Builtin)(vs:List Value)(tys:List TypeId):Res :=
 match b,vs,tys with
 | .len,[x],t::_=>noM (A4p P m t x) m
 | .cap,[x],t::_=>noM (B4j P t x) m
 | .append,[x,y],t::t2::_=>wM P m t t2 x y
 | .copy,[x,y],t::_=>TB P m t x y
 | .max,vs,_=>noM (B31 vs) m
 | .min,vs,_=>noM (B30 vs) m
 | .unsafeSliceData,[x],_=>mH m x
 | .unsafeString,[p,l],t::_=>gS P m t p l
 | _,_,_=>none
def opM(fr:Fr)(m:Mem)(o:Op):Res :=
 match o with
 | .move x|.assign x=>some (ev fr x,m)
 | .pick c a b=>ZI m (ev fr c) (ev fr a) (ev fr b)
 | .alloc e=>MC P m e
 | .box e x=>A4U m e (ev fr x)
 | .build t ps=>noM (WT P t (evP fr ps.toList)) m
 | .buildSlice t n ps=>eX P m t n (evP fr ps.toList)
 | .load t x=>ZJ P m t (ev fr x)
 | .store t x y=>MA P m t (ev fr x) (ev fr y)
 | .nilCheck x=>A4T m (ev fr x)
 | .binOp op t x y _=>A7k P m op t x y (ev fr x) (ev fr y)
 | .unOp op _ x=>noM (unM op (ev fr x)) m
 | .convert s t x=>JN P m s t (ev fr x)
 | .makeInterface t x=>MB P m t (ev fr x)
 | .makeFunc (.func f) first cap=>some (.func (.func f) ⟨evL fr first.toList⟩ ⟨evL fr cap.toList⟩,m)
 | .makeSlice t l c=>iG P m t (ev fr l) (ev fr c)
 | .slice t x lo hi mx=>noM (fB P t (ev fr x) (evO fr lo) (evO fr hi) (evO fr mx)) m
 | .fieldAddr s x i=>noM (eV P s (ev fr x) i) m
 | .field t x i=>noM (ND P t (ev fr x) i) m
 | .indexAddr t x i=>noM (u5 P t (ev fr x) (ev fr i)) m
 | .index t x i=>noM (pI P t (ev fr x) (ev fr i)) m
 | .extract x i=>oX m (ev fr x) i
 | .call ⟨.builtin b,xs,tys⟩=>lT P m b (evL fr xs.toList) tys.toList
 | _=>none
structure OpC where
 run:Fr→Mem→Res
def A42(x:XC)(fr:Fr)(m:Mem):Res:=some (x.run fr,m)
def B1y(c a b:XC)(fr:Fr)(m:Mem):Res:=ZI m (c.run fr) (a.run fr) (b.run fr)
def B6v(e:TypeId)(x:XC)(fr:Fr)(m:Mem):Res:=A4U m e (x.run fr)
def B1z(t:TypeId)(x:XC)(fr:Fr)(m:Mem):Res:=ZJ P m t (x.run fr)
def A41(t:TypeId)(x y:XC)(fr:Fr)(m:Mem):Res:=MA P m t (x.run fr) (y.run fr)
def B6t(x:XC)(fr:Fr)(m:Mem):Res:=A4T m (x.run fr)
def B6w(op:BinOp)(t:TypeId)(x y:Operand)(cx cy:XC)(fr:Fr)(m:Mem):Res:=A7k P m op t x y (cx.run fr) (cy.run fr)
def kUn(op:UnOp)(x:XC)(fr:Fr)(m:Mem):Res:=noM (unM op (x.run fr)) m
def B10(s t:TypeId)(x:XC)(fr:Fr)(m:Mem):Res:=JN P m s t (x.run fr)
def DU(s:TypeId)(x:XC)(i:Nat)(fr:Fr)(m:Mem):Res:=noM (eV P s (x.run fr) i) m
def A44(s:TypeId)(x:XC)(i:Nat)(fr:Fr)(m:Mem):Res:=noM (ND P s (x.run fr) i) m
def DT(t:TypeId)(x i:XC)(fr:Fr)(m:Mem):Res:=noM (u5 P t (x.run fr) (i.run fr)) m
def A43(t:TypeId)(x i:XC)(fr:Fr)(m:Mem):Res:=noM (pI P t (x.run fr) (i.run fr)) m
def RW(x:XC)(i:Nat)(fr:Fr)(m:Mem):Res:=oX m (x.run fr) i
def RX(b:Builtin)(xs:LC)(tys:List TypeId)(fr:Fr)(m:Mem):Res:=lT P m b (xs.run fr) tys
def EZ(o:Op):OpC :=
 match o with
 | .move x=>⟨A42 (X6 x)⟩
 | .assign x=>⟨A42 (X6 x)⟩
 | .pick c a b=>⟨B1y (X6 c) (X6 a) (X6 b)⟩
 | .box e x=>⟨B6v e (X6 x)⟩
 | .load t x=>⟨B1z P t (X6 x)⟩
 | .store t x y=>⟨A41 P t (X6 x) (X6 y)⟩
 | .nilCheck x=>⟨B6t (X6 x)⟩
 | .binOp op t x y _=>⟨B6w P op t x y (X6 x) (X6 y)⟩
 | .unOp op _ x=>⟨kUn op (X6 x)⟩
 | .convert s t x=>⟨B10 P s t (X6 x)⟩
 | .fieldAddr s x i=>⟨DU P s (X6 x) i⟩
 | .field t x i=>⟨A44 P t (X6 x) i⟩
 | .indexAddr t x i=>⟨DT P t (X6 x) (X6 i)⟩
 | .index t x i=>⟨A43 P t (X6 x) (X6 i)⟩
 | .extract x i=>⟨RW (X6 x) i⟩
 | .call ⟨.builtin b,xs,tys⟩=>⟨RX P b (zN xs.toList) tys.toList⟩
 | o=>⟨fun fr m=>opM P fr m o⟩
def EY(o:Op)(fr:Fr)(m:Mem):(EZ P o).run fr m=opM P fr m o:=by
 unfold EZ;split<;>simp only[A42,B1y,B6v,B1z,A41,B6t,B6w,kUn,B10,DU,A44,DT,A43,RW,RX,opM,gP,rU]
def VT(nt gl:Nat)(o:Op):Bool:=o.operands.toList.all (okX nt gl)
end
section
open Go
def B61:BinOp→Bool
 | .eql|.neq|.lss|.leq|.gtr|.geq=>true
 | _=>false
def sR(P:Program)(m:Mem)(op:BinOp)(t:TypeId)(a b:Value):Res :=
 let ta:=I1 a
 let tb:=I1 b
 bif (Nat.blt ta 8 && Nat.blt tb 8) || (Nat.beq ta 9 && Nat.beq tb 9)then m7 m (bif B61 op then 8 else ta) (.bin op) [a,b]else
 bif Nat.beq ta 8 && Nat.beq tb 8 && DZ op && (match P.underlying t with|some .bool=>true|_=>false)then m7 m 8 (.bin op) [a,b]else none
def iL(P:Program)(t:TypeId)(x y:Value):Bool :=
 match P.underlying t with
 | some .bool=>Nat.beq (I1 x) 8 && Nat.beq (I1 y) 8
 | some (.int k)=>Nat.beq (I1 x) (lF k) && Nat.beq (I1 y) (lF k)
 | some .string=>Nat.beq (I1 x) 9 && Nat.beq (I1 y) 9
 | _=>false
mutual
def eqS(P:Program):Nat→TypeId→Value→Value→Option D5
 | 0,_,_,_=>none
 | d+1,t,x,y=>bif iL P t x y then some [x,y]else
   match P.underlying t,x,y with
   | some (.struct fs),.agg xs,.agg ys=>bif P.stoodInHeld t then none else EQ P d fs.toList xs.toList ys.toList
   | some (.array n e),.agg xs,.agg ys=>match I4 P e with
     | some s=>EQ P d ((List.range n).map (A8x e s)) xs.toList ys.toList
     | none=>none
   | _,_,_=>none
def EQ(P:Program):Nat→List Field→D5→D5→Option D5
 | 0,_,_,_=>none
 | _+1,[],_,_=>some []
 | d+1,f::fs,xs,ys =>
   bif f.name == "_" then none else
   match vF P f.type xs f.offset,vF P f.type ys f.offset with
   | some x,some y=>match eqS P d f.type x y,EQ P d fs xs ys with
     | some a,some b=>some (a++b)
     | _,_=>none
   | _,_=>none
end
def PE(P:Program)(m:Mem)(op:BinOp)(t:TypeId)(x y:Operand)(a b:Value):Res :=
 bif pK P t x y a b then
  match op,eqS P 20 t a b with
  | .eql,some l=>m7 m 8 .eqs l
  | .neq,some l=>match m7 m 8 .eqs l with
    | some (h,m)=>m7 m 8 (.un .not) [h]
    | none=>none
  | _,_=>none
 else none
def bC(t:Nat):D5→Bool
 | []=>true
 | v::r=>Nat.beq (I1 v) t && bC t r
def bB.sizeD(P:Program)(e:TypeId):Nat:=match I4 P e with|some n=>n|none=>0
def bB(P:Program)(m:Mem)(t:TypeId)(x i:Value):Res :=
 bif !(Nat.blt (I1 i) 8)then none else
 match P.underlying t with
 | some .string=>bif Nat.beq (I1 x) 9 then m7 m 4 .idx [x,i]else none
 | some (.array n e)=>match x,P.underlying e with
   | .agg cs,some (.int k)=>bif Nat.beq (cs.toList.length) n && bC (lF k) cs.toList && Nat.beq (bB.sizeD P e) 1 then m7 m (lF k) .sel (i::cs.toList)else none
   | .agg cs,some .string=>bif Nat.beq (cs.toList.length) n && bC 9 cs.toList && Nat.beq (bB.sizeD P e) 1 then m7 m 9 .sel (i::cs.toList)else none
   | _,_=>none
 | _=>none
def oH(P:Program)(m:Mem)(t:TypeId)(x:Value)(lo hi mx:Option Value):Res :=
 match P.underlying t,mx with
 | some .string,none=>bif Nat.beq (I1 x) 9 then
    match lo,hi with
    | none,none=>some (x,m)
    | some l,none=>bif Nat.blt (I1 l) 8 then m7 m 9 .sub1 [x,l]else none
    | none,some h=>bif Nat.blt (I1 h) 8 then m7 m 9 .sub [x,.int .i64 0,h]else none
    | some l,some h=>bif Nat.blt (I1 l) 8 && Nat.blt (I1 h) 8 then m7 m 9 .sub [x,l,h]else none
   else none
 | _,_=>none
def OY(m:Mem)(op:UnOp)(x:Value):Res :=
 let t:=I1 x
 match op with
 | .not=>bif Nat.beq t 8 then m7 m 8 (.un .not) [x]else none
 | op=>bif Nat.blt t 8 then m7 m t (.un op) [x]else none
def uI(P:Program)(m:Mem)(s t:TypeId)(x:Value):Res :=
 match P.underlying s,P.underlying t with
 | some (.int _),some (.int k)=>bif Nat.blt (I1 x) 8 then m7 m (lF k) (.conv k) [x]else none
 | some .string,some .string=>bif Nat.beq (I1 x) 9 then some (x,m)else none
 | _,_=>none
def gZ(P:Program)(m:Mem)(b:Builtin)(vs:List Value)(tys:List TypeId):Res :=
 match b,vs,tys with
 | .len,[x],t::_=>match P.underlying t with
   | some .string=>bif Nat.beq (I1 x) 9 then m7 m 3 .len [x]else none
   | _=>none
 | .max,[x,y],_=>bif Nat.blt (I1 x) 8 && Nat.beq (I1 x) (I1 y)then m7 m (I1 x) .max [x,y]else none
 | .min,[x,y],_=>bif Nat.blt (I1 x) 8 && Nat.beq (I1 x) (I1 y)then m7 m (I1 x) .min [x,y]else none
 | _,_,_=>none
def A1f(m:Mem)(a:Addr)(s n:Nat)(i:Value):Res :=
 bif !(Nat.blt (I1 i) 8)then none else
 match m7 m 8 .inb [i,.int .i64 (.ofNat n)]with
 | some (b,⟨H,k,W,hi,lg⟩)=>match brL lg b with
   | some (true,lg)=>some (ixp a s i n,⟨H,k,W,hi,lg⟩)
   | _=>none
 | none=>none
def gX(P:Program)(m:Mem)(t:TypeId)(x i:Value):Res :=
 match P.underlying t,x with
 | some (.array n e),.pointer (some a)=>match I4 P e,a.spot with
   | some s,none=>A1f m a s n i
   | _,_=>none
 | some (.slice e),.slice (some a) n c=>match I4 P e,a.spot with
   | some s,none=>bif Nat.beq c (R5+2)then none else A1f m a s n i
   | _,_=>none
 | _,_=>none
def gY(P:Program)(m:Mem)(s:TypeId)(x:Value)(i:Nat):Res :=
 match x with
 | .func (.yield 1) ⟨[.pointer (some a),.int .i64 (.ofNat k),j,.int .i64 (.ofNat n)]⟩ ⟨[]⟩=>match P.underlying s with
   | some (.struct fs)=>match fs.toList[i]?,a.spot with
     | some f,none=>match I4 P f.type with
       | some (_+1)=>some (ixp (dP a f.offset) k j n,m)
       | _=>none
     | _,_=>none
   | _=>none
 | _=>none
def AU(cs:List Value)(s o:Nat):Nat→Option D5
 | 0=>some []
 | n+1=>match cs[o]?,AU cs s (o+s) n with
   | some v,some r=>some (v::r)
   | _,_=>none
def eP(m:Mem)(cs:List Value)(s n:Nat)(i:Value):Nat→Nat→Option (D5×Mem)
 | _,0=>some ([],m)
 | o,k+1=>match AU cs s o n with
   | some (v::l)=>bif bC (I1 v) (v::l) && Nat.blt (I1 v) 10 then match m7 m (I1 v) .sel (i::v::l)with
     | some (h,m)=>match eP m cs s n i (o+1) k with
       | some (r,m)=>some (h::r,m)
       | none=>none
     | none=>none else none
   | _=>none
def uH(P:Program)(m:Mem)(t:TypeId)(x:Value):Res :=
 match x with
 | .func (.yield 1) ⟨[.pointer (some a),.int .i64 (.ofNat s),i,.int .i64 (.ofNat n)]⟩ ⟨[]⟩ =>
   match cU P t,I4 P t with
   | some false,_=>match cA m a ((n-1)*s+1)with
     | some cs=>match eP m cs s n i 0 1 with
       | some ([h],m)=>some (h,m)
       | _=>none
     | none=>none
   | some true,some z=>match cA m a ((n-1)*s+z)with
     | some cs=>match eP m cs s n i 0 z with
       | some (hs,m)=>some (.agg ⟨hs⟩,m)
       | none=>none
     | none=>none
   | _,_=>none
 | _=>none
def AT(m:Mem)(c a b:Value):Res :=
 match m with
 | ⟨H,n,W,hi,lg⟩=>match brL lg c with
   | some (true,lg)=>some (a,⟨H,n,W,hi,lg⟩)
   | some (false,lg)=>some (b,⟨H,n,W,hi,lg⟩)
   | none=>none
def A2V(P:Program)(fr:Fr)(m:Mem)(o:Op):Res :=
 match o with
 | .pick c a b=>AT m (ev fr c) (ev fr a) (ev fr b)
 | .binOp op t x y _=>match sR P m op t (ev fr x) (ev fr y)with
   | some r=>some r
   | none=>PE P m op t x y (ev fr x) (ev fr y)
 | .unOp op _ x=>OY m op (ev fr x)
 | .convert s t x=>uI P m s t (ev fr x)
 | .slice t x lo hi mx=>oH P m t (ev fr x) (evO fr lo) (evO fr hi) (evO fr mx)
 | .index t x i=>bB P m t (ev fr x) (ev fr i)
 | .indexAddr t x i=>gX P m t (ev fr x) (ev fr i)
 | .fieldAddr s x i=>gY P m s (ev fr x) i
 | .load t x=>uH P m t (ev fr x)
 | .call ⟨.builtin b,xs,tys⟩=>gZ P m b (evL fr xs.toList) tys.toList
 | _=>none
def pL(m:Mem)(b:Nat):Bool :=
 match Hp.get m.H b with
 | some .frz=>Nat.ble b I7
 | _=>false
def VL{α:Type}(l:List α):Nat→List α
 | 0=>[]
 | n+1=>l++VL l n
mutual
def A2R(P:Program):Nat→TypeId→Option I6
 | 0,_=>none
 | d+1,t=>match P.underlying t with
   | some .bool=>some [8]
   | some (.int k)=>some [lF k]
   | some .string=>some [9]
   | some (.slice e)=>match I4 P e with
     | some w=>some [10+w]
     | none=>none
   | some (.struct fs)=>A9c P d fs.toList
   | some (.array n e)=>match A2R P d e with
     | some l=>some (VL l n)
     | none=>none
   | _=>none
def A9c(P:Program):Nat→List Field→Option I6
 | 0,_=>none
 | _+1,[]=>some []
 | d+1,f::fs=>match A2R P d f.type,A9c P d fs with
   | some a,some b=>some (a++b)
   | _,_=>none
end
def oG(P:Program)(t:TypeId):Option I6 :=
 match A2R P 30 t,I4 P t with
 | some l,some n=>bif Nat.beq l.length n then some l else none
 | _,_=>none
def u6.letDo(t:Nat)(op:LOp)(xs:List Value)(m:Mem)(k:Nat→Mem→Option (D5×Mem)):Option (D5×Mem) :=
 match m with
 | ⟨H,n,W,hi,⟨nx,pi,log⟩⟩=>M1 nx fun nx=>M1 t fun t=>V6 xs fun xs=>k nx ⟨H,n,W,hi,⟨Nat.succ nx,pi,.dt nx t op xs::log⟩⟩
def u6(w o i t:Nat)(z:Value)(g:Nat):I6→Nat→Mem→Option (D5×Mem)
 | [],_,m=>some ([],m)
 | tg::ts,j,m=>bif Nat.blt tg 10 then
    match m7 m tg (.get w (o+j)) [hole i t,z]with
    | some (h,m)=>match u6 w o i t z g ts (j+1) m with
      | some (r,m)=>some (h::r,m)
      | none=>none
    | none=>none
   else u6.letDo tg (.get w (o+j)) [hole i t,z] m fun nx m=>match u6 w o i t z g ts (j+1) m with
     | some (r,m)=>some (dat g nx tg::r,m)
     | none=>none
def qA(P:Program)(t:TypeId)(r:Option (D5×Mem)):Res :=
 match cU P t,r with
 | some false,some ([v],m)=>some (v,m)
 | some true,some (vs,m)=>some (.agg ⟨vs⟩,m)
 | _,_=>none
def RL(P:Program)(m:Mem)(t:TypeId)(x:Value):Res :=
 match x,oG P t with
 | .func (.yield 5) ⟨[.pointer (some ⟨b,0,none⟩),.complex .f64 i tg,z,.int .i64 (.ofNat o)]⟩ ⟨[]⟩,some ts =>
   bif pL m b then qA P t (u6 (tg-10) o i tg z b ts 0 m)else none
 | .func (.yield 6) ⟨[.pointer (some ⟨b,0,none⟩),.complex .f64 i tg,z,.int .i64 (.ofNat o)]⟩ ⟨[]⟩,some ts =>
   match Hp.get m.H b with
   | some (.sq c tc T g ro)=>bif Nat.beq tc tg then qA P t (u6 (tg-10) o c tg z g ts 0 m)else none
   | _=>none
 | _,_=>none
def SB(m:Mem)(i t:Nat)(z:Value)(k:Value):Res :=
 bif !(Nat.blt (I1 z) 8)then none else
 match m7 m 8 (.inbs (t-10)) [z,hole i t]with
 | some (b,⟨H,n,W,hi,lg⟩)=>match brL lg b with
   | some (true,lg)=>some (k,⟨H,n,W,hi,lg⟩)
   | _=>none
 | none=>none
def pJ(P:Program)(m:Mem)(t:TypeId)(x z:Value):Res :=
 match P.underlying t,x with
 | some (.slice e),.func (.yield 4) ⟨[.pointer (some ⟨b,0,none⟩),.complex .f64 i tg]⟩ ⟨[]⟩=>match I4 P e with
   | some (s+1)=>bif Nat.beq tg (10+(s+1))then SB m i tg z (opt b i tg z 0)else none
   | _=>none
 | some (.slice e),.func (.yield 2) ⟨[.pointer (some ⟨b,0,none⟩),.complex .f64 i tg]⟩ ⟨[]⟩=>match I4 P e with
   | some (s+1)=>bif Nat.beq tg (10+(s+1))then SB m i tg z (dpt b i tg z 0)else none
   | _=>none
 | some (.slice e),.func (.yield 3) ⟨[.pointer (some ⟨b,0,none⟩),.complex .f64 i tg]⟩ ⟨[]⟩=>match I4 P e with
   | some (s+1)=>bif Nat.beq tg (10+(s+1))then SB m i tg z (dpt b i tg z 0)else none
   | _=>none
 | some (.array n e),.func (.yield 5) ⟨[.pointer (some ⟨b,0,none⟩),.complex .f64 i tg,y,.int .i64 (.ofNat o)]⟩ ⟨[]⟩=>match I4 P e,z with
   | some s,.int _ (.ofNat k)=>bif Nat.blt k n && Nat.blt (o+k*s) (tg-10)then some (M1 (o+k*s) fun o=>dpt b i tg y o,m)else none
   | _,_=>none
 | some (.array n e),.func (.yield 6) ⟨[.pointer (some ⟨b,0,none⟩),.complex .f64 i tg,y,.int .i64 (.ofNat o)]⟩ ⟨[]⟩=>match I4 P e,z with
   | some s,.int _ (.ofNat k)=>bif Nat.blt k n && Nat.blt (o+k*s) (tg-10)then some (M1 (o+k*s) fun o=>opt b i tg y o,m)else none
   | _,_=>none
 | _,_=>none
def pO(P:Program)(m:Mem)(s:TypeId)(x:Value)(f:Nat):Res :=
 match P.underlying s,x with
 | some (.struct fs),.func (.yield 5) ⟨[.pointer (some ⟨b,0,none⟩),.complex .f64 i tg,y,.int .i64 (.ofNat o)]⟩ ⟨[]⟩=>match fs.toList[f]? with
   | some fd=>match I4 P fd.type with
     | some (_+1)=>bif Nat.blt (o+fd.offset) (tg-10)then some (M1 (o+fd.offset) fun o=>dpt b i tg y o,m)else none
     | _=>none
   | none=>none
 | some (.struct fs),.func (.yield 6) ⟨[.pointer (some ⟨b,0,none⟩),.complex .f64 i tg,y,.int .i64 (.ofNat o)]⟩ ⟨[]⟩=>match fs.toList[f]? with
   | some fd=>match I4 P fd.type with
     | some (_+1)=>bif Nat.blt (o+fd.offset) (tg-10)then some (M1 (o+fd.offset) fun o=>opt b i tg y o,m)else none
     | _=>none
   | none=>none
 | _,_=>none
def vZ(i:Nat):List p7→Option Nat
 | []=>none
 | .lt j t .len [.complex .f64 k _]::r=>bif Nat.beq k i && Nat.beq t 3 then some j else vZ i r
 | _::r=>vZ i r
def MH(m:Mem)(i t:Nat):Res :=
 match vZ i m.lg.log with
 | some j=>some (hole j 3,m)
 | none=>m7 m 3 .len [hole i t]
def A7y(P:Program)(m:Mem)(t:TypeId)(x:Value):Res :=
 match P.underlying t,x with
 | some (.slice _),.func (.yield 2) ⟨[.pointer (some ⟨b,0,none⟩),.complex .f64 i tg]⟩ ⟨[]⟩=>MH m i tg
 | some (.slice _),.func (.yield 3) ⟨[.pointer (some ⟨b,0,none⟩),.complex .f64 i tg]⟩ ⟨[]⟩=>MH m i tg
 | some (.slice _),.func (.yield 4) ⟨[.pointer (some ⟨b,0,none⟩),.complex .f64 i tg]⟩ ⟨[]⟩=>MH m i tg
 | _,_=>none
def iE(m:Mem)(k:Nat→Mem→Option (Value×Nat×Mem)):Option (Value×Nat×Mem) :=
 match m with
 | ⟨H,n,W,hi,lg⟩=>bif Nat.ble n I7 then M1 n fun n=>M1 (upN hi n) fun hi=>Hp.put H n (some .frz) fun H=>k n ⟨H,Nat.succ n,W,hi,lg⟩else none
def toD(t:Nat)(v:Value)(m:Mem):Option (Value×Nat×Mem) :=
 match v with
 | .func (.yield 2) ⟨[.pointer (some ⟨b,0,none⟩),.complex .f64 i tg]⟩ ⟨[]⟩=>bif Nat.beq tg t && pL m b then some (hole i tg,b,m)else none
 | .func (.yield 3) ⟨[.pointer (some ⟨b,0,none⟩),.complex .f64 i tg]⟩ ⟨[]⟩=>bif Nat.beq tg t && pL m b then some (hole i tg,b,m)else none
 | .func (.yield 4) ⟨[.pointer (some ⟨b,0,none⟩),.complex .f64 i tg]⟩ ⟨[]⟩=>match Hp.get m.H b with
   | some (.sq c tc T g true)=>bif (Nat.beq tg t && Nat.beq tc t) && pL m g then iE m fun b' m=>some (hole c tc,b',m)else none
   | some (.sq c tc T g false)=>bif (Nat.beq tg t && Nat.beq tc t) && pL m g then match hH m b (.sq c tc T g true)with
     | some m=>iE m fun b' m=>some (hole c tc,b',m)
     | none=>none else none
   | _=>none
 | .slice none 0 0=>bif Nat.ble 10 t then(match AD m t (.nilw (t-10)) [] fun nx m=>some (hole nx t,m)with
   | some (h,m)=>iE m fun b' m=>some (h,b',m)
   | none=>none)else none
 | _=>none
abbrev Td:=Nat→Value→Mem→Option (Value×Nat×Mem)
def FZ(td:Td):I6→D5→Mem→Option (D5×I6×Mem)
 | [],[],m=>some ([],[],m)
 | t::ts,v::vs,m=>bif Nat.blt t 10 then
    bif Nat.beq (I1 v) t then match FZ td ts vs m with
     | some (r,gs,m)=>some (v::r,gs,m)
     | none=>none else none
   else match td t v m with
    | some (h,b,m)=>match FZ td ts vs m with
      | some (r,gs,m)=>some (h::r,b::gs,m)
      | none=>none
    | none=>none
 | _,_,_=>none
def nP(gs:List Nat)(m:Mem):Option (Nat×Mem) :=
 match gs with
 | [g]=>bif pL m g then some (g,m)else none
 | gs=>bif gs.all (pL m)then match iE m fun b m=>some (undef,b,m)with
   | some (_,b,m)=>some (b,m)
   | none=>none else none
def YD:Value→Value→Bool
 | .complex .f64 i _,.complex .f64 j _=>Nat.beq i j
 | .int k a,.int j b=>CQ k j && GP a b
 | _,_=>false
def DW(v:Value):Bool:=Nat.blt (I1 v) 8
def jW(m:Mem)(b i t:Nat)(l h:Value)(c:Bool):Res:=bif DW l && DW h then AD m t (.subs (t-10)) [hole i t,l,h] fun nx m=>some (bif c then clp b nx t else dat b nx t,m)else none
def SX(m:Mem)(b i t:Nat)(cl:Bool)(l:Value)(hi mx:Option Value):Res :=
 match hi,mx with
 | some h,none=>jW m b i t l h false
 | some h,some x=>bif YD h x then jW m b i t l h true else none
 | none,none=>match MH m i t with
   | some (h,m)=>jW m b i t l h cl
   | none=>none
 | none,some _=>none
def B6X(lo:Option Value):Value :=
 match lo with
 | some l=>l
 | none=>.int .i64 0
def SY(m:Mem)(b i t:Nat)(cl:Bool)(lo hi mx:Option Value):Res:=SX m b i t cl (B6X lo) hi mx
def CI(P:Program)(m:Mem)(t:TypeId)(x:Value)(lo hi mx:Option Value):Res :=
 match P.underlying t,x with
 | some (.slice e),.func (.yield 2) ⟨[.pointer (some ⟨b,0,none⟩),.complex .f64 i tg]⟩ ⟨[]⟩=>match I4 P e with
   | some s=>bif Nat.beq tg (10+s)then SY m b i tg false lo hi mx else none
   | none=>none
 | some (.slice e),.func (.yield 3) ⟨[.pointer (some ⟨b,0,none⟩),.complex .f64 i tg]⟩ ⟨[]⟩=>match I4 P e with
   | some s=>bif Nat.beq tg (10+s)then SY m b i tg true lo hi mx else none
   | none=>none
 | some (.slice e),.func (.yield 4) ⟨[.pointer (some ⟨b,0,none⟩),.complex .f64 i tg]⟩ ⟨[]⟩=>match I4 P e with
   | some s=>bif Nat.beq tg (10+s)then match toD tg x m with
     | some (.complex .f64 c _,b',m)=>SY m b' c tg false lo hi mx
     | _=>none else none
   | none=>none
 | _,_=>none
inductive Beh where
 | cells (xs:List Value)
 | rows (x:Value)
 | str (x:Value)
def fR(w:Nat)(c:Value):Beh→LOp×D5
 | .cells xs=>(.snoc w,c::xs)
 | .rows x=>(.cat w,[c,x])
 | .str x=>(.cats,[c,x])
def A6G(td:Td)(P:Program)(m:Mem)(e:TypeId)(w:Nat)(y:Value):Option (Beh×I6×Bool×Mem) :=
 match y with
 | .slice none 0 _=>some (.cells [],[],false,m)
 | .slice (some a) n _=>match cA m a (n*w),oG P e with
   | some cs,some ts=>match FZ td (VL ts n) cs m with
     | some (xs,gs,m)=>some (.cells xs,gs,Nat.blt 0 n,m)
     | none=>none
   | _,_=>none
 | .func _ _ _=>match td (10+w) y m with
   | some (x,b,m)=>some (.rows x,[b],false,m)
   | none=>none
 | y=>bif Nat.beq (I1 y) 9 && Nat.beq w 1 then some (.str y,[],false,m)else none
def JZ(td:Td)(P:Program)(m:Mem)(e:TypeId)(w:Nat)(x:Value):Option (Nat×I6×Option Nat×Mem) :=
 match x with
 | .slice none 0 0=>match AD m (10+w) (.nilw w) [] fun nx m=>some (hole nx (10+w),m)with
   | some (.complex .f64 c _,m)=>some (c,[],none,m)
   | _=>none
 | .func (.yield 4) ⟨[.pointer (some ⟨b,0,none⟩),.complex .f64 i tg]⟩ ⟨[]⟩=>match Hp.get m.H b with
   | some (.sq c tc T g false)=>bif (Nat.beq tg (10+w) && Nat.beq tc tg) && (Nat.beq T e && Nat.ble b I7)then some (c,[g],some b,m)else none
   | _=>none
 | .slice (some ⟨b,0,none⟩) n c=>match Hp.get m.H b,oG P e with
   | some (.cells cs _ _),some ts=>bif Nat.beq cs.length (n*w) && (Nat.beq c n && Nat.blt c R5 || Nat.beq c R5)then match FZ td (VL ts n) cs m with
     | some (xs,gs,m)=>match Hp.get m.H b with
       | some (.cells _ T false)=>bif Nat.beq T e && Nat.ble b I7 then match AD m (10+w) (.mk w) xs fun nx m=>some (hole nx (10+w),m)with
         | some (.complex .f64 c _,m)=>some (c,gs,some b,m)
         | _=>none else none
       | _=>none
     | none=>none else none
   | _,_=>none
 | _=>none
def bE(m:Mem)(c t:Nat)(T:TypeId)(g:Nat):Res:=x8 m (.sq c t T g false) fun b=>own b c t
def A11(P:Program)(e:TypeId)(n:Nat):Bool :=
 match jD P e with
 | some z=>Nat.beq z.cells.size n
 | none=>false
def nN(old:Option Nat)(m:Mem):Mem :=
 match old with
 | some b=>nO m b
 | none=>m
def QX(td:Td)(P:Program)(m:Mem)(e:TypeId)(w:Nat)(x:Value):Res :=
 match P.info? e with
 | some inf=>bif Nat.beq inf.size w && Nat.blt 0 w then match JZ td P m e w x with
   | some (c,gs,old,m)=>match nP gs m with
     | some (g,m)=>bE (nN old m) c (10+w) e g
     | none=>none
   | none=>none else none
 | none=>none
def A2M(P:Program):Nat→Td
 | 0=>toD
 | d+1=>fun t v m=>match v with
   | .slice (some ⟨b,0,none⟩) _ _=>match Hp.get m.H b with
     | some (.cells _ T _)=>match QX (A2M P d) P m T (t-10) v with
       | some (x,m)=>toD t x m
       | none=>none
     | _=>none
   | v=>toD t v m
def tdP(P:Program):Td:=A2M P 3
def QQ(m:Mem)(e:TypeId)(w c:Nat)(old:Option Nat)(bh:Beh)(gs:List Nat):Res :=
 match nP gs m with
 | some (g,m)=>AD m (10+w) (fR w (hole c (10+w)) bh).1 (fR w (hole c (10+w)) bh).2 fun nx m=>bE (nN old m) nx (10+w) e g
 | none=>none
def wN(P:Program)(m:Mem)(t t2:TypeId)(x y:Value):Res :=
 match P.underlying t,P.underlying t2 with
 | some (.slice e),some d2=>bif !(fI d2)then none else
   match P.info? e with
   | some i=>bif (Nat.ble i.bytes 90000 && Nat.blt 0 i.size) && A11 P e i.size then
     match A6G (tdP P) P m e i.size y with
     | some (bh,gs,sure,m)=>match JZ (tdP P) P m e i.size x with
       | some (c,g0,old,m)=>QQ m e i.size c old bh (g0++gs)
       | none=>match x,sure with
         | .func (.yield 3) ⟨[.pointer (some ⟨b,0,none⟩),.complex .f64 c tg]⟩ ⟨[]⟩,true=>bif Nat.beq tg (10+i.size)then QQ m e i.size c none bh (b::gs)else none
         | _,_=>none
     | none=>none else none
   | none=>none
 | _,_=>none
def CG(P:Program)(m:Mem)(t:TypeId)(x v:Value):Res :=
 match x,oG P t with
 | .func (.yield 6) ⟨[.pointer (some ⟨b,0,none⟩),.complex .f64 i tg,z,.int .i64 (.ofNat o)]⟩ ⟨[]⟩,some ts=>bif mT v then none else
   match FZ (tdP P) ts v.cells.toList m with
   | some (xs,gs,m)=>match Hp.get m.H b with
     | some (.sq c tc T g false)=>bif Nat.beq tc tg then match nP (g::gs) m with
       | some (g,m)=>match AD m tg (.set (tg-10) o) (hole c tg::z::xs) fun nx m=>some (hole nx tg,m)with
         | some (.complex .f64 nx _,m)=>VW (hH m b (.sq nx tg T g false))
         | _=>none
       | none=>none else none
     | _=>none
   | none=>none
 | _,_=>none
def B1t(m m1:Mem):Mem :=
 match m,m1 with
 | ⟨H,n,W,_,_⟩,⟨_,_,_,hi,lg⟩=>⟨H,n,W,hi,lg⟩
def TC(P:Program)(m:Mem)(s t:TypeId)(x:Value):Res :=
 match P.underlying s,P.underlying t,x with
 | some (.slice e),some .string,.slice (some a) n _=>match P.underlying e with
   | some (.int .u8)=>match cA m a n with
     | some cs=>bif bC 4 cs then m7 m 9 .mks cs else none
     | none=>none
   | _=>none
 | some (.slice e),some .string,.func _ _ _=>match P.underlying e with
   | some (.int .u8)=>match toD 11 x m with
     | some (h,_,m1)=>m7 (B1t m m1) 9 .str [h]
     | none=>none
   | _=>none
 | some _,some (.slice e),x=>bif Nat.beq (I1 x) 9 then match P.underlying e with
   | some (.int .u8)=>match I4 P e with
     | some 1=>match nP [] m with
       | some (g,m)=>match AD m 11 .byt [x] fun nx m=>some (hole nx 11,m)with
         | some (.complex .f64 nx _,m)=>bE m nx 11 e g
         | _=>none
       | none=>none
     | _=>none
   | _=>none else none
 | _,_,_=>none
def A47:Value→Bool
 | .slice none 0 0=>true
 | _=>false
def A4W(P:Program)(m:Mem)(op:BinOp)(t:TypeId)(x y:Operand)(a b:Value):Res :=
 match P.underlying t,a with
 | some (.slice _),.func (.yield k) ⟨[.pointer (some ⟨_,0,none⟩),.complex .f64 i tg]⟩ ⟨[]⟩=>bif A47 b && isC y && (Nat.beq k 2 || Nat.beq k 3 || Nat.beq k 4)then
   match op,m7 m 8 .nilp [hole i tg]with
   | .eql,some r=>some r
   | .neq,some (h,m)=>m7 m 8 (.un .not) [h]
   | _,_=>none else none
 | _,_=>none
def RH(P:Program)(m:Mem)(t:TypeId)(l c:Value):Res :=
 match P.underlying t,l,c with
 | some (.slice e),.complex .f64 i ti,.complex .f64 j tj=>bif (Nat.beq i j && Nat.beq ti 3) && Nat.beq tj 3 then
   match P.info? e with
   | some inf=>bif Nat.ble inf.bytes 90000 && Nat.blt 0 inf.size then
     match jD P e with
     | some z=>bif Nat.beq z.cells.size inf.size && z.cells.toList.all (fun z=>Nat.blt (I1 z) 10)then
       match nP [] m with
       | some (g,m)=>match AD m (10+inf.size) (.rep inf.size) (hole i 3::z.cells.toList) fun nx m=>some (hole nx (10+inf.size),m)with
         | some (.complex .f64 nx _,m)=>bE m nx (10+inf.size) e g
         | _=>none
       | none=>none else none
     | none=>none else none
   | none=>none else none
 | _,_,_=>none
def dsM(P:Program)(fr:Fr)(m:Mem)(o:Op):Res :=
 match o with
 | .makeSlice t l c=>RH P m t (ev fr l) (ev fr c)
 | .load t x=>RL P m t (ev fr x)
 | .store t x y=>CG P m t (ev fr x) (ev fr y)
 | .indexAddr t x i=>pJ P m t (ev fr x) (ev fr i)
 | .fieldAddr s x i=>pO P m s (ev fr x) i
 | .slice t x lo hi mx=>CI P m t (ev fr x) (evO fr lo) (evO fr hi) (evO fr mx)
 | .convert s t x=>TC P m s t (ev fr x)
 | .binOp op t x y _=>A4W P m op t x y (ev fr x) (ev fr y)
 | .call ⟨.builtin .len,xs,tys⟩=>match evL fr xs.toList,tys.toList with
   | [x],t::_=>A7y P m t x
   | _,_=>none
 | .call ⟨.builtin .append,xs,tys⟩=>match evL fr xs.toList,tys.toList with
   | [x,y],t::t2::_=>wN P m t t2 x y
   | _,_=>none
 | _=>none
def A0l(P:Program)(m:Mem)(s t:TypeId)(x:Value):Res :=
 match P.underlying s,P.underlying t,x with
 | some (.pointer e),some .unsafePointer,.pointer (some ⟨b,o,none⟩)=>match I4 P e,Hp.get m.H b with
   | some (_+1),some (.cells cs _ _)=>bif Nat.blt o cs.length then some (x,m)else none
   | _,_=>none
 | some .unsafePointer,some (.pointer u),.pointer (some ⟨b,0,none⟩)=>match I4 P u,Hp.get m.H b with
   | some (k+1),some (.cells cs T false)=>bif Nat.beq T u && Nat.beq cs.length (k+1)then some (x,m)else none
   | _,_=>none
 | some (.slice _),some (.slice e),.slice (some ⟨b,o,none⟩) n c=>bif Nat.beq s t && !(Nat.beq c (R5+2))then match P.underlying e,Hp.get m.H b with
   | some (.int .u8),some (.cells cs T false)=>match hH m b (.cells cs T false)with
     | some m1=>some (x,m1)
     | none=>none
   | _,_=>none else none
 | _,_,_=>none
def ZB(P:Program)(m:Mem)(op:BinOp)(t:TypeId)(a b:Value):Res :=
 match P.underlying t,a,b with
 | some (.pointer e),.pointer (some ⟨b1,o1,none⟩),.pointer (some ⟨b2,o2,none⟩)=>bif Nat.beq b1 b2 && Nat.beq o1 o2 then match P.info? e,op with
   | some _,.eql=>some (.bool true,m)
   | some _,.neq=>some (.bool false,m)
   | _,_=>none else none
 | _,_,_=>none
def sdM(P:Program)(m:Mem)(ty:TypeId)(x:Value):Res :=
 match P.underlying ty with
 | some (.pointer _)=>match x with
  | .func (.yield 4) ⟨[.pointer (some ⟨b,0,none⟩),.complex .f64 i t]⟩ ⟨[]⟩=>match Hp.get m.H b with
   | some (.sq _ _ _ _ _)=>some (sdt b,m)
   | _=>none
  | _=>none
 | _=>none
def usM(P:Program)(m:Mem)(pt:TypeId)(p l:Value):Res :=
 match p with
 | .func (.yield 9) ⟨[.pointer (some ⟨b,0,none⟩)]⟩ ⟨[]⟩=>bif Nat.blt (I1 l) 8 then match Hp.get m.H b,P.underlying pt with
   | some (.sq c tc T g false),some (.pointer e)=>bif Nat.beq e T && Nat.beq tc 11 then match I4 P T,m7 m 9 .ustr [hole c tc,l]with
     | some 1,some (v,m)=>match hH m b (.sq c tc T g true)with
       | some m=>some (v,m)
       | none=>none
     | _,_=>none else none
   | _,_=>none else none
 | _=>none
def jN(P:Program)(t:TypeId):Option Nat :=
 match P.underlying t with
 | some .bool=>some 8
 | some (.int k)=>some (lF k)
 | some .string=>some 9
 | _=>none
def zJ(P:Program):List Field→Nat→Option I6
 | [],_=>some []
 | f::r,i=>match jN P f.type,zJ P r (i+1)with
   | some t,some l=>bif !(f.name == "_") && Nat.beq f.offset i then some (t::l)else none
   | _,_=>none
def sL(P:Program)(t:TypeId):Option (Bool×List Nat) :=
 match P.underlying t with
 | some (.struct fs)=>bif P.stoodInHeld t then none else match zJ P fs.toList 0 with
   | some l=>some (true,l)
   | none=>none
 | _=>match jN P t with
   | some k=>some (false,[k])
   | none=>none
def XO(P:Program)(t:TypeId):Option (Bool×List Nat) :=
 match cU P t,oG P t with
 | some true,some l=>bif l.all (fun k=>Nat.blt k 10)then some (true,l)else none
 | some false,some [k]=>bif Nat.blt k 10 then some (false,[k])else none
 | _,_=>none
structure MTy where
 kt:TypeId
 vt:TypeId
 ka:Bool
 ks:I6
 va:Bool
 vs:I6
def MTy.w(y:MTy):Nat:=y.ks.length+y.vs.length
def A1W(P:Program)(T:TypeId):Option MTy :=
 match P.underlying T with
 | some (.map kt vt)=>match sL P kt,XO P vt with
   | some (ka,k::ks),some (va,vs)=>some ⟨kt,vt,ka,k::ks,va,vs⟩
   | _,_=>none
 | _=>none
def EO:I6→D5→Bool
 | [],[]=>true
 | t::ts,v::vs=>Nat.beq (I1 v) t && EO ts vs
 | _,_=>false
def rW(a:Bool)(ts:List Nat)(v:Value):Option D5 :=
 match a,v with
 | true,.agg cs=>bif EO ts cs.toList then some cs.toList else none
 | true,_=>none
 | false,v=>bif EO ts [v]then some [v]else none
def A6L(a:Bool)(vs:List Value):V7 :=
 match a,vs with
 | true,vs=>some (.agg ⟨vs⟩)
 | false,[v]=>some v
 | false,_=>none
def A4a(P:Program)(m:Mem)(T:TypeId):Res :=
 match A1W P T with
 | some y=>AD m (10+y.w) (.mk y.w) [] fun nx m=>x8 m (.mp nx (10+y.w) T) fun b=>.map (some b)
 | none=>none
def xR(w kw c t:Nat)(kc:List Value):I6→D5→Nat→Mem→Option (D5×Mem)
 | [],[],_,m=>some ([],m)
 | tg::ts,z::zs,j,m=>match m7 m tg (.mget w kw j) (hole c t::z::kc)with
   | some (h,m)=>match xR w kw c t kc ts zs (j+1) m with
     | some (r,m)=>some (h::r,m)
     | none=>none
   | none=>none
 | _,_,_,_=>none
def DM(P:Program)(m:Mem)(T:TypeId)(x k:Value)(ok:Bool):Res :=
 match x,A1W P T with
 | .map (some r),some y=>match Hp.get m.H r,rW y.ka y.ks k,jD P y.vt with
   | some (.mp c t T2),some kc,some z=>bif Nat.beq T2 T then match rW y.va y.vs z with
     | some zc=>match xR y.w y.ks.length c t kc y.vs zc y.ks.length m with
       | some (hs,m)=>match A6L y.va hs with
         | some v=>bif ok then match m7 m 8 (.mhas y.w y.ks.length) (hole c t::kc)with
            | some (b,m)=>some (.tuple ⟨[v,b]⟩,m)
            | none=>none
           else some (v,m)
         | none=>none
       | none=>none
     | none=>none else none
   | _,_,_=>none
 | _,_=>none
def IB(P:Program)(m:Mem)(T:TypeId)(x k v:Value):Res :=
 match x,A1W P T with
 | .map (some r),some y=>match Hp.get m.H r,rW y.ka y.ks k,rW y.va y.vs v with
   | some (.mp c t T2),some kc,some vc=>bif Nat.beq T2 T then AD m t (.mput y.w y.ks.length) (hole c t::(kc++vc)) fun nx m=>VW (hH m r (.mp nx t T))else none
   | _,_,_=>none
 | _,_=>none
def RO(P:Program)(m:Mem)(T:TypeId)(x:Value):Res :=
 match P.underlying T,x with
 | some (.map _ _),.map (some r)=>match Hp.get m.H r with
   | some (.mp c t _)=>MH m c t
   | _=>none
 | _,_=>none
def xtM(P:Program)(fr:Fr)(m:Mem)(o:Oper):Res :=
 match o.op with
 | .convert s t x=>A0l P m s t (ev fr x)
 | .binOp op t x y _=>ZB P m op t (ev fr x) (ev fr y)
 | .call ⟨.builtin .unsafeSliceData,xs,_⟩=>match evL fr xs.toList with
   | [x]=>sdM P m o.type x
   | _=>none
 | .call ⟨.builtin .unsafeString,xs,tys⟩=>match evL fr xs.toList,tys.toList with
   | [p,l],t::_=>usM P m t p l
   | _,_=>none
 | .makeMap t none=>A4a P m t
 | .lookup t x k ok=>DM P m t (ev fr x) (ev fr k) ok
 | .mapUpdate t x k v=>IB P m t (ev fr x) (ev fr k) (ev fr v)
 | .insert t x k v=>IB P m t (ev fr x) (ev fr k) (ev fr v)
 | .call ⟨.builtin .len,xs,tys⟩=>match evL fr xs.toList,tys.toList with
   | [x],t::_=>RO P m t x
   | _,_=>none
 | _=>none
inductive EK where
 | noEscape|makeNoZero (e:TypeId)|indexByteString|countString|indexString|copyString
 deriving DecidableEq
def SN:List (FuncId×EK)→FuncId→Option EK
 | [],_=>none
 | (g,k)::r,f=>bif Nat.beq g f then some k else SN r f
structure FnC where
 run:D5→Mem→Res
structure T8 where
 fn:FuncId→FnC
 yl:FnC
def rJ:Value→Bool
 | .tuple ⟨[]⟩=>true
 | _=>false
def OI(lg:Lg)(v:Value)(b:Bool):Option (Bool×Lg) :=
 match v with
 | .bool c=>some (c == b,lg)
 | .complex k i t=>match brL lg (.complex k i t)with
   | some (c,lg)=>some (c == b,lg)
   | none=>none
 | v=>bif rJ v then some (false,lg)else none
def dL(nt:Nat)(fr:Fr)(lg:Lg)(ops:List Oper)(o:Oper):Option (Bool×Lg) :=
 match o.guard with
 | none=>some (true,lg)
 | some (j,b)=>match ops[j]? with
   | some p=>match p.dst with
     | some t=>bif Nat.blt t nt then OI lg (fr.get t) b else none
     | none=>none
   | none=>none
def BQ(v:Value)(vs:List Value):Option (FuncId×List Value) :=
 match v with
 | .func (.func f) a b=>some (f,a.toList++(vs++b.toList))
 | _=>none
def gQ(v:Value):Option Nat :=
 match v with
 | .func (.yield 7) ⟨[.pointer (some ⟨b,0,none⟩)]⟩ ⟨[]⟩=>some b
 | _=>none
def RB(call:T8)(m:Mem)(v:Value)(vs:List Value):Res :=
 match BQ v vs with
 | some (f,vs)=>(call.fn f).run vs m
 | none=>match gQ v with
   | some _=>call.yl.run (v::vs) m
   | none=>none
def B6u(call:T8)(x:XC)(xs:LC)(fr:Fr)(m:Mem):Res:=RB call m (x.run fr) (xs.run fr)
def B39(f:FnC)(xs:LC)(fr:Fr)(m:Mem):Res:=f.run (xs.run fr) m
def A40(P:Program)(c:OpC)(o:Oper)(fr:Fr)(m:Mem):Res :=
 match c.run fr m with
 | some r=>some r
 | none=>match A2V P fr m o.op with
   | some r=>some r
   | none=>match dsM P fr m o.op with
     | some r=>some r
     | none=>xtM P fr m o
def p9(P:Program)(call:T8)(o:Oper):OpC :=
 match o.op with
 | .call ⟨.value (.func f),xs,_⟩=>⟨B39 (call.fn f) (zN xs.toList)⟩
 | .call ⟨.value x,xs,_⟩=>⟨B6u call (X6 x) (zN xs.toList)⟩
 | op=>⟨A40 P (EZ P op) o⟩
def ER(nt:Nat)(d:Option Tmp):Bool :=
 match d with
 | some d=>Nat.blt d nt
 | none=>true
structure B4q where
 run:Value→Fr→(Fr→Option S)→Option S
def AF(d:Option Tmp):B4q :=
 match d with
 | some t=>⟨zZ (sel (t / 64%8)) (sel (t / 8%8)) (sel (t%8))⟩
 | none=>⟨fun _ fr k=>k fr⟩
structure A6U where
 run:S→Option S
def oO(c:OpC)(d:B4q)(next:A6U)(s:S):Option S :=
 match s with
 | ⟨fr,m⟩=>match c.run fr m with
   | some (v,m')=>bif Nat.ble m.hi m'.hi then d.run v fr fun fr=>next.run ⟨fr,m'⟩else none
   | none=>none
def hO(nt:Nat)(all:List Oper)(o:Oper)(c:OpC)(d:B4q)(next:A6U)(s:S):Option S :=
 match s with
 | ⟨fr,⟨H,n,W,hi,lg⟩⟩=>match dL nt fr lg all o with
   | some (true,lg)=>oO c d next ⟨fr,⟨H,n,W,hi,lg⟩⟩
   | some (false,lg)=>d.run undef fr fun fr=>next.run ⟨fr,⟨H,n,W,hi,lg⟩⟩
   | none=>none
def Z9(P:Program)(nt gl:Nat)(call:T8)(all:List Oper):List Oper→A6U
 | []=>⟨some⟩
 | o::r=>bif ER nt o.dst && VT nt gl o.op then match o.guard with
   | none=>⟨fun s=>oO (p9 P call o) (AF o.dst) (Z9 P nt gl call all r) s⟩
   | some _=>⟨fun s=>hO nt all o (p9 P call o) (AF o.dst) (Z9 P nt gl call all r) s⟩
   else⟨fun _=>none⟩
structure Rec where
 i:Nat
 lo:Nat
 hi:Nat
inductive Cls where
 | free
 | one (b:Nat)
 | all
def B7u(fr:Fr)(o:Op):Cls :=
 match o with
 | .move _|.assign _|.pick ..|.alloc _|.box ..|.build ..|.buildSlice ..|.nilCheck _|.binOp ..|.unOp ..|.makeInterface ..|.makeFunc ..|.makeMap ..|.makeSlice ..
 | .fieldAddr ..|.field ..|.indexAddr ..|.index ..|.extract ..|.range ..=>.free
 | .slice _ x _ _ _=>match ev fr x with
   | .slice _ _ _|.string _|.pointer _|.complex _ _ _=>.free
   | _=>.all
 | .convert _ _ x=>match ev fr x with
   | .int _ _|.string _=>.free
   | _=>.all
 | .call ⟨.builtin .len,xs,_⟩=>match evL fr xs.toList with
   | [.slice _ _ _]|[.string _]=>.free
   | _=>.all
 | .call ⟨.builtin .min,_,_⟩|.call ⟨.builtin .max,_,_⟩=>.free
 | .call ⟨.builtin .unsafeSliceData,xs,_⟩=>match evL fr xs.toList with
   | [.slice _ _ _]=>.free
   | _=>.all
 | .load _ x|.store _ x _=>match ev fr x with
   | .pointer (some a)=>.one a.block
   | _=>.all
 | _=>.all
def IX(H:Hp AB):I6→Hp AB
 | []=>H
 | b::r=>Hp.put H b none fun H=>IX H r
def KC(H0 H:Hp AB):I6→Hp AB
 | []=>H
 | b::r=>Hp.put H b (Hp.get H0 b) fun H=>KC H0 H r
def UY:Nat→Nat→I6
 | _,0=>[]
 | lo,n+1=>lo::UY (lo+1) n
def y8:List Rec→I6
 | []=>[]
 | r::rs=>UY r.lo (r.hi-r.lo)++y8 rs
def cF(l:List Nat)(b:Nat):Bool:=l.any (Nat.beq b)
def NW(l:List Nat):Bool:=l.all fun b=>Nat.ble b I7
def IG(b:List Nat)(rs:List Rec):List Rec:=rs.filter fun r=>!(cF b r.i)
def GX(m:Mem)(c:Cls)(us:List Rec):Option Mem :=
 match m with
 | ⟨H,n,_,hi,lg⟩=>match c with
   | .free=>some ⟨hp0,n,[],hi,lg⟩
   | .one b=>bif cF (y8 us) b || !(Nat.ble b I7)then none else Hp.put hp0 b (Hp.get H b) fun H=>some ⟨H,n,[],hi,lg⟩
   | .all=>bif NW (y8 us)then some ⟨IX H (y8 us),n,[],hi,lg⟩else none
def oZ(m m':Mem):Option Mem :=
 bif Nat.ble m'.hi m.n then(match m with|⟨H,n,W,hi,_⟩=>some ⟨H,n,W,hi,m'.lg⟩)else
 bif Nat.ble m'.hi I7 then NA (KC m'.H m.H (UY m.n (m'.hi-m.n))) fun H=>M1 m'.hi fun n=>some ⟨H,n,m.W,n,m'.lg⟩else none
def A0a(fr:Fr)(m:Mem)(o:Oper)(b:List Nat)(rs:List Rec)(op:OpC)(k:Value→Mem→Option S):Option S :=
 let us:=IG b rs
 let c:=B7u fr o.op
 match GX m c us with
 | some mv=>match op.run fr mv with
   | some (v,m') =>
     match m'.W,Nat.ble m.hi m'.hi with
     | [],true=>match oZ m m' with
       | some m2=>k v m2
       | none=>none
     | _,_=>none
   | none=>none
 | none=>none
def wrO:Op→Bool
 | .call _|.store ..|.mapUpdate ..=>true
 | _=>false
def cR:Op→Bool
 | .move _|.assign _|.extract ..|.slice ..=>true
 | _=>false
def B3u:Op→Bool
 | .field ..|.fieldAddr ..|.index ..|.indexAddr ..|.binOp ..|.unOp ..|.build ..|.load ..|.pick ..|.convert ..|.slice ..|.nilCheck _=>true
 | .call ⟨.builtin .len,_,_⟩=>true
 | o=>cR o
def LG(a b:Addr):Bool :=
 match a,b with
 | ⟨x,o,none⟩,⟨y,p,none⟩=>Nat.beq x y && Nat.beq o p
 | _,_=>false
def VE(f g:Fn):Bool :=
 match f,g with
 | .func f,.func g=>Nat.beq f g
 | .yield f,.yield g=>Nat.beq f g
 | _,_=>false
def HM(s:Value→Value→Bool):D5→D5→Bool
 | [],[]=>true
 | a::l,b::r=>s a b && HM s l r
 | _,_=>false
def CP:Nat→Value→Value→Bool
 | _,.bool a,.bool b=>a == b
 | _,.int k n,.int j m=>CQ k j && GP n m
 | _,.complex .f64 i t,.complex .f64 j u=>Nat.beq i j && Nat.beq t u
 | _,.complex .f32 i t,.complex .f32 j u=>Nat.beq i j && Nat.beq t u
 | _,.string s,.string t=>decide (s.data.toList=t.data.toList)
 | _,.pointer none,.pointer none=>true
 | _,.pointer (some a),.pointer (some b)=>LG a b
 | _,.slice none n c,.slice none m d=>Nat.beq n m && Nat.beq c d
 | _,.slice (some a) n c,.slice (some b) m d=>LG a b && (Nat.beq n m && Nat.beq c d)
 | _,.map none,.map none=>true
 | _,.map (some a),.map (some b)=>Nat.beq a b
 | _,.nilFunc,.nilFunc=>true
 | _,.nilIface,.nilIface=>true
 | d+1,.func f a b,.func g a' b'=>VE f g && (HM (CP d) a.toList a'.toList && HM (CP d) b.toList b'.toList)
 | d+1,.iface t v,.iface u w=>Nat.beq t u && CP d v w
 | _,_,_=>false
def A26(a b:AB):Bool :=
 match a,b with
 | .frz,.frz=>true
 | .cells cs T ro,.cells cs' T' ro'=>HM (CP 6) cs cs' && (Nat.beq T T' && (ro == ro'))
 | _,_=>false
def A4C(H:Hp AB)(b:Nat):Option (Nat×AB) :=
 match Hp.get H b with
 | some .frz=>some (b,.frz)
 | some (.cells cs T ro)=>some (b,.cells cs T ro)
 | _=>none
def SG(H:Hp AB)(fr:Fr)(o:Op):Option (Nat×AB) :=
 match o with
 | .load _ x=>match ev fr x with
   | .func (.yield 5) ⟨.pointer (some a)::_⟩ _=>A4C H a.block
   | .pointer (some a)=>A4C H a.block
   | _=>none
 | _=>none
def DY(H:Hp AB)(b:Nat)(ab:AB):Bool :=
 match Hp.get H b with
 | some x=>Nat.ble b I7 && A26 x ab
 | none=>false
def wK:Nat:=262144
def LT(m:Mem)(r:Option (Nat×AB))(us:List Rec):Option Mem :=
 match m with
 | ⟨H,_,_,_,lg⟩=>match r with
   | none=>some ⟨hp0,wK,[],wK,lg⟩
   | some (b,ab)=>bif cF (y8 us) b || !(DY H b ab)then none else Hp.put hp0 b (some ab) fun H=>some ⟨H,wK,[],wK,lg⟩
def oU(fr:Fr)(m:Mem)(o:Oper)(b:List Nat)(rs:List Rec)(op:OpC):Option (Value×Lg) :=
 match LT m (SG m.H fr o.op) (IG b rs)with
 | some mv=>match op.run fr mv with
   | some (v,⟨_,_,[],hi,lg⟩)=>bif Nat.beq hi wK then some (v,lg)else none
   | _=>none
 | none=>none
abbrev Qs:=List (Nat×Option (Nat×AB))
def NX:Nat→I6→Qs→Bool
 | 0,_,_=>true
 | n+1,b,qs=>(cF b n || qs.any fun q=>Nat.beq n q.1) && NX n b qs
def MJ(i:Nat):List I6→List Oper→Bool
 | c::bs,o::r=>(cF c i || cR o.op) && MJ i bs r
 | _,_=>true
def B1s(H:Hp AB)(r:Option (Nat×AB)):Bool :=
 match r with
 | none=>true
 | some (b,ab)=>DY H b ab
def A4u(b:List Nat)(H:Hp AB)(qs:Qs):Bool:=qs.all fun q=>cF b q.1 || B1s H q.2
def PO(o:Op)(i:Nat)(b:List Nat)(bs:List I6)(r:List Oper)(qs:Qs):Bool:=wrO o && (NX i b qs && MJ i bs r)
def bM(P:Program)(nt gl:Nat)(call:T8)(all:List Oper):List Oper→Nat→List I6→List Rec→Qs→S→Option S
 | [],_,_,_,_,s=>some s
 | _::_,_,[],_,_,_=>none
 | o::r,i,b::bs,rs,qs,⟨fr,⟨H,n,W,hi,lg⟩⟩=>match dL nt fr lg all o,ER nt o.dst && VT nt gl o.op with
   | some (true,lg),true=>bif PO o.op i b bs r qs then(match (p9 P call o).run fr ⟨H,n,W,hi,lg⟩with
      | some (v,m2)=>bif Nat.ble hi m2.hi && A4u b m2.H qs then(AF o.dst).run v fr fun fr=>bM P nt gl call all r (i+1) bs [] qs ⟨fr,m2⟩else none
      | none=>none)
     else match (bif B3u o.op then oU fr ⟨H,n,W,hi,lg⟩ o b rs (p9 P call o)else none)with
      | some (v,lg2)=>(AF o.dst).run v fr fun fr2=>bM P nt gl call all r (i+1) bs rs ((i,SG H fr o.op)::qs) ⟨fr2,⟨H,n,W,hi,lg2⟩⟩
      | none=>bif cR o.op then none else A0a fr ⟨H,n,W,hi,lg⟩ o b rs (p9 P call o) fun v m2 =>
        (AF o.dst).run v fr fun fr=>bM P nt gl call all r (i+1) bs (⟨i,n,m2.n⟩::rs) qs ⟨fr,m2⟩
   | some (false,lg),true=>(AF o.dst).run undef fr fun fr=>bM P nt gl call all r (i+1) bs rs ((i,none)::qs) ⟨fr,⟨H,n,W,hi,lg⟩⟩
   | _,_=>none
def A6R(l:List Nat)(b:Nat):I6:=bif cF l b then l else M1 b fun b=>b::l
def A0F:I6→I6→I6
 | [],b=>b
 | x::a,b=>A6R (A0F a b) x
def wO(acc:List I6):List Edge→I6
 | []=>[]
 | e::r=>bif Region.binds .any e then A6R (A0F (acc.getD e.on []) (wO acc r)) e.on else wO acc r
def x9:List Oper→List I6→List I6
 | [],acc=>acc
 | o::r,acc=>V6 (wO acc o.after.toList) fun a=>x9 r (acc++[a])
def uE:Operand→List Tmp
 | .tmp t=>[t]
 | _=>[]
def l7(ops:List Oper)(o:Oper):List Tmp :=
 o.dst.toList++(o.op.operands.toList.flatMap uE++(match o.guard with
  | none=>[]
  | some (j,_)=>match ops[j]? with
    | some p=>p.dst.toList
    | none=>[]))
def A7h(an:List I6)(i k:Nat):Bool:=bif Nat.blt i k then cF (an.getD k []) i else cF (an.getD i []) k
def wU(an:List I6)(i:Nat)(sl:List Tmp):List Oper→Nat→Bool
 | [],_=>true
 | p::r,k=>(Nat.beq k i || (match p.dst with|none=>true|some t=>!(cF sl t) || A7h an i k)) && wU an i sl r (k+1)
def rT(i:Nat):List Edge→Bool
 | []=>true
 | e::r=>(!(Region.binds .any e) || Nat.blt e.on i) && rT i r
def QY(ops:List Oper)(an:List I6):List Oper→Nat→Bool
 | [],_=>true
 | o::r,i=>rT i o.after.toList && (wU an i (l7 ops o) ops 0 && QY ops an r (i+1))
def NL(ops:Array Oper):Bool:=QY ops.toList (x9 ops.toList []) ops.toList 0
def NQ:Op→Bool
 | .move _|.assign _|.load _ _|.store _ _ _=>true
 | _=>false
def qB:Op→Option (TypeId×Operand)
 | .load t x=>some (t,x)
 | .store t x _=>some (t,x)
 | _=>none
def jQ:Op→Bool
 | .store _ _ _=>true
 | _=>false
def A3x:Op→List Tmp
 | .move x|.assign x=>uE x
 | .load _ x=>uE x
 | .store _ x y=>uE x++uE y
 | _=>[]
def HZ(o:Oper)(l:List Tmp):Bool :=
 match o.dst with
 | some d=>cF l d
 | none=>false
def B63(a b:Oper):Bool :=
 (match a.dst,b.dst with
   | some d,some e=>!(Nat.beq d e)
   | _,_=>true) && (!(HZ a (A3x b.op)) && (!(HZ b (A3x a.op)) && !(jQ a.op && jQ b.op)))
def wE(o:Oper)(i:Nat):Bool:=o.after.any fun e=>Region.binds .any e && Nat.beq e.on i
def A6S(l:List Oper):List Tmp:=l.flatMap fun o=>match qB o.op with
 | some (_,x)=>uE x
 | none=>[]
def LW(p:Oper→Oper→Bool)(l:List Oper):Bool :=
 (List.range l.length).all fun j=>(List.range j).all fun i=>match l[i]?,l[j]? with
   | some a,some b=>wE b i || p a b
   | _,_=>true
def B3y(ads:List Tmp)(i:Nat)(o:Oper):Bool:=NQ o.op && ((match o.guard with|none=>true|some _=>false) && (!(HZ o ads) && o.after.all fun e=>!(Region.binds .any e) || Nat.blt e.on i))
def A4Q(ads:List Tmp):Nat→List Oper→Bool
 | _,[]=>true
 | i,o::l=>B3y ads i o && A4Q ads (i+1) l
def oS(l:List Oper):Bool:=A4Q (A6S l) 0 l && LW B63 l
def A4L(P:Program)(nt gl:Nat)(fr:Fr)(H:Hp AB)(o:Oper):Bool :=
 match qB o.op with
 | none=>true
 | some (t,x)=>bif !(okX nt gl x)then false else match ev fr x,cU P t,I4 P t with
   | .pointer (some a),some _,some s=>match a.spot,Hp.get H a.block with
     | none,some (.cells cs _ false)=>Nat.ble (a.off+s) cs.length && (Nat.blt a.off cs.length && Nat.ble a.block I7)
     | _,_=>false
   | _,_,_=>false
def A6N(fr:Fr)(a b:Oper):Bool :=
 bif jQ a.op || jQ b.op then match qB a.op,qB b.op with
  | some (_,x),some (_,y)=>match ev fr x,ev fr y with
    | .pointer (some p),.pointer (some q)=>!(Nat.beq p.block q.block)
    | _,_=>false
  | _,_=>true else true
def pB(P:Program)(nt gl:Nat)(fr:Fr)(H:Hp AB)(l:List Oper):Bool:=l.all (A4L P nt gl fr H) && LW (A6N fr) l
structure jZ where
 run:S→Option (Ex×S)
def IJ(f:jZ):Nat→S→Option (Ex×S)
 | 0,_=>none
 | n+1,s=>match f.run s with
   | some (.normal,s)=>IJ f n s
   | r=>r
def A6A(a b:jZ)(s:S):Option (Ex×S) :=
 match a.run s with
 | some (.normal,s)=>b.run s
 | r=>r
def TJ(c:XC)(a b:jZ)(s:S):Option (Ex×S) :=
 match c.run s.fr with
 | .bool true=>a.run s
 | .bool false=>b.run s
 | v=>match s with
   | ⟨fr,⟨H,n,W,hi,lg⟩⟩=>match brL lg v with
     | some (true,lg)=>a.run ⟨fr,⟨H,n,W,hi,lg⟩⟩
     | some (false,lg)=>b.run ⟨fr,⟨H,n,W,hi,lg⟩⟩
     | none=>none
def FG(id:Nat)(c:jZ)(s:S):Option (Ex×S) :=
 match c.run s with
 | some (.exit j,s)=>bif Nat.beq j id then some (.normal,s)else some (.exit j,s)
 | r=>r
def x4(r:A6U)(s:S):Option (Ex×S) :=
 match r.run s with
 | some s=>some (.normal,s)
 | none=>none
structure LpT where
 me:FuncId
 look:List Bool→Option (S→Option (Ex×S))
def IK(c:jZ)(L:S→Option (Ex×S)):Nat→S→Option (Ex×S)
 | 0,_=>none
 | n+1,s=>match L s with
   | some r=>some r
   | none=>match c.run s with
     | some (.normal,s)=>IK c L n s
     | r=>r
def TH(c:jZ)(l:Option (S→Option (Ex×S)))(s:S):Option (Ex×S) :=
 match l with
 | some f=>IK c f 4 s
 | none=>IJ c 1000000 s
def frL(fr:Fr):Nat→Nat→D5
 | _,0=>[]
 | i,n+1=>fr.get i::frL fr (i+1) n
def B1G:Value→Nat
 | .pointer (some a)=>a.block
 | _=>0
def lO(v:Value):I6 :=
 match v with
 | .func (.yield 8) ⟨l⟩ ⟨[]⟩=>l.map B1G
 | _=>[]
def exN:Ex→Nat
 | .normal=>0
 | .ret=>2
 | .exit k=>k+4
def nEx:Nat→Option Ex
 | 0=>some .normal
 | 1=>none
 | 2=>some .ret
 | 3=>none
 | k+4=>some (.exit k)
def MN:Ex→Bool
 | .normal=>true
 | _=>false
def vA(fr:Fr)(hi:Nat)(b:Nat)(r:Res):Option (Ex×S) :=
 match r with
 | some (_,m)=>match Hp.get m.H b with
   | some (.lp f q vs st)=>match nEx st with
     | some e=>bif Nat.ble hi m.hi then match hH m b (.lp f q vs 3)with
       | some m=>some (e,⟨fr,m⟩)
       | none=>none else none
     | none=>none
   | _=>none
 | none=>none
def vU(P:Program)(f:FuncId):Bool :=
 match P.funcs.toList[f]? with
 | some fn=>match fn.body with
   | some _=>true
   | none=>false
 | none=>false
def eE(P:Program)(nt:Nat)(call:T8)(f:FuncId)(q:List Bool)(g:Value)(fr:Fr)(m:Mem):Option (Ex×S) :=
 V6 (frL fr 0 nt) fun vs=>match x8 m (.lp f q vs 0) yv with
 | some (v,m1)=>match BQ g [v],gQ v with
   | some (k,as),some b=>bif vU P k then vA fr m1.hi b ((call.fn k).run as m1)else none
   | _,_=>none
 | none=>none
def FE(P:Program)(nt:Nat)(call:T8)(f:FuncId)(q:List Bool)(x:XC)(s:S):Option (Ex×S) :=
 match s with
 | ⟨fr,m⟩=>bif Nat.ble nt 510 then match gQ (fr.get 511)with
   | some b0=>match Hp.get m.H b0 with
     | some (.lp _ _ _ 1)=>eE P nt call f q (x.run fr) fr m
     | _=>none
   | none=>bif rJ (fr.get 511)then match x8 m (.dfr true) (fun b=>.pointer (some ⟨b,0,none⟩))with
      | some (.pointer (some a),m1)=>V6 (lO (fr.get 510)) fun l=>zZ (sel 7) (sel 7) (sel 6) (dv (a.block::l)) fr fun fr2=>eE P nt call f q (x.run fr) fr2 m1
      | _=>none else none
   else none
def R8(P:Program)(nt gl:Nat)(call:T8)(lp:LpT):List Bool→Code→jZ
 | _,.skip=>⟨fun s=>some (.normal,s)⟩
 | _,.label _=>⟨fun s=>some (.normal,s)⟩
 | _,.region _ ops d=>match d with
   | false=>⟨fun s=>x4 (Z9 P nt gl call ops.toList ops.toList) s⟩
   | true=>bif NL ops then bif oS ops.toList then⟨fun s=>bif pB P nt gl s.fr s.m.H ops.toList then x4 (Z9 P nt gl call ops.toList ops.toList) s else x4 ⟨bM P nt gl call ops.toList ops.toList 0 (x9 ops.toList []) [] []⟩ s⟩
     else⟨fun s=>x4 ⟨bM P nt gl call ops.toList ops.toList 0 (x9 ops.toList []) [] []⟩ s⟩else⟨fun _=>none⟩
 | q,.seq a b=>⟨fun s=>A6A (R8 P nt gl call lp (q++[false]) a) (R8 P nt gl call lp (q++[true]) b) s⟩
 | q,.cond c a b=>bif okX nt gl c then⟨fun s=>TJ (X6 c) (R8 P nt gl call lp (q++[false]) a) (R8 P nt gl call lp (q++[true]) b) s⟩else⟨fun _=>none⟩
 | q,.block id c=>⟨fun s=>FG id (R8 P nt gl call lp (q++[false]) c) s⟩
 | q,.loop c=>⟨fun s=>TH (R8 P nt gl call lp (q++[false]) c) (lp.look q) s⟩
 | q,.rangeFunc x _ _ _=>bif okX nt gl x then⟨fun s=>FE P nt call lp.me q (X6 x) s⟩else⟨fun _=>none⟩
 | q,.scope c=>R8 P nt gl call lp (q++[false]) c
 | _,.exit id=>⟨fun s=>some (.exit id,s)⟩
 | _,.ret=>⟨fun s=>some (.ret,s)⟩
 | _,_=>⟨fun _=>none⟩
def WI(ids:Value→List Nat):D5→I6
 | []=>[]
 | v::r=>ids v++WI ids r
def MS:Nat→Value→I6
 | 0,_=>[]
 | _+1,.pointer (some a)=>[a.block]
 | _+1,.slice (some a) _ _=>[a.block]
 | _+1,.map (some b)=>[b]
 | d+1,.func _ a b=>WI (MS d) a.toList++WI (MS d) b.toList
 | d+1,.iface _ v=>MS d v
 | d+1,.agg cs=>WI (MS d) cs.toList
 | d+1,.tuple cs=>WI (MS d) cs.toList
 | _+1,_=>[]
def B68:AB→I6
 | .cells cs _ _=>WI (MS 10) cs
 | .mp _ _ _=>[]
 | .iter _ _=>[]
 | .lp _ _ vs _=>WI (MS 10) vs
 | .dfr _=>[]
 | .sq _ _ _ g _=>[g]
 | .frz=>[]
def QH(n0:Nat)(H:Hp AB):Nat→I6→I6→I6
 | 0,_,acc=>acc
 | _+1,[],acc=>acc
 | f+1,b::r,acc=>bif Nat.blt b n0 || cF acc b then QH n0 H f r acc else match Hp.get H b with
   | some ab=>QH n0 H f (B68 ab++r) (b::acc)
   | none=>QH n0 H f r acc
def iJ(H' H:Hp AB):I6→Hp AB
 | []=>H
 | b::r=>Hp.put H b (Hp.get H' b) fun H=>iJ H' H r
def wOf(H:Hp AB):I6→I6
 | []=>[]
 | b::r=>(match Hp.get H b with|some ab=>B68 ab|none=>[])++wOf H r
def sN:I6→I6→I6
 | [],acc=>acc
 | b::r,acc=>bif cF acc b then sN r acc else sN r (b::acc)
def xG(low:Value→Bool):D5→Bool
 | []=>true
 | v::r=>low v && xG low r
def dK(n:Nat):Nat→Value→Bool
 | 0,_=>false
 | _+1,.pointer (some a)=>Nat.blt a.block n
 | _+1,.slice (some a) _ _=>Nat.blt a.block n
 | _+1,.map (some b)=>Nat.blt b n
 | d+1,.func _ a b=>xG (dK n d) a.toList && xG (dK n d) b.toList
 | d+1,.iface _ v=>dK n d v
 | d+1,.agg cs=>xG (dK n d) cs.toList
 | d+1,.tuple cs=>xG (dK n d) cs.toList
 | _+1,.complex _ _ _=>true
 | _+1,v=>K2 v
def A7v(n:Nat):Option AB→Bool
 | none=>true
 | some (.cells cs _ _)=>xG (dK n 10) cs
 | some (.mp _ _ _)=>true
 | some (.iter _ _)=>true
 | some (.lp _ _ vs _)=>xG (dK n 10) vs
 | some (.dfr _)=>true
 | some (.sq _ _ _ g _)=>Nat.blt g n
 | some .frz=>true
def VZ(n:Nat)(H:Hp AB):I6→Bool
 | []=>true
 | b::r=>A7v n (Hp.get H b) && VZ n H r
def gcM(m m':Mem)(v:Value):Option Mem :=
 let W:=sN (m'.W.filter fun b=>Nat.blt b m.n || Nat.ble m'.hi b) []
 bif dK m.n 10 v && VZ m.n m'.H W then
  bif NW W then NA (iJ m'.H m.H W) fun H=>M1 m'.hi fun hi=>V6 (W++m.W) fun W=>some ⟨H,m.n,W,hi,m'.lg⟩else none
 else
  let ids:=(QH m.n m'.H 100000 (MS 10 v++wOf m'.H W) []).filter fun b=>Nat.ble m.n b && Nat.blt b m'.hi
  bif NW (W++ids)then NA (iJ m'.H m.H (W++ids)) fun H=>M1 m'.n fun n=>M1 m'.hi fun hi=>V6 (W++m.W) fun W=>some ⟨H,n,W,hi,m'.lg⟩else none
def B5s(P:Program)(nt:Nat)(s:S):ResultVar→V7
 | .tmp t=>bif Nat.blt t nt then some (s.fr.get t)else none
 | .cell a t=>bif Nat.blt a nt then match s.fr.get a with
   | .pointer (some a)=>ZV P s.m t a
   | _=>none else none
def A1Q(P:Program)(nt:Nat)(s:S):List ResultVar→Option D5
 | []=>some []
 | r::rs=>match B5s P nt s r,A1Q P nt s rs with
   | some v,some vs=>some (v::vs)
   | _,_=>none
def A1P(fn:Func)(P:Program)(s:S):V7 :=
 match A1Q P fn.ntmps s fn.results.toList with
 | some [v]=>some v
 | some vs=>some (.tuple ⟨vs⟩)
 | none=>none
def iU(fr:Fr):Nat→D5→Fr
 | _,[]=>fr
 | i,v::r=>zZ (sel (i / 64%8)) (sel (i / 8%8)) (sel (i%8)) v fr fun fr=>iU fr (i+1) r
def xN(l:List UInt8)(c:UInt8):Nat→Int
 | i=>match l with
   | [] => -1
   | b::r=>bif decide (b=c)then(i:Int)else xN r c (i+1)
def countB(c:UInt8):List UInt8→Nat→Nat
 | [],n=>n
 | b::r,n=>bif decide (b=c)then M1 (n+1) (countB c r)else countB c r n
def sY(k:EK)(args:List Value)(m:Mem):Res :=
 match k,args with
 | .noEscape,[v]=>some (v,m)
 | .indexByteString,[.string s,.int .u8 (.ofNat c)]=>some (.int .i64 (xN s.data.toList (UInt8.ofNat c) 0),m)
 | .countString,[.string s,.int .u8 (.ofNat c)]=>some (.int .i64 (countB (UInt8.ofNat c) s.data.toList 0),m)
 | .makeNoZero e,[.int .i64 (.ofNat n)]=>bif Nat.ble n 1000000000 then x8 m (.cells [] e false) fun b=>.slice (some ⟨b,0,none⟩) n R5 else none
 | _,_=>none
def uF:I6→Mem→Option Mem
 | [],m=>some m
 | b::r,m=>match Hp.get m.H b with
   | some (.dfr true)=>match hH m b (.dfr false)with
     | some m=>uF r m
     | none=>none
   | _=>none
def dvG(nt:Nat)(fr:Fr):I6:=bif Nat.ble nt 510 then lO (fr.get 510)else[]
def B4b(fn:Func)(P:Program)(m:Mem)(r:Option (Ex×S)):Res :=
 match r with
 | some (.normal,⟨fr,m1⟩)|some (.ret,⟨fr,m1⟩)=>match uF (dvG fn.ntmps fr) m1 with
   | some m1=>match A1P fn P ⟨fr,m1⟩with
     | some v=>match gcM m m1 v with
       | some m=>some (v,m)
       | none=>none
     | none=>none
   | none=>none
 | _=>none
def UX(c:jZ)(fr:Fr)(m:Mem):Option (Ex×S) :=
 match m with
 | ⟨H,n,_,hi,lg⟩=>c.run ⟨fr,⟨H,n,[],hi,lg⟩⟩
def zP(fn:Func)(P:Program)(c:jZ)(args:List Value)(m:Mem):Res :=
 bif Nat.ble args.length fn.ntmps && Nat.ble fn.ntmps 512 then B4b fn P m (UX c (iU fr0 0 args) m)else none
structure Cx where
 P:Program
 ext:List (FuncId×EK)
 gl:Nat
 con:FuncId→Option FnC
 lp:FuncId→LpT
def JT(C:Cx)(call:T8)(f:FuncId):FnC :=
 match C.P.funcs.toList[f]? with
 | none=>⟨fun _ _=>none⟩
 | some fn=>match C.con f with
   | some c=>c
   | none=>match fn.body with
     | none=>match SN C.ext f with
       | some k=>⟨sY k⟩
       | none=>⟨fun _ _=>none⟩
     | some c=>⟨zP fn C.P (R8 C.P fn.ntmps C.gl call (C.lp f) [] c)⟩
def yZ:List Tmp→D5→Fr→Option Fr
 | [],[],fr=>some fr
 | t::ts,v::vs,fr=>zZ (sel (t / 64%8)) (sel (t / 8%8)) (sel (t%8)) v fr fun fr=>yZ ts vs fr
 | _,_,_=>none
def uT(b:Nat)(r:Option (Ex×S)):Res :=
 match r with
 | some (e,⟨_,m⟩)=>match Hp.get m.H b with
   | some (.lp f q vs 1)=>M1 (exN e) fun st=>match hH m b (.lp f q vs st)with
     | some m=>some (.bool (MN e),m)
     | none=>none
   | _=>none
 | none=>none
def uS(b:Nat)(c:jZ)(r:Option (Ex×S)):Res :=
 match r with
 | some (.normal,⟨fr,m⟩)=>match Hp.get m.H b with
   | some (.lp f q vs 0)=>match hH m b (.lp f q vs 1)with
     | some m=>uT b (c.run ⟨fr,m⟩)
     | none=>none
   | _=>none
 | _=>none
def LO(C:Cx)(call:T8):FnC:=⟨fun vs m =>
 match vs with
 | []=>none
 | v::args=>match gQ v with
   | none=>none
   | some b=>match Hp.get m.H b with
     | some (.lp f q fs 0)=>match C.P.funcs.toList[f]? with
       | none=>none
       | some fn=>match fn.body with
         | none=>none
         | some body=>match H5 q body with
           | some (.rangeFunc _ ps as bd)=>bif Nat.ble fn.ntmps 510 && ps.toList.all (fun t=>Nat.blt t fn.ntmps)then match yZ ps.toList args (iU fr0 0 fs)with
             | some fr=>zZ (sel 7) (sel 7) (sel 7) v fr fun fr=>uS b (R8 C.P fn.ntmps C.gl call (C.lp f) (q++[true]) bd) ((R8 C.P fn.ntmps C.gl call (C.lp f) (q++[false]) as).run ⟨fr,m⟩)
             | none=>none else none
           | _=>none
     | _=>none⟩
def sO(C:Cx):Nat→T8
 | 0=>⟨fun _=>⟨fun _ _=>none⟩,⟨fun _ _=>none⟩⟩
 | d+1=>⟨JT C (sO C d),LO C (sO C d)⟩
end
end Go.Sx
