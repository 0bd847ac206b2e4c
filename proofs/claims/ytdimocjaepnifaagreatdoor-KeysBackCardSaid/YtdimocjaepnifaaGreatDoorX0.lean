/- The law KeysBack: for every input the call returns true, and the arguments read behind it as they read before. No condition. -/
import Derived.WalkKit
import Derived.OrdersHeld
import Derived.KernelRfl
set_option linter.all false
set_option maxRecDepth 100000
set_option maxHeartbeats 4000000
namespace Go
variable {p:Prop}
abbrev hH:=@Array.all_eq_true'
abbrev K1:=@Array.ext'
abbrev B9:=@Array.getD_eq_getD_getElem?
abbrev W1:=@Array.getElem?_append_left
abbrev H4:=@Array.getElem?_eq_getElem
abbrev D9:=@Array.getElem?_eq_some_iff
abbrev I2:=@Array.getElem?_modify
abbrev u5:=@Array.getElem?_push
abbrev jE:=@Array.getElem?_replicate
abbrev G6:=@Array.getElem?_setIfInBounds
abbrev W6:=@Array.getElem?_toList
abbrev U6:=@Array.length_toList
abbrev hU:=@Array.mapM_eq_mapM_toList
abbrev o8:=@Array.mk.injEq
abbrev Z7:=@BitVec.toNat_and
abbrev P2:=@BitVec.toNat_ofInt
abbrev I7:=@Bool.and_eq_true
abbrev V9:=@Bool.and_false
abbrev jD:=@Bool.and_true
abbrev L1:=@Bool.eq_iff_iff
abbrev Z6:=@Bool.false_and
abbrev K0:=@Bool.false_eq_true
abbrev Q4:=@Bool.false_or
abbrev Q3:=@Bool.not_true
abbrev M4:=@Bool.or_eq_false_iff
abbrev J9:=@Bool.or_eq_true
abbrev x5:=@Bool.true_and
abbrev F8:=@Decidable.not_not
abbrev gZ:=@Int.emod_lt_of_pos
abbrev eG:=@Int.emod_nonneg
abbrev fJ:=@Int.le_trans
abbrev mB:=@Int.ofNat.injEq
abbrev dS:=@Int.ofNat_eq_natCast
abbrev M0:=@Int.toNat_natCast
abbrev R5:=@Int.toNat_of_nonneg
abbrev mA:=@List.all_append
abbrev dD:=@List.all_cons
abbrev E4:=@List.all_eq_true
abbrev x4:=@List.any_cons
abbrev X8:=@List.any_eq_false
abbrev V2:=@List.any_eq_true
abbrev F3:=@List.append_assoc
abbrev y6:=@List.append_nil
abbrev O8:=@List.cons.inj
abbrev I8:=@List.cons.injEq
abbrev V1:=@List.cons_append
abbrev T4:=@List.drop_append_of_le_length
abbrev bV:=@List.drop_drop
abbrev r9:=@List.drop_eq_getElem_cons
abbrev O0:=@List.drop_eq_nil_of_le
abbrev R1:=@List.drop_zero
abbrev cT:=@List.eq_nil_iff_forall_not_mem
abbrev O2:=@List.eq_nil_of_length_eq_zero
abbrev bT:=@List.ext_getElem?
abbrev t8:=@List.filter_eq_self
abbrev eF:=@List.find?_cons
abbrev iV:=@List.flatMap_cons
abbrev B4:=@List.getD_eq_getElem?_getD
abbrev F2:=@List.getElem?_append_left
abbrev E3:=@List.getElem?_append_right
abbrev U0:=@List.getElem?_cons_succ
abbrev T9:=@List.getElem?_cons_zero
abbrev H9:=@List.getElem?_drop
abbrev A8:=@List.getElem?_eq_getElem
abbrev S0:=@List.getElem?_eq_none
abbrev hO:=@List.getElem?_eq_none_iff
abbrev B2:=@List.getElem?_eq_some_iff
abbrev H6:=@List.getElem?_map
abbrev dR:=@List.getElem?_set_ne
abbrev d8:=@List.getElem?_set_self
abbrev gY:=@List.getElem?_take
abbrev F9:=@List.getElem?_take_of_lt
abbrev K6:=@List.getElem?_toArray
abbrev N9:=@List.getElem_mem
abbrev t7:=@List.getElem_of_mem
abbrev V8:=@List.isPrefixOf_iff_prefix
abbrev A7:=@List.length_append
abbrev B3:=@List.length_cons
abbrev C9:=@List.length_drop
abbrev D3:=@List.length_eq_zero_iff
abbrev G5:=@List.length_map
abbrev D2:=@List.length_nil
abbrev R4:=@List.length_pos_iff
abbrev lZ:=@List.length_set
abbrev B7:=@List.length_singleton
abbrev D5:=@List.length_take
abbrev N4:=@List.map_append
abbrev E9:=@List.map_cons
abbrev iU:=@List.map_inj_left
abbrev J7:=@List.map_nil
abbrev qE:=@List.map_take
abbrev B5:=@List.mem_append
abbrev S9:=@List.mem_append_left
abbrev j8:=@List.mem_append_right
abbrev C6:=@List.mem_cons
abbrev C7:=@List.mem_cons_of_mem
abbrev C5:=@List.mem_cons_self
abbrev R7:=@List.mem_filter
abbrev R0:=@List.mem_map
abbrev E6:=@List.mem_of_getElem?
abbrev M3:=@List.mem_of_mem_drop
abbrev N3:=@List.mem_of_mem_take
abbrev bS:=@List.mem_range
abbrev H8:=@List.mem_singleton
abbrev O9:=@List.nil_append
abbrev M7:=@List.not_mem_nil
abbrev W5:=@List.take_append_drop
abbrev G8:=@List.take_append_of_le_length
abbrev lY:=@List.take_left'
abbrev cS:=@List.take_length
abbrev H1:=@List.take_of_length_le
abbrev bR:=@List.take_take
abbrev dC:=@Nat.add_assoc
abbrev lN:=@Nat.add_comm
abbrev I5:=@Nat.add_mul
abbrev T8:=@Nat.add_sub_cancel_left
abbrev kI:=@Nat.and_le_right
abbrev fI:=@Nat.beq_refl
abbrev rG:=@Nat.ble_eq
abbrev C8:=@Nat.ble_eq_true_of_le
abbrev A0:=@Nat.eq_of_beq_eq_true
abbrev V7:=@Nat.eq_zero_or_pos
abbrev A2:=@Nat.le_of_ble_eq_true
abbrev lM:=@Nat.le_of_lt
abbrev B0:=@Nat.le_refl
abbrev c8:=@Nat.le_succ
abbrev C4:=@Nat.le_trans
abbrev gX:=@Nat.lt_of_le_of_lt
abbrev E1:=@Nat.lt_of_lt_of_le
abbrev G4:=@Nat.lt_or_ge
abbrev K3:=@Nat.lt_succ_self
abbrev P7:=@Nat.mod_eq_of_lt
abbrev rF:=@Nat.mod_lt
abbrev q9:=@Nat.mul_comm
abbrev aJ:=@Nat.mul_div_cancel
abbrev oP:=@Nat.mul_le_mul
abbrev G2:=@Nat.mul_le_mul_right
abbrev iT:=@Nat.one_mul
abbrev fH:=@Nat.sub_self
abbrev m5:=@Nat.succ_le_of_lt
abbrev eN:=@Nat.testBit_two_pow
abbrev G0:=@Nat.zero_add
abbrev U9:=@Nat.zero_le
abbrev lL:=@Nat.zero_mul
abbrev A9:=@Option.bind_eq_some_iff
abbrev D8:=@Option.bind_some
abbrev cR:=@Option.getD_some
abbrev bQ:=@Option.map_eq_some_iff
abbrev M6:=@Option.map_some
abbrev B1:=@Option.some.inj
abbrev D7:=@Option.some.injEq
abbrev O1:=@Option.some_ne_none
abbrev O7:=@Prod.mk.injEq
abbrev A6:=@Sem.run_bind
abbrev E7:=@cond_false
abbrev F0:=@cond_true
abbrev H3:=@congrArg
abbrev F6:=@decide_eq_false
abbrev F4:=@decide_eq_true
abbrev A3:=@if_neg
abbrev A4:=@if_pos
abbrev J0:=@of_decide_eq_true
def D0(h:p:=by kernel_rfl):p:=h
def U4{α:Type}{a:Option α}{b c:α}(h:a=some b)(e:b=c:=by kernel_rfl):a=some c:=h.trans (by rw[e])
def A1(h:p:=by omega):p:=h
def C3(h:p:=by decide):p:=h
end Go
namespace Go.Sx
section
open Go
abbrev D4:=List Value
abbrev I1:=List Nat
abbrev T5:=Option Value
abbrev Z5:=Array Value
structure N8 (α:Type) where
 c0:α
 c1:α
 c2:α
 c3:α
 c4:α
 c5:α
 c6:α
 c7:α
structure Sel where
 get:{α:Type}→N8 α→α
 upd:{α β:Type}→N8 α→α→(N8 α→β)→β
def sel:Nat→Sel
 | 0=>⟨fun n=>n.c0,fun n v k=>match n with|⟨a0,a1,a2,a3,a4,a5,a6,a7⟩=>k ⟨v,a1,a2,a3,a4,a5,a6,a7⟩⟩
 | 1=>⟨fun n=>n.c1,fun n v k=>match n with|⟨a0,a1,a2,a3,a4,a5,a6,a7⟩=>k ⟨a0,v,a2,a3,a4,a5,a6,a7⟩⟩
 | 2=>⟨fun n=>n.c2,fun n v k=>match n with|⟨a0,a1,a2,a3,a4,a5,a6,a7⟩=>k ⟨a0,a1,v,a3,a4,a5,a6,a7⟩⟩
 | 3=>⟨fun n=>n.c3,fun n v k=>match n with|⟨a0,a1,a2,a3,a4,a5,a6,a7⟩=>k ⟨a0,a1,a2,v,a4,a5,a6,a7⟩⟩
 | 4=>⟨fun n=>n.c4,fun n v k=>match n with|⟨a0,a1,a2,a3,a4,a5,a6,a7⟩=>k ⟨a0,a1,a2,a3,v,a5,a6,a7⟩⟩
 | 5=>⟨fun n=>n.c5,fun n v k=>match n with|⟨a0,a1,a2,a3,a4,a5,a6,a7⟩=>k ⟨a0,a1,a2,a3,a4,v,a6,a7⟩⟩
 | 6=>⟨fun n=>n.c6,fun n v k=>match n with|⟨a0,a1,a2,a3,a4,a5,a6,a7⟩=>k ⟨a0,a1,a2,a3,a4,a5,v,a7⟩⟩
 | _=>⟨fun n=>n.c7,fun n v k=>match n with|⟨a0,a1,a2,a3,a4,a5,a6,a7⟩=>k ⟨a0,a1,a2,a3,a4,a5,a6,v⟩⟩
def rE{α:Type}(v:α):N8 α:=⟨v,v,v,v,v,v,v,v⟩
def JG{α β:Type}(n:N8 α)(k:N8 α→β):β :=
 match n with
 | ⟨a0,a1,a2,a3,a4,a5,a6,a7⟩=>k ⟨a0,a1,a2,a3,a4,a5,a6,a7⟩
abbrev Fr:=N8 (N8 (N8 Value))
def Fr.get(fr:Fr)(t:Nat):Value:=(sel (t%8)).get ((sel (t / 8%8)).get ((sel (t / 64%8)).get fr))
def xR{β:Type}(a b c:Sel)(v:Value)(fr:Fr)(k:Fr→β):β :=
 c.upd (b.get (a.get fr)) v fun n2=>b.upd (a.get fr) n2 fun n1=>a.upd fr n1 k
def Fr.set(fr:Fr)(t:Nat)(v:Value):Fr:=xR (sel (t / 64%8)) (sel (t / 8%8)) (sel (t%8)) v fr fun fr=>fr
def fr0:Fr:=rE (rE (rE (.tuple #[])))
abbrev Hp(α:Type):=N8 (N8 (N8 (N8 (N8 (N8 (Option α))))))
def Hp.get{α:Type}(h:Hp α)(n:Nat):Option α :=
 (sel (n%8)).get ((sel (n / 8%8)).get ((sel (n / 64%8)).get ((sel (n / 512%8)).get ((sel (n / 4096%8)).get ((sel (n / 32768%8)).get h)))))
def cL{α β:Type}(a b c d e f:Sel)(v:Option α)(h:Hp α)(k:Hp α→β):β :=
 f.upd (e.get (d.get (c.get (b.get (a.get h))))) v fun n5=>e.upd (d.get (c.get (b.get (a.get h)))) n5 fun n4=>d.upd (c.get (b.get (a.get h))) n4 fun n3=>c.upd (b.get (a.get h)) n3 fun n2=>b.upd (a.get h) n2 fun n1=>a.upd h n1 k
def Hp.put{α β:Type}(h:Hp α)(n:Nat)(v:Option α)(k:Hp α→β):β :=
 cL (sel (n / 32768%8)) (sel (n / 4096%8)) (sel (n / 512%8)) (sel (n / 64%8)) (sel (n / 8%8)) (sel (n%8)) v h k
def Hp.set{α:Type}(h:Hp α)(n:Nat)(v:Option α):Hp α:=h.put n v fun h=>h
def hp0{α:Type}:Hp α:=rE (rE (rE (rE (rE (rE none)))))
def I4:Nat:=262143
def L2{β:Type}(n:Nat)(k:Nat→β):β :=
 match n with
 | 0=>k 0
 | m+1=>k (Nat.succ m)
def BP{β:Type}(i:Int)(k:Int→β):β :=
 match i with
 | .ofNat n=>L2 n fun n=>k (.ofNat n)
 | .negSucc n=>L2 n fun n=>k (.negSucc n)
def U2{α β:Type}:List α→(List α→β)→β
 | [],k=>k []
 | x::r,k=>U2 r fun r=>k (x::r)
def QO:IntKind→Nat
 | .i8=>127|.i16=>32767|.i32=>2147483647|.i64=>9223372036854775807
 | .u8=>255|.u16=>65535|.u32=>4294967295|.u64=>18446744073709551615
def DY(k:IntKind)(n:Int):Int :=
 match n with
 | .ofNat m=>bif Nat.ble m (QO k)then .ofNat m else k.wrap (.ofNat m)
 | .negSucc m=>k.wrap (.negSucc m)
def B3_(a b:Int):Int :=
 match a,b with
 | .ofNat m,.ofNat n=>.ofNat (Nat.add m n)
 | a,b=>a+b
def A9p(a b:Int):Int :=
 match a,b with
 | .ofNat m,.ofNat n=>bif Nat.ble n m then .ofNat (Nat.sub m n)else .ofNat m - .ofNat n
 | a,b=>a-b
def B2c(a b:Int):Int :=
 match a,b with
 | .ofNat m,.ofNat n=>.ofNat (Nat.mul m n)
 | a,b=>a*b
def ltF(a b:Int):Bool :=
 match a,b with
 | .ofNat m,.ofNat n=>Nat.blt m n
 | .negSucc _,.ofNat _=>true
 | .ofNat _,.negSucc _=>false
 | .negSucc m,.negSucc n=>Nat.blt n m
def leF(a b:Int):Bool :=
 match a,b with
 | .ofNat m,.ofNat n=>Nat.ble m n
 | .negSucc _,.ofNat _=>true
 | .ofNat _,.negSucc _=>false
 | .negSucc m,.negSucc n=>Nat.ble n m
def DT(a b:Int):Bool :=
 match a,b with
 | .ofNat m,.ofNat n=>Nat.beq m n
 | .negSucc m,.negSucc n=>Nat.beq m n
 | _,_=>false
def AH:IntKind→IntKind→Bool
 | .i8,.i8|.i16,.i16|.i32,.i32|.i64,.i64|.u8,.u8|.u16,.u16|.u32,.u32|.u64,.u64=>true
 | _,_=>false
def mkI(k:IntKind)(n:Int):Value:=BP n fun n=>.int k n
inductive U where
 | none
 | int (k:IntKind) (n:Int)
 | bool (b:Bool)
 | str (s:List UInt8)
 | seq (nul:Bool) (w:Nat) (rows:List (List U))
inductive LOp where
 | bin (op:BinOp)
 | un (op:UnOp)
 | conv (k:IntKind)
 | len
 | idx
 | sub
 | sub1
 | sel
 | eqs
 | inb
 | max
 | min
 | mks
 | inbs (w:Nat)
 | get (w o:Nat)
 | mk (w:Nat)
 | nilw (w:Nat)
 | nilp
 | snoc (w:Nat)
 | cat (w:Nat)
 | cats
 | set (w o:Nat)
 | subs (w:Nat)
 | str
 | byt
 | rep (w:Nat)
 | ustr
 | mhas (w kw:Nat)
 | mget (w kw o:Nat)
 | mput (w kw:Nat)
inductive o7 where
 | lt (i t:Nat) (op:LOp) (xs:List Value)
 | dt (i t:Nat) (op:LOp) (xs:List Value)
 | br (i:Nat) (b:Bool)
 | as (op:LOp) (xs:List Value)
 | con (spec:List U→Option (Nat×List U)) (xs:List Value) (i d n:Nat)
structure Lg where
 nx:Nat
 pi:I1
 log:List o7
def hole(i t:Nat):Value:=.complex .f64 i t
def junk:Value:=.complex .f32 0 0
def ixp(a:Addr)(s:Nat)(i:Value)(n:Nat):Value:=.func (.yield 1) ⟨[.pointer (some a),.int .i64 (.ofNat s),i,.int .i64 (.ofNat n)]⟩ ⟨[]⟩
def dat(b i t:Nat):Value:=.func (.yield 2) ⟨[.pointer (some ⟨b,0,none⟩),.complex .f64 i t]⟩ ⟨[]⟩
def clp(b i t:Nat):Value:=.func (.yield 3) ⟨[.pointer (some ⟨b,0,none⟩),.complex .f64 i t]⟩ ⟨[]⟩
def own(b i t:Nat):Value:=.func (.yield 4) ⟨[.pointer (some ⟨b,0,none⟩),.complex .f64 i t]⟩ ⟨[]⟩
def dpt(b i t:Nat)(z:Value)(o:Nat):Value:=.func (.yield 5) ⟨[.pointer (some ⟨b,0,none⟩),.complex .f64 i t,z,.int .i64 (.ofNat o)]⟩ ⟨[]⟩
def opt(b i t:Nat)(z:Value)(o:Nat):Value:=.func (.yield 6) ⟨[.pointer (some ⟨b,0,none⟩),.complex .f64 i t,z,.int .i64 (.ofNat o)]⟩ ⟨[]⟩
def yv(b:Nat):Value:=.func (.yield 7) ⟨[.pointer (some ⟨b,0,none⟩)]⟩ ⟨[]⟩
def sdt(b:Nat):Value:=.func (.yield 9) ⟨[.pointer (some ⟨b,0,none⟩)]⟩ ⟨[]⟩
def dv(ids:List Nat):Value:=.func (.yield 8) ⟨ids.map fun b=>.pointer (some ⟨b,0,none⟩)⟩ ⟨[]⟩
def A2b:Value→Bool
 | .complex .f32 _ _=>true
 | _=>false
def one:Value:=.complex .f32 1 0
def lD:Value→Bool
 | .complex .f32 i _=>!(Nat.beq i 1)
 | _=>false
def jV:IntKind→Nat
 | .i8=>0|.i16=>1|.i32=>2|.i64=>3|.u8=>4|.u16=>5|.u32=>6|.u64=>7
def H5:Value→Nat
 | .int k _=>jV k
 | .bool _=>8
 | .string _=>9
 | .complex .f64 _ t=>t
 | _=>99
inductive AB where
 | cells (cs:List Value) (T:TypeId) (ro:Bool)
 | sq (c t:Nat) (T:TypeId) (g:Nat) (ro:Bool)
 | frz
 | mp (c t:Nat) (T:TypeId)
 | iter (s:ByteArray) (pos:Nat)
 | lp (f:FuncId) (q:List Bool) (vs:List Value) (st:Nat)
 | dfr (b:Bool)
structure Mem where
 H:Hp AB
 n:Nat
 W:I1
 hi:Nat
 lg:Lg
structure S where
 fr:Fr
 m:Mem
inductive Ex where
 | normal
 | exit (id:Nat)
 | ret
def I0:List Bool→Code→Option Code
 | [],c=>some c
 | false::q,.seq a _=>I0 q a
 | true::q,.seq _ b=>I0 q b
 | false::q,.cond _ a _=>I0 q a
 | true::q,.cond _ _ b=>I0 q b
 | false::q,.block _ c=>I0 q c
 | false::q,.scope c=>I0 q c
 | false::q,.loop c=>I0 q c
 | false::q,.rangeFunc _ _ a _=>I0 q a
 | true::q,.rangeFunc _ _ _ b=>I0 q b
 | _::_,_=>none
def O6:Nat:=9223372036854775808
def J1:Value→Bool
 | .bool _|.int _ _|.string _|.pointer none|.slice none _ _|.map none|.nilFunc|.nilIface=>true
 | _=>false
def UN:Value→Bool
 | .agg cs=>cs.toList.all J1
 | v=>J1 v
def ev(fr:Fr):Operand→Value
 | .tmp t=>fr.get t
 | .const v=>v
 | .global g=>.pointer (some ⟨g,0,none⟩)
 | .func f=>.func (.func f) #[] #[]
def okX(nt gl:Nat):Operand→Bool
 | .tmp t=>Nat.blt t nt
 | .const v=>UN v
 | .global g=>Nat.blt g gl
 | .func _=>true
def evL(fr:Fr):List Operand→D4
 | []=>[]
 | x::r=>ev fr x::evL fr r
def evP(fr:Fr):List (Nat×Operand)→List (Nat×Value)
 | []=>[]
 | (i,x)::r=>(i,ev fr x)::evP fr r
def evO(fr:Fr):Option Operand→T5
 | none=>none
 | some x=>some (ev fr x)
structure XC where
 run:Fr→Value
def B53(a b c:Sel):XC:=⟨fun fr=>c.get (b.get (a.get fr))⟩
def U8:Operand→XC
 | .tmp t=>B53 (sel (t / 64%8)) (sel (t / 8%8)) (sel (t%8))
 | .const v=>⟨fun _=>v⟩
 | .global g=>⟨fun _=>.pointer (some ⟨g,0,none⟩)⟩
 | .func f=>⟨fun _=>.func (.func f) #[] #[]⟩
def fQ(x:Operand)(fr:Fr):(U8 x).run fr=ev fr x:=by cases x<;>rfl
structure LC where
 run:Fr→D4
def B3q(x:XC)(r:LC)(fr:Fr):D4:=x.run fr::r.run fr
def xG:List Operand→LC
 | []=>⟨fun _=>[]⟩
 | x::r=>⟨fun fr=>B3q (U8 x) (xG r) fr⟩
def pP(fr:Fr):∀ xs:List Operand,(xG xs).run fr=evL fr xs
 | []=>rfl
 | x::r=>by
   show(U8 x).run fr::(xG r).run fr=_;rw[fQ,pP fr r];rfl
abbrev Res:=Option (Value×Mem)
def upN(hi n:Nat):Nat:=bif Nat.blt n hi then hi else Nat.succ n
def Mem.wLg(m:Mem)(lg:Lg):Mem :=
 match m with
 | ⟨H,n,W,hi,_⟩=>⟨H,n,W,hi,lg⟩
def Z1(m:Mem)(t:Nat)(op:LOp)(xs:List Value):Res :=
 match m with
 | ⟨H,n,W,hi,⟨nx,pi,log⟩⟩=>L2 nx fun nx=>L2 t fun t=>U2 xs fun xs=>some (hole nx t,⟨H,n,W,hi,⟨Nat.succ nx,pi,.lt nx t op xs::log⟩⟩)
def xV(m:Mem)(t:Nat)(op:LOp)(xs:List Value)(k:Nat→Mem→Res):Res :=
 match m with
 | ⟨H,n,W,hi,⟨nx,pi,log⟩⟩=>L2 nx fun nx=>L2 t fun t=>U2 xs fun xs=>k nx ⟨H,n,W,hi,⟨Nat.succ nx,pi,.dt nx t op xs::log⟩⟩
def BV:List o7→Nat→Option Bool
 | [],_=>none
 | .br j b::r,i=>bif Nat.beq j i then some b else BV r i
 | _::r,i=>BV r i
def brL(lg:Lg)(c:Value):Option (Bool×Lg) :=
 match c with
 | .bool b=>some (b,lg)
 | .complex .f64 i 8=>match lg with
   | ⟨nx,pi,log⟩=>match BV log i with
     | some b=>some (b,⟨nx,pi,log⟩)
     | none=>match pi with
       | 1::r=>some (true,⟨nx,r,.br i true::log⟩)
       | 0::r=>some (false,⟨nx,r,.br i false::log⟩)
       | _=>none
 | _=>none
def p9(m:Mem)(ab:AB)(k:Nat→Value):Res :=
 match m with
 | ⟨H,n,W,hi,lg⟩=>bif Nat.ble n I4 then L2 n fun n=>L2 (upN hi n) fun hi=>Hp.put H n (some ab) fun H=>some (k n,⟨H,Nat.succ n,W,hi,lg⟩)else none
def gA(m:Mem)(id:Nat)(ab:AB):Option Mem :=
 match m with
 | ⟨H,n,W,hi,lg⟩=>bif Nat.ble id I4 then Hp.put H id (some ab) fun H=>L2 id fun id=>some ⟨H,n,id::W,hi,lg⟩else none
def lS(m:Mem)(id:Nat):Mem :=
 match m with
 | ⟨H,n,W,hi,lg⟩=>Hp.put H id none fun H=>L2 id fun id=>⟨H,n,id::W,hi,lg⟩
def uC(cs:List Value)(o n:Nat):Option D4 :=
 let r:=(cs.drop o).take n
 bif Nat.beq r.length n then some r else none
def aO(m:Mem)(a:Addr)(n:Nat):Option D4 :=
 match a.spot,Hp.get m.H a.block with
 | none,some (.cells cs _ _)=>uC cs a.off n
 | _,_=>none
def dG:D4→Nat→D4→D4
 | cs,_,[]=>cs
 | cs,k,v::r=>dG (cs.set k v) (k+1) r
def flat:Value→Bool
 | .agg _|.tuple _=>false
 | .complex .f32 i _=>Nat.beq i 1
 | _=>true
def qF(m:Mem)(a:Addr)(vs:List Value):Option Mem :=
 match a.spot,Hp.get m.H a.block with
 | none,some (.cells cs T false) =>
   bif Nat.ble (a.off+vs.length) cs.length && vs.all flat then U2 (dG cs a.off vs) fun cs=>gA m a.block (.cells cs T false)else none
 | _,_=>none
variable (P:Program)
def bF(t:TypeId):Option Bool :=
 match P.underlying t with
 | some (.struct _)|some (.array _ _)=>some true
 | some _=>some false
 | none=>none
def H7(t:TypeId):Option Nat :=
 match P.info? t with
 | some i=>some i.size
 | none=>none
def iA(t:TypeId):T5 :=
 match P.info? t with
 | some i=>match i.zero with
   | some v=>bif UN v then some v else none
   | none=>none
 | none=>none
def VD(m:Mem)(t:TypeId)(a:Addr):T5 :=
 match bF P t with
 | some true=>match H7 P t with
   | some n=>match aO m a n with
     | some cs=>some (.agg ⟨cs⟩)
     | none=>none
   | none=>none
 | some false=>match aO m a 1 with
   | some (v::_)=>some v
   | _=>none
 | none=>none
def zV(m:Mem)(t:TypeId)(a:Addr)(v:Value):Option Mem :=
 match H7 P t with
 | some n=>bif Nat.beq v.cells.size n && !(lD v)then qF m a v.cells.toList else none
 | none=>none
def sY(t:TypeId)(cs:List Value)(off:Nat):T5 :=
 match bF P t with
 | some true=>match H7 P t with
   | some n=>match uC cs off n with
     | some r=>some (.agg ⟨r⟩)
     | none=>none
   | none=>none
 | some false=>cs[off]?
 | none=>none
def A6T(e:TypeId)(s i:Nat):Field:={ name := "x",type:=e,offset:=i*s,embedded:=false,tag := "",pkgPath := "",byteOffset:=0 }
mutual
def eqM:Nat→TypeId→Value→Value→Option Bool
 | 0,_,_,_=>none
 | d+1,t,x,y=>match P.underlying t,x,y with
   | some .bool,.bool a,.bool b=>some (a == b)
   | some (.int _),.int k a,.int j b=>bif decide (k=j)then some (a == b)else none
   | some .string,.string a,.string b=>some (a.data.toList == b.data.toList)
   | some (.pointer _),.pointer none,.pointer b=>some b.isNone
   | some (.pointer _),.pointer (some _),.pointer none=>some false
   | some (.interface _),.nilIface,.nilIface=>some true
   | some (.interface _),.nilIface,.iface _ _=>some false
   | some (.interface _),.iface _ _,.nilIface=>some false
   | some (.interface _),.iface tx vx,.iface ty vy=>bif Nat.beq tx ty then(match P.info? tx with
     | some i=>bif i.comparable then eqM d tx vx vy else none
     | none=>none)else some false
   | some (.slice _),.slice none _ _,.slice b _ _=>some b.isNone
   | some (.slice _),.slice (some _) _ _,.slice none _ _=>some false
   | some (.map _ _),.map none,.map b=>some b.isNone
   | some (.func _ _ _),.nilFunc,.nilFunc=>some true
   | some (.func _ _ _),.nilFunc,.func (.func _) _ _=>some false
   | some (.func _ _ _),.func (.func _) _ _,.nilFunc=>some false
   | some (.struct fs),.agg xs,.agg ys=>bif P.stoodInHeld t then none else eqF d fs.toList xs.toList ys.toList
   | some (.array n e),.agg xs,.agg ys=>match H7 P e with
     | some s=>eqF d ((List.range n).map (A6T e s)) xs.toList ys.toList
     | none=>none
   | _,_,_=>none
def eqF:Nat→List Field→D4→D4→Option Bool
 | 0,_,_,_=>none
 | _+1,[],_,_=>some true
 | d+1,f::fs,xs,ys =>
   bif f.name == "_" then none else
   match sY P f.type xs f.offset,sY P f.type ys f.offset with
   | some x,some y=>match eqM d f.type x y with
     | some true=>eqF d fs xs ys
     | some false=>some false
     | none=>none
   | _,_=>none
end
def isC:Operand→Bool
 | .const _=>true
 | _=>false
def nS(t:TypeId)(x y:Operand)(a b:Value):Bool :=
 match a,b with
 | .nilIface,.nilIface=>isC x || isC y
 | .agg _,.agg _=>!P.eqGuardType P.depth t
 | a,b=>!(A2b a) && !(A2b b)
def CR(op:BinOp)(k:IntKind)(x y:Int):T5 :=
 match op with
 | .and=>some (.int k (k.wrap (BitVec.ofInt k.bits x &&& BitVec.ofInt k.bits y).toNat))
 | .or=>some (.int k (k.wrap (BitVec.ofInt k.bits x ||| BitVec.ofInt k.bits y).toNat))
 | .xor=>some (.int k (k.wrap (BitVec.ofInt k.bits x ^^^ BitVec.ofInt k.bits y).toNat))
 | .andNot=>some (.int k (k.wrap (BitVec.ofInt k.bits x &&& ~~~BitVec.ofInt k.bits y).toNat))
 | _=>none
def ltL:List UInt8→List UInt8→Bool
 | _,[]=>false
 | [],_::_=>true
 | a::x,b::y=>a<b || (a == b && ltL x y)
def nP(op:BinOp)(k:IntKind)(a b:Int):T5 :=
 match op with
 | .add=>some (mkI k (DY k (B3_ a b)))
 | .sub=>some (mkI k (DY k (A9p a b)))
 | .mul=>some (mkI k (DY k (B2c a b)))
 | .quo=>bif DT b 0 then none else some (mkI k (k.wrap (a.tdiv b)))
 | .rem=>bif DT b 0 then none else some (mkI k (a.tmod b))
 | .eql=>some (.bool (DT a b))
 | .neq=>some (.bool (!(DT a b)))
 | .lss=>some (.bool (ltF a b))
 | .leq=>some (.bool (leF a b))
 | .gtr=>some (.bool (ltF b a))
 | .geq=>some (.bool (leF b a))
 | op=>CR op k a b
def HU(left:Bool)(k:IntKind)(a:Int)(b:Nat):Value :=
 bif left then mkI k (k.wrap (a*2 ^ (min b k.bits)))else mkI k (a.fdiv (2 ^ (min b k.bits)))
def A0V(op:BinOp)(a b:ByteArray):T5 :=
 match op with
 | .add=>bif Nat.ble (a.size+b.size) 1000000000 then U2 (a.data.toList++b.data.toList) fun l=>some (.string ⟨⟨l⟩⟩)else none
 | .eql=>some (.bool (a.data.toList == b.data.toList))
 | .neq=>some (.bool (!(a.data.toList == b.data.toList)))
 | .lss=>some (.bool (ltL a.data.toList b.data.toList))
 | .leq=>some (.bool (ltL a.data.toList b.data.toList || (a.data.toList == b.data.toList)))
 | .gtr=>some (.bool (!(ltL a.data.toList b.data.toList || (a.data.toList == b.data.toList))))
 | .geq=>some (.bool (!(ltL a.data.toList b.data.toList)))
 | _=>none
def EU(op:BinOp)(t:TypeId)(x y:Value):T5 :=
 match op with
 | .eql=>match eqM P 20 t x y with
   | some b=>some (.bool b)
   | none=>none
 | .neq=>match eqM P 20 t x y with
   | some b=>some (.bool (!b))
   | none=>none
 | _=>none
def jW:BinOp→Option Bool
 | .shl=>some true
 | .shr=>some false
 | _=>none
def bG(op:BinOp)(k j:IntKind)(a b:Int):T5 :=
 match jW op with
 | some l=>match b with
   | .ofNat n=>some (HU l k a n)
   | .negSucc _=>none
 | none=>bif AH k j then nP op k a b else none
def uH(op:BinOp)(t:TypeId)(x y:Value):T5 :=
 match x,y with
 | .int k a,.int j b=>bG op k j a b
 | .string a,.string b=>A0V op a b
 | x,y=>EU P op t x y
def unM(op:UnOp)(x:Value):T5 :=
 match op,x with
 | .neg,.int k n=>some (mkI k (k.wrap (0-n)))
 | .xor,.int k n=>CR .xor k (if k.signed then -1 else k.max) n
 | .not,.bool b=>some (.bool !b)
 | _,_=>none
def bytesOf:D4→Option (List UInt8)
 | []=>some []
 | .int .u8 n::r=>match bytesOf r with
   | some l=>some (UInt8.ofNat n.toNat::l)
   | none=>none
 | _::_=>none
def R8(l:List UInt8):D4:=l.map fun b=>.int .u8 b.toNat
def GN(m:Mem)(s t:TypeId)(x:Value):Res :=
 match P.underlying s,P.underlying t,x with
 | some _,some (.int k),.int _ n=>some (mkI k (DY k n),m)
 | some _,some .string,.string b=>some (.string b,m)
 | some _,some .string,.int _ n=>some (.string (Utf8.encode n),m)
 | some _,some (.slice e),.string b=>match P.underlying e with
   | some (.int .u8)=>match H7 P e with
     | some 1=>U2 (R8 b.data.toList) fun cs=>p9 m (.cells cs e false) fun i=>.slice (some ⟨i,0,none⟩) b.size O6
     | _=>none
   | _=>none
 | some (.slice e),some .string,.slice none _ _=>match P.underlying e with
   | some (.int .u8)=>some (.string ByteArray.empty,m)
   | _=>none
 | some (.slice e),some .string,.slice (some a) n _=>match P.underlying e with
   | some (.int .u8)=>match aO m a n with
     | some cs=>match bytesOf cs with
       | some l=>some (.string ⟨⟨l⟩⟩,m)
       | none=>none
     | none=>none
   | _=>none
 | _,_,_=>none
def BW(place:Nat→Option (Nat×Nat))(cells:List Value):List (Nat×Value)→Option D4
 | []=>some cells
 | (i,v)::rest=>match place i with
   | none=>none
   | some (off,size) =>
     bif (Nat.beq v.cells.size size && !(lD v)) && Nat.ble (off+v.cells.size) cells.length then U2 (dG cells off v.cells.toList) fun cs=>BW place cs rest else none
def sX:List Field→Option (List (Nat×Nat))
 | []=>some []
 | f::r=>match H7 P f.type,sX r with
   | some n,some l=>some ((f.offset,n)::l)
   | _,_=>none
def MI(z:List Value):Nat→D4
 | 0=>[]
 | n+1=>z++MI z n
def HJ(e:TypeId)(n:Nat):Option D4 :=
 match H7 P e with
 | some s=>bif Nat.beq (n*s) 0 then some []else match iA P e with
   | some z=>bif Nat.beq z.cells.size s then some (MI z.cells.toList n)else none
   | none=>none
 | none=>none
def TB(t:TypeId)(parts:List (Nat×Value)):T5 :=
 match iA P t,P.underlying t with
 | some z,some (.struct fs)=>match sX P fs.toList with
   | some ps=>match BW (ps[·]?) z.cells.toList parts with
     | some cs=>some (.agg ⟨cs⟩)
     | none=>none
   | none=>none
 | some z,some (.array _ e)=>match H7 P e with
   | some s=>match BW (fun i=>some (i*s,s)) z.cells.toList parts with
     | some cs=>some (.agg ⟨cs⟩)
     | none=>none
   | none=>none
 | _,_=>none
def dO(m:Mem)(t:TypeId)(n:Nat)(parts:List (Nat×Value)):Res :=
 match P.underlying t with
 | some (.slice e)=>match H7 P e,HJ P e n with
   | some s,some zs=>bif Nat.ble (n*s) 16777216 && Nat.blt n O6 then match BW (fun i=>some (i*s,s)) zs parts with
     | some cs=>p9 m (.cells cs e false) fun i=>.slice (some ⟨i,0,none⟩) n n
     | none=>none else none
   | _,_=>none
 | _=>none
def gL(m:Mem)(t:TypeId)(l c:Value):Res :=
 match P.underlying t,l,c with
 | some (.slice e),.int _ (.ofNat l),.int _ (.ofNat c)=>match P.info? e with
   | some i=>bif Nat.ble l c && Nat.ble c 10000000 && Nat.ble (c*i.bytes) 100000000 then match HJ P e c with
     | some zs=>U2 zs fun zs=>p9 m (.cells zs e false) fun k=>.slice (some ⟨k,0,none⟩) l c
     | none=>none else none
   | none=>none
 | _,_,_=>none
def cG(a:Addr)(n:Nat):Addr:=L2 (a.off+n) fun o=>⟨a.block,o,none⟩
def dK(s:TypeId)(x:Value)(i:Nat):T5 :=
 match P.underlying s,x with
 | some (.struct fs),.pointer (some a)=>match fs.toList[i]?,a.spot with
   | some f,none=>match H7 P f.type with
     | some (_+1)=>some (.pointer (some (cG a f.offset)))
     | _=>none
   | _,_=>none
 | _,_=>none
def JJ(t:TypeId)(x:Value)(i:Nat):T5 :=
 match P.underlying t,x with
 | some (.struct fs),.agg cs=>match fs.toList[i]? with
   | some f=>sY P f.type cs.toList f.offset
   | none=>none
 | _,_=>none
def g8(t:TypeId)(x i:Value):T5 :=
 match P.underlying t,x,i with
 | some (.array n e),.pointer (some a),.int _ (.ofNat k)=>match H7 P e,a.spot with
   | some s,none=>bif Nat.blt k n then some (.pointer (some (cG a (k*s))))else none
   | _,_=>none
 | some (.slice e),.slice (some a) n _,.int _ (.ofNat k)=>match H7 P e,a.spot with
   | some s,none=>bif Nat.blt k n then some (.pointer (some (cG a (k*s))))else none
   | _,_=>none
 | _,_,_=>none
def nQ(t:TypeId)(x i:Value):T5 :=
 match P.underlying t,x,i with
 | some (.array n e),.agg cs,.int _ (.ofNat k)=>match H7 P e with
   | some s=>bif Nat.blt k n then sY P e cs.toList (k*s)else none
   | none=>none
 | some .string,.string s,.int _ (.ofNat k)=>match s.data.toList[k]? with
   | some b=>some (.int .u8 b.toNat)
   | none=>none
 | _,_,_=>none
def X0(v:Option Value)(I4 dflt:Nat):Option Nat :=
 match v with
 | none=>some dflt
 | some (.int _ (.ofNat k))=>bif Nat.ble k I4 then some k else none
 | some _=>none
def dT(t:TypeId)(x:Value)(lo hi mx:Option Value):T5 :=
 match P.underlying t,x with
 | some .string,.string s =>
   match mx,X0 hi s.size s.size with
   | none,some h=>match X0 lo h 0 with
     | some l=>some (.string ⟨⟨(s.data.toList.drop l).take (h-l)⟩⟩)
     | none=>none
   | _,_=>none
 | some (.slice e),.slice none n c =>
   match n,c,X0 mx 0 0,X0 hi 0 0,X0 lo 0 0 with
   | 0,0,some _,some _,some _=>bif (mx.isSome && hi.isNone) || (H7 P e).isNone then none else some (.slice none 0 0)
   | _,_,_,_,_=>none
 | some (.slice e),.slice (some a) n c =>
   match H7 P e,a.spot with
   | some s,none =>
     bif Nat.blt c O6 then
      match X0 mx c c with
      | some m=>match (match hi,mx with|none,some _=>none|hi,_=>X0 hi m n)with
        | some h=>match X0 lo h 0 with
          | some l=>some (.slice (some (bif Nat.beq m l then a else cG a (l*s))) (h-l) (m-l))
          | none=>none
        | none=>none
      | none=>none
     else
      match mx with
      | some _=>match hi,X0 mx n n with
        | some _,some m=>bif Nat.blt m O6 && Nat.ble c (O6+1)then match X0 hi m n with
          | some h=>match X0 lo h 0 with
            | some l=>some (.slice (some (bif Nat.beq m l then a else cG a (l*s))) (h-l) (m-l))
            | none=>none
          | none=>none else none
        | _,_=>none
      | none=>match X0 hi n n with
        | some h=>match X0 lo h 0 with
          | some 0=>some (.slice (some a) h c)
          | some (l+1)=>let l:=l+1
            bif Nat.blt l n then some (.slice (some (cG a (l*s))) (h-l) (O6+1))else some (.slice (some a) 0 (O6+2))
          | none=>none
        | none=>none
   | _,_=>none
 | some (.array n e),.pointer (some a) =>
   match H7 P e,a.spot,mx with
   | some s,none,none=>match X0 hi n n with
     | some h=>match X0 lo h 0 with
       | some l=>bif Nat.blt n O6 then some (.slice (some (bif Nat.beq n l then a else cG a (l*s))) (h-l) (n-l))else none
       | none=>none
     | none=>none
   | _,_,_=>none
 | _,_=>none
def gK(m:Mem)(s:Nat)(y:Value):Option (Nat×List Value) :=
 match y with
 | .slice none n _=>bif Nat.beq n 0 then some (0,[])else none
 | .slice (some a) n _=>match aO m a (n*s)with
   | some cs=>some (n,cs)
   | none=>none
 | .string b=>bif Nat.beq s 1 then some (b.size,R8 b.data.toList)else none
 | _=>none
def dX:TypeDesc→Bool
 | .slice _|.string=>true
 | _=>false
def uJ(m:Mem)(t t2:TypeId)(x y:Value):Res :=
 match P.underlying t,P.underlying t2 with
 | some (.slice e),some d2 =>
   bif !(dX d2)then none else
   match P.info? e,x with
   | some i,.slice a n c=>match gK m i.size y,iA P e with
     | some (k,new),some z =>
       bif Nat.ble ((3*(n+k)+4000)*i.bytes) 281474976710656 && Nat.ble (n+k) 1000000000 && Nat.beq z.cells.size i.size && new.all flat then
       bif Nat.beq k 0 then(match a with|none=>bif Nat.beq n 0 && Nat.beq c 0 then some (x,m)else none|some _=>bif Nat.ble c (O6+1) && Nat.ble n c then some (x,m)else none)else
       match a with
       | none=>bif Nat.beq n 0 && Nat.beq c 0 then U2 new fun cs=>p9 m (.cells cs e false) fun b=>.slice (some ⟨b,0,none⟩) k O6 else none
       | some ad =>
         bif Nat.blt c O6 then
          bif Nat.ble (n+k) c then
           match ad.spot,qF m (cG ad (n*i.size)) new with
           | none,some m'=>some (.slice a (n+k) c,m')
           | _,_=>none
          else match aO m ad (n*i.size)with
           | some old=>U2 (old++new) fun cs=>p9 m (.cells cs e false) fun b=>.slice (some ⟨b,0,none⟩) (n+k) O6
           | none=>none
         else bif Nat.beq c O6 && Nat.beq ad.off 0 then
          match ad.spot,Hp.get m.H ad.block with
          | none,some (.cells cs T false) =>
            bif Nat.beq cs.length (n*i.size) && Nat.beq T e && Nat.ble ad.block I4 && Nat.blt ad.block m.n then
             U2 (cs++new) fun cs=>p9 (lS m ad.block) (.cells cs e false) fun b=>.slice (some ⟨b,0,none⟩) (n+k) O6
            else none
          | _,_=>none
         else none
       else none
     | _,_=>none
   | _,_=>none
 | _,_=>none
def PH(m:Mem)(t:TypeId)(x y:Value):Res :=
 match P.underlying t,x with
 | some (.slice e),.slice a n c=>match H7 P e with
   | some s =>
     match (match y with
      | .slice none k _=>bif Nat.beq k 0 then some (0,[])else none
      | .slice (some b) k _=>match aO m b (Nat.min k n*s)with
        | some cs=>some (Nat.min k n,cs)
        | none=>none
      | .string b=>some (Nat.min b.size n,R8 (b.data.toList.take (Nat.min b.size n)))
      | _=>none:Option (Nat×List Value))with
     | some (k,cs)=>match a with
       | none=>bif Nat.beq k 0 then some (.int .i64 0,m)else none
       | some ad=>bif Nat.beq cs.length 0 then some (.int .i64 k,m)else bif Nat.ble c (O6+1)then match qF m ad cs with
         | some m'=>some (.int .i64 k,m')
         | none=>none else none
     | none=>none
   | none=>none
 | _,_=>none
def A19(m:Mem)(t:TypeId)(x:Value):T5 :=
 match P.underlying t,x with
 | some .string,.string s=>some (.int .i64 s.data.toList.length)
 | some (.array n _),_=>some (.int .i64 n)
 | some (.slice _),.slice _ n _=>some (.int .i64 n)
 | some (.map _ _),.map none=>some (.int .i64 0)
 | _,_=>none
def B1M(t:TypeId)(x:Value):T5 :=
 match P.underlying t,x with
 | some (.slice _),.slice none _ c=>some (.int .i64 c)
 | some (.slice _),.slice (some a) n c=>bif Nat.blt c O6 then some (.int .i64 c)else none
 | _,_=>none
def B0T:D4→T5
 | [.int k a,.int _ b]=>some (.int k (if b>a then b else a))
 | [.int k a,.int _ b,.int _ c]=>BP (if b>a then b else a) fun d=>some (.int k (if c>d then c else d))
 | _=>none
def B0S:D4→T5
 | [.int k a,.int _ b]=>some (.int k (if b<a then b else a))
 | [.int k a,.int _ b,.int _ c]=>BP (if b<a then b else a) fun d=>some (.int k (if c<d then c else d))
 | _=>none
def noM(v:Option Value)(m:Mem):Res :=
 match v with
 | some v=>some (v,m)
 | none=>none
def RV(m:Option Mem):Res :=
 match m with
 | some m=>some (undef,m)
 | none=>none
def UU(m:Mem)(c a b:Value):Res :=
 match c with
 | .bool true=>some (a,m)
 | .bool false=>some (b,m)
 | _=>none
def IK(m:Mem)(e:TypeId):Res :=
 match iA P e with
 | some z=>p9 m (.cells z.cells.toList e false) fun b=>.pointer (some ⟨b,0,none⟩)
 | none=>none
def A1t(m:Mem)(e:TypeId)(v:Value):Res :=
 bif v.cells.toList.all flat then p9 m (.cells v.cells.toList e false) fun b=>.pointer (some ⟨b,0,none⟩)else none
def UV(m:Mem)(t:TypeId)(v:Value):Res :=
 match v with
 | .pointer (some a)=>noM (VD P m t a) m
 | _=>none
def II(m:Mem)(t:TypeId)(x v:Value):Res :=
 match x with
 | .pointer (some a)=>RV (zV P m t a v)
 | _=>none
def A1s(m:Mem)(x:Value):Res :=
 match x with
 | .pointer (some a)=>some (.pointer (some a),m)
 | .func (.func f) a b=>some (.func (.func f) a b,m)
 | _=>none
def BL:BinOp→Bool
 | .eql|.neq=>true
 | _=>false
def A5G(m:Mem)(op:BinOp)(t:TypeId)(x y:Operand)(a b:Value):Res :=
 bif BL op then(bif nS P t x y a b then noM (uH P op t a b) m else none)else noM (uH P op t a b) m
def IJ(m:Mem)(t:TypeId)(v:Value):Res :=
 match P.underlying t with
 | some d=>(match d with|.interface _=>none|_=>bif flat v || (match v with|.agg _=>true|_=>false)then some (.iface t v,m)else none)
 | none=>none
def nC(m:Mem)(v:Value)(i:Nat):Res :=
 match v with
 | .tuple vs=>noM vs.toList[i]? m
 | _=>none
def kQ(m:Mem)(x:Value):Res :=
 match x with
 | .slice none _ _=>some (.pointer none,m)
 | .slice (some a) n c=>bif Nat.beq n 0 || Nat.beq c 0 || Nat.beq c (O6+2)then none else some (.pointer (some a),m)
 | _=>none
def fU(m:Mem)(pt:TypeId)(p l:Value):Res :=
 match p,l with
 | .pointer none,.int _ (.ofNat 0)=>some (.string ByteArray.empty,m)
 | .pointer (some a),.int _ (.ofNat n) =>
   match a.spot,Hp.get m.H a.block with
   | none,some (.cells cs T false)=>match P.underlying pt,H7 P T with
     | some (.pointer e),some 1=>bif Nat.blt 0 n && Nat.ble n 1000000000 && Nat.beq e T then match uC cs a.off n with
       | some l=>match bytesOf l,gA m a.block (.cells cs T true)with
         | some l,some m'=>some (.string ⟨⟨l⟩⟩,m')
         | _,_=>none
       | none=>none else none
     | _,_=>none
   | _,_=>none
 | _,_=>none
def kE(m:Mem)(b:Builtin)(vs:List Value)(tys:List TypeId):Res :=
 match b,vs,tys with
 | .len,[x],t::_=>noM (A19 P m t x) m
 | .cap,[x],t::_=>noM (B1M P t x) m
 | .append,[x,y],t::t2::_=>uJ P m t t2 x y
 | .copy,[x,y],t::_=>PH P m t x y
 | .max,vs,_=>noM (B0T vs) m
 | .min,vs,_=>noM (B0S vs) m
 | .unsafeSliceData,[x],_=>kQ m x
 | .unsafeString,[p,l],t::_=>fU P m t p l
 | _,_,_=>none
def opM(fr:Fr)(m:Mem)(o:Op):Res :=
 match o with
 | .move x|.assign x=>some (ev fr x,m)
 | .pick c a b=>UU m (ev fr c) (ev fr a) (ev fr b)
 | .alloc e=>IK P m e
 | .box e x=>A1t m e (ev fr x)
 | .build t ps=>noM (TB P t (evP fr ps.toList)) m
 | .buildSlice t n ps=>dO P m t n (evP fr ps.toList)
 | .load t x=>UV P m t (ev fr x)
 | .store t x y=>II P m t (ev fr x) (ev fr y)
 | .nilCheck x=>A1s m (ev fr x)
 | .binOp op t x y _=>A5G P m op t x y (ev fr x) (ev fr y)
 | .unOp op _ x=>noM (unM op (ev fr x)) m
 | .convert s t x=>GN P m s t (ev fr x)
 | .makeInterface t x=>IJ P m t (ev fr x)
 | .makeFunc (.func f) first cap=>some (.func (.func f) ⟨evL fr first.toList⟩ ⟨evL fr cap.toList⟩,m)
 | .makeSlice t l c=>gL P m t (ev fr l) (ev fr c)
 | .slice t x lo hi mx=>noM (dT P t (ev fr x) (evO fr lo) (evO fr hi) (evO fr mx)) m
 | .fieldAddr s x i=>noM (dK P s (ev fr x) i) m
 | .field t x i=>noM (JJ P t (ev fr x) i) m
 | .indexAddr t x i=>noM (g8 P t (ev fr x) (ev fr i)) m
 | .index t x i=>noM (nQ P t (ev fr x) (ev fr i)) m
 | .extract x i=>nC m (ev fr x) i
 | .call ⟨.builtin b,xs,tys⟩=>kE P m b (evL fr xs.toList) tys.toList
 | _=>none
structure OpC where
 run:Fr→Mem→Res
def A2U(x:XC)(fr:Fr)(m:Mem):Res:=some (x.run fr,m)
def A8U(c a b:XC)(fr:Fr)(m:Mem):Res:=UU m (c.run fr) (a.run fr) (b.run fr)
def B25(e:TypeId)(x:XC)(fr:Fr)(m:Mem):Res:=A1t m e (x.run fr)
def A8V(t:TypeId)(x:XC)(fr:Fr)(m:Mem):Res:=UV P m t (x.run fr)
def A2T(t:TypeId)(x y:XC)(fr:Fr)(m:Mem):Res:=II P m t (x.run fr) (y.run fr)
def B23(x:XC)(fr:Fr)(m:Mem):Res:=A1s m (x.run fr)
def B26(op:BinOp)(t:TypeId)(x y:Operand)(cx cy:XC)(fr:Fr)(m:Mem):Res:=A5G P m op t x y (cx.run fr) (cy.run fr)
def kUn(op:UnOp)(x:XC)(fr:Fr)(m:Mem):Res:=noM (unM op (x.run fr)) m
def A8W(s t:TypeId)(x:XC)(fr:Fr)(m:Mem):Res:=GN P m s t (x.run fr)
def BG(s:TypeId)(x:XC)(i:Nat)(fr:Fr)(m:Mem):Res:=noM (dK P s (x.run fr) i) m
def A2W(s:TypeId)(x:XC)(i:Nat)(fr:Fr)(m:Mem):Res:=noM (JJ P s (x.run fr) i) m
def BF(t:TypeId)(x i:XC)(fr:Fr)(m:Mem):Res:=noM (g8 P t (x.run fr) (i.run fr)) m
def A2V(t:TypeId)(x i:XC)(fr:Fr)(m:Mem):Res:=noM (nQ P t (x.run fr) (i.run fr)) m
def OA(x:XC)(i:Nat)(fr:Fr)(m:Mem):Res:=nC m (x.run fr) i
def OB(b:Builtin)(xs:LC)(tys:List TypeId)(fr:Fr)(m:Mem):Res:=kE P m b (xs.run fr) tys
def CG(o:Op):OpC :=
 match o with
 | .move x=>⟨A2U (U8 x)⟩
 | .assign x=>⟨A2U (U8 x)⟩
 | .pick c a b=>⟨A8U (U8 c) (U8 a) (U8 b)⟩
 | .box e x=>⟨B25 e (U8 x)⟩
 | .load t x=>⟨A8V P t (U8 x)⟩
 | .store t x y=>⟨A2T P t (U8 x) (U8 y)⟩
 | .nilCheck x=>⟨B23 (U8 x)⟩
 | .binOp op t x y _=>⟨B26 P op t x y (U8 x) (U8 y)⟩
 | .unOp op _ x=>⟨kUn op (U8 x)⟩
 | .convert s t x=>⟨A8W P s t (U8 x)⟩
 | .fieldAddr s x i=>⟨BG P s (U8 x) i⟩
 | .field t x i=>⟨A2W P t (U8 x) i⟩
 | .indexAddr t x i=>⟨BF P t (U8 x) (U8 i)⟩
 | .index t x i=>⟨A2V P t (U8 x) (U8 i)⟩
 | .extract x i=>⟨OA (U8 x) i⟩
 | .call ⟨.builtin b,xs,tys⟩=>⟨OB P b (xG xs.toList) tys.toList⟩
 | o=>⟨fun fr m=>opM P fr m o⟩
def CF(o:Op)(fr:Fr)(m:Mem):(CG P o).run fr m=opM P fr m o:=by
 unfold CG;split<;>simp only[A2U,A8U,B25,A8V,A2T,B23,B26,kUn,A8W,BG,A2W,BF,A2V,OA,OB,opM,fQ,pP]
def RQ(nt gl:Nat)(o:Op):Bool:=o.operands.toList.all (okX nt gl)
end
section
open Go
def B3B:BinOp→Bool
 | .eql|.neq|.lss|.leq|.gtr|.geq=>true
 | _=>false
def qG(P:Program)(m:Mem)(op:BinOp)(t:TypeId)(a b:Value):Res :=
 let ta:=H5 a
 let tb:=H5 b
 bif (Nat.blt ta 8 && Nat.blt tb 8) || (Nat.beq ta 9 && Nat.beq tb 9)then Z1 m (bif B3B op then 8 else ta) (.bin op) [a,b]else
 bif Nat.beq ta 8 && Nat.beq tb 8 && BL op && (match P.underlying t with|some .bool=>true|_=>false)then Z1 m 8 (.bin op) [a,b]else none
def gP(P:Program)(t:TypeId)(x y:Value):Bool :=
 match P.underlying t with
 | some .bool=>Nat.beq (H5 x) 8 && Nat.beq (H5 y) 8
 | some (.int k)=>Nat.beq (H5 x) (jV k) && Nat.beq (H5 y) (jV k)
 | some .string=>Nat.beq (H5 x) 9 && Nat.beq (H5 y) 9
 | _=>false
mutual
def eqS(P:Program):Nat→TypeId→Value→Value→Option D4
 | 0,_,_,_=>none
 | d+1,t,x,y=>bif gP P t x y then some [x,y]else
   match P.underlying t,x,y with
   | some (.struct fs),.agg xs,.agg ys=>bif P.stoodInHeld t then none else CA P d fs.toList xs.toList ys.toList
   | some (.array n e),.agg xs,.agg ys=>match H7 P e with
     | some s=>CA P d ((List.range n).map (A6T e s)) xs.toList ys.toList
     | none=>none
   | _,_,_=>none
def CA(P:Program):Nat→List Field→D4→D4→Option D4
 | 0,_,_,_=>none
 | _+1,[],_,_=>some []
 | d+1,f::fs,xs,ys =>
   bif f.name == "_" then none else
   match sY P f.type xs f.offset,sY P f.type ys f.offset with
   | some x,some y=>match eqS P d f.type x y,CA P d fs xs ys with
     | some a,some b=>some (a++b)
     | _,_=>none
   | _,_=>none
end
def LK(P:Program)(m:Mem)(op:BinOp)(t:TypeId)(x y:Operand)(a b:Value):Res :=
 bif nS P t x y a b then
  match op,eqS P 20 t a b with
  | .eql,some l=>Z1 m 8 .eqs l
  | .neq,some l=>match Z1 m 8 .eqs l with
    | some (h,m)=>Z1 m 8 (.un .not) [h]
    | none=>none
  | _,_=>none
 else none
def u9(t:Nat):D4→Bool
 | []=>true
 | v::r=>Nat.beq (H5 v) t && u9 t r
def u6.sizeD(P:Program)(e:TypeId):Nat:=match H7 P e with|some n=>n|none=>0
def u6(P:Program)(m:Mem)(t:TypeId)(x i:Value):Res :=
 bif !(Nat.blt (H5 i) 8)then none else
 match P.underlying t with
 | some .string=>bif Nat.beq (H5 x) 9 then Z1 m 4 .idx [x,i]else none
 | some (.array n e)=>match x,P.underlying e with
   | .agg cs,some (.int k)=>bif Nat.beq (cs.toList.length) n && u9 (jV k) cs.toList && Nat.beq (u6.sizeD P e) 1 then Z1 m (jV k) .sel (i::cs.toList)else none
   | .agg cs,some .string=>bif Nat.beq (cs.toList.length) n && u9 9 cs.toList && Nat.beq (u6.sizeD P e) 1 then Z1 m 9 .sel (i::cs.toList)else none
   | _,_=>none
 | _=>none
def mQ(P:Program)(m:Mem)(t:TypeId)(x:Value)(lo hi mx:Option Value):Res :=
 match P.underlying t,mx with
 | some .string,none=>bif Nat.beq (H5 x) 9 then
    match lo,hi with
    | none,none=>some (x,m)
    | some l,none=>bif Nat.blt (H5 l) 8 then Z1 m 9 .sub1 [x,l]else none
    | none,some h=>bif Nat.blt (H5 h) 8 then Z1 m 9 .sub [x,.int .i64 0,h]else none
    | some l,some h=>bif Nat.blt (H5 l) 8 && Nat.blt (H5 h) 8 then Z1 m 9 .sub [x,l,h]else none
   else none
 | _,_=>none
def LF(m:Mem)(op:UnOp)(x:Value):Res :=
 let t:=H5 x
 match op with
 | .not=>bif Nat.beq t 8 then Z1 m 8 (.un .not) [x]else none
 | op=>bif Nat.blt t 8 then Z1 m t (.un op) [x]else none
def sH(P:Program)(m:Mem)(s t:TypeId)(x:Value):Res :=
 match P.underlying s,P.underlying t with
 | some (.int _),some (.int k)=>bif Nat.blt (H5 x) 8 then Z1 m (jV k) (.conv k) [x]else none
 | some .string,some .string=>bif Nat.beq (H5 x) 9 then some (x,m)else none
 | _,_=>none
def fY(P:Program)(m:Mem)(b:Builtin)(vs:List Value)(tys:List TypeId):Res :=
 match b,vs,tys with
 | .len,[x],t::_=>match P.underlying t with
   | some .string=>bif Nat.beq (H5 x) 9 then Z1 m 3 .len [x]else none
   | _=>none
 | .max,[x,y],_=>bif Nat.blt (H5 x) 8 && Nat.beq (H5 x) (H5 y)then Z1 m (H5 x) .max [x,y]else none
 | .min,[x,y],_=>bif Nat.blt (H5 x) 8 && Nat.beq (H5 x) (H5 y)then Z1 m (H5 x) .min [x,y]else none
 | _,_,_=>none
def YV(m:Mem)(a:Addr)(s n:Nat)(i:Value):Res :=
 bif !(Nat.blt (H5 i) 8)then none else
 match Z1 m 8 .inb [i,.int .i64 (.ofNat n)]with
 | some (b,⟨H,k,W,hi,lg⟩)=>match brL lg b with
   | some (true,lg)=>some (ixp a s i n,⟨H,k,W,hi,lg⟩)
   | _=>none
 | none=>none
def fW(P:Program)(m:Mem)(t:TypeId)(x i:Value):Res :=
 match P.underlying t,x with
 | some (.array n e),.pointer (some a)=>match H7 P e,a.spot with
   | some s,none=>YV m a s n i
   | _,_=>none
 | some (.slice e),.slice (some a) n c=>match H7 P e,a.spot with
   | some s,none=>bif Nat.beq c (O6+2)then none else YV m a s n i
   | _,_=>none
 | _,_=>none
def fX(P:Program)(m:Mem)(s:TypeId)(x:Value)(i:Nat):Res :=
 match x with
 | .func (.yield 1) ⟨[.pointer (some a),.int .i64 (.ofNat k),j,.int .i64 (.ofNat n)]⟩ ⟨[]⟩=>match P.underlying s with
   | some (.struct fs)=>match fs.toList[i]?,a.spot with
     | some f,none=>match H7 P f.type with
       | some (_+1)=>some (ixp (cG a f.offset) k j n,m)
       | _=>none
     | _,_=>none
   | _=>none
 | _=>none
def yN(cs:List Value)(s o:Nat):Nat→Option D4
 | 0=>some []
 | n+1=>match cs[o]?,yN cs s (o+s) n with
   | some v,some r=>some (v::r)
   | _,_=>none
def dF(m:Mem)(cs:List Value)(s n:Nat)(i:Value):Nat→Nat→Option (D4×Mem)
 | _,0=>some ([],m)
 | o,k+1=>match yN cs s o n with
   | some (v::l)=>bif u9 (H5 v) (v::l) && Nat.blt (H5 v) 10 then match Z1 m (H5 v) .sel (i::v::l)with
     | some (h,m)=>match dF m cs s n i (o+1) k with
       | some (r,m)=>some (h::r,m)
       | none=>none
     | none=>none else none
   | _=>none
def sG(P:Program)(m:Mem)(t:TypeId)(x:Value):Res :=
 match x with
 | .func (.yield 1) ⟨[.pointer (some a),.int .i64 (.ofNat s),i,.int .i64 (.ofNat n)]⟩ ⟨[]⟩ =>
   match bF P t,H7 P t with
   | some false,_=>match aO m a ((n-1)*s+1)with
     | some cs=>match dF m cs s n i 0 1 with
       | some ([h],m)=>some (h,m)
       | _=>none
     | none=>none
   | some true,some z=>match aO m a ((n-1)*s+z)with
     | some cs=>match dF m cs s n i 0 z with
       | some (hs,m)=>some (.agg ⟨hs⟩,m)
       | none=>none
     | none=>none
   | _,_=>none
 | _=>none
def yM(m:Mem)(c a b:Value):Res :=
 match m with
 | ⟨H,n,W,hi,lg⟩=>match brL lg c with
   | some (true,lg)=>some (a,⟨H,n,W,hi,lg⟩)
   | some (false,lg)=>some (b,⟨H,n,W,hi,lg⟩)
   | none=>none
def A0S(P:Program)(fr:Fr)(m:Mem)(o:Op):Res :=
 match o with
 | .pick c a b=>yM m (ev fr c) (ev fr a) (ev fr b)
 | .binOp op t x y _=>match qG P m op t (ev fr x) (ev fr y)with
   | some r=>some r
   | none=>LK P m op t x y (ev fr x) (ev fr y)
 | .unOp op _ x=>LF m op (ev fr x)
 | .convert s t x=>sH P m s t (ev fr x)
 | .slice t x lo hi mx=>mQ P m t (ev fr x) (evO fr lo) (evO fr hi) (evO fr mx)
 | .index t x i=>u6 P m t (ev fr x) (ev fr i)
 | .indexAddr t x i=>fW P m t (ev fr x) (ev fr i)
 | .fieldAddr s x i=>fX P m s (ev fr x) i
 | .load t x=>sG P m t (ev fr x)
 | .call ⟨.builtin b,xs,tys⟩=>fY P m b (evL fr xs.toList) tys.toList
 | _=>none
def qO(m:Mem)(b:Nat):Bool :=
 match Hp.get m.H b with
 | some .frz=>Nat.ble b I4
 | _=>false
def RK{α:Type}(l:List α):Nat→List α
 | 0=>[]
 | n+1=>l++RK l n
mutual
def A0P(P:Program):Nat→TypeId→Option I1
 | 0,_=>none
 | d+1,t=>match P.underlying t with
   | some .bool=>some [8]
   | some (.int k)=>some [jV k]
   | some .string=>some [9]
   | some (.slice e)=>match H7 P e with
     | some w=>some [10+w]
     | none=>none
   | some (.struct fs)=>A68 P d fs.toList
   | some (.array n e)=>match A0P P d e with
     | some l=>some (RK l n)
     | none=>none
   | _=>none
def A68(P:Program):Nat→List Field→Option I1
 | 0,_=>none
 | _+1,[]=>some []
 | d+1,f::fs=>match A0P P d f.type,A68 P d fs with
   | some a,some b=>some (a++b)
   | _,_=>none
end
def mP(P:Program)(t:TypeId):Option I1 :=
 match A0P P 30 t,H7 P t with
 | some l,some n=>bif Nat.beq l.length n then some l else none
 | _,_=>none
def g9.letDo(t:Nat)(op:LOp)(xs:List Value)(m:Mem)(k:Nat→Mem→Option (D4×Mem)):Option (D4×Mem) :=
 match m with
 | ⟨H,n,W,hi,⟨nx,pi,log⟩⟩=>L2 nx fun nx=>L2 t fun t=>U2 xs fun xs=>k nx ⟨H,n,W,hi,⟨Nat.succ nx,pi,.dt nx t op xs::log⟩⟩
def g9(w o i t:Nat)(z:Value)(g:Nat):I1→Nat→Mem→Option (D4×Mem)
 | [],_,m=>some ([],m)
 | tg::ts,j,m=>bif Nat.blt tg 10 then
    match Z1 m tg (.get w (o+j)) [hole i t,z]with
    | some (h,m)=>match g9 w o i t z g ts (j+1) m with
      | some (r,m)=>some (h::r,m)
      | none=>none
    | none=>none
   else g9.letDo tg (.get w (o+j)) [hole i t,z] m fun nx m=>match g9 w o i t z g ts (j+1) m with
     | some (r,m)=>some (dat g nx tg::r,m)
     | none=>none
def oJ(P:Program)(t:TypeId)(r:Option (D4×Mem)):Res :=
 match bF P t,r with
 | some false,some ([v],m)=>some (v,m)
 | some true,some (vs,m)=>some (.agg ⟨vs⟩,m)
 | _,_=>none
def NP(P:Program)(m:Mem)(t:TypeId)(x:Value):Res :=
 match x,mP P t with
 | .func (.yield 5) ⟨[.pointer (some ⟨b,0,none⟩),.complex .f64 i tg,z,.int .i64 (.ofNat o)]⟩ ⟨[]⟩,some ts =>
   bif qO m b then oJ P t (g9 (tg-10) o i tg z b ts 0 m)else none
 | .func (.yield 6) ⟨[.pointer (some ⟨b,0,none⟩),.complex .f64 i tg,z,.int .i64 (.ofNat o)]⟩ ⟨[]⟩,some ts =>
   match Hp.get m.H b with
   | some (.sq c tc T g ro)=>bif Nat.beq tc tg then oJ P t (g9 (tg-10) o c tg z g ts 0 m)else none
   | _=>none
 | _,_=>none
def OG(m:Mem)(i t:Nat)(z:Value)(k:Value):Res :=
 bif !(Nat.blt (H5 z) 8)then none else
 match Z1 m 8 (.inbs (t-10)) [z,hole i t]with
 | some (b,⟨H,n,W,hi,lg⟩)=>match brL lg b with
   | some (true,lg)=>some (k,⟨H,n,W,hi,lg⟩)
   | _=>none
 | none=>none
def nR(P:Program)(m:Mem)(t:TypeId)(x z:Value):Res :=
 match P.underlying t,x with
 | some (.slice e),.func (.yield 4) ⟨[.pointer (some ⟨b,0,none⟩),.complex .f64 i tg]⟩ ⟨[]⟩=>match H7 P e with
   | some (s+1)=>bif Nat.beq tg (10+(s+1))then OG m i tg z (opt b i tg z 0)else none
   | _=>none
 | some (.slice e),.func (.yield 2) ⟨[.pointer (some ⟨b,0,none⟩),.complex .f64 i tg]⟩ ⟨[]⟩=>match H7 P e with
   | some (s+1)=>bif Nat.beq tg (10+(s+1))then OG m i tg z (dpt b i tg z 0)else none
   | _=>none
 | some (.slice e),.func (.yield 3) ⟨[.pointer (some ⟨b,0,none⟩),.complex .f64 i tg]⟩ ⟨[]⟩=>match H7 P e with
   | some (s+1)=>bif Nat.beq tg (10+(s+1))then OG m i tg z (dpt b i tg z 0)else none
   | _=>none
 | some (.array n e),.func (.yield 5) ⟨[.pointer (some ⟨b,0,none⟩),.complex .f64 i tg,y,.int .i64 (.ofNat o)]⟩ ⟨[]⟩=>match H7 P e,z with
   | some s,.int _ (.ofNat k)=>bif Nat.blt k n && Nat.blt (o+k*s) (tg-10)then some (L2 (o+k*s) fun o=>dpt b i tg y o,m)else none
   | _,_=>none
 | some (.array n e),.func (.yield 6) ⟨[.pointer (some ⟨b,0,none⟩),.complex .f64 i tg,y,.int .i64 (.ofNat o)]⟩ ⟨[]⟩=>match H7 P e,z with
   | some s,.int _ (.ofNat k)=>bif Nat.blt k n && Nat.blt (o+k*s) (tg-10)then some (L2 (o+k*s) fun o=>opt b i tg y o,m)else none
   | _,_=>none
 | _,_=>none
def nW(P:Program)(m:Mem)(s:TypeId)(x:Value)(f:Nat):Res :=
 match P.underlying s,x with
 | some (.struct fs),.func (.yield 5) ⟨[.pointer (some ⟨b,0,none⟩),.complex .f64 i tg,y,.int .i64 (.ofNat o)]⟩ ⟨[]⟩=>match fs.toList[f]? with
   | some fd=>match H7 P fd.type with
     | some (_+1)=>bif Nat.blt (o+fd.offset) (tg-10)then some (L2 (o+fd.offset) fun o=>dpt b i tg y o,m)else none
     | _=>none
   | none=>none
 | some (.struct fs),.func (.yield 6) ⟨[.pointer (some ⟨b,0,none⟩),.complex .f64 i tg,y,.int .i64 (.ofNat o)]⟩ ⟨[]⟩=>match fs.toList[f]? with
   | some fd=>match H7 P fd.type with
     | some (_+1)=>bif Nat.blt (o+fd.offset) (tg-10)then some (L2 (o+fd.offset) fun o=>opt b i tg y o,m)else none
     | _=>none
   | none=>none
 | _,_=>none
def tT(i:Nat):List o7→Option Nat
 | []=>none
 | .lt j t .len [.complex .f64 k _]::r=>bif Nat.beq k i && Nat.beq t 3 then some j else tT i r
 | _::r=>tT i r
def IR(m:Mem)(i t:Nat):Res :=
 match tT i m.lg.log with
 | some j=>some (hole j 3,m)
 | none=>Z1 m 3 .len [hole i t]
def A5V(P:Program)(m:Mem)(t:TypeId)(x:Value):Res :=
 match P.underlying t,x with
 | some (.slice _),.func (.yield 2) ⟨[.pointer (some ⟨b,0,none⟩),.complex .f64 i tg]⟩ ⟨[]⟩=>IR m i tg
 | some (.slice _),.func (.yield 3) ⟨[.pointer (some ⟨b,0,none⟩),.complex .f64 i tg]⟩ ⟨[]⟩=>IR m i tg
 | some (.slice _),.func (.yield 4) ⟨[.pointer (some ⟨b,0,none⟩),.complex .f64 i tg]⟩ ⟨[]⟩=>IR m i tg
 | _,_=>none
def iY(m:Mem)(k:Nat→Mem→Option (Value×Nat×Mem)):Option (Value×Nat×Mem) :=
 match m with
 | ⟨H,n,W,hi,lg⟩=>bif Nat.ble n I4 then L2 n fun n=>L2 (upN hi n) fun hi=>Hp.put H n (some .frz) fun H=>k n ⟨H,Nat.succ n,W,hi,lg⟩else none
def toD(t:Nat)(v:Value)(m:Mem):Option (Value×Nat×Mem) :=
 match v with
 | .func (.yield 2) ⟨[.pointer (some ⟨b,0,none⟩),.complex .f64 i tg]⟩ ⟨[]⟩=>bif Nat.beq tg t && qO m b then some (hole i tg,b,m)else none
 | .func (.yield 3) ⟨[.pointer (some ⟨b,0,none⟩),.complex .f64 i tg]⟩ ⟨[]⟩=>bif Nat.beq tg t && qO m b then some (hole i tg,b,m)else none
 | .func (.yield 4) ⟨[.pointer (some ⟨b,0,none⟩),.complex .f64 i tg]⟩ ⟨[]⟩=>match Hp.get m.H b with
   | some (.sq c tc T g true)=>bif (Nat.beq tg t && Nat.beq tc t) && qO m g then iY m fun b' m=>some (hole c tc,b',m)else none
   | some (.sq c tc T g false)=>bif (Nat.beq tg t && Nat.beq tc t) && qO m g then match gA m b (.sq c tc T g true)with
     | some m=>iY m fun b' m=>some (hole c tc,b',m)
     | none=>none else none
   | _=>none
 | .slice none 0 0=>bif Nat.ble 10 t then(match xV m t (.nilw (t-10)) [] fun nx m=>some (hole nx t,m)with
   | some (h,m)=>iY m fun b' m=>some (h,b',m)
   | none=>none)else none
 | _=>none
abbrev Td:=Nat→Value→Mem→Option (Value×Nat×Mem)
def DE(td:Td):I1→D4→Mem→Option (D4×I1×Mem)
 | [],[],m=>some ([],[],m)
 | t::ts,v::vs,m=>bif Nat.blt t 10 then
    bif Nat.beq (H5 v) t then match DE td ts vs m with
     | some (r,gs,m)=>some (v::r,gs,m)
     | none=>none else none
   else match td t v m with
    | some (h,b,m)=>match DE td ts vs m with
      | some (r,gs,m)=>some (h::r,b::gs,m)
      | none=>none
    | none=>none
 | _,_,_=>none
def lT(gs:List Nat)(m:Mem):Option (Nat×Mem) :=
 match gs with
 | [g]=>bif qO m g then some (g,m)else none
 | gs=>bif gs.all (qO m)then match iY m fun b m=>some (undef,b,m)with
   | some (_,b,m)=>some (b,m)
   | none=>none else none
def UE:Value→Value→Bool
 | .complex .f64 i _,.complex .f64 j _=>Nat.beq i j
 | .int k a,.int j b=>AH k j && DT a b
 | _,_=>false
def BI(v:Value):Bool:=Nat.blt (H5 v) 8
def iQ(m:Mem)(b i t:Nat)(l h:Value)(c:Bool):Res:=bif BI l && BI h then xV m t (.subs (t-10)) [hole i t,l,h] fun nx m=>some (bif c then clp b nx t else dat b nx t,m)else none
def PD(m:Mem)(b i t:Nat)(cl:Bool)(l:Value)(hi mx:Option Value):Res :=
 match hi,mx with
 | some h,none=>iQ m b i t l h false
 | some h,some x=>bif UE h x then iQ m b i t l h true else none
 | none,none=>match IR m i t with
   | some (h,m)=>iQ m b i t l h cl
   | none=>none
 | none,some _=>none
def B2k(lo:Option Value):Value :=
 match lo with
 | some l=>l
 | none=>.int .i64 0
def PE(m:Mem)(b i t:Nat)(cl:Bool)(lo hi mx:Option Value):Res:=PD m b i t cl (B2k lo) hi mx
def zZ(P:Program)(m:Mem)(t:TypeId)(x:Value)(lo hi mx:Option Value):Res :=
 match P.underlying t,x with
 | some (.slice e),.func (.yield 2) ⟨[.pointer (some ⟨b,0,none⟩),.complex .f64 i tg]⟩ ⟨[]⟩=>match H7 P e with
   | some s=>bif Nat.beq tg (10+s)then PE m b i tg false lo hi mx else none
   | none=>none
 | some (.slice e),.func (.yield 3) ⟨[.pointer (some ⟨b,0,none⟩),.complex .f64 i tg]⟩ ⟨[]⟩=>match H7 P e with
   | some s=>bif Nat.beq tg (10+s)then PE m b i tg true lo hi mx else none
   | none=>none
 | some (.slice e),.func (.yield 4) ⟨[.pointer (some ⟨b,0,none⟩),.complex .f64 i tg]⟩ ⟨[]⟩=>match H7 P e with
   | some s=>bif Nat.beq tg (10+s)then match toD tg x m with
     | some (.complex .f64 c _,b',m)=>PE m b' c tg false lo hi mx
     | _=>none else none
   | none=>none
 | _,_=>none
inductive Beh where
 | cells (xs:List Value)
 | rows (x:Value)
 | str (x:Value)
def eM(w:Nat)(c:Value):Beh→LOp×D4
 | .cells xs=>(.snoc w,c::xs)
 | .rows x=>(.cat w,[c,x])
 | .str x=>(.cats,[c,x])
def A34(td:Td)(P:Program)(m:Mem)(e:TypeId)(w:Nat)(y:Value):Option (Beh×I1×Bool×Mem) :=
 match y with
 | .slice none 0 _=>some (.cells [],[],false,m)
 | .slice (some a) n _=>match aO m a (n*w),mP P e with
   | some cs,some ts=>match DE td (RK ts n) cs m with
     | some (xs,gs,m)=>some (.cells xs,gs,Nat.blt 0 n,m)
     | none=>none
   | _,_=>none
 | .func _ _ _=>match td (10+w) y m with
   | some (x,b,m)=>some (.rows x,[b],false,m)
   | none=>none
 | y=>bif Nat.beq (H5 y) 9 && Nat.beq w 1 then some (.str y,[],false,m)else none
def HB(td:Td)(P:Program)(m:Mem)(e:TypeId)(w:Nat)(x:Value):Option (Nat×I1×Option Nat×Mem) :=
 match x with
 | .slice none 0 0=>match xV m (10+w) (.nilw w) [] fun nx m=>some (hole nx (10+w),m)with
   | some (.complex .f64 c _,m)=>some (c,[],none,m)
   | _=>none
 | .func (.yield 4) ⟨[.pointer (some ⟨b,0,none⟩),.complex .f64 i tg]⟩ ⟨[]⟩=>match Hp.get m.H b with
   | some (.sq c tc T g false)=>bif (Nat.beq tg (10+w) && Nat.beq tc tg) && (Nat.beq T e && Nat.ble b I4)then some (c,[g],some b,m)else none
   | _=>none
 | .slice (some ⟨b,0,none⟩) n c=>match Hp.get m.H b,mP P e with
   | some (.cells cs _ _),some ts=>bif Nat.beq cs.length (n*w) && (Nat.beq c n && Nat.blt c O6 || Nat.beq c O6)then match DE td (RK ts n) cs m with
     | some (xs,gs,m)=>match Hp.get m.H b with
       | some (.cells _ T false)=>bif Nat.beq T e && Nat.ble b I4 then match xV m (10+w) (.mk w) xs fun nx m=>some (hole nx (10+w),m)with
         | some (.complex .f64 c _,m)=>some (c,gs,some b,m)
         | _=>none else none
       | _=>none
     | none=>none else none
   | _,_=>none
 | _=>none
def cA(m:Mem)(c t:Nat)(T:TypeId)(g:Nat):Res:=p9 m (.sq c t T g false) fun b=>own b c t
def ZP(P:Program)(e:TypeId)(n:Nat):Bool :=
 match iA P e with
 | some z=>Nat.beq z.cells.size n
 | none=>false
def lR(old:Option Nat)(m:Mem):Mem :=
 match old with
 | some b=>lS m b
 | none=>m
def YK(td:Td)(P:Program)(m:Mem)(e:TypeId)(w:Nat)(x:Value):Res :=
 match P.info? e with
 | some inf=>bif Nat.beq inf.size w && Nat.blt 0 w then match HB td P m e w x with
   | some (c,gs,old,m)=>match lT gs m with
     | some (g,m)=>cA (lR old m) c (10+w) e g
     | none=>none
   | none=>none else none
 | none=>none
def A0L(P:Program):Nat→Td
 | 0=>toD
 | d+1=>fun t v m=>match v with
   | .slice (some ⟨b,0,none⟩) _ _=>match Hp.get m.H b with
     | some (.cells _ T _)=>match YK (A0L P d) P m T (t-10) v with
       | some (x,m)=>toD t x m
       | none=>none
     | _=>none
   | v=>toD t v m
def tdP(P:Program):Td:=A0L P 3
def MT(m:Mem)(e:TypeId)(w c:Nat)(old:Option Nat)(bh:Beh)(gs:List Nat):Res :=
 match lT gs m with
 | some (g,m)=>xV m (10+w) (eM w (hole c (10+w)) bh).1 (eM w (hole c (10+w)) bh).2 fun nx m=>cA (lR old m) nx (10+w) e g
 | none=>none
def uK(P:Program)(m:Mem)(t t2:TypeId)(x y:Value):Res :=
 match P.underlying t,P.underlying t2 with
 | some (.slice e),some d2=>bif !(dX d2)then none else
   match P.info? e with
   | some i=>bif (Nat.ble i.bytes 90000 && Nat.blt 0 i.size) && ZP P e i.size then
     match A34 (tdP P) P m e i.size y with
     | some (bh,gs,sure,m)=>match HB (tdP P) P m e i.size x with
       | some (c,g0,old,m)=>MT m e i.size c old bh (g0++gs)
       | none=>match x,sure with
         | .func (.yield 3) ⟨[.pointer (some ⟨b,0,none⟩),.complex .f64 c tg]⟩ ⟨[]⟩,true=>bif Nat.beq tg (10+i.size)then MT m e i.size c none bh (b::gs)else none
         | _,_=>none
     | none=>none else none
   | none=>none
 | _,_=>none
def zW(P:Program)(m:Mem)(t:TypeId)(x v:Value):Res :=
 match x,mP P t with
 | .func (.yield 6) ⟨[.pointer (some ⟨b,0,none⟩),.complex .f64 i tg,z,.int .i64 (.ofNat o)]⟩ ⟨[]⟩,some ts=>bif lD v then none else
   match DE (tdP P) ts v.cells.toList m with
   | some (xs,gs,m)=>match Hp.get m.H b with
     | some (.sq c tc T g false)=>bif Nat.beq tc tg then match lT (g::gs) m with
       | some (g,m)=>match xV m tg (.set (tg-10) o) (hole c tg::z::xs) fun nx m=>some (hole nx tg,m)with
         | some (.complex .f64 nx _,m)=>RV (gA m b (.sq nx tg T g false))
         | _=>none
       | none=>none else none
     | _=>none
   | none=>none
 | _,_=>none
def A79(m m1:Mem):Mem :=
 match m,m1 with
 | ⟨H,n,W,_,_⟩,⟨_,_,_,hi,lg⟩=>⟨H,n,W,hi,lg⟩
def PI(P:Program)(m:Mem)(s t:TypeId)(x:Value):Res :=
 match P.underlying s,P.underlying t,x with
 | some (.slice e),some .string,.slice (some a) n _=>match P.underlying e with
   | some (.int .u8)=>match aO m a n with
     | some cs=>bif u9 4 cs then Z1 m 9 .mks cs else none
     | none=>none
   | _=>none
 | some (.slice e),some .string,.func _ _ _=>match P.underlying e with
   | some (.int .u8)=>match toD 11 x m with
     | some (h,_,m1)=>Z1 (A79 m m1) 9 .str [h]
     | none=>none
   | _=>none
 | some _,some (.slice e),x=>bif Nat.beq (H5 x) 9 then match P.underlying e with
   | some (.int .u8)=>match H7 P e with
     | some 1=>match lT [] m with
       | some (g,m)=>match xV m 11 .byt [x] fun nx m=>some (hole nx 11,m)with
         | some (.complex .f64 nx _,m)=>cA m nx 11 e g
         | _=>none
       | none=>none
     | _=>none
   | _=>none else none
 | _,_,_=>none
def A2a:Value→Bool
 | .slice none 0 0=>true
 | _=>false
def A1v(P:Program)(m:Mem)(op:BinOp)(t:TypeId)(x y:Operand)(a b:Value):Res :=
 match P.underlying t,a with
 | some (.slice _),.func (.yield k) ⟨[.pointer (some ⟨_,0,none⟩),.complex .f64 i tg]⟩ ⟨[]⟩=>bif A2a b && isC y && (Nat.beq k 2 || Nat.beq k 3 || Nat.beq k 4)then
   match op,Z1 m 8 .nilp [hole i tg]with
   | .eql,some r=>some r
   | .neq,some (h,m)=>Z1 m 8 (.un .not) [h]
   | _,_=>none else none
 | _,_=>none
def NL(P:Program)(m:Mem)(t:TypeId)(l c:Value):Res :=
 match P.underlying t,l,c with
 | some (.slice e),.complex .f64 i ti,.complex .f64 j tj=>bif (Nat.beq i j && Nat.beq ti 3) && Nat.beq tj 3 then
   match P.info? e with
   | some inf=>bif Nat.ble inf.bytes 90000 && Nat.blt 0 inf.size then
     match iA P e with
     | some z=>bif Nat.beq z.cells.size inf.size && z.cells.toList.all (fun z=>Nat.blt (H5 z) 10)then
       match lT [] m with
       | some (g,m)=>match xV m (10+inf.size) (.rep inf.size) (hole i 3::z.cells.toList) fun nx m=>some (hole nx (10+inf.size),m)with
         | some (.complex .f64 nx _,m)=>cA m nx (10+inf.size) e g
         | _=>none
       | none=>none else none
     | none=>none else none
   | none=>none else none
 | _,_,_=>none
def dsM(P:Program)(fr:Fr)(m:Mem)(o:Op):Res :=
 match o with
 | .makeSlice t l c=>NL P m t (ev fr l) (ev fr c)
 | .load t x=>NP P m t (ev fr x)
 | .store t x y=>zW P m t (ev fr x) (ev fr y)
 | .indexAddr t x i=>nR P m t (ev fr x) (ev fr i)
 | .fieldAddr s x i=>nW P m s (ev fr x) i
 | .slice t x lo hi mx=>zZ P m t (ev fr x) (evO fr lo) (evO fr hi) (evO fr mx)
 | .convert s t x=>PI P m s t (ev fr x)
 | .binOp op t x y _=>A1v P m op t x y (ev fr x) (ev fr y)
 | .call ⟨.builtin .len,xs,tys⟩=>match evL fr xs.toList,tys.toList with
   | [x],t::_=>A5V P m t x
   | _,_=>none
 | .call ⟨.builtin .append,xs,tys⟩=>match evL fr xs.toList,tys.toList with
   | [x,y],t::t2::_=>uK P m t t2 x y
   | _,_=>none
 | _=>none
def WR(P:Program)(m:Mem)(s t:TypeId)(x:Value):Res :=
 match P.underlying s,P.underlying t,x with
 | some (.pointer e),some .unsafePointer,.pointer (some ⟨b,o,none⟩)=>match H7 P e,Hp.get m.H b with
   | some (_+1),some (.cells cs _ _)=>bif Nat.blt o cs.length then some (x,m)else none
   | _,_=>none
 | some .unsafePointer,some (.pointer u),.pointer (some ⟨b,0,none⟩)=>match H7 P u,Hp.get m.H b with
   | some (k+1),some (.cells cs T false)=>bif Nat.beq T u && Nat.beq cs.length (k+1)then some (x,m)else none
   | _,_=>none
 | some (.slice _),some (.slice e),.slice (some ⟨b,o,none⟩) n c=>bif Nat.beq s t && !(Nat.beq c (O6+2))then match P.underlying e,Hp.get m.H b with
   | some (.int .u8),some (.cells cs T false)=>match gA m b (.cells cs T false)with
     | some m1=>some (x,m1)
     | none=>none
   | _,_=>none else none
 | _,_,_=>none
def UO(P:Program)(m:Mem)(op:BinOp)(t:TypeId)(a b:Value):Res :=
 match P.underlying t,a,b with
 | some (.pointer e),.pointer (some ⟨b1,o1,none⟩),.pointer (some ⟨b2,o2,none⟩)=>bif Nat.beq b1 b2 && Nat.beq o1 o2 then match P.info? e,op with
   | some _,.eql=>some (.bool true,m)
   | some _,.neq=>some (.bool false,m)
   | _,_=>none else none
 | _,_,_=>none
def sdM(P:Program)(m:Mem)(ty:TypeId)(x:Value):Res :=
 match P.underlying ty with
 | some (.pointer _)=>match x with
  | .func (.yield 4) ⟨[.pointer (some ⟨b,0,none⟩),.complex .f64 i t]⟩ ⟨[]⟩=>match Hp.get m.H b with
   | some (.sq _ _ _ _ _)=>some (sdt b,m)
   | _=>none
  | _=>none
 | _=>none
def usM(P:Program)(m:Mem)(pt:TypeId)(p l:Value):Res :=
 match p with
 | .func (.yield 9) ⟨[.pointer (some ⟨b,0,none⟩)]⟩ ⟨[]⟩=>bif Nat.blt (H5 l) 8 then match Hp.get m.H b,P.underlying pt with
   | some (.sq c tc T g false),some (.pointer e)=>bif Nat.beq e T && Nat.beq tc 11 then match H7 P T,Z1 m 9 .ustr [hole c tc,l]with
     | some 1,some (v,m)=>match gA m b (.sq c tc T g true)with
       | some m=>some (v,m)
       | none=>none
     | _,_=>none else none
   | _,_=>none else none
 | _=>none
def iJ(P:Program)(t:TypeId):Option Nat :=
 match P.underlying t with
 | some .bool=>some 8
 | some (.int k)=>some (jV k)
 | some .string=>some 9
 | _=>none
def xC(P:Program):List Field→Nat→Option I1
 | [],_=>some []
 | f::r,i=>match iJ P f.type,xC P r (i+1)with
   | some t,some l=>bif !(f.name == "_") && Nat.beq f.offset i then some (t::l)else none
   | _,_=>none
def pZ(P:Program)(t:TypeId):Option (Bool×List Nat) :=
 match P.underlying t with
 | some (.struct fs)=>bif P.stoodInHeld t then none else match xC P fs.toList 0 with
   | some l=>some (true,l)
   | none=>none
 | _=>match iJ P t with
   | some k=>some (false,[k])
   | none=>none
def TO(P:Program)(t:TypeId):Option (Bool×List Nat) :=
 match bF P t,mP P t with
 | some true,some l=>bif l.all (fun k=>Nat.blt k 10)then some (true,l)else none
 | some false,some [k]=>bif Nat.blt k 10 then some (false,[k])else none
 | _,_=>none
structure MTy where
 kt:TypeId
 vt:TypeId
 ka:Bool
 ks:I1
 va:Bool
 vs:I1
def MTy.w(y:MTy):Nat:=y.ks.length+y.vs.length
def YN(P:Program)(T:TypeId):Option MTy :=
 match P.underlying T with
 | some (.map kt vt)=>match pZ P kt,TO P vt with
   | some (ka,k::ks),some (va,vs)=>some ⟨kt,vt,ka,k::ks,va,vs⟩
   | _,_=>none
 | _=>none
def BY:I1→D4→Bool
 | [],[]=>true
 | t::ts,v::vs=>Nat.beq (H5 v) t && BY ts vs
 | _,_=>false
def pR(a:Bool)(ts:List Nat)(v:Value):Option D4 :=
 match a,v with
 | true,.agg cs=>bif BY ts cs.toList then some cs.toList else none
 | true,_=>none
 | false,v=>bif BY ts [v]then some [v]else none
def A4B(a:Bool)(vs:List Value):T5 :=
 match a,vs with
 | true,vs=>some (.agg ⟨vs⟩)
 | false,[v]=>some v
 | false,_=>none
def A10(P:Program)(m:Mem)(T:TypeId):Res :=
 match YN P T with
 | some y=>xV m (10+y.w) (.mk y.w) [] fun nx m=>p9 m (.mp nx (10+y.w) T) fun b=>.map (some b)
 | none=>none
def vJ(w kw c t:Nat)(kc:List Value):I1→D4→Nat→Mem→Option (D4×Mem)
 | [],[],_,m=>some ([],m)
 | tg::ts,z::zs,j,m=>match Z1 m tg (.mget w kw j) (hole c t::z::kc)with
   | some (h,m)=>match vJ w kw c t kc ts zs (j+1) m with
     | some (r,m)=>some (h::r,m)
     | none=>none
   | none=>none
 | _,_,_,_=>none
def AX(P:Program)(m:Mem)(T:TypeId)(x k:Value)(ok:Bool):Res :=
 match x,YN P T with
 | .map (some r),some y=>match Hp.get m.H r,pR y.ka y.ks k,iA P y.vt with
   | some (.mp c t T2),some kc,some z=>bif Nat.beq T2 T then match pR y.va y.vs z with
     | some zc=>match vJ y.w y.ks.length c t kc y.vs zc y.ks.length m with
       | some (hs,m)=>match A4B y.va hs with
         | some v=>bif ok then match Z1 m 8 (.mhas y.w y.ks.length) (hole c t::kc)with
            | some (b,m)=>some (.tuple ⟨[v,b]⟩,m)
            | none=>none
           else some (v,m)
         | none=>none
       | none=>none
     | none=>none else none
   | _,_,_=>none
 | _,_=>none
def EY(P:Program)(m:Mem)(T:TypeId)(x k v:Value):Res :=
 match x,YN P T with
 | .map (some r),some y=>match Hp.get m.H r,pR y.ka y.ks k,pR y.va y.vs v with
   | some (.mp c t T2),some kc,some vc=>bif Nat.beq T2 T then xV m t (.mput y.w y.ks.length) (hole c t::(kc++vc)) fun nx m=>RV (gA m r (.mp nx t T))else none
   | _,_,_=>none
 | _,_=>none
def NS(P:Program)(m:Mem)(T:TypeId)(x:Value):Res :=
 match P.underlying T,x with
 | some (.map _ _),.map (some r)=>match Hp.get m.H r with
   | some (.mp c t _)=>IR m c t
   | _=>none
 | _,_=>none
def xtM(P:Program)(fr:Fr)(m:Mem)(o:Oper):Res :=
 match o.op with
 | .convert s t x=>WR P m s t (ev fr x)
 | .binOp op t x y _=>UO P m op t (ev fr x) (ev fr y)
 | .call ⟨.builtin .unsafeSliceData,xs,_⟩=>match evL fr xs.toList with
   | [x]=>sdM P m o.type x
   | _=>none
 | .call ⟨.builtin .unsafeString,xs,tys⟩=>match evL fr xs.toList,tys.toList with
   | [p,l],t::_=>usM P m t p l
   | _,_=>none
 | .makeMap t none=>A10 P m t
 | .lookup t x k ok=>AX P m t (ev fr x) (ev fr k) ok
 | .mapUpdate t x k v=>EY P m t (ev fr x) (ev fr k) (ev fr v)
 | .insert t x k v=>EY P m t (ev fr x) (ev fr k) (ev fr v)
 | .call ⟨.builtin .len,xs,tys⟩=>match evL fr xs.toList,tys.toList with
   | [x],t::_=>NS P m t x
   | _,_=>none
 | _=>none
inductive EK where
 | noEscape|makeNoZero (e:TypeId)|indexByteString|countString|indexString|copyString
 deriving DecidableEq
def OT:List (FuncId×EK)→FuncId→Option EK
 | [],_=>none
 | (g,k)::r,f=>bif Nat.beq g f then some k else OT r f
structure FnC where
 run:D4→Mem→Res
structure Q9 where
 fn:FuncId→FnC
 yl:FnC
def pI:Value→Bool
 | .tuple ⟨[]⟩=>true
 | _=>false
def KO(lg:Lg)(v:Value)(b:Bool):Option (Bool×Lg) :=
 match v with
 | .bool c=>some (c == b,lg)
 | .complex k i t=>match brL lg (.complex k i t)with
   | some (c,lg)=>some (c == b,lg)
   | none=>none
 | v=>bif pI v then some (false,lg)else none
def bZ(nt:Nat)(fr:Fr)(lg:Lg)(ops:List Oper)(o:Oper):Option (Bool×Lg) :=
 match o.guard with
 | none=>some (true,lg)
 | some (j,b)=>match ops[j]? with
   | some p=>match p.dst with
     | some t=>bif Nat.blt t nt then KO lg (fr.get t) b else none
     | none=>none
   | none=>none
def zH(v:Value)(vs:List Value):Option (FuncId×List Value) :=
 match v with
 | .func (.func f) a b=>some (f,a.toList++(vs++b.toList))
 | _=>none
def fR(v:Value):Option Nat :=
 match v with
 | .func (.yield 7) ⟨[.pointer (some ⟨b,0,none⟩)]⟩ ⟨[]⟩=>some b
 | _=>none
def NC(call:Q9)(m:Mem)(v:Value)(vs:List Value):Res :=
 match zH v vs with
 | some (f,vs)=>(call.fn f).run vs m
 | none=>match fR v with
   | some _=>call.yl.run (v::vs) m
   | none=>none
def B24(call:Q9)(x:XC)(xs:LC)(fr:Fr)(m:Mem):Res:=NC call m (x.run fr) (xs.run fr)
def B0Z(f:FnC)(xs:LC)(fr:Fr)(m:Mem):Res:=f.run (xs.run fr) m
def A2S(P:Program)(c:OpC)(o:Oper)(fr:Fr)(m:Mem):Res :=
 match c.run fr m with
 | some r=>some r
 | none=>match A0S P fr m o.op with
   | some r=>some r
   | none=>match dsM P fr m o.op with
     | some r=>some r
     | none=>xtM P fr m o
def Z9(P:Program)(call:Q9)(o:Oper):OpC :=
 match o.op with
 | .call ⟨.value (.func f),xs,_⟩=>⟨B0Z (call.fn f) (xG xs.toList)⟩
 | .call ⟨.value x,xs,_⟩=>⟨B24 call (U8 x) (xG xs.toList)⟩
 | op=>⟨A2S P (CG P op) o⟩
def CC(nt:Nat)(d:Option Tmp):Bool :=
 match d with
 | some d=>Nat.blt d nt
 | none=>true
structure B1R where
 run:Value→Fr→(Fr→Option S)→Option S
def yB(d:Option Tmp):B1R :=
 match d with
 | some t=>⟨xR (sel (t / 64%8)) (sel (t / 8%8)) (sel (t%8))⟩
 | none=>⟨fun _ fr k=>k fr⟩
structure A4J where
 run:S→Option S
def mU(c:OpC)(d:B1R)(next:A4J)(s:S):Option S :=
 match s with
 | ⟨fr,m⟩=>match c.run fr m with
   | some (v,m')=>bif Nat.ble m.hi m'.hi then d.run v fr fun fr=>next.run ⟨fr,m'⟩else none
   | none=>none
def gC(nt:Nat)(all:List Oper)(o:Oper)(c:OpC)(d:B1R)(next:A4J)(s:S):Option S :=
 match s with
 | ⟨fr,⟨H,n,W,hi,lg⟩⟩=>match bZ nt fr lg all o with
   | some (true,lg)=>mU c d next ⟨fr,⟨H,n,W,hi,lg⟩⟩
   | some (false,lg)=>d.run undef fr fun fr=>next.run ⟨fr,⟨H,n,W,hi,lg⟩⟩
   | none=>none
def X7(P:Program)(nt gl:Nat)(call:Q9)(all:List Oper):List Oper→A4J
 | []=>⟨some⟩
 | o::r=>bif CC nt o.dst && RQ nt gl o.op then match o.guard with
   | none=>⟨fun s=>mU (Z9 P call o) (yB o.dst) (X7 P nt gl call all r) s⟩
   | some _=>⟨fun s=>gC nt all o (Z9 P call o) (yB o.dst) (X7 P nt gl call all r) s⟩
   else⟨fun _=>none⟩
structure Rec where
 i:Nat
 lo:Nat
 hi:Nat
inductive Cls where
 | free
 | one (b:Nat)
 | all
def B3y(fr:Fr)(o:Op):Cls :=
 match o with
 | .move _|.assign _|.pick ..|.alloc _|.box ..|.build ..|.buildSlice ..|.nilCheck _|.binOp ..|.unOp ..|.makeInterface ..|.makeFunc ..|.makeMap ..|.makeSlice ..
 | .fieldAddr ..|.field ..|.indexAddr ..|.index ..|.extract ..|.range ..=>.free
 | .slice _ x _ _ _=>match ev fr x with
   | .slice _ _ _|.string _|.pointer _|.complex _ _ _=>.free
   | _=>.all
 | .convert _ _ x=>match ev fr x with
   | .int _ _|.string _=>.free
   | _=>.all
 | .call ⟨.builtin .len,xs,_⟩=>match evL fr xs.toList with
   | [.slice _ _ _]|[.string _]=>.free
   | _=>.all
 | .call ⟨.builtin .min,_,_⟩|.call ⟨.builtin .max,_,_⟩=>.free
 | .call ⟨.builtin .unsafeSliceData,xs,_⟩=>match evL fr xs.toList with
   | [.slice _ _ _]=>.free
   | _=>.all
 | .load _ x|.store _ x _=>match ev fr x with
   | .pointer (some a)=>.one a.block
   | _=>.all
 | _=>.all
def FY(H:Hp AB):I1→Hp AB
 | []=>H
 | b::r=>Hp.put H b none fun H=>FY H r
def HE(H0 H:Hp AB):I1→Hp AB
 | []=>H
 | b::r=>Hp.put H b (Hp.get H0 b) fun H=>HE H0 H r
def QX:Nat→Nat→I1
 | _,0=>[]
 | lo,n+1=>lo::QX (lo+1) n
def n9:List Rec→I1
 | []=>[]
 | r::rs=>QX r.lo (r.hi-r.lo)++n9 rs
def aT(l:List Nat)(b:Nat):Bool:=l.any (Nat.beq b)
def JZ(l:List Nat):Bool:=l.all fun b=>Nat.ble b I4
def FF(b:List Nat)(rs:List Rec):List Rec:=rs.filter fun r=>!(aT b r.i)
def DZ(m:Mem)(c:Cls)(us:List Rec):Option Mem :=
 match m with
 | ⟨H,n,_,hi,lg⟩=>match c with
   | .free=>some ⟨hp0,n,[],hi,lg⟩
   | .one b=>bif aT (n9 us) b || !(Nat.ble b I4)then none else Hp.put hp0 b (Hp.get H b) fun H=>some ⟨H,n,[],hi,lg⟩
   | .all=>bif JZ (n9 us)then some ⟨FY H (n9 us),n,[],hi,lg⟩else none
def nG(m m':Mem):Option Mem :=
 bif Nat.ble m'.hi m.n then(match m with|⟨H,n,W,hi,_⟩=>some ⟨H,n,W,hi,m'.lg⟩)else
 bif Nat.ble m'.hi I4 then JG (HE m'.H m.H (QX m.n (m'.hi-m.n))) fun H=>L2 m'.hi fun n=>some ⟨H,n,m.W,n,m'.lg⟩else none
def WM(fr:Fr)(m:Mem)(o:Oper)(b:List Nat)(rs:List Rec)(op:OpC)(k:Value→Mem→Option S):Option S :=
 let us:=FF b rs
 let c:=B3y fr o.op
 match DZ m c us with
 | some mv=>match op.run fr mv with
   | some (v,m') =>
     match m'.W,Nat.ble m.hi m'.hi with
     | [],true=>match nG m m' with
       | some m2=>k v m2
       | none=>none
     | _,_=>none
   | none=>none
 | none=>none
def wrO:Op→Bool
 | .call _|.store ..|.mapUpdate ..=>true
 | _=>false
def bB:Op→Bool
 | .move _|.assign _|.extract ..|.slice ..=>true
 | _=>false
def B0C:Op→Bool
 | .field ..|.fieldAddr ..|.index ..|.indexAddr ..|.binOp ..|.unOp ..|.build ..|.load ..|.pick ..|.convert ..|.slice ..|.nilCheck _=>true
 | .call ⟨.builtin .len,_,_⟩=>true
 | o=>bB o
def HW(a b:Addr):Bool :=
 match a,b with
 | ⟨x,o,none⟩,⟨y,p,none⟩=>Nat.beq x y && Nat.beq o p
 | _,_=>false
def RD(f g:Fn):Bool :=
 match f,g with
 | .func f,.func g=>Nat.beq f g
 | .yield f,.yield g=>Nat.beq f g
 | _,_=>false
def EO(s:Value→Value→Bool):D4→D4→Bool
 | [],[]=>true
 | a::l,b::r=>s a b && EO s l r
 | _,_=>false
def AG:Nat→Value→Value→Bool
 | _,.bool a,.bool b=>a == b
 | _,.int k n,.int j m=>AH k j && DT n m
 | _,.complex .f64 i t,.complex .f64 j u=>Nat.beq i j && Nat.beq t u
 | _,.complex .f32 i t,.complex .f32 j u=>Nat.beq i j && Nat.beq t u
 | _,.string s,.string t=>decide (s.data.toList=t.data.toList)
 | _,.pointer none,.pointer none=>true
 | _,.pointer (some a),.pointer (some b)=>HW a b
 | _,.slice none n c,.slice none m d=>Nat.beq n m && Nat.beq c d
 | _,.slice (some a) n c,.slice (some b) m d=>HW a b && (Nat.beq n m && Nat.beq c d)
 | _,.map none,.map none=>true
 | _,.map (some a),.map (some b)=>Nat.beq a b
 | _,.nilFunc,.nilFunc=>true
 | _,.nilIface,.nilIface=>true
 | d+1,.func f a b,.func g a' b'=>RD f g && (EO (AG d) a.toList a'.toList && EO (AG d) b.toList b'.toList)
 | d+1,.iface t v,.iface u w=>Nat.beq t u && AG d v w
 | _,_,_=>false
def A06(a b:AB):Bool :=
 match a,b with
 | .frz,.frz=>true
 | .cells cs T ro,.cells cs' T' ro'=>EO (AG 6) cs cs' && (Nat.beq T T' && (ro == ro'))
 | _,_=>false
def A1U(H:Hp AB)(b:Nat):Option (Nat×AB) :=
 match Hp.get H b with
 | some .frz=>some (b,.frz)
 | some (.cells cs T ro)=>some (b,.cells cs T ro)
 | _=>none
def OM(H:Hp AB)(fr:Fr)(o:Op):Option (Nat×AB) :=
 match o with
 | .load _ x=>match ev fr x with
   | .func (.yield 5) ⟨.pointer (some a)::_⟩ _=>A1U H a.block
   | .pointer (some a)=>A1U H a.block
   | _=>none
 | _=>none
def BK(H:Hp AB)(b:Nat)(ab:AB):Bool :=
 match Hp.get H b with
 | some x=>Nat.ble b I4 && A06 x ab
 | none=>false
def uI:Nat:=262144
def IC(m:Mem)(r:Option (Nat×AB))(us:List Rec):Option Mem :=
 match m with
 | ⟨H,_,_,_,lg⟩=>match r with
   | none=>some ⟨hp0,uI,[],uI,lg⟩
   | some (b,ab)=>bif aT (n9 us) b || !(BK H b ab)then none else Hp.put hp0 b (some ab) fun H=>some ⟨H,uI,[],uI,lg⟩
def mY(fr:Fr)(m:Mem)(o:Oper)(b:List Nat)(rs:List Rec)(op:OpC):Option (Value×Lg) :=
 match IC m (OM m.H fr o.op) (FF b rs)with
 | some mv=>match op.run fr mv with
   | some (v,⟨_,_,[],hi,lg⟩)=>bif Nat.beq hi uI then some (v,lg)else none
   | _=>none
 | none=>none
abbrev Qs:=List (Nat×Option (Nat×AB))
def KA:Nat→I1→Qs→Bool
 | 0,_,_=>true
 | n+1,b,qs=>(aT b n || qs.any fun q=>Nat.beq n q.1) && KA n b qs
def IT(i:Nat):List I1→List Oper→Bool
 | c::bs,o::r=>(aT c i || bB o.op) && IT i bs r
 | _,_=>true
def A78(H:Hp AB)(r:Option (Nat×AB)):Bool :=
 match r with
 | none=>true
 | some (b,ab)=>BK H b ab
def A2F(b:List Nat)(H:Hp AB)(qs:Qs):Bool:=qs.all fun q=>aT b q.1 || A78 H q.2
def LT(o:Op)(i:Nat)(b:List Nat)(bs:List I1)(r:List Oper)(qs:Qs):Bool:=wrO o && (KA i b qs && IT i bs r)
def x9(P:Program)(nt gl:Nat)(call:Q9)(all:List Oper):List Oper→Nat→List I1→List Rec→Qs→S→Option S
 | [],_,_,_,_,s=>some s
 | _::_,_,[],_,_,_=>none
 | o::r,i,b::bs,rs,qs,⟨fr,⟨H,n,W,hi,lg⟩⟩=>match bZ nt fr lg all o,CC nt o.dst && RQ nt gl o.op with
   | some (true,lg),true=>bif LT o.op i b bs r qs then(match (Z9 P call o).run fr ⟨H,n,W,hi,lg⟩with
      | some (v,m2)=>bif Nat.ble hi m2.hi && A2F b m2.H qs then(yB o.dst).run v fr fun fr=>x9 P nt gl call all r (i+1) bs [] qs ⟨fr,m2⟩else none
      | none=>none)
     else match (bif B0C o.op then mY fr ⟨H,n,W,hi,lg⟩ o b rs (Z9 P call o)else none)with
      | some (v,lg2)=>(yB o.dst).run v fr fun fr2=>x9 P nt gl call all r (i+1) bs rs ((i,OM H fr o.op)::qs) ⟨fr2,⟨H,n,W,hi,lg2⟩⟩
      | none=>bif bB o.op then none else WM fr ⟨H,n,W,hi,lg⟩ o b rs (Z9 P call o) fun v m2 =>
        (yB o.dst).run v fr fun fr=>x9 P nt gl call all r (i+1) bs (⟨i,n,m2.n⟩::rs) qs ⟨fr,m2⟩
   | some (false,lg),true=>(yB o.dst).run undef fr fun fr=>x9 P nt gl call all r (i+1) bs rs ((i,none)::qs) ⟨fr,⟨H,n,W,hi,lg⟩⟩
   | _,_=>none
def A4G(l:List Nat)(b:Nat):I1:=bif aT l b then l else L2 b fun b=>b::l
def VO:I1→I1→I1
 | [],b=>b
 | x::a,b=>A4G (VO a b) x
def uL(acc:List I1):List Edge→I1
 | []=>[]
 | e::r=>bif Region.binds .any e then A4G (VO (acc.getD e.on []) (uL acc r)) e.on else uL acc r
def m6:List Oper→List I1→List I1
 | [],acc=>acc
 | o::r,acc=>U2 (uL acc o.after.toList) fun a=>m6 r (acc++[a])
def sC:Operand→List Tmp
 | .tmp t=>[t]
 | _=>[]
def Y7(ops:List Oper)(o:Oper):List Tmp :=
 o.dst.toList++(o.op.operands.toList.flatMap sC++(match o.guard with
  | none=>[]
  | some (j,_)=>match ops[j]? with
    | some p=>p.dst.toList
    | none=>[]))
def A5D(an:List I1)(i k:Nat):Bool:=bif Nat.blt i k then aT (an.getD k []) i else aT (an.getD i []) k
def uP(an:List I1)(i:Nat)(sl:List Tmp):List Oper→Nat→Bool
 | [],_=>true
 | p::r,k=>(Nat.beq k i || (match p.dst with|none=>true|some t=>!(aT sl t) || A5D an i k)) && uP an i sl r (k+1)
def pN(i:Nat):List Edge→Bool
 | []=>true
 | e::r=>(!(Region.binds .any e) || Nat.blt e.on i) && pN i r
def MZ(ops:List Oper)(an:List I1):List Oper→Nat→Bool
 | [],_=>true
 | o::r,i=>pN i o.after.toList && (uP an i (Y7 ops o) ops 0 && MZ ops an r (i+1))
def JR(ops:Array Oper):Bool:=MZ ops.toList (m6 ops.toList []) ops.toList 0
def JV:Op→Bool
 | .move _|.assign _|.load _ _|.store _ _ _=>true
 | _=>false
def oK:Op→Option (TypeId×Operand)
 | .load t x=>some (t,x)
 | .store t x _=>some (t,x)
 | _=>none
def iK:Op→Bool
 | .store _ _ _=>true
 | _=>false
def A1S:Op→List Tmp
 | .move x|.assign x=>sC x
 | .load _ x=>sC x
 | .store _ x y=>sC x++sC y
 | _=>[]
def EW(o:Oper)(l:List Tmp):Bool :=
 match o.dst with
 | some d=>aT l d
 | none=>false
def B3F(a b:Oper):Bool :=
 (match a.dst,b.dst with
   | some d,some e=>!(Nat.beq d e)
   | _,_=>true) && (!(EW a (A1S b.op)) && (!(EW b (A1S a.op)) && !(iK a.op && iK b.op)))
def uA(o:Oper)(i:Nat):Bool:=o.after.any fun e=>Region.binds .any e && Nat.beq e.on i
def A4H(l:List Oper):List Tmp:=l.flatMap fun o=>match oK o.op with
 | some (_,x)=>sC x
 | none=>[]
def IF(p:Oper→Oper→Bool)(l:List Oper):Bool :=
 (List.range l.length).all fun j=>(List.range j).all fun i=>match l[i]?,l[j]? with
   | some a,some b=>uA b i || p a b
   | _,_=>true
def B0J(ads:List Tmp)(i:Nat)(o:Oper):Bool:=JV o.op && ((match o.guard with|none=>true|some _=>false) && (!(EW o ads) && o.after.all fun e=>!(Region.binds .any e) || Nat.blt e.on i))
def A1q(ads:List Tmp):Nat→List Oper→Bool
 | _,[]=>true
 | i,o::l=>B0J ads i o && A1q ads (i+1) l
def mW(l:List Oper):Bool:=A1q (A4H l) 0 l && IF B3F l
def A1j(P:Program)(nt gl:Nat)(fr:Fr)(H:Hp AB)(o:Oper):Bool :=
 match oK o.op with
 | none=>true
 | some (t,x)=>bif !(okX nt gl x)then false else match ev fr x,bF P t,H7 P t with
   | .pointer (some a),some _,some s=>match a.spot,Hp.get H a.block with
     | none,some (.cells cs _ false)=>Nat.ble (a.off+s) cs.length && (Nat.blt a.off cs.length && Nat.ble a.block I4)
     | _,_=>false
   | _,_,_=>false
def A4D(fr:Fr)(a b:Oper):Bool :=
 bif iK a.op || iK b.op then match oK a.op,oK b.op with
  | some (_,x),some (_,y)=>match ev fr x,ev fr y with
    | .pointer (some p),.pointer (some q)=>!(Nat.beq p.block q.block)
    | _,_=>false
  | _,_=>true else true
def nI(P:Program)(nt gl:Nat)(fr:Fr)(H:Hp AB)(l:List Oper):Bool:=l.all (A1j P nt gl fr H) && IF (A4D fr) l
structure iS where
 run:S→Option (Ex×S)
def FK(f:iS):Nat→S→Option (Ex×S)
 | 0,_=>none
 | n+1,s=>match f.run s with
   | some (.normal,s)=>FK f n s
   | r=>r
def A31(a b:iS)(s:S):Option (Ex×S) :=
 match a.run s with
 | some (.normal,s)=>b.run s
 | r=>r
def PP(c:XC)(a b:iS)(s:S):Option (Ex×S) :=
 match c.run s.fr with
 | .bool true=>a.run s
 | .bool false=>b.run s
 | v=>match s with
   | ⟨fr,⟨H,n,W,hi,lg⟩⟩=>match brL lg v with
     | some (true,lg)=>a.run ⟨fr,⟨H,n,W,hi,lg⟩⟩
     | some (false,lg)=>b.run ⟨fr,⟨H,n,W,hi,lg⟩⟩
     | none=>none
def CO(id:Nat)(c:iS)(s:S):Option (Ex×S) :=
 match c.run s with
 | some (.exit j,s)=>bif Nat.beq j id then some (.normal,s)else some (.exit j,s)
 | r=>r
def l7(r:A4J)(s:S):Option (Ex×S) :=
 match r.run s with
 | some s=>some (.normal,s)
 | none=>none
structure LpT where
 me:FuncId
 look:List Bool→Option (S→Option (Ex×S))
def FL(c:iS)(L:S→Option (Ex×S)):Nat→S→Option (Ex×S)
 | 0,_=>none
 | n+1,s=>match L s with
   | some r=>some r
   | none=>match c.run s with
     | some (.normal,s)=>FL c L n s
     | r=>r
def PN(c:iS)(l:Option (S→Option (Ex×S)))(s:S):Option (Ex×S) :=
 match l with
 | some f=>FL c f 4 s
 | none=>FK c 1000000 s
def frL(fr:Fr):Nat→Nat→D4
 | _,0=>[]
 | i,n+1=>fr.get i::frL fr (i+1) n
def A7l:Value→Nat
 | .pointer (some a)=>a.block
 | _=>0
def kC(v:Value):I1 :=
 match v with
 | .func (.yield 8) ⟨l⟩ ⟨[]⟩=>l.map A7l
 | _=>[]
def exN:Ex→Nat
 | .normal=>0
 | .ret=>2
 | .exit k=>k+4
def nEx:Nat→Option Ex
 | 0=>some .normal
 | 1=>none
 | 2=>some .ret
 | 3=>none
 | k+4=>some (.exit k)
def IW:Ex→Bool
 | .normal=>true
 | _=>false
def sS(fr:Fr)(hi:Nat)(b:Nat)(r:Res):Option (Ex×S) :=
 match r with
 | some (_,m)=>match Hp.get m.H b with
   | some (.lp f q vs st)=>match nEx st with
     | some e=>bif Nat.ble hi m.hi then match gA m b (.lp f q vs 3)with
       | some m=>some (e,⟨fr,m⟩)
       | none=>none else none
     | none=>none
   | _=>none
 | none=>none
def tO(P:Program)(f:FuncId):Bool :=
 match P.funcs.toList[f]? with
 | some fn=>match fn.body with
   | some _=>true
   | none=>false
 | none=>false
def cX(P:Program)(nt:Nat)(call:Q9)(f:FuncId)(q:List Bool)(g:Value)(fr:Fr)(m:Mem):Option (Ex×S) :=
 U2 (frL fr 0 nt) fun vs=>match p9 m (.lp f q vs 0) yv with
 | some (v,m1)=>match zH g [v],fR v with
   | some (k,as),some b=>bif tO P k then sS fr m1.hi b ((call.fn k).run as m1)else none
   | _,_=>none
 | none=>none
def CM(P:Program)(nt:Nat)(call:Q9)(f:FuncId)(q:List Bool)(x:XC)(s:S):Option (Ex×S) :=
 match s with
 | ⟨fr,m⟩=>bif Nat.ble nt 510 then match fR (fr.get 511)with
   | some b0=>match Hp.get m.H b0 with
     | some (.lp _ _ _ 1)=>cX P nt call f q (x.run fr) fr m
     | _=>none
   | none=>bif pI (fr.get 511)then match p9 m (.dfr true) (fun b=>.pointer (some ⟨b,0,none⟩))with
      | some (.pointer (some a),m1)=>U2 (kC (fr.get 510)) fun l=>xR (sel 7) (sel 7) (sel 6) (dv (a.block::l)) fr fun fr2=>cX P nt call f q (x.run fr) fr2 m1
      | _=>none else none
   else none
def P0(P:Program)(nt gl:Nat)(call:Q9)(lp:LpT):List Bool→Code→iS
 | _,.skip=>⟨fun s=>some (.normal,s)⟩
 | _,.label _=>⟨fun s=>some (.normal,s)⟩
 | _,.region _ ops d=>match d with
   | false=>⟨fun s=>l7 (X7 P nt gl call ops.toList ops.toList) s⟩
   | true=>bif JR ops then bif mW ops.toList then⟨fun s=>bif nI P nt gl s.fr s.m.H ops.toList then l7 (X7 P nt gl call ops.toList ops.toList) s else l7 ⟨x9 P nt gl call ops.toList ops.toList 0 (m6 ops.toList []) [] []⟩ s⟩
     else⟨fun s=>l7 ⟨x9 P nt gl call ops.toList ops.toList 0 (m6 ops.toList []) [] []⟩ s⟩else⟨fun _=>none⟩
 | q,.seq a b=>⟨fun s=>A31 (P0 P nt gl call lp (q++[false]) a) (P0 P nt gl call lp (q++[true]) b) s⟩
 | q,.cond c a b=>bif okX nt gl c then⟨fun s=>PP (U8 c) (P0 P nt gl call lp (q++[false]) a) (P0 P nt gl call lp (q++[true]) b) s⟩else⟨fun _=>none⟩
 | q,.block id c=>⟨fun s=>CO id (P0 P nt gl call lp (q++[false]) c) s⟩
 | q,.loop c=>⟨fun s=>PN (P0 P nt gl call lp (q++[false]) c) (lp.look q) s⟩
 | q,.rangeFunc x _ _ _=>bif okX nt gl x then⟨fun s=>CM P nt call lp.me q (U8 x) s⟩else⟨fun _=>none⟩
 | q,.scope c=>P0 P nt gl call lp (q++[false]) c
 | _,.exit id=>⟨fun s=>some (.exit id,s)⟩
 | _,.ret=>⟨fun s=>some (.ret,s)⟩
 | _,_=>⟨fun _=>none⟩
def SJ(ids:Value→List Nat):D4→I1
 | []=>[]
 | v::r=>ids v++SJ ids r
def JB:Nat→Value→I1
 | 0,_=>[]
 | _+1,.pointer (some a)=>[a.block]
 | _+1,.slice (some a) _ _=>[a.block]
 | _+1,.map (some b)=>[b]
 | d+1,.func _ a b=>SJ (JB d) a.toList++SJ (JB d) b.toList
 | d+1,.iface _ v=>JB d v
 | d+1,.agg cs=>SJ (JB d) cs.toList
 | d+1,.tuple cs=>SJ (JB d) cs.toList
 | _+1,_=>[]
def B3K:AB→I1
 | .cells cs _ _=>SJ (JB 10) cs
 | .mp _ _ _=>[]
 | .iter _ _=>[]
 | .lp _ _ vs _=>SJ (JB 10) vs
 | .dfr _=>[]
 | .sq _ _ _ g _=>[g]
 | .frz=>[]
def MJ(n0:Nat)(H:Hp AB):Nat→I1→I1→I1
 | 0,_,acc=>acc
 | _+1,[],acc=>acc
 | f+1,b::r,acc=>bif Nat.blt b n0 || aT acc b then MJ n0 H f r acc else match Hp.get H b with
   | some ab=>MJ n0 H f (B3K ab++r) (b::acc)
   | none=>MJ n0 H f r acc
def gN(H' H:Hp AB):I1→Hp AB
 | []=>H
 | b::r=>Hp.put H b (Hp.get H' b) fun H=>gN H' H r
def wOf(H:Hp AB):I1→I1
 | []=>[]
 | b::r=>(match Hp.get H b with|some ab=>B3K ab|none=>[])++wOf H r
def qB:I1→I1→I1
 | [],acc=>acc
 | b::r,acc=>bif aT acc b then qB r acc else qB r (b::acc)
def uZ(low:Value→Bool):D4→Bool
 | []=>true
 | v::r=>low v && uZ low r
def bX(n:Nat):Nat→Value→Bool
 | 0,_=>false
 | _+1,.pointer (some a)=>Nat.blt a.block n
 | _+1,.slice (some a) _ _=>Nat.blt a.block n
 | _+1,.map (some b)=>Nat.blt b n
 | d+1,.func _ a b=>uZ (bX n d) a.toList && uZ (bX n d) b.toList
 | d+1,.iface _ v=>bX n d v
 | d+1,.agg cs=>uZ (bX n d) cs.toList
 | d+1,.tuple cs=>uZ (bX n d) cs.toList
 | _+1,.complex _ _ _=>true
 | _+1,v=>J1 v
def A5S(n:Nat):Option AB→Bool
 | none=>true
 | some (.cells cs _ _)=>uZ (bX n 10) cs
 | some (.mp _ _ _)=>true
 | some (.iter _ _)=>true
 | some (.lp _ _ vs _)=>uZ (bX n 10) vs
 | some (.dfr _)=>true
 | some (.sq _ _ _ g _)=>Nat.blt g n
 | some .frz=>true
def RY(n:Nat)(H:Hp AB):I1→Bool
 | []=>true
 | b::r=>A5S n (Hp.get H b) && RY n H r
def gcM(m m':Mem)(v:Value):Option Mem :=
 let W:=qB (m'.W.filter fun b=>Nat.blt b m.n || Nat.ble m'.hi b) []
 bif bX m.n 10 v && RY m.n m'.H W then
  bif JZ W then JG (gN m'.H m.H W) fun H=>L2 m'.hi fun hi=>U2 (W++m.W) fun W=>some ⟨H,m.n,W,hi,m'.lg⟩else none
 else
  let ids:=(MJ m.n m'.H 100000 (JB 10 v++wOf m'.H W) []).filter fun b=>Nat.ble m.n b && Nat.blt b m'.hi
  bif JZ (W++ids)then JG (gN m'.H m.H (W++ids)) fun H=>L2 m'.n fun n=>L2 m'.hi fun hi=>U2 (W++m.W) fun W=>some ⟨H,n,W,hi,m'.lg⟩else none
def B2C(P:Program)(nt:Nat)(s:S):ResultVar→T5
 | .tmp t=>bif Nat.blt t nt then some (s.fr.get t)else none
 | .cell a t=>bif Nat.blt a nt then match s.fr.get a with
   | .pointer (some a)=>VD P s.m t a
   | _=>none else none
def YG(P:Program)(nt:Nat)(s:S):List ResultVar→Option D4
 | []=>some []
 | r::rs=>match B2C P nt s r,YG P nt s rs with
   | some v,some vs=>some (v::vs)
   | _,_=>none
def YF(fn:Func)(P:Program)(s:S):T5 :=
 match YG P fn.ntmps s fn.results.toList with
 | some [v]=>some v
 | some vs=>some (.tuple ⟨vs⟩)
 | none=>none
def gV(fr:Fr):Nat→D4→Fr
 | _,[]=>fr
 | i,v::r=>xR (sel (i / 64%8)) (sel (i / 8%8)) (sel (i%8)) v fr fun fr=>gV fr (i+1) r
def vG(l:List UInt8)(c:UInt8):Nat→Int
 | i=>match l with
   | [] => -1
   | b::r=>bif decide (b=c)then(i:Int)else vG r c (i+1)
def countB(c:UInt8):List UInt8→Nat→Nat
 | [],n=>n
 | b::r,n=>bif decide (b=c)then L2 (n+1) (countB c r)else countB c r n
def qS(k:EK)(args:List Value)(m:Mem):Res :=
 match k,args with
 | .noEscape,[v]=>some (v,m)
 | .indexByteString,[.string s,.int .u8 (.ofNat c)]=>some (.int .i64 (vG s.data.toList (UInt8.ofNat c) 0),m)
 | .countString,[.string s,.int .u8 (.ofNat c)]=>some (.int .i64 (countB (UInt8.ofNat c) s.data.toList 0),m)
 | .makeNoZero e,[.int .i64 (.ofNat n)]=>bif Nat.ble n 1000000000 then p9 m (.cells [] e false) fun b=>.slice (some ⟨b,0,none⟩) n O6 else none
 | _,_=>none
def sD:I1→Mem→Option Mem
 | [],m=>some m
 | b::r,m=>match Hp.get m.H b with
   | some (.dfr true)=>match gA m b (.dfr false)with
     | some m=>sD r m
     | none=>none
   | _=>none
def dvG(nt:Nat)(fr:Fr):I1:=bif Nat.ble nt 510 then kC (fr.get 510)else[]
def B04(fn:Func)(P:Program)(m:Mem)(r:Option (Ex×S)):Res :=
 match r with
 | some (.normal,⟨fr,m1⟩)|some (.ret,⟨fr,m1⟩)=>match sD (dvG fn.ntmps fr) m1 with
   | some m1=>match YF fn P ⟨fr,m1⟩with
     | some v=>match gcM m m1 v with
       | some m=>some (v,m)
       | none=>none
     | none=>none
   | none=>none
 | _=>none
def QW(c:iS)(fr:Fr)(m:Mem):Option (Ex×S) :=
 match m with
 | ⟨H,n,_,hi,lg⟩=>c.run ⟨fr,⟨H,n,[],hi,lg⟩⟩
def xI(fn:Func)(P:Program)(c:iS)(args:List Value)(m:Mem):Res :=
 bif Nat.ble args.length fn.ntmps && Nat.ble fn.ntmps 512 then B04 fn P m (QW c (gV fr0 0 args) m)else none
structure Cx where
 P:Program
 ext:List (FuncId×EK)
 gl:Nat
 con:FuncId→Option FnC
 lp:FuncId→LpT
def GV(C:Cx)(call:Q9)(f:FuncId):FnC :=
 match C.P.funcs.toList[f]? with
 | none=>⟨fun _ _=>none⟩
 | some fn=>match C.con f with
   | some c=>c
   | none=>match fn.body with
     | none=>match OT C.ext f with
       | some k=>⟨qS k⟩
       | none=>⟨fun _ _=>none⟩
     | some c=>⟨xI fn C.P (P0 C.P fn.ntmps C.gl call (C.lp f) [] c)⟩
def wR:List Tmp→D4→Fr→Option Fr
 | [],[],fr=>some fr
 | t::ts,v::vs,fr=>xR (sel (t / 64%8)) (sel (t / 8%8)) (sel (t%8)) v fr fun fr=>wR ts vs fr
 | _,_,_=>none
def sO(b:Nat)(r:Option (Ex×S)):Res :=
 match r with
 | some (e,⟨_,m⟩)=>match Hp.get m.H b with
   | some (.lp f q vs 1)=>L2 (exN e) fun st=>match gA m b (.lp f q vs st)with
     | some m=>some (.bool (IW e),m)
     | none=>none
   | _=>none
 | none=>none
def sN(b:Nat)(c:iS)(r:Option (Ex×S)):Res :=
 match r with
 | some (.normal,⟨fr,m⟩)=>match Hp.get m.H b with
   | some (.lp f q vs 0)=>match gA m b (.lp f q vs 1)with
     | some m=>sO b (c.run ⟨fr,m⟩)
     | none=>none
   | _=>none
 | _=>none
def HZ(C:Cx)(call:Q9):FnC:=⟨fun vs m =>
 match vs with
 | []=>none
 | v::args=>match fR v with
   | none=>none
   | some b=>match Hp.get m.H b with
     | some (.lp f q fs 0)=>match C.P.funcs.toList[f]? with
       | none=>none
       | some fn=>match fn.body with
         | none=>none
         | some body=>match I0 q body with
           | some (.rangeFunc _ ps as bd)=>bif Nat.ble fn.ntmps 510 && ps.toList.all (fun t=>Nat.blt t fn.ntmps)then match wR ps.toList args (gV fr0 0 fs)with
             | some fr=>xR (sel 7) (sel 7) (sel 7) v fr fun fr=>sN b (P0 C.P fn.ntmps C.gl call (C.lp f) (q++[true]) bd) ((P0 C.P fn.ntmps C.gl call (C.lp f) (q++[false]) as).run ⟨fr,m⟩)
             | none=>none else none
           | _=>none
     | _=>none⟩
def qC(C:Cx):Nat→Q9
 | 0=>⟨fun _=>⟨fun _ _=>none⟩,⟨fun _ _=>none⟩⟩
 | d+1=>⟨GV C (qC C d),HZ C (qC C d)⟩
end
end Go.Sx
