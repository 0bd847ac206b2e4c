/- The law KeymapNamed: for every input the call returns true, and the arguments read behind it as they read before. No condition. -/
import Derived.WalkKit
import Derived.OrdersHeld
import Derived.KernelRfl
set_option linter.all false
set_option maxRecDepth 100000
set_option maxHeartbeats 4000000
namespace Go
variable {p:Prop}
abbrev eK:=@Array.all_eq_true'
abbrev I3:=@Array.ext'
abbrev B5:=@Array.getD_eq_getD_getElem?
abbrev R6:=@Array.getElem?_append_left
abbrev E8:=@Array.getElem?_eq_getElem
abbrev C5:=@Array.getElem?_eq_some_iff
abbrev G7:=@Array.getElem?_modify
abbrev Z7:=@Array.getElem?_push
abbrev fN:=@Array.getElem?_replicate
abbrev l5:=@Array.getElem?_set
abbrev F5:=@Array.getElem?_setIfInBounds
abbrev X3:=@Array.getElem?_toList
abbrev Q3:=@Array.length_toList
abbrev eN:=@Array.mapM_eq_mapM_toList
abbrev Y4:=@Array.mk.injEq
abbrev Y9:=@BitVec.toNat_and
abbrev O9:=@BitVec.toNat_ofInt
abbrev G4:=@Bool.and_eq_true
abbrev lK:=@Bool.and_false
abbrev mY:=@Bool.and_true
abbrev J3:=@Bool.eq_iff_iff
abbrev I9:=@Bool.false_eq_true
abbrev P2:=@Bool.false_or
abbrev P1:=@Bool.not_true
abbrev Y3:=@Bool.or_eq_false_iff
abbrev I1:=@Bool.or_eq_true
abbrev D8:=@Decidable.not_not
abbrev gM:=@Int.eq_ofNat_of_zero_le
abbrev jD:=@Int.ofNat.injEq
abbrev cZ:=@Int.ofNat_le
abbrev T7:=@Int.toNat_natCast
abbrev cS:=@Int.toNat_of_nonneg
abbrev jC:=@List.all_append
abbrev bL:=@List.all_cons
abbrev D0:=@List.all_eq_true
abbrev P0:=@List.any_cons
abbrev O8:=@List.any_eq_true
abbrev L8:=@List.append_assoc
abbrev Q2:=@List.append_nil
abbrev I8:=@List.cons.injEq
abbrev R1:=@List.cons_append
abbrev cB:=@List.count_le_length
abbrev eJ:=@List.drop_drop
abbrev Z1:=@List.drop_eq_getElem_cons
abbrev Q8:=@List.drop_eq_nil_of_le
abbrev eI:=@List.drop_zero
abbrev bC:=@List.eq_nil_iff_forall_not_mem
abbrev L7:=@List.eq_nil_of_length_eq_zero
abbrev fH:=@List.ext_getElem?
abbrev cQ:=@List.filter_eq_self
abbrev jB:=@List.find?_cons
abbrev fF:=@List.flatMap_cons
abbrev O0:=@List.flatten_cons
abbrev bB:=@List.flatten_nil
abbrev B1:=@List.getD_eq_getElem?_getD
abbrev E7:=@List.getElem?_append_left
abbrev D5:=@List.getElem?_append_right
abbrev P9:=@List.getElem?_cons_succ
abbrev P8:=@List.getElem?_cons_zero
abbrev H5:=@List.getElem?_drop
abbrev A5:=@List.getElem?_eq_getElem
abbrev S2:=@List.getElem?_eq_none
abbrev eM:=@List.getElem?_eq_none_iff
abbrev B0:=@List.getElem?_eq_some_iff
abbrev F9:=@List.getElem?_map
abbrev cA:=@List.getElem?_set_ne
abbrev Q7:=@List.getElem?_set_self
abbrev F2:=@List.getElem?_take_of_lt
abbrev I0:=@List.getElem?_toArray
abbrev M7:=@List.getElem_mem
abbrev Z6:=@List.getElem_of_mem
abbrev D6:=@List.length_append
abbrev E5:=@List.length_cons
abbrev E4:=@List.length_drop
abbrev F8:=@List.length_eq_zero_iff
abbrev E3:=@List.length_map
abbrev W9:=@List.length_nil
abbrev cP:=@List.length_pos_iff
abbrev S1:=@List.length_replicate
abbrev Q1:=@List.length_set
abbrev aK:=@List.length_singleton
abbrev K4:=@List.length_take
abbrev S7:=@List.map_append
abbrev cO:=@List.map_congr_left
abbrev C3:=@List.map_cons
abbrev iP:=@List.map_map
abbrev F6:=@List.map_nil
abbrev B7:=@List.mem_append
abbrev B3:=@List.mem_cons
abbrev B8:=@List.mem_cons_of_mem
abbrev B2:=@List.mem_cons_self
abbrev O4:=@List.mem_filter
abbrev L5:=@List.mem_map
abbrev C6:=@List.mem_of_getElem?
abbrev bZ:=@List.mem_of_mem_drop
abbrev V2:=@List.mem_range
abbrev R5:=@List.mem_singleton
abbrev G2:=@List.nil_append
abbrev L4:=@List.not_mem_nil
abbrev aJ:=@List.take_append_drop
abbrev bK:=@Nat.add_assoc
abbrev iO:=@Nat.add_comm
abbrev H1:=@Nat.add_mul
abbrev V1:=@Nat.add_sub_cancel_left
abbrev iN:=@Nat.add_zero
abbrev bA:=@Nat.and_le_right
abbrev cN:=@Nat.and_mod_two_pow
abbrev cY:=@Nat.beq_refl
abbrev nW:=@Nat.ble_eq
abbrev C4:=@Nat.ble_eq_true_of_le
abbrev A0:=@Nat.eq_of_beq_eq_true
abbrev R4:=@Nat.eq_zero_or_pos
abbrev A1:=@Nat.le_of_ble_eq_true
abbrev iM:=@Nat.le_of_lt
abbrev A6:=@Nat.le_refl
abbrev Y2:=@Nat.le_succ
abbrev B9:=@Nat.le_trans
abbrev D1:=@Nat.lt_of_lt_of_le
abbrev F4:=@Nat.lt_or_ge
abbrev I5:=@Nat.lt_succ_self
abbrev V0:=@Nat.mod_eq_of_lt
abbrev nV:=@Nat.mod_lt
abbrev y7:=@Nat.mul_comm
abbrev j9:=@Nat.mul_div_cancel
abbrev eH:=@Nat.mul_le_mul
abbrev F3:=@Nat.mul_le_mul_right
abbrev fE:=@Nat.one_mul
abbrev bY:=@Nat.pow_le_pow_right
abbrev iL:=@Nat.sub_self
abbrev X5:=@Nat.succ_le_of_lt
abbrev E9:=@Nat.zero_add
abbrev lJ:=@Nat.zero_le
abbrev iK:=@Nat.zero_mul
abbrev D9:=@Option.bind_eq_some_iff
abbrev J2:=@Option.bind_some
abbrev aZ:=@Option.getD_some
abbrev y6:=@Option.map_eq_some_iff
abbrev K3:=@Option.map_some
abbrev A8:=@Option.some.inj
abbrev C9:=@Option.some.injEq
abbrev L1:=@Prod.mk.injEq
abbrev A4:=@Sem.run_bind
abbrev D4:=@cond_false
abbrev D7:=@cond_true
abbrev F0:=@congrArg
abbrev E0:=@decide_eq_false
abbrev I2:=@decide_eq_true
abbrev A7:=@if_neg
abbrev A9:=@if_pos
abbrev I7:=@of_decide_eq_true
def D2(h:p:=by kernel_rfl):p:=h
def J9{α:Type}{a:Option α}{b c:α}(h:a=some b)(e:b=c:=by kernel_rfl):a=some c:=h.trans (by rw[e])
def A2(h:p:=by omega):p:=h
def F1(h:p:=by decide):p:=h
end Go
namespace Go.Sx
section
open Go
abbrev C8:=List Value
abbrev G5:=List Nat
abbrev P5:=Option Value
abbrev U9:=Array Value
structure N8 (α:Type) where
 c0:α
 c1:α
 c2:α
 c3:α
 c4:α
 c5:α
 c6:α
 c7:α
structure Sel where
 get:{α:Type}->N8 α->α
 upd:{α β:Type}->N8 α->α->(N8 α->β)->β
def sel:Nat->Sel
 | 0=>⟨fun n=>n.c0,fun n v k=>match n with|⟨a0,a1,a2,a3,a4,a5,a6,a7⟩=>k ⟨v,a1,a2,a3,a4,a5,a6,a7⟩⟩
 | 1=>⟨fun n=>n.c1,fun n v k=>match n with|⟨a0,a1,a2,a3,a4,a5,a6,a7⟩=>k ⟨a0,v,a2,a3,a4,a5,a6,a7⟩⟩
 | 2=>⟨fun n=>n.c2,fun n v k=>match n with|⟨a0,a1,a2,a3,a4,a5,a6,a7⟩=>k ⟨a0,a1,v,a3,a4,a5,a6,a7⟩⟩
 | 3=>⟨fun n=>n.c3,fun n v k=>match n with|⟨a0,a1,a2,a3,a4,a5,a6,a7⟩=>k ⟨a0,a1,a2,v,a4,a5,a6,a7⟩⟩
 | 4=>⟨fun n=>n.c4,fun n v k=>match n with|⟨a0,a1,a2,a3,a4,a5,a6,a7⟩=>k ⟨a0,a1,a2,a3,v,a5,a6,a7⟩⟩
 | 5=>⟨fun n=>n.c5,fun n v k=>match n with|⟨a0,a1,a2,a3,a4,a5,a6,a7⟩=>k ⟨a0,a1,a2,a3,a4,v,a6,a7⟩⟩
 | 6=>⟨fun n=>n.c6,fun n v k=>match n with|⟨a0,a1,a2,a3,a4,a5,a6,a7⟩=>k ⟨a0,a1,a2,a3,a4,a5,v,a7⟩⟩
 | _=>⟨fun n=>n.c7,fun n v k=>match n with|⟨a0,a1,a2,a3,a4,a5,a6,a7⟩=>k ⟨a0,a1,a2,a3,a4,a5,a6,v⟩⟩
def nU{α:Type}(v:α):N8 α:=⟨v,v,v,v,v,v,v,v⟩
def DQ{α β:Type}(n:N8 α)(k:N8 α->β):β :=
 match n with
 | ⟨a0,a1,a2,a3,a4,a5,a6,a7⟩=>k ⟨a0,a1,a2,a3,a4,a5,a6,a7⟩
abbrev Fr:=N8 (N8 (N8 Value))
def Fr.get(fr:Fr)(t:Nat):Value:=(sel (t%8)).get ((sel (t / 8%8)).get ((sel (t / 64%8)).get fr))
def tT{β:Type}(a b c:Sel)(v:Value)(fr:Fr)(k:Fr->β):β :=
 c.upd (b.get (a.get fr)) v fun d=>b.upd (a.get fr) d fun e=>a.upd fr e k
def Fr.set(fr:Fr)(t:Nat)(v:Value):Fr:=tT (sel (t / 64%8)) (sel (t / 8%8)) (sel (t%8)) v fr fun fr=>fr
def fr0:Fr:=nU (nU (nU (.tuple #[])))
abbrev Hp(α:Type):=N8 (N8 (N8 (N8 (N8 (N8 (Option α))))))
def Hp.get{α:Type}(h:Hp α)(n:Nat):Option α :=
 (sel (n%8)).get ((sel (n / 8%8)).get ((sel (n / 64%8)).get ((sel (n / 512%8)).get ((sel (n / 4096%8)).get ((sel (n / 32768%8)).get h)))))
def W6{α β:Type}(a b c d e f:Sel)(v:Option α)(h:Hp α)(k:Hp α->β):β :=
 f.upd (e.get (d.get (c.get (b.get (a.get h))))) v fun l=>e.upd (d.get (c.get (b.get (a.get h)))) l fun m=>d.upd (c.get (b.get (a.get h))) m fun i=>c.upd (b.get (a.get h)) i fun g=>b.upd (a.get h) g fun j=>a.upd h j k
def Hp.put{α β:Type}(h:Hp α)(n:Nat)(v:Option α)(k:Hp α->β):β :=
 W6 (sel (n / 32768%8)) (sel (n / 4096%8)) (sel (n / 512%8)) (sel (n / 64%8)) (sel (n / 8%8)) (sel (n%8)) v h k
def Hp.set{α:Type}(h:Hp α)(n:Nat)(v:Option α):Hp α:=h.put n v fun h=>h
def hp0{α:Type}:Hp α:=nU (nU (nU (nU (nU (nU none)))))
def H3:Nat:=262143
def J0{β:Type}(n:Nat)(k:Nat->β):β :=
 match n with
 | 0=>k 0
 | m+1=>k (Nat.succ m)
def xA{β:Type}(i:Int)(k:Int->β):β :=
 match i with
 | .ofNat n=>J0 n fun n=>k (.ofNat n)
 | .negSucc n=>J0 n fun n=>k (.negSucc n)
def Q0{α β:Type}:List α->(List α->β)->β
 | [],k=>k []
 | x::r,k=>Q0 r fun r=>k (x::r)
def KI:IntKind->Nat
 | .i8=>127|.i16=>32767|.i32=>2147483647|.i64=>9223372036854775807
 | .u8=>255|.u16=>65535|.u32=>4294967295|.u64=>18446744073709551615
def zE(k:IntKind)(n:Int):Int :=
 match n with
 | .ofNat m=>bif Nat.ble m (KI k)then .ofNat m else k.wrap (.ofNat m)
 | .negSucc m=>k.wrap (.negSucc m)
def A7w(a b:Int):Int :=
 match a,b with
 | .ofNat m,.ofNat n=>.ofNat (Nat.add m n)
 | a,b=>a+b
def A4o(a b:Int):Int :=
 match a,b with
 | .ofNat m,.ofNat n=>bif Nat.ble n m then .ofNat (Nat.sub m n)else .ofNat m - .ofNat n
 | a,b=>a-b
def A6p(a b:Int):Int :=
 match a,b with
 | .ofNat m,.ofNat n=>.ofNat (Nat.mul m n)
 | a,b=>a*b
def ltF(a b:Int):Bool :=
 match a,b with
 | .ofNat m,.ofNat n=>Nat.blt m n
 | .negSucc _,.ofNat _=>true
 | .ofNat _,.negSucc _=>false
 | .negSucc m,.negSucc n=>Nat.blt n m
def leF(a b:Int):Bool :=
 match a,b with
 | .ofNat m,.ofNat n=>Nat.ble m n
 | .negSucc _,.ofNat _=>true
 | .ofNat _,.negSucc _=>false
 | .negSucc m,.negSucc n=>Nat.ble n m
def zA(a b:Int):Bool :=
 match a,b with
 | .ofNat m,.ofNat n=>Nat.beq m n
 | .negSucc m,.negSucc n=>Nat.beq m n
 | _,_=>false
def sK:IntKind->IntKind->Bool
 | .i8,.i8|.i16,.i16|.i32,.i32|.i64,.i64|.u8,.u8|.u16,.u16|.u32,.u32|.u64,.u64=>true
 | _,_=>false
def mkI(k:IntKind)(n:Int):Value:=xA n fun n=>.int k n
inductive U where
 | none
 | int (k:IntKind) (n:Int)
 | bool (b:Bool)
 | str (s:List UInt8)
 | seq (nul:Bool) (w:Nat) (rows:List (List U))
inductive LOp where
 | bin (op:BinOp)
 | un (op:UnOp)
 | conv (k:IntKind)
 | len
 | idx
 | sub
 | sub1
 | sel
 | eqs
 | inb
 | max
 | min
 | mks
 | inbs (w:Nat)
 | get (w o:Nat)
 | mk (w:Nat)
 | nilw (w:Nat)
 | nilp
 | snoc (w:Nat)
 | cat (w:Nat)
 | cats
 | set (w o:Nat)
 | subs (w:Nat)
 | str
 | byt
 | rep (w:Nat)
 | ustr
 | mhas (w kw:Nat)
 | mget (w kw o:Nat)
 | mput (w kw:Nat)
 | rune
 | rpos
inductive d9 where
 | lt (i t:Nat) (op:LOp) (xs:List Value)
 | dt (i t:Nat) (op:LOp) (xs:List Value)
 | br (i:Nat) (b:Bool)
 | as (op:LOp) (xs:List Value)
 | con (spec:List U->Option (Nat×List U)) (xs:List Value) (i d n:Nat)
structure Lg where
 nx:Nat
 pi:G5
 log:List d9
def hole(i t:Nat):Value:=.complex .f64 i t
def junk:Value:=.complex .f32 0 0
def ixp(a:Addr)(s:Nat)(i:Value)(n:Nat):Value:=.func (.yield 1) ⟨[.pointer (some a),.int .i64 (.ofNat s),i,.int .i64 (.ofNat n)]⟩ ⟨[]⟩
def dat(b i t:Nat):Value:=.func (.yield 2) ⟨[.pointer (some ⟨b,0,none⟩),.complex .f64 i t]⟩ ⟨[]⟩
def clp(b i t:Nat):Value:=.func (.yield 3) ⟨[.pointer (some ⟨b,0,none⟩),.complex .f64 i t]⟩ ⟨[]⟩
def own(b i t:Nat):Value:=.func (.yield 4) ⟨[.pointer (some ⟨b,0,none⟩),.complex .f64 i t]⟩ ⟨[]⟩
def dpt(b i t:Nat)(z:Value)(o:Nat):Value:=.func (.yield 5) ⟨[.pointer (some ⟨b,0,none⟩),.complex .f64 i t,z,.int .i64 (.ofNat o)]⟩ ⟨[]⟩
def opt(b i t:Nat)(z:Value)(o:Nat):Value:=.func (.yield 6) ⟨[.pointer (some ⟨b,0,none⟩),.complex .f64 i t,z,.int .i64 (.ofNat o)]⟩ ⟨[]⟩
def yv(b:Nat):Value:=.func (.yield 7) ⟨[.pointer (some ⟨b,0,none⟩)]⟩ ⟨[]⟩
def sdt(b:Nat):Value:=.func (.yield 9) ⟨[.pointer (some ⟨b,0,none⟩)]⟩ ⟨[]⟩
def dv(ids:List Nat):Value:=.func (.yield 8) ⟨ids.map fun b=>.pointer (some ⟨b,0,none⟩)⟩ ⟨[]⟩
def YP:Value->Bool
 | .complex .f32 _ _=>true
 | _=>false
def one:Value:=.complex .f32 1 0
def iA:Value->Bool
 | .complex .f32 i _=>!(Nat.beq i 1)
 | _=>false
def gD:IntKind->Nat
 | .i8=>0|.i16=>1|.i32=>2|.i64=>3|.u8=>4|.u16=>5|.u32=>6|.u64=>7
def G1:Value->Nat
 | .int k _=>gD k
 | .bool _=>8
 | .string _=>9
 | .complex .f64 _ t=>t
 | _=>99
inductive AB where
 | cells (cs:List Value) (T:TypeId) (ro:Bool)
 | sq (c t:Nat) (T:TypeId) (g:Nat) (ro:Bool)
 | frz
 | mp (c t:Nat) (T:TypeId)
 | iter (vs:List Value)
 | lp (f:FuncId) (q:List Bool) (vs:List Value) (st:Nat)
 | dfr (b:Bool)
structure Mem where
 H:Hp AB
 n:Nat
 W:G5
 hi:Nat
 lg:Lg
structure S where
 fr:Fr
 m:Mem
inductive Ex where
 | normal
 | exit (id:Nat)
 | ret
def H7:List Bool->Code->Option Code
 | [],c=>some c
 | false::q,.seq a _=>H7 q a
 | true::q,.seq _ b=>H7 q b
 | false::q,.cond _ a _=>H7 q a
 | true::q,.cond _ _ b=>H7 q b
 | false::q,.block _ c=>H7 q c
 | false::q,.scope c=>H7 q c
 | false::q,.loop c=>H7 q c
 | false::q,.rangeFunc _ _ a _=>H7 q a
 | true::q,.rangeFunc _ _ _ b=>H7 q b
 | _::_,_=>none
def L9:Nat:=9223372036854775808
def H9:Value->Bool
 | .bool _|.int _ _|.string _|.pointer none|.slice none _ _|.map none|.nilFunc|.nilIface=>true
 | _=>false
def OE:Value->Bool
 | .agg cs=>cs.toList.all H9
 | v=>H9 v
def ev(fr:Fr):Operand->Value
 | .tmp t=>fr.get t
 | .const v=>v
 | .global g=>.pointer (some ⟨g,0,none⟩)
 | .func f=>.func (.func f) #[] #[]
def okX(nt gl:Nat):Operand->Bool
 | .tmp t=>Nat.blt t nt
 | .const v=>OE v
 | .global g=>Nat.blt g gl
 | .func _=>true
def evL(fr:Fr):List Operand->C8
 | []=>[]
 | x::r=>ev fr x::evL fr r
def evP(fr:Fr):List (Nat×Operand)->List (Nat×Value)
 | []=>[]
 | (i,x)::r=>(i,ev fr x)::evP fr r
def evO(fr:Fr):Option Operand->P5
 | none=>none
 | some x=>some (ev fr x)
structure XC where
 run:Fr->Value
def A90(a b c:Sel):XC:=⟨fun fr=>c.get (b.get (a.get fr))⟩
def Q9:Operand->XC
 | .tmp t=>A90 (sel (t / 64%8)) (sel (t / 8%8)) (sel (t%8))
 | .const v=>⟨fun _=>v⟩
 | .global g=>⟨fun _=>.pointer (some ⟨g,0,none⟩)⟩
 | .func f=>⟨fun _=>.func (.func f) #[] #[]⟩
def dH(x:Operand)(fr:Fr):(Q9 x).run fr=ev fr x:=by cases x<;>rfl
structure LC where
 run:Fr->C8
def A7g(x:XC)(r:LC)(fr:Fr):C8:=x.run fr::r.run fr
def tF:List Operand->LC
 | []=>⟨fun _=>[]⟩
 | x::r=>⟨fun fr=>A7g (Q9 x) (tF r) fr⟩
def mJ(fr:Fr):∀ xs:List Operand,(tF xs).run fr=evL fr xs
 | []=>rfl
 | x::r=>by
   show(Q9 x).run fr::(tF r).run fr=_;rw[dH,mJ fr r];rfl
abbrev Res:=Option (Value×Mem)
def upN(hi n:Nat):Nat:=bif Nat.blt n hi then hi else Nat.succ n
def Mem.wLg(m:Mem)(lg:Lg):Mem :=
 match m with
 | ⟨H,n,W,hi,_⟩=>⟨H,n,W,hi,lg⟩
def S5(m:Mem)(t:Nat)(op:LOp)(xs:List Value):Res :=
 match m with
 | ⟨H,n,W,hi,⟨nx,pi,log⟩⟩=>J0 nx fun nx=>J0 t fun t=>Q0 xs fun xs=>some (hole nx t,⟨H,n,W,hi,⟨Nat.succ nx,pi,.lt nx t op xs::log⟩⟩)
def tU(m:Mem)(t:Nat)(op:LOp)(xs:List Value)(k:Nat->Mem->Res):Res :=
 match m with
 | ⟨H,n,W,hi,⟨nx,pi,log⟩⟩=>J0 nx fun nx=>J0 t fun t=>Q0 xs fun xs=>k nx ⟨H,n,W,hi,⟨Nat.succ nx,pi,.dt nx t op xs::log⟩⟩
def xE:List d9->Nat->Option Bool
 | [],_=>none
 | .br j b::r,i=>bif Nat.beq j i then some b else xE r i
 | _::r,i=>xE r i
def brL(lg:Lg)(c:Value):Option (Bool×Lg) :=
 match c with
 | .bool b=>some (b,lg)
 | .complex .f64 i 8=>match lg with
   | ⟨nx,pi,log⟩=>match xE log i with
     | some b=>some (b,⟨nx,pi,log⟩)
     | none=>match pi with
       | 1::r=>some (true,⟨nx,r,.br i true::log⟩)
       | 0::r=>some (false,⟨nx,r,.br i false::log⟩)
       | _=>none
 | _=>none
def Y0(m:Mem)(ab:AB)(k:Nat->Value):Res :=
 match m with
 | ⟨H,n,W,hi,lg⟩=>bif Nat.ble n H3 then J0 n fun n=>J0 (upN hi n) fun hi=>Hp.put H n (some ab) fun H=>some (k n,⟨H,Nat.succ n,W,hi,lg⟩)else none
def bM(m:Mem)(id:Nat)(ab:AB):Option Mem :=
 match m with
 | ⟨H,n,W,hi,lg⟩=>bif Nat.ble id H3 then Hp.put H id (some ab) fun H=>J0 id fun id=>some ⟨H,n,id::W,hi,lg⟩else none
def iU(m:Mem)(id:Nat):Mem :=
 match m with
 | ⟨H,n,W,hi,lg⟩=>Hp.put H id none fun H=>J0 id fun id=>⟨H,n,id::W,hi,lg⟩
def A0A(cs:List Value)(o n:Nat):Option C8 :=
 let r:=(cs.drop o).take n
 bif Nat.beq r.length n then some r else none
def m9(m:Mem)(a:Addr)(n:Nat):Option C8 :=
 match a.spot,Hp.get m.H a.block with
 | none,some (.cells cs _ _)=>A0A cs a.off n
 | _,_=>none
def bO:C8->Nat->C8->C8
 | cs,_,[]=>cs
 | cs,k,v::r=>bO (cs.set k v) (k+1) r
def flat:Value->Bool
 | .agg _|.tuple _=>false
 | .complex .f32 i _=>Nat.beq i 1
 | _=>true
def mZ(m:Mem)(a:Addr)(vs:List Value):Option Mem :=
 match a.spot,Hp.get m.H a.block with
 | none,some (.cells cs T false) =>
   bif Nat.ble (a.off+vs.length) cs.length && vs.all flat then Q0 (bO cs a.off vs) fun cs=>bM m a.block (.cells cs T false)else none
 | _,_=>none
variable (P:Program)
def u9(t:TypeId):Option Bool :=
 match P.underlying t with
 | some (.struct _)|some (.array _ _)=>some true
 | some _=>some false
 | none=>none
def G3(t:TypeId):Option Nat :=
 match P.info? t with
 | some i=>some i.size
 | none=>none
def eO(t:TypeId):P5 :=
 match P.info? t with
 | some i=>match i.zero with
   | some v=>bif OE v then some v else none
   | none=>none
 | none=>none
def OU(m:Mem)(t:TypeId)(a:Addr):P5 :=
 match u9 P t with
 | some true=>match G3 P t with
   | some n=>match m9 m a n with
     | some cs=>some (.agg ⟨cs⟩)
     | none=>none
   | none=>none
 | some false=>match m9 m a 1 with
   | some (v::_)=>some v
   | _=>none
 | none=>none
def vB(m:Mem)(t:TypeId)(a:Addr)(v:Value):Option Mem :=
 match G3 P t with
 | some n=>bif Nat.beq v.cells.size n && !(iA v)then mZ m a v.cells.toList else none
 | none=>none
def pD(t:TypeId)(cs:List Value)(off:Nat):P5 :=
 match u9 P t with
 | some true=>match G3 P t with
   | some n=>match A0A cs off n with
     | some r=>some (.agg ⟨r⟩)
     | none=>none
   | none=>none
 | some false=>cs[off]?
 | none=>none
def A2e(e:TypeId)(s i:Nat):Field:={ name := "x",type:=e,offset:=i*s,embedded:=false,tag := "",pkgPath := "",byteOffset:=0 }
mutual
def eqM:Nat->TypeId->Value->Value->Option Bool
 | 0,_,_,_=>none
 | d+1,t,x,y=>match P.underlying t,x,y with
   | some .bool,.bool a,.bool b=>some (a == b)
   | some (.int _),.int k a,.int j b=>bif decide (k=j)then some (a == b)else none
   | some .string,.string a,.string b=>some (a.data.toList == b.data.toList)
   | some (.pointer _),.pointer none,.pointer b=>some b.isNone
   | some (.pointer _),.pointer (some _),.pointer none=>some false
   | some (.interface _),.nilIface,.nilIface=>some true
   | some (.interface _),.nilIface,.iface _ _=>some false
   | some (.interface _),.iface _ _,.nilIface=>some false
   | some (.interface _),.iface tx vx,.iface ty vy=>bif Nat.beq tx ty then(match P.info? tx with
     | some i=>bif i.comparable then eqM d tx vx vy else none
     | none=>none)else some false
   | some (.slice _),.slice none _ _,.slice b _ _=>some b.isNone
   | some (.slice _),.slice (some _) _ _,.slice none _ _=>some false
   | some (.map _ _),.map none,.map b=>some b.isNone
   | some (.func _ _ _),.nilFunc,.nilFunc=>some true
   | some (.func _ _ _),.nilFunc,.func (.func _) _ _=>some false
   | some (.func _ _ _),.func (.func _) _ _,.nilFunc=>some false
   | some (.struct fs),.agg xs,.agg ys=>bif P.stoodInHeld t then none else eqF d fs.toList xs.toList ys.toList
   | some (.array n e),.agg xs,.agg ys=>match G3 P e with
     | some s=>eqF d ((List.range n).map (A2e e s)) xs.toList ys.toList
     | none=>none
   | _,_,_=>none
def eqF:Nat->List Field->C8->C8->Option Bool
 | 0,_,_,_=>none
 | _+1,[],_,_=>some true
 | d+1,f::fs,xs,ys =>
   bif f.name == "_" then none else
   match pD P f.type xs f.offset,pD P f.type ys f.offset with
   | some x,some y=>match eqM d f.type x y with
     | some true=>eqF d fs xs ys
     | some false=>some false
     | none=>none
   | _,_=>none
end
def isC:Operand->Bool
 | .const _=>true
 | _=>false
def kP(t:TypeId)(x y:Operand)(a b:Value):Bool :=
 match a,b with
 | .nilIface,.nilIface=>isC x || isC y
 | .agg _,.agg _=>!P.eqGuardType P.depth t
 | a,b=>!(YP a) && !(YP b)
def yA(op:BinOp)(k:IntKind)(x y:Int):P5 :=
 match op with
 | .and=>some (.int k (k.wrap (BitVec.ofInt k.bits x &&& BitVec.ofInt k.bits y).toNat))
 | .or=>some (.int k (k.wrap (BitVec.ofInt k.bits x ||| BitVec.ofInt k.bits y).toNat))
 | .xor=>some (.int k (k.wrap (BitVec.ofInt k.bits x ^^^ BitVec.ofInt k.bits y).toNat))
 | .andNot=>some (.int k (k.wrap (BitVec.ofInt k.bits x &&& ~~~BitVec.ofInt k.bits y).toNat))
 | _=>none
def ltL:List UInt8->List UInt8->Bool
 | _,[]=>false
 | [],_::_=>true
 | a::x,b::y=>a<b || (a == b && ltL x y)
def jK(op:BinOp)(k:IntKind)(a b:Int):P5 :=
 match op with
 | .add=>some (mkI k (zE k (A7w a b)))
 | .sub=>some (mkI k (zE k (A4o a b)))
 | .mul=>some (mkI k (zE k (A6p a b)))
 | .quo=>bif zA b 0 then none else some (mkI k (k.wrap (a.tdiv b)))
 | .rem=>bif zA b 0 then none else some (mkI k (a.tmod b))
 | .eql=>some (.bool (zA a b))
 | .neq=>some (.bool (!(zA a b)))
 | .lss=>some (.bool (ltF a b))
 | .leq=>some (.bool (leF a b))
 | .gtr=>some (.bool (ltF b a))
 | .geq=>some (.bool (leF b a))
 | op=>yA op k a b
def KY(left:Bool)(k:IntKind)(a:Int)(b:Nat):Value :=
 bif left then mkI k (k.wrap (a*2 ^ (min b k.bits)))else mkI k (a.fdiv (2 ^ (min b k.bits)))
def A07(op:BinOp)(a b:ByteArray):P5 :=
 match op with
 | .add=>bif Nat.ble (a.size+b.size) 1000000000 then Q0 (a.data.toList++b.data.toList) fun l=>some (.string ⟨⟨l⟩⟩)else none
 | .eql=>some (.bool (a.data.toList == b.data.toList))
 | .neq=>some (.bool (!(a.data.toList == b.data.toList)))
 | .lss=>some (.bool (ltL a.data.toList b.data.toList))
 | .leq=>some (.bool (ltL a.data.toList b.data.toList || (a.data.toList == b.data.toList)))
 | .gtr=>some (.bool (!(ltL a.data.toList b.data.toList || (a.data.toList == b.data.toList))))
 | .geq=>some (.bool (!(ltL a.data.toList b.data.toList)))
 | _=>none
def zU(op:BinOp)(t:TypeId)(x y:Value):P5 :=
 match op with
 | .eql=>match eqM P 20 t x y with
   | some b=>some (.bool b)
   | none=>none
 | .neq=>match eqM P 20 t x y with
   | some b=>some (.bool (!b))
   | none=>none
 | _=>none
def gF:BinOp->Option Bool
 | .shl=>some true
 | .shr=>some false
 | _=>none
def v6(op:BinOp)(k j:IntKind)(a b:Int):P5 :=
 match gF op with
 | some l=>match b with
   | .ofNat n=>some (KY l k a n)
   | .negSucc _=>none
 | none=>bif sK k j then jK op k a b else none
def qM(op:BinOp)(t:TypeId)(x y:Value):P5 :=
 match x,y with
 | .int k a,.int j b=>v6 op k j a b
 | .string a,.string b=>A07 op a b
 | x,y=>zU P op t x y
def unM(op:UnOp)(x:Value):P5 :=
 match op,x with
 | .neg,.int k n=>some (mkI k (k.wrap (0-n)))
 | .xor,.int k n=>yA .xor k (if k.signed then -1 else k.max) n
 | .not,.bool b=>some (.bool !b)
 | _,_=>none
def bytesOf:C8->Option (List UInt8)
 | []=>some []
 | .int .u8 n::r=>match bytesOf r with
   | some l=>some (UInt8.ofNat n.toNat::l)
   | none=>none
 | _::_=>none
def O5(l:List UInt8):C8:=l.map fun b=>.int .u8 b.toNat
def BC(m:Mem)(s t:TypeId)(x:Value):Res :=
 match P.underlying s,P.underlying t,x with
 | some _,some (.int k),.int _ n=>some (mkI k (zE k n),m)
 | some _,some .string,.string b=>some (.string b,m)
 | some _,some .string,.int _ n=>some (.string (Utf8.encode n),m)
 | some _,some (.slice e),.string b=>match P.underlying e with
   | some (.int .u8)=>match G3 P e with
     | some 1=>Q0 (O5 b.data.toList) fun cs=>Y0 m (.cells cs e false) fun i=>.slice (some ⟨i,0,none⟩) b.size L9
     | _=>none
   | _=>none
 | some (.slice e),some .string,.slice none _ _=>match P.underlying e with
   | some (.int .u8)=>some (.string ByteArray.empty,m)
   | _=>none
 | some (.slice e),some .string,.slice (some a) n _=>match P.underlying e with
   | some (.int .u8)=>match m9 m a n with
     | some cs=>match bytesOf cs with
       | some l=>some (.string ⟨⟨l⟩⟩,m)
       | none=>none
     | none=>none
   | _=>none
 | _,_,_=>none
def xF(place:Nat->Option (Nat×Nat))(cells:List Value):List (Nat×Value)->Option C8
 | []=>some cells
 | (i,v)::rest=>match place i with
   | none=>none
   | some (off,size) =>
     bif (Nat.beq v.cells.size size && !(iA v)) && Nat.ble (off+v.cells.size) cells.length then Q0 (bO cells off v.cells.toList) fun cs=>xF place cs rest else none
def pB:List Field->Option (List (Nat×Nat))
 | []=>some []
 | f::r=>match G3 P f.type,pB r with
   | some n,some l=>some ((f.offset,n)::l)
   | _,_=>none
def GM(z:List Value):Nat->C8
 | 0=>[]
 | n+1=>z++GM z n
def BY(e:TypeId)(n:Nat):Option C8 :=
 match G3 P e with
 | some s=>bif Nat.beq (n*s) 0 then some []else match eO P e with
   | some z=>bif Nat.beq z.cells.size s then some (GM z.cells.toList n)else none
   | none=>none
 | none=>none
def MQ(t:TypeId)(parts:List (Nat×Value)):P5 :=
 match eO P t,P.underlying t with
 | some z,some (.struct fs)=>match pB P fs.toList with
   | some ps=>match xF (ps[·]?) z.cells.toList parts with
     | some cs=>some (.agg ⟨cs⟩)
     | none=>none
   | none=>none
 | some z,some (.array _ e)=>match G3 P e with
   | some s=>match xF (fun i=>some (i*s,s)) z.cells.toList parts with
     | some cs=>some (.agg ⟨cs⟩)
     | none=>none
   | none=>none
 | _,_=>none
def bW(m:Mem)(t:TypeId)(n:Nat)(parts:List (Nat×Value)):Res :=
 match P.underlying t with
 | some (.slice e)=>match G3 P e,BY P e n with
   | some s,some zs=>bif Nat.ble (n*s) 16777216 && Nat.blt n L9 then match xF (fun i=>some (i*s,s)) zs parts with
     | some cs=>Y0 m (.cells cs e false) fun i=>.slice (some ⟨i,0,none⟩) n n
     | none=>none else none
   | _,_=>none
 | _=>none
def dU(m:Mem)(t:TypeId)(l c:Value):Res :=
 match P.underlying t,l,c with
 | some (.slice e),.int _ (.ofNat l),.int _ (.ofNat c)=>match P.info? e with
   | some i=>bif Nat.ble l c && Nat.ble c 10000000 && Nat.ble (c*i.bytes) 100000000 then match BY P e c with
     | some a=>Q0 a fun a=>Y0 m (.cells a e false) fun k=>.slice (some ⟨k,0,none⟩) l c
     | none=>none else none
   | none=>none
 | _,_,_=>none
def aO(a:Addr)(n:Nat):Addr:=J0 (a.off+n) fun o=>⟨a.block,o,none⟩
def bT(s:TypeId)(x:Value)(i:Nat):P5 :=
 match P.underlying s,x with
 | some (.struct fs),.pointer (some a)=>match fs.toList[i]?,a.spot with
   | some f,none=>match G3 P f.type with
     | some (_+1)=>some (.pointer (some (aO a f.offset)))
     | _=>none
   | _,_=>none
 | _,_=>none
def DT(t:TypeId)(x:Value)(i:Nat):P5 :=
 match P.underlying t,x with
 | some (.struct fs),.agg cs=>match fs.toList[i]? with
   | some f=>pD P f.type cs.toList f.offset
   | none=>none
 | _,_=>none
def W5(t:TypeId)(x i:Value):P5 :=
 match P.underlying t,x,i with
 | some (.array n e),.pointer (some a),.int _ (.ofNat k)=>match G3 P e,a.spot with
   | some s,none=>bif Nat.blt k n then some (.pointer (some (aO a (k*s))))else none
   | _,_=>none
 | some (.slice e),.slice (some a) n _,.int _ (.ofNat k)=>match G3 P e,a.spot with
   | some s,none=>bif Nat.blt k n then some (.pointer (some (aO a (k*s))))else none
   | _,_=>none
 | _,_,_=>none
def kN(t:TypeId)(x i:Value):P5 :=
 match P.underlying t,x,i with
 | some (.array n e),.agg cs,.int _ (.ofNat k)=>match G3 P e with
   | some s=>bif Nat.blt k n then pD P e cs.toList (k*s)else none
   | none=>none
 | some .string,.string s,.int _ (.ofNat k)=>match s.data.toList[k]? with
   | some b=>some (.int .u8 b.toNat)
   | none=>none
 | _,_,_=>none
def S6(v:Option Value)(H3 a:Nat):Option Nat :=
 match v with
 | none=>some a
 | some (.int _ (.ofNat k))=>bif Nat.ble k H3 then some k else none
 | some _=>none
def cE(t:TypeId)(x:Value)(b hi mx:Option Value):P5 :=
 match P.underlying t,x with
 | some .string,.string s =>
   match mx,S6 hi s.size s.size with
   | none,some h=>match S6 b h 0 with
     | some l=>some (.string ⟨⟨(s.data.toList.drop l).take (h-l)⟩⟩)
     | none=>none
   | _,_=>none
 | some (.slice e),.slice none n c =>
   match n,c,S6 mx 0 0,S6 hi 0 0,S6 b 0 0 with
   | 0,0,some _,some _,some _=>bif (mx.isSome && hi.isNone) || (G3 P e).isNone then none else some (.slice none 0 0)
   | _,_,_,_,_=>none
 | some (.slice e),.slice (some a) n c =>
   match G3 P e,a.spot with
   | some s,none =>
     bif Nat.blt c L9 then
      match S6 mx c c with
      | some m=>match (match hi,mx with|none,some _=>none|hi,_=>S6 hi m n)with
        | some h=>match S6 b h 0 with
          | some l=>some (.slice (some (bif Nat.beq m l then a else aO a (l*s))) (h-l) (m-l))
          | none=>none
        | none=>none
      | none=>none
     else
      match mx with
      | some _=>match hi,S6 mx n n with
        | some _,some m=>bif Nat.blt m L9 && Nat.ble c (L9+1)then match S6 hi m n with
          | some h=>match S6 b h 0 with
            | some l=>some (.slice (some (bif Nat.beq m l then a else aO a (l*s))) (h-l) (m-l))
            | none=>none
          | none=>none else none
        | _,_=>none
      | none=>match S6 hi n n with
        | some h=>match S6 b h 0 with
          | some 0=>some (.slice (some a) h c)
          | some (l+1)=>let l:=l+1
            bif Nat.blt l n then some (.slice (some (aO a (l*s))) (h-l) (L9+1))else some (.slice (some a) 0 (L9+2))
          | none=>none
        | none=>none
   | _,_=>none
 | some (.array n e),.pointer (some a) =>
   match G3 P e,a.spot,mx with
   | some s,none,none=>match S6 hi n n with
     | some h=>match S6 b h 0 with
       | some l=>bif Nat.blt n L9 then some (.slice (some (bif Nat.beq n l then a else aO a (l*s))) (h-l) (n-l))else none
       | none=>none
     | none=>none
   | _,_,_=>none
 | _,_=>none
def dT(m:Mem)(s:Nat)(y:Value):Option (Nat×List Value) :=
 match y with
 | .slice none n _=>bif Nat.beq n 0 then some (0,[])else none
 | .slice (some a) n _=>match m9 m a (n*s)with
   | some cs=>some (n,cs)
   | none=>none
 | .string b=>bif Nat.beq s 1 then some (b.size,O5 b.data.toList)else none
 | _=>none
def cF:TypeDesc->Bool
 | .slice _|.string=>true
 | _=>false
def qO(m:Mem)(t t2:TypeId)(x y:Value):Res :=
 match P.underlying t,P.underlying t2 with
 | some (.slice e),some d2 =>
   bif !(cF d2)then none else
   match P.info? e,x with
   | some i,.slice a n c=>match dT m i.size y,eO P e with
     | some (k,new),some z =>
       bif Nat.ble ((3*(n+k)+4000)*i.bytes) 281474976710656 && Nat.ble (n+k) 1000000000 && Nat.beq z.cells.size i.size && new.all flat then
       bif Nat.beq k 0 then(match a with|none=>bif Nat.beq n 0 && Nat.beq c 0 then some (x,m)else none|some _=>bif Nat.ble c (L9+1) && Nat.ble n c then some (x,m)else none)else
       match a with
       | none=>bif Nat.beq n 0 && Nat.beq c 0 then Q0 new fun cs=>Y0 m (.cells cs e false) fun b=>.slice (some ⟨b,0,none⟩) k L9 else none
       | some d =>
         bif Nat.blt c L9 then
          bif Nat.ble (n+k) c then
           match d.spot,mZ m (aO d (n*i.size)) new with
           | none,some m'=>some (.slice a (n+k) c,m')
           | _,_=>none
          else match m9 m d (n*i.size)with
           | some old=>Q0 (old++new) fun cs=>Y0 m (.cells cs e false) fun b=>.slice (some ⟨b,0,none⟩) (n+k) L9
           | none=>none
         else bif Nat.beq c L9 && Nat.beq d.off 0 then
          match d.spot,Hp.get m.H d.block with
          | none,some (.cells cs T false) =>
            bif Nat.beq cs.length (n*i.size) && Nat.beq T e && Nat.ble d.block H3 && Nat.blt d.block m.n then
             Q0 (cs++new) fun cs=>Y0 (iU m d.block) (.cells cs e false) fun b=>.slice (some ⟨b,0,none⟩) (n+k) L9
            else none
          | _,_=>none
         else none
       else none
     | _,_=>none
   | _,_=>none
 | _,_=>none
def JE(m:Mem)(t:TypeId)(x y:Value):Res :=
 match P.underlying t,x with
 | some (.slice e),.slice a n c=>match G3 P e with
   | some s =>
     match (match y with
      | .slice none k _=>bif Nat.beq k 0 then some (0,[])else none
      | .slice (some b) k _=>match m9 m b (Nat.min k n*s)with
        | some cs=>some (Nat.min k n,cs)
        | none=>none
      | .string b=>some (Nat.min b.size n,O5 (b.data.toList.take (Nat.min b.size n)))
      | _=>none:Option (Nat×List Value))with
     | some (k,cs)=>match a with
       | none=>bif Nat.beq k 0 then some (.int .i64 0,m)else none
       | some d=>bif Nat.beq cs.length 0 then some (.int .i64 k,m)else bif Nat.ble c (L9+1)then match mZ m d cs with
         | some m'=>some (.int .i64 k,m')
         | none=>none else none
     | none=>none
   | none=>none
 | _,_=>none
def XF(m:Mem)(t:TypeId)(x:Value):P5 :=
 match P.underlying t,x with
 | some .string,.string s=>some (.int .i64 s.data.toList.length)
 | some (.array n _),_=>some (.int .i64 n)
 | some (.slice _),.slice _ n _=>some (.int .i64 n)
 | some (.map _ _),.map none=>some (.int .i64 0)
 | _,_=>none
def A6A(t:TypeId)(x:Value):P5 :=
 match P.underlying t,x with
 | some (.slice _),.slice none _ c=>some (.int .i64 c)
 | some (.slice _),.slice (some a) n c=>bif Nat.blt c L9 then some (.int .i64 c)else none
 | _,_=>none
def A5N:C8->P5
 | [.int k a,.int _ b]=>some (.int k (if b>a then b else a))
 | [.int k a,.int _ b,.int _ c]=>xA (if b>a then b else a) fun d=>some (.int k (if c>d then c else d))
 | _=>none
def A5M:C8->P5
 | [.int k a,.int _ b]=>some (.int k (if b<a then b else a))
 | [.int k a,.int _ b,.int _ c]=>xA (if b<a then b else a) fun d=>some (.int k (if c<d then c else d))
 | _=>none
def noM(v:Option Value)(m:Mem):Res :=
 match v with
 | some v=>some (v,m)
 | none=>none
def LP(m:Option Mem):Res :=
 match m with
 | some m=>some (undef,m)
 | none=>none
def OH(m:Mem)(c a b:Value):Res :=
 match c with
 | .bool true=>some (a,m)
 | .bool false=>some (b,m)
 | _=>none
def CV(m:Mem)(e:TypeId):Res :=
 match eO P e with
 | some z=>Y0 m (.cells z.cells.toList e false) fun b=>.pointer (some ⟨b,0,none⟩)
 | none=>none
def WH(m:Mem)(e:TypeId)(v:Value):Res :=
 bif v.cells.toList.all flat then Y0 m (.cells v.cells.toList e false) fun b=>.pointer (some ⟨b,0,none⟩)else none
def OI(m:Mem)(t:TypeId)(v:Value):Res :=
 match v with
 | .pointer (some a)=>noM (OU P m t a) m
 | _=>none
def CT(m:Mem)(t:TypeId)(x v:Value):Res :=
 match x with
 | .pointer (some a)=>LP (vB P m t a v)
 | _=>none
def WG(m:Mem)(x:Value):Res :=
 match x with
 | .pointer (some a)=>some (.pointer (some a),m)
 | .func (.func f) a b=>some (.func (.func f) a b,m)
 | _=>none
def wW:BinOp->Bool
 | .eql|.neq=>true
 | _=>false
def A1X(m:Mem)(op:BinOp)(t:TypeId)(x y:Operand)(a b:Value):Res :=
 bif wW op then(bif kP P t x y a b then noM (qM P op t a b) m else none)else noM (qM P op t a b) m
def CU(m:Mem)(t:TypeId)(v:Value):Res :=
 match P.underlying t with
 | some d=>(match d with|.interface _=>none|_=>bif flat v || (match v with|.agg _=>true|_=>false)then some (.iface t v,m)else none)
 | none=>none
def kB(m:Mem)(v:Value)(i:Nat):Res :=
 match v with
 | .tuple vs=>noM vs.toList[i]? m
 | _=>none
def gW(m:Mem)(x:Value):Res :=
 match x with
 | .slice none _ _=>some (.pointer none,m)
 | .slice (some a) n c=>bif Nat.beq n 0 || Nat.beq c 0 || Nat.beq c (L9+2)then none else some (.pointer (some a),m)
 | _=>none
def dK(m:Mem)(b:TypeId)(p l:Value):Res :=
 match p,l with
 | .pointer none,.int _ (.ofNat 0)=>some (.string ByteArray.empty,m)
 | .pointer (some a),.int _ (.ofNat n) =>
   match a.spot,Hp.get m.H a.block with
   | none,some (.cells cs T false)=>match P.underlying b,G3 P T with
     | some (.pointer e),some 1=>bif Nat.blt 0 n && Nat.ble n 1000000000 && Nat.beq e T then match A0A cs a.off n with
       | some l=>match bytesOf l,bM m a.block (.cells cs T true)with
         | some l,some m'=>some (.string ⟨⟨l⟩⟩,m')
         | _,_=>none
       | none=>none else none
     | _,_=>none
   | _,_=>none
 | _,_=>none
def gJ(m:Mem)(b:Builtin)(vs:List Value)(tys:List TypeId):Res :=
 match b,vs,tys with
 | .len,[x],t::_=>noM (XF P m t x) m
 | .cap,[x],t::_=>noM (A6A P t x) m
 | .append,[x,y],t::t2::_=>qO P m t t2 x y
 | .copy,[x,y],t::_=>JE P m t x y
 | .max,vs,_=>noM (A5N vs) m
 | .min,vs,_=>noM (A5M vs) m
 | .unsafeSliceData,[x],_=>gW m x
 | .unsafeString,[p,l],t::_=>dK P m t p l
 | _,_,_=>none
def opM(fr:Fr)(m:Mem)(o:Op):Res :=
 match o with
 | .move x|.assign x=>some (ev fr x,m)
 | .pick c a b=>OH m (ev fr c) (ev fr a) (ev fr b)
 | .alloc e=>CV P m e
 | .box e x=>WH m e (ev fr x)
 | .build t ps=>noM (MQ P t (evP fr ps.toList)) m
 | .buildSlice t n ps=>bW P m t n (evP fr ps.toList)
 | .load t x=>OI P m t (ev fr x)
 | .store t x y=>CT P m t (ev fr x) (ev fr y)
 | .nilCheck x=>WG m (ev fr x)
 | .binOp op t x y _=>A1X P m op t x y (ev fr x) (ev fr y)
 | .unOp op _ x=>noM (unM op (ev fr x)) m
 | .convert s t x=>BC P m s t (ev fr x)
 | .makeInterface t x=>CU P m t (ev fr x)
 | .makeFunc (.func f) first cap=>some (.func (.func f) ⟨evL fr first.toList⟩ ⟨evL fr cap.toList⟩,m)
 | .makeSlice t l c=>dU P m t (ev fr l) (ev fr c)
 | .slice t x d hi mx=>noM (cE P t (ev fr x) (evO fr d) (evO fr hi) (evO fr mx)) m
 | .fieldAddr s x i=>noM (bT P s (ev fr x) i) m
 | .field t x i=>noM (DT P t (ev fr x) i) m
 | .indexAddr t x i=>noM (W5 P t (ev fr x) (ev fr i)) m
 | .index t x i=>noM (kN P t (ev fr x) (ev fr i)) m
 | .extract x i=>kB m (ev fr x) i
 | .call ⟨.builtin b,xs,tys⟩=>gJ P m b (evL fr xs.toList) tys.toList
 | _=>none
structure OpC where
 run:Fr->Mem->Res
def XV(x:XC)(fr:Fr)(m:Mem):Res:=some (x.run fr,m)
def A3o(c a b:XC)(fr:Fr)(m:Mem):Res:=OH m (c.run fr) (a.run fr) (b.run fr)
def A69(e:TypeId)(x:XC)(fr:Fr)(m:Mem):Res:=WH m e (x.run fr)
def A3p(t:TypeId)(x:XC)(fr:Fr)(m:Mem):Res:=OI P m t (x.run fr)
def XT(t:TypeId)(x y:XC)(fr:Fr)(m:Mem):Res:=CT P m t (x.run fr) (y.run fr)
def A67(x:XC)(fr:Fr)(m:Mem):Res:=WG m (x.run fr)
def A6_(op:BinOp)(t:TypeId)(x y:Operand)(cx a:XC)(fr:Fr)(m:Mem):Res:=A1X P m op t x y (cx.run fr) (a.run fr)
def kUn(op:UnOp)(x:XC)(fr:Fr)(m:Mem):Res:=noM (unM op (x.run fr)) m
def A3q(s t:TypeId)(x:XC)(fr:Fr)(m:Mem):Res:=BC P m s t (x.run fr)
def wR(s:TypeId)(x:XC)(i:Nat)(fr:Fr)(m:Mem):Res:=noM (bT P s (x.run fr) i) m
def XX(s:TypeId)(x:XC)(i:Nat)(fr:Fr)(m:Mem):Res:=noM (DT P s (x.run fr) i) m
def wP(t:TypeId)(x i:XC)(fr:Fr)(m:Mem):Res:=noM (W5 P t (x.run fr) (i.run fr)) m
def XW(t:TypeId)(x i:XC)(fr:Fr)(m:Mem):Res:=noM (kN P t (x.run fr) (i.run fr)) m
def HZ(x:XC)(i:Nat)(fr:Fr)(m:Mem):Res:=kB m (x.run fr) i
def IA(b:Builtin)(xs:LC)(tys:List TypeId)(fr:Fr)(m:Mem):Res:=gJ P m b (xs.run fr) tys
def xN(o:Op):OpC :=
 match o with
 | .move x=>⟨XV (Q9 x)⟩
 | .assign x=>⟨XV (Q9 x)⟩
 | .pick c a b=>⟨A3o (Q9 c) (Q9 a) (Q9 b)⟩
 | .box e x=>⟨A69 e (Q9 x)⟩
 | .load t x=>⟨A3p P t (Q9 x)⟩
 | .store t x y=>⟨XT P t (Q9 x) (Q9 y)⟩
 | .nilCheck x=>⟨A67 (Q9 x)⟩
 | .binOp op t x y _=>⟨A6_ P op t x y (Q9 x) (Q9 y)⟩
 | .unOp op _ x=>⟨kUn op (Q9 x)⟩
 | .convert s t x=>⟨A3q P s t (Q9 x)⟩
 | .fieldAddr s x i=>⟨wR P s (Q9 x) i⟩
 | .field t x i=>⟨XX P t (Q9 x) i⟩
 | .indexAddr t x i=>⟨wP P t (Q9 x) (Q9 i)⟩
 | .index t x i=>⟨XW P t (Q9 x) (Q9 i)⟩
 | .extract x i=>⟨HZ (Q9 x) i⟩
 | .call ⟨.builtin b,xs,tys⟩=>⟨IA P b (tF xs.toList) tys.toList⟩
 | o=>⟨fun fr m=>opM P fr m o⟩
def xM(o:Op)(fr:Fr)(m:Mem):(xN P o).run fr m=opM P fr m o:=by
 unfold xN;split<;>simp only[XV,A3o,A69,A3p,XT,A67,A6_,kUn,A3q,wR,XX,wP,XW,HZ,IA,opM,dH,mJ]
def LM(nt gl:Nat)(o:Op):Bool:=o.operands.toList.all (okX nt gl)
end
section
open Go
def A7B:BinOp->Bool
 | .eql|.neq|.lss|.leq|.gtr|.geq=>true
 | _=>false
def nD(P:Program)(m:Mem)(op:BinOp)(t:TypeId)(a b:Value):Res :=
 let c:=G1 a
 let d:=G1 b
 bif (Nat.blt c 8 && Nat.blt d 8) || (Nat.beq c 9 && Nat.beq d 9)then S5 m (bif A7B op then 8 else c) (.bin op) [a,b]else
 bif Nat.beq c 8 && Nat.beq d 8 && wW op && (match P.underlying t with|some .bool=>true|_=>false)then S5 m 8 (.bin op) [a,b]else none
def eA(P:Program)(t:TypeId)(x y:Value):Bool :=
 match P.underlying t with
 | some .bool=>Nat.beq (G1 x) 8 && Nat.beq (G1 y) 8
 | some (.int k)=>Nat.beq (G1 x) (gD k) && Nat.beq (G1 y) (gD k)
 | some .string=>Nat.beq (G1 x) 9 && Nat.beq (G1 y) 9
 | _=>false
mutual
def eqS(P:Program):Nat->TypeId->Value->Value->Option C8
 | 0,_,_,_=>none
 | d+1,t,x,y=>bif eA P t x y then some [x,y]else
   match P.underlying t,x,y with
   | some (.struct fs),.agg xs,.agg ys=>bif P.stoodInHeld t then none else xI P d fs.toList xs.toList ys.toList
   | some (.array n e),.agg xs,.agg ys=>match G3 P e with
     | some s=>xI P d ((List.range n).map (A2e e s)) xs.toList ys.toList
     | none=>none
   | _,_,_=>none
def xI(P:Program):Nat->List Field->C8->C8->Option C8
 | 0,_,_,_=>none
 | _+1,[],_,_=>some []
 | d+1,f::fs,xs,ys =>
   bif f.name == "_" then none else
   match pD P f.type xs f.offset,pD P f.type ys f.offset with
   | some x,some y=>match eqS P d f.type x y,xI P d fs xs ys with
     | some a,some b=>some (a++b)
     | _,_=>none
   | _,_=>none
end
def FU(P:Program)(m:Mem)(op:BinOp)(t:TypeId)(x y:Operand)(a b:Value):Res :=
 bif kP P t x y a b then
  match op,eqS P 20 t a b with
  | .eql,some l=>S5 m 8 .eqs l
  | .neq,some l=>match S5 m 8 .eqs l with
    | some (h,m)=>S5 m 8 (.un .not) [h]
    | none=>none
  | _,_=>none
 else none
def Z9(t:Nat):C8->Bool
 | []=>true
 | v::r=>Nat.beq (G1 v) t && Z9 t r
def Z8.sizeD(P:Program)(e:TypeId):Nat:=match G3 P e with|some n=>n|none=>0
def Z8(P:Program)(m:Mem)(t:TypeId)(x i:Value):Res :=
 bif !(Nat.blt (G1 i) 8)then none else
 match P.underlying t with
 | some .string=>bif Nat.beq (G1 x) 9 then S5 m 4 .idx [x,i]else none
 | some (.array n e)=>match x,P.underlying e with
   | .agg cs,some (.int k)=>bif Nat.beq (cs.toList.length) n && Z9 (gD k) cs.toList && Nat.beq (Z8.sizeD P e) 1 then S5 m (gD k) .sel (i::cs.toList)else none
   | .agg cs,some .string=>bif Nat.beq (cs.toList.length) n && Z9 9 cs.toList && Nat.beq (Z8.sizeD P e) 1 then S5 m 9 .sel (i::cs.toList)else none
   | _,_=>none
 | _=>none
def jQ(P:Program)(m:Mem)(t:TypeId)(x:Value)(a hi mx:Option Value):Res :=
 match P.underlying t,mx with
 | some .string,none=>bif Nat.beq (G1 x) 9 then
    match a,hi with
    | none,none=>some (x,m)
    | some l,none=>bif Nat.blt (G1 l) 8 then S5 m 9 .sub1 [x,l]else none
    | none,some h=>bif Nat.blt (G1 h) 8 then S5 m 9 .sub [x,.int .i64 0,h]else none
    | some l,some h=>bif Nat.blt (G1 l) 8 && Nat.blt (G1 h) 8 then S5 m 9 .sub [x,l,h]else none
   else none
 | _,_=>none
def FO(m:Mem)(op:UnOp)(x:Value):Res :=
 let t:=G1 x
 match op with
 | .not=>bif Nat.beq t 8 then S5 m 8 (.un .not) [x]else none
 | op=>bif Nat.blt t 8 then S5 m t (.un op) [x]else none
def oK(P:Program)(m:Mem)(s t:TypeId)(x:Value):Res :=
 match P.underlying s,P.underlying t with
 | some (.int _),some (.int k)=>bif Nat.blt (G1 x) 8 then S5 m (gD k) (.conv k) [x]else none
 | some .string,some .string=>bif Nat.beq (G1 x) 9 then some (x,m)else none
 | _,_=>none
def dO(P:Program)(m:Mem)(b:Builtin)(vs:List Value)(tys:List TypeId):Res :=
 match b,vs,tys with
 | .len,[x],t::_=>match P.underlying t with
   | some .string=>bif Nat.beq (G1 x) 9 then S5 m 3 .len [x]else none
   | _=>none
 | .max,[x,y],_=>bif Nat.blt (G1 x) 8 && Nat.beq (G1 x) (G1 y)then S5 m (G1 x) .max [x,y]else none
 | .min,[x,y],_=>bif Nat.blt (G1 x) 8 && Nat.beq (G1 x) (G1 y)then S5 m (G1 x) .min [x,y]else none
 | _,_,_=>none
def SH(m:Mem)(a:Addr)(s n:Nat)(i:Value):Res :=
 bif !(Nat.blt (G1 i) 8)then none else
 match S5 m 8 .inb [i,.int .i64 (.ofNat n)]with
 | some (b,⟨H,k,W,hi,lg⟩)=>match brL lg b with
   | some (true,lg)=>some (ixp a s i n,⟨H,k,W,hi,lg⟩)
   | _=>none
 | none=>none
def dL(P:Program)(m:Mem)(t:TypeId)(x i:Value):Res :=
 match P.underlying t,x with
 | some (.array n e),.pointer (some a)=>match G3 P e,a.spot with
   | some s,none=>SH m a s n i
   | _,_=>none
 | some (.slice e),.slice (some a) n c=>match G3 P e,a.spot with
   | some s,none=>bif Nat.beq c (L9+2)then none else SH m a s n i
   | _,_=>none
 | _,_=>none
def dN(P:Program)(m:Mem)(s:TypeId)(x:Value)(i:Nat):Res :=
 match x with
 | .func (.yield 1) ⟨[.pointer (some a),.int .i64 (.ofNat k),j,.int .i64 (.ofNat n)]⟩ ⟨[]⟩=>match P.underlying s with
   | some (.struct fs)=>match fs.toList[i]?,a.spot with
     | some f,none=>match G3 P f.type with
       | some (_+1)=>some (ixp (aO a f.offset) k j n,m)
       | _=>none
     | _,_=>none
   | _=>none
 | _=>none
def uF(cs:List Value)(s o:Nat):Nat->Option C8
 | 0=>some []
 | n+1=>match cs[o]?,uF cs s (o+s) n with
   | some v,some r=>some (v::r)
   | _,_=>none
def bN(m:Mem)(cs:List Value)(s n:Nat)(i:Value):Nat->Nat->Option (C8×Mem)
 | _,0=>some ([],m)
 | o,k+1=>match uF cs s o n with
   | some (v::l)=>bif Z9 (G1 v) (v::l) && Nat.blt (G1 v) 10 then match S5 m (G1 v) .sel (i::v::l)with
     | some (h,m)=>match bN m cs s n i (o+1) k with
       | some (r,m)=>some (h::r,m)
       | none=>none
     | none=>none else none
   | _=>none
def oJ(P:Program)(m:Mem)(t:TypeId)(x:Value):Res :=
 match x with
 | .func (.yield 1) ⟨[.pointer (some a),.int .i64 (.ofNat s),i,.int .i64 (.ofNat n)]⟩ ⟨[]⟩ =>
   match u9 P t,G3 P t with
   | some false,_=>match m9 m a ((n-1)*s+1)with
     | some cs=>match bN m cs s n i 0 1 with
       | some ([h],m)=>some (h,m)
       | _=>none
     | none=>none
   | some true,some z=>match m9 m a ((n-1)*s+z)with
     | some cs=>match bN m cs s n i 0 z with
       | some (hs,m)=>some (.agg ⟨hs⟩,m)
       | none=>none
     | none=>none
   | _,_=>none
 | _=>none
def uE(m:Mem)(c a b:Value):Res :=
 match m with
 | ⟨H,n,W,hi,lg⟩=>match brL lg c with
   | some (true,lg)=>some (a,⟨H,n,W,hi,lg⟩)
   | some (false,lg)=>some (b,⟨H,n,W,hi,lg⟩)
   | none=>none
def TS(P:Program)(fr:Fr)(m:Mem)(o:Op):Res :=
 match o with
 | .pick c a b=>uE m (ev fr c) (ev fr a) (ev fr b)
 | .binOp op t x y _=>match nD P m op t (ev fr x) (ev fr y)with
   | some r=>some r
   | none=>FU P m op t x y (ev fr x) (ev fr y)
 | .unOp op _ x=>FO m op (ev fr x)
 | .convert s t x=>oK P m s t (ev fr x)
 | .slice t x d hi mx=>jQ P m t (ev fr x) (evO fr d) (evO fr hi) (evO fr mx)
 | .index t x i=>Z8 P m t (ev fr x) (ev fr i)
 | .indexAddr t x i=>dL P m t (ev fr x) (ev fr i)
 | .fieldAddr s x i=>dN P m s (ev fr x) i
 | .load t x=>oJ P m t (ev fr x)
 | .call ⟨.builtin b,xs,tys⟩=>dO P m b (evL fr xs.toList) tys.toList
 | _=>none
def nK(m:Mem)(b:Nat):Bool :=
 match Hp.get m.H b with
 | some .frz=>Nat.ble b H3
 | _=>false
def LB{α:Type}(l:List α):Nat->List α
 | 0=>[]
 | n+1=>l++LB l n
mutual
def TP(P:Program):Nat->TypeId->Option G5
 | 0,_=>none
 | d+1,t=>match P.underlying t with
   | some .bool=>some [8]
   | some (.int k)=>some [gD k]
   | some .string=>some [9]
   | some (.slice e)=>match G3 P e with
     | some w=>some [10+w]
     | none=>none
   | some (.struct fs)=>A2s P d fs.toList
   | some (.array n e)=>match TP P d e with
     | some l=>some (LB l n)
     | none=>none
   | _=>none
def A2s(P:Program):Nat->List Field->Option G5
 | 0,_=>none
 | _+1,[]=>some []
 | d+1,f::fs=>match TP P d f.type,A2s P d fs with
   | some a,some b=>some (a++b)
   | _,_=>none
end
def jP(P:Program)(t:TypeId):Option G5 :=
 match TP P 30 t,G3 P t with
 | some l,some n=>bif Nat.beq l.length n then some l else none
 | _,_=>none
def W7.letDo(t:Nat)(op:LOp)(xs:List Value)(m:Mem)(k:Nat->Mem->Option (C8×Mem)):Option (C8×Mem) :=
 match m with
 | ⟨H,n,W,hi,⟨nx,pi,log⟩⟩=>J0 nx fun nx=>J0 t fun t=>Q0 xs fun xs=>k nx ⟨H,n,W,hi,⟨Nat.succ nx,pi,.dt nx t op xs::log⟩⟩
def W7(w o i t:Nat)(z:Value)(g:Nat):G5->Nat->Mem->Option (C8×Mem)
 | [],_,m=>some ([],m)
 | tg::ts,j,m=>bif Nat.blt tg 10 then
    match S5 m tg (.get w (o+j)) [hole i t,z]with
    | some (h,m)=>match W7 w o i t z g ts (j+1) m with
      | some (r,m)=>some (h::r,m)
      | none=>none
    | none=>none
   else W7.letDo tg (.get w (o+j)) [hole i t,z] m fun nx m=>match W7 w o i t z g ts (j+1) m with
     | some (r,m)=>some (dat g nx tg::r,m)
     | none=>none
def lD(P:Program)(t:TypeId)(r:Option (C8×Mem)):Res :=
 match u9 P t,r with
 | some false,some ([v],m)=>some (v,m)
 | some true,some (vs,m)=>some (.agg ⟨vs⟩,m)
 | _,_=>none
def HQ(P:Program)(m:Mem)(t:TypeId)(x:Value):Res :=
 match x,jP P t with
 | .func (.yield 5) ⟨[.pointer (some ⟨b,0,none⟩),.complex .f64 i tg,z,.int .i64 (.ofNat o)]⟩ ⟨[]⟩,some ts =>
   bif nK m b then lD P t (W7 (tg-10) o i tg z b ts 0 m)else none
 | .func (.yield 6) ⟨[.pointer (some ⟨b,0,none⟩),.complex .f64 i tg,z,.int .i64 (.ofNat o)]⟩ ⟨[]⟩,some ts =>
   match Hp.get m.H b with
   | some (.sq c tc T g ro)=>bif Nat.beq tc tg then lD P t (W7 (tg-10) o c tg z g ts 0 m)else none
   | _=>none
 | _,_=>none
def IE(m:Mem)(i t:Nat)(z:Value)(k:Value):Res :=
 bif !(Nat.blt (G1 z) 8)then none else
 match S5 m 8 (.inbs (t-10)) [z,hole i t]with
 | some (b,⟨H,n,W,hi,lg⟩)=>match brL lg b with
   | some (true,lg)=>some (k,⟨H,n,W,hi,lg⟩)
   | _=>none
 | none=>none
def kO(P:Program)(m:Mem)(t:TypeId)(x z:Value):Res :=
 match P.underlying t,x with
 | some (.slice e),.func (.yield 4) ⟨[.pointer (some ⟨b,0,none⟩),.complex .f64 i tg]⟩ ⟨[]⟩=>match G3 P e with
   | some (s+1)=>bif Nat.beq tg (10+(s+1))then IE m i tg z (opt b i tg z 0)else none
   | _=>none
 | some (.slice e),.func (.yield 2) ⟨[.pointer (some ⟨b,0,none⟩),.complex .f64 i tg]⟩ ⟨[]⟩=>match G3 P e with
   | some (s+1)=>bif Nat.beq tg (10+(s+1))then IE m i tg z (dpt b i tg z 0)else none
   | _=>none
 | some (.slice e),.func (.yield 3) ⟨[.pointer (some ⟨b,0,none⟩),.complex .f64 i tg]⟩ ⟨[]⟩=>match G3 P e with
   | some (s+1)=>bif Nat.beq tg (10+(s+1))then IE m i tg z (dpt b i tg z 0)else none
   | _=>none
 | some (.array n e),.func (.yield 5) ⟨[.pointer (some ⟨b,0,none⟩),.complex .f64 i tg,y,.int .i64 (.ofNat o)]⟩ ⟨[]⟩=>match G3 P e,z with
   | some s,.int _ (.ofNat k)=>bif Nat.blt k n && Nat.blt (o+k*s) (tg-10)then some (J0 (o+k*s) fun o=>dpt b i tg y o,m)else none
   | _,_=>none
 | some (.array n e),.func (.yield 6) ⟨[.pointer (some ⟨b,0,none⟩),.complex .f64 i tg,y,.int .i64 (.ofNat o)]⟩ ⟨[]⟩=>match G3 P e,z with
   | some s,.int _ (.ofNat k)=>bif Nat.blt k n && Nat.blt (o+k*s) (tg-10)then some (J0 (o+k*s) fun o=>opt b i tg y o,m)else none
   | _,_=>none
 | _,_=>none
def kU(P:Program)(m:Mem)(s:TypeId)(x:Value)(f:Nat):Res :=
 match P.underlying s,x with
 | some (.struct fs),.func (.yield 5) ⟨[.pointer (some ⟨b,0,none⟩),.complex .f64 i tg,y,.int .i64 (.ofNat o)]⟩ ⟨[]⟩=>match fs.toList[f]? with
   | some fd=>match G3 P fd.type with
     | some (_+1)=>bif Nat.blt (o+fd.offset) (tg-10)then some (J0 (o+fd.offset) fun o=>dpt b i tg y o,m)else none
     | _=>none
   | none=>none
 | some (.struct fs),.func (.yield 6) ⟨[.pointer (some ⟨b,0,none⟩),.complex .f64 i tg,y,.int .i64 (.ofNat o)]⟩ ⟨[]⟩=>match fs.toList[f]? with
   | some fd=>match G3 P fd.type with
     | some (_+1)=>bif Nat.blt (o+fd.offset) (tg-10)then some (J0 (o+fd.offset) fun o=>opt b i tg y o,m)else none
     | _=>none
   | none=>none
 | _,_=>none
def qD(i:Nat):List d9->Option Nat
 | []=>none
 | .lt j t .len [.complex .f64 k _]::r=>bif Nat.beq k i && Nat.beq t 3 then some j else qD i r
 | _::r=>qD i r
def DC(m:Mem)(i t:Nat):Res :=
 match qD i m.lg.log with
 | some j=>some (hole j 3,m)
 | none=>S5 m 3 .len [hole i t]
def A1n(P:Program)(m:Mem)(t:TypeId)(x:Value):Res :=
 match P.underlying t,x with
 | some (.slice _),.func (.yield 2) ⟨[.pointer (some ⟨b,0,none⟩),.complex .f64 i tg]⟩ ⟨[]⟩=>DC m i tg
 | some (.slice _),.func (.yield 3) ⟨[.pointer (some ⟨b,0,none⟩),.complex .f64 i tg]⟩ ⟨[]⟩=>DC m i tg
 | some (.slice _),.func (.yield 4) ⟨[.pointer (some ⟨b,0,none⟩),.complex .f64 i tg]⟩ ⟨[]⟩=>DC m i tg
 | _,_=>none
def fJ(m:Mem)(k:Nat->Mem->Option (Value×Nat×Mem)):Option (Value×Nat×Mem) :=
 match m with
 | ⟨H,n,W,hi,lg⟩=>bif Nat.ble n H3 then J0 n fun n=>J0 (upN hi n) fun hi=>Hp.put H n (some .frz) fun H=>k n ⟨H,Nat.succ n,W,hi,lg⟩else none
def toD(t:Nat)(v:Value)(m:Mem):Option (Value×Nat×Mem) :=
 match v with
 | .func (.yield 2) ⟨[.pointer (some ⟨b,0,none⟩),.complex .f64 i tg]⟩ ⟨[]⟩=>bif Nat.beq tg t && nK m b then some (hole i tg,b,m)else none
 | .func (.yield 3) ⟨[.pointer (some ⟨b,0,none⟩),.complex .f64 i tg]⟩ ⟨[]⟩=>bif Nat.beq tg t && nK m b then some (hole i tg,b,m)else none
 | .func (.yield 4) ⟨[.pointer (some ⟨b,0,none⟩),.complex .f64 i tg]⟩ ⟨[]⟩=>match Hp.get m.H b with
   | some (.sq c tc T g true)=>bif (Nat.beq tg t && Nat.beq tc t) && nK m g then fJ m fun b' m=>some (hole c tc,b',m)else none
   | some (.sq c tc T g false)=>bif (Nat.beq tg t && Nat.beq tc t) && nK m g then match bM m b (.sq c tc T g true)with
     | some m=>fJ m fun b' m=>some (hole c tc,b',m)
     | none=>none else none
   | _=>none
 | .slice none 0 0=>bif Nat.ble 10 t then(match tU m t (.nilw (t-10)) [] fun nx m=>some (hole nx t,m)with
   | some (h,m)=>fJ m fun b' m=>some (h,b',m)
   | none=>none)else none
 | _=>none
abbrev Td:=Nat->Value->Mem->Option (Value×Nat×Mem)
def yI(a:Td):G5->C8->Mem->Option (C8×G5×Mem)
 | [],[],m=>some ([],[],m)
 | t::ts,v::vs,m=>bif Nat.blt t 10 then
    bif Nat.beq (G1 v) t then match yI a ts vs m with
     | some (r,gs,m)=>some (v::r,gs,m)
     | none=>none else none
   else match a t v m with
    | some (h,b,m)=>match yI a ts vs m with
      | some (r,gs,m)=>some (h::r,b::gs,m)
      | none=>none
    | none=>none
 | _,_,_=>none
def iV(gs:List Nat)(m:Mem):Option (Nat×Mem) :=
 match gs with
 | [g]=>bif nK m g then some (g,m)else none
 | gs=>bif gs.all (nK m)then match fJ m fun b m=>some (undef,b,m)with
   | some (_,b,m)=>some (b,m)
   | none=>none else none
def NS:Value->Value->Bool
 | .complex .f64 i _,.complex .f64 j _=>Nat.beq i j
 | .int k a,.int j b=>sK k j && zA a b
 | _,_=>false
def wT(v:Value):Bool:=Nat.blt (G1 v) 8
def fA(m:Mem)(b i t:Nat)(l h:Value)(c:Bool):Res:=bif wT l && wT h then tU m t (.subs (t-10)) [hole i t,l,h] fun nx m=>some (bif c then clp b nx t else dat b nx t,m)else none
def JA(m:Mem)(b i t:Nat)(cl:Bool)(l:Value)(hi mx:Option Value):Res :=
 match hi,mx with
 | some h,none=>fA m b i t l h false
 | some h,some x=>bif NS h x then fA m b i t l h true else none
 | none,none=>match DC m i t with
   | some (h,m)=>fA m b i t l h cl
   | none=>none
 | none,some _=>none
def A6s(a:Option Value):Value :=
 match a with
 | some l=>l
 | none=>.int .i64 0
def JB(m:Mem)(b i t:Nat)(cl:Bool)(a hi mx:Option Value):Res:=JA m b i t cl (A6s a) hi mx
def vE(P:Program)(m:Mem)(t:TypeId)(x:Value)(a hi mx:Option Value):Res :=
 match P.underlying t,x with
 | some (.slice e),.func (.yield 2) ⟨[.pointer (some ⟨b,0,none⟩),.complex .f64 i tg]⟩ ⟨[]⟩=>match G3 P e with
   | some s=>bif Nat.beq tg (10+s)then JB m b i tg false a hi mx else none
   | none=>none
 | some (.slice e),.func (.yield 3) ⟨[.pointer (some ⟨b,0,none⟩),.complex .f64 i tg]⟩ ⟨[]⟩=>match G3 P e with
   | some s=>bif Nat.beq tg (10+s)then JB m b i tg true a hi mx else none
   | none=>none
 | some (.slice e),.func (.yield 4) ⟨[.pointer (some ⟨b,0,none⟩),.complex .f64 i tg]⟩ ⟨[]⟩=>match G3 P e with
   | some s=>bif Nat.beq tg (10+s)then match toD tg x m with
     | some (.complex .f64 c _,b',m)=>JB m b' c tg false a hi mx
     | _=>none else none
   | none=>none
 | _,_=>none
inductive Beh where
 | cells (xs:List Value)
 | rows (x:Value)
 | str (x:Value)
def cL(w:Nat)(c:Value):Beh->LOp×C8
 | .cells xs=>(.snoc w,c::xs)
 | .rows x=>(.cat w,[c,x])
 | .str x=>(.cats,[c,x])
def A0a(c:Td)(P:Program)(m:Mem)(e:TypeId)(w:Nat)(y:Value):Option (Beh×G5×Bool×Mem) :=
 match y with
 | .slice none 0 _=>some (.cells [],[],false,m)
 | .slice (some a) n _=>match m9 m a (n*w),jP P e with
   | some cs,some ts=>match yI c (LB ts n) cs m with
     | some (xs,gs,m)=>some (.cells xs,gs,Nat.blt 0 n,m)
     | none=>none
   | _,_=>none
 | .func _ _ _=>match c (10+w) y m with
   | some (x,b,m)=>some (.rows x,[b],false,m)
   | none=>none
 | y=>bif Nat.beq (G1 y) 9 && Nat.beq w 1 then some (.str y,[],false,m)else none
def BQ(a:Td)(P:Program)(m:Mem)(e:TypeId)(w:Nat)(x:Value):Option (Nat×G5×Option Nat×Mem) :=
 match x with
 | .slice none 0 0=>match tU m (10+w) (.nilw w) [] fun nx m=>some (hole nx (10+w),m)with
   | some (.complex .f64 c _,m)=>some (c,[],none,m)
   | _=>none
 | .func (.yield 4) ⟨[.pointer (some ⟨b,0,none⟩),.complex .f64 i tg]⟩ ⟨[]⟩=>match Hp.get m.H b with
   | some (.sq c tc T g false)=>bif (Nat.beq tg (10+w) && Nat.beq tc tg) && (Nat.beq T e && Nat.ble b H3)then some (c,[g],some b,m)else none
   | _=>none
 | .slice (some ⟨b,0,none⟩) n c=>match Hp.get m.H b,jP P e with
   | some (.cells cs _ _),some ts=>bif Nat.beq cs.length (n*w) && (Nat.beq c n && Nat.blt c L9 || Nat.beq c L9)then match yI a (LB ts n) cs m with
     | some (xs,gs,m)=>match Hp.get m.H b with
       | some (.cells _ T false)=>bif Nat.beq T e && Nat.ble b H3 then match tU m (10+w) (.mk w) xs fun nx m=>some (hole nx (10+w),m)with
         | some (.complex .f64 c _,m)=>some (c,gs,some b,m)
         | _=>none else none
       | _=>none
     | none=>none else none
   | _,_=>none
 | _=>none
def aF(m:Mem)(c t:Nat)(T:TypeId)(g:Nat):Res:=Y0 m (.sq c t T g false) fun b=>own b c t
def TA(P:Program)(e:TypeId)(n:Nat):Bool :=
 match eO P e with
 | some z=>Nat.beq z.cells.size n
 | none=>false
def iT(old:Option Nat)(m:Mem):Mem :=
 match old with
 | some b=>iU m b
 | none=>m
def RX(a:Td)(P:Program)(m:Mem)(e:TypeId)(w:Nat)(x:Value):Res :=
 match P.info? e with
 | some inf=>bif Nat.beq inf.size w && Nat.blt 0 w then match BQ a P m e w x with
   | some (c,gs,old,m)=>match iV gs m with
     | some (g,m)=>aF (iT old m) c (10+w) e g
     | none=>none
   | none=>none else none
 | none=>none
def TL(P:Program):Nat->Td
 | 0=>toD
 | d+1=>fun t v m=>match v with
   | .slice (some ⟨b,0,none⟩) _ _=>match Hp.get m.H b with
     | some (.cells _ T _)=>match RX (TL P d) P m T (t-10) v with
       | some (x,m)=>toD t x m
       | none=>none
     | _=>none
   | v=>toD t v m
def tdP(P:Program):Td:=TL P 3
def GX(m:Mem)(e:TypeId)(w c:Nat)(old:Option Nat)(a:Beh)(gs:List Nat):Res :=
 match iV gs m with
 | some (g,m)=>tU m (10+w) (cL w (hole c (10+w)) a).1 (cL w (hole c (10+w)) a).2 fun nx m=>aF (iT old m) nx (10+w) e g
 | none=>none
def qP(P:Program)(m:Mem)(t t2:TypeId)(x y:Value):Res :=
 match P.underlying t,P.underlying t2 with
 | some (.slice e),some d2=>bif !(cF d2)then none else
   match P.info? e with
   | some i=>bif (Nat.ble i.bytes 90000 && Nat.blt 0 i.size) && TA P e i.size then
     match A0a (tdP P) P m e i.size y with
     | some (bh,gs,sure,m)=>match BQ (tdP P) P m e i.size x with
       | some (c,g0,old,m)=>GX m e i.size c old bh (g0++gs)
       | none=>match x,sure with
         | .func (.yield 3) ⟨[.pointer (some ⟨b,0,none⟩),.complex .f64 c tg]⟩ ⟨[]⟩,true=>bif Nat.beq tg (10+i.size)then GX m e i.size c none bh (b::gs)else none
         | _,_=>none
     | none=>none else none
   | none=>none
 | _,_=>none
def vC(P:Program)(m:Mem)(t:TypeId)(x v:Value):Res :=
 match x,jP P t with
 | .func (.yield 6) ⟨[.pointer (some ⟨b,0,none⟩),.complex .f64 i tg,z,.int .i64 (.ofNat o)]⟩ ⟨[]⟩,some ts=>bif iA v then none else
   match yI (tdP P) ts v.cells.toList m with
   | some (xs,gs,m)=>match Hp.get m.H b with
     | some (.sq c tc T g false)=>bif Nat.beq tc tg then match iV (g::gs) m with
       | some (g,m)=>match tU m tg (.set (tg-10) o) (hole c tg::z::xs) fun nx m=>some (hole nx tg,m)with
         | some (.complex .f64 nx _,m)=>LP (bM m b (.sq nx tg T g false))
         | _=>none
       | none=>none else none
     | _=>none
   | none=>none
 | _,_=>none
def A3m(m m1:Mem):Mem :=
 match m,m1 with
 | ⟨H,n,W,_,_⟩,⟨_,_,_,hi,lg⟩=>⟨H,n,W,hi,lg⟩
def JF(P:Program)(m:Mem)(s t:TypeId)(x:Value):Res :=
 match P.underlying s,P.underlying t,x with
 | some (.slice e),some .string,.slice (some a) n _=>match P.underlying e with
   | some (.int .u8)=>match m9 m a n with
     | some cs=>bif Z9 4 cs then S5 m 9 .mks cs else none
     | none=>none
   | _=>none
 | some (.slice e),some .string,.func _ _ _=>match P.underlying e with
   | some (.int .u8)=>match toD 11 x m with
     | some (h,_,m1)=>S5 (A3m m m1) 9 .str [h]
     | none=>none
   | _=>none
 | some _,some (.slice e),x=>bif Nat.beq (G1 x) 9 then match P.underlying e with
   | some (.int .u8)=>match G3 P e with
     | some 1=>match iV [] m with
       | some (g,m)=>match tU m 11 .byt [x] fun nx m=>some (hole nx 11,m)with
         | some (.complex .f64 nx _,m)=>aF m nx 11 e g
         | _=>none
       | none=>none
     | _=>none
   | _=>none else none
 | _,_,_=>none
def YO:Value->Bool
 | .slice none 0 0=>true
 | _=>false
def WL(P:Program)(m:Mem)(op:BinOp)(t:TypeId)(x y:Operand)(a b:Value):Res :=
 match P.underlying t,a with
 | some (.slice _),.func (.yield k) ⟨[.pointer (some ⟨_,0,none⟩),.complex .f64 i tg]⟩ ⟨[]⟩=>bif YO b && isC y && (Nat.beq k 2 || Nat.beq k 3 || Nat.beq k 4)then
   match op,S5 m 8 .nilp [hole i tg]with
   | .eql,some r=>some r
   | .neq,some (h,m)=>S5 m 8 (.un .not) [h]
   | _,_=>none else none
 | _,_=>none
def HL(P:Program)(m:Mem)(t:TypeId)(l c:Value):Res :=
 match P.underlying t,l,c with
 | some (.slice e),.complex .f64 i ti,.complex .f64 j tj=>bif (Nat.beq i j && Nat.beq ti 3) && Nat.beq tj 3 then
   match P.info? e with
   | some inf=>bif Nat.ble inf.bytes 90000 && Nat.blt 0 inf.size then
     match eO P e with
     | some z=>bif Nat.beq z.cells.size inf.size && z.cells.toList.all (fun z=>Nat.blt (G1 z) 10)then
       match iV [] m with
       | some (g,m)=>match tU m (10+inf.size) (.rep inf.size) (hole i 3::z.cells.toList) fun nx m=>some (hole nx (10+inf.size),m)with
         | some (.complex .f64 nx _,m)=>aF m nx (10+inf.size) e g
         | _=>none
       | none=>none else none
     | none=>none else none
   | none=>none else none
 | _,_,_=>none
def dsM(P:Program)(fr:Fr)(m:Mem)(o:Op):Res :=
 match o with
 | .makeSlice t l c=>HL P m t (ev fr l) (ev fr c)
 | .load t x=>HQ P m t (ev fr x)
 | .store t x y=>vC P m t (ev fr x) (ev fr y)
 | .indexAddr t x i=>kO P m t (ev fr x) (ev fr i)
 | .fieldAddr s x i=>kU P m s (ev fr x) i
 | .slice t x a hi mx=>vE P m t (ev fr x) (evO fr a) (evO fr hi) (evO fr mx)
 | .convert s t x=>JF P m s t (ev fr x)
 | .binOp op t x y _=>WL P m op t x y (ev fr x) (ev fr y)
 | .call ⟨.builtin .len,xs,tys⟩=>match evL fr xs.toList,tys.toList with
   | [x],t::_=>A1n P m t x
   | _,_=>none
 | .call ⟨.builtin .append,xs,tys⟩=>match evL fr xs.toList,tys.toList with
   | [x,y],t::t2::_=>qP P m t t2 x y
   | _,_=>none
 | _=>none
def QK(P:Program)(m:Mem)(s t:TypeId)(x:Value):Res :=
 match P.underlying s,P.underlying t,x with
 | some (.pointer e),some .unsafePointer,.pointer (some ⟨b,o,none⟩)=>match G3 P e,Hp.get m.H b with
   | some (_+1),some (.cells cs _ _)=>bif Nat.blt o cs.length then some (x,m)else none
   | _,_=>none
 | some .unsafePointer,some (.pointer u),.pointer (some ⟨b,0,none⟩)=>match G3 P u,Hp.get m.H b with
   | some (k+1),some (.cells cs T false)=>bif Nat.beq T u && Nat.beq cs.length (k+1)then some (x,m)else none
   | _,_=>none
 | some (.slice _),some (.slice e),.slice (some ⟨b,o,none⟩) n c=>bif Nat.beq s t && !(Nat.beq c (L9+2))then match P.underlying e,Hp.get m.H b with
   | some (.int .u8),some (.cells cs T false)=>match bM m b (.cells cs T false)with
     | some m1=>some (x,m1)
     | none=>none
   | _,_=>none else none
 | _,_,_=>none
def OF(P:Program)(m:Mem)(op:BinOp)(t:TypeId)(a b:Value):Res :=
 match P.underlying t,a,b with
 | some (.pointer e),.pointer (some ⟨b1,o1,none⟩),.pointer (some ⟨b2,o2,none⟩)=>bif Nat.beq b1 b2 && Nat.beq o1 o2 then match P.info? e,op with
   | some _,.eql=>some (.bool true,m)
   | some _,.neq=>some (.bool false,m)
   | _,_=>none else none
 | _,_,_=>none
def sdM(P:Program)(m:Mem)(ty:TypeId)(x:Value):Res :=
 match P.underlying ty with
 | some (.pointer _)=>match x with
  | .func (.yield 4) ⟨[.pointer (some ⟨b,0,none⟩),.complex .f64 i t]⟩ ⟨[]⟩=>match Hp.get m.H b with
   | some (.sq _ _ _ _ _)=>some (sdt b,m)
   | _=>none
  | _=>none
 | _=>none
def usM(P:Program)(m:Mem)(a:TypeId)(p l:Value):Res :=
 match p with
 | .func (.yield 9) ⟨[.pointer (some ⟨b,0,none⟩)]⟩ ⟨[]⟩=>bif Nat.blt (G1 l) 8 then match Hp.get m.H b,P.underlying a with
   | some (.sq c tc T g false),some (.pointer e)=>bif Nat.beq e T && Nat.beq tc 11 then match G3 P T,S5 m 9 .ustr [hole c tc,l]with
     | some 1,some (v,m)=>match bM m b (.sq c tc T g true)with
       | some m=>some (v,m)
       | none=>none
     | _,_=>none else none
   | _,_=>none else none
 | _=>none
def eS(P:Program)(t:TypeId):Option Nat :=
 match P.underlying t with
 | some .bool=>some 8
 | some (.int k)=>some (gD k)
 | some .string=>some 9
 | _=>none
def tC(P:Program):List Field->Nat->Option G5
 | [],_=>some []
 | f::r,i=>match eS P f.type,tC P r (i+1)with
   | some t,some l=>bif !(f.name == "_") && Nat.beq f.offset i then some (t::l)else none
   | _,_=>none
def mV(P:Program)(t:TypeId):Option (Bool×List Nat) :=
 match P.underlying t with
 | some (.struct fs)=>bif P.stoodInHeld t then none else match tC P fs.toList 0 with
   | some l=>some (true,l)
   | none=>none
 | _=>match eS P t with
   | some k=>some (false,[k])
   | none=>none
def NH(P:Program)(t:TypeId):Option (Bool×List Nat) :=
 match u9 P t,jP P t with
 | some true,some l=>bif l.all (fun k=>Nat.blt k 10)then some (true,l)else none
 | some false,some [k]=>bif Nat.blt k 10 then some (false,[k])else none
 | _,_=>none
structure MTy where
 kt:TypeId
 vt:TypeId
 ka:Bool
 ks:G5
 va:Bool
 vs:G5
def MTy.w(y:MTy):Nat:=y.ks.length+y.vs.length
def SA(P:Program)(T:TypeId):Option MTy :=
 match P.underlying T with
 | some (.map kt vt)=>match mV P kt,NH P vt with
   | some (ka,k::ks),some (va,vs)=>some ⟨kt,vt,ka,k::ks,va,vs⟩
   | _,_=>none
 | _=>none
def xG:G5->C8->Bool
 | [],[]=>true
 | t::ts,v::vs=>Nat.beq (G1 v) t && xG ts vs
 | _,_=>false
def mL(a:Bool)(ts:List Nat)(v:Value):Option C8 :=
 match a,v with
 | true,.agg cs=>bif xG ts cs.toList then some cs.toList else none
 | true,_=>none
 | false,v=>bif xG ts [v]then some [v]else none
def A0e(a:Bool)(vs:List Value):P5 :=
 match a,vs with
 | true,vs=>some (.agg ⟨vs⟩)
 | false,[v]=>some v
 | false,_=>none
def WT(P:Program)(m:Mem)(T:TypeId):Res :=
 match SA P T with
 | some y=>tU m (10+y.w) (.mk y.w) [] fun nx m=>Y0 m (.mp nx (10+y.w) T) fun b=>.map (some b)
 | none=>none
def rR(w kw c t:Nat)(a:List Value):G5->C8->Nat->Mem->Option (C8×Mem)
 | [],[],_,m=>some ([],m)
 | tg::ts,z::zs,j,m=>match S5 m tg (.mget w kw j) (hole c t::z::a)with
   | some (h,m)=>match rR w kw c t a ts zs (j+1) m with
     | some (r,m)=>some (h::r,m)
     | none=>none
   | none=>none
 | _,_,_,_=>none
def wH(P:Program)(m:Mem)(T:TypeId)(x k:Value)(ok:Bool):Res :=
 match x,SA P T with
 | .map (some r),some y=>match Hp.get m.H r,mL y.ka y.ks k,eO P y.vt with
   | some (.mp c t T2),some kc,some z=>bif Nat.beq T2 T then match mL y.va y.vs z with
     | some a=>match rR y.w y.ks.length c t kc y.vs a y.ks.length m with
       | some (hs,m)=>match A0e y.va hs with
         | some v=>bif ok then match S5 m 8 (.mhas y.w y.ks.length) (hole c t::kc)with
            | some (b,m)=>some (.tuple ⟨[v,b]⟩,m)
            | none=>none
           else some (v,m)
         | none=>none
       | none=>none
     | none=>none else none
   | _,_,_=>none
 | _,_=>none
def zX(P:Program)(m:Mem)(T:TypeId)(x k v:Value):Res :=
 match x,SA P T with
 | .map (some r),some y=>match Hp.get m.H r,mL y.ka y.ks k,mL y.va y.vs v with
   | some (.mp c t T2),some kc,some vc=>bif Nat.beq T2 T then tU m t (.mput y.w y.ks.length) (hole c t::(kc++vc)) fun nx m=>LP (bM m r (.mp nx t T))else none
   | _,_,_=>none
 | _,_=>none
def HT(P:Program)(m:Mem)(T:TypeId)(x:Value):Res :=
 match P.underlying T,x with
 | some (.map _ _),.map (some r)=>match Hp.get m.H r with
   | some (.mp c t _)=>DC m c t
   | _=>none
 | _,_=>none
def vP(P:Program)(m:Mem)(t:TypeId)(x:Value):Res :=
 match P.underlying t with
 | some .string=>bif Nat.beq (G1 x) 9 then Y0 m (.iter [x,.int .i64 (.ofNat 0)]) fun b=>.pointer (some ⟨b,0,none⟩)else none
 | _=>none
def EF:Value->Value->Option (ByteArray×Nat)
 | .string s,.int .i64 (.ofNat k)=>some (s,k)
 | _,_=>none
def HI(m:Mem)(x:Value):Res :=
 match x with
 | .pointer (some ⟨r,0,none⟩)=>match Hp.get m.H r with
   | some (.iter [s,p])=>match EF s p with
     | some (b,k)=>bif Nat.blt k b.data.toList.length then J0 (k+(Utf8.decode b k).2) fun a=>match bM m r (.iter [s,.int .i64 (.ofNat a)])with
        | some m=>J0 (Utf8.decode b k).1 fun c=>some (.tuple ⟨[.bool true,p,.int .i32 (.ofNat c)]⟩,m)
        | none=>none
       else some (.tuple ⟨[.bool false]⟩,m)
     | none=>bif Nat.beq (G1 s) 9 && Nat.beq (G1 p) 3 then match S5 m 3 .len [s]with
       | some (h,m)=>match S5 m 8 (.bin .lss) [p,h]with
         | some (c,⟨H,n,W,hi,lg⟩)=>match brL lg c with
           | some (true,lg)=>match S5 ⟨H,n,W,hi,lg⟩ 2 .rune [s,p]with
             | some (y,m)=>match S5 m 3 .rpos [s,p]with
               | some (q,m)=>match bM m r (.iter [s,q])with
                 | some m=>some (.tuple ⟨[.bool true,p,y]⟩,m)
                 | none=>none
               | none=>none
             | none=>none
           | some (false,lg)=>some (.tuple ⟨[.bool false]⟩,⟨H,n,W,hi,lg⟩)
           | none=>none
         | none=>none
       | none=>none else none
   | _=>none
 | _=>none
def xtM(P:Program)(fr:Fr)(m:Mem)(o:Oper):Res :=
 match o.op with
 | .convert s t x=>QK P m s t (ev fr x)
 | .binOp op t x y _=>OF P m op t (ev fr x) (ev fr y)
 | .call ⟨.builtin .unsafeSliceData,xs,_⟩=>match evL fr xs.toList with
   | [x]=>sdM P m o.type x
   | _=>none
 | .call ⟨.builtin .unsafeString,xs,tys⟩=>match evL fr xs.toList,tys.toList with
   | [p,l],t::_=>usM P m t p l
   | _,_=>none
 | .makeMap t none=>WT P m t
 | .lookup t x k ok=>wH P m t (ev fr x) (ev fr k) ok
 | .range t x=>vP P m t (ev fr x)
 | .next x true=>HI m (ev fr x)
 | .mapUpdate t x k v=>zX P m t (ev fr x) (ev fr k) (ev fr v)
 | .insert t x k v=>zX P m t (ev fr x) (ev fr k) (ev fr v)
 | .call ⟨.builtin .len,xs,tys⟩=>match evL fr xs.toList,tys.toList with
   | [x],t::_=>HT P m t x
   | _,_=>none
 | _=>none
inductive EK where
 | noEscape|makeNoZero (e:TypeId)|indexByteString|countString|indexString|copyString
 deriving DecidableEq
def IS:List (FuncId×EK)->FuncId->Option EK
 | [],_=>none
 | (g,k)::r,f=>bif Nat.beq g f then some k else IS r f
structure FnC where
 run:C8->Mem->Res
structure N9 where
 fn:FuncId->FnC
 yl:FnC
def mB:Value->Bool
 | .tuple ⟨[]⟩=>true
 | _=>false
def EW(lg:Lg)(v:Value)(b:Bool):Option (Bool×Lg) :=
 match v with
 | .bool c=>some (c == b,lg)
 | .complex k i t=>match brL lg (.complex k i t)with
   | some (c,lg)=>some (c == b,lg)
   | none=>none
 | v=>bif mB v then some (false,lg)else none
def aB(nt:Nat)(fr:Fr)(lg:Lg)(ops:List Oper)(o:Oper):Option (Bool×Lg) :=
 match o.guard with
 | none=>some (true,lg)
 | some (j,b)=>match ops[j]? with
   | some p=>match p.dst with
     | some t=>bif Nat.blt t nt then EW lg (fr.get t) b else none
     | none=>none
   | none=>none
def uO(v:Value)(vs:List Value):Option (FuncId×List Value) :=
 match v with
 | .func (.func f) a b=>some (f,a.toList++(vs++b.toList))
 | _=>none
def dI(v:Value):Option Nat :=
 match v with
 | .func (.yield 7) ⟨[.pointer (some ⟨b,0,none⟩)]⟩ ⟨[]⟩=>some b
 | _=>none
def HG(call:N9)(m:Mem)(v:Value)(vs:List Value):Res :=
 match uO v vs with
 | some (f,vs)=>(call.fn f).run vs m
 | none=>match dI v with
   | some _=>call.yl.run (v::vs) m
   | none=>none
def A68(call:N9)(x:XC)(xs:LC)(fr:Fr)(m:Mem):Res:=HG call m (x.run fr) (xs.run fr)
def A5Y(f:FnC)(xs:LC)(fr:Fr)(m:Mem):Res:=f.run (xs.run fr) m
def XS(P:Program)(c:OpC)(o:Oper)(fr:Fr)(m:Mem):Res :=
 match c.run fr m with
 | some r=>some r
 | none=>match TS P fr m o.op with
   | some r=>some r
   | none=>match dsM P fr m o.op with
     | some r=>some r
     | none=>xtM P fr m o
def V3(P:Program)(call:N9)(o:Oper):OpC :=
 match o.op with
 | .call ⟨.value (.func f),xs,_⟩=>⟨A5Y (call.fn f) (tF xs.toList)⟩
 | .call ⟨.value x,xs,_⟩=>⟨A68 call (Q9 x) (tF xs.toList)⟩
 | op=>⟨XS P (xN P op) o⟩
def xJ(nt:Nat)(d:Option Tmp):Bool :=
 match d with
 | some d=>Nat.blt d nt
 | none=>true
structure A6F where
 run:Value->Fr->(Fr->Option S)->Option S
def tW(d:Option Tmp):A6F :=
 match d with
 | some t=>⟨tT (sel (t / 64%8)) (sel (t / 8%8)) (sel (t%8))⟩
 | none=>⟨fun _ fr k=>k fr⟩
structure A0k where
 run:S->Option S
def jU(c:OpC)(d:A6F)(next:A0k)(s:S):Option S :=
 match s with
 | ⟨fr,m⟩=>match c.run fr m with
   | some (v,m')=>bif Nat.ble m.hi m'.hi then d.run v fr fun fr=>next.run ⟨fr,m'⟩else none
   | none=>none
def dQ(nt:Nat)(all:List Oper)(o:Oper)(c:OpC)(d:A6F)(next:A0k)(s:S):Option S :=
 match s with
 | ⟨fr,⟨H,n,W,hi,lg⟩⟩=>match aB nt fr lg all o with
   | some (true,lg)=>jU c d next ⟨fr,⟨H,n,W,hi,lg⟩⟩
   | some (false,lg)=>d.run undef fr fun fr=>next.run ⟨fr,⟨H,n,W,hi,lg⟩⟩
   | none=>none
def T6(P:Program)(nt gl:Nat)(call:N9)(all:List Oper):List Oper->A0k
 | []=>⟨some⟩
 | o::r=>bif xJ nt o.dst && LM nt gl o.op then match o.guard with
   | none=>⟨fun s=>jU (V3 P call o) (tW o.dst) (T6 P nt gl call all r) s⟩
   | some _=>⟨fun s=>dQ nt all o (V3 P call o) (tW o.dst) (T6 P nt gl call all r) s⟩
   else⟨fun _=>none⟩
structure Rec where
 i:Nat
 lo:Nat
 hi:Nat
inductive Cls where
 | free
 | one (b:Nat)
 | all
def A7i(fr:Fr)(o:Op):Cls :=
 match o with
 | .move _|.assign _|.pick ..|.alloc _|.box ..|.build ..|.buildSlice ..|.nilCheck _|.binOp ..|.unOp ..|.makeInterface ..|.makeFunc ..|.makeMap ..|.makeSlice ..
 | .fieldAddr ..|.field ..|.indexAddr ..|.index ..|.extract ..|.range ..=>.free
 | .slice _ x _ _ _=>match ev fr x with
   | .slice _ _ _|.string _|.pointer _|.complex _ _ _=>.free
   | _=>.all
 | .convert _ _ x=>match ev fr x with
   | .int _ _|.string _=>.free
   | _=>.all
 | .call ⟨.builtin .len,xs,_⟩=>match evL fr xs.toList with
   | [.slice _ _ _]|[.string _]=>.free
   | _=>.all
 | .call ⟨.builtin .min,_,_⟩|.call ⟨.builtin .max,_,_⟩=>.free
 | .call ⟨.builtin .unsafeSliceData,xs,_⟩=>match evL fr xs.toList with
   | [.slice _ _ _]=>.free
   | _=>.all
 | .load _ x|.store _ x _=>match ev fr x with
   | .pointer (some a)=>.one a.block
   | _=>.all
 | _=>.all
def AQ(H:Hp AB):G5->Hp AB
 | []=>H
 | b::r=>Hp.put H b none fun H=>AQ H r
def BU(H0 H:Hp AB):G5->Hp AB
 | []=>H
 | b::r=>Hp.put H b (Hp.get H0 b) fun H=>BU H0 H r
def KU:Nat->Nat->G5
 | _,0=>[]
 | lo,n+1=>lo::KU (lo+1) n
def Y1:List Rec->G5
 | []=>[]
 | r::rs=>KU r.lo (r.hi-r.lo)++Y1 rs
def o9(l:List Nat)(b:Nat):Bool:=l.any (Nat.beq b)
def EL(l:List Nat):Bool:=l.all fun b=>Nat.ble b H3
def AE(b:List Nat)(rs:List Rec):List Rec:=rs.filter fun r=>!(o9 b r.i)
def zF(m:Mem)(c:Cls)(us:List Rec):Option Mem :=
 match m with
 | ⟨H,n,_,hi,lg⟩=>match c with
   | .free=>some ⟨hp0,n,[],hi,lg⟩
   | .one b=>bif o9 (Y1 us) b || !(Nat.ble b H3)then none else Hp.put hp0 b (Hp.get H b) fun H=>some ⟨H,n,[],hi,lg⟩
   | .all=>bif EL (Y1 us)then some ⟨AQ H (Y1 us),n,[],hi,lg⟩else none
def kE(m m':Mem):Option Mem :=
 bif Nat.ble m'.hi m.n then(match m with|⟨H,n,W,hi,_⟩=>some ⟨H,n,W,hi,m'.lg⟩)else
 bif Nat.ble m'.hi H3 then DQ (BU m'.H m.H (KU m.n (m'.hi-m.n))) fun H=>J0 m'.hi fun n=>some ⟨H,n,m.W,n,m'.lg⟩else none
def QH(fr:Fr)(m:Mem)(o:Oper)(b:List Nat)(rs:List Rec)(op:OpC)(k:Value->Mem->Option S):Option S :=
 let us:=AE b rs
 let c:=A7i fr o.op
 match zF m c us with
 | some mv=>match op.run fr mv with
   | some (v,m') =>
     match m'.W,Nat.ble m.hi m'.hi with
     | [],true=>match kE m m' with
       | some m2=>k v m2
       | none=>none
     | _,_=>none
   | none=>none
 | none=>none
def wrO:Op->Bool
 | .call _|.store ..|.mapUpdate ..=>true
 | _=>false
def t6:Op->Bool
 | .move _|.assign _|.extract ..|.slice ..=>true
 | _=>false
def A46:Op->Bool
 | .field ..|.fieldAddr ..|.index ..|.indexAddr ..|.binOp ..|.unOp ..|.build ..|.load ..|.pick ..|.convert ..|.slice ..|.nilCheck _=>true
 | .call ⟨.builtin .len,_,_⟩|.call ⟨.builtin .min,_,_⟩|.call ⟨.builtin .max,_,_⟩=>true
 | o=>t6 o
def CH(a b:Addr):Bool :=
 match a,b with
 | ⟨x,o,none⟩,⟨y,p,none⟩=>Nat.beq x y && Nat.beq o p
 | _,_=>false
def LA(f g:Fn):Bool :=
 match f,g with
 | .func f,.func g=>Nat.beq f g
 | .yield f,.yield g=>Nat.beq f g
 | _,_=>false
def zO(s:Value->Value->Bool):C8->C8->Bool
 | [],[]=>true
 | a::l,b::r=>s a b && zO s l r
 | _,_=>false
def vK:Nat->Value->Value->Bool
 | _,.bool a,.bool b=>a == b
 | _,.int k n,.int j m=>sK k j && zA n m
 | _,.complex .f64 i t,.complex .f64 j u=>Nat.beq i j && Nat.beq t u
 | _,.complex .f32 i t,.complex .f32 j u=>Nat.beq i j && Nat.beq t u
 | _,.string s,.string t=>decide (s.data.toList=t.data.toList)
 | _,.pointer none,.pointer none=>true
 | _,.pointer (some a),.pointer (some b)=>CH a b
 | _,.slice none n c,.slice none m d=>Nat.beq n m && Nat.beq c d
 | _,.slice (some a) n c,.slice (some b) m d=>CH a b && (Nat.beq n m && Nat.beq c d)
 | _,.map none,.map none=>true
 | _,.map (some a),.map (some b)=>Nat.beq a b
 | _,.nilFunc,.nilFunc=>true
 | _,.nilIface,.nilIface=>true
 | d+1,.func f a b,.func g a' b'=>LA f g && (zO (vK d) a.toList a'.toList && zO (vK d) b.toList b'.toList)
 | d+1,.iface t v,.iface u w=>Nat.beq t u && vK d v w
 | _,_,_=>false
def UN(a b:AB):Bool :=
 match a,b with
 | .frz,.frz=>true
 | .cells cs T ro,.cells cs' T' ro'=>zO (vK 6) cs cs' && (Nat.beq T T' && (ro == ro'))
 | _,_=>false
def VH(H:Hp AB)(b:Nat):Option (Nat×AB) :=
 match Hp.get H b with
 | some .frz=>some (b,.frz)
 | some (.cells cs T ro)=>some (b,.cells cs T ro)
 | _=>none
def IK(H:Hp AB)(fr:Fr)(o:Op):Option (Nat×AB) :=
 match o with
 | .load _ x=>match ev fr x with
   | .func (.yield 5) ⟨.pointer (some a)::_⟩ _=>VH H a.block
   | .pointer (some a)=>VH H a.block
   | _=>none
 | _=>none
def wV(H:Hp AB)(b:Nat)(ab:AB):Bool :=
 match Hp.get H b with
 | some x=>Nat.ble b H3 && UN x ab
 | none=>false
def qN:Nat:=262144
def CO(m:Mem)(r:Option (Nat×AB))(us:List Rec):Option Mem :=
 match m with
 | ⟨H,_,_,_,lg⟩=>match r with
   | none=>some ⟨hp0,qN,[],qN,lg⟩
   | some (b,ab)=>bif o9 (Y1 us) b || !(wV H b ab)then none else Hp.put hp0 b (some ab) fun H=>some ⟨H,qN,[],qN,lg⟩
def jX(fr:Fr)(m:Mem)(o:Oper)(b:List Nat)(rs:List Rec)(op:OpC):Option (Value×Lg) :=
 match CO m (IK m.H fr o.op) (AE b rs)with
 | some mv=>match op.run fr mv with
   | some (v,⟨_,_,[],hi,lg⟩)=>bif Nat.beq hi qN then some (v,lg)else none
   | _=>none
 | none=>none
abbrev Qs:=List (Nat×Option (Nat×AB))
def EM:Nat->G5->Qs->Bool
 | 0,_,_=>true
 | n+1,b,qs=>(o9 b n || qs.any fun q=>Nat.beq n q.1) && EM n b qs
def DE(i:Nat):List G5->List Oper->Bool
 | c::bs,o::r=>(o9 c i || t6 o.op) && DE i bs r
 | _,_=>true
def A3l(H:Hp AB)(r:Option (Nat×AB)):Bool :=
 match r with
 | none=>true
 | some (b,ab)=>wV H b ab
def XQ(b:List Nat)(H:Hp AB)(a:Qs):Bool:=a.all fun q=>o9 b q.1 || A3l H q.2
def FZ(o:Op)(i:Nat)(b:List Nat)(bs:List G5)(r:List Oper)(a:Qs):Bool:=wrO o && (EM i b a && DE i bs r)
def i6(P:Program)(nt gl:Nat)(call:N9)(all:List Oper):List Oper->Nat->List G5->List Rec->Qs->S->Option S
 | [],_,_,_,_,s=>some s
 | _::_,_,[],_,_,_=>none
 | o::r,i,b::bs,rs,qs,⟨fr,⟨H,n,W,hi,lg⟩⟩=>match aB nt fr lg all o,xJ nt o.dst && LM nt gl o.op with
   | some (true,lg),true=>bif FZ o.op i b bs r qs then(match (V3 P call o).run fr ⟨H,n,W,hi,lg⟩with
      | some (v,m2)=>bif Nat.ble hi m2.hi && XQ b m2.H qs then(tW o.dst).run v fr fun fr=>i6 P nt gl call all r (i+1) bs [] qs ⟨fr,m2⟩else none
      | none=>none)
     else match (bif A46 o.op then jX fr ⟨H,n,W,hi,lg⟩ o b rs (V3 P call o)else none)with
      | some (v,lg2)=>(tW o.dst).run v fr fun a=>i6 P nt gl call all r (i+1) bs rs ((i,IK H fr o.op)::qs) ⟨a,⟨H,n,W,hi,lg2⟩⟩
      | none=>bif t6 o.op then none else QH fr ⟨H,n,W,hi,lg⟩ o b rs (V3 P call o) fun v m2 =>
        (tW o.dst).run v fr fun fr=>i6 P nt gl call all r (i+1) bs (⟨i,n,m2.n⟩::rs) qs ⟨fr,m2⟩
   | some (false,lg),true=>(tW o.dst).run undef fr fun fr=>i6 P nt gl call all r (i+1) bs rs ((i,none)::qs) ⟨fr,⟨H,n,W,hi,lg⟩⟩
   | _,_=>none
def A0h(l:List Nat)(b:Nat):G5:=bif o9 l b then l else J0 b fun b=>b::l
def PC:G5->G5->G5
 | [],b=>b
 | x::a,b=>A0h (PC a b) x
def qQ(acc:List G5):List Edge->G5
 | []=>[]
 | e::r=>bif Region.binds .any e then A0h (PC (acc.getD e.on []) (qQ acc r)) e.on else qQ acc r
def X6:List Oper->List G5->List G5
 | [],acc=>acc
 | o::r,acc=>Q0 (qQ acc o.after.toList) fun a=>X6 r (acc++[a])
def oG:Operand->List Tmp
 | .tmp t=>[t]
 | _=>[]
def U4(ops:List Oper)(o:Oper):List Tmp :=
 o.dst.toList++(o.op.operands.toList.flatMap oG++(match o.guard with
  | none=>[]
  | some (j,_)=>match ops[j]? with
    | some p=>p.dst.toList
    | none=>[]))
def A1U(a:List G5)(i k:Nat):Bool:=bif Nat.blt i k then o9 (a.getD k []) i else o9 (a.getD i []) k
def qT(a:List G5)(i:Nat)(b:List Tmp):List Oper->Nat->Bool
 | [],_=>true
 | p::r,k=>(Nat.beq k i || (match p.dst with|none=>true|some t=>!(o9 b t) || A1U a i k)) && qT a i b r (k+1)
def mH(i:Nat):List Edge->Bool
 | []=>true
 | e::r=>(!(Region.binds .any e) || Nat.blt e.on i) && mH i r
def HD(ops:List Oper)(a:List G5):List Oper->Nat->Bool
 | [],_=>true
 | o::r,i=>mH i o.after.toList && (qT a i (U4 ops o) ops 0 && HD ops a r (i+1))
def EB(ops:Array Oper):Bool:=HD ops.toList (X6 ops.toList []) ops.toList 0
def EE:Op->Bool
 | .move _|.assign _|.load _ _|.store _ _ _=>true
 | _=>false
def lE:Op->Option (TypeId×Operand)
 | .load t x=>some (t,x)
 | .store t x _=>some (t,x)
 | _=>none
def eT:Op->Bool
 | .store _ _ _=>true
 | _=>false
def VF:Op->List Tmp
 | .move x|.assign x=>oG x
 | .load _ x=>oG x
 | .store _ x y=>oG x++oG y
 | _=>[]
def zW(o:Oper)(l:List Tmp):Bool :=
 match o.dst with
 | some d=>o9 l d
 | none=>false
def A7D(a b:Oper):Bool :=
 (match a.dst,b.dst with
   | some d,some e=>!(Nat.beq d e)
   | _,_=>true) && (!(zW a (VF b.op)) && (!(zW b (VF a.op)) && !(eT a.op && eT b.op)))
def qH(o:Oper)(i:Nat):Bool:=o.after.any fun e=>Region.binds .any e && Nat.beq e.on i
def A0i(l:List Oper):List Tmp:=l.flatMap fun o=>match lE o.op with
 | some (_,x)=>oG x
 | none=>[]
def CQ(p:Oper->Oper->Bool)(l:List Oper):Bool :=
 (List.range l.length).all fun j=>(List.range j).all fun i=>match l[i]?,l[j]? with
   | some a,some b=>qH b i || p a b
   | _,_=>true
def A5C(a:List Tmp)(i:Nat)(o:Oper):Bool:=EE o.op && ((match o.guard with|none=>true|some _=>false) && (!(zW o a) && o.after.all fun e=>!(Region.binds .any e) || Nat.blt e.on i))
def WF(a:List Tmp):Nat->List Oper->Bool
 | _,[]=>true
 | i,o::l=>A5C a i o && WF a (i+1) l
def jV(l:List Oper):Bool:=WF (A0i l) 0 l && CQ A7D l
def VY(P:Program)(nt gl:Nat)(fr:Fr)(H:Hp AB)(o:Oper):Bool :=
 match lE o.op with
 | none=>true
 | some (t,x)=>bif !(okX nt gl x)then false else match ev fr x,u9 P t,G3 P t with
   | .pointer (some a),some _,some s=>match a.spot,Hp.get H a.block with
     | none,some (.cells cs _ false)=>Nat.ble (a.off+s) cs.length && (Nat.blt a.off cs.length && Nat.ble a.block H3)
     | _,_=>false
   | _,_,_=>false
def A0f(fr:Fr)(a b:Oper):Bool :=
 bif eT a.op || eT b.op then match lE a.op,lE b.op with
  | some (_,x),some (_,y)=>match ev fr x,ev fr y with
    | .pointer (some p),.pointer (some q)=>!(Nat.beq p.block q.block)
    | _,_=>false
  | _,_=>true else true
def kG(P:Program)(nt gl:Nat)(fr:Fr)(H:Hp AB)(l:List Oper):Bool:=l.all (VY P nt gl fr H) && CQ (A0f fr) l
structure fD where
 run:S->Option (Ex×S)
def AG(f:fD):Nat->S->Option (Ex×S)
 | 0,_=>none
 | n+1,s=>match f.run s with
   | some (.normal,s)=>AG f n s
   | r=>r
def A0S(a b:fD)(s:S):Option (Ex×S) :=
 match a.run s with
 | some (.normal,s)=>b.run s
 | r=>r
def JM(c:XC)(a b:fD)(s:S):Option (Ex×S) :=
 match c.run s.fr with
 | .bool true=>a.run s
 | .bool false=>b.run s
 | v=>match s with
   | ⟨fr,⟨H,n,W,hi,lg⟩⟩=>match brL lg v with
     | some (true,lg)=>a.run ⟨fr,⟨H,n,W,hi,lg⟩⟩
     | some (false,lg)=>b.run ⟨fr,⟨H,n,W,hi,lg⟩⟩
     | none=>none
def xV(id:Nat)(c:fD)(s:S):Option (Ex×S) :=
 match c.run s with
 | some (.exit j,s)=>bif Nat.beq j id then some (.normal,s)else some (.exit j,s)
 | r=>r
def X4(r:A0k)(s:S):Option (Ex×S) :=
 match r.run s with
 | some s=>some (.normal,s)
 | none=>none
structure LpT where
 me:FuncId
 look:List Bool->Option (S->Option (Ex×S))
def AH(c:fD)(L:S->Option (Ex×S)):Nat->S->Option (Ex×S)
 | 0,_=>none
 | n+1,s=>match L s with
   | some r=>some r
   | none=>match c.run s with
     | some (.normal,s)=>AH c L n s
     | r=>r
def JK(c:fD)(l:Option (S->Option (Ex×S)))(s:S):Option (Ex×S) :=
 match l with
 | some f=>AH c f 4 s
 | none=>AG c 1000000 s
def frL(fr:Fr):Nat->Nat->C8
 | _,0=>[]
 | i,n+1=>fr.get i::frL fr (i+1) n
def A3I:Value->Nat
 | .pointer (some a)=>a.block
 | _=>0
def gI(v:Value):G5 :=
 match v with
 | .func (.yield 8) ⟨l⟩ ⟨[]⟩=>l.map A3I
 | _=>[]
def exN:Ex->Nat
 | .normal=>0
 | .ret=>2
 | .exit k=>k+4
def nEx:Nat->Option Ex
 | 0=>some .normal
 | 1=>none
 | 2=>some .ret
 | 3=>none
 | k+4=>some (.exit k)
def DG:Ex->Bool
 | .normal=>true
 | _=>false
def oX(fr:Fr)(hi:Nat)(b:Nat)(r:Res):Option (Ex×S) :=
 match r with
 | some (_,m)=>match Hp.get m.H b with
   | some (.lp f q vs st)=>match nEx st with
     | some e=>bif Nat.ble hi m.hi then match bM m b (.lp f q vs 3)with
       | some m=>some (e,⟨fr,m⟩)
       | none=>none else none
     | none=>none
   | _=>none
 | none=>none
def pX(P:Program)(f:FuncId):Bool :=
 match P.funcs.toList[f]? with
 | some fn=>match fn.body with
   | some _=>true
   | none=>false
 | none=>false
def bH(P:Program)(nt:Nat)(call:N9)(f:FuncId)(q:List Bool)(g:Value)(fr:Fr)(m:Mem):Option (Ex×S) :=
 Q0 (frL fr 0 nt) fun vs=>match Y0 m (.lp f q vs 0) yv with
 | some (v,m1)=>match uO g [v],dI v with
   | some (k,as),some b=>bif pX P k then oX fr m1.hi b ((call.fn k).run as m1)else none
   | _,_=>none
 | none=>none
def xU(P:Program)(nt:Nat)(call:N9)(f:FuncId)(q:List Bool)(x:XC)(s:S):Option (Ex×S) :=
 match s with
 | ⟨fr,m⟩=>bif Nat.ble nt 510 then match dI (fr.get 511)with
   | some d=>match Hp.get m.H d with
     | some (.lp _ _ _ 1)=>bH P nt call f q (x.run fr) fr m
     | _=>none
   | none=>bif mB (fr.get 511)then match Y0 m (.dfr true) (fun b=>.pointer (some ⟨b,0,none⟩))with
      | some (.pointer (some a),m1)=>Q0 (gI (fr.get 510)) fun l=>tT (sel 7) (sel 7) (sel 6) (dv (a.block::l)) fr fun c=>bH P nt call f q (x.run fr) c m1
      | _=>none else none
   else none
def M4(P:Program)(nt gl:Nat)(call:N9)(lp:LpT):List Bool->Code->fD
 | _,.skip=>⟨fun s=>some (.normal,s)⟩
 | _,.label _=>⟨fun s=>some (.normal,s)⟩
 | _,.region _ ops d=>match d with
   | false=>⟨fun s=>X4 (T6 P nt gl call ops.toList ops.toList) s⟩
   | true=>bif EB ops then bif jV ops.toList then⟨fun s=>bif kG P nt gl s.fr s.m.H ops.toList then X4 (T6 P nt gl call ops.toList ops.toList) s else X4 ⟨i6 P nt gl call ops.toList ops.toList 0 (X6 ops.toList []) [] []⟩ s⟩
     else⟨fun s=>X4 ⟨i6 P nt gl call ops.toList ops.toList 0 (X6 ops.toList []) [] []⟩ s⟩else⟨fun _=>none⟩
 | q,.seq a b=>⟨fun s=>A0S (M4 P nt gl call lp (q++[false]) a) (M4 P nt gl call lp (q++[true]) b) s⟩
 | q,.cond c a b=>bif okX nt gl c then⟨fun s=>JM (Q9 c) (M4 P nt gl call lp (q++[false]) a) (M4 P nt gl call lp (q++[true]) b) s⟩else⟨fun _=>none⟩
 | q,.block id c=>⟨fun s=>xV id (M4 P nt gl call lp (q++[false]) c) s⟩
 | q,.loop c=>⟨fun s=>JK (M4 P nt gl call lp (q++[false]) c) (lp.look q) s⟩
 | q,.rangeFunc x _ _ _=>bif okX nt gl x then⟨fun s=>xU P nt call lp.me q (Q9 x) s⟩else⟨fun _=>none⟩
 | q,.scope c=>M4 P nt gl call lp (q++[false]) c
 | _,.exit id=>⟨fun s=>some (.exit id,s)⟩
 | _,.ret=>⟨fun s=>some (.ret,s)⟩
 | _,_=>⟨fun _=>none⟩
def IH(ids:Value->List Nat):C8->G5
 | []=>[]
 | v::r=>ids v++IH ids r
def yY:Nat->Value->G5
 | 0,_=>[]
 | _+1,.pointer (some a)=>[a.block]
 | _+1,.slice (some a) _ _=>[a.block]
 | _+1,.map (some b)=>[b]
 | d+1,.func _ a b=>IH (yY d) a.toList++IH (yY d) b.toList
 | d+1,.iface _ v=>yY d v
 | d+1,.agg cs=>IH (yY d) cs.toList
 | d+1,.tuple cs=>IH (yY d) cs.toList
 | _+1,_=>[]
def A7F:AB->G5
 | .cells cs _ _=>IH (yY 10) cs
 | .mp _ _ _=>[]
 | .iter vs=>IH (yY 10) vs
 | .lp _ _ vs _=>IH (yY 10) vs
 | .dfr _=>[]
 | .sq _ _ _ g _=>[g]
 | .frz=>[]
def GN(n0:Nat)(H:Hp AB):Nat->G5->G5->G5
 | 0,_,acc=>acc
 | _+1,[],acc=>acc
 | f+1,b::r,acc=>bif Nat.blt b n0 || o9 acc b then GN n0 H f r acc else match Hp.get H b with
   | some ab=>GN n0 H f (A7F ab++r) (b::acc)
   | none=>GN n0 H f r acc
def dX(a H:Hp AB):G5->Hp AB
 | []=>H
 | b::r=>Hp.put H b (Hp.get a b) fun H=>dX a H r
def wOf(H:Hp AB):G5->G5
 | []=>[]
 | b::r=>(match Hp.get H b with|some ab=>A7F ab|none=>[])++wOf H r
def mW:G5->G5->G5
 | [],acc=>acc
 | b::r,acc=>bif o9 acc b then mW r acc else mW r (b::acc)
def mO(low:Value->Bool):C8->Bool
 | []=>true
 | v::r=>low v && mO low r
def Z3(n:Nat):Nat->Value->Bool
 | 0,_=>false
 | _+1,.pointer (some a)=>Nat.blt a.block n
 | _+1,.slice (some a) _ _=>Nat.blt a.block n
 | _+1,.map (some b)=>Nat.blt b n
 | d+1,.func _ a b=>mO (Z3 n d) a.toList && mO (Z3 n d) b.toList
 | d+1,.iface _ v=>Z3 n d v
 | d+1,.agg cs=>mO (Z3 n d) cs.toList
 | d+1,.tuple cs=>mO (Z3 n d) cs.toList
 | _+1,.complex _ _ _=>true
 | _+1,v=>H9 v
def A1k(n:Nat):Option AB->Bool
 | none=>true
 | some (.cells cs _ _)=>mO (Z3 n 10) cs
 | some (.mp _ _ _)=>true
 | some (.iter vs)=>mO (Z3 n 10) vs
 | some (.lp _ _ vs _)=>mO (Z3 n 10) vs
 | some (.dfr _)=>true
 | some (.sq _ _ _ g _)=>Nat.blt g n
 | some .frz=>true
def LS(n:Nat)(H:Hp AB):G5->Bool
 | []=>true
 | b::r=>A1k n (Hp.get H b) && LS n H r
def gcM(m m':Mem)(v:Value):Option Mem :=
 let W:=mW (m'.W.filter fun b=>Nat.blt b m.n || Nat.ble m'.hi b) []
 bif Z3 m.n 10 v && LS m.n m'.H W then
  bif EL W then DQ (dX m'.H m.H W) fun H=>J0 m'.hi fun hi=>Q0 (W++m.W) fun W=>some ⟨H,m.n,W,hi,m'.lg⟩else none
 else
  let ids:=(GN m.n m'.H 100000 (yY 10 v++wOf m'.H W) []).filter fun b=>Nat.ble m.n b && Nat.blt b m'.hi
  bif EL (W++ids)then DQ (dX m'.H m.H (W++ids)) fun H=>J0 m'.n fun n=>J0 m'.hi fun hi=>Q0 (W++m.W) fun W=>some ⟨H,n,W,hi,m'.lg⟩else none
def A6T(P:Program)(nt:Nat)(s:S):ResultVar->P5
 | .tmp t=>bif Nat.blt t nt then some (s.fr.get t)else none
 | .cell a t=>bif Nat.blt a nt then match s.fr.get a with
   | .pointer (some a)=>OU P s.m t a
   | _=>none else none
def RR(P:Program)(nt:Nat)(s:S):List ResultVar->Option C8
 | []=>some []
 | r::rs=>match A6T P nt s r,RR P nt s rs with
   | some v,some vs=>some (v::vs)
   | _,_=>none
def RQ(fn:Func)(P:Program)(s:S):P5 :=
 match RR P fn.ntmps s fn.results.toList with
 | some [v]=>some v
 | some vs=>some (.tuple ⟨vs⟩)
 | none=>none
def eG(fr:Fr):Nat->C8->Fr
 | _,[]=>fr
 | i,v::r=>tT (sel (i / 64%8)) (sel (i / 8%8)) (sel (i%8)) v fr fun fr=>eG fr (i+1) r
def rM(l:List UInt8)(c:UInt8):Nat->Int
 | i=>match l with
   | [] => -1
   | b::r=>bif decide (b=c)then(i:Int)else rM r c (i+1)
def sA(c:UInt8):List UInt8->Nat->Nat
 | [],n=>n
 | b::r,n=>bif decide (b=c)then J0 (n+1) (sA c r)else sA c r n
def nM(k:EK)(args:List Value)(m:Mem):Res :=
 match k,args with
 | .noEscape,[v]=>some (v,m)
 | .indexByteString,[.string s,.int .u8 (.ofNat c)]=>some (.int .i64 (rM s.data.toList (UInt8.ofNat c) 0),m)
 | .countString,[.string s,.int .u8 (.ofNat c)]=>some (.int .i64 (sA (UInt8.ofNat c) s.data.toList 0),m)
 | .makeNoZero e,[.int .i64 (.ofNat n)]=>bif Nat.ble n 1000000000 then Y0 m (.cells [] e false) fun b=>.slice (some ⟨b,0,none⟩) n L9 else none
 | _,_=>none
def oH:G5->Mem->Option Mem
 | [],m=>some m
 | b::r,m=>match Hp.get m.H b with
   | some (.dfr true)=>match bM m b (.dfr false)with
     | some m=>oH r m
     | none=>none
   | _=>none
def dvG(nt:Nat)(fr:Fr):G5:=bif Nat.ble nt 510 then gI (fr.get 510)else[]
def A5z(fn:Func)(P:Program)(m:Mem)(r:Option (Ex×S)):Res :=
 match r with
 | some (.normal,⟨fr,m1⟩)|some (.ret,⟨fr,m1⟩)=>match oH (dvG fn.ntmps fr) m1 with
   | some m1=>match RQ fn P ⟨fr,m1⟩with
     | some v=>match gcM m m1 v with
       | some m=>some (v,m)
       | none=>none
     | none=>none
   | none=>none
 | _=>none
def KT(c:fD)(fr:Fr)(m:Mem):Option (Ex×S) :=
 match m with
 | ⟨H,n,_,hi,lg⟩=>c.run ⟨fr,⟨H,n,[],hi,lg⟩⟩
def xY(fn:Func)(P:Program)(c:fD)(args:List Value)(m:Mem):Res :=
 bif Nat.ble args.length fn.ntmps && Nat.ble fn.ntmps 512 then A5z fn P m (KT c (eG fr0 0 args) m)else none
structure Cx where
 P:Program
 ext:List (FuncId×EK)
 gl:Nat
 con:FuncId->Option FnC
 lp:FuncId->LpT
def BK(C:Cx)(call:N9)(f:FuncId):FnC :=
 match C.P.funcs.toList[f]? with
 | none=>⟨fun _ _=>none⟩
 | some fn=>match C.con f with
   | some c=>c
   | none=>match fn.body with
     | none=>match IS C.ext f with
       | some k=>⟨nM k⟩
       | none=>⟨fun _ _=>none⟩
     | some c=>⟨xY fn C.P (M4 C.P fn.ntmps C.gl call (C.lp f) [] c)⟩
def sT:List Tmp->C8->Fr->Option Fr
 | [],[],fr=>some fr
 | t::ts,v::vs,fr=>tT (sel (t / 64%8)) (sel (t / 8%8)) (sel (t%8)) v fr fun fr=>sT ts vs fr
 | _,_,_=>none
def oT(b:Nat)(r:Option (Ex×S)):Res :=
 match r with
 | some (e,⟨_,m⟩)=>match Hp.get m.H b with
   | some (.lp f q vs 1)=>J0 (exN e) fun st=>match bM m b (.lp f q vs st)with
     | some m=>some (.bool (DG e),m)
     | none=>none
   | _=>none
 | none=>none
def oS(b:Nat)(c:fD)(r:Option (Ex×S)):Res :=
 match r with
 | some (.normal,⟨fr,m⟩)=>match Hp.get m.H b with
   | some (.lp f q vs 0)=>match bM m b (.lp f q vs 1)with
     | some m=>oT b (c.run ⟨fr,m⟩)
     | none=>none
   | _=>none
 | _=>none
def CL(C:Cx)(call:N9):FnC:=⟨fun vs m =>
 match vs with
 | []=>none
 | v::args=>match dI v with
   | none=>none
   | some b=>match Hp.get m.H b with
     | some (.lp f q fs 0)=>match C.P.funcs.toList[f]? with
       | none=>none
       | some fn=>match fn.body with
         | none=>none
         | some body=>match H7 q body with
           | some (.rangeFunc _ ps as bd)=>bif Nat.ble fn.ntmps 510 && ps.toList.all (fun t=>Nat.blt t fn.ntmps)then match sT ps.toList args (eG fr0 0 fs)with
             | some fr=>tT (sel 7) (sel 7) (sel 7) v fr fun fr=>oS b (M4 C.P fn.ntmps C.gl call (C.lp f) (q++[true]) bd) ((M4 C.P fn.ntmps C.gl call (C.lp f) (q++[false]) as).run ⟨fr,m⟩)
             | none=>none else none
           | _=>none
     | _=>none⟩
def tH(C:Cx):Nat->N9
 | 0=>⟨fun _=>⟨fun _ _=>none⟩,⟨fun _ _=>none⟩⟩
 | d+1=>⟨BK C (tH C d),CL C (tH C d)⟩
end
end Go.Sx
