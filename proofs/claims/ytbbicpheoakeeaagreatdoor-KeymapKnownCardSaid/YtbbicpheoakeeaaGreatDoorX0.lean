/- The law KeymapKnown: for every input the call returns true, and the arguments read behind it as they read before. No condition. -/
import Derived.WalkKit
import Derived.OrdersHeld
import Derived.KernelRfl
set_option linter.all false
set_option maxRecDepth 100000
set_option maxHeartbeats 4000000
namespace Go
variable {p:Prop}
abbrev dX:=@Array.all_eq_true'
abbrev I2:=@Array.ext'
abbrev B5:=@Array.getD_eq_getD_getElem?
abbrev S0:=@Array.getElem?_append_left
abbrev E7:=@Array.getElem?_eq_getElem
abbrev C6:=@Array.getElem?_eq_some_iff
abbrev G6:=@Array.getElem?_modify
abbrev Z5:=@Array.getElem?_push
abbrev eX:=@Array.getElem?_replicate
abbrev i6:=@Array.getElem?_set
abbrev F3:=@Array.getElem?_setIfInBounds
abbrev X3:=@Array.getElem?_toList
abbrev Q7:=@Array.length_toList
abbrev eA:=@Array.mapM_eq_mapM_toList
abbrev Y5:=@Array.mk.injEq
abbrev Y8:=@BitVec.toNat_and
abbrev O8:=@BitVec.toNat_ofInt
abbrev G4:=@Bool.and_eq_true
abbrev kX:=@Bool.and_false
abbrev mP:=@Bool.and_true
abbrev J1:=@Bool.eq_iff_iff
abbrev I6:=@Bool.false_eq_true
abbrev P2:=@Bool.false_or
abbrev P1:=@Bool.not_true
abbrev Y4:=@Bool.or_eq_false_iff
abbrev I1:=@Bool.or_eq_true
abbrev E0:=@Decidable.not_not
abbrev fX:=@Int.eq_ofNat_of_zero_le
abbrev iQ:=@Int.ofNat.injEq
abbrev cO:=@Int.ofNat_le
abbrev T9:=@Int.toNat_natCast
abbrev cG:=@Int.toNat_of_nonneg
abbrev iP:=@List.all_append
abbrev aZ:=@List.all_cons
abbrev D2:=@List.all_eq_true
abbrev P0:=@List.any_cons
abbrev O7:=@List.any_eq_true
abbrev L9:=@List.append_assoc
abbrev L3:=@List.append_nil
abbrev I5:=@List.cons.injEq
abbrev R4:=@List.cons_append
abbrev bR:=@List.count_le_length
abbrev dW:=@List.drop_drop
abbrev Z0:=@List.drop_eq_getElem_cons
abbrev O1:=@List.drop_eq_nil_of_le
abbrev dV:=@List.drop_zero
abbrev aM:=@List.eq_nil_iff_forall_not_mem
abbrev L8:=@List.eq_nil_of_length_eq_zero
abbrev eS:=@List.ext_getElem?
abbrev cF:=@List.filter_eq_self
abbrev iO:=@List.find?_cons
abbrev eR:=@List.flatMap_cons
abbrev J6:=@List.flatten_cons
abbrev R3:=@List.flatten_nil
abbrev B2:=@List.getD_eq_getElem?_getD
abbrev E6:=@List.getElem?_append_left
abbrev D7:=@List.getElem?_append_right
abbrev Q0:=@List.getElem?_cons_succ
abbrev P9:=@List.getElem?_cons_zero
abbrev H3:=@List.getElem?_drop
abbrev A5:=@List.getElem?_eq_getElem
abbrev S4:=@List.getElem?_eq_none
abbrev dZ:=@List.getElem?_eq_none_iff
abbrev B0:=@List.getElem?_eq_some_iff
abbrev F9:=@List.getElem?_map
abbrev bQ:=@List.getElem?_set_ne
abbrev Q9:=@List.getElem?_set_self
abbrev F4:=@List.getElem?_take_of_lt
abbrev I0:=@List.getElem?_toArray
abbrev M8:=@List.getElem_mem
abbrev Z4:=@List.getElem_of_mem
abbrev B8:=@List.length_append
abbrev D5:=@List.length_cons
abbrev E4:=@List.length_drop
abbrev F6:=@List.length_eq_zero_iff
abbrev E3:=@List.length_map
abbrev Q6:=@List.length_nil
abbrev cE:=@List.length_pos_iff
abbrev S3:=@List.length_replicate
abbrev Q5:=@List.length_set
abbrev x9:=@List.length_singleton
abbrev R2:=@List.length_take
abbrev S9:=@List.map_append
abbrev cD:=@List.map_congr_left
abbrev C4:=@List.map_cons
abbrev iA:=@List.map_map
abbrev F8:=@List.map_nil
abbrev B6:=@List.mem_append
abbrev B4:=@List.mem_cons
abbrev C3:=@List.mem_cons_of_mem
abbrev B1:=@List.mem_cons_self
abbrev Q4:=@List.mem_filter
abbrev K4:=@List.mem_map
abbrev C7:=@List.mem_of_getElem?
abbrev bP:=@List.mem_of_mem_drop
abbrev V0:=@List.mem_range
abbrev g9:=@List.mem_singleton
abbrev G1:=@List.nil_append
abbrev L6:=@List.not_mem_nil
abbrev w9:=@List.take_append_drop
abbrev u7:=@List.take_of_length_le
abbrev aY:=@Nat.add_assoc
abbrev hZ:=@Nat.add_comm
abbrev G8:=@Nat.add_mul
abbrev U9:=@Nat.add_sub_cancel_left
abbrev hY:=@Nat.add_zero
abbrev aK:=@Nat.and_le_right
abbrev cC:=@Nat.and_mod_two_pow
abbrev cN:=@Nat.beq_refl
abbrev nL:=@Nat.ble_eq
abbrev C5:=@Nat.ble_eq_true_of_le
abbrev A0:=@Nat.eq_of_beq_eq_true
abbrev R9:=@Nat.eq_zero_or_pos
abbrev A1:=@Nat.le_of_ble_eq_true
abbrev hP:=@Nat.le_of_lt
abbrev A6:=@Nat.le_refl
abbrev Y3:=@Nat.le_succ
abbrev B9:=@Nat.le_trans
abbrev D1:=@Nat.lt_of_lt_of_le
abbrev fW:=@Nat.lt_of_not_le
abbrev F2:=@Nat.lt_or_ge
abbrev I3:=@Nat.lt_succ_self
abbrev Y7:=@Nat.mod_eq_of_lt
abbrev nK:=@Nat.mod_lt
abbrev u6:=@Nat.mul_comm
abbrev g8:=@Nat.mul_div_cancel
abbrev u5:=@Nat.mul_le_mul
abbrev F1:=@Nat.mul_le_mul_right
abbrev eQ:=@Nat.one_mul
abbrev bO:=@Nat.pow_le_pow_right
abbrev hO:=@Nat.sub_self
abbrev X5:=@Nat.succ_le_of_lt
abbrev E8:=@Nat.zero_add
abbrev kW:=@Nat.zero_le
abbrev hJ:=@Nat.zero_mul
abbrev D6:=@Option.bind_eq_some_iff
abbrev J0:=@Option.bind_some
abbrev aJ:=@Option.getD_some
abbrev t8:=@Option.map_eq_some_iff
abbrev K2:=@Option.map_some
abbrev A7:=@Option.some.inj
abbrev D0:=@Option.some.injEq
abbrev L2:=@Prod.mk.injEq
abbrev A4:=@Sem.run_bind
abbrev D4:=@cond_false
abbrev D8:=@cond_true
abbrev F0:=@congrArg
abbrev E9:=@decide_eq_false
abbrev L1:=@decide_eq_true
abbrev A8:=@if_neg
abbrev A9:=@if_pos
abbrev K3:=@of_decide_eq_true
def D9(h:p:=by kernel_rfl):p:=h
def J4{α:Type}{a:Option α}{b c:α}(h:a=some b)(e:b=c:=by kernel_rfl):a=some c:=h.trans (by rw[e])
def A2(h:p:=by omega):p:=h
def F7(h:p:=by decide):p:=h
end Go
namespace Go.Sx
section
open Go
abbrev C9:=List Value
abbrev G5:=List Nat
abbrev P4:=Option Value
abbrev U8:=Array Value
structure N8 (α:Type) where
 c0:α
 c1:α
 c2:α
 c3:α
 c4:α
 c5:α
 c6:α
 c7:α
structure Sel where
 get:{α:Type}->N8 α->α
 upd:{α β:Type}->N8 α->α->(N8 α->β)->β
def sel:Nat->Sel
 | 0=>⟨fun n=>n.c0,fun n v k=>match n with|⟨a0,a1,a2,a3,a4,a5,a6,a7⟩=>k ⟨v,a1,a2,a3,a4,a5,a6,a7⟩⟩
 | 1=>⟨fun n=>n.c1,fun n v k=>match n with|⟨a0,a1,a2,a3,a4,a5,a6,a7⟩=>k ⟨a0,v,a2,a3,a4,a5,a6,a7⟩⟩
 | 2=>⟨fun n=>n.c2,fun n v k=>match n with|⟨a0,a1,a2,a3,a4,a5,a6,a7⟩=>k ⟨a0,a1,v,a3,a4,a5,a6,a7⟩⟩
 | 3=>⟨fun n=>n.c3,fun n v k=>match n with|⟨a0,a1,a2,a3,a4,a5,a6,a7⟩=>k ⟨a0,a1,a2,v,a4,a5,a6,a7⟩⟩
 | 4=>⟨fun n=>n.c4,fun n v k=>match n with|⟨a0,a1,a2,a3,a4,a5,a6,a7⟩=>k ⟨a0,a1,a2,a3,v,a5,a6,a7⟩⟩
 | 5=>⟨fun n=>n.c5,fun n v k=>match n with|⟨a0,a1,a2,a3,a4,a5,a6,a7⟩=>k ⟨a0,a1,a2,a3,a4,v,a6,a7⟩⟩
 | 6=>⟨fun n=>n.c6,fun n v k=>match n with|⟨a0,a1,a2,a3,a4,a5,a6,a7⟩=>k ⟨a0,a1,a2,a3,a4,a5,v,a7⟩⟩
 | _=>⟨fun n=>n.c7,fun n v k=>match n with|⟨a0,a1,a2,a3,a4,a5,a6,a7⟩=>k ⟨a0,a1,a2,a3,a4,a5,a6,v⟩⟩
def nJ{α:Type}(v:α):N8 α:=⟨v,v,v,v,v,v,v,v⟩
def CZ{α β:Type}(n:N8 α)(k:N8 α->β):β :=
 match n with
 | ⟨a0,a1,a2,a3,a4,a5,a6,a7⟩=>k ⟨a0,a1,a2,a3,a4,a5,a6,a7⟩
abbrev Fr:=N8 (N8 (N8 Value))
def Fr.get(fr:Fr)(t:Nat):Value:=(sel (t%8)).get ((sel (t / 8%8)).get ((sel (t / 64%8)).get fr))
def tG{β:Type}(a b c:Sel)(v:Value)(fr:Fr)(k:Fr->β):β :=
 c.upd (b.get (a.get fr)) v fun d=>b.upd (a.get fr) d fun e=>a.upd fr e k
def Fr.set(fr:Fr)(t:Nat)(v:Value):Fr:=tG (sel (t / 64%8)) (sel (t / 8%8)) (sel (t%8)) v fr fun fr=>fr
def fr0:Fr:=nJ (nJ (nJ (.tuple #[])))
abbrev Hp(α:Type):=N8 (N8 (N8 (N8 (N8 (N8 (Option α))))))
def Hp.get{α:Type}(h:Hp α)(n:Nat):Option α :=
 (sel (n%8)).get ((sel (n / 8%8)).get ((sel (n / 64%8)).get ((sel (n / 512%8)).get ((sel (n / 4096%8)).get ((sel (n / 32768%8)).get h)))))
def V9{α β:Type}(a b c d e f:Sel)(v:Option α)(h:Hp α)(k:Hp α->β):β :=
 f.upd (e.get (d.get (c.get (b.get (a.get h))))) v fun m=>e.upd (d.get (c.get (b.get (a.get h)))) m fun j=>d.upd (c.get (b.get (a.get h))) j fun l=>c.upd (b.get (a.get h)) l fun g=>b.upd (a.get h) g fun i=>a.upd h i k
def Hp.put{α β:Type}(h:Hp α)(n:Nat)(v:Option α)(k:Hp α->β):β :=
 V9 (sel (n / 32768%8)) (sel (n / 4096%8)) (sel (n / 512%8)) (sel (n / 64%8)) (sel (n / 8%8)) (sel (n%8)) v h k
def Hp.set{α:Type}(h:Hp α)(n:Nat)(v:Option α):Hp α:=h.put n v fun h=>h
def hp0{α:Type}:Hp α:=nJ (nJ (nJ (nJ (nJ (nJ none)))))
def G9:Nat:=262143
def I8{β:Type}(n:Nat)(k:Nat->β):β :=
 match n with
 | 0=>k 0
 | m+1=>k (Nat.succ m)
def wM{β:Type}(i:Int)(k:Int->β):β :=
 match i with
 | .ofNat n=>I8 n fun n=>k (.ofNat n)
 | .negSucc n=>I8 n fun n=>k (.negSucc n)
def Q3{α β:Type}:List α->(List α->β)->β
 | [],k=>k []
 | x::r,k=>Q3 r fun r=>k (x::r)
def JK:IntKind->Nat
 | .i8=>127|.i16=>32767|.i32=>2147483647|.i64=>9223372036854775807
 | .u8=>255|.u16=>65535|.u32=>4294967295|.u64=>18446744073709551615
def yQ(k:IntKind)(n:Int):Int :=
 match n with
 | .ofNat m=>bif Nat.ble m (JK k)then .ofNat m else k.wrap (.ofNat m)
 | .negSucc m=>k.wrap (.negSucc m)
def A67(a b:Int):Int :=
 match a,b with
 | .ofNat m,.ofNat n=>.ofNat (Nat.add m n)
 | a,b=>a+b
def A38(a b:Int):Int :=
 match a,b with
 | .ofNat m,.ofNat n=>bif Nat.ble n m then .ofNat (Nat.sub m n)else .ofNat m - .ofNat n
 | a,b=>a-b
def A6C(a b:Int):Int :=
 match a,b with
 | .ofNat m,.ofNat n=>.ofNat (Nat.mul m n)
 | a,b=>a*b
def ltF(a b:Int):Bool :=
 match a,b with
 | .ofNat m,.ofNat n=>Nat.blt m n
 | .negSucc _,.ofNat _=>true
 | .ofNat _,.negSucc _=>false
 | .negSucc m,.negSucc n=>Nat.blt n m
def leF(a b:Int):Bool :=
 match a,b with
 | .ofNat m,.ofNat n=>Nat.ble m n
 | .negSucc _,.ofNat _=>true
 | .ofNat _,.negSucc _=>false
 | .negSucc m,.negSucc n=>Nat.ble n m
def yM(a b:Int):Bool :=
 match a,b with
 | .ofNat m,.ofNat n=>Nat.beq m n
 | .negSucc m,.negSucc n=>Nat.beq m n
 | _,_=>false
def rZ:IntKind->IntKind->Bool
 | .i8,.i8|.i16,.i16|.i32,.i32|.i64,.i64|.u8,.u8|.u16,.u16|.u32,.u32|.u64,.u64=>true
 | _,_=>false
def mkI(k:IntKind)(n:Int):Value:=wM n fun n=>.int k n
inductive U where
 | none
 | int (k:IntKind) (n:Int)
 | bool (b:Bool)
 | str (s:List UInt8)
 | seq (nul:Bool) (w:Nat) (rows:List (List U))
inductive LOp where
 | bin (op:BinOp)
 | un (op:UnOp)
 | conv (k:IntKind)
 | len
 | idx
 | sub
 | sub1
 | sel
 | eqs
 | inb
 | max
 | min
 | mks
 | inbs (w:Nat)
 | get (w o:Nat)
 | mk (w:Nat)
 | nilw (w:Nat)
 | nilp
 | snoc (w:Nat)
 | cat (w:Nat)
 | cats
 | set (w o:Nat)
 | subs (w:Nat)
 | str
 | byt
 | rep (w:Nat)
 | ustr
 | mhas (w kw:Nat)
 | mget (w kw o:Nat)
 | mput (w kw:Nat)
 | rune
 | rpos
inductive c8 where
 | lt (i t:Nat) (op:LOp) (xs:List Value)
 | dt (i t:Nat) (op:LOp) (xs:List Value)
 | br (i:Nat) (b:Bool)
 | as (op:LOp) (xs:List Value)
 | con (spec:List U->Option (Nat×List U)) (xs:List Value) (i d n:Nat)
structure Lg where
 nx:Nat
 pi:G5
 log:List c8
def hole(i t:Nat):Value:=.complex .f64 i t
def junk:Value:=.complex .f32 0 0
def ixp(a:Addr)(s:Nat)(i:Value)(n:Nat):Value:=.func (.yield 1) ⟨[.pointer (some a),.int .i64 (.ofNat s),i,.int .i64 (.ofNat n)]⟩ ⟨[]⟩
def dat(b i t:Nat):Value:=.func (.yield 2) ⟨[.pointer (some ⟨b,0,none⟩),.complex .f64 i t]⟩ ⟨[]⟩
def clp(b i t:Nat):Value:=.func (.yield 3) ⟨[.pointer (some ⟨b,0,none⟩),.complex .f64 i t]⟩ ⟨[]⟩
def own(b i t:Nat):Value:=.func (.yield 4) ⟨[.pointer (some ⟨b,0,none⟩),.complex .f64 i t]⟩ ⟨[]⟩
def dpt(b i t:Nat)(z:Value)(o:Nat):Value:=.func (.yield 5) ⟨[.pointer (some ⟨b,0,none⟩),.complex .f64 i t,z,.int .i64 (.ofNat o)]⟩ ⟨[]⟩
def opt(b i t:Nat)(z:Value)(o:Nat):Value:=.func (.yield 6) ⟨[.pointer (some ⟨b,0,none⟩),.complex .f64 i t,z,.int .i64 (.ofNat o)]⟩ ⟨[]⟩
def yv(b:Nat):Value:=.func (.yield 7) ⟨[.pointer (some ⟨b,0,none⟩)]⟩ ⟨[]⟩
def sdt(b:Nat):Value:=.func (.yield 9) ⟨[.pointer (some ⟨b,0,none⟩)]⟩ ⟨[]⟩
def dv(ids:List Nat):Value:=.func (.yield 8) ⟨ids.map fun b=>.pointer (some ⟨b,0,none⟩)⟩ ⟨[]⟩
def XW:Value->Bool
 | .complex .f32 _ _=>true
 | _=>false
def one:Value:=.complex .f32 1 0
def gS:Value->Bool
 | .complex .f32 i _=>!(Nat.beq i 1)
 | _=>false
def fN:IntKind->Nat
 | .i8=>0|.i16=>1|.i32=>2|.i64=>3|.u8=>4|.u16=>5|.u32=>6|.u64=>7
def G0:Value->Nat
 | .int k _=>fN k
 | .bool _=>8
 | .string _=>9
 | .complex .f64 _ t=>t
 | _=>99
inductive AB where
 | cells (cs:List Value) (T:TypeId) (ro:Bool)
 | sq (c t:Nat) (T:TypeId) (g:Nat) (ro:Bool)
 | frz
 | mp (c t:Nat) (T:TypeId)
 | iter (vs:List Value)
 | lp (f:FuncId) (q:List Bool) (vs:List Value) (st:Nat)
 | dfr (b:Bool)
structure Mem where
 H:Hp AB
 n:Nat
 W:G5
 hi:Nat
 lg:Lg
structure S where
 fr:Fr
 m:Mem
inductive Ex where
 | normal
 | exit (id:Nat)
 | ret
def H8:List Bool->Code->Option Code
 | [],c=>some c
 | false::q,.seq a _=>H8 q a
 | true::q,.seq _ b=>H8 q b
 | false::q,.cond _ a _=>H8 q a
 | true::q,.cond _ _ b=>H8 q b
 | false::q,.block _ c=>H8 q c
 | false::q,.scope c=>H8 q c
 | false::q,.loop c=>H8 q c
 | false::q,.rangeFunc _ _ a _=>H8 q a
 | true::q,.rangeFunc _ _ _ b=>H8 q b
 | _::_,_=>none
def M1:Nat:=9223372036854775808
def H9:Value->Bool
 | .bool _|.int _ _|.string _|.pointer none|.slice none _ _|.map none|.nilFunc|.nilIface=>true
 | _=>false
def NJ:Value->Bool
 | .agg cs=>cs.toList.all H9
 | v=>H9 v
def ev(fr:Fr):Operand->Value
 | .tmp t=>fr.get t
 | .const v=>v
 | .global g=>.pointer (some ⟨g,0,none⟩)
 | .func f=>.func (.func f) #[] #[]
def okX(nt gl:Nat):Operand->Bool
 | .tmp t=>Nat.blt t nt
 | .const v=>NJ v
 | .global g=>Nat.blt g gl
 | .func _=>true
def evL(fr:Fr):List Operand->C9
 | []=>[]
 | x::r=>ev fr x::evL fr r
def evP(fr:Fr):List (Nat×Operand)->List (Nat×Value)
 | []=>[]
 | (i,x)::r=>(i,ev fr x)::evP fr r
def evO(fr:Fr):Option Operand->P4
 | none=>none
 | some x=>some (ev fr x)
structure XC where
 run:Fr->Value
def A84(a b c:Sel):XC:=⟨fun fr=>c.get (b.get (a.get fr))⟩
def R0:Operand->XC
 | .tmp t=>A84 (sel (t / 64%8)) (sel (t / 8%8)) (sel (t%8))
 | .const v=>⟨fun _=>v⟩
 | .global g=>⟨fun _=>.pointer (some ⟨g,0,none⟩)⟩
 | .func f=>⟨fun _=>.func (.func f) #[] #[]⟩
def cV(x:Operand)(fr:Fr):(R0 x).run fr=ev fr x:=by cases x<;>rfl
structure LC where
 run:Fr->C9
def A6r(x:XC)(r:LC)(fr:Fr):C9:=x.run fr::r.run fr
def sU:List Operand->LC
 | []=>⟨fun _=>[]⟩
 | x::r=>⟨fun fr=>A6r (R0 x) (sU r) fr⟩
def lX(fr:Fr):∀ xs:List Operand,(sU xs).run fr=evL fr xs
 | []=>rfl
 | x::r=>by
   show(R0 x).run fr::(sU r).run fr=_;rw[cV,lX fr r];rfl
abbrev Res:=Option (Value×Mem)
def upN(hi n:Nat):Nat:=bif Nat.blt n hi then hi else Nat.succ n
def Mem.wLg(m:Mem)(lg:Lg):Mem :=
 match m with
 | ⟨H,n,W,hi,_⟩=>⟨H,n,W,hi,lg⟩
def S7(m:Mem)(t:Nat)(op:LOp)(xs:List Value):Res :=
 match m with
 | ⟨H,n,W,hi,⟨nx,pi,log⟩⟩=>I8 nx fun nx=>I8 t fun t=>Q3 xs fun xs=>some (hole nx t,⟨H,n,W,hi,⟨Nat.succ nx,pi,.lt nx t op xs::log⟩⟩)
def tH(m:Mem)(t:Nat)(op:LOp)(xs:List Value)(k:Nat->Mem->Res):Res :=
 match m with
 | ⟨H,n,W,hi,⟨nx,pi,log⟩⟩=>I8 nx fun nx=>I8 t fun t=>Q3 xs fun xs=>k nx ⟨H,n,W,hi,⟨Nat.succ nx,pi,.dt nx t op xs::log⟩⟩
def wQ:List c8->Nat->Option Bool
 | [],_=>none
 | .br j b::r,i=>bif Nat.beq j i then some b else wQ r i
 | _::r,i=>wQ r i
def brL(lg:Lg)(c:Value):Option (Bool×Lg) :=
 match c with
 | .bool b=>some (b,lg)
 | .complex .f64 i 8=>match lg with
   | ⟨nx,pi,log⟩=>match wQ log i with
     | some b=>some (b,⟨nx,pi,log⟩)
     | none=>match pi with
       | 1::r=>some (true,⟨nx,r,.br i true::log⟩)
       | 0::r=>some (false,⟨nx,r,.br i false::log⟩)
       | _=>none
 | _=>none
def Y1(m:Mem)(ab:AB)(k:Nat->Value):Res :=
 match m with
 | ⟨H,n,W,hi,lg⟩=>bif Nat.ble n G9 then I8 n fun n=>I8 (upN hi n) fun hi=>Hp.put H n (some ab) fun H=>some (k n,⟨H,Nat.succ n,W,hi,lg⟩)else none
def bB(m:Mem)(id:Nat)(ab:AB):Option Mem :=
 match m with
 | ⟨H,n,W,hi,lg⟩=>bif Nat.ble id G9 then Hp.put H id (some ab) fun H=>I8 id fun id=>some ⟨H,n,id::W,hi,lg⟩else none
def iH(m:Mem)(id:Nat):Mem :=
 match m with
 | ⟨H,n,W,hi,lg⟩=>Hp.put H id none fun H=>I8 id fun id=>⟨H,n,id::W,hi,lg⟩
def ZA(cs:List Value)(o n:Nat):Option C9 :=
 let r:=(cs.drop o).take n
 bif Nat.beq r.length n then some r else none
def l5(m:Mem)(a:Addr)(n:Nat):Option C9 :=
 match a.spot,Hp.get m.H a.block with
 | none,some (.cells cs _ _)=>ZA cs a.off n
 | _,_=>none
def bD:C9->Nat->C9->C9
 | cs,_,[]=>cs
 | cs,k,v::r=>bD (cs.set k v) (k+1) r
def flat:Value->Bool
 | .agg _|.tuple _=>false
 | .complex .f32 i _=>Nat.beq i 1
 | _=>true
def mQ(m:Mem)(a:Addr)(vs:List Value):Option Mem :=
 match a.spot,Hp.get m.H a.block with
 | none,some (.cells cs T false) =>
   bif Nat.ble (a.off+vs.length) cs.length && vs.all flat then Q3 (bD cs a.off vs) fun cs=>bB m a.block (.cells cs T false)else none
 | _,_=>none
variable (P:Program)
def s5(t:TypeId):Option Bool :=
 match P.underlying t with
 | some (.struct _)|some (.array _ _)=>some true
 | some _=>some false
 | none=>none
def G3(t:TypeId):Option Nat :=
 match P.info? t with
 | some i=>some i.size
 | none=>none
def eB(t:TypeId):P4 :=
 match P.info? t with
 | some i=>match i.zero with
   | some v=>bif NJ v then some v else none
   | none=>none
 | none=>none
def NZ(m:Mem)(t:TypeId)(a:Addr):P4 :=
 match s5 P t with
 | some true=>match G3 P t with
   | some n=>match l5 m a n with
     | some cs=>some (.agg ⟨cs⟩)
     | none=>none
   | none=>none
 | some false=>match l5 m a 1 with
   | some (v::_)=>some v
   | _=>none
 | none=>none
def uR(m:Mem)(t:TypeId)(a:Addr)(v:Value):Option Mem :=
 match G3 P t with
 | some n=>bif Nat.beq v.cells.size n && !(gS v)then mQ m a v.cells.toList else none
 | none=>none
def oS(t:TypeId)(cs:List Value)(off:Nat):P4 :=
 match s5 P t with
 | some true=>match G3 P t with
   | some n=>match ZA cs off n with
     | some r=>some (.agg ⟨r⟩)
     | none=>none
   | none=>none
 | some false=>cs[off]?
 | none=>none
def A2A(e:TypeId)(s i:Nat):Field:={ name := "x",type:=e,offset:=i*s,embedded:=false,tag := "",pkgPath := "",byteOffset:=0 }
mutual
def eqM:Nat->TypeId->Value->Value->Option Bool
 | 0,_,_,_=>none
 | d+1,t,x,y=>match P.underlying t,x,y with
   | some .bool,.bool a,.bool b=>some (a == b)
   | some (.int _),.int k a,.int j b=>bif decide (k=j)then some (a == b)else none
   | some .string,.string a,.string b=>some (a.data.toList == b.data.toList)
   | some (.pointer _),.pointer none,.pointer b=>some b.isNone
   | some (.pointer _),.pointer (some _),.pointer none=>some false
   | some (.interface _),.nilIface,.nilIface=>some true
   | some (.interface _),.nilIface,.iface _ _=>some false
   | some (.interface _),.iface _ _,.nilIface=>some false
   | some (.interface _),.iface tx vx,.iface ty vy=>bif Nat.beq tx ty then(match P.info? tx with
     | some i=>bif i.comparable then eqM d tx vx vy else none
     | none=>none)else some false
   | some (.slice _),.slice none _ _,.slice b _ _=>some b.isNone
   | some (.slice _),.slice (some _) _ _,.slice none _ _=>some false
   | some (.map _ _),.map none,.map b=>some b.isNone
   | some (.func _ _ _),.nilFunc,.nilFunc=>some true
   | some (.func _ _ _),.nilFunc,.func (.func _) _ _=>some false
   | some (.func _ _ _),.func (.func _) _ _,.nilFunc=>some false
   | some (.struct fs),.agg xs,.agg ys=>bif P.stoodInHeld t then none else eqF d fs.toList xs.toList ys.toList
   | some (.array n e),.agg xs,.agg ys=>match G3 P e with
     | some s=>eqF d ((List.range n).map (A2A e s)) xs.toList ys.toList
     | none=>none
   | _,_,_=>none
def eqF:Nat->List Field->C9->C9->Option Bool
 | 0,_,_,_=>none
 | _+1,[],_,_=>some true
 | d+1,f::fs,xs,ys =>
   bif f.name == "_" then none else
   match oS P f.type xs f.offset,oS P f.type ys f.offset with
   | some x,some y=>match eqM d f.type x y with
     | some true=>eqF d fs xs ys
     | some false=>some false
     | none=>none
   | _,_=>none
end
def isC:Operand->Bool
 | .const _=>true
 | _=>false
def kC(t:TypeId)(x y:Operand)(a b:Value):Bool :=
 match a,b with
 | .nilIface,.nilIface=>isC x || isC y
 | .agg _,.agg _=>!P.eqGuardType P.depth t
 | a,b=>!(XW a) && !(XW b)
def xK(op:BinOp)(k:IntKind)(x y:Int):P4 :=
 match op with
 | .and=>some (.int k (k.wrap (BitVec.ofInt k.bits x &&& BitVec.ofInt k.bits y).toNat))
 | .or=>some (.int k (k.wrap (BitVec.ofInt k.bits x ||| BitVec.ofInt k.bits y).toNat))
 | .xor=>some (.int k (k.wrap (BitVec.ofInt k.bits x ^^^ BitVec.ofInt k.bits y).toNat))
 | .andNot=>some (.int k (k.wrap (BitVec.ofInt k.bits x &&& ~~~BitVec.ofInt k.bits y).toNat))
 | _=>none
def ltL:List UInt8->List UInt8->Bool
 | _,[]=>false
 | [],_::_=>true
 | a::x,b::y=>a<b || (a == b && ltL x y)
def mG(op:BinOp)(k:IntKind)(a b:Int):P4 :=
 match op with
 | .add=>some (mkI k (yQ k (A67 a b)))
 | .sub=>some (mkI k (yQ k (A38 a b)))
 | .mul=>some (mkI k (yQ k (A6C a b)))
 | .quo=>bif yM b 0 then none else some (mkI k (k.wrap (a.tdiv b)))
 | .rem=>bif yM b 0 then none else some (mkI k (a.tmod b))
 | .eql=>some (.bool (yM a b))
 | .neq=>some (.bool (!(yM a b)))
 | .lss=>some (.bool (ltF a b))
 | .leq=>some (.bool (leF a b))
 | .gtr=>some (.bool (ltF b a))
 | .geq=>some (.bool (leF b a))
 | op=>xK op k a b
def JZ(left:Bool)(k:IntKind)(a:Int)(b:Nat):Value :=
 bif left then mkI k (k.wrap (a*2 ^ (min b k.bits)))else mkI k (a.fdiv (2 ^ (min b k.bits)))
def A0f(op:BinOp)(a b:ByteArray):P4 :=
 match op with
 | .add=>bif Nat.ble (a.size+b.size) 1000000000 then Q3 (a.data.toList++b.data.toList) fun l=>some (.string ⟨⟨l⟩⟩)else none
 | .eql=>some (.bool (a.data.toList == b.data.toList))
 | .neq=>some (.bool (!(a.data.toList == b.data.toList)))
 | .lss=>some (.bool (ltL a.data.toList b.data.toList))
 | .leq=>some (.bool (ltL a.data.toList b.data.toList || (a.data.toList == b.data.toList)))
 | .gtr=>some (.bool (!(ltL a.data.toList b.data.toList || (a.data.toList == b.data.toList))))
 | .geq=>some (.bool (!(ltL a.data.toList b.data.toList)))
 | _=>none
def zG(op:BinOp)(t:TypeId)(x y:Value):P4 :=
 match op with
 | .eql=>match eqM P 20 t x y with
   | some b=>some (.bool b)
   | none=>none
 | .neq=>match eqM P 20 t x y with
   | some b=>some (.bool (!b))
   | none=>none
 | _=>none
def iT:BinOp->Option Bool
 | .shl=>some true
 | .shr=>some false
 | _=>none
def bH(op:BinOp)(k j:IntKind)(a b:Int):P4 :=
 match iT op with
 | some l=>match b with
   | .ofNat n=>some (JZ l k a n)
   | .negSucc _=>none
 | none=>bif rZ k j then mG op k a b else none
def qC(op:BinOp)(t:TypeId)(x y:Value):P4 :=
 match x,y with
 | .int k a,.int j b=>bH op k j a b
 | .string a,.string b=>A0f op a b
 | x,y=>zG P op t x y
def unM(op:UnOp)(x:Value):P4 :=
 match op,x with
 | .neg,.int k n=>some (mkI k (k.wrap (0-n)))
 | .xor,.int k n=>xK .xor k (if k.signed then -1 else k.max) n
 | .not,.bool b=>some (.bool !b)
 | _,_=>none
def bytesOf:C9->Option (List UInt8)
 | []=>some []
 | .int .u8 n::r=>match bytesOf r with
   | some l=>some (UInt8.ofNat n.toNat::l)
   | none=>none
 | _::_=>none
def O4(l:List UInt8):C9:=l.map fun b=>.int .u8 b.toNat
def AN(m:Mem)(s t:TypeId)(x:Value):Res :=
 match P.underlying s,P.underlying t,x with
 | some _,some (.int k),.int _ n=>some (mkI k (yQ k n),m)
 | some _,some .string,.string b=>some (.string b,m)
 | some _,some .string,.int _ n=>some (.string (Utf8.encode n),m)
 | some _,some (.slice e),.string b=>match P.underlying e with
   | some (.int .u8)=>match G3 P e with
     | some 1=>Q3 (O4 b.data.toList) fun cs=>Y1 m (.cells cs e false) fun i=>.slice (some ⟨i,0,none⟩) b.size M1
     | _=>none
   | _=>none
 | some (.slice e),some .string,.slice none _ _=>match P.underlying e with
   | some (.int .u8)=>some (.string ByteArray.empty,m)
   | _=>none
 | some (.slice e),some .string,.slice (some a) n _=>match P.underlying e with
   | some (.int .u8)=>match l5 m a n with
     | some cs=>match bytesOf cs with
       | some l=>some (.string ⟨⟨l⟩⟩,m)
       | none=>none
     | none=>none
   | _=>none
 | _,_,_=>none
def wR(place:Nat->Option (Nat×Nat))(cells:List Value):List (Nat×Value)->Option C9
 | []=>some cells
 | (i,v)::rest=>match place i with
   | none=>none
   | some (off,size) =>
     bif (Nat.beq v.cells.size size && !(gS v)) && Nat.ble (off+v.cells.size) cells.length then Q3 (bD cells off v.cells.toList) fun cs=>wR place cs rest else none
def oQ:List Field->Option (List (Nat×Nat))
 | []=>some []
 | f::r=>match G3 P f.type,oQ r with
   | some n,some l=>some ((f.offset,n)::l)
   | _,_=>none
def FK(z:List Value):Nat->C9
 | 0=>[]
 | n+1=>z++FK z n
def BH(e:TypeId)(n:Nat):Option C9 :=
 match G3 P e with
 | some s=>bif Nat.beq (n*s) 0 then some []else match eB P e with
   | some z=>bif Nat.beq z.cells.size s then some (FK z.cells.toList n)else none
   | none=>none
 | none=>none
def LT(t:TypeId)(parts:List (Nat×Value)):P4 :=
 match eB P t,P.underlying t with
 | some z,some (.struct fs)=>match oQ P fs.toList with
   | some ps=>match wR (ps[·]?) z.cells.toList parts with
     | some cs=>some (.agg ⟨cs⟩)
     | none=>none
   | none=>none
 | some z,some (.array _ e)=>match G3 P e with
   | some s=>match wR (fun i=>some (i*s,s)) z.cells.toList parts with
     | some cs=>some (.agg ⟨cs⟩)
     | none=>none
   | none=>none
 | _,_=>none
def bM(m:Mem)(t:TypeId)(n:Nat)(parts:List (Nat×Value)):Res :=
 match P.underlying t with
 | some (.slice e)=>match G3 P e,BH P e n with
   | some s,some zs=>bif Nat.ble (n*s) 16777216 && Nat.blt n M1 then match wR (fun i=>some (i*s,s)) zs parts with
     | some cs=>Y1 m (.cells cs e false) fun i=>.slice (some ⟨i,0,none⟩) n n
     | none=>none else none
   | _,_=>none
 | _=>none
def dI(m:Mem)(t:TypeId)(l c:Value):Res :=
 match P.underlying t,l,c with
 | some (.slice e),.int _ (.ofNat l),.int _ (.ofNat c)=>match P.info? e with
   | some i=>bif Nat.ble l c && Nat.ble c 10000000 && Nat.ble (c*i.bytes) 100000000 then match BH P e c with
     | some a=>Q3 a fun a=>Y1 m (.cells a e false) fun k=>.slice (some ⟨k,0,none⟩) l c
     | none=>none else none
   | none=>none
 | _,_,_=>none
def y5(a:Addr)(n:Nat):Addr:=I8 (a.off+n) fun o=>⟨a.block,o,none⟩
def bK(s:TypeId)(x:Value)(i:Nat):P4 :=
 match P.underlying s,x with
 | some (.struct fs),.pointer (some a)=>match fs.toList[i]?,a.spot with
   | some f,none=>match G3 P f.type with
     | some (_+1)=>some (.pointer (some (y5 a f.offset)))
     | _=>none
   | _,_=>none
 | _,_=>none
def DC(t:TypeId)(x:Value)(i:Nat):P4 :=
 match P.underlying t,x with
 | some (.struct fs),.agg cs=>match fs.toList[i]? with
   | some f=>oS P f.type cs.toList f.offset
   | none=>none
 | _,_=>none
def V8(t:TypeId)(x i:Value):P4 :=
 match P.underlying t,x,i with
 | some (.array n e),.pointer (some a),.int _ (.ofNat k)=>match G3 P e,a.spot with
   | some s,none=>bif Nat.blt k n then some (.pointer (some (y5 a (k*s))))else none
   | _,_=>none
 | some (.slice e),.slice (some a) n _,.int _ (.ofNat k)=>match G3 P e,a.spot with
   | some s,none=>bif Nat.blt k n then some (.pointer (some (y5 a (k*s))))else none
   | _,_=>none
 | _,_,_=>none
def kA(t:TypeId)(x i:Value):P4 :=
 match P.underlying t,x,i with
 | some (.array n e),.agg cs,.int _ (.ofNat k)=>match G3 P e with
   | some s=>bif Nat.blt k n then oS P e cs.toList (k*s)else none
   | none=>none
 | some .string,.string s,.int _ (.ofNat k)=>match s.data.toList[k]? with
   | some b=>some (.int .u8 b.toNat)
   | none=>none
 | _,_,_=>none
def S8(v:Option Value)(G9 a:Nat):Option Nat :=
 match v with
 | none=>some a
 | some (.int _ (.ofNat k))=>bif Nat.ble k G9 then some k else none
 | some _=>none
def bS(t:TypeId)(x:Value)(b hi mx:Option Value):P4 :=
 match P.underlying t,x with
 | some .string,.string s =>
   match mx,S8 hi s.size s.size with
   | none,some h=>match S8 b h 0 with
     | some l=>some (.string ⟨⟨(s.data.toList.drop l).take (h-l)⟩⟩)
     | none=>none
   | _,_=>none
 | some (.slice e),.slice none n c =>
   match n,c,S8 mx 0 0,S8 hi 0 0,S8 b 0 0 with
   | 0,0,some _,some _,some _=>bif (mx.isSome && hi.isNone) || (G3 P e).isNone then none else some (.slice none 0 0)
   | _,_,_,_,_=>none
 | some (.slice e),.slice (some a) n c =>
   match G3 P e,a.spot with
   | some s,none =>
     bif Nat.blt c M1 then
      match S8 mx c c with
      | some m=>match (match hi,mx with|none,some _=>none|hi,_=>S8 hi m n)with
        | some h=>match S8 b h 0 with
          | some l=>some (.slice (some (bif Nat.beq m l then a else y5 a (l*s))) (h-l) (m-l))
          | none=>none
        | none=>none
      | none=>none
     else
      match mx with
      | some _=>match hi,S8 mx n n with
        | some _,some m=>bif Nat.blt m M1 && Nat.ble c (M1+1)then match S8 hi m n with
          | some h=>match S8 b h 0 with
            | some l=>some (.slice (some (bif Nat.beq m l then a else y5 a (l*s))) (h-l) (m-l))
            | none=>none
          | none=>none else none
        | _,_=>none
      | none=>match S8 hi n n with
        | some h=>match S8 b h 0 with
          | some 0=>some (.slice (some a) h c)
          | some (l+1)=>let l:=l+1
            bif Nat.blt l n then some (.slice (some (y5 a (l*s))) (h-l) (M1+1))else some (.slice (some a) 0 (M1+2))
          | none=>none
        | none=>none
   | _,_=>none
 | some (.array n e),.pointer (some a) =>
   match G3 P e,a.spot,mx with
   | some s,none,none=>match S8 hi n n with
     | some h=>match S8 b h 0 with
       | some l=>bif Nat.blt n M1 then some (.slice (some (bif Nat.beq n l then a else y5 a (l*s))) (h-l) (n-l))else none
       | none=>none
     | none=>none
   | _,_,_=>none
 | _,_=>none
def dH(m:Mem)(s:Nat)(y:Value):Option (Nat×List Value) :=
 match y with
 | .slice none n _=>bif Nat.beq n 0 then some (0,[])else none
 | .slice (some a) n _=>match l5 m a (n*s)with
   | some cs=>some (n,cs)
   | none=>none
 | .string b=>bif Nat.beq s 1 then some (b.size,O4 b.data.toList)else none
 | _=>none
def bV:TypeDesc->Bool
 | .slice _|.string=>true
 | _=>false
def qF(m:Mem)(t t2:TypeId)(x y:Value):Res :=
 match P.underlying t,P.underlying t2 with
 | some (.slice e),some d2 =>
   bif !(bV d2)then none else
   match P.info? e,x with
   | some i,.slice a n c=>match dH m i.size y,eB P e with
     | some (k,new),some z =>
       bif Nat.ble ((3*(n+k)+4000)*i.bytes) 281474976710656 && Nat.ble (n+k) 1000000000 && Nat.beq z.cells.size i.size && new.all flat then
       bif Nat.beq k 0 then(match a with|none=>bif Nat.beq n 0 && Nat.beq c 0 then some (x,m)else none|some _=>bif Nat.ble c (M1+1) && Nat.ble n c then some (x,m)else none)else
       match a with
       | none=>bif Nat.beq n 0 && Nat.beq c 0 then Q3 new fun cs=>Y1 m (.cells cs e false) fun b=>.slice (some ⟨b,0,none⟩) k M1 else none
       | some d =>
         bif Nat.blt c M1 then
          bif Nat.ble (n+k) c then
           match d.spot,mQ m (y5 d (n*i.size)) new with
           | none,some m'=>some (.slice a (n+k) c,m')
           | _,_=>none
          else match l5 m d (n*i.size)with
           | some old=>Q3 (old++new) fun cs=>Y1 m (.cells cs e false) fun b=>.slice (some ⟨b,0,none⟩) (n+k) M1
           | none=>none
         else bif Nat.beq c M1 && Nat.beq d.off 0 then
          match d.spot,Hp.get m.H d.block with
          | none,some (.cells cs T false) =>
            bif Nat.beq cs.length (n*i.size) && Nat.beq T e && Nat.ble d.block G9 && Nat.blt d.block m.n then
             Q3 (cs++new) fun cs=>Y1 (iH m d.block) (.cells cs e false) fun b=>.slice (some ⟨b,0,none⟩) (n+k) M1
            else none
          | _,_=>none
         else none
       else none
     | _,_=>none
   | _,_=>none
 | _,_=>none
def IG(m:Mem)(t:TypeId)(x y:Value):Res :=
 match P.underlying t,x with
 | some (.slice e),.slice a n c=>match G3 P e with
   | some s =>
     match (match y with
      | .slice none k _=>bif Nat.beq k 0 then some (0,[])else none
      | .slice (some b) k _=>match l5 m b (Nat.min k n*s)with
        | some cs=>some (Nat.min k n,cs)
        | none=>none
      | .string b=>some (Nat.min b.size n,O4 (b.data.toList.take (Nat.min b.size n)))
      | _=>none:Option (Nat×List Value))with
     | some (k,cs)=>match a with
       | none=>bif Nat.beq k 0 then some (.int .i64 0,m)else none
       | some d=>bif Nat.beq cs.length 0 then some (.int .i64 k,m)else bif Nat.ble c (M1+1)then match mQ m d cs with
         | some m'=>some (.int .i64 k,m')
         | none=>none else none
     | none=>none
   | none=>none
 | _,_=>none
def WQ(m:Mem)(t:TypeId)(x:Value):P4 :=
 match P.underlying t,x with
 | some .string,.string s=>some (.int .i64 s.data.toList.length)
 | some (.array n _),_=>some (.int .i64 n)
 | some (.slice _),.slice _ n _=>some (.int .i64 n)
 | some (.map _ _),.map none=>some (.int .i64 0)
 | _,_=>none
def A5Q(t:TypeId)(x:Value):P4 :=
 match P.underlying t,x with
 | some (.slice _),.slice none _ c=>some (.int .i64 c)
 | some (.slice _),.slice (some a) n c=>bif Nat.blt c M1 then some (.int .i64 c)else none
 | _,_=>none
def A4e:C9->P4
 | [.int k a,.int _ b]=>some (.int k (if b>a then b else a))
 | [.int k a,.int _ b,.int _ c]=>wM (if b>a then b else a) fun d=>some (.int k (if c>d then c else d))
 | _=>none
def A4d:C9->P4
 | [.int k a,.int _ b]=>some (.int k (if b<a then b else a))
 | [.int k a,.int _ b,.int _ c]=>wM (if b<a then b else a) fun d=>some (.int k (if c<d then c else d))
 | _=>none
def noM(v:Option Value)(m:Mem):Res :=
 match v with
 | some v=>some (v,m)
 | none=>none
def KP(m:Option Mem):Res :=
 match m with
 | some m=>some (undef,m)
 | none=>none
def NN(m:Mem)(c a b:Value):Res :=
 match c with
 | .bool true=>some (a,m)
 | .bool false=>some (b,m)
 | _=>none
def CF(m:Mem)(e:TypeId):Res :=
 match eB P e with
 | some z=>Y1 m (.cells z.cells.toList e false) fun b=>.pointer (some ⟨b,0,none⟩)
 | none=>none
def VW(m:Mem)(e:TypeId)(v:Value):Res :=
 bif v.cells.toList.all flat then Y1 m (.cells v.cells.toList e false) fun b=>.pointer (some ⟨b,0,none⟩)else none
def NO(m:Mem)(t:TypeId)(v:Value):Res :=
 match v with
 | .pointer (some a)=>noM (NZ P m t a) m
 | _=>none
def CD(m:Mem)(t:TypeId)(x v:Value):Res :=
 match x with
 | .pointer (some a)=>KP (uR P m t a v)
 | _=>none
def VV(m:Mem)(x:Value):Res :=
 match x with
 | .pointer (some a)=>some (.pointer (some a),m)
 | .func (.func f) a b=>some (.func (.func f) a b,m)
 | _=>none
def wI:BinOp->Bool
 | .eql|.neq=>true
 | _=>false
def A09(m:Mem)(op:BinOp)(t:TypeId)(x y:Operand)(a b:Value):Res :=
 bif wI op then(bif kC P t x y a b then noM (qC P op t a b) m else none)else noM (qC P op t a b) m
def CE(m:Mem)(t:TypeId)(v:Value):Res :=
 match P.underlying t with
 | some d=>(match d with|.interface _=>none|_=>bif flat v || (match v with|.agg _=>true|_=>false)then some (.iface t v,m)else none)
 | none=>none
def jO(m:Mem)(v:Value)(i:Nat):Res :=
 match v with
 | .tuple vs=>noM vs.toList[i]? m
 | _=>none
def gD(m:Mem)(x:Value):Res :=
 match x with
 | .slice none _ _=>some (.pointer none,m)
 | .slice (some a) n c=>bif Nat.beq n 0 || Nat.beq c 0 || Nat.beq c (M1+2)then none else some (.pointer (some a),m)
 | _=>none
def cY(m:Mem)(b:TypeId)(p l:Value):Res :=
 match p,l with
 | .pointer none,.int _ (.ofNat 0)=>some (.string ByteArray.empty,m)
 | .pointer (some a),.int _ (.ofNat n) =>
   match a.spot,Hp.get m.H a.block with
   | none,some (.cells cs T false)=>match P.underlying b,G3 P T with
     | some (.pointer e),some 1=>bif Nat.blt 0 n && Nat.ble n 1000000000 && Nat.beq e T then match ZA cs a.off n with
       | some l=>match bytesOf l,bB m a.block (.cells cs T true)with
         | some l,some m'=>some (.string ⟨⟨l⟩⟩,m')
         | _,_=>none
       | none=>none else none
     | _,_=>none
   | _,_=>none
 | _,_=>none
def fT(m:Mem)(b:Builtin)(vs:List Value)(tys:List TypeId):Res :=
 match b,vs,tys with
 | .len,[x],t::_=>noM (WQ P m t x) m
 | .cap,[x],t::_=>noM (A5Q P t x) m
 | .append,[x,y],t::t2::_=>qF P m t t2 x y
 | .copy,[x,y],t::_=>IG P m t x y
 | .max,vs,_=>noM (A4e vs) m
 | .min,vs,_=>noM (A4d vs) m
 | .unsafeSliceData,[x],_=>gD m x
 | .unsafeString,[p,l],t::_=>cY P m t p l
 | _,_,_=>none
def opM(fr:Fr)(m:Mem)(o:Op):Res :=
 match o with
 | .move x|.assign x=>some (ev fr x,m)
 | .pick c a b=>NN m (ev fr c) (ev fr a) (ev fr b)
 | .alloc e=>CF P m e
 | .box e x=>VW m e (ev fr x)
 | .build t ps=>noM (LT P t (evP fr ps.toList)) m
 | .buildSlice t n ps=>bM P m t n (evP fr ps.toList)
 | .load t x=>NO P m t (ev fr x)
 | .store t x y=>CD P m t (ev fr x) (ev fr y)
 | .nilCheck x=>VV m (ev fr x)
 | .binOp op t x y _=>A09 P m op t x y (ev fr x) (ev fr y)
 | .unOp op _ x=>noM (unM op (ev fr x)) m
 | .convert s t x=>AN P m s t (ev fr x)
 | .makeInterface t x=>CE P m t (ev fr x)
 | .makeFunc (.func f) first cap=>some (.func (.func f) ⟨evL fr first.toList⟩ ⟨evL fr cap.toList⟩,m)
 | .makeSlice t l c=>dI P m t (ev fr l) (ev fr c)
 | .slice t x d hi mx=>noM (bS P t (ev fr x) (evO fr d) (evO fr hi) (evO fr mx)) m
 | .fieldAddr s x i=>noM (bK P s (ev fr x) i) m
 | .field t x i=>noM (DC P t (ev fr x) i) m
 | .indexAddr t x i=>noM (V8 P t (ev fr x) (ev fr i)) m
 | .index t x i=>noM (kA P t (ev fr x) (ev fr i)) m
 | .extract x i=>jO m (ev fr x) i
 | .call ⟨.builtin b,xs,tys⟩=>fT P m b (evL fr xs.toList) tys.toList
 | _=>none
structure OpC where
 run:Fr->Mem->Res
def XB(x:XC)(fr:Fr)(m:Mem):Res:=some (x.run fr,m)
def A3G(c a b:XC)(fr:Fr)(m:Mem):Res:=NN m (c.run fr) (a.run fr) (b.run fr)
def A6P(e:TypeId)(x:XC)(fr:Fr)(m:Mem):Res:=VW m e (x.run fr)
def A3H(t:TypeId)(x:XC)(fr:Fr)(m:Mem):Res:=NO P m t (x.run fr)
def WZ(t:TypeId)(x y:XC)(fr:Fr)(m:Mem):Res:=CD P m t (x.run fr) (y.run fr)
def A6N(x:XC)(fr:Fr)(m:Mem):Res:=VV m (x.run fr)
def A6Q(op:BinOp)(t:TypeId)(x y:Operand)(cx a:XC)(fr:Fr)(m:Mem):Res:=A09 P m op t x y (cx.run fr) (a.run fr)
def kUn(op:UnOp)(x:XC)(fr:Fr)(m:Mem):Res:=noM (unM op (x.run fr)) m
def A3I(s t:TypeId)(x:XC)(fr:Fr)(m:Mem):Res:=AN P m s t (x.run fr)
def wD(s:TypeId)(x:XC)(i:Nat)(fr:Fr)(m:Mem):Res:=noM (bK P s (x.run fr) i) m
def XE(s:TypeId)(x:XC)(i:Nat)(fr:Fr)(m:Mem):Res:=noM (DC P s (x.run fr) i) m
def wC(t:TypeId)(x i:XC)(fr:Fr)(m:Mem):Res:=noM (V8 P t (x.run fr) (i.run fr)) m
def XD(t:TypeId)(x i:XC)(fr:Fr)(m:Mem):Res:=noM (kA P t (x.run fr) (i.run fr)) m
def HA(x:XC)(i:Nat)(fr:Fr)(m:Mem):Res:=jO m (x.run fr) i
def HB(b:Builtin)(xs:LC)(tys:List TypeId)(fr:Fr)(m:Mem):Res:=fT P m b (xs.run fr) tys
def wZ(o:Op):OpC :=
 match o with
 | .move x=>⟨XB (R0 x)⟩
 | .assign x=>⟨XB (R0 x)⟩
 | .pick c a b=>⟨A3G (R0 c) (R0 a) (R0 b)⟩
 | .box e x=>⟨A6P e (R0 x)⟩
 | .load t x=>⟨A3H P t (R0 x)⟩
 | .store t x y=>⟨WZ P t (R0 x) (R0 y)⟩
 | .nilCheck x=>⟨A6N (R0 x)⟩
 | .binOp op t x y _=>⟨A6Q P op t x y (R0 x) (R0 y)⟩
 | .unOp op _ x=>⟨kUn op (R0 x)⟩
 | .convert s t x=>⟨A3I P s t (R0 x)⟩
 | .fieldAddr s x i=>⟨wD P s (R0 x) i⟩
 | .field t x i=>⟨XE P t (R0 x) i⟩
 | .indexAddr t x i=>⟨wC P t (R0 x) (R0 i)⟩
 | .index t x i=>⟨XD P t (R0 x) (R0 i)⟩
 | .extract x i=>⟨HA (R0 x) i⟩
 | .call ⟨.builtin b,xs,tys⟩=>⟨HB P b (sU xs.toList) tys.toList⟩
 | o=>⟨fun fr m=>opM P fr m o⟩
def wY(o:Op)(fr:Fr)(m:Mem):(wZ P o).run fr m=opM P fr m o:=by
 unfold wZ;split<;>simp only[XB,A3G,A6P,A3H,WZ,A6N,A6Q,kUn,A3I,wD,XE,wC,XD,HA,HB,opM,cV,lX]
def KM(nt gl:Nat)(o:Op):Bool:=o.operands.toList.all (okX nt gl)
end
section
open Go
def A6S:BinOp->Bool
 | .eql|.neq|.lss|.leq|.gtr|.geq=>true
 | _=>false
def mS(P:Program)(m:Mem)(op:BinOp)(t:TypeId)(a b:Value):Res :=
 let c:=G0 a
 let d:=G0 b
 bif (Nat.blt c 8 && Nat.blt d 8) || (Nat.beq c 9 && Nat.beq d 9)then S7 m (bif A6S op then 8 else c) (.bin op) [a,b]else
 bif Nat.beq c 8 && Nat.beq d 8 && wI op && (match P.underlying t with|some .bool=>true|_=>false)then S7 m 8 (.bin op) [a,b]else none
def dN(P:Program)(t:TypeId)(x y:Value):Bool :=
 match P.underlying t with
 | some .bool=>Nat.beq (G0 x) 8 && Nat.beq (G0 y) 8
 | some (.int k)=>Nat.beq (G0 x) (fN k) && Nat.beq (G0 y) (fN k)
 | some .string=>Nat.beq (G0 x) 9 && Nat.beq (G0 y) 9
 | _=>false
mutual
def eqS(P:Program):Nat->TypeId->Value->Value->Option C9
 | 0,_,_,_=>none
 | d+1,t,x,y=>bif dN P t x y then some [x,y]else
   match P.underlying t,x,y with
   | some (.struct fs),.agg xs,.agg ys=>bif P.stoodInHeld t then none else wU P d fs.toList xs.toList ys.toList
   | some (.array n e),.agg xs,.agg ys=>match G3 P e with
     | some s=>wU P d ((List.range n).map (A2A e s)) xs.toList ys.toList
     | none=>none
   | _,_,_=>none
def wU(P:Program):Nat->List Field->C9->C9->Option C9
 | 0,_,_,_=>none
 | _+1,[],_,_=>some []
 | d+1,f::fs,xs,ys =>
   bif f.name == "_" then none else
   match oS P f.type xs f.offset,oS P f.type ys f.offset with
   | some x,some y=>match eqS P d f.type x y,wU P d fs xs ys with
     | some a,some b=>some (a++b)
     | _,_=>none
   | _,_=>none
end
def EV(P:Program)(m:Mem)(op:BinOp)(t:TypeId)(x y:Operand)(a b:Value):Res :=
 bif kC P t x y a b then
  match op,eqS P 20 t a b with
  | .eql,some l=>S7 m 8 .eqs l
  | .neq,some l=>match S7 m 8 .eqs l with
    | some (h,m)=>S7 m 8 (.un .not) [h]
    | none=>none
  | _,_=>none
 else none
def Z7(t:Nat):C9->Bool
 | []=>true
 | v::r=>Nat.beq (G0 v) t && Z7 t r
def Z6.sizeD(P:Program)(e:TypeId):Nat:=match G3 P e with|some n=>n|none=>0
def Z6(P:Program)(m:Mem)(t:TypeId)(x i:Value):Res :=
 bif !(Nat.blt (G0 i) 8)then none else
 match P.underlying t with
 | some .string=>bif Nat.beq (G0 x) 9 then S7 m 4 .idx [x,i]else none
 | some (.array n e)=>match x,P.underlying e with
   | .agg cs,some (.int k)=>bif Nat.beq (cs.toList.length) n && Z7 (fN k) cs.toList && Nat.beq (Z6.sizeD P e) 1 then S7 m (fN k) .sel (i::cs.toList)else none
   | .agg cs,some .string=>bif Nat.beq (cs.toList.length) n && Z7 9 cs.toList && Nat.beq (Z6.sizeD P e) 1 then S7 m 9 .sel (i::cs.toList)else none
   | _,_=>none
 | _=>none
def jC(P:Program)(m:Mem)(t:TypeId)(x:Value)(a hi mx:Option Value):Res :=
 match P.underlying t,mx with
 | some .string,none=>bif Nat.beq (G0 x) 9 then
    match a,hi with
    | none,none=>some (x,m)
    | some l,none=>bif Nat.blt (G0 l) 8 then S7 m 9 .sub1 [x,l]else none
    | none,some h=>bif Nat.blt (G0 h) 8 then S7 m 9 .sub [x,.int .i64 0,h]else none
    | some l,some h=>bif Nat.blt (G0 l) 8 && Nat.blt (G0 h) 8 then S7 m 9 .sub [x,l,h]else none
   else none
 | _,_=>none
def EQ(m:Mem)(op:UnOp)(x:Value):Res :=
 let t:=G0 x
 match op with
 | .not=>bif Nat.beq t 8 then S7 m 8 (.un .not) [x]else none
 | op=>bif Nat.blt t 8 then S7 m t (.un op) [x]else none
def nZ(P:Program)(m:Mem)(s t:TypeId)(x:Value):Res :=
 match P.underlying s,P.underlying t with
 | some (.int _),some (.int k)=>bif Nat.blt (G0 x) 8 then S7 m (fN k) (.conv k) [x]else none
 | some .string,some .string=>bif Nat.beq (G0 x) 9 then some (x,m)else none
 | _,_=>none
def dC(P:Program)(m:Mem)(b:Builtin)(vs:List Value)(tys:List TypeId):Res :=
 match b,vs,tys with
 | .len,[x],t::_=>match P.underlying t with
   | some .string=>bif Nat.beq (G0 x) 9 then S7 m 3 .len [x]else none
   | _=>none
 | .max,[x,y],_=>bif Nat.blt (G0 x) 8 && Nat.beq (G0 x) (G0 y)then S7 m (G0 x) .max [x,y]else none
 | .min,[x,y],_=>bif Nat.blt (G0 x) 8 && Nat.beq (G0 x) (G0 y)then S7 m (G0 x) .min [x,y]else none
 | _,_,_=>none
def RM(m:Mem)(a:Addr)(s n:Nat)(i:Value):Res :=
 bif !(Nat.blt (G0 i) 8)then none else
 match S7 m 8 .inb [i,.int .i64 (.ofNat n)]with
 | some (b,⟨H,k,W,hi,lg⟩)=>match brL lg b with
   | some (true,lg)=>some (ixp a s i n,⟨H,k,W,hi,lg⟩)
   | _=>none
 | none=>none
def dA(P:Program)(m:Mem)(t:TypeId)(x i:Value):Res :=
 match P.underlying t,x with
 | some (.array n e),.pointer (some a)=>match G3 P e,a.spot with
   | some s,none=>RM m a s n i
   | _,_=>none
 | some (.slice e),.slice (some a) n c=>match G3 P e,a.spot with
   | some s,none=>bif Nat.beq c (M1+2)then none else RM m a s n i
   | _,_=>none
 | _,_=>none
def dB(P:Program)(m:Mem)(s:TypeId)(x:Value)(i:Nat):Res :=
 match x with
 | .func (.yield 1) ⟨[.pointer (some a),.int .i64 (.ofNat k),j,.int .i64 (.ofNat n)]⟩ ⟨[]⟩=>match P.underlying s with
   | some (.struct fs)=>match fs.toList[i]?,a.spot with
     | some f,none=>match G3 P f.type with
       | some (_+1)=>some (ixp (y5 a f.offset) k j n,m)
       | _=>none
     | _,_=>none
   | _=>none
 | _=>none
def tS(cs:List Value)(s o:Nat):Nat->Option C9
 | 0=>some []
 | n+1=>match cs[o]?,tS cs s (o+s) n with
   | some v,some r=>some (v::r)
   | _,_=>none
def bC(m:Mem)(cs:List Value)(s n:Nat)(i:Value):Nat->Nat->Option (C9×Mem)
 | _,0=>some ([],m)
 | o,k+1=>match tS cs s o n with
   | some (v::l)=>bif Z7 (G0 v) (v::l) && Nat.blt (G0 v) 10 then match S7 m (G0 v) .sel (i::v::l)with
     | some (h,m)=>match bC m cs s n i (o+1) k with
       | some (r,m)=>some (h::r,m)
       | none=>none
     | none=>none else none
   | _=>none
def nY(P:Program)(m:Mem)(t:TypeId)(x:Value):Res :=
 match x with
 | .func (.yield 1) ⟨[.pointer (some a),.int .i64 (.ofNat s),i,.int .i64 (.ofNat n)]⟩ ⟨[]⟩ =>
   match s5 P t,G3 P t with
   | some false,_=>match l5 m a ((n-1)*s+1)with
     | some cs=>match bC m cs s n i 0 1 with
       | some ([h],m)=>some (h,m)
       | _=>none
     | none=>none
   | some true,some z=>match l5 m a ((n-1)*s+z)with
     | some cs=>match bC m cs s n i 0 z with
       | some (hs,m)=>some (.agg ⟨hs⟩,m)
       | none=>none
     | none=>none
   | _,_=>none
 | _=>none
def tR(m:Mem)(c a b:Value):Res :=
 match m with
 | ⟨H,n,W,hi,lg⟩=>match brL lg c with
   | some (true,lg)=>some (a,⟨H,n,W,hi,lg⟩)
   | some (false,lg)=>some (b,⟨H,n,W,hi,lg⟩)
   | none=>none
def SZ(P:Program)(fr:Fr)(m:Mem)(o:Op):Res :=
 match o with
 | .pick c a b=>tR m (ev fr c) (ev fr a) (ev fr b)
 | .binOp op t x y _=>match mS P m op t (ev fr x) (ev fr y)with
   | some r=>some r
   | none=>EV P m op t x y (ev fr x) (ev fr y)
 | .unOp op _ x=>EQ m op (ev fr x)
 | .convert s t x=>nZ P m s t (ev fr x)
 | .slice t x d hi mx=>jC P m t (ev fr x) (evO fr d) (evO fr hi) (evO fr mx)
 | .index t x i=>Z6 P m t (ev fr x) (ev fr i)
 | .indexAddr t x i=>dA P m t (ev fr x) (ev fr i)
 | .fieldAddr s x i=>dB P m s (ev fr x) i
 | .load t x=>nY P m t (ev fr x)
 | .call ⟨.builtin b,xs,tys⟩=>dC P m b (evL fr xs.toList) tys.toList
 | _=>none
def mY(m:Mem)(b:Nat):Bool :=
 match Hp.get m.H b with
 | some .frz=>Nat.ble b G9
 | _=>false
def KC{α:Type}(l:List α):Nat->List α
 | 0=>[]
 | n+1=>l++KC l n
mutual
def SW(P:Program):Nat->TypeId->Option G5
 | 0,_=>none
 | d+1,t=>match P.underlying t with
   | some .bool=>some [8]
   | some (.int k)=>some [fN k]
   | some .string=>some [9]
   | some (.slice e)=>match G3 P e with
     | some w=>some [10+w]
     | none=>none
   | some (.struct fs)=>A2N P d fs.toList
   | some (.array n e)=>match SW P d e with
     | some l=>some (KC l n)
     | none=>none
   | _=>none
def A2N(P:Program):Nat->List Field->Option G5
 | 0,_=>none
 | _+1,[]=>some []
 | d+1,f::fs=>match SW P d f.type,A2N P d fs with
   | some a,some b=>some (a++b)
   | _,_=>none
end
def jB(P:Program)(t:TypeId):Option G5 :=
 match SW P 30 t,G3 P t with
 | some l,some n=>bif Nat.beq l.length n then some l else none
 | _,_=>none
def W1.letDo(t:Nat)(op:LOp)(xs:List Value)(m:Mem)(k:Nat->Mem->Option (C9×Mem)):Option (C9×Mem) :=
 match m with
 | ⟨H,n,W,hi,⟨nx,pi,log⟩⟩=>I8 nx fun nx=>I8 t fun t=>Q3 xs fun xs=>k nx ⟨H,n,W,hi,⟨Nat.succ nx,pi,.dt nx t op xs::log⟩⟩
def W1(w o i t:Nat)(z:Value)(g:Nat):G5->Nat->Mem->Option (C9×Mem)
 | [],_,m=>some ([],m)
 | tg::ts,j,m=>bif Nat.blt tg 10 then
    match S7 m tg (.get w (o+j)) [hole i t,z]with
    | some (h,m)=>match W1 w o i t z g ts (j+1) m with
      | some (r,m)=>some (h::r,m)
      | none=>none
    | none=>none
   else W1.letDo tg (.get w (o+j)) [hole i t,z] m fun nx m=>match W1 w o i t z g ts (j+1) m with
     | some (r,m)=>some (dat g nx tg::r,m)
     | none=>none
def kO(P:Program)(t:TypeId)(r:Option (C9×Mem)):Res :=
 match s5 P t,r with
 | some false,some ([v],m)=>some (v,m)
 | some true,some (vs,m)=>some (.agg ⟨vs⟩,m)
 | _,_=>none
def GS(P:Program)(m:Mem)(t:TypeId)(x:Value):Res :=
 match x,jB P t with
 | .func (.yield 5) ⟨[.pointer (some ⟨b,0,none⟩),.complex .f64 i tg,z,.int .i64 (.ofNat o)]⟩ ⟨[]⟩,some ts =>
   bif mY m b then kO P t (W1 (tg-10) o i tg z b ts 0 m)else none
 | .func (.yield 6) ⟨[.pointer (some ⟨b,0,none⟩),.complex .f64 i tg,z,.int .i64 (.ofNat o)]⟩ ⟨[]⟩,some ts =>
   match Hp.get m.H b with
   | some (.sq c tc T g ro)=>bif Nat.beq tc tg then kO P t (W1 (tg-10) o c tg z g ts 0 m)else none
   | _=>none
 | _,_=>none
def HG(m:Mem)(i t:Nat)(z:Value)(k:Value):Res :=
 bif !(Nat.blt (G0 z) 8)then none else
 match S7 m 8 (.inbs (t-10)) [z,hole i t]with
 | some (b,⟨H,n,W,hi,lg⟩)=>match brL lg b with
   | some (true,lg)=>some (k,⟨H,n,W,hi,lg⟩)
   | _=>none
 | none=>none
def kB(P:Program)(m:Mem)(t:TypeId)(x z:Value):Res :=
 match P.underlying t,x with
 | some (.slice e),.func (.yield 4) ⟨[.pointer (some ⟨b,0,none⟩),.complex .f64 i tg]⟩ ⟨[]⟩=>match G3 P e with
   | some (s+1)=>bif Nat.beq tg (10+(s+1))then HG m i tg z (opt b i tg z 0)else none
   | _=>none
 | some (.slice e),.func (.yield 2) ⟨[.pointer (some ⟨b,0,none⟩),.complex .f64 i tg]⟩ ⟨[]⟩=>match G3 P e with
   | some (s+1)=>bif Nat.beq tg (10+(s+1))then HG m i tg z (dpt b i tg z 0)else none
   | _=>none
 | some (.slice e),.func (.yield 3) ⟨[.pointer (some ⟨b,0,none⟩),.complex .f64 i tg]⟩ ⟨[]⟩=>match G3 P e with
   | some (s+1)=>bif Nat.beq tg (10+(s+1))then HG m i tg z (dpt b i tg z 0)else none
   | _=>none
 | some (.array n e),.func (.yield 5) ⟨[.pointer (some ⟨b,0,none⟩),.complex .f64 i tg,y,.int .i64 (.ofNat o)]⟩ ⟨[]⟩=>match G3 P e,z with
   | some s,.int _ (.ofNat k)=>bif Nat.blt k n && Nat.blt (o+k*s) (tg-10)then some (I8 (o+k*s) fun o=>dpt b i tg y o,m)else none
   | _,_=>none
 | some (.array n e),.func (.yield 6) ⟨[.pointer (some ⟨b,0,none⟩),.complex .f64 i tg,y,.int .i64 (.ofNat o)]⟩ ⟨[]⟩=>match G3 P e,z with
   | some s,.int _ (.ofNat k)=>bif Nat.blt k n && Nat.blt (o+k*s) (tg-10)then some (I8 (o+k*s) fun o=>opt b i tg y o,m)else none
   | _,_=>none
 | _,_=>none
def kG(P:Program)(m:Mem)(s:TypeId)(x:Value)(f:Nat):Res :=
 match P.underlying s,x with
 | some (.struct fs),.func (.yield 5) ⟨[.pointer (some ⟨b,0,none⟩),.complex .f64 i tg,y,.int .i64 (.ofNat o)]⟩ ⟨[]⟩=>match fs.toList[f]? with
   | some fd=>match G3 P fd.type with
     | some (_+1)=>bif Nat.blt (o+fd.offset) (tg-10)then some (I8 (o+fd.offset) fun o=>dpt b i tg y o,m)else none
     | _=>none
   | none=>none
 | some (.struct fs),.func (.yield 6) ⟨[.pointer (some ⟨b,0,none⟩),.complex .f64 i tg,y,.int .i64 (.ofNat o)]⟩ ⟨[]⟩=>match fs.toList[f]? with
   | some fd=>match G3 P fd.type with
     | some (_+1)=>bif Nat.blt (o+fd.offset) (tg-10)then some (I8 (o+fd.offset) fun o=>opt b i tg y o,m)else none
     | _=>none
   | none=>none
 | _,_=>none
def pT(i:Nat):List c8->Option Nat
 | []=>none
 | .lt j t .len [.complex .f64 k _]::r=>bif Nat.beq k i && Nat.beq t 3 then some j else pT i r
 | _::r=>pT i r
def CL(m:Mem)(i t:Nat):Res :=
 match pT i m.lg.log with
 | some j=>some (hole j 3,m)
 | none=>S7 m 3 .len [hole i t]
def A1O(P:Program)(m:Mem)(t:TypeId)(x:Value):Res :=
 match P.underlying t,x with
 | some (.slice _),.func (.yield 2) ⟨[.pointer (some ⟨b,0,none⟩),.complex .f64 i tg]⟩ ⟨[]⟩=>CL m i tg
 | some (.slice _),.func (.yield 3) ⟨[.pointer (some ⟨b,0,none⟩),.complex .f64 i tg]⟩ ⟨[]⟩=>CL m i tg
 | some (.slice _),.func (.yield 4) ⟨[.pointer (some ⟨b,0,none⟩),.complex .f64 i tg]⟩ ⟨[]⟩=>CL m i tg
 | _,_=>none
def eU(m:Mem)(k:Nat->Mem->Option (Value×Nat×Mem)):Option (Value×Nat×Mem) :=
 match m with
 | ⟨H,n,W,hi,lg⟩=>bif Nat.ble n G9 then I8 n fun n=>I8 (upN hi n) fun hi=>Hp.put H n (some .frz) fun H=>k n ⟨H,Nat.succ n,W,hi,lg⟩else none
def toD(t:Nat)(v:Value)(m:Mem):Option (Value×Nat×Mem) :=
 match v with
 | .func (.yield 2) ⟨[.pointer (some ⟨b,0,none⟩),.complex .f64 i tg]⟩ ⟨[]⟩=>bif Nat.beq tg t && mY m b then some (hole i tg,b,m)else none
 | .func (.yield 3) ⟨[.pointer (some ⟨b,0,none⟩),.complex .f64 i tg]⟩ ⟨[]⟩=>bif Nat.beq tg t && mY m b then some (hole i tg,b,m)else none
 | .func (.yield 4) ⟨[.pointer (some ⟨b,0,none⟩),.complex .f64 i tg]⟩ ⟨[]⟩=>match Hp.get m.H b with
   | some (.sq c tc T g true)=>bif (Nat.beq tg t && Nat.beq tc t) && mY m g then eU m fun b' m=>some (hole c tc,b',m)else none
   | some (.sq c tc T g false)=>bif (Nat.beq tg t && Nat.beq tc t) && mY m g then match bB m b (.sq c tc T g true)with
     | some m=>eU m fun b' m=>some (hole c tc,b',m)
     | none=>none else none
   | _=>none
 | .slice none 0 0=>bif Nat.ble 10 t then(match tH m t (.nilw (t-10)) [] fun nx m=>some (hole nx t,m)with
   | some (h,m)=>eU m fun b' m=>some (h,b',m)
   | none=>none)else none
 | _=>none
abbrev Td:=Nat->Value->Mem->Option (Value×Nat×Mem)
def xT(a:Td):G5->C9->Mem->Option (C9×G5×Mem)
 | [],[],m=>some ([],[],m)
 | t::ts,v::vs,m=>bif Nat.blt t 10 then
    bif Nat.beq (G0 v) t then match xT a ts vs m with
     | some (r,gs,m)=>some (v::r,gs,m)
     | none=>none else none
   else match a t v m with
    | some (h,b,m)=>match xT a ts vs m with
      | some (r,gs,m)=>some (h::r,b::gs,m)
      | none=>none
    | none=>none
 | _,_,_=>none
def iI(gs:List Nat)(m:Mem):Option (Nat×Mem) :=
 match gs with
 | [g]=>bif mY m g then some (g,m)else none
 | gs=>bif gs.all (mY m)then match eU m fun b m=>some (undef,b,m)with
   | some (_,b,m)=>some (b,m)
   | none=>none else none
def MX:Value->Value->Bool
 | .complex .f64 i _,.complex .f64 j _=>Nat.beq i j
 | .int k a,.int j b=>rZ k j && yM a b
 | _,_=>false
def wF(v:Value):Bool:=Nat.blt (G0 v) 8
def eN(m:Mem)(b i t:Nat)(l h:Value)(c:Bool):Res:=bif wF l && wF h then tH m t (.subs (t-10)) [hole i t,l,h] fun nx m=>some (bif c then clp b nx t else dat b nx t,m)else none
def IC(m:Mem)(b i t:Nat)(cl:Bool)(l:Value)(hi mx:Option Value):Res :=
 match hi,mx with
 | some h,none=>eN m b i t l h false
 | some h,some x=>bif MX h x then eN m b i t l h true else none
 | none,none=>match CL m i t with
   | some (h,m)=>eN m b i t l h cl
   | none=>none
 | none,some _=>none
def A6F(a:Option Value):Value :=
 match a with
 | some l=>l
 | none=>.int .i64 0
def ID(m:Mem)(b i t:Nat)(cl:Bool)(a hi mx:Option Value):Res:=IC m b i t cl (A6F a) hi mx
def uU(P:Program)(m:Mem)(t:TypeId)(x:Value)(a hi mx:Option Value):Res :=
 match P.underlying t,x with
 | some (.slice e),.func (.yield 2) ⟨[.pointer (some ⟨b,0,none⟩),.complex .f64 i tg]⟩ ⟨[]⟩=>match G3 P e with
   | some s=>bif Nat.beq tg (10+s)then ID m b i tg false a hi mx else none
   | none=>none
 | some (.slice e),.func (.yield 3) ⟨[.pointer (some ⟨b,0,none⟩),.complex .f64 i tg]⟩ ⟨[]⟩=>match G3 P e with
   | some s=>bif Nat.beq tg (10+s)then ID m b i tg true a hi mx else none
   | none=>none
 | some (.slice e),.func (.yield 4) ⟨[.pointer (some ⟨b,0,none⟩),.complex .f64 i tg]⟩ ⟨[]⟩=>match G3 P e with
   | some s=>bif Nat.beq tg (10+s)then match toD tg x m with
     | some (.complex .f64 c _,b',m)=>ID m b' c tg false a hi mx
     | _=>none else none
   | none=>none
 | _,_=>none
inductive Beh where
 | cells (xs:List Value)
 | rows (x:Value)
 | str (x:Value)
def cB(w:Nat)(c:Value):Beh->LOp×C9
 | .cells xs=>(.snoc w,c::xs)
 | .rows x=>(.cat w,[c,x])
 | .str x=>(.cats,[c,x])
def A0B(c:Td)(P:Program)(m:Mem)(e:TypeId)(w:Nat)(y:Value):Option (Beh×G5×Bool×Mem) :=
 match y with
 | .slice none 0 _=>some (.cells [],[],false,m)
 | .slice (some a) n _=>match l5 m a (n*w),jB P e with
   | some cs,some ts=>match xT c (KC ts n) cs m with
     | some (xs,gs,m)=>some (.cells xs,gs,Nat.blt 0 n,m)
     | none=>none
   | _,_=>none
 | .func _ _ _=>match c (10+w) y m with
   | some (x,b,m)=>some (.rows x,[b],false,m)
   | none=>none
 | y=>bif Nat.beq (G0 y) 9 && Nat.beq w 1 then some (.str y,[],false,m)else none
def BA(a:Td)(P:Program)(m:Mem)(e:TypeId)(w:Nat)(x:Value):Option (Nat×G5×Option Nat×Mem) :=
 match x with
 | .slice none 0 0=>match tH m (10+w) (.nilw w) [] fun nx m=>some (hole nx (10+w),m)with
   | some (.complex .f64 c _,m)=>some (c,[],none,m)
   | _=>none
 | .func (.yield 4) ⟨[.pointer (some ⟨b,0,none⟩),.complex .f64 i tg]⟩ ⟨[]⟩=>match Hp.get m.H b with
   | some (.sq c tc T g false)=>bif (Nat.beq tg (10+w) && Nat.beq tc tg) && (Nat.beq T e && Nat.ble b G9)then some (c,[g],some b,m)else none
   | _=>none
 | .slice (some ⟨b,0,none⟩) n c=>match Hp.get m.H b,jB P e with
   | some (.cells cs _ _),some ts=>bif Nat.beq cs.length (n*w) && (Nat.beq c n && Nat.blt c M1 || Nat.beq c M1)then match xT a (KC ts n) cs m with
     | some (xs,gs,m)=>match Hp.get m.H b with
       | some (.cells _ T false)=>bif Nat.beq T e && Nat.ble b G9 then match tH m (10+w) (.mk w) xs fun nx m=>some (hole nx (10+w),m)with
         | some (.complex .f64 c _,m)=>some (c,gs,some b,m)
         | _=>none else none
       | _=>none
     | none=>none else none
   | _,_=>none
 | _=>none
def v7(m:Mem)(c t:Nat)(T:TypeId)(g:Nat):Res:=Y1 m (.sq c t T g false) fun b=>own b c t
def SH(P:Program)(e:TypeId)(n:Nat):Bool :=
 match eB P e with
 | some z=>Nat.beq z.cells.size n
 | none=>false
def iG(old:Option Nat)(m:Mem):Mem :=
 match old with
 | some b=>iH m b
 | none=>m
def RB(a:Td)(P:Program)(m:Mem)(e:TypeId)(w:Nat)(x:Value):Res :=
 match P.info? e with
 | some inf=>bif Nat.beq inf.size w && Nat.blt 0 w then match BA a P m e w x with
   | some (c,gs,old,m)=>match iI gs m with
     | some (g,m)=>v7 (iG old m) c (10+w) e g
     | none=>none
   | none=>none else none
 | none=>none
def SS(P:Program):Nat->Td
 | 0=>toD
 | d+1=>fun t v m=>match v with
   | .slice (some ⟨b,0,none⟩) _ _=>match Hp.get m.H b with
     | some (.cells _ T _)=>match RB (SS P d) P m T (t-10) v with
       | some (x,m)=>toD t x m
       | none=>none
     | _=>none
   | v=>toD t v m
def tdP(P:Program):Td:=SS P 3
def FV(m:Mem)(e:TypeId)(w c:Nat)(old:Option Nat)(a:Beh)(gs:List Nat):Res :=
 match iI gs m with
 | some (g,m)=>tH m (10+w) (cB w (hole c (10+w)) a).1 (cB w (hole c (10+w)) a).2 fun nx m=>v7 (iG old m) nx (10+w) e g
 | none=>none
def qG(P:Program)(m:Mem)(t t2:TypeId)(x y:Value):Res :=
 match P.underlying t,P.underlying t2 with
 | some (.slice e),some d2=>bif !(bV d2)then none else
   match P.info? e with
   | some i=>bif (Nat.ble i.bytes 90000 && Nat.blt 0 i.size) && SH P e i.size then
     match A0B (tdP P) P m e i.size y with
     | some (bh,gs,sure,m)=>match BA (tdP P) P m e i.size x with
       | some (c,g0,old,m)=>FV m e i.size c old bh (g0++gs)
       | none=>match x,sure with
         | .func (.yield 3) ⟨[.pointer (some ⟨b,0,none⟩),.complex .f64 c tg]⟩ ⟨[]⟩,true=>bif Nat.beq tg (10+i.size)then FV m e i.size c none bh (b::gs)else none
         | _,_=>none
     | none=>none else none
   | none=>none
 | _,_=>none
def uS(P:Program)(m:Mem)(t:TypeId)(x v:Value):Res :=
 match x,jB P t with
 | .func (.yield 6) ⟨[.pointer (some ⟨b,0,none⟩),.complex .f64 i tg,z,.int .i64 (.ofNat o)]⟩ ⟨[]⟩,some ts=>bif gS v then none else
   match xT (tdP P) ts v.cells.toList m with
   | some (xs,gs,m)=>match Hp.get m.H b with
     | some (.sq c tc T g false)=>bif Nat.beq tc tg then match iI (g::gs) m with
       | some (g,m)=>match tH m tg (.set (tg-10) o) (hole c tg::z::xs) fun nx m=>some (hole nx tg,m)with
         | some (.complex .f64 nx _,m)=>KP (bB m b (.sq nx tg T g false))
         | _=>none
       | none=>none else none
     | _=>none
   | none=>none
 | _,_=>none
def A3E(m m1:Mem):Mem :=
 match m,m1 with
 | ⟨H,n,W,_,_⟩,⟨_,_,_,hi,lg⟩=>⟨H,n,W,hi,lg⟩
def IH(P:Program)(m:Mem)(s t:TypeId)(x:Value):Res :=
 match P.underlying s,P.underlying t,x with
 | some (.slice e),some .string,.slice (some a) n _=>match P.underlying e with
   | some (.int .u8)=>match l5 m a n with
     | some cs=>bif Z7 4 cs then S7 m 9 .mks cs else none
     | none=>none
   | _=>none
 | some (.slice e),some .string,.func _ _ _=>match P.underlying e with
   | some (.int .u8)=>match toD 11 x m with
     | some (h,_,m1)=>S7 (A3E m m1) 9 .str [h]
     | none=>none
   | _=>none
 | some _,some (.slice e),x=>bif Nat.beq (G0 x) 9 then match P.underlying e with
   | some (.int .u8)=>match G3 P e with
     | some 1=>match iI [] m with
       | some (g,m)=>match tH m 11 .byt [x] fun nx m=>some (hole nx 11,m)with
         | some (.complex .f64 nx _,m)=>v7 m nx 11 e g
         | _=>none
       | none=>none
     | _=>none
   | _=>none else none
 | _,_,_=>none
def XV:Value->Bool
 | .slice none 0 0=>true
 | _=>false
def VZ(P:Program)(m:Mem)(op:BinOp)(t:TypeId)(x y:Operand)(a b:Value):Res :=
 match P.underlying t,a with
 | some (.slice _),.func (.yield k) ⟨[.pointer (some ⟨_,0,none⟩),.complex .f64 i tg]⟩ ⟨[]⟩=>bif XV b && isC y && (Nat.beq k 2 || Nat.beq k 3 || Nat.beq k 4)then
   match op,S7 m 8 .nilp [hole i tg]with
   | .eql,some r=>some r
   | .neq,some (h,m)=>S7 m 8 (.un .not) [h]
   | _,_=>none else none
 | _,_=>none
def GM(P:Program)(m:Mem)(t:TypeId)(l c:Value):Res :=
 match P.underlying t,l,c with
 | some (.slice e),.complex .f64 i ti,.complex .f64 j tj=>bif (Nat.beq i j && Nat.beq ti 3) && Nat.beq tj 3 then
   match P.info? e with
   | some inf=>bif Nat.ble inf.bytes 90000 && Nat.blt 0 inf.size then
     match eB P e with
     | some z=>bif Nat.beq z.cells.size inf.size && z.cells.toList.all (fun z=>Nat.blt (G0 z) 10)then
       match iI [] m with
       | some (g,m)=>match tH m (10+inf.size) (.rep inf.size) (hole i 3::z.cells.toList) fun nx m=>some (hole nx (10+inf.size),m)with
         | some (.complex .f64 nx _,m)=>v7 m nx (10+inf.size) e g
         | _=>none
       | none=>none else none
     | none=>none else none
   | none=>none else none
 | _,_,_=>none
def dsM(P:Program)(fr:Fr)(m:Mem)(o:Op):Res :=
 match o with
 | .makeSlice t l c=>GM P m t (ev fr l) (ev fr c)
 | .load t x=>GS P m t (ev fr x)
 | .store t x y=>uS P m t (ev fr x) (ev fr y)
 | .indexAddr t x i=>kB P m t (ev fr x) (ev fr i)
 | .fieldAddr s x i=>kG P m s (ev fr x) i
 | .slice t x a hi mx=>uU P m t (ev fr x) (evO fr a) (evO fr hi) (evO fr mx)
 | .convert s t x=>IH P m s t (ev fr x)
 | .binOp op t x y _=>VZ P m op t x y (ev fr x) (ev fr y)
 | .call ⟨.builtin .len,xs,tys⟩=>match evL fr xs.toList,tys.toList with
   | [x],t::_=>A1O P m t x
   | _,_=>none
 | .call ⟨.builtin .append,xs,tys⟩=>match evL fr xs.toList,tys.toList with
   | [x,y],t::t2::_=>qG P m t t2 x y
   | _,_=>none
 | _=>none
def PM(P:Program)(m:Mem)(s t:TypeId)(x:Value):Res :=
 match P.underlying s,P.underlying t,x with
 | some (.pointer e),some .unsafePointer,.pointer (some ⟨b,o,none⟩)=>match G3 P e,Hp.get m.H b with
   | some (_+1),some (.cells cs _ _)=>bif Nat.blt o cs.length then some (x,m)else none
   | _,_=>none
 | some .unsafePointer,some (.pointer u),.pointer (some ⟨b,0,none⟩)=>match G3 P u,Hp.get m.H b with
   | some (k+1),some (.cells cs T false)=>bif Nat.beq T u && Nat.beq cs.length (k+1)then some (x,m)else none
   | _,_=>none
 | some (.slice _),some (.slice e),.slice (some ⟨b,o,none⟩) n c=>bif Nat.beq s t && !(Nat.beq c (M1+2))then match P.underlying e,Hp.get m.H b with
   | some (.int .u8),some (.cells cs T false)=>match bB m b (.cells cs T false)with
     | some m1=>some (x,m1)
     | none=>none
   | _,_=>none else none
 | _,_,_=>none
def NK(P:Program)(m:Mem)(op:BinOp)(t:TypeId)(a b:Value):Res :=
 match P.underlying t,a,b with
 | some (.pointer e),.pointer (some ⟨b1,o1,none⟩),.pointer (some ⟨b2,o2,none⟩)=>bif Nat.beq b1 b2 && Nat.beq o1 o2 then match P.info? e,op with
   | some _,.eql=>some (.bool true,m)
   | some _,.neq=>some (.bool false,m)
   | _,_=>none else none
 | _,_,_=>none
def sdM(P:Program)(m:Mem)(ty:TypeId)(x:Value):Res :=
 match P.underlying ty with
 | some (.pointer _)=>match x with
  | .func (.yield 4) ⟨[.pointer (some ⟨b,0,none⟩),.complex .f64 i t]⟩ ⟨[]⟩=>match Hp.get m.H b with
   | some (.sq _ _ _ _ _)=>some (sdt b,m)
   | _=>none
  | _=>none
 | _=>none
def usM(P:Program)(m:Mem)(a:TypeId)(p l:Value):Res :=
 match p with
 | .func (.yield 9) ⟨[.pointer (some ⟨b,0,none⟩)]⟩ ⟨[]⟩=>bif Nat.blt (G0 l) 8 then match Hp.get m.H b,P.underlying a with
   | some (.sq c tc T g false),some (.pointer e)=>bif Nat.beq e T && Nat.beq tc 11 then match G3 P T,S7 m 9 .ustr [hole c tc,l]with
     | some 1,some (v,m)=>match bB m b (.sq c tc T g true)with
       | some m=>some (v,m)
       | none=>none
     | _,_=>none else none
   | _,_=>none else none
 | _=>none
def eE(P:Program)(t:TypeId):Option Nat :=
 match P.underlying t with
 | some .bool=>some 8
 | some (.int k)=>some (fN k)
 | some .string=>some 9
 | _=>none
def sR(P:Program):List Field->Nat->Option G5
 | [],_=>some []
 | f::r,i=>match eE P f.type,sR P r (i+1)with
   | some t,some l=>bif !(f.name == "_") && Nat.beq f.offset i then some (t::l)else none
   | _,_=>none
def mM(P:Program)(t:TypeId):Option (Bool×List Nat) :=
 match P.underlying t with
 | some (.struct fs)=>bif P.stoodInHeld t then none else match sR P fs.toList 0 with
   | some l=>some (true,l)
   | none=>none
 | _=>match eE P t with
   | some k=>some (false,[k])
   | none=>none
def ML(P:Program)(t:TypeId):Option (Bool×List Nat) :=
 match s5 P t,jB P t with
 | some true,some l=>bif l.all (fun k=>Nat.blt k 10)then some (true,l)else none
 | some false,some [k]=>bif Nat.blt k 10 then some (false,[k])else none
 | _,_=>none
structure MTy where
 kt:TypeId
 vt:TypeId
 ka:Bool
 ks:G5
 va:Bool
 vs:G5
def MTy.w(y:MTy):Nat:=y.ks.length+y.vs.length
def RE(P:Program)(T:TypeId):Option MTy :=
 match P.underlying T with
 | some (.map kt vt)=>match mM P kt,ML P vt with
   | some (ka,k::ks),some (va,vs)=>some ⟨kt,vt,ka,k::ks,va,vs⟩
   | _,_=>none
 | _=>none
def wS:G5->C9->Bool
 | [],[]=>true
 | t::ts,v::vs=>Nat.beq (G0 v) t && wS ts vs
 | _,_=>false
def lZ(a:Bool)(b:List Nat)(v:Value):Option C9 :=
 match a,v with
 | true,.agg cs=>bif wS b cs.toList then some cs.toList else none
 | true,_=>none
 | false,v=>bif wS b [v]then some [v]else none
def A0E(a:Bool)(vs:List Value):P4 :=
 match a,vs with
 | true,vs=>some (.agg ⟨vs⟩)
 | false,[v]=>some v
 | false,_=>none
def WG(P:Program)(m:Mem)(T:TypeId):Res :=
 match RE P T with
 | some y=>tH m (10+y.w) (.mk y.w) [] fun nx m=>Y1 m (.mp nx (10+y.w) T) fun b=>.map (some b)
 | none=>none
def rF(w kw c t:Nat)(a:List Value):G5->C9->Nat->Mem->Option (C9×Mem)
 | [],[],_,m=>some ([],m)
 | tg::ts,z::zs,j,m=>match S7 m tg (.mget w kw j) (hole c t::z::a)with
   | some (h,m)=>match rF w kw c t a ts zs (j+1) m with
     | some (r,m)=>some (h::r,m)
     | none=>none
   | none=>none
 | _,_,_,_=>none
def vU(P:Program)(m:Mem)(T:TypeId)(x k:Value)(ok:Bool):Res :=
 match x,RE P T with
 | .map (some r),some y=>match Hp.get m.H r,lZ y.ka y.ks k,eB P y.vt with
   | some (.mp c t T2),some kc,some z=>bif Nat.beq T2 T then match lZ y.va y.vs z with
     | some a=>match rF y.w y.ks.length c t kc y.vs a y.ks.length m with
       | some (hs,m)=>match A0E y.va hs with
         | some v=>bif ok then match S7 m 8 (.mhas y.w y.ks.length) (hole c t::kc)with
            | some (b,m)=>some (.tuple ⟨[v,b]⟩,m)
            | none=>none
           else some (v,m)
         | none=>none
       | none=>none
     | none=>none else none
   | _,_,_=>none
 | _,_=>none
def zJ(P:Program)(m:Mem)(T:TypeId)(x k v:Value):Res :=
 match x,RE P T with
 | .map (some r),some y=>match Hp.get m.H r,lZ y.ka y.ks k,lZ y.va y.vs v with
   | some (.mp c t T2),some kc,some vc=>bif Nat.beq T2 T then tH m t (.mput y.w y.ks.length) (hole c t::(kc++vc)) fun nx m=>KP (bB m r (.mp nx t T))else none
   | _,_,_=>none
 | _,_=>none
def GU(P:Program)(m:Mem)(T:TypeId)(x:Value):Res :=
 match P.underlying T,x with
 | some (.map _ _),.map (some r)=>match Hp.get m.H r with
   | some (.mp c t _)=>CL m c t
   | _=>none
 | _,_=>none
def vE(P:Program)(m:Mem)(t:TypeId)(x:Value):Res :=
 match P.underlying t with
 | some .string=>bif Nat.beq (G0 x) 9 then Y1 m (.iter [x,.int .i64 (.ofNat 0)]) fun b=>.pointer (some ⟨b,0,none⟩)else none
 | _=>none
def DM:Value->Value->Option (ByteArray×Nat)
 | .string s,.int .i64 (.ofNat k)=>some (s,k)
 | _,_=>none
def GJ(m:Mem)(x:Value):Res :=
 match x with
 | .pointer (some ⟨r,0,none⟩)=>match Hp.get m.H r with
   | some (.iter [s,p])=>match DM s p with
     | some (b,k)=>bif Nat.blt k b.data.toList.length then I8 (k+(Utf8.decode b k).2) fun a=>match bB m r (.iter [s,.int .i64 (.ofNat a)])with
        | some m=>I8 (Utf8.decode b k).1 fun c=>some (.tuple ⟨[.bool true,p,.int .i32 (.ofNat c)]⟩,m)
        | none=>none
       else some (.tuple ⟨[.bool false]⟩,m)
     | none=>bif Nat.beq (G0 s) 9 && Nat.beq (G0 p) 3 then match S7 m 3 .len [s]with
       | some (h,m)=>match S7 m 8 (.bin .lss) [p,h]with
         | some (c,⟨H,n,W,hi,lg⟩)=>match brL lg c with
           | some (true,lg)=>match S7 ⟨H,n,W,hi,lg⟩ 2 .rune [s,p]with
             | some (y,m)=>match S7 m 3 .rpos [s,p]with
               | some (q,m)=>match bB m r (.iter [s,q])with
                 | some m=>some (.tuple ⟨[.bool true,p,y]⟩,m)
                 | none=>none
               | none=>none
             | none=>none
           | some (false,lg)=>some (.tuple ⟨[.bool false]⟩,⟨H,n,W,hi,lg⟩)
           | none=>none
         | none=>none
       | none=>none else none
   | _=>none
 | _=>none
def xtM(P:Program)(fr:Fr)(m:Mem)(o:Oper):Res :=
 match o.op with
 | .convert s t x=>PM P m s t (ev fr x)
 | .binOp op t x y _=>NK P m op t (ev fr x) (ev fr y)
 | .call ⟨.builtin .unsafeSliceData,xs,_⟩=>match evL fr xs.toList with
   | [x]=>sdM P m o.type x
   | _=>none
 | .call ⟨.builtin .unsafeString,xs,tys⟩=>match evL fr xs.toList,tys.toList with
   | [p,l],t::_=>usM P m t p l
   | _,_=>none
 | .makeMap t none=>WG P m t
 | .lookup t x k ok=>vU P m t (ev fr x) (ev fr k) ok
 | .range t x=>vE P m t (ev fr x)
 | .next x true=>GJ m (ev fr x)
 | .mapUpdate t x k v=>zJ P m t (ev fr x) (ev fr k) (ev fr v)
 | .insert t x k v=>zJ P m t (ev fr x) (ev fr k) (ev fr v)
 | .call ⟨.builtin .len,xs,tys⟩=>match evL fr xs.toList,tys.toList with
   | [x],t::_=>GU P m t x
   | _,_=>none
 | _=>none
inductive EK where
 | noEscape|makeNoZero (e:TypeId)|indexByteString|countString|indexString|copyString
 deriving DecidableEq
def HU:List (FuncId×EK)->FuncId->Option EK
 | [],_=>none
 | (g,k)::r,f=>bif Nat.beq g f then some k else HU r f
structure FnC where
 run:C9->Mem->Res
structure O0 where
 fn:FuncId->FnC
 yl:FnC
def lQ:Value->Bool
 | .tuple ⟨[]⟩=>true
 | _=>false
def DZ(lg:Lg)(v:Value)(b:Bool):Option (Bool×Lg) :=
 match v with
 | .bool c=>some (c == b,lg)
 | .complex k i t=>match brL lg (.complex k i t)with
   | some (c,lg)=>some (c == b,lg)
   | none=>none
 | v=>bif lQ v then some (false,lg)else none
def v6(nt:Nat)(fr:Fr)(lg:Lg)(ops:List Oper)(o:Oper):Option (Bool×Lg) :=
 match o.guard with
 | none=>some (true,lg)
 | some (j,b)=>match ops[j]? with
   | some p=>match p.dst with
     | some t=>bif Nat.blt t nt then DZ lg (fr.get t) b else none
     | none=>none
   | none=>none
def uE(v:Value)(vs:List Value):Option (FuncId×List Value) :=
 match v with
 | .func (.func f) a b=>some (f,a.toList++(vs++b.toList))
 | _=>none
def cW(v:Value):Option Nat :=
 match v with
 | .func (.yield 7) ⟨[.pointer (some ⟨b,0,none⟩)]⟩ ⟨[]⟩=>some b
 | _=>none
def GH(call:O0)(m:Mem)(v:Value)(vs:List Value):Res :=
 match uE v vs with
 | some (f,vs)=>(call.fn f).run vs m
 | none=>match cW v with
   | some _=>call.yl.run (v::vs) m
   | none=>none
def A6O(call:O0)(x:XC)(xs:LC)(fr:Fr)(m:Mem):Res:=GH call m (x.run fr) (xs.run fr)
def A4q(f:FnC)(xs:LC)(fr:Fr)(m:Mem):Res:=f.run (xs.run fr) m
def WY(P:Program)(c:OpC)(o:Oper)(fr:Fr)(m:Mem):Res :=
 match c.run fr m with
 | some r=>some r
 | none=>match SZ P fr m o.op with
   | some r=>some r
   | none=>match dsM P fr m o.op with
     | some r=>some r
     | none=>xtM P fr m o
def V1(P:Program)(call:O0)(o:Oper):OpC :=
 match o.op with
 | .call ⟨.value (.func f),xs,_⟩=>⟨A4q (call.fn f) (sU xs.toList)⟩
 | .call ⟨.value x,xs,_⟩=>⟨A6O call (R0 x) (sU xs.toList)⟩
 | op=>⟨WY P (wZ P op) o⟩
def wV(nt:Nat)(d:Option Tmp):Bool :=
 match d with
 | some d=>Nat.blt d nt
 | none=>true
structure A5Y where
 run:Value->Fr->(Fr->Option S)->Option S
def tK(d:Option Tmp):A5Y :=
 match d with
 | some t=>⟨tG (sel (t / 64%8)) (sel (t / 8%8)) (sel (t%8))⟩
 | none=>⟨fun _ fr k=>k fr⟩
structure A0K where
 run:S->Option S
def jG(c:OpC)(d:A5Y)(next:A0K)(s:S):Option S :=
 match s with
 | ⟨fr,m⟩=>match c.run fr m with
   | some (v,m')=>bif Nat.ble m.hi m'.hi then d.run v fr fun fr=>next.run ⟨fr,m'⟩else none
   | none=>none
def dE(nt:Nat)(all:List Oper)(o:Oper)(c:OpC)(d:A5Y)(next:A0K)(s:S):Option S :=
 match s with
 | ⟨fr,⟨H,n,W,hi,lg⟩⟩=>match v6 nt fr lg all o with
   | some (true,lg)=>jG c d next ⟨fr,⟨H,n,W,hi,lg⟩⟩
   | some (false,lg)=>d.run undef fr fun fr=>next.run ⟨fr,⟨H,n,W,hi,lg⟩⟩
   | none=>none
def T8(P:Program)(nt gl:Nat)(call:O0)(all:List Oper):List Oper->A0K
 | []=>⟨some⟩
 | o::r=>bif wV nt o.dst && KM nt gl o.op then match o.guard with
   | none=>⟨fun s=>jG (V1 P call o) (tK o.dst) (T8 P nt gl call all r) s⟩
   | some _=>⟨fun s=>dE nt all o (V1 P call o) (tK o.dst) (T8 P nt gl call all r) s⟩
   else⟨fun _=>none⟩
structure Rec where
 i:Nat
 lo:Nat
 hi:Nat
inductive Cls where
 | free
 | one (b:Nat)
 | all
def A6t(fr:Fr)(o:Op):Cls :=
 match o with
 | .move _|.assign _|.pick ..|.alloc _|.box ..|.build ..|.buildSlice ..|.nilCheck _|.binOp ..|.unOp ..|.makeInterface ..|.makeFunc ..|.makeMap ..|.makeSlice ..
 | .fieldAddr ..|.field ..|.indexAddr ..|.index ..|.extract ..|.range ..=>.free
 | .slice _ x _ _ _=>match ev fr x with
   | .slice _ _ _|.string _|.pointer _|.complex _ _ _=>.free
   | _=>.all
 | .convert _ _ x=>match ev fr x with
   | .int _ _|.string _=>.free
   | _=>.all
 | .call ⟨.builtin .len,xs,_⟩=>match evL fr xs.toList with
   | [.slice _ _ _]|[.string _]=>.free
   | _=>.all
 | .call ⟨.builtin .min,_,_⟩|.call ⟨.builtin .max,_,_⟩=>.free
 | .call ⟨.builtin .unsafeSliceData,xs,_⟩=>match evL fr xs.toList with
   | [.slice _ _ _]=>.free
   | _=>.all
 | .load _ x|.store _ x _=>match ev fr x with
   | .pointer (some a)=>.one a.block
   | _=>.all
 | _=>.all
def AC(H:Hp AB):G5->Hp AB
 | []=>H
 | b::r=>Hp.put H b none fun H=>AC H r
def BD(H0 H:Hp AB):G5->Hp AB
 | []=>H
 | b::r=>Hp.put H b (Hp.get H0 b) fun H=>BD H0 H r
def JV:Nat->Nat->G5
 | _,0=>[]
 | lo,n+1=>lo::JV (lo+1) n
def Y2:List Rec->G5
 | []=>[]
 | r::rs=>JV r.lo (r.hi-r.lo)++Y2 rs
def m9(l:List Nat)(b:Nat):Bool:=l.any (Nat.beq b)
def DQ(l:List Nat):Bool:=l.all fun b=>Nat.ble b G9
def zO(b:List Nat)(rs:List Rec):List Rec:=rs.filter fun r=>!(m9 b r.i)
def yR(m:Mem)(c:Cls)(us:List Rec):Option Mem :=
 match m with
 | ⟨H,n,_,hi,lg⟩=>match c with
   | .free=>some ⟨hp0,n,[],hi,lg⟩
   | .one b=>bif m9 (Y2 us) b || !(Nat.ble b G9)then none else Hp.put hp0 b (Hp.get H b) fun H=>some ⟨H,n,[],hi,lg⟩
   | .all=>bif DQ (Y2 us)then some ⟨AC H (Y2 us),n,[],hi,lg⟩else none
def jR(m m':Mem):Option Mem :=
 bif Nat.ble m'.hi m.n then(match m with|⟨H,n,W,hi,_⟩=>some ⟨H,n,W,hi,m'.lg⟩)else
 bif Nat.ble m'.hi G9 then CZ (BD m'.H m.H (JV m.n (m'.hi-m.n))) fun H=>I8 m'.hi fun n=>some ⟨H,n,m.W,n,m'.lg⟩else none
def PJ(fr:Fr)(m:Mem)(o:Oper)(b:List Nat)(rs:List Rec)(op:OpC)(k:Value->Mem->Option S):Option S :=
 let us:=zO b rs
 let c:=A6t fr o.op
 match yR m c us with
 | some mv=>match op.run fr mv with
   | some (v,m') =>
     match m'.W,Nat.ble m.hi m'.hi with
     | [],true=>match jR m m' with
       | some m2=>k v m2
       | none=>none
     | _,_=>none
   | none=>none
 | none=>none
def wrO:Op->Bool
 | .call _|.store ..|.mapUpdate ..=>true
 | _=>false
def p0:Op->Bool
 | .move _|.assign _|.extract ..|.slice ..=>true
 | _=>false
def A4O:Op->Bool
 | .field ..|.fieldAddr ..|.index ..|.indexAddr ..|.binOp ..|.unOp ..|.build ..|.load ..|.pick ..|.convert ..|.slice ..|.nilCheck _=>true
 | .call ⟨.builtin .len,_,_⟩|.call ⟨.builtin .min,_,_⟩|.call ⟨.builtin .max,_,_⟩=>true
 | o=>p0 o
def BS(a b:Addr):Bool :=
 match a,b with
 | ⟨x,o,none⟩,⟨y,p,none⟩=>Nat.beq x y && Nat.beq o p
 | _,_=>false
def KB(f g:Fn):Bool :=
 match f,g with
 | .func f,.func g=>Nat.beq f g
 | .yield f,.yield g=>Nat.beq f g
 | _,_=>false
def yZ(s:Value->Value->Bool):C9->C9->Bool
 | [],[]=>true
 | a::l,b::r=>s a b && yZ s l r
 | _,_=>false
def vA:Nat->Value->Value->Bool
 | _,.bool a,.bool b=>a == b
 | _,.int k n,.int j m=>rZ k j && yM n m
 | _,.complex .f64 i t,.complex .f64 j u=>Nat.beq i j && Nat.beq t u
 | _,.complex .f32 i t,.complex .f32 j u=>Nat.beq i j && Nat.beq t u
 | _,.string s,.string t=>decide (s.data.toList=t.data.toList)
 | _,.pointer none,.pointer none=>true
 | _,.pointer (some a),.pointer (some b)=>BS a b
 | _,.slice none n c,.slice none m d=>Nat.beq n m && Nat.beq c d
 | _,.slice (some a) n c,.slice (some b) m d=>BS a b && (Nat.beq n m && Nat.beq c d)
 | _,.map none,.map none=>true
 | _,.map (some a),.map (some b)=>Nat.beq a b
 | _,.nilFunc,.nilFunc=>true
 | _,.nilIface,.nilIface=>true
 | d+1,.func f a b,.func g a' b'=>KB f g && (yZ (vA d) a.toList a'.toList && yZ (vA d) b.toList b'.toList)
 | d+1,.iface t v,.iface u w=>Nat.beq t u && vA d v w
 | _,_,_=>false
def TV(a b:AB):Bool :=
 match a,b with
 | .frz,.frz=>true
 | .cells cs T ro,.cells cs' T' ro'=>yZ (vA 6) cs cs' && (Nat.beq T T' && (ro == ro'))
 | _,_=>false
def UQ(H:Hp AB)(b:Nat):Option (Nat×AB) :=
 match Hp.get H b with
 | some .frz=>some (b,.frz)
 | some (.cells cs T ro)=>some (b,.cells cs T ro)
 | _=>none
def HM(H:Hp AB)(fr:Fr)(o:Op):Option (Nat×AB) :=
 match o with
 | .load _ x=>match ev fr x with
   | .func (.yield 5) ⟨.pointer (some a)::_⟩ _=>UQ H a.block
   | .pointer (some a)=>UQ H a.block
   | _=>none
 | _=>none
def wH(H:Hp AB)(b:Nat)(ab:AB):Bool :=
 match Hp.get H b with
 | some x=>Nat.ble b G9 && TV x ab
 | none=>false
def qD:Nat:=262144
def BZ(m:Mem)(r:Option (Nat×AB))(us:List Rec):Option Mem :=
 match m with
 | ⟨H,_,_,_,lg⟩=>match r with
   | none=>some ⟨hp0,qD,[],qD,lg⟩
   | some (b,ab)=>bif m9 (Y2 us) b || !(wH H b ab)then none else Hp.put hp0 b (some ab) fun H=>some ⟨H,qD,[],qD,lg⟩
def jK(fr:Fr)(m:Mem)(o:Oper)(b:List Nat)(rs:List Rec)(op:OpC):Option (Value×Lg) :=
 match BZ m (HM m.H fr o.op) (zO b rs)with
 | some mv=>match op.run fr mv with
   | some (v,⟨_,_,[],hi,lg⟩)=>bif Nat.beq hi qD then some (v,lg)else none
   | _=>none
 | none=>none
abbrev Qs:=List (Nat×Option (Nat×AB))
def DR:Nat->G5->Qs->Bool
 | 0,_,_=>true
 | n+1,b,qs=>(m9 b n || qs.any fun q=>Nat.beq n q.1) && DR n b qs
def CN(i:Nat):List G5->List Oper->Bool
 | c::bs,o::r=>(m9 c i || p0 o.op) && CN i bs r
 | _,_=>true
def A3D(H:Hp AB)(r:Option (Nat×AB)):Bool :=
 match r with
 | none=>true
 | some (b,ab)=>wH H b ab
def WW(b:List Nat)(H:Hp AB)(a:Qs):Bool:=a.all fun q=>m9 b q.1 || A3D H q.2
def FA(o:Op)(i:Nat)(b:List Nat)(bs:List G5)(r:List Oper)(a:Qs):Bool:=wrO o && (DR i b a && CN i bs r)
def d8(P:Program)(nt gl:Nat)(call:O0)(all:List Oper):List Oper->Nat->List G5->List Rec->Qs->S->Option S
 | [],_,_,_,_,s=>some s
 | _::_,_,[],_,_,_=>none
 | o::r,i,b::bs,rs,qs,⟨fr,⟨H,n,W,hi,lg⟩⟩=>match v6 nt fr lg all o,wV nt o.dst && KM nt gl o.op with
   | some (true,lg),true=>bif FA o.op i b bs r qs then(match (V1 P call o).run fr ⟨H,n,W,hi,lg⟩with
      | some (v,m2)=>bif Nat.ble hi m2.hi && WW b m2.H qs then(tK o.dst).run v fr fun fr=>d8 P nt gl call all r (i+1) bs [] qs ⟨fr,m2⟩else none
      | none=>none)
     else match (bif A4O o.op then jK fr ⟨H,n,W,hi,lg⟩ o b rs (V1 P call o)else none)with
      | some (v,lg2)=>(tK o.dst).run v fr fun a=>d8 P nt gl call all r (i+1) bs rs ((i,HM H fr o.op)::qs) ⟨a,⟨H,n,W,hi,lg2⟩⟩
      | none=>bif p0 o.op then none else PJ fr ⟨H,n,W,hi,lg⟩ o b rs (V1 P call o) fun v m2 =>
        (tK o.dst).run v fr fun fr=>d8 P nt gl call all r (i+1) bs (⟨i,n,m2.n⟩::rs) qs ⟨fr,m2⟩
   | some (false,lg),true=>(tK o.dst).run undef fr fun fr=>d8 P nt gl call all r (i+1) bs rs ((i,none)::qs) ⟨fr,⟨H,n,W,hi,lg⟩⟩
   | _,_=>none
def A0H(l:List Nat)(b:Nat):G5:=bif m9 l b then l else I8 b fun b=>b::l
def OF:G5->G5->G5
 | [],b=>b
 | x::a,b=>A0H (OF a b) x
def qH(acc:List G5):List Edge->G5
 | []=>[]
 | e::r=>bif Region.binds .any e then A0H (OF (acc.getD e.on []) (qH acc r)) e.on else qH acc r
def X6:List Oper->List G5->List G5
 | [],acc=>acc
 | o::r,acc=>Q3 (qH acc o.after.toList) fun a=>X6 r (acc++[a])
def nT:Operand->List Tmp
 | .tmp t=>[t]
 | _=>[]
def U4(ops:List Oper)(o:Oper):List Tmp :=
 o.dst.toList++(o.op.operands.toList.flatMap nT++(match o.guard with
  | none=>[]
  | some (j,_)=>match ops[j]? with
    | some p=>p.dst.toList
    | none=>[]))
def A06(a:List G5)(i k:Nat):Bool:=bif Nat.blt i k then m9 (a.getD k []) i else m9 (a.getD i []) k
def qJ(a:List G5)(i:Nat)(b:List Tmp):List Oper->Nat->Bool
 | [],_=>true
 | p::r,k=>(Nat.beq k i || (match p.dst with|none=>true|some t=>!(m9 b t) || A06 a i k)) && qJ a i b r (k+1)
def lW(i:Nat):List Edge->Bool
 | []=>true
 | e::r=>(!(Region.binds .any e) || Nat.blt e.on i) && lW i r
def GE(ops:List Oper)(a:List G5):List Oper->Nat->Bool
 | [],_=>true
 | o::r,i=>lW i o.after.toList && (qJ a i (U4 ops o) ops 0 && GE ops a r (i+1))
def DI(ops:Array Oper):Bool:=GE ops.toList (X6 ops.toList []) ops.toList 0
def DL:Op->Bool
 | .move _|.assign _|.load _ _|.store _ _ _=>true
 | _=>false
def kP:Op->Option (TypeId×Operand)
 | .load t x=>some (t,x)
 | .store t x _=>some (t,x)
 | _=>none
def eF:Op->Bool
 | .store _ _ _=>true
 | _=>false
def UO:Op->List Tmp
 | .move x|.assign x=>nT x
 | .load _ x=>nT x
 | .store _ x y=>nT x++nT y
 | _=>[]
def zI(o:Oper)(l:List Tmp):Bool :=
 match o.dst with
 | some d=>m9 l d
 | none=>false
def A6U(a b:Oper):Bool :=
 (match a.dst,b.dst with
   | some d,some e=>!(Nat.beq d e)
   | _,_=>true) && (!(zI a (UO b.op)) && (!(zI b (UO a.op)) && !(eF a.op && eF b.op)))
def pZ(o:Oper)(i:Nat):Bool:=o.after.any fun e=>Region.binds .any e && Nat.beq e.on i
def A0I(l:List Oper):List Tmp:=l.flatMap fun o=>match kP o.op with
 | some (_,x)=>nT x
 | none=>[]
def CA(p:Oper->Oper->Bool)(l:List Oper):Bool :=
 (List.range l.length).all fun j=>(List.range j).all fun i=>match l[i]?,l[j]? with
   | some a,some b=>pZ b i || p a b
   | _,_=>true
def A4a(a:List Tmp)(i:Nat)(o:Oper):Bool:=DL o.op && ((match o.guard with|none=>true|some _=>false) && (!(zI o a) && o.after.all fun e=>!(Region.binds .any e) || Nat.blt e.on i))
def VU(a:List Tmp):Nat->List Oper->Bool
 | _,[]=>true
 | i,o::l=>A4a a i o && VU a (i+1) l
def jH(l:List Oper):Bool:=VU (A0I l) 0 l && CA A6U l
def VM(P:Program)(nt gl:Nat)(fr:Fr)(H:Hp AB)(o:Oper):Bool :=
 match kP o.op with
 | none=>true
 | some (t,x)=>bif !(okX nt gl x)then false else match ev fr x,s5 P t,G3 P t with
   | .pointer (some a),some _,some s=>match a.spot,Hp.get H a.block with
     | none,some (.cells cs _ false)=>Nat.ble (a.off+s) cs.length && (Nat.blt a.off cs.length && Nat.ble a.block G9)
     | _,_=>false
   | _,_,_=>false
def A0F(fr:Fr)(a b:Oper):Bool :=
 bif eF a.op || eF b.op then match kP a.op,kP b.op with
  | some (_,x),some (_,y)=>match ev fr x,ev fr y with
    | .pointer (some p),.pointer (some q)=>!(Nat.beq p.block q.block)
    | _,_=>false
  | _,_=>true else true
def jT(P:Program)(nt gl:Nat)(fr:Fr)(H:Hp AB)(l:List Oper):Bool:=l.all (VM P nt gl fr H) && CA (A0F fr) l
structure eP where
 run:S->Option (Ex×S)
def zQ(f:eP):Nat->S->Option (Ex×S)
 | 0,_=>none
 | n+1,s=>match f.run s with
   | some (.normal,s)=>zQ f n s
   | r=>r
def ZV(a b:eP)(s:S):Option (Ex×S) :=
 match a.run s with
 | some (.normal,s)=>b.run s
 | r=>r
def IP(c:XC)(a b:eP)(s:S):Option (Ex×S) :=
 match c.run s.fr with
 | .bool true=>a.run s
 | .bool false=>b.run s
 | v=>match s with
   | ⟨fr,⟨H,n,W,hi,lg⟩⟩=>match brL lg v with
     | some (true,lg)=>a.run ⟨fr,⟨H,n,W,hi,lg⟩⟩
     | some (false,lg)=>b.run ⟨fr,⟨H,n,W,hi,lg⟩⟩
     | none=>none
def xF(id:Nat)(c:eP)(s:S):Option (Ex×S) :=
 match c.run s with
 | some (.exit j,s)=>bif Nat.beq j id then some (.normal,s)else some (.exit j,s)
 | r=>r
def X4(r:A0K)(s:S):Option (Ex×S) :=
 match r.run s with
 | some s=>some (.normal,s)
 | none=>none
structure LpT where
 me:FuncId
 look:List Bool->Option (S->Option (Ex×S))
def zR(c:eP)(L:S->Option (Ex×S)):Nat->S->Option (Ex×S)
 | 0,_=>none
 | n+1,s=>match L s with
   | some r=>some r
   | none=>match c.run s with
     | some (.normal,s)=>zR c L n s
     | r=>r
def IM(c:eP)(l:Option (S->Option (Ex×S)))(s:S):Option (Ex×S) :=
 match l with
 | some f=>zR c f 4 s
 | none=>zQ c 1000000 s
def frL(fr:Fr):Nat->Nat->C9
 | _,0=>[]
 | i,n+1=>fr.get i::frL fr (i+1) n
def A2n:Value->Nat
 | .pointer (some a)=>a.block
 | _=>0
def fS(v:Value):G5 :=
 match v with
 | .func (.yield 8) ⟨l⟩ ⟨[]⟩=>l.map A2n
 | _=>[]
def exN:Ex->Nat
 | .normal=>0
 | .ret=>2
 | .exit k=>k+4
def nEx:Nat->Option Ex
 | 0=>some .normal
 | 1=>none
 | 2=>some .ret
 | 3=>none
 | k+4=>some (.exit k)
def CQ:Ex->Bool
 | .normal=>true
 | _=>false
def oK(fr:Fr)(hi:Nat)(b:Nat)(r:Res):Option (Ex×S) :=
 match r with
 | some (_,m)=>match Hp.get m.H b with
   | some (.lp f q vs st)=>match nEx st with
     | some e=>bif Nat.ble hi m.hi then match bB m b (.lp f q vs 3)with
       | some m=>some (e,⟨fr,m⟩)
       | none=>none else none
     | none=>none
   | _=>none
 | none=>none
def pJ(P:Program)(f:FuncId):Bool :=
 match P.funcs.toList[f]? with
 | some fn=>match fn.body with
   | some _=>true
   | none=>false
 | none=>false
def aU(P:Program)(nt:Nat)(call:O0)(f:FuncId)(q:List Bool)(g:Value)(fr:Fr)(m:Mem):Option (Ex×S) :=
 Q3 (frL fr 0 nt) fun vs=>match Y1 m (.lp f q vs 0) yv with
 | some (v,m1)=>match uE g [v],cW v with
   | some (k,as),some b=>bif pJ P k then oK fr m1.hi b ((call.fn k).run as m1)else none
   | _,_=>none
 | none=>none
def xE(P:Program)(nt:Nat)(call:O0)(f:FuncId)(q:List Bool)(x:XC)(s:S):Option (Ex×S) :=
 match s with
 | ⟨fr,m⟩=>bif Nat.ble nt 510 then match cW (fr.get 511)with
   | some d=>match Hp.get m.H d with
     | some (.lp _ _ _ 1)=>aU P nt call f q (x.run fr) fr m
     | _=>none
   | none=>bif lQ (fr.get 511)then match Y1 m (.dfr true) (fun b=>.pointer (some ⟨b,0,none⟩))with
      | some (.pointer (some a),m1)=>Q3 (fS (fr.get 510)) fun l=>tG (sel 7) (sel 7) (sel 6) (dv (a.block::l)) fr fun c=>aU P nt call f q (x.run fr) c m1
      | _=>none else none
   else none
def M5(P:Program)(nt gl:Nat)(call:O0)(lp:LpT):List Bool->Code->eP
 | _,.skip=>⟨fun s=>some (.normal,s)⟩
 | _,.label _=>⟨fun s=>some (.normal,s)⟩
 | _,.region _ ops d=>match d with
   | false=>⟨fun s=>X4 (T8 P nt gl call ops.toList ops.toList) s⟩
   | true=>bif DI ops then bif jH ops.toList then⟨fun s=>bif jT P nt gl s.fr s.m.H ops.toList then X4 (T8 P nt gl call ops.toList ops.toList) s else X4 ⟨d8 P nt gl call ops.toList ops.toList 0 (X6 ops.toList []) [] []⟩ s⟩
     else⟨fun s=>X4 ⟨d8 P nt gl call ops.toList ops.toList 0 (X6 ops.toList []) [] []⟩ s⟩else⟨fun _=>none⟩
 | q,.seq a b=>⟨fun s=>ZV (M5 P nt gl call lp (q++[false]) a) (M5 P nt gl call lp (q++[true]) b) s⟩
 | q,.cond c a b=>bif okX nt gl c then⟨fun s=>IP (R0 c) (M5 P nt gl call lp (q++[false]) a) (M5 P nt gl call lp (q++[true]) b) s⟩else⟨fun _=>none⟩
 | q,.block id c=>⟨fun s=>xF id (M5 P nt gl call lp (q++[false]) c) s⟩
 | q,.loop c=>⟨fun s=>IM (M5 P nt gl call lp (q++[false]) c) (lp.look q) s⟩
 | q,.rangeFunc x _ _ _=>bif okX nt gl x then⟨fun s=>xE P nt call lp.me q (R0 x) s⟩else⟨fun _=>none⟩
 | q,.scope c=>M5 P nt gl call lp (q++[false]) c
 | _,.exit id=>⟨fun s=>some (.exit id,s)⟩
 | _,.ret=>⟨fun s=>some (.ret,s)⟩
 | _,_=>⟨fun _=>none⟩
def HJ(ids:Value->List Nat):C9->G5
 | []=>[]
 | v::r=>ids v++HJ ids r
def yK:Nat->Value->G5
 | 0,_=>[]
 | _+1,.pointer (some a)=>[a.block]
 | _+1,.slice (some a) _ _=>[a.block]
 | _+1,.map (some b)=>[b]
 | d+1,.func _ a b=>HJ (yK d) a.toList++HJ (yK d) b.toList
 | d+1,.iface _ v=>yK d v
 | d+1,.agg cs=>HJ (yK d) cs.toList
 | d+1,.tuple cs=>HJ (yK d) cs.toList
 | _+1,_=>[]
def A6W:AB->G5
 | .cells cs _ _=>HJ (yK 10) cs
 | .mp _ _ _=>[]
 | .iter vs=>HJ (yK 10) vs
 | .lp _ _ vs _=>HJ (yK 10) vs
 | .dfr _=>[]
 | .sq _ _ _ g _=>[g]
 | .frz=>[]
def FL(n0:Nat)(H:Hp AB):Nat->G5->G5->G5
 | 0,_,acc=>acc
 | _+1,[],acc=>acc
 | f+1,b::r,acc=>bif Nat.blt b n0 || m9 acc b then FL n0 H f r acc else match Hp.get H b with
   | some ab=>FL n0 H f (A6W ab++r) (b::acc)
   | none=>FL n0 H f r acc
def dL(a H:Hp AB):G5->Hp AB
 | []=>H
 | b::r=>Hp.put H b (Hp.get a b) fun H=>dL a H r
def wOf(H:Hp AB):G5->G5
 | []=>[]
 | b::r=>(match Hp.get H b with|some ab=>A6W ab|none=>[])++wOf H r
def mN:G5->G5->G5
 | [],acc=>acc
 | b::r,acc=>bif m9 acc b then mN r acc else mN r (b::acc)
def mE(low:Value->Bool):C9->Bool
 | []=>true
 | v::r=>low v && mE low r
def Z2(n:Nat):Nat->Value->Bool
 | 0,_=>false
 | _+1,.pointer (some a)=>Nat.blt a.block n
 | _+1,.slice (some a) _ _=>Nat.blt a.block n
 | _+1,.map (some b)=>Nat.blt b n
 | d+1,.func _ a b=>mE (Z2 n d) a.toList && mE (Z2 n d) b.toList
 | d+1,.iface _ v=>Z2 n d v
 | d+1,.agg cs=>mE (Z2 n d) cs.toList
 | d+1,.tuple cs=>mE (Z2 n d) cs.toList
 | _+1,.complex _ _ _=>true
 | _+1,v=>H9 v
def A1L(n:Nat):Option AB->Bool
 | none=>true
 | some (.cells cs _ _)=>mE (Z2 n 10) cs
 | some (.mp _ _ _)=>true
 | some (.iter vs)=>mE (Z2 n 10) vs
 | some (.lp _ _ vs _)=>mE (Z2 n 10) vs
 | some (.dfr _)=>true
 | some (.sq _ _ _ g _)=>Nat.blt g n
 | some .frz=>true
def KR(n:Nat)(H:Hp AB):G5->Bool
 | []=>true
 | b::r=>A1L n (Hp.get H b) && KR n H r
def gcM(m m':Mem)(v:Value):Option Mem :=
 let W:=mN (m'.W.filter fun b=>Nat.blt b m.n || Nat.ble m'.hi b) []
 bif Z2 m.n 10 v && KR m.n m'.H W then
  bif DQ W then CZ (dL m'.H m.H W) fun H=>I8 m'.hi fun hi=>Q3 (W++m.W) fun W=>some ⟨H,m.n,W,hi,m'.lg⟩else none
 else
  let ids:=(FL m.n m'.H 100000 (yK 10 v++wOf m'.H W) []).filter fun b=>Nat.ble m.n b && Nat.blt b m'.hi
  bif DQ (W++ids)then CZ (dL m'.H m.H (W++ids)) fun H=>I8 m'.n fun n=>I8 m'.hi fun hi=>Q3 (W++m.W) fun W=>some ⟨H,n,W,hi,m'.lg⟩else none
def A5q(P:Program)(nt:Nat)(s:S):ResultVar->P4
 | .tmp t=>bif Nat.blt t nt then some (s.fr.get t)else none
 | .cell a t=>bif Nat.blt a nt then match s.fr.get a with
   | .pointer (some a)=>NZ P s.m t a
   | _=>none else none
def QU(P:Program)(nt:Nat)(s:S):List ResultVar->Option C9
 | []=>some []
 | r::rs=>match A5q P nt s r,QU P nt s rs with
   | some v,some vs=>some (v::vs)
   | _,_=>none
def QT(fn:Func)(P:Program)(s:S):P4 :=
 match QU P fn.ntmps s fn.results.toList with
 | some [v]=>some v
 | some vs=>some (.tuple ⟨vs⟩)
 | none=>none
def dU(fr:Fr):Nat->C9->Fr
 | _,[]=>fr
 | i,v::r=>tG (sel (i / 64%8)) (sel (i / 8%8)) (sel (i%8)) v fr fun fr=>dU fr (i+1) r
def qZ(l:List UInt8)(c:UInt8):Nat->Int
 | i=>match l with
   | [] => -1
   | b::r=>bif decide (b=c)then(i:Int)else qZ r c (i+1)
def rN(c:UInt8):List UInt8->Nat->Nat
 | [],n=>n
 | b::r,n=>bif decide (b=c)then I8 (n+1) (rN c r)else rN c r n
def nA(k:EK)(args:List Value)(m:Mem):Res :=
 match k,args with
 | .noEscape,[v]=>some (v,m)
 | .indexByteString,[.string s,.int .u8 (.ofNat c)]=>some (.int .i64 (qZ s.data.toList (UInt8.ofNat c) 0),m)
 | .countString,[.string s,.int .u8 (.ofNat c)]=>some (.int .i64 (rN (UInt8.ofNat c) s.data.toList 0),m)
 | .makeNoZero e,[.int .i64 (.ofNat n)]=>bif Nat.ble n 1000000000 then Y1 m (.cells [] e false) fun b=>.slice (some ⟨b,0,none⟩) n M1 else none
 | _,_=>none
def nW:G5->Mem->Option Mem
 | [],m=>some m
 | b::r,m=>match Hp.get m.H b with
   | some (.dfr true)=>match bB m b (.dfr false)with
     | some m=>nW r m
     | none=>none
   | _=>none
def dvG(nt:Nat)(fr:Fr):G5:=bif Nat.ble nt 510 then fS (fr.get 510)else[]
def A5F(fn:Func)(P:Program)(m:Mem)(r:Option (Ex×S)):Res :=
 match r with
 | some (.normal,⟨fr,m1⟩)|some (.ret,⟨fr,m1⟩)=>match nW (dvG fn.ntmps fr) m1 with
   | some m1=>match QT fn P ⟨fr,m1⟩with
     | some v=>match gcM m m1 v with
       | some m=>some (v,m)
       | none=>none
     | none=>none
   | none=>none
 | _=>none
def JU(c:eP)(fr:Fr)(m:Mem):Option (Ex×S) :=
 match m with
 | ⟨H,n,_,hi,lg⟩=>c.run ⟨fr,⟨H,n,[],hi,lg⟩⟩
def xI(fn:Func)(P:Program)(c:eP)(args:List Value)(m:Mem):Res :=
 bif Nat.ble args.length fn.ntmps && Nat.ble fn.ntmps 512 then A5F fn P m (JU c (dU fr0 0 args) m)else none
structure Cx where
 P:Program
 ext:List (FuncId×EK)
 gl:Nat
 con:FuncId->Option FnC
 lp:FuncId->LpT
def AU(C:Cx)(call:O0)(f:FuncId):FnC :=
 match C.P.funcs.toList[f]? with
 | none=>⟨fun _ _=>none⟩
 | some fn=>match C.con f with
   | some c=>c
   | none=>match fn.body with
     | none=>match HU C.ext f with
       | some k=>⟨nA k⟩
       | none=>⟨fun _ _=>none⟩
     | some c=>⟨xI fn C.P (M5 C.P fn.ntmps C.gl call (C.lp f) [] c)⟩
def sJ:List Tmp->C9->Fr->Option Fr
 | [],[],fr=>some fr
 | t::ts,v::vs,fr=>tG (sel (t / 64%8)) (sel (t / 8%8)) (sel (t%8)) v fr fun fr=>sJ ts vs fr
 | _,_,_=>none
def oH(b:Nat)(r:Option (Ex×S)):Res :=
 match r with
 | some (e,⟨_,m⟩)=>match Hp.get m.H b with
   | some (.lp f q vs 1)=>I8 (exN e) fun st=>match bB m b (.lp f q vs st)with
     | some m=>some (.bool (CQ e),m)
     | none=>none
   | _=>none
 | none=>none
def oG(b:Nat)(c:eP)(r:Option (Ex×S)):Res :=
 match r with
 | some (.normal,⟨fr,m⟩)=>match Hp.get m.H b with
   | some (.lp f q vs 0)=>match bB m b (.lp f q vs 1)with
     | some m=>oH b (c.run ⟨fr,m⟩)
     | none=>none
   | _=>none
 | _=>none
def BW(C:Cx)(call:O0):FnC:=⟨fun vs m =>
 match vs with
 | []=>none
 | v::args=>match cW v with
   | none=>none
   | some b=>match Hp.get m.H b with
     | some (.lp f q fs 0)=>match C.P.funcs.toList[f]? with
       | none=>none
       | some fn=>match fn.body with
         | none=>none
         | some body=>match H8 q body with
           | some (.rangeFunc _ ps as bd)=>bif Nat.ble fn.ntmps 510 && ps.toList.all (fun t=>Nat.blt t fn.ntmps)then match sJ ps.toList args (dU fr0 0 fs)with
             | some fr=>tG (sel 7) (sel 7) (sel 7) v fr fun fr=>oG b (M5 C.P fn.ntmps C.gl call (C.lp f) (q++[true]) bd) ((M5 C.P fn.ntmps C.gl call (C.lp f) (q++[false]) as).run ⟨fr,m⟩)
             | none=>none else none
           | _=>none
     | _=>none⟩
def sW(C:Cx):Nat->O0
 | 0=>⟨fun _=>⟨fun _ _=>none⟩,⟨fun _ _=>none⟩⟩
 | d+1=>⟨AU C (sW C d),BW C (sW C d)⟩
end
end Go.Sx
