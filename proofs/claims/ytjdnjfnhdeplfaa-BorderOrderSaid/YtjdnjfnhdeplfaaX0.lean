/- The law BorderOrderSaid: for every input the call returns true, and the arguments read behind it as they read before. No condition. -/
import Derived.WalkKit
import Derived.OrdersHeld
import Derived.KernelRfl
set_option linter.all false
set_option maxRecDepth 100000
set_option maxHeartbeats 4000000
namespace Go
variable {p:Prop}
abbrev dG:=@Array.all_eq_true'
abbrev I1:=@Array.ext'
abbrev B1:=@Array.getD_eq_getD_getElem?
abbrev J3:=@Array.getElem?_append_left
abbrev E4:=@Array.getElem?_eq_getElem
abbrev B7:=@Array.getElem?_eq_some_iff
abbrev F4:=@Array.getElem?_modify
abbrev L2:=@Array.getElem?_push
abbrev T6:=@Array.getElem?_replicate
abbrev m7:=@Array.getElem?_set
abbrev D1:=@Array.getElem?_setIfInBounds
abbrev N6:=@Array.getElem?_toList
abbrev P9:=@Array.length_toList
abbrev dJ:=@Array.mapM_eq_mapM_toList
abbrev Y7:=@Array.mk.injEq
abbrev dF:=@Array.toList_setIfInBounds
abbrev H4:=@Bool.and_eq_true
abbrev eG:=@Bool.and_true
abbrev I0:=@Bool.eq_iff_iff
abbrev G4:=@Bool.false_eq_true
abbrev T5:=@Bool.false_or
abbrev jU:=@Bool.not_false
abbrev O7:=@Bool.not_true
abbrev Y6:=@Bool.or_eq_false_iff
abbrev G0:=@Bool.or_eq_true
abbrev Q9:=@Int.emod_lt_of_pos
abbrev W7:=@Int.emod_nonneg
abbrev hJ:=@Int.ofNat.injEq
abbrev S7:=@Int.ofNat_eq_natCast
abbrev P3:=@Int.toNat_natCast
abbrev bA:=@List.Pairwise.of_map
abbrev eF:=@List.Perm.eq_of_pairwise
abbrev jT:=@List.Perm.refl
abbrev gZ:=@List.all_append
abbrev aJ:=@List.all_cons
abbrev D3:=@List.all_eq_true
abbrev i6:=@List.any_cons
abbrev L1:=@List.any_eq_true
abbrev S4:=@List.append_assoc
abbrev I3:=@List.cons.injEq
abbrev Z2:=@List.cons_append
abbrev N5:=@List.drop_eq_getElem_cons
abbrev V7:=@List.drop_eq_nil_of_le
abbrev U8:=@List.eq_nil_iff_forall_not_mem
abbrev V0:=@List.eq_nil_of_length_eq_zero
abbrev X5:=@List.ext_getElem?
abbrev bM:=@List.filter_eq_self
abbrev N2:=@List.find?_cons
abbrev dY:=@List.flatMap_cons
abbrev gY:=@List.foldl_cons
abbrev B3:=@List.getD_eq_getElem?_getD
abbrev E8:=@List.getElem?_append_left
abbrev D6:=@List.getElem?_append_right
abbrev P2:=@List.getElem?_cons_succ
abbrev P1:=@List.getElem?_cons_zero
abbrev H3:=@List.getElem?_drop
abbrev A3:=@List.getElem?_eq_getElem
abbrev L5:=@List.getElem?_eq_none
abbrev dI:=@List.getElem?_eq_none_iff
abbrev A9:=@List.getElem?_eq_some_iff
abbrev F6:=@List.getElem?_map
abbrev aZ:=@List.getElem?_set_ne
abbrev V6:=@List.getElem?_set_self
abbrev F2:=@List.getElem?_take_of_lt
abbrev I6:=@List.getElem?_toArray
abbrev H6:=@List.getElem_mem
abbrev U1:=@List.getElem_of_mem
abbrev G1:=@List.length_append
abbrev J2:=@List.length_cons
abbrev O2:=@List.length_drop
abbrev D2:=@List.length_eq_zero_iff
abbrev F0:=@List.length_map
abbrev gX:=@List.length_nil
abbrev W6:=@List.length_set
abbrev y0:=@List.length_singleton
abbrev N1:=@List.map_append
abbrev B9:=@List.map_cons
abbrev X4:=@List.map_inj_left
abbrev gL:=@List.map_map
abbrev E5:=@List.map_nil
abbrev U7:=@List.map_toArray
abbrev B4:=@List.mem_append
abbrev A8:=@List.mem_cons
abbrev C5:=@List.mem_cons_of_mem
abbrev B5:=@List.mem_cons_self
abbrev P7:=@List.mem_filter
abbrev I5:=@List.mem_map
abbrev bL:=@List.mem_map_of_mem
abbrev D8:=@List.mem_of_getElem?
abbrev aY:=@List.mem_of_mem_take
abbrev Z3:=@List.mem_or_eq_of_mem_set
abbrev Y5:=@List.mem_range
abbrev F7:=@List.mem_singleton
abbrev Z9:=@List.mergeSort_perm
abbrev P6:=@List.nil_append
abbrev dX:=@List.nodup_append
abbrev gW:=@List.nodup_cons
abbrev jS:=@List.nodup_nil
abbrev C4:=@List.not_mem_nil
abbrev Q8:=@List.pairwise_cons
abbrev p9:=@List.pairwise_mergeSort
abbrev dE:=@List.perm_ext_iff_of_nodup
abbrev i5:=@Nat.add_assoc
abbrev gK:=@Nat.add_comm
abbrev G8:=@Nat.add_mul
abbrev U6:=@Nat.add_sub_cancel_left
abbrev bT:=@Nat.beq_refl
abbrev mF:=@Nat.ble_eq
abbrev C6:=@Nat.ble_eq_true_of_le
abbrev gV:=@Nat.div_add_mod
abbrev A0:=@Nat.eq_of_beq_eq_true
abbrev O1:=@Nat.eq_zero_or_pos
abbrev A1:=@Nat.le_of_ble_eq_true
abbrev A7:=@Nat.le_refl
abbrev Y4:=@Nat.le_succ
abbrev B8:=@Nat.le_trans
abbrev C9:=@Nat.lt_of_lt_of_le
abbrev F5:=@Nat.lt_or_ge
abbrev H9:=@Nat.lt_succ_self
abbrev gJ:=@Nat.mod_lt
abbrev V5:=@Nat.mul_comm
abbrev m6:=@Nat.mul_div_cancel
abbrev jR:=@Nat.mul_le_mul
abbrev E7:=@Nat.mul_le_mul_right
abbrev bI:=@Nat.not_lt_zero
abbrev dW:=@Nat.one_mul
abbrev X3:=@Nat.succ_le_of_lt
abbrev E1:=@Nat.zero_add
abbrev jQ:=@Nat.zero_le
abbrev gI:=@Nat.zero_mul
abbrev C3:=@Option.bind_eq_some_iff
abbrev G2:=@Option.bind_some
abbrev U5:=@Option.getD_some
abbrev gU:=@Option.map_none
abbrev I9:=@Option.map_some
abbrev A5:=@Option.some.inj
abbrev C7:=@Option.some.injEq
abbrev U0:=@Option.some_ne_none
abbrev J1:=@Prod.mk.injEq
abbrev A4:=@Sem.run_bind
abbrev D4:=@cond_false
abbrev D9:=@cond_true
abbrev U4:=@congrArg
abbrev L9:=@decide_eq_false
abbrev Q7:=@decide_eq_true
abbrev B0:=@if_neg
abbrev B2:=@if_pos
abbrev J4:=@of_decide_eq_true
def F8(h:p:=by kernel_rfl):p:=h
def eD{α:Type}{a:Option α}{b c:α}(h:a=some b)(e:b=c:=by kernel_rfl):a=some c:=h.trans (by rw[e])
def A6(h:p:=by omega):p:=h
def K3(h:p:=by decide):p:=h
end Go
namespace Go.Sx
section
open Go
abbrev D0:=List Value
abbrev G6:=List Nat
abbrev O8:=Option Value
abbrev R3:=Array Value
structure N8 (α:Type) where
 c0:α
 c1:α
 c2:α
 c3:α
 c4:α
 c5:α
 c6:α
 c7:α
structure Sel where
 get:{α:Type}->N8 α->α
 upd:{α β:Type}->N8 α->α->(N8 α->β)->β
def sel:Nat->Sel
 | 0=>⟨fun n=>n.c0,fun n v k=>match n with|⟨a0,a1,a2,a3,a4,a5,a6,a7⟩=>k ⟨v,a1,a2,a3,a4,a5,a6,a7⟩⟩
 | 1=>⟨fun n=>n.c1,fun n v k=>match n with|⟨a0,a1,a2,a3,a4,a5,a6,a7⟩=>k ⟨a0,v,a2,a3,a4,a5,a6,a7⟩⟩
 | 2=>⟨fun n=>n.c2,fun n v k=>match n with|⟨a0,a1,a2,a3,a4,a5,a6,a7⟩=>k ⟨a0,a1,v,a3,a4,a5,a6,a7⟩⟩
 | 3=>⟨fun n=>n.c3,fun n v k=>match n with|⟨a0,a1,a2,a3,a4,a5,a6,a7⟩=>k ⟨a0,a1,a2,v,a4,a5,a6,a7⟩⟩
 | 4=>⟨fun n=>n.c4,fun n v k=>match n with|⟨a0,a1,a2,a3,a4,a5,a6,a7⟩=>k ⟨a0,a1,a2,a3,v,a5,a6,a7⟩⟩
 | 5=>⟨fun n=>n.c5,fun n v k=>match n with|⟨a0,a1,a2,a3,a4,a5,a6,a7⟩=>k ⟨a0,a1,a2,a3,a4,v,a6,a7⟩⟩
 | 6=>⟨fun n=>n.c6,fun n v k=>match n with|⟨a0,a1,a2,a3,a4,a5,a6,a7⟩=>k ⟨a0,a1,a2,a3,a4,a5,v,a7⟩⟩
 | _=>⟨fun n=>n.c7,fun n v k=>match n with|⟨a0,a1,a2,a3,a4,a5,a6,a7⟩=>k ⟨a0,a1,a2,a3,a4,a5,a6,v⟩⟩
def mC{α:Type}(v:α):N8 α:=⟨v,v,v,v,v,v,v,v⟩
def AQ{α β:Type}(n:N8 α)(k:N8 α->β):β :=
 match n with
 | ⟨a0,a1,a2,a3,a4,a5,a6,a7⟩=>k ⟨a0,a1,a2,a3,a4,a5,a6,a7⟩
abbrev Fr:=N8 (N8 (N8 Value))
def Fr.get(fr:Fr)(t:Nat):Value:=(sel (t%8)).get ((sel (t / 8%8)).get ((sel (t / 64%8)).get fr))
def rB{β:Type}(a b c:Sel)(v:Value)(fr:Fr)(k:Fr->β):β :=
 c.upd (b.get (a.get fr)) v fun d=>b.upd (a.get fr) d fun e=>a.upd fr e k
def Fr.set(fr:Fr)(t:Nat)(v:Value):Fr:=rB (sel (t / 64%8)) (sel (t / 8%8)) (sel (t%8)) v fr fun fr=>fr
def fr0:Fr:=mC (mC (mC (.tuple #[])))
abbrev Hp(α:Type):=N8 (N8 (N8 (N8 (N8 (N8 (Option α))))))
def Hp.get{α:Type}(h:Hp α)(n:Nat):Option α :=
 (sel (n%8)).get ((sel (n / 8%8)).get ((sel (n / 64%8)).get ((sel (n / 512%8)).get ((sel (n / 4096%8)).get ((sel (n / 32768%8)).get h)))))
def W3{α β:Type}(a b c d e f:Sel)(v:Option α)(h:Hp α)(k:Hp α->β):β :=
 f.upd (e.get (d.get (c.get (b.get (a.get h))))) v fun i=>e.upd (d.get (c.get (b.get (a.get h)))) i fun g=>d.upd (c.get (b.get (a.get h))) g fun l=>c.upd (b.get (a.get h)) l fun j=>b.upd (a.get h) j fun m=>a.upd h m k
def Hp.put{α β:Type}(h:Hp α)(n:Nat)(v:Option α)(k:Hp α->β):β :=
 W3 (sel (n / 32768%8)) (sel (n / 4096%8)) (sel (n / 512%8)) (sel (n / 64%8)) (sel (n / 8%8)) (sel (n%8)) v h k
def Hp.set{α:Type}(h:Hp α)(n:Nat)(v:Option α):Hp α:=h.put n v fun h=>h
def hp0{α:Type}:Hp α:=mC (mC (mC (mC (mC (mC none)))))
def G9:Nat:=262143
def I4{β:Type}(n:Nat)(k:Nat->β):β :=
 match n with
 | 0=>k 0
 | m+1=>k (Nat.succ m)
def uC{β:Type}(i:Int)(k:Int->β):β :=
 match i with
 | .ofNat n=>I4 n fun n=>k (.ofNat n)
 | .negSucc n=>I4 n fun n=>k (.negSucc n)
def P5{α β:Type}:List α->(List α->β)->β
 | [],k=>k []
 | x::r,k=>P5 r fun r=>k (x::r)
def GJ:IntKind->Nat
 | .i8=>127|.i16=>32767|.i32=>2147483647|.i64=>9223372036854775807
 | .u8=>255|.u16=>65535|.u32=>4294967295|.u64=>18446744073709551615
def wH(k:IntKind)(n:Int):Int :=
 match n with
 | .ofNat m=>bif Nat.ble m (GJ k)then .ofNat m else k.wrap (.ofNat m)
 | .negSucc m=>k.wrap (.negSucc m)
def A3s(a b:Int):Int :=
 match a,b with
 | .ofNat m,.ofNat n=>.ofNat (Nat.add m n)
 | a,b=>a+b
def A1D(a b:Int):Int :=
 match a,b with
 | .ofNat m,.ofNat n=>bif Nat.ble n m then .ofNat (Nat.sub m n)else .ofNat m - .ofNat n
 | a,b=>a-b
def A2s(a b:Int):Int :=
 match a,b with
 | .ofNat m,.ofNat n=>.ofNat (Nat.mul m n)
 | a,b=>a*b
def ltF(a b:Int):Bool :=
 match a,b with
 | .ofNat m,.ofNat n=>Nat.blt m n
 | .negSucc _,.ofNat _=>true
 | .ofNat _,.negSucc _=>false
 | .negSucc m,.negSucc n=>Nat.blt n m
def leF(a b:Int):Bool :=
 match a,b with
 | .ofNat m,.ofNat n=>Nat.ble m n
 | .negSucc _,.ofNat _=>true
 | .ofNat _,.negSucc _=>false
 | .negSucc m,.negSucc n=>Nat.ble n m
def vZ(a b:Int):Bool :=
 match a,b with
 | .ofNat m,.ofNat n=>Nat.beq m n
 | .negSucc m,.negSucc n=>Nat.beq m n
 | _,_=>false
def qE:IntKind->IntKind->Bool
 | .i8,.i8|.i16,.i16|.i32,.i32|.i64,.i64|.u8,.u8|.u16,.u16|.u32,.u32|.u64,.u64=>true
 | _,_=>false
def mkI(k:IntKind)(n:Int):Value:=uC n fun n=>.int k n
inductive U where
 | none
 | int (k:IntKind) (n:Int)
 | bool (b:Bool)
 | str (s:List UInt8)
 | seq (nul:Bool) (w:Nat) (rows:List (List U))
inductive LOp where
 | bin (op:BinOp)
 | un (op:UnOp)
 | conv (k:IntKind)
 | len
 | idx
 | sub
 | sub1
 | sel
 | eqs
 | inb
 | max
 | min
 | mks
 | inbs (w:Nat)
 | get (w o:Nat)
 | mk (w:Nat)
 | nilw (w:Nat)
 | nilp
 | snoc (w:Nat)
 | cat (w:Nat)
 | cats
 | set (w o:Nat)
 | subs (w:Nat)
 | str
 | byt
 | rep (w:Nat)
 | ustr
 | mhas (w kw:Nat)
 | mget (w kw o:Nat)
 | mput (w kw:Nat)
 | rune
 | rpos
inductive V4 where
 | lt (i t:Nat) (op:LOp) (xs:List Value)
 | dt (i t:Nat) (op:LOp) (xs:List Value)
 | br (i:Nat) (b:Bool)
 | as (op:LOp) (xs:List Value)
 | con (spec:List U->Option (Nat×List U)) (xs:List Value) (i d n:Nat)
structure Lg where
 nx:Nat
 pi:G6
 log:List V4
def hole(i t:Nat):Value:=.complex .f64 i t
def junk:Value:=.complex .f32 0 0
def ixp(a:Addr)(s:Nat)(i:Value)(n:Nat):Value:=.func (.yield 1) ⟨[.pointer (some a),.int .i64 (.ofNat s),i,.int .i64 (.ofNat n)]⟩ ⟨[]⟩
def dat(b i t:Nat):Value:=.func (.yield 2) ⟨[.pointer (some ⟨b,0,none⟩),.complex .f64 i t]⟩ ⟨[]⟩
def clp(b i t:Nat):Value:=.func (.yield 3) ⟨[.pointer (some ⟨b,0,none⟩),.complex .f64 i t]⟩ ⟨[]⟩
def own(b i t:Nat):Value:=.func (.yield 4) ⟨[.pointer (some ⟨b,0,none⟩),.complex .f64 i t]⟩ ⟨[]⟩
def dpt(b i t:Nat)(z:Value)(o:Nat):Value:=.func (.yield 5) ⟨[.pointer (some ⟨b,0,none⟩),.complex .f64 i t,z,.int .i64 (.ofNat o)]⟩ ⟨[]⟩
def opt(b i t:Nat)(z:Value)(o:Nat):Value:=.func (.yield 6) ⟨[.pointer (some ⟨b,0,none⟩),.complex .f64 i t,z,.int .i64 (.ofNat o)]⟩ ⟨[]⟩
def yv(b:Nat):Value:=.func (.yield 7) ⟨[.pointer (some ⟨b,0,none⟩)]⟩ ⟨[]⟩
def sdt(b:Nat):Value:=.func (.yield 9) ⟨[.pointer (some ⟨b,0,none⟩)]⟩ ⟨[]⟩
def dv(ids:List Nat):Value:=.func (.yield 8) ⟨ids.map fun b=>.pointer (some ⟨b,0,none⟩)⟩ ⟨[]⟩
def SU:Value->Bool
 | .complex .f32 _ _=>true
 | _=>false
def one:Value:=.complex .f32 1 0
def fW:Value->Bool
 | .complex .f32 i _=>!(Nat.beq i 1)
 | _=>false
def eU:IntKind->Nat
 | .i8=>0|.i16=>1|.i32=>2|.i64=>3|.u8=>4|.u16=>5|.u32=>6|.u64=>7
def F9:Value->Nat
 | .int k _=>eU k
 | .bool _=>8
 | .string _=>9
 | .complex .f64 _ t=>t
 | _=>99
inductive AB where
 | cells (cs:List Value) (T:TypeId) (ro:Bool)
 | sq (c t:Nat) (T:TypeId) (g:Nat) (ro:Bool)
 | frz
 | mp (c t:Nat) (T:TypeId)
 | iter (vs:List Value)
 | lp (f:FuncId) (q:List Bool) (vs:List Value) (st:Nat)
 | dfr (b:Bool)
structure Mem where
 H:Hp AB
 n:Nat
 W:G6
 hi:Nat
 lg:Lg
structure S where
 fr:Fr
 m:Mem
inductive Ex where
 | normal
 | exit (id:Nat)
 | ret
def G5:List Bool->Code->Option Code
 | [],c=>some c
 | false::q,.seq a _=>G5 q a
 | true::q,.seq _ b=>G5 q b
 | false::q,.cond _ a _=>G5 q a
 | true::q,.cond _ _ b=>G5 q b
 | false::q,.block _ c=>G5 q c
 | false::q,.scope c=>G5 q c
 | false::q,.loop c=>G5 q c
 | false::q,.rangeFunc _ _ a _=>G5 q a
 | true::q,.rangeFunc _ _ _ b=>G5 q b
 | _::_,_=>none
def L7:Nat:=9223372036854775808
def H8:Value->Bool
 | .bool _|.int _ _|.string _|.pointer none|.slice none _ _|.map none|.nilFunc|.nilIface=>true
 | _=>false
def JT:Value->Bool
 | .agg cs=>cs.toList.all H8
 | v=>H8 v
def ev(fr:Fr):Operand->Value
 | .tmp t=>fr.get t
 | .const v=>v
 | .global g=>.pointer (some ⟨g,0,none⟩)
 | .func f=>.func (.func f) #[] #[]
def okX(nt gl:Nat):Operand->Bool
 | .tmp t=>Nat.blt t nt
 | .const v=>JT v
 | .global g=>Nat.blt g gl
 | .func _=>true
def evL(fr:Fr):List Operand->D0
 | []=>[]
 | x::r=>ev fr x::evL fr r
def evP(fr:Fr):List (Nat×Operand)->List (Nat×Value)
 | []=>[]
 | (i,x)::r=>(i,ev fr x)::evP fr r
def evO(fr:Fr):Option Operand->O8
 | none=>none
 | some x=>some (ev fr x)
structure XC where
 run:Fr->Value
def A4l(a b c:Sel):XC:=⟨fun fr=>c.get (b.get (a.get fr))⟩
def Q2:Operand->XC
 | .tmp t=>A4l (sel (t / 64%8)) (sel (t / 8%8)) (sel (t%8))
 | .const v=>⟨fun _=>v⟩
 | .global g=>⟨fun _=>.pointer (some ⟨g,0,none⟩)⟩
 | .func f=>⟨fun _=>.func (.func f) #[] #[]⟩
def cA(x:Operand)(fr:Fr):(Q2 x).run fr=ev fr x:=by cases x<;>rfl
structure LC where
 run:Fr->D0
def A3E(x:XC)(r:LC)(fr:Fr):D0:=x.run fr::r.run fr
def qV:List Operand->LC
 | []=>⟨fun _=>[]⟩
 | x::r=>⟨fun fr=>A3E (Q2 x) (qV r) fr⟩
def kT(fr:Fr):∀ xs:List Operand,(qV xs).run fr=evL fr xs
 | []=>rfl
 | x::r=>by
   show(Q2 x).run fr::(qV r).run fr=_;rw[cA,kT fr r];rfl
abbrev Res:=Option (Value×Mem)
def upN(hi n:Nat):Nat:=bif Nat.blt n hi then hi else Nat.succ n
def Mem.wLg(m:Mem)(lg:Lg):Mem :=
 match m with
 | ⟨H,n,W,hi,_⟩=>⟨H,n,W,hi,lg⟩
def R4(m:Mem)(t:Nat)(op:LOp)(xs:List Value):Res :=
 match m with
 | ⟨H,n,W,hi,⟨nx,pi,log⟩⟩=>I4 nx fun nx=>I4 t fun t=>P5 xs fun xs=>some (hole nx t,⟨H,n,W,hi,⟨Nat.succ nx,pi,.lt nx t op xs::log⟩⟩)
def rD(m:Mem)(t:Nat)(op:LOp)(xs:List Value)(k:Nat->Mem->Res):Res :=
 match m with
 | ⟨H,n,W,hi,⟨nx,pi,log⟩⟩=>I4 nx fun nx=>I4 t fun t=>P5 xs fun xs=>k nx ⟨H,n,W,hi,⟨Nat.succ nx,pi,.dt nx t op xs::log⟩⟩
def uG:List V4->Nat->Option Bool
 | [],_=>none
 | .br j b::r,i=>bif Nat.beq j i then some b else uG r i
 | _::r,i=>uG r i
def brL(lg:Lg)(c:Value):Option (Bool×Lg) :=
 match c with
 | .bool b=>some (b,lg)
 | .complex .f64 i 8=>match lg with
   | ⟨nx,pi,log⟩=>match uG log i with
     | some b=>some (b,⟨nx,pi,log⟩)
     | none=>match pi with
       | 1::r=>some (true,⟨nx,r,.br i true::log⟩)
       | 0::r=>some (false,⟨nx,r,.br i false::log⟩)
       | _=>none
 | _=>none
def Y0(m:Mem)(ab:AB)(k:Nat->Value):Res :=
 match m with
 | ⟨H,n,W,hi,lg⟩=>bif Nat.ble n G9 then I4 n fun n=>I4 (upN hi n) fun hi=>Hp.put H n (some ab) fun H=>some (k n,⟨H,Nat.succ n,W,hi,lg⟩)else none
def aK(m:Mem)(id:Nat)(ab:AB):Option Mem :=
 match m with
 | ⟨H,n,W,hi,lg⟩=>bif Nat.ble id G9 then Hp.put H id (some ab) fun H=>I4 id fun id=>some ⟨H,n,id::W,hi,lg⟩else none
def gN(m:Mem)(id:Nat):Mem :=
 match m with
 | ⟨H,n,W,hi,lg⟩=>Hp.put H id none fun H=>I4 id fun id=>⟨H,n,id::W,hi,lg⟩
def TV(cs:List Value)(o n:Nat):Option D0 :=
 let r:=(cs.drop o).take n
 bif Nat.beq r.length n then some r else none
def n9(m:Mem)(a:Addr)(n:Nat):Option D0 :=
 match a.spot,Hp.get m.H a.block with
 | none,some (.cells cs _ _)=>TV cs a.off n
 | _,_=>none
def aO:D0->Nat->D0->D0
 | cs,_,[]=>cs
 | cs,k,v::r=>aO (cs.set k v) (k+1) r
def flat:Value->Bool
 | .agg _|.tuple _=>false
 | .complex .f32 i _=>Nat.beq i 1
 | _=>true
def lH(m:Mem)(a:Addr)(vs:List Value):Option Mem :=
 match a.spot,Hp.get m.H a.block with
 | none,some (.cells cs T false) =>
   bif Nat.ble (a.off+vs.length) cs.length && vs.all flat then P5 (aO cs a.off vs) fun cs=>aK m a.block (.cells cs T false)else none
 | _,_=>none
variable (P:Program)
def Z7(t:TypeId):Option Bool :=
 match P.underlying t with
 | some (.struct _)|some (.array _ _)=>some true
 | some _=>some false
 | none=>none
def G3(t:TypeId):Option Nat :=
 match P.info? t with
 | some i=>some i.size
 | none=>none
def dK(t:TypeId):O8 :=
 match P.info? t with
 | some i=>match i.zero with
   | some v=>bif JT v then some v else none
   | none=>none
 | none=>none
def KK(m:Mem)(t:TypeId)(a:Addr):O8 :=
 match Z7 P t with
 | some true=>match G3 P t with
   | some n=>match n9 m a n with
     | some cs=>some (.agg ⟨cs⟩)
     | none=>none
   | none=>none
 | some false=>match n9 m a 1 with
   | some (v::_)=>some v
   | _=>none
 | none=>none
def sS(m:Mem)(t:TypeId)(a:Addr)(v:Value):Option Mem :=
 match G3 P t with
 | some n=>bif Nat.beq v.cells.size n && !(fW v)then lH m a v.cells.toList else none
 | none=>none
def nF(t:TypeId)(cs:List Value)(off:Nat):O8 :=
 match Z7 P t with
 | some true=>match G3 P t with
   | some n=>match TV cs off n with
     | some r=>some (.agg ⟨r⟩)
     | none=>none
   | none=>none
 | some false=>cs[off]?
 | none=>none
def ZO(e:TypeId)(s i:Nat):Field:={ name := "x",type:=e,offset:=i*s,embedded:=false,tag := "",pkgPath := "",byteOffset:=0 }
mutual
def eqM:Nat->TypeId->Value->Value->Option Bool
 | 0,_,_,_=>none
 | d+1,t,x,y=>match P.underlying t,x,y with
   | some .bool,.bool a,.bool b=>some (a == b)
   | some (.int _),.int k a,.int j b=>bif decide (k=j)then some (a == b)else none
   | some .string,.string a,.string b=>some (a.data.toList == b.data.toList)
   | some (.pointer _),.pointer none,.pointer b=>some b.isNone
   | some (.pointer _),.pointer (some _),.pointer none=>some false
   | some (.interface _),.nilIface,.nilIface=>some true
   | some (.interface _),.nilIface,.iface _ _=>some false
   | some (.interface _),.iface _ _,.nilIface=>some false
   | some (.interface _),.iface tx vx,.iface ty vy=>bif Nat.beq tx ty then(match P.info? tx with
     | some i=>bif i.comparable then eqM d tx vx vy else none
     | none=>none)else some false
   | some (.slice _),.slice none _ _,.slice b _ _=>some b.isNone
   | some (.slice _),.slice (some _) _ _,.slice none _ _=>some false
   | some (.map _ _),.map none,.map b=>some b.isNone
   | some (.func _ _ _),.nilFunc,.nilFunc=>some true
   | some (.func _ _ _),.nilFunc,.func (.func _) _ _=>some false
   | some (.func _ _ _),.func (.func _) _ _,.nilFunc=>some false
   | some (.struct fs),.agg xs,.agg ys=>bif P.stoodInHeld t then none else eqF d fs.toList xs.toList ys.toList
   | some (.array n e),.agg xs,.agg ys=>match G3 P e with
     | some s=>eqF d ((List.range n).map (ZO e s)) xs.toList ys.toList
     | none=>none
   | _,_,_=>none
def eqF:Nat->List Field->D0->D0->Option Bool
 | 0,_,_,_=>none
 | _+1,[],_,_=>some true
 | d+1,f::fs,xs,ys =>
   bif f.name == "_" then none else
   match nF P f.type xs f.offset,nF P f.type ys f.offset with
   | some x,some y=>match eqM d f.type x y with
     | some true=>eqF d fs xs ys
     | some false=>some false
     | none=>none
   | _,_=>none
end
def isC:Operand->Bool
 | .const _=>true
 | _=>false
def iY(t:TypeId)(x y:Operand)(a b:Value):Bool :=
 match a,b with
 | .nilIface,.nilIface=>isC x || isC y
 | .agg _,.agg _=>!P.eqGuardType P.depth t
 | a,b=>!(SU a) && !(SU b)
def MB(op:BinOp)(k:IntKind)(x y:Int):O8 :=
 match op with
 | .and=>some (.int k (k.wrap (BitVec.ofInt k.bits x &&& BitVec.ofInt k.bits y).toNat))
 | .or=>some (.int k (k.wrap (BitVec.ofInt k.bits x ||| BitVec.ofInt k.bits y).toNat))
 | .xor=>some (.int k (k.wrap (BitVec.ofInt k.bits x ^^^ BitVec.ofInt k.bits y).toNat))
 | .andNot=>some (.int k (k.wrap (BitVec.ofInt k.bits x &&& ~~~BitVec.ofInt k.bits y).toNat))
 | _=>none
def ltL:List UInt8->List UInt8->Bool
 | _,[]=>false
 | [],_::_=>true
 | a::x,b::y=>a<b || (a == b && ltL x y)
def pH(op:BinOp)(k:IntKind)(a b:Int):O8 :=
 match op with
 | .add=>some (mkI k (wH k (A3s a b)))
 | .sub=>some (mkI k (wH k (A1D a b)))
 | .mul=>some (mkI k (wH k (A2s a b)))
 | .quo=>bif vZ b 0 then none else some (mkI k (k.wrap (a.tdiv b)))
 | .rem=>bif vZ b 0 then none else some (mkI k (a.tmod b))
 | .eql=>some (.bool (vZ a b))
 | .neq=>some (.bool (!(vZ a b)))
 | .lss=>some (.bool (ltF a b))
 | .leq=>some (.bool (leF a b))
 | .gtr=>some (.bool (ltF b a))
 | .geq=>some (.bool (leF b a))
 | op=>MB op k a b
def PU(left:Bool)(k:IntKind)(a:Int)(b:Nat):Value :=
 bif left then mkI k (k.wrap (a*2 ^ (min b k.bits)))else mkI k (a.fdiv (2 ^ (min b k.bits)))
def WY(op:BinOp)(a b:ByteArray):O8 :=
 match op with
 | .add=>bif Nat.ble (a.size+b.size) 1000000000 then P5 (a.data.toList++b.data.toList) fun l=>some (.string ⟨⟨l⟩⟩)else none
 | .eql=>some (.bool (a.data.toList == b.data.toList))
 | .neq=>some (.bool (!(a.data.toList == b.data.toList)))
 | .lss=>some (.bool (ltL a.data.toList b.data.toList))
 | .leq=>some (.bool (ltL a.data.toList b.data.toList || (a.data.toList == b.data.toList)))
 | .gtr=>some (.bool (!(ltL a.data.toList b.data.toList || (a.data.toList == b.data.toList))))
 | .geq=>some (.bool (!(ltL a.data.toList b.data.toList)))
 | _=>none
def xB(op:BinOp)(t:TypeId)(x y:Value):O8 :=
 match op with
 | .eql=>match eqM P 20 t x y with
   | some b=>some (.bool b)
   | none=>none
 | .neq=>match eqM P 20 t x y with
   | some b=>some (.bool (!b))
   | none=>none
 | _=>none
def nO:BinOp->Option Bool
 | .shl=>some true
 | .shr=>some false
 | _=>none
def eV(op:BinOp)(k j:IntKind)(a b:Int):O8 :=
 match nO op with
 | some l=>match b with
   | .ofNat n=>some (PU l k a n)
   | .negSucc _=>none
 | none=>bif qE k j then pH op k a b else none
def oI(op:BinOp)(t:TypeId)(x y:Value):O8 :=
 match x,y with
 | .int k a,.int j b=>eV op k j a b
 | .string a,.string b=>WY op a b
 | x,y=>xB P op t x y
def unM(op:UnOp)(x:Value):O8 :=
 match op,x with
 | .neg,.int k n=>some (mkI k (k.wrap (0-n)))
 | .xor,.int k n=>MB .xor k (if k.signed then -1 else k.max) n
 | .not,.bool b=>some (.bool !b)
 | _,_=>none
def bytesOf:D0->Option (List UInt8)
 | []=>some []
 | .int .u8 n::r=>match bytesOf r with
   | some l=>some (UInt8.ofNat n.toNat::l)
   | none=>none
 | _::_=>none
def N3(l:List UInt8):D0:=l.map fun b=>.int .u8 b.toNat
def yH(m:Mem)(s t:TypeId)(x:Value):Res :=
 match P.underlying s,P.underlying t,x with
 | some _,some (.int k),.int _ n=>some (mkI k (wH k n),m)
 | some _,some .string,.string b=>some (.string b,m)
 | some _,some .string,.int _ n=>some (.string (Utf8.encode n),m)
 | some _,some (.slice e),.string b=>match P.underlying e with
   | some (.int .u8)=>match G3 P e with
     | some 1=>P5 (N3 b.data.toList) fun cs=>Y0 m (.cells cs e false) fun i=>.slice (some ⟨i,0,none⟩) b.size L7
     | _=>none
   | _=>none
 | some (.slice e),some .string,.slice none _ _=>match P.underlying e with
   | some (.int .u8)=>some (.string ByteArray.empty,m)
   | _=>none
 | some (.slice e),some .string,.slice (some a) n _=>match P.underlying e with
   | some (.int .u8)=>match n9 m a n with
     | some cs=>match bytesOf cs with
       | some l=>some (.string ⟨⟨l⟩⟩,m)
       | none=>none
     | none=>none
   | _=>none
 | _,_,_=>none
def uH(place:Nat->Option (Nat×Nat))(cells:List Value):List (Nat×Value)->Option D0
 | []=>some cells
 | (i,v)::rest=>match place i with
   | none=>none
   | some (off,size) =>
     bif (Nat.beq v.cells.size size && !(fW v)) && Nat.ble (off+v.cells.size) cells.length then P5 (aO cells off v.cells.toList) fun cs=>uH place cs rest else none
def nE:List Field->Option (List (Nat×Nat))
 | []=>some []
 | f::r=>match G3 P f.type,nE r with
   | some n,some l=>some ((f.offset,n)::l)
   | _,_=>none
def CY(z:List Value):Nat->D0
 | 0=>[]
 | n+1=>z++CY z n
def zD(e:TypeId)(n:Nat):Option D0 :=
 match G3 P e with
 | some s=>bif Nat.beq (n*s) 0 then some []else match dK P e with
   | some z=>bif Nat.beq z.cells.size s then some (CY z.cells.toList n)else none
   | none=>none
 | none=>none
def IN(t:TypeId)(parts:List (Nat×Value)):O8 :=
 match dK P t,P.underlying t with
 | some z,some (.struct fs)=>match nE P fs.toList with
   | some ps=>match uH (ps[·]?) z.cells.toList parts with
     | some cs=>some (.agg ⟨cs⟩)
     | none=>none
   | none=>none
 | some z,some (.array _ e)=>match G3 P e with
   | some s=>match uH (fun i=>some (i*s,s)) z.cells.toList parts with
     | some cs=>some (.agg ⟨cs⟩)
     | none=>none
   | none=>none
 | _,_=>none
def aW(m:Mem)(t:TypeId)(n:Nat)(parts:List (Nat×Value)):Res :=
 match P.underlying t with
 | some (.slice e)=>match G3 P e,zD P e n with
   | some s,some zs=>bif Nat.ble (n*s) 16777216 && Nat.blt n L7 then match uH (fun i=>some (i*s,s)) zs parts with
     | some cs=>Y0 m (.cells cs e false) fun i=>.slice (some ⟨i,0,none⟩) n n
     | none=>none else none
   | _,_=>none
 | _=>none
def cP(m:Mem)(t:TypeId)(l c:Value):Res :=
 match P.underlying t,l,c with
 | some (.slice e),.int _ (.ofNat l),.int _ (.ofNat c)=>match P.info? e with
   | some i=>bif Nat.ble l c && Nat.ble c 10000000 && Nat.ble (c*i.bytes) 100000000 then match zD P e c with
     | some a=>P5 a fun a=>Y0 m (.cells a e false) fun k=>.slice (some ⟨k,0,none⟩) l c
     | none=>none else none
   | none=>none
 | _,_,_=>none
def y5(a:Addr)(n:Nat):Addr:=I4 (a.off+n) fun o=>⟨a.block,o,none⟩
def aU(s:TypeId)(x:Value)(i:Nat):O8 :=
 match P.underlying s,x with
 | some (.struct fs),.pointer (some a)=>match fs.toList[i]?,a.spot with
   | some f,none=>match G3 P f.type with
     | some (_+1)=>some (.pointer (some (y5 a f.offset)))
     | _=>none
   | _,_=>none
 | _,_=>none
def AT(t:TypeId)(x:Value)(i:Nat):O8 :=
 match P.underlying t,x with
 | some (.struct fs),.agg cs=>match fs.toList[i]? with
   | some f=>nF P f.type cs.toList f.offset
   | none=>none
 | _,_=>none
def V9(t:TypeId)(x i:Value):O8 :=
 match P.underlying t,x,i with
 | some (.array n e),.pointer (some a),.int _ (.ofNat k)=>match G3 P e,a.spot with
   | some s,none=>bif Nat.blt k n then some (.pointer (some (y5 a (k*s))))else none
   | _,_=>none
 | some (.slice e),.slice (some a) n _,.int _ (.ofNat k)=>match G3 P e,a.spot with
   | some s,none=>bif Nat.blt k n then some (.pointer (some (y5 a (k*s))))else none
   | _,_=>none
 | _,_,_=>none
def iW(t:TypeId)(x i:Value):O8 :=
 match P.underlying t,x,i with
 | some (.array n e),.agg cs,.int _ (.ofNat k)=>match G3 P e with
   | some s=>bif Nat.blt k n then nF P e cs.toList (k*s)else none
   | none=>none
 | some .string,.string s,.int _ (.ofNat k)=>match s.data.toList[k]? with
   | some b=>some (.int .u8 b.toNat)
   | none=>none
 | _,_,_=>none
def R5(v:Option Value)(G9 a:Nat):Option Nat :=
 match v with
 | none=>some a
 | some (.int _ (.ofNat k))=>bif Nat.ble k G9 then some k else none
 | some _=>none
def bD(t:TypeId)(x:Value)(b hi mx:Option Value):O8 :=
 match P.underlying t,x with
 | some .string,.string s =>
   match mx,R5 hi s.size s.size with
   | none,some h=>match R5 b h 0 with
     | some l=>some (.string ⟨⟨(s.data.toList.drop l).take (h-l)⟩⟩)
     | none=>none
   | _,_=>none
 | some (.slice e),.slice none n c =>
   match n,c,R5 mx 0 0,R5 hi 0 0,R5 b 0 0 with
   | 0,0,some _,some _,some _=>bif (mx.isSome && hi.isNone) || (G3 P e).isNone then none else some (.slice none 0 0)
   | _,_,_,_,_=>none
 | some (.slice e),.slice (some a) n c =>
   match G3 P e,a.spot with
   | some s,none =>
     bif Nat.blt c L7 then
      match R5 mx c c with
      | some m=>match (match hi,mx with|none,some _=>none|hi,_=>R5 hi m n)with
        | some h=>match R5 b h 0 with
          | some l=>some (.slice (some (bif Nat.beq m l then a else y5 a (l*s))) (h-l) (m-l))
          | none=>none
        | none=>none
      | none=>none
     else
      match mx with
      | some _=>match hi,R5 mx n n with
        | some _,some m=>bif Nat.blt m L7 && Nat.ble c (L7+1)then match R5 hi m n with
          | some h=>match R5 b h 0 with
            | some l=>some (.slice (some (bif Nat.beq m l then a else y5 a (l*s))) (h-l) (m-l))
            | none=>none
          | none=>none else none
        | _,_=>none
      | none=>match R5 hi n n with
        | some h=>match R5 b h 0 with
          | some 0=>some (.slice (some a) h c)
          | some (l+1)=>let l:=l+1
            bif Nat.blt l n then some (.slice (some (y5 a (l*s))) (h-l) (L7+1))else some (.slice (some a) 0 (L7+2))
          | none=>none
        | none=>none
   | _,_=>none
 | some (.array n e),.pointer (some a) =>
   match G3 P e,a.spot,mx with
   | some s,none,none=>match R5 hi n n with
     | some h=>match R5 b h 0 with
       | some l=>bif Nat.blt n L7 then some (.slice (some (bif Nat.beq n l then a else y5 a (l*s))) (h-l) (n-l))else none
       | none=>none
     | none=>none
   | _,_,_=>none
 | _,_=>none
def cN(m:Mem)(s:Nat)(y:Value):Option (Nat×List Value) :=
 match y with
 | .slice none n _=>bif Nat.beq n 0 then some (0,[])else none
 | .slice (some a) n _=>match n9 m a (n*s)with
   | some cs=>some (n,cs)
   | none=>none
 | .string b=>bif Nat.beq s 1 then some (b.size,N3 b.data.toList)else none
 | _=>none
def bF:TypeDesc->Bool
 | .slice _|.string=>true
 | _=>false
def oK(m:Mem)(t t2:TypeId)(x y:Value):Res :=
 match P.underlying t,P.underlying t2 with
 | some (.slice e),some d2 =>
   bif !(bF d2)then none else
   match P.info? e,x with
   | some i,.slice a n c=>match cN m i.size y,dK P e with
     | some (k,new),some z =>
       bif Nat.ble ((3*(n+k)+4000)*i.bytes) 281474976710656 && Nat.ble (n+k) 1000000000 && Nat.beq z.cells.size i.size && new.all flat then
       bif Nat.beq k 0 then(match a with|none=>bif Nat.beq n 0 && Nat.beq c 0 then some (x,m)else none|some _=>bif Nat.ble c (L7+1) && Nat.ble n c then some (x,m)else none)else
       match a with
       | none=>bif Nat.beq n 0 && Nat.beq c 0 then P5 new fun cs=>Y0 m (.cells cs e false) fun b=>.slice (some ⟨b,0,none⟩) k L7 else none
       | some d =>
         bif Nat.blt c L7 then
          bif Nat.ble (n+k) c then
           match d.spot,lH m (y5 d (n*i.size)) new with
           | none,some m'=>some (.slice a (n+k) c,m')
           | _,_=>none
          else match n9 m d (n*i.size)with
           | some old=>P5 (old++new) fun cs=>Y0 m (.cells cs e false) fun b=>.slice (some ⟨b,0,none⟩) (n+k) L7
           | none=>none
         else bif Nat.beq c L7 && Nat.beq d.off 0 then
          match d.spot,Hp.get m.H d.block with
          | none,some (.cells cs T false) =>
            bif Nat.beq cs.length (n*i.size) && Nat.beq T e && Nat.ble d.block G9 && Nat.blt d.block m.n then
             P5 (cs++new) fun cs=>Y0 (gN m d.block) (.cells cs e false) fun b=>.slice (some ⟨b,0,none⟩) (n+k) L7
            else none
          | _,_=>none
         else none
       else none
     | _,_=>none
   | _,_=>none
 | _,_=>none
def FJ(m:Mem)(t:TypeId)(x y:Value):Res :=
 match P.underlying t,x with
 | some (.slice e),.slice a n c=>match G3 P e with
   | some s =>
     match (match y with
      | .slice none k _=>bif Nat.beq k 0 then some (0,[])else none
      | .slice (some b) k _=>match n9 m b (Nat.min k n*s)with
        | some cs=>some (Nat.min k n,cs)
        | none=>none
      | .string b=>some (Nat.min b.size n,N3 (b.data.toList.take (Nat.min b.size n)))
      | _=>none:Option (Nat×List Value))with
     | some (k,cs)=>match a with
       | none=>bif Nat.beq k 0 then some (.int .i64 0,m)else none
       | some d=>bif Nat.beq cs.length 0 then some (.int .i64 k,m)else bif Nat.ble c (L7+1)then match lH m d cs with
         | some m'=>some (.int .i64 k,m')
         | none=>none else none
     | none=>none
   | none=>none
 | _,_=>none
def SI(m:Mem)(t:TypeId)(x:Value):O8 :=
 match P.underlying t,x with
 | some .string,.string s=>some (.int .i64 s.data.toList.length)
 | some (.array n _),_=>some (.int .i64 n)
 | some (.slice _),.slice _ n _=>some (.int .i64 n)
 | some (.map _ _),.map none=>some (.int .i64 0)
 | _,_=>none
def A19(t:TypeId)(x:Value):O8 :=
 match P.underlying t,x with
 | some (.slice _),.slice none _ c=>some (.int .i64 c)
 | some (.slice _),.slice (some a) n c=>bif Nat.blt c L7 then some (.int .i64 c)else none
 | _,_=>none
def A1e:D0->O8
 | [.int k a,.int _ b]=>some (.int k (if b>a then b else a))
 | [.int k a,.int _ b,.int _ c]=>uC (if b>a then b else a) fun d=>some (.int k (if c>d then c else d))
 | _=>none
def A1c:D0->O8
 | [.int k a,.int _ b]=>some (.int k (if b<a then b else a))
 | [.int k a,.int _ b,.int _ c]=>uC (if b<a then b else a) fun d=>some (.int k (if c<d then c else d))
 | _=>none
def noM(v:Option Value)(m:Mem):Res :=
 match v with
 | some v=>some (v,m)
 | none=>none
def HU(m:Option Mem):Res :=
 match m with
 | some m=>some (undef,m)
 | none=>none
def JW(m:Mem)(c a b:Value):Res :=
 match c with
 | .bool true=>some (a,m)
 | .bool false=>some (b,m)
 | _=>none
def AC(m:Mem)(e:TypeId):Res :=
 match dK P e with
 | some z=>Y0 m (.cells z.cells.toList e false) fun b=>.pointer (some ⟨b,0,none⟩)
 | none=>none
def RR(m:Mem)(e:TypeId)(v:Value):Res :=
 bif v.cells.toList.all flat then Y0 m (.cells v.cells.toList e false) fun b=>.pointer (some ⟨b,0,none⟩)else none
def JX(m:Mem)(t:TypeId)(v:Value):Res :=
 match v with
 | .pointer (some a)=>noM (KK P m t a) m
 | _=>none
def zZ(m:Mem)(t:TypeId)(x v:Value):Res :=
 match x with
 | .pointer (some a)=>HU (sS P m t a v)
 | _=>none
def RQ(m:Mem)(x:Value):Res :=
 match x with
 | .pointer (some a)=>some (.pointer (some a),m)
 | .func (.func f) a b=>some (.func (.func f) a b,m)
 | _=>none
def uA:BinOp->Bool
 | .eql|.neq=>true
 | _=>false
def XO(m:Mem)(op:BinOp)(t:TypeId)(x y:Operand)(a b:Value):Res :=
 bif uA op then(bif iY P t x y a b then noM (oI P op t a b) m else none)else noM (oI P op t a b) m
def AA(m:Mem)(t:TypeId)(v:Value):Res :=
 match P.underlying t with
 | some d=>(match d with|.interface _=>none|_=>bif flat v || (match v with|.agg _=>true|_=>false)then some (.iface t v,m)else none)
 | none=>none
def iN(m:Mem)(v:Value)(i:Nat):Res :=
 match v with
 | .tuple vs=>noM vs.toList[i]? m
 | _=>none
def fF(m:Mem)(x:Value):Res :=
 match x with
 | .slice none _ _=>some (.pointer none,m)
 | .slice (some a) n c=>bif Nat.beq n 0 || Nat.beq c 0 || Nat.beq c (L7+2)then none else some (.pointer (some a),m)
 | _=>none
def cE(m:Mem)(b:TypeId)(p l:Value):Res :=
 match p,l with
 | .pointer none,.int _ (.ofNat 0)=>some (.string ByteArray.empty,m)
 | .pointer (some a),.int _ (.ofNat n) =>
   match a.spot,Hp.get m.H a.block with
   | none,some (.cells cs T false)=>match P.underlying b,G3 P T with
     | some (.pointer e),some 1=>bif Nat.blt 0 n && Nat.ble n 1000000000 && Nat.beq e T then match TV cs a.off n with
       | some l=>match bytesOf l,aK m a.block (.cells cs T true)with
         | some l,some m'=>some (.string ⟨⟨l⟩⟩,m')
         | _,_=>none
       | none=>none else none
     | _,_=>none
   | _,_=>none
 | _,_=>none
def fB(m:Mem)(b:Builtin)(vs:List Value)(tys:List TypeId):Res :=
 match b,vs,tys with
 | .len,[x],t::_=>noM (SI P m t x) m
 | .cap,[x],t::_=>noM (A19 P t x) m
 | .append,[x,y],t::t2::_=>oK P m t t2 x y
 | .copy,[x,y],t::_=>FJ P m t x y
 | .max,vs,_=>noM (A1e vs) m
 | .min,vs,_=>noM (A1c vs) m
 | .unsafeSliceData,[x],_=>fF m x
 | .unsafeString,[p,l],t::_=>cE P m t p l
 | _,_,_=>none
def opM(fr:Fr)(m:Mem)(o:Op):Res :=
 match o with
 | .move x|.assign x=>some (ev fr x,m)
 | .pick c a b=>JW m (ev fr c) (ev fr a) (ev fr b)
 | .alloc e=>AC P m e
 | .box e x=>RR m e (ev fr x)
 | .build t ps=>noM (IN P t (evP fr ps.toList)) m
 | .buildSlice t n ps=>aW P m t n (evP fr ps.toList)
 | .load t x=>JX P m t (ev fr x)
 | .store t x y=>zZ P m t (ev fr x) (ev fr y)
 | .nilCheck x=>RQ m (ev fr x)
 | .binOp op t x y _=>XO P m op t x y (ev fr x) (ev fr y)
 | .unOp op _ x=>noM (unM op (ev fr x)) m
 | .convert s t x=>yH P m s t (ev fr x)
 | .makeInterface t x=>AA P m t (ev fr x)
 | .makeFunc (.func f) first cap=>some (.func (.func f) ⟨evL fr first.toList⟩ ⟨evL fr cap.toList⟩,m)
 | .makeSlice t l c=>cP P m t (ev fr l) (ev fr c)
 | .slice t x d hi mx=>noM (bD P t (ev fr x) (evO fr d) (evO fr hi) (evO fr mx)) m
 | .fieldAddr s x i=>noM (aU P s (ev fr x) i) m
 | .field t x i=>noM (AT P t (ev fr x) i) m
 | .indexAddr t x i=>noM (V9 P t (ev fr x) (ev fr i)) m
 | .index t x i=>noM (iW P t (ev fr x) (ev fr i)) m
 | .extract x i=>iN m (ev fr x) i
 | .call ⟨.builtin b,xs,tys⟩=>fB P m b (evL fr xs.toList) tys.toList
 | _=>none
structure OpC where
 run:Fr->Mem->Res
def SP(x:XC)(fr:Fr)(m:Mem):Res:=some (x.run fr,m)
def A0J(c a b:XC)(fr:Fr)(m:Mem):Res:=JW m (c.run fr) (a.run fr) (b.run fr)
def A23(e:TypeId)(x:XC)(fr:Fr)(m:Mem):Res:=RR m e (x.run fr)
def A0K(t:TypeId)(x:XC)(fr:Fr)(m:Mem):Res:=JX P m t (x.run fr)
def SO(t:TypeId)(x y:XC)(fr:Fr)(m:Mem):Res:=zZ P m t (x.run fr) (y.run fr)
def A21(x:XC)(fr:Fr)(m:Mem):Res:=RQ m (x.run fr)
def A24(op:BinOp)(t:TypeId)(x y:Operand)(cx a:XC)(fr:Fr)(m:Mem):Res:=XO P m op t x y (cx.run fr) (a.run fr)
def kUn(op:UnOp)(x:XC)(fr:Fr)(m:Mem):Res:=noM (unM op (x.run fr)) m
def A0L(s t:TypeId)(x:XC)(fr:Fr)(m:Mem):Res:=yH P m s t (x.run fr)
def tV(s:TypeId)(x:XC)(i:Nat)(fr:Fr)(m:Mem):Res:=noM (aU P s (x.run fr) i) m
def SR(s:TypeId)(x:XC)(i:Nat)(fr:Fr)(m:Mem):Res:=noM (AT P s (x.run fr) i) m
def tU(t:TypeId)(x i:XC)(fr:Fr)(m:Mem):Res:=noM (V9 P t (x.run fr) (i.run fr)) m
def SQ(t:TypeId)(x i:XC)(fr:Fr)(m:Mem):Res:=noM (iW P t (x.run fr) (i.run fr)) m
def EH(x:XC)(i:Nat)(fr:Fr)(m:Mem):Res:=iN m (x.run fr) i
def EI(b:Builtin)(xs:LC)(tys:List TypeId)(fr:Fr)(m:Mem):Res:=fB P m b (xs.run fr) tys
def uQ(o:Op):OpC :=
 match o with
 | .move x=>⟨SP (Q2 x)⟩
 | .assign x=>⟨SP (Q2 x)⟩
 | .pick c a b=>⟨A0J (Q2 c) (Q2 a) (Q2 b)⟩
 | .box e x=>⟨A23 e (Q2 x)⟩
 | .load t x=>⟨A0K P t (Q2 x)⟩
 | .store t x y=>⟨SO P t (Q2 x) (Q2 y)⟩
 | .nilCheck x=>⟨A21 (Q2 x)⟩
 | .binOp op t x y _=>⟨A24 P op t x y (Q2 x) (Q2 y)⟩
 | .unOp op _ x=>⟨kUn op (Q2 x)⟩
 | .convert s t x=>⟨A0L P s t (Q2 x)⟩
 | .fieldAddr s x i=>⟨tV P s (Q2 x) i⟩
 | .field t x i=>⟨SR P t (Q2 x) i⟩
 | .indexAddr t x i=>⟨tU P t (Q2 x) (Q2 i)⟩
 | .index t x i=>⟨SQ P t (Q2 x) (Q2 i)⟩
 | .extract x i=>⟨EH (Q2 x) i⟩
 | .call ⟨.builtin b,xs,tys⟩=>⟨EI P b (qV xs.toList) tys.toList⟩
 | o=>⟨fun fr m=>opM P fr m o⟩
def uP(o:Op)(fr:Fr)(m:Mem):(uQ P o).run fr m=opM P fr m o:=by
 unfold uQ;split<;>simp only[SP,A0J,A23,A0K,SO,A21,A24,kUn,A0L,tV,SR,tU,SQ,EH,EI,opM,cA,kT]
def HO(nt gl:Nat)(o:Op):Bool:=o.operands.toList.all (okX nt gl)
end
section
open Go
def A25:BinOp->Bool
 | .eql|.neq|.lss|.leq|.gtr|.geq=>true
 | _=>false
def lK(P:Program)(m:Mem)(op:BinOp)(t:TypeId)(a b:Value):Res :=
 let c:=F9 a
 let d:=F9 b
 bif (Nat.blt c 8 && Nat.blt d 8) || (Nat.beq c 9 && Nat.beq d 9)then R4 m (bif A25 op then 8 else c) (.bin op) [a,b]else
 bif Nat.beq c 8 && Nat.beq d 8 && uA op && (match P.underlying t with|some .bool=>true|_=>false)then R4 m 8 (.bin op) [a,b]else none
def cT(P:Program)(t:TypeId)(x y:Value):Bool :=
 match P.underlying t with
 | some .bool=>Nat.beq (F9 x) 8 && Nat.beq (F9 y) 8
 | some (.int k)=>Nat.beq (F9 x) (eU k) && Nat.beq (F9 y) (eU k)
 | some .string=>Nat.beq (F9 x) 9 && Nat.beq (F9 y) 9
 | _=>false
mutual
def eqS(P:Program):Nat->TypeId->Value->Value->Option D0
 | 0,_,_,_=>none
 | d+1,t,x,y=>bif cT P t x y then some [x,y]else
   match P.underlying t,x,y with
   | some (.struct fs),.agg xs,.agg ys=>bif P.stoodInHeld t then none else uK P d fs.toList xs.toList ys.toList
   | some (.array n e),.agg xs,.agg ys=>match G3 P e with
     | some s=>uK P d ((List.range n).map (ZO e s)) xs.toList ys.toList
     | none=>none
   | _,_,_=>none
def uK(P:Program):Nat->List Field->D0->D0->Option D0
 | 0,_,_,_=>none
 | _+1,[],_,_=>some []
 | d+1,f::fs,xs,ys =>
   bif f.name == "_" then none else
   match nF P f.type xs f.offset,nF P f.type ys f.offset with
   | some x,some y=>match eqS P d f.type x y,uK P d fs xs ys with
     | some a,some b=>some (a++b)
     | _,_=>none
   | _,_=>none
end
def CK(P:Program)(m:Mem)(op:BinOp)(t:TypeId)(x y:Operand)(a b:Value):Res :=
 bif iY P t x y a b then
  match op,eqS P 20 t a b with
  | .eql,some l=>R4 m 8 .eqs l
  | .neq,some l=>match R4 m 8 .eqs l with
    | some (h,m)=>R4 m 8 (.un .not) [h]
    | none=>none
  | _,_=>none
 else none
def d7(t:Nat):D0->Bool
 | []=>true
 | v::r=>Nat.beq (F9 v) t && d7 t r
def c9.sizeD(P:Program)(e:TypeId):Nat:=match G3 P e with|some n=>n|none=>0
def c9(P:Program)(m:Mem)(t:TypeId)(x i:Value):Res :=
 bif !(Nat.blt (F9 i) 8)then none else
 match P.underlying t with
 | some .string=>bif Nat.beq (F9 x) 9 then R4 m 4 .idx [x,i]else none
 | some (.array n e)=>match x,P.underlying e with
   | .agg cs,some (.int k)=>bif Nat.beq (cs.toList.length) n && d7 (eU k) cs.toList && Nat.beq (c9.sizeD P e) 1 then R4 m (eU k) .sel (i::cs.toList)else none
   | .agg cs,some .string=>bif Nat.beq (cs.toList.length) n && d7 9 cs.toList && Nat.beq (c9.sizeD P e) 1 then R4 m 9 .sel (i::cs.toList)else none
   | _,_=>none
 | _=>none
def iB(P:Program)(m:Mem)(t:TypeId)(x:Value)(a hi mx:Option Value):Res :=
 match P.underlying t,mx with
 | some .string,none=>bif Nat.beq (F9 x) 9 then
    match a,hi with
    | none,none=>some (x,m)
    | some l,none=>bif Nat.blt (F9 l) 8 then R4 m 9 .sub1 [x,l]else none
    | none,some h=>bif Nat.blt (F9 h) 8 then R4 m 9 .sub [x,.int .i64 0,h]else none
    | some l,some h=>bif Nat.blt (F9 l) 8 && Nat.blt (F9 h) 8 then R4 m 9 .sub [x,l,h]else none
   else none
 | _,_=>none
def CF(m:Mem)(op:UnOp)(x:Value):Res :=
 let t:=F9 x
 match op with
 | .not=>bif Nat.beq t 8 then R4 m 8 (.un .not) [x]else none
 | op=>bif Nat.blt t 8 then R4 m t (.un op) [x]else none
def mS(P:Program)(m:Mem)(s t:TypeId)(x:Value):Res :=
 match P.underlying s,P.underlying t with
 | some (.int _),some (.int k)=>bif Nat.blt (F9 x) 8 then R4 m (eU k) (.conv k) [x]else none
 | some .string,some .string=>bif Nat.beq (F9 x) 9 then some (x,m)else none
 | _,_=>none
def cH(P:Program)(m:Mem)(b:Builtin)(vs:List Value)(tys:List TypeId):Res :=
 match b,vs,tys with
 | .len,[x],t::_=>match P.underlying t with
   | some .string=>bif Nat.beq (F9 x) 9 then R4 m 3 .len [x]else none
   | _=>none
 | .max,[x,y],_=>bif Nat.blt (F9 x) 8 && Nat.beq (F9 x) (F9 y)then R4 m (F9 x) .max [x,y]else none
 | .min,[x,y],_=>bif Nat.blt (F9 x) 8 && Nat.beq (F9 x) (F9 y)then R4 m (F9 x) .min [x,y]else none
 | _,_,_=>none
def NW(m:Mem)(a:Addr)(s n:Nat)(i:Value):Res :=
 bif !(Nat.blt (F9 i) 8)then none else
 match R4 m 8 .inb [i,.int .i64 (.ofNat n)]with
 | some (b,⟨H,k,W,hi,lg⟩)=>match brL lg b with
   | some (true,lg)=>some (ixp a s i n,⟨H,k,W,hi,lg⟩)
   | _=>none
 | none=>none
def cF(P:Program)(m:Mem)(t:TypeId)(x i:Value):Res :=
 match P.underlying t,x with
 | some (.array n e),.pointer (some a)=>match G3 P e,a.spot with
   | some s,none=>NW m a s n i
   | _,_=>none
 | some (.slice e),.slice (some a) n c=>match G3 P e,a.spot with
   | some s,none=>bif Nat.beq c (L7+2)then none else NW m a s n i
   | _,_=>none
 | _,_=>none
def cG(P:Program)(m:Mem)(s:TypeId)(x:Value)(i:Nat):Res :=
 match x with
 | .func (.yield 1) ⟨[.pointer (some a),.int .i64 (.ofNat k),j,.int .i64 (.ofNat n)]⟩ ⟨[]⟩=>match P.underlying s with
   | some (.struct fs)=>match fs.toList[i]?,a.spot with
     | some f,none=>match G3 P f.type with
       | some (_+1)=>some (ixp (y5 a f.offset) k j n,m)
       | _=>none
     | _,_=>none
   | _=>none
 | _=>none
def rL(cs:List Value)(s o:Nat):Nat->Option D0
 | 0=>some []
 | n+1=>match cs[o]?,rL cs s (o+s) n with
   | some v,some r=>some (v::r)
   | _,_=>none
def aM(m:Mem)(cs:List Value)(s n:Nat)(i:Value):Nat->Nat->Option (D0×Mem)
 | _,0=>some ([],m)
 | o,k+1=>match rL cs s o n with
   | some (v::l)=>bif d7 (F9 v) (v::l) && Nat.blt (F9 v) 10 then match R4 m (F9 v) .sel (i::v::l)with
     | some (h,m)=>match aM m cs s n i (o+1) k with
       | some (r,m)=>some (h::r,m)
       | none=>none
     | none=>none else none
   | _=>none
def mR(P:Program)(m:Mem)(t:TypeId)(x:Value):Res :=
 match x with
 | .func (.yield 1) ⟨[.pointer (some a),.int .i64 (.ofNat s),i,.int .i64 (.ofNat n)]⟩ ⟨[]⟩ =>
   match Z7 P t,G3 P t with
   | some false,_=>match n9 m a ((n-1)*s+1)with
     | some cs=>match aM m cs s n i 0 1 with
       | some ([h],m)=>some (h,m)
       | _=>none
     | none=>none
   | some true,some z=>match n9 m a ((n-1)*s+z)with
     | some cs=>match aM m cs s n i 0 z with
       | some (hs,m)=>some (.agg ⟨hs⟩,m)
       | none=>none
     | none=>none
   | _,_=>none
 | _=>none
def rJ(m:Mem)(c a b:Value):Res :=
 match m with
 | ⟨H,n,W,hi,lg⟩=>match brL lg c with
   | some (true,lg)=>some (a,⟨H,n,W,hi,lg⟩)
   | some (false,lg)=>some (b,⟨H,n,W,hi,lg⟩)
   | none=>none
def PL(P:Program)(fr:Fr)(m:Mem)(o:Op):Res :=
 match o with
 | .pick c a b=>rJ m (ev fr c) (ev fr a) (ev fr b)
 | .binOp op t x y _=>match lK P m op t (ev fr x) (ev fr y)with
   | some r=>some r
   | none=>CK P m op t x y (ev fr x) (ev fr y)
 | .unOp op _ x=>CF m op (ev fr x)
 | .convert s t x=>mS P m s t (ev fr x)
 | .slice t x d hi mx=>iB P m t (ev fr x) (evO fr d) (evO fr hi) (evO fr mx)
 | .index t x i=>c9 P m t (ev fr x) (ev fr i)
 | .indexAddr t x i=>cF P m t (ev fr x) (ev fr i)
 | .fieldAddr s x i=>cG P m s (ev fr x) i
 | .load t x=>mR P m t (ev fr x)
 | .call ⟨.builtin b,xs,tys⟩=>cH P m b (evL fr xs.toList) tys.toList
 | _=>none
def lT(m:Mem)(b:Nat):Bool :=
 match Hp.get m.H b with
 | some .frz=>Nat.ble b G9
 | _=>false
def HI{α:Type}(l:List α):Nat->List α
 | 0=>[]
 | n+1=>l++HI l n
mutual
def PI(P:Program):Nat->TypeId->Option G6
 | 0,_=>none
 | d+1,t=>match P.underlying t with
   | some .bool=>some [8]
   | some (.int k)=>some [eU k]
   | some .string=>some [9]
   | some (.slice e)=>match G3 P e with
     | some w=>some [10+w]
     | none=>none
   | some (.struct fs)=>ZZ P d fs.toList
   | some (.array n e)=>match PI P d e with
     | some l=>some (HI l n)
     | none=>none
   | _=>none
def ZZ(P:Program):Nat->List Field->Option G6
 | 0,_=>none
 | _+1,[]=>some []
 | d+1,f::fs=>match PI P d f.type,ZZ P d fs with
   | some a,some b=>some (a++b)
   | _,_=>none
end
def iA(P:Program)(t:TypeId):Option G6 :=
 match PI P 30 t,G3 P t with
 | some l,some n=>bif Nat.beq l.length n then some l else none
 | _,_=>none
def W4.letDo(t:Nat)(op:LOp)(xs:List Value)(m:Mem)(k:Nat->Mem->Option (D0×Mem)):Option (D0×Mem) :=
 match m with
 | ⟨H,n,W,hi,⟨nx,pi,log⟩⟩=>I4 nx fun nx=>I4 t fun t=>P5 xs fun xs=>k nx ⟨H,n,W,hi,⟨Nat.succ nx,pi,.dt nx t op xs::log⟩⟩
def W4(w o i t:Nat)(z:Value)(g:Nat):G6->Nat->Mem->Option (D0×Mem)
 | [],_,m=>some ([],m)
 | tg::ts,j,m=>bif Nat.blt tg 10 then
    match R4 m tg (.get w (o+j)) [hole i t,z]with
    | some (h,m)=>match W4 w o i t z g ts (j+1) m with
      | some (r,m)=>some (h::r,m)
      | none=>none
    | none=>none
   else W4.letDo tg (.get w (o+j)) [hole i t,z] m fun nx m=>match W4 w o i t z g ts (j+1) m with
     | some (r,m)=>some (dat g nx tg::r,m)
     | none=>none
def jL(P:Program)(t:TypeId)(r:Option (D0×Mem)):Res :=
 match Z7 P t,r with
 | some false,some ([v],m)=>some (v,m)
 | some true,some (vs,m)=>some (.agg ⟨vs⟩,m)
 | _,_=>none
def EC(P:Program)(m:Mem)(t:TypeId)(x:Value):Res :=
 match x,iA P t with
 | .func (.yield 5) ⟨[.pointer (some ⟨b,0,none⟩),.complex .f64 i tg,z,.int .i64 (.ofNat o)]⟩ ⟨[]⟩,some ts =>
   bif lT m b then jL P t (W4 (tg-10) o i tg z b ts 0 m)else none
 | .func (.yield 6) ⟨[.pointer (some ⟨b,0,none⟩),.complex .f64 i tg,z,.int .i64 (.ofNat o)]⟩ ⟨[]⟩,some ts =>
   match Hp.get m.H b with
   | some (.sq c tc T g ro)=>bif Nat.beq tc tg then jL P t (W4 (tg-10) o c tg z g ts 0 m)else none
   | _=>none
 | _,_=>none
def EN(m:Mem)(i t:Nat)(z:Value)(k:Value):Res :=
 bif !(Nat.blt (F9 z) 8)then none else
 match R4 m 8 (.inbs (t-10)) [z,hole i t]with
 | some (b,⟨H,n,W,hi,lg⟩)=>match brL lg b with
   | some (true,lg)=>some (k,⟨H,n,W,hi,lg⟩)
   | _=>none
 | none=>none
def iX(P:Program)(m:Mem)(t:TypeId)(x z:Value):Res :=
 match P.underlying t,x with
 | some (.slice e),.func (.yield 4) ⟨[.pointer (some ⟨b,0,none⟩),.complex .f64 i tg]⟩ ⟨[]⟩=>match G3 P e with
   | some (s+1)=>bif Nat.beq tg (10+(s+1))then EN m i tg z (opt b i tg z 0)else none
   | _=>none
 | some (.slice e),.func (.yield 2) ⟨[.pointer (some ⟨b,0,none⟩),.complex .f64 i tg]⟩ ⟨[]⟩=>match G3 P e with
   | some (s+1)=>bif Nat.beq tg (10+(s+1))then EN m i tg z (dpt b i tg z 0)else none
   | _=>none
 | some (.slice e),.func (.yield 3) ⟨[.pointer (some ⟨b,0,none⟩),.complex .f64 i tg]⟩ ⟨[]⟩=>match G3 P e with
   | some (s+1)=>bif Nat.beq tg (10+(s+1))then EN m i tg z (dpt b i tg z 0)else none
   | _=>none
 | some (.array n e),.func (.yield 5) ⟨[.pointer (some ⟨b,0,none⟩),.complex .f64 i tg,y,.int .i64 (.ofNat o)]⟩ ⟨[]⟩=>match G3 P e,z with
   | some s,.int _ (.ofNat k)=>bif Nat.blt k n && Nat.blt (o+k*s) (tg-10)then some (I4 (o+k*s) fun o=>dpt b i tg y o,m)else none
   | _,_=>none
 | some (.array n e),.func (.yield 6) ⟨[.pointer (some ⟨b,0,none⟩),.complex .f64 i tg,y,.int .i64 (.ofNat o)]⟩ ⟨[]⟩=>match G3 P e,z with
   | some s,.int _ (.ofNat k)=>bif Nat.blt k n && Nat.blt (o+k*s) (tg-10)then some (I4 (o+k*s) fun o=>opt b i tg y o,m)else none
   | _,_=>none
 | _,_=>none
def jB(P:Program)(m:Mem)(s:TypeId)(x:Value)(f:Nat):Res :=
 match P.underlying s,x with
 | some (.struct fs),.func (.yield 5) ⟨[.pointer (some ⟨b,0,none⟩),.complex .f64 i tg,y,.int .i64 (.ofNat o)]⟩ ⟨[]⟩=>match fs.toList[f]? with
   | some fd=>match G3 P fd.type with
     | some (_+1)=>bif Nat.blt (o+fd.offset) (tg-10)then some (I4 (o+fd.offset) fun o=>dpt b i tg y o,m)else none
     | _=>none
   | none=>none
 | some (.struct fs),.func (.yield 6) ⟨[.pointer (some ⟨b,0,none⟩),.complex .f64 i tg,y,.int .i64 (.ofNat o)]⟩ ⟨[]⟩=>match fs.toList[f]? with
   | some fd=>match G3 P fd.type with
     | some (_+1)=>bif Nat.blt (o+fd.offset) (tg-10)then some (I4 (o+fd.offset) fun o=>opt b i tg y o,m)else none
     | _=>none
   | none=>none
 | _,_=>none
def nZ(i:Nat):List V4->Option Nat
 | []=>none
 | .lt j t .len [.complex .f64 k _]::r=>bif Nat.beq k i && Nat.beq t 3 then some j else nZ i r
 | _::r=>nZ i r
def AI(m:Mem)(i t:Nat):Res :=
 match nZ i m.lg.log with
 | some j=>some (hole j 3,m)
 | none=>R4 m 3 .len [hole i t]
def YC(P:Program)(m:Mem)(t:TypeId)(x:Value):Res :=
 match P.underlying t,x with
 | some (.slice _),.func (.yield 2) ⟨[.pointer (some ⟨b,0,none⟩),.complex .f64 i tg]⟩ ⟨[]⟩=>AI m i tg
 | some (.slice _),.func (.yield 3) ⟨[.pointer (some ⟨b,0,none⟩),.complex .f64 i tg]⟩ ⟨[]⟩=>AI m i tg
 | some (.slice _),.func (.yield 4) ⟨[.pointer (some ⟨b,0,none⟩),.complex .f64 i tg]⟩ ⟨[]⟩=>AI m i tg
 | _,_=>none
def eC(m:Mem)(k:Nat->Mem->Option (Value×Nat×Mem)):Option (Value×Nat×Mem) :=
 match m with
 | ⟨H,n,W,hi,lg⟩=>bif Nat.ble n G9 then I4 n fun n=>I4 (upN hi n) fun hi=>Hp.put H n (some .frz) fun H=>k n ⟨H,Nat.succ n,W,hi,lg⟩else none
def toD(t:Nat)(v:Value)(m:Mem):Option (Value×Nat×Mem) :=
 match v with
 | .func (.yield 2) ⟨[.pointer (some ⟨b,0,none⟩),.complex .f64 i tg]⟩ ⟨[]⟩=>bif Nat.beq tg t && lT m b then some (hole i tg,b,m)else none
 | .func (.yield 3) ⟨[.pointer (some ⟨b,0,none⟩),.complex .f64 i tg]⟩ ⟨[]⟩=>bif Nat.beq tg t && lT m b then some (hole i tg,b,m)else none
 | .func (.yield 4) ⟨[.pointer (some ⟨b,0,none⟩),.complex .f64 i tg]⟩ ⟨[]⟩=>match Hp.get m.H b with
   | some (.sq c tc T g true)=>bif (Nat.beq tg t && Nat.beq tc t) && lT m g then eC m fun b' m=>some (hole c tc,b',m)else none
   | some (.sq c tc T g false)=>bif (Nat.beq tg t && Nat.beq tc t) && lT m g then match aK m b (.sq c tc T g true)with
     | some m=>eC m fun b' m=>some (hole c tc,b',m)
     | none=>none else none
   | _=>none
 | .slice none 0 0=>bif Nat.ble 10 t then(match rD m t (.nilw (t-10)) [] fun nx m=>some (hole nx t,m)with
   | some (h,m)=>eC m fun b' m=>some (h,b',m)
   | none=>none)else none
 | _=>none
abbrev Td:=Nat->Value->Mem->Option (Value×Nat×Mem)
def vJ(a:Td):G6->D0->Mem->Option (D0×G6×Mem)
 | [],[],m=>some ([],[],m)
 | t::ts,v::vs,m=>bif Nat.blt t 10 then
    bif Nat.beq (F9 v) t then match vJ a ts vs m with
     | some (r,gs,m)=>some (v::r,gs,m)
     | none=>none else none
   else match a t v m with
    | some (h,b,m)=>match vJ a ts vs m with
      | some (r,gs,m)=>some (h::r,b::gs,m)
      | none=>none
    | none=>none
 | _,_,_=>none
def gO(gs:List Nat)(m:Mem):Option (Nat×Mem) :=
 match gs with
 | [g]=>bif lT m g then some (g,m)else none
 | gs=>bif gs.all (lT m)then match eC m fun b m=>some (undef,b,m)with
   | some (_,b,m)=>some (b,m)
   | none=>none else none
def JK:Value->Value->Bool
 | .complex .f64 i _,.complex .f64 j _=>Nat.beq i j
 | .int k a,.int j b=>qE k j && vZ a b
 | _,_=>false
def tX(v:Value):Bool:=Nat.blt (F9 v) 8
def dS(m:Mem)(b i t:Nat)(l h:Value)(c:Bool):Res:=bif tX l && tX h then rD m t (.subs (t-10)) [hole i t,l,h] fun nx m=>some (bif c then clp b nx t else dat b nx t,m)else none
def FH(m:Mem)(b i t:Nat)(cl:Bool)(l:Value)(hi mx:Option Value):Res :=
 match hi,mx with
 | some h,none=>dS m b i t l h false
 | some h,some x=>bif JK h x then dS m b i t l h true else none
 | none,none=>match AI m i t with
   | some (h,m)=>dS m b i t l h cl
   | none=>none
 | none,some _=>none
def A20(a:Option Value):Value :=
 match a with
 | some l=>l
 | none=>.int .i64 0
def FI(m:Mem)(b i t:Nat)(cl:Bool)(a hi mx:Option Value):Res:=FH m b i t cl (A20 a) hi mx
def sW(P:Program)(m:Mem)(t:TypeId)(x:Value)(a hi mx:Option Value):Res :=
 match P.underlying t,x with
 | some (.slice e),.func (.yield 2) ⟨[.pointer (some ⟨b,0,none⟩),.complex .f64 i tg]⟩ ⟨[]⟩=>match G3 P e with
   | some s=>bif Nat.beq tg (10+s)then FI m b i tg false a hi mx else none
   | none=>none
 | some (.slice e),.func (.yield 3) ⟨[.pointer (some ⟨b,0,none⟩),.complex .f64 i tg]⟩ ⟨[]⟩=>match G3 P e with
   | some s=>bif Nat.beq tg (10+s)then FI m b i tg true a hi mx else none
   | none=>none
 | some (.slice e),.func (.yield 4) ⟨[.pointer (some ⟨b,0,none⟩),.complex .f64 i tg]⟩ ⟨[]⟩=>match G3 P e with
   | some s=>bif Nat.beq tg (10+s)then match toD tg x m with
     | some (.complex .f64 c _,b',m)=>FI m b' c tg false a hi mx
     | _=>none else none
   | none=>none
 | _,_=>none
inductive Beh where
 | cells (xs:List Value)
 | rows (x:Value)
 | str (x:Value)
def bK(w:Nat)(c:Value):Beh->LOp×D0
 | .cells xs=>(.snoc w,c::xs)
 | .rows x=>(.cat w,[c,x])
 | .str x=>(.cats,[c,x])
def VU(c:Td)(P:Program)(m:Mem)(e:TypeId)(w:Nat)(y:Value):Option (Beh×G6×Bool×Mem) :=
 match y with
 | .slice none 0 _=>some (.cells [],[],false,m)
 | .slice (some a) n _=>match n9 m a (n*w),iA P e with
   | some cs,some ts=>match vJ c (HI ts n) cs m with
     | some (xs,gs,m)=>some (.cells xs,gs,Nat.blt 0 n,m)
     | none=>none
   | _,_=>none
 | .func _ _ _=>match c (10+w) y m with
   | some (x,b,m)=>some (.rows x,[b],false,m)
   | none=>none
 | y=>bif Nat.beq (F9 y) 9 && Nat.beq w 1 then some (.str y,[],false,m)else none
def yX(a:Td)(P:Program)(m:Mem)(e:TypeId)(w:Nat)(x:Value):Option (Nat×G6×Option Nat×Mem) :=
 match x with
 | .slice none 0 0=>match rD m (10+w) (.nilw w) [] fun nx m=>some (hole nx (10+w),m)with
   | some (.complex .f64 c _,m)=>some (c,[],none,m)
   | _=>none
 | .func (.yield 4) ⟨[.pointer (some ⟨b,0,none⟩),.complex .f64 i tg]⟩ ⟨[]⟩=>match Hp.get m.H b with
   | some (.sq c tc T g false)=>bif (Nat.beq tg (10+w) && Nat.beq tc tg) && (Nat.beq T e && Nat.ble b G9)then some (c,[g],some b,m)else none
   | _=>none
 | .slice (some ⟨b,0,none⟩) n c=>match Hp.get m.H b,iA P e with
   | some (.cells cs _ _),some ts=>bif Nat.beq cs.length (n*w) && (Nat.beq c n && Nat.blt c L7 || Nat.beq c L7)then match vJ a (HI ts n) cs m with
     | some (xs,gs,m)=>match Hp.get m.H b with
       | some (.cells _ T false)=>bif Nat.beq T e && Nat.ble b G9 then match rD m (10+w) (.mk w) xs fun nx m=>some (hole nx (10+w),m)with
         | some (.complex .f64 c _,m)=>some (c,gs,some b,m)
         | _=>none else none
       | _=>none
     | none=>none else none
   | _,_=>none
 | _=>none
def x8(m:Mem)(c t:Nat)(T:TypeId)(g:Nat):Res:=Y0 m (.sq c t T g false) fun b=>own b c t
def OT(P:Program)(e:TypeId)(n:Nat):Bool :=
 match dK P e with
 | some z=>Nat.beq z.cells.size n
 | none=>false
def gM(old:Option Nat)(m:Mem):Mem :=
 match old with
 | some b=>gN m b
 | none=>m
def NP(a:Td)(P:Program)(m:Mem)(e:TypeId)(w:Nat)(x:Value):Res :=
 match P.info? e with
 | some inf=>bif Nat.beq inf.size w && Nat.blt 0 w then match yX a P m e w x with
   | some (c,gs,old,m)=>match gO gs m with
     | some (g,m)=>x8 (gM old m) c (10+w) e g
     | none=>none
   | none=>none else none
 | none=>none
def PD(P:Program):Nat->Td
 | 0=>toD
 | d+1=>fun t v m=>match v with
   | .slice (some ⟨b,0,none⟩) _ _=>match Hp.get m.H b with
     | some (.cells _ T _)=>match NP (PD P d) P m T (t-10) v with
       | some (x,m)=>toD t x m
       | none=>none
     | _=>none
   | v=>toD t v m
def tdP(P:Program):Td:=PD P 3
def DJ(m:Mem)(e:TypeId)(w c:Nat)(old:Option Nat)(a:Beh)(gs:List Nat):Res :=
 match gO gs m with
 | some (g,m)=>rD m (10+w) (bK w (hole c (10+w)) a).1 (bK w (hole c (10+w)) a).2 fun nx m=>x8 (gM old m) nx (10+w) e g
 | none=>none
def oM(P:Program)(m:Mem)(t t2:TypeId)(x y:Value):Res :=
 match P.underlying t,P.underlying t2 with
 | some (.slice e),some d2=>bif !(bF d2)then none else
   match P.info? e with
   | some i=>bif (Nat.ble i.bytes 90000 && Nat.blt 0 i.size) && OT P e i.size then
     match VU (tdP P) P m e i.size y with
     | some (bh,gs,sure,m)=>match yX (tdP P) P m e i.size x with
       | some (c,g0,old,m)=>DJ m e i.size c old bh (g0++gs)
       | none=>match x,sure with
         | .func (.yield 3) ⟨[.pointer (some ⟨b,0,none⟩),.complex .f64 c tg]⟩ ⟨[]⟩,true=>bif Nat.beq tg (10+i.size)then DJ m e i.size c none bh (b::gs)else none
         | _,_=>none
     | none=>none else none
   | none=>none
 | _,_=>none
def sT(P:Program)(m:Mem)(t:TypeId)(x v:Value):Res :=
 match x,iA P t with
 | .func (.yield 6) ⟨[.pointer (some ⟨b,0,none⟩),.complex .f64 i tg,z,.int .i64 (.ofNat o)]⟩ ⟨[]⟩,some ts=>bif fW v then none else
   match vJ (tdP P) ts v.cells.toList m with
   | some (xs,gs,m)=>match Hp.get m.H b with
     | some (.sq c tc T g false)=>bif Nat.beq tc tg then match gO (g::gs) m with
       | some (g,m)=>match rD m tg (.set (tg-10) o) (hole c tg::z::xs) fun nx m=>some (hole nx tg,m)with
         | some (.complex .f64 nx _,m)=>HU (aK m b (.sq nx tg T g false))
         | _=>none
       | none=>none else none
     | _=>none
   | none=>none
 | _,_=>none
def A0I(m m1:Mem):Mem :=
 match m,m1 with
 | ⟨H,n,W,_,_⟩,⟨_,_,_,hi,lg⟩=>⟨H,n,W,hi,lg⟩
def FK(P:Program)(m:Mem)(s t:TypeId)(x:Value):Res :=
 match P.underlying s,P.underlying t,x with
 | some (.slice e),some .string,.slice (some a) n _=>match P.underlying e with
   | some (.int .u8)=>match n9 m a n with
     | some cs=>bif d7 4 cs then R4 m 9 .mks cs else none
     | none=>none
   | _=>none
 | some (.slice e),some .string,.func _ _ _=>match P.underlying e with
   | some (.int .u8)=>match toD 11 x m with
     | some (h,_,m1)=>R4 (A0I m m1) 9 .str [h]
     | none=>none
   | _=>none
 | some _,some (.slice e),x=>bif Nat.beq (F9 x) 9 then match P.underlying e with
   | some (.int .u8)=>match G3 P e with
     | some 1=>match gO [] m with
       | some (g,m)=>match rD m 11 .byt [x] fun nx m=>some (hole nx 11,m)with
         | some (.complex .f64 nx _,m)=>x8 m nx 11 e g
         | _=>none
       | none=>none
     | _=>none
   | _=>none else none
 | _,_,_=>none
def SS:Value->Bool
 | .slice none 0 0=>true
 | _=>false
def RT(P:Program)(m:Mem)(op:BinOp)(t:TypeId)(x y:Operand)(a b:Value):Res :=
 match P.underlying t,a with
 | some (.slice _),.func (.yield k) ⟨[.pointer (some ⟨_,0,none⟩),.complex .f64 i tg]⟩ ⟨[]⟩=>bif SS b && isC y && (Nat.beq k 2 || Nat.beq k 3 || Nat.beq k 4)then
   match op,R4 m 8 .nilp [hole i tg]with
   | .eql,some r=>some r
   | .neq,some (h,m)=>R4 m 8 (.un .not) [h]
   | _,_=>none else none
 | _,_=>none
def DY(P:Program)(m:Mem)(t:TypeId)(l c:Value):Res :=
 match P.underlying t,l,c with
 | some (.slice e),.complex .f64 i ti,.complex .f64 j tj=>bif (Nat.beq i j && Nat.beq ti 3) && Nat.beq tj 3 then
   match P.info? e with
   | some inf=>bif Nat.ble inf.bytes 90000 && Nat.blt 0 inf.size then
     match dK P e with
     | some z=>bif Nat.beq z.cells.size inf.size && z.cells.toList.all (fun z=>Nat.blt (F9 z) 10)then
       match gO [] m with
       | some (g,m)=>match rD m (10+inf.size) (.rep inf.size) (hole i 3::z.cells.toList) fun nx m=>some (hole nx (10+inf.size),m)with
         | some (.complex .f64 nx _,m)=>x8 m nx (10+inf.size) e g
         | _=>none
       | none=>none else none
     | none=>none else none
   | none=>none else none
 | _,_,_=>none
def dsM(P:Program)(fr:Fr)(m:Mem)(o:Op):Res :=
 match o with
 | .makeSlice t l c=>DY P m t (ev fr l) (ev fr c)
 | .load t x=>EC P m t (ev fr x)
 | .store t x y=>sT P m t (ev fr x) (ev fr y)
 | .indexAddr t x i=>iX P m t (ev fr x) (ev fr i)
 | .fieldAddr s x i=>jB P m s (ev fr x) i
 | .slice t x a hi mx=>sW P m t (ev fr x) (evO fr a) (evO fr hi) (evO fr mx)
 | .convert s t x=>FK P m s t (ev fr x)
 | .binOp op t x y _=>RT P m op t x y (ev fr x) (ev fr y)
 | .call ⟨.builtin .len,xs,tys⟩=>match evL fr xs.toList,tys.toList with
   | [x],t::_=>YC P m t x
   | _,_=>none
 | .call ⟨.builtin .append,xs,tys⟩=>match evL fr xs.toList,tys.toList with
   | [x,y],t::t2::_=>oM P m t t2 x y
   | _,_=>none
 | _=>none
def LJ(P:Program)(m:Mem)(s t:TypeId)(x:Value):Res :=
 match P.underlying s,P.underlying t,x with
 | some (.pointer e),some .unsafePointer,.pointer (some ⟨b,o,none⟩)=>match G3 P e,Hp.get m.H b with
   | some (_+1),some (.cells cs _ _)=>bif Nat.blt o cs.length then some (x,m)else none
   | _,_=>none
 | some .unsafePointer,some (.pointer u),.pointer (some ⟨b,0,none⟩)=>match G3 P u,Hp.get m.H b with
   | some (k+1),some (.cells cs T false)=>bif Nat.beq T u && Nat.beq cs.length (k+1)then some (x,m)else none
   | _,_=>none
 | some (.slice _),some (.slice e),.slice (some ⟨b,o,none⟩) n c=>bif Nat.beq s t && !(Nat.beq c (L7+2))then match P.underlying e,Hp.get m.H b with
   | some (.int .u8),some (.cells cs T false)=>match aK m b (.cells cs T false)with
     | some m1=>some (x,m1)
     | none=>none
   | _,_=>none else none
 | _,_,_=>none
def JU(P:Program)(m:Mem)(op:BinOp)(t:TypeId)(a b:Value):Res :=
 match P.underlying t,a,b with
 | some (.pointer e),.pointer (some ⟨b1,o1,none⟩),.pointer (some ⟨b2,o2,none⟩)=>bif Nat.beq b1 b2 && Nat.beq o1 o2 then match P.info? e,op with
   | some _,.eql=>some (.bool true,m)
   | some _,.neq=>some (.bool false,m)
   | _,_=>none else none
 | _,_,_=>none
def sdM(P:Program)(m:Mem)(ty:TypeId)(x:Value):Res :=
 match P.underlying ty with
 | some (.pointer _)=>match x with
  | .func (.yield 4) ⟨[.pointer (some ⟨b,0,none⟩),.complex .f64 i t]⟩ ⟨[]⟩=>match Hp.get m.H b with
   | some (.sq _ _ _ _ _)=>some (sdt b,m)
   | _=>none
  | _=>none
 | _=>none
def usM(P:Program)(m:Mem)(a:TypeId)(p l:Value):Res :=
 match p with
 | .func (.yield 9) ⟨[.pointer (some ⟨b,0,none⟩)]⟩ ⟨[]⟩=>bif Nat.blt (F9 l) 8 then match Hp.get m.H b,P.underlying a with
   | some (.sq c tc T g false),some (.pointer e)=>bif Nat.beq e T && Nat.beq tc 11 then match G3 P T,R4 m 9 .ustr [hole c tc,l]with
     | some 1,some (v,m)=>match aK m b (.sq c tc T g true)with
       | some m=>some (v,m)
       | none=>none
     | _,_=>none else none
   | _,_=>none else none
 | _=>none
def dM(P:Program)(t:TypeId):Option Nat :=
 match P.underlying t with
 | some .bool=>some 8
 | some (.int k)=>some (eU k)
 | some .string=>some 9
 | _=>none
def qS(P:Program):List Field->Nat->Option G6
 | [],_=>some []
 | f::r,i=>match dM P f.type,qS P r (i+1)with
   | some t,some l=>bif !(f.name == "_") && Nat.beq f.offset i then some (t::l)else none
   | _,_=>none
def lD(P:Program)(t:TypeId):Option (Bool×List Nat) :=
 match P.underlying t with
 | some (.struct fs)=>bif P.stoodInHeld t then none else match qS P fs.toList 0 with
   | some l=>some (true,l)
   | none=>none
 | _=>match dM P t with
   | some k=>some (false,[k])
   | none=>none
def IY(P:Program)(t:TypeId):Option (Bool×List Nat) :=
 match Z7 P t,iA P t with
 | some true,some l=>bif l.all (fun k=>Nat.blt k 10)then some (true,l)else none
 | some false,some [k]=>bif Nat.blt k 10 then some (false,[k])else none
 | _,_=>none
structure MTy where
 kt:TypeId
 vt:TypeId
 ka:Bool
 ks:G6
 va:Bool
 vs:G6
def MTy.w(y:MTy):Nat:=y.ks.length+y.vs.length
def HS(P:Program)(T:TypeId):Option MTy :=
 match P.underlying T with
 | some (.map kt vt)=>match lD P kt,IY P vt with
   | some (ka,k::ks),some (va,vs)=>some ⟨kt,vt,ka,k::ks,va,vs⟩
   | _,_=>none
 | _=>none
def uI:G6->D0->Bool
 | [],[]=>true
 | t::ts,v::vs=>Nat.beq (F9 v) t && uI ts vs
 | _,_=>false
def kV(a:Bool)(ts:List Nat)(v:Value):Option D0 :=
 match a,v with
 | true,.agg cs=>bif uI ts cs.toList then some cs.toList else none
 | true,_=>none
 | false,v=>bif uI ts [v]then some [v]else none
def VY(a:Bool)(vs:List Value):O8 :=
 match a,vs with
 | true,vs=>some (.agg ⟨vs⟩)
 | false,[v]=>some v
 | false,_=>none
def RX(P:Program)(m:Mem)(T:TypeId):Res :=
 match HS P T with
 | some y=>rD m (10+y.w) (.mk y.w) [] fun nx m=>Y0 m (.mp nx (10+y.w) T) fun b=>.map (some b)
 | none=>none
def pN(w kw c t:Nat)(a:List Value):G6->D0->Nat->Mem->Option (D0×Mem)
 | [],[],_,m=>some ([],m)
 | tg::ts,z::zs,j,m=>match R4 m tg (.mget w kw j) (hole c t::z::a)with
   | some (h,m)=>match pN w kw c t a ts zs (j+1) m with
     | some (r,m)=>some (h::r,m)
     | none=>none
   | none=>none
 | _,_,_,_=>none
def tP(P:Program)(m:Mem)(T:TypeId)(x k:Value)(ok:Bool):Res :=
 match x,HS P T with
 | .map (some r),some y=>match Hp.get m.H r,kV y.ka y.ks k,dK P y.vt with
   | some (.mp c t T2),some kc,some z=>bif Nat.beq T2 T then match kV y.va y.vs z with
     | some a=>match pN y.w y.ks.length c t kc y.vs a y.ks.length m with
       | some (hs,m)=>match VY y.va hs with
         | some v=>bif ok then match R4 m 8 (.mhas y.w y.ks.length) (hole c t::kc)with
            | some (b,m)=>some (.tuple ⟨[v,b]⟩,m)
            | none=>none
           else some (v,m)
         | none=>none
       | none=>none
     | none=>none else none
   | _,_,_=>none
 | _,_=>none
def xE(P:Program)(m:Mem)(T:TypeId)(x k v:Value):Res :=
 match x,HS P T with
 | .map (some r),some y=>match Hp.get m.H r,kV y.ka y.ks k,kV y.va y.vs v with
   | some (.mp c t T2),some kc,some vc=>bif Nat.beq T2 T && Nat.blt t 1000 then rD m t (.mput y.w y.ks.length) (hole c t::(kc++vc)) fun nx m=>HU (aK m r (.mp nx t T))else none
   | _,_,_=>none
 | _,_=>none
def EE(P:Program)(m:Mem)(T:TypeId)(x:Value):Res :=
 match P.underlying T,x with
 | some (.map _ _),.map (some r)=>match Hp.get m.H r with
   | some (.mp c t _)=>AI m c t
   | _=>none
 | _,_=>none
def tE(P:Program)(m:Mem)(t:TypeId)(x:Value):Res :=
 match P.underlying t with
 | some .string=>bif Nat.beq (F9 x) 9 then Y0 m (.iter [x,.int .i64 (.ofNat 0)]) fun b=>.pointer (some ⟨b,0,none⟩)else none
 | _=>none
def BD:Value->Value->Option (ByteArray×Nat)
 | .string s,.int .i64 (.ofNat k)=>some (s,k)
 | _,_=>none
def DU(m:Mem)(x:Value):Res :=
 match x with
 | .pointer (some ⟨r,0,none⟩)=>match Hp.get m.H r with
   | some (.iter [s,p])=>match BD s p with
     | some (b,k)=>bif Nat.blt k b.data.toList.length then I4 (k+(Utf8.decode b k).2) fun a=>match aK m r (.iter [s,.int .i64 (.ofNat a)])with
        | some m=>I4 (Utf8.decode b k).1 fun c=>some (.tuple ⟨[.bool true,p,.int .i32 (.ofNat c)]⟩,m)
        | none=>none
       else some (.tuple ⟨[.bool false]⟩,m)
     | none=>bif Nat.beq (F9 s) 9 && Nat.beq (F9 p) 3 then match R4 m 3 .len [s]with
       | some (h,m)=>match R4 m 8 (.bin .lss) [p,h]with
         | some (c,⟨H,n,W,hi,lg⟩)=>match brL lg c with
           | some (true,lg)=>match R4 ⟨H,n,W,hi,lg⟩ 2 .rune [s,p]with
             | some (y,m)=>match R4 m 3 .rpos [s,p]with
               | some (q,m)=>match aK m r (.iter [s,q])with
                 | some m=>some (.tuple ⟨[.bool true,p,y]⟩,m)
                 | none=>none
               | none=>none
             | none=>none
           | some (false,lg)=>some (.tuple ⟨[.bool false]⟩,⟨H,n,W,hi,lg⟩)
           | none=>none
         | none=>none
       | none=>none else none
   | _=>none
 | _=>none
def xtM(P:Program)(fr:Fr)(m:Mem)(o:Oper):Res :=
 match o.op with
 | .convert s t x=>LJ P m s t (ev fr x)
 | .binOp op t x y _=>JU P m op t (ev fr x) (ev fr y)
 | .call ⟨.builtin .unsafeSliceData,xs,_⟩=>match evL fr xs.toList with
   | [x]=>sdM P m o.type x
   | _=>none
 | .call ⟨.builtin .unsafeString,xs,tys⟩=>match evL fr xs.toList,tys.toList with
   | [p,l],t::_=>usM P m t p l
   | _,_=>none
 | .makeMap t none=>RX P m t
 | .lookup t x k ok=>tP P m t (ev fr x) (ev fr k) ok
 | .range t x=>tE P m t (ev fr x)
 | .next x true=>DU m (ev fr x)
 | .mapUpdate t x k v=>xE P m t (ev fr x) (ev fr k) (ev fr v)
 | .insert t x k v=>xE P m t (ev fr x) (ev fr k) (ev fr v)
 | .call ⟨.builtin .len,xs,tys⟩=>match evL fr xs.toList,tys.toList with
   | [x],t::_=>EE P m t x
   | _,_=>none
 | _=>none
inductive EK where
 | noEscape|makeNoZero (e:TypeId)|indexByteString|countString|indexString|copyString
 deriving DecidableEq
def FC:List (FuncId×EK)->FuncId->Option EK
 | [],_=>none
 | (g,k)::r,f=>bif Nat.beq g f then some k else FC r f
structure FnC where
 run:D0->Mem->Res
structure M2 where
 fn:FuncId->FnC
 yl:FnC
def kN:Value->Bool
 | .tuple ⟨[]⟩=>true
 | _=>false
def BV(lg:Lg)(v:Value)(b:Bool):Option (Bool×Lg) :=
 match v with
 | .bool c=>some (c == b,lg)
 | .complex k i t=>match brL lg (.complex k i t)with
   | some (c,lg)=>some (c == b,lg)
   | none=>none
 | v=>bif kN v then some (false,lg)else none
def x7(nt:Nat)(fr:Fr)(lg:Lg)(ops:List Oper)(o:Oper):Option (Bool×Lg) :=
 match o.guard with
 | none=>some (true,lg)
 | some (j,b)=>match ops[j]? with
   | some p=>match p.dst with
     | some t=>bif Nat.blt t nt then BV lg (fr.get t) b else none
     | none=>none
   | none=>none
def sC(v:Value)(vs:List Value):Option (FuncId×List Value) :=
 match v with
 | .func (.func f) a b=>some (f,a.toList++(vs++b.toList))
 | _=>none
def cB(v:Value):Option Nat :=
 match v with
 | .func (.yield 7) ⟨[.pointer (some ⟨b,0,none⟩)]⟩ ⟨[]⟩=>some b
 | _=>none
def DS(call:M2)(m:Mem)(v:Value)(vs:List Value):Res :=
 match sC v vs with
 | some (f,vs)=>(call.fn f).run vs m
 | none=>match cB v with
   | some _=>call.yl.run (v::vs) m
   | none=>none
def A22(call:M2)(x:XC)(xs:LC)(fr:Fr)(m:Mem):Res:=DS call m (x.run fr) (xs.run fr)
def A1k(f:FnC)(xs:LC)(fr:Fr)(m:Mem):Res:=f.run (xs.run fr) m
def SN(P:Program)(c:OpC)(o:Oper)(fr:Fr)(m:Mem):Res :=
 match c.run fr m with
 | some r=>some r
 | none=>match PL P fr m o.op with
   | some r=>some r
   | none=>match dsM P fr m o.op with
     | some r=>some r
     | none=>xtM P fr m o
def U9(P:Program)(call:M2)(o:Oper):OpC :=
 match o.op with
 | .call ⟨.value (.func f),xs,_⟩=>⟨A1k (call.fn f) (qV xs.toList)⟩
 | .call ⟨.value x,xs,_⟩=>⟨A22 call (Q2 x) (qV xs.toList)⟩
 | op=>⟨SN P (uQ P op) o⟩
def uL(nt:Nat)(d:Option Tmp):Bool :=
 match d with
 | some d=>Nat.blt d nt
 | none=>true
structure A2I where
 run:Value->Fr->(Fr->Option S)->Option S
def rF(d:Option Tmp):A2I :=
 match d with
 | some t=>⟨rB (sel (t / 64%8)) (sel (t / 8%8)) (sel (t%8))⟩
 | none=>⟨fun _ fr k=>k fr⟩
structure WI where
 run:S->Option S
def iG(c:OpC)(d:A2I)(next:WI)(s:S):Option S :=
 match s with
 | ⟨fr,m⟩=>match c.run fr m with
   | some (v,m')=>bif Nat.ble m.hi m'.hi then d.run v fr fun fr=>next.run ⟨fr,m'⟩else none
   | none=>none
def cJ(nt:Nat)(all:List Oper)(o:Oper)(c:OpC)(d:A2I)(next:WI)(s:S):Option S :=
 match s with
 | ⟨fr,⟨H,n,W,hi,lg⟩⟩=>match x7 nt fr lg all o with
   | some (true,lg)=>iG c d next ⟨fr,⟨H,n,W,hi,lg⟩⟩
   | some (false,lg)=>d.run undef fr fun fr=>next.run ⟨fr,⟨H,n,W,hi,lg⟩⟩
   | none=>none
def R0(P:Program)(nt gl:Nat)(call:M2)(all:List Oper):List Oper->WI
 | []=>⟨some⟩
 | o::r=>bif uL nt o.dst && HO nt gl o.op then match o.guard with
   | none=>⟨fun s=>iG (U9 P call o) (rF o.dst) (R0 P nt gl call all r) s⟩
   | some _=>⟨fun s=>cJ nt all o (U9 P call o) (rF o.dst) (R0 P nt gl call all r) s⟩
   else⟨fun _=>none⟩
structure Rec where
 i:Nat
 lo:Nat
 hi:Nat
inductive Cls where
 | free
 | one (b:Nat)
 | all
def A3M(fr:Fr)(o:Op):Cls :=
 match o with
 | .move _|.assign _|.pick ..|.alloc _|.box ..|.build ..|.buildSlice ..|.nilCheck _|.binOp ..|.unOp ..|.makeInterface ..|.makeFunc ..|.makeMap ..|.makeSlice ..
 | .fieldAddr ..|.field ..|.indexAddr ..|.index ..|.extract ..|.range ..=>.free
 | .slice _ x _ _ _=>match ev fr x with
   | .slice _ _ _|.string _|.pointer _|.complex _ _ _=>.free
   | _=>.all
 | .convert _ _ x=>match ev fr x with
   | .int _ _|.string _=>.free
   | _=>.all
 | .call ⟨.builtin .len,xs,_⟩=>match evL fr xs.toList with
   | [.slice _ _ _]|[.string _]=>.free
   | _=>.all
 | .call ⟨.builtin .min,_,_⟩|.call ⟨.builtin .max,_,_⟩=>.free
 | .call ⟨.builtin .unsafeSliceData,xs,_⟩=>match evL fr xs.toList with
   | [.slice _ _ _]=>.free
   | _=>.all
 | .load _ x|.store _ x _=>match ev fr x with
   | .pointer (some a)=>.one a.block
   | _=>.all
 | _=>.all
def xV(H:Hp AB):G6->Hp AB
 | []=>H
 | b::r=>Hp.put H b none fun H=>xV H r
def yZ(H0 H:Hp AB):G6->Hp AB
 | []=>H
 | b::r=>Hp.put H b (Hp.get H0 b) fun H=>yZ H0 H r
def GU:Nat->Nat->G6
 | _,0=>[]
 | lo,n+1=>lo::GU (lo+1) n
def Y1:List Rec->G6
 | []=>[]
 | r::rs=>GU r.lo (r.hi-r.lo)++Y1 rs
def r7(l:List Nat)(b:Nat):Bool:=l.any (Nat.beq b)
def BK(l:List Nat):Bool:=l.all fun b=>Nat.ble b G9
def xJ(b:List Nat)(rs:List Rec):List Rec:=rs.filter fun r=>!(r7 b r.i)
def wK(m:Mem)(c:Cls)(us:List Rec):Option Mem :=
 match m with
 | ⟨H,n,_,hi,lg⟩=>match c with
   | .free=>some ⟨hp0,n,[],hi,lg⟩
   | .one b=>bif r7 (Y1 us) b || !(Nat.ble b G9)then none else Hp.put hp0 b (Hp.get H b) fun H=>some ⟨H,n,[],hi,lg⟩
   | .all=>bif BK (Y1 us)then some ⟨xV H (Y1 us),n,[],hi,lg⟩else none
def iP(m m':Mem):Option Mem :=
 bif Nat.ble m'.hi m.n then(match m with|⟨H,n,W,hi,_⟩=>some ⟨H,n,W,hi,m'.lg⟩)else
 bif Nat.ble m'.hi G9 then AQ (yZ m'.H m.H (GU m.n (m'.hi-m.n))) fun H=>I4 m'.hi fun n=>some ⟨H,n,m.W,n,m'.lg⟩else none
def LH(fr:Fr)(m:Mem)(o:Oper)(b:List Nat)(rs:List Rec)(op:OpC)(k:Value->Mem->Option S):Option S :=
 let us:=xJ b rs
 let c:=A3M fr o.op
 match wK m c us with
 | some mv=>match op.run fr mv with
   | some (v,m') =>
     match m'.W,Nat.ble m.hi m'.hi with
     | [],true=>match iP m m' with
       | some m2=>k v m2
       | none=>none
     | _,_=>none
   | none=>none
 | none=>none
def wrO:Op->Bool
 | .call _|.store ..|.mapUpdate ..=>true
 | _=>false
def t7:Op->Bool
 | .move _|.assign _|.extract ..|.slice ..=>true
 | _=>false
def A1X:Op->Bool
 | .field ..|.fieldAddr ..|.index ..|.indexAddr ..|.binOp ..|.unOp ..|.build ..|.load ..|.pick ..|.convert ..|.slice ..|.nilCheck _=>true
 | .call ⟨.builtin .len,_,_⟩|.call ⟨.builtin .min,_,_⟩|.call ⟨.builtin .max,_,_⟩=>true
 | o=>t7 o
def zP(a b:Addr):Bool :=
 match a,b with
 | ⟨x,o,none⟩,⟨y,p,none⟩=>Nat.beq x y && Nat.beq o p
 | _,_=>false
def HE(f g:Fn):Bool :=
 match f,g with
 | .func f,.func g=>Nat.beq f g
 | .yield f,.yield g=>Nat.beq f g
 | _,_=>false
def wV(s:Value->Value->Bool):D0->D0->Bool
 | [],[]=>true
 | a::l,b::r=>s a b && wV s l r
 | _,_=>false
def tB:Nat->Value->Value->Bool
 | _,.bool a,.bool b=>a == b
 | _,.int k n,.int j m=>qE k j && vZ n m
 | _,.complex .f64 i t,.complex .f64 j u=>Nat.beq i j && Nat.beq t u
 | _,.complex .f32 i t,.complex .f32 j u=>Nat.beq i j && Nat.beq t u
 | _,.string s,.string t=>decide (s.data.toList=t.data.toList)
 | _,.pointer none,.pointer none=>true
 | _,.pointer (some a),.pointer (some b)=>zP a b
 | _,.slice none n c,.slice none m d=>Nat.beq n m && Nat.beq c d
 | _,.slice (some a) n c,.slice (some b) m d=>zP a b && (Nat.beq n m && Nat.beq c d)
 | _,.map none,.map none=>true
 | _,.map (some a),.map (some b)=>Nat.beq a b
 | _,.nilFunc,.nilFunc=>true
 | _,.nilIface,.nilIface=>true
 | d+1,.func f a b,.func g a' b'=>HE f g && (wV (tB d) a.toList a'.toList && wV (tB d) b.toList b'.toList)
 | d+1,.iface t v,.iface u w=>Nat.beq t u && tB d v w
 | _,_,_=>false
def QJ(a b:AB):Bool :=
 match a,b with
 | .frz,.frz=>true
 | .cells cs T ro,.cells cs' T' ro'=>wV (tB 6) cs cs' && (Nat.beq T T' && (ro == ro'))
 | _,_=>false
def RC(H:Hp AB)(b:Nat):Option (Nat×AB) :=
 match Hp.get H b with
 | some .frz=>some (b,.frz)
 | some (.cells cs T ro)=>some (b,.cells cs T ro)
 | _=>none
def EV(H:Hp AB)(fr:Fr)(o:Op):Option (Nat×AB) :=
 match o with
 | .load _ x=>match ev fr x with
   | .func (.yield 5) ⟨.pointer (some a)::_⟩ _=>RC H a.block
   | .pointer (some a)=>RC H a.block
   | _=>none
 | _=>none
def tZ(H:Hp AB)(b:Nat)(ab:AB):Bool :=
 match Hp.get H b with
 | some x=>Nat.ble b G9 && QJ x ab
 | none=>false
def oJ:Nat:=262144
def zW(m:Mem)(r:Option (Nat×AB))(us:List Rec):Option Mem :=
 match m with
 | ⟨H,_,_,_,lg⟩=>match r with
   | none=>some ⟨hp0,oJ,[],oJ,lg⟩
   | some (b,ab)=>bif r7 (Y1 us) b || !(tZ H b ab)then none else Hp.put hp0 b (some ab) fun H=>some ⟨H,oJ,[],oJ,lg⟩
def iJ(fr:Fr)(m:Mem)(o:Oper)(b:List Nat)(rs:List Rec)(op:OpC):Option (Value×Lg) :=
 match zW m (EV m.H fr o.op) (xJ b rs)with
 | some mv=>match op.run fr mv with
   | some (v,⟨_,_,[],hi,lg⟩)=>bif Nat.beq hi oJ then some (v,lg)else none
   | _=>none
 | none=>none
abbrev Qs:=List (Nat×Option (Nat×AB))
def BL:Nat->G6->Qs->Bool
 | 0,_,_=>true
 | n+1,b,qs=>(r7 b n || qs.any fun q=>Nat.beq n q.1) && BL n b qs
def AJ(i:Nat):List G6->List Oper->Bool
 | c::bs,o::r=>(r7 c i || t7 o.op) && AJ i bs r
 | _,_=>true
def A0H(H:Hp AB)(r:Option (Nat×AB)):Bool :=
 match r with
 | none=>true
 | some (b,ab)=>tZ H b ab
def SM(b:List Nat)(H:Hp AB)(a:Qs):Bool:=a.all fun q=>r7 b q.1 || A0H H q.2
def CN(o:Op)(i:Nat)(b:List Nat)(bs:List G6)(r:List Oper)(a:Qs):Bool:=wrO o && (BL i b a && AJ i bs r)
def i9(P:Program)(nt gl:Nat)(call:M2)(all:List Oper):List Oper->Nat->List G6->List Rec->Qs->S->Option S
 | [],_,_,_,_,s=>some s
 | _::_,_,[],_,_,_=>none
 | o::r,i,b::bs,rs,qs,⟨fr,⟨H,n,W,hi,lg⟩⟩=>match x7 nt fr lg all o,uL nt o.dst && HO nt gl o.op with
   | some (true,lg),true=>bif CN o.op i b bs r qs then(match (U9 P call o).run fr ⟨H,n,W,hi,lg⟩with
      | some (v,m2)=>bif Nat.ble hi m2.hi && SM b m2.H qs then(rF o.dst).run v fr fun fr=>i9 P nt gl call all r (i+1) bs [] qs ⟨fr,m2⟩else none
      | none=>none)
     else match (bif A1X o.op then iJ fr ⟨H,n,W,hi,lg⟩ o b rs (U9 P call o)else none)with
      | some (v,lg2)=>(rF o.dst).run v fr fun a=>i9 P nt gl call all r (i+1) bs rs ((i,EV H fr o.op)::qs) ⟨a,⟨H,n,W,hi,lg2⟩⟩
      | none=>bif t7 o.op then none else LH fr ⟨H,n,W,hi,lg⟩ o b rs (U9 P call o) fun v m2 =>
        (rF o.dst).run v fr fun fr=>i9 P nt gl call all r (i+1) bs (⟨i,n,m2.n⟩::rs) qs ⟨fr,m2⟩
   | some (false,lg),true=>(rF o.dst).run undef fr fun fr=>i9 P nt gl call all r (i+1) bs rs ((i,none)::qs) ⟨fr,⟨H,n,W,hi,lg⟩⟩
   | _,_=>none
def WB(l:List Nat)(b:Nat):G6:=bif r7 l b then l else I4 b fun b=>b::l
def KN:G6->G6->G6
 | [],b=>b
 | x::a,b=>WB (KN a b) x
def oN(acc:List G6):List Edge->G6
 | []=>[]
 | e::r=>bif Region.binds .any e then WB (KN (acc.getD e.on []) (oN acc r)) e.on else oN acc r
def X6:List Oper->List G6->List G6
 | [],acc=>acc
 | o::r,acc=>P5 (oN acc o.after.toList) fun a=>X6 r (acc++[a])
def mO:Operand->List Tmp
 | .tmp t=>[t]
 | _=>[]
def T7(ops:List Oper)(o:Oper):List Tmp :=
 o.dst.toList++(o.op.operands.toList.flatMap mO++(match o.guard with
  | none=>[]
  | some (j,_)=>match ops[j]? with
    | some p=>p.dst.toList
    | none=>[]))
def XL(a:List G6)(i k:Nat):Bool:=bif Nat.blt i k then r7 (a.getD k []) i else r7 (a.getD i []) k
def oS(b:List G6)(i:Nat)(a:List Tmp):List Oper->Nat->Bool
 | [],_=>true
 | p::r,k=>(Nat.beq k i || (match p.dst with|none=>true|some t=>!(r7 a t) || XL b i k)) && oS b i a r (k+1)
def kS(i:Nat):List Edge->Bool
 | []=>true
 | e::r=>(!(Region.binds .any e) || Nat.blt e.on i) && kS i r
def DO(ops:List Oper)(a:List G6):List Oper->Nat->Bool
 | [],_=>true
 | o::r,i=>kS i o.after.toList && (oS a i (T7 ops o) ops 0 && DO ops a r (i+1))
def AY(ops:Array Oper):Bool:=DO ops.toList (X6 ops.toList []) ops.toList 0
def BC:Op->Bool
 | .move _|.assign _|.load _ _|.store _ _ _=>true
 | _=>false
def jM:Op->Option (TypeId×Operand)
 | .load t x=>some (t,x)
 | .store t x _=>some (t,x)
 | _=>none
def dN:Op->Bool
 | .store _ _ _=>true
 | _=>false
def RA:Op->List Tmp
 | .move x|.assign x=>mO x
 | .load _ x=>mO x
 | .store _ x y=>mO x++mO y
 | _=>[]
def xD(o:Oper)(l:List Tmp):Bool :=
 match o.dst with
 | some d=>r7 l d
 | none=>false
def A27(a b:Oper):Bool :=
 (match a.dst,b.dst with
   | some d,some e=>!(Nat.beq d e)
   | _,_=>true) && (!(xD a (RA b.op)) && (!(xD b (RA a.op)) && !(dN a.op && dN b.op)))
def oD(o:Oper)(i:Nat):Bool:=o.after.any fun e=>Region.binds .any e && Nat.beq e.on i
def WC(l:List Oper):List Tmp:=l.flatMap fun o=>match jM o.op with
 | some (_,x)=>mO x
 | none=>[]
def zX(p:Oper->Oper->Bool)(l:List Oper):Bool :=
 (List.range l.length).all fun j=>(List.range j).all fun i=>match l[i]?,l[j]? with
   | some a,some b=>oD b i || p a b
   | _,_=>true
def A1a(a:List Tmp)(i:Nat)(o:Oper):Bool:=BC o.op && ((match o.guard with|none=>true|some _=>false) && (!(xD o a) && o.after.all fun e=>!(Region.binds .any e) || Nat.blt e.on i))
def RP(a:List Tmp):Nat->List Oper->Bool
 | _,[]=>true
 | i,o::l=>A1a a i o && RP a (i+1) l
def iH(l:List Oper):Bool:=RP (WC l) 0 l && zX A27 l
def RI(P:Program)(nt gl:Nat)(fr:Fr)(H:Hp AB)(o:Oper):Bool :=
 match jM o.op with
 | none=>true
 | some (t,x)=>bif !(okX nt gl x)then false else match ev fr x,Z7 P t,G3 P t with
   | .pointer (some a),some _,some s=>match a.spot,Hp.get H a.block with
     | none,some (.cells cs _ false)=>Nat.ble (a.off+s) cs.length && (Nat.blt a.off cs.length && Nat.ble a.block G9)
     | _,_=>false
   | _,_,_=>false
def WA(fr:Fr)(a b:Oper):Bool :=
 bif dN a.op || dN b.op then match jM a.op,jM b.op with
  | some (_,x),some (_,y)=>match ev fr x,ev fr y with
    | .pointer (some p),.pointer (some q)=>!(Nat.beq p.block q.block)
    | _,_=>false
  | _,_=>true else true
def iR(P:Program)(nt gl:Nat)(fr:Fr)(H:Hp AB)(l:List Oper):Bool:=l.all (RI P nt gl fr H) && zX (WA fr) l
structure dV where
 run:S->Option (Ex×S)
def xL(f:dV):Nat->S->Option (Ex×S)
 | 0,_=>none
 | n+1,s=>match f.run s with
   | some (.normal,s)=>xL f n s
   | r=>r
def VO(a b:dV)(s:S):Option (Ex×S) :=
 match a.run s with
 | some (.normal,s)=>b.run s
 | r=>r
def FQ(c:XC)(a b:dV)(s:S):Option (Ex×S) :=
 match c.run s.fr with
 | .bool true=>a.run s
 | .bool false=>b.run s
 | v=>match s with
   | ⟨fr,⟨H,n,W,hi,lg⟩⟩=>match brL lg v with
     | some (true,lg)=>a.run ⟨fr,⟨H,n,W,hi,lg⟩⟩
     | some (false,lg)=>b.run ⟨fr,⟨H,n,W,hi,lg⟩⟩
     | none=>none
def uY(id:Nat)(c:dV)(s:S):Option (Ex×S) :=
 match c.run s with
 | some (.exit j,s)=>bif Nat.beq j id then some (.normal,s)else some (.exit j,s)
 | r=>r
def X1(r:WI)(s:S):Option (Ex×S) :=
 match r.run s with
 | some s=>some (.normal,s)
 | none=>none
structure LpT where
 me:FuncId
 look:List Bool->Option (S->Option (Ex×S))
def xM(c:dV)(L:S->Option (Ex×S)):Nat->S->Option (Ex×S)
 | 0,_=>none
 | n+1,s=>match L s with
   | some r=>some r
   | none=>match c.run s with
     | some (.normal,s)=>xM c L n s
     | r=>r
def FO(c:dV)(l:Option (S->Option (Ex×S)))(s:S):Option (Ex×S) :=
 match l with
 | some f=>xM c f 4 s
 | none=>xL c 1000000 s
def frL(fr:Fr):Nat->Nat->D0
 | _,0=>[]
 | i,n+1=>fr.get i::frL fr (i+1) n
def A0G:Value->Nat
 | .pointer (some a)=>a.block
 | _=>0
def eZ(v:Value):G6 :=
 match v with
 | .func (.yield 8) ⟨l⟩ ⟨[]⟩=>l.map A0G
 | _=>[]
def exN:Ex->Nat
 | .normal=>0
 | .ret=>2
 | .exit k=>k+4
def nEx:Nat->Option Ex
 | 0=>some .normal
 | 1=>none
 | 2=>some .ret
 | 3=>none
 | k+4=>some (.exit k)
def AK:Ex->Bool
 | .normal=>true
 | _=>false
def nC(fr:Fr)(hi:Nat)(b:Nat)(r:Res):Option (Ex×S) :=
 match r with
 | some (_,m)=>match Hp.get m.H b with
   | some (.lp f q vs st)=>match nEx st with
     | some e=>bif Nat.ble hi m.hi then match aK m b (.lp f q vs 3)with
       | some m=>some (e,⟨fr,m⟩)
       | none=>none else none
     | none=>none
   | _=>none
 | none=>none
def nT(P:Program)(f:FuncId):Bool :=
 match P.funcs.toList[f]? with
 | some fn=>match fn.body with
   | some _=>true
   | none=>false
 | none=>false
def aC(P:Program)(nt:Nat)(call:M2)(f:FuncId)(q:List Bool)(g:Value)(fr:Fr)(m:Mem):Option (Ex×S) :=
 P5 (frL fr 0 nt) fun vs=>match Y0 m (.lp f q vs 0) yv with
 | some (v,m1)=>match sC g [v],cB v with
   | some (k,as),some b=>bif nT P k then nC fr m1.hi b ((call.fn k).run as m1)else none
   | _,_=>none
 | none=>none
def uX(P:Program)(nt:Nat)(call:M2)(f:FuncId)(q:List Bool)(x:XC)(s:S):Option (Ex×S) :=
 match s with
 | ⟨fr,m⟩=>bif Nat.ble nt 510 then match cB (fr.get 511)with
   | some d=>match Hp.get m.H d with
     | some (.lp _ _ _ 1)=>aC P nt call f q (x.run fr) fr m
     | _=>none
   | none=>bif kN (fr.get 511)then match Y0 m (.dfr true) (fun b=>.pointer (some ⟨b,0,none⟩))with
      | some (.pointer (some a),m1)=>P5 (eZ (fr.get 510)) fun l=>rB (sel 7) (sel 7) (sel 6) (dv (a.block::l)) fr fun c=>aC P nt call f q (x.run fr) c m1
      | _=>none else none
   else none
def L4(P:Program)(nt gl:Nat)(call:M2)(lp:LpT):List Bool->Code->dV
 | _,.skip=>⟨fun s=>some (.normal,s)⟩
 | _,.label _=>⟨fun s=>some (.normal,s)⟩
 | _,.region _ ops d=>match d with
   | false=>⟨fun s=>X1 (R0 P nt gl call ops.toList ops.toList) s⟩
   | true=>bif AY ops then bif iH ops.toList then⟨fun s=>bif iR P nt gl s.fr s.m.H ops.toList then X1 (R0 P nt gl call ops.toList ops.toList) s else X1 ⟨i9 P nt gl call ops.toList ops.toList 0 (X6 ops.toList []) [] []⟩ s⟩
     else⟨fun s=>X1 ⟨i9 P nt gl call ops.toList ops.toList 0 (X6 ops.toList []) [] []⟩ s⟩else⟨fun _=>none⟩
 | q,.seq a b=>⟨fun s=>VO (L4 P nt gl call lp (q++[false]) a) (L4 P nt gl call lp (q++[true]) b) s⟩
 | q,.cond c a b=>bif okX nt gl c then⟨fun s=>FQ (Q2 c) (L4 P nt gl call lp (q++[false]) a) (L4 P nt gl call lp (q++[true]) b) s⟩else⟨fun _=>none⟩
 | q,.block id c=>⟨fun s=>uY id (L4 P nt gl call lp (q++[false]) c) s⟩
 | q,.loop c=>⟨fun s=>FO (L4 P nt gl call lp (q++[false]) c) (lp.look q) s⟩
 | q,.rangeFunc x _ _ _=>bif okX nt gl x then⟨fun s=>uX P nt call lp.me q (Q2 x) s⟩else⟨fun _=>none⟩
 | q,.scope c=>L4 P nt gl call lp (q++[false]) c
 | _,.exit id=>⟨fun s=>some (.exit id,s)⟩
 | _,.ret=>⟨fun s=>some (.ret,s)⟩
 | _,_=>⟨fun _=>none⟩
def EP(ids:Value->List Nat):D0->G6
 | []=>[]
 | v::r=>ids v++EP ids r
def vX:Nat->Value->G6
 | 0,_=>[]
 | _+1,.pointer (some a)=>[a.block]
 | _+1,.slice (some a) _ _=>[a.block]
 | _+1,.map (some b)=>[b]
 | d+1,.func _ a b=>EP (vX d) a.toList++EP (vX d) b.toList
 | d+1,.iface _ v=>vX d v
 | d+1,.agg cs=>EP (vX d) cs.toList
 | d+1,.tuple cs=>EP (vX d) cs.toList
 | _+1,_=>[]
def A28:AB->G6
 | .cells cs _ _=>EP (vX 10) cs
 | .mp _ _ _=>[]
 | .iter vs=>EP (vX 10) vs
 | .lp _ _ vs _=>EP (vX 10) vs
 | .dfr _=>[]
 | .sq _ _ _ g _=>[g]
 | .frz=>[]
def CZ(n0:Nat)(H:Hp AB):Nat->G6->G6->G6
 | 0,_,acc=>acc
 | _+1,[],acc=>acc
 | f+1,b::r,acc=>bif Nat.blt b n0 || r7 acc b then CZ n0 H f r acc else match Hp.get H b with
   | some ab=>CZ n0 H f (A28 ab++r) (b::acc)
   | none=>CZ n0 H f r acc
def cR(a H:Hp AB):G6->Hp AB
 | []=>H
 | b::r=>Hp.put H b (Hp.get a b) fun H=>cR a H r
def wOf(H:Hp AB):G6->G6
 | []=>[]
 | b::r=>(match Hp.get H b with|some ab=>A28 ab|none=>[])++wOf H r
def lE:G6->G6->G6
 | [],acc=>acc
 | b::r,acc=>bif r7 acc b then lE r acc else lE r (b::acc)
def kX(low:Value->Bool):D0->Bool
 | []=>true
 | v::r=>low v && kX low r
def Z6(n:Nat):Nat->Value->Bool
 | 0,_=>false
 | _+1,.pointer (some a)=>Nat.blt a.block n
 | _+1,.slice (some a) _ _=>Nat.blt a.block n
 | _+1,.map (some b)=>Nat.blt b n
 | d+1,.func _ a b=>kX (Z6 n d) a.toList && kX (Z6 n d) b.toList
 | d+1,.iface _ v=>Z6 n d v
 | d+1,.agg cs=>kX (Z6 n d) cs.toList
 | d+1,.tuple cs=>kX (Z6 n d) cs.toList
 | _+1,.complex _ _ _=>true
 | _+1,v=>H8 v
def XZ(n:Nat):Option AB->Bool
 | none=>true
 | some (.cells cs _ _)=>kX (Z6 n 10) cs
 | some (.mp _ _ _)=>true
 | some (.iter vs)=>kX (Z6 n 10) vs
 | some (.lp _ _ vs _)=>kX (Z6 n 10) vs
 | some (.dfr _)=>true
 | some (.sq _ _ _ g _)=>Nat.blt g n
 | some .frz=>true
def HV(n:Nat)(H:Hp AB):G6->Bool
 | []=>true
 | b::r=>XZ n (Hp.get H b) && HV n H r
def gcM(m m':Mem)(v:Value):Option Mem :=
 let W:=lE (m'.W.filter fun b=>Nat.blt b m.n || Nat.ble m'.hi b) []
 bif Z6 m.n 10 v && HV m.n m'.H W then
  bif BK W then AQ (cR m'.H m.H W) fun H=>I4 m'.hi fun hi=>P5 (W++m.W) fun W=>some ⟨H,m.n,W,hi,m'.lg⟩else none
 else
  let ids:=(CZ m.n m'.H 100000 (vX 10 v++wOf m'.H W) []).filter fun b=>Nat.ble m.n b && Nat.blt b m'.hi
  bif BK (W++ids)then AQ (cR m'.H m.H (W++ids)) fun H=>I4 m'.n fun n=>I4 m'.hi fun hi=>P5 (W++m.W) fun W=>some ⟨H,n,W,hi,m'.lg⟩else none
def A2d(P:Program)(nt:Nat)(s:S):ResultVar->O8
 | .tmp t=>bif Nat.blt t nt then some (s.fr.get t)else none
 | .cell a t=>bif Nat.blt a nt then match s.fr.get a with
   | .pointer (some a)=>KK P s.m t a
   | _=>none else none
def NK(P:Program)(nt:Nat)(s:S):List ResultVar->Option D0
 | []=>some []
 | r::rs=>match A2d P nt s r,NK P nt s rs with
   | some v,some vs=>some (v::vs)
   | _,_=>none
def NJ(fn:Func)(P:Program)(s:S):O8 :=
 match NK P fn.ntmps s fn.results.toList with
 | some [v]=>some v
 | some vs=>some (.tuple ⟨vs⟩)
 | none=>none
def dB(fr:Fr):Nat->D0->Fr
 | _,[]=>fr
 | i,v::r=>rB (sel (i / 64%8)) (sel (i / 8%8)) (sel (i%8)) v fr fun fr=>dB fr (i+1) r
def pK(l:List UInt8)(c:UInt8):Nat->Int
 | i=>match l with
   | [] => -1
   | b::r=>bif decide (b=c)then(i:Int)else pK r c (i+1)
def pU(c:UInt8):List UInt8->Nat->Nat
 | [],n=>n
 | b::r,n=>bif decide (b=c)then I4 (n+1) (pU c r)else pU c r n
def lV(k:EK)(args:List Value)(m:Mem):Res :=
 match k,args with
 | .noEscape,[v]=>some (v,m)
 | .indexByteString,[.string s,.int .u8 (.ofNat c)]=>some (.int .i64 (pK s.data.toList (UInt8.ofNat c) 0),m)
 | .countString,[.string s,.int .u8 (.ofNat c)]=>some (.int .i64 (pU (UInt8.ofNat c) s.data.toList 0),m)
 | .makeNoZero e,[.int .i64 (.ofNat n)]=>bif Nat.ble n 1000000000 then Y0 m (.cells [] e false) fun b=>.slice (some ⟨b,0,none⟩) n L7 else none
 | _,_=>none
def mP:G6->Mem->Option Mem
 | [],m=>some m
 | b::r,m=>match Hp.get m.H b with
   | some (.dfr true)=>match aK m b (.dfr false)with
     | some m=>mP r m
     | none=>none
   | _=>none
def dvG(nt:Nat)(fr:Fr):G6:=bif Nat.ble nt 510 then eZ (fr.get 510)else[]
def A1y(fn:Func)(P:Program)(m:Mem)(r:Option (Ex×S)):Res :=
 match r with
 | some (.normal,⟨fr,m1⟩)|some (.ret,⟨fr,m1⟩)=>match mP (dvG fn.ntmps fr) m1 with
   | some m1=>match NJ fn P ⟨fr,m1⟩with
     | some v=>match gcM m m1 v with
       | some m=>some (v,m)
       | none=>none
     | none=>none
   | none=>none
 | _=>none
def GT(c:dV)(fr:Fr)(m:Mem):Option (Ex×S) :=
 match m with
 | ⟨H,n,_,hi,lg⟩=>c.run ⟨fr,⟨H,n,[],hi,lg⟩⟩
def qX(fn:Func)(P:Program)(c:dV)(args:List Value)(m:Mem):Res :=
 bif Nat.ble args.length fn.ntmps && Nat.ble fn.ntmps 512 then A1y fn P m (GT c (dB fr0 0 args) m)else none
structure Cx where
 P:Program
 ext:List (FuncId×EK)
 gl:Nat
 con:FuncId->Option FnC
 lp:FuncId->LpT
def yO(C:Cx)(call:M2)(f:FuncId):FnC :=
 match C.P.funcs.toList[f]? with
 | none=>⟨fun _ _=>none⟩
 | some fn=>match C.con f with
   | some c=>c
   | none=>match fn.body with
     | none=>match FC C.ext f with
       | some k=>⟨lV k⟩
       | none=>⟨fun _ _=>none⟩
     | some c=>⟨qX fn C.P (L4 C.P fn.ntmps C.gl call (C.lp f) [] c)⟩
def qM:List Tmp->D0->Fr->Option Fr
 | [],[],fr=>some fr
 | t::ts,v::vs,fr=>rB (sel (t / 64%8)) (sel (t / 8%8)) (sel (t%8)) v fr fun fr=>qM ts vs fr
 | _,_,_=>none
def mZ(b:Nat)(r:Option (Ex×S)):Res :=
 match r with
 | some (e,⟨_,m⟩)=>match Hp.get m.H b with
   | some (.lp f q vs 1)=>I4 (exN e) fun st=>match aK m b (.lp f q vs st)with
     | some m=>some (.bool (AK e),m)
     | none=>none
   | _=>none
 | none=>none
def mY(b:Nat)(c:dV)(r:Option (Ex×S)):Res :=
 match r with
 | some (.normal,⟨fr,m⟩)=>match Hp.get m.H b with
   | some (.lp f q vs 0)=>match aK m b (.lp f q vs 1)with
     | some m=>mZ b (c.run ⟨fr,m⟩)
     | none=>none
   | _=>none
 | _=>none
def zU(C:Cx)(call:M2):FnC:=⟨fun vs m =>
 match vs with
 | []=>none
 | v::args=>match cB v with
   | none=>none
   | some b=>match Hp.get m.H b with
     | some (.lp f q fs 0)=>match C.P.funcs.toList[f]? with
       | none=>none
       | some fn=>match fn.body with
         | none=>none
         | some body=>match G5 q body with
           | some (.rangeFunc _ ps as bd)=>bif Nat.ble fn.ntmps 510 && ps.toList.all (fun t=>Nat.blt t fn.ntmps)then match qM ps.toList args (dB fr0 0 fs)with
             | some fr=>rB (sel 7) (sel 7) (sel 7) v fr fun fr=>mY b (L4 C.P fn.ntmps C.gl call (C.lp f) (q++[true]) bd) ((L4 C.P fn.ntmps C.gl call (C.lp f) (q++[false]) as).run ⟨fr,m⟩)
             | none=>none else none
           | _=>none
     | _=>none⟩
def dT(C:Cx):Nat->M2
 | 0=>⟨fun _=>⟨fun _ _=>none⟩,⟨fun _ _=>none⟩⟩
 | d+1=>⟨yO C (dT C d),zU C (dT C d)⟩
end
end Go.Sx
