/- The law KeymapChecks: for every input the call returns true, and the arguments read behind it as they read before. No condition. -/
import Derived.WalkKit
import Derived.OrdersHeld
import Derived.KernelRfl
set_option linter.all false
set_option maxRecDepth 100000
set_option maxHeartbeats 4000000
namespace Go
variable {p:Prop}
abbrev fN:=@Array.all_eq_true'
abbrev J3:=@Array.ext'
abbrev B9:=@Array.getD_eq_getD_getElem?
abbrev T8:=@Array.getElem?_append_left
abbrev F5:=@Array.getElem?_eq_getElem
abbrev D0:=@Array.getElem?_eq_some_iff
abbrev H3:=@Array.getElem?_modify
abbrev l5:=@Array.getElem?_push
abbrev gY:=@Array.getElem?_replicate
abbrev s9:=@Array.getElem?_set
abbrev G3:=@Array.getElem?_setIfInBounds
abbrev Q2:=@Array.getElem?_toList
abbrev S1:=@Array.length_toList
abbrev fS:=@Array.mapM_eq_mapM_toList
abbrev d7:=@Array.mk.injEq
abbrev g8:=@BitVec.toNat_and
abbrev Q7:=@BitVec.toNat_ofInt
abbrev G9:=@Bool.and_eq_true
abbrev mZ:=@Bool.and_false
abbrev oS:=@Bool.and_true
abbrev K5:=@Bool.eq_iff_iff
abbrev mY:=@Bool.false_and
abbrev K0:=@Bool.false_eq_true
abbrev R1:=@Bool.false_or
abbrev R0:=@Bool.not_true
abbrev c9:=@Bool.or_eq_false_iff
abbrev J2:=@Bool.or_eq_true
abbrev gX:=@Bool.true_and
abbrev D4:=@Decidable.not_not
abbrev s8:=@Int.emod_lt_of_pos
abbrev o9:=@Int.emod_nonneg
abbrev iQ:=@Int.eq_ofNat_of_zero_le
abbrev kT:=@Int.ofNat.injEq
abbrev eD:=@Int.ofNat_le
abbrev V3:=@Int.toNat_natCast
abbrev dU:=@Int.toNat_of_nonneg
abbrev kS:=@List.all_append
abbrev cP:=@List.all_cons
abbrev D7:=@List.all_eq_true
abbrev Q9:=@List.any_cons
abbrev bO:=@List.any_eq_false
abbrev Q6:=@List.any_eq_true
abbrev M0:=@List.append_assoc
abbrev L7:=@List.append_nil
abbrev J8:=@List.cons.injEq
abbrev T4:=@List.cons_append
abbrev dG:=@List.count_le_length
abbrev fM:=@List.drop_drop
abbrev i6:=@List.drop_eq_getElem_cons
abbrev S6:=@List.drop_eq_nil_of_le
abbrev fL:=@List.drop_zero
abbrev cH:=@List.eq_nil_iff_forall_not_mem
abbrev N5:=@List.eq_nil_of_length_eq_zero
abbrev bN:=@List.ext_getElem?
abbrev dT:=@List.filter_eq_self
abbrev dL:=@List.find?_cons
abbrev gN:=@List.flatMap_cons
abbrev L3:=@List.flatten_cons
abbrev S9:=@List.flatten_nil
abbrev B0:=@List.getD_eq_getElem?_getD
abbrev F4:=@List.getElem?_append_left
abbrev E4:=@List.getElem?_append_right
abbrev R9:=@List.getElem?_cons_succ
abbrev R8:=@List.getElem?_cons_zero
abbrev I0:=@List.getElem?_drop
abbrev A5:=@List.getElem?_eq_getElem
abbrev U2:=@List.getElem?_eq_none
abbrev fR:=@List.getElem?_eq_none_iff
abbrev B1:=@List.getElem?_eq_some_iff
abbrev F9:=@List.getElem?_map
abbrev dF:=@List.getElem?_set_ne
abbrev S5:=@List.getElem?_set_self
abbrev E8:=@List.getElem?_take_of_lt
abbrev J0:=@List.getElem?_toArray
abbrev O4:=@List.getElem_mem
abbrev j9:=@List.getElem_of_mem
abbrev B4:=@List.length_append
abbrev C8:=@List.length_cons
abbrev E7:=@List.length_drop
abbrev G2:=@List.length_eq_zero_iff
abbrev E9:=@List.length_map
abbrev J7:=@List.length_nil
abbrev dS:=@List.length_pos_iff
abbrev U1:=@List.length_replicate
abbrev Q0:=@List.length_set
abbrev Z0:=@List.length_singleton
abbrev G6:=@List.length_take
abbrev M8:=@List.map_append
abbrev dR:=@List.map_congr_left
abbrev C3:=@List.map_cons
abbrev jX:=@List.map_map
abbrev F8:=@List.map_nil
abbrev B8:=@List.mem_append
abbrev B6:=@List.mem_cons
abbrev C5:=@List.mem_cons_of_mem
abbrev B5:=@List.mem_cons_self
abbrev P9:=@List.mem_filter
abbrev I6:=@List.mem_map
abbrev D1:=@List.mem_of_getElem?
abbrev dE:=@List.mem_of_mem_drop
abbrev dD:=@List.mem_of_mem_take
abbrev fQ:=@List.mem_or_eq_of_mem_set
abbrev X4:=@List.mem_range
abbrev M7:=@List.mem_singleton
abbrev H1:=@List.nil_append
abbrev bM:=@List.nodup_append
abbrev kP:=@List.nodup_cons
abbrev mX:=@List.nodup_nil
abbrev K4:=@List.not_mem_nil
abbrev bS:=@List.take_append_drop
abbrev bL:=@List.take_of_length_le
abbrev cO:=@Nat.add_assoc
abbrev jW:=@Nat.add_comm
abbrev H7:=@Nat.add_mul
abbrev X3:=@Nat.add_sub_cancel_left
abbrev jV:=@Nat.add_zero
abbrev cG:=@Nat.and_le_right
abbrev dQ:=@Nat.and_mod_two_pow
abbrev eC:=@Nat.beq_refl
abbrev pY:=@Nat.ble_eq
abbrev C7:=@Nat.ble_eq_true_of_le
abbrev A0:=@Nat.eq_of_beq_eq_true
abbrev T7:=@Nat.eq_zero_or_pos
abbrev A1:=@Nat.le_of_ble_eq_true
abbrev jU:=@Nat.le_of_lt
abbrev A6:=@Nat.le_refl
abbrev X7:=@Nat.le_succ
abbrev C6:=@Nat.le_trans
abbrev D6:=@Nat.lt_of_lt_of_le
abbrev G1:=@Nat.lt_or_ge
abbrev J5:=@Nat.lt_succ_self
abbrev g7:=@Nat.mod_eq_of_lt
abbrev pX:=@Nat.mod_lt
abbrev bK:=@Nat.mul_comm
abbrev s5:=@Nat.mul_div_cancel
abbrev fK:=@Nat.mul_le_mul
abbrev G0:=@Nat.mul_le_mul_right
abbrev gM:=@Nat.one_mul
abbrev dC:=@Nat.pow_le_pow_right
abbrev jT:=@Nat.sub_self
abbrev Z3:=@Nat.succ_le_of_lt
abbrev F7:=@Nat.zero_add
abbrev mW:=@Nat.zero_le
abbrev jS:=@Nat.zero_mul
abbrev B3:=@Option.bind_eq_some_iff
abbrev D9:=@Option.bind_some
abbrev cF:=@Option.getD_some
abbrev bJ:=@Option.map_eq_some_iff
abbrev L6:=@Option.map_some
abbrev A8:=@Option.some.inj
abbrev D5:=@Option.some.injEq
abbrev L9:=@Prod.mk.injEq
abbrev A4:=@Sem.run_bind
abbrev E3:=@cond_false
abbrev E6:=@cond_true
abbrev E1:=@congrArg
abbrev E5:=@decide_eq_false
abbrev J9:=@decide_eq_true
abbrev A7:=@if_neg
abbrev A9:=@if_pos
abbrev I5:=@of_decide_eq_true
def C4(h:p:=by kernel_rfl):p:=h
def K9{α:Type}{a:Option α}{b c:α}(h:a=some b)(e:b=c:=by kernel_rfl):a=some c:=h.trans (by rw[e])
def A2(h:p:=by omega):p:=h
def F3(h:p:=by decide):p:=h
end Go
namespace Go.Sx
section
open Go
abbrev D3:=List Value
abbrev H5:=List Nat
abbrev R3:=Option Value
abbrev X1:=Array Value
structure N8 (α:Type) where
 c0:α
 c1:α
 c2:α
 c3:α
 c4:α
 c5:α
 c6:α
 c7:α
structure Sel where
 get:{α:Type}->N8 α->α
 upd:{α β:Type}->N8 α->α->(N8 α->β)->β
def sel:Nat->Sel
 | 0=>⟨fun n=>n.c0,fun n v k=>match n with|⟨a0,a1,a2,a3,a4,a5,a6,a7⟩=>k ⟨v,a1,a2,a3,a4,a5,a6,a7⟩⟩
 | 1=>⟨fun n=>n.c1,fun n v k=>match n with|⟨a0,a1,a2,a3,a4,a5,a6,a7⟩=>k ⟨a0,v,a2,a3,a4,a5,a6,a7⟩⟩
 | 2=>⟨fun n=>n.c2,fun n v k=>match n with|⟨a0,a1,a2,a3,a4,a5,a6,a7⟩=>k ⟨a0,a1,v,a3,a4,a5,a6,a7⟩⟩
 | 3=>⟨fun n=>n.c3,fun n v k=>match n with|⟨a0,a1,a2,a3,a4,a5,a6,a7⟩=>k ⟨a0,a1,a2,v,a4,a5,a6,a7⟩⟩
 | 4=>⟨fun n=>n.c4,fun n v k=>match n with|⟨a0,a1,a2,a3,a4,a5,a6,a7⟩=>k ⟨a0,a1,a2,a3,v,a5,a6,a7⟩⟩
 | 5=>⟨fun n=>n.c5,fun n v k=>match n with|⟨a0,a1,a2,a3,a4,a5,a6,a7⟩=>k ⟨a0,a1,a2,a3,a4,v,a6,a7⟩⟩
 | 6=>⟨fun n=>n.c6,fun n v k=>match n with|⟨a0,a1,a2,a3,a4,a5,a6,a7⟩=>k ⟨a0,a1,a2,a3,a4,a5,v,a7⟩⟩
 | _=>⟨fun n=>n.c7,fun n v k=>match n with|⟨a0,a1,a2,a3,a4,a5,a6,a7⟩=>k ⟨a0,a1,a2,a3,a4,a5,a6,v⟩⟩
def pW{α:Type}(v:α):N8 α:=⟨v,v,v,v,v,v,v,v⟩
def HI{α β:Type}(n:N8 α)(k:N8 α->β):β :=
 match n with
 | ⟨a0,a1,a2,a3,a4,a5,a6,a7⟩=>k ⟨a0,a1,a2,a3,a4,a5,a6,a7⟩
abbrev Fr:=N8 (N8 (N8 Value))
def Fr.get(fr:Fr)(t:Nat):Value:=(sel (t%8)).get ((sel (t / 8%8)).get ((sel (t / 64%8)).get fr))
def wI{β:Type}(a b c:Sel)(v:Value)(fr:Fr)(k:Fr->β):β :=
 c.upd (b.get (a.get fr)) v fun e=>b.upd (a.get fr) e fun d=>a.upd fr d k
def Fr.set(fr:Fr)(t:Nat)(v:Value):Fr:=wI (sel (t / 64%8)) (sel (t / 8%8)) (sel (t%8)) v fr fun fr=>fr
def fr0:Fr:=pW (pW (pW (.tuple #[])))
abbrev Hp(α:Type):=N8 (N8 (N8 (N8 (N8 (N8 (Option α))))))
def Hp.get{α:Type}(h:Hp α)(n:Nat):Option α :=
 (sel (n%8)).get ((sel (n / 8%8)).get ((sel (n / 64%8)).get ((sel (n / 512%8)).get ((sel (n / 4096%8)).get ((sel (n / 32768%8)).get h)))))
def Y5{α β:Type}(a b c d e f:Sel)(v:Option α)(h:Hp α)(k:Hp α->β):β :=
 f.upd (e.get (d.get (c.get (b.get (a.get h))))) v fun m=>e.upd (d.get (c.get (b.get (a.get h)))) m fun i=>d.upd (c.get (b.get (a.get h))) i fun g=>c.upd (b.get (a.get h)) g fun j=>b.upd (a.get h) j fun l=>a.upd h l k
def Hp.put{α β:Type}(h:Hp α)(n:Nat)(v:Option α)(k:Hp α->β):β :=
 Y5 (sel (n / 32768%8)) (sel (n / 4096%8)) (sel (n / 512%8)) (sel (n / 64%8)) (sel (n / 8%8)) (sel (n%8)) v h k
def Hp.set{α:Type}(h:Hp α)(n:Nat)(v:Option α):Hp α:=h.put n v fun h=>h
def hp0{α:Type}:Hp α:=pW (pW (pW (pW (pW (pW none)))))
def H8:Nat:=262143
def K1{β:Type}(n:Nat)(k:Nat->β):β :=
 match n with
 | 0=>k 0
 | m+1=>k (Nat.succ m)
def AE{β:Type}(i:Int)(k:Int->β):β :=
 match i with
 | .ofNat n=>K1 n fun n=>k (.ofNat n)
 | .negSucc n=>K1 n fun n=>k (.negSucc n)
def S0{α β:Type}:List α->(List α->β)->β
 | [],k=>k []
 | x::r,k=>S0 r fun r=>k (x::r)
def NY:IntKind->Nat
 | .i8=>127|.i16=>32767|.i32=>2147483647|.i64=>9223372036854775807
 | .u8=>255|.u16=>65535|.u32=>4294967295|.u64=>18446744073709551615
def CN(k:IntKind)(n:Int):Int :=
 match n with
 | .ofNat m=>bif Nat.ble m (NY k)then .ofNat m else k.wrap (.ofNat m)
 | .negSucc m=>k.wrap (.negSucc m)
def B1u(a b:Int):Int :=
 match a,b with
 | .ofNat m,.ofNat n=>.ofNat (Nat.add m n)
 | a,b=>a+b
def A8C(a b:Int):Int :=
 match a,b with
 | .ofNat m,.ofNat n=>bif Nat.ble n m then .ofNat (Nat.sub m n)else .ofNat m - .ofNat n
 | a,b=>a-b
def B0O(a b:Int):Int :=
 match a,b with
 | .ofNat m,.ofNat n=>.ofNat (Nat.mul m n)
 | a,b=>a*b
def ltF(a b:Int):Bool :=
 match a,b with
 | .ofNat m,.ofNat n=>Nat.blt m n
 | .negSucc _,.ofNat _=>true
 | .ofNat _,.negSucc _=>false
 | .negSucc m,.negSucc n=>Nat.blt n m
def leF(a b:Int):Bool :=
 match a,b with
 | .ofNat m,.ofNat n=>Nat.ble m n
 | .negSucc _,.ofNat _=>true
 | .ofNat _,.negSucc _=>false
 | .negSucc m,.negSucc n=>Nat.ble n m
def CJ(a b:Int):Bool :=
 match a,b with
 | .ofNat m,.ofNat n=>Nat.beq m n
 | .negSucc m,.negSucc n=>Nat.beq m n
 | _,_=>false
def uV:IntKind->IntKind->Bool
 | .i8,.i8|.i16,.i16|.i32,.i32|.i64,.i64|.u8,.u8|.u16,.u16|.u32,.u32|.u64,.u64=>true
 | _,_=>false
def mkI(k:IntKind)(n:Int):Value:=AE n fun n=>.int k n
inductive U where
 | none
 | int (k:IntKind) (n:Int)
 | bool (b:Bool)
 | str (s:List UInt8)
 | seq (nul:Bool) (w:Nat) (rows:List (List U))
inductive LOp where
 | bin (op:BinOp)
 | un (op:UnOp)
 | conv (k:IntKind)
 | len
 | idx
 | sub
 | sub1
 | sel
 | eqs
 | inb
 | max
 | min
 | mks
 | inbs (w:Nat)
 | get (w o:Nat)
 | mk (w:Nat)
 | nilw (w:Nat)
 | nilp
 | snoc (w:Nat)
 | cat (w:Nat)
 | cats
 | set (w o:Nat)
 | subs (w:Nat)
 | str
 | byt
 | rep (w:Nat)
 | ustr
 | mhas (w kw:Nat)
 | mget (w kw o:Nat)
 | mput (w kw:Nat)
 | rune
 | rpos
inductive n7 where
 | lt (i t:Nat) (op:LOp) (xs:List Value)
 | dt (i t:Nat) (op:LOp) (xs:List Value)
 | br (i:Nat) (b:Bool)
 | as (op:LOp) (xs:List Value)
 | con (spec:List U->Option (Nat×List U)) (xs:List Value) (i d n:Nat)
structure Lg where
 nx:Nat
 pi:H5
 log:List n7
def hole(i t:Nat):Value:=.complex .f64 i t
def junk:Value:=.complex .f32 0 0
def ixp(a:Addr)(s:Nat)(i:Value)(n:Nat):Value:=.func (.yield 1) ⟨[.pointer (some a),.int .i64 (.ofNat s),i,.int .i64 (.ofNat n)]⟩ ⟨[]⟩
def dat(b i t:Nat):Value:=.func (.yield 2) ⟨[.pointer (some ⟨b,0,none⟩),.complex .f64 i t]⟩ ⟨[]⟩
def clp(b i t:Nat):Value:=.func (.yield 3) ⟨[.pointer (some ⟨b,0,none⟩),.complex .f64 i t]⟩ ⟨[]⟩
def own(b i t:Nat):Value:=.func (.yield 4) ⟨[.pointer (some ⟨b,0,none⟩),.complex .f64 i t]⟩ ⟨[]⟩
def dpt(b i t:Nat)(z:Value)(o:Nat):Value:=.func (.yield 5) ⟨[.pointer (some ⟨b,0,none⟩),.complex .f64 i t,z,.int .i64 (.ofNat o)]⟩ ⟨[]⟩
def opt(b i t:Nat)(z:Value)(o:Nat):Value:=.func (.yield 6) ⟨[.pointer (some ⟨b,0,none⟩),.complex .f64 i t,z,.int .i64 (.ofNat o)]⟩ ⟨[]⟩
def yv(b:Nat):Value:=.func (.yield 7) ⟨[.pointer (some ⟨b,0,none⟩)]⟩ ⟨[]⟩
def sdt(b:Nat):Value:=.func (.yield 9) ⟨[.pointer (some ⟨b,0,none⟩)]⟩ ⟨[]⟩
def dv(ids:List Nat):Value:=.func (.yield 8) ⟨ids.map fun b=>.pointer (some ⟨b,0,none⟩)⟩ ⟨[]⟩
def A1v:Value->Bool
 | .complex .f32 _ _=>true
 | _=>false
def one:Value:=.complex .f32 1 0
def jG:Value->Bool
 | .complex .f32 i _=>!(Nat.beq i 1)
 | _=>false
def iH:IntKind->Nat
 | .i8=>0|.i16=>1|.i32=>2|.i64=>3|.u8=>4|.u16=>5|.u32=>6|.u64=>7
def G8:Value->Nat
 | .int k _=>iH k
 | .bool _=>8
 | .string _=>9
 | .complex .f64 _ t=>t
 | _=>99
inductive AB where
 | cells (cs:List Value) (T:TypeId) (ro:Bool)
 | sq (c t:Nat) (T:TypeId) (g:Nat) (ro:Bool)
 | frz
 | mp (c t:Nat) (T:TypeId)
 | iter (vs:List Value)
 | lp (f:FuncId) (q:List Bool) (vs:List Value) (st:Nat)
 | dfr (b:Bool)
structure Mem where
 H:Hp AB
 n:Nat
 W:H5
 hi:Nat
 lg:Lg
structure S where
 fr:Fr
 m:Mem
inductive Ex where
 | normal
 | exit (id:Nat)
 | ret
def G7:List Bool->Code->Option Code
 | [],c=>some c
 | false::q,.seq a _=>G7 q a
 | true::q,.seq _ b=>G7 q b
 | false::q,.cond _ a _=>G7 q a
 | true::q,.cond _ _ b=>G7 q b
 | false::q,.block _ c=>G7 q c
 | false::q,.scope c=>G7 q c
 | false::q,.loop c=>G7 q c
 | false::q,.rangeFunc _ _ a _=>G7 q a
 | true::q,.rangeFunc _ _ _ b=>G7 q b
 | _::_,_=>none
def N6:Nat:=9223372036854775808
def I8:Value->Bool
 | .bool _|.int _ _|.string _|.pointer none|.slice none _ _|.map none|.nilFunc|.nilIface=>true
 | _=>false
def SE:Value->Bool
 | .agg cs=>cs.toList.all I8
 | v=>I8 v
def ev(fr:Fr):Operand->Value
 | .tmp t=>fr.get t
 | .const v=>v
 | .global g=>.pointer (some ⟨g,0,none⟩)
 | .func f=>.func (.func f) #[] #[]
def okX(nt gl:Nat):Operand->Bool
 | .tmp t=>Nat.blt t nt
 | .const v=>SE v
 | .global g=>Nat.blt g gl
 | .func _=>true
def evL(fr:Fr):List Operand->D3
 | []=>[]
 | x::r=>ev fr x::evL fr r
def evP(fr:Fr):List (Nat×Operand)->List (Nat×Value)
 | []=>[]
 | (i,x)::r=>(i,ev fr x)::evP fr r
def evO(fr:Fr):Option Operand->R3
 | none=>none
 | some x=>some (ev fr x)
structure XC where
 run:Fr->Value
def B4U(a b c:Sel):XC:=⟨fun fr=>c.get (b.get (a.get fr))⟩
def S7:Operand->XC
 | .tmp t=>B4U (sel (t / 64%8)) (sel (t / 8%8)) (sel (t%8))
 | .const v=>⟨fun _=>v⟩
 | .global g=>⟨fun _=>.pointer (some ⟨g,0,none⟩)⟩
 | .func f=>⟨fun _=>.func (.func f) #[] #[]⟩
def eJ(x:Operand)(fr:Fr):(S7 x).run fr=ev fr x:=by cases x<;>rfl
structure LC where
 run:Fr->D3
def B1V(x:XC)(r:LC)(fr:Fr):D3:=x.run fr::r.run fr
def vU:List Operand->LC
 | []=>⟨fun _=>[]⟩
 | x::r=>⟨fun fr=>B1V (S7 x) (vU r) fr⟩
def oB(fr:Fr):∀ xs:List Operand,(vU xs).run fr=evL fr xs
 | []=>rfl
 | x::r=>by
   show(S7 x).run fr::(vU r).run fr=_;rw[eJ,oB fr r];rfl
abbrev Res:=Option (Value×Mem)
def upN(hi n:Nat):Nat:=bif Nat.blt n hi then hi else Nat.succ n
def Mem.wLg(m:Mem)(lg:Lg):Mem :=
 match m with
 | ⟨H,n,W,hi,_⟩=>⟨H,n,W,hi,lg⟩
def U5(m:Mem)(t:Nat)(op:LOp)(xs:List Value):Res :=
 match m with
 | ⟨H,n,W,hi,⟨nx,pi,log⟩⟩=>K1 nx fun nx=>K1 t fun t=>S0 xs fun xs=>some (hole nx t,⟨H,n,W,hi,⟨Nat.succ nx,pi,.lt nx t op xs::log⟩⟩)
def wJ(m:Mem)(t:Nat)(op:LOp)(xs:List Value)(k:Nat->Mem->Res):Res :=
 match m with
 | ⟨H,n,W,hi,⟨nx,pi,log⟩⟩=>K1 nx fun nx=>K1 t fun t=>S0 xs fun xs=>k nx ⟨H,n,W,hi,⟨Nat.succ nx,pi,.dt nx t op xs::log⟩⟩
def AI:List n7->Nat->Option Bool
 | [],_=>none
 | .br j b::r,i=>bif Nat.beq j i then some b else AI r i
 | _::r,i=>AI r i
def brL(lg:Lg)(c:Value):Option (Bool×Lg) :=
 match c with
 | .bool b=>some (b,lg)
 | .complex .f64 i 8=>match lg with
   | ⟨nx,pi,log⟩=>match AI log i with
     | some b=>some (b,⟨nx,pi,log⟩)
     | none=>match pi with
       | 1::r=>some (true,⟨nx,r,.br i true::log⟩)
       | 0::r=>some (false,⟨nx,r,.br i false::log⟩)
       | _=>none
 | _=>none
def Z9(m:Mem)(ab:AB)(k:Nat->Value):Res :=
 match m with
 | ⟨H,n,W,hi,lg⟩=>bif Nat.ble n H8 then K1 n fun n=>K1 (upN hi n) fun hi=>Hp.put H n (some ab) fun H=>some (k n,⟨H,Nat.succ n,W,hi,lg⟩)else none
def cQ(m:Mem)(id:Nat)(ab:AB):Option Mem :=
 match m with
 | ⟨H,n,W,hi,lg⟩=>bif Nat.ble id H8 then Hp.put H id (some ab) fun H=>K1 id fun id=>some ⟨H,n,id::W,hi,lg⟩else none
def kF(m:Mem)(id:Nat):Mem :=
 match m with
 | ⟨H,n,W,hi,lg⟩=>Hp.put H id none fun H=>K1 id fun id=>⟨H,n,id::W,hi,lg⟩
def A2X(cs:List Value)(o n:Nat):Option D3 :=
 let r:=(cs.drop o).take n
 bif Nat.beq r.length n then some r else none
def u6(m:Mem)(a:Addr)(n:Nat):Option D3 :=
 match a.spot,Hp.get m.H a.block with
 | none,some (.cells cs _ _)=>A2X cs a.off n
 | _,_=>none
def cT:D3->Nat->D3->D3
 | cs,_,[]=>cs
 | cs,k,v::r=>cT (cs.set k v) (k+1) r
def flat:Value->Bool
 | .agg _|.tuple _=>false
 | .complex .f32 i _=>Nat.beq i 1
 | _=>true
def oT(m:Mem)(a:Addr)(vs:List Value):Option Mem :=
 match a.spot,Hp.get m.H a.block with
 | none,some (.cells cs T false) =>
   bif Nat.ble (a.off+vs.length) cs.length && vs.all flat then S0 (cT cs a.off vs) fun cs=>cQ m a.block (.cells cs T false)else none
 | _,_=>none
variable (P:Program)
def aW(t:TypeId):Option Bool :=
 match P.underlying t with
 | some (.struct _)|some (.array _ _)=>some true
 | some _=>some false
 | none=>none
def H4(t:TypeId):Option Nat :=
 match P.info? t with
 | some i=>some i.size
 | none=>none
def fT(t:TypeId):R3 :=
 match P.info? t with
 | some i=>match i.zero with
   | some v=>bif SE v then some v else none
   | none=>none
 | none=>none
def SW(m:Mem)(t:TypeId)(a:Addr):R3 :=
 match aW P t with
 | some true=>match H4 P t with
   | some n=>match u6 m a n with
     | some cs=>some (.agg ⟨cs⟩)
     | none=>none
   | none=>none
 | some false=>match u6 m a 1 with
   | some (v::_)=>some v
   | _=>none
 | none=>none
def yE(m:Mem)(t:TypeId)(a:Addr)(v:Value):Option Mem :=
 match H4 P t with
 | some n=>bif Nat.beq v.cells.size n && !(jG v)then oT m a v.cells.toList else none
 | none=>none
def rV(t:TypeId)(cs:List Value)(off:Nat):R3 :=
 match aW P t with
 | some true=>match H4 P t with
   | some n=>match A2X cs off n with
     | some r=>some (.agg ⟨r⟩)
     | none=>none
   | none=>none
 | some false=>cs[off]?
 | none=>none
def A5D(e:TypeId)(s i:Nat):Field:={ name := "x",type:=e,offset:=i*s,embedded:=false,tag := "",pkgPath := "",byteOffset:=0 }
mutual
def eqM:Nat->TypeId->Value->Value->Option Bool
 | 0,_,_,_=>none
 | d+1,t,x,y=>match P.underlying t,x,y with
   | some .bool,.bool a,.bool b=>some (a == b)
   | some (.int _),.int k a,.int j b=>bif decide (k=j)then some (a == b)else none
   | some .string,.string a,.string b=>some (a.data.toList == b.data.toList)
   | some (.pointer _),.pointer none,.pointer b=>some b.isNone
   | some (.pointer _),.pointer (some _),.pointer none=>some false
   | some (.interface _),.nilIface,.nilIface=>some true
   | some (.interface _),.nilIface,.iface _ _=>some false
   | some (.interface _),.iface _ _,.nilIface=>some false
   | some (.interface _),.iface tx vx,.iface ty vy=>bif Nat.beq tx ty then(match P.info? tx with
     | some i=>bif i.comparable then eqM d tx vx vy else none
     | none=>none)else some false
   | some (.slice _),.slice none _ _,.slice b _ _=>some b.isNone
   | some (.slice _),.slice (some _) _ _,.slice none _ _=>some false
   | some (.map _ _),.map none,.map b=>some b.isNone
   | some (.func _ _ _),.nilFunc,.nilFunc=>some true
   | some (.func _ _ _),.nilFunc,.func (.func _) _ _=>some false
   | some (.func _ _ _),.func (.func _) _ _,.nilFunc=>some false
   | some (.struct fs),.agg xs,.agg ys=>bif P.stoodInHeld t then none else eqF d fs.toList xs.toList ys.toList
   | some (.array n e),.agg xs,.agg ys=>match H4 P e with
     | some s=>eqF d ((List.range n).map (A5D e s)) xs.toList ys.toList
     | none=>none
   | _,_,_=>none
def eqF:Nat->List Field->D3->D3->Option Bool
 | 0,_,_,_=>none
 | _+1,[],_,_=>some true
 | d+1,f::fs,xs,ys =>
   bif f.name == "_" then none else
   match rV P f.type xs f.offset,rV P f.type ys f.offset with
   | some x,some y=>match eqM d f.type x y with
     | some true=>eqF d fs xs ys
     | some false=>some false
     | none=>none
   | _,_=>none
end
def isC:Operand->Bool
 | .const _=>true
 | _=>false
def mE(t:TypeId)(x y:Operand)(a b:Value):Bool :=
 match a,b with
 | .nilIface,.nilIface=>isC x || isC y
 | .agg _,.agg _=>!P.eqGuardType P.depth t
 | a,b=>!(A1v a) && !(A1v b)
def BI(op:BinOp)(k:IntKind)(x y:Int):R3 :=
 match op with
 | .and=>some (.int k (k.wrap (BitVec.ofInt k.bits x &&& BitVec.ofInt k.bits y).toNat))
 | .or=>some (.int k (k.wrap (BitVec.ofInt k.bits x ||| BitVec.ofInt k.bits y).toNat))
 | .xor=>some (.int k (k.wrap (BitVec.ofInt k.bits x ^^^ BitVec.ofInt k.bits y).toNat))
 | .andNot=>some (.int k (k.wrap (BitVec.ofInt k.bits x &&& ~~~BitVec.ofInt k.bits y).toNat))
 | _=>none
def ltL:List UInt8->List UInt8->Bool
 | _,[]=>false
 | [],_::_=>true
 | a::x,b::y=>a<b || (a == b && ltL x y)
def kX(op:BinOp)(k:IntKind)(a b:Int):R3 :=
 match op with
 | .add=>some (mkI k (CN k (B1u a b)))
 | .sub=>some (mkI k (CN k (A8C a b)))
 | .mul=>some (mkI k (CN k (B0O a b)))
 | .quo=>bif CJ b 0 then none else some (mkI k (k.wrap (a.tdiv b)))
 | .rem=>bif CJ b 0 then none else some (mkI k (a.tmod b))
 | .eql=>some (.bool (CJ a b))
 | .neq=>some (.bool (!(CJ a b)))
 | .lss=>some (.bool (ltF a b))
 | .leq=>some (.bool (leF a b))
 | .gtr=>some (.bool (ltF b a))
 | .geq=>some (.bool (leF b a))
 | op=>BI op k a b
def ON(left:Bool)(k:IntKind)(a:Int)(b:Nat):Value :=
 bif left then mkI k (k.wrap (a*2 ^ (min b k.bits)))else mkI k (a.fdiv (2 ^ (min b k.bits)))
def YD(op:BinOp)(a b:ByteArray):R3 :=
 match op with
 | .add=>bif Nat.ble (a.size+b.size) 1000000000 then S0 (a.data.toList++b.data.toList) fun l=>some (.string ⟨⟨l⟩⟩)else none
 | .eql=>some (.bool (a.data.toList == b.data.toList))
 | .neq=>some (.bool (!(a.data.toList == b.data.toList)))
 | .lss=>some (.bool (ltL a.data.toList b.data.toList))
 | .leq=>some (.bool (ltL a.data.toList b.data.toList || (a.data.toList == b.data.toList)))
 | .gtr=>some (.bool (!(ltL a.data.toList b.data.toList || (a.data.toList == b.data.toList))))
 | .geq=>some (.bool (!(ltL a.data.toList b.data.toList)))
 | _=>none
def DH(op:BinOp)(t:TypeId)(x y:Value):R3 :=
 match op with
 | .eql=>match eqM P 20 t x y with
   | some b=>some (.bool b)
   | none=>none
 | .neq=>match eqM P 20 t x y with
   | some b=>some (.bool (!b))
   | none=>none
 | _=>none
def iI:BinOp->Option Bool
 | .shl=>some true
 | .shr=>some false
 | _=>none
def aY(op:BinOp)(k j:IntKind)(a b:Int):R3 :=
 match iI op with
 | some l=>match b with
   | .ofNat n=>some (ON l k a n)
   | .negSucc _=>none
 | none=>bif uV k j then kX op k a b else none
def sZ(op:BinOp)(t:TypeId)(x y:Value):R3 :=
 match x,y with
 | .int k a,.int j b=>aY op k j a b
 | .string a,.string b=>YD op a b
 | x,y=>DH P op t x y
def unM(op:UnOp)(x:Value):R3 :=
 match op,x with
 | .neg,.int k n=>some (mkI k (k.wrap (0-n)))
 | .xor,.int k n=>BI .xor k (if k.signed then -1 else k.max) n
 | .not,.bool b=>some (.bool !b)
 | _,_=>none
def bytesOf:D3->Option (List UInt8)
 | []=>some []
 | .int .u8 n::r=>match bytesOf r with
   | some l=>some (UInt8.ofNat n.toNat::l)
   | none=>none
 | _::_=>none
def Q1(l:List UInt8):D3:=l.map fun b=>.int .u8 b.toNat
def EQ(m:Mem)(s t:TypeId)(x:Value):Res :=
 match P.underlying s,P.underlying t,x with
 | some _,some (.int k),.int _ n=>some (mkI k (CN k n),m)
 | some _,some .string,.string b=>some (.string b,m)
 | some _,some .string,.int _ n=>some (.string (Utf8.encode n),m)
 | some _,some (.slice e),.string b=>match P.underlying e with
   | some (.int .u8)=>match H4 P e with
     | some 1=>S0 (Q1 b.data.toList) fun cs=>Z9 m (.cells cs e false) fun i=>.slice (some ⟨i,0,none⟩) b.size N6
     | _=>none
   | _=>none
 | some (.slice e),some .string,.slice none _ _=>match P.underlying e with
   | some (.int .u8)=>some (.string ByteArray.empty,m)
   | _=>none
 | some (.slice e),some .string,.slice (some a) n _=>match P.underlying e with
   | some (.int .u8)=>match u6 m a n with
     | some cs=>match bytesOf cs with
       | some l=>some (.string ⟨⟨l⟩⟩,m)
       | none=>none
     | none=>none
   | _=>none
 | _,_,_=>none
def AJ(place:Nat->Option (Nat×Nat))(cells:List Value):List (Nat×Value)->Option D3
 | []=>some cells
 | (i,v)::rest=>match place i with
   | none=>none
   | some (off,size) =>
     bif (Nat.beq v.cells.size size && !(jG v)) && Nat.ble (off+v.cells.size) cells.length then S0 (cT cells off v.cells.toList) fun cs=>AJ place cs rest else none
def rT:List Field->Option (List (Nat×Nat))
 | []=>some []
 | f::r=>match H4 P f.type,rT r with
   | some n,some l=>some ((f.offset,n)::l)
   | _,_=>none
def KA(z:List Value):Nat->D3
 | 0=>[]
 | n+1=>z++KA z n
def FM(e:TypeId)(n:Nat):Option D3 :=
 match H4 P e with
 | some s=>bif Nat.beq (n*s) 0 then some []else match fT P e with
   | some z=>bif Nat.beq z.cells.size s then some (KA z.cells.toList n)else none
   | none=>none
 | none=>none
def QK(t:TypeId)(parts:List (Nat×Value)):R3 :=
 match fT P t,P.underlying t with
 | some z,some (.struct fs)=>match rT P fs.toList with
   | some ps=>match AJ (ps[·]?) z.cells.toList parts with
     | some cs=>some (.agg ⟨cs⟩)
     | none=>none
   | none=>none
 | some z,some (.array _ e)=>match H4 P e with
   | some s=>match AJ (fun i=>some (i*s,s)) z.cells.toList parts with
     | some cs=>some (.agg ⟨cs⟩)
     | none=>none
   | none=>none
 | _,_=>none
def dA(m:Mem)(t:TypeId)(n:Nat)(parts:List (Nat×Value)):Res :=
 match P.underlying t with
 | some (.slice e)=>match H4 P e,FM P e n with
   | some s,some zs=>bif Nat.ble (n*s) 16777216 && Nat.blt n N6 then match AJ (fun i=>some (i*s,s)) zs parts with
     | some cs=>Z9 m (.cells cs e false) fun i=>.slice (some ⟨i,0,none⟩) n n
     | none=>none else none
   | _,_=>none
 | _=>none
def eW(m:Mem)(t:TypeId)(l c:Value):Res :=
 match P.underlying t,l,c with
 | some (.slice e),.int _ (.ofNat l),.int _ (.ofNat c)=>match P.info? e with
   | some i=>bif Nat.ble l c && Nat.ble c 10000000 && Nat.ble (c*i.bytes) 100000000 then match FM P e c with
     | some a=>S0 a fun a=>Z9 m (.cells a e false) fun k=>.slice (some ⟨k,0,none⟩) l c
     | none=>none else none
   | none=>none
 | _,_,_=>none
def bY(a:Addr)(n:Nat):Addr:=K1 (a.off+n) fun o=>⟨a.block,o,none⟩
def cY(s:TypeId)(x:Value)(i:Nat):R3 :=
 match P.underlying s,x with
 | some (.struct fs),.pointer (some a)=>match fs.toList[i]?,a.spot with
   | some f,none=>match H4 P f.type with
     | some (_+1)=>some (.pointer (some (bY a f.offset)))
     | _=>none
   | _,_=>none
 | _,_=>none
def HL(t:TypeId)(x:Value)(i:Nat):R3 :=
 match P.underlying t,x with
 | some (.struct fs),.agg cs=>match fs.toList[i]? with
   | some f=>rV P f.type cs.toList f.offset
   | none=>none
 | _,_=>none
def Y4(t:TypeId)(x i:Value):R3 :=
 match P.underlying t,x,i with
 | some (.array n e),.pointer (some a),.int _ (.ofNat k)=>match H4 P e,a.spot with
   | some s,none=>bif Nat.blt k n then some (.pointer (some (bY a (k*s))))else none
   | _,_=>none
 | some (.slice e),.slice (some a) n _,.int _ (.ofNat k)=>match H4 P e,a.spot with
   | some s,none=>bif Nat.blt k n then some (.pointer (some (bY a (k*s))))else none
   | _,_=>none
 | _,_,_=>none
def mC(t:TypeId)(x i:Value):R3 :=
 match P.underlying t,x,i with
 | some (.array n e),.agg cs,.int _ (.ofNat k)=>match H4 P e with
   | some s=>bif Nat.blt k n then rV P e cs.toList (k*s)else none
   | none=>none
 | some .string,.string s,.int _ (.ofNat k)=>match s.data.toList[k]? with
   | some b=>some (.int .u8 b.toNat)
   | none=>none
 | _,_,_=>none
def U6(v:Option Value)(H8 a:Nat):Option Nat :=
 match v with
 | none=>some a
 | some (.int _ (.ofNat k))=>bif Nat.ble k H8 then some k else none
 | some _=>none
def dH(t:TypeId)(x:Value)(b hi mx:Option Value):R3 :=
 match P.underlying t,x with
 | some .string,.string s =>
   match mx,U6 hi s.size s.size with
   | none,some h=>match U6 b h 0 with
     | some l=>some (.string ⟨⟨(s.data.toList.drop l).take (h-l)⟩⟩)
     | none=>none
   | _,_=>none
 | some (.slice e),.slice none n c =>
   match n,c,U6 mx 0 0,U6 hi 0 0,U6 b 0 0 with
   | 0,0,some _,some _,some _=>bif (mx.isSome && hi.isNone) || (H4 P e).isNone then none else some (.slice none 0 0)
   | _,_,_,_,_=>none
 | some (.slice e),.slice (some a) n c =>
   match H4 P e,a.spot with
   | some s,none =>
     bif Nat.blt c N6 then
      match U6 mx c c with
      | some m=>match (match hi,mx with|none,some _=>none|hi,_=>U6 hi m n)with
        | some h=>match U6 b h 0 with
          | some l=>some (.slice (some (bif Nat.beq m l then a else bY a (l*s))) (h-l) (m-l))
          | none=>none
        | none=>none
      | none=>none
     else
      match mx with
      | some _=>match hi,U6 mx n n with
        | some _,some m=>bif Nat.blt m N6 && Nat.ble c (N6+1)then match U6 hi m n with
          | some h=>match U6 b h 0 with
            | some l=>some (.slice (some (bif Nat.beq m l then a else bY a (l*s))) (h-l) (m-l))
            | none=>none
          | none=>none else none
        | _,_=>none
      | none=>match U6 hi n n with
        | some h=>match U6 b h 0 with
          | some 0=>some (.slice (some a) h c)
          | some (l+1)=>let l:=l+1
            bif Nat.blt l n then some (.slice (some (bY a (l*s))) (h-l) (N6+1))else some (.slice (some a) 0 (N6+2))
          | none=>none
        | none=>none
   | _,_=>none
 | some (.array n e),.pointer (some a) =>
   match H4 P e,a.spot,mx with
   | some s,none,none=>match U6 hi n n with
     | some h=>match U6 b h 0 with
       | some l=>bif Nat.blt n N6 then some (.slice (some (bif Nat.beq n l then a else bY a (l*s))) (h-l) (n-l))else none
       | none=>none
     | none=>none
   | _,_,_=>none
 | _,_=>none
def eV(m:Mem)(s:Nat)(y:Value):Option (Nat×List Value) :=
 match y with
 | .slice none n _=>bif Nat.beq n 0 then some (0,[])else none
 | .slice (some a) n _=>match u6 m a (n*s)with
   | some cs=>some (n,cs)
   | none=>none
 | .string b=>bif Nat.beq s 1 then some (b.size,Q1 b.data.toList)else none
 | _=>none
def dI:TypeDesc->Bool
 | .slice _|.string=>true
 | _=>false
def tC(m:Mem)(t t2:TypeId)(x y:Value):Res :=
 match P.underlying t,P.underlying t2 with
 | some (.slice e),some d2 =>
   bif !(dI d2)then none else
   match P.info? e,x with
   | some i,.slice a n c=>match eV m i.size y,fT P e with
     | some (k,new),some z =>
       bif Nat.ble ((3*(n+k)+4000)*i.bytes) 281474976710656 && Nat.ble (n+k) 1000000000 && Nat.beq z.cells.size i.size && new.all flat then
       bif Nat.beq k 0 then(match a with|none=>bif Nat.beq n 0 && Nat.beq c 0 then some (x,m)else none|some _=>bif Nat.ble c (N6+1) && Nat.ble n c then some (x,m)else none)else
       match a with
       | none=>bif Nat.beq n 0 && Nat.beq c 0 then S0 new fun cs=>Z9 m (.cells cs e false) fun b=>.slice (some ⟨b,0,none⟩) k N6 else none
       | some d =>
         bif Nat.blt c N6 then
          bif Nat.ble (n+k) c then
           match d.spot,oT m (bY d (n*i.size)) new with
           | none,some m'=>some (.slice a (n+k) c,m')
           | _,_=>none
          else match u6 m d (n*i.size)with
           | some old=>S0 (old++new) fun cs=>Z9 m (.cells cs e false) fun b=>.slice (some ⟨b,0,none⟩) (n+k) N6
           | none=>none
         else bif Nat.beq c N6 && Nat.beq d.off 0 then
          match d.spot,Hp.get m.H d.block with
          | none,some (.cells cs T false) =>
            bif Nat.beq cs.length (n*i.size) && Nat.beq T e && Nat.ble d.block H8 && Nat.blt d.block m.n then
             S0 (cs++new) fun cs=>Z9 (kF m d.block) (.cells cs e false) fun b=>.slice (some ⟨b,0,none⟩) (n+k) N6
            else none
          | _,_=>none
         else none
       else none
     | _,_=>none
   | _,_=>none
 | _,_=>none
def MS(m:Mem)(t:TypeId)(x y:Value):Res :=
 match P.underlying t,x with
 | some (.slice e),.slice a n c=>match H4 P e with
   | some s =>
     match (match y with
      | .slice none k _=>bif Nat.beq k 0 then some (0,[])else none
      | .slice (some b) k _=>match u6 m b (Nat.min k n*s)with
        | some cs=>some (Nat.min k n,cs)
        | none=>none
      | .string b=>some (Nat.min b.size n,Q1 (b.data.toList.take (Nat.min b.size n)))
      | _=>none:Option (Nat×List Value))with
     | some (k,cs)=>match a with
       | none=>bif Nat.beq k 0 then some (.int .i64 0,m)else none
       | some d=>bif Nat.beq cs.length 0 then some (.int .i64 k,m)else bif Nat.ble c (N6+1)then match oT m d cs with
         | some m'=>some (.int .i64 k,m')
         | none=>none else none
     | none=>none
   | none=>none
 | _,_=>none
def A1N(m:Mem)(t:TypeId)(x:Value):R3 :=
 match P.underlying t,x with
 | some .string,.string s=>some (.int .i64 s.data.toList.length)
 | some (.array n _),_=>some (.int .i64 n)
 | some (.slice _),.slice _ n _=>some (.int .i64 n)
 | some (.map _ _),.map none=>some (.int .i64 0)
 | _,_=>none
def A9V(t:TypeId)(x:Value):R3 :=
 match P.underlying t,x with
 | some (.slice _),.slice none _ c=>some (.int .i64 c)
 | some (.slice _),.slice (some a) n c=>bif Nat.blt c N6 then some (.int .i64 c)else none
 | _,_=>none
def A8i:D3->R3
 | [.int k a,.int _ b]=>some (.int k (if b>a then b else a))
 | [.int k a,.int _ b,.int _ c]=>AE (if b>a then b else a) fun d=>some (.int k (if c>d then c else d))
 | _=>none
def A8h:D3->R3
 | [.int k a,.int _ b]=>some (.int k (if b<a then b else a))
 | [.int k a,.int _ b,.int _ c]=>AE (if b<a then b else a) fun d=>some (.int k (if c<d then c else d))
 | _=>none
def noM(v:Option Value)(m:Mem):Res :=
 match v with
 | some v=>some (v,m)
 | none=>none
def PK(m:Option Mem):Res :=
 match m with
 | some m=>some (undef,m)
 | none=>none
def SJ(m:Mem)(c a b:Value):Res :=
 match c with
 | .bool true=>some (a,m)
 | .bool false=>some (b,m)
 | _=>none
def GL(m:Mem)(e:TypeId):Res :=
 match fT P e with
 | some z=>Z9 m (.cells z.cells.toList e false) fun b=>.pointer (some ⟨b,0,none⟩)
 | none=>none
def A03(m:Mem)(e:TypeId)(v:Value):Res :=
 bif v.cells.toList.all flat then Z9 m (.cells v.cells.toList e false) fun b=>.pointer (some ⟨b,0,none⟩)else none
def SK(m:Mem)(t:TypeId)(v:Value):Res :=
 match v with
 | .pointer (some a)=>noM (SW P m t a) m
 | _=>none
def GJ(m:Mem)(t:TypeId)(x v:Value):Res :=
 match x with
 | .pointer (some a)=>PK (yE P m t a v)
 | _=>none
def A02(m:Mem)(x:Value):Res :=
 match x with
 | .pointer (some a)=>some (.pointer (some a),m)
 | .func (.func f) a b=>some (.func (.func f) a b,m)
 | _=>none
def AA:BinOp->Bool
 | .eql|.neq=>true
 | _=>false
def A31(m:Mem)(op:BinOp)(t:TypeId)(x y:Operand)(a b:Value):Res :=
 bif AA op then(bif mE P t x y a b then noM (sZ P op t a b) m else none)else noM (sZ P op t a b) m
def GK(m:Mem)(t:TypeId)(v:Value):Res :=
 match P.underlying t with
 | some d=>(match d with|.interface _=>none|_=>bif flat v || (match v with|.agg _=>true|_=>false)then some (.iface t v,m)else none)
 | none=>none
def lQ(m:Mem)(v:Value)(i:Nat):Res :=
 match v with
 | .tuple vs=>noM vs.toList[i]? m
 | _=>none
def iV(m:Mem)(x:Value):Res :=
 match x with
 | .slice none _ _=>some (.pointer none,m)
 | .slice (some a) n c=>bif Nat.beq n 0 || Nat.beq c 0 || Nat.beq c (N6+2)then none else some (.pointer (some a),m)
 | _=>none
def eM(m:Mem)(b:TypeId)(p l:Value):Res :=
 match p,l with
 | .pointer none,.int _ (.ofNat 0)=>some (.string ByteArray.empty,m)
 | .pointer (some a),.int _ (.ofNat n) =>
   match a.spot,Hp.get m.H a.block with
   | none,some (.cells cs T false)=>match P.underlying b,H4 P T with
     | some (.pointer e),some 1=>bif Nat.blt 0 n && Nat.ble n 1000000000 && Nat.beq e T then match A2X cs a.off n with
       | some l=>match bytesOf l,cQ m a.block (.cells cs T true)with
         | some l,some m'=>some (.string ⟨⟨l⟩⟩,m')
         | _,_=>none
       | none=>none else none
     | _,_=>none
   | _,_=>none
 | _,_=>none
def iO(m:Mem)(b:Builtin)(vs:List Value)(tys:List TypeId):Res :=
 match b,vs,tys with
 | .len,[x],t::_=>noM (A1N P m t x) m
 | .cap,[x],t::_=>noM (A9V P t x) m
 | .append,[x,y],t::t2::_=>tC P m t t2 x y
 | .copy,[x,y],t::_=>MS P m t x y
 | .max,vs,_=>noM (A8i vs) m
 | .min,vs,_=>noM (A8h vs) m
 | .unsafeSliceData,[x],_=>iV m x
 | .unsafeString,[p,l],t::_=>eM P m t p l
 | _,_,_=>none
def opM(fr:Fr)(m:Mem)(o:Op):Res :=
 match o with
 | .move x|.assign x=>some (ev fr x,m)
 | .pick c a b=>SJ m (ev fr c) (ev fr a) (ev fr b)
 | .alloc e=>GL P m e
 | .box e x=>A03 m e (ev fr x)
 | .build t ps=>noM (QK P t (evP fr ps.toList)) m
 | .buildSlice t n ps=>dA P m t n (evP fr ps.toList)
 | .load t x=>SK P m t (ev fr x)
 | .store t x y=>GJ P m t (ev fr x) (ev fr y)
 | .nilCheck x=>A02 m (ev fr x)
 | .binOp op t x y _=>A31 P m op t x y (ev fr x) (ev fr y)
 | .unOp op _ x=>noM (unM op (ev fr x)) m
 | .convert s t x=>EQ P m s t (ev fr x)
 | .makeInterface t x=>GK P m t (ev fr x)
 | .makeFunc (.func f) first cap=>some (.func (.func f) ⟨evL fr first.toList⟩ ⟨evL fr cap.toList⟩,m)
 | .makeSlice t l c=>eW P m t (ev fr l) (ev fr c)
 | .slice t x d hi mx=>noM (dH P t (ev fr x) (evO fr d) (evO fr hi) (evO fr mx)) m
 | .fieldAddr s x i=>noM (cY P s (ev fr x) i) m
 | .field t x i=>noM (HL P t (ev fr x) i) m
 | .indexAddr t x i=>noM (Y4 P t (ev fr x) (ev fr i)) m
 | .index t x i=>noM (mC P t (ev fr x) (ev fr i)) m
 | .extract x i=>lQ m (ev fr x) i
 | .call ⟨.builtin b,xs,tys⟩=>iO P m b (evL fr xs.toList) tys.toList
 | _=>none
structure OpC where
 run:Fr->Mem->Res
def A1b(x:XC)(fr:Fr)(m:Mem):Res:=some (x.run fr,m)
def A60(c a b:XC)(fr:Fr)(m:Mem):Res:=SJ m (c.run fr) (a.run fr) (b.run fr)
def B0n(e:TypeId)(x:XC)(fr:Fr)(m:Mem):Res:=A03 m e (x.run fr)
def A61(t:TypeId)(x:XC)(fr:Fr)(m:Mem):Res:=SK P m t (x.run fr)
def A1Z(t:TypeId)(x y:XC)(fr:Fr)(m:Mem):Res:=GJ P m t (x.run fr) (y.run fr)
def B0k(x:XC)(fr:Fr)(m:Mem):Res:=A02 m (x.run fr)
def B0o(op:BinOp)(t:TypeId)(x y:Operand)(cx a:XC)(fr:Fr)(m:Mem):Res:=A31 P m op t x y (cx.run fr) (a.run fr)
def kUn(op:UnOp)(x:XC)(fr:Fr)(m:Mem):Res:=noM (unM op (x.run fr)) m
def A62(s t:TypeId)(x:XC)(fr:Fr)(m:Mem):Res:=EQ P m s t (x.run fr)
def zV(s:TypeId)(x:XC)(i:Nat)(fr:Fr)(m:Mem):Res:=noM (cY P s (x.run fr) i) m
def A1d(s:TypeId)(x:XC)(i:Nat)(fr:Fr)(m:Mem):Res:=noM (HL P s (x.run fr) i) m
def zU(t:TypeId)(x i:XC)(fr:Fr)(m:Mem):Res:=noM (Y4 P t (x.run fr) (i.run fr)) m
def A1c(t:TypeId)(x i:XC)(fr:Fr)(m:Mem):Res:=noM (mC P t (x.run fr) (i.run fr)) m
def LM(x:XC)(i:Nat)(fr:Fr)(m:Mem):Res:=lQ m (x.run fr) i
def LN(b:Builtin)(xs:LC)(tys:List TypeId)(fr:Fr)(m:Mem):Res:=iO P m b (xs.run fr) tys
def AU(o:Op):OpC :=
 match o with
 | .move x=>⟨A1b (S7 x)⟩
 | .assign x=>⟨A1b (S7 x)⟩
 | .pick c a b=>⟨A60 (S7 c) (S7 a) (S7 b)⟩
 | .box e x=>⟨B0n e (S7 x)⟩
 | .load t x=>⟨A61 P t (S7 x)⟩
 | .store t x y=>⟨A1Z P t (S7 x) (S7 y)⟩
 | .nilCheck x=>⟨B0k (S7 x)⟩
 | .binOp op t x y _=>⟨B0o P op t x y (S7 x) (S7 y)⟩
 | .unOp op _ x=>⟨kUn op (S7 x)⟩
 | .convert s t x=>⟨A62 P s t (S7 x)⟩
 | .fieldAddr s x i=>⟨zV P s (S7 x) i⟩
 | .field t x i=>⟨A1d P t (S7 x) i⟩
 | .indexAddr t x i=>⟨zU P t (S7 x) (S7 i)⟩
 | .index t x i=>⟨A1c P t (S7 x) (S7 i)⟩
 | .extract x i=>⟨LM (S7 x) i⟩
 | .call ⟨.builtin b,xs,tys⟩=>⟨LN P b (vU xs.toList) tys.toList⟩
 | o=>⟨fun fr m=>opM P fr m o⟩
def AT(o:Op)(fr:Fr)(m:Mem):(AU P o).run fr m=opM P fr m o:=by
 unfold AU;split<;>simp only[A1b,A60,B0n,A61,A1Z,B0k,B0o,kUn,A62,zV,A1d,zU,A1c,LM,LN,opM,eJ,oB]
def PG(nt gl:Nat)(o:Op):Bool:=o.operands.toList.all (okX nt gl)
end
section
open Go
def B0s:BinOp->Bool
 | .eql|.neq|.lss|.leq|.gtr|.geq=>true
 | _=>false
def oV(P:Program)(m:Mem)(op:BinOp)(t:TypeId)(a b:Value):Res :=
 let c:=G8 a
 let d:=G8 b
 bif (Nat.blt c 8 && Nat.blt d 8) || (Nat.beq c 9 && Nat.beq d 9)then U5 m (bif B0s op then 8 else c) (.bin op) [a,b]else
 bif Nat.beq c 8 && Nat.beq d 8 && AA op && (match P.underlying t with|some .bool=>true|_=>false)then U5 m 8 (.bin op) [a,b]else none
def fB(P:Program)(t:TypeId)(x y:Value):Bool :=
 match P.underlying t with
 | some .bool=>Nat.beq (G8 x) 8 && Nat.beq (G8 y) 8
 | some (.int k)=>Nat.beq (G8 x) (iH k) && Nat.beq (G8 y) (iH k)
 | some .string=>Nat.beq (G8 x) 9 && Nat.beq (G8 y) 9
 | _=>false
mutual
def eqS(P:Program):Nat->TypeId->Value->Value->Option D3
 | 0,_,_,_=>none
 | d+1,t,x,y=>bif fB P t x y then some [x,y]else
   match P.underlying t,x,y with
   | some (.struct fs),.agg xs,.agg ys=>bif P.stoodInHeld t then none else AO P d fs.toList xs.toList ys.toList
   | some (.array n e),.agg xs,.agg ys=>match H4 P e with
     | some s=>AO P d ((List.range n).map (A5D e s)) xs.toList ys.toList
     | none=>none
   | _,_,_=>none
def AO(P:Program):Nat->List Field->D3->D3->Option D3
 | 0,_,_,_=>none
 | _+1,[],_,_=>some []
 | d+1,f::fs,xs,ys =>
   bif f.name == "_" then none else
   match rV P f.type xs f.offset,rV P f.type ys f.offset with
   | some x,some y=>match eqS P d f.type x y,AO P d fs xs ys with
     | some a,some b=>some (a++b)
     | _,_=>none
   | _,_=>none
end
def JJ(P:Program)(m:Mem)(op:BinOp)(t:TypeId)(x y:Operand)(a b:Value):Res :=
 bif mE P t x y a b then
  match op,eqS P 20 t a b with
  | .eql,some l=>U5 m 8 .eqs l
  | .neq,some l=>match U5 m 8 .eqs l with
    | some (h,m)=>U5 m 8 (.un .not) [h]
    | none=>none
  | _,_=>none
 else none
def l7(t:Nat):D3->Bool
 | []=>true
 | v::r=>Nat.beq (G8 v) t && l7 t r
def l6.sizeD(P:Program)(e:TypeId):Nat:=match H4 P e with|some n=>n|none=>0
def l6(P:Program)(m:Mem)(t:TypeId)(x i:Value):Res :=
 bif !(Nat.blt (G8 i) 8)then none else
 match P.underlying t with
 | some .string=>bif Nat.beq (G8 x) 9 then U5 m 4 .idx [x,i]else none
 | some (.array n e)=>match x,P.underlying e with
   | .agg cs,some (.int k)=>bif Nat.beq (cs.toList.length) n && l7 (iH k) cs.toList && Nat.beq (l6.sizeD P e) 1 then U5 m (iH k) .sel (i::cs.toList)else none
   | .agg cs,some .string=>bif Nat.beq (cs.toList.length) n && l7 9 cs.toList && Nat.beq (l6.sizeD P e) 1 then U5 m 9 .sel (i::cs.toList)else none
   | _,_=>none
 | _=>none
def lF(P:Program)(m:Mem)(t:TypeId)(x:Value)(a hi mx:Option Value):Res :=
 match P.underlying t,mx with
 | some .string,none=>bif Nat.beq (G8 x) 9 then
    match a,hi with
    | none,none=>some (x,m)
    | some l,none=>bif Nat.blt (G8 l) 8 then U5 m 9 .sub1 [x,l]else none
    | none,some h=>bif Nat.blt (G8 h) 8 then U5 m 9 .sub [x,.int .i64 0,h]else none
    | some l,some h=>bif Nat.blt (G8 l) 8 && Nat.blt (G8 h) 8 then U5 m 9 .sub [x,l,h]else none
   else none
 | _,_=>none
def JE(m:Mem)(op:UnOp)(x:Value):Res :=
 let t:=G8 x
 match op with
 | .not=>bif Nat.beq t 8 then U5 m 8 (.un .not) [x]else none
 | op=>bif Nat.blt t 8 then U5 m t (.un op) [x]else none
def qN(P:Program)(m:Mem)(s t:TypeId)(x:Value):Res :=
 match P.underlying s,P.underlying t with
 | some (.int _),some (.int k)=>bif Nat.blt (G8 x) 8 then U5 m (iH k) (.conv k) [x]else none
 | some .string,some .string=>bif Nat.beq (G8 x) 9 then some (x,m)else none
 | _,_=>none
def eQ(P:Program)(m:Mem)(b:Builtin)(vs:List Value)(tys:List TypeId):Res :=
 match b,vs,tys with
 | .len,[x],t::_=>match P.underlying t with
   | some .string=>bif Nat.beq (G8 x) 9 then U5 m 3 .len [x]else none
   | _=>none
 | .max,[x,y],_=>bif Nat.blt (G8 x) 8 && Nat.beq (G8 x) (G8 y)then U5 m (G8 x) .max [x,y]else none
 | .min,[x,y],_=>bif Nat.blt (G8 x) 8 && Nat.beq (G8 x) (G8 y)then U5 m (G8 x) .min [x,y]else none
 | _,_,_=>none
def WL(m:Mem)(a:Addr)(s n:Nat)(i:Value):Res :=
 bif !(Nat.blt (G8 i) 8)then none else
 match U5 m 8 .inb [i,.int .i64 (.ofNat n)]with
 | some (b,⟨H,k,W,hi,lg⟩)=>match brL lg b with
   | some (true,lg)=>some (ixp a s i n,⟨H,k,W,hi,lg⟩)
   | _=>none
 | none=>none
def eO(P:Program)(m:Mem)(t:TypeId)(x i:Value):Res :=
 match P.underlying t,x with
 | some (.array n e),.pointer (some a)=>match H4 P e,a.spot with
   | some s,none=>WL m a s n i
   | _,_=>none
 | some (.slice e),.slice (some a) n c=>match H4 P e,a.spot with
   | some s,none=>bif Nat.beq c (N6+2)then none else WL m a s n i
   | _,_=>none
 | _,_=>none
def eP(P:Program)(m:Mem)(s:TypeId)(x:Value)(i:Nat):Res :=
 match x with
 | .func (.yield 1) ⟨[.pointer (some a),.int .i64 (.ofNat k),j,.int .i64 (.ofNat n)]⟩ ⟨[]⟩=>match P.underlying s with
   | some (.struct fs)=>match fs.toList[i]?,a.spot with
     | some f,none=>match H4 P f.type with
       | some (_+1)=>some (ixp (bY a f.offset) k j n,m)
       | _=>none
     | _,_=>none
   | _=>none
 | _=>none
def xA(cs:List Value)(s o:Nat):Nat->Option D3
 | 0=>some []
 | n+1=>match cs[o]?,xA cs s (o+s) n with
   | some v,some r=>some (v::r)
   | _,_=>none
def cS(m:Mem)(cs:List Value)(s n:Nat)(i:Value):Nat->Nat->Option (D3×Mem)
 | _,0=>some ([],m)
 | o,k+1=>match xA cs s o n with
   | some (v::l)=>bif l7 (G8 v) (v::l) && Nat.blt (G8 v) 10 then match U5 m (G8 v) .sel (i::v::l)with
     | some (h,m)=>match cS m cs s n i (o+1) k with
       | some (r,m)=>some (h::r,m)
       | none=>none
     | none=>none else none
   | _=>none
def qM(P:Program)(m:Mem)(t:TypeId)(x:Value):Res :=
 match x with
 | .func (.yield 1) ⟨[.pointer (some a),.int .i64 (.ofNat s),i,.int .i64 (.ofNat n)]⟩ ⟨[]⟩ =>
   match aW P t,H4 P t with
   | some false,_=>match u6 m a ((n-1)*s+1)with
     | some cs=>match cS m cs s n i 0 1 with
       | some ([h],m)=>some (h,m)
       | _=>none
     | none=>none
   | some true,some z=>match u6 m a ((n-1)*s+z)with
     | some cs=>match cS m cs s n i 0 z with
       | some (hs,m)=>some (.agg ⟨hs⟩,m)
       | none=>none
     | none=>none
   | _,_=>none
 | _=>none
def wZ(m:Mem)(c a b:Value):Res :=
 match m with
 | ⟨H,n,W,hi,lg⟩=>match brL lg c with
   | some (true,lg)=>some (a,⟨H,n,W,hi,lg⟩)
   | some (false,lg)=>some (b,⟨H,n,W,hi,lg⟩)
   | none=>none
def XZ(P:Program)(fr:Fr)(m:Mem)(o:Op):Res :=
 match o with
 | .pick c a b=>wZ m (ev fr c) (ev fr a) (ev fr b)
 | .binOp op t x y _=>match oV P m op t (ev fr x) (ev fr y)with
   | some r=>some r
   | none=>JJ P m op t x y (ev fr x) (ev fr y)
 | .unOp op _ x=>JE m op (ev fr x)
 | .convert s t x=>qN P m s t (ev fr x)
 | .slice t x d hi mx=>lF P m t (ev fr x) (evO fr d) (evO fr hi) (evO fr mx)
 | .index t x i=>l6 P m t (ev fr x) (ev fr i)
 | .indexAddr t x i=>eO P m t (ev fr x) (ev fr i)
 | .fieldAddr s x i=>eP P m s (ev fr x) i
 | .load t x=>qM P m t (ev fr x)
 | .call ⟨.builtin b,xs,tys⟩=>eQ P m b (evL fr xs.toList) tys.toList
 | _=>none
def pF(m:Mem)(b:Nat):Bool :=
 match Hp.get m.H b with
 | some .frz=>Nat.ble b H8
 | _=>false
def OU{α:Type}(l:List α):Nat->List α
 | 0=>[]
 | n+1=>l++OU l n
mutual
def XV(P:Program):Nat->TypeId->Option H5
 | 0,_=>none
 | d+1,t=>match P.underlying t with
   | some .bool=>some [8]
   | some (.int k)=>some [iH k]
   | some .string=>some [9]
   | some (.slice e)=>match H4 P e with
     | some w=>some [10+w]
     | none=>none
   | some (.struct fs)=>A5Q P d fs.toList
   | some (.array n e)=>match XV P d e with
     | some l=>some (OU l n)
     | none=>none
   | _=>none
def A5Q(P:Program):Nat->List Field->Option H5
 | 0,_=>none
 | _+1,[]=>some []
 | d+1,f::fs=>match XV P d f.type,A5Q P d fs with
   | some a,some b=>some (a++b)
   | _,_=>none
end
def lE(P:Program)(t:TypeId):Option H5 :=
 match XV P 30 t,H4 P t with
 | some l,some n=>bif Nat.beq l.length n then some l else none
 | _,_=>none
def Y6.letDo(t:Nat)(op:LOp)(xs:List Value)(m:Mem)(k:Nat->Mem->Option (D3×Mem)):Option (D3×Mem) :=
 match m with
 | ⟨H,n,W,hi,⟨nx,pi,log⟩⟩=>K1 nx fun nx=>K1 t fun t=>S0 xs fun xs=>k nx ⟨H,n,W,hi,⟨Nat.succ nx,pi,.dt nx t op xs::log⟩⟩
def Y6(w o i t:Nat)(z:Value)(g:Nat):H5->Nat->Mem->Option (D3×Mem)
 | [],_,m=>some ([],m)
 | tg::ts,j,m=>bif Nat.blt tg 10 then
    match U5 m tg (.get w (o+j)) [hole i t,z]with
    | some (h,m)=>match Y6 w o i t z g ts (j+1) m with
      | some (r,m)=>some (h::r,m)
      | none=>none
    | none=>none
   else Y6.letDo tg (.get w (o+j)) [hole i t,z] m fun nx m=>match Y6 w o i t z g ts (j+1) m with
     | some (r,m)=>some (dat g nx tg::r,m)
     | none=>none
def mP(P:Program)(t:TypeId)(r:Option (D3×Mem)):Res :=
 match aW P t,r with
 | some false,some ([v],m)=>some (v,m)
 | some true,some (vs,m)=>some (.agg ⟨vs⟩,m)
 | _,_=>none
def LF(P:Program)(m:Mem)(t:TypeId)(x:Value):Res :=
 match x,lE P t with
 | .func (.yield 5) ⟨[.pointer (some ⟨b,0,none⟩),.complex .f64 i tg,z,.int .i64 (.ofNat o)]⟩ ⟨[]⟩,some ts =>
   bif pF m b then mP P t (Y6 (tg-10) o i tg z b ts 0 m)else none
 | .func (.yield 6) ⟨[.pointer (some ⟨b,0,none⟩),.complex .f64 i tg,z,.int .i64 (.ofNat o)]⟩ ⟨[]⟩,some ts =>
   match Hp.get m.H b with
   | some (.sq c tc T g ro)=>bif Nat.beq tc tg then mP P t (Y6 (tg-10) o c tg z g ts 0 m)else none
   | _=>none
 | _,_=>none
def LT(m:Mem)(i t:Nat)(z:Value)(k:Value):Res :=
 bif !(Nat.blt (G8 z) 8)then none else
 match U5 m 8 (.inbs (t-10)) [z,hole i t]with
 | some (b,⟨H,n,W,hi,lg⟩)=>match brL lg b with
   | some (true,lg)=>some (k,⟨H,n,W,hi,lg⟩)
   | _=>none
 | none=>none
def mD(P:Program)(m:Mem)(t:TypeId)(x z:Value):Res :=
 match P.underlying t,x with
 | some (.slice e),.func (.yield 4) ⟨[.pointer (some ⟨b,0,none⟩),.complex .f64 i tg]⟩ ⟨[]⟩=>match H4 P e with
   | some (s+1)=>bif Nat.beq tg (10+(s+1))then LT m i tg z (opt b i tg z 0)else none
   | _=>none
 | some (.slice e),.func (.yield 2) ⟨[.pointer (some ⟨b,0,none⟩),.complex .f64 i tg]⟩ ⟨[]⟩=>match H4 P e with
   | some (s+1)=>bif Nat.beq tg (10+(s+1))then LT m i tg z (dpt b i tg z 0)else none
   | _=>none
 | some (.slice e),.func (.yield 3) ⟨[.pointer (some ⟨b,0,none⟩),.complex .f64 i tg]⟩ ⟨[]⟩=>match H4 P e with
   | some (s+1)=>bif Nat.beq tg (10+(s+1))then LT m i tg z (dpt b i tg z 0)else none
   | _=>none
 | some (.array n e),.func (.yield 5) ⟨[.pointer (some ⟨b,0,none⟩),.complex .f64 i tg,y,.int .i64 (.ofNat o)]⟩ ⟨[]⟩=>match H4 P e,z with
   | some s,.int _ (.ofNat k)=>bif Nat.blt k n && Nat.blt (o+k*s) (tg-10)then some (K1 (o+k*s) fun o=>dpt b i tg y o,m)else none
   | _,_=>none
 | some (.array n e),.func (.yield 6) ⟨[.pointer (some ⟨b,0,none⟩),.complex .f64 i tg,y,.int .i64 (.ofNat o)]⟩ ⟨[]⟩=>match H4 P e,z with
   | some s,.int _ (.ofNat k)=>bif Nat.blt k n && Nat.blt (o+k*s) (tg-10)then some (K1 (o+k*s) fun o=>opt b i tg y o,m)else none
   | _,_=>none
 | _,_=>none
def mH(P:Program)(m:Mem)(s:TypeId)(x:Value)(f:Nat):Res :=
 match P.underlying s,x with
 | some (.struct fs),.func (.yield 5) ⟨[.pointer (some ⟨b,0,none⟩),.complex .f64 i tg,y,.int .i64 (.ofNat o)]⟩ ⟨[]⟩=>match fs.toList[f]? with
   | some fd=>match H4 P fd.type with
     | some (_+1)=>bif Nat.blt (o+fd.offset) (tg-10)then some (K1 (o+fd.offset) fun o=>dpt b i tg y o,m)else none
     | _=>none
   | none=>none
 | some (.struct fs),.func (.yield 6) ⟨[.pointer (some ⟨b,0,none⟩),.complex .f64 i tg,y,.int .i64 (.ofNat o)]⟩ ⟨[]⟩=>match fs.toList[f]? with
   | some fd=>match H4 P fd.type with
     | some (_+1)=>bif Nat.blt (o+fd.offset) (tg-10)then some (K1 (o+fd.offset) fun o=>opt b i tg y o,m)else none
     | _=>none
   | none=>none
 | _,_=>none
def sQ(i:Nat):List n7->Option Nat
 | []=>none
 | .lt j t .len [.complex .f64 k _]::r=>bif Nat.beq k i && Nat.beq t 3 then some j else sQ i r
 | _::r=>sQ i r
def GS(m:Mem)(i t:Nat):Res :=
 match sQ i m.lg.log with
 | some j=>some (hole j 3,m)
 | none=>U5 m 3 .len [hole i t]
def A4G(P:Program)(m:Mem)(t:TypeId)(x:Value):Res :=
 match P.underlying t,x with
 | some (.slice _),.func (.yield 2) ⟨[.pointer (some ⟨b,0,none⟩),.complex .f64 i tg]⟩ ⟨[]⟩=>GS m i tg
 | some (.slice _),.func (.yield 3) ⟨[.pointer (some ⟨b,0,none⟩),.complex .f64 i tg]⟩ ⟨[]⟩=>GS m i tg
 | some (.slice _),.func (.yield 4) ⟨[.pointer (some ⟨b,0,none⟩),.complex .f64 i tg]⟩ ⟨[]⟩=>GS m i tg
 | _,_=>none
def gT(m:Mem)(k:Nat->Mem->Option (Value×Nat×Mem)):Option (Value×Nat×Mem) :=
 match m with
 | ⟨H,n,W,hi,lg⟩=>bif Nat.ble n H8 then K1 n fun n=>K1 (upN hi n) fun hi=>Hp.put H n (some .frz) fun H=>k n ⟨H,Nat.succ n,W,hi,lg⟩else none
def toD(t:Nat)(v:Value)(m:Mem):Option (Value×Nat×Mem) :=
 match v with
 | .func (.yield 2) ⟨[.pointer (some ⟨b,0,none⟩),.complex .f64 i tg]⟩ ⟨[]⟩=>bif Nat.beq tg t && pF m b then some (hole i tg,b,m)else none
 | .func (.yield 3) ⟨[.pointer (some ⟨b,0,none⟩),.complex .f64 i tg]⟩ ⟨[]⟩=>bif Nat.beq tg t && pF m b then some (hole i tg,b,m)else none
 | .func (.yield 4) ⟨[.pointer (some ⟨b,0,none⟩),.complex .f64 i tg]⟩ ⟨[]⟩=>match Hp.get m.H b with
   | some (.sq c tc T g true)=>bif (Nat.beq tg t && Nat.beq tc t) && pF m g then gT m fun b' m=>some (hole c tc,b',m)else none
   | some (.sq c tc T g false)=>bif (Nat.beq tg t && Nat.beq tc t) && pF m g then match cQ m b (.sq c tc T g true)with
     | some m=>gT m fun b' m=>some (hole c tc,b',m)
     | none=>none else none
   | _=>none
 | .slice none 0 0=>bif Nat.ble 10 t then(match wJ m t (.nilw (t-10)) [] fun nx m=>some (hole nx t,m)with
   | some (h,m)=>gT m fun b' m=>some (h,b',m)
   | none=>none)else none
 | _=>none
abbrev Td:=Nat->Value->Mem->Option (Value×Nat×Mem)
def BQ(a:Td):H5->D3->Mem->Option (D3×H5×Mem)
 | [],[],m=>some ([],[],m)
 | t::ts,v::vs,m=>bif Nat.blt t 10 then
    bif Nat.beq (G8 v) t then match BQ a ts vs m with
     | some (r,gs,m)=>some (v::r,gs,m)
     | none=>none else none
   else match a t v m with
    | some (h,b,m)=>match BQ a ts vs m with
      | some (r,gs,m)=>some (h::r,b::gs,m)
      | none=>none
    | none=>none
 | _,_,_=>none
def kH(gs:List Nat)(m:Mem):Option (Nat×Mem) :=
 match gs with
 | [g]=>bif pF m g then some (g,m)else none
 | gs=>bif gs.all (pF m)then match gT m fun b m=>some (undef,b,m)with
   | some (_,b,m)=>some (b,m)
   | none=>none else none
def RL:Value->Value->Bool
 | .complex .f64 i _,.complex .f64 j _=>Nat.beq i j
 | .int k a,.int j b=>uV k j && CJ a b
 | _,_=>false
def zX(v:Value):Bool:=Nat.blt (G8 v) 8
def gH(m:Mem)(b i t:Nat)(l h:Value)(c:Bool):Res:=bif zX l && zX h then wJ m t (.subs (t-10)) [hole i t,l,h] fun nx m=>some (bif c then clp b nx t else dat b nx t,m)else none
def MO(m:Mem)(b i t:Nat)(cl:Bool)(l:Value)(hi mx:Option Value):Res :=
 match hi,mx with
 | some h,none=>gH m b i t l h false
 | some h,some x=>bif RL h x then gH m b i t l h true else none
 | none,none=>match GS m i t with
   | some (h,m)=>gH m b i t l h cl
   | none=>none
 | none,some _=>none
def B0R(a:Option Value):Value :=
 match a with
 | some l=>l
 | none=>.int .i64 0
def MP(m:Mem)(b i t:Nat)(cl:Bool)(a hi mx:Option Value):Res:=MO m b i t cl (B0R a) hi mx
def yH(P:Program)(m:Mem)(t:TypeId)(x:Value)(a hi mx:Option Value):Res :=
 match P.underlying t,x with
 | some (.slice e),.func (.yield 2) ⟨[.pointer (some ⟨b,0,none⟩),.complex .f64 i tg]⟩ ⟨[]⟩=>match H4 P e with
   | some s=>bif Nat.beq tg (10+s)then MP m b i tg false a hi mx else none
   | none=>none
 | some (.slice e),.func (.yield 3) ⟨[.pointer (some ⟨b,0,none⟩),.complex .f64 i tg]⟩ ⟨[]⟩=>match H4 P e with
   | some s=>bif Nat.beq tg (10+s)then MP m b i tg true a hi mx else none
   | none=>none
 | some (.slice e),.func (.yield 4) ⟨[.pointer (some ⟨b,0,none⟩),.complex .f64 i tg]⟩ ⟨[]⟩=>match H4 P e with
   | some s=>bif Nat.beq tg (10+s)then match toD tg x m with
     | some (.complex .f64 c _,b',m)=>MP m b' c tg false a hi mx
     | _=>none else none
   | none=>none
 | _,_=>none
inductive Beh where
 | cells (xs:List Value)
 | rows (x:Value)
 | str (x:Value)
def dP(w:Nat)(c:Value):Beh->LOp×D3
 | .cells xs=>(.snoc w,c::xs)
 | .rows x=>(.cat w,[c,x])
 | .str x=>(.cats,[c,x])
def A2w(c:Td)(P:Program)(m:Mem)(e:TypeId)(w:Nat)(y:Value):Option (Beh×H5×Bool×Mem) :=
 match y with
 | .slice none 0 _=>some (.cells [],[],false,m)
 | .slice (some a) n _=>match u6 m a (n*w),lE P e with
   | some cs,some ts=>match BQ c (OU ts n) cs m with
     | some (xs,gs,m)=>some (.cells xs,gs,Nat.blt 0 n,m)
     | none=>none
   | _,_=>none
 | .func _ _ _=>match c (10+w) y m with
   | some (x,b,m)=>some (.rows x,[b],false,m)
   | none=>none
 | y=>bif Nat.beq (G8 y) 9 && Nat.beq w 1 then some (.str y,[],false,m)else none
def FE(a:Td)(P:Program)(m:Mem)(e:TypeId)(w:Nat)(x:Value):Option (Nat×H5×Option Nat×Mem) :=
 match x with
 | .slice none 0 0=>match wJ m (10+w) (.nilw w) [] fun nx m=>some (hole nx (10+w),m)with
   | some (.complex .f64 c _,m)=>some (c,[],none,m)
   | _=>none
 | .func (.yield 4) ⟨[.pointer (some ⟨b,0,none⟩),.complex .f64 i tg]⟩ ⟨[]⟩=>match Hp.get m.H b with
   | some (.sq c tc T g false)=>bif (Nat.beq tg (10+w) && Nat.beq tc tg) && (Nat.beq T e && Nat.ble b H8)then some (c,[g],some b,m)else none
   | _=>none
 | .slice (some ⟨b,0,none⟩) n c=>match Hp.get m.H b,lE P e with
   | some (.cells cs _ _),some ts=>bif Nat.beq cs.length (n*w) && (Nat.beq c n && Nat.blt c N6 || Nat.beq c N6)then match BQ a (OU ts n) cs m with
     | some (xs,gs,m)=>match Hp.get m.H b with
       | some (.cells _ T false)=>bif Nat.beq T e && Nat.ble b H8 then match wJ m (10+w) (.mk w) xs fun nx m=>some (hole nx (10+w),m)with
         | some (.complex .f64 c _,m)=>some (c,gs,some b,m)
         | _=>none else none
       | _=>none
     | none=>none else none
   | _,_=>none
 | _=>none
def bR(m:Mem)(c t:Nat)(T:TypeId)(g:Nat):Res:=Z9 m (.sq c t T g false) fun b=>own b c t
def XG(P:Program)(e:TypeId)(n:Nat):Bool :=
 match fT P e with
 | some z=>Nat.beq z.cells.size n
 | none=>false
def kE(old:Option Nat)(m:Mem):Mem :=
 match old with
 | some b=>kF m b
 | none=>m
def VZ(a:Td)(P:Program)(m:Mem)(e:TypeId)(w:Nat)(x:Value):Res :=
 match P.info? e with
 | some inf=>bif Nat.beq inf.size w && Nat.blt 0 w then match FE a P m e w x with
   | some (c,gs,old,m)=>match kH gs m with
     | some (g,m)=>bR (kE old m) c (10+w) e g
     | none=>none
   | none=>none else none
 | none=>none
def XR(P:Program):Nat->Td
 | 0=>toD
 | d+1=>fun t v m=>match v with
   | .slice (some ⟨b,0,none⟩) _ _=>match Hp.get m.H b with
     | some (.cells _ T _)=>match VZ (XR P d) P m T (t-10) v with
       | some (x,m)=>toD t x m
       | none=>none
     | _=>none
   | v=>toD t v m
def tdP(P:Program):Td:=XR P 3
def KK(m:Mem)(e:TypeId)(w c:Nat)(old:Option Nat)(a:Beh)(gs:List Nat):Res :=
 match kH gs m with
 | some (g,m)=>wJ m (10+w) (dP w (hole c (10+w)) a).1 (dP w (hole c (10+w)) a).2 fun nx m=>bR (kE old m) nx (10+w) e g
 | none=>none
def tD(P:Program)(m:Mem)(t t2:TypeId)(x y:Value):Res :=
 match P.underlying t,P.underlying t2 with
 | some (.slice e),some d2=>bif !(dI d2)then none else
   match P.info? e with
   | some i=>bif (Nat.ble i.bytes 90000 && Nat.blt 0 i.size) && XG P e i.size then
     match A2w (tdP P) P m e i.size y with
     | some (bh,gs,sure,m)=>match FE (tdP P) P m e i.size x with
       | some (c,g0,old,m)=>KK m e i.size c old bh (g0++gs)
       | none=>match x,sure with
         | .func (.yield 3) ⟨[.pointer (some ⟨b,0,none⟩),.complex .f64 c tg]⟩ ⟨[]⟩,true=>bif Nat.beq tg (10+i.size)then KK m e i.size c none bh (b::gs)else none
         | _,_=>none
     | none=>none else none
   | none=>none
 | _,_=>none
def yF(P:Program)(m:Mem)(t:TypeId)(x v:Value):Res :=
 match x,lE P t with
 | .func (.yield 6) ⟨[.pointer (some ⟨b,0,none⟩),.complex .f64 i tg,z,.int .i64 (.ofNat o)]⟩ ⟨[]⟩,some ts=>bif jG v then none else
   match BQ (tdP P) ts v.cells.toList m with
   | some (xs,gs,m)=>match Hp.get m.H b with
     | some (.sq c tc T g false)=>bif Nat.beq tc tg then match kH (g::gs) m with
       | some (g,m)=>match wJ m tg (.set (tg-10) o) (hole c tg::z::xs) fun nx m=>some (hole nx tg,m)with
         | some (.complex .f64 nx _,m)=>PK (cQ m b (.sq nx tg T g false))
         | _=>none
       | none=>none else none
     | _=>none
   | none=>none
 | _,_=>none
def A6m(m m1:Mem):Mem :=
 match m,m1 with
 | ⟨H,n,W,_,_⟩,⟨_,_,_,hi,lg⟩=>⟨H,n,W,hi,lg⟩
def MT(P:Program)(m:Mem)(s t:TypeId)(x:Value):Res :=
 match P.underlying s,P.underlying t,x with
 | some (.slice e),some .string,.slice (some a) n _=>match P.underlying e with
   | some (.int .u8)=>match u6 m a n with
     | some cs=>bif l7 4 cs then U5 m 9 .mks cs else none
     | none=>none
   | _=>none
 | some (.slice e),some .string,.func _ _ _=>match P.underlying e with
   | some (.int .u8)=>match toD 11 x m with
     | some (h,_,m1)=>U5 (A6m m m1) 9 .str [h]
     | none=>none
   | _=>none
 | some _,some (.slice e),x=>bif Nat.beq (G8 x) 9 then match P.underlying e with
   | some (.int .u8)=>match H4 P e with
     | some 1=>match kH [] m with
       | some (g,m)=>match wJ m 11 .byt [x] fun nx m=>some (hole nx 11,m)with
         | some (.complex .f64 nx _,m)=>bR m nx 11 e g
         | _=>none
       | none=>none
     | _=>none
   | _=>none else none
 | _,_,_=>none
def A1u:Value->Bool
 | .slice none 0 0=>true
 | _=>false
def A07(P:Program)(m:Mem)(op:BinOp)(t:TypeId)(x y:Operand)(a b:Value):Res :=
 match P.underlying t,a with
 | some (.slice _),.func (.yield k) ⟨[.pointer (some ⟨_,0,none⟩),.complex .f64 i tg]⟩ ⟨[]⟩=>bif A1u b && isC y && (Nat.beq k 2 || Nat.beq k 3 || Nat.beq k 4)then
   match op,U5 m 8 .nilp [hole i tg]with
   | .eql,some r=>some r
   | .neq,some (h,m)=>U5 m 8 (.un .not) [h]
   | _,_=>none else none
 | _,_=>none
def KZ(P:Program)(m:Mem)(t:TypeId)(l c:Value):Res :=
 match P.underlying t,l,c with
 | some (.slice e),.complex .f64 i ti,.complex .f64 j tj=>bif (Nat.beq i j && Nat.beq ti 3) && Nat.beq tj 3 then
   match P.info? e with
   | some inf=>bif Nat.ble inf.bytes 90000 && Nat.blt 0 inf.size then
     match fT P e with
     | some z=>bif Nat.beq z.cells.size inf.size && z.cells.toList.all (fun z=>Nat.blt (G8 z) 10)then
       match kH [] m with
       | some (g,m)=>match wJ m (10+inf.size) (.rep inf.size) (hole i 3::z.cells.toList) fun nx m=>some (hole nx (10+inf.size),m)with
         | some (.complex .f64 nx _,m)=>bR m nx (10+inf.size) e g
         | _=>none
       | none=>none else none
     | none=>none else none
   | none=>none else none
 | _,_,_=>none
def dsM(P:Program)(fr:Fr)(m:Mem)(o:Op):Res :=
 match o with
 | .makeSlice t l c=>KZ P m t (ev fr l) (ev fr c)
 | .load t x=>LF P m t (ev fr x)
 | .store t x y=>yF P m t (ev fr x) (ev fr y)
 | .indexAddr t x i=>mD P m t (ev fr x) (ev fr i)
 | .fieldAddr s x i=>mH P m s (ev fr x) i
 | .slice t x a hi mx=>yH P m t (ev fr x) (evO fr a) (evO fr hi) (evO fr mx)
 | .convert s t x=>MT P m s t (ev fr x)
 | .binOp op t x y _=>A07 P m op t x y (ev fr x) (ev fr y)
 | .call ⟨.builtin .len,xs,tys⟩=>match evL fr xs.toList,tys.toList with
   | [x],t::_=>A4G P m t x
   | _,_=>none
 | .call ⟨.builtin .append,xs,tys⟩=>match evL fr xs.toList,tys.toList with
   | [x,y],t::t2::_=>tD P m t t2 x y
   | _,_=>none
 | _=>none
def UL(P:Program)(m:Mem)(s t:TypeId)(x:Value):Res :=
 match P.underlying s,P.underlying t,x with
 | some (.pointer e),some .unsafePointer,.pointer (some ⟨b,o,none⟩)=>match H4 P e,Hp.get m.H b with
   | some (_+1),some (.cells cs _ _)=>bif Nat.blt o cs.length then some (x,m)else none
   | _,_=>none
 | some .unsafePointer,some (.pointer u),.pointer (some ⟨b,0,none⟩)=>match H4 P u,Hp.get m.H b with
   | some (k+1),some (.cells cs T false)=>bif Nat.beq T u && Nat.beq cs.length (k+1)then some (x,m)else none
   | _,_=>none
 | some (.slice _),some (.slice e),.slice (some ⟨b,o,none⟩) n c=>bif Nat.beq s t && !(Nat.beq c (N6+2))then match P.underlying e,Hp.get m.H b with
   | some (.int .u8),some (.cells cs T false)=>match cQ m b (.cells cs T false)with
     | some m1=>some (x,m1)
     | none=>none
   | _,_=>none else none
 | _,_,_=>none
def SF(P:Program)(m:Mem)(op:BinOp)(t:TypeId)(a b:Value):Res :=
 match P.underlying t,a,b with
 | some (.pointer e),.pointer (some ⟨b1,o1,none⟩),.pointer (some ⟨b2,o2,none⟩)=>bif Nat.beq b1 b2 && Nat.beq o1 o2 then match P.info? e,op with
   | some _,.eql=>some (.bool true,m)
   | some _,.neq=>some (.bool false,m)
   | _,_=>none else none
 | _,_,_=>none
def sdM(P:Program)(m:Mem)(ty:TypeId)(x:Value):Res :=
 match P.underlying ty with
 | some (.pointer _)=>match x with
  | .func (.yield 4) ⟨[.pointer (some ⟨b,0,none⟩),.complex .f64 i t]⟩ ⟨[]⟩=>match Hp.get m.H b with
   | some (.sq _ _ _ _ _)=>some (sdt b,m)
   | _=>none
  | _=>none
 | _=>none
def usM(P:Program)(m:Mem)(a:TypeId)(p l:Value):Res :=
 match p with
 | .func (.yield 9) ⟨[.pointer (some ⟨b,0,none⟩)]⟩ ⟨[]⟩=>bif Nat.blt (G8 l) 8 then match Hp.get m.H b,P.underlying a with
   | some (.sq c tc T g false),some (.pointer e)=>bif Nat.beq e T && Nat.beq tc 11 then match H4 P T,U5 m 9 .ustr [hole c tc,l]with
     | some 1,some (v,m)=>match cQ m b (.sq c tc T g true)with
       | some m=>some (v,m)
       | none=>none
     | _,_=>none else none
   | _,_=>none else none
 | _=>none
def fX(P:Program)(t:TypeId):Option Nat :=
 match P.underlying t with
 | some .bool=>some 8
 | some (.int k)=>some (iH k)
 | some .string=>some 9
 | _=>none
def vP(P:Program):List Field->Nat->Option H5
 | [],_=>some []
 | f::r,i=>match fX P f.type,vP P r (i+1)with
   | some t,some l=>bif !(f.name == "_") && Nat.beq f.offset i then some (t::l)else none
   | _,_=>none
def oP(P:Program)(t:TypeId):Option (Bool×List Nat) :=
 match P.underlying t with
 | some (.struct fs)=>bif P.stoodInHeld t then none else match vP P fs.toList 0 with
   | some l=>some (true,l)
   | none=>none
 | _=>match fX P t with
   | some k=>some (false,[k])
   | none=>none
def QZ(P:Program)(t:TypeId):Option (Bool×List Nat) :=
 match aW P t,lE P t with
 | some true,some l=>bif l.all (fun k=>Nat.blt k 10)then some (true,l)else none
 | some false,some [k]=>bif Nat.blt k 10 then some (false,[k])else none
 | _,_=>none
structure MTy where
 kt:TypeId
 vt:TypeId
 ka:Bool
 ks:H5
 va:Bool
 vs:H5
def MTy.w(y:MTy):Nat:=y.ks.length+y.vs.length
def WC(P:Program)(T:TypeId):Option MTy :=
 match P.underlying T with
 | some (.map kt vt)=>match oP P kt,QZ P vt with
   | some (ka,k::ks),some (va,vs)=>some ⟨kt,vt,ka,k::ks,va,vs⟩
   | _,_=>none
 | _=>none
def AM:H5->D3->Bool
 | [],[]=>true
 | t::ts,v::vs=>Nat.beq (G8 v) t && AM ts vs
 | _,_=>false
def oD(a:Bool)(ts:List Nat)(v:Value):Option D3 :=
 match a,v with
 | true,.agg cs=>bif AM ts cs.toList then some cs.toList else none
 | true,_=>none
 | false,v=>bif AM ts [v]then some [v]else none
def A21(a:Bool)(vs:List Value):R3 :=
 match a,vs with
 | true,vs=>some (.agg ⟨vs⟩)
 | false,[v]=>some v
 | false,_=>none
def A1D(P:Program)(m:Mem)(T:TypeId):Res :=
 match WC P T with
 | some y=>wJ m (10+y.w) (.mk y.w) [] fun nx m=>Z9 m (.mp nx (10+y.w) T) fun b=>.map (some b)
 | none=>none
def uD(w kw c t:Nat)(a:List Value):H5->D3->Nat->Mem->Option (D3×Mem)
 | [],[],_,m=>some ([],m)
 | tg::ts,z::zs,j,m=>match U5 m tg (.mget w kw j) (hole c t::z::a)with
   | some (h,m)=>match uD w kw c t a ts zs (j+1) m with
     | some (r,m)=>some (h::r,m)
     | none=>none
   | none=>none
 | _,_,_,_=>none
def zK(P:Program)(m:Mem)(T:TypeId)(x k:Value)(ok:Bool):Res :=
 match x,WC P T with
 | .map (some r),some y=>match Hp.get m.H r,oD y.ka y.ks k,fT P y.vt with
   | some (.mp c t T2),some kc,some z=>bif Nat.beq T2 T then match oD y.va y.vs z with
     | some a=>match uD y.w y.ks.length c t kc y.vs a y.ks.length m with
       | some (hs,m)=>match A21 y.va hs with
         | some v=>bif ok then match U5 m 8 (.mhas y.w y.ks.length) (hole c t::kc)with
            | some (b,m)=>some (.tuple ⟨[v,b]⟩,m)
            | none=>none
           else some (v,m)
         | none=>none
       | none=>none
     | none=>none else none
   | _,_,_=>none
 | _,_=>none
def DK(P:Program)(m:Mem)(T:TypeId)(x k v:Value):Res :=
 match x,WC P T with
 | .map (some r),some y=>match Hp.get m.H r,oD y.ka y.ks k,oD y.va y.vs v with
   | some (.mp c t T2),some kc,some vc=>bif Nat.beq T2 T then wJ m t (.mput y.w y.ks.length) (hole c t::(kc++vc)) fun nx m=>PK (cQ m r (.mp nx t T))else none
   | _,_,_=>none
 | _,_=>none
def LH(P:Program)(m:Mem)(T:TypeId)(x:Value):Res :=
 match P.underlying T,x with
 | some (.map _ _),.map (some r)=>match Hp.get m.H r with
   | some (.mp c t _)=>GS m c t
   | _=>none
 | _,_=>none
def yU(P:Program)(m:Mem)(t:TypeId)(x:Value):Res :=
 match P.underlying t with
 | some .string=>bif Nat.beq (G8 x) 9 then Z9 m (.iter [x,.int .i64 (.ofNat 0)]) fun b=>.pointer (some ⟨b,0,none⟩)else none
 | _=>none
def HY:Value->Value->Option (ByteArray×Nat)
 | .string s,.int .i64 (.ofNat k)=>some (s,k)
 | _,_=>none
def KV(m:Mem)(x:Value):Res :=
 match x with
 | .pointer (some ⟨r,0,none⟩)=>match Hp.get m.H r with
   | some (.iter [s,p])=>match HY s p with
     | some (b,k)=>bif Nat.blt k b.data.toList.length then K1 (k+(Utf8.decode b k).2) fun a=>match cQ m r (.iter [s,.int .i64 (.ofNat a)])with
        | some m=>K1 (Utf8.decode b k).1 fun c=>some (.tuple ⟨[.bool true,p,.int .i32 (.ofNat c)]⟩,m)
        | none=>none
       else some (.tuple ⟨[.bool false]⟩,m)
     | none=>bif Nat.beq (G8 s) 9 && Nat.beq (G8 p) 3 then match U5 m 3 .len [s]with
       | some (h,m)=>match U5 m 8 (.bin .lss) [p,h]with
         | some (c,⟨H,n,W,hi,lg⟩)=>match brL lg c with
           | some (true,lg)=>match U5 ⟨H,n,W,hi,lg⟩ 2 .rune [s,p]with
             | some (y,m)=>match U5 m 3 .rpos [s,p]with
               | some (q,m)=>match cQ m r (.iter [s,q])with
                 | some m=>some (.tuple ⟨[.bool true,p,y]⟩,m)
                 | none=>none
               | none=>none
             | none=>none
           | some (false,lg)=>some (.tuple ⟨[.bool false]⟩,⟨H,n,W,hi,lg⟩)
           | none=>none
         | none=>none
       | none=>none else none
   | _=>none
 | _=>none
def xtM(P:Program)(fr:Fr)(m:Mem)(o:Oper):Res :=
 match o.op with
 | .convert s t x=>UL P m s t (ev fr x)
 | .binOp op t x y _=>SF P m op t (ev fr x) (ev fr y)
 | .call ⟨.builtin .unsafeSliceData,xs,_⟩=>match evL fr xs.toList with
   | [x]=>sdM P m o.type x
   | _=>none
 | .call ⟨.builtin .unsafeString,xs,tys⟩=>match evL fr xs.toList,tys.toList with
   | [p,l],t::_=>usM P m t p l
   | _,_=>none
 | .makeMap t none=>A1D P m t
 | .lookup t x k ok=>zK P m t (ev fr x) (ev fr k) ok
 | .range t x=>yU P m t (ev fr x)
 | .next x true=>KV m (ev fr x)
 | .mapUpdate t x k v=>DK P m t (ev fr x) (ev fr k) (ev fr v)
 | .insert t x k v=>DK P m t (ev fr x) (ev fr k) (ev fr v)
 | .call ⟨.builtin .len,xs,tys⟩=>match evL fr xs.toList,tys.toList with
   | [x],t::_=>LH P m t x
   | _,_=>none
 | _=>none
inductive EK where
 | noEscape|makeNoZero (e:TypeId)|indexByteString|countString|indexString|copyString
 deriving DecidableEq
def MH:List (FuncId×EK)->FuncId->Option EK
 | [],_=>none
 | (g,k)::r,f=>bif Nat.beq g f then some k else MH r f
structure FnC where
 run:D3->Mem->Res
structure P7 where
 fn:FuncId->FnC
 yl:FnC
def nU:Value->Bool
 | .tuple ⟨[]⟩=>true
 | _=>false
def IP(lg:Lg)(v:Value)(b:Bool):Option (Bool×Lg) :=
 match v with
 | .bool c=>some (c == b,lg)
 | .complex k i t=>match brL lg (.complex k i t)with
   | some (c,lg)=>some (c == b,lg)
   | none=>none
 | v=>bif nU v then some (false,lg)else none
def bQ(nt:Nat)(fr:Fr)(lg:Lg)(ops:List Oper)(o:Oper):Option (Bool×Lg) :=
 match o.guard with
 | none=>some (true,lg)
 | some (j,b)=>match ops[j]? with
   | some p=>match p.dst with
     | some t=>bif Nat.blt t nt then IP lg (fr.get t) b else none
     | none=>none
   | none=>none
def xR(v:Value)(vs:List Value):Option (FuncId×List Value) :=
 match v with
 | .func (.func f) a b=>some (f,a.toList++(vs++b.toList))
 | _=>none
def eK(v:Value):Option Nat :=
 match v with
 | .func (.yield 7) ⟨[.pointer (some ⟨b,0,none⟩)]⟩ ⟨[]⟩=>some b
 | _=>none
def KT(call:P7)(m:Mem)(v:Value)(vs:List Value):Res :=
 match xR v vs with
 | some (f,vs)=>(call.fn f).run vs m
 | none=>match eK v with
   | some _=>call.yl.run (v::vs) m
   | none=>none
def B0m(call:P7)(x:XC)(xs:LC)(fr:Fr)(m:Mem):Res:=KT call m (x.run fr) (xs.run fr)
def A8v(f:FnC)(xs:LC)(fr:Fr)(m:Mem):Res:=f.run (xs.run fr) m
def A1Y(P:Program)(c:OpC)(o:Oper)(fr:Fr)(m:Mem):Res :=
 match c.run fr m with
 | some r=>some r
 | none=>match XZ P fr m o.op with
   | some r=>some r
   | none=>match dsM P fr m o.op with
     | some r=>some r
     | none=>xtM P fr m o
def X5(P:Program)(call:P7)(o:Oper):OpC :=
 match o.op with
 | .call ⟨.value (.func f),xs,_⟩=>⟨A8v (call.fn f) (vU xs.toList)⟩
 | .call ⟨.value x,xs,_⟩=>⟨B0m call (S7 x) (vU xs.toList)⟩
 | op=>⟨A1Y P (AU P op) o⟩
def AP(nt:Nat)(d:Option Tmp):Bool :=
 match d with
 | some d=>Nat.blt d nt
 | none=>true
structure A9b where
 run:Value->Fr->(Fr->Option S)->Option S
def wN(d:Option Tmp):A9b :=
 match d with
 | some t=>⟨wI (sel (t / 64%8)) (sel (t / 8%8)) (sel (t%8))⟩
 | none=>⟨fun _ fr k=>k fr⟩
structure A28 where
 run:S->Option S
def lJ(c:OpC)(d:A9b)(next:A28)(s:S):Option S :=
 match s with
 | ⟨fr,m⟩=>match c.run fr m with
   | some (v,m')=>bif Nat.ble m.hi m'.hi then d.run v fr fun fr=>next.run ⟨fr,m'⟩else none
   | none=>none
def eS(nt:Nat)(all:List Oper)(o:Oper)(c:OpC)(d:A9b)(next:A28)(s:S):Option S :=
 match s with
 | ⟨fr,⟨H,n,W,hi,lg⟩⟩=>match bQ nt fr lg all o with
   | some (true,lg)=>lJ c d next ⟨fr,⟨H,n,W,hi,lg⟩⟩
   | some (false,lg)=>d.run undef fr fun fr=>next.run ⟨fr,⟨H,n,W,hi,lg⟩⟩
   | none=>none
def V2(P:Program)(nt gl:Nat)(call:P7)(all:List Oper):List Oper->A28
 | []=>⟨some⟩
 | o::r=>bif AP nt o.dst && PG nt gl o.op then match o.guard with
   | none=>⟨fun s=>lJ (X5 P call o) (wN o.dst) (V2 P nt gl call all r) s⟩
   | some _=>⟨fun s=>eS nt all o (X5 P call o) (wN o.dst) (V2 P nt gl call all r) s⟩
   else⟨fun _=>none⟩
structure Rec where
 i:Nat
 lo:Nat
 hi:Nat
inductive Cls where
 | free
 | one (b:Nat)
 | all
def B1X(fr:Fr)(o:Op):Cls :=
 match o with
 | .move _|.assign _|.pick ..|.alloc _|.box ..|.build ..|.buildSlice ..|.nilCheck _|.binOp ..|.unOp ..|.makeInterface ..|.makeFunc ..|.makeMap ..|.makeSlice ..
 | .fieldAddr ..|.field ..|.indexAddr ..|.index ..|.extract ..|.range ..=>.free
 | .slice _ x _ _ _=>match ev fr x with
   | .slice _ _ _|.string _|.pointer _|.complex _ _ _=>.free
   | _=>.all
 | .convert _ _ x=>match ev fr x with
   | .int _ _|.string _=>.free
   | _=>.all
 | .call ⟨.builtin .len,xs,_⟩=>match evL fr xs.toList with
   | [.slice _ _ _]|[.string _]=>.free
   | _=>.all
 | .call ⟨.builtin .min,_,_⟩|.call ⟨.builtin .max,_,_⟩=>.free
 | .call ⟨.builtin .unsafeSliceData,xs,_⟩=>match evL fr xs.toList with
   | [.slice _ _ _]=>.free
   | _=>.all
 | .load _ x|.store _ x _=>match ev fr x with
   | .pointer (some a)=>.one a.block
   | _=>.all
 | _=>.all
def EE(H:Hp AB):H5->Hp AB
 | []=>H
 | b::r=>Hp.put H b none fun H=>EE H r
def FH(H0 H:Hp AB):H5->Hp AB
 | []=>H
 | b::r=>Hp.put H b (Hp.get H0 b) fun H=>FH H0 H r
def OJ:Nat->Nat->H5
 | _,0=>[]
 | lo,n+1=>lo::OJ (lo+1) n
def c8:List Rec->H5
 | []=>[]
 | r::rs=>OJ r.lo (r.hi-r.lo)++c8 rs
def x9(l:List Nat)(b:Nat):Bool:=l.any (Nat.beq b)
def IC(l:List Nat):Bool:=l.all fun b=>Nat.ble b H8
def DQ(b:List Nat)(rs:List Rec):List Rec:=rs.filter fun r=>!(x9 b r.i)
def CO(m:Mem)(c:Cls)(us:List Rec):Option Mem :=
 match m with
 | ⟨H,n,_,hi,lg⟩=>match c with
   | .free=>some ⟨hp0,n,[],hi,lg⟩
   | .one b=>bif x9 (c8 us) b || !(Nat.ble b H8)then none else Hp.put hp0 b (Hp.get H b) fun H=>some ⟨H,n,[],hi,lg⟩
   | .all=>bif IC (c8 us)then some ⟨EE H (c8 us),n,[],hi,lg⟩else none
def lT(m m':Mem):Option Mem :=
 bif Nat.ble m'.hi m.n then(match m with|⟨H,n,W,hi,_⟩=>some ⟨H,n,W,hi,m'.lg⟩)else
 bif Nat.ble m'.hi H8 then HI (FH m'.H m.H (OJ m.n (m'.hi-m.n))) fun H=>K1 m'.hi fun n=>some ⟨H,n,m.W,n,m'.lg⟩else none
def UI(fr:Fr)(m:Mem)(o:Oper)(b:List Nat)(rs:List Rec)(op:OpC)(k:Value->Mem->Option S):Option S :=
 let us:=DQ b rs
 let c:=B1X fr o.op
 match CO m c us with
 | some mv=>match op.run fr mv with
   | some (v,m') =>
     match m'.W,Nat.ble m.hi m'.hi with
     | [],true=>match lT m m' with
       | some m2=>k v m2
       | none=>none
     | _,_=>none
   | none=>none
 | none=>none
def wrO:Op->Bool
 | .call _|.store ..|.mapUpdate ..=>true
 | _=>false
def aP:Op->Bool
 | .move _|.assign _|.extract ..|.slice ..=>true
 | _=>false
def A8U:Op->Bool
 | .field ..|.fieldAddr ..|.index ..|.indexAddr ..|.binOp ..|.unOp ..|.build ..|.load ..|.pick ..|.convert ..|.slice ..|.nilCheck _=>true
 | .call ⟨.builtin .len,_,_⟩|.call ⟨.builtin .min,_,_⟩|.call ⟨.builtin .max,_,_⟩=>true
 | o=>aP o
def FW(a b:Addr):Bool :=
 match a,b with
 | ⟨x,o,none⟩,⟨y,p,none⟩=>Nat.beq x y && Nat.beq o p
 | _,_=>false
def OP(f g:Fn):Bool :=
 match f,g with
 | .func f,.func g=>Nat.beq f g
 | .yield f,.yield g=>Nat.beq f g
 | _,_=>false
def CY(s:Value->Value->Bool):D3->D3->Bool
 | [],[]=>true
 | a::l,b::r=>s a b && CY s l r
 | _,_=>false
def yO:Nat->Value->Value->Bool
 | _,.bool a,.bool b=>a == b
 | _,.int k n,.int j m=>uV k j && CJ n m
 | _,.complex .f64 i t,.complex .f64 j u=>Nat.beq i j && Nat.beq t u
 | _,.complex .f32 i t,.complex .f32 j u=>Nat.beq i j && Nat.beq t u
 | _,.string s,.string t=>decide (s.data.toList=t.data.toList)
 | _,.pointer none,.pointer none=>true
 | _,.pointer (some a),.pointer (some b)=>FW a b
 | _,.slice none n c,.slice none m d=>Nat.beq n m && Nat.beq c d
 | _,.slice (some a) n c,.slice (some b) m d=>FW a b && (Nat.beq n m && Nat.beq c d)
 | _,.map none,.map none=>true
 | _,.map (some a),.map (some b)=>Nat.beq a b
 | _,.nilFunc,.nilFunc=>true
 | _,.nilIface,.nilIface=>true
 | d+1,.func f a b,.func g a' b'=>OP f g && (CY (yO d) a.toList a'.toList && CY (yO d) b.toList b'.toList)
 | d+1,.iface t v,.iface u w=>Nat.beq t u && yO d v w
 | _,_,_=>false
def ZC(a b:AB):Bool :=
 match a,b with
 | .frz,.frz=>true
 | .cells cs T ro,.cells cs' T' ro'=>CY (yO 6) cs cs' && (Nat.beq T T' && (ro == ro'))
 | _,_=>false
def A0W(H:Hp AB)(b:Nat):Option (Nat×AB) :=
 match Hp.get H b with
 | some .frz=>some (b,.frz)
 | some (.cells cs T ro)=>some (b,.cells cs T ro)
 | _=>none
def MA(H:Hp AB)(fr:Fr)(o:Op):Option (Nat×AB) :=
 match o with
 | .load _ x=>match ev fr x with
   | .func (.yield 5) ⟨.pointer (some a)::_⟩ _=>A0W H a.block
   | .pointer (some a)=>A0W H a.block
   | _=>none
 | _=>none
def zZ(H:Hp AB)(b:Nat)(ab:AB):Bool :=
 match Hp.get H b with
 | some x=>Nat.ble b H8 && ZC x ab
 | none=>false
def tA:Nat:=262144
def GE(m:Mem)(r:Option (Nat×AB))(us:List Rec):Option Mem :=
 match m with
 | ⟨H,_,_,_,lg⟩=>match r with
   | none=>some ⟨hp0,tA,[],tA,lg⟩
   | some (b,ab)=>bif x9 (c8 us) b || !(zZ H b ab)then none else Hp.put hp0 b (some ab) fun H=>some ⟨H,tA,[],tA,lg⟩
def lM(fr:Fr)(m:Mem)(o:Oper)(b:List Nat)(rs:List Rec)(op:OpC):Option (Value×Lg) :=
 match GE m (MA m.H fr o.op) (DQ b rs)with
 | some mv=>match op.run fr mv with
   | some (v,⟨_,_,[],hi,lg⟩)=>bif Nat.beq hi tA then some (v,lg)else none
   | _=>none
 | none=>none
abbrev Qs:=List (Nat×Option (Nat×AB))
def ID:Nat->H5->Qs->Bool
 | 0,_,_=>true
 | n+1,b,qs=>(x9 b n || qs.any fun q=>Nat.beq n q.1) && ID n b qs
def GU(i:Nat):List H5->List Oper->Bool
 | c::bs,o::r=>(x9 c i || aP o.op) && GU i bs r
 | _,_=>true
def A6l(H:Hp AB)(r:Option (Nat×AB)):Bool :=
 match r with
 | none=>true
 | some (b,ab)=>zZ H b ab
def A1T(b:List Nat)(H:Hp AB)(a:Qs):Bool:=a.all fun q=>x9 b q.1 || A6l H q.2
def JO(o:Op)(i:Nat)(b:List Nat)(bs:List H5)(r:List Oper)(a:Qs):Bool:=wrO o && (ID i b a && GU i bs r)
def o8(P:Program)(nt gl:Nat)(call:P7)(all:List Oper):List Oper->Nat->List H5->List Rec->Qs->S->Option S
 | [],_,_,_,_,s=>some s
 | _::_,_,[],_,_,_=>none
 | o::r,i,b::bs,rs,qs,⟨fr,⟨H,n,W,hi,lg⟩⟩=>match bQ nt fr lg all o,AP nt o.dst && PG nt gl o.op with
   | some (true,lg),true=>bif JO o.op i b bs r qs then(match (X5 P call o).run fr ⟨H,n,W,hi,lg⟩with
      | some (v,m2)=>bif Nat.ble hi m2.hi && A1T b m2.H qs then(wN o.dst).run v fr fun fr=>o8 P nt gl call all r (i+1) bs [] qs ⟨fr,m2⟩else none
      | none=>none)
     else match (bif A8U o.op then lM fr ⟨H,n,W,hi,lg⟩ o b rs (X5 P call o)else none)with
      | some (v,lg2)=>(wN o.dst).run v fr fun a=>o8 P nt gl call all r (i+1) bs rs ((i,MA H fr o.op)::qs) ⟨a,⟨H,n,W,hi,lg2⟩⟩
      | none=>bif aP o.op then none else UI fr ⟨H,n,W,hi,lg⟩ o b rs (X5 P call o) fun v m2 =>
        (wN o.dst).run v fr fun fr=>o8 P nt gl call all r (i+1) bs (⟨i,n,m2.n⟩::rs) qs ⟨fr,m2⟩
   | some (false,lg),true=>(wN o.dst).run undef fr fun fr=>o8 P nt gl call all r (i+1) bs rs ((i,none)::qs) ⟨fr,⟨H,n,W,hi,lg⟩⟩
   | _,_=>none
def A25(l:List Nat)(b:Nat):H5:=bif x9 l b then l else K1 b fun b=>b::l
def TE:H5->H5->H5
 | [],b=>b
 | x::a,b=>A25 (TE a b) x
def tE(acc:List H5):List Edge->H5
 | []=>[]
 | e::r=>bif Region.binds .any e then A25 (TE (acc.getD e.on []) (tE acc r)) e.on else tE acc r
def Z4:List Oper->List H5->List H5
 | [],acc=>acc
 | o::r,acc=>S0 (tE acc o.after.toList) fun a=>Z4 r (acc++[a])
def qI:Operand->List Tmp
 | .tmp t=>[t]
 | _=>[]
def V9(ops:List Oper)(o:Oper):List Tmp :=
 o.dst.toList++(o.op.operands.toList.flatMap qI++(match o.guard with
  | none=>[]
  | some (j,_)=>match ops[j]? with
    | some p=>p.dst.toList
    | none=>[]))
def A3y(a:List H5)(i k:Nat):Bool:=bif Nat.blt i k then x9 (a.getD k []) i else x9 (a.getD i []) k
def tI(b:List H5)(i:Nat)(a:List Tmp):List Oper->Nat->Bool
 | [],_=>true
 | p::r,k=>(Nat.beq k i || (match p.dst with|none=>true|some t=>!(x9 a t) || A3y b i k)) && tI b i a r (k+1)
def nZ(i:Nat):List Edge->Bool
 | []=>true
 | e::r=>(!(Region.binds .any e) || Nat.blt e.on i) && nZ i r
def KQ(ops:List Oper)(a:List H5):List Oper->Nat->Bool
 | [],_=>true
 | o::r,i=>nZ i o.after.toList && (tI a i (V9 ops o) ops 0 && KQ ops a r (i+1))
def HU(ops:Array Oper):Bool:=KQ ops.toList (Z4 ops.toList []) ops.toList 0
def HX:Op->Bool
 | .move _|.assign _|.load _ _|.store _ _ _=>true
 | _=>false
def mQ:Op->Option (TypeId×Operand)
 | .load t x=>some (t,x)
 | .store t x _=>some (t,x)
 | _=>none
def fY:Op->Bool
 | .store _ _ _=>true
 | _=>false
def A0U:Op->List Tmp
 | .move x|.assign x=>qI x
 | .load _ x=>qI x
 | .store _ x y=>qI x++qI y
 | _=>[]
def DJ(o:Oper)(l:List Tmp):Bool :=
 match o.dst with
 | some d=>x9 l d
 | none=>false
def B0u(a b:Oper):Bool :=
 (match a.dst,b.dst with
   | some d,some e=>!(Nat.beq d e)
   | _,_=>true) && (!(DJ a (A0U b.op)) && (!(DJ b (A0U a.op)) && !(fY a.op && fY b.op)))
def sV(o:Oper)(i:Nat):Bool:=o.after.any fun e=>Region.binds .any e && Nat.beq e.on i
def A26(l:List Oper):List Tmp:=l.flatMap fun o=>match mQ o.op with
 | some (_,x)=>qI x
 | none=>[]
def GG(p:Oper->Oper->Bool)(l:List Oper):Bool :=
 (List.range l.length).all fun j=>(List.range j).all fun i=>match l[i]?,l[j]? with
   | some a,some b=>sV b i || p a b
   | _,_=>true
def A8c(a:List Tmp)(i:Nat)(o:Oper):Bool:=HX o.op && ((match o.guard with|none=>true|some _=>false) && (!(DJ o a) && o.after.all fun e=>!(Region.binds .any e) || Nat.blt e.on i))
def A01(a:List Tmp):Nat->List Oper->Bool
 | _,[]=>true
 | i,o::l=>A8c a i o && A01 a (i+1) l
def lK(l:List Oper):Bool:=A01 (A26 l) 0 l && GG B0u l
def A0t(P:Program)(nt gl:Nat)(fr:Fr)(H:Hp AB)(o:Oper):Bool :=
 match mQ o.op with
 | none=>true
 | some (t,x)=>bif !(okX nt gl x)then false else match ev fr x,aW P t,H4 P t with
   | .pointer (some a),some _,some s=>match a.spot,Hp.get H a.block with
     | none,some (.cells cs _ false)=>Nat.ble (a.off+s) cs.length && (Nat.blt a.off cs.length && Nat.ble a.block H8)
     | _,_=>false
   | _,_,_=>false
def A23(fr:Fr)(a b:Oper):Bool :=
 bif fY a.op || fY b.op then match mQ a.op,mQ b.op with
  | some (_,x),some (_,y)=>match ev fr x,ev fr y with
    | .pointer (some p),.pointer (some q)=>!(Nat.beq p.block q.block)
    | _,_=>false
  | _,_=>true else true
def lV(P:Program)(nt gl:Nat)(fr:Fr)(H:Hp AB)(l:List Oper):Bool:=l.all (A0t P nt gl fr H) && GG (A23 fr) l
structure gL where
 run:S->Option (Ex×S)
def DS(f:gL):Nat->S->Option (Ex×S)
 | 0,_=>none
 | n+1,s=>match f.run s with
   | some (.normal,s)=>DS f n s
   | r=>r
def A2s(a b:gL)(s:S):Option (Ex×S) :=
 match a.run s with
 | some (.normal,s)=>b.run s
 | r=>r
def NA(c:XC)(a b:gL)(s:S):Option (Ex×S) :=
 match c.run s.fr with
 | .bool true=>a.run s
 | .bool false=>b.run s
 | v=>match s with
   | ⟨fr,⟨H,n,W,hi,lg⟩⟩=>match brL lg v with
     | some (true,lg)=>a.run ⟨fr,⟨H,n,W,hi,lg⟩⟩
     | some (false,lg)=>b.run ⟨fr,⟨H,n,W,hi,lg⟩⟩
     | none=>none
def BC(id:Nat)(c:gL)(s:S):Option (Ex×S) :=
 match c.run s with
 | some (.exit j,s)=>bif Nat.beq j id then some (.normal,s)else some (.exit j,s)
 | r=>r
def Z2(r:A28)(s:S):Option (Ex×S) :=
 match r.run s with
 | some s=>some (.normal,s)
 | none=>none
structure LpT where
 me:FuncId
 look:List Bool->Option (S->Option (Ex×S))
def DT(c:gL)(L:S->Option (Ex×S)):Nat->S->Option (Ex×S)
 | 0,_=>none
 | n+1,s=>match L s with
   | some r=>some r
   | none=>match c.run s with
     | some (.normal,s)=>DT c L n s
     | r=>r
def MY(c:gL)(l:Option (S->Option (Ex×S)))(s:S):Option (Ex×S) :=
 match l with
 | some f=>DT c f 4 s
 | none=>DS c 1000000 s
def frL(fr:Fr):Nat->Nat->D3
 | _,0=>[]
 | i,n+1=>fr.get i::frL fr (i+1) n
def A6M:Value->Nat
 | .pointer (some a)=>a.block
 | _=>0
def iN(v:Value):H5 :=
 match v with
 | .func (.yield 8) ⟨l⟩ ⟨[]⟩=>l.map A6M
 | _=>[]
def exN:Ex->Nat
 | .normal=>0
 | .ret=>2
 | .exit k=>k+4
def nEx:Nat->Option Ex
 | 0=>some .normal
 | 1=>none
 | 2=>some .ret
 | 3=>none
 | k+4=>some (.exit k)
def GY:Ex->Bool
 | .normal=>true
 | _=>false
def rM(fr:Fr)(hi:Nat)(b:Nat)(r:Res):Option (Ex×S) :=
 match r with
 | some (_,m)=>match Hp.get m.H b with
   | some (.lp f q vs st)=>match nEx st with
     | some e=>bif Nat.ble hi m.hi then match cQ m b (.lp f q vs 3)with
       | some m=>some (e,⟨fr,m⟩)
       | none=>none else none
     | none=>none
   | _=>none
 | none=>none
def sK(P:Program)(f:FuncId):Bool :=
 match P.funcs.toList[f]? with
 | some fn=>match fn.body with
   | some _=>true
   | none=>false
 | none=>false
def cM(P:Program)(nt:Nat)(call:P7)(f:FuncId)(q:List Bool)(g:Value)(fr:Fr)(m:Mem):Option (Ex×S) :=
 S0 (frL fr 0 nt) fun vs=>match Z9 m (.lp f q vs 0) yv with
 | some (v,m1)=>match xR g [v],eK v with
   | some (k,as),some b=>bif sK P k then rM fr m1.hi b ((call.fn k).run as m1)else none
   | _,_=>none
 | none=>none
def BA(P:Program)(nt:Nat)(call:P7)(f:FuncId)(q:List Bool)(x:XC)(s:S):Option (Ex×S) :=
 match s with
 | ⟨fr,m⟩=>bif Nat.ble nt 510 then match eK (fr.get 511)with
   | some d=>match Hp.get m.H d with
     | some (.lp _ _ _ 1)=>cM P nt call f q (x.run fr) fr m
     | _=>none
   | none=>bif nU (fr.get 511)then match Z9 m (.dfr true) (fun b=>.pointer (some ⟨b,0,none⟩))with
      | some (.pointer (some a),m1)=>S0 (iN (fr.get 510)) fun l=>wI (sel 7) (sel 7) (sel 6) (dv (a.block::l)) fr fun c=>cM P nt call f q (x.run fr) c m1
      | _=>none else none
   else none
def O1(P:Program)(nt gl:Nat)(call:P7)(lp:LpT):List Bool->Code->gL
 | _,.skip=>⟨fun s=>some (.normal,s)⟩
 | _,.label _=>⟨fun s=>some (.normal,s)⟩
 | _,.region _ ops d=>match d with
   | false=>⟨fun s=>Z2 (V2 P nt gl call ops.toList ops.toList) s⟩
   | true=>bif HU ops then bif lK ops.toList then⟨fun s=>bif lV P nt gl s.fr s.m.H ops.toList then Z2 (V2 P nt gl call ops.toList ops.toList) s else Z2 ⟨o8 P nt gl call ops.toList ops.toList 0 (Z4 ops.toList []) [] []⟩ s⟩
     else⟨fun s=>Z2 ⟨o8 P nt gl call ops.toList ops.toList 0 (Z4 ops.toList []) [] []⟩ s⟩else⟨fun _=>none⟩
 | q,.seq a b=>⟨fun s=>A2s (O1 P nt gl call lp (q++[false]) a) (O1 P nt gl call lp (q++[true]) b) s⟩
 | q,.cond c a b=>bif okX nt gl c then⟨fun s=>NA (S7 c) (O1 P nt gl call lp (q++[false]) a) (O1 P nt gl call lp (q++[true]) b) s⟩else⟨fun _=>none⟩
 | q,.block id c=>⟨fun s=>BC id (O1 P nt gl call lp (q++[false]) c) s⟩
 | q,.loop c=>⟨fun s=>MY (O1 P nt gl call lp (q++[false]) c) (lp.look q) s⟩
 | q,.rangeFunc x _ _ _=>bif okX nt gl x then⟨fun s=>BA P nt call lp.me q (S7 x) s⟩else⟨fun _=>none⟩
 | q,.scope c=>O1 P nt gl call lp (q++[false]) c
 | _,.exit id=>⟨fun s=>some (.exit id,s)⟩
 | _,.ret=>⟨fun s=>some (.ret,s)⟩
 | _,_=>⟨fun _=>none⟩
def LW(ids:Value->List Nat):D3->H5
 | []=>[]
 | v::r=>ids v++LW ids r
def CH:Nat->Value->H5
 | 0,_=>[]
 | _+1,.pointer (some a)=>[a.block]
 | _+1,.slice (some a) _ _=>[a.block]
 | _+1,.map (some b)=>[b]
 | d+1,.func _ a b=>LW (CH d) a.toList++LW (CH d) b.toList
 | d+1,.iface _ v=>CH d v
 | d+1,.agg cs=>LW (CH d) cs.toList
 | d+1,.tuple cs=>LW (CH d) cs.toList
 | _+1,_=>[]
def B0w:AB->H5
 | .cells cs _ _=>LW (CH 10) cs
 | .mp _ _ _=>[]
 | .iter vs=>LW (CH 10) vs
 | .lp _ _ vs _=>LW (CH 10) vs
 | .dfr _=>[]
 | .sq _ _ _ g _=>[g]
 | .frz=>[]
def KB(n0:Nat)(H:Hp AB):Nat->H5->H5->H5
 | 0,_,acc=>acc
 | _+1,[],acc=>acc
 | f+1,b::r,acc=>bif Nat.blt b n0 || x9 acc b then KB n0 H f r acc else match Hp.get H b with
   | some ab=>KB n0 H f (B0w ab++r) (b::acc)
   | none=>KB n0 H f r acc
def eZ(a H:Hp AB):H5->Hp AB
 | []=>H
 | b::r=>Hp.put H b (Hp.get a b) fun H=>eZ a H r
def wOf(H:Hp AB):H5->H5
 | []=>[]
 | b::r=>(match Hp.get H b with|some ab=>B0w ab|none=>[])++wOf H r
def oQ:H5->H5->H5
 | [],acc=>acc
 | b::r,acc=>bif x9 acc b then oQ r acc else oQ r (b::acc)
def oH(low:Value->Bool):D3->Bool
 | []=>true
 | v::r=>low v && oH low r
def j7(n:Nat):Nat->Value->Bool
 | 0,_=>false
 | _+1,.pointer (some a)=>Nat.blt a.block n
 | _+1,.slice (some a) _ _=>Nat.blt a.block n
 | _+1,.map (some b)=>Nat.blt b n
 | d+1,.func _ a b=>oH (j7 n d) a.toList && oH (j7 n d) b.toList
 | d+1,.iface _ v=>j7 n d v
 | d+1,.agg cs=>oH (j7 n d) cs.toList
 | d+1,.tuple cs=>oH (j7 n d) cs.toList
 | _+1,.complex _ _ _=>true
 | _+1,v=>I8 v
def A4D(n:Nat):Option AB->Bool
 | none=>true
 | some (.cells cs _ _)=>oH (j7 n 10) cs
 | some (.mp _ _ _)=>true
 | some (.iter vs)=>oH (j7 n 10) vs
 | some (.lp _ _ vs _)=>oH (j7 n 10) vs
 | some (.dfr _)=>true
 | some (.sq _ _ _ g _)=>Nat.blt g n
 | some .frz=>true
def PM(n:Nat)(H:Hp AB):H5->Bool
 | []=>true
 | b::r=>A4D n (Hp.get H b) && PM n H r
def gcM(m m':Mem)(v:Value):Option Mem :=
 let W:=oQ (m'.W.filter fun b=>Nat.blt b m.n || Nat.ble m'.hi b) []
 bif j7 m.n 10 v && PM m.n m'.H W then
  bif IC W then HI (eZ m'.H m.H W) fun H=>K1 m'.hi fun hi=>S0 (W++m.W) fun W=>some ⟨H,m.n,W,hi,m'.lg⟩else none
 else
  let ids:=(KB m.n m'.H 100000 (CH 10 v++wOf m'.H W) []).filter fun b=>Nat.ble m.n b && Nat.blt b m'.hi
  bif IC (W++ids)then HI (eZ m'.H m.H (W++ids)) fun H=>K1 m'.n fun n=>K1 m'.hi fun hi=>S0 (W++m.W) fun W=>some ⟨H,n,W,hi,m'.lg⟩else none
def A92(P:Program)(nt:Nat)(s:S):ResultVar->R3
 | .tmp t=>bif Nat.blt t nt then some (s.fr.get t)else none
 | .cell a t=>bif Nat.blt a nt then match s.fr.get a with
   | .pointer (some a)=>SW P s.m t a
   | _=>none else none
def VT(P:Program)(nt:Nat)(s:S):List ResultVar->Option D3
 | []=>some []
 | r::rs=>match A92 P nt s r,VT P nt s rs with
   | some v,some vs=>some (v::vs)
   | _,_=>none
def VS(fn:Func)(P:Program)(s:S):R3 :=
 match VT P fn.ntmps s fn.results.toList with
 | some [v]=>some v
 | some vs=>some (.tuple ⟨vs⟩)
 | none=>none
def fJ(fr:Fr):Nat->D3->Fr
 | _,[]=>fr
 | i,v::r=>wI (sel (i / 64%8)) (sel (i / 8%8)) (sel (i%8)) v fr fun fr=>fJ fr (i+1) r
def tZ(l:List UInt8)(c:UInt8):Nat->Int
 | i=>match l with
   | [] => -1
   | b::r=>bif decide (b=c)then(i:Int)else tZ r c (i+1)
def uJ(c:UInt8):List UInt8->Nat->Nat
 | [],n=>n
 | b::r,n=>bif decide (b=c)then K1 (n+1) (uJ c r)else uJ c r n
def pJ(k:EK)(args:List Value)(m:Mem):Res :=
 match k,args with
 | .noEscape,[v]=>some (v,m)
 | .indexByteString,[.string s,.int .u8 (.ofNat c)]=>some (.int .i64 (tZ s.data.toList (UInt8.ofNat c) 0),m)
 | .countString,[.string s,.int .u8 (.ofNat c)]=>some (.int .i64 (uJ (UInt8.ofNat c) s.data.toList 0),m)
 | .makeNoZero e,[.int .i64 (.ofNat n)]=>bif Nat.ble n 1000000000 then Z9 m (.cells [] e false) fun b=>.slice (some ⟨b,0,none⟩) n N6 else none
 | _,_=>none
def qK:H5->Mem->Option Mem
 | [],m=>some m
 | b::r,m=>match Hp.get m.H b with
   | some (.dfr true)=>match cQ m b (.dfr false)with
     | some m=>qK r m
     | none=>none
   | _=>none
def dvG(nt:Nat)(fr:Fr):H5:=bif Nat.ble nt 510 then iN (fr.get 510)else[]
def A9K(fn:Func)(P:Program)(m:Mem)(r:Option (Ex×S)):Res :=
 match r with
 | some (.normal,⟨fr,m1⟩)|some (.ret,⟨fr,m1⟩)=>match qK (dvG fn.ntmps fr) m1 with
   | some m1=>match VS fn P ⟨fr,m1⟩with
     | some v=>match gcM m m1 v with
       | some m=>some (v,m)
       | none=>none
     | none=>none
   | none=>none
 | _=>none
def OI(c:gL)(fr:Fr)(m:Mem):Option (Ex×S) :=
 match m with
 | ⟨H,n,_,hi,lg⟩=>c.run ⟨fr,⟨H,n,[],hi,lg⟩⟩
def BG(fn:Func)(P:Program)(c:gL)(args:List Value)(m:Mem):Res :=
 bif Nat.ble args.length fn.ntmps && Nat.ble fn.ntmps 512 then A9K fn P m (OI c (fJ fr0 0 args) m)else none
structure Cx where
 P:Program
 ext:List (FuncId×EK)
 gl:Nat
 con:FuncId->Option FnC
 lp:FuncId->LpT
def EX(C:Cx)(call:P7)(f:FuncId):FnC :=
 match C.P.funcs.toList[f]? with
 | none=>⟨fun _ _=>none⟩
 | some fn=>match C.con f with
   | some c=>c
   | none=>match fn.body with
     | none=>match MH C.ext f with
       | some k=>⟨pJ k⟩
       | none=>⟨fun _ _=>none⟩
     | some c=>⟨BG fn C.P (O1 C.P fn.ntmps C.gl call (C.lp f) [] c)⟩
def vH:List Tmp->D3->Fr->Option Fr
 | [],[],fr=>some fr
 | t::ts,v::vs,fr=>wI (sel (t / 64%8)) (sel (t / 8%8)) (sel (t%8)) v fr fun fr=>vH ts vs fr
 | _,_,_=>none
def rH(b:Nat)(r:Option (Ex×S)):Res :=
 match r with
 | some (e,⟨_,m⟩)=>match Hp.get m.H b with
   | some (.lp f q vs 1)=>K1 (exN e) fun st=>match cQ m b (.lp f q vs st)with
     | some m=>some (.bool (GY e),m)
     | none=>none
   | _=>none
 | none=>none
def rF(b:Nat)(c:gL)(r:Option (Ex×S)):Res :=
 match r with
 | some (.normal,⟨fr,m⟩)=>match Hp.get m.H b with
   | some (.lp f q vs 0)=>match cQ m b (.lp f q vs 1)with
     | some m=>rH b (c.run ⟨fr,m⟩)
     | none=>none
   | _=>none
 | _=>none
def FZ(C:Cx)(call:P7):FnC:=⟨fun vs m =>
 match vs with
 | []=>none
 | v::args=>match eK v with
   | none=>none
   | some b=>match Hp.get m.H b with
     | some (.lp f q fs 0)=>match C.P.funcs.toList[f]? with
       | none=>none
       | some fn=>match fn.body with
         | none=>none
         | some body=>match G7 q body with
           | some (.rangeFunc _ ps as bd)=>bif Nat.ble fn.ntmps 510 && ps.toList.all (fun t=>Nat.blt t fn.ntmps)then match vH ps.toList args (fJ fr0 0 fs)with
             | some fr=>wI (sel 7) (sel 7) (sel 7) v fr fun fr=>rF b (O1 C.P fn.ntmps C.gl call (C.lp f) (q++[true]) bd) ((O1 C.P fn.ntmps C.gl call (C.lp f) (q++[false]) as).run ⟨fr,m⟩)
             | none=>none else none
           | _=>none
     | _=>none⟩
def vW(C:Cx):Nat->P7
 | 0=>⟨fun _=>⟨fun _ _=>none⟩,⟨fun _ _=>none⟩⟩
 | d+1=>⟨EX C (vW C d),FZ C (vW C d)⟩
end
end Go.Sx
