/- The law KeysWhole: for every input the call returns true, and the arguments read behind it as they read before. No condition. -/
import Derived.WalkKit
import Derived.OrdersHeld
import Derived.KernelRfl
set_option linter.all false
set_option maxRecDepth 100000
set_option maxHeartbeats 4000000
namespace Go
variable {p:Prop}
abbrev jL:=@Array.all_eq_true'
abbrev L3:=@Array.ext'
abbrev C6:=@Array.getD_eq_getD_getElem?
abbrev Z2:=@Array.getElem?_append_left
abbrev I1:=@Array.getElem?_eq_getElem
abbrev E4:=@Array.getElem?_eq_some_iff
abbrev J1:=@Array.getElem?_modify
abbrev bJ:=@Array.getElem?_push
abbrev lD:=@Array.getElem?_replicate
abbrev H4:=@Array.getElem?_setIfInBounds
abbrev Z6:=@Array.getElem?_toList
abbrev X9:=@Array.length_toList
abbrev jQ:=@Array.mapM_eq_mapM_toList
abbrev aT:=@Array.mk.injEq
abbrev r9:=@BitVec.toNat_and
abbrev S1:=@BitVec.toNat_ofInt
abbrev I3:=@Bool.and_eq_true
abbrev P5:=@Bool.and_false
abbrev lC:=@Bool.and_true
abbrev N0:=@Bool.eq_iff_iff
abbrev Q5:=@Bool.false_and
abbrev L2:=@Bool.false_eq_true
abbrev R7:=@Bool.false_or
abbrev V8:=@Bool.not_true
abbrev P1:=@Bool.or_eq_false_iff
abbrev K6:=@Bool.or_eq_true
abbrev Q6:=@Bool.true_and
abbrev K2:=@Decidable.not_not
abbrev cL:=@Int.emod_lt_of_pos
abbrev cA:=@Int.emod_nonneg
abbrev oN:=@Int.ofNat.injEq
abbrev fN:=@Int.ofNat_eq_natCast
abbrev jK:=@Int.tmod_eq_emod_of_nonneg
abbrev N6:=@Int.toNat_natCast
abbrev U5:=@Int.toNat_of_nonneg
abbrev fZ:=@List.all_append
abbrev bT:=@List.all_cons
abbrev D7:=@List.all_eq_true
abbrev bS:=@List.any_cons
abbrev y5:=@List.any_eq_false
abbrev Y7:=@List.any_eq_true
abbrev N5:=@List.append_assoc
abbrev fY:=@List.append_nil
abbrev L8:=@List.cons.inj
abbrev H8:=@List.cons.injEq
abbrev Y6:=@List.cons_append
abbrev dU:=@List.drop_drop
abbrev bE:=@List.drop_eq_getElem_cons
abbrev dT:=@List.drop_eq_nil_of_le
abbrev P4:=@List.drop_zero
abbrev eP:=@List.eq_nil_iff_forall_not_mem
abbrev R4:=@List.eq_nil_of_length_eq_zero
abbrev i7:=@List.ext_getElem?
abbrev mN:=@List.filter_cons
abbrev mM:=@List.filter_cons_of_pos
abbrev gG:=@List.filter_eq_self
abbrev dS:=@List.find?_append
abbrev fX:=@List.find?_cons
abbrev J8:=@List.find?_cons_of_neg
abbrev N4:=@List.find?_cons_of_pos
abbrev kQ:=@List.flatMap_cons
abbrev B4:=@List.getD_eq_getElem?_getD
abbrev F8:=@List.getElem?_append_left
abbrev E9:=@List.getElem?_append_right
abbrev W8:=@List.getElem?_cons_succ
abbrev W7:=@List.getElem?_cons_zero
abbrev J7:=@List.getElem?_drop
abbrev A7:=@List.getElem?_eq_getElem
abbrev M4:=@List.getElem?_eq_none
abbrev jP:=@List.getElem?_eq_none_iff
abbrev B3:=@List.getElem?_eq_some_iff
abbrev H9:=@List.getElem?_map
abbrev aR:=@List.getElem?_set_ne
abbrev Y2:=@List.getElem?_set_self
abbrev G4:=@List.getElem?_take_of_lt
abbrev M3:=@List.getElem?_toArray
abbrev S6:=@List.getElem_mem
abbrev bH:=@List.getElem_of_mem
abbrev O7:=@List.isPrefixOf_iff_prefix
abbrev B1:=@List.length_append
abbrev B6:=@List.length_cons
abbrev F6:=@List.length_drop
abbrev D5:=@List.length_eq_zero_iff
abbrev H3:=@List.length_map
abbrev E0:=@List.length_nil
abbrev O1:=@List.length_pos_iff
abbrev bY:=@List.length_set
abbrev G1:=@List.length_singleton
abbrev G3:=@List.length_take
abbrev O2:=@List.map_append
abbrev F0:=@List.map_cons
abbrev kZ:=@List.map_drop
abbrev dR:=@List.map_inj_left
abbrev K7:=@List.map_nil
abbrev bR:=@List.map_take
abbrev B5:=@List.mem_append
abbrev i6:=@List.mem_append_left
abbrev x8:=@List.mem_append_right
abbrev B7:=@List.mem_cons
abbrev D1:=@List.mem_cons_of_mem
abbrev C7:=@List.mem_cons_self
abbrev X5:=@List.mem_filter
abbrev U2:=@List.mem_map
abbrev jO:=@List.mem_of_find?_eq_some
abbrev E6:=@List.mem_of_getElem?
abbrev K0:=@List.mem_of_mem_drop
abbrev N3:=@List.mem_of_mem_take
abbrev jN:=@List.mem_or_eq_of_mem_set
abbrev dQ:=@List.mem_range
abbrev L1:=@List.mem_singleton
abbrev X4:=@List.nil_append
abbrev H7:=@List.not_mem_nil
abbrev V4:=@List.take_append_drop
abbrev oM:=@List.take_left'
abbrev mL:=@List.take_length
abbrev L7:=@List.take_of_length_le
abbrev fC:=@Nat.add_assoc
abbrev oA:=@Nat.add_comm
abbrev J4:=@Nat.add_mul
abbrev r8:=@Nat.add_sub_cancel_left
abbrev mK:=@Nat.and_le_right
abbrev gT:=@Nat.beq_refl
abbrev uF:=@Nat.ble_eq
abbrev D2:=@Nat.ble_eq_true_of_le
abbrev A1:=@Nat.eq_of_beq_eq_true
abbrev Z1:=@Nat.eq_zero_or_pos
abbrev A2:=@Nat.le_of_ble_eq_true
abbrev nZ:=@Nat.le_of_lt
abbrev B0:=@Nat.le_refl
abbrev t8:=@Nat.le_succ
abbrev B9:=@Nat.le_trans
abbrev jJ:=@Nat.lt_of_le_of_lt
abbrev E5:=@Nat.lt_of_lt_of_le
abbrev G7:=@Nat.lt_or_ge
abbrev kP:=@Nat.lt_succ_of_lt
abbrev K4:=@Nat.lt_succ_self
abbrev kO:=@Nat.lt_trichotomy
abbrev O6:=@Nat.mod_eq_of_lt
abbrev uE:=@Nat.mod_lt
abbrev bD:=@Nat.mul_comm
abbrev cK:=@Nat.mul_div_cancel
abbrev qZ:=@Nat.mul_le_mul
abbrev G8:=@Nat.mul_le_mul_right
abbrev kN:=@Nat.one_mul
abbrev nY:=@Nat.sub_self
abbrev gS:=@Nat.sub_zero
abbrev g9:=@Nat.succ_le_of_lt
abbrev gF:=@Nat.testBit_two_pow
abbrev G0:=@Nat.zero_add
abbrev W1:=@Nat.zero_le
abbrev nX:=@Nat.zero_mul
abbrev A5:=@Option.bind_eq_some_iff
abbrev C4:=@Option.bind_some
abbrev bC:=@Option.getD_some
abbrev dP:=@Option.map_eq_some_iff
abbrev P3:=@Option.map_some
abbrev A9:=@Option.some.inj
abbrev D9:=@Option.some.injEq
abbrev R1:=@Option.some_ne_none
abbrev R6:=@Prod.mk.injEq
abbrev A8:=@Sem.run_bind
abbrev eO:=@beq_self_eq_true
abbrev E8:=@cond_false
abbrev F7:=@cond_true
abbrev G2:=@congrArg
abbrev C9:=@decide_eq_false
abbrev D3:=@decide_eq_true
abbrev A3:=@if_neg
abbrev A4:=@if_pos
abbrev F4:=@of_decide_eq_true
def C3(h:p:=by kernel_rfl):p:=h
def X6{α:Type}{a:Option α}{b c:α}(h:a=some b)(e:b=c:=by kernel_rfl):a=some c:=h.trans (by rw[e])
def A0(h:p:=by omega):p:=h
def B8(h:p:=by decide):p:=h
end Go
namespace Go.Sx
section
open Go
abbrev D6:=List Value
abbrev I9:=List Nat
abbrev W4:=Option Value
abbrev r7:=Array Value
structure N8 (α:Type) where
 c0:α
 c1:α
 c2:α
 c3:α
 c4:α
 c5:α
 c6:α
 c7:α
structure Sel where
 get:{α:Type}->N8 α->α
 upd:{α β:Type}->N8 α->α->(N8 α->β)->β
def sel:Nat->Sel
 | 0=>⟨fun n=>n.c0,fun n v k=>match n with|⟨a0,a1,a2,a3,a4,a5,a6,a7⟩=>k ⟨v,a1,a2,a3,a4,a5,a6,a7⟩⟩
 | 1=>⟨fun n=>n.c1,fun n v k=>match n with|⟨a0,a1,a2,a3,a4,a5,a6,a7⟩=>k ⟨a0,v,a2,a3,a4,a5,a6,a7⟩⟩
 | 2=>⟨fun n=>n.c2,fun n v k=>match n with|⟨a0,a1,a2,a3,a4,a5,a6,a7⟩=>k ⟨a0,a1,v,a3,a4,a5,a6,a7⟩⟩
 | 3=>⟨fun n=>n.c3,fun n v k=>match n with|⟨a0,a1,a2,a3,a4,a5,a6,a7⟩=>k ⟨a0,a1,a2,v,a4,a5,a6,a7⟩⟩
 | 4=>⟨fun n=>n.c4,fun n v k=>match n with|⟨a0,a1,a2,a3,a4,a5,a6,a7⟩=>k ⟨a0,a1,a2,a3,v,a5,a6,a7⟩⟩
 | 5=>⟨fun n=>n.c5,fun n v k=>match n with|⟨a0,a1,a2,a3,a4,a5,a6,a7⟩=>k ⟨a0,a1,a2,a3,a4,v,a6,a7⟩⟩
 | 6=>⟨fun n=>n.c6,fun n v k=>match n with|⟨a0,a1,a2,a3,a4,a5,a6,a7⟩=>k ⟨a0,a1,a2,a3,a4,a5,v,a7⟩⟩
 | _=>⟨fun n=>n.c7,fun n v k=>match n with|⟨a0,a1,a2,a3,a4,a5,a6,a7⟩=>k ⟨a0,a1,a2,a3,a4,a5,a6,v⟩⟩
def uD{α:Type}(v:α):N8 α:=⟨v,v,v,v,v,v,v,v⟩
def OD{α β:Type}(n:N8 α)(k:N8 α->β):β :=
 match n with
 | ⟨a0,a1,a2,a3,a4,a5,a6,a7⟩=>k ⟨a0,a1,a2,a3,a4,a5,a6,a7⟩
abbrev Fr:=N8 (N8 (N8 Value))
def Fr.get(fr:Fr)(t:Nat):Value:=(sel (t%8)).get ((sel (t / 8%8)).get ((sel (t / 64%8)).get fr))
def AU{β:Type}(a b c:Sel)(v:Value)(fr:Fr)(k:Fr->β):β :=
 c.upd (b.get (a.get fr)) v fun d=>b.upd (a.get fr) d fun e=>a.upd fr e k
def Fr.set(fr:Fr)(t:Nat)(v:Value):Fr:=AU (sel (t / 64%8)) (sel (t / 8%8)) (sel (t%8)) v fr fun fr=>fr
def fr0:Fr:=uD (uD (uD (.tuple #[])))
abbrev Hp(α:Type):=N8 (N8 (N8 (N8 (N8 (N8 (Option α))))))
def Hp.get{α:Type}(h:Hp α)(n:Nat):Option α :=
 (sel (n%8)).get ((sel (n / 8%8)).get ((sel (n / 64%8)).get ((sel (n / 512%8)).get ((sel (n / 4096%8)).get ((sel (n / 32768%8)).get h)))))
def eF{α β:Type}(a b c d e f:Sel)(v:Option α)(h:Hp α)(k:Hp α->β):β :=
 f.upd (e.get (d.get (c.get (b.get (a.get h))))) v fun m=>e.upd (d.get (c.get (b.get (a.get h)))) m fun g=>d.upd (c.get (b.get (a.get h))) g fun l=>c.upd (b.get (a.get h)) l fun i=>b.upd (a.get h) i fun j=>a.upd h j k
def Hp.put{α β:Type}(h:Hp α)(n:Nat)(v:Option α)(k:Hp α->β):β :=
 eF (sel (n / 32768%8)) (sel (n / 4096%8)) (sel (n / 512%8)) (sel (n / 64%8)) (sel (n / 8%8)) (sel (n%8)) v h k
def Hp.set{α:Type}(h:Hp α)(n:Nat)(v:Option α):Hp α:=h.put n v fun h=>h
def hp0{α:Type}:Hp α:=uD (uD (uD (uD (uD (uD none)))))
def J0:Nat:=262143
def M5{β:Type}(n:Nat)(k:Nat->β):β :=
 match n with
 | 0=>k 0
 | m+1=>k (Nat.succ m)
def FE{β:Type}(i:Int)(k:Int->β):β :=
 match i with
 | .ofNat n=>M5 n fun n=>k (.ofNat n)
 | .negSucc n=>M5 n fun n=>k (.negSucc n)
def V9{α β:Type}:List α->(List α->β)->β
 | [],k=>k []
 | x::r,k=>V9 r fun r=>k (x::r)
def VX:IntKind->Nat
 | .i8=>127|.i16=>32767|.i32=>2147483647|.i64=>9223372036854775807
 | .u8=>255|.u16=>65535|.u32=>4294967295|.u64=>18446744073709551615
def HX(k:IntKind)(n:Int):Int :=
 match n with
 | .ofNat m=>bif Nat.ble m (VX k)then .ofNat m else k.wrap (.ofNat m)
 | .negSucc m=>k.wrap (.negSucc m)
def B9o(a b:Int):Int :=
 match a,b with
 | .ofNat m,.ofNat n=>.ofNat (Nat.add m n)
 | a,b=>a+b
def B4i(a b:Int):Int :=
 match a,b with
 | .ofNat m,.ofNat n=>bif Nat.ble n m then .ofNat (Nat.sub m n)else .ofNat m - .ofNat n
 | a,b=>a-b
def B7y(a b:Int):Int :=
 match a,b with
 | .ofNat m,.ofNat n=>.ofNat (Nat.mul m n)
 | a,b=>a*b
def ltF(a b:Int):Bool :=
 match a,b with
 | .ofNat m,.ofNat n=>Nat.blt m n
 | .negSucc _,.ofNat _=>true
 | .ofNat _,.negSucc _=>false
 | .negSucc m,.negSucc n=>Nat.blt n m
def leF(a b:Int):Bool :=
 match a,b with
 | .ofNat m,.ofNat n=>Nat.ble m n
 | .negSucc _,.ofNat _=>true
 | .ofNat _,.negSucc _=>false
 | .negSucc m,.negSucc n=>Nat.ble n m
def HP(a b:Int):Bool :=
 match a,b with
 | .ofNat m,.ofNat n=>Nat.beq m n
 | .negSucc m,.negSucc n=>Nat.beq m n
 | _,_=>false
def DO:IntKind->IntKind->Bool
 | .i8,.i8|.i16,.i16|.i32,.i32|.i64,.i64|.u8,.u8|.u16,.u16|.u32,.u32|.u64,.u64=>true
 | _,_=>false
def mkI(k:IntKind)(n:Int):Value:=FE n fun n=>.int k n
inductive U where
 | none
 | int (k:IntKind) (n:Int)
 | bool (b:Bool)
 | str (s:List UInt8)
 | seq (nul:Bool) (w:Nat) (rows:List (List U))
inductive LOp where
 | bin (op:BinOp)
 | un (op:UnOp)
 | conv (k:IntKind)
 | len
 | idx
 | sub
 | sub1
 | sel
 | eqs
 | inb
 | max
 | min
 | mks
 | inbs (w:Nat)
 | get (w o:Nat)
 | mk (w:Nat)
 | nilw (w:Nat)
 | nilp
 | snoc (w:Nat)
 | cat (w:Nat)
 | cats
 | set (w o:Nat)
 | subs (w:Nat)
 | str
 | byt
 | rep (w:Nat)
 | ustr
 | mhas (w kw:Nat)
 | mget (w kw o:Nat)
 | mput (w kw:Nat)
inductive t6 where
 | lt (i t:Nat) (op:LOp) (xs:List Value)
 | dt (i t:Nat) (op:LOp) (xs:List Value)
 | br (i:Nat) (b:Bool)
 | as (op:LOp) (xs:List Value)
 | con (spec:List U->Option (Nat×List U)) (xs:List Value) (i d n:Nat)
structure Lg where
 nx:Nat
 pi:I9
 log:List t6
def hole(i t:Nat):Value:=.complex .f64 i t
def junk:Value:=.complex .f32 0 0
def ixp(a:Addr)(s:Nat)(i:Value)(n:Nat):Value:=.func (.yield 1) ⟨[.pointer (some a),.int .i64 (.ofNat s),i,.int .i64 (.ofNat n)]⟩ ⟨[]⟩
def dat(b i t:Nat):Value:=.func (.yield 2) ⟨[.pointer (some ⟨b,0,none⟩),.complex .f64 i t]⟩ ⟨[]⟩
def clp(b i t:Nat):Value:=.func (.yield 3) ⟨[.pointer (some ⟨b,0,none⟩),.complex .f64 i t]⟩ ⟨[]⟩
def own(b i t:Nat):Value:=.func (.yield 4) ⟨[.pointer (some ⟨b,0,none⟩),.complex .f64 i t]⟩ ⟨[]⟩
def dpt(b i t:Nat)(z:Value)(o:Nat):Value:=.func (.yield 5) ⟨[.pointer (some ⟨b,0,none⟩),.complex .f64 i t,z,.int .i64 (.ofNat o)]⟩ ⟨[]⟩
def opt(b i t:Nat)(z:Value)(o:Nat):Value:=.func (.yield 6) ⟨[.pointer (some ⟨b,0,none⟩),.complex .f64 i t,z,.int .i64 (.ofNat o)]⟩ ⟨[]⟩
def yv(b:Nat):Value:=.func (.yield 7) ⟨[.pointer (some ⟨b,0,none⟩)]⟩ ⟨[]⟩
def sdt(b:Nat):Value:=.func (.yield 9) ⟨[.pointer (some ⟨b,0,none⟩)]⟩ ⟨[]⟩
def dv(ids:List Nat):Value:=.func (.yield 8) ⟨ids.map fun b=>.pointer (some ⟨b,0,none⟩)⟩ ⟨[]⟩
def A54:Value->Bool
 | .complex .f32 _ _=>true
 | _=>false
def one:Value:=.complex .f32 1 0
def nL:Value->Bool
 | .complex .f32 i _=>!(Nat.beq i 1)
 | _=>false
def lT:IntKind->Nat
 | .i8=>0|.i16=>1|.i32=>2|.i64=>3|.u8=>4|.u16=>5|.u32=>6|.u64=>7
def I2:Value->Nat
 | .int k _=>lT k
 | .bool _=>8
 | .string _=>9
 | .complex .f64 _ t=>t
 | _=>99
inductive AB where
 | cells (cs:List Value) (T:TypeId) (ro:Bool)
 | sq (c t:Nat) (T:TypeId) (g:Nat) (ro:Bool)
 | frz
 | mp (c t:Nat) (T:TypeId)
 | iter (s:ByteArray) (pos:Nat)
 | lp (f:FuncId) (q:List Bool) (vs:List Value) (st:Nat)
 | dfr (b:Bool)
structure Mem where
 H:Hp AB
 n:Nat
 W:I9
 hi:Nat
 lg:Lg
structure S where
 fr:Fr
 m:Mem
inductive Ex where
 | normal
 | exit (id:Nat)
 | ret
def H5:List Bool->Code->Option Code
 | [],c=>some c
 | false::q,.seq a _=>H5 q a
 | true::q,.seq _ b=>H5 q b
 | false::q,.cond _ a _=>H5 q a
 | true::q,.cond _ _ b=>H5 q b
 | false::q,.block _ c=>H5 q c
 | false::q,.scope c=>H5 q c
 | false::q,.loop c=>H5 q c
 | false::q,.rangeFunc _ _ a _=>H5 q a
 | true::q,.rangeFunc _ _ _ b=>H5 q b
 | _::_,_=>none
def R5:Nat:=9223372036854775808
def K5:Value->Bool
 | .bool _|.int _ _|.string _|.pointer none|.slice none _ _|.map none|.nilFunc|.nilIface=>true
 | _=>false
def A0R:Value->Bool
 | .agg cs=>cs.toList.all K5
 | v=>K5 v
def ev(fr:Fr):Operand->Value
 | .tmp t=>fr.get t
 | .const v=>v
 | .global g=>.pointer (some ⟨g,0,none⟩)
 | .func f=>.func (.func f) #[] #[]
def okX(nt gl:Nat):Operand->Bool
 | .tmp t=>Nat.blt t nt
 | .const v=>A0R v
 | .global g=>Nat.blt g gl
 | .func _=>true
def evL(fr:Fr):List Operand->D6
 | []=>[]
 | x::r=>ev fr x::evL fr r
def evP(fr:Fr):List (Nat×Operand)->List (Nat×Value)
 | []=>[]
 | (i,x)::r=>(i,ev fr x)::evP fr r
def evO(fr:Fr):Option Operand->W4
 | none=>none
 | some x=>some (ev fr x)
structure XC where
 run:Fr->Value
def C2V(a b c:Sel):XC:=⟨fun fr=>c.get (b.get (a.get fr))⟩
def Y5:Operand->XC
 | .tmp t=>C2V (sel (t / 64%8)) (sel (t / 8%8)) (sel (t%8))
 | .const v=>⟨fun _=>v⟩
 | .global g=>⟨fun _=>.pointer (some ⟨g,0,none⟩)⟩
 | .func f=>⟨fun _=>.func (.func f) #[] #[]⟩
def hJ(x:Operand)(fr:Fr):(Y5 x).run fr=ev fr x:=by cases x<;>rfl
structure LC where
 run:Fr->D6
def B9W(x:XC)(r:LC)(fr:Fr):D6:=x.run fr::r.run fr
def AJ:List Operand->LC
 | []=>⟨fun _=>[]⟩
 | x::r=>⟨fun fr=>B9W (Y5 x) (AJ r) fr⟩
def sO(fr:Fr):∀ xs:List Operand,(AJ xs).run fr=evL fr xs
 | []=>rfl
 | x::r=>by
   show(Y5 x).run fr::(AJ r).run fr=_;rw[hJ,sO fr r];rfl
abbrev Res:=Option (Value×Mem)
def upN(hi n:Nat):Nat:=bif Nat.blt n hi then hi else Nat.succ n
def Mem.wLg(m:Mem)(lg:Lg):Mem :=
 match m with
 | ⟨H,n,W,hi,_⟩=>⟨H,n,W,hi,lg⟩
def p8(m:Mem)(t:Nat)(op:LOp)(xs:List Value):Res :=
 match m with
 | ⟨H,n,W,hi,⟨nx,pi,log⟩⟩=>M5 nx fun nx=>M5 t fun t=>V9 xs fun xs=>some (hole nx t,⟨H,n,W,hi,⟨Nat.succ nx,pi,.lt nx t op xs::log⟩⟩)
def AY(m:Mem)(t:Nat)(op:LOp)(xs:List Value)(k:Nat->Mem->Res):Res :=
 match m with
 | ⟨H,n,W,hi,⟨nx,pi,log⟩⟩=>M5 nx fun nx=>M5 t fun t=>V9 xs fun xs=>k nx ⟨H,n,W,hi,⟨Nat.succ nx,pi,.dt nx t op xs::log⟩⟩
def FJ:List t6->Nat->Option Bool
 | [],_=>none
 | .br j b::r,i=>bif Nat.beq j i then some b else FJ r i
 | _::r,i=>FJ r i
def brL(lg:Lg)(c:Value):Option (Bool×Lg) :=
 match c with
 | .bool b=>some (b,lg)
 | .complex .f64 i 8=>match lg with
   | ⟨nx,pi,log⟩=>match FJ log i with
     | some b=>some (b,⟨nx,pi,log⟩)
     | none=>match pi with
       | 1::r=>some (true,⟨nx,r,.br i true::log⟩)
       | 0::r=>some (false,⟨nx,r,.br i false::log⟩)
       | _=>none
 | _=>none
def y6(m:Mem)(ab:AB)(k:Nat->Value):Res :=
 match m with
 | ⟨H,n,W,hi,lg⟩=>bif Nat.ble n J0 then M5 n fun n=>M5 (upN hi n) fun hi=>Hp.put H n (some ab) fun H=>some (k n,⟨H,Nat.succ n,W,hi,lg⟩)else none
def iJ(m:Mem)(id:Nat)(ab:AB):Option Mem :=
 match m with
 | ⟨H,n,W,hi,lg⟩=>bif Nat.ble id J0 then Hp.put H id (some ab) fun H=>M5 id fun id=>some ⟨H,n,id::W,hi,lg⟩else none
def oG(m:Mem)(id:Nat):Mem :=
 match m with
 | ⟨H,n,W,hi,lg⟩=>Hp.put H id none fun H=>M5 id fun id=>⟨H,n,id::W,hi,lg⟩
def oS(cs:List Value)(o n:Nat):Option D6 :=
 let r:=(cs.drop o).take n
 bif Nat.beq r.length n then some r else none
def cO(m:Mem)(a:Addr)(n:Nat):Option D6 :=
 match a.spot,Hp.get m.H a.block with
 | none,some (.cells cs _ _)=>oS cs a.off n
 | _,_=>none
def fF:D6->Nat->D6->D6
 | cs,_,[]=>cs
 | cs,k,v::r=>fF (cs.set k v) (k+1) r
def flat:Value->Bool
 | .agg _|.tuple _=>false
 | .complex .f32 i _=>Nat.beq i 1
 | _=>true
def tI(m:Mem)(a:Addr)(vs:List Value):Option Mem :=
 match a.spot,Hp.get m.H a.block with
 | none,some (.cells cs T false) =>
   bif Nat.ble (a.off+vs.length) cs.length && vs.all flat then V9 (fF cs a.off vs) fun cs=>iJ m a.block (.cells cs T false)else none
 | _,_=>none
variable (P:Program)
def dF(t:TypeId):Option Bool :=
 match P.underlying t with
 | some (.struct _)|some (.array _ _)=>some true
 | some _=>some false
 | none=>none
def I4(t:TypeId):Option Nat :=
 match P.info? t with
 | some i=>some i.size
 | none=>none
def jR(t:TypeId):W4 :=
 match P.info? t with
 | some i=>match i.zero with
   | some v=>bif A0R v then some v else none
   | none=>none
 | none=>none
def A0k(m:Mem)(t:TypeId)(a:Addr):W4 :=
 match dF P t with
 | some true=>match I4 P t with
   | some n=>match cO m a n with
     | some cs=>some (.agg ⟨cs⟩)
     | none=>none
   | none=>none
 | some false=>match cO m a 1 with
   | some (v::_)=>some v
   | _=>none
 | none=>none
def DD(m:Mem)(t:TypeId)(a:Addr)(v:Value):Option Mem :=
 match I4 P t with
 | some n=>bif Nat.beq v.cells.size n && !(nL v)then tI m a v.cells.toList else none
 | none=>none
def vW(t:TypeId)(cs:List Value)(off:Nat):W4 :=
 match dF P t with
 | some true=>match I4 P t with
   | some n=>match oS cs off n with
     | some r=>some (.agg ⟨r⟩)
     | none=>none
   | none=>none
 | some false=>cs[off]?
 | none=>none
def A91(e:TypeId)(s i:Nat):Field:={ name := "x",type:=e,offset:=i*s,embedded:=false,tag := "",pkgPath := "",byteOffset:=0 }
mutual
def eqM:Nat->TypeId->Value->Value->Option Bool
 | 0,_,_,_=>none
 | d+1,t,x,y=>match P.underlying t,x,y with
   | some .bool,.bool a,.bool b=>some (a == b)
   | some (.int _),.int k a,.int j b=>bif decide (k=j)then some (a == b)else none
   | some .string,.string a,.string b=>some (a.data.toList == b.data.toList)
   | some (.pointer _),.pointer none,.pointer b=>some b.isNone
   | some (.pointer _),.pointer (some _),.pointer none=>some false
   | some (.interface _),.nilIface,.nilIface=>some true
   | some (.interface _),.nilIface,.iface _ _=>some false
   | some (.interface _),.iface _ _,.nilIface=>some false
   | some (.interface _),.iface tx vx,.iface ty vy=>bif Nat.beq tx ty then(match P.info? tx with
     | some i=>bif i.comparable then eqM d tx vx vy else none
     | none=>none)else some false
   | some (.slice _),.slice none _ _,.slice b _ _=>some b.isNone
   | some (.slice _),.slice (some _) _ _,.slice none _ _=>some false
   | some (.map _ _),.map none,.map b=>some b.isNone
   | some (.func _ _ _),.nilFunc,.nilFunc=>some true
   | some (.func _ _ _),.nilFunc,.func (.func _) _ _=>some false
   | some (.func _ _ _),.func (.func _) _ _,.nilFunc=>some false
   | some (.struct fs),.agg xs,.agg ys=>bif P.stoodInHeld t then none else eqF d fs.toList xs.toList ys.toList
   | some (.array n e),.agg xs,.agg ys=>match I4 P e with
     | some s=>eqF d ((List.range n).map (A91 e s)) xs.toList ys.toList
     | none=>none
   | _,_,_=>none
def eqF:Nat->List Field->D6->D6->Option Bool
 | 0,_,_,_=>none
 | _+1,[],_,_=>some true
 | d+1,f::fs,xs,ys =>
   bif f.name == "_" then none else
   match vW P f.type xs f.offset,vW P f.type ys f.offset with
   | some x,some y=>match eqM d f.type x y with
     | some true=>eqF d fs xs ys
     | some false=>some false
     | none=>none
   | _,_=>none
end
def isC:Operand->Bool
 | .const _=>true
 | _=>false
def qE(t:TypeId)(x y:Operand)(a b:Value):Bool :=
 match a,b with
 | .nilIface,.nilIface=>isC x || isC y
 | .agg _,.agg _=>!P.eqGuardType P.depth t
 | a,b=>!(A54 a) && !(A54 b)
def GJ(op:BinOp)(k:IntKind)(x y:Int):W4 :=
 match op with
 | .and=>some (.int k (k.wrap (BitVec.ofInt k.bits x &&& BitVec.ofInt k.bits y).toNat))
 | .or=>some (.int k (k.wrap (BitVec.ofInt k.bits x ||| BitVec.ofInt k.bits y).toNat))
 | .xor=>some (.int k (k.wrap (BitVec.ofInt k.bits x ^^^ BitVec.ofInt k.bits y).toNat))
 | .andNot=>some (.int k (k.wrap (BitVec.ofInt k.bits x &&& ~~~BitVec.ofInt k.bits y).toNat))
 | _=>none
def ltL:List UInt8->List UInt8->Bool
 | _,[]=>false
 | [],_::_=>true
 | a::x,b::y=>a<b || (a == b && ltL x y)
def qB(op:BinOp)(k:IntKind)(a b:Int):W4 :=
 match op with
 | .add=>some (mkI k (HX k (B9o a b)))
 | .sub=>some (mkI k (HX k (B4i a b)))
 | .mul=>some (mkI k (HX k (B7y a b)))
 | .quo=>bif HP b 0 then none else some (mkI k (k.wrap (a.tdiv b)))
 | .rem=>bif HP b 0 then none else some (mkI k (a.tmod b))
 | .eql=>some (.bool (HP a b))
 | .neq=>some (.bool (!(HP a b)))
 | .lss=>some (.bool (ltF a b))
 | .leq=>some (.bool (leF a b))
 | .gtr=>some (.bool (ltF b a))
 | .geq=>some (.bool (leF b a))
 | op=>GJ op k a b
def MG(left:Bool)(k:IntKind)(a:Int)(b:Nat):Value :=
 bif left then mkI k (k.wrap (a*2 ^ (min b k.bits)))else mkI k (a.fdiv (2 ^ (min b k.bits)))
def A3I(op:BinOp)(a b:ByteArray):W4 :=
 match op with
 | .add=>bif Nat.ble (a.size+b.size) 1000000000 then V9 (a.data.toList++b.data.toList) fun l=>some (.string ⟨⟨l⟩⟩)else none
 | .eql=>some (.bool (a.data.toList == b.data.toList))
 | .neq=>some (.bool (!(a.data.toList == b.data.toList)))
 | .lss=>some (.bool (ltL a.data.toList b.data.toList))
 | .leq=>some (.bool (ltL a.data.toList b.data.toList || (a.data.toList == b.data.toList)))
 | .gtr=>some (.bool (!(ltL a.data.toList b.data.toList || (a.data.toList == b.data.toList))))
 | .geq=>some (.bool (!(ltL a.data.toList b.data.toList)))
 | _=>none
def IY(op:BinOp)(t:TypeId)(x y:Value):W4 :=
 match op with
 | .eql=>match eqM P 20 t x y with
   | some b=>some (.bool b)
   | none=>none
 | .neq=>match eqM P 20 t x y with
   | some b=>some (.bool (!b))
   | none=>none
 | _=>none
def lU:BinOp->Option Bool
 | .shl=>some true
 | .shr=>some false
 | _=>none
def dG(op:BinOp)(k j:IntKind)(a b:Int):W4 :=
 match lU op with
 | some l=>match b with
   | .ofNat n=>some (MG l k a n)
   | .negSucc _=>none
 | none=>bif DO k j then qB op k a b else none
def xD(op:BinOp)(t:TypeId)(x y:Value):W4 :=
 match x,y with
 | .int k a,.int j b=>dG op k j a b
 | .string a,.string b=>A3I op a b
 | x,y=>IY P op t x y
def unM(op:UnOp)(x:Value):W4 :=
 match op,x with
 | .neg,.int k n=>some (mkI k (k.wrap (0-n)))
 | .xor,.int k n=>GJ .xor k (if k.signed then -1 else k.max) n
 | .not,.bool b=>some (.bool !b)
 | _,_=>none
def bytesOf:D6->Option (List UInt8)
 | []=>some []
 | .int .u8 n::r=>match bytesOf r with
   | some l=>some (UInt8.ofNat n.toNat::l)
   | none=>none
 | _::_=>none
def U8(l:List UInt8):D6:=l.map fun b=>.int .u8 b.toNat
def KN(m:Mem)(s t:TypeId)(x:Value):Res :=
 match P.underlying s,P.underlying t,x with
 | some _,some (.int k),.int _ n=>some (mkI k (HX k n),m)
 | some _,some .string,.string b=>some (.string b,m)
 | some _,some .string,.int _ n=>some (.string (Utf8.encode n),m)
 | some _,some (.slice e),.string b=>match P.underlying e with
   | some (.int .u8)=>match I4 P e with
     | some 1=>V9 (U8 b.data.toList) fun cs=>y6 m (.cells cs e false) fun i=>.slice (some ⟨i,0,none⟩) b.size R5
     | _=>none
   | _=>none
 | some (.slice e),some .string,.slice none _ _=>match P.underlying e with
   | some (.int .u8)=>some (.string ByteArray.empty,m)
   | _=>none
 | some (.slice e),some .string,.slice (some a) n _=>match P.underlying e with
   | some (.int .u8)=>match cO m a n with
     | some cs=>match bytesOf cs with
       | some l=>some (.string ⟨⟨l⟩⟩,m)
       | none=>none
     | none=>none
   | _=>none
 | _,_,_=>none
def FK(place:Nat->Option (Nat×Nat))(cells:List Value):List (Nat×Value)->Option D6
 | []=>some cells
 | (i,v)::rest=>match place i with
   | none=>none
   | some (off,size) =>
     bif (Nat.beq v.cells.size size && !(nL v)) && Nat.ble (off+v.cells.size) cells.length then V9 (fF cells off v.cells.toList) fun cs=>FK place cs rest else none
def vV:List Field->Option (List (Nat×Nat))
 | []=>some []
 | f::r=>match I4 P f.type,vV r with
   | some n,some l=>some ((f.offset,n)::l)
   | _,_=>none
def RM(z:List Value):Nat->D6
 | 0=>[]
 | n+1=>z++RM z n
def LJ(e:TypeId)(n:Nat):Option D6 :=
 match I4 P e with
 | some s=>bif Nat.beq (n*s) 0 then some []else match jR P e with
   | some z=>bif Nat.beq z.cells.size s then some (RM z.cells.toList n)else none
   | none=>none
 | none=>none
def YK(t:TypeId)(parts:List (Nat×Value)):W4 :=
 match jR P t,P.underlying t with
 | some z,some (.struct fs)=>match vV P fs.toList with
   | some ps=>match FK (ps[·]?) z.cells.toList parts with
     | some cs=>some (.agg ⟨cs⟩)
     | none=>none
   | none=>none
 | some z,some (.array _ e)=>match I4 P e with
   | some s=>match FK (fun i=>some (i*s,s)) z.cells.toList parts with
     | some cs=>some (.agg ⟨cs⟩)
     | none=>none
   | none=>none
 | _,_=>none
def fL(m:Mem)(t:TypeId)(n:Nat)(parts:List (Nat×Value)):Res :=
 match P.underlying t with
 | some (.slice e)=>match I4 P e,LJ P e n with
   | some s,some zs=>bif Nat.ble (n*s) 16777216 && Nat.blt n R5 then match FK (fun i=>some (i*s,s)) zs parts with
     | some cs=>y6 m (.cells cs e false) fun i=>.slice (some ⟨i,0,none⟩) n n
     | none=>none else none
   | _,_=>none
 | _=>none
def iT(m:Mem)(t:TypeId)(l c:Value):Res :=
 match P.underlying t,l,c with
 | some (.slice e),.int _ (.ofNat l),.int _ (.ofNat c)=>match P.info? e with
   | some i=>bif Nat.ble l c && Nat.ble c 10000000 && Nat.ble (c*i.bytes) 100000000 then match LJ P e c with
     | some a=>V9 a fun a=>y6 m (.cells a e false) fun k=>.slice (some ⟨k,0,none⟩) l c
     | none=>none else none
   | none=>none
 | _,_,_=>none
def eB(a:Addr)(n:Nat):Addr:=M5 (a.off+n) fun o=>⟨a.block,o,none⟩
def fJ(s:TypeId)(x:Value)(i:Nat):W4 :=
 match P.underlying s,x with
 | some (.struct fs),.pointer (some a)=>match fs.toList[i]?,a.spot with
   | some f,none=>match I4 P f.type with
     | some (_+1)=>some (.pointer (some (eB a f.offset)))
     | _=>none
   | _,_=>none
 | _,_=>none
def OG(t:TypeId)(x:Value)(i:Nat):W4 :=
 match P.underlying t,x with
 | some (.struct fs),.agg cs=>match fs.toList[i]? with
   | some f=>vW P f.type cs.toList f.offset
   | none=>none
 | _,_=>none
def v7(t:TypeId)(x i:Value):W4 :=
 match P.underlying t,x,i with
 | some (.array n e),.pointer (some a),.int _ (.ofNat k)=>match I4 P e,a.spot with
   | some s,none=>bif Nat.blt k n then some (.pointer (some (eB a (k*s))))else none
   | _,_=>none
 | some (.slice e),.slice (some a) n _,.int _ (.ofNat k)=>match I4 P e,a.spot with
   | some s,none=>bif Nat.blt k n then some (.pointer (some (eB a (k*s))))else none
   | _,_=>none
 | _,_,_=>none
def qC(t:TypeId)(x i:Value):W4 :=
 match P.underlying t,x,i with
 | some (.array n e),.agg cs,.int _ (.ofNat k)=>match I4 P e with
   | some s=>bif Nat.blt k n then vW P e cs.toList (k*s)else none
   | none=>none
 | some .string,.string s,.int _ (.ofNat k)=>match s.data.toList[k]? with
   | some b=>some (.int .u8 b.toNat)
   | none=>none
 | _,_,_=>none
def Z8(v:Option Value)(J0 a:Nat):Option Nat :=
 match v with
 | none=>some a
 | some (.int _ (.ofNat k))=>bif Nat.ble k J0 then some k else none
 | some _=>none
def fP(t:TypeId)(x:Value)(lo hi mx:Option Value):W4 :=
 match P.underlying t,x with
 | some .string,.string s =>
   match mx,Z8 hi s.size s.size with
   | none,some h=>match Z8 lo h 0 with
     | some l=>some (.string ⟨⟨(s.data.toList.drop l).take (h-l)⟩⟩)
     | none=>none
   | _,_=>none
 | some (.slice e),.slice none n c =>
   match n,c,Z8 mx 0 0,Z8 hi 0 0,Z8 lo 0 0 with
   | 0,0,some _,some _,some _=>bif (mx.isSome && hi.isNone) || (I4 P e).isNone then none else some (.slice none 0 0)
   | _,_,_,_,_=>none
 | some (.slice e),.slice (some a) n c =>
   match I4 P e,a.spot with
   | some s,none =>
     bif Nat.blt c R5 then
      match Z8 mx c c with
      | some m=>match (match hi,mx with|none,some _=>none|hi,_=>Z8 hi m n)with
        | some h=>match Z8 lo h 0 with
          | some l=>some (.slice (some (bif Nat.beq m l then a else eB a (l*s))) (h-l) (m-l))
          | none=>none
        | none=>none
      | none=>none
     else
      match mx with
      | some _=>match hi,Z8 mx n n with
        | some _,some m=>bif Nat.blt m R5 && Nat.ble c (R5+1)then match Z8 hi m n with
          | some h=>match Z8 lo h 0 with
            | some l=>some (.slice (some (bif Nat.beq m l then a else eB a (l*s))) (h-l) (m-l))
            | none=>none
          | none=>none else none
        | _,_=>none
      | none=>match Z8 hi n n with
        | some h=>match Z8 lo h 0 with
          | some 0=>some (.slice (some a) h c)
          | some (l+1)=>let l:=l+1
            bif Nat.blt l n then some (.slice (some (eB a (l*s))) (h-l) (R5+1))else some (.slice (some a) 0 (R5+2))
          | none=>none
        | none=>none
   | _,_=>none
 | some (.array n e),.pointer (some a) =>
   match I4 P e,a.spot,mx with
   | some s,none,none=>match Z8 hi n n with
     | some h=>match Z8 lo h 0 with
       | some l=>bif Nat.blt n R5 then some (.slice (some (bif Nat.beq n l then a else eB a (l*s))) (h-l) (n-l))else none
       | none=>none
     | none=>none
   | _,_,_=>none
 | _,_=>none
def iS(m:Mem)(s:Nat)(y:Value):Option (Nat×List Value) :=
 match y with
 | .slice none n _=>bif Nat.beq n 0 then some (0,[])else none
 | .slice (some a) n _=>match cO m a (n*s)with
   | some cs=>some (n,cs)
   | none=>none
 | .string b=>bif Nat.beq s 1 then some (b.size,U8 b.data.toList)else none
 | _=>none
def fV:TypeDesc->Bool
 | .slice _|.string=>true
 | _=>false
def xF(m:Mem)(t t2:TypeId)(x y:Value):Res :=
 match P.underlying t,P.underlying t2 with
 | some (.slice e),some d2 =>
   bif !(fV d2)then none else
   match P.info? e,x with
   | some i,.slice a n c=>match iS m i.size y,jR P e with
     | some (k,new),some z =>
       bif Nat.ble ((3*(n+k)+4000)*i.bytes) 281474976710656 && Nat.ble (n+k) 1000000000 && Nat.beq z.cells.size i.size && new.all flat then
       bif Nat.beq k 0 then(match a with|none=>bif Nat.beq n 0 && Nat.beq c 0 then some (x,m)else none|some _=>bif Nat.ble c (R5+1) && Nat.ble n c then some (x,m)else none)else
       match a with
       | none=>bif Nat.beq n 0 && Nat.beq c 0 then V9 new fun cs=>y6 m (.cells cs e false) fun b=>.slice (some ⟨b,0,none⟩) k R5 else none
       | some d =>
         bif Nat.blt c R5 then
          bif Nat.ble (n+k) c then
           match d.spot,tI m (eB d (n*i.size)) new with
           | none,some m'=>some (.slice a (n+k) c,m')
           | _,_=>none
          else match cO m d (n*i.size)with
           | some old=>V9 (old++new) fun cs=>y6 m (.cells cs e false) fun b=>.slice (some ⟨b,0,none⟩) (n+k) R5
           | none=>none
         else bif Nat.beq c R5 && Nat.beq d.off 0 then
          match d.spot,Hp.get m.H d.block with
          | none,some (.cells cs T false) =>
            bif Nat.beq cs.length (n*i.size) && Nat.beq T e && Nat.ble d.block J0 && Nat.blt d.block m.n then
             V9 (cs++new) fun cs=>y6 (oG m d.block) (.cells cs e false) fun b=>.slice (some ⟨b,0,none⟩) (n+k) R5
            else none
          | _,_=>none
         else none
       else none
     | _,_=>none
   | _,_=>none
 | _,_=>none
def UN(m:Mem)(t:TypeId)(x y:Value):Res :=
 match P.underlying t,x with
 | some (.slice e),.slice a n c=>match I4 P e with
   | some s =>
     match (match y with
      | .slice none k _=>bif Nat.beq k 0 then some (0,[])else none
      | .slice (some b) k _=>match cO m b (Nat.min k n*s)with
        | some cs=>some (Nat.min k n,cs)
        | none=>none
      | .string b=>some (Nat.min b.size n,U8 (b.data.toList.take (Nat.min b.size n)))
      | _=>none:Option (Nat×List Value))with
     | some (k,cs)=>match a with
       | none=>bif Nat.beq k 0 then some (.int .i64 0,m)else none
       | some d=>bif Nat.beq cs.length 0 then some (.int .i64 k,m)else bif Nat.ble c (R5+1)then match tI m d cs with
         | some m'=>some (.int .i64 k,m')
         | none=>none else none
     | none=>none
   | none=>none
 | _,_=>none
def A5k(m:Mem)(t:TypeId)(x:Value):W4 :=
 match P.underlying t,x with
 | some .string,.string s=>some (.int .i64 s.data.toList.length)
 | some (.array n _),_=>some (.int .i64 n)
 | some (.slice _),.slice _ n _=>some (.int .i64 n)
 | some (.map _ _),.map none=>some (.int .i64 0)
 | _,_=>none
def B56(t:TypeId)(x:Value):W4 :=
 match P.underlying t,x with
 | some (.slice _),.slice none _ c=>some (.int .i64 c)
 | some (.slice _),.slice (some a) n c=>bif Nat.blt c R5 then some (.int .i64 c)else none
 | _,_=>none
def B5M:D6->W4
 | [.int k a,.int _ b]=>some (.int k (if b>a then b else a))
 | [.int k a,.int _ b,.int _ c]=>FE (if b>a then b else a) fun d=>some (.int k (if c>d then c else d))
 | _=>none
def B5L:D6->W4
 | [.int k a,.int _ b]=>some (.int k (if b<a then b else a))
 | [.int k a,.int _ b,.int _ c]=>FE (if b<a then b else a) fun d=>some (.int k (if c<d then c else d))
 | _=>none
def noM(v:Option Value)(m:Mem):Res :=
 match v with
 | some v=>some (v,m)
 | none=>none
def XL(m:Option Mem):Res :=
 match m with
 | some m=>some (undef,m)
 | none=>none
def A0Z(m:Mem)(c a b:Value):Res :=
 match c with
 | .bool true=>some (a,m)
 | .bool false=>some (b,m)
 | _=>none
def NH(m:Mem)(e:TypeId):Res :=
 match jR P e with
 | some z=>y6 m (.cells z.cells.toList e false) fun b=>.pointer (some ⟨b,0,none⟩)
 | none=>none
def A5L(m:Mem)(e:TypeId)(v:Value):Res :=
 bif v.cells.toList.all flat then y6 m (.cells v.cells.toList e false) fun b=>.pointer (some ⟨b,0,none⟩)else none
def A0a(m:Mem)(t:TypeId)(v:Value):Res :=
 match v with
 | .pointer (some a)=>noM (A0k P m t a) m
 | _=>none
def NE(m:Mem)(t:TypeId)(x v:Value):Res :=
 match x with
 | .pointer (some a)=>XL (DD P m t a v)
 | _=>none
def A5K(m:Mem)(x:Value):Res :=
 match x with
 | .pointer (some a)=>some (.pointer (some a),m)
 | .func (.func f) a b=>some (.func (.func f) a b,m)
 | _=>none
def FA:BinOp->Bool
 | .eql|.neq=>true
 | _=>false
def A8l(m:Mem)(op:BinOp)(t:TypeId)(x y:Operand)(a b:Value):Res :=
 bif FA op then(bif qE P t x y a b then noM (xD P op t a b) m else none)else noM (xD P op t a b) m
def NG(m:Mem)(t:TypeId)(v:Value):Res :=
 match P.underlying t with
 | some d=>(match d with|.interface _=>none|_=>bif flat v || (match v with|.agg _=>true|_=>false)then some (.iface t v,m)else none)
 | none=>none
def pQ(m:Mem)(v:Value)(i:Nat):Res :=
 match v with
 | .tuple vs=>noM vs.toList[i]? m
 | _=>none
def mX(m:Mem)(x:Value):Res :=
 match x with
 | .slice none _ _=>some (.pointer none,m)
 | .slice (some a) n c=>bif Nat.beq n 0 || Nat.beq c 0 || Nat.beq c (R5+2)then none else some (.pointer (some a),m)
 | _=>none
def iA(m:Mem)(b:TypeId)(p l:Value):Res :=
 match p,l with
 | .pointer none,.int _ (.ofNat 0)=>some (.string ByteArray.empty,m)
 | .pointer (some a),.int _ (.ofNat n) =>
   match a.spot,Hp.get m.H a.block with
   | none,some (.cells cs T false)=>match P.underlying b,I4 P T with
     | some (.pointer e),some 1=>bif Nat.blt 0 n && Nat.ble n 1000000000 && Nat.beq e T then match oS cs a.off n with
       | some l=>match bytesOf l,iJ m a.block (.cells cs T true)with
         | some l,some m'=>some (.string ⟨⟨l⟩⟩,m')
         | _,_=>none
       | none=>none else none
     | _,_=>none
   | _,_=>none
 | _,_=>none
def mH(m:Mem)(b:Builtin)(vs:List Value)(tys:List TypeId):Res :=
 match b,vs,tys with
 | .len,[x],t::_=>noM (A5k P m t x) m
 | .cap,[x],t::_=>noM (B56 P t x) m
 | .append,[x,y],t::t2::_=>xF P m t t2 x y
 | .copy,[x,y],t::_=>UN P m t x y
 | .max,vs,_=>noM (B5M vs) m
 | .min,vs,_=>noM (B5L vs) m
 | .unsafeSliceData,[x],_=>mX m x
 | .unsafeString,[p,l],t::_=>iA P m t p l
 | _,_,_=>none
def opM(fr:Fr)(m:Mem)(o:Op):Res :=
 match o with
 | .move x|.assign x=>some (ev fr x,m)
 | .pick c a b=>A0Z m (ev fr c) (ev fr a) (ev fr b)
 | .alloc e=>NH P m e
 | .box e x=>A5L m e (ev fr x)
 | .build t ps=>noM (YK P t (evP fr ps.toList)) m
 | .buildSlice t n ps=>fL P m t n (evP fr ps.toList)
 | .load t x=>A0a P m t (ev fr x)
 | .store t x y=>NE P m t (ev fr x) (ev fr y)
 | .nilCheck x=>A5K m (ev fr x)
 | .binOp op t x y _=>A8l P m op t x y (ev fr x) (ev fr y)
 | .unOp op _ x=>noM (unM op (ev fr x)) m
 | .convert s t x=>KN P m s t (ev fr x)
 | .makeInterface t x=>NG P m t (ev fr x)
 | .makeFunc (.func f) first cap=>some (.func (.func f) ⟨evL fr first.toList⟩ ⟨evL fr cap.toList⟩,m)
 | .makeSlice t l c=>iT P m t (ev fr l) (ev fr c)
 | .slice t x lo hi mx=>noM (fP P t (ev fr x) (evO fr lo) (evO fr hi) (evO fr mx)) m
 | .fieldAddr s x i=>noM (fJ P s (ev fr x) i) m
 | .field t x i=>noM (OG P t (ev fr x) i) m
 | .indexAddr t x i=>noM (v7 P t (ev fr x) (ev fr i)) m
 | .index t x i=>noM (qC P t (ev fr x) (ev fr i)) m
 | .extract x i=>pQ m (ev fr x) i
 | .call ⟨.builtin b,xs,tys⟩=>mH P m b (evL fr xs.toList) tys.toList
 | _=>none
structure OpC where
 run:Fr->Mem->Res
def A5y(x:XC)(fr:Fr)(m:Mem):Res:=some (x.run fr,m)
def B26(c a b:XC)(fr:Fr)(m:Mem):Res:=A0Z m (c.run fr) (a.run fr) (b.run fr)
def B8S(e:TypeId)(x:XC)(fr:Fr)(m:Mem):Res:=A5L m e (x.run fr)
def B27(t:TypeId)(x:XC)(fr:Fr)(m:Mem):Res:=A0a P m t (x.run fr)
def A5x(t:TypeId)(x y:XC)(fr:Fr)(m:Mem):Res:=NE P m t (x.run fr) (y.run fr)
def B8Q(x:XC)(fr:Fr)(m:Mem):Res:=A5K m (x.run fr)
def B8T(op:BinOp)(t:TypeId)(x y:Operand)(cx a:XC)(fr:Fr)(m:Mem):Res:=A8l P m op t x y (cx.run fr) (a.run fr)
def kUn(op:UnOp)(x:XC)(fr:Fr)(m:Mem):Res:=noM (unM op (x.run fr)) m
def B28(s t:TypeId)(x:XC)(fr:Fr)(m:Mem):Res:=KN P m s t (x.run fr)
def EV(s:TypeId)(x:XC)(i:Nat)(fr:Fr)(m:Mem):Res:=noM (fJ P s (x.run fr) i) m
def A50(s:TypeId)(x:XC)(i:Nat)(fr:Fr)(m:Mem):Res:=noM (OG P s (x.run fr) i) m
def EU(t:TypeId)(x i:XC)(fr:Fr)(m:Mem):Res:=noM (v7 P t (x.run fr) (i.run fr)) m
def A5z(t:TypeId)(x i:XC)(fr:Fr)(m:Mem):Res:=noM (qC P t (x.run fr) (i.run fr)) m
def TH(x:XC)(i:Nat)(fr:Fr)(m:Mem):Res:=pQ m (x.run fr) i
def TI(b:Builtin)(xs:LC)(tys:List TypeId)(fr:Fr)(m:Mem):Res:=mH P m b (xs.run fr) tys
def FY(o:Op):OpC :=
 match o with
 | .move x=>⟨A5y (Y5 x)⟩
 | .assign x=>⟨A5y (Y5 x)⟩
 | .pick c a b=>⟨B26 (Y5 c) (Y5 a) (Y5 b)⟩
 | .box e x=>⟨B8S e (Y5 x)⟩
 | .load t x=>⟨B27 P t (Y5 x)⟩
 | .store t x y=>⟨A5x P t (Y5 x) (Y5 y)⟩
 | .nilCheck x=>⟨B8Q (Y5 x)⟩
 | .binOp op t x y _=>⟨B8T P op t x y (Y5 x) (Y5 y)⟩
 | .unOp op _ x=>⟨kUn op (Y5 x)⟩
 | .convert s t x=>⟨B28 P s t (Y5 x)⟩
 | .fieldAddr s x i=>⟨EV P s (Y5 x) i⟩
 | .field t x i=>⟨A50 P t (Y5 x) i⟩
 | .indexAddr t x i=>⟨EU P t (Y5 x) (Y5 i)⟩
 | .index t x i=>⟨A5z P t (Y5 x) (Y5 i)⟩
 | .extract x i=>⟨TH (Y5 x) i⟩
 | .call ⟨.builtin b,xs,tys⟩=>⟨TI P b (AJ xs.toList) tys.toList⟩
 | o=>⟨fun fr m=>opM P fr m o⟩
def FX(o:Op)(fr:Fr)(m:Mem):(FY P o).run fr m=opM P fr m o:=by
 unfold FY;split<;>simp only[A5y,B26,B8S,B27,A5x,B8Q,B8T,kUn,B28,EV,A50,EU,A5z,TH,TI,opM,hJ,sO]
def XI(nt gl:Nat)(o:Op):Bool:=o.operands.toList.all (okX nt gl)
end
section
open Go
def B8Y:BinOp->Bool
 | .eql|.neq|.lss|.leq|.gtr|.geq=>true
 | _=>false
def tJ(P:Program)(m:Mem)(op:BinOp)(t:TypeId)(a b:Value):Res :=
 let c:=I2 a
 let d:=I2 b
 bif (Nat.blt c 8 && Nat.blt d 8) || (Nat.beq c 9 && Nat.beq d 9)then p8 m (bif B8Y op then 8 else c) (.bin op) [a,b]else
 bif Nat.beq c 8 && Nat.beq d 8 && FA op && (match P.underlying t with|some .bool=>true|_=>false)then p8 m 8 (.bin op) [a,b]else none
def iY(P:Program)(t:TypeId)(x y:Value):Bool :=
 match P.underlying t with
 | some .bool=>Nat.beq (I2 x) 8 && Nat.beq (I2 y) 8
 | some (.int k)=>Nat.beq (I2 x) (lT k) && Nat.beq (I2 y) (lT k)
 | some .string=>Nat.beq (I2 x) 9 && Nat.beq (I2 y) 9
 | _=>false
mutual
def eqS(P:Program):Nat->TypeId->Value->Value->Option D6
 | 0,_,_,_=>none
 | d+1,t,x,y=>bif iY P t x y then some [x,y]else
   match P.underlying t,x,y with
   | some (.struct fs),.agg xs,.agg ys=>bif P.stoodInHeld t then none else FO P d fs.toList xs.toList ys.toList
   | some (.array n e),.agg xs,.agg ys=>match I4 P e with
     | some s=>FO P d ((List.range n).map (A91 e s)) xs.toList ys.toList
     | none=>none
   | _,_,_=>none
def FO(P:Program):Nat->List Field->D6->D6->Option D6
 | 0,_,_,_=>none
 | _+1,[],_,_=>some []
 | d+1,f::fs,xs,ys =>
   bif f.name == "_" then none else
   match vW P f.type xs f.offset,vW P f.type ys f.offset with
   | some x,some y=>match eqS P d f.type x y,FO P d fs xs ys with
     | some a,some b=>some (a++b)
     | _,_=>none
   | _,_=>none
end
def QI(P:Program)(m:Mem)(op:BinOp)(t:TypeId)(x y:Operand)(a b:Value):Res :=
 bif qE P t x y a b then
  match op,eqS P 20 t a b with
  | .eql,some l=>p8 m 8 .eqs l
  | .neq,some l=>match p8 m 8 .eqs l with
    | some (h,m)=>p8 m 8 (.un .not) [h]
    | none=>none
  | _,_=>none
 else none
def bM(t:Nat):D6->Bool
 | []=>true
 | v::r=>Nat.beq (I2 v) t && bM t r
def bL.sizeD(P:Program)(e:TypeId):Nat:=match I4 P e with|some n=>n|none=>0
def bL(P:Program)(m:Mem)(t:TypeId)(x i:Value):Res :=
 bif !(Nat.blt (I2 i) 8)then none else
 match P.underlying t with
 | some .string=>bif Nat.beq (I2 x) 9 then p8 m 4 .idx [x,i]else none
 | some (.array n e)=>match x,P.underlying e with
   | .agg cs,some (.int k)=>bif Nat.beq (cs.toList.length) n && bM (lT k) cs.toList && Nat.beq (bL.sizeD P e) 1 then p8 m (lT k) .sel (i::cs.toList)else none
   | .agg cs,some .string=>bif Nat.beq (cs.toList.length) n && bM 9 cs.toList && Nat.beq (bL.sizeD P e) 1 then p8 m 9 .sel (i::cs.toList)else none
   | _,_=>none
 | _=>none
def oZ(P:Program)(m:Mem)(t:TypeId)(x:Value)(lo hi mx:Option Value):Res :=
 match P.underlying t,mx with
 | some .string,none=>bif Nat.beq (I2 x) 9 then
    match lo,hi with
    | none,none=>some (x,m)
    | some l,none=>bif Nat.blt (I2 l) 8 then p8 m 9 .sub1 [x,l]else none
    | none,some h=>bif Nat.blt (I2 h) 8 then p8 m 9 .sub [x,.int .i64 0,h]else none
    | some l,some h=>bif Nat.blt (I2 l) 8 && Nat.blt (I2 h) 8 then p8 m 9 .sub [x,l,h]else none
   else none
 | _,_=>none
def QD(m:Mem)(op:UnOp)(x:Value):Res :=
 let t:=I2 x
 match op with
 | .not=>bif Nat.beq t 8 then p8 m 8 (.un .not) [x]else none
 | op=>bif Nat.blt t 8 then p8 m t (.un op) [x]else none
def vB(P:Program)(m:Mem)(s t:TypeId)(x:Value):Res :=
 match P.underlying s,P.underlying t with
 | some (.int _),some (.int k)=>bif Nat.blt (I2 x) 8 then p8 m (lT k) (.conv k) [x]else none
 | some .string,some .string=>bif Nat.beq (I2 x) 9 then some (x,m)else none
 | _,_=>none
def iI(P:Program)(m:Mem)(b:Builtin)(vs:List Value)(tys:List TypeId):Res :=
 match b,vs,tys with
 | .len,[x],t::_=>match P.underlying t with
   | some .string=>bif Nat.beq (I2 x) 9 then p8 m 3 .len [x]else none
   | _=>none
 | .max,[x,y],_=>bif Nat.blt (I2 x) 8 && Nat.beq (I2 x) (I2 y)then p8 m (I2 x) .max [x,y]else none
 | .min,[x,y],_=>bif Nat.blt (I2 x) 8 && Nat.beq (I2 x) (I2 y)then p8 m (I2 x) .min [x,y]else none
 | _,_,_=>none
def A2P(m:Mem)(a:Addr)(s n:Nat)(i:Value):Res :=
 bif !(Nat.blt (I2 i) 8)then none else
 match p8 m 8 .inb [i,.int .i64 (.ofNat n)]with
 | some (b,⟨H,k,W,hi,lg⟩)=>match brL lg b with
   | some (true,lg)=>some (ixp a s i n,⟨H,k,W,hi,lg⟩)
   | _=>none
 | none=>none
def iG(P:Program)(m:Mem)(t:TypeId)(x i:Value):Res :=
 match P.underlying t,x with
 | some (.array n e),.pointer (some a)=>match I4 P e,a.spot with
   | some s,none=>A2P m a s n i
   | _,_=>none
 | some (.slice e),.slice (some a) n c=>match I4 P e,a.spot with
   | some s,none=>bif Nat.beq c (R5+2)then none else A2P m a s n i
   | _,_=>none
 | _,_=>none
def iH(P:Program)(m:Mem)(s:TypeId)(x:Value)(i:Nat):Res :=
 match x with
 | .func (.yield 1) ⟨[.pointer (some a),.int .i64 (.ofNat k),j,.int .i64 (.ofNat n)]⟩ ⟨[]⟩=>match P.underlying s with
   | some (.struct fs)=>match fs.toList[i]?,a.spot with
     | some f,none=>match I4 P f.type with
       | some (_+1)=>some (ixp (eB a f.offset) k j n,m)
       | _=>none
     | _,_=>none
   | _=>none
 | _=>none
def BS(cs:List Value)(s o:Nat):Nat->Option D6
 | 0=>some []
 | n+1=>match cs[o]?,BS cs s (o+s) n with
   | some v,some r=>some (v::r)
   | _,_=>none
def fE(m:Mem)(cs:List Value)(s n:Nat)(i:Value):Nat->Nat->Option (D6×Mem)
 | _,0=>some ([],m)
 | o,k+1=>match BS cs s o n with
   | some (v::l)=>bif bM (I2 v) (v::l) && Nat.blt (I2 v) 10 then match p8 m (I2 v) .sel (i::v::l)with
     | some (h,m)=>match fE m cs s n i (o+1) k with
       | some (r,m)=>some (h::r,m)
       | none=>none
     | none=>none else none
   | _=>none
def vA(P:Program)(m:Mem)(t:TypeId)(x:Value):Res :=
 match x with
 | .func (.yield 1) ⟨[.pointer (some a),.int .i64 (.ofNat s),i,.int .i64 (.ofNat n)]⟩ ⟨[]⟩ =>
   match dF P t,I4 P t with
   | some false,_=>match cO m a ((n-1)*s+1)with
     | some cs=>match fE m cs s n i 0 1 with
       | some ([h],m)=>some (h,m)
       | _=>none
     | none=>none
   | some true,some z=>match cO m a ((n-1)*s+z)with
     | some cs=>match fE m cs s n i 0 z with
       | some (hs,m)=>some (.agg ⟨hs⟩,m)
       | none=>none
     | none=>none
   | _,_=>none
 | _=>none
def BQ(m:Mem)(c a b:Value):Res :=
 match m with
 | ⟨H,n,W,hi,lg⟩=>match brL lg c with
   | some (true,lg)=>some (a,⟨H,n,W,hi,lg⟩)
   | some (false,lg)=>some (b,⟨H,n,W,hi,lg⟩)
   | none=>none
def A3F(P:Program)(fr:Fr)(m:Mem)(o:Op):Res :=
 match o with
 | .pick c a b=>BQ m (ev fr c) (ev fr a) (ev fr b)
 | .binOp op t x y _=>match tJ P m op t (ev fr x) (ev fr y)with
   | some r=>some r
   | none=>QI P m op t x y (ev fr x) (ev fr y)
 | .unOp op _ x=>QD m op (ev fr x)
 | .convert s t x=>vB P m s t (ev fr x)
 | .slice t x lo hi mx=>oZ P m t (ev fr x) (evO fr lo) (evO fr hi) (evO fr mx)
 | .index t x i=>bL P m t (ev fr x) (ev fr i)
 | .indexAddr t x i=>iG P m t (ev fr x) (ev fr i)
 | .fieldAddr s x i=>iH P m s (ev fr x) i
 | .load t x=>vA P m t (ev fr x)
 | .call ⟨.builtin b,xs,tys⟩=>iI P m b (evL fr xs.toList) tys.toList
 | _=>none
def qF(m:Mem)(b:Nat):Bool :=
 match Hp.get m.H b with
 | some .frz=>Nat.ble b J0
 | _=>false
def WZ{α:Type}(l:List α):Nat->List α
 | 0=>[]
 | n+1=>l++WZ l n
mutual
def A3B(P:Program):Nat->TypeId->Option I9
 | 0,_=>none
 | d+1,t=>match P.underlying t with
   | some .bool=>some [8]
   | some (.int k)=>some [lT k]
   | some .string=>some [9]
   | some (.slice e)=>match I4 P e with
     | some w=>some [10+w]
     | none=>none
   | some (.struct fs)=>B0g P d fs.toList
   | some (.array n e)=>match A3B P d e with
     | some l=>some (WZ l n)
     | none=>none
   | _=>none
def B0g(P:Program):Nat->List Field->Option I9
 | 0,_=>none
 | _+1,[]=>some []
 | d+1,f::fs=>match A3B P d f.type,B0g P d fs with
   | some a,some b=>some (a++b)
   | _,_=>none
end
def oY(P:Program)(t:TypeId):Option I9 :=
 match A3B P 30 t,I4 P t with
 | some l,some n=>bif Nat.beq l.length n then some l else none
 | _,_=>none
def v8.letDo(t:Nat)(op:LOp)(xs:List Value)(m:Mem)(k:Nat->Mem->Option (D6×Mem)):Option (D6×Mem) :=
 match m with
 | ⟨H,n,W,hi,⟨nx,pi,log⟩⟩=>M5 nx fun nx=>M5 t fun t=>V9 xs fun xs=>k nx ⟨H,n,W,hi,⟨Nat.succ nx,pi,.dt nx t op xs::log⟩⟩
def v8(w o i t:Nat)(z:Value)(g:Nat):I9->Nat->Mem->Option (D6×Mem)
 | [],_,m=>some ([],m)
 | tg::ts,j,m=>bif Nat.blt tg 10 then
    match p8 m tg (.get w (o+j)) [hole i t,z]with
    | some (h,m)=>match v8 w o i t z g ts (j+1) m with
      | some (r,m)=>some (h::r,m)
      | none=>none
    | none=>none
   else v8.letDo tg (.get w (o+j)) [hole i t,z] m fun nx m=>match v8 w o i t z g ts (j+1) m with
     | some (r,m)=>some (dat g nx tg::r,m)
     | none=>none
def qV(P:Program)(t:TypeId)(r:Option (D6×Mem)):Res :=
 match dF P t,r with
 | some false,some ([v],m)=>some (v,m)
 | some true,some (vs,m)=>some (.agg ⟨vs⟩,m)
 | _,_=>none
def SW(P:Program)(m:Mem)(t:TypeId)(x:Value):Res :=
 match x,oY P t with
 | .func (.yield 5) ⟨[.pointer (some ⟨b,0,none⟩),.complex .f64 i tg,z,.int .i64 (.ofNat o)]⟩ ⟨[]⟩,some ts =>
   bif qF m b then qV P t (v8 (tg-10) o i tg z b ts 0 m)else none
 | .func (.yield 6) ⟨[.pointer (some ⟨b,0,none⟩),.complex .f64 i tg,z,.int .i64 (.ofNat o)]⟩ ⟨[]⟩,some ts =>
   match Hp.get m.H b with
   | some (.sq c tc T g ro)=>bif Nat.beq tc tg then qV P t (v8 (tg-10) o c tg z g ts 0 m)else none
   | _=>none
 | _,_=>none
def TM(m:Mem)(i t:Nat)(z:Value)(k:Value):Res :=
 bif !(Nat.blt (I2 z) 8)then none else
 match p8 m 8 (.inbs (t-10)) [z,hole i t]with
 | some (b,⟨H,n,W,hi,lg⟩)=>match brL lg b with
   | some (true,lg)=>some (k,⟨H,n,W,hi,lg⟩)
   | _=>none
 | none=>none
def qD(P:Program)(m:Mem)(t:TypeId)(x z:Value):Res :=
 match P.underlying t,x with
 | some (.slice e),.func (.yield 4) ⟨[.pointer (some ⟨b,0,none⟩),.complex .f64 i tg]⟩ ⟨[]⟩=>match I4 P e with
   | some (s+1)=>bif Nat.beq tg (10+(s+1))then TM m i tg z (opt b i tg z 0)else none
   | _=>none
 | some (.slice e),.func (.yield 2) ⟨[.pointer (some ⟨b,0,none⟩),.complex .f64 i tg]⟩ ⟨[]⟩=>match I4 P e with
   | some (s+1)=>bif Nat.beq tg (10+(s+1))then TM m i tg z (dpt b i tg z 0)else none
   | _=>none
 | some (.slice e),.func (.yield 3) ⟨[.pointer (some ⟨b,0,none⟩),.complex .f64 i tg]⟩ ⟨[]⟩=>match I4 P e with
   | some (s+1)=>bif Nat.beq tg (10+(s+1))then TM m i tg z (dpt b i tg z 0)else none
   | _=>none
 | some (.array n e),.func (.yield 5) ⟨[.pointer (some ⟨b,0,none⟩),.complex .f64 i tg,y,.int .i64 (.ofNat o)]⟩ ⟨[]⟩=>match I4 P e,z with
   | some s,.int _ (.ofNat k)=>bif Nat.blt k n && Nat.blt (o+k*s) (tg-10)then some (M5 (o+k*s) fun o=>dpt b i tg y o,m)else none
   | _,_=>none
 | some (.array n e),.func (.yield 6) ⟨[.pointer (some ⟨b,0,none⟩),.complex .f64 i tg,y,.int .i64 (.ofNat o)]⟩ ⟨[]⟩=>match I4 P e,z with
   | some s,.int _ (.ofNat k)=>bif Nat.blt k n && Nat.blt (o+k*s) (tg-10)then some (M5 (o+k*s) fun o=>opt b i tg y o,m)else none
   | _,_=>none
 | _,_=>none
def qI(P:Program)(m:Mem)(s:TypeId)(x:Value)(f:Nat):Res :=
 match P.underlying s,x with
 | some (.struct fs),.func (.yield 5) ⟨[.pointer (some ⟨b,0,none⟩),.complex .f64 i tg,y,.int .i64 (.ofNat o)]⟩ ⟨[]⟩=>match fs.toList[f]? with
   | some fd=>match I4 P fd.type with
     | some (_+1)=>bif Nat.blt (o+fd.offset) (tg-10)then some (M5 (o+fd.offset) fun o=>dpt b i tg y o,m)else none
     | _=>none
   | none=>none
 | some (.struct fs),.func (.yield 6) ⟨[.pointer (some ⟨b,0,none⟩),.complex .f64 i tg,y,.int .i64 (.ofNat o)]⟩ ⟨[]⟩=>match fs.toList[f]? with
   | some fd=>match I4 P fd.type with
     | some (_+1)=>bif Nat.blt (o+fd.offset) (tg-10)then some (M5 (o+fd.offset) fun o=>opt b i tg y o,m)else none
     | _=>none
   | none=>none
 | _,_=>none
def wS(i:Nat):List t6->Option Nat
 | []=>none
 | .lt j t .len [.complex .f64 k _]::r=>bif Nat.beq k i && Nat.beq t 3 then some j else wS i r
 | _::r=>wS i r
def NM(m:Mem)(i t:Nat):Res :=
 match wS i m.lg.log with
 | some j=>some (hole j 3,m)
 | none=>p8 m 3 .len [hole i t]
def A8z(P:Program)(m:Mem)(t:TypeId)(x:Value):Res :=
 match P.underlying t,x with
 | some (.slice _),.func (.yield 2) ⟨[.pointer (some ⟨b,0,none⟩),.complex .f64 i tg]⟩ ⟨[]⟩=>NM m i tg
 | some (.slice _),.func (.yield 3) ⟨[.pointer (some ⟨b,0,none⟩),.complex .f64 i tg]⟩ ⟨[]⟩=>NM m i tg
 | some (.slice _),.func (.yield 4) ⟨[.pointer (some ⟨b,0,none⟩),.complex .f64 i tg]⟩ ⟨[]⟩=>NM m i tg
 | _,_=>none
def iR(m:Mem)(k:Nat->Mem->Option (Value×Nat×Mem)):Option (Value×Nat×Mem) :=
 match m with
 | ⟨H,n,W,hi,lg⟩=>bif Nat.ble n J0 then M5 n fun n=>M5 (upN hi n) fun hi=>Hp.put H n (some .frz) fun H=>k n ⟨H,Nat.succ n,W,hi,lg⟩else none
def toD(t:Nat)(v:Value)(m:Mem):Option (Value×Nat×Mem) :=
 match v with
 | .func (.yield 2) ⟨[.pointer (some ⟨b,0,none⟩),.complex .f64 i tg]⟩ ⟨[]⟩=>bif Nat.beq tg t && qF m b then some (hole i tg,b,m)else none
 | .func (.yield 3) ⟨[.pointer (some ⟨b,0,none⟩),.complex .f64 i tg]⟩ ⟨[]⟩=>bif Nat.beq tg t && qF m b then some (hole i tg,b,m)else none
 | .func (.yield 4) ⟨[.pointer (some ⟨b,0,none⟩),.complex .f64 i tg]⟩ ⟨[]⟩=>match Hp.get m.H b with
   | some (.sq c tc T g true)=>bif (Nat.beq tg t && Nat.beq tc t) && qF m g then iR m fun b' m=>some (hole c tc,b',m)else none
   | some (.sq c tc T g false)=>bif (Nat.beq tg t && Nat.beq tc t) && qF m g then match iJ m b (.sq c tc T g true)with
     | some m=>iR m fun b' m=>some (hole c tc,b',m)
     | none=>none else none
   | _=>none
 | .slice none 0 0=>bif Nat.ble 10 t then(match AY m t (.nilw (t-10)) [] fun nx m=>some (hole nx t,m)with
   | some (h,m)=>iR m fun b' m=>some (h,b',m)
   | none=>none)else none
 | _=>none
abbrev Td:=Nat->Value->Mem->Option (Value×Nat×Mem)
def HA(a:Td):I9->D6->Mem->Option (D6×I9×Mem)
 | [],[],m=>some ([],[],m)
 | t::ts,v::vs,m=>bif Nat.blt t 10 then
    bif Nat.beq (I2 v) t then match HA a ts vs m with
     | some (r,gs,m)=>some (v::r,gs,m)
     | none=>none else none
   else match a t v m with
    | some (h,b,m)=>match HA a ts vs m with
      | some (r,gs,m)=>some (h::r,b::gs,m)
      | none=>none
    | none=>none
 | _,_,_=>none
def oH(gs:List Nat)(m:Mem):Option (Nat×Mem) :=
 match gs with
 | [g]=>bif qF m g then some (g,m)else none
 | gs=>bif gs.all (qF m)then match iR m fun b m=>some (undef,b,m)with
   | some (_,b,m)=>some (b,m)
   | none=>none else none
def ZU:Value->Value->Bool
 | .complex .f64 i _,.complex .f64 j _=>Nat.beq i j
 | .int k a,.int j b=>DO k j && HP a b
 | _,_=>false
def EX(v:Value):Bool:=Nat.blt (I2 v) 8
def kJ(m:Mem)(b i t:Nat)(l h:Value)(c:Bool):Res:=bif EX l && EX h then AY m t (.subs (t-10)) [hole i t,l,h] fun nx m=>some (bif c then clp b nx t else dat b nx t,m)else none
def UJ(m:Mem)(b i t:Nat)(cl:Bool)(l:Value)(hi mx:Option Value):Res :=
 match hi,mx with
 | some h,none=>kJ m b i t l h false
 | some h,some x=>bif ZU h x then kJ m b i t l h true else none
 | none,none=>match NM m i t with
   | some (h,m)=>kJ m b i t l h cl
   | none=>none
 | none,some _=>none
def B74(lo:Option Value):Value :=
 match lo with
 | some l=>l
 | none=>.int .i64 0
def UK(m:Mem)(b i t:Nat)(cl:Bool)(lo hi mx:Option Value):Res:=UJ m b i t cl (B74 lo) hi mx
def DG(P:Program)(m:Mem)(t:TypeId)(x:Value)(lo hi mx:Option Value):Res :=
 match P.underlying t,x with
 | some (.slice e),.func (.yield 2) ⟨[.pointer (some ⟨b,0,none⟩),.complex .f64 i tg]⟩ ⟨[]⟩=>match I4 P e with
   | some s=>bif Nat.beq tg (10+s)then UK m b i tg false lo hi mx else none
   | none=>none
 | some (.slice e),.func (.yield 3) ⟨[.pointer (some ⟨b,0,none⟩),.complex .f64 i tg]⟩ ⟨[]⟩=>match I4 P e with
   | some s=>bif Nat.beq tg (10+s)then UK m b i tg true lo hi mx else none
   | none=>none
 | some (.slice e),.func (.yield 4) ⟨[.pointer (some ⟨b,0,none⟩),.complex .f64 i tg]⟩ ⟨[]⟩=>match I4 P e with
   | some s=>bif Nat.beq tg (10+s)then match toD tg x m with
     | some (.complex .f64 c _,b',m)=>UK m b' c tg false lo hi mx
     | _=>none else none
   | none=>none
 | _,_=>none
inductive Beh where
 | cells (xs:List Value)
 | rows (x:Value)
 | str (x:Value)
def gD(w:Nat)(c:Value):Beh->LOp×D6
 | .cells xs=>(.snoc w,c::xs)
 | .rows x=>(.cat w,[c,x])
 | .str x=>(.cats,[c,x])
def A7G(c:Td)(P:Program)(m:Mem)(e:TypeId)(w:Nat)(y:Value):Option (Beh×I9×Bool×Mem) :=
 match y with
 | .slice none 0 _=>some (.cells [],[],false,m)
 | .slice (some a) n _=>match cO m a (n*w),oY P e with
   | some cs,some ts=>match HA c (WZ ts n) cs m with
     | some (xs,gs,m)=>some (.cells xs,gs,Nat.blt 0 n,m)
     | none=>none
   | _,_=>none
 | .func _ _ _=>match c (10+w) y m with
   | some (x,b,m)=>some (.rows x,[b],false,m)
   | none=>none
 | y=>bif Nat.beq (I2 y) 9 && Nat.beq w 1 then some (.str y,[],false,m)else none
def KZ(a:Td)(P:Program)(m:Mem)(e:TypeId)(w:Nat)(x:Value):Option (Nat×I9×Option Nat×Mem) :=
 match x with
 | .slice none 0 0=>match AY m (10+w) (.nilw w) [] fun nx m=>some (hole nx (10+w),m)with
   | some (.complex .f64 c _,m)=>some (c,[],none,m)
   | _=>none
 | .func (.yield 4) ⟨[.pointer (some ⟨b,0,none⟩),.complex .f64 i tg]⟩ ⟨[]⟩=>match Hp.get m.H b with
   | some (.sq c tc T g false)=>bif (Nat.beq tg (10+w) && Nat.beq tc tg) && (Nat.beq T e && Nat.ble b J0)then some (c,[g],some b,m)else none
   | _=>none
 | .slice (some ⟨b,0,none⟩) n c=>match Hp.get m.H b,oY P e with
   | some (.cells cs _ _),some ts=>bif Nat.beq cs.length (n*w) && (Nat.beq c n && Nat.blt c R5 || Nat.beq c R5)then match HA a (WZ ts n) cs m with
     | some (xs,gs,m)=>match Hp.get m.H b with
       | some (.cells _ T false)=>bif Nat.beq T e && Nat.ble b J0 then match AY m (10+w) (.mk w) xs fun nx m=>some (hole nx (10+w),m)with
         | some (.complex .f64 c _,m)=>some (c,gs,some b,m)
         | _=>none else none
       | _=>none
     | none=>none else none
   | _,_=>none
 | _=>none
def bO(m:Mem)(c t:Nat)(T:TypeId)(g:Nat):Res:=y6 m (.sq c t T g false) fun b=>own b c t
def A2l(P:Program)(e:TypeId)(n:Nat):Bool :=
 match jR P e with
 | some z=>Nat.beq z.cells.size n
 | none=>false
def oF(old:Option Nat)(m:Mem):Mem :=
 match old with
 | some b=>oG m b
 | none=>m
def SH(a:Td)(P:Program)(m:Mem)(e:TypeId)(w:Nat)(x:Value):Res :=
 match P.info? e with
 | some inf=>bif Nat.beq inf.size w && Nat.blt 0 w then match KZ a P m e w x with
   | some (c,gs,old,m)=>match oH gs m with
     | some (g,m)=>bO (oF old m) c (10+w) e g
     | none=>none
   | none=>none else none
 | none=>none
def A27(P:Program):Nat->Td
 | 0=>toD
 | d+1=>fun t v m=>match v with
   | .slice (some ⟨b,0,none⟩) _ _=>match Hp.get m.H b with
     | some (.cells _ T _)=>match SH (A27 P d) P m T (t-10) v with
       | some (x,m)=>toD t x m
       | none=>none
     | _=>none
   | v=>toD t v m
def tdP(P:Program):Td:=A27 P 3
def SA(m:Mem)(e:TypeId)(w c:Nat)(old:Option Nat)(a:Beh)(gs:List Nat):Res :=
 match oH gs m with
 | some (g,m)=>AY m (10+w) (gD w (hole c (10+w)) a).1 (gD w (hole c (10+w)) a).2 fun nx m=>bO (oF old m) nx (10+w) e g
 | none=>none
def xG(P:Program)(m:Mem)(t t2:TypeId)(x y:Value):Res :=
 match P.underlying t,P.underlying t2 with
 | some (.slice e),some d2=>bif !(fV d2)then none else
   match P.info? e with
   | some i=>bif (Nat.ble i.bytes 90000 && Nat.blt 0 i.size) && A2l P e i.size then
     match A7G (tdP P) P m e i.size y with
     | some (bh,gs,sure,m)=>match KZ (tdP P) P m e i.size x with
       | some (c,g0,old,m)=>SA m e i.size c old bh (g0++gs)
       | none=>match x,sure with
         | .func (.yield 3) ⟨[.pointer (some ⟨b,0,none⟩),.complex .f64 c tg]⟩ ⟨[]⟩,true=>bif Nat.beq tg (10+i.size)then SA m e i.size c none bh (b::gs)else none
         | _,_=>none
     | none=>none else none
   | none=>none
 | _,_=>none
def DE(P:Program)(m:Mem)(t:TypeId)(x v:Value):Res :=
 match x,oY P t with
 | .func (.yield 6) ⟨[.pointer (some ⟨b,0,none⟩),.complex .f64 i tg,z,.int .i64 (.ofNat o)]⟩ ⟨[]⟩,some ts=>bif nL v then none else
   match HA (tdP P) ts v.cells.toList m with
   | some (xs,gs,m)=>match Hp.get m.H b with
     | some (.sq c tc T g false)=>bif Nat.beq tc tg then match oH (g::gs) m with
       | some (g,m)=>match AY m tg (.set (tg-10) o) (hole c tg::z::xs) fun nx m=>some (hole nx tg,m)with
         | some (.complex .f64 nx _,m)=>XL (iJ m b (.sq nx tg T g false))
         | _=>none
       | none=>none else none
     | _=>none
   | none=>none
 | _,_=>none
def B22(m m1:Mem):Mem :=
 match m,m1 with
 | ⟨H,n,W,_,_⟩,⟨_,_,_,hi,lg⟩=>⟨H,n,W,hi,lg⟩
def UO(P:Program)(m:Mem)(s t:TypeId)(x:Value):Res :=
 match P.underlying s,P.underlying t,x with
 | some (.slice e),some .string,.slice (some a) n _=>match P.underlying e with
   | some (.int .u8)=>match cO m a n with
     | some cs=>bif bM 4 cs then p8 m 9 .mks cs else none
     | none=>none
   | _=>none
 | some (.slice e),some .string,.func _ _ _=>match P.underlying e with
   | some (.int .u8)=>match toD 11 x m with
     | some (h,_,m1)=>p8 (B22 m m1) 9 .str [h]
     | none=>none
   | _=>none
 | some _,some (.slice e),x=>bif Nat.beq (I2 x) 9 then match P.underlying e with
   | some (.int .u8)=>match I4 P e with
     | some 1=>match oH [] m with
       | some (g,m)=>match AY m 11 .byt [x] fun nx m=>some (hole nx 11,m)with
         | some (.complex .f64 nx _,m)=>bO m nx 11 e g
         | _=>none
       | none=>none
     | _=>none
   | _=>none else none
 | _,_,_=>none
def A53:Value->Bool
 | .slice none 0 0=>true
 | _=>false
def A5O(P:Program)(m:Mem)(op:BinOp)(t:TypeId)(x y:Operand)(a b:Value):Res :=
 match P.underlying t,a with
 | some (.slice _),.func (.yield k) ⟨[.pointer (some ⟨_,0,none⟩),.complex .f64 i tg]⟩ ⟨[]⟩=>bif A53 b && isC y && (Nat.beq k 2 || Nat.beq k 3 || Nat.beq k 4)then
   match op,p8 m 8 .nilp [hole i tg]with
   | .eql,some r=>some r
   | .neq,some (h,m)=>p8 m 8 (.un .not) [h]
   | _,_=>none else none
 | _,_=>none
def SS(P:Program)(m:Mem)(t:TypeId)(l c:Value):Res :=
 match P.underlying t,l,c with
 | some (.slice e),.complex .f64 i ti,.complex .f64 j tj=>bif (Nat.beq i j && Nat.beq ti 3) && Nat.beq tj 3 then
   match P.info? e with
   | some inf=>bif Nat.ble inf.bytes 90000 && Nat.blt 0 inf.size then
     match jR P e with
     | some z=>bif Nat.beq z.cells.size inf.size && z.cells.toList.all (fun z=>Nat.blt (I2 z) 10)then
       match oH [] m with
       | some (g,m)=>match AY m (10+inf.size) (.rep inf.size) (hole i 3::z.cells.toList) fun nx m=>some (hole nx (10+inf.size),m)with
         | some (.complex .f64 nx _,m)=>bO m nx (10+inf.size) e g
         | _=>none
       | none=>none else none
     | none=>none else none
   | none=>none else none
 | _,_,_=>none
def dsM(P:Program)(fr:Fr)(m:Mem)(o:Op):Res :=
 match o with
 | .makeSlice t l c=>SS P m t (ev fr l) (ev fr c)
 | .load t x=>SW P m t (ev fr x)
 | .store t x y=>DE P m t (ev fr x) (ev fr y)
 | .indexAddr t x i=>qD P m t (ev fr x) (ev fr i)
 | .fieldAddr s x i=>qI P m s (ev fr x) i
 | .slice t x lo hi mx=>DG P m t (ev fr x) (evO fr lo) (evO fr hi) (evO fr mx)
 | .convert s t x=>UO P m s t (ev fr x)
 | .binOp op t x y _=>A5O P m op t x y (ev fr x) (ev fr y)
 | .call ⟨.builtin .len,xs,tys⟩=>match evL fr xs.toList,tys.toList with
   | [x],t::_=>A8z P m t x
   | _,_=>none
 | .call ⟨.builtin .append,xs,tys⟩=>match evL fr xs.toList,tys.toList with
   | [x,y],t::t2::_=>xG P m t t2 x y
   | _,_=>none
 | _=>none
def A1T(P:Program)(m:Mem)(s t:TypeId)(x:Value):Res :=
 match P.underlying s,P.underlying t,x with
 | some (.pointer e),some .unsafePointer,.pointer (some ⟨b,o,none⟩)=>match I4 P e,Hp.get m.H b with
   | some (_+1),some (.cells cs _ _)=>bif Nat.blt o cs.length then some (x,m)else none
   | _,_=>none
 | some .unsafePointer,some (.pointer u),.pointer (some ⟨b,0,none⟩)=>match I4 P u,Hp.get m.H b with
   | some (k+1),some (.cells cs T false)=>bif Nat.beq T u && Nat.beq cs.length (k+1)then some (x,m)else none
   | _,_=>none
 | some (.slice _),some (.slice e),.slice (some ⟨b,o,none⟩) n c=>bif Nat.beq s t && !(Nat.beq c (R5+2))then match P.underlying e,Hp.get m.H b with
   | some (.int .u8),some (.cells cs T false)=>match iJ m b (.cells cs T false)with
     | some m1=>some (x,m1)
     | none=>none
   | _,_=>none else none
 | _,_,_=>none
def A0S(P:Program)(m:Mem)(op:BinOp)(t:TypeId)(a b:Value):Res :=
 match P.underlying t,a,b with
 | some (.pointer e),.pointer (some ⟨b1,o1,none⟩),.pointer (some ⟨b2,o2,none⟩)=>bif Nat.beq b1 b2 && Nat.beq o1 o2 then match P.info? e,op with
   | some _,.eql=>some (.bool true,m)
   | some _,.neq=>some (.bool false,m)
   | _,_=>none else none
 | _,_,_=>none
def sdM(P:Program)(m:Mem)(ty:TypeId)(x:Value):Res :=
 match P.underlying ty with
 | some (.pointer _)=>match x with
  | .func (.yield 4) ⟨[.pointer (some ⟨b,0,none⟩),.complex .f64 i t]⟩ ⟨[]⟩=>match Hp.get m.H b with
   | some (.sq _ _ _ _ _)=>some (sdt b,m)
   | _=>none
  | _=>none
 | _=>none
def usM(P:Program)(m:Mem)(a:TypeId)(p l:Value):Res :=
 match p with
 | .func (.yield 9) ⟨[.pointer (some ⟨b,0,none⟩)]⟩ ⟨[]⟩=>bif Nat.blt (I2 l) 8 then match Hp.get m.H b,P.underlying a with
   | some (.sq c tc T g false),some (.pointer e)=>bif Nat.beq e T && Nat.beq tc 11 then match I4 P T,p8 m 9 .ustr [hole c tc,l]with
     | some 1,some (v,m)=>match iJ m b (.sq c tc T g true)with
       | some m=>some (v,m)
       | none=>none
     | _,_=>none else none
   | _,_=>none else none
 | _=>none
def jZ(P:Program)(t:TypeId):Option Nat :=
 match P.underlying t with
 | some .bool=>some 8
 | some (.int k)=>some (lT k)
 | some .string=>some 9
 | _=>none
def AF(P:Program):List Field->Nat->Option I9
 | [],_=>some []
 | f::r,i=>match jZ P f.type,AF P r (i+1)with
   | some t,some l=>bif !(f.name == "_") && Nat.beq f.offset i then some (t::l)else none
   | _,_=>none
def tD(P:Program)(t:TypeId):Option (Bool×List Nat) :=
 match P.underlying t with
 | some (.struct fs)=>bif P.stoodInHeld t then none else match AF P fs.toList 0 with
   | some l=>some (true,l)
   | none=>none
 | _=>match jZ P t with
   | some k=>some (false,[k])
   | none=>none
def ZE(P:Program)(t:TypeId):Option (Bool×List Nat) :=
 match dF P t,oY P t with
 | some true,some l=>bif l.all (fun k=>Nat.blt k 10)then some (true,l)else none
 | some false,some [k]=>bif Nat.blt k 10 then some (false,[k])else none
 | _,_=>none
structure MTy where
 kt:TypeId
 vt:TypeId
 ka:Bool
 ks:I9
 va:Bool
 vs:I9
def MTy.w(y:MTy):Nat:=y.ks.length+y.vs.length
def A2F(P:Program)(T:TypeId):Option MTy :=
 match P.underlying T with
 | some (.map kt vt)=>match tD P kt,ZE P vt with
   | some (ka,k::ks),some (va,vs)=>some ⟨kt,vt,ka,k::ks,va,vs⟩
   | _,_=>none
 | _=>none
def FM:I9->D6->Bool
 | [],[]=>true
 | t::ts,v::vs=>Nat.beq (I2 v) t && FM ts vs
 | _,_=>false
def sQ(a:Bool)(ts:List Nat)(v:Value):Option D6 :=
 match a,v with
 | true,.agg cs=>bif FM ts cs.toList then some cs.toList else none
 | true,_=>none
 | false,v=>bif FM ts [v]then some [v]else none
def A7K(a:Bool)(vs:List Value):W4 :=
 match a,vs with
 | true,vs=>some (.agg ⟨vs⟩)
 | false,[v]=>some v
 | false,_=>none
def A5T(P:Program)(m:Mem)(T:TypeId):Res :=
 match A2F P T with
 | some y=>AY m (10+y.w) (.mk y.w) [] fun nx m=>y6 m (.mp nx (10+y.w) T) fun b=>.map (some b)
 | none=>none
def yK(w kw c t:Nat)(kc:List Value):I9->D6->Nat->Mem->Option (D6×Mem)
 | [],[],_,m=>some ([],m)
 | tg::ts,z::zs,j,m=>match p8 m tg (.mget w kw j) (hole c t::z::kc)with
   | some (h,m)=>match yK w kw c t kc ts zs (j+1) m with
     | some (r,m)=>some (h::r,m)
     | none=>none
   | none=>none
 | _,_,_,_=>none
def EN(P:Program)(m:Mem)(T:TypeId)(x k:Value)(ok:Bool):Res :=
 match x,A2F P T with
 | .map (some r),some y=>match Hp.get m.H r,sQ y.ka y.ks k,jR P y.vt with
   | some (.mp c t T2),some kc,some z=>bif Nat.beq T2 T then match sQ y.va y.vs z with
     | some a=>match yK y.w y.ks.length c t kc y.vs a y.ks.length m with
       | some (hs,m)=>match A7K y.va hs with
         | some v=>bif ok then match p8 m 8 (.mhas y.w y.ks.length) (hole c t::kc)with
            | some (b,m)=>some (.tuple ⟨[v,b]⟩,m)
            | none=>none
           else some (v,m)
         | none=>none
       | none=>none
     | none=>none else none
   | _,_,_=>none
 | _,_=>none
def JD(P:Program)(m:Mem)(T:TypeId)(x k v:Value):Res :=
 match x,A2F P T with
 | .map (some r),some y=>match Hp.get m.H r,sQ y.ka y.ks k,sQ y.va y.vs v with
   | some (.mp c t T2),some kc,some vc=>bif Nat.beq T2 T then AY m t (.mput y.w y.ks.length) (hole c t::(kc++vc)) fun nx m=>XL (iJ m r (.mp nx t T))else none
   | _,_,_=>none
 | _,_=>none
def TA(P:Program)(m:Mem)(T:TypeId)(x:Value):Res :=
 match P.underlying T,x with
 | some (.map _ _),.map (some r)=>match Hp.get m.H r with
   | some (.mp c t _)=>NM m c t
   | _=>none
 | _,_=>none
def xtM(P:Program)(fr:Fr)(m:Mem)(o:Oper):Res :=
 match o.op with
 | .convert s t x=>A1T P m s t (ev fr x)
 | .binOp op t x y _=>A0S P m op t (ev fr x) (ev fr y)
 | .call ⟨.builtin .unsafeSliceData,xs,_⟩=>match evL fr xs.toList with
   | [x]=>sdM P m o.type x
   | _=>none
 | .call ⟨.builtin .unsafeString,xs,tys⟩=>match evL fr xs.toList,tys.toList with
   | [p,l],t::_=>usM P m t p l
   | _,_=>none
 | .makeMap t none=>A5T P m t
 | .lookup t x k ok=>EN P m t (ev fr x) (ev fr k) ok
 | .mapUpdate t x k v=>JD P m t (ev fr x) (ev fr k) (ev fr v)
 | .insert t x k v=>JD P m t (ev fr x) (ev fr k) (ev fr v)
 | .call ⟨.builtin .len,xs,tys⟩=>match evL fr xs.toList,tys.toList with
   | [x],t::_=>TA P m t x
   | _,_=>none
 | _=>none
inductive EK where
 | noEscape|makeNoZero (e:TypeId)|indexByteString|countString|indexString|copyString
 deriving DecidableEq
def TY:List (FuncId×EK)->FuncId->Option EK
 | [],_=>none
 | (g,k)::r,f=>bif Nat.beq g f then some k else TY r f
structure FnC where
 run:D6->Mem->Res
structure U1 where
 fn:FuncId->FnC
 yl:FnC
def sH:Value->Bool
 | .tuple ⟨[]⟩=>true
 | _=>false
def PL(lg:Lg)(v:Value)(b:Bool):Option (Bool×Lg) :=
 match v with
 | .bool c=>some (c == b,lg)
 | .complex k i t=>match brL lg (.complex k i t)with
   | some (c,lg)=>some (c == b,lg)
   | none=>none
 | v=>bif sH v then some (false,lg)else none
def dX(nt:Nat)(fr:Fr)(lg:Lg)(ops:List Oper)(o:Oper):Option (Bool×Lg) :=
 match o.guard with
 | none=>some (true,lg)
 | some (j,b)=>match ops[j]? with
   | some p=>match p.dst with
     | some t=>bif Nat.blt t nt then PL lg (fr.get t) b else none
     | none=>none
   | none=>none
def CP(v:Value)(vs:List Value):Option (FuncId×List Value) :=
 match v with
 | .func (.func f) a b=>some (f,a.toList++(vs++b.toList))
 | _=>none
def hO(v:Value):Option Nat :=
 match v with
 | .func (.yield 7) ⟨[.pointer (some ⟨b,0,none⟩)]⟩ ⟨[]⟩=>some b
 | _=>none
def SM(call:U1)(m:Mem)(v:Value)(vs:List Value):Res :=
 match CP v vs with
 | some (f,vs)=>(call.fn f).run vs m
 | none=>match hO v with
   | some _=>call.yl.run (v::vs) m
   | none=>none
def B8R(call:U1)(x:XC)(xs:LC)(fr:Fr)(m:Mem):Res:=SM call m (x.run fr) (xs.run fr)
def B5V(f:FnC)(xs:LC)(fr:Fr)(m:Mem):Res:=f.run (xs.run fr) m
def A5w(P:Program)(c:OpC)(o:Oper)(fr:Fr)(m:Mem):Res :=
 match c.run fr m with
 | some r=>some r
 | none=>match A3F P fr m o.op with
   | some r=>some r
   | none=>match dsM P fr m o.op with
     | some r=>some r
     | none=>xtM P fr m o
def t7(P:Program)(call:U1)(o:Oper):OpC :=
 match o.op with
 | .call ⟨.value (.func f),xs,_⟩=>⟨B5V (call.fn f) (AJ xs.toList)⟩
 | .call ⟨.value x,xs,_⟩=>⟨B8R call (Y5 x) (AJ xs.toList)⟩
 | op=>⟨A5w P (FY P op) o⟩
def FP(nt:Nat)(d:Option Tmp):Bool :=
 match d with
 | some d=>Nat.blt d nt
 | none=>true
structure B6D where
 run:Value->Fr->(Fr->Option S)->Option S
def BB(d:Option Tmp):B6D :=
 match d with
 | some t=>⟨AU (sel (t / 64%8)) (sel (t / 8%8)) (sel (t%8))⟩
 | none=>⟨fun _ fr k=>k fr⟩
structure A7S where
 run:S->Option S
def pG(c:OpC)(d:B6D)(next:A7S)(s:S):Option S :=
 match s with
 | ⟨fr,m⟩=>match c.run fr m with
   | some (v,m')=>bif Nat.ble m.hi m'.hi then d.run v fr fun fr=>next.run ⟨fr,m'⟩else none
   | none=>none
def iL(nt:Nat)(all:List Oper)(o:Oper)(c:OpC)(d:B6D)(next:A7S)(s:S):Option S :=
 match s with
 | ⟨fr,⟨H,n,W,hi,lg⟩⟩=>match dX nt fr lg all o with
   | some (true,lg)=>pG c d next ⟨fr,⟨H,n,W,hi,lg⟩⟩
   | some (false,lg)=>d.run undef fr fun fr=>next.run ⟨fr,⟨H,n,W,hi,lg⟩⟩
   | none=>none
def e9(P:Program)(nt gl:Nat)(call:U1)(all:List Oper):List Oper->A7S
 | []=>⟨some⟩
 | o::r=>bif FP nt o.dst && XI nt gl o.op then match o.guard with
   | none=>⟨fun s=>pG (t7 P call o) (BB o.dst) (e9 P nt gl call all r) s⟩
   | some _=>⟨fun s=>iL nt all o (t7 P call o) (BB o.dst) (e9 P nt gl call all r) s⟩
   else⟨fun _=>none⟩
structure Rec where
 i:Nat
 lo:Nat
 hi:Nat
inductive Cls where
 | free
 | one (b:Nat)
 | all
def B9d(fr:Fr)(o:Op):Cls :=
 match o with
 | .move _|.assign _|.pick ..|.alloc _|.box ..|.build ..|.buildSlice ..|.nilCheck _|.binOp ..|.unOp ..|.makeInterface ..|.makeFunc ..|.makeMap ..|.makeSlice ..
 | .fieldAddr ..|.field ..|.indexAddr ..|.index ..|.extract ..|.range ..=>.free
 | .slice _ x _ _ _=>match ev fr x with
   | .slice _ _ _|.string _|.pointer _|.complex _ _ _=>.free
   | _=>.all
 | .convert _ _ x=>match ev fr x with
   | .int _ _|.string _=>.free
   | _=>.all
 | .call ⟨.builtin .len,xs,_⟩=>match evL fr xs.toList with
   | [.slice _ _ _]|[.string _]=>.free
   | _=>.all
 | .call ⟨.builtin .min,_,_⟩|.call ⟨.builtin .max,_,_⟩=>.free
 | .call ⟨.builtin .unsafeSliceData,xs,_⟩=>match evL fr xs.toList with
   | [.slice _ _ _]=>.free
   | _=>.all
 | .load _ x|.store _ x _=>match ev fr x with
   | .pointer (some a)=>.one a.block
   | _=>.all
 | _=>.all
def JX(H:Hp AB):I9->Hp AB
 | []=>H
 | b::r=>Hp.put H b none fun H=>JX H r
def LD(H0 H:Hp AB):I9->Hp AB
 | []=>H
 | b::r=>Hp.put H b (Hp.get H0 b) fun H=>LD H0 H r
def WM:Nat->Nat->I9
 | _,0=>[]
 | lo,n+1=>lo::WM (lo+1) n
def aM:List Rec->I9
 | []=>[]
 | r::rs=>WM r.lo (r.hi-r.lo)++aM rs
def cV(l:List Nat)(b:Nat):Bool:=l.any (Nat.beq b)
def OY(l:List Nat):Bool:=l.all fun b=>Nat.ble b J0
def JI(b:List Nat)(rs:List Rec):List Rec:=rs.filter fun r=>!(cV b r.i)
def HY(m:Mem)(c:Cls)(us:List Rec):Option Mem :=
 match m with
 | ⟨H,n,_,hi,lg⟩=>match c with
   | .free=>some ⟨hp0,n,[],hi,lg⟩
   | .one b=>bif cV (aM us) b || !(Nat.ble b J0)then none else Hp.put hp0 b (Hp.get H b) fun H=>some ⟨H,n,[],hi,lg⟩
   | .all=>bif OY (aM us)then some ⟨JX H (aM us),n,[],hi,lg⟩else none
def pS(m m':Mem):Option Mem :=
 bif Nat.ble m'.hi m.n then(match m with|⟨H,n,W,hi,_⟩=>some ⟨H,n,W,hi,m'.lg⟩)else
 bif Nat.ble m'.hi J0 then OD (LD m'.H m.H (WM m.n (m'.hi-m.n))) fun H=>M5 m'.hi fun n=>some ⟨H,n,m.W,n,m'.lg⟩else none
def A1I(fr:Fr)(m:Mem)(o:Oper)(b:List Nat)(rs:List Rec)(op:OpC)(k:Value->Mem->Option S):Option S :=
 let us:=JI b rs
 let c:=B9d fr o.op
 match HY m c us with
 | some mv=>match op.run fr mv with
   | some (v,m') =>
     match m'.W,Nat.ble m.hi m'.hi with
     | [],true=>match pS m m' with
       | some m2=>k v m2
       | none=>none
     | _,_=>none
   | none=>none
 | none=>none
def wrO:Op->Bool
 | .call _|.store ..|.mapUpdate ..=>true
 | _=>false
def dC:Op->Bool
 | .move _|.assign _|.extract ..|.slice ..=>true
 | _=>false
def B5B:Op->Bool
 | .field ..|.fieldAddr ..|.index ..|.indexAddr ..|.binOp ..|.unOp ..|.build ..|.load ..|.pick ..|.convert ..|.slice ..|.nilCheck _=>true
 | .call ⟨.builtin .len,_,_⟩=>true
 | o=>dC o
def MK(a b:Addr):Bool :=
 match a,b with
 | ⟨x,o,none⟩,⟨y,p,none⟩=>Nat.beq x y && Nat.beq o p
 | _,_=>false
def WS(f g:Fn):Bool :=
 match f,g with
 | .func f,.func g=>Nat.beq f g
 | .yield f,.yield g=>Nat.beq f g
 | _,_=>false
def IN(s:Value->Value->Bool):D6->D6->Bool
 | [],[]=>true
 | a::l,b::r=>s a b && IN s l r
 | _,_=>false
def DN:Nat->Value->Value->Bool
 | _,.bool a,.bool b=>a == b
 | _,.int k n,.int j m=>DO k j && HP n m
 | _,.complex .f64 i t,.complex .f64 j u=>Nat.beq i j && Nat.beq t u
 | _,.complex .f32 i t,.complex .f32 j u=>Nat.beq i j && Nat.beq t u
 | _,.string s,.string t=>decide (s.data.toList=t.data.toList)
 | _,.pointer none,.pointer none=>true
 | _,.pointer (some a),.pointer (some b)=>MK a b
 | _,.slice none n c,.slice none m d=>Nat.beq n m && Nat.beq c d
 | _,.slice (some a) n c,.slice (some b) m d=>MK a b && (Nat.beq n m && Nat.beq c d)
 | _,.map none,.map none=>true
 | _,.map (some a),.map (some b)=>Nat.beq a b
 | _,.nilFunc,.nilFunc=>true
 | _,.nilIface,.nilIface=>true
 | d+1,.func f a b,.func g a' b'=>WS f g && (IN (DN d) a.toList a'.toList && IN (DN d) b.toList b'.toList)
 | d+1,.iface t v,.iface u w=>Nat.beq t u && DN d v w
 | _,_,_=>false
def A3q(a b:AB):Bool :=
 match a,b with
 | .frz,.frz=>true
 | .cells cs T ro,.cells cs' T' ro'=>IN (DN 6) cs cs' && (Nat.beq T T' && (ro == ro'))
 | _,_=>false
def A43(H:Hp AB)(b:Nat):Option (Nat×AB) :=
 match Hp.get H b with
 | some .frz=>some (b,.frz)
 | some (.cells cs T ro)=>some (b,.cells cs T ro)
 | _=>none
def TS(H:Hp AB)(fr:Fr)(o:Op):Option (Nat×AB) :=
 match o with
 | .load _ x=>match ev fr x with
   | .func (.yield 5) ⟨.pointer (some a)::_⟩ _=>A43 H a.block
   | .pointer (some a)=>A43 H a.block
   | _=>none
 | _=>none
def EZ(H:Hp AB)(b:Nat)(ab:AB):Bool :=
 match Hp.get H b with
 | some x=>Nat.ble b J0 && A3q x ab
 | none=>false
def xE:Nat:=262144
def MX(m:Mem)(r:Option (Nat×AB))(us:List Rec):Option Mem :=
 match m with
 | ⟨H,_,_,_,lg⟩=>match r with
   | none=>some ⟨hp0,xE,[],xE,lg⟩
   | some (b,ab)=>bif cV (aM us) b || !(EZ H b ab)then none else Hp.put hp0 b (some ab) fun H=>some ⟨H,xE,[],xE,lg⟩
def pM(fr:Fr)(m:Mem)(o:Oper)(b:List Nat)(rs:List Rec)(op:OpC):Option (Value×Lg) :=
 match MX m (TS m.H fr o.op) (JI b rs)with
 | some mv=>match op.run fr mv with
   | some (v,⟨_,_,[],hi,lg⟩)=>bif Nat.beq hi xE then some (v,lg)else none
   | _=>none
 | none=>none
abbrev Qs:=List (Nat×Option (Nat×AB))
def OZ:Nat->I9->Qs->Bool
 | 0,_,_=>true
 | n+1,b,qs=>(cV b n || qs.any fun q=>Nat.beq n q.1) && OZ n b qs
def NO(i:Nat):List I9->List Oper->Bool
 | c::bs,o::r=>(cV c i || dC o.op) && NO i bs r
 | _,_=>true
def B21(H:Hp AB)(r:Option (Nat×AB)):Bool :=
 match r with
 | none=>true
 | some (b,ab)=>EZ H b ab
def A5q(b:List Nat)(H:Hp AB)(a:Qs):Bool:=a.all fun q=>cV b q.1 || B21 H q.2
def QS(o:Op)(i:Nat)(b:List Nat)(bs:List I9)(r:List Oper)(a:Qs):Bool:=wrO o && (OZ i b a && NO i bs r)
def bX(P:Program)(nt gl:Nat)(call:U1)(all:List Oper):List Oper->Nat->List I9->List Rec->Qs->S->Option S
 | [],_,_,_,_,s=>some s
 | _::_,_,[],_,_,_=>none
 | o::r,i,b::bs,rs,qs,⟨fr,⟨H,n,W,hi,lg⟩⟩=>match dX nt fr lg all o,FP nt o.dst && XI nt gl o.op with
   | some (true,lg),true=>bif QS o.op i b bs r qs then(match (t7 P call o).run fr ⟨H,n,W,hi,lg⟩with
      | some (v,m2)=>bif Nat.ble hi m2.hi && A5q b m2.H qs then(BB o.dst).run v fr fun fr=>bX P nt gl call all r (i+1) bs [] qs ⟨fr,m2⟩else none
      | none=>none)
     else match (bif B5B o.op then pM fr ⟨H,n,W,hi,lg⟩ o b rs (t7 P call o)else none)with
      | some (v,lg2)=>(BB o.dst).run v fr fun a=>bX P nt gl call all r (i+1) bs rs ((i,TS H fr o.op)::qs) ⟨a,⟨H,n,W,hi,lg2⟩⟩
      | none=>bif dC o.op then none else A1I fr ⟨H,n,W,hi,lg⟩ o b rs (t7 P call o) fun v m2 =>
        (BB o.dst).run v fr fun fr=>bX P nt gl call all r (i+1) bs (⟨i,n,m2.n⟩::rs) qs ⟨fr,m2⟩
   | some (false,lg),true=>(BB o.dst).run undef fr fun fr=>bX P nt gl call all r (i+1) bs rs ((i,none)::qs) ⟨fr,⟨H,n,W,hi,lg⟩⟩
   | _,_=>none
def A7P(l:List Nat)(b:Nat):I9:=bif cV l b then l else M5 b fun b=>b::l
def A0u:I9->I9->I9
 | [],b=>b
 | x::a,b=>A7P (A0u a b) x
def xH(acc:List I9):List Edge->I9
 | []=>[]
 | e::r=>bif Region.binds .any e then A7P (A0u (acc.getD e.on []) (xH acc r)) e.on else xH acc r
def y7:List Oper->List I9->List I9
 | [],acc=>acc
 | o::r,acc=>V9 (xH acc o.after.toList) fun a=>y7 r (acc++[a])
def uW:Operand->List Tmp
 | .tmp t=>[t]
 | _=>[]
def o7(ops:List Oper)(o:Oper):List Tmp :=
 o.dst.toList++(o.op.operands.toList.flatMap uW++(match o.guard with
  | none=>[]
  | some (j,_)=>match ops[j]? with
    | some p=>p.dst.toList
    | none=>[]))
def A8i(a:List I9)(i k:Nat):Bool:=bif Nat.blt i k then cV (a.getD k []) i else cV (a.getD i []) k
def xN(b:List I9)(i:Nat)(a:List Tmp):List Oper->Nat->Bool
 | [],_=>true
 | p::r,k=>(Nat.beq k i || (match p.dst with|none=>true|some t=>!(cV a t) || A8i b i k)) && xN b i a r (k+1)
def sM(i:Nat):List Edge->Bool
 | []=>true
 | e::r=>(!(Region.binds .any e) || Nat.blt e.on i) && sM i r
def SI(ops:List Oper)(a:List I9):List Oper->Nat->Bool
 | [],_=>true
 | o::r,i=>sM i o.after.toList && (xN a i (o7 ops o) ops 0 && SI ops a r (i+1))
def OM(ops:Array Oper):Bool:=SI ops.toList (y7 ops.toList []) ops.toList 0
def OS:Op->Bool
 | .move _|.assign _|.load _ _|.store _ _ _=>true
 | _=>false
def qW:Op->Option (TypeId×Operand)
 | .load t x=>some (t,x)
 | .store t x _=>some (t,x)
 | _=>none
def kC:Op->Bool
 | .store _ _ _=>true
 | _=>false
def A4j:Op->List Tmp
 | .move x|.assign x=>uW x
 | .load _ x=>uW x
 | .store _ x y=>uW x++uW y
 | _=>[]
def JB(o:Oper)(l:List Tmp):Bool :=
 match o.dst with
 | some d=>cV l d
 | none=>false
def B8c(a b:Oper):Bool :=
 (match a.dst,b.dst with
   | some d,some e=>!(Nat.beq d e)
   | _,_=>true) && (!(JB a (A4j b.op)) && (!(JB b (A4j a.op)) && !(kC a.op && kC b.op)))
def wX(o:Oper)(i:Nat):Bool:=o.after.any fun e=>Region.binds .any e && Nat.beq e.on i
def A7Q(l:List Oper):List Tmp:=l.flatMap fun o=>match qW o.op with
 | some (_,x)=>uW x
 | none=>[]
def NA(p:Oper->Oper->Bool)(l:List Oper):Bool :=
 (List.range l.length).all fun j=>(List.range j).all fun i=>match l[i]?,l[j]? with
   | some a,some b=>wX b i || p a b
   | _,_=>true
def B5F(a:List Tmp)(i:Nat)(o:Oper):Bool:=OS o.op && ((match o.guard with|none=>true|some _=>false) && (!(JB o a) && o.after.all fun e=>!(Region.binds .any e) || Nat.blt e.on i))
def A5G(a:List Tmp):Nat->List Oper->Bool
 | _,[]=>true
 | i,o::l=>B5F a i o && A5G a (i+1) l
def pK(l:List Oper):Bool:=A5G (A7Q l) 0 l && NA B8c l
def A5B(P:Program)(nt gl:Nat)(fr:Fr)(H:Hp AB)(o:Oper):Bool :=
 match qW o.op with
 | none=>true
 | some (t,x)=>bif !(okX nt gl x)then false else match ev fr x,dF P t,I4 P t with
   | .pointer (some a),some _,some s=>match a.spot,Hp.get H a.block with
     | none,some (.cells cs _ false)=>Nat.ble (a.off+s) cs.length && (Nat.blt a.off cs.length && Nat.ble a.block J0)
     | _,_=>false
   | _,_,_=>false
def A7L(fr:Fr)(a b:Oper):Bool :=
 bif kC a.op || kC b.op then match qW a.op,qW b.op with
  | some (_,x),some (_,y)=>match ev fr x,ev fr y with
    | .pointer (some p),.pointer (some q)=>!(Nat.beq p.block q.block)
    | _,_=>false
  | _,_=>true else true
def pU(P:Program)(nt gl:Nat)(fr:Fr)(H:Hp AB)(l:List Oper):Bool:=l.all (A5B P nt gl fr H) && NA (A7L fr) l
structure kM where
 run:S->Option (Ex×S)
def JL(f:kM):Nat->S->Option (Ex×S)
 | 0,_=>none
 | n+1,s=>match f.run s with
   | some (.normal,s)=>JL f n s
   | r=>r
def A7A(a b:kM)(s:S):Option (Ex×S) :=
 match a.run s with
 | some (.normal,s)=>b.run s
 | r=>r
def UW(c:XC)(a b:kM)(s:S):Option (Ex×S) :=
 match c.run s.fr with
 | .bool true=>a.run s
 | .bool false=>b.run s
 | v=>match s with
   | ⟨fr,⟨H,n,W,hi,lg⟩⟩=>match brL lg v with
     | some (true,lg)=>a.run ⟨fr,⟨H,n,W,hi,lg⟩⟩
     | some (false,lg)=>b.run ⟨fr,⟨H,n,W,hi,lg⟩⟩
     | none=>none
def GG(id:Nat)(c:kM)(s:S):Option (Ex×S) :=
 match c.run s with
 | some (.exit j,s)=>bif Nat.beq j id then some (.normal,s)else some (.exit j,s)
 | r=>r
def x9(r:A7S)(s:S):Option (Ex×S) :=
 match r.run s with
 | some s=>some (.normal,s)
 | none=>none
structure LpT where
 me:FuncId
 look:List Bool->Option (S->Option (Ex×S))
def JM(c:kM)(L:S->Option (Ex×S)):Nat->S->Option (Ex×S)
 | 0,_=>none
 | n+1,s=>match L s with
   | some r=>some r
   | none=>match c.run s with
     | some (.normal,s)=>JM c L n s
     | r=>r
def UU(c:kM)(l:Option (S->Option (Ex×S)))(s:S):Option (Ex×S) :=
 match l with
 | some f=>JM c f 4 s
 | none=>JL c 1000000 s
def frL(fr:Fr):Nat->Nat->D6
 | _,0=>[]
 | i,n+1=>fr.get i::frL fr (i+1) n
def B2P:Value->Nat
 | .pointer (some a)=>a.block
 | _=>0
def mC(v:Value):I9 :=
 match v with
 | .func (.yield 8) ⟨l⟩ ⟨[]⟩=>l.map B2P
 | _=>[]
def exN:Ex->Nat
 | .normal=>0
 | .ret=>2
 | .exit k=>k+4
def nEx:Nat->Option Ex
 | 0=>some .normal
 | 1=>none
 | 2=>some .ret
 | 3=>none
 | k+4=>some (.exit k)
def NR:Ex->Bool
 | .normal=>true
 | _=>false
def vR(fr:Fr)(hi:Nat)(b:Nat)(r:Res):Option (Ex×S) :=
 match r with
 | some (_,m)=>match Hp.get m.H b with
   | some (.lp f q vs st)=>match nEx st with
     | some e=>bif Nat.ble hi m.hi then match iJ m b (.lp f q vs 3)with
       | some m=>some (e,⟨fr,m⟩)
       | none=>none else none
     | none=>none
   | _=>none
 | none=>none
def wN(P:Program)(f:FuncId):Bool :=
 match P.funcs.toList[f]? with
 | some fn=>match fn.body with
   | some _=>true
   | none=>false
 | none=>false
def eV(P:Program)(nt:Nat)(call:U1)(f:FuncId)(q:List Bool)(g:Value)(fr:Fr)(m:Mem):Option (Ex×S) :=
 V9 (frL fr 0 nt) fun vs=>match y6 m (.lp f q vs 0) yv with
 | some (v,m1)=>match CP g [v],hO v with
   | some (k,as),some b=>bif wN P k then vR fr m1.hi b ((call.fn k).run as m1)else none
   | _,_=>none
 | none=>none
def GE(P:Program)(nt:Nat)(call:U1)(f:FuncId)(q:List Bool)(x:XC)(s:S):Option (Ex×S) :=
 match s with
 | ⟨fr,m⟩=>bif Nat.ble nt 510 then match hO (fr.get 511)with
   | some d=>match Hp.get m.H d with
     | some (.lp _ _ _ 1)=>eV P nt call f q (x.run fr) fr m
     | _=>none
   | none=>bif sH (fr.get 511)then match y6 m (.dfr true) (fun b=>.pointer (some ⟨b,0,none⟩))with
      | some (.pointer (some a),m1)=>V9 (mC (fr.get 510)) fun l=>AU (sel 7) (sel 7) (sel 6) (dv (a.block::l)) fr fun c=>eV P nt call f q (x.run fr) c m1
      | _=>none else none
   else none
def R9(P:Program)(nt gl:Nat)(call:U1)(lp:LpT):List Bool->Code->kM
 | _,.skip=>⟨fun s=>some (.normal,s)⟩
 | _,.label _=>⟨fun s=>some (.normal,s)⟩
 | _,.region _ ops d=>match d with
   | false=>⟨fun s=>x9 (e9 P nt gl call ops.toList ops.toList) s⟩
   | true=>bif OM ops then bif pK ops.toList then⟨fun s=>bif pU P nt gl s.fr s.m.H ops.toList then x9 (e9 P nt gl call ops.toList ops.toList) s else x9 ⟨bX P nt gl call ops.toList ops.toList 0 (y7 ops.toList []) [] []⟩ s⟩
     else⟨fun s=>x9 ⟨bX P nt gl call ops.toList ops.toList 0 (y7 ops.toList []) [] []⟩ s⟩else⟨fun _=>none⟩
 | q,.seq a b=>⟨fun s=>A7A (R9 P nt gl call lp (q++[false]) a) (R9 P nt gl call lp (q++[true]) b) s⟩
 | q,.cond c a b=>bif okX nt gl c then⟨fun s=>UW (Y5 c) (R9 P nt gl call lp (q++[false]) a) (R9 P nt gl call lp (q++[true]) b) s⟩else⟨fun _=>none⟩
 | q,.block id c=>⟨fun s=>GG id (R9 P nt gl call lp (q++[false]) c) s⟩
 | q,.loop c=>⟨fun s=>UU (R9 P nt gl call lp (q++[false]) c) (lp.look q) s⟩
 | q,.rangeFunc x _ _ _=>bif okX nt gl x then⟨fun s=>GE P nt call lp.me q (Y5 x) s⟩else⟨fun _=>none⟩
 | q,.scope c=>R9 P nt gl call lp (q++[false]) c
 | _,.exit id=>⟨fun s=>some (.exit id,s)⟩
 | _,.ret=>⟨fun s=>some (.ret,s)⟩
 | _,_=>⟨fun _=>none⟩
def XX(ids:Value->List Nat):D6->I9
 | []=>[]
 | v::r=>ids v++XX ids r
def NW:Nat->Value->I9
 | 0,_=>[]
 | _+1,.pointer (some a)=>[a.block]
 | _+1,.slice (some a) _ _=>[a.block]
 | _+1,.map (some b)=>[b]
 | d+1,.func _ a b=>XX (NW d) a.toList++XX (NW d) b.toList
 | d+1,.iface _ v=>NW d v
 | d+1,.agg cs=>XX (NW d) cs.toList
 | d+1,.tuple cs=>XX (NW d) cs.toList
 | _+1,_=>[]
def B8h:AB->I9
 | .cells cs _ _=>XX (NW 10) cs
 | .mp _ _ _=>[]
 | .iter _ _=>[]
 | .lp _ _ vs _=>XX (NW 10) vs
 | .dfr _=>[]
 | .sq _ _ _ g _=>[g]
 | .frz=>[]
def RO(n0:Nat)(H:Hp AB):Nat->I9->I9->I9
 | 0,_,acc=>acc
 | _+1,[],acc=>acc
 | f+1,b::r,acc=>bif Nat.blt b n0 || cV acc b then RO n0 H f r acc else match Hp.get H b with
   | some ab=>RO n0 H f (B8h ab++r) (b::acc)
   | none=>RO n0 H f r acc
def iW(a H:Hp AB):I9->Hp AB
 | []=>H
 | b::r=>Hp.put H b (Hp.get a b) fun H=>iW a H r
def wOf(H:Hp AB):I9->I9
 | []=>[]
 | b::r=>(match Hp.get H b with|some ab=>B8h ab|none=>[])++wOf H r
def tF:I9->I9->I9
 | [],acc=>acc
 | b::r,acc=>bif cV acc b then tF r acc else tF r (b::acc)
def xZ(low:Value->Bool):D6->Bool
 | []=>true
 | v::r=>low v && xZ low r
def dW(n:Nat):Nat->Value->Bool
 | 0,_=>false
 | _+1,.pointer (some a)=>Nat.blt a.block n
 | _+1,.slice (some a) _ _=>Nat.blt a.block n
 | _+1,.map (some b)=>Nat.blt b n
 | d+1,.func _ a b=>xZ (dW n d) a.toList && xZ (dW n d) b.toList
 | d+1,.iface _ v=>dW n d v
 | d+1,.agg cs=>xZ (dW n d) cs.toList
 | d+1,.tuple cs=>xZ (dW n d) cs.toList
 | _+1,.complex _ _ _=>true
 | _+1,v=>K5 v
def A8w(n:Nat):Option AB->Bool
 | none=>true
 | some (.cells cs _ _)=>xZ (dW n 10) cs
 | some (.mp _ _ _)=>true
 | some (.iter _ _)=>true
 | some (.lp _ _ vs _)=>xZ (dW n 10) vs
 | some (.dfr _)=>true
 | some (.sq _ _ _ g _)=>Nat.blt g n
 | some .frz=>true
def XO(n:Nat)(H:Hp AB):I9->Bool
 | []=>true
 | b::r=>A8w n (Hp.get H b) && XO n H r
def gcM(m m':Mem)(v:Value):Option Mem :=
 let W:=tF (m'.W.filter fun b=>Nat.blt b m.n || Nat.ble m'.hi b) []
 bif dW m.n 10 v && XO m.n m'.H W then
  bif OY W then OD (iW m'.H m.H W) fun H=>M5 m'.hi fun hi=>V9 (W++m.W) fun W=>some ⟨H,m.n,W,hi,m'.lg⟩else none
 else
  let ids:=(RO m.n m'.H 100000 (NW 10 v++wOf m'.H W) []).filter fun b=>Nat.ble m.n b && Nat.blt b m'.hi
  bif OY (W++ids)then OD (iW m'.H m.H (W++ids)) fun H=>M5 m'.n fun n=>M5 m'.hi fun hi=>V9 (W++m.W) fun W=>some ⟨H,n,W,hi,m'.lg⟩else none
def B7I(P:Program)(nt:Nat)(s:S):ResultVar->W4
 | .tmp t=>bif Nat.blt t nt then some (s.fr.get t)else none
 | .cell a t=>bif Nat.blt a nt then match s.fr.get a with
   | .pointer (some a)=>A0k P s.m t a
   | _=>none else none
def A1_(P:Program)(nt:Nat)(s:S):List ResultVar->Option D6
 | []=>some []
 | r::rs=>match B7I P nt s r,A1_ P nt s rs with
   | some v,some vs=>some (v::vs)
   | _,_=>none
def A19(fn:Func)(P:Program)(s:S):W4 :=
 match A1_ P fn.ntmps s fn.results.toList with
 | some [v]=>some v
 | some vs=>some (.tuple ⟨vs⟩)
 | none=>none
def jH(fr:Fr):Nat->D6->Fr
 | _,[]=>fr
 | i,v::r=>AU (sel (i / 64%8)) (sel (i / 8%8)) (sel (i%8)) v fr fun fr=>jH fr (i+1) r
def yG(l:List UInt8)(c:UInt8):Nat->Int
 | i=>match l with
   | [] => -1
   | b::r=>bif decide (b=c)then(i:Int)else yG r c (i+1)
def countB(c:UInt8):List UInt8->Nat->Nat
 | [],n=>n
 | b::r,n=>bif decide (b=c)then M5 (n+1) (countB c r)else countB c r n
def tR(k:EK)(args:List Value)(m:Mem):Res :=
 match k,args with
 | .noEscape,[v]=>some (v,m)
 | .indexByteString,[.string s,.int .u8 (.ofNat c)]=>some (.int .i64 (yG s.data.toList (UInt8.ofNat c) 0),m)
 | .countString,[.string s,.int .u8 (.ofNat c)]=>some (.int .i64 (countB (UInt8.ofNat c) s.data.toList 0),m)
 | .makeNoZero e,[.int .i64 (.ofNat n)]=>bif Nat.ble n 1000000000 then y6 m (.cells [] e false) fun b=>.slice (some ⟨b,0,none⟩) n R5 else none
 | _,_=>none
def uY:I9->Mem->Option Mem
 | [],m=>some m
 | b::r,m=>match Hp.get m.H b with
   | some (.dfr true)=>match iJ m b (.dfr false)with
     | some m=>uY r m
     | none=>none
   | _=>none
def dvG(nt:Nat)(fr:Fr):I9:=bif Nat.ble nt 510 then mC (fr.get 510)else[]
def B5y(fn:Func)(P:Program)(m:Mem)(r:Option (Ex×S)):Res :=
 match r with
 | some (.normal,⟨fr,m1⟩)|some (.ret,⟨fr,m1⟩)=>match uY (dvG fn.ntmps fr) m1 with
   | some m1=>match A19 fn P ⟨fr,m1⟩with
     | some v=>match gcM m m1 v with
       | some m=>some (v,m)
       | none=>none
     | none=>none
   | none=>none
 | _=>none
def WL(c:kM)(fr:Fr)(m:Mem):Option (Ex×S) :=
 match m with
 | ⟨H,n,_,hi,lg⟩=>c.run ⟨fr,⟨H,n,[],hi,lg⟩⟩
def AL(fn:Func)(P:Program)(c:kM)(args:List Value)(m:Mem):Res :=
 bif Nat.ble args.length fn.ntmps && Nat.ble fn.ntmps 512 then B5y fn P m (WL c (jH fr0 0 args) m)else none
structure Cx where
 P:Program
 ext:List (FuncId×EK)
 gl:Nat
 con:FuncId->Option FnC
 lp:FuncId->LpT
def KT(C:Cx)(call:U1)(f:FuncId):FnC :=
 match C.P.funcs.toList[f]? with
 | none=>⟨fun _ _=>none⟩
 | some fn=>match C.con f with
   | some c=>c
   | none=>match fn.body with
     | none=>match TY C.ext f with
       | some k=>⟨tR k⟩
       | none=>⟨fun _ _=>none⟩
     | some c=>⟨AL fn C.P (R9 C.P fn.ntmps C.gl call (C.lp f) [] c)⟩
def zT:List Tmp->D6->Fr->Option Fr
 | [],[],fr=>some fr
 | t::ts,v::vs,fr=>AU (sel (t / 64%8)) (sel (t / 8%8)) (sel (t%8)) v fr fun fr=>zT ts vs fr
 | _,_,_=>none
def vL(b:Nat)(r:Option (Ex×S)):Res :=
 match r with
 | some (e,⟨_,m⟩)=>match Hp.get m.H b with
   | some (.lp f q vs 1)=>M5 (exN e) fun st=>match iJ m b (.lp f q vs st)with
     | some m=>some (.bool (NR e),m)
     | none=>none
   | _=>none
 | none=>none
def vK(b:Nat)(c:kM)(r:Option (Ex×S)):Res :=
 match r with
 | some (.normal,⟨fr,m⟩)=>match Hp.get m.H b with
   | some (.lp f q vs 0)=>match iJ m b (.lp f q vs 1)with
     | some m=>vL b (c.run ⟨fr,m⟩)
     | none=>none
   | _=>none
 | _=>none
def MR(C:Cx)(call:U1):FnC:=⟨fun vs m =>
 match vs with
 | []=>none
 | v::args=>match hO v with
   | none=>none
   | some b=>match Hp.get m.H b with
     | some (.lp f q fs 0)=>match C.P.funcs.toList[f]? with
       | none=>none
       | some fn=>match fn.body with
         | none=>none
         | some body=>match H5 q body with
           | some (.rangeFunc _ ps as bd)=>bif Nat.ble fn.ntmps 510 && ps.toList.all (fun t=>Nat.blt t fn.ntmps)then match zT ps.toList args (jH fr0 0 fs)with
             | some fr=>AU (sel 7) (sel 7) (sel 7) v fr fun fr=>vK b (R9 C.P fn.ntmps C.gl call (C.lp f) (q++[true]) bd) ((R9 C.P fn.ntmps C.gl call (C.lp f) (q++[false]) as).run ⟨fr,m⟩)
             | none=>none else none
           | _=>none
     | _=>none⟩
def tG(C:Cx):Nat->U1
 | 0=>⟨fun _=>⟨fun _ _=>none⟩,⟨fun _ _=>none⟩⟩
 | d+1=>⟨KT C (tG C d),MR C (tG C d)⟩
end
end Go.Sx
