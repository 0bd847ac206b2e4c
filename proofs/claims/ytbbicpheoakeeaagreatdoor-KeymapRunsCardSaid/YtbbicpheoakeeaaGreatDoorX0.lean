/- The law KeymapRuns: for every input the call returns true, and the arguments read behind it as they read before. No condition. -/
import Derived.WalkKit
import Derived.OrdersHeld
import Derived.KernelRfl
set_option linter.all false
set_option maxRecDepth 100000
set_option maxHeartbeats 4000000
namespace Go
variable {p:Prop}
abbrev fL:=@Array.all_eq_true'
abbrev J1:=@Array.ext'
abbrev B8:=@Array.getD_eq_getD_getElem?
abbrev S7:=@Array.getElem?_append_left
abbrev F2:=@Array.getElem?_eq_getElem
abbrev C7:=@Array.getElem?_eq_some_iff
abbrev G9:=@Array.getElem?_modify
abbrev j8:=@Array.getElem?_push
abbrev gU:=@Array.getElem?_replicate
abbrev s5:=@Array.getElem?_set
abbrev G1:=@Array.getElem?_setIfInBounds
abbrev P3:=@Array.getElem?_toList
abbrev R4:=@Array.length_toList
abbrev fP:=@Array.mapM_eq_mapM_toList
abbrev Z8:=@Array.mk.injEq
abbrev e9:=@BitVec.toNat_and
abbrev P7:=@BitVec.toNat_ofInt
abbrev G8:=@Bool.and_eq_true
abbrev mS:=@Bool.and_false
abbrev oI:=@Bool.and_true
abbrev K1:=@Bool.eq_iff_iff
abbrev mR:=@Bool.false_and
abbrev J7:=@Bool.false_eq_true
abbrev Q0:=@Bool.false_or
abbrev P9:=@Bool.not_true
abbrev Z7:=@Bool.or_eq_false_iff
abbrev J0:=@Bool.or_eq_true
abbrev gT:=@Bool.true_and
abbrev D7:=@Decidable.not_not
abbrev kM:=@Int.emod_nonneg
abbrev iL:=@Int.eq_ofNat_of_zero_le
abbrev fK:=@Int.not_le
abbrev kL:=@Int.ofNat.injEq
abbrev bE:=@Int.ofNat_le
abbrev U8:=@Int.toNat_natCast
abbrev dS:=@Int.toNat_of_nonneg
abbrev kK:=@List.all_append
abbrev cJ:=@List.all_cons
abbrev D4:=@List.all_eq_true
abbrev P8:=@List.any_cons
abbrev Y8:=@List.any_eq_false
abbrev P6:=@List.any_eq_true
abbrev M8:=@List.append_assoc
abbrev R2:=@List.append_nil
abbrev J5:=@List.cons.injEq
abbrev S2:=@List.cons_append
abbrev dB:=@List.count_le_length
abbrev fJ:=@List.drop_drop
abbrev g8:=@List.drop_eq_getElem_cons
abbrev R8:=@List.drop_eq_nil_of_le
abbrev fI:=@List.drop_zero
abbrev cB:=@List.eq_nil_iff_forall_not_mem
abbrev M7:=@List.eq_nil_of_length_eq_zero
abbrev bD:=@List.ext_getElem?
abbrev dR:=@List.filter_eq_self
abbrev dH:=@List.find?_cons
abbrev gJ:=@List.flatMap_cons
abbrev O9:=@List.flatten_cons
abbrev cA:=@List.flatten_nil
abbrev B1:=@List.getD_eq_getElem?_getD
abbrev F1:=@List.getElem?_append_left
abbrev D8:=@List.getElem?_append_right
abbrev Q8:=@List.getElem?_cons_succ
abbrev Q7:=@List.getElem?_cons_zero
abbrev H9:=@List.getElem?_drop
abbrev A5:=@List.getElem?_eq_getElem
abbrev T6:=@List.getElem?_eq_none
abbrev fO:=@List.getElem?_eq_none_iff
abbrev B0:=@List.getElem?_eq_some_iff
abbrev F6:=@List.getElem?_map
abbrev dA:=@List.getElem?_set_ne
abbrev R7:=@List.getElem?_set_self
abbrev E6:=@List.getElem?_take_of_lt
abbrev I9:=@List.getElem?_toArray
abbrev N5:=@List.getElem_mem
abbrev j7:=@List.getElem_of_mem
abbrev E1:=@List.length_append
abbrev E4:=@List.length_cons
abbrev E9:=@List.length_drop
abbrev G0:=@List.length_eq_zero_iff
abbrev E8:=@List.length_map
abbrev Y2:=@List.length_nil
abbrev dQ:=@List.length_pos_iff
abbrev T5:=@List.length_replicate
abbrev R1:=@List.length_set
abbrev bM:=@List.length_singleton
abbrev I8:=@List.length_take
abbrev M1:=@List.map_append
abbrev dP:=@List.map_congr_left
abbrev C3:=@List.map_cons
abbrev jT:=@List.map_map
abbrev F9:=@List.map_nil
abbrev B7:=@List.mem_append
abbrev B5:=@List.mem_cons
abbrev C4:=@List.mem_cons_of_mem
abbrev B4:=@List.mem_cons_self
abbrev P1:=@List.mem_filter
abbrev I7:=@List.mem_map
abbrev C8:=@List.mem_of_getElem?
abbrev cZ:=@List.mem_of_mem_drop
abbrev W1:=@List.mem_range
abbrev L9:=@List.mem_singleton
abbrev G5:=@List.nil_append
abbrev bC:=@List.nodup_append
abbrev kJ:=@List.nodup_cons
abbrev mQ:=@List.nodup_nil
abbrev K5:=@List.not_mem_nil
abbrev bL:=@List.take_append_drop
abbrev cI:=@Nat.add_assoc
abbrev jS:=@Nat.add_comm
abbrev H6:=@Nat.add_mul
abbrev V9:=@Nat.add_sub_cancel_left
abbrev jR:=@Nat.add_zero
abbrev bZ:=@Nat.and_le_right
abbrev dO:=@Nat.and_mod_two_pow
abbrev eA:=@Nat.beq_refl
abbrev pJ:=@Nat.ble_eq
abbrev C5:=@Nat.ble_eq_true_of_le
abbrev A0:=@Nat.eq_of_beq_eq_true
abbrev S6:=@Nat.eq_zero_or_pos
abbrev A1:=@Nat.le_of_ble_eq_true
abbrev jQ:=@Nat.le_of_lt
abbrev A6:=@Nat.le_refl
abbrev W6:=@Nat.le_succ
abbrev B9:=@Nat.le_trans
abbrev D3:=@Nat.lt_of_lt_of_le
abbrev F8:=@Nat.lt_or_ge
abbrev J3:=@Nat.lt_succ_self
abbrev d9:=@Nat.mod_eq_of_lt
abbrev pI:=@Nat.mod_lt
abbrev bB:=@Nat.mul_comm
abbrev r9:=@Nat.mul_div_cancel
abbrev fH:=@Nat.mul_le_mul
abbrev F7:=@Nat.mul_le_mul_right
abbrev gI:=@Nat.one_mul
abbrev cY:=@Nat.pow_le_pow_right
abbrev jP:=@Nat.sub_self
abbrev Y7:=@Nat.succ_le_of_lt
abbrev F4:=@Nat.zero_add
abbrev mP:=@Nat.zero_le
abbrev jO:=@Nat.zero_mul
abbrev B3:=@Option.bind_eq_some_iff
abbrev F5:=@Option.bind_some
abbrev bY:=@Option.getD_some
abbrev bA:=@Option.map_eq_some_iff
abbrev L2:=@Option.map_some
abbrev A8:=@Option.some.inj
abbrev D2:=@Option.some.injEq
abbrev M0:=@Prod.mk.injEq
abbrev A4:=@Sem.run_bind
abbrev D6:=@cond_false
abbrev E3:=@cond_true
abbrev F3:=@congrArg
abbrev E0:=@decide_eq_false
abbrev J6:=@decide_eq_true
abbrev A7:=@if_neg
abbrev A9:=@if_pos
abbrev G7:=@of_decide_eq_true
def C6(h:p:=by kernel_rfl):p:=h
def K6{α:Type}{a:Option α}{b c:α}(h:a=some b)(e:b=c:=by kernel_rfl):a=some c:=h.trans (by rw[e])
def A2(h:p:=by omega):p:=h
def E7(h:p:=by decide):p:=h
end Go
namespace Go.Sx
section
open Go
abbrev D0:=List Value
abbrev H4:=List Nat
abbrev Q3:=Option Value
abbrev V8:=Array Value
structure N8 (α:Type) where
 c0:α
 c1:α
 c2:α
 c3:α
 c4:α
 c5:α
 c6:α
 c7:α
structure Sel where
 get:{α:Type}->N8 α->α
 upd:{α β:Type}->N8 α->α->(N8 α->β)->β
def sel:Nat->Sel
 | 0=>⟨fun n=>n.c0,fun n v k=>match n with|⟨a0,a1,a2,a3,a4,a5,a6,a7⟩=>k ⟨v,a1,a2,a3,a4,a5,a6,a7⟩⟩
 | 1=>⟨fun n=>n.c1,fun n v k=>match n with|⟨a0,a1,a2,a3,a4,a5,a6,a7⟩=>k ⟨a0,v,a2,a3,a4,a5,a6,a7⟩⟩
 | 2=>⟨fun n=>n.c2,fun n v k=>match n with|⟨a0,a1,a2,a3,a4,a5,a6,a7⟩=>k ⟨a0,a1,v,a3,a4,a5,a6,a7⟩⟩
 | 3=>⟨fun n=>n.c3,fun n v k=>match n with|⟨a0,a1,a2,a3,a4,a5,a6,a7⟩=>k ⟨a0,a1,a2,v,a4,a5,a6,a7⟩⟩
 | 4=>⟨fun n=>n.c4,fun n v k=>match n with|⟨a0,a1,a2,a3,a4,a5,a6,a7⟩=>k ⟨a0,a1,a2,a3,v,a5,a6,a7⟩⟩
 | 5=>⟨fun n=>n.c5,fun n v k=>match n with|⟨a0,a1,a2,a3,a4,a5,a6,a7⟩=>k ⟨a0,a1,a2,a3,a4,v,a6,a7⟩⟩
 | 6=>⟨fun n=>n.c6,fun n v k=>match n with|⟨a0,a1,a2,a3,a4,a5,a6,a7⟩=>k ⟨a0,a1,a2,a3,a4,a5,v,a7⟩⟩
 | _=>⟨fun n=>n.c7,fun n v k=>match n with|⟨a0,a1,a2,a3,a4,a5,a6,a7⟩=>k ⟨a0,a1,a2,a3,a4,a5,a6,v⟩⟩
def pE{α:Type}(v:α):N8 α:=⟨v,v,v,v,v,v,v,v⟩
def GG{α β:Type}(n:N8 α)(k:N8 α->β):β :=
 match n with
 | ⟨a0,a1,a2,a3,a4,a5,a6,a7⟩=>k ⟨a0,a1,a2,a3,a4,a5,a6,a7⟩
abbrev Fr:=N8 (N8 (N8 Value))
def Fr.get(fr:Fr)(t:Nat):Value:=(sel (t%8)).get ((sel (t / 8%8)).get ((sel (t / 64%8)).get fr))
def vS{β:Type}(a b c:Sel)(v:Value)(fr:Fr)(k:Fr->β):β :=
 c.upd (b.get (a.get fr)) v fun d=>b.upd (a.get fr) d fun e=>a.upd fr e k
def Fr.set(fr:Fr)(t:Nat)(v:Value):Fr:=vS (sel (t / 64%8)) (sel (t / 8%8)) (sel (t%8)) v fr fun fr=>fr
def fr0:Fr:=pE (pE (pE (.tuple #[])))
abbrev Hp(α:Type):=N8 (N8 (N8 (N8 (N8 (N8 (Option α))))))
def Hp.get{α:Type}(h:Hp α)(n:Nat):Option α :=
 (sel (n%8)).get ((sel (n / 8%8)).get ((sel (n / 64%8)).get ((sel (n / 512%8)).get ((sel (n / 4096%8)).get ((sel (n / 32768%8)).get h)))))
def X8{α β:Type}(a b c d e f:Sel)(v:Option α)(h:Hp α)(k:Hp α->β):β :=
 f.upd (e.get (d.get (c.get (b.get (a.get h))))) v fun l=>e.upd (d.get (c.get (b.get (a.get h)))) l fun m=>d.upd (c.get (b.get (a.get h))) m fun i=>c.upd (b.get (a.get h)) i fun j=>b.upd (a.get h) j fun g=>a.upd h g k
def Hp.put{α β:Type}(h:Hp α)(n:Nat)(v:Option α)(k:Hp α->β):β :=
 X8 (sel (n / 32768%8)) (sel (n / 4096%8)) (sel (n / 512%8)) (sel (n / 64%8)) (sel (n / 8%8)) (sel (n%8)) v h k
def Hp.set{α:Type}(h:Hp α)(n:Nat)(v:Option α):Hp α:=h.put n v fun h=>h
def hp0{α:Type}:Hp α:=pE (pE (pE (pE (pE (pE none)))))
def H7:Nat:=262143
def J8{β:Type}(n:Nat)(k:Nat->β):β :=
 match n with
 | 0=>k 0
 | m+1=>k (Nat.succ m)
def zB{β:Type}(i:Int)(k:Int->β):β :=
 match i with
 | .ofNat n=>J8 n fun n=>k (.ofNat n)
 | .negSucc n=>J8 n fun n=>k (.negSucc n)
def Q9{α β:Type}:List α->(List α->β)->β
 | [],k=>k []
 | x::r,k=>Q9 r fun r=>k (x::r)
def MV:IntKind->Nat
 | .i8=>127|.i16=>32767|.i32=>2147483647|.i64=>9223372036854775807
 | .u8=>255|.u16=>65535|.u32=>4294967295|.u64=>18446744073709551615
def BK(k:IntKind)(n:Int):Int :=
 match n with
 | .ofNat m=>bif Nat.ble m (MV k)then .ofNat m else k.wrap (.ofNat m)
 | .negSucc m=>k.wrap (.negSucc m)
def B0Y(a b:Int):Int :=
 match a,b with
 | .ofNat m,.ofNat n=>.ofNat (Nat.add m n)
 | a,b=>a+b
def A65(a b:Int):Int :=
 match a,b with
 | .ofNat m,.ofNat n=>bif Nat.ble n m then .ofNat (Nat.sub m n)else .ofNat m - .ofNat n
 | a,b=>a-b
def A9E(a b:Int):Int :=
 match a,b with
 | .ofNat m,.ofNat n=>.ofNat (Nat.mul m n)
 | a,b=>a*b
def ltF(a b:Int):Bool :=
 match a,b with
 | .ofNat m,.ofNat n=>Nat.blt m n
 | .negSucc _,.ofNat _=>true
 | .ofNat _,.negSucc _=>false
 | .negSucc m,.negSucc n=>Nat.blt n m
def leF(a b:Int):Bool :=
 match a,b with
 | .ofNat m,.ofNat n=>Nat.ble m n
 | .negSucc _,.ofNat _=>true
 | .ofNat _,.negSucc _=>false
 | .negSucc m,.negSucc n=>Nat.ble n m
def BG(a b:Int):Bool :=
 match a,b with
 | .ofNat m,.ofNat n=>Nat.beq m n
 | .negSucc m,.negSucc n=>Nat.beq m n
 | _,_=>false
def uH:IntKind->IntKind->Bool
 | .i8,.i8|.i16,.i16|.i32,.i32|.i64,.i64|.u8,.u8|.u16,.u16|.u32,.u32|.u64,.u64=>true
 | _,_=>false
def mkI(k:IntKind)(n:Int):Value:=zB n fun n=>.int k n
inductive U where
 | none
 | int (k:IntKind) (n:Int)
 | bool (b:Bool)
 | str (s:List UInt8)
 | seq (nul:Bool) (w:Nat) (rows:List (List U))
inductive LOp where
 | bin (op:BinOp)
 | un (op:UnOp)
 | conv (k:IntKind)
 | len
 | idx
 | sub
 | sub1
 | sel
 | eqs
 | inb
 | max
 | min
 | mks
 | inbs (w:Nat)
 | get (w o:Nat)
 | mk (w:Nat)
 | nilw (w:Nat)
 | nilp
 | snoc (w:Nat)
 | cat (w:Nat)
 | cats
 | set (w o:Nat)
 | subs (w:Nat)
 | str
 | byt
 | rep (w:Nat)
 | ustr
 | mhas (w kw:Nat)
 | mget (w kw o:Nat)
 | mput (w kw:Nat)
 | rune
 | rpos
inductive n7 where
 | lt (i t:Nat) (op:LOp) (xs:List Value)
 | dt (i t:Nat) (op:LOp) (xs:List Value)
 | br (i:Nat) (b:Bool)
 | as (op:LOp) (xs:List Value)
 | con (spec:List U->Option (Nat×List U)) (xs:List Value) (i d n:Nat)
structure Lg where
 nx:Nat
 pi:H4
 log:List n7
def hole(i t:Nat):Value:=.complex .f64 i t
def junk:Value:=.complex .f32 0 0
def ixp(a:Addr)(s:Nat)(i:Value)(n:Nat):Value:=.func (.yield 1) ⟨[.pointer (some a),.int .i64 (.ofNat s),i,.int .i64 (.ofNat n)]⟩ ⟨[]⟩
def dat(b i t:Nat):Value:=.func (.yield 2) ⟨[.pointer (some ⟨b,0,none⟩),.complex .f64 i t]⟩ ⟨[]⟩
def clp(b i t:Nat):Value:=.func (.yield 3) ⟨[.pointer (some ⟨b,0,none⟩),.complex .f64 i t]⟩ ⟨[]⟩
def own(b i t:Nat):Value:=.func (.yield 4) ⟨[.pointer (some ⟨b,0,none⟩),.complex .f64 i t]⟩ ⟨[]⟩
def dpt(b i t:Nat)(z:Value)(o:Nat):Value:=.func (.yield 5) ⟨[.pointer (some ⟨b,0,none⟩),.complex .f64 i t,z,.int .i64 (.ofNat o)]⟩ ⟨[]⟩
def opt(b i t:Nat)(z:Value)(o:Nat):Value:=.func (.yield 6) ⟨[.pointer (some ⟨b,0,none⟩),.complex .f64 i t,z,.int .i64 (.ofNat o)]⟩ ⟨[]⟩
def yv(b:Nat):Value:=.func (.yield 7) ⟨[.pointer (some ⟨b,0,none⟩)]⟩ ⟨[]⟩
def sdt(b:Nat):Value:=.func (.yield 9) ⟨[.pointer (some ⟨b,0,none⟩)]⟩ ⟨[]⟩
def dv(ids:List Nat):Value:=.func (.yield 8) ⟨ids.map fun b=>.pointer (some ⟨b,0,none⟩)⟩ ⟨[]⟩
def A1F:Value->Bool
 | .complex .f32 _ _=>true
 | _=>false
def one:Value:=.complex .f32 1 0
def jD:Value->Bool
 | .complex .f32 i _=>!(Nat.beq i 1)
 | _=>false
def iD:IntKind->Nat
 | .i8=>0|.i16=>1|.i32=>2|.i64=>3|.u8=>4|.u16=>5|.u32=>6|.u64=>7
def G4:Value->Nat
 | .int k _=>iD k
 | .bool _=>8
 | .string _=>9
 | .complex .f64 _ t=>t
 | _=>99
inductive AB where
 | cells (cs:List Value) (T:TypeId) (ro:Bool)
 | sq (c t:Nat) (T:TypeId) (g:Nat) (ro:Bool)
 | frz
 | mp (c t:Nat) (T:TypeId)
 | iter (vs:List Value)
 | lp (f:FuncId) (q:List Bool) (vs:List Value) (st:Nat)
 | dfr (b:Bool)
structure Mem where
 H:Hp AB
 n:Nat
 W:H4
 hi:Nat
 lg:Lg
structure S where
 fr:Fr
 m:Mem
inductive Ex where
 | normal
 | exit (id:Nat)
 | ret
def G6:List Bool->Code->Option Code
 | [],c=>some c
 | false::q,.seq a _=>G6 q a
 | true::q,.seq _ b=>G6 q b
 | false::q,.cond _ a _=>G6 q a
 | true::q,.cond _ _ b=>G6 q b
 | false::q,.block _ c=>G6 q c
 | false::q,.scope c=>G6 q c
 | false::q,.loop c=>G6 q c
 | false::q,.rangeFunc _ _ a _=>G6 q a
 | true::q,.rangeFunc _ _ _ b=>G6 q b
 | _::_,_=>none
def M9:Nat:=9223372036854775808
def I4:Value->Bool
 | .bool _|.int _ _|.string _|.pointer none|.slice none _ _|.map none|.nilFunc|.nilIface=>true
 | _=>false
def QZ:Value->Bool
 | .agg cs=>cs.toList.all I4
 | v=>I4 v
def ev(fr:Fr):Operand->Value
 | .tmp t=>fr.get t
 | .const v=>v
 | .global g=>.pointer (some ⟨g,0,none⟩)
 | .func f=>.func (.func f) #[] #[]
def okX(nt gl:Nat):Operand->Bool
 | .tmp t=>Nat.blt t nt
 | .const v=>QZ v
 | .global g=>Nat.blt g gl
 | .func _=>true
def evL(fr:Fr):List Operand->D0
 | []=>[]
 | x::r=>ev fr x::evL fr r
def evP(fr:Fr):List (Nat×Operand)->List (Nat×Value)
 | []=>[]
 | (i,x)::r=>(i,ev fr x)::evP fr r
def evO(fr:Fr):Option Operand->Q3
 | none=>none
 | some x=>some (ev fr x)
structure XC where
 run:Fr->Value
def B2t(a b c:Sel):XC:=⟨fun fr=>c.get (b.get (a.get fr))⟩
def R9:Operand->XC
 | .tmp t=>B2t (sel (t / 64%8)) (sel (t / 8%8)) (sel (t%8))
 | .const v=>⟨fun _=>v⟩
 | .global g=>⟨fun _=>.pointer (some ⟨g,0,none⟩)⟩
 | .func f=>⟨fun _=>.func (.func f) #[] #[]⟩
def eG(x:Operand)(fr:Fr):(R9 x).run fr=ev fr x:=by cases x<;>rfl
structure LC where
 run:Fr->D0
def B0E(x:XC)(r:LC)(fr:Fr):D0:=x.run fr::r.run fr
def vE:List Operand->LC
 | []=>⟨fun _=>[]⟩
 | x::r=>⟨fun fr=>B0E (R9 x) (vE r) fr⟩
def nT(fr:Fr):∀ xs:List Operand,(vE xs).run fr=evL fr xs
 | []=>rfl
 | x::r=>by
   show(R9 x).run fr::(vE r).run fr=_;rw[eG,nT fr r];rfl
abbrev Res:=Option (Value×Mem)
def upN(hi n:Nat):Nat:=bif Nat.blt n hi then hi else Nat.succ n
def Mem.wLg(m:Mem)(lg:Lg):Mem :=
 match m with
 | ⟨H,n,W,hi,_⟩=>⟨H,n,W,hi,lg⟩
def T9(m:Mem)(t:Nat)(op:LOp)(xs:List Value):Res :=
 match m with
 | ⟨H,n,W,hi,⟨nx,pi,log⟩⟩=>J8 nx fun nx=>J8 t fun t=>Q9 xs fun xs=>some (hole nx t,⟨H,n,W,hi,⟨Nat.succ nx,pi,.lt nx t op xs::log⟩⟩)
def vT(m:Mem)(t:Nat)(op:LOp)(xs:List Value)(k:Nat->Mem->Res):Res :=
 match m with
 | ⟨H,n,W,hi,⟨nx,pi,log⟩⟩=>J8 nx fun nx=>J8 t fun t=>Q9 xs fun xs=>k nx ⟨H,n,W,hi,⟨Nat.succ nx,pi,.dt nx t op xs::log⟩⟩
def zF:List n7->Nat->Option Bool
 | [],_=>none
 | .br j b::r,i=>bif Nat.beq j i then some b else zF r i
 | _::r,i=>zF r i
def brL(lg:Lg)(c:Value):Option (Bool×Lg) :=
 match c with
 | .bool b=>some (b,lg)
 | .complex .f64 i 8=>match lg with
   | ⟨nx,pi,log⟩=>match zF log i with
     | some b=>some (b,⟨nx,pi,log⟩)
     | none=>match pi with
       | 1::r=>some (true,⟨nx,r,.br i true::log⟩)
       | 0::r=>some (false,⟨nx,r,.br i false::log⟩)
       | _=>none
 | _=>none
def Z4(m:Mem)(ab:AB)(k:Nat->Value):Res :=
 match m with
 | ⟨H,n,W,hi,lg⟩=>bif Nat.ble n H7 then J8 n fun n=>J8 (upN hi n) fun hi=>Hp.put H n (some ab) fun H=>some (k n,⟨H,Nat.succ n,W,hi,lg⟩)else none
def cK(m:Mem)(id:Nat)(ab:AB):Option Mem :=
 match m with
 | ⟨H,n,W,hi,lg⟩=>bif Nat.ble id H7 then Hp.put H id (some ab) fun H=>J8 id fun id=>some ⟨H,n,id::W,hi,lg⟩else none
def jZ(m:Mem)(id:Nat):Mem :=
 match m with
 | ⟨H,n,W,hi,lg⟩=>Hp.put H id none fun H=>J8 id fun id=>⟨H,n,id::W,hi,lg⟩
def A1q(cs:List Value)(o n:Nat):Option D0 :=
 let r:=(cs.drop o).take n
 bif Nat.beq r.length n then some r else none
def t8(m:Mem)(a:Addr)(n:Nat):Option D0 :=
 match a.spot,Hp.get m.H a.block with
 | none,some (.cells cs _ _)=>A1q cs a.off n
 | _,_=>none
def cM:D0->Nat->D0->D0
 | cs,_,[]=>cs
 | cs,k,v::r=>cM (cs.set k v) (k+1) r
def flat:Value->Bool
 | .agg _|.tuple _=>false
 | .complex .f32 i _=>Nat.beq i 1
 | _=>true
def oJ(m:Mem)(a:Addr)(vs:List Value):Option Mem :=
 match a.spot,Hp.get m.H a.block with
 | none,some (.cells cs T false) =>
   bif Nat.ble (a.off+vs.length) cs.length && vs.all flat then Q9 (cM cs a.off vs) fun cs=>cK m a.block (.cells cs T false)else none
 | _,_=>none
variable (P:Program)
def aR(t:TypeId):Option Bool :=
 match P.underlying t with
 | some (.struct _)|some (.array _ _)=>some true
 | some _=>some false
 | none=>none
def H1(t:TypeId):Option Nat :=
 match P.info? t with
 | some i=>some i.size
 | none=>none
def fQ(t:TypeId):Q3 :=
 match P.info? t with
 | some i=>match i.zero with
   | some v=>bif QZ v then some v else none
   | none=>none
 | none=>none
def RQ(m:Mem)(t:TypeId)(a:Addr):Q3 :=
 match aR P t with
 | some true=>match H1 P t with
   | some n=>match t8 m a n with
     | some cs=>some (.agg ⟨cs⟩)
     | none=>none
   | none=>none
 | some false=>match t8 m a 1 with
   | some (v::_)=>some v
   | _=>none
 | none=>none
def xB(m:Mem)(t:TypeId)(a:Addr)(v:Value):Option Mem :=
 match H1 P t with
 | some n=>bif Nat.beq v.cells.size n && !(jD v)then oJ m a v.cells.toList else none
 | none=>none
def rE(t:TypeId)(cs:List Value)(off:Nat):Q3 :=
 match aR P t with
 | some true=>match H1 P t with
   | some n=>match A1q cs off n with
     | some r=>some (.agg ⟨r⟩)
     | none=>none
   | none=>none
 | some false=>cs[off]?
 | none=>none
def A4I(e:TypeId)(s i:Nat):Field:={ name := "x",type:=e,offset:=i*s,embedded:=false,tag := "",pkgPath := "",byteOffset:=0 }
mutual
def eqM:Nat->TypeId->Value->Value->Option Bool
 | 0,_,_,_=>none
 | d+1,t,x,y=>match P.underlying t,x,y with
   | some .bool,.bool a,.bool b=>some (a == b)
   | some (.int _),.int k a,.int j b=>bif decide (k=j)then some (a == b)else none
   | some .string,.string a,.string b=>some (a.data.toList == b.data.toList)
   | some (.pointer _),.pointer none,.pointer b=>some b.isNone
   | some (.pointer _),.pointer (some _),.pointer none=>some false
   | some (.interface _),.nilIface,.nilIface=>some true
   | some (.interface _),.nilIface,.iface _ _=>some false
   | some (.interface _),.iface _ _,.nilIface=>some false
   | some (.interface _),.iface tx vx,.iface ty vy=>bif Nat.beq tx ty then(match P.info? tx with
     | some i=>bif i.comparable then eqM d tx vx vy else none
     | none=>none)else some false
   | some (.slice _),.slice none _ _,.slice b _ _=>some b.isNone
   | some (.slice _),.slice (some _) _ _,.slice none _ _=>some false
   | some (.map _ _),.map none,.map b=>some b.isNone
   | some (.func _ _ _),.nilFunc,.nilFunc=>some true
   | some (.func _ _ _),.nilFunc,.func (.func _) _ _=>some false
   | some (.func _ _ _),.func (.func _) _ _,.nilFunc=>some false
   | some (.struct fs),.agg xs,.agg ys=>bif P.stoodInHeld t then none else eqF d fs.toList xs.toList ys.toList
   | some (.array n e),.agg xs,.agg ys=>match H1 P e with
     | some s=>eqF d ((List.range n).map (A4I e s)) xs.toList ys.toList
     | none=>none
   | _,_,_=>none
def eqF:Nat->List Field->D0->D0->Option Bool
 | 0,_,_,_=>none
 | _+1,[],_,_=>some true
 | d+1,f::fs,xs,ys =>
   bif f.name == "_" then none else
   match rE P f.type xs f.offset,rE P f.type ys f.offset with
   | some x,some y=>match eqM d f.type x y with
     | some true=>eqF d fs xs ys
     | some false=>some false
     | none=>none
   | _,_=>none
end
def isC:Operand->Bool
 | .const _=>true
 | _=>false
def lZ(t:TypeId)(x y:Operand)(a b:Value):Bool :=
 match a,b with
 | .nilIface,.nilIface=>isC x || isC y
 | .agg _,.agg _=>!P.eqGuardType P.depth t
 | a,b=>!(A1F a) && !(A1F b)
def AF(op:BinOp)(k:IntKind)(x y:Int):Q3 :=
 match op with
 | .and=>some (.int k (k.wrap (BitVec.ofInt k.bits x &&& BitVec.ofInt k.bits y).toNat))
 | .or=>some (.int k (k.wrap (BitVec.ofInt k.bits x ||| BitVec.ofInt k.bits y).toNat))
 | .xor=>some (.int k (k.wrap (BitVec.ofInt k.bits x ^^^ BitVec.ofInt k.bits y).toNat))
 | .andNot=>some (.int k (k.wrap (BitVec.ofInt k.bits x &&& ~~~BitVec.ofInt k.bits y).toNat))
 | _=>none
def ltL:List UInt8->List UInt8->Bool
 | _,[]=>false
 | [],_::_=>true
 | a::x,b::y=>a<b || (a == b && ltL x y)
def kP(op:BinOp)(k:IntKind)(a b:Int):Q3 :=
 match op with
 | .add=>some (mkI k (BK k (B0Y a b)))
 | .sub=>some (mkI k (BK k (A65 a b)))
 | .mul=>some (mkI k (BK k (A9E a b)))
 | .quo=>bif BG b 0 then none else some (mkI k (k.wrap (a.tdiv b)))
 | .rem=>bif BG b 0 then none else some (mkI k (a.tmod b))
 | .eql=>some (.bool (BG a b))
 | .neq=>some (.bool (!(BG a b)))
 | .lss=>some (.bool (ltF a b))
 | .leq=>some (.bool (leF a b))
 | .gtr=>some (.bool (ltF b a))
 | .geq=>some (.bool (leF b a))
 | op=>AF op k a b
def NL(left:Bool)(k:IntKind)(a:Int)(b:Nat):Value :=
 bif left then mkI k (k.wrap (a*2 ^ (min b k.bits)))else mkI k (a.fdiv (2 ^ (min b k.bits)))
def A2k(op:BinOp)(a b:ByteArray):Q3 :=
 match op with
 | .add=>bif Nat.ble (a.size+b.size) 1000000000 then Q9 (a.data.toList++b.data.toList) fun l=>some (.string ⟨⟨l⟩⟩)else none
 | .eql=>some (.bool (a.data.toList == b.data.toList))
 | .neq=>some (.bool (!(a.data.toList == b.data.toList)))
 | .lss=>some (.bool (ltL a.data.toList b.data.toList))
 | .leq=>some (.bool (ltL a.data.toList b.data.toList || (a.data.toList == b.data.toList)))
 | .gtr=>some (.bool (!(ltL a.data.toList b.data.toList || (a.data.toList == b.data.toList))))
 | .geq=>some (.bool (!(ltL a.data.toList b.data.toList)))
 | _=>none
def CD(op:BinOp)(t:TypeId)(x y:Value):Q3 :=
 match op with
 | .eql=>match eqM P 20 t x y with
   | some b=>some (.bool b)
   | none=>none
 | .neq=>match eqM P 20 t x y with
   | some b=>some (.bool (!b))
   | none=>none
 | _=>none
def iE:BinOp->Option Bool
 | .shl=>some true
 | .shr=>some false
 | _=>none
def aT(op:BinOp)(k j:IntKind)(a b:Int):Q3 :=
 match iE op with
 | some l=>match b with
   | .ofNat n=>some (NL l k a n)
   | .negSucc _=>none
 | none=>bif uH k j then kP op k a b else none
def sO(op:BinOp)(t:TypeId)(x y:Value):Q3 :=
 match x,y with
 | .int k a,.int j b=>aT op k j a b
 | .string a,.string b=>A2k op a b
 | x,y=>CD P op t x y
def unM(op:UnOp)(x:Value):Q3 :=
 match op,x with
 | .neg,.int k n=>some (mkI k (k.wrap (0-n)))
 | .xor,.int k n=>AF .xor k (if k.signed then -1 else k.max) n
 | .not,.bool b=>some (.bool !b)
 | _,_=>none
def bytesOf:D0->Option (List UInt8)
 | []=>some []
 | .int .u8 n::r=>match bytesOf r with
   | some l=>some (UInt8.ofNat n.toNat::l)
   | none=>none
 | _::_=>none
def P2(l:List UInt8):D0:=l.map fun b=>.int .u8 b.toNat
def DK(m:Mem)(s t:TypeId)(x:Value):Res :=
 match P.underlying s,P.underlying t,x with
 | some _,some (.int k),.int _ n=>some (mkI k (BK k n),m)
 | some _,some .string,.string b=>some (.string b,m)
 | some _,some .string,.int _ n=>some (.string (Utf8.encode n),m)
 | some _,some (.slice e),.string b=>match P.underlying e with
   | some (.int .u8)=>match H1 P e with
     | some 1=>Q9 (P2 b.data.toList) fun cs=>Z4 m (.cells cs e false) fun i=>.slice (some ⟨i,0,none⟩) b.size M9
     | _=>none
   | _=>none
 | some (.slice e),some .string,.slice none _ _=>match P.underlying e with
   | some (.int .u8)=>some (.string ByteArray.empty,m)
   | _=>none
 | some (.slice e),some .string,.slice (some a) n _=>match P.underlying e with
   | some (.int .u8)=>match t8 m a n with
     | some cs=>match bytesOf cs with
       | some l=>some (.string ⟨⟨l⟩⟩,m)
       | none=>none
     | none=>none
   | _=>none
 | _,_,_=>none
def zG(place:Nat->Option (Nat×Nat))(cells:List Value):List (Nat×Value)->Option D0
 | []=>some cells
 | (i,v)::rest=>match place i with
   | none=>none
   | some (off,size) =>
     bif (Nat.beq v.cells.size size && !(jD v)) && Nat.ble (off+v.cells.size) cells.length then Q9 (cM cells off v.cells.toList) fun cs=>zG place cs rest else none
def qZ:List Field->Option (List (Nat×Nat))
 | []=>some []
 | f::r=>match H1 P f.type,qZ r with
   | some n,some l=>some ((f.offset,n)::l)
   | _,_=>none
def IY(z:List Value):Nat->D0
 | 0=>[]
 | n+1=>z++IY z n
def EG(e:TypeId)(n:Nat):Option D0 :=
 match H1 P e with
 | some s=>bif Nat.beq (n*s) 0 then some []else match fQ P e with
   | some z=>bif Nat.beq z.cells.size s then some (IY z.cells.toList n)else none
   | none=>none
 | none=>none
def PG(t:TypeId)(parts:List (Nat×Value)):Q3 :=
 match fQ P t,P.underlying t with
 | some z,some (.struct fs)=>match qZ P fs.toList with
   | some ps=>match zG (ps[·]?) z.cells.toList parts with
     | some cs=>some (.agg ⟨cs⟩)
     | none=>none
   | none=>none
 | some z,some (.array _ e)=>match H1 P e with
   | some s=>match zG (fun i=>some (i*s,s)) z.cells.toList parts with
     | some cs=>some (.agg ⟨cs⟩)
     | none=>none
   | none=>none
 | _,_=>none
def cW(m:Mem)(t:TypeId)(n:Nat)(parts:List (Nat×Value)):Res :=
 match P.underlying t with
 | some (.slice e)=>match H1 P e,EG P e n with
   | some s,some zs=>bif Nat.ble (n*s) 16777216 && Nat.blt n M9 then match zG (fun i=>some (i*s,s)) zs parts with
     | some cs=>Z4 m (.cells cs e false) fun i=>.slice (some ⟨i,0,none⟩) n n
     | none=>none else none
   | _,_=>none
 | _=>none
def eS(m:Mem)(t:TypeId)(l c:Value):Res :=
 match P.underlying t,l,c with
 | some (.slice e),.int _ (.ofNat l),.int _ (.ofNat c)=>match P.info? e with
   | some i=>bif Nat.ble l c && Nat.ble c 10000000 && Nat.ble (c*i.bytes) 100000000 then match EG P e c with
     | some a=>Q9 a fun a=>Z4 m (.cells a e false) fun k=>.slice (some ⟨k,0,none⟩) l c
     | none=>none else none
   | none=>none
 | _,_,_=>none
def bP(a:Addr)(n:Nat):Addr:=J8 (a.off+n) fun o=>⟨a.block,o,none⟩
def cT(s:TypeId)(x:Value)(i:Nat):Q3 :=
 match P.underlying s,x with
 | some (.struct fs),.pointer (some a)=>match fs.toList[i]?,a.spot with
   | some f,none=>match H1 P f.type with
     | some (_+1)=>some (.pointer (some (bP a f.offset)))
     | _=>none
   | _,_=>none
 | _,_=>none
def GJ(t:TypeId)(x:Value)(i:Nat):Q3 :=
 match P.underlying t,x with
 | some (.struct fs),.agg cs=>match fs.toList[i]? with
   | some f=>rE P f.type cs.toList f.offset
   | none=>none
 | _,_=>none
def X7(t:TypeId)(x i:Value):Q3 :=
 match P.underlying t,x,i with
 | some (.array n e),.pointer (some a),.int _ (.ofNat k)=>match H1 P e,a.spot with
   | some s,none=>bif Nat.blt k n then some (.pointer (some (bP a (k*s))))else none
   | _,_=>none
 | some (.slice e),.slice (some a) n _,.int _ (.ofNat k)=>match H1 P e,a.spot with
   | some s,none=>bif Nat.blt k n then some (.pointer (some (bP a (k*s))))else none
   | _,_=>none
 | _,_,_=>none
def lX(t:TypeId)(x i:Value):Q3 :=
 match P.underlying t,x,i with
 | some (.array n e),.agg cs,.int _ (.ofNat k)=>match H1 P e with
   | some s=>bif Nat.blt k n then rE P e cs.toList (k*s)else none
   | none=>none
 | some .string,.string s,.int _ (.ofNat k)=>match s.data.toList[k]? with
   | some b=>some (.int .u8 b.toNat)
   | none=>none
 | _,_,_=>none
def U0(v:Option Value)(H7 a:Nat):Option Nat :=
 match v with
 | none=>some a
 | some (.int _ (.ofNat k))=>bif Nat.ble k H7 then some k else none
 | some _=>none
def dD(t:TypeId)(x:Value)(b hi mx:Option Value):Q3 :=
 match P.underlying t,x with
 | some .string,.string s =>
   match mx,U0 hi s.size s.size with
   | none,some h=>match U0 b h 0 with
     | some l=>some (.string ⟨⟨(s.data.toList.drop l).take (h-l)⟩⟩)
     | none=>none
   | _,_=>none
 | some (.slice e),.slice none n c =>
   match n,c,U0 mx 0 0,U0 hi 0 0,U0 b 0 0 with
   | 0,0,some _,some _,some _=>bif (mx.isSome && hi.isNone) || (H1 P e).isNone then none else some (.slice none 0 0)
   | _,_,_,_,_=>none
 | some (.slice e),.slice (some a) n c =>
   match H1 P e,a.spot with
   | some s,none =>
     bif Nat.blt c M9 then
      match U0 mx c c with
      | some m=>match (match hi,mx with|none,some _=>none|hi,_=>U0 hi m n)with
        | some h=>match U0 b h 0 with
          | some l=>some (.slice (some (bif Nat.beq m l then a else bP a (l*s))) (h-l) (m-l))
          | none=>none
        | none=>none
      | none=>none
     else
      match mx with
      | some _=>match hi,U0 mx n n with
        | some _,some m=>bif Nat.blt m M9 && Nat.ble c (M9+1)then match U0 hi m n with
          | some h=>match U0 b h 0 with
            | some l=>some (.slice (some (bif Nat.beq m l then a else bP a (l*s))) (h-l) (m-l))
            | none=>none
          | none=>none else none
        | _,_=>none
      | none=>match U0 hi n n with
        | some h=>match U0 b h 0 with
          | some 0=>some (.slice (some a) h c)
          | some (l+1)=>let l:=l+1
            bif Nat.blt l n then some (.slice (some (bP a (l*s))) (h-l) (M9+1))else some (.slice (some a) 0 (M9+2))
          | none=>none
        | none=>none
   | _,_=>none
 | some (.array n e),.pointer (some a) =>
   match H1 P e,a.spot,mx with
   | some s,none,none=>match U0 hi n n with
     | some h=>match U0 b h 0 with
       | some l=>bif Nat.blt n M9 then some (.slice (some (bif Nat.beq n l then a else bP a (l*s))) (h-l) (n-l))else none
       | none=>none
     | none=>none
   | _,_,_=>none
 | _,_=>none
def eR(m:Mem)(s:Nat)(y:Value):Option (Nat×List Value) :=
 match y with
 | .slice none n _=>bif Nat.beq n 0 then some (0,[])else none
 | .slice (some a) n _=>match t8 m a (n*s)with
   | some cs=>some (n,cs)
   | none=>none
 | .string b=>bif Nat.beq s 1 then some (b.size,P2 b.data.toList)else none
 | _=>none
def dE:TypeDesc->Bool
 | .slice _|.string=>true
 | _=>false
def sQ(m:Mem)(t t2:TypeId)(x y:Value):Res :=
 match P.underlying t,P.underlying t2 with
 | some (.slice e),some d2 =>
   bif !(dE d2)then none else
   match P.info? e,x with
   | some i,.slice a n c=>match eR m i.size y,fQ P e with
     | some (k,new),some z =>
       bif Nat.ble ((3*(n+k)+4000)*i.bytes) 281474976710656 && Nat.ble (n+k) 1000000000 && Nat.beq z.cells.size i.size && new.all flat then
       bif Nat.beq k 0 then(match a with|none=>bif Nat.beq n 0 && Nat.beq c 0 then some (x,m)else none|some _=>bif Nat.ble c (M9+1) && Nat.ble n c then some (x,m)else none)else
       match a with
       | none=>bif Nat.beq n 0 && Nat.beq c 0 then Q9 new fun cs=>Z4 m (.cells cs e false) fun b=>.slice (some ⟨b,0,none⟩) k M9 else none
       | some d =>
         bif Nat.blt c M9 then
          bif Nat.ble (n+k) c then
           match d.spot,oJ m (bP d (n*i.size)) new with
           | none,some m'=>some (.slice a (n+k) c,m')
           | _,_=>none
          else match t8 m d (n*i.size)with
           | some old=>Q9 (old++new) fun cs=>Z4 m (.cells cs e false) fun b=>.slice (some ⟨b,0,none⟩) (n+k) M9
           | none=>none
         else bif Nat.beq c M9 && Nat.beq d.off 0 then
          match d.spot,Hp.get m.H d.block with
          | none,some (.cells cs T false) =>
            bif Nat.beq cs.length (n*i.size) && Nat.beq T e && Nat.ble d.block H7 && Nat.blt d.block m.n then
             Q9 (cs++new) fun cs=>Z4 (jZ m d.block) (.cells cs e false) fun b=>.slice (some ⟨b,0,none⟩) (n+k) M9
            else none
          | _,_=>none
         else none
       else none
     | _,_=>none
   | _,_=>none
 | _,_=>none
def LO(m:Mem)(t:TypeId)(x y:Value):Res :=
 match P.underlying t,x with
 | some (.slice e),.slice a n c=>match H1 P e with
   | some s =>
     match (match y with
      | .slice none k _=>bif Nat.beq k 0 then some (0,[])else none
      | .slice (some b) k _=>match t8 m b (Nat.min k n*s)with
        | some cs=>some (Nat.min k n,cs)
        | none=>none
      | .string b=>some (Nat.min b.size n,P2 (b.data.toList.take (Nat.min b.size n)))
      | _=>none:Option (Nat×List Value))with
     | some (k,cs)=>match a with
       | none=>bif Nat.beq k 0 then some (.int .i64 0,m)else none
       | some d=>bif Nat.beq cs.length 0 then some (.int .i64 k,m)else bif Nat.ble c (M9+1)then match oJ m d cs with
         | some m'=>some (.int .i64 k,m')
         | none=>none else none
     | none=>none
   | none=>none
 | _,_=>none
def A0T(m:Mem)(t:TypeId)(x:Value):Q3 :=
 match P.underlying t,x with
 | some .string,.string s=>some (.int .i64 s.data.toList.length)
 | some (.array n _),_=>some (.int .i64 n)
 | some (.slice _),.slice _ n _=>some (.int .i64 n)
 | some (.map _ _),.map none=>some (.int .i64 0)
 | _,_=>none
def A8S(t:TypeId)(x:Value):Q3 :=
 match P.underlying t,x with
 | some (.slice _),.slice none _ c=>some (.int .i64 c)
 | some (.slice _),.slice (some a) n c=>bif Nat.blt c M9 then some (.int .i64 c)else none
 | _,_=>none
def A7d:D0->Q3
 | [.int k a,.int _ b]=>some (.int k (if b>a then b else a))
 | [.int k a,.int _ b,.int _ c]=>zB (if b>a then b else a) fun d=>some (.int k (if c>d then c else d))
 | _=>none
def A7c:D0->Q3
 | [.int k a,.int _ b]=>some (.int k (if b<a then b else a))
 | [.int k a,.int _ b,.int _ c]=>zB (if b<a then b else a) fun d=>some (.int k (if c<d then c else d))
 | _=>none
def noM(v:Option Value)(m:Mem):Res :=
 match v with
 | some v=>some (v,m)
 | none=>none
def OD(m:Option Mem):Res :=
 match m with
 | some m=>some (undef,m)
 | none=>none
def RE(m:Mem)(c a b:Value):Res :=
 match c with
 | .bool true=>some (a,m)
 | .bool false=>some (b,m)
 | _=>none
def FI(m:Mem)(e:TypeId):Res :=
 match fQ P e with
 | some z=>Z4 m (.cells z.cells.toList e false) fun b=>.pointer (some ⟨b,0,none⟩)
 | none=>none
def ZZ(m:Mem)(e:TypeId)(v:Value):Res :=
 bif v.cells.toList.all flat then Z4 m (.cells v.cells.toList e false) fun b=>.pointer (some ⟨b,0,none⟩)else none
def RF(m:Mem)(t:TypeId)(v:Value):Res :=
 match v with
 | .pointer (some a)=>noM (RQ P m t a) m
 | _=>none
def FG(m:Mem)(t:TypeId)(x v:Value):Res :=
 match x with
 | .pointer (some a)=>OD (xB P m t a v)
 | _=>none
def ZY(m:Mem)(x:Value):Res :=
 match x with
 | .pointer (some a)=>some (.pointer (some a),m)
 | .func (.func f) a b=>some (.func (.func f) a b,m)
 | _=>none
def yY:BinOp->Bool
 | .eql|.neq=>true
 | _=>false
def A29(m:Mem)(op:BinOp)(t:TypeId)(x y:Operand)(a b:Value):Res :=
 bif yY op then(bif lZ P t x y a b then noM (sO P op t a b) m else none)else noM (sO P op t a b) m
def FH(m:Mem)(t:TypeId)(v:Value):Res :=
 match P.underlying t with
 | some d=>(match d with|.interface _=>none|_=>bif flat v || (match v with|.agg _=>true|_=>false)then some (.iface t v,m)else none)
 | none=>none
def lL(m:Mem)(v:Value)(i:Nat):Res :=
 match v with
 | .tuple vs=>noM vs.toList[i]? m
 | _=>none
def iS(m:Mem)(x:Value):Res :=
 match x with
 | .slice none _ _=>some (.pointer none,m)
 | .slice (some a) n c=>bif Nat.beq n 0 || Nat.beq c 0 || Nat.beq c (M9+2)then none else some (.pointer (some a),m)
 | _=>none
def eJ(m:Mem)(b:TypeId)(p l:Value):Res :=
 match p,l with
 | .pointer none,.int _ (.ofNat 0)=>some (.string ByteArray.empty,m)
 | .pointer (some a),.int _ (.ofNat n) =>
   match a.spot,Hp.get m.H a.block with
   | none,some (.cells cs T false)=>match P.underlying b,H1 P T with
     | some (.pointer e),some 1=>bif Nat.blt 0 n && Nat.ble n 1000000000 && Nat.beq e T then match A1q cs a.off n with
       | some l=>match bytesOf l,cK m a.block (.cells cs T true)with
         | some l,some m'=>some (.string ⟨⟨l⟩⟩,m')
         | _,_=>none
       | none=>none else none
     | _,_=>none
   | _,_=>none
 | _,_=>none
def iJ(m:Mem)(b:Builtin)(vs:List Value)(tys:List TypeId):Res :=
 match b,vs,tys with
 | .len,[x],t::_=>noM (A0T P m t x) m
 | .cap,[x],t::_=>noM (A8S P t x) m
 | .append,[x,y],t::t2::_=>sQ P m t t2 x y
 | .copy,[x,y],t::_=>LO P m t x y
 | .max,vs,_=>noM (A7d vs) m
 | .min,vs,_=>noM (A7c vs) m
 | .unsafeSliceData,[x],_=>iS m x
 | .unsafeString,[p,l],t::_=>eJ P m t p l
 | _,_,_=>none
def opM(fr:Fr)(m:Mem)(o:Op):Res :=
 match o with
 | .move x|.assign x=>some (ev fr x,m)
 | .pick c a b=>RE m (ev fr c) (ev fr a) (ev fr b)
 | .alloc e=>FI P m e
 | .box e x=>ZZ m e (ev fr x)
 | .build t ps=>noM (PG P t (evP fr ps.toList)) m
 | .buildSlice t n ps=>cW P m t n (evP fr ps.toList)
 | .load t x=>RF P m t (ev fr x)
 | .store t x y=>FG P m t (ev fr x) (ev fr y)
 | .nilCheck x=>ZY m (ev fr x)
 | .binOp op t x y _=>A29 P m op t x y (ev fr x) (ev fr y)
 | .unOp op _ x=>noM (unM op (ev fr x)) m
 | .convert s t x=>DK P m s t (ev fr x)
 | .makeInterface t x=>FH P m t (ev fr x)
 | .makeFunc (.func f) first cap=>some (.func (.func f) ⟨evL fr first.toList⟩ ⟨evL fr cap.toList⟩,m)
 | .makeSlice t l c=>eS P m t (ev fr l) (ev fr c)
 | .slice t x d hi mx=>noM (dD P t (ev fr x) (evO fr d) (evO fr hi) (evO fr mx)) m
 | .fieldAddr s x i=>noM (cT P s (ev fr x) i) m
 | .field t x i=>noM (GJ P t (ev fr x) i) m
 | .indexAddr t x i=>noM (X7 P t (ev fr x) (ev fr i)) m
 | .index t x i=>noM (lX P t (ev fr x) (ev fr i)) m
 | .extract x i=>lL m (ev fr x) i
 | .call ⟨.builtin b,xs,tys⟩=>iJ P m b (evL fr xs.toList) tys.toList
 | _=>none
structure OpC where
 run:Fr->Mem->Res
def A0x(x:XC)(fr:Fr)(m:Mem):Res:=some (x.run fr,m)
def A5t(c a b:XC)(fr:Fr)(m:Mem):Res:=RE m (c.run fr) (a.run fr) (b.run fr)
def A9c(e:TypeId)(x:XC)(fr:Fr)(m:Mem):Res:=ZZ m e (x.run fr)
def A5u(t:TypeId)(x:XC)(fr:Fr)(m:Mem):Res:=RF P m t (x.run fr)
def A0v(t:TypeId)(x y:XC)(fr:Fr)(m:Mem):Res:=FG P m t (x.run fr) (y.run fr)
def A9Z(x:XC)(fr:Fr)(m:Mem):Res:=ZY m (x.run fr)
def A9d(op:BinOp)(t:TypeId)(x y:Operand)(cx a:XC)(fr:Fr)(m:Mem):Res:=A29 P m op t x y (cx.run fr) (a.run fr)
def kUn(op:UnOp)(x:XC)(fr:Fr)(m:Mem):Res:=noM (unM op (x.run fr)) m
def A5v(s t:TypeId)(x:XC)(fr:Fr)(m:Mem):Res:=DK P m s t (x.run fr)
def yT(s:TypeId)(x:XC)(i:Nat)(fr:Fr)(m:Mem):Res:=noM (cT P s (x.run fr) i) m
def A0z(s:TypeId)(x:XC)(i:Nat)(fr:Fr)(m:Mem):Res:=noM (GJ P s (x.run fr) i) m
def yS(t:TypeId)(x i:XC)(fr:Fr)(m:Mem):Res:=noM (X7 P t (x.run fr) (i.run fr)) m
def A0y(t:TypeId)(x i:XC)(fr:Fr)(m:Mem):Res:=noM (lX P t (x.run fr) (i.run fr)) m
def KI(x:XC)(i:Nat)(fr:Fr)(m:Mem):Res:=lL m (x.run fr) i
def KJ(b:Builtin)(xs:LC)(tys:List TypeId)(fr:Fr)(m:Mem):Res:=iJ P m b (xs.run fr) tys
def zS(o:Op):OpC :=
 match o with
 | .move x=>⟨A0x (R9 x)⟩
 | .assign x=>⟨A0x (R9 x)⟩
 | .pick c a b=>⟨A5t (R9 c) (R9 a) (R9 b)⟩
 | .box e x=>⟨A9c e (R9 x)⟩
 | .load t x=>⟨A5u P t (R9 x)⟩
 | .store t x y=>⟨A0v P t (R9 x) (R9 y)⟩
 | .nilCheck x=>⟨A9Z (R9 x)⟩
 | .binOp op t x y _=>⟨A9d P op t x y (R9 x) (R9 y)⟩
 | .unOp op _ x=>⟨kUn op (R9 x)⟩
 | .convert s t x=>⟨A5v P s t (R9 x)⟩
 | .fieldAddr s x i=>⟨yT P s (R9 x) i⟩
 | .field t x i=>⟨A0z P t (R9 x) i⟩
 | .indexAddr t x i=>⟨yS P t (R9 x) (R9 i)⟩
 | .index t x i=>⟨A0y P t (R9 x) (R9 i)⟩
 | .extract x i=>⟨KI (R9 x) i⟩
 | .call ⟨.builtin b,xs,tys⟩=>⟨KJ P b (vE xs.toList) tys.toList⟩
 | o=>⟨fun fr m=>opM P fr m o⟩
def zR(o:Op)(fr:Fr)(m:Mem):(zS P o).run fr m=opM P fr m o:=by
 unfold zS;split<;>simp only[A0x,A5t,A9c,A5u,A0v,A9Z,A9d,kUn,A5v,yT,A0z,yS,A0y,KI,KJ,opM,eG,nT]
def NZ(nt gl:Nat)(o:Op):Bool:=o.operands.toList.all (okX nt gl)
end
section
open Go
def A9f:BinOp->Bool
 | .eql|.neq|.lss|.leq|.gtr|.geq=>true
 | _=>false
def oM(P:Program)(m:Mem)(op:BinOp)(t:TypeId)(a b:Value):Res :=
 let c:=G4 a
 let d:=G4 b
 bif (Nat.blt c 8 && Nat.blt d 8) || (Nat.beq c 9 && Nat.beq d 9)then T9 m (bif A9f op then 8 else c) (.bin op) [a,b]else
 bif Nat.beq c 8 && Nat.beq d 8 && yY op && (match P.underlying t with|some .bool=>true|_=>false)then T9 m 8 (.bin op) [a,b]else none
def eY(P:Program)(t:TypeId)(x y:Value):Bool :=
 match P.underlying t with
 | some .bool=>Nat.beq (G4 x) 8 && Nat.beq (G4 y) 8
 | some (.int k)=>Nat.beq (G4 x) (iD k) && Nat.beq (G4 y) (iD k)
 | some .string=>Nat.beq (G4 x) 9 && Nat.beq (G4 y) 9
 | _=>false
mutual
def eqS(P:Program):Nat->TypeId->Value->Value->Option D0
 | 0,_,_,_=>none
 | d+1,t,x,y=>bif eY P t x y then some [x,y]else
   match P.underlying t,x,y with
   | some (.struct fs),.agg xs,.agg ys=>bif P.stoodInHeld t then none else zN P d fs.toList xs.toList ys.toList
   | some (.array n e),.agg xs,.agg ys=>match H1 P e with
     | some s=>zN P d ((List.range n).map (A4I e s)) xs.toList ys.toList
     | none=>none
   | _,_,_=>none
def zN(P:Program):Nat->List Field->D0->D0->Option D0
 | 0,_,_,_=>none
 | _+1,[],_,_=>some []
 | d+1,f::fs,xs,ys =>
   bif f.name == "_" then none else
   match rE P f.type xs f.offset,rE P f.type ys f.offset with
   | some x,some y=>match eqS P d f.type x y,zN P d fs xs ys with
     | some a,some b=>some (a++b)
     | _,_=>none
   | _,_=>none
end
def IH(P:Program)(m:Mem)(op:BinOp)(t:TypeId)(x y:Operand)(a b:Value):Res :=
 bif lZ P t x y a b then
  match op,eqS P 20 t a b with
  | .eql,some l=>T9 m 8 .eqs l
  | .neq,some l=>match T9 m 8 .eqs l with
    | some (h,m)=>T9 m 8 (.un .not) [h]
    | none=>none
  | _,_=>none
 else none
def l6(t:Nat):D0->Bool
 | []=>true
 | v::r=>Nat.beq (G4 v) t && l6 t r
def l5.sizeD(P:Program)(e:TypeId):Nat:=match H1 P e with|some n=>n|none=>0
def l5(P:Program)(m:Mem)(t:TypeId)(x i:Value):Res :=
 bif !(Nat.blt (G4 i) 8)then none else
 match P.underlying t with
 | some .string=>bif Nat.beq (G4 x) 9 then T9 m 4 .idx [x,i]else none
 | some (.array n e)=>match x,P.underlying e with
   | .agg cs,some (.int k)=>bif Nat.beq (cs.toList.length) n && l6 (iD k) cs.toList && Nat.beq (l5.sizeD P e) 1 then T9 m (iD k) .sel (i::cs.toList)else none
   | .agg cs,some .string=>bif Nat.beq (cs.toList.length) n && l6 9 cs.toList && Nat.beq (l5.sizeD P e) 1 then T9 m 9 .sel (i::cs.toList)else none
   | _,_=>none
 | _=>none
def kY(P:Program)(m:Mem)(t:TypeId)(x:Value)(a hi mx:Option Value):Res :=
 match P.underlying t,mx with
 | some .string,none=>bif Nat.beq (G4 x) 9 then
    match a,hi with
    | none,none=>some (x,m)
    | some l,none=>bif Nat.blt (G4 l) 8 then T9 m 9 .sub1 [x,l]else none
    | none,some h=>bif Nat.blt (G4 h) 8 then T9 m 9 .sub [x,.int .i64 0,h]else none
    | some l,some h=>bif Nat.blt (G4 l) 8 && Nat.blt (G4 h) 8 then T9 m 9 .sub [x,l,h]else none
   else none
 | _,_=>none
def IC(m:Mem)(op:UnOp)(x:Value):Res :=
 let t:=G4 x
 match op with
 | .not=>bif Nat.beq t 8 then T9 m 8 (.un .not) [x]else none
 | op=>bif Nat.blt t 8 then T9 m t (.un op) [x]else none
def qD(P:Program)(m:Mem)(s t:TypeId)(x:Value):Res :=
 match P.underlying s,P.underlying t with
 | some (.int _),some (.int k)=>bif Nat.blt (G4 x) 8 then T9 m (iD k) (.conv k) [x]else none
 | some .string,some .string=>bif Nat.beq (G4 x) 9 then some (x,m)else none
 | _,_=>none
def eM(P:Program)(m:Mem)(b:Builtin)(vs:List Value)(tys:List TypeId):Res :=
 match b,vs,tys with
 | .len,[x],t::_=>match P.underlying t with
   | some .string=>bif Nat.beq (G4 x) 9 then T9 m 3 .len [x]else none
   | _=>none
 | .max,[x,y],_=>bif Nat.blt (G4 x) 8 && Nat.beq (G4 x) (G4 y)then T9 m (G4 x) .max [x,y]else none
 | .min,[x,y],_=>bif Nat.blt (G4 x) 8 && Nat.beq (G4 x) (G4 y)then T9 m (G4 x) .min [x,y]else none
 | _,_,_=>none
def VE(m:Mem)(a:Addr)(s n:Nat)(i:Value):Res :=
 bif !(Nat.blt (G4 i) 8)then none else
 match T9 m 8 .inb [i,.int .i64 (.ofNat n)]with
 | some (b,⟨H,k,W,hi,lg⟩)=>match brL lg b with
   | some (true,lg)=>some (ixp a s i n,⟨H,k,W,hi,lg⟩)
   | _=>none
 | none=>none
def eK(P:Program)(m:Mem)(t:TypeId)(x i:Value):Res :=
 match P.underlying t,x with
 | some (.array n e),.pointer (some a)=>match H1 P e,a.spot with
   | some s,none=>VE m a s n i
   | _,_=>none
 | some (.slice e),.slice (some a) n c=>match H1 P e,a.spot with
   | some s,none=>bif Nat.beq c (M9+2)then none else VE m a s n i
   | _,_=>none
 | _,_=>none
def eL(P:Program)(m:Mem)(s:TypeId)(x:Value)(i:Nat):Res :=
 match x with
 | .func (.yield 1) ⟨[.pointer (some a),.int .i64 (.ofNat k),j,.int .i64 (.ofNat n)]⟩ ⟨[]⟩=>match P.underlying s with
   | some (.struct fs)=>match fs.toList[i]?,a.spot with
     | some f,none=>match H1 P f.type with
       | some (_+1)=>some (ixp (bP a f.offset) k j n,m)
       | _=>none
     | _,_=>none
   | _=>none
 | _=>none
def wD(cs:List Value)(s o:Nat):Nat->Option D0
 | 0=>some []
 | n+1=>match cs[o]?,wD cs s (o+s) n with
   | some v,some r=>some (v::r)
   | _,_=>none
def cL(m:Mem)(cs:List Value)(s n:Nat)(i:Value):Nat->Nat->Option (D0×Mem)
 | _,0=>some ([],m)
 | o,k+1=>match wD cs s o n with
   | some (v::l)=>bif l6 (G4 v) (v::l) && Nat.blt (G4 v) 10 then match T9 m (G4 v) .sel (i::v::l)with
     | some (h,m)=>match cL m cs s n i (o+1) k with
       | some (r,m)=>some (h::r,m)
       | none=>none
     | none=>none else none
   | _=>none
def qC(P:Program)(m:Mem)(t:TypeId)(x:Value):Res :=
 match x with
 | .func (.yield 1) ⟨[.pointer (some a),.int .i64 (.ofNat s),i,.int .i64 (.ofNat n)]⟩ ⟨[]⟩ =>
   match aR P t,H1 P t with
   | some false,_=>match t8 m a ((n-1)*s+1)with
     | some cs=>match cL m cs s n i 0 1 with
       | some ([h],m)=>some (h,m)
       | _=>none
     | none=>none
   | some true,some z=>match t8 m a ((n-1)*s+z)with
     | some cs=>match cL m cs s n i 0 z with
       | some (hs,m)=>some (.agg ⟨hs⟩,m)
       | none=>none
     | none=>none
   | _,_=>none
 | _=>none
def wC(m:Mem)(c a b:Value):Res :=
 match m with
 | ⟨H,n,W,hi,lg⟩=>match brL lg c with
   | some (true,lg)=>some (a,⟨H,n,W,hi,lg⟩)
   | some (false,lg)=>some (b,⟨H,n,W,hi,lg⟩)
   | none=>none
def WR(P:Program)(fr:Fr)(m:Mem)(o:Op):Res :=
 match o with
 | .pick c a b=>wC m (ev fr c) (ev fr a) (ev fr b)
 | .binOp op t x y _=>match oM P m op t (ev fr x) (ev fr y)with
   | some r=>some r
   | none=>IH P m op t x y (ev fr x) (ev fr y)
 | .unOp op _ x=>IC m op (ev fr x)
 | .convert s t x=>qD P m s t (ev fr x)
 | .slice t x d hi mx=>kY P m t (ev fr x) (evO fr d) (evO fr hi) (evO fr mx)
 | .index t x i=>l5 P m t (ev fr x) (ev fr i)
 | .indexAddr t x i=>eK P m t (ev fr x) (ev fr i)
 | .fieldAddr s x i=>eL P m s (ev fr x) i
 | .load t x=>qC P m t (ev fr x)
 | .call ⟨.builtin b,xs,tys⟩=>eM P m b (evL fr xs.toList) tys.toList
 | _=>none
def oT(m:Mem)(b:Nat):Bool :=
 match Hp.get m.H b with
 | some .frz=>Nat.ble b H7
 | _=>false
def NO{α:Type}(l:List α):Nat->List α
 | 0=>[]
 | n+1=>l++NO l n
mutual
def WO(P:Program):Nat->TypeId->Option H4
 | 0,_=>none
 | d+1,t=>match P.underlying t with
   | some .bool=>some [8]
   | some (.int k)=>some [iD k]
   | some .string=>some [9]
   | some (.slice e)=>match H1 P e with
     | some w=>some [10+w]
     | none=>none
   | some (.struct fs)=>A4V P d fs.toList
   | some (.array n e)=>match WO P d e with
     | some l=>some (NO l n)
     | none=>none
   | _=>none
def A4V(P:Program):Nat->List Field->Option H4
 | 0,_=>none
 | _+1,[]=>some []
 | d+1,f::fs=>match WO P d f.type,A4V P d fs with
   | some a,some b=>some (a++b)
   | _,_=>none
end
def kX(P:Program)(t:TypeId):Option H4 :=
 match WO P 30 t,H1 P t with
 | some l,some n=>bif Nat.beq l.length n then some l else none
 | _,_=>none
def X9.letDo(t:Nat)(op:LOp)(xs:List Value)(m:Mem)(k:Nat->Mem->Option (D0×Mem)):Option (D0×Mem) :=
 match m with
 | ⟨H,n,W,hi,⟨nx,pi,log⟩⟩=>J8 nx fun nx=>J8 t fun t=>Q9 xs fun xs=>k nx ⟨H,n,W,hi,⟨Nat.succ nx,pi,.dt nx t op xs::log⟩⟩
def X9(w o i t:Nat)(z:Value)(g:Nat):H4->Nat->Mem->Option (D0×Mem)
 | [],_,m=>some ([],m)
 | tg::ts,j,m=>bif Nat.blt tg 10 then
    match T9 m tg (.get w (o+j)) [hole i t,z]with
    | some (h,m)=>match X9 w o i t z g ts (j+1) m with
      | some (r,m)=>some (h::r,m)
      | none=>none
    | none=>none
   else X9.letDo tg (.get w (o+j)) [hole i t,z] m fun nx m=>match X9 w o i t z g ts (j+1) m with
     | some (r,m)=>some (dat g nx tg::r,m)
     | none=>none
def mI(P:Program)(t:TypeId)(r:Option (D0×Mem)):Res :=
 match aR P t,r with
 | some false,some ([v],m)=>some (v,m)
 | some true,some (vs,m)=>some (.agg ⟨vs⟩,m)
 | _,_=>none
def KB(P:Program)(m:Mem)(t:TypeId)(x:Value):Res :=
 match x,kX P t with
 | .func (.yield 5) ⟨[.pointer (some ⟨b,0,none⟩),.complex .f64 i tg,z,.int .i64 (.ofNat o)]⟩ ⟨[]⟩,some ts =>
   bif oT m b then mI P t (X9 (tg-10) o i tg z b ts 0 m)else none
 | .func (.yield 6) ⟨[.pointer (some ⟨b,0,none⟩),.complex .f64 i tg,z,.int .i64 (.ofNat o)]⟩ ⟨[]⟩,some ts =>
   match Hp.get m.H b with
   | some (.sq c tc T g ro)=>bif Nat.beq tc tg then mI P t (X9 (tg-10) o c tg z g ts 0 m)else none
   | _=>none
 | _,_=>none
def KO(m:Mem)(i t:Nat)(z:Value)(k:Value):Res :=
 bif !(Nat.blt (G4 z) 8)then none else
 match T9 m 8 (.inbs (t-10)) [z,hole i t]with
 | some (b,⟨H,n,W,hi,lg⟩)=>match brL lg b with
   | some (true,lg)=>some (k,⟨H,n,W,hi,lg⟩)
   | _=>none
 | none=>none
def lY(P:Program)(m:Mem)(t:TypeId)(x z:Value):Res :=
 match P.underlying t,x with
 | some (.slice e),.func (.yield 4) ⟨[.pointer (some ⟨b,0,none⟩),.complex .f64 i tg]⟩ ⟨[]⟩=>match H1 P e with
   | some (s+1)=>bif Nat.beq tg (10+(s+1))then KO m i tg z (opt b i tg z 0)else none
   | _=>none
 | some (.slice e),.func (.yield 2) ⟨[.pointer (some ⟨b,0,none⟩),.complex .f64 i tg]⟩ ⟨[]⟩=>match H1 P e with
   | some (s+1)=>bif Nat.beq tg (10+(s+1))then KO m i tg z (dpt b i tg z 0)else none
   | _=>none
 | some (.slice e),.func (.yield 3) ⟨[.pointer (some ⟨b,0,none⟩),.complex .f64 i tg]⟩ ⟨[]⟩=>match H1 P e with
   | some (s+1)=>bif Nat.beq tg (10+(s+1))then KO m i tg z (dpt b i tg z 0)else none
   | _=>none
 | some (.array n e),.func (.yield 5) ⟨[.pointer (some ⟨b,0,none⟩),.complex .f64 i tg,y,.int .i64 (.ofNat o)]⟩ ⟨[]⟩=>match H1 P e,z with
   | some s,.int _ (.ofNat k)=>bif Nat.blt k n && Nat.blt (o+k*s) (tg-10)then some (J8 (o+k*s) fun o=>dpt b i tg y o,m)else none
   | _,_=>none
 | some (.array n e),.func (.yield 6) ⟨[.pointer (some ⟨b,0,none⟩),.complex .f64 i tg,y,.int .i64 (.ofNat o)]⟩ ⟨[]⟩=>match H1 P e,z with
   | some s,.int _ (.ofNat k)=>bif Nat.blt k n && Nat.blt (o+k*s) (tg-10)then some (J8 (o+k*s) fun o=>opt b i tg y o,m)else none
   | _,_=>none
 | _,_=>none
def mC(P:Program)(m:Mem)(s:TypeId)(x:Value)(f:Nat):Res :=
 match P.underlying s,x with
 | some (.struct fs),.func (.yield 5) ⟨[.pointer (some ⟨b,0,none⟩),.complex .f64 i tg,y,.int .i64 (.ofNat o)]⟩ ⟨[]⟩=>match fs.toList[f]? with
   | some fd=>match H1 P fd.type with
     | some (_+1)=>bif Nat.blt (o+fd.offset) (tg-10)then some (J8 (o+fd.offset) fun o=>dpt b i tg y o,m)else none
     | _=>none
   | none=>none
 | some (.struct fs),.func (.yield 6) ⟨[.pointer (some ⟨b,0,none⟩),.complex .f64 i tg,y,.int .i64 (.ofNat o)]⟩ ⟨[]⟩=>match fs.toList[f]? with
   | some fd=>match H1 P fd.type with
     | some (_+1)=>bif Nat.blt (o+fd.offset) (tg-10)then some (J8 (o+fd.offset) fun o=>opt b i tg y o,m)else none
     | _=>none
   | none=>none
 | _,_=>none
def sB(i:Nat):List n7->Option Nat
 | []=>none
 | .lt j t .len [.complex .f64 k _]::r=>bif Nat.beq k i && Nat.beq t 3 then some j else sB i r
 | _::r=>sB i r
def FO(m:Mem)(i t:Nat):Res :=
 match sB i m.lg.log with
 | some j=>some (hole j 3,m)
 | none=>T9 m 3 .len [hole i t]
def A3N(P:Program)(m:Mem)(t:TypeId)(x:Value):Res :=
 match P.underlying t,x with
 | some (.slice _),.func (.yield 2) ⟨[.pointer (some ⟨b,0,none⟩),.complex .f64 i tg]⟩ ⟨[]⟩=>FO m i tg
 | some (.slice _),.func (.yield 3) ⟨[.pointer (some ⟨b,0,none⟩),.complex .f64 i tg]⟩ ⟨[]⟩=>FO m i tg
 | some (.slice _),.func (.yield 4) ⟨[.pointer (some ⟨b,0,none⟩),.complex .f64 i tg]⟩ ⟨[]⟩=>FO m i tg
 | _,_=>none
def gM(m:Mem)(k:Nat->Mem->Option (Value×Nat×Mem)):Option (Value×Nat×Mem) :=
 match m with
 | ⟨H,n,W,hi,lg⟩=>bif Nat.ble n H7 then J8 n fun n=>J8 (upN hi n) fun hi=>Hp.put H n (some .frz) fun H=>k n ⟨H,Nat.succ n,W,hi,lg⟩else none
def toD(t:Nat)(v:Value)(m:Mem):Option (Value×Nat×Mem) :=
 match v with
 | .func (.yield 2) ⟨[.pointer (some ⟨b,0,none⟩),.complex .f64 i tg]⟩ ⟨[]⟩=>bif Nat.beq tg t && oT m b then some (hole i tg,b,m)else none
 | .func (.yield 3) ⟨[.pointer (some ⟨b,0,none⟩),.complex .f64 i tg]⟩ ⟨[]⟩=>bif Nat.beq tg t && oT m b then some (hole i tg,b,m)else none
 | .func (.yield 4) ⟨[.pointer (some ⟨b,0,none⟩),.complex .f64 i tg]⟩ ⟨[]⟩=>match Hp.get m.H b with
   | some (.sq c tc T g true)=>bif (Nat.beq tg t && Nat.beq tc t) && oT m g then gM m fun b' m=>some (hole c tc,b',m)else none
   | some (.sq c tc T g false)=>bif (Nat.beq tg t && Nat.beq tc t) && oT m g then match cK m b (.sq c tc T g true)with
     | some m=>gM m fun b' m=>some (hole c tc,b',m)
     | none=>none else none
   | _=>none
 | .slice none 0 0=>bif Nat.ble 10 t then(match vT m t (.nilw (t-10)) [] fun nx m=>some (hole nx t,m)with
   | some (h,m)=>gM m fun b' m=>some (h,b',m)
   | none=>none)else none
 | _=>none
abbrev Td:=Nat->Value->Mem->Option (Value×Nat×Mem)
def AN(a:Td):H4->D0->Mem->Option (D0×H4×Mem)
 | [],[],m=>some ([],[],m)
 | t::ts,v::vs,m=>bif Nat.blt t 10 then
    bif Nat.beq (G4 v) t then match AN a ts vs m with
     | some (r,gs,m)=>some (v::r,gs,m)
     | none=>none else none
   else match a t v m with
    | some (h,b,m)=>match AN a ts vs m with
      | some (r,gs,m)=>some (h::r,b::gs,m)
      | none=>none
    | none=>none
 | _,_,_=>none
def kA(gs:List Nat)(m:Mem):Option (Nat×Mem) :=
 match gs with
 | [g]=>bif oT m g then some (g,m)else none
 | gs=>bif gs.all (oT m)then match gM m fun b m=>some (undef,b,m)with
   | some (_,b,m)=>some (b,m)
   | none=>none else none
def QK:Value->Value->Bool
 | .complex .f64 i _,.complex .f64 j _=>Nat.beq i j
 | .int k a,.int j b=>uH k j && BG a b
 | _,_=>false
def yV(v:Value):Bool:=Nat.blt (G4 v) 8
def gD(m:Mem)(b i t:Nat)(l h:Value)(c:Bool):Res:=bif yV l && yV h then vT m t (.subs (t-10)) [hole i t,l,h] fun nx m=>some (bif c then clp b nx t else dat b nx t,m)else none
def LK(m:Mem)(b i t:Nat)(cl:Bool)(l:Value)(hi mx:Option Value):Res :=
 match hi,mx with
 | some h,none=>gD m b i t l h false
 | some h,some x=>bif QK h x then gD m b i t l h true else none
 | none,none=>match FO m i t with
   | some (h,m)=>gD m b i t l h cl
   | none=>none
 | none,some _=>none
def A9H(a:Option Value):Value :=
 match a with
 | some l=>l
 | none=>.int .i64 0
def LL(m:Mem)(b i t:Nat)(cl:Bool)(a hi mx:Option Value):Res:=LK m b i t cl (A9H a) hi mx
def xE(P:Program)(m:Mem)(t:TypeId)(x:Value)(a hi mx:Option Value):Res :=
 match P.underlying t,x with
 | some (.slice e),.func (.yield 2) ⟨[.pointer (some ⟨b,0,none⟩),.complex .f64 i tg]⟩ ⟨[]⟩=>match H1 P e with
   | some s=>bif Nat.beq tg (10+s)then LL m b i tg false a hi mx else none
   | none=>none
 | some (.slice e),.func (.yield 3) ⟨[.pointer (some ⟨b,0,none⟩),.complex .f64 i tg]⟩ ⟨[]⟩=>match H1 P e with
   | some s=>bif Nat.beq tg (10+s)then LL m b i tg true a hi mx else none
   | none=>none
 | some (.slice e),.func (.yield 4) ⟨[.pointer (some ⟨b,0,none⟩),.complex .f64 i tg]⟩ ⟨[]⟩=>match H1 P e with
   | some s=>bif Nat.beq tg (10+s)then match toD tg x m with
     | some (.complex .f64 c _,b',m)=>LL m b' c tg false a hi mx
     | _=>none else none
   | none=>none
 | _,_=>none
inductive Beh where
 | cells (xs:List Value)
 | rows (x:Value)
 | str (x:Value)
def dN(w:Nat)(c:Value):Beh->LOp×D0
 | .cells xs=>(.snoc w,c::xs)
 | .rows x=>(.cat w,[c,x])
 | .str x=>(.cats,[c,x])
def A2C(c:Td)(P:Program)(m:Mem)(e:TypeId)(w:Nat)(y:Value):Option (Beh×H4×Bool×Mem) :=
 match y with
 | .slice none 0 _=>some (.cells [],[],false,m)
 | .slice (some a) n _=>match t8 m a (n*w),kX P e with
   | some cs,some ts=>match AN c (NO ts n) cs m with
     | some (xs,gs,m)=>some (.cells xs,gs,Nat.blt 0 n,m)
     | none=>none
   | _,_=>none
 | .func _ _ _=>match c (10+w) y m with
   | some (x,b,m)=>some (.rows x,[b],false,m)
   | none=>none
 | y=>bif Nat.beq (G4 y) 9 && Nat.beq w 1 then some (.str y,[],false,m)else none
def DY(a:Td)(P:Program)(m:Mem)(e:TypeId)(w:Nat)(x:Value):Option (Nat×H4×Option Nat×Mem) :=
 match x with
 | .slice none 0 0=>match vT m (10+w) (.nilw w) [] fun nx m=>some (hole nx (10+w),m)with
   | some (.complex .f64 c _,m)=>some (c,[],none,m)
   | _=>none
 | .func (.yield 4) ⟨[.pointer (some ⟨b,0,none⟩),.complex .f64 i tg]⟩ ⟨[]⟩=>match Hp.get m.H b with
   | some (.sq c tc T g false)=>bif (Nat.beq tg (10+w) && Nat.beq tc tg) && (Nat.beq T e && Nat.ble b H7)then some (c,[g],some b,m)else none
   | _=>none
 | .slice (some ⟨b,0,none⟩) n c=>match Hp.get m.H b,kX P e with
   | some (.cells cs _ _),some ts=>bif Nat.beq cs.length (n*w) && (Nat.beq c n && Nat.blt c M9 || Nat.beq c M9)then match AN a (NO ts n) cs m with
     | some (xs,gs,m)=>match Hp.get m.H b with
       | some (.cells _ T false)=>bif Nat.beq T e && Nat.ble b H7 then match vT m (10+w) (.mk w) xs fun nx m=>some (hole nx (10+w),m)with
         | some (.complex .f64 c _,m)=>some (c,gs,some b,m)
         | _=>none else none
       | _=>none
     | none=>none else none
   | _,_=>none
 | _=>none
def bH(m:Mem)(c t:Nat)(T:TypeId)(g:Nat):Res:=Z4 m (.sq c t T g false) fun b=>own b c t
def VY(P:Program)(e:TypeId)(n:Nat):Bool :=
 match fQ P e with
 | some z=>Nat.beq z.cells.size n
 | none=>false
def jY(old:Option Nat)(m:Mem):Mem :=
 match old with
 | some b=>jZ m b
 | none=>m
def UT(a:Td)(P:Program)(m:Mem)(e:TypeId)(w:Nat)(x:Value):Res :=
 match P.info? e with
 | some inf=>bif Nat.beq inf.size w && Nat.blt 0 w then match DY a P m e w x with
   | some (c,gs,old,m)=>match kA gs m with
     | some (g,m)=>bH (jY old m) c (10+w) e g
     | none=>none
   | none=>none else none
 | none=>none
def WK(P:Program):Nat->Td
 | 0=>toD
 | d+1=>fun t v m=>match v with
   | .slice (some ⟨b,0,none⟩) _ _=>match Hp.get m.H b with
     | some (.cells _ T _)=>match UT (WK P d) P m T (t-10) v with
       | some (x,m)=>toD t x m
       | none=>none
     | _=>none
   | v=>toD t v m
def tdP(P:Program):Td:=WK P 3
def JI(m:Mem)(e:TypeId)(w c:Nat)(old:Option Nat)(a:Beh)(gs:List Nat):Res :=
 match kA gs m with
 | some (g,m)=>vT m (10+w) (dN w (hole c (10+w)) a).1 (dN w (hole c (10+w)) a).2 fun nx m=>bH (jY old m) nx (10+w) e g
 | none=>none
def sR(P:Program)(m:Mem)(t t2:TypeId)(x y:Value):Res :=
 match P.underlying t,P.underlying t2 with
 | some (.slice e),some d2=>bif !(dE d2)then none else
   match P.info? e with
   | some i=>bif (Nat.ble i.bytes 90000 && Nat.blt 0 i.size) && VY P e i.size then
     match A2C (tdP P) P m e i.size y with
     | some (bh,gs,sure,m)=>match DY (tdP P) P m e i.size x with
       | some (c,g0,old,m)=>JI m e i.size c old bh (g0++gs)
       | none=>match x,sure with
         | .func (.yield 3) ⟨[.pointer (some ⟨b,0,none⟩),.complex .f64 c tg]⟩ ⟨[]⟩,true=>bif Nat.beq tg (10+i.size)then JI m e i.size c none bh (b::gs)else none
         | _,_=>none
     | none=>none else none
   | none=>none
 | _,_=>none
def xC(P:Program)(m:Mem)(t:TypeId)(x v:Value):Res :=
 match x,kX P t with
 | .func (.yield 6) ⟨[.pointer (some ⟨b,0,none⟩),.complex .f64 i tg,z,.int .i64 (.ofNat o)]⟩ ⟨[]⟩,some ts=>bif jD v then none else
   match AN (tdP P) ts v.cells.toList m with
   | some (xs,gs,m)=>match Hp.get m.H b with
     | some (.sq c tc T g false)=>bif Nat.beq tc tg then match kA (g::gs) m with
       | some (g,m)=>match vT m tg (.set (tg-10) o) (hole c tg::z::xs) fun nx m=>some (hole nx tg,m)with
         | some (.complex .f64 nx _,m)=>OD (cK m b (.sq nx tg T g false))
         | _=>none
       | none=>none else none
     | _=>none
   | none=>none
 | _,_=>none
def A5h(m m1:Mem):Mem :=
 match m,m1 with
 | ⟨H,n,W,_,_⟩,⟨_,_,_,hi,lg⟩=>⟨H,n,W,hi,lg⟩
def LP(P:Program)(m:Mem)(s t:TypeId)(x:Value):Res :=
 match P.underlying s,P.underlying t,x with
 | some (.slice e),some .string,.slice (some a) n _=>match P.underlying e with
   | some (.int .u8)=>match t8 m a n with
     | some cs=>bif l6 4 cs then T9 m 9 .mks cs else none
     | none=>none
   | _=>none
 | some (.slice e),some .string,.func _ _ _=>match P.underlying e with
   | some (.int .u8)=>match toD 11 x m with
     | some (h,_,m1)=>T9 (A5h m m1) 9 .str [h]
     | none=>none
   | _=>none
 | some _,some (.slice e),x=>bif Nat.beq (G4 x) 9 then match P.underlying e with
   | some (.int .u8)=>match H1 P e with
     | some 1=>match kA [] m with
       | some (g,m)=>match vT m 11 .byt [x] fun nx m=>some (hole nx 11,m)with
         | some (.complex .f64 nx _,m)=>bH m nx 11 e g
         | _=>none
       | none=>none
     | _=>none
   | _=>none else none
 | _,_,_=>none
def A1E:Value->Bool
 | .slice none 0 0=>true
 | _=>false
def A0C(P:Program)(m:Mem)(op:BinOp)(t:TypeId)(x y:Operand)(a b:Value):Res :=
 match P.underlying t,a with
 | some (.slice _),.func (.yield k) ⟨[.pointer (some ⟨_,0,none⟩),.complex .f64 i tg]⟩ ⟨[]⟩=>bif A1E b && isC y && (Nat.beq k 2 || Nat.beq k 3 || Nat.beq k 4)then
   match op,T9 m 8 .nilp [hole i tg]with
   | .eql,some r=>some r
   | .neq,some (h,m)=>T9 m 8 (.un .not) [h]
   | _,_=>none else none
 | _,_=>none
def JW(P:Program)(m:Mem)(t:TypeId)(l c:Value):Res :=
 match P.underlying t,l,c with
 | some (.slice e),.complex .f64 i ti,.complex .f64 j tj=>bif (Nat.beq i j && Nat.beq ti 3) && Nat.beq tj 3 then
   match P.info? e with
   | some inf=>bif Nat.ble inf.bytes 90000 && Nat.blt 0 inf.size then
     match fQ P e with
     | some z=>bif Nat.beq z.cells.size inf.size && z.cells.toList.all (fun z=>Nat.blt (G4 z) 10)then
       match kA [] m with
       | some (g,m)=>match vT m (10+inf.size) (.rep inf.size) (hole i 3::z.cells.toList) fun nx m=>some (hole nx (10+inf.size),m)with
         | some (.complex .f64 nx _,m)=>bH m nx (10+inf.size) e g
         | _=>none
       | none=>none else none
     | none=>none else none
   | none=>none else none
 | _,_,_=>none
def dsM(P:Program)(fr:Fr)(m:Mem)(o:Op):Res :=
 match o with
 | .makeSlice t l c=>JW P m t (ev fr l) (ev fr c)
 | .load t x=>KB P m t (ev fr x)
 | .store t x y=>xC P m t (ev fr x) (ev fr y)
 | .indexAddr t x i=>lY P m t (ev fr x) (ev fr i)
 | .fieldAddr s x i=>mC P m s (ev fr x) i
 | .slice t x a hi mx=>xE P m t (ev fr x) (evO fr a) (evO fr hi) (evO fr mx)
 | .convert s t x=>LP P m s t (ev fr x)
 | .binOp op t x y _=>A0C P m op t x y (ev fr x) (ev fr y)
 | .call ⟨.builtin .len,xs,tys⟩=>match evL fr xs.toList,tys.toList with
   | [x],t::_=>A3N P m t x
   | _,_=>none
 | .call ⟨.builtin .append,xs,tys⟩=>match evL fr xs.toList,tys.toList with
   | [x,y],t::t2::_=>sR P m t t2 x y
   | _,_=>none
 | _=>none
def TF(P:Program)(m:Mem)(s t:TypeId)(x:Value):Res :=
 match P.underlying s,P.underlying t,x with
 | some (.pointer e),some .unsafePointer,.pointer (some ⟨b,o,none⟩)=>match H1 P e,Hp.get m.H b with
   | some (_+1),some (.cells cs _ _)=>bif Nat.blt o cs.length then some (x,m)else none
   | _,_=>none
 | some .unsafePointer,some (.pointer u),.pointer (some ⟨b,0,none⟩)=>match H1 P u,Hp.get m.H b with
   | some (k+1),some (.cells cs T false)=>bif Nat.beq T u && Nat.beq cs.length (k+1)then some (x,m)else none
   | _,_=>none
 | some (.slice _),some (.slice e),.slice (some ⟨b,o,none⟩) n c=>bif Nat.beq s t && !(Nat.beq c (M9+2))then match P.underlying e,Hp.get m.H b with
   | some (.int .u8),some (.cells cs T false)=>match cK m b (.cells cs T false)with
     | some m1=>some (x,m1)
     | none=>none
   | _,_=>none else none
 | _,_,_=>none
def RA(P:Program)(m:Mem)(op:BinOp)(t:TypeId)(a b:Value):Res :=
 match P.underlying t,a,b with
 | some (.pointer e),.pointer (some ⟨b1,o1,none⟩),.pointer (some ⟨b2,o2,none⟩)=>bif Nat.beq b1 b2 && Nat.beq o1 o2 then match P.info? e,op with
   | some _,.eql=>some (.bool true,m)
   | some _,.neq=>some (.bool false,m)
   | _,_=>none else none
 | _,_,_=>none
def sdM(P:Program)(m:Mem)(ty:TypeId)(x:Value):Res :=
 match P.underlying ty with
 | some (.pointer _)=>match x with
  | .func (.yield 4) ⟨[.pointer (some ⟨b,0,none⟩),.complex .f64 i t]⟩ ⟨[]⟩=>match Hp.get m.H b with
   | some (.sq _ _ _ _ _)=>some (sdt b,m)
   | _=>none
  | _=>none
 | _=>none
def usM(P:Program)(m:Mem)(a:TypeId)(p l:Value):Res :=
 match p with
 | .func (.yield 9) ⟨[.pointer (some ⟨b,0,none⟩)]⟩ ⟨[]⟩=>bif Nat.blt (G4 l) 8 then match Hp.get m.H b,P.underlying a with
   | some (.sq c tc T g false),some (.pointer e)=>bif Nat.beq e T && Nat.beq tc 11 then match H1 P T,T9 m 9 .ustr [hole c tc,l]with
     | some 1,some (v,m)=>match cK m b (.sq c tc T g true)with
       | some m=>some (v,m)
       | none=>none
     | _,_=>none else none
   | _,_=>none else none
 | _=>none
def fU(P:Program)(t:TypeId):Option Nat :=
 match P.underlying t with
 | some .bool=>some 8
 | some (.int k)=>some (iD k)
 | some .string=>some 9
 | _=>none
def vA(P:Program):List Field->Nat->Option H4
 | [],_=>some []
 | f::r,i=>match fU P f.type,vA P r (i+1)with
   | some t,some l=>bif !(f.name == "_") && Nat.beq f.offset i then some (t::l)else none
   | _,_=>none
def oF(P:Program)(t:TypeId):Option (Bool×List Nat) :=
 match P.underlying t with
 | some (.struct fs)=>bif P.stoodInHeld t then none else match vA P fs.toList 0 with
   | some l=>some (true,l)
   | none=>none
 | _=>match fU P t with
   | some k=>some (false,[k])
   | none=>none
def PY(P:Program)(t:TypeId):Option (Bool×List Nat) :=
 match aR P t,kX P t with
 | some true,some l=>bif l.all (fun k=>Nat.blt k 10)then some (true,l)else none
 | some false,some [k]=>bif Nat.blt k 10 then some (false,[k])else none
 | _,_=>none
structure MTy where
 kt:TypeId
 vt:TypeId
 ka:Bool
 ks:H4
 va:Bool
 vs:H4
def MTy.w(y:MTy):Nat:=y.ks.length+y.vs.length
def UW(P:Program)(T:TypeId):Option MTy :=
 match P.underlying T with
 | some (.map kt vt)=>match oF P kt,PY P vt with
   | some (ka,k::ks),some (va,vs)=>some ⟨kt,vt,ka,k::ks,va,vs⟩
   | _,_=>none
 | _=>none
def zL:H4->D0->Bool
 | [],[]=>true
 | t::ts,v::vs=>Nat.beq (G4 v) t && zL ts vs
 | _,_=>false
def nV(a:Bool)(ts:List Nat)(v:Value):Option D0 :=
 match a,v with
 | true,.agg cs=>bif zL ts cs.toList then some cs.toList else none
 | true,_=>none
 | false,v=>bif zL ts [v]then some [v]else none
def A2H(a:Bool)(vs:List Value):Q3 :=
 match a,vs with
 | true,vs=>some (.agg ⟨vs⟩)
 | false,[v]=>some v
 | false,_=>none
def A0J(P:Program)(m:Mem)(T:TypeId):Res :=
 match UW P T with
 | some y=>vT m (10+y.w) (.mk y.w) [] fun nx m=>Z4 m (.mp nx (10+y.w) T) fun b=>.map (some b)
 | none=>none
def tP(w kw c t:Nat)(a:List Value):H4->D0->Nat->Mem->Option (D0×Mem)
 | [],[],_,m=>some ([],m)
 | tg::ts,z::zs,j,m=>match T9 m tg (.mget w kw j) (hole c t::z::a)with
   | some (h,m)=>match tP w kw c t a ts zs (j+1) m with
     | some (r,m)=>some (h::r,m)
     | none=>none
   | none=>none
 | _,_,_,_=>none
def yI(P:Program)(m:Mem)(T:TypeId)(x k:Value)(ok:Bool):Res :=
 match x,UW P T with
 | .map (some r),some y=>match Hp.get m.H r,nV y.ka y.ks k,fQ P y.vt with
   | some (.mp c t T2),some kc,some z=>bif Nat.beq T2 T then match nV y.va y.vs z with
     | some a=>match tP y.w y.ks.length c t kc y.vs a y.ks.length m with
       | some (hs,m)=>match A2H y.va hs with
         | some v=>bif ok then match T9 m 8 (.mhas y.w y.ks.length) (hole c t::kc)with
            | some (b,m)=>some (.tuple ⟨[v,b]⟩,m)
            | none=>none
           else some (v,m)
         | none=>none
       | none=>none
     | none=>none else none
   | _,_,_=>none
 | _,_=>none
def CG(P:Program)(m:Mem)(T:TypeId)(x k v:Value):Res :=
 match x,UW P T with
 | .map (some r),some y=>match Hp.get m.H r,nV y.ka y.ks k,nV y.va y.vs v with
   | some (.mp c t T2),some kc,some vc=>bif Nat.beq T2 T then vT m t (.mput y.w y.ks.length) (hole c t::(kc++vc)) fun nx m=>OD (cK m r (.mp nx t T))else none
   | _,_,_=>none
 | _,_=>none
def KD(P:Program)(m:Mem)(T:TypeId)(x:Value):Res :=
 match P.underlying T,x with
 | some (.map _ _),.map (some r)=>match Hp.get m.H r with
   | some (.mp c t _)=>FO m c t
   | _=>none
 | _,_=>none
def xR(P:Program)(m:Mem)(t:TypeId)(x:Value):Res :=
 match P.underlying t with
 | some .string=>bif Nat.beq (G4 x) 9 then Z4 m (.iter [x,.int .i64 (.ofNat 0)]) fun b=>.pointer (some ⟨b,0,none⟩)else none
 | _=>none
def GW:Value->Value->Option (ByteArray×Nat)
 | .string s,.int .i64 (.ofNat k)=>some (s,k)
 | _,_=>none
def JT(m:Mem)(x:Value):Res :=
 match x with
 | .pointer (some ⟨r,0,none⟩)=>match Hp.get m.H r with
   | some (.iter [s,p])=>match GW s p with
     | some (b,k)=>bif Nat.blt k b.data.toList.length then J8 (k+(Utf8.decode b k).2) fun a=>match cK m r (.iter [s,.int .i64 (.ofNat a)])with
        | some m=>J8 (Utf8.decode b k).1 fun c=>some (.tuple ⟨[.bool true,p,.int .i32 (.ofNat c)]⟩,m)
        | none=>none
       else some (.tuple ⟨[.bool false]⟩,m)
     | none=>bif Nat.beq (G4 s) 9 && Nat.beq (G4 p) 3 then match T9 m 3 .len [s]with
       | some (h,m)=>match T9 m 8 (.bin .lss) [p,h]with
         | some (c,⟨H,n,W,hi,lg⟩)=>match brL lg c with
           | some (true,lg)=>match T9 ⟨H,n,W,hi,lg⟩ 2 .rune [s,p]with
             | some (y,m)=>match T9 m 3 .rpos [s,p]with
               | some (q,m)=>match cK m r (.iter [s,q])with
                 | some m=>some (.tuple ⟨[.bool true,p,y]⟩,m)
                 | none=>none
               | none=>none
             | none=>none
           | some (false,lg)=>some (.tuple ⟨[.bool false]⟩,⟨H,n,W,hi,lg⟩)
           | none=>none
         | none=>none
       | none=>none else none
   | _=>none
 | _=>none
def xtM(P:Program)(fr:Fr)(m:Mem)(o:Oper):Res :=
 match o.op with
 | .convert s t x=>TF P m s t (ev fr x)
 | .binOp op t x y _=>RA P m op t (ev fr x) (ev fr y)
 | .call ⟨.builtin .unsafeSliceData,xs,_⟩=>match evL fr xs.toList with
   | [x]=>sdM P m o.type x
   | _=>none
 | .call ⟨.builtin .unsafeString,xs,tys⟩=>match evL fr xs.toList,tys.toList with
   | [p,l],t::_=>usM P m t p l
   | _,_=>none
 | .makeMap t none=>A0J P m t
 | .lookup t x k ok=>yI P m t (ev fr x) (ev fr k) ok
 | .range t x=>xR P m t (ev fr x)
 | .next x true=>JT m (ev fr x)
 | .mapUpdate t x k v=>CG P m t (ev fr x) (ev fr k) (ev fr v)
 | .insert t x k v=>CG P m t (ev fr x) (ev fr k) (ev fr v)
 | .call ⟨.builtin .len,xs,tys⟩=>match evL fr xs.toList,tys.toList with
   | [x],t::_=>KD P m t x
   | _,_=>none
 | _=>none
inductive EK where
 | noEscape|makeNoZero (e:TypeId)|indexByteString|countString|indexString|copyString
 deriving DecidableEq
def LD:List (FuncId×EK)->FuncId->Option EK
 | [],_=>none
 | (g,k)::r,f=>bif Nat.beq g f then some k else LD r f
structure FnC where
 run:D0->Mem->Res
structure O8 where
 fn:FuncId->FnC
 yl:FnC
def nL:Value->Bool
 | .tuple ⟨[]⟩=>true
 | _=>false
def HL(lg:Lg)(v:Value)(b:Bool):Option (Bool×Lg) :=
 match v with
 | .bool c=>some (c == b,lg)
 | .complex k i t=>match brL lg (.complex k i t)with
   | some (c,lg)=>some (c == b,lg)
   | none=>none
 | v=>bif nL v then some (false,lg)else none
def bG(nt:Nat)(fr:Fr)(lg:Lg)(ops:List Oper)(o:Oper):Option (Bool×Lg) :=
 match o.guard with
 | none=>some (true,lg)
 | some (j,b)=>match ops[j]? with
   | some p=>match p.dst with
     | some t=>bif Nat.blt t nt then HL lg (fr.get t) b else none
     | none=>none
   | none=>none
def wO(v:Value)(vs:List Value):Option (FuncId×List Value) :=
 match v with
 | .func (.func f) a b=>some (f,a.toList++(vs++b.toList))
 | _=>none
def eH(v:Value):Option Nat :=
 match v with
 | .func (.yield 7) ⟨[.pointer (some ⟨b,0,none⟩)]⟩ ⟨[]⟩=>some b
 | _=>none
def JR(call:O8)(m:Mem)(v:Value)(vs:List Value):Res :=
 match wO v vs with
 | some (f,vs)=>(call.fn f).run vs m
 | none=>match eH v with
   | some _=>call.yl.run (v::vs) m
   | none=>none
def A9b(call:O8)(x:XC)(xs:LC)(fr:Fr)(m:Mem):Res:=JR call m (x.run fr) (xs.run fr)
def A7p(f:FnC)(xs:LC)(fr:Fr)(m:Mem):Res:=f.run (xs.run fr) m
def A0u(P:Program)(c:OpC)(o:Oper)(fr:Fr)(m:Mem):Res :=
 match c.run fr m with
 | some r=>some r
 | none=>match WR P fr m o.op with
   | some r=>some r
   | none=>match dsM P fr m o.op with
     | some r=>some r
     | none=>xtM P fr m o
def W4(P:Program)(call:O8)(o:Oper):OpC :=
 match o.op with
 | .call ⟨.value (.func f),xs,_⟩=>⟨A7p (call.fn f) (vE xs.toList)⟩
 | .call ⟨.value x,xs,_⟩=>⟨A9b call (R9 x) (vE xs.toList)⟩
 | op=>⟨A0u P (zS P op) o⟩
def zO(nt:Nat)(d:Option Tmp):Bool :=
 match d with
 | some d=>Nat.blt d nt
 | none=>true
structure A8b where
 run:Value->Fr->(Fr->Option S)->Option S
def vV(d:Option Tmp):A8b :=
 match d with
 | some t=>⟨vS (sel (t / 64%8)) (sel (t / 8%8)) (sel (t%8))⟩
 | none=>⟨fun _ fr k=>k fr⟩
structure A2N where
 run:S->Option S
def lE(c:OpC)(d:A8b)(next:A2N)(s:S):Option S :=
 match s with
 | ⟨fr,m⟩=>match c.run fr m with
   | some (v,m')=>bif Nat.ble m.hi m'.hi then d.run v fr fun fr=>next.run ⟨fr,m'⟩else none
   | none=>none
def eO(nt:Nat)(all:List Oper)(o:Oper)(c:OpC)(d:A8b)(next:A2N)(s:S):Option S :=
 match s with
 | ⟨fr,⟨H,n,W,hi,lg⟩⟩=>match bG nt fr lg all o with
   | some (true,lg)=>lE c d next ⟨fr,⟨H,n,W,hi,lg⟩⟩
   | some (false,lg)=>d.run undef fr fun fr=>next.run ⟨fr,⟨H,n,W,hi,lg⟩⟩
   | none=>none
def U7(P:Program)(nt gl:Nat)(call:O8)(all:List Oper):List Oper->A2N
 | []=>⟨some⟩
 | o::r=>bif zO nt o.dst && NZ nt gl o.op then match o.guard with
   | none=>⟨fun s=>lE (W4 P call o) (vV o.dst) (U7 P nt gl call all r) s⟩
   | some _=>⟨fun s=>eO nt all o (W4 P call o) (vV o.dst) (U7 P nt gl call all r) s⟩
   else⟨fun _=>none⟩
structure Rec where
 i:Nat
 lo:Nat
 hi:Nat
inductive Cls where
 | free
 | one (b:Nat)
 | all
def B0G(fr:Fr)(o:Op):Cls :=
 match o with
 | .move _|.assign _|.pick ..|.alloc _|.box ..|.build ..|.buildSlice ..|.nilCheck _|.binOp ..|.unOp ..|.makeInterface ..|.makeFunc ..|.makeMap ..|.makeSlice ..
 | .fieldAddr ..|.field ..|.indexAddr ..|.index ..|.extract ..|.range ..=>.free
 | .slice _ x _ _ _=>match ev fr x with
   | .slice _ _ _|.string _|.pointer _|.complex _ _ _=>.free
   | _=>.all
 | .convert _ _ x=>match ev fr x with
   | .int _ _|.string _=>.free
   | _=>.all
 | .call ⟨.builtin .len,xs,_⟩=>match evL fr xs.toList with
   | [.slice _ _ _]|[.string _]=>.free
   | _=>.all
 | .call ⟨.builtin .min,_,_⟩|.call ⟨.builtin .max,_,_⟩=>.free
 | .call ⟨.builtin .unsafeSliceData,xs,_⟩=>match evL fr xs.toList with
   | [.slice _ _ _]=>.free
   | _=>.all
 | .load _ x|.store _ x _=>match ev fr x with
   | .pointer (some a)=>.one a.block
   | _=>.all
 | _=>.all
def CZ(H:Hp AB):H4->Hp AB
 | []=>H
 | b::r=>Hp.put H b none fun H=>CZ H r
def EB(H0 H:Hp AB):H4->Hp AB
 | []=>H
 | b::r=>Hp.put H b (Hp.get H0 b) fun H=>EB H0 H r
def NH:Nat->Nat->H4
 | _,0=>[]
 | lo,n+1=>lo::NH (lo+1) n
def Z5:List Rec->H4
 | []=>[]
 | r::rs=>NH r.lo (r.hi-r.lo)++Z5 rs
def v8(l:List Nat)(b:Nat):Bool:=l.any (Nat.beq b)
def HA(l:List Nat):Bool:=l.all fun b=>Nat.ble b H7
def CL(b:List Nat)(rs:List Rec):List Rec:=rs.filter fun r=>!(v8 b r.i)
def BL(m:Mem)(c:Cls)(us:List Rec):Option Mem :=
 match m with
 | ⟨H,n,_,hi,lg⟩=>match c with
   | .free=>some ⟨hp0,n,[],hi,lg⟩
   | .one b=>bif v8 (Z5 us) b || !(Nat.ble b H7)then none else Hp.put hp0 b (Hp.get H b) fun H=>some ⟨H,n,[],hi,lg⟩
   | .all=>bif HA (Z5 us)then some ⟨CZ H (Z5 us),n,[],hi,lg⟩else none
def lO(m m':Mem):Option Mem :=
 bif Nat.ble m'.hi m.n then(match m with|⟨H,n,W,hi,_⟩=>some ⟨H,n,W,hi,m'.lg⟩)else
 bif Nat.ble m'.hi H7 then GG (EB m'.H m.H (NH m.n (m'.hi-m.n))) fun H=>J8 m'.hi fun n=>some ⟨H,n,m.W,n,m'.lg⟩else none
def TC(fr:Fr)(m:Mem)(o:Oper)(b:List Nat)(rs:List Rec)(op:OpC)(k:Value->Mem->Option S):Option S :=
 let us:=CL b rs
 let c:=B0G fr o.op
 match BL m c us with
 | some mv=>match op.run fr mv with
   | some (v,m') =>
     match m'.W,Nat.ble m.hi m'.hi with
     | [],true=>match lO m m' with
       | some m2=>k v m2
       | none=>none
     | _,_=>none
   | none=>none
 | none=>none
def wrO:Op->Bool
 | .call _|.store ..|.mapUpdate ..=>true
 | _=>false
def aK:Op->Bool
 | .move _|.assign _|.extract ..|.slice ..=>true
 | _=>false
def A7P:Op->Bool
 | .field ..|.fieldAddr ..|.index ..|.indexAddr ..|.binOp ..|.unOp ..|.build ..|.load ..|.pick ..|.convert ..|.slice ..|.nilCheck _=>true
 | .call ⟨.builtin .len,_,_⟩|.call ⟨.builtin .min,_,_⟩|.call ⟨.builtin .max,_,_⟩=>true
 | o=>aK o
def ES(a b:Addr):Bool :=
 match a,b with
 | ⟨x,o,none⟩,⟨y,p,none⟩=>Nat.beq x y && Nat.beq o p
 | _,_=>false
def NN(f g:Fn):Bool :=
 match f,g with
 | .func f,.func g=>Nat.beq f g
 | .yield f,.yield g=>Nat.beq f g
 | _,_=>false
def BW(s:Value->Value->Bool):D0->D0->Bool
 | [],[]=>true
 | a::l,b::r=>s a b && BW s l r
 | _,_=>false
def xK:Nat->Value->Value->Bool
 | _,.bool a,.bool b=>a == b
 | _,.int k n,.int j m=>uH k j && BG n m
 | _,.complex .f64 i t,.complex .f64 j u=>Nat.beq i j && Nat.beq t u
 | _,.complex .f32 i t,.complex .f32 j u=>Nat.beq i j && Nat.beq t u
 | _,.string s,.string t=>decide (s.data.toList=t.data.toList)
 | _,.pointer none,.pointer none=>true
 | _,.pointer (some a),.pointer (some b)=>ES a b
 | _,.slice none n c,.slice none m d=>Nat.beq n m && Nat.beq c d
 | _,.slice (some a) n c,.slice (some b) m d=>ES a b && (Nat.beq n m && Nat.beq c d)
 | _,.map none,.map none=>true
 | _,.map (some a),.map (some b)=>Nat.beq a b
 | _,.nilFunc,.nilFunc=>true
 | _,.nilIface,.nilIface=>true
 | d+1,.func f a b,.func g a' b'=>NN f g && (BW (xK d) a.toList a'.toList && BW (xK d) b.toList b'.toList)
 | d+1,.iface t v,.iface u w=>Nat.beq t u && xK d v w
 | _,_,_=>false
def XO(a b:AB):Bool :=
 match a,b with
 | .frz,.frz=>true
 | .cells cs T ro,.cells cs' T' ro'=>BW (xK 6) cs cs' && (Nat.beq T T' && (ro == ro'))
 | _,_=>false
def YY(H:Hp AB)(b:Nat):Option (Nat×AB) :=
 match Hp.get H b with
 | some .frz=>some (b,.frz)
 | some (.cells cs T ro)=>some (b,.cells cs T ro)
 | _=>none
def KV(H:Hp AB)(fr:Fr)(o:Op):Option (Nat×AB) :=
 match o with
 | .load _ x=>match ev fr x with
   | .func (.yield 5) ⟨.pointer (some a)::_⟩ _=>YY H a.block
   | .pointer (some a)=>YY H a.block
   | _=>none
 | _=>none
def yX(H:Hp AB)(b:Nat)(ab:AB):Bool :=
 match Hp.get H b with
 | some x=>Nat.ble b H7 && XO x ab
 | none=>false
def sP:Nat:=262144
def FC(m:Mem)(r:Option (Nat×AB))(us:List Rec):Option Mem :=
 match m with
 | ⟨H,_,_,_,lg⟩=>match r with
   | none=>some ⟨hp0,sP,[],sP,lg⟩
   | some (b,ab)=>bif v8 (Z5 us) b || !(yX H b ab)then none else Hp.put hp0 b (some ab) fun H=>some ⟨H,sP,[],sP,lg⟩
def lH(fr:Fr)(m:Mem)(o:Oper)(b:List Nat)(rs:List Rec)(op:OpC):Option (Value×Lg) :=
 match FC m (KV m.H fr o.op) (CL b rs)with
 | some mv=>match op.run fr mv with
   | some (v,⟨_,_,[],hi,lg⟩)=>bif Nat.beq hi sP then some (v,lg)else none
   | _=>none
 | none=>none
abbrev Qs:=List (Nat×Option (Nat×AB))
def HB:Nat->H4->Qs->Bool
 | 0,_,_=>true
 | n+1,b,qs=>(v8 b n || qs.any fun q=>Nat.beq n q.1) && HB n b qs
def FQ(i:Nat):List H4->List Oper->Bool
 | c::bs,o::r=>(v8 c i || aK o.op) && FQ i bs r
 | _,_=>true
def A5g(H:Hp AB)(r:Option (Nat×AB)):Bool :=
 match r with
 | none=>true
 | some (b,ab)=>yX H b ab
def A0o(b:List Nat)(H:Hp AB)(a:Qs):Bool:=a.all fun q=>v8 b q.1 || A5g H q.2
def IM(o:Op)(i:Nat)(b:List Nat)(bs:List H4)(r:List Oper)(a:Qs):Bool:=wrO o && (HB i b a && FQ i bs r)
def o8(P:Program)(nt gl:Nat)(call:O8)(all:List Oper):List Oper->Nat->List H4->List Rec->Qs->S->Option S
 | [],_,_,_,_,s=>some s
 | _::_,_,[],_,_,_=>none
 | o::r,i,b::bs,rs,qs,⟨fr,⟨H,n,W,hi,lg⟩⟩=>match bG nt fr lg all o,zO nt o.dst && NZ nt gl o.op with
   | some (true,lg),true=>bif IM o.op i b bs r qs then(match (W4 P call o).run fr ⟨H,n,W,hi,lg⟩with
      | some (v,m2)=>bif Nat.ble hi m2.hi && A0o b m2.H qs then(vV o.dst).run v fr fun fr=>o8 P nt gl call all r (i+1) bs [] qs ⟨fr,m2⟩else none
      | none=>none)
     else match (bif A7P o.op then lH fr ⟨H,n,W,hi,lg⟩ o b rs (W4 P call o)else none)with
      | some (v,lg2)=>(vV o.dst).run v fr fun a=>o8 P nt gl call all r (i+1) bs rs ((i,KV H fr o.op)::qs) ⟨a,⟨H,n,W,hi,lg2⟩⟩
      | none=>bif aK o.op then none else TC fr ⟨H,n,W,hi,lg⟩ o b rs (W4 P call o) fun v m2 =>
        (vV o.dst).run v fr fun fr=>o8 P nt gl call all r (i+1) bs (⟨i,n,m2.n⟩::rs) qs ⟨fr,m2⟩
   | some (false,lg),true=>(vV o.dst).run undef fr fun fr=>o8 P nt gl call all r (i+1) bs rs ((i,none)::qs) ⟨fr,⟨H,n,W,hi,lg⟩⟩
   | _,_=>none
def A2K(l:List Nat)(b:Nat):H4:=bif v8 l b then l else J8 b fun b=>b::l
def RZ:H4->H4->H4
 | [],b=>b
 | x::a,b=>A2K (RZ a b) x
def sS(acc:List H4):List Edge->H4
 | []=>[]
 | e::r=>bif Region.binds .any e then A2K (RZ (acc.getD e.on []) (sS acc r)) e.on else sS acc r
def Z0:List Oper->List H4->List H4
 | [],acc=>acc
 | o::r,acc=>Q9 (sS acc o.after.toList) fun a=>Z0 r (acc++[a])
def pY:Operand->List Tmp
 | .tmp t=>[t]
 | _=>[]
def V4(ops:List Oper)(o:Oper):List Tmp :=
 o.dst.toList++(o.op.operands.toList.flatMap pY++(match o.guard with
  | none=>[]
  | some (j,_)=>match ops[j]? with
    | some p=>p.dst.toList
    | none=>[]))
def A26(a:List H4)(i k:Nat):Bool:=bif Nat.blt i k then v8 (a.getD k []) i else v8 (a.getD i []) k
def sV(a:List H4)(i:Nat)(b:List Tmp):List Oper->Nat->Bool
 | [],_=>true
 | p::r,k=>(Nat.beq k i || (match p.dst with|none=>true|some t=>!(v8 b t) || A26 a i k)) && sV a i b r (k+1)
def nR(i:Nat):List Edge->Bool
 | []=>true
 | e::r=>(!(Region.binds .any e) || Nat.blt e.on i) && nR i r
def JO(ops:List Oper)(a:List H4):List Oper->Nat->Bool
 | [],_=>true
 | o::r,i=>nR i o.after.toList && (sV a i (V4 ops o) ops 0 && JO ops a r (i+1))
def GS(ops:Array Oper):Bool:=JO ops.toList (Z0 ops.toList []) ops.toList 0
def GV:Op->Bool
 | .move _|.assign _|.load _ _|.store _ _ _=>true
 | _=>false
def mJ:Op->Option (TypeId×Operand)
 | .load t x=>some (t,x)
 | .store t x _=>some (t,x)
 | _=>none
def fV:Op->Bool
 | .store _ _ _=>true
 | _=>false
def YW:Op->List Tmp
 | .move x|.assign x=>pY x
 | .load _ x=>pY x
 | .store _ x y=>pY x++pY y
 | _=>[]
def CF(o:Oper)(l:List Tmp):Bool :=
 match o.dst with
 | some d=>v8 l d
 | none=>false
def A9h(a b:Oper):Bool :=
 (match a.dst,b.dst with
   | some d,some e=>!(Nat.beq d e)
   | _,_=>true) && (!(CF a (YW b.op)) && (!(CF b (YW a.op)) && !(fV a.op && fV b.op)))
def sI(o:Oper)(i:Nat):Bool:=o.after.any fun e=>Region.binds .any e && Nat.beq e.on i
def A2L(l:List Oper):List Tmp:=l.flatMap fun o=>match mJ o.op with
 | some (_,x)=>pY x
 | none=>[]
def FD(p:Oper->Oper->Bool)(l:List Oper):Bool :=
 (List.range l.length).all fun j=>(List.range j).all fun i=>match l[i]?,l[j]? with
   | some a,some b=>sI b i || p a b
   | _,_=>true
def A7W(a:List Tmp)(i:Nat)(o:Oper):Bool:=GV o.op && ((match o.guard with|none=>true|some _=>false) && (!(CF o a) && o.after.all fun e=>!(Region.binds .any e) || Nat.blt e.on i))
def ZX(a:List Tmp):Nat->List Oper->Bool
 | _,[]=>true
 | i,o::l=>A7W a i o && ZX a (i+1) l
def lF(l:List Oper):Bool:=ZX (A2L l) 0 l && FD A9h l
def ZP(P:Program)(nt gl:Nat)(fr:Fr)(H:Hp AB)(o:Oper):Bool :=
 match mJ o.op with
 | none=>true
 | some (t,x)=>bif !(okX nt gl x)then false else match ev fr x,aR P t,H1 P t with
   | .pointer (some a),some _,some s=>match a.spot,Hp.get H a.block with
     | none,some (.cells cs _ false)=>Nat.ble (a.off+s) cs.length && (Nat.blt a.off cs.length && Nat.ble a.block H7)
     | _,_=>false
   | _,_,_=>false
def A2I(fr:Fr)(a b:Oper):Bool :=
 bif fV a.op || fV b.op then match mJ a.op,mJ b.op with
  | some (_,x),some (_,y)=>match ev fr x,ev fr y with
    | .pointer (some p),.pointer (some q)=>!(Nat.beq p.block q.block)
    | _,_=>false
  | _,_=>true else true
def lQ(P:Program)(nt gl:Nat)(fr:Fr)(H:Hp AB)(l:List Oper):Bool:=l.all (ZP P nt gl fr H) && FD (A2I fr) l
structure gH where
 run:S->Option (Ex×S)
def CN(f:gH):Nat->S->Option (Ex×S)
 | 0,_=>none
 | n+1,s=>match f.run s with
   | some (.normal,s)=>CN f n s
   | r=>r
def A19(a b:gH)(s:S):Option (Ex×S) :=
 match a.run s with
 | some (.normal,s)=>b.run s
 | r=>r
def LX(c:XC)(a b:gH)(s:S):Option (Ex×S) :=
 match c.run s.fr with
 | .bool true=>a.run s
 | .bool false=>b.run s
 | v=>match s with
   | ⟨fr,⟨H,n,W,hi,lg⟩⟩=>match brL lg v with
     | some (true,lg)=>a.run ⟨fr,⟨H,n,W,hi,lg⟩⟩
     | some (false,lg)=>b.run ⟨fr,⟨H,n,W,hi,lg⟩⟩
     | none=>none
def zZ(id:Nat)(c:gH)(s:S):Option (Ex×S) :=
 match c.run s with
 | some (.exit j,s)=>bif Nat.beq j id then some (.normal,s)else some (.exit j,s)
 | r=>r
def Y6(r:A2N)(s:S):Option (Ex×S) :=
 match r.run s with
 | some s=>some (.normal,s)
 | none=>none
structure LpT where
 me:FuncId
 look:List Bool->Option (S->Option (Ex×S))
def CO(c:gH)(L:S->Option (Ex×S)):Nat->S->Option (Ex×S)
 | 0,_=>none
 | n+1,s=>match L s with
   | some r=>some r
   | none=>match c.run s with
     | some (.normal,s)=>CO c L n s
     | r=>r
def LV(c:gH)(l:Option (S->Option (Ex×S)))(s:S):Option (Ex×S) :=
 match l with
 | some f=>CO c f 4 s
 | none=>CN c 1000000 s
def frL(fr:Fr):Nat->Nat->D0
 | _,0=>[]
 | i,n+1=>fr.get i::frL fr (i+1) n
def A5B:Value->Nat
 | .pointer (some a)=>a.block
 | _=>0
def iI(v:Value):H4 :=
 match v with
 | .func (.yield 8) ⟨l⟩ ⟨[]⟩=>l.map A5B
 | _=>[]
def exN:Ex->Nat
 | .normal=>0
 | .ret=>2
 | .exit k=>k+4
def nEx:Nat->Option Ex
 | 0=>some .normal
 | 1=>none
 | 2=>some .ret
 | 3=>none
 | k+4=>some (.exit k)
def FW:Ex->Bool
 | .normal=>true
 | _=>false
def qV(fr:Fr)(hi:Nat)(b:Nat)(r:Res):Option (Ex×S) :=
 match r with
 | some (_,m)=>match Hp.get m.H b with
   | some (.lp f q vs st)=>match nEx st with
     | some e=>bif Nat.ble hi m.hi then match cK m b (.lp f q vs 3)with
       | some m=>some (e,⟨fr,m⟩)
       | none=>none else none
     | none=>none
   | _=>none
 | none=>none
def rV(P:Program)(f:FuncId):Bool :=
 match P.funcs.toList[f]? with
 | some fn=>match fn.body with
   | some _=>true
   | none=>false
 | none=>false
def cG(P:Program)(nt:Nat)(call:O8)(f:FuncId)(q:List Bool)(g:Value)(fr:Fr)(m:Mem):Option (Ex×S) :=
 Q9 (frL fr 0 nt) fun vs=>match Z4 m (.lp f q vs 0) yv with
 | some (v,m1)=>match wO g [v],eH v with
   | some (k,as),some b=>bif rV P k then qV fr m1.hi b ((call.fn k).run as m1)else none
   | _,_=>none
 | none=>none
def zY(P:Program)(nt:Nat)(call:O8)(f:FuncId)(q:List Bool)(x:XC)(s:S):Option (Ex×S) :=
 match s with
 | ⟨fr,m⟩=>bif Nat.ble nt 510 then match eH (fr.get 511)with
   | some d=>match Hp.get m.H d with
     | some (.lp _ _ _ 1)=>cG P nt call f q (x.run fr) fr m
     | _=>none
   | none=>bif nL (fr.get 511)then match Z4 m (.dfr true) (fun b=>.pointer (some ⟨b,0,none⟩))with
      | some (.pointer (some a),m1)=>Q9 (iI (fr.get 510)) fun l=>vS (sel 7) (sel 7) (sel 6) (dv (a.block::l)) fr fun c=>cG P nt call f q (x.run fr) c m1
      | _=>none else none
   else none
def N3(P:Program)(nt gl:Nat)(call:O8)(lp:LpT):List Bool->Code->gH
 | _,.skip=>⟨fun s=>some (.normal,s)⟩
 | _,.label _=>⟨fun s=>some (.normal,s)⟩
 | _,.region _ ops d=>match d with
   | false=>⟨fun s=>Y6 (U7 P nt gl call ops.toList ops.toList) s⟩
   | true=>bif GS ops then bif lF ops.toList then⟨fun s=>bif lQ P nt gl s.fr s.m.H ops.toList then Y6 (U7 P nt gl call ops.toList ops.toList) s else Y6 ⟨o8 P nt gl call ops.toList ops.toList 0 (Z0 ops.toList []) [] []⟩ s⟩
     else⟨fun s=>Y6 ⟨o8 P nt gl call ops.toList ops.toList 0 (Z0 ops.toList []) [] []⟩ s⟩else⟨fun _=>none⟩
 | q,.seq a b=>⟨fun s=>A19 (N3 P nt gl call lp (q++[false]) a) (N3 P nt gl call lp (q++[true]) b) s⟩
 | q,.cond c a b=>bif okX nt gl c then⟨fun s=>LX (R9 c) (N3 P nt gl call lp (q++[false]) a) (N3 P nt gl call lp (q++[true]) b) s⟩else⟨fun _=>none⟩
 | q,.block id c=>⟨fun s=>zZ id (N3 P nt gl call lp (q++[false]) c) s⟩
 | q,.loop c=>⟨fun s=>LV (N3 P nt gl call lp (q++[false]) c) (lp.look q) s⟩
 | q,.rangeFunc x _ _ _=>bif okX nt gl x then⟨fun s=>zY P nt call lp.me q (R9 x) s⟩else⟨fun _=>none⟩
 | q,.scope c=>N3 P nt gl call lp (q++[false]) c
 | _,.exit id=>⟨fun s=>some (.exit id,s)⟩
 | _,.ret=>⟨fun s=>some (.ret,s)⟩
 | _,_=>⟨fun _=>none⟩
def KR(ids:Value->List Nat):D0->H4
 | []=>[]
 | v::r=>ids v++KR ids r
def BE:Nat->Value->H4
 | 0,_=>[]
 | _+1,.pointer (some a)=>[a.block]
 | _+1,.slice (some a) _ _=>[a.block]
 | _+1,.map (some b)=>[b]
 | d+1,.func _ a b=>KR (BE d) a.toList++KR (BE d) b.toList
 | d+1,.iface _ v=>BE d v
 | d+1,.agg cs=>KR (BE d) cs.toList
 | d+1,.tuple cs=>KR (BE d) cs.toList
 | _+1,_=>[]
def A9j:AB->H4
 | .cells cs _ _=>KR (BE 10) cs
 | .mp _ _ _=>[]
 | .iter vs=>KR (BE 10) vs
 | .lp _ _ vs _=>KR (BE 10) vs
 | .dfr _=>[]
 | .sq _ _ _ g _=>[g]
 | .frz=>[]
def IZ(n0:Nat)(H:Hp AB):Nat->H4->H4->H4
 | 0,_,acc=>acc
 | _+1,[],acc=>acc
 | f+1,b::r,acc=>bif Nat.blt b n0 || v8 acc b then IZ n0 H f r acc else match Hp.get H b with
   | some ab=>IZ n0 H f (A9j ab++r) (b::acc)
   | none=>IZ n0 H f r acc
def eV(a H:Hp AB):H4->Hp AB
 | []=>H
 | b::r=>Hp.put H b (Hp.get a b) fun H=>eV a H r
def wOf(H:Hp AB):H4->H4
 | []=>[]
 | b::r=>(match Hp.get H b with|some ab=>A9j ab|none=>[])++wOf H r
def oG:H4->H4->H4
 | [],acc=>acc
 | b::r,acc=>bif v8 acc b then oG r acc else oG r (b::acc)
def nZ(low:Value->Bool):D0->Bool
 | []=>true
 | v::r=>low v && nZ low r
def i6(n:Nat):Nat->Value->Bool
 | 0,_=>false
 | _+1,.pointer (some a)=>Nat.blt a.block n
 | _+1,.slice (some a) _ _=>Nat.blt a.block n
 | _+1,.map (some b)=>Nat.blt b n
 | d+1,.func _ a b=>nZ (i6 n d) a.toList && nZ (i6 n d) b.toList
 | d+1,.iface _ v=>i6 n d v
 | d+1,.agg cs=>nZ (i6 n d) cs.toList
 | d+1,.tuple cs=>nZ (i6 n d) cs.toList
 | _+1,.complex _ _ _=>true
 | _+1,v=>I4 v
def A3K(n:Nat):Option AB->Bool
 | none=>true
 | some (.cells cs _ _)=>nZ (i6 n 10) cs
 | some (.mp _ _ _)=>true
 | some (.iter vs)=>nZ (i6 n 10) vs
 | some (.lp _ _ vs _)=>nZ (i6 n 10) vs
 | some (.dfr _)=>true
 | some (.sq _ _ _ g _)=>Nat.blt g n
 | some .frz=>true
def OF(n:Nat)(H:Hp AB):H4->Bool
 | []=>true
 | b::r=>A3K n (Hp.get H b) && OF n H r
def gcM(m m':Mem)(v:Value):Option Mem :=
 let W:=oG (m'.W.filter fun b=>Nat.blt b m.n || Nat.ble m'.hi b) []
 bif i6 m.n 10 v && OF m.n m'.H W then
  bif HA W then GG (eV m'.H m.H W) fun H=>J8 m'.hi fun hi=>Q9 (W++m.W) fun W=>some ⟨H,m.n,W,hi,m'.lg⟩else none
 else
  let ids:=(IZ m.n m'.H 100000 (BE 10 v++wOf m'.H W) []).filter fun b=>Nat.ble m.n b && Nat.blt b m'.hi
  bif HA (W++ids)then GG (eV m'.H m.H (W++ids)) fun H=>J8 m'.n fun n=>J8 m'.hi fun hi=>Q9 (W++m.W) fun W=>some ⟨H,n,W,hi,m'.lg⟩else none
def A8u(P:Program)(nt:Nat)(s:S):ResultVar->Q3
 | .tmp t=>bif Nat.blt t nt then some (s.fr.get t)else none
 | .cell a t=>bif Nat.blt a nt then match s.fr.get a with
   | .pointer (some a)=>RQ P s.m t a
   | _=>none else none
def UN(P:Program)(nt:Nat)(s:S):List ResultVar->Option D0
 | []=>some []
 | r::rs=>match A8u P nt s r,UN P nt s rs with
   | some v,some vs=>some (v::vs)
   | _,_=>none
def UM(fn:Func)(P:Program)(s:S):Q3 :=
 match UN P fn.ntmps s fn.results.toList with
 | some [v]=>some v
 | some vs=>some (.tuple ⟨vs⟩)
 | none=>none
def fF(fr:Fr):Nat->D0->Fr
 | _,[]=>fr
 | i,v::r=>vS (sel (i / 64%8)) (sel (i / 8%8)) (sel (i%8)) v fr fun fr=>fF fr (i+1) r
def tL(l:List UInt8)(c:UInt8):Nat->Int
 | i=>match l with
   | [] => -1
   | b::r=>bif decide (b=c)then(i:Int)else tL r c (i+1)
def tX(c:UInt8):List UInt8->Nat->Nat
 | [],n=>n
 | b::r,n=>bif decide (b=c)then J8 (n+1) (tX c r)else tX c r n
def oV(k:EK)(args:List Value)(m:Mem):Res :=
 match k,args with
 | .noEscape,[v]=>some (v,m)
 | .indexByteString,[.string s,.int .u8 (.ofNat c)]=>some (.int .i64 (tL s.data.toList (UInt8.ofNat c) 0),m)
 | .countString,[.string s,.int .u8 (.ofNat c)]=>some (.int .i64 (tX (UInt8.ofNat c) s.data.toList 0),m)
 | .makeNoZero e,[.int .i64 (.ofNat n)]=>bif Nat.ble n 1000000000 then Z4 m (.cells [] e false) fun b=>.slice (some ⟨b,0,none⟩) n M9 else none
 | _,_=>none
def qA:H4->Mem->Option Mem
 | [],m=>some m
 | b::r,m=>match Hp.get m.H b with
   | some (.dfr true)=>match cK m b (.dfr false)with
     | some m=>qA r m
     | none=>none
   | _=>none
def dvG(nt:Nat)(fr:Fr):H4:=bif Nat.ble nt 510 then iI (fr.get 510)else[]
def A8G(fn:Func)(P:Program)(m:Mem)(r:Option (Ex×S)):Res :=
 match r with
 | some (.normal,⟨fr,m1⟩)|some (.ret,⟨fr,m1⟩)=>match qA (dvG fn.ntmps fr) m1 with
   | some m1=>match UM fn P ⟨fr,m1⟩with
     | some v=>match gcM m m1 v with
       | some m=>some (v,m)
       | none=>none
     | none=>none
   | none=>none
 | _=>none
def NG(c:gH)(fr:Fr)(m:Mem):Option (Ex×S) :=
 match m with
 | ⟨H,n,_,hi,lg⟩=>c.run ⟨fr,⟨H,n,[],hi,lg⟩⟩
def AD(fn:Func)(P:Program)(c:gH)(args:List Value)(m:Mem):Res :=
 bif Nat.ble args.length fn.ntmps && Nat.ble fn.ntmps 512 then A8G fn P m (NG c (fF fr0 0 args) m)else none
structure Cx where
 P:Program
 ext:List (FuncId×EK)
 gl:Nat
 con:FuncId->Option FnC
 lp:FuncId->LpT
def DS(C:Cx)(call:O8)(f:FuncId):FnC :=
 match C.P.funcs.toList[f]? with
 | none=>⟨fun _ _=>none⟩
 | some fn=>match C.con f with
   | some c=>c
   | none=>match fn.body with
     | none=>match LD C.ext f with
       | some k=>⟨oV k⟩
       | none=>⟨fun _ _=>none⟩
     | some c=>⟨AD fn C.P (N3 C.P fn.ntmps C.gl call (C.lp f) [] c)⟩
def uR:List Tmp->D0->Fr->Option Fr
 | [],[],fr=>some fr
 | t::ts,v::vs,fr=>vS (sel (t / 64%8)) (sel (t / 8%8)) (sel (t%8)) v fr fun fr=>uR ts vs fr
 | _,_,_=>none
def qQ(b:Nat)(r:Option (Ex×S)):Res :=
 match r with
 | some (e,⟨_,m⟩)=>match Hp.get m.H b with
   | some (.lp f q vs 1)=>J8 (exN e) fun st=>match cK m b (.lp f q vs st)with
     | some m=>some (.bool (FW e),m)
     | none=>none
   | _=>none
 | none=>none
def qP(b:Nat)(c:gH)(r:Option (Ex×S)):Res :=
 match r with
 | some (.normal,⟨fr,m⟩)=>match Hp.get m.H b with
   | some (.lp f q vs 0)=>match cK m b (.lp f q vs 1)with
     | some m=>qQ b (c.run ⟨fr,m⟩)
     | none=>none
   | _=>none
 | _=>none
def EW(C:Cx)(call:O8):FnC:=⟨fun vs m =>
 match vs with
 | []=>none
 | v::args=>match eH v with
   | none=>none
   | some b=>match Hp.get m.H b with
     | some (.lp f q fs 0)=>match C.P.funcs.toList[f]? with
       | none=>none
       | some fn=>match fn.body with
         | none=>none
         | some body=>match G6 q body with
           | some (.rangeFunc _ ps as bd)=>bif Nat.ble fn.ntmps 510 && ps.toList.all (fun t=>Nat.blt t fn.ntmps)then match uR ps.toList args (fF fr0 0 fs)with
             | some fr=>vS (sel 7) (sel 7) (sel 7) v fr fun fr=>qP b (N3 C.P fn.ntmps C.gl call (C.lp f) (q++[true]) bd) ((N3 C.P fn.ntmps C.gl call (C.lp f) (q++[false]) as).run ⟨fr,m⟩)
             | none=>none else none
           | _=>none
     | _=>none⟩
def vG(C:Cx):Nat->O8
 | 0=>⟨fun _=>⟨fun _ _=>none⟩,⟨fun _ _=>none⟩⟩
 | d+1=>⟨DS C (vG C d),EW C (vG C d)⟩
end
end Go.Sx
