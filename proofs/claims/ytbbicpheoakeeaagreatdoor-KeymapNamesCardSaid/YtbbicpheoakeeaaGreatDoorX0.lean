/- The law KeymapNames: for every input the call returns true, and the arguments read behind it as they read before. No condition. -/
import Derived.WalkKit
import Derived.OrdersHeld
import Derived.KernelRfl
set_option linter.all false
set_option maxRecDepth 100000
set_option maxHeartbeats 4000000
namespace Go
variable {p:Prop}
abbrev eX:=@Array.all_eq_true'
abbrev I7:=@Array.ext'
abbrev B6:=@Array.getD_eq_getD_getElem?
abbrev S4:=@Array.getElem?_append_left
abbrev F0:=@Array.getElem?_eq_getElem
abbrev C6:=@Array.getElem?_eq_some_iff
abbrev G4:=@Array.getElem?_modify
abbrev d7:=@Array.getElem?_push
abbrev gG:=@Array.getElem?_replicate
abbrev o9:=@Array.getElem?_set
abbrev F8:=@Array.getElem?_setIfInBounds
abbrev P0:=@Array.getElem?_toList
abbrev Q9:=@Array.length_toList
abbrev fC:=@Array.mapM_eq_mapM_toList
abbrev Z1:=@Array.mk.injEq
abbrev Z5:=@BitVec.toNat_and
abbrev P4:=@BitVec.toNat_ofInt
abbrev G8:=@Bool.and_eq_true
abbrev mC:=@Bool.and_false
abbrev nQ:=@Bool.and_true
abbrev J7:=@Bool.eq_iff_iff
abbrev J3:=@Bool.false_eq_true
abbrev P8:=@Bool.false_or
abbrev P7:=@Bool.not_true
abbrev Z0:=@Bool.or_eq_false_iff
abbrev I5:=@Bool.or_eq_true
abbrev D5:=@Decidable.not_not
abbrev o8:=@Int.emod_lt_of_pos
abbrev m6:=@Int.emod_nonneg
abbrev iD:=@Int.eq_ofNat_of_zero_le
abbrev jZ:=@Int.ofNat.injEq
abbrev dK:=@Int.ofNat_le
abbrev U7:=@Int.toNat_natCast
abbrev dB:=@Int.toNat_of_nonneg
abbrev jY:=@List.all_append
abbrev bZ:=@List.all_cons
abbrev D3:=@List.all_eq_true
abbrev P6:=@List.any_cons
abbrev P3:=@List.any_eq_true
abbrev M4:=@List.append_assoc
abbrev Q7:=@List.append_nil
abbrev J2:=@List.cons.injEq
abbrev R7:=@List.cons_append
abbrev cO:=@List.count_le_length
abbrev eW:=@List.drop_drop
abbrev Z7:=@List.drop_eq_getElem_cons
abbrev R4:=@List.drop_eq_nil_of_le
abbrev eV:=@List.drop_zero
abbrev bQ:=@List.eq_nil_iff_forall_not_mem
abbrev M3:=@List.eq_nil_of_length_eq_zero
abbrev aT:=@List.ext_getElem?
abbrev dA:=@List.filter_eq_self
abbrev jX:=@List.find?_cons
abbrev fX:=@List.flatMap_cons
abbrev O4:=@List.flatten_cons
abbrev bP:=@List.flatten_nil
abbrev B1:=@List.getD_eq_getElem?_getD
abbrev E9:=@List.getElem?_append_left
abbrev E0:=@List.getElem?_append_right
abbrev Q3:=@List.getElem?_cons_succ
abbrev Q2:=@List.getElem?_cons_zero
abbrev H7:=@List.getElem?_drop
abbrev A5:=@List.getElem?_eq_getElem
abbrev T5:=@List.getElem?_eq_none
abbrev fB:=@List.getElem?_eq_none_iff
abbrev B0:=@List.getElem?_eq_some_iff
abbrev F3:=@List.getElem?_map
abbrev cN:=@List.getElem?_set_ne
abbrev R3:=@List.getElem?_set_self
abbrev F2:=@List.getElem?_take_of_lt
abbrev I3:=@List.getElem?_toArray
abbrev N1:=@List.getElem_mem
abbrev c9:=@List.getElem_of_mem
abbrev D0:=@List.length_append
abbrev D8:=@List.length_cons
abbrev D1:=@List.length_drop
abbrev G1:=@List.length_eq_zero_iff
abbrev E4:=@List.length_map
abbrev I4:=@List.length_nil
abbrev cZ:=@List.length_pos_iff
abbrev T4:=@List.length_replicate
abbrev L9:=@List.length_set
abbrev bC:=@List.length_singleton
abbrev G7:=@List.length_take
abbrev Q6:=@List.map_append
abbrev cY:=@List.map_congr_left
abbrev B9:=@List.map_cons
abbrev jL:=@List.map_map
abbrev F7:=@List.map_nil
abbrev B7:=@List.mem_append
abbrev B3:=@List.mem_cons
abbrev C3:=@List.mem_cons_of_mem
abbrev B2:=@List.mem_cons_self
abbrev O6:=@List.mem_filter
abbrev K1:=@List.mem_map
abbrev C7:=@List.mem_of_getElem?
abbrev cM:=@List.mem_of_mem_drop
abbrev fA:=@List.mem_or_eq_of_mem_set
abbrev S3:=@List.mem_range
abbrev S2:=@List.mem_singleton
abbrev G3:=@List.nil_append
abbrev fW:=@List.nodup_append
abbrev L1:=@List.not_mem_nil
abbrev bB:=@List.take_append_drop
abbrev bY:=@Nat.add_assoc
abbrev jK:=@Nat.add_comm
abbrev H4:=@Nat.add_mul
abbrev W1:=@Nat.add_sub_cancel_left
abbrev jJ:=@Nat.add_zero
abbrev bO:=@Nat.and_le_right
abbrev cX:=@Nat.and_mod_two_pow
abbrev dJ:=@Nat.beq_refl
abbrev oO:=@Nat.ble_eq
abbrev C4:=@Nat.ble_eq_true_of_le
abbrev A0:=@Nat.eq_of_beq_eq_true
abbrev S1:=@Nat.eq_zero_or_pos
abbrev A1:=@Nat.le_of_ble_eq_true
abbrev jH:=@Nat.le_of_lt
abbrev A7:=@Nat.le_refl
abbrev Y9:=@Nat.le_succ
abbrev B8:=@Nat.le_trans
abbrev D4:=@Nat.lt_of_lt_of_le
abbrev F6:=@Nat.lt_or_ge
abbrev I9:=@Nat.lt_succ_self
abbrev Z4:=@Nat.mod_eq_of_lt
abbrev oN:=@Nat.mod_lt
abbrev aR:=@Nat.mul_comm
abbrev o7:=@Nat.mul_div_cancel
abbrev eU:=@Nat.mul_le_mul
abbrev F4:=@Nat.mul_le_mul_right
abbrev fV:=@Nat.one_mul
abbrev cL:=@Nat.pow_le_pow_right
abbrev jG:=@Nat.sub_self
abbrev Y0:=@Nat.succ_le_of_lt
abbrev F1:=@Nat.zero_add
abbrev mB:=@Nat.zero_le
abbrev jF:=@Nat.zero_mul
abbrev E3:=@Option.bind_eq_some_iff
abbrev J6:=@Option.bind_some
abbrev bN:=@Option.getD_some
abbrev aP:=@Option.map_eq_some_iff
abbrev K9:=@Option.map_some
abbrev A8:=@Option.some.inj
abbrev D2:=@Option.some.injEq
abbrev L8:=@Prod.mk.injEq
abbrev A4:=@Sem.run_bind
abbrev D7:=@cond_false
abbrev E1:=@cond_true
abbrev D9:=@congrArg
abbrev E7:=@decide_eq_false
abbrev K8:=@decide_eq_true
abbrev A6:=@if_neg
abbrev A9:=@if_pos
abbrev G6:=@of_decide_eq_true
def C5(h:p:=by kernel_rfl):p:=h
def K2{α:Type}{a:Option α}{b c:α}(h:a=some b)(e:b=c:=by kernel_rfl):a=some c:=h.trans (by rw[e])
def A2(h:p:=by omega):p:=h
def F5(h:p:=by decide):p:=h
end Go
namespace Go.Sx
section
open Go
abbrev C9:=List Value
abbrev G9:=List Nat
abbrev Q0:=Option Value
abbrev V9:=Array Value
structure N8 (α:Type) where
 c0:α
 c1:α
 c2:α
 c3:α
 c4:α
 c5:α
 c6:α
 c7:α
structure Sel where
 get:{α:Type}->N8 α->α
 upd:{α β:Type}->N8 α->α->(N8 α->β)->β
def sel:Nat->Sel
 | 0=>⟨fun n=>n.c0,fun n v k=>match n with|⟨a0,a1,a2,a3,a4,a5,a6,a7⟩=>k ⟨v,a1,a2,a3,a4,a5,a6,a7⟩⟩
 | 1=>⟨fun n=>n.c1,fun n v k=>match n with|⟨a0,a1,a2,a3,a4,a5,a6,a7⟩=>k ⟨a0,v,a2,a3,a4,a5,a6,a7⟩⟩
 | 2=>⟨fun n=>n.c2,fun n v k=>match n with|⟨a0,a1,a2,a3,a4,a5,a6,a7⟩=>k ⟨a0,a1,v,a3,a4,a5,a6,a7⟩⟩
 | 3=>⟨fun n=>n.c3,fun n v k=>match n with|⟨a0,a1,a2,a3,a4,a5,a6,a7⟩=>k ⟨a0,a1,a2,v,a4,a5,a6,a7⟩⟩
 | 4=>⟨fun n=>n.c4,fun n v k=>match n with|⟨a0,a1,a2,a3,a4,a5,a6,a7⟩=>k ⟨a0,a1,a2,a3,v,a5,a6,a7⟩⟩
 | 5=>⟨fun n=>n.c5,fun n v k=>match n with|⟨a0,a1,a2,a3,a4,a5,a6,a7⟩=>k ⟨a0,a1,a2,a3,a4,v,a6,a7⟩⟩
 | 6=>⟨fun n=>n.c6,fun n v k=>match n with|⟨a0,a1,a2,a3,a4,a5,a6,a7⟩=>k ⟨a0,a1,a2,a3,a4,a5,v,a7⟩⟩
 | _=>⟨fun n=>n.c7,fun n v k=>match n with|⟨a0,a1,a2,a3,a4,a5,a6,a7⟩=>k ⟨a0,a1,a2,a3,a4,a5,a6,v⟩⟩
def oM{α:Type}(v:α):N8 α:=⟨v,v,v,v,v,v,v,v⟩
def EX{α β:Type}(n:N8 α)(k:N8 α->β):β :=
 match n with
 | ⟨a0,a1,a2,a3,a4,a5,a6,a7⟩=>k ⟨a0,a1,a2,a3,a4,a5,a6,a7⟩
abbrev Fr:=N8 (N8 (N8 Value))
def Fr.get(fr:Fr)(t:Nat):Value:=(sel (t%8)).get ((sel (t / 8%8)).get ((sel (t / 64%8)).get fr))
def uT{β:Type}(a b c:Sel)(v:Value)(fr:Fr)(k:Fr->β):β :=
 c.upd (b.get (a.get fr)) v fun d=>b.upd (a.get fr) d fun e=>a.upd fr e k
def Fr.set(fr:Fr)(t:Nat)(v:Value):Fr:=uT (sel (t / 64%8)) (sel (t / 8%8)) (sel (t%8)) v fr fun fr=>fr
def fr0:Fr:=oM (oM (oM (.tuple #[])))
abbrev Hp(α:Type):=N8 (N8 (N8 (N8 (N8 (N8 (Option α))))))
def Hp.get{α:Type}(h:Hp α)(n:Nat):Option α :=
 (sel (n%8)).get ((sel (n / 8%8)).get ((sel (n / 64%8)).get ((sel (n / 512%8)).get ((sel (n / 4096%8)).get ((sel (n / 32768%8)).get h)))))
def X3{α β:Type}(a b c d e f:Sel)(v:Option α)(h:Hp α)(k:Hp α->β):β :=
 f.upd (e.get (d.get (c.get (b.get (a.get h))))) v fun l=>e.upd (d.get (c.get (b.get (a.get h)))) l fun i=>d.upd (c.get (b.get (a.get h))) i fun j=>c.upd (b.get (a.get h)) j fun g=>b.upd (a.get h) g fun m=>a.upd h m k
def Hp.put{α β:Type}(h:Hp α)(n:Nat)(v:Option α)(k:Hp α->β):β :=
 X3 (sel (n / 32768%8)) (sel (n / 4096%8)) (sel (n / 512%8)) (sel (n / 64%8)) (sel (n / 8%8)) (sel (n%8)) v h k
def Hp.set{α:Type}(h:Hp α)(n:Nat)(v:Option α):Hp α:=h.put n v fun h=>h
def hp0{α:Type}:Hp α:=oM (oM (oM (oM (oM (oM none)))))
def H5:Nat:=262143
def J4{β:Type}(n:Nat)(k:Nat->β):β :=
 match n with
 | 0=>k 0
 | m+1=>k (Nat.succ m)
def yF{β:Type}(i:Int)(k:Int->β):β :=
 match i with
 | .ofNat n=>J4 n fun n=>k (.ofNat n)
 | .negSucc n=>J4 n fun n=>k (.negSucc n)
def Q5{α β:Type}:List α->(List α->β)->β
 | [],k=>k []
 | x::r,k=>Q5 r fun r=>k (x::r)
def LS:IntKind->Nat
 | .i8=>127|.i16=>32767|.i32=>2147483647|.i64=>9223372036854775807
 | .u8=>255|.u16=>65535|.u32=>4294967295|.u64=>18446744073709551615
def AK(k:IntKind)(n:Int):Int :=
 match n with
 | .ofNat m=>bif Nat.ble m (LS k)then .ofNat m else k.wrap (.ofNat m)
 | .negSucc m=>k.wrap (.negSucc m)
def A87(a b:Int):Int :=
 match a,b with
 | .ofNat m,.ofNat n=>.ofNat (Nat.add m n)
 | a,b=>a+b
def A5u(a b:Int):Int :=
 match a,b with
 | .ofNat m,.ofNat n=>bif Nat.ble n m then .ofNat (Nat.sub m n)else .ofNat m - .ofNat n
 | a,b=>a-b
def A7v(a b:Int):Int :=
 match a,b with
 | .ofNat m,.ofNat n=>.ofNat (Nat.mul m n)
 | a,b=>a*b
def ltF(a b:Int):Bool :=
 match a,b with
 | .ofNat m,.ofNat n=>Nat.blt m n
 | .negSucc _,.ofNat _=>true
 | .ofNat _,.negSucc _=>false
 | .negSucc m,.negSucc n=>Nat.blt n m
def leF(a b:Int):Bool :=
 match a,b with
 | .ofNat m,.ofNat n=>Nat.ble m n
 | .negSucc _,.ofNat _=>true
 | .ofNat _,.negSucc _=>false
 | .negSucc m,.negSucc n=>Nat.ble n m
def AG(a b:Int):Bool :=
 match a,b with
 | .ofNat m,.ofNat n=>Nat.beq m n
 | .negSucc m,.negSucc n=>Nat.beq m n
 | _,_=>false
def tI:IntKind->IntKind->Bool
 | .i8,.i8|.i16,.i16|.i32,.i32|.i64,.i64|.u8,.u8|.u16,.u16|.u32,.u32|.u64,.u64=>true
 | _,_=>false
def mkI(k:IntKind)(n:Int):Value:=yF n fun n=>.int k n
inductive U where
 | none
 | int (k:IntKind) (n:Int)
 | bool (b:Bool)
 | str (s:List UInt8)
 | seq (nul:Bool) (w:Nat) (rows:List (List U))
inductive LOp where
 | bin (op:BinOp)
 | un (op:UnOp)
 | conv (k:IntKind)
 | len
 | idx
 | sub
 | sub1
 | sel
 | eqs
 | inb
 | max
 | min
 | mks
 | inbs (w:Nat)
 | get (w o:Nat)
 | mk (w:Nat)
 | nilw (w:Nat)
 | nilp
 | snoc (w:Nat)
 | cat (w:Nat)
 | cats
 | set (w o:Nat)
 | subs (w:Nat)
 | str
 | byt
 | rep (w:Nat)
 | ustr
 | mhas (w kw:Nat)
 | mget (w kw o:Nat)
 | mput (w kw:Nat)
 | rune
 | rpos
inductive i7 where
 | lt (i t:Nat) (op:LOp) (xs:List Value)
 | dt (i t:Nat) (op:LOp) (xs:List Value)
 | br (i:Nat) (b:Bool)
 | as (op:LOp) (xs:List Value)
 | con (spec:List U->Option (Nat×List U)) (xs:List Value) (i d n:Nat)
structure Lg where
 nx:Nat
 pi:G9
 log:List i7
def hole(i t:Nat):Value:=.complex .f64 i t
def junk:Value:=.complex .f32 0 0
def ixp(a:Addr)(s:Nat)(i:Value)(n:Nat):Value:=.func (.yield 1) ⟨[.pointer (some a),.int .i64 (.ofNat s),i,.int .i64 (.ofNat n)]⟩ ⟨[]⟩
def dat(b i t:Nat):Value:=.func (.yield 2) ⟨[.pointer (some ⟨b,0,none⟩),.complex .f64 i t]⟩ ⟨[]⟩
def clp(b i t:Nat):Value:=.func (.yield 3) ⟨[.pointer (some ⟨b,0,none⟩),.complex .f64 i t]⟩ ⟨[]⟩
def own(b i t:Nat):Value:=.func (.yield 4) ⟨[.pointer (some ⟨b,0,none⟩),.complex .f64 i t]⟩ ⟨[]⟩
def dpt(b i t:Nat)(z:Value)(o:Nat):Value:=.func (.yield 5) ⟨[.pointer (some ⟨b,0,none⟩),.complex .f64 i t,z,.int .i64 (.ofNat o)]⟩ ⟨[]⟩
def opt(b i t:Nat)(z:Value)(o:Nat):Value:=.func (.yield 6) ⟨[.pointer (some ⟨b,0,none⟩),.complex .f64 i t,z,.int .i64 (.ofNat o)]⟩ ⟨[]⟩
def yv(b:Nat):Value:=.func (.yield 7) ⟨[.pointer (some ⟨b,0,none⟩)]⟩ ⟨[]⟩
def sdt(b:Nat):Value:=.func (.yield 9) ⟨[.pointer (some ⟨b,0,none⟩)]⟩ ⟨[]⟩
def dv(ids:List Nat):Value:=.func (.yield 8) ⟨ids.map fun b=>.pointer (some ⟨b,0,none⟩)⟩ ⟨[]⟩
def A0O:Value->Bool
 | .complex .f32 _ _=>true
 | _=>false
def one:Value:=.complex .f32 1 0
def iV:Value->Bool
 | .complex .f32 i _=>!(Nat.beq i 1)
 | _=>false
def hH:IntKind->Nat
 | .i8=>0|.i16=>1|.i32=>2|.i64=>3|.u8=>4|.u16=>5|.u32=>6|.u64=>7
def G2:Value->Nat
 | .int k _=>hH k
 | .bool _=>8
 | .string _=>9
 | .complex .f64 _ t=>t
 | _=>99
inductive AB where
 | cells (cs:List Value) (T:TypeId) (ro:Bool)
 | sq (c t:Nat) (T:TypeId) (g:Nat) (ro:Bool)
 | frz
 | mp (c t:Nat) (T:TypeId)
 | iter (vs:List Value)
 | lp (f:FuncId) (q:List Bool) (vs:List Value) (st:Nat)
 | dfr (b:Bool)
structure Mem where
 H:Hp AB
 n:Nat
 W:G9
 hi:Nat
 lg:Lg
structure S where
 fr:Fr
 m:Mem
inductive Ex where
 | normal
 | exit (id:Nat)
 | ret
def H9:List Bool->Code->Option Code
 | [],c=>some c
 | false::q,.seq a _=>H9 q a
 | true::q,.seq _ b=>H9 q b
 | false::q,.cond _ a _=>H9 q a
 | true::q,.cond _ _ b=>H9 q b
 | false::q,.block _ c=>H9 q c
 | false::q,.scope c=>H9 q c
 | false::q,.loop c=>H9 q c
 | false::q,.rangeFunc _ _ a _=>H9 q a
 | true::q,.rangeFunc _ _ _ b=>H9 q b
 | _::_,_=>none
def M5:Nat:=9223372036854775808
def I1:Value->Bool
 | .bool _|.int _ _|.string _|.pointer none|.slice none _ _|.map none|.nilFunc|.nilIface=>true
 | _=>false
def PY:Value->Bool
 | .agg cs=>cs.toList.all I1
 | v=>I1 v
def ev(fr:Fr):Operand->Value
 | .tmp t=>fr.get t
 | .const v=>v
 | .global g=>.pointer (some ⟨g,0,none⟩)
 | .func f=>.func (.func f) #[] #[]
def okX(nt gl:Nat):Operand->Bool
 | .tmp t=>Nat.blt t nt
 | .const v=>PY v
 | .global g=>Nat.blt g gl
 | .func _=>true
def evL(fr:Fr):List Operand->C9
 | []=>[]
 | x::r=>ev fr x::evL fr r
def evP(fr:Fr):List (Nat×Operand)->List (Nat×Value)
 | []=>[]
 | (i,x)::r=>(i,ev fr x)::evP fr r
def evO(fr:Fr):Option Operand->Q0
 | none=>none
 | some x=>some (ev fr x)
structure XC where
 run:Fr->Value
def B1A(a b c:Sel):XC:=⟨fun fr=>c.get (b.get (a.get fr))⟩
def R5:Operand->XC
 | .tmp t=>B1A (sel (t / 64%8)) (sel (t / 8%8)) (sel (t%8))
 | .const v=>⟨fun _=>v⟩
 | .global g=>⟨fun _=>.pointer (some ⟨g,0,none⟩)⟩
 | .func f=>⟨fun _=>.func (.func f) #[] #[]⟩
def dT(x:Operand)(fr:Fr):(R5 x).run fr=ev fr x:=by cases x<;>rfl
structure LC where
 run:Fr->C9
def A8r(x:XC)(r:LC)(fr:Fr):C9:=x.run fr::r.run fr
def uE:List Operand->LC
 | []=>⟨fun _=>[]⟩
 | x::r=>⟨fun fr=>A8r (R5 x) (uE r) fr⟩
def nA(fr:Fr):∀ xs:List Operand,(uE xs).run fr=evL fr xs
 | []=>rfl
 | x::r=>by
   show(R5 x).run fr::(uE r).run fr=_;rw[dT,nA fr r];rfl
abbrev Res:=Option (Value×Mem)
def upN(hi n:Nat):Nat:=bif Nat.blt n hi then hi else Nat.succ n
def Mem.wLg(m:Mem)(lg:Lg):Mem :=
 match m with
 | ⟨H,n,W,hi,_⟩=>⟨H,n,W,hi,lg⟩
def T9(m:Mem)(t:Nat)(op:LOp)(xs:List Value):Res :=
 match m with
 | ⟨H,n,W,hi,⟨nx,pi,log⟩⟩=>J4 nx fun nx=>J4 t fun t=>Q5 xs fun xs=>some (hole nx t,⟨H,n,W,hi,⟨Nat.succ nx,pi,.lt nx t op xs::log⟩⟩)
def uU(m:Mem)(t:Nat)(op:LOp)(xs:List Value)(k:Nat->Mem->Res):Res :=
 match m with
 | ⟨H,n,W,hi,⟨nx,pi,log⟩⟩=>J4 nx fun nx=>J4 t fun t=>Q5 xs fun xs=>k nx ⟨H,n,W,hi,⟨Nat.succ nx,pi,.dt nx t op xs::log⟩⟩
def yJ:List i7->Nat->Option Bool
 | [],_=>none
 | .br j b::r,i=>bif Nat.beq j i then some b else yJ r i
 | _::r,i=>yJ r i
def brL(lg:Lg)(c:Value):Option (Bool×Lg) :=
 match c with
 | .bool b=>some (b,lg)
 | .complex .f64 i 8=>match lg with
   | ⟨nx,pi,log⟩=>match yJ log i with
     | some b=>some (b,⟨nx,pi,log⟩)
     | none=>match pi with
       | 1::r=>some (true,⟨nx,r,.br i true::log⟩)
       | 0::r=>some (false,⟨nx,r,.br i false::log⟩)
       | _=>none
 | _=>none
def Y6(m:Mem)(ab:AB)(k:Nat->Value):Res :=
 match m with
 | ⟨H,n,W,hi,lg⟩=>bif Nat.ble n H5 then J4 n fun n=>J4 (upN hi n) fun hi=>Hp.put H n (some ab) fun H=>some (k n,⟨H,Nat.succ n,W,hi,lg⟩)else none
def cA(m:Mem)(id:Nat)(ab:AB):Option Mem :=
 match m with
 | ⟨H,n,W,hi,lg⟩=>bif Nat.ble id H5 then Hp.put H id (some ab) fun H=>J4 id fun id=>some ⟨H,n,id::W,hi,lg⟩else none
def jQ(m:Mem)(id:Nat):Mem :=
 match m with
 | ⟨H,n,W,hi,lg⟩=>Hp.put H id none fun H=>J4 id fun id=>⟨H,n,id::W,hi,lg⟩
def A00(cs:List Value)(o n:Nat):Option C9 :=
 let r:=(cs.drop o).take n
 bif Nat.beq r.length n then some r else none
def s8(m:Mem)(a:Addr)(n:Nat):Option C9 :=
 match a.spot,Hp.get m.H a.block with
 | none,some (.cells cs _ _)=>A00 cs a.off n
 | _,_=>none
def cC:C9->Nat->C9->C9
 | cs,_,[]=>cs
 | cs,k,v::r=>cC (cs.set k v) (k+1) r
def flat:Value->Bool
 | .agg _|.tuple _=>false
 | .complex .f32 i _=>Nat.beq i 1
 | _=>true
def nR(m:Mem)(a:Addr)(vs:List Value):Option Mem :=
 match a.spot,Hp.get m.H a.block with
 | none,some (.cells cs T false) =>
   bif Nat.ble (a.off+vs.length) cs.length && vs.all flat then Q5 (cC cs a.off vs) fun cs=>cA m a.block (.cells cs T false)else none
 | _,_=>none
variable (P:Program)
def y9(t:TypeId):Option Bool :=
 match P.underlying t with
 | some (.struct _)|some (.array _ _)=>some true
 | some _=>some false
 | none=>none
def G5(t:TypeId):Option Nat :=
 match P.info? t with
 | some i=>some i.size
 | none=>none
def fD(t:TypeId):Q0 :=
 match P.info? t with
 | some i=>match i.zero with
   | some v=>bif PY v then some v else none
   | none=>none
 | none=>none
def QO(m:Mem)(t:TypeId)(a:Addr):Q0 :=
 match y9 P t with
 | some true=>match G5 P t with
   | some n=>match s8 m a n with
     | some cs=>some (.agg ⟨cs⟩)
     | none=>none
   | none=>none
 | some false=>match s8 m a 1 with
   | some (v::_)=>some v
   | _=>none
 | none=>none
def wF(m:Mem)(t:TypeId)(a:Addr)(v:Value):Option Mem :=
 match G5 P t with
 | some n=>bif Nat.beq v.cells.size n && !(iV v)then nR m a v.cells.toList else none
 | none=>none
def qC(t:TypeId)(cs:List Value)(off:Nat):Q0 :=
 match y9 P t with
 | some true=>match G5 P t with
   | some n=>match A00 cs off n with
     | some r=>some (.agg ⟨r⟩)
     | none=>none
   | none=>none
 | some false=>cs[off]?
 | none=>none
def A3R(e:TypeId)(s i:Nat):Field:={ name := "x",type:=e,offset:=i*s,embedded:=false,tag := "",pkgPath := "",byteOffset:=0 }
mutual
def eqM:Nat->TypeId->Value->Value->Option Bool
 | 0,_,_,_=>none
 | d+1,t,x,y=>match P.underlying t,x,y with
   | some .bool,.bool a,.bool b=>some (a == b)
   | some (.int _),.int k a,.int j b=>bif decide (k=j)then some (a == b)else none
   | some .string,.string a,.string b=>some (a.data.toList == b.data.toList)
   | some (.pointer _),.pointer none,.pointer b=>some b.isNone
   | some (.pointer _),.pointer (some _),.pointer none=>some false
   | some (.interface _),.nilIface,.nilIface=>some true
   | some (.interface _),.nilIface,.iface _ _=>some false
   | some (.interface _),.iface _ _,.nilIface=>some false
   | some (.interface _),.iface tx vx,.iface ty vy=>bif Nat.beq tx ty then(match P.info? tx with
     | some i=>bif i.comparable then eqM d tx vx vy else none
     | none=>none)else some false
   | some (.slice _),.slice none _ _,.slice b _ _=>some b.isNone
   | some (.slice _),.slice (some _) _ _,.slice none _ _=>some false
   | some (.map _ _),.map none,.map b=>some b.isNone
   | some (.func _ _ _),.nilFunc,.nilFunc=>some true
   | some (.func _ _ _),.nilFunc,.func (.func _) _ _=>some false
   | some (.func _ _ _),.func (.func _) _ _,.nilFunc=>some false
   | some (.struct fs),.agg xs,.agg ys=>bif P.stoodInHeld t then none else eqF d fs.toList xs.toList ys.toList
   | some (.array n e),.agg xs,.agg ys=>match G5 P e with
     | some s=>eqF d ((List.range n).map (A3R e s)) xs.toList ys.toList
     | none=>none
   | _,_,_=>none
def eqF:Nat->List Field->C9->C9->Option Bool
 | 0,_,_,_=>none
 | _+1,[],_,_=>some true
 | d+1,f::fs,xs,ys =>
   bif f.name == "_" then none else
   match qC P f.type xs f.offset,qC P f.type ys f.offset with
   | some x,some y=>match eqM d f.type x y with
     | some true=>eqF d fs xs ys
     | some false=>some false
     | none=>none
   | _,_=>none
end
def isC:Operand->Bool
 | .const _=>true
 | _=>false
def lL(t:TypeId)(x y:Operand)(a b:Value):Bool :=
 match a,b with
 | .nilIface,.nilIface=>isC x || isC y
 | .agg _,.agg _=>!P.eqGuardType P.depth t
 | a,b=>!(A0O a) && !(A0O b)
def zE(op:BinOp)(k:IntKind)(x y:Int):Q0 :=
 match op with
 | .and=>some (.int k (k.wrap (BitVec.ofInt k.bits x &&& BitVec.ofInt k.bits y).toNat))
 | .or=>some (.int k (k.wrap (BitVec.ofInt k.bits x ||| BitVec.ofInt k.bits y).toNat))
 | .xor=>some (.int k (k.wrap (BitVec.ofInt k.bits x ^^^ BitVec.ofInt k.bits y).toNat))
 | .andNot=>some (.int k (k.wrap (BitVec.ofInt k.bits x &&& ~~~BitVec.ofInt k.bits y).toNat))
 | _=>none
def ltL:List UInt8->List UInt8->Bool
 | _,[]=>false
 | [],_::_=>true
 | a::x,b::y=>a<b || (a == b && ltL x y)
def kC(op:BinOp)(k:IntKind)(a b:Int):Q0 :=
 match op with
 | .add=>some (mkI k (AK k (A87 a b)))
 | .sub=>some (mkI k (AK k (A5u a b)))
 | .mul=>some (mkI k (AK k (A7v a b)))
 | .quo=>bif AG b 0 then none else some (mkI k (k.wrap (a.tdiv b)))
 | .rem=>bif AG b 0 then none else some (mkI k (a.tmod b))
 | .eql=>some (.bool (AG a b))
 | .neq=>some (.bool (!(AG a b)))
 | .lss=>some (.bool (ltF a b))
 | .leq=>some (.bool (leF a b))
 | .gtr=>some (.bool (ltF b a))
 | .geq=>some (.bool (leF b a))
 | op=>zE op k a b
def MH(left:Bool)(k:IntKind)(a:Int)(b:Nat):Value :=
 bif left then mkI k (k.wrap (a*2 ^ (min b k.bits)))else mkI k (a.fdiv (2 ^ (min b k.bits)))
def VO(op:BinOp)(a b:ByteArray):Q0 :=
 match op with
 | .add=>bif Nat.ble (a.size+b.size) 1000000000 then Q5 (a.data.toList++b.data.toList) fun l=>some (.string ⟨⟨l⟩⟩)else none
 | .eql=>some (.bool (a.data.toList == b.data.toList))
 | .neq=>some (.bool (!(a.data.toList == b.data.toList)))
 | .lss=>some (.bool (ltL a.data.toList b.data.toList))
 | .leq=>some (.bool (ltL a.data.toList b.data.toList || (a.data.toList == b.data.toList)))
 | .gtr=>some (.bool (!(ltL a.data.toList b.data.toList || (a.data.toList == b.data.toList))))
 | .geq=>some (.bool (!(ltL a.data.toList b.data.toList)))
 | _=>none
def BB(op:BinOp)(t:TypeId)(x y:Value):Q0 :=
 match op with
 | .eql=>match eqM P 20 t x y with
   | some b=>some (.bool b)
   | none=>none
 | .neq=>match eqM P 20 t x y with
   | some b=>some (.bool (!b))
   | none=>none
 | _=>none
def hJ:BinOp->Option Bool
 | .shl=>some true
 | .shr=>some false
 | _=>none
def aB(op:BinOp)(k j:IntKind)(a b:Int):Q0 :=
 match hJ op with
 | some l=>match b with
   | .ofNat n=>some (MH l k a n)
   | .negSucc _=>none
 | none=>bif tI k j then kC op k a b else none
def rN(op:BinOp)(t:TypeId)(x y:Value):Q0 :=
 match x,y with
 | .int k a,.int j b=>aB op k j a b
 | .string a,.string b=>VO op a b
 | x,y=>BB P op t x y
def unM(op:UnOp)(x:Value):Q0 :=
 match op,x with
 | .neg,.int k n=>some (mkI k (k.wrap (0-n)))
 | .xor,.int k n=>zE .xor k (if k.signed then -1 else k.max) n
 | .not,.bool b=>some (.bool !b)
 | _,_=>none
def bytesOf:C9->Option (List UInt8)
 | []=>some []
 | .int .u8 n::r=>match bytesOf r with
   | some l=>some (UInt8.ofNat n.toNat::l)
   | none=>none
 | _::_=>none
def O8(l:List UInt8):C9:=l.map fun b=>.int .u8 b.toNat
def CK(m:Mem)(s t:TypeId)(x:Value):Res :=
 match P.underlying s,P.underlying t,x with
 | some _,some (.int k),.int _ n=>some (mkI k (AK k n),m)
 | some _,some .string,.string b=>some (.string b,m)
 | some _,some .string,.int _ n=>some (.string (Utf8.encode n),m)
 | some _,some (.slice e),.string b=>match P.underlying e with
   | some (.int .u8)=>match G5 P e with
     | some 1=>Q5 (O8 b.data.toList) fun cs=>Y6 m (.cells cs e false) fun i=>.slice (some ⟨i,0,none⟩) b.size M5
     | _=>none
   | _=>none
 | some (.slice e),some .string,.slice none _ _=>match P.underlying e with
   | some (.int .u8)=>some (.string ByteArray.empty,m)
   | _=>none
 | some (.slice e),some .string,.slice (some a) n _=>match P.underlying e with
   | some (.int .u8)=>match s8 m a n with
     | some cs=>match bytesOf cs with
       | some l=>some (.string ⟨⟨l⟩⟩,m)
       | none=>none
     | none=>none
   | _=>none
 | _,_,_=>none
def yK(place:Nat->Option (Nat×Nat))(cells:List Value):List (Nat×Value)->Option C9
 | []=>some cells
 | (i,v)::rest=>match place i with
   | none=>none
   | some (off,size) =>
     bif (Nat.beq v.cells.size size && !(iV v)) && Nat.ble (off+v.cells.size) cells.length then Q5 (cC cells off v.cells.toList) fun cs=>yK place cs rest else none
def qB:List Field->Option (List (Nat×Nat))
 | []=>some []
 | f::r=>match G5 P f.type,qB r with
   | some n,some l=>some ((f.offset,n)::l)
   | _,_=>none
def HP(z:List Value):Nat->C9
 | 0=>[]
 | n+1=>z++HP z n
def DF(e:TypeId)(n:Nat):Option C9 :=
 match G5 P e with
 | some s=>bif Nat.beq (n*s) 0 then some []else match fD P e with
   | some z=>bif Nat.beq z.cells.size s then some (HP z.cells.toList n)else none
   | none=>none
 | none=>none
def OA(t:TypeId)(parts:List (Nat×Value)):Q0 :=
 match fD P t,P.underlying t with
 | some z,some (.struct fs)=>match qB P fs.toList with
   | some ps=>match yK (ps[·]?) z.cells.toList parts with
     | some cs=>some (.agg ⟨cs⟩)
     | none=>none
   | none=>none
 | some z,some (.array _ e)=>match G5 P e with
   | some s=>match yK (fun i=>some (i*s,s)) z.cells.toList parts with
     | some cs=>some (.agg ⟨cs⟩)
     | none=>none
   | none=>none
 | _,_=>none
def cJ(m:Mem)(t:TypeId)(n:Nat)(parts:List (Nat×Value)):Res :=
 match P.underlying t with
 | some (.slice e)=>match G5 P e,DF P e n with
   | some s,some zs=>bif Nat.ble (n*s) 16777216 && Nat.blt n M5 then match yK (fun i=>some (i*s,s)) zs parts with
     | some cs=>Y6 m (.cells cs e false) fun i=>.slice (some ⟨i,0,none⟩) n n
     | none=>none else none
   | _,_=>none
 | _=>none
def eH(m:Mem)(t:TypeId)(l c:Value):Res :=
 match P.underlying t,l,c with
 | some (.slice e),.int _ (.ofNat l),.int _ (.ofNat c)=>match P.info? e with
   | some i=>bif Nat.ble l c && Nat.ble c 10000000 && Nat.ble (c*i.bytes) 100000000 then match DF P e c with
     | some a=>Q5 a fun a=>Y6 m (.cells a e false) fun k=>.slice (some ⟨k,0,none⟩) l c
     | none=>none else none
   | none=>none
 | _,_,_=>none
def bE(a:Addr)(n:Nat):Addr:=J4 (a.off+n) fun o=>⟨a.block,o,none⟩
def cH(s:TypeId)(x:Value)(i:Nat):Q0 :=
 match P.underlying s,x with
 | some (.struct fs),.pointer (some a)=>match fs.toList[i]?,a.spot with
   | some f,none=>match G5 P f.type with
     | some (_+1)=>some (.pointer (some (bE a f.offset)))
     | _=>none
   | _,_=>none
 | _,_=>none
def FA(t:TypeId)(x:Value)(i:Nat):Q0 :=
 match P.underlying t,x with
 | some (.struct fs),.agg cs=>match fs.toList[i]? with
   | some f=>qC P f.type cs.toList f.offset
   | none=>none
 | _,_=>none
def X1(t:TypeId)(x i:Value):Q0 :=
 match P.underlying t,x,i with
 | some (.array n e),.pointer (some a),.int _ (.ofNat k)=>match G5 P e,a.spot with
   | some s,none=>bif Nat.blt k n then some (.pointer (some (bE a (k*s))))else none
   | _,_=>none
 | some (.slice e),.slice (some a) n _,.int _ (.ofNat k)=>match G5 P e,a.spot with
   | some s,none=>bif Nat.blt k n then some (.pointer (some (bE a (k*s))))else none
   | _,_=>none
 | _,_,_=>none
def lJ(t:TypeId)(x i:Value):Q0 :=
 match P.underlying t,x,i with
 | some (.array n e),.agg cs,.int _ (.ofNat k)=>match G5 P e with
   | some s=>bif Nat.blt k n then qC P e cs.toList (k*s)else none
   | none=>none
 | some .string,.string s,.int _ (.ofNat k)=>match s.data.toList[k]? with
   | some b=>some (.int .u8 b.toNat)
   | none=>none
 | _,_,_=>none
def U0(v:Option Value)(H5 a:Nat):Option Nat :=
 match v with
 | none=>some a
 | some (.int _ (.ofNat k))=>bif Nat.ble k H5 then some k else none
 | some _=>none
def cP(t:TypeId)(x:Value)(b hi mx:Option Value):Q0 :=
 match P.underlying t,x with
 | some .string,.string s =>
   match mx,U0 hi s.size s.size with
   | none,some h=>match U0 b h 0 with
     | some l=>some (.string ⟨⟨(s.data.toList.drop l).take (h-l)⟩⟩)
     | none=>none
   | _,_=>none
 | some (.slice e),.slice none n c =>
   match n,c,U0 mx 0 0,U0 hi 0 0,U0 b 0 0 with
   | 0,0,some _,some _,some _=>bif (mx.isSome && hi.isNone) || (G5 P e).isNone then none else some (.slice none 0 0)
   | _,_,_,_,_=>none
 | some (.slice e),.slice (some a) n c =>
   match G5 P e,a.spot with
   | some s,none =>
     bif Nat.blt c M5 then
      match U0 mx c c with
      | some m=>match (match hi,mx with|none,some _=>none|hi,_=>U0 hi m n)with
        | some h=>match U0 b h 0 with
          | some l=>some (.slice (some (bif Nat.beq m l then a else bE a (l*s))) (h-l) (m-l))
          | none=>none
        | none=>none
      | none=>none
     else
      match mx with
      | some _=>match hi,U0 mx n n with
        | some _,some m=>bif Nat.blt m M5 && Nat.ble c (M5+1)then match U0 hi m n with
          | some h=>match U0 b h 0 with
            | some l=>some (.slice (some (bif Nat.beq m l then a else bE a (l*s))) (h-l) (m-l))
            | none=>none
          | none=>none else none
        | _,_=>none
      | none=>match U0 hi n n with
        | some h=>match U0 b h 0 with
          | some 0=>some (.slice (some a) h c)
          | some (l+1)=>let l:=l+1
            bif Nat.blt l n then some (.slice (some (bE a (l*s))) (h-l) (M5+1))else some (.slice (some a) 0 (M5+2))
          | none=>none
        | none=>none
   | _,_=>none
 | some (.array n e),.pointer (some a) =>
   match G5 P e,a.spot,mx with
   | some s,none,none=>match U0 hi n n with
     | some h=>match U0 b h 0 with
       | some l=>bif Nat.blt n M5 then some (.slice (some (bif Nat.beq n l then a else bE a (l*s))) (h-l) (n-l))else none
       | none=>none
     | none=>none
   | _,_,_=>none
 | _,_=>none
def eF(m:Mem)(s:Nat)(y:Value):Option (Nat×List Value) :=
 match y with
 | .slice none n _=>bif Nat.beq n 0 then some (0,[])else none
 | .slice (some a) n _=>match s8 m a (n*s)with
   | some cs=>some (n,cs)
   | none=>none
 | .string b=>bif Nat.beq s 1 then some (b.size,O8 b.data.toList)else none
 | _=>none
def cQ:TypeDesc->Bool
 | .slice _|.string=>true
 | _=>false
def rQ(m:Mem)(t t2:TypeId)(x y:Value):Res :=
 match P.underlying t,P.underlying t2 with
 | some (.slice e),some d2 =>
   bif !(cQ d2)then none else
   match P.info? e,x with
   | some i,.slice a n c=>match eF m i.size y,fD P e with
     | some (k,new),some z =>
       bif Nat.ble ((3*(n+k)+4000)*i.bytes) 281474976710656 && Nat.ble (n+k) 1000000000 && Nat.beq z.cells.size i.size && new.all flat then
       bif Nat.beq k 0 then(match a with|none=>bif Nat.beq n 0 && Nat.beq c 0 then some (x,m)else none|some _=>bif Nat.ble c (M5+1) && Nat.ble n c then some (x,m)else none)else
       match a with
       | none=>bif Nat.beq n 0 && Nat.beq c 0 then Q5 new fun cs=>Y6 m (.cells cs e false) fun b=>.slice (some ⟨b,0,none⟩) k M5 else none
       | some d =>
         bif Nat.blt c M5 then
          bif Nat.ble (n+k) c then
           match d.spot,nR m (bE d (n*i.size)) new with
           | none,some m'=>some (.slice a (n+k) c,m')
           | _,_=>none
          else match s8 m d (n*i.size)with
           | some old=>Q5 (old++new) fun cs=>Y6 m (.cells cs e false) fun b=>.slice (some ⟨b,0,none⟩) (n+k) M5
           | none=>none
         else bif Nat.beq c M5 && Nat.beq d.off 0 then
          match d.spot,Hp.get m.H d.block with
          | none,some (.cells cs T false) =>
            bif Nat.beq cs.length (n*i.size) && Nat.beq T e && Nat.ble d.block H5 && Nat.blt d.block m.n then
             Q5 (cs++new) fun cs=>Y6 (jQ m d.block) (.cells cs e false) fun b=>.slice (some ⟨b,0,none⟩) (n+k) M5
            else none
          | _,_=>none
         else none
       else none
     | _,_=>none
   | _,_=>none
 | _,_=>none
def KI(m:Mem)(t:TypeId)(x y:Value):Res :=
 match P.underlying t,x with
 | some (.slice e),.slice a n c=>match G5 P e with
   | some s =>
     match (match y with
      | .slice none k _=>bif Nat.beq k 0 then some (0,[])else none
      | .slice (some b) k _=>match s8 m b (Nat.min k n*s)with
        | some cs=>some (Nat.min k n,cs)
        | none=>none
      | .string b=>some (Nat.min b.size n,O8 (b.data.toList.take (Nat.min b.size n)))
      | _=>none:Option (Nat×List Value))with
     | some (k,cs)=>match a with
       | none=>bif Nat.beq k 0 then some (.int .i64 0,m)else none
       | some d=>bif Nat.beq cs.length 0 then some (.int .i64 k,m)else bif Nat.ble c (M5+1)then match nR m d cs with
         | some m'=>some (.int .i64 k,m')
         | none=>none else none
     | none=>none
   | none=>none
 | _,_=>none
def ZF(m:Mem)(t:TypeId)(x:Value):Q0 :=
 match P.underlying t,x with
 | some .string,.string s=>some (.int .i64 s.data.toList.length)
 | some (.array n _),_=>some (.int .i64 n)
 | some (.slice _),.slice _ n _=>some (.int .i64 n)
 | some (.map _ _),.map none=>some (.int .i64 0)
 | _,_=>none
def A7B(t:TypeId)(x:Value):Q0 :=
 match P.underlying t,x with
 | some (.slice _),.slice none _ c=>some (.int .i64 c)
 | some (.slice _),.slice (some a) n c=>bif Nat.blt c M5 then some (.int .i64 c)else none
 | _,_=>none
def A6Q:C9->Q0
 | [.int k a,.int _ b]=>some (.int k (if b>a then b else a))
 | [.int k a,.int _ b,.int _ c]=>yF (if b>a then b else a) fun d=>some (.int k (if c>d then c else d))
 | _=>none
def A6P:C9->Q0
 | [.int k a,.int _ b]=>some (.int k (if b<a then b else a))
 | [.int k a,.int _ b,.int _ c]=>yF (if b<a then b else a) fun d=>some (.int k (if c<d then c else d))
 | _=>none
def noM(v:Option Value)(m:Mem):Res :=
 match v with
 | some v=>some (v,m)
 | none=>none
def MY(m:Option Mem):Res :=
 match m with
 | some m=>some (undef,m)
 | none=>none
def QB(m:Mem)(c a b:Value):Res :=
 match c with
 | .bool true=>some (a,m)
 | .bool false=>some (b,m)
 | _=>none
def EC(m:Mem)(e:TypeId):Res :=
 match fD P e with
 | some z=>Y6 m (.cells z.cells.toList e false) fun b=>.pointer (some ⟨b,0,none⟩)
 | none=>none
def YH(m:Mem)(e:TypeId)(v:Value):Res :=
 bif v.cells.toList.all flat then Y6 m (.cells v.cells.toList e false) fun b=>.pointer (some ⟨b,0,none⟩)else none
def QC(m:Mem)(t:TypeId)(v:Value):Res :=
 match v with
 | .pointer (some a)=>noM (QO P m t a) m
 | _=>none
def EA(m:Mem)(t:TypeId)(x v:Value):Res :=
 match x with
 | .pointer (some a)=>MY (wF P m t a v)
 | _=>none
def YG(m:Mem)(x:Value):Res :=
 match x with
 | .pointer (some a)=>some (.pointer (some a),m)
 | .func (.func f) a b=>some (.func (.func f) a b,m)
 | _=>none
def yB:BinOp->Bool
 | .eql|.neq=>true
 | _=>false
def A2L(m:Mem)(op:BinOp)(t:TypeId)(x y:Operand)(a b:Value):Res :=
 bif yB op then(bif lL P t x y a b then noM (rN P op t a b) m else none)else noM (rN P op t a b) m
def EB(m:Mem)(t:TypeId)(v:Value):Res :=
 match P.underlying t with
 | some d=>(match d with|.interface _=>none|_=>bif flat v || (match v with|.agg _=>true|_=>false)then some (.iface t v,m)else none)
 | none=>none
def kW(m:Mem)(v:Value)(i:Nat):Res :=
 match v with
 | .tuple vs=>noM vs.toList[i]? m
 | _=>none
def iL(m:Mem)(x:Value):Res :=
 match x with
 | .slice none _ _=>some (.pointer none,m)
 | .slice (some a) n c=>bif Nat.beq n 0 || Nat.beq c 0 || Nat.beq c (M5+2)then none else some (.pointer (some a),m)
 | _=>none
def dW(m:Mem)(b:TypeId)(p l:Value):Res :=
 match p,l with
 | .pointer none,.int _ (.ofNat 0)=>some (.string ByteArray.empty,m)
 | .pointer (some a),.int _ (.ofNat n) =>
   match a.spot,Hp.get m.H a.block with
   | none,some (.cells cs T false)=>match P.underlying b,G5 P T with
     | some (.pointer e),some 1=>bif Nat.blt 0 n && Nat.ble n 1000000000 && Nat.beq e T then match A00 cs a.off n with
       | some l=>match bytesOf l,cA m a.block (.cells cs T true)with
         | some l,some m'=>some (.string ⟨⟨l⟩⟩,m')
         | _,_=>none
       | none=>none else none
     | _,_=>none
   | _,_=>none
 | _,_=>none
def iA(m:Mem)(b:Builtin)(vs:List Value)(tys:List TypeId):Res :=
 match b,vs,tys with
 | .len,[x],t::_=>noM (ZF P m t x) m
 | .cap,[x],t::_=>noM (A7B P t x) m
 | .append,[x,y],t::t2::_=>rQ P m t t2 x y
 | .copy,[x,y],t::_=>KI P m t x y
 | .max,vs,_=>noM (A6Q vs) m
 | .min,vs,_=>noM (A6P vs) m
 | .unsafeSliceData,[x],_=>iL m x
 | .unsafeString,[p,l],t::_=>dW P m t p l
 | _,_,_=>none
def opM(fr:Fr)(m:Mem)(o:Op):Res :=
 match o with
 | .move x|.assign x=>some (ev fr x,m)
 | .pick c a b=>QB m (ev fr c) (ev fr a) (ev fr b)
 | .alloc e=>EC P m e
 | .box e x=>YH m e (ev fr x)
 | .build t ps=>noM (OA P t (evP fr ps.toList)) m
 | .buildSlice t n ps=>cJ P m t n (evP fr ps.toList)
 | .load t x=>QC P m t (ev fr x)
 | .store t x y=>EA P m t (ev fr x) (ev fr y)
 | .nilCheck x=>YG m (ev fr x)
 | .binOp op t x y _=>A2L P m op t x y (ev fr x) (ev fr y)
 | .unOp op _ x=>noM (unM op (ev fr x)) m
 | .convert s t x=>CK P m s t (ev fr x)
 | .makeInterface t x=>EB P m t (ev fr x)
 | .makeFunc (.func f) first cap=>some (.func (.func f) ⟨evL fr first.toList⟩ ⟨evL fr cap.toList⟩,m)
 | .makeSlice t l c=>eH P m t (ev fr l) (ev fr c)
 | .slice t x d hi mx=>noM (cP P t (ev fr x) (evO fr d) (evO fr hi) (evO fr mx)) m
 | .fieldAddr s x i=>noM (cH P s (ev fr x) i) m
 | .field t x i=>noM (FA P t (ev fr x) i) m
 | .indexAddr t x i=>noM (X1 P t (ev fr x) (ev fr i)) m
 | .index t x i=>noM (lJ P t (ev fr x) (ev fr i)) m
 | .extract x i=>kW m (ev fr x) i
 | .call ⟨.builtin b,xs,tys⟩=>iA P m b (evL fr xs.toList) tys.toList
 | _=>none
structure OpC where
 run:Fr->Mem->Res
def ZU(x:XC)(fr:Fr)(m:Mem):Res:=some (x.run fr,m)
def A4l(c a b:XC)(fr:Fr)(m:Mem):Res:=QB m (c.run fr) (a.run fr) (b.run fr)
def A8D(e:TypeId)(x:XC)(fr:Fr)(m:Mem):Res:=YH m e (x.run fr)
def A4m(t:TypeId)(x:XC)(fr:Fr)(m:Mem):Res:=QC P m t (x.run fr)
def ZS(t:TypeId)(x y:XC)(fr:Fr)(m:Mem):Res:=EA P m t (x.run fr) (y.run fr)
def A8B(x:XC)(fr:Fr)(m:Mem):Res:=YG m (x.run fr)
def A8E(op:BinOp)(t:TypeId)(x y:Operand)(cx a:XC)(fr:Fr)(m:Mem):Res:=A2L P m op t x y (cx.run fr) (a.run fr)
def kUn(op:UnOp)(x:XC)(fr:Fr)(m:Mem):Res:=noM (unM op (x.run fr)) m
def A4n(s t:TypeId)(x:XC)(fr:Fr)(m:Mem):Res:=CK P m s t (x.run fr)
def xW(s:TypeId)(x:XC)(i:Nat)(fr:Fr)(m:Mem):Res:=noM (cH P s (x.run fr) i) m
def ZW(s:TypeId)(x:XC)(i:Nat)(fr:Fr)(m:Mem):Res:=noM (FA P s (x.run fr) i) m
def xV(t:TypeId)(x i:XC)(fr:Fr)(m:Mem):Res:=noM (X1 P t (x.run fr) (i.run fr)) m
def ZV(t:TypeId)(x i:XC)(fr:Fr)(m:Mem):Res:=noM (lJ P t (x.run fr) (i.run fr)) m
def JD(x:XC)(i:Nat)(fr:Fr)(m:Mem):Res:=kW m (x.run fr) i
def JE(b:Builtin)(xs:LC)(tys:List TypeId)(fr:Fr)(m:Mem):Res:=iA P m b (xs.run fr) tys
def yT(o:Op):OpC :=
 match o with
 | .move x=>⟨ZU (R5 x)⟩
 | .assign x=>⟨ZU (R5 x)⟩
 | .pick c a b=>⟨A4l (R5 c) (R5 a) (R5 b)⟩
 | .box e x=>⟨A8D e (R5 x)⟩
 | .load t x=>⟨A4m P t (R5 x)⟩
 | .store t x y=>⟨ZS P t (R5 x) (R5 y)⟩
 | .nilCheck x=>⟨A8B (R5 x)⟩
 | .binOp op t x y _=>⟨A8E P op t x y (R5 x) (R5 y)⟩
 | .unOp op _ x=>⟨kUn op (R5 x)⟩
 | .convert s t x=>⟨A4n P s t (R5 x)⟩
 | .fieldAddr s x i=>⟨xW P s (R5 x) i⟩
 | .field t x i=>⟨ZW P t (R5 x) i⟩
 | .indexAddr t x i=>⟨xV P t (R5 x) (R5 i)⟩
 | .index t x i=>⟨ZV P t (R5 x) (R5 i)⟩
 | .extract x i=>⟨JD (R5 x) i⟩
 | .call ⟨.builtin b,xs,tys⟩=>⟨JE P b (uE xs.toList) tys.toList⟩
 | o=>⟨fun fr m=>opM P fr m o⟩
def yS(o:Op)(fr:Fr)(m:Mem):(yT P o).run fr m=opM P fr m o:=by
 unfold yT;split<;>simp only[ZU,A4l,A8D,A4m,ZS,A8B,A8E,kUn,A4n,xW,ZW,xV,ZV,JD,JE,opM,dT,nA]
def MU(nt gl:Nat)(o:Op):Bool:=o.operands.toList.all (okX nt gl)
end
section
open Go
def A8G:BinOp->Bool
 | .eql|.neq|.lss|.leq|.gtr|.geq=>true
 | _=>false
def nT(P:Program)(m:Mem)(op:BinOp)(t:TypeId)(a b:Value):Res :=
 let c:=G2 a
 let d:=G2 b
 bif (Nat.blt c 8 && Nat.blt d 8) || (Nat.beq c 9 && Nat.beq d 9)then T9 m (bif A8G op then 8 else c) (.bin op) [a,b]else
 bif Nat.beq c 8 && Nat.beq d 8 && yB op && (match P.underlying t with|some .bool=>true|_=>false)then T9 m 8 (.bin op) [a,b]else none
def eN(P:Program)(t:TypeId)(x y:Value):Bool :=
 match P.underlying t with
 | some .bool=>Nat.beq (G2 x) 8 && Nat.beq (G2 y) 8
 | some (.int k)=>Nat.beq (G2 x) (hH k) && Nat.beq (G2 y) (hH k)
 | some .string=>Nat.beq (G2 x) 9 && Nat.beq (G2 y) 9
 | _=>false
mutual
def eqS(P:Program):Nat->TypeId->Value->Value->Option C9
 | 0,_,_,_=>none
 | d+1,t,x,y=>bif eN P t x y then some [x,y]else
   match P.underlying t,x,y with
   | some (.struct fs),.agg xs,.agg ys=>bif P.stoodInHeld t then none else yO P d fs.toList xs.toList ys.toList
   | some (.array n e),.agg xs,.agg ys=>match G5 P e with
     | some s=>yO P d ((List.range n).map (A3R e s)) xs.toList ys.toList
     | none=>none
   | _,_,_=>none
def yO(P:Program):Nat->List Field->C9->C9->Option C9
 | 0,_,_,_=>none
 | _+1,[],_,_=>some []
 | d+1,f::fs,xs,ys =>
   bif f.name == "_" then none else
   match qC P f.type xs f.offset,qC P f.type ys f.offset with
   | some x,some y=>match eqS P d f.type x y,yO P d fs xs ys with
     | some a,some b=>some (a++b)
     | _,_=>none
   | _,_=>none
end
def GZ(P:Program)(m:Mem)(op:BinOp)(t:TypeId)(x y:Operand)(a b:Value):Res :=
 bif lL P t x y a b then
  match op,eqS P 20 t a b with
  | .eql,some l=>T9 m 8 .eqs l
  | .neq,some l=>match T9 m 8 .eqs l with
    | some (h,m)=>T9 m 8 (.un .not) [h]
    | none=>none
  | _,_=>none
 else none
def e9(t:Nat):C9->Bool
 | []=>true
 | v::r=>Nat.beq (G2 v) t && e9 t r
def d9.sizeD(P:Program)(e:TypeId):Nat:=match G5 P e with|some n=>n|none=>0
def d9(P:Program)(m:Mem)(t:TypeId)(x i:Value):Res :=
 bif !(Nat.blt (G2 i) 8)then none else
 match P.underlying t with
 | some .string=>bif Nat.beq (G2 x) 9 then T9 m 4 .idx [x,i]else none
 | some (.array n e)=>match x,P.underlying e with
   | .agg cs,some (.int k)=>bif Nat.beq (cs.toList.length) n && e9 (hH k) cs.toList && Nat.beq (d9.sizeD P e) 1 then T9 m (hH k) .sel (i::cs.toList)else none
   | .agg cs,some .string=>bif Nat.beq (cs.toList.length) n && e9 9 cs.toList && Nat.beq (d9.sizeD P e) 1 then T9 m 9 .sel (i::cs.toList)else none
   | _,_=>none
 | _=>none
def kJ(P:Program)(m:Mem)(t:TypeId)(x:Value)(a hi mx:Option Value):Res :=
 match P.underlying t,mx with
 | some .string,none=>bif Nat.beq (G2 x) 9 then
    match a,hi with
    | none,none=>some (x,m)
    | some l,none=>bif Nat.blt (G2 l) 8 then T9 m 9 .sub1 [x,l]else none
    | none,some h=>bif Nat.blt (G2 h) 8 then T9 m 9 .sub [x,.int .i64 0,h]else none
    | some l,some h=>bif Nat.blt (G2 l) 8 && Nat.blt (G2 h) 8 then T9 m 9 .sub [x,l,h]else none
   else none
 | _,_=>none
def GU(m:Mem)(op:UnOp)(x:Value):Res :=
 let t:=G2 x
 match op with
 | .not=>bif Nat.beq t 8 then T9 m 8 (.un .not) [x]else none
 | op=>bif Nat.blt t 8 then T9 m t (.un op) [x]else none
def pF(P:Program)(m:Mem)(s t:TypeId)(x:Value):Res :=
 match P.underlying s,P.underlying t with
 | some (.int _),some (.int k)=>bif Nat.blt (G2 x) 8 then T9 m (hH k) (.conv k) [x]else none
 | some .string,some .string=>bif Nat.beq (G2 x) 9 then some (x,m)else none
 | _,_=>none
def eA(P:Program)(m:Mem)(b:Builtin)(vs:List Value)(tys:List TypeId):Res :=
 match b,vs,tys with
 | .len,[x],t::_=>match P.underlying t with
   | some .string=>bif Nat.beq (G2 x) 9 then T9 m 3 .len [x]else none
   | _=>none
 | .max,[x,y],_=>bif Nat.blt (G2 x) 8 && Nat.beq (G2 x) (G2 y)then T9 m (G2 x) .max [x,y]else none
 | .min,[x,y],_=>bif Nat.blt (G2 x) 8 && Nat.beq (G2 x) (G2 y)then T9 m (G2 x) .min [x,y]else none
 | _,_,_=>none
def UB(m:Mem)(a:Addr)(s n:Nat)(i:Value):Res :=
 bif !(Nat.blt (G2 i) 8)then none else
 match T9 m 8 .inb [i,.int .i64 (.ofNat n)]with
 | some (b,⟨H,k,W,hi,lg⟩)=>match brL lg b with
   | some (true,lg)=>some (ixp a s i n,⟨H,k,W,hi,lg⟩)
   | _=>none
 | none=>none
def dY(P:Program)(m:Mem)(t:TypeId)(x i:Value):Res :=
 match P.underlying t,x with
 | some (.array n e),.pointer (some a)=>match G5 P e,a.spot with
   | some s,none=>UB m a s n i
   | _,_=>none
 | some (.slice e),.slice (some a) n c=>match G5 P e,a.spot with
   | some s,none=>bif Nat.beq c (M5+2)then none else UB m a s n i
   | _,_=>none
 | _,_=>none
def dZ(P:Program)(m:Mem)(s:TypeId)(x:Value)(i:Nat):Res :=
 match x with
 | .func (.yield 1) ⟨[.pointer (some a),.int .i64 (.ofNat k),j,.int .i64 (.ofNat n)]⟩ ⟨[]⟩=>match P.underlying s with
   | some (.struct fs)=>match fs.toList[i]?,a.spot with
     | some f,none=>match G5 P f.type with
       | some (_+1)=>some (ixp (bE a f.offset) k j n,m)
       | _=>none
     | _,_=>none
   | _=>none
 | _=>none
def vI(cs:List Value)(s o:Nat):Nat->Option C9
 | 0=>some []
 | n+1=>match cs[o]?,vI cs s (o+s) n with
   | some v,some r=>some (v::r)
   | _,_=>none
def cB(m:Mem)(cs:List Value)(s n:Nat)(i:Value):Nat->Nat->Option (C9×Mem)
 | _,0=>some ([],m)
 | o,k+1=>match vI cs s o n with
   | some (v::l)=>bif e9 (G2 v) (v::l) && Nat.blt (G2 v) 10 then match T9 m (G2 v) .sel (i::v::l)with
     | some (h,m)=>match cB m cs s n i (o+1) k with
       | some (r,m)=>some (h::r,m)
       | none=>none
     | none=>none else none
   | _=>none
def pE(P:Program)(m:Mem)(t:TypeId)(x:Value):Res :=
 match x with
 | .func (.yield 1) ⟨[.pointer (some a),.int .i64 (.ofNat s),i,.int .i64 (.ofNat n)]⟩ ⟨[]⟩ =>
   match y9 P t,G5 P t with
   | some false,_=>match s8 m a ((n-1)*s+1)with
     | some cs=>match cB m cs s n i 0 1 with
       | some ([h],m)=>some (h,m)
       | _=>none
     | none=>none
   | some true,some z=>match s8 m a ((n-1)*s+z)with
     | some cs=>match cB m cs s n i 0 z with
       | some (hs,m)=>some (.agg ⟨hs⟩,m)
       | none=>none
     | none=>none
   | _,_=>none
 | _=>none
def vH(m:Mem)(c a b:Value):Res :=
 match m with
 | ⟨H,n,W,hi,lg⟩=>match brL lg c with
   | some (true,lg)=>some (a,⟨H,n,W,hi,lg⟩)
   | some (false,lg)=>some (b,⟨H,n,W,hi,lg⟩)
   | none=>none
def VK(P:Program)(fr:Fr)(m:Mem)(o:Op):Res :=
 match o with
 | .pick c a b=>vH m (ev fr c) (ev fr a) (ev fr b)
 | .binOp op t x y _=>match nT P m op t (ev fr x) (ev fr y)with
   | some r=>some r
   | none=>GZ P m op t x y (ev fr x) (ev fr y)
 | .unOp op _ x=>GU m op (ev fr x)
 | .convert s t x=>pF P m s t (ev fr x)
 | .slice t x d hi mx=>kJ P m t (ev fr x) (evO fr d) (evO fr hi) (evO fr mx)
 | .index t x i=>d9 P m t (ev fr x) (ev fr i)
 | .indexAddr t x i=>dY P m t (ev fr x) (ev fr i)
 | .fieldAddr s x i=>dZ P m s (ev fr x) i
 | .load t x=>pE P m t (ev fr x)
 | .call ⟨.builtin b,xs,tys⟩=>eA P m b (evL fr xs.toList) tys.toList
 | _=>none
def oA(m:Mem)(b:Nat):Bool :=
 match Hp.get m.H b with
 | some .frz=>Nat.ble b H5
 | _=>false
def MK{α:Type}(l:List α):Nat->List α
 | 0=>[]
 | n+1=>l++MK l n
mutual
def VH(P:Program):Nat->TypeId->Option G9
 | 0,_=>none
 | d+1,t=>match P.underlying t with
   | some .bool=>some [8]
   | some (.int k)=>some [hH k]
   | some .string=>some [9]
   | some (.slice e)=>match G5 P e with
     | some w=>some [10+w]
     | none=>none
   | some (.struct fs)=>A3f P d fs.toList
   | some (.array n e)=>match VH P d e with
     | some l=>some (MK l n)
     | none=>none
   | _=>none
def A3f(P:Program):Nat->List Field->Option G9
 | 0,_=>none
 | _+1,[]=>some []
 | d+1,f::fs=>match VH P d f.type,A3f P d fs with
   | some a,some b=>some (a++b)
   | _,_=>none
end
def kI(P:Program)(t:TypeId):Option G9 :=
 match VH P 30 t,G5 P t with
 | some l,some n=>bif Nat.beq l.length n then some l else none
 | _,_=>none
def X4.letDo(t:Nat)(op:LOp)(xs:List Value)(m:Mem)(k:Nat->Mem->Option (C9×Mem)):Option (C9×Mem) :=
 match m with
 | ⟨H,n,W,hi,⟨nx,pi,log⟩⟩=>J4 nx fun nx=>J4 t fun t=>Q5 xs fun xs=>k nx ⟨H,n,W,hi,⟨Nat.succ nx,pi,.dt nx t op xs::log⟩⟩
def X4(w o i t:Nat)(z:Value)(g:Nat):G9->Nat->Mem->Option (C9×Mem)
 | [],_,m=>some ([],m)
 | tg::ts,j,m=>bif Nat.blt tg 10 then
    match T9 m tg (.get w (o+j)) [hole i t,z]with
    | some (h,m)=>match X4 w o i t z g ts (j+1) m with
      | some (r,m)=>some (h::r,m)
      | none=>none
    | none=>none
   else X4.letDo tg (.get w (o+j)) [hole i t,z] m fun nx m=>match X4 w o i t z g ts (j+1) m with
     | some (r,m)=>some (dat g nx tg::r,m)
     | none=>none
def lU(P:Program)(t:TypeId)(r:Option (C9×Mem)):Res :=
 match y9 P t,r with
 | some false,some ([v],m)=>some (v,m)
 | some true,some (vs,m)=>some (.agg ⟨vs⟩,m)
 | _,_=>none
def IW(P:Program)(m:Mem)(t:TypeId)(x:Value):Res :=
 match x,kI P t with
 | .func (.yield 5) ⟨[.pointer (some ⟨b,0,none⟩),.complex .f64 i tg,z,.int .i64 (.ofNat o)]⟩ ⟨[]⟩,some ts =>
   bif oA m b then lU P t (X4 (tg-10) o i tg z b ts 0 m)else none
 | .func (.yield 6) ⟨[.pointer (some ⟨b,0,none⟩),.complex .f64 i tg,z,.int .i64 (.ofNat o)]⟩ ⟨[]⟩,some ts =>
   match Hp.get m.H b with
   | some (.sq c tc T g ro)=>bif Nat.beq tc tg then lU P t (X4 (tg-10) o c tg z g ts 0 m)else none
   | _=>none
 | _,_=>none
def JI(m:Mem)(i t:Nat)(z:Value)(k:Value):Res :=
 bif !(Nat.blt (G2 z) 8)then none else
 match T9 m 8 (.inbs (t-10)) [z,hole i t]with
 | some (b,⟨H,n,W,hi,lg⟩)=>match brL lg b with
   | some (true,lg)=>some (k,⟨H,n,W,hi,lg⟩)
   | _=>none
 | none=>none
def lK(P:Program)(m:Mem)(t:TypeId)(x z:Value):Res :=
 match P.underlying t,x with
 | some (.slice e),.func (.yield 4) ⟨[.pointer (some ⟨b,0,none⟩),.complex .f64 i tg]⟩ ⟨[]⟩=>match G5 P e with
   | some (s+1)=>bif Nat.beq tg (10+(s+1))then JI m i tg z (opt b i tg z 0)else none
   | _=>none
 | some (.slice e),.func (.yield 2) ⟨[.pointer (some ⟨b,0,none⟩),.complex .f64 i tg]⟩ ⟨[]⟩=>match G5 P e with
   | some (s+1)=>bif Nat.beq tg (10+(s+1))then JI m i tg z (dpt b i tg z 0)else none
   | _=>none
 | some (.slice e),.func (.yield 3) ⟨[.pointer (some ⟨b,0,none⟩),.complex .f64 i tg]⟩ ⟨[]⟩=>match G5 P e with
   | some (s+1)=>bif Nat.beq tg (10+(s+1))then JI m i tg z (dpt b i tg z 0)else none
   | _=>none
 | some (.array n e),.func (.yield 5) ⟨[.pointer (some ⟨b,0,none⟩),.complex .f64 i tg,y,.int .i64 (.ofNat o)]⟩ ⟨[]⟩=>match G5 P e,z with
   | some s,.int _ (.ofNat k)=>bif Nat.blt k n && Nat.blt (o+k*s) (tg-10)then some (J4 (o+k*s) fun o=>dpt b i tg y o,m)else none
   | _,_=>none
 | some (.array n e),.func (.yield 6) ⟨[.pointer (some ⟨b,0,none⟩),.complex .f64 i tg,y,.int .i64 (.ofNat o)]⟩ ⟨[]⟩=>match G5 P e,z with
   | some s,.int _ (.ofNat k)=>bif Nat.blt k n && Nat.blt (o+k*s) (tg-10)then some (J4 (o+k*s) fun o=>opt b i tg y o,m)else none
   | _,_=>none
 | _,_=>none
def lO(P:Program)(m:Mem)(s:TypeId)(x:Value)(f:Nat):Res :=
 match P.underlying s,x with
 | some (.struct fs),.func (.yield 5) ⟨[.pointer (some ⟨b,0,none⟩),.complex .f64 i tg,y,.int .i64 (.ofNat o)]⟩ ⟨[]⟩=>match fs.toList[f]? with
   | some fd=>match G5 P fd.type with
     | some (_+1)=>bif Nat.blt (o+fd.offset) (tg-10)then some (J4 (o+fd.offset) fun o=>dpt b i tg y o,m)else none
     | _=>none
   | none=>none
 | some (.struct fs),.func (.yield 6) ⟨[.pointer (some ⟨b,0,none⟩),.complex .f64 i tg,y,.int .i64 (.ofNat o)]⟩ ⟨[]⟩=>match fs.toList[f]? with
   | some fd=>match G5 P fd.type with
     | some (_+1)=>bif Nat.blt (o+fd.offset) (tg-10)then some (J4 (o+fd.offset) fun o=>opt b i tg y o,m)else none
     | _=>none
   | none=>none
 | _,_=>none
def rA(i:Nat):List i7->Option Nat
 | []=>none
 | .lt j t .len [.complex .f64 k _]::r=>bif Nat.beq k i && Nat.beq t 3 then some j else rA i r
 | _::r=>rA i r
def EI(m:Mem)(i t:Nat):Res :=
 match rA i m.lg.log with
 | some j=>some (hole j 3,m)
 | none=>T9 m 3 .len [hole i t]
def A2b(P:Program)(m:Mem)(t:TypeId)(x:Value):Res :=
 match P.underlying t,x with
 | some (.slice _),.func (.yield 2) ⟨[.pointer (some ⟨b,0,none⟩),.complex .f64 i tg]⟩ ⟨[]⟩=>EI m i tg
 | some (.slice _),.func (.yield 3) ⟨[.pointer (some ⟨b,0,none⟩),.complex .f64 i tg]⟩ ⟨[]⟩=>EI m i tg
 | some (.slice _),.func (.yield 4) ⟨[.pointer (some ⟨b,0,none⟩),.complex .f64 i tg]⟩ ⟨[]⟩=>EI m i tg
 | _,_=>none
def fZ(m:Mem)(k:Nat->Mem->Option (Value×Nat×Mem)):Option (Value×Nat×Mem) :=
 match m with
 | ⟨H,n,W,hi,lg⟩=>bif Nat.ble n H5 then J4 n fun n=>J4 (upN hi n) fun hi=>Hp.put H n (some .frz) fun H=>k n ⟨H,Nat.succ n,W,hi,lg⟩else none
def toD(t:Nat)(v:Value)(m:Mem):Option (Value×Nat×Mem) :=
 match v with
 | .func (.yield 2) ⟨[.pointer (some ⟨b,0,none⟩),.complex .f64 i tg]⟩ ⟨[]⟩=>bif Nat.beq tg t && oA m b then some (hole i tg,b,m)else none
 | .func (.yield 3) ⟨[.pointer (some ⟨b,0,none⟩),.complex .f64 i tg]⟩ ⟨[]⟩=>bif Nat.beq tg t && oA m b then some (hole i tg,b,m)else none
 | .func (.yield 4) ⟨[.pointer (some ⟨b,0,none⟩),.complex .f64 i tg]⟩ ⟨[]⟩=>match Hp.get m.H b with
   | some (.sq c tc T g true)=>bif (Nat.beq tg t && Nat.beq tc t) && oA m g then fZ m fun b' m=>some (hole c tc,b',m)else none
   | some (.sq c tc T g false)=>bif (Nat.beq tg t && Nat.beq tc t) && oA m g then match cA m b (.sq c tc T g true)with
     | some m=>fZ m fun b' m=>some (hole c tc,b',m)
     | none=>none else none
   | _=>none
 | .slice none 0 0=>bif Nat.ble 10 t then(match uU m t (.nilw (t-10)) [] fun nx m=>some (hole nx t,m)with
   | some (h,m)=>fZ m fun b' m=>some (h,b',m)
   | none=>none)else none
 | _=>none
abbrev Td:=Nat->Value->Mem->Option (Value×Nat×Mem)
def zO(a:Td):G9->C9->Mem->Option (C9×G9×Mem)
 | [],[],m=>some ([],[],m)
 | t::ts,v::vs,m=>bif Nat.blt t 10 then
    bif Nat.beq (G2 v) t then match zO a ts vs m with
     | some (r,gs,m)=>some (v::r,gs,m)
     | none=>none else none
   else match a t v m with
    | some (h,b,m)=>match zO a ts vs m with
      | some (r,gs,m)=>some (h::r,b::gs,m)
      | none=>none
    | none=>none
 | _,_,_=>none
def jR(gs:List Nat)(m:Mem):Option (Nat×Mem) :=
 match gs with
 | [g]=>bif oA m g then some (g,m)else none
 | gs=>bif gs.all (oA m)then match fZ m fun b m=>some (undef,b,m)with
   | some (_,b,m)=>some (b,m)
   | none=>none else none
def PD:Value->Value->Bool
 | .complex .f64 i _,.complex .f64 j _=>Nat.beq i j
 | .int k a,.int j b=>tI k j && AG a b
 | _,_=>false
def xY(v:Value):Bool:=Nat.blt (G2 v) 8
def fR(m:Mem)(b i t:Nat)(l h:Value)(c:Bool):Res:=bif xY l && xY h then uU m t (.subs (t-10)) [hole i t,l,h] fun nx m=>some (bif c then clp b nx t else dat b nx t,m)else none
def KE(m:Mem)(b i t:Nat)(cl:Bool)(l:Value)(hi mx:Option Value):Res :=
 match hi,mx with
 | some h,none=>fR m b i t l h false
 | some h,some x=>bif PD h x then fR m b i t l h true else none
 | none,none=>match EI m i t with
   | some (h,m)=>fR m b i t l h cl
   | none=>none
 | none,some _=>none
def A7y(a:Option Value):Value :=
 match a with
 | some l=>l
 | none=>.int .i64 0
def KF(m:Mem)(b i t:Nat)(cl:Bool)(a hi mx:Option Value):Res:=KE m b i t cl (A7y a) hi mx
def wI(P:Program)(m:Mem)(t:TypeId)(x:Value)(a hi mx:Option Value):Res :=
 match P.underlying t,x with
 | some (.slice e),.func (.yield 2) ⟨[.pointer (some ⟨b,0,none⟩),.complex .f64 i tg]⟩ ⟨[]⟩=>match G5 P e with
   | some s=>bif Nat.beq tg (10+s)then KF m b i tg false a hi mx else none
   | none=>none
 | some (.slice e),.func (.yield 3) ⟨[.pointer (some ⟨b,0,none⟩),.complex .f64 i tg]⟩ ⟨[]⟩=>match G5 P e with
   | some s=>bif Nat.beq tg (10+s)then KF m b i tg true a hi mx else none
   | none=>none
 | some (.slice e),.func (.yield 4) ⟨[.pointer (some ⟨b,0,none⟩),.complex .f64 i tg]⟩ ⟨[]⟩=>match G5 P e with
   | some s=>bif Nat.beq tg (10+s)then match toD tg x m with
     | some (.complex .f64 c _,b',m)=>KF m b' c tg false a hi mx
     | _=>none else none
   | none=>none
 | _,_=>none
inductive Beh where
 | cells (xs:List Value)
 | rows (x:Value)
 | str (x:Value)
def cW(w:Nat)(c:Value):Beh->LOp×C9
 | .cells xs=>(.snoc w,c::xs)
 | .rows x=>(.cat w,[c,x])
 | .str x=>(.cats,[c,x])
def A1M(c:Td)(P:Program)(m:Mem)(e:TypeId)(w:Nat)(y:Value):Option (Beh×G9×Bool×Mem) :=
 match y with
 | .slice none 0 _=>some (.cells [],[],false,m)
 | .slice (some a) n _=>match s8 m a (n*w),kI P e with
   | some cs,some ts=>match zO c (MK ts n) cs m with
     | some (xs,gs,m)=>some (.cells xs,gs,Nat.blt 0 n,m)
     | none=>none
   | _,_=>none
 | .func _ _ _=>match c (10+w) y m with
   | some (x,b,m)=>some (.rows x,[b],false,m)
   | none=>none
 | y=>bif Nat.beq (G2 y) 9 && Nat.beq w 1 then some (.str y,[],false,m)else none
def CX(a:Td)(P:Program)(m:Mem)(e:TypeId)(w:Nat)(x:Value):Option (Nat×G9×Option Nat×Mem) :=
 match x with
 | .slice none 0 0=>match uU m (10+w) (.nilw w) [] fun nx m=>some (hole nx (10+w),m)with
   | some (.complex .f64 c _,m)=>some (c,[],none,m)
   | _=>none
 | .func (.yield 4) ⟨[.pointer (some ⟨b,0,none⟩),.complex .f64 i tg]⟩ ⟨[]⟩=>match Hp.get m.H b with
   | some (.sq c tc T g false)=>bif (Nat.beq tg (10+w) && Nat.beq tc tg) && (Nat.beq T e && Nat.ble b H5)then some (c,[g],some b,m)else none
   | _=>none
 | .slice (some ⟨b,0,none⟩) n c=>match Hp.get m.H b,kI P e with
   | some (.cells cs _ _),some ts=>bif Nat.beq cs.length (n*w) && (Nat.beq c n && Nat.blt c M5 || Nat.beq c M5)then match zO a (MK ts n) cs m with
     | some (xs,gs,m)=>match Hp.get m.H b with
       | some (.cells _ T false)=>bif Nat.beq T e && Nat.ble b H5 then match uU m (10+w) (.mk w) xs fun nx m=>some (hole nx (10+w),m)with
         | some (.complex .f64 c _,m)=>some (c,gs,some b,m)
         | _=>none else none
       | _=>none
     | none=>none else none
   | _,_=>none
 | _=>none
def aZ(m:Mem)(c t:Nat)(T:TypeId)(g:Nat):Res:=Y6 m (.sq c t T g false) fun b=>own b c t
def UU(P:Program)(e:TypeId)(n:Nat):Bool :=
 match fD P e with
 | some z=>Nat.beq z.cells.size n
 | none=>false
def jP(old:Option Nat)(m:Mem):Mem :=
 match old with
 | some b=>jQ m b
 | none=>m
def TQ(a:Td)(P:Program)(m:Mem)(e:TypeId)(w:Nat)(x:Value):Res :=
 match P.info? e with
 | some inf=>bif Nat.beq inf.size w && Nat.blt 0 w then match CX a P m e w x with
   | some (c,gs,old,m)=>match jR gs m with
     | some (g,m)=>aZ (jP old m) c (10+w) e g
     | none=>none
   | none=>none else none
 | none=>none
def VD(P:Program):Nat->Td
 | 0=>toD
 | d+1=>fun t v m=>match v with
   | .slice (some ⟨b,0,none⟩) _ _=>match Hp.get m.H b with
     | some (.cells _ T _)=>match TQ (VD P d) P m T (t-10) v with
       | some (x,m)=>toD t x m
       | none=>none
     | _=>none
   | v=>toD t v m
def tdP(P:Program):Td:=VD P 3
def IB(m:Mem)(e:TypeId)(w c:Nat)(old:Option Nat)(a:Beh)(gs:List Nat):Res :=
 match jR gs m with
 | some (g,m)=>uU m (10+w) (cW w (hole c (10+w)) a).1 (cW w (hole c (10+w)) a).2 fun nx m=>aZ (jP old m) nx (10+w) e g
 | none=>none
def rR(P:Program)(m:Mem)(t t2:TypeId)(x y:Value):Res :=
 match P.underlying t,P.underlying t2 with
 | some (.slice e),some d2=>bif !(cQ d2)then none else
   match P.info? e with
   | some i=>bif (Nat.ble i.bytes 90000 && Nat.blt 0 i.size) && UU P e i.size then
     match A1M (tdP P) P m e i.size y with
     | some (bh,gs,sure,m)=>match CX (tdP P) P m e i.size x with
       | some (c,g0,old,m)=>IB m e i.size c old bh (g0++gs)
       | none=>match x,sure with
         | .func (.yield 3) ⟨[.pointer (some ⟨b,0,none⟩),.complex .f64 c tg]⟩ ⟨[]⟩,true=>bif Nat.beq tg (10+i.size)then IB m e i.size c none bh (b::gs)else none
         | _,_=>none
     | none=>none else none
   | none=>none
 | _,_=>none
def wG(P:Program)(m:Mem)(t:TypeId)(x v:Value):Res :=
 match x,kI P t with
 | .func (.yield 6) ⟨[.pointer (some ⟨b,0,none⟩),.complex .f64 i tg,z,.int .i64 (.ofNat o)]⟩ ⟨[]⟩,some ts=>bif iV v then none else
   match zO (tdP P) ts v.cells.toList m with
   | some (xs,gs,m)=>match Hp.get m.H b with
     | some (.sq c tc T g false)=>bif Nat.beq tc tg then match jR (g::gs) m with
       | some (g,m)=>match uU m tg (.set (tg-10) o) (hole c tg::z::xs) fun nx m=>some (hole nx tg,m)with
         | some (.complex .f64 nx _,m)=>MY (cA m b (.sq nx tg T g false))
         | _=>none
       | none=>none else none
     | _=>none
   | none=>none
 | _,_=>none
def A4j(m m1:Mem):Mem :=
 match m,m1 with
 | ⟨H,n,W,_,_⟩,⟨_,_,_,hi,lg⟩=>⟨H,n,W,hi,lg⟩
def KJ(P:Program)(m:Mem)(s t:TypeId)(x:Value):Res :=
 match P.underlying s,P.underlying t,x with
 | some (.slice e),some .string,.slice (some a) n _=>match P.underlying e with
   | some (.int .u8)=>match s8 m a n with
     | some cs=>bif e9 4 cs then T9 m 9 .mks cs else none
     | none=>none
   | _=>none
 | some (.slice e),some .string,.func _ _ _=>match P.underlying e with
   | some (.int .u8)=>match toD 11 x m with
     | some (h,_,m1)=>T9 (A4j m m1) 9 .str [h]
     | none=>none
   | _=>none
 | some _,some (.slice e),x=>bif Nat.beq (G2 x) 9 then match P.underlying e with
   | some (.int .u8)=>match G5 P e with
     | some 1=>match jR [] m with
       | some (g,m)=>match uU m 11 .byt [x] fun nx m=>some (hole nx 11,m)with
         | some (.complex .f64 nx _,m)=>aZ m nx 11 e g
         | _=>none
       | none=>none
     | _=>none
   | _=>none else none
 | _,_,_=>none
def A0N:Value->Bool
 | .slice none 0 0=>true
 | _=>false
def YO(P:Program)(m:Mem)(op:BinOp)(t:TypeId)(x y:Operand)(a b:Value):Res :=
 match P.underlying t,a with
 | some (.slice _),.func (.yield k) ⟨[.pointer (some ⟨_,0,none⟩),.complex .f64 i tg]⟩ ⟨[]⟩=>bif A0N b && isC y && (Nat.beq k 2 || Nat.beq k 3 || Nat.beq k 4)then
   match op,T9 m 8 .nilp [hole i tg]with
   | .eql,some r=>some r
   | .neq,some (h,m)=>T9 m 8 (.un .not) [h]
   | _,_=>none else none
 | _,_=>none
def IR(P:Program)(m:Mem)(t:TypeId)(l c:Value):Res :=
 match P.underlying t,l,c with
 | some (.slice e),.complex .f64 i ti,.complex .f64 j tj=>bif (Nat.beq i j && Nat.beq ti 3) && Nat.beq tj 3 then
   match P.info? e with
   | some inf=>bif Nat.ble inf.bytes 90000 && Nat.blt 0 inf.size then
     match fD P e with
     | some z=>bif Nat.beq z.cells.size inf.size && z.cells.toList.all (fun z=>Nat.blt (G2 z) 10)then
       match jR [] m with
       | some (g,m)=>match uU m (10+inf.size) (.rep inf.size) (hole i 3::z.cells.toList) fun nx m=>some (hole nx (10+inf.size),m)with
         | some (.complex .f64 nx _,m)=>aZ m nx (10+inf.size) e g
         | _=>none
       | none=>none else none
     | none=>none else none
   | none=>none else none
 | _,_,_=>none
def dsM(P:Program)(fr:Fr)(m:Mem)(o:Op):Res :=
 match o with
 | .makeSlice t l c=>IR P m t (ev fr l) (ev fr c)
 | .load t x=>IW P m t (ev fr x)
 | .store t x y=>wG P m t (ev fr x) (ev fr y)
 | .indexAddr t x i=>lK P m t (ev fr x) (ev fr i)
 | .fieldAddr s x i=>lO P m s (ev fr x) i
 | .slice t x a hi mx=>wI P m t (ev fr x) (evO fr a) (evO fr hi) (evO fr mx)
 | .convert s t x=>KJ P m s t (ev fr x)
 | .binOp op t x y _=>YO P m op t x y (ev fr x) (ev fr y)
 | .call ⟨.builtin .len,xs,tys⟩=>match evL fr xs.toList,tys.toList with
   | [x],t::_=>A2b P m t x
   | _,_=>none
 | .call ⟨.builtin .append,xs,tys⟩=>match evL fr xs.toList,tys.toList with
   | [x,y],t::t2::_=>rR P m t t2 x y
   | _,_=>none
 | _=>none
def SD(P:Program)(m:Mem)(s t:TypeId)(x:Value):Res :=
 match P.underlying s,P.underlying t,x with
 | some (.pointer e),some .unsafePointer,.pointer (some ⟨b,o,none⟩)=>match G5 P e,Hp.get m.H b with
   | some (_+1),some (.cells cs _ _)=>bif Nat.blt o cs.length then some (x,m)else none
   | _,_=>none
 | some .unsafePointer,some (.pointer u),.pointer (some ⟨b,0,none⟩)=>match G5 P u,Hp.get m.H b with
   | some (k+1),some (.cells cs T false)=>bif Nat.beq T u && Nat.beq cs.length (k+1)then some (x,m)else none
   | _,_=>none
 | some (.slice _),some (.slice e),.slice (some ⟨b,o,none⟩) n c=>bif Nat.beq s t && !(Nat.beq c (M5+2))then match P.underlying e,Hp.get m.H b with
   | some (.int .u8),some (.cells cs T false)=>match cA m b (.cells cs T false)with
     | some m1=>some (x,m1)
     | none=>none
   | _,_=>none else none
 | _,_,_=>none
def PZ(P:Program)(m:Mem)(op:BinOp)(t:TypeId)(a b:Value):Res :=
 match P.underlying t,a,b with
 | some (.pointer e),.pointer (some ⟨b1,o1,none⟩),.pointer (some ⟨b2,o2,none⟩)=>bif Nat.beq b1 b2 && Nat.beq o1 o2 then match P.info? e,op with
   | some _,.eql=>some (.bool true,m)
   | some _,.neq=>some (.bool false,m)
   | _,_=>none else none
 | _,_,_=>none
def sdM(P:Program)(m:Mem)(ty:TypeId)(x:Value):Res :=
 match P.underlying ty with
 | some (.pointer _)=>match x with
  | .func (.yield 4) ⟨[.pointer (some ⟨b,0,none⟩),.complex .f64 i t]⟩ ⟨[]⟩=>match Hp.get m.H b with
   | some (.sq _ _ _ _ _)=>some (sdt b,m)
   | _=>none
  | _=>none
 | _=>none
def usM(P:Program)(m:Mem)(a:TypeId)(p l:Value):Res :=
 match p with
 | .func (.yield 9) ⟨[.pointer (some ⟨b,0,none⟩)]⟩ ⟨[]⟩=>bif Nat.blt (G2 l) 8 then match Hp.get m.H b,P.underlying a with
   | some (.sq c tc T g false),some (.pointer e)=>bif Nat.beq e T && Nat.beq tc 11 then match G5 P T,T9 m 9 .ustr [hole c tc,l]with
     | some 1,some (v,m)=>match cA m b (.sq c tc T g true)with
       | some m=>some (v,m)
       | none=>none
     | _,_=>none else none
   | _,_=>none else none
 | _=>none
def fJ(P:Program)(t:TypeId):Option Nat :=
 match P.underlying t with
 | some .bool=>some 8
 | some (.int k)=>some (hH k)
 | some .string=>some 9
 | _=>none
def uB(P:Program):List Field->Nat->Option G9
 | [],_=>some []
 | f::r,i=>match fJ P f.type,uB P r (i+1)with
   | some t,some l=>bif !(f.name == "_") && Nat.beq f.offset i then some (t::l)else none
   | _,_=>none
def nN(P:Program)(t:TypeId):Option (Bool×List Nat) :=
 match P.underlying t with
 | some (.struct fs)=>bif P.stoodInHeld t then none else match uB P fs.toList 0 with
   | some l=>some (true,l)
   | none=>none
 | _=>match fJ P t with
   | some k=>some (false,[k])
   | none=>none
def OQ(P:Program)(t:TypeId):Option (Bool×List Nat) :=
 match y9 P t,kI P t with
 | some true,some l=>bif l.all (fun k=>Nat.blt k 10)then some (true,l)else none
 | some false,some [k]=>bif Nat.blt k 10 then some (false,[k])else none
 | _,_=>none
structure MTy where
 kt:TypeId
 vt:TypeId
 ka:Bool
 ks:G9
 va:Bool
 vs:G9
def MTy.w(y:MTy):Nat:=y.ks.length+y.vs.length
def TT(P:Program)(T:TypeId):Option MTy :=
 match P.underlying T with
 | some (.map kt vt)=>match nN P kt,OQ P vt with
   | some (ka,k::ks),some (va,vs)=>some ⟨kt,vt,ka,k::ks,va,vs⟩
   | _,_=>none
 | _=>none
def yM:G9->C9->Bool
 | [],[]=>true
 | t::ts,v::vs=>Nat.beq (G2 v) t && yM ts vs
 | _,_=>false
def nD(a:Bool)(ts:List Nat)(v:Value):Option C9 :=
 match a,v with
 | true,.agg cs=>bif yM ts cs.toList then some cs.toList else none
 | true,_=>none
 | false,v=>bif yM ts [v]then some [v]else none
def A1Q(a:Bool)(vs:List Value):Q0 :=
 match a,vs with
 | true,vs=>some (.agg ⟨vs⟩)
 | false,[v]=>some v
 | false,_=>none
def YV(P:Program)(m:Mem)(T:TypeId):Res :=
 match TT P T with
 | some y=>uU m (10+y.w) (.mk y.w) [] fun nx m=>Y6 m (.mp nx (10+y.w) T) fun b=>.map (some b)
 | none=>none
def sQ(w kw c t:Nat)(a:List Value):G9->C9->Nat->Mem->Option (C9×Mem)
 | [],[],_,m=>some ([],m)
 | tg::ts,z::zs,j,m=>match T9 m tg (.mget w kw j) (hole c t::z::a)with
   | some (h,m)=>match sQ w kw c t a ts zs (j+1) m with
     | some (r,m)=>some (h::r,m)
     | none=>none
   | none=>none
 | _,_,_,_=>none
def xO(P:Program)(m:Mem)(T:TypeId)(x k:Value)(ok:Bool):Res :=
 match x,TT P T with
 | .map (some r),some y=>match Hp.get m.H r,nD y.ka y.ks k,fD P y.vt with
   | some (.mp c t T2),some kc,some z=>bif Nat.beq T2 T then match nD y.va y.vs z with
     | some a=>match sQ y.w y.ks.length c t kc y.vs a y.ks.length m with
       | some (hs,m)=>match A1Q y.va hs with
         | some v=>bif ok then match T9 m 8 (.mhas y.w y.ks.length) (hole c t::kc)with
            | some (b,m)=>some (.tuple ⟨[v,b]⟩,m)
            | none=>none
           else some (v,m)
         | none=>none
       | none=>none
     | none=>none else none
   | _,_,_=>none
 | _,_=>none
def BF(P:Program)(m:Mem)(T:TypeId)(x k v:Value):Res :=
 match x,TT P T with
 | .map (some r),some y=>match Hp.get m.H r,nD y.ka y.ks k,nD y.va y.vs v with
   | some (.mp c t T2),some kc,some vc=>bif Nat.beq T2 T then uU m t (.mput y.w y.ks.length) (hole c t::(kc++vc)) fun nx m=>MY (cA m r (.mp nx t T))else none
   | _,_,_=>none
 | _,_=>none
def IY(P:Program)(m:Mem)(T:TypeId)(x:Value):Res :=
 match P.underlying T,x with
 | some (.map _ _),.map (some r)=>match Hp.get m.H r with
   | some (.mp c t _)=>EI m c t
   | _=>none
 | _,_=>none
def wW(P:Program)(m:Mem)(t:TypeId)(x:Value):Res :=
 match P.underlying t with
 | some .string=>bif Nat.beq (G2 x) 9 then Y6 m (.iter [x,.int .i64 (.ofNat 0)]) fun b=>.pointer (some ⟨b,0,none⟩)else none
 | _=>none
def FO:Value->Value->Option (ByteArray×Nat)
 | .string s,.int .i64 (.ofNat k)=>some (s,k)
 | _,_=>none
def IN(m:Mem)(x:Value):Res :=
 match x with
 | .pointer (some ⟨r,0,none⟩)=>match Hp.get m.H r with
   | some (.iter [s,p])=>match FO s p with
     | some (b,k)=>bif Nat.blt k b.data.toList.length then J4 (k+(Utf8.decode b k).2) fun a=>match cA m r (.iter [s,.int .i64 (.ofNat a)])with
        | some m=>J4 (Utf8.decode b k).1 fun c=>some (.tuple ⟨[.bool true,p,.int .i32 (.ofNat c)]⟩,m)
        | none=>none
       else some (.tuple ⟨[.bool false]⟩,m)
     | none=>bif Nat.beq (G2 s) 9 && Nat.beq (G2 p) 3 then match T9 m 3 .len [s]with
       | some (h,m)=>match T9 m 8 (.bin .lss) [p,h]with
         | some (c,⟨H,n,W,hi,lg⟩)=>match brL lg c with
           | some (true,lg)=>match T9 ⟨H,n,W,hi,lg⟩ 2 .rune [s,p]with
             | some (y,m)=>match T9 m 3 .rpos [s,p]with
               | some (q,m)=>match cA m r (.iter [s,q])with
                 | some m=>some (.tuple ⟨[.bool true,p,y]⟩,m)
                 | none=>none
               | none=>none
             | none=>none
           | some (false,lg)=>some (.tuple ⟨[.bool false]⟩,⟨H,n,W,hi,lg⟩)
           | none=>none
         | none=>none
       | none=>none else none
   | _=>none
 | _=>none
def xtM(P:Program)(fr:Fr)(m:Mem)(o:Oper):Res :=
 match o.op with
 | .convert s t x=>SD P m s t (ev fr x)
 | .binOp op t x y _=>PZ P m op t (ev fr x) (ev fr y)
 | .call ⟨.builtin .unsafeSliceData,xs,_⟩=>match evL fr xs.toList with
   | [x]=>sdM P m o.type x
   | _=>none
 | .call ⟨.builtin .unsafeString,xs,tys⟩=>match evL fr xs.toList,tys.toList with
   | [p,l],t::_=>usM P m t p l
   | _,_=>none
 | .makeMap t none=>YV P m t
 | .lookup t x k ok=>xO P m t (ev fr x) (ev fr k) ok
 | .range t x=>wW P m t (ev fr x)
 | .next x true=>IN m (ev fr x)
 | .mapUpdate t x k v=>BF P m t (ev fr x) (ev fr k) (ev fr v)
 | .insert t x k v=>BF P m t (ev fr x) (ev fr k) (ev fr v)
 | .call ⟨.builtin .len,xs,tys⟩=>match evL fr xs.toList,tys.toList with
   | [x],t::_=>IY P m t x
   | _,_=>none
 | _=>none
inductive EK where
 | noEscape|makeNoZero (e:TypeId)|indexByteString|countString|indexString|copyString
 deriving DecidableEq
def JW:List (FuncId×EK)->FuncId->Option EK
 | [],_=>none
 | (g,k)::r,f=>bif Nat.beq g f then some k else JW r f
structure FnC where
 run:C9->Mem->Res
structure O2 where
 fn:FuncId->FnC
 yl:FnC
def mT:Value->Bool
 | .tuple ⟨[]⟩=>true
 | _=>false
def GE(lg:Lg)(v:Value)(b:Bool):Option (Bool×Lg) :=
 match v with
 | .bool c=>some (c == b,lg)
 | .complex k i t=>match brL lg (.complex k i t)with
   | some (c,lg)=>some (c == b,lg)
   | none=>none
 | v=>bif mT v then some (false,lg)else none
def aW(nt:Nat)(fr:Fr)(lg:Lg)(ops:List Oper)(o:Oper):Option (Bool×Lg) :=
 match o.guard with
 | none=>some (true,lg)
 | some (j,b)=>match ops[j]? with
   | some p=>match p.dst with
     | some t=>bif Nat.blt t nt then GE lg (fr.get t) b else none
     | none=>none
   | none=>none
def vQ(v:Value)(vs:List Value):Option (FuncId×List Value) :=
 match v with
 | .func (.func f) a b=>some (f,a.toList++(vs++b.toList))
 | _=>none
def dU(v:Value):Option Nat :=
 match v with
 | .func (.yield 7) ⟨[.pointer (some ⟨b,0,none⟩)]⟩ ⟨[]⟩=>some b
 | _=>none
def IL(call:O2)(m:Mem)(v:Value)(vs:List Value):Res :=
 match vQ v vs with
 | some (f,vs)=>(call.fn f).run vs m
 | none=>match dU v with
   | some _=>call.yl.run (v::vs) m
   | none=>none
def A8C(call:O2)(x:XC)(xs:LC)(fr:Fr)(m:Mem):Res:=IL call m (x.run fr) (xs.run fr)
def A6b(f:FnC)(xs:LC)(fr:Fr)(m:Mem):Res:=f.run (xs.run fr) m
def ZQ(P:Program)(c:OpC)(o:Oper)(fr:Fr)(m:Mem):Res :=
 match c.run fr m with
 | some r=>some r
 | none=>match VK P fr m o.op with
   | some r=>some r
   | none=>match dsM P fr m o.op with
     | some r=>some r
     | none=>xtM P fr m o
def W3(P:Program)(call:O2)(o:Oper):OpC :=
 match o.op with
 | .call ⟨.value (.func f),xs,_⟩=>⟨A6b (call.fn f) (uE xs.toList)⟩
 | .call ⟨.value x,xs,_⟩=>⟨A8C call (R5 x) (uE xs.toList)⟩
 | op=>⟨ZQ P (yT P op) o⟩
def yP(nt:Nat)(d:Option Tmp):Bool :=
 match d with
 | some d=>Nat.blt d nt
 | none=>true
structure A7H where
 run:Value->Fr->(Fr->Option S)->Option S
def uW(d:Option Tmp):A7H :=
 match d with
 | some t=>⟨uT (sel (t / 64%8)) (sel (t / 8%8)) (sel (t%8))⟩
 | none=>⟨fun _ fr k=>k fr⟩
structure A1X where
 run:S->Option S
def kN(c:OpC)(d:A7H)(next:A1X)(s:S):Option S :=
 match s with
 | ⟨fr,m⟩=>match c.run fr m with
   | some (v,m')=>bif Nat.ble m.hi m'.hi then d.run v fr fun fr=>next.run ⟨fr,m'⟩else none
   | none=>none
def eC(nt:Nat)(all:List Oper)(o:Oper)(c:OpC)(d:A7H)(next:A1X)(s:S):Option S :=
 match s with
 | ⟨fr,⟨H,n,W,hi,lg⟩⟩=>match aW nt fr lg all o with
   | some (true,lg)=>kN c d next ⟨fr,⟨H,n,W,hi,lg⟩⟩
   | some (false,lg)=>d.run undef fr fun fr=>next.run ⟨fr,⟨H,n,W,hi,lg⟩⟩
   | none=>none
def U6(P:Program)(nt gl:Nat)(call:O2)(all:List Oper):List Oper->A1X
 | []=>⟨some⟩
 | o::r=>bif yP nt o.dst && MU nt gl o.op then match o.guard with
   | none=>⟨fun s=>kN (W3 P call o) (uW o.dst) (U6 P nt gl call all r) s⟩
   | some _=>⟨fun s=>eC nt all o (W3 P call o) (uW o.dst) (U6 P nt gl call all r) s⟩
   else⟨fun _=>none⟩
structure Rec where
 i:Nat
 lo:Nat
 hi:Nat
inductive Cls where
 | free
 | one (b:Nat)
 | all
def A8t(fr:Fr)(o:Op):Cls :=
 match o with
 | .move _|.assign _|.pick ..|.alloc _|.box ..|.build ..|.buildSlice ..|.nilCheck _|.binOp ..|.unOp ..|.makeInterface ..|.makeFunc ..|.makeMap ..|.makeSlice ..
 | .fieldAddr ..|.field ..|.indexAddr ..|.index ..|.extract ..|.range ..=>.free
 | .slice _ x _ _ _=>match ev fr x with
   | .slice _ _ _|.string _|.pointer _|.complex _ _ _=>.free
   | _=>.all
 | .convert _ _ x=>match ev fr x with
   | .int _ _|.string _=>.free
   | _=>.all
 | .call ⟨.builtin .len,xs,_⟩=>match evL fr xs.toList with
   | [.slice _ _ _]|[.string _]=>.free
   | _=>.all
 | .call ⟨.builtin .min,_,_⟩|.call ⟨.builtin .max,_,_⟩=>.free
 | .call ⟨.builtin .unsafeSliceData,xs,_⟩=>match evL fr xs.toList with
   | [.slice _ _ _]=>.free
   | _=>.all
 | .load _ x|.store _ x _=>match ev fr x with
   | .pointer (some a)=>.one a.block
   | _=>.all
 | _=>.all
def BY(H:Hp AB):G9->Hp AB
 | []=>H
 | b::r=>Hp.put H b none fun H=>BY H r
def DA(H0 H:Hp AB):G9->Hp AB
 | []=>H
 | b::r=>Hp.put H b (Hp.get H0 b) fun H=>DA H0 H r
def MD:Nat->Nat->G9
 | _,0=>[]
 | lo,n+1=>lo::MD (lo+1) n
def Y8:List Rec->G9
 | []=>[]
 | r::rs=>MD r.lo (r.hi-r.lo)++Y8 rs
def u9(l:List Nat)(b:Nat):Bool:=l.any (Nat.beq b)
def FT(l:List Nat):Bool:=l.all fun b=>Nat.ble b H5
def BL(b:List Nat)(rs:List Rec):List Rec:=rs.filter fun r=>!(u9 b r.i)
def AM(m:Mem)(c:Cls)(us:List Rec):Option Mem :=
 match m with
 | ⟨H,n,_,hi,lg⟩=>match c with
   | .free=>some ⟨hp0,n,[],hi,lg⟩
   | .one b=>bif u9 (Y8 us) b || !(Nat.ble b H5)then none else Hp.put hp0 b (Hp.get H b) fun H=>some ⟨H,n,[],hi,lg⟩
   | .all=>bif FT (Y8 us)then some ⟨BY H (Y8 us),n,[],hi,lg⟩else none
def kY(m m':Mem):Option Mem :=
 bif Nat.ble m'.hi m.n then(match m with|⟨H,n,W,hi,_⟩=>some ⟨H,n,W,hi,m'.lg⟩)else
 bif Nat.ble m'.hi H5 then EX (DA m'.H m.H (MD m.n (m'.hi-m.n))) fun H=>J4 m'.hi fun n=>some ⟨H,n,m.W,n,m'.lg⟩else none
def SA(fr:Fr)(m:Mem)(o:Oper)(b:List Nat)(rs:List Rec)(op:OpC)(k:Value->Mem->Option S):Option S :=
 let us:=BL b rs
 let c:=A8t fr o.op
 match AM m c us with
 | some mv=>match op.run fr mv with
   | some (v,m') =>
     match m'.W,Nat.ble m.hi m'.hi with
     | [],true=>match kY m m' with
       | some m2=>k v m2
       | none=>none
     | _,_=>none
   | none=>none
 | none=>none
def wrO:Op->Bool
 | .call _|.store ..|.mapUpdate ..=>true
 | _=>false
def y5:Op->Bool
 | .move _|.assign _|.extract ..|.slice ..=>true
 | _=>false
def A6D:Op->Bool
 | .field ..|.fieldAddr ..|.index ..|.indexAddr ..|.binOp ..|.unOp ..|.build ..|.load ..|.pick ..|.convert ..|.slice ..|.nilCheck _=>true
 | .call ⟨.builtin .len,_,_⟩|.call ⟨.builtin .min,_,_⟩|.call ⟨.builtin .max,_,_⟩=>true
 | o=>y5 o
def DN(a b:Addr):Bool :=
 match a,b with
 | ⟨x,o,none⟩,⟨y,p,none⟩=>Nat.beq x y && Nat.beq o p
 | _,_=>false
def MJ(f g:Fn):Bool :=
 match f,g with
 | .func f,.func g=>Nat.beq f g
 | .yield f,.yield g=>Nat.beq f g
 | _,_=>false
def AU(s:Value->Value->Bool):C9->C9->Bool
 | [],[]=>true
 | a::l,b::r=>s a b && AU s l r
 | _,_=>false
def wP:Nat->Value->Value->Bool
 | _,.bool a,.bool b=>a == b
 | _,.int k n,.int j m=>tI k j && AG n m
 | _,.complex .f64 i t,.complex .f64 j u=>Nat.beq i j && Nat.beq t u
 | _,.complex .f32 i t,.complex .f32 j u=>Nat.beq i j && Nat.beq t u
 | _,.string s,.string t=>decide (s.data.toList=t.data.toList)
 | _,.pointer none,.pointer none=>true
 | _,.pointer (some a),.pointer (some b)=>DN a b
 | _,.slice none n c,.slice none m d=>Nat.beq n m && Nat.beq c d
 | _,.slice (some a) n c,.slice (some b) m d=>DN a b && (Nat.beq n m && Nat.beq c d)
 | _,.map none,.map none=>true
 | _,.map (some a),.map (some b)=>Nat.beq a b
 | _,.nilFunc,.nilFunc=>true
 | _,.nilIface,.nilIface=>true
 | d+1,.func f a b,.func g a' b'=>MJ f g && (AU (wP d) a.toList a'.toList && AU (wP d) b.toList b'.toList)
 | d+1,.iface t v,.iface u w=>Nat.beq t u && wP d v w
 | _,_,_=>false
def WK(a b:AB):Bool :=
 match a,b with
 | .frz,.frz=>true
 | .cells cs T ro,.cells cs' T' ro'=>AU (wP 6) cs cs' && (Nat.beq T T' && (ro == ro'))
 | _,_=>false
def XH(H:Hp AB)(b:Nat):Option (Nat×AB) :=
 match Hp.get H b with
 | some .frz=>some (b,.frz)
 | some (.cells cs T ro)=>some (b,.cells cs T ro)
 | _=>none
def JP(H:Hp AB)(fr:Fr)(o:Op):Option (Nat×AB) :=
 match o with
 | .load _ x=>match ev fr x with
   | .func (.yield 5) ⟨.pointer (some a)::_⟩ _=>XH H a.block
   | .pointer (some a)=>XH H a.block
   | _=>none
 | _=>none
def yA(H:Hp AB)(b:Nat)(ab:AB):Bool :=
 match Hp.get H b with
 | some x=>Nat.ble b H5 && WK x ab
 | none=>false
def rO:Nat:=262144
def DV(m:Mem)(r:Option (Nat×AB))(us:List Rec):Option Mem :=
 match m with
 | ⟨H,_,_,_,lg⟩=>match r with
   | none=>some ⟨hp0,rO,[],rO,lg⟩
   | some (b,ab)=>bif u9 (Y8 us) b || !(yA H b ab)then none else Hp.put hp0 b (some ab) fun H=>some ⟨H,rO,[],rO,lg⟩
def kS(fr:Fr)(m:Mem)(o:Oper)(b:List Nat)(rs:List Rec)(op:OpC):Option (Value×Lg) :=
 match DV m (JP m.H fr o.op) (BL b rs)with
 | some mv=>match op.run fr mv with
   | some (v,⟨_,_,[],hi,lg⟩)=>bif Nat.beq hi rO then some (v,lg)else none
   | _=>none
 | none=>none
abbrev Qs:=List (Nat×Option (Nat×AB))
def FU:Nat->G9->Qs->Bool
 | 0,_,_=>true
 | n+1,b,qs=>(u9 b n || qs.any fun q=>Nat.beq n q.1) && FU n b qs
def EL(i:Nat):List G9->List Oper->Bool
 | c::bs,o::r=>(u9 c i || y5 o.op) && EL i bs r
 | _,_=>true
def A4i(H:Hp AB)(r:Option (Nat×AB)):Bool :=
 match r with
 | none=>true
 | some (b,ab)=>yA H b ab
def ZO(b:List Nat)(H:Hp AB)(a:Qs):Bool:=a.all fun q=>u9 b q.1 || A4i H q.2
def HE(o:Op)(i:Nat)(b:List Nat)(bs:List G9)(r:List Oper)(a:Qs):Bool:=wrO o && (FU i b a && EL i bs r)
def l6(P:Program)(nt gl:Nat)(call:O2)(all:List Oper):List Oper->Nat->List G9->List Rec->Qs->S->Option S
 | [],_,_,_,_,s=>some s
 | _::_,_,[],_,_,_=>none
 | o::r,i,b::bs,rs,qs,⟨fr,⟨H,n,W,hi,lg⟩⟩=>match aW nt fr lg all o,yP nt o.dst && MU nt gl o.op with
   | some (true,lg),true=>bif HE o.op i b bs r qs then(match (W3 P call o).run fr ⟨H,n,W,hi,lg⟩with
      | some (v,m2)=>bif Nat.ble hi m2.hi && ZO b m2.H qs then(uW o.dst).run v fr fun fr=>l6 P nt gl call all r (i+1) bs [] qs ⟨fr,m2⟩else none
      | none=>none)
     else match (bif A6D o.op then kS fr ⟨H,n,W,hi,lg⟩ o b rs (W3 P call o)else none)with
      | some (v,lg2)=>(uW o.dst).run v fr fun a=>l6 P nt gl call all r (i+1) bs rs ((i,JP H fr o.op)::qs) ⟨a,⟨H,n,W,hi,lg2⟩⟩
      | none=>bif y5 o.op then none else SA fr ⟨H,n,W,hi,lg⟩ o b rs (W3 P call o) fun v m2 =>
        (uW o.dst).run v fr fun fr=>l6 P nt gl call all r (i+1) bs (⟨i,n,m2.n⟩::rs) qs ⟨fr,m2⟩
   | some (false,lg),true=>(uW o.dst).run undef fr fun fr=>l6 P nt gl call all r (i+1) bs rs ((i,none)::qs) ⟨fr,⟨H,n,W,hi,lg⟩⟩
   | _,_=>none
def A1U(l:List Nat)(b:Nat):G9:=bif u9 l b then l else J4 b fun b=>b::l
def QV:G9->G9->G9
 | [],b=>b
 | x::a,b=>A1U (QV a b) x
def rT(acc:List G9):List Edge->G9
 | []=>[]
 | e::r=>bif Region.binds .any e then A1U (QV (acc.getD e.on []) (rT acc r)) e.on else rT acc r
def Y1:List Oper->List G9->List G9
 | [],acc=>acc
 | o::r,acc=>Q5 (rT acc o.after.toList) fun a=>Y1 r (acc++[a])
def oZ:Operand->List Tmp
 | .tmp t=>[t]
 | _=>[]
def V3(ops:List Oper)(o:Oper):List Tmp :=
 o.dst.toList++(o.op.operands.toList.flatMap oZ++(match o.guard with
  | none=>[]
  | some (j,_)=>match ops[j]? with
    | some p=>p.dst.toList
    | none=>[]))
def A2I(a:List G9)(i k:Nat):Bool:=bif Nat.blt i k then u9 (a.getD k []) i else u9 (a.getD i []) k
def rV(b:List G9)(i:Nat)(a:List Tmp):List Oper->Nat->Bool
 | [],_=>true
 | p::r,k=>(Nat.beq k i || (match p.dst with|none=>true|some t=>!(u9 a t) || A2I b i k)) && rV b i a r (k+1)
def mY(i:Nat):List Edge->Bool
 | []=>true
 | e::r=>(!(Region.binds .any e) || Nat.blt e.on i) && mY i r
def II(ops:List Oper)(a:List G9):List Oper->Nat->Bool
 | [],_=>true
 | o::r,i=>mY i o.after.toList && (rV a i (V3 ops o) ops 0 && II ops a r (i+1))
def FJ(ops:Array Oper):Bool:=II ops.toList (Y1 ops.toList []) ops.toList 0
def FN:Op->Bool
 | .move _|.assign _|.load _ _|.store _ _ _=>true
 | _=>false
def lV:Op->Option (TypeId×Operand)
 | .load t x=>some (t,x)
 | .store t x _=>some (t,x)
 | _=>none
def fK:Op->Bool
 | .store _ _ _=>true
 | _=>false
def XF:Op->List Tmp
 | .move x|.assign x=>oZ x
 | .load _ x=>oZ x
 | .store _ x y=>oZ x++oZ y
 | _=>[]
def BE(o:Oper)(l:List Tmp):Bool :=
 match o.dst with
 | some d=>u9 l d
 | none=>false
def A8I(a b:Oper):Bool :=
 (match a.dst,b.dst with
   | some d,some e=>!(Nat.beq d e)
   | _,_=>true) && (!(BE a (XF b.op)) && (!(BE b (XF a.op)) && !(fK a.op && fK b.op)))
def rH(o:Oper)(i:Nat):Bool:=o.after.any fun e=>Region.binds .any e && Nat.beq e.on i
def A1V(l:List Oper):List Tmp:=l.flatMap fun o=>match lV o.op with
 | some (_,x)=>oZ x
 | none=>[]
def DX(p:Oper->Oper->Bool)(l:List Oper):Bool :=
 (List.range l.length).all fun j=>(List.range j).all fun i=>match l[i]?,l[j]? with
   | some a,some b=>rH b i || p a b
   | _,_=>true
def A6K(a:List Tmp)(i:Nat)(o:Oper):Bool:=FN o.op && ((match o.guard with|none=>true|some _=>false) && (!(BE o a) && o.after.all fun e=>!(Region.binds .any e) || Nat.blt e.on i))
def YF(a:List Tmp):Nat->List Oper->Bool
 | _,[]=>true
 | i,o::l=>A6K a i o && YF a (i+1) l
def kO(l:List Oper):Bool:=YF (A1V l) 0 l && DX A8I l
def XY(P:Program)(nt gl:Nat)(fr:Fr)(H:Hp AB)(o:Oper):Bool :=
 match lV o.op with
 | none=>true
 | some (t,x)=>bif !(okX nt gl x)then false else match ev fr x,y9 P t,G5 P t with
   | .pointer (some a),some _,some s=>match a.spot,Hp.get H a.block with
     | none,some (.cells cs _ false)=>Nat.ble (a.off+s) cs.length && (Nat.blt a.off cs.length && Nat.ble a.block H5)
     | _,_=>false
   | _,_,_=>false
def A1S(fr:Fr)(a b:Oper):Bool :=
 bif fK a.op || fK b.op then match lV a.op,lV b.op with
  | some (_,x),some (_,y)=>match ev fr x,ev fr y with
    | .pointer (some p),.pointer (some q)=>!(Nat.beq p.block q.block)
    | _,_=>false
  | _,_=>true else true
def lC(P:Program)(nt gl:Nat)(fr:Fr)(H:Hp AB)(l:List Oper):Bool:=l.all (XY P nt gl fr H) && DX (A1S fr) l
structure fU where
 run:S->Option (Ex×S)
def BN(f:fU):Nat->S->Option (Ex×S)
 | 0,_=>none
 | n+1,s=>match f.run s with
   | some (.normal,s)=>BN f n s
   | r=>r
def A1I(a b:fU)(s:S):Option (Ex×S) :=
 match a.run s with
 | some (.normal,s)=>b.run s
 | r=>r
def KQ(c:XC)(a b:fU)(s:S):Option (Ex×S) :=
 match c.run s.fr with
 | .bool true=>a.run s
 | .bool false=>b.run s
 | v=>match s with
   | ⟨fr,⟨H,n,W,hi,lg⟩⟩=>match brL lg v with
     | some (true,lg)=>a.run ⟨fr,⟨H,n,W,hi,lg⟩⟩
     | some (false,lg)=>b.run ⟨fr,⟨H,n,W,hi,lg⟩⟩
     | none=>none
def yZ(id:Nat)(c:fU)(s:S):Option (Ex×S) :=
 match c.run s with
 | some (.exit j,s)=>bif Nat.beq j id then some (.normal,s)else some (.exit j,s)
 | r=>r
def X9(r:A1X)(s:S):Option (Ex×S) :=
 match r.run s with
 | some s=>some (.normal,s)
 | none=>none
structure LpT where
 me:FuncId
 look:List Bool->Option (S->Option (Ex×S))
def BO(c:fU)(L:S->Option (Ex×S)):Nat->S->Option (Ex×S)
 | 0,_=>none
 | n+1,s=>match L s with
   | some r=>some r
   | none=>match c.run s with
     | some (.normal,s)=>BO c L n s
     | r=>r
def KO(c:fU)(l:Option (S->Option (Ex×S)))(s:S):Option (Ex×S) :=
 match l with
 | some f=>BO c f 4 s
 | none=>BN c 1000000 s
def frL(fr:Fr):Nat->Nat->C9
 | _,0=>[]
 | i,n+1=>fr.get i::frL fr (i+1) n
def A4A:Value->Nat
 | .pointer (some a)=>a.block
 | _=>0
def hY(v:Value):G9 :=
 match v with
 | .func (.yield 8) ⟨l⟩ ⟨[]⟩=>l.map A4A
 | _=>[]
def exN:Ex->Nat
 | .normal=>0
 | .ret=>2
 | .exit k=>k+4
def nEx:Nat->Option Ex
 | 0=>some .normal
 | 1=>none
 | 2=>some .ret
 | 3=>none
 | k+4=>some (.exit k)
def EN:Ex->Bool
 | .normal=>true
 | _=>false
def pX(fr:Fr)(hi:Nat)(b:Nat)(r:Res):Option (Ex×S) :=
 match r with
 | some (_,m)=>match Hp.get m.H b with
   | some (.lp f q vs st)=>match nEx st with
     | some e=>bif Nat.ble hi m.hi then match cA m b (.lp f q vs 3)with
       | some m=>some (e,⟨fr,m⟩)
       | none=>none else none
     | none=>none
   | _=>none
 | none=>none
def qU(P:Program)(f:FuncId):Bool :=
 match P.funcs.toList[f]? with
 | some fn=>match fn.body with
   | some _=>true
   | none=>false
 | none=>false
def bV(P:Program)(nt:Nat)(call:O2)(f:FuncId)(q:List Bool)(g:Value)(fr:Fr)(m:Mem):Option (Ex×S) :=
 Q5 (frL fr 0 nt) fun vs=>match Y6 m (.lp f q vs 0) yv with
 | some (v,m1)=>match vQ g [v],dU v with
   | some (k,as),some b=>bif qU P k then pX fr m1.hi b ((call.fn k).run as m1)else none
   | _,_=>none
 | none=>none
def yY(P:Program)(nt:Nat)(call:O2)(f:FuncId)(q:List Bool)(x:XC)(s:S):Option (Ex×S) :=
 match s with
 | ⟨fr,m⟩=>bif Nat.ble nt 510 then match dU (fr.get 511)with
   | some d=>match Hp.get m.H d with
     | some (.lp _ _ _ 1)=>bV P nt call f q (x.run fr) fr m
     | _=>none
   | none=>bif mT (fr.get 511)then match Y6 m (.dfr true) (fun b=>.pointer (some ⟨b,0,none⟩))with
      | some (.pointer (some a),m1)=>Q5 (hY (fr.get 510)) fun l=>uT (sel 7) (sel 7) (sel 6) (dv (a.block::l)) fr fun c=>bV P nt call f q (x.run fr) c m1
      | _=>none else none
   else none
def M9(P:Program)(nt gl:Nat)(call:O2)(lp:LpT):List Bool->Code->fU
 | _,.skip=>⟨fun s=>some (.normal,s)⟩
 | _,.label _=>⟨fun s=>some (.normal,s)⟩
 | _,.region _ ops d=>match d with
   | false=>⟨fun s=>X9 (U6 P nt gl call ops.toList ops.toList) s⟩
   | true=>bif FJ ops then bif kO ops.toList then⟨fun s=>bif lC P nt gl s.fr s.m.H ops.toList then X9 (U6 P nt gl call ops.toList ops.toList) s else X9 ⟨l6 P nt gl call ops.toList ops.toList 0 (Y1 ops.toList []) [] []⟩ s⟩
     else⟨fun s=>X9 ⟨l6 P nt gl call ops.toList ops.toList 0 (Y1 ops.toList []) [] []⟩ s⟩else⟨fun _=>none⟩
 | q,.seq a b=>⟨fun s=>A1I (M9 P nt gl call lp (q++[false]) a) (M9 P nt gl call lp (q++[true]) b) s⟩
 | q,.cond c a b=>bif okX nt gl c then⟨fun s=>KQ (R5 c) (M9 P nt gl call lp (q++[false]) a) (M9 P nt gl call lp (q++[true]) b) s⟩else⟨fun _=>none⟩
 | q,.block id c=>⟨fun s=>yZ id (M9 P nt gl call lp (q++[false]) c) s⟩
 | q,.loop c=>⟨fun s=>KO (M9 P nt gl call lp (q++[false]) c) (lp.look q) s⟩
 | q,.rangeFunc x _ _ _=>bif okX nt gl x then⟨fun s=>yY P nt call lp.me q (R5 x) s⟩else⟨fun _=>none⟩
 | q,.scope c=>M9 P nt gl call lp (q++[false]) c
 | _,.exit id=>⟨fun s=>some (.exit id,s)⟩
 | _,.ret=>⟨fun s=>some (.ret,s)⟩
 | _,_=>⟨fun _=>none⟩
def JL(ids:Value->List Nat):C9->G9
 | []=>[]
 | v::r=>ids v++JL ids r
def AE:Nat->Value->G9
 | 0,_=>[]
 | _+1,.pointer (some a)=>[a.block]
 | _+1,.slice (some a) _ _=>[a.block]
 | _+1,.map (some b)=>[b]
 | d+1,.func _ a b=>JL (AE d) a.toList++JL (AE d) b.toList
 | d+1,.iface _ v=>AE d v
 | d+1,.agg cs=>JL (AE d) cs.toList
 | d+1,.tuple cs=>JL (AE d) cs.toList
 | _+1,_=>[]
def A8K:AB->G9
 | .cells cs _ _=>JL (AE 10) cs
 | .mp _ _ _=>[]
 | .iter vs=>JL (AE 10) vs
 | .lp _ _ vs _=>JL (AE 10) vs
 | .dfr _=>[]
 | .sq _ _ _ g _=>[g]
 | .frz=>[]
def HQ(n0:Nat)(H:Hp AB):Nat->G9->G9->G9
 | 0,_,acc=>acc
 | _+1,[],acc=>acc
 | f+1,b::r,acc=>bif Nat.blt b n0 || u9 acc b then HQ n0 H f r acc else match Hp.get H b with
   | some ab=>HQ n0 H f (A8K ab++r) (b::acc)
   | none=>HQ n0 H f r acc
def eK(a H:Hp AB):G9->Hp AB
 | []=>H
 | b::r=>Hp.put H b (Hp.get a b) fun H=>eK a H r
def wOf(H:Hp AB):G9->G9
 | []=>[]
 | b::r=>(match Hp.get H b with|some ab=>A8K ab|none=>[])++wOf H r
def nO:G9->G9->G9
 | [],acc=>acc
 | b::r,acc=>bif u9 acc b then nO r acc else nO r (b::acc)
def nH(low:Value->Bool):C9->Bool
 | []=>true
 | v::r=>low v && nH low r
def Z9(n:Nat):Nat->Value->Bool
 | 0,_=>false
 | _+1,.pointer (some a)=>Nat.blt a.block n
 | _+1,.slice (some a) _ _=>Nat.blt a.block n
 | _+1,.map (some b)=>Nat.blt b n
 | d+1,.func _ a b=>nH (Z9 n d) a.toList && nH (Z9 n d) b.toList
 | d+1,.iface _ v=>Z9 n d v
 | d+1,.agg cs=>nH (Z9 n d) cs.toList
 | d+1,.tuple cs=>nH (Z9 n d) cs.toList
 | _+1,.complex _ _ _=>true
 | _+1,v=>I1 v
def A2Y(n:Nat):Option AB->Bool
 | none=>true
 | some (.cells cs _ _)=>nH (Z9 n 10) cs
 | some (.mp _ _ _)=>true
 | some (.iter vs)=>nH (Z9 n 10) vs
 | some (.lp _ _ vs _)=>nH (Z9 n 10) vs
 | some (.dfr _)=>true
 | some (.sq _ _ _ g _)=>Nat.blt g n
 | some .frz=>true
def NA(n:Nat)(H:Hp AB):G9->Bool
 | []=>true
 | b::r=>A2Y n (Hp.get H b) && NA n H r
def gcM(m m':Mem)(v:Value):Option Mem :=
 let W:=nO (m'.W.filter fun b=>Nat.blt b m.n || Nat.ble m'.hi b) []
 bif Z9 m.n 10 v && NA m.n m'.H W then
  bif FT W then EX (eK m'.H m.H W) fun H=>J4 m'.hi fun hi=>Q5 (W++m.W) fun W=>some ⟨H,m.n,W,hi,m'.lg⟩else none
 else
  let ids:=(HQ m.n m'.H 100000 (AE 10 v++wOf m'.H W) []).filter fun b=>Nat.ble m.n b && Nat.blt b m'.hi
  bif FT (W++ids)then EX (eK m'.H m.H (W++ids)) fun H=>J4 m'.n fun n=>J4 m'.hi fun hi=>Q5 (W++m.W) fun W=>some ⟨H,n,W,hi,m'.lg⟩else none
def A7b(P:Program)(nt:Nat)(s:S):ResultVar->Q0
 | .tmp t=>bif Nat.blt t nt then some (s.fr.get t)else none
 | .cell a t=>bif Nat.blt a nt then match s.fr.get a with
   | .pointer (some a)=>QO P s.m t a
   | _=>none else none
def TK(P:Program)(nt:Nat)(s:S):List ResultVar->Option C9
 | []=>some []
 | r::rs=>match A7b P nt s r,TK P nt s rs with
   | some v,some vs=>some (v::vs)
   | _,_=>none
def TJ(fn:Func)(P:Program)(s:S):Q0 :=
 match TK P fn.ntmps s fn.results.toList with
 | some [v]=>some v
 | some vs=>some (.tuple ⟨vs⟩)
 | none=>none
def eT(fr:Fr):Nat->C9->Fr
 | _,[]=>fr
 | i,v::r=>uT (sel (i / 64%8)) (sel (i / 8%8)) (sel (i%8)) v fr fun fr=>eT fr (i+1) r
def sM(l:List UInt8)(c:UInt8):Nat->Int
 | i=>match l with
   | [] => -1
   | b::r=>bif decide (b=c)then(i:Int)else sM r c (i+1)
def sX(c:UInt8):List UInt8->Nat->Nat
 | [],n=>n
 | b::r,n=>bif decide (b=c)then J4 (n+1) (sX c r)else sX c r n
def oC(k:EK)(args:List Value)(m:Mem):Res :=
 match k,args with
 | .noEscape,[v]=>some (v,m)
 | .indexByteString,[.string s,.int .u8 (.ofNat c)]=>some (.int .i64 (sM s.data.toList (UInt8.ofNat c) 0),m)
 | .countString,[.string s,.int .u8 (.ofNat c)]=>some (.int .i64 (sX (UInt8.ofNat c) s.data.toList 0),m)
 | .makeNoZero e,[.int .i64 (.ofNat n)]=>bif Nat.ble n 1000000000 then Y6 m (.cells [] e false) fun b=>.slice (some ⟨b,0,none⟩) n M5 else none
 | _,_=>none
def pB:G9->Mem->Option Mem
 | [],m=>some m
 | b::r,m=>match Hp.get m.H b with
   | some (.dfr true)=>match cA m b (.dfr false)with
     | some m=>pB r m
     | none=>none
   | _=>none
def dvG(nt:Nat)(fr:Fr):G9:=bif Nat.ble nt 510 then hY (fr.get 510)else[]
def A60(fn:Func)(P:Program)(m:Mem)(r:Option (Ex×S)):Res :=
 match r with
 | some (.normal,⟨fr,m1⟩)|some (.ret,⟨fr,m1⟩)=>match pB (dvG fn.ntmps fr) m1 with
   | some m1=>match TJ fn P ⟨fr,m1⟩with
     | some v=>match gcM m m1 v with
       | some m=>some (v,m)
       | none=>none
     | none=>none
   | none=>none
 | _=>none
def MC(c:fU)(fr:Fr)(m:Mem):Option (Ex×S) :=
 match m with
 | ⟨H,n,_,hi,lg⟩=>c.run ⟨fr,⟨H,n,[],hi,lg⟩⟩
def zC(fn:Func)(P:Program)(c:fU)(args:List Value)(m:Mem):Res :=
 bif Nat.ble args.length fn.ntmps && Nat.ble fn.ntmps 512 then A60 fn P m (MC c (eT fr0 0 args) m)else none
structure Cx where
 P:Program
 ext:List (FuncId×EK)
 gl:Nat
 con:FuncId->Option FnC
 lp:FuncId->LpT
def CR(C:Cx)(call:O2)(f:FuncId):FnC :=
 match C.P.funcs.toList[f]? with
 | none=>⟨fun _ _=>none⟩
 | some fn=>match C.con f with
   | some c=>c
   | none=>match fn.body with
     | none=>match JW C.ext f with
       | some k=>⟨oC k⟩
       | none=>⟨fun _ _=>none⟩
     | some c=>⟨zC fn C.P (M9 C.P fn.ntmps C.gl call (C.lp f) [] c)⟩
def tS:List Tmp->C9->Fr->Option Fr
 | [],[],fr=>some fr
 | t::ts,v::vs,fr=>uT (sel (t / 64%8)) (sel (t / 8%8)) (sel (t%8)) v fr fun fr=>tS ts vs fr
 | _,_,_=>none
def pS(b:Nat)(r:Option (Ex×S)):Res :=
 match r with
 | some (e,⟨_,m⟩)=>match Hp.get m.H b with
   | some (.lp f q vs 1)=>J4 (exN e) fun st=>match cA m b (.lp f q vs st)with
     | some m=>some (.bool (EN e),m)
     | none=>none
   | _=>none
 | none=>none
def pP(b:Nat)(c:fU)(r:Option (Ex×S)):Res :=
 match r with
 | some (.normal,⟨fr,m⟩)=>match Hp.get m.H b with
   | some (.lp f q vs 0)=>match cA m b (.lp f q vs 1)with
     | some m=>pS b (c.run ⟨fr,m⟩)
     | none=>none
   | _=>none
 | _=>none
def DR(C:Cx)(call:O2):FnC:=⟨fun vs m =>
 match vs with
 | []=>none
 | v::args=>match dU v with
   | none=>none
   | some b=>match Hp.get m.H b with
     | some (.lp f q fs 0)=>match C.P.funcs.toList[f]? with
       | none=>none
       | some fn=>match fn.body with
         | none=>none
         | some body=>match H9 q body with
           | some (.rangeFunc _ ps as bd)=>bif Nat.ble fn.ntmps 510 && ps.toList.all (fun t=>Nat.blt t fn.ntmps)then match tS ps.toList args (eT fr0 0 fs)with
             | some fr=>uT (sel 7) (sel 7) (sel 7) v fr fun fr=>pP b (M9 C.P fn.ntmps C.gl call (C.lp f) (q++[true]) bd) ((M9 C.P fn.ntmps C.gl call (C.lp f) (q++[false]) as).run ⟨fr,m⟩)
             | none=>none else none
           | _=>none
     | _=>none⟩
def uG(C:Cx):Nat->O2
 | 0=>⟨fun _=>⟨fun _ _=>none⟩,⟨fun _ _=>none⟩⟩
 | d+1=>⟨CR C (uG C d),DR C (uG C d)⟩
end
end Go.Sx
