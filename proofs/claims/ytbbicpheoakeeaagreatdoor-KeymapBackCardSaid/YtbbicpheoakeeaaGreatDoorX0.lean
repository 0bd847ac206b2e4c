/- The law KeymapBack: for every input the call returns true, and the arguments read behind it as they read before. No condition. -/
import Derived.WalkKit
import Derived.OrdersHeld
import Derived.KernelRfl
set_option linter.all false
set_option maxRecDepth 100000
set_option maxHeartbeats 4000000
namespace Go
variable {p:Prop}
abbrev fD:=@Array.all_eq_true'
abbrev J1:=@Array.ext'
abbrev B7:=@Array.getD_eq_getD_getElem?
abbrev S9:=@Array.getElem?_append_left
abbrev F3:=@Array.getElem?_eq_getElem
abbrev C9:=@Array.getElem?_eq_some_iff
abbrev H3:=@Array.getElem?_modify
abbrev g7:=@Array.getElem?_push
abbrev gM:=@Array.getElem?_replicate
abbrev n8:=@Array.getElem?_set
abbrev F9:=@Array.getElem?_setIfInBounds
abbrev Y3:=@Array.getElem?_toList
abbrev R4:=@Array.length_toList
abbrev fI:=@Array.mapM_eq_mapM_toList
abbrev Z7:=@Array.mk.injEq
abbrev Z9:=@BitVec.toNat_and
abbrev Q0:=@BitVec.toNat_ofInt
abbrev G6:=@Bool.and_eq_true
abbrev mN:=@Bool.and_false
abbrev oC:=@Bool.and_true
abbrev K0:=@Bool.eq_iff_iff
abbrev mM:=@Bool.false_and
abbrev J6:=@Bool.false_eq_true
abbrev Q4:=@Bool.false_or
abbrev Q3:=@Bool.not_true
abbrev Z6:=@Bool.or_eq_false_iff
abbrev I9:=@Bool.or_eq_true
abbrev gL:=@Bool.true_and
abbrev D9:=@Decidable.not_not
abbrev iG:=@Int.eq_ofNat_of_zero_le
abbrev kC:=@Int.ofNat.injEq
abbrev dS:=@Int.ofNat_le
abbrev U8:=@Int.toNat_natCast
abbrev dF:=@Int.toNat_of_nonneg
abbrev kB:=@List.all_append
abbrev bY:=@List.all_cons
abbrev D4:=@List.all_eq_true
abbrev Q2:=@List.any_cons
abbrev Y8:=@List.any_eq_false
abbrev N7:=@List.any_eq_true
abbrev M8:=@List.append_assoc
abbrev L4:=@List.append_nil
abbrev J5:=@List.cons.injEq
abbrev S4:=@List.cons_append
abbrev cO:=@List.count_le_length
abbrev fC:=@List.drop_drop
abbrev c9:=@List.drop_eq_getElem_cons
abbrev R9:=@List.drop_eq_nil_of_le
abbrev kA:=@List.drop_left'
abbrev fB:=@List.drop_zero
abbrev bP:=@List.eq_nil_iff_forall_not_mem
abbrev M7:=@List.eq_nil_of_length_eq_zero
abbrev gD:=@List.ext_getElem?
abbrev dE:=@List.filter_eq_self
abbrev cX:=@List.find?_cons
abbrev gB:=@List.flatMap_cons
abbrev K7:=@List.flatten_cons
abbrev S3:=@List.flatten_nil
abbrev B1:=@List.getD_eq_getElem?_getD
abbrev F2:=@List.getElem?_append_left
abbrev E0:=@List.getElem?_append_right
abbrev R0:=@List.getElem?_cons_succ
abbrev Q9:=@List.getElem?_cons_zero
abbrev H8:=@List.getElem?_drop
abbrev A5:=@List.getElem?_eq_getElem
abbrev T7:=@List.getElem?_eq_none
abbrev fH:=@List.getElem?_eq_none_iff
abbrev B0:=@List.getElem?_eq_some_iff
abbrev G2:=@List.getElem?_map
abbrev cN:=@List.getElem?_set_ne
abbrev R8:=@List.getElem?_set_self
abbrev E8:=@List.getElem?_take_of_lt
abbrev I8:=@List.getElem?_toArray
abbrev N6:=@List.getElem_mem
abbrev e9:=@List.getElem_of_mem
abbrev B8:=@List.length_append
abbrev C7:=@List.length_cons
abbrev E9:=@List.length_drop
abbrev F8:=@List.length_eq_zero_iff
abbrev E5:=@List.length_map
abbrev N1:=@List.length_nil
abbrev dD:=@List.length_pos_iff
abbrev T6:=@List.length_replicate
abbrev R2:=@List.length_set
abbrev bC:=@List.length_singleton
abbrev I7:=@List.length_take
abbrev N0:=@List.map_append
abbrev dC:=@List.map_congr_left
abbrev C4:=@List.map_cons
abbrev dR:=@List.map_map
abbrev G0:=@List.map_nil
abbrev B5:=@List.mem_append
abbrev B4:=@List.mem_cons
abbrev C3:=@List.mem_cons_of_mem
abbrev B3:=@List.mem_cons_self
abbrev P5:=@List.mem_filter
abbrev I1:=@List.mem_map
abbrev D0:=@List.mem_of_getElem?
abbrev cM:=@List.mem_of_mem_drop
abbrev W4:=@List.mem_range
abbrev M2:=@List.mem_singleton
abbrev G4:=@List.nil_append
abbrev gA:=@List.nodup_append
abbrev jZ:=@List.nodup_cons
abbrev K5:=@List.not_mem_nil
abbrev bB:=@List.take_append_drop
abbrev cW:=@List.take_left'
abbrev aW:=@List.take_of_length_le
abbrev bX:=@Nat.add_assoc
abbrev jK:=@Nat.add_comm
abbrev H5:=@Nat.add_mul
abbrev W3:=@Nat.add_sub_cancel_left
abbrev jJ:=@Nat.add_zero
abbrev bO:=@Nat.and_le_right
abbrev dB:=@Nat.and_mod_two_pow
abbrev dQ:=@Nat.beq_refl
abbrev oZ:=@Nat.ble_eq
abbrev C6:=@Nat.ble_eq_true_of_le
abbrev A0:=@Nat.eq_of_beq_eq_true
abbrev S8:=@Nat.eq_zero_or_pos
abbrev A1:=@Nat.le_of_ble_eq_true
abbrev jH:=@Nat.le_of_lt
abbrev A6:=@Nat.le_refl
abbrev W7:=@Nat.le_succ
abbrev C5:=@Nat.le_trans
abbrev D5:=@Nat.lt_of_lt_of_le
abbrev F7:=@Nat.lt_or_ge
abbrev J2:=@Nat.lt_succ_self
abbrev W1:=@Nat.mod_eq_of_lt
abbrev oY:=@Nat.mod_lt
abbrev aV:=@Nat.mul_comm
abbrev n7:=@Nat.mul_div_cancel
abbrev fA:=@Nat.mul_le_mul
abbrev F6:=@Nat.mul_le_mul_right
abbrev fZ:=@Nat.one_mul
abbrev cL:=@Nat.pow_le_pow_right
abbrev jG:=@Nat.sub_self
abbrev Y7:=@Nat.succ_le_of_lt
abbrev F4:=@Nat.zero_add
abbrev mL:=@Nat.zero_le
abbrev jF:=@Nat.zero_mul
abbrev B9:=@Option.bind_eq_some_iff
abbrev F5:=@Option.bind_some
abbrev bN:=@Option.getD_some
abbrev aU:=@Option.map_eq_some_iff
abbrev L3:=@Option.map_some
abbrev A8:=@Option.some.inj
abbrev D3:=@Option.some.injEq
abbrev L5:=@Prod.mk.injEq
abbrev A4:=@Sem.run_bind
abbrev D7:=@cond_false
abbrev E3:=@cond_true
abbrev F1:=@congrArg
abbrev D8:=@decide_eq_false
abbrev I3:=@decide_eq_true
abbrev A7:=@if_neg
abbrev A9:=@if_pos
abbrev J4:=@of_decide_eq_true
def C8(h:p:=by kernel_rfl):p:=h
def K6{α:Type}{a:Option α}{b c:α}(h:a=some b)(e:b=c:=by kernel_rfl):a=some c:=h.trans (by rw[e])
def A2(h:p:=by omega):p:=h
def E6(h:p:=by decide):p:=h
end Go
namespace Go.Sx
section
open Go
abbrev D2:=List Value
abbrev H1:=List Nat
abbrev Q6:=Option Value
abbrev V9:=Array Value
structure N8 (α:Type) where
 c0:α
 c1:α
 c2:α
 c3:α
 c4:α
 c5:α
 c6:α
 c7:α
structure Sel where
 get:{α:Type}->N8 α->α
 upd:{α β:Type}->N8 α->α->(N8 α->β)->β
def sel:Nat->Sel
 | 0=>⟨fun n=>n.c0,fun n v k=>match n with|⟨a0,a1,a2,a3,a4,a5,a6,a7⟩=>k ⟨v,a1,a2,a3,a4,a5,a6,a7⟩⟩
 | 1=>⟨fun n=>n.c1,fun n v k=>match n with|⟨a0,a1,a2,a3,a4,a5,a6,a7⟩=>k ⟨a0,v,a2,a3,a4,a5,a6,a7⟩⟩
 | 2=>⟨fun n=>n.c2,fun n v k=>match n with|⟨a0,a1,a2,a3,a4,a5,a6,a7⟩=>k ⟨a0,a1,v,a3,a4,a5,a6,a7⟩⟩
 | 3=>⟨fun n=>n.c3,fun n v k=>match n with|⟨a0,a1,a2,a3,a4,a5,a6,a7⟩=>k ⟨a0,a1,a2,v,a4,a5,a6,a7⟩⟩
 | 4=>⟨fun n=>n.c4,fun n v k=>match n with|⟨a0,a1,a2,a3,a4,a5,a6,a7⟩=>k ⟨a0,a1,a2,a3,v,a5,a6,a7⟩⟩
 | 5=>⟨fun n=>n.c5,fun n v k=>match n with|⟨a0,a1,a2,a3,a4,a5,a6,a7⟩=>k ⟨a0,a1,a2,a3,a4,v,a6,a7⟩⟩
 | 6=>⟨fun n=>n.c6,fun n v k=>match n with|⟨a0,a1,a2,a3,a4,a5,a6,a7⟩=>k ⟨a0,a1,a2,a3,a4,a5,v,a7⟩⟩
 | _=>⟨fun n=>n.c7,fun n v k=>match n with|⟨a0,a1,a2,a3,a4,a5,a6,a7⟩=>k ⟨a0,a1,a2,a3,a4,a5,a6,v⟩⟩
def oX{α:Type}(v:α):N8 α:=⟨v,v,v,v,v,v,v,v⟩
def GB{α β:Type}(n:N8 α)(k:N8 α->β):β :=
 match n with
 | ⟨a0,a1,a2,a3,a4,a5,a6,a7⟩=>k ⟨a0,a1,a2,a3,a4,a5,a6,a7⟩
abbrev Fr:=N8 (N8 (N8 Value))
def Fr.get(fr:Fr)(t:Nat):Value:=(sel (t%8)).get ((sel (t / 8%8)).get ((sel (t / 64%8)).get fr))
def vO{β:Type}(a b c:Sel)(v:Value)(fr:Fr)(k:Fr->β):β :=
 c.upd (b.get (a.get fr)) v fun d=>b.upd (a.get fr) d fun e=>a.upd fr e k
def Fr.set(fr:Fr)(t:Nat)(v:Value):Fr:=vO (sel (t / 64%8)) (sel (t / 8%8)) (sel (t%8)) v fr fun fr=>fr
def fr0:Fr:=oX (oX (oX (.tuple #[])))
abbrev Hp(α:Type):=N8 (N8 (N8 (N8 (N8 (N8 (Option α))))))
def Hp.get{α:Type}(h:Hp α)(n:Nat):Option α :=
 (sel (n%8)).get ((sel (n / 8%8)).get ((sel (n / 64%8)).get ((sel (n / 512%8)).get ((sel (n / 4096%8)).get ((sel (n / 32768%8)).get h)))))
def X8{α β:Type}(a b c d e f:Sel)(v:Option α)(h:Hp α)(k:Hp α->β):β :=
 f.upd (e.get (d.get (c.get (b.get (a.get h))))) v fun j=>e.upd (d.get (c.get (b.get (a.get h)))) j fun g=>d.upd (c.get (b.get (a.get h))) g fun l=>c.upd (b.get (a.get h)) l fun i=>b.upd (a.get h) i fun m=>a.upd h m k
def Hp.put{α β:Type}(h:Hp α)(n:Nat)(v:Option α)(k:Hp α->β):β :=
 X8 (sel (n / 32768%8)) (sel (n / 4096%8)) (sel (n / 512%8)) (sel (n / 64%8)) (sel (n / 8%8)) (sel (n%8)) v h k
def Hp.set{α:Type}(h:Hp α)(n:Nat)(v:Option α):Hp α:=h.put n v fun h=>h
def hp0{α:Type}:Hp α:=oX (oX (oX (oX (oX (oX none)))))
def H6:Nat:=262143
def J8{β:Type}(n:Nat)(k:Nat->β):β :=
 match n with
 | 0=>k 0
 | m+1=>k (Nat.succ m)
def zB{β:Type}(i:Int)(k:Int->β):β :=
 match i with
 | .ofNat n=>J8 n fun n=>k (.ofNat n)
 | .negSucc n=>J8 n fun n=>k (.negSucc n)
def R1{α β:Type}:List α->(List α->β)->β
 | [],k=>k []
 | x::r,k=>R1 r fun r=>k (x::r)
def MP:IntKind->Nat
 | .i8=>127|.i16=>32767|.i32=>2147483647|.i64=>9223372036854775807
 | .u8=>255|.u16=>65535|.u32=>4294967295|.u64=>18446744073709551615
def BL(k:IntKind)(n:Int):Int :=
 match n with
 | .ofNat m=>bif Nat.ble m (MP k)then .ofNat m else k.wrap (.ofNat m)
 | .negSucc m=>k.wrap (.negSucc m)
def B0c(a b:Int):Int :=
 match a,b with
 | .ofNat m,.ofNat n=>.ofNat (Nat.add m n)
 | a,b=>a+b
def A67(a b:Int):Int :=
 match a,b with
 | .ofNat m,.ofNat n=>bif Nat.ble n m then .ofNat (Nat.sub m n)else .ofNat m - .ofNat n
 | a,b=>a-b
def A9F(a b:Int):Int :=
 match a,b with
 | .ofNat m,.ofNat n=>.ofNat (Nat.mul m n)
 | a,b=>a*b
def ltF(a b:Int):Bool :=
 match a,b with
 | .ofNat m,.ofNat n=>Nat.blt m n
 | .negSucc _,.ofNat _=>true
 | .ofNat _,.negSucc _=>false
 | .negSucc m,.negSucc n=>Nat.blt n m
def leF(a b:Int):Bool :=
 match a,b with
 | .ofNat m,.ofNat n=>Nat.ble m n
 | .negSucc _,.ofNat _=>true
 | .ofNat _,.negSucc _=>false
 | .negSucc m,.negSucc n=>Nat.ble n m
def BH(a b:Int):Bool :=
 match a,b with
 | .ofNat m,.ofNat n=>Nat.beq m n
 | .negSucc m,.negSucc n=>Nat.beq m n
 | _,_=>false
def uE:IntKind->IntKind->Bool
 | .i8,.i8|.i16,.i16|.i32,.i32|.i64,.i64|.u8,.u8|.u16,.u16|.u32,.u32|.u64,.u64=>true
 | _,_=>false
def mkI(k:IntKind)(n:Int):Value:=zB n fun n=>.int k n
inductive U where
 | none
 | int (k:IntKind) (n:Int)
 | bool (b:Bool)
 | str (s:List UInt8)
 | seq (nul:Bool) (w:Nat) (rows:List (List U))
inductive LOp where
 | bin (op:BinOp)
 | un (op:UnOp)
 | conv (k:IntKind)
 | len
 | idx
 | sub
 | sub1
 | sel
 | eqs
 | inb
 | max
 | min
 | mks
 | inbs (w:Nat)
 | get (w o:Nat)
 | mk (w:Nat)
 | nilw (w:Nat)
 | nilp
 | snoc (w:Nat)
 | cat (w:Nat)
 | cats
 | set (w o:Nat)
 | subs (w:Nat)
 | str
 | byt
 | rep (w:Nat)
 | ustr
 | mhas (w kw:Nat)
 | mget (w kw o:Nat)
 | mput (w kw:Nat)
 | rune
 | rpos
inductive j8 where
 | lt (i t:Nat) (op:LOp) (xs:List Value)
 | dt (i t:Nat) (op:LOp) (xs:List Value)
 | br (i:Nat) (b:Bool)
 | as (op:LOp) (xs:List Value)
 | con (spec:List U->Option (Nat×List U)) (xs:List Value) (i d n:Nat)
structure Lg where
 nx:Nat
 pi:H1
 log:List j8
def hole(i t:Nat):Value:=.complex .f64 i t
def junk:Value:=.complex .f32 0 0
def ixp(a:Addr)(s:Nat)(i:Value)(n:Nat):Value:=.func (.yield 1) ⟨[.pointer (some a),.int .i64 (.ofNat s),i,.int .i64 (.ofNat n)]⟩ ⟨[]⟩
def dat(b i t:Nat):Value:=.func (.yield 2) ⟨[.pointer (some ⟨b,0,none⟩),.complex .f64 i t]⟩ ⟨[]⟩
def clp(b i t:Nat):Value:=.func (.yield 3) ⟨[.pointer (some ⟨b,0,none⟩),.complex .f64 i t]⟩ ⟨[]⟩
def own(b i t:Nat):Value:=.func (.yield 4) ⟨[.pointer (some ⟨b,0,none⟩),.complex .f64 i t]⟩ ⟨[]⟩
def dpt(b i t:Nat)(z:Value)(o:Nat):Value:=.func (.yield 5) ⟨[.pointer (some ⟨b,0,none⟩),.complex .f64 i t,z,.int .i64 (.ofNat o)]⟩ ⟨[]⟩
def opt(b i t:Nat)(z:Value)(o:Nat):Value:=.func (.yield 6) ⟨[.pointer (some ⟨b,0,none⟩),.complex .f64 i t,z,.int .i64 (.ofNat o)]⟩ ⟨[]⟩
def yv(b:Nat):Value:=.func (.yield 7) ⟨[.pointer (some ⟨b,0,none⟩)]⟩ ⟨[]⟩
def sdt(b:Nat):Value:=.func (.yield 9) ⟨[.pointer (some ⟨b,0,none⟩)]⟩ ⟨[]⟩
def dv(ids:List Nat):Value:=.func (.yield 8) ⟨ids.map fun b=>.pointer (some ⟨b,0,none⟩)⟩ ⟨[]⟩
def A05:Value->Bool
 | .complex .f32 _ _=>true
 | _=>false
def one:Value:=.complex .f32 1 0
def iV:Value->Bool
 | .complex .f32 i _=>!(Nat.beq i 1)
 | _=>false
def hP:IntKind->Nat
 | .i8=>0|.i16=>1|.i32=>2|.i64=>3|.u8=>4|.u16=>5|.u32=>6|.u64=>7
def G5:Value->Nat
 | .int k _=>hP k
 | .bool _=>8
 | .string _=>9
 | .complex .f64 _ t=>t
 | _=>99
inductive AB where
 | cells (cs:List Value) (T:TypeId) (ro:Bool)
 | sq (c t:Nat) (T:TypeId) (g:Nat) (ro:Bool)
 | frz
 | mp (c t:Nat) (T:TypeId)
 | iter (vs:List Value)
 | lp (f:FuncId) (q:List Bool) (vs:List Value) (st:Nat)
 | dfr (b:Bool)
structure Mem where
 H:Hp AB
 n:Nat
 W:H1
 hi:Nat
 lg:Lg
structure S where
 fr:Fr
 m:Mem
inductive Ex where
 | normal
 | exit (id:Nat)
 | ret
def G8:List Bool->Code->Option Code
 | [],c=>some c
 | false::q,.seq a _=>G8 q a
 | true::q,.seq _ b=>G8 q b
 | false::q,.cond _ a _=>G8 q a
 | true::q,.cond _ _ b=>G8 q b
 | false::q,.block _ c=>G8 q c
 | false::q,.scope c=>G8 q c
 | false::q,.loop c=>G8 q c
 | false::q,.rangeFunc _ _ a _=>G8 q a
 | true::q,.rangeFunc _ _ _ b=>G8 q b
 | _::_,_=>none
def M9:Nat:=9223372036854775808
def I4:Value->Bool
 | .bool _|.int _ _|.string _|.pointer none|.slice none _ _|.map none|.nilFunc|.nilIface=>true
 | _=>false
def QT:Value->Bool
 | .agg cs=>cs.toList.all I4
 | v=>I4 v
def ev(fr:Fr):Operand->Value
 | .tmp t=>fr.get t
 | .const v=>v
 | .global g=>.pointer (some ⟨g,0,none⟩)
 | .func f=>.func (.func f) #[] #[]
def okX(nt gl:Nat):Operand->Bool
 | .tmp t=>Nat.blt t nt
 | .const v=>QT v
 | .global g=>Nat.blt g gl
 | .func _=>true
def evL(fr:Fr):List Operand->D2
 | []=>[]
 | x::r=>ev fr x::evL fr r
def evP(fr:Fr):List (Nat×Operand)->List (Nat×Value)
 | []=>[]
 | (i,x)::r=>(i,ev fr x)::evP fr r
def evO(fr:Fr):Option Operand->Q6
 | none=>none
 | some x=>some (ev fr x)
structure XC where
 run:Fr->Value
def B24(a b c:Sel):XC:=⟨fun fr=>c.get (b.get (a.get fr))⟩
def S0:Operand->XC
 | .tmp t=>B24 (sel (t / 64%8)) (sel (t / 8%8)) (sel (t%8))
 | .const v=>⟨fun _=>v⟩
 | .global g=>⟨fun _=>.pointer (some ⟨g,0,none⟩)⟩
 | .func f=>⟨fun _=>.func (.func f) #[] #[]⟩
def dY(x:Operand)(fr:Fr):(S0 x).run fr=ev fr x:=by cases x<;>rfl
structure LC where
 run:Fr->D2
def B0H(x:XC)(r:LC)(fr:Fr):D2:=x.run fr::r.run fr
def vB:List Operand->LC
 | []=>⟨fun _=>[]⟩
 | x::r=>⟨fun fr=>B0H (S0 x) (vB r) fr⟩
def nO(fr:Fr):∀ xs:List Operand,(vB xs).run fr=evL fr xs
 | []=>rfl
 | x::r=>by
   show(S0 x).run fr::(vB r).run fr=_;rw[dY,nO fr r];rfl
abbrev Res:=Option (Value×Mem)
def upN(hi n:Nat):Nat:=bif Nat.blt n hi then hi else Nat.succ n
def Mem.wLg(m:Mem)(lg:Lg):Mem :=
 match m with
 | ⟨H,n,W,hi,_⟩=>⟨H,n,W,hi,lg⟩
def U1(m:Mem)(t:Nat)(op:LOp)(xs:List Value):Res :=
 match m with
 | ⟨H,n,W,hi,⟨nx,pi,log⟩⟩=>J8 nx fun nx=>J8 t fun t=>R1 xs fun xs=>some (hole nx t,⟨H,n,W,hi,⟨Nat.succ nx,pi,.lt nx t op xs::log⟩⟩)
def vQ(m:Mem)(t:Nat)(op:LOp)(xs:List Value)(k:Nat->Mem->Res):Res :=
 match m with
 | ⟨H,n,W,hi,⟨nx,pi,log⟩⟩=>J8 nx fun nx=>J8 t fun t=>R1 xs fun xs=>k nx ⟨H,n,W,hi,⟨Nat.succ nx,pi,.dt nx t op xs::log⟩⟩
def zF:List j8->Nat->Option Bool
 | [],_=>none
 | .br j b::r,i=>bif Nat.beq j i then some b else zF r i
 | _::r,i=>zF r i
def brL(lg:Lg)(c:Value):Option (Bool×Lg) :=
 match c with
 | .bool b=>some (b,lg)
 | .complex .f64 i 8=>match lg with
   | ⟨nx,pi,log⟩=>match zF log i with
     | some b=>some (b,⟨nx,pi,log⟩)
     | none=>match pi with
       | 1::r=>some (true,⟨nx,r,.br i true::log⟩)
       | 0::r=>some (false,⟨nx,r,.br i false::log⟩)
       | _=>none
 | _=>none
def Z3(m:Mem)(ab:AB)(k:Nat->Value):Res :=
 match m with
 | ⟨H,n,W,hi,lg⟩=>bif Nat.ble n H6 then J8 n fun n=>J8 (upN hi n) fun hi=>Hp.put H n (some ab) fun H=>some (k n,⟨H,Nat.succ n,W,hi,lg⟩)else none
def bZ(m:Mem)(id:Nat)(ab:AB):Option Mem :=
 match m with
 | ⟨H,n,W,hi,lg⟩=>bif Nat.ble id H6 then Hp.put H id (some ab) fun H=>J8 id fun id=>some ⟨H,n,id::W,hi,lg⟩else none
def jS(m:Mem)(id:Nat):Mem :=
 match m with
 | ⟨H,n,W,hi,lg⟩=>Hp.put H id none fun H=>J8 id fun id=>⟨H,n,id::W,hi,lg⟩
def A1j(cs:List Value)(o n:Nat):Option D2 :=
 let r:=(cs.drop o).take n
 bif Nat.beq r.length n then some r else none
def q8(m:Mem)(a:Addr)(n:Nat):Option D2 :=
 match a.spot,Hp.get m.H a.block with
 | none,some (.cells cs _ _)=>A1j cs a.off n
 | _,_=>none
def cB:D2->Nat->D2->D2
 | cs,_,[]=>cs
 | cs,k,v::r=>cB (cs.set k v) (k+1) r
def flat:Value->Bool
 | .agg _|.tuple _=>false
 | .complex .f32 i _=>Nat.beq i 1
 | _=>true
def oD(m:Mem)(a:Addr)(vs:List Value):Option Mem :=
 match a.spot,Hp.get m.H a.block with
 | none,some (.cells cs T false) =>
   bif Nat.ble (a.off+vs.length) cs.length && vs.all flat then R1 (cB cs a.off vs) fun cs=>bZ m a.block (.cells cs T false)else none
 | _,_=>none
variable (P:Program)
def aC(t:TypeId):Option Bool :=
 match P.underlying t with
 | some (.struct _)|some (.array _ _)=>some true
 | some _=>some false
 | none=>none
def G9(t:TypeId):Option Nat :=
 match P.info? t with
 | some i=>some i.size
 | none=>none
def fJ(t:TypeId):Q6 :=
 match P.info? t with
 | some i=>match i.zero with
   | some v=>bif QT v then some v else none
   | none=>none
 | none=>none
def RK(m:Mem)(t:TypeId)(a:Addr):Q6 :=
 match aC P t with
 | some true=>match G9 P t with
   | some n=>match q8 m a n with
     | some cs=>some (.agg ⟨cs⟩)
     | none=>none
   | none=>none
 | some false=>match q8 m a 1 with
   | some (v::_)=>some v
   | _=>none
 | none=>none
def xC(m:Mem)(t:TypeId)(a:Addr)(v:Value):Option Mem :=
 match G9 P t with
 | some n=>bif Nat.beq v.cells.size n && !(iV v)then oD m a v.cells.toList else none
 | none=>none
def qV(t:TypeId)(cs:List Value)(off:Nat):Q6 :=
 match aC P t with
 | some true=>match G9 P t with
   | some n=>match A1j cs off n with
     | some r=>some (.agg ⟨r⟩)
     | none=>none
   | none=>none
 | some false=>cs[off]?
 | none=>none
def A4Q(e:TypeId)(s i:Nat):Field:={ name := "x",type:=e,offset:=i*s,embedded:=false,tag := "",pkgPath := "",byteOffset:=0 }
mutual
def eqM:Nat->TypeId->Value->Value->Option Bool
 | 0,_,_,_=>none
 | d+1,t,x,y=>match P.underlying t,x,y with
   | some .bool,.bool a,.bool b=>some (a == b)
   | some (.int _),.int k a,.int j b=>bif decide (k=j)then some (a == b)else none
   | some .string,.string a,.string b=>some (a.data.toList == b.data.toList)
   | some (.pointer _),.pointer none,.pointer b=>some b.isNone
   | some (.pointer _),.pointer (some _),.pointer none=>some false
   | some (.interface _),.nilIface,.nilIface=>some true
   | some (.interface _),.nilIface,.iface _ _=>some false
   | some (.interface _),.iface _ _,.nilIface=>some false
   | some (.interface _),.iface tx vx,.iface ty vy=>bif Nat.beq tx ty then(match P.info? tx with
     | some i=>bif i.comparable then eqM d tx vx vy else none
     | none=>none)else some false
   | some (.slice _),.slice none _ _,.slice b _ _=>some b.isNone
   | some (.slice _),.slice (some _) _ _,.slice none _ _=>some false
   | some (.map _ _),.map none,.map b=>some b.isNone
   | some (.func _ _ _),.nilFunc,.nilFunc=>some true
   | some (.func _ _ _),.nilFunc,.func (.func _) _ _=>some false
   | some (.func _ _ _),.func (.func _) _ _,.nilFunc=>some false
   | some (.struct fs),.agg xs,.agg ys=>bif P.stoodInHeld t then none else eqF d fs.toList xs.toList ys.toList
   | some (.array n e),.agg xs,.agg ys=>match G9 P e with
     | some s=>eqF d ((List.range n).map (A4Q e s)) xs.toList ys.toList
     | none=>none
   | _,_,_=>none
def eqF:Nat->List Field->D2->D2->Option Bool
 | 0,_,_,_=>none
 | _+1,[],_,_=>some true
 | d+1,f::fs,xs,ys =>
   bif f.name == "_" then none else
   match qV P f.type xs f.offset,qV P f.type ys f.offset with
   | some x,some y=>match eqM d f.type x y with
     | some true=>eqF d fs xs ys
     | some false=>some false
     | none=>none
   | _,_=>none
end
def isC:Operand->Bool
 | .const _=>true
 | _=>false
def lT(t:TypeId)(x y:Operand)(a b:Value):Bool :=
 match a,b with
 | .nilIface,.nilIface=>isC x || isC y
 | .agg _,.agg _=>!P.eqGuardType P.depth t
 | a,b=>!(A05 a) && !(A05 b)
def AG(op:BinOp)(k:IntKind)(x y:Int):Q6 :=
 match op with
 | .and=>some (.int k (k.wrap (BitVec.ofInt k.bits x &&& BitVec.ofInt k.bits y).toNat))
 | .or=>some (.int k (k.wrap (BitVec.ofInt k.bits x ||| BitVec.ofInt k.bits y).toNat))
 | .xor=>some (.int k (k.wrap (BitVec.ofInt k.bits x ^^^ BitVec.ofInt k.bits y).toNat))
 | .andNot=>some (.int k (k.wrap (BitVec.ofInt k.bits x &&& ~~~BitVec.ofInt k.bits y).toNat))
 | _=>none
def ltL:List UInt8->List UInt8->Bool
 | _,[]=>false
 | [],_::_=>true
 | a::x,b::y=>a<b || (a == b && ltL x y)
def kJ(op:BinOp)(k:IntKind)(a b:Int):Q6 :=
 match op with
 | .add=>some (mkI k (BL k (B0c a b)))
 | .sub=>some (mkI k (BL k (A67 a b)))
 | .mul=>some (mkI k (BL k (A9F a b)))
 | .quo=>bif BH b 0 then none else some (mkI k (k.wrap (a.tdiv b)))
 | .rem=>bif BH b 0 then none else some (mkI k (a.tmod b))
 | .eql=>some (.bool (BH a b))
 | .neq=>some (.bool (!(BH a b)))
 | .lss=>some (.bool (ltF a b))
 | .leq=>some (.bool (leF a b))
 | .gtr=>some (.bool (ltF b a))
 | .geq=>some (.bool (leF b a))
 | op=>AG op k a b
def NH(left:Bool)(k:IntKind)(a:Int)(b:Nat):Value :=
 bif left then mkI k (k.wrap (a*2 ^ (min b k.bits)))else mkI k (a.fdiv (2 ^ (min b k.bits)))
def A2k(op:BinOp)(a b:ByteArray):Q6 :=
 match op with
 | .add=>bif Nat.ble (a.size+b.size) 1000000000 then R1 (a.data.toList++b.data.toList) fun l=>some (.string ⟨⟨l⟩⟩)else none
 | .eql=>some (.bool (a.data.toList == b.data.toList))
 | .neq=>some (.bool (!(a.data.toList == b.data.toList)))
 | .lss=>some (.bool (ltL a.data.toList b.data.toList))
 | .leq=>some (.bool (ltL a.data.toList b.data.toList || (a.data.toList == b.data.toList)))
 | .gtr=>some (.bool (!(ltL a.data.toList b.data.toList || (a.data.toList == b.data.toList))))
 | .geq=>some (.bool (!(ltL a.data.toList b.data.toList)))
 | _=>none
def CD(op:BinOp)(t:TypeId)(x y:Value):Q6 :=
 match op with
 | .eql=>match eqM P 20 t x y with
   | some b=>some (.bool b)
   | none=>none
 | .neq=>match eqM P 20 t x y with
   | some b=>some (.bool (!b))
   | none=>none
 | _=>none
def hY:BinOp->Option Bool
 | .shl=>some true
 | .shr=>some false
 | _=>none
def aF(op:BinOp)(k j:IntKind)(a b:Int):Q6 :=
 match hY op with
 | some l=>match b with
   | .ofNat n=>some (NH l k a n)
   | .negSucc _=>none
 | none=>bif uE k j then kJ op k a b else none
def sI(op:BinOp)(t:TypeId)(x y:Value):Q6 :=
 match x,y with
 | .int k a,.int j b=>aF op k j a b
 | .string a,.string b=>A2k op a b
 | x,y=>CD P op t x y
def unM(op:UnOp)(x:Value):Q6 :=
 match op,x with
 | .neg,.int k n=>some (mkI k (k.wrap (0-n)))
 | .xor,.int k n=>AG .xor k (if k.signed then -1 else k.max) n
 | .not,.bool b=>some (.bool !b)
 | _,_=>none
def bytesOf:D2->Option (List UInt8)
 | []=>some []
 | .int .u8 n::r=>match bytesOf r with
   | some l=>some (UInt8.ofNat n.toNat::l)
   | none=>none
 | _::_=>none
def P6(l:List UInt8):D2:=l.map fun b=>.int .u8 b.toNat
def DL(m:Mem)(s t:TypeId)(x:Value):Res :=
 match P.underlying s,P.underlying t,x with
 | some _,some (.int k),.int _ n=>some (mkI k (BL k n),m)
 | some _,some .string,.string b=>some (.string b,m)
 | some _,some .string,.int _ n=>some (.string (Utf8.encode n),m)
 | some _,some (.slice e),.string b=>match P.underlying e with
   | some (.int .u8)=>match G9 P e with
     | some 1=>R1 (P6 b.data.toList) fun cs=>Z3 m (.cells cs e false) fun i=>.slice (some ⟨i,0,none⟩) b.size M9
     | _=>none
   | _=>none
 | some (.slice e),some .string,.slice none _ _=>match P.underlying e with
   | some (.int .u8)=>some (.string ByteArray.empty,m)
   | _=>none
 | some (.slice e),some .string,.slice (some a) n _=>match P.underlying e with
   | some (.int .u8)=>match q8 m a n with
     | some cs=>match bytesOf cs with
       | some l=>some (.string ⟨⟨l⟩⟩,m)
       | none=>none
     | none=>none
   | _=>none
 | _,_,_=>none
def zG(place:Nat->Option (Nat×Nat))(cells:List Value):List (Nat×Value)->Option D2
 | []=>some cells
 | (i,v)::rest=>match place i with
   | none=>none
   | some (off,size) =>
     bif (Nat.beq v.cells.size size && !(iV v)) && Nat.ble (off+v.cells.size) cells.length then R1 (cB cells off v.cells.toList) fun cs=>zG place cs rest else none
def qT:List Field->Option (List (Nat×Nat))
 | []=>some []
 | f::r=>match G9 P f.type,qT r with
   | some n,some l=>some ((f.offset,n)::l)
   | _,_=>none
def IV(z:List Value):Nat->D2
 | 0=>[]
 | n+1=>z++IV z n
def EF(e:TypeId)(n:Nat):Option D2 :=
 match G9 P e with
 | some s=>bif Nat.beq (n*s) 0 then some []else match fJ P e with
   | some z=>bif Nat.beq z.cells.size s then some (IV z.cells.toList n)else none
   | none=>none
 | none=>none
def PE(t:TypeId)(parts:List (Nat×Value)):Q6 :=
 match fJ P t,P.underlying t with
 | some z,some (.struct fs)=>match qT P fs.toList with
   | some ps=>match zG (ps[·]?) z.cells.toList parts with
     | some cs=>some (.agg ⟨cs⟩)
     | none=>none
   | none=>none
 | some z,some (.array _ e)=>match G9 P e with
   | some s=>match zG (fun i=>some (i*s,s)) z.cells.toList parts with
     | some cs=>some (.agg ⟨cs⟩)
     | none=>none
   | none=>none
 | _,_=>none
def cJ(m:Mem)(t:TypeId)(n:Nat)(parts:List (Nat×Value)):Res :=
 match P.underlying t with
 | some (.slice e)=>match G9 P e,EF P e n with
   | some s,some zs=>bif Nat.ble (n*s) 16777216 && Nat.blt n M9 then match zG (fun i=>some (i*s,s)) zs parts with
     | some cs=>Z3 m (.cells cs e false) fun i=>.slice (some ⟨i,0,none⟩) n n
     | none=>none else none
   | _,_=>none
 | _=>none
def eL(m:Mem)(t:TypeId)(l c:Value):Res :=
 match P.underlying t,l,c with
 | some (.slice e),.int _ (.ofNat l),.int _ (.ofNat c)=>match P.info? e with
   | some i=>bif Nat.ble l c && Nat.ble c 10000000 && Nat.ble (c*i.bytes) 100000000 then match EF P e c with
     | some a=>R1 a fun a=>Z3 m (.cells a e false) fun k=>.slice (some ⟨k,0,none⟩) l c
     | none=>none else none
   | none=>none
 | _,_,_=>none
def bF(a:Addr)(n:Nat):Addr:=J8 (a.off+n) fun o=>⟨a.block,o,none⟩
def cG(s:TypeId)(x:Value)(i:Nat):Q6 :=
 match P.underlying s,x with
 | some (.struct fs),.pointer (some a)=>match fs.toList[i]?,a.spot with
   | some f,none=>match G9 P f.type with
     | some (_+1)=>some (.pointer (some (bF a f.offset)))
     | _=>none
   | _,_=>none
 | _,_=>none
def GF(t:TypeId)(x:Value)(i:Nat):Q6 :=
 match P.underlying t,x with
 | some (.struct fs),.agg cs=>match fs.toList[i]? with
   | some f=>qV P f.type cs.toList f.offset
   | none=>none
 | _,_=>none
def X7(t:TypeId)(x i:Value):Q6 :=
 match P.underlying t,x,i with
 | some (.array n e),.pointer (some a),.int _ (.ofNat k)=>match G9 P e,a.spot with
   | some s,none=>bif Nat.blt k n then some (.pointer (some (bF a (k*s))))else none
   | _,_=>none
 | some (.slice e),.slice (some a) n _,.int _ (.ofNat k)=>match G9 P e,a.spot with
   | some s,none=>bif Nat.blt k n then some (.pointer (some (bF a (k*s))))else none
   | _,_=>none
 | _,_,_=>none
def lR(t:TypeId)(x i:Value):Q6 :=
 match P.underlying t,x,i with
 | some (.array n e),.agg cs,.int _ (.ofNat k)=>match G9 P e with
   | some s=>bif Nat.blt k n then qV P e cs.toList (k*s)else none
   | none=>none
 | some .string,.string s,.int _ (.ofNat k)=>match s.data.toList[k]? with
   | some b=>some (.int .u8 b.toNat)
   | none=>none
 | _,_,_=>none
def U2(v:Option Value)(H6 a:Nat):Option Nat :=
 match v with
 | none=>some a
 | some (.int _ (.ofNat k))=>bif Nat.ble k H6 then some k else none
 | some _=>none
def cS(t:TypeId)(x:Value)(b hi mx:Option Value):Q6 :=
 match P.underlying t,x with
 | some .string,.string s =>
   match mx,U2 hi s.size s.size with
   | none,some h=>match U2 b h 0 with
     | some l=>some (.string ⟨⟨(s.data.toList.drop l).take (h-l)⟩⟩)
     | none=>none
   | _,_=>none
 | some (.slice e),.slice none n c =>
   match n,c,U2 mx 0 0,U2 hi 0 0,U2 b 0 0 with
   | 0,0,some _,some _,some _=>bif (mx.isSome && hi.isNone) || (G9 P e).isNone then none else some (.slice none 0 0)
   | _,_,_,_,_=>none
 | some (.slice e),.slice (some a) n c =>
   match G9 P e,a.spot with
   | some s,none =>
     bif Nat.blt c M9 then
      match U2 mx c c with
      | some m=>match (match hi,mx with|none,some _=>none|hi,_=>U2 hi m n)with
        | some h=>match U2 b h 0 with
          | some l=>some (.slice (some (bif Nat.beq m l then a else bF a (l*s))) (h-l) (m-l))
          | none=>none
        | none=>none
      | none=>none
     else
      match mx with
      | some _=>match hi,U2 mx n n with
        | some _,some m=>bif Nat.blt m M9 && Nat.ble c (M9+1)then match U2 hi m n with
          | some h=>match U2 b h 0 with
            | some l=>some (.slice (some (bif Nat.beq m l then a else bF a (l*s))) (h-l) (m-l))
            | none=>none
          | none=>none else none
        | _,_=>none
      | none=>match U2 hi n n with
        | some h=>match U2 b h 0 with
          | some 0=>some (.slice (some a) h c)
          | some (l+1)=>let l:=l+1
            bif Nat.blt l n then some (.slice (some (bF a (l*s))) (h-l) (M9+1))else some (.slice (some a) 0 (M9+2))
          | none=>none
        | none=>none
   | _,_=>none
 | some (.array n e),.pointer (some a) =>
   match G9 P e,a.spot,mx with
   | some s,none,none=>match U2 hi n n with
     | some h=>match U2 b h 0 with
       | some l=>bif Nat.blt n M9 then some (.slice (some (bif Nat.beq n l then a else bF a (l*s))) (h-l) (n-l))else none
       | none=>none
     | none=>none
   | _,_,_=>none
 | _,_=>none
def eK(m:Mem)(s:Nat)(y:Value):Option (Nat×List Value) :=
 match y with
 | .slice none n _=>bif Nat.beq n 0 then some (0,[])else none
 | .slice (some a) n _=>match q8 m a (n*s)with
   | some cs=>some (n,cs)
   | none=>none
 | .string b=>bif Nat.beq s 1 then some (b.size,P6 b.data.toList)else none
 | _=>none
def cT:TypeDesc->Bool
 | .slice _|.string=>true
 | _=>false
def sL(m:Mem)(t t2:TypeId)(x y:Value):Res :=
 match P.underlying t,P.underlying t2 with
 | some (.slice e),some d2 =>
   bif !(cT d2)then none else
   match P.info? e,x with
   | some i,.slice a n c=>match eK m i.size y,fJ P e with
     | some (k,new),some z =>
       bif Nat.ble ((3*(n+k)+4000)*i.bytes) 281474976710656 && Nat.ble (n+k) 1000000000 && Nat.beq z.cells.size i.size && new.all flat then
       bif Nat.beq k 0 then(match a with|none=>bif Nat.beq n 0 && Nat.beq c 0 then some (x,m)else none|some _=>bif Nat.ble c (M9+1) && Nat.ble n c then some (x,m)else none)else
       match a with
       | none=>bif Nat.beq n 0 && Nat.beq c 0 then R1 new fun cs=>Z3 m (.cells cs e false) fun b=>.slice (some ⟨b,0,none⟩) k M9 else none
       | some d =>
         bif Nat.blt c M9 then
          bif Nat.ble (n+k) c then
           match d.spot,oD m (bF d (n*i.size)) new with
           | none,some m'=>some (.slice a (n+k) c,m')
           | _,_=>none
          else match q8 m d (n*i.size)with
           | some old=>R1 (old++new) fun cs=>Z3 m (.cells cs e false) fun b=>.slice (some ⟨b,0,none⟩) (n+k) M9
           | none=>none
         else bif Nat.beq c M9 && Nat.beq d.off 0 then
          match d.spot,Hp.get m.H d.block with
          | none,some (.cells cs T false) =>
            bif Nat.beq cs.length (n*i.size) && Nat.beq T e && Nat.ble d.block H6 && Nat.blt d.block m.n then
             R1 (cs++new) fun cs=>Z3 (jS m d.block) (.cells cs e false) fun b=>.slice (some ⟨b,0,none⟩) (n+k) M9
            else none
          | _,_=>none
         else none
       else none
     | _,_=>none
   | _,_=>none
 | _,_=>none
def LL(m:Mem)(t:TypeId)(x y:Value):Res :=
 match P.underlying t,x with
 | some (.slice e),.slice a n c=>match G9 P e with
   | some s =>
     match (match y with
      | .slice none k _=>bif Nat.beq k 0 then some (0,[])else none
      | .slice (some b) k _=>match q8 m b (Nat.min k n*s)with
        | some cs=>some (Nat.min k n,cs)
        | none=>none
      | .string b=>some (Nat.min b.size n,P6 (b.data.toList.take (Nat.min b.size n)))
      | _=>none:Option (Nat×List Value))with
     | some (k,cs)=>match a with
       | none=>bif Nat.beq k 0 then some (.int .i64 0,m)else none
       | some d=>bif Nat.beq cs.length 0 then some (.int .i64 k,m)else bif Nat.ble c (M9+1)then match oD m d cs with
         | some m'=>some (.int .i64 k,m')
         | none=>none else none
     | none=>none
   | none=>none
 | _,_=>none
def A0V(m:Mem)(t:TypeId)(x:Value):Q6 :=
 match P.underlying t,x with
 | some .string,.string s=>some (.int .i64 s.data.toList.length)
 | some (.array n _),_=>some (.int .i64 n)
 | some (.slice _),.slice _ n _=>some (.int .i64 n)
 | some (.map _ _),.map none=>some (.int .i64 0)
 | _,_=>none
def A8T(t:TypeId)(x:Value):Q6 :=
 match P.underlying t,x with
 | some (.slice _),.slice none _ c=>some (.int .i64 c)
 | some (.slice _),.slice (some a) n c=>bif Nat.blt c M9 then some (.int .i64 c)else none
 | _,_=>none
def A7i:D2->Q6
 | [.int k a,.int _ b]=>some (.int k (if b>a then b else a))
 | [.int k a,.int _ b,.int _ c]=>zB (if b>a then b else a) fun d=>some (.int k (if c>d then c else d))
 | _=>none
def A7h:D2->Q6
 | [.int k a,.int _ b]=>some (.int k (if b<a then b else a))
 | [.int k a,.int _ b,.int _ c]=>zB (if b<a then b else a) fun d=>some (.int k (if c<d then c else d))
 | _=>none
def noM(v:Option Value)(m:Mem):Res :=
 match v with
 | some v=>some (v,m)
 | none=>none
def OA(m:Option Mem):Res :=
 match m with
 | some m=>some (undef,m)
 | none=>none
def QY(m:Mem)(c a b:Value):Res :=
 match c with
 | .bool true=>some (a,m)
 | .bool false=>some (b,m)
 | _=>none
def FD(m:Mem)(e:TypeId):Res :=
 match fJ P e with
 | some z=>Z3 m (.cells z.cells.toList e false) fun b=>.pointer (some ⟨b,0,none⟩)
 | none=>none
def ZX(m:Mem)(e:TypeId)(v:Value):Res :=
 bif v.cells.toList.all flat then Z3 m (.cells v.cells.toList e false) fun b=>.pointer (some ⟨b,0,none⟩)else none
def QZ(m:Mem)(t:TypeId)(v:Value):Res :=
 match v with
 | .pointer (some a)=>noM (RK P m t a) m
 | _=>none
def FB(m:Mem)(t:TypeId)(x v:Value):Res :=
 match x with
 | .pointer (some a)=>OA (xC P m t a v)
 | _=>none
def ZW(m:Mem)(x:Value):Res :=
 match x with
 | .pointer (some a)=>some (.pointer (some a),m)
 | .func (.func f) a b=>some (.func (.func f) a b,m)
 | _=>none
def yY:BinOp->Bool
 | .eql|.neq=>true
 | _=>false
def A3H(m:Mem)(op:BinOp)(t:TypeId)(x y:Operand)(a b:Value):Res :=
 bif yY op then(bif lT P t x y a b then noM (sI P op t a b) m else none)else noM (sI P op t a b) m
def FC(m:Mem)(t:TypeId)(v:Value):Res :=
 match P.underlying t with
 | some d=>(match d with|.interface _=>none|_=>bif flat v || (match v with|.agg _=>true|_=>false)then some (.iface t v,m)else none)
 | none=>none
def lF(m:Mem)(v:Value)(i:Nat):Res :=
 match v with
 | .tuple vs=>noM vs.toList[i]? m
 | _=>none
def iL(m:Mem)(x:Value):Res :=
 match x with
 | .slice none _ _=>some (.pointer none,m)
 | .slice (some a) n c=>bif Nat.beq n 0 || Nat.beq c 0 || Nat.beq c (M9+2)then none else some (.pointer (some a),m)
 | _=>none
def eB(m:Mem)(b:TypeId)(p l:Value):Res :=
 match p,l with
 | .pointer none,.int _ (.ofNat 0)=>some (.string ByteArray.empty,m)
 | .pointer (some a),.int _ (.ofNat n) =>
   match a.spot,Hp.get m.H a.block with
   | none,some (.cells cs T false)=>match P.underlying b,G9 P T with
     | some (.pointer e),some 1=>bif Nat.blt 0 n && Nat.ble n 1000000000 && Nat.beq e T then match A1j cs a.off n with
       | some l=>match bytesOf l,bZ m a.block (.cells cs T true)with
         | some l,some m'=>some (.string ⟨⟨l⟩⟩,m')
         | _,_=>none
       | none=>none else none
     | _,_=>none
   | _,_=>none
 | _,_=>none
def iE(m:Mem)(b:Builtin)(vs:List Value)(tys:List TypeId):Res :=
 match b,vs,tys with
 | .len,[x],t::_=>noM (A0V P m t x) m
 | .cap,[x],t::_=>noM (A8T P t x) m
 | .append,[x,y],t::t2::_=>sL P m t t2 x y
 | .copy,[x,y],t::_=>LL P m t x y
 | .max,vs,_=>noM (A7i vs) m
 | .min,vs,_=>noM (A7h vs) m
 | .unsafeSliceData,[x],_=>iL m x
 | .unsafeString,[p,l],t::_=>eB P m t p l
 | _,_,_=>none
def opM(fr:Fr)(m:Mem)(o:Op):Res :=
 match o with
 | .move x|.assign x=>some (ev fr x,m)
 | .pick c a b=>QY m (ev fr c) (ev fr a) (ev fr b)
 | .alloc e=>FD P m e
 | .box e x=>ZX m e (ev fr x)
 | .build t ps=>noM (PE P t (evP fr ps.toList)) m
 | .buildSlice t n ps=>cJ P m t n (evP fr ps.toList)
 | .load t x=>QZ P m t (ev fr x)
 | .store t x y=>FB P m t (ev fr x) (ev fr y)
 | .nilCheck x=>ZW m (ev fr x)
 | .binOp op t x y _=>A3H P m op t x y (ev fr x) (ev fr y)
 | .unOp op _ x=>noM (unM op (ev fr x)) m
 | .convert s t x=>DL P m s t (ev fr x)
 | .makeInterface t x=>FC P m t (ev fr x)
 | .makeFunc (.func f) first cap=>some (.func (.func f) ⟨evL fr first.toList⟩ ⟨evL fr cap.toList⟩,m)
 | .makeSlice t l c=>eL P m t (ev fr l) (ev fr c)
 | .slice t x d hi mx=>noM (cS P t (ev fr x) (evO fr d) (evO fr hi) (evO fr mx)) m
 | .fieldAddr s x i=>noM (cG P s (ev fr x) i) m
 | .field t x i=>noM (GF P t (ev fr x) i) m
 | .indexAddr t x i=>noM (X7 P t (ev fr x) (ev fr i)) m
 | .index t x i=>noM (lR P t (ev fr x) (ev fr i)) m
 | .extract x i=>lF m (ev fr x) i
 | .call ⟨.builtin b,xs,tys⟩=>iE P m b (evL fr xs.toList) tys.toList
 | _=>none
structure OpC where
 run:Fr->Mem->Res
def A0k(x:XC)(fr:Fr)(m:Mem):Res:=some (x.run fr,m)
def A5w(c a b:XC)(fr:Fr)(m:Mem):Res:=QY m (c.run fr) (a.run fr) (b.run fr)
def A9e(e:TypeId)(x:XC)(fr:Fr)(m:Mem):Res:=ZX m e (x.run fr)
def A5x(t:TypeId)(x:XC)(fr:Fr)(m:Mem):Res:=QZ P m t (x.run fr)
def A0i(t:TypeId)(x y:XC)(fr:Fr)(m:Mem):Res:=FB P m t (x.run fr) (y.run fr)
def A9b(x:XC)(fr:Fr)(m:Mem):Res:=ZW m (x.run fr)
def A9f(op:BinOp)(t:TypeId)(x y:Operand)(cx a:XC)(fr:Fr)(m:Mem):Res:=A3H P m op t x y (cx.run fr) (a.run fr)
def kUn(op:UnOp)(x:XC)(fr:Fr)(m:Mem):Res:=noM (unM op (x.run fr)) m
def A5y(s t:TypeId)(x:XC)(fr:Fr)(m:Mem):Res:=DL P m s t (x.run fr)
def yT(s:TypeId)(x:XC)(i:Nat)(fr:Fr)(m:Mem):Res:=noM (cG P s (x.run fr) i) m
def A0n(s:TypeId)(x:XC)(i:Nat)(fr:Fr)(m:Mem):Res:=noM (GF P s (x.run fr) i) m
def yS(t:TypeId)(x i:XC)(fr:Fr)(m:Mem):Res:=noM (X7 P t (x.run fr) (i.run fr)) m
def A0l(t:TypeId)(x i:XC)(fr:Fr)(m:Mem):Res:=noM (lR P t (x.run fr) (i.run fr)) m
def KG(x:XC)(i:Nat)(fr:Fr)(m:Mem):Res:=lF m (x.run fr) i
def KH(b:Builtin)(xs:LC)(tys:List TypeId)(fr:Fr)(m:Mem):Res:=iE P m b (xs.run fr) tys
def zR(o:Op):OpC :=
 match o with
 | .move x=>⟨A0k (S0 x)⟩
 | .assign x=>⟨A0k (S0 x)⟩
 | .pick c a b=>⟨A5w (S0 c) (S0 a) (S0 b)⟩
 | .box e x=>⟨A9e e (S0 x)⟩
 | .load t x=>⟨A5x P t (S0 x)⟩
 | .store t x y=>⟨A0i P t (S0 x) (S0 y)⟩
 | .nilCheck x=>⟨A9b (S0 x)⟩
 | .binOp op t x y _=>⟨A9f P op t x y (S0 x) (S0 y)⟩
 | .unOp op _ x=>⟨kUn op (S0 x)⟩
 | .convert s t x=>⟨A5y P s t (S0 x)⟩
 | .fieldAddr s x i=>⟨yT P s (S0 x) i⟩
 | .field t x i=>⟨A0n P t (S0 x) i⟩
 | .indexAddr t x i=>⟨yS P t (S0 x) (S0 i)⟩
 | .index t x i=>⟨A0l P t (S0 x) (S0 i)⟩
 | .extract x i=>⟨KG (S0 x) i⟩
 | .call ⟨.builtin b,xs,tys⟩=>⟨KH P b (vB xs.toList) tys.toList⟩
 | o=>⟨fun fr m=>opM P fr m o⟩
def zQ(o:Op)(fr:Fr)(m:Mem):(zR P o).run fr m=opM P fr m o:=by
 unfold zR;split<;>simp only[A0k,A5w,A9e,A5x,A0i,A9b,A9f,kUn,A5y,yT,A0n,yS,A0l,KG,KH,opM,dY,nO]
def NW(nt gl:Nat)(o:Op):Bool:=o.operands.toList.all (okX nt gl)
end
section
open Go
def A9h:BinOp->Bool
 | .eql|.neq|.lss|.leq|.gtr|.geq=>true
 | _=>false
def oE(P:Program)(m:Mem)(op:BinOp)(t:TypeId)(a b:Value):Res :=
 let c:=G5 a
 let d:=G5 b
 bif (Nat.blt c 8 && Nat.blt d 8) || (Nat.beq c 9 && Nat.beq d 9)then U1 m (bif A9h op then 8 else c) (.bin op) [a,b]else
 bif Nat.beq c 8 && Nat.beq d 8 && yY op && (match P.underlying t with|some .bool=>true|_=>false)then U1 m 8 (.bin op) [a,b]else none
def eQ(P:Program)(t:TypeId)(x y:Value):Bool :=
 match P.underlying t with
 | some .bool=>Nat.beq (G5 x) 8 && Nat.beq (G5 y) 8
 | some (.int k)=>Nat.beq (G5 x) (hP k) && Nat.beq (G5 y) (hP k)
 | some .string=>Nat.beq (G5 x) 9 && Nat.beq (G5 y) 9
 | _=>false
mutual
def eqS(P:Program):Nat->TypeId->Value->Value->Option D2
 | 0,_,_,_=>none
 | d+1,t,x,y=>bif eQ P t x y then some [x,y]else
   match P.underlying t,x,y with
   | some (.struct fs),.agg xs,.agg ys=>bif P.stoodInHeld t then none else zL P d fs.toList xs.toList ys.toList
   | some (.array n e),.agg xs,.agg ys=>match G9 P e with
     | some s=>zL P d ((List.range n).map (A4Q e s)) xs.toList ys.toList
     | none=>none
   | _,_,_=>none
def zL(P:Program):Nat->List Field->D2->D2->Option D2
 | 0,_,_,_=>none
 | _+1,[],_,_=>some []
 | d+1,f::fs,xs,ys =>
   bif f.name == "_" then none else
   match qV P f.type xs f.offset,qV P f.type ys f.offset with
   | some x,some y=>match eqS P d f.type x y,zL P d fs xs ys with
     | some a,some b=>some (a++b)
     | _,_=>none
   | _,_=>none
end
def IE(P:Program)(m:Mem)(op:BinOp)(t:TypeId)(x y:Operand)(a b:Value):Res :=
 bif lT P t x y a b then
  match op,eqS P 20 t a b with
  | .eql,some l=>U1 m 8 .eqs l
  | .neq,some l=>match U1 m 8 .eqs l with
    | some (h,m)=>U1 m 8 (.un .not) [h]
    | none=>none
  | _,_=>none
 else none
def g9(t:Nat):D2->Bool
 | []=>true
 | v::r=>Nat.beq (G5 v) t && g9 t r
def g8.sizeD(P:Program)(e:TypeId):Nat:=match G9 P e with|some n=>n|none=>0
def g8(P:Program)(m:Mem)(t:TypeId)(x i:Value):Res :=
 bif !(Nat.blt (G5 i) 8)then none else
 match P.underlying t with
 | some .string=>bif Nat.beq (G5 x) 9 then U1 m 4 .idx [x,i]else none
 | some (.array n e)=>match x,P.underlying e with
   | .agg cs,some (.int k)=>bif Nat.beq (cs.toList.length) n && g9 (hP k) cs.toList && Nat.beq (g8.sizeD P e) 1 then U1 m (hP k) .sel (i::cs.toList)else none
   | .agg cs,some .string=>bif Nat.beq (cs.toList.length) n && g9 9 cs.toList && Nat.beq (g8.sizeD P e) 1 then U1 m 9 .sel (i::cs.toList)else none
   | _,_=>none
 | _=>none
def kS(P:Program)(m:Mem)(t:TypeId)(x:Value)(a hi mx:Option Value):Res :=
 match P.underlying t,mx with
 | some .string,none=>bif Nat.beq (G5 x) 9 then
    match a,hi with
    | none,none=>some (x,m)
    | some l,none=>bif Nat.blt (G5 l) 8 then U1 m 9 .sub1 [x,l]else none
    | none,some h=>bif Nat.blt (G5 h) 8 then U1 m 9 .sub [x,.int .i64 0,h]else none
    | some l,some h=>bif Nat.blt (G5 l) 8 && Nat.blt (G5 h) 8 then U1 m 9 .sub [x,l,h]else none
   else none
 | _,_=>none
def HZ(m:Mem)(op:UnOp)(x:Value):Res :=
 let t:=G5 x
 match op with
 | .not=>bif Nat.beq t 8 then U1 m 8 (.un .not) [x]else none
 | op=>bif Nat.blt t 8 then U1 m t (.un op) [x]else none
def pW(P:Program)(m:Mem)(s t:TypeId)(x:Value):Res :=
 match P.underlying s,P.underlying t with
 | some (.int _),some (.int k)=>bif Nat.blt (G5 x) 8 then U1 m (hP k) (.conv k) [x]else none
 | some .string,some .string=>bif Nat.beq (G5 x) 9 then some (x,m)else none
 | _,_=>none
def eF(P:Program)(m:Mem)(b:Builtin)(vs:List Value)(tys:List TypeId):Res :=
 match b,vs,tys with
 | .len,[x],t::_=>match P.underlying t with
   | some .string=>bif Nat.beq (G5 x) 9 then U1 m 3 .len [x]else none
   | _=>none
 | .max,[x,y],_=>bif Nat.blt (G5 x) 8 && Nat.beq (G5 x) (G5 y)then U1 m (G5 x) .max [x,y]else none
 | .min,[x,y],_=>bif Nat.blt (G5 x) 8 && Nat.beq (G5 x) (G5 y)then U1 m (G5 x) .min [x,y]else none
 | _,_,_=>none
def UY(m:Mem)(a:Addr)(s n:Nat)(i:Value):Res :=
 bif !(Nat.blt (G5 i) 8)then none else
 match U1 m 8 .inb [i,.int .i64 (.ofNat n)]with
 | some (b,⟨H,k,W,hi,lg⟩)=>match brL lg b with
   | some (true,lg)=>some (ixp a s i n,⟨H,k,W,hi,lg⟩)
   | _=>none
 | none=>none
def eD(P:Program)(m:Mem)(t:TypeId)(x i:Value):Res :=
 match P.underlying t,x with
 | some (.array n e),.pointer (some a)=>match G9 P e,a.spot with
   | some s,none=>UY m a s n i
   | _,_=>none
 | some (.slice e),.slice (some a) n c=>match G9 P e,a.spot with
   | some s,none=>bif Nat.beq c (M9+2)then none else UY m a s n i
   | _,_=>none
 | _,_=>none
def eE(P:Program)(m:Mem)(s:TypeId)(x:Value)(i:Nat):Res :=
 match x with
 | .func (.yield 1) ⟨[.pointer (some a),.int .i64 (.ofNat k),j,.int .i64 (.ofNat n)]⟩ ⟨[]⟩=>match P.underlying s with
   | some (.struct fs)=>match fs.toList[i]?,a.spot with
     | some f,none=>match G9 P f.type with
       | some (_+1)=>some (ixp (bF a f.offset) k j n,m)
       | _=>none
     | _,_=>none
   | _=>none
 | _=>none
def wA(cs:List Value)(s o:Nat):Nat->Option D2
 | 0=>some []
 | n+1=>match cs[o]?,wA cs s (o+s) n with
   | some v,some r=>some (v::r)
   | _,_=>none
def cA(m:Mem)(cs:List Value)(s n:Nat)(i:Value):Nat->Nat->Option (D2×Mem)
 | _,0=>some ([],m)
 | o,k+1=>match wA cs s o n with
   | some (v::l)=>bif g9 (G5 v) (v::l) && Nat.blt (G5 v) 10 then match U1 m (G5 v) .sel (i::v::l)with
     | some (h,m)=>match cA m cs s n i (o+1) k with
       | some (r,m)=>some (h::r,m)
       | none=>none
     | none=>none else none
   | _=>none
def pV(P:Program)(m:Mem)(t:TypeId)(x:Value):Res :=
 match x with
 | .func (.yield 1) ⟨[.pointer (some a),.int .i64 (.ofNat s),i,.int .i64 (.ofNat n)]⟩ ⟨[]⟩ =>
   match aC P t,G9 P t with
   | some false,_=>match q8 m a ((n-1)*s+1)with
     | some cs=>match cA m cs s n i 0 1 with
       | some ([h],m)=>some (h,m)
       | _=>none
     | none=>none
   | some true,some z=>match q8 m a ((n-1)*s+z)with
     | some cs=>match cA m cs s n i 0 z with
       | some (hs,m)=>some (.agg ⟨hs⟩,m)
       | none=>none
     | none=>none
   | _,_=>none
 | _=>none
def vZ(m:Mem)(c a b:Value):Res :=
 match m with
 | ⟨H,n,W,hi,lg⟩=>match brL lg c with
   | some (true,lg)=>some (a,⟨H,n,W,hi,lg⟩)
   | some (false,lg)=>some (b,⟨H,n,W,hi,lg⟩)
   | none=>none
def WK(P:Program)(fr:Fr)(m:Mem)(o:Op):Res :=
 match o with
 | .pick c a b=>vZ m (ev fr c) (ev fr a) (ev fr b)
 | .binOp op t x y _=>match oE P m op t (ev fr x) (ev fr y)with
   | some r=>some r
   | none=>IE P m op t x y (ev fr x) (ev fr y)
 | .unOp op _ x=>HZ m op (ev fr x)
 | .convert s t x=>pW P m s t (ev fr x)
 | .slice t x d hi mx=>kS P m t (ev fr x) (evO fr d) (evO fr hi) (evO fr mx)
 | .index t x i=>g8 P m t (ev fr x) (ev fr i)
 | .indexAddr t x i=>eD P m t (ev fr x) (ev fr i)
 | .fieldAddr s x i=>eE P m s (ev fr x) i
 | .load t x=>pV P m t (ev fr x)
 | .call ⟨.builtin b,xs,tys⟩=>eF P m b (evL fr xs.toList) tys.toList
 | _=>none
def oK(m:Mem)(b:Nat):Bool :=
 match Hp.get m.H b with
 | some .frz=>Nat.ble b H6
 | _=>false
def NK{α:Type}(l:List α):Nat->List α
 | 0=>[]
 | n+1=>l++NK l n
mutual
def WH(P:Program):Nat->TypeId->Option H1
 | 0,_=>none
 | d+1,t=>match P.underlying t with
   | some .bool=>some [8]
   | some (.int k)=>some [hP k]
   | some .string=>some [9]
   | some (.slice e)=>match G9 P e with
     | some w=>some [10+w]
     | none=>none
   | some (.struct fs)=>A4d P d fs.toList
   | some (.array n e)=>match WH P d e with
     | some l=>some (NK l n)
     | none=>none
   | _=>none
def A4d(P:Program):Nat->List Field->Option H1
 | 0,_=>none
 | _+1,[]=>some []
 | d+1,f::fs=>match WH P d f.type,A4d P d fs with
   | some a,some b=>some (a++b)
   | _,_=>none
end
def kP(P:Program)(t:TypeId):Option H1 :=
 match WH P 30 t,G9 P t with
 | some l,some n=>bif Nat.beq l.length n then some l else none
 | _,_=>none
def X9.letDo(t:Nat)(op:LOp)(xs:List Value)(m:Mem)(k:Nat->Mem->Option (D2×Mem)):Option (D2×Mem) :=
 match m with
 | ⟨H,n,W,hi,⟨nx,pi,log⟩⟩=>J8 nx fun nx=>J8 t fun t=>R1 xs fun xs=>k nx ⟨H,n,W,hi,⟨Nat.succ nx,pi,.dt nx t op xs::log⟩⟩
def X9(w o i t:Nat)(z:Value)(g:Nat):H1->Nat->Mem->Option (D2×Mem)
 | [],_,m=>some ([],m)
 | tg::ts,j,m=>bif Nat.blt tg 10 then
    match U1 m tg (.get w (o+j)) [hole i t,z]with
    | some (h,m)=>match X9 w o i t z g ts (j+1) m with
      | some (r,m)=>some (h::r,m)
      | none=>none
    | none=>none
   else X9.letDo tg (.get w (o+j)) [hole i t,z] m fun nx m=>match X9 w o i t z g ts (j+1) m with
     | some (r,m)=>some (dat g nx tg::r,m)
     | none=>none
def mE(P:Program)(t:TypeId)(r:Option (D2×Mem)):Res :=
 match aC P t,r with
 | some false,some ([v],m)=>some (v,m)
 | some true,some (vs,m)=>some (.agg ⟨vs⟩,m)
 | _,_=>none
def JZ(P:Program)(m:Mem)(t:TypeId)(x:Value):Res :=
 match x,kP P t with
 | .func (.yield 5) ⟨[.pointer (some ⟨b,0,none⟩),.complex .f64 i tg,z,.int .i64 (.ofNat o)]⟩ ⟨[]⟩,some ts =>
   bif oK m b then mE P t (X9 (tg-10) o i tg z b ts 0 m)else none
 | .func (.yield 6) ⟨[.pointer (some ⟨b,0,none⟩),.complex .f64 i tg,z,.int .i64 (.ofNat o)]⟩ ⟨[]⟩,some ts =>
   match Hp.get m.H b with
   | some (.sq c tc T g ro)=>bif Nat.beq tc tg then mE P t (X9 (tg-10) o c tg z g ts 0 m)else none
   | _=>none
 | _,_=>none
def KM(m:Mem)(i t:Nat)(z:Value)(k:Value):Res :=
 bif !(Nat.blt (G5 z) 8)then none else
 match U1 m 8 (.inbs (t-10)) [z,hole i t]with
 | some (b,⟨H,n,W,hi,lg⟩)=>match brL lg b with
   | some (true,lg)=>some (k,⟨H,n,W,hi,lg⟩)
   | _=>none
 | none=>none
def lS(P:Program)(m:Mem)(t:TypeId)(x z:Value):Res :=
 match P.underlying t,x with
 | some (.slice e),.func (.yield 4) ⟨[.pointer (some ⟨b,0,none⟩),.complex .f64 i tg]⟩ ⟨[]⟩=>match G9 P e with
   | some (s+1)=>bif Nat.beq tg (10+(s+1))then KM m i tg z (opt b i tg z 0)else none
   | _=>none
 | some (.slice e),.func (.yield 2) ⟨[.pointer (some ⟨b,0,none⟩),.complex .f64 i tg]⟩ ⟨[]⟩=>match G9 P e with
   | some (s+1)=>bif Nat.beq tg (10+(s+1))then KM m i tg z (dpt b i tg z 0)else none
   | _=>none
 | some (.slice e),.func (.yield 3) ⟨[.pointer (some ⟨b,0,none⟩),.complex .f64 i tg]⟩ ⟨[]⟩=>match G9 P e with
   | some (s+1)=>bif Nat.beq tg (10+(s+1))then KM m i tg z (dpt b i tg z 0)else none
   | _=>none
 | some (.array n e),.func (.yield 5) ⟨[.pointer (some ⟨b,0,none⟩),.complex .f64 i tg,y,.int .i64 (.ofNat o)]⟩ ⟨[]⟩=>match G9 P e,z with
   | some s,.int _ (.ofNat k)=>bif Nat.blt k n && Nat.blt (o+k*s) (tg-10)then some (J8 (o+k*s) fun o=>dpt b i tg y o,m)else none
   | _,_=>none
 | some (.array n e),.func (.yield 6) ⟨[.pointer (some ⟨b,0,none⟩),.complex .f64 i tg,y,.int .i64 (.ofNat o)]⟩ ⟨[]⟩=>match G9 P e,z with
   | some s,.int _ (.ofNat k)=>bif Nat.blt k n && Nat.blt (o+k*s) (tg-10)then some (J8 (o+k*s) fun o=>opt b i tg y o,m)else none
   | _,_=>none
 | _,_=>none
def lW(P:Program)(m:Mem)(s:TypeId)(x:Value)(f:Nat):Res :=
 match P.underlying s,x with
 | some (.struct fs),.func (.yield 5) ⟨[.pointer (some ⟨b,0,none⟩),.complex .f64 i tg,y,.int .i64 (.ofNat o)]⟩ ⟨[]⟩=>match fs.toList[f]? with
   | some fd=>match G9 P fd.type with
     | some (_+1)=>bif Nat.blt (o+fd.offset) (tg-10)then some (J8 (o+fd.offset) fun o=>dpt b i tg y o,m)else none
     | _=>none
   | none=>none
 | some (.struct fs),.func (.yield 6) ⟨[.pointer (some ⟨b,0,none⟩),.complex .f64 i tg,y,.int .i64 (.ofNat o)]⟩ ⟨[]⟩=>match fs.toList[f]? with
   | some fd=>match G9 P fd.type with
     | some (_+1)=>bif Nat.blt (o+fd.offset) (tg-10)then some (J8 (o+fd.offset) fun o=>opt b i tg y o,m)else none
     | _=>none
   | none=>none
 | _,_=>none
def rX(i:Nat):List j8->Option Nat
 | []=>none
 | .lt j t .len [.complex .f64 k _]::r=>bif Nat.beq k i && Nat.beq t 3 then some j else rX i r
 | _::r=>rX i r
def FK(m:Mem)(i t:Nat):Res :=
 match rX i m.lg.log with
 | some j=>some (hole j 3,m)
 | none=>U1 m 3 .len [hole i t]
def A3W(P:Program)(m:Mem)(t:TypeId)(x:Value):Res :=
 match P.underlying t,x with
 | some (.slice _),.func (.yield 2) ⟨[.pointer (some ⟨b,0,none⟩),.complex .f64 i tg]⟩ ⟨[]⟩=>FK m i tg
 | some (.slice _),.func (.yield 3) ⟨[.pointer (some ⟨b,0,none⟩),.complex .f64 i tg]⟩ ⟨[]⟩=>FK m i tg
 | some (.slice _),.func (.yield 4) ⟨[.pointer (some ⟨b,0,none⟩),.complex .f64 i tg]⟩ ⟨[]⟩=>FK m i tg
 | _,_=>none
def gG(m:Mem)(k:Nat->Mem->Option (Value×Nat×Mem)):Option (Value×Nat×Mem) :=
 match m with
 | ⟨H,n,W,hi,lg⟩=>bif Nat.ble n H6 then J8 n fun n=>J8 (upN hi n) fun hi=>Hp.put H n (some .frz) fun H=>k n ⟨H,Nat.succ n,W,hi,lg⟩else none
def toD(t:Nat)(v:Value)(m:Mem):Option (Value×Nat×Mem) :=
 match v with
 | .func (.yield 2) ⟨[.pointer (some ⟨b,0,none⟩),.complex .f64 i tg]⟩ ⟨[]⟩=>bif Nat.beq tg t && oK m b then some (hole i tg,b,m)else none
 | .func (.yield 3) ⟨[.pointer (some ⟨b,0,none⟩),.complex .f64 i tg]⟩ ⟨[]⟩=>bif Nat.beq tg t && oK m b then some (hole i tg,b,m)else none
 | .func (.yield 4) ⟨[.pointer (some ⟨b,0,none⟩),.complex .f64 i tg]⟩ ⟨[]⟩=>match Hp.get m.H b with
   | some (.sq c tc T g true)=>bif (Nat.beq tg t && Nat.beq tc t) && oK m g then gG m fun b' m=>some (hole c tc,b',m)else none
   | some (.sq c tc T g false)=>bif (Nat.beq tg t && Nat.beq tc t) && oK m g then match bZ m b (.sq c tc T g true)with
     | some m=>gG m fun b' m=>some (hole c tc,b',m)
     | none=>none else none
   | _=>none
 | .slice none 0 0=>bif Nat.ble 10 t then(match vQ m t (.nilw (t-10)) [] fun nx m=>some (hole nx t,m)with
   | some (h,m)=>gG m fun b' m=>some (h,b',m)
   | none=>none)else none
 | _=>none
abbrev Td:=Nat->Value->Mem->Option (Value×Nat×Mem)
def AO(a:Td):H1->D2->Mem->Option (D2×H1×Mem)
 | [],[],m=>some ([],[],m)
 | t::ts,v::vs,m=>bif Nat.blt t 10 then
    bif Nat.beq (G5 v) t then match AO a ts vs m with
     | some (r,gs,m)=>some (v::r,gs,m)
     | none=>none else none
   else match a t v m with
    | some (h,b,m)=>match AO a ts vs m with
      | some (r,gs,m)=>some (h::r,b::gs,m)
      | none=>none
    | none=>none
 | _,_,_=>none
def jT(gs:List Nat)(m:Mem):Option (Nat×Mem) :=
 match gs with
 | [g]=>bif oK m g then some (g,m)else none
 | gs=>bif gs.all (oK m)then match gG m fun b m=>some (undef,b,m)with
   | some (_,b,m)=>some (b,m)
   | none=>none else none
def QF:Value->Value->Bool
 | .complex .f64 i _,.complex .f64 j _=>Nat.beq i j
 | .int k a,.int j b=>uE k j && BH a b
 | _,_=>false
def yV(v:Value):Bool:=Nat.blt (G5 v) 8
def fV(m:Mem)(b i t:Nat)(l h:Value)(c:Bool):Res:=bif yV l && yV h then vQ m t (.subs (t-10)) [hole i t,l,h] fun nx m=>some (bif c then clp b nx t else dat b nx t,m)else none
def LH(m:Mem)(b i t:Nat)(cl:Bool)(l:Value)(hi mx:Option Value):Res :=
 match hi,mx with
 | some h,none=>fV m b i t l h false
 | some h,some x=>bif QF h x then fV m b i t l h true else none
 | none,none=>match FK m i t with
   | some (h,m)=>fV m b i t l h cl
   | none=>none
 | none,some _=>none
def A9I(a:Option Value):Value :=
 match a with
 | some l=>l
 | none=>.int .i64 0
def LI(m:Mem)(b i t:Nat)(cl:Bool)(a hi mx:Option Value):Res:=LH m b i t cl (A9I a) hi mx
def xG(P:Program)(m:Mem)(t:TypeId)(x:Value)(a hi mx:Option Value):Res :=
 match P.underlying t,x with
 | some (.slice e),.func (.yield 2) ⟨[.pointer (some ⟨b,0,none⟩),.complex .f64 i tg]⟩ ⟨[]⟩=>match G9 P e with
   | some s=>bif Nat.beq tg (10+s)then LI m b i tg false a hi mx else none
   | none=>none
 | some (.slice e),.func (.yield 3) ⟨[.pointer (some ⟨b,0,none⟩),.complex .f64 i tg]⟩ ⟨[]⟩=>match G9 P e with
   | some s=>bif Nat.beq tg (10+s)then LI m b i tg true a hi mx else none
   | none=>none
 | some (.slice e),.func (.yield 4) ⟨[.pointer (some ⟨b,0,none⟩),.complex .f64 i tg]⟩ ⟨[]⟩=>match G9 P e with
   | some s=>bif Nat.beq tg (10+s)then match toD tg x m with
     | some (.complex .f64 c _,b',m)=>LI m b' c tg false a hi mx
     | _=>none else none
   | none=>none
 | _,_=>none
inductive Beh where
 | cells (xs:List Value)
 | rows (x:Value)
 | str (x:Value)
def dA(w:Nat)(c:Value):Beh->LOp×D2
 | .cells xs=>(.snoc w,c::xs)
 | .rows x=>(.cat w,[c,x])
 | .str x=>(.cats,[c,x])
def A2B(c:Td)(P:Program)(m:Mem)(e:TypeId)(w:Nat)(y:Value):Option (Beh×H1×Bool×Mem) :=
 match y with
 | .slice none 0 _=>some (.cells [],[],false,m)
 | .slice (some a) n _=>match q8 m a (n*w),kP P e with
   | some cs,some ts=>match AO c (NK ts n) cs m with
     | some (xs,gs,m)=>some (.cells xs,gs,Nat.blt 0 n,m)
     | none=>none
   | _,_=>none
 | .func _ _ _=>match c (10+w) y m with
   | some (x,b,m)=>some (.rows x,[b],false,m)
   | none=>none
 | y=>bif Nat.beq (G5 y) 9 && Nat.beq w 1 then some (.str y,[],false,m)else none
def DY(a:Td)(P:Program)(m:Mem)(e:TypeId)(w:Nat)(x:Value):Option (Nat×H1×Option Nat×Mem) :=
 match x with
 | .slice none 0 0=>match vQ m (10+w) (.nilw w) [] fun nx m=>some (hole nx (10+w),m)with
   | some (.complex .f64 c _,m)=>some (c,[],none,m)
   | _=>none
 | .func (.yield 4) ⟨[.pointer (some ⟨b,0,none⟩),.complex .f64 i tg]⟩ ⟨[]⟩=>match Hp.get m.H b with
   | some (.sq c tc T g false)=>bif (Nat.beq tg (10+w) && Nat.beq tc tg) && (Nat.beq T e && Nat.ble b H6)then some (c,[g],some b,m)else none
   | _=>none
 | .slice (some ⟨b,0,none⟩) n c=>match Hp.get m.H b,kP P e with
   | some (.cells cs _ _),some ts=>bif Nat.beq cs.length (n*w) && (Nat.beq c n && Nat.blt c M9 || Nat.beq c M9)then match AO a (NK ts n) cs m with
     | some (xs,gs,m)=>match Hp.get m.H b with
       | some (.cells _ T false)=>bif Nat.beq T e && Nat.ble b H6 then match vQ m (10+w) (.mk w) xs fun nx m=>some (hole nx (10+w),m)with
         | some (.complex .f64 c _,m)=>some (c,gs,some b,m)
         | _=>none else none
       | _=>none
     | none=>none else none
   | _,_=>none
 | _=>none
def bA(m:Mem)(c t:Nat)(T:TypeId)(g:Nat):Res:=Z3 m (.sq c t T g false) fun b=>own b c t
def VS(P:Program)(e:TypeId)(n:Nat):Bool :=
 match fJ P e with
 | some z=>Nat.beq z.cells.size n
 | none=>false
def jR(old:Option Nat)(m:Mem):Mem :=
 match old with
 | some b=>jS m b
 | none=>m
def UN(a:Td)(P:Program)(m:Mem)(e:TypeId)(w:Nat)(x:Value):Res :=
 match P.info? e with
 | some inf=>bif Nat.beq inf.size w && Nat.blt 0 w then match DY a P m e w x with
   | some (c,gs,old,m)=>match jT gs m with
     | some (g,m)=>bA (jR old m) c (10+w) e g
     | none=>none
   | none=>none else none
 | none=>none
def WD(P:Program):Nat->Td
 | 0=>toD
 | d+1=>fun t v m=>match v with
   | .slice (some ⟨b,0,none⟩) _ _=>match Hp.get m.H b with
     | some (.cells _ T _)=>match UN (WD P d) P m T (t-10) v with
       | some (x,m)=>toD t x m
       | none=>none
     | _=>none
   | v=>toD t v m
def tdP(P:Program):Td:=WD P 3
def JF(m:Mem)(e:TypeId)(w c:Nat)(old:Option Nat)(a:Beh)(gs:List Nat):Res :=
 match jT gs m with
 | some (g,m)=>vQ m (10+w) (dA w (hole c (10+w)) a).1 (dA w (hole c (10+w)) a).2 fun nx m=>bA (jR old m) nx (10+w) e g
 | none=>none
def sM(P:Program)(m:Mem)(t t2:TypeId)(x y:Value):Res :=
 match P.underlying t,P.underlying t2 with
 | some (.slice e),some d2=>bif !(cT d2)then none else
   match P.info? e with
   | some i=>bif (Nat.ble i.bytes 90000 && Nat.blt 0 i.size) && VS P e i.size then
     match A2B (tdP P) P m e i.size y with
     | some (bh,gs,sure,m)=>match DY (tdP P) P m e i.size x with
       | some (c,g0,old,m)=>JF m e i.size c old bh (g0++gs)
       | none=>match x,sure with
         | .func (.yield 3) ⟨[.pointer (some ⟨b,0,none⟩),.complex .f64 c tg]⟩ ⟨[]⟩,true=>bif Nat.beq tg (10+i.size)then JF m e i.size c none bh (b::gs)else none
         | _,_=>none
     | none=>none else none
   | none=>none
 | _,_=>none
def xD(P:Program)(m:Mem)(t:TypeId)(x v:Value):Res :=
 match x,kP P t with
 | .func (.yield 6) ⟨[.pointer (some ⟨b,0,none⟩),.complex .f64 i tg,z,.int .i64 (.ofNat o)]⟩ ⟨[]⟩,some ts=>bif iV v then none else
   match AO (tdP P) ts v.cells.toList m with
   | some (xs,gs,m)=>match Hp.get m.H b with
     | some (.sq c tc T g false)=>bif Nat.beq tc tg then match jT (g::gs) m with
       | some (g,m)=>match vQ m tg (.set (tg-10) o) (hole c tg::z::xs) fun nx m=>some (hole nx tg,m)with
         | some (.complex .f64 nx _,m)=>OA (bZ m b (.sq nx tg T g false))
         | _=>none
       | none=>none else none
     | _=>none
   | none=>none
 | _,_=>none
def A5k(m m1:Mem):Mem :=
 match m,m1 with
 | ⟨H,n,W,_,_⟩,⟨_,_,_,hi,lg⟩=>⟨H,n,W,hi,lg⟩
def LM(P:Program)(m:Mem)(s t:TypeId)(x:Value):Res :=
 match P.underlying s,P.underlying t,x with
 | some (.slice e),some .string,.slice (some a) n _=>match P.underlying e with
   | some (.int .u8)=>match q8 m a n with
     | some cs=>bif g9 4 cs then U1 m 9 .mks cs else none
     | none=>none
   | _=>none
 | some (.slice e),some .string,.func _ _ _=>match P.underlying e with
   | some (.int .u8)=>match toD 11 x m with
     | some (h,_,m1)=>U1 (A5k m m1) 9 .str [h]
     | none=>none
   | _=>none
 | some _,some (.slice e),x=>bif Nat.beq (G5 x) 9 then match P.underlying e with
   | some (.int .u8)=>match G9 P e with
     | some 1=>match jT [] m with
       | some (g,m)=>match vQ m 11 .byt [x] fun nx m=>some (hole nx 11,m)with
         | some (.complex .f64 nx _,m)=>bA m nx 11 e g
         | _=>none
       | none=>none
     | _=>none
   | _=>none else none
 | _,_,_=>none
def A04:Value->Bool
 | .slice none 0 0=>true
 | _=>false
def A0B(P:Program)(m:Mem)(op:BinOp)(t:TypeId)(x y:Operand)(a b:Value):Res :=
 match P.underlying t,a with
 | some (.slice _),.func (.yield k) ⟨[.pointer (some ⟨_,0,none⟩),.complex .f64 i tg]⟩ ⟨[]⟩=>bif A04 b && isC y && (Nat.beq k 2 || Nat.beq k 3 || Nat.beq k 4)then
   match op,U1 m 8 .nilp [hole i tg]with
   | .eql,some r=>some r
   | .neq,some (h,m)=>U1 m 8 (.un .not) [h]
   | _,_=>none else none
 | _,_=>none
def JU(P:Program)(m:Mem)(t:TypeId)(l c:Value):Res :=
 match P.underlying t,l,c with
 | some (.slice e),.complex .f64 i ti,.complex .f64 j tj=>bif (Nat.beq i j && Nat.beq ti 3) && Nat.beq tj 3 then
   match P.info? e with
   | some inf=>bif Nat.ble inf.bytes 90000 && Nat.blt 0 inf.size then
     match fJ P e with
     | some z=>bif Nat.beq z.cells.size inf.size && z.cells.toList.all (fun z=>Nat.blt (G5 z) 10)then
       match jT [] m with
       | some (g,m)=>match vQ m (10+inf.size) (.rep inf.size) (hole i 3::z.cells.toList) fun nx m=>some (hole nx (10+inf.size),m)with
         | some (.complex .f64 nx _,m)=>bA m nx (10+inf.size) e g
         | _=>none
       | none=>none else none
     | none=>none else none
   | none=>none else none
 | _,_,_=>none
def dsM(P:Program)(fr:Fr)(m:Mem)(o:Op):Res :=
 match o with
 | .makeSlice t l c=>JU P m t (ev fr l) (ev fr c)
 | .load t x=>JZ P m t (ev fr x)
 | .store t x y=>xD P m t (ev fr x) (ev fr y)
 | .indexAddr t x i=>lS P m t (ev fr x) (ev fr i)
 | .fieldAddr s x i=>lW P m s (ev fr x) i
 | .slice t x a hi mx=>xG P m t (ev fr x) (evO fr a) (evO fr hi) (evO fr mx)
 | .convert s t x=>LM P m s t (ev fr x)
 | .binOp op t x y _=>A0B P m op t x y (ev fr x) (ev fr y)
 | .call ⟨.builtin .len,xs,tys⟩=>match evL fr xs.toList,tys.toList with
   | [x],t::_=>A3W P m t x
   | _,_=>none
 | .call ⟨.builtin .append,xs,tys⟩=>match evL fr xs.toList,tys.toList with
   | [x,y],t::t2::_=>sM P m t t2 x y
   | _,_=>none
 | _=>none
def SZ(P:Program)(m:Mem)(s t:TypeId)(x:Value):Res :=
 match P.underlying s,P.underlying t,x with
 | some (.pointer e),some .unsafePointer,.pointer (some ⟨b,o,none⟩)=>match G9 P e,Hp.get m.H b with
   | some (_+1),some (.cells cs _ _)=>bif Nat.blt o cs.length then some (x,m)else none
   | _,_=>none
 | some .unsafePointer,some (.pointer u),.pointer (some ⟨b,0,none⟩)=>match G9 P u,Hp.get m.H b with
   | some (k+1),some (.cells cs T false)=>bif Nat.beq T u && Nat.beq cs.length (k+1)then some (x,m)else none
   | _,_=>none
 | some (.slice _),some (.slice e),.slice (some ⟨b,o,none⟩) n c=>bif Nat.beq s t && !(Nat.beq c (M9+2))then match P.underlying e,Hp.get m.H b with
   | some (.int .u8),some (.cells cs T false)=>match bZ m b (.cells cs T false)with
     | some m1=>some (x,m1)
     | none=>none
   | _,_=>none else none
 | _,_,_=>none
def QU(P:Program)(m:Mem)(op:BinOp)(t:TypeId)(a b:Value):Res :=
 match P.underlying t,a,b with
 | some (.pointer e),.pointer (some ⟨b1,o1,none⟩),.pointer (some ⟨b2,o2,none⟩)=>bif Nat.beq b1 b2 && Nat.beq o1 o2 then match P.info? e,op with
   | some _,.eql=>some (.bool true,m)
   | some _,.neq=>some (.bool false,m)
   | _,_=>none else none
 | _,_,_=>none
def sdM(P:Program)(m:Mem)(ty:TypeId)(x:Value):Res :=
 match P.underlying ty with
 | some (.pointer _)=>match x with
  | .func (.yield 4) ⟨[.pointer (some ⟨b,0,none⟩),.complex .f64 i t]⟩ ⟨[]⟩=>match Hp.get m.H b with
   | some (.sq _ _ _ _ _)=>some (sdt b,m)
   | _=>none
  | _=>none
 | _=>none
def usM(P:Program)(m:Mem)(a:TypeId)(p l:Value):Res :=
 match p with
 | .func (.yield 9) ⟨[.pointer (some ⟨b,0,none⟩)]⟩ ⟨[]⟩=>bif Nat.blt (G5 l) 8 then match Hp.get m.H b,P.underlying a with
   | some (.sq c tc T g false),some (.pointer e)=>bif Nat.beq e T && Nat.beq tc 11 then match G9 P T,U1 m 9 .ustr [hole c tc,l]with
     | some 1,some (v,m)=>match bZ m b (.sq c tc T g true)with
       | some m=>some (v,m)
       | none=>none
     | _,_=>none else none
   | _,_=>none else none
 | _=>none
def fN(P:Program)(t:TypeId):Option Nat :=
 match P.underlying t with
 | some .bool=>some 8
 | some (.int k)=>some (hP k)
 | some .string=>some 9
 | _=>none
def uW(P:Program):List Field->Nat->Option H1
 | [],_=>some []
 | f::r,i=>match fN P f.type,uW P r (i+1)with
   | some t,some l=>bif !(f.name == "_") && Nat.beq f.offset i then some (t::l)else none
   | _,_=>none
def nZ(P:Program)(t:TypeId):Option (Bool×List Nat) :=
 match P.underlying t with
 | some (.struct fs)=>bif P.stoodInHeld t then none else match uW P fs.toList 0 with
   | some l=>some (true,l)
   | none=>none
 | _=>match fN P t with
   | some k=>some (false,[k])
   | none=>none
def PU(P:Program)(t:TypeId):Option (Bool×List Nat) :=
 match aC P t,kP P t with
 | some true,some l=>bif l.all (fun k=>Nat.blt k 10)then some (true,l)else none
 | some false,some [k]=>bif Nat.blt k 10 then some (false,[k])else none
 | _,_=>none
structure MTy where
 kt:TypeId
 vt:TypeId
 ka:Bool
 ks:H1
 va:Bool
 vs:H1
def MTy.w(y:MTy):Nat:=y.ks.length+y.vs.length
def UQ(P:Program)(T:TypeId):Option MTy :=
 match P.underlying T with
 | some (.map kt vt)=>match nZ P kt,PU P vt with
   | some (ka,k::ks),some (va,vs)=>some ⟨kt,vt,ka,k::ks,va,vs⟩
   | _,_=>none
 | _=>none
def zJ:H1->D2->Bool
 | [],[]=>true
 | t::ts,v::vs=>Nat.beq (G5 v) t && zJ ts vs
 | _,_=>false
def nQ(a:Bool)(ts:List Nat)(v:Value):Option D2 :=
 match a,v with
 | true,.agg cs=>bif zJ ts cs.toList then some cs.toList else none
 | true,_=>none
 | false,v=>bif zJ ts [v]then some [v]else none
def A2G(a:Bool)(vs:List Value):Q6 :=
 match a,vs with
 | true,vs=>some (.agg ⟨vs⟩)
 | false,[v]=>some v
 | false,_=>none
def A0J(P:Program)(m:Mem)(T:TypeId):Res :=
 match UQ P T with
 | some y=>vQ m (10+y.w) (.mk y.w) [] fun nx m=>Z3 m (.mp nx (10+y.w) T) fun b=>.map (some b)
 | none=>none
def tL(w kw c t:Nat)(a:List Value):H1->D2->Nat->Mem->Option (D2×Mem)
 | [],[],_,m=>some ([],m)
 | tg::ts,z::zs,j,m=>match U1 m tg (.mget w kw j) (hole c t::z::a)with
   | some (h,m)=>match tL w kw c t a ts zs (j+1) m with
     | some (r,m)=>some (h::r,m)
     | none=>none
   | none=>none
 | _,_,_,_=>none
def yK(P:Program)(m:Mem)(T:TypeId)(x k:Value)(ok:Bool):Res :=
 match x,UQ P T with
 | .map (some r),some y=>match Hp.get m.H r,nQ y.ka y.ks k,fJ P y.vt with
   | some (.mp c t T2),some kc,some z=>bif Nat.beq T2 T then match nQ y.va y.vs z with
     | some a=>match tL y.w y.ks.length c t kc y.vs a y.ks.length m with
       | some (hs,m)=>match A2G y.va hs with
         | some v=>bif ok then match U1 m 8 (.mhas y.w y.ks.length) (hole c t::kc)with
            | some (b,m)=>some (.tuple ⟨[v,b]⟩,m)
            | none=>none
           else some (v,m)
         | none=>none
       | none=>none
     | none=>none else none
   | _,_,_=>none
 | _,_=>none
def CG(P:Program)(m:Mem)(T:TypeId)(x k v:Value):Res :=
 match x,UQ P T with
 | .map (some r),some y=>match Hp.get m.H r,nQ y.ka y.ks k,nQ y.va y.vs v with
   | some (.mp c t T2),some kc,some vc=>bif Nat.beq T2 T then vQ m t (.mput y.w y.ks.length) (hole c t::(kc++vc)) fun nx m=>OA (bZ m r (.mp nx t T))else none
   | _,_,_=>none
 | _,_=>none
def KB(P:Program)(m:Mem)(T:TypeId)(x:Value):Res :=
 match P.underlying T,x with
 | some (.map _ _),.map (some r)=>match Hp.get m.H r with
   | some (.mp c t _)=>FK m c t
   | _=>none
 | _,_=>none
def xT(P:Program)(m:Mem)(t:TypeId)(x:Value):Res :=
 match P.underlying t with
 | some .string=>bif Nat.beq (G5 x) 9 then Z3 m (.iter [x,.int .i64 (.ofNat 0)]) fun b=>.pointer (some ⟨b,0,none⟩)else none
 | _=>none
def GO:Value->Value->Option (ByteArray×Nat)
 | .string s,.int .i64 (.ofNat k)=>some (s,k)
 | _,_=>none
def JR(m:Mem)(x:Value):Res :=
 match x with
 | .pointer (some ⟨r,0,none⟩)=>match Hp.get m.H r with
   | some (.iter [s,p])=>match GO s p with
     | some (b,k)=>bif Nat.blt k b.data.toList.length then J8 (k+(Utf8.decode b k).2) fun a=>match bZ m r (.iter [s,.int .i64 (.ofNat a)])with
        | some m=>J8 (Utf8.decode b k).1 fun c=>some (.tuple ⟨[.bool true,p,.int .i32 (.ofNat c)]⟩,m)
        | none=>none
       else some (.tuple ⟨[.bool false]⟩,m)
     | none=>bif Nat.beq (G5 s) 9 && Nat.beq (G5 p) 3 then match U1 m 3 .len [s]with
       | some (h,m)=>match U1 m 8 (.bin .lss) [p,h]with
         | some (c,⟨H,n,W,hi,lg⟩)=>match brL lg c with
           | some (true,lg)=>match U1 ⟨H,n,W,hi,lg⟩ 2 .rune [s,p]with
             | some (y,m)=>match U1 m 3 .rpos [s,p]with
               | some (q,m)=>match bZ m r (.iter [s,q])with
                 | some m=>some (.tuple ⟨[.bool true,p,y]⟩,m)
                 | none=>none
               | none=>none
             | none=>none
           | some (false,lg)=>some (.tuple ⟨[.bool false]⟩,⟨H,n,W,hi,lg⟩)
           | none=>none
         | none=>none
       | none=>none else none
   | _=>none
 | _=>none
def xtM(P:Program)(fr:Fr)(m:Mem)(o:Oper):Res :=
 match o.op with
 | .convert s t x=>SZ P m s t (ev fr x)
 | .binOp op t x y _=>QU P m op t (ev fr x) (ev fr y)
 | .call ⟨.builtin .unsafeSliceData,xs,_⟩=>match evL fr xs.toList with
   | [x]=>sdM P m o.type x
   | _=>none
 | .call ⟨.builtin .unsafeString,xs,tys⟩=>match evL fr xs.toList,tys.toList with
   | [p,l],t::_=>usM P m t p l
   | _,_=>none
 | .makeMap t none=>A0J P m t
 | .lookup t x k ok=>yK P m t (ev fr x) (ev fr k) ok
 | .range t x=>xT P m t (ev fr x)
 | .next x true=>JR m (ev fr x)
 | .mapUpdate t x k v=>CG P m t (ev fr x) (ev fr k) (ev fr v)
 | .insert t x k v=>CG P m t (ev fr x) (ev fr k) (ev fr v)
 | .call ⟨.builtin .len,xs,tys⟩=>match evL fr xs.toList,tys.toList with
   | [x],t::_=>KB P m t x
   | _,_=>none
 | _=>none
inductive EK where
 | noEscape|makeNoZero (e:TypeId)|indexByteString|countString|indexString|copyString
 deriving DecidableEq
def KZ:List (FuncId×EK)->FuncId->Option EK
 | [],_=>none
 | (g,k)::r,f=>bif Nat.beq g f then some k else KZ r f
structure FnC where
 run:D2->Mem->Res
structure P2 where
 fn:FuncId->FnC
 yl:FnC
def nG:Value->Bool
 | .tuple ⟨[]⟩=>true
 | _=>false
def HH(lg:Lg)(v:Value)(b:Bool):Option (Bool×Lg) :=
 match v with
 | .bool c=>some (c == b,lg)
 | .complex k i t=>match brL lg (.complex k i t)with
   | some (c,lg)=>some (c == b,lg)
   | none=>none
 | v=>bif nG v then some (false,lg)else none
def aZ(nt:Nat)(fr:Fr)(lg:Lg)(ops:List Oper)(o:Oper):Option (Bool×Lg) :=
 match o.guard with
 | none=>some (true,lg)
 | some (j,b)=>match ops[j]? with
   | some p=>match p.dst with
     | some t=>bif Nat.blt t nt then HH lg (fr.get t) b else none
     | none=>none
   | none=>none
def wP(v:Value)(vs:List Value):Option (FuncId×List Value) :=
 match v with
 | .func (.func f) a b=>some (f,a.toList++(vs++b.toList))
 | _=>none
def dZ(v:Value):Option Nat :=
 match v with
 | .func (.yield 7) ⟨[.pointer (some ⟨b,0,none⟩)]⟩ ⟨[]⟩=>some b
 | _=>none
def JP(call:P2)(m:Mem)(v:Value)(vs:List Value):Res :=
 match wP v vs with
 | some (f,vs)=>(call.fn f).run vs m
 | none=>match dZ v with
   | some _=>call.yl.run (v::vs) m
   | none=>none
def A9d(call:P2)(x:XC)(xs:LC)(fr:Fr)(m:Mem):Res:=JP call m (x.run fr) (xs.run fr)
def A7t(f:FnC)(xs:LC)(fr:Fr)(m:Mem):Res:=f.run (xs.run fr) m
def A0h(P:Program)(c:OpC)(o:Oper)(fr:Fr)(m:Mem):Res :=
 match c.run fr m with
 | some r=>some r
 | none=>match WK P fr m o.op with
   | some r=>some r
   | none=>match dsM P fr m o.op with
     | some r=>some r
     | none=>xtM P fr m o
def W5(P:Program)(call:P2)(o:Oper):OpC :=
 match o.op with
 | .call ⟨.value (.func f),xs,_⟩=>⟨A7t (call.fn f) (vB xs.toList)⟩
 | .call ⟨.value x,xs,_⟩=>⟨A9d call (S0 x) (vB xs.toList)⟩
 | op=>⟨A0h P (zR P op) o⟩
def zM(nt:Nat)(d:Option Tmp):Bool :=
 match d with
 | some d=>Nat.blt d nt
 | none=>true
structure A8X where
 run:Value->Fr->(Fr->Option S)->Option S
def vU(d:Option Tmp):A8X :=
 match d with
 | some t=>⟨vO (sel (t / 64%8)) (sel (t / 8%8)) (sel (t%8))⟩
 | none=>⟨fun _ fr k=>k fr⟩
structure A2M where
 run:S->Option S
def kW(c:OpC)(d:A8X)(next:A2M)(s:S):Option S :=
 match s with
 | ⟨fr,m⟩=>match c.run fr m with
   | some (v,m')=>bif Nat.ble m.hi m'.hi then d.run v fr fun fr=>next.run ⟨fr,m'⟩else none
   | none=>none
def eH(nt:Nat)(all:List Oper)(o:Oper)(c:OpC)(d:A8X)(next:A2M)(s:S):Option S :=
 match s with
 | ⟨fr,⟨H,n,W,hi,lg⟩⟩=>match aZ nt fr lg all o with
   | some (true,lg)=>kW c d next ⟨fr,⟨H,n,W,hi,lg⟩⟩
   | some (false,lg)=>d.run undef fr fun fr=>next.run ⟨fr,⟨H,n,W,hi,lg⟩⟩
   | none=>none
def U7(P:Program)(nt gl:Nat)(call:P2)(all:List Oper):List Oper->A2M
 | []=>⟨some⟩
 | o::r=>bif zM nt o.dst && NW nt gl o.op then match o.guard with
   | none=>⟨fun s=>kW (W5 P call o) (vU o.dst) (U7 P nt gl call all r) s⟩
   | some _=>⟨fun s=>eH nt all o (W5 P call o) (vU o.dst) (U7 P nt gl call all r) s⟩
   else⟨fun _=>none⟩
structure Rec where
 i:Nat
 lo:Nat
 hi:Nat
inductive Cls where
 | free
 | one (b:Nat)
 | all
def B0J(fr:Fr)(o:Op):Cls :=
 match o with
 | .move _|.assign _|.pick ..|.alloc _|.box ..|.build ..|.buildSlice ..|.nilCheck _|.binOp ..|.unOp ..|.makeInterface ..|.makeFunc ..|.makeMap ..|.makeSlice ..
 | .fieldAddr ..|.field ..|.indexAddr ..|.index ..|.extract ..|.range ..=>.free
 | .slice _ x _ _ _=>match ev fr x with
   | .slice _ _ _|.string _|.pointer _|.complex _ _ _=>.free
   | _=>.all
 | .convert _ _ x=>match ev fr x with
   | .int _ _|.string _=>.free
   | _=>.all
 | .call ⟨.builtin .len,xs,_⟩=>match evL fr xs.toList with
   | [.slice _ _ _]|[.string _]=>.free
   | _=>.all
 | .call ⟨.builtin .min,_,_⟩|.call ⟨.builtin .max,_,_⟩=>.free
 | .call ⟨.builtin .unsafeSliceData,xs,_⟩=>match evL fr xs.toList with
   | [.slice _ _ _]=>.free
   | _=>.all
 | .load _ x|.store _ x _=>match ev fr x with
   | .pointer (some a)=>.one a.block
   | _=>.all
 | _=>.all
def DA(H:Hp AB):H1->Hp AB
 | []=>H
 | b::r=>Hp.put H b none fun H=>DA H r
def EB(H0 H:Hp AB):H1->Hp AB
 | []=>H
 | b::r=>Hp.put H b (Hp.get H0 b) fun H=>EB H0 H r
def NA:Nat->Nat->H1
 | _,0=>[]
 | lo,n+1=>lo::NA (lo+1) n
def Z4:List Rec->H1
 | []=>[]
 | r::rs=>NA r.lo (r.hi-r.lo)++Z4 rs
def t8(l:List Nat)(b:Nat):Bool:=l.any (Nat.beq b)
def GV(l:List Nat):Bool:=l.all fun b=>Nat.ble b H6
def CM(b:List Nat)(rs:List Rec):List Rec:=rs.filter fun r=>!(t8 b r.i)
def BM(m:Mem)(c:Cls)(us:List Rec):Option Mem :=
 match m with
 | ⟨H,n,_,hi,lg⟩=>match c with
   | .free=>some ⟨hp0,n,[],hi,lg⟩
   | .one b=>bif t8 (Z4 us) b || !(Nat.ble b H6)then none else Hp.put hp0 b (Hp.get H b) fun H=>some ⟨H,n,[],hi,lg⟩
   | .all=>bif GV (Z4 us)then some ⟨DA H (Z4 us),n,[],hi,lg⟩else none
def lI(m m':Mem):Option Mem :=
 bif Nat.ble m'.hi m.n then(match m with|⟨H,n,W,hi,_⟩=>some ⟨H,n,W,hi,m'.lg⟩)else
 bif Nat.ble m'.hi H6 then GB (EB m'.H m.H (NA m.n (m'.hi-m.n))) fun H=>J8 m'.hi fun n=>some ⟨H,n,m.W,n,m'.lg⟩else none
def SW(fr:Fr)(m:Mem)(o:Oper)(b:List Nat)(rs:List Rec)(op:OpC)(k:Value->Mem->Option S):Option S :=
 let us:=CM b rs
 let c:=B0J fr o.op
 match BM m c us with
 | some mv=>match op.run fr mv with
   | some (v,m') =>
     match m'.W,Nat.ble m.hi m'.hi with
     | [],true=>match lI m m' with
       | some m2=>k v m2
       | none=>none
     | _,_=>none
   | none=>none
 | none=>none
def wrO:Op->Bool
 | .call _|.store ..|.mapUpdate ..=>true
 | _=>false
def v8:Op->Bool
 | .move _|.assign _|.extract ..|.slice ..=>true
 | _=>false
def A7M:Op->Bool
 | .field ..|.fieldAddr ..|.index ..|.indexAddr ..|.binOp ..|.unOp ..|.build ..|.load ..|.pick ..|.convert ..|.slice ..|.nilCheck _=>true
 | .call ⟨.builtin .len,_,_⟩|.call ⟨.builtin .min,_,_⟩|.call ⟨.builtin .max,_,_⟩=>true
 | o=>v8 o
def EP(a b:Addr):Bool :=
 match a,b with
 | ⟨x,o,none⟩,⟨y,p,none⟩=>Nat.beq x y && Nat.beq o p
 | _,_=>false
def NJ(f g:Fn):Bool :=
 match f,g with
 | .func f,.func g=>Nat.beq f g
 | .yield f,.yield g=>Nat.beq f g
 | _,_=>false
def BW(s:Value->Value->Bool):D2->D2->Bool
 | [],[]=>true
 | a::l,b::r=>s a b && BW s l r
 | _,_=>false
def xM:Nat->Value->Value->Bool
 | _,.bool a,.bool b=>a == b
 | _,.int k n,.int j m=>uE k j && BH n m
 | _,.complex .f64 i t,.complex .f64 j u=>Nat.beq i j && Nat.beq t u
 | _,.complex .f32 i t,.complex .f32 j u=>Nat.beq i j && Nat.beq t u
 | _,.string s,.string t=>decide (s.data.toList=t.data.toList)
 | _,.pointer none,.pointer none=>true
 | _,.pointer (some a),.pointer (some b)=>EP a b
 | _,.slice none n c,.slice none m d=>Nat.beq n m && Nat.beq c d
 | _,.slice (some a) n c,.slice (some b) m d=>EP a b && (Nat.beq n m && Nat.beq c d)
 | _,.map none,.map none=>true
 | _,.map (some a),.map (some b)=>Nat.beq a b
 | _,.nilFunc,.nilFunc=>true
 | _,.nilIface,.nilIface=>true
 | d+1,.func f a b,.func g a' b'=>NJ f g && (BW (xM d) a.toList a'.toList && BW (xM d) b.toList b'.toList)
 | d+1,.iface t v,.iface u w=>Nat.beq t u && xM d v w
 | _,_,_=>false
def XF(a b:AB):Bool :=
 match a,b with
 | .frz,.frz=>true
 | .cells cs T ro,.cells cs' T' ro'=>BW (xM 6) cs cs' && (Nat.beq T T' && (ro == ro'))
 | _,_=>false
def YR(H:Hp AB)(b:Nat):Option (Nat×AB) :=
 match Hp.get H b with
 | some .frz=>some (b,.frz)
 | some (.cells cs T ro)=>some (b,.cells cs T ro)
 | _=>none
def KS(H:Hp AB)(fr:Fr)(o:Op):Option (Nat×AB) :=
 match o with
 | .load _ x=>match ev fr x with
   | .func (.yield 5) ⟨.pointer (some a)::_⟩ _=>YR H a.block
   | .pointer (some a)=>YR H a.block
   | _=>none
 | _=>none
def yX(H:Hp AB)(b:Nat)(ab:AB):Bool :=
 match Hp.get H b with
 | some x=>Nat.ble b H6 && XF x ab
 | none=>false
def sJ:Nat:=262144
def EW(m:Mem)(r:Option (Nat×AB))(us:List Rec):Option Mem :=
 match m with
 | ⟨H,_,_,_,lg⟩=>match r with
   | none=>some ⟨hp0,sJ,[],sJ,lg⟩
   | some (b,ab)=>bif t8 (Z4 us) b || !(yX H b ab)then none else Hp.put hp0 b (some ab) fun H=>some ⟨H,sJ,[],sJ,lg⟩
def kZ(fr:Fr)(m:Mem)(o:Oper)(b:List Nat)(rs:List Rec)(op:OpC):Option (Value×Lg) :=
 match EW m (KS m.H fr o.op) (CM b rs)with
 | some mv=>match op.run fr mv with
   | some (v,⟨_,_,[],hi,lg⟩)=>bif Nat.beq hi sJ then some (v,lg)else none
   | _=>none
 | none=>none
abbrev Qs:=List (Nat×Option (Nat×AB))
def GW:Nat->H1->Qs->Bool
 | 0,_,_=>true
 | n+1,b,qs=>(t8 b n || qs.any fun q=>Nat.beq n q.1) && GW n b qs
def FM(i:Nat):List H1->List Oper->Bool
 | c::bs,o::r=>(t8 c i || v8 o.op) && FM i bs r
 | _,_=>true
def A5j(H:Hp AB)(r:Option (Nat×AB)):Bool :=
 match r with
 | none=>true
 | some (b,ab)=>yX H b ab
def A0c(b:List Nat)(H:Hp AB)(a:Qs):Bool:=a.all fun q=>t8 b q.1 || A5j H q.2
def II(o:Op)(i:Nat)(b:List Nat)(bs:List H1)(r:List Oper)(a:Qs):Bool:=wrO o && (GW i b a && FM i bs r)
def l7(P:Program)(nt gl:Nat)(call:P2)(all:List Oper):List Oper->Nat->List H1->List Rec->Qs->S->Option S
 | [],_,_,_,_,s=>some s
 | _::_,_,[],_,_,_=>none
 | o::r,i,b::bs,rs,qs,⟨fr,⟨H,n,W,hi,lg⟩⟩=>match aZ nt fr lg all o,zM nt o.dst && NW nt gl o.op with
   | some (true,lg),true=>bif II o.op i b bs r qs then(match (W5 P call o).run fr ⟨H,n,W,hi,lg⟩with
      | some (v,m2)=>bif Nat.ble hi m2.hi && A0c b m2.H qs then(vU o.dst).run v fr fun fr=>l7 P nt gl call all r (i+1) bs [] qs ⟨fr,m2⟩else none
      | none=>none)
     else match (bif A7M o.op then kZ fr ⟨H,n,W,hi,lg⟩ o b rs (W5 P call o)else none)with
      | some (v,lg2)=>(vU o.dst).run v fr fun a=>l7 P nt gl call all r (i+1) bs rs ((i,KS H fr o.op)::qs) ⟨a,⟨H,n,W,hi,lg2⟩⟩
      | none=>bif v8 o.op then none else SW fr ⟨H,n,W,hi,lg⟩ o b rs (W5 P call o) fun v m2 =>
        (vU o.dst).run v fr fun fr=>l7 P nt gl call all r (i+1) bs (⟨i,n,m2.n⟩::rs) qs ⟨fr,m2⟩
   | some (false,lg),true=>(vU o.dst).run undef fr fun fr=>l7 P nt gl call all r (i+1) bs rs ((i,none)::qs) ⟨fr,⟨H,n,W,hi,lg⟩⟩
   | _,_=>none
def A2J(l:List Nat)(b:Nat):H1:=bif t8 l b then l else J8 b fun b=>b::l
def RT:H1->H1->H1
 | [],b=>b
 | x::a,b=>A2J (RT a b) x
def sN(acc:List H1):List Edge->H1
 | []=>[]
 | e::r=>bif Region.binds .any e then A2J (RT (acc.getD e.on []) (sN acc r)) e.on else sN acc r
def Y9:List Oper->List H1->List H1
 | [],acc=>acc
 | o::r,acc=>R1 (sN acc o.after.toList) fun a=>Y9 r (acc++[a])
def pP:Operand->List Tmp
 | .tmp t=>[t]
 | _=>[]
def V4(ops:List Oper)(o:Oper):List Tmp :=
 o.dst.toList++(o.op.operands.toList.flatMap pP++(match o.guard with
  | none=>[]
  | some (j,_)=>match ops[j]? with
    | some p=>p.dst.toList
    | none=>[]))
def A3E(a:List H1)(i k:Nat):Bool:=bif Nat.blt i k then t8 (a.getD k []) i else t8 (a.getD i []) k
def sQ(a:List H1)(i:Nat)(b:List Tmp):List Oper->Nat->Bool
 | [],_=>true
 | p::r,k=>(Nat.beq k i || (match p.dst with|none=>true|some t=>!(t8 b t) || A3E a i k)) && sQ a i b r (k+1)
def nM(i:Nat):List Edge->Bool
 | []=>true
 | e::r=>(!(Region.binds .any e) || Nat.blt e.on i) && nM i r
def JM(ops:List Oper)(a:List H1):List Oper->Nat->Bool
 | [],_=>true
 | o::r,i=>nM i o.after.toList && (sQ a i (V4 ops o) ops 0 && JM ops a r (i+1))
def GK(ops:Array Oper):Bool:=JM ops.toList (Y9 ops.toList []) ops.toList 0
def GN:Op->Bool
 | .move _|.assign _|.load _ _|.store _ _ _=>true
 | _=>false
def mF:Op->Option (TypeId×Operand)
 | .load t x=>some (t,x)
 | .store t x _=>some (t,x)
 | _=>none
def fO:Op->Bool
 | .store _ _ _=>true
 | _=>false
def YP:Op->List Tmp
 | .move x|.assign x=>pP x
 | .load _ x=>pP x
 | .store _ x y=>pP x++pP y
 | _=>[]
def CF(o:Oper)(l:List Tmp):Bool :=
 match o.dst with
 | some d=>t8 l d
 | none=>false
def A9j(a b:Oper):Bool :=
 (match a.dst,b.dst with
   | some d,some e=>!(Nat.beq d e)
   | _,_=>true) && (!(CF a (YP b.op)) && (!(CF b (YP a.op)) && !(fO a.op && fO b.op)))
def sC(o:Oper)(i:Nat):Bool:=o.after.any fun e=>Region.binds .any e && Nat.beq e.on i
def A2K(l:List Oper):List Tmp:=l.flatMap fun o=>match mF o.op with
 | some (_,x)=>pP x
 | none=>[]
def EY(p:Oper->Oper->Bool)(l:List Oper):Bool :=
 (List.range l.length).all fun j=>(List.range j).all fun i=>match l[i]?,l[j]? with
   | some a,some b=>sC b i || p a b
   | _,_=>true
def A7a(a:List Tmp)(i:Nat)(o:Oper):Bool:=GN o.op && ((match o.guard with|none=>true|some _=>false) && (!(CF o a) && o.after.all fun e=>!(Region.binds .any e) || Nat.blt e.on i))
def ZV(a:List Tmp):Nat->List Oper->Bool
 | _,[]=>true
 | i,o::l=>A7a a i o && ZV a (i+1) l
def kX(l:List Oper):Bool:=ZV (A2K l) 0 l && EY A9j l
def ZN(P:Program)(nt gl:Nat)(fr:Fr)(H:Hp AB)(o:Oper):Bool :=
 match mF o.op with
 | none=>true
 | some (t,x)=>bif !(okX nt gl x)then false else match ev fr x,aC P t,G9 P t with
   | .pointer (some a),some _,some s=>match a.spot,Hp.get H a.block with
     | none,some (.cells cs _ false)=>Nat.ble (a.off+s) cs.length && (Nat.blt a.off cs.length && Nat.ble a.block H6)
     | _,_=>false
   | _,_,_=>false
def A2H(fr:Fr)(a b:Oper):Bool :=
 bif fO a.op || fO b.op then match mF a.op,mF b.op with
  | some (_,x),some (_,y)=>match ev fr x,ev fr y with
    | .pointer (some p),.pointer (some q)=>!(Nat.beq p.block q.block)
    | _,_=>false
  | _,_=>true else true
def lK(P:Program)(nt gl:Nat)(fr:Fr)(H:Hp AB)(l:List Oper):Bool:=l.all (ZN P nt gl fr H) && EY (A2H fr) l
structure fY where
 run:S->Option (Ex×S)
def CO(f:fY):Nat->S->Option (Ex×S)
 | 0,_=>none
 | n+1,s=>match f.run s with
   | some (.normal,s)=>CO f n s
   | r=>r
def A14(a b:fY)(s:S):Option (Ex×S) :=
 match a.run s with
 | some (.normal,s)=>b.run s
 | r=>r
def LT(c:XC)(a b:fY)(s:S):Option (Ex×S) :=
 match c.run s.fr with
 | .bool true=>a.run s
 | .bool false=>b.run s
 | v=>match s with
   | ⟨fr,⟨H,n,W,hi,lg⟩⟩=>match brL lg v with
     | some (true,lg)=>a.run ⟨fr,⟨H,n,W,hi,lg⟩⟩
     | some (false,lg)=>b.run ⟨fr,⟨H,n,W,hi,lg⟩⟩
     | none=>none
def zZ(id:Nat)(c:fY)(s:S):Option (Ex×S) :=
 match c.run s with
 | some (.exit j,s)=>bif Nat.beq j id then some (.normal,s)else some (.exit j,s)
 | r=>r
def Y5(r:A2M)(s:S):Option (Ex×S) :=
 match r.run s with
 | some s=>some (.normal,s)
 | none=>none
structure LpT where
 me:FuncId
 look:List Bool->Option (S->Option (Ex×S))
def CP(c:fY)(L:S->Option (Ex×S)):Nat->S->Option (Ex×S)
 | 0,_=>none
 | n+1,s=>match L s with
   | some r=>some r
   | none=>match c.run s with
     | some (.normal,s)=>CP c L n s
     | r=>r
def LQ(c:fY)(l:Option (S->Option (Ex×S)))(s:S):Option (Ex×S) :=
 match l with
 | some f=>CP c f 4 s
 | none=>CO c 1000000 s
def frL(fr:Fr):Nat->Nat->D2
 | _,0=>[]
 | i,n+1=>fr.get i::frL fr (i+1) n
def A5K:Value->Nat
 | .pointer (some a)=>a.block
 | _=>0
def iD(v:Value):H1 :=
 match v with
 | .func (.yield 8) ⟨l⟩ ⟨[]⟩=>l.map A5K
 | _=>[]
def exN:Ex->Nat
 | .normal=>0
 | .ret=>2
 | .exit k=>k+4
def nEx:Nat->Option Ex
 | 0=>some .normal
 | 1=>none
 | 2=>some .ret
 | 3=>none
 | k+4=>some (.exit k)
def FQ:Ex->Bool
 | .normal=>true
 | _=>false
def qO(fr:Fr)(hi:Nat)(b:Nat)(r:Res):Option (Ex×S) :=
 match r with
 | some (_,m)=>match Hp.get m.H b with
   | some (.lp f q vs st)=>match nEx st with
     | some e=>bif Nat.ble hi m.hi then match bZ m b (.lp f q vs 3)with
       | some m=>some (e,⟨fr,m⟩)
       | none=>none else none
     | none=>none
   | _=>none
 | none=>none
def rQ(P:Program)(f:FuncId):Bool :=
 match P.funcs.toList[f]? with
 | some fn=>match fn.body with
   | some _=>true
   | none=>false
 | none=>false
def bV(P:Program)(nt:Nat)(call:P2)(f:FuncId)(q:List Bool)(g:Value)(fr:Fr)(m:Mem):Option (Ex×S) :=
 R1 (frL fr 0 nt) fun vs=>match Z3 m (.lp f q vs 0) yv with
 | some (v,m1)=>match wP g [v],dZ v with
   | some (k,as),some b=>bif rQ P k then qO fr m1.hi b ((call.fn k).run as m1)else none
   | _,_=>none
 | none=>none
def zY(P:Program)(nt:Nat)(call:P2)(f:FuncId)(q:List Bool)(x:XC)(s:S):Option (Ex×S) :=
 match s with
 | ⟨fr,m⟩=>bif Nat.ble nt 510 then match dZ (fr.get 511)with
   | some d=>match Hp.get m.H d with
     | some (.lp _ _ _ 1)=>bV P nt call f q (x.run fr) fr m
     | _=>none
   | none=>bif nG (fr.get 511)then match Z3 m (.dfr true) (fun b=>.pointer (some ⟨b,0,none⟩))with
      | some (.pointer (some a),m1)=>R1 (iD (fr.get 510)) fun l=>vO (sel 7) (sel 7) (sel 6) (dv (a.block::l)) fr fun c=>bV P nt call f q (x.run fr) c m1
      | _=>none else none
   else none
def N4(P:Program)(nt gl:Nat)(call:P2)(lp:LpT):List Bool->Code->fY
 | _,.skip=>⟨fun s=>some (.normal,s)⟩
 | _,.label _=>⟨fun s=>some (.normal,s)⟩
 | _,.region _ ops d=>match d with
   | false=>⟨fun s=>Y5 (U7 P nt gl call ops.toList ops.toList) s⟩
   | true=>bif GK ops then bif kX ops.toList then⟨fun s=>bif lK P nt gl s.fr s.m.H ops.toList then Y5 (U7 P nt gl call ops.toList ops.toList) s else Y5 ⟨l7 P nt gl call ops.toList ops.toList 0 (Y9 ops.toList []) [] []⟩ s⟩
     else⟨fun s=>Y5 ⟨l7 P nt gl call ops.toList ops.toList 0 (Y9 ops.toList []) [] []⟩ s⟩else⟨fun _=>none⟩
 | q,.seq a b=>⟨fun s=>A14 (N4 P nt gl call lp (q++[false]) a) (N4 P nt gl call lp (q++[true]) b) s⟩
 | q,.cond c a b=>bif okX nt gl c then⟨fun s=>LT (S0 c) (N4 P nt gl call lp (q++[false]) a) (N4 P nt gl call lp (q++[true]) b) s⟩else⟨fun _=>none⟩
 | q,.block id c=>⟨fun s=>zZ id (N4 P nt gl call lp (q++[false]) c) s⟩
 | q,.loop c=>⟨fun s=>LQ (N4 P nt gl call lp (q++[false]) c) (lp.look q) s⟩
 | q,.rangeFunc x _ _ _=>bif okX nt gl x then⟨fun s=>zY P nt call lp.me q (S0 x) s⟩else⟨fun _=>none⟩
 | q,.scope c=>N4 P nt gl call lp (q++[false]) c
 | _,.exit id=>⟨fun s=>some (.exit id,s)⟩
 | _,.ret=>⟨fun s=>some (.ret,s)⟩
 | _,_=>⟨fun _=>none⟩
def KP(ids:Value->List Nat):D2->H1
 | []=>[]
 | v::r=>ids v++KP ids r
def BF:Nat->Value->H1
 | 0,_=>[]
 | _+1,.pointer (some a)=>[a.block]
 | _+1,.slice (some a) _ _=>[a.block]
 | _+1,.map (some b)=>[b]
 | d+1,.func _ a b=>KP (BF d) a.toList++KP (BF d) b.toList
 | d+1,.iface _ v=>BF d v
 | d+1,.agg cs=>KP (BF d) cs.toList
 | d+1,.tuple cs=>KP (BF d) cs.toList
 | _+1,_=>[]
def A9l:AB->H1
 | .cells cs _ _=>KP (BF 10) cs
 | .mp _ _ _=>[]
 | .iter vs=>KP (BF 10) vs
 | .lp _ _ vs _=>KP (BF 10) vs
 | .dfr _=>[]
 | .sq _ _ _ g _=>[g]
 | .frz=>[]
def IW(n0:Nat)(H:Hp AB):Nat->H1->H1->H1
 | 0,_,acc=>acc
 | _+1,[],acc=>acc
 | f+1,b::r,acc=>bif Nat.blt b n0 || t8 acc b then IW n0 H f r acc else match Hp.get H b with
   | some ab=>IW n0 H f (A9l ab++r) (b::acc)
   | none=>IW n0 H f r acc
def eO(a H:Hp AB):H1->Hp AB
 | []=>H
 | b::r=>Hp.put H b (Hp.get a b) fun H=>eO a H r
def wOf(H:Hp AB):H1->H1
 | []=>[]
 | b::r=>(match Hp.get H b with|some ab=>A9l ab|none=>[])++wOf H r
def oA:H1->H1->H1
 | [],acc=>acc
 | b::r,acc=>bif t8 acc b then oA r acc else oA r (b::acc)
def nU(low:Value->Bool):D2->Bool
 | []=>true
 | v::r=>low v && nU low r
def d8(n:Nat):Nat->Value->Bool
 | 0,_=>false
 | _+1,.pointer (some a)=>Nat.blt a.block n
 | _+1,.slice (some a) _ _=>Nat.blt a.block n
 | _+1,.map (some b)=>Nat.blt b n
 | d+1,.func _ a b=>nU (d8 n d) a.toList && nU (d8 n d) b.toList
 | d+1,.iface _ v=>d8 n d v
 | d+1,.agg cs=>nU (d8 n d) cs.toList
 | d+1,.tuple cs=>nU (d8 n d) cs.toList
 | _+1,.complex _ _ _=>true
 | _+1,v=>I4 v
def A3T(n:Nat):Option AB->Bool
 | none=>true
 | some (.cells cs _ _)=>nU (d8 n 10) cs
 | some (.mp _ _ _)=>true
 | some (.iter vs)=>nU (d8 n 10) vs
 | some (.lp _ _ vs _)=>nU (d8 n 10) vs
 | some (.dfr _)=>true
 | some (.sq _ _ _ g _)=>Nat.blt g n
 | some .frz=>true
def OC(n:Nat)(H:Hp AB):H1->Bool
 | []=>true
 | b::r=>A3T n (Hp.get H b) && OC n H r
def gcM(m m':Mem)(v:Value):Option Mem :=
 let W:=oA (m'.W.filter fun b=>Nat.blt b m.n || Nat.ble m'.hi b) []
 bif d8 m.n 10 v && OC m.n m'.H W then
  bif GV W then GB (eO m'.H m.H W) fun H=>J8 m'.hi fun hi=>R1 (W++m.W) fun W=>some ⟨H,m.n,W,hi,m'.lg⟩else none
 else
  let ids:=(IW m.n m'.H 100000 (BF 10 v++wOf m'.H W) []).filter fun b=>Nat.ble m.n b && Nat.blt b m'.hi
  bif GV (W++ids)then GB (eO m'.H m.H (W++ids)) fun H=>J8 m'.n fun n=>J8 m'.hi fun hi=>R1 (W++m.W) fun W=>some ⟨H,n,W,hi,m'.lg⟩else none
def A8t(P:Program)(nt:Nat)(s:S):ResultVar->Q6
 | .tmp t=>bif Nat.blt t nt then some (s.fr.get t)else none
 | .cell a t=>bif Nat.blt a nt then match s.fr.get a with
   | .pointer (some a)=>RK P s.m t a
   | _=>none else none
def UH(P:Program)(nt:Nat)(s:S):List ResultVar->Option D2
 | []=>some []
 | r::rs=>match A8t P nt s r,UH P nt s rs with
   | some v,some vs=>some (v::vs)
   | _,_=>none
def UG(fn:Func)(P:Program)(s:S):Q6 :=
 match UH P fn.ntmps s fn.results.toList with
 | some [v]=>some v
 | some vs=>some (.tuple ⟨vs⟩)
 | none=>none
def eY(fr:Fr):Nat->D2->Fr
 | _,[]=>fr
 | i,v::r=>vO (sel (i / 64%8)) (sel (i / 8%8)) (sel (i%8)) v fr fun fr=>eY fr (i+1) r
def tH(l:List UInt8)(c:UInt8):Nat->Int
 | i=>match l with
   | [] => -1
   | b::r=>bif decide (b=c)then(i:Int)else tH r c (i+1)
def tT(c:UInt8):List UInt8->Nat->Nat
 | [],n=>n
 | b::r,n=>bif decide (b=c)then J8 (n+1) (tT c r)else tT c r n
def oN(k:EK)(args:List Value)(m:Mem):Res :=
 match k,args with
 | .noEscape,[v]=>some (v,m)
 | .indexByteString,[.string s,.int .u8 (.ofNat c)]=>some (.int .i64 (tH s.data.toList (UInt8.ofNat c) 0),m)
 | .countString,[.string s,.int .u8 (.ofNat c)]=>some (.int .i64 (tT (UInt8.ofNat c) s.data.toList 0),m)
 | .makeNoZero e,[.int .i64 (.ofNat n)]=>bif Nat.ble n 1000000000 then Z3 m (.cells [] e false) fun b=>.slice (some ⟨b,0,none⟩) n M9 else none
 | _,_=>none
def pT:H1->Mem->Option Mem
 | [],m=>some m
 | b::r,m=>match Hp.get m.H b with
   | some (.dfr true)=>match bZ m b (.dfr false)with
     | some m=>pT r m
     | none=>none
   | _=>none
def dvG(nt:Nat)(fr:Fr):H1:=bif Nat.ble nt 510 then iD (fr.get 510)else[]
def A8I(fn:Func)(P:Program)(m:Mem)(r:Option (Ex×S)):Res :=
 match r with
 | some (.normal,⟨fr,m1⟩)|some (.ret,⟨fr,m1⟩)=>match pT (dvG fn.ntmps fr) m1 with
   | some m1=>match UG fn P ⟨fr,m1⟩with
     | some v=>match gcM m m1 v with
       | some m=>some (v,m)
       | none=>none
     | none=>none
   | none=>none
 | _=>none
def MZ(c:fY)(fr:Fr)(m:Mem):Option (Ex×S) :=
 match m with
 | ⟨H,n,_,hi,lg⟩=>c.run ⟨fr,⟨H,n,[],hi,lg⟩⟩
def AE(fn:Func)(P:Program)(c:fY)(args:List Value)(m:Mem):Res :=
 bif Nat.ble args.length fn.ntmps && Nat.ble fn.ntmps 512 then A8I fn P m (MZ c (eY fr0 0 args) m)else none
structure Cx where
 P:Program
 ext:List (FuncId×EK)
 gl:Nat
 con:FuncId->Option FnC
 lp:FuncId->LpT
def DS(C:Cx)(call:P2)(f:FuncId):FnC :=
 match C.P.funcs.toList[f]? with
 | none=>⟨fun _ _=>none⟩
 | some fn=>match C.con f with
   | some c=>c
   | none=>match fn.body with
     | none=>match KZ C.ext f with
       | some k=>⟨oN k⟩
       | none=>⟨fun _ _=>none⟩
     | some c=>⟨AE fn C.P (N4 C.P fn.ntmps C.gl call (C.lp f) [] c)⟩
def uO:List Tmp->D2->Fr->Option Fr
 | [],[],fr=>some fr
 | t::ts,v::vs,fr=>vO (sel (t / 64%8)) (sel (t / 8%8)) (sel (t%8)) v fr fun fr=>uO ts vs fr
 | _,_,_=>none
def qJ(b:Nat)(r:Option (Ex×S)):Res :=
 match r with
 | some (e,⟨_,m⟩)=>match Hp.get m.H b with
   | some (.lp f q vs 1)=>J8 (exN e) fun st=>match bZ m b (.lp f q vs st)with
     | some m=>some (.bool (FQ e),m)
     | none=>none
   | _=>none
 | none=>none
def qI(b:Nat)(c:fY)(r:Option (Ex×S)):Res :=
 match r with
 | some (.normal,⟨fr,m⟩)=>match Hp.get m.H b with
   | some (.lp f q vs 0)=>match bZ m b (.lp f q vs 1)with
     | some m=>qJ b (c.run ⟨fr,m⟩)
     | none=>none
   | _=>none
 | _=>none
def ES(C:Cx)(call:P2):FnC:=⟨fun vs m =>
 match vs with
 | []=>none
 | v::args=>match dZ v with
   | none=>none
   | some b=>match Hp.get m.H b with
     | some (.lp f q fs 0)=>match C.P.funcs.toList[f]? with
       | none=>none
       | some fn=>match fn.body with
         | none=>none
         | some body=>match G8 q body with
           | some (.rangeFunc _ ps as bd)=>bif Nat.ble fn.ntmps 510 && ps.toList.all (fun t=>Nat.blt t fn.ntmps)then match uO ps.toList args (eY fr0 0 fs)with
             | some fr=>vO (sel 7) (sel 7) (sel 7) v fr fun fr=>qI b (N4 C.P fn.ntmps C.gl call (C.lp f) (q++[true]) bd) ((N4 C.P fn.ntmps C.gl call (C.lp f) (q++[false]) as).run ⟨fr,m⟩)
             | none=>none else none
           | _=>none
     | _=>none⟩
def vD(C:Cx):Nat->P2
 | 0=>⟨fun _=>⟨fun _ _=>none⟩,⟨fun _ _=>none⟩⟩
 | d+1=>⟨DS C (vD C d),ES C (vD C d)⟩
end
end Go.Sx
