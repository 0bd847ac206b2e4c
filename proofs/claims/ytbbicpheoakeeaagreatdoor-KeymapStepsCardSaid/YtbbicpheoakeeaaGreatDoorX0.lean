/- The law KeymapSteps: for every input the call returns true, and the arguments read behind it as they read before. No condition. -/
import Derived.WalkKit
import Derived.OrdersHeld
import Derived.KernelRfl
set_option linter.all false
set_option maxRecDepth 100000
set_option maxHeartbeats 4000000
namespace Go
variable {p:Prop}
abbrev fR:=@Array.all_eq_true'
abbrev J2:=@Array.ext'
abbrev B8:=@Array.getD_eq_getD_getElem?
abbrev T5:=@Array.getElem?_append_left
abbrev F3:=@Array.getElem?_eq_getElem
abbrev C9:=@Array.getElem?_eq_some_iff
abbrev H3:=@Array.getElem?_modify
abbrev j7:=@Array.getElem?_push
abbrev hH:=@Array.getElem?_replicate
abbrev t7:=@Array.getElem?_set
abbrev G6:=@Array.getElem?_setIfInBounds
abbrev Q1:=@Array.getElem?_toList
abbrev S0:=@Array.length_toList
abbrev fW:=@Array.mapM_eq_mapM_toList
abbrev Z8:=@Array.mk.injEq
abbrev d8:=@BitVec.toNat_and
abbrev Q5:=@BitVec.toNat_ofInt
abbrev H1:=@Bool.and_eq_true
abbrev nF:=@Bool.and_false
abbrev oT:=@Bool.and_true
abbrev K3:=@Bool.eq_iff_iff
abbrev nD:=@Bool.false_and
abbrev J8:=@Bool.false_eq_true
abbrev Q9:=@Bool.false_or
abbrev Q8:=@Bool.not_true
abbrev Z7:=@Bool.or_eq_false_iff
abbrev J1:=@Bool.or_eq_true
abbrev gZ:=@Bool.true_and
abbrev D3:=@Decidable.not_not
abbrev t6:=@Int.emod_lt_of_pos
abbrev q8:=@Int.emod_nonneg
abbrev iR:=@Int.eq_ofNat_of_zero_le
abbrev kU:=@Int.ofNat.injEq
abbrev bM:=@Int.ofNat_le
abbrev V2:=@Int.toNat_natCast
abbrev dW:=@Int.toNat_of_nonneg
abbrev kT:=@List.all_append
abbrev cP:=@List.all_cons
abbrev D6:=@List.all_eq_true
abbrev Q7:=@List.any_cons
abbrev bL:=@List.any_eq_false
abbrev Q4:=@List.any_eq_true
abbrev N1:=@List.append_assoc
abbrev R9:=@List.append_nil
abbrev J6:=@List.cons.injEq
abbrev S7:=@List.cons_append
abbrev dG:=@List.count_le_length
abbrev fQ:=@List.drop_drop
abbrev g7:=@List.drop_eq_getElem_cons
abbrev S4:=@List.drop_eq_nil_of_le
abbrev fP:=@List.drop_zero
abbrev cG:=@List.eq_nil_iff_forall_not_mem
abbrev N0:=@List.eq_nil_of_length_eq_zero
abbrev bK:=@List.ext_getElem?
abbrev dV:=@List.filter_eq_self
abbrev dN:=@List.find?_cons
abbrev gU:=@List.flatMap_cons
abbrev P3:=@List.flatten_cons
abbrev cF:=@List.flatten_nil
abbrev B2:=@List.getD_eq_getElem?_getD
abbrev F2:=@List.getElem?_append_left
abbrev E1:=@List.getElem?_append_right
abbrev R6:=@List.getElem?_cons_succ
abbrev R5:=@List.getElem?_cons_zero
abbrev I4:=@List.getElem?_drop
abbrev A5:=@List.getElem?_eq_getElem
abbrev T9:=@List.getElem?_eq_none
abbrev fV:=@List.getElem?_eq_none_iff
abbrev B3:=@List.getElem?_eq_some_iff
abbrev F8:=@List.getElem?_map
abbrev dF:=@List.getElem?_set_ne
abbrev S3:=@List.getElem?_set_self
abbrev E8:=@List.getElem?_take_of_lt
abbrev J0:=@List.getElem?_toArray
abbrev N9:=@List.getElem_mem
abbrev i7:=@List.getElem_of_mem
abbrev D4:=@List.length_append
abbrev E6:=@List.length_cons
abbrev E4:=@List.length_drop
abbrev G4:=@List.length_eq_zero_iff
abbrev E7:=@List.length_map
abbrev Y5:=@List.length_nil
abbrev dU:=@List.length_pos_iff
abbrev T8:=@List.length_replicate
abbrev P7:=@List.length_set
abbrev N2:=@List.length_singleton
abbrev G0:=@List.length_take
abbrev M5:=@List.map_append
abbrev dT:=@List.map_congr_left
abbrev C3:=@List.map_cons
abbrev kB:=@List.map_map
abbrev F6:=@List.map_nil
abbrev B7:=@List.mem_append
abbrev B4:=@List.mem_cons
abbrev C7:=@List.mem_cons_of_mem
abbrev B5:=@List.mem_cons_self
abbrev P6:=@List.mem_filter
abbrev I6:=@List.mem_map
abbrev D0:=@List.mem_of_getElem?
abbrev dE:=@List.mem_of_mem_drop
abbrev dD:=@List.mem_of_mem_take
abbrev fU:=@List.mem_or_eq_of_mem_set
abbrev W6:=@List.mem_range
abbrev L4:=@List.mem_singleton
abbrev G9:=@List.nil_append
abbrev bJ:=@List.nodup_append
abbrev kS:=@List.nodup_cons
abbrev nC:=@List.nodup_nil
abbrev K7:=@List.not_mem_nil
abbrev bS:=@List.take_append_drop
abbrev cO:=@Nat.add_assoc
abbrev kA:=@Nat.add_comm
abbrev I1:=@Nat.add_mul
abbrev W5:=@Nat.add_sub_cancel_left
abbrev jZ:=@Nat.add_zero
abbrev cE:=@Nat.and_le_right
abbrev dS:=@Nat.and_mod_two_pow
abbrev eF:=@Nat.beq_refl
abbrev pX:=@Nat.ble_eq
abbrev C8:=@Nat.ble_eq_true_of_le
abbrev A0:=@Nat.eq_of_beq_eq_true
abbrev T4:=@Nat.eq_zero_or_pos
abbrev A1:=@Nat.le_of_ble_eq_true
abbrev jY:=@Nat.le_of_lt
abbrev A6:=@Nat.le_refl
abbrev X3:=@Nat.le_succ
abbrev C6:=@Nat.le_trans
abbrev D7:=@Nat.lt_of_lt_of_le
abbrev G1:=@Nat.lt_or_ge
abbrev J4:=@Nat.lt_succ_self
abbrev d7:=@Nat.mod_eq_of_lt
abbrev pW:=@Nat.mod_lt
abbrev bH:=@Nat.mul_comm
abbrev s9:=@Nat.mul_div_cancel
abbrev fO:=@Nat.mul_le_mul
abbrev F9:=@Nat.mul_le_mul_right
abbrev gT:=@Nat.one_mul
abbrev dC:=@Nat.pow_le_pow_right
abbrev jX:=@Nat.sub_self
abbrev Y8:=@Nat.succ_le_of_lt
abbrev F5:=@Nat.zero_add
abbrev nA:=@Nat.zero_le
abbrev jW:=@Nat.zero_mul
abbrev A7:=@Option.bind_eq_some_iff
abbrev D8:=@Option.bind_some
abbrev cD:=@Option.getD_some
abbrev bG:=@Option.map_eq_some_iff
abbrev L6:=@Option.map_some
abbrev A9:=@Option.some.inj
abbrev D5:=@Option.some.injEq
abbrev M4:=@Prod.mk.injEq
abbrev A4:=@Sem.run_bind
abbrev E0:=@cond_false
abbrev E5:=@cond_true
abbrev F4:=@congrArg
abbrev E3:=@decide_eq_false
abbrev J7:=@decide_eq_true
abbrev A8:=@if_neg
abbrev B0:=@if_pos
abbrev H5:=@of_decide_eq_true
def C4(h:p:=by kernel_rfl):p:=h
def K8{α:Type}{a:Option α}{b c:α}(h:a=some b)(e:b=c:=by kernel_rfl):a=some c:=h.trans (by rw[e])
def A2(h:p:=by omega):p:=h
def F0(h:p:=by decide):p:=h
end Go
namespace Go.Sx
section
open Go
abbrev D2:=List Value
abbrev H6:=List Nat
abbrev R1:=Option Value
abbrev W4:=Array Value
structure N8 (α:Type) where
 c0:α
 c1:α
 c2:α
 c3:α
 c4:α
 c5:α
 c6:α
 c7:α
structure Sel where
 get:{α:Type}->N8 α->α
 upd:{α β:Type}->N8 α->α->(N8 α->β)->β
def sel:Nat->Sel
 | 0=>⟨fun n=>n.c0,fun n v k=>match n with|⟨a0,a1,a2,a3,a4,a5,a6,a7⟩=>k ⟨v,a1,a2,a3,a4,a5,a6,a7⟩⟩
 | 1=>⟨fun n=>n.c1,fun n v k=>match n with|⟨a0,a1,a2,a3,a4,a5,a6,a7⟩=>k ⟨a0,v,a2,a3,a4,a5,a6,a7⟩⟩
 | 2=>⟨fun n=>n.c2,fun n v k=>match n with|⟨a0,a1,a2,a3,a4,a5,a6,a7⟩=>k ⟨a0,a1,v,a3,a4,a5,a6,a7⟩⟩
 | 3=>⟨fun n=>n.c3,fun n v k=>match n with|⟨a0,a1,a2,a3,a4,a5,a6,a7⟩=>k ⟨a0,a1,a2,v,a4,a5,a6,a7⟩⟩
 | 4=>⟨fun n=>n.c4,fun n v k=>match n with|⟨a0,a1,a2,a3,a4,a5,a6,a7⟩=>k ⟨a0,a1,a2,a3,v,a5,a6,a7⟩⟩
 | 5=>⟨fun n=>n.c5,fun n v k=>match n with|⟨a0,a1,a2,a3,a4,a5,a6,a7⟩=>k ⟨a0,a1,a2,a3,a4,v,a6,a7⟩⟩
 | 6=>⟨fun n=>n.c6,fun n v k=>match n with|⟨a0,a1,a2,a3,a4,a5,a6,a7⟩=>k ⟨a0,a1,a2,a3,a4,a5,v,a7⟩⟩
 | _=>⟨fun n=>n.c7,fun n v k=>match n with|⟨a0,a1,a2,a3,a4,a5,a6,a7⟩=>k ⟨a0,a1,a2,a3,a4,a5,a6,v⟩⟩
def pV{α:Type}(v:α):N8 α:=⟨v,v,v,v,v,v,v,v⟩
def HQ{α β:Type}(n:N8 α)(k:N8 α->β):β :=
 match n with
 | ⟨a0,a1,a2,a3,a4,a5,a6,a7⟩=>k ⟨a0,a1,a2,a3,a4,a5,a6,a7⟩
abbrev Fr:=N8 (N8 (N8 Value))
def Fr.get(fr:Fr)(t:Nat):Value:=(sel (t%8)).get ((sel (t / 8%8)).get ((sel (t / 64%8)).get fr))
def wQ{β:Type}(a b c:Sel)(v:Value)(fr:Fr)(k:Fr->β):β :=
 c.upd (b.get (a.get fr)) v fun e=>b.upd (a.get fr) e fun d=>a.upd fr d k
def Fr.set(fr:Fr)(t:Nat)(v:Value):Fr:=wQ (sel (t / 64%8)) (sel (t / 8%8)) (sel (t%8)) v fr fun fr=>fr
def fr0:Fr:=pV (pV (pV (.tuple #[])))
abbrev Hp(α:Type):=N8 (N8 (N8 (N8 (N8 (N8 (Option α))))))
def Hp.get{α:Type}(h:Hp α)(n:Nat):Option α :=
 (sel (n%8)).get ((sel (n / 8%8)).get ((sel (n / 64%8)).get ((sel (n / 512%8)).get ((sel (n / 4096%8)).get ((sel (n / 32768%8)).get h)))))
def Y2{α β:Type}(a b c d e f:Sel)(v:Option α)(h:Hp α)(k:Hp α->β):β :=
 f.upd (e.get (d.get (c.get (b.get (a.get h))))) v fun m=>e.upd (d.get (c.get (b.get (a.get h)))) m fun g=>d.upd (c.get (b.get (a.get h))) g fun i=>c.upd (b.get (a.get h)) i fun l=>b.upd (a.get h) l fun j=>a.upd h j k
def Hp.put{α β:Type}(h:Hp α)(n:Nat)(v:Option α)(k:Hp α->β):β :=
 Y2 (sel (n / 32768%8)) (sel (n / 4096%8)) (sel (n / 512%8)) (sel (n / 64%8)) (sel (n / 8%8)) (sel (n%8)) v h k
def Hp.set{α:Type}(h:Hp α)(n:Nat)(v:Option α):Hp α:=h.put n v fun h=>h
def hp0{α:Type}:Hp α:=pV (pV (pV (pV (pV (pV none)))))
def I2:Nat:=262143
def K0{β:Type}(n:Nat)(k:Nat->β):β :=
 match n with
 | 0=>k 0
 | m+1=>k (Nat.succ m)
def AC{β:Type}(i:Int)(k:Int->β):β :=
 match i with
 | .ofNat n=>K0 n fun n=>k (.ofNat n)
 | .negSucc n=>K0 n fun n=>k (.negSucc n)
def R8{α β:Type}:List α->(List α->β)->β
 | [],k=>k []
 | x::r,k=>R8 r fun r=>k (x::r)
def OE:IntKind->Nat
 | .i8=>127|.i16=>32767|.i32=>2147483647|.i64=>9223372036854775807
 | .u8=>255|.u16=>65535|.u32=>4294967295|.u64=>18446744073709551615
def CK(k:IntKind)(n:Int):Int :=
 match n with
 | .ofNat m=>bif Nat.ble m (OE k)then .ofNat m else k.wrap (.ofNat m)
 | .negSucc m=>k.wrap (.negSucc m)
def B2A(a b:Int):Int :=
 match a,b with
 | .ofNat m,.ofNat n=>.ofNat (Nat.add m n)
 | a,b=>a+b
def A8U(a b:Int):Int :=
 match a,b with
 | .ofNat m,.ofNat n=>bif Nat.ble n m then .ofNat (Nat.sub m n)else .ofNat m - .ofNat n
 | a,b=>a-b
def B0q(a b:Int):Int :=
 match a,b with
 | .ofNat m,.ofNat n=>.ofNat (Nat.mul m n)
 | a,b=>a*b
def ltF(a b:Int):Bool :=
 match a,b with
 | .ofNat m,.ofNat n=>Nat.blt m n
 | .negSucc _,.ofNat _=>true
 | .ofNat _,.negSucc _=>false
 | .negSucc m,.negSucc n=>Nat.blt n m
def leF(a b:Int):Bool :=
 match a,b with
 | .ofNat m,.ofNat n=>Nat.ble m n
 | .negSucc _,.ofNat _=>true
 | .ofNat _,.negSucc _=>false
 | .negSucc m,.negSucc n=>Nat.ble n m
def CF(a b:Int):Bool :=
 match a,b with
 | .ofNat m,.ofNat n=>Nat.beq m n
 | .negSucc m,.negSucc n=>Nat.beq m n
 | _,_=>false
def vD:IntKind->IntKind->Bool
 | .i8,.i8|.i16,.i16|.i32,.i32|.i64,.i64|.u8,.u8|.u16,.u16|.u32,.u32|.u64,.u64=>true
 | _,_=>false
def mkI(k:IntKind)(n:Int):Value:=AC n fun n=>.int k n
inductive U where
 | none
 | int (k:IntKind) (n:Int)
 | bool (b:Bool)
 | str (s:List UInt8)
 | seq (nul:Bool) (w:Nat) (rows:List (List U))
inductive LOp where
 | bin (op:BinOp)
 | un (op:UnOp)
 | conv (k:IntKind)
 | len
 | idx
 | sub
 | sub1
 | sel
 | eqs
 | inb
 | max
 | min
 | mks
 | inbs (w:Nat)
 | get (w o:Nat)
 | mk (w:Nat)
 | nilw (w:Nat)
 | nilp
 | snoc (w:Nat)
 | cat (w:Nat)
 | cats
 | set (w o:Nat)
 | subs (w:Nat)
 | str
 | byt
 | rep (w:Nat)
 | ustr
 | mhas (w kw:Nat)
 | mget (w kw o:Nat)
 | mput (w kw:Nat)
 | rune
 | rpos
inductive n7 where
 | lt (i t:Nat) (op:LOp) (xs:List Value)
 | dt (i t:Nat) (op:LOp) (xs:List Value)
 | br (i:Nat) (b:Bool)
 | as (op:LOp) (xs:List Value)
 | con (spec:List U->Option (Nat×List U)) (xs:List Value) (i d n:Nat)
structure Lg where
 nx:Nat
 pi:H6
 log:List n7
def hole(i t:Nat):Value:=.complex .f64 i t
def junk:Value:=.complex .f32 0 0
def ixp(a:Addr)(s:Nat)(i:Value)(n:Nat):Value:=.func (.yield 1) ⟨[.pointer (some a),.int .i64 (.ofNat s),i,.int .i64 (.ofNat n)]⟩ ⟨[]⟩
def dat(b i t:Nat):Value:=.func (.yield 2) ⟨[.pointer (some ⟨b,0,none⟩),.complex .f64 i t]⟩ ⟨[]⟩
def clp(b i t:Nat):Value:=.func (.yield 3) ⟨[.pointer (some ⟨b,0,none⟩),.complex .f64 i t]⟩ ⟨[]⟩
def own(b i t:Nat):Value:=.func (.yield 4) ⟨[.pointer (some ⟨b,0,none⟩),.complex .f64 i t]⟩ ⟨[]⟩
def dpt(b i t:Nat)(z:Value)(o:Nat):Value:=.func (.yield 5) ⟨[.pointer (some ⟨b,0,none⟩),.complex .f64 i t,z,.int .i64 (.ofNat o)]⟩ ⟨[]⟩
def opt(b i t:Nat)(z:Value)(o:Nat):Value:=.func (.yield 6) ⟨[.pointer (some ⟨b,0,none⟩),.complex .f64 i t,z,.int .i64 (.ofNat o)]⟩ ⟨[]⟩
def yv(b:Nat):Value:=.func (.yield 7) ⟨[.pointer (some ⟨b,0,none⟩)]⟩ ⟨[]⟩
def sdt(b:Nat):Value:=.func (.yield 9) ⟨[.pointer (some ⟨b,0,none⟩)]⟩ ⟨[]⟩
def dv(ids:List Nat):Value:=.func (.yield 8) ⟨ids.map fun b=>.pointer (some ⟨b,0,none⟩)⟩ ⟨[]⟩
def A2R:Value->Bool
 | .complex .f32 _ _=>true
 | _=>false
def one:Value:=.complex .f32 1 0
def jM:Value->Bool
 | .complex .f32 i _=>!(Nat.beq i 1)
 | _=>false
def iJ:IntKind->Nat
 | .i8=>0|.i16=>1|.i32=>2|.i64=>3|.u8=>4|.u16=>5|.u32=>6|.u64=>7
def G8:Value->Nat
 | .int k _=>iJ k
 | .bool _=>8
 | .string _=>9
 | .complex .f64 _ t=>t
 | _=>99
inductive AB where
 | cells (cs:List Value) (T:TypeId) (ro:Bool)
 | sq (c t:Nat) (T:TypeId) (g:Nat) (ro:Bool)
 | frz
 | mp (c t:Nat) (T:TypeId)
 | iter (vs:List Value)
 | lp (f:FuncId) (q:List Bool) (vs:List Value) (st:Nat)
 | dfr (b:Bool)
structure Mem where
 H:Hp AB
 n:Nat
 W:H6
 hi:Nat
 lg:Lg
structure S where
 fr:Fr
 m:Mem
inductive Ex where
 | normal
 | exit (id:Nat)
 | ret
def G5:List Bool->Code->Option Code
 | [],c=>some c
 | false::q,.seq a _=>G5 q a
 | true::q,.seq _ b=>G5 q b
 | false::q,.cond _ a _=>G5 q a
 | true::q,.cond _ _ b=>G5 q b
 | false::q,.block _ c=>G5 q c
 | false::q,.scope c=>G5 q c
 | false::q,.loop c=>G5 q c
 | false::q,.rangeFunc _ _ a _=>G5 q a
 | true::q,.rangeFunc _ _ _ b=>G5 q b
 | _::_,_=>none
def N3:Nat:=9223372036854775808
def I8:Value->Bool
 | .bool _|.int _ _|.string _|.pointer none|.slice none _ _|.map none|.nilFunc|.nilIface=>true
 | _=>false
def SU:Value->Bool
 | .agg cs=>cs.toList.all I8
 | v=>I8 v
def ev(fr:Fr):Operand->Value
 | .tmp t=>fr.get t
 | .const v=>v
 | .global g=>.pointer (some ⟨g,0,none⟩)
 | .func f=>.func (.func f) #[] #[]
def okX(nt gl:Nat):Operand->Bool
 | .tmp t=>Nat.blt t nt
 | .const v=>SU v
 | .global g=>Nat.blt g gl
 | .func _=>true
def evL(fr:Fr):List Operand->D2
 | []=>[]
 | x::r=>ev fr x::evL fr r
def evP(fr:Fr):List (Nat×Operand)->List (Nat×Value)
 | []=>[]
 | (i,x)::r=>(i,ev fr x)::evP fr r
def evO(fr:Fr):Option Operand->R1
 | none=>none
 | some x=>some (ev fr x)
structure XC where
 run:Fr->Value
def B4M(a b c:Sel):XC:=⟨fun fr=>c.get (b.get (a.get fr))⟩
def S5:Operand->XC
 | .tmp t=>B4M (sel (t / 64%8)) (sel (t / 8%8)) (sel (t%8))
 | .const v=>⟨fun _=>v⟩
 | .global g=>⟨fun _=>.pointer (some ⟨g,0,none⟩)⟩
 | .func f=>⟨fun _=>.func (.func f) #[] #[]⟩
def eL(x:Operand)(fr:Fr):(S5 x).run fr=ev fr x:=by cases x<;>rfl
structure LC where
 run:Fr->D2
def B1p(x:XC)(r:LC)(fr:Fr):D2:=x.run fr::r.run fr
def wB:List Operand->LC
 | []=>⟨fun _=>[]⟩
 | x::r=>⟨fun fr=>B1p (S5 x) (wB r) fr⟩
def oD(fr:Fr):∀ xs:List Operand,(wB xs).run fr=evL fr xs
 | []=>rfl
 | x::r=>by
   show(S5 x).run fr::(wB r).run fr=_;rw[eL,oD fr r];rfl
abbrev Res:=Option (Value×Mem)
def upN(hi n:Nat):Nat:=bif Nat.blt n hi then hi else Nat.succ n
def Mem.wLg(m:Mem)(lg:Lg):Mem :=
 match m with
 | ⟨H,n,W,hi,_⟩=>⟨H,n,W,hi,lg⟩
def U3(m:Mem)(t:Nat)(op:LOp)(xs:List Value):Res :=
 match m with
 | ⟨H,n,W,hi,⟨nx,pi,log⟩⟩=>K0 nx fun nx=>K0 t fun t=>R8 xs fun xs=>some (hole nx t,⟨H,n,W,hi,⟨Nat.succ nx,pi,.lt nx t op xs::log⟩⟩)
def wR(m:Mem)(t:Nat)(op:LOp)(xs:List Value)(k:Nat->Mem->Res):Res :=
 match m with
 | ⟨H,n,W,hi,⟨nx,pi,log⟩⟩=>K0 nx fun nx=>K0 t fun t=>R8 xs fun xs=>k nx ⟨H,n,W,hi,⟨Nat.succ nx,pi,.dt nx t op xs::log⟩⟩
def AF:List n7->Nat->Option Bool
 | [],_=>none
 | .br j b::r,i=>bif Nat.beq j i then some b else AF r i
 | _::r,i=>AF r i
def brL(lg:Lg)(c:Value):Option (Bool×Lg) :=
 match c with
 | .bool b=>some (b,lg)
 | .complex .f64 i 8=>match lg with
   | ⟨nx,pi,log⟩=>match AF log i with
     | some b=>some (b,⟨nx,pi,log⟩)
     | none=>match pi with
       | 1::r=>some (true,⟨nx,r,.br i true::log⟩)
       | 0::r=>some (false,⟨nx,r,.br i false::log⟩)
       | _=>none
 | _=>none
def Z4(m:Mem)(ab:AB)(k:Nat->Value):Res :=
 match m with
 | ⟨H,n,W,hi,lg⟩=>bif Nat.ble n I2 then K0 n fun n=>K0 (upN hi n) fun hi=>Hp.put H n (some ab) fun H=>some (k n,⟨H,Nat.succ n,W,hi,lg⟩)else none
def cQ(m:Mem)(id:Nat)(ab:AB):Option Mem :=
 match m with
 | ⟨H,n,W,hi,lg⟩=>bif Nat.ble id I2 then Hp.put H id (some ab) fun H=>K0 id fun id=>some ⟨H,n,id::W,hi,lg⟩else none
def kJ(m:Mem)(id:Nat):Mem :=
 match m with
 | ⟨H,n,W,hi,lg⟩=>Hp.put H id none fun H=>K0 id fun id=>⟨H,n,id::W,hi,lg⟩
def A25(cs:List Value)(o n:Nat):Option D2 :=
 let r:=(cs.drop o).take n
 bif Nat.beq r.length n then some r else none
def v6(m:Mem)(a:Addr)(n:Nat):Option D2 :=
 match a.spot,Hp.get m.H a.block with
 | none,some (.cells cs _ _)=>A25 cs a.off n
 | _,_=>none
def cT:D2->Nat->D2->D2
 | cs,_,[]=>cs
 | cs,k,v::r=>cT (cs.set k v) (k+1) r
def flat:Value->Bool
 | .agg _|.tuple _=>false
 | .complex .f32 i _=>Nat.beq i 1
 | _=>true
def oU(m:Mem)(a:Addr)(vs:List Value):Option Mem :=
 match a.spot,Hp.get m.H a.block with
 | none,some (.cells cs T false) =>
   bif Nat.ble (a.off+vs.length) cs.length && vs.all flat then R8 (cT cs a.off vs) fun cs=>cQ m a.block (.cells cs T false)else none
 | _,_=>none
variable (P:Program)
def aY(t:TypeId):Option Bool :=
 match P.underlying t with
 | some (.struct _)|some (.array _ _)=>some true
 | some _=>some false
 | none=>none
def H4(t:TypeId):Option Nat :=
 match P.info? t with
 | some i=>some i.size
 | none=>none
def fX(t:TypeId):R1 :=
 match P.info? t with
 | some i=>match i.zero with
   | some v=>bif SU v then some v else none
   | none=>none
 | none=>none
def TL(m:Mem)(t:TypeId)(a:Addr):R1 :=
 match aY P t with
 | some true=>match H4 P t with
   | some n=>match v6 m a n with
     | some cs=>some (.agg ⟨cs⟩)
     | none=>none
   | none=>none
 | some false=>match v6 m a 1 with
   | some (v::_)=>some v
   | _=>none
 | none=>none
def xZ(m:Mem)(t:TypeId)(a:Addr)(v:Value):Option Mem :=
 match H4 P t with
 | some n=>bif Nat.beq v.cells.size n && !(jM v)then oU m a v.cells.toList else none
 | none=>none
def rT(t:TypeId)(cs:List Value)(off:Nat):R1 :=
 match aY P t with
 | some true=>match H4 P t with
   | some n=>match A25 cs off n with
     | some r=>some (.agg ⟨r⟩)
     | none=>none
   | none=>none
 | some false=>cs[off]?
 | none=>none
def A5h(e:TypeId)(s i:Nat):Field:={ name := "x",type:=e,offset:=i*s,embedded:=false,tag := "",pkgPath := "",byteOffset:=0 }
mutual
def eqM:Nat->TypeId->Value->Value->Option Bool
 | 0,_,_,_=>none
 | d+1,t,x,y=>match P.underlying t,x,y with
   | some .bool,.bool a,.bool b=>some (a == b)
   | some (.int _),.int k a,.int j b=>bif decide (k=j)then some (a == b)else none
   | some .string,.string a,.string b=>some (a.data.toList == b.data.toList)
   | some (.pointer _),.pointer none,.pointer b=>some b.isNone
   | some (.pointer _),.pointer (some _),.pointer none=>some false
   | some (.interface _),.nilIface,.nilIface=>some true
   | some (.interface _),.nilIface,.iface _ _=>some false
   | some (.interface _),.iface _ _,.nilIface=>some false
   | some (.interface _),.iface tx vx,.iface ty vy=>bif Nat.beq tx ty then(match P.info? tx with
     | some i=>bif i.comparable then eqM d tx vx vy else none
     | none=>none)else some false
   | some (.slice _),.slice none _ _,.slice b _ _=>some b.isNone
   | some (.slice _),.slice (some _) _ _,.slice none _ _=>some false
   | some (.map _ _),.map none,.map b=>some b.isNone
   | some (.func _ _ _),.nilFunc,.nilFunc=>some true
   | some (.func _ _ _),.nilFunc,.func (.func _) _ _=>some false
   | some (.func _ _ _),.func (.func _) _ _,.nilFunc=>some false
   | some (.struct fs),.agg xs,.agg ys=>bif P.stoodInHeld t then none else eqF d fs.toList xs.toList ys.toList
   | some (.array n e),.agg xs,.agg ys=>match H4 P e with
     | some s=>eqF d ((List.range n).map (A5h e s)) xs.toList ys.toList
     | none=>none
   | _,_,_=>none
def eqF:Nat->List Field->D2->D2->Option Bool
 | 0,_,_,_=>none
 | _+1,[],_,_=>some true
 | d+1,f::fs,xs,ys =>
   bif f.name == "_" then none else
   match rT P f.type xs f.offset,rT P f.type ys f.offset with
   | some x,some y=>match eqM d f.type x y with
     | some true=>eqF d fs xs ys
     | some false=>some false
     | none=>none
   | _,_=>none
end
def isC:Operand->Bool
 | .const _=>true
 | _=>false
def mH(t:TypeId)(x y:Operand)(a b:Value):Bool :=
 match a,b with
 | .nilIface,.nilIface=>isC x || isC y
 | .agg _,.agg _=>!P.eqGuardType P.depth t
 | a,b=>!(A2R a) && !(A2R b)
def BD(op:BinOp)(k:IntKind)(x y:Int):R1 :=
 match op with
 | .and=>some (.int k (k.wrap (BitVec.ofInt k.bits x &&& BitVec.ofInt k.bits y).toNat))
 | .or=>some (.int k (k.wrap (BitVec.ofInt k.bits x ||| BitVec.ofInt k.bits y).toNat))
 | .xor=>some (.int k (k.wrap (BitVec.ofInt k.bits x ^^^ BitVec.ofInt k.bits y).toNat))
 | .andNot=>some (.int k (k.wrap (BitVec.ofInt k.bits x &&& ~~~BitVec.ofInt k.bits y).toNat))
 | _=>none
def ltL:List UInt8->List UInt8->Bool
 | _,[]=>false
 | [],_::_=>true
 | a::x,b::y=>a<b || (a == b && ltL x y)
def kX(op:BinOp)(k:IntKind)(a b:Int):R1 :=
 match op with
 | .add=>some (mkI k (CK k (B2A a b)))
 | .sub=>some (mkI k (CK k (A8U a b)))
 | .mul=>some (mkI k (CK k (B0q a b)))
 | .quo=>bif CF b 0 then none else some (mkI k (k.wrap (a.tdiv b)))
 | .rem=>bif CF b 0 then none else some (mkI k (a.tmod b))
 | .eql=>some (.bool (CF a b))
 | .neq=>some (.bool (!(CF a b)))
 | .lss=>some (.bool (ltF a b))
 | .leq=>some (.bool (leF a b))
 | .gtr=>some (.bool (ltF b a))
 | .geq=>some (.bool (leF b a))
 | op=>BD op k a b
def OU(left:Bool)(k:IntKind)(a:Int)(b:Nat):Value :=
 bif left then mkI k (k.wrap (a*2 ^ (min b k.bits)))else mkI k (a.fdiv (2 ^ (min b k.bits)))
def A37(op:BinOp)(a b:ByteArray):R1 :=
 match op with
 | .add=>bif Nat.ble (a.size+b.size) 1000000000 then R8 (a.data.toList++b.data.toList) fun l=>some (.string ⟨⟨l⟩⟩)else none
 | .eql=>some (.bool (a.data.toList == b.data.toList))
 | .neq=>some (.bool (!(a.data.toList == b.data.toList)))
 | .lss=>some (.bool (ltL a.data.toList b.data.toList))
 | .leq=>some (.bool (ltL a.data.toList b.data.toList || (a.data.toList == b.data.toList)))
 | .gtr=>some (.bool (!(ltL a.data.toList b.data.toList || (a.data.toList == b.data.toList))))
 | .geq=>some (.bool (!(ltL a.data.toList b.data.toList)))
 | _=>none
def DC(op:BinOp)(t:TypeId)(x y:Value):R1 :=
 match op with
 | .eql=>match eqM P 20 t x y with
   | some b=>some (.bool b)
   | none=>none
 | .neq=>match eqM P 20 t x y with
   | some b=>some (.bool (!b))
   | none=>none
 | _=>none
def iK:BinOp->Option Bool
 | .shl=>some true
 | .shr=>some false
 | _=>none
def aZ(op:BinOp)(k j:IntKind)(a b:Int):R1 :=
 match iK op with
 | some l=>match b with
   | .ofNat n=>some (OU l k a n)
   | .negSucc _=>none
 | none=>bif vD k j then kX op k a b else none
def tH(op:BinOp)(t:TypeId)(x y:Value):R1 :=
 match x,y with
 | .int k a,.int j b=>aZ op k j a b
 | .string a,.string b=>A37 op a b
 | x,y=>DC P op t x y
def unM(op:UnOp)(x:Value):R1 :=
 match op,x with
 | .neg,.int k n=>some (mkI k (k.wrap (0-n)))
 | .xor,.int k n=>BD .xor k (if k.signed then -1 else k.max) n
 | .not,.bool b=>some (.bool !b)
 | _,_=>none
def bytesOf:D2->Option (List UInt8)
 | []=>some []
 | .int .u8 n::r=>match bytesOf r with
   | some l=>some (UInt8.ofNat n.toNat::l)
   | none=>none
 | _::_=>none
def P8(l:List UInt8):D2:=l.map fun b=>.int .u8 b.toNat
def EJ(m:Mem)(s t:TypeId)(x:Value):Res :=
 match P.underlying s,P.underlying t,x with
 | some _,some (.int k),.int _ n=>some (mkI k (CK k n),m)
 | some _,some .string,.string b=>some (.string b,m)
 | some _,some .string,.int _ n=>some (.string (Utf8.encode n),m)
 | some _,some (.slice e),.string b=>match P.underlying e with
   | some (.int .u8)=>match H4 P e with
     | some 1=>R8 (P8 b.data.toList) fun cs=>Z4 m (.cells cs e false) fun i=>.slice (some ⟨i,0,none⟩) b.size N3
     | _=>none
   | _=>none
 | some (.slice e),some .string,.slice none _ _=>match P.underlying e with
   | some (.int .u8)=>some (.string ByteArray.empty,m)
   | _=>none
 | some (.slice e),some .string,.slice (some a) n _=>match P.underlying e with
   | some (.int .u8)=>match v6 m a n with
     | some cs=>match bytesOf cs with
       | some l=>some (.string ⟨⟨l⟩⟩,m)
       | none=>none
     | none=>none
   | _=>none
 | _,_,_=>none
def AG(place:Nat->Option (Nat×Nat))(cells:List Value):List (Nat×Value)->Option D2
 | []=>some cells
 | (i,v)::rest=>match place i with
   | none=>none
   | some (off,size) =>
     bif (Nat.beq v.cells.size size && !(jM v)) && Nat.ble (off+v.cells.size) cells.length then R8 (cT cells off v.cells.toList) fun cs=>AG place cs rest else none
def rQ:List Field->Option (List (Nat×Nat))
 | []=>some []
 | f::r=>match H4 P f.type,rQ r with
   | some n,some l=>some ((f.offset,n)::l)
   | _,_=>none
def KG(z:List Value):Nat->D2
 | 0=>[]
 | n+1=>z++KG z n
def FL(e:TypeId)(n:Nat):Option D2 :=
 match H4 P e with
 | some s=>bif Nat.beq (n*s) 0 then some []else match fX P e with
   | some z=>bif Nat.beq z.cells.size s then some (KG z.cells.toList n)else none
   | none=>none
 | none=>none
def RD(t:TypeId)(parts:List (Nat×Value)):R1 :=
 match fX P t,P.underlying t with
 | some z,some (.struct fs)=>match rQ P fs.toList with
   | some ps=>match AG (ps[·]?) z.cells.toList parts with
     | some cs=>some (.agg ⟨cs⟩)
     | none=>none
   | none=>none
 | some z,some (.array _ e)=>match H4 P e with
   | some s=>match AG (fun i=>some (i*s,s)) z.cells.toList parts with
     | some cs=>some (.agg ⟨cs⟩)
     | none=>none
   | none=>none
 | _,_=>none
def dA(m:Mem)(t:TypeId)(n:Nat)(parts:List (Nat×Value)):Res :=
 match P.underlying t with
 | some (.slice e)=>match H4 P e,FL P e n with
   | some s,some zs=>bif Nat.ble (n*s) 16777216 && Nat.blt n N3 then match AG (fun i=>some (i*s,s)) zs parts with
     | some cs=>Z4 m (.cells cs e false) fun i=>.slice (some ⟨i,0,none⟩) n n
     | none=>none else none
   | _,_=>none
 | _=>none
def eY(m:Mem)(t:TypeId)(l c:Value):Res :=
 match P.underlying t,l,c with
 | some (.slice e),.int _ (.ofNat l),.int _ (.ofNat c)=>match P.info? e with
   | some i=>bif Nat.ble l c && Nat.ble c 10000000 && Nat.ble (c*i.bytes) 100000000 then match FL P e c with
     | some a=>R8 a fun a=>Z4 m (.cells a e false) fun k=>.slice (some ⟨k,0,none⟩) l c
     | none=>none else none
   | none=>none
 | _,_,_=>none
def bV(a:Addr)(n:Nat):Addr:=K0 (a.off+n) fun o=>⟨a.block,o,none⟩
def cY(s:TypeId)(x:Value)(i:Nat):R1 :=
 match P.underlying s,x with
 | some (.struct fs),.pointer (some a)=>match fs.toList[i]?,a.spot with
   | some f,none=>match H4 P f.type with
     | some (_+1)=>some (.pointer (some (bV a f.offset)))
     | _=>none
   | _,_=>none
 | _,_=>none
def HU(t:TypeId)(x:Value)(i:Nat):R1 :=
 match P.underlying t,x with
 | some (.struct fs),.agg cs=>match fs.toList[i]? with
   | some f=>rT P f.type cs.toList f.offset
   | none=>none
 | _,_=>none
def Y1(t:TypeId)(x i:Value):R1 :=
 match P.underlying t,x,i with
 | some (.array n e),.pointer (some a),.int _ (.ofNat k)=>match H4 P e,a.spot with
   | some s,none=>bif Nat.blt k n then some (.pointer (some (bV a (k*s))))else none
   | _,_=>none
 | some (.slice e),.slice (some a) n _,.int _ (.ofNat k)=>match H4 P e,a.spot with
   | some s,none=>bif Nat.blt k n then some (.pointer (some (bV a (k*s))))else none
   | _,_=>none
 | _,_,_=>none
def mF(t:TypeId)(x i:Value):R1 :=
 match P.underlying t,x,i with
 | some (.array n e),.agg cs,.int _ (.ofNat k)=>match H4 P e with
   | some s=>bif Nat.blt k n then rT P e cs.toList (k*s)else none
   | none=>none
 | some .string,.string s,.int _ (.ofNat k)=>match s.data.toList[k]? with
   | some b=>some (.int .u8 b.toNat)
   | none=>none
 | _,_,_=>none
def U4(v:Option Value)(I2 a:Nat):Option Nat :=
 match v with
 | none=>some a
 | some (.int _ (.ofNat k))=>bif Nat.ble k I2 then some k else none
 | some _=>none
def dI(t:TypeId)(x:Value)(b hi mx:Option Value):R1 :=
 match P.underlying t,x with
 | some .string,.string s =>
   match mx,U4 hi s.size s.size with
   | none,some h=>match U4 b h 0 with
     | some l=>some (.string ⟨⟨(s.data.toList.drop l).take (h-l)⟩⟩)
     | none=>none
   | _,_=>none
 | some (.slice e),.slice none n c =>
   match n,c,U4 mx 0 0,U4 hi 0 0,U4 b 0 0 with
   | 0,0,some _,some _,some _=>bif (mx.isSome && hi.isNone) || (H4 P e).isNone then none else some (.slice none 0 0)
   | _,_,_,_,_=>none
 | some (.slice e),.slice (some a) n c =>
   match H4 P e,a.spot with
   | some s,none =>
     bif Nat.blt c N3 then
      match U4 mx c c with
      | some m=>match (match hi,mx with|none,some _=>none|hi,_=>U4 hi m n)with
        | some h=>match U4 b h 0 with
          | some l=>some (.slice (some (bif Nat.beq m l then a else bV a (l*s))) (h-l) (m-l))
          | none=>none
        | none=>none
      | none=>none
     else
      match mx with
      | some _=>match hi,U4 mx n n with
        | some _,some m=>bif Nat.blt m N3 && Nat.ble c (N3+1)then match U4 hi m n with
          | some h=>match U4 b h 0 with
            | some l=>some (.slice (some (bif Nat.beq m l then a else bV a (l*s))) (h-l) (m-l))
            | none=>none
          | none=>none else none
        | _,_=>none
      | none=>match U4 hi n n with
        | some h=>match U4 b h 0 with
          | some 0=>some (.slice (some a) h c)
          | some (l+1)=>let l:=l+1
            bif Nat.blt l n then some (.slice (some (bV a (l*s))) (h-l) (N3+1))else some (.slice (some a) 0 (N3+2))
          | none=>none
        | none=>none
   | _,_=>none
 | some (.array n e),.pointer (some a) =>
   match H4 P e,a.spot,mx with
   | some s,none,none=>match U4 hi n n with
     | some h=>match U4 b h 0 with
       | some l=>bif Nat.blt n N3 then some (.slice (some (bif Nat.beq n l then a else bV a (l*s))) (h-l) (n-l))else none
       | none=>none
     | none=>none
   | _,_,_=>none
 | _,_=>none
def eX(m:Mem)(s:Nat)(y:Value):Option (Nat×List Value) :=
 match y with
 | .slice none n _=>bif Nat.beq n 0 then some (0,[])else none
 | .slice (some a) n _=>match v6 m a (n*s)with
   | some cs=>some (n,cs)
   | none=>none
 | .string b=>bif Nat.beq s 1 then some (b.size,P8 b.data.toList)else none
 | _=>none
def dJ:TypeDesc->Bool
 | .slice _|.string=>true
 | _=>false
def tJ(m:Mem)(t t2:TypeId)(x y:Value):Res :=
 match P.underlying t,P.underlying t2 with
 | some (.slice e),some d2 =>
   bif !(dJ d2)then none else
   match P.info? e,x with
   | some i,.slice a n c=>match eX m i.size y,fX P e with
     | some (k,new),some z =>
       bif Nat.ble ((3*(n+k)+4000)*i.bytes) 281474976710656 && Nat.ble (n+k) 1000000000 && Nat.beq z.cells.size i.size && new.all flat then
       bif Nat.beq k 0 then(match a with|none=>bif Nat.beq n 0 && Nat.beq c 0 then some (x,m)else none|some _=>bif Nat.ble c (N3+1) && Nat.ble n c then some (x,m)else none)else
       match a with
       | none=>bif Nat.beq n 0 && Nat.beq c 0 then R8 new fun cs=>Z4 m (.cells cs e false) fun b=>.slice (some ⟨b,0,none⟩) k N3 else none
       | some d =>
         bif Nat.blt c N3 then
          bif Nat.ble (n+k) c then
           match d.spot,oU m (bV d (n*i.size)) new with
           | none,some m'=>some (.slice a (n+k) c,m')
           | _,_=>none
          else match v6 m d (n*i.size)with
           | some old=>R8 (old++new) fun cs=>Z4 m (.cells cs e false) fun b=>.slice (some ⟨b,0,none⟩) (n+k) N3
           | none=>none
         else bif Nat.beq c N3 && Nat.beq d.off 0 then
          match d.spot,Hp.get m.H d.block with
          | none,some (.cells cs T false) =>
            bif Nat.beq cs.length (n*i.size) && Nat.beq T e && Nat.ble d.block I2 && Nat.blt d.block m.n then
             R8 (cs++new) fun cs=>Z4 (kJ m d.block) (.cells cs e false) fun b=>.slice (some ⟨b,0,none⟩) (n+k) N3
            else none
          | _,_=>none
         else none
       else none
     | _,_=>none
   | _,_=>none
 | _,_=>none
def MX(m:Mem)(t:TypeId)(x y:Value):Res :=
 match P.underlying t,x with
 | some (.slice e),.slice a n c=>match H4 P e with
   | some s =>
     match (match y with
      | .slice none k _=>bif Nat.beq k 0 then some (0,[])else none
      | .slice (some b) k _=>match v6 m b (Nat.min k n*s)with
        | some cs=>some (Nat.min k n,cs)
        | none=>none
      | .string b=>some (Nat.min b.size n,P8 (b.data.toList.take (Nat.min b.size n)))
      | _=>none:Option (Nat×List Value))with
     | some (k,cs)=>match a with
       | none=>bif Nat.beq k 0 then some (.int .i64 0,m)else none
       | some d=>bif Nat.beq cs.length 0 then some (.int .i64 k,m)else bif Nat.ble c (N3+1)then match oU m d cs with
         | some m'=>some (.int .i64 k,m')
         | none=>none else none
     | none=>none
   | none=>none
 | _,_=>none
def A1P(m:Mem)(t:TypeId)(x:Value):R1 :=
 match P.underlying t,x with
 | some .string,.string s=>some (.int .i64 s.data.toList.length)
 | some (.array n _),_=>some (.int .i64 n)
 | some (.slice _),.slice _ n _=>some (.int .i64 n)
 | some (.map _ _),.map none=>some (.int .i64 0)
 | _,_=>none
def A9s(t:TypeId)(x:Value):R1 :=
 match P.underlying t,x with
 | some (.slice _),.slice none _ c=>some (.int .i64 c)
 | some (.slice _),.slice (some a) n c=>bif Nat.blt c N3 then some (.int .i64 c)else none
 | _,_=>none
def A85:D2->R1
 | [.int k a,.int _ b]=>some (.int k (if b>a then b else a))
 | [.int k a,.int _ b,.int _ c]=>AC (if b>a then b else a) fun d=>some (.int k (if c>d then c else d))
 | _=>none
def A84:D2->R1
 | [.int k a,.int _ b]=>some (.int k (if b<a then b else a))
 | [.int k a,.int _ b,.int _ c]=>AC (if b<a then b else a) fun d=>some (.int k (if c<d then c else d))
 | _=>none
def noM(v:Option Value)(m:Mem):Res :=
 match v with
 | some v=>some (v,m)
 | none=>none
def PM(m:Option Mem):Res :=
 match m with
 | some m=>some (undef,m)
 | none=>none
def SZ(m:Mem)(c a b:Value):Res :=
 match c with
 | .bool true=>some (a,m)
 | .bool false=>some (b,m)
 | _=>none
def GS(m:Mem)(e:TypeId):Res :=
 match fX P e with
 | some z=>Z4 m (.cells z.cells.toList e false) fun b=>.pointer (some ⟨b,0,none⟩)
 | none=>none
def A06(m:Mem)(e:TypeId)(v:Value):Res :=
 bif v.cells.toList.all flat then Z4 m (.cells v.cells.toList e false) fun b=>.pointer (some ⟨b,0,none⟩)else none
def TA(m:Mem)(t:TypeId)(v:Value):Res :=
 match v with
 | .pointer (some a)=>noM (TL P m t a) m
 | _=>none
def GP(m:Mem)(t:TypeId)(x v:Value):Res :=
 match x with
 | .pointer (some a)=>PM (xZ P m t a v)
 | _=>none
def A05(m:Mem)(x:Value):Res :=
 match x with
 | .pointer (some a)=>some (.pointer (some a),m)
 | .func (.func f) a b=>some (.func (.func f) a b,m)
 | _=>none
def zY:BinOp->Bool
 | .eql|.neq=>true
 | _=>false
def A4Y(m:Mem)(op:BinOp)(t:TypeId)(x y:Operand)(a b:Value):Res :=
 bif zY op then(bif mH P t x y a b then noM (tH P op t a b) m else none)else noM (tH P op t a b) m
def GQ(m:Mem)(t:TypeId)(v:Value):Res :=
 match P.underlying t with
 | some d=>(match d with|.interface _=>none|_=>bif flat v || (match v with|.agg _=>true|_=>false)then some (.iface t v,m)else none)
 | none=>none
def lR(m:Mem)(v:Value)(i:Nat):Res :=
 match v with
 | .tuple vs=>noM vs.toList[i]? m
 | _=>none
def iZ(m:Mem)(x:Value):Res :=
 match x with
 | .slice none _ _=>some (.pointer none,m)
 | .slice (some a) n c=>bif Nat.beq n 0 || Nat.beq c 0 || Nat.beq c (N3+2)then none else some (.pointer (some a),m)
 | _=>none
def eO(m:Mem)(b:TypeId)(p l:Value):Res :=
 match p,l with
 | .pointer none,.int _ (.ofNat 0)=>some (.string ByteArray.empty,m)
 | .pointer (some a),.int _ (.ofNat n) =>
   match a.spot,Hp.get m.H a.block with
   | none,some (.cells cs T false)=>match P.underlying b,H4 P T with
     | some (.pointer e),some 1=>bif Nat.blt 0 n && Nat.ble n 1000000000 && Nat.beq e T then match A25 cs a.off n with
       | some l=>match bytesOf l,cQ m a.block (.cells cs T true)with
         | some l,some m'=>some (.string ⟨⟨l⟩⟩,m')
         | _,_=>none
       | none=>none else none
     | _,_=>none
   | _,_=>none
 | _,_=>none
def iP(m:Mem)(b:Builtin)(vs:List Value)(tys:List TypeId):Res :=
 match b,vs,tys with
 | .len,[x],t::_=>noM (A1P P m t x) m
 | .cap,[x],t::_=>noM (A9s P t x) m
 | .append,[x,y],t::t2::_=>tJ P m t t2 x y
 | .copy,[x,y],t::_=>MX P m t x y
 | .max,vs,_=>noM (A85 vs) m
 | .min,vs,_=>noM (A84 vs) m
 | .unsafeSliceData,[x],_=>iZ m x
 | .unsafeString,[p,l],t::_=>eO P m t p l
 | _,_,_=>none
def opM(fr:Fr)(m:Mem)(o:Op):Res :=
 match o with
 | .move x|.assign x=>some (ev fr x,m)
 | .pick c a b=>SZ m (ev fr c) (ev fr a) (ev fr b)
 | .alloc e=>GS P m e
 | .box e x=>A06 m e (ev fr x)
 | .build t ps=>noM (RD P t (evP fr ps.toList)) m
 | .buildSlice t n ps=>dA P m t n (evP fr ps.toList)
 | .load t x=>TA P m t (ev fr x)
 | .store t x y=>GP P m t (ev fr x) (ev fr y)
 | .nilCheck x=>A05 m (ev fr x)
 | .binOp op t x y _=>A4Y P m op t x y (ev fr x) (ev fr y)
 | .unOp op _ x=>noM (unM op (ev fr x)) m
 | .convert s t x=>EJ P m s t (ev fr x)
 | .makeInterface t x=>GQ P m t (ev fr x)
 | .makeFunc (.func f) first cap=>some (.func (.func f) ⟨evL fr first.toList⟩ ⟨evL fr cap.toList⟩,m)
 | .makeSlice t l c=>eY P m t (ev fr l) (ev fr c)
 | .slice t x d hi mx=>noM (dI P t (ev fr x) (evO fr d) (evO fr hi) (evO fr mx)) m
 | .fieldAddr s x i=>noM (cY P s (ev fr x) i) m
 | .field t x i=>noM (HU P t (ev fr x) i) m
 | .indexAddr t x i=>noM (Y1 P t (ev fr x) (ev fr i)) m
 | .index t x i=>noM (mF P t (ev fr x) (ev fr i)) m
 | .extract x i=>lR m (ev fr x) i
 | .call ⟨.builtin b,xs,tys⟩=>iP P m b (evL fr xs.toList) tys.toList
 | _=>none
structure OpC where
 run:Fr->Mem->Res
def A18(x:XC)(fr:Fr)(m:Mem):Res:=some (x.run fr,m)
def A7F(c a b:XC)(fr:Fr)(m:Mem):Res:=SZ m (c.run fr) (a.run fr) (b.run fr)
def B1C(e:TypeId)(x:XC)(fr:Fr)(m:Mem):Res:=A06 m e (x.run fr)
def A7G(t:TypeId)(x:XC)(fr:Fr)(m:Mem):Res:=TA P m t (x.run fr)
def A16(t:TypeId)(x y:XC)(fr:Fr)(m:Mem):Res:=GP P m t (x.run fr) (y.run fr)
def B0_(x:XC)(fr:Fr)(m:Mem):Res:=A05 m (x.run fr)
def B1D(op:BinOp)(t:TypeId)(x y:Operand)(cx a:XC)(fr:Fr)(m:Mem):Res:=A4Y P m op t x y (cx.run fr) (a.run fr)
def kUn(op:UnOp)(x:XC)(fr:Fr)(m:Mem):Res:=noM (unM op (x.run fr)) m
def A7H(s t:TypeId)(x:XC)(fr:Fr)(m:Mem):Res:=EJ P m s t (x.run fr)
def zT(s:TypeId)(x:XC)(i:Nat)(fr:Fr)(m:Mem):Res:=noM (cY P s (x.run fr) i) m
def A1_(s:TypeId)(x:XC)(i:Nat)(fr:Fr)(m:Mem):Res:=noM (HU P s (x.run fr) i) m
def zS(t:TypeId)(x i:XC)(fr:Fr)(m:Mem):Res:=noM (Y1 P t (x.run fr) (i.run fr)) m
def A19(t:TypeId)(x i:XC)(fr:Fr)(m:Mem):Res:=noM (mF P t (x.run fr) (i.run fr)) m
def LU(x:XC)(i:Nat)(fr:Fr)(m:Mem):Res:=lR m (x.run fr) i
def LV(b:Builtin)(xs:LC)(tys:List TypeId)(fr:Fr)(m:Mem):Res:=iP P m b (xs.run fr) tys
def AQ(o:Op):OpC :=
 match o with
 | .move x=>⟨A18 (S5 x)⟩
 | .assign x=>⟨A18 (S5 x)⟩
 | .pick c a b=>⟨A7F (S5 c) (S5 a) (S5 b)⟩
 | .box e x=>⟨B1C e (S5 x)⟩
 | .load t x=>⟨A7G P t (S5 x)⟩
 | .store t x y=>⟨A16 P t (S5 x) (S5 y)⟩
 | .nilCheck x=>⟨B0_ (S5 x)⟩
 | .binOp op t x y _=>⟨B1D P op t x y (S5 x) (S5 y)⟩
 | .unOp op _ x=>⟨kUn op (S5 x)⟩
 | .convert s t x=>⟨A7H P s t (S5 x)⟩
 | .fieldAddr s x i=>⟨zT P s (S5 x) i⟩
 | .field t x i=>⟨A1_ P t (S5 x) i⟩
 | .indexAddr t x i=>⟨zS P t (S5 x) (S5 i)⟩
 | .index t x i=>⟨A19 P t (S5 x) (S5 i)⟩
 | .extract x i=>⟨LU (S5 x) i⟩
 | .call ⟨.builtin b,xs,tys⟩=>⟨LV P b (wB xs.toList) tys.toList⟩
 | o=>⟨fun fr m=>opM P fr m o⟩
def AP(o:Op)(fr:Fr)(m:Mem):(AQ P o).run fr m=opM P fr m o:=by
 unfold AQ;split<;>simp only[A18,A7F,B1C,A7G,A16,B0_,B1D,kUn,A7H,zT,A1_,zS,A19,LU,LV,opM,eL,oD]
def PI(nt gl:Nat)(o:Op):Bool:=o.operands.toList.all (okX nt gl)
end
section
open Go
def B1F:BinOp->Bool
 | .eql|.neq|.lss|.leq|.gtr|.geq=>true
 | _=>false
def oV(P:Program)(m:Mem)(op:BinOp)(t:TypeId)(a b:Value):Res :=
 let c:=G8 a
 let d:=G8 b
 bif (Nat.blt c 8 && Nat.blt d 8) || (Nat.beq c 9 && Nat.beq d 9)then U3 m (bif B1F op then 8 else c) (.bin op) [a,b]else
 bif Nat.beq c 8 && Nat.beq d 8 && zY op && (match P.underlying t with|some .bool=>true|_=>false)then U3 m 8 (.bin op) [a,b]else none
def fE(P:Program)(t:TypeId)(x y:Value):Bool :=
 match P.underlying t with
 | some .bool=>Nat.beq (G8 x) 8 && Nat.beq (G8 y) 8
 | some (.int k)=>Nat.beq (G8 x) (iJ k) && Nat.beq (G8 y) (iJ k)
 | some .string=>Nat.beq (G8 x) 9 && Nat.beq (G8 y) 9
 | _=>false
mutual
def eqS(P:Program):Nat->TypeId->Value->Value->Option D2
 | 0,_,_,_=>none
 | d+1,t,x,y=>bif fE P t x y then some [x,y]else
   match P.underlying t,x,y with
   | some (.struct fs),.agg xs,.agg ys=>bif P.stoodInHeld t then none else AK P d fs.toList xs.toList ys.toList
   | some (.array n e),.agg xs,.agg ys=>match H4 P e with
     | some s=>AK P d ((List.range n).map (A5h e s)) xs.toList ys.toList
     | none=>none
   | _,_,_=>none
def AK(P:Program):Nat->List Field->D2->D2->Option D2
 | 0,_,_,_=>none
 | _+1,[],_,_=>some []
 | d+1,f::fs,xs,ys =>
   bif f.name == "_" then none else
   match rT P f.type xs f.offset,rT P f.type ys f.offset with
   | some x,some y=>match eqS P d f.type x y,AK P d fs xs ys with
     | some a,some b=>some (a++b)
     | _,_=>none
   | _,_=>none
end
def JP(P:Program)(m:Mem)(op:BinOp)(t:TypeId)(x y:Operand)(a b:Value):Res :=
 bif mH P t x y a b then
  match op,eqS P 20 t a b with
  | .eql,some l=>U3 m 8 .eqs l
  | .neq,some l=>match U3 m 8 .eqs l with
    | some (h,m)=>U3 m 8 (.un .not) [h]
    | none=>none
  | _,_=>none
 else none
def j9(t:Nat):D2->Bool
 | []=>true
 | v::r=>Nat.beq (G8 v) t && j9 t r
def j8.sizeD(P:Program)(e:TypeId):Nat:=match H4 P e with|some n=>n|none=>0
def j8(P:Program)(m:Mem)(t:TypeId)(x i:Value):Res :=
 bif !(Nat.blt (G8 i) 8)then none else
 match P.underlying t with
 | some .string=>bif Nat.beq (G8 x) 9 then U3 m 4 .idx [x,i]else none
 | some (.array n e)=>match x,P.underlying e with
   | .agg cs,some (.int k)=>bif Nat.beq (cs.toList.length) n && j9 (iJ k) cs.toList && Nat.beq (j8.sizeD P e) 1 then U3 m (iJ k) .sel (i::cs.toList)else none
   | .agg cs,some .string=>bif Nat.beq (cs.toList.length) n && j9 9 cs.toList && Nat.beq (j8.sizeD P e) 1 then U3 m 9 .sel (i::cs.toList)else none
   | _,_=>none
 | _=>none
def lG(P:Program)(m:Mem)(t:TypeId)(x:Value)(a hi mx:Option Value):Res :=
 match P.underlying t,mx with
 | some .string,none=>bif Nat.beq (G8 x) 9 then
    match a,hi with
    | none,none=>some (x,m)
    | some l,none=>bif Nat.blt (G8 l) 8 then U3 m 9 .sub1 [x,l]else none
    | none,some h=>bif Nat.blt (G8 h) 8 then U3 m 9 .sub [x,.int .i64 0,h]else none
    | some l,some h=>bif Nat.blt (G8 l) 8 && Nat.blt (G8 h) 8 then U3 m 9 .sub [x,l,h]else none
   else none
 | _,_=>none
def JK(m:Mem)(op:UnOp)(x:Value):Res :=
 let t:=G8 x
 match op with
 | .not=>bif Nat.beq t 8 then U3 m 8 (.un .not) [x]else none
 | op=>bif Nat.blt t 8 then U3 m t (.un op) [x]else none
def qN(P:Program)(m:Mem)(s t:TypeId)(x:Value):Res :=
 match P.underlying s,P.underlying t with
 | some (.int _),some (.int k)=>bif Nat.blt (G8 x) 8 then U3 m (iJ k) (.conv k) [x]else none
 | some .string,some .string=>bif Nat.beq (G8 x) 9 then some (x,m)else none
 | _,_=>none
def eS(P:Program)(m:Mem)(b:Builtin)(vs:List Value)(tys:List TypeId):Res :=
 match b,vs,tys with
 | .len,[x],t::_=>match P.underlying t with
   | some .string=>bif Nat.beq (G8 x) 9 then U3 m 3 .len [x]else none
   | _=>none
 | .max,[x,y],_=>bif Nat.blt (G8 x) 8 && Nat.beq (G8 x) (G8 y)then U3 m (G8 x) .max [x,y]else none
 | .min,[x,y],_=>bif Nat.blt (G8 x) 8 && Nat.beq (G8 x) (G8 y)then U3 m (G8 x) .min [x,y]else none
 | _,_,_=>none
def XH(m:Mem)(a:Addr)(s n:Nat)(i:Value):Res :=
 bif !(Nat.blt (G8 i) 8)then none else
 match U3 m 8 .inb [i,.int .i64 (.ofNat n)]with
 | some (b,⟨H,k,W,hi,lg⟩)=>match brL lg b with
   | some (true,lg)=>some (ixp a s i n,⟨H,k,W,hi,lg⟩)
   | _=>none
 | none=>none
def eQ(P:Program)(m:Mem)(t:TypeId)(x i:Value):Res :=
 match P.underlying t,x with
 | some (.array n e),.pointer (some a)=>match H4 P e,a.spot with
   | some s,none=>XH m a s n i
   | _,_=>none
 | some (.slice e),.slice (some a) n c=>match H4 P e,a.spot with
   | some s,none=>bif Nat.beq c (N3+2)then none else XH m a s n i
   | _,_=>none
 | _,_=>none
def eR(P:Program)(m:Mem)(s:TypeId)(x:Value)(i:Nat):Res :=
 match x with
 | .func (.yield 1) ⟨[.pointer (some a),.int .i64 (.ofNat k),j,.int .i64 (.ofNat n)]⟩ ⟨[]⟩=>match P.underlying s with
   | some (.struct fs)=>match fs.toList[i]?,a.spot with
     | some f,none=>match H4 P f.type with
       | some (_+1)=>some (ixp (bV a f.offset) k j n,m)
       | _=>none
     | _,_=>none
   | _=>none
 | _=>none
def xA(cs:List Value)(s o:Nat):Nat->Option D2
 | 0=>some []
 | n+1=>match cs[o]?,xA cs s (o+s) n with
   | some v,some r=>some (v::r)
   | _,_=>none
def cS(m:Mem)(cs:List Value)(s n:Nat)(i:Value):Nat->Nat->Option (D2×Mem)
 | _,0=>some ([],m)
 | o,k+1=>match xA cs s o n with
   | some (v::l)=>bif j9 (G8 v) (v::l) && Nat.blt (G8 v) 10 then match U3 m (G8 v) .sel (i::v::l)with
     | some (h,m)=>match cS m cs s n i (o+1) k with
       | some (r,m)=>some (h::r,m)
       | none=>none
     | none=>none else none
   | _=>none
def qM(P:Program)(m:Mem)(t:TypeId)(x:Value):Res :=
 match x with
 | .func (.yield 1) ⟨[.pointer (some a),.int .i64 (.ofNat s),i,.int .i64 (.ofNat n)]⟩ ⟨[]⟩ =>
   match aY P t,H4 P t with
   | some false,_=>match v6 m a ((n-1)*s+1)with
     | some cs=>match cS m cs s n i 0 1 with
       | some ([h],m)=>some (h,m)
       | _=>none
     | none=>none
   | some true,some z=>match v6 m a ((n-1)*s+z)with
     | some cs=>match cS m cs s n i 0 z with
       | some (hs,m)=>some (.agg ⟨hs⟩,m)
       | none=>none
     | none=>none
   | _,_=>none
 | _=>none
def wZ(m:Mem)(c a b:Value):Res :=
 match m with
 | ⟨H,n,W,hi,lg⟩=>match brL lg c with
   | some (true,lg)=>some (a,⟨H,n,W,hi,lg⟩)
   | some (false,lg)=>some (b,⟨H,n,W,hi,lg⟩)
   | none=>none
def YU(P:Program)(fr:Fr)(m:Mem)(o:Op):Res :=
 match o with
 | .pick c a b=>wZ m (ev fr c) (ev fr a) (ev fr b)
 | .binOp op t x y _=>match oV P m op t (ev fr x) (ev fr y)with
   | some r=>some r
   | none=>JP P m op t x y (ev fr x) (ev fr y)
 | .unOp op _ x=>JK m op (ev fr x)
 | .convert s t x=>qN P m s t (ev fr x)
 | .slice t x d hi mx=>lG P m t (ev fr x) (evO fr d) (evO fr hi) (evO fr mx)
 | .index t x i=>j8 P m t (ev fr x) (ev fr i)
 | .indexAddr t x i=>eQ P m t (ev fr x) (ev fr i)
 | .fieldAddr s x i=>eR P m s (ev fr x) i
 | .load t x=>qM P m t (ev fr x)
 | .call ⟨.builtin b,xs,tys⟩=>eS P m b (evL fr xs.toList) tys.toList
 | _=>none
def pI(m:Mem)(b:Nat):Bool :=
 match Hp.get m.H b with
 | some .frz=>Nat.ble b I2
 | _=>false
def OX{α:Type}(l:List α):Nat->List α
 | 0=>[]
 | n+1=>l++OX l n
mutual
def YQ(P:Program):Nat->TypeId->Option H6
 | 0,_=>none
 | d+1,t=>match P.underlying t with
   | some .bool=>some [8]
   | some (.int k)=>some [iJ k]
   | some .string=>some [9]
   | some (.slice e)=>match H4 P e with
     | some w=>some [10+w]
     | none=>none
   | some (.struct fs)=>A5u P d fs.toList
   | some (.array n e)=>match YQ P d e with
     | some l=>some (OX l n)
     | none=>none
   | _=>none
def A5u(P:Program):Nat->List Field->Option H6
 | 0,_=>none
 | _+1,[]=>some []
 | d+1,f::fs=>match YQ P d f.type,A5u P d fs with
   | some a,some b=>some (a++b)
   | _,_=>none
end
def lF(P:Program)(t:TypeId):Option H6 :=
 match YQ P 30 t,H4 P t with
 | some l,some n=>bif Nat.beq l.length n then some l else none
 | _,_=>none
def Y3.letDo(t:Nat)(op:LOp)(xs:List Value)(m:Mem)(k:Nat->Mem->Option (D2×Mem)):Option (D2×Mem) :=
 match m with
 | ⟨H,n,W,hi,⟨nx,pi,log⟩⟩=>K0 nx fun nx=>K0 t fun t=>R8 xs fun xs=>k nx ⟨H,n,W,hi,⟨Nat.succ nx,pi,.dt nx t op xs::log⟩⟩
def Y3(w o i t:Nat)(z:Value)(g:Nat):H6->Nat->Mem->Option (D2×Mem)
 | [],_,m=>some ([],m)
 | tg::ts,j,m=>bif Nat.blt tg 10 then
    match U3 m tg (.get w (o+j)) [hole i t,z]with
    | some (h,m)=>match Y3 w o i t z g ts (j+1) m with
      | some (r,m)=>some (h::r,m)
      | none=>none
    | none=>none
   else Y3.letDo tg (.get w (o+j)) [hole i t,z] m fun nx m=>match Y3 w o i t z g ts (j+1) m with
     | some (r,m)=>some (dat g nx tg::r,m)
     | none=>none
def mT(P:Program)(t:TypeId)(r:Option (D2×Mem)):Res :=
 match aY P t,r with
 | some false,some ([v],m)=>some (v,m)
 | some true,some (vs,m)=>some (.agg ⟨vs⟩,m)
 | _,_=>none
def LM(P:Program)(m:Mem)(t:TypeId)(x:Value):Res :=
 match x,lF P t with
 | .func (.yield 5) ⟨[.pointer (some ⟨b,0,none⟩),.complex .f64 i tg,z,.int .i64 (.ofNat o)]⟩ ⟨[]⟩,some ts =>
   bif pI m b then mT P t (Y3 (tg-10) o i tg z b ts 0 m)else none
 | .func (.yield 6) ⟨[.pointer (some ⟨b,0,none⟩),.complex .f64 i tg,z,.int .i64 (.ofNat o)]⟩ ⟨[]⟩,some ts =>
   match Hp.get m.H b with
   | some (.sq c tc T g ro)=>bif Nat.beq tc tg then mT P t (Y3 (tg-10) o c tg z g ts 0 m)else none
   | _=>none
 | _,_=>none
def LZ(m:Mem)(i t:Nat)(z:Value)(k:Value):Res :=
 bif !(Nat.blt (G8 z) 8)then none else
 match U3 m 8 (.inbs (t-10)) [z,hole i t]with
 | some (b,⟨H,n,W,hi,lg⟩)=>match brL lg b with
   | some (true,lg)=>some (k,⟨H,n,W,hi,lg⟩)
   | _=>none
 | none=>none
def mG(P:Program)(m:Mem)(t:TypeId)(x z:Value):Res :=
 match P.underlying t,x with
 | some (.slice e),.func (.yield 4) ⟨[.pointer (some ⟨b,0,none⟩),.complex .f64 i tg]⟩ ⟨[]⟩=>match H4 P e with
   | some (s+1)=>bif Nat.beq tg (10+(s+1))then LZ m i tg z (opt b i tg z 0)else none
   | _=>none
 | some (.slice e),.func (.yield 2) ⟨[.pointer (some ⟨b,0,none⟩),.complex .f64 i tg]⟩ ⟨[]⟩=>match H4 P e with
   | some (s+1)=>bif Nat.beq tg (10+(s+1))then LZ m i tg z (dpt b i tg z 0)else none
   | _=>none
 | some (.slice e),.func (.yield 3) ⟨[.pointer (some ⟨b,0,none⟩),.complex .f64 i tg]⟩ ⟨[]⟩=>match H4 P e with
   | some (s+1)=>bif Nat.beq tg (10+(s+1))then LZ m i tg z (dpt b i tg z 0)else none
   | _=>none
 | some (.array n e),.func (.yield 5) ⟨[.pointer (some ⟨b,0,none⟩),.complex .f64 i tg,y,.int .i64 (.ofNat o)]⟩ ⟨[]⟩=>match H4 P e,z with
   | some s,.int _ (.ofNat k)=>bif Nat.blt k n && Nat.blt (o+k*s) (tg-10)then some (K0 (o+k*s) fun o=>dpt b i tg y o,m)else none
   | _,_=>none
 | some (.array n e),.func (.yield 6) ⟨[.pointer (some ⟨b,0,none⟩),.complex .f64 i tg,y,.int .i64 (.ofNat o)]⟩ ⟨[]⟩=>match H4 P e,z with
   | some s,.int _ (.ofNat k)=>bif Nat.blt k n && Nat.blt (o+k*s) (tg-10)then some (K0 (o+k*s) fun o=>opt b i tg y o,m)else none
   | _,_=>none
 | _,_=>none
def mK(P:Program)(m:Mem)(s:TypeId)(x:Value)(f:Nat):Res :=
 match P.underlying s,x with
 | some (.struct fs),.func (.yield 5) ⟨[.pointer (some ⟨b,0,none⟩),.complex .f64 i tg,y,.int .i64 (.ofNat o)]⟩ ⟨[]⟩=>match fs.toList[f]? with
   | some fd=>match H4 P fd.type with
     | some (_+1)=>bif Nat.blt (o+fd.offset) (tg-10)then some (K0 (o+fd.offset) fun o=>dpt b i tg y o,m)else none
     | _=>none
   | none=>none
 | some (.struct fs),.func (.yield 6) ⟨[.pointer (some ⟨b,0,none⟩),.complex .f64 i tg,y,.int .i64 (.ofNat o)]⟩ ⟨[]⟩=>match fs.toList[f]? with
   | some fd=>match H4 P fd.type with
     | some (_+1)=>bif Nat.blt (o+fd.offset) (tg-10)then some (K0 (o+fd.offset) fun o=>opt b i tg y o,m)else none
     | _=>none
   | none=>none
 | _,_=>none
def sY(i:Nat):List n7->Option Nat
 | []=>none
 | .lt j t .len [.complex .f64 k _]::r=>bif Nat.beq k i && Nat.beq t 3 then some j else sY i r
 | _::r=>sY i r
def GY(m:Mem)(i t:Nat):Res :=
 match sY i m.lg.log with
 | some j=>some (hole j 3,m)
 | none=>U3 m 3 .len [hole i t]
def A4n(P:Program)(m:Mem)(t:TypeId)(x:Value):Res :=
 match P.underlying t,x with
 | some (.slice _),.func (.yield 2) ⟨[.pointer (some ⟨b,0,none⟩),.complex .f64 i tg]⟩ ⟨[]⟩=>GY m i tg
 | some (.slice _),.func (.yield 3) ⟨[.pointer (some ⟨b,0,none⟩),.complex .f64 i tg]⟩ ⟨[]⟩=>GY m i tg
 | some (.slice _),.func (.yield 4) ⟨[.pointer (some ⟨b,0,none⟩),.complex .f64 i tg]⟩ ⟨[]⟩=>GY m i tg
 | _,_=>none
def gW(m:Mem)(k:Nat->Mem->Option (Value×Nat×Mem)):Option (Value×Nat×Mem) :=
 match m with
 | ⟨H,n,W,hi,lg⟩=>bif Nat.ble n I2 then K0 n fun n=>K0 (upN hi n) fun hi=>Hp.put H n (some .frz) fun H=>k n ⟨H,Nat.succ n,W,hi,lg⟩else none
def toD(t:Nat)(v:Value)(m:Mem):Option (Value×Nat×Mem) :=
 match v with
 | .func (.yield 2) ⟨[.pointer (some ⟨b,0,none⟩),.complex .f64 i tg]⟩ ⟨[]⟩=>bif Nat.beq tg t && pI m b then some (hole i tg,b,m)else none
 | .func (.yield 3) ⟨[.pointer (some ⟨b,0,none⟩),.complex .f64 i tg]⟩ ⟨[]⟩=>bif Nat.beq tg t && pI m b then some (hole i tg,b,m)else none
 | .func (.yield 4) ⟨[.pointer (some ⟨b,0,none⟩),.complex .f64 i tg]⟩ ⟨[]⟩=>match Hp.get m.H b with
   | some (.sq c tc T g true)=>bif (Nat.beq tg t && Nat.beq tc t) && pI m g then gW m fun b' m=>some (hole c tc,b',m)else none
   | some (.sq c tc T g false)=>bif (Nat.beq tg t && Nat.beq tc t) && pI m g then match cQ m b (.sq c tc T g true)with
     | some m=>gW m fun b' m=>some (hole c tc,b',m)
     | none=>none else none
   | _=>none
 | .slice none 0 0=>bif Nat.ble 10 t then(match wR m t (.nilw (t-10)) [] fun nx m=>some (hole nx t,m)with
   | some (h,m)=>gW m fun b' m=>some (h,b',m)
   | none=>none)else none
 | _=>none
abbrev Td:=Nat->Value->Mem->Option (Value×Nat×Mem)
def BM(a:Td):H6->D2->Mem->Option (D2×H6×Mem)
 | [],[],m=>some ([],[],m)
 | t::ts,v::vs,m=>bif Nat.blt t 10 then
    bif Nat.beq (G8 v) t then match BM a ts vs m with
     | some (r,gs,m)=>some (v::r,gs,m)
     | none=>none else none
   else match a t v m with
    | some (h,b,m)=>match BM a ts vs m with
      | some (r,gs,m)=>some (h::r,b::gs,m)
      | none=>none
    | none=>none
 | _,_,_=>none
def kK(gs:List Nat)(m:Mem):Option (Nat×Mem) :=
 match gs with
 | [g]=>bif pI m g then some (g,m)else none
 | gs=>bif gs.all (pI m)then match gW m fun b m=>some (undef,b,m)with
   | some (_,b,m)=>some (b,m)
   | none=>none else none
def SF:Value->Value->Bool
 | .complex .f64 i _,.complex .f64 j _=>Nat.beq i j
 | .int k a,.int j b=>vD k j && CF a b
 | _,_=>false
def zV(v:Value):Bool:=Nat.blt (G8 v) 8
def gM(m:Mem)(b i t:Nat)(l h:Value)(c:Bool):Res:=bif zV l && zV h then wR m t (.subs (t-10)) [hole i t,l,h] fun nx m=>some (bif c then clp b nx t else dat b nx t,m)else none
def MT(m:Mem)(b i t:Nat)(cl:Bool)(l:Value)(hi mx:Option Value):Res :=
 match hi,mx with
 | some h,none=>gM m b i t l h false
 | some h,some x=>bif SF h x then gM m b i t l h true else none
 | none,none=>match GY m i t with
   | some (h,m)=>gM m b i t l h cl
   | none=>none
 | none,some _=>none
def B0t(a:Option Value):Value :=
 match a with
 | some l=>l
 | none=>.int .i64 0
def MU(m:Mem)(b i t:Nat)(cl:Bool)(a hi mx:Option Value):Res:=MT m b i t cl (B0t a) hi mx
def yC(P:Program)(m:Mem)(t:TypeId)(x:Value)(a hi mx:Option Value):Res :=
 match P.underlying t,x with
 | some (.slice e),.func (.yield 2) ⟨[.pointer (some ⟨b,0,none⟩),.complex .f64 i tg]⟩ ⟨[]⟩=>match H4 P e with
   | some s=>bif Nat.beq tg (10+s)then MU m b i tg false a hi mx else none
   | none=>none
 | some (.slice e),.func (.yield 3) ⟨[.pointer (some ⟨b,0,none⟩),.complex .f64 i tg]⟩ ⟨[]⟩=>match H4 P e with
   | some s=>bif Nat.beq tg (10+s)then MU m b i tg true a hi mx else none
   | none=>none
 | some (.slice e),.func (.yield 4) ⟨[.pointer (some ⟨b,0,none⟩),.complex .f64 i tg]⟩ ⟨[]⟩=>match H4 P e with
   | some s=>bif Nat.beq tg (10+s)then match toD tg x m with
     | some (.complex .f64 c _,b',m)=>MU m b' c tg false a hi mx
     | _=>none else none
   | none=>none
 | _,_=>none
inductive Beh where
 | cells (xs:List Value)
 | rows (x:Value)
 | str (x:Value)
def dR(w:Nat)(c:Value):Beh->LOp×D2
 | .cells xs=>(.snoc w,c::xs)
 | .rows x=>(.cat w,[c,x])
 | .str x=>(.cats,[c,x])
def A3S(c:Td)(P:Program)(m:Mem)(e:TypeId)(w:Nat)(y:Value):Option (Beh×H6×Bool×Mem) :=
 match y with
 | .slice none 0 _=>some (.cells [],[],false,m)
 | .slice (some a) n _=>match v6 m a (n*w),lF P e with
   | some cs,some ts=>match BM c (OX ts n) cs m with
     | some (xs,gs,m)=>some (.cells xs,gs,Nat.blt 0 n,m)
     | none=>none
   | _,_=>none
 | .func _ _ _=>match c (10+w) y m with
   | some (x,b,m)=>some (.rows x,[b],false,m)
   | none=>none
 | y=>bif Nat.beq (G8 y) 9 && Nat.beq w 1 then some (.str y,[],false,m)else none
def EY(a:Td)(P:Program)(m:Mem)(e:TypeId)(w:Nat)(x:Value):Option (Nat×H6×Option Nat×Mem) :=
 match x with
 | .slice none 0 0=>match wR m (10+w) (.nilw w) [] fun nx m=>some (hole nx (10+w),m)with
   | some (.complex .f64 c _,m)=>some (c,[],none,m)
   | _=>none
 | .func (.yield 4) ⟨[.pointer (some ⟨b,0,none⟩),.complex .f64 i tg]⟩ ⟨[]⟩=>match Hp.get m.H b with
   | some (.sq c tc T g false)=>bif (Nat.beq tg (10+w) && Nat.beq tc tg) && (Nat.beq T e && Nat.ble b I2)then some (c,[g],some b,m)else none
   | _=>none
 | .slice (some ⟨b,0,none⟩) n c=>match Hp.get m.H b,lF P e with
   | some (.cells cs _ _),some ts=>bif Nat.beq cs.length (n*w) && (Nat.beq c n && Nat.blt c N3 || Nat.beq c N3)then match BM a (OX ts n) cs m with
     | some (xs,gs,m)=>match Hp.get m.H b with
       | some (.cells _ T false)=>bif Nat.beq T e && Nat.ble b I2 then match wR m (10+w) (.mk w) xs fun nx m=>some (hole nx (10+w),m)with
         | some (.complex .f64 c _,m)=>some (c,gs,some b,m)
         | _=>none else none
       | _=>none
     | none=>none else none
   | _,_=>none
 | _=>none
def bQ(m:Mem)(c t:Nat)(T:TypeId)(g:Nat):Res:=Z4 m (.sq c t T g false) fun b=>own b c t
def YC(P:Program)(e:TypeId)(n:Nat):Bool :=
 match fX P e with
 | some z=>Nat.beq z.cells.size n
 | none=>false
def kH(old:Option Nat)(m:Mem):Mem :=
 match old with
 | some b=>kJ m b
 | none=>m
def WU(a:Td)(P:Program)(m:Mem)(e:TypeId)(w:Nat)(x:Value):Res :=
 match P.info? e with
 | some inf=>bif Nat.beq inf.size w && Nat.blt 0 w then match EY a P m e w x with
   | some (c,gs,old,m)=>match kK gs m with
     | some (g,m)=>bQ (kH old m) c (10+w) e g
     | none=>none
   | none=>none else none
 | none=>none
def YM(P:Program):Nat->Td
 | 0=>toD
 | d+1=>fun t v m=>match v with
   | .slice (some ⟨b,0,none⟩) _ _=>match Hp.get m.H b with
     | some (.cells _ T _)=>match WU (YM P d) P m T (t-10) v with
       | some (x,m)=>toD t x m
       | none=>none
     | _=>none
   | v=>toD t v m
def tdP(P:Program):Td:=YM P 3
def KS(m:Mem)(e:TypeId)(w c:Nat)(old:Option Nat)(a:Beh)(gs:List Nat):Res :=
 match kK gs m with
 | some (g,m)=>wR m (10+w) (dR w (hole c (10+w)) a).1 (dR w (hole c (10+w)) a).2 fun nx m=>bQ (kH old m) nx (10+w) e g
 | none=>none
def tK(P:Program)(m:Mem)(t t2:TypeId)(x y:Value):Res :=
 match P.underlying t,P.underlying t2 with
 | some (.slice e),some d2=>bif !(dJ d2)then none else
   match P.info? e with
   | some i=>bif (Nat.ble i.bytes 90000 && Nat.blt 0 i.size) && YC P e i.size then
     match A3S (tdP P) P m e i.size y with
     | some (bh,gs,sure,m)=>match EY (tdP P) P m e i.size x with
       | some (c,g0,old,m)=>KS m e i.size c old bh (g0++gs)
       | none=>match x,sure with
         | .func (.yield 3) ⟨[.pointer (some ⟨b,0,none⟩),.complex .f64 c tg]⟩ ⟨[]⟩,true=>bif Nat.beq tg (10+i.size)then KS m e i.size c none bh (b::gs)else none
         | _,_=>none
     | none=>none else none
   | none=>none
 | _,_=>none
def yA(P:Program)(m:Mem)(t:TypeId)(x v:Value):Res :=
 match x,lF P t with
 | .func (.yield 6) ⟨[.pointer (some ⟨b,0,none⟩),.complex .f64 i tg,z,.int .i64 (.ofNat o)]⟩ ⟨[]⟩,some ts=>bif jM v then none else
   match BM (tdP P) ts v.cells.toList m with
   | some (xs,gs,m)=>match Hp.get m.H b with
     | some (.sq c tc T g false)=>bif Nat.beq tc tg then match kK (g::gs) m with
       | some (g,m)=>match wR m tg (.set (tg-10) o) (hole c tg::z::xs) fun nx m=>some (hole nx tg,m)with
         | some (.complex .f64 nx _,m)=>PM (cQ m b (.sq nx tg T g false))
         | _=>none
       | none=>none else none
     | _=>none
   | none=>none
 | _,_=>none
def A64(m m1:Mem):Mem :=
 match m,m1 with
 | ⟨H,n,W,_,_⟩,⟨_,_,_,hi,lg⟩=>⟨H,n,W,hi,lg⟩
def MY(P:Program)(m:Mem)(s t:TypeId)(x:Value):Res :=
 match P.underlying s,P.underlying t,x with
 | some (.slice e),some .string,.slice (some a) n _=>match P.underlying e with
   | some (.int .u8)=>match v6 m a n with
     | some cs=>bif j9 4 cs then U3 m 9 .mks cs else none
     | none=>none
   | _=>none
 | some (.slice e),some .string,.func _ _ _=>match P.underlying e with
   | some (.int .u8)=>match toD 11 x m with
     | some (h,_,m1)=>U3 (A64 m m1) 9 .str [h]
     | none=>none
   | _=>none
 | some _,some (.slice e),x=>bif Nat.beq (G8 x) 9 then match P.underlying e with
   | some (.int .u8)=>match H4 P e with
     | some 1=>match kK [] m with
       | some (g,m)=>match wR m 11 .byt [x] fun nx m=>some (hole nx 11,m)with
         | some (.complex .f64 nx _,m)=>bQ m nx 11 e g
         | _=>none
       | none=>none
     | _=>none
   | _=>none else none
 | _,_,_=>none
def A2Q:Value->Bool
 | .slice none 0 0=>true
 | _=>false
def A09(P:Program)(m:Mem)(op:BinOp)(t:TypeId)(x y:Operand)(a b:Value):Res :=
 match P.underlying t,a with
 | some (.slice _),.func (.yield k) ⟨[.pointer (some ⟨_,0,none⟩),.complex .f64 i tg]⟩ ⟨[]⟩=>bif A2Q b && isC y && (Nat.beq k 2 || Nat.beq k 3 || Nat.beq k 4)then
   match op,U3 m 8 .nilp [hole i tg]with
   | .eql,some r=>some r
   | .neq,some (h,m)=>U3 m 8 (.un .not) [h]
   | _,_=>none else none
 | _,_=>none
def LH(P:Program)(m:Mem)(t:TypeId)(l c:Value):Res :=
 match P.underlying t,l,c with
 | some (.slice e),.complex .f64 i ti,.complex .f64 j tj=>bif (Nat.beq i j && Nat.beq ti 3) && Nat.beq tj 3 then
   match P.info? e with
   | some inf=>bif Nat.ble inf.bytes 90000 && Nat.blt 0 inf.size then
     match fX P e with
     | some z=>bif Nat.beq z.cells.size inf.size && z.cells.toList.all (fun z=>Nat.blt (G8 z) 10)then
       match kK [] m with
       | some (g,m)=>match wR m (10+inf.size) (.rep inf.size) (hole i 3::z.cells.toList) fun nx m=>some (hole nx (10+inf.size),m)with
         | some (.complex .f64 nx _,m)=>bQ m nx (10+inf.size) e g
         | _=>none
       | none=>none else none
     | none=>none else none
   | none=>none else none
 | _,_,_=>none
def dsM(P:Program)(fr:Fr)(m:Mem)(o:Op):Res :=
 match o with
 | .makeSlice t l c=>LH P m t (ev fr l) (ev fr c)
 | .load t x=>LM P m t (ev fr x)
 | .store t x y=>yA P m t (ev fr x) (ev fr y)
 | .indexAddr t x i=>mG P m t (ev fr x) (ev fr i)
 | .fieldAddr s x i=>mK P m s (ev fr x) i
 | .slice t x a hi mx=>yC P m t (ev fr x) (evO fr a) (evO fr hi) (evO fr mx)
 | .convert s t x=>MY P m s t (ev fr x)
 | .binOp op t x y _=>A09 P m op t x y (ev fr x) (ev fr y)
 | .call ⟨.builtin .len,xs,tys⟩=>match evL fr xs.toList,tys.toList with
   | [x],t::_=>A4n P m t x
   | _,_=>none
 | .call ⟨.builtin .append,xs,tys⟩=>match evL fr xs.toList,tys.toList with
   | [x,y],t::t2::_=>tK P m t t2 x y
   | _,_=>none
 | _=>none
def VG(P:Program)(m:Mem)(s t:TypeId)(x:Value):Res :=
 match P.underlying s,P.underlying t,x with
 | some (.pointer e),some .unsafePointer,.pointer (some ⟨b,o,none⟩)=>match H4 P e,Hp.get m.H b with
   | some (_+1),some (.cells cs _ _)=>bif Nat.blt o cs.length then some (x,m)else none
   | _,_=>none
 | some .unsafePointer,some (.pointer u),.pointer (some ⟨b,0,none⟩)=>match H4 P u,Hp.get m.H b with
   | some (k+1),some (.cells cs T false)=>bif Nat.beq T u && Nat.beq cs.length (k+1)then some (x,m)else none
   | _,_=>none
 | some (.slice _),some (.slice e),.slice (some ⟨b,o,none⟩) n c=>bif Nat.beq s t && !(Nat.beq c (N3+2))then match P.underlying e,Hp.get m.H b with
   | some (.int .u8),some (.cells cs T false)=>match cQ m b (.cells cs T false)with
     | some m1=>some (x,m1)
     | none=>none
   | _,_=>none else none
 | _,_,_=>none
def SV(P:Program)(m:Mem)(op:BinOp)(t:TypeId)(a b:Value):Res :=
 match P.underlying t,a,b with
 | some (.pointer e),.pointer (some ⟨b1,o1,none⟩),.pointer (some ⟨b2,o2,none⟩)=>bif Nat.beq b1 b2 && Nat.beq o1 o2 then match P.info? e,op with
   | some _,.eql=>some (.bool true,m)
   | some _,.neq=>some (.bool false,m)
   | _,_=>none else none
 | _,_,_=>none
def sdM(P:Program)(m:Mem)(ty:TypeId)(x:Value):Res :=
 match P.underlying ty with
 | some (.pointer _)=>match x with
  | .func (.yield 4) ⟨[.pointer (some ⟨b,0,none⟩),.complex .f64 i t]⟩ ⟨[]⟩=>match Hp.get m.H b with
   | some (.sq _ _ _ _ _)=>some (sdt b,m)
   | _=>none
  | _=>none
 | _=>none
def usM(P:Program)(m:Mem)(a:TypeId)(p l:Value):Res :=
 match p with
 | .func (.yield 9) ⟨[.pointer (some ⟨b,0,none⟩)]⟩ ⟨[]⟩=>bif Nat.blt (G8 l) 8 then match Hp.get m.H b,P.underlying a with
   | some (.sq c tc T g false),some (.pointer e)=>bif Nat.beq e T && Nat.beq tc 11 then match H4 P T,U3 m 9 .ustr [hole c tc,l]with
     | some 1,some (v,m)=>match cQ m b (.sq c tc T g true)with
       | some m=>some (v,m)
       | none=>none
     | _,_=>none else none
   | _,_=>none else none
 | _=>none
def gB(P:Program)(t:TypeId):Option Nat :=
 match P.underlying t with
 | some .bool=>some 8
 | some (.int k)=>some (iJ k)
 | some .string=>some 9
 | _=>none
def vX(P:Program):List Field->Nat->Option H6
 | [],_=>some []
 | f::r,i=>match gB P f.type,vX P r (i+1)with
   | some t,some l=>bif !(f.name == "_") && Nat.beq f.offset i then some (t::l)else none
   | _,_=>none
def oQ(P:Program)(t:TypeId):Option (Bool×List Nat) :=
 match P.underlying t with
 | some (.struct fs)=>bif P.stoodInHeld t then none else match vX P fs.toList 0 with
   | some l=>some (true,l)
   | none=>none
 | _=>match gB P t with
   | some k=>some (false,[k])
   | none=>none
def RU(P:Program)(t:TypeId):Option (Bool×List Nat) :=
 match aY P t,lF P t with
 | some true,some l=>bif l.all (fun k=>Nat.blt k 10)then some (true,l)else none
 | some false,some [k]=>bif Nat.blt k 10 then some (false,[k])else none
 | _,_=>none
structure MTy where
 kt:TypeId
 vt:TypeId
 ka:Bool
 ks:H6
 va:Bool
 vs:H6
def MTy.w(y:MTy):Nat:=y.ks.length+y.vs.length
def WX(P:Program)(T:TypeId):Option MTy :=
 match P.underlying T with
 | some (.map kt vt)=>match oQ P kt,RU P vt with
   | some (ka,k::ks),some (va,vs)=>some ⟨kt,vt,ka,k::ks,va,vs⟩
   | _,_=>none
 | _=>none
def AI:H6->D2->Bool
 | [],[]=>true
 | t::ts,v::vs=>Nat.beq (G8 v) t && AI ts vs
 | _,_=>false
def oF(a:Bool)(ts:List Nat)(v:Value):Option D2 :=
 match a,v with
 | true,.agg cs=>bif AI ts cs.toList then some cs.toList else none
 | true,_=>none
 | false,v=>bif AI ts [v]then some [v]else none
def A3X(a:Bool)(vs:List Value):R1 :=
 match a,vs with
 | true,vs=>some (.agg ⟨vs⟩)
 | false,[v]=>some v
 | false,_=>none
def A1F(P:Program)(m:Mem)(T:TypeId):Res :=
 match WX P T with
 | some y=>wR m (10+y.w) (.mk y.w) [] fun nx m=>Z4 m (.mp nx (10+y.w) T) fun b=>.map (some b)
 | none=>none
def uK(w kw c t:Nat)(a:List Value):H6->D2->Nat->Mem->Option (D2×Mem)
 | [],[],_,m=>some ([],m)
 | tg::ts,z::zs,j,m=>match U3 m tg (.mget w kw j) (hole c t::z::a)with
   | some (h,m)=>match uK w kw c t a ts zs (j+1) m with
     | some (r,m)=>some (h::r,m)
     | none=>none
   | none=>none
 | _,_,_,_=>none
def zJ(P:Program)(m:Mem)(T:TypeId)(x k:Value)(ok:Bool):Res :=
 match x,WX P T with
 | .map (some r),some y=>match Hp.get m.H r,oF y.ka y.ks k,fX P y.vt with
   | some (.mp c t T2),some kc,some z=>bif Nat.beq T2 T then match oF y.va y.vs z with
     | some a=>match uK y.w y.ks.length c t kc y.vs a y.ks.length m with
       | some (hs,m)=>match A3X y.va hs with
         | some v=>bif ok then match U3 m 8 (.mhas y.w y.ks.length) (hole c t::kc)with
            | some (b,m)=>some (.tuple ⟨[v,b]⟩,m)
            | none=>none
           else some (v,m)
         | none=>none
       | none=>none
     | none=>none else none
   | _,_,_=>none
 | _,_=>none
def DF(P:Program)(m:Mem)(T:TypeId)(x k v:Value):Res :=
 match x,WX P T with
 | .map (some r),some y=>match Hp.get m.H r,oF y.ka y.ks k,oF y.va y.vs v with
   | some (.mp c t T2),some kc,some vc=>bif Nat.beq T2 T then wR m t (.mput y.w y.ks.length) (hole c t::(kc++vc)) fun nx m=>PM (cQ m r (.mp nx t T))else none
   | _,_,_=>none
 | _,_=>none
def LO(P:Program)(m:Mem)(T:TypeId)(x:Value):Res :=
 match P.underlying T,x with
 | some (.map _ _),.map (some r)=>match Hp.get m.H r with
   | some (.mp c t _)=>GY m c t
   | _=>none
 | _,_=>none
def yS(P:Program)(m:Mem)(t:TypeId)(x:Value):Res :=
 match P.underlying t with
 | some .string=>bif Nat.beq (G8 x) 9 then Z4 m (.iter [x,.int .i64 (.ofNat 0)]) fun b=>.pointer (some ⟨b,0,none⟩)else none
 | _=>none
def IE:Value->Value->Option (ByteArray×Nat)
 | .string s,.int .i64 (.ofNat k)=>some (s,k)
 | _,_=>none
def LE(m:Mem)(x:Value):Res :=
 match x with
 | .pointer (some ⟨r,0,none⟩)=>match Hp.get m.H r with
   | some (.iter [s,p])=>match IE s p with
     | some (b,k)=>bif Nat.blt k b.data.toList.length then K0 (k+(Utf8.decode b k).2) fun a=>match cQ m r (.iter [s,.int .i64 (.ofNat a)])with
        | some m=>K0 (Utf8.decode b k).1 fun c=>some (.tuple ⟨[.bool true,p,.int .i32 (.ofNat c)]⟩,m)
        | none=>none
       else some (.tuple ⟨[.bool false]⟩,m)
     | none=>bif Nat.beq (G8 s) 9 && Nat.beq (G8 p) 3 then match U3 m 3 .len [s]with
       | some (h,m)=>match U3 m 8 (.bin .lss) [p,h]with
         | some (c,⟨H,n,W,hi,lg⟩)=>match brL lg c with
           | some (true,lg)=>match U3 ⟨H,n,W,hi,lg⟩ 2 .rune [s,p]with
             | some (y,m)=>match U3 m 3 .rpos [s,p]with
               | some (q,m)=>match cQ m r (.iter [s,q])with
                 | some m=>some (.tuple ⟨[.bool true,p,y]⟩,m)
                 | none=>none
               | none=>none
             | none=>none
           | some (false,lg)=>some (.tuple ⟨[.bool false]⟩,⟨H,n,W,hi,lg⟩)
           | none=>none
         | none=>none
       | none=>none else none
   | _=>none
 | _=>none
def xtM(P:Program)(fr:Fr)(m:Mem)(o:Oper):Res :=
 match o.op with
 | .convert s t x=>VG P m s t (ev fr x)
 | .binOp op t x y _=>SV P m op t (ev fr x) (ev fr y)
 | .call ⟨.builtin .unsafeSliceData,xs,_⟩=>match evL fr xs.toList with
   | [x]=>sdM P m o.type x
   | _=>none
 | .call ⟨.builtin .unsafeString,xs,tys⟩=>match evL fr xs.toList,tys.toList with
   | [p,l],t::_=>usM P m t p l
   | _,_=>none
 | .makeMap t none=>A1F P m t
 | .lookup t x k ok=>zJ P m t (ev fr x) (ev fr k) ok
 | .range t x=>yS P m t (ev fr x)
 | .next x true=>LE m (ev fr x)
 | .mapUpdate t x k v=>DF P m t (ev fr x) (ev fr k) (ev fr v)
 | .insert t x k v=>DF P m t (ev fr x) (ev fr k) (ev fr v)
 | .call ⟨.builtin .len,xs,tys⟩=>match evL fr xs.toList,tys.toList with
   | [x],t::_=>LO P m t x
   | _,_=>none
 | _=>none
inductive EK where
 | noEscape|makeNoZero (e:TypeId)|indexByteString|countString|indexString|copyString
 deriving DecidableEq
def MN:List (FuncId×EK)->FuncId->Option EK
 | [],_=>none
 | (g,k)::r,f=>bif Nat.beq g f then some k else MN r f
structure FnC where
 run:D2->Mem->Res
structure P1 where
 fn:FuncId->FnC
 yl:FnC
def nW:Value->Bool
 | .tuple ⟨[]⟩=>true
 | _=>false
def IU(lg:Lg)(v:Value)(b:Bool):Option (Bool×Lg) :=
 match v with
 | .bool c=>some (c == b,lg)
 | .complex k i t=>match brL lg (.complex k i t)with
   | some (c,lg)=>some (c == b,lg)
   | none=>none
 | v=>bif nW v then some (false,lg)else none
def bO(nt:Nat)(fr:Fr)(lg:Lg)(ops:List Oper)(o:Oper):Option (Bool×Lg) :=
 match o.guard with
 | none=>some (true,lg)
 | some (j,b)=>match ops[j]? with
   | some p=>match p.dst with
     | some t=>bif Nat.blt t nt then IU lg (fr.get t) b else none
     | none=>none
   | none=>none
def xL(v:Value)(vs:List Value):Option (FuncId×List Value) :=
 match v with
 | .func (.func f) a b=>some (f,a.toList++(vs++b.toList))
 | _=>none
def eM(v:Value):Option Nat :=
 match v with
 | .func (.yield 7) ⟨[.pointer (some ⟨b,0,none⟩)]⟩ ⟨[]⟩=>some b
 | _=>none
def LB(call:P1)(m:Mem)(v:Value)(vs:List Value):Res :=
 match xL v vs with
 | some (f,vs)=>(call.fn f).run vs m
 | none=>match eM v with
   | some _=>call.yl.run (v::vs) m
   | none=>none
def B1B(call:P1)(x:XC)(xs:LC)(fr:Fr)(m:Mem):Res:=LB call m (x.run fr) (xs.run fr)
def A9I(f:FnC)(xs:LC)(fr:Fr)(m:Mem):Res:=f.run (xs.run fr) m
def A15(P:Program)(c:OpC)(o:Oper)(fr:Fr)(m:Mem):Res :=
 match c.run fr m with
 | some r=>some r
 | none=>match YU P fr m o.op with
   | some r=>some r
   | none=>match dsM P fr m o.op with
     | some r=>some r
     | none=>xtM P fr m o
def W9(P:Program)(call:P1)(o:Oper):OpC :=
 match o.op with
 | .call ⟨.value (.func f),xs,_⟩=>⟨A9I (call.fn f) (wB xs.toList)⟩
 | .call ⟨.value x,xs,_⟩=>⟨B1B call (S5 x) (wB xs.toList)⟩
 | op=>⟨A15 P (AQ P op) o⟩
def AL(nt:Nat)(d:Option Tmp):Bool :=
 match d with
 | some d=>Nat.blt d nt
 | none=>true
structure A98 where
 run:Value->Fr->(Fr->Option S)->Option S
def wT(d:Option Tmp):A98 :=
 match d with
 | some t=>⟨wQ (sel (t / 64%8)) (sel (t / 8%8)) (sel (t%8))⟩
 | none=>⟨fun _ fr k=>k fr⟩
structure A3e where
 run:S->Option S
def lK(c:OpC)(d:A98)(next:A3e)(s:S):Option S :=
 match s with
 | ⟨fr,m⟩=>match c.run fr m with
   | some (v,m')=>bif Nat.ble m.hi m'.hi then d.run v fr fun fr=>next.run ⟨fr,m'⟩else none
   | none=>none
def eU(nt:Nat)(all:List Oper)(o:Oper)(c:OpC)(d:A98)(next:A3e)(s:S):Option S :=
 match s with
 | ⟨fr,⟨H,n,W,hi,lg⟩⟩=>match bO nt fr lg all o with
   | some (true,lg)=>lK c d next ⟨fr,⟨H,n,W,hi,lg⟩⟩
   | some (false,lg)=>d.run undef fr fun fr=>next.run ⟨fr,⟨H,n,W,hi,lg⟩⟩
   | none=>none
def V1(P:Program)(nt gl:Nat)(call:P1)(all:List Oper):List Oper->A3e
 | []=>⟨some⟩
 | o::r=>bif AL nt o.dst && PI nt gl o.op then match o.guard with
   | none=>⟨fun s=>lK (W9 P call o) (wT o.dst) (V1 P nt gl call all r) s⟩
   | some _=>⟨fun s=>eU nt all o (W9 P call o) (wT o.dst) (V1 P nt gl call all r) s⟩
   else⟨fun _=>none⟩
structure Rec where
 i:Nat
 lo:Nat
 hi:Nat
inductive Cls where
 | free
 | one (b:Nat)
 | all
def B1r(fr:Fr)(o:Op):Cls :=
 match o with
 | .move _|.assign _|.pick ..|.alloc _|.box ..|.build ..|.buildSlice ..|.nilCheck _|.binOp ..|.unOp ..|.makeInterface ..|.makeFunc ..|.makeMap ..|.makeSlice ..
 | .fieldAddr ..|.field ..|.indexAddr ..|.index ..|.extract ..|.range ..=>.free
 | .slice _ x _ _ _=>match ev fr x with
   | .slice _ _ _|.string _|.pointer _|.complex _ _ _=>.free
   | _=>.all
 | .convert _ _ x=>match ev fr x with
   | .int _ _|.string _=>.free
   | _=>.all
 | .call ⟨.builtin .len,xs,_⟩=>match evL fr xs.toList with
   | [.slice _ _ _]|[.string _]=>.free
   | _=>.all
 | .call ⟨.builtin .min,_,_⟩|.call ⟨.builtin .max,_,_⟩=>.free
 | .call ⟨.builtin .unsafeSliceData,xs,_⟩=>match evL fr xs.toList with
   | [.slice _ _ _]=>.free
   | _=>.all
 | .load _ x|.store _ x _=>match ev fr x with
   | .pointer (some a)=>.one a.block
   | _=>.all
 | _=>.all
def DY(H:Hp AB):H6->Hp AB
 | []=>H
 | b::r=>Hp.put H b none fun H=>DY H r
def FB(H0 H:Hp AB):H6->Hp AB
 | []=>H
 | b::r=>Hp.put H b (Hp.get H0 b) fun H=>FB H0 H r
def OP:Nat->Nat->H6
 | _,0=>[]
 | lo,n+1=>lo::OP (lo+1) n
def Z5:List Rec->H6
 | []=>[]
 | r::rs=>OP r.lo (r.hi-r.lo)++Z5 rs
def aC(l:List Nat)(b:Nat):Bool:=l.any (Nat.beq b)
def II(l:List Nat):Bool:=l.all fun b=>Nat.ble b I2
def DK(b:List Nat)(rs:List Rec):List Rec:=rs.filter fun r=>!(aC b r.i)
def CL(m:Mem)(c:Cls)(us:List Rec):Option Mem :=
 match m with
 | ⟨H,n,_,hi,lg⟩=>match c with
   | .free=>some ⟨hp0,n,[],hi,lg⟩
   | .one b=>bif aC (Z5 us) b || !(Nat.ble b I2)then none else Hp.put hp0 b (Hp.get H b) fun H=>some ⟨H,n,[],hi,lg⟩
   | .all=>bif II (Z5 us)then some ⟨DY H (Z5 us),n,[],hi,lg⟩else none
def lU(m m':Mem):Option Mem :=
 bif Nat.ble m'.hi m.n then(match m with|⟨H,n,W,hi,_⟩=>some ⟨H,n,W,hi,m'.lg⟩)else
 bif Nat.ble m'.hi I2 then HQ (FB m'.H m.H (OP m.n (m'.hi-m.n))) fun H=>K0 m'.hi fun n=>some ⟨H,n,m.W,n,m'.lg⟩else none
def VD(fr:Fr)(m:Mem)(o:Oper)(b:List Nat)(rs:List Rec)(op:OpC)(k:Value->Mem->Option S):Option S :=
 let us:=DK b rs
 let c:=B1r fr o.op
 match CL m c us with
 | some mv=>match op.run fr mv with
   | some (v,m') =>
     match m'.W,Nat.ble m.hi m'.hi with
     | [],true=>match lU m m' with
       | some m2=>k v m2
       | none=>none
     | _,_=>none
   | none=>none
 | none=>none
def wrO:Op->Bool
 | .call _|.store ..|.mapUpdate ..=>true
 | _=>false
def aT:Op->Bool
 | .move _|.assign _|.extract ..|.slice ..=>true
 | _=>false
def A8r:Op->Bool
 | .field ..|.fieldAddr ..|.index ..|.indexAddr ..|.binOp ..|.unOp ..|.build ..|.load ..|.pick ..|.convert ..|.slice ..|.nilCheck _=>true
 | .call ⟨.builtin .len,_,_⟩|.call ⟨.builtin .min,_,_⟩|.call ⟨.builtin .max,_,_⟩=>true
 | o=>aT o
def GB(a b:Addr):Bool :=
 match a,b with
 | ⟨x,o,none⟩,⟨y,p,none⟩=>Nat.beq x y && Nat.beq o p
 | _,_=>false
def OW(f g:Fn):Bool :=
 match f,g with
 | .func f,.func g=>Nat.beq f g
 | .yield f,.yield g=>Nat.beq f g
 | _,_=>false
def CV(s:Value->Value->Bool):D2->D2->Bool
 | [],[]=>true
 | a::l,b::r=>s a b && CV s l r
 | _,_=>false
def yK:Nat->Value->Value->Bool
 | _,.bool a,.bool b=>a == b
 | _,.int k n,.int j m=>vD k j && CF n m
 | _,.complex .f64 i t,.complex .f64 j u=>Nat.beq i j && Nat.beq t u
 | _,.complex .f32 i t,.complex .f32 j u=>Nat.beq i j && Nat.beq t u
 | _,.string s,.string t=>decide (s.data.toList=t.data.toList)
 | _,.pointer none,.pointer none=>true
 | _,.pointer (some a),.pointer (some b)=>GB a b
 | _,.slice none n c,.slice none m d=>Nat.beq n m && Nat.beq c d
 | _,.slice (some a) n c,.slice (some b) m d=>GB a b && (Nat.beq n m && Nat.beq c d)
 | _,.map none,.map none=>true
 | _,.map (some a),.map (some b)=>Nat.beq a b
 | _,.nilFunc,.nilFunc=>true
 | _,.nilIface,.nilIface=>true
 | d+1,.func f a b,.func g a' b'=>OW f g && (CV (yK d) a.toList a'.toList && CV (yK d) b.toList b'.toList)
 | d+1,.iface t v,.iface u w=>Nat.beq t u && yK d v w
 | _,_,_=>false
def ZU(a b:AB):Bool :=
 match a,b with
 | .frz,.frz=>true
 | .cells cs T ro,.cells cs' T' ro'=>CV (yK 6) cs cs' && (Nat.beq T T' && (ro == ro'))
 | _,_=>false
def A0g(H:Hp AB)(b:Nat):Option (Nat×AB) :=
 match Hp.get H b with
 | some .frz=>some (b,.frz)
 | some (.cells cs T ro)=>some (b,.cells cs T ro)
 | _=>none
def MG(H:Hp AB)(fr:Fr)(o:Op):Option (Nat×AB) :=
 match o with
 | .load _ x=>match ev fr x with
   | .func (.yield 5) ⟨.pointer (some a)::_⟩ _=>A0g H a.block
   | .pointer (some a)=>A0g H a.block
   | _=>none
 | _=>none
def zX(H:Hp AB)(b:Nat)(ab:AB):Bool :=
 match Hp.get H b with
 | some x=>Nat.ble b I2 && ZU x ab
 | none=>false
def tI:Nat:=262144
def GL(m:Mem)(r:Option (Nat×AB))(us:List Rec):Option Mem :=
 match m with
 | ⟨H,_,_,_,lg⟩=>match r with
   | none=>some ⟨hp0,tI,[],tI,lg⟩
   | some (b,ab)=>bif aC (Z5 us) b || !(zX H b ab)then none else Hp.put hp0 b (some ab) fun H=>some ⟨H,tI,[],tI,lg⟩
def lN(fr:Fr)(m:Mem)(o:Oper)(b:List Nat)(rs:List Rec)(op:OpC):Option (Value×Lg) :=
 match GL m (MG m.H fr o.op) (DK b rs)with
 | some mv=>match op.run fr mv with
   | some (v,⟨_,_,[],hi,lg⟩)=>bif Nat.beq hi tI then some (v,lg)else none
   | _=>none
 | none=>none
abbrev Qs:=List (Nat×Option (Nat×AB))
def IJ:Nat->H6->Qs->Bool
 | 0,_,_=>true
 | n+1,b,qs=>(aC b n || qs.any fun q=>Nat.beq n q.1) && IJ n b qs
def HA(i:Nat):List H6->List Oper->Bool
 | c::bs,o::r=>(aC c i || aT o.op) && HA i bs r
 | _,_=>true
def A63(H:Hp AB)(r:Option (Nat×AB)):Bool :=
 match r with
 | none=>true
 | some (b,ab)=>zX H b ab
def A10(b:List Nat)(H:Hp AB)(a:Qs):Bool:=a.all fun q=>aC b q.1 || A63 H q.2
def JU(o:Op)(i:Nat)(b:List Nat)(bs:List H6)(r:List Oper)(a:Qs):Bool:=wrO o && (IJ i b a && HA i bs r)
def p9(P:Program)(nt gl:Nat)(call:P1)(all:List Oper):List Oper->Nat->List H6->List Rec->Qs->S->Option S
 | [],_,_,_,_,s=>some s
 | _::_,_,[],_,_,_=>none
 | o::r,i,b::bs,rs,qs,⟨fr,⟨H,n,W,hi,lg⟩⟩=>match bO nt fr lg all o,AL nt o.dst && PI nt gl o.op with
   | some (true,lg),true=>bif JU o.op i b bs r qs then(match (W9 P call o).run fr ⟨H,n,W,hi,lg⟩with
      | some (v,m2)=>bif Nat.ble hi m2.hi && A10 b m2.H qs then(wT o.dst).run v fr fun fr=>p9 P nt gl call all r (i+1) bs [] qs ⟨fr,m2⟩else none
      | none=>none)
     else match (bif A8r o.op then lN fr ⟨H,n,W,hi,lg⟩ o b rs (W9 P call o)else none)with
      | some (v,lg2)=>(wT o.dst).run v fr fun a=>p9 P nt gl call all r (i+1) bs rs ((i,MG H fr o.op)::qs) ⟨a,⟨H,n,W,hi,lg2⟩⟩
      | none=>bif aT o.op then none else VD fr ⟨H,n,W,hi,lg⟩ o b rs (W9 P call o) fun v m2 =>
        (wT o.dst).run v fr fun fr=>p9 P nt gl call all r (i+1) bs (⟨i,n,m2.n⟩::rs) qs ⟨fr,m2⟩
   | some (false,lg),true=>(wT o.dst).run undef fr fun fr=>p9 P nt gl call all r (i+1) bs rs ((i,none)::qs) ⟨fr,⟨H,n,W,hi,lg⟩⟩
   | _,_=>none
def A3b(l:List Nat)(b:Nat):H6:=bif aC l b then l else K0 b fun b=>b::l
def TZ:H6->H6->H6
 | [],b=>b
 | x::a,b=>A3b (TZ a b) x
def tL(acc:List H6):List Edge->H6
 | []=>[]
 | e::r=>bif Region.binds .any e then A3b (TZ (acc.getD e.on []) (tL acc r)) e.on else tL acc r
def Y9:List Oper->List H6->List H6
 | [],acc=>acc
 | o::r,acc=>R8 (tL acc o.after.toList) fun a=>Y9 r (acc++[a])
def qI:Operand->List Tmp
 | .tmp t=>[t]
 | _=>[]
def V8(ops:List Oper)(o:Oper):List Tmp :=
 o.dst.toList++(o.op.operands.toList.flatMap qI++(match o.guard with
  | none=>[]
  | some (j,_)=>match ops[j]? with
    | some p=>p.dst.toList
    | none=>[]))
def A4V(a:List H6)(i k:Nat):Bool:=bif Nat.blt i k then aC (a.getD k []) i else aC (a.getD i []) k
def tP(a:List H6)(i:Nat)(b:List Tmp):List Oper->Nat->Bool
 | [],_=>true
 | p::r,k=>(Nat.beq k i || (match p.dst with|none=>true|some t=>!(aC b t) || A4V a i k)) && tP a i b r (k+1)
def oB(i:Nat):List Edge->Bool
 | []=>true
 | e::r=>(!(Region.binds .any e) || Nat.blt e.on i) && oB i r
def KY(ops:List Oper)(a:List H6):List Oper->Nat->Bool
 | [],_=>true
 | o::r,i=>oB i o.after.toList && (tP a i (V8 ops o) ops 0 && KY ops a r (i+1))
def IA(ops:Array Oper):Bool:=KY ops.toList (Y9 ops.toList []) ops.toList 0
def ID:Op->Bool
 | .move _|.assign _|.load _ _|.store _ _ _=>true
 | _=>false
def mU:Op->Option (TypeId×Operand)
 | .load t x=>some (t,x)
 | .store t x _=>some (t,x)
 | _=>none
def gD:Op->Bool
 | .store _ _ _=>true
 | _=>false
def A0e:Op->List Tmp
 | .move x|.assign x=>qI x
 | .load _ x=>qI x
 | .store _ x y=>qI x++qI y
 | _=>[]
def DE(o:Oper)(l:List Tmp):Bool :=
 match o.dst with
 | some d=>aC l d
 | none=>false
def B1H(a b:Oper):Bool :=
 (match a.dst,b.dst with
   | some d,some e=>!(Nat.beq d e)
   | _,_=>true) && (!(DE a (A0e b.op)) && (!(DE b (A0e a.op)) && !(gD a.op && gD b.op)))
def tD(o:Oper)(i:Nat):Bool:=o.after.any fun e=>Region.binds .any e && Nat.beq e.on i
def A3c(l:List Oper):List Tmp:=l.flatMap fun o=>match mU o.op with
 | some (_,x)=>qI x
 | none=>[]
def GM(p:Oper->Oper->Bool)(l:List Oper):Bool :=
 (List.range l.length).all fun j=>(List.range j).all fun i=>match l[i]?,l[j]? with
   | some a,some b=>tD b i || p a b
   | _,_=>true
def A8y(a:List Tmp)(i:Nat)(o:Oper):Bool:=ID o.op && ((match o.guard with|none=>true|some _=>false) && (!(DE o a) && o.after.all fun e=>!(Region.binds .any e) || Nat.blt e.on i))
def A04(a:List Tmp):Nat->List Oper->Bool
 | _,[]=>true
 | i,o::l=>A8y a i o && A04 a (i+1) l
def lL(l:List Oper):Bool:=A04 (A3c l) 0 l && GM B1H l
def A0x(P:Program)(nt gl:Nat)(fr:Fr)(H:Hp AB)(o:Oper):Bool :=
 match mU o.op with
 | none=>true
 | some (t,x)=>bif !(okX nt gl x)then false else match ev fr x,aY P t,H4 P t with
   | .pointer (some a),some _,some s=>match a.spot,Hp.get H a.block with
     | none,some (.cells cs _ false)=>Nat.ble (a.off+s) cs.length && (Nat.blt a.off cs.length && Nat.ble a.block I2)
     | _,_=>false
   | _,_,_=>false
def A3Z(fr:Fr)(a b:Oper):Bool :=
 bif gD a.op || gD b.op then match mU a.op,mU b.op with
  | some (_,x),some (_,y)=>match ev fr x,ev fr y with
    | .pointer (some p),.pointer (some q)=>!(Nat.beq p.block q.block)
    | _,_=>false
  | _,_=>true else true
def lW(P:Program)(nt gl:Nat)(fr:Fr)(H:Hp AB)(l:List Oper):Bool:=l.all (A0x P nt gl fr H) && GM (A3Z fr) l
structure gS where
 run:S->Option (Ex×S)
def DM(f:gS):Nat->S->Option (Ex×S)
 | 0,_=>none
 | n+1,s=>match f.run s with
   | some (.normal,s)=>DM f n s
   | r=>r
def A3O(a b:gS)(s:S):Option (Ex×S) :=
 match a.run s with
 | some (.normal,s)=>b.run s
 | r=>r
def NG(c:XC)(a b:gS)(s:S):Option (Ex×S) :=
 match c.run s.fr with
 | .bool true=>a.run s
 | .bool false=>b.run s
 | v=>match s with
   | ⟨fr,⟨H,n,W,hi,lg⟩⟩=>match brL lg v with
     | some (true,lg)=>a.run ⟨fr,⟨H,n,W,hi,lg⟩⟩
     | some (false,lg)=>b.run ⟨fr,⟨H,n,W,hi,lg⟩⟩
     | none=>none
def AY(id:Nat)(c:gS)(s:S):Option (Ex×S) :=
 match c.run s with
 | some (.exit j,s)=>bif Nat.beq j id then some (.normal,s)else some (.exit j,s)
 | r=>r
def Y7(r:A3e)(s:S):Option (Ex×S) :=
 match r.run s with
 | some s=>some (.normal,s)
 | none=>none
structure LpT where
 me:FuncId
 look:List Bool->Option (S->Option (Ex×S))
def DN(c:gS)(L:S->Option (Ex×S)):Nat->S->Option (Ex×S)
 | 0,_=>none
 | n+1,s=>match L s with
   | some r=>some r
   | none=>match c.run s with
     | some (.normal,s)=>DN c L n s
     | r=>r
def ND(c:gS)(l:Option (S->Option (Ex×S)))(s:S):Option (Ex×S) :=
 match l with
 | some f=>DN c f 4 s
 | none=>DM c 1000000 s
def frL(fr:Fr):Nat->Nat->D2
 | _,0=>[]
 | i,n+1=>fr.get i::frL fr (i+1) n
def A6i:Value->Nat
 | .pointer (some a)=>a.block
 | _=>0
def iO(v:Value):H6 :=
 match v with
 | .func (.yield 8) ⟨l⟩ ⟨[]⟩=>l.map A6i
 | _=>[]
def exN:Ex->Nat
 | .normal=>0
 | .ret=>2
 | .exit k=>k+4
def nEx:Nat->Option Ex
 | 0=>some .normal
 | 1=>none
 | 2=>some .ret
 | 3=>none
 | k+4=>some (.exit k)
def HH:Ex->Bool
 | .normal=>true
 | _=>false
def rL(fr:Fr)(hi:Nat)(b:Nat)(r:Res):Option (Ex×S) :=
 match r with
 | some (_,m)=>match Hp.get m.H b with
   | some (.lp f q vs st)=>match nEx st with
     | some e=>bif Nat.ble hi m.hi then match cQ m b (.lp f q vs 3)with
       | some m=>some (e,⟨fr,m⟩)
       | none=>none else none
     | none=>none
   | _=>none
 | none=>none
def sR(P:Program)(f:FuncId):Bool :=
 match P.funcs.toList[f]? with
 | some fn=>match fn.body with
   | some _=>true
   | none=>false
 | none=>false
def cL(P:Program)(nt:Nat)(call:P1)(f:FuncId)(q:List Bool)(g:Value)(fr:Fr)(m:Mem):Option (Ex×S) :=
 R8 (frL fr 0 nt) fun vs=>match Z4 m (.lp f q vs 0) yv with
 | some (v,m1)=>match xL g [v],eM v with
   | some (k,as),some b=>bif sR P k then rL fr m1.hi b ((call.fn k).run as m1)else none
   | _,_=>none
 | none=>none
def AW(P:Program)(nt:Nat)(call:P1)(f:FuncId)(q:List Bool)(x:XC)(s:S):Option (Ex×S) :=
 match s with
 | ⟨fr,m⟩=>bif Nat.ble nt 510 then match eM (fr.get 511)with
   | some d=>match Hp.get m.H d with
     | some (.lp _ _ _ 1)=>cL P nt call f q (x.run fr) fr m
     | _=>none
   | none=>bif nW (fr.get 511)then match Z4 m (.dfr true) (fun b=>.pointer (some ⟨b,0,none⟩))with
      | some (.pointer (some a),m1)=>R8 (iO (fr.get 510)) fun l=>wQ (sel 7) (sel 7) (sel 6) (dv (a.block::l)) fr fun c=>cL P nt call f q (x.run fr) c m1
      | _=>none else none
   else none
def N6(P:Program)(nt gl:Nat)(call:P1)(lp:LpT):List Bool->Code->gS
 | _,.skip=>⟨fun s=>some (.normal,s)⟩
 | _,.label _=>⟨fun s=>some (.normal,s)⟩
 | _,.region _ ops d=>match d with
   | false=>⟨fun s=>Y7 (V1 P nt gl call ops.toList ops.toList) s⟩
   | true=>bif IA ops then bif lL ops.toList then⟨fun s=>bif lW P nt gl s.fr s.m.H ops.toList then Y7 (V1 P nt gl call ops.toList ops.toList) s else Y7 ⟨p9 P nt gl call ops.toList ops.toList 0 (Y9 ops.toList []) [] []⟩ s⟩
     else⟨fun s=>Y7 ⟨p9 P nt gl call ops.toList ops.toList 0 (Y9 ops.toList []) [] []⟩ s⟩else⟨fun _=>none⟩
 | q,.seq a b=>⟨fun s=>A3O (N6 P nt gl call lp (q++[false]) a) (N6 P nt gl call lp (q++[true]) b) s⟩
 | q,.cond c a b=>bif okX nt gl c then⟨fun s=>NG (S5 c) (N6 P nt gl call lp (q++[false]) a) (N6 P nt gl call lp (q++[true]) b) s⟩else⟨fun _=>none⟩
 | q,.block id c=>⟨fun s=>AY id (N6 P nt gl call lp (q++[false]) c) s⟩
 | q,.loop c=>⟨fun s=>ND (N6 P nt gl call lp (q++[false]) c) (lp.look q) s⟩
 | q,.rangeFunc x _ _ _=>bif okX nt gl x then⟨fun s=>AW P nt call lp.me q (S5 x) s⟩else⟨fun _=>none⟩
 | q,.scope c=>N6 P nt gl call lp (q++[false]) c
 | _,.exit id=>⟨fun s=>some (.exit id,s)⟩
 | _,.ret=>⟨fun s=>some (.ret,s)⟩
 | _,_=>⟨fun _=>none⟩
def MC(ids:Value->List Nat):D2->H6
 | []=>[]
 | v::r=>ids v++MC ids r
def CD:Nat->Value->H6
 | 0,_=>[]
 | _+1,.pointer (some a)=>[a.block]
 | _+1,.slice (some a) _ _=>[a.block]
 | _+1,.map (some b)=>[b]
 | d+1,.func _ a b=>MC (CD d) a.toList++MC (CD d) b.toList
 | d+1,.iface _ v=>CD d v
 | d+1,.agg cs=>MC (CD d) cs.toList
 | d+1,.tuple cs=>MC (CD d) cs.toList
 | _+1,_=>[]
def B1J:AB->H6
 | .cells cs _ _=>MC (CD 10) cs
 | .mp _ _ _=>[]
 | .iter vs=>MC (CD 10) vs
 | .lp _ _ vs _=>MC (CD 10) vs
 | .dfr _=>[]
 | .sq _ _ _ g _=>[g]
 | .frz=>[]
def KH(n0:Nat)(H:Hp AB):Nat->H6->H6->H6
 | 0,_,acc=>acc
 | _+1,[],acc=>acc
 | f+1,b::r,acc=>bif Nat.blt b n0 || aC acc b then KH n0 H f r acc else match Hp.get H b with
   | some ab=>KH n0 H f (B1J ab++r) (b::acc)
   | none=>KH n0 H f r acc
def fB(a H:Hp AB):H6->Hp AB
 | []=>H
 | b::r=>Hp.put H b (Hp.get a b) fun H=>fB a H r
def wOf(H:Hp AB):H6->H6
 | []=>[]
 | b::r=>(match Hp.get H b with|some ab=>B1J ab|none=>[])++wOf H r
def oR:H6->H6->H6
 | [],acc=>acc
 | b::r,acc=>bif aC acc b then oR r acc else oR r (b::acc)
def oJ(low:Value->Bool):D2->Bool
 | []=>true
 | v::r=>low v && oJ low r
def g9(n:Nat):Nat->Value->Bool
 | 0,_=>false
 | _+1,.pointer (some a)=>Nat.blt a.block n
 | _+1,.slice (some a) _ _=>Nat.blt a.block n
 | _+1,.map (some b)=>Nat.blt b n
 | d+1,.func _ a b=>oJ (g9 n d) a.toList && oJ (g9 n d) b.toList
 | d+1,.iface _ v=>g9 n d v
 | d+1,.agg cs=>oJ (g9 n d) cs.toList
 | d+1,.tuple cs=>oJ (g9 n d) cs.toList
 | _+1,.complex _ _ _=>true
 | _+1,v=>I8 v
def A4k(n:Nat):Option AB->Bool
 | none=>true
 | some (.cells cs _ _)=>oJ (g9 n 10) cs
 | some (.mp _ _ _)=>true
 | some (.iter vs)=>oJ (g9 n 10) vs
 | some (.lp _ _ vs _)=>oJ (g9 n 10) vs
 | some (.dfr _)=>true
 | some (.sq _ _ _ g _)=>Nat.blt g n
 | some .frz=>true
def PO(n:Nat)(H:Hp AB):H6->Bool
 | []=>true
 | b::r=>A4k n (Hp.get H b) && PO n H r
def gcM(m m':Mem)(v:Value):Option Mem :=
 let W:=oR (m'.W.filter fun b=>Nat.blt b m.n || Nat.ble m'.hi b) []
 bif g9 m.n 10 v && PO m.n m'.H W then
  bif II W then HQ (fB m'.H m.H W) fun H=>K0 m'.hi fun hi=>R8 (W++m.W) fun W=>some ⟨H,m.n,W,hi,m'.lg⟩else none
 else
  let ids:=(KH m.n m'.H 100000 (CD 10 v++wOf m'.H W) []).filter fun b=>Nat.ble m.n b && Nat.blt b m'.hi
  bif II (W++ids)then HQ (fB m'.H m.H (W++ids)) fun H=>K0 m'.n fun n=>K0 m'.hi fun hi=>R8 (W++m.W) fun W=>some ⟨H,n,W,hi,m'.lg⟩else none
def B0W(P:Program)(nt:Nat)(s:S):ResultVar->R1
 | .tmp t=>bif Nat.blt t nt then some (s.fr.get t)else none
 | .cell a t=>bif Nat.blt a nt then match s.fr.get a with
   | .pointer (some a)=>TL P s.m t a
   | _=>none else none
def WO(P:Program)(nt:Nat)(s:S):List ResultVar->Option D2
 | []=>some []
 | r::rs=>match B0W P nt s r,WO P nt s rs with
   | some v,some vs=>some (v::vs)
   | _,_=>none
def WN(fn:Func)(P:Program)(s:S):R1 :=
 match WO P fn.ntmps s fn.results.toList with
 | some [v]=>some v
 | some vs=>some (.tuple ⟨vs⟩)
 | none=>none
def fN(fr:Fr):Nat->D2->Fr
 | _,[]=>fr
 | i,v::r=>wQ (sel (i / 64%8)) (sel (i / 8%8)) (sel (i%8)) v fr fun fr=>fN fr (i+1) r
def uG(l:List UInt8)(c:UInt8):Nat->Int
 | i=>match l with
   | [] => -1
   | b::r=>bif decide (b=c)then(i:Int)else uG r c (i+1)
def uS(c:UInt8):List UInt8->Nat->Nat
 | [],n=>n
 | b::r,n=>bif decide (b=c)then K0 (n+1) (uS c r)else uS c r n
def pL(k:EK)(args:List Value)(m:Mem):Res :=
 match k,args with
 | .noEscape,[v]=>some (v,m)
 | .indexByteString,[.string s,.int .u8 (.ofNat c)]=>some (.int .i64 (uG s.data.toList (UInt8.ofNat c) 0),m)
 | .countString,[.string s,.int .u8 (.ofNat c)]=>some (.int .i64 (uS (UInt8.ofNat c) s.data.toList 0),m)
 | .makeNoZero e,[.int .i64 (.ofNat n)]=>bif Nat.ble n 1000000000 then Z4 m (.cells [] e false) fun b=>.slice (some ⟨b,0,none⟩) n N3 else none
 | _,_=>none
def qK:H6->Mem->Option Mem
 | [],m=>some m
 | b::r,m=>match Hp.get m.H b with
   | some (.dfr true)=>match cQ m b (.dfr false)with
     | some m=>qK r m
     | none=>none
   | _=>none
def dvG(nt:Nat)(fr:Fr):H6:=bif Nat.ble nt 510 then iO (fr.get 510)else[]
def A9h(fn:Func)(P:Program)(m:Mem)(r:Option (Ex×S)):Res :=
 match r with
 | some (.normal,⟨fr,m1⟩)|some (.ret,⟨fr,m1⟩)=>match qK (dvG fn.ntmps fr) m1 with
   | some m1=>match WN fn P ⟨fr,m1⟩with
     | some v=>match gcM m m1 v with
       | some m=>some (v,m)
       | none=>none
     | none=>none
   | none=>none
 | _=>none
def OO(c:gS)(fr:Fr)(m:Mem):Option (Ex×S) :=
 match m with
 | ⟨H,n,_,hi,lg⟩=>c.run ⟨fr,⟨H,n,[],hi,lg⟩⟩
def BB(fn:Func)(P:Program)(c:gS)(args:List Value)(m:Mem):Res :=
 bif Nat.ble args.length fn.ntmps && Nat.ble fn.ntmps 512 then A9h fn P m (OO c (fN fr0 0 args) m)else none
structure Cx where
 P:Program
 ext:List (FuncId×EK)
 gl:Nat
 con:FuncId->Option FnC
 lp:FuncId->LpT
def ER(C:Cx)(call:P1)(f:FuncId):FnC :=
 match C.P.funcs.toList[f]? with
 | none=>⟨fun _ _=>none⟩
 | some fn=>match C.con f with
   | some c=>c
   | none=>match fn.body with
     | none=>match MN C.ext f with
       | some k=>⟨pL k⟩
       | none=>⟨fun _ _=>none⟩
     | some c=>⟨BB fn C.P (N6 C.P fn.ntmps C.gl call (C.lp f) [] c)⟩
def vN:List Tmp->D2->Fr->Option Fr
 | [],[],fr=>some fr
 | t::ts,v::vs,fr=>wQ (sel (t / 64%8)) (sel (t / 8%8)) (sel (t%8)) v fr fun fr=>vN ts vs fr
 | _,_,_=>none
def rE(b:Nat)(r:Option (Ex×S)):Res :=
 match r with
 | some (e,⟨_,m⟩)=>match Hp.get m.H b with
   | some (.lp f q vs 1)=>K0 (exN e) fun st=>match cQ m b (.lp f q vs st)with
     | some m=>some (.bool (HH e),m)
     | none=>none
   | _=>none
 | none=>none
def rA(b:Nat)(c:gS)(r:Option (Ex×S)):Res :=
 match r with
 | some (.normal,⟨fr,m⟩)=>match Hp.get m.H b with
   | some (.lp f q vs 0)=>match cQ m b (.lp f q vs 1)with
     | some m=>rE b (c.run ⟨fr,m⟩)
     | none=>none
   | _=>none
 | _=>none
def GH(C:Cx)(call:P1):FnC:=⟨fun vs m =>
 match vs with
 | []=>none
 | v::args=>match eM v with
   | none=>none
   | some b=>match Hp.get m.H b with
     | some (.lp f q fs 0)=>match C.P.funcs.toList[f]? with
       | none=>none
       | some fn=>match fn.body with
         | none=>none
         | some body=>match G5 q body with
           | some (.rangeFunc _ ps as bd)=>bif Nat.ble fn.ntmps 510 && ps.toList.all (fun t=>Nat.blt t fn.ntmps)then match vN ps.toList args (fN fr0 0 fs)with
             | some fr=>wQ (sel 7) (sel 7) (sel 7) v fr fun fr=>rA b (N6 C.P fn.ntmps C.gl call (C.lp f) (q++[true]) bd) ((N6 C.P fn.ntmps C.gl call (C.lp f) (q++[false]) as).run ⟨fr,m⟩)
             | none=>none else none
           | _=>none
     | _=>none⟩
def wD(C:Cx):Nat->P1
 | 0=>⟨fun _=>⟨fun _ _=>none⟩,⟨fun _ _=>none⟩⟩
 | d+1=>⟨ER C (wD C d),GH C (wD C d)⟩
end
end Go.Sx
