/- The law PickKnown: for every input the call returns true, and the arguments read behind it as they read before. No condition. -/
import Derived.WalkKit
import Derived.OrdersHeld
import Derived.KernelRfl
set_option linter.all false
set_option maxRecDepth 100000
set_option maxHeartbeats 4000000
namespace Go
variable {p:Prop}
abbrev hU:=@Array.all_eq_true'
abbrev K0:=@Array.ext'
abbrev B5:=@Array.getD_eq_getD_getElem?
abbrev W7:=@Array.getElem?_append_left
abbrev H1:=@Array.getElem?_eq_getElem
abbrev D5:=@Array.getElem?_eq_some_iff
abbrev I1:=@Array.getElem?_modify
abbrev aP:=@Array.getElem?_push
abbrev jT:=@Array.getElem?_replicate
abbrev bO:=@Array.getElem?_set
abbrev G5:=@Array.getElem?_setIfInBounds
abbrev R7:=@Array.getElem?_toList
abbrev U6:=@Array.length_toList
abbrev iA:=@Array.mapM_eq_mapM_toList
abbrev x7:=@Array.mk.injEq
abbrev hP:=@BitVec.toNat_ofInt
abbrev J5:=@Bool.and_eq_true
abbrev jS:=@Bool.and_self
abbrev qO:=@Bool.and_true
abbrev M2:=@Bool.eq_iff_iff
abbrev K5:=@Bool.false_eq_true
abbrev Z3:=@Bool.false_or
abbrev S5:=@Bool.not_true
abbrev Y9:=@Bool.or_eq_false_iff
abbrev J9:=@Bool.or_eq_true
abbrev Y2:=@Classical.byContradiction
abbrev Q6:=@Classical.not_not
abbrev jG:=@Int.add_mul
abbrev hO:=@Int.emod_lt_of_pos
abbrev eV:=@Int.emod_nonneg
abbrev F4:=@Int.le_trans
abbrev I6:=@Int.mul_le_mul_of_nonneg_right
abbrev E3:=@Int.natCast_nonneg
abbrev mR:=@Int.ofNat.injEq
abbrev jF:=@Int.one_mul
abbrev t8:=@Int.toNat_natCast
abbrev mQ:=@List.all_append
abbrev dY:=@List.all_cons
abbrev E8:=@List.all_eq_true
abbrev qN:=@List.any_cons
abbrev W1:=@List.any_eq_true
abbrev C7:=@List.append_assoc
abbrev D6:=@List.append_nil
abbrev D4:=@List.cons.injEq
abbrev aF:=@List.cons_append
abbrev hJ:=@List.drop_drop
abbrev aG:=@List.drop_eq_getElem_cons
abbrev hH:=@List.drop_zero
abbrev dT:=@List.eq_nil_iff_forall_not_mem
abbrev O4:=@List.eq_nil_of_length_eq_zero
abbrev dC:=@List.ext_getElem?
abbrev fC:=@List.filter_eq_self
abbrev jE:=@List.flatMap_cons
abbrev C6:=@List.getD_eq_getElem?_getD
abbrev F7:=@List.getElem?_append_left
abbrev E9:=@List.getElem?_append_right
abbrev T7:=@List.getElem?_cons_succ
abbrev T6:=@List.getElem?_cons_zero
abbrev J2:=@List.getElem?_drop
abbrev A6:=@List.getElem?_eq_getElem
abbrev X3:=@List.getElem?_eq_none
abbrev B1:=@List.getElem?_eq_some_iff
abbrev H9:=@List.getElem?_map
abbrev eP:=@List.getElem?_set_ne
abbrev j8:=@List.getElem?_set_self
abbrev G6:=@List.getElem?_take_of_lt
abbrev K6:=@List.getElem?_toArray
abbrev P4:=@List.getElem_mem
abbrev aO:=@List.getElem_of_mem
abbrev A4:=@List.length_append
abbrev B2:=@List.length_cons
abbrev K8:=@List.length_drop
abbrev H3:=@List.length_eq_zero_iff
abbrev I4:=@List.length_map
abbrev B4:=@List.length_nil
abbrev Q9:=@List.length_reverse
abbrev mP:=@List.length_set
abbrev X1:=@List.length_singleton
abbrev dS:=@List.length_take
abbrev Y3:=@List.map_append
abbrev E4:=@List.map_cons
abbrev I3:=@List.map_nil
abbrev B7:=@List.mem_append
abbrev C4:=@List.mem_cons
abbrev D1:=@List.mem_cons_of_mem
abbrev B6:=@List.mem_cons_self
abbrev U3:=@List.mem_filter
abbrev O9:=@List.mem_map
abbrev E6:=@List.mem_of_getElem?
abbrev dB:=@List.mem_range
abbrev gZ:=@List.mem_singleton
abbrev R1:=@List.nil_append
abbrev V9:=@List.not_mem_nil
abbrev dK:=@List.take_append_drop
abbrev dX:=@Nat.add_assoc
abbrev fM:=@Nat.add_comm
abbrev I9:=@Nat.add_mul
abbrev d7:=@Nat.add_sub_cancel_left
abbrev fL:=@Nat.beq_refl
abbrev rV:=@Nat.ble_eq
abbrev C5:=@Nat.ble_eq_true_of_le
abbrev A1:=@Nat.eq_of_beq_eq_true
abbrev W6:=@Nat.eq_zero_or_pos
abbrev A2:=@Nat.le_of_ble_eq_true
abbrev mF:=@Nat.le_of_lt
abbrev A7:=@Nat.le_refl
abbrev x6:=@Nat.le_succ
abbrev C3:=@Nat.le_trans
abbrev E1:=@Nat.lt_of_lt_of_le
abbrev G9:=@Nat.lt_or_ge
abbrev K1:=@Nat.lt_succ_self
abbrev dR:=@Nat.mod_eq_of_lt
abbrev rU:=@Nat.mod_lt
abbrev dA:=@Nat.mul_comm
abbrev bN:=@Nat.mul_div_cancel
abbrev oT:=@Nat.mul_le_mul
abbrev G0:=@Nat.mul_le_mul_right
abbrev jD:=@Nat.one_mul
abbrev mE:=@Nat.sub_self
abbrev t7:=@Nat.succ_le_of_lt
abbrev F9:=@Nat.zero_add
abbrev mD:=@Nat.zero_mul
abbrev B9:=@Option.bind_eq_some_iff
abbrev G2:=@Option.bind_some
abbrev kT:=@Option.getD_some
abbrev cZ:=@Option.map_eq_some_iff
abbrev M1:=@Option.map_some
abbrev A8:=@Option.some.inj
abbrev D9:=@Option.some.injEq
abbrev Q0:=@Prod.mk.injEq
abbrev A5:=@Sem.run_bind
abbrev E7:=@cond_false
abbrev F1:=@cond_true
abbrev D8:=@congrArg
abbrev U2:=@decide_eq_false
abbrev I5:=@decide_eq_true
abbrev A9:=@if_neg
abbrev B0:=@if_pos
abbrev F8:=@of_decide_eq_true
def G4(h:p:=by kernel_rfl):p:=h
def hY{α:Type}{a:Option α}{b c:α}(h:a=some b)(e:b=c:=by kernel_rfl):a=some c:=h.trans (by rw[e])
def A0(h:p:=by omega):p:=h
def C8(h:p:=by decide):p:=h
end Go
namespace Go.Sx
section
open Go
abbrev E0:=List Value
abbrev I7:=List Nat
abbrev S8:=Option Value
abbrev c9:=Array Value
structure N8 (α:Type) where
 c0:α
 c1:α
 c2:α
 c3:α
 c4:α
 c5:α
 c6:α
 c7:α
structure Sel where
 get:{α:Type}->N8 α->α
 upd:{α β:Type}->N8 α->α->(N8 α->β)->β
def sel:Nat->Sel
 | 0=>⟨fun n=>n.c0,fun n v k=>match n with|⟨a0,a1,a2,a3,a4,a5,a6,a7⟩=>k ⟨v,a1,a2,a3,a4,a5,a6,a7⟩⟩
 | 1=>⟨fun n=>n.c1,fun n v k=>match n with|⟨a0,a1,a2,a3,a4,a5,a6,a7⟩=>k ⟨a0,v,a2,a3,a4,a5,a6,a7⟩⟩
 | 2=>⟨fun n=>n.c2,fun n v k=>match n with|⟨a0,a1,a2,a3,a4,a5,a6,a7⟩=>k ⟨a0,a1,v,a3,a4,a5,a6,a7⟩⟩
 | 3=>⟨fun n=>n.c3,fun n v k=>match n with|⟨a0,a1,a2,a3,a4,a5,a6,a7⟩=>k ⟨a0,a1,a2,v,a4,a5,a6,a7⟩⟩
 | 4=>⟨fun n=>n.c4,fun n v k=>match n with|⟨a0,a1,a2,a3,a4,a5,a6,a7⟩=>k ⟨a0,a1,a2,a3,v,a5,a6,a7⟩⟩
 | 5=>⟨fun n=>n.c5,fun n v k=>match n with|⟨a0,a1,a2,a3,a4,a5,a6,a7⟩=>k ⟨a0,a1,a2,a3,a4,v,a6,a7⟩⟩
 | 6=>⟨fun n=>n.c6,fun n v k=>match n with|⟨a0,a1,a2,a3,a4,a5,a6,a7⟩=>k ⟨a0,a1,a2,a3,a4,a5,v,a7⟩⟩
 | _=>⟨fun n=>n.c7,fun n v k=>match n with|⟨a0,a1,a2,a3,a4,a5,a6,a7⟩=>k ⟨a0,a1,a2,a3,a4,a5,a6,v⟩⟩
def rT{α:Type}(v:α):N8 α:=⟨v,v,v,v,v,v,v,v⟩
def IH{α β:Type}(n:N8 α)(k:N8 α->β):β :=
 match n with
 | ⟨a0,a1,a2,a3,a4,a5,a6,a7⟩=>k ⟨a0,a1,a2,a3,a4,a5,a6,a7⟩
abbrev Fr:=N8 (N8 (N8 Value))
def Fr.get(fr:Fr)(t:Nat):Value:=(sel (t%8)).get ((sel (t / 8%8)).get ((sel (t / 64%8)).get fr))
def xH{β:Type}(a b c:Sel)(v:Value)(fr:Fr)(k:Fr->β):β :=
 c.upd (b.get (a.get fr)) v fun e=>b.upd (a.get fr) e fun d=>a.upd fr d k
def Fr.set(fr:Fr)(t:Nat)(v:Value):Fr:=xH (sel (t / 64%8)) (sel (t / 8%8)) (sel (t%8)) v fr fun fr=>fr
def fr0:Fr:=rT (rT (rT (.tuple #[])))
abbrev Hp(α:Type):=N8 (N8 (N8 (N8 (N8 (N8 (Option α))))))
def Hp.get{α:Type}(h:Hp α)(n:Nat):Option α :=
 (sel (n%8)).get ((sel (n / 8%8)).get ((sel (n / 64%8)).get ((sel (n / 512%8)).get ((sel (n / 4096%8)).get ((sel (n / 32768%8)).get h)))))
def m9{α β:Type}(a b c d e f:Sel)(v:Option α)(h:Hp α)(k:Hp α->β):β :=
 f.upd (e.get (d.get (c.get (b.get (a.get h))))) v fun l=>e.upd (d.get (c.get (b.get (a.get h)))) l fun j=>d.upd (c.get (b.get (a.get h))) j fun g=>c.upd (b.get (a.get h)) g fun m=>b.upd (a.get h) m fun i=>a.upd h i k
def Hp.put{α β:Type}(h:Hp α)(n:Nat)(v:Option α)(k:Hp α->β):β :=
 m9 (sel (n / 32768%8)) (sel (n / 4096%8)) (sel (n / 512%8)) (sel (n / 64%8)) (sel (n / 8%8)) (sel (n%8)) v h k
def Hp.set{α:Type}(h:Hp α)(n:Nat)(v:Option α):Hp α:=h.put n v fun h=>h
def hp0{α:Type}:Hp α:=rT (rT (rT (rT (rT (rT none)))))
def J0:Nat:=262143
def K3{β:Type}(n:Nat)(k:Nat->β):β :=
 match n with
 | 0=>k 0
 | m+1=>k (Nat.succ m)
def AU{β:Type}(i:Int)(k:Int->β):β :=
 match i with
 | .ofNat n=>K3 n fun n=>k (.ofNat n)
 | .negSucc n=>K3 n fun n=>k (.negSucc n)
def U0{α β:Type}:List α->(List α->β)->β
 | [],k=>k []
 | x::r,k=>U0 r fun r=>k (x::r)
def OT:IntKind->Nat
 | .i8=>127|.i16=>32767|.i32=>2147483647|.i64=>9223372036854775807
 | .u8=>255|.u16=>65535|.u32=>4294967295|.u64=>18446744073709551615
def DL(k:IntKind)(n:Int):Int :=
 match n with
 | .ofNat m=>bif Nat.ble m (OT k)then .ofNat m else k.wrap (.ofNat m)
 | .negSucc m=>k.wrap (.negSucc m)
def A7L(a b:Int):Int :=
 match a,b with
 | .ofNat m,.ofNat n=>.ofNat (Nat.add m n)
 | a,b=>a+b
def A5b(a b:Int):Int :=
 match a,b with
 | .ofNat m,.ofNat n=>bif Nat.ble n m then .ofNat (Nat.sub m n)else .ofNat m - .ofNat n
 | a,b=>a-b
def A6l(a b:Int):Int :=
 match a,b with
 | .ofNat m,.ofNat n=>.ofNat (Nat.mul m n)
 | a,b=>a*b
def ltF(a b:Int):Bool :=
 match a,b with
 | .ofNat m,.ofNat n=>Nat.blt m n
 | .negSucc _,.ofNat _=>true
 | .ofNat _,.negSucc _=>false
 | .negSucc m,.negSucc n=>Nat.blt n m
def leF(a b:Int):Bool :=
 match a,b with
 | .ofNat m,.ofNat n=>Nat.ble m n
 | .negSucc _,.ofNat _=>true
 | .ofNat _,.negSucc _=>false
 | .negSucc m,.negSucc n=>Nat.ble n m
def DE(a b:Int):Bool :=
 match a,b with
 | .ofNat m,.ofNat n=>Nat.beq m n
 | .negSucc m,.negSucc n=>Nat.beq m n
 | _,_=>false
def wD:IntKind->IntKind->Bool
 | .i8,.i8|.i16,.i16|.i32,.i32|.i64,.i64|.u8,.u8|.u16,.u16|.u32,.u32|.u64,.u64=>true
 | _,_=>false
def mkI(k:IntKind)(n:Int):Value:=AU n fun n=>.int k n
inductive U where
 | none
 | int (k:IntKind) (n:Int)
 | bool (b:Bool)
 | str (s:List UInt8)
 | seq (nul:Bool) (w:Nat) (rows:List (List U))
inductive LOp where
 | bin (op:BinOp)
 | un (op:UnOp)
 | conv (k:IntKind)
 | len
 | idx
 | sub
 | sub1
 | sel
 | eqs
 | inb
 | max
 | min
 | mks
 | inbs (w:Nat)
 | get (w o:Nat)
 | mk (w:Nat)
 | nilw (w:Nat)
 | nilp
 | snoc (w:Nat)
 | cat (w:Nat)
 | cats
 | set (w o:Nat)
 | subs (w:Nat)
 | str
 | byt
 | rep (w:Nat)
 | ustr
 | mhas (w kw:Nat)
 | mget (w kw o:Nat)
 | mput (w kw:Nat)
 | rune
 | rpos
inductive u7 where
 | lt (i t:Nat) (op:LOp) (xs:List Value)
 | dt (i t:Nat) (op:LOp) (xs:List Value)
 | br (i:Nat) (b:Bool)
 | as (op:LOp) (xs:List Value)
 | con (spec:List U->Option (Nat×List U)) (xs:List Value) (i d n:Nat)
structure Lg where
 nx:Nat
 pi:I7
 log:List u7
def hole(i t:Nat):Value:=.complex .f64 i t
def junk:Value:=.complex .f32 0 0
def ixp(a:Addr)(s:Nat)(i:Value)(n:Nat):Value:=.func (.yield 1) ⟨[.pointer (some a),.int .i64 (.ofNat s),i,.int .i64 (.ofNat n)]⟩ ⟨[]⟩
def dat(b i t:Nat):Value:=.func (.yield 2) ⟨[.pointer (some ⟨b,0,none⟩),.complex .f64 i t]⟩ ⟨[]⟩
def clp(b i t:Nat):Value:=.func (.yield 3) ⟨[.pointer (some ⟨b,0,none⟩),.complex .f64 i t]⟩ ⟨[]⟩
def own(b i t:Nat):Value:=.func (.yield 4) ⟨[.pointer (some ⟨b,0,none⟩),.complex .f64 i t]⟩ ⟨[]⟩
def dpt(b i t:Nat)(z:Value)(o:Nat):Value:=.func (.yield 5) ⟨[.pointer (some ⟨b,0,none⟩),.complex .f64 i t,z,.int .i64 (.ofNat o)]⟩ ⟨[]⟩
def opt(b i t:Nat)(z:Value)(o:Nat):Value:=.func (.yield 6) ⟨[.pointer (some ⟨b,0,none⟩),.complex .f64 i t,z,.int .i64 (.ofNat o)]⟩ ⟨[]⟩
def yv(b:Nat):Value:=.func (.yield 7) ⟨[.pointer (some ⟨b,0,none⟩)]⟩ ⟨[]⟩
def sdt(b:Nat):Value:=.func (.yield 9) ⟨[.pointer (some ⟨b,0,none⟩)]⟩ ⟨[]⟩
def dv(ids:List Nat):Value:=.func (.yield 8) ⟨ids.map fun b=>.pointer (some ⟨b,0,none⟩)⟩ ⟨[]⟩
def A0m:Value->Bool
 | .complex .f32 _ _=>true
 | _=>false
def one:Value:=.complex .f32 1 0
def lU:Value->Bool
 | .complex .f32 i _=>!(Nat.beq i 1)
 | _=>false
def kJ:IntKind->Nat
 | .i8=>0|.i16=>1|.i32=>2|.i64=>3|.u8=>4|.u16=>5|.u32=>6|.u64=>7
def H6:Value->Nat
 | .int k _=>kJ k
 | .bool _=>8
 | .string _=>9
 | .complex .f64 _ t=>t
 | _=>99
inductive AB where
 | cells (cs:List Value) (T:TypeId) (ro:Bool)
 | sq (c t:Nat) (T:TypeId) (g:Nat) (ro:Bool)
 | frz
 | mp (c t:Nat) (T:TypeId)
 | iter (vs:List Value)
 | lp (f:FuncId) (q:List Bool) (vs:List Value) (st:Nat)
 | dfr (b:Bool)
structure Mem where
 H:Hp AB
 n:Nat
 W:I7
 hi:Nat
 lg:Lg
structure S where
 fr:Fr
 m:Mem
inductive Ex where
 | normal
 | exit (id:Nat)
 | ret
def H8:List Bool->Code->Option Code
 | [],c=>some c
 | false::q,.seq a _=>H8 q a
 | true::q,.seq _ b=>H8 q b
 | false::q,.cond _ a _=>H8 q a
 | true::q,.cond _ _ b=>H8 q b
 | false::q,.block _ c=>H8 q c
 | false::q,.scope c=>H8 q c
 | false::q,.loop c=>H8 q c
 | false::q,.rangeFunc _ _ a _=>H8 q a
 | true::q,.rangeFunc _ _ _ b=>H8 q b
 | _::_,_=>none
def O7:Nat:=9223372036854775808
def J8:Value->Bool
 | .bool _|.int _ _|.string _|.pointer none|.slice none _ _|.map none|.nilFunc|.nilIface=>true
 | _=>false
def RV:Value->Bool
 | .agg cs=>cs.toList.all J8
 | v=>J8 v
def ev(fr:Fr):Operand->Value
 | .tmp t=>fr.get t
 | .const v=>v
 | .global g=>.pointer (some ⟨g,0,none⟩)
 | .func f=>.func (.func f) #[] #[]
def okX(nt gl:Nat):Operand->Bool
 | .tmp t=>Nat.blt t nt
 | .const v=>RV v
 | .global g=>Nat.blt g gl
 | .func _=>true
def evL(fr:Fr):List Operand->E0
 | []=>[]
 | x::r=>ev fr x::evL fr r
def evP(fr:Fr):List (Nat×Operand)->List (Nat×Value)
 | []=>[]
 | (i,x)::r=>(i,ev fr x)::evP fr r
def evO(fr:Fr):Option Operand->S8
 | none=>none
 | some x=>some (ev fr x)
structure XC where
 run:Fr->Value
def A77(a b c:Sel):XC:=⟨fun fr=>c.get (b.get (a.get fr))⟩
def V6:Operand->XC
 | .tmp t=>A77 (sel (t / 64%8)) (sel (t / 8%8)) (sel (t%8))
 | .const v=>⟨fun _=>v⟩
 | .global g=>⟨fun _=>.pointer (some ⟨g,0,none⟩)⟩
 | .func f=>⟨fun _=>.func (.func f) #[] #[]⟩
def fR(x:Operand)(fr:Fr):(V6 x).run fr=ev fr x:=by cases x<;>rfl
structure LC where
 run:Fr->E0
def A6_(x:XC)(r:LC)(fr:Fr):E0:=x.run fr::r.run fr
def wW:List Operand->LC
 | []=>⟨fun _=>[]⟩
 | x::r=>⟨fun fr=>A6_ (V6 x) (wW r) fr⟩
def pU(fr:Fr):∀ xs:List Operand,(wW xs).run fr=evL fr xs
 | []=>rfl
 | x::r=>by
   show(V6 x).run fr::(wW r).run fr=_;rw[fR,pU fr r];rfl
abbrev Res:=Option (Value×Mem)
def upN(hi n:Nat):Nat:=bif Nat.blt n hi then hi else Nat.succ n
def Mem.wLg(m:Mem)(lg:Lg):Mem :=
 match m with
 | ⟨H,n,W,hi,_⟩=>⟨H,n,W,hi,lg⟩
def X4(m:Mem)(t:Nat)(op:LOp)(xs:List Value):Res :=
 match m with
 | ⟨H,n,W,hi,⟨nx,pi,log⟩⟩=>K3 nx fun nx=>K3 t fun t=>U0 xs fun xs=>some (hole nx t,⟨H,n,W,hi,⟨Nat.succ nx,pi,.lt nx t op xs::log⟩⟩)
def xI(m:Mem)(t:Nat)(op:LOp)(xs:List Value)(k:Nat->Mem->Res):Res :=
 match m with
 | ⟨H,n,W,hi,⟨nx,pi,log⟩⟩=>K3 nx fun nx=>K3 t fun t=>U0 xs fun xs=>k nx ⟨H,n,W,hi,⟨Nat.succ nx,pi,.dt nx t op xs::log⟩⟩
def AX:List u7->Nat->Option Bool
 | [],_=>none
 | .br j b::r,i=>bif Nat.beq j i then some b else AX r i
 | _::r,i=>AX r i
def brL(lg:Lg)(c:Value):Option (Bool×Lg) :=
 match c with
 | .bool b=>some (b,lg)
 | .complex .f64 i 8=>match lg with
   | ⟨nx,pi,log⟩=>match AX log i with
     | some b=>some (b,⟨nx,pi,log⟩)
     | none=>match pi with
       | 1::r=>some (true,⟨nx,r,.br i true::log⟩)
       | 0::r=>some (false,⟨nx,r,.br i false::log⟩)
       | _=>none
 | _=>none
def w8(m:Mem)(ab:AB)(k:Nat->Value):Res :=
 match m with
 | ⟨H,n,W,hi,lg⟩=>bif Nat.ble n J0 then K3 n fun n=>K3 (upN hi n) fun hi=>Hp.put H n (some ab) fun H=>some (k n,⟨H,Nat.succ n,W,hi,lg⟩)else none
def eA(m:Mem)(id:Nat)(ab:AB):Option Mem :=
 match m with
 | ⟨H,n,W,hi,lg⟩=>bif Nat.ble id J0 then Hp.put H id (some ab) fun H=>K3 id fun id=>some ⟨H,n,id::W,hi,lg⟩else none
def mL(m:Mem)(id:Nat):Mem :=
 match m with
 | ⟨H,n,W,hi,lg⟩=>Hp.put H id none fun H=>K3 id fun id=>⟨H,n,id::W,hi,lg⟩
def A1F(cs:List Value)(o n:Nat):Option E0 :=
 let r:=(cs.drop o).take n
 bif Nat.beq r.length n then some r else none
def bR(m:Mem)(a:Addr)(n:Nat):Option E0 :=
 match a.spot,Hp.get m.H a.block with
 | none,some (.cells cs _ _)=>A1F cs a.off n
 | _,_=>none
def eE:E0->Nat->E0->E0
 | cs,_,[]=>cs
 | cs,k,v::r=>eE (cs.set k v) (k+1) r
def flat:Value->Bool
 | .agg _|.tuple _=>false
 | .complex .f32 i _=>Nat.beq i 1
 | _=>true
def qP(m:Mem)(a:Addr)(vs:List Value):Option Mem :=
 match a.spot,Hp.get m.H a.block with
 | none,some (.cells cs T false) =>
   bif Nat.ble (a.off+vs.length) cs.length && vs.all flat then U0 (eE cs a.off vs) fun cs=>eA m a.block (.cells cs T false)else none
 | _,_=>none
variable (P:Program)
def cQ(t:TypeId):Option Bool :=
 match P.underlying t with
 | some (.struct _)|some (.array _ _)=>some true
 | some _=>some false
 | none=>none
def I2(t:TypeId):Option Nat :=
 match P.info? t with
 | some i=>some i.size
 | none=>none
def iC(t:TypeId):S8 :=
 match P.info? t with
 | some i=>match i.zero with
   | some v=>bif RV v then some v else none
   | none=>none
 | none=>none
def SO(m:Mem)(t:TypeId)(a:Addr):S8 :=
 match cQ P t with
 | some true=>match I2 P t with
   | some n=>match bR m a n with
     | some cs=>some (.agg ⟨cs⟩)
     | none=>none
   | none=>none
 | some false=>match bR m a 1 with
   | some (v::_)=>some v
   | _=>none
 | none=>none
def zE(m:Mem)(t:TypeId)(a:Addr)(v:Value):Option Mem :=
 match I2 P t with
 | some n=>bif Nat.beq v.cells.size n && !(lU v)then qP m a v.cells.toList else none
 | none=>none
def tF(t:TypeId)(cs:List Value)(off:Nat):S8 :=
 match cQ P t with
 | some true=>match I2 P t with
   | some n=>match A1F cs off n with
     | some r=>some (.agg ⟨r⟩)
     | none=>none
   | none=>none
 | some false=>cs[off]?
 | none=>none
def A27(e:TypeId)(s i:Nat):Field:={ name := "x",type:=e,offset:=i*s,embedded:=false,tag := "",pkgPath := "",byteOffset:=0 }
mutual
def eqM:Nat->TypeId->Value->Value->Option Bool
 | 0,_,_,_=>none
 | d+1,t,x,y=>match P.underlying t,x,y with
   | some .bool,.bool a,.bool b=>some (a == b)
   | some (.int _),.int k a,.int j b=>bif decide (k=j)then some (a == b)else none
   | some .string,.string a,.string b=>some (a.data.toList == b.data.toList)
   | some (.pointer _),.pointer none,.pointer b=>some b.isNone
   | some (.pointer _),.pointer (some _),.pointer none=>some false
   | some (.interface _),.nilIface,.nilIface=>some true
   | some (.interface _),.nilIface,.iface _ _=>some false
   | some (.interface _),.iface _ _,.nilIface=>some false
   | some (.interface _),.iface tx vx,.iface ty vy=>bif Nat.beq tx ty then(match P.info? tx with
     | some i=>bif i.comparable then eqM d tx vx vy else none
     | none=>none)else some false
   | some (.slice _),.slice none _ _,.slice b _ _=>some b.isNone
   | some (.slice _),.slice (some _) _ _,.slice none _ _=>some false
   | some (.map _ _),.map none,.map b=>some b.isNone
   | some (.func _ _ _),.nilFunc,.nilFunc=>some true
   | some (.func _ _ _),.nilFunc,.func (.func _) _ _=>some false
   | some (.func _ _ _),.func (.func _) _ _,.nilFunc=>some false
   | some (.struct fs),.agg xs,.agg ys=>bif P.stoodInHeld t then none else eqF d fs.toList xs.toList ys.toList
   | some (.array n e),.agg xs,.agg ys=>match I2 P e with
     | some s=>eqF d ((List.range n).map (A27 e s)) xs.toList ys.toList
     | none=>none
   | _,_,_=>none
def eqF:Nat->List Field->E0->E0->Option Bool
 | 0,_,_,_=>none
 | _+1,[],_,_=>some true
 | d+1,f::fs,xs,ys =>
   bif f.name == "_" then none else
   match tF P f.type xs f.offset,tF P f.type ys f.offset with
   | some x,some y=>match eqM d f.type x y with
     | some true=>eqF d fs xs ys
     | some false=>some false
     | none=>none
   | _,_=>none
end
def isC:Operand->Bool
 | .const _=>true
 | _=>false
def oA(t:TypeId)(x y:Operand)(a b:Value):Bool :=
 match a,b with
 | .nilIface,.nilIface=>isC x || isC y
 | .agg _,.agg _=>!P.eqGuardType P.depth t
 | a,b=>!(A0m a) && !(A0m b)
def BZ(op:BinOp)(k:IntKind)(x y:Int):S8 :=
 match op with
 | .and=>some (.int k (k.wrap (BitVec.ofInt k.bits x &&& BitVec.ofInt k.bits y).toNat))
 | .or=>some (.int k (k.wrap (BitVec.ofInt k.bits x ||| BitVec.ofInt k.bits y).toNat))
 | .xor=>some (.int k (k.wrap (BitVec.ofInt k.bits x ^^^ BitVec.ofInt k.bits y).toNat))
 | .andNot=>some (.int k (k.wrap (BitVec.ofInt k.bits x &&& ~~~BitVec.ofInt k.bits y).toNat))
 | _=>none
def ltL:List UInt8->List UInt8->Bool
 | _,[]=>false
 | [],_::_=>true
 | a::x,b::y=>a<b || (a == b && ltL x y)
def mV(op:BinOp)(k:IntKind)(a b:Int):S8 :=
 match op with
 | .add=>some (mkI k (DL k (A7L a b)))
 | .sub=>some (mkI k (DL k (A5b a b)))
 | .mul=>some (mkI k (DL k (A6l a b)))
 | .quo=>bif DE b 0 then none else some (mkI k (k.wrap (a.tdiv b)))
 | .rem=>bif DE b 0 then none else some (mkI k (a.tmod b))
 | .eql=>some (.bool (DE a b))
 | .neq=>some (.bool (!(DE a b)))
 | .lss=>some (.bool (ltF a b))
 | .leq=>some (.bool (leF a b))
 | .gtr=>some (.bool (ltF b a))
 | .geq=>some (.bool (leF b a))
 | op=>BZ op k a b
def PH(left:Bool)(k:IntKind)(a:Int)(b:Nat):Value :=
 bif left then mkI k (k.wrap (a*2 ^ (min b k.bits)))else mkI k (a.fdiv (2 ^ (min b k.bits)))
def A16(op:BinOp)(a b:ByteArray):S8 :=
 match op with
 | .add=>bif Nat.ble (a.size+b.size) 1000000000 then U0 (a.data.toList++b.data.toList) fun l=>some (.string ⟨⟨l⟩⟩)else none
 | .eql=>some (.bool (a.data.toList == b.data.toList))
 | .neq=>some (.bool (!(a.data.toList == b.data.toList)))
 | .lss=>some (.bool (ltL a.data.toList b.data.toList))
 | .leq=>some (.bool (ltL a.data.toList b.data.toList || (a.data.toList == b.data.toList)))
 | .gtr=>some (.bool (!(ltL a.data.toList b.data.toList || (a.data.toList == b.data.toList))))
 | .geq=>some (.bool (!(ltL a.data.toList b.data.toList)))
 | _=>none
def ED(op:BinOp)(t:TypeId)(x y:Value):S8 :=
 match op with
 | .eql=>match eqM P 20 t x y with
   | some b=>some (.bool b)
   | none=>none
 | .neq=>match eqM P 20 t x y with
   | some b=>some (.bool (!b))
   | none=>none
 | _=>none
def kK:BinOp->Option Bool
 | .shl=>some true
 | .shr=>some false
 | _=>none
def cR(op:BinOp)(k j:IntKind)(a b:Int):S8 :=
 match kK op with
 | some l=>match b with
   | .ofNat n=>some (PH l k a n)
   | .negSucc _=>none
 | none=>bif wD k j then mV op k a b else none
def uF(op:BinOp)(t:TypeId)(x y:Value):S8 :=
 match x,y with
 | .int k a,.int j b=>cR op k j a b
 | .string a,.string b=>A16 op a b
 | x,y=>ED P op t x y
def unM(op:UnOp)(x:Value):S8 :=
 match op,x with
 | .neg,.int k n=>some (mkI k (k.wrap (0-n)))
 | .xor,.int k n=>BZ .xor k (if k.signed then -1 else k.max) n
 | .not,.bool b=>some (.bool !b)
 | _,_=>none
def bytesOf:E0->Option (List UInt8)
 | []=>some []
 | .int .u8 n::r=>match bytesOf r with
   | some l=>some (UInt8.ofNat n.toNat::l)
   | none=>none
 | _::_=>none
def R3(l:List UInt8):E0:=l.map fun b=>.int .u8 b.toNat
def FM(m:Mem)(s t:TypeId)(x:Value):Res :=
 match P.underlying s,P.underlying t,x with
 | some _,some (.int k),.int _ n=>some (mkI k (DL k n),m)
 | some _,some .string,.string b=>some (.string b,m)
 | some _,some .string,.int _ n=>some (.string (Utf8.encode n),m)
 | some _,some (.slice e),.string b=>match P.underlying e with
   | some (.int .u8)=>match I2 P e with
     | some 1=>U0 (R3 b.data.toList) fun cs=>w8 m (.cells cs e false) fun i=>.slice (some ⟨i,0,none⟩) b.size O7
     | _=>none
   | _=>none
 | some (.slice e),some .string,.slice none _ _=>match P.underlying e with
   | some (.int .u8)=>some (.string ByteArray.empty,m)
   | _=>none
 | some (.slice e),some .string,.slice (some a) n _=>match P.underlying e with
   | some (.int .u8)=>match bR m a n with
     | some cs=>match bytesOf cs with
       | some l=>some (.string ⟨⟨l⟩⟩,m)
       | none=>none
     | none=>none
   | _=>none
 | _,_,_=>none
def AY(place:Nat->Option (Nat×Nat))(cells:List Value):List (Nat×Value)->Option E0
 | []=>some cells
 | (i,v)::rest=>match place i with
   | none=>none
   | some (off,size) =>
     bif (Nat.beq v.cells.size size && !(lU v)) && Nat.ble (off+v.cells.size) cells.length then U0 (eE cells off v.cells.toList) fun cs=>AY place cs rest else none
def tD:List Field->Option (List (Nat×Nat))
 | []=>some []
 | f::r=>match I2 P f.type,tD r with
   | some n,some l=>some ((f.offset,n)::l)
   | _,_=>none
def KU(z:List Value):Nat->E0
 | 0=>[]
 | n+1=>z++KU z n
def GH(e:TypeId)(n:Nat):Option E0 :=
 match I2 P e with
 | some s=>bif Nat.beq (n*s) 0 then some []else match iC P e with
   | some z=>bif Nat.beq z.cells.size s then some (KU z.cells.toList n)else none
   | none=>none
 | none=>none
def QQ(t:TypeId)(parts:List (Nat×Value)):S8 :=
 match iC P t,P.underlying t with
 | some z,some (.struct fs)=>match tD P fs.toList with
   | some ps=>match AY (ps[·]?) z.cells.toList parts with
     | some cs=>some (.agg ⟨cs⟩)
     | none=>none
   | none=>none
 | some z,some (.array _ e)=>match I2 P e with
   | some s=>match AY (fun i=>some (i*s,s)) z.cells.toList parts with
     | some cs=>some (.agg ⟨cs⟩)
     | none=>none
   | none=>none
 | _,_=>none
def eM(m:Mem)(t:TypeId)(n:Nat)(parts:List (Nat×Value)):Res :=
 match P.underlying t with
 | some (.slice e)=>match I2 P e,GH P e n with
   | some s,some zs=>bif Nat.ble (n*s) 16777216 && Nat.blt n O7 then match AY (fun i=>some (i*s,s)) zs parts with
     | some cs=>w8 m (.cells cs e false) fun i=>.slice (some ⟨i,0,none⟩) n n
     | none=>none else none
   | _,_=>none
 | _=>none
def gG(m:Mem)(t:TypeId)(l c:Value):Res :=
 match P.underlying t,l,c with
 | some (.slice e),.int _ (.ofNat l),.int _ (.ofNat c)=>match P.info? e with
   | some i=>bif Nat.ble l c && Nat.ble c 10000000 && Nat.ble (c*i.bytes) 100000000 then match GH P e c with
     | some a=>U0 a fun a=>w8 m (.cells a e false) fun k=>.slice (some ⟨k,0,none⟩) l c
     | none=>none else none
   | none=>none
 | _,_,_=>none
def dM(a:Addr)(n:Nat):Addr:=K3 (a.off+n) fun o=>⟨a.block,o,none⟩
def eJ(s:TypeId)(x:Value)(i:Nat):S8 :=
 match P.underlying s,x with
 | some (.struct fs),.pointer (some a)=>match fs.toList[i]?,a.spot with
   | some f,none=>match I2 P f.type with
     | some (_+1)=>some (.pointer (some (dM a f.offset)))
     | _=>none
   | _,_=>none
 | _,_=>none
def IL(t:TypeId)(x:Value)(i:Nat):S8 :=
 match P.underlying t,x with
 | some (.struct fs),.agg cs=>match fs.toList[i]? with
   | some f=>tF P f.type cs.toList f.offset
   | none=>none
 | _,_=>none
def m7(t:TypeId)(x i:Value):S8 :=
 match P.underlying t,x,i with
 | some (.array n e),.pointer (some a),.int _ (.ofNat k)=>match I2 P e,a.spot with
   | some s,none=>bif Nat.blt k n then some (.pointer (some (dM a (k*s))))else none
   | _,_=>none
 | some (.slice e),.slice (some a) n _,.int _ (.ofNat k)=>match I2 P e,a.spot with
   | some s,none=>bif Nat.blt k n then some (.pointer (some (dM a (k*s))))else none
   | _,_=>none
 | _,_,_=>none
def nY(t:TypeId)(x i:Value):S8 :=
 match P.underlying t,x,i with
 | some (.array n e),.agg cs,.int _ (.ofNat k)=>match I2 P e with
   | some s=>bif Nat.blt k n then tF P e cs.toList (k*s)else none
   | none=>none
 | some .string,.string s,.int _ (.ofNat k)=>match s.data.toList[k]? with
   | some b=>some (.int .u8 b.toNat)
   | none=>none
 | _,_,_=>none
def X8(v:Option Value)(J0 a:Nat):Option Nat :=
 match v with
 | none=>some a
 | some (.int _ (.ofNat k))=>bif Nat.ble k J0 then some k else none
 | some _=>none
def eR(t:TypeId)(x:Value)(b hi mx:Option Value):S8 :=
 match P.underlying t,x with
 | some .string,.string s =>
   match mx,X8 hi s.size s.size with
   | none,some h=>match X8 b h 0 with
     | some l=>some (.string ⟨⟨(s.data.toList.drop l).take (h-l)⟩⟩)
     | none=>none
   | _,_=>none
 | some (.slice e),.slice none n c =>
   match n,c,X8 mx 0 0,X8 hi 0 0,X8 b 0 0 with
   | 0,0,some _,some _,some _=>bif (mx.isSome && hi.isNone) || (I2 P e).isNone then none else some (.slice none 0 0)
   | _,_,_,_,_=>none
 | some (.slice e),.slice (some a) n c =>
   match I2 P e,a.spot with
   | some s,none =>
     bif Nat.blt c O7 then
      match X8 mx c c with
      | some m=>match (match hi,mx with|none,some _=>none|hi,_=>X8 hi m n)with
        | some h=>match X8 b h 0 with
          | some l=>some (.slice (some (bif Nat.beq m l then a else dM a (l*s))) (h-l) (m-l))
          | none=>none
        | none=>none
      | none=>none
     else
      match mx with
      | some _=>match hi,X8 mx n n with
        | some _,some m=>bif Nat.blt m O7 && Nat.ble c (O7+1)then match X8 hi m n with
          | some h=>match X8 b h 0 with
            | some l=>some (.slice (some (bif Nat.beq m l then a else dM a (l*s))) (h-l) (m-l))
            | none=>none
          | none=>none else none
        | _,_=>none
      | none=>match X8 hi n n with
        | some h=>match X8 b h 0 with
          | some 0=>some (.slice (some a) h c)
          | some (l+1)=>let l:=l+1
            bif Nat.blt l n then some (.slice (some (dM a (l*s))) (h-l) (O7+1))else some (.slice (some a) 0 (O7+2))
          | none=>none
        | none=>none
   | _,_=>none
 | some (.array n e),.pointer (some a) =>
   match I2 P e,a.spot,mx with
   | some s,none,none=>match X8 hi n n with
     | some h=>match X8 b h 0 with
       | some l=>bif Nat.blt n O7 then some (.slice (some (bif Nat.beq n l then a else dM a (l*s))) (h-l) (n-l))else none
       | none=>none
     | none=>none
   | _,_,_=>none
 | _,_=>none
def gD(m:Mem)(s:Nat)(y:Value):Option (Nat×List Value) :=
 match y with
 | .slice none n _=>bif Nat.beq n 0 then some (0,[])else none
 | .slice (some a) n _=>match bR m a (n*s)with
   | some cs=>some (n,cs)
   | none=>none
 | .string b=>bif Nat.beq s 1 then some (b.size,R3 b.data.toList)else none
 | _=>none
def eS:TypeDesc->Bool
 | .slice _|.string=>true
 | _=>false
def uH(m:Mem)(t t2:TypeId)(x y:Value):Res :=
 match P.underlying t,P.underlying t2 with
 | some (.slice e),some d2 =>
   bif !(eS d2)then none else
   match P.info? e,x with
   | some i,.slice a n c=>match gD m i.size y,iC P e with
     | some (k,new),some z =>
       bif Nat.ble ((3*(n+k)+4000)*i.bytes) 281474976710656 && Nat.ble (n+k) 1000000000 && Nat.beq z.cells.size i.size && new.all flat then
       bif Nat.beq k 0 then(match a with|none=>bif Nat.beq n 0 && Nat.beq c 0 then some (x,m)else none|some _=>bif Nat.ble c (O7+1) && Nat.ble n c then some (x,m)else none)else
       match a with
       | none=>bif Nat.beq n 0 && Nat.beq c 0 then U0 new fun cs=>w8 m (.cells cs e false) fun b=>.slice (some ⟨b,0,none⟩) k O7 else none
       | some d =>
         bif Nat.blt c O7 then
          bif Nat.ble (n+k) c then
           match d.spot,qP m (dM d (n*i.size)) new with
           | none,some m'=>some (.slice a (n+k) c,m')
           | _,_=>none
          else match bR m d (n*i.size)with
           | some old=>U0 (old++new) fun cs=>w8 m (.cells cs e false) fun b=>.slice (some ⟨b,0,none⟩) (n+k) O7
           | none=>none
         else bif Nat.beq c O7 && Nat.beq d.off 0 then
          match d.spot,Hp.get m.H d.block with
          | none,some (.cells cs T false) =>
            bif Nat.beq cs.length (n*i.size) && Nat.beq T e && Nat.ble d.block J0 && Nat.blt d.block m.n then
             U0 (cs++new) fun cs=>w8 (mL m d.block) (.cells cs e false) fun b=>.slice (some ⟨b,0,none⟩) (n+k) O7
            else none
          | _,_=>none
         else none
       else none
     | _,_=>none
   | _,_=>none
 | _,_=>none
def NI(m:Mem)(t:TypeId)(x y:Value):Res :=
 match P.underlying t,x with
 | some (.slice e),.slice a n c=>match I2 P e with
   | some s =>
     match (match y with
      | .slice none k _=>bif Nat.beq k 0 then some (0,[])else none
      | .slice (some b) k _=>match bR m b (Nat.min k n*s)with
        | some cs=>some (Nat.min k n,cs)
        | none=>none
      | .string b=>some (Nat.min b.size n,R3 (b.data.toList.take (Nat.min b.size n)))
      | _=>none:Option (Nat×List Value))with
     | some (k,cs)=>match a with
       | none=>bif Nat.beq k 0 then some (.int .i64 0,m)else none
       | some d=>bif Nat.beq cs.length 0 then some (.int .i64 k,m)else bif Nat.ble c (O7+1)then match qP m d cs with
         | some m'=>some (.int .i64 k,m')
         | none=>none else none
     | none=>none
   | none=>none
 | _,_=>none
def A0b(m:Mem)(t:TypeId)(x:Value):S8 :=
 match P.underlying t,x with
 | some .string,.string s=>some (.int .i64 s.data.toList.length)
 | some (.array n _),_=>some (.int .i64 n)
 | some (.slice _),.slice _ n _=>some (.int .i64 n)
 | some (.map _ _),.map none=>some (.int .i64 0)
 | _,_=>none
def A6G(t:TypeId)(x:Value):S8 :=
 match P.underlying t,x with
 | some (.slice _),.slice none _ c=>some (.int .i64 c)
 | some (.slice _),.slice (some a) n c=>bif Nat.blt c O7 then some (.int .i64 c)else none
 | _,_=>none
def A5x:E0->S8
 | [.int k a,.int _ b]=>some (.int k (if b>a then b else a))
 | [.int k a,.int _ b,.int _ c]=>AU (if b>a then b else a) fun d=>some (.int k (if c>d then c else d))
 | _=>none
def A5w:E0->S8
 | [.int k a,.int _ b]=>some (.int k (if b<a then b else a))
 | [.int k a,.int _ b,.int _ c]=>AU (if b<a then b else a) fun d=>some (.int k (if c<d then c else d))
 | _=>none
def noM(v:Option Value)(m:Mem):Res :=
 match v with
 | some v=>some (v,m)
 | none=>none
def PW(m:Option Mem):Res :=
 match m with
 | some m=>some (undef,m)
 | none=>none
def RY(m:Mem)(c a b:Value):Res :=
 match c with
 | .bool true=>some (a,m)
 | .bool false=>some (b,m)
 | _=>none
def HN(m:Mem)(e:TypeId):Res :=
 match iC P e with
 | some z=>w8 m (.cells z.cells.toList e false) fun b=>.pointer (some ⟨b,0,none⟩)
 | none=>none
def A0F(m:Mem)(e:TypeId)(v:Value):Res :=
 bif v.cells.toList.all flat then w8 m (.cells v.cells.toList e false) fun b=>.pointer (some ⟨b,0,none⟩)else none
def RZ(m:Mem)(t:TypeId)(v:Value):Res :=
 match v with
 | .pointer (some a)=>noM (SO P m t a) m
 | _=>none
def HL(m:Mem)(t:TypeId)(x v:Value):Res :=
 match x with
 | .pointer (some a)=>PW (zE P m t a v)
 | _=>none
def A0E(m:Mem)(x:Value):Res :=
 match x with
 | .pointer (some a)=>some (.pointer (some a),m)
 | .func (.func f) a b=>some (.func (.func f) a b,m)
 | _=>none
def AQ:BinOp->Bool
 | .eql|.neq=>true
 | _=>false
def A2I(m:Mem)(op:BinOp)(t:TypeId)(x y:Operand)(a b:Value):Res :=
 bif AQ op then(bif oA P t x y a b then noM (uF P op t a b) m else none)else noM (uF P op t a b) m
def HM(m:Mem)(t:TypeId)(v:Value):Res :=
 match P.underlying t with
 | some d=>(match d with|.interface _=>none|_=>bif flat v || (match v with|.agg _=>true|_=>false)then some (.iface t v,m)else none)
 | none=>none
def nP(m:Mem)(v:Value)(i:Nat):Res :=
 match v with
 | .tuple vs=>noM vs.toList[i]? m
 | _=>none
def lJ(m:Mem)(x:Value):Res :=
 match x with
 | .slice none _ _=>some (.pointer none,m)
 | .slice (some a) n c=>bif Nat.beq n 0 || Nat.beq c 0 || Nat.beq c (O7+2)then none else some (.pointer (some a),m)
 | _=>none
def fV(m:Mem)(b:TypeId)(p l:Value):Res :=
 match p,l with
 | .pointer none,.int _ (.ofNat 0)=>some (.string ByteArray.empty,m)
 | .pointer (some a),.int _ (.ofNat n) =>
   match a.spot,Hp.get m.H a.block with
   | none,some (.cells cs T false)=>match P.underlying b,I2 P T with
     | some (.pointer e),some 1=>bif Nat.blt 0 n && Nat.ble n 1000000000 && Nat.beq e T then match A1F cs a.off n with
       | some l=>match bytesOf l,eA m a.block (.cells cs T true)with
         | some l,some m'=>some (.string ⟨⟨l⟩⟩,m')
         | _,_=>none
       | none=>none else none
     | _,_=>none
   | _,_=>none
 | _,_=>none
def kP(m:Mem)(b:Builtin)(vs:List Value)(tys:List TypeId):Res :=
 match b,vs,tys with
 | .len,[x],t::_=>noM (A0b P m t x) m
 | .cap,[x],t::_=>noM (A6G P t x) m
 | .append,[x,y],t::t2::_=>uH P m t t2 x y
 | .copy,[x,y],t::_=>NI P m t x y
 | .max,vs,_=>noM (A5x vs) m
 | .min,vs,_=>noM (A5w vs) m
 | .unsafeSliceData,[x],_=>lJ m x
 | .unsafeString,[p,l],t::_=>fV P m t p l
 | _,_,_=>none
def opM(fr:Fr)(m:Mem)(o:Op):Res :=
 match o with
 | .move x|.assign x=>some (ev fr x,m)
 | .pick c a b=>RY m (ev fr c) (ev fr a) (ev fr b)
 | .alloc e=>HN P m e
 | .box e x=>A0F m e (ev fr x)
 | .build t ps=>noM (QQ P t (evP fr ps.toList)) m
 | .buildSlice t n ps=>eM P m t n (evP fr ps.toList)
 | .load t x=>RZ P m t (ev fr x)
 | .store t x y=>HL P m t (ev fr x) (ev fr y)
 | .nilCheck x=>A0E m (ev fr x)
 | .binOp op t x y _=>A2I P m op t x y (ev fr x) (ev fr y)
 | .unOp op _ x=>noM (unM op (ev fr x)) m
 | .convert s t x=>FM P m s t (ev fr x)
 | .makeInterface t x=>HM P m t (ev fr x)
 | .makeFunc (.func f) first cap=>some (.func (.func f) ⟨evL fr first.toList⟩ ⟨evL fr cap.toList⟩,m)
 | .makeSlice t l c=>gG P m t (ev fr l) (ev fr c)
 | .slice t x d hi mx=>noM (eR P t (ev fr x) (evO fr d) (evO fr hi) (evO fr mx)) m
 | .fieldAddr s x i=>noM (eJ P s (ev fr x) i) m
 | .field t x i=>noM (IL P t (ev fr x) i) m
 | .indexAddr t x i=>noM (m7 P t (ev fr x) (ev fr i)) m
 | .index t x i=>noM (nY P t (ev fr x) (ev fr i)) m
 | .extract x i=>nP m (ev fr x) i
 | .call ⟨.builtin b,xs,tys⟩=>kP P m b (evL fr xs.toList) tys.toList
 | _=>none
structure OpC where
 run:Fr->Mem->Res
def A0i(x:XC)(fr:Fr)(m:Mem):Res:=some (x.run fr,m)
def A4g(c a b:XC)(fr:Fr)(m:Mem):Res:=RY m (c.run fr) (a.run fr) (b.run fr)
def A6w(e:TypeId)(x:XC)(fr:Fr)(m:Mem):Res:=A0F m e (x.run fr)
def A4h(t:TypeId)(x:XC)(fr:Fr)(m:Mem):Res:=RZ P m t (x.run fr)
def A0h(t:TypeId)(x y:XC)(fr:Fr)(m:Mem):Res:=HL P m t (x.run fr) (y.run fr)
def A6u(x:XC)(fr:Fr)(m:Mem):Res:=A0E m (x.run fr)
def A6x(op:BinOp)(t:TypeId)(x y:Operand)(cx a:XC)(fr:Fr)(m:Mem):Res:=A2I P m op t x y (cx.run fr) (a.run fr)
def kUn(op:UnOp)(x:XC)(fr:Fr)(m:Mem):Res:=noM (unM op (x.run fr)) m
def A4i(s t:TypeId)(x:XC)(fr:Fr)(m:Mem):Res:=FM P m s t (x.run fr)
def AM(s:TypeId)(x:XC)(i:Nat)(fr:Fr)(m:Mem):Res:=noM (eJ P s (x.run fr) i) m
def A0k(s:TypeId)(x:XC)(i:Nat)(fr:Fr)(m:Mem):Res:=noM (IL P s (x.run fr) i) m
def AL(t:TypeId)(x i:XC)(fr:Fr)(m:Mem):Res:=noM (m7 P t (x.run fr) (i.run fr)) m
def A0j(t:TypeId)(x i:XC)(fr:Fr)(m:Mem):Res:=noM (nY P t (x.run fr) (i.run fr)) m
def MJ(x:XC)(i:Nat)(fr:Fr)(m:Mem):Res:=nP m (x.run fr) i
def MK(b:Builtin)(xs:LC)(tys:List TypeId)(fr:Fr)(m:Mem):Res:=kP P m b (xs.run fr) tys
def BK(o:Op):OpC :=
 match o with
 | .move x=>⟨A0i (V6 x)⟩
 | .assign x=>⟨A0i (V6 x)⟩
 | .pick c a b=>⟨A4g (V6 c) (V6 a) (V6 b)⟩
 | .box e x=>⟨A6w e (V6 x)⟩
 | .load t x=>⟨A4h P t (V6 x)⟩
 | .store t x y=>⟨A0h P t (V6 x) (V6 y)⟩
 | .nilCheck x=>⟨A6u (V6 x)⟩
 | .binOp op t x y _=>⟨A6x P op t x y (V6 x) (V6 y)⟩
 | .unOp op _ x=>⟨kUn op (V6 x)⟩
 | .convert s t x=>⟨A4i P s t (V6 x)⟩
 | .fieldAddr s x i=>⟨AM P s (V6 x) i⟩
 | .field t x i=>⟨A0k P t (V6 x) i⟩
 | .indexAddr t x i=>⟨AL P t (V6 x) (V6 i)⟩
 | .index t x i=>⟨A0j P t (V6 x) (V6 i)⟩
 | .extract x i=>⟨MJ (V6 x) i⟩
 | .call ⟨.builtin b,xs,tys⟩=>⟨MK P b (wW xs.toList) tys.toList⟩
 | o=>⟨fun fr m=>opM P fr m o⟩
def BJ(o:Op)(fr:Fr)(m:Mem):(BK P o).run fr m=opM P fr m o:=by
 unfold BK;split<;>simp only[A0i,A4g,A6w,A4h,A0h,A6u,A6x,kUn,A4i,AM,A0k,AL,A0j,MJ,MK,opM,fR,pU]
def PS(nt gl:Nat)(o:Op):Bool:=o.operands.toList.all (okX nt gl)
end
section
open Go
def A6y:BinOp->Bool
 | .eql|.neq|.lss|.leq|.gtr|.geq=>true
 | _=>false
def qR(P:Program)(m:Mem)(op:BinOp)(t:TypeId)(a b:Value):Res :=
 let c:=H6 a
 let d:=H6 b
 bif (Nat.blt c 8 && Nat.blt d 8) || (Nat.beq c 9 && Nat.beq d 9)then X4 m (bif A6y op then 8 else c) (.bin op) [a,b]else
 bif Nat.beq c 8 && Nat.beq d 8 && AQ op && (match P.underlying t with|some .bool=>true|_=>false)then X4 m 8 (.bin op) [a,b]else none
def gK(P:Program)(t:TypeId)(x y:Value):Bool :=
 match P.underlying t with
 | some .bool=>Nat.beq (H6 x) 8 && Nat.beq (H6 y) 8
 | some (.int k)=>Nat.beq (H6 x) (kJ k) && Nat.beq (H6 y) (kJ k)
 | some .string=>Nat.beq (H6 x) 9 && Nat.beq (H6 y) 9
 | _=>false
mutual
def eqS(P:Program):Nat->TypeId->Value->Value->Option E0
 | 0,_,_,_=>none
 | d+1,t,x,y=>bif gK P t x y then some [x,y]else
   match P.underlying t,x,y with
   | some (.struct fs),.agg xs,.agg ys=>bif P.stoodInHeld t then none else BF P d fs.toList xs.toList ys.toList
   | some (.array n e),.agg xs,.agg ys=>match I2 P e with
     | some s=>BF P d ((List.range n).map (A27 e s)) xs.toList ys.toList
     | none=>none
   | _,_,_=>none
def BF(P:Program):Nat->List Field->E0->E0->Option E0
 | 0,_,_,_=>none
 | _+1,[],_,_=>some []
 | d+1,f::fs,xs,ys =>
   bif f.name == "_" then none else
   match tF P f.type xs f.offset,tF P f.type ys f.offset with
   | some x,some y=>match eqS P d f.type x y,BF P d fs xs ys with
     | some a,some b=>some (a++b)
     | _,_=>none
   | _,_=>none
end
def KG(P:Program)(m:Mem)(op:BinOp)(t:TypeId)(x y:Operand)(a b:Value):Res :=
 bif oA P t x y a b then
  match op,eqS P 20 t a b with
  | .eql,some l=>X4 m 8 .eqs l
  | .neq,some l=>match X4 m 8 .eqs l with
    | some (h,m)=>X4 m 8 (.un .not) [h]
    | none=>none
  | _,_=>none
 else none
def aR(t:Nat):E0->Bool
 | []=>true
 | v::r=>Nat.beq (H6 v) t && aR t r
def aQ.sizeD(P:Program)(e:TypeId):Nat:=match I2 P e with|some n=>n|none=>0
def aQ(P:Program)(m:Mem)(t:TypeId)(x i:Value):Res :=
 bif !(Nat.blt (H6 i) 8)then none else
 match P.underlying t with
 | some .string=>bif Nat.beq (H6 x) 9 then X4 m 4 .idx [x,i]else none
 | some (.array n e)=>match x,P.underlying e with
   | .agg cs,some (.int k)=>bif Nat.beq (cs.toList.length) n && aR (kJ k) cs.toList && Nat.beq (aQ.sizeD P e) 1 then X4 m (kJ k) .sel (i::cs.toList)else none
   | .agg cs,some .string=>bif Nat.beq (cs.toList.length) n && aR 9 cs.toList && Nat.beq (aQ.sizeD P e) 1 then X4 m 9 .sel (i::cs.toList)else none
   | _,_=>none
 | _=>none
def nD(P:Program)(m:Mem)(t:TypeId)(x:Value)(a hi mx:Option Value):Res :=
 match P.underlying t,mx with
 | some .string,none=>bif Nat.beq (H6 x) 9 then
    match a,hi with
    | none,none=>some (x,m)
    | some l,none=>bif Nat.blt (H6 l) 8 then X4 m 9 .sub1 [x,l]else none
    | none,some h=>bif Nat.blt (H6 h) 8 then X4 m 9 .sub [x,.int .i64 0,h]else none
    | some l,some h=>bif Nat.blt (H6 l) 8 && Nat.blt (H6 h) 8 then X4 m 9 .sub [x,l,h]else none
   else none
 | _,_=>none
def KB(m:Mem)(op:UnOp)(x:Value):Res :=
 let t:=H6 x
 match op with
 | .not=>bif Nat.beq t 8 then X4 m 8 (.un .not) [x]else none
 | op=>bif Nat.blt t 8 then X4 m t (.un op) [x]else none
def sS(P:Program)(m:Mem)(s t:TypeId)(x:Value):Res :=
 match P.underlying s,P.underlying t with
 | some (.int _),some (.int k)=>bif Nat.blt (H6 x) 8 then X4 m (kJ k) (.conv k) [x]else none
 | some .string,some .string=>bif Nat.beq (H6 x) 9 then some (x,m)else none
 | _,_=>none
def fY(P:Program)(m:Mem)(b:Builtin)(vs:List Value)(tys:List TypeId):Res :=
 match b,vs,tys with
 | .len,[x],t::_=>match P.underlying t with
   | some .string=>bif Nat.beq (H6 x) 9 then X4 m 3 .len [x]else none
   | _=>none
 | .max,[x,y],_=>bif Nat.blt (H6 x) 8 && Nat.beq (H6 x) (H6 y)then X4 m (H6 x) .max [x,y]else none
 | .min,[x,y],_=>bif Nat.blt (H6 x) 8 && Nat.beq (H6 x) (H6 y)then X4 m (H6 x) .min [x,y]else none
 | _,_,_=>none
def VQ(m:Mem)(a:Addr)(s n:Nat)(i:Value):Res :=
 bif !(Nat.blt (H6 i) 8)then none else
 match X4 m 8 .inb [i,.int .i64 (.ofNat n)]with
 | some (b,⟨H,k,W,hi,lg⟩)=>match brL lg b with
   | some (true,lg)=>some (ixp a s i n,⟨H,k,W,hi,lg⟩)
   | _=>none
 | none=>none
def fW(P:Program)(m:Mem)(t:TypeId)(x i:Value):Res :=
 match P.underlying t,x with
 | some (.array n e),.pointer (some a)=>match I2 P e,a.spot with
   | some s,none=>VQ m a s n i
   | _,_=>none
 | some (.slice e),.slice (some a) n c=>match I2 P e,a.spot with
   | some s,none=>bif Nat.beq c (O7+2)then none else VQ m a s n i
   | _,_=>none
 | _,_=>none
def fX(P:Program)(m:Mem)(s:TypeId)(x:Value)(i:Nat):Res :=
 match x with
 | .func (.yield 1) ⟨[.pointer (some a),.int .i64 (.ofNat k),j,.int .i64 (.ofNat n)]⟩ ⟨[]⟩=>match P.underlying s with
   | some (.struct fs)=>match fs.toList[i]?,a.spot with
     | some f,none=>match I2 P f.type with
       | some (_+1)=>some (ixp (dM a f.offset) k j n,m)
       | _=>none
     | _,_=>none
   | _=>none
 | _=>none
def yB(cs:List Value)(s o:Nat):Nat->Option E0
 | 0=>some []
 | n+1=>match cs[o]?,yB cs s (o+s) n with
   | some v,some r=>some (v::r)
   | _,_=>none
def eB(m:Mem)(cs:List Value)(s n:Nat)(i:Value):Nat->Nat->Option (E0×Mem)
 | _,0=>some ([],m)
 | o,k+1=>match yB cs s o n with
   | some (v::l)=>bif aR (H6 v) (v::l) && Nat.blt (H6 v) 10 then match X4 m (H6 v) .sel (i::v::l)with
     | some (h,m)=>match eB m cs s n i (o+1) k with
       | some (r,m)=>some (h::r,m)
       | none=>none
     | none=>none else none
   | _=>none
def sR(P:Program)(m:Mem)(t:TypeId)(x:Value):Res :=
 match x with
 | .func (.yield 1) ⟨[.pointer (some a),.int .i64 (.ofNat s),i,.int .i64 (.ofNat n)]⟩ ⟨[]⟩ =>
   match cQ P t,I2 P t with
   | some false,_=>match bR m a ((n-1)*s+1)with
     | some cs=>match eB m cs s n i 0 1 with
       | some ([h],m)=>some (h,m)
       | _=>none
     | none=>none
   | some true,some z=>match bR m a ((n-1)*s+z)with
     | some cs=>match eB m cs s n i 0 z with
       | some (hs,m)=>some (.agg ⟨hs⟩,m)
       | none=>none
     | none=>none
   | _,_=>none
 | _=>none
def yA(m:Mem)(c a b:Value):Res :=
 match m with
 | ⟨H,n,W,hi,lg⟩=>match brL lg c with
   | some (true,lg)=>some (a,⟨H,n,W,hi,lg⟩)
   | some (false,lg)=>some (b,⟨H,n,W,hi,lg⟩)
   | none=>none
def YN(P:Program)(fr:Fr)(m:Mem)(o:Op):Res :=
 match o with
 | .pick c a b=>yA m (ev fr c) (ev fr a) (ev fr b)
 | .binOp op t x y _=>match qR P m op t (ev fr x) (ev fr y)with
   | some r=>some r
   | none=>KG P m op t x y (ev fr x) (ev fr y)
 | .unOp op _ x=>KB m op (ev fr x)
 | .convert s t x=>sS P m s t (ev fr x)
 | .slice t x d hi mx=>nD P m t (ev fr x) (evO fr d) (evO fr hi) (evO fr mx)
 | .index t x i=>aQ P m t (ev fr x) (ev fr i)
 | .indexAddr t x i=>fW P m t (ev fr x) (ev fr i)
 | .fieldAddr s x i=>fX P m s (ev fr x) i
 | .load t x=>sR P m t (ev fr x)
 | .call ⟨.builtin b,xs,tys⟩=>fY P m b (evL fr xs.toList) tys.toList
 | _=>none
def rE(m:Mem)(b:Nat):Bool :=
 match Hp.get m.H b with
 | some .frz=>Nat.ble b J0
 | _=>false
def PN{α:Type}(l:List α):Nat->List α
 | 0=>[]
 | n+1=>l++PN l n
mutual
def YK(P:Program):Nat->TypeId->Option I7
 | 0,_=>none
 | d+1,t=>match P.underlying t with
   | some .bool=>some [8]
   | some (.int k)=>some [kJ k]
   | some .string=>some [9]
   | some (.slice e)=>match I2 P e with
     | some w=>some [10+w]
     | none=>none
   | some (.struct fs)=>A37 P d fs.toList
   | some (.array n e)=>match YK P d e with
     | some l=>some (PN l n)
     | none=>none
   | _=>none
def A37(P:Program):Nat->List Field->Option I7
 | 0,_=>none
 | _+1,[]=>some []
 | d+1,f::fs=>match YK P d f.type,A37 P d fs with
   | some a,some b=>some (a++b)
   | _,_=>none
end
def nC(P:Program)(t:TypeId):Option I7 :=
 match YK P 30 t,I2 P t with
 | some l,some n=>bif Nat.beq l.length n then some l else none
 | _,_=>none
def n7.letDo(t:Nat)(op:LOp)(xs:List Value)(m:Mem)(k:Nat->Mem->Option (E0×Mem)):Option (E0×Mem) :=
 match m with
 | ⟨H,n,W,hi,⟨nx,pi,log⟩⟩=>K3 nx fun nx=>K3 t fun t=>U0 xs fun xs=>k nx ⟨H,n,W,hi,⟨Nat.succ nx,pi,.dt nx t op xs::log⟩⟩
def n7(w o i t:Nat)(z:Value)(g:Nat):I7->Nat->Mem->Option (E0×Mem)
 | [],_,m=>some ([],m)
 | tg::ts,j,m=>bif Nat.blt tg 10 then
    match X4 m tg (.get w (o+j)) [hole i t,z]with
    | some (h,m)=>match n7 w o i t z g ts (j+1) m with
      | some (r,m)=>some (h::r,m)
      | none=>none
    | none=>none
   else n7.letDo tg (.get w (o+j)) [hole i t,z] m fun nx m=>match n7 w o i t z g ts (j+1) m with
     | some (r,m)=>some (dat g nx tg::r,m)
     | none=>none
def oM(P:Program)(t:TypeId)(r:Option (E0×Mem)):Res :=
 match cQ P t,r with
 | some false,some ([v],m)=>some (v,m)
 | some true,some (vs,m)=>some (.agg ⟨vs⟩,m)
 | _,_=>none
def MB(P:Program)(m:Mem)(t:TypeId)(x:Value):Res :=
 match x,nC P t with
 | .func (.yield 5) ⟨[.pointer (some ⟨b,0,none⟩),.complex .f64 i tg,z,.int .i64 (.ofNat o)]⟩ ⟨[]⟩,some ts =>
   bif rE m b then oM P t (n7 (tg-10) o i tg z b ts 0 m)else none
 | .func (.yield 6) ⟨[.pointer (some ⟨b,0,none⟩),.complex .f64 i tg,z,.int .i64 (.ofNat o)]⟩ ⟨[]⟩,some ts =>
   match Hp.get m.H b with
   | some (.sq c tc T g ro)=>bif Nat.beq tc tg then oM P t (n7 (tg-10) o c tg z g ts 0 m)else none
   | _=>none
 | _,_=>none
def MO(m:Mem)(i t:Nat)(z:Value)(k:Value):Res :=
 bif !(Nat.blt (H6 z) 8)then none else
 match X4 m 8 (.inbs (t-10)) [z,hole i t]with
 | some (b,⟨H,n,W,hi,lg⟩)=>match brL lg b with
   | some (true,lg)=>some (k,⟨H,n,W,hi,lg⟩)
   | _=>none
 | none=>none
def nZ(P:Program)(m:Mem)(t:TypeId)(x z:Value):Res :=
 match P.underlying t,x with
 | some (.slice e),.func (.yield 4) ⟨[.pointer (some ⟨b,0,none⟩),.complex .f64 i tg]⟩ ⟨[]⟩=>match I2 P e with
   | some (s+1)=>bif Nat.beq tg (10+(s+1))then MO m i tg z (opt b i tg z 0)else none
   | _=>none
 | some (.slice e),.func (.yield 2) ⟨[.pointer (some ⟨b,0,none⟩),.complex .f64 i tg]⟩ ⟨[]⟩=>match I2 P e with
   | some (s+1)=>bif Nat.beq tg (10+(s+1))then MO m i tg z (dpt b i tg z 0)else none
   | _=>none
 | some (.slice e),.func (.yield 3) ⟨[.pointer (some ⟨b,0,none⟩),.complex .f64 i tg]⟩ ⟨[]⟩=>match I2 P e with
   | some (s+1)=>bif Nat.beq tg (10+(s+1))then MO m i tg z (dpt b i tg z 0)else none
   | _=>none
 | some (.array n e),.func (.yield 5) ⟨[.pointer (some ⟨b,0,none⟩),.complex .f64 i tg,y,.int .i64 (.ofNat o)]⟩ ⟨[]⟩=>match I2 P e,z with
   | some s,.int _ (.ofNat k)=>bif Nat.blt k n && Nat.blt (o+k*s) (tg-10)then some (K3 (o+k*s) fun o=>dpt b i tg y o,m)else none
   | _,_=>none
 | some (.array n e),.func (.yield 6) ⟨[.pointer (some ⟨b,0,none⟩),.complex .f64 i tg,y,.int .i64 (.ofNat o)]⟩ ⟨[]⟩=>match I2 P e,z with
   | some s,.int _ (.ofNat k)=>bif Nat.blt k n && Nat.blt (o+k*s) (tg-10)then some (K3 (o+k*s) fun o=>opt b i tg y o,m)else none
   | _,_=>none
 | _,_=>none
def oD(P:Program)(m:Mem)(s:TypeId)(x:Value)(f:Nat):Res :=
 match P.underlying s,x with
 | some (.struct fs),.func (.yield 5) ⟨[.pointer (some ⟨b,0,none⟩),.complex .f64 i tg,y,.int .i64 (.ofNat o)]⟩ ⟨[]⟩=>match fs.toList[f]? with
   | some fd=>match I2 P fd.type with
     | some (_+1)=>bif Nat.blt (o+fd.offset) (tg-10)then some (K3 (o+fd.offset) fun o=>dpt b i tg y o,m)else none
     | _=>none
   | none=>none
 | some (.struct fs),.func (.yield 6) ⟨[.pointer (some ⟨b,0,none⟩),.complex .f64 i tg,y,.int .i64 (.ofNat o)]⟩ ⟨[]⟩=>match fs.toList[f]? with
   | some fd=>match I2 P fd.type with
     | some (_+1)=>bif Nat.blt (o+fd.offset) (tg-10)then some (K3 (o+fd.offset) fun o=>opt b i tg y o,m)else none
     | _=>none
   | none=>none
 | _,_=>none
def tW(i:Nat):List u7->Option Nat
 | []=>none
 | .lt j t .len [.complex .f64 k _]::r=>bif Nat.beq k i && Nat.beq t 3 then some j else tW i r
 | _::r=>tW i r
def HW(m:Mem)(i t:Nat):Res :=
 match tW i m.lg.log with
 | some j=>some (hole j 3,m)
 | none=>X4 m 3 .len [hole i t]
def A2a(P:Program)(m:Mem)(t:TypeId)(x:Value):Res :=
 match P.underlying t,x with
 | some (.slice _),.func (.yield 2) ⟨[.pointer (some ⟨b,0,none⟩),.complex .f64 i tg]⟩ ⟨[]⟩=>HW m i tg
 | some (.slice _),.func (.yield 3) ⟨[.pointer (some ⟨b,0,none⟩),.complex .f64 i tg]⟩ ⟨[]⟩=>HW m i tg
 | some (.slice _),.func (.yield 4) ⟨[.pointer (some ⟨b,0,none⟩),.complex .f64 i tg]⟩ ⟨[]⟩=>HW m i tg
 | _,_=>none
def jN(m:Mem)(k:Nat->Mem->Option (Value×Nat×Mem)):Option (Value×Nat×Mem) :=
 match m with
 | ⟨H,n,W,hi,lg⟩=>bif Nat.ble n J0 then K3 n fun n=>K3 (upN hi n) fun hi=>Hp.put H n (some .frz) fun H=>k n ⟨H,Nat.succ n,W,hi,lg⟩else none
def toD(t:Nat)(v:Value)(m:Mem):Option (Value×Nat×Mem) :=
 match v with
 | .func (.yield 2) ⟨[.pointer (some ⟨b,0,none⟩),.complex .f64 i tg]⟩ ⟨[]⟩=>bif Nat.beq tg t && rE m b then some (hole i tg,b,m)else none
 | .func (.yield 3) ⟨[.pointer (some ⟨b,0,none⟩),.complex .f64 i tg]⟩ ⟨[]⟩=>bif Nat.beq tg t && rE m b then some (hole i tg,b,m)else none
 | .func (.yield 4) ⟨[.pointer (some ⟨b,0,none⟩),.complex .f64 i tg]⟩ ⟨[]⟩=>match Hp.get m.H b with
   | some (.sq c tc T g true)=>bif (Nat.beq tg t && Nat.beq tc t) && rE m g then jN m fun b' m=>some (hole c tc,b',m)else none
   | some (.sq c tc T g false)=>bif (Nat.beq tg t && Nat.beq tc t) && rE m g then match eA m b (.sq c tc T g true)with
     | some m=>jN m fun b' m=>some (hole c tc,b',m)
     | none=>none else none
   | _=>none
 | .slice none 0 0=>bif Nat.ble 10 t then(match xI m t (.nilw (t-10)) [] fun nx m=>some (hole nx t,m)with
   | some (h,m)=>jN m fun b' m=>some (h,b',m)
   | none=>none)else none
 | _=>none
abbrev Td:=Nat->Value->Mem->Option (Value×Nat×Mem)
def CM(a:Td):I7->E0->Mem->Option (E0×I7×Mem)
 | [],[],m=>some ([],[],m)
 | t::ts,v::vs,m=>bif Nat.blt t 10 then
    bif Nat.beq (H6 v) t then match CM a ts vs m with
     | some (r,gs,m)=>some (v::r,gs,m)
     | none=>none else none
   else match a t v m with
    | some (h,b,m)=>match CM a ts vs m with
      | some (r,gs,m)=>some (h::r,b::gs,m)
      | none=>none
    | none=>none
 | _,_,_=>none
def mM(gs:List Nat)(m:Mem):Option (Nat×Mem) :=
 match gs with
 | [g]=>bif rE m g then some (g,m)else none
 | gs=>bif gs.all (rE m)then match jN m fun b m=>some (undef,b,m)with
   | some (_,b,m)=>some (b,m)
   | none=>none else none
def RN:Value->Value->Bool
 | .complex .f64 i _,.complex .f64 j _=>Nat.beq i j
 | .int k a,.int j b=>wD k j && DE a b
 | _,_=>false
def AN(v:Value):Bool:=Nat.blt (H6 v) 8
def iZ(m:Mem)(b i t:Nat)(l h:Value)(c:Bool):Res:=bif AN l && AN h then xI m t (.subs (t-10)) [hole i t,l,h] fun nx m=>some (bif c then clp b nx t else dat b nx t,m)else none
def NE(m:Mem)(b i t:Nat)(cl:Bool)(l:Value)(hi mx:Option Value):Res :=
 match hi,mx with
 | some h,none=>iZ m b i t l h false
 | some h,some x=>bif RN h x then iZ m b i t l h true else none
 | none,none=>match HW m i t with
   | some (h,m)=>iZ m b i t l h cl
   | none=>none
 | none,some _=>none
def A6p(a:Option Value):Value :=
 match a with
 | some l=>l
 | none=>.int .i64 0
def NG(m:Mem)(b i t:Nat)(cl:Bool)(a hi mx:Option Value):Res:=NE m b i t cl (A6p a) hi mx
def zH(P:Program)(m:Mem)(t:TypeId)(x:Value)(a hi mx:Option Value):Res :=
 match P.underlying t,x with
 | some (.slice e),.func (.yield 2) ⟨[.pointer (some ⟨b,0,none⟩),.complex .f64 i tg]⟩ ⟨[]⟩=>match I2 P e with
   | some s=>bif Nat.beq tg (10+s)then NG m b i tg false a hi mx else none
   | none=>none
 | some (.slice e),.func (.yield 3) ⟨[.pointer (some ⟨b,0,none⟩),.complex .f64 i tg]⟩ ⟨[]⟩=>match I2 P e with
   | some s=>bif Nat.beq tg (10+s)then NG m b i tg true a hi mx else none
   | none=>none
 | some (.slice e),.func (.yield 4) ⟨[.pointer (some ⟨b,0,none⟩),.complex .f64 i tg]⟩ ⟨[]⟩=>match I2 P e with
   | some s=>bif Nat.beq tg (10+s)then match toD tg x m with
     | some (.complex .f64 c _,b',m)=>NG m b' c tg false a hi mx
     | _=>none else none
   | none=>none
 | _,_=>none
inductive Beh where
 | cells (xs:List Value)
 | rows (x:Value)
 | str (x:Value)
def fB(w:Nat)(c:Value):Beh->LOp×E0
 | .cells xs=>(.snoc w,c::xs)
 | .rows x=>(.cat w,[c,x])
 | .str x=>(.cats,[c,x])
def A1e(c:Td)(P:Program)(m:Mem)(e:TypeId)(w:Nat)(y:Value):Option (Beh×I7×Bool×Mem) :=
 match y with
 | .slice none 0 _=>some (.cells [],[],false,m)
 | .slice (some a) n _=>match bR m a (n*w),nC P e with
   | some cs,some ts=>match CM c (PN ts n) cs m with
     | some (xs,gs,m)=>some (.cells xs,gs,Nat.blt 0 n,m)
     | none=>none
   | _,_=>none
 | .func _ _ _=>match c (10+w) y m with
   | some (x,b,m)=>some (.rows x,[b],false,m)
   | none=>none
 | y=>bif Nat.beq (H6 y) 9 && Nat.beq w 1 then some (.str y,[],false,m)else none
def FY(a:Td)(P:Program)(m:Mem)(e:TypeId)(w:Nat)(x:Value):Option (Nat×I7×Option Nat×Mem) :=
 match x with
 | .slice none 0 0=>match xI m (10+w) (.nilw w) [] fun nx m=>some (hole nx (10+w),m)with
   | some (.complex .f64 c _,m)=>some (c,[],none,m)
   | _=>none
 | .func (.yield 4) ⟨[.pointer (some ⟨b,0,none⟩),.complex .f64 i tg]⟩ ⟨[]⟩=>match Hp.get m.H b with
   | some (.sq c tc T g false)=>bif (Nat.beq tg (10+w) && Nat.beq tc tg) && (Nat.beq T e && Nat.ble b J0)then some (c,[g],some b,m)else none
   | _=>none
 | .slice (some ⟨b,0,none⟩) n c=>match Hp.get m.H b,nC P e with
   | some (.cells cs _ _),some ts=>bif Nat.beq cs.length (n*w) && (Nat.beq c n && Nat.blt c O7 || Nat.beq c O7)then match CM a (PN ts n) cs m with
     | some (xs,gs,m)=>match Hp.get m.H b with
       | some (.cells _ T false)=>bif Nat.beq T e && Nat.ble b J0 then match xI m (10+w) (.mk w) xs fun nx m=>some (hole nx (10+w),m)with
         | some (.complex .f64 c _,m)=>some (c,gs,some b,m)
         | _=>none else none
       | _=>none
     | none=>none else none
   | _,_=>none
 | _=>none
def dG(m:Mem)(c t:Nat)(T:TypeId)(g:Nat):Res:=w8 m (.sq c t T g false) fun b=>own b c t
def WP(P:Program)(e:TypeId)(n:Nat):Bool :=
 match iC P e with
 | some z=>Nat.beq z.cells.size n
 | none=>false
def mJ(old:Option Nat)(m:Mem):Mem :=
 match old with
 | some b=>mL m b
 | none=>m
def VH(a:Td)(P:Program)(m:Mem)(e:TypeId)(w:Nat)(x:Value):Res :=
 match P.info? e with
 | some inf=>bif Nat.beq inf.size w && Nat.blt 0 w then match FY a P m e w x with
   | some (c,gs,old,m)=>match mM gs m with
     | some (g,m)=>dG (mJ old m) c (10+w) e g
     | none=>none
   | none=>none else none
 | none=>none
def YG(P:Program):Nat->Td
 | 0=>toD
 | d+1=>fun t v m=>match v with
   | .slice (some ⟨b,0,none⟩) _ _=>match Hp.get m.H b with
     | some (.cells _ T _)=>match VH (YG P d) P m T (t-10) v with
       | some (x,m)=>toD t x m
       | none=>none
     | _=>none
   | v=>toD t v m
def tdP(P:Program):Td:=YG P 3
def LE(m:Mem)(e:TypeId)(w c:Nat)(old:Option Nat)(a:Beh)(gs:List Nat):Res :=
 match mM gs m with
 | some (g,m)=>xI m (10+w) (fB w (hole c (10+w)) a).1 (fB w (hole c (10+w)) a).2 fun nx m=>dG (mJ old m) nx (10+w) e g
 | none=>none
def uI(P:Program)(m:Mem)(t t2:TypeId)(x y:Value):Res :=
 match P.underlying t,P.underlying t2 with
 | some (.slice e),some d2=>bif !(eS d2)then none else
   match P.info? e with
   | some i=>bif (Nat.ble i.bytes 90000 && Nat.blt 0 i.size) && WP P e i.size then
     match A1e (tdP P) P m e i.size y with
     | some (bh,gs,sure,m)=>match FY (tdP P) P m e i.size x with
       | some (c,g0,old,m)=>LE m e i.size c old bh (g0++gs)
       | none=>match x,sure with
         | .func (.yield 3) ⟨[.pointer (some ⟨b,0,none⟩),.complex .f64 c tg]⟩ ⟨[]⟩,true=>bif Nat.beq tg (10+i.size)then LE m e i.size c none bh (b::gs)else none
         | _,_=>none
     | none=>none else none
   | none=>none
 | _,_=>none
def zF(P:Program)(m:Mem)(t:TypeId)(x v:Value):Res :=
 match x,nC P t with
 | .func (.yield 6) ⟨[.pointer (some ⟨b,0,none⟩),.complex .f64 i tg,z,.int .i64 (.ofNat o)]⟩ ⟨[]⟩,some ts=>bif lU v then none else
   match CM (tdP P) ts v.cells.toList m with
   | some (xs,gs,m)=>match Hp.get m.H b with
     | some (.sq c tc T g false)=>bif Nat.beq tc tg then match mM (g::gs) m with
       | some (g,m)=>match xI m tg (.set (tg-10) o) (hole c tg::z::xs) fun nx m=>some (hole nx tg,m)with
         | some (.complex .f64 nx _,m)=>PW (eA m b (.sq nx tg T g false))
         | _=>none
       | none=>none else none
     | _=>none
   | none=>none
 | _,_=>none
def A4f(m m1:Mem):Mem :=
 match m,m1 with
 | ⟨H,n,W,_,_⟩,⟨_,_,_,hi,lg⟩=>⟨H,n,W,hi,lg⟩
def NJ(P:Program)(m:Mem)(s t:TypeId)(x:Value):Res :=
 match P.underlying s,P.underlying t,x with
 | some (.slice e),some .string,.slice (some a) n _=>match P.underlying e with
   | some (.int .u8)=>match bR m a n with
     | some cs=>bif aR 4 cs then X4 m 9 .mks cs else none
     | none=>none
   | _=>none
 | some (.slice e),some .string,.func _ _ _=>match P.underlying e with
   | some (.int .u8)=>match toD 11 x m with
     | some (h,_,m1)=>X4 (A4f m m1) 9 .str [h]
     | none=>none
   | _=>none
 | some _,some (.slice e),x=>bif Nat.beq (H6 x) 9 then match P.underlying e with
   | some (.int .u8)=>match I2 P e with
     | some 1=>match mM [] m with
       | some (g,m)=>match xI m 11 .byt [x] fun nx m=>some (hole nx 11,m)with
         | some (.complex .f64 nx _,m)=>dG m nx 11 e g
         | _=>none
       | none=>none
     | _=>none
   | _=>none else none
 | _,_,_=>none
def A0l:Value->Bool
 | .slice none 0 0=>true
 | _=>false
def A0I(P:Program)(m:Mem)(op:BinOp)(t:TypeId)(x y:Operand)(a b:Value):Res :=
 match P.underlying t,a with
 | some (.slice _),.func (.yield k) ⟨[.pointer (some ⟨_,0,none⟩),.complex .f64 i tg]⟩ ⟨[]⟩=>bif A0l b && isC y && (Nat.beq k 2 || Nat.beq k 3 || Nat.beq k 4)then
   match op,X4 m 8 .nilp [hole i tg]with
   | .eql,some r=>some r
   | .neq,some (h,m)=>X4 m 8 (.un .not) [h]
   | _,_=>none else none
 | _,_=>none
def LW(P:Program)(m:Mem)(t:TypeId)(l c:Value):Res :=
 match P.underlying t,l,c with
 | some (.slice e),.complex .f64 i ti,.complex .f64 j tj=>bif (Nat.beq i j && Nat.beq ti 3) && Nat.beq tj 3 then
   match P.info? e with
   | some inf=>bif Nat.ble inf.bytes 90000 && Nat.blt 0 inf.size then
     match iC P e with
     | some z=>bif Nat.beq z.cells.size inf.size && z.cells.toList.all (fun z=>Nat.blt (H6 z) 10)then
       match mM [] m with
       | some (g,m)=>match xI m (10+inf.size) (.rep inf.size) (hole i 3::z.cells.toList) fun nx m=>some (hole nx (10+inf.size),m)with
         | some (.complex .f64 nx _,m)=>dG m nx (10+inf.size) e g
         | _=>none
       | none=>none else none
     | none=>none else none
   | none=>none else none
 | _,_,_=>none
def dsM(P:Program)(fr:Fr)(m:Mem)(o:Op):Res :=
 match o with
 | .makeSlice t l c=>LW P m t (ev fr l) (ev fr c)
 | .load t x=>MB P m t (ev fr x)
 | .store t x y=>zF P m t (ev fr x) (ev fr y)
 | .indexAddr t x i=>nZ P m t (ev fr x) (ev fr i)
 | .fieldAddr s x i=>oD P m s (ev fr x) i
 | .slice t x a hi mx=>zH P m t (ev fr x) (evO fr a) (evO fr hi) (evO fr mx)
 | .convert s t x=>NJ P m s t (ev fr x)
 | .binOp op t x y _=>A0I P m op t x y (ev fr x) (ev fr y)
 | .call ⟨.builtin .len,xs,tys⟩=>match evL fr xs.toList,tys.toList with
   | [x],t::_=>A2a P m t x
   | _,_=>none
 | .call ⟨.builtin .append,xs,tys⟩=>match evL fr xs.toList,tys.toList with
   | [x,y],t::t2::_=>uI P m t t2 x y
   | _,_=>none
 | _=>none
def TO(P:Program)(m:Mem)(s t:TypeId)(x:Value):Res :=
 match P.underlying s,P.underlying t,x with
 | some (.pointer e),some .unsafePointer,.pointer (some ⟨b,o,none⟩)=>match I2 P e,Hp.get m.H b with
   | some (_+1),some (.cells cs _ _)=>bif Nat.blt o cs.length then some (x,m)else none
   | _,_=>none
 | some .unsafePointer,some (.pointer u),.pointer (some ⟨b,0,none⟩)=>match I2 P u,Hp.get m.H b with
   | some (k+1),some (.cells cs T false)=>bif Nat.beq T u && Nat.beq cs.length (k+1)then some (x,m)else none
   | _,_=>none
 | some (.slice _),some (.slice e),.slice (some ⟨b,o,none⟩) n c=>bif Nat.beq s t && !(Nat.beq c (O7+2))then match P.underlying e,Hp.get m.H b with
   | some (.int .u8),some (.cells cs T false)=>match eA m b (.cells cs T false)with
     | some m1=>some (x,m1)
     | none=>none
   | _,_=>none else none
 | _,_,_=>none
def RW(P:Program)(m:Mem)(op:BinOp)(t:TypeId)(a b:Value):Res :=
 match P.underlying t,a,b with
 | some (.pointer e),.pointer (some ⟨b1,o1,none⟩),.pointer (some ⟨b2,o2,none⟩)=>bif Nat.beq b1 b2 && Nat.beq o1 o2 then match P.info? e,op with
   | some _,.eql=>some (.bool true,m)
   | some _,.neq=>some (.bool false,m)
   | _,_=>none else none
 | _,_,_=>none
def sdM(P:Program)(m:Mem)(ty:TypeId)(x:Value):Res :=
 match P.underlying ty with
 | some (.pointer _)=>match x with
  | .func (.yield 4) ⟨[.pointer (some ⟨b,0,none⟩),.complex .f64 i t]⟩ ⟨[]⟩=>match Hp.get m.H b with
   | some (.sq _ _ _ _ _)=>some (sdt b,m)
   | _=>none
  | _=>none
 | _=>none
def usM(P:Program)(m:Mem)(a:TypeId)(p l:Value):Res :=
 match p with
 | .func (.yield 9) ⟨[.pointer (some ⟨b,0,none⟩)]⟩ ⟨[]⟩=>bif Nat.blt (H6 l) 8 then match Hp.get m.H b,P.underlying a with
   | some (.sq c tc T g false),some (.pointer e)=>bif Nat.beq e T && Nat.beq tc 11 then match I2 P T,X4 m 9 .ustr [hole c tc,l]with
     | some 1,some (v,m)=>match eA m b (.sq c tc T g true)with
       | some m=>some (v,m)
       | none=>none
     | _,_=>none else none
   | _,_=>none else none
 | _=>none
def iK(P:Program)(t:TypeId):Option Nat :=
 match P.underlying t with
 | some .bool=>some 8
 | some (.int k)=>some (kJ k)
 | some .string=>some 9
 | _=>none
def wT(P:Program):List Field->Nat->Option I7
 | [],_=>some []
 | f::r,i=>match iK P f.type,wT P r (i+1)with
   | some t,some l=>bif !(f.name == "_") && Nat.beq f.offset i then some (t::l)else none
   | _,_=>none
def qH(P:Program)(t:TypeId):Option (Bool×List Nat) :=
 match P.underlying t with
 | some (.struct fs)=>bif P.stoodInHeld t then none else match wT P fs.toList 0 with
   | some l=>some (true,l)
   | none=>none
 | _=>match iK P t with
   | some k=>some (false,[k])
   | none=>none
def RC(P:Program)(t:TypeId):Option (Bool×List Nat) :=
 match cQ P t,nC P t with
 | some true,some l=>bif l.all (fun k=>Nat.blt k 10)then some (true,l)else none
 | some false,some [k]=>bif Nat.blt k 10 then some (false,[k])else none
 | _,_=>none
structure MTy where
 kt:TypeId
 vt:TypeId
 ka:Bool
 ks:I7
 va:Bool
 vs:I7
def MTy.w(y:MTy):Nat:=y.ks.length+y.vs.length
def VK(P:Program)(T:TypeId):Option MTy :=
 match P.underlying T with
 | some (.map kt vt)=>match qH P kt,RC P vt with
   | some (ka,k::ks),some (va,vs)=>some ⟨kt,vt,ka,k::ks,va,vs⟩
   | _,_=>none
 | _=>none
def BD:I7->E0->Bool
 | [],[]=>true
 | t::ts,v::vs=>Nat.beq (H6 v) t && BD ts vs
 | _,_=>false
def pW(a:Bool)(b:List Nat)(v:Value):Option E0 :=
 match a,v with
 | true,.agg cs=>bif BD b cs.toList then some cs.toList else none
 | true,_=>none
 | false,v=>bif BD b [v]then some [v]else none
def A1i(a:Bool)(vs:List Value):S8 :=
 match a,vs with
 | true,vs=>some (.agg ⟨vs⟩)
 | false,[v]=>some v
 | false,_=>none
def A0M(P:Program)(m:Mem)(T:TypeId):Res :=
 match VK P T with
 | some y=>xI m (10+y.w) (.mk y.w) [] fun nx m=>w8 m (.mp nx (10+y.w) T) fun b=>.map (some b)
 | none=>none
def vF(w kw c t:Nat)(a:List Value):I7->E0->Nat->Mem->Option (E0×Mem)
 | [],[],_,m=>some ([],m)
 | tg::ts,z::zs,j,m=>match X4 m tg (.mget w kw j) (hole c t::z::a)with
   | some (h,m)=>match vF w kw c t a ts zs (j+1) m with
     | some (r,m)=>some (h::r,m)
     | none=>none
   | none=>none
 | _,_,_,_=>none
def AG(P:Program)(m:Mem)(T:TypeId)(x k:Value)(ok:Bool):Res :=
 match x,VK P T with
 | .map (some r),some y=>match Hp.get m.H r,pW y.ka y.ks k,iC P y.vt with
   | some (.mp c t T2),some kc,some z=>bif Nat.beq T2 T then match pW y.va y.vs z with
     | some a=>match vF y.w y.ks.length c t kc y.vs a y.ks.length m with
       | some (hs,m)=>match A1i y.va hs with
         | some v=>bif ok then match X4 m 8 (.mhas y.w y.ks.length) (hole c t::kc)with
            | some (b,m)=>some (.tuple ⟨[v,b]⟩,m)
            | none=>none
           else some (v,m)
         | none=>none
       | none=>none
     | none=>none else none
   | _,_,_=>none
 | _,_=>none
def EG(P:Program)(m:Mem)(T:TypeId)(x k v:Value):Res :=
 match x,VK P T with
 | .map (some r),some y=>match Hp.get m.H r,pW y.ka y.ks k,pW y.va y.vs v with
   | some (.mp c t T2),some kc,some vc=>bif Nat.beq T2 T && Nat.blt t 1000 then xI m t (.mput y.w y.ks.length) (hole c t::(kc++vc)) fun nx m=>PW (eA m r (.mp nx t T))else none
   | _,_,_=>none
 | _,_=>none
def ME(P:Program)(m:Mem)(T:TypeId)(x:Value):Res :=
 match P.underlying T,x with
 | some (.map _ _),.map (some r)=>match Hp.get m.H r with
   | some (.mp c t _)=>HW m c t
   | _=>none
 | _,_=>none
def zU(P:Program)(m:Mem)(t:TypeId)(x:Value):Res :=
 match P.underlying t with
 | some .string=>bif Nat.beq (H6 x) 9 then w8 m (.iter [x,.int .i64 (.ofNat 0)]) fun b=>.pointer (some ⟨b,0,none⟩)else none
 | _=>none
def IV:Value->Value->Option (ByteArray×Nat)
 | .string s,.int .i64 (.ofNat k)=>some (s,k)
 | _,_=>none
def LQ(m:Mem)(x:Value):Res :=
 match x with
 | .pointer (some ⟨r,0,none⟩)=>match Hp.get m.H r with
   | some (.iter [s,p])=>match IV s p with
     | some (b,k)=>bif Nat.blt k b.data.toList.length then K3 (k+(Utf8.decode b k).2) fun a=>match eA m r (.iter [s,.int .i64 (.ofNat a)])with
        | some m=>K3 (Utf8.decode b k).1 fun c=>some (.tuple ⟨[.bool true,p,.int .i32 (.ofNat c)]⟩,m)
        | none=>none
       else some (.tuple ⟨[.bool false]⟩,m)
     | none=>bif Nat.beq (H6 s) 9 && Nat.beq (H6 p) 3 then match X4 m 3 .len [s]with
       | some (h,m)=>match X4 m 8 (.bin .lss) [p,h]with
         | some (c,⟨H,n,W,hi,lg⟩)=>match brL lg c with
           | some (true,lg)=>match X4 ⟨H,n,W,hi,lg⟩ 2 .rune [s,p]with
             | some (y,m)=>match X4 m 3 .rpos [s,p]with
               | some (q,m)=>match eA m r (.iter [s,q])with
                 | some m=>some (.tuple ⟨[.bool true,p,y]⟩,m)
                 | none=>none
               | none=>none
             | none=>none
           | some (false,lg)=>some (.tuple ⟨[.bool false]⟩,⟨H,n,W,hi,lg⟩)
           | none=>none
         | none=>none
       | none=>none else none
   | _=>none
 | _=>none
def xtM(P:Program)(fr:Fr)(m:Mem)(o:Oper):Res :=
 match o.op with
 | .convert s t x=>TO P m s t (ev fr x)
 | .binOp op t x y _=>RW P m op t (ev fr x) (ev fr y)
 | .call ⟨.builtin .unsafeSliceData,xs,_⟩=>match evL fr xs.toList with
   | [x]=>sdM P m o.type x
   | _=>none
 | .call ⟨.builtin .unsafeString,xs,tys⟩=>match evL fr xs.toList,tys.toList with
   | [p,l],t::_=>usM P m t p l
   | _,_=>none
 | .makeMap t none=>A0M P m t
 | .lookup t x k ok=>AG P m t (ev fr x) (ev fr k) ok
 | .range t x=>zU P m t (ev fr x)
 | .next x true=>LQ m (ev fr x)
 | .mapUpdate t x k v=>EG P m t (ev fr x) (ev fr k) (ev fr v)
 | .insert t x k v=>EG P m t (ev fr x) (ev fr k) (ev fr v)
 | .call ⟨.builtin .len,xs,tys⟩=>match evL fr xs.toList,tys.toList with
   | [x],t::_=>ME P m t x
   | _,_=>none
 | _=>none
inductive EK where
 | noEscape|makeNoZero (e:TypeId)|indexByteString|countString|indexString|copyString
 deriving DecidableEq
def MZ:List (FuncId×EK)->FuncId->Option EK
 | [],_=>none
 | (g,k)::r,f=>bif Nat.beq g f then some k else MZ r f
structure FnC where
 run:E0->Mem->Res
structure Q5 where
 fn:FuncId->FnC
 yl:FnC
def pM:Value->Bool
 | .tuple ⟨[]⟩=>true
 | _=>false
def JP(lg:Lg)(v:Value)(b:Bool):Option (Bool×Lg) :=
 match v with
 | .bool c=>some (c == b,lg)
 | .complex k i t=>match brL lg (.complex k i t)with
   | some (c,lg)=>some (c == b,lg)
   | none=>none
 | v=>bif pM v then some (false,lg)else none
def dF(nt:Nat)(fr:Fr)(lg:Lg)(ops:List Oper)(o:Oper):Option (Bool×Lg) :=
 match o.guard with
 | none=>some (true,lg)
 | some (j,b)=>match ops[j]? with
   | some p=>match p.dst with
     | some t=>bif Nat.blt t nt then JP lg (fr.get t) b else none
     | none=>none
   | none=>none
def yQ(v:Value)(vs:List Value):Option (FuncId×List Value) :=
 match v with
 | .func (.func f) a b=>some (f,a.toList++(vs++b.toList))
 | _=>none
def fS(v:Value):Option Nat :=
 match v with
 | .func (.yield 7) ⟨[.pointer (some ⟨b,0,none⟩)]⟩ ⟨[]⟩=>some b
 | _=>none
def LO(call:Q5)(m:Mem)(v:Value)(vs:List Value):Res :=
 match yQ v vs with
 | some (f,vs)=>(call.fn f).run vs m
 | none=>match fS v with
   | some _=>call.yl.run (v::vs) m
   | none=>none
def A6v(call:Q5)(x:XC)(xs:LC)(fr:Fr)(m:Mem):Res:=LO call m (x.run fr) (xs.run fr)
def A52(f:FnC)(xs:LC)(fr:Fr)(m:Mem):Res:=f.run (xs.run fr) m
def A0g(P:Program)(c:OpC)(o:Oper)(fr:Fr)(m:Mem):Res :=
 match c.run fr m with
 | some r=>some r
 | none=>match YN P fr m o.op with
   | some r=>some r
   | none=>match dsM P fr m o.op with
     | some r=>some r
     | none=>xtM P fr m o
def d8(P:Program)(call:Q5)(o:Oper):OpC :=
 match o.op with
 | .call ⟨.value (.func f),xs,_⟩=>⟨A52 (call.fn f) (wW xs.toList)⟩
 | .call ⟨.value x,xs,_⟩=>⟨A6v call (V6 x) (wW xs.toList)⟩
 | op=>⟨A0g P (BK P op) o⟩
def BG(nt:Nat)(d:Option Tmp):Bool :=
 match d with
 | some d=>Nat.blt d nt
 | none=>true
structure A6M where
 run:Value->Fr->(Fr->Option S)->Option S
def xK(d:Option Tmp):A6M :=
 match d with
 | some t=>⟨xH (sel (t / 64%8)) (sel (t / 8%8)) (sel (t%8))⟩
 | none=>⟨fun _ fr k=>k fr⟩
structure A1o where
 run:S->Option S
def nH(c:OpC)(d:A6M)(next:A1o)(s:S):Option S :=
 match s with
 | ⟨fr,m⟩=>match c.run fr m with
   | some (v,m')=>bif Nat.ble m.hi m'.hi then d.run v fr fun fr=>next.run ⟨fr,m'⟩else none
   | none=>none
def gA(nt:Nat)(all:List Oper)(o:Oper)(c:OpC)(d:A6M)(next:A1o)(s:S):Option S :=
 match s with
 | ⟨fr,⟨H,n,W,hi,lg⟩⟩=>match dF nt fr lg all o with
   | some (true,lg)=>nH c d next ⟨fr,⟨H,n,W,hi,lg⟩⟩
   | some (false,lg)=>d.run undef fr fun fr=>next.run ⟨fr,⟨H,n,W,hi,lg⟩⟩
   | none=>none
def Y8(P:Program)(nt gl:Nat)(call:Q5)(all:List Oper):List Oper->A1o
 | []=>⟨some⟩
 | o::r=>bif BG nt o.dst && PS nt gl o.op then match o.guard with
   | none=>⟨fun s=>nH (d8 P call o) (xK o.dst) (Y8 P nt gl call all r) s⟩
   | some _=>⟨fun s=>gA nt all o (d8 P call o) (xK o.dst) (Y8 P nt gl call all r) s⟩
   else⟨fun _=>none⟩
structure Rec where
 i:Nat
 lo:Nat
 hi:Nat
inductive Cls where
 | free
 | one (b:Nat)
 | all
def A7A(fr:Fr)(o:Op):Cls :=
 match o with
 | .move _|.assign _|.pick ..|.alloc _|.box ..|.build ..|.buildSlice ..|.nilCheck _|.binOp ..|.unOp ..|.makeInterface ..|.makeFunc ..|.makeMap ..|.makeSlice ..
 | .fieldAddr ..|.field ..|.indexAddr ..|.index ..|.extract ..|.range ..=>.free
 | .slice _ x _ _ _=>match ev fr x with
   | .slice _ _ _|.string _|.pointer _|.complex _ _ _=>.free
   | _=>.all
 | .convert _ _ x=>match ev fr x with
   | .int _ _|.string _=>.free
   | _=>.all
 | .call ⟨.builtin .len,xs,_⟩=>match evL fr xs.toList with
   | [.slice _ _ _]|[.string _]=>.free
   | _=>.all
 | .call ⟨.builtin .min,_,_⟩|.call ⟨.builtin .max,_,_⟩=>.free
 | .call ⟨.builtin .unsafeSliceData,xs,_⟩=>match evL fr xs.toList with
   | [.slice _ _ _]=>.free
   | _=>.all
 | .load _ x|.store _ x _=>match ev fr x with
   | .pointer (some a)=>.one a.block
   | _=>.all
 | _=>.all
def FB(H:Hp AB):I7->Hp AB
 | []=>H
 | b::r=>Hp.put H b none fun H=>FB H r
def GA(H0 H:Hp AB):I7->Hp AB
 | []=>H
 | b::r=>Hp.put H b (Hp.get H0 b) fun H=>GA H0 H r
def PD:Nat->Nat->I7
 | _,0=>[]
 | lo,n+1=>lo::PD (lo+1) n
def w9:List Rec->I7
 | []=>[]
 | r::rs=>PD r.lo (r.hi-r.lo)++w9 rs
def bY(l:List Nat)(b:Nat):Bool:=l.any (Nat.beq b)
def JD(l:List Nat):Bool:=l.all fun b=>Nat.ble b J0
def EM(b:List Nat)(rs:List Rec):List Rec:=rs.filter fun r=>!(bY b r.i)
def DN(m:Mem)(c:Cls)(us:List Rec):Option Mem :=
 match m with
 | ⟨H,n,_,hi,lg⟩=>match c with
   | .free=>some ⟨hp0,n,[],hi,lg⟩
   | .one b=>bif bY (w9 us) b || !(Nat.ble b J0)then none else Hp.put hp0 b (Hp.get H b) fun H=>some ⟨H,n,[],hi,lg⟩
   | .all=>bif JD (w9 us)then some ⟨FB H (w9 us),n,[],hi,lg⟩else none
def nR(m m':Mem):Option Mem :=
 bif Nat.ble m'.hi m.n then(match m with|⟨H,n,W,hi,_⟩=>some ⟨H,n,W,hi,m'.lg⟩)else
 bif Nat.ble m'.hi J0 then IH (GA m'.H m.H (PD m.n (m'.hi-m.n))) fun H=>K3 m'.hi fun n=>some ⟨H,n,m.W,n,m'.lg⟩else none
def TL(fr:Fr)(m:Mem)(o:Oper)(b:List Nat)(rs:List Rec)(op:OpC)(k:Value->Mem->Option S):Option S :=
 let us:=EM b rs
 let c:=A7A fr o.op
 match DN m c us with
 | some mv=>match op.run fr mv with
   | some (v,m') =>
     match m'.W,Nat.ble m.hi m'.hi with
     | [],true=>match nR m m' with
       | some m2=>k v m2
       | none=>none
     | _,_=>none
   | none=>none
 | none=>none
def wrO:Op->Bool
 | .call _|.store ..|.mapUpdate ..=>true
 | _=>false
def cJ:Op->Bool
 | .move _|.assign _|.extract ..|.slice ..=>true
 | _=>false
def A5l:Op->Bool
 | .field ..|.fieldAddr ..|.index ..|.indexAddr ..|.binOp ..|.unOp ..|.build ..|.load ..|.pick ..|.convert ..|.slice ..|.nilCheck _=>true
 | .call ⟨.builtin .len,_,_⟩|.call ⟨.builtin .min,_,_⟩|.call ⟨.builtin .max,_,_⟩=>true
 | o=>cJ o
def GY(a b:Addr):Bool :=
 match a,b with
 | ⟨x,o,none⟩,⟨y,p,none⟩=>Nat.beq x y && Nat.beq o p
 | _,_=>false
def PK(f g:Fn):Bool :=
 match f,g with
 | .func f,.func g=>Nat.beq f g
 | .yield f,.yield g=>Nat.beq f g
 | _,_=>false
def DV(s:Value->Value->Bool):E0->E0->Bool
 | [],[]=>true
 | a::l,b::r=>s a b && DV s l r
 | _,_=>false
def zN:Nat->Value->Value->Bool
 | _,.bool a,.bool b=>a == b
 | _,.int k n,.int j m=>wD k j && DE n m
 | _,.complex .f64 i t,.complex .f64 j u=>Nat.beq i j && Nat.beq t u
 | _,.complex .f32 i t,.complex .f32 j u=>Nat.beq i j && Nat.beq t u
 | _,.string s,.string t=>decide (s.data.toList=t.data.toList)
 | _,.pointer none,.pointer none=>true
 | _,.pointer (some a),.pointer (some b)=>GY a b
 | _,.slice none n c,.slice none m d=>Nat.beq n m && Nat.beq c d
 | _,.slice (some a) n c,.slice (some b) m d=>GY a b && (Nat.beq n m && Nat.beq c d)
 | _,.map none,.map none=>true
 | _,.map (some a),.map (some b)=>Nat.beq a b
 | _,.nilFunc,.nilFunc=>true
 | _,.nilIface,.nilIface=>true
 | d+1,.func f a b,.func g a' b'=>PK f g && (DV (zN d) a.toList a'.toList && DV (zN d) b.toList b'.toList)
 | d+1,.iface t v,.iface u w=>Nat.beq t u && zN d v w
 | _,_,_=>false
def ZC(a b:AB):Bool :=
 match a,b with
 | .frz,.frz=>true
 | .cells cs T ro,.cells cs' T' ro'=>DV (zN 6) cs cs' && (Nat.beq T T' && (ro == ro'))
 | _,_=>false
def ZL(H:Hp AB)(b:Nat):Option (Nat×AB) :=
 match Hp.get H b with
 | some .frz=>some (b,.frz)
 | some (.cells cs T ro)=>some (b,.cells cs T ro)
 | _=>none
def MT(H:Hp AB)(fr:Fr)(o:Op):Option (Nat×AB) :=
 match o with
 | .load _ x=>match ev fr x with
   | .func (.yield 5) ⟨.pointer (some a)::_⟩ _=>ZL H a.block
   | .pointer (some a)=>ZL H a.block
   | _=>none
 | _=>none
def AP(H:Hp AB)(b:Nat)(ab:AB):Bool :=
 match Hp.get H b with
 | some x=>Nat.ble b J0 && ZC x ab
 | none=>false
def uG:Nat:=262144
def HH(m:Mem)(r:Option (Nat×AB))(us:List Rec):Option Mem :=
 match m with
 | ⟨H,_,_,_,lg⟩=>match r with
   | none=>some ⟨hp0,uG,[],uG,lg⟩
   | some (b,ab)=>bif bY (w9 us) b || !(AP H b ab)then none else Hp.put hp0 b (some ab) fun H=>some ⟨H,uG,[],uG,lg⟩
def nK(fr:Fr)(m:Mem)(o:Oper)(b:List Nat)(rs:List Rec)(op:OpC):Option (Value×Lg) :=
 match HH m (MT m.H fr o.op) (EM b rs)with
 | some mv=>match op.run fr mv with
   | some (v,⟨_,_,[],hi,lg⟩)=>bif Nat.beq hi uG then some (v,lg)else none
   | _=>none
 | none=>none
abbrev Qs:=List (Nat×Option (Nat×AB))
def JE:Nat->I7->Qs->Bool
 | 0,_,_=>true
 | n+1,b,qs=>(bY b n || qs.any fun q=>Nat.beq n q.1) && JE n b qs
def HY(i:Nat):List I7->List Oper->Bool
 | c::bs,o::r=>(bY c i || cJ o.op) && HY i bs r
 | _,_=>true
def A4e(H:Hp AB)(r:Option (Nat×AB)):Bool :=
 match r with
 | none=>true
 | some (b,ab)=>AP H b ab
def A0f(b:List Nat)(H:Hp AB)(a:Qs):Bool:=a.all fun q=>bY b q.1 || A4e H q.2
def KK(o:Op)(i:Nat)(b:List Nat)(bs:List I7)(r:List Oper)(a:Qs):Bool:=wrO o && (JE i b a && HY i bs r)
def bD(P:Program)(nt gl:Nat)(call:Q5)(all:List Oper):List Oper->Nat->List I7->List Rec->Qs->S->Option S
 | [],_,_,_,_,s=>some s
 | _::_,_,[],_,_,_=>none
 | o::r,i,b::bs,rs,qs,⟨fr,⟨H,n,W,hi,lg⟩⟩=>match dF nt fr lg all o,BG nt o.dst && PS nt gl o.op with
   | some (true,lg),true=>bif KK o.op i b bs r qs then(match (d8 P call o).run fr ⟨H,n,W,hi,lg⟩with
      | some (v,m2)=>bif Nat.ble hi m2.hi && A0f b m2.H qs then(xK o.dst).run v fr fun fr=>bD P nt gl call all r (i+1) bs [] qs ⟨fr,m2⟩else none
      | none=>none)
     else match (bif A5l o.op then nK fr ⟨H,n,W,hi,lg⟩ o b rs (d8 P call o)else none)with
      | some (v,lg2)=>(xK o.dst).run v fr fun a=>bD P nt gl call all r (i+1) bs rs ((i,MT H fr o.op)::qs) ⟨a,⟨H,n,W,hi,lg2⟩⟩
      | none=>bif cJ o.op then none else TL fr ⟨H,n,W,hi,lg⟩ o b rs (d8 P call o) fun v m2 =>
        (xK o.dst).run v fr fun fr=>bD P nt gl call all r (i+1) bs (⟨i,n,m2.n⟩::rs) qs ⟨fr,m2⟩
   | some (false,lg),true=>(xK o.dst).run undef fr fun fr=>bD P nt gl call all r (i+1) bs rs ((i,none)::qs) ⟨fr,⟨H,n,W,hi,lg⟩⟩
   | _,_=>none
def A1l(l:List Nat)(b:Nat):I7:=bif bY l b then l else K3 b fun b=>b::l
def SU:I7->I7->I7
 | [],b=>b
 | x::a,b=>A1l (SU a b) x
def uJ(acc:List I7):List Edge->I7
 | []=>[]
 | e::r=>bif Region.binds .any e then A1l (SU (acc.getD e.on []) (uJ acc r)) e.on else uJ acc r
def u6:List Oper->List I7->List I7
 | [],acc=>acc
 | o::r,acc=>U0 (uJ acc o.after.toList) fun a=>u6 r (acc++[a])
def sO:Operand->List Tmp
 | .tmp t=>[t]
 | _=>[]
def Z6(ops:List Oper)(o:Oper):List Tmp :=
 o.dst.toList++(o.op.operands.toList.flatMap sO++(match o.guard with
  | none=>[]
  | some (j,_)=>match ops[j]? with
    | some p=>p.dst.toList
    | none=>[]))
def A2F(a:List I7)(i k:Nat):Bool:=bif Nat.blt i k then bY (a.getD k []) i else bY (a.getD i []) k
def uM(a:List I7)(i:Nat)(b:List Tmp):List Oper->Nat->Bool
 | [],_=>true
 | p::r,k=>(Nat.beq k i || (match p.dst with|none=>true|some t=>!(bY b t) || A2F a i k)) && uM a i b r (k+1)
def pT(i:Nat):List Edge->Bool
 | []=>true
 | e::r=>(!(Region.binds .any e) || Nat.blt e.on i) && pT i r
def LL(ops:List Oper)(a:List I7):List Oper->Nat->Bool
 | [],_=>true
 | o::r,i=>pT i o.after.toList && (uM a i (Z6 ops o) ops 0 && LL ops a r (i+1))
def IQ(ops:Array Oper):Bool:=LL ops.toList (u6 ops.toList []) ops.toList 0
def IU:Op->Bool
 | .move _|.assign _|.load _ _|.store _ _ _=>true
 | _=>false
def oN:Op->Option (TypeId×Operand)
 | .load t x=>some (t,x)
 | .store t x _=>some (t,x)
 | _=>none
def iR:Op->Bool
 | .store _ _ _=>true
 | _=>false
def ZJ:Op->List Tmp
 | .move x|.assign x=>sO x
 | .load _ x=>sO x
 | .store _ x y=>sO x++sO y
 | _=>[]
def EF(o:Oper)(l:List Tmp):Bool :=
 match o.dst with
 | some d=>bY l d
 | none=>false
def A60(a b:Oper):Bool :=
 (match a.dst,b.dst with
   | some d,some e=>!(Nat.beq d e)
   | _,_=>true) && (!(EF a (ZJ b.op)) && (!(EF b (ZJ a.op)) && !(iR a.op && iR b.op)))
def uB(o:Oper)(i:Nat):Bool:=o.after.any fun e=>Region.binds .any e && Nat.beq e.on i
def A1m(l:List Oper):List Tmp:=l.flatMap fun o=>match oN o.op with
 | some (_,x)=>sO x
 | none=>[]
def HI(p:Oper->Oper->Bool)(l:List Oper):Bool :=
 (List.range l.length).all fun j=>(List.range j).all fun i=>match l[i]?,l[j]? with
   | some a,some b=>uB b i || p a b
   | _,_=>true
def A5q(a:List Tmp)(i:Nat)(o:Oper):Bool:=IU o.op && ((match o.guard with|none=>true|some _=>false) && (!(EF o a) && o.after.all fun e=>!(Region.binds .any e) || Nat.blt e.on i))
def A0D(a:List Tmp):Nat->List Oper->Bool
 | _,[]=>true
 | i,o::l=>A5q a i o && A0D a (i+1) l
def nI(l:List Oper):Bool:=A0D (A1m l) 0 l && HI A60 l
def ZT(P:Program)(nt gl:Nat)(fr:Fr)(H:Hp AB)(o:Oper):Bool :=
 match oN o.op with
 | none=>true
 | some (t,x)=>bif !(okX nt gl x)then false else match ev fr x,cQ P t,I2 P t with
   | .pointer (some a),some _,some s=>match a.spot,Hp.get H a.block with
     | none,some (.cells cs _ false)=>Nat.ble (a.off+s) cs.length && (Nat.blt a.off cs.length && Nat.ble a.block J0)
     | _,_=>false
   | _,_,_=>false
def A1j(fr:Fr)(a b:Oper):Bool :=
 bif iR a.op || iR b.op then match oN a.op,oN b.op with
  | some (_,x),some (_,y)=>match ev fr x,ev fr y with
    | .pointer (some p),.pointer (some q)=>!(Nat.beq p.block q.block)
    | _,_=>false
  | _,_=>true else true
def nT(P:Program)(nt gl:Nat)(fr:Fr)(H:Hp AB)(l:List Oper):Bool:=l.all (ZT P nt gl fr H) && HI (A1j fr) l
structure jC where
 run:S->Option (Ex×S)
def EO(f:jC):Nat->S->Option (Ex×S)
 | 0,_=>none
 | n+1,s=>match f.run s with
   | some (.normal,s)=>EO f n s
   | r=>r
def A1T(a b:jC)(s:S):Option (Ex×S) :=
 match a.run s with
 | some (.normal,s)=>b.run s
 | r=>r
def NO(c:XC)(a b:jC)(s:S):Option (Ex×S) :=
 match c.run s.fr with
 | .bool true=>a.run s
 | .bool false=>b.run s
 | v=>match s with
   | ⟨fr,⟨H,n,W,hi,lg⟩⟩=>match brL lg v with
     | some (true,lg)=>a.run ⟨fr,⟨H,n,W,hi,lg⟩⟩
     | some (false,lg)=>b.run ⟨fr,⟨H,n,W,hi,lg⟩⟩
     | none=>none
def BV(id:Nat)(c:jC)(s:S):Option (Ex×S) :=
 match c.run s with
 | some (.exit j,s)=>bif Nat.beq j id then some (.normal,s)else some (.exit j,s)
 | r=>r
def s9(r:A1o)(s:S):Option (Ex×S) :=
 match r.run s with
 | some s=>some (.normal,s)
 | none=>none
structure LpT where
 me:FuncId
 look:List Bool->Option (S->Option (Ex×S))
def EP(c:jC)(L:S->Option (Ex×S)):Nat->S->Option (Ex×S)
 | 0,_=>none
 | n+1,s=>match L s with
   | some r=>some r
   | none=>match c.run s with
     | some (.normal,s)=>EP c L n s
     | r=>r
def NM(c:jC)(l:Option (S->Option (Ex×S)))(s:S):Option (Ex×S) :=
 match l with
 | some f=>EP c f 4 s
 | none=>EO c 1000000 s
def frL(fr:Fr):Nat->Nat->E0
 | _,0=>[]
 | i,n+1=>fr.get i::frL fr (i+1) n
def A4H:Value->Nat
 | .pointer (some a)=>a.block
 | _=>0
def kO(v:Value):I7 :=
 match v with
 | .func (.yield 8) ⟨l⟩ ⟨[]⟩=>l.map A4H
 | _=>[]
def exN:Ex->Nat
 | .normal=>0
 | .ret=>2
 | .exit k=>k+4
def nEx:Nat->Option Ex
 | 0=>some .normal
 | 1=>none
 | 2=>some .ret
 | 3=>none
 | k+4=>some (.exit k)
def HZ:Ex->Bool
 | .normal=>true
 | _=>false
def tB(fr:Fr)(hi:Nat)(b:Nat)(r:Res):Option (Ex×S) :=
 match r with
 | some (_,m)=>match Hp.get m.H b with
   | some (.lp f q vs st)=>match nEx st with
     | some e=>bif Nat.ble hi m.hi then match eA m b (.lp f q vs 3)with
       | some m=>some (e,⟨fr,m⟩)
       | none=>none else none
     | none=>none
   | _=>none
 | none=>none
def tO(P:Program)(f:FuncId):Bool :=
 match P.funcs.toList[f]? with
 | some fn=>match fn.body with
   | some _=>true
   | none=>false
 | none=>false
def dV(P:Program)(nt:Nat)(call:Q5)(f:FuncId)(q:List Bool)(g:Value)(fr:Fr)(m:Mem):Option (Ex×S) :=
 U0 (frL fr 0 nt) fun vs=>match w8 m (.lp f q vs 0) yv with
 | some (v,m1)=>match yQ g [v],fS v with
   | some (k,as),some b=>bif tO P k then tB fr m1.hi b ((call.fn k).run as m1)else none
   | _,_=>none
 | none=>none
def BU(P:Program)(nt:Nat)(call:Q5)(f:FuncId)(q:List Bool)(x:XC)(s:S):Option (Ex×S) :=
 match s with
 | ⟨fr,m⟩=>bif Nat.ble nt 510 then match fS (fr.get 511)with
   | some d=>match Hp.get m.H d with
     | some (.lp _ _ _ 1)=>dV P nt call f q (x.run fr) fr m
     | _=>none
   | none=>bif pM (fr.get 511)then match w8 m (.dfr true) (fun b=>.pointer (some ⟨b,0,none⟩))with
      | some (.pointer (some a),m1)=>U0 (kO (fr.get 510)) fun l=>xH (sel 7) (sel 7) (sel 6) (dv (a.block::l)) fr fun c=>dV P nt call f q (x.run fr) c m1
      | _=>none else none
   else none
def P1(P:Program)(nt gl:Nat)(call:Q5)(lp:LpT):List Bool->Code->jC
 | _,.skip=>⟨fun s=>some (.normal,s)⟩
 | _,.label _=>⟨fun s=>some (.normal,s)⟩
 | _,.region _ ops d=>match d with
   | false=>⟨fun s=>s9 (Y8 P nt gl call ops.toList ops.toList) s⟩
   | true=>bif IQ ops then bif nI ops.toList then⟨fun s=>bif nT P nt gl s.fr s.m.H ops.toList then s9 (Y8 P nt gl call ops.toList ops.toList) s else s9 ⟨bD P nt gl call ops.toList ops.toList 0 (u6 ops.toList []) [] []⟩ s⟩
     else⟨fun s=>s9 ⟨bD P nt gl call ops.toList ops.toList 0 (u6 ops.toList []) [] []⟩ s⟩else⟨fun _=>none⟩
 | q,.seq a b=>⟨fun s=>A1T (P1 P nt gl call lp (q++[false]) a) (P1 P nt gl call lp (q++[true]) b) s⟩
 | q,.cond c a b=>bif okX nt gl c then⟨fun s=>NO (V6 c) (P1 P nt gl call lp (q++[false]) a) (P1 P nt gl call lp (q++[true]) b) s⟩else⟨fun _=>none⟩
 | q,.block id c=>⟨fun s=>BV id (P1 P nt gl call lp (q++[false]) c) s⟩
 | q,.loop c=>⟨fun s=>NM (P1 P nt gl call lp (q++[false]) c) (lp.look q) s⟩
 | q,.rangeFunc x _ _ _=>bif okX nt gl x then⟨fun s=>BU P nt call lp.me q (V6 x) s⟩else⟨fun _=>none⟩
 | q,.scope c=>P1 P nt gl call lp (q++[false]) c
 | _,.exit id=>⟨fun s=>some (.exit id,s)⟩
 | _,.ret=>⟨fun s=>some (.ret,s)⟩
 | _,_=>⟨fun _=>none⟩
def MQ(ids:Value->List Nat):E0->I7
 | []=>[]
 | v::r=>ids v++MQ ids r
def DC:Nat->Value->I7
 | 0,_=>[]
 | _+1,.pointer (some a)=>[a.block]
 | _+1,.slice (some a) _ _=>[a.block]
 | _+1,.map (some b)=>[b]
 | d+1,.func _ a b=>MQ (DC d) a.toList++MQ (DC d) b.toList
 | d+1,.iface _ v=>DC d v
 | d+1,.agg cs=>MQ (DC d) cs.toList
 | d+1,.tuple cs=>MQ (DC d) cs.toList
 | _+1,_=>[]
def A61:AB->I7
 | .cells cs _ _=>MQ (DC 10) cs
 | .mp _ _ _=>[]
 | .iter vs=>MQ (DC 10) vs
 | .lp _ _ vs _=>MQ (DC 10) vs
 | .dfr _=>[]
 | .sq _ _ _ g _=>[g]
 | .frz=>[]
def KV(n0:Nat)(H:Hp AB):Nat->I7->I7->I7
 | 0,_,acc=>acc
 | _+1,[],acc=>acc
 | f+1,b::r,acc=>bif Nat.blt b n0 || bY acc b then KV n0 H f r acc else match Hp.get H b with
   | some ab=>KV n0 H f (A61 ab++r) (b::acc)
   | none=>KV n0 H f r acc
def gI(a H:Hp AB):I7->Hp AB
 | []=>H
 | b::r=>Hp.put H b (Hp.get a b) fun H=>gI a H r
def wOf(H:Hp AB):I7->I7
 | []=>[]
 | b::r=>(match Hp.get H b with|some ab=>A61 ab|none=>[])++wOf H r
def qI:I7->I7->I7
 | [],acc=>acc
 | b::r,acc=>bif bY acc b then qI r acc else qI r (b::acc)
def qA(low:Value->Bool):E0->Bool
 | []=>true
 | v::r=>low v && qA low r
def aK(n:Nat):Nat->Value->Bool
 | 0,_=>false
 | _+1,.pointer (some a)=>Nat.blt a.block n
 | _+1,.slice (some a) _ _=>Nat.blt a.block n
 | _+1,.map (some b)=>Nat.blt b n
 | d+1,.func _ a b=>qA (aK n d) a.toList && qA (aK n d) b.toList
 | d+1,.iface _ v=>aK n d v
 | d+1,.agg cs=>qA (aK n d) cs.toList
 | d+1,.tuple cs=>qA (aK n d) cs.toList
 | _+1,.complex _ _ _=>true
 | _+1,v=>J8 v
def A2V(n:Nat):Option AB->Bool
 | none=>true
 | some (.cells cs _ _)=>qA (aK n 10) cs
 | some (.mp _ _ _)=>true
 | some (.iter vs)=>qA (aK n 10) vs
 | some (.lp _ _ vs _)=>qA (aK n 10) vs
 | some (.dfr _)=>true
 | some (.sq _ _ _ g _)=>Nat.blt g n
 | some .frz=>true
def PY(n:Nat)(H:Hp AB):I7->Bool
 | []=>true
 | b::r=>A2V n (Hp.get H b) && PY n H r
def gcM(m m':Mem)(v:Value):Option Mem :=
 let W:=qI (m'.W.filter fun b=>Nat.blt b m.n || Nat.ble m'.hi b) []
 bif aK m.n 10 v && PY m.n m'.H W then
  bif JD W then IH (gI m'.H m.H W) fun H=>K3 m'.hi fun hi=>U0 (W++m.W) fun W=>some ⟨H,m.n,W,hi,m'.lg⟩else none
 else
  let ids:=(KV m.n m'.H 100000 (DC 10 v++wOf m'.H W) []).filter fun b=>Nat.ble m.n b && Nat.blt b m'.hi
  bif JD (W++ids)then IH (gI m'.H m.H (W++ids)) fun H=>K3 m'.n fun n=>K3 m'.hi fun hi=>U0 (W++m.W) fun W=>some ⟨H,n,W,hi,m'.lg⟩else none
def A6a(P:Program)(nt:Nat)(s:S):ResultVar->S8
 | .tmp t=>bif Nat.blt t nt then some (s.fr.get t)else none
 | .cell a t=>bif Nat.blt a nt then match s.fr.get a with
   | .pointer (some a)=>SO P s.m t a
   | _=>none else none
def VC(P:Program)(nt:Nat)(s:S):List ResultVar->Option E0
 | []=>some []
 | r::rs=>match A6a P nt s r,VC P nt s rs with
   | some v,some vs=>some (v::vs)
   | _,_=>none
def VB(fn:Func)(P:Program)(s:S):S8 :=
 match VC P fn.ntmps s fn.results.toList with
 | some [v]=>some v
 | some vs=>some (.tuple ⟨vs⟩)
 | none=>none
def gX(fr:Fr):Nat->E0->Fr
 | _,[]=>fr
 | i,v::r=>xH (sel (i / 64%8)) (sel (i / 8%8)) (sel (i%8)) v fr fun fr=>gX fr (i+1) r
def vC(l:List UInt8)(c:UInt8):Nat->Int
 | i=>match l with
   | [] => -1
   | b::r=>bif decide (b=c)then(i:Int)else vC r c (i+1)
def vN(c:UInt8):List UInt8->Nat->Nat
 | [],n=>n
 | b::r,n=>bif decide (b=c)then K3 (n+1) (vN c r)else vN c r n
def rG(k:EK)(args:List Value)(m:Mem):Res :=
 match k,args with
 | .noEscape,[v]=>some (v,m)
 | .indexByteString,[.string s,.int .u8 (.ofNat c)]=>some (.int .i64 (vC s.data.toList (UInt8.ofNat c) 0),m)
 | .countString,[.string s,.int .u8 (.ofNat c)]=>some (.int .i64 (vN (UInt8.ofNat c) s.data.toList 0),m)
 | .makeNoZero e,[.int .i64 (.ofNat n)]=>bif Nat.ble n 1000000000 then w8 m (.cells [] e false) fun b=>.slice (some ⟨b,0,none⟩) n O7 else none
 | _,_=>none
def sP:I7->Mem->Option Mem
 | [],m=>some m
 | b::r,m=>match Hp.get m.H b with
   | some (.dfr true)=>match eA m b (.dfr false)with
     | some m=>sP r m
     | none=>none
   | _=>none
def dvG(nt:Nat)(fr:Fr):I7:=bif Nat.ble nt 510 then kO (fr.get 510)else[]
def A6A(fn:Func)(P:Program)(m:Mem)(r:Option (Ex×S)):Res :=
 match r with
 | some (.normal,⟨fr,m1⟩)|some (.ret,⟨fr,m1⟩)=>match sP (dvG fn.ntmps fr) m1 with
   | some m1=>match VB fn P ⟨fr,m1⟩with
     | some v=>match gcM m m1 v with
       | some m=>some (v,m)
       | none=>none
     | none=>none
   | none=>none
 | _=>none
def PC(c:jC)(fr:Fr)(m:Mem):Option (Ex×S) :=
 match m with
 | ⟨H,n,_,hi,lg⟩=>c.run ⟨fr,⟨H,n,[],hi,lg⟩⟩
def BY(fn:Func)(P:Program)(c:jC)(args:List Value)(m:Mem):Res :=
 bif Nat.ble args.length fn.ntmps && Nat.ble fn.ntmps 512 then A6A fn P m (PC c (gX fr0 0 args) m)else none
structure Cx where
 P:Program
 ext:List (FuncId×EK)
 gl:Nat
 con:FuncId->Option FnC
 lp:FuncId->LpT
def FS(C:Cx)(call:Q5)(f:FuncId):FnC :=
 match C.P.funcs.toList[f]? with
 | none=>⟨fun _ _=>none⟩
 | some fn=>match C.con f with
   | some c=>c
   | none=>match fn.body with
     | none=>match MZ C.ext f with
       | some k=>⟨rG k⟩
       | none=>⟨fun _ _=>none⟩
     | some c=>⟨BY fn C.P (P1 C.P fn.ntmps C.gl call (C.lp f) [] c)⟩
def wN:List Tmp->E0->Fr->Option Fr
 | [],[],fr=>some fr
 | t::ts,v::vs,fr=>xH (sel (t / 64%8)) (sel (t / 8%8)) (sel (t%8)) v fr fun fr=>wN ts vs fr
 | _,_,_=>none
def sY(b:Nat)(r:Option (Ex×S)):Res :=
 match r with
 | some (e,⟨_,m⟩)=>match Hp.get m.H b with
   | some (.lp f q vs 1)=>K3 (exN e) fun st=>match eA m b (.lp f q vs st)with
     | some m=>some (.bool (HZ e),m)
     | none=>none
   | _=>none
 | none=>none
def sX(b:Nat)(c:jC)(r:Option (Ex×S)):Res :=
 match r with
 | some (.normal,⟨fr,m⟩)=>match Hp.get m.H b with
   | some (.lp f q vs 0)=>match eA m b (.lp f q vs 1)with
     | some m=>sY b (c.run ⟨fr,m⟩)
     | none=>none
   | _=>none
 | _=>none
def HD(C:Cx)(call:Q5):FnC:=⟨fun vs m =>
 match vs with
 | []=>none
 | v::args=>match fS v with
   | none=>none
   | some b=>match Hp.get m.H b with
     | some (.lp f q fs 0)=>match C.P.funcs.toList[f]? with
       | none=>none
       | some fn=>match fn.body with
         | none=>none
         | some body=>match H8 q body with
           | some (.rangeFunc _ ps as bd)=>bif Nat.ble fn.ntmps 510 && ps.toList.all (fun t=>Nat.blt t fn.ntmps)then match wN ps.toList args (gX fr0 0 fs)with
             | some fr=>xH (sel 7) (sel 7) (sel 7) v fr fun fr=>sX b (P1 C.P fn.ntmps C.gl call (C.lp f) (q++[true]) bd) ((P1 C.P fn.ntmps C.gl call (C.lp f) (q++[false]) as).run ⟨fr,m⟩)
             | none=>none else none
           | _=>none
     | _=>none⟩
def wX(C:Cx):Nat->Q5
 | 0=>⟨fun _=>⟨fun _ _=>none⟩,⟨fun _ _=>none⟩⟩
 | d+1=>⟨FS C (wX C d),HD C (wX C d)⟩
end
end Go.Sx
