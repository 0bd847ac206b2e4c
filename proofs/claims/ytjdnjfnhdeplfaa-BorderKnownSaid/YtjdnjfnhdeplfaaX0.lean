/- The law BorderKnownSaid: for every input the call returns true, and the arguments read behind it as they read before. No condition. -/
import Derived.WalkKit
import Derived.OrdersHeld
import Derived.KernelRfl
set_option linter.all false
set_option maxRecDepth 100000
set_option maxHeartbeats 4000000
namespace Go
variable {p:Prop}
abbrev cM:=@Array.all_eq_true'
abbrev H7:=@Array.ext'
abbrev B0:=@Array.getD_eq_getD_getElem?
abbrev I8:=@Array.getElem?_append_left
abbrev E0:=@Array.getElem?_eq_getElem
abbrev B5:=@Array.getElem?_eq_some_iff
abbrev F1:=@Array.getElem?_modify
abbrev K3:=@Array.getElem?_push
abbrev R7:=@Array.getElem?_replicate
abbrev g9:=@Array.getElem?_set
abbrev D1:=@Array.getElem?_setIfInBounds
abbrev M7:=@Array.getElem?_toList
abbrev O9:=@Array.length_toList
abbrev cP:=@Array.mapM_eq_mapM_toList
abbrev X1:=@Array.mk.injEq
abbrev cL:=@Array.toList_setIfInBounds
abbrev H6:=@Bool.and_eq_true
abbrev kI:=@Bool.and_true
abbrev K1:=@Bool.eq_iff_iff
abbrev G8:=@Bool.false_eq_true
abbrev R6:=@Bool.false_or
abbrev N5:=@Bool.not_true
abbrev X0:=@Bool.or_eq_false_iff
abbrev F7:=@Bool.or_eq_true
abbrev gG:=@Int.ofNat.injEq
abbrev R3:=@Int.ofNat_eq_natCast
abbrev O4:=@Int.toNat_natCast
abbrev aB:=@List.Pairwise.of_map
abbrev dN:=@List.Perm.eq_of_pairwise
abbrev iU:=@List.Perm.refl
abbrev gF:=@List.all_append
abbrev x6:=@List.all_cons
abbrev D2:=@List.all_eq_true
abbrev Z8:=@List.any_cons
abbrev N1:=@List.any_eq_true
abbrev V6:=@List.append_assoc
abbrev I4:=@List.cons.injEq
abbrev Y0:=@List.cons_append
abbrev Q5:=@List.drop_eq_getElem_cons
abbrev r8:=@List.drop_eq_nil_of_le
abbrev S9:=@List.eq_nil_iff_forall_not_mem
abbrev T6:=@List.eq_nil_of_length_eq_zero
abbrev V5:=@List.ext_getElem?
abbrev aV:=@List.filter_eq_self
abbrev aP:=@List.find?_cons
abbrev dF:=@List.flatMap_cons
abbrev gD:=@List.foldl_cons
abbrev B9:=@List.getD_eq_getElem?_getD
abbrev E5:=@List.getElem?_append_left
abbrev D5:=@List.getElem?_append_right
abbrev O2:=@List.getElem?_cons_succ
abbrev O1:=@List.getElem?_cons_zero
abbrev G4:=@List.getElem?_drop
abbrev A4:=@List.getElem?_eq_getElem
abbrev P8:=@List.getElem?_eq_none
abbrev cO:=@List.getElem?_eq_none_iff
abbrev A7:=@List.getElem?_eq_some_iff
abbrev F4:=@List.getElem?_map
abbrev y9:=@List.getElem?_set_ne
abbrev U1:=@List.getElem?_set_self
abbrev F0:=@List.getElem?_take_of_lt
abbrev I0:=@List.getElem?_toArray
abbrev L5:=@List.getElem_mem
abbrev Y8:=@List.getElem_of_mem
abbrev G7:=@List.length_append
abbrev I7:=@List.length_cons
abbrev S7:=@List.length_drop
abbrev D9:=@List.length_eq_zero_iff
abbrev E8:=@List.length_map
abbrev gC:=@List.length_set
abbrev M5:=@List.map_append
abbrev B8:=@List.map_cons
abbrev V4:=@List.map_inj_left
abbrev fN:=@List.map_map
abbrev E3:=@List.map_nil
abbrev S4:=@List.map_toArray
abbrev B7:=@List.mem_append
abbrev A8:=@List.mem_cons
abbrev C5:=@List.mem_cons_of_mem
abbrev B4:=@List.mem_cons_self
abbrev O7:=@List.mem_filter
abbrev I6:=@List.mem_map
abbrev aU:=@List.mem_map_of_mem
abbrev D6:=@List.mem_of_getElem?
abbrev W9:=@List.mem_range
abbrev G6:=@List.mem_singleton
abbrev Y7:=@List.mergeSort_perm
abbrev Q7:=@List.nil_append
abbrev dE:=@List.nodup_append
abbrev gB:=@List.nodup_cons
abbrev iT:=@List.nodup_nil
abbrev C3:=@List.not_mem_nil
abbrev P6:=@List.pairwise_cons
abbrev l6:=@List.pairwise_mergeSort
abbrev Z7:=@Nat.add_assoc
abbrev fM:=@Nat.add_comm
abbrev G0:=@Nat.add_mul
abbrev S3:=@Nat.add_sub_cancel_left
abbrev bC:=@Nat.beq_refl
abbrev lI:=@Nat.ble_eq
abbrev C4:=@Nat.ble_eq_true_of_le
abbrev gA:=@Nat.div_add_mod
abbrev A0:=@Nat.eq_of_beq_eq_true
abbrev N0:=@Nat.eq_zero_or_pos
abbrev A1:=@Nat.le_of_ble_eq_true
abbrev A6:=@Nat.le_refl
abbrev W8:=@Nat.le_succ
abbrev B6:=@Nat.le_trans
abbrev C9:=@Nat.lt_of_lt_of_le
abbrev F2:=@Nat.lt_or_ge
abbrev H5:=@Nat.lt_succ_self
abbrev fL:=@Nat.mod_lt
abbrev U0:=@Nat.mul_comm
abbrev g8:=@Nat.mul_div_cancel
abbrev iS:=@Nat.mul_le_mul
abbrev E4:=@Nat.mul_le_mul_right
abbrev aO:=@Nat.not_lt_zero
abbrev dD:=@Nat.one_mul
abbrev V3:=@Nat.succ_le_of_lt
abbrev D8:=@Nat.zero_add
abbrev iR:=@Nat.zero_le
abbrev fJ:=@Nat.zero_mul
abbrev C6:=@Option.bind_eq_some_iff
abbrev H4:=@Option.bind_some
abbrev X9:=@Option.getD_some
abbrev fZ:=@Option.map_none
abbrev I3:=@Option.map_some
abbrev A5:=@Option.some.inj
abbrev C7:=@Option.some.injEq
abbrev Y6:=@Option.some_ne_none
abbrev I9:=@Prod.mk.injEq
abbrev A3:=@Sem.run_bind
abbrev D3:=@cond_false
abbrev D7:=@cond_true
abbrev U8:=@congrArg
abbrev U7:=@decide_eq_false
abbrev cK:=@decide_eq_true
abbrev B1:=@if_neg
abbrev B2:=@if_pos
abbrev O0:=@of_decide_eq_true
def G9(h:p:=by kernel_rfl):p:=h
def dL{α:Type}{a:Option α}{b c:α}(h:a=some b)(e:b=c:=by kernel_rfl):a=some c:=h.trans (by rw[e])
def A9(h:p:=by omega):p:=h
def L7(h:p:=by decide):p:=h
end Go
namespace Go.Sx
section
open Go
abbrev D0:=List Value
abbrev F8:=List Nat
abbrev N6:=Option Value
abbrev Q0:=Array Value
structure N8 (α:Type) where
 c0:α
 c1:α
 c2:α
 c3:α
 c4:α
 c5:α
 c6:α
 c7:α
structure Sel where
 get:{α:Type}->N8 α->α
 upd:{α β:Type}->N8 α->α->(N8 α->β)->β
def sel:Nat->Sel
 | 0=>⟨fun n=>n.c0,fun n v k=>match n with|⟨a0,a1,a2,a3,a4,a5,a6,a7⟩=>k ⟨v,a1,a2,a3,a4,a5,a6,a7⟩⟩
 | 1=>⟨fun n=>n.c1,fun n v k=>match n with|⟨a0,a1,a2,a3,a4,a5,a6,a7⟩=>k ⟨a0,v,a2,a3,a4,a5,a6,a7⟩⟩
 | 2=>⟨fun n=>n.c2,fun n v k=>match n with|⟨a0,a1,a2,a3,a4,a5,a6,a7⟩=>k ⟨a0,a1,v,a3,a4,a5,a6,a7⟩⟩
 | 3=>⟨fun n=>n.c3,fun n v k=>match n with|⟨a0,a1,a2,a3,a4,a5,a6,a7⟩=>k ⟨a0,a1,a2,v,a4,a5,a6,a7⟩⟩
 | 4=>⟨fun n=>n.c4,fun n v k=>match n with|⟨a0,a1,a2,a3,a4,a5,a6,a7⟩=>k ⟨a0,a1,a2,a3,v,a5,a6,a7⟩⟩
 | 5=>⟨fun n=>n.c5,fun n v k=>match n with|⟨a0,a1,a2,a3,a4,a5,a6,a7⟩=>k ⟨a0,a1,a2,a3,a4,v,a6,a7⟩⟩
 | 6=>⟨fun n=>n.c6,fun n v k=>match n with|⟨a0,a1,a2,a3,a4,a5,a6,a7⟩=>k ⟨a0,a1,a2,a3,a4,a5,v,a7⟩⟩
 | _=>⟨fun n=>n.c7,fun n v k=>match n with|⟨a0,a1,a2,a3,a4,a5,a6,a7⟩=>k ⟨a0,a1,a2,a3,a4,a5,a6,v⟩⟩
def lF{α:Type}(v:α):N8 α:=⟨v,v,v,v,v,v,v,v⟩
def zI{α β:Type}(n:N8 α)(k:N8 α->β):β :=
 match n with
 | ⟨a0,a1,a2,a3,a4,a5,a6,a7⟩=>k ⟨a0,a1,a2,a3,a4,a5,a6,a7⟩
abbrev Fr:=N8 (N8 (N8 Value))
def Fr.get(fr:Fr)(t:Nat):Value:=(sel (t%8)).get ((sel (t / 8%8)).get ((sel (t / 64%8)).get fr))
def qD{β:Type}(a b c:Sel)(v:Value)(fr:Fr)(k:Fr->β):β :=
 c.upd (b.get (a.get fr)) v fun d=>b.upd (a.get fr) d fun e=>a.upd fr e k
def Fr.set(fr:Fr)(t:Nat)(v:Value):Fr:=qD (sel (t / 64%8)) (sel (t / 8%8)) (sel (t%8)) v fr fun fr=>fr
def fr0:Fr:=lF (lF (lF (.tuple #[])))
abbrev Hp(α:Type):=N8 (N8 (N8 (N8 (N8 (N8 (Option α))))))
def Hp.get{α:Type}(h:Hp α)(n:Nat):Option α :=
 (sel (n%8)).get ((sel (n / 8%8)).get ((sel (n / 64%8)).get ((sel (n / 512%8)).get ((sel (n / 4096%8)).get ((sel (n / 32768%8)).get h)))))
def U4{α β:Type}(a b c d e f:Sel)(v:Option α)(h:Hp α)(k:Hp α->β):β :=
 f.upd (e.get (d.get (c.get (b.get (a.get h))))) v fun i=>e.upd (d.get (c.get (b.get (a.get h)))) i fun g=>d.upd (c.get (b.get (a.get h))) g fun m=>c.upd (b.get (a.get h)) m fun j=>b.upd (a.get h) j fun l=>a.upd h l k
def Hp.put{α β:Type}(h:Hp α)(n:Nat)(v:Option α)(k:Hp α->β):β :=
 U4 (sel (n / 32768%8)) (sel (n / 4096%8)) (sel (n / 512%8)) (sel (n / 64%8)) (sel (n / 8%8)) (sel (n%8)) v h k
def Hp.set{α:Type}(h:Hp α)(n:Nat)(v:Option α):Hp α:=h.put n v fun h=>h
def hp0{α:Type}:Hp α:=lF (lF (lF (lF (lF (lF none)))))
def G1:Nat:=262143
def H9{β:Type}(n:Nat)(k:Nat->β):β :=
 match n with
 | 0=>k 0
 | m+1=>k (Nat.succ m)
def sY{β:Type}(i:Int)(k:Int->β):β :=
 match i with
 | .ofNat n=>H9 n fun n=>k (.ofNat n)
 | .negSucc n=>H9 n fun n=>k (.negSucc n)
def O6{α β:Type}:List α->(List α->β)->β
 | [],k=>k []
 | x::r,k=>O6 r fun r=>k (x::r)
def EJ:IntKind->Nat
 | .i8=>127|.i16=>32767|.i32=>2147483647|.i64=>9223372036854775807
 | .u8=>255|.u16=>65535|.u32=>4294967295|.u64=>18446744073709551615
def vD(k:IntKind)(n:Int):Int :=
 match n with
 | .ofNat m=>bif Nat.ble m (EJ k)then .ofNat m else k.wrap (.ofNat m)
 | .negSucc m=>k.wrap (.negSucc m)
def A2B(a b:Int):Int :=
 match a,b with
 | .ofNat m,.ofNat n=>.ofNat (Nat.add m n)
 | a,b=>a+b
def YV(a b:Int):Int :=
 match a,b with
 | .ofNat m,.ofNat n=>bif Nat.ble n m then .ofNat (Nat.sub m n)else .ofNat m - .ofNat n
 | a,b=>a-b
def A1F(a b:Int):Int :=
 match a,b with
 | .ofNat m,.ofNat n=>.ofNat (Nat.mul m n)
 | a,b=>a*b
def ltF(a b:Int):Bool :=
 match a,b with
 | .ofNat m,.ofNat n=>Nat.blt m n
 | .negSucc _,.ofNat _=>true
 | .ofNat _,.negSucc _=>false
 | .negSucc m,.negSucc n=>Nat.blt n m
def leF(a b:Int):Bool :=
 match a,b with
 | .ofNat m,.ofNat n=>Nat.ble m n
 | .negSucc _,.ofNat _=>true
 | .ofNat _,.negSucc _=>false
 | .negSucc m,.negSucc n=>Nat.ble n m
def uW(a b:Int):Bool :=
 match a,b with
 | .ofNat m,.ofNat n=>Nat.beq m n
 | .negSucc m,.negSucc n=>Nat.beq m n
 | _,_=>false
def pG:IntKind->IntKind->Bool
 | .i8,.i8|.i16,.i16|.i32,.i32|.i64,.i64|.u8,.u8|.u16,.u16|.u32,.u32|.u64,.u64=>true
 | _,_=>false
def mkI(k:IntKind)(n:Int):Value:=sY n fun n=>.int k n
inductive U where
 | none
 | int (k:IntKind) (n:Int)
 | bool (b:Bool)
 | str (s:List UInt8)
 | seq (nul:Bool) (w:Nat) (rows:List (List U))
inductive LOp where
 | bin (op:BinOp)
 | un (op:UnOp)
 | conv (k:IntKind)
 | len
 | idx
 | sub
 | sub1
 | sel
 | eqs
 | inb
 | max
 | min
 | mks
 | inbs (w:Nat)
 | get (w o:Nat)
 | mk (w:Nat)
 | nilw (w:Nat)
 | nilp
 | snoc (w:Nat)
 | cat (w:Nat)
 | cats
 | set (w o:Nat)
 | subs (w:Nat)
 | str
 | byt
 | rep (w:Nat)
 | ustr
 | mhas (w kw:Nat)
 | mget (w kw o:Nat)
 | mput (w kw:Nat)
 | rune
 | rpos
inductive T9 where
 | lt (i t:Nat) (op:LOp) (xs:List Value)
 | dt (i t:Nat) (op:LOp) (xs:List Value)
 | br (i:Nat) (b:Bool)
 | as (op:LOp) (xs:List Value)
 | con (spec:List U->Option (Nat×List U)) (xs:List Value) (i d n:Nat)
structure Lg where
 nx:Nat
 pi:F8
 log:List T9
def hole(i t:Nat):Value:=.complex .f64 i t
def junk:Value:=.complex .f32 0 0
def ixp(a:Addr)(s:Nat)(i:Value)(n:Nat):Value:=.func (.yield 1) ⟨[.pointer (some a),.int .i64 (.ofNat s),i,.int .i64 (.ofNat n)]⟩ ⟨[]⟩
def dat(b i t:Nat):Value:=.func (.yield 2) ⟨[.pointer (some ⟨b,0,none⟩),.complex .f64 i t]⟩ ⟨[]⟩
def clp(b i t:Nat):Value:=.func (.yield 3) ⟨[.pointer (some ⟨b,0,none⟩),.complex .f64 i t]⟩ ⟨[]⟩
def own(b i t:Nat):Value:=.func (.yield 4) ⟨[.pointer (some ⟨b,0,none⟩),.complex .f64 i t]⟩ ⟨[]⟩
def dpt(b i t:Nat)(z:Value)(o:Nat):Value:=.func (.yield 5) ⟨[.pointer (some ⟨b,0,none⟩),.complex .f64 i t,z,.int .i64 (.ofNat o)]⟩ ⟨[]⟩
def opt(b i t:Nat)(z:Value)(o:Nat):Value:=.func (.yield 6) ⟨[.pointer (some ⟨b,0,none⟩),.complex .f64 i t,z,.int .i64 (.ofNat o)]⟩ ⟨[]⟩
def yv(b:Nat):Value:=.func (.yield 7) ⟨[.pointer (some ⟨b,0,none⟩)]⟩ ⟨[]⟩
def sdt(b:Nat):Value:=.func (.yield 9) ⟨[.pointer (some ⟨b,0,none⟩)]⟩ ⟨[]⟩
def dv(ids:List Nat):Value:=.func (.yield 8) ⟨ids.map fun b=>.pointer (some ⟨b,0,none⟩)⟩ ⟨[]⟩
def PW:Value->Bool
 | .complex .f32 _ _=>true
 | _=>false
def one:Value:=.complex .f32 1 0
def fA:Value->Bool
 | .complex .f32 i _=>!(Nat.beq i 1)
 | _=>false
def eC:IntKind->Nat
 | .i8=>0|.i16=>1|.i32=>2|.i64=>3|.u8=>4|.u16=>5|.u32=>6|.u64=>7
def F5:Value->Nat
 | .int k _=>eC k
 | .bool _=>8
 | .string _=>9
 | .complex .f64 _ t=>t
 | _=>99
inductive AB where
 | cells (cs:List Value) (T:TypeId) (ro:Bool)
 | sq (c t:Nat) (T:TypeId) (g:Nat) (ro:Bool)
 | frz
 | mp (c t:Nat) (T:TypeId)
 | iter (vs:List Value)
 | lp (f:FuncId) (q:List Bool) (vs:List Value) (st:Nat)
 | dfr (b:Bool)
structure Mem where
 H:Hp AB
 n:Nat
 W:F8
 hi:Nat
 lg:Lg
structure S where
 fr:Fr
 m:Mem
inductive Ex where
 | normal
 | exit (id:Nat)
 | ret
def G3:List Bool->Code->Option Code
 | [],c=>some c
 | false::q,.seq a _=>G3 q a
 | true::q,.seq _ b=>G3 q b
 | false::q,.cond _ a _=>G3 q a
 | true::q,.cond _ _ b=>G3 q b
 | false::q,.block _ c=>G3 q c
 | false::q,.scope c=>G3 q c
 | false::q,.loop c=>G3 q c
 | false::q,.rangeFunc _ _ a _=>G3 q a
 | true::q,.rangeFunc _ _ _ b=>G3 q b
 | _::_,_=>none
def K8:Nat:=9223372036854775808
def H3:Value->Bool
 | .bool _|.int _ _|.string _|.pointer none|.slice none _ _|.map none|.nilFunc|.nilIface=>true
 | _=>false
def HM:Value->Bool
 | .agg cs=>cs.toList.all H3
 | v=>H3 v
def ev(fr:Fr):Operand->Value
 | .tmp t=>fr.get t
 | .const v=>v
 | .global g=>.pointer (some ⟨g,0,none⟩)
 | .func f=>.func (.func f) #[] #[]
def okX(nt gl:Nat):Operand->Bool
 | .tmp t=>Nat.blt t nt
 | .const v=>HM v
 | .global g=>Nat.blt g gl
 | .func _=>true
def evL(fr:Fr):List Operand->D0
 | []=>[]
 | x::r=>ev fr x::evL fr r
def evP(fr:Fr):List (Nat×Operand)->List (Nat×Value)
 | []=>[]
 | (i,x)::r=>(i,ev fr x)::evP fr r
def evO(fr:Fr):Option Operand->N6
 | none=>none
 | some x=>some (ev fr x)
structure XC where
 run:Fr->Value
def A28(a b c:Sel):XC:=⟨fun fr=>c.get (b.get (a.get fr))⟩
def P1:Operand->XC
 | .tmp t=>A28 (sel (t / 64%8)) (sel (t / 8%8)) (sel (t%8))
 | .const v=>⟨fun _=>v⟩
 | .global g=>⟨fun _=>.pointer (some ⟨g,0,none⟩)⟩
 | .func f=>⟨fun _=>.func (.func f) #[] #[]⟩
def bI(x:Operand)(fr:Fr):(P1 x).run fr=ev fr x:=by cases x<;>rfl
structure LC where
 run:Fr->D0
def A1c(x:XC)(r:LC)(fr:Fr):D0:=x.run fr::r.run fr
def pX:List Operand->LC
 | []=>⟨fun _=>[]⟩
 | x::r=>⟨fun fr=>A1c (P1 x) (pX r) fr⟩
def jS(fr:Fr):∀ xs:List Operand,(pX xs).run fr=evL fr xs
 | []=>rfl
 | x::r=>by
   show(P1 x).run fr::(pX r).run fr=_;rw[bI,jS fr r];rfl
abbrev Res:=Option (Value×Mem)
def upN(hi n:Nat):Nat:=bif Nat.blt n hi then hi else Nat.succ n
def Mem.wLg(m:Mem)(lg:Lg):Mem :=
 match m with
 | ⟨H,n,W,hi,_⟩=>⟨H,n,W,hi,lg⟩
def Q2(m:Mem)(t:Nat)(op:LOp)(xs:List Value):Res :=
 match m with
 | ⟨H,n,W,hi,⟨nx,pi,log⟩⟩=>H9 nx fun nx=>H9 t fun t=>O6 xs fun xs=>some (hole nx t,⟨H,n,W,hi,⟨Nat.succ nx,pi,.lt nx t op xs::log⟩⟩)
def qE(m:Mem)(t:Nat)(op:LOp)(xs:List Value)(k:Nat->Mem->Res):Res :=
 match m with
 | ⟨H,n,W,hi,⟨nx,pi,log⟩⟩=>H9 nx fun nx=>H9 t fun t=>O6 xs fun xs=>k nx ⟨H,n,W,hi,⟨Nat.succ nx,pi,.dt nx t op xs::log⟩⟩
def tC:List T9->Nat->Option Bool
 | [],_=>none
 | .br j b::r,i=>bif Nat.beq j i then some b else tC r i
 | _::r,i=>tC r i
def brL(lg:Lg)(c:Value):Option (Bool×Lg) :=
 match c with
 | .bool b=>some (b,lg)
 | .complex .f64 i 8=>match lg with
   | ⟨nx,pi,log⟩=>match tC log i with
     | some b=>some (b,⟨nx,pi,log⟩)
     | none=>match pi with
       | 1::r=>some (true,⟨nx,r,.br i true::log⟩)
       | 0::r=>some (false,⟨nx,r,.br i false::log⟩)
       | _=>none
 | _=>none
def W5(m:Mem)(ab:AB)(k:Nat->Value):Res :=
 match m with
 | ⟨H,n,W,hi,lg⟩=>bif Nat.ble n G1 then H9 n fun n=>H9 (upN hi n) fun hi=>Hp.put H n (some ab) fun H=>some (k n,⟨H,Nat.succ n,W,hi,lg⟩)else none
def x7(m:Mem)(id:Nat)(ab:AB):Option Mem :=
 match m with
 | ⟨H,n,W,hi,lg⟩=>bif Nat.ble id G1 then Hp.put H id (some ab) fun H=>H9 id fun id=>some ⟨H,n,id::W,hi,lg⟩else none
def fQ(m:Mem)(id:Nat):Mem :=
 match m with
 | ⟨H,n,W,hi,lg⟩=>Hp.put H id none fun H=>H9 id fun id=>⟨H,n,id::W,hi,lg⟩
def QT(cs:List Value)(o n:Nat):Option D0 :=
 let r:=(cs.drop o).take n
 bif Nat.beq r.length n then some r else none
def i7(m:Mem)(a:Addr)(n:Nat):Option D0 :=
 match a.spot,Hp.get m.H a.block with
 | none,some (.cells cs _ _)=>QT cs a.off n
 | _,_=>none
def x9:D0->Nat->D0->D0
 | cs,_,[]=>cs
 | cs,k,v::r=>x9 (cs.set k v) (k+1) r
def flat:Value->Bool
 | .agg _|.tuple _=>false
 | .complex .f32 i _=>Nat.beq i 1
 | _=>true
def kJ(m:Mem)(a:Addr)(vs:List Value):Option Mem :=
 match a.spot,Hp.get m.H a.block with
 | none,some (.cells cs T false) =>
   bif Nat.ble (a.off+vs.length) cs.length && vs.all flat then O6 (x9 cs a.off vs) fun cs=>x7 m a.block (.cells cs T false)else none
 | _,_=>none
variable (P:Program)
def Y4(t:TypeId):Option Bool :=
 match P.underlying t with
 | some (.struct _)|some (.array _ _)=>some true
 | some _=>some false
 | none=>none
def F6(t:TypeId):Option Nat :=
 match P.info? t with
 | some i=>some i.size
 | none=>none
def cQ(t:TypeId):N6 :=
 match P.info? t with
 | some i=>match i.zero with
   | some v=>bif HM v then some v else none
   | none=>none
 | none=>none
def ID(m:Mem)(t:TypeId)(a:Addr):N6 :=
 match Y4 P t with
 | some true=>match F6 P t with
   | some n=>match i7 m a n with
     | some cs=>some (.agg ⟨cs⟩)
     | none=>none
   | none=>none
 | some false=>match i7 m a 1 with
   | some (v::_)=>some v
   | _=>none
 | none=>none
def rP(m:Mem)(t:TypeId)(a:Addr)(v:Value):Option Mem :=
 match F6 P t with
 | some n=>bif Nat.beq v.cells.size n && !(fA v)then kJ m a v.cells.toList else none
 | none=>none
def mH(t:TypeId)(cs:List Value)(off:Nat):N6 :=
 match Y4 P t with
 | some true=>match F6 P t with
   | some n=>match QT cs off n with
     | some r=>some (.agg ⟨r⟩)
     | none=>none
   | none=>none
 | some false=>cs[off]?
 | none=>none
def VX(e:TypeId)(s i:Nat):Field:={ name := "x",type:=e,offset:=i*s,embedded:=false,tag := "",pkgPath := "",byteOffset:=0 }
mutual
def eqM:Nat->TypeId->Value->Value->Option Bool
 | 0,_,_,_=>none
 | d+1,t,x,y=>match P.underlying t,x,y with
   | some .bool,.bool a,.bool b=>some (a == b)
   | some (.int _),.int k a,.int j b=>bif decide (k=j)then some (a == b)else none
   | some .string,.string a,.string b=>some (a.data.toList == b.data.toList)
   | some (.pointer _),.pointer none,.pointer b=>some b.isNone
   | some (.pointer _),.pointer (some _),.pointer none=>some false
   | some (.interface _),.nilIface,.nilIface=>some true
   | some (.interface _),.nilIface,.iface _ _=>some false
   | some (.interface _),.iface _ _,.nilIface=>some false
   | some (.interface _),.iface tx vx,.iface ty vy=>bif Nat.beq tx ty then(match P.info? tx with
     | some i=>bif i.comparable then eqM d tx vx vy else none
     | none=>none)else some false
   | some (.slice _),.slice none _ _,.slice b _ _=>some b.isNone
   | some (.slice _),.slice (some _) _ _,.slice none _ _=>some false
   | some (.map _ _),.map none,.map b=>some b.isNone
   | some (.func _ _ _),.nilFunc,.nilFunc=>some true
   | some (.func _ _ _),.nilFunc,.func (.func _) _ _=>some false
   | some (.func _ _ _),.func (.func _) _ _,.nilFunc=>some false
   | some (.struct fs),.agg xs,.agg ys=>bif P.stoodInHeld t then none else eqF d fs.toList xs.toList ys.toList
   | some (.array n e),.agg xs,.agg ys=>match F6 P e with
     | some s=>eqF d ((List.range n).map (VX e s)) xs.toList ys.toList
     | none=>none
   | _,_,_=>none
def eqF:Nat->List Field->D0->D0->Option Bool
 | 0,_,_,_=>none
 | _+1,[],_,_=>some true
 | d+1,f::fs,xs,ys =>
   bif f.name == "_" then none else
   match mH P f.type xs f.offset,mH P f.type ys f.offset with
   | some x,some y=>match eqM d f.type x y with
     | some true=>eqF d fs xs ys
     | some false=>some false
     | none=>none
   | _,_=>none
end
def isC:Operand->Bool
 | .const _=>true
 | _=>false
def iD(t:TypeId)(x y:Operand)(a b:Value):Bool :=
 match a,b with
 | .nilIface,.nilIface=>isC x || isC y
 | .agg _,.agg _=>!P.eqGuardType P.depth t
 | a,b=>!(PW a) && !(PW b)
def JP(op:BinOp)(k:IntKind)(x y:Int):N6 :=
 match op with
 | .and=>some (.int k (k.wrap (BitVec.ofInt k.bits x &&& BitVec.ofInt k.bits y).toNat))
 | .or=>some (.int k (k.wrap (BitVec.ofInt k.bits x ||| BitVec.ofInt k.bits y).toNat))
 | .xor=>some (.int k (k.wrap (BitVec.ofInt k.bits x ^^^ BitVec.ofInt k.bits y).toNat))
 | .andNot=>some (.int k (k.wrap (BitVec.ofInt k.bits x &&& ~~~BitVec.ofInt k.bits y).toNat))
 | _=>none
def ltL:List UInt8->List UInt8->Bool
 | _,[]=>false
 | [],_::_=>true
 | a::x,b::y=>a<b || (a == b && ltL x y)
def qF(op:BinOp)(k:IntKind)(a b:Int):N6 :=
 match op with
 | .add=>some (mkI k (vD k (A2B a b)))
 | .sub=>some (mkI k (vD k (YV a b)))
 | .mul=>some (mkI k (vD k (A1F a b)))
 | .quo=>bif uW b 0 then none else some (mkI k (k.wrap (a.tdiv b)))
 | .rem=>bif uW b 0 then none else some (mkI k (a.tmod b))
 | .eql=>some (.bool (uW a b))
 | .neq=>some (.bool (!(uW a b)))
 | .lss=>some (.bool (ltF a b))
 | .leq=>some (.bool (leF a b))
 | .gtr=>some (.bool (ltF b a))
 | .geq=>some (.bool (leF b a))
 | op=>JP op k a b
def ND(left:Bool)(k:IntKind)(a:Int)(b:Nat):Value :=
 bif left then mkI k (k.wrap (a*2 ^ (min b k.bits)))else mkI k (a.fdiv (2 ^ (min b k.bits)))
def TM(op:BinOp)(a b:ByteArray):N6 :=
 match op with
 | .add=>bif Nat.ble (a.size+b.size) 1000000000 then O6 (a.data.toList++b.data.toList) fun l=>some (.string ⟨⟨l⟩⟩)else none
 | .eql=>some (.bool (a.data.toList == b.data.toList))
 | .neq=>some (.bool (!(a.data.toList == b.data.toList)))
 | .lss=>some (.bool (ltL a.data.toList b.data.toList))
 | .leq=>some (.bool (ltL a.data.toList b.data.toList || (a.data.toList == b.data.toList)))
 | .gtr=>some (.bool (!(ltL a.data.toList b.data.toList || (a.data.toList == b.data.toList))))
 | .geq=>some (.bool (!(ltL a.data.toList b.data.toList)))
 | _=>none
def vW(op:BinOp)(t:TypeId)(x y:Value):N6 :=
 match op with
 | .eql=>match eqM P 20 t x y with
   | some b=>some (.bool b)
   | none=>none
 | .neq=>match eqM P 20 t x y with
   | some b=>some (.bool (!b))
   | none=>none
 | _=>none
def oI:BinOp->Option Bool
 | .shl=>some true
 | .shr=>some false
 | _=>none
def fS(op:BinOp)(k j:IntKind)(a b:Int):N6 :=
 match oI op with
 | some l=>match b with
   | .ofNat n=>some (ND l k a n)
   | .negSucc _=>none
 | none=>bif pG k j then qF op k a b else none
def nM(op:BinOp)(t:TypeId)(x y:Value):N6 :=
 match x,y with
 | .int k a,.int j b=>fS op k j a b
 | .string a,.string b=>TM op a b
 | x,y=>vW P op t x y
def unM(op:UnOp)(x:Value):N6 :=
 match op,x with
 | .neg,.int k n=>some (mkI k (k.wrap (0-n)))
 | .xor,.int k n=>JP .xor k (if k.signed then -1 else k.max) n
 | .not,.bool b=>some (.bool !b)
 | _,_=>none
def bytesOf:D0->Option (List UInt8)
 | []=>some []
 | .int .u8 n::r=>match bytesOf r with
   | some l=>some (UInt8.ofNat n.toNat::l)
   | none=>none
 | _::_=>none
def M6(l:List UInt8):D0:=l.map fun b=>.int .u8 b.toNat
def xC(m:Mem)(s t:TypeId)(x:Value):Res :=
 match P.underlying s,P.underlying t,x with
 | some _,some (.int k),.int _ n=>some (mkI k (vD k n),m)
 | some _,some .string,.string b=>some (.string b,m)
 | some _,some .string,.int _ n=>some (.string (Utf8.encode n),m)
 | some _,some (.slice e),.string b=>match P.underlying e with
   | some (.int .u8)=>match F6 P e with
     | some 1=>O6 (M6 b.data.toList) fun cs=>W5 m (.cells cs e false) fun i=>.slice (some ⟨i,0,none⟩) b.size K8
     | _=>none
   | _=>none
 | some (.slice e),some .string,.slice none _ _=>match P.underlying e with
   | some (.int .u8)=>some (.string ByteArray.empty,m)
   | _=>none
 | some (.slice e),some .string,.slice (some a) n _=>match P.underlying e with
   | some (.int .u8)=>match i7 m a n with
     | some cs=>match bytesOf cs with
       | some l=>some (.string ⟨⟨l⟩⟩,m)
       | none=>none
     | none=>none
   | _=>none
 | _,_,_=>none
def tD(place:Nat->Option (Nat×Nat))(cells:List Value):List (Nat×Value)->Option D0
 | []=>some cells
 | (i,v)::rest=>match place i with
   | none=>none
   | some (off,size) =>
     bif (Nat.beq v.cells.size size && !(fA v)) && Nat.ble (off+v.cells.size) cells.length then O6 (x9 cells off v.cells.toList) fun cs=>tD place cs rest else none
def mG:List Field->Option (List (Nat×Nat))
 | []=>some []
 | f::r=>match F6 P f.type,mG r with
   | some n,some l=>some ((f.offset,n)::l)
   | _,_=>none
def BF(z:List Value):Nat->D0
 | 0=>[]
 | n+1=>z++BF z n
def xX(e:TypeId)(n:Nat):Option D0 :=
 match F6 P e with
 | some s=>bif Nat.beq (n*s) 0 then some []else match cQ P e with
   | some z=>bif Nat.beq z.cells.size s then some (BF z.cells.toList n)else none
   | none=>none
 | none=>none
def GI(t:TypeId)(parts:List (Nat×Value)):N6 :=
 match cQ P t,P.underlying t with
 | some z,some (.struct fs)=>match mG P fs.toList with
   | some ps=>match tD (ps[·]?) z.cells.toList parts with
     | some cs=>some (.agg ⟨cs⟩)
     | none=>none
   | none=>none
 | some z,some (.array _ e)=>match F6 P e with
   | some s=>match tD (fun i=>some (i*s,s)) z.cells.toList parts with
     | some cs=>some (.agg ⟨cs⟩)
     | none=>none
   | none=>none
 | _,_=>none
def y8(m:Mem)(t:TypeId)(n:Nat)(parts:List (Nat×Value)):Res :=
 match P.underlying t with
 | some (.slice e)=>match F6 P e,xX P e n with
   | some s,some zs=>bif Nat.ble (n*s) 16777216 && Nat.blt n K8 then match tD (fun i=>some (i*s,s)) zs parts with
     | some cs=>W5 m (.cells cs e false) fun i=>.slice (some ⟨i,0,none⟩) n n
     | none=>none else none
   | _,_=>none
 | _=>none
def bW(m:Mem)(t:TypeId)(l c:Value):Res :=
 match P.underlying t,l,c with
 | some (.slice e),.int _ (.ofNat l),.int _ (.ofNat c)=>match P.info? e with
   | some i=>bif Nat.ble l c && Nat.ble c 10000000 && Nat.ble (c*i.bytes) 100000000 then match xX P e c with
     | some a=>O6 a fun a=>W5 m (.cells a e false) fun k=>.slice (some ⟨k,0,none⟩) l c
     | none=>none else none
   | none=>none
 | _,_,_=>none
def u5(a:Addr)(n:Nat):Addr:=H9 (a.off+n) fun o=>⟨a.block,o,none⟩
def y6(s:TypeId)(x:Value)(i:Nat):N6 :=
 match P.underlying s,x with
 | some (.struct fs),.pointer (some a)=>match fs.toList[i]?,a.spot with
   | some f,none=>match F6 P f.type with
     | some (_+1)=>some (.pointer (some (u5 a f.offset)))
     | _=>none
   | _,_=>none
 | _,_=>none
def zL(t:TypeId)(x:Value)(i:Nat):N6 :=
 match P.underlying t,x with
 | some (.struct fs),.agg cs=>match fs.toList[i]? with
   | some f=>mH P f.type cs.toList f.offset
   | none=>none
 | _,_=>none
def U3(t:TypeId)(x i:Value):N6 :=
 match P.underlying t,x,i with
 | some (.array n e),.pointer (some a),.int _ (.ofNat k)=>match F6 P e,a.spot with
   | some s,none=>bif Nat.blt k n then some (.pointer (some (u5 a (k*s))))else none
   | _,_=>none
 | some (.slice e),.slice (some a) n _,.int _ (.ofNat k)=>match F6 P e,a.spot with
   | some s,none=>bif Nat.blt k n then some (.pointer (some (u5 a (k*s))))else none
   | _,_=>none
 | _,_,_=>none
def iB(t:TypeId)(x i:Value):N6 :=
 match P.underlying t,x,i with
 | some (.array n e),.agg cs,.int _ (.ofNat k)=>match F6 P e with
   | some s=>bif Nat.blt k n then mH P e cs.toList (k*s)else none
   | none=>none
 | some .string,.string s,.int _ (.ofNat k)=>match s.data.toList[k]? with
   | some b=>some (.int .u8 b.toNat)
   | none=>none
 | _,_,_=>none
def Q3(v:Option Value)(G1 a:Nat):Option Nat :=
 match v with
 | none=>some a
 | some (.int _ (.ofNat k))=>bif Nat.ble k G1 then some k else none
 | some _=>none
def aF(t:TypeId)(x:Value)(b hi mx:Option Value):N6 :=
 match P.underlying t,x with
 | some .string,.string s =>
   match mx,Q3 hi s.size s.size with
   | none,some h=>match Q3 b h 0 with
     | some l=>some (.string ⟨⟨(s.data.toList.drop l).take (h-l)⟩⟩)
     | none=>none
   | _,_=>none
 | some (.slice e),.slice none n c =>
   match n,c,Q3 mx 0 0,Q3 hi 0 0,Q3 b 0 0 with
   | 0,0,some _,some _,some _=>bif (mx.isSome && hi.isNone) || (F6 P e).isNone then none else some (.slice none 0 0)
   | _,_,_,_,_=>none
 | some (.slice e),.slice (some a) n c =>
   match F6 P e,a.spot with
   | some s,none =>
     bif Nat.blt c K8 then
      match Q3 mx c c with
      | some m=>match (match hi,mx with|none,some _=>none|hi,_=>Q3 hi m n)with
        | some h=>match Q3 b h 0 with
          | some l=>some (.slice (some (bif Nat.beq m l then a else u5 a (l*s))) (h-l) (m-l))
          | none=>none
        | none=>none
      | none=>none
     else
      match mx with
      | some _=>match hi,Q3 mx n n with
        | some _,some m=>bif Nat.blt m K8 && Nat.ble c (K8+1)then match Q3 hi m n with
          | some h=>match Q3 b h 0 with
            | some l=>some (.slice (some (bif Nat.beq m l then a else u5 a (l*s))) (h-l) (m-l))
            | none=>none
          | none=>none else none
        | _,_=>none
      | none=>match Q3 hi n n with
        | some h=>match Q3 b h 0 with
          | some 0=>some (.slice (some a) h c)
          | some (l+1)=>let l:=l+1
            bif Nat.blt l n then some (.slice (some (u5 a (l*s))) (h-l) (K8+1))else some (.slice (some a) 0 (K8+2))
          | none=>none
        | none=>none
   | _,_=>none
 | some (.array n e),.pointer (some a) =>
   match F6 P e,a.spot,mx with
   | some s,none,none=>match Q3 hi n n with
     | some h=>match Q3 b h 0 with
       | some l=>bif Nat.blt n K8 then some (.slice (some (bif Nat.beq n l then a else u5 a (l*s))) (h-l) (n-l))else none
       | none=>none
     | none=>none
   | _,_,_=>none
 | _,_=>none
def bV(m:Mem)(s:Nat)(y:Value):Option (Nat×List Value) :=
 match y with
 | .slice none n _=>bif Nat.beq n 0 then some (0,[])else none
 | .slice (some a) n _=>match i7 m a (n*s)with
   | some cs=>some (n,cs)
   | none=>none
 | .string b=>bif Nat.beq s 1 then some (b.size,M6 b.data.toList)else none
 | _=>none
def aJ:TypeDesc->Bool
 | .slice _|.string=>true
 | _=>false
def nO(m:Mem)(t t2:TypeId)(x y:Value):Res :=
 match P.underlying t,P.underlying t2 with
 | some (.slice e),some d2 =>
   bif !(aJ d2)then none else
   match P.info? e,x with
   | some i,.slice a n c=>match bV m i.size y,cQ P e with
     | some (k,new),some z =>
       bif Nat.ble ((3*(n+k)+4000)*i.bytes) 281474976710656 && Nat.ble (n+k) 1000000000 && Nat.beq z.cells.size i.size && new.all flat then
       bif Nat.beq k 0 then(match a with|none=>bif Nat.beq n 0 && Nat.beq c 0 then some (x,m)else none|some _=>bif Nat.ble c (K8+1) && Nat.ble n c then some (x,m)else none)else
       match a with
       | none=>bif Nat.beq n 0 && Nat.beq c 0 then O6 new fun cs=>W5 m (.cells cs e false) fun b=>.slice (some ⟨b,0,none⟩) k K8 else none
       | some d =>
         bif Nat.blt c K8 then
          bif Nat.ble (n+k) c then
           match d.spot,kJ m (u5 d (n*i.size)) new with
           | none,some m'=>some (.slice a (n+k) c,m')
           | _,_=>none
          else match i7 m d (n*i.size)with
           | some old=>O6 (old++new) fun cs=>W5 m (.cells cs e false) fun b=>.slice (some ⟨b,0,none⟩) (n+k) K8
           | none=>none
         else bif Nat.beq c K8 && Nat.beq d.off 0 then
          match d.spot,Hp.get m.H d.block with
          | none,some (.cells cs T false) =>
            bif Nat.beq cs.length (n*i.size) && Nat.beq T e && Nat.ble d.block G1 && Nat.blt d.block m.n then
             O6 (cs++new) fun cs=>W5 (fQ m d.block) (.cells cs e false) fun b=>.slice (some ⟨b,0,none⟩) (n+k) K8
            else none
          | _,_=>none
         else none
       else none
     | _,_=>none
   | _,_=>none
 | _,_=>none
def DP(m:Mem)(t:TypeId)(x y:Value):Res :=
 match P.underlying t,x with
 | some (.slice e),.slice a n c=>match F6 P e with
   | some s =>
     match (match y with
      | .slice none k _=>bif Nat.beq k 0 then some (0,[])else none
      | .slice (some b) k _=>match i7 m b (Nat.min k n*s)with
        | some cs=>some (Nat.min k n,cs)
        | none=>none
      | .string b=>some (Nat.min b.size n,M6 (b.data.toList.take (Nat.min b.size n)))
      | _=>none:Option (Nat×List Value))with
     | some (k,cs)=>match a with
       | none=>bif Nat.beq k 0 then some (.int .i64 0,m)else none
       | some d=>bif Nat.beq cs.length 0 then some (.int .i64 k,m)else bif Nat.ble c (K8+1)then match kJ m d cs with
         | some m'=>some (.int .i64 k,m')
         | none=>none else none
     | none=>none
   | none=>none
 | _,_=>none
def PJ(m:Mem)(t:TypeId)(x:Value):N6 :=
 match P.underlying t,x with
 | some .string,.string s=>some (.int .i64 s.data.toList.length)
 | some (.array n _),_=>some (.int .i64 n)
 | some (.slice _),.slice _ n _=>some (.int .i64 n)
 | some (.map _ _),.map none=>some (.int .i64 0)
 | _,_=>none
def A0c(t:TypeId)(x:Value):N6 :=
 match P.underlying t,x with
 | some (.slice _),.slice none _ c=>some (.int .i64 c)
 | some (.slice _),.slice (some a) n c=>bif Nat.blt c K8 then some (.int .i64 c)else none
 | _,_=>none
def ZW:D0->N6
 | [.int k a,.int _ b]=>some (.int k (if b>a then b else a))
 | [.int k a,.int _ b,.int _ c]=>sY (if b>a then b else a) fun d=>some (.int k (if c>d then c else d))
 | _=>none
def ZU:D0->N6
 | [.int k a,.int _ b]=>some (.int k (if b<a then b else a))
 | [.int k a,.int _ b,.int _ c]=>sY (if b<a then b else a) fun d=>some (.int k (if c<d then c else d))
 | _=>none
def noM(v:Option Value)(m:Mem):Res :=
 match v with
 | some v=>some (v,m)
 | none=>none
def FN(m:Option Mem):Res :=
 match m with
 | some m=>some (undef,m)
 | none=>none
def HP(m:Mem)(c a b:Value):Res :=
 match c with
 | .bool true=>some (a,m)
 | .bool false=>some (b,m)
 | _=>none
def yT(m:Mem)(e:TypeId):Res :=
 match cQ P e with
 | some z=>W5 m (.cells z.cells.toList e false) fun b=>.pointer (some ⟨b,0,none⟩)
 | none=>none
def OT(m:Mem)(e:TypeId)(v:Value):Res :=
 bif v.cells.toList.all flat then W5 m (.cells v.cells.toList e false) fun b=>.pointer (some ⟨b,0,none⟩)else none
def HQ(m:Mem)(t:TypeId)(v:Value):Res :=
 match v with
 | .pointer (some a)=>noM (ID P m t a) m
 | _=>none
def yR(m:Mem)(t:TypeId)(x v:Value):Res :=
 match x with
 | .pointer (some a)=>FN (rP P m t a v)
 | _=>none
def OS(m:Mem)(x:Value):Res :=
 match x with
 | .pointer (some a)=>some (.pointer (some a),m)
 | .func (.func f) a b=>some (.func (.func f) a b,m)
 | _=>none
def sW:BinOp->Bool
 | .eql|.neq=>true
 | _=>false
def UA(m:Mem)(op:BinOp)(t:TypeId)(x y:Operand)(a b:Value):Res :=
 bif sW op then(bif iD P t x y a b then noM (nM P op t a b) m else none)else noM (nM P op t a b) m
def yS(m:Mem)(t:TypeId)(v:Value):Res :=
 match P.underlying t with
 | some d=>(match d with|.interface _=>none|_=>bif flat v || (match v with|.agg _=>true|_=>false)then some (.iface t v,m)else none)
 | none=>none
def gX(m:Mem)(v:Value)(i:Nat):Res :=
 match v with
 | .tuple vs=>noM vs.toList[i]? m
 | _=>none
def eN(m:Mem)(x:Value):Res :=
 match x with
 | .slice none _ _=>some (.pointer none,m)
 | .slice (some a) n c=>bif Nat.beq n 0 || Nat.beq c 0 || Nat.beq c (K8+2)then none else some (.pointer (some a),m)
 | _=>none
def bM(m:Mem)(b:TypeId)(p l:Value):Res :=
 match p,l with
 | .pointer none,.int _ (.ofNat 0)=>some (.string ByteArray.empty,m)
 | .pointer (some a),.int _ (.ofNat n) =>
   match a.spot,Hp.get m.H a.block with
   | none,some (.cells cs T false)=>match P.underlying b,F6 P T with
     | some (.pointer e),some 1=>bif Nat.blt 0 n && Nat.ble n 1000000000 && Nat.beq e T then match QT cs a.off n with
       | some l=>match bytesOf l,x7 m a.block (.cells cs T true)with
         | some l,some m'=>some (.string ⟨⟨l⟩⟩,m')
         | _,_=>none
       | none=>none else none
     | _,_=>none
   | _,_=>none
 | _,_=>none
def eI(m:Mem)(b:Builtin)(vs:List Value)(tys:List TypeId):Res :=
 match b,vs,tys with
 | .len,[x],t::_=>noM (PJ P m t x) m
 | .cap,[x],t::_=>noM (A0c P t x) m
 | .append,[x,y],t::t2::_=>nO P m t t2 x y
 | .copy,[x,y],t::_=>DP P m t x y
 | .max,vs,_=>noM (ZW vs) m
 | .min,vs,_=>noM (ZU vs) m
 | .unsafeSliceData,[x],_=>eN m x
 | .unsafeString,[p,l],t::_=>bM P m t p l
 | _,_,_=>none
def opM(fr:Fr)(m:Mem)(o:Op):Res :=
 match o with
 | .move x|.assign x=>some (ev fr x,m)
 | .pick c a b=>HP m (ev fr c) (ev fr a) (ev fr b)
 | .alloc e=>yT P m e
 | .box e x=>OT m e (ev fr x)
 | .build t ps=>noM (GI P t (evP fr ps.toList)) m
 | .buildSlice t n ps=>y8 P m t n (evP fr ps.toList)
 | .load t x=>HQ P m t (ev fr x)
 | .store t x y=>yR P m t (ev fr x) (ev fr y)
 | .nilCheck x=>OS m (ev fr x)
 | .binOp op t x y _=>UA P m op t x y (ev fr x) (ev fr y)
 | .unOp op _ x=>noM (unM op (ev fr x)) m
 | .convert s t x=>xC P m s t (ev fr x)
 | .makeInterface t x=>yS P m t (ev fr x)
 | .makeFunc (.func f) first cap=>some (.func (.func f) ⟨evL fr first.toList⟩ ⟨evL fr cap.toList⟩,m)
 | .makeSlice t l c=>bW P m t (ev fr l) (ev fr c)
 | .slice t x d hi mx=>noM (aF P t (ev fr x) (evO fr d) (evO fr hi) (evO fr mx)) m
 | .fieldAddr s x i=>noM (y6 P s (ev fr x) i) m
 | .field t x i=>noM (zL P t (ev fr x) i) m
 | .indexAddr t x i=>noM (U3 P t (ev fr x) (ev fr i)) m
 | .index t x i=>noM (iB P t (ev fr x) (ev fr i)) m
 | .extract x i=>gX m (ev fr x) i
 | .call ⟨.builtin b,xs,tys⟩=>eI P m b (evL fr xs.toList) tys.toList
 | _=>none
structure OpC where
 run:Fr->Mem->Res
def PQ(x:XC)(fr:Fr)(m:Mem):Res:=some (x.run fr,m)
def WR(c a b:XC)(fr:Fr)(m:Mem):Res:=HP m (c.run fr) (a.run fr) (b.run fr)
def A1P(e:TypeId)(x:XC)(fr:Fr)(m:Mem):Res:=OT m e (x.run fr)
def WS(t:TypeId)(x:XC)(fr:Fr)(m:Mem):Res:=HQ P m t (x.run fr)
def PP(t:TypeId)(x y:XC)(fr:Fr)(m:Mem):Res:=yR P m t (x.run fr) (y.run fr)
def A1N(x:XC)(fr:Fr)(m:Mem):Res:=OS m (x.run fr)
def A1Q(op:BinOp)(t:TypeId)(x y:Operand)(cx a:XC)(fr:Fr)(m:Mem):Res:=UA P m op t x y (cx.run fr) (a.run fr)
def kUn(op:UnOp)(x:XC)(fr:Fr)(m:Mem):Res:=noM (unM op (x.run fr)) m
def WT(s t:TypeId)(x:XC)(fr:Fr)(m:Mem):Res:=xC P m s t (x.run fr)
def sR(s:TypeId)(x:XC)(i:Nat)(fr:Fr)(m:Mem):Res:=noM (y6 P s (x.run fr) i) m
def PT(s:TypeId)(x:XC)(i:Nat)(fr:Fr)(m:Mem):Res:=noM (zL P s (x.run fr) i) m
def sQ(t:TypeId)(x i:XC)(fr:Fr)(m:Mem):Res:=noM (U3 P t (x.run fr) (i.run fr)) m
def PS(t:TypeId)(x i:XC)(fr:Fr)(m:Mem):Res:=noM (iB P t (x.run fr) (i.run fr)) m
def CP(x:XC)(i:Nat)(fr:Fr)(m:Mem):Res:=gX m (x.run fr) i
def CQ(b:Builtin)(xs:LC)(tys:List TypeId)(fr:Fr)(m:Mem):Res:=eI P m b (xs.run fr) tys
def tM(o:Op):OpC :=
 match o with
 | .move x=>⟨PQ (P1 x)⟩
 | .assign x=>⟨PQ (P1 x)⟩
 | .pick c a b=>⟨WR (P1 c) (P1 a) (P1 b)⟩
 | .box e x=>⟨A1P e (P1 x)⟩
 | .load t x=>⟨WS P t (P1 x)⟩
 | .store t x y=>⟨PP P t (P1 x) (P1 y)⟩
 | .nilCheck x=>⟨A1N (P1 x)⟩
 | .binOp op t x y _=>⟨A1Q P op t x y (P1 x) (P1 y)⟩
 | .unOp op _ x=>⟨kUn op (P1 x)⟩
 | .convert s t x=>⟨WT P s t (P1 x)⟩
 | .fieldAddr s x i=>⟨sR P s (P1 x) i⟩
 | .field t x i=>⟨PT P t (P1 x) i⟩
 | .indexAddr t x i=>⟨sQ P t (P1 x) (P1 i)⟩
 | .index t x i=>⟨PS P t (P1 x) (P1 i)⟩
 | .extract x i=>⟨CP (P1 x) i⟩
 | .call ⟨.builtin b,xs,tys⟩=>⟨CQ P b (pX xs.toList) tys.toList⟩
 | o=>⟨fun fr m=>opM P fr m o⟩
def tL(o:Op)(fr:Fr)(m:Mem):(tM P o).run fr m=opM P fr m o:=by
 unfold tM;split<;>simp only[PQ,WR,A1P,WS,PP,A1N,A1Q,kUn,WT,sR,PT,sQ,PS,CP,CQ,opM,bI,jS]
def FI(nt gl:Nat)(o:Op):Bool:=o.operands.toList.all (okX nt gl)
end
section
open Go
def A1R:BinOp->Bool
 | .eql|.neq|.lss|.leq|.gtr|.geq=>true
 | _=>false
def kN(P:Program)(m:Mem)(op:BinOp)(t:TypeId)(a b:Value):Res :=
 let c:=F5 a
 let d:=F5 b
 bif (Nat.blt c 8 && Nat.blt d 8) || (Nat.beq c 9 && Nat.beq d 9)then Q2 m (bif A1R op then 8 else c) (.bin op) [a,b]else
 bif Nat.beq c 8 && Nat.beq d 8 && sW op && (match P.underlying t with|some .bool=>true|_=>false)then Q2 m 8 (.bin op) [a,b]else none
def cA(P:Program)(t:TypeId)(x y:Value):Bool :=
 match P.underlying t with
 | some .bool=>Nat.beq (F5 x) 8 && Nat.beq (F5 y) 8
 | some (.int k)=>Nat.beq (F5 x) (eC k) && Nat.beq (F5 y) (eC k)
 | some .string=>Nat.beq (F5 x) 9 && Nat.beq (F5 y) 9
 | _=>false
mutual
def eqS(P:Program):Nat->TypeId->Value->Value->Option D0
 | 0,_,_,_=>none
 | d+1,t,x,y=>bif cA P t x y then some [x,y]else
   match P.underlying t,x,y with
   | some (.struct fs),.agg xs,.agg ys=>bif P.stoodInHeld t then none else tG P d fs.toList xs.toList ys.toList
   | some (.array n e),.agg xs,.agg ys=>match F6 P e with
     | some s=>tG P d ((List.range n).map (VX e s)) xs.toList ys.toList
     | none=>none
   | _,_,_=>none
def tG(P:Program):Nat->List Field->D0->D0->Option D0
 | 0,_,_,_=>none
 | _+1,[],_,_=>some []
 | d+1,f::fs,xs,ys =>
   bif f.name == "_" then none else
   match mH P f.type xs f.offset,mH P f.type ys f.offset with
   | some x,some y=>match eqS P d f.type x y,tG P d fs xs ys with
     | some a,some b=>some (a++b)
     | _,_=>none
   | _,_=>none
end
def AT(P:Program)(m:Mem)(op:BinOp)(t:TypeId)(x y:Operand)(a b:Value):Res :=
 bif iD P t x y a b then
  match op,eqS P 20 t a b with
  | .eql,some l=>Q2 m 8 .eqs l
  | .neq,some l=>match Q2 m 8 .eqs l with
    | some (h,m)=>Q2 m 8 (.un .not) [h]
    | none=>none
  | _,_=>none
 else none
def Z1(t:Nat):D0->Bool
 | []=>true
 | v::r=>Nat.beq (F5 v) t && Z1 t r
def Z0.sizeD(P:Program)(e:TypeId):Nat:=match F6 P e with|some n=>n|none=>0
def Z0(P:Program)(m:Mem)(t:TypeId)(x i:Value):Res :=
 bif !(Nat.blt (F5 i) 8)then none else
 match P.underlying t with
 | some .string=>bif Nat.beq (F5 x) 9 then Q2 m 4 .idx [x,i]else none
 | some (.array n e)=>match x,P.underlying e with
   | .agg cs,some (.int k)=>bif Nat.beq (cs.toList.length) n && Z1 (eC k) cs.toList && Nat.beq (Z0.sizeD P e) 1 then Q2 m (eC k) .sel (i::cs.toList)else none
   | .agg cs,some .string=>bif Nat.beq (cs.toList.length) n && Z1 9 cs.toList && Nat.beq (Z0.sizeD P e) 1 then Q2 m 9 .sel (i::cs.toList)else none
   | _,_=>none
 | _=>none
def gM(P:Program)(m:Mem)(t:TypeId)(x:Value)(a hi mx:Option Value):Res :=
 match P.underlying t,mx with
 | some .string,none=>bif Nat.beq (F5 x) 9 then
    match a,hi with
    | none,none=>some (x,m)
    | some l,none=>bif Nat.blt (F5 l) 8 then Q2 m 9 .sub1 [x,l]else none
    | none,some h=>bif Nat.blt (F5 h) 8 then Q2 m 9 .sub [x,.int .i64 0,h]else none
    | some l,some h=>bif Nat.blt (F5 l) 8 && Nat.blt (F5 h) 8 then Q2 m 9 .sub [x,l,h]else none
   else none
 | _,_=>none
def AO(m:Mem)(op:UnOp)(x:Value):Res :=
 let t:=F5 x
 match op with
 | .not=>bif Nat.beq t 8 then Q2 m 8 (.un .not) [x]else none
 | op=>bif Nat.blt t 8 then Q2 m t (.un op) [x]else none
def lV(P:Program)(m:Mem)(s t:TypeId)(x:Value):Res :=
 match P.underlying s,P.underlying t with
 | some (.int _),some (.int k)=>bif Nat.blt (F5 x) 8 then Q2 m (eC k) (.conv k) [x]else none
 | some .string,some .string=>bif Nat.beq (F5 x) 9 then some (x,m)else none
 | _,_=>none
def bP(P:Program)(m:Mem)(b:Builtin)(vs:List Value)(tys:List TypeId):Res :=
 match b,vs,tys with
 | .len,[x],t::_=>match P.underlying t with
   | some .string=>bif Nat.beq (F5 x) 9 then Q2 m 3 .len [x]else none
   | _=>none
 | .max,[x,y],_=>bif Nat.blt (F5 x) 8 && Nat.beq (F5 x) (F5 y)then Q2 m (F5 x) .max [x,y]else none
 | .min,[x,y],_=>bif Nat.blt (F5 x) 8 && Nat.beq (F5 x) (F5 y)then Q2 m (F5 x) .min [x,y]else none
 | _,_,_=>none
def LF(m:Mem)(a:Addr)(s n:Nat)(i:Value):Res :=
 bif !(Nat.blt (F5 i) 8)then none else
 match Q2 m 8 .inb [i,.int .i64 (.ofNat n)]with
 | some (b,⟨H,k,W,hi,lg⟩)=>match brL lg b with
   | some (true,lg)=>some (ixp a s i n,⟨H,k,W,hi,lg⟩)
   | _=>none
 | none=>none
def bN(P:Program)(m:Mem)(t:TypeId)(x i:Value):Res :=
 match P.underlying t,x with
 | some (.array n e),.pointer (some a)=>match F6 P e,a.spot with
   | some s,none=>LF m a s n i
   | _,_=>none
 | some (.slice e),.slice (some a) n c=>match F6 P e,a.spot with
   | some s,none=>bif Nat.beq c (K8+2)then none else LF m a s n i
   | _,_=>none
 | _,_=>none
def bO(P:Program)(m:Mem)(s:TypeId)(x:Value)(i:Nat):Res :=
 match x with
 | .func (.yield 1) ⟨[.pointer (some a),.int .i64 (.ofNat k),j,.int .i64 (.ofNat n)]⟩ ⟨[]⟩=>match P.underlying s with
   | some (.struct fs)=>match fs.toList[i]?,a.spot with
     | some f,none=>match F6 P f.type with
       | some (_+1)=>some (ixp (u5 a f.offset) k j n,m)
       | _=>none
     | _,_=>none
   | _=>none
 | _=>none
def qL(cs:List Value)(s o:Nat):Nat->Option D0
 | 0=>some []
 | n+1=>match cs[o]?,qL cs s (o+s) n with
   | some v,some r=>some (v::r)
   | _,_=>none
def x8(m:Mem)(cs:List Value)(s n:Nat)(i:Value):Nat->Nat->Option (D0×Mem)
 | _,0=>some ([],m)
 | o,k+1=>match qL cs s o n with
   | some (v::l)=>bif Z1 (F5 v) (v::l) && Nat.blt (F5 v) 10 then match Q2 m (F5 v) .sel (i::v::l)with
     | some (h,m)=>match x8 m cs s n i (o+1) k with
       | some (r,m)=>some (h::r,m)
       | none=>none
     | none=>none else none
   | _=>none
def lU(P:Program)(m:Mem)(t:TypeId)(x:Value):Res :=
 match x with
 | .func (.yield 1) ⟨[.pointer (some a),.int .i64 (.ofNat s),i,.int .i64 (.ofNat n)]⟩ ⟨[]⟩ =>
   match Y4 P t,F6 P t with
   | some false,_=>match i7 m a ((n-1)*s+1)with
     | some cs=>match x8 m cs s n i 0 1 with
       | some ([h],m)=>some (h,m)
       | _=>none
     | none=>none
   | some true,some z=>match i7 m a ((n-1)*s+z)with
     | some cs=>match x8 m cs s n i 0 z with
       | some (hs,m)=>some (.agg ⟨hs⟩,m)
       | none=>none
     | none=>none
   | _,_=>none
 | _=>none
def qK(m:Mem)(c a b:Value):Res :=
 match m with
 | ⟨H,n,W,hi,lg⟩=>match brL lg c with
   | some (true,lg)=>some (a,⟨H,n,W,hi,lg⟩)
   | some (false,lg)=>some (b,⟨H,n,W,hi,lg⟩)
   | none=>none
def MW(P:Program)(fr:Fr)(m:Mem)(o:Op):Res :=
 match o with
 | .pick c a b=>qK m (ev fr c) (ev fr a) (ev fr b)
 | .binOp op t x y _=>match kN P m op t (ev fr x) (ev fr y)with
   | some r=>some r
   | none=>AT P m op t x y (ev fr x) (ev fr y)
 | .unOp op _ x=>AO m op (ev fr x)
 | .convert s t x=>lV P m s t (ev fr x)
 | .slice t x d hi mx=>gM P m t (ev fr x) (evO fr d) (evO fr hi) (evO fr mx)
 | .index t x i=>Z0 P m t (ev fr x) (ev fr i)
 | .indexAddr t x i=>bN P m t (ev fr x) (ev fr i)
 | .fieldAddr s x i=>bO P m s (ev fr x) i
 | .load t x=>lU P m t (ev fr x)
 | .call ⟨.builtin b,xs,tys⟩=>bP P m b (evL fr xs.toList) tys.toList
 | _=>none
def kU(m:Mem)(b:Nat):Bool :=
 match Hp.get m.H b with
 | some .frz=>Nat.ble b G1
 | _=>false
def FC{α:Type}(l:List α):Nat->List α
 | 0=>[]
 | n+1=>l++FC l n
mutual
def MS(P:Program):Nat->TypeId->Option F8
 | 0,_=>none
 | d+1,t=>match P.underlying t with
   | some .bool=>some [8]
   | some (.int k)=>some [eC k]
   | some .string=>some [9]
   | some (.slice e)=>match F6 P e with
     | some w=>some [10+w]
     | none=>none
   | some (.struct fs)=>WI P d fs.toList
   | some (.array n e)=>match MS P d e with
     | some l=>some (FC l n)
     | none=>none
   | _=>none
def WI(P:Program):Nat->List Field->Option F8
 | 0,_=>none
 | _+1,[]=>some []
 | d+1,f::fs=>match MS P d f.type,WI P d fs with
   | some a,some b=>some (a++b)
   | _,_=>none
end
def gL(P:Program)(t:TypeId):Option F8 :=
 match MS P 30 t,F6 P t with
 | some l,some n=>bif Nat.beq l.length n then some l else none
 | _,_=>none
def U5.letDo(t:Nat)(op:LOp)(xs:List Value)(m:Mem)(k:Nat->Mem->Option (D0×Mem)):Option (D0×Mem) :=
 match m with
 | ⟨H,n,W,hi,⟨nx,pi,log⟩⟩=>H9 nx fun nx=>H9 t fun t=>O6 xs fun xs=>k nx ⟨H,n,W,hi,⟨Nat.succ nx,pi,.dt nx t op xs::log⟩⟩
def U5(w o i t:Nat)(z:Value)(g:Nat):F8->Nat->Mem->Option (D0×Mem)
 | [],_,m=>some ([],m)
 | tg::ts,j,m=>bif Nat.blt tg 10 then
    match Q2 m tg (.get w (o+j)) [hole i t,z]with
    | some (h,m)=>match U5 w o i t z g ts (j+1) m with
      | some (r,m)=>some (h::r,m)
      | none=>none
    | none=>none
   else U5.letDo tg (.get w (o+j)) [hole i t,z] m fun nx m=>match U5 w o i t z g ts (j+1) m with
     | some (r,m)=>some (dat g nx tg::r,m)
     | none=>none
def iM(P:Program)(t:TypeId)(r:Option (D0×Mem)):Res :=
 match Y4 P t,r with
 | some false,some ([v],m)=>some (v,m)
 | some true,some (vs,m)=>some (.agg ⟨vs⟩,m)
 | _,_=>none
def CK(P:Program)(m:Mem)(t:TypeId)(x:Value):Res :=
 match x,gL P t with
 | .func (.yield 5) ⟨[.pointer (some ⟨b,0,none⟩),.complex .f64 i tg,z,.int .i64 (.ofNat o)]⟩ ⟨[]⟩,some ts =>
   bif kU m b then iM P t (U5 (tg-10) o i tg z b ts 0 m)else none
 | .func (.yield 6) ⟨[.pointer (some ⟨b,0,none⟩),.complex .f64 i tg,z,.int .i64 (.ofNat o)]⟩ ⟨[]⟩,some ts =>
   match Hp.get m.H b with
   | some (.sq c tc T g ro)=>bif Nat.beq tc tg then iM P t (U5 (tg-10) o c tg z g ts 0 m)else none
   | _=>none
 | _,_=>none
def CU(m:Mem)(i t:Nat)(z:Value)(k:Value):Res :=
 bif !(Nat.blt (F5 z) 8)then none else
 match Q2 m 8 (.inbs (t-10)) [z,hole i t]with
 | some (b,⟨H,n,W,hi,lg⟩)=>match brL lg b with
   | some (true,lg)=>some (k,⟨H,n,W,hi,lg⟩)
   | _=>none
 | none=>none
def iC(P:Program)(m:Mem)(t:TypeId)(x z:Value):Res :=
 match P.underlying t,x with
 | some (.slice e),.func (.yield 4) ⟨[.pointer (some ⟨b,0,none⟩),.complex .f64 i tg]⟩ ⟨[]⟩=>match F6 P e with
   | some (s+1)=>bif Nat.beq tg (10+(s+1))then CU m i tg z (opt b i tg z 0)else none
   | _=>none
 | some (.slice e),.func (.yield 2) ⟨[.pointer (some ⟨b,0,none⟩),.complex .f64 i tg]⟩ ⟨[]⟩=>match F6 P e with
   | some (s+1)=>bif Nat.beq tg (10+(s+1))then CU m i tg z (dpt b i tg z 0)else none
   | _=>none
 | some (.slice e),.func (.yield 3) ⟨[.pointer (some ⟨b,0,none⟩),.complex .f64 i tg]⟩ ⟨[]⟩=>match F6 P e with
   | some (s+1)=>bif Nat.beq tg (10+(s+1))then CU m i tg z (dpt b i tg z 0)else none
   | _=>none
 | some (.array n e),.func (.yield 5) ⟨[.pointer (some ⟨b,0,none⟩),.complex .f64 i tg,y,.int .i64 (.ofNat o)]⟩ ⟨[]⟩=>match F6 P e,z with
   | some s,.int _ (.ofNat k)=>bif Nat.blt k n && Nat.blt (o+k*s) (tg-10)then some (H9 (o+k*s) fun o=>dpt b i tg y o,m)else none
   | _,_=>none
 | some (.array n e),.func (.yield 6) ⟨[.pointer (some ⟨b,0,none⟩),.complex .f64 i tg,y,.int .i64 (.ofNat o)]⟩ ⟨[]⟩=>match F6 P e,z with
   | some s,.int _ (.ofNat k)=>bif Nat.blt k n && Nat.blt (o+k*s) (tg-10)then some (H9 (o+k*s) fun o=>opt b i tg y o,m)else none
   | _,_=>none
 | _,_=>none
def iG(P:Program)(m:Mem)(s:TypeId)(x:Value)(f:Nat):Res :=
 match P.underlying s,x with
 | some (.struct fs),.func (.yield 5) ⟨[.pointer (some ⟨b,0,none⟩),.complex .f64 i tg,y,.int .i64 (.ofNat o)]⟩ ⟨[]⟩=>match fs.toList[f]? with
   | some fd=>match F6 P fd.type with
     | some (_+1)=>bif Nat.blt (o+fd.offset) (tg-10)then some (H9 (o+fd.offset) fun o=>dpt b i tg y o,m)else none
     | _=>none
   | none=>none
 | some (.struct fs),.func (.yield 6) ⟨[.pointer (some ⟨b,0,none⟩),.complex .f64 i tg,y,.int .i64 (.ofNat o)]⟩ ⟨[]⟩=>match fs.toList[f]? with
   | some fd=>match F6 P fd.type with
     | some (_+1)=>bif Nat.blt (o+fd.offset) (tg-10)then some (H9 (o+fd.offset) fun o=>opt b i tg y o,m)else none
     | _=>none
   | none=>none
 | _,_=>none
def nA(i:Nat):List T9->Option Nat
 | []=>none
 | .lt j t .len [.complex .f64 k _]::r=>bif Nat.beq k i && Nat.beq t 3 then some j else nA i r
 | _::r=>nA i r
def yZ(m:Mem)(i t:Nat):Res :=
 match nA i m.lg.log with
 | some j=>some (hole j 3,m)
 | none=>Q2 m 3 .len [hole i t]
def UN(P:Program)(m:Mem)(t:TypeId)(x:Value):Res :=
 match P.underlying t,x with
 | some (.slice _),.func (.yield 2) ⟨[.pointer (some ⟨b,0,none⟩),.complex .f64 i tg]⟩ ⟨[]⟩=>yZ m i tg
 | some (.slice _),.func (.yield 3) ⟨[.pointer (some ⟨b,0,none⟩),.complex .f64 i tg]⟩ ⟨[]⟩=>yZ m i tg
 | some (.slice _),.func (.yield 4) ⟨[.pointer (some ⟨b,0,none⟩),.complex .f64 i tg]⟩ ⟨[]⟩=>yZ m i tg
 | _,_=>none
def dJ(m:Mem)(k:Nat->Mem->Option (Value×Nat×Mem)):Option (Value×Nat×Mem) :=
 match m with
 | ⟨H,n,W,hi,lg⟩=>bif Nat.ble n G1 then H9 n fun n=>H9 (upN hi n) fun hi=>Hp.put H n (some .frz) fun H=>k n ⟨H,Nat.succ n,W,hi,lg⟩else none
def toD(t:Nat)(v:Value)(m:Mem):Option (Value×Nat×Mem) :=
 match v with
 | .func (.yield 2) ⟨[.pointer (some ⟨b,0,none⟩),.complex .f64 i tg]⟩ ⟨[]⟩=>bif Nat.beq tg t && kU m b then some (hole i tg,b,m)else none
 | .func (.yield 3) ⟨[.pointer (some ⟨b,0,none⟩),.complex .f64 i tg]⟩ ⟨[]⟩=>bif Nat.beq tg t && kU m b then some (hole i tg,b,m)else none
 | .func (.yield 4) ⟨[.pointer (some ⟨b,0,none⟩),.complex .f64 i tg]⟩ ⟨[]⟩=>match Hp.get m.H b with
   | some (.sq c tc T g true)=>bif (Nat.beq tg t && Nat.beq tc t) && kU m g then dJ m fun b' m=>some (hole c tc,b',m)else none
   | some (.sq c tc T g false)=>bif (Nat.beq tg t && Nat.beq tc t) && kU m g then match x7 m b (.sq c tc T g true)with
     | some m=>dJ m fun b' m=>some (hole c tc,b',m)
     | none=>none else none
   | _=>none
 | .slice none 0 0=>bif Nat.ble 10 t then(match qE m t (.nilw (t-10)) [] fun nx m=>some (hole nx t,m)with
   | some (h,m)=>dJ m fun b' m=>some (h,b',m)
   | none=>none)else none
 | _=>none
abbrev Td:=Nat->Value->Mem->Option (Value×Nat×Mem)
def uG(a:Td):F8->D0->Mem->Option (D0×F8×Mem)
 | [],[],m=>some ([],[],m)
 | t::ts,v::vs,m=>bif Nat.blt t 10 then
    bif Nat.beq (F5 v) t then match uG a ts vs m with
     | some (r,gs,m)=>some (v::r,gs,m)
     | none=>none else none
   else match a t v m with
    | some (h,b,m)=>match uG a ts vs m with
      | some (r,gs,m)=>some (h::r,b::gs,m)
      | none=>none
    | none=>none
 | _,_,_=>none
def fR(gs:List Nat)(m:Mem):Option (Nat×Mem) :=
 match gs with
 | [g]=>bif kU m g then some (g,m)else none
 | gs=>bif gs.all (kU m)then match dJ m fun b m=>some (undef,b,m)with
   | some (_,b,m)=>some (b,m)
   | none=>none else none
def HG:Value->Value->Bool
 | .complex .f64 i _,.complex .f64 j _=>Nat.beq i j
 | .int k a,.int j b=>pG k j && uW a b
 | _,_=>false
def sT(v:Value):Bool:=Nat.blt (F5 v) 8
def cZ(m:Mem)(b i t:Nat)(l h:Value)(c:Bool):Res:=bif sT l && sT h then qE m t (.subs (t-10)) [hole i t,l,h] fun nx m=>some (bif c then clp b nx t else dat b nx t,m)else none
def DN(m:Mem)(b i t:Nat)(cl:Bool)(l:Value)(hi mx:Option Value):Res :=
 match hi,mx with
 | some h,none=>cZ m b i t l h false
 | some h,some x=>bif HG h x then cZ m b i t l h true else none
 | none,none=>match yZ m i t with
   | some (h,m)=>cZ m b i t l h cl
   | none=>none
 | none,some _=>none
def A1M(a:Option Value):Value :=
 match a with
 | some l=>l
 | none=>.int .i64 0
def DO(m:Mem)(b i t:Nat)(cl:Bool)(a hi mx:Option Value):Res:=DN m b i t cl (A1M a) hi mx
def rT(P:Program)(m:Mem)(t:TypeId)(x:Value)(a hi mx:Option Value):Res :=
 match P.underlying t,x with
 | some (.slice e),.func (.yield 2) ⟨[.pointer (some ⟨b,0,none⟩),.complex .f64 i tg]⟩ ⟨[]⟩=>match F6 P e with
   | some s=>bif Nat.beq tg (10+s)then DO m b i tg false a hi mx else none
   | none=>none
 | some (.slice e),.func (.yield 3) ⟨[.pointer (some ⟨b,0,none⟩),.complex .f64 i tg]⟩ ⟨[]⟩=>match F6 P e with
   | some s=>bif Nat.beq tg (10+s)then DO m b i tg true a hi mx else none
   | none=>none
 | some (.slice e),.func (.yield 4) ⟨[.pointer (some ⟨b,0,none⟩),.complex .f64 i tg]⟩ ⟨[]⟩=>match F6 P e with
   | some s=>bif Nat.beq tg (10+s)then match toD tg x m with
     | some (.complex .f64 c _,b',m)=>DO m b' c tg false a hi mx
     | _=>none else none
   | none=>none
 | _,_=>none
inductive Beh where
 | cells (xs:List Value)
 | rows (x:Value)
 | str (x:Value)
def aT(w:Nat)(c:Value):Beh->LOp×D0
 | .cells xs=>(.snoc w,c::xs)
 | .rows x=>(.cat w,[c,x])
 | .str x=>(.cats,[c,x])
def SO(c:Td)(P:Program)(m:Mem)(e:TypeId)(w:Nat)(y:Value):Option (Beh×F8×Bool×Mem) :=
 match y with
 | .slice none 0 _=>some (.cells [],[],false,m)
 | .slice (some a) n _=>match i7 m a (n*w),gL P e with
   | some cs,some ts=>match uG c (FC ts n) cs m with
     | some (xs,gs,m)=>some (.cells xs,gs,Nat.blt 0 n,m)
     | none=>none
   | _,_=>none
 | .func _ _ _=>match c (10+w) y m with
   | some (x,b,m)=>some (.rows x,[b],false,m)
   | none=>none
 | y=>bif Nat.beq (F5 y) 9 && Nat.beq w 1 then some (.str y,[],false,m)else none
def xR(a:Td)(P:Program)(m:Mem)(e:TypeId)(w:Nat)(x:Value):Option (Nat×F8×Option Nat×Mem) :=
 match x with
 | .slice none 0 0=>match qE m (10+w) (.nilw w) [] fun nx m=>some (hole nx (10+w),m)with
   | some (.complex .f64 c _,m)=>some (c,[],none,m)
   | _=>none
 | .func (.yield 4) ⟨[.pointer (some ⟨b,0,none⟩),.complex .f64 i tg]⟩ ⟨[]⟩=>match Hp.get m.H b with
   | some (.sq c tc T g false)=>bif (Nat.beq tg (10+w) && Nat.beq tc tg) && (Nat.beq T e && Nat.ble b G1)then some (c,[g],some b,m)else none
   | _=>none
 | .slice (some ⟨b,0,none⟩) n c=>match Hp.get m.H b,gL P e with
   | some (.cells cs _ _),some ts=>bif Nat.beq cs.length (n*w) && (Nat.beq c n && Nat.blt c K8 || Nat.beq c K8)then match uG a (FC ts n) cs m with
     | some (xs,gs,m)=>match Hp.get m.H b with
       | some (.cells _ T false)=>bif Nat.beq T e && Nat.ble b G1 then match qE m (10+w) (.mk w) xs fun nx m=>some (hole nx (10+w),m)with
         | some (.complex .f64 c _,m)=>some (c,gs,some b,m)
         | _=>none else none
       | _=>none
     | none=>none else none
   | _,_=>none
 | _=>none
def s9(m:Mem)(c t:Nat)(T:TypeId)(g:Nat):Res:=W5 m (.sq c t T g false) fun b=>own b c t
def MB(P:Program)(e:TypeId)(n:Nat):Bool :=
 match cQ P e with
 | some z=>Nat.beq z.cells.size n
 | none=>false
def fP(old:Option Nat)(m:Mem):Mem :=
 match old with
 | some b=>fQ m b
 | none=>m
def KY(a:Td)(P:Program)(m:Mem)(e:TypeId)(w:Nat)(x:Value):Res :=
 match P.info? e with
 | some inf=>bif Nat.beq inf.size w && Nat.blt 0 w then match xR a P m e w x with
   | some (c,gs,old,m)=>match fR gs m with
     | some (g,m)=>s9 (fP old m) c (10+w) e g
     | none=>none
   | none=>none else none
 | none=>none
def ML(P:Program):Nat->Td
 | 0=>toD
 | d+1=>fun t v m=>match v with
   | .slice (some ⟨b,0,none⟩) _ _=>match Hp.get m.H b with
     | some (.cells _ T _)=>match KY (ML P d) P m T (t-10) v with
       | some (x,m)=>toD t x m
       | none=>none
     | _=>none
   | v=>toD t v m
def tdP(P:Program):Td:=ML P 3
def BQ(m:Mem)(e:TypeId)(w c:Nat)(old:Option Nat)(a:Beh)(gs:List Nat):Res :=
 match fR gs m with
 | some (g,m)=>qE m (10+w) (aT w (hole c (10+w)) a).1 (aT w (hole c (10+w)) a).2 fun nx m=>s9 (fP old m) nx (10+w) e g
 | none=>none
def nP(P:Program)(m:Mem)(t t2:TypeId)(x y:Value):Res :=
 match P.underlying t,P.underlying t2 with
 | some (.slice e),some d2=>bif !(aJ d2)then none else
   match P.info? e with
   | some i=>bif (Nat.ble i.bytes 90000 && Nat.blt 0 i.size) && MB P e i.size then
     match SO (tdP P) P m e i.size y with
     | some (bh,gs,sure,m)=>match xR (tdP P) P m e i.size x with
       | some (c,g0,old,m)=>BQ m e i.size c old bh (g0++gs)
       | none=>match x,sure with
         | .func (.yield 3) ⟨[.pointer (some ⟨b,0,none⟩),.complex .f64 c tg]⟩ ⟨[]⟩,true=>bif Nat.beq tg (10+i.size)then BQ m e i.size c none bh (b::gs)else none
         | _,_=>none
     | none=>none else none
   | none=>none
 | _,_=>none
def rQ(P:Program)(m:Mem)(t:TypeId)(x v:Value):Res :=
 match x,gL P t with
 | .func (.yield 6) ⟨[.pointer (some ⟨b,0,none⟩),.complex .f64 i tg,z,.int .i64 (.ofNat o)]⟩ ⟨[]⟩,some ts=>bif fA v then none else
   match uG (tdP P) ts v.cells.toList m with
   | some (xs,gs,m)=>match Hp.get m.H b with
     | some (.sq c tc T g false)=>bif Nat.beq tc tg then match fR (g::gs) m with
       | some (g,m)=>match qE m tg (.set (tg-10) o) (hole c tg::z::xs) fun nx m=>some (hole nx tg,m)with
         | some (.complex .f64 nx _,m)=>FN (x7 m b (.sq nx tg T g false))
         | _=>none
       | none=>none else none
     | _=>none
   | none=>none
 | _,_=>none
def WQ(m m1:Mem):Mem :=
 match m,m1 with
 | ⟨H,n,W,_,_⟩,⟨_,_,_,hi,lg⟩=>⟨H,n,W,hi,lg⟩
def DQ(P:Program)(m:Mem)(s t:TypeId)(x:Value):Res :=
 match P.underlying s,P.underlying t,x with
 | some (.slice e),some .string,.slice (some a) n _=>match P.underlying e with
   | some (.int .u8)=>match i7 m a n with
     | some cs=>bif Z1 4 cs then Q2 m 9 .mks cs else none
     | none=>none
   | _=>none
 | some (.slice e),some .string,.func _ _ _=>match P.underlying e with
   | some (.int .u8)=>match toD 11 x m with
     | some (h,_,m1)=>Q2 (WQ m m1) 9 .str [h]
     | none=>none
   | _=>none
 | some _,some (.slice e),x=>bif Nat.beq (F5 x) 9 then match P.underlying e with
   | some (.int .u8)=>match F6 P e with
     | some 1=>match fR [] m with
       | some (g,m)=>match qE m 11 .byt [x] fun nx m=>some (hole nx 11,m)with
         | some (.complex .f64 nx _,m)=>s9 m nx 11 e g
         | _=>none
       | none=>none
     | _=>none
   | _=>none else none
 | _,_,_=>none
def PV:Value->Bool
 | .slice none 0 0=>true
 | _=>false
def OV(P:Program)(m:Mem)(op:BinOp)(t:TypeId)(x y:Operand)(a b:Value):Res :=
 match P.underlying t,a with
 | some (.slice _),.func (.yield k) ⟨[.pointer (some ⟨_,0,none⟩),.complex .f64 i tg]⟩ ⟨[]⟩=>bif PV b && isC y && (Nat.beq k 2 || Nat.beq k 3 || Nat.beq k 4)then
   match op,Q2 m 8 .nilp [hole i tg]with
   | .eql,some r=>some r
   | .neq,some (h,m)=>Q2 m 8 (.un .not) [h]
   | _,_=>none else none
 | _,_=>none
def CG(P:Program)(m:Mem)(t:TypeId)(l c:Value):Res :=
 match P.underlying t,l,c with
 | some (.slice e),.complex .f64 i ti,.complex .f64 j tj=>bif (Nat.beq i j && Nat.beq ti 3) && Nat.beq tj 3 then
   match P.info? e with
   | some inf=>bif Nat.ble inf.bytes 90000 && Nat.blt 0 inf.size then
     match cQ P e with
     | some z=>bif Nat.beq z.cells.size inf.size && z.cells.toList.all (fun z=>Nat.blt (F5 z) 10)then
       match fR [] m with
       | some (g,m)=>match qE m (10+inf.size) (.rep inf.size) (hole i 3::z.cells.toList) fun nx m=>some (hole nx (10+inf.size),m)with
         | some (.complex .f64 nx _,m)=>s9 m nx (10+inf.size) e g
         | _=>none
       | none=>none else none
     | none=>none else none
   | none=>none else none
 | _,_,_=>none
def dsM(P:Program)(fr:Fr)(m:Mem)(o:Op):Res :=
 match o with
 | .makeSlice t l c=>CG P m t (ev fr l) (ev fr c)
 | .load t x=>CK P m t (ev fr x)
 | .store t x y=>rQ P m t (ev fr x) (ev fr y)
 | .indexAddr t x i=>iC P m t (ev fr x) (ev fr i)
 | .fieldAddr s x i=>iG P m s (ev fr x) i
 | .slice t x a hi mx=>rT P m t (ev fr x) (evO fr a) (evO fr hi) (evO fr mx)
 | .convert s t x=>DQ P m s t (ev fr x)
 | .binOp op t x y _=>OV P m op t x y (ev fr x) (ev fr y)
 | .call ⟨.builtin .len,xs,tys⟩=>match evL fr xs.toList,tys.toList with
   | [x],t::_=>UN P m t x
   | _,_=>none
 | .call ⟨.builtin .append,xs,tys⟩=>match evL fr xs.toList,tys.toList with
   | [x,y],t::t2::_=>nP P m t t2 x y
   | _,_=>none
 | _=>none
def IY(P:Program)(m:Mem)(s t:TypeId)(x:Value):Res :=
 match P.underlying s,P.underlying t,x with
 | some (.pointer e),some .unsafePointer,.pointer (some ⟨b,o,none⟩)=>match F6 P e,Hp.get m.H b with
   | some (_+1),some (.cells cs _ _)=>bif Nat.blt o cs.length then some (x,m)else none
   | _,_=>none
 | some .unsafePointer,some (.pointer u),.pointer (some ⟨b,0,none⟩)=>match F6 P u,Hp.get m.H b with
   | some (k+1),some (.cells cs T false)=>bif Nat.beq T u && Nat.beq cs.length (k+1)then some (x,m)else none
   | _,_=>none
 | some (.slice _),some (.slice e),.slice (some ⟨b,o,none⟩) n c=>bif Nat.beq s t && !(Nat.beq c (K8+2))then match P.underlying e,Hp.get m.H b with
   | some (.int .u8),some (.cells cs T false)=>match x7 m b (.cells cs T false)with
     | some m1=>some (x,m1)
     | none=>none
   | _,_=>none else none
 | _,_,_=>none
def HN(P:Program)(m:Mem)(op:BinOp)(t:TypeId)(a b:Value):Res :=
 match P.underlying t,a,b with
 | some (.pointer e),.pointer (some ⟨b1,o1,none⟩),.pointer (some ⟨b2,o2,none⟩)=>bif Nat.beq b1 b2 && Nat.beq o1 o2 then match P.info? e,op with
   | some _,.eql=>some (.bool true,m)
   | some _,.neq=>some (.bool false,m)
   | _,_=>none else none
 | _,_,_=>none
def sdM(P:Program)(m:Mem)(ty:TypeId)(x:Value):Res :=
 match P.underlying ty with
 | some (.pointer _)=>match x with
  | .func (.yield 4) ⟨[.pointer (some ⟨b,0,none⟩),.complex .f64 i t]⟩ ⟨[]⟩=>match Hp.get m.H b with
   | some (.sq _ _ _ _ _)=>some (sdt b,m)
   | _=>none
  | _=>none
 | _=>none
def usM(P:Program)(m:Mem)(a:TypeId)(p l:Value):Res :=
 match p with
 | .func (.yield 9) ⟨[.pointer (some ⟨b,0,none⟩)]⟩ ⟨[]⟩=>bif Nat.blt (F5 l) 8 then match Hp.get m.H b,P.underlying a with
   | some (.sq c tc T g false),some (.pointer e)=>bif Nat.beq e T && Nat.beq tc 11 then match F6 P T,Q2 m 9 .ustr [hole c tc,l]with
     | some 1,some (v,m)=>match x7 m b (.sq c tc T g true)with
       | some m=>some (v,m)
       | none=>none
     | _,_=>none else none
   | _,_=>none else none
 | _=>none
def cS(P:Program)(t:TypeId):Option Nat :=
 match P.underlying t with
 | some .bool=>some 8
 | some (.int k)=>some (eC k)
 | some .string=>some 9
 | _=>none
def pU(P:Program):List Field->Nat->Option F8
 | [],_=>some []
 | f::r,i=>match cS P f.type,pU P r (i+1)with
   | some t,some l=>bif !(f.name == "_") && Nat.beq f.offset i then some (t::l)else none
   | _,_=>none
def kB(P:Program)(t:TypeId):Option (Bool×List Nat) :=
 match P.underlying t with
 | some (.struct fs)=>bif P.stoodInHeld t then none else match pU P fs.toList 0 with
   | some l=>some (true,l)
   | none=>none
 | _=>match cS P t with
   | some k=>some (false,[k])
   | none=>none
def GV(P:Program)(t:TypeId):Option (Bool×List Nat) :=
 match Y4 P t,gL P t with
 | some true,some l=>bif l.all (fun k=>Nat.blt k 10)then some (true,l)else none
 | some false,some [k]=>bif Nat.blt k 10 then some (false,[k])else none
 | _,_=>none
structure MTy where
 kt:TypeId
 vt:TypeId
 ka:Bool
 ks:F8
 va:Bool
 vs:F8
def MTy.w(y:MTy):Nat:=y.ks.length+y.vs.length
def FL(P:Program)(T:TypeId):Option MTy :=
 match P.underlying T with
 | some (.map kt vt)=>match kB P kt,GV P vt with
   | some (ka,k::ks),some (va,vs)=>some ⟨kt,vt,ka,k::ks,va,vs⟩
   | _,_=>none
 | _=>none
def tE:F8->D0->Bool
 | [],[]=>true
 | t::ts,v::vs=>Nat.beq (F5 v) t && tE ts vs
 | _,_=>false
def jU(a:Bool)(b:List Nat)(v:Value):Option D0 :=
 match a,v with
 | true,.agg cs=>bif tE b cs.toList then some cs.toList else none
 | true,_=>none
 | false,v=>bif tE b [v]then some [v]else none
def SS(a:Bool)(vs:List Value):N6 :=
 match a,vs with
 | true,vs=>some (.agg ⟨vs⟩)
 | false,[v]=>some v
 | false,_=>none
def OY(P:Program)(m:Mem)(T:TypeId):Res :=
 match FL P T with
 | some y=>qE m (10+y.w) (.mk y.w) [] fun nx m=>W5 m (.mp nx (10+y.w) T) fun b=>.map (some b)
 | none=>none
def oQ(w kw c t:Nat)(a:List Value):F8->D0->Nat->Mem->Option (D0×Mem)
 | [],[],_,m=>some ([],m)
 | tg::ts,z::zs,j,m=>match Q2 m tg (.mget w kw j) (hole c t::z::a)with
   | some (h,m)=>match oQ w kw c t a ts zs (j+1) m with
     | some (r,m)=>some (h::r,m)
     | none=>none
   | none=>none
 | _,_,_,_=>none
def sM(P:Program)(m:Mem)(T:TypeId)(x k:Value)(ok:Bool):Res :=
 match x,FL P T with
 | .map (some r),some y=>match Hp.get m.H r,jU y.ka y.ks k,cQ P y.vt with
   | some (.mp c t T2),some kc,some z=>bif Nat.beq T2 T then match jU y.va y.vs z with
     | some a=>match oQ y.w y.ks.length c t kc y.vs a y.ks.length m with
       | some (hs,m)=>match SS y.va hs with
         | some v=>bif ok then match Q2 m 8 (.mhas y.w y.ks.length) (hole c t::kc)with
            | some (b,m)=>some (.tuple ⟨[v,b]⟩,m)
            | none=>none
           else some (v,m)
         | none=>none
       | none=>none
     | none=>none else none
   | _,_,_=>none
 | _,_=>none
def vZ(P:Program)(m:Mem)(T:TypeId)(x k v:Value):Res :=
 match x,FL P T with
 | .map (some r),some y=>match Hp.get m.H r,jU y.ka y.ks k,jU y.va y.vs v with
   | some (.mp c t T2),some kc,some vc=>bif Nat.beq T2 T && Nat.blt t 1000 then qE m t (.mput y.w y.ks.length) (hole c t::(kc++vc)) fun nx m=>FN (x7 m r (.mp nx t T))else none
   | _,_,_=>none
 | _,_=>none
def CM(P:Program)(m:Mem)(T:TypeId)(x:Value):Res :=
 match P.underlying T,x with
 | some (.map _ _),.map (some r)=>match Hp.get m.H r with
   | some (.mp c t _)=>yZ m c t
   | _=>none
 | _,_=>none
def sB(P:Program)(m:Mem)(t:TypeId)(x:Value):Res :=
 match P.underlying t with
 | some .string=>bif Nat.beq (F5 x) 9 then W5 m (.iter [x,.int .i64 (.ofNat 0)]) fun b=>.pointer (some ⟨b,0,none⟩)else none
 | _=>none
def zT:Value->Value->Option (ByteArray×Nat)
 | .string s,.int .i64 (.ofNat k)=>some (s,k)
 | _,_=>none
def CC(m:Mem)(x:Value):Res :=
 match x with
 | .pointer (some ⟨r,0,none⟩)=>match Hp.get m.H r with
   | some (.iter [s,p])=>match zT s p with
     | some (b,k)=>bif Nat.blt k b.data.toList.length then H9 (k+(Utf8.decode b k).2) fun a=>match x7 m r (.iter [s,.int .i64 (.ofNat a)])with
        | some m=>H9 (Utf8.decode b k).1 fun c=>some (.tuple ⟨[.bool true,p,.int .i32 (.ofNat c)]⟩,m)
        | none=>none
       else some (.tuple ⟨[.bool false]⟩,m)
     | none=>bif Nat.beq (F5 s) 9 && Nat.beq (F5 p) 3 then match Q2 m 3 .len [s]with
       | some (h,m)=>match Q2 m 8 (.bin .lss) [p,h]with
         | some (c,⟨H,n,W,hi,lg⟩)=>match brL lg c with
           | some (true,lg)=>match Q2 ⟨H,n,W,hi,lg⟩ 2 .rune [s,p]with
             | some (y,m)=>match Q2 m 3 .rpos [s,p]with
               | some (q,m)=>match x7 m r (.iter [s,q])with
                 | some m=>some (.tuple ⟨[.bool true,p,y]⟩,m)
                 | none=>none
               | none=>none
             | none=>none
           | some (false,lg)=>some (.tuple ⟨[.bool false]⟩,⟨H,n,W,hi,lg⟩)
           | none=>none
         | none=>none
       | none=>none else none
   | _=>none
 | _=>none
def xtM(P:Program)(fr:Fr)(m:Mem)(o:Oper):Res :=
 match o.op with
 | .convert s t x=>IY P m s t (ev fr x)
 | .binOp op t x y _=>HN P m op t (ev fr x) (ev fr y)
 | .call ⟨.builtin .unsafeSliceData,xs,_⟩=>match evL fr xs.toList with
   | [x]=>sdM P m o.type x
   | _=>none
 | .call ⟨.builtin .unsafeString,xs,tys⟩=>match evL fr xs.toList,tys.toList with
   | [p,l],t::_=>usM P m t p l
   | _,_=>none
 | .makeMap t none=>OY P m t
 | .lookup t x k ok=>sM P m t (ev fr x) (ev fr k) ok
 | .range t x=>sB P m t (ev fr x)
 | .next x true=>CC m (ev fr x)
 | .mapUpdate t x k v=>vZ P m t (ev fr x) (ev fr k) (ev fr v)
 | .insert t x k v=>vZ P m t (ev fr x) (ev fr k) (ev fr v)
 | .call ⟨.builtin .len,xs,tys⟩=>match evL fr xs.toList,tys.toList with
   | [x],t::_=>CM P m t x
   | _,_=>none
 | _=>none
inductive EK where
 | noEscape|makeNoZero (e:TypeId)|indexByteString|countString|indexString|copyString
 deriving DecidableEq
def DH:List (FuncId×EK)->FuncId->Option EK
 | [],_=>none
 | (g,k)::r,f=>bif Nat.beq g f then some k else DH r f
structure FnC where
 run:D0->Mem->Res
structure L4 where
 fn:FuncId->FnC
 yl:FnC
def jL:Value->Bool
 | .tuple ⟨[]⟩=>true
 | _=>false
def AH(lg:Lg)(v:Value)(b:Bool):Option (Bool×Lg) :=
 match v with
 | .bool c=>some (c == b,lg)
 | .complex k i t=>match brL lg (.complex k i t)with
   | some (c,lg)=>some (c == b,lg)
   | none=>none
 | v=>bif jL v then some (false,lg)else none
def s8(nt:Nat)(fr:Fr)(lg:Lg)(ops:List Oper)(o:Oper):Option (Bool×Lg) :=
 match o.guard with
 | none=>some (true,lg)
 | some (j,b)=>match ops[j]? with
   | some p=>match p.dst with
     | some t=>bif Nat.blt t nt then AH lg (fr.get t) b else none
     | none=>none
   | none=>none
def qX(v:Value)(vs:List Value):Option (FuncId×List Value) :=
 match v with
 | .func (.func f) a b=>some (f,a.toList++(vs++b.toList))
 | _=>none
def bJ(v:Value):Option Nat :=
 match v with
 | .func (.yield 7) ⟨[.pointer (some ⟨b,0,none⟩)]⟩ ⟨[]⟩=>some b
 | _=>none
def CA(call:L4)(m:Mem)(v:Value)(vs:List Value):Res :=
 match qX v vs with
 | some (f,vs)=>(call.fn f).run vs m
 | none=>match bJ v with
   | some _=>call.yl.run (v::vs) m
   | none=>none
def A1O(call:L4)(x:XC)(xs:LC)(fr:Fr)(m:Mem):Res:=CA call m (x.run fr) (xs.run fr)
def A0C(f:FnC)(xs:LC)(fr:Fr)(m:Mem):Res:=f.run (xs.run fr) m
def PO(P:Program)(c:OpC)(o:Oper)(fr:Fr)(m:Mem):Res :=
 match c.run fr m with
 | some r=>some r
 | none=>match MW P fr m o.op with
   | some r=>some r
   | none=>match dsM P fr m o.op with
     | some r=>some r
     | none=>xtM P fr m o
def T5(P:Program)(call:L4)(o:Oper):OpC :=
 match o.op with
 | .call ⟨.value (.func f),xs,_⟩=>⟨A0C (call.fn f) (pX xs.toList)⟩
 | .call ⟨.value x,xs,_⟩=>⟨A1O call (P1 x) (pX xs.toList)⟩
 | op=>⟨PO P (tM P op) o⟩
def tH(nt:Nat)(d:Option Tmp):Bool :=
 match d with
 | some d=>Nat.blt d nt
 | none=>true
structure A0i where
 run:Value->Fr->(Fr->Option S)->Option S
def qH(d:Option Tmp):A0i :=
 match d with
 | some t=>⟨qD (sel (t / 64%8)) (sel (t / 8%8)) (sel (t%8))⟩
 | none=>⟨fun _ fr k=>k fr⟩
structure SZ where
 run:S->Option S
def gR(c:OpC)(d:A0i)(next:SZ)(s:S):Option S :=
 match s with
 | ⟨fr,m⟩=>match c.run fr m with
   | some (v,m')=>bif Nat.ble m.hi m'.hi then d.run v fr fun fr=>next.run ⟨fr,m'⟩else none
   | none=>none
def bR(nt:Nat)(all:List Oper)(o:Oper)(c:OpC)(d:A0i)(next:SZ)(s:S):Option S :=
 match s with
 | ⟨fr,⟨H,n,W,hi,lg⟩⟩=>match s8 nt fr lg all o with
   | some (true,lg)=>gR c d next ⟨fr,⟨H,n,W,hi,lg⟩⟩
   | some (false,lg)=>d.run undef fr fun fr=>next.run ⟨fr,⟨H,n,W,hi,lg⟩⟩
   | none=>none
def P7(P:Program)(nt gl:Nat)(call:L4)(all:List Oper):List Oper->SZ
 | []=>⟨some⟩
 | o::r=>bif tH nt o.dst && FI nt gl o.op then match o.guard with
   | none=>⟨fun s=>gR (T5 P call o) (qH o.dst) (P7 P nt gl call all r) s⟩
   | some _=>⟨fun s=>bR nt all o (T5 P call o) (qH o.dst) (P7 P nt gl call all r) s⟩
   else⟨fun _=>none⟩
structure Rec where
 i:Nat
 lo:Nat
 hi:Nat
inductive Cls where
 | free
 | one (b:Nat)
 | all
def A1k(fr:Fr)(o:Op):Cls :=
 match o with
 | .move _|.assign _|.pick ..|.alloc _|.box ..|.build ..|.buildSlice ..|.nilCheck _|.binOp ..|.unOp ..|.makeInterface ..|.makeFunc ..|.makeMap ..|.makeSlice ..
 | .fieldAddr ..|.field ..|.indexAddr ..|.index ..|.extract ..|.range ..=>.free
 | .slice _ x _ _ _=>match ev fr x with
   | .slice _ _ _|.string _|.pointer _|.complex _ _ _=>.free
   | _=>.all
 | .convert _ _ x=>match ev fr x with
   | .int _ _|.string _=>.free
   | _=>.all
 | .call ⟨.builtin .len,xs,_⟩=>match evL fr xs.toList with
   | [.slice _ _ _]|[.string _]=>.free
   | _=>.all
 | .call ⟨.builtin .min,_,_⟩|.call ⟨.builtin .max,_,_⟩=>.free
 | .call ⟨.builtin .unsafeSliceData,xs,_⟩=>match evL fr xs.toList with
   | [.slice _ _ _]=>.free
   | _=>.all
 | .load _ x|.store _ x _=>match ev fr x with
   | .pointer (some a)=>.one a.block
   | _=>.all
 | _=>.all
def wR(H:Hp AB):F8->Hp AB
 | []=>H
 | b::r=>Hp.put H b none fun H=>wR H r
def xT(H0 H:Hp AB):F8->Hp AB
 | []=>H
 | b::r=>Hp.put H b (Hp.get H0 b) fun H=>xT H0 H r
def ET:Nat->Nat->F8
 | _,0=>[]
 | lo,n+1=>lo::ET (lo+1) n
def W6:List Rec->F8
 | []=>[]
 | r::rs=>ET r.lo (r.hi-r.lo)++W6 rs
def l7(l:List Nat)(b:Nat):Bool:=l.any (Nat.beq b)
def zY(l:List Nat):Bool:=l.all fun b=>Nat.ble b G1
def wE(b:List Nat)(rs:List Rec):List Rec:=rs.filter fun r=>!(l7 b r.i)
def vG(m:Mem)(c:Cls)(us:List Rec):Option Mem :=
 match m with
 | ⟨H,n,_,hi,lg⟩=>match c with
   | .free=>some ⟨hp0,n,[],hi,lg⟩
   | .one b=>bif l7 (W6 us) b || !(Nat.ble b G1)then none else Hp.put hp0 b (Hp.get H b) fun H=>some ⟨H,n,[],hi,lg⟩
   | .all=>bif zY (W6 us)then some ⟨wR H (W6 us),n,[],hi,lg⟩else none
def gZ(m m':Mem):Option Mem :=
 bif Nat.ble m'.hi m.n then(match m with|⟨H,n,W,hi,_⟩=>some ⟨H,n,W,hi,m'.lg⟩)else
 bif Nat.ble m'.hi G1 then zI (xT m'.H m.H (ET m.n (m'.hi-m.n))) fun H=>H9 m'.hi fun n=>some ⟨H,n,m.W,n,m'.lg⟩else none
def IW(fr:Fr)(m:Mem)(o:Oper)(b:List Nat)(rs:List Rec)(op:OpC)(k:Value->Mem->Option S):Option S :=
 let us:=wE b rs
 let c:=A1k fr o.op
 match vG m c us with
 | some mv=>match op.run fr mv with
   | some (v,m') =>
     match m'.W,Nat.ble m.hi m'.hi with
     | [],true=>match gZ m m' with
       | some m2=>k v m2
       | none=>none
     | _,_=>none
   | none=>none
 | none=>none
def wrO:Op->Bool
 | .call _|.store ..|.mapUpdate ..=>true
 | _=>false
def n8:Op->Bool
 | .move _|.assign _|.extract ..|.slice ..=>true
 | _=>false
def ZN:Op->Bool
 | .field ..|.fieldAddr ..|.index ..|.indexAddr ..|.binOp ..|.unOp ..|.build ..|.load ..|.pick ..|.convert ..|.slice ..|.nilCheck _=>true
 | .call ⟨.builtin .len,_,_⟩|.call ⟨.builtin .min,_,_⟩|.call ⟨.builtin .max,_,_⟩=>true
 | o=>n8 o
def yG(a b:Addr):Bool :=
 match a,b with
 | ⟨x,o,none⟩,⟨y,p,none⟩=>Nat.beq x y && Nat.beq o p
 | _,_=>false
def FB(f g:Fn):Bool :=
 match f,g with
 | .func f,.func g=>Nat.beq f g
 | .yield f,.yield g=>Nat.beq f g
 | _,_=>false
def vQ(s:Value->Value->Bool):D0->D0->Bool
 | [],[]=>true
 | a::l,b::r=>s a b && vQ s l r
 | _,_=>false
def rY:Nat->Value->Value->Bool
 | _,.bool a,.bool b=>a == b
 | _,.int k n,.int j m=>pG k j && uW n m
 | _,.complex .f64 i t,.complex .f64 j u=>Nat.beq i j && Nat.beq t u
 | _,.complex .f32 i t,.complex .f32 j u=>Nat.beq i j && Nat.beq t u
 | _,.string s,.string t=>decide (s.data.toList=t.data.toList)
 | _,.pointer none,.pointer none=>true
 | _,.pointer (some a),.pointer (some b)=>yG a b
 | _,.slice none n c,.slice none m d=>Nat.beq n m && Nat.beq c d
 | _,.slice (some a) n c,.slice (some b) m d=>yG a b && (Nat.beq n m && Nat.beq c d)
 | _,.map none,.map none=>true
 | _,.map (some a),.map (some b)=>Nat.beq a b
 | _,.nilFunc,.nilFunc=>true
 | _,.nilIface,.nilIface=>true
 | d+1,.func f a b,.func g a' b'=>FB f g && (vQ (rY d) a.toList a'.toList && vQ (rY d) b.toList b'.toList)
 | d+1,.iface t v,.iface u w=>Nat.beq t u && rY d v w
 | _,_,_=>false
def NV(a b:AB):Bool :=
 match a,b with
 | .frz,.frz=>true
 | .cells cs T ro,.cells cs' T' ro'=>vQ (rY 6) cs cs' && (Nat.beq T T' && (ro == ro'))
 | _,_=>false
def OE(H:Hp AB)(b:Nat):Option (Nat×AB) :=
 match Hp.get H b with
 | some .frz=>some (b,.frz)
 | some (.cells cs T ro)=>some (b,.cells cs T ro)
 | _=>none
def DA(H:Hp AB)(fr:Fr)(o:Op):Option (Nat×AB) :=
 match o with
 | .load _ x=>match ev fr x with
   | .func (.yield 5) ⟨.pointer (some a)::_⟩ _=>OE H a.block
   | .pointer (some a)=>OE H a.block
   | _=>none
 | _=>none
def sV(H:Hp AB)(b:Nat)(ab:AB):Bool :=
 match Hp.get H b with
 | some x=>Nat.ble b G1 && NV x ab
 | none=>false
def nN:Nat:=262144
def yO(m:Mem)(r:Option (Nat×AB))(us:List Rec):Option Mem :=
 match m with
 | ⟨H,_,_,_,lg⟩=>match r with
   | none=>some ⟨hp0,nN,[],nN,lg⟩
   | some (b,ab)=>bif l7 (W6 us) b || !(sV H b ab)then none else Hp.put hp0 b (some ab) fun H=>some ⟨H,nN,[],nN,lg⟩
def gU(fr:Fr)(m:Mem)(o:Oper)(b:List Nat)(rs:List Rec)(op:OpC):Option (Value×Lg) :=
 match yO m (DA m.H fr o.op) (wE b rs)with
 | some mv=>match op.run fr mv with
   | some (v,⟨_,_,[],hi,lg⟩)=>bif Nat.beq hi nN then some (v,lg)else none
   | _=>none
 | none=>none
abbrev Qs:=List (Nat×Option (Nat×AB))
def zZ:Nat->F8->Qs->Bool
 | 0,_,_=>true
 | n+1,b,qs=>(l7 b n || qs.any fun q=>Nat.beq n q.1) && zZ n b qs
def zA(i:Nat):List F8->List Oper->Bool
 | c::bs,o::r=>(l7 c i || n8 o.op) && zA i bs r
 | _,_=>true
def WP(H:Hp AB)(r:Option (Nat×AB)):Bool :=
 match r with
 | none=>true
 | some (b,ab)=>sV H b ab
def PN(b:List Nat)(H:Hp AB)(a:Qs):Bool:=a.all fun q=>l7 b q.1 || WP H q.2
def AV(o:Op)(i:Nat)(b:List Nat)(bs:List F8)(r:List Oper)(a:Qs):Bool:=wrO o && (zZ i b a && zA i bs r)
def c8(P:Program)(nt gl:Nat)(call:L4)(all:List Oper):List Oper->Nat->List F8->List Rec->Qs->S->Option S
 | [],_,_,_,_,s=>some s
 | _::_,_,[],_,_,_=>none
 | o::r,i,b::bs,rs,qs,⟨fr,⟨H,n,W,hi,lg⟩⟩=>match s8 nt fr lg all o,tH nt o.dst && FI nt gl o.op with
   | some (true,lg),true=>bif AV o.op i b bs r qs then(match (T5 P call o).run fr ⟨H,n,W,hi,lg⟩with
      | some (v,m2)=>bif Nat.ble hi m2.hi && PN b m2.H qs then(qH o.dst).run v fr fun fr=>c8 P nt gl call all r (i+1) bs [] qs ⟨fr,m2⟩else none
      | none=>none)
     else match (bif ZN o.op then gU fr ⟨H,n,W,hi,lg⟩ o b rs (T5 P call o)else none)with
      | some (v,lg2)=>(qH o.dst).run v fr fun a=>c8 P nt gl call all r (i+1) bs rs ((i,DA H fr o.op)::qs) ⟨a,⟨H,n,W,hi,lg2⟩⟩
      | none=>bif n8 o.op then none else IW fr ⟨H,n,W,hi,lg⟩ o b rs (T5 P call o) fun v m2 =>
        (qH o.dst).run v fr fun fr=>c8 P nt gl call all r (i+1) bs (⟨i,n,m2.n⟩::rs) qs ⟨fr,m2⟩
   | some (false,lg),true=>(qH o.dst).run undef fr fun fr=>c8 P nt gl call all r (i+1) bs rs ((i,none)::qs) ⟨fr,⟨H,n,W,hi,lg⟩⟩
   | _,_=>none
def SU(l:List Nat)(b:Nat):F8:=bif l7 l b then l else H9 b fun b=>b::l
def IG:F8->F8->F8
 | [],b=>b
 | x::a,b=>SU (IG a b) x
def nQ(acc:List F8):List Edge->F8
 | []=>[]
 | e::r=>bif Region.binds .any e then SU (IG (acc.getD e.on []) (nQ acc r)) e.on else nQ acc r
def V7:List Oper->List F8->List F8
 | [],acc=>acc
 | o::r,acc=>O6 (nQ acc o.after.toList) fun a=>V7 r (acc++[a])
def lR:Operand->List Tmp
 | .tmp t=>[t]
 | _=>[]
def R8(ops:List Oper)(o:Oper):List Tmp :=
 o.dst.toList++(o.op.operands.toList.flatMap lR++(match o.guard with
  | none=>[]
  | some (j,_)=>match ops[j]? with
    | some p=>p.dst.toList
    | none=>[]))
def TX(a:List F8)(i k:Nat):Bool:=bif Nat.blt i k then l7 (a.getD k []) i else l7 (a.getD i []) k
def nV(b:List F8)(i:Nat)(a:List Tmp):List Oper->Nat->Bool
 | [],_=>true
 | p::r,k=>(Nat.beq k i || (match p.dst with|none=>true|some t=>!(l7 a t) || TX b i k)) && nV b i a r (k+1)
def jR(i:Nat):List Edge->Bool
 | []=>true
 | e::r=>(!(Region.binds .any e) || Nat.blt e.on i) && jR i r
def BW(ops:List Oper)(a:List F8):List Oper->Nat->Bool
 | [],_=>true
 | o::r,i=>jR i o.after.toList && (nV a i (R8 ops o) ops 0 && BW ops a r (i+1))
def zO(ops:Array Oper):Bool:=BW ops.toList (V7 ops.toList []) ops.toList 0
def zS:Op->Bool
 | .move _|.assign _|.load _ _|.store _ _ _=>true
 | _=>false
def iN:Op->Option (TypeId×Operand)
 | .load t x=>some (t,x)
 | .store t x _=>some (t,x)
 | _=>none
def cT:Op->Bool
 | .store _ _ _=>true
 | _=>false
def OC:Op->List Tmp
 | .move x|.assign x=>lR x
 | .load _ x=>lR x
 | .store _ x y=>lR x++lR y
 | _=>[]
def vY(o:Oper)(l:List Tmp):Bool :=
 match o.dst with
 | some d=>l7 l d
 | none=>false
def A1T(a b:Oper):Bool :=
 (match a.dst,b.dst with
   | some d,some e=>!(Nat.beq d e)
   | _,_=>true) && (!(vY a (OC b.op)) && (!(vY b (OC a.op)) && !(cT a.op && cT b.op)))
def nF(o:Oper)(i:Nat):Bool:=o.after.any fun e=>Region.binds .any e && Nat.beq e.on i
def SV(l:List Oper):List Tmp:=l.flatMap fun o=>match iN o.op with
 | some (_,x)=>lR x
 | none=>[]
def yP(p:Oper->Oper->Bool)(l:List Oper):Bool :=
 (List.range l.length).all fun j=>(List.range j).all fun i=>match l[i]?,l[j]? with
   | some a,some b=>nF b i || p a b
   | _,_=>true
def ZS(a:List Tmp)(i:Nat)(o:Oper):Bool:=zS o.op && ((match o.guard with|none=>true|some _=>false) && (!(vY o a) && o.after.all fun e=>!(Region.binds .any e) || Nat.blt e.on i))
def OQ(a:List Tmp):Nat->List Oper->Bool
 | _,[]=>true
 | i,o::l=>ZS a i o && OQ a (i+1) l
def gS(l:List Oper):Bool:=OQ (SV l) 0 l && yP A1T l
def OK(P:Program)(nt gl:Nat)(fr:Fr)(H:Hp AB)(o:Oper):Bool :=
 match iN o.op with
 | none=>true
 | some (t,x)=>bif !(okX nt gl x)then false else match ev fr x,Y4 P t,F6 P t with
   | .pointer (some a),some _,some s=>match a.spot,Hp.get H a.block with
     | none,some (.cells cs _ false)=>Nat.ble (a.off+s) cs.length && (Nat.blt a.off cs.length && Nat.ble a.block G1)
     | _,_=>false
   | _,_,_=>false
def ST(fr:Fr)(a b:Oper):Bool :=
 bif cT a.op || cT b.op then match iN a.op,iN b.op with
  | some (_,x),some (_,y)=>match ev fr x,ev fr y with
    | .pointer (some p),.pointer (some q)=>!(Nat.beq p.block q.block)
    | _,_=>false
  | _,_=>true else true
def hO(P:Program)(nt gl:Nat)(fr:Fr)(H:Hp AB)(l:List Oper):Bool:=l.all (OK P nt gl fr H) && yP (ST fr) l
structure dC where
 run:S->Option (Ex×S)
def wG(f:dC):Nat->S->Option (Ex×S)
 | 0,_=>none
 | n+1,s=>match f.run s with
   | some (.normal,s)=>wG f n s
   | r=>r
def SM(a b:dC)(s:S):Option (Ex×S) :=
 match a.run s with
 | some (.normal,s)=>b.run s
 | r=>r
def DV(c:XC)(a b:dC)(s:S):Option (Ex×S) :=
 match c.run s.fr with
 | .bool true=>a.run s
 | .bool false=>b.run s
 | v=>match s with
   | ⟨fr,⟨H,n,W,hi,lg⟩⟩=>match brL lg v with
     | some (true,lg)=>a.run ⟨fr,⟨H,n,W,hi,lg⟩⟩
     | some (false,lg)=>b.run ⟨fr,⟨H,n,W,hi,lg⟩⟩
     | none=>none
def tV(id:Nat)(c:dC)(s:S):Option (Ex×S) :=
 match c.run s with
 | some (.exit j,s)=>bif Nat.beq j id then some (.normal,s)else some (.exit j,s)
 | r=>r
def V2(r:SZ)(s:S):Option (Ex×S) :=
 match r.run s with
 | some s=>some (.normal,s)
 | none=>none
structure LpT where
 me:FuncId
 look:List Bool->Option (S->Option (Ex×S))
def wH(c:dC)(L:S->Option (Ex×S)):Nat->S->Option (Ex×S)
 | 0,_=>none
 | n+1,s=>match L s with
   | some r=>some r
   | none=>match c.run s with
     | some (.normal,s)=>wH c L n s
     | r=>r
def DT(c:dC)(l:Option (S->Option (Ex×S)))(s:S):Option (Ex×S) :=
 match l with
 | some f=>wH c f 4 s
 | none=>wG c 1000000 s
def frL(fr:Fr):Nat->Nat->D0
 | _,0=>[]
 | i,n+1=>fr.get i::frL fr (i+1) n
def WO:Value->Nat
 | .pointer (some a)=>a.block
 | _=>0
def eG(v:Value):F8 :=
 match v with
 | .func (.yield 8) ⟨l⟩ ⟨[]⟩=>l.map WO
 | _=>[]
def exN:Ex->Nat
 | .normal=>0
 | .ret=>2
 | .exit k=>k+4
def nEx:Nat->Option Ex
 | 0=>some .normal
 | 1=>none
 | 2=>some .ret
 | 3=>none
 | k+4=>some (.exit k)
def zB:Ex->Bool
 | .normal=>true
 | _=>false
def mD(fr:Fr)(hi:Nat)(b:Nat)(r:Res):Option (Ex×S) :=
 match r with
 | some (_,m)=>match Hp.get m.H b with
   | some (.lp f q vs st)=>match nEx st with
     | some e=>bif Nat.ble hi m.hi then match x7 m b (.lp f q vs 3)with
       | some m=>some (e,⟨fr,m⟩)
       | none=>none else none
     | none=>none
   | _=>none
 | none=>none
def mU(P:Program)(f:FuncId):Bool :=
 match P.funcs.toList[f]? with
 | some fn=>match fn.body with
   | some _=>true
   | none=>false
 | none=>false
def x4(P:Program)(nt:Nat)(call:L4)(f:FuncId)(q:List Bool)(g:Value)(fr:Fr)(m:Mem):Option (Ex×S) :=
 O6 (frL fr 0 nt) fun vs=>match W5 m (.lp f q vs 0) yv with
 | some (v,m1)=>match qX g [v],bJ v with
   | some (k,as),some b=>bif mU P k then mD fr m1.hi b ((call.fn k).run as m1)else none
   | _,_=>none
 | none=>none
def tU(P:Program)(nt:Nat)(call:L4)(f:FuncId)(q:List Bool)(x:XC)(s:S):Option (Ex×S) :=
 match s with
 | ⟨fr,m⟩=>bif Nat.ble nt 510 then match bJ (fr.get 511)with
   | some d=>match Hp.get m.H d with
     | some (.lp _ _ _ 1)=>x4 P nt call f q (x.run fr) fr m
     | _=>none
   | none=>bif jL (fr.get 511)then match W5 m (.dfr true) (fun b=>.pointer (some ⟨b,0,none⟩))with
      | some (.pointer (some a),m1)=>O6 (eG (fr.get 510)) fun l=>qD (sel 7) (sel 7) (sel 6) (dv (a.block::l)) fr fun c=>x4 P nt call f q (x.run fr) c m1
      | _=>none else none
   else none
def K6(P:Program)(nt gl:Nat)(call:L4)(lp:LpT):List Bool->Code->dC
 | _,.skip=>⟨fun s=>some (.normal,s)⟩
 | _,.label _=>⟨fun s=>some (.normal,s)⟩
 | _,.region _ ops d=>match d with
   | false=>⟨fun s=>V2 (P7 P nt gl call ops.toList ops.toList) s⟩
   | true=>bif zO ops then bif gS ops.toList then⟨fun s=>bif hO P nt gl s.fr s.m.H ops.toList then V2 (P7 P nt gl call ops.toList ops.toList) s else V2 ⟨c8 P nt gl call ops.toList ops.toList 0 (V7 ops.toList []) [] []⟩ s⟩
     else⟨fun s=>V2 ⟨c8 P nt gl call ops.toList ops.toList 0 (V7 ops.toList []) [] []⟩ s⟩else⟨fun _=>none⟩
 | q,.seq a b=>⟨fun s=>SM (K6 P nt gl call lp (q++[false]) a) (K6 P nt gl call lp (q++[true]) b) s⟩
 | q,.cond c a b=>bif okX nt gl c then⟨fun s=>DV (P1 c) (K6 P nt gl call lp (q++[false]) a) (K6 P nt gl call lp (q++[true]) b) s⟩else⟨fun _=>none⟩
 | q,.block id c=>⟨fun s=>tV id (K6 P nt gl call lp (q++[false]) c) s⟩
 | q,.loop c=>⟨fun s=>DT (K6 P nt gl call lp (q++[false]) c) (lp.look q) s⟩
 | q,.rangeFunc x _ _ _=>bif okX nt gl x then⟨fun s=>tU P nt call lp.me q (P1 x) s⟩else⟨fun _=>none⟩
 | q,.scope c=>K6 P nt gl call lp (q++[false]) c
 | _,.exit id=>⟨fun s=>some (.exit id,s)⟩
 | _,.ret=>⟨fun s=>some (.ret,s)⟩
 | _,_=>⟨fun _=>none⟩
def CW(ids:Value->List Nat):D0->F8
 | []=>[]
 | v::r=>ids v++CW ids r
def uT:Nat->Value->F8
 | 0,_=>[]
 | _+1,.pointer (some a)=>[a.block]
 | _+1,.slice (some a) _ _=>[a.block]
 | _+1,.map (some b)=>[b]
 | d+1,.func _ a b=>CW (uT d) a.toList++CW (uT d) b.toList
 | d+1,.iface _ v=>uT d v
 | d+1,.agg cs=>CW (uT d) cs.toList
 | d+1,.tuple cs=>CW (uT d) cs.toList
 | _+1,_=>[]
def A1U:AB->F8
 | .cells cs _ _=>CW (uT 10) cs
 | .mp _ _ _=>[]
 | .iter vs=>CW (uT 10) vs
 | .lp _ _ vs _=>CW (uT 10) vs
 | .dfr _=>[]
 | .sq _ _ _ g _=>[g]
 | .frz=>[]
def BG(n0:Nat)(H:Hp AB):Nat->F8->F8->F8
 | 0,_,acc=>acc
 | _+1,[],acc=>acc
 | f+1,b::r,acc=>bif Nat.blt b n0 || l7 acc b then BG n0 H f r acc else match Hp.get H b with
   | some ab=>BG n0 H f (A1U ab++r) (b::acc)
   | none=>BG n0 H f r acc
def bY(a H:Hp AB):F8->Hp AB
 | []=>H
 | b::r=>Hp.put H b (Hp.get a b) fun H=>bY a H r
def wOf(H:Hp AB):F8->F8
 | []=>[]
 | b::r=>(match Hp.get H b with|some ab=>A1U ab|none=>[])++wOf H r
def kC:F8->F8->F8
 | [],acc=>acc
 | b::r,acc=>bif l7 acc b then kC r acc else kC r (b::acc)
def jW(low:Value->Bool):D0->Bool
 | []=>true
 | v::r=>low v && jW low r
def Y3(n:Nat):Nat->Value->Bool
 | 0,_=>false
 | _+1,.pointer (some a)=>Nat.blt a.block n
 | _+1,.slice (some a) _ _=>Nat.blt a.block n
 | _+1,.map (some b)=>Nat.blt b n
 | d+1,.func _ a b=>jW (Y3 n d) a.toList && jW (Y3 n d) b.toList
 | d+1,.iface _ v=>Y3 n d v
 | d+1,.agg cs=>jW (Y3 n d) cs.toList
 | d+1,.tuple cs=>jW (Y3 n d) cs.toList
 | _+1,.complex _ _ _=>true
 | _+1,v=>H3 v
def UK(n:Nat):Option AB->Bool
 | none=>true
 | some (.cells cs _ _)=>jW (Y3 n 10) cs
 | some (.mp _ _ _)=>true
 | some (.iter vs)=>jW (Y3 n 10) vs
 | some (.lp _ _ vs _)=>jW (Y3 n 10) vs
 | some (.dfr _)=>true
 | some (.sq _ _ _ g _)=>Nat.blt g n
 | some .frz=>true
def FO(n:Nat)(H:Hp AB):F8->Bool
 | []=>true
 | b::r=>UK n (Hp.get H b) && FO n H r
def gcM(m m':Mem)(v:Value):Option Mem :=
 let W:=kC (m'.W.filter fun b=>Nat.blt b m.n || Nat.ble m'.hi b) []
 bif Y3 m.n 10 v && FO m.n m'.H W then
  bif zY W then zI (bY m'.H m.H W) fun H=>H9 m'.hi fun hi=>O6 (W++m.W) fun W=>some ⟨H,m.n,W,hi,m'.lg⟩else none
 else
  let ids:=(BG m.n m'.H 100000 (uT 10 v++wOf m'.H W) []).filter fun b=>Nat.ble m.n b && Nat.blt b m'.hi
  bif zY (W++ids)then zI (bY m'.H m.H (W++ids)) fun H=>H9 m'.n fun n=>H9 m'.hi fun hi=>O6 (W++m.W) fun W=>some ⟨H,n,W,hi,m'.lg⟩else none
def A02(P:Program)(nt:Nat)(s:S):ResultVar->N6
 | .tmp t=>bif Nat.blt t nt then some (s.fr.get t)else none
 | .cell a t=>bif Nat.blt a nt then match s.fr.get a with
   | .pointer (some a)=>ID P s.m t a
   | _=>none else none
def KT(P:Program)(nt:Nat)(s:S):List ResultVar->Option D0
 | []=>some []
 | r::rs=>match A02 P nt s r,KT P nt s rs with
   | some v,some vs=>some (v::vs)
   | _,_=>none
def KS(fn:Func)(P:Program)(s:S):N6 :=
 match KT P fn.ntmps s fn.results.toList with
 | some [v]=>some v
 | some vs=>some (.tuple ⟨vs⟩)
 | none=>none
def cH(fr:Fr):Nat->D0->Fr
 | _,[]=>fr
 | i,v::r=>qD (sel (i / 64%8)) (sel (i / 8%8)) (sel (i%8)) v fr fun fr=>cH fr (i+1) r
def oN(l:List UInt8)(c:UInt8):Nat->Int
 | i=>match l with
   | [] => -1
   | b::r=>bif decide (b=c)then(i:Int)else oN r c (i+1)
def oX(c:UInt8):List UInt8->Nat->Nat
 | [],n=>n
 | b::r,n=>bif decide (b=c)then H9 (n+1) (oX c r)else oX c r n
def kW(k:EK)(args:List Value)(m:Mem):Res :=
 match k,args with
 | .noEscape,[v]=>some (v,m)
 | .indexByteString,[.string s,.int .u8 (.ofNat c)]=>some (.int .i64 (oN s.data.toList (UInt8.ofNat c) 0),m)
 | .countString,[.string s,.int .u8 (.ofNat c)]=>some (.int .i64 (oX (UInt8.ofNat c) s.data.toList 0),m)
 | .makeNoZero e,[.int .i64 (.ofNat n)]=>bif Nat.ble n 1000000000 then W5 m (.cells [] e false) fun b=>.slice (some ⟨b,0,none⟩) n K8 else none
 | _,_=>none
def lS:F8->Mem->Option Mem
 | [],m=>some m
 | b::r,m=>match Hp.get m.H b with
   | some (.dfr true)=>match x7 m b (.dfr false)with
     | some m=>lS r m
     | none=>none
   | _=>none
def dvG(nt:Nat)(fr:Fr):F8:=bif Nat.ble nt 510 then eG (fr.get 510)else[]
def A0R(fn:Func)(P:Program)(m:Mem)(r:Option (Ex×S)):Res :=
 match r with
 | some (.normal,⟨fr,m1⟩)|some (.ret,⟨fr,m1⟩)=>match lS (dvG fn.ntmps fr) m1 with
   | some m1=>match KS fn P ⟨fr,m1⟩with
     | some v=>match gcM m m1 v with
       | some m=>some (v,m)
       | none=>none
     | none=>none
   | none=>none
 | _=>none
def ES(c:dC)(fr:Fr)(m:Mem):Option (Ex×S) :=
 match m with
 | ⟨H,n,_,hi,lg⟩=>c.run ⟨fr,⟨H,n,[],hi,lg⟩⟩
def pZ(fn:Func)(P:Program)(c:dC)(args:List Value)(m:Mem):Res :=
 bif Nat.ble args.length fn.ntmps && Nat.ble fn.ntmps 512 then A0R fn P m (ES c (cH fr0 0 args) m)else none
structure Cx where
 P:Program
 ext:List (FuncId×EK)
 gl:Nat
 con:FuncId->Option FnC
 lp:FuncId->LpT
def xJ(C:Cx)(call:L4)(f:FuncId):FnC :=
 match C.P.funcs.toList[f]? with
 | none=>⟨fun _ _=>none⟩
 | some fn=>match C.con f with
   | some c=>c
   | none=>match fn.body with
     | none=>match DH C.ext f with
       | some k=>⟨kW k⟩
       | none=>⟨fun _ _=>none⟩
     | some c=>⟨pZ fn C.P (K6 C.P fn.ntmps C.gl call (C.lp f) [] c)⟩
def pO:List Tmp->D0->Fr->Option Fr
 | [],[],fr=>some fr
 | t::ts,v::vs,fr=>qD (sel (t / 64%8)) (sel (t / 8%8)) (sel (t%8)) v fr fun fr=>pO ts vs fr
 | _,_,_=>none
def mB(b:Nat)(r:Option (Ex×S)):Res :=
 match r with
 | some (e,⟨_,m⟩)=>match Hp.get m.H b with
   | some (.lp f q vs 1)=>H9 (exN e) fun st=>match x7 m b (.lp f q vs st)with
     | some m=>some (.bool (zB e),m)
     | none=>none
   | _=>none
 | none=>none
def mA(b:Nat)(c:dC)(r:Option (Ex×S)):Res :=
 match r with
 | some (.normal,⟨fr,m⟩)=>match Hp.get m.H b with
   | some (.lp f q vs 0)=>match x7 m b (.lp f q vs 1)with
     | some m=>mB b (c.run ⟨fr,m⟩)
     | none=>none
   | _=>none
 | _=>none
def yM(C:Cx)(call:L4):FnC:=⟨fun vs m =>
 match vs with
 | []=>none
 | v::args=>match bJ v with
   | none=>none
   | some b=>match Hp.get m.H b with
     | some (.lp f q fs 0)=>match C.P.funcs.toList[f]? with
       | none=>none
       | some fn=>match fn.body with
         | none=>none
         | some body=>match G3 q body with
           | some (.rangeFunc _ ps as bd)=>bif Nat.ble fn.ntmps 510 && ps.toList.all (fun t=>Nat.blt t fn.ntmps)then match pO ps.toList args (cH fr0 0 fs)with
             | some fr=>qD (sel 7) (sel 7) (sel 7) v fr fun fr=>mA b (K6 C.P fn.ntmps C.gl call (C.lp f) (q++[true]) bd) ((K6 C.P fn.ntmps C.gl call (C.lp f) (q++[false]) as).run ⟨fr,m⟩)
             | none=>none else none
           | _=>none
     | _=>none⟩
def dB(C:Cx):Nat->L4
 | 0=>⟨fun _=>⟨fun _ _=>none⟩,⟨fun _ _=>none⟩⟩
 | d+1=>⟨xJ C (dB C d),yM C (dB C d)⟩
end
end Go.Sx
