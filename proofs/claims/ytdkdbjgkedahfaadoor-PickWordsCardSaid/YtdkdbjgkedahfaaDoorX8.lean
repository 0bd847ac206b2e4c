/- The law PickWords: for every input the call returns true, and the arguments read behind it as they read before. No condition. -/
import Derived.Test.YtdkdbjgkedahfaaDoorX7
import Derived.Below
import Derived.Lib.AppendIntMem
import Derived.Lib.ItoaLen
import Derived.Shelf.Strings.Builder1
import Derived.Shelf.Strings.Builder2
import Derived.Shelf.Small.Utf8
import Derived.Shelf.Small.Strs
import Derived.Shelf.Strings.BuilderF
import Derived.Shelf.Strings.BuilderK
import Derived.Shelf.Utf8.RuneCount
import Derived.Shelf.Strings.Builder2Cap
import Derived.Shelf.Strings.Search1
import Derived.Shelf.Strings.Search2
import Derived.Shelf.Strings.Search3
import Derived.Shelf.Strings.Count
import Derived.Shelf.LaysM
import Derived.Shelf.Strings.Shaped
import Derived.Shelf.Strings.Prefix
import Derived.Shelf.Strings.Split
import Derived.Shelf.Strings.Runes
import Derived.Shelf.Strings.RuneCount
import Derived.Shelf.Bits.Mul64
import Derived.Shelf.Strings.Repeat
import Derived.Shelf.Strings.BuilderCap
import Derived.Test.YtdkdbjgkedahfaaDoorProg
import Derived.WideShapes
import Derived.DataReads
import Derived.ChangeArms
namespace Go.Sx
set_option linter.all false
open Go
set_option linter.unusedVariables false
set_option linter.unusedSimpArgs false
structure Cl (α:Type) where
 enc:α→U
 dec:U→Option α
 tag:Nat
 ed:∀ a,dec (enc a)=some a
 de:∀ u a,dec u=some a→u=enc a
 ht:∀ a,tagU (enc a)=tag
structure Rw (α:Type) where
 w:Nat
 enc:α→List U
 dec:List U→Option α
 ed:∀ a,dec (enc a)=some a
 de:∀ u a,dec u=some a→u=enc a
 len:∀ a,(enc a).length=w
def cInt (k:IntKind):Cl Int:={
 enc:=fun n=>.int k n
 dec:=fun u=>match u with
  | .int j n=>if j=k then some n else none
  | _=>none
 tag:=kTag k
 ed:=fun a=>by simp
 de:=fun u a h=>by
  cases u with
  | int j n =>
    simp only at h
    split at h
    ·rename_i e; cases h; rw [e]
    ·cases h
  | _=>cases h
 ht:=fun a=>rfl }
def cBool:Cl Bool:={
 enc:=fun b=>.bool b
 dec:=fun u=>match u with
  | .bool b=>some b
  | _=>none
 tag:=8
 ed:=fun a=>rfl
 de:=fun u a h=>by cases u <;> cases h; rfl
 ht:=fun a=>rfl }
def cStr:Cl (List UInt8):={
 enc:=fun b=>.str b
 dec:=fun u=>match u with
  | .str b=>some b
  | _=>none
 tag:=9
 ed:=fun a=>rfl
 de:=fun u a h=>by cases u <;> cases h; rfl
 ht:=fun a=>rfl }
def r1 {α:Type} (c:Cl α):Rw α:={
 w:=1
 enc:=fun a=>[c.enc a]
 dec:=fun l=>match l with
  | [u]=>c.dec u
  | _=>none
 ed:=fun a=>c.ed a
 de:=fun l a h=>by
  match l,h with
  | [u],h=>rw [c.de u a h]
  | [],h=>cases h
  | _::_::_,h=>cases h
 len:=fun a=>rfl }
def rC {α β:Type} (c:Cl α) (r:Rw β):Rw (α × β):={
 w:=r.w+1
 enc:=fun a=>c.enc a.1::r.enc a.2
 dec:=fun l=>match l with
  | u::l=>match c.dec u,r.dec l with
    | some a,some b=>some (a,b)
    | _,_=>none
  | []=>none
 ed:=fun a=>by simp [c.ed,r.ed]
 de:=fun l a h=>by
  match l,h with
  | u::l,h =>
    simp only at h
    split at h
    ·rename_i a b h1 h2; cases h; rw [c.de u a h1,r.de l b h2]
    ·cases h
  | [],h=>cases h
 len:=fun a=>by simp [r.len] }
def decL {α:Type} (r:Rw α):List (List U)→Option (List α)
 | []=>some []
 | x::l=>match r.dec x,decL r l with
   | some a,some b=>some (a::b)
   | _,_=>none
theorem decL_enc {α:Type} (r:Rw α):∀ l:List α,decL r (l.map r.enc)=some l
 | []=>rfl
 | a::l=>by rw [List.map_cons,decL,r.ed,decL_enc r l]
theorem decL_eq {α:Type} (r:Rw α):∀ {l:List (List U)} {x:List α},decL r l=some x→l=x.map r.enc
 | [],x,h=>by cases h; rfl
 | u::l,x,h=>by
   rw [decL] at h
   split at h
   ·rename_i a b h1 h2; cases h; rw [List.map_cons,r.de u a h1,decL_eq r h2]
   ·cases h
def encS {α:Type} (r:Rw α):Option (List α)→U
 | none=>.seq true r.w []
 | some l=>.seq false r.w (l.map r.enc)
def decS {α:Type} (r:Rw α):U→Option (Option (List α))
 | .seq true w []=>if w=r.w then some none else none
 | .seq false w rows=>if w=r.w then (decL r rows).map some else none
 | _=>none
theorem decS_enc {α:Type} (r:Rw α) (x:Option (List α)):decS r (encS r x)=some x:=by
 cases x with
 | none=>simp [encS,decS]
 | some l=>simp [encS,decS,decL_enc]
theorem decS_eq {α:Type} {r:Rw α} {u:U} {x:Option (List α)} (h:decS r u=some x):u=encS r x:=by
 unfold decS at h
 split at h
 ·split at h
  ·rename_i e; cases h; rw [e]; rfl
  ·cases h
 ·split at h
  ·rename_i e
   obtain ⟨l,h1,h2⟩:=Option.map_eq_some_iff.1 h
   subst h2
   rw [e,decL_eq r h1]; rfl
  ·cases h
 ·cases h
theorem tagS {α:Type} (r:Rw α) (x:Option (List α)):tagU (encS r x)=10+r.w:=by cases x <;> rfl
def cSl {α:Type} (r:Rw α):Cl (Option (List α)):=⟨encS r,decS r,10+r.w,decS_enc r,fun _ _ h=>decS_eq h,tagS r⟩
def el {α:Type} (x:Option (List α)):List α:=x.getD []
theorem el_none {α:Type}:el (none:Option (List α))=[]:=rfl
theorem el_some {α:Type} (l:List α):el (some l)=l:=rfl
theorem seqS {α:Type} (r:Rw α) (x:Option (List α)):∃ nul w rows,encS r x=.seq nul w rows:=by cases x <;> exact ⟨_,_,_,rfl⟩
theorem encS_eq {α:Type} (r:Rw α) (x:Option (List α)):encS r x=.seq (!x.isSome) r.w ((el x).map r.enc):=by cases x <;> rfl
theorem sat_dt {L:List U→Prop} {t:Nat} {op:LOp} {xs:List Value} {k:Tr} {E:List U} {α:Type} {r:Rw α} {x:Option (List α)} (E':List U) (he:evU op (xs.map (argU (gE E)))=encS r x) (ht:10+r.w=t) (hE:E++[encS r x]=E') (hk:k.sat L E'):(Tr.dt t op xs k).sat L E:=by
 subst hE
 refine ⟨⟨by rw [he,tagS]; exact ht,by rw [he]; exact seqS r x⟩,?_⟩
 rw [he]; exact hk
def findI {α:Type} (p:α→Bool):List α→Int→Option Int
 | [],_=>none
 | a::r,i=>if p a=true then some i else findI p r (i+1)
theorem drop_step {α:Type} [Inhabited α] (l:List α) {i:Int} (h0:0≤i) (h1:i < (l.length:Int)):l.drop i.toNat=l.getD i.toNat default::l.drop (i+1).toNat:=by
 obtain ⟨n,rfl⟩:∃ n:Nat,i=n:=⟨i.toNat,by omega⟩
 have hn:n < l.length:=by omega
 have e:((n:Int)+1).toNat=n+1:=by omega
 rw [Int.toNat_natCast,e,List.drop_eq_getElem_cons hn,List.getD_eq_getElem?_getD,List.getElem?_eq_getElem hn]
 rfl
theorem drop_end {α:Type} (l:List α) {i:Int} (h1:(l.length:Int)≤i):l.drop i.toNat=[]:=List.drop_eq_nil_of_le (by omega)
theorem findI_hit {α:Type} [Inhabited α] {p:α→Bool} {l:List α} {i:Int} (h0:0≤i) (h1:i < (l.length:Int)) (hp:p (l.getD i.toNat default)=true):findI p (l.drop i.toNat) i=some i:=by
 rw [drop_step l h0 h1,findI,if_pos hp]
theorem findI_miss {α:Type} [Inhabited α] {p:α→Bool} {l:List α} {i:Int} (h0:0≤i) (h1:i < (l.length:Int)) (hp:p (l.getD i.toNat default)=false):findI p (l.drop i.toNat) i=findI p (l.drop (i+1).toNat) (i+1):=by
 rw [drop_step l h0 h1,findI,if_neg (by rw [hp]; decide)]
theorem findI_end {α:Type} {p:α→Bool} {l:List α} {i:Int} (h1:(l.length:Int)≤i):findI p (l.drop i.toNat) i=none:=by
 rw [drop_end l h1]; rfl
theorem findI_any {α:Type} {p:α→Bool}:∀ (l:List α) (i:Int),0≤i→(findI p l i=none∧l.any p=false)∨(∃ j,findI p l i=some j∧i≤j∧l.any p=true)
 | [],i,_=>.inl ⟨rfl,rfl⟩
 | a::r,i,h0=>by
   rw [findI]
   by_cases h:p a=true
   ·rw [if_pos h]; exact .inr ⟨i,rfl,Int.le_refl _,by simp [h]⟩
   ·rw [if_neg h]
    rcases findI_any (p:=p) r (i+1) (by omega) with ⟨h1,h2⟩|⟨j,h1,h2,h3⟩
    ·exact .inl ⟨h1,by simp [h,h2]⟩
    ·exact .inr ⟨j,h1,by omega,by simp [h3]⟩
theorem getD_mem {α:Type} [Inhabited α] {l:List α} {i:Int} (h0:0≤i) (h1:i < (l.length:Int)):l.getD i.toNat default ∈ l:=by
 have hn:i.toNat < l.length:=by omega
 rw [List.getD_eq_getElem?_getD,List.getElem?_eq_getElem hn]
 exact List.getElem_mem hn
theorem all_get {α:Type} [Inhabited α] {p:α→Prop} {l:List α} (h:∀ a ∈ l,p a) {i:Int} (h0:0≤i) (h1:i < (l.length:Int)):p (l.getD i.toNat default):=h _ (getD_mem h0 h1)
theorem drop_zero' {α:Type} (l:List α):l.drop (0:Int).toNat=l:=rfl
instance {α β:Type} [Inhabited α] [Inhabited β]:Inhabited (α × β):=⟨(default,default)⟩
def way01 {β:Type} (o:Option β) (f0:List U) (f1:β→List U):Option (Nat × List U) :=
 match o with
 | none=>some (0,f0)
 | some b=>some (1,f1 b)
theorem sat_lp01 {L:List U→Prop} {spec:Spec} {xs:List Value} {n0 n1:Nat} {k0 k1:Tr} {E:List U} {β:Type} {o:Option β} {f0:List U} {f1:β→List U} (he:spec (xs.map (argU (gE E)))=way01 o f0 f1) (hn0:f0.length=n0) (hn1:∀ b,(f1 b).length=n1)
  (h0:o=none→k0.sat L (E++f0)) (h1:∀ b,o=some b→k1.sat L (E++f1 b)):(Tr.lp spec xs 0 n0 k0 (.lp spec xs 1 n1 k1 .no)).sat L E:=by
 cases o with
 | none=>exact ⟨0,f0,he,fun _=>⟨hn0,h0 rfl⟩,fun h=>absurd rfl h⟩
 | some b=>exact ⟨1,f1 b,he,(fun h=>absurd h (by decide)),(fun _=>⟨1,f1 b,he,(fun _=>⟨hn1 b,h1 b rfl⟩),(fun h=>absurd rfl h)⟩)⟩
theorem ev_lenS {α:Type} (r:Rw α) (x:Option (List α)):evU .len [encS r x]=.int .i64 ((el x).length:Int):=by
 rw [encS_eq]; simp [evU]
theorem ev_inbsS {α:Type} {w:Nat} {r:Rw α} {x:Option (List α)} {j:IntKind} {i:Int} (hw:r.w=w):evU (.inbs w) [.int j i,encS r x]=.bool (decide (0≤i∧i < ((el x).length:Int))):=by
 rw [encS_eq]
 simp [evU,hw]
theorem ev_getS {α:Type} [Inhabited α] {w o:Nat} {r:Rw α} {x:Option (List α)} {j:IntKind} {i:Int} {u:U} (hw:r.w=w) (h0:0≤i) (h1:i < ((el x).length:Int)) (hu:(r.enc ((el x).getD i.toNat default)).getD o .none=u):evU (.get w o) [encS r x,.int j i]=u:=by
 obtain ⟨n,rfl⟩:∃ n:Nat,i=n:=⟨i.toNat,by omega⟩
 cases x with
 | none=>simp [el] at h1; omega
 | some l =>
   have hn:n < l.length:=by have:((el (some l)).length:Int)=l.length:=rfl; omega
   have e:evU (.get w o) [encS r (some l),.int j (n:Int)]=((l.map r.enc).getD n []).getD o .none:=by
    show (if r.w=w then ((l.map r.enc).getD n []).getD o .none else .none)=_
    rw [if_pos hw]
   rw [e,← hu]
   congr 1
   simp only [el_some,Int.toNat_natCast,List.getD_eq_getElem?_getD,List.getElem?_map]
   simp [List.getElem?_eq_getElem hn]
theorem chunk_rows {α:Type} (r:Rw α) (hr:r.w≠0):∀ (l:List α),chunkU r.w l.length (l.flatMap r.enc)=some (l.map r.enc)
 | []=>rfl
 | a::l=>by
   have h1:(r.enc a++l.flatMap r.enc).drop r.w=l.flatMap r.enc:=by rw [← r.len a]; simp
   have h2:(r.enc a++l.flatMap r.enc).take r.w=r.enc a:=by rw [← r.len a]; simp
   rw [List.flatMap_cons,List.length_cons,chunkU,if_pos (by rw [List.length_append,r.len a]; omega),h1,h2,chunk_rows r hr l]
   rfl
theorem flat_len {α:Type} (r:Rw α):∀ (l:List α),(l.flatMap r.enc).length=l.length * r.w
 | []=>by simp
 | a::l=>by rw [List.flatMap_cons,List.length_append,r.len,flat_len r l,List.length_cons,Nat.add_mul]; omega
theorem catU_S {α:Type} {r:Rw α} {x:Option (List α)} {l:List α} (hl:l≠[]) (hb:(el x).length+l.length≤1000000000):catU (!x.isSome) r.w ((el x).map r.enc) (l.map r.enc)=encS r (some (el x++l)):=by
 unfold catU
 rw [if_pos (by simp; exact hb)]
 cases l with
 | nil=>exact absurd rfl hl
 | cons a l=>simp [encS]
theorem ev_snocS {α:Type} {w:Nat} {r:Rw α} {x:Option (List α)} {cs:List U} (l:List α) (hw:r.w=w) (h0:w≠0) (hc:cs=l.flatMap r.enc) (hl:l≠[]) (hb:(el x).length+l.length≤1000000000):evU (.snoc w) (encS r x::cs)=encS r (some (el x++l)):=by
 subst hw; subst hc
 rw [encS_eq r x]
 show (if r.w=r.w∧r.w≠0 then match chunkU r.w ((l.flatMap r.enc).length / r.w) (l.flatMap r.enc) with
  | some q=>catU (!x.isSome) r.w ((el x).map r.enc) q
  | none=>.none else .none)=_
 rw [if_pos ⟨rfl,h0⟩,flat_len,Nat.mul_div_cancel _ (Nat.pos_of_ne_zero h0),chunk_rows r h0]
 exact catU_S hl hb
theorem ev_snocR {α:Type} {w:Nat} {r:Rw α} {x:Option (List α)} {cs:List U} {a:α} (hc:r.enc a=cs) (hw:r.w=w) (h0:w≠0) (hb:(el x).length+1≤1000000000):evU (.snoc w) (encS r x::cs)=encS r (some (el x++[a])) :=
 ev_snocS [a] hw h0 (by rw [← hc]; simp) (by simp) hb
theorem ev_mkS {α:Type} {w:Nat} {r:Rw α} {cs:List U} (l:List α) (hw:r.w=w) (h0:w≠0) (hc:cs=l.flatMap r.enc):evU (.mk w) cs=encS r (some l):=by
 subst hw; subst hc
 show (if r.w=0 then U.none else match chunkU r.w ((l.flatMap r.enc).length / r.w) (l.flatMap r.enc) with
  | some q=>U.seq false r.w q
  | none=>U.none)=_
 rw [if_neg h0,flat_len,Nat.mul_div_cancel _ (Nat.pos_of_ne_zero h0),chunk_rows r h0]
 rfl
theorem ev_nilwS {α:Type} {w:Nat} {r:Rw α} (hw:r.w=w):evU (.nilw w) []=encS r (none:Option (List α)):=by
 subst hw; rfl
def catS {α:Type} (x y:Option (List α)):Option (List α) :=
 match el y with
 | []=>x
 | l=>some (el x++l)
attribute [irreducible] encS
end Go.Sx

namespace Go.Sx
set_option linter.all false
open Go
end Go.Sx

namespace Go.Sx
set_option linter.all false
open Go
set_option linter.unusedVariables false
inductive Ev where
 | nil
 | cons (n:Nat) (u:U) (E:Ev)
def Ev.get:Ev→Nat→U
 | .nil,_=>.none
 | .cons n u E,i=>bif Nat.beq i n then u else E.get i
def Ev.len:Ev→Nat
 | .nil=>0
 | .cons n _ _=>Nat.succ n
def Ev.toL:Ev→List U
 | .nil=>[]
 | .cons _ u E=>E.toL++[u]
def Ev.ok:Ev→Prop
 | .nil=>True
 | .cons n _ E=>n=E.len∧E.ok
def Ev.app:List U→Ev→Ev
 | [],E=>E
 | u::l,E=>Ev.app l (.cons E.len u E)
theorem Ev.length:∀ {E:Ev},E.ok→E.toL.length=E.len
 | .nil,_=>rfl
 | .cons n u E,h=>by
   rw [Ev.toL,List.length_append,List.length_singleton,Ev.length h.2,h.1]; rfl
theorem Ev.get_eq:∀ {E:Ev},E.ok→gE E.toL=E.get
 | .nil,_=>rfl
 | .cons n u E,h=>by
   funext i
   have hl:=Ev.length h.2
   show (E.toL++[u]).getD i .none=bif Nat.beq i n then u else E.get i
   rw [← Ev.get_eq h.2]
   rcases Nat.lt_trichotomy i n with hlt|rfl|hgt
   ·have hb:Nat.beq i n=false:=by
     cases hq:Nat.beq i n with
     | true=>have:=Nat.eq_of_beq_eq_true hq; omega
     | false=>rfl
    rw [hb,cond_false,List.getD_eq_getElem?_getD,List.getElem?_append_left (by rw [hl,← h.1]; exact hlt),← List.getD_eq_getElem?_getD]; rfl
   ·have hb:Nat.beq i i=true:=Nat.beq_refl i
    rw [hb,cond_true,List.getD_eq_getElem?_getD,List.getElem?_append_right (by rw [hl,← h.1]; exact Nat.le_refl _),hl,← h.1,Nat.sub_self]; rfl
   ·have hb:Nat.beq i n=false:=by
     cases hq:Nat.beq i n with
     | true=>have:=Nat.eq_of_beq_eq_true hq; omega
     | false=>rfl
    rw [hb,cond_false,List.getD_eq_getElem?_getD,List.getElem?_eq_none (by rw [List.length_append,hl,← h.1,List.length_singleton]; omega)]
    unfold gE
    rw [List.getD_eq_getElem?_getD,List.getElem?_eq_none (by rw [hl,← h.1]; omega)]
theorem Ev.app_ok:∀ {l:List U} {E:Ev},E.ok→(Ev.app l E).ok∧(Ev.app l E).toL=E.toL++l
 | [],E,h=>⟨h,by simp [Ev.app]⟩
 | u::l,E,h=>by
   obtain ⟨a,b⟩:=Ev.app_ok (l:=l) (E:=.cons E.len u E) ⟨rfl,h⟩
   exact ⟨a,by rw [Ev.app,b,Ev.toL]; simp⟩
def Tr.sav (L:List U→Prop) (t:Tr) (E:Ev):Prop:=E.ok→t.sat L E.toL
section
variable {L:List U→Prop} {E:Ev} {k:Tr} {n:Nat}
theorem s0 {us:List U} {t:Tr} (E:Ev) (he:us=E.toL) (ho:E.ok) (h:t.sav L E):t.sat L us:=by subst he; exact h ho
theorem s1 {t:Nat} {op:LOp} {xs:List Value} {u:U} (he:evU op (xs.map (argU E.get))=u) (h10:Nat.blt t 10=true) (ht:tagU u=t) (hn:E.len=n) (hk:k.sav L (.cons n u E)):(Tr.lt t op xs k).sav L E:=fun ho=>by
 subst hn
 exact sat_lt _ (by rw [Ev.get_eq ho]; exact he) ⟨Nat.le_of_ble_eq_true h10,ht⟩ rfl (hk ⟨rfl,ho⟩)
theorem s2 {t:Nat} {op:LOp} {xs:List Value} {α:Type} {r:Rw α} {x:Option (List α)} (he:evU op (xs.map (argU E.get))=encS r x) (ht:10+r.w=t) (hn:E.len=n) (hk:k.sav L (.cons n (encS r x) E)):(Tr.dt t op xs k).sav L E:=fun ho=>by
 subst hn
 exact sat_dt _ (by rw [Ev.get_eq ho]; exact he) ht rfl (hk ⟨rfl,ho⟩)
theorem s3 {spec:Spec} {xs:List Value} {m:Nat} {outs:List U} (he:spec (xs.map (argU E.get))=some (0,outs)) (hm:outs.length=m) (hk:k.sav L (Ev.app outs E)):(Tr.fn spec xs m k).sav L E:=fun ho=>by
 obtain ⟨a,b⟩:=Ev.app_ok (l:=outs) ho
 have:=hk a
 rw [b] at this
 exact sat_fn _ (by rw [Ev.get_eq ho]; exact he) hm rfl this
theorem s31 {spec:Spec} {xs:List Value} {a:U} (he:spec (xs.map (argU E.get))=some (0,[a])) (hn:E.len=n) (hk:k.sav L (.cons n a E)):(Tr.fn spec xs 1 k).sav L E:=by
 subst hn; exact s3 he rfl hk
theorem s32 {spec:Spec} {xs:List Value} {a b:U} {n2:Nat} (he:spec (xs.map (argU E.get))=some (0,[a,b])) (hn:E.len=n) (h2:Nat.succ n=n2) (hk:k.sav L (.cons n2 b (.cons n a E))):(Tr.fn spec xs 2 k).sav L E:=by
 subst hn; subst h2; exact s3 he rfl hk
theorem s4 {i:Nat} {a b:Tr} {p:Prop} [Decidable p] (he:E.get i=.bool (decide p)) (ha:p→a.sav L E) (hb:¬p→b.sav L E):(Tr.br i a b).sav L E:=fun ho =>
 sat_br (by rw [Ev.get_eq ho]; exact he) (fun h=>ha h ho) (fun h=>hb h ho)
theorem s4B {i:Nat} {a b:Tr} {c:Bool} (he:E.get i=.bool c) (ha:c=true→a.sav L E) (hb:c=false→b.sav L E):(Tr.br i a b).sav L E:=fun ho =>
 sat_brB (by rw [Ev.get_eq ho]; exact he) (fun h=>ha h ho) (fun h=>hb h ho)
theorem s5 {i:Nat} {a b:Tr} {p:Prop} [Decidable p] (he:E.get i=.bool (decide p)) (hb:¬p→b.sav L E) (ha:p→a.sav L E):(Tr.br i a b).sav L E:=s4 he ha hb
theorem s5B {i:Nat} {a b:Tr} {c:Bool} (he:E.get i=.bool c) (hb:c=false→b.sav L E) (ha:c=true→a.sav L E):(Tr.br i a b).sav L E:=s4B he ha hb
theorem s6 {spec:Spec} {xs:List Value} {n0 n1:Nat} {k0 k1:Tr} {β:Type} {o:Option β} {f0:List U} {f1:β→List U} (he:spec (xs.map (argU E.get))=way01 o f0 f1) (hn0:f0.length=n0) (hn1:∀ b,(f1 b).length=n1)
  (h0:o=none→k0.sav L (Ev.app f0 E)) (h1:∀ b,o=some b→k1.sav L (Ev.app (f1 b) E)):(Tr.lp spec xs 0 n0 k0 (.lp spec xs 1 n1 k1 .no)).sav L E:=fun ho=>by
 refine sat_lp01 (by rw [Ev.get_eq ho]; exact he) hn0 hn1 (fun h=>?_) (fun b h=>?_)
 ·obtain ⟨a,c⟩:=Ev.app_ok (l:=f0) ho
  have:=h0 h a
  rwa [c] at this
 ·obtain ⟨a,c⟩:=Ev.app_ok (l:=f1 b) ho
  have:=h1 b h a
  rwa [c] at this
theorem s7 {xs:List Value} (r:List U) (he:xs.map (argU E.get)=r) (h:L r):(Tr.ret xs).sav L E:=fun ho=>sat_ret r (by rw [Ev.get_eq ho]; exact he) h
theorem s8 (h:False):Tr.no.sav L E:=h.elim
end
end Go.Sx

namespace Go.Sx
set_option linter.all false
open Go Go.RowKit
set_option linter.unusedVariables false
theorem callFunc_enter {P:Program} {f:FuncId} {fn:Func} {c:Code} {args:Array Value} {w:World} (hf:P.funcs[f]? = some fn) (hb:fn.body=some c) (hn:(fn.name == "runtime.NumGoroutine")=false):(callFunc f args).run P w=.ok (.enter f args) w:=by
 have hn:fn.name ≠ "runtime.NumGoroutine":=by simpa using hn
 simp [callFunc,hf,hn,hb]
theorem grown_of_below {w w':World} (h:Below w.heap.size w w'):Grown w w':=⟨⟨h.os,h.tape,h.output⟩,h.size,fun k hk=>h.block k hk⟩
theorem con_end {P:Program} {f:FuncId} {fn:Func} {c:Code} {rs:List Sh} {outs:List U} {vs vr:List Value} {w:World} {R:Nat→Option Obj} (hf:P.funcs[f]? = some fn) (hb:fn.body=some c) (hn:(fn.name == "runtime.NumGoroutine")=false)
  (hv:valL rs outs=some vr) (h:Calls P f ⟨vs⟩ w (fun e w'=>e=.returned (tup vr)∧Below w.heap.size w w')) :
  (callFunc f ⟨vs⟩).run P w=.ok (.enter f ⟨vs⟩) w∧Calls P f ⟨vs⟩ w (fun e w'=>∃ r R',ShL R' rs outs r∧e=.returned (tup r)∧Grown w w'∧GOk R' w'∧∀ k o,R' k=some o→w.heap.size≤k∨∃ o',R k=some o') :=
 ⟨callFunc_enter hf hb hn,h.mono fun e w' ⟨h1,h2⟩=>⟨vr,fun _=>none,shL_of_val hv,h1,grown_of_below h2,fun k o hk=>(by cases hk),fun k o hk=>(by cases hk)⟩⟩
end Go.Sx

namespace Go.Proofs
set_option linter.all false
open Go.Shelf
def Tryd.lays151_ren:Go.Shelf.Ren:=⟨fun|151=>68|152=>84|137=>97|119=>98|224=>93|225=>92|217=>91|266=>102|n=>n,fun|9=>9|21=>21|4=>4|3=>3|5=>5|0=>0|46=>70|n=>n,fun|n=>n⟩
theorem Tryd.lays151:Go.Proofs.Lays.n151 Tryd.prog Tryd.lays151_ren:={
 mixed:=by kernel_rfl
 f119:=Tryd.func98.trans (congrArg some (by kernel_rfl))
 f137:=Tryd.func97.trans (congrArg some (by kernel_rfl))
 f151:=Tryd.func68.trans (congrArg some (by kernel_rfl))
 f152:=Tryd.func84.trans (congrArg some (by kernel_rfl))
 f217:=Tryd.func91.trans (congrArg some (by kernel_rfl))
 f224:=Tryd.func93.trans (congrArg some (by kernel_rfl))
 f225:=Tryd.func92.trans (congrArg some (by kernel_rfl))
 f266:=Tryd.func102.trans (congrArg some (by kernel_rfl))
 t0:=Tryd.underlying0
 a0:=Tryd.isAgg0
 z0:=Tryd.sizeOf0
 v0:=Tryd.zeroValue0
 t3:=Tryd.underlying3
 a3:=Tryd.isAgg3
 z3:=Tryd.sizeOf3
 v3:=Tryd.zeroValue3
 t4:=Tryd.underlying4
 a4:=Tryd.isAgg4
 z4:=Tryd.sizeOf4
 v4:=Tryd.zeroValue4
 t5:=Tryd.underlying5
 a5:=Tryd.isAgg5
 z5:=Tryd.sizeOf5
 v5:=Tryd.zeroValue5
 t9:=Tryd.underlying9
 a9:=Tryd.isAgg9
 z9:=Tryd.sizeOf9
 v9:=Tryd.zeroValue9
 t21:=Tryd.underlying21
 a21:=Tryd.isAgg21
 z21:=Tryd.sizeOf21
 v21:=Tryd.zeroValue21
 t46:=Tryd.underlying70
 a46:=Tryd.isAgg70
 z46:=Tryd.sizeOf70
 v46:=Tryd.zeroValue70 }
open Go.RowKit Go.Lib in
theorem Tryd.strings_ContainsRune_ascii (s:ByteArray) (r:Int) (w:World) (h0:0≤r) (h1:r < 128) :
  Calls Tryd.prog 68 #[.string s,.int .i32 r] w fun e w'=>e=.returned (.bool (decide (0≤Lib.indexByte s.data.toList r.toNat.toUInt8)))∧w'=w:=Any.strings_ContainsRune_ascii Tryd.lays151 s r w h0 h1
end Go.Proofs

namespace Go.Sx
set_option linter.all false
open Go Go.WideShapes
set_option linter.unusedVariables false
set_option linter.unusedSimpArgs false
abbrev hpOf (w:World):Nat→Option Obj:=fun k=>w.heap[k]?
abbrev Light {H:Type} (P:Program) (t:TypeId) (d:DataW H):Prop:=(d.weights P t).all (·≤reachBytes)=true
def RdC {α:Type} (P:Program) (w:World) (t:TypeId) (c:Cl α) (Q:α→Prop):Prop :=
 ∀ (H:Type) (enc:TypeId × Value→H) (fuel:Nat) (cs:List Value) (x:DataW H × List MemPlace),DataW.trod enc P w 0 (fun _=>true) true fuel t cs=some x→Light P t x.1→∃ a v,cs=[v]∧Enc (hpOf w) (c.enc a) v∧Q a
def RdR {α:Type} (P:Program) (w:World) (t:TypeId) (r:Rw α) (Q:α→Prop):Prop :=
 ∀ (H:Type) (enc:TypeId × Value→H) (fuel:Nat) (cs:List Value) (x:DataW H × List MemPlace),DataW.trod enc P w 0 (fun _=>true) true fuel t cs=some x→Light P t x.1→∃ a,EncL (hpOf w) (r.enc a) cs∧Q a
def Lf (H:Type) (enc:TypeId × Value→H) (P:Program) (w:World) (t:TypeId) (v:Value):Prop :=
 ∃ fuel x,DataW.trod enc P w 0 (fun _=>true) true fuel t [v]=some x∧Light P t x.1
def LfL (H:Type) (enc:TypeId × Value→H) (P:Program) (w:World):List TypeId→List Value→Prop
 | [],[]=>True
 | t::ts,v::vs=>Lf H enc P w t v∧LfL H enc P w ts vs
 | _,_=>False
def RdL {α:Type} (P:Program) (w:World) (ts:List TypeId) (r:Rw α) (Q:α→Prop):Prop :=
 ∀ (H:Type) (enc:TypeId × Value→H) (cs:List Value),LfL H enc P w ts cs→∃ a,EncL (hpOf w) (r.enc a) cs∧Q a
section
variable {H:Type} {enc:TypeId × Value→H} {P:Program} {w:World}
theorem LfL.append:∀ {ts ts2:List TypeId} {vs vs2:List Value},LfL H enc P w ts vs→LfL H enc P w ts2 vs2→LfL H enc P w (ts++ts2) (vs++vs2)
 | [],ts2,[],vs2,_,k=>k
 | [],_,_::_,_,h,_=>h.elim
 | _::_,_,[],_,h,_=>h.elim
 | t::ts,ts2,v::vs,vs2,h,k=>⟨h.1,LfL.append h.2 k⟩
theorem LfL.len:∀ {ts:List TypeId} {vs:List Value},LfL H enc P w ts vs→vs.length=ts.length
 | [],[],_=>rfl
 | [],_::_,h=>h.elim
 | _::_,[],h=>h.elim
 | t::ts,v::vs,h=>by simp [LfL.len h.2]
theorem weightsAll_get {e:TypeId}:∀ {ds:List (DataW H)} {d:DataW H},(DataW.weightsAll P e ds).all (·≤reachBytes)=true→d ∈ ds→Light P e d
 | [],_,_,h=>by cases h
 | a::ds,d,h,hm=>by
   rw [DataW.weightsAll,List.all_append,Bool.and_eq_true] at h
   rcases List.mem_cons.1 hm with rfl|hm
   ·exact h.1
   ·exact weightsAll_get h.2 hm
theorem weightsEach_get:∀ {ts:List TypeId} {ds:List (DataW H)} {i:Nat} {t:TypeId} {d:DataW H},(DataW.weightsEach P ts ds).all (·≤reachBytes)=true→ts[i]? = some t→ds[i]? = some d→Light P t d
 | [],_,_,_,_,_,h,_=>by simp at h
 | _::_,[],_,_,_,_,_,h=>by simp at h
 | t::ts,d::ds,i,t',d',h,h1,h2=>by
   rw [DataW.weightsEach,List.all_append,Bool.and_eq_true] at h
   cases i with
   | zero=>simp at h1 h2; subst h1; subst h2; exact h.1
   | succ i=>exact weightsEach_get h.2 (by simpa using h1) (by simpa using h2)
def flatS (P:Program) (f:TypeId→Option (List TypeId)):Nat→List Field→Option (List TypeId)
 | _,[]=>some []
 | off,F::fs=>match f F.type,flatS P f (off+P.cellsOf F.type) fs with
   | some a,some b=>bif Nat.beq F.offset off && Nat.beq a.length (P.cellsOf F.type) then some (a++b) else none
   | _,_=>none
def isLeaf (P:Program) (t:TypeId):Bool:=match P.underlying t with
 | some .bool|some (.int _)|some .string|some (.slice _)=>true
 | _=>false
def flatT (P:Program):Nat→TypeId→Option (List TypeId)
 | 0,_=>none
 | k+1,t=>bif isLeaf P t then some [t] else match P.underlying t with
   | some (.struct fs)=>match flatS P (flatT P k) 0 fs.toList with
     | some L=>bif Nat.beq L.length (P.cellsOf t) then some L else none
     | none=>none
   | some (.array n e)=>match flatT P k e with
     | some L=>bif Nat.beq L.length (P.cellsOf e) && Nat.beq (P.cellsOf t) (n * P.cellsOf e) then some (List.replicate n L).flatten else none
     | none=>none
   | _=>none
theorem flatS_ok {f:TypeId→Option (List TypeId)} {cs:List Value}:∀ {fs:List Field} {off:Nat} {L:List TypeId},flatS P f off fs=some L →
  (∀ F ∈ fs,∀ a,f F.type=some a→LfL H enc P w a ((cs.drop F.offset).take (P.cellsOf F.type)))→LfL H enc P w L ((cs.drop off).take L.length)
 | [],off,L,h,hp=>by cases h; exact trivial
 | F::fs,off,L,h,hp=>by
   unfold flatS at h
   split at h
   ·rename_i a b ha hb
    obtain ⟨h1,h2⟩:=condS h
    cases h2
    obtain ⟨h3,h4⟩:=band h1
    have h3:=Nat.eq_of_beq_eq_true h3
    have h4:=Nat.eq_of_beq_eq_true h4
    have e1:=hp F List.mem_cons_self a ha
    have e2:=flatS_ok (off:=off+P.cellsOf F.type) hb fun F' hF=>hp F' (List.mem_cons_of_mem _ hF)
    rw [List.length_append,List.take_add,List.drop_drop]
    rw [h3,← h4] at e1
    rw [← h4] at e2
    exact e1.append e2
   ·cases h
theorem flatA_ok {L:List TypeId} {c:Nat}:∀ {n:Nat} {cs:List Value},cs.length=n * c→(∀ i,i < n→LfL H enc P w L ((cs.drop (i * c)).take c))→LfL H enc P w (List.replicate n L).flatten cs
 | 0,cs,h,hp=>by
   have:cs=[]:=List.eq_nil_of_length_eq_zero (by simpa using h)
   subst this; exact trivial
 | n+1,cs,h,hp=>by
   rw [List.replicate_succ,List.flatten_cons,← List.take_append_drop c cs]
   have h0:=hp 0 (Nat.succ_pos _)
   rw [Nat.zero_mul,List.drop_zero] at h0
   refine h0.append (flatA_ok (c:=c) (by rw [List.length_drop,h,Nat.add_mul]; omega) fun i hi=>?_)
   rw [List.drop_drop]
   have:=hp (i+1) (by omega)
   rwa [show (i+1) * c=c+i * c by rw [Nat.add_mul]; omega] at this
theorem leaf_cell {t:TypeId} {fuel:Nat} {cs:List Value} {x:DataW H × List MemPlace} (hl:isLeaf P t=true) (h:DataW.trod enc P w 0 (fun _=>true) true fuel t cs=some x):∃ v,cs=[v]:=by
 unfold isLeaf at hl
 split at hl
 ·rename_i hu; obtain ⟨b,rfl,_⟩:=DataW.trod_bool hu h; exact ⟨_,rfl⟩
 ·rename_i hu; obtain ⟨b,rfl,_⟩:=DataW.trod_int hu h; exact ⟨_,rfl⟩
 ·rename_i hu; obtain ⟨b,rfl,_⟩:=DataW.trod_string hu h; exact ⟨_,rfl⟩
 ·rename_i hu
  rcases DataW.trod_slice hu h with ⟨rfl,_⟩|⟨_,_,_,_,_,_,_,rfl,_⟩
  ·exact ⟨_,rfl⟩
  ·exact ⟨_,rfl⟩
 ·cases hl
theorem flat_ok:∀ {k:Nat} {t:TypeId} {L:List TypeId},flatT P k t=some L→∀ (fuel:Nat) (cs:List Value) (x:DataW H × List MemPlace),DataW.trod enc P w 0 (fun _=>true) true fuel t cs=some x→Light P t x.1→LfL H enc P w L cs
 | 0,_,_,h=>by cases h
 | k+1,t,L,h=>fun fuel cs x hx hl=>by
   unfold flatT at h
   cases hlf:isLeaf P t with
   | true =>
     rw [hlf] at h
     cases h
     obtain ⟨v,rfl⟩:=leaf_cell hlf hx
     exact ⟨⟨fuel,x,hx,hl⟩,trivial⟩
   | false =>
     rw [hlf] at h
     simp only [cond_false] at h
     split at h
     ·rename_i fs hu
      split at h
      ·rename_i L0 hS
       obtain ⟨h1,h2⟩:=condS h
       cases h2
       have h1:=Nat.eq_of_beq_eq_true h1
       obtain ⟨xs,n,rfl,rfl,hlen,hxs,hf⟩:=DataW.trod_struct hu hx
       have hw:(DataW.weightsEach P (fs.toList.map (·.type)) (xs.map (·.1))).all (·≤reachBytes)=true:=by
        have:Light P t (DataW.agg (xs.map (·.1))):=hl
        unfold Light at this
        rw [DataW.weights,hu] at this
        exact this
       have:=flatS_ok (H:=H) (enc:=enc) (w:=w) (cs:=cs) hS fun F hF a ha=>by
        obtain ⟨i,hi,rfl⟩:=List.getElem_of_mem hF
        have hi':i < fs.size:=by simpa using hi
        have e1:=hf i fs.toList[i] (by simp [hi'])
        have hxi:xs[i]? = some (xs[i]'(by omega)):=List.getElem?_eq_getElem (by omega)
        rw [hxi] at e1
        refine flat_ok ha _ _ _ e1 (weightsEach_get (i:=i) hw ?_ ?_)
        ·simp [hi']
        ·simp [hxi]
       rw [List.drop_zero,h1,← hlen,List.take_length] at this
       exact this
      ·cases h
     ·rename_i n e hu
      split at h
      ·rename_i L0 hS
       obtain ⟨h1,h2⟩:=condS h
       cases h2
       obtain ⟨h3,h4⟩:=band h1
       have h3:=Nat.eq_of_beq_eq_true h3
       have h4:=Nat.eq_of_beq_eq_true h4
       obtain ⟨xs,m,rfl,rfl,hlen,hxs,hf⟩:=DataW.trod_array hu hx
       have hw:(DataW.weightsAll P e (xs.map (·.1))).all (·≤reachBytes)=true:=by
        have:Light P t (DataW.agg (xs.map (·.1))):=hl
        unfold Light at this
        rw [DataW.weights,hu] at this
        exact this
       refine flatA_ok (c:=P.cellsOf e) (by rw [hlen,h4]) fun i hi=>?_
       have e1:=hf i hi
       have hxi:xs[i]? = some (xs[i]'(by omega)):=List.getElem?_eq_getElem (by omega)
       rw [hxi] at e1
       exact flat_ok hS _ _ _ e1 (weightsAll_get hw (List.mem_map.2 ⟨xs[i]'(by omega),List.getElem_mem _,rfl⟩))
      ·cases h
     ·cases h
end
section
variable {P:Program} {w:World}
theorem RdL.nil1 {α:Type} {t:TypeId} {c:Cl α} {Q:α→Prop} (h:RdC P w t c Q):RdL P w [t] (r1 c) Q:=fun H enc cs hl=>by
 match cs,hl with
 | [v],hl =>
   obtain ⟨⟨fuel,x,hx,hw⟩,_⟩:=hl
   obtain ⟨a,v',e,h1,h2⟩:=h H enc fuel [v] x hx hw
   cases e
   exact ⟨a,.cons h1 .nil,h2⟩
 | [],hl=>exact hl.elim
 | _::_::_,hl=>exact hl.2.elim
theorem RdL.cons {α β:Type} {t:TypeId} {ts:List TypeId} {c:Cl α} {r:Rw β} {Q:α→Prop} {Q':β→Prop} (h:RdC P w t c Q) (k:RdL P w ts r Q'):RdL P w (t::ts) (rC c r) (fun p=>Q p.1∧Q' p.2):=fun H enc cs hl=>by
 match cs,hl with
 | v::vs,hl =>
   obtain ⟨⟨fuel,x,hx,hw⟩,hr⟩:=hl
   obtain ⟨a,v',e,h1,h2⟩:=h H enc fuel [v] x hx hw
   cases e
   obtain ⟨b,h3,h4⟩:=k H enc vs hr
   exact ⟨(a,b),.cons h1 h3,h2,h4⟩
 | [],hl=>exact hl.elim
theorem RdR.of {α:Type} {k:Nat} {t:TypeId} {ts:List TypeId} {r:Rw α} {Q:α→Prop} (h:flatT P k t=some ts) (hr:RdL P w ts r Q):RdR P w t r Q:=fun H enc fuel cs x hx hw=>hr H enc cs (flat_ok h _ _ _ hx hw)
theorem RdC.int {t:TypeId} {k:IntKind} (hu:P.underlying t=some (.int k)):RdC P w t (cInt k) (fun n=>k.min≤n∧n≤k.max):=fun H enc fuel cs x hx hw=>by
 obtain ⟨n,rfl,_,h⟩:=DataW.trod_int hu hx
 refine ⟨n,_,rfl,.sc rfl,?_⟩
 simp only [Lit.wf,Bool.and_eq_true,decide_eq_true_eq] at h
 exact h
theorem RdC.bool {t:TypeId} (hu:P.underlying t=some .bool):RdC P w t cBool (fun _=>True):=fun H enc fuel cs x hx hw=>by
 obtain ⟨n,rfl,_⟩:=DataW.trod_bool hu hx
 exact ⟨n,_,rfl,.sc rfl,trivial⟩
theorem RdC.str {t:TypeId} (hu:P.underlying t=some .string):RdC P w t cStr (fun s=>s.length≤reachBytes):=fun H enc fuel cs x hx hw=>by
 obtain ⟨s,rfl,rfl,_⟩:=DataW.trod_string hu hx
 refine ⟨s.data.toList,_,rfl,.sc rfl,?_⟩
 unfold Light at hw
 simp only [DataW.weights,List.all_cons,List.all_nil,Bool.and_true,decide_eq_true_eq] at hw
 exact hw
theorem list_of {α:Type} {p:Nat→α→Prop}:∀ {n:Nat},(∀ i,i < n→∃ x,p i x)→∃ l:List α,l.length=n∧∀ (i:Nat) (x:α),l[i]? = some x→p i x
 | 0,_=>⟨[],rfl,fun i x h=>by simp at h⟩
 | n+1,h=>by
   obtain ⟨l,h1,h2⟩:=list_of (n:=n) fun i hi=>h i (by omega)
   obtain ⟨x,hx⟩:=h n (by omega)
   refine ⟨l++[x],by simp [h1],fun i y hi=>?_⟩
   rcases Nat.lt_or_ge i l.length with hlt|hge
   ·rw [List.getElem?_append_left hlt] at hi; exact h2 i y hi
   ·rw [List.getElem?_append_right hge] at hi
    cases hq:i - l.length with
    | zero =>
      rw [hq] at hi
      simp at hi
      subst hi
      have:i=n:=by omega
      subst this; exact hx
    | succ j=>rw [hq] at hi; simp at hi
theorem cells?_at {a:Addr} {n:Nat} {cs:List Value} (h:w.cells? 0 a n=some cs):cs.length=n∧∀ j,j < n→w.cell? (a.add j)=cs[j]? := by
 unfold World.cells? at h
 rw [if_pos (Nat.zero_le _)] at h
 refine ⟨by simpa using mapM_some_length h,fun j hj=>?_⟩
 exact mapM_some_get h j j (by simp [hj])
theorem addrA {b o i:Nat}:(Addr.mk b o none).add i=⟨b,o+i,none⟩:=by
 unfold Addr.add
 split
 ·rename_i h; subst h; rfl
 ·rfl
theorem cell?_inv {a:Addr} {v:Value} (h:w.cell? a=some v):a.spot=none∧∃ C T fz,w.heap[a.block]? = some (.cells C T fz)∧C[a.off]? = some v:=by
 unfold World.cell? at h
 split at h
 ·rename_i C T fz hc
  cases hs:a.spot with
  | none=>rw [hs] at h; exact ⟨rfl,C,T,fz,hc,h⟩
  | some s=>rw [hs] at h; cases h
 ·cases h
theorem RdC.slice {α:Type} {t e:TypeId} {r:Rw α} {Q:α→Prop} (hu:P.underlying t=some (.slice e)) (hw:P.cellsOf e=r.w) (h0:0 < r.w) (he:RdR P w e r Q) :
  RdC P w t (cSl r) (fun x=>(el x).length * P.bytesOf e≤reachBytes∧∀ a ∈ el x,Q a):=fun H enc fuel cs x hx hwt=>by
 rcases DataW.trod_slice hu hx with ⟨rfl,rfl⟩|⟨a,len,cap,elems,rest,n,rfl,rfl,rfl,_,hlc,hcm,hlen,hel,hsp,_⟩
 ·exact ⟨none,_,rfl,(by show Enc _ (encS r none) _; rw [encS_eq]; exact .nil),by simp [el_none],fun a h=>by simp [el_none] at h⟩
 ·have hwt:Light P t (DataW.slice (elems.map (·.1)) (rest.map (·.1))):=hwt
  unfold Light at hwt
  rw [DataW.weights,hu] at hwt
  simp only [List.all_cons,List.all_append,Bool.and_eq_true,decide_eq_true_eq,List.length_map] at hwt
  obtain ⟨hwt1,hwt2,_⟩:=hwt
  obtain ⟨hsp1,hsp2⟩:=hsp rfl
  have hget:∀ i,i < len→∃ (q:α × List Value),EncL (hpOf w) (r.enc q.1) q.2∧Q q.1∧q.2.length=r.w∧∀ j,j < r.w→w.cell? ((a.add (i * r.w)).add j)=q.2[j]? := fun i hi=>by
   have h1:=hel i hi
   have hei:elems[i]? = some (elems[i]'(by omega)):=List.getElem?_eq_getElem (by omega)
   rw [hei] at h1
   obtain ⟨cs',h2,h3⟩:=Option.bind_eq_some_iff.1 h1
   obtain ⟨b,h4,h5⟩:=he H enc n cs' _ h3 (weightsAll_get hwt2 (List.mem_map.2 ⟨elems[i]'(by omega),List.getElem_mem _,rfl⟩))
   rw [hw] at h2
   obtain ⟨h6,h7⟩:=cells?_at h2
   exact ⟨(b,cs'),h4,h5,h6,h7⟩
  obtain ⟨l,l1,l2⟩:=list_of hget
  have hQ:∀ b ∈ l.map (·.1),Q b:=fun b hb=>by
   obtain ⟨q,hq,rfl⟩:=List.mem_map.1 hb
   obtain ⟨i,hi,rfl⟩:=List.getElem_of_mem hq
   exact (l2 i _ (List.getElem?_eq_getElem hi)).2.1
  have hle:(l.map (·.1)).length * P.bytesOf e≤reachBytes:=by
   rw [List.length_map,l1]
   refine Nat.le_trans (Nat.mul_le_mul_right _ ?_) hwt1
   omega
  rcases Nat.eq_zero_or_pos cap with hc0|hc0
  ·subst hc0
   have:len=0:=by omega
   subst this
   have:l=[]:=List.eq_nil_of_length_eq_zero l1
   subst this
   exact ⟨some [],_,rfl,(by show Enc _ (encS r (some [])) _; rw [encS_eq]; exact .emp),by simp [el_some],fun a h=>by simp [el_some] at h⟩
  ·
   have hcell:∃ v,w.cell? a=some v:=by
    rcases Nat.eq_zero_or_pos len with hl0|hl0
    ·have h1:=hsp2 0 (by omega)
     have hri:rest[0]? = some (rest[0]'(by omega)):=List.getElem?_eq_getElem (by omega)
     rw [hri] at h1
     obtain ⟨cs',h2,_⟩:=Option.bind_eq_some_iff.1 h1
     rw [hw,hl0,Nat.zero_add,Nat.zero_mul] at h2
     obtain ⟨h6,h7⟩:=cells?_at h2
     have h8:=h7 0 h0
     exact ⟨cs'[0]'(by omega),by rw [List.getElem?_eq_getElem (by omega)] at h8; simpa [Addr.add] using h8⟩
    ·obtain ⟨q,_,_,h6,h7⟩:=hget 0 hl0
     have h8:=h7 0 h0
     exact ⟨q.2[0]'(by omega),by rw [List.getElem?_eq_getElem (by omega),Nat.zero_mul] at h8; simpa [Addr.add] using h8⟩
   obtain ⟨v0,hv0⟩:=hcell
   obtain ⟨hs,C,T,fz,hh,_⟩:=cell?_inv hv0
   obtain ⟨ab,ao,as_⟩:=a
   have hs:as_=none:=hs
   subst hs
   have hadd:∀ i j,((Addr.mk ab ao none).add i).add j=⟨ab,ao+i+j,none⟩:=fun i j=>by
    rw [addrA,addrA]
   have hC:∀ i q,l[i]? = some q→∀ j,j < r.w→C[ao+i * r.w+j]? = q.2[j]? ∧ ao+i * r.w+j < C.size:=fun i q hq j hj=>by
    obtain ⟨_,_,h6,h7⟩:=l2 i q hq
    have h8:=h7 j hj
    rw [hadd,List.getElem?_eq_getElem (by omega)] at h8
    obtain ⟨_,C2,T2,fz2,g1,g2⟩:=cell?_inv h8
    have g1:w.heap[ab]? = some (.cells C2 T2 fz2):=g1
    rw [hh] at g1
    cases g1
    have g2:C[ao+i * r.w+j]? = some (q.2[j]'(by omega)):=g2
    exact ⟨by rw [g2,List.getElem?_eq_getElem (by omega)],(Array.getElem?_eq_some_iff.1 g2).1⟩
   refine ⟨some (l.map (·.1)),_,rfl,?_,(by rw [el_some]; exact hle),(by rw [el_some]; exact hQ)⟩
   have hen:(cSl r).enc (some (l.map (·.1)))=.seq false r.w ((l.map (·.1)).map r.enc):=by
    show encS r _=_
    rw [encS_eq]; rfl
   rw [hen]
   have hlr:((l.map (·.1)).map r.enc).length=len:=by simp [l1]
   rw [← hlr]
   refine .sl (C:=C) (T:=T) (fz:=fz) (by rw [hlr]; exact hlc) (fun _=>hh) (fun hne=>?_) (fun row hrow=>?_) (fun i row j u v q1 q2 q3=>?_)
   ·rw [hlr]
    have hpos:0 < len:=by
     rcases Nat.eq_zero_or_pos len with h|h
     ·rw [h] at hlr
      exact absurd (List.eq_nil_of_length_eq_zero hlr) hne
     ·exact h
    have hq:l[len - 1]? = some (l[len - 1]'(by omega)):=List.getElem?_eq_getElem (by omega)
    have:=(hC (len - 1) _ hq (r.w - 1) (by omega)).2
    have e2:len * r.w=(len - 1) * r.w+r.w:=by
     obtain ⟨k,rfl⟩:∃ k,len=k+1:=⟨len - 1,by omega⟩
     rw [Nat.add_mul,Nat.one_mul]; rfl
    rw [e2]; omega
   ·obtain ⟨b,_,rfl⟩:=List.mem_map.1 hrow
    exact r.len b
   ·rw [List.getElem?_map,List.getElem?_map] at q1
    cases hq:l[i]? with
    | none=>rw [hq] at q1; cases q1
    | some q =>
      rw [hq] at q1
      have q1:=Option.some.inj q1
      subst q1
      have hj:j < r.w:=by
       have:=(List.getElem?_eq_some_iff.1 q2).1
       rw [r.len] at this; exact this
      rw [(hC i q hq j hj).1] at q3
      exact (l2 i q hq).1.2 j u v q2 q3
theorem RdC.mono {α:Type} {t:TypeId} {c:Cl α} {Q Q':α→Prop} (h:RdC P w t c Q) (k:∀ a,Q a→Q' a):RdC P w t c Q':=fun H enc fuel cs x hx hw=>by
 obtain ⟨a,v,h1,h2,h3⟩:=h H enc fuel cs x hx hw
 exact ⟨a,v,h1,h2,k a h3⟩
theorem RdL.mono {α:Type} {ts:List TypeId} {r:Rw α} {Q Q':α→Prop} (h:RdL P w ts r Q) (k:∀ a,Q a→Q' a):RdL P w ts r Q':=fun H enc cs hl=>by
 obtain ⟨a,h1,h2⟩:=h H enc cs hl
 exact ⟨a,h1,k a h2⟩
theorem leaf_flat {t:TypeId} {b0:Nat} {v:Value} {rc:Reach} (hl:isLeaf P t=true) (hval:Value.okWide P w rc b0 t v):flatR v=true:=by
 unfold isLeaf at hl
 split at hl
 ·rename_i hu; obtain ⟨_,rfl⟩:=okWide_bool hu hval; rfl
 ·rename_i hu; obtain ⟨_,rfl⟩:=okWide_int hu hval; rfl
 ·rename_i hu; obtain ⟨_,rfl⟩:=okWide_string hu hval; rfl
 ·rename_i hu; obtain ⟨_,_,_,rfl⟩:=okWide_slice hu hval; rfl
 ·cases hl
theorem arg_s {α:Type} {H:Type} {enc:TypeId × Value→H} {t:TypeId} {b0:Nat} {v:Value} {rc:Reach} {c:Cl α} {Q:α→Prop} {d:DataW H} {ps:List MemPlace} (h:RdC P w t c Q) (hl:isLeaf P t=true) (hval:Value.okWide P w rc b0 t v)
  (hd:DataW.Trod enc P w 0 (fun _=>true) true t v d ps) (hw:Light P t d):∃ a,ShR (hpOf w) (.s c.tag) [c.enc a] v∧Q a:=by
 obtain ⟨fuel,hx⟩:=hd
 obtain ⟨a,v',e,h1,h2⟩:=h H enc fuel _ _ hx hw
 have hfl:=leaf_flat hl hval
 have hcl:v.cells=#[v]:=by cases v <;> first|rfl|cases hfl
 rw [hcl] at e
 cases e
 exact ⟨a,.s h1 (c.ht a),h2⟩
theorem arg_a {α:Type} {H:Type} {enc:TypeId × Value→H} {t:TypeId} {v:Value} {r:Rw α} {Q:α→Prop} {d:DataW H} {ps:List MemPlace} {tg:List Nat} (h:RdR P w t r Q) (htg:∀ a,(r.enc a).map tagU=tg)
  (hval:∃ cs,v=.agg cs) (hd:DataW.Trod enc P w 0 (fun _=>true) true t v d ps) (hw:Light P t d):∃ a,ShR (hpOf w) (.a tg) (r.enc a) v∧Q a:=by
 obtain ⟨⟨cs⟩,rfl⟩:=hval
 obtain ⟨fuel,hx⟩:=hd
 obtain ⟨a,h1,h2⟩:=h H enc fuel _ _ hx hw
 exact ⟨a,.a h1 (htg a),h2⟩
theorem okWide_agg {t:TypeId} {b0:Nat} {v:Value} {rc:Reach} (hl:(match P.underlying t with|some (.struct _)|some (.array _ _)=>true|_=>false)=true) (hval:Value.okWide P w rc b0 t v):∃ cs,v=.agg cs:=by
 unfold Value.okWide at hval
 split at hval
 ·obtain ⟨cs,h,_⟩:=hval; exact ⟨cs,h⟩
 ·obtain ⟨cs,h,_⟩:=hval; exact ⟨cs,h⟩
 ·rename_i h1 h2
  split at hl
  ·rename_i fs hu; exact absurd hu (h1 fs)
  ·rename_i n e hu; exact absurd hu (h2 n e)
  ·cases hl
end
end Go.Sx
namespace Go.Sx
set_option linter.all false
open Go
theorem RdC.i64 {P:Program} {w:World} {t:TypeId} (hu:P.underlying t=some (.int .i64)):RdC P w t (cInt .i64) (fun n => -9223372036854775808≤n∧n≤9223372036854775807) :=
 (RdC.int hu).mono fun n h=>by simp [IntKind.min,IntKind.max,IntKind.signed,IntKind.bits] at h; omega
theorem RdC.i32 {P:Program} {w:World} {t:TypeId} (hu:P.underlying t=some (.int .i32)):RdC P w t (cInt .i32) (fun n => -2147483648≤n∧n≤2147483647) :=
 (RdC.int hu).mono fun n h=>by simp [IntKind.min,IntKind.max,IntKind.signed,IntKind.bits] at h; omega
theorem RdC.u8 {P:Program} {w:World} {t:TypeId} (hu:P.underlying t=some (.int .u8)):RdC P w t (cInt .u8) (fun n=>0≤n∧n≤255) :=
 (RdC.int hu).mono fun n h=>by simp [IntKind.min,IntKind.max,IntKind.signed,IntKind.bits] at h; omega
theorem RdC.u16 {P:Program} {w:World} {t:TypeId} (hu:P.underlying t=some (.int .u16)):RdC P w t (cInt .u16) (fun n=>0≤n∧n≤65535) :=
 (RdC.int hu).mono fun n h=>by simp [IntKind.min,IntKind.max,IntKind.signed,IntKind.bits] at h; omega
theorem RdC.u32 {P:Program} {w:World} {t:TypeId} (hu:P.underlying t=some (.int .u32)):RdC P w t (cInt .u32) (fun n=>0≤n∧n≤4294967295) :=
 (RdC.int hu).mono fun n h=>by simp [IntKind.min,IntKind.max,IntKind.signed,IntKind.bits] at h; omega
theorem RdC.u64 {P:Program} {w:World} {t:TypeId} (hu:P.underlying t=some (.int .u64)):RdC P w t (cInt .u64) (fun n=>0≤n∧n≤18446744073709551615) :=
 (RdC.int hu).mono fun n h=>by simp [IntKind.min,IntKind.max,IntKind.signed,IntKind.bits] at h; omega
theorem RdC.slice' {P:Program} {w:World} {α:Type} {t e:TypeId} {r:Rw α} {Q:α→Prop} (N:Nat) (hu:P.underlying t=some (.slice e)) (hw:P.cellsOf e=r.w) (h0:0 < r.w) (hN:P.bytesOf e=N) (hN0:0 < N) (he:RdR P w e r Q) :
  RdC P w t (cSl r) (fun x=>(el x).length≤140737488351232∧∀ a ∈ el x,Q a):=(RdC.slice hu hw h0 he).mono fun x h=>by
 refine ⟨?_,h.2⟩
 have h1:=h.1
 rw [hN] at h1
 have h2:(el x).length * 1≤(el x).length * N:=Nat.mul_le_mul_left _ hN0
 have h3:reachBytes=140737488351232:=rfl
 omega
end Go.Sx

namespace Go.Proofs.YtdkdbjgkedahfaaDoor
set_option linter.all false
open Go Go.Sx
set_option maxRecDepth 100000
def gl:Nat:=3
def n0:Nat:=3
def rows0:List (Nat × List Value):=[(1,[.int .i64 (768),.int .i64 (879),.int .i64 (1155),.int .i64 (1161),.int .i64 (1425),.int .i64 (1469),.int .i64 (1552),.int .i64 (1562),.int .i64 (1611),.int .i64 (1631),.int .i64 (6832),.int .i64 (6911),.int .i64 (7616),.int .i64 (7679),.int .i64 (8203),.int .i64 (8207),.int .i64 (8400),.int .i64 (8447),.int .i64 (65024),.int .i64 (65039),.int .i64 (65056),.int .i64 (65071)]),
 (2,[.int .i64 (4352),.int .i64 (4447),.int .i64 (11904),.int .i64 (12350),.int .i64 (12353),.int .i64 (19903),.int .i64 (19968),.int .i64 (42191),.int .i64 (44032),.int .i64 (55203),.int .i64 (63744),.int .i64 (64255),.int .i64 (65072),.int .i64 (65135),.int .i64 (65280),.int .i64 (65376),.int .i64 (65504),.int .i64 (65510),.int .i64 (127744),.int .i64 (128591),.int .i64 (128640),.int .i64 (128767),.int .i64 (129280),.int .i64 (129535),.int .i64 (131072),.int .i64 (262141)])]
def H0:Hp AB:=mkH rows0
theorem mxMixed:Tryd.prog.follows .mixedOrders=true:=by kernel_rfl
theorem mxNames:NameOk Tryd.prog:=by
 have h:(Tryd.prog.funcs.toList.all fun fn=>!(fn.name == "runtime.NumGoroutine"))=true:=by kernel_rfl
 intro f fn hf
 have h1:=List.all_eq_true.1 h fn (Array.mem_def.1 (Array.mem_of_getElem? hf))
 simpa using h1
def ext0:List (FuncId × EK):=[(102,.indexByteString),(59,.countString),(82,.noEscape),(90,.makeNoZero 5)]
theorem mxExt:∀ p ∈ ext0,ExtRow Tryd.prog p.1 p.2:=by
 intro p hp
 unfold ext0 at hp
 rcases List.mem_cons.1 hp with rfl|hp
 ·exact ⟨⟨_,rfl,by kernel_rfl,by kernel_rfl,by kernel_rfl,.inr (.inl ⟨rfl,by kernel_rfl⟩)⟩⟩
 rcases List.mem_cons.1 hp with rfl|hp
 ·exact ⟨⟨_,rfl,by kernel_rfl,by kernel_rfl,by kernel_rfl,.inr (.inr (.inl ⟨rfl,by kernel_rfl⟩))⟩⟩
 rcases List.mem_cons.1 hp with rfl|hp
 ·exact ⟨⟨_,rfl,by kernel_rfl,by kernel_rfl,by kernel_rfl,.inl ⟨rfl,by kernel_rfl⟩⟩⟩
 rcases List.mem_cons.1 hp with rfl|hp
 ·exact ⟨⟨_,rfl,by kernel_rfl,by kernel_rfl,by kernel_rfl,.inr (.inr (.inr ⟨_,_,_,rfl,rfl,by kernel_rfl,by kernel_rfl⟩))⟩⟩
 cases hp
noncomputable abbrev cx (l:List (FuncId × FnC)) (lps:List LpE):Cx:=⟨Tryd.prog,ext0,gl,conT l,lpT lps⟩
theorem cxg {G:Nat→Option Obj} {l:List (FuncId × FnC)} {lps:List LpE} (h:ConsOk Tryd.prog G gl l) (k:LpsOk Tryd.prog G gl lps):CxG (cx l lps) G:=cxG_of2 mxMixed mxNames mxExt h k
def L0:List (FuncId × FnC):=[]
theorem L0_ok {G:Nat→Option Obj} (hst:StartOk Tryd.prog G gl H0 n0):ConsOk Tryd.prog G gl L0:=.nil
end Go.Proofs.YtdkdbjgkedahfaaDoor

namespace Go.Proofs.YtdkdbjgkedahfaaDoor
set_option linter.all false
open Go Go.Sx
set_option maxRecDepth 100000
set_option linter.unusedVariables false
set_option linter.unusedSimpArgs false
def rB:Rw Int:=r1 (cInt .u8)
def rDr:Rw (Int × (Option (List Int)) × Bool):=rC (cInt .u8) (rC (cSl rB) (r1 cBool))
def rCl:Rw (Int × Int × Int × Int × Int × Int × Int × Int × Int × Int × Int × Int):=rC (cInt .i64) (rC (cInt .i64) (rC (cInt .i64) (rC (cInt .i64) (rC (cInt .i64) (rC (cInt .i64) (rC (cInt .i64) (rC (cInt .i64) (rC (cInt .i64) (rC (cInt .i64) (rC (cInt .i64) (r1 (cInt .i64))))))))))))
def rRw:Rw ((Option (List (Int × Int × Int × Int × Int × Int × Int × Int × Int × Int × Int × Int))) × Bool):=rC (cSl rCl) (r1 cBool)
def rQ:Rw (Int × Int):=rC (cInt .i64) (r1 (cInt .i64))
def inM (c:Int):Prop:=(768≤c∧c≤879)∨(1155≤c∧c≤1161)∨(1425≤c∧c≤1469)∨(1552≤c∧c≤1562)∨(1611≤c∧c≤1631)∨(6832≤c∧c≤6911)∨(7616≤c∧c≤7679)∨(8203≤c∧c≤8207)∨(8400≤c∧c≤8447)∨(65024≤c∧c≤65039)∨(65056≤c∧c≤65071)
def inW (c:Int):Prop:=(4352≤c∧c≤4447)∨(11904≤c∧c≤12350)∨(12353≤c∧c≤19903)∨(19968≤c∧c≤42191)∨(44032≤c∧c≤55203)∨(63744≤c∧c≤64255)∨(65072≤c∧c≤65135)∨(65280≤c∧c≤65376)∨(65504≤c∧c≤65510)∨(127744≤c∧c≤128591)∨(128640≤c∧c≤128767)∨(129280≤c∧c≤129535)∨(131072≤c∧c≤262141)
instance (c:Int):Decidable (inM c):=by unfold inM; infer_instance
instance (c:Int):Decidable (inW c):=by unfold inW; infer_instance
def okU (c:Int):Prop:=0≤c∧c≤1114111∧¬(55296≤c∧c≤57343)
instance (c:Int):Decidable (okU c):=by unfold okU; infer_instance
def widS (c:Int):Int:=if ¬okU c∨c≤31∨(127≤c∧c≤159) then -1 else if inM c then 0 else if inW c then 2 else 1
theorem wdl_a {c:Int} (h:¬okU c∨c≤31∨(127≤c∧c≤159)):widS c = -1:=if_pos h
theorem wdl_b {c:Int} (h:¬(¬okU c∨c≤31∨(127≤c∧c≤159))) (h2:inM c):widS c=0:=by unfold widS; rw [if_neg h,if_pos h2]
theorem wdl_c {c:Int} (h:¬(¬okU c∨c≤31∨(127≤c∧c≤159))) (h2:¬inM c) (h3:inW c):widS c=2:=by unfold widS; rw [if_neg h,if_neg h2,if_pos h3]
theorem wdl_d {c:Int} (h:¬(¬okU c∨c≤31∨(127≤c∧c≤159))) (h2:¬inM c) (h3:¬inW c):widS c=1:=by unfold widS; rw [if_neg h,if_neg h2,if_neg h3]
def inB (c:Int) (x:Int × Int):Bool:=decide (x.1≤c) && decide (c≤x.2)
theorem inB_t {c:Int} {x:Int × Int} (h:x.1≤c) (h2:c≤x.2):inB c x=true:=by unfold inB; rw [decide_eq_true h,decide_eq_true h2]; rfl
theorem inB_f {c:Int} {x:Int × Int} (h:¬x.1≤c∨¬c≤x.2):inB c x=false:=by
 unfold inB
 rcases h with h|h
 ·rw [decide_eq_false h]; rfl
 ·rw [decide_eq_false h,Bool.and_false]
theorem any_end {c:Int} {l:List (Int × Int)} {i:Int} (h:(l.length:Int)≤i):(l.drop i.toNat).any (inB c)=false:=by rw [drop_end l h]; rfl
theorem any_t {c:Int} {l:List (Int × Int)} {i:Int} (h0:0≤i) (h1:i < (l.length:Int)) (h2:inB c (l.getD i.toNat default)=true):(l.drop i.toNat).any (inB c)=true:=by rw [drop_step l h0 h1,List.any_cons,h2]; rfl
theorem any_f {c:Int} {l:List (Int × Int)} {i:Int} (h0:0≤i) (h1:i < (l.length:Int)) (h2:inB c (l.getD i.toNat default)=false):(l.drop i.toNat).any (inB c)=(l.drop (i+1).toNat).any (inB c):=by rw [drop_step l h0 h1,List.any_cons,h2]; rfl
def bU (b:Bool):Option Unit:=if b then some () else none
def win_l:List U→Option (Nat × List U)
 | [.int .i64 c,u_l,.int .i64 n,.int .i64 i]=>(decS rQ u_l).bind fun l=>if n=((el l).length:Int)∧0≤i∧i≤n∧n≤1000 then way01 (bU (((el l).drop i.toNat).any (inB c))) [] (fun _=>[]) else none
 | _=>none
theorem win_l_e (c:Int) (l:(Option (List (Int × Int)))) (n:Int) (i:Int) (hc:n=((el l).length:Int)∧0≤i∧i≤n∧n≤1000):win_l [.int .i64 c,encS rQ l,.int .i64 n,.int .i64 i]=way01 (bU (((el l).drop i.toNat).any (inB c))) [] (fun _=>[]):=by
 simp only [win_l,decS_enc,Option.bind_some]
 exact if_pos hc
def win_D:LoopD:=⟨[(0,h 0 3),(7,dat 4 1 12),(8,h 2 3),(9,h 3 3)],[(4,.frz)],4,[⟨.exit 0,[],[],0⟩,⟨.ret,[(4,.bool true)],[],0⟩]⟩
noncomputable def win_B:Code:=(Tryd.f110.body).getD .skip
noncomputable def win_x:Code:=match codeAt [true,false,true,false] win_B with|some (.loop x)=>x|_=>.skip
theorem win_b:Tryd.f110.body=some win_B:=rfl
theorem win_p:codeAt [true,false,true,false] win_B=some (.loop win_x):=by kernel_rfl
def win_t:Tr:=.lt 8 (.bin .lss) [h 3 3,h 2 3] <| .br 4 (.lt 8 (.inbs 2) [h 3 3,h 1 12] <| .br 5 (.lt 3 (.get 2 0) [h 1 12,h 3 3] <| .lt 3 (.get 2 1) [h 1 12,h 3 3] <| .lt 8 (.bin .geq) [h 0 3,h 6 3] <| .br 8 (.lt 8 (.bin .leq) [h 0 3,h 7 3] <| .br 9 (.ret [.int .i64 (1)]) (.lt 3 (.bin .add) [h 3 3,.int .i64 (1)] <| .ret [.int .i64 (-1),h 0 3,h 1 12,h 2 3,h 10 3])) (.lt 3 (.bin .add) [h 3 3,.int .i64 (1)] <| .ret [.int .i64 (-1),h 0 3,h 1 12,h 2 3,h 9 3])) (.no)) (.ret [.int .i64 (0)])
def win_m:List U→Nat
 | [.int .i64 c,u_l,.int .i64 n,.int .i64 i]=>(match decS rQ u_l with|some l=>(n - i).toNat|none=>0)
 | _=>0
theorem win_me (c:Int) (l:(Option (List (Int × Int)))) (n:Int) (i:Int):win_m [.int .i64 c,encS rQ l,.int .i64 n,.int .i64 i]=(n - i).toNat:=by
 simp only [win_m,decS_enc]
theorem win_c {G:Nat→Option Obj} (hst:StartOk Tryd.prog G gl H0 n0):∀ (E:Nat→U) (base:Nat),@CodeOk ⟨E,G⟩ Tryd.prog base gl Tryd.f110.ntmps win_x (loopF Tryd.prog gl n0 5 win_D win_l):=by
 refine loop_ok (C:=cx L0 []) (dep:=60) (f:=110) (n0:=n0) (nB:=5) (H0:=H0) win_m win_t (cxg (L0_ok hst) .nil) hst Tryd.func110 win_b win_p (by kernel_rfl) (by kernel_rfl) (by kernel_rfl) ?_
 intro us d outs hs
 have hs0:=hs
 unfold win_l at hs
 split at hs
 ·skip
  rename_i c u_l n i
  have hq_l:=Option.bind_eq_some_iff.1 hs
  clear hs
  obtain ⟨l,hd_l,hs⟩:=hq_l
  replace hd_l:=decS_eq hd_l
  subst hd_l
  split at hs
  ·rename_i hc
   clear hs hs0
   refine ⟨rfl,?_⟩
   unfold win_t
   refine s0 (.cons 3 _ (.cons 2 _ (.cons 1 _ (.cons 0 _ (.nil))))) rfl (by simp [Ev.ok,Ev.len]) ?_
   refine s1 (ev_lss _ _ _) rfl rfl rfl ?_
   refine s5 rfl (fun g0=>?_) fun g0=>?_
   ·refine s7 [.int .i64 _] rfl ?_
    refine leaf_exit (d:=0) ?_
    rw [win_l_e c l n i hc,any_end (by omega)]; rfl
   refine s1 (ev_inbsS rfl) rfl rfl rfl ?_
   refine s5 rfl (fun g1=>?_) fun g1=>?_
   ·refine s8 ?_
    first|omega|(trace_state; done)
   refine s1 (u:=.int .i64 _) (ev_getS rfl (by omega) (by omega) rfl) rfl rfl rfl ?_
   refine s1 (u:=.int .i64 _) (ev_getS rfl (by omega) (by omega) rfl) rfl rfl rfl ?_
   refine s1 (ev_geq _ _ _) rfl rfl rfl ?_
   refine s4 rfl (fun g2=>?_) fun g2=>?_
   ·refine s1 (ev_leq _ _ _) rfl rfl rfl ?_
    refine s4 rfl (fun g3=>?_) fun g3=>?_
    ·refine s7 [.int .i64 _] rfl ?_
     refine leaf_exit (d:=1) ?_
     rw [win_l_e c l n i hc,any_t (i:=i) (by omega) (by omega) (inB_t (by assumption) (by assumption))]; rfl
    first|refine s1 (ev_addW (wrap64 (by omega) (by omega))) rfl rfl rfl ?_|refine s1 (ev_add _ _ _) rfl rfl rfl ?_
    refine s7 [.int .i64 _,.int .i64 _,encS rQ _,.int .i64 _,.int .i64 _] rfl ?_
    refine leaf_back ?_ ?_
    ·rw [win_l_e c l n i hc,any_f (i:=i) (by omega) (by omega) (inB_f (by omega))]; exact win_l_e c l n (i+1) ⟨hc.1,by omega,by omega,hc.2.2.2⟩
    ·rw [win_me,win_me]; omega
   first|refine s1 (ev_addW (wrap64 (by omega) (by omega))) rfl rfl rfl ?_|refine s1 (ev_add _ _ _) rfl rfl rfl ?_
   refine s7 [.int .i64 _,.int .i64 _,encS rQ _,.int .i64 _,.int .i64 _] rfl ?_
   refine leaf_back ?_ ?_
   ·rw [win_l_e c l n i hc,any_f (i:=i) (by omega) (by omega) (inB_f (by omega))]; exact win_l_e c l n (i+1) ⟨hc.1,by omega,by omega,hc.2.2.2⟩
   ·rw [win_me,win_me]; omega
  ·cases hs
 ·cases hs
noncomputable def P_win:List LpE:=(110,([true,false,true,false],loopF Tryd.prog gl n0 5 win_D win_l))::[]
theorem P_win_ok {G:Nat→Option Obj} (hst:StartOk Tryd.prog G gl H0 n0):LpsOk Tryd.prog G gl P_win:=.cons Tryd.func110 win_b win_p (win_c hst) .nil
def mkL:List (Int × Int):=[(768,879),(1155,1161),(1425,1469),(1552,1562),(1611,1631),(6832,6911),(7616,7679),(8203,8207),(8400,8447),(65024,65039),(65056,65071)]
theorem mkL_get {i:Int} (h0:0≤i) (h1:i < 11):([768,1155,1425,1552,1611,6832,7616,8203,8400,65024,65056]:List Int).getD i.toNat 0=(mkL.getD i.toNat default).1∧([879,1161,1469,1562,1631,6911,7679,8207,8447,65039,65071]:List Int).getD i.toNat 0=(mkL.getD i.toNat default).2:=by
 have:∀ n:Nat,n < 11→([768,1155,1425,1552,1611,6832,7616,8203,8400,65024,65056]:List Int).getD n 0=(mkL.getD n default).1∧([879,1161,1469,1562,1631,6911,7679,8207,8447,65039,65071]:List Int).getD n 0=(mkL.getD n default).2:=by decide
 exact this _ (by omega)
def wim_l:List U→Option (Nat × List U)
 | [.int .i64 c,.int .i64 i]=>if 0≤i∧i≤11 then way01 (bU ((mkL.drop i.toNat).any (inB c))) [] (fun _=>[]) else none
 | _=>none
theorem wim_l_e (c:Int) (i:Int) (hc:0≤i∧i≤11):wim_l [.int .i64 c,.int .i64 i]=way01 (bU ((mkL.drop i.toNat).any (inB c))) [] (fun _=>[]):=if_pos hc
def wim_D:LoopD:=⟨[(0,h 0 3),(7,.slice (some ⟨1,0,none⟩) 11 11),(8,.int .i64 (11)),(9,h 1 3)],[],2,[⟨.exit 0,[],[],0⟩,⟨.ret,[(4,.bool true)],[],0⟩]⟩
noncomputable def wim_B:Code:=(Tryd.f110.body).getD .skip
noncomputable def wim_x:Code:=match codeAt [true,false,true,false] wim_B with|some (.loop x)=>x|_=>.skip
theorem wim_b:Tryd.f110.body=some wim_B:=rfl
theorem wim_p:codeAt [true,false,true,false] wim_B=some (.loop wim_x):=by kernel_rfl
def wim_t:Tr:=.lt 8 (.bin .lss) [h 1 3,.int .i64 (11)] <| .br 2 (.lt 8 (.inb) [h 1 3,.int .i64 (11)] <| .br 3 (.lt 3 (.sel) [h 1 3,.int .i64 (768),.int .i64 (1155),.int .i64 (1425),.int .i64 (1552),.int .i64 (1611),.int .i64 (6832),.int .i64 (7616),.int .i64 (8203),.int .i64 (8400),.int .i64 (65024),.int .i64 (65056)] <| .lt 3 (.sel) [h 1 3,.int .i64 (879),.int .i64 (1161),.int .i64 (1469),.int .i64 (1562),.int .i64 (1631),.int .i64 (6911),.int .i64 (7679),.int .i64 (8207),.int .i64 (8447),.int .i64 (65039),.int .i64 (65071)] <| .lt 8 (.bin .geq) [h 0 3,h 4 3] <| .br 6 (.lt 8 (.bin .leq) [h 0 3,h 5 3] <| .br 7 (.ret [.int .i64 (1)]) (.lt 3 (.bin .add) [h 1 3,.int .i64 (1)] <| .ret [.int .i64 (-1),h 0 3,h 8 3])) (.lt 3 (.bin .add) [h 1 3,.int .i64 (1)] <| .ret [.int .i64 (-1),h 0 3,h 7 3])) (.no)) (.ret [.int .i64 (0)])
def wim_m:List U→Nat
 | [.int .i64 c,.int .i64 i]=>(11 - i).toNat
 | _=>0
theorem wim_me (c:Int) (i:Int):wim_m [.int .i64 c,.int .i64 i]=(11 - i).toNat:=rfl
theorem wim_c {G:Nat→Option Obj} (hst:StartOk Tryd.prog G gl H0 n0):∀ (E:Nat→U) (base:Nat),@CodeOk ⟨E,G⟩ Tryd.prog base gl Tryd.f110.ntmps wim_x (loopF Tryd.prog gl n0 4 wim_D wim_l):=by
 refine loop_ok (C:=cx L0 P_win) (dep:=60) (f:=110) (n0:=n0) (nB:=4) (H0:=H0) wim_m wim_t (cxg (L0_ok hst) (P_win_ok hst)) hst Tryd.func110 wim_b wim_p (by kernel_rfl) (by kernel_rfl) (by kernel_rfl) ?_
 intro us d outs hs
 have hs0:=hs
 unfold wim_l at hs
 split at hs
 ·skip
  rename_i c i
  split at hs
  ·rename_i hc
   clear hs hs0
   refine ⟨rfl,?_⟩
   unfold wim_t
   refine s0 (.cons 1 _ (.cons 0 _ (.nil))) rfl (by simp [Ev.ok,Ev.len]) ?_
   refine s1 (ev_lss _ _ _) rfl rfl rfl ?_
   refine s5 rfl (fun g0=>?_) fun g0=>?_
   ·refine s7 [.int .i64 _] rfl ?_
    refine leaf_exit (d:=0) ?_
    rw [wim_l_e c i hc,any_end (by show 11≤i; omega)]; rfl
   refine s1 (ev_inb _ _ _ _) rfl rfl rfl ?_
   refine s5 rfl (fun g1=>?_) fun g1=>?_
   ·refine s8 ?_
    first|omega|(trace_state; done)
   refine s1 (ev_selI [768,1155,1425,1552,1611,6832,7616,8203,8400,65024,65056] (by omega) (by show _ < ((11:Nat):Int); omega)) rfl rfl rfl ?_
   refine s1 (ev_selI [879,1161,1469,1562,1631,6911,7679,8207,8447,65039,65071] (by omega) (by show _ < ((11:Nat):Int); omega)) rfl rfl rfl ?_
   refine s1 (ev_geq _ _ _) rfl rfl rfl ?_
   refine s4 rfl (fun g2=>?_) fun g2=>?_
   ·refine s1 (ev_leq _ _ _) rfl rfl rfl ?_
    refine s4 rfl (fun g3=>?_) fun g3=>?_
    ·refine s7 [.int .i64 _] rfl ?_
     refine leaf_exit (d:=1) ?_
     have q:=mkL_get (i:=i) (by omega) (by omega)
     rw [wim_l_e c i hc,any_t (i:=i) (by omega) (by show i < 11; omega) (inB_t (by omega) (by omega))]; rfl
    first|refine s1 (ev_addW (wrap64 (by omega) (by omega))) rfl rfl rfl ?_|refine s1 (ev_add _ _ _) rfl rfl rfl ?_
    refine s7 [.int .i64 _,.int .i64 _,.int .i64 _] rfl ?_
    refine leaf_back ?_ ?_
    ·rw [wim_l_e c i hc,any_f (i:=i) (by omega) (by show i < 11; omega) (inB_f (by have q:=mkL_get (i:=i) (by omega) (by omega); omega))]; exact wim_l_e c (i+1) ⟨by omega,by omega⟩
    ·rw [wim_me,wim_me]; omega
   first|refine s1 (ev_addW (wrap64 (by omega) (by omega))) rfl rfl rfl ?_|refine s1 (ev_add _ _ _) rfl rfl rfl ?_
   refine s7 [.int .i64 _,.int .i64 _,.int .i64 _] rfl ?_
   refine leaf_back ?_ ?_
   ·rw [wim_l_e c i hc,any_f (i:=i) (by omega) (by show i < 11; omega) (inB_f (by have q:=mkL_get (i:=i) (by omega) (by omega); omega))]; exact wim_l_e c (i+1) ⟨by omega,by omega⟩
   ·rw [wim_me,wim_me]; omega
  ·cases hs
 ·cases hs
noncomputable def P_wim:List LpE:=(110,([true,false,true,false],orL (loopF Tryd.prog gl n0 4 wim_D wim_l) (loopF Tryd.prog gl n0 5 win_D win_l)))::P_win
theorem P_wim_ok {G:Nat→Option Obj} (hst:StartOk Tryd.prog G gl H0 n0):LpsOk Tryd.prog G gl P_wim:=.cons Tryd.func110 wim_b wim_p (fun E base=>@CodeOk.or ⟨E,G⟩ _ _ _ _ _ _ _ (wim_c hst E base) ((win_c hst) E base)) (P_win_ok hst)
def wdL:List (Int × Int):=[(4352,4447),(11904,12350),(12353,19903),(19968,42191),(44032,55203),(63744,64255),(65072,65135),(65280,65376),(65504,65510),(127744,128591),(128640,128767),(129280,129535),(131072,262141)]
theorem wdL_get {i:Int} (h0:0≤i) (h1:i < 13):([4352,11904,12353,19968,44032,63744,65072,65280,65504,127744,128640,129280,131072]:List Int).getD i.toNat 0=(wdL.getD i.toNat default).1∧([4447,12350,19903,42191,55203,64255,65135,65376,65510,128591,128767,129535,262141]:List Int).getD i.toNat 0=(wdL.getD i.toNat default).2:=by
 have:∀ n:Nat,n < 13→([4352,11904,12353,19968,44032,63744,65072,65280,65504,127744,128640,129280,131072]:List Int).getD n 0=(wdL.getD n default).1∧([4447,12350,19903,42191,55203,64255,65135,65376,65510,128591,128767,129535,262141]:List Int).getD n 0=(wdL.getD n default).2:=by decide
 exact this _ (by omega)
def wiw_l:List U→Option (Nat × List U)
 | [.int .i64 c,.int .i64 i]=>if 0≤i∧i≤13 then way01 (bU ((wdL.drop i.toNat).any (inB c))) [] (fun _=>[]) else none
 | _=>none
theorem wiw_l_e (c:Int) (i:Int) (hc:0≤i∧i≤13):wiw_l [.int .i64 c,.int .i64 i]=way01 (bU ((wdL.drop i.toNat).any (inB c))) [] (fun _=>[]):=if_pos hc
def wiw_D:LoopD:=⟨[(0,h 0 3),(7,.slice (some ⟨2,0,none⟩) 13 13),(8,.int .i64 (13)),(9,h 1 3)],[],2,[⟨.exit 0,[],[],0⟩,⟨.ret,[(4,.bool true)],[],0⟩]⟩
noncomputable def wiw_B:Code:=(Tryd.f110.body).getD .skip
noncomputable def wiw_x:Code:=match codeAt [true,false,true,false] wiw_B with|some (.loop x)=>x|_=>.skip
theorem wiw_b:Tryd.f110.body=some wiw_B:=rfl
theorem wiw_p:codeAt [true,false,true,false] wiw_B=some (.loop wiw_x):=by kernel_rfl
def wiw_t:Tr:=.lt 8 (.bin .lss) [h 1 3,.int .i64 (13)] <| .br 2 (.lt 8 (.inb) [h 1 3,.int .i64 (13)] <| .br 3 (.lt 3 (.sel) [h 1 3,.int .i64 (4352),.int .i64 (11904),.int .i64 (12353),.int .i64 (19968),.int .i64 (44032),.int .i64 (63744),.int .i64 (65072),.int .i64 (65280),.int .i64 (65504),.int .i64 (127744),.int .i64 (128640),.int .i64 (129280),.int .i64 (131072)] <| .lt 3 (.sel) [h 1 3,.int .i64 (4447),.int .i64 (12350),.int .i64 (19903),.int .i64 (42191),.int .i64 (55203),.int .i64 (64255),.int .i64 (65135),.int .i64 (65376),.int .i64 (65510),.int .i64 (128591),.int .i64 (128767),.int .i64 (129535),.int .i64 (262141)] <| .lt 8 (.bin .geq) [h 0 3,h 4 3] <| .br 6 (.lt 8 (.bin .leq) [h 0 3,h 5 3] <| .br 7 (.ret [.int .i64 (1)]) (.lt 3 (.bin .add) [h 1 3,.int .i64 (1)] <| .ret [.int .i64 (-1),h 0 3,h 8 3])) (.lt 3 (.bin .add) [h 1 3,.int .i64 (1)] <| .ret [.int .i64 (-1),h 0 3,h 7 3])) (.no)) (.ret [.int .i64 (0)])
def wiw_m:List U→Nat
 | [.int .i64 c,.int .i64 i]=>(13 - i).toNat
 | _=>0
theorem wiw_me (c:Int) (i:Int):wiw_m [.int .i64 c,.int .i64 i]=(13 - i).toNat:=rfl
theorem wiw_c {G:Nat→Option Obj} (hst:StartOk Tryd.prog G gl H0 n0):∀ (E:Nat→U) (base:Nat),@CodeOk ⟨E,G⟩ Tryd.prog base gl Tryd.f110.ntmps wiw_x (loopF Tryd.prog gl n0 4 wiw_D wiw_l):=by
 refine loop_ok (C:=cx L0 P_wim) (dep:=60) (f:=110) (n0:=n0) (nB:=4) (H0:=H0) wiw_m wiw_t (cxg (L0_ok hst) (P_wim_ok hst)) hst Tryd.func110 wiw_b wiw_p (by kernel_rfl) (by kernel_rfl) (by kernel_rfl) ?_
 intro us d outs hs
 have hs0:=hs
 unfold wiw_l at hs
 split at hs
 ·skip
  rename_i c i
  split at hs
  ·rename_i hc
   clear hs hs0
   refine ⟨rfl,?_⟩
   unfold wiw_t
   refine s0 (.cons 1 _ (.cons 0 _ (.nil))) rfl (by simp [Ev.ok,Ev.len]) ?_
   refine s1 (ev_lss _ _ _) rfl rfl rfl ?_
   refine s5 rfl (fun g0=>?_) fun g0=>?_
   ·refine s7 [.int .i64 _] rfl ?_
    refine leaf_exit (d:=0) ?_
    rw [wiw_l_e c i hc,any_end (by show 13≤i; omega)]; rfl
   refine s1 (ev_inb _ _ _ _) rfl rfl rfl ?_
   refine s5 rfl (fun g1=>?_) fun g1=>?_
   ·refine s8 ?_
    first|omega|(trace_state; done)
   refine s1 (ev_selI [4352,11904,12353,19968,44032,63744,65072,65280,65504,127744,128640,129280,131072] (by omega) (by show _ < ((13:Nat):Int); omega)) rfl rfl rfl ?_
   refine s1 (ev_selI [4447,12350,19903,42191,55203,64255,65135,65376,65510,128591,128767,129535,262141] (by omega) (by show _ < ((13:Nat):Int); omega)) rfl rfl rfl ?_
   refine s1 (ev_geq _ _ _) rfl rfl rfl ?_
   refine s4 rfl (fun g2=>?_) fun g2=>?_
   ·refine s1 (ev_leq _ _ _) rfl rfl rfl ?_
    refine s4 rfl (fun g3=>?_) fun g3=>?_
    ·refine s7 [.int .i64 _] rfl ?_
     refine leaf_exit (d:=1) ?_
     have q:=wdL_get (i:=i) (by omega) (by omega)
     rw [wiw_l_e c i hc,any_t (i:=i) (by omega) (by show i < 13; omega) (inB_t (by omega) (by omega))]; rfl
    first|refine s1 (ev_addW (wrap64 (by omega) (by omega))) rfl rfl rfl ?_|refine s1 (ev_add _ _ _) rfl rfl rfl ?_
    refine s7 [.int .i64 _,.int .i64 _,.int .i64 _] rfl ?_
    refine leaf_back ?_ ?_
    ·rw [wiw_l_e c i hc,any_f (i:=i) (by omega) (by show i < 13; omega) (inB_f (by have q:=wdL_get (i:=i) (by omega) (by omega); omega))]; exact wiw_l_e c (i+1) ⟨by omega,by omega⟩
    ·rw [wiw_me,wiw_me]; omega
   first|refine s1 (ev_addW (wrap64 (by omega) (by omega))) rfl rfl rfl ?_|refine s1 (ev_add _ _ _) rfl rfl rfl ?_
   refine s7 [.int .i64 _,.int .i64 _,.int .i64 _] rfl ?_
   refine leaf_back ?_ ?_
   ·rw [wiw_l_e c i hc,any_f (i:=i) (by omega) (by show i < 13; omega) (inB_f (by have q:=wdL_get (i:=i) (by omega) (by omega); omega))]; exact wiw_l_e c (i+1) ⟨by omega,by omega⟩
   ·rw [wiw_me,wiw_me]; omega
  ·cases hs
 ·cases hs
noncomputable def P_wiw:List LpE:=(110,([true,false,true,false],orL (loopF Tryd.prog gl n0 4 wiw_D wiw_l) (orL (loopF Tryd.prog gl n0 4 wim_D wim_l) (loopF Tryd.prog gl n0 5 win_D win_l))))::P_wim
theorem P_wiw_ok {G:Nat→Option Obj} (hst:StartOk Tryd.prog G gl H0 n0):LpsOk Tryd.prog G gl P_wiw:=.cons Tryd.func110 wiw_b wiw_p (fun E base=>@CodeOk.or ⟨E,G⟩ _ _ _ _ _ _ _ (wiw_c hst E base) ((fun E base=>@CodeOk.or ⟨E,G⟩ _ _ _ _ _ _ _ (wim_c hst E base) ((win_c hst) E base)) E base)) (P_wim_ok hst)
theorem bU_some {b:Bool} {u:Unit} (h:bU b=some u):b=true:=by cases b <;> first|rfl|cases h
theorem bU_none {b:Bool} (h:bU b=none):b=false:=by cases b <;> first|rfl|cases h
theorem small_any (c:Int):((el (some ([(0,31),(127,159)]:List (Int × Int)))).drop (0:Int).toNat).any (inB c)=true↔((0≤c∧c≤31)∨(127≤c∧c≤159)):=by
 show List.any _ _=true↔_
 simp [el_some,inB]
theorem mark_any (c:Int):(mkL.drop (0:Int).toNat).any (inB c)=true↔inM c:=by
 unfold inM
 show List.any mkL _=true↔_
 simp [mkL,inB]
theorem wide_any (c:Int):(wdL.drop (0:Int).toNat).any (inB c)=true↔inW c:=by
 unfold inW
 show List.any wdL _=true↔_
 simp [wdL,inB]
theorem bU_t {b:Bool} {p:Prop} {u:Unit} (h:bU b=some u) (e:b=true↔p):p:=e.1 (bU_some h)
theorem bU_f {b:Bool} {p:Prop} (h:bU b=none) (e:b=true↔p):¬p:=fun q=>by have:=e.2 q; rw [bU_none h] at this; cases this
def wid_s:List U→Option (Nat × List U)
 | [.int .i64 c]=>some (0,[.int .i64 (widS c)])
 | _=>none
theorem wid_s_e (c:Int):wid_s [.int .i64 c]=some (0,[.int .i64 (widS c)]):=rfl
def wid_t:Tr:=.lt 8 (.bin .geq) [h 0 3,.int .i64 (0)] <| .br 1 (.lt 8 (.bin .leq) [h 0 3,.int .i64 (1114111)] <| .br 2 (.lt 3 (.bin .shr) [h 0 3,.int .u64 (11)] <| .lt 8 (.bin .neq) [h 3 3,.int .i64 (27)] <| .lt 8 (.un .not) [h 4 8] <| .br 5 (.ret [.int .i64 (-1)]) (.dt 12 (.mk 2) [.int .i64 (0),.int .i64 (31),.int .i64 (127),.int .i64 (159)] <| .lp win_l [h 0 3,h 6 12,.int .i64 (2),.int .i64 (0)] 0 0 (.lt 8 (.bin .lss) [h 0 3,.int .i64 (768)] <| .br 7 (.ret [.int .i64 (1)]) (.lp wim_l [h 0 3,.int .i64 (0)] 0 0 (.lp wiw_l [h 0 3,.int .i64 (0)] 0 0 (.ret [.int .i64 (1)]) (.lp wiw_l [h 0 3,.int .i64 (0)] 1 0 (.ret [.int .i64 (2)]) (.no))) (.lp wim_l [h 0 3,.int .i64 (0)] 1 0 (.ret [.int .i64 (0)]) (.no)))) (.lp win_l [h 0 3,h 6 12,.int .i64 (2),.int .i64 (0)] 1 0 (.ret [.int .i64 (-1)]) (.no)))) (.ret [.int .i64 (-1)])) (.ret [.int .i64 (-1)])
theorem wid_c {G:Nat→Option Obj} (hst:StartOk Tryd.prog G gl H0 n0):ConOk Tryd.prog G 105 [.s 3] wid_s [.s 3]:=by
 refine con_of_tree (C:=cx L0 P_wiw) (d:=60) wid_t (cxg (L0_ok hst) (P_wiw_ok hst)) hst ⟨Tryd.f105,_,Tryd.func105,rfl⟩ (by kernel_rfl) (by kernel_rfl) ?_
 intro us outs hs
 unfold wid_s at hs
 split at hs
 ·skip
  rename_i c
  cases hs
  unfold wid_t
  refine s0 (.cons 0 _ (.nil)) rfl (by simp [Ev.ok,Ev.len]) ?_
  refine s1 (ev_geq _ _ _) rfl rfl rfl ?_
  refine s5 rfl (fun g0=>?_) fun g0=>?_
  ·refine s7 [.int .i64 _] rfl ?_
   refine congrArg (fun z=>[U.int .i64 z]) ?_; symm; first|exact wdl_a (by unfold okU; omega)|exact wdl_a (by have q:=bU_t (by assumption) (small_any c); omega)|exact wdl_b (by have q:=bU_f (by assumption) (small_any c); unfold okU; omega) (bU_t (by assumption) (mark_any c))|exact wdl_c (by have q:=bU_f (by assumption) (small_any c); unfold okU; omega) (bU_f (by assumption) (mark_any c)) (bU_t (by assumption) (wide_any c))|exact wdl_d (by have q:=bU_f (by assumption) (small_any c); unfold okU; omega) (bU_f (by assumption) (mark_any c)) (bU_f (by assumption) (wide_any c))|exact wdl_d (by have q:=bU_f (by assumption) (small_any c); unfold okU; omega) (by unfold inM; omega) (by unfold inW; omega)|(trace_state; done)
  refine s1 (ev_leq _ _ _) rfl rfl rfl ?_
  refine s5 rfl (fun g1=>?_) fun g1=>?_
  ·refine s7 [.int .i64 _] rfl ?_
   refine congrArg (fun z=>[U.int .i64 z]) ?_; symm; first|exact wdl_a (by unfold okU; omega)|exact wdl_a (by have q:=bU_t (by assumption) (small_any c); omega)|exact wdl_b (by have q:=bU_f (by assumption) (small_any c); unfold okU; omega) (bU_t (by assumption) (mark_any c))|exact wdl_c (by have q:=bU_f (by assumption) (small_any c); unfold okU; omega) (bU_f (by assumption) (mark_any c)) (bU_t (by assumption) (wide_any c))|exact wdl_d (by have q:=bU_f (by assumption) (small_any c); unfold okU; omega) (bU_f (by assumption) (mark_any c)) (bU_f (by assumption) (wide_any c))|exact wdl_d (by have q:=bU_f (by assumption) (small_any c); unfold okU; omega) (by unfold inM; omega) (by unfold inW; omega)|(trace_state; done)
  refine s1 (ev_shrL 2048 (by decide) (by decide)) rfl rfl rfl ?_
  refine s1 (ev_neq _ _ _) rfl rfl rfl ?_
  refine s1 (ev_notD _) rfl rfl rfl ?_
  refine s4 rfl (fun g2=>?_) fun g2=>?_
  ·refine s7 [.int .i64 _] rfl ?_
   refine congrArg (fun z=>[U.int .i64 z]) ?_; symm; first|exact wdl_a (by unfold okU; omega)|exact wdl_a (by have q:=bU_t (by assumption) (small_any c); omega)|exact wdl_b (by have q:=bU_f (by assumption) (small_any c); unfold okU; omega) (bU_t (by assumption) (mark_any c))|exact wdl_c (by have q:=bU_f (by assumption) (small_any c); unfold okU; omega) (bU_f (by assumption) (mark_any c)) (bU_t (by assumption) (wide_any c))|exact wdl_d (by have q:=bU_f (by assumption) (small_any c); unfold okU; omega) (bU_f (by assumption) (mark_any c)) (bU_f (by assumption) (wide_any c))|exact wdl_d (by have q:=bU_f (by assumption) (small_any c); unfold okU; omega) (by unfold inM; omega) (by unfold inW; omega)|(trace_state; done)
  refine s2 (r:=rQ) (ev_mkS [(_,_),(_,_)] rfl (by decide) rfl) rfl rfl ?_
  refine s6 (win_l_e _ _ _ 0 ⟨rfl,by decide,by decide,by decide⟩) rfl (fun _=>rfl) (fun g3=>?_) (fun v3 g3=>?_)
  ·show Tr.sav _ _ _
   refine s1 (ev_lss _ _ _) rfl rfl rfl ?_
   refine s4 rfl (fun g4=>?_) fun g4=>?_
   ·refine s7 [.int .i64 _] rfl ?_
    refine congrArg (fun z=>[U.int .i64 z]) ?_; symm; first|exact wdl_a (by unfold okU; omega)|exact wdl_a (by have q:=bU_t (by assumption) (small_any c); omega)|exact wdl_b (by have q:=bU_f (by assumption) (small_any c); unfold okU; omega) (bU_t (by assumption) (mark_any c))|exact wdl_c (by have q:=bU_f (by assumption) (small_any c); unfold okU; omega) (bU_f (by assumption) (mark_any c)) (bU_t (by assumption) (wide_any c))|exact wdl_d (by have q:=bU_f (by assumption) (small_any c); unfold okU; omega) (bU_f (by assumption) (mark_any c)) (bU_f (by assumption) (wide_any c))|exact wdl_d (by have q:=bU_f (by assumption) (small_any c); unfold okU; omega) (by unfold inM; omega) (by unfold inW; omega)|(trace_state; done)
   refine s6 (wim_l_e _ 0 ⟨by decide,by decide⟩) rfl (fun _=>rfl) (fun g5=>?_) (fun v5 g5=>?_)
   ·show Tr.sav _ _ _
    refine s6 (wiw_l_e _ 0 ⟨by decide,by decide⟩) rfl (fun _=>rfl) (fun g6=>?_) (fun v6 g6=>?_)
    ·show Tr.sav _ _ _
     refine s7 [.int .i64 _] rfl ?_
     refine congrArg (fun z=>[U.int .i64 z]) ?_; symm; first|exact wdl_a (by unfold okU; omega)|exact wdl_a (by have q:=bU_t (by assumption) (small_any c); omega)|exact wdl_b (by have q:=bU_f (by assumption) (small_any c); unfold okU; omega) (bU_t (by assumption) (mark_any c))|exact wdl_c (by have q:=bU_f (by assumption) (small_any c); unfold okU; omega) (bU_f (by assumption) (mark_any c)) (bU_t (by assumption) (wide_any c))|exact wdl_d (by have q:=bU_f (by assumption) (small_any c); unfold okU; omega) (bU_f (by assumption) (mark_any c)) (bU_f (by assumption) (wide_any c))|exact wdl_d (by have q:=bU_f (by assumption) (small_any c); unfold okU; omega) (by unfold inM; omega) (by unfold inW; omega)|(trace_state; done)
    show Tr.sav _ _ _
    refine s7 [.int .i64 _] rfl ?_
    refine congrArg (fun z=>[U.int .i64 z]) ?_; symm; first|exact wdl_a (by unfold okU; omega)|exact wdl_a (by have q:=bU_t (by assumption) (small_any c); omega)|exact wdl_b (by have q:=bU_f (by assumption) (small_any c); unfold okU; omega) (bU_t (by assumption) (mark_any c))|exact wdl_c (by have q:=bU_f (by assumption) (small_any c); unfold okU; omega) (bU_f (by assumption) (mark_any c)) (bU_t (by assumption) (wide_any c))|exact wdl_d (by have q:=bU_f (by assumption) (small_any c); unfold okU; omega) (bU_f (by assumption) (mark_any c)) (bU_f (by assumption) (wide_any c))|exact wdl_d (by have q:=bU_f (by assumption) (small_any c); unfold okU; omega) (by unfold inM; omega) (by unfold inW; omega)|(trace_state; done)
   show Tr.sav _ _ _
   refine s7 [.int .i64 _] rfl ?_
   refine congrArg (fun z=>[U.int .i64 z]) ?_; symm; first|exact wdl_a (by unfold okU; omega)|exact wdl_a (by have q:=bU_t (by assumption) (small_any c); omega)|exact wdl_b (by have q:=bU_f (by assumption) (small_any c); unfold okU; omega) (bU_t (by assumption) (mark_any c))|exact wdl_c (by have q:=bU_f (by assumption) (small_any c); unfold okU; omega) (bU_f (by assumption) (mark_any c)) (bU_t (by assumption) (wide_any c))|exact wdl_d (by have q:=bU_f (by assumption) (small_any c); unfold okU; omega) (bU_f (by assumption) (mark_any c)) (bU_f (by assumption) (wide_any c))|exact wdl_d (by have q:=bU_f (by assumption) (small_any c); unfold okU; omega) (by unfold inM; omega) (by unfold inW; omega)|(trace_state; done)
  show Tr.sav _ _ _
  refine s7 [.int .i64 _] rfl ?_
  refine congrArg (fun z=>[U.int .i64 z]) ?_; symm; first|exact wdl_a (by unfold okU; omega)|exact wdl_a (by have q:=bU_t (by assumption) (small_any c); omega)|exact wdl_b (by have q:=bU_f (by assumption) (small_any c); unfold okU; omega) (bU_t (by assumption) (mark_any c))|exact wdl_c (by have q:=bU_f (by assumption) (small_any c); unfold okU; omega) (bU_f (by assumption) (mark_any c)) (bU_t (by assumption) (wide_any c))|exact wdl_d (by have q:=bU_f (by assumption) (small_any c); unfold okU; omega) (bU_f (by assumption) (mark_any c)) (bU_f (by assumption) (wide_any c))|exact wdl_d (by have q:=bU_f (by assumption) (small_any c); unfold okU; omega) (by unfold inM; omega) (by unfold inW; omega)|(trace_state; done)
 ·cases hs
noncomputable def L_wid:List (FuncId × FnC):=(105,conF Tryd.prog [.s 3] wid_s [.s 3])::L0
theorem L_wid_ok {G:Nat→Option Obj} (hst:StartOk Tryd.prog G gl H0 n0):ConsOk Tryd.prog G gl L_wid:=.cons (wid_c hst) (L0_ok hst)
end Go.Proofs.YtdkdbjgkedahfaaDoor

namespace Go.Proofs.YtdkdbjgkedahfaaDoor
set_option linter.all false
open Go Go.Sx
set_option maxRecDepth 100000
set_option linter.unusedVariables false
set_option linter.unusedSimpArgs false
theorem andn_bv (x:BitVec 64):x &&& ~~~(255#64)=(x >>> 8) <<< 8:=by
 have h:∀ i,i < 64→(255#64).getLsbD i=decide (i < 8):=by decide
 apply BitVec.eq_of_getLsbD_eq
 intro i hi
 rw [BitVec.getLsbD_and,BitVec.getLsbD_not,h i hi,BitVec.getLsbD_shiftLeft,BitVec.getLsbD_ushiftRight]
 by_cases h8:i < 8
 ·simp [h8]
 ·simp [h8,hi,show 8+(i - 8)=i by omega]
theorem ev_andN {a:Int} (h0 : -9223372036854775808≤a) (h1:a≤9223372036854775807):evU (.bin .andNot) [.int .i64 a,.int .i64 255]=.int .i64 (a - a % 256):=by
 rw [ev_andNot]
 have e:(BitVec.ofInt IntKind.i64.bits a &&& ~~~BitVec.ofInt IntKind.i64.bits 255).toNat=((BitVec.ofInt 64 a >>> 8) <<< 8).toNat:=congrArg BitVec.toNat (andn_bv (BitVec.ofInt 64 a))
 rw [e]
 have e2:((BitVec.ofInt 64 a >>> 8) <<< 8).toNat=(BitVec.ofInt 64 a).toNat / 256 * 256:=by
  rw [BitVec.toNat_shiftLeft,BitVec.toNat_ushiftRight,Nat.shiftLeft_eq,Nat.shiftRight_eq_div_pow]
  have:=(BitVec.ofInt 64 a).isLt
  exact Nat.mod_eq_of_lt (by omega)
 rw [e2,BitVec.toNat_ofInt]
 refine congrArg (U.int .i64) ?_
 have e3:((2 ^ 64:Nat):Int)=18446744073709551616:=by decide
 rw [e3]
 generalize hA:(a % 18446744073709551616).toNat=A
 have hA1:(A:Int)=a % 18446744073709551616:=by omega
 have e4:((A / 256 * 256:Nat):Int)=a % 18446744073709551616 - a % 256:=by omega
 rw [e4]
 simp only [IntKind.wrap,IntKind.bits,IntKind.signed]
 simp
 omega
def colS (k n:Int):Int:=if (k=0∧n=0)∨(k=1∧0≤n∧n≤255)∨(k=2∧0≤n∧n≤16777215) then 0 else 130
def colc_s:List U→Option (Nat × List U)
 | [.int .i64 k,.int .i64 n]=>some (0,[.int .i64 (colS k n)])
 | _=>none
theorem colc_s_e (k:Int) (n:Int):colc_s [.int .i64 k,.int .i64 n]=some (0,[.int .i64 (colS k n)]):=rfl
def colc_t:Tr:=.lt 8 (.bin .lss) [h 0 3,.int .i64 (0)] <| .br 2 (.ret [.int .i64 (130)]) (.lt 8 (.bin .geq) [h 0 3,.int .i64 (3)] <| .br 3 (.ret [.int .i64 (130)]) (.lt 8 (.bin .lss) [h 1 3,.int .i64 (0)] <| .br 4 (.ret [.int .i64 (130)]) (.lt 8 (.inb) [h 0 3,.int .i64 (3)] <| .br 5 (.lt 3 (.sel) [h 0 3,.int .i64 (0),.int .i64 (255),.int .i64 (16777215)] <| .lt 8 (.bin .gtr) [h 1 3,h 6 3] <| .br 7 (.ret [.int .i64 (130)]) (.ret [.int .i64 (0)])) (.no))))
theorem colc_c {G:Nat→Option Obj} (hst:StartOk Tryd.prog G gl H0 n0):ConOk Tryd.prog G 111 [.a [3,3]] colc_s [.s 3]:=by
 refine con_of_tree (C:=cx L_wid P_wiw) (d:=60) colc_t (cxg (L_wid_ok hst) (P_wiw_ok hst)) hst ⟨Tryd.f111,_,Tryd.func111,rfl⟩ (by kernel_rfl) (by kernel_rfl) ?_
 intro us outs hs
 unfold colc_s at hs
 split at hs
 ·skip
  rename_i k n
  cases hs
  unfold colc_t
  refine s0 (.cons 1 _ (.cons 0 _ (.nil))) rfl (by simp [Ev.ok,Ev.len]) ?_
  refine s1 (ev_lss _ _ _) rfl rfl rfl ?_
  refine s4 rfl (fun g0=>?_) fun g0=>?_
  ·refine s7 [.int .i64 _] rfl ?_
   simp only [colS]; first|(rw [if_pos (by omega)]; done)|(rw [if_neg (by omega)]; done)|((obtain rfl|rfl|rfl:k=0∨k=1∨k=2:=(by omega)) <;> simp at * <;> first|(rw [if_pos (by omega)]; done)|(rw [if_neg (by omega)]; done)|omega)
  refine s1 (ev_geq _ _ _) rfl rfl rfl ?_
  refine s4 rfl (fun g1=>?_) fun g1=>?_
  ·refine s7 [.int .i64 _] rfl ?_
   simp only [colS]; first|(rw [if_pos (by omega)]; done)|(rw [if_neg (by omega)]; done)|((obtain rfl|rfl|rfl:k=0∨k=1∨k=2:=(by omega)) <;> simp at * <;> first|(rw [if_pos (by omega)]; done)|(rw [if_neg (by omega)]; done)|omega)
  refine s1 (ev_lss _ _ _) rfl rfl rfl ?_
  refine s4 rfl (fun g2=>?_) fun g2=>?_
  ·refine s7 [.int .i64 _] rfl ?_
   simp only [colS]; first|(rw [if_pos (by omega)]; done)|(rw [if_neg (by omega)]; done)|((obtain rfl|rfl|rfl:k=0∨k=1∨k=2:=(by omega)) <;> simp at * <;> first|(rw [if_pos (by omega)]; done)|(rw [if_neg (by omega)]; done)|omega)
  refine s1 (ev_inb _ _ _ _) rfl rfl rfl ?_
  refine s5 rfl (fun g3=>?_) fun g3=>?_
  ·refine s8 ?_
   first|omega|(simp_all; done)|(simp_all; omega)
  refine s1 (ev_selI [0,255,16777215] (by omega) (by show _ < ((3:Nat):Int); omega)) rfl rfl rfl ?_
  refine s1 (ev_gtr _ _ _) rfl rfl rfl ?_
  refine s4 rfl (fun g4=>?_) fun g4=>?_
  ·refine s7 [.int .i64 _] rfl ?_
   simp only [colS]; first|(rw [if_pos (by omega)]; done)|(rw [if_neg (by omega)]; done)|((obtain rfl|rfl|rfl:k=0∨k=1∨k=2:=(by omega)) <;> simp at * <;> first|(rw [if_pos (by omega)]; done)|(rw [if_neg (by omega)]; done)|omega)
  refine s7 [.int .i64 _] rfl ?_
  simp only [colS]; first|(rw [if_pos (by omega)]; done)|(rw [if_neg (by omega)]; done)|((obtain rfl|rfl|rfl:k=0∨k=1∨k=2:=(by omega)) <;> simp at * <;> first|(rw [if_pos (by omega)]; done)|(rw [if_neg (by omega)]; done)|omega)
 ·cases hs
noncomputable def L_colc:List (FuncId × FnC):=(111,conF Tryd.prog [.a [3,3]] colc_s [.s 3])::L_wid
theorem L_colc_ok {G:Nat→Option Obj} (hst:StartOk Tryd.prog G gl H0 n0):ConsOk Tryd.prog G gl L_colc:=.cons (colc_c hst) (L_wid_ok hst)
def styS (a u fk fn bk bn lk ln:Int):Int:=if a < 0∨255 < a∨u < 0∨5 < u then 140 else if colS fk fn≠0 then colS fk fn else if colS bk bn≠0 then colS bk bn else colS lk ln
theorem styl_a {a u fk fn bk bn lk ln:Int} (h:a < 0∨255 < a∨u < 0∨5 < u):styS a u fk fn bk bn lk ln=140:=if_pos h
theorem styl_b {a u fk fn bk bn lk ln:Int} (h:¬(a < 0∨255 < a∨u < 0∨5 < u)) (h2:colS fk fn≠0):styS a u fk fn bk bn lk ln=colS fk fn:=by unfold styS; rw [if_neg h,if_pos h2]
theorem styl_c {a u fk fn bk bn lk ln:Int} (h:¬(a < 0∨255 < a∨u < 0∨5 < u)) (h2:¬colS fk fn≠0) (h3:colS bk bn≠0):styS a u fk fn bk bn lk ln=colS bk bn:=by unfold styS; rw [if_neg h,if_neg h2,if_pos h3]
theorem styl_d {a u fk fn bk bn lk ln:Int} (h:¬(a < 0∨255 < a∨u < 0∨5 < u)) (h2:¬colS fk fn≠0) (h3:¬colS bk bn≠0):styS a u fk fn bk bn lk ln=colS lk ln:=by unfold styS; rw [if_neg h,if_neg h2,if_neg h3]
theorem styl_0 {a u fk fn bk bn lk ln:Int} (h:¬(a < 0∨255 < a∨u < 0∨5 < u)) (h2:¬colS fk fn≠0) (h3:¬colS bk bn≠0) (h4:¬colS lk ln≠0):styS a u fk fn bk bn lk ln=0:=by rw [styl_d h h2 h3]; exact Classical.not_not.1 h4
def sty_s:List U→Option (Nat × List U)
 | [.int .i64 a,.int .i64 u,.int .i64 fk,.int .i64 fn,.int .i64 bk,.int .i64 bn,.int .i64 lk,.int .i64 ln]=>if (-9223372036854775808≤a∧a≤9223372036854775807) then some (0,[.int .i64 (styS a u fk fn bk bn lk ln)]) else none
 | _=>none
theorem sty_s_e (a:Int) (u:Int) (fk:Int) (fn:Int) (bk:Int) (bn:Int) (lk:Int) (ln:Int) (hc:(-9223372036854775808≤a∧a≤9223372036854775807)):sty_s [.int .i64 a,.int .i64 u,.int .i64 fk,.int .i64 fn,.int .i64 bk,.int .i64 bn,.int .i64 lk,.int .i64 ln]=some (0,[.int .i64 (styS a u fk fn bk bn lk ln)]):=if_pos hc
def sty_t:Tr:=.lt 3 (.bin .andNot) [h 0 3,.int .i64 (255)] <| .lt 8 (.bin .neq) [h 8 3,.int .i64 (0)] <| .br 9 (.ret [.int .i64 (140)]) (.lt 8 (.bin .lss) [h 1 3,.int .i64 (0)] <| .br 10 (.ret [.int .i64 (140)]) (.lt 8 (.bin .gtr) [h 1 3,.int .i64 (5)] <| .br 11 (.ret [.int .i64 (140)]) (.fn colc_s [h 2 3,h 3 3] 1 <| .lt 8 (.bin .neq) [h 12 3,.int .i64 (0)] <| .br 13 (.ret [h 12 3]) (.fn colc_s [h 4 3,h 5 3] 1 <| .lt 8 (.bin .neq) [h 14 3,.int .i64 (0)] <| .br 15 (.ret [h 14 3]) (.fn colc_s [h 6 3,h 7 3] 1 <| .lt 8 (.bin .neq) [h 16 3,.int .i64 (0)] <| .br 17 (.ret [h 16 3]) (.ret [.int .i64 (0)]))))))
theorem sty_c {G:Nat→Option Obj} (hst:StartOk Tryd.prog G gl H0 n0):ConOk Tryd.prog G 107 [.a [3,3,3,3,3,3,3,3]] sty_s [.s 3]:=by
 refine con_of_tree (C:=cx L_colc P_wiw) (d:=60) sty_t (cxg (L_colc_ok hst) (P_wiw_ok hst)) hst ⟨Tryd.f107,_,Tryd.func107,rfl⟩ (by kernel_rfl) (by kernel_rfl) ?_
 intro us outs hs
 unfold sty_s at hs
 split at hs
 ·skip
  rename_i a u fk fn bk bn lk ln
  split at hs
  ·rename_i hc
   cases hs
   unfold sty_t
   refine s0 (.cons 7 _ (.cons 6 _ (.cons 5 _ (.cons 4 _ (.cons 3 _ (.cons 2 _ (.cons 1 _ (.cons 0 _ (.nil))))))))) rfl (by simp [Ev.ok,Ev.len]) ?_
   refine s1 (ev_andN hc.1 hc.2) rfl rfl rfl ?_
   refine s1 (ev_neq _ _ _) rfl rfl rfl ?_
   refine s4 rfl (fun g0=>?_) fun g0=>?_
   ·refine s7 [.int .i64 _] rfl ?_
    refine congrArg (fun z=>[U.int .i64 z]) ?_; symm; first|exact styl_a (by omega)|exact styl_b (by omega) (by assumption)|exact styl_c (by omega) (by assumption) (by assumption)|exact styl_d (by omega) (by assumption) (by assumption)|exact styl_0 (by omega) (by assumption) (by assumption) (by assumption)
   refine s1 (ev_lss _ _ _) rfl rfl rfl ?_
   refine s4 rfl (fun g1=>?_) fun g1=>?_
   ·refine s7 [.int .i64 _] rfl ?_
    refine congrArg (fun z=>[U.int .i64 z]) ?_; symm; first|exact styl_a (by omega)|exact styl_b (by omega) (by assumption)|exact styl_c (by omega) (by assumption) (by assumption)|exact styl_d (by omega) (by assumption) (by assumption)|exact styl_0 (by omega) (by assumption) (by assumption) (by assumption)
   refine s1 (ev_gtr _ _ _) rfl rfl rfl ?_
   refine s4 rfl (fun g2=>?_) fun g2=>?_
   ·refine s7 [.int .i64 _] rfl ?_
    refine congrArg (fun z=>[U.int .i64 z]) ?_; symm; first|exact styl_a (by omega)|exact styl_b (by omega) (by assumption)|exact styl_c (by omega) (by assumption) (by assumption)|exact styl_d (by omega) (by assumption) (by assumption)|exact styl_0 (by omega) (by assumption) (by assumption) (by assumption)
   refine s31 (colc_s_e _ _) rfl ?_
   refine s1 (ev_neq _ _ _) rfl rfl rfl ?_
   refine s4 rfl (fun g3=>?_) fun g3=>?_
   ·refine s7 [.int .i64 _] rfl ?_
    refine congrArg (fun z=>[U.int .i64 z]) ?_; symm; first|exact styl_a (by omega)|exact styl_b (by omega) (by assumption)|exact styl_c (by omega) (by assumption) (by assumption)|exact styl_d (by omega) (by assumption) (by assumption)|exact styl_0 (by omega) (by assumption) (by assumption) (by assumption)
   refine s31 (colc_s_e _ _) rfl ?_
   refine s1 (ev_neq _ _ _) rfl rfl rfl ?_
   refine s4 rfl (fun g4=>?_) fun g4=>?_
   ·refine s7 [.int .i64 _] rfl ?_
    refine congrArg (fun z=>[U.int .i64 z]) ?_; symm; first|exact styl_a (by omega)|exact styl_b (by omega) (by assumption)|exact styl_c (by omega) (by assumption) (by assumption)|exact styl_d (by omega) (by assumption) (by assumption)|exact styl_0 (by omega) (by assumption) (by assumption) (by assumption)
   refine s31 (colc_s_e _ _) rfl ?_
   refine s1 (ev_neq _ _ _) rfl rfl rfl ?_
   refine s4 rfl (fun g5=>?_) fun g5=>?_
   ·refine s7 [.int .i64 _] rfl ?_
    refine congrArg (fun z=>[U.int .i64 z]) ?_; symm; first|exact styl_a (by omega)|exact styl_b (by omega) (by assumption)|exact styl_c (by omega) (by assumption) (by assumption)|exact styl_d (by omega) (by assumption) (by assumption)|exact styl_0 (by omega) (by assumption) (by assumption) (by assumption)
   refine s7 [.int .i64 _] rfl ?_
   refine congrArg (fun z=>[U.int .i64 z]) ?_; symm; first|exact styl_a (by omega)|exact styl_b (by omega) (by assumption)|exact styl_c (by omega) (by assumption) (by assumption)|exact styl_d (by omega) (by assumption) (by assumption)|exact styl_0 (by omega) (by assumption) (by assumption) (by assumption)
  ·cases hs
 ·cases hs
noncomputable def L_sty:List (FuncId × FnC):=(107,conF Tryd.prog [.a [3,3,3,3,3,3,3,3]] sty_s [.s 3])::L_colc
theorem L_sty_ok {G:Nat→Option Obj} (hst:StartOk Tryd.prog G gl H0 n0):ConsOk Tryd.prog G gl L_sty:=.cons (sty_c hst) (L_colc_ok hst)
end Go.Proofs.YtdkdbjgkedahfaaDoor

namespace Go.Proofs.YtdkdbjgkedahfaaDoor
set_option linter.all false
open Go Go.Sx
set_option maxRecDepth 100000
set_option linter.unusedVariables false
set_option linter.unusedSimpArgs false
def fitP (b m0 m1 wd:Int):Prop:=(b=0∧m0=0∧m1=0∧wd=2)∨(0≤wd∧wd≤1∧widS b=wd+1∧(m0=0∨widS m0=0)∧(m1=0∨(m0≠0∧widS m1=0)))
instance (b m0 m1 wd:Int):Decidable (fitP b m0 m1 wd):=by unfold fitP; infer_instance
def celS (b m0 m1 wd at_ un fk fn bk bn lk ln:Int):Int:=if fitP b m0 m1 wd∧styS at_ un fk fn bk bn lk ln=0 then 0 else 221
theorem lcel_ok {b m0 m1 wd at_ un fk fn bk bn lk ln:Int} (h:fitP b m0 m1 wd) (h2:styS at_ un fk fn bk bn lk ln=0):[U.int .i64 0]=[U.int .i64 (celS b m0 m1 wd at_ un fk fn bk bn lk ln)]:=by unfold celS; rw [if_pos ⟨h,h2⟩]
theorem lcel_f {b m0 m1 wd at_ un fk fn bk bn lk ln:Int} (h:¬fitP b m0 m1 wd):[U.int .i64 221]=[U.int .i64 (celS b m0 m1 wd at_ un fk fn bk bn lk ln)]:=by unfold celS; rw [if_neg (fun h2=>h h2.1)]
theorem lcel_s {b m0 m1 wd at_ un fk fn bk bn lk ln:Int} (h:styS at_ un fk fn bk bn lk ln≠0):[U.int .i64 221]=[U.int .i64 (celS b m0 m1 wd at_ un fk fn bk bn lk ln)]:=by unfold celS; rw [if_neg (fun h2=>h h2.2)]
noncomputable def U_cel:List (FuncId × FnC):=(105,conF Tryd.prog [.s 3] wid_s [.s 3])::(107,conF Tryd.prog [.a [3,3,3,3,3,3,3,3]] sty_s [.s 3])::L0
theorem U_cel_ok {G:Nat→Option Obj} (hst:StartOk Tryd.prog G gl H0 n0):ConsOk Tryd.prog G gl U_cel:=(.cons (wid_c hst) (.cons (sty_c hst) .nil))
def cel_s:List U→Option (Nat × List U)
 | [.int .i64 b,.int .i64 m0,.int .i64 m1,.int .i64 wd,.int .i64 at_,.int .i64 un,.int .i64 fk,.int .i64 fn,.int .i64 bk,.int .i64 bn,.int .i64 lk,.int .i64 ln]=>if (-9223372036854775808≤at_∧at_≤9223372036854775807) then some (0,[.int .i64 (celS b m0 m1 wd at_ un fk fn bk bn lk ln)]) else none
 | _=>none
theorem cel_s_e (b:Int) (m0:Int) (m1:Int) (wd:Int) (at_:Int) (un:Int) (fk:Int) (fn:Int) (bk:Int) (bn:Int) (lk:Int) (ln:Int) (hc:(-9223372036854775808≤at_∧at_≤9223372036854775807)):cel_s [.int .i64 b,.int .i64 m0,.int .i64 m1,.int .i64 wd,.int .i64 at_,.int .i64 un,.int .i64 fk,.int .i64 fn,.int .i64 bk,.int .i64 bn,.int .i64 lk,.int .i64 ln]=some (0,[.int .i64 (celS b m0 m1 wd at_ un fk fn bk bn lk ln)]):=if_pos hc
def cel_t:Tr:=.lt 8 (.eqs) [h 0 3,.int .i64 (0),h 1 3,.int .i64 (0),h 2 3,.int .i64 (0),h 3 3,.int .i64 (2),h 4 3,h 4 3,h 5 3,h 5 3,h 6 3,h 6 3,h 7 3,h 7 3,h 8 3,h 8 3,h 9 3,h 9 3,h 10 3,h 10 3,h 11 3,h 11 3] <| .br 12 (.fn sty_s [h 4 3,h 5 3,h 6 3,h 7 3,h 8 3,h 9 3,h 10 3,h 11 3] 1 <| .lt 8 (.bin .neq) [h 13 3,.int .i64 (0)] <| .br 14 (.ret [.int .i64 (221)]) (.ret [.int .i64 (0)])) (.lt 8 (.bin .geq) [h 3 3,.int .i64 (0)] <| .br 13 (.lt 8 (.bin .leq) [h 3 3,.int .i64 (1)] <| .br 14 (.fn wid_s [h 0 3] 1 <| .lt 3 (.bin .add) [h 3 3,.int .i64 (1)] <| .lt 8 (.bin .eql) [h 15 3,h 16 3] <| .br 17 (.lt 8 (.bin .neq) [h 1 3,.int .i64 (0)] <| .br 18 (.fn wid_s [h 1 3] 1 <| .lt 8 (.bin .neq) [h 19 3,.int .i64 (0)] <| .br 20 (.ret [.int .i64 (221)]) (.lt 8 (.bin .eql) [h 1 3,.int .i64 (0)] <| .lt 8 (.bin .neq) [h 2 3,.int .i64 (0)] <| .br 22 (.br 21 (.ret [.int .i64 (221)]) (.fn wid_s [h 2 3] 1 <| .lt 8 (.bin .neq) [h 23 3,.int .i64 (0)] <| .br 24 (.ret [.int .i64 (221)]) (.lt 8 (.bin .eql) [h 2 3,.int .i64 (0)] <| .fn sty_s [h 4 3,h 5 3,h 6 3,h 7 3,h 8 3,h 9 3,h 10 3,h 11 3] 1 <| .lt 8 (.bin .neq) [h 26 3,.int .i64 (0)] <| .br 27 (.ret [.int .i64 (221)]) (.ret [.int .i64 (0)])))) (.br 21 (.fn sty_s [h 4 3,h 5 3,h 6 3,h 7 3,h 8 3,h 9 3,h 10 3,h 11 3] 1 <| .lt 8 (.bin .neq) [h 23 3,.int .i64 (0)] <| .br 24 (.ret [.int .i64 (221)]) (.ret [.int .i64 (0)])) (.lt 8 (.bin .eql) [h 2 3,.int .i64 (0)] <| .fn sty_s [h 4 3,h 5 3,h 6 3,h 7 3,h 8 3,h 9 3,h 10 3,h 11 3] 1 <| .lt 8 (.bin .neq) [h 24 3,.int .i64 (0)] <| .br 25 (.ret [.int .i64 (221)]) (.ret [.int .i64 (0)]))))) (.lt 8 (.bin .eql) [h 1 3,.int .i64 (0)] <| .lt 8 (.bin .neq) [h 2 3,.int .i64 (0)] <| .br 20 (.br 19 (.ret [.int .i64 (221)]) (.fn wid_s [h 2 3] 1 <| .lt 8 (.bin .neq) [h 21 3,.int .i64 (0)] <| .br 22 (.ret [.int .i64 (221)]) (.lt 8 (.bin .eql) [h 2 3,.int .i64 (0)] <| .fn sty_s [h 4 3,h 5 3,h 6 3,h 7 3,h 8 3,h 9 3,h 10 3,h 11 3] 1 <| .lt 8 (.bin .neq) [h 24 3,.int .i64 (0)] <| .br 25 (.ret [.int .i64 (221)]) (.ret [.int .i64 (0)])))) (.br 19 (.fn sty_s [h 4 3,h 5 3,h 6 3,h 7 3,h 8 3,h 9 3,h 10 3,h 11 3] 1 <| .lt 8 (.bin .neq) [h 21 3,.int .i64 (0)] <| .br 22 (.ret [.int .i64 (221)]) (.ret [.int .i64 (0)])) (.lt 8 (.bin .eql) [h 2 3,.int .i64 (0)] <| .fn sty_s [h 4 3,h 5 3,h 6 3,h 7 3,h 8 3,h 9 3,h 10 3,h 11 3] 1 <| .lt 8 (.bin .neq) [h 22 3,.int .i64 (0)] <| .br 23 (.ret [.int .i64 (221)]) (.ret [.int .i64 (0)]))))) (.ret [.int .i64 (221)])) (.ret [.int .i64 (221)])) (.ret [.int .i64 (221)]))
theorem cel_c {G:Nat→Option Obj} (hst:StartOk Tryd.prog G gl H0 n0):ConOk Tryd.prog G 95 [.a [3,3,3,3,3,3,3,3,3,3,3,3]] cel_s [.s 3]:=by
 refine con_of_tree (C:=cx U_cel P_wiw) (d:=60) cel_t (cxg (U_cel_ok hst) (P_wiw_ok hst)) hst ⟨Tryd.f95,_,Tryd.func95,rfl⟩ (by kernel_rfl) (by kernel_rfl) ?_
 intro us outs hs
 unfold cel_s at hs
 split at hs
 ·skip
  rename_i b m0 m1 wd at_ un fk fn bk bn lk ln
  split at hs
  ·rename_i hc
   cases hs
   unfold cel_t
   refine s0 (.cons 11 _ (.cons 10 _ (.cons 9 _ (.cons 8 _ (.cons 7 _ (.cons 6 _ (.cons 5 _ (.cons 4 _ (.cons 3 _ (.cons 2 _ (.cons 1 _ (.cons 0 _ (.nil))))))))))))) rfl (by simp [Ev.ok,Ev.len]) ?_
   refine s1 rfl rfl rfl rfl ?_
   first|refine s4 rfl (fun g0=>?_) (fun g0=>?_)|refine s4B rfl (fun g0=>?_) (fun g0=>?_)
   ·have g0:(b=0∧m0=0∧m1=0∧wd=2):=by simpa using g0
    refine s31 (sty_s_e _ _ _ _ _ _ _ _ (by omega)) rfl ?_
    refine s1 (ev_neq _ _ _) rfl rfl rfl ?_
    refine s4 rfl (fun g1=>?_) fun g1=>?_
    ·refine s7 [.int .i64 _] rfl ?_
     first|exact lcel_ok (by unfold fitP; omega) (by omega)|exact lcel_f (by unfold fitP; omega)|exact lcel_s (by omega)
    refine s7 [.int .i64 _] rfl ?_
    first|exact lcel_ok (by unfold fitP; omega) (by omega)|exact lcel_f (by unfold fitP; omega)|exact lcel_s (by omega)
   have g0:¬(b=0∧m0=0∧m1=0∧wd=2):=by simpa using g0
   refine s1 (ev_geq _ _ _) rfl rfl rfl ?_
   refine s5 rfl (fun g1=>?_) fun g1=>?_
   ·refine s7 [.int .i64 _] rfl ?_
    first|exact lcel_ok (by unfold fitP; omega) (by omega)|exact lcel_f (by unfold fitP; omega)|exact lcel_s (by omega)
   refine s1 (ev_leq _ _ _) rfl rfl rfl ?_
   refine s5 rfl (fun g2=>?_) fun g2=>?_
   ·refine s7 [.int .i64 _] rfl ?_
    first|exact lcel_ok (by unfold fitP; omega) (by omega)|exact lcel_f (by unfold fitP; omega)|exact lcel_s (by omega)
   refine s31 (wid_s_e _) rfl ?_
   first|refine s1 (ev_addW (wrap64 (by omega) (by omega))) rfl rfl rfl ?_|refine s1 (ev_add _ _ _) rfl rfl rfl ?_
   refine s1 (ev_eql _ _ _) rfl rfl rfl ?_
   refine s5 rfl (fun g3=>?_) fun g3=>?_
   ·refine s7 [.int .i64 _] rfl ?_
    first|exact lcel_ok (by unfold fitP; omega) (by omega)|exact lcel_f (by unfold fitP; omega)|exact lcel_s (by omega)
   refine s1 (ev_neq _ _ _) rfl rfl rfl ?_
   refine s4 rfl (fun g4=>?_) fun g4=>?_
   ·refine s31 (wid_s_e _) rfl ?_
    refine s1 (ev_neq _ _ _) rfl rfl rfl ?_
    refine s4 rfl (fun g5=>?_) fun g5=>?_
    ·refine s7 [.int .i64 _] rfl ?_
     first|exact lcel_ok (by unfold fitP; omega) (by omega)|exact lcel_f (by unfold fitP; omega)|exact lcel_s (by omega)
    refine s1 (ev_eql _ _ _) rfl rfl rfl ?_
    refine s1 (ev_neq _ _ _) rfl rfl rfl ?_
    refine s4 rfl (fun g6=>?_) fun g6=>?_
    ·refine s4 rfl (fun g7=>?_) fun g7=>?_
     ·refine s7 [.int .i64 _] rfl ?_
      first|exact lcel_ok (by unfold fitP; omega) (by omega)|exact lcel_f (by unfold fitP; omega)|exact lcel_s (by omega)
     refine s31 (wid_s_e _) rfl ?_
     refine s1 (ev_neq _ _ _) rfl rfl rfl ?_
     refine s4 rfl (fun g8=>?_) fun g8=>?_
     ·refine s7 [.int .i64 _] rfl ?_
      first|exact lcel_ok (by unfold fitP; omega) (by omega)|exact lcel_f (by unfold fitP; omega)|exact lcel_s (by omega)
     refine s1 (ev_eql _ _ _) rfl rfl rfl ?_
     refine s31 (sty_s_e _ _ _ _ _ _ _ _ (by omega)) rfl ?_
     refine s1 (ev_neq _ _ _) rfl rfl rfl ?_
     refine s4 rfl (fun g9=>?_) fun g9=>?_
     ·refine s7 [.int .i64 _] rfl ?_
      first|exact lcel_ok (by unfold fitP; omega) (by omega)|exact lcel_f (by unfold fitP; omega)|exact lcel_s (by omega)
     refine s7 [.int .i64 _] rfl ?_
     first|exact lcel_ok (by unfold fitP; omega) (by omega)|exact lcel_f (by unfold fitP; omega)|exact lcel_s (by omega)
    refine s4 rfl (fun g7=>?_) fun g7=>?_
    ·refine s31 (sty_s_e _ _ _ _ _ _ _ _ (by omega)) rfl ?_
     refine s1 (ev_neq _ _ _) rfl rfl rfl ?_
     refine s4 rfl (fun g8=>?_) fun g8=>?_
     ·refine s7 [.int .i64 _] rfl ?_
      first|exact lcel_ok (by unfold fitP; omega) (by omega)|exact lcel_f (by unfold fitP; omega)|exact lcel_s (by omega)
     refine s7 [.int .i64 _] rfl ?_
     first|exact lcel_ok (by unfold fitP; omega) (by omega)|exact lcel_f (by unfold fitP; omega)|exact lcel_s (by omega)
    refine s1 (ev_eql _ _ _) rfl rfl rfl ?_
    refine s31 (sty_s_e _ _ _ _ _ _ _ _ (by omega)) rfl ?_
    refine s1 (ev_neq _ _ _) rfl rfl rfl ?_
    refine s4 rfl (fun g8=>?_) fun g8=>?_
    ·refine s7 [.int .i64 _] rfl ?_
     first|exact lcel_ok (by unfold fitP; omega) (by omega)|exact lcel_f (by unfold fitP; omega)|exact lcel_s (by omega)
    refine s7 [.int .i64 _] rfl ?_
    first|exact lcel_ok (by unfold fitP; omega) (by omega)|exact lcel_f (by unfold fitP; omega)|exact lcel_s (by omega)
   refine s1 (ev_eql _ _ _) rfl rfl rfl ?_
   refine s1 (ev_neq _ _ _) rfl rfl rfl ?_
   refine s4 rfl (fun g5=>?_) fun g5=>?_
   ·refine s4 rfl (fun g6=>?_) fun g6=>?_
    ·refine s7 [.int .i64 _] rfl ?_
     first|exact lcel_ok (by unfold fitP; omega) (by omega)|exact lcel_f (by unfold fitP; omega)|exact lcel_s (by omega)
    refine s31 (wid_s_e _) rfl ?_
    refine s1 (ev_neq _ _ _) rfl rfl rfl ?_
    refine s4 rfl (fun g7=>?_) fun g7=>?_
    ·refine s7 [.int .i64 _] rfl ?_
     first|exact lcel_ok (by unfold fitP; omega) (by omega)|exact lcel_f (by unfold fitP; omega)|exact lcel_s (by omega)
    refine s1 (ev_eql _ _ _) rfl rfl rfl ?_
    refine s31 (sty_s_e _ _ _ _ _ _ _ _ (by omega)) rfl ?_
    refine s1 (ev_neq _ _ _) rfl rfl rfl ?_
    refine s4 rfl (fun g8=>?_) fun g8=>?_
    ·refine s7 [.int .i64 _] rfl ?_
     first|exact lcel_ok (by unfold fitP; omega) (by omega)|exact lcel_f (by unfold fitP; omega)|exact lcel_s (by omega)
    refine s7 [.int .i64 _] rfl ?_
    first|exact lcel_ok (by unfold fitP; omega) (by omega)|exact lcel_f (by unfold fitP; omega)|exact lcel_s (by omega)
   refine s4 rfl (fun g6=>?_) fun g6=>?_
   ·refine s31 (sty_s_e _ _ _ _ _ _ _ _ (by omega)) rfl ?_
    refine s1 (ev_neq _ _ _) rfl rfl rfl ?_
    refine s4 rfl (fun g7=>?_) fun g7=>?_
    ·refine s7 [.int .i64 _] rfl ?_
     first|exact lcel_ok (by unfold fitP; omega) (by omega)|exact lcel_f (by unfold fitP; omega)|exact lcel_s (by omega)
    refine s7 [.int .i64 _] rfl ?_
    first|exact lcel_ok (by unfold fitP; omega) (by omega)|exact lcel_f (by unfold fitP; omega)|exact lcel_s (by omega)
   refine s1 (ev_eql _ _ _) rfl rfl rfl ?_
   refine s31 (sty_s_e _ _ _ _ _ _ _ _ (by omega)) rfl ?_
   refine s1 (ev_neq _ _ _) rfl rfl rfl ?_
   refine s4 rfl (fun g7=>?_) fun g7=>?_
   ·refine s7 [.int .i64 _] rfl ?_
    first|exact lcel_ok (by unfold fitP; omega) (by omega)|exact lcel_f (by unfold fitP; omega)|exact lcel_s (by omega)
   refine s7 [.int .i64 _] rfl ?_
   first|exact lcel_ok (by unfold fitP; omega) (by omega)|exact lcel_f (by unfold fitP; omega)|exact lcel_s (by omega)
  ·cases hs
 ·cases hs
noncomputable def L_cel:List (FuncId × FnC):=(95,conF Tryd.prog [.a [3,3,3,3,3,3,3,3,3,3,3,3]] cel_s [.s 3])::L_sty
theorem L_cel_ok {G:Nat→Option Obj} (hst:StartOk Tryd.prog G gl H0 n0):ConsOk Tryd.prog G gl L_cel:=.cons (cel_c hst) (L_sty_ok hst)
end Go.Proofs.YtdkdbjgkedahfaaDoor

namespace Go.Proofs.YtdkdbjgkedahfaaDoor
set_option linter.all false
open Go Go.Sx
set_option maxRecDepth 100000
set_option linter.unusedVariables false
set_option linter.unusedSimpArgs false
theorem notB {b:Bool} (h:(!b)=true):b=false:=by cases b <;> first|rfl|cases h
abbrev Cel:=Int × Int × Int × Int × Int × Int × Int × Int × Int × Int × Int × Int
def celC (c:Cel):Int:=celS (c.1) (c.2.1) (c.2.2.1) (c.2.2.2.1) (c.2.2.2.2.1) (c.2.2.2.2.2.1) (c.2.2.2.2.2.2.1) (c.2.2.2.2.2.2.2.1) (c.2.2.2.2.2.2.2.2.1) (c.2.2.2.2.2.2.2.2.2.1) (c.2.2.2.2.2.2.2.2.2.2.1) (c.2.2.2.2.2.2.2.2.2.2.2)
def wdC (c:Cel):Int:=c.2.2.2.1
def stEq (c l:Cel):Bool:=(c.2.2.2.2.1 == l.2.2.2.2.1 && (c.2.2.2.2.2.1 == l.2.2.2.2.2.1 && (c.2.2.2.2.2.2.1 == l.2.2.2.2.2.2.1 && (c.2.2.2.2.2.2.2.1 == l.2.2.2.2.2.2.2.1 && (c.2.2.2.2.2.2.2.2.1 == l.2.2.2.2.2.2.2.2.1 && (c.2.2.2.2.2.2.2.2.2.1 == l.2.2.2.2.2.2.2.2.2.1 && (c.2.2.2.2.2.2.2.2.2.2.1 == l.2.2.2.2.2.2.2.2.2.2.1 && (c.2.2.2.2.2.2.2.2.2.2.2 == l.2.2.2.2.2.2.2.2.2.2.2 && true))))))))
def aOk (c:Cel):Prop:=(-9223372036854775808≤c.2.2.2.2.1∧c.2.2.2.2.1≤9223372036854775807)
instance (c:Cel):Decidable (aOk c):=by unfold aOk; infer_instance
def badC (c l:Cel):Prop:=celC c≠0∨decide (wdC l=1)≠decide (wdC c=2)∨(wdC c=2∧stEq c l=false)
instance (c l:Cel):Decidable (badC c l):=by unfold badC; infer_instance
def rowGo:List Cel→Cel→Option Cel
 | [],l=>some l
 | c::r,l=>if badC c l then none else rowGo r c
def rowE (r:List Cel) (l:Cel):Option Unit:=match rowGo r l with
 | some _=>none
 | none=>some ()
def rowV (r:List Cel) (l:Cel):Cel:=(rowGo r l).getD l
def celU (c:Cel):List U:=[.int .i64 (c.1),.int .i64 (c.2.1),.int .i64 (c.2.2.1),.int .i64 (c.2.2.2.1),.int .i64 (c.2.2.2.2.1),.int .i64 (c.2.2.2.2.2.1),.int .i64 (c.2.2.2.2.2.2.1),.int .i64 (c.2.2.2.2.2.2.2.1),.int .i64 (c.2.2.2.2.2.2.2.2.1),.int .i64 (c.2.2.2.2.2.2.2.2.2.1),.int .i64 (c.2.2.2.2.2.2.2.2.2.2.1),.int .i64 (c.2.2.2.2.2.2.2.2.2.2.2)]
def rowW (r:List Cel) (l:Cel):Option (Nat × List U):=way01 (rowE r l) (celU (rowV r l)) (fun _=>[.int .i64 220])
theorem rowW_nil (l:Cel):rowW [] l=some (0,celU l):=rfl
theorem rowW_bad {c l:Cel} {r:List Cel} (h:badC c l):rowW (c::r) l=some (1,[.int .i64 220]):=by
 unfold rowW rowE rowGo; rw [if_pos h]; rfl
theorem rowW_go {c l:Cel} {r:List Cel} (h:¬badC c l):rowW (c::r) l=rowW r c:=by
 have e:rowGo (c::r) l=rowGo r c:=by rw [rowGo,if_neg h]
 unfold rowW rowE rowV
 rw [e]
 cases rowGo r c <;> rfl
noncomputable def U_rwl:List (FuncId × FnC):=(95,conF Tryd.prog [.a [3,3,3,3,3,3,3,3,3,3,3,3]] cel_s [.s 3])::L0
theorem U_rwl_ok {G:Nat→Option Obj} (hst:StartOk Tryd.prog G gl H0 n0):ConsOk Tryd.prog G gl U_rwl:=(.cons (cel_c hst) .nil)
def rwl_l:List U→Option (Nat × List U)
 | [u_s,.int .i64 n,.int .i64 i,.int .i64 l0,.int .i64 l1,.int .i64 l2,.int .i64 l3,.int .i64 l4,.int .i64 l5,.int .i64 l6,.int .i64 l7,.int .i64 l8,.int .i64 l9,.int .i64 l10,.int .i64 l11]=>(decS rCl u_s).bind fun s=>if n=((el s).length:Int)∧0≤i∧i≤n∧n≤1000∧∀ c ∈ el s,aOk c then rowW ((el s).drop i.toNat) (l0,l1,l2,l3,l4,l5,l6,l7,l8,l9,l10,l11) else none
 | _=>none
theorem rwl_l_e (s:(Option (List (Int × Int × Int × Int × Int × Int × Int × Int × Int × Int × Int × Int)))) (n:Int) (i:Int) (l0:Int) (l1:Int) (l2:Int) (l3:Int) (l4:Int) (l5:Int) (l6:Int) (l7:Int) (l8:Int) (l9:Int) (l10:Int) (l11:Int) (hc:n=((el s).length:Int)∧0≤i∧i≤n∧n≤1000∧∀ c ∈ el s,aOk c):rwl_l [encS rCl s,.int .i64 n,.int .i64 i,.int .i64 l0,.int .i64 l1,.int .i64 l2,.int .i64 l3,.int .i64 l4,.int .i64 l5,.int .i64 l6,.int .i64 l7,.int .i64 l8,.int .i64 l9,.int .i64 l10,.int .i64 l11]=rowW ((el s).drop i.toNat) (l0,l1,l2,l3,l4,l5,l6,l7,l8,l9,l10,l11):=by
 simp only [rwl_l,decS_enc,Option.bind_some]
 exact if_pos hc
def rwl_D:LoopD:=⟨[(4,.pointer (some ⟨5,0,none⟩)),(17,dat 6 0 22),(18,h 1 3),(19,h 2 3)],[(5,.cells 60 [h 3 3,h 4 3,h 5 3,h 6 3,h 7 3,h 8 3,h 9 3,h 10 3,h 11 3,h 12 3,h 13 3,h 14 3]),(6,.frz)],15,[⟨.exit 0,[(4,.pointer (some ⟨5,0,none⟩))],[(5,.cells 60 [h 0 3,h 1 3,h 2 3,h 3 3,h 4 3,h 5 3,h 6 3,h 7 3,h 8 3,h 9 3,h 10 3,h 11 3])],12⟩,⟨.ret,[(2,h 0 3)],[],1⟩]⟩
noncomputable def rwl_B:Code:=(Tryd.f78.body).getD .skip
noncomputable def rwl_x:Code:=match codeAt [true,true,true,false,true,false] rwl_B with|some (.loop x)=>x|_=>.skip
theorem rwl_b:Tryd.f78.body=some rwl_B:=rfl
theorem rwl_p:codeAt [true,true,true,false,true,false] rwl_B=some (.loop rwl_x):=by kernel_rfl
def rwl_t:Tr:=.lt 8 (.bin .lss) [h 2 3,h 1 3] <| .br 15 (.lt 8 (.inbs 12) [h 2 3,h 0 22] <| .br 16 (.lt 3 (.get 12 0) [h 0 22,h 2 3] <| .lt 3 (.get 12 1) [h 0 22,h 2 3] <| .lt 3 (.get 12 2) [h 0 22,h 2 3] <| .lt 3 (.get 12 3) [h 0 22,h 2 3] <| .lt 3 (.get 12 4) [h 0 22,h 2 3] <| .lt 3 (.get 12 5) [h 0 22,h 2 3] <| .lt 3 (.get 12 6) [h 0 22,h 2 3] <| .lt 3 (.get 12 7) [h 0 22,h 2 3] <| .lt 3 (.get 12 8) [h 0 22,h 2 3] <| .lt 3 (.get 12 9) [h 0 22,h 2 3] <| .lt 3 (.get 12 10) [h 0 22,h 2 3] <| .lt 3 (.get 12 11) [h 0 22,h 2 3] <| .fn cel_s [h 17 3,h 18 3,h 19 3,h 20 3,h 21 3,h 22 3,h 23 3,h 24 3,h 25 3,h 26 3,h 27 3,h 28 3] 1 <| .lt 8 (.bin .neq) [h 29 3,.int .i64 (0)] <| .br 30 (.ret [.int .i64 (1),.int .i64 (220)]) (.lt 8 (.bin .eql) [h 6 3,.int .i64 (1)] <| .lt 8 (.bin .eql) [h 20 3,.int .i64 (2)] <| .lt 8 (.bin .neq) [h 31 8,h 32 8] <| .br 33 (.ret [.int .i64 (1),.int .i64 (220)]) (.lt 8 (.bin .eql) [h 20 3,.int .i64 (2)] <| .br 34 (.lt 8 (.eqs) [h 21 3,h 7 3,h 22 3,h 8 3,h 23 3,h 9 3,h 24 3,h 10 3,h 25 3,h 11 3,h 26 3,h 12 3,h 27 3,h 13 3,h 28 3,h 14 3] <| .lt 8 (.un .not) [h 35 8] <| .br 36 (.ret [.int .i64 (1),.int .i64 (220)]) (.lt 3 (.bin .add) [h 2 3,.int .i64 (1)] <| .ret [.int .i64 (-1),h 0 22,h 1 3,h 37 3,h 17 3,h 18 3,h 19 3,h 20 3,h 21 3,h 22 3,h 23 3,h 24 3,h 25 3,h 26 3,h 27 3,h 28 3])) (.lt 3 (.bin .add) [h 2 3,.int .i64 (1)] <| .ret [.int .i64 (-1),h 0 22,h 1 3,h 35 3,h 17 3,h 18 3,h 19 3,h 20 3,h 21 3,h 22 3,h 23 3,h 24 3,h 25 3,h 26 3,h 27 3,h 28 3])))) (.no)) (.ret [.int .i64 (0),h 3 3,h 4 3,h 5 3,h 6 3,h 7 3,h 8 3,h 9 3,h 10 3,h 11 3,h 12 3,h 13 3,h 14 3])
def rwl_m:List U→Nat
 | [u_s,.int .i64 n,.int .i64 i,.int .i64 l0,.int .i64 l1,.int .i64 l2,.int .i64 l3,.int .i64 l4,.int .i64 l5,.int .i64 l6,.int .i64 l7,.int .i64 l8,.int .i64 l9,.int .i64 l10,.int .i64 l11]=>(match decS rCl u_s with|some s=>(n - i).toNat|none=>0)
 | _=>0
theorem rwl_me (s:(Option (List (Int × Int × Int × Int × Int × Int × Int × Int × Int × Int × Int × Int)))) (n:Int) (i:Int) (l0:Int) (l1:Int) (l2:Int) (l3:Int) (l4:Int) (l5:Int) (l6:Int) (l7:Int) (l8:Int) (l9:Int) (l10:Int) (l11:Int):rwl_m [encS rCl s,.int .i64 n,.int .i64 i,.int .i64 l0,.int .i64 l1,.int .i64 l2,.int .i64 l3,.int .i64 l4,.int .i64 l5,.int .i64 l6,.int .i64 l7,.int .i64 l8,.int .i64 l9,.int .i64 l10,.int .i64 l11]=(n - i).toNat:=by
 simp only [rwl_m,decS_enc]
theorem rwl_c {G:Nat→Option Obj} (hst:StartOk Tryd.prog G gl H0 n0):∀ (E:Nat→U) (base:Nat),@CodeOk ⟨E,G⟩ Tryd.prog base gl Tryd.f78.ntmps rwl_x (loopF Tryd.prog gl n0 7 rwl_D rwl_l):=by
 refine loop_ok (C:=cx U_rwl P_wiw) (dep:=60) (f:=78) (n0:=n0) (nB:=7) (H0:=H0) rwl_m rwl_t (cxg (U_rwl_ok hst) (P_wiw_ok hst)) hst Tryd.func78 rwl_b rwl_p (by kernel_rfl) (by kernel_rfl) (by kernel_rfl) ?_
 intro us d outs hs
 have hs0:=hs
 unfold rwl_l at hs
 split at hs
 ·skip
  rename_i u_s n i l0 l1 l2 l3 l4 l5 l6 l7 l8 l9 l10 l11
  have hq_s:=Option.bind_eq_some_iff.1 hs
  clear hs
  obtain ⟨s,hd_s,hs⟩:=hq_s
  replace hd_s:=decS_eq hd_s
  subst hd_s
  split at hs
  ·rename_i hc
   clear hs hs0
   refine ⟨rfl,?_⟩
   unfold rwl_t
   refine s0 (.cons 14 _ (.cons 13 _ (.cons 12 _ (.cons 11 _ (.cons 10 _ (.cons 9 _ (.cons 8 _ (.cons 7 _ (.cons 6 _ (.cons 5 _ (.cons 4 _ (.cons 3 _ (.cons 2 _ (.cons 1 _ (.cons 0 _ (.nil)))))))))))))))) rfl (by simp [Ev.ok,Ev.len]) ?_
   refine s1 (ev_lss _ _ _) rfl rfl rfl ?_
   refine s5 rfl (fun g0=>?_) fun g0=>?_
   ·refine s7 [.int .i64 _,.int .i64 _,.int .i64 _,.int .i64 _,.int .i64 _,.int .i64 _,.int .i64 _,.int .i64 _,.int .i64 _,.int .i64 _,.int .i64 _,.int .i64 _,.int .i64 _] rfl ?_
    refine leaf_exit (d:=0) ?_
    rw [rwl_l_e s n i l0 l1 l2 l3 l4 l5 l6 l7 l8 l9 l10 l11 hc,drop_end (el s) (by omega)]; exact rowW_nil (l0,l1,l2,l3,l4,l5,l6,l7,l8,l9,l10,l11)
   refine s1 (ev_inbsS rfl) rfl rfl rfl ?_
   refine s5 rfl (fun g1=>?_) fun g1=>?_
   ·refine s8 ?_
    first|omega|(trace_state; done)
   refine s1 (u:=.int .i64 _) (ev_getS rfl (by omega) (by omega) rfl) rfl rfl rfl ?_
   refine s1 (u:=.int .i64 _) (ev_getS rfl (by omega) (by omega) rfl) rfl rfl rfl ?_
   refine s1 (u:=.int .i64 _) (ev_getS rfl (by omega) (by omega) rfl) rfl rfl rfl ?_
   refine s1 (u:=.int .i64 _) (ev_getS rfl (by omega) (by omega) rfl) rfl rfl rfl ?_
   refine s1 (u:=.int .i64 _) (ev_getS rfl (by omega) (by omega) rfl) rfl rfl rfl ?_
   refine s1 (u:=.int .i64 _) (ev_getS rfl (by omega) (by omega) rfl) rfl rfl rfl ?_
   refine s1 (u:=.int .i64 _) (ev_getS rfl (by omega) (by omega) rfl) rfl rfl rfl ?_
   refine s1 (u:=.int .i64 _) (ev_getS rfl (by omega) (by omega) rfl) rfl rfl rfl ?_
   refine s1 (u:=.int .i64 _) (ev_getS rfl (by omega) (by omega) rfl) rfl rfl rfl ?_
   refine s1 (u:=.int .i64 _) (ev_getS rfl (by omega) (by omega) rfl) rfl rfl rfl ?_
   refine s1 (u:=.int .i64 _) (ev_getS rfl (by omega) (by omega) rfl) rfl rfl rfl ?_
   refine s1 (u:=.int .i64 _) (ev_getS rfl (by omega) (by omega) rfl) rfl rfl rfl ?_
   refine s31 (cel_s_e _ _ _ _ _ _ _ _ _ _ _ _ (all_get hc.2.2.2.2 (by omega) (by omega))) rfl ?_
   refine s1 (ev_neq _ _ _) rfl rfl rfl ?_
   refine s4 rfl (fun g2=>?_) fun g2=>?_
   ·refine s7 [.int .i64 _,.int .i64 _] rfl ?_
    refine leaf_exit (d:=1) ?_
    rw [rwl_l_e s n i l0 l1 l2 l3 l4 l5 l6 l7 l8 l9 l10 l11 hc,drop_step (el s) (i:=i) (by omega) (by omega)]
    refine rowW_bad ?_
    first|exact .inl (by assumption)|exact .inr (.inl (by assumption))|exact .inr (.inr ⟨by assumption,notB (by assumption)⟩)|(trace_state; done)
   refine s1 (ev_eql _ _ _) rfl rfl rfl ?_
   refine s1 (ev_eql _ _ _) rfl rfl rfl ?_
   refine s1 (ev_bne _ _) rfl rfl rfl ?_
   refine s4 rfl (fun g3=>?_) fun g3=>?_
   ·refine s7 [.int .i64 _,.int .i64 _] rfl ?_
    refine leaf_exit (d:=1) ?_
    rw [rwl_l_e s n i l0 l1 l2 l3 l4 l5 l6 l7 l8 l9 l10 l11 hc,drop_step (el s) (i:=i) (by omega) (by omega)]
    refine rowW_bad ?_
    first|exact .inl (by assumption)|exact .inr (.inl (by assumption))|exact .inr (.inr ⟨by assumption,notB (by assumption)⟩)|(trace_state; done)
   refine s1 (ev_eql _ _ _) rfl rfl rfl ?_
   refine s4 rfl (fun g4=>?_) fun g4=>?_
   ·refine s1 rfl rfl rfl rfl ?_
    first|refine s1 (ev_notD _) rfl rfl rfl ?_|refine s1 (ev_not _) rfl rfl rfl ?_
    first|refine s4 rfl (fun g5=>?_) (fun g5=>?_)|refine s4B rfl (fun g5=>?_) (fun g5=>?_)
    ·refine s7 [.int .i64 _,.int .i64 _] rfl ?_
     refine leaf_exit (d:=1) ?_
     rw [rwl_l_e s n i l0 l1 l2 l3 l4 l5 l6 l7 l8 l9 l10 l11 hc,drop_step (el s) (i:=i) (by omega) (by omega)]
     refine rowW_bad ?_
     first|exact .inl (by assumption)|exact .inr (.inl (by assumption))|exact .inr (.inr ⟨by assumption,notB (by assumption)⟩)|(trace_state; done)
    first|refine s1 (ev_addW (wrap64 (by omega) (by omega))) rfl rfl rfl ?_|refine s1 (ev_add _ _ _) rfl rfl rfl ?_
    refine s7 [.int .i64 _,encS rCl _,.int .i64 _,.int .i64 _,.int .i64 _,.int .i64 _,.int .i64 _,.int .i64 _,.int .i64 _,.int .i64 _,.int .i64 _,.int .i64 _,.int .i64 _,.int .i64 _,.int .i64 _,.int .i64 _] rfl ?_
    refine leaf_back ?_ ?_
    ·refine (rwl_l_e s n (i+1) _ _ _ _ _ _ _ _ _ _ _ _ ⟨hc.1,by omega,by omega,hc.2.2.2⟩).trans ?_
     rw [rwl_l_e s n i l0 l1 l2 l3 l4 l5 l6 l7 l8 l9 l10 l11 hc,drop_step (el s) (i:=i) (by omega) (by omega)]
     refine (rowW_go ?_).symm
     rintro (h|h|⟨h,h2⟩)
     ·exact g2 h
     ·exact g3 h
     ·first|exact g4 h|(have g5:(!stEq ((el s).getD i.toNat default) (l0,l1,l2,l3,l4,l5,l6,l7,l8,l9,l10,l11))=false:=g5; rw [h2] at g5; cases g5)
    ·rw [rwl_me,rwl_me]; omega
   first|refine s1 (ev_addW (wrap64 (by omega) (by omega))) rfl rfl rfl ?_|refine s1 (ev_add _ _ _) rfl rfl rfl ?_
   refine s7 [.int .i64 _,encS rCl _,.int .i64 _,.int .i64 _,.int .i64 _,.int .i64 _,.int .i64 _,.int .i64 _,.int .i64 _,.int .i64 _,.int .i64 _,.int .i64 _,.int .i64 _,.int .i64 _,.int .i64 _,.int .i64 _] rfl ?_
   refine leaf_back ?_ ?_
   ·refine (rwl_l_e s n (i+1) _ _ _ _ _ _ _ _ _ _ _ _ ⟨hc.1,by omega,by omega,hc.2.2.2⟩).trans ?_
    rw [rwl_l_e s n i l0 l1 l2 l3 l4 l5 l6 l7 l8 l9 l10 l11 hc,drop_step (el s) (i:=i) (by omega) (by omega)]
    refine (rowW_go ?_).symm
    rintro (h|h|⟨h,h2⟩)
    ·exact g2 h
    ·exact g3 h
    ·first|exact g4 h|(have g5:(!stEq ((el s).getD i.toNat default) (l0,l1,l2,l3,l4,l5,l6,l7,l8,l9,l10,l11))=false:=g5; rw [h2] at g5; cases g5)
   ·rw [rwl_me,rwl_me]; omega
  ·cases hs
 ·cases hs
noncomputable def P_rwl:List LpE:=(78,([true,true,true,false,true,false],loopF Tryd.prog gl n0 7 rwl_D rwl_l))::P_wiw
theorem P_rwl_ok {G:Nat→Option Obj} (hst:StartOk Tryd.prog G gl H0 n0):LpsOk Tryd.prog G gl P_rwl:=.cons Tryd.func78 rwl_b rwl_p (rwl_c hst) (P_wiw_ok hst)
end Go.Proofs.YtdkdbjgkedahfaaDoor

namespace Go.Proofs.YtdkdbjgkedahfaaDoor
set_option linter.all false
open Go Go.Sx
set_option maxRecDepth 100000
set_option linter.unusedVariables false
set_option linter.unusedSimpArgs false
def rowS (l:List Cel):Int:=if (l.length:Int) < 2∨80 < (l.length:Int) then 220 else match rowGo l (0,0,0,0,0,0,0,0,0,0,0,0) with
 | none=>220
 | some c=>if wdC c=1 then 220 else 0
theorem rowS_a {l:List Cel} (h:(l.length:Int) < 2∨80 < (l.length:Int)):rowS l=220:=if_pos h
theorem rowE_none {l:List Cel} {c:Cel} (h:rowE l c=none):rowGo l c=some (rowV l c):=by
 unfold rowE at h
 unfold rowV
 cases hp:rowGo l c with
 | some v=>rfl
 | none=>rw [hp] at h; cases h
theorem rowE_some {l:List Cel} {c:Cel} {u:Unit} (h:rowE l c=some u):rowGo l c=none:=by
 unfold rowE at h
 cases hp:rowGo l c with
 | some v=>rw [hp] at h; cases h
 | none=>rfl
theorem rowS_b {l:List Cel} (h:¬((l.length:Int) < 2∨80 < (l.length:Int))) {u:Unit} (h2:rowE l (0,0,0,0,0,0,0,0,0,0,0,0)=some u):rowS l=220:=by unfold rowS; rw [if_neg h,rowE_some h2]
theorem rowS_c {l:List Cel} (h:¬((l.length:Int) < 2∨80 < (l.length:Int))) (h2:rowE l (0,0,0,0,0,0,0,0,0,0,0,0)=none) (h3:wdC (rowV l (0,0,0,0,0,0,0,0,0,0,0,0))=1):rowS l=220:=by unfold rowS; rw [if_neg h,rowE_none h2]; exact if_pos h3
theorem rowS_d {l:List Cel} (h:¬((l.length:Int) < 2∨80 < (l.length:Int))) (h2:rowE l (0,0,0,0,0,0,0,0,0,0,0,0)=none) (h3:¬wdC (rowV l (0,0,0,0,0,0,0,0,0,0,0,0))=1):rowS l=0:=by unfold rowS; rw [if_neg h,rowE_none h2]; exact if_neg h3
theorem rwl_0 {s:Option (List Cel)} (h:¬80 < ((el s).length:Int)) (h2:∀ c ∈ el s,aOk c):rwl_l [encS rCl s,.int .i64 ((el s).length:Int),.int .i64 0,.int .i64 0,.int .i64 0,.int .i64 0,.int .i64 0,.int .i64 0,.int .i64 0,.int .i64 0,.int .i64 0,.int .i64 0,.int .i64 0,.int .i64 0,.int .i64 0]=rowW (el s) (0,0,0,0,0,0,0,0,0,0,0,0):=rwl_l_e s _ 0 0 0 0 0 0 0 0 0 0 0 0 0 ⟨rfl,by decide,by omega,by omega,h2⟩
noncomputable def U_rck:List (FuncId × FnC):=(95,conF Tryd.prog [.a [3,3,3,3,3,3,3,3,3,3,3,3]] cel_s [.s 3])::L0
theorem U_rck_ok {G:Nat→Option Obj} (hst:StartOk Tryd.prog G gl H0 n0):ConsOk Tryd.prog G gl U_rck:=(.cons (cel_c hst) .nil)
def rck_s:List U→Option (Nat × List U)
 | [u_s,.bool wr]=>(decS rCl u_s).bind fun s=>if ∀ c ∈ el s,aOk c then some (0,[.int .i64 (rowS (el s))]) else none
 | _=>none
theorem rck_s_e (s:(Option (List (Int × Int × Int × Int × Int × Int × Int × Int × Int × Int × Int × Int)))) (wr:Bool) (hc:∀ c ∈ el s,aOk c):rck_s [encS rCl s,.bool wr]=some (0,[.int .i64 (rowS (el s))]):=by
 simp only [rck_s,decS_enc,Option.bind_some]
 exact if_pos hc
def rck_t:Tr:=.lt 3 (.len) [h 0 22] <| .lt 8 (.bin .lss) [h 2 3,.int .i64 (2)] <| .br 3 (.ret [.int .i64 (220)]) (.lt 8 (.bin .gtr) [h 2 3,.int .i64 (80)] <| .br 4 (.ret [.int .i64 (220)]) (.lp rwl_l [h 0 22,h 2 3,.int .i64 (0),.int .i64 (0),.int .i64 (0),.int .i64 (0),.int .i64 (0),.int .i64 (0),.int .i64 (0),.int .i64 (0),.int .i64 (0),.int .i64 (0),.int .i64 (0),.int .i64 (0),.int .i64 (0)] 0 12 (.lt 8 (.bin .eql) [h 8 3,.int .i64 (1)] <| .br 17 (.ret [.int .i64 (220)]) (.ret [.int .i64 (0)])) (.lp rwl_l [h 0 22,h 2 3,.int .i64 (0),.int .i64 (0),.int .i64 (0),.int .i64 (0),.int .i64 (0),.int .i64 (0),.int .i64 (0),.int .i64 (0),.int .i64 (0),.int .i64 (0),.int .i64 (0),.int .i64 (0),.int .i64 (0)] 1 1 (.ret [h 5 3]) (.no))))
theorem rck_c {G:Nat→Option Obj} (hst:StartOk Tryd.prog G gl H0 n0):ConOk Tryd.prog G 78 [.a [22,8]] rck_s [.s 3]:=by
 refine con_of_tree (C:=cx U_rck P_rwl) (d:=60) rck_t (cxg (U_rck_ok hst) (P_rwl_ok hst)) hst ⟨Tryd.f78,_,Tryd.func78,rfl⟩ (by kernel_rfl) (by kernel_rfl) ?_
 intro us outs hs
 unfold rck_s at hs
 split at hs
 ·skip
  rename_i u_s wr
  have hq_s:=Option.bind_eq_some_iff.1 hs
  clear hs
  obtain ⟨s,hd_s,hs⟩:=hq_s
  replace hd_s:=decS_eq hd_s
  subst hd_s
  split at hs
  ·rename_i hc
   cases hs
   unfold rck_t
   refine s0 (.cons 1 _ (.cons 0 _ (.nil))) rfl (by simp [Ev.ok,Ev.len]) ?_
   refine s1 (ev_lenS _ _) rfl rfl rfl ?_
   refine s1 (ev_lss _ _ _) rfl rfl rfl ?_
   refine s4 rfl (fun g0=>?_) fun g0=>?_
   ·refine s7 [.int .i64 _] rfl ?_
    refine congrArg (fun z=>[U.int .i64 z]) ?_; symm; first|exact rowS_a (by omega)|exact rowS_b (by omega) (by assumption)|exact rowS_c (by omega) (by assumption) (by assumption)|exact rowS_d (by omega) (by assumption) (by assumption)
   refine s1 (ev_gtr _ _ _) rfl rfl rfl ?_
   refine s4 rfl (fun g1=>?_) fun g1=>?_
   ·refine s7 [.int .i64 _] rfl ?_
    refine congrArg (fun z=>[U.int .i64 z]) ?_; symm; first|exact rowS_a (by omega)|exact rowS_b (by omega) (by assumption)|exact rowS_c (by omega) (by assumption) (by assumption)|exact rowS_d (by omega) (by assumption) (by assumption)
   refine s6 (rwl_0 (by omega) hc) rfl (fun _=>rfl) (fun g2=>?_) (fun v2 g2=>?_)
   ·show Tr.sav _ _ (.cons 16 _ (.cons 15 _ (.cons 14 _ (.cons 13 _ (.cons 12 _ (.cons 11 _ (.cons 10 _ (.cons 9 _ (.cons 8 _ (.cons 7 _ (.cons 6 _ (.cons 5 _ _))))))))))))
    refine s1 (ev_eql _ _ _) rfl rfl rfl ?_
    refine s4 rfl (fun g3=>?_) fun g3=>?_
    ·refine s7 [.int .i64 _] rfl ?_
     refine congrArg (fun z=>[U.int .i64 z]) ?_; symm; first|exact rowS_a (by omega)|exact rowS_b (by omega) (by assumption)|exact rowS_c (by omega) (by assumption) (by assumption)|exact rowS_d (by omega) (by assumption) (by assumption)
    refine s7 [.int .i64 _] rfl ?_
    refine congrArg (fun z=>[U.int .i64 z]) ?_; symm; first|exact rowS_a (by omega)|exact rowS_b (by omega) (by assumption)|exact rowS_c (by omega) (by assumption) (by assumption)|exact rowS_d (by omega) (by assumption) (by assumption)
   show Tr.sav _ _ (.cons 5 _ _)
   refine s7 [.int .i64 _] rfl ?_
   refine congrArg (fun z=>[U.int .i64 z]) ?_; symm; first|exact rowS_a (by omega)|exact rowS_b (by omega) (by assumption)|exact rowS_c (by omega) (by assumption) (by assumption)|exact rowS_d (by omega) (by assumption) (by assumption)
  ·cases hs
 ·cases hs
noncomputable def L_rck:List (FuncId × FnC):=(78,conF Tryd.prog [.a [22,8]] rck_s [.s 3])::L_cel
theorem L_rck_ok {G:Nat→Option Obj} (hst:StartOk Tryd.prog G gl H0 n0):ConsOk Tryd.prog G gl L_rck:=.cons (rck_c hst) (L_cel_ok hst)
end Go.Proofs.YtdkdbjgkedahfaaDoor
