import Derived.Test.YtdimocjaepnifaaGreatDoorX0
import Derived.ChangeKeysEq
set_option linter.all false
set_option maxRecDepth 100000
set_option maxHeartbeats 4000000
namespace Go.Sx
variable {k:Nat→Value}{cs cs' r' zs:D4}{dflt mm off top y:Nat}{e:TypeId}{i' x':Value}{parts parts':List (Nat×Value)}{lo mx o':T5}
section
open Go
def Q5(d:Nat)(hd:d<8){α β:Type}(n:N8 α)(v:α)(k:N8 α→β):(sel d).upd n v k=k ((sel d).upd n v fun n=>n):=by
 match d,hd with
 | 0,_|1,_|2,_|3,_|4,_|5,_|6,_|7,_=>rfl
def A0w(d:Nat)(hd:d<8){α:Type}(n:N8 α)(v:α):(sel d).get ((sel d).upd n v fun n=>n)=v:=by
 match d,hd with
 | 0,_|1,_|2,_|3,_|4,_|5,_|6,_|7,_=>rfl
def A94(d e:Nat)(hd:d<8)(he:e<8)(hne:e≠d){α:Type}(n:N8 α)(v:α):(sel e).get ((sel d).upd n v fun n=>n)=(sel e).get n:=by
 match d,hd with
 | 0,_|1,_|2,_|3,_|4,_|5,_|6,_|7,_ =>
   match e,he with
   | 0,_|1,_|2,_|3,_|4,_|5,_|6,_|7,_=>first|rfl|exact absurd rfl hne
def fP{α β:Type}(n:N8 α)(k:N8 α→β):JG n k=k n:=rfl
def m8(n:Nat):n%8<8:=rF _ C3
def HV{β:Type}(t:Nat)(v:Value)(fr:Fr)(k:Fr→β):xR (sel (t / 64%8)) (sel (t / 8%8)) (sel (t%8)) v fr k=k (fr.set t v):=by
 unfold Fr.set xR;rw[Q5 _ (m8 _)];conv=>rhs;rw[Q5 _ (m8 _)]
 rw[Q5 _ (m8 _)];conv=>rhs;rw[Q5 _ (m8 _)]
 rw[Q5 _ (m8 _)]
def c9(d e:Nat)(hd:d<8)(he:e<8){α:Type}(n:N8 α)(v:α):(sel e).get ((sel d).upd n v fun n=>n)=if e=d then v else(sel e).get n:=by
 by_cases h:e=d
 ·subst h;rw[A4 rfl,A0w _ he]
 ·rw[A3 h,A94 _ _ hd he h]
def N2(fr:Fr)(t u:Nat)(v:Value)(ht:t<512)(hu:u<512):(fr.set t v).get u=if u=t then v else fr.get u:=by
 unfold Fr.set xR;simp only[Q5 _ (m8 _) _ _ (fun n2=>Sel.upd _ _ _ _),Q5 _ (m8 _) _ _ (fun n1=>Sel.upd _ _ _ _)];unfold Fr.get;rw[c9 _ _ (m8 _) (m8 _)];by_cases h1:u / 64%8=t / 64%8
 ·rw[A4 h1,c9 _ _ (m8 _) (m8 _)];by_cases h2:u / 8%8=t / 8%8
  ·rw[A4 h2,c9 _ _ (m8 _) (m8 _)];by_cases h3:u%8=t%8
   ·rw[A4 h3,A4 A1]
   ·rw[A3 h3,A3 (by intro h;subst h;exact h3 rfl),h1,h2]
  ·rw[A3 h2,A3 (by intro h;subst h;exact h2 rfl),h1]
 ·rw[A3 h1,A3 (by intro h;subst h;exact h1 rfl)]
def JE(t:Nat):fr0.get t=undef:=by
 unfold Fr.get fr0;have h:∀ (d:Nat) {α:Type} (v:α),d<8→(sel d).get (rE v)=v:=fun d α v hd=>by
  match d,hd with
  | 0,_|1,_|2,_|3,_|4,_|5,_|6,_|7,_=>rfl
 rw[h _ _ (m8 _),h _ _ (m8 _),h _ _ (m8 _)];rfl
def gF{α β:Type}(h:Hp α)(n:Nat)(v:Option α)(k:Hp α→β):h.put n v k=k (h.set n v):=by
 unfold Hp.set Hp.put cL;rw[Q5 _ (m8 _),Q5 _ (m8 _),Q5 _ (m8 _),Q5 _ (m8 _),Q5 _ (m8 _),Q5 _ (m8 _)];conv=>rhs;rw[Q5 _ (m8 _),Q5 _ (m8 _),Q5 _ (m8 _),Q5 _ (m8 _),Q5 _ (m8 _)]
def F7{α:Type}(h:Hp α)(n m:Nat)(v:Option α)(hn:n≤I4)(hm:m≤I4):(h.set n v).get m=if m=n then v else h.get m:=by
 unfold I4 at hn hm;unfold Hp.set Hp.put cL;rw[Q5 _ (m8 _),Q5 _ (m8 _),Q5 _ (m8 _),Q5 _ (m8 _),Q5 _ (m8 _)];unfold Hp.get;rw[c9 _ _ (m8 _) (m8 _)];by_cases h1:m / 32768%8=n / 32768%8
 ·rw[A4 h1,c9 _ _ (m8 _) (m8 _)];by_cases h2:m / 4096%8=n / 4096%8
  ·rw[A4 h2,c9 _ _ (m8 _) (m8 _)];by_cases h3:m / 512%8=n / 512%8
   ·rw[A4 h3,c9 _ _ (m8 _) (m8 _)];by_cases h4:m / 64%8=n / 64%8
    ·rw[A4 h4,c9 _ _ (m8 _) (m8 _)];by_cases h5:m / 8%8=n / 8%8
     ·rw[A4 h5,c9 _ _ (m8 _) (m8 _)];by_cases h6:m%8=n%8
      ·rw[A4 h6,A4 A1]
      ·rw[A3 h6,A3 (by intro h;subst h;exact h6 rfl),h1,h2,h3,h4,h5]
     ·rw[A3 h5,A3 (by intro h;subst h;exact h5 rfl),h1,h2,h3,h4]
    ·rw[A3 h4,A3 (by intro h;subst h;exact h4 rfl),h1,h2,h3]
   ·rw[A3 h3,A3 (by intro h;subst h;exact h3 rfl),h1,h2]
  ·rw[A3 h2,A3 (by intro h;subst h;exact h2 rfl),h1]
 ·rw[A3 h1,A3 (by intro h;subst h;exact h1 rfl)]
def tN{α:Type}(m:Nat):(hp0:Hp α).get m=none:=by
 have h:∀ (d:Nat) {α:Type} (v:α),d<8→(sel d).get (rE v)=v:=fun d α v hd=>by
  match d,hd with
  | 0,_|1,_|2,_|3,_|4,_|5,_|6,_|7,_=>rfl
 unfold Hp.get hp0;rw[h _ _ (m8 _),h _ _ (m8 _),h _ _ (m8 _),h _ _ (m8 _),h _ _ (m8 _),h _ _ (m8 _)]
def F5{β:Type}(n:Nat)(k:Nat→β):L2 n k=k n:=by cases n<;>rfl
def vK{β:Type}(i:Int)(k:Int→β):BP i k=k i:=by cases i<;>simp[BP,F5]
def I6{α β:Type}:∀ (l:List α) (k:List α→β),U2 l k=k l
 | [],k=>rfl
 | x::r,k=>by simp[U2,I6 r]
def aF(k:IntKind)(n:Int):mkI k n=.int k n:=by simp[mkI,vK]
def toV:U→T5
 | .int k n=>some (.int k n)
 | .bool b=>some (.bool b)
 | .str s=>some (.string ⟨⟨s⟩⟩)
 | _=>none
def G7:U→Nat
 | .int k _=>jV k
 | .bool _=>8
 | .str _=>9
 | .seq _ w _=>10+w
 | .none=>99
def rA(E:Nat→U):Value→Option Int
 | .complex .f64 i _=>match E i with
   | .int _ n=>some n
   | _=>none
 | .int _ n=>some n
 | _=>none
class Ora where
 env:Nat→U
 G:Nat→Option Obj
variable [Ora]
structure B56 where
 blk:Nat
 sh:Nat
 cap:Nat
 len:Nat
 G:Nat→Option Obj
 on:Bool
abbrev Loc:=B56
abbrev lc(b s c:Nat):Loc:=⟨b,s,c,0,fun _=>none,true⟩
abbrev Ren:=Nat→Option Loc
inductive Enc (G:Nat→Option Obj):U→Value→Prop
 | sc {u v} (h:toV u=some v):Enc G u v
 | nil {w}:Enc G (.seq true w []) (.slice none 0 0)
 | emp {w a}:Enc G (.seq false w []) (.slice (some a) 0 0)
 | sl {w rows a o c C T fz} (hc:rows.length≤c) (hg:rows≠[]→G a=some (.cells C T fz)) (hz:rows≠[]→o+rows.length*w≤C.size) (hw:∀ row ∈ rows,row.length=w)
    (h:∀ (r:Nat) (row:List U) (j:Nat) (u:U) (v:Value),rows[r]? = some row→row[j]? = some u→C[o+r*w+j]? = some v→Enc G u v):Enc G (.seq false w rows) (.slice (some ⟨a,o,none⟩) rows.length c)
omit [Ora] in
def Enc.mono{G G':Nat→Option Obj}(h:∀ k o,G k=some o→G' k=some o){u:U}{v:Value}(e:Enc G u v):Enc G' u v:=by
 induction e with
 | sc h=>exact .sc h
 | nil=>exact .nil
 | emp=>exact .emp
 | sl hc hg hz hw h1 ih=>exact .sl hc (fun hn=>h _ _ (hg hn)) hz hw ih
omit [Ora] in
def Enc.slice{G:Nat→Option Obj}{u:U}{v:Value}(h:Enc G u v)(h10:10≤G7 u):∃ a n c,v=.slice a n c:=by
 cases h with
 | sc h =>
   cases u with
   | int k n=>cases k<;>simp[G7,jV]at h10
   | bool b=>simp[G7]at h10
   | str s=>simp[G7]at h10
   | none=>cases h
   | seq _ _ _=>cases h
 | nil=>exact⟨_,_,_,rfl⟩
 | emp=>exact⟨_,_,_,rfl⟩
 | sl=>exact⟨_,_,_,rfl⟩
def A3o:Value→Prop
 | .slice _ n c=>c=n
 | _=>False
def A1p(ρ:Ren)(b:Nat)(u:U)(v':Value):Prop :=
 (∃ l w,ρ b=some l∧l.on=false∧u=.seq true w []∧v'=.slice none 0 0)∨(∃ l w rows,ρ b=some l∧l.on=true∧u=.seq false w rows∧rows.length=l.len∧l.len≤l.cap∧v'=.slice (some ⟨l.blk,l.sh,none⟩) l.len l.cap)
def B3e(ρ:Ren)(b:Nat)(u:U)(z:Option Int)(o:Nat)(v':Value):Prop :=
 ∃ l w rows a s c k,ρ b=some l∧u=.seq false w rows∧Enc l.G u (.slice (some ⟨a,s,none⟩) rows.length c)∧z=some (.ofNat k)∧k<rows.length∧o<w∧v'=.pointer (some ⟨a,s+k*w+o,none⟩)
def B2T(ρ:Ren)(b:Nat)(u:U)(z:Option Int)(o:Nat)(v':Value):Prop :=
 ∃ l w rows k,ρ b=some l∧l.on=true∧u=.seq false w rows∧z=some (.ofNat k)∧k<l.len∧o<w∧v'=.pointer (some ⟨l.blk,l.sh+k*w+o,none⟩)
def XX(ρ:Ren)(b:Nat)(v':Value):Prop:=∃ l,ρ b=some l∧((l.on=false∧v'=.pointer none)∨(l.on=true∧∃ a,v'=.pointer (some a)∧(l.cap≠0→a=⟨l.blk,l.sh,none⟩)))
def XX.cells{ρ:Ren}{b:Nat}{v':Value}(h:XX ρ b v'):v'.cells=#[v']:=by
 obtain⟨l,_,⟨_,rfl⟩|⟨_,a,rfl,_⟩⟩:=h<;>rfl
def bJ:Value→Bool
 | .agg _|.tuple _=>false
 | _=>true
def XX.flat{ρ:Ren}{b:Nat}{v':Value}(h:XX ρ b v'):bJ v'=true:=by
 obtain⟨l,_,⟨_,rfl⟩|⟨_,a,rfl,_⟩⟩:=h<;>rfl
def aP{v:Value}(h:bJ v=true):v.cells=#[v]:=by cases v<;>first|rfl|cases h
inductive VR (ρ:Ren):Value→Value→Prop
 | pure {v} (h:J1 v=true):VR ρ v v
 | hole {i t v'} (h:toV (Ora.env i)=some v') (ht:G7 (Ora.env i)=t):VR ρ (.complex .f64 i t) v'
 | junk {i t v'} (h:i=1→bJ v'=true):VR ρ (.complex .f32 i t) v'
 | ixp {a s n i l z v'} (h:ρ a.block=some l) (hs:a.spot=none) (hi:rA Ora.env i=some (.ofNat z)) (hz:z<n) (hv:v'=.pointer (some ⟨l.blk,a.off+z*s+l.sh,none⟩)):VR ρ (Go.Sx.ixp a s i n) v'
 | dat {b i t v' l} (h:ρ b=some l) (he:Enc l.G (Ora.env i) v') (ht:G7 (Ora.env i)=t) (h10:10≤t) (hf:bJ v'=true):VR ρ (Go.Sx.dat b i t) v'
 | clp {b i t v' l} (h:ρ b=some l) (he:Enc l.G (Ora.env i) v') (ht:G7 (Ora.env i)=t) (h10:10≤t) (hf:bJ v'=true) (hc:A3o v'):VR ρ (Go.Sx.clp b i t) v'
 | own {b i t v'} (h:A1p ρ b (Ora.env i) v') (ht:G7 (Ora.env i)=t) (hf:bJ v'=true):VR ρ (Go.Sx.own b i t) v'
 | dpt {b i t z o v'} (h:B3e ρ b (Ora.env i) (rA Ora.env z) o v') (ht:G7 (Ora.env i)=t) (hf:bJ v'=true):VR ρ (Go.Sx.dpt b i t z o) v'
 | opt {b i t z o v'} (h:B2T ρ b (Ora.env i) (rA Ora.env z) o v') (ht:G7 (Ora.env i)=t) (hf:bJ v'=true):VR ρ (Go.Sx.opt b i t z o) v'
 | ptr {b o l} (h:ρ b=some l):VR ρ (.pointer (some ⟨b,o,none⟩)) (.pointer (some ⟨l.blk,o+l.sh,none⟩))
 | sl {b o l n m} (h:ρ b=some l) (hm:m<O6):VR ρ (.slice (some ⟨b,o,none⟩) n m) (.slice (some ⟨l.blk,o+l.sh,none⟩) n m)
 | op {b o l n m m'} (h:ρ b=some l) (hm:O6≤m) (hn:n≤m') (hc:m=O6→o=0→m'=l.cap):VR ρ (.slice (some ⟨b,o,none⟩) n m) (.slice (some ⟨l.blk,o+l.sh,none⟩) n m')
 | opE {a a' m'} (hs:a'.spot=none):VR ρ (.slice (some a) 0 (O6+2)) (.slice (some a') 0 m')
 | map {b l} (h:ρ b=some l):VR ρ (.map (some b)) (.map (some l.blk))
 | sdt {b v'} (h:XX ρ b v'):VR ρ (Go.Sx.sdt b) v'
 | yv {b l} (h:ρ b=some l):VR ρ (Go.Sx.yv b) (.func (.yield l.blk) #[] #[])
 | func {f a b a' b'} (ha:a.length=a'.length) (hb:b.length=b'.length) (h1:∀ (i:Nat) (v v':Value),a[i]? = some v→a'[i]? = some v'→VR ρ v v') (h2:∀ (i:Nat) (v v':Value),b[i]? = some v→b'[i]? = some v'→VR ρ v v') :
    VR ρ (.func (.func f) ⟨a⟩ ⟨b⟩) (.func (.func f) ⟨a'⟩ ⟨b'⟩)
 | iface {t v v'} (h:VR ρ v v'):VR ρ (.iface t v) (.iface t v')
 | agg {a a'} (ha:a.length=a'.length) (h:∀ (i:Nat) (v v':Value),a[i]? = some v→a'[i]? = some v'→VR ρ v v'):VR ρ (.agg ⟨a⟩) (.agg ⟨a'⟩)
 | tuple {a a'} (ha:a.length=a'.length) (h:∀ (i:Nat) (v v':Value),a[i]? = some v→a'[i]? = some v'→VR ρ v v'):VR ρ (.tuple ⟨a⟩) (.tuple ⟨a'⟩)
theorem A2c{ρ:Ren}{b:Nat}{v':Value}(h:VR ρ (yv b) v'):∃ l,ρ b=some l∧v'=.func (.yield l.blk) #[] #[]:=by
 generalize hx:yv b=x at h;cases h with
 | yv h=>cases hx;exact⟨_,h,rfl⟩
 | pure hp=>subst hx;simp[yv,J1]at hp
 | _=>simp[yv,ixp,Go.Sx.dat,Go.Sx.clp,Go.Sx.own,Go.Sx.dpt,Go.Sx.opt,Go.Sx.sdt]at hx
def A5e{ρ:Ren}{b:Nat}{v':Value}(h:VR ρ (sdt b) v'):XX ρ b v':=by
 generalize hx:sdt b=x at h;cases h with
 | sdt h=>cases hx;exact h
 | pure hp=>subst hx;simp[sdt,J1]at hp
 | _=>simp[sdt,ixp,Go.Sx.dat,Go.Sx.clp,Go.Sx.own,Go.Sx.dpt,Go.Sx.opt,Go.Sx.yv]at hx
def LR(ρ:Ren)(a a':List Value):Prop:=a.length=a'.length∧∀ (i:Nat) (v v':Value),a[i]? = some v→a'[i]? = some v'→VR ρ v v'
def VR.mono{ρ ρ':Ren}(he:∀ b l,ρ b=some l→ρ' b=some l){v v':Value}(h:VR ρ v v'):VR ρ' v v':=by
 induction h with
 | pure h=>exact .pure h
 | hole h ht=>exact .hole h ht
 | junk h=>exact .junk h
 | ixp h hs hi hz hv=>exact .ixp (he _ _ h) hs hi hz hv
 | dat h h1 h2 h3 h4=>exact .dat (he _ _ h) h1 h2 h3 h4
 | clp h h1 h2 h3 h4 h5=>exact .clp (he _ _ h) h1 h2 h3 h4 h5
 | own h h1 h2=>exact .own (h.imp (fun⟨l,w,a,b⟩=>⟨l,w,he _ _ a,b⟩) fun⟨l,w,rows,a,b⟩=>⟨l,w,rows,he _ _ a,b⟩) h1 h2
 | dpt h h1 h2=>exact .dpt (let ⟨l,w,rows,a,s,c,k,h0,r⟩:=h;⟨l,w,rows,a,s,c,k,he _ _ h0,r⟩) h1 h2
 | opt h h1 h2=>exact .opt (let ⟨l,w,rows,k,h0,r⟩:=h;⟨l,w,rows,k,he _ _ h0,r⟩) h1 h2
 | ptr h=>exact .ptr (he _ _ h)
 | sl h hm=>exact .sl (he _ _ h) hm
 | op h hm hn hc=>exact .op (he _ _ h) hm hn hc
 | opE hs=>exact .opE hs
 | map h=>exact .map (he _ _ h)
 | yv h=>exact .yv (he _ _ h)
 | sdt h=>exact .sdt (let ⟨l,a,b⟩:=h;⟨l,he _ _ a,b⟩)
 | func ha hb h1 h2 ih1 ih2=>exact .func ha hb ih1 ih2
 | iface h ih=>exact .iface ih
 | agg ha h ih=>exact .agg ha ih
 | tuple ha h ih=>exact .tuple ha ih
def LR.mono{ρ ρ':Ren}(he:∀ b l,ρ b=some l→ρ' b=some l){a a':D4}(h:LR ρ a a'):LR ρ' a a':=⟨h.1,fun i v v' h1 h2=>(h.2 i v v' h1 h2).mono he⟩
def LR.nil{ρ:Ren}:LR ρ [] []:=⟨rfl,fun i v v' h=>by simp at h⟩
def LR.cons{ρ:Ren}{v v':Value}{a a':D4}(hv:VR ρ v v')(h:LR ρ a a'):LR ρ (v::a) (v'::a'):=by
 refine⟨by simp[h.1],fun i u u' h1 h2=>?_⟩;cases i with
 | zero=>simp at h1 h2;subst h1;subst h2;exact hv
 | succ i=>exact h.2 i u u' (by simpa using h1) (by simpa using h2)
def LR.append{ρ:Ren}{a a' b b':D4}(h:LR ρ a a')(k:LR ρ b b'):LR ρ (a++b) (a'++b'):=by
 refine⟨by simp[h.1,k.1],fun i u u' h1 h2=>?_⟩;rcases G4 i a.length with hl|hl
 ·rw[F2 hl]at h1;rw[F2 (h.1▸hl)]at h2;exact h.2 i u u' h1 h2
 ·rw[E3 hl]at h1;rw[E3 (h.1▸hl),← h.1]at h2;exact k.2 _ u u' h1 h2
def LR.tail{ρ:Ren}{v:Value}{a a':D4}(h:LR ρ (v::a) a'):∃ v' r',a'=v'::r'∧VR ρ v v'∧LR ρ a r':=by
 obtain⟨h1,h2⟩:=h;cases a' with
 | nil=>simp at h1
 | cons v' r'=>exact⟨v',r',rfl,h2 0 v v' rfl rfl,by simpa using h1,fun i u u' g1 g2=>h2 (i+1) u u' (by simpa using g1) (by simpa using g2)⟩
def LR.nil_inv{ρ:Ren}{a':D4}(h:LR ρ [] a'):a'=[]:=D3.1 h.1.symm
def LR.get{ρ:Ren}{a a':D4}(h:LR ρ a a'){i:Nat}{v:Value}(hi:a[i]? = some v):∃ v',a'[i]? = some v'∧VR ρ v v':=by
 have hl:=(B2.1 hi).1;have hl':i<a'.length:=h.1▸hl;exact⟨a'[i],A8 hl',h.2 i v _ hi (A8 hl')⟩
def LR.drop{ρ:Ren}{a a':D4}(h:LR ρ a a')(n:Nat):LR ρ (a.drop n) (a'.drop n):=⟨by simp[h.1],fun i u u' h1 h2=>by
 rw[H9]at h1 h2;exact h.2 _ u u' h1 h2⟩
def LR.take{ρ:Ren}{a a':D4}(h:LR ρ a a')(n:Nat):LR ρ (a.take n) (a'.take n):=⟨by simp[h.1],fun i u u' h1 h2=>by
 have hi:i<n:=by
  have:=(B2.1 h1).1;simp at this;omega
 rw[F9 hi]at h1 h2;exact h.2 _ u u' h1 h2⟩
def LR.set{ρ:Ren}{a a':D4}(h:LR ρ a a'){v v':Value}(hv:VR ρ v v')(n:Nat):LR ρ (a.set n v) (a'.set n v'):=⟨by simp[h.1],fun i u u' h1 h2=>by
 by_cases e:n=i
 ·subst e;have hl:=(B2.1 h1).1;simp at hl;rw[d8 hl]at h1;rw[d8 (h.1▸hl)]at h2;cases h1;cases h2;exact hv
 ·rw[dR e]at h1 h2;exact h.2 _ u u' h1 h2⟩
def LR.all_pure{ρ:Ren}:∀ {a:D4},a.all J1=true→LR ρ a a
 | [],_=>.nil
 | v::r,h=>by simp only[dD,I7]at h;exact .cons (.pure h.1) (LR.all_pure h.2)
def VR.ofC{ρ:Ren}{v:Value}(h:UN v=true):VR ρ v v:=by
 cases v with
 | agg cs =>
   obtain⟨l⟩:=cs;have:LR ρ l l:=LR.all_pure h;exact .agg this.1 this.2
 | _=>exact .pure h
omit [Ora] in
def jH{u:U}{v:Value}(h:toV u=some v):J1 v=true:=by
 cases u<;>cases h<;>rfl
def RN{v:Value}(h:J1 v=true):v.cells=#[v]:=by cases v<;>first|rfl|cases h
def VR.cells{ρ:Ren}{v v':Value}(h:VR ρ v v')(hj:lD v=false):LR ρ v.cells.toList v'.cells.toList:=by
 have one:∀ {v v':Value},VR ρ v v'→LR ρ [v] [v']:=fun h=>.cons h .nil
 cases h with
 | agg ha h=>exact⟨ha,h⟩
 | junk h =>
   have h1:=A0 (by simpa [lD]using hj);rw[aP (h h1)];exact one (.junk h)
 | hole h ht=>rw[RN (jH h)];exact one (.hole h ht)
 | ixp h hs hi hz hv=>subst hv;exact one (.ixp h hs hi hz rfl)
 | pure hp =>
   cases v with
   | agg cs=>simp[J1]at hp
   | _=>exact one (.pure hp)
 | dat h h1 h2 h3 h4=>rw[aP h4];exact one (.dat h h1 h2 h3 h4)
 | clp h h1 h2 h3 h4 h5=>rw[aP h4];exact one (.clp h h1 h2 h3 h4 h5)
 | own h h1 h2=>rw[aP h2];exact one (.own h h1 h2)
 | dpt h h1 h2=>rw[aP h2];exact one (.dpt h h1 h2)
 | opt h h1 h2=>rw[aP h2];exact one (.opt h h1 h2)
 | ptr h=>exact one (.ptr h)
 | sl h hm=>exact one (.sl h hm)
 | op h hm hn hc=>exact one (.op h hm hn hc)
 | opE hs=>exact one (.opE hs)
 | map h=>exact one (.map h)
 | yv h=>exact one (.yv h)
 | sdt h=>rw[h.cells];exact one (.sdt h)
 | func ha hb h1 h2=>exact one (.func ha hb h1 h2)
 | iface h=>exact one (.iface h)
 | tuple ha h=>exact one (.tuple ha h)
def AB.on:AB→Bool
 | .frz=>false
 | _=>true
def AB.rw:AB→Bool
 | .cells _ _ ro=>!ro
 | .sq _ _ _ _ ro=>!ro
 | .frz=>false
 | _=>true
def AB.rw_on{ab:AB}(h:ab.rw=true):ab.on=true:=by
 cases ab<;>first|rfl|cases h
def Tc(ab:AB)(l:Loc)(k:Nat):Prop:=(ab.on=true∧l.on=true∧l.blk=k)∨(ab=.frz∧∃ o,l.G k=some o)
def V3(u:U):Value:=(toV u).getD (.tuple #[])
def e9(a:Bool)(us:List U):Value :=
 match a,us with
 | true,us=>.agg ⟨us.map V3⟩
 | false,u::_=>V3 u
 | false,[]=>.tuple #[]
def yF(y:MTy)(rows:List (List U))(es:List MapEntry):Prop :=
 rows.length=es.length∧∀ (i:Nat) (row:List U) (e:MapEntry),rows[i]? = some row→es[i]? = some e→row.map G7=y.ks++y.vs∧e.key=e9 y.ka (row.take y.ks.length)∧e.val=e9 y.va (row.drop y.ks.length)
def MpR(P:Program)(u:U)(t:Nat)(T:TypeId)(l:Loc)(w:World):Prop :=
 ∃ y es clock rows,YN P T=some y∧t=10+y.w∧w.heap[l.blk]? = some (.map es clock)∧u=.seq false y.w rows∧yF y rows es.toList
def B54(P:Program)(ρ:Ren)(u:U)(wd:Nat)(T:TypeId)(g:Nat)(ro:Bool)(l:Loc)(w:World):Prop :=
 ∃ C fz T' rows lg,w.heap[l.blk]? = some (.cells C T' fz)∧u=.seq false wd rows∧rows.length=l.len∧l.len≤l.cap∧l.sh+l.cap*wd≤C.size∧(∀ row ∈ rows,row.length=wd)∧ρ g=some lg ∧
  (∀ (r:Nat) (row:List U) (j:Nat) (x:U) (v:Value),rows[r]? = some row→row[j]? = some x→C[l.sh+r*wd+j]? = some v→Enc lg.G x v) ∧
  (ro=false→T'=T∧∀ i,i<C.size→¬ (fz.1≤i∧i<fz.2))
structure SqR (P:Program) (ρ:Ren) (u:U) (t:Nat) (T:TypeId) (g:Nat) (ro:Bool) (l:Loc) (w:World):Prop where
 ex:∃ wd inf,t=10+wd∧P.info? T=some inf∧inf.size=wd∧((l.on=false∧u=.seq true wd [])∨(l.on=true∧B54 P ρ u wd T g ro l w))
def StR(st:Nat)(s:LoopState)(p:Option Code):Prop :=
 match st with
 | 0=>s=.ready∧p=none
 | 1=>s=.busy
 | 2=>s=.done∧p=some .ret
 | 3=>True
 | k+4=>s=.done∧p=some (.exit k)
structure LpR (P:Program) (ρ:Ren) (f:FuncId) (q:List Bool) (vs:List Value) (st:Nat) (r:Loop):Prop where
 code:∃ fn body x,P.funcs[f]? = some fn∧fn.body=some body∧I0 q body=some (.rangeFunc x r.params r.assign r.body)∧vs.length=fn.ntmps
 fr:LR ρ vs r.tmps.toList
 st:StR st r.state r.pending
def LpR.mono{P:Program}{ρ ρ':Ren}(he:∀ b l,ρ b=some l→ρ' b=some l){f:FuncId}{q:List Bool}{vs:D4}{st:Nat}{r:Loop}(h:LpR P ρ f q vs st r):LpR P ρ' f q vs st r:=⟨h.code,h.fr.mono he,h.st⟩
structure NF (C:Array Value) (fz:Nat×Nat):Prop where
 nf:∀ i,i<C.size→¬ (fz.1≤i∧i<fz.2)
 le:fz.1≤fz.2
instance{C:Z5}{fz:Nat×Nat}:CoeFun (NF C fz) (fun _=>∀ i,i<C.size→¬ (fz.1≤i∧i<fz.2)):=⟨NF.nf⟩
def NF.zero{C:Z5}:NF C (0,0):=⟨fun i _ hh=>by have h1:0≤i:=hh.1;have h2:i<0:=hh.2;omega,B0 _⟩
def NF.end{C:Z5}:NF C (C.size,C.size+1):=⟨fun i h hh=>by have h1:C.size≤i:=hh.1;omega,c8 _⟩
def NF.sz{C C':Z5}{fz:Nat×Nat}(h:NF C fz)(hs:C'.size=C.size):NF C' fz:=⟨fun i hi=>h.nf i (hs▸hi),h.le⟩
def NF.mark{C:Z5}{fz:Nat×Nat}(h:NF C fz):NF C (if fz.1 == fz.2 then(C.size,C.size+1)else(min fz.1 C.size,max fz.2 (C.size+1))):=by
 by_cases e:fz.1=fz.2
 ·rw[A4 (by simp[e])];exact .end
 ·rw[A3 (by simp[e])];have hle:=h.le;have h1:C.size≤fz.1:=by
   rcases G4 fz.1 C.size with h2|h2
   ·exact absurd ⟨B0 _,A1⟩ (h.nf fz.1 h2)
   ·exact h2
  exact⟨fun i hi hh=>by have h3:min fz.1 C.size≤i:=hh.1;omega,by show min fz.1 C.size≤max fz.2 (C.size+1);omega⟩
def BR(P:Program)(ρ:Ren)(ab:AB)(l:Loc)(w:World):Prop :=
 match ab with
 | .cells cs T ro=>l.on=true∧∃ C fz T',w.heap[l.blk]? = some (.cells C T' fz)∧(∀ i v,cs[i]? = some v→∃ v',C[l.sh+i]? = some v'∧VR ρ v v') ∧
    (ro=false→T'=T∧NF C fz∧∀ inf,P.info? T=some inf→l.sh+l.cap*inf.size≤C.size∧l.sh%inf.size=0)
 | .mp c t T=>(l.on=true∧l.sh=0)∧MpR P (Ora.env c) t T l w
 | .iter s pos=>(l.on=true∧l.sh=0)∧w.heap[l.blk]? = some (.stringIter s pos)
 | .sq c t T g ro=>SqR P ρ (Ora.env c) t T g ro l w
 | .lp f q vs st=>(l.on=true∧l.sh=0)∧∃ r,w.heap[l.blk]? = some (.loop r)∧LpR P ρ f q vs st r
 | .dfr b=>(l.on=true∧l.sh=0)∧∃ x,w.heap[l.blk]? = some (.deferred x)∧(b=true→x=some [])
 | .frz=>l.on=false∧∀ k o,l.G k=some o→w.heap[k]? = some o
def BR.mono{P:Program}{ρ ρ':Ren}(he:∀ b l,ρ b=some l→ρ' b=some l){ab:AB}{l:Loc}{w w':World}(hw:∀ k,Tc ab l k→w'.heap[k]? = w.heap[k]?)(h:BR P ρ ab l w):BR P ρ' ab l w':=by
 cases ab with
 | cells cs T ro =>
   obtain⟨h0,C,fz,T',h1,h2,h3⟩:=h;exact⟨h0,C,fz,T',(hw _ (.inl ⟨rfl,h0,rfl⟩)).trans h1,fun i v hi=>let ⟨v',a,b⟩:=h2 i v hi;⟨v',a,b.mono he⟩,h3⟩
 | mp c t T =>
   obtain⟨h0,y,es,clock,rows,h1,h2,h3,h4⟩:=h;exact⟨h0,y,es,clock,rows,h1,h2,(hw _ (.inl ⟨rfl,h0.1,rfl⟩)).trans h3,h4⟩
 | iter s pos=>exact⟨h.1,(hw _ (.inl ⟨rfl,h.1.1,rfl⟩)).trans h.2⟩
 | lp f q vs st=>obtain⟨h0,r,h1,h2⟩:=h;exact⟨h0,r,(hw _ (.inl ⟨rfl,h0.1,rfl⟩)).trans h1,h2.mono he⟩
 | dfr b=>obtain⟨h0,x,h1,h2⟩:=h;exact⟨h0,x,(hw _ (.inl ⟨rfl,h0.1,rfl⟩)).trans h1,h2⟩
 | sq c t T g ro =>
   obtain⟨wd,inf,h1,h2,h3,h4⟩:=SqR.ex h;refine⟨⟨wd,inf,h1,h2,h3,h4.imp (fun x=>x) fun⟨hon,h5⟩=>⟨hon,?_⟩⟩⟩;obtain⟨C,fz,T',rows,lg,h1,h2,h3,h4,h5,h6,h7,h8,h9⟩:=h5;exact⟨C,fz,T',rows,lg,(hw _ (.inl ⟨rfl,hon,rfl⟩)).trans h1,h2,h3,h4,h5,h6,he _ _ h7,h8,h9⟩
 | frz=>exact⟨h.1,fun k o hk=>(hw k (.inr ⟨rfl,o,hk⟩)).trans (h.2 k o hk)⟩
structure HR (P:Program) (base:Nat) (ρ:Ren) (H:Hp AB) (w:World):Prop where
 dom:∀ b l,ρ b=some l→b≤I4
 at_:∀ id,id≤I4→∀ ab,Hp.get H id=some ab→∃ l,ρ id=some l∧BR P ρ ab l w∧(ab.rw=true→l.on=true→base≤l.blk∧∀ id2,id2≤I4→∀ ab2 l2,Hp.get H id2=some ab2→ρ id2=some l2→Tc ab2 l2 l.blk→id2=id)
def BR.tc{P:Program}{ρ:Ren}{ab:AB}{l:Loc}{w:World}(h:BR P ρ ab l w){k:Nat}(ht:Tc ab l k):k<w.heap.size:=by
 have key:∀ k o,w.heap[k]? = some o→k<w.heap.size:=fun k o ho=>(D9.1 ho).1
 rcases ht with⟨h1,hon,rfl⟩|⟨rfl,o,h1⟩
 ·cases ab with
  | cells cs T ro=>obtain⟨_,C,fz,T',h1,_⟩:=h;exact key _ _ h1
  | mp c t T=>obtain⟨h0,y,es,clock,rows,h1,h2,h3,h4⟩:=h;exact key _ _ h3
  | iter s pos=>exact key _ _ h.2
  | lp f q vs st=>obtain⟨_,r,h1,_⟩:=h;exact key _ _ h1
  | dfr b=>obtain⟨_,x,h1,_⟩:=h;exact key _ _ h1
  | sq c t T g ro =>
    obtain⟨wd,inf,_,_,_,h4⟩:=SqR.ex h;rcases h4 with⟨h5,_⟩|⟨_,h5⟩
    ·rw[hon]at h5;cases h5
    ·obtain⟨C,fz,T',rows,lg,h1,_⟩:=h5;exact key _ _ h1
  | frz=>cases h1
 ·exact key _ _ (h.2 k o h1)
def HR.atl{P:Program}{base:Nat}{ρ:Ren}{H:Hp AB}{w:World}(h:HR P base ρ H w){id:Nat}{l:Loc}(hl:ρ id=some l){ab:AB}(hg:Hp.get H id=some ab) :
  BR P ρ ab l w∧(ab.rw=true→l.on=true→base≤l.blk∧∀ id2,id2≤I4→∀ ab2 l2,Hp.get H id2=some ab2→ρ id2=some l2→Tc ab2 l2 l.blk→id2=id):=by
 obtain⟨l0,h1,h2,h3⟩:=h.at_ id (h.dom id l hl) ab hg;rw[hl]at h1
 have:=B1 h1;subst this;exact⟨h2,h3⟩
def HR.sub{P:Program}{base:Nat}{ρ:Ren}{H H':Hp AB}{w:World}(h:HR P base ρ H w)(hs:∀ id,id≤I4→∀ ab,Hp.get H' id=some ab→Hp.get H id=some ab):HR P base ρ H' w :=
 ⟨h.dom,fun id hid ab hab=>let ⟨l,a,b,c⟩:=h.at_ id hid ab (hs id hid ab hab);⟨l,a,b,fun hr ho=>⟨(c hr ho).1,fun id2 hid2 ab2 l2 g=>(c hr ho).2 id2 hid2 ab2 l2 (hs id2 hid2 ab2 g)⟩⟩⟩
def AB.fr:AB→Bool
 | .cells _ _ ro=>!ro
 | _=>true
def AB.rw_fr{ab:AB}(h:ab.rw=true):ab.fr=true:=by
 cases ab<;>first|rfl|exact h
def Tf(ab:AB)(l:Loc)(k:Nat):Prop:=ab.fr=true∧Tc ab l k
def Fp(ρ:Ren)(H:Hp AB)(k:Nat):Prop:=∃ id ab l,id≤I4∧Hp.get H id=some ab∧ρ id=some l∧Tf ab l k
structure St (P:Program) (base:Nat) (ρ ρ':Ren) (m m':Mem) (w w':World):Prop where
 ext:∀ b l,ρ b=some l→ρ' b=some l
 new:∀ b l,ρ' b=some l→ρ b=none→m.n≤b∧b<m'.n
 nle:m.n≤m'.n
 hle:m.hi≤m'.hi
 nhi:m.n≤m.hi→m'.n≤m'.hi
 hr:HR P base ρ' m'.H w'
 wsub:∀ b ∈ m.W,b ∈ m'.W
 wrw:∀ b ∈ m'.W,b ∉ m.W→∀ l,ρ b=some l→∃ ab,Hp.get m.H b=some ab∧ab.rw=true
 keep:∀ k,k<w.heap.size→(∀ b ∈ m'.W,∀ l,ρ b=some l→l.on=true→l.blk≠k)→w'.heap[k]? = w.heap[k]?
 size:w.heap.size≤w'.heap.size
 os:w'.os=w.os∧w'.tape=w.tape∧w'.output=w.output
 blk:∀ b l,ρ' b=some l→ρ b=none→l.on=true→w.heap.size≤l.blk∨∃ b0 ∈ m'.W,∃ l0,ρ b0=some l0∧l0.on=true∧l0.blk=l.blk
 same:∀ id,id≤I4→id ∉ m'.W→(id<m.n∨m'.hi≤id)→Hp.get m'.H id=Hp.get m.H id
 tch:∀ k,Fp ρ' m'.H k→w.heap.size≤k∨Fp ρ m.H k
def L6(ρ:Ren)(n hi:Nat):Prop:=∀ b,n≤b→b<hi→ρ b=none
def St.refl{P:Program}{base:Nat}{ρ:Ren}{m:Mem}{w:World}(h:HR P base ρ m.H w):St P base ρ ρ m m w w :=
 ⟨fun _ _ h=>h,fun b l h1 h2=>(by rw[h1]at h2;cases h2),B0 _,B0 _,fun h=>h,h,fun _ h=>h,fun b h1 h2=>absurd h1 h2,fun _ _ _=>rfl,B0 _,⟨rfl,rfl,rfl⟩,fun b l h1 h2=>(by rw[h1]at h2;cases h2),fun _ _ _ _=>rfl,fun _ h=>.inr h⟩
def St.trans{P:Program}{base:Nat}{ρ ρ1 ρ2:Ren}{m m1 m2:Mem}{w w1 w2:World}(hf:L6 ρ m.n m2.hi)(a:St P base ρ ρ1 m m1 w w1)(c:St P base ρ1 ρ2 m1 m2 w1 w2):St P base ρ ρ2 m m2 w w2:=by
 refine⟨fun b l h=>c.ext b l (a.ext b l h),fun b l h1 h2=>?_,C4 a.nle c.nle,C4 a.hle c.hle,fun h=>c.nhi (a.nhi h),c.hr,fun b h=>c.wsub b (a.wsub b h),fun b h1 h2 l hl=>?_,fun k hk hb=>?_,C4 a.size c.size,⟨c.os.1.trans a.os.1,c.os.2.1.trans a.os.2.1,c.os.2.2.trans a.os.2.2⟩,fun b l h1 h2 hon=>?_,fun id hid h1 h2=>?_,fun k hk=>(c.tch k hk).elim (fun h=>.inl (C4 a.size h)) (a.tch k)⟩
 ·cases h:ρ1 b with
  | some l1=>exact⟨(a.new b l1 h h2).1,E1 (a.new b l1 h h2).2 c.nle⟩
  | none=>exact⟨C4 a.nle (c.new b l h1 h).1,(c.new b l h1 h).2⟩
 ·by_cases h:b ∈ m1.W
  ·exact a.wrw b h h2 l hl
  ·obtain⟨ab,h3,h4⟩:=c.wrw b h1 h l (a.ext b l hl);refine⟨ab,?_,h4⟩;rw[← a.same b (a.hr.dom b l (a.ext b l hl)) h ?_]
   ·exact h3
   ·rcases G4 b m.n with hlt|hge
    ·exact .inl hlt
    ·refine .inr ?_;rcases G4 b m2.hi with h5|h5
     ·rw[hf b hge h5]at hl;cases hl
     ·exact C4 c.hle h5
 ·have h1:w1.heap[k]? = w.heap[k]? := a.keep k hk fun b hbm l hl ho=>hb b (c.wsub b hbm) l hl ho
  rw[← h1];refine c.keep k (E1 hk a.size) fun b hbm l hl ho=>?_
  cases h:ρ b with
  | some l0 =>
    have:=a.ext b l0 h;rw[this]at hl;have hl:=B1 hl;subst hl;exact hb b hbm l0 h ho
  | none =>
    rcases a.blk b l hl h ho with h5|⟨b0,h5,l0,h6,h60,h7⟩
    ·omega
    ·rw[← h7];exact hb b0 (c.wsub b0 h5) l0 h6 h60
 ·cases h:ρ1 b with
  | some l1 =>
    have:=c.ext b l1 h;rw[this]at h1;have h1:=B1 h1;subst h1;rcases a.blk b l1 h h2 hon with h5|⟨b0,h5,l0,h6,h7⟩
    ·exact .inl h5
    ·exact .inr ⟨b0,c.wsub b0 h5,l0,h6,h7⟩
  | none =>
    rcases c.blk b l h1 h hon with h5|⟨b0,h5,l0,h6,h60,h7⟩
    ·exact .inl (C4 a.size h5)
    ·cases h8:ρ b0 with
     | some l1 =>
       have:=a.ext b0 l1 h8;rw[this]at h6;have h6:=B1 h6;subst h6;exact .inr ⟨b0,h5,l1,h8,h60,h7⟩
     | none =>
       rcases a.blk b0 l0 h6 h8 h60 with h9|⟨b1,h9,l1,h10,h100,h11⟩
       ·exact .inl (h7▸h9)
       ·exact .inr ⟨b1,c.wsub b1 h9,l1,h10,h100,h11.trans h7⟩
 ·have h3:id ∉ m1.W:=fun h=>h1 (c.wsub id h)
  rw[c.same id hid h1 (h2.imp (fun h=>E1 h a.nle) fun h=>h),a.same id hid h3 (h2.imp (fun h=>h) fun h=>C4 c.hle h)]
end
section
open Go
variable [Ora]
def B8{a b:Bool}(h:(a && b)=true):a=true∧b=true:=by simpa using h
theorem A5{α:Type}{c:Bool}{x:Option α}{y:α}(h:(bif c then x else none)=some y):c=true∧x=some y:=by
 cases c
 ·simp at h
 ·exact⟨rfl,h⟩
def N5{m:Mem}{ab:AB}{v:Value}{m':Mem}(h:p9 m ab k=some (v,m')):m.n≤I4∧v=k m.n∧m'=⟨m.H.set m.n (some ab),m.n+1,m.W,upN m.hi m.n,m.lg⟩:=by
 obtain⟨H,n,W,hi,lg⟩:=m;simp only[p9,F5,gF]at h;obtain⟨h1,h2⟩:=A5 h;simp only[D7,O7]at h2;exact⟨by simpa using h1,h2.1.symm,h2.2.symm⟩
def X5{m:Mem}{id:Nat}{ab:AB}{m':Mem}(h:gA m id ab=some m'):id≤I4∧m'=⟨m.H.set id (some ab),m.n,id::m.W,m.hi,m.lg⟩:=by
 obtain⟨H,n,W,hi,lg⟩:=m;simp only[gA,F5,gF]at h;obtain⟨h1,h2⟩:=A5 h;simp only[D7]at h2;exact⟨by simpa using h1,h2.symm⟩
def v7(m:Mem)(id:Nat):lS m id=⟨m.H.set id none,m.n,id::m.W,m.hi,m.lg⟩:=by
 obtain⟨H,n,W,hi,lg⟩:=m;simp only[lS,F5,gF]
def M5(hi n:Nat):hi≤upN hi n∧n<upN hi n:=by
 unfold upN;cases h:Nat.blt n hi with
 | true=>have:=A2 h;simp;omega
 | false =>
   have:¬ n<hi:=fun h'=>by rw[show Nat.blt n hi=true from C8 h']at h;cases h
   simp;omega
def upd(ρ:Ren)(n:Nat)(l:Loc):Ren:=fun b=>if b=n then some l else ρ b
def j9{ρ:Ren}{n:Nat}{l:Loc}(h:ρ n=none):∀ b k,ρ b=some k→upd ρ n l b=some k:=fun b k hb=>by
 unfold upd;by_cases e:b=n
 ·subst e;rw[h]at hb;cases hb
 ·rw[A3 e];exact hb
def N1(ρ:Ren)(n:Nat)(l:Loc):upd ρ n l n=some l:=by simp[upd]
def X4{ρ:Ren}{n:Nat}{l:Loc}{b:Nat}{k:Loc}(h:upd ρ n l b=some k)(h0:ρ b=none):b=n∧k=l:=by
 unfold upd at h;by_cases e:b=n
 ·rw[A4 e]at h;exact⟨e,(B1 h).symm⟩
 ·rw[A3 e]at h;rw[h0]at h;cases h
section
variable {P:Program} {base:Nat} {ρ:Ren} {m m':Mem} {w w':World}
def St.alloc{ab:AB}{v:Value}{o:Obj}{l:Loc}(h:HR P base ρ m.H w)(hb:base≤w.heap.size)(hn:p9 m ab k=some (v,m'))(hf:L6 ρ m.n m'.hi)
  (ho:w'.os=w.os∧w'.tape=w.tape∧w'.output=w.output) (hh:w'.heap=w.heap.push o) (hl:l.blk=w.heap.size) (hab:BR P (upd ρ m.n l) ab l w') (hfz:ab≠.frz:=by intro h;cases h) :
  v=k m.n∧upd ρ m.n l m.n=some l∧St P base ρ (upd ρ m.n l) m m' w w':=by
 obtain⟨hle,hv,rfl⟩:=N5 hn;have hfree:ρ m.n=none:=hf m.n (B0 _) (M5 _ _).2;have hext:=j9 (l:=l) hfree;have hTc:∀ k,Tc ab l k→w.heap.size≤k:=fun k hk=>by
  rcases hk with⟨_,_,rfl⟩|⟨rfl,_⟩
  ·omega
  ·exact absurd rfl hfz
 have hold:∀ k,k<w.heap.size→w'.heap[k]? = w.heap[k]? := fun k hk=>by rw[hh,u5];rw[A3 A1]
 refine⟨hv,N1 _ _ _,hext,fun b k h1 h2=>?_,by simp,(M5 _ _).1,fun _=>m5 (M5 _ _).2,⟨fun b k hk=>?_,fun id hid a ha=>?_⟩,fun b hb=>hb,fun b h1 h2=>absurd h1 h2,fun k hk _=>hold k hk,by rw[hh];simp,ho,fun b k h1 h2 _=>?_,fun id hid h1 h2=>?_,fun k ⟨id,a,q,hid,ha,hq,ht⟩=>?_⟩
 ·obtain⟨rfl,rfl⟩:=X4 h1 h2;exact⟨B0 _,K3 _⟩
 ·cases h0:ρ b with
  | some k0 =>
    rw[hext b k0 h0]at hk
    have:=B1 hk;subst this;exact h.dom b k0 h0
  | none=>obtain⟨rfl,rfl⟩:=X4 hk h0;exact hle
 ·rw[F7 _ _ _ _ hle hid]at ha;by_cases e:id=m.n
  ·rw[A4 e]at ha;have ha:=B1 ha;subst ha;subst e;refine⟨l,N1 _ _ _,hab,fun _ _=>⟨A1,fun id2 hid2 ab2 l2 h2 h3 h4=>?_⟩⟩;cases h0:ρ id2 with
   | some k0 =>
     rw[hext id2 k0 h0]at h3
     have:=B1 h3;subst this;rw[F7 _ _ _ _ hle hid2]at h2;by_cases e2:id2=m.n
     ·exact e2
     ·rw[A3 e2]at h2
      have:=(h.atl h0 h2).1.tc h4;omega
   | none=>exact(X4 h3 h0).1
  ·rw[A3 e]at ha;obtain⟨l0,h1,h2,h3⟩:=h.at_ id hid a ha;refine⟨l0,hext _ _ h1,h2.mono hext (fun k hk=>hold _ (h2.tc hk)),fun hr ho=>⟨(h3 hr ho).1,fun id2 hid2 ab2 l2 g1 g2 g3=>?_⟩⟩;rw[F7 _ _ _ _ hle hid2]at g1;by_cases e2:id2=m.n
   ·subst e2;rw[N1]at g2
    have:=B1 g2;subst this;have g1:=B1 (by simpa using g1);subst g1
    have:=h2.tc (.inl ⟨AB.rw_on hr,ho,rfl⟩)
    have:=hTc _ g3;omega
   ·rw[A3 e2]at g1;unfold upd at g2;rw[A3 e2]at g2;exact(h3 hr ho).2 id2 hid2 ab2 l2 g1 g2 g3
 ·obtain⟨rfl,rfl⟩:=X4 h1 h2;exact .inl A1
 ·rw[F7 _ _ _ _ hle hid,A3];intro e;subst e;rcases h2 with h2|h2
  ·omega
  ·have h2:upN m.hi m.n≤m.n:=h2
   have:=(M5 m.hi m.n).2;omega
 ·have ha:Hp.get (m.H.set m.n (some ab)) id=some a:=ha;rw[F7 _ _ _ _ hle hid]at ha;by_cases e:id=m.n
  ·subst e;rw[A4 rfl]at ha;have ha:=B1 ha;subst ha;rw[N1]at hq;have hq:=B1 hq;subst hq;exact .inl (hTc k ht.2)
  ·rw[A3 e]at ha;unfold upd at hq;rw[A3 e]at hq;exact .inr ⟨id,a,q,hid,ha,hq,ht⟩
def St.write{ab ab':AB}{id:Nat}{l:Loc}(h:HR P base ρ m.H w)(hs:gA m id ab'=some m')(hg:Hp.get m.H id=some ab)(hrw:ab.rw=true)(hl:ρ id=some l)(hon:l.on=true)
  (ho:w'.os=w.os∧w'.tape=w.tape∧w'.output=w.output) (hsz:w'.heap.size=w.heap.size) (hk:∀ k,k≠l.blk→w'.heap[k]? = w.heap[k]?) (hb:BR P ρ ab' l w') (hfz:ab'≠.frz:=by intro h;cases h):St P base ρ ρ m m' w w':=by
 have hab3:∀ k,Tc ab' l k→Tc ab l k∨k=l.blk:=fun k hk=>by
  rcases hk with⟨_,_,rfl⟩|⟨rfl,_⟩
  ·exact .inr rfl
  ·exact absurd rfl hfz
 obtain⟨hle,rfl⟩:=X5 hs;obtain⟨h2,h3⟩:=h.atl hl hg;refine⟨fun _ _ h=>h,fun b k h1 h2=>(by rw[h1]at h2;cases h2),B0 _,B0 _,fun h=>h,⟨h.dom,fun id2 hid2 a ha=>?_⟩,fun b hb=>C7 _ hb,fun b h1 h2 k hk'=>?_,fun k hk' hb'=>hk k ?_,by rw[hsz];exact B0 _,ho,fun b k h1 h2=>(by rw[h1]at h2;cases h2),fun id2 hid2 h4 h5=>?_,fun k ⟨id2,a,q,hid2,ha,hq,ht⟩=>.inr ?_⟩
 ·rw[F7 _ _ _ _ hle hid2]at ha;by_cases e:id2=id
  ·rw[A4 e]at ha;have ha:=B1 ha;subst ha;subst e;refine⟨l,hl,hb,fun _ ho'=>⟨(h3 hrw ho').1,fun id3 hid3 ab3 l3 g1 g2 g3=>?_⟩⟩;rw[F7 _ _ _ _ hle hid3]at g1;by_cases e3:id3=id2
   ·exact e3
   ·rw[A3 e3]at g1;exact(h3 hrw ho').2 id3 hid3 ab3 l3 g1 g2 g3
  ·rw[A3 e]at ha;obtain⟨l2,g1,g2,g3⟩:=h.at_ id2 hid2 a ha;have hne:∀ k,Tc a l2 k→k≠l.blk:=fun k hk' hh=>e ((h3 hrw hon).2 id2 hid2 a l2 ha g1 (hh▸hk'))
   refine⟨l2,g1,g2.mono (fun _ _ h=>h) (fun k hk'=>hk _ (hne k hk')),fun hr ho'=>⟨(g3 hr ho').1,fun id3 hid3 ab3 l3 f1 f2 f3=>?_⟩⟩;rw[F7 _ _ _ _ hle hid3]at f1;by_cases e3:id3=id
   ·subst e3;rw[hl]at f2
    have:=B1 f2;subst this;have f1:=B1 (by simpa using f1);subst f1;rcases hab3 _ f3 with f3|f3
    ·exact(g3 hr ho').2 id3 hid3 ab l hg hl f3
    ·exact absurd f3 (hne _ (.inl ⟨AB.rw_on hr,ho',rfl⟩))
   ·rw[A3 e3]at f1;exact(g3 hr ho').2 id3 hid3 ab3 l3 f1 f2 f3
 ·rcases C6.1 h1 with rfl|h1
  ·exact⟨ab,hg,hrw⟩
  ·exact absurd h1 h2
 ·exact fun e=>hb' id C5 l hl hon e.symm
 ·rw[F7 _ _ _ _ hle hid2,A3];intro e;subst e;exact h4 C5
 ·have ha:Hp.get (m.H.set id (some ab')) id2=some a:=ha;rw[F7 _ _ _ _ hle hid2]at ha;by_cases e:id2=id
  ·subst e;rw[A4 rfl]at ha;have ha:=B1 ha;subst ha;rw[hl]at hq;have hq:=B1 hq;subst hq;refine⟨id2,ab,l,hid2,hg,hl,AB.rw_fr hrw,.inl ⟨AB.rw_on hrw,hon,?_⟩⟩;rcases ht.2 with⟨_,_,h⟩|⟨h,_⟩
   ·exact h
   ·exact absurd h hfz
  ·rw[A3 e]at ha;exact⟨id2,a,q,hid2,ha,hq,ht⟩
def lG{o n:Nat}{r:D4}(h:uC cs o n=some r):r=(cs.drop o).take n∧r.length=n:=by
 unfold uC at h;simp only at h;obtain⟨h1,h2⟩:=A5 h;have h2:=(B1 h2).symm;subst h2;exact⟨rfl,A0 h1⟩
theorem fL{C:Z5}{cs:D4}{s:Nat}(h:∀ (i:Nat) (v:Value),cs[i]? = some v→∃ v',C[s+i]? = some v'∧VR ρ v v'):∃ cs',LR ρ cs cs'∧∀ (i:Nat) (v':Value),cs'[i]? = some v'→C[s+i]? = some v':=by
 induction cs generalizing s with
 | nil=>exact⟨[],.nil,fun i v' h=>by simp at h⟩
 | cons v r ih =>
   obtain⟨v',h1,h2⟩:=h 0 v rfl;obtain⟨r',h3,h4⟩:=ih (s:=s+1) fun i u hi=>by
    obtain⟨u',a,b⟩:=h (i+1) u (by simpa using hi);exact⟨u',by rw[show s+1+i=s+(i+1) by omega];exact a,b⟩
   refine⟨v'::r',.cons h2 h3,fun i u hi=>?_⟩;cases i with
   | zero=>simp at hi;subst hi;simpa using h1
   | succ i =>
     have:=h4 i u (by simpa using hi);rw[show s+(i+1)=s+1+i by omega];exact this
def p8{a:Addr}{n:Nat}{r:D4}{l:Loc}(h:HR P base ρ m.H w)(hr:aO m a n=some r)(hl:ρ a.block=some l) :
  ∃ r',LR ρ r r'∧r'.length=n∧(∀ (j:Nat) (v':Value),r'[j]? = some v'→w.cell? ⟨l.blk,a.off+l.sh+j,none⟩=some v'):=by
 unfold aO at hr;split at hr
 ·rename_i cs T ro hspot hg;obtain⟨hr1,hr2⟩:=lG hr;obtain⟨⟨_,C,fz,T',h2,h3,_⟩,_⟩:=h.atl hl hg;obtain⟨r',h4,h5⟩:=fL (ρ:=ρ) (C:=C) (cs:=r) (s:=l.sh+a.off) fun i v hi=>by
   have hin:i<n:=by
    have:=(B2.1 hi).1;omega
   rw[hr1,F9 hin,H9]at hi;obtain⟨v',g1,g2⟩:=h3 _ v hi;exact⟨v',by rw[show l.sh+a.off+i=l.sh+(a.off+i) by omega];exact g1,g2⟩
  refine⟨r',h4,h4.1▸hr2,fun j v' hj=>?_⟩
  have:=h5 j v' hj;simp[World.cell?,h2,show a.off+l.sh+j=l.sh+a.off+j by omega,this]
 ·cases hr
def L5.add_none'{b o i:Nat}:(Addr.mk b o none).add i=⟨b,o+i,none⟩:=by
 unfold Addr.add;split
 ·rename_i h;subst h;rfl
 ·rfl
def L5{b o:Nat}{r':D4}{n:Nat}(hn:r'.length=n)(h:∀ (j:Nat) (v':Value),r'[j]? = some v'→w.cell? ⟨b,o+j,none⟩=some v'):(loadCells ⟨b,o,none⟩ n).run P w=.ok ⟨r'⟩ w:=by
 subst hn
 have:=run_loadCells_list (P:=P) w ⟨b,o,none⟩ r' (fun j v hj=>by rw[L5.add_none'];exact h j v hj);exact this
def nL{a:Addr}{n:Nat}(hn:r'.length=n)(h:∀ (j:Nat) (v':Value),r'[j]? = some v'→w.cell? (a.add j)=some v'):(loadCells a n).run P w=.ok ⟨r'⟩ w:=by
 subst hn;exact run_loadCells_list (P:=P) w a r' h
def n8:∀ (vs cs:List Value) (k:Nat),(dG cs k vs).length=cs.length
 | [],_,_=>rfl
 | v::r,cs,k=>by rw[dG,n8 r];simp
def UL{cs cs':D4}(h:LR ρ cs cs'):∀ {vs vs':D4} {k:Nat},LR ρ vs vs'→LR ρ (dG cs k vs) (dG cs' k vs')
 | [],vs',k,hv=>by rw[hv.nil_inv];exact h
 | v::r,vs',k,hv=>by
   obtain⟨v',r',rfl,h1,h2⟩:=hv.tail;simp only[dG];exact UL (h.set h1 k) h2
def A5k{v v':Value}(h:VR ρ v v')(hf:flat v=true):bJ v'=true:=by
 cases h with
 | hole h _=>have:=jH h;cases v'<;>first|rfl|cases this
 | junk h=>exact h (A0 hf)
 | pure hp=>cases v<;>first|rfl|cases hf|cases hp
 | ixp h hs hi hz hv=>subst hv;rfl
 | sdt h=>exact h.flat
 | _=>first|assumption|exact hf|rfl
def JI:∀ {vs vs':D4},LR ρ vs vs'→vs.all flat=true→vs'.all bJ=true
 | [],vs',h,_=>by rw[h.nil_inv];rfl
 | v::r,vs',h,hf=>by
   obtain⟨v',r',rfl,h1,h2⟩:=h.tail;simp only[dD,I7]at hf ⊢;exact⟨A5k h1 hf.1,JI h2 hf.2⟩
def n7{b o:Nat}{T:TypeId}{fz:Nat×Nat}:∀ (vs:List Value) (i:Nat) (C:Array Value) (w:World),w.heap[b]? = some (.cells C T fz)→vs.all bJ=true→o+i+vs.length≤C.size →
  (∀ i,i<C.size→¬ (fz.1≤i∧i<fz.2)) →
  ∃ w',(storeCells ⟨b,o,none⟩ vs i).run P w=.ok () w'∧(w'.os=w.os∧w'.tape=w.tape∧w'.output=w.output)∧w'.heap.size=w.heap.size∧w'.heap[b]? = some (.cells ⟨dG C.toList (o+i) vs⟩ T fz)∧∀ k,k≠b→w'.heap[k]? = w.heap[k]?
 | [],i,C,w,h,_,_,_=>⟨w,rfl,⟨rfl,rfl,rfl⟩,rfl,h,fun _ _=>rfl⟩
 | v::r,i,C,w,h,h1,hl,hz=>by
   simp only[dD,I7]at h1;simp only[B3]at hl;have hlt:o+i<C.size:=A1;have hb:(w.setCell ⟨b,o+i,none⟩ v).heap[b]? = some (.cells (C.setIfInBounds (o+i) v) T fz):=by
    simp[World.setCell,I2,h]
   obtain⟨w',hr,hs,hsz,hg,hk⟩:=n7 (b:=b) (o:=o) (T:=T) (fz:=fz) r (i+1) (C.setIfInBounds (o+i) v) (w.setCell ⟨b,o+i,none⟩ v) hb h1.2 (by simp;omega) (by simpa using hz);refine⟨w',?_,?_,?_,?_,fun k hk'=>?_⟩
   ·have hc:w.cell? ⟨b,o+i,none⟩=some C[o+i]:=by simp[World.cell?,h,hlt]
    have hf:w.frozen? ⟨b,o+i,none⟩=false:=by
     have:=hz (o+i) hlt;simp only[World.frozen?,h];by_cases h1:fz.1≤o+i<;>by_cases h2:o+i<fz.2<;>simp[h1,h2]<;>exact absurd ⟨h1,h2⟩ this
    have hst:(store ((Addr.mk b o none).add i) v).run P w=.ok () (w.setCell ⟨b,o+i,none⟩ v):=by
     rw[L5.add_none'];unfold store;cases v<;>simp_all [Sem.run,bJ]
    unfold storeCells;simp only[A6,hst,Result.andThen];exact hr
   ·simpa [World.setCell]using hs
   ·rw[hsz];simp[World.setCell]
   ·rw[hg];have:(C.setIfInBounds (o+i) v).toList=C.toList.set (o+i) v:=by simp
    rw[this];simp[dG,dC]
   ·rw[hk k hk'];simp only[World.setCell,I2];rw[A3 (fun e=>hk' e.symm)]
def mZ(vs:List Value):∀ (cs:List Value) (k i:Nat),k+vs.length≤cs.length→(dG cs k vs)[i]? = if k≤i∧i<k+vs.length then vs[i-k]? else cs[i]? := by
 induction vs with
 | nil=>intro cs k i h;simp[dG];intro h1 h2;omega
 | cons v r ih =>
   intro cs k i h;simp only[B3]at h ⊢;rw[dG,ih (cs.set k v) (k+1) i (by simp;omega)];by_cases h1:k+1≤i∧i<k+1+r.length
   ·rw[A4 h1,A4 A1,show i-k=(i-(k+1))+1 by omega];rfl
   ·rw[A3 h1];by_cases h2:i=k
    ·subst h2;rw[A4 A1,fH,d8 A1];rfl
    ·rw[A3 A1,dR (fun e=>h2 e.symm)]
def rJ{a:Addr}{vs vs':D4}{l:Loc}(h:HR P base ρ m.H w)(hw:qF m a vs=some m')(hl:ρ a.block=some l)(hv:LR ρ vs vs') :
  ∃ w',(storeCells ⟨l.blk,a.off+l.sh,none⟩ vs').run P w=.ok () w'∧St P base ρ ρ m m' w w':=by
 unfold qF at hw;split at hw
 ·rename_i cs T hspot hg;obtain⟨hc,hs⟩:=A5 hw;obtain⟨hc1,hc2⟩:=B8 hc;have hc1:=A2 hc1;rw[I6]at hs;obtain⟨⟨hon,C,fz,T',h2,h3,h4⟩,h5⟩:=h.atl hl hg;obtain⟨rfl,h6,h7⟩:=h4 rfl;have hlast:∀ i,i<cs.length→l.sh+i<C.size:=fun i hi=>by
   obtain⟨v',g,_⟩:=h3 i cs[i] (A8 hi);exact(D9.1 g).1
  have hlen:vs'.length=vs.length:=hv.1.symm;by_cases hz:vs.length=0
  ·have e1:vs=[]:=D3.1 hz;have e2:vs'=[]:=D3.1 A1;subst e1;subst e2;exact⟨w,rfl,St.write h hs hg rfl hl hon ⟨rfl,rfl,rfl⟩ rfl (fun _ _=>rfl) ⟨hon,C,fz,_,h2,by simpa [dG]using h3,h4⟩⟩
  ·have hin:l.sh+(a.off+vs.length-1)<C.size:=hlast _ A1;obtain⟨w',hr,ho,hsz,hgb,hk⟩:=n7 (P:=P) (b:=l.blk) (o:=a.off+l.sh) (fz:=fz) vs' 0 C w h2 (JI hv hc2) A1 h6;refine⟨w',hr,St.write h hs hg rfl hl hon ho hsz hk ⟨hon,_,fz,_,hgb,fun i v hi=>?_,fun _=>⟨rfl,h6.sz (by simp[n8]),by simpa [n8]using h7⟩⟩⟩;rw[mZ _ _ _ _ hc1]at hi;have hpos:C.toList.length=C.size:=by simp
   have hg2:∀ j,(dG C.toList (a.off+l.sh+0) vs')[l.sh+j]? = if a.off≤j∧j<a.off+vs'.length then vs'[j-a.off]? else C.toList[l.sh+j]? := fun j=>by
    rw[mZ _ _ _ _ A1];by_cases hj:a.off≤j∧j<a.off+vs'.length
    ·rw[A4 hj,A4 A1,show l.sh+j-(a.off+l.sh+0)=j-a.off by omega]
    ·rw[A3 hj,A3 A1]
   show ∃ v',(Array.mk (dG C.toList (a.off+l.sh+0) vs'))[l.sh+i]? = some v'∧_;simp only[K6,hg2];by_cases hj:a.off≤i∧i<a.off+vs.length
   ·rw[A4 hj]at hi;rw[A4 A1];exact hv.get hi
   ·rw[A3 hj]at hi;rw[A3 A1];obtain⟨v',g1,g2⟩:=h3 i v hi;exact⟨v',by simpa using g1,g2⟩
 ·cases hw
end
end
section
open Go
variable [Ora]
def VOk(P:Program)(base:Nat)(ρ:Ren)(m:Mem)(w:World)(s:Sem Value)(v:Value)(m':Mem):Prop :=
 ∃ v' ρ' w',s.run P w=.ok v' w'∧VR ρ' v v'∧St P base ρ ρ' m m' w w'
def UOk(P:Program)(base:Nat)(ρ:Ren)(m:Mem)(w:World)(s:Sem Unit)(m':Mem):Prop :=
 ∃ ρ' w',s.run P w=.ok () w'∧St P base ρ ρ' m m' w w'
section
variable {P:Program} {base:Nat} {ρ:Ren} {m m':Mem} {w:World}
def VOk.same{s:Sem Value}{v v':Value}(h:HR P base ρ m.H w)(hr:s.run P w=.ok v' w)(hv:VR ρ v v'):VOk P base ρ m w s v m:=⟨v',ρ,w,hr,hv,.refl h⟩
theorem dI{b:Bool}{v':Value}(h:VR ρ (.bool b) v'):v'=.bool b:=by cases h;rfl
theorem K4{k:IntKind}{n:Int}{v':Value}(h:VR ρ (.int k n) v'):v'=.int k n:=by cases h;rfl
theorem Y8{s:ByteArray}{v':Value}(h:VR ρ (.string s) v'):v'=.string s:=by cases h;rfl
theorem R9{a:Addr}{v':Value}(h:VR ρ (.pointer (some a)) v'):∃ l,ρ a.block=some l∧a.spot=none∧v'=.pointer (some ⟨l.blk,a.off+l.sh,none⟩):=by
 cases h with
 | pure hp=>simp[J1]at hp
 | ptr h=>exact⟨_,h,rfl,rfl⟩
def Y9{cs:Z5}{v':Value}(h:VR ρ (.agg cs) v'):∃ cs',v'=.agg ⟨cs'⟩∧LR ρ cs.toList cs':=by
 cases h with
 | pure hp=>simp[J1]at hp
 | agg ha h=>exact⟨_,rfl,ha,h⟩
def vE{cs:Z5}{v':Value}(h:VR ρ (.tuple cs) v'):∃ cs',v'=.tuple ⟨cs'⟩∧LR ρ cs.toList cs':=by
 cases h with
 | pure hp=>simp[J1]at hp
 | tuple ha h=>exact⟨_,rfl,ha,h⟩
def Y0{t:TypeId}{i:TypeInfo}(h:P.info? t=some i)(w:World):(typeInfo t).run P w=.ok i w:=by simp[typeInfo,A6,run_program,Result.andThen,h]
def M1{t:TypeId}{n:Nat}(h:H7 P t=some n)(w:World):(sizeOf t).run P w=.ok n w:=by
 unfold H7 at h;split at h
 ·rename_i i hi
  have:=B1 h;subst this;simp[sizeOf,A6,Y0 hi,Result.andThen]
 ·cases h
def D6{t:TypeId}{d:TypeDesc}(h:P.underlying t=some d)(w:World):(underlying t).run P w=.ok d w:=by simp[underlying,A6,run_program,Result.andThen,h]
def cW{t:TypeId}{b:Bool}(h:bF P t=some b)(w:World):(isAgg t).run P w=.ok b w:=by
 unfold bF at h;cases hu:P.underlying t with
 | none=>rw[hu]at h;cases h
 | some d =>
   rw[hu]at h;simp only[isAgg,A6,D6 hu,Result.andThen];cases d<;>cases h<;>rfl
def zK{t:TypeId}{z:Value}(h:iA P t=some z):∃ i,P.info? t=some i∧i.zero=some z∧UN z=true:=by
 unfold iA at h;split at h
 ·rename_i i hi;split at h
  ·rename_i v hv;obtain⟨h1,h2⟩:=A5 h
   have:=B1 h2;subst this;exact⟨i,hi,hv,h1⟩
  ·cases h
 ·cases h
def aZ{t:TypeId}{z:Value}(h:iA P t=some z)(w:World):(zeroValue t).run P w=.ok z w:=by
 obtain⟨i,hi,hz,_⟩:=zK h;simp[zeroValue,A6,Y0 hi,Result.andThen,hz]
def rH{t:TypeId}{z:Value}(h:iA P t=some z):LR ρ z.cells.toList z.cells.toList:=by
 obtain⟨i,hi,hz,hp⟩:=zK h;exact(VR.ofC hp).cells (by cases z<;>first|rfl|cases hp)
def NO{t:TypeId}{a:Addr}{v:Value}{l:Loc}(h:HR P base ρ m.H w)(hv:VD P m t a=some v)(hl:ρ a.block=some l) :
  ∃ v',(loadVar t ⟨l.blk,a.off+l.sh,none⟩).run P w=.ok v' w∧VR ρ v v':=by
 unfold VD at hv;split at hv
 ·rename_i ha;split at hv
  ·rename_i n hn;split at hv
   ·rename_i cs hr
    have:=B1 hv;subst this;obtain⟨r',h1,h2,h3⟩:=p8 h hr hl;refine⟨.agg ⟨r'⟩,?_,.agg h1.1 h1.2⟩;simp[loadVar,A6,cW ha,M1 hn,Result.andThen,L5 h2 h3]
   ·cases hv
  ·cases hv
 ·rename_i ha;split at hv
  ·rename_i u r hr
   have:=B1 hv;subst this;obtain⟨r',h1,h2,h3⟩:=p8 h hr hl;obtain⟨v',r2,rfl,h4,_⟩:=h1.tail;refine⟨v',?_,h4⟩
   have:=h3 0 v' rfl;simp[loadVar,A6,cW ha,Result.andThen,run_load,show w.cell? ⟨l.blk,a.off+l.sh,none⟩=some v' from by simpa using this]
  ·cases hv
 ·cases hv
def XO{t:TypeId}{a:Addr}{v v':Value}{l:Loc}(h:HR P base ρ m.H w)(hs:zV P m t a v=some m')(hl:ρ a.block=some l)(hv:VR ρ v v') :
  UOk P base ρ m w (storeVar t ⟨l.blk,a.off+l.sh,none⟩ v') m':=by
 unfold zV at hs;split at hs
 ·rename_i n hn;obtain⟨h1,h2⟩:=A5 hs;obtain⟨h1,hj⟩:=B8 h1;have h1:=A0 h1;have hc:=hv.cells (by simpa using hj);obtain⟨w',hr,hst⟩:=rJ h h2 hl hc;refine⟨ρ,w',?_,hst⟩;have e:v'.cells.size=n:=by
   have:=hc.1;simp at this;omega
  simp[storeVar,A6,M1 hn,Result.andThen,e,hr]
 ·cases hs
def jR{t:TypeId}{v:Value}(h:sY P t cs off=some v)(hc:LR ρ cs cs')(w:World):∃ v',(part t ⟨cs'⟩ off).run P w=.ok v' w∧VR ρ v v':=by
 unfold sY at h;split at h
 ·rename_i ha;split at h
  ·rename_i n hn;split at h
   ·rename_i r hr
    have:=B1 h;subst this;obtain⟨h1,h2⟩:=lG hr;have hlr:=(hc.drop off).take n;rw[← h1]at hlr;refine⟨.agg ⟨(cs'.drop off).take n⟩,?_,.agg hlr.1 hlr.2⟩;simp[part,A6,cW ha,M1 hn,Result.andThen,List.extract]
   ·cases h
  ·cases h
 ·rename_i ha;obtain⟨v',h1,h2⟩:=hc.get h;refine⟨v',?_,h2⟩;simp[part,A6,cW ha,Result.andThen,h1]
 ·cases h
set_option maxHeartbeats 1000000 in
def EM{s:Nat}(h:H7 P e=some s):∃ i,P.info? e=some i∧i.size=s:=by
 unfold H7 at h;cases hi:P.info? e with
 | none=>rw[hi]at h;cases h
 | some i=>rw[hi]at h;exact⟨i,rfl,B1 h⟩
def gS{d:Nat}{e:TypeId}{s:Nat}{xs ys:Z5}:∀ (l:List Nat),Op.eqItems d e s xs ys l=Op.eqFields d xs ys (l.map (A6T e s))
 | []=>rfl
 | i::l=>by
   rw[E9,Op.eqItems,Op.eqFields,gS l];have:(A6T e s i).name ≠ "_":=by show "x" ≠ "_";decide
   rw[A4 this];rfl
mutual
def JP:∀ (d:Nat) (t:TypeId) (x y x' y':Value) (b:Bool),eqM P d t x y=some b→VR ρ x x'→VR ρ y y'→∀ (n:Nat),d≤n→∀ w:World,(Op.equalIn n t x' y').run P w=.ok b w
 | 0,_,_,_,_,_,_,h,_,_,_,_,_=>by simp[eqM]at h
 | d+1,t,x,y,x',y',b,h,hx,hy,n,hn,w=>by
   obtain⟨n,rfl⟩:∃ k,n=k+1:=⟨n-1,A1⟩;have hn':d≤n:=A1;unfold eqM at h;split at h
   ·rename_i hu;cases dI hx;cases dI hy;cases h;simp[Op.equalIn,A6,D6 hu,Result.andThen]
   ·rename_i hu;cases K4 hx;cases K4 hy;obtain⟨h1,h2⟩:=A5 h;cases h2;have h1:=J0 h1;simp[Op.equalIn,A6,D6 hu,Result.andThen,h1]
   ·rename_i hu;cases Y8 hx;cases Y8 hy;cases h;rw[← ByteArray.toList_eq,← ByteArray.toList_eq];exact run_equalIn_string (P:=P) w n t _ _ hu
   ·rename_i hu;cases h;cases hx with|pure _=>?_
    cases hy with
    | pure _=>rename_i p _;cases p<;>simp[Op.equalIn,A6,D6 hu,Result.andThen]
    | ptr h=>simp[Op.equalIn,A6,D6 hu,Result.andThen]
   ·rename_i hu;cases h;cases hy with|pure _=>?_
    obtain⟨l,_,_,rfl⟩:=R9 hx;simp[Op.equalIn,A6,D6 hu,Result.andThen]
   ·rename_i hu;cases h;cases hx;cases hy;simp[Op.equalIn,A6,D6 hu,Result.andThen]
   ·rename_i hu;cases h;cases hx;cases hy with
    | pure hp=>simp[J1]at hp
    | iface h=>simp[Op.equalIn,A6,D6 hu,Result.andThen]
   ·rename_i hu;cases h;cases hy;cases hx with
    | pure hp=>simp[J1]at hp
    | iface h=>simp[Op.equalIn,A6,D6 hu,Result.andThen]
   ·rename_i tx vx ty vy hu;cases hx with|pure hp=>simp[J1]at hp|iface hx=>?_
    cases hy with|pure hp=>simp[J1]at hp|iface hy=>?_
    cases ht:Nat.beq tx ty with
    | false =>
      rw[ht]at h;cases h;have:tx≠ty:=fun e=>by subst e;simp at ht
      simp[Op.equalIn,A6,D6 hu,Result.andThen,this]
    | true =>
      rw[ht]at h
      have:=A0 ht;subst this;simp only[F0]at h;split at h
      ·rename_i i hi;obtain⟨h1,h2⟩:=A5 h;have ih:=JP d tx vx vy _ _ b h2 hx hy n hn' w;simp[Op.equalIn,A6,D6 hu,Result.andThen,Y0 hi,h1,ih]
      ·cases h
   ·rename_i hu;cases h;cases hx with|pure _=>?_
    cases hy with
    | pure hp=>rename_i p _ _ _;cases p<;>simp[Op.equalIn,A6,D6 hu,Result.andThen]
    | sl h hm=>simp[Op.equalIn,A6,D6 hu,Result.andThen]
    | op h hm hn hc=>simp[Op.equalIn,A6,D6 hu,Result.andThen]
    | opE hs=>simp[Op.equalIn,A6,D6 hu,Result.andThen]
   ·rename_i hu;cases h;cases hy with|pure _=>?_
    cases hx with
    | pure hp=>simp[J1]at hp
    | sl h hm=>simp[Op.equalIn,A6,D6 hu,Result.andThen]
    | op h hm hn hc=>simp[Op.equalIn,A6,D6 hu,Result.andThen]
    | opE hs=>simp[Op.equalIn,A6,D6 hu,Result.andThen]
   ·rename_i hu;cases h;cases hx with|pure _=>?_
    cases hy with
    | pure _=>rename_i p _;cases p<;>simp[Op.equalIn,A6,D6 hu,Result.andThen]
    | map h=>simp[Op.equalIn,A6,D6 hu,Result.andThen]
   ·rename_i hu;cases h;cases hx;cases hy;simp[Op.equalIn,A6,D6 hu,Result.andThen]
   ·rename_i hu;cases h;cases hx;cases hy with
    | pure hp=>simp[J1]at hp
    | func _ _ _ _=>simp[Op.equalIn,A6,D6 hu,Result.andThen]
   ·rename_i hu;cases h;cases hy;cases hx with
    | pure hp=>simp[J1]at hp
    | func _ _ _ _=>simp[Op.equalIn,A6,D6 hu,Result.andThen]
   ·rename_i fs xs ys hu;cases hs:P.stoodInHeld t with
    | true=>rw[hs]at h;cases h
    | false =>
      rw[hs]at h;obtain⟨xs',rfl,hx1⟩:=Y9 hx;obtain⟨ys',rfl,hy1⟩:=Y9 hy;have hf:P.fieldsOf t=fs:=by simp[Program.fieldsOf,hu]
      rw[run_equalIn_struct (P:=P) w n t _ _ (by rw[hf];exact hu) hs,hf];exact ST d fs.toList xs.toList ys.toList xs' ys' b h hx1 hy1 n hn' w
   ·rename_i k e xs ys hu;split at h
    ·rename_i s hs;obtain⟨xs',rfl,hx1⟩:=Y9 hx;obtain⟨ys',rfl,hy1⟩:=Y9 hy;obtain⟨i,hi,rfl⟩:=EM hs;rw[run_equalIn_array (P:=P) (w:=w) n _ _ hu hi,show P.cellsOf e=i.size by simp[Program.cellsOf,hi],gS];exact ST d _ xs.toList ys.toList xs' ys' b h hx1 hy1 n hn' w
    ·cases h
   ·cases h
def ST:∀ (d:Nat) (fs:List Field) (xs ys xs' ys':List Value) (b:Bool),eqF P d fs xs ys=some b→LR ρ xs xs'→LR ρ ys ys'→∀ (n:Nat),d≤n→∀ w:World,(Op.eqFields n ⟨xs'⟩ ⟨ys'⟩ fs).run P w=.ok b w
 | 0,_,_,_,_,_,_,h,_,_,_,_,_=>by simp[eqF]at h
 | d+1,[],_,_,_,_,_,h,_,_,_,_,_=>by
   simp only[eqF,D7]at h;subst h;simp[Op.eqFields]
 | d+1,f::fs,xs,ys,xs',ys',b,h,hx,hy,n,hn,w=>by
   unfold eqF at h;cases hnm:f.name == "_" with
   | true=>rw[hnm]at h;cases h
   | false =>
     rw[hnm]at h;simp only[E7]at h;have hn':f.name ≠ "_":=by simpa using hnm
     split at h
     ·rename_i x y h1 h2;obtain⟨x',g1,g2⟩:=jR h1 hx w;obtain⟨y',g3,g4⟩:=jR h2 hy w;split at h
      ·rename_i he;have ih:=JP d f.type x y x' y' true he g2 g4 n A1 w;have ih2:=ST d fs xs ys xs' ys' b h hx hy n A1 w;unfold Op.eqFields;rw[A4 hn'];simp[A6,g1,g3,Result.andThen,ih,ih2]
      ·rename_i he;cases h;have ih:=JP d f.type x y x' y' false he g2 g4 n A1 w;unfold Op.eqFields;rw[A4 hn'];simp[A6,g1,g3,Result.andThen,ih]
      ·cases h
     ·cases h
end
end
end
section
open Go
def rO(k:IntKind)(m:Nat)(h:m≤QO k):k.wrap (.ofNat m)=.ofNat m:=by
 cases k<;>simp only[QO]at h<;>simp only[IntKind.wrap,IntKind.bits,IntKind.signed,Nat.reduceSub]<;>simp<;>omega
def mI(k:IntKind)(n:Int):DY k n=k.wrap n:=by
 unfold DY;cases n with
 | ofNat m =>
   simp only;cases h:Nat.ble m (QO k)with
   | true=>rw[rO k m (A2 h)];rfl
   | false=>rfl
 | negSucc m=>rfl
def XF(a b:Int):B3_ a b=a+b:=by cases a<;>cases b<;>rfl
def UY(a b:Int):B2c a b=a*b:=by cases a<;>cases b<;>rfl
def TV(a b:Int):A9p a b=a-b:=by
 cases a<;>cases b<;>try rfl
 rename_i m n;simp only[A9p];cases h:Nat.ble n m with
 | true =>
   have:=A2 h;simp only[F0];show Int.ofNat (m-n)=_;have e:(Int.ofNat (m-n))=(m:Int)-(n:Int):=by simp[Int.ofNat_sub this]
   exact e
 | false=>rfl
def RW(a b:Int):ltF a b=decide (a<b):=by
 cases a with
 | ofNat m=>cases b with
   | ofNat n =>
     simp only[ltF];rw[L1];simp[Nat.blt,rG];omega
   | negSucc n=>simp only[ltF];symm;simp;omega
 | negSucc m=>cases b with
   | ofNat n=>simp only[ltF];symm;simp;omega
   | negSucc n =>
     simp only[ltF];rw[L1];simp[Nat.blt,rG];omega
def SC(a b:Int):leF a b=decide (a≤b):=by
 cases a with
 | ofNat m=>cases b with
   | ofNat n=>simp only[leF];rw[L1];simp[rG]
   | negSucc n=>simp only[leF];symm;simp;omega
 | negSucc m=>cases b with
   | ofNat n=>simp only[leF];symm;simp;omega
   | negSucc n=>simp only[leF];rw[L1];simp[rG];omega
def dB(a b:Int):DT a b=(a == b):=by
 cases a<;>cases b<;>simp only[DT]<;>rw[L1]<;>simp
 omega
def jO{k j:IntKind}(h:AH k j=true):k=j:=by cases k<;>cases j<;>first|rfl|cases h
variable [Ora]
section
variable {P:Program} {base:Nat} {ρ:Ren} {m m':Mem} {w:World}
def bM{op:BinOp}{k:IntKind}{a b:Int}{v:Value}(h:CR op k a b=some v)(w:World):(Op.intBits op k a b).run P w=.ok v w∧J1 v=true:=by
 unfold CR at h;split at h<;>cases h<;>exact⟨rfl,rfl⟩
def A5f{op:BinOp}{k:IntKind}{a b:Int}{t:TypeId}{v:Value}(hs:jW op=none)(h:nP op k a b=some v)(w:World):(binOp op t (.int k a) (.int k b)).run P w=.ok v w∧J1 v=true:=by
 unfold nP at h;cases op<;>simp only[jW]at hs<;>try cases hs
 all_goals simp only[aF,mI,XF,TV,UY,RW,SC,dB]at h
 case quo =>
  cases hb:(b == 0)<;>rw[hb]at h<;>cases h
  have:b≠0:=by simpa using hb
  exact⟨by simp[binOp,Op.intDiv,this],rfl⟩
 case rem =>
  cases hb:(b == 0)<;>rw[hb]at h<;>cases h
  have:b≠0:=by simpa using hb
  exact⟨by simp[binOp,Op.intDiv,this],rfl⟩
 case and=>exact⟨by simpa [binOp]using(bM h w).1,(bM (P:=P) h w).2⟩
 case or=>exact⟨by simpa [binOp]using(bM h w).1,(bM (P:=P) h w).2⟩
 case xor=>exact⟨by simpa [binOp]using(bM h w).1,(bM (P:=P) h w).2⟩
 case andNot=>exact⟨by simpa [binOp]using(bM h w).1,(bM (P:=P) h w).2⟩
 all_goals
  cases h;refine⟨?_,rfl⟩;simp only[binOp,Op.intCmp,Op.intArith,ne_eq,not_true,if_false];rfl
def A14:∀ a b:List UInt8,ltL a b=Op.bytesLess a b
 | [],[]=>rfl
 | _::_,[]=>rfl
 | [],_::_=>rfl
 | a::x,b::y=>by simp[ltL,Op.bytesLess,A14 x y]
def JW(a b:ByteArray):a++b=⟨⟨a.data.toList++b.data.toList⟩⟩:=by
 have h:(a++b).data=⟨a.data.toList++b.data.toList⟩:=by
  rw[ByteArray.data_append];apply K1;simp
 cases hab:a++b with
 | mk d=>rw[hab]at h;simp only at h;rw[h]
def A4n{op:BinOp}{a b:ByteArray}{t:TypeId}{v:Value}(h:A0V op a b=some v)(w:World):(binOp op t (.string a) (.string b)).run P w=.ok v w∧J1 v=true:=by
 unfold A0V at h;split at h
 ·obtain⟨h1,h2⟩:=A5 h;rw[I6]at h2;cases h2;refine⟨?_,rfl⟩;have h1:=A2 h1;have:¬ (((a.size+b.size:Nat):Int)>IntKind.i64.max):=by simp[IntKind.max,IntKind.bits,IntKind.signed];omega
  simp only[binOp,Op.stringOp,A3 this,JW];rfl
 all_goals first
  | (cases h;refine⟨?_,rfl⟩;simp only[binOp,Op.stringOp,ByteArray.toList_eq,A14];rfl)
  | cases h
def AF:Value→Bool
 | .int _ _|.bool _|.string _=>true
 | _=>false
def oR{u:U}{v:Value}(h:toV u=some v):AF v=true:=by cases u<;>cases h<;>rfl
def A5d:Value→Bool
 | .complex _ _ _=>true
 | .func (.yield _) _ _=>true
 | _=>false
def A2_{d:Nat}{t:TypeId}{a b:Value}{r:Bool}(h:eqM P d t a b=some r):A5d a=false∧A5d b=false:=by
 cases d with
 | zero=>simp[eqM]at h
 | succ d =>
   unfold eqM at h;split at h<;>first|exact⟨rfl,rfl⟩|cases h
def YW{op:BinOp}{t:TypeId}{x y:Operand}{a b a' b':Value}(hg1:nS P t x y a b=true)(ha:VR ρ a a')(hb:VR ρ b b')(w:World)(hop:op=.eql∨op=.neq):(eqGuard op t x y a' b').run P w=.ok () w:=by
 unfold eqGuard;rw[A3 (by rcases hop with rfl|rfl<;>simp)];clear hop;unfold nS at hg1;split at hg1
 ·cases ha;cases hb;simp only[J9]at hg1;rcases hg1 with hg|hg
  ·cases x<;>simp only[isC]at hg<;>first|rfl|cases hg
  ·cases y<;>simp only[isC]at hg<;>first|(cases x<;>rfl)|cases hg
 ·obtain⟨xs',rfl,_⟩:=Y9 ha;obtain⟨ys',rfl,_⟩:=Y9 hb;have hg:P.eqGuardType P.depth t=false:=by simpa using hg1
  simp[A6,run_program,Result.andThen,hg]
 ·rename_i hn1 hn2;obtain⟨hj1,hj2⟩:=B8 hg1;split
  ·exfalso;cases ha with
   | hole h _=>have:=oR h;simp[AF]at this
   | junk=>cases hj1
   | ixp _ _ _ _ hv=>cases hv
   | dat _ he ht h10 _=>obtain⟨_,_,_,q⟩:=he.slice A1;cases q
   | clp _ he ht h10 _ _=>obtain⟨_,_,_,q⟩:=he.slice A1;cases q
   | own h _ _=>rcases h with⟨_,_,_,_,_,q⟩|⟨_,_,_,_,_,_,_,_,q⟩<;>cases q
   | dpt h _ _=>obtain⟨_,_,_,_,_,_,_,_,_,_,_,_,_,q⟩:=h;cases q
   | opt h _ _=>obtain⟨_,_,_,_,_,_,_,_,_,_,q⟩:=h;cases q
   | sdt h=>obtain⟨_,_,⟨_,q⟩|⟨_,_,q,_⟩⟩:=h<;>cases q
   | pure _ =>
     cases hb with
     | hole h _=>have:=oR h;simp[AF]at this
     | junk=>cases hj2
     | ixp _ _ _ _ hv=>cases hv
     | dat _ he ht h10 _=>obtain⟨_,_,_,q⟩:=he.slice A1;cases q
     | clp _ he ht h10 _ _=>obtain⟨_,_,_,q⟩:=he.slice A1;cases q
     | own h _ _=>rcases h with⟨_,_,_,_,_,q⟩|⟨_,_,_,_,_,_,_,_,q⟩<;>cases q
     | dpt h _ _=>obtain⟨_,_,_,_,_,_,_,_,_,_,_,_,_,q⟩:=h;cases q
     | opt h _ _=>obtain⟨_,_,_,_,_,_,_,_,_,_,q⟩:=h;cases q
     | sdt h=>obtain⟨_,_,⟨_,q⟩|⟨_,_,q,_⟩⟩:=h<;>cases q
     | pure _=>exact hn1 rfl rfl
  ·exfalso;cases ha with
   | hole h _=>have:=oR h;simp[AF]at this
   | junk=>cases hj1
   | ixp _ _ _ _ hv=>cases hv
   | dat _ he ht h10 _=>obtain⟨_,_,_,q⟩:=he.slice A1;cases q
   | clp _ he ht h10 _ _=>obtain⟨_,_,_,q⟩:=he.slice A1;cases q
   | own h _ _=>rcases h with⟨_,_,_,_,_,q⟩|⟨_,_,_,_,_,_,_,_,q⟩<;>cases q
   | dpt h _ _=>obtain⟨_,_,_,_,_,_,_,_,_,_,_,_,_,q⟩:=h;cases q
   | opt h _ _=>obtain⟨_,_,_,_,_,_,_,_,_,_,q⟩:=h;cases q
   | sdt h=>obtain⟨_,_,⟨_,q⟩|⟨_,_,q,_⟩⟩:=h<;>cases q
   | pure h=>simp[J1]at h
   | agg _ _ =>
     cases hb with
     | hole h _=>have:=oR h;simp[AF]at this
     | junk=>cases hj2
     | ixp _ _ _ _ hv=>cases hv
     | dat _ he ht h10 _=>obtain⟨_,_,_,q⟩:=he.slice A1;cases q
     | clp _ he ht h10 _ _=>obtain⟨_,_,_,q⟩:=he.slice A1;cases q
     | own h _ _=>rcases h with⟨_,_,_,_,_,q⟩|⟨_,_,_,_,_,_,_,_,q⟩<;>cases q
     | dpt h _ _=>obtain⟨_,_,_,_,_,_,_,_,_,_,_,_,_,q⟩:=h;cases q
     | opt h _ _=>obtain⟨_,_,_,_,_,_,_,_,_,_,q⟩:=h;cases q
     | sdt h=>obtain⟨_,_,⟨_,q⟩|⟨_,_,q,_⟩⟩:=h<;>cases q
     | pure h=>simp[J1]at h
     | agg _ _=>exact hn2 _ _ rfl rfl
  ·rfl
def tP{op:BinOp}{t:TypeId}{x y:Operand}{a b a' b':Value}(hg:BL op=true→nS P t x y a b=true)(ha:VR ρ a a')(hb:VR ρ b b')(w:World):(eqGuard op t x y a' b').run P w=.ok () w:=by
 cases hop:BL op with
 | false =>
   unfold eqGuard;cases op<;>simp only[BL]at hop<;>first|rfl|cases hop
 | true=>exact YW (hg hop) ha hb w (by cases op<;>simp only[BL]at hop<;>first|(exact .inl rfl)|(exact .inr rfl)|cases hop)
def A50{t:TypeId}{a b a' b':Value}(ha:VR ρ a a')(hb:VR ρ b b')(hn1:∀ (k j:IntKind) (x y:Int),a=.int k x→b=.int j y→False)(hn2:∀ x y:ByteArray,a=.string x→b=.string y→False)(hc1:A5d a=false)(hc2:A5d b=false)(e:Bool) :
  binOp (bif e then .eql else .neq) t a' b'=(do let r ← Op.equal t a' b';pure (.bool (bif e then r else !r))):=by
 cases ha with
 | hole _ _=>cases hc1
 | junk=>cases hc1
 | ixp _ _ _ _ _=>cases hc1
 | dat _ _ _ _ _=>cases hc1
 | clp _ _ _ _ _ _=>cases hc1
 | own _ _ _=>cases hc1
 | dpt _ _ _=>cases hc1
 | opt _ _ _=>cases hc1
 | sdt _=>cases hc1
 | pure hp =>
   cases a<;>simp only[J1]at hp<;>try cases hp
   all_goals
    cases hb with
    | hole _ _=>cases hc2
    | junk=>cases hc2
    | ixp _ _ _ _ _=>cases hc2
    | dat _ _ _ _ _=>cases hc2
    | clp _ _ _ _ _ _=>cases hc2
    | own _ _ _=>cases hc2
    | dpt _ _ _=>cases hc2
    | opt _ _ _=>cases hc2
    | sdt _=>cases hc2
    | pure hq=>cases b<;>simp only[J1]at hq<;>first|(cases e<;>rfl)|(exfalso;exact hn1 _ _ _ _ rfl rfl)|(exfalso;exact hn2 _ _ rfl rfl)|cases hq
    | _=>cases e<;>rfl
 | _ =>
   cases hb with
   | hole _ _=>cases hc2
   | junk=>cases hc2
   | ixp _ _ _ _ _=>cases hc2
   | dat _ _ _ _ _=>cases hc2
   | clp _ _ _ _ _ _=>cases hc2
   | own _ _ _=>cases hc2
   | dpt _ _ _=>cases hc2
   | opt _ _ _=>cases hc2
   | sdt _=>cases hc2
   | pure hq=>cases b<;>simp only[J1]at hq<;>first|(cases e<;>rfl)|cases hq
   | _=>cases e<;>rfl
def zI{op:BinOp}{t:TypeId}{a b a' b' v:Value}(h:uH P op t a b=some v)(ha:VR ρ a a')(hb:VR ρ b b')(w:World):(binOp op t a' b').run P w=.ok v w∧J1 v=true:=by
 unfold uH at h;split at h
 ·cases K4 ha;cases K4 hb;unfold bG at h;split at h
  ·rename_i l hl;split at h
   ·rename_i n;cases h;unfold HU;cases op<;>simp only[jW]at hl<;>cases hl
    ·refine⟨?_,by simp[aF,J1]⟩;simp[binOp,Op.shift,aF];intro h;omega
    ·refine⟨?_,by simp[aF,J1]⟩;simp[binOp,Op.shift,aF];intro h;omega
   ·cases h
  ·rename_i hl;obtain⟨h1,h2⟩:=A5 h;cases jO h1;exact A5f hl h2 w
 ·cases Y8 ha;cases Y8 hb;exact A4n h w
 ·rename_i hn1 hn2;unfold EU at h;have he:∀ r,eqM P 20 t a b=some r→(Op.equal t a' b').run P w=.ok r w:=fun r hr=>JP 20 t a b a' b' r hr ha hb _ C3 w
  have hq:=fun(r:Bool) (hr:eqM P 20 t a b=some r) e=>A50 (t:=t) ha hb (fun k j x y=>hn1 k x j y) (fun x y=>hn2 x y) (A2_ hr).1 (A2_ hr).2 e
  split at h
  ·split at h
   ·rename_i r hr;cases h;refine⟨?_,rfl⟩;have h3:=hq r hr true;simp only[F0]at h3;rw[h3];simp[A6,he r hr,Result.andThen]
   ·cases h
  ·split at h
   ·rename_i r hr;cases h;refine⟨?_,rfl⟩;have h3:=hq r hr false;simp only[E7]at h3;rw[h3];simp[A6,he r hr,Result.andThen]
   ·cases h
  ·cases h
end
end
section
open Go
variable [Ora]
section
variable {P:Program} {base:Nat} {ρ:Ren} {m m':Mem} {w:World}
def eW(a:Addr)(n:Nat):cG a n=⟨a.block,a.off+n,none⟩:=by simp[cG,F5]
def i6(b o i:Nat):(Addr.mk b o none).add i=⟨b,o+i,none⟩:=L5.add_none'
def nV{s:TypeId}{x v:Value}{i:Nat}(h:dK P s x i=some v)(hx:VR ρ x x')(w:World):∃ v',(Instr.fieldAt s x' i).run P w=.ok v' w∧VR ρ v v':=by
 unfold dK at h;split at h
 ·rename_i fs a hu;obtain⟨l,hl,hs,rfl⟩:=R9 hx;split at h
  ·rename_i f hf hs';split at h
   ·rename_i n hn;cases h;rw[eW];refine⟨_,?_,.ptr hl⟩;have hf':fs[i]? = some f:=by simpa using hf
    have:=M1 hn w;simp[Instr.fieldAt,A6,D6 hu,Result.andThen,hf',Instr.sureAddr,fieldPlace,this,i6]
   ·cases h
  ·cases h
 ·cases h
def YZ{t:TypeId}{x v:Value}{i:Nat}(h:JJ P t x i=some v)(hx:VR ρ x x')(w:World):∃ v',(Instr.field t x' i).run P w=.ok v' w∧VR ρ v v':=by
 unfold JJ at h;split at h
 ·rename_i fs cs hu;obtain⟨cs',rfl,hc⟩:=Y9 hx;split at h
  ·rename_i f hf;obtain⟨v',h1,h2⟩:=jR h hc w;have hf':fs[i]? = some f:=by simpa using hf
   refine⟨v',?_,h2⟩;simp[Instr.field,A6,D6 hu,Result.andThen,hf',asAgg,h1]
  ·cases h
 ·cases h
def dJ{t:TypeId}{x i v:Value}(h:g8 P t x i=some v)(hx:VR ρ x x')(hi:VR ρ i i')(w:World):∃ v',(Instr.indexAt t x' i').run P w=.ok v' w∧VR ρ v v':=by
 unfold g8 at h;split at h
 ·rename_i n e a k0 k hu;cases K4 hi;obtain⟨l,hl,hs,rfl⟩:=R9 hx;split at h
  ·rename_i s hn hs';obtain⟨h1,h2⟩:=A5 h;cases h2;have h1:k<n:=A2 h1;rw[eW];refine⟨.pointer (some ⟨l.blk,a.off+k*s+l.sh,none⟩),?_,.ptr hl⟩;simp[Instr.indexAt,A6,D6 hu,Result.andThen,asIntOf,M1 hn,h1,i6,Instr.sureAddr]
  ·cases h
 ·rename_i e a n c k0 k hu;cases K4 hi;split at h
  ·rename_i s hn hs';obtain⟨h1,h2⟩:=A5 h;cases h2;have h1:k<n:=A2 h1;rw[eW];cases hx with
   | pure hp=>simp[J1]at hp
   | sl hl hm =>
     rename_i b o l;refine⟨.pointer (some ⟨l.blk,o+k*s+l.sh,none⟩),?_,.ptr hl⟩;simp[Instr.indexAt,A6,D6 hu,Result.andThen,asIntOf,M1 hn,h1,i6]
   | op hl hm hn' hc =>
     rename_i b o l _;refine⟨.pointer (some ⟨l.blk,o+k*s+l.sh,none⟩),?_,.ptr hl⟩;simp[Instr.indexAt,A6,D6 hu,Result.andThen,asIntOf,M1 hn,h1,i6]
   | opE hs=>omega
  ·cases h
 ·cases h
def vF{t:TypeId}{x i v:Value}(h:nQ P t x i=some v)(hx:VR ρ x x')(hi:VR ρ i i')(w:World):∃ v',(Instr.index t x' i').run P w=.ok v' w∧VR ρ v v':=by
 unfold nQ at h;split at h
 ·rename_i n e cs k0 k hu;cases K4 hi;obtain⟨cs',rfl,hc⟩:=Y9 hx;split at h
  ·rename_i s hn;obtain⟨h1,h2⟩:=A5 h;have h1:k<n:=A2 h1;obtain⟨v',h3,h4⟩:=jR h2 hc w;refine⟨v',?_,h4⟩;simp[Instr.index,A6,D6 hu,Result.andThen,asIntOf,M1 hn,h1,h3]
  ·cases h
 ·rename_i s k0 k hu;cases K4 hi;cases Y8 hx;split at h
  ·rename_i b hb;cases h;refine⟨_,?_,.pure rfl⟩;have hlt:k<s.size:=by
    have:=(B2.1 hb).1
    simpa using this
   have hg:s[k]? = some b:=by
    rw[getElem?_pos s k hlt]
    have:=(B2.1 hb).2;rw[← this];rfl
   simp[Instr.index,A6,D6 hu,Result.andThen,asIntOf,hg]
  ·cases h
 ·cases h
def NB{x v:Value}{i:Nat}(h:nC m x i=some (v,m'))(hx:VR ρ x x')(w:World):m'=m∧∃ v',(Instr.extract x' i).run P w=.ok v' w∧VR ρ v v':=by
 unfold nC at h;split at h
 ·rename_i vs;obtain⟨cs',rfl,hc⟩:=vE hx;unfold noM at h;split at h
  ·rename_i u hu;cases h;obtain⟨v',h1,h2⟩:=hc.get hu;exact⟨rfl,v',by simp[Instr.extract,h1],h2⟩
  ·cases h
 ·cases h
def GB:∀ (vs:List Value) (off k:Nat) (C:Array Value),((vs.zipIdx k).foldl (fun(cs:Array Value) (x:Value×Nat)=>cs.setIfInBounds (off+x.2) x.1) C)=⟨dG C.toList (off+k) vs⟩
 | [],off,k,C=>rfl
 | v::r,off,k,C=>by
   simp only[List.zipIdx_cons,List.foldl_cons];rw[GB r off (k+1)];simp[dG,dC]
def PR(ρ:Ren):List (Nat×Value)→List (Nat×Value)→Prop
 | [],[]=>True
 | (i,v)::r,(j,v')::r'=>i=j∧VR ρ v v'∧PR ρ r r'
 | _,_=>False
def tU{place:Nat→Option (Nat×Nat)}:∀ {parts parts':List (Nat×Value)} {cs cs' r:D4},BW place cs parts=some r→PR ρ parts parts'→LR ρ cs cs'→∃ r',Instr.fill place ⟨cs'⟩ parts'=some ⟨r'⟩∧LR ρ r r'
 | [],[],cs,cs',r,h,_,hc=>by
   simp only[BW,D7]at h;subst h;exact⟨cs',rfl,hc⟩
 | [],_::_,_,_,_,_,hp,_=>hp.elim
 | _::_,[],_,_,_,_,hp,_=>hp.elim
 | (i,v)::rest,(j,v')::rest',cs,cs',r,h,⟨hij,hv,hp⟩,hc=>by
   subst hij;unfold BW at h;split at h
   ·cases h
   ·rename_i off size hpl;obtain⟨h1,h2⟩:=A5 h;obtain⟨h3,h4⟩:=B8 h1;obtain⟨h3,hj⟩:=B8 h3;have h3:=A0 h3;have h4:=A2 h4;rw[I6]at h2;have hcv:=hv.cells (by simpa using hj);have hsz:v'.cells.size=v.cells.size:=by have:=hcv.1;simp at this;omega
    obtain⟨r',h5,h6⟩:=tU h2 hp (UL hc hcv);refine⟨r',?_,h6⟩;unfold Instr.fill;simp only[hpl];rw[A3]
    ·have:=GB v'.cells.toList off 0 ⟨cs'⟩;have e:(v'.cells.zipIdx.foldl (fun(cs:Array Value) (x:Value×Nat)=>cs.setIfInBounds (off+x.2) x.1) ⟨cs'⟩)=⟨dG cs' off v'.cells.toList⟩:=by
      rw[← Array.foldl_toList,Array.toList_zipIdx,this];rfl
     have e2:(Array.foldl (fun cs x=>match x with|(c,j)=>cs.setIfInBounds (off+j) c) ({ toList:=cs' }:Array Value) v'.cells.zipIdx)=⟨dG cs' off v'.cells.toList⟩:=e;rw[e2];exact h5
    ·have:=hc.1;simp[hsz];constructor
     ·exact h3
     ·omega
def AI:∀ (fs:List Field) (ps:List (Nat×Nat)),sX P fs=some ps→∀ w:World,(fs.mapM (fun f=>do pure (f.offset,← sizeOf f.type):Field→Sem (Nat×Nat))).run P w=.ok ps w
 | [],ps,h,w=>by simp only[sX,D7]at h;subst h;rfl
 | f::r,ps,h,w=>by
   unfold sX at h;split at h
   ·rename_i n l hn hl;cases h;have ih:=AI r l hl w;simp only[List.mapM_cons,A6,M1 hn,Result.andThen,Sem.run_pure];rw[ih]
   ·cases h
def ZG{t:TypeId}{v:Value}(h:TB P t parts=some v)(hp:PR ρ parts parts')(w:World):∃ v',(Instr.build t ⟨parts'⟩).run P w=.ok v' w∧VR ρ v v':=by
 unfold TB at h;split at h
 ·rename_i z fs hz hu;split at h
  ·rename_i ps hps;split at h
   ·rename_i cs hcs;cases h;obtain⟨r',h1,h2⟩:=tU hcs hp (rH hz);refine⟨.agg ⟨r'⟩,?_,.agg h2.1 h2.2⟩;have hm:(fs.mapM (fun f=>do pure (f.offset,← sizeOf f.type):Field→Sem (Nat×Nat))).run P w=.ok ps.toArray w:=by
     rw[hU];show(Sem.bind (fs.toList.mapM (fun f=>do pure (f.offset,← sizeOf f.type):Field→Sem (Nat×Nat))) fun l=>Sem.pure l.toArray).run P w=_
     have:=AI _ _ hps w;have hb:∀ (x:Sem (List (Nat×Nat))) (k:List (Nat×Nat)→Sem (Array (Nat×Nat))),(Sem.bind x k).run P w=(x >>= k).run P w:=fun _ _=>rfl
     rw[hb,A6,this];rfl
    have h1':Instr.fill (fun i=>ps[i]?) z.cells parts'=some ⟨r'⟩:=h1;unfold Instr.build;simp only[A6,aZ hz,D6 hu,Result.andThen,hm,K6];simp only[h1'];rfl
   ·cases h
  ·cases h
 ·rename_i z n e hz hu;split at h
  ·rename_i s hs;split at h
   ·rename_i cs hcs;cases h;obtain⟨r',h1,h2⟩:=tU hcs hp (rH hz);refine⟨.agg ⟨r'⟩,?_,.agg h2.1 h2.2⟩;have h1':Instr.fill (fun i=>some (i*s,s)) z.cells parts'=some ⟨r'⟩:=h1;simp[Instr.build,A6,aZ hz,D6 hu,Result.andThen,M1 hs,h1']
   ·cases h
  ·cases h
 ·cases h
end
end
section
open Go
variable [Ora]
def OR(ρ:Ren):T5→T5→Prop
 | none,none=>True
 | some v,some v'=>VR ρ v v'
 | _,_=>False
def Bd(o:Option Value)(top dflt k:Nat):Prop:=(o=none∧k=dflt)∨∃ j,o=some (.int j (.ofNat k))∧k≤top
section
variable {P:Program} {base:Nat} {ρ:Ren} {m m':Mem} {w:World}
def P5{o:T5}{k:Nat}(h:X0 o top dflt=some k)(ho:OR ρ o o'):Bd o' top dflt k:=by
 unfold X0 at h;split at h
 ·cases h;cases o' with
  | none=>exact .inl ⟨rfl,rfl⟩
  | some _=>exact ho.elim
 ·obtain⟨h1,h2⟩:=A5 h;cases h2;cases o' with
  | none=>exact ho.elim
  | some v' =>
    have ho:VR ρ _ v':=ho;cases K4 ho;exact .inr ⟨_,rfl,A2 h1⟩
 ·cases h
def YB{v:Value}{j:IntKind}{k:Nat}{c:BoundsCode}(hv:v=.int j (.ofNat k))(h:k≤y)(w:World):(Instr.sliceBound v y c).run P w=.ok k w:=by
 subst hv;simp[Instr.sliceBound,A6,asIntOf,Result.andThen,h]
def kS{b:Bool}{len cap l h:Nat}{hi:T5}(h1:Bd mx cap cap mm)(h0:hi=none→mx=none)(h2:Bd hi mm len h)(h3:Bd lo h 0 l)(w:World) :
  (Instr.sliceBounds b len cap lo hi mx).run P w=.ok (l,h,mm) w:=by
 unfold Instr.sliceBounds;rcases h1 with⟨rfl,rfl⟩|⟨j,rfl,h1⟩<;>rcases h2 with⟨rfl,rfl⟩|⟨j2,rfl,h2⟩<;>rcases h3 with⟨rfl,rfl⟩|⟨j3,rfl,h3⟩
 all_goals first
  | (exfalso;have:=h0 rfl;cases this;done)
  | (simp only[A6,Sem.run_pure,Result.andThen];repeat (first|rw[YB rfl ‹_›]|simp only[Result.andThen,A6,Sem.run_pure]));done
def VR.slice{a a':Addr}{n c c':Nat}(h:VR ρ (.slice (some a) n c) (.slice (some a') n c')):True:=trivial
def R2{a:Addr}{n c:Nat}(h:VR ρ (.slice (some a) n c) x') :
  (∃ l,ρ a.block=some l∧a.spot=none∧c<O6∧x'=.slice (some ⟨l.blk,a.off+l.sh,none⟩) n c) ∨
  (∃ l c',ρ a.block=some l∧a.spot=none∧O6≤c∧n≤c'∧(c=O6→a.off=0→c'=l.cap)∧x'=.slice (some ⟨l.blk,a.off+l.sh,none⟩) n c') ∨
  (∃ a' c',a'.spot=none∧n=0∧c=O6+2∧x'=.slice (some a') 0 c'):=by
 cases h with
 | pure hp=>simp[J1]at hp
 | sl hl hm=>exact .inl ⟨_,hl,rfl,hm,rfl⟩
 | op hl hm hn hc=>exact .inr (.inl ⟨_,_,hl,rfl,hm,hn,hc,rfl⟩)
 | opE hs=>exact .inr (.inr ⟨_,_,hs,rfl,rfl,rfl⟩)
def S4{n c:Nat}(h:VR ρ (.slice none n c) x'):x'=.slice none n c:=by cases h;rfl
def OR.none_iff{o:T5}(h:OR ρ o o'):o=none↔o'=none:=by
 cases o<;>cases o'<;>simp_all [OR]
def wJ{t:TypeId}{s n c l h:Nat}{a:Option Addr}{hi:T5}(hu:P.underlying t=some (.slice e))(hs:H7 P e=some s)(h1:Bd mx c c mm)(h0:hi=none→mx=none)(h2:Bd hi mm n h)(h3:Bd lo h 0 l)(w:World) :
  (Instr.sliceAt t (.slice a n c) lo hi mx).run P w=.ok (.slice (if mm=l then a else a.map (·.add (l*s))) (h-l) (mm-l)) w:=by
 have:=kS (P:=P) (b:=true) h1 h0 h2 h3 w;simp[Instr.sliceAt,Instr.slice,A6,D6 hu,Result.andThen,this,M1 hs]
def jB(s:ByteArray)(l h:Nat):s.extract l h=⟨⟨(s.data.toList.drop l).take (h-l)⟩⟩:=by
 have h1:(s.extract l h).data=⟨(s.data.toList.drop l).take (h-l)⟩:=by
  rw[ByteArray.data_extract];apply K1;simp[List.extract]
 cases hab:s.extract l h with
 | mk d=>rw[hab]at h1;simp only at h1;rw[h1]
def jN{t:TypeId}{x v:Value}{hi lo' hi' mx':T5}(h:dT P t x lo hi mx=some v)(hx:VR ρ x x')(hlo:OR ρ lo lo')(hhi:OR ρ hi hi')(hmx:OR ρ mx mx')(w:World) :
  ∃ v',(Instr.sliceAt t x' lo' hi' mx').run P w=.ok v' w∧VR ρ v v':=by
 unfold dT at h;split at h
 ·
  rename_i s hu;cases Y8 hx;split at h
  ·rename_i hh h2;split at h
   ·rename_i l h3;cases h;refine⟨_,?_,.pure rfl⟩;have hm:mx'=none:=hmx.none_iff.1 rfl;subst hm
    have:=kS (P:=P) (b:=false) (len:=s.size) (cap:=s.size) (mx:=none) (.inl ⟨rfl,rfl⟩) (fun _=>rfl) (P5 h2 hhi) (P5 h3 hlo) w;simp[Instr.sliceAt,Instr.slice,A6,D6 hu,Result.andThen,this,jB]
   ·cases h
  ·cases h
 ·
  rename_i e n c hu;cases S4 hx;split at h
  ·rename_i h1 h2 h3;obtain⟨h4,h5⟩:=(by
    cases hq:(mx.isSome && hi.isNone) || (H7 P e).isNone with
    | true=>rw[hq]at h;cases h
    | false=>rw[hq]at h;exact⟨rfl,h⟩:((mx.isSome && hi.isNone) || (H7 P e).isNone)=false∧some (Value.slice none 0 0)=some v)
   cases h5;simp only[M4]at h4;obtain⟨h4,h6⟩:=h4;refine⟨.slice none 0 0,?_,.pure rfl⟩;have hk1:=P5 h1 hmx;have hk2:=P5 h2 hhi;have hk3:=P5 h3 hlo;have z:∀ {o:T5} {k:Nat},Bd o 0 0 k→k=0:=fun hb=>by rcases hb with⟨_,rfl⟩|⟨_,_,hb⟩<;>omega
   have z1:=z hk1;have z2:=z hk2;have z3:=z hk3;subst z1;subst z2;subst z3;have h0:hi'=none→mx'=none:=fun hn=>by
    have e1:=(hhi.none_iff).2 hn;subst e1;cases mx with
    | none=>exact hmx.none_iff.1 rfl
    | some _=>simp at h4
   obtain⟨s,hs⟩:∃ s,H7 P e=some s:=by cases hq:H7 P e with|none=>rw[hq]at h6;cases h6|some s=>exact⟨s,rfl⟩
   have:=kS (P:=P) (b:=true) hk1 h0 hk2 hk3 w;simp[Instr.sliceAt,Instr.slice,A6,D6 hu,Result.andThen,this,M1 hs]
  ·cases h
 ·
  rename_i e a n c hu;split at h
  ·rename_i s hs hspot;have hfin:∀ (c' l hh mm:Nat) (a':Addr),Bd mx' c' c' mm→(hi'=none→mx'=none)→Bd hi' mm n hh→Bd lo' hh 0 l→(Instr.sliceAt t (.slice (some a') n c') lo' hi' mx').run P w=.ok (.slice (if mm=l then some a' else(some a').map (·.add (l*s))) (hh-l) (mm-l)) w :=
    fun c' l hh mm a' h1 h0 h2 h3=>wJ hu hs h1 h0 h2 h3 w
   have hmove:∀ (l mm:Nat) (lc:Loc),ρ a.block=some lc→(if mm=l then some (Addr.mk lc.blk (a.off+lc.sh) none)else(some (Addr.mk lc.blk (a.off+lc.sh) none)).map (·.add (l*s)))=some ⟨lc.blk,(bif Nat.beq mm l then a else cG a (l*s)).off+lc.sh,none⟩∧(bif Nat.beq mm l then a else cG a (l*s)).block=a.block∧((bif Nat.beq mm l then a else cG a (l*s)).spot=none):=fun l mm lc hlc=>by
    by_cases e1:mm=l
    ·subst e1;simp[hspot]
    ·have:Nat.beq mm l=false:=by cases hb:Nat.beq mm l with|false=>rfl|true=>exact absurd (A0 hb) e1
     simp[this,e1,eW,i6]
   cases hc:Nat.blt c O6 with
   | true =>
     have hc':c<O6:=A2 hc;rw[hc]at h;simp only[F0]at h;rcases R2 hx with⟨lc,hl,_,_,rfl⟩|⟨lc,c',_,_,ho,_⟩|⟨a',c',_,_,rfl,_⟩
     ·split at h
      ·rename_i mm h1;split at h
       ·rename_i hh h2;split at h
        ·rename_i l h3;cases h;have hb1:=P5 h1 hmx;have h0:hi'=none→mx'=none:=fun hn=>by
          have e1:=(hhi.none_iff).2 hn;subst e1;cases mx with
          | none=>exact hmx.none_iff.1 rfl
          | some _=>cases h2
         have hb2:Bd hi' mm n hh:=by
          cases hi with
          | none=>cases mx with
            | none=>exact P5 h2 hhi
            | some _=>cases h2
          | some _=>cases mx<;>exact P5 h2 hhi
         refine⟨_,hfin c l hh mm _ hb1 h0 hb2 (P5 h3 hlo),?_⟩;obtain⟨g1,g2,g3⟩:=hmove l mm lc hl;rw[g1];have hmc:mm≤c:=by rcases hb1 with⟨_,rfl⟩|⟨_,_,hb⟩<;>omega
         generalize hA:(bif Nat.beq mm l then a else cG a (l*s))=A at g2 g3 ⊢;obtain⟨ab,ao,asp⟩:=A;simp only at g2 g3;subst g3;exact .sl (by rw[g2];exact hl) A1
        ·cases h
       ·cases h
      ·cases h
     ·omega
     ·omega
   | false =>
     have hc':O6≤c:=by
      rcases G4 c O6 with hlt|hge
      ·rw[show Nat.blt c O6=true from C8 hlt]at hc;cases hc
      ·exact hge
     rw[hc]at h;simp only[E7]at h;split at h
     ·rename_i mv;split at h
      ·rename_i hv mm h1;obtain⟨g0,h⟩:=A5 h;obtain⟨g01,g02⟩:=B8 g0;have g01:mm<O6:=A2 g01;have g02:=A2 g02;split at h
       ·rename_i hh h2;split at h
        ·rename_i l h3;cases h;rcases R2 hx with⟨_,_,_,hlt,_⟩|⟨lc,c',hl,_,_,hn,_,rfl⟩|⟨a',c',_,_,he,_⟩
         ·omega
         ·have hb1:=P5 h1 hmx;have hb1':Bd mx' c' c' mm:=by
           rcases hb1 with⟨hh1,_⟩|⟨j,hj,hb⟩
           ·have:=(hmx.none_iff).2 hh1;cases this
           ·exact .inr ⟨j,hj,A1⟩
          refine⟨_,hfin c' l hh mm _ hb1' (fun hn=>by have:=(hhi.none_iff).2 hn;cases this) (P5 h2 hhi) (P5 h3 hlo),?_⟩;obtain⟨g1,g2,g3⟩:=hmove l mm lc hl;rw[g1];generalize hA:(bif Nat.beq mm l then a else cG a (l*s))=A at g2 g3 ⊢;obtain⟨ab,ao,asp⟩:=A;simp only at g2 g3;subst g3;exact .sl (by rw[g2];exact hl) A1
         ·omega
        ·cases h
       ·cases h
      ·cases h
     ·have hm:mx'=none:=hmx.none_iff.1 rfl;subst hm;split at h
      ·rename_i hh h1;have hb2:=P5 h1 hhi;have hhn:hh≤n:=by rcases hb2 with⟨_,rfl⟩|⟨_,_,hb⟩<;>omega
       have up:∀ c',n≤c'→Bd hi' c' n hh:=fun c' hc=>by
        rcases hb2 with hb|⟨j,hj,hb⟩
        ·exact .inl hb
        ·exact .inr ⟨j,hj,A1⟩
       split at h
       ·rename_i h3;cases h;have hb3:=P5 h3 hlo;rcases R2 hx with⟨_,_,_,hlt,_⟩|⟨lc,c',hl,_,_,hn,hcap,rfl⟩|⟨a',c',ha',rfl,rfl,rfl⟩
        ·omega
        ·refine⟨_,hfin c' 0 hh c' _ (.inl ⟨rfl,rfl⟩) (fun _=>rfl) (up c' hn) hb3,?_⟩;have:(if c'=0 then some (Addr.mk lc.blk (a.off+lc.sh) none)else(some (Addr.mk lc.blk (a.off+lc.sh) none)).map (·.add (0*s)))=some (Addr.mk lc.blk (a.off+lc.sh) none):=by
          simp[i6]
         rw[this];obtain⟨ab,ao,asp⟩:=a;simp only at hspot;subst hspot;exact .op hl hc' A1 hcap
        ·have hh0:hh=0:=A1;subst hh0;refine⟨_,hfin c' 0 0 c' _ (.inl ⟨rfl,rfl⟩) (fun _=>rfl) (up c' (U9 _)) hb3,?_⟩;have:(if c'=0 then some a' else(some a').map (·.add (0*s)))=some a':=by simp[Addr.add]
         rw[this];exact .opE ha'
       ·rename_i l h3;have hb3:=P5 h3 hlo;have hlh:l+1≤hh:=by rcases hb3 with⟨_,hb⟩|⟨_,_,hb⟩<;>omega
        rcases R2 hx with⟨_,_,_,hlt,_⟩|⟨lc,c',hl,_,_,hn,hcap,rfl⟩|⟨a',c',ha',rfl,rfl,rfl⟩
        ·omega
        ·have hf:=hfin c' (l+1) hh c' ⟨lc.blk,a.off+lc.sh,none⟩ (.inl ⟨rfl,rfl⟩) (fun _=>rfl) (up c' hn) hb3;cases hq:Nat.blt (l+1) n with
         | true =>
           have hq':l+1<n:=A2 hq;simp only[hq,F0]at h;cases h;refine⟨_,hf,?_⟩;rw[A3 A1,eW];simp only[M6,i6];rw[show a.off+lc.sh+(l+1)*s=a.off+(l+1)*s+lc.sh by omega];exact .op hl (by unfold O6;omega) A1 (fun e=>by unfold O6 at e;omega)
         | false =>
           have hq':¬ l+1<n:=fun hlt=>by rw[show Nat.blt (l+1) n=true from C8 hlt]at hq;cases hq
           simp only[hq,E7]at h;cases h;refine⟨_,hf,?_⟩;have e1:hh-(l+1)=0:=A1;rw[e1];by_cases e2:c'=l+1
           ·rw[A4 e2];exact .opE rfl
           ·rw[A3 e2];simp only[M6,i6];exact .opE rfl
        ·omega
       ·cases h
      ·cases h
  ·cases h
 ·
  rename_i n e a hu;obtain⟨lc,hl,hsp,rfl⟩:=R9 hx;split at h
  ·rename_i s hs hspot;split at h
   ·rename_i hh h2;split at h
    ·rename_i l h3;obtain⟨hn0,h⟩:=A5 h;have hn0:n<O6:=A2 hn0;cases h;have hm:mx'=none:=hmx.none_iff.1 rfl;subst hm;have hr:=kS (P:=P) (b:=false) (len:=n) (cap:=n) (mx:=none) (.inl ⟨rfl,rfl⟩) (fun _=>rfl) (P5 h2 hhi) (P5 h3 hlo) w;refine⟨.slice (some ⟨lc.blk,(bif Nat.beq n l then a else cG a (l*s)).off+lc.sh,none⟩) (hh-l) (n-l),?_,?_⟩
     ·by_cases e1:n=l
      ·subst e1;simp[Instr.sliceAt,A6,D6 hu,Result.andThen,hr,M1 hs,Instr.sureAddr]
      ·have hq:Nat.beq n l=false:=by cases hb:Nat.beq n l with|false=>rfl|true=>exact absurd (A0 hb) e1
       simp[Instr.sliceAt,A6,D6 hu,Result.andThen,hr,M1 hs,Instr.sureAddr,e1,hq,eW,i6]
     ·have hn:n-l<O6:=A1;have g2:(bif Nat.beq n l then a else cG a (l*s)).block=a.block:=by cases Nat.beq n l<;>simp[eW]
      have g3:(bif Nat.beq n l then a else cG a (l*s)).spot=none:=by cases Nat.beq n l<;>simp[eW,hsp]
      generalize hA:(bif Nat.beq n l then a else cG a (l*s))=A at g2 g3 ⊢;obtain⟨ab,ao,asp⟩:=A;simp only at g2 g3;subst g3;exact .sl (by rw[g2];exact hl) hn
    ·cases h
   ·cases h
  ·cases h
 ·cases h
end
end
section
open Go
variable [Ora]
section
variable {P:Program} {base:Nat} {ρ:Ren} {m m':Mem} {w:World}
def fM{C:Z5}{v:Value}{cap:Nat}{fz:Nat×Nat}{wd:World}(h:HR P base ρ m.H w)(hb:base≤w.heap.size)(hn:p9 m (.cells cs e false) k=some (v,m'))(hf:L6 ρ m.n m'.hi)
  (hc:LR ρ cs cs') (hC:∀ (i:Nat) (v:Value),cs'[i]? = some v→C[i]? = some v) (hfz:NF C fz) (hcap:∀ inf,P.info? e=some inf→cap*inf.size≤C.size)
  (hd:wd.os=w.os∧wd.tape=w.tape∧wd.output=w.output) (hh:wd.heap=w.heap) :
  v=k m.n∧upd ρ m.n (lc w.heap.size 0 cap) m.n=some (lc w.heap.size 0 cap)∧St P base ρ (upd ρ m.n (lc w.heap.size 0 cap)) m m' w { wd with heap:=wd.heap.push (.cells C e fz) }:=by
 have hfree:ρ m.n=none:=by
  obtain⟨_,_,rfl⟩:=N5 hn;exact hf m.n (B0 _) (M5 _ _).2
 refine St.alloc (o:=.cells C e fz) h hb hn hf hd (by simp[hh]) rfl ⟨rfl,C,fz,e,by simp[hh],fun i u hi=>?_,fun _=>⟨rfl,hfz,fun inf hi=>⟨by have:=hcap inf hi;simpa using this,Nat.zero_mod _⟩⟩⟩;obtain⟨u',h1,h2⟩:=hc.get hi;exact⟨u',by rw[G0];exact hC i u' h1,h2.mono (j9 hfree)⟩
def kZ{v:Value}(h:HR P base ρ m.H w)(hb:base≤w.heap.size)(hn:p9 m (.cells cs e false) k=some (v,m'))(hf:L6 ρ m.n m'.hi)(hc:LR ρ cs cs') :
  v=k m.n∧upd ρ m.n (lc w.heap.size 0 0) m.n=some (lc w.heap.size 0 0)∧St P base ρ (upd ρ m.n (lc w.heap.size 0 0)) m m' w { w with heap:=w.heap.push (.cells ⟨cs'⟩ e (0,0)) } :=
 fM (wd:=w) h hb hn hf hc (fun i v hi=>by simpa using hi) NF.zero (fun inf _=>by simp) ⟨rfl,rfl,rfl⟩ rfl
def YM{v:Value}(h:HR P base ρ m.H w)(hb:base≤w.heap.size)(ho:IK P m e=some (v,m'))(hf:L6 ρ m.n m'.hi):VOk P base ρ m w (Instr.alloc e true (.tuple #[])) v m':=by
 unfold IK at ho;split at ho
 ·rename_i z hz;obtain⟨h1,h2,h3⟩:=kZ h hb ho hf (rH hz);refine⟨.pointer (some ⟨w.heap.size,0,none⟩),_,_,?_,?_,h3⟩
  ·simp[Instr.alloc,newVar,newRow,A6,aZ hz,Result.andThen,newObj,Sem.run]
  ·rw[h1];exact .ptr h2
 ·cases ho
def A5F{x v:Value}(h:HR P base ρ m.H w)(hb:base≤w.heap.size)(ho:A1t m e x=some (v,m'))(hf:L6 ρ m.n m'.hi)(hx:VR ρ x x'):VOk P base ρ m w (Instr.box e x') v m':=by
 unfold A1t at ho;obtain⟨hfl,ho⟩:=A5 ho;obtain⟨h1,h2,h3⟩:=kZ h hb ho hf (hx.cells (by
  cases hq:lD x with
  | false=>rfl
  | true =>
    unfold lD at hq;split at hq
    ·exfalso;simp only[Value.cells]at hfl;simp[flat]at hfl;simp[hfl]at hq
    ·cases hq))
 refine⟨.pointer (some ⟨w.heap.size,0,none⟩),_,_,?_,?_,h3⟩
 ·simp[Instr.box,newVar,newRow,A6,Result.andThen,newObj,Sem.run]
 ·rw[h1];exact .ptr h2
def MH(z:List Value)(hz:z≠[]):∀ (n i:Nat),(MI z n)[i]? = if i<n*z.length then z[i%z.length]? else none
 | 0,i=>by simp[MI]
 | n+1,i=>by
   have hpos:0<z.length:=R4.2 hz;rw[MI];by_cases h:i<z.length
   ·rw[F2 h,A4 (by rw[Nat.succ_mul];omega),P7 h]
   ·rw[E3 A1,MH z hz n,Nat.succ_mul];have e:(i-z.length)%z.length=i%z.length:=by rw[← Nat.mod_eq_sub_mod A1]
    by_cases h2:i-z.length<n*z.length
    ·rw[A4 h2,A4 A1,e]
    ·rw[A3 h2,A3 A1]
def XG{z:Z5}{n s:Nat}(hz:z.size=s)(hs:n*s≠0):(Array.range (n*s)).map (z[· % z.size]!)=⟨MI z.toList n⟩:=by
 have hne:z.toList≠[]:=by
  intro e;have:z.size=0:=by simpa using H3 List.length e
  rw[hz]at this;subst this;simp at hs
 apply K1;apply bT;intro i;rw[MH _ hne];simp only[Array.toList_map,Array.toList_range,H6];have hl:z.toList.length=s:=by simpa using hz
 rw[hl];by_cases h:i<n*s
 ·rw[A4 h,List.getElem?_range h];have hpos:0<s:=by
   rcases V7 s with h0|h0
   ·subst h0;simp at hs
   ·exact h0
  have hm:i%s<z.size:=by rw[hz];exact rF _ hpos
  simp[hz,getElem!_pos z (i%s) hm,A8 (show i%s<z.toList.length by simpa using hm)]
 ·rw[A3 h];simp;omega
def DW{n s:Nat}(hs:H7 P e=some s)(h:HJ P e n=some zs) :
  ((n*s=0∧zs=[])∨(n*s≠0∧∃ z:Value,(∀ w,(zeroValue e).run P w=.ok z w)∧(Array.range (n*s)).map (z.cells[· % z.cells.size]!)=⟨zs⟩))∧LR ρ zs zs:=by
 unfold HJ at h;rw[hs]at h;simp only at h;cases hq:Nat.beq (n*s) 0 with
 | true =>
   rw[hq]at h;simp only[F0,D7]at h;subst h;exact⟨.inl ⟨A0 hq,rfl⟩,.nil⟩
 | false =>
   rw[hq]at h;simp only[E7]at h;have hq':n*s≠0:=fun e=>by rw[e]at hq;cases hq
   split at h
   ·rename_i z hz;obtain⟨h1,h2⟩:=A5 h;cases h2;have h1:=A0 h1;refine⟨.inr ⟨hq',z,fun w=>aZ hz w,XG h1 hq'⟩,?_⟩;have hall:∀ l:D4,LR ρ l l→∀ n,LR ρ (MI l n) (MI l n):=fun l hl n=>by
     induction n with
     | zero=>exact .nil
     | succ n ih=>exact hl.append ih
    exact hall _ (rH hz) n
   ·cases h
def CP{t:TypeId}{n:Nat}{v:Value}(h:HR P base ρ m.H w)(hb:base≤w.heap.size)(ho:dO P m t n parts=some (v,m'))(hf:L6 ρ m.n m'.hi)(hp:PR ρ parts parts') :
  VOk P base ρ m w (Instr.buildSlice t n ⟨parts'⟩) v m':=by
 unfold dO at ho;split at ho
 ·rename_i e hu;split at ho
  ·rename_i s zs hs hz;obtain⟨h1,ho⟩:=A5 ho;obtain⟨h1,h1o⟩:=B8 h1;have h1:=A2 h1;have h1o:n<O6:=A2 h1o;split at ho
   ·rename_i cs hcs;obtain⟨hzz,hzl⟩:=DW (ρ:=ρ) hs hz;obtain⟨r',h2,h3⟩:=tU hcs hp hzl;obtain⟨g1,g2,g3⟩:=kZ h hb ho hf h3;refine⟨.slice (some ⟨w.heap.size,0,none⟩) n n,_,_,?_,?_,g3⟩
    ·unfold Instr.buildSlice;simp only[A6,D6 hu,M1 hs,Result.andThen];rw[A3 A1];have h2':Instr.fill (fun i=>some (i*s,s)) ⟨zs⟩ parts'=some ⟨r'⟩:=h2;rcases hzz with⟨hq,rfl⟩|⟨hq,z,hzr,hza⟩
     ·have e0:∀ z:Z5,Array.map (fun x=>z[x%z.size]!) (Array.range (n*s))=⟨[]⟩:=fun z=>by rw[hq];apply K1;simp
      simp only[A4 hq,e0,h2'];rfl
     ·simp only[A3 hq,A6,Sem.run_pure,Result.andThen,hzr,hza,h2'];rfl
    ·rw[g1];exact .sl g2 h1o
   ·cases ho
  ·cases ho
 ·cases ho
def DP{t:TypeId}{l c l' c' v:Value}(h:HR P base ρ m.H w)(hb:base≤w.heap.size)(ho:gL P m t l c=some (v,m'))(hf:L6 ρ m.n m'.hi)(hl:VR ρ l l')(hc:VR ρ c c') :
  VOk P base ρ m w (Instr.makeSlice t l' c') v m':=by
 unfold gL at ho;split at ho
 ·rename_i e j1 l j2 c hu;cases K4 hl;cases K4 hc;split at ho
  ·rename_i i hi;obtain⟨h1,ho⟩:=A5 ho;obtain⟨h1,h3⟩:=B8 h1;obtain⟨h1,h2⟩:=B8 h1;have h1:=A2 h1;have h2:=A2 h2;have h3:=A2 h3;split at ho
   ·rename_i zs hz;rw[I6]at ho;have hs:H7 P e=some i.size:=by simp[H7,hi]
    obtain⟨hzz,hzl⟩:=DW (ρ:=ρ) hs hz;obtain⟨g1,g2,g3⟩:=kZ h hb ho hf hzl;refine⟨.slice (some ⟨w.heap.size,0,none⟩) l c,_,_,?_,?_,g3⟩
    ·have wl:IntKind.i64.wrap (Int.ofNat l)=Int.ofNat l:=rO .i64 l (by simp only[QO];omega);have wc:IntKind.i64.wrap (Int.ofNat c)=Int.ofNat c:=rO .i64 c (by simp only[QO];omega);have hroom:(askRoom (c*i.bytes)).run P w=.ok () w:=by
      unfold askRoom roomBytes;rw[A3 A1];rfl
     have hcb:((i.bytes:Int)*(c:Int))=((c*i.bytes:Nat):Int):=by rw[q9];simp
     have hlb:((i.bytes:Int)*(l:Int))≤((c*i.bytes:Nat):Int):=by
      have:i.bytes*l≤c*i.bytes:=by rw[q9];exact G2 _ h1
      exact_mod_cast this
     unfold Instr.makeSlice;simp only[A6,D6 hu,asInt,asIntOf,Result.andThen,Sem.run_pure,Y0 hi,wl,wc];rw[A3]
     ·have hc2:(Int.ofNat c).toNat=c:=by simp
      have hl2:(Int.ofNat l).toNat=l:=by simp
      simp only[A6,Sem.run_pure,Result.andThen,hc2,hl2,hroom,M1 hs];rcases hzz with⟨hq,rfl⟩|⟨hq,z,hzr,hza⟩
      ·have e0:∀ z:Z5,Array.map (fun x=>z[x%z.size]!) (Array.range (c*i.size))=⟨[]⟩:=fun z=>by rw[hq];apply K1;simp
       simp only[A4 hq,e0];rfl
      ·simp only[A3 hq,A6,Sem.run_pure,Result.andThen,hzr,hza];rfl
     ·have e1:Int.ofNat c=(c:Int):=rfl;have e2:Int.ofNat l=(l:Int):=rfl;simp only[e1,e2,hcb];simp;omega
    ·rw[g1];exact .sl g2 (by unfold O6;omega)
   ·cases ho
  ·cases ho
 ·cases ho
end
end
end Go.Sx
