import Derived.Test.YtjdnjfnhdeplfaaX0
import Derived.ChangeKeysEq
set_option linter.all false
set_option maxRecDepth 100000
set_option maxHeartbeats 4000000
namespace Go.Sx
open Go
variable {k:Nat->Value}{cs cs' r' zs:D0}{dflt mm off top y:Nat}{e:TypeId}{i' x':Value}{parts parts':List (Nat×Value)}{lo mx o':O8}
section
open Go
def M6(d:Nat)(a:d<8){α β:Type}(n:N8 α)(v:α)(k:N8 α->β):(sel d).upd n v k=k ((sel d).upd n v fun n=>n):=by
 match d,a with
 | 0,_|1,_|2,_|3,_|4,_|5,_|6,_|7,_=>rfl
def PX(d:Nat)(a:d<8){α:Type}(n:N8 α)(v:α):(sel d).get ((sel d).upd n v fun n=>n)=v:=by
 match d,a with
 | 0,_|1,_|2,_|3,_|4,_|5,_|6,_|7,_=>rfl
def A1I(d e:Nat)(b:d<8)(he:e<8)(a:e≠d){α:Type}(n:N8 α)(v:α):(sel e).get ((sel d).upd n v fun n=>n)=(sel e).get n:=by
 match d,b with
 | 0,_|1,_|2,_|3,_|4,_|5,_|6,_|7,_ =>
   match e,he with
   | 0,_|1,_|2,_|3,_|4,_|5,_|6,_|7,_=>first|rfl|exact absurd rfl a
def bZ{α β:Type}(n:N8 α)(k:N8 α->β):AQ n k=k n:=rfl
def m8(n:Nat):n%8<8:=gJ _ K3
def zO{β:Type}(t:Nat)(v:Value)(fr:Fr)(k:Fr->β):rB (sel (t / 64%8)) (sel (t / 8%8)) (sel (t%8)) v fr k=k (fr.set t v):=by
 unfold Fr.set rB;rw[M6 _ (m8 _)];conv=>rhs;rw[M6 _ (m8 _)]
 rw[M6 _ (m8 _)];conv=>rhs;rw[M6 _ (m8 _)]
 rw[M6 _ (m8 _)]
def V2(d e:Nat)(a:d<8)(he:e<8){α:Type}(n:N8 α)(v:α):(sel e).get ((sel d).upd n v fun n=>n)=if e=d then v else(sel e).get n:=by
 by_cases h:e=d
 .subst h;rw[B2 rfl,PX _ he]
 .rw[B0 h,A1I _ _ a he h]
def K8(fr:Fr)(t u:Nat)(v:Value)(d:t<512)(hu:u<512):(fr.set t v).get u=if u=t then v else fr.get u:=by
 unfold Fr.set rB;simp only[M6 _ (m8 _) _ _ (fun b=>Sel.upd _ _ _ _),M6 _ (m8 _) _ _ (fun c=>Sel.upd _ _ _ _)];unfold Fr.get;rw[V2 _ _ (m8 _) (m8 _)];by_cases h1:u / 64%8=t / 64%8
 .rw[B2 h1,V2 _ _ (m8 _) (m8 _)];by_cases a:u / 8%8=t / 8%8
  .rw[B2 a,V2 _ _ (m8 _) (m8 _)];by_cases h3:u%8=t%8
   .rw[B2 h3,B2 A6]
   .rw[B0 h3,B0 (by intro h;subst h;exact h3 rfl),h1,a]
  .rw[B0 a,B0 (by intro h;subst h;exact a rfl),h1]
 .rw[B0 h1,B0 (by intro h;subst h;exact h1 rfl)]
def AO(t:Nat):fr0.get t=undef:=by
 unfold Fr.get fr0;have h:∀ (d:Nat) {α:Type} (v:α),d<8->(sel d).get (mC v)=v:=fun d α v a=>by
  match d,a with
  | 0,_|1,_|2,_|3,_|4,_|5,_|6,_|7,_=>rfl
 rw[h _ _ (m8 _),h _ _ (m8 _),h _ _ (m8 _)];rfl
def cK{α β:Type}(h:Hp α)(n:Nat)(v:Option α)(k:Hp α->β):h.put n v k=k (h.set n v):=by
 unfold Hp.set Hp.put W3;rw[M6 _ (m8 _),M6 _ (m8 _),M6 _ (m8 _),M6 _ (m8 _),M6 _ (m8 _),M6 _ (m8 _)];conv=>rhs;rw[M6 _ (m8 _),M6 _ (m8 _),M6 _ (m8 _),M6 _ (m8 _),M6 _ (m8 _)]
def E9{α:Type}(h:Hp α)(n m:Nat)(v:Option α)(f:n<=G9)(hm:m<=G9):(h.set n v).get m=if m=n then v else h.get m:=by
 unfold G9 at f hm;unfold Hp.set Hp.put W3;rw[M6 _ (m8 _),M6 _ (m8 _),M6 _ (m8 _),M6 _ (m8 _),M6 _ (m8 _)];unfold Hp.get;rw[V2 _ _ (m8 _) (m8 _)];by_cases h1:m / 32768%8=n / 32768%8
 .rw[B2 h1,V2 _ _ (m8 _) (m8 _)];by_cases a:m / 4096%8=n / 4096%8
  .rw[B2 a,V2 _ _ (m8 _) (m8 _)];by_cases h3:m / 512%8=n / 512%8
   .rw[B2 h3,V2 _ _ (m8 _) (m8 _)];by_cases b:m / 64%8=n / 64%8
    .rw[B2 b,V2 _ _ (m8 _) (m8 _)];by_cases c:m / 8%8=n / 8%8
     .rw[B2 c,V2 _ _ (m8 _) (m8 _)];by_cases d:m%8=n%8
      .rw[B2 d,B2 A6]
      .rw[B0 d,B0 (by intro h;subst h;exact d rfl),h1,a,h3,b,c]
     .rw[B0 c,B0 (by intro h;subst h;exact c rfl),h1,a,h3,b]
    .rw[B0 b,B0 (by intro h;subst h;exact b rfl),h1,a,h3]
   .rw[B0 h3,B0 (by intro h;subst h;exact h3 rfl),h1,a]
  .rw[B0 a,B0 (by intro h;subst h;exact a rfl),h1]
 .rw[B0 h1,B0 (by intro h;subst h;exact h1 rfl)]
def nS{α:Type}(m:Nat):(hp0:Hp α).get m=none:=by
 have h:∀ (d:Nat) {α:Type} (v:α),d<8->(sel d).get (mC v)=v:=fun d α v a=>by
  match d,a with
  | 0,_|1,_|2,_|3,_|4,_|5,_|6,_|7,_=>rfl
 unfold Hp.get hp0;rw[h _ _ (m8 _),h _ _ (m8 _),h _ _ (m8 _),h _ _ (m8 _),h _ _ (m8 _),h _ _ (m8 _)]
def E6{β:Type}(n:Nat)(k:Nat->β):I4 n k=k n:=by cases n<;>rfl
def pO{β:Type}(i:Int)(k:Int->β):uC i k=k i:=by cases i<;>simp[uC,E6]
def H5{α β:Type}:∀ (l:List α) (k:List α->β),P5 l k=k l
 | [],k=>rfl
 | x::r,k=>by simp[P5,H5 r]
def cO(k:IntKind)(n:Int):mkI k n=.int k n:=by simp[mkI,pO]
def toV:U->O8
 | .int k n=>some (.int k n)
 | .bool b=>some (.bool b)
 | .str s=>some (.string ⟨⟨s⟩⟩)
 | _=>none
def F3:U->Nat
 | .int k _=>eU k
 | .bool _=>8
 | .str _=>9
 | .seq _ w _=>10+w
 | .none=>99
def mB(E:Nat->U):Value->Option Int
 | .complex .f64 i _=>match E i with
   | .int _ n=>some n
   | _=>none
 | .int _ n=>some n
 | _=>none
class Ora where
 env:Nat->U
 G:Nat->Option Obj
variable [Ora]
structure A4s where
 blk:Nat
 sh:Nat
 cap:Nat
 len:Nat
 G:Nat->Option Obj
 on:Bool
abbrev Loc:=A4s
abbrev lc(b s c:Nat):Loc:=⟨b,s,c,0,fun _=>none,true⟩
abbrev Ren:=Nat->Option Loc
inductive Enc (G:Nat->Option Obj):U->Value->Prop
 | sc {u v} (h:toV u=some v):Enc G u v
 | nil {w}:Enc G (.seq true w []) (.slice none 0 0)
 | emp {w a}:Enc G (.seq false w []) (.slice (some a) 0 0)
 | sl {w rows a o c C T fz} (hc:rows.length<=c) (hg:rows≠[]->G a=some (.cells C T fz)) (hz:rows≠[]->o+rows.length*w<=C.size) (hw:∀ row ∈ rows,row.length=w)
    (h:∀ (r:Nat) (row:List U) (j:Nat) (u:U) (v:Value),rows[r]? = some row->row[j]? = some u->C[o+r*w+j]? = some v->Enc G u v):Enc G (.seq false w rows) (.slice (some ⟨a,o,none⟩) rows.length c)
omit [Ora] in
def Enc.mono{G a:Nat->Option Obj}(h:∀ k o,G k=some o->a k=some o){u:U}{v:Value}(e:Enc G u v):Enc a u v:=by
 induction e with
 | sc h=>exact .sc h
 | nil=>exact .nil
 | emp=>exact .emp
 | sl g c f hw h1 b=>exact .sl g (fun d=>h _ _ (c d)) f hw b
omit [Ora] in
def Enc.slice{G:Nat->Option Obj}{u:U}{v:Value}(h:Enc G u v)(d:10<=F3 u):∃ a n c,v=.slice a n c:=by
 cases h with
 | sc h =>
   cases u with
   | int k n=>cases k<;>simp[F3,eU]at d
   | bool b=>simp[F3]at d
   | str s=>simp[F3]at d
   | none=>cases h
   | seq _ _ _=>cases h
 | nil=>exact⟨_,_,_,rfl⟩
 | emp=>exact⟨_,_,_,rfl⟩
 | sl=>exact⟨_,_,_,rfl⟩
def UM:Value->Prop
 | .slice _ n c=>c=n
 | _=>False
def HL(ρ:Ren)(b:Nat)(u:U)(v':Value):Prop :=
 (∃ l w,ρ b=some l/\l.on=false/\u=.seq true w []/\v'=.slice none 0 0)∨(∃ l w rows,ρ b=some l/\l.on=true/\u=.seq false w rows/\rows.length=l.len/\l.len<=l.cap/\v'=.slice (some ⟨l.blk,l.sh,none⟩) l.len l.cap)
def A3B(ρ:Ren)(b:Nat)(u:U)(z:Option Int)(o:Nat)(v':Value):Prop :=
 ∃ l w rows a s c k,ρ b=some l/\u=.seq false w rows/\Enc l.G u (.slice (some ⟨a,s,none⟩) rows.length c)/\z=some (.ofNat k)/\k<rows.length/\o<w/\v'=.pointer (some ⟨a,s+k*w+o,none⟩)
def A2l(ρ:Ren)(b:Nat)(u:U)(z:Option Int)(o:Nat)(v':Value):Prop :=
 ∃ l w rows k,ρ b=some l/\l.on=true/\u=.seq false w rows/\z=some (.ofNat k)/\k<l.len/\o<w/\v'=.pointer (some ⟨l.blk,l.sh+k*w+o,none⟩)
def NB(ρ:Ren)(b:Nat)(v':Value):Prop:=∃ l,ρ b=some l/\((l.on=false/\v'=.pointer none)∨(l.on=true/\∃ a,v'=.pointer (some a)/\(l.cap≠0->a=⟨l.blk,l.sh,none⟩)))
def NB.cells{ρ:Ren}{b:Nat}{v':Value}(h:NB ρ b v'):v'.cells=#[v']:=by
 obtain⟨l,_,⟨_,rfl⟩|⟨_,a,rfl,_⟩⟩:=h<;>rfl
def o9:Value->Bool
 | .agg _|.tuple _=>false
 | _=>true
def NB.flat{ρ:Ren}{b:Nat}{v':Value}(h:NB ρ b v'):o9 v'=true:=by
 obtain⟨l,_,⟨_,rfl⟩|⟨_,a,rfl,_⟩⟩:=h<;>rfl
def o8{v:Value}(h:o9 v=true):v.cells=#[v]:=by cases v<;>first|rfl|cases h
inductive VR (ρ:Ren):Value->Value->Prop
 | pure {v} (h:H8 v=true):VR ρ v v
 | hole {i t v'} (h:toV (Ora.env i)=some v') (ht:F3 (Ora.env i)=t):VR ρ (.complex .f64 i t) v'
 | junk {i t v'} (h:i=1->o9 v'=true):VR ρ (.complex .f32 i t) v'
 | ixp {a s n i l z v'} (h:ρ a.block=some l) (hs:a.spot=none) (hi:mB Ora.env i=some (.ofNat z)) (hz:z<n) (hv:v'=.pointer (some ⟨l.blk,a.off+z*s+l.sh,none⟩)):VR ρ (Go.Sx.ixp a s i n) v'
 | dat {b i t v' l} (h:ρ b=some l) (he:Enc l.G (Ora.env i) v') (ht:F3 (Ora.env i)=t) (h10:10<=t) (hf:o9 v'=true):VR ρ (Go.Sx.dat b i t) v'
 | clp {b i t v' l} (h:ρ b=some l) (he:Enc l.G (Ora.env i) v') (ht:F3 (Ora.env i)=t) (h10:10<=t) (hf:o9 v'=true) (hc:UM v'):VR ρ (Go.Sx.clp b i t) v'
 | own {b i t v'} (h:HL ρ b (Ora.env i) v') (ht:F3 (Ora.env i)=t) (hf:o9 v'=true):VR ρ (Go.Sx.own b i t) v'
 | dpt {b i t z o v'} (h:A3B ρ b (Ora.env i) (mB Ora.env z) o v') (ht:F3 (Ora.env i)=t) (hf:o9 v'=true):VR ρ (Go.Sx.dpt b i t z o) v'
 | opt {b i t z o v'} (h:A2l ρ b (Ora.env i) (mB Ora.env z) o v') (ht:F3 (Ora.env i)=t) (hf:o9 v'=true):VR ρ (Go.Sx.opt b i t z o) v'
 | ptr {b o l} (h:ρ b=some l):VR ρ (.pointer (some ⟨b,o,none⟩)) (.pointer (some ⟨l.blk,o+l.sh,none⟩))
 | sl {b o l n m} (h:ρ b=some l) (hm:m<L7):VR ρ (.slice (some ⟨b,o,none⟩) n m) (.slice (some ⟨l.blk,o+l.sh,none⟩) n m)
 | op {b o l n m m'} (h:ρ b=some l) (hm:L7<=m) (hn:n<=m') (hc:m=L7->o=0->m'=l.cap):VR ρ (.slice (some ⟨b,o,none⟩) n m) (.slice (some ⟨l.blk,o+l.sh,none⟩) n m')
 | opE {a a' m'} (hs:a'.spot=none):VR ρ (.slice (some a) 0 (L7+2)) (.slice (some a') 0 m')
 | map {b l} (h:ρ b=some l):VR ρ (.map (some b)) (.map (some l.blk))
 | sdt {b v'} (h:NB ρ b v'):VR ρ (Go.Sx.sdt b) v'
 | yv {b l} (h:ρ b=some l):VR ρ (Go.Sx.yv b) (.func (.yield l.blk) #[] #[])
 | func {f a b a' b'} (ha:a.length=a'.length) (hb:b.length=b'.length) (h1:∀ (i:Nat) (v v':Value),a[i]? = some v->a'[i]? = some v'->VR ρ v v') (h2:∀ (i:Nat) (v v':Value),b[i]? = some v->b'[i]? = some v'->VR ρ v v') :
    VR ρ (.func (.func f) ⟨a⟩ ⟨b⟩) (.func (.func f) ⟨a'⟩ ⟨b'⟩)
 | iface {t v v'} (h:VR ρ v v'):VR ρ (.iface t v) (.iface t v')
 | agg {a a'} (ha:a.length=a'.length) (h:∀ (i:Nat) (v v':Value),a[i]? = some v->a'[i]? = some v'->VR ρ v v'):VR ρ (.agg ⟨a⟩) (.agg ⟨a'⟩)
 | tuple {a a'} (ha:a.length=a'.length) (h:∀ (i:Nat) (v v':Value),a[i]? = some v->a'[i]? = some v'->VR ρ v v'):VR ρ (.tuple ⟨a⟩) (.tuple ⟨a'⟩)
theorem SV{ρ:Ren}{b:Nat}{v':Value}(h:VR ρ (yv b) v'):∃ l,ρ b=some l/\v'=.func (.yield l.blk) #[] #[]:=by
 generalize a:yv b=x at h;cases h with
 | yv h=>cases a;exact⟨_,h,rfl⟩
 | pure hp=>subst a;simp[yv,H8]at hp
 | _=>simp[yv,ixp,Go.Sx.dat,Go.Sx.clp,Go.Sx.own,Go.Sx.dpt,Go.Sx.opt,Go.Sx.sdt]at a
def YG{ρ:Ren}{b:Nat}{v':Value}(h:VR ρ (sdt b) v'):NB ρ b v':=by
 generalize a:sdt b=x at h;cases h with
 | sdt h=>cases a;exact h
 | pure hp=>subst a;simp[sdt,H8]at hp
 | _=>simp[sdt,ixp,Go.Sx.dat,Go.Sx.clp,Go.Sx.own,Go.Sx.dpt,Go.Sx.opt,Go.Sx.yv]at a
def LR(ρ:Ren)(a a':List Value):Prop:=a.length=a'.length/\∀ (i:Nat) (v v':Value),a[i]? = some v->a'[i]? = some v'->VR ρ v v'
def VR.mono{ρ ρ':Ren}(he:∀ b l,ρ b=some l->ρ' b=some l){v v':Value}(h:VR ρ v v'):VR ρ' v v':=by
 induction h with
 | pure h=>exact .pure h
 | hole h t=>exact .hole h t
 | junk h=>exact .junk h
 | ixp h i hi A q=>exact .ixp (he _ _ h) i hi A q
 | dat h h1 d h3 j=>exact .dat (he _ _ h) h1 d h3 j
 | clp h h1 d h3 j p=>exact .clp (he _ _ h) h1 d h3 j p
 | own h h1 d=>exact .own (h.imp (fun⟨l,w,a,b⟩=>⟨l,w,he _ _ a,b⟩) fun⟨l,w,rows,a,b⟩=>⟨l,w,rows,he _ _ a,b⟩) h1 d
 | dpt h h1 d=>exact .dpt (let ⟨l,w,rows,a,s,c,k,h0,r⟩:=h;⟨l,w,rows,a,s,c,k,he _ _ h0,r⟩) h1 d
 | opt h h1 d=>exact .opt (let ⟨l,w,rows,k,h0,r⟩:=h;⟨l,w,rows,k,he _ _ h0,r⟩) h1 d
 | ptr h=>exact .ptr (he _ _ h)
 | sl h hm=>exact .sl (he _ _ h) hm
 | op h hm u x=>exact .op (he _ _ h) hm u x
 | opE i=>exact .opE i
 | map h=>exact .map (he _ _ h)
 | yv h=>exact .yv (he _ _ h)
 | sdt h=>exact .sdt (let ⟨l,a,b⟩:=h;⟨l,he _ _ a,b⟩)
 | func g z h1 d n o=>exact .func g z n o
 | iface h f=>exact .iface f
 | agg g h f=>exact .agg g f
 | tuple g h f=>exact .tuple g f
def LR.mono{ρ ρ':Ren}(he:∀ b l,ρ b=some l->ρ' b=some l){a a':D0}(h:LR ρ a a'):LR ρ' a a':=⟨h.1,fun i v v' h1 c=>(h.2 i v v' h1 c).mono he⟩
def LR.nil{ρ:Ren}:LR ρ [] []:=⟨rfl,fun i v v' h=>by simp at h⟩
def LR.cons{ρ:Ren}{v v':Value}{a a':D0}(d:VR ρ v v')(h:LR ρ a a'):LR ρ (v::a) (v'::a'):=by
 refine⟨by simp[h.1],fun i u c h1 b=>?_⟩;cases i with
 | zero=>simp at h1 b;subst h1;subst b;exact d
 | succ i=>exact h.2 i u c (by simpa using h1) (by simpa using b)
def LR.append{ρ:Ren}{a a' b b':D0}(h:LR ρ a a')(k:LR ρ b b'):LR ρ (a++b) (a'++b'):=by
 refine⟨by simp[h.1,k.1],fun i u f h1 d=>?_⟩;rcases F5 i a.length with c|c
 .rw[E8 c]at h1;rw[E8 (h.1▸c)]at d;exact h.2 i u f h1 d
 .rw[D6 c]at h1;rw[D6 (h.1▸c),<- h.1]at d;exact k.2 _ u f h1 d
def LR.tail{ρ:Ren}{v:Value}{a a':D0}(h:LR ρ (v::a) a'):∃ v' r',a'=v'::r'/\VR ρ v v'/\LR ρ a r':=by
 obtain⟨h1,b⟩:=h;cases a' with
 | nil=>simp at h1
 | cons v' r'=>exact⟨v',r',rfl,b 0 v v' rfl rfl,by simpa using h1,fun i u c g1 g2=>b (i+1) u c (by simpa using g1) (by simpa using g2)⟩
def LR.nil_inv{ρ:Ren}{a':D0}(h:LR ρ [] a'):a'=[]:=D2.1 h.1.symm
def LR.get{ρ:Ren}{a a':D0}(h:LR ρ a a'){i:Nat}{v:Value}(hi:a[i]? = some v):∃ v',a'[i]? = some v'/\VR ρ v v':=by
 have c:=(A9.1 hi).1;have b:i<a'.length:=h.1▸c;exact⟨a'[i],A3 b,h.2 i v _ hi (A3 b)⟩
def LR.drop{ρ:Ren}{a a':D0}(h:LR ρ a a')(n:Nat):LR ρ (a.drop n) (a'.drop n):=⟨by simp[h.1],fun i u c h1 b=>by
 rw[H3]at h1 b;exact h.2 _ u c h1 b⟩
def LR.take{ρ:Ren}{a a':D0}(h:LR ρ a a')(n:Nat):LR ρ (a.take n) (a'.take n):=⟨by simp[h.1],fun i u c h1 b=>by
 have hi:i<n:=by
  have:=(A9.1 h1).1;simp at this;omega
 rw[F2 hi]at h1 b;exact h.2 _ u c h1 b⟩
def LR.set{ρ:Ren}{a a':D0}(h:LR ρ a a'){v v':Value}(f:VR ρ v v')(n:Nat):LR ρ (a.set n v) (a'.set n v'):=⟨by simp[h.1],fun i u d h1 b=>by
 by_cases e:n=i
 .subst e;have c:=(A9.1 h1).1;simp at c;rw[V6 c]at h1;rw[V6 (h.1▸c)]at b;cases h1;cases b;exact f
 .rw[aZ e]at h1 b;exact h.2 _ u d h1 b⟩
def LR.all_pure{ρ:Ren}:∀ {a:D0},a.all H8=true->LR ρ a a
 | [],_=>.nil
 | v::r,h=>by simp only[aJ,H4]at h;exact .cons (.pure h.1) (LR.all_pure h.2)
def VR.ofC{ρ:Ren}{v:Value}(h:JT v=true):VR ρ v v:=by
 cases v with
 | agg cs =>
   obtain⟨l⟩:=cs;have:LR ρ l l:=LR.all_pure h;exact .agg this.1 this.2
 | _=>exact .pure h
omit [Ora] in
def eI{u:U}{v:Value}(h:toV u=some v):H8 v=true:=by
 cases u<;>cases h<;>rfl
def HK{v:Value}(h:H8 v=true):v.cells=#[v]:=by cases v<;>first|rfl|cases h
def VR.cells{ρ:Ren}{v v':Value}(h:VR ρ v v')(o:fW v=false):LR ρ v.cells.toList v'.cells.toList:=by
 have one:∀ {v v':Value},VR ρ v v'->LR ρ [v] [v']:=fun h=>.cons h .nil
 cases h with
 | agg c h=>exact⟨c,h⟩
 | junk h =>
   have h1:=A0 (by simpa [fW]using o);rw[o8 (h h1)];exact one (.junk h)
 | hole h i=>rw[HK (eI h)];exact one (.hole h i)
 | ixp h d hi p g=>subst g;exact one (.ixp h d hi p rfl)
 | pure hp =>
   cases v with
   | agg cs=>simp[H8]at hp
   | _=>exact one (.pure hp)
 | dat h h1 a h3 b=>rw[o8 b];exact one (.dat h h1 a h3 b)
 | clp h h1 a h3 b f=>rw[o8 b];exact one (.clp h h1 a h3 b f)
 | own h h1 a=>rw[o8 a];exact one (.own h h1 a)
 | dpt h h1 a=>rw[o8 a];exact one (.dpt h h1 a)
 | opt h h1 a=>rw[o8 a];exact one (.opt h h1 a)
 | ptr h=>exact one (.ptr h)
 | sl h hm=>exact one (.sl h hm)
 | op h hm j l=>exact one (.op h hm j l)
 | opE d=>exact one (.opE d)
 | map h=>exact one (.map h)
 | yv h=>exact one (.yv h)
 | sdt h=>rw[h.cells];exact one (.sdt h)
 | func c n h1 a=>exact one (.func c n h1 a)
 | iface h=>exact one (.iface h)
 | tuple c h=>exact one (.tuple c h)
def AB.on:AB->Bool
 | .frz=>false
 | _=>true
def AB.rw:AB->Bool
 | .cells _ _ ro=>!ro
 | .sq _ _ _ _ ro=>!ro
 | .frz=>false
 | _=>true
def AB.rw_on{ab:AB}(h:ab.rw=true):ab.on=true:=by
 cases ab<;>first|rfl|cases h
def Tc(ab:AB)(l:Loc)(k:Nat):Prop:=(ab.on=true/\l.on=true/\l.blk=k)∨(ab=.frz/\∃ o,l.G k=some o)
def P8(u:U):Value:=(toV u).getD (.tuple #[])
def U2(a:Bool)(us:List U):Value :=
 match a,us with
 | true,us=>.agg ⟨us.map P8⟩
 | false,u::_=>P8 u
 | false,[]=>.tuple #[]
def pZ(y:MTy)(rows:List (List U))(es:List MapEntry):Prop :=
 rows.length=es.length/\∀ (i:Nat) (row:List U) (e:MapEntry),rows[i]? = some row->es[i]? = some e->row.map F3=y.ks++y.vs/\e.key=U2 y.ka (row.take y.ks.length)/\e.val=U2 y.va (row.drop y.ks.length)
def rA(es:List MapEntry)(clock:Nat):Prop:=(es.map (·.born)).Nodup/\∀ e ∈ es,e.born<clock
def MpT(t n:Nat)(l:Loc)(w:World):Prop:=t=10+n∨(t=1010+n/\∃ o,l.G l.blk=some o/\w.heap[l.blk]? = some o)
def MpR(P:Program)(u:U)(t:Nat)(T:TypeId)(l:Loc)(w:World):Prop :=
 ∃ y es clock rows,HS P T=some y/\MpT t y.w l w/\w.heap[l.blk]? = some (.map es clock)/\u=.seq false y.w rows/\pZ y rows es.toList/\rA es.toList clock
def A4q(P:Program)(ρ:Ren)(u:U)(wd:Nat)(T:TypeId)(g:Nat)(ro:Bool)(l:Loc)(w:World):Prop :=
 ∃ C fz a rows lg,w.heap[l.blk]? = some (.cells C a fz)/\u=.seq false wd rows/\rows.length=l.len/\l.len<=l.cap/\l.sh+l.cap*wd<=C.size/\(∀ row ∈ rows,row.length=wd)/\ρ g=some lg /\
  (∀ (r:Nat) (row:List U) (j:Nat) (x:U) (v:Value),rows[r]? = some row->row[j]? = some x->C[l.sh+r*wd+j]? = some v->Enc lg.G x v) /\
  (ro=false->a=T/\∀ i,i<C.size->¬ (fz.1<=i/\i<fz.2))
structure SqR (P:Program) (ρ:Ren) (u:U) (t:Nat) (T:TypeId) (g:Nat) (ro:Bool) (l:Loc) (w:World):Prop where
 ex:∃ wd inf,t=10+wd/\P.info? T=some inf/\inf.size=wd/\((l.on=false/\u=.seq true wd [])∨(l.on=true/\A4q P ρ u wd T g ro l w))
def StR(st:Nat)(s:LoopState)(p:Option Code):Prop :=
 match st with
 | 0=>s=.ready/\p=none
 | 1=>s=.busy
 | 2=>s=.done/\p=some .ret
 | 3=>True
 | k+4=>s=.done/\p=some (.exit k)
structure LpR (P:Program) (ρ:Ren) (f:FuncId) (q:List Bool) (vs:List Value) (st:Nat) (r:Loop):Prop where
 code:∃ fn body x,P.funcs[f]? = some fn/\fn.body=some body/\G5 q body=some (.rangeFunc x r.params r.assign r.body)/\vs.length=fn.ntmps
 fr:LR ρ vs r.tmps.toList
 st:StR st r.state r.pending
def LpR.mono{P:Program}{ρ ρ':Ren}(he:∀ b l,ρ b=some l->ρ' b=some l){f:FuncId}{q:List Bool}{vs:D0}{st:Nat}{r:Loop}(h:LpR P ρ f q vs st r):LpR P ρ' f q vs st r:=⟨h.code,h.fr.mono he,h.st⟩
structure NF (C:Array Value) (fz:Nat×Nat):Prop where
 nf:∀ i,i<C.size->¬ (fz.1<=i/\i<fz.2)
 le:fz.1<=fz.2
instance{C:R3}{fz:Nat×Nat}:CoeFun (NF C fz) (fun _=>∀ i,i<C.size->¬ (fz.1<=i/\i<fz.2)):=⟨NF.nf⟩
def NF.zero{C:R3}:NF C (0,0):=⟨fun i _ hh=>by have h1:0<=i:=hh.1;have a:i<0:=hh.2;omega,A7 _⟩
def NF.end{C:R3}:NF C (C.size,C.size+1):=⟨fun i h hh=>by have h1:C.size<=i:=hh.1;omega,Y4 _⟩
def NF.sz{C C':R3}{fz:Nat×Nat}(h:NF C fz)(a:C'.size=C.size):NF C' fz:=⟨fun i hi=>h.nf i (a▸hi),h.le⟩
def NF.mark{C:R3}{fz:Nat×Nat}(h:NF C fz):NF C (if fz.1 == fz.2 then(C.size,C.size+1)else(min fz.1 C.size,max fz.2 (C.size+1))):=by
 by_cases e:fz.1=fz.2
 .rw[B2 (by simp[e])];exact .end
 .rw[B0 (by simp[e])];have hle:=h.le;have h1:C.size<=fz.1:=by
   rcases F5 fz.1 C.size with a|a
   .exact absurd ⟨A7 _,A6⟩ (h.nf fz.1 a)
   .exact a
  exact⟨fun i hi hh=>by have h3:min fz.1 C.size<=i:=hh.1;omega,by show min fz.1 C.size<=max fz.2 (C.size+1);omega⟩
def BR(P:Program)(ρ:Ren)(ab:AB)(l:Loc)(w:World):Prop :=
 match ab with
 | .cells cs T ro=>l.on=true/\∃ C fz a,w.heap[l.blk]? = some (.cells C a fz)/\(∀ i v,cs[i]? = some v->∃ v',C[l.sh+i]? = some v'/\VR ρ v v') /\
    (ro=false->a=T/\NF C fz/\∀ inf,P.info? T=some inf->l.sh+l.cap*inf.size<=C.size/\l.sh%inf.size=0)
 | .mp c t T=>(l.on=true/\l.sh=0)/\MpR P (Ora.env c) t T l w
 | .iter vs=>(l.on=true/\l.sh=0)/\((∃ s n,w.heap[l.blk]? = some (.stringIter s n)/\LR ρ vs [.string s,.int .i64 (.ofNat n)])∨(vs=[]/\∃ o,l.G l.blk=some o/\w.heap[l.blk]? = some o))
 | .sq c t T g ro=>SqR P ρ (Ora.env c) t T g ro l w
 | .lp f q vs st=>(l.on=true/\l.sh=0)/\∃ r,w.heap[l.blk]? = some (.loop r)/\LpR P ρ f q vs st r
 | .dfr b=>(l.on=true/\l.sh=0)/\∃ x,w.heap[l.blk]? = some (.deferred x)/\(b=true->x=some [])
 | .frz=>l.on=false/\∀ k o,l.G k=some o->w.heap[k]? = some o
def BR.mono{P:Program}{ρ ρ':Ren}(he:∀ b l,ρ b=some l->ρ' b=some l){ab:AB}{l:Loc}{w w':World}(hw:∀ k,Tc ab l k->w'.heap[k]? = w.heap[k]?)(h:BR P ρ ab l w):BR P ρ' ab l w':=by
 cases ab with
 | cells cs T ro =>
   obtain⟨h0,C,fz,z,h1,d,h3⟩:=h;exact⟨h0,C,fz,z,(hw _ (.inl ⟨rfl,h0,rfl⟩)).trans h1,fun i v hi=>let ⟨v',a,b⟩:=d i v hi;⟨v',a,b.mono he⟩,h3⟩
 | mp c t T =>
   obtain⟨h0,y,es,clock,rows,h1,d,h3,p⟩:=h;exact⟨h0,y,es,clock,rows,h1,d.imp id (fun⟨a,o,b,c⟩=>⟨a,o,b,(hw _ (.inl ⟨rfl,h0.1,rfl⟩)).trans c⟩),(hw _ (.inl ⟨rfl,h0.1,rfl⟩)).trans h3,p⟩
 | iter vs =>
   obtain⟨h0,h⟩:=h;refine⟨h0,?_⟩;rcases h with⟨s,n,h1,d⟩|⟨h1,o,d,h3⟩
   .exact .inl ⟨s,n,(hw _ (.inl ⟨rfl,h0.1,rfl⟩)).trans h1,d.mono he⟩
   .exact .inr ⟨h1,o,d,(hw _ (.inl ⟨rfl,h0.1,rfl⟩)).trans h3⟩
 | lp f q vs st=>obtain⟨h0,r,h1,d⟩:=h;exact⟨h0,r,(hw _ (.inl ⟨rfl,h0.1,rfl⟩)).trans h1,d.mono he⟩
 | dfr b=>obtain⟨h0,x,h1,d⟩:=h;exact⟨h0,x,(hw _ (.inl ⟨rfl,h0.1,rfl⟩)).trans h1,d⟩
 | sq c t T g ro =>
   obtain⟨wd,inf,h1,d,h3,p⟩:=SqR.ex h;refine⟨⟨wd,inf,h1,d,h3,p.imp (fun x=>x) fun⟨j,u⟩=>⟨j,?_⟩⟩⟩;obtain⟨C,fz,z,rows,lg,h1,d,h3,p,u,B,E,A,D⟩:=u;exact⟨C,fz,z,rows,lg,(hw _ (.inl ⟨rfl,j,rfl⟩)).trans h1,d,h3,p,u,B,he _ _ E,A,D⟩
 | frz=>exact⟨h.1,fun k o hk=>(hw k (.inr ⟨rfl,o,hk⟩)).trans (h.2 k o hk)⟩
structure HR (P:Program) (base:Nat) (ρ:Ren) (H:Hp AB) (w:World):Prop where
 dom:∀ b l,ρ b=some l->b<=G9
 at_:∀ id,id<=G9->∀ ab,Hp.get H id=some ab->∃ l,ρ id=some l/\BR P ρ ab l w/\(ab.rw=true->l.on=true->base<=l.blk/\∀ id2,id2<=G9->∀ ab2 l2,Hp.get H id2=some ab2->ρ id2=some l2->Tc ab2 l2 l.blk->id2=id)
def BR.tc{P:Program}{ρ:Ren}{ab:AB}{l:Loc}{w:World}(h:BR P ρ ab l w){k:Nat}(j:Tc ab l k):k<w.heap.size:=by
 have key:∀ k o,w.heap[k]? = some o->k<w.heap.size:=fun k o u=>(B7.1 u).1
 rcases j with⟨h1,d,rfl⟩|⟨rfl,o,h1⟩
 .cases ab with
  | cells cs T ro=>obtain⟨_,C,fz,p,h1,_⟩:=h;exact key _ _ h1
  | mp c t T=>obtain⟨h0,y,es,clock,rows,h1,v,h3,i⟩:=h;exact key _ _ h3
  | iter vs =>
    obtain⟨_,h⟩:=h;rcases h with⟨s,n,h1,_⟩|⟨_,o,_,h1⟩<;>exact key _ _ h1
  | lp f q vs st=>obtain⟨_,r,h1,_⟩:=h;exact key _ _ h1
  | dfr b=>obtain⟨_,x,h1,_⟩:=h;exact key _ _ h1
  | sq c t T g ro =>
    obtain⟨wd,inf,_,_,_,i⟩:=SqR.ex h;rcases i with⟨a,_⟩|⟨_,a⟩
    .rw[d]at a;cases a
    .obtain⟨C,fz,p,rows,lg,h1,_⟩:=a;exact key _ _ h1
  | frz=>cases h1
 .exact key _ _ (h.2 k o h1)
def HR.atl{P:Program}{base:Nat}{ρ:Ren}{H:Hp AB}{w:World}(h:HR P base ρ H w){id:Nat}{l:Loc}(c:ρ id=some l){ab:AB}(f:Hp.get H id=some ab) :
  BR P ρ ab l w/\(ab.rw=true->l.on=true->base<=l.blk/\∀ a,a<=G9->∀ b l2,Hp.get H a=some b->ρ a=some l2->Tc b l2 l.blk->a=id):=by
 obtain⟨l0,h1,d,h3⟩:=h.at_ id (h.dom id l c) ab f;rw[c]at h1
 have:=A5 h1;subst this;exact⟨d,h3⟩
def HR.sub{P:Program}{base:Nat}{ρ:Ren}{H o:Hp AB}{w:World}(h:HR P base ρ H w)(n:∀ id,id<=G9->∀ ab,Hp.get o id=some ab->Hp.get H id=some ab):HR P base ρ o w :=
 ⟨h.dom,fun id hid ab j=>let ⟨l,a,b,c⟩:=h.at_ id hid ab (n id hid ab j);⟨l,a,b,fun hr p=>⟨(c hr p).1,fun i d f l2 g=>(c hr p).2 i d f l2 (n i d f g)⟩⟩⟩
def AB.fr:AB->Bool
 | .cells _ _ ro=>!ro
 | _=>true
def AB.rw_fr{ab:AB}(h:ab.rw=true):ab.fr=true:=by
 cases ab<;>first|rfl|exact h
def Tf(ab:AB)(l:Loc)(k:Nat):Prop:=ab.fr=true/\Tc ab l k
def Fp(ρ:Ren)(H:Hp AB)(k:Nat):Prop:=∃ id ab l,id<=G9/\Hp.get H id=some ab/\ρ id=some l/\Tf ab l k
structure St (P:Program) (base:Nat) (ρ ρ':Ren) (m m':Mem) (w w':World):Prop where
 ext:∀ b l,ρ b=some l->ρ' b=some l
 new:∀ b l,ρ' b=some l->ρ b=none->m.n<=b/\b<m'.n
 nle:m.n<=m'.n
 hle:m.hi<=m'.hi
 nhi:m.n<=m.hi->m'.n<=m'.hi
 hr:HR P base ρ' m'.H w'
 wsub:∀ b ∈ m.W,b ∈ m'.W
 wrw:∀ b ∈ m'.W,b ∉ m.W->∀ l,ρ b=some l->∃ ab,Hp.get m.H b=some ab/\ab.rw=true
 keep:∀ k,k<w.heap.size->(∀ b ∈ m'.W,∀ l,ρ b=some l->l.on=true->l.blk≠k)->w'.heap[k]? = w.heap[k]?
 size:w.heap.size<=w'.heap.size
 os:w'.os=w.os/\w'.tape=w.tape/\w'.output=w.output
 blk:∀ b l,ρ' b=some l->ρ b=none->l.on=true->w.heap.size<=l.blk∨∃ b0 ∈ m'.W,∃ l0,ρ b0=some l0/\l0.on=true/\l0.blk=l.blk
 same:∀ id,id<=G9->id ∉ m'.W->(id<m.n∨m'.hi<=id)->Hp.get m'.H id=Hp.get m.H id
 tch:∀ k,Fp ρ' m'.H k->w.heap.size<=k∨Fp ρ m.H k
def I8(ρ:Ren)(n hi:Nat):Prop:=∀ b,n<=b->b<hi->ρ b=none
def St.refl{P:Program}{base:Nat}{ρ:Ren}{m:Mem}{w:World}(h:HR P base ρ m.H w):St P base ρ ρ m m w w :=
 ⟨fun _ _ h=>h,fun b l h1 a=>(by rw[h1]at a;cases a),A7 _,A7 _,fun h=>h,h,fun _ h=>h,fun b h1 a=>absurd h1 a,fun _ _ _=>rfl,A7 _,⟨rfl,rfl,rfl⟩,fun b l h1 a=>(by rw[h1]at a;cases a),fun _ _ _ _=>rfl,fun _ h=>.inr h⟩
def St.trans{P:Program}{base:Nat}{ρ o ρ2:Ren}{m m1 m2:Mem}{w w1 w2:World}(G:I8 ρ m.n m2.hi)(a:St P base ρ o m m1 w w1)(c:St P base o ρ2 m1 m2 w1 w2):St P base ρ ρ2 m m2 w w2:=by
 refine⟨fun b l h=>c.ext b l (a.ext b l h),fun b l h1 i=>?_,B8 a.nle c.nle,B8 a.hle c.hle,fun h=>c.nhi (a.nhi h),c.hr,fun b h=>c.wsub b (a.wsub b h),fun b h1 i l f=>?_,fun k hk z=>?_,B8 a.size c.size,⟨c.os.1.trans a.os.1,c.os.2.1.trans a.os.2.1,c.os.2.2.trans a.os.2.2⟩,fun b l h1 i s=>?_,fun id hid h1 i=>?_,fun k hk=>(c.tch k hk).elim (fun h=>.inl (B8 a.size h)) (a.tch k)⟩
 .cases h:o b with
  | some l1=>exact⟨(a.new b l1 h i).1,C9 (a.new b l1 h i).2 c.nle⟩
  | none=>exact⟨B8 a.nle (c.new b l h1 h).1,(c.new b l h1 h).2⟩
 .by_cases h:b ∈ m1.W
  .exact a.wrw b h i l f
  .obtain⟨ab,h3,F⟩:=c.wrw b h1 h l (a.ext b l f);refine⟨ab,?_,F⟩;rw[<- a.same b (a.hr.dom b l (a.ext b l f)) h ?_]
   .exact h3
   .rcases F5 b m.n with x|C
    .exact .inl x
    .refine .inr ?_;rcases F5 b m2.hi with d|d
     .rw[G b C d]at f;cases f
     .exact B8 c.hle d
 .have h1:w1.heap[k]? = w.heap[k]? := a.keep k hk fun b r l f u=>z b (c.wsub b r) l f u
  rw[<- h1];refine c.keep k (C9 hk a.size) fun b r l f u=>?_
  cases h:ρ b with
  | some l0 =>
    have:=a.ext b l0 h;rw[this]at f;have f:=A5 f;subst f;exact z b r l0 h u
  | none =>
    rcases a.blk b l f h u with d|⟨g,d,l0,j,p,q⟩
    .omega
    .rw[<- q];exact z g (c.wsub g d) l0 j p
 .cases h:o b with
  | some l1 =>
    have:=c.ext b l1 h;rw[this]at h1;have h1:=A5 h1;subst h1;rcases a.blk b l1 h i s with d|⟨g,d,l0,j,q⟩
    .exact .inl d
    .exact .inr ⟨g,c.wsub g d,l0,j,q⟩
  | none =>
    rcases c.blk b l h1 h s with d|⟨g,d,l0,j,p,q⟩
    .exact .inl (B8 a.size d)
    .cases v:ρ g with
     | some l1 =>
       have:=a.ext g l1 v;rw[this]at j;have j:=A5 j;subst j;exact .inr ⟨g,d,l1,v,p,q⟩
     | none =>
       rcases a.blk g l0 j v p with A|⟨E,A,l1,B,t,D⟩
       .exact .inl (q▸A)
       .exact .inr ⟨E,c.wsub E A,l1,B,t,D.trans q⟩
 .have h3:id ∉ m1.W:=fun h=>h1 (c.wsub id h)
  rw[c.same id hid h1 (i.imp (fun h=>C9 h a.nle) fun h=>h),a.same id hid h3 (i.imp (fun h=>h) fun h=>B8 c.hle h)]
end
section
open Go
variable [Ora]
def B6{a b:Bool}(h:(a && b)=true):a=true/\b=true:=by simpa using h
theorem A2{α:Type}{c:Bool}{x:Option α}{y:α}(h:(bif c then x else none)=some y):c=true/\x=some y:=by
 cases c
 .simp at h
 .exact⟨rfl,h⟩
def K5{m:Mem}{ab:AB}{v:Value}{m':Mem}(h:Y0 m ab k=some (v,m')):m.n<=G9/\v=k m.n/\m'=⟨m.H.set m.n (some ab),m.n+1,m.W,upN m.hi m.n,m.lg⟩:=by
 obtain⟨H,n,W,hi,lg⟩:=m;simp only[Y0,E6,cK]at h;obtain⟨h1,a⟩:=A2 h;simp only[C7,J1]at a;exact⟨by simpa using h1,a.1.symm,a.2.symm⟩
def S2{m:Mem}{id:Nat}{ab:AB}{m':Mem}(h:aK m id ab=some m'):id<=G9/\m'=⟨m.H.set id (some ab),m.n,id::m.W,m.hi,m.lg⟩:=by
 obtain⟨H,n,W,hi,lg⟩:=m;simp only[aK,E6,cK]at h;obtain⟨h1,a⟩:=A2 h;simp only[C7]at a;exact⟨by simpa using h1,a.symm⟩
def g7(m:Mem)(id:Nat):gN m id=⟨m.H.set id none,m.n,id::m.W,m.hi,m.lg⟩:=by
 obtain⟨H,n,W,hi,lg⟩:=m;simp only[gN,E6,cK]
def J7(hi n:Nat):hi<=upN hi n/\n<upN hi n:=by
 unfold upN;cases h:Nat.blt n hi with
 | true=>have:=A1 h;simp;omega
 | false =>
   have:¬ n<hi:=fun a=>by rw[show Nat.blt n hi=true from C6 a]at h;cases h
   simp;omega
def upd(ρ:Ren)(n:Nat)(l:Loc):Ren:=fun b=>if b=n then some l else ρ b
def V1{ρ:Ren}{n:Nat}{l:Loc}(h:ρ n=none):∀ b k,ρ b=some k->upd ρ n l b=some k:=fun b k a=>by
 unfold upd;by_cases e:b=n
 .subst e;rw[h]at a;cases a
 .rw[B0 e];exact a
def K7(ρ:Ren)(n:Nat)(l:Loc):upd ρ n l n=some l:=by simp[upd]
def S0{ρ:Ren}{n:Nat}{l:Loc}{b:Nat}{k:Loc}(h:upd ρ n l b=some k)(h0:ρ b=none):b=n/\k=l:=by
 unfold upd at h;by_cases e:b=n
 .rw[B2 e]at h;exact⟨e,(A5 h).symm⟩
 .rw[B0 e]at h;rw[h0]at h;cases h
section
variable {P:Program} {base:Nat} {ρ:Ren} {m m':Mem} {w w':World}
def St.alloc{ab:AB}{v:Value}{o:Obj}{l:Loc}(h:HR P base ρ m.H w)(C:base<=w.heap.size)(F:Y0 m ab k=some (v,m'))(G:I8 ρ m.n m'.hi)
  (t:w'.os=w.os/\w'.tape=w.tape/\w'.output=w.output) (hh:w'.heap=w.heap.push o) (I:l.blk=w.heap.size) (z:BR P (upd ρ m.n l) ab l w') (A:ab≠.frz:=by intro h;cases h) :
  v=k m.n/\upd ρ m.n l m.n=some l/\St P base ρ (upd ρ m.n l) m m' w w':=by
 obtain⟨hle,D,rfl⟩:=K5 F;have p:ρ m.n=none:=G m.n (A7 _) (J7 _ _).2;have d:=V1 (l:=l) p;have u:∀ k,Tc ab l k->w.heap.size<=k:=fun k hk=>by
  rcases hk with⟨_,_,rfl⟩|⟨rfl,_⟩
  .omega
  .exact absurd rfl A
 have hold:∀ k,k<w.heap.size->w'.heap[k]? = w.heap[k]? := fun k hk=>by rw[hh,L2];rw[B0 A6]
 refine⟨D,K7 _ _ _,d,fun b k h1 c=>?_,by simp,(J7 _ _).1,fun _=>X3 (J7 _ _).2,⟨fun b k hk=>?_,fun id hid a f=>?_⟩,fun b C=>C,fun b h1 c=>absurd h1 c,fun k hk _=>hold k hk,by rw[hh];simp,t,fun b k h1 c _=>?_,fun id hid h1 c=>?_,fun k ⟨id,a,q,hid,f,j,B⟩=>?_⟩
 .obtain⟨rfl,rfl⟩:=S0 h1 c;exact⟨A7 _,H9 _⟩
 .cases h0:ρ b with
  | some x =>
    rw[d b x h0]at hk
    have:=A5 hk;subst this;exact h.dom b x h0
  | none=>obtain⟨rfl,rfl⟩:=S0 hk h0;exact hle
 .rw[E9 _ _ _ _ hle hid]at f;by_cases e:id=m.n
  .rw[B2 e]at f;have f:=A5 f;subst f;subst e;refine⟨l,K7 _ _ _,z,fun _ _=>⟨A6,fun i g s l2 c h3 E=>?_⟩⟩;cases h0:ρ i with
   | some x =>
     rw[d i x h0]at h3
     have:=A5 h3;subst this;rw[E9 _ _ _ _ hle g]at c;by_cases r:i=m.n
     .exact r
     .rw[B0 r]at c
      have:=(h.atl h0 c).1.tc E;omega
   | none=>exact(S0 h3 h0).1
  .rw[B0 e]at f;obtain⟨l0,h1,c,h3⟩:=h.at_ id hid a f;refine⟨l0,d _ _ h1,c.mono d (fun k hk=>hold _ (c.tc hk)),fun hr t=>⟨(h3 hr t).1,fun i g s l2 g1 g2 g3=>?_⟩⟩;rw[E9 _ _ _ _ hle g]at g1;by_cases r:i=m.n
   .subst r;rw[K7]at g2
    have:=A5 g2;subst this;have g1:=A5 (by simpa using g1);subst g1
    have:=c.tc (.inl ⟨AB.rw_on hr,t,rfl⟩)
    have:=u _ g3;omega
   .rw[B0 r]at g1;unfold upd at g2;rw[B0 r]at g2;exact(h3 hr t).2 i g s l2 g1 g2 g3
 .obtain⟨rfl,rfl⟩:=S0 h1 c;exact .inl A6
 .rw[E9 _ _ _ _ hle hid,B0];intro e;subst e;rcases c with c|c
  .omega
  .have c:upN m.hi m.n<=m.n:=c
   have:=(J7 m.hi m.n).2;omega
 .have f:Hp.get (m.H.set m.n (some ab)) id=some a:=f;rw[E9 _ _ _ _ hle hid]at f;by_cases e:id=m.n
  .subst e;rw[B2 rfl]at f;have f:=A5 f;subst f;rw[K7]at j;have j:=A5 j;subst j;exact .inl (u k B.2)
  .rw[B0 e]at f;unfold upd at j;rw[B0 e]at j;exact .inr ⟨id,a,q,hid,f,j,B⟩
def St.write{ab ab':AB}{id:Nat}{l:Loc}(h:HR P base ρ m.H w)(I:aK m id ab'=some m')(B:Hp.get m.H id=some ab)(j:ab.rw=true)(t:ρ id=some l)(r:l.on=true)
  (K:w'.os=w.os/\w'.tape=w.tape/\w'.output=w.output) (F:w'.heap.size=w.heap.size) (hk:∀ k,k≠l.blk->w'.heap[k]? = w.heap[k]?) (D:BR P ρ ab' l w') (z:ab'≠.frz:=by intro h;cases h):St P base ρ ρ m m' w w':=by
 have A:∀ k,Tc ab' l k->Tc ab l k∨k=l.blk:=fun k hk=>by
  rcases hk with⟨_,_,rfl⟩|⟨rfl,_⟩
  .exact .inr rfl
  .exact absurd rfl z
 obtain⟨hle,rfl⟩:=S2 I;obtain⟨p,h3⟩:=h.atl t B;refine⟨fun _ _ h=>h,fun b k h1 p=>(by rw[h1]at p;cases p),A7 _,A7 _,fun h=>h,⟨h.dom,fun d c a g=>?_⟩,fun b D=>C5 _ D,fun b h1 p k o=>?_,fun k o C=>hk k ?_,by rw[F];exact A7 _,K,fun b k h1 p=>(by rw[h1]at p;cases p),fun d c J L=>?_,fun k ⟨d,a,q,c,g,v,G⟩=>.inr ?_⟩
 .rw[E9 _ _ _ _ hle c]at g;by_cases e:d=id
  .rw[B2 e]at g;have g:=A5 g;subst g;subst e;refine⟨l,t,D,fun _ i=>⟨(h3 j i).1,fun n f s E g1 g2 g3=>?_⟩⟩;rw[E9 _ _ _ _ hle f]at g1;by_cases x:n=d
   .exact x
   .rw[B0 x]at g1;exact(h3 j i).2 n f s E g1 g2 g3
  .rw[B0 e]at g;obtain⟨l2,g1,g2,g3⟩:=h.at_ d c a g;have u:∀ k,Tc a l2 k->k≠l.blk:=fun k o hh=>e ((h3 j r).2 d c a l2 g g1 (hh▸o))
   refine⟨l2,g1,g2.mono (fun _ _ h=>h) (fun k o=>hk _ (u k o)),fun hr i=>⟨(g3 hr i).1,fun n f s E f1 f2 f3=>?_⟩⟩;rw[E9 _ _ _ _ hle f]at f1;by_cases x:n=id
   .subst x;rw[t]at f2
    have:=A5 f2;subst this;have f1:=A5 (by simpa using f1);subst f1;rcases A _ f3 with f3|f3
    .exact(g3 hr i).2 n f ab l B t f3
    .exact absurd f3 (u _ (.inl ⟨AB.rw_on hr,i,rfl⟩))
   .rw[B0 x]at f1;exact(g3 hr i).2 n f s E f1 f2 f3
 .rcases A8.1 h1 with rfl|h1
  .exact⟨ab,B,j⟩
  .exact absurd h1 p
 .exact fun e=>C id B5 l t r e.symm
 .rw[E9 _ _ _ _ hle c,B0];intro e;subst e;exact J B5
 .have g:Hp.get (m.H.set id (some ab')) d=some a:=g;rw[E9 _ _ _ _ hle c]at g;by_cases e:d=id
  .subst e;rw[B2 rfl]at g;have g:=A5 g;subst g;rw[t]at v;have v:=A5 v;subst v;refine⟨d,ab,l,c,B,t,AB.rw_fr j,.inl ⟨AB.rw_on j,r,?_⟩⟩;rcases G.2 with⟨_,_,h⟩|⟨h,_⟩
   .exact h
   .exact absurd h z
  .rw[B0 e]at g;exact⟨d,a,q,c,g,v,G⟩
def gA{o n:Nat}{r:D0}(h:TV cs o n=some r):r=(cs.drop o).take n/\r.length=n:=by
 unfold TV at h;simp only at h;obtain⟨h1,a⟩:=A2 h;have a:=(A5 a).symm;subst a;exact⟨rfl,A0 h1⟩
theorem o7{C:R3}{cs:D0}{s:Nat}(h:∀ (i:Nat) (v:Value),cs[i]? = some v->∃ v',C[s+i]? = some v'/\VR ρ v v'):∃ cs',LR ρ cs cs'/\∀ (i:Nat) (v':Value),cs'[i]? = some v'->C[s+i]? = some v':=by
 induction cs generalizing s with
 | nil=>exact⟨[],.nil,fun i v' h=>by simp at h⟩
 | cons v r c =>
   obtain⟨v',h1,d⟩:=h 0 v rfl;obtain⟨r',h3,f⟩:=c (s:=s+1) fun i u hi=>by
    obtain⟨g,a,b⟩:=h (i+1) u (by simpa using hi);exact⟨g,by rw[show s+1+i=s+(i+1) by omega];exact a,b⟩
   refine⟨v'::r',.cons d h3,fun i u hi=>?_⟩;cases i with
   | zero=>simp at hi;subst hi;simpa using h1
   | succ i =>
     have:=f i u (by simpa using hi);rw[show s+(i+1)=s+1+i by omega];exact this
def Y9{a:Addr}{n:Nat}{r:D0}{l:Loc}(h:HR P base ρ m.H w)(hr:n9 m a n=some r)(t:ρ a.block=some l) :
  ∃ r',LR ρ r r'/\r'.length=n/\(∀ (j:Nat) (v':Value),r'[j]? = some v'->w.cell? ⟨l.blk,a.off+l.sh+j,none⟩=some v'):=by
 unfold n9 at hr;split at hr
 .rename_i cs T ro b o;obtain⟨f,d⟩:=gA hr;obtain⟨⟨_,C,fz,x,q,h3,_⟩,_⟩:=h.atl t o;obtain⟨r',g,p⟩:=o7 (ρ:=ρ) (C:=C) (cs:=r) (s:=l.sh+a.off) fun i v hi=>by
   have c:i<n:=by
    have:=(A9.1 hi).1;omega
   rw[f,F2 c,H3]at hi;obtain⟨v',g1,g2⟩:=h3 _ v hi;exact⟨v',by rw[show l.sh+a.off+i=l.sh+(a.off+i) by omega];exact g1,g2⟩
  refine⟨r',g,g.1▸d,fun j v' u=>?_⟩
  have:=p j v' u;simp[World.cell?,q,show a.off+l.sh+j=l.sh+a.off+j by omega,this]
 .cases hr
def J0.add_none'{b o i:Nat}:(Addr.mk b o none).add i=⟨b,o+i,none⟩:=by
 unfold Addr.add;split
 .rename_i h;subst h;rfl
 .rfl
def J0{b o:Nat}{r':D0}{n:Nat}(c:r'.length=n)(h:∀ (j:Nat) (v':Value),r'[j]? = some v'->w.cell? ⟨b,o+j,none⟩=some v'):(loadCells ⟨b,o,none⟩ n).run P w=.ok ⟨r'⟩ w:=by
 subst c
 have:=run_loadCells_list (P:=P) w ⟨b,o,none⟩ r' (fun j v a=>by rw[J0.add_none'];exact h j v a);exact this
def iU{a:Addr}{n:Nat}(b:r'.length=n)(h:∀ (j:Nat) (v':Value),r'[j]? = some v'->w.cell? (a.add j)=some v'):(loadCells a n).run P w=.ok ⟨r'⟩ w:=by
 subst b;exact run_loadCells_list (P:=P) w a r' h
def X9:∀ (vs cs:List Value) (k:Nat),(aO cs k vs).length=cs.length
 | [],_,_=>rfl
 | v::r,cs,k=>by rw[aO,X9 r];simp
def JR{cs cs':D0}(h:LR ρ cs cs'):∀ {vs a:D0} {k:Nat},LR ρ vs a->LR ρ (aO cs k vs) (aO cs' k a)
 | [],a,k,hv=>by rw[hv.nil_inv];exact h
 | v::r,a,k,hv=>by
   obtain⟨v',r',rfl,h1,b⟩:=hv.tail;simp only[aO];exact JR (h.set h1 k) b
def YL{v v':Value}(h:VR ρ v v')(a:flat v=true):o9 v'=true:=by
 cases h with
 | hole h _=>have:=eI h;cases v'<;>first|rfl|cases this
 | junk h=>exact h (A0 a)
 | pure hp=>cases v<;>first|rfl|cases a|cases hp
 | ixp h d hi c b=>subst b;rfl
 | sdt h=>exact h.flat
 | _=>first|assumption|exact a|rfl
def AS:∀ {vs a:D0},LR ρ vs a->vs.all flat=true->a.all o9=true
 | [],a,h,_=>by rw[h.nil_inv];rfl
 | v::r,a,h,hf=>by
   obtain⟨v',r',rfl,h1,b⟩:=h.tail;simp only[aJ,H4]at hf ⊢;exact⟨YL h1 hf.1,AS b hf.2⟩
def X7{b o:Nat}{T:TypeId}{fz:Nat×Nat}:∀ (vs:List Value) (i:Nat) (C:Array Value) (w:World),w.heap[b]? = some (.cells C T fz)->vs.all o9=true->o+i+vs.length<=C.size ->
  (∀ i,i<C.size->¬ (fz.1<=i/\i<fz.2)) ->
  ∃ w',(storeCells ⟨b,o,none⟩ vs i).run P w=.ok () w'/\(w'.os=w.os/\w'.tape=w.tape/\w'.output=w.output)/\w'.heap.size=w.heap.size/\w'.heap[b]? = some (.cells ⟨aO C.toList (o+i) vs⟩ T fz)/\∀ k,k≠b->w'.heap[k]? = w.heap[k]?
 | [],i,C,w,h,_,_,_=>⟨w,rfl,⟨rfl,rfl,rfl⟩,rfl,h,fun _ _=>rfl⟩
 | v::r,i,C,w,h,h1,hl,hz=>by
   simp only[aJ,H4]at h1;simp only[J2]at hl;have a:o+i<C.size:=A6;have n:(w.setCell ⟨b,o+i,none⟩ v).heap[b]? = some (.cells (C.setIfInBounds (o+i) v) T fz):=by
    simp[World.setCell,F4,h]
   obtain⟨w',hr,l,f,j,hk⟩:=X7 (b:=b) (o:=o) (T:=T) (fz:=fz) r (i+1) (C.setIfInBounds (o+i) v) (w.setCell ⟨b,o+i,none⟩ v) n h1.2 (by simp;omega) (by simpa using hz);refine⟨w',?_,?_,?_,?_,fun k c=>?_⟩
   .have p:w.cell? ⟨b,o+i,none⟩=some C[o+i]:=by simp[World.cell?,h,a]
    have q:w.frozen? ⟨b,o+i,none⟩=false:=by
     have:=hz (o+i) a;simp only[World.frozen?,h];by_cases h1:fz.1<=o+i<;>by_cases g:o+i<fz.2<;>simp[h1,g]<;>exact absurd ⟨h1,g⟩ this
    have d:(store ((Addr.mk b o none).add i) v).run P w=.ok () (w.setCell ⟨b,o+i,none⟩ v):=by
     rw[J0.add_none'];unfold store;cases v<;>simp_all [Sem.run,o9]
    unfold storeCells;simp only[A4,d,Result.andThen];exact hr
   .simpa [World.setCell]using l
   .rw[f];simp[World.setCell]
   .rw[j];have:(C.setIfInBounds (o+i) v).toList=C.toList.set (o+i) v:=by simp
    rw[this];simp[aO,i5]
   .rw[hk k c];simp only[World.setCell,F4];rw[B0 (fun e=>c e.symm)]
def iL(vs:List Value):∀ (cs:List Value) (k i:Nat),k+vs.length<=cs.length->(aO cs k vs)[i]? = if k<=i/\i<k+vs.length then vs[i-k]? else cs[i]? := by
 induction vs with
 | nil=>intro cs k i h;simp[aO];intro h1 a;omega
 | cons v r b =>
   intro cs k i h;simp only[J2]at h ⊢;rw[aO,b (cs.set k v) (k+1) i (by simp;omega)];by_cases h1:k+1<=i/\i<k+1+r.length
   .rw[B2 h1,B2 A6,show i-k=(i-(k+1))+1 by omega];rfl
   .rw[B0 h1];by_cases a:i=k
    .subst a;rw[B2 A6,Nat.sub_self,V6 A6];rfl
    .rw[B0 A6,aZ (fun e=>a e.symm)]
def mH{a:Addr}{vs c:D0}{l:Loc}(h:HR P base ρ m.H w)(hw:lH m a vs=some m')(x:ρ a.block=some l)(t:LR ρ vs c) :
  ∃ w',(storeCells ⟨l.blk,a.off+l.sh,none⟩ c).run P w=.ok () w'/\St P base ρ ρ m m' w w':=by
 unfold lH at hw;split at hw
 .rename_i cs T q r;obtain⟨J,s⟩:=A2 hw;obtain⟨f,A⟩:=B6 J;have f:=A1 f;rw[H5]at s;obtain⟨⟨d,C,fz,R,D,h3,E⟩,Q⟩:=h.atl x r;obtain⟨rfl,F,K⟩:=E rfl;have n:∀ i,i<cs.length->l.sh+i<C.size:=fun i hi=>by
   obtain⟨v',g,_⟩:=h3 i cs[i] (A3 hi);exact(B7.1 g).1
  have hlen:c.length=vs.length:=t.1.symm;by_cases M:vs.length=0
  .have O:vs=[]:=D2.1 M;have L:c=[]:=D2.1 A6;subst O;subst L;exact⟨w,rfl,St.write h s r rfl x d ⟨rfl,rfl,rfl⟩ rfl (fun _ _=>rfl) ⟨d,C,fz,_,D,by simpa [aO]using h3,E⟩⟩
  .have I:l.sh+(a.off+vs.length-1)<C.size:=n _ A6;obtain⟨w',hr,N,B,u,hk⟩:=X7 (P:=P) (b:=l.blk) (o:=a.off+l.sh) (fz:=fz) c 0 C w D (AS t A) A6 F;refine⟨w',hr,St.write h s r rfl x d N B hk ⟨d,_,fz,_,u,fun i v hi=>?_,fun _=>⟨rfl,F.sz (by simp[X9]),by simpa [X9]using K⟩⟩⟩;rw[iL _ _ _ _ f]at hi;have G:C.toList.length=C.size:=by simp
   have z:∀ j,(aO C.toList (a.off+l.sh+0) c)[l.sh+j]? = if a.off<=j/\j<a.off+c.length then c[j-a.off]? else C.toList[l.sh+j]? := fun j=>by
    rw[iL _ _ _ _ A6];by_cases p:a.off<=j/\j<a.off+c.length
    .rw[B2 p,B2 A6,show l.sh+j-(a.off+l.sh+0)=j-a.off by omega]
    .rw[B0 p,B0 A6]
   show ∃ v',(Array.mk (aO C.toList (a.off+l.sh+0) c))[l.sh+i]? = some v'/\_;simp only[I6,z];by_cases p:a.off<=i/\i<a.off+vs.length
   .rw[B2 p]at hi;rw[B2 A6];exact t.get hi
   .rw[B0 p]at hi;rw[B0 A6];obtain⟨v',g1,g2⟩:=h3 i v hi;exact⟨v',by simpa using g1,g2⟩
 .cases hw
end
end
section
open Go
variable [Ora]
def VOk(P:Program)(base:Nat)(ρ:Ren)(m:Mem)(w:World)(s:Sem Value)(v:Value)(m':Mem):Prop :=
 ∃ v' ρ' w',s.run P w=.ok v' w'/\VR ρ' v v'/\St P base ρ ρ' m m' w w'
def UOk(P:Program)(base:Nat)(ρ:Ren)(m:Mem)(w:World)(s:Sem Unit)(m':Mem):Prop :=
 ∃ ρ' w',s.run P w=.ok () w'/\St P base ρ ρ' m m' w w'
section
variable {P:Program} {base:Nat} {ρ:Ren} {m m':Mem} {w:World}
def VOk.same{s:Sem Value}{v v':Value}(h:HR P base ρ m.H w)(hr:s.run P w=.ok v' w)(a:VR ρ v v'):VOk P base ρ m w s v m:=⟨v',ρ,w,hr,a,.refl h⟩
theorem aR{b:Bool}{v':Value}(h:VR ρ (.bool b) v'):v'=.bool b:=by cases h;rfl
theorem I2{k:IntKind}{n:Int}{v':Value}(h:VR ρ (.int k n) v'):v'=.int k n:=by cases h;rfl
theorem S3{s:ByteArray}{v':Value}(h:VR ρ (.string s) v'):v'=.string s:=by cases h;rfl
theorem L8{a:Addr}{v':Value}(h:VR ρ (.pointer (some a)) v'):∃ l,ρ a.block=some l/\a.spot=none/\v'=.pointer (some ⟨l.blk,a.off+l.sh,none⟩):=by
 cases h with
 | pure hp=>simp[H8]at hp
 | ptr h=>exact⟨_,h,rfl,rfl⟩
def T8{cs:R3}{v':Value}(h:VR ρ (.agg cs) v'):∃ cs',v'=.agg ⟨cs'⟩/\LR ρ cs.toList cs':=by
 cases h with
 | pure hp=>simp[H8]at hp
 | agg a h=>exact⟨_,rfl,a,h⟩
def pG{cs:R3}{v':Value}(h:VR ρ (.tuple cs) v'):∃ cs',v'=.tuple ⟨cs'⟩/\LR ρ cs.toList cs':=by
 cases h with
 | pure hp=>simp[H8]at hp
 | tuple a h=>exact⟨_,rfl,a,h⟩
def T4{t:TypeId}{i:TypeInfo}(h:P.info? t=some i)(w:World):(typeInfo t).run P w=.ok i w:=by simp[typeInfo,A4,run_program,Result.andThen,h]
def J5{t:TypeId}{n:Nat}(h:G3 P t=some n)(w:World):(sizeOf t).run P w=.ok n w:=by
 unfold G3 at h;split at h
 .rename_i i hi
  have:=A5 h;subst this;simp[sizeOf,A4,T4 hi,Result.andThen]
 .cases h
def C8{t:TypeId}{d:TypeDesc}(h:P.underlying t=some d)(w:World):(underlying t).run P w=.ok d w:=by simp[underlying,A4,run_program,Result.andThen,h]
def t6{t:TypeId}{b:Bool}(h:Z7 P t=some b)(w:World):(isAgg t).run P w=.ok b w:=by
 unfold Z7 at h;cases hu:P.underlying t with
 | none=>rw[hu]at h;cases h
 | some d =>
   rw[hu]at h;simp only[isAgg,A4,C8 hu,Result.andThen];cases d<;>cases h<;>rfl
def sH{t:TypeId}{z:Value}(h:dK P t=some z):∃ i,P.info? t=some i/\i.zero=some z/\JT z=true:=by
 unfold dK at h;split at h
 .rename_i i hi;split at h
  .rename_i v b;obtain⟨h1,a⟩:=A2 h
   have:=A5 a;subst this;exact⟨i,hi,b,h1⟩
  .cases h
 .cases h
def s9{t:TypeId}{z:Value}(h:dK P t=some z)(w:World):(zeroValue t).run P w=.ok z w:=by
 obtain⟨i,hi,a,_⟩:=sH h;simp[zeroValue,A4,T4 hi,Result.andThen,a]
def mG{t:TypeId}{z:Value}(h:dK P t=some z):LR ρ z.cells.toList z.cells.toList:=by
 obtain⟨i,hi,a,hp⟩:=sH h;exact(VR.ofC hp).cells (by cases z<;>first|rfl|cases hp)
def EB{t:TypeId}{a:Addr}{v:Value}{l:Loc}(h:HR P base ρ m.H w)(b:KK P m t a=some v)(f:ρ a.block=some l) :
  ∃ v',(loadVar t ⟨l.blk,a.off+l.sh,none⟩).run P w=.ok v' w/\VR ρ v v':=by
 unfold KK at b;split at b
 .rename_i c;split at b
  .rename_i n i;split at b
   .rename_i cs hr
    have:=A5 b;subst this;obtain⟨r',h1,d,h3⟩:=Y9 h hr f;refine⟨.agg ⟨r'⟩,?_,.agg h1.1 h1.2⟩;simp[loadVar,A4,t6 c,J5 i,Result.andThen,J0 d h3]
   .cases b
  .cases b
 .rename_i c;split at b
  .rename_i u r hr
   have:=A5 b;subst this;obtain⟨r',h1,d,h3⟩:=Y9 h hr f;obtain⟨v',r2,rfl,g,_⟩:=h1.tail;refine⟨v',?_,g⟩
   have:=h3 0 v' rfl;simp[loadVar,A4,t6 c,Result.andThen,run_load,show w.cell? ⟨l.blk,a.off+l.sh,none⟩=some v' from by simpa using this]
  .cases b
 .cases b
def MU{t:TypeId}{a:Addr}{v v':Value}{l:Loc}(h:HR P base ρ m.H w)(b:sS P m t a v=some m')(j:ρ a.block=some l)(f:VR ρ v v') :
  UOk P base ρ m w (storeVar t ⟨l.blk,a.off+l.sh,none⟩ v') m':=by
 unfold sS at b;split at b
 .rename_i n i;obtain⟨h1,g⟩:=A2 b;obtain⟨h1,o⟩:=B6 h1;have h1:=A0 h1;have d:=f.cells (by simpa using o);obtain⟨w',hr,c⟩:=mH h g j d;refine⟨ρ,w',?_,c⟩;have e:v'.cells.size=n:=by
   have:=d.1;simp at this;omega
  simp[storeVar,A4,J5 i,Result.andThen,e,hr]
 .cases b
def eQ{t:TypeId}{v:Value}(h:nF P t cs off=some v)(d:LR ρ cs cs')(w:World):∃ v',(part t ⟨cs'⟩ off).run P w=.ok v' w/\VR ρ v v':=by
 unfold nF at h;split at h
 .rename_i b;split at h
  .rename_i n f;split at h
   .rename_i r hr
    have:=A5 h;subst this;obtain⟨h1,c⟩:=gA hr;have a:=(d.drop off).take n;rw[<- h1]at a;refine⟨.agg ⟨(cs'.drop off).take n⟩,?_,.agg a.1 a.2⟩;simp[part,A4,t6 b,J5 f,Result.andThen,List.extract]
   .cases h
  .cases h
 .rename_i b;obtain⟨v',h1,c⟩:=d.get h;refine⟨v',?_,c⟩;simp[part,A4,t6 b,Result.andThen,h1]
 .cases h
set_option maxHeartbeats 1000000 in
def wT{s:Nat}(h:G3 P e=some s):∃ i,P.info? e=some i/\i.size=s:=by
 unfold G3 at h;cases hi:P.info? e with
 | none=>rw[hi]at h;cases h
 | some i=>rw[hi]at h;exact⟨i,rfl,A5 h⟩
def cV{d:Nat}{e:TypeId}{s:Nat}{xs ys:R3}:∀ (l:List Nat),Op.eqItems d e s xs ys l=Op.eqFields d xs ys (l.map (ZO e s))
 | []=>rfl
 | i::l=>by
   rw[B9,Op.eqItems,Op.eqFields,cV l];have:(ZO e s i).name ≠ "_":=by show "x" ≠ "_";decide
   rw[B2 this];rfl
mutual
def AW:∀ (d:Nat) (t:TypeId) (x y x' y':Value) (b:Bool),eqM P d t x y=some b->VR ρ x x'->VR ρ y y'->∀ (n:Nat),d<=n->∀ w:World,(Op.equalIn n t x' y').run P w=.ok b w
 | 0,_,_,_,_,_,_,h,_,_,_,_,_=>by simp[eqM]at h
 | d+1,t,x,y,x',y',b,h,hx,hy,n,hn,w=>by
   obtain⟨n,rfl⟩:∃ k,n=k+1:=⟨n-1,A6⟩;have hn':d<=n:=A6;unfold eqM at h;split at h
   .rename_i hu;cases aR hx;cases aR hy;cases h;simp[Op.equalIn,A4,C8 hu,Result.andThen]
   .rename_i hu;cases I2 hx;cases I2 hy;obtain⟨h1,h2⟩:=A2 h;cases h2;have h1:=J4 h1;simp[Op.equalIn,A4,C8 hu,Result.andThen,h1]
   .rename_i hu;cases S3 hx;cases S3 hy;cases h;rw[<- ByteArray.toList_eq,<- ByteArray.toList_eq];exact run_equalIn_string (P:=P) w n t _ _ hu
   .rename_i hu;cases h;cases hx with|pure _=>?_
    cases hy with
    | pure _=>rename_i p _;cases p<;>simp[Op.equalIn,A4,C8 hu,Result.andThen]
    | ptr h=>simp[Op.equalIn,A4,C8 hu,Result.andThen]
   .rename_i hu;cases h;cases hy with|pure _=>?_
    obtain⟨l,_,_,rfl⟩:=L8 hx;simp[Op.equalIn,A4,C8 hu,Result.andThen]
   .rename_i hu;cases h;cases hx;cases hy;simp[Op.equalIn,A4,C8 hu,Result.andThen]
   .rename_i hu;cases h;cases hx;cases hy with
    | pure hp=>simp[H8]at hp
    | iface h=>simp[Op.equalIn,A4,C8 hu,Result.andThen]
   .rename_i hu;cases h;cases hy;cases hx with
    | pure hp=>simp[H8]at hp
    | iface h=>simp[Op.equalIn,A4,C8 hu,Result.andThen]
   .rename_i tx vx ty vy hu;cases hx with|pure hp=>simp[H8]at hp|iface hx=>?_
    cases hy with|pure hp=>simp[H8]at hp|iface hy=>?_
    cases ht:Nat.beq tx ty with
    | false =>
      rw[ht]at h;cases h;have:tx≠ty:=fun e=>by subst e;simp at ht
      simp[Op.equalIn,A4,C8 hu,Result.andThen,this]
    | true =>
      rw[ht]at h
      have:=A0 ht;subst this;simp only[D9]at h;split at h
      .rename_i i hi;obtain⟨h1,h2⟩:=A2 h;have ih:=AW d tx vx vy _ _ b h2 hx hy n hn' w;simp[Op.equalIn,A4,C8 hu,Result.andThen,T4 hi,h1,ih]
      .cases h
   .rename_i hu;cases h;cases hx with|pure _=>?_
    cases hy with
    | pure hp=>rename_i p _ _ _;cases p<;>simp[Op.equalIn,A4,C8 hu,Result.andThen]
    | sl h hm=>simp[Op.equalIn,A4,C8 hu,Result.andThen]
    | op h hm hn hc=>simp[Op.equalIn,A4,C8 hu,Result.andThen]
    | opE hs=>simp[Op.equalIn,A4,C8 hu,Result.andThen]
   .rename_i hu;cases h;cases hy with|pure _=>?_
    cases hx with
    | pure hp=>simp[H8]at hp
    | sl h hm=>simp[Op.equalIn,A4,C8 hu,Result.andThen]
    | op h hm hn hc=>simp[Op.equalIn,A4,C8 hu,Result.andThen]
    | opE hs=>simp[Op.equalIn,A4,C8 hu,Result.andThen]
   .rename_i hu;cases h;cases hx with|pure _=>?_
    cases hy with
    | pure _=>rename_i p _;cases p<;>simp[Op.equalIn,A4,C8 hu,Result.andThen]
    | map h=>simp[Op.equalIn,A4,C8 hu,Result.andThen]
   .rename_i hu;cases h;cases hx;cases hy;simp[Op.equalIn,A4,C8 hu,Result.andThen]
   .rename_i hu;cases h;cases hx;cases hy with
    | pure hp=>simp[H8]at hp
    | func _ _ _ _=>simp[Op.equalIn,A4,C8 hu,Result.andThen]
   .rename_i hu;cases h;cases hy;cases hx with
    | pure hp=>simp[H8]at hp
    | func _ _ _ _=>simp[Op.equalIn,A4,C8 hu,Result.andThen]
   .rename_i fs xs ys hu;cases hs:P.stoodInHeld t with
    | true=>rw[hs]at h;cases h
    | false =>
      rw[hs]at h;obtain⟨xs',rfl,hx1⟩:=T8 hx;obtain⟨ys',rfl,hy1⟩:=T8 hy;have hf:P.fieldsOf t=fs:=by simp[Program.fieldsOf,hu]
      rw[run_equalIn_struct (P:=P) w n t _ _ (by rw[hf];exact hu) hs,hf];exact IK d fs.toList xs.toList ys.toList xs' ys' b h hx1 hy1 n hn' w
   .rename_i k e xs ys hu;split at h
    .rename_i s hs;obtain⟨xs',rfl,hx1⟩:=T8 hx;obtain⟨ys',rfl,hy1⟩:=T8 hy;obtain⟨i,hi,rfl⟩:=wT hs;rw[run_equalIn_array (P:=P) (w:=w) n _ _ hu hi,show P.cellsOf e=i.size by simp[Program.cellsOf,hi],cV];exact IK d _ xs.toList ys.toList xs' ys' b h hx1 hy1 n hn' w
    .cases h
   .cases h
def IK:∀ (d:Nat) (fs:List Field) (xs ys xs' ys':List Value) (b:Bool),eqF P d fs xs ys=some b->LR ρ xs xs'->LR ρ ys ys'->∀ (n:Nat),d<=n->∀ w:World,(Op.eqFields n ⟨xs'⟩ ⟨ys'⟩ fs).run P w=.ok b w
 | 0,_,_,_,_,_,_,h,_,_,_,_,_=>by simp[eqF]at h
 | d+1,[],_,_,_,_,_,h,_,_,_,_,_=>by
   simp only[eqF,C7]at h;subst h;simp[Op.eqFields]
 | d+1,f::fs,xs,ys,xs',ys',b,h,hx,hy,n,hn,w=>by
   unfold eqF at h;cases hnm:f.name == "_" with
   | true=>rw[hnm]at h;cases h
   | false =>
     rw[hnm]at h;simp only[D4]at h;have hn':f.name ≠ "_":=by simpa using hnm
     split at h
     .rename_i x y h1 h2;obtain⟨x',g1,g2⟩:=eQ h1 hx w;obtain⟨y',g3,g4⟩:=eQ h2 hy w;split at h
      .rename_i he;have ih:=AW d f.type x y x' y' true he g2 g4 n A6 w;have ih2:=IK d fs xs ys xs' ys' b h hx hy n A6 w;unfold Op.eqFields;rw[B2 hn'];simp[A4,g1,g3,Result.andThen,ih,ih2]
      .rename_i he;cases h;have ih:=AW d f.type x y x' y' false he g2 g4 n A6 w;unfold Op.eqFields;rw[B2 hn'];simp[A4,g1,g3,Result.andThen,ih]
      .cases h
     .cases h
end
end
end
section
open Go
def mI(k:IntKind)(m:Nat)(h:m<=GJ k):k.wrap (.ofNat m)=.ofNat m:=by
 cases k<;>simp only[GJ]at h<;>simp only[IntKind.wrap,IntKind.bits,IntKind.signed,Nat.reduceSub]<;>simp<;>omega
def mJ(k:IntKind)(n:Int):wH k n=k.wrap n:=by
 unfold wH;cases n with
 | ofNat m =>
   simp only;cases h:Nat.ble m (GJ k)with
   | true=>rw[mI k m (A1 h)];rfl
   | false=>rfl
 | negSucc m=>rfl
def MH(a b:Int):A3s a b=a+b:=by cases a<;>cases b<;>rfl
def XT(a b:Int):A2s a b=a*b:=by cases a<;>cases b<;>rfl
def JD(a b:Int):A1D a b=a-b:=by
 cases a<;>cases b<;>try rfl
 rename_i m n;simp only[A1D];cases h:Nat.ble n m with
 | true =>
   have:=A1 h;simp only[D9];show Int.ofNat (m-n)=_;have e:(Int.ofNat (m-n))=(m:Int)-(n:Int):=by simp[Int.ofNat_sub this]
   exact e
 | false=>rfl
def AG(a b:Int):ltF a b=decide (a<b):=by
 cases a with
 | ofNat m=>cases b with
   | ofNat n =>
     simp only[ltF];rw[I0];simp[Nat.blt,mF];omega
   | negSucc n=>simp only[ltF];symm;simp;omega
 | negSucc m=>cases b with
   | ofNat n=>simp only[ltF];symm;simp;omega
   | negSucc n =>
     simp only[ltF];rw[I0];simp[Nat.blt,mF];omega
def HY(a b:Int):leF a b=decide (a<=b):=by
 cases a with
 | ofNat m=>cases b with
   | ofNat n=>simp only[leF];rw[I0];simp[mF]
   | negSucc n=>simp only[leF];symm;simp;omega
 | negSucc m=>cases b with
   | ofNat n=>simp only[leF];symm;simp;omega
   | negSucc n=>simp only[leF];rw[I0];simp[mF];omega
def bR(a b:Int):vZ a b=(a == b):=by
 cases a<;>cases b<;>simp only[vZ]<;>rw[I0]<;>simp
 omega
def eN{k j:IntKind}(h:qE k j=true):k=j:=by cases k<;>cases j<;>first|rfl|cases h
variable [Ora]
section
variable {P:Program} {base:Nat} {ρ:Ren} {m m':Mem} {w:World}
def v8{op:BinOp}{k:IntKind}{a b:Int}{v:Value}(h:MB op k a b=some v)(w:World):(Op.intBits op k a b).run P w=.ok v w/\H8 v=true:=by
 unfold MB at h;split at h<;>cases h<;>exact⟨rfl,rfl⟩
def YH{op:BinOp}{k:IntKind}{a b:Int}{t:TypeId}{v:Value}(d:nO op=none)(h:pH op k a b=some v)(w:World):(binOp op t (.int k a) (.int k b)).run P w=.ok v w/\H8 v=true:=by
 unfold pH at h;cases op<;>simp only[nO]at d<;>try cases d
 all_goals simp only[cO,mJ,MH,JD,XT,AG,HY,bR]at h
 case quo =>
  cases c:(b == 0)<;>rw[c]at h<;>cases h
  have:b≠0:=by simpa using c
  exact⟨by simp[binOp,Op.intDiv,this],rfl⟩
 case rem =>
  cases c:(b == 0)<;>rw[c]at h<;>cases h
  have:b≠0:=by simpa using c
  exact⟨by simp[binOp,Op.intDiv,this],rfl⟩
 case and=>exact⟨by simpa [binOp]using(v8 h w).1,(v8 (P:=P) h w).2⟩
 case or=>exact⟨by simpa [binOp]using(v8 h w).1,(v8 (P:=P) h w).2⟩
 case xor=>exact⟨by simpa [binOp]using(v8 h w).1,(v8 (P:=P) h w).2⟩
 case andNot=>exact⟨by simpa [binOp]using(v8 h w).1,(v8 (P:=P) h w).2⟩
 all_goals
  cases h;refine⟨?_,rfl⟩;simp only[binOp,Op.intCmp,Op.intArith,ne_eq,not_true,if_false];rfl
def SD:∀ a b:List UInt8,ltL a b=Op.bytesLess a b
 | [],[]=>rfl
 | _::_,[]=>rfl
 | [],_::_=>rfl
 | a::x,b::y=>by simp[ltL,Op.bytesLess,SD x y]
def BF(a b:ByteArray):a++b=⟨⟨a.data.toList++b.data.toList⟩⟩:=by
 have h:(a++b).data=⟨a.data.toList++b.data.toList⟩:=by
  rw[ByteArray.data_append];apply I1;simp
 cases c:a++b with
 | mk d=>rw[c]at h;simp only at h;rw[h]
def WX{op:BinOp}{a b:ByteArray}{t:TypeId}{v:Value}(h:WY op a b=some v)(w:World):(binOp op t (.string a) (.string b)).run P w=.ok v w/\H8 v=true:=by
 unfold WY at h;split at h
 .obtain⟨h1,c⟩:=A2 h;rw[H5]at c;cases c;refine⟨?_,rfl⟩;have h1:=A1 h1;have:¬ (((a.size+b.size:Nat):Int)>IntKind.i64.max):=by simp[IntKind.max,IntKind.bits,IntKind.signed];omega
  simp only[binOp,Op.stringOp,B0 this,BF];rfl
 all_goals first
  | (cases h;refine⟨?_,rfl⟩;simp only[binOp,Op.stringOp,ByteArray.toList_eq,SD];rfl)
  | cases h
def tA:Value->Bool
 | .int _ _|.bool _|.string _=>true
 | _=>false
def jW{u:U}{v:Value}(h:toV u=some v):tA v=true:=by cases u<;>cases h<;>rfl
def YE:Value->Bool
 | .complex _ _ _=>true
 | .func (.yield _) _ _=>true
 | _=>false
def TN{d:Nat}{t:TypeId}{a b:Value}{r:Bool}(h:eqM P d t a b=some r):YE a=false/\YE b=false:=by
 cases d with
 | zero=>simp[eqM]at h
 | succ d =>
   unfold eqM at h;split at h<;>first|exact⟨rfl,rfl⟩|cases h
def NX{op:BinOp}{t:TypeId}{x y:Operand}{a b a' b':Value}(d:iY P t x y a b=true)(p:VR ρ a a')(o:VR ρ b b')(w:World)(j:op=.eql∨op=.neq):(eqGuard op t x y a' b').run P w=.ok () w:=by
 unfold eqGuard;rw[B0 (by rcases j with rfl|rfl<;>simp)];clear j;unfold iY at d;split at d
 .cases p;cases o;simp only[G0]at d;rcases d with f|f
  .cases x<;>simp only[isC]at f<;>first|rfl|cases f
  .cases y<;>simp only[isC]at f<;>first|(cases x<;>rfl)|cases f
 .obtain⟨v,rfl,_⟩:=T8 p;obtain⟨u,rfl,_⟩:=T8 o;have f:P.eqGuardType P.depth t=false:=by simpa using d
  simp[A4,run_program,Result.andThen,f]
 .rename_i r s;obtain⟨n,l⟩:=B6 d;split
  .exfalso;cases p with
   | hole h _=>have:=jW h;simp[tA]at this
   | junk=>cases n
   | ixp _ _ _ _ g=>cases g
   | dat _ he i c _=>obtain⟨_,_,_,q⟩:=he.slice A6;cases q
   | clp _ he i c _ _=>obtain⟨_,_,_,q⟩:=he.slice A6;cases q
   | own h _ _=>rcases h with⟨_,_,_,_,_,q⟩|⟨_,_,_,_,_,_,_,_,q⟩<;>cases q
   | dpt h _ _=>obtain⟨_,_,_,_,_,_,_,_,_,_,_,_,_,q⟩:=h;cases q
   | opt h _ _=>obtain⟨_,_,_,_,_,_,_,_,_,_,q⟩:=h;cases q
   | sdt h=>obtain⟨_,_,⟨_,q⟩|⟨_,_,q,_⟩⟩:=h<;>cases q
   | pure _ =>
     cases o with
     | hole h _=>have:=jW h;simp[tA]at this
     | junk=>cases l
     | ixp _ _ _ _ g=>cases g
     | dat _ he i c _=>obtain⟨_,_,_,q⟩:=he.slice A6;cases q
     | clp _ he i c _ _=>obtain⟨_,_,_,q⟩:=he.slice A6;cases q
     | own h _ _=>rcases h with⟨_,_,_,_,_,q⟩|⟨_,_,_,_,_,_,_,_,q⟩<;>cases q
     | dpt h _ _=>obtain⟨_,_,_,_,_,_,_,_,_,_,_,_,_,q⟩:=h;cases q
     | opt h _ _=>obtain⟨_,_,_,_,_,_,_,_,_,_,q⟩:=h;cases q
     | sdt h=>obtain⟨_,_,⟨_,q⟩|⟨_,_,q,_⟩⟩:=h<;>cases q
     | pure _=>exact r rfl rfl
  .exfalso;cases p with
   | hole h _=>have:=jW h;simp[tA]at this
   | junk=>cases n
   | ixp _ _ _ _ g=>cases g
   | dat _ he i c _=>obtain⟨_,_,_,q⟩:=he.slice A6;cases q
   | clp _ he i c _ _=>obtain⟨_,_,_,q⟩:=he.slice A6;cases q
   | own h _ _=>rcases h with⟨_,_,_,_,_,q⟩|⟨_,_,_,_,_,_,_,_,q⟩<;>cases q
   | dpt h _ _=>obtain⟨_,_,_,_,_,_,_,_,_,_,_,_,_,q⟩:=h;cases q
   | opt h _ _=>obtain⟨_,_,_,_,_,_,_,_,_,_,q⟩:=h;cases q
   | sdt h=>obtain⟨_,_,⟨_,q⟩|⟨_,_,q,_⟩⟩:=h<;>cases q
   | pure h=>simp[H8]at h
   | agg _ _ =>
     cases o with
     | hole h _=>have:=jW h;simp[tA]at this
     | junk=>cases l
     | ixp _ _ _ _ g=>cases g
     | dat _ he i c _=>obtain⟨_,_,_,q⟩:=he.slice A6;cases q
     | clp _ he i c _ _=>obtain⟨_,_,_,q⟩:=he.slice A6;cases q
     | own h _ _=>rcases h with⟨_,_,_,_,_,q⟩|⟨_,_,_,_,_,_,_,_,q⟩<;>cases q
     | dpt h _ _=>obtain⟨_,_,_,_,_,_,_,_,_,_,_,_,_,q⟩:=h;cases q
     | opt h _ _=>obtain⟨_,_,_,_,_,_,_,_,_,_,q⟩:=h;cases q
     | sdt h=>obtain⟨_,_,⟨_,q⟩|⟨_,_,q,_⟩⟩:=h<;>cases q
     | pure h=>simp[H8]at h
     | agg _ _=>exact s _ _ rfl rfl
  .rfl
def nU{op:BinOp}{t:TypeId}{x y:Operand}{a b a' b':Value}(f:uA op=true->iY P t x y a b=true)(g:VR ρ a a')(d:VR ρ b b')(w:World):(eqGuard op t x y a' b').run P w=.ok () w:=by
 cases c:uA op with
 | false =>
   unfold eqGuard;cases op<;>simp only[uA]at c<;>first|rfl|cases c
 | true=>exact NX (f c) g d w (by cases op<;>simp only[uA]at c<;>first|(exact .inl rfl)|(exact .inr rfl)|cases c)
def YV{t:TypeId}{a b a' b':Value}(n:VR ρ a a')(l:VR ρ b b')(g:∀ (k j:IntKind) (x y:Int),a=.int k x->b=.int j y->False)(i:∀ x y:ByteArray,a=.string x->b=.string y->False)(d:YE a=false)(c:YE b=false)(e:Bool) :
  binOp (bif e then .eql else .neq) t a' b'=(do let r <- Op.equal t a' b';pure (.bool (bif e then r else !r))):=by
 cases n with
 | hole _ _=>cases d
 | junk=>cases d
 | ixp _ _ _ _ _=>cases d
 | dat _ _ _ _ _=>cases d
 | clp _ _ _ _ _ _=>cases d
 | own _ _ _=>cases d
 | dpt _ _ _=>cases d
 | opt _ _ _=>cases d
 | sdt _=>cases d
 | pure hp =>
   cases a<;>simp only[H8]at hp<;>try cases hp
   all_goals
    cases l with
    | hole _ _=>cases c
    | junk=>cases c
    | ixp _ _ _ _ _=>cases c
    | dat _ _ _ _ _=>cases c
    | clp _ _ _ _ _ _=>cases c
    | own _ _ _=>cases c
    | dpt _ _ _=>cases c
    | opt _ _ _=>cases c
    | sdt _=>cases c
    | pure f=>cases b<;>simp only[H8]at f<;>first|(cases e<;>rfl)|(exfalso;exact g _ _ _ _ rfl rfl)|(exfalso;exact i _ _ rfl rfl)|cases f
    | _=>cases e<;>rfl
 | _ =>
   cases l with
   | hole _ _=>cases c
   | junk=>cases c
   | ixp _ _ _ _ _=>cases c
   | dat _ _ _ _ _=>cases c
   | clp _ _ _ _ _ _=>cases c
   | own _ _ _=>cases c
   | dpt _ _ _=>cases c
   | opt _ _ _=>cases c
   | sdt _=>cases c
   | pure f=>cases b<;>simp only[H8]at f<;>first|(cases e<;>rfl)|cases f
   | _=>cases e<;>rfl
def sE{op:BinOp}{t:TypeId}{a b a' b' v:Value}(h:oI P op t a b=some v)(f:VR ρ a a')(d:VR ρ b b')(w:World):(binOp op t a' b').run P w=.ok v w/\H8 v=true:=by
 unfold oI at h;split at h
 .cases I2 f;cases I2 d;unfold eV at h;split at h
  .rename_i l c;split at h
   .rename_i n;cases h;unfold PU;cases op<;>simp only[nO]at c<;>cases c
    .refine⟨?_,by simp[cO,H8]⟩;simp[binOp,Op.shift,cO];intro h;omega
    .refine⟨?_,by simp[cO,H8]⟩;simp[binOp,Op.shift,cO];intro h;omega
   .cases h
  .rename_i c;obtain⟨h1,p⟩:=A2 h;cases eN h1;exact YH c p w
 .cases S3 f;cases S3 d;exact WX h w
 .rename_i g i;unfold xB at h;have he:∀ r,eqM P 20 t a b=some r->(Op.equal t a' b').run P w=.ok r w:=fun r hr=>AW 20 t a b a' b' r hr f d _ K3 w
  have o:=fun(r:Bool) (hr:eqM P 20 t a b=some r) e=>YV (t:=t) f d (fun k j x y=>g k x j y) (fun x y=>i x y) (TN hr).1 (TN hr).2 e
  split at h
  .split at h
   .rename_i r hr;cases h;refine⟨?_,rfl⟩;have h3:=o r hr true;simp only[D9]at h3;rw[h3];simp[A4,he r hr,Result.andThen]
   .cases h
  .split at h
   .rename_i r hr;cases h;refine⟨?_,rfl⟩;have h3:=o r hr false;simp only[D4]at h3;rw[h3];simp[A4,he r hr,Result.andThen]
   .cases h
  .cases h
end
end
section
open Go
variable [Ora]
section
variable {P:Program} {base:Nat} {ρ:Ren} {m m':Mem} {w:World}
def bP(a:Addr)(n:Nat):y5 a n=⟨a.block,a.off+n,none⟩:=by simp[y5,E6]
def W5(b o i:Nat):(Addr.mk b o none).add i=⟨b,o+i,none⟩:=J0.add_none'
def jA{s:TypeId}{x v:Value}{i:Nat}(h:aU P s x i=some v)(g:VR ρ x x')(w:World):∃ v',(Instr.fieldAt s x' i).run P w=.ok v' w/\VR ρ v v':=by
 unfold aU at h;split at h
 .rename_i o a hu;obtain⟨l,j,q,rfl⟩:=L8 g;split at h
  .rename_i f p d;split at h
   .rename_i n c;cases h;rw[bP];refine⟨_,?_,.ptr j⟩;have b:o[i]? = some f:=by simpa using p
    have:=J5 c w;simp[Instr.fieldAt,A4,C8 hu,Result.andThen,b,Instr.sureAddr,fieldPlace,this,W5]
   .cases h
  .cases h
 .cases h
def NY{t:TypeId}{x v:Value}{i:Nat}(h:AT P t x i=some v)(d:VR ρ x x')(w:World):∃ v',(Instr.field t x' i).run P w=.ok v' w/\VR ρ v v':=by
 unfold AT at h;split at h
 .rename_i g cs hu;obtain⟨cs',rfl,c⟩:=T8 d;split at h
  .rename_i f j;obtain⟨v',h1,b⟩:=eQ h c w;have a:g[i]? = some f:=by simpa using j
   refine⟨v',?_,b⟩;simp[Instr.field,A4,C8 hu,Result.andThen,a,asAgg,h1]
  .cases h
 .cases h
def aT{t:TypeId}{x i v:Value}(h:V9 P t x i=some v)(p:VR ρ x x')(hi:VR ρ i i')(w:World):∃ v',(Instr.indexAt t x' i').run P w=.ok v' w/\VR ρ v v':=by
 unfold V9 at h;split at h
 .rename_i n e a r k hu;cases I2 hi;obtain⟨l,d,q,rfl⟩:=L8 p;split at h
  .rename_i s f j;obtain⟨h1,g⟩:=A2 h;cases g;have h1:k<n:=A1 h1;rw[bP];refine⟨.pointer (some ⟨l.blk,a.off+k*s+l.sh,none⟩),?_,.ptr d⟩;simp[Instr.indexAt,A4,C8 hu,Result.andThen,asIntOf,J5 f,h1,W5,Instr.sureAddr]
  .cases h
 .rename_i e a n c r k hu;cases I2 hi;split at h
  .rename_i s f j;obtain⟨h1,g⟩:=A2 h;cases g;have h1:k<n:=A1 h1;rw[bP];cases p with
   | pure hp=>simp[H8]at hp
   | sl d hm =>
     rename_i b o l;refine⟨.pointer (some ⟨l.blk,o+k*s+l.sh,none⟩),?_,.ptr d⟩;simp[Instr.indexAt,A4,C8 hu,Result.andThen,asIntOf,J5 f,h1,W5]
   | op d hm u z =>
     rename_i b o l _;refine⟨.pointer (some ⟨l.blk,o+k*s+l.sh,none⟩),?_,.ptr d⟩;simp[Instr.indexAt,A4,C8 hu,Result.andThen,asIntOf,J5 f,h1,W5]
   | opE q=>omega
  .cases h
 .cases h
def pJ{t:TypeId}{x i v:Value}(h:iW P t x i=some v)(c:VR ρ x x')(hi:VR ρ i i')(w:World):∃ v',(Instr.index t x' i').run P w=.ok v' w/\VR ρ v v':=by
 unfold iW at h;split at h
 .rename_i n e cs p k hu;cases I2 hi;obtain⟨cs',rfl,o⟩:=T8 c;split at h
  .rename_i s l;obtain⟨h1,g⟩:=A2 h;have h1:k<n:=A1 h1;obtain⟨v',h3,j⟩:=eQ g o w;refine⟨v',?_,j⟩;simp[Instr.index,A4,C8 hu,Result.andThen,asIntOf,J5 l,h1,h3]
  .cases h
 .rename_i s p k hu;cases I2 hi;cases S3 c;split at h
  .rename_i b d;cases h;refine⟨_,?_,.pure rfl⟩;have a:k<s.size:=by
    have:=(A9.1 d).1
    simpa using this
   have f:s[k]? = some b:=by
    rw[getElem?_pos s k a]
    have:=(A9.1 d).2;rw[<- this];rfl
   simp[Instr.index,A4,C8 hu,Result.andThen,asIntOf,f]
  .cases h
 .cases h
def DR{x v:Value}{i:Nat}(h:iN m x i=some (v,m'))(c:VR ρ x x')(w:World):m'=m/\∃ v',(Instr.extract x' i).run P w=.ok v' w/\VR ρ v v':=by
 unfold iN at h;split at h
 .rename_i vs;obtain⟨cs',rfl,b⟩:=pG c;unfold noM at h;split at h
  .rename_i u hu;cases h;obtain⟨v',h1,a⟩:=b.get hu;exact⟨rfl,v',by simp[Instr.extract,h1],a⟩
  .cases h
 .cases h
def xY:∀ (vs:List Value) (off k:Nat) (C:Array Value),((vs.zipIdx k).foldl (fun(cs:Array Value) (x:Value×Nat)=>cs.setIfInBounds (off+x.2) x.1) C)=⟨aO C.toList (off+k) vs⟩
 | [],off,k,C=>rfl
 | v::r,off,k,C=>by
   simp only[List.zipIdx_cons,gY];rw[xY r off (k+1)];simp[aO,i5]
def PR(ρ:Ren):List (Nat×Value)->List (Nat×Value)->Prop
 | [],[]=>True
 | (i,v)::r,(j,v')::r'=>i=j/\VR ρ v v'/\PR ρ r r'
 | _,_=>False
def oA{place:Nat->Option (Nat×Nat)}:∀ {parts parts':List (Nat×Value)} {cs cs' r:D0},uH place cs parts=some r->PR ρ parts parts'->LR ρ cs cs'->∃ r',Instr.fill place ⟨cs'⟩ parts'=some ⟨r'⟩/\LR ρ r r'
 | [],[],cs,cs',r,h,_,hc=>by
   simp only[uH,C7]at h;subst h;exact⟨cs',rfl,hc⟩
 | [],_::_,_,_,_,_,hp,_=>hp.elim
 | _::_,[],_,_,_,_,hp,_=>hp.elim
 | (i,v)::rest,(j,v')::rest',cs,cs',r,h,⟨hij,hv,hp⟩,hc=>by
   subst hij;unfold uH at h;split at h
   .cases h
   .rename_i off size b;obtain⟨h1,f⟩:=A2 h;obtain⟨h3,g⟩:=B6 h1;obtain⟨h3,o⟩:=B6 h3;have h3:=A0 h3;have g:=A1 g;rw[H5]at f;have a:=hv.cells (by simpa using o);have d:v'.cells.size=v.cells.size:=by have:=a.1;simp at this;omega
    obtain⟨r',l,n⟩:=oA f hp (JR hc a);refine⟨r',?_,n⟩;unfold Instr.fill;simp only[b];rw[B0]
    .have:=xY v'.cells.toList off 0 ⟨cs'⟩;have e:(v'.cells.zipIdx.foldl (fun(cs:Array Value) (x:Value×Nat)=>cs.setIfInBounds (off+x.2) x.1) ⟨cs'⟩)=⟨aO cs' off v'.cells.toList⟩:=by
      rw[<- Array.foldl_toList,Array.toList_zipIdx,this];rfl
     have p:(Array.foldl (fun cs x=>match x with|(c,j)=>cs.setIfInBounds (off+j) c) ({ toList:=cs' }:Array Value) v'.cells.zipIdx)=⟨aO cs' off v'.cells.toList⟩:=e;rw[p];exact l
    .have:=hc.1;simp[d];constructor
     .exact h3
     .omega
def tC:∀ (a:List Field) (ps:List (Nat×Nat)),nE P a=some ps->∀ w:World,(a.mapM (fun f=>do pure (f.offset,<- sizeOf f.type):Field->Sem (Nat×Nat))).run P w=.ok ps w
 | [],ps,h,w=>by simp only[nE,C7]at h;subst h;rfl
 | f::r,ps,h,w=>by
   unfold nE at h;split at h
   .rename_i n l d b;cases h;have c:=tC r l b w;simp only[List.mapM_cons,A4,J5 d,Result.andThen,Sem.run_pure];rw[c]
   .cases h
def OH{t:TypeId}{v:Value}(h:IN P t parts=some v)(hp:PR ρ parts parts')(w:World):∃ v',(Instr.build t ⟨parts'⟩).run P w=.ok v' w/\VR ρ v v':=by
 unfold IN at h;split at h
 .rename_i z j d hu;split at h
  .rename_i ps g;split at h
   .rename_i cs b;cases h;obtain⟨r',h1,c⟩:=oA b hp (mG d);refine⟨.agg ⟨r'⟩,?_,.agg c.1 c.2⟩;have hm:(j.mapM (fun f=>do pure (f.offset,<- sizeOf f.type):Field->Sem (Nat×Nat))).run P w=.ok ps.toArray w:=by
     rw[dJ];show(Sem.bind (j.toList.mapM (fun f=>do pure (f.offset,<- sizeOf f.type):Field->Sem (Nat×Nat))) fun l=>Sem.pure l.toArray).run P w=_
     have:=tC _ _ g w;have p:∀ (x:Sem (List (Nat×Nat))) (k:List (Nat×Nat)->Sem (Array (Nat×Nat))),(Sem.bind x k).run P w=(x >>= k).run P w:=fun _ _=>rfl
     rw[p,A4,this];rfl
    have a:Instr.fill (fun i=>ps[i]?) z.cells parts'=some ⟨r'⟩:=h1;unfold Instr.build;simp only[A4,s9 d,C8 hu,Result.andThen,hm,I6];simp only[a];rfl
   .cases h
  .cases h
 .rename_i z n e d hu;split at h
  .rename_i s o;split at h
   .rename_i cs b;cases h;obtain⟨r',h1,c⟩:=oA b hp (mG d);refine⟨.agg ⟨r'⟩,?_,.agg c.1 c.2⟩;have a:Instr.fill (fun i=>some (i*s,s)) z.cells parts'=some ⟨r'⟩:=h1;simp[Instr.build,A4,s9 d,C8 hu,Result.andThen,J5 o,a]
   .cases h
  .cases h
 .cases h
end
end
section
open Go
variable [Ora]
def OR(ρ:Ren):O8->O8->Prop
 | none,none=>True
 | some v,some v'=>VR ρ v v'
 | _,_=>False
def Bd(o:Option Value)(top dflt k:Nat):Prop:=(o=none/\k=dflt)∨∃ j,o=some (.int j (.ofNat k))/\k<=top
section
variable {P:Program} {base:Nat} {ρ:Ren} {m m':Mem} {w:World}
def M1{o:O8}{k:Nat}(h:R5 o top dflt=some k)(a:OR ρ o o'):Bd o' top dflt k:=by
 unfold R5 at h;split at h
 .cases h;cases o' with
  | none=>exact .inl ⟨rfl,rfl⟩
  | some _=>exact a.elim
 .obtain⟨h1,b⟩:=A2 h;cases b;cases o' with
  | none=>exact a.elim
  | some v' =>
    have a:VR ρ _ v':=a;cases I2 a;exact .inr ⟨_,rfl,A1 h1⟩
 .cases h
def NG{v:Value}{j:IntKind}{k:Nat}{c:BoundsCode}(a:v=.int j (.ofNat k))(h:k<=y)(w:World):(Instr.sliceBound v y c).run P w=.ok k w:=by
 subst a;simp[Instr.sliceBound,A4,asIntOf,Result.andThen,h]
def fJ{b:Bool}{len cap l h:Nat}{hi:O8}(h1:Bd mx cap cap mm)(h0:hi=none->mx=none)(a:Bd hi mm len h)(h3:Bd lo h 0 l)(w:World) :
  (Instr.sliceBounds b len cap lo hi mx).run P w=.ok (l,h,mm) w:=by
 unfold Instr.sliceBounds;rcases h1 with⟨rfl,rfl⟩|⟨j,rfl,h1⟩<;>rcases a with⟨rfl,rfl⟩|⟨c,rfl,a⟩<;>rcases h3 with⟨rfl,rfl⟩|⟨d,rfl,h3⟩
 all_goals first
  | (exfalso;have:=h0 rfl;cases this;done)
  | (simp only[A4,Sem.run_pure,Result.andThen];repeat (first|rw[NG rfl ‹_›]|simp only[Result.andThen,A4,Sem.run_pure]));done
def VR.slice{a a':Addr}{n c b:Nat}(h:VR ρ (.slice (some a) n c) (.slice (some a') n b)):True:=trivial
def M9{a:Addr}{n c:Nat}(h:VR ρ (.slice (some a) n c) x') :
  (∃ l,ρ a.block=some l/\a.spot=none/\c<L7/\x'=.slice (some ⟨l.blk,a.off+l.sh,none⟩) n c) ∨
  (∃ l b,ρ a.block=some l/\a.spot=none/\L7<=c/\n<=b/\(c=L7->a.off=0->b=l.cap)/\x'=.slice (some ⟨l.blk,a.off+l.sh,none⟩) n b) ∨
  (∃ a' b,a'.spot=none/\n=0/\c=L7+2/\x'=.slice (some a') 0 b):=by
 cases h with
 | pure hp=>simp[H8]at hp
 | sl d hm=>exact .inl ⟨_,d,rfl,hm,rfl⟩
 | op d hm g i=>exact .inr (.inl ⟨_,_,d,rfl,hm,g,i,rfl⟩)
 | opE f=>exact .inr (.inr ⟨_,_,f,rfl,rfl,rfl⟩)
def N9{n c:Nat}(h:VR ρ (.slice none n c) x'):x'=.slice none n c:=by cases h;rfl
def OR.none_iff{o:O8}(h:OR ρ o o'):o=none↔o'=none:=by
 cases o<;>cases o'<;>simp_all [OR]
def qF{t:TypeId}{s n c l h:Nat}{a:Option Addr}{hi:O8}(hu:P.underlying t=some (.slice e))(f:G3 P e=some s)(h1:Bd mx c c mm)(h0:hi=none->mx=none)(d:Bd hi mm n h)(h3:Bd lo h 0 l)(w:World) :
  (Instr.sliceAt t (.slice a n c) lo hi mx).run P w=.ok (.slice (if mm=l then a else a.map (·.add (l*s))) (h-l) (mm-l)) w:=by
 have:=fJ (P:=P) (b:=true) h1 h0 d h3 w;simp[Instr.sliceAt,Instr.slice,A4,C8 hu,Result.andThen,this,J5 f]
def eE(s:ByteArray)(l h:Nat):s.extract l h=⟨⟨(s.data.toList.drop l).take (h-l)⟩⟩:=by
 have h1:(s.extract l h).data=⟨(s.data.toList.drop l).take (h-l)⟩:=by
  rw[ByteArray.data_extract];apply I1;simp[List.extract]
 cases a:s.extract l h with
 | mk d=>rw[a]at h1;simp only at h1;rw[h1]
def eM{t:TypeId}{x v:Value}{hi lo' hi' mx':O8}(h:bD P t x lo hi mx=some v)(M:VR ρ x x')(q:OR ρ lo lo')(f:OR ρ hi hi')(g:OR ρ mx mx')(w:World) :
  ∃ v',(Instr.sliceAt t x' lo' hi' mx').run P w=.ok v' w/\VR ρ v v':=by
 unfold bD at h;split at h
 ·
  rename_i s hu;cases S3 M;split at h
  .rename_i hh r;split at h
   .rename_i l h3;cases h;refine⟨_,?_,.pure rfl⟩;have hm:mx'=none:=g.none_iff.1 rfl;subst hm
    have:=fJ (P:=P) (b:=false) (len:=s.size) (cap:=s.size) (mx:=none) (.inl ⟨rfl,rfl⟩) (fun _=>rfl) (M1 r f) (M1 h3 q) w;simp[Instr.sliceAt,Instr.slice,A4,C8 hu,Result.andThen,this,eE]
   .cases h
  .cases h
 ·
  rename_i e n c hu;cases N9 M;split at h
  .rename_i h1 r h3;obtain⟨Z,h5⟩:=(by
    cases D:(mx.isSome && hi.isNone) || (G3 P e).isNone with
    | true=>rw[D]at h;cases h
    | false=>rw[D]at h;exact⟨rfl,h⟩:((mx.isSome && hi.isNone) || (G3 P e).isNone)=false/\some (Value.slice none 0 0)=some v)
   cases h5;simp only[Y6]at Z;obtain⟨Z,h6⟩:=Z;refine⟨.slice none 0 0,?_,.pure rfl⟩;have X:=M1 h1 g;have U:=M1 r f;have Q:=M1 h3 q;have z:∀ {o:O8} {k:Nat},Bd o 0 0 k->k=0:=fun u=>by rcases u with⟨_,rfl⟩|⟨_,_,u⟩<;>omega
   have z1:=z X;have z2:=z U;have z3:=z Q;subst z1;subst z2;subst z3;have h0:hi'=none->mx'=none:=fun E=>by
    have C:=(f.none_iff).2 E;subst C;cases mx with
    | none=>exact g.none_iff.1 rfl
    | some _=>simp at Z
   obtain⟨s,O⟩:∃ s,G3 P e=some s:=by cases D:G3 P e with|none=>rw[D]at h6;cases h6|some s=>exact⟨s,rfl⟩
   have:=fJ (P:=P) (b:=true) X h0 U Q w;simp[Instr.sliceAt,Instr.slice,A4,C8 hu,Result.andThen,this,J5 O]
  .cases h
 ·
  rename_i e a n c hu;split at h
  .rename_i s O i;have p:∀ (d l hh mm:Nat) (a':Addr),Bd mx' d d mm->(hi'=none->mx'=none)->Bd hi' mm n hh->Bd lo' hh 0 l->(Instr.sliceAt t (.slice (some a') n d) lo' hi' mx').run P w=.ok (.slice (if mm=l then some a' else(some a').map (·.add (l*s))) (hh-l) (mm-l)) w :=
    fun d l hh mm a' h1 h0 r h3=>qF hu O h1 h0 r h3 w
   have F:∀ (l mm:Nat) (lc:Loc),ρ a.block=some lc->(if mm=l then some (Addr.mk lc.blk (a.off+lc.sh) none)else(some (Addr.mk lc.blk (a.off+lc.sh) none)).map (·.add (l*s)))=some ⟨lc.blk,(bif Nat.beq mm l then a else y5 a (l*s)).off+lc.sh,none⟩/\(bif Nat.beq mm l then a else y5 a (l*s)).block=a.block/\((bif Nat.beq mm l then a else y5 a (l*s)).spot=none):=fun l mm lc au=>by
    by_cases C:mm=l
    .subst C;simp[i]
    .have:Nat.beq mm l=false:=by cases u:Nat.beq mm l with|false=>rfl|true=>exact absurd (A0 u) C
     simp[this,C,bP,W5]
   cases N:Nat.blt c L7 with
   | true =>
     have Y:c<L7:=A1 N;rw[N]at h;simp only[D9]at h;rcases M9 M with⟨lc,G,_,_,rfl⟩|⟨lc,d,_,_,ho,_⟩|⟨a',d,_,_,rfl,_⟩
     .split at h
      .rename_i mm h1;split at h
       .rename_i hh r;split at h
        .rename_i l h3;cases h;have I:=M1 h1 g;have h0:hi'=none->mx'=none:=fun E=>by
          have C:=(f.none_iff).2 E;subst C;cases mx with
          | none=>exact g.none_iff.1 rfl
          | some _=>cases r
         have J:Bd hi' mm n hh:=by
          cases hi with
          | none=>cases mx with
            | none=>exact M1 r f
            | some _=>cases r
          | some _=>cases mx<;>exact M1 r f
         refine⟨_,p c l hh mm _ I h0 J (M1 h3 q),?_⟩;obtain⟨g1,g2,g3⟩:=F l mm lc G;rw[g1];have an:mm<=c:=by rcases I with⟨_,rfl⟩|⟨_,_,u⟩<;>omega
         generalize hA:(bif Nat.beq mm l then a else y5 a (l*s))=A at g2 g3 ⊢;obtain⟨ab,ao,L⟩:=A;simp only at g2 g3;subst g3;exact .sl (by rw[g2];exact G) A6
        .cases h
       .cases h
      .cases h
     .omega
     .omega
   | false =>
     have Y:L7<=c:=by
      rcases F5 c L7 with B|ax
      .rw[show Nat.blt c L7=true from C6 B]at N;cases N
      .exact ax
     rw[N]at h;simp only[D4]at h;split at h
     .rename_i mv;split at h
      .rename_i hv mm h1;obtain⟨g0,h⟩:=A2 h;obtain⟨R,S⟩:=B6 g0;have R:mm<L7:=A1 R;have S:=A1 S;split at h
       .rename_i hh r;split at h
        .rename_i l h3;cases h;rcases M9 M with⟨_,_,_,B,_⟩|⟨lc,d,G,_,_,E,_,rfl⟩|⟨a',d,_,_,he,_⟩
         .omega
         .have I:=M1 h1 g;have W:Bd mx' d d mm:=by
           rcases I with⟨aw,_⟩|⟨j,hj,u⟩
           .have:=(g.none_iff).2 aw;cases this
           .exact .inr ⟨j,hj,A6⟩
          refine⟨_,p d l hh mm _ W (fun E=>by have:=(f.none_iff).2 E;cases this) (M1 r f) (M1 h3 q),?_⟩;obtain⟨g1,g2,g3⟩:=F l mm lc G;rw[g1];generalize hA:(bif Nat.beq mm l then a else y5 a (l*s))=A at g2 g3 ⊢;obtain⟨ab,ao,L⟩:=A;simp only at g2 g3;subst g3;exact .sl (by rw[g2];exact G) A6
         .omega
        .cases h
       .cases h
      .cases h
     .have hm:mx'=none:=g.none_iff.1 rfl;subst hm;split at h
      .rename_i hh h1;have J:=M1 h1 f;have aq:hh<=n:=by rcases J with⟨_,rfl⟩|⟨_,_,u⟩<;>omega
       have up:∀ d,n<=d->Bd hi' d n hh:=fun d N=>by
        rcases J with u|⟨j,hj,u⟩
        .exact .inl u
        .exact .inr ⟨j,hj,A6⟩
       split at h
       .rename_i h3;cases h;have H:=M1 h3 q;rcases M9 M with⟨_,_,_,B,_⟩|⟨lc,d,G,_,_,E,K,rfl⟩|⟨a',d,V,rfl,rfl,rfl⟩
        .omega
        .refine⟨_,p d 0 hh d _ (.inl ⟨rfl,rfl⟩) (fun _=>rfl) (up d E) H,?_⟩;have:(if d=0 then some (Addr.mk lc.blk (a.off+lc.sh) none)else(some (Addr.mk lc.blk (a.off+lc.sh) none)).map (·.add (0*s)))=some (Addr.mk lc.blk (a.off+lc.sh) none):=by
          simp[W5]
         rw[this];obtain⟨ab,ao,L⟩:=a;simp only at i;subst i;exact .op G Y A6 K
        .have az:hh=0:=A6;subst az;refine⟨_,p d 0 0 d _ (.inl ⟨rfl,rfl⟩) (fun _=>rfl) (up d (jQ _)) H,?_⟩;have:(if d=0 then some a' else(some a').map (·.add (0*s)))=some a':=by simp[Addr.add]
         rw[this];exact .opE V
       .rename_i l h3;have H:=M1 h3 q;have ar:l+1<=hh:=by rcases H with⟨_,u⟩|⟨_,_,u⟩<;>omega
        rcases M9 M with⟨_,_,_,B,_⟩|⟨lc,d,G,_,_,E,K,rfl⟩|⟨a',d,V,rfl,rfl,rfl⟩
        .omega
        .have hf:=p d (l+1) hh d ⟨lc.blk,a.off+lc.sh,none⟩ (.inl ⟨rfl,rfl⟩) (fun _=>rfl) (up d E) H;cases D:Nat.blt (l+1) n with
         | true =>
           have av:l+1<n:=A1 D;simp only[D,D9]at h;cases h;refine⟨_,hf,?_⟩;rw[B0 A6,bP];simp only[I9,W5];rw[show a.off+lc.sh+(l+1)*s=a.off+(l+1)*s+lc.sh by omega];exact .op G (by unfold L7;omega) A6 (fun e=>by unfold L7 at e;omega)
         | false =>
           have av:¬ l+1<n:=fun B=>by rw[show Nat.blt (l+1) n=true from C6 B]at D;cases D
           simp only[D,D4]at h;cases h;refine⟨_,hf,?_⟩;have C:hh-(l+1)=0:=A6;rw[C];by_cases e2:d=l+1
           .rw[B2 e2];exact .opE rfl
           .rw[B0 e2];simp only[I9,W5];exact .opE rfl
        .omega
       .cases h
      .cases h
  .cases h
 ·
  rename_i n e a hu;obtain⟨lc,G,ay,rfl⟩:=L8 M;split at h
  .rename_i s O i;split at h
   .rename_i hh r;split at h
    .rename_i l h3;obtain⟨T,h⟩:=A2 h;have T:n<L7:=A1 T;cases h;have hm:mx'=none:=g.none_iff.1 rfl;subst hm;have hr:=fJ (P:=P) (b:=false) (len:=n) (cap:=n) (mx:=none) (.inl ⟨rfl,rfl⟩) (fun _=>rfl) (M1 r f) (M1 h3 q) w;refine⟨.slice (some ⟨lc.blk,(bif Nat.beq n l then a else y5 a (l*s)).off+lc.sh,none⟩) (hh-l) (n-l),?_,?_⟩
     .by_cases C:n=l
      .subst C;simp[Instr.sliceAt,A4,C8 hu,Result.andThen,hr,J5 O,Instr.sureAddr]
      .have D:Nat.beq n l=false:=by cases u:Nat.beq n l with|false=>rfl|true=>exact absurd (A0 u) C
       simp[Instr.sliceAt,A4,C8 hu,Result.andThen,hr,J5 O,Instr.sureAddr,C,D,bP,W5]
     .have E:n-l<L7:=A6;have g2:(bif Nat.beq n l then a else y5 a (l*s)).block=a.block:=by cases Nat.beq n l<;>simp[bP]
      have g3:(bif Nat.beq n l then a else y5 a (l*s)).spot=none:=by cases Nat.beq n l<;>simp[bP,ay]
      generalize hA:(bif Nat.beq n l then a else y5 a (l*s))=A at g2 g3 ⊢;obtain⟨ab,ao,L⟩:=A;simp only at g2 g3;subst g3;exact .sl (by rw[g2];exact G) E
    .cases h
   .cases h
  .cases h
 .cases h
end
end
section
open Go
variable [Ora]
section
variable {P:Program} {base:Nat} {ρ:Ren} {m m':Mem} {w:World}
def bU{C:R3}{v:Value}{cap:Nat}{fz:Nat×Nat}{wd:World}(h:HR P base ρ m.H w)(q:base<=w.heap.size)(d:Y0 m (.cells cs e false) k=some (v,m'))(g:I8 ρ m.n m'.hi)
  (p:LR ρ cs cs') (hC:∀ (i:Nat) (v:Value),cs'[i]? = some v->C[i]? = some v) (c:NF C fz) (b:∀ inf,P.info? e=some inf->cap*inf.size<=C.size)
  (l:wd.os=w.os/\wd.tape=w.tape/\wd.output=w.output) (hh:wd.heap=w.heap) :
  v=k m.n/\upd ρ m.n (lc w.heap.size 0 cap) m.n=some (lc w.heap.size 0 cap)/\St P base ρ (upd ρ m.n (lc w.heap.size 0 cap)) m m' w { wd with heap:=wd.heap.push (.cells C e fz) }:=by
 have a:ρ m.n=none:=by
  obtain⟨_,_,rfl⟩:=K5 d;exact g m.n (A7 _) (J7 _ _).2
 refine St.alloc (o:=.cells C e fz) h q d g l (by simp[hh]) rfl ⟨rfl,C,fz,e,by simp[hh],fun i u hi=>?_,fun _=>⟨rfl,c,fun inf hi=>⟨by have:=b inf hi;simpa using this,Nat.zero_mod _⟩⟩⟩;obtain⟨f,h1,j⟩:=p.get hi;exact⟨f,by rw[E1];exact hC i f h1,j.mono (V1 a)⟩
def fR{v:Value}(h:HR P base ρ m.H w)(a:base<=w.heap.size)(b:Y0 m (.cells cs e false) k=some (v,m'))(c:I8 ρ m.n m'.hi)(d:LR ρ cs cs') :
  v=k m.n/\upd ρ m.n (lc w.heap.size 0 0) m.n=some (lc w.heap.size 0 0)/\St P base ρ (upd ρ m.n (lc w.heap.size 0 0)) m m' w { w with heap:=w.heap.push (.cells ⟨cs'⟩ e (0,0)) } :=
 bU (wd:=w) h a b c d (fun i v hi=>by simpa using hi) NF.zero (fun inf _=>by simp) ⟨rfl,rfl,rfl⟩ rfl
def NR{v:Value}(h:HR P base ρ m.H w)(d:base<=w.heap.size)(a:AC P m e=some (v,m'))(f:I8 ρ m.n m'.hi):VOk P base ρ m w (Instr.alloc e true (.tuple #[])) v m':=by
 unfold AC at a;split at a
 .rename_i z b;obtain⟨h1,c,h3⟩:=fR h d a f (mG b);refine⟨.pointer (some ⟨w.heap.size,0,none⟩),_,_,?_,?_,h3⟩
  .simp[Instr.alloc,newVar,newRow,A4,s9 b,Result.andThen,newObj,Sem.run]
  .rw[h1];exact .ptr c
 .cases a
def XN{x v:Value}(h:HR P base ρ m.H w)(f:base<=w.heap.size)(b:RR m e x=some (v,m'))(g:I8 ρ m.n m'.hi)(i:VR ρ x x'):VOk P base ρ m w (Instr.box e x') v m':=by
 unfold RR at b;obtain⟨a,b⟩:=A2 b;obtain⟨h1,d,h3⟩:=fR h f b g (i.cells (by
  cases c:fW x with
  | false=>rfl
  | true =>
    unfold fW at c;split at c
    .exfalso;simp only[Value.cells]at a;simp[flat]at a;simp[a]at c
    .cases c))
 refine⟨.pointer (some ⟨w.heap.size,0,none⟩),_,_,?_,?_,h3⟩
 .simp[Instr.box,newVar,newRow,A4,Result.andThen,newObj,Sem.run]
 .rw[h1];exact .ptr d
def CX(z:List Value)(b:z≠[]):∀ (n i:Nat),(CY z n)[i]? = if i<n*z.length then z[i%z.length]? else none
 | 0,i=>by simp[CY]
 | n+1,i=>by
   have c:0<z.length:=List.length_pos_iff.2 b;rw[CY];by_cases h:i<z.length
   .rw[E8 h,B2 (by rw[Nat.succ_mul];omega),Nat.mod_eq_of_lt h]
   .rw[D6 A6,CX z b n,Nat.succ_mul];have e:(i-z.length)%z.length=i%z.length:=by rw[<- Nat.mod_eq_sub_mod A6]
    by_cases a:i-z.length<n*z.length
    .rw[B2 a,B2 A6,e]
    .rw[B0 a,B0 A6]
def MM{z:R3}{n s:Nat}(b:z.size=s)(d:n*s≠0):(Array.range (n*s)).map (z[· % z.size]!)=⟨CY z.toList n⟩:=by
 have c:z.toList≠[]:=by
  intro e;have:z.size=0:=by simpa using U4 List.length e
  rw[b]at this;subst this;simp at d
 apply I1;apply X5;intro i;rw[CX _ c];simp only[Array.toList_map,Array.toList_range,F6];have f:z.toList.length=s:=by simpa using b
 rw[f];by_cases h:i<n*s
 .rw[B2 h,List.getElem?_range h];have a:0<s:=by
   rcases O1 s with h0|h0
   .subst h0;simp at d
   .exact h0
  have hm:i%s<z.size:=by rw[b];exact gJ _ a
  simp[b,getElem!_pos z (i%s) hm,A3 (show i%s<z.toList.length by simpa using hm)]
 .rw[B0 h];simp;omega
def wF{n s:Nat}(j:G3 P e=some s)(h:zD P e n=some zs) :
  ((n*s=0/\zs=[])∨(n*s≠0/\∃ z:Value,(∀ w,(zeroValue e).run P w=.ok z w)/\(Array.range (n*s)).map (z.cells[· % z.cells.size]!)=⟨zs⟩))/\LR ρ zs zs:=by
 unfold zD at h;rw[j]at h;simp only at h;cases b:Nat.beq (n*s) 0 with
 | true =>
   rw[b]at h;simp only[D9,C7]at h;subst h;exact⟨.inl ⟨A0 b,rfl⟩,.nil⟩
 | false =>
   rw[b]at h;simp only[D4]at h;have c:n*s≠0:=fun e=>by rw[e]at b;cases b
   split at h
   .rename_i z d;obtain⟨h1,f⟩:=A2 h;cases f;have h1:=A0 h1;refine⟨.inr ⟨c,z,fun w=>s9 d w,MM h1 c⟩,?_⟩;have a:∀ l:D0,LR ρ l l->∀ n,LR ρ (CY l n) (CY l n):=fun l g n=>by
     induction n with
     | zero=>exact .nil
     | succ n i=>exact g.append i
    exact a _ (mG d) n
   .cases h
def uZ{t:TypeId}{n:Nat}{v:Value}(h:HR P base ρ m.H w)(u:base<=w.heap.size)(a:aW P m t n parts=some (v,m'))(B:I8 ρ m.n m'.hi)(hp:PR ρ parts parts') :
  VOk P base ρ m w (Instr.buildSlice t n ⟨parts'⟩) v m':=by
 unfold aW at a;split at a
 .rename_i e hu;split at a
  .rename_i s zs p A;obtain⟨h1,a⟩:=A2 a;obtain⟨h1,b⟩:=B6 h1;have h1:=A1 h1;have b:n<L7:=A1 b;split at a
   .rename_i cs o;obtain⟨g,j⟩:=wF (ρ:=ρ) p A;obtain⟨r',r,h3⟩:=oA o hp j;obtain⟨g1,g2,g3⟩:=fR h u a B h3;refine⟨.slice (some ⟨w.heap.size,0,none⟩) n n,_,_,?_,?_,g3⟩
    .unfold Instr.buildSlice;simp only[A4,C8 hu,J5 p,Result.andThen];rw[B0 A6];have c:Instr.fill (fun i=>some (i*s,s)) ⟨zs⟩ parts'=some ⟨r'⟩:=r;rcases g with⟨d,rfl⟩|⟨d,z,l,f⟩
     .have q:∀ z:R3,Array.map (fun x=>z[x%z.size]!) (Array.range (n*s))=⟨[]⟩:=fun z=>by rw[d];apply I1;simp
      simp only[B2 d,q,c];rfl
     .simp only[B0 d,A4,Sem.run_pure,Result.andThen,l,f,c];rfl
    .rw[g1];exact .sl g2 b
   .cases a
  .cases a
 .cases a
def vU{t:TypeId}{l c l' A v:Value}(h:HR P base ρ m.H w)(E:base<=w.heap.size)(a:cP P m t l c=some (v,m'))(L:I8 ρ m.n m'.hi)(D:VR ρ l l')(C:VR ρ c A) :
  VOk P base ρ m w (Instr.makeSlice t l' A) v m':=by
 unfold cP at a;split at a
 .rename_i e M l N c hu;cases I2 D;cases I2 C;split at a
  .rename_i i hi;obtain⟨h1,a⟩:=A2 a;obtain⟨h1,h3⟩:=B6 h1;obtain⟨h1,u⟩:=B6 h1;have h1:=A1 h1;have u:=A1 u;have h3:=A1 h3;split at a
   .rename_i zs J;rw[H5]at a;have s:G3 P e=some i.size:=by simp[G3,hi]
    obtain⟨j,o⟩:=wF (ρ:=ρ) s J;obtain⟨g1,g2,g3⟩:=fR h E a L o;refine⟨.slice (some ⟨w.heap.size,0,none⟩) l c,_,_,?_,?_,g3⟩
    .have wl:IntKind.i64.wrap (Int.ofNat l)=Int.ofNat l:=mI .i64 l (by simp only[GJ];omega);have F:IntKind.i64.wrap (Int.ofNat c)=Int.ofNat c:=mI .i64 c (by simp only[GJ];omega);have b:(askRoom (c*i.bytes)).run P w=.ok () w:=by
      unfold askRoom roomBytes;rw[B0 A6];rfl
     have q:((i.bytes:Int)*(c:Int))=((c*i.bytes:Nat):Int):=by rw[V5];simp
     have G:((i.bytes:Int)*(l:Int))<=((c*i.bytes:Nat):Int):=by
      have:i.bytes*l<=c*i.bytes:=by rw[V5];exact E7 _ h1
      exact_mod_cast this
     unfold Instr.makeSlice;simp only[A4,C8 hu,asInt,asIntOf,Result.andThen,Sem.run_pure,T4 hi,wl,F];rw[B0]
     .have r:(Int.ofNat c).toNat=c:=by simp
      have f:(Int.ofNat l).toNat=l:=by simp
      simp only[A4,Sem.run_pure,Result.andThen,r,f,b,J5 s];rcases j with⟨d,rfl⟩|⟨d,z,p,g⟩
      .have B:∀ z:R3,Array.map (fun x=>z[x%z.size]!) (Array.range (c*i.size))=⟨[]⟩:=fun z=>by rw[d];apply I1;simp
       simp only[B2 d,B];rfl
      .simp only[B0 d,A4,Sem.run_pure,Result.andThen,p,g];rfl
     .have K:Int.ofNat c=(c:Int):=rfl;have I:Int.ofNat l=(l:Int):=rfl;simp only[K,I,q];simp;omega
    .rw[g1];exact .sl g2 (by unfold L7;omega)
   .cases a
  .cases a
 .cases a
end
end
end Go.Sx
