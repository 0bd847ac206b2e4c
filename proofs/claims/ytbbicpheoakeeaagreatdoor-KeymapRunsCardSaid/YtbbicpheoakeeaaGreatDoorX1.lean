import Derived.Test.YtbbicpheoakeeaaGreatDoorX0
import Derived.ChangeKeysEq
set_option linter.all false
set_option maxRecDepth 100000
set_option maxHeartbeats 4000000
namespace Go.Sx
variable {k:Nat->Value}{cs cs' r' zs:D0}{dflt mm off top y:Nat}{e:TypeId}{i' x':Value}{lo mx o':Q3}
section
open Go
def O4(d:Nat)(a:d<8){α β:Type}(n:N8 α)(v:α)(k:N8 α->β):(sel d).upd n v k=k ((sel d).upd n v fun n=>n):=by
 match d,a with
 | 0,_|1,_|2,_|3,_|4,_|5,_|6,_|7,_=>rfl
def XE(d:Nat)(a:d<8){α:Type}(n:N8 α)(v:α):(sel d).get ((sel d).upd n v fun n=>n)=v:=by
 match d,a with
 | 0,_|1,_|2,_|3,_|4,_|5,_|6,_|7,_=>rfl
def A7B(d e:Nat)(b:d<8)(he:e<8)(a:e≠d){α:Type}(n:N8 α)(v:α):(sel e).get ((sel d).upd n v fun n=>n)=(sel e).get n:=by
 match d,b with
 | 0,_|1,_|2,_|3,_|4,_|5,_|6,_|7,_ =>
   match e,he with
   | 0,_|1,_|2,_|3,_|4,_|5,_|6,_|7,_=>first|rfl|exact absurd rfl a
def eF{α β:Type}(n:N8 α)(k:N8 α->β):GG n k=k n:=rfl
def m8(n:Nat):n%8<8:=pI _ E7
def ER{β:Type}(t:Nat)(v:Value)(fr:Fr)(k:Fr->β):vS (sel (t / 64%8)) (sel (t / 8%8)) (sel (t%8)) v fr k=k (fr.set t v):=by
 unfold Fr.set vS;rw[O4 _ (m8 _)];conv=>rhs;rw[O4 _ (m8 _)]
 rw[O4 _ (m8 _)];conv=>rhs;rw[O4 _ (m8 _)]
 rw[O4 _ (m8 _)]
def X1(d e:Nat)(a:d<8)(he:e<8){α:Type}(n:N8 α)(v:α):(sel e).get ((sel d).upd n v fun n=>n)=if e=d then v else(sel e).get n:=by
 by_cases h:e=d
 .subst h;rw[A9 rfl,XE _ he]
 .rw[A7 h,A7B _ _ a he h]
def L8(fr:Fr)(t u:Nat)(v:Value)(d:t<512)(hu:u<512):(fr.set t v).get u=if u=t then v else fr.get u:=by
 unfold Fr.set vS;simp only[O4 _ (m8 _) _ _ (fun b=>Sel.upd _ _ _ _),O4 _ (m8 _) _ _ (fun c=>Sel.upd _ _ _ _)];unfold Fr.get;rw[X1 _ _ (m8 _) (m8 _)];by_cases h1:u / 64%8=t / 64%8
 .rw[A9 h1,X1 _ _ (m8 _) (m8 _)];by_cases a:u / 8%8=t / 8%8
  .rw[A9 a,X1 _ _ (m8 _) (m8 _)];by_cases h3:u%8=t%8
   .rw[A9 h3,A9 A2]
   .rw[A7 h3,A7 (by intro h;subst h;exact h3 rfl),h1,a]
  .rw[A7 a,A7 (by intro h;subst h;exact a rfl),h1]
 .rw[A7 h1,A7 (by intro h;subst h;exact h1 rfl)]
def GE(t:Nat):fr0.get t=undef:=by
 unfold Fr.get fr0;have h:∀ (d:Nat) {α:Type} (v:α),d<8->(sel d).get (pE v)=v:=fun d α v a=>by
  match d,a with
  | 0,_|1,_|2,_|3,_|4,_|5,_|6,_|7,_=>rfl
 rw[h _ _ (m8 _),h _ _ (m8 _),h _ _ (m8 _)];rfl
def eP{α β:Type}(h:Hp α)(n:Nat)(v:Option α)(k:Hp α->β):h.put n v k=k (h.set n v):=by
 unfold Hp.set Hp.put X8;rw[O4 _ (m8 _),O4 _ (m8 _),O4 _ (m8 _),O4 _ (m8 _),O4 _ (m8 _),O4 _ (m8 _)];conv=>rhs;rw[O4 _ (m8 _),O4 _ (m8 _),O4 _ (m8 _),O4 _ (m8 _),O4 _ (m8 _)]
def F0{α:Type}(h:Hp α)(n m:Nat)(v:Option α)(f:n<=H7)(hm:m<=H7):(h.set n v).get m=if m=n then v else h.get m:=by
 unfold H7 at f hm;unfold Hp.set Hp.put X8;rw[O4 _ (m8 _),O4 _ (m8 _),O4 _ (m8 _),O4 _ (m8 _),O4 _ (m8 _)];unfold Hp.get;rw[X1 _ _ (m8 _) (m8 _)];by_cases h1:m / 32768%8=n / 32768%8
 .rw[A9 h1,X1 _ _ (m8 _) (m8 _)];by_cases a:m / 4096%8=n / 4096%8
  .rw[A9 a,X1 _ _ (m8 _) (m8 _)];by_cases h3:m / 512%8=n / 512%8
   .rw[A9 h3,X1 _ _ (m8 _) (m8 _)];by_cases b:m / 64%8=n / 64%8
    .rw[A9 b,X1 _ _ (m8 _) (m8 _)];by_cases c:m / 8%8=n / 8%8
     .rw[A9 c,X1 _ _ (m8 _) (m8 _)];by_cases d:m%8=n%8
      .rw[A9 d,A9 A2]
      .rw[A7 d,A7 (by intro h;subst h;exact d rfl),h1,a,h3,b,c]
     .rw[A7 c,A7 (by intro h;subst h;exact c rfl),h1,a,h3,b]
    .rw[A7 b,A7 (by intro h;subst h;exact b rfl),h1,a,h3]
   .rw[A7 h3,A7 (by intro h;subst h;exact h3 rfl),h1,a]
  .rw[A7 a,A7 (by intro h;subst h;exact a rfl),h1]
 .rw[A7 h1,A7 (by intro h;subst h;exact h1 rfl)]
def rU{α:Type}(m:Nat):(hp0:Hp α).get m=none:=by
 have h:∀ (d:Nat) {α:Type} (v:α),d<8->(sel d).get (pE v)=v:=fun d α v a=>by
  match d,a with
  | 0,_|1,_|2,_|3,_|4,_|5,_|6,_|7,_=>rfl
 unfold Hp.get hp0;rw[h _ _ (m8 _),h _ _ (m8 _),h _ _ (m8 _),h _ _ (m8 _),h _ _ (m8 _),h _ _ (m8 _)]
def E5{β:Type}(n:Nat)(k:Nat->β):J8 n k=k n:=by cases n<;>rfl
def tQ{β:Type}(i:Int)(k:Int->β):zB i k=k i:=by cases i<;>simp[zB,E5]
def I1{α β:Type}:∀ (l:List α) (k:List α->β),Q9 l k=k l
 | [],k=>rfl
 | x::r,k=>by simp[Q9,I1 r]
def aP(k:IntKind)(n:Int):mkI k n=.int k n:=by simp[mkI,tQ]
def toV:U->Q3
 | .int k n=>some (.int k n)
 | .bool b=>some (.bool b)
 | .str s=>some (.string ⟨⟨s⟩⟩)
 | _=>none
def G2:U->Nat
 | .int k _=>iD k
 | .bool _=>8
 | .str _=>9
 | .seq _ w _=>10+w
 | .none=>99
def pD(E:Nat->U):Value->Option Int
 | .complex .f64 i _=>match E i with
   | .int _ n=>some n
   | _=>none
 | .int _ n=>some n
 | _=>none
class Ora where
 env:Nat->U
 G:Nat->Option Obj
variable [Ora]
structure B2x where
 blk:Nat
 sh:Nat
 cap:Nat
 len:Nat
 G:Nat->Option Obj
 on:Bool
abbrev Loc:=B2x
abbrev lc(b s c:Nat):Loc:=⟨b,s,c,0,fun _=>none,true⟩
abbrev Ren:=Nat->Option Loc
inductive Enc (G:Nat->Option Obj):U->Value->Prop
 | sc {u v} (h:toV u=some v):Enc G u v
 | nil {w}:Enc G (.seq true w []) (.slice none 0 0)
 | emp {w a}:Enc G (.seq false w []) (.slice (some a) 0 0)
 | sl {w rows a o c C T fz} (hc:rows.length<=c) (hg:rows≠[]->G a=some (.cells C T fz)) (hz:rows≠[]->o+rows.length*w<=C.size) (hw:∀ row ∈ rows,row.length=w)
    (h:∀ (r:Nat) (row:List U) (j:Nat) (u:U) (v:Value),rows[r]? = some row->row[j]? = some u->C[o+r*w+j]? = some v->Enc G u v):Enc G (.seq false w rows) (.slice (some ⟨a,o,none⟩) rows.length c)
omit [Ora] in
def Enc.mono{G a:Nat->Option Obj}(h:∀ k o,G k=some o->a k=some o){u:U}{v:Value}(e:Enc G u v):Enc a u v:=by
 induction e with
 | sc h=>exact .sc h
 | nil=>exact .nil
 | emp=>exact .emp
 | sl c g d hw h1 f=>exact .sl c (fun b=>h _ _ (g b)) d hw f
omit [Ora] in
def Enc.slice{G:Nat->Option Obj}{u:U}{v:Value}(h:Enc G u v)(d:10<=G2 u):∃ a n c,v=.slice a n c:=by
 cases h with
 | sc h =>
   cases u with
   | int k n=>cases k<;>simp[G2,iD]at d
   | bool b=>simp[G2]at d
   | str s=>simp[G2]at d
   | none=>cases h
   | seq _ _ _=>cases h
 | nil=>exact⟨_,_,_,rfl⟩
 | emp=>exact⟨_,_,_,rfl⟩
 | sl=>exact⟨_,_,_,rfl⟩
def A13:Value->Prop
 | .slice _ n c=>c=n
 | _=>False
def ZW(ρ:Ren)(b:Nat)(u:U)(v':Value):Prop :=
 (∃ l w,ρ b=some l/\l.on=false/\u=.seq true w []/\v'=.slice none 0 0)∨(∃ l w rows,ρ b=some l/\l.on=true/\u=.seq false w rows/\rows.length=l.len/\l.len<=l.cap/\v'=.slice (some ⟨l.blk,l.sh,none⟩) l.len l.cap)
def A94(ρ:Ren)(b:Nat)(u:U)(z:Option Int)(o:Nat)(v':Value):Prop :=
 ∃ l w rows a s c k,ρ b=some l/\u=.seq false w rows/\Enc l.G u (.slice (some ⟨a,s,none⟩) rows.length c)/\z=some (.ofNat k)/\k<rows.length/\o<w/\v'=.pointer (some ⟨a,s+k*w+o,none⟩)
def A85(ρ:Ren)(b:Nat)(u:U)(z:Option Int)(o:Nat)(v':Value):Prop :=
 ∃ l w rows k,ρ b=some l/\l.on=true/\u=.seq false w rows/\z=some (.ofNat k)/\k<l.len/\o<w/\v'=.pointer (some ⟨l.blk,l.sh+k*w+o,none⟩)
def UE(ρ:Ren)(b:Nat)(v':Value):Prop:=∃ l,ρ b=some l/\((l.on=false/\v'=.pointer none)∨(l.on=true/\∃ a,v'=.pointer (some a)/\(l.cap≠0->a=⟨l.blk,l.sh,none⟩)))
def UE.cells{ρ:Ren}{b:Nat}{v':Value}(h:UE ρ b v'):v'.cells=#[v']:=by
 obtain⟨l,_,⟨_,rfl⟩|⟨_,a,rfl,_⟩⟩:=h<;>rfl
def m9:Value->Bool
 | .agg _|.tuple _=>false
 | _=>true
def UE.flat{ρ:Ren}{b:Nat}{v':Value}(h:UE ρ b v'):m9 v'=true:=by
 obtain⟨l,_,⟨_,rfl⟩|⟨_,a,rfl,_⟩⟩:=h<;>rfl
def u6{v:Value}(h:m9 v=true):v.cells=#[v]:=by cases v<;>first|rfl|cases h
inductive VR (ρ:Ren):Value->Value->Prop
 | pure {v} (h:I4 v=true):VR ρ v v
 | hole {i t v'} (h:toV (Ora.env i)=some v') (ht:G2 (Ora.env i)=t):VR ρ (.complex .f64 i t) v'
 | junk {i t v'} (h:i=1->m9 v'=true):VR ρ (.complex .f32 i t) v'
 | ixp {a s n i l z v'} (h:ρ a.block=some l) (hs:a.spot=none) (hi:pD Ora.env i=some (.ofNat z)) (hz:z<n) (hv:v'=.pointer (some ⟨l.blk,a.off+z*s+l.sh,none⟩)):VR ρ (Go.Sx.ixp a s i n) v'
 | dat {b i t v' l} (h:ρ b=some l) (he:Enc l.G (Ora.env i) v') (ht:G2 (Ora.env i)=t) (h10:10<=t) (hf:m9 v'=true):VR ρ (Go.Sx.dat b i t) v'
 | clp {b i t v' l} (h:ρ b=some l) (he:Enc l.G (Ora.env i) v') (ht:G2 (Ora.env i)=t) (h10:10<=t) (hf:m9 v'=true) (hc:A13 v'):VR ρ (Go.Sx.clp b i t) v'
 | own {b i t v'} (h:ZW ρ b (Ora.env i) v') (ht:G2 (Ora.env i)=t) (hf:m9 v'=true):VR ρ (Go.Sx.own b i t) v'
 | dpt {b i t z o v'} (h:A94 ρ b (Ora.env i) (pD Ora.env z) o v') (ht:G2 (Ora.env i)=t) (hf:m9 v'=true):VR ρ (Go.Sx.dpt b i t z o) v'
 | opt {b i t z o v'} (h:A85 ρ b (Ora.env i) (pD Ora.env z) o v') (ht:G2 (Ora.env i)=t) (hf:m9 v'=true):VR ρ (Go.Sx.opt b i t z o) v'
 | ptr {b o l} (h:ρ b=some l):VR ρ (.pointer (some ⟨b,o,none⟩)) (.pointer (some ⟨l.blk,o+l.sh,none⟩))
 | sl {b o l n m} (h:ρ b=some l) (hm:m<M9):VR ρ (.slice (some ⟨b,o,none⟩) n m) (.slice (some ⟨l.blk,o+l.sh,none⟩) n m)
 | op {b o l n m m'} (h:ρ b=some l) (hm:M9<=m) (hn:n<=m') (hc:m=M9->o=0->m'=l.cap):VR ρ (.slice (some ⟨b,o,none⟩) n m) (.slice (some ⟨l.blk,o+l.sh,none⟩) n m')
 | opE {a a' m'} (hs:a'.spot=none):VR ρ (.slice (some a) 0 (M9+2)) (.slice (some a') 0 m')
 | map {b l} (h:ρ b=some l):VR ρ (.map (some b)) (.map (some l.blk))
 | sdt {b v'} (h:UE ρ b v'):VR ρ (Go.Sx.sdt b) v'
 | yv {b l} (h:ρ b=some l):VR ρ (Go.Sx.yv b) (.func (.yield l.blk) #[] #[])
 | func {f a b a' b'} (ha:a.length=a'.length) (hb:b.length=b'.length) (h1:∀ (i:Nat) (v v':Value),a[i]? = some v->a'[i]? = some v'->VR ρ v v') (h2:∀ (i:Nat) (v v':Value),b[i]? = some v->b'[i]? = some v'->VR ρ v v') :
    VR ρ (.func (.func f) ⟨a⟩ ⟨b⟩) (.func (.func f) ⟨a'⟩ ⟨b'⟩)
 | iface {t v v'} (h:VR ρ v v'):VR ρ (.iface t v) (.iface t v')
 | agg {a a'} (ha:a.length=a'.length) (h:∀ (i:Nat) (v v':Value),a[i]? = some v->a'[i]? = some v'->VR ρ v v'):VR ρ (.agg ⟨a⟩) (.agg ⟨a'⟩)
 | tuple {a a'} (ha:a.length=a'.length) (h:∀ (i:Nat) (v v':Value),a[i]? = some v->a'[i]? = some v'->VR ρ v v'):VR ρ (.tuple ⟨a⟩) (.tuple ⟨a'⟩)
theorem A1G{ρ:Ren}{b:Nat}{v':Value}(h:VR ρ (yv b) v'):∃ l,ρ b=some l/\v'=.func (.yield l.blk) #[] #[]:=by
 generalize hx:yv b=x at h;cases h with
 | yv h=>cases hx;exact⟨_,h,rfl⟩
 | pure hp=>subst hx;simp[yv,I4]at hp
 | _=>simp[yv,ixp,Go.Sx.dat,Go.Sx.clp,Go.Sx.own,Go.Sx.dpt,Go.Sx.opt,Go.Sx.sdt]at hx
def A3V{ρ:Ren}{b:Nat}{v':Value}(h:VR ρ (sdt b) v'):UE ρ b v':=by
 generalize hx:sdt b=x at h;cases h with
 | sdt h=>cases hx;exact h
 | pure hp=>subst hx;simp[sdt,I4]at hp
 | _=>simp[sdt,ixp,Go.Sx.dat,Go.Sx.clp,Go.Sx.own,Go.Sx.dpt,Go.Sx.opt,Go.Sx.yv]at hx
def LR(ρ:Ren)(a a':List Value):Prop:=a.length=a'.length/\∀ (i:Nat) (v v':Value),a[i]? = some v->a'[i]? = some v'->VR ρ v v'
def VR.mono{ρ f:Ren}(he:∀ b l,ρ b=some l->f b=some l){v v':Value}(h:VR ρ v v'):VR f v v':=by
 induction h with
 | pure h=>exact .pure h
 | hole h u=>exact .hole h u
 | junk h=>exact .junk h
 | ixp h p hi q hv=>exact .ixp (he _ _ h) p hi q hv
 | dat h h1 d h3 o=>exact .dat (he _ _ h) h1 d h3 o
 | clp h h1 d h3 o t=>exact .clp (he _ _ h) h1 d h3 o t
 | own h h1 d=>exact .own (h.imp (fun⟨l,w,a,b⟩=>⟨l,w,he _ _ a,b⟩) fun⟨l,w,rows,a,b⟩=>⟨l,w,rows,he _ _ a,b⟩) h1 d
 | dpt h h1 d=>exact .dpt (let ⟨l,w,rows,a,s,c,k,h0,r⟩:=h;⟨l,w,rows,a,s,c,k,he _ _ h0,r⟩) h1 d
 | opt h h1 d=>exact .opt (let ⟨l,w,rows,k,h0,r⟩:=h;⟨l,w,rows,k,he _ _ h0,r⟩) h1 d
 | ptr h=>exact .ptr (he _ _ h)
 | sl h hm=>exact .sl (he _ _ h) hm
 | op h hm A z=>exact .op (he _ _ h) hm A z
 | opE p=>exact .opE p
 | map h=>exact .map (he _ _ h)
 | yv h=>exact .yv (he _ _ h)
 | sdt h=>exact .sdt (let ⟨l,a,b⟩:=h;⟨l,he _ _ a,b⟩)
 | func i x h1 d n j=>exact .func i x n j
 | iface h g=>exact .iface g
 | agg i h g=>exact .agg i g
 | tuple i h g=>exact .tuple i g
def LR.mono{ρ c:Ren}(he:∀ b l,ρ b=some l->c b=some l){a a':D0}(h:LR ρ a a'):LR c a a':=⟨h.1,fun i v v' h1 d=>(h.2 i v v' h1 d).mono he⟩
def LR.nil{ρ:Ren}:LR ρ [] []:=⟨rfl,fun i v v' h=>by simp at h⟩
def LR.cons{ρ:Ren}{v v':Value}{a a':D0}(hv:VR ρ v v')(h:LR ρ a a'):LR ρ (v::a) (v'::a'):=by
 refine⟨by simp[h.1],fun i u c h1 b=>?_⟩;cases i with
 | zero=>simp at h1 b;subst h1;subst b;exact hv
 | succ i=>exact h.2 i u c (by simpa using h1) (by simpa using b)
def LR.append{ρ:Ren}{a a' b b':D0}(h:LR ρ a a')(k:LR ρ b b'):LR ρ (a++b) (a'++b'):=by
 refine⟨by simp[h.1,k.1],fun i u f h1 d=>?_⟩;rcases F8 i a.length with c|c
 .rw[F1 c]at h1;rw[F1 (h.1▸c)]at d;exact h.2 i u f h1 d
 .rw[D8 c]at h1;rw[D8 (h.1▸c),<- h.1]at d;exact k.2 _ u f h1 d
def LR.tail{ρ:Ren}{v:Value}{a a':D0}(h:LR ρ (v::a) a'):∃ v' r',a'=v'::r'/\VR ρ v v'/\LR ρ a r':=by
 obtain⟨h1,b⟩:=h;cases a' with
 | nil=>simp at h1
 | cons v' r'=>exact⟨v',r',rfl,b 0 v v' rfl rfl,by simpa using h1,fun i u c g1 g2=>b (i+1) u c (by simpa using g1) (by simpa using g2)⟩
def LR.nil_inv{ρ:Ren}{a':D0}(h:LR ρ [] a'):a'=[]:=G0.1 h.1.symm
def LR.get{ρ:Ren}{a a':D0}(h:LR ρ a a'){i:Nat}{v:Value}(hi:a[i]? = some v):∃ v',a'[i]? = some v'/\VR ρ v v':=by
 have c:=(B0.1 hi).1;have b:i<a'.length:=h.1▸c;exact⟨a'[i],A5 b,h.2 i v _ hi (A5 b)⟩
def LR.drop{ρ:Ren}{a a':D0}(h:LR ρ a a')(n:Nat):LR ρ (a.drop n) (a'.drop n):=⟨by simp[h.1],fun i u c h1 b=>by
 rw[H9]at h1 b;exact h.2 _ u c h1 b⟩
def LR.take{ρ:Ren}{a a':D0}(h:LR ρ a a')(n:Nat):LR ρ (a.take n) (a'.take n):=⟨by simp[h.1],fun i u c h1 b=>by
 have hi:i<n:=by
  have:=(B0.1 h1).1;simp at this;omega
 rw[E6 hi]at h1 b;exact h.2 _ u c h1 b⟩
def LR.set{ρ:Ren}{a a':D0}(h:LR ρ a a'){v v':Value}(hv:VR ρ v v')(n:Nat):LR ρ (a.set n v) (a'.set n v'):=⟨by simp[h.1],fun i u d h1 b=>by
 by_cases e:n=i
 .subst e;have c:=(B0.1 h1).1;simp at c;rw[R7 c]at h1;rw[R7 (h.1▸c)]at b;cases h1;cases b;exact hv
 .rw[dA e]at h1 b;exact h.2 _ u d h1 b⟩
def LR.all_pure{ρ:Ren}:∀ {a:D0},a.all I4=true->LR ρ a a
 | [],_=>.nil
 | v::r,h=>by simp only[cJ,G8]at h;exact .cons (.pure h.1) (LR.all_pure h.2)
def VR.ofC{ρ:Ren}{v:Value}(h:QZ v=true):VR ρ v v:=by
 cases v with
 | agg cs =>
   obtain⟨l⟩:=cs;have:LR ρ l l:=LR.all_pure h;exact .agg this.1 this.2
 | _=>exact .pure h
omit [Ora] in
def gY{u:U}{v:Value}(h:toV u=some v):I4 v=true:=by
 cases u<;>cases h<;>rfl
def NR{v:Value}(h:I4 v=true):v.cells=#[v]:=by cases v<;>first|rfl|cases h
def VR.cells{ρ:Ren}{v v':Value}(h:VR ρ v v')(n:jD v=false):LR ρ v.cells.toList v'.cells.toList:=by
 have one:∀ {v v':Value},VR ρ v v'->LR ρ [v] [v']:=fun h=>.cons h .nil
 cases h with
 | agg b h=>exact⟨b,h⟩
 | junk h =>
   have h1:=A0 (by simpa [jD]using n);rw[u6 (h h1)];exact one (.junk h)
 | hole h i=>rw[NR (gY h)];exact one (.hole h i)
 | ixp h d hi f hv=>subst hv;exact one (.ixp h d hi f rfl)
 | pure hp =>
   cases v with
   | agg cs=>simp[I4]at hp
   | _=>exact one (.pure hp)
 | dat h h1 a h3 c=>rw[u6 c];exact one (.dat h h1 a h3 c)
 | clp h h1 a h3 c g=>rw[u6 c];exact one (.clp h h1 a h3 c g)
 | own h h1 a=>rw[u6 a];exact one (.own h h1 a)
 | dpt h h1 a=>rw[u6 a];exact one (.dpt h h1 a)
 | opt h h1 a=>rw[u6 a];exact one (.opt h h1 a)
 | ptr h=>exact one (.ptr h)
 | sl h hm=>exact one (.sl h hm)
 | op h hm o l=>exact one (.op h hm o l)
 | opE d=>exact one (.opE d)
 | map h=>exact one (.map h)
 | yv h=>exact one (.yv h)
 | sdt h=>rw[h.cells];exact one (.sdt h)
 | func b j h1 a=>exact one (.func b j h1 a)
 | iface h=>exact one (.iface h)
 | tuple b h=>exact one (.tuple b h)
def AB.on:AB->Bool
 | .frz=>false
 | _=>true
def AB.rw:AB->Bool
 | .cells _ _ ro=>!ro
 | .sq _ _ _ _ ro=>!ro
 | .frz=>false
 | _=>true
def AB.rw_on{ab:AB}(h:ab.rw=true):ab.on=true:=by
 cases ab<;>first|rfl|cases h
def Tc(ab:AB)(l:Loc)(k:Nat):Prop:=(ab.on=true/\l.on=true/\l.blk=k)∨(ab=.frz/\∃ o,l.G k=some o)
def S3(u:U):Value:=(toV u).getD (.tuple #[])
def X6(a:Bool)(us:List U):Value :=
 match a,us with
 | true,us=>.agg ⟨us.map S3⟩
 | false,u::_=>S3 u
 | false,[]=>.tuple #[]
def vY(y:MTy)(rows:List (List U))(es:List MapEntry):Prop :=
 rows.length=es.length/\∀ (i:Nat) (row:List U) (e:MapEntry),rows[i]? = some row->es[i]? = some e->row.map G2=y.ks++y.vs/\e.key=X6 y.ka (row.take y.ks.length)/\e.val=X6 y.va (row.drop y.ks.length)
def EF(es:List MapEntry)(clock:Nat):Prop:=(es.map (·.born)).Nodup/\∀ e ∈ es,e.born<clock
def MpR(P:Program)(u:U)(t:Nat)(T:TypeId)(l:Loc)(w:World):Prop :=
 ∃ y es clock rows,UW P T=some y/\t=10+y.w/\w.heap[l.blk]? = some (.map es clock)/\u=.seq false y.w rows/\vY y rows es.toList/\EF es.toList clock
def B2v(P:Program)(ρ:Ren)(u:U)(wd:Nat)(T:TypeId)(g:Nat)(ro:Bool)(l:Loc)(w:World):Prop :=
 ∃ C fz a rows lg,w.heap[l.blk]? = some (.cells C a fz)/\u=.seq false wd rows/\rows.length=l.len/\l.len<=l.cap/\l.sh+l.cap*wd<=C.size/\(∀ row ∈ rows,row.length=wd)/\ρ g=some lg /\
  (∀ (r:Nat) (row:List U) (j:Nat) (x:U) (v:Value),rows[r]? = some row->row[j]? = some x->C[l.sh+r*wd+j]? = some v->Enc lg.G x v) /\
  (ro=false->a=T/\∀ i,i<C.size->¬ (fz.1<=i/\i<fz.2))
structure SqR (P:Program) (ρ:Ren) (u:U) (t:Nat) (T:TypeId) (g:Nat) (ro:Bool) (l:Loc) (w:World):Prop where
 ex:∃ wd inf,t=10+wd/\P.info? T=some inf/\inf.size=wd/\((l.on=false/\u=.seq true wd [])∨(l.on=true/\B2v P ρ u wd T g ro l w))
def StR(st:Nat)(s:LoopState)(p:Option Code):Prop :=
 match st with
 | 0=>s=.ready/\p=none
 | 1=>s=.busy
 | 2=>s=.done/\p=some .ret
 | 3=>True
 | k+4=>s=.done/\p=some (.exit k)
structure LpR (P:Program) (ρ:Ren) (f:FuncId) (q:List Bool) (vs:List Value) (st:Nat) (r:Loop):Prop where
 code:∃ fn body x,P.funcs[f]? = some fn/\fn.body=some body/\G6 q body=some (.rangeFunc x r.params r.assign r.body)/\vs.length=fn.ntmps
 fr:LR ρ vs r.tmps.toList
 st:StR st r.state r.pending
def LpR.mono{P:Program}{ρ a:Ren}(he:∀ b l,ρ b=some l->a b=some l){f:FuncId}{q:List Bool}{vs:D0}{st:Nat}{r:Loop}(h:LpR P ρ f q vs st r):LpR P a f q vs st r:=⟨h.code,h.fr.mono he,h.st⟩
structure NF (C:Array Value) (fz:Nat×Nat):Prop where
 nf:∀ i,i<C.size->¬ (fz.1<=i/\i<fz.2)
 le:fz.1<=fz.2
instance{C:V8}{fz:Nat×Nat}:CoeFun (NF C fz) (fun _=>∀ i,i<C.size->¬ (fz.1<=i/\i<fz.2)):=⟨NF.nf⟩
def NF.zero{C:V8}:NF C (0,0):=⟨fun i _ hh=>by have h1:0<=i:=hh.1;have a:i<0:=hh.2;omega,A6 _⟩
def NF.end{C:V8}:NF C (C.size,C.size+1):=⟨fun i h hh=>by have h1:C.size<=i:=hh.1;omega,W6 _⟩
def NF.sz{C C':V8}{fz:Nat×Nat}(h:NF C fz)(a:C'.size=C.size):NF C' fz:=⟨fun i hi=>h.nf i (a▸hi),h.le⟩
def NF.mark{C:V8}{fz:Nat×Nat}(h:NF C fz):NF C (if fz.1 == fz.2 then(C.size,C.size+1)else(min fz.1 C.size,max fz.2 (C.size+1))):=by
 by_cases e:fz.1=fz.2
 .rw[A9 (by simp[e])];exact .end
 .rw[A7 (by simp[e])];have hle:=h.le;have h1:C.size<=fz.1:=by
   rcases F8 fz.1 C.size with a|a
   .exact absurd ⟨A6 _,A2⟩ (h.nf fz.1 a)
   .exact a
  exact⟨fun i hi hh=>by have h3:min fz.1 C.size<=i:=hh.1;omega,by show min fz.1 C.size<=max fz.2 (C.size+1);omega⟩
def BR(P:Program)(ρ:Ren)(ab:AB)(l:Loc)(w:World):Prop :=
 match ab with
 | .cells cs T ro=>l.on=true/\∃ C fz a,w.heap[l.blk]? = some (.cells C a fz)/\(∀ i v,cs[i]? = some v->∃ v',C[l.sh+i]? = some v'/\VR ρ v v') /\
    (ro=false->a=T/\NF C fz/\∀ inf,P.info? T=some inf->l.sh+l.cap*inf.size<=C.size/\l.sh%inf.size=0)
 | .mp c t T=>(l.on=true/\l.sh=0)/\MpR P (Ora.env c) t T l w
 | .iter vs=>(l.on=true/\l.sh=0)/\∃ s n,w.heap[l.blk]? = some (.stringIter s n)/\LR ρ vs [.string s,.int .i64 (.ofNat n)]
 | .sq c t T g ro=>SqR P ρ (Ora.env c) t T g ro l w
 | .lp f q vs st=>(l.on=true/\l.sh=0)/\∃ r,w.heap[l.blk]? = some (.loop r)/\LpR P ρ f q vs st r
 | .dfr b=>(l.on=true/\l.sh=0)/\∃ x,w.heap[l.blk]? = some (.deferred x)/\(b=true->x=some [])
 | .frz=>l.on=false/\∀ k o,l.G k=some o->w.heap[k]? = some o
def BR.mono{P:Program}{ρ j:Ren}(he:∀ b l,ρ b=some l->j b=some l){ab:AB}{l:Loc}{w w':World}(hw:∀ k,Tc ab l k->w'.heap[k]? = w.heap[k]?)(h:BR P ρ ab l w):BR P j ab l w':=by
 cases ab with
 | cells cs T ro =>
   obtain⟨h0,C,fz,A,h1,d,h3⟩:=h;exact⟨h0,C,fz,A,(hw _ (.inl ⟨rfl,h0,rfl⟩)).trans h1,fun i v hi=>let ⟨v',a,b⟩:=d i v hi;⟨v',a,b.mono he⟩,h3⟩
 | mp c t T =>
   obtain⟨h0,y,es,clock,rows,h1,d,h3,u⟩:=h;exact⟨h0,y,es,clock,rows,h1,d,(hw _ (.inl ⟨rfl,h0.1,rfl⟩)).trans h3,u⟩
 | iter vs=>obtain⟨h0,s,n,h1,d⟩:=h;exact⟨h0,s,n,(hw _ (.inl ⟨rfl,h0.1,rfl⟩)).trans h1,d.mono he⟩
 | lp f q vs st=>obtain⟨h0,r,h1,d⟩:=h;exact⟨h0,r,(hw _ (.inl ⟨rfl,h0.1,rfl⟩)).trans h1,d.mono he⟩
 | dfr b=>obtain⟨h0,x,h1,d⟩:=h;exact⟨h0,x,(hw _ (.inl ⟨rfl,h0.1,rfl⟩)).trans h1,d⟩
 | sq c t T g ro =>
   obtain⟨wd,inf,h1,d,h3,u⟩:=SqR.ex h;refine⟨⟨wd,inf,h1,d,h3,u.imp (fun x=>x) fun⟨p,z⟩=>⟨p,?_⟩⟩⟩;obtain⟨C,fz,A,rows,lg,h1,d,h3,u,z,G,F,E,D⟩:=z;exact⟨C,fz,A,rows,lg,(hw _ (.inl ⟨rfl,p,rfl⟩)).trans h1,d,h3,u,z,G,he _ _ F,E,D⟩
 | frz=>exact⟨h.1,fun k o B=>(hw k (.inr ⟨rfl,o,B⟩)).trans (h.2 k o B)⟩
structure HR (P:Program) (base:Nat) (ρ:Ren) (H:Hp AB) (w:World):Prop where
 dom:∀ b l,ρ b=some l->b<=H7
 at_:∀ id,id<=H7->∀ ab,Hp.get H id=some ab->∃ l,ρ id=some l/\BR P ρ ab l w/\(ab.rw=true->l.on=true->base<=l.blk/\∀ id2,id2<=H7->∀ ab2 l2,Hp.get H id2=some ab2->ρ id2=some l2->Tc ab2 l2 l.blk->id2=id)
def BR.tc{P:Program}{ρ:Ren}{ab:AB}{l:Loc}{w:World}(h:BR P ρ ab l w){k:Nat}(p:Tc ab l k):k<w.heap.size:=by
 have key:∀ k o,w.heap[k]? = some o->k<w.heap.size:=fun k o j=>(C7.1 j).1
 rcases p with⟨h1,d,rfl⟩|⟨rfl,o,h1⟩
 .cases ab with
  | cells cs T ro=>obtain⟨_,C,fz,u,h1,_⟩:=h;exact key _ _ h1
  | mp c t T=>obtain⟨h0,y,es,clock,rows,h1,v,h3,i⟩:=h;exact key _ _ h3
  | iter vs=>obtain⟨_,s,n,h1,_⟩:=h;exact key _ _ h1
  | lp f q vs st=>obtain⟨_,r,h1,_⟩:=h;exact key _ _ h1
  | dfr b=>obtain⟨_,x,h1,_⟩:=h;exact key _ _ h1
  | sq c t T g ro =>
    obtain⟨wd,inf,_,_,_,i⟩:=SqR.ex h;rcases i with⟨a,_⟩|⟨_,a⟩
    .rw[d]at a;cases a
    .obtain⟨C,fz,u,rows,lg,h1,_⟩:=a;exact key _ _ h1
  | frz=>cases h1
 .exact key _ _ (h.2 k o h1)
def HR.atl{P:Program}{base:Nat}{ρ:Ren}{H:Hp AB}{w:World}(h:HR P base ρ H w){id:Nat}{l:Loc}(c:ρ id=some l){ab:AB}(f:Hp.get H id=some ab) :
  BR P ρ ab l w/\(ab.rw=true->l.on=true->base<=l.blk/\∀ a,a<=H7->∀ b l2,Hp.get H a=some b->ρ a=some l2->Tc b l2 l.blk->a=id):=by
 obtain⟨l0,h1,d,h3⟩:=h.at_ id (h.dom id l c) ab f;rw[c]at h1
 have:=A8 h1;subst this;exact⟨d,h3⟩
def HR.sub{P:Program}{base:Nat}{ρ:Ren}{H o:Hp AB}{w:World}(h:HR P base ρ H w)(p:∀ id,id<=H7->∀ ab,Hp.get o id=some ab->Hp.get H id=some ab):HR P base ρ o w :=
 ⟨h.dom,fun id hid ab j=>let ⟨l,a,b,c⟩:=h.at_ id hid ab (p id hid ab j);⟨l,a,b,fun hr n=>⟨(c hr n).1,fun i d f l2 g=>(c hr n).2 i d f l2 (p i d f g)⟩⟩⟩
def AB.fr:AB->Bool
 | .cells _ _ ro=>!ro
 | _=>true
def AB.rw_fr{ab:AB}(h:ab.rw=true):ab.fr=true:=by
 cases ab<;>first|rfl|exact h
def Tf(ab:AB)(l:Loc)(k:Nat):Prop:=ab.fr=true/\Tc ab l k
def Fp(ρ:Ren)(H:Hp AB)(k:Nat):Prop:=∃ id ab l,id<=H7/\Hp.get H id=some ab/\ρ id=some l/\Tf ab l k
structure St (P:Program) (base:Nat) (ρ ρ':Ren) (m m':Mem) (w w':World):Prop where
 ext:∀ b l,ρ b=some l->ρ' b=some l
 new:∀ b l,ρ' b=some l->ρ b=none->m.n<=b/\b<m'.n
 nle:m.n<=m'.n
 hle:m.hi<=m'.hi
 nhi:m.n<=m.hi->m'.n<=m'.hi
 hr:HR P base ρ' m'.H w'
 wsub:∀ b ∈ m.W,b ∈ m'.W
 wrw:∀ b ∈ m'.W,b ∉ m.W->∀ l,ρ b=some l->∃ ab,Hp.get m.H b=some ab/\ab.rw=true
 keep:∀ k,k<w.heap.size->(∀ b ∈ m'.W,∀ l,ρ b=some l->l.on=true->l.blk≠k)->w'.heap[k]? = w.heap[k]?
 size:w.heap.size<=w'.heap.size
 os:w'.os=w.os/\w'.tape=w.tape/\w'.output=w.output
 blk:∀ b l,ρ' b=some l->ρ b=none->l.on=true->w.heap.size<=l.blk∨∃ b0 ∈ m'.W,∃ l0,ρ b0=some l0/\l0.on=true/\l0.blk=l.blk
 same:∀ id,id<=H7->id ∉ m'.W->(id<m.n∨m'.hi<=id)->Hp.get m'.H id=Hp.get m.H id
 tch:∀ k,Fp ρ' m'.H k->w.heap.size<=k∨Fp ρ m.H k
def K2(ρ:Ren)(n hi:Nat):Prop:=∀ b,n<=b->b<hi->ρ b=none
def St.refl{P:Program}{base:Nat}{ρ:Ren}{m:Mem}{w:World}(h:HR P base ρ m.H w):St P base ρ ρ m m w w :=
 ⟨fun _ _ h=>h,fun b l h1 a=>(by rw[h1]at a;cases a),A6 _,A6 _,fun h=>h,h,fun _ h=>h,fun b h1 a=>absurd h1 a,fun _ _ _=>rfl,A6 _,⟨rfl,rfl,rfl⟩,fun b l h1 a=>(by rw[h1]at a;cases a),fun _ _ _ _=>rfl,fun _ h=>.inr h⟩
def St.trans{P:Program}{base:Nat}{ρ j ρ2:Ren}{m m1 m2:Mem}{w w1 w2:World}(G:K2 ρ m.n m2.hi)(a:St P base ρ j m m1 w w1)(c:St P base j ρ2 m1 m2 w1 w2):St P base ρ ρ2 m m2 w w2:=by
 refine⟨fun b l h=>c.ext b l (a.ext b l h),fun b l h1 i=>?_,B9 a.nle c.nle,B9 a.hle c.hle,fun h=>c.nhi (a.nhi h),c.hr,fun b h=>c.wsub b (a.wsub b h),fun b h1 i l f=>?_,fun k v C=>?_,B9 a.size c.size,⟨c.os.1.trans a.os.1,c.os.2.1.trans a.os.2.1,c.os.2.2.trans a.os.2.2⟩,fun b l h1 i s=>?_,fun id hid h1 i=>?_,fun k v=>(c.tch k v).elim (fun h=>.inl (B9 a.size h)) (a.tch k)⟩
 .cases h:j b with
  | some l1=>exact⟨(a.new b l1 h i).1,D3 (a.new b l1 h i).2 c.nle⟩
  | none=>exact⟨B9 a.nle (c.new b l h1 h).1,(c.new b l h1 h).2⟩
 .by_cases h:b ∈ m1.W
  .exact a.wrw b h i l f
  .obtain⟨ab,h3,H⟩:=c.wrw b h1 h l (a.ext b l f);refine⟨ab,?_,H⟩;rw[<- a.same b (a.hr.dom b l (a.ext b l f)) h ?_]
   .exact h3
   .rcases F8 b m.n with B|D
    .exact .inl B
    .refine .inr ?_;rcases F8 b m2.hi with d|d
     .rw[G b D d]at f;cases f
     .exact B9 c.hle d
 .have h1:w1.heap[k]? = w.heap[k]? := a.keep k v fun b r l f u=>C b (c.wsub b r) l f u
  rw[<- h1];refine c.keep k (D3 v a.size) fun b r l f u=>?_
  cases h:ρ b with
  | some l0 =>
    have:=a.ext b l0 h;rw[this]at f;have f:=A8 f;subst f;exact C b r l0 h u
  | none =>
    rcases a.blk b l f h u with d|⟨g,d,l0,p,o,q⟩
    .omega
    .rw[<- q];exact C g (c.wsub g d) l0 p o
 .cases h:j b with
  | some l1 =>
    have:=c.ext b l1 h;rw[this]at h1;have h1:=A8 h1;subst h1;rcases a.blk b l1 h i s with d|⟨g,d,l0,p,q⟩
    .exact .inl d
    .exact .inr ⟨g,c.wsub g d,l0,p,q⟩
  | none =>
    rcases c.blk b l h1 h s with d|⟨g,d,l0,p,o,q⟩
    .exact .inl (B9 a.size d)
    .cases z:ρ g with
     | some l1 =>
       have:=a.ext g l1 z;rw[this]at p;have p:=A8 p;subst p;exact .inr ⟨g,d,l1,z,o,q⟩
     | none =>
       rcases a.blk g l0 p z o with x|⟨F,x,l1,E,t,A⟩
       .exact .inl (q▸x)
       .exact .inr ⟨F,c.wsub F x,l1,E,t,A.trans q⟩
 .have h3:id ∉ m1.W:=fun h=>h1 (c.wsub id h)
  rw[c.same id hid h1 (i.imp (fun h=>D3 h a.nle) fun h=>h),a.same id hid h3 (i.imp (fun h=>h) fun h=>B9 c.hle h)]
end
section
open Go
variable [Ora]
def B6{a b:Bool}(h:(a && b)=true):a=true/\b=true:=by simpa using h
theorem A3{α:Type}{c:Bool}{x:Option α}{y:α}(h:(bif c then x else none)=some y):c=true/\x=some y:=by
 cases c
 .simp at h
 .exact⟨rfl,h⟩
def L5{m:Mem}{ab:AB}{v:Value}{m':Mem}(h:Z4 m ab k=some (v,m')):m.n<=H7/\v=k m.n/\m'=⟨m.H.set m.n (some ab),m.n+1,m.W,upN m.hi m.n,m.lg⟩:=by
 obtain⟨H,n,W,hi,lg⟩:=m;simp only[Z4,E5,eP]at h;obtain⟨h1,a⟩:=A3 h;simp only[D2,M0]at a;exact⟨by simpa using h1,a.1.symm,a.2.symm⟩
def U4{m:Mem}{id:Nat}{ab:AB}{m':Mem}(h:cK m id ab=some m'):id<=H7/\m'=⟨m.H.set id (some ab),m.n,id::m.W,m.hi,m.lg⟩:=by
 obtain⟨H,n,W,hi,lg⟩:=m;simp only[cK,E5,eP]at h;obtain⟨h1,a⟩:=A3 h;simp only[D2]at a;exact⟨by simpa using h1,a.symm⟩
def m6(m:Mem)(id:Nat):jZ m id=⟨m.H.set id none,m.n,id::m.W,m.hi,m.lg⟩:=by
 obtain⟨H,n,W,hi,lg⟩:=m;simp only[jZ,E5,eP]
def K9(hi n:Nat):hi<=upN hi n/\n<upN hi n:=by
 unfold upN;cases h:Nat.blt n hi with
 | true=>have:=A1 h;simp;omega
 | false =>
   have:¬ n<hi:=fun a=>by rw[show Nat.blt n hi=true from C5 a]at h;cases h
   simp;omega
def upd(ρ:Ren)(n:Nat)(l:Loc):Ren:=fun b=>if b=n then some l else ρ b
def W7{ρ:Ren}{n:Nat}{l:Loc}(h:ρ n=none):∀ b k,ρ b=some k->upd ρ n l b=some k:=fun b k a=>by
 unfold upd;by_cases e:b=n
 .subst e;rw[h]at a;cases a
 .rw[A7 e];exact a
def L7(ρ:Ren)(n:Nat)(l:Loc):upd ρ n l n=some l:=by simp[upd]
def U3{ρ:Ren}{n:Nat}{l:Loc}{b:Nat}{k:Loc}(h:upd ρ n l b=some k)(h0:ρ b=none):b=n/\k=l:=by
 unfold upd at h;by_cases e:b=n
 .rw[A9 e]at h;exact⟨e,(A8 h).symm⟩
 .rw[A7 e]at h;rw[h0]at h;cases h
section
variable {P:Program} {base:Nat} {ρ:Ren} {m m':Mem} {w w':World}
def St.alloc{ab:AB}{v:Value}{o:Obj}{l:Loc}(h:HR P base ρ m.H w)(D:base<=w.heap.size)(G:Z4 m ab k=some (v,m'))(E:K2 ρ m.n m'.hi)
  (t:w'.os=w.os/\w'.tape=w.tape/\w'.output=w.output) (hh:w'.heap=w.heap.push o) (I:l.blk=w.heap.size) (B:BR P (upd ρ m.n l) ab l w') (A:ab≠.frz:=by intro h;cases h) :
  v=k m.n/\upd ρ m.n l m.n=some l/\St P base ρ (upd ρ m.n l) m m' w w':=by
 obtain⟨hle,hv,rfl⟩:=L5 G;have p:ρ m.n=none:=E m.n (A6 _) (K9 _ _).2;have d:=W7 (l:=l) p;have x:∀ k,Tc ab l k->w.heap.size<=k:=fun k j=>by
  rcases j with⟨_,_,rfl⟩|⟨rfl,_⟩
  .omega
  .exact absurd rfl A
 have hold:∀ k,k<w.heap.size->w'.heap[k]? = w.heap[k]? := fun k j=>by rw[hh,j8];rw[A7 A2]
 refine⟨hv,L7 _ _ _,d,fun b k h1 c=>?_,by simp,(K9 _ _).1,fun _=>Y7 (K9 _ _).2,⟨fun b k j=>?_,fun id hid a f=>?_⟩,fun b D=>D,fun b h1 c=>absurd h1 c,fun k j _=>hold k j,by rw[hh];simp,t,fun b k h1 c _=>?_,fun id hid h1 c=>?_,fun k ⟨id,a,q,hid,f,r,C⟩=>?_⟩
 .obtain⟨rfl,rfl⟩:=U3 h1 c;exact⟨A6 _,J3 _⟩
 .cases h0:ρ b with
  | some z =>
    rw[d b z h0]at j
    have:=A8 j;subst this;exact h.dom b z h0
  | none=>obtain⟨rfl,rfl⟩:=U3 j h0;exact hle
 .rw[F0 _ _ _ _ hle hid]at f;by_cases e:id=m.n
  .rw[A9 e]at f;have f:=A8 f;subst f;subst e;refine⟨l,L7 _ _ _,B,fun _ _=>⟨A2,fun i g u l2 c h3 F=>?_⟩⟩;cases h0:ρ i with
   | some z =>
     rw[d i z h0]at h3
     have:=A8 h3;subst this;rw[F0 _ _ _ _ hle g]at c;by_cases s:i=m.n
     .exact s
     .rw[A7 s]at c
      have:=(h.atl h0 c).1.tc F;omega
   | none=>exact(U3 h3 h0).1
  .rw[A7 e]at f;obtain⟨l0,h1,c,h3⟩:=h.at_ id hid a f;refine⟨l0,d _ _ h1,c.mono d (fun k j=>hold _ (c.tc j)),fun hr t=>⟨(h3 hr t).1,fun i g u l2 g1 g2 g3=>?_⟩⟩;rw[F0 _ _ _ _ hle g]at g1;by_cases s:i=m.n
   .subst s;rw[L7]at g2
    have:=A8 g2;subst this;have g1:=A8 (by simpa using g1);subst g1
    have:=c.tc (.inl ⟨AB.rw_on hr,t,rfl⟩)
    have:=x _ g3;omega
   .rw[A7 s]at g1;unfold upd at g2;rw[A7 s]at g2;exact(h3 hr t).2 i g u l2 g1 g2 g3
 .obtain⟨rfl,rfl⟩:=U3 h1 c;exact .inl A2
 .rw[F0 _ _ _ _ hle hid,A7];intro e;subst e;rcases c with c|c
  .omega
  .have c:upN m.hi m.n<=m.n:=c
   have:=(K9 m.hi m.n).2;omega
 .have f:Hp.get (m.H.set m.n (some ab)) id=some a:=f;rw[F0 _ _ _ _ hle hid]at f;by_cases e:id=m.n
  .subst e;rw[A9 rfl]at f;have f:=A8 f;subst f;rw[L7]at r;have r:=A8 r;subst r;exact .inl (x k C.2)
  .rw[A7 e]at f;unfold upd at r;rw[A7 e]at r;exact .inr ⟨id,a,q,hid,f,r,C⟩
def St.write{ab ab':AB}{id:Nat}{l:Loc}(h:HR P base ρ m.H w)(L:cK m id ab'=some m')(C:Hp.get m.H id=some ab)(j:ab.rw=true)(r:ρ id=some l)(t:l.on=true)
  (J:w'.os=w.os/\w'.tape=w.tape/\w'.output=w.output) (D:w'.heap.size=w.heap.size) (B:∀ k,k≠l.blk->w'.heap[k]? = w.heap[k]?) (G:BR P ρ ab' l w') (z:ab'≠.frz:=by intro h;cases h):St P base ρ ρ m m' w w':=by
 have u:∀ k,Tc ab' l k->Tc ab l k∨k=l.blk:=fun k B=>by
  rcases B with⟨_,_,rfl⟩|⟨rfl,_⟩
  .exact .inr rfl
  .exact absurd rfl z
 obtain⟨hle,rfl⟩:=U4 L;obtain⟨p,h3⟩:=h.atl r C;refine⟨fun _ _ h=>h,fun b k h1 p=>(by rw[h1]at p;cases p),A6 _,A6 _,fun h=>h,⟨h.dom,fun d c a g=>?_⟩,fun b G=>C4 _ G,fun b h1 p k o=>?_,fun k o E=>B k ?_,by rw[D];exact A6 _,J,fun b k h1 p=>(by rw[h1]at p;cases p),fun d c K M=>?_,fun k ⟨d,a,q,c,g,A,I⟩=>.inr ?_⟩
 .rw[F0 _ _ _ _ hle c]at g;by_cases e:d=id
  .rw[A9 e]at g;have g:=A8 g;subst g;subst e;refine⟨l,r,G,fun _ i=>⟨(h3 j i).1,fun n f s F g1 g2 g3=>?_⟩⟩;rw[F0 _ _ _ _ hle f]at g1;by_cases x:n=d
   .exact x
   .rw[A7 x]at g1;exact(h3 j i).2 n f s F g1 g2 g3
  .rw[A7 e]at g;obtain⟨l2,g1,g2,g3⟩:=h.at_ d c a g;have v:∀ k,Tc a l2 k->k≠l.blk:=fun k o hh=>e ((h3 j t).2 d c a l2 g g1 (hh▸o))
   refine⟨l2,g1,g2.mono (fun _ _ h=>h) (fun k o=>B _ (v k o)),fun hr i=>⟨(g3 hr i).1,fun n f s F f1 f2 f3=>?_⟩⟩;rw[F0 _ _ _ _ hle f]at f1;by_cases x:n=id
   .subst x;rw[r]at f2
    have:=A8 f2;subst this;have f1:=A8 (by simpa using f1);subst f1;rcases u _ f3 with f3|f3
    .exact(g3 hr i).2 n f ab l C r f3
    .exact absurd f3 (v _ (.inl ⟨AB.rw_on hr,i,rfl⟩))
   .rw[A7 x]at f1;exact(g3 hr i).2 n f s F f1 f2 f3
 .rcases B5.1 h1 with rfl|h1
  .exact⟨ab,C,j⟩
  .exact absurd h1 p
 .exact fun e=>E id B4 l r t e.symm
 .rw[F0 _ _ _ _ hle c,A7];intro e;subst e;exact K B4
 .have g:Hp.get (m.H.set id (some ab')) d=some a:=g;rw[F0 _ _ _ _ hle c]at g;by_cases e:d=id
  .subst e;rw[A9 rfl]at g;have g:=A8 g;subst g;rw[r]at A;have A:=A8 A;subst A;refine⟨d,ab,l,c,C,r,AB.rw_fr j,.inl ⟨AB.rw_on j,t,?_⟩⟩;rcases I.2 with⟨_,_,h⟩|⟨h,_⟩
   .exact h
   .exact absurd h z
  .rw[A7 e]at g;exact⟨d,a,q,c,g,A,I⟩
def jH{o n:Nat}{r:D0}(h:A1q cs o n=some r):r=(cs.drop o).take n/\r.length=n:=by
 unfold A1q at h;simp only at h;obtain⟨h1,a⟩:=A3 h;have a:=(A8 a).symm;subst a;exact⟨rfl,A0 h1⟩
theorem eB{C:V8}{cs:D0}{s:Nat}(h:∀ (i:Nat) (v:Value),cs[i]? = some v->∃ v',C[s+i]? = some v'/\VR ρ v v'):∃ cs',LR ρ cs cs'/\∀ (i:Nat) (v':Value),cs'[i]? = some v'->C[s+i]? = some v':=by
 induction cs generalizing s with
 | nil=>exact⟨[],.nil,fun i v' h=>by simp at h⟩
 | cons v r d =>
   obtain⟨v',h1,c⟩:=h 0 v rfl;obtain⟨r',h3,f⟩:=d (s:=s+1) fun i u hi=>by
    obtain⟨g,a,b⟩:=h (i+1) u (by simpa using hi);exact⟨g,by rw[show s+1+i=s+(i+1) by omega];exact a,b⟩
   refine⟨v'::r',.cons c h3,fun i u hi=>?_⟩;cases i with
   | zero=>simp at hi;subst hi;simpa using h1
   | succ i =>
     have:=f i u (by simpa using hi);rw[show s+(i+1)=s+1+i by omega];exact this
def d8{a:Addr}{n:Nat}{r:D0}{l:Loc}(h:HR P base ρ m.H w)(hr:t8 m a n=some r)(p:ρ a.block=some l) :
  ∃ r',LR ρ r r'/\r'.length=n/\(∀ (j:Nat) (v':Value),r'[j]? = some v'->w.cell? ⟨l.blk,a.off+l.sh+j,none⟩=some v'):=by
 unfold t8 at hr;split at hr
 .rename_i cs T ro b u;obtain⟨d,f⟩:=jH hr;obtain⟨⟨_,C,fz,x,o,h3,_⟩,_⟩:=h.atl p u;obtain⟨r',g,q⟩:=eB (ρ:=ρ) (C:=C) (cs:=r) (s:=l.sh+a.off) fun i v hi=>by
   have c:i<n:=by
    have:=(B0.1 hi).1;omega
   rw[d,E6 c,H9]at hi;obtain⟨v',g1,g2⟩:=h3 _ v hi;exact⟨v',by rw[show l.sh+a.off+i=l.sh+(a.off+i) by omega];exact g1,g2⟩
  refine⟨r',g,g.1▸f,fun j v' t=>?_⟩
  have:=q j v' t;simp[World.cell?,o,show a.off+l.sh+j=l.sh+a.off+j by omega,this]
 .cases hr
def K4.add_none'{b o i:Nat}:(Addr.mk b o none).add i=⟨b,o+i,none⟩:=by
 unfold Addr.add;split
 .rename_i h;subst h;rfl
 .rfl
def K4{b o:Nat}{r':D0}{n:Nat}(a:r'.length=n)(h:∀ (j:Nat) (v':Value),r'[j]? = some v'->w.cell? ⟨b,o+j,none⟩=some v'):(loadCells ⟨b,o,none⟩ n).run P w=.ok ⟨r'⟩ w:=by
 subst a
 have:=run_loadCells_list (P:=P) w ⟨b,o,none⟩ r' (fun j v c=>by rw[K4.add_none'];exact h j v c);exact this
def lT{a:Addr}{n:Nat}(b:r'.length=n)(h:∀ (j:Nat) (v':Value),r'[j]? = some v'->w.cell? (a.add j)=some v'):(loadCells a n).run P w=.ok ⟨r'⟩ w:=by
 subst b;exact run_loadCells_list (P:=P) w a r' h
def Z3:∀ (vs cs:List Value) (k:Nat),(cM cs k vs).length=cs.length
 | [],_,_=>rfl
 | v::r,cs,k=>by rw[cM,Z3 r];simp
def QX{cs cs':D0}(h:LR ρ cs cs'):∀ {vs a:D0} {k:Nat},LR ρ vs a->LR ρ (cM cs k vs) (cM cs' k a)
 | [],a,k,hv=>by rw[hv.nil_inv];exact h
 | v::r,a,k,hv=>by
   obtain⟨v',r',rfl,h1,b⟩:=hv.tail;simp only[cM];exact QX (h.set h1 k) b
def A3c{v v':Value}(h:VR ρ v v')(a:flat v=true):m9 v'=true:=by
 cases h with
 | hole h _=>have:=gY h;cases v'<;>first|rfl|cases this
 | junk h=>exact h (A0 a)
 | pure hp=>cases v<;>first|rfl|cases a|cases hp
 | ixp h c hi b hv=>subst hv;rfl
 | sdt h=>exact h.flat
 | _=>first|assumption|exact a|rfl
def GI:∀ {vs a:D0},LR ρ vs a->vs.all flat=true->a.all m9=true
 | [],a,h,_=>by rw[h.nil_inv];rfl
 | v::r,a,h,hf=>by
   obtain⟨v',r',rfl,h1,b⟩:=h.tail;simp only[cJ,G8]at hf ⊢;exact⟨A3c h1 hf.1,GI b hf.2⟩
def Z2{b o:Nat}{T:TypeId}{fz:Nat×Nat}:∀ (vs:List Value) (i:Nat) (C:Array Value) (w:World),w.heap[b]? = some (.cells C T fz)->vs.all m9=true->o+i+vs.length<=C.size ->
  (∀ i,i<C.size->¬ (fz.1<=i/\i<fz.2)) ->
  ∃ w',(storeCells ⟨b,o,none⟩ vs i).run P w=.ok () w'/\(w'.os=w.os/\w'.tape=w.tape/\w'.output=w.output)/\w'.heap.size=w.heap.size/\w'.heap[b]? = some (.cells ⟨cM C.toList (o+i) vs⟩ T fz)/\∀ k,k≠b->w'.heap[k]? = w.heap[k]?
 | [],i,C,w,h,_,_,_=>⟨w,rfl,⟨rfl,rfl,rfl⟩,rfl,h,fun _ _=>rfl⟩
 | v::r,i,C,w,h,h1,hl,hz=>by
   simp only[cJ,G8]at h1;simp only[E4]at hl;have a:o+i<C.size:=A2;have l:(w.setCell ⟨b,o+i,none⟩ v).heap[b]? = some (.cells (C.setIfInBounds (o+i) v) T fz):=by
    simp[World.setCell,G9,h]
   obtain⟨w',hr,n,f,p,j⟩:=Z2 (b:=b) (o:=o) (T:=T) (fz:=fz) r (i+1) (C.setIfInBounds (o+i) v) (w.setCell ⟨b,o+i,none⟩ v) l h1.2 (by simp;omega) (by simpa using hz);refine⟨w',?_,?_,?_,?_,fun k c=>?_⟩
   .have s:w.cell? ⟨b,o+i,none⟩=some C[o+i]:=by simp[World.cell?,h,a]
    have q:w.frozen? ⟨b,o+i,none⟩=false:=by
     have:=hz (o+i) a;simp only[World.frozen?,h];by_cases h1:fz.1<=o+i<;>by_cases g:o+i<fz.2<;>simp[h1,g]<;>exact absurd ⟨h1,g⟩ this
    have d:(store ((Addr.mk b o none).add i) v).run P w=.ok () (w.setCell ⟨b,o+i,none⟩ v):=by
     rw[K4.add_none'];unfold store;cases v<;>simp_all [Sem.run,m9]
    unfold storeCells;simp only[A4,d,Result.andThen];exact hr
   .simpa [World.setCell]using n
   .rw[f];simp[World.setCell]
   .rw[p];have:(C.setIfInBounds (o+i) v).toList=C.toList.set (o+i) v:=by simp
    rw[this];simp[cM,cI]
   .rw[j k c];simp only[World.setCell,G9];rw[A7 (fun e=>c e.symm)]
def lJ(vs:List Value):∀ (cs:List Value) (k i:Nat),k+vs.length<=cs.length->(cM cs k vs)[i]? = if k<=i/\i<k+vs.length then vs[i-k]? else cs[i]? := by
 induction vs with
 | nil=>intro cs k i h;simp[cM];intro h1 a;omega
 | cons v r b =>
   intro cs k i h;simp only[E4]at h ⊢;rw[cM,b (cs.set k v) (k+1) i (by simp;omega)];by_cases h1:k+1<=i/\i<k+1+r.length
   .rw[A9 h1,A9 A2,show i-k=(i-(k+1))+1 by omega];rfl
   .rw[A7 h1];by_cases a:i=k
    .subst a;rw[A9 A2,jP,R7 A2];rfl
    .rw[A7 A2,dA (fun e=>a e.symm)]
def pM{a:Addr}{vs c:D0}{l:Loc}(h:HR P base ρ m.H w)(hw:oJ m a vs=some m')(r:ρ a.block=some l)(hv:LR ρ vs c) :
  ∃ w',(storeCells ⟨l.blk,a.off+l.sh,none⟩ c).run P w=.ok () w'/\St P base ρ ρ m m' w w':=by
 unfold oJ at hw;split at hw
 .rename_i cs T q A;obtain⟨N,x⟩:=A3 hw;obtain⟨f,z⟩:=B6 N;have f:=A1 f;rw[I1]at x;obtain⟨⟨d,C,fz,R,B,h3,D⟩,Q⟩:=h.atl r A;obtain⟨rfl,F,L⟩:=D rfl;have n:∀ i,i<cs.length->l.sh+i<C.size:=fun i hi=>by
   obtain⟨v',g,_⟩:=h3 i cs[i] (A5 hi);exact(C7.1 g).1
  have hlen:c.length=vs.length:=hv.1.symm;by_cases I:vs.length=0
  .have O:vs=[]:=G0.1 I;have M:c=[]:=G0.1 A2;subst O;subst M;exact⟨w,rfl,St.write h x A rfl r d ⟨rfl,rfl,rfl⟩ rfl (fun _ _=>rfl) ⟨d,C,fz,_,B,by simpa [cM]using h3,D⟩⟩
  .have J:l.sh+(a.off+vs.length-1)<C.size:=n _ A2;obtain⟨w',hr,G,t,u,K⟩:=Z2 (P:=P) (b:=l.blk) (o:=a.off+l.sh) (fz:=fz) c 0 C w B (GI hv z) A2 F;refine⟨w',hr,St.write h x A rfl r d G t K ⟨d,_,fz,_,u,fun i v hi=>?_,fun _=>⟨rfl,F.sz (by simp[Z3]),by simpa [Z3]using L⟩⟩⟩;rw[lJ _ _ _ _ f]at hi;have E:C.toList.length=C.size:=by simp
   have s:∀ j,(cM C.toList (a.off+l.sh+0) c)[l.sh+j]? = if a.off<=j/\j<a.off+c.length then c[j-a.off]? else C.toList[l.sh+j]? := fun j=>by
    rw[lJ _ _ _ _ A2];by_cases p:a.off<=j/\j<a.off+c.length
    .rw[A9 p,A9 A2,show l.sh+j-(a.off+l.sh+0)=j-a.off by omega]
    .rw[A7 p,A7 A2]
   show ∃ v',(Array.mk (cM C.toList (a.off+l.sh+0) c))[l.sh+i]? = some v'/\_;simp only[I9,s];by_cases p:a.off<=i/\i<a.off+vs.length
   .rw[A9 p]at hi;rw[A9 A2];exact hv.get hi
   .rw[A7 p]at hi;rw[A7 A2];obtain⟨v',g1,g2⟩:=h3 i v hi;exact⟨v',by simpa using g1,g2⟩
 .cases hw
end
end
section
open Go
variable [Ora]
def VOk(P:Program)(base:Nat)(ρ:Ren)(m:Mem)(w:World)(s:Sem Value)(v:Value)(m':Mem):Prop :=
 ∃ v' a w',s.run P w=.ok v' w'/\VR a v v'/\St P base ρ a m m' w w'
def UOk(P:Program)(base:Nat)(ρ:Ren)(m:Mem)(w:World)(s:Sem Unit)(m':Mem):Prop :=
 ∃ a w',s.run P w=.ok () w'/\St P base ρ a m m' w w'
section
variable {P:Program} {base:Nat} {ρ:Ren} {m m':Mem} {w:World}
def VOk.same{s:Sem Value}{v v':Value}(h:HR P base ρ m.H w)(hr:s.run P w=.ok v' w)(hv:VR ρ v v'):VOk P base ρ m w s v m:=⟨v',ρ,w,hr,hv,.refl h⟩
theorem cP{b:Bool}{v':Value}(h:VR ρ (.bool b) v'):v'=.bool b:=by cases h;rfl
theorem J4{k:IntKind}{n:Int}{v':Value}(h:VR ρ (.int k n) v'):v'=.int k n:=by cases h;rfl
theorem U6{s:ByteArray}{v':Value}(h:VR ρ (.string s) v'):v'=.string s:=by cases h;rfl
theorem O6{a:Addr}{v':Value}(h:VR ρ (.pointer (some a)) v'):∃ l,ρ a.block=some l/\a.spot=none/\v'=.pointer (some ⟨l.blk,a.off+l.sh,none⟩):=by
 cases h with
 | pure hp=>simp[I4]at hp
 | ptr h=>exact⟨_,h,rfl,rfl⟩
def V5{cs:V8}{v':Value}(h:VR ρ (.agg cs) v'):∃ cs',v'=.agg ⟨cs'⟩/\LR ρ cs.toList cs':=by
 cases h with
 | pure hp=>simp[I4]at hp
 | agg a h=>exact⟨_,rfl,a,h⟩
def tJ{cs:V8}{v':Value}(h:VR ρ (.tuple cs) v'):∃ cs',v'=.tuple ⟨cs'⟩/\LR ρ cs.toList cs':=by
 cases h with
 | pure hp=>simp[I4]at hp
 | tuple a h=>exact⟨_,rfl,a,h⟩
def V1{t:TypeId}{i:TypeInfo}(h:P.info? t=some i)(w:World):(typeInfo t).run P w=.ok i w:=by simp[typeInfo,A4,run_program,Result.andThen,h]
def K8{t:TypeId}{n:Nat}(h:H1 P t=some n)(w:World):(sizeOf t).run P w=.ok n w:=by
 unfold H1 at h;split at h
 .rename_i i hi
  have:=A8 h;subst this;simp[sizeOf,A4,V1 hi,Result.andThen]
 .cases h
def C9{t:TypeId}{d:TypeDesc}(h:P.underlying t=some d)(w:World):(underlying t).run P w=.ok d w:=by simp[underlying,A4,run_program,Result.andThen,h]
def cF{t:TypeId}{b:Bool}(h:aR P t=some b)(w:World):(isAgg t).run P w=.ok b w:=by
 unfold aR at h;cases hu:P.underlying t with
 | none=>rw[hu]at h;cases h
 | some d =>
   rw[hu]at h;simp only[isAgg,A4,C9 hu,Result.andThen];cases d<;>cases h<;>rfl
def wR{t:TypeId}{z:Value}(h:fQ P t=some z):∃ i,P.info? t=some i/\i.zero=some z/\QZ z=true:=by
 unfold fQ at h;split at h
 .rename_i i hi;split at h
  .rename_i v hv;obtain⟨h1,a⟩:=A3 h
   have:=A8 a;subst this;exact⟨i,hi,hv,h1⟩
  .cases h
 .cases h
def aJ{t:TypeId}{z:Value}(h:fQ P t=some z)(w:World):(zeroValue t).run P w=.ok z w:=by
 obtain⟨i,hi,a,_⟩:=wR h;simp[zeroValue,A4,V1 hi,Result.andThen,a]
def pL{t:TypeId}{z:Value}(h:fQ P t=some z):LR ρ z.cells.toList z.cells.toList:=by
 obtain⟨i,hi,a,hp⟩:=wR h;exact(VR.ofC hp).cells (by cases z<;>first|rfl|cases hp)
def KA{t:TypeId}{a:Addr}{v:Value}{l:Loc}(h:HR P base ρ m.H w)(hv:RQ P m t a=some v)(d:ρ a.block=some l) :
  ∃ v',(loadVar t ⟨l.blk,a.off+l.sh,none⟩).run P w=.ok v' w/\VR ρ v v':=by
 unfold RQ at hv;split at hv
 .rename_i b;split at hv
  .rename_i n g;split at hv
   .rename_i cs hr
    have:=A8 hv;subst this;obtain⟨r',h1,c,h3⟩:=d8 h hr d;refine⟨.agg ⟨r'⟩,?_,.agg h1.1 h1.2⟩;simp[loadVar,A4,cF b,K8 g,Result.andThen,K4 c h3]
   .cases hv
  .cases hv
 .rename_i b;split at hv
  .rename_i u r hr
   have:=A8 hv;subst this;obtain⟨r',h1,c,h3⟩:=d8 h hr d;obtain⟨v',i,rfl,f,_⟩:=h1.tail;refine⟨v',?_,f⟩
   have:=h3 0 v' rfl;simp[loadVar,A4,cF b,Result.andThen,run_load,show w.cell? ⟨l.blk,a.off+l.sh,none⟩=some v' from by simpa using this]
  .cases hv
 .cases hv
def TW{t:TypeId}{a:Addr}{v v':Value}{l:Loc}(h:HR P base ρ m.H w)(b:xB P m t a v=some m')(g:ρ a.block=some l)(hv:VR ρ v v') :
  UOk P base ρ m w (storeVar t ⟨l.blk,a.off+l.sh,none⟩ v') m':=by
 unfold xB at b;split at b
 .rename_i n j;obtain⟨h1,f⟩:=A3 b;obtain⟨h1,i⟩:=B6 h1;have h1:=A0 h1;have d:=hv.cells (by simpa using i);obtain⟨w',hr,c⟩:=pM h f g d;refine⟨ρ,w',?_,c⟩;have e:v'.cells.size=n:=by
   have:=d.1;simp at this;omega
  simp[storeVar,A4,K8 j,Result.andThen,e,hr]
 .cases b
def hZ{t:TypeId}{v:Value}(h:rE P t cs off=some v)(d:LR ρ cs cs')(w:World):∃ v',(part t ⟨cs'⟩ off).run P w=.ok v' w/\VR ρ v v':=by
 unfold rE at h;split at h
 .rename_i b;split at h
  .rename_i n f;split at h
   .rename_i r hr
    have:=A8 h;subst this;obtain⟨h1,c⟩:=jH hr;have a:=(d.drop off).take n;rw[<- h1]at a;refine⟨.agg ⟨(cs'.drop off).take n⟩,?_,.agg a.1 a.2⟩;simp[part,A4,cF b,K8 f,Result.andThen,List.extract]
   .cases h
  .cases h
 .rename_i b;obtain⟨v',h1,c⟩:=d.get h;refine⟨v',?_,c⟩;simp[part,A4,cF b,Result.andThen,h1]
 .cases h
set_option maxHeartbeats 1000000 in
def BU{s:Nat}(h:H1 P e=some s):∃ i,P.info? e=some i/\i.size=s:=by
 unfold H1 at h;cases hi:P.info? e with
 | none=>rw[hi]at h;cases h
 | some i=>rw[hi]at h;exact⟨i,rfl,A8 h⟩
def fC{d:Nat}{e:TypeId}{s:Nat}{xs ys:V8}:∀ (l:List Nat),Op.eqItems d e s xs ys l=Op.eqFields d xs ys (l.map (A4I e s))
 | []=>rfl
 | i::l=>by
   rw[C3,Op.eqItems,Op.eqFields,fC l];have:(A4I e s i).name ≠ "_":=by show "x" ≠ "_";decide
   rw[A9 this];rfl
mutual
def GO:∀ (d:Nat) (t:TypeId) (x y x' y':Value) (b:Bool),eqM P d t x y=some b->VR ρ x x'->VR ρ y y'->∀ (n:Nat),d<=n->∀ w:World,(Op.equalIn n t x' y').run P w=.ok b w
 | 0,_,_,_,_,_,_,h,_,_,_,_,_=>by simp[eqM]at h
 | d+1,t,x,y,x',y',b,h,hx,hy,n,hn,w=>by
   obtain⟨n,rfl⟩:∃ k,n=k+1:=⟨n-1,A2⟩;have hn':d<=n:=A2;unfold eqM at h;split at h
   .rename_i hu;cases cP hx;cases cP hy;cases h;simp[Op.equalIn,A4,C9 hu,Result.andThen]
   .rename_i hu;cases J4 hx;cases J4 hy;obtain⟨h1,h2⟩:=A3 h;cases h2;have h1:=G7 h1;simp[Op.equalIn,A4,C9 hu,Result.andThen,h1]
   .rename_i hu;cases U6 hx;cases U6 hy;cases h;rw[<- ByteArray.toList_eq,<- ByteArray.toList_eq];exact run_equalIn_string (P:=P) w n t _ _ hu
   .rename_i hu;cases h;cases hx with|pure _=>?_
    cases hy with
    | pure _=>rename_i p _;cases p<;>simp[Op.equalIn,A4,C9 hu,Result.andThen]
    | ptr h=>simp[Op.equalIn,A4,C9 hu,Result.andThen]
   .rename_i hu;cases h;cases hy with|pure _=>?_
    obtain⟨l,_,_,rfl⟩:=O6 hx;simp[Op.equalIn,A4,C9 hu,Result.andThen]
   .rename_i hu;cases h;cases hx;cases hy;simp[Op.equalIn,A4,C9 hu,Result.andThen]
   .rename_i hu;cases h;cases hx;cases hy with
    | pure hp=>simp[I4]at hp
    | iface h=>simp[Op.equalIn,A4,C9 hu,Result.andThen]
   .rename_i hu;cases h;cases hy;cases hx with
    | pure hp=>simp[I4]at hp
    | iface h=>simp[Op.equalIn,A4,C9 hu,Result.andThen]
   .rename_i tx vx ty vy hu;cases hx with|pure hp=>simp[I4]at hp|iface hx=>?_
    cases hy with|pure hp=>simp[I4]at hp|iface hy=>?_
    cases ht:Nat.beq tx ty with
    | false =>
      rw[ht]at h;cases h;have:tx≠ty:=fun e=>by subst e;simp at ht
      simp[Op.equalIn,A4,C9 hu,Result.andThen,this]
    | true =>
      rw[ht]at h
      have:=A0 ht;subst this;simp only[E3]at h;split at h
      .rename_i i hi;obtain⟨h1,h2⟩:=A3 h;have ih:=GO d tx vx vy _ _ b h2 hx hy n hn' w;simp[Op.equalIn,A4,C9 hu,Result.andThen,V1 hi,h1,ih]
      .cases h
   .rename_i hu;cases h;cases hx with|pure _=>?_
    cases hy with
    | pure hp=>rename_i p _ _ _;cases p<;>simp[Op.equalIn,A4,C9 hu,Result.andThen]
    | sl h hm=>simp[Op.equalIn,A4,C9 hu,Result.andThen]
    | op h hm hn hc=>simp[Op.equalIn,A4,C9 hu,Result.andThen]
    | opE hs=>simp[Op.equalIn,A4,C9 hu,Result.andThen]
   .rename_i hu;cases h;cases hy with|pure _=>?_
    cases hx with
    | pure hp=>simp[I4]at hp
    | sl h hm=>simp[Op.equalIn,A4,C9 hu,Result.andThen]
    | op h hm hn hc=>simp[Op.equalIn,A4,C9 hu,Result.andThen]
    | opE hs=>simp[Op.equalIn,A4,C9 hu,Result.andThen]
   .rename_i hu;cases h;cases hx with|pure _=>?_
    cases hy with
    | pure _=>rename_i p _;cases p<;>simp[Op.equalIn,A4,C9 hu,Result.andThen]
    | map h=>simp[Op.equalIn,A4,C9 hu,Result.andThen]
   .rename_i hu;cases h;cases hx;cases hy;simp[Op.equalIn,A4,C9 hu,Result.andThen]
   .rename_i hu;cases h;cases hx;cases hy with
    | pure hp=>simp[I4]at hp
    | func _ _ _ _=>simp[Op.equalIn,A4,C9 hu,Result.andThen]
   .rename_i hu;cases h;cases hy;cases hx with
    | pure hp=>simp[I4]at hp
    | func _ _ _ _=>simp[Op.equalIn,A4,C9 hu,Result.andThen]
   .rename_i fs xs ys hu;cases hs:P.stoodInHeld t with
    | true=>rw[hs]at h;cases h
    | false =>
      rw[hs]at h;obtain⟨xs',rfl,hx1⟩:=V5 hx;obtain⟨ys',rfl,hy1⟩:=V5 hy;have hf:P.fieldsOf t=fs:=by simp[Program.fieldsOf,hu]
      rw[run_equalIn_struct (P:=P) w n t _ _ (by rw[hf];exact hu) hs,hf];exact PA d fs.toList xs.toList ys.toList xs' ys' b h hx1 hy1 n hn' w
   .rename_i k e xs ys hu;split at h
    .rename_i s hs;obtain⟨xs',rfl,hx1⟩:=V5 hx;obtain⟨ys',rfl,hy1⟩:=V5 hy;obtain⟨i,hi,rfl⟩:=BU hs;rw[run_equalIn_array (P:=P) (w:=w) n _ _ hu hi,show P.cellsOf e=i.size by simp[Program.cellsOf,hi],fC];exact PA d _ xs.toList ys.toList xs' ys' b h hx1 hy1 n hn' w
    .cases h
   .cases h
def PA:∀ (d:Nat) (fs:List Field) (xs ys xs' ys':List Value) (b:Bool),eqF P d fs xs ys=some b->LR ρ xs xs'->LR ρ ys ys'->∀ (n:Nat),d<=n->∀ w:World,(Op.eqFields n ⟨xs'⟩ ⟨ys'⟩ fs).run P w=.ok b w
 | 0,_,_,_,_,_,_,h,_,_,_,_,_=>by simp[eqF]at h
 | d+1,[],_,_,_,_,_,h,_,_,_,_,_=>by
   simp only[eqF,D2]at h;subst h;simp[Op.eqFields]
 | d+1,f::fs,xs,ys,xs',ys',b,h,hx,hy,n,hn,w=>by
   unfold eqF at h;cases hnm:f.name == "_" with
   | true=>rw[hnm]at h;cases h
   | false =>
     rw[hnm]at h;simp only[D6]at h;have hn':f.name ≠ "_":=by simpa using hnm
     split at h
     .rename_i x y h1 h2;obtain⟨x',g1,g2⟩:=hZ h1 hx w;obtain⟨y',g3,g4⟩:=hZ h2 hy w;split at h
      .rename_i he;have ih:=GO d f.type x y x' y' true he g2 g4 n A2 w;have ih2:=PA d fs xs ys xs' ys' b h hx hy n A2 w;unfold Op.eqFields;rw[A9 hn'];simp[A4,g1,g3,Result.andThen,ih,ih2]
      .rename_i he;cases h;have ih:=GO d f.type x y x' y' false he g2 g4 n A2 w;unfold Op.eqFields;rw[A9 hn'];simp[A4,g1,g3,Result.andThen,ih]
      .cases h
     .cases h
end
end
end
section
open Go
def pP(k:IntKind)(m:Nat)(h:m<=MV k):k.wrap (.ofNat m)=.ofNat m:=by
 cases k<;>simp only[MV]at h<;>simp only[IntKind.wrap,IntKind.bits,IntKind.signed,Nat.reduceSub]<;>simp<;>omega
def kS(k:IntKind)(n:Int):BK k n=k.wrap n:=by
 unfold BK;cases n with
 | ofNat m =>
   simp only;cases h:Nat.ble m (MV k)with
   | true=>rw[pP k m (A1 h)];rfl
   | false=>rfl
 | negSucc m=>rfl
def TO(a b:Int):B0Y a b=a+b:=by cases a<;>cases b<;>rfl
def RK(a b:Int):A9E a b=a*b:=by cases a<;>cases b<;>rfl
def QC(a b:Int):A65 a b=a-b:=by
 cases a<;>cases b<;>try rfl
 rename_i m n;simp only[A65];cases h:Nat.ble n m with
 | true =>
   have:=A1 h;simp only[E3];show Int.ofNat (m-n)=_;have e:(Int.ofNat (m-n))=(m:Int)-(n:Int):=by simp[Int.ofNat_sub this]
   exact e
 | false=>rfl
def FM(a b:Int):ltF a b=decide (a<b):=by
 cases a with
 | ofNat m=>cases b with
   | ofNat n =>
     simp only[ltF];rw[K1];simp[Nat.blt,pJ];omega
   | negSucc n=>simp only[ltF];symm;simp;omega
 | negSucc m=>cases b with
   | ofNat n=>simp only[ltF];symm;simp;omega
   | negSucc n =>
     simp only[ltF];rw[K1];simp[Nat.blt,pJ];omega
def OI(a b:Int):leF a b=decide (a<=b):=by
 cases a with
 | ofNat m=>cases b with
   | ofNat n=>simp only[leF];rw[K1];simp[pJ]
   | negSucc n=>simp only[leF];symm;simp;omega
 | negSucc m=>cases b with
   | ofNat n=>simp only[leF];symm;simp;omega
   | negSucc n=>simp only[leF];rw[K1];simp[pJ];omega
def cH(a b:Int):BG a b=(a == b):=by
 cases a<;>cases b<;>simp only[BG]<;>rw[K1]<;>simp
 omega
def hO{k j:IntKind}(h:uH k j=true):k=j:=by cases k<;>cases j<;>first|rfl|cases h
variable [Ora]
section
variable {P:Program} {base:Nat} {ρ:Ren} {m m':Mem} {w:World}
def aV{op:BinOp}{k:IntKind}{a b:Int}{v:Value}(h:AF op k a b=some v)(w:World):(Op.intBits op k a b).run P w=.ok v w/\I4 v=true:=by
 unfold AF at h;split at h<;>cases h<;>exact⟨rfl,rfl⟩
def A3W{op:BinOp}{k:IntKind}{a b:Int}{t:TypeId}{v:Value}(d:iE op=none)(h:kP op k a b=some v)(w:World):(binOp op t (.int k a) (.int k b)).run P w=.ok v w/\I4 v=true:=by
 unfold kP at h;cases op<;>simp only[iE]at d<;>try cases d
 all_goals simp only[aP,kS,TO,QC,RK,FM,OI,cH]at h
 case quo =>
  cases c:(b == 0)<;>rw[c]at h<;>cases h
  have:b≠0:=by simpa using c
  exact⟨by simp[binOp,Op.intDiv,this],rfl⟩
 case rem =>
  cases c:(b == 0)<;>rw[c]at h<;>cases h
  have:b≠0:=by simpa using c
  exact⟨by simp[binOp,Op.intDiv,this],rfl⟩
 case and=>exact⟨by simpa [binOp]using(aV h w).1,(aV (P:=P) h w).2⟩
 case or=>exact⟨by simpa [binOp]using(aV h w).1,(aV (P:=P) h w).2⟩
 case xor=>exact⟨by simpa [binOp]using(aV h w).1,(aV (P:=P) h w).2⟩
 case andNot=>exact⟨by simpa [binOp]using(aV h w).1,(aV (P:=P) h w).2⟩
 all_goals
  cases h;refine⟨?_,rfl⟩;simp only[binOp,Op.intCmp,Op.intArith,ne_eq,not_true,if_false];rfl
def A0O:∀ a b:List UInt8,ltL a b=Op.bytesLess a b
 | [],[]=>rfl
 | _::_,[]=>rfl
 | [],_::_=>rfl
 | a::x,b::y=>by simp[ltL,Op.bytesLess,A0O x y]
def GX(a b:ByteArray):a++b=⟨⟨a.data.toList++b.data.toList⟩⟩:=by
 have h:(a++b).data=⟨a.data.toList++b.data.toList⟩:=by
  rw[ByteArray.data_append];apply J1;simp
 cases c:a++b with
 | mk d=>rw[c]at h;simp only at h;rw[h]
def A2j{op:BinOp}{a b:ByteArray}{t:TypeId}{v:Value}(h:A2k op a b=some v)(w:World):(binOp op t (.string a) (.string b)).run P w=.ok v w/\I4 v=true:=by
 unfold A2k at h;split at h
 .obtain⟨h1,c⟩:=A3 h;rw[I1]at c;cases c;refine⟨?_,rfl⟩;have h1:=A1 h1;have:¬ (((a.size+b.size:Nat):Int)>IntKind.i64.max):=by simp[IntKind.max,IntKind.bits,IntKind.signed];omega
  simp only[binOp,Op.stringOp,A7 this,GX];rfl
 all_goals first
  | (cases h;refine⟨?_,rfl⟩;simp only[binOp,Op.stringOp,ByteArray.toList_eq,A0O];rfl)
  | cases h
def xJ:Value->Bool
 | .int _ _|.bool _|.string _=>true
 | _=>false
def mU{u:U}{v:Value}(h:toV u=some v):xJ v=true:=by cases u<;>cases h<;>rfl
def A3U:Value->Bool
 | .complex _ _ _=>true
 | .func (.yield _) _ _=>true
 | _=>false
def A1d{d:Nat}{t:TypeId}{a b:Value}{r:Bool}(h:eqM P d t a b=some r):A3U a=false/\A3U b=false:=by
 cases d with
 | zero=>simp[eqM]at h
 | succ d =>
   unfold eqM at h;split at h<;>first|exact⟨rfl,rfl⟩|cases h
def VF{op:BinOp}{t:TypeId}{x y:Operand}{a b a' b':Value}(d:lZ P t x y a b=true)(n:VR ρ a a')(o:VR ρ b b')(w:World)(j:op=.eql∨op=.neq):(eqGuard op t x y a' b').run P w=.ok () w:=by
 unfold eqGuard;rw[A7 (by rcases j with rfl|rfl<;>simp)];clear j;unfold lZ at d;split at d
 .cases n;cases o;simp only[J0]at d;rcases d with g|g
  .cases x<;>simp only[isC]at g<;>first|rfl|cases g
  .cases y<;>simp only[isC]at g<;>first|(cases x<;>rfl)|cases g
 .obtain⟨s,rfl,_⟩:=V5 n;obtain⟨u,rfl,_⟩:=V5 o;have g:P.eqGuardType P.depth t=false:=by simpa using d
  simp[A4,run_program,Result.andThen,g]
 .rename_i r p;obtain⟨l,i⟩:=B6 d;split
  .exfalso;cases n with
   | hole h _=>have:=mU h;simp[xJ]at this
   | junk=>cases l
   | ixp _ _ _ _ hv=>cases hv
   | dat _ he f c _=>obtain⟨_,_,_,q⟩:=he.slice A2;cases q
   | clp _ he f c _ _=>obtain⟨_,_,_,q⟩:=he.slice A2;cases q
   | own h _ _=>rcases h with⟨_,_,_,_,_,q⟩|⟨_,_,_,_,_,_,_,_,q⟩<;>cases q
   | dpt h _ _=>obtain⟨_,_,_,_,_,_,_,_,_,_,_,_,_,q⟩:=h;cases q
   | opt h _ _=>obtain⟨_,_,_,_,_,_,_,_,_,_,q⟩:=h;cases q
   | sdt h=>obtain⟨_,_,⟨_,q⟩|⟨_,_,q,_⟩⟩:=h<;>cases q
   | pure _ =>
     cases o with
     | hole h _=>have:=mU h;simp[xJ]at this
     | junk=>cases i
     | ixp _ _ _ _ hv=>cases hv
     | dat _ he f c _=>obtain⟨_,_,_,q⟩:=he.slice A2;cases q
     | clp _ he f c _ _=>obtain⟨_,_,_,q⟩:=he.slice A2;cases q
     | own h _ _=>rcases h with⟨_,_,_,_,_,q⟩|⟨_,_,_,_,_,_,_,_,q⟩<;>cases q
     | dpt h _ _=>obtain⟨_,_,_,_,_,_,_,_,_,_,_,_,_,q⟩:=h;cases q
     | opt h _ _=>obtain⟨_,_,_,_,_,_,_,_,_,_,q⟩:=h;cases q
     | sdt h=>obtain⟨_,_,⟨_,q⟩|⟨_,_,q,_⟩⟩:=h<;>cases q
     | pure _=>exact r rfl rfl
  .exfalso;cases n with
   | hole h _=>have:=mU h;simp[xJ]at this
   | junk=>cases l
   | ixp _ _ _ _ hv=>cases hv
   | dat _ he f c _=>obtain⟨_,_,_,q⟩:=he.slice A2;cases q
   | clp _ he f c _ _=>obtain⟨_,_,_,q⟩:=he.slice A2;cases q
   | own h _ _=>rcases h with⟨_,_,_,_,_,q⟩|⟨_,_,_,_,_,_,_,_,q⟩<;>cases q
   | dpt h _ _=>obtain⟨_,_,_,_,_,_,_,_,_,_,_,_,_,q⟩:=h;cases q
   | opt h _ _=>obtain⟨_,_,_,_,_,_,_,_,_,_,q⟩:=h;cases q
   | sdt h=>obtain⟨_,_,⟨_,q⟩|⟨_,_,q,_⟩⟩:=h<;>cases q
   | pure h=>simp[I4]at h
   | agg _ _ =>
     cases o with
     | hole h _=>have:=mU h;simp[xJ]at this
     | junk=>cases i
     | ixp _ _ _ _ hv=>cases hv
     | dat _ he f c _=>obtain⟨_,_,_,q⟩:=he.slice A2;cases q
     | clp _ he f c _ _=>obtain⟨_,_,_,q⟩:=he.slice A2;cases q
     | own h _ _=>rcases h with⟨_,_,_,_,_,q⟩|⟨_,_,_,_,_,_,_,_,q⟩<;>cases q
     | dpt h _ _=>obtain⟨_,_,_,_,_,_,_,_,_,_,_,_,_,q⟩:=h;cases q
     | opt h _ _=>obtain⟨_,_,_,_,_,_,_,_,_,_,q⟩:=h;cases q
     | sdt h=>obtain⟨_,_,⟨_,q⟩|⟨_,_,q,_⟩⟩:=h<;>cases q
     | pure h=>simp[I4]at h
     | agg _ _=>exact p _ _ rfl rfl
  .rfl
def rW{op:BinOp}{t:TypeId}{x y:Operand}{a b a' b':Value}(g:yY op=true->lZ P t x y a b=true)(d:VR ρ a a')(f:VR ρ b b')(w:World):(eqGuard op t x y a' b').run P w=.ok () w:=by
 cases c:yY op with
 | false =>
   unfold eqGuard;cases op<;>simp only[yY]at c<;>first|rfl|cases c
 | true=>exact VF (g c) d f w (by cases op<;>simp only[yY]at c<;>first|(exact .inl rfl)|(exact .inr rfl)|cases c)
def A3v{t:TypeId}{a b a' b':Value}(n:VR ρ a a')(l:VR ρ b b')(i:∀ (k j:IntKind) (x y:Int),a=.int k x->b=.int j y->False)(g:∀ x y:ByteArray,a=.string x->b=.string y->False)(d:A3U a=false)(c:A3U b=false)(e:Bool) :
  binOp (bif e then .eql else .neq) t a' b'=(do let r <- Op.equal t a' b';pure (.bool (bif e then r else !r))):=by
 cases n with
 | hole _ _=>cases d
 | junk=>cases d
 | ixp _ _ _ _ _=>cases d
 | dat _ _ _ _ _=>cases d
 | clp _ _ _ _ _ _=>cases d
 | own _ _ _=>cases d
 | dpt _ _ _=>cases d
 | opt _ _ _=>cases d
 | sdt _=>cases d
 | pure hp =>
   cases a<;>simp only[I4]at hp<;>try cases hp
   all_goals
    cases l with
    | hole _ _=>cases c
    | junk=>cases c
    | ixp _ _ _ _ _=>cases c
    | dat _ _ _ _ _=>cases c
    | clp _ _ _ _ _ _=>cases c
    | own _ _ _=>cases c
    | dpt _ _ _=>cases c
    | opt _ _ _=>cases c
    | sdt _=>cases c
    | pure f=>cases b<;>simp only[I4]at f<;>first|(cases e<;>rfl)|(exfalso;exact i _ _ _ _ rfl rfl)|(exfalso;exact g _ _ rfl rfl)|cases f
    | _=>cases e<;>rfl
 | _ =>
   cases l with
   | hole _ _=>cases c
   | junk=>cases c
   | ixp _ _ _ _ _=>cases c
   | dat _ _ _ _ _=>cases c
   | clp _ _ _ _ _ _=>cases c
   | own _ _ _=>cases c
   | dpt _ _ _=>cases c
   | opt _ _ _=>cases c
   | sdt _=>cases c
   | pure f=>cases b<;>simp only[I4]at f<;>first|(cases e<;>rfl)|cases f
   | _=>cases e<;>rfl
def wP{op:BinOp}{t:TypeId}{a b a' b' v:Value}(h:sO P op t a b=some v)(d:VR ρ a a')(f:VR ρ b b')(w:World):(binOp op t a' b').run P w=.ok v w/\I4 v=true:=by
 unfold sO at h;split at h
 .cases J4 d;cases J4 f;unfold aT at h;split at h
  .rename_i l c;split at h
   .rename_i n;cases h;unfold NL;cases op<;>simp only[iE]at c<;>cases c
    .refine⟨?_,by simp[aP,I4]⟩;simp[binOp,Op.shift,aP];intro h;omega
    .refine⟨?_,by simp[aP,I4]⟩;simp[binOp,Op.shift,aP];intro h;omega
   .cases h
  .rename_i c;obtain⟨h1,p⟩:=A3 h;cases hO h1;exact A3W c p w
 .cases U6 d;cases U6 f;exact A2j h w
 .rename_i i g;unfold CD at h;have he:∀ r,eqM P 20 t a b=some r->(Op.equal t a' b').run P w=.ok r w:=fun r hr=>GO 20 t a b a' b' r hr d f _ E7 w
  have o:=fun(r:Bool) (hr:eqM P 20 t a b=some r) e=>A3v (t:=t) d f (fun k j x y=>i k x j y) (fun x y=>g x y) (A1d hr).1 (A1d hr).2 e
  split at h
  .split at h
   .rename_i r hr;cases h;refine⟨?_,rfl⟩;have h3:=o r hr true;simp only[E3]at h3;rw[h3];simp[A4,he r hr,Result.andThen]
   .cases h
  .split at h
   .rename_i r hr;cases h;refine⟨?_,rfl⟩;have h3:=o r hr false;simp only[D6]at h3;rw[h3];simp[A4,he r hr,Result.andThen]
   .cases h
  .cases h
end
end
section
open Go
variable [Ora]
section
variable {P:Program} {base:Nat} {ρ:Ren} {m m':Mem} {w:World}
def dX(a:Addr)(n:Nat):bP a n=⟨a.block,a.off+n,none⟩:=by simp[bP,E5]
def Y0(b o i:Nat):(Addr.mk b o none).add i=⟨b,o+i,none⟩:=K4.add_none'
def mB{s:TypeId}{x v:Value}{i:Nat}(h:cT P s x i=some v)(hx:VR ρ x x')(w:World):∃ v',(Instr.fieldAt s x' i).run P w=.ok v' w/\VR ρ v v':=by
 unfold cT at h;split at h
 .rename_i d a hu;obtain⟨l,c,p,rfl⟩:=O6 hx;split at h
  .rename_i f g j;split at h
   .rename_i n o;cases h;rw[dX];refine⟨_,?_,.ptr c⟩;have b:d[i]? = some f:=by simpa using g
    have:=K8 o w;simp[Instr.fieldAt,A4,C9 hu,Result.andThen,b,Instr.sureAddr,fieldPlace,this,Y0]
   .cases h
  .cases h
 .cases h
def VG{t:TypeId}{x v:Value}{i:Nat}(h:GJ P t x i=some v)(hx:VR ρ x x')(w:World):∃ v',(Instr.field t x' i).run P w=.ok v' w/\VR ρ v v':=by
 unfold GJ at h;split at h
 .rename_i c cs hu;obtain⟨cs',rfl,g⟩:=V5 hx;split at h
  .rename_i f d;obtain⟨v',h1,b⟩:=hZ h g w;have a:c[i]? = some f:=by simpa using d
   refine⟨v',?_,b⟩;simp[Instr.field,A4,C9 hu,Result.andThen,a,asAgg,h1]
  .cases h
 .cases h
def cQ{t:TypeId}{x i v:Value}(h:X7 P t x i=some v)(hx:VR ρ x x')(hi:VR ρ i i')(w:World):∃ v',(Instr.indexAt t x' i').run P w=.ok v' w/\VR ρ v v':=by
 unfold X7 at h;split at h
 .rename_i n e a q k hu;cases J4 hi;obtain⟨l,d,r,rfl⟩:=O6 hx;split at h
  .rename_i s f j;obtain⟨h1,g⟩:=A3 h;cases g;have h1:k<n:=A1 h1;rw[dX];refine⟨.pointer (some ⟨l.blk,a.off+k*s+l.sh,none⟩),?_,.ptr d⟩;simp[Instr.indexAt,A4,C9 hu,Result.andThen,asIntOf,K8 f,h1,Y0,Instr.sureAddr]
  .cases h
 .rename_i e a n c q k hu;cases J4 hi;split at h
  .rename_i s f j;obtain⟨h1,g⟩:=A3 h;cases g;have h1:k<n:=A1 h1;rw[dX];cases hx with
   | pure hp=>simp[I4]at hp
   | sl d hm =>
     rename_i b o l;refine⟨.pointer (some ⟨l.blk,o+k*s+l.sh,none⟩),?_,.ptr d⟩;simp[Instr.indexAt,A4,C9 hu,Result.andThen,asIntOf,K8 f,h1,Y0]
   | op d hm p u =>
     rename_i b o l _;refine⟨.pointer (some ⟨l.blk,o+k*s+l.sh,none⟩),?_,.ptr d⟩;simp[Instr.indexAt,A4,C9 hu,Result.andThen,asIntOf,K8 f,h1,Y0]
   | opE r=>omega
  .cases h
 .cases h
def tK{t:TypeId}{x i v:Value}(h:lX P t x i=some v)(hx:VR ρ x x')(hi:VR ρ i i')(w:World):∃ v',(Instr.index t x' i').run P w=.ok v' w/\VR ρ v v':=by
 unfold lX at h;split at h
 .rename_i n e cs f k hu;cases J4 hi;obtain⟨cs',rfl,g⟩:=V5 hx;split at h
  .rename_i s l;obtain⟨h1,d⟩:=A3 h;have h1:k<n:=A1 h1;obtain⟨v',h3,j⟩:=hZ d g w;refine⟨v',?_,j⟩;simp[Instr.index,A4,C9 hu,Result.andThen,asIntOf,K8 l,h1,h3]
  .cases h
 .rename_i s f k hu;cases J4 hi;cases U6 hx;split at h
  .rename_i b c;cases h;refine⟨_,?_,.pure rfl⟩;have a:k<s.size:=by
    have:=(B0.1 c).1
    simpa using this
   have o:s[k]? = some b:=by
    rw[getElem?_pos s k a]
    have:=(B0.1 c).2;rw[<- this];rfl
   simp[Instr.index,A4,C9 hu,Result.andThen,asIntOf,o]
  .cases h
 .cases h
def JQ{x v:Value}{i:Nat}(h:lL m x i=some (v,m'))(hx:VR ρ x x')(w:World):m'=m/\∃ v',(Instr.extract x' i).run P w=.ok v' w/\VR ρ v v':=by
 unfold lL at h;split at h
 .rename_i vs;obtain⟨cs',rfl,b⟩:=tJ hx;unfold noM at h;split at h
  .rename_i u hu;cases h;obtain⟨v',h1,a⟩:=b.get hu;exact⟨rfl,v',by simp[Instr.extract,h1],a⟩
  .cases h
 .cases h
def DC:∀ (vs:List Value) (off k:Nat) (C:Array Value),((vs.zipIdx k).foldl (fun(cs:Array Value) (x:Value×Nat)=>cs.setIfInBounds (off+x.2) x.1) C)=⟨cM C.toList (off+k) vs⟩
 | [],off,k,C=>rfl
 | v::r,off,k,C=>by
   simp only[List.zipIdx_cons,List.foldl_cons];rw[DC r off (k+1)];simp[cM,cI]
def PR(ρ:Ren):List (Nat×Value)->List (Nat×Value)->Prop
 | [],[]=>True
 | (i,v)::r,(j,v')::r'=>i=j/\VR ρ v v'/\PR ρ r r'
 | _,_=>False
def sC{place:Nat->Option (Nat×Nat)}:∀ {parts a:List (Nat×Value)} {cs cs' r:D0},zG place cs parts=some r->PR ρ parts a->LR ρ cs cs'->∃ r',Instr.fill place ⟨cs'⟩ a=some ⟨r'⟩/\LR ρ r r'
 | [],[],cs,cs',r,h,_,hc=>by
   simp only[zG,D2]at h;subst h;exact⟨cs',rfl,hc⟩
 | [],_::_,_,_,_,_,hp,_=>hp.elim
 | _::_,[],_,_,_,_,hp,_=>hp.elim
 | (i,v)::rest,(j,v')::rest',cs,cs',r,h,⟨hij,hv,hp⟩,hc=>by
   subst hij;unfold zG at h;split at h
   .cases h
   .rename_i off size f;obtain⟨h1,g⟩:=A3 h;obtain⟨h3,l⟩:=B6 h1;obtain⟨h3,p⟩:=B6 h3;have h3:=A0 h3;have l:=A1 l;rw[I1]at g;have b:=hv.cells (by simpa using p);have d:v'.cells.size=v.cells.size:=by have:=b.1;simp at this;omega
    obtain⟨r',n,q⟩:=sC g hp (QX hc b);refine⟨r',?_,q⟩;unfold Instr.fill;simp only[f];rw[A7]
    .have:=DC v'.cells.toList off 0 ⟨cs'⟩;have e:(v'.cells.zipIdx.foldl (fun(cs:Array Value) (x:Value×Nat)=>cs.setIfInBounds (off+x.2) x.1) ⟨cs'⟩)=⟨cM cs' off v'.cells.toList⟩:=by
      rw[<- Array.foldl_toList,Array.toList_zipIdx,this];rfl
     have o:(Array.foldl (fun cs x=>match x with|(c,j)=>cs.setIfInBounds (off+j) c) ({ toList:=cs' }:Array Value) v'.cells.zipIdx)=⟨cM cs' off v'.cells.toList⟩:=e;rw[o];exact n
    .have:=hc.1;simp[d];constructor
     .exact h3
     .omega
def xL:∀ (a:List Field) (ps:List (Nat×Nat)),qZ P a=some ps->∀ w:World,(a.mapM (fun f=>do pure (f.offset,<- sizeOf f.type):Field->Sem (Nat×Nat))).run P w=.ok ps w
 | [],ps,h,w=>by simp only[qZ,D2]at h;subst h;rfl
 | f::r,ps,h,w=>by
   unfold qZ at h;split at h
   .rename_i n l b c;cases h;have d:=xL r l c w;simp only[List.mapM_cons,A4,K8 b,Result.andThen,Sem.run_pure];rw[d]
   .cases h
def VP{t:TypeId}{parts a:List (Nat×Value)}{v:Value}(h:PG P t parts=some v)(hp:PR ρ parts a)(w:World):∃ v',(Instr.build t ⟨a⟩).run P w=.ok v' w/\VR ρ v v':=by
 unfold PG at h;split at h
 .rename_i z o g hu;split at h
  .rename_i ps j;split at h
   .rename_i cs b;cases h;obtain⟨r',h1,d⟩:=sC b hp (pL g);refine⟨.agg ⟨r'⟩,?_,.agg d.1 d.2⟩;have hm:(o.mapM (fun f=>do pure (f.offset,<- sizeOf f.type):Field->Sem (Nat×Nat))).run P w=.ok ps.toArray w:=by
     rw[fP];show(Sem.bind (o.toList.mapM (fun f=>do pure (f.offset,<- sizeOf f.type):Field->Sem (Nat×Nat))) fun l=>Sem.pure l.toArray).run P w=_
     have:=xL _ _ j w;have p:∀ (x:Sem (List (Nat×Nat))) (k:List (Nat×Nat)->Sem (Array (Nat×Nat))),(Sem.bind x k).run P w=(x >>= k).run P w:=fun _ _=>rfl
     rw[p,A4,this];rfl
    have c:Instr.fill (fun i=>ps[i]?) z.cells a=some ⟨r'⟩:=h1;unfold Instr.build;simp only[A4,aJ g,C9 hu,Result.andThen,hm,I9];simp only[c];rfl
   .cases h
  .cases h
 .rename_i z n e g hu;split at h
  .rename_i s q;split at h
   .rename_i cs b;cases h;obtain⟨r',h1,d⟩:=sC b hp (pL g);refine⟨.agg ⟨r'⟩,?_,.agg d.1 d.2⟩;have c:Instr.fill (fun i=>some (i*s,s)) z.cells a=some ⟨r'⟩:=h1;simp[Instr.build,A4,aJ g,C9 hu,Result.andThen,K8 q,c]
   .cases h
  .cases h
 .cases h
end
end
section
open Go
variable [Ora]
def OR(ρ:Ren):Q3->Q3->Prop
 | none,none=>True
 | some v,some v'=>VR ρ v v'
 | _,_=>False
def Bd(o:Option Value)(top dflt k:Nat):Prop:=(o=none/\k=dflt)∨∃ j,o=some (.int j (.ofNat k))/\k<=top
section
variable {P:Program} {base:Nat} {ρ:Ren} {m m':Mem} {w:World}
def N4{o:Q3}{k:Nat}(h:U0 o top dflt=some k)(a:OR ρ o o'):Bd o' top dflt k:=by
 unfold U0 at h;split at h
 .cases h;cases o' with
  | none=>exact .inl ⟨rfl,rfl⟩
  | some _=>exact a.elim
 .obtain⟨h1,b⟩:=A3 h;cases b;cases o' with
  | none=>exact a.elim
  | some v' =>
    have a:VR ρ _ v':=a;cases J4 a;exact .inr ⟨_,rfl,A1 h1⟩
 .cases h
def UI{v:Value}{j:IntKind}{k:Nat}{c:BoundsCode}(hv:v=.int j (.ofNat k))(h:k<=y)(w:World):(Instr.sliceBound v y c).run P w=.ok k w:=by
 subst hv;simp[Instr.sliceBound,A4,asIntOf,Result.andThen,h]
def iU{b:Bool}{len cap l h:Nat}{hi:Q3}(h1:Bd mx cap cap mm)(h0:hi=none->mx=none)(a:Bd hi mm len h)(h3:Bd lo h 0 l)(w:World) :
  (Instr.sliceBounds b len cap lo hi mx).run P w=.ok (l,h,mm) w:=by
 unfold Instr.sliceBounds;rcases h1 with⟨rfl,rfl⟩|⟨j,rfl,h1⟩<;>rcases a with⟨rfl,rfl⟩|⟨d,rfl,a⟩<;>rcases h3 with⟨rfl,rfl⟩|⟨c,rfl,h3⟩
 all_goals first
  | (exfalso;have:=h0 rfl;cases this;done)
  | (simp only[A4,Sem.run_pure,Result.andThen];repeat (first|rw[UI rfl ‹_›]|simp only[Result.andThen,A4,Sem.run_pure]));done
def VR.slice{a a':Addr}{n c b:Nat}(h:VR ρ (.slice (some a) n c) (.slice (some a') n b)):True:=trivial
def P0{a:Addr}{n c:Nat}(h:VR ρ (.slice (some a) n c) x') :
  (∃ l,ρ a.block=some l/\a.spot=none/\c<M9/\x'=.slice (some ⟨l.blk,a.off+l.sh,none⟩) n c) ∨
  (∃ l b,ρ a.block=some l/\a.spot=none/\M9<=c/\n<=b/\(c=M9->a.off=0->b=l.cap)/\x'=.slice (some ⟨l.blk,a.off+l.sh,none⟩) n b) ∨
  (∃ a' b,a'.spot=none/\n=0/\c=M9+2/\x'=.slice (some a') 0 b):=by
 cases h with
 | pure hp=>simp[I4]at hp
 | sl d hm=>exact .inl ⟨_,d,rfl,hm,rfl⟩
 | op d hm f g=>exact .inr (.inl ⟨_,_,d,rfl,hm,f,g,rfl⟩)
 | opE i=>exact .inr (.inr ⟨_,_,i,rfl,rfl,rfl⟩)
def P4{n c:Nat}(h:VR ρ (.slice none n c) x'):x'=.slice none n c:=by cases h;rfl
def OR.none_iff{o:Q3}(h:OR ρ o o'):o=none↔o'=none:=by
 cases o<;>cases o'<;>simp_all [OR]
def uI{t:TypeId}{s n c l h:Nat}{a:Option Addr}{hi:Q3}(hu:P.underlying t=some (.slice e))(f:H1 P e=some s)(h1:Bd mx c c mm)(h0:hi=none->mx=none)(d:Bd hi mm n h)(h3:Bd lo h 0 l)(w:World) :
  (Instr.sliceAt t (.slice a n c) lo hi mx).run P w=.ok (.slice (if mm=l then a else a.map (·.add (l*s))) (h-l) (mm-l)) w:=by
 have:=iU (P:=P) (b:=true) h1 h0 d h3 w;simp[Instr.sliceAt,Instr.slice,A4,C9 hu,Result.andThen,this,K8 f]
def gO(s:ByteArray)(l h:Nat):s.extract l h=⟨⟨(s.data.toList.drop l).take (h-l)⟩⟩:=by
 have h1:(s.extract l h).data=⟨(s.data.toList.drop l).take (h-l)⟩:=by
  rw[ByteArray.data_extract];apply J1;simp[List.extract]
 cases a:s.extract l h with
 | mk d=>rw[a]at h1;simp only at h1;rw[h1]
def hJ{t:TypeId}{x v:Value}{hi lo' hi' mx':Q3}(h:dD P t x lo hi mx=some v)(hx:VR ρ x x')(q:OR ρ lo lo')(f:OR ρ hi hi')(i:OR ρ mx mx')(w:World) :
  ∃ v',(Instr.sliceAt t x' lo' hi' mx').run P w=.ok v' w/\VR ρ v v':=by
 unfold dD at h;split at h
 ·
  rename_i s hu;cases U6 hx;split at h
  .rename_i hh u;split at h
   .rename_i l h3;cases h;refine⟨_,?_,.pure rfl⟩;have hm:mx'=none:=i.none_iff.1 rfl;subst hm
    have:=iU (P:=P) (b:=false) (len:=s.size) (cap:=s.size) (mx:=none) (.inl ⟨rfl,rfl⟩) (fun _=>rfl) (N4 u f) (N4 h3 q) w;simp[Instr.sliceAt,Instr.slice,A4,C9 hu,Result.andThen,this,gO]
   .cases h
  .cases h
 ·
  rename_i e n c hu;cases P4 hx;split at h
  .rename_i h1 u h3;obtain⟨Y,h5⟩:=(by
    cases E:(mx.isSome && hi.isNone) || (H1 P e).isNone with
    | true=>rw[E]at h;cases h
    | false=>rw[E]at h;exact⟨rfl,h⟩:((mx.isSome && hi.isNone) || (H1 P e).isNone)=false/\some (Value.slice none 0 0)=some v)
   cases h5;simp only[Z7]at Y;obtain⟨Y,h6⟩:=Y;refine⟨.slice none 0 0,?_,.pure rfl⟩;have O:=N4 h1 i;have S:=N4 u f;have V:=N4 h3 q;have z:∀ {o:Q3} {k:Nat},Bd o 0 0 k->k=0:=fun r=>by rcases r with⟨_,rfl⟩|⟨_,_,r⟩<;>omega
   have z1:=z O;have z2:=z S;have z3:=z V;subst z1;subst z2;subst z3;have h0:hi'=none->mx'=none:=fun D=>by
    have C:=(f.none_iff).2 D;subst C;cases mx with
    | none=>exact i.none_iff.1 rfl
    | some _=>simp at Y
   obtain⟨s,M⟩:∃ s,H1 P e=some s:=by cases E:H1 P e with|none=>rw[E]at h6;cases h6|some s=>exact⟨s,rfl⟩
   have:=iU (P:=P) (b:=true) O h0 S V w;simp[Instr.sliceAt,Instr.slice,A4,C9 hu,Result.andThen,this,K8 M]
  .cases h
 ·
  rename_i e a n c hu;split at h
  .rename_i s M g;have p:∀ (d l hh mm:Nat) (a':Addr),Bd mx' d d mm->(hi'=none->mx'=none)->Bd hi' mm n hh->Bd lo' hh 0 l->(Instr.sliceAt t (.slice (some a') n d) lo' hi' mx').run P w=.ok (.slice (if mm=l then some a' else(some a').map (·.add (l*s))) (hh-l) (mm-l)) w :=
    fun d l hh mm a' h1 h0 u h3=>uI hu M h1 h0 u h3 w
   have H:∀ (l mm:Nat) (lc:Loc),ρ a.block=some lc->(if mm=l then some (Addr.mk lc.blk (a.off+lc.sh) none)else(some (Addr.mk lc.blk (a.off+lc.sh) none)).map (·.add (l*s)))=some ⟨lc.blk,(bif Nat.beq mm l then a else bP a (l*s)).off+lc.sh,none⟩/\(bif Nat.beq mm l then a else bP a (l*s)).block=a.block/\((bif Nat.beq mm l then a else bP a (l*s)).spot=none):=fun l mm lc av=>by
    by_cases C:mm=l
    .subst C;simp[g]
    .have:Nat.beq mm l=false:=by cases r:Nat.beq mm l with|false=>rfl|true=>exact absurd (A0 r) C
     simp[this,C,dX,Y0]
   cases N:Nat.blt c M9 with
   | true =>
     have Q:c<M9:=A1 N;rw[N]at h;simp only[E3]at h;rcases P0 hx with⟨lc,F,_,_,rfl⟩|⟨lc,d,_,_,ho,_⟩|⟨a',d,_,_,rfl,_⟩
     .split at h
      .rename_i mm h1;split at h
       .rename_i hh u;split at h
        .rename_i l h3;cases h;have J:=N4 h1 i;have h0:hi'=none->mx'=none:=fun D=>by
          have C:=(f.none_iff).2 D;subst C;cases mx with
          | none=>exact i.none_iff.1 rfl
          | some _=>cases u
         have I:Bd hi' mm n hh:=by
          cases hi with
          | none=>cases mx with
            | none=>exact N4 u f
            | some _=>cases u
          | some _=>cases mx<;>exact N4 u f
         refine⟨_,p c l hh mm _ J h0 I (N4 h3 q),?_⟩;obtain⟨g1,g2,g3⟩:=H l mm lc F;rw[g1];have au:mm<=c:=by rcases J with⟨_,rfl⟩|⟨_,_,r⟩<;>omega
         generalize hA:(bif Nat.beq mm l then a else bP a (l*s))=A at g2 g3 ⊢;obtain⟨ab,ao,L⟩:=A;simp only at g2 g3;subst g3;exact .sl (by rw[g2];exact F) A2
        .cases h
       .cases h
      .cases h
     .omega
     .omega
   | false =>
     have Q:M9<=c:=by
      rcases F8 c M9 with B|aw
      .rw[show Nat.blt c M9=true from C5 B]at N;cases N
      .exact aw
     rw[N]at h;simp only[D6]at h;split at h
     .rename_i mv;split at h
      .rename_i hv mm h1;obtain⟨g0,h⟩:=A3 h;obtain⟨T,U⟩:=B6 g0;have T:mm<M9:=A1 T;have U:=A1 U;split at h
       .rename_i hh u;split at h
        .rename_i l h3;cases h;rcases P0 hx with⟨_,_,_,B,_⟩|⟨lc,d,F,_,_,D,_,rfl⟩|⟨a',d,_,_,he,_⟩
         .omega
         .have J:=N4 h1 i;have W:Bd mx' d d mm:=by
           rcases J with⟨ax,_⟩|⟨j,hj,r⟩
           .have:=(i.none_iff).2 ax;cases this
           .exact .inr ⟨j,hj,A2⟩
          refine⟨_,p d l hh mm _ W (fun D=>by have:=(f.none_iff).2 D;cases this) (N4 u f) (N4 h3 q),?_⟩;obtain⟨g1,g2,g3⟩:=H l mm lc F;rw[g1];generalize hA:(bif Nat.beq mm l then a else bP a (l*s))=A at g2 g3 ⊢;obtain⟨ab,ao,L⟩:=A;simp only at g2 g3;subst g3;exact .sl (by rw[g2];exact F) A2
         .omega
        .cases h
       .cases h
      .cases h
     .have hm:mx'=none:=i.none_iff.1 rfl;subst hm;split at h
      .rename_i hh h1;have I:=N4 h1 f;have ar:hh<=n:=by rcases I with⟨_,rfl⟩|⟨_,_,r⟩<;>omega
       have up:∀ d,n<=d->Bd hi' d n hh:=fun d N=>by
        rcases I with r|⟨j,hj,r⟩
        .exact .inl r
        .exact .inr ⟨j,hj,A2⟩
       split at h
       .rename_i h3;cases h;have G:=N4 h3 q;rcases P0 hx with⟨_,_,_,B,_⟩|⟨lc,d,F,_,_,D,K,rfl⟩|⟨a',d,X,rfl,rfl,rfl⟩
        .omega
        .refine⟨_,p d 0 hh d _ (.inl ⟨rfl,rfl⟩) (fun _=>rfl) (up d D) G,?_⟩;have:(if d=0 then some (Addr.mk lc.blk (a.off+lc.sh) none)else(some (Addr.mk lc.blk (a.off+lc.sh) none)).map (·.add (0*s)))=some (Addr.mk lc.blk (a.off+lc.sh) none):=by
          simp[Y0]
         rw[this];obtain⟨ab,ao,L⟩:=a;simp only at g;subst g;exact .op F Q A2 K
        .have ay:hh=0:=A2;subst ay;refine⟨_,p d 0 0 d _ (.inl ⟨rfl,rfl⟩) (fun _=>rfl) (up d (mP _)) G,?_⟩;have:(if d=0 then some a' else(some a').map (·.add (0*s)))=some a':=by simp[Addr.add]
         rw[this];exact .opE X
       .rename_i l h3;have G:=N4 h3 q;have aq:l+1<=hh:=by rcases G with⟨_,r⟩|⟨_,_,r⟩<;>omega
        rcases P0 hx with⟨_,_,_,B,_⟩|⟨lc,d,F,_,_,D,K,rfl⟩|⟨a',d,X,rfl,rfl,rfl⟩
        .omega
        .have hf:=p d (l+1) hh d ⟨lc.blk,a.off+lc.sh,none⟩ (.inl ⟨rfl,rfl⟩) (fun _=>rfl) (up d D) G;cases E:Nat.blt (l+1) n with
         | true =>
           have Z:l+1<n:=A1 E;simp only[E,E3]at h;cases h;refine⟨_,hf,?_⟩;rw[A7 A2,dX];simp only[L2,Y0];rw[show a.off+lc.sh+(l+1)*s=a.off+(l+1)*s+lc.sh by omega];exact .op F (by unfold M9;omega) A2 (fun e=>by unfold M9 at e;omega)
         | false =>
           have Z:¬ l+1<n:=fun B=>by rw[show Nat.blt (l+1) n=true from C5 B]at E;cases E
           simp only[E,D6]at h;cases h;refine⟨_,hf,?_⟩;have C:hh-(l+1)=0:=A2;rw[C];by_cases e2:d=l+1
           .rw[A9 e2];exact .opE rfl
           .rw[A7 e2];simp only[L2,Y0];exact .opE rfl
        .omega
       .cases h
      .cases h
  .cases h
 ·
  rename_i n e a hu;obtain⟨lc,F,az,rfl⟩:=O6 hx;split at h
  .rename_i s M g;split at h
   .rename_i hh u;split at h
    .rename_i l h3;obtain⟨R,h⟩:=A3 h;have R:n<M9:=A1 R;cases h;have hm:mx'=none:=i.none_iff.1 rfl;subst hm;have hr:=iU (P:=P) (b:=false) (len:=n) (cap:=n) (mx:=none) (.inl ⟨rfl,rfl⟩) (fun _=>rfl) (N4 u f) (N4 h3 q) w;refine⟨.slice (some ⟨lc.blk,(bif Nat.beq n l then a else bP a (l*s)).off+lc.sh,none⟩) (hh-l) (n-l),?_,?_⟩
     .by_cases C:n=l
      .subst C;simp[Instr.sliceAt,A4,C9 hu,Result.andThen,hr,K8 M,Instr.sureAddr]
      .have E:Nat.beq n l=false:=by cases r:Nat.beq n l with|false=>rfl|true=>exact absurd (A0 r) C
       simp[Instr.sliceAt,A4,C9 hu,Result.andThen,hr,K8 M,Instr.sureAddr,C,E,dX,Y0]
     .have D:n-l<M9:=A2;have g2:(bif Nat.beq n l then a else bP a (l*s)).block=a.block:=by cases Nat.beq n l<;>simp[dX]
      have g3:(bif Nat.beq n l then a else bP a (l*s)).spot=none:=by cases Nat.beq n l<;>simp[dX,az]
      generalize hA:(bif Nat.beq n l then a else bP a (l*s))=A at g2 g3 ⊢;obtain⟨ab,ao,L⟩:=A;simp only at g2 g3;subst g3;exact .sl (by rw[g2];exact F) D
    .cases h
   .cases h
  .cases h
 .cases h
end
end
section
open Go
variable [Ora]
section
variable {P:Program} {base:Nat} {ρ:Ren} {m m':Mem} {w:World}
def eC{C:V8}{v:Value}{cap:Nat}{fz:Nat×Nat}{wd:World}(h:HR P base ρ m.H w)(p:base<=w.heap.size)(g:Z4 m (.cells cs e false) k=some (v,m'))(d:K2 ρ m.n m'.hi)
  (q:LR ρ cs cs') (hC:∀ (i:Nat) (v:Value),cs'[i]? = some v->C[i]? = some v) (c:NF C fz) (b:∀ inf,P.info? e=some inf->cap*inf.size<=C.size)
  (l:wd.os=w.os/\wd.tape=w.tape/\wd.output=w.output) (hh:wd.heap=w.heap) :
  v=k m.n/\upd ρ m.n (lc w.heap.size 0 cap) m.n=some (lc w.heap.size 0 cap)/\St P base ρ (upd ρ m.n (lc w.heap.size 0 cap)) m m' w { wd with heap:=wd.heap.push (.cells C e fz) }:=by
 have a:ρ m.n=none:=by
  obtain⟨_,_,rfl⟩:=L5 g;exact d m.n (A6 _) (K9 _ _).2
 refine St.alloc (o:=.cells C e fz) h p g d l (by simp[hh]) rfl ⟨rfl,C,fz,e,by simp[hh],fun i u hi=>?_,fun _=>⟨rfl,c,fun inf hi=>⟨by have:=b inf hi;simpa using this,Nat.zero_mod _⟩⟩⟩;obtain⟨f,h1,j⟩:=q.get hi;exact⟨f,by rw[F4];exact hC i f h1,j.mono (W7 a)⟩
def jA{v:Value}(h:HR P base ρ m.H w)(c:base<=w.heap.size)(b:Z4 m (.cells cs e false) k=some (v,m'))(a:K2 ρ m.n m'.hi)(d:LR ρ cs cs') :
  v=k m.n/\upd ρ m.n (lc w.heap.size 0 0) m.n=some (lc w.heap.size 0 0)/\St P base ρ (upd ρ m.n (lc w.heap.size 0 0)) m m' w { w with heap:=w.heap.push (.cells ⟨cs'⟩ e (0,0)) } :=
 eC (wd:=w) h c b a d (fun i v hi=>by simpa using hi) NF.zero (fun inf _=>by simp) ⟨rfl,rfl,rfl⟩ rfl
def UV{v:Value}(h:HR P base ρ m.H w)(f:base<=w.heap.size)(a:FI P m e=some (v,m'))(c:K2 ρ m.n m'.hi):VOk P base ρ m w (Instr.alloc e true (.tuple #[])) v m':=by
 unfold FI at a;split at a
 .rename_i z b;obtain⟨h1,d,h3⟩:=jA h f a c (pL b);refine⟨.pointer (some ⟨w.heap.size,0,none⟩),_,_,?_,?_,h3⟩
  .simp[Instr.alloc,newVar,newRow,A4,aJ b,Result.andThen,newObj,Sem.run]
  .rw[h1];exact .ptr d
 .cases a
def A28{x v:Value}(h:HR P base ρ m.H w)(g:base<=w.heap.size)(b:ZZ m e x=some (v,m'))(d:K2 ρ m.n m'.hi)(hx:VR ρ x x'):VOk P base ρ m w (Instr.box e x') v m':=by
 unfold ZZ at b;obtain⟨a,b⟩:=A3 b;obtain⟨h1,f,h3⟩:=jA h g b d (hx.cells (by
  cases c:jD x with
  | false=>rfl
  | true =>
    unfold jD at c;split at c
    .exfalso;simp only[Value.cells]at a;simp[flat]at a;simp[a]at c
    .cases c))
 refine⟨.pointer (some ⟨w.heap.size,0,none⟩),_,_,?_,?_,h3⟩
 .simp[Instr.box,newVar,newRow,A4,Result.andThen,newObj,Sem.run]
 .rw[h1];exact .ptr f
def IX(z:List Value)(c:z≠[]):∀ (n i:Nat),(IY z n)[i]? = if i<n*z.length then z[i%z.length]? else none
 | 0,i=>by simp[IY]
 | n+1,i=>by
   have a:0<z.length:=dQ.2 c;rw[IY];by_cases h:i<z.length
   .rw[F1 h,A9 (by rw[Nat.succ_mul];omega),d9 h]
   .rw[D8 A2,IX z c n,Nat.succ_mul];have e:(i-z.length)%z.length=i%z.length:=by rw[<- Nat.mod_eq_sub_mod A2]
    by_cases b:i-z.length<n*z.length
    .rw[A9 b,A9 A2,e]
    .rw[A7 b,A7 A2]
def TP{z:V8}{n s:Nat}(b:z.size=s)(d:n*s≠0):(Array.range (n*s)).map (z[· % z.size]!)=⟨IY z.toList n⟩:=by
 have c:z.toList≠[]:=by
  intro e;have:z.size=0:=by simpa using F3 List.length e
  rw[b]at this;subst this;simp at d
 apply J1;apply bD;intro i;rw[IX _ c];simp only[Array.toList_map,Array.toList_range,F6];have f:z.toList.length=s:=by simpa using b
 rw[f];by_cases h:i<n*s
 .rw[A9 h,List.getElem?_range h];have a:0<s:=by
   rcases S6 s with h0|h0
   .subst h0;simp at d
   .exact h0
  have hm:i%s<z.size:=by rw[b];exact pI _ a
  simp[b,getElem!_pos z (i%s) hm,A5 (show i%s<z.toList.length by simpa using hm)]
 .rw[A7 h];simp;omega
def BI{n s:Nat}(i:H1 P e=some s)(h:EG P e n=some zs) :
  ((n*s=0/\zs=[])∨(n*s≠0/\∃ z:Value,(∀ w,(zeroValue e).run P w=.ok z w)/\(Array.range (n*s)).map (z.cells[· % z.cells.size]!)=⟨zs⟩))/\LR ρ zs zs:=by
 unfold EG at h;rw[i]at h;simp only at h;cases c:Nat.beq (n*s) 0 with
 | true =>
   rw[c]at h;simp only[E3,D2]at h;subst h;exact⟨.inl ⟨A0 c,rfl⟩,.nil⟩
 | false =>
   rw[c]at h;simp only[D6]at h;have a:n*s≠0:=fun e=>by rw[e]at c;cases c
   split at h
   .rename_i z d;obtain⟨h1,f⟩:=A3 h;cases f;have h1:=A0 h1;refine⟨.inr ⟨a,z,fun w=>aJ d w,TP h1 a⟩,?_⟩;have b:∀ l:D0,LR ρ l l->∀ n,LR ρ (IY l n) (IY l n):=fun l g n=>by
     induction n with
     | zero=>exact .nil
     | succ n j=>exact g.append j
    exact b _ (pL d) n
   .cases h
def AA{t:TypeId}{n:Nat}{parts a:List (Nat×Value)}{v:Value}(h:HR P base ρ m.H w)(B:base<=w.heap.size)(b:cW P m t n parts=some (v,m'))(A:K2 ρ m.n m'.hi)(hp:PR ρ parts a) :
  VOk P base ρ m w (Instr.buildSlice t n ⟨a⟩) v m':=by
 unfold cW at b;split at b
 .rename_i e hu;split at b
  .rename_i s zs q u;obtain⟨h1,b⟩:=A3 b;obtain⟨h1,c⟩:=B6 h1;have h1:=A1 h1;have c:n<M9:=A1 c;split at b
   .rename_i cs o;obtain⟨g,l⟩:=BI (ρ:=ρ) q u;obtain⟨r',r,h3⟩:=sC o hp l;obtain⟨g1,g2,g3⟩:=jA h B b A h3;refine⟨.slice (some ⟨w.heap.size,0,none⟩) n n,_,_,?_,?_,g3⟩
    .unfold Instr.buildSlice;simp only[A4,C9 hu,K8 q,Result.andThen];rw[A7 A2];have d:Instr.fill (fun i=>some (i*s,s)) ⟨zs⟩ a=some ⟨r'⟩:=r;rcases g with⟨f,rfl⟩|⟨f,z,j,p⟩
     .have C:∀ z:V8,Array.map (fun x=>z[x%z.size]!) (Array.range (n*s))=⟨[]⟩:=fun z=>by rw[f];apply J1;simp
      simp only[A9 f,C,d];rfl
     .simp only[A7 f,A4,Sem.run_pure,Result.andThen,j,p,d];rfl
    .rw[g1];exact .sl g2 c
   .cases b
  .cases b
 .cases b
def BA{t:TypeId}{l c l' u v:Value}(h:HR P base ρ m.H w)(I:base<=w.heap.size)(a:eS P m t l c=some (v,m'))(F:K2 ρ m.n m'.hi)(B:VR ρ l l')(J:VR ρ c u) :
  VOk P base ρ m w (Instr.makeSlice t l' u) v m':=by
 unfold eS at a;split at a
 .rename_i e N l M c hu;cases J4 B;cases J4 J;split at a
  .rename_i i hi;obtain⟨h1,a⟩:=A3 a;obtain⟨h1,h3⟩:=B6 h1;obtain⟨h1,s⟩:=B6 h1;have h1:=A1 h1;have s:=A1 s;have h3:=A1 h3;split at a
   .rename_i zs D;rw[I1]at a;have A:H1 P e=some i.size:=by simp[H1,hi]
    obtain⟨g,o⟩:=BI (ρ:=ρ) A D;obtain⟨g1,g2,g3⟩:=jA h I a F o;refine⟨.slice (some ⟨w.heap.size,0,none⟩) l c,_,_,?_,?_,g3⟩
    .have wl:IntKind.i64.wrap (Int.ofNat l)=Int.ofNat l:=pP .i64 l (by simp only[MV];omega);have E:IntKind.i64.wrap (Int.ofNat c)=Int.ofNat c:=pP .i64 c (by simp only[MV];omega);have b:(askRoom (c*i.bytes)).run P w=.ok () w:=by
      unfold askRoom roomBytes;rw[A7 A2];rfl
     have q:((i.bytes:Int)*(c:Int))=((c*i.bytes:Nat):Int):=by rw[bB];simp
     have C:((i.bytes:Int)*(l:Int))<=((c*i.bytes:Nat):Int):=by
      have:i.bytes*l<=c*i.bytes:=by rw[bB];exact F7 _ h1
      exact_mod_cast this
     unfold Instr.makeSlice;simp only[A4,C9 hu,asInt,asIntOf,Result.andThen,Sem.run_pure,V1 hi,wl,E];rw[A7]
     .have r:(Int.ofNat c).toNat=c:=by simp
      have f:(Int.ofNat l).toNat=l:=by simp
      simp only[A4,Sem.run_pure,Result.andThen,r,f,b,K8 A];rcases g with⟨d,rfl⟩|⟨d,z,j,p⟩
      .have L:∀ z:V8,Array.map (fun x=>z[x%z.size]!) (Array.range (c*i.size))=⟨[]⟩:=fun z=>by rw[d];apply J1;simp
       simp only[A9 d,L];rfl
      .simp only[A7 d,A4,Sem.run_pure,Result.andThen,j,p];rfl
     .have K:Int.ofNat c=(c:Int):=rfl;have G:Int.ofNat l=(l:Int):=rfl;simp only[K,G,q];simp;omega
    .rw[g1];exact .sl g2 (by unfold M9;omega)
   .cases a
  .cases a
 .cases a
end
end
end Go.Sx
