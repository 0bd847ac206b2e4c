import Derived.Test.YtdkdbjgkedahfaaGreatDoorX0
import Derived.ChangeKeysEq
set_option linter.all false
set_option maxRecDepth 100000
set_option maxHeartbeats 4000000
namespace Go.Sx
open Go
variable {k:Nat->Value}{cs cs' r' zs:E0}{dflt mm off top y:Nat}{e:TypeId}{i' x':Value}{parts parts':List (Nat×Value)}{lo mx o':S8}
section
open Go
def Q1(d:Nat)(a:d<8){α β:Type}(n:N8 α)(v:α)(k:N8 α->β):(sel d).upd n v k=k ((sel d).upd n v fun n=>n):=by
 match d,a with
 | 0,_|1,_|2,_|3,_|4,_|5,_|6,_|7,_=>rfl
def YT(d:Nat)(a:d<8){α:Type}(n:N8 α)(v:α):(sel d).get ((sel d).upd n v fun n=>n)=v:=by
 match d,a with
 | 0,_|1,_|2,_|3,_|4,_|5,_|6,_|7,_=>rfl
def A5e(d e:Nat)(b:d<8)(he:e<8)(a:e≠d){α:Type}(n:N8 α)(v:α):(sel e).get ((sel d).upd n v fun n=>n)=(sel e).get n:=by
 match d,b with
 | 0,_|1,_|2,_|3,_|4,_|5,_|6,_|7,_ =>
   match e,he with
   | 0,_|1,_|2,_|3,_|4,_|5,_|6,_|7,_=>first|rfl|exact absurd rfl a
def fQ{α β:Type}(n:N8 α)(k:N8 α->β):IH n k=k n:=rfl
def m8(n:Nat):n%8<8:=rU _ C8
def GX{β:Type}(t:Nat)(v:Value)(fr:Fr)(k:Fr->β):xH (sel (t / 64%8)) (sel (t / 8%8)) (sel (t%8)) v fr k=k (fr.set t v):=by
 unfold Fr.set xH;rw[Q1 _ (m8 _)];conv=>rhs;rw[Q1 _ (m8 _)]
 rw[Q1 _ (m8 _)];conv=>rhs;rw[Q1 _ (m8 _)]
 rw[Q1 _ (m8 _)]
def i6(d e:Nat)(a:d<8)(he:e<8){α:Type}(n:N8 α)(v:α):(sel e).get ((sel d).upd n v fun n=>n)=if e=d then v else(sel e).get n:=by
 by_cases h:e=d
 .subst h;rw[B0 rfl,YT _ he]
 .rw[A9 h,A5e _ _ a he h]
def N3(fr:Fr)(t u:Nat)(v:Value)(d:t<512)(hu:u<512):(fr.set t v).get u=if u=t then v else fr.get u:=by
 unfold Fr.set xH;simp only[Q1 _ (m8 _) _ _ (fun f=>Sel.upd _ _ _ _),Q1 _ (m8 _) _ _ (fun c=>Sel.upd _ _ _ _)];unfold Fr.get;rw[i6 _ _ (m8 _) (m8 _)];by_cases a:u / 64%8=t / 64%8
 .rw[B0 a,i6 _ _ (m8 _) (m8 _)];by_cases b:u / 8%8=t / 8%8
  .rw[B0 b,i6 _ _ (m8 _) (m8 _)];by_cases h3:u%8=t%8
   .rw[B0 h3,B0 A0]
   .rw[A9 h3,A9 (by intro h;subst h;exact h3 rfl),a,b]
  .rw[A9 b,A9 (by intro h;subst h;exact b rfl),a]
 .rw[A9 a,A9 (by intro h;subst h;exact a rfl)]
def IF(t:Nat):fr0.get t=undef:=by
 unfold Fr.get fr0;have h:∀ (d:Nat) {α:Type} (v:α),d<8->(sel d).get (rT v)=v:=fun d α v a=>by
  match d,a with
  | 0,_|1,_|2,_|3,_|4,_|5,_|6,_|7,_=>rfl
 rw[h _ _ (m8 _),h _ _ (m8 _),h _ _ (m8 _)];rfl
def gB{α β:Type}(h:Hp α)(n:Nat)(v:Option α)(k:Hp α->β):h.put n v k=k (h.set n v):=by
 unfold Hp.set Hp.put m9;rw[Q1 _ (m8 _),Q1 _ (m8 _),Q1 _ (m8 _),Q1 _ (m8 _),Q1 _ (m8 _),Q1 _ (m8 _)];conv=>rhs;rw[Q1 _ (m8 _),Q1 _ (m8 _),Q1 _ (m8 _),Q1 _ (m8 _),Q1 _ (m8 _)]
def F6{α:Type}(h:Hp α)(n m:Nat)(v:Option α)(g:n<=J0)(hm:m<=J0):(h.set n v).get m=if m=n then v else h.get m:=by
 unfold J0 at g hm;unfold Hp.set Hp.put m9;rw[Q1 _ (m8 _),Q1 _ (m8 _),Q1 _ (m8 _),Q1 _ (m8 _),Q1 _ (m8 _)];unfold Hp.get;rw[i6 _ _ (m8 _) (m8 _)];by_cases a:m / 32768%8=n / 32768%8
 .rw[B0 a,i6 _ _ (m8 _) (m8 _)];by_cases b:m / 4096%8=n / 4096%8
  .rw[B0 b,i6 _ _ (m8 _) (m8 _)];by_cases h3:m / 512%8=n / 512%8
   .rw[B0 h3,i6 _ _ (m8 _) (m8 _)];by_cases c:m / 64%8=n / 64%8
    .rw[B0 c,i6 _ _ (m8 _) (m8 _)];by_cases d:m / 8%8=n / 8%8
     .rw[B0 d,i6 _ _ (m8 _) (m8 _)];by_cases f:m%8=n%8
      .rw[B0 f,B0 A0]
      .rw[A9 f,A9 (by intro h;subst h;exact f rfl),a,b,h3,c,d]
     .rw[A9 d,A9 (by intro h;subst h;exact d rfl),a,b,h3,c]
    .rw[A9 c,A9 (by intro h;subst h;exact c rfl),a,b,h3]
   .rw[A9 h3,A9 (by intro h;subst h;exact h3 rfl),a,b]
  .rw[A9 b,A9 (by intro h;subst h;exact b rfl),a]
 .rw[A9 a,A9 (by intro h;subst h;exact a rfl)]
def tN{α:Type}(m:Nat):(hp0:Hp α).get m=none:=by
 have h:∀ (d:Nat) {α:Type} (v:α),d<8->(sel d).get (rT v)=v:=fun d α v a=>by
  match d,a with
  | 0,_|1,_|2,_|3,_|4,_|5,_|6,_|7,_=>rfl
 unfold Hp.get hp0;rw[h _ _ (m8 _),h _ _ (m8 _),h _ _ (m8 _),h _ _ (m8 _),h _ _ (m8 _),h _ _ (m8 _)]
def F5{β:Type}(n:Nat)(k:Nat->β):K3 n k=k n:=by cases n<;>rfl
def vH{β:Type}(i:Int)(k:Int->β):AU i k=k i:=by cases i<;>simp[AU,F5]
def J4{α β:Type}:∀ (l:List α) (k:List α->β),U0 l k=k l
 | [],k=>rfl
 | x::r,k=>by simp[U0,J4 r]
def cN(k:IntKind)(n:Int):mkI k n=.int k n:=by simp[mkI,vH]
def toV:U->S8
 | .int k n=>some (.int k n)
 | .bool b=>some (.bool b)
 | .str s=>some (.string ⟨⟨s⟩⟩)
 | _=>none
def H7:U->Nat
 | .int k _=>kJ k
 | .bool _=>8
 | .str _=>9
 | .seq _ w _=>10+w
 | .none=>99
def rS(E:Nat->U):Value->Option Int
 | .complex .f64 i _=>match E i with
   | .int _ n=>some n
   | _=>none
 | .int _ n=>some n
 | _=>none
class Ora where
 env:Nat->U
 G:Nat->Option Obj
variable [Ora]
structure A7_ where
 blk:Nat
 sh:Nat
 cap:Nat
 len:Nat
 G:Nat->Option Obj
 on:Bool
abbrev Loc:=A7_
abbrev lc(b s c:Nat):Loc:=⟨b,s,c,0,fun _=>none,true⟩
abbrev Ren:=Nat->Option Loc
inductive Enc (G:Nat->Option Obj):U->Value->Prop
 | sc {u v} (h:toV u=some v):Enc G u v
 | nil {w}:Enc G (.seq true w []) (.slice none 0 0)
 | emp {w a}:Enc G (.seq false w []) (.slice (some a) 0 0)
 | sl {w rows a o c C T fz} (hc:rows.length<=c) (hg:rows≠[]->G a=some (.cells C T fz)) (hz:rows≠[]->o+rows.length*w<=C.size) (hw:∀ row ∈ rows,row.length=w)
    (h:∀ (r:Nat) (row:List U) (j:Nat) (u:U) (v:Value),rows[r]? = some row->row[j]? = some u->C[o+r*w+j]? = some v->Enc G u v):Enc G (.seq false w rows) (.slice (some ⟨a,o,none⟩) rows.length c)
omit [Ora] in
def Enc.mono{G a:Nat->Option Obj}(h:∀ k o,G k=some o->a k=some o){u:U}{v:Value}(e:Enc G u v):Enc a u v:=by
 induction e with
 | sc h=>exact .sc h
 | nil=>exact .nil
 | emp=>exact .emp
 | sl g c f hw i d=>exact .sl g (fun b=>h _ _ (c b)) f hw d
omit [Ora] in
def Enc.slice{G:Nat->Option Obj}{u:U}{v:Value}(h:Enc G u v)(d:10<=H7 u):∃ a n c,v=.slice a n c:=by
 cases h with
 | sc h =>
   cases u with
   | int k n=>cases k<;>simp[H7,kJ]at d
   | bool b=>simp[H7]at d
   | str s=>simp[H7]at d
   | none=>cases h
   | seq _ _ _=>cases h
 | nil=>exact⟨_,_,_,rfl⟩
 | emp=>exact⟨_,_,_,rfl⟩
 | sl=>exact⟨_,_,_,rfl⟩
def A1Q:Value->Prop
 | .slice _ n c=>c=n
 | _=>False
def A0C(ρ:Ren)(b:Nat)(u:U)(v':Value):Prop :=
 (∃ l w,ρ b=some l/\l.on=false/\u=.seq true w []/\v'=.slice none 0 0)∨(∃ l w rows,ρ b=some l/\l.on=true/\u=.seq false w rows/\rows.length=l.len/\l.len<=l.cap/\v'=.slice (some ⟨l.blk,l.sh,none⟩) l.len l.cap)
def A68(ρ:Ren)(b:Nat)(u:U)(z:Option Int)(o:Nat)(v':Value):Prop :=
 ∃ l w rows a s c k,ρ b=some l/\u=.seq false w rows/\Enc l.G u (.slice (some ⟨a,s,none⟩) rows.length c)/\z=some (.ofNat k)/\k<rows.length/\o<w/\v'=.pointer (some ⟨a,s+k*w+o,none⟩)
def A6e(ρ:Ren)(b:Nat)(u:U)(z:Option Int)(o:Nat)(v':Value):Prop :=
 ∃ l w rows k,ρ b=some l/\l.on=true/\u=.seq false w rows/\z=some (.ofNat k)/\k<l.len/\o<w/\v'=.pointer (some ⟨l.blk,l.sh+k*w+o,none⟩)
def UR(ρ:Ren)(b:Nat)(v':Value):Prop:=∃ l,ρ b=some l/\((l.on=false/\v'=.pointer none)∨(l.on=true/\∃ a,v'=.pointer (some a)/\(l.cap≠0->a=⟨l.blk,l.sh,none⟩)))
def UR.cells{ρ:Ren}{b:Nat}{v':Value}(h:UR ρ b v'):v'.cells=#[v']:=by
 obtain⟨l,_,⟨_,rfl⟩|⟨_,a,rfl,_⟩⟩:=h<;>rfl
def dJ:Value->Bool
 | .agg _|.tuple _=>false
 | _=>true
def UR.flat{ρ:Ren}{b:Nat}{v':Value}(h:UR ρ b v'):dJ v'=true:=by
 obtain⟨l,_,⟨_,rfl⟩|⟨_,a,rfl,_⟩⟩:=h<;>rfl
def bV{v:Value}(h:dJ v=true):v.cells=#[v]:=by cases v<;>first|rfl|cases h
inductive VR (ρ:Ren):Value->Value->Prop
 | pure {v} (h:J8 v=true):VR ρ v v
 | hole {i t v'} (h:toV (Ora.env i)=some v') (ht:H7 (Ora.env i)=t):VR ρ (.complex .f64 i t) v'
 | junk {i t v'} (h:i=1->dJ v'=true):VR ρ (.complex .f32 i t) v'
 | ixp {a s n i l z v'} (h:ρ a.block=some l) (hs:a.spot=none) (hi:rS Ora.env i=some (.ofNat z)) (hz:z<n) (hv:v'=.pointer (some ⟨l.blk,a.off+z*s+l.sh,none⟩)):VR ρ (Go.Sx.ixp a s i n) v'
 | dat {b i t v' l} (h:ρ b=some l) (he:Enc l.G (Ora.env i) v') (ht:H7 (Ora.env i)=t) (h10:10<=t) (hf:dJ v'=true):VR ρ (Go.Sx.dat b i t) v'
 | clp {b i t v' l} (h:ρ b=some l) (he:Enc l.G (Ora.env i) v') (ht:H7 (Ora.env i)=t) (h10:10<=t) (hf:dJ v'=true) (hc:A1Q v'):VR ρ (Go.Sx.clp b i t) v'
 | own {b i t v'} (h:A0C ρ b (Ora.env i) v') (ht:H7 (Ora.env i)=t) (hf:dJ v'=true):VR ρ (Go.Sx.own b i t) v'
 | dpt {b i t z o v'} (h:A68 ρ b (Ora.env i) (rS Ora.env z) o v') (ht:H7 (Ora.env i)=t) (hf:dJ v'=true):VR ρ (Go.Sx.dpt b i t z o) v'
 | opt {b i t z o v'} (h:A6e ρ b (Ora.env i) (rS Ora.env z) o v') (ht:H7 (Ora.env i)=t) (hf:dJ v'=true):VR ρ (Go.Sx.opt b i t z o) v'
 | ptr {b o l} (h:ρ b=some l):VR ρ (.pointer (some ⟨b,o,none⟩)) (.pointer (some ⟨l.blk,o+l.sh,none⟩))
 | sl {b o l n m} (h:ρ b=some l) (hm:m<O7):VR ρ (.slice (some ⟨b,o,none⟩) n m) (.slice (some ⟨l.blk,o+l.sh,none⟩) n m)
 | op {b o l n m m'} (h:ρ b=some l) (hm:O7<=m) (hn:n<=m') (hc:m=O7->o=0->m'=l.cap):VR ρ (.slice (some ⟨b,o,none⟩) n m) (.slice (some ⟨l.blk,o+l.sh,none⟩) n m')
 | opE {a a' m'} (hs:a'.spot=none):VR ρ (.slice (some a) 0 (O7+2)) (.slice (some a') 0 m')
 | map {b l} (h:ρ b=some l):VR ρ (.map (some b)) (.map (some l.blk))
 | sdt {b v'} (h:UR ρ b v'):VR ρ (Go.Sx.sdt b) v'
 | yv {b l} (h:ρ b=some l):VR ρ (Go.Sx.yv b) (.func (.yield l.blk) #[] #[])
 | func {f a b a' b'} (ha:a.length=a'.length) (hb:b.length=b'.length) (h1:∀ (i:Nat) (v v':Value),a[i]? = some v->a'[i]? = some v'->VR ρ v v') (h2:∀ (i:Nat) (v v':Value),b[i]? = some v->b'[i]? = some v'->VR ρ v v') :
    VR ρ (.func (.func f) ⟨a⟩ ⟨b⟩) (.func (.func f) ⟨a'⟩ ⟨b'⟩)
 | iface {t v v'} (h:VR ρ v v'):VR ρ (.iface t v) (.iface t v')
 | agg {a a'} (ha:a.length=a'.length) (h:∀ (i:Nat) (v v':Value),a[i]? = some v->a'[i]? = some v'->VR ρ v v'):VR ρ (.agg ⟨a⟩) (.agg ⟨a'⟩)
 | tuple {a a'} (ha:a.length=a'.length) (h:∀ (i:Nat) (v v':Value),a[i]? = some v->a'[i]? = some v'->VR ρ v v'):VR ρ (.tuple ⟨a⟩) (.tuple ⟨a'⟩)
theorem A0n{ρ:Ren}{b:Nat}{v':Value}(h:VR ρ (yv b) v'):∃ l,ρ b=some l/\v'=.func (.yield l.blk) #[] #[]:=by
 generalize a:yv b=x at h;cases h with
 | yv h=>cases a;exact⟨_,h,rfl⟩
 | pure hp=>subst a;simp[yv,J8]at hp
 | _=>simp[yv,ixp,Go.Sx.dat,Go.Sx.clp,Go.Sx.own,Go.Sx.dpt,Go.Sx.opt,Go.Sx.sdt]at a
def A2e{ρ:Ren}{b:Nat}{v':Value}(h:VR ρ (sdt b) v'):UR ρ b v':=by
 generalize a:sdt b=x at h;cases h with
 | sdt h=>cases a;exact h
 | pure hp=>subst a;simp[sdt,J8]at hp
 | _=>simp[sdt,ixp,Go.Sx.dat,Go.Sx.clp,Go.Sx.own,Go.Sx.dpt,Go.Sx.opt,Go.Sx.yv]at a
def LR(ρ:Ren)(a a':List Value):Prop:=a.length=a'.length/\∀ (i:Nat) (v v':Value),a[i]? = some v->a'[i]? = some v'->VR ρ v v'
def VR.mono{ρ j:Ren}(he:∀ b l,ρ b=some l->j b=some l){v v':Value}(h:VR ρ v v'):VR j v v':=by
 induction h with
 | pure h=>exact .pure h
 | hole h B=>exact .hole h B
 | junk h=>exact .junk h
 | ixp h q hi C x=>exact .ixp (he _ _ h) q hi C x
 | dat h d f h3 p=>exact .dat (he _ _ h) d f h3 p
 | clp h d f h3 p D=>exact .clp (he _ _ h) d f h3 p D
 | own h d f=>exact .own (h.imp (fun⟨l,w,a,b⟩=>⟨l,w,he _ _ a,b⟩) fun⟨l,w,rows,a,b⟩=>⟨l,w,rows,he _ _ a,b⟩) d f
 | dpt h d f=>exact .dpt (let ⟨l,w,rows,a,s,c,k,t,r⟩:=h;⟨l,w,rows,a,s,c,k,he _ _ t,r⟩) d f
 | opt h d f=>exact .opt (let ⟨l,w,rows,k,t,r⟩:=h;⟨l,w,rows,k,he _ _ t,r⟩) d f
 | ptr h=>exact .ptr (he _ _ h)
 | sl h hm=>exact .sl (he _ _ h) hm
 | op h hm A u=>exact .op (he _ _ h) hm A u
 | opE q=>exact .opE q
 | map h=>exact .map (he _ _ h)
 | yv h=>exact .yv (he _ _ h)
 | sdt h=>exact .sdt (let ⟨l,a,b⟩:=h;⟨l,he _ _ a,b⟩)
 | func i z d f n o=>exact .func i z n o
 | iface h g=>exact .iface g
 | agg i h g=>exact .agg i g
 | tuple i h g=>exact .tuple i g
def LR.mono{ρ c:Ren}(he:∀ b l,ρ b=some l->c b=some l){a a':E0}(h:LR ρ a a'):LR c a a':=⟨h.1,fun i v v' f d=>(h.2 i v v' f d).mono he⟩
def LR.nil{ρ:Ren}:LR ρ [] []:=⟨rfl,fun i v v' h=>by simp at h⟩
def LR.cons{ρ:Ren}{v v':Value}{a a':E0}(f:VR ρ v v')(h:LR ρ a a'):LR ρ (v::a) (v'::a'):=by
 refine⟨by simp[h.1],fun i u d c b=>?_⟩;cases i with
 | zero=>simp at c b;subst c;subst b;exact f
 | succ i=>exact h.2 i u d (by simpa using c) (by simpa using b)
def LR.append{ρ:Ren}{a a' b b':E0}(h:LR ρ a a')(k:LR ρ b b'):LR ρ (a++b) (a'++b'):=by
 refine⟨by simp[h.1,k.1],fun i u g f d=>?_⟩;rcases G9 i a.length with c|c
 .rw[F7 c]at f;rw[F7 (h.1▸c)]at d;exact h.2 i u g f d
 .rw[E9 c]at f;rw[E9 (h.1▸c),<- h.1]at d;exact k.2 _ u g f d
def LR.tail{ρ:Ren}{v:Value}{a a':E0}(h:LR ρ (v::a) a'):∃ v' r',a'=v'::r'/\VR ρ v v'/\LR ρ a r':=by
 obtain⟨c,b⟩:=h;cases a' with
 | nil=>simp at c
 | cons v' r'=>exact⟨v',r',rfl,b 0 v v' rfl rfl,by simpa using c,fun i u d g1 g2=>b (i+1) u d (by simpa using g1) (by simpa using g2)⟩
def LR.nil_inv{ρ:Ren}{a':E0}(h:LR ρ [] a'):a'=[]:=H3.1 h.1.symm
def LR.get{ρ:Ren}{a a':E0}(h:LR ρ a a'){i:Nat}{v:Value}(hi:a[i]? = some v):∃ v',a'[i]? = some v'/\VR ρ v v':=by
 have c:=(B1.1 hi).1;have b:i<a'.length:=h.1▸c;exact⟨a'[i],A6 b,h.2 i v _ hi (A6 b)⟩
def LR.drop{ρ:Ren}{a a':E0}(h:LR ρ a a')(n:Nat):LR ρ (a.drop n) (a'.drop n):=⟨by simp[h.1],fun i u d c b=>by
 rw[J2]at c b;exact h.2 _ u d c b⟩
def LR.take{ρ:Ren}{a a':E0}(h:LR ρ a a')(n:Nat):LR ρ (a.take n) (a'.take n):=⟨by simp[h.1],fun i u d b c=>by
 have hi:i<n:=by
  have:=(B1.1 b).1;simp at this;omega
 rw[G6 hi]at b c;exact h.2 _ u d b c⟩
def LR.set{ρ:Ren}{a a':E0}(h:LR ρ a a'){v v':Value}(g:VR ρ v v')(n:Nat):LR ρ (a.set n v) (a'.set n v'):=⟨by simp[h.1],fun i u f b c=>by
 by_cases e:n=i
 .subst e;have d:=(B1.1 b).1;simp at d;rw[j8 d]at b;rw[j8 (h.1▸d)]at c;cases b;cases c;exact g
 .rw[eP e]at b c;exact h.2 _ u f b c⟩
def LR.all_pure{ρ:Ren}:∀ {a:E0},a.all J8=true->LR ρ a a
 | [],_=>.nil
 | v::r,h=>by simp only[dY,J5]at h;exact .cons (.pure h.1) (LR.all_pure h.2)
def VR.ofC{ρ:Ren}{v:Value}(h:RV v=true):VR ρ v v:=by
 cases v with
 | agg cs =>
   obtain⟨l⟩:=cs;have:LR ρ l l:=LR.all_pure h;exact .agg this.1 this.2
 | _=>exact .pure h
omit [Ora] in
def jW{u:U}{v:Value}(h:toV u=some v):J8 v=true:=by
 cases u<;>cases h<;>rfl
def PQ{v:Value}(h:J8 v=true):v.cells=#[v]:=by cases v<;>first|rfl|cases h
def VR.cells{ρ:Ren}{v v':Value}(h:VR ρ v v')(l:lU v=false):LR ρ v.cells.toList v'.cells.toList:=by
 have one:∀ {v v':Value},VR ρ v v'->LR ρ [v] [v']:=fun h=>.cons h .nil
 cases h with
 | agg d h=>exact⟨d,h⟩
 | junk h =>
   have b:=A1 (by simpa [lU]using l);rw[bV (h b)];exact one (.junk h)
 | hole h o=>rw[PQ (jW h)];exact one (.hole h o)
 | ixp h f hi p i=>subst i;exact one (.ixp h f hi p rfl)
 | pure hp =>
   cases v with
   | agg cs=>simp[J8]at hp
   | _=>exact one (.pure hp)
 | dat h b a h3 c=>rw[bV c];exact one (.dat h b a h3 c)
 | clp h b a h3 c q=>rw[bV c];exact one (.clp h b a h3 c q)
 | own h b a=>rw[bV a];exact one (.own h b a)
 | dpt h b a=>rw[bV a];exact one (.dpt h b a)
 | opt h b a=>rw[bV a];exact one (.opt h b a)
 | ptr h=>exact one (.ptr h)
 | sl h hm=>exact one (.sl h hm)
 | op h hm n g=>exact one (.op h hm n g)
 | opE f=>exact one (.opE f)
 | map h=>exact one (.map h)
 | yv h=>exact one (.yv h)
 | sdt h=>rw[h.cells];exact one (.sdt h)
 | func d j b a=>exact one (.func d j b a)
 | iface h=>exact one (.iface h)
 | tuple d h=>exact one (.tuple d h)
def AB.on:AB->Bool
 | .frz=>false
 | _=>true
def AB.rw:AB->Bool
 | .cells _ _ ro=>!ro
 | .sq _ _ _ _ ro=>!ro
 | .frz=>false
 | _=>true
def AB.rw_on{ab:AB}(h:ab.rw=true):ab.on=true:=by
 cases ab<;>first|rfl|cases h
def Tc(ab:AB)(l:Loc)(k:Nat):Prop:=(ab.on=true/\l.on=true/\l.blk=k)∨(ab=.frz/\∃ o,l.G k=some o)
def W3(u:U):Value:=(toV u).getD (.tuple #[])
def m6(a:Bool)(us:List U):Value :=
 match a,us with
 | true,us=>.agg ⟨us.map W3⟩
 | false,u::_=>W3 u
 | false,[]=>.tuple #[]
def xM(y:MTy)(rows:List (List U))(es:List MapEntry):Prop :=
 rows.length=es.length/\∀ (i:Nat) (row:List U) (e:MapEntry),rows[i]? = some row->es[i]? = some e->row.map H7=y.ks++y.vs/\e.key=m6 y.ka (row.take y.ks.length)/\e.val=m6 y.va (row.drop y.ks.length)
def GG(es:List MapEntry)(clock:Nat):Prop:=(es.map (·.born)).Nodup/\∀ e ∈ es,e.born<clock
def MpT(t n:Nat)(l:Loc)(w:World):Prop:=t=10+n∨(t=1010+n/\∃ o,l.G l.blk=some o/\w.heap[l.blk]? = some o)
def MpR(P:Program)(u:U)(t:Nat)(T:TypeId)(l:Loc)(w:World):Prop :=
 ∃ y es clock rows,VK P T=some y/\MpT t y.w l w/\w.heap[l.blk]? = some (.map es clock)/\u=.seq false y.w rows/\xM y rows es.toList/\GG es.toList clock
def A78(P:Program)(ρ:Ren)(u:U)(wd:Nat)(T:TypeId)(g:Nat)(ro:Bool)(l:Loc)(w:World):Prop :=
 ∃ C fz a rows lg,w.heap[l.blk]? = some (.cells C a fz)/\u=.seq false wd rows/\rows.length=l.len/\l.len<=l.cap/\l.sh+l.cap*wd<=C.size/\(∀ row ∈ rows,row.length=wd)/\ρ g=some lg /\
  (∀ (r:Nat) (row:List U) (j:Nat) (x:U) (v:Value),rows[r]? = some row->row[j]? = some x->C[l.sh+r*wd+j]? = some v->Enc lg.G x v) /\
  (ro=false->a=T/\∀ i,i<C.size->¬ (fz.1<=i/\i<fz.2))
structure SqR (P:Program) (ρ:Ren) (u:U) (t:Nat) (T:TypeId) (g:Nat) (ro:Bool) (l:Loc) (w:World):Prop where
 ex:∃ wd inf,t=10+wd/\P.info? T=some inf/\inf.size=wd/\((l.on=false/\u=.seq true wd [])∨(l.on=true/\A78 P ρ u wd T g ro l w))
def StR(st:Nat)(s:LoopState)(p:Option Code):Prop :=
 match st with
 | 0=>s=.ready/\p=none
 | 1=>s=.busy
 | 2=>s=.done/\p=some .ret
 | 3=>True
 | k+4=>s=.done/\p=some (.exit k)
structure LpR (P:Program) (ρ:Ren) (f:FuncId) (q:List Bool) (vs:List Value) (st:Nat) (r:Loop):Prop where
 code:∃ fn body x,P.funcs[f]? = some fn/\fn.body=some body/\H8 q body=some (.rangeFunc x r.params r.assign r.body)/\vs.length=fn.ntmps
 fr:LR ρ vs r.tmps.toList
 st:StR st r.state r.pending
def LpR.mono{P:Program}{ρ a:Ren}(he:∀ b l,ρ b=some l->a b=some l){f:FuncId}{q:List Bool}{vs:E0}{st:Nat}{r:Loop}(h:LpR P ρ f q vs st r):LpR P a f q vs st r:=⟨h.code,h.fr.mono he,h.st⟩
structure NF (C:Array Value) (fz:Nat×Nat):Prop where
 nf:∀ i,i<C.size->¬ (fz.1<=i/\i<fz.2)
 le:fz.1<=fz.2
instance{C:c9}{fz:Nat×Nat}:CoeFun (NF C fz) (fun _=>∀ i,i<C.size->¬ (fz.1<=i/\i<fz.2)):=⟨NF.nf⟩
def NF.zero{C:c9}:NF C (0,0):=⟨fun i _ hh=>by have b:0<=i:=hh.1;have a:i<0:=hh.2;omega,A7 _⟩
def NF.end{C:c9}:NF C (C.size,C.size+1):=⟨fun i h hh=>by have a:C.size<=i:=hh.1;omega,x6 _⟩
def NF.sz{C C':c9}{fz:Nat×Nat}(h:NF C fz)(a:C'.size=C.size):NF C' fz:=⟨fun i hi=>h.nf i (a▸hi),h.le⟩
def NF.mark{C:c9}{fz:Nat×Nat}(h:NF C fz):NF C (if fz.1 == fz.2 then(C.size,C.size+1)else(min fz.1 C.size,max fz.2 (C.size+1))):=by
 by_cases e:fz.1=fz.2
 .rw[B0 (by simp[e])];exact .end
 .rw[A9 (by simp[e])];have hle:=h.le;have b:C.size<=fz.1:=by
   rcases G9 fz.1 C.size with a|a
   .exact absurd ⟨A7 _,A0⟩ (h.nf fz.1 a)
   .exact a
  exact⟨fun i hi hh=>by have h3:min fz.1 C.size<=i:=hh.1;omega,by show min fz.1 C.size<=max fz.2 (C.size+1);omega⟩
def BR(P:Program)(ρ:Ren)(ab:AB)(l:Loc)(w:World):Prop :=
 match ab with
 | .cells cs T ro=>l.on=true/\∃ C fz a,w.heap[l.blk]? = some (.cells C a fz)/\(∀ i v,cs[i]? = some v->∃ v',C[l.sh+i]? = some v'/\VR ρ v v') /\
    (ro=false->a=T/\NF C fz/\∀ inf,P.info? T=some inf->l.sh+l.cap*inf.size<=C.size/\l.sh%inf.size=0)
 | .mp c t T=>(l.on=true/\l.sh=0)/\MpR P (Ora.env c) t T l w
 | .iter vs=>(l.on=true/\l.sh=0)/\((∃ s n,w.heap[l.blk]? = some (.stringIter s n)/\LR ρ vs [.string s,.int .i64 (.ofNat n)])∨(vs=[]/\∃ o,l.G l.blk=some o/\w.heap[l.blk]? = some o))
 | .sq c t T g ro=>SqR P ρ (Ora.env c) t T g ro l w
 | .lp f q vs st=>(l.on=true/\l.sh=0)/\∃ r,w.heap[l.blk]? = some (.loop r)/\LpR P ρ f q vs st r
 | .dfr b=>(l.on=true/\l.sh=0)/\∃ x,w.heap[l.blk]? = some (.deferred x)/\(b=true->x=some [])
 | .frz=>l.on=false/\∀ k o,l.G k=some o->w.heap[k]? = some o
def BR.mono{P:Program}{ρ A:Ren}(he:∀ b l,ρ b=some l->A b=some l){ab:AB}{l:Loc}{w w':World}(hw:∀ k,Tc ab l k->w'.heap[k]? = w.heap[k]?)(h:BR P ρ ab l w):BR P A ab l w':=by
 cases ab with
 | cells cs T ro =>
   obtain⟨d,C,fz,B,j,p,h3⟩:=h;exact⟨d,C,fz,B,(hw _ (.inl ⟨rfl,d,rfl⟩)).trans j,fun i v hi=>let ⟨v',a,b⟩:=p i v hi;⟨v',a,b.mono he⟩,h3⟩
 | mp c t T =>
   obtain⟨d,y,es,clock,rows,j,p,h3,u⟩:=h;exact⟨d,y,es,clock,rows,j,p.imp id (fun⟨a,o,b,c⟩=>⟨a,o,b,(hw _ (.inl ⟨rfl,d.1,rfl⟩)).trans c⟩),(hw _ (.inl ⟨rfl,d.1,rfl⟩)).trans h3,u⟩
 | iter vs =>
   obtain⟨d,h⟩:=h;refine⟨d,?_⟩;rcases h with⟨s,n,j,p⟩|⟨j,o,p,h3⟩
   .exact .inl ⟨s,n,(hw _ (.inl ⟨rfl,d.1,rfl⟩)).trans j,p.mono he⟩
   .exact .inr ⟨j,o,p,(hw _ (.inl ⟨rfl,d.1,rfl⟩)).trans h3⟩
 | lp f q vs st=>obtain⟨d,r,j,p⟩:=h;exact⟨d,r,(hw _ (.inl ⟨rfl,d.1,rfl⟩)).trans j,p.mono he⟩
 | dfr b=>obtain⟨d,x,j,p⟩:=h;exact⟨d,x,(hw _ (.inl ⟨rfl,d.1,rfl⟩)).trans j,p⟩
 | sq c t T g ro =>
   obtain⟨wd,inf,j,p,h3,u⟩:=SqR.ex h;refine⟨⟨wd,inf,j,p,h3,u.imp (fun x=>x) fun⟨z,D⟩=>⟨z,?_⟩⟩⟩;obtain⟨C,fz,B,rows,lg,j,p,h3,u,D,G,I,H,F⟩:=D;exact⟨C,fz,B,rows,lg,(hw _ (.inl ⟨rfl,z,rfl⟩)).trans j,p,h3,u,D,G,he _ _ I,H,F⟩
 | frz=>exact⟨h.1,fun k o E=>(hw k (.inr ⟨rfl,o,E⟩)).trans (h.2 k o E)⟩
structure HR (P:Program) (base:Nat) (ρ:Ren) (H:Hp AB) (w:World):Prop where
 dom:∀ b l,ρ b=some l->b<=J0
 at_:∀ id,id<=J0->∀ ab,Hp.get H id=some ab->∃ l,ρ id=some l/\BR P ρ ab l w/\(ab.rw=true->l.on=true->base<=l.blk/\∀ id2,id2<=J0->∀ ab2 l2,Hp.get H id2=some ab2->ρ id2=some l2->Tc ab2 l2 l.blk->id2=id)
def BR.tc{P:Program}{ρ:Ren}{ab:AB}{l:Loc}{w:World}(h:BR P ρ ab l w){k:Nat}(v:Tc ab l k):k<w.heap.size:=by
 have key:∀ k o,w.heap[k]? = some o->k<w.heap.size:=fun k o u=>(D5.1 u).1
 rcases v with⟨a,i,rfl⟩|⟨rfl,o,a⟩
 .cases ab with
  | cells cs T ro=>obtain⟨_,C,fz,p,a,_⟩:=h;exact key _ _ a
  | mp c t T=>obtain⟨A,y,es,clock,rows,a,z,h3,j⟩:=h;exact key _ _ h3
  | iter vs =>
    obtain⟨_,h⟩:=h;rcases h with⟨s,n,a,_⟩|⟨_,o,_,a⟩<;>exact key _ _ a
  | lp f q vs st=>obtain⟨_,r,a,_⟩:=h;exact key _ _ a
  | dfr b=>obtain⟨_,x,a,_⟩:=h;exact key _ _ a
  | sq c t T g ro =>
    obtain⟨wd,inf,_,_,_,j⟩:=SqR.ex h;rcases j with⟨d,_⟩|⟨_,d⟩
    .rw[i]at d;cases d
    .obtain⟨C,fz,p,rows,lg,a,_⟩:=d;exact key _ _ a
  | frz=>cases a
 .exact key _ _ (h.2 k o a)
def HR.atl{P:Program}{base:Nat}{ρ:Ren}{H:Hp AB}{w:World}(h:HR P base ρ H w){id:Nat}{l:Loc}(c:ρ id=some l){ab:AB}(g:Hp.get H id=some ab) :
  BR P ρ ab l w/\(ab.rw=true->l.on=true->base<=l.blk/\∀ a,a<=J0->∀ b l2,Hp.get H a=some b->ρ a=some l2->Tc b l2 l.blk->a=id):=by
 obtain⟨i,d,f,h3⟩:=h.at_ id (h.dom id l c) ab g;rw[c]at d
 have:=A8 d;subst this;exact⟨f,h3⟩
def HR.sub{P:Program}{base:Nat}{ρ:Ren}{H p:Hp AB}{w:World}(h:HR P base ρ H w)(o:∀ id,id<=J0->∀ ab,Hp.get p id=some ab->Hp.get H id=some ab):HR P base ρ p w :=
 ⟨h.dom,fun id hid ab j=>let ⟨l,a,b,c⟩:=h.at_ id hid ab (o id hid ab j);⟨l,a,b,fun hr n=>⟨(c hr n).1,fun f d i l2 g=>(c hr n).2 f d i l2 (o f d i g)⟩⟩⟩
def AB.fr:AB->Bool
 | .cells _ _ ro=>!ro
 | _=>true
def AB.rw_fr{ab:AB}(h:ab.rw=true):ab.fr=true:=by
 cases ab<;>first|rfl|exact h
def Tf(ab:AB)(l:Loc)(k:Nat):Prop:=ab.fr=true/\Tc ab l k
def Fp(ρ:Ren)(H:Hp AB)(k:Nat):Prop:=∃ id ab l,id<=J0/\Hp.get H id=some ab/\ρ id=some l/\Tf ab l k
structure St (P:Program) (base:Nat) (ρ ρ':Ren) (m m':Mem) (w w':World):Prop where
 ext:∀ b l,ρ b=some l->ρ' b=some l
 new:∀ b l,ρ' b=some l->ρ b=none->m.n<=b/\b<m'.n
 nle:m.n<=m'.n
 hle:m.hi<=m'.hi
 nhi:m.n<=m.hi->m'.n<=m'.hi
 hr:HR P base ρ' m'.H w'
 wsub:∀ b ∈ m.W,b ∈ m'.W
 wrw:∀ b ∈ m'.W,b ∉ m.W->∀ l,ρ b=some l->∃ ab,Hp.get m.H b=some ab/\ab.rw=true
 keep:∀ k,k<w.heap.size->(∀ b ∈ m'.W,∀ l,ρ b=some l->l.on=true->l.blk≠k)->w'.heap[k]? = w.heap[k]?
 size:w.heap.size<=w'.heap.size
 os:w'.os=w.os/\w'.tape=w.tape/\w'.output=w.output
 blk:∀ b l,ρ' b=some l->ρ b=none->l.on=true->w.heap.size<=l.blk∨∃ b0 ∈ m'.W,∃ l0,ρ b0=some l0/\l0.on=true/\l0.blk=l.blk
 same:∀ id,id<=J0->id ∉ m'.W->(id<m.n∨m'.hi<=id)->Hp.get m'.H id=Hp.get m.H id
 tch:∀ k,Fp ρ' m'.H k->w.heap.size<=k∨Fp ρ m.H k
def L1(ρ:Ren)(n hi:Nat):Prop:=∀ b,n<=b->b<hi->ρ b=none
def St.refl{P:Program}{base:Nat}{ρ:Ren}{m:Mem}{w:World}(h:HR P base ρ m.H w):St P base ρ ρ m m w w :=
 ⟨fun _ _ h=>h,fun b l c a=>(by rw[c]at a;cases a),A7 _,A7 _,fun h=>h,h,fun _ h=>h,fun b c a=>absurd c a,fun _ _ _=>rfl,A7 _,⟨rfl,rfl,rfl⟩,fun b l c a=>(by rw[c]at a;cases a),fun _ _ _ _=>rfl,fun _ h=>.inr h⟩
def St.trans{P:Program}{base:Nat}{ρ q ρ2:Ren}{m m1 m2:Mem}{w w1 w2:World}(J:L1 ρ m.n m2.hi)(a:St P base ρ q m m1 w w1)(c:St P base q ρ2 m1 m2 w1 w2):St P base ρ ρ2 m m2 w w2:=by
 refine⟨fun b l h=>c.ext b l (a.ext b l h),fun b l d o=>?_,C3 a.nle c.nle,C3 a.hle c.hle,fun h=>c.nhi (a.nhi h),c.hr,fun b h=>c.wsub b (a.wsub b h),fun b d o l g=>?_,fun k z A=>?_,C3 a.size c.size,⟨c.os.1.trans a.os.1,c.os.2.1.trans a.os.2.1,c.os.2.2.trans a.os.2.2⟩,fun b l d o v=>?_,fun id hid d o=>?_,fun k z=>(c.tch k z).elim (fun h=>.inl (C3 a.size h)) (a.tch k)⟩
 .cases h:q b with
  | some l1=>exact⟨(a.new b l1 h o).1,E1 (a.new b l1 h o).2 c.nle⟩
  | none=>exact⟨C3 a.nle (c.new b l d h).1,(c.new b l d h).2⟩
 .by_cases h:b ∈ m1.W
  .exact a.wrw b h o l g
  .obtain⟨ab,h3,I⟩:=c.wrw b d h l (a.ext b l g);refine⟨ab,?_,I⟩;rw[<- a.same b (a.hr.dom b l (a.ext b l g)) h ?_]
   .exact h3
   .rcases G9 b m.n with C|F
    .exact .inl C
    .refine .inr ?_;rcases G9 b m2.hi with f|f
     .rw[J b F f]at g;cases g
     .exact C3 c.hle f
 .have d:w1.heap[k]? = w.heap[k]? := a.keep k z fun b t l g x=>A b (c.wsub b t) l g x
  rw[<- d];refine c.keep k (E1 z a.size) fun b t l g x=>?_
  cases h:ρ b with
  | some r =>
    have:=a.ext b r h;rw[this]at g;have g:=A8 g;subst g;exact A b t r h x
  | none =>
    rcases a.blk b l g h x with f|⟨i,f,r,p,j,s⟩
    .omega
    .rw[<- s];exact A i (c.wsub i f) r p j
 .cases h:q b with
  | some l1 =>
    have:=c.ext b l1 h;rw[this]at d;have d:=A8 d;subst d;rcases a.blk b l1 h o v with f|⟨i,f,r,p,s⟩
    .exact .inl f
    .exact .inr ⟨i,c.wsub i f,r,p,s⟩
  | none =>
    rcases c.blk b l d h v with f|⟨i,f,r,p,j,s⟩
    .exact .inl (C3 a.size f)
    .cases E:ρ i with
     | some l1 =>
       have:=a.ext i l1 E;rw[this]at p;have p:=A8 p;subst p;exact .inr ⟨i,f,l1,E,j,s⟩
     | none =>
       rcases a.blk i r p E j with B|⟨H,B,l1,D,u,G⟩
       .exact .inl (s▸B)
       .exact .inr ⟨H,c.wsub H B,l1,D,u,G.trans s⟩
 .have h3:id ∉ m1.W:=fun h=>d (c.wsub id h)
  rw[c.same id hid d (o.imp (fun h=>E1 h a.nle) fun h=>h),a.same id hid h3 (o.imp (fun h=>h) fun h=>C3 c.hle h)]
end
section
open Go
variable [Ora]
def B3{a b:Bool}(h:(a && b)=true):a=true/\b=true:=by simpa using h
theorem A3{α:Type}{c:Bool}{x:Option α}{y:α}(h:(bif c then x else none)=some y):c=true/\x=some y:=by
 cases c
 .simp at h
 .exact⟨rfl,h⟩
def N0{m:Mem}{ab:AB}{v:Value}{m':Mem}(h:w8 m ab k=some (v,m')):m.n<=J0/\v=k m.n/\m'=⟨m.H.set m.n (some ab),m.n+1,m.W,upN m.hi m.n,m.lg⟩:=by
 obtain⟨H,n,W,hi,lg⟩:=m;simp only[w8,F5,gB]at h;obtain⟨b,a⟩:=A3 h;simp only[D9,Q0]at a;exact⟨by simpa using b,a.1.symm,a.2.symm⟩
def Y6{m:Mem}{id:Nat}{ab:AB}{m':Mem}(h:eA m id ab=some m'):id<=J0/\m'=⟨m.H.set id (some ab),m.n,id::m.W,m.hi,m.lg⟩:=by
 obtain⟨H,n,W,hi,lg⟩:=m;simp only[eA,F5,gB]at h;obtain⟨b,a⟩:=A3 h;simp only[D9]at a;exact⟨by simpa using b,a.symm⟩
def aV(m:Mem)(id:Nat):mL m id=⟨m.H.set id none,m.n,id::m.W,m.hi,m.lg⟩:=by
 obtain⟨H,n,W,hi,lg⟩:=m;simp only[mL,F5,gB]
def L8(hi n:Nat):hi<=upN hi n/\n<upN hi n:=by
 unfold upN;cases h:Nat.blt n hi with
 | true=>have:=A2 h;simp;omega
 | false =>
   have:¬ n<hi:=fun a=>by rw[show Nat.blt n hi=true from C5 a]at h;cases h
   simp;omega
def upd(ρ:Ren)(n:Nat)(l:Loc):Ren:=fun b=>if b=n then some l else ρ b
def i0{ρ:Ren}{n:Nat}{l:Loc}(h:ρ n=none):∀ b k,ρ b=some k->upd ρ n l b=some k:=fun b k a=>by
 unfold upd;by_cases e:b=n
 .subst e;rw[h]at a;cases a
 .rw[A9 e];exact a
def N2(ρ:Ren)(n:Nat)(l:Loc):upd ρ n l n=some l:=by simp[upd]
def Y5{ρ:Ren}{n:Nat}{l:Loc}{b:Nat}{k:Loc}(h:upd ρ n l b=some k)(a:ρ b=none):b=n/\k=l:=by
 unfold upd at h;by_cases e:b=n
 .rw[B0 e]at h;exact⟨e,(A8 h).symm⟩
 .rw[A9 e]at h;rw[a]at h;cases h
section
variable {P:Program} {base:Nat} {ρ:Ren} {m m':Mem} {w w':World}
def St.alloc{ab:AB}{v:Value}{o:Obj}{l:Loc}(h:HR P base ρ m.H w)(E:base<=w.heap.size)(K:w8 m ab k=some (v,m'))(J:L1 ρ m.n m'.hi)
  (A:w'.os=w.os/\w'.tape=w.tape/\w'.output=w.output) (hh:w'.heap=w.heap.push o) (M:l.blk=w.heap.size) (C:BR P (upd ρ m.n l) ab l w') (D:ab≠.frz:=by intro h;cases h) :
  v=k m.n/\upd ρ m.n l m.n=some l/\St P base ρ (upd ρ m.n l) m m' w w':=by
 obtain⟨hle,G,rfl⟩:=N0 K;have s:ρ m.n=none:=J m.n (A7 _) (L8 _ _).2;have f:=i0 (l:=l) s;have z:∀ k,Tc ab l k->w.heap.size<=k:=fun k j=>by
  rcases j with⟨_,_,rfl⟩|⟨rfl,_⟩
  .omega
  .exact absurd rfl D
 have hold:∀ k,k<w.heap.size->w'.heap[k]? = w.heap[k]? := fun k j=>by rw[hh,aP];rw[A9 A0]
 refine⟨G,N2 _ _ _,f,fun b k p c=>?_,by simp,(L8 _ _).1,fun _=>t7 (L8 _ _).2,⟨fun b k j=>?_,fun id hid a d=>?_⟩,fun b E=>E,fun b p c=>absurd p c,fun k j _=>hold k j,by rw[hh];simp,A,fun b k p c _=>?_,fun id hid p c=>?_,fun k ⟨id,a,q,hid,d,r,F⟩=>?_⟩
 .obtain⟨rfl,rfl⟩:=Y5 p c;exact⟨A7 _,K1 _⟩
 .cases t:ρ b with
  | some B =>
    rw[f b B t]at j
    have:=A8 j;subst this;exact h.dom b B t
  | none=>obtain⟨rfl,rfl⟩:=Y5 j t;exact hle
 .rw[F6 _ _ _ _ hle hid]at d;by_cases e:id=m.n
  .rw[B0 e]at d;have d:=A8 d;subst d;subst e;refine⟨l,N2 _ _ _,C,fun _ _=>⟨A0,fun i g x l2 c h3 I=>?_⟩⟩;cases t:ρ i with
   | some B =>
     rw[f i B t]at h3
     have:=A8 h3;subst this;rw[F6 _ _ _ _ hle g]at c;by_cases u:i=m.n
     .exact u
     .rw[A9 u]at c
      have:=(h.atl t c).1.tc I;omega
   | none=>exact(Y5 h3 t).1
  .rw[A9 e]at d;obtain⟨L,p,c,h3⟩:=h.at_ id hid a d;refine⟨L,f _ _ p,c.mono f (fun k j=>hold _ (c.tc j)),fun hr A=>⟨(h3 hr A).1,fun i g x l2 g1 g2 g3=>?_⟩⟩;rw[F6 _ _ _ _ hle g]at g1;by_cases u:i=m.n
   .subst u;rw[N2]at g2
    have:=A8 g2;subst this;have g1:=A8 (by simpa using g1);subst g1
    have:=c.tc (.inl ⟨AB.rw_on hr,A,rfl⟩)
    have:=z _ g3;omega
   .rw[A9 u]at g1;unfold upd at g2;rw[A9 u]at g2;exact(h3 hr A).2 i g x l2 g1 g2 g3
 .obtain⟨rfl,rfl⟩:=Y5 p c;exact .inl A0
 .rw[F6 _ _ _ _ hle hid,A9];intro e;subst e;rcases c with c|c
  .omega
  .have c:upN m.hi m.n<=m.n:=c
   have:=(L8 m.hi m.n).2;omega
 .have d:Hp.get (m.H.set m.n (some ab)) id=some a:=d;rw[F6 _ _ _ _ hle hid]at d;by_cases e:id=m.n
  .subst e;rw[B0 rfl]at d;have d:=A8 d;subst d;rw[N2]at r;have r:=A8 r;subst r;exact .inl (z k F.2)
  .rw[A9 e]at d;unfold upd at r;rw[A9 e]at r;exact .inr ⟨id,a,q,hid,d,r,F⟩
def St.write{ab ab':AB}{id:Nat}{l:Loc}(h:HR P base ρ m.H w)(M:eA m id ab'=some m')(C:Hp.get m.H id=some ab)(n:ab.rw=true)(r:ρ id=some l)(t:l.on=true)
  (L:w'.os=w.os/\w'.tape=w.tape/\w'.output=w.output) (F:w'.heap.size=w.heap.size) (D:∀ k,k≠l.blk->w'.heap[k]? = w.heap[k]?) (E:BR P ρ ab' l w') (B:ab'≠.frz:=by intro h;cases h):St P base ρ ρ m m' w w':=by
 have z:∀ k,Tc ab' l k->Tc ab l k∨k=l.blk:=fun k D=>by
  rcases D with⟨_,_,rfl⟩|⟨rfl,_⟩
  .exact .inr rfl
  .exact absurd rfl B
 obtain⟨hle,rfl⟩:=Y6 M;obtain⟨p,h3⟩:=h.atl r C;refine⟨fun _ _ h=>h,fun b k s p=>(by rw[s]at p;cases p),A7 _,A7 _,fun h=>h,⟨h.dom,fun d c a g=>?_⟩,fun b E=>D1 _ E,fun b s p k o=>?_,fun k o G=>D k ?_,by rw[F];exact A7 _,L,fun b k s p=>(by rw[s]at p;cases p),fun d c K N=>?_,fun k ⟨d,a,q,c,g,v,J⟩=>.inr ?_⟩
 .rw[F6 _ _ _ _ hle c]at g;by_cases e:d=id
  .rw[B0 e]at g;have g:=A8 g;subst g;subst e;refine⟨l,r,E,fun _ i=>⟨(h3 n i).1,fun j f u I g1 g2 g3=>?_⟩⟩;rw[F6 _ _ _ _ hle f]at g1;by_cases x:j=d
   .exact x
   .rw[A9 x]at g1;exact(h3 n i).2 j f u I g1 g2 g3
  .rw[A9 e]at g;obtain⟨l2,g1,g2,g3⟩:=h.at_ d c a g;have A:∀ k,Tc a l2 k->k≠l.blk:=fun k o hh=>e ((h3 n t).2 d c a l2 g g1 (hh▸o))
   refine⟨l2,g1,g2.mono (fun _ _ h=>h) (fun k o=>D _ (A k o)),fun hr i=>⟨(g3 hr i).1,fun j f u I f1 f2 f3=>?_⟩⟩;rw[F6 _ _ _ _ hle f]at f1;by_cases x:j=id
   .subst x;rw[r]at f2
    have:=A8 f2;subst this;have f1:=A8 (by simpa using f1);subst f1;rcases z _ f3 with f3|f3
    .exact(g3 hr i).2 j f ab l C r f3
    .exact absurd f3 (A _ (.inl ⟨AB.rw_on hr,i,rfl⟩))
   .rw[A9 x]at f1;exact(g3 hr i).2 j f u I f1 f2 f3
 .rcases C4.1 s with rfl|s
  .exact⟨ab,C,n⟩
  .exact absurd s p
 .exact fun e=>G id B6 l r t e.symm
 .rw[F6 _ _ _ _ hle c,A9];intro e;subst e;exact K B6
 .have g:Hp.get (m.H.set id (some ab')) d=some a:=g;rw[F6 _ _ _ _ hle c]at g;by_cases e:d=id
  .subst e;rw[B0 rfl]at g;have g:=A8 g;subst g;rw[r]at v;have v:=A8 v;subst v;refine⟨d,ab,l,c,C,r,AB.rw_fr n,.inl ⟨AB.rw_on n,t,?_⟩⟩;rcases J.2 with⟨_,_,h⟩|⟨h,_⟩
   .exact h
   .exact absurd h B
  .rw[A9 e]at g;exact⟨d,a,q,c,g,v,J⟩
def lY{o n:Nat}{r:E0}(h:A1F cs o n=some r):r=(cs.drop o).take n/\r.length=n:=by
 unfold A1F at h;simp only at h;obtain⟨b,a⟩:=A3 h;have a:=(A8 a).symm;subst a;exact⟨rfl,A1 b⟩
theorem bS{C:c9}{cs:E0}{s:Nat}(h:∀ (i:Nat) (v:Value),cs[i]? = some v->∃ v',C[s+i]? = some v'/\VR ρ v v'):∃ cs',LR ρ cs cs'/\∀ (i:Nat) (v':Value),cs'[i]? = some v'->C[s+i]? = some v':=by
 induction cs generalizing s with
 | nil=>exact⟨[],.nil,fun i v' h=>by simp at h⟩
 | cons v r d =>
   obtain⟨v',c,g⟩:=h 0 v rfl;obtain⟨r',h3,f⟩:=d (s:=s+1) fun i u hi=>by
    obtain⟨j,a,b⟩:=h (i+1) u (by simpa using hi);exact⟨j,by rw[show s+1+i=s+(i+1) by omega];exact a,b⟩
   refine⟨v'::r',.cons g h3,fun i u hi=>?_⟩;cases i with
   | zero=>simp at hi;subst hi;simpa using c
   | succ i =>
     have:=f i u (by simpa using hi);rw[show s+(i+1)=s+1+i by omega];exact this
def aA{a:Addr}{n:Nat}{r:E0}{l:Loc}(h:HR P base ρ m.H w)(hr:bR m a n=some r)(o:ρ a.block=some l) :
  ∃ r',LR ρ r r'/\r'.length=n/\(∀ (j:Nat) (v':Value),r'[j]? = some v'->w.cell? ⟨l.blk,a.off+l.sh+j,none⟩=some v'):=by
 unfold bR at hr;split at hr
 .rename_i cs T ro f q;obtain⟨d,b⟩:=lY hr;obtain⟨⟨_,C,fz,x,p,h3,_⟩,_⟩:=h.atl o q;obtain⟨r',g,u⟩:=bS (ρ:=ρ) (C:=C) (cs:=r) (s:=l.sh+a.off) fun i v hi=>by
   have c:i<n:=by
    have:=(B1.1 hi).1;omega
   rw[d,G6 c,J2]at hi;obtain⟨v',g1,g2⟩:=h3 _ v hi;exact⟨v',by rw[show l.sh+a.off+i=l.sh+(a.off+i) by omega];exact g1,g2⟩
  refine⟨r',g,g.1▸b,fun j v' t=>?_⟩
  have:=u j v' t;simp[World.cell?,p,show a.off+l.sh+j=l.sh+a.off+j by omega,this]
 .cases hr
def L2.add_none'{b o i:Nat}:(Addr.mk b o none).add i=⟨b,o+i,none⟩:=by
 unfold Addr.add;split
 .rename_i h;subst h;rfl
 .rfl
def L2{b o:Nat}{r':E0}{n:Nat}(a:r'.length=n)(h:∀ (j:Nat) (v':Value),r'[j]? = some v'->w.cell? ⟨b,o+j,none⟩=some v'):(loadCells ⟨b,o,none⟩ n).run P w=.ok ⟨r'⟩ w:=by
 subst a
 have:=run_loadCells_list (P:=P) w ⟨b,o,none⟩ r' (fun j v c=>by rw[L2.add_none'];exact h j v c);exact this
def nW{a:Addr}{n:Nat}(b:r'.length=n)(h:∀ (j:Nat) (v':Value),r'[j]? = some v'->w.cell? (a.add j)=some v'):(loadCells a n).run P w=.ok ⟨r'⟩ w:=by
 subst b;exact run_loadCells_list (P:=P) w a r' h
def w7:∀ (vs cs:List Value) (k:Nat),(eE cs k vs).length=cs.length
 | [],_,_=>rfl
 | v::r,cs,k=>by rw[eE,w7 r];simp
def RT{cs cs':E0}(h:LR ρ cs cs'):∀ {vs a:E0} {k:Nat},LR ρ vs a->LR ρ (eE cs k vs) (eE cs' k a)
 | [],a,k,hv=>by rw[hv.nil_inv];exact h
 | v::r,a,k,hv=>by
   obtain⟨v',r',rfl,c,b⟩:=hv.tail;simp only[eE];exact RT (h.set c k) b
def A2j{v v':Value}(h:VR ρ v v')(a:flat v=true):dJ v'=true:=by
 cases h with
 | hole h _=>have:=jW h;cases v'<;>first|rfl|cases this
 | junk h=>exact h (A1 a)
 | pure hp=>cases v<;>first|rfl|cases a|cases hp
 | ixp h c hi d b=>subst b;rfl
 | sdt h=>exact h.flat
 | _=>first|assumption|exact a|rfl
def IJ:∀ {vs a:E0},LR ρ vs a->vs.all flat=true->a.all dJ=true
 | [],a,h,_=>by rw[h.nil_inv];rfl
 | v::r,a,h,hf=>by
   obtain⟨v',r',rfl,c,b⟩:=h.tail;simp only[dY,J5]at hf ⊢;exact⟨A2j c hf.1,IJ b hf.2⟩
def w6{b o:Nat}{T:TypeId}{fz:Nat×Nat}:∀ (vs:List Value) (i:Nat) (C:Array Value) (w:World),w.heap[b]? = some (.cells C T fz)->vs.all dJ=true->o+i+vs.length<=C.size ->
  (∀ i,i<C.size->¬ (fz.1<=i/\i<fz.2)) ->
  ∃ w',(storeCells ⟨b,o,none⟩ vs i).run P w=.ok () w'/\(w'.os=w.os/\w'.tape=w.tape/\w'.output=w.output)/\w'.heap.size=w.heap.size/\w'.heap[b]? = some (.cells ⟨eE C.toList (o+i) vs⟩ T fz)/\∀ k,k≠b->w'.heap[k]? = w.heap[k]?
 | [],i,C,w,h,_,_,_=>⟨w,rfl,⟨rfl,rfl,rfl⟩,rfl,h,fun _ _=>rfl⟩
 | v::r,i,C,w,h,a,hl,hz=>by
   simp only[dY,J5]at a;simp only[B2]at hl;have d:o+i<C.size:=A0;have l:(w.setCell ⟨b,o+i,none⟩ v).heap[b]? = some (.cells (C.setIfInBounds (o+i) v) T fz):=by
    simp[World.setCell,I1,h]
   obtain⟨w',hr,p,g,n,q⟩:=w6 (b:=b) (o:=o) (T:=T) (fz:=fz) r (i+1) (C.setIfInBounds (o+i) v) (w.setCell ⟨b,o+i,none⟩ v) l a.2 (by simp;omega) (by simpa using hz);refine⟨w',?_,?_,?_,?_,fun k c=>?_⟩
   .have s:w.cell? ⟨b,o+i,none⟩=some C[o+i]:=by simp[World.cell?,h,d]
    have t:w.frozen? ⟨b,o+i,none⟩=false:=by
     have:=hz (o+i) d;simp only[World.frozen?,h];by_cases a:fz.1<=o+i<;>by_cases j:o+i<fz.2<;>simp[a,j]<;>exact absurd ⟨a,j⟩ this
    have f:(store ((Addr.mk b o none).add i) v).run P w=.ok () (w.setCell ⟨b,o+i,none⟩ v):=by
     rw[L2.add_none'];unfold store;cases v<;>simp_all [Sem.run,dJ]
    unfold storeCells;simp only[A5,f,Result.andThen];exact hr
   .simpa [World.setCell]using p
   .rw[g];simp[World.setCell]
   .rw[n];have:(C.setIfInBounds (o+i) v).toList=C.toList.set (o+i) v:=by simp
    rw[this];simp[eE,dX]
   .rw[q k c];simp only[World.setCell,I1];rw[A9 (fun e=>c e.symm)]
def nN(vs:List Value):∀ (cs:List Value) (k i:Nat),k+vs.length<=cs.length->(eE cs k vs)[i]? = if k<=i/\i<k+vs.length then vs[i-k]? else cs[i]? := by
 induction vs with
 | nil=>intro cs k i h;simp[eE];intro b a;omega
 | cons v r c =>
   intro cs k i h;simp only[B2]at h ⊢;rw[eE,c (cs.set k v) (k+1) i (by simp;omega)];by_cases b:k+1<=i/\i<k+1+r.length
   .rw[B0 b,B0 A0,show i-k=(i-(k+1))+1 by omega];rfl
   .rw[A9 b];by_cases a:i=k
    .subst a;rw[B0 A0,mE,j8 A0];rfl
    .rw[A9 A0,eP (fun e=>a e.symm)]
def rX{a:Addr}{vs c:E0}{l:Loc}(h:HR P base ρ m.H w)(hw:qP m a vs=some m')(s:ρ a.block=some l)(r:LR ρ vs c) :
  ∃ w',(storeCells ⟨l.blk,a.off+l.sh,none⟩ c).run P w=.ok () w'/\St P base ρ ρ m m' w w':=by
 unfold qP at hw;split at hw
 .rename_i cs T B x;obtain⟨I,A⟩:=A3 hw;obtain⟨n,q⟩:=B3 I;have n:=A2 n;rw[J4]at A;obtain⟨⟨d,C,fz,R,E,h3,D⟩,S⟩:=h.atl s x;obtain⟨rfl,F,N⟩:=D rfl;have f:∀ i,i<cs.length->l.sh+i<C.size:=fun i hi=>by
   obtain⟨v',g,_⟩:=h3 i cs[i] (A6 hi);exact(D5.1 g).1
  have hlen:c.length=vs.length:=r.1.symm;by_cases Q:vs.length=0
  .have M:vs=[]:=H3.1 Q;have K:c=[]:=H3.1 A0;subst M;subst K;exact⟨w,rfl,St.write h A x rfl s d ⟨rfl,rfl,rfl⟩ rfl (fun _ _=>rfl) ⟨d,C,fz,_,E,by simpa [eE]using h3,D⟩⟩
  .have J:l.sh+(a.off+vs.length-1)<C.size:=f _ A0;obtain⟨w',hr,L,u,t,O⟩:=w6 (P:=P) (b:=l.blk) (o:=a.off+l.sh) (fz:=fz) c 0 C w E (IJ r q) A0 F;refine⟨w',hr,St.write h A x rfl s d L u O ⟨d,_,fz,_,t,fun i v hi=>?_,fun _=>⟨rfl,F.sz (by simp[w7]),by simpa [w7]using N⟩⟩⟩;rw[nN _ _ _ _ n]at hi;have G:C.toList.length=C.size:=by simp
   have z:∀ j,(eE C.toList (a.off+l.sh+0) c)[l.sh+j]? = if a.off<=j/\j<a.off+c.length then c[j-a.off]? else C.toList[l.sh+j]? := fun j=>by
    rw[nN _ _ _ _ A0];by_cases p:a.off<=j/\j<a.off+c.length
    .rw[B0 p,B0 A0,show l.sh+j-(a.off+l.sh+0)=j-a.off by omega]
    .rw[A9 p,A9 A0]
   show ∃ v',(Array.mk (eE C.toList (a.off+l.sh+0) c))[l.sh+i]? = some v'/\_;simp only[K6,z];by_cases p:a.off<=i/\i<a.off+vs.length
   .rw[B0 p]at hi;rw[B0 A0];exact r.get hi
   .rw[A9 p]at hi;rw[A9 A0];obtain⟨v',g1,g2⟩:=h3 i v hi;exact⟨v',by simpa using g1,g2⟩
 .cases hw
end
end
section
open Go
variable [Ora]
def VOk(P:Program)(base:Nat)(ρ:Ren)(m:Mem)(w:World)(s:Sem Value)(v:Value)(m':Mem):Prop :=
 ∃ v' a w',s.run P w=.ok v' w'/\VR a v v'/\St P base ρ a m m' w w'
def UOk(P:Program)(base:Nat)(ρ:Ren)(m:Mem)(w:World)(s:Sem Unit)(m':Mem):Prop :=
 ∃ a w',s.run P w=.ok () w'/\St P base ρ a m m' w w'
section
variable {P:Program} {base:Nat} {ρ:Ren} {m m':Mem} {w:World}
def VOk.same{s:Sem Value}{v v':Value}(h:HR P base ρ m.H w)(hr:s.run P w=.ok v' w)(a:VR ρ v v'):VOk P base ρ m w s v m:=⟨v',ρ,w,hr,a,.refl h⟩
theorem eH{b:Bool}{v':Value}(h:VR ρ (.bool b) v'):v'=.bool b:=by cases h;rfl
theorem K2{k:IntKind}{n:Int}{v':Value}(h:VR ρ (.int k n) v'):v'=.int k n:=by cases h;rfl
theorem Y7{s:ByteArray}{v':Value}(h:VR ρ (.string s) v'):v'=.string s:=by cases h;rfl
theorem Q3{a:Addr}{v':Value}(h:VR ρ (.pointer (some a)) v'):∃ l,ρ a.block=some l/\a.spot=none/\v'=.pointer (some ⟨l.blk,a.off+l.sh,none⟩):=by
 cases h with
 | pure hp=>simp[J8]at hp
 | ptr h=>exact⟨_,h,rfl,rfl⟩
def Z7{cs:c9}{v':Value}(h:VR ρ (.agg cs) v'):∃ cs',v'=.agg ⟨cs'⟩/\LR ρ cs.toList cs':=by
 cases h with
 | pure hp=>simp[J8]at hp
 | agg a h=>exact⟨_,rfl,a,h⟩
def vA{cs:c9}{v':Value}(h:VR ρ (.tuple cs) v'):∃ cs',v'=.tuple ⟨cs'⟩/\LR ρ cs.toList cs':=by
 cases h with
 | pure hp=>simp[J8]at hp
 | tuple a h=>exact⟨_,rfl,a,h⟩
def Z1{t:TypeId}{i:TypeInfo}(h:P.info? t=some i)(w:World):(typeInfo t).run P w=.ok i w:=by simp[typeInfo,A5,run_program,Result.andThen,h]
def L7{t:TypeId}{n:Nat}(h:I2 P t=some n)(w:World):(sizeOf t).run P w=.ok n w:=by
 unfold I2 at h;split at h
 .rename_i i hi
  have:=A8 h;subst this;simp[sizeOf,A5,Z1 hi,Result.andThen]
 .cases h
def D7{t:TypeId}{d:TypeDesc}(h:P.underlying t=some d)(w:World):(underlying t).run P w=.ok d w:=by simp[underlying,A5,run_program,Result.andThen,h]
def dU{t:TypeId}{b:Bool}(h:cQ P t=some b)(w:World):(isAgg t).run P w=.ok b w:=by
 unfold cQ at h;cases hu:P.underlying t with
 | none=>rw[hu]at h;cases h
 | some d =>
   rw[hu]at h;simp only[isAgg,A5,D7 hu,Result.andThen];cases d<;>cases h<;>rfl
def yU{t:TypeId}{z:Value}(h:iC P t=some z):∃ i,P.info? t=some i/\i.zero=some z/\RV z=true:=by
 unfold iC at h;split at h
 .rename_i i hi;split at h
  .rename_i v a;obtain⟨b,c⟩:=A3 h
   have:=A8 c;subst this;exact⟨i,hi,a,b⟩
  .cases h
 .cases h
def cI{t:TypeId}{z:Value}(h:iC P t=some z)(w:World):(zeroValue t).run P w=.ok z w:=by
 obtain⟨i,hi,a,_⟩:=yU h;simp[zeroValue,A5,Z1 hi,Result.andThen,a]
def rW{t:TypeId}{z:Value}(h:iC P t=some z):LR ρ z.cells.toList z.cells.toList:=by
 obtain⟨i,hi,a,hp⟩:=yU h;exact(VR.ofC hp).cells (by cases z<;>first|rfl|cases hp)
def MA{t:TypeId}{a:Addr}{v:Value}{l:Loc}(h:HR P base ρ m.H w)(b:SO P m t a=some v)(f:ρ a.block=some l) :
  ∃ v',(loadVar t ⟨l.blk,a.off+l.sh,none⟩).run P w=.ok v' w/\VR ρ v v':=by
 unfold SO at b;split at b
 .rename_i d;split at b
  .rename_i n j;split at b
   .rename_i cs hr
    have:=A8 b;subst this;obtain⟨r',c,g,h3⟩:=aA h hr f;refine⟨.agg ⟨r'⟩,?_,.agg c.1 c.2⟩;simp[loadVar,A5,dU d,L7 j,Result.andThen,L2 g h3]
   .cases b
  .cases b
 .rename_i d;split at b
  .rename_i u r hr
   have:=A8 b;subst this;obtain⟨r',c,g,h3⟩:=aA h hr f;obtain⟨v',o,rfl,i,_⟩:=c.tail;refine⟨v',?_,i⟩
   have:=h3 0 v' rfl;simp[loadVar,A5,dU d,Result.andThen,run_load,show w.cell? ⟨l.blk,a.off+l.sh,none⟩=some v' from by simpa using this]
  .cases b
 .cases b
def UK{t:TypeId}{a:Addr}{v v':Value}{l:Loc}(h:HR P base ρ m.H w)(c:zE P m t a v=some m')(i:ρ a.block=some l)(g:VR ρ v v') :
  UOk P base ρ m w (storeVar t ⟨l.blk,a.off+l.sh,none⟩ v') m':=by
 unfold zE at c;split at c
 .rename_i n p;obtain⟨b,j⟩:=A3 c;obtain⟨b,o⟩:=B3 b;have b:=A1 b;have f:=g.cells (by simpa using o);obtain⟨w',hr,d⟩:=rX h j i f;refine⟨ρ,w',?_,d⟩;have e:v'.cells.size=n:=by
   have:=f.1;simp at this;omega
  simp[storeVar,A5,L7 p,Result.andThen,e,hr]
 .cases c
def kF{t:TypeId}{v:Value}(h:tF P t cs off=some v)(d:LR ρ cs cs')(w:World):∃ v',(part t ⟨cs'⟩ off).run P w=.ok v' w/\VR ρ v v':=by
 unfold tF at h;split at h
 .rename_i b;split at h
  .rename_i n g;split at h
   .rename_i r hr
    have:=A8 h;subst this;obtain⟨c,f⟩:=lY hr;have a:=(d.drop off).take n;rw[<- c]at a;refine⟨.agg ⟨(cs'.drop off).take n⟩,?_,.agg a.1 a.2⟩;simp[part,A5,dU b,L7 g,Result.andThen,List.extract]
   .cases h
  .cases h
 .rename_i b;obtain⟨v',c,f⟩:=d.get h;refine⟨v',?_,f⟩;simp[part,A5,dU b,Result.andThen,c]
 .cases h
set_option maxHeartbeats 1000000 in
def DT{s:Nat}(h:I2 P e=some s):∃ i,P.info? e=some i/\i.size=s:=by
 unfold I2 at h;cases hi:P.info? e with
 | none=>rw[hi]at h;cases h
 | some i=>rw[hi]at h;exact⟨i,rfl,A8 h⟩
def gO{d:Nat}{e:TypeId}{s:Nat}{xs ys:c9}:∀ (l:List Nat),Op.eqItems d e s xs ys l=Op.eqFields d xs ys (l.map (A27 e s))
 | []=>rfl
 | i::l=>by
   rw[E4,Op.eqItems,Op.eqFields,gO l];have:(A27 e s i).name ≠ "_":=by show "x" ≠ "_";decide
   rw[B0 this];rfl
mutual
def IP:∀ (d:Nat) (t:TypeId) (x y x' y':Value) (b:Bool),eqM P d t x y=some b->VR ρ x x'->VR ρ y y'->∀ (n:Nat),d<=n->∀ w:World,(Op.equalIn n t x' y').run P w=.ok b w
 | 0,_,_,_,_,_,_,h,_,_,_,_,_=>by simp[eqM]at h
 | d+1,t,x,y,x',y',b,h,hx,hy,n,hn,w=>by
   obtain⟨n,rfl⟩:∃ k,n=k+1:=⟨n-1,A0⟩;have hn':d<=n:=A0;unfold eqM at h;split at h
   .rename_i hu;cases eH hx;cases eH hy;cases h;simp[Op.equalIn,A5,D7 hu,Result.andThen]
   .rename_i hu;cases K2 hx;cases K2 hy;obtain⟨h1,h2⟩:=A3 h;cases h2;have h1:=F8 h1;simp[Op.equalIn,A5,D7 hu,Result.andThen,h1]
   .rename_i hu;cases Y7 hx;cases Y7 hy;cases h;rw[<- ByteArray.toList_eq,<- ByteArray.toList_eq];exact run_equalIn_string (P:=P) w n t _ _ hu
   .rename_i hu;cases h;cases hx with|pure _=>?_
    cases hy with
    | pure _=>rename_i p _;cases p<;>simp[Op.equalIn,A5,D7 hu,Result.andThen]
    | ptr h=>simp[Op.equalIn,A5,D7 hu,Result.andThen]
   .rename_i hu;cases h;cases hy with|pure _=>?_
    obtain⟨l,_,_,rfl⟩:=Q3 hx;simp[Op.equalIn,A5,D7 hu,Result.andThen]
   .rename_i hu;cases h;cases hx;cases hy;simp[Op.equalIn,A5,D7 hu,Result.andThen]
   .rename_i hu;cases h;cases hx;cases hy with
    | pure hp=>simp[J8]at hp
    | iface h=>simp[Op.equalIn,A5,D7 hu,Result.andThen]
   .rename_i hu;cases h;cases hy;cases hx with
    | pure hp=>simp[J8]at hp
    | iface h=>simp[Op.equalIn,A5,D7 hu,Result.andThen]
   .rename_i tx vx ty vy hu;cases hx with|pure hp=>simp[J8]at hp|iface hx=>?_
    cases hy with|pure hp=>simp[J8]at hp|iface hy=>?_
    cases ht:Nat.beq tx ty with
    | false =>
      rw[ht]at h;cases h;have:tx≠ty:=fun e=>by subst e;simp at ht
      simp[Op.equalIn,A5,D7 hu,Result.andThen,this]
    | true =>
      rw[ht]at h
      have:=A1 ht;subst this;simp only[F1]at h;split at h
      .rename_i i hi;obtain⟨h1,h2⟩:=A3 h;have ih:=IP d tx vx vy _ _ b h2 hx hy n hn' w;simp[Op.equalIn,A5,D7 hu,Result.andThen,Z1 hi,h1,ih]
      .cases h
   .rename_i hu;cases h;cases hx with|pure _=>?_
    cases hy with
    | pure hp=>rename_i p _ _ _;cases p<;>simp[Op.equalIn,A5,D7 hu,Result.andThen]
    | sl h hm=>simp[Op.equalIn,A5,D7 hu,Result.andThen]
    | op h hm hn hc=>simp[Op.equalIn,A5,D7 hu,Result.andThen]
    | opE hs=>simp[Op.equalIn,A5,D7 hu,Result.andThen]
   .rename_i hu;cases h;cases hy with|pure _=>?_
    cases hx with
    | pure hp=>simp[J8]at hp
    | sl h hm=>simp[Op.equalIn,A5,D7 hu,Result.andThen]
    | op h hm hn hc=>simp[Op.equalIn,A5,D7 hu,Result.andThen]
    | opE hs=>simp[Op.equalIn,A5,D7 hu,Result.andThen]
   .rename_i hu;cases h;cases hx with|pure _=>?_
    cases hy with
    | pure _=>rename_i p _;cases p<;>simp[Op.equalIn,A5,D7 hu,Result.andThen]
    | map h=>simp[Op.equalIn,A5,D7 hu,Result.andThen]
   .rename_i hu;cases h;cases hx;cases hy;simp[Op.equalIn,A5,D7 hu,Result.andThen]
   .rename_i hu;cases h;cases hx;cases hy with
    | pure hp=>simp[J8]at hp
    | func _ _ _ _=>simp[Op.equalIn,A5,D7 hu,Result.andThen]
   .rename_i hu;cases h;cases hy;cases hx with
    | pure hp=>simp[J8]at hp
    | func _ _ _ _=>simp[Op.equalIn,A5,D7 hu,Result.andThen]
   .rename_i fs xs ys hu;cases hs:P.stoodInHeld t with
    | true=>rw[hs]at h;cases h
    | false =>
      rw[hs]at h;obtain⟨xs',rfl,hx1⟩:=Z7 hx;obtain⟨ys',rfl,hy1⟩:=Z7 hy;have hf:P.fieldsOf t=fs:=by simp[Program.fieldsOf,hu]
      rw[run_equalIn_struct (P:=P) w n t _ _ (by rw[hf];exact hu) hs,hf];exact QM d fs.toList xs.toList ys.toList xs' ys' b h hx1 hy1 n hn' w
   .rename_i k e xs ys hu;split at h
    .rename_i s hs;obtain⟨xs',rfl,hx1⟩:=Z7 hx;obtain⟨ys',rfl,hy1⟩:=Z7 hy;obtain⟨i,hi,rfl⟩:=DT hs;rw[run_equalIn_array (P:=P) (w:=w) n _ _ hu hi,show P.cellsOf e=i.size by simp[Program.cellsOf,hi],gO];exact QM d _ xs.toList ys.toList xs' ys' b h hx1 hy1 n hn' w
    .cases h
   .cases h
def QM:∀ (d:Nat) (fs:List Field) (xs ys xs' ys':List Value) (b:Bool),eqF P d fs xs ys=some b->LR ρ xs xs'->LR ρ ys ys'->∀ (n:Nat),d<=n->∀ w:World,(Op.eqFields n ⟨xs'⟩ ⟨ys'⟩ fs).run P w=.ok b w
 | 0,_,_,_,_,_,_,h,_,_,_,_,_=>by simp[eqF]at h
 | d+1,[],_,_,_,_,_,h,_,_,_,_,_=>by
   simp only[eqF,D9]at h;subst h;simp[Op.eqFields]
 | d+1,f::fs,xs,ys,xs',ys',b,h,hx,hy,n,hn,w=>by
   unfold eqF at h;cases hnm:f.name == "_" with
   | true=>rw[hnm]at h;cases h
   | false =>
     rw[hnm]at h;simp only[E7]at h;have hn':f.name ≠ "_":=by simpa using hnm
     split at h
     .rename_i x y h1 h2;obtain⟨x',g1,g2⟩:=kF h1 hx w;obtain⟨y',g3,g4⟩:=kF h2 hy w;split at h
      .rename_i he;have ih:=IP d f.type x y x' y' true he g2 g4 n A0 w;have ih2:=QM d fs xs ys xs' ys' b h hx hy n A0 w;unfold Op.eqFields;rw[B0 hn'];simp[A5,g1,g3,Result.andThen,ih,ih2]
      .rename_i he;cases h;have ih:=IP d f.type x y x' y' false he g2 g4 n A0 w;unfold Op.eqFields;rw[B0 hn'];simp[A5,g1,g3,Result.andThen,ih]
      .cases h
     .cases h
end
end
end
section
open Go
def sA(k:IntKind)(m:Nat)(h:m<=OT k):k.wrap (.ofNat m)=.ofNat m:=by
 cases k<;>simp only[OT]at h<;>simp only[IntKind.wrap,IntKind.bits,IntKind.signed,Nat.reduceSub]<;>simp<;>omega
def mW(k:IntKind)(n:Int):DL k n=k.wrap n:=by
 unfold DL;cases n with
 | ofNat m =>
   simp only;cases h:Nat.ble m (OT k)with
   | true=>rw[sA k m (A2 h)];rfl
   | false=>rfl
 | negSucc m=>rfl
def UA(a b:Int):A7L a b=a+b:=by cases a<;>cases b<;>rfl
def SF(a b:Int):A6l a b=a*b:=by cases a<;>cases b<;>rfl
def RI(a b:Int):A5b a b=a-b:=by
 cases a<;>cases b<;>try rfl
 rename_i m n;simp only[A5b];cases h:Nat.ble n m with
 | true =>
   have:=A2 h;simp only[F1];show Int.ofNat (m-n)=_;have e:(Int.ofNat (m-n))=(m:Int)-(n:Int):=by simp[Int.ofNat_sub this]
   exact e
 | false=>rfl
def HT(a b:Int):ltF a b=decide (a<b):=by
 cases a with
 | ofNat m=>cases b with
   | ofNat n =>
     simp only[ltF];rw[M2];simp[Nat.blt,rV];omega
   | negSucc n=>simp only[ltF];symm;simp;omega
 | negSucc m=>cases b with
   | ofNat n=>simp only[ltF];symm;simp;omega
   | negSucc n =>
     simp only[ltF];rw[M2];simp[Nat.blt,rV];omega
def QB(a b:Int):leF a b=decide (a<=b):=by
 cases a with
 | ofNat m=>cases b with
   | ofNat n=>simp only[leF];rw[M2];simp[rV]
   | negSucc n=>simp only[leF];symm;simp;omega
 | negSucc m=>cases b with
   | ofNat n=>simp only[leF];symm;simp;omega
   | negSucc n=>simp only[leF];rw[M2];simp[rV];omega
def dW(a b:Int):DE a b=(a == b):=by
 cases a<;>cases b<;>simp only[DE]<;>rw[M2]<;>simp
 omega
def kA{k j:IntKind}(h:wD k j=true):k=j:=by cases k<;>cases j<;>first|rfl|cases h
variable [Ora]
section
variable {P:Program} {base:Nat} {ρ:Ren} {m m':Mem} {w:World}
def cY{op:BinOp}{k:IntKind}{a b:Int}{v:Value}(h:BZ op k a b=some v)(w:World):(Op.intBits op k a b).run P w=.ok v w/\J8 v=true:=by
 unfold BZ at h;split at h<;>cases h<;>exact⟨rfl,rfl⟩
def A2f{op:BinOp}{k:IntKind}{a b:Int}{t:TypeId}{v:Value}(d:kK op=none)(h:mV op k a b=some v)(w:World):(binOp op t (.int k a) (.int k b)).run P w=.ok v w/\J8 v=true:=by
 unfold mV at h;cases op<;>simp only[kK]at d<;>try cases d
 all_goals simp only[cN,mW,UA,RI,SF,HT,QB,dW]at h
 case quo =>
  cases c:(b == 0)<;>rw[c]at h<;>cases h
  have:b≠0:=by simpa using c
  exact⟨by simp[binOp,Op.intDiv,this],rfl⟩
 case rem =>
  cases c:(b == 0)<;>rw[c]at h<;>cases h
  have:b≠0:=by simpa using c
  exact⟨by simp[binOp,Op.intDiv,this],rfl⟩
 case and=>exact⟨by simpa [binOp]using(cY h w).1,(cY (P:=P) h w).2⟩
 case or=>exact⟨by simpa [binOp]using(cY h w).1,(cY (P:=P) h w).2⟩
 case xor=>exact⟨by simpa [binOp]using(cY h w).1,(cY (P:=P) h w).2⟩
 case andNot=>exact⟨by simpa [binOp]using(cY h w).1,(cY (P:=P) h w).2⟩
 all_goals
  cases h;refine⟨?_,rfl⟩;simp only[binOp,Op.intCmp,Op.intArith,ne_eq,not_true,if_false];rfl
def A0Q:∀ a b:List UInt8,ltL a b=Op.bytesLess a b
 | [],[]=>rfl
 | _::_,[]=>rfl
 | [],_::_=>rfl
 | a::x,b::y=>by simp[ltL,Op.bytesLess,A0Q x y]
def IZ(a b:ByteArray):a++b=⟨⟨a.data.toList++b.data.toList⟩⟩:=by
 have h:(a++b).data=⟨a.data.toList++b.data.toList⟩:=by
  rw[ByteArray.data_append];apply K0;simp
 cases c:a++b with
 | mk d=>rw[c]at h;simp only at h;rw[h]
def A15{op:BinOp}{a b:ByteArray}{t:TypeId}{v:Value}(h:A16 op a b=some v)(w:World):(binOp op t (.string a) (.string b)).run P w=.ok v w/\J8 v=true:=by
 unfold A16 at h;split at h
 .obtain⟨d,c⟩:=A3 h;rw[J4]at c;cases c;refine⟨?_,rfl⟩;have d:=A2 d;have:¬ (((a.size+b.size:Nat):Int)>IntKind.i64.max):=by simp[IntKind.max,IntKind.bits,IntKind.signed];omega
  simp only[binOp,Op.stringOp,A9 this,IZ];rfl
 all_goals first
  | (cases h;refine⟨?_,rfl⟩;simp only[binOp,Op.stringOp,ByteArray.toList_eq,A0Q];rfl)
  | cases h
def zM:Value->Bool
 | .int _ _|.bool _|.string _=>true
 | _=>false
def oW{u:U}{v:Value}(h:toV u=some v):zM v=true:=by cases u<;>cases h<;>rfl
def A2d:Value->Bool
 | .complex _ _ _=>true
 | .func (.yield _) _ _=>true
 | _=>false
def A0_{d:Nat}{t:TypeId}{a b:Value}{r:Bool}(h:eqM P d t a b=some r):A2d a=false/\A2d b=false:=by
 cases d with
 | zero=>simp[eqM]at h
 | succ d =>
   unfold eqM at h;split at h<;>first|exact⟨rfl,rfl⟩|cases h
def VT{op:BinOp}{t:TypeId}{x y:Operand}{a b a' b':Value}(d:oA P t x y a b=true)(p:VR ρ a a')(o:VR ρ b b')(w:World)(l:op=.eql∨op=.neq):(eqGuard op t x y a' b').run P w=.ok () w:=by
 unfold eqGuard;rw[A9 (by rcases l with rfl|rfl<;>simp)];clear l;unfold oA at d;split at d
 .cases p;cases o;simp only[J9]at d;rcases d with g|g
  .cases x<;>simp only[isC]at g<;>first|rfl|cases g
  .cases y<;>simp only[isC]at g<;>first|(cases x<;>rfl)|cases g
 .obtain⟨u,rfl,_⟩:=Z7 p;obtain⟨v,rfl,_⟩:=Z7 o;have g:P.eqGuardType P.depth t=false:=by simpa using d
  simp[A5,run_program,Result.andThen,g]
 .rename_i r s;obtain⟨j,n⟩:=B3 d;split
  .exfalso;cases p with
   | hole h _=>have:=oW h;simp[zM]at this
   | junk=>cases j
   | ixp _ _ _ _ f=>cases f
   | dat _ he i c _=>obtain⟨_,_,_,q⟩:=he.slice A0;cases q
   | clp _ he i c _ _=>obtain⟨_,_,_,q⟩:=he.slice A0;cases q
   | own h _ _=>rcases h with⟨_,_,_,_,_,q⟩|⟨_,_,_,_,_,_,_,_,q⟩<;>cases q
   | dpt h _ _=>obtain⟨_,_,_,_,_,_,_,_,_,_,_,_,_,q⟩:=h;cases q
   | opt h _ _=>obtain⟨_,_,_,_,_,_,_,_,_,_,q⟩:=h;cases q
   | sdt h=>obtain⟨_,_,⟨_,q⟩|⟨_,_,q,_⟩⟩:=h<;>cases q
   | pure _ =>
     cases o with
     | hole h _=>have:=oW h;simp[zM]at this
     | junk=>cases n
     | ixp _ _ _ _ f=>cases f
     | dat _ he i c _=>obtain⟨_,_,_,q⟩:=he.slice A0;cases q
     | clp _ he i c _ _=>obtain⟨_,_,_,q⟩:=he.slice A0;cases q
     | own h _ _=>rcases h with⟨_,_,_,_,_,q⟩|⟨_,_,_,_,_,_,_,_,q⟩<;>cases q
     | dpt h _ _=>obtain⟨_,_,_,_,_,_,_,_,_,_,_,_,_,q⟩:=h;cases q
     | opt h _ _=>obtain⟨_,_,_,_,_,_,_,_,_,_,q⟩:=h;cases q
     | sdt h=>obtain⟨_,_,⟨_,q⟩|⟨_,_,q,_⟩⟩:=h<;>cases q
     | pure _=>exact r rfl rfl
  .exfalso;cases p with
   | hole h _=>have:=oW h;simp[zM]at this
   | junk=>cases j
   | ixp _ _ _ _ f=>cases f
   | dat _ he i c _=>obtain⟨_,_,_,q⟩:=he.slice A0;cases q
   | clp _ he i c _ _=>obtain⟨_,_,_,q⟩:=he.slice A0;cases q
   | own h _ _=>rcases h with⟨_,_,_,_,_,q⟩|⟨_,_,_,_,_,_,_,_,q⟩<;>cases q
   | dpt h _ _=>obtain⟨_,_,_,_,_,_,_,_,_,_,_,_,_,q⟩:=h;cases q
   | opt h _ _=>obtain⟨_,_,_,_,_,_,_,_,_,_,q⟩:=h;cases q
   | sdt h=>obtain⟨_,_,⟨_,q⟩|⟨_,_,q,_⟩⟩:=h<;>cases q
   | pure h=>simp[J8]at h
   | agg _ _ =>
     cases o with
     | hole h _=>have:=oW h;simp[zM]at this
     | junk=>cases n
     | ixp _ _ _ _ f=>cases f
     | dat _ he i c _=>obtain⟨_,_,_,q⟩:=he.slice A0;cases q
     | clp _ he i c _ _=>obtain⟨_,_,_,q⟩:=he.slice A0;cases q
     | own h _ _=>rcases h with⟨_,_,_,_,_,q⟩|⟨_,_,_,_,_,_,_,_,q⟩<;>cases q
     | dpt h _ _=>obtain⟨_,_,_,_,_,_,_,_,_,_,_,_,_,q⟩:=h;cases q
     | opt h _ _=>obtain⟨_,_,_,_,_,_,_,_,_,_,q⟩:=h;cases q
     | sdt h=>obtain⟨_,_,⟨_,q⟩|⟨_,_,q,_⟩⟩:=h<;>cases q
     | pure h=>simp[J8]at h
     | agg _ _=>exact s _ _ rfl rfl
  .rfl
def tP{op:BinOp}{t:TypeId}{x y:Operand}{a b a' b':Value}(f:AQ op=true->oA P t x y a b=true)(d:VR ρ a a')(g:VR ρ b b')(w:World):(eqGuard op t x y a' b').run P w=.ok () w:=by
 cases c:AQ op with
 | false =>
   unfold eqGuard;cases op<;>simp only[AQ]at c<;>first|rfl|cases c
 | true=>exact VT (f c) d g w (by cases op<;>simp only[AQ]at c<;>first|(exact .inl rfl)|(exact .inr rfl)|cases c)
def A2o{t:TypeId}{a b a' b':Value}(n:VR ρ a a')(l:VR ρ b b')(g:∀ (k j:IntKind) (x y:Int),a=.int k x->b=.int j y->False)(i:∀ x y:ByteArray,a=.string x->b=.string y->False)(d:A2d a=false)(c:A2d b=false)(e:Bool) :
  binOp (bif e then .eql else .neq) t a' b'=(do let r <- Op.equal t a' b';pure (.bool (bif e then r else !r))):=by
 cases n with
 | hole _ _=>cases d
 | junk=>cases d
 | ixp _ _ _ _ _=>cases d
 | dat _ _ _ _ _=>cases d
 | clp _ _ _ _ _ _=>cases d
 | own _ _ _=>cases d
 | dpt _ _ _=>cases d
 | opt _ _ _=>cases d
 | sdt _=>cases d
 | pure hp =>
   cases a<;>simp only[J8]at hp<;>try cases hp
   all_goals
    cases l with
    | hole _ _=>cases c
    | junk=>cases c
    | ixp _ _ _ _ _=>cases c
    | dat _ _ _ _ _=>cases c
    | clp _ _ _ _ _ _=>cases c
    | own _ _ _=>cases c
    | dpt _ _ _=>cases c
    | opt _ _ _=>cases c
    | sdt _=>cases c
    | pure f=>cases b<;>simp only[J8]at f<;>first|(cases e<;>rfl)|(exfalso;exact g _ _ _ _ rfl rfl)|(exfalso;exact i _ _ rfl rfl)|cases f
    | _=>cases e<;>rfl
 | _ =>
   cases l with
   | hole _ _=>cases c
   | junk=>cases c
   | ixp _ _ _ _ _=>cases c
   | dat _ _ _ _ _=>cases c
   | clp _ _ _ _ _ _=>cases c
   | own _ _ _=>cases c
   | dpt _ _ _=>cases c
   | opt _ _ _=>cases c
   | sdt _=>cases c
   | pure f=>cases b<;>simp only[J8]at f<;>first|(cases e<;>rfl)|cases f
   | _=>cases e<;>rfl
def yR{op:BinOp}{t:TypeId}{a b a' b' v:Value}(h:uF P op t a b=some v)(f:VR ρ a a')(d:VR ρ b b')(w:World):(binOp op t a' b').run P w=.ok v w/\J8 v=true:=by
 unfold uF at h;split at h
 .cases K2 f;cases K2 d;unfold cR at h;split at h
  .rename_i l c;split at h
   .rename_i n;cases h;unfold PH;cases op<;>simp only[kK]at c<;>cases c
    .refine⟨?_,by simp[cN,J8]⟩;simp[binOp,Op.shift,cN];intro h;omega
    .refine⟨?_,by simp[cN,J8]⟩;simp[binOp,Op.shift,cN];intro h;omega
   .cases h
  .rename_i c;obtain⟨p,q⟩:=A3 h;cases kA p;exact A2f c q w
 .cases Y7 f;cases Y7 d;exact A15 h w
 .rename_i g i;unfold ED at h;have he:∀ r,eqM P 20 t a b=some r->(Op.equal t a' b').run P w=.ok r w:=fun r hr=>IP 20 t a b a' b' r hr f d _ C8 w
  have o:=fun(r:Bool) (hr:eqM P 20 t a b=some r) e=>A2o (t:=t) f d (fun k j x y=>g k x j y) (fun x y=>i x y) (A0_ hr).1 (A0_ hr).2 e
  split at h
  .split at h
   .rename_i r hr;cases h;refine⟨?_,rfl⟩;have h3:=o r hr true;simp only[F1]at h3;rw[h3];simp[A5,he r hr,Result.andThen]
   .cases h
  .split at h
   .rename_i r hr;cases h;refine⟨?_,rfl⟩;have h3:=o r hr false;simp only[E7]at h3;rw[h3];simp[A5,he r hr,Result.andThen]
   .cases h
  .cases h
end
end
section
open Go
variable [Ora]
section
variable {P:Program} {base:Nat} {ρ:Ren} {m m':Mem} {w:World}
def fH(a:Addr)(n:Nat):dM a n=⟨a.block,a.off+n,none⟩:=by simp[dM,F5]
def n9(b o i:Nat):(Addr.mk b o none).add i=⟨b,o+i,none⟩:=L2.add_none'
def oC{s:TypeId}{x v:Value}{i:Nat}(h:eJ P s x i=some v)(o:VR ρ x x')(w:World):∃ v',(Instr.fieldAt s x' i).run P w=.ok v' w/\VR ρ v v':=by
 unfold eJ at h;split at h
 .rename_i d a hu;obtain⟨l,c,q,rfl⟩:=Q3 o;split at h
  .rename_i f g p;split at h
   .rename_i n j;cases h;rw[fH];refine⟨_,?_,.ptr c⟩;have b:d[i]? = some f:=by simpa using g
    have:=L7 j w;simp[Instr.fieldAt,A5,D7 hu,Result.andThen,b,Instr.sureAddr,fieldPlace,this,n9]
   .cases h
  .cases h
 .cases h
def VW{t:TypeId}{x v:Value}{i:Nat}(h:IL P t x i=some v)(l:VR ρ x x')(w:World):∃ v',(Instr.field t x' i).run P w=.ok v' w/\VR ρ v v':=by
 unfold IL at h;split at h
 .rename_i d cs hu;obtain⟨cs',rfl,b⟩:=Z7 l;split at h
  .rename_i f j;obtain⟨v',c,g⟩:=kF h b w;have a:d[i]? = some f:=by simpa using j
   refine⟨v',?_,g⟩;simp[Instr.field,A5,D7 hu,Result.andThen,a,asAgg,c]
  .cases h
 .cases h
def eI{t:TypeId}{x i v:Value}(h:m7 P t x i=some v)(q:VR ρ x x')(hi:VR ρ i i')(w:World):∃ v',(Instr.indexAt t x' i').run P w=.ok v' w/\VR ρ v v':=by
 unfold m7 at h;split at h
 .rename_i n e a r k hu;cases K2 hi;obtain⟨l,f,u,rfl⟩:=Q3 q;split at h
  .rename_i s g p;obtain⟨d,j⟩:=A3 h;cases j;have d:k<n:=A2 d;rw[fH];refine⟨.pointer (some ⟨l.blk,a.off+k*s+l.sh,none⟩),?_,.ptr f⟩;simp[Instr.indexAt,A5,D7 hu,Result.andThen,asIntOf,L7 g,d,n9,Instr.sureAddr]
  .cases h
 .rename_i e a n c r k hu;cases K2 hi;split at h
  .rename_i s g p;obtain⟨d,j⟩:=A3 h;cases j;have d:k<n:=A2 d;rw[fH];cases q with
   | pure hp=>simp[J8]at hp
   | sl f hm =>
     rename_i b o l;refine⟨.pointer (some ⟨l.blk,o+k*s+l.sh,none⟩),?_,.ptr f⟩;simp[Instr.indexAt,A5,D7 hu,Result.andThen,asIntOf,L7 g,d,n9]
   | op f hm z A =>
     rename_i b o l _;refine⟨.pointer (some ⟨l.blk,o+k*s+l.sh,none⟩),?_,.ptr f⟩;simp[Instr.indexAt,A5,D7 hu,Result.andThen,asIntOf,L7 g,d,n9]
   | opE u=>omega
  .cases h
 .cases h
def vB{t:TypeId}{x i v:Value}(h:nY P t x i=some v)(f:VR ρ x x')(hi:VR ρ i i')(w:World):∃ v',(Instr.index t x' i').run P w=.ok v' w/\VR ρ v v':=by
 unfold nY at h;split at h
 .rename_i n e cs p k hu;cases K2 hi;obtain⟨cs',rfl,g⟩:=Z7 f;split at h
  .rename_i s q;obtain⟨a,l⟩:=A3 h;have a:k<n:=A2 a;obtain⟨v',h3,j⟩:=kF l g w;refine⟨v',?_,j⟩;simp[Instr.index,A5,D7 hu,Result.andThen,asIntOf,L7 q,a,h3]
  .cases h
 .rename_i s p k hu;cases K2 hi;cases Y7 f;split at h
  .rename_i b d;cases h;refine⟨_,?_,.pure rfl⟩;have c:k<s.size:=by
    have:=(B1.1 d).1
    simpa using this
   have o:s[k]? = some b:=by
    rw[getElem?_pos s k c]
    have:=(B1.1 d).2;rw[<- this];rfl
   simp[Instr.index,A5,D7 hu,Result.andThen,asIntOf,o]
  .cases h
 .cases h
def LN{x v:Value}{i:Nat}(h:nP m x i=some (v,m'))(c:VR ρ x x')(w:World):m'=m/\∃ v',(Instr.extract x' i).run P w=.ok v' w/\VR ρ v v':=by
 unfold nP at h;split at h
 .rename_i vs;obtain⟨cs',rfl,a⟩:=vA c;unfold noM at h;split at h
  .rename_i u hu;cases h;obtain⟨v',d,b⟩:=a.get hu;exact⟨rfl,v',by simp[Instr.extract,d],b⟩
  .cases h
 .cases h
def FE:∀ (vs:List Value) (off k:Nat) (C:Array Value),((vs.zipIdx k).foldl (fun(cs:Array Value) (x:Value×Nat)=>cs.setIfInBounds (off+x.2) x.1) C)=⟨eE C.toList (off+k) vs⟩
 | [],off,k,C=>rfl
 | v::r,off,k,C=>by
   simp only[List.zipIdx_cons,List.foldl_cons];rw[FE r off (k+1)];simp[eE,dX]
def PR(ρ:Ren):List (Nat×Value)->List (Nat×Value)->Prop
 | [],[]=>True
 | (i,v)::r,(j,v')::r'=>i=j/\VR ρ v v'/\PR ρ r r'
 | _,_=>False
def tY{place:Nat->Option (Nat×Nat)}:∀ {parts parts':List (Nat×Value)} {cs cs' r:E0},AY place cs parts=some r->PR ρ parts parts'->LR ρ cs cs'->∃ r',Instr.fill place ⟨cs'⟩ parts'=some ⟨r'⟩/\LR ρ r r'
 | [],[],cs,cs',r,h,_,hc=>by
   simp only[AY,D9]at h;subst h;exact⟨cs',rfl,hc⟩
 | [],_::_,_,_,_,_,hp,_=>hp.elim
 | _::_,[],_,_,_,_,hp,_=>hp.elim
 | (i,v)::rest,(j,v')::rest',cs,cs',r,h,⟨hij,hv,hp⟩,hc=>by
   subst hij;unfold AY at h;split at h
   .cases h
   .rename_i off size d;obtain⟨l,g⟩:=A3 h;obtain⟨h3,f⟩:=B3 l;obtain⟨h3,p⟩:=B3 h3;have h3:=A1 h3;have f:=A2 f;rw[J4]at g;have a:=hv.cells (by simpa using p);have b:v'.cells.size=v.cells.size:=by have:=a.1;simp at this;omega
    obtain⟨r',q,o⟩:=tY g hp (RT hc a);refine⟨r',?_,o⟩;unfold Instr.fill;simp only[d];rw[A9]
    .have:=FE v'.cells.toList off 0 ⟨cs'⟩;have e:(v'.cells.zipIdx.foldl (fun(cs:Array Value) (x:Value×Nat)=>cs.setIfInBounds (off+x.2) x.1) ⟨cs'⟩)=⟨eE cs' off v'.cells.toList⟩:=by
      rw[<- Array.foldl_toList,Array.toList_zipIdx,this];rfl
     have n:(Array.foldl (fun cs x=>match x with|(c,j)=>cs.setIfInBounds (off+j) c) ({ toList:=cs' }:Array Value) v'.cells.zipIdx)=⟨eE cs' off v'.cells.toList⟩:=e;rw[n];exact q
    .have:=hc.1;simp[b];constructor
     .exact h3
     .omega
def zO:∀ (a:List Field) (ps:List (Nat×Nat)),tD P a=some ps->∀ w:World,(a.mapM (fun f=>do pure (f.offset,<- sizeOf f.type):Field->Sem (Nat×Nat))).run P w=.ok ps w
 | [],ps,h,w=>by simp only[tD,D9]at h;subst h;rfl
 | f::r,ps,h,w=>by
   unfold tD at h;split at h
   .rename_i n l b d;cases h;have c:=zO r l d w;simp only[List.mapM_cons,A5,L7 b,Result.andThen,Sem.run_pure];rw[c]
   .cases h
def WE{t:TypeId}{v:Value}(h:QQ P t parts=some v)(hp:PR ρ parts parts')(w:World):∃ v',(Instr.build t ⟨parts'⟩).run P w=.ok v' w/\VR ρ v v':=by
 unfold QQ at h;split at h
 .rename_i z o d hu;split at h
  .rename_i ps j;split at h
   .rename_i cs a;cases h;obtain⟨r',g,c⟩:=tY a hp (rW d);refine⟨.agg ⟨r'⟩,?_,.agg c.1 c.2⟩;have hm:(o.mapM (fun f=>do pure (f.offset,<- sizeOf f.type):Field->Sem (Nat×Nat))).run P w=.ok ps.toArray w:=by
     rw[iA];show(Sem.bind (o.toList.mapM (fun f=>do pure (f.offset,<- sizeOf f.type):Field->Sem (Nat×Nat))) fun l=>Sem.pure l.toArray).run P w=_
     have:=zO _ _ j w;have p:∀ (x:Sem (List (Nat×Nat))) (k:List (Nat×Nat)->Sem (Array (Nat×Nat))),(Sem.bind x k).run P w=(x >>= k).run P w:=fun _ _=>rfl
     rw[p,A5,this];rfl
    have b:Instr.fill (fun i=>ps[i]?) z.cells parts'=some ⟨r'⟩:=g;unfold Instr.build;simp only[A5,cI d,D7 hu,Result.andThen,hm,K6];simp only[b];rfl
   .cases h
  .cases h
 .rename_i z n e d hu;split at h
  .rename_i s q;split at h
   .rename_i cs a;cases h;obtain⟨r',g,c⟩:=tY a hp (rW d);refine⟨.agg ⟨r'⟩,?_,.agg c.1 c.2⟩;have b:Instr.fill (fun i=>some (i*s,s)) z.cells parts'=some ⟨r'⟩:=g;simp[Instr.build,A5,cI d,D7 hu,Result.andThen,L7 q,b]
   .cases h
  .cases h
 .cases h
end
end
section
open Go
variable [Ora]
def OR(ρ:Ren):S8->S8->Prop
 | none,none=>True
 | some v,some v'=>VR ρ v v'
 | _,_=>False
def Bd(o:Option Value)(top dflt k:Nat):Prop:=(o=none/\k=dflt)∨∃ j,o=some (.int j (.ofNat k))/\k<=top
section
variable {P:Program} {base:Nat} {ρ:Ren} {m m':Mem} {w:World}
def P3{o:S8}{k:Nat}(h:X8 o top dflt=some k)(a:OR ρ o o'):Bd o' top dflt k:=by
 unfold X8 at h;split at h
 .cases h;cases o' with
  | none=>exact .inl ⟨rfl,rfl⟩
  | some _=>exact a.elim
 .obtain⟨c,b⟩:=A3 h;cases b;cases o' with
  | none=>exact a.elim
  | some v' =>
    have a:VR ρ _ v':=a;cases K2 a;exact .inr ⟨_,rfl,A2 c⟩
 .cases h
def UV{v:Value}{j:IntKind}{k:Nat}{c:BoundsCode}(a:v=.int j (.ofNat k))(h:k<=y)(w:World):(Instr.sliceBound v y c).run P w=.ok k w:=by
 subst a;simp[Instr.sliceBound,A5,asIntOf,Result.andThen,h]
def lL{b:Bool}{len cap l h:Nat}{hi:S8}(a:Bd mx cap cap mm)(d:hi=none->mx=none)(c:Bd hi mm len h)(h3:Bd lo h 0 l)(w:World) :
  (Instr.sliceBounds b len cap lo hi mx).run P w=.ok (l,h,mm) w:=by
 unfold Instr.sliceBounds;rcases a with⟨rfl,rfl⟩|⟨j,rfl,a⟩<;>rcases c with⟨rfl,rfl⟩|⟨f,rfl,c⟩<;>rcases h3 with⟨rfl,rfl⟩|⟨g,rfl,h3⟩
 all_goals first
  | (exfalso;have:=d rfl;cases this;done)
  | (simp only[A5,Sem.run_pure,Result.andThen];repeat (first|rw[UV rfl ‹_›]|simp only[Result.andThen,A5,Sem.run_pure]));done
def VR.slice{a a':Addr}{n c b:Nat}(h:VR ρ (.slice (some a) n c) (.slice (some a') n b)):True:=trivial
def Q7{a:Addr}{n c:Nat}(h:VR ρ (.slice (some a) n c) x') :
  (∃ l,ρ a.block=some l/\a.spot=none/\c<O7/\x'=.slice (some ⟨l.blk,a.off+l.sh,none⟩) n c) ∨
  (∃ l b,ρ a.block=some l/\a.spot=none/\O7<=c/\n<=b/\(c=O7->a.off=0->b=l.cap)/\x'=.slice (some ⟨l.blk,a.off+l.sh,none⟩) n b) ∨
  (∃ a' b,a'.spot=none/\n=0/\c=O7+2/\x'=.slice (some a') 0 b):=by
 cases h with
 | pure hp=>simp[J8]at hp
 | sl d hm=>exact .inl ⟨_,d,rfl,hm,rfl⟩
 | op d hm f g=>exact .inr (.inl ⟨_,_,d,rfl,hm,f,g,rfl⟩)
 | opE i=>exact .inr (.inr ⟨_,_,i,rfl,rfl,rfl⟩)
def R8{n c:Nat}(h:VR ρ (.slice none n c) x'):x'=.slice none n c:=by cases h;rfl
def OR.none_iff{o:S8}(h:OR ρ o o'):o=none↔o'=none:=by
 cases o<;>cases o'<;>simp_all [OR]
def wF{t:TypeId}{s n c l h:Nat}{a:Option Addr}{hi:S8}(hu:P.underlying t=some (.slice e))(d:I2 P e=some s)(g:Bd mx c c mm)(f:hi=none->mx=none)(i:Bd hi mm n h)(h3:Bd lo h 0 l)(w:World) :
  (Instr.sliceAt t (.slice a n c) lo hi mx).run P w=.ok (.slice (if mm=l then a else a.map (·.add (l*s))) (h-l) (mm-l)) w:=by
 have:=lL (P:=P) (b:=true) g f i h3 w;simp[Instr.sliceAt,Instr.slice,A5,D7 hu,Result.andThen,this,L7 d]
def jQ(s:ByteArray)(l h:Nat):s.extract l h=⟨⟨(s.data.toList.drop l).take (h-l)⟩⟩:=by
 have b:(s.extract l h).data=⟨(s.data.toList.drop l).take (h-l)⟩:=by
  rw[ByteArray.data_extract];apply K0;simp[List.extract]
 cases a:s.extract l h with
 | mk d=>rw[a]at b;simp only at b;rw[b]
def jZ{t:TypeId}{x v:Value}{hi lo' hi' mx':S8}(h:eR P t x lo hi mx=some v)(N:VR ρ x x')(q:OR ρ lo lo')(f:OR ρ hi hi')(i:OR ρ mx mx')(w:World) :
  ∃ v',(Instr.sliceAt t x' lo' hi' mx').run P w=.ok v' w/\VR ρ v v':=by
 unfold eR at h;split at h
 ·
  rename_i s hu;cases Y7 N;split at h
  .rename_i hh u;split at h
   .rename_i l h3;cases h;refine⟨_,?_,.pure rfl⟩;have hm:mx'=none:=i.none_iff.1 rfl;subst hm
    have:=lL (P:=P) (b:=false) (len:=s.size) (cap:=s.size) (mx:=none) (.inl ⟨rfl,rfl⟩) (fun _=>rfl) (P3 u f) (P3 h3 q) w;simp[Instr.sliceAt,Instr.slice,A5,D7 hu,Result.andThen,this,jQ]
   .cases h
  .cases h
 ·
  rename_i e n c hu;cases R8 N;split at h
  .rename_i I u h3;obtain⟨h4,h5⟩:=(by
    cases D:(mx.isSome && hi.isNone) || (I2 P e).isNone with
    | true=>rw[D]at h;cases h
    | false=>rw[D]at h;exact⟨rfl,h⟩:((mx.isSome && hi.isNone) || (I2 P e).isNone)=false/\some (Value.slice none 0 0)=some v)
   cases h5;simp only[Y9]at h4;obtain⟨h4,h6⟩:=h4;refine⟨.slice none 0 0,?_,.pure rfl⟩;have W:=P3 I i;have az:=P3 u f;have X:=P3 h3 q;have z:∀ {o:S8} {k:Nat},Bd o 0 0 k->k=0:=fun r=>by rcases r with⟨_,rfl⟩|⟨_,_,r⟩<;>omega
   have z1:=z W;have z2:=z az;have z3:=z X;subst z1;subst z2;subst z3;have U:hi'=none->mx'=none:=fun E=>by
    have B:=(f.none_iff).2 E;subst B;cases mx with
    | none=>exact i.none_iff.1 rfl
    | some _=>simp at h4
   obtain⟨s,Q⟩:∃ s,I2 P e=some s:=by cases D:I2 P e with|none=>rw[D]at h6;cases h6|some s=>exact⟨s,rfl⟩
   have:=lL (P:=P) (b:=true) W U az X w;simp[Instr.sliceAt,Instr.slice,A5,D7 hu,Result.andThen,this,L7 Q]
  .cases h
 ·
  rename_i e a n c hu;split at h
  .rename_i s Q g;have p:∀ (d l hh mm:Nat) (a':Addr),Bd mx' d d mm->(hi'=none->mx'=none)->Bd hi' mm n hh->Bd lo' hh 0 l->(Instr.sliceAt t (.slice (some a') n d) lo' hi' mx').run P w=.ok (.slice (if mm=l then some a' else(some a').map (·.add (l*s))) (hh-l) (mm-l)) w :=
    fun d l hh mm a' I U u h3=>wF hu Q I U u h3 w
   have F:∀ (l mm:Nat) (lc:Loc),ρ a.block=some lc->(if mm=l then some (Addr.mk lc.blk (a.off+lc.sh) none)else(some (Addr.mk lc.blk (a.off+lc.sh) none)).map (·.add (l*s)))=some ⟨lc.blk,(bif Nat.beq mm l then a else dM a (l*s)).off+lc.sh,none⟩/\(bif Nat.beq mm l then a else dM a (l*s)).block=a.block/\((bif Nat.beq mm l then a else dM a (l*s)).spot=none):=fun l mm lc an=>by
    by_cases B:mm=l
    .subst B;simp[g]
    .have:Nat.beq mm l=false:=by cases r:Nat.beq mm l with|false=>rfl|true=>exact absurd (A1 r) B
     simp[this,B,fH,n9]
   cases O:Nat.blt c O7 with
   | true =>
     have Z:c<O7:=A2 O;rw[O]at h;simp only[F1]at h;rcases Q7 N with⟨lc,H,_,_,rfl⟩|⟨lc,d,_,_,ho,_⟩|⟨a',d,_,_,rfl,_⟩
     .split at h
      .rename_i mm I;split at h
       .rename_i hh u;split at h
        .rename_i l h3;cases h;have K:=P3 I i;have U:hi'=none->mx'=none:=fun E=>by
          have B:=(f.none_iff).2 E;subst B;cases mx with
          | none=>exact i.none_iff.1 rfl
          | some _=>cases u
         have J:Bd hi' mm n hh:=by
          cases hi with
          | none=>cases mx with
            | none=>exact P3 u f
            | some _=>cases u
          | some _=>cases mx<;>exact P3 u f
         refine⟨_,p c l hh mm _ K U J (P3 h3 q),?_⟩;obtain⟨g1,g2,g3⟩:=F l mm lc H;rw[g1];have ar:mm<=c:=by rcases K with⟨_,rfl⟩|⟨_,_,r⟩<;>omega
         generalize hA:(bif Nat.beq mm l then a else dM a (l*s))=A at g2 g3 ⊢;obtain⟨ab,ao,M⟩:=A;simp only at g2 g3;subst g3;exact .sl (by rw[g2];exact H) A0
        .cases h
       .cases h
      .cases h
     .omega
     .omega
   | false =>
     have Z:O7<=c:=by
      rcases G9 c O7 with C|aw
      .rw[show Nat.blt c O7=true from C5 C]at O;cases O
      .exact aw
     rw[O]at h;simp only[E7]at h;split at h
     .rename_i mv;split at h
      .rename_i hv mm I;obtain⟨g0,h⟩:=A3 h;obtain⟨T,S⟩:=B3 g0;have T:mm<O7:=A2 T;have S:=A2 S;split at h
       .rename_i hh u;split at h
        .rename_i l h3;cases h;rcases Q7 N with⟨_,_,_,C,_⟩|⟨lc,d,H,_,_,E,_,rfl⟩|⟨a',d,_,_,he,_⟩
         .omega
         .have K:=P3 I i;have V:Bd mx' d d mm:=by
           rcases K with⟨au,_⟩|⟨j,hj,r⟩
           .have:=(i.none_iff).2 au;cases this
           .exact .inr ⟨j,hj,A0⟩
          refine⟨_,p d l hh mm _ V (fun E=>by have:=(f.none_iff).2 E;cases this) (P3 u f) (P3 h3 q),?_⟩;obtain⟨g1,g2,g3⟩:=F l mm lc H;rw[g1];generalize hA:(bif Nat.beq mm l then a else dM a (l*s))=A at g2 g3 ⊢;obtain⟨ab,ao,M⟩:=A;simp only at g2 g3;subst g3;exact .sl (by rw[g2];exact H) A0
         .omega
        .cases h
       .cases h
      .cases h
     .have hm:mx'=none:=i.none_iff.1 rfl;subst hm;split at h
      .rename_i hh I;have J:=P3 I f;have aq:hh<=n:=by rcases J with⟨_,rfl⟩|⟨_,_,r⟩<;>omega
       have up:∀ d,n<=d->Bd hi' d n hh:=fun d O=>by
        rcases J with r|⟨j,hj,r⟩
        .exact .inl r
        .exact .inr ⟨j,hj,A0⟩
       split at h
       .rename_i h3;cases h;have G:=P3 h3 q;rcases Q7 N with⟨_,_,_,C,_⟩|⟨lc,d,H,_,_,E,L,rfl⟩|⟨a',d,R,rfl,rfl,rfl⟩
        .omega
        .refine⟨_,p d 0 hh d _ (.inl ⟨rfl,rfl⟩) (fun _=>rfl) (up d E) G,?_⟩;have:(if d=0 then some (Addr.mk lc.blk (a.off+lc.sh) none)else(some (Addr.mk lc.blk (a.off+lc.sh) none)).map (·.add (0*s)))=some (Addr.mk lc.blk (a.off+lc.sh) none):=by
          simp[n9]
         rw[this];obtain⟨ab,ao,M⟩:=a;simp only at g;subst g;exact .op H Z A0 L
        .have ay:hh=0:=A0;subst ay;refine⟨_,p d 0 0 d _ (.inl ⟨rfl,rfl⟩) (fun _=>rfl) (up d (Nat.zero_le _)) G,?_⟩;have:(if d=0 then some a' else(some a').map (·.add (0*s)))=some a':=by simp[Addr.add]
         rw[this];exact .opE R
       .rename_i l h3;have G:=P3 h3 q;have al:l+1<=hh:=by rcases G with⟨_,r⟩|⟨_,_,r⟩<;>omega
        rcases Q7 N with⟨_,_,_,C,_⟩|⟨lc,d,H,_,_,E,L,rfl⟩|⟨a',d,R,rfl,rfl,rfl⟩
        .omega
        .have hf:=p d (l+1) hh d ⟨lc.blk,a.off+lc.sh,none⟩ (.inl ⟨rfl,rfl⟩) (fun _=>rfl) (up d E) G;cases D:Nat.blt (l+1) n with
         | true =>
           have av:l+1<n:=A2 D;simp only[D,F1]at h;cases h;refine⟨_,hf,?_⟩;rw[A9 A0,fH];simp only[M1,n9];rw[show a.off+lc.sh+(l+1)*s=a.off+(l+1)*s+lc.sh by omega];exact .op H (by unfold O7;omega) A0 (fun e=>by unfold O7 at e;omega)
         | false =>
           have av:¬ l+1<n:=fun C=>by rw[show Nat.blt (l+1) n=true from C5 C]at D;cases D
           simp only[D,E7]at h;cases h;refine⟨_,hf,?_⟩;have B:hh-(l+1)=0:=A0;rw[B];by_cases e2:d=l+1
           .rw[B0 e2];exact .opE rfl
           .rw[A9 e2];simp only[M1,n9];exact .opE rfl
        .omega
       .cases h
      .cases h
  .cases h
 ·
  rename_i n e a hu;obtain⟨lc,H,ax,rfl⟩:=Q3 N;split at h
  .rename_i s Q g;split at h
   .rename_i hh u;split at h
    .rename_i l h3;obtain⟨Y,h⟩:=A3 h;have Y:n<O7:=A2 Y;cases h;have hm:mx'=none:=i.none_iff.1 rfl;subst hm;have hr:=lL (P:=P) (b:=false) (len:=n) (cap:=n) (mx:=none) (.inl ⟨rfl,rfl⟩) (fun _=>rfl) (P3 u f) (P3 h3 q) w;refine⟨.slice (some ⟨lc.blk,(bif Nat.beq n l then a else dM a (l*s)).off+lc.sh,none⟩) (hh-l) (n-l),?_,?_⟩
     .by_cases B:n=l
      .subst B;simp[Instr.sliceAt,A5,D7 hu,Result.andThen,hr,L7 Q,Instr.sureAddr]
      .have D:Nat.beq n l=false:=by cases r:Nat.beq n l with|false=>rfl|true=>exact absurd (A1 r) B
       simp[Instr.sliceAt,A5,D7 hu,Result.andThen,hr,L7 Q,Instr.sureAddr,B,D,fH,n9]
     .have E:n-l<O7:=A0;have g2:(bif Nat.beq n l then a else dM a (l*s)).block=a.block:=by cases Nat.beq n l<;>simp[fH]
      have g3:(bif Nat.beq n l then a else dM a (l*s)).spot=none:=by cases Nat.beq n l<;>simp[fH,ax]
      generalize hA:(bif Nat.beq n l then a else dM a (l*s))=A at g2 g3 ⊢;obtain⟨ab,ao,M⟩:=A;simp only at g2 g3;subst g3;exact .sl (by rw[g2];exact H) E
    .cases h
   .cases h
  .cases h
 .cases h
end
end
section
open Go
variable [Ora]
section
variable {P:Program} {base:Nat} {ρ:Ren} {m m':Mem} {w:World}
def fN{C:c9}{v:Value}{cap:Nat}{fz:Nat×Nat}{wd:World}(h:HR P base ρ m.H w)(l:base<=w.heap.size)(g:w8 m (.cells cs e false) k=some (v,m'))(f:L1 ρ m.n m'.hi)
  (j:LR ρ cs cs') (hC:∀ (i:Nat) (v:Value),cs'[i]? = some v->C[i]? = some v) (c:NF C fz) (b:∀ inf,P.info? e=some inf->cap*inf.size<=C.size)
  (r:wd.os=w.os/\wd.tape=w.tape/\wd.output=w.output) (hh:wd.heap=w.heap) :
  v=k m.n/\upd ρ m.n (lc w.heap.size 0 cap) m.n=some (lc w.heap.size 0 cap)/\St P base ρ (upd ρ m.n (lc w.heap.size 0 cap)) m m' w { wd with heap:=wd.heap.push (.cells C e fz) }:=by
 have a:ρ m.n=none:=by
  obtain⟨_,_,rfl⟩:=N0 g;exact f m.n (A7 _) (L8 _ _).2
 refine St.alloc (o:=.cells C e fz) h l g f r (by simp[hh]) rfl ⟨rfl,C,fz,e,by simp[hh],fun i u hi=>?_,fun _=>⟨rfl,c,fun inf hi=>⟨by have:=b inf hi;simpa using this,Nat.zero_mod _⟩⟩⟩;obtain⟨d,p,q⟩:=j.get hi;exact⟨d,by rw[F9];exact hC i d p,q.mono (i0 a)⟩
def lS{v:Value}(h:HR P base ρ m.H w)(d:base<=w.heap.size)(a:w8 m (.cells cs e false) k=some (v,m'))(c:L1 ρ m.n m'.hi)(b:LR ρ cs cs') :
  v=k m.n/\upd ρ m.n (lc w.heap.size 0 0) m.n=some (lc w.heap.size 0 0)/\St P base ρ (upd ρ m.n (lc w.heap.size 0 0)) m m' w { w with heap:=w.heap.push (.cells ⟨cs'⟩ e (0,0)) } :=
 fN (wd:=w) h d a c b (fun i v hi=>by simpa using hi) NF.zero (fun inf _=>by simp) ⟨rfl,rfl,rfl⟩ rfl
def VJ{v:Value}(h:HR P base ρ m.H w)(c:base<=w.heap.size)(a:HN P m e=some (v,m'))(d:L1 ρ m.n m'.hi):VOk P base ρ m w (Instr.alloc e true (.tuple #[])) v m':=by
 unfold HN at a;split at a
 .rename_i z b;obtain⟨g,f,h3⟩:=lS h c a d (rW b);refine⟨.pointer (some ⟨w.heap.size,0,none⟩),_,_,?_,?_,h3⟩
  .simp[Instr.alloc,newVar,newRow,A5,cI b,Result.andThen,newObj,Sem.run]
  .rw[g];exact .ptr f
 .cases a
def A2H{x v:Value}(h:HR P base ρ m.H w)(d:base<=w.heap.size)(c:A0F m e x=some (v,m'))(f:L1 ρ m.n m'.hi)(g:VR ρ x x'):VOk P base ρ m w (Instr.box e x') v m':=by
 unfold A0F at c;obtain⟨a,c⟩:=A3 c;obtain⟨j,i,h3⟩:=lS h d c f (g.cells (by
  cases b:lU x with
  | false=>rfl
  | true =>
    unfold lU at b;split at b
    .exfalso;simp only[Value.cells]at a;simp[flat]at a;simp[a]at b
    .cases b))
 refine⟨.pointer (some ⟨w.heap.size,0,none⟩),_,_,?_,?_,h3⟩
 .simp[Instr.box,newVar,newRow,A5,Result.andThen,newObj,Sem.run]
 .rw[j];exact .ptr i
def KT(z:List Value)(c:z≠[]):∀ (n i:Nat),(KU z n)[i]? = if i<n*z.length then z[i%z.length]? else none
 | 0,i=>by simp[KU]
 | n+1,i=>by
   have a:0<z.length:=List.length_pos_iff.2 c;rw[KU];by_cases h:i<z.length
   .rw[F7 h,B0 (by rw[Nat.succ_mul];omega),dR h]
   .rw[E9 A0,KT z c n,Nat.succ_mul];have e:(i-z.length)%z.length=i%z.length:=by rw[<- Nat.mod_eq_sub_mod A0]
    by_cases b:i-z.length<n*z.length
    .rw[B0 b,B0 A0,e]
    .rw[A9 b,A9 A0]
def UB{z:c9}{n s:Nat}(b:z.size=s)(f:n*s≠0):(Array.range (n*s)).map (z[· % z.size]!)=⟨KU z.toList n⟩:=by
 have d:z.toList≠[]:=by
  intro e;have:z.size=0:=by simpa using D8 List.length e
  rw[b]at this;subst this;simp at f
 apply K0;apply dC;intro i;rw[KT _ d];simp only[Array.toList_map,Array.toList_range,H9];have g:z.toList.length=s:=by simpa using b
 rw[g];by_cases h:i<n*s
 .rw[B0 h,List.getElem?_range h];have a:0<s:=by
   rcases W6 s with c|c
   .subst c;simp at f
   .exact c
  have hm:i%s<z.size:=by rw[b];exact rU _ a
  simp[b,getElem!_pos z (i%s) hm,A6 (show i%s<z.toList.length by simpa using hm)]
 .rw[A9 h];simp;omega
def DJ{n s:Nat}(i:I2 P e=some s)(h:GH P e n=some zs) :
  ((n*s=0/\zs=[])∨(n*s≠0/\∃ z:Value,(∀ w,(zeroValue e).run P w=.ok z w)/\(Array.range (n*s)).map (z.cells[· % z.cells.size]!)=⟨zs⟩))/\LR ρ zs zs:=by
 unfold GH at h;rw[i]at h;simp only at h;cases c:Nat.beq (n*s) 0 with
 | true =>
   rw[c]at h;simp only[F1,D9]at h;subst h;exact⟨.inl ⟨A1 c,rfl⟩,.nil⟩
 | false =>
   rw[c]at h;simp only[E7]at h;have b:n*s≠0:=fun e=>by rw[e]at c;cases c
   split at h
   .rename_i z f;obtain⟨d,j⟩:=A3 h;cases j;have d:=A1 d;refine⟨.inr ⟨b,z,fun w=>cI f w,UB d b⟩,?_⟩;have a:∀ l:E0,LR ρ l l->∀ n,LR ρ (KU l n) (KU l n):=fun l o n=>by
     induction n with
     | zero=>exact .nil
     | succ n g=>exact o.append g
    exact a _ (rW f) n
   .cases h
def BW{t:TypeId}{n:Nat}{v:Value}(h:HR P base ρ m.H w)(r:base<=w.heap.size)(a:eM P m t n parts=some (v,m'))(A:L1 ρ m.n m'.hi)(hp:PR ρ parts parts') :
  VOk P base ρ m w (Instr.buildSlice t n ⟨parts'⟩) v m':=by
 unfold eM at a;split at a
 .rename_i e hu;split at a
  .rename_i s zs q C;obtain⟨f,a⟩:=A3 a;obtain⟨f,b⟩:=B3 f;have f:=A2 f;have b:n<O7:=A2 b;split at a
   .rename_i cs j;obtain⟨p,g⟩:=DJ (ρ:=ρ) q C;obtain⟨r',u,h3⟩:=tY j hp g;obtain⟨g1,g2,g3⟩:=lS h r a A h3;refine⟨.slice (some ⟨w.heap.size,0,none⟩) n n,_,_,?_,?_,g3⟩
    .unfold Instr.buildSlice;simp only[A5,D7 hu,L7 q,Result.andThen];rw[A9 A0];have c:Instr.fill (fun i=>some (i*s,s)) ⟨zs⟩ parts'=some ⟨r'⟩:=u;rcases p with⟨d,rfl⟩|⟨d,z,o,l⟩
     .have B:∀ z:c9,Array.map (fun x=>z[x%z.size]!) (Array.range (n*s))=⟨[]⟩:=fun z=>by rw[d];apply K0;simp
      simp only[B0 d,B,c];rfl
     .simp only[A9 d,A5,Sem.run_pure,Result.andThen,o,l,c];rfl
    .rw[g1];exact .sl g2 b
   .cases a
  .cases a
 .cases a
def CZ{t:TypeId}{l c l' u v:Value}(h:HR P base ρ m.H w)(E:base<=w.heap.size)(a:gG P m t l c=some (v,m'))(G:L1 ρ m.n m'.hi)(D:VR ρ l l')(C:VR ρ c u) :
  VOk P base ρ m w (Instr.makeSlice t l' u) v m':=by
 unfold gG at a;split at a
 .rename_i e N l O c hu;cases K2 D;cases K2 C;split at a
  .rename_i i hi;obtain⟨b,a⟩:=A3 a;obtain⟨b,h3⟩:=B3 b;obtain⟨b,A⟩:=B3 b;have b:=A2 b;have A:=A2 A;have h3:=A2 h3;split at a
   .rename_i zs M;rw[J4]at a;have B:I2 P e=some i.size:=by simp[I2,hi]
    obtain⟨s,j⟩:=DJ (ρ:=ρ) B M;obtain⟨g1,g2,g3⟩:=lS h E a G j;refine⟨.slice (some ⟨w.heap.size,0,none⟩) l c,_,_,?_,?_,g3⟩
    .have wl:IntKind.i64.wrap (Int.ofNat l)=Int.ofNat l:=sA .i64 l (by simp only[OT];omega);have L:IntKind.i64.wrap (Int.ofNat c)=Int.ofNat c:=sA .i64 c (by simp only[OT];omega);have d:(askRoom (c*i.bytes)).run P w=.ok () w:=by
      unfold askRoom roomBytes;rw[A9 A0];rfl
     have o:((i.bytes:Int)*(c:Int))=((c*i.bytes:Nat):Int):=by rw[dA];simp
     have I:((i.bytes:Int)*(l:Int))<=((c*i.bytes:Nat):Int):=by
      have:i.bytes*l<=c*i.bytes:=by rw[dA];exact G0 _ b
      exact_mod_cast this
     unfold Instr.makeSlice;simp only[A5,D7 hu,asInt,asIntOf,Result.andThen,Sem.run_pure,Z1 hi,wl,L];rw[A9]
     .have g:(Int.ofNat c).toNat=c:=by simp
      have r:(Int.ofNat l).toNat=l:=by simp
      simp only[A5,Sem.run_pure,Result.andThen,g,r,d,L7 B];rcases s with⟨f,rfl⟩|⟨f,z,q,p⟩
      .have J:∀ z:c9,Array.map (fun x=>z[x%z.size]!) (Array.range (c*i.size))=⟨[]⟩:=fun z=>by rw[f];apply K0;simp
       simp only[B0 f,J];rfl
      .simp only[A9 f,A5,Sem.run_pure,Result.andThen,q,p];rfl
     .have K:Int.ofNat c=(c:Int):=rfl;have F:Int.ofNat l=(l:Int):=rfl;simp only[K,F,o];simp;omega
    .rw[g1];exact .sl g2 (by unfold O7;omega)
   .cases a
  .cases a
 .cases a
end
end
end Go.Sx
