import Derived.Test.YtdimocjaepnifaaGreatDoorX0
import Derived.ChangeKeysEq
set_option linter.all false
set_option maxRecDepth 100000
set_option maxHeartbeats 4000000
namespace Go.Sx
variable {k:Nat->Value}{cs cs' r' zs:D6}{dflt mm off top y:Nat}{e:TypeId}{i' x':Value}{parts parts':List (Nat×Value)}{lo mx o':W4}
section
open Go
def T7(d:Nat)(a:d<8){α β:Type}(n:N8 α)(v:α)(k:N8 α->β):(sel d).upd n v k=k ((sel d).upd n v fun n=>n):=by
 match d,a with
 | 0,_|1,_|2,_|3,_|4,_|5,_|6,_|7,_=>rfl
def A3g(d:Nat)(a:d<8){α:Type}(n:N8 α)(v:α):(sel d).get ((sel d).upd n v fun n=>n)=v:=by
 match d,a with
 | 0,_|1,_|2,_|3,_|4,_|5,_|6,_|7,_=>rfl
def B4o(d e:Nat)(b:d<8)(he:e<8)(a:e≠d){α:Type}(n:N8 α)(v:α):(sel e).get ((sel d).upd n v fun n=>n)=(sel e).get n:=by
 match d,b with
 | 0,_|1,_|2,_|3,_|4,_|5,_|6,_|7,_ =>
   match e,he with
   | 0,_|1,_|2,_|3,_|4,_|5,_|6,_|7,_=>first|rfl|exact absurd rfl a
def hH{α β:Type}(n:N8 α)(k:N8 α->β):OD n k=k n:=rfl
def m8(n:Nat):n%8<8:=uE _ B8
def MJ{β:Type}(t:Nat)(v:Value)(fr:Fr)(k:Fr->β):AU (sel (t / 64%8)) (sel (t / 8%8)) (sel (t%8)) v fr k=k (fr.set t v):=by
 unfold Fr.set AU;rw[T7 _ (m8 _)];conv=>rhs;rw[T7 _ (m8 _)]
 rw[T7 _ (m8 _)];conv=>rhs;rw[T7 _ (m8 _)]
 rw[T7 _ (m8 _)]
def u6(d e:Nat)(a:d<8)(he:e<8){α:Type}(n:N8 α)(v:α):(sel e).get ((sel d).upd n v fun n=>n)=if e=d then v else(sel e).get n:=by
 by_cases h:e=d
 .subst h;rw[A4 rfl,A3g _ he]
 .rw[A3 h,B4o _ _ a he h]
def Q4(fr:Fr)(t u:Nat)(v:Value)(d:t<512)(hu:u<512):(fr.set t v).get u=if u=t then v else fr.get u:=by
 unfold Fr.set AU;simp only[T7 _ (m8 _) _ _ (fun b=>Sel.upd _ _ _ _),T7 _ (m8 _) _ _ (fun c=>Sel.upd _ _ _ _)];unfold Fr.get;rw[u6 _ _ (m8 _) (m8 _)];by_cases h1:u / 64%8=t / 64%8
 .rw[A4 h1,u6 _ _ (m8 _) (m8 _)];by_cases a:u / 8%8=t / 8%8
  .rw[A4 a,u6 _ _ (m8 _) (m8 _)];by_cases h3:u%8=t%8
   .rw[A4 h3,A4 A0]
   .rw[A3 h3,A3 (by intro h;subst h;exact h3 rfl),h1,a]
  .rw[A3 a,A3 (by intro h;subst h;exact a rfl),h1]
 .rw[A3 h1,A3 (by intro h;subst h;exact h1 rfl)]
def OB(t:Nat):fr0.get t=undef:=by
 unfold Fr.get fr0;have h:∀ (d:Nat) {α:Type} (v:α),d<8->(sel d).get (uD v)=v:=fun d α v a=>by
  match d,a with
  | 0,_|1,_|2,_|3,_|4,_|5,_|6,_|7,_=>rfl
 rw[h _ _ (m8 _),h _ _ (m8 _),h _ _ (m8 _)];rfl
def iO{α β:Type}(h:Hp α)(n:Nat)(v:Option α)(k:Hp α->β):h.put n v k=k (h.set n v):=by
 unfold Hp.set Hp.put eF;rw[T7 _ (m8 _),T7 _ (m8 _),T7 _ (m8 _),T7 _ (m8 _),T7 _ (m8 _),T7 _ (m8 _)];conv=>rhs;rw[T7 _ (m8 _),T7 _ (m8 _),T7 _ (m8 _),T7 _ (m8 _),T7 _ (m8 _)]
def F5{α:Type}(h:Hp α)(n m:Nat)(v:Option α)(f:n<=J0)(hm:m<=J0):(h.set n v).get m=if m=n then v else h.get m:=by
 unfold J0 at f hm;unfold Hp.set Hp.put eF;rw[T7 _ (m8 _),T7 _ (m8 _),T7 _ (m8 _),T7 _ (m8 _),T7 _ (m8 _)];unfold Hp.get;rw[u6 _ _ (m8 _) (m8 _)];by_cases h1:m / 32768%8=n / 32768%8
 .rw[A4 h1,u6 _ _ (m8 _) (m8 _)];by_cases a:m / 4096%8=n / 4096%8
  .rw[A4 a,u6 _ _ (m8 _) (m8 _)];by_cases h3:m / 512%8=n / 512%8
   .rw[A4 h3,u6 _ _ (m8 _) (m8 _)];by_cases b:m / 64%8=n / 64%8
    .rw[A4 b,u6 _ _ (m8 _) (m8 _)];by_cases c:m / 8%8=n / 8%8
     .rw[A4 c,u6 _ _ (m8 _) (m8 _)];by_cases d:m%8=n%8
      .rw[A4 d,A4 A0]
      .rw[A3 d,A3 (by intro h;subst h;exact d rfl),h1,a,h3,b,c]
     .rw[A3 c,A3 (by intro h;subst h;exact c rfl),h1,a,h3,b]
    .rw[A3 b,A3 (by intro h;subst h;exact b rfl),h1,a,h3]
   .rw[A3 h3,A3 (by intro h;subst h;exact h3 rfl),h1,a]
  .rw[A3 a,A3 (by intro h;subst h;exact a rfl),h1]
 .rw[A3 h1,A3 (by intro h;subst h;exact h1 rfl)]
def wM{α:Type}(m:Nat):(hp0:Hp α).get m=none:=by
 have h:∀ (d:Nat) {α:Type} (v:α),d<8->(sel d).get (uD v)=v:=fun d α v a=>by
  match d,a with
  | 0,_|1,_|2,_|3,_|4,_|5,_|6,_|7,_=>rfl
 unfold Hp.get hp0;rw[h _ _ (m8 _),h _ _ (m8 _),h _ _ (m8 _),h _ _ (m8 _),h _ _ (m8 _),h _ _ (m8 _)]
def G5{β:Type}(n:Nat)(k:Nat->β):M5 n k=k n:=by cases n<;>rfl
def yM{β:Type}(i:Int)(k:Int->β):FE i k=k i:=by cases i<;>simp[FE,G5]
def J2{α β:Type}:∀ (l:List α) (k:List α->β),V9 l k=k l
 | [],k=>rfl
 | x::r,k=>by simp[V9,J2 r]
def cF(k:IntKind)(n:Int):mkI k n=.int k n:=by simp[mkI,yM]
def toV:U->W4
 | .int k n=>some (.int k n)
 | .bool b=>some (.bool b)
 | .str s=>some (.string ⟨⟨s⟩⟩)
 | _=>none
def G9:U->Nat
 | .int k _=>lT k
 | .bool _=>8
 | .str _=>9
 | .seq _ w _=>10+w
 | .none=>99
def uC(E:Nat->U):Value->Option Int
 | .complex .f64 i _=>match E i with
   | .int _ n=>some n
   | _=>none
 | .int _ n=>some n
 | _=>none
class Ora where
 env:Nat->U
 G:Nat->Option Obj
variable [Ora]
structure C2Y where
 blk:Nat
 sh:Nat
 cap:Nat
 len:Nat
 G:Nat->Option Obj
 on:Bool
abbrev Loc:=C2Y
abbrev lc(b s c:Nat):Loc:=⟨b,s,c,0,fun _=>none,true⟩
abbrev Ren:=Nat->Option Loc
inductive Enc (G:Nat->Option Obj):U->Value->Prop
 | sc {u v} (h:toV u=some v):Enc G u v
 | nil {w}:Enc G (.seq true w []) (.slice none 0 0)
 | emp {w a}:Enc G (.seq false w []) (.slice (some a) 0 0)
 | sl {w rows a o c C T fz} (hc:rows.length<=c) (hg:rows≠[]->G a=some (.cells C T fz)) (hz:rows≠[]->o+rows.length*w<=C.size) (hw:∀ row ∈ rows,row.length=w)
    (h:∀ (r:Nat) (row:List U) (j:Nat) (u:U) (v:Value),rows[r]? = some row->row[j]? = some u->C[o+r*w+j]? = some v->Enc G u v):Enc G (.seq false w rows) (.slice (some ⟨a,o,none⟩) rows.length c)
omit [Ora] in
def Enc.mono{G a:Nat->Option Obj}(h:∀ k o,G k=some o->a k=some o){u:U}{v:Value}(e:Enc G u v):Enc a u v:=by
 induction e with
 | sc h=>exact .sc h
 | nil=>exact .nil
 | emp=>exact .emp
 | sl b c f hw h1 g=>exact .sl b (fun d=>h _ _ (c d)) f hw g
omit [Ora] in
def Enc.slice{G:Nat->Option Obj}{u:U}{v:Value}(h:Enc G u v)(d:10<=G9 u):∃ a n c,v=.slice a n c:=by
 cases h with
 | sc h =>
   cases u with
   | int k n=>cases k<;>simp[G9,lT]at d
   | bool b=>simp[G9]at d
   | str s=>simp[G9]at d
   | none=>cases h
   | seq _ _ _=>cases h
 | nil=>exact⟨_,_,_,rfl⟩
 | emp=>exact⟨_,_,_,rfl⟩
 | sl=>exact⟨_,_,_,rfl⟩
def A66:Value->Prop
 | .slice _ n c=>c=n
 | _=>False
def A2C(ρ:Ren)(b:Nat)(u:U)(v':Value):Prop :=
 (∃ l w,ρ b=some l/\l.on=false/\u=.seq true w []/\v'=.slice none 0 0)∨(∃ l w rows,ρ b=some l/\l.on=true/\u=.seq false w rows/\rows.length=l.len/\l.len<=l.cap/\v'=.slice (some ⟨l.blk,l.sh,none⟩) l.len l.cap)
def B9H(ρ:Ren)(b:Nat)(u:U)(z:Option Int)(o:Nat)(v':Value):Prop :=
 ∃ l w rows a s c k,ρ b=some l/\u=.seq false w rows/\Enc l.G u (.slice (some ⟨a,s,none⟩) rows.length c)/\z=some (.ofNat k)/\k<rows.length/\o<w/\v'=.pointer (some ⟨a,s+k*w+o,none⟩)
def B7n(ρ:Ren)(b:Nat)(u:U)(z:Option Int)(o:Nat)(v':Value):Prop :=
 ∃ l w rows k,ρ b=some l/\l.on=true/\u=.seq false w rows/\z=some (.ofNat k)/\k<l.len/\o<w/\v'=.pointer (some ⟨l.blk,l.sh+k*w+o,none⟩)
def A10(ρ:Ren)(b:Nat)(v':Value):Prop:=∃ l,ρ b=some l/\((l.on=false/\v'=.pointer none)∨(l.on=true/\∃ a,v'=.pointer (some a)/\(l.cap≠0->a=⟨l.blk,l.sh,none⟩)))
def A10.cells{ρ:Ren}{b:Nat}{v':Value}(h:A10 ρ b v'):v'.cells=#[v']:=by
 obtain⟨l,_,⟨_,rfl⟩|⟨_,a,rfl,_⟩⟩:=h<;>rfl
def cR:Value->Bool
 | .agg _|.tuple _=>false
 | _=>true
def A10.flat{ρ:Ren}{b:Nat}{v':Value}(h:A10 ρ b v'):cR v'=true:=by
 obtain⟨l,_,⟨_,rfl⟩|⟨_,a,rfl,_⟩⟩:=h<;>rfl
def cQ{v:Value}(h:cR v=true):v.cells=#[v]:=by cases v<;>first|rfl|cases h
inductive VR (ρ:Ren):Value->Value->Prop
 | pure {v} (h:K5 v=true):VR ρ v v
 | hole {i t v'} (h:toV (Ora.env i)=some v') (ht:G9 (Ora.env i)=t):VR ρ (.complex .f64 i t) v'
 | junk {i t v'} (h:i=1->cR v'=true):VR ρ (.complex .f32 i t) v'
 | ixp {a s n i l z v'} (h:ρ a.block=some l) (hs:a.spot=none) (hi:uC Ora.env i=some (.ofNat z)) (hz:z<n) (hv:v'=.pointer (some ⟨l.blk,a.off+z*s+l.sh,none⟩)):VR ρ (Go.Sx.ixp a s i n) v'
 | dat {b i t v' l} (h:ρ b=some l) (he:Enc l.G (Ora.env i) v') (ht:G9 (Ora.env i)=t) (h10:10<=t) (hf:cR v'=true):VR ρ (Go.Sx.dat b i t) v'
 | clp {b i t v' l} (h:ρ b=some l) (he:Enc l.G (Ora.env i) v') (ht:G9 (Ora.env i)=t) (h10:10<=t) (hf:cR v'=true) (hc:A66 v'):VR ρ (Go.Sx.clp b i t) v'
 | own {b i t v'} (h:A2C ρ b (Ora.env i) v') (ht:G9 (Ora.env i)=t) (hf:cR v'=true):VR ρ (Go.Sx.own b i t) v'
 | dpt {b i t z o v'} (h:B9H ρ b (Ora.env i) (uC Ora.env z) o v') (ht:G9 (Ora.env i)=t) (hf:cR v'=true):VR ρ (Go.Sx.dpt b i t z o) v'
 | opt {b i t z o v'} (h:B7n ρ b (Ora.env i) (uC Ora.env z) o v') (ht:G9 (Ora.env i)=t) (hf:cR v'=true):VR ρ (Go.Sx.opt b i t z o) v'
 | ptr {b o l} (h:ρ b=some l):VR ρ (.pointer (some ⟨b,o,none⟩)) (.pointer (some ⟨l.blk,o+l.sh,none⟩))
 | sl {b o l n m} (h:ρ b=some l) (hm:m<R5):VR ρ (.slice (some ⟨b,o,none⟩) n m) (.slice (some ⟨l.blk,o+l.sh,none⟩) n m)
 | op {b o l n m m'} (h:ρ b=some l) (hm:R5<=m) (hn:n<=m') (hc:m=R5->o=0->m'=l.cap):VR ρ (.slice (some ⟨b,o,none⟩) n m) (.slice (some ⟨l.blk,o+l.sh,none⟩) n m')
 | opE {a a' m'} (hs:a'.spot=none):VR ρ (.slice (some a) 0 (R5+2)) (.slice (some a') 0 m')
 | map {b l} (h:ρ b=some l):VR ρ (.map (some b)) (.map (some l.blk))
 | sdt {b v'} (h:A10 ρ b v'):VR ρ (Go.Sx.sdt b) v'
 | yv {b l} (h:ρ b=some l):VR ρ (Go.Sx.yv b) (.func (.yield l.blk) #[] #[])
 | func {f a b a' b'} (ha:a.length=a'.length) (hb:b.length=b'.length) (h1:∀ (i:Nat) (v v':Value),a[i]? = some v->a'[i]? = some v'->VR ρ v v') (h2:∀ (i:Nat) (v v':Value),b[i]? = some v->b'[i]? = some v'->VR ρ v v') :
    VR ρ (.func (.func f) ⟨a⟩ ⟨b⟩) (.func (.func f) ⟨a'⟩ ⟨b'⟩)
 | iface {t v v'} (h:VR ρ v v'):VR ρ (.iface t v) (.iface t v')
 | agg {a a'} (ha:a.length=a'.length) (h:∀ (i:Nat) (v v':Value),a[i]? = some v->a'[i]? = some v'->VR ρ v v'):VR ρ (.agg ⟨a⟩) (.agg ⟨a'⟩)
 | tuple {a a'} (ha:a.length=a'.length) (h:∀ (i:Nat) (v v':Value),a[i]? = some v->a'[i]? = some v'->VR ρ v v'):VR ρ (.tuple ⟨a⟩) (.tuple ⟨a'⟩)
theorem A55{ρ:Ren}{b:Nat}{v':Value}(h:VR ρ (yv b) v'):∃ l,ρ b=some l/\v'=.func (.yield l.blk) #[] #[]:=by
 generalize a:yv b=x at h;cases h with
 | yv h=>cases a;exact⟨_,h,rfl⟩
 | pure hp=>subst a;simp[yv,K5]at hp
 | _=>simp[yv,ixp,Go.Sx.dat,Go.Sx.clp,Go.Sx.own,Go.Sx.dpt,Go.Sx.opt,Go.Sx.sdt]at a
def A86{ρ:Ren}{b:Nat}{v':Value}(h:VR ρ (sdt b) v'):A10 ρ b v':=by
 generalize a:sdt b=x at h;cases h with
 | sdt h=>cases a;exact h
 | pure hp=>subst a;simp[sdt,K5]at hp
 | _=>simp[sdt,ixp,Go.Sx.dat,Go.Sx.clp,Go.Sx.own,Go.Sx.dpt,Go.Sx.opt,Go.Sx.yv]at a
def LR(ρ:Ren)(a a':List Value):Prop:=a.length=a'.length/\∀ (i:Nat) (v v':Value),a[i]? = some v->a'[i]? = some v'->VR ρ v v'
def VR.mono{ρ i:Ren}(he:∀ b l,ρ b=some l->i b=some l){v v':Value}(h:VR ρ v v'):VR i v v':=by
 induction h with
 | pure h=>exact .pure h
 | hole h B=>exact .hole h B
 | junk h=>exact .junk h
 | ixp h j hi A x=>exact .ixp (he _ _ h) j hi A x
 | dat h h1 d h3 n=>exact .dat (he _ _ h) h1 d h3 n
 | clp h h1 d h3 n q=>exact .clp (he _ _ h) h1 d h3 n q
 | own h h1 d=>exact .own (h.imp (fun⟨l,w,a,b⟩=>⟨l,w,he _ _ a,b⟩) fun⟨l,w,rows,a,b⟩=>⟨l,w,rows,he _ _ a,b⟩) h1 d
 | dpt h h1 d=>exact .dpt (let ⟨l,w,rows,a,s,c,k,h0,r⟩:=h;⟨l,w,rows,a,s,c,k,he _ _ h0,r⟩) h1 d
 | opt h h1 d=>exact .opt (let ⟨l,w,rows,k,h0,r⟩:=h;⟨l,w,rows,k,he _ _ h0,r⟩) h1 d
 | ptr h=>exact .ptr (he _ _ h)
 | sl h hm=>exact .sl (he _ _ h) hm
 | op h hm u t=>exact .op (he _ _ h) hm u t
 | opE j=>exact .opE j
 | map h=>exact .map (he _ _ h)
 | yv h=>exact .yv (he _ _ h)
 | sdt h=>exact .sdt (let ⟨l,a,b⟩:=h;⟨l,he _ _ a,b⟩)
 | func g z h1 d o p=>exact .func g z o p
 | iface h f=>exact .iface f
 | agg g h f=>exact .agg g f
 | tuple g h f=>exact .tuple g f
def LR.mono{ρ c:Ren}(he:∀ b l,ρ b=some l->c b=some l){a a':D6}(h:LR ρ a a'):LR c a a':=⟨h.1,fun i v v' h1 d=>(h.2 i v v' h1 d).mono he⟩
def LR.nil{ρ:Ren}:LR ρ [] []:=⟨rfl,fun i v v' h=>by simp at h⟩
def LR.cons{ρ:Ren}{v v':Value}{a a':D6}(d:VR ρ v v')(h:LR ρ a a'):LR ρ (v::a) (v'::a'):=by
 refine⟨by simp[h.1],fun i u c h1 b=>?_⟩;cases i with
 | zero=>simp at h1 b;subst h1;subst b;exact d
 | succ i=>exact h.2 i u c (by simpa using h1) (by simpa using b)
def LR.append{ρ:Ren}{a a' b b':D6}(h:LR ρ a a')(k:LR ρ b b'):LR ρ (a++b) (a'++b'):=by
 refine⟨by simp[h.1,k.1],fun i u f h1 d=>?_⟩;rcases G7 i a.length with c|c
 .rw[F8 c]at h1;rw[F8 (h.1▸c)]at d;exact h.2 i u f h1 d
 .rw[E9 c]at h1;rw[E9 (h.1▸c),<- h.1]at d;exact k.2 _ u f h1 d
def LR.tail{ρ:Ren}{v:Value}{a a':D6}(h:LR ρ (v::a) a'):∃ v' r',a'=v'::r'/\VR ρ v v'/\LR ρ a r':=by
 obtain⟨h1,b⟩:=h;cases a' with
 | nil=>simp at h1
 | cons v' r'=>exact⟨v',r',rfl,b 0 v v' rfl rfl,by simpa using h1,fun i u c g1 g2=>b (i+1) u c (by simpa using g1) (by simpa using g2)⟩
def LR.nil_inv{ρ:Ren}{a':D6}(h:LR ρ [] a'):a'=[]:=D5.1 h.1.symm
def LR.get{ρ:Ren}{a a':D6}(h:LR ρ a a'){i:Nat}{v:Value}(hi:a[i]? = some v):∃ v',a'[i]? = some v'/\VR ρ v v':=by
 have c:=(B3.1 hi).1;have b:i<a'.length:=h.1▸c;exact⟨a'[i],A7 b,h.2 i v _ hi (A7 b)⟩
def LR.drop{ρ:Ren}{a a':D6}(h:LR ρ a a')(n:Nat):LR ρ (a.drop n) (a'.drop n):=⟨by simp[h.1],fun i u c h1 b=>by
 rw[J7]at h1 b;exact h.2 _ u c h1 b⟩
def LR.take{ρ:Ren}{a a':D6}(h:LR ρ a a')(n:Nat):LR ρ (a.take n) (a'.take n):=⟨by simp[h.1],fun i u c h1 b=>by
 have hi:i<n:=by
  have:=(B3.1 h1).1;simp at this;omega
 rw[G4 hi]at h1 b;exact h.2 _ u c h1 b⟩
def LR.set{ρ:Ren}{a a':D6}(h:LR ρ a a'){v v':Value}(f:VR ρ v v')(n:Nat):LR ρ (a.set n v) (a'.set n v'):=⟨by simp[h.1],fun i u d h1 b=>by
 by_cases e:n=i
 .subst e;have c:=(B3.1 h1).1;simp at c;rw[Y2 c]at h1;rw[Y2 (h.1▸c)]at b;cases h1;cases b;exact f
 .rw[aR e]at h1 b;exact h.2 _ u d h1 b⟩
def LR.all_pure{ρ:Ren}:∀ {a:D6},a.all K5=true->LR ρ a a
 | [],_=>.nil
 | v::r,h=>by simp only[bT,I3]at h;exact .cons (.pure h.1) (LR.all_pure h.2)
def VR.ofC{ρ:Ren}{v:Value}(h:A0R v=true):VR ρ v v:=by
 cases v with
 | agg cs =>
   obtain⟨l⟩:=cs;have:LR ρ l l:=LR.all_pure h;exact .agg this.1 this.2
 | _=>exact .pure h
omit [Ora] in
def lH{u:U}{v:Value}(h:toV u=some v):K5 v=true:=by
 cases u<;>cases h<;>rfl
def XB{v:Value}(h:K5 v=true):v.cells=#[v]:=by cases v<;>first|rfl|cases h
def VR.cells{ρ:Ren}{v v':Value}(h:VR ρ v v')(g:nL v=false):LR ρ v.cells.toList v'.cells.toList:=by
 have one:∀ {v v':Value},VR ρ v v'->LR ρ [v] [v']:=fun h=>.cons h .nil
 cases h with
 | agg c h=>exact⟨c,h⟩
 | junk h =>
   have h1:=A1 (by simpa [nL]using g);rw[cQ (h h1)];exact one (.junk h)
 | hole h p=>rw[XB (lH h)];exact one (.hole h p)
 | ixp h d hi o l=>subst l;exact one (.ixp h d hi o rfl)
 | pure hp =>
   cases v with
   | agg cs=>simp[K5]at hp
   | _=>exact one (.pure hp)
 | dat h h1 a h3 b=>rw[cQ b];exact one (.dat h h1 a h3 b)
 | clp h h1 a h3 b f=>rw[cQ b];exact one (.clp h h1 a h3 b f)
 | own h h1 a=>rw[cQ a];exact one (.own h h1 a)
 | dpt h h1 a=>rw[cQ a];exact one (.dpt h h1 a)
 | opt h h1 a=>rw[cQ a];exact one (.opt h h1 a)
 | ptr h=>exact one (.ptr h)
 | sl h hm=>exact one (.sl h hm)
 | op h hm j i=>exact one (.op h hm j i)
 | opE d=>exact one (.opE d)
 | map h=>exact one (.map h)
 | yv h=>exact one (.yv h)
 | sdt h=>rw[h.cells];exact one (.sdt h)
 | func c n h1 a=>exact one (.func c n h1 a)
 | iface h=>exact one (.iface h)
 | tuple c h=>exact one (.tuple c h)
def AB.on:AB->Bool
 | .frz=>false
 | _=>true
def AB.rw:AB->Bool
 | .cells _ _ ro=>!ro
 | .sq _ _ _ _ ro=>!ro
 | .frz=>false
 | _=>true
def AB.rw_on{ab:AB}(h:ab.rw=true):ab.on=true:=by
 cases ab<;>first|rfl|cases h
def Tc(ab:AB)(l:Loc)(k:Nat):Prop:=(ab.on=true/\l.on=true/\l.blk=k)∨(ab=.frz/\∃ o,l.G k=some o)
def Y8(u:U):Value:=(toV u).getD (.tuple #[])
def v6(a:Bool)(us:List U):Value :=
 match a,us with
 | true,us=>.agg ⟨us.map Y8⟩
 | false,u::_=>Y8 u
 | false,[]=>.tuple #[]
def BE(y:MTy)(rows:List (List U))(es:List MapEntry):Prop :=
 rows.length=es.length/\∀ (i:Nat) (row:List U) (e:MapEntry),rows[i]? = some row->es[i]? = some e->row.map G9=y.ks++y.vs/\e.key=v6 y.ka (row.take y.ks.length)/\e.val=v6 y.va (row.drop y.ks.length)
def MpR(P:Program)(u:U)(t:Nat)(T:TypeId)(l:Loc)(w:World):Prop :=
 ∃ y es clock rows,A2F P T=some y/\t=10+y.w/\w.heap[l.blk]? = some (.map es clock)/\u=.seq false y.w rows/\BE y rows es.toList
def C2W(P:Program)(ρ:Ren)(u:U)(wd:Nat)(T:TypeId)(g:Nat)(ro:Bool)(l:Loc)(w:World):Prop :=
 ∃ C fz a rows lg,w.heap[l.blk]? = some (.cells C a fz)/\u=.seq false wd rows/\rows.length=l.len/\l.len<=l.cap/\l.sh+l.cap*wd<=C.size/\(∀ row ∈ rows,row.length=wd)/\ρ g=some lg /\
  (∀ (r:Nat) (row:List U) (j:Nat) (x:U) (v:Value),rows[r]? = some row->row[j]? = some x->C[l.sh+r*wd+j]? = some v->Enc lg.G x v) /\
  (ro=false->a=T/\∀ i,i<C.size->¬ (fz.1<=i/\i<fz.2))
structure SqR (P:Program) (ρ:Ren) (u:U) (t:Nat) (T:TypeId) (g:Nat) (ro:Bool) (l:Loc) (w:World):Prop where
 ex:∃ wd inf,t=10+wd/\P.info? T=some inf/\inf.size=wd/\((l.on=false/\u=.seq true wd [])∨(l.on=true/\C2W P ρ u wd T g ro l w))
def StR(st:Nat)(s:LoopState)(p:Option Code):Prop :=
 match st with
 | 0=>s=.ready/\p=none
 | 1=>s=.busy
 | 2=>s=.done/\p=some .ret
 | 3=>True
 | k+4=>s=.done/\p=some (.exit k)
structure LpR (P:Program) (ρ:Ren) (f:FuncId) (q:List Bool) (vs:List Value) (st:Nat) (r:Loop):Prop where
 code:∃ fn body x,P.funcs[f]? = some fn/\fn.body=some body/\H5 q body=some (.rangeFunc x r.params r.assign r.body)/\vs.length=fn.ntmps
 fr:LR ρ vs r.tmps.toList
 st:StR st r.state r.pending
def LpR.mono{P:Program}{ρ a:Ren}(he:∀ b l,ρ b=some l->a b=some l){f:FuncId}{q:List Bool}{vs:D6}{st:Nat}{r:Loop}(h:LpR P ρ f q vs st r):LpR P a f q vs st r:=⟨h.code,h.fr.mono he,h.st⟩
structure NF (C:Array Value) (fz:Nat×Nat):Prop where
 nf:∀ i,i<C.size->¬ (fz.1<=i/\i<fz.2)
 le:fz.1<=fz.2
instance{C:r7}{fz:Nat×Nat}:CoeFun (NF C fz) (fun _=>∀ i,i<C.size->¬ (fz.1<=i/\i<fz.2)):=⟨NF.nf⟩
def NF.zero{C:r7}:NF C (0,0):=⟨fun i _ hh=>by have h1:0<=i:=hh.1;have a:i<0:=hh.2;omega,B0 _⟩
def NF.end{C:r7}:NF C (C.size,C.size+1):=⟨fun i h hh=>by have h1:C.size<=i:=hh.1;omega,t8 _⟩
def NF.sz{C C':r7}{fz:Nat×Nat}(h:NF C fz)(a:C'.size=C.size):NF C' fz:=⟨fun i hi=>h.nf i (a▸hi),h.le⟩
def NF.mark{C:r7}{fz:Nat×Nat}(h:NF C fz):NF C (if fz.1 == fz.2 then(C.size,C.size+1)else(min fz.1 C.size,max fz.2 (C.size+1))):=by
 by_cases e:fz.1=fz.2
 .rw[A4 (by simp[e])];exact .end
 .rw[A3 (by simp[e])];have hle:=h.le;have h1:C.size<=fz.1:=by
   rcases G7 fz.1 C.size with a|a
   .exact absurd ⟨B0 _,A0⟩ (h.nf fz.1 a)
   .exact a
  exact⟨fun i hi hh=>by have h3:min fz.1 C.size<=i:=hh.1;omega,by show min fz.1 C.size<=max fz.2 (C.size+1);omega⟩
def BR(P:Program)(ρ:Ren)(ab:AB)(l:Loc)(w:World):Prop :=
 match ab with
 | .cells cs T ro=>l.on=true/\∃ C fz a,w.heap[l.blk]? = some (.cells C a fz)/\(∀ i v,cs[i]? = some v->∃ v',C[l.sh+i]? = some v'/\VR ρ v v') /\
    (ro=false->a=T/\NF C fz/\∀ inf,P.info? T=some inf->l.sh+l.cap*inf.size<=C.size/\l.sh%inf.size=0)
 | .mp c t T=>(l.on=true/\l.sh=0)/\MpR P (Ora.env c) t T l w
 | .iter s pos=>(l.on=true/\l.sh=0)/\w.heap[l.blk]? = some (.stringIter s pos)
 | .sq c t T g ro=>SqR P ρ (Ora.env c) t T g ro l w
 | .lp f q vs st=>(l.on=true/\l.sh=0)/\∃ r,w.heap[l.blk]? = some (.loop r)/\LpR P ρ f q vs st r
 | .dfr b=>(l.on=true/\l.sh=0)/\∃ x,w.heap[l.blk]? = some (.deferred x)/\(b=true->x=some [])
 | .frz=>l.on=false/\∀ k o,l.G k=some o->w.heap[k]? = some o
def BR.mono{P:Program}{ρ p:Ren}(he:∀ b l,ρ b=some l->p b=some l){ab:AB}{l:Loc}{w w':World}(hw:∀ k,Tc ab l k->w'.heap[k]? = w.heap[k]?)(h:BR P ρ ab l w):BR P p ab l w':=by
 cases ab with
 | cells cs T ro =>
   obtain⟨h0,C,fz,z,h1,d,h3⟩:=h;exact⟨h0,C,fz,z,(hw _ (.inl ⟨rfl,h0,rfl⟩)).trans h1,fun i v hi=>let ⟨v',a,b⟩:=d i v hi;⟨v',a,b.mono he⟩,h3⟩
 | mp c t T =>
   obtain⟨h0,y,es,clock,rows,h1,d,h3,n⟩:=h;exact⟨h0,y,es,clock,rows,h1,d,(hw _ (.inl ⟨rfl,h0.1,rfl⟩)).trans h3,n⟩
 | iter s pos=>exact⟨h.1,(hw _ (.inl ⟨rfl,h.1.1,rfl⟩)).trans h.2⟩
 | lp f q vs st=>obtain⟨h0,r,h1,d⟩:=h;exact⟨h0,r,(hw _ (.inl ⟨rfl,h0.1,rfl⟩)).trans h1,d.mono he⟩
 | dfr b=>obtain⟨h0,x,h1,d⟩:=h;exact⟨h0,x,(hw _ (.inl ⟨rfl,h0.1,rfl⟩)).trans h1,d⟩
 | sq c t T g ro =>
   obtain⟨wd,inf,h1,d,h3,n⟩:=SqR.ex h;refine⟨⟨wd,inf,h1,d,h3,n.imp (fun x=>x) fun⟨j,u⟩=>⟨j,?_⟩⟩⟩;obtain⟨C,fz,z,rows,lg,h1,d,h3,n,u,F,B,E,D⟩:=u;exact⟨C,fz,z,rows,lg,(hw _ (.inl ⟨rfl,j,rfl⟩)).trans h1,d,h3,n,u,F,he _ _ B,E,D⟩
 | frz=>exact⟨h.1,fun k o A=>(hw k (.inr ⟨rfl,o,A⟩)).trans (h.2 k o A)⟩
structure HR (P:Program) (base:Nat) (ρ:Ren) (H:Hp AB) (w:World):Prop where
 dom:∀ b l,ρ b=some l->b<=J0
 at_:∀ id,id<=J0->∀ ab,Hp.get H id=some ab->∃ l,ρ id=some l/\BR P ρ ab l w/\(ab.rw=true->l.on=true->base<=l.blk/\∀ id2,id2<=J0->∀ ab2 l2,Hp.get H id2=some ab2->ρ id2=some l2->Tc ab2 l2 l.blk->id2=id)
def BR.tc{P:Program}{ρ:Ren}{ab:AB}{l:Loc}{w:World}(h:BR P ρ ab l w){k:Nat}(p:Tc ab l k):k<w.heap.size:=by
 have key:∀ k o,w.heap[k]? = some o->k<w.heap.size:=fun k o j=>(E4.1 j).1
 rcases p with⟨h1,d,rfl⟩|⟨rfl,o,h1⟩
 .cases ab with
  | cells cs T ro=>obtain⟨_,C,fz,n,h1,_⟩:=h;exact key _ _ h1
  | mp c t T=>obtain⟨h0,y,es,clock,rows,h1,u,h3,i⟩:=h;exact key _ _ h3
  | iter s pos=>exact key _ _ h.2
  | lp f q vs st=>obtain⟨_,r,h1,_⟩:=h;exact key _ _ h1
  | dfr b=>obtain⟨_,x,h1,_⟩:=h;exact key _ _ h1
  | sq c t T g ro =>
    obtain⟨wd,inf,_,_,_,i⟩:=SqR.ex h;rcases i with⟨a,_⟩|⟨_,a⟩
    .rw[d]at a;cases a
    .obtain⟨C,fz,n,rows,lg,h1,_⟩:=a;exact key _ _ h1
  | frz=>cases h1
 .exact key _ _ (h.2 k o h1)
def HR.atl{P:Program}{base:Nat}{ρ:Ren}{H:Hp AB}{w:World}(h:HR P base ρ H w){id:Nat}{l:Loc}(c:ρ id=some l){ab:AB}(d:Hp.get H id=some ab) :
  BR P ρ ab l w/\(ab.rw=true->l.on=true->base<=l.blk/\∀ a,a<=J0->∀ b l2,Hp.get H a=some b->ρ a=some l2->Tc b l2 l.blk->a=id):=by
 obtain⟨l0,h1,f,h3⟩:=h.at_ id (h.dom id l c) ab d;rw[c]at h1
 have:=A9 h1;subst this;exact⟨f,h3⟩
def HR.sub{P:Program}{base:Nat}{ρ:Ren}{H n:Hp AB}{w:World}(h:HR P base ρ H w)(o:∀ id,id<=J0->∀ ab,Hp.get n id=some ab->Hp.get H id=some ab):HR P base ρ n w :=
 ⟨h.dom,fun id hid ab j=>let ⟨l,a,b,c⟩:=h.at_ id hid ab (o id hid ab j);⟨l,a,b,fun hr p=>⟨(c hr p).1,fun i d f l2 g=>(c hr p).2 i d f l2 (o i d f g)⟩⟩⟩
def AB.fr:AB->Bool
 | .cells _ _ ro=>!ro
 | _=>true
def AB.rw_fr{ab:AB}(h:ab.rw=true):ab.fr=true:=by
 cases ab<;>first|rfl|exact h
def Tf(ab:AB)(l:Loc)(k:Nat):Prop:=ab.fr=true/\Tc ab l k
def Fp(ρ:Ren)(H:Hp AB)(k:Nat):Prop:=∃ id ab l,id<=J0/\Hp.get H id=some ab/\ρ id=some l/\Tf ab l k
structure St (P:Program) (base:Nat) (ρ ρ':Ren) (m m':Mem) (w w':World):Prop where
 ext:∀ b l,ρ b=some l->ρ' b=some l
 new:∀ b l,ρ' b=some l->ρ b=none->m.n<=b/\b<m'.n
 nle:m.n<=m'.n
 hle:m.hi<=m'.hi
 nhi:m.n<=m.hi->m'.n<=m'.hi
 hr:HR P base ρ' m'.H w'
 wsub:∀ b ∈ m.W,b ∈ m'.W
 wrw:∀ b ∈ m'.W,b ∉ m.W->∀ l,ρ b=some l->∃ ab,Hp.get m.H b=some ab/\ab.rw=true
 keep:∀ k,k<w.heap.size->(∀ b ∈ m'.W,∀ l,ρ b=some l->l.on=true->l.blk≠k)->w'.heap[k]? = w.heap[k]?
 size:w.heap.size<=w'.heap.size
 os:w'.os=w.os/\w'.tape=w.tape/\w'.output=w.output
 blk:∀ b l,ρ' b=some l->ρ b=none->l.on=true->w.heap.size<=l.blk∨∃ b0 ∈ m'.W,∃ l0,ρ b0=some l0/\l0.on=true/\l0.blk=l.blk
 same:∀ id,id<=J0->id ∉ m'.W->(id<m.n∨m'.hi<=id)->Hp.get m'.H id=Hp.get m.H id
 tch:∀ k,Fp ρ' m'.H k->w.heap.size<=k∨Fp ρ m.H k
def M8(ρ:Ren)(n hi:Nat):Prop:=∀ b,n<=b->b<hi->ρ b=none
def St.refl{P:Program}{base:Nat}{ρ:Ren}{m:Mem}{w:World}(h:HR P base ρ m.H w):St P base ρ ρ m m w w :=
 ⟨fun _ _ h=>h,fun b l h1 a=>(by rw[h1]at a;cases a),B0 _,B0 _,fun h=>h,h,fun _ h=>h,fun b h1 a=>absurd h1 a,fun _ _ _=>rfl,B0 _,⟨rfl,rfl,rfl⟩,fun b l h1 a=>(by rw[h1]at a;cases a),fun _ _ _ _=>rfl,fun _ h=>.inr h⟩
def St.trans{P:Program}{base:Nat}{ρ p ρ2:Ren}{m m1 m2:Mem}{w w1 w2:World}(H:M8 ρ m.n m2.hi)(a:St P base ρ p m m1 w w1)(c:St P base p ρ2 m1 m2 w1 w2):St P base ρ ρ2 m m2 w w2:=by
 refine⟨fun b l h=>c.ext b l (a.ext b l h),fun b l h1 j=>?_,B9 a.nle c.nle,B9 a.hle c.hle,fun h=>c.nhi (a.nhi h),c.hr,fun b h=>c.wsub b (a.wsub b h),fun b h1 j l f=>?_,fun k u E=>?_,B9 a.size c.size,⟨c.os.1.trans a.os.1,c.os.2.1.trans a.os.2.1,c.os.2.2.trans a.os.2.2⟩,fun b l h1 j s=>?_,fun id hid h1 j=>?_,fun k u=>(c.tch k u).elim (fun h=>.inl (B9 a.size h)) (a.tch k)⟩
 .cases h:p b with
  | some l1=>exact⟨(a.new b l1 h j).1,E5 (a.new b l1 h j).2 c.nle⟩
  | none=>exact⟨B9 a.nle (c.new b l h1 h).1,(c.new b l h1 h).2⟩
 .by_cases h:b ∈ m1.W
  .exact a.wrw b h j l f
  .obtain⟨ab,h3,G⟩:=c.wrw b h1 h l (a.ext b l f);refine⟨ab,?_,G⟩;rw[<- a.same b (a.hr.dom b l (a.ext b l f)) h ?_]
   .exact h3
   .rcases G7 b m.n with A|x
    .exact .inl A
    .refine .inr ?_;rcases G7 b m2.hi with d|d
     .rw[H b x d]at f;cases f
     .exact B9 c.hle d
 .have h1:w1.heap[k]? = w.heap[k]? := a.keep k u fun b r l f v=>E b (c.wsub b r) l f v
  rw[<- h1];refine c.keep k (E5 u a.size) fun b r l f v=>?_
  cases h:ρ b with
  | some l0 =>
    have:=a.ext b l0 h;rw[this]at f;have f:=A9 f;subst f;exact E b r l0 h v
  | none =>
    rcases a.blk b l f h v with d|⟨g,d,l0,o,i,q⟩
    .omega
    .rw[<- q];exact E g (c.wsub g d) l0 o i
 .cases h:p b with
  | some l1 =>
    have:=c.ext b l1 h;rw[this]at h1;have h1:=A9 h1;subst h1;rcases a.blk b l1 h j s with d|⟨g,d,l0,o,q⟩
    .exact .inl d
    .exact .inr ⟨g,c.wsub g d,l0,o,q⟩
  | none =>
    rcases c.blk b l h1 h s with d|⟨g,d,l0,o,i,q⟩
    .exact .inl (B9 a.size d)
    .cases B:ρ g with
     | some l1 =>
       have:=a.ext g l1 B;rw[this]at o;have o:=A9 o;subst o;exact .inr ⟨g,d,l1,B,i,q⟩
     | none =>
       rcases a.blk g l0 o B i with z|⟨F,z,l1,D,t,C⟩
       .exact .inl (q▸z)
       .exact .inr ⟨F,c.wsub F z,l1,D,t,C.trans q⟩
 .have h3:id ∉ m1.W:=fun h=>h1 (c.wsub id h)
  rw[c.same id hid h1 (j.imp (fun h=>E5 h a.nle) fun h=>h),a.same id hid h3 (j.imp (fun h=>h) fun h=>B9 c.hle h)]
end
section
open Go
variable [Ora]
def C5{a b:Bool}(h:(a && b)=true):a=true/\b=true:=by simpa using h
theorem A6{α:Type}{c:Bool}{x:Option α}{y:α}(h:(bif c then x else none)=some y):c=true/\x=some y:=by
 cases c
 .simp at h
 .exact⟨rfl,h⟩
def N1{m:Mem}{ab:AB}{v:Value}{m':Mem}(h:y6 m ab k=some (v,m')):m.n<=J0/\v=k m.n/\m'=⟨m.H.set m.n (some ab),m.n+1,m.W,upN m.hi m.n,m.lg⟩:=by
 obtain⟨H,n,W,hi,lg⟩:=m;simp only[y6,G5,iO]at h;obtain⟨h1,a⟩:=A6 h;simp only[D9,R6]at a;exact⟨by simpa using h1,a.1.symm,a.2.symm⟩
def d8{m:Mem}{id:Nat}{ab:AB}{m':Mem}(h:iJ m id ab=some m'):id<=J0/\m'=⟨m.H.set id (some ab),m.n,id::m.W,m.hi,m.lg⟩:=by
 obtain⟨H,n,W,hi,lg⟩:=m;simp only[iJ,G5,iO]at h;obtain⟨h1,a⟩:=A6 h;simp only[D9]at a;exact⟨by simpa using h1,a.symm⟩
def bP(m:Mem)(id:Nat):oG m id=⟨m.H.set id none,m.n,id::m.W,m.hi,m.lg⟩:=by
 obtain⟨H,n,W,hi,lg⟩:=m;simp only[oG,G5,iO]
def L9(hi n:Nat):hi<=upN hi n/\n<upN hi n:=by
 unfold upN;cases h:Nat.blt n hi with
 | true=>have:=A2 h;simp;omega
 | false =>
   have:¬ n<hi:=fun a=>by rw[show Nat.blt n hi=true from D2 a]at h;cases h
   simp;omega
def upd(ρ:Ren)(n:Nat)(l:Loc):Ren:=fun b=>if b=n then some l else ρ b
def u5{ρ:Ren}{n:Nat}{l:Loc}(h:ρ n=none):∀ b k,ρ b=some k->upd ρ n l b=some k:=fun b k a=>by
 unfold upd;by_cases e:b=n
 .subst e;rw[h]at a;cases a
 .rw[A3 e];exact a
def M7(ρ:Ren)(n:Nat)(l:Loc):upd ρ n l n=some l:=by simp[upd]
def W5{ρ:Ren}{n:Nat}{l:Loc}{b:Nat}{k:Loc}(h:upd ρ n l b=some k)(h0:ρ b=none):b=n/\k=l:=by
 unfold upd at h;by_cases e:b=n
 .rw[A4 e]at h;exact⟨e,(A9 h).symm⟩
 .rw[A3 e]at h;rw[h0]at h;cases h
section
variable {P:Program} {base:Nat} {ρ:Ren} {m m':Mem} {w w':World}
def St.alloc{ab:AB}{v:Value}{o:Obj}{l:Loc}(h:HR P base ρ m.H w)(D:base<=w.heap.size)(F:y6 m ab k=some (v,m'))(I:M8 ρ m.n m'.hi)
  (x:w'.os=w.os/\w'.tape=w.tape/\w'.output=w.output) (hh:w'.heap=w.heap.push o) (J:l.blk=w.heap.size) (B:BR P (upd ρ m.n l) ab l w') (A:ab≠.frz:=by intro h;cases h) :
  v=k m.n/\upd ρ m.n l m.n=some l/\St P base ρ (upd ρ m.n l) m m' w w':=by
 obtain⟨hle,G,rfl⟩:=N1 F;have r:ρ m.n=none:=I m.n (B0 _) (L9 _ _).2;have f:=u5 (l:=l) r;have u:∀ k,Tc ab l k->w.heap.size<=k:=fun k j=>by
  rcases j with⟨_,_,rfl⟩|⟨rfl,_⟩
  .omega
  .exact absurd rfl A
 have hold:∀ k,k<w.heap.size->w'.heap[k]? = w.heap[k]? := fun k j=>by rw[hh,bJ];rw[A3 A0]
 refine⟨G,M7 _ _ _,f,fun b k h1 c=>?_,by simp,(L9 _ _).1,fun _=>g9 (L9 _ _).2,⟨fun b k j=>?_,fun id hid a d=>?_⟩,fun b D=>D,fun b h1 c=>absurd h1 c,fun k j _=>hold k j,by rw[hh];simp,x,fun b k h1 c _=>?_,fun id hid h1 c=>?_,fun k ⟨id,a,q,hid,d,p,C⟩=>?_⟩
 .obtain⟨rfl,rfl⟩:=W5 h1 c;exact⟨B0 _,K4 _⟩
 .cases h0:ρ b with
  | some z =>
    rw[f b z h0]at j
    have:=A9 j;subst this;exact h.dom b z h0
  | none=>obtain⟨rfl,rfl⟩:=W5 j h0;exact hle
 .rw[F5 _ _ _ _ hle hid]at d;by_cases e:id=m.n
  .rw[A4 e]at d;have d:=A9 d;subst d;subst e;refine⟨l,M7 _ _ _,B,fun _ _=>⟨A0,fun i g t l2 c h3 E=>?_⟩⟩;cases h0:ρ i with
   | some z =>
     rw[f i z h0]at h3
     have:=A9 h3;subst this;rw[F5 _ _ _ _ hle g]at c;by_cases s:i=m.n
     .exact s
     .rw[A3 s]at c
      have:=(h.atl h0 c).1.tc E;omega
   | none=>exact(W5 h3 h0).1
  .rw[A3 e]at d;obtain⟨l0,h1,c,h3⟩:=h.at_ id hid a d;refine⟨l0,f _ _ h1,c.mono f (fun k j=>hold _ (c.tc j)),fun hr x=>⟨(h3 hr x).1,fun i g t l2 g1 g2 g3=>?_⟩⟩;rw[F5 _ _ _ _ hle g]at g1;by_cases s:i=m.n
   .subst s;rw[M7]at g2
    have:=A9 g2;subst this;have g1:=A9 (by simpa using g1);subst g1
    have:=c.tc (.inl ⟨AB.rw_on hr,x,rfl⟩)
    have:=u _ g3;omega
   .rw[A3 s]at g1;unfold upd at g2;rw[A3 s]at g2;exact(h3 hr x).2 i g t l2 g1 g2 g3
 .obtain⟨rfl,rfl⟩:=W5 h1 c;exact .inl A0
 .rw[F5 _ _ _ _ hle hid,A3];intro e;subst e;rcases c with c|c
  .omega
  .have c:upN m.hi m.n<=m.n:=c
   have:=(L9 m.hi m.n).2;omega
 .have d:Hp.get (m.H.set m.n (some ab)) id=some a:=d;rw[F5 _ _ _ _ hle hid]at d;by_cases e:id=m.n
  .subst e;rw[A4 rfl]at d;have d:=A9 d;subst d;rw[M7]at p;have p:=A9 p;subst p;exact .inl (u k C.2)
  .rw[A3 e]at d;unfold upd at p;rw[A3 e]at p;exact .inr ⟨id,a,q,hid,d,p,C⟩
def St.write{ab ab':AB}{id:Nat}{l:Loc}(h:HR P base ρ m.H w)(I:iJ m id ab'=some m')(B:Hp.get m.H id=some ab)(j:ab.rw=true)(t:ρ id=some l)(r:l.on=true)
  (K:w'.os=w.os/\w'.tape=w.tape/\w'.output=w.output) (D:w'.heap.size=w.heap.size) (C:∀ k,k≠l.blk->w'.heap[k]? = w.heap[k]?) (E:BR P ρ ab' l w') (v:ab'≠.frz:=by intro h;cases h):St P base ρ ρ m m' w w':=by
 have A:∀ k,Tc ab' l k->Tc ab l k∨k=l.blk:=fun k C=>by
  rcases C with⟨_,_,rfl⟩|⟨rfl,_⟩
  .exact .inr rfl
  .exact absurd rfl v
 obtain⟨hle,rfl⟩:=d8 I;obtain⟨p,h3⟩:=h.atl t B;refine⟨fun _ _ h=>h,fun b k h1 p=>(by rw[h1]at p;cases p),B0 _,B0 _,fun h=>h,⟨h.dom,fun d c a g=>?_⟩,fun b E=>D1 _ E,fun b h1 p k o=>?_,fun k o F=>C k ?_,by rw[D];exact B0 _,K,fun b k h1 p=>(by rw[h1]at p;cases p),fun d c J L=>?_,fun k ⟨d,a,q,c,g,x,G⟩=>.inr ?_⟩
 .rw[F5 _ _ _ _ hle c]at g;by_cases e:d=id
  .rw[A4 e]at g;have g:=A9 g;subst g;subst e;refine⟨l,t,E,fun _ i=>⟨(h3 j i).1,fun n f s l3 g1 g2 g3=>?_⟩⟩;rw[F5 _ _ _ _ hle f]at g1;by_cases u:n=d
   .exact u
   .rw[A3 u]at g1;exact(h3 j i).2 n f s l3 g1 g2 g3
  .rw[A3 e]at g;obtain⟨l2,g1,g2,g3⟩:=h.at_ d c a g;have z:∀ k,Tc a l2 k->k≠l.blk:=fun k o hh=>e ((h3 j r).2 d c a l2 g g1 (hh▸o))
   refine⟨l2,g1,g2.mono (fun _ _ h=>h) (fun k o=>C _ (z k o)),fun hr i=>⟨(g3 hr i).1,fun n f s l3 f1 f2 f3=>?_⟩⟩;rw[F5 _ _ _ _ hle f]at f1;by_cases u:n=id
   .subst u;rw[t]at f2
    have:=A9 f2;subst this;have f1:=A9 (by simpa using f1);subst f1;rcases A _ f3 with f3|f3
    .exact(g3 hr i).2 n f ab l B t f3
    .exact absurd f3 (z _ (.inl ⟨AB.rw_on hr,i,rfl⟩))
   .rw[A3 u]at f1;exact(g3 hr i).2 n f s l3 f1 f2 f3
 .rcases B7.1 h1 with rfl|h1
  .exact⟨ab,B,j⟩
  .exact absurd h1 p
 .exact fun e=>F id C7 l t r e.symm
 .rw[F5 _ _ _ _ hle c,A3];intro e;subst e;exact J C7
 .have g:Hp.get (m.H.set id (some ab')) d=some a:=g;rw[F5 _ _ _ _ hle c]at g;by_cases e:d=id
  .subst e;rw[A4 rfl]at g;have g:=A9 g;subst g;rw[t]at x;have x:=A9 x;subst x;refine⟨d,ab,l,c,B,t,AB.rw_fr j,.inl ⟨AB.rw_on j,r,?_⟩⟩;rcases G.2 with⟨_,_,h⟩|⟨h,_⟩
   .exact h
   .exact absurd h v
  .rw[A3 e]at g;exact⟨d,a,q,c,g,x,G⟩
def nR{o n:Nat}{r:D6}(h:oS cs o n=some r):r=(cs.drop o).take n/\r.length=n:=by
 unfold oS at h;simp only at h;obtain⟨h1,a⟩:=A6 h;have a:=(A9 a).symm;subst a;exact⟨rfl,A1 h1⟩
theorem gV{C:r7}{cs:D6}{s:Nat}(h:∀ (i:Nat) (v:Value),cs[i]? = some v->∃ v',C[s+i]? = some v'/\VR ρ v v'):∃ cs',LR ρ cs cs'/\∀ (i:Nat) (v':Value),cs'[i]? = some v'->C[s+i]? = some v':=by
 induction cs generalizing s with
 | nil=>exact⟨[],.nil,fun i v' h=>by simp at h⟩
 | cons v r c =>
   obtain⟨v',h1,g⟩:=h 0 v rfl;obtain⟨r',h3,f⟩:=c (s:=s+1) fun i u hi=>by
    obtain⟨d,a,b⟩:=h (i+1) u (by simpa using hi);exact⟨d,by rw[show s+1+i=s+(i+1) by omega];exact a,b⟩
   refine⟨v'::r',.cons g h3,fun i u hi=>?_⟩;cases i with
   | zero=>simp at hi;subst hi;simpa using h1
   | succ i =>
     have:=f i u (by simpa using hi);rw[show s+(i+1)=s+1+i by omega];exact this
def aY{a:Addr}{n:Nat}{r:D6}{l:Loc}(h:HR P base ρ m.H w)(hr:cO m a n=some r)(u:ρ a.block=some l) :
  ∃ r',LR ρ r r'/\r'.length=n/\(∀ (j:Nat) (v':Value),r'[j]? = some v'->w.cell? ⟨l.blk,a.off+l.sh+j,none⟩=some v'):=by
 unfold cO at hr;split at hr
 .rename_i cs T ro b o;obtain⟨d,c⟩:=nR hr;obtain⟨⟨_,C,fz,x,t,h3,_⟩,_⟩:=h.atl u o;obtain⟨r',g,p⟩:=gV (ρ:=ρ) (C:=C) (cs:=r) (s:=l.sh+a.off) fun i v hi=>by
   have f:i<n:=by
    have:=(B3.1 hi).1;omega
   rw[d,G4 f,J7]at hi;obtain⟨v',g1,g2⟩:=h3 _ v hi;exact⟨v',by rw[show l.sh+a.off+i=l.sh+(a.off+i) by omega];exact g1,g2⟩
  refine⟨r',g,g.1▸c,fun j v' q=>?_⟩
  have:=p j v' q;simp[World.cell?,t,show a.off+l.sh+j=l.sh+a.off+j by omega,this]
 .cases hr
def N7.add_none'{b o i:Nat}:(Addr.mk b o none).add i=⟨b,o+i,none⟩:=by
 unfold Addr.add;split
 .rename_i h;subst h;rfl
 .rfl
def N7{b o:Nat}{r':D6}{n:Nat}(c:r'.length=n)(h:∀ (j:Nat) (v':Value),r'[j]? = some v'->w.cell? ⟨b,o+j,none⟩=some v'):(loadCells ⟨b,o,none⟩ n).run P w=.ok ⟨r'⟩ w:=by
 subst c
 have:=run_loadCells_list (P:=P) w ⟨b,o,none⟩ r' (fun j v a=>by rw[N7.add_none'];exact h j v a);exact this
def pX{a:Addr}{n:Nat}(b:r'.length=n)(h:∀ (j:Nat) (v':Value),r'[j]? = some v'->w.cell? (a.add j)=some v'):(loadCells a n).run P w=.ok ⟨r'⟩ w:=by
 subst b;exact run_loadCells_list (P:=P) w a r' h
def aJ:∀ (vs cs:List Value) (k:Nat),(fF cs k vs).length=cs.length
 | [],_,_=>rfl
 | v::r,cs,k=>by rw[fF,aJ r];simp
def A0P{cs cs':D6}(h:LR ρ cs cs'):∀ {vs a:D6} {k:Nat},LR ρ vs a->LR ρ (fF cs k vs) (fF cs' k a)
 | [],a,k,hv=>by rw[hv.nil_inv];exact h
 | v::r,a,k,hv=>by
   obtain⟨v',r',rfl,h1,b⟩:=hv.tail;simp only[fF];exact A0P (h.set h1 k) b
def A9B{v v':Value}(h:VR ρ v v')(a:flat v=true):cR v'=true:=by
 cases h with
 | hole h _=>have:=lH h;cases v'<;>first|rfl|cases this
 | junk h=>exact h (A1 a)
 | pure hp=>cases v<;>first|rfl|cases a|cases hp
 | ixp h c hi d b=>subst b;rfl
 | sdt h=>exact h.flat
 | _=>first|assumption|exact a|rfl
def OF:∀ {vs a:D6},LR ρ vs a->vs.all flat=true->a.all cR=true
 | [],a,h,_=>by rw[h.nil_inv];rfl
 | v::r,a,h,hf=>by
   obtain⟨v',r',rfl,h1,b⟩:=h.tail;simp only[bT,I3]at hf ⊢;exact⟨A9B h1 hf.1,OF b hf.2⟩
def aF{b o:Nat}{T:TypeId}{fz:Nat×Nat}:∀ (vs:List Value) (i:Nat) (C:Array Value) (w:World),w.heap[b]? = some (.cells C T fz)->vs.all cR=true->o+i+vs.length<=C.size ->
  (∀ i,i<C.size->¬ (fz.1<=i/\i<fz.2)) ->
  ∃ w',(storeCells ⟨b,o,none⟩ vs i).run P w=.ok () w'/\(w'.os=w.os/\w'.tape=w.tape/\w'.output=w.output)/\w'.heap.size=w.heap.size/\w'.heap[b]? = some (.cells ⟨fF C.toList (o+i) vs⟩ T fz)/\∀ k,k≠b->w'.heap[k]? = w.heap[k]?
 | [],i,C,w,h,_,_,_=>⟨w,rfl,⟨rfl,rfl,rfl⟩,rfl,h,fun _ _=>rfl⟩
 | v::r,i,C,w,h,h1,hl,hz=>by
   simp only[bT,I3]at h1;simp only[B6]at hl;have c:o+i<C.size:=A0;have p:(w.setCell ⟨b,o+i,none⟩ v).heap[b]? = some (.cells (C.setIfInBounds (o+i) v) T fz):=by
    simp[World.setCell,J1,h]
   obtain⟨w',hr,l,d,j,n⟩:=aF (b:=b) (o:=o) (T:=T) (fz:=fz) r (i+1) (C.setIfInBounds (o+i) v) (w.setCell ⟨b,o+i,none⟩ v) p h1.2 (by simp;omega) (by simpa using hz);refine⟨w',?_,?_,?_,?_,fun k a=>?_⟩
   .have q:w.cell? ⟨b,o+i,none⟩=some C[o+i]:=by simp[World.cell?,h,c]
    have s:w.frozen? ⟨b,o+i,none⟩=false:=by
     have:=hz (o+i) c;simp only[World.frozen?,h];by_cases h1:fz.1<=o+i<;>by_cases g:o+i<fz.2<;>simp[h1,g]<;>exact absurd ⟨h1,g⟩ this
    have f:(store ((Addr.mk b o none).add i) v).run P w=.ok () (w.setCell ⟨b,o+i,none⟩ v):=by
     rw[N7.add_none'];unfold store;cases v<;>simp_all [Sem.run,cR]
    unfold storeCells;simp only[A8,f,Result.andThen];exact hr
   .simpa [World.setCell]using l
   .rw[d];simp[World.setCell]
   .rw[j];have:(C.setIfInBounds (o+i) v).toList=C.toList.set (o+i) v:=by simp
    rw[this];simp[fF,fC]
   .rw[n k a];simp only[World.setCell,J1];rw[A3 (fun e=>a e.symm)]
def pN(vs:List Value):∀ (cs:List Value) (k i:Nat),k+vs.length<=cs.length->(fF cs k vs)[i]? = if k<=i/\i<k+vs.length then vs[i-k]? else cs[i]? := by
 induction vs with
 | nil=>intro cs k i h;simp[fF];intro h1 a;omega
 | cons v r b =>
   intro cs k i h;simp only[B6]at h ⊢;rw[fF,b (cs.set k v) (k+1) i (by simp;omega)];by_cases h1:k+1<=i/\i<k+1+r.length
   .rw[A4 h1,A4 A0,show i-k=(i-(k+1))+1 by omega];rfl
   .rw[A3 h1];by_cases a:i=k
    .subst a;rw[A4 A0,nY,Y2 A0];rfl
    .rw[A3 A0,aR (fun e=>a e.symm)]
def uH{a:Addr}{vs c:D6}{l:Loc}(h:HR P base ρ m.H w)(hw:tI m a vs=some m')(B:ρ a.block=some l)(z:LR ρ vs c) :
  ∃ w',(storeCells ⟨l.blk,a.off+l.sh,none⟩ c).run P w=.ok () w'/\St P base ρ ρ m m' w w':=by
 unfold tI at hw;split at hw
 .rename_i cs T r q;obtain⟨K,s⟩:=A6 hw;obtain⟨n,A⟩:=C5 K;have n:=A2 n;rw[J2]at s;obtain⟨⟨d,C,fz,S,E,h3,D⟩,R⟩:=h.atl B q;obtain⟨rfl,F,I⟩:=D rfl;have f:∀ i,i<cs.length->l.sh+i<C.size:=fun i hi=>by
   obtain⟨v',g,_⟩:=h3 i cs[i] (A7 hi);exact(E4.1 g).1
  have hlen:c.length=vs.length:=z.1.symm;by_cases O:vs.length=0
  .have L:vs=[]:=D5.1 O;have J:c=[]:=D5.1 A0;subst L;subst J;exact⟨w,rfl,St.write h s q rfl B d ⟨rfl,rfl,rfl⟩ rfl (fun _ _=>rfl) ⟨d,C,fz,_,E,by simpa [fF]using h3,D⟩⟩
  .have M:l.sh+(a.off+vs.length-1)<C.size:=f _ A0;obtain⟨w',hr,Q,t,u,N⟩:=aF (P:=P) (b:=l.blk) (o:=a.off+l.sh) (fz:=fz) c 0 C w E (OF z A) A0 F;refine⟨w',hr,St.write h s q rfl B d Q t N ⟨d,_,fz,_,u,fun i v hi=>?_,fun _=>⟨rfl,F.sz (by simp[aJ]),by simpa [aJ]using I⟩⟩⟩;rw[pN _ _ _ _ n]at hi;have G:C.toList.length=C.size:=by simp
   have x:∀ j,(fF C.toList (a.off+l.sh+0) c)[l.sh+j]? = if a.off<=j/\j<a.off+c.length then c[j-a.off]? else C.toList[l.sh+j]? := fun j=>by
    rw[pN _ _ _ _ A0];by_cases p:a.off<=j/\j<a.off+c.length
    .rw[A4 p,A4 A0,show l.sh+j-(a.off+l.sh+0)=j-a.off by omega]
    .rw[A3 p,A3 A0]
   show ∃ v',(Array.mk (fF C.toList (a.off+l.sh+0) c))[l.sh+i]? = some v'/\_;simp only[M3,x];by_cases p:a.off<=i/\i<a.off+vs.length
   .rw[A4 p]at hi;rw[A4 A0];exact z.get hi
   .rw[A3 p]at hi;rw[A3 A0];obtain⟨v',g1,g2⟩:=h3 i v hi;exact⟨v',by simpa using g1,g2⟩
 .cases hw
end
end
section
open Go
variable [Ora]
def VOk(P:Program)(base:Nat)(ρ:Ren)(m:Mem)(w:World)(s:Sem Value)(v:Value)(m':Mem):Prop :=
 ∃ v' a w',s.run P w=.ok v' w'/\VR a v v'/\St P base ρ a m m' w w'
def UOk(P:Program)(base:Nat)(ρ:Ren)(m:Mem)(w:World)(s:Sem Unit)(m':Mem):Prop :=
 ∃ a w',s.run P w=.ok () w'/\St P base ρ a m m' w w'
section
variable {P:Program} {base:Nat} {ρ:Ren} {m m':Mem} {w:World}
def VOk.same{s:Sem Value}{v v':Value}(h:HR P base ρ m.H w)(hr:s.run P w=.ok v' w)(a:VR ρ v v'):VOk P base ρ m w s v m:=⟨v',ρ,w,hr,a,.refl h⟩
theorem fH{b:Bool}{v':Value}(h:VR ρ (.bool b) v'):v'=.bool b:=by cases h;rfl
theorem M2{k:IntKind}{n:Int}{v':Value}(h:VR ρ (.int k n) v'):v'=.int k n:=by cases h;rfl
theorem o8{s:ByteArray}{v':Value}(h:VR ρ (.string s) v'):v'=.string s:=by cases h;rfl
theorem V0{a:Addr}{v':Value}(h:VR ρ (.pointer (some a)) v'):∃ l,ρ a.block=some l/\a.spot=none/\v'=.pointer (some ⟨l.blk,a.off+l.sh,none⟩):=by
 cases h with
 | pure hp=>simp[K5]at hp
 | ptr h=>exact⟨_,h,rfl,rfl⟩
def o9{cs:r7}{v':Value}(h:VR ρ (.agg cs) v'):∃ cs',v'=.agg ⟨cs'⟩/\LR ρ cs.toList cs':=by
 cases h with
 | pure hp=>simp[K5]at hp
 | agg a h=>exact⟨_,rfl,a,h⟩
def yE{cs:r7}{v':Value}(h:VR ρ (.tuple cs) v'):∃ cs',v'=.tuple ⟨cs'⟩/\LR ρ cs.toList cs':=by
 cases h with
 | pure hp=>simp[K5]at hp
 | tuple a h=>exact⟨_,rfl,a,h⟩
def j7{t:TypeId}{i:TypeInfo}(h:P.info? t=some i)(w:World):(typeInfo t).run P w=.ok i w:=by simp[typeInfo,A8,run_program,Result.andThen,h]
def P0{t:TypeId}{n:Nat}(h:I4 P t=some n)(w:World):(sizeOf t).run P w=.ok n w:=by
 unfold I4 at h;split at h
 .rename_i i hi
  have:=A9 h;subst this;simp[sizeOf,A8,j7 hi,Result.andThen]
 .cases h
def D8{t:TypeId}{d:TypeDesc}(h:P.underlying t=some d)(w:World):(underlying t).run P w=.ok d w:=by simp[underlying,A8,run_program,Result.andThen,h]
def eT{t:TypeId}{b:Bool}(h:dF P t=some b)(w:World):(isAgg t).run P w=.ok b w:=by
 unfold dF at h;cases hu:P.underlying t with
 | none=>rw[hu]at h;cases h
 | some d =>
   rw[hu]at h;simp only[isAgg,A8,D8 hu,Result.andThen];cases d<;>cases h<;>rfl
def CS{t:TypeId}{z:Value}(h:jR P t=some z):∃ i,P.info? t=some i/\i.zero=some z/\A0R z=true:=by
 unfold jR at h;split at h
 .rename_i i hi;split at h
  .rename_i v a;obtain⟨h1,b⟩:=A6 h
   have:=A9 b;subst this;exact⟨i,hi,a,h1⟩
  .cases h
 .cases h
def dB{t:TypeId}{z:Value}(h:jR P t=some z)(w:World):(zeroValue t).run P w=.ok z w:=by
 obtain⟨i,hi,a,_⟩:=CS h;simp[zeroValue,A8,j7 hi,Result.andThen,a]
def uG{t:TypeId}{z:Value}(h:jR P t=some z):LR ρ z.cells.toList z.cells.toList:=by
 obtain⟨i,hi,a,hp⟩:=CS h;exact(VR.ofC hp).cells (by cases z<;>first|rfl|cases hp)
def SV{t:TypeId}{a:Addr}{v:Value}{l:Loc}(h:HR P base ρ m.H w)(b:A0k P m t a=some v)(f:ρ a.block=some l) :
  ∃ v',(loadVar t ⟨l.blk,a.off+l.sh,none⟩).run P w=.ok v' w/\VR ρ v v':=by
 unfold A0k at b;split at b
 .rename_i c;split at b
  .rename_i n i;split at b
   .rename_i cs hr
    have:=A9 b;subst this;obtain⟨r',h1,d,h3⟩:=aY h hr f;refine⟨.agg ⟨r'⟩,?_,.agg h1.1 h1.2⟩;simp[loadVar,A8,eT c,P0 i,Result.andThen,N7 d h3]
   .cases b
  .cases b
 .rename_i c;split at b
  .rename_i u r hr
   have:=A9 b;subst this;obtain⟨r',h1,d,h3⟩:=aY h hr f;obtain⟨v',j,rfl,g,_⟩:=h1.tail;refine⟨v',?_,g⟩
   have:=h3 0 v' rfl;simp[loadVar,A8,eT c,Result.andThen,run_load,show w.cell? ⟨l.blk,a.off+l.sh,none⟩=some v' from by simpa using this]
  .cases b
 .cases b
def A1o{t:TypeId}{a:Addr}{v v':Value}{l:Loc}(h:HR P base ρ m.H w)(b:DD P m t a v=some m')(o:ρ a.block=some l)(i:VR ρ v v') :
  UOk P base ρ m w (storeVar t ⟨l.blk,a.off+l.sh,none⟩ v') m':=by
 unfold DD at b;split at b
 .rename_i n g;obtain⟨h1,j⟩:=A6 b;obtain⟨h1,f⟩:=C5 h1;have h1:=A1 h1;have d:=i.cells (by simpa using f);obtain⟨w',hr,c⟩:=uH h j o d;refine⟨ρ,w',?_,c⟩;have e:v'.cells.size=n:=by
   have:=d.1;simp at this;omega
  simp[storeVar,A8,P0 g,Result.andThen,e,hr]
 .cases b
def lQ{t:TypeId}{v:Value}(h:vW P t cs off=some v)(c:LR ρ cs cs')(w:World):∃ v',(part t ⟨cs'⟩ off).run P w=.ok v' w/\VR ρ v v':=by
 unfold vW at h;split at h
 .rename_i b;split at h
  .rename_i n f;split at h
   .rename_i r hr
    have:=A9 h;subst this;obtain⟨h1,d⟩:=nR hr;have a:=(c.drop off).take n;rw[<- h1]at a;refine⟨.agg ⟨(cs'.drop off).take n⟩,?_,.agg a.1 a.2⟩;simp[part,A8,eT b,P0 f,Result.andThen,List.extract]
   .cases h
  .cases h
 .rename_i b;obtain⟨v',h1,d⟩:=c.get h;refine⟨v',?_,d⟩;simp[part,A8,eT b,Result.andThen,h1]
 .cases h
set_option maxHeartbeats 1000000 in
def IL{s:Nat}(h:I4 P e=some s):∃ i,P.info? e=some i/\i.size=s:=by
 unfold I4 at h;cases hi:P.info? e with
 | none=>rw[hi]at h;cases h
 | some i=>rw[hi]at h;exact⟨i,rfl,A9 h⟩
def jC{d:Nat}{e:TypeId}{s:Nat}{xs ys:r7}:∀ (l:List Nat),Op.eqItems d e s xs ys l=Op.eqFields d xs ys (l.map (A91 e s))
 | []=>rfl
 | i::l=>by
   rw[F0,Op.eqItems,Op.eqFields,jC l];have:(A91 e s i).name ≠ "_":=by show "x" ≠ "_";decide
   rw[A4 this];rfl
mutual
def OL:∀ (d:Nat) (t:TypeId) (x y x' y':Value) (b:Bool),eqM P d t x y=some b->VR ρ x x'->VR ρ y y'->∀ (n:Nat),d<=n->∀ w:World,(Op.equalIn n t x' y').run P w=.ok b w
 | 0,_,_,_,_,_,_,h,_,_,_,_,_=>by simp[eqM]at h
 | d+1,t,x,y,x',y',b,h,hx,hy,n,hn,w=>by
   obtain⟨n,rfl⟩:∃ k,n=k+1:=⟨n-1,A0⟩;have hn':d<=n:=A0;unfold eqM at h;split at h
   .rename_i hu;cases fH hx;cases fH hy;cases h;simp[Op.equalIn,A8,D8 hu,Result.andThen]
   .rename_i hu;cases M2 hx;cases M2 hy;obtain⟨h1,h2⟩:=A6 h;cases h2;have h1:=F4 h1;simp[Op.equalIn,A8,D8 hu,Result.andThen,h1]
   .rename_i hu;cases o8 hx;cases o8 hy;cases h;rw[<- ByteArray.toList_eq,<- ByteArray.toList_eq];exact run_equalIn_string (P:=P) w n t _ _ hu
   .rename_i hu;cases h;cases hx with|pure _=>?_
    cases hy with
    | pure _=>rename_i p _;cases p<;>simp[Op.equalIn,A8,D8 hu,Result.andThen]
    | ptr h=>simp[Op.equalIn,A8,D8 hu,Result.andThen]
   .rename_i hu;cases h;cases hy with|pure _=>?_
    obtain⟨l,_,_,rfl⟩:=V0 hx;simp[Op.equalIn,A8,D8 hu,Result.andThen]
   .rename_i hu;cases h;cases hx;cases hy;simp[Op.equalIn,A8,D8 hu,Result.andThen]
   .rename_i hu;cases h;cases hx;cases hy with
    | pure hp=>simp[K5]at hp
    | iface h=>simp[Op.equalIn,A8,D8 hu,Result.andThen]
   .rename_i hu;cases h;cases hy;cases hx with
    | pure hp=>simp[K5]at hp
    | iface h=>simp[Op.equalIn,A8,D8 hu,Result.andThen]
   .rename_i tx vx ty vy hu;cases hx with|pure hp=>simp[K5]at hp|iface hx=>?_
    cases hy with|pure hp=>simp[K5]at hp|iface hy=>?_
    cases ht:Nat.beq tx ty with
    | false =>
      rw[ht]at h;cases h;have:tx≠ty:=fun e=>by subst e;simp at ht
      simp[Op.equalIn,A8,D8 hu,Result.andThen,this]
    | true =>
      rw[ht]at h
      have:=A1 ht;subst this;simp only[F7]at h;split at h
      .rename_i i hi;obtain⟨h1,h2⟩:=A6 h;have ih:=OL d tx vx vy _ _ b h2 hx hy n hn' w;simp[Op.equalIn,A8,D8 hu,Result.andThen,j7 hi,h1,ih]
      .cases h
   .rename_i hu;cases h;cases hx with|pure _=>?_
    cases hy with
    | pure hp=>rename_i p _ _ _;cases p<;>simp[Op.equalIn,A8,D8 hu,Result.andThen]
    | sl h hm=>simp[Op.equalIn,A8,D8 hu,Result.andThen]
    | op h hm hn hc=>simp[Op.equalIn,A8,D8 hu,Result.andThen]
    | opE hs=>simp[Op.equalIn,A8,D8 hu,Result.andThen]
   .rename_i hu;cases h;cases hy with|pure _=>?_
    cases hx with
    | pure hp=>simp[K5]at hp
    | sl h hm=>simp[Op.equalIn,A8,D8 hu,Result.andThen]
    | op h hm hn hc=>simp[Op.equalIn,A8,D8 hu,Result.andThen]
    | opE hs=>simp[Op.equalIn,A8,D8 hu,Result.andThen]
   .rename_i hu;cases h;cases hx with|pure _=>?_
    cases hy with
    | pure _=>rename_i p _;cases p<;>simp[Op.equalIn,A8,D8 hu,Result.andThen]
    | map h=>simp[Op.equalIn,A8,D8 hu,Result.andThen]
   .rename_i hu;cases h;cases hx;cases hy;simp[Op.equalIn,A8,D8 hu,Result.andThen]
   .rename_i hu;cases h;cases hx;cases hy with
    | pure hp=>simp[K5]at hp
    | func _ _ _ _=>simp[Op.equalIn,A8,D8 hu,Result.andThen]
   .rename_i hu;cases h;cases hy;cases hx with
    | pure hp=>simp[K5]at hp
    | func _ _ _ _=>simp[Op.equalIn,A8,D8 hu,Result.andThen]
   .rename_i fs xs ys hu;cases hs:P.stoodInHeld t with
    | true=>rw[hs]at h;cases h
    | false =>
      rw[hs]at h;obtain⟨xs',rfl,hx1⟩:=o9 hx;obtain⟨ys',rfl,hy1⟩:=o9 hy;have hf:P.fieldsOf t=fs:=by simp[Program.fieldsOf,hu]
      rw[run_equalIn_struct (P:=P) w n t _ _ (by rw[hf];exact hu) hs,hf];exact YE d fs.toList xs.toList ys.toList xs' ys' b h hx1 hy1 n hn' w
   .rename_i k e xs ys hu;split at h
    .rename_i s hs;obtain⟨xs',rfl,hx1⟩:=o9 hx;obtain⟨ys',rfl,hy1⟩:=o9 hy;obtain⟨i,hi,rfl⟩:=IL hs;rw[run_equalIn_array (P:=P) (w:=w) n _ _ hu hi,show P.cellsOf e=i.size by simp[Program.cellsOf,hi],jC];exact YE d _ xs.toList ys.toList xs' ys' b h hx1 hy1 n hn' w
    .cases h
   .cases h
def YE:∀ (d:Nat) (fs:List Field) (xs ys xs' ys':List Value) (b:Bool),eqF P d fs xs ys=some b->LR ρ xs xs'->LR ρ ys ys'->∀ (n:Nat),d<=n->∀ w:World,(Op.eqFields n ⟨xs'⟩ ⟨ys'⟩ fs).run P w=.ok b w
 | 0,_,_,_,_,_,_,h,_,_,_,_,_=>by simp[eqF]at h
 | d+1,[],_,_,_,_,_,h,_,_,_,_,_=>by
   simp only[eqF,D9]at h;subst h;simp[Op.eqFields]
 | d+1,f::fs,xs,ys,xs',ys',b,h,hx,hy,n,hn,w=>by
   unfold eqF at h;cases hnm:f.name == "_" with
   | true=>rw[hnm]at h;cases h
   | false =>
     rw[hnm]at h;simp only[E8]at h;have hn':f.name ≠ "_":=by simpa using hnm
     split at h
     .rename_i x y h1 h2;obtain⟨x',g1,g2⟩:=lQ h1 hx w;obtain⟨y',g3,g4⟩:=lQ h2 hy w;split at h
      .rename_i he;have ih:=OL d f.type x y x' y' true he g2 g4 n A0 w;have ih2:=YE d fs xs ys xs' ys' b h hx hy n A0 w;unfold Op.eqFields;rw[A4 hn'];simp[A8,g1,g3,Result.andThen,ih,ih2]
      .rename_i he;cases h;have ih:=OL d f.type x y x' y' false he g2 g4 n A0 w;unfold Op.eqFields;rw[A4 hn'];simp[A8,g1,g3,Result.andThen,ih]
      .cases h
     .cases h
end
end
end
section
open Go
def uK(k:IntKind)(m:Nat)(h:m<=VX k):k.wrap (.ofNat m)=.ofNat m:=by
 cases k<;>simp only[VX]at h<;>simp only[IntKind.wrap,IntKind.bits,IntKind.signed,Nat.reduceSub]<;>simp<;>omega
def oT(k:IntKind)(n:Int):HX k n=k.wrap n:=by
 unfold HX;cases n with
 | ofNat m =>
   simp only;cases h:Nat.ble m (VX k)with
   | true=>rw[uK k m (A2 h)];rfl
   | false=>rfl
 | negSucc m=>rfl
def A1f(a b:Int):B9o a b=a+b:=by cases a<;>cases b<;>rfl
def A0d(a b:Int):B7y a b=a*b:=by cases a<;>cases b<;>rfl
def ZM(a b:Int):B4i a b=a-b:=by
 cases a<;>cases b<;>try rfl
 rename_i m n;simp only[B4i];cases h:Nat.ble n m with
 | true =>
   have:=A2 h;simp only[F7];show Int.ofNat (m-n)=_;have e:(Int.ofNat (m-n))=(m:Int)-(n:Int):=by simp[Int.ofNat_sub this]
   exact e
 | false=>rfl
def XM(a b:Int):ltF a b=decide (a<b):=by
 cases a with
 | ofNat m=>cases b with
   | ofNat n =>
     simp only[ltF];rw[N0];simp[Nat.blt,uF];omega
   | negSucc n=>simp only[ltF];symm;simp;omega
 | negSucc m=>cases b with
   | ofNat n=>simp only[ltF];symm;simp;omega
   | negSucc n =>
     simp only[ltF];rw[N0];simp[Nat.blt,uF];omega
def XR(a b:Int):leF a b=decide (a<=b):=by
 cases a with
 | ofNat m=>cases b with
   | ofNat n=>simp only[leF];rw[N0];simp[uF]
   | negSucc n=>simp only[leF];symm;simp;omega
 | negSucc m=>cases b with
   | ofNat n=>simp only[leF];symm;simp;omega
   | negSucc n=>simp only[leF];rw[N0];simp[uF];omega
def fB(a b:Int):HP a b=(a == b):=by
 cases a<;>cases b<;>simp only[HP]<;>rw[N0]<;>simp
 omega
def lM{k j:IntKind}(h:DO k j=true):k=j:=by cases k<;>cases j<;>first|rfl|cases h
variable [Ora]
section
variable {P:Program} {base:Nat} {ρ:Ren} {m m':Mem} {w:World}
def dK{op:BinOp}{k:IntKind}{a b:Int}{v:Value}(h:GJ op k a b=some v)(w:World):(Op.intBits op k a b).run P w=.ok v w/\K5 v=true:=by
 unfold GJ at h;split at h<;>cases h<;>exact⟨rfl,rfl⟩
def A87{op:BinOp}{k:IntKind}{a b:Int}{t:TypeId}{v:Value}(d:lU op=none)(h:qB op k a b=some v)(w:World):(binOp op t (.int k a) (.int k b)).run P w=.ok v w/\K5 v=true:=by
 unfold qB at h;cases op<;>simp only[lU]at d<;>try cases d
 all_goals simp only[cF,oT,A1f,ZM,A0d,XM,XR,fB]at h
 case quo =>
  cases c:(b == 0)<;>rw[c]at h<;>cases h
  have:b≠0:=by simpa using c
  exact⟨by simp[binOp,Op.intDiv,this],rfl⟩
 case rem =>
  cases c:(b == 0)<;>rw[c]at h<;>cases h
  have:b≠0:=by simpa using c
  exact⟨by simp[binOp,Op.intDiv,this],rfl⟩
 case and=>exact⟨by simpa [binOp]using(dK h w).1,(dK (P:=P) h w).2⟩
 case or=>exact⟨by simpa [binOp]using(dK h w).1,(dK (P:=P) h w).2⟩
 case xor=>exact⟨by simpa [binOp]using(dK h w).1,(dK (P:=P) h w).2⟩
 case andNot=>exact⟨by simpa [binOp]using(dK h w).1,(dK (P:=P) h w).2⟩
 all_goals
  cases h;refine⟨?_,rfl⟩;simp only[binOp,Op.intCmp,Op.intArith,ne_eq,not_true,if_false];rfl
def A5a:∀ a b:List UInt8,ltL a b=Op.bytesLess a b
 | [],[]=>rfl
 | _::_,[]=>rfl
 | [],_::_=>rfl
 | a::x,b::y=>by simp[ltL,Op.bytesLess,A5a x y]
def OU(a b:ByteArray):a++b=⟨⟨a.data.toList++b.data.toList⟩⟩:=by
 have h:(a++b).data=⟨a.data.toList++b.data.toList⟩:=by
  rw[ByteArray.data_append];apply L3;simp
 cases c:a++b with
 | mk d=>rw[c]at h;simp only at h;rw[h]
def A7w{op:BinOp}{a b:ByteArray}{t:TypeId}{v:Value}(h:A3I op a b=some v)(w:World):(binOp op t (.string a) (.string b)).run P w=.ok v w/\K5 v=true:=by
 unfold A3I at h;split at h
 .obtain⟨h1,c⟩:=A6 h;rw[J2]at c;cases c;refine⟨?_,rfl⟩;have h1:=A2 h1;have:¬ (((a.size+b.size:Nat):Int)>IntKind.i64.max):=by simp[IntKind.max,IntKind.bits,IntKind.signed];omega
  simp only[binOp,Op.stringOp,A3 this,OU];rfl
 all_goals first
  | (cases h;refine⟨?_,rfl⟩;simp only[binOp,Op.stringOp,ByteArray.toList_eq,A5a];rfl)
  | cases h
def DM:Value->Bool
 | .int _ _|.bool _|.string _=>true
 | _=>false
def rE{u:U}{v:Value}(h:toV u=some v):DM v=true:=by cases u<;>cases h<;>rfl
def A85:Value->Bool
 | .complex _ _ _=>true
 | .func (.yield _) _ _=>true
 | _=>false
def A6b{d:Nat}{t:TypeId}{a b:Value}{r:Bool}(h:eqM P d t a b=some r):A85 a=false/\A85 b=false:=by
 cases d with
 | zero=>simp[eqM]at h
 | succ d =>
   unfold eqM at h;split at h<;>first|exact⟨rfl,rfl⟩|cases h
def A2Q{op:BinOp}{t:TypeId}{x y:Operand}{a b a' b':Value}(d:qE P t x y a b=true)(o:VR ρ a a')(p:VR ρ b b')(w:World)(l:op=.eql∨op=.neq):(eqGuard op t x y a' b').run P w=.ok () w:=by
 unfold eqGuard;rw[A3 (by rcases l with rfl|rfl<;>simp)];clear l;unfold qE at d;split at d
 .cases o;cases p;simp only[K6]at d;rcases d with f|f
  .cases x<;>simp only[isC]at f<;>first|rfl|cases f
  .cases y<;>simp only[isC]at f<;>first|(cases x<;>rfl)|cases f
 .obtain⟨v,rfl,_⟩:=o9 o;obtain⟨u,rfl,_⟩:=o9 p;have f:P.eqGuardType P.depth t=false:=by simpa using d
  simp[A8,run_program,Result.andThen,f]
 .rename_i r s;obtain⟨j,n⟩:=C5 d;split
  .exfalso;cases o with
   | hole h _=>have:=rE h;simp[DM]at this
   | junk=>cases j
   | ixp _ _ _ _ g=>cases g
   | dat _ he i c _=>obtain⟨_,_,_,q⟩:=he.slice A0;cases q
   | clp _ he i c _ _=>obtain⟨_,_,_,q⟩:=he.slice A0;cases q
   | own h _ _=>rcases h with⟨_,_,_,_,_,q⟩|⟨_,_,_,_,_,_,_,_,q⟩<;>cases q
   | dpt h _ _=>obtain⟨_,_,_,_,_,_,_,_,_,_,_,_,_,q⟩:=h;cases q
   | opt h _ _=>obtain⟨_,_,_,_,_,_,_,_,_,_,q⟩:=h;cases q
   | sdt h=>obtain⟨_,_,⟨_,q⟩|⟨_,_,q,_⟩⟩:=h<;>cases q
   | pure _ =>
     cases p with
     | hole h _=>have:=rE h;simp[DM]at this
     | junk=>cases n
     | ixp _ _ _ _ g=>cases g
     | dat _ he i c _=>obtain⟨_,_,_,q⟩:=he.slice A0;cases q
     | clp _ he i c _ _=>obtain⟨_,_,_,q⟩:=he.slice A0;cases q
     | own h _ _=>rcases h with⟨_,_,_,_,_,q⟩|⟨_,_,_,_,_,_,_,_,q⟩<;>cases q
     | dpt h _ _=>obtain⟨_,_,_,_,_,_,_,_,_,_,_,_,_,q⟩:=h;cases q
     | opt h _ _=>obtain⟨_,_,_,_,_,_,_,_,_,_,q⟩:=h;cases q
     | sdt h=>obtain⟨_,_,⟨_,q⟩|⟨_,_,q,_⟩⟩:=h<;>cases q
     | pure _=>exact r rfl rfl
  .exfalso;cases o with
   | hole h _=>have:=rE h;simp[DM]at this
   | junk=>cases j
   | ixp _ _ _ _ g=>cases g
   | dat _ he i c _=>obtain⟨_,_,_,q⟩:=he.slice A0;cases q
   | clp _ he i c _ _=>obtain⟨_,_,_,q⟩:=he.slice A0;cases q
   | own h _ _=>rcases h with⟨_,_,_,_,_,q⟩|⟨_,_,_,_,_,_,_,_,q⟩<;>cases q
   | dpt h _ _=>obtain⟨_,_,_,_,_,_,_,_,_,_,_,_,_,q⟩:=h;cases q
   | opt h _ _=>obtain⟨_,_,_,_,_,_,_,_,_,_,q⟩:=h;cases q
   | sdt h=>obtain⟨_,_,⟨_,q⟩|⟨_,_,q,_⟩⟩:=h<;>cases q
   | pure h=>simp[K5]at h
   | agg _ _ =>
     cases p with
     | hole h _=>have:=rE h;simp[DM]at this
     | junk=>cases n
     | ixp _ _ _ _ g=>cases g
     | dat _ he i c _=>obtain⟨_,_,_,q⟩:=he.slice A0;cases q
     | clp _ he i c _ _=>obtain⟨_,_,_,q⟩:=he.slice A0;cases q
     | own h _ _=>rcases h with⟨_,_,_,_,_,q⟩|⟨_,_,_,_,_,_,_,_,q⟩<;>cases q
     | dpt h _ _=>obtain⟨_,_,_,_,_,_,_,_,_,_,_,_,_,q⟩:=h;cases q
     | opt h _ _=>obtain⟨_,_,_,_,_,_,_,_,_,_,q⟩:=h;cases q
     | sdt h=>obtain⟨_,_,⟨_,q⟩|⟨_,_,q,_⟩⟩:=h<;>cases q
     | pure h=>simp[K5]at h
     | agg _ _=>exact s _ _ rfl rfl
  .rfl
def wO{op:BinOp}{t:TypeId}{x y:Operand}{a b a' b':Value}(f:FA op=true->qE P t x y a b=true)(g:VR ρ a a')(d:VR ρ b b')(w:World):(eqGuard op t x y a' b').run P w=.ok () w:=by
 cases c:FA op with
 | false =>
   unfold eqGuard;cases op<;>simp only[FA]at c<;>first|rfl|cases c
 | true=>exact A2Q (f c) g d w (by cases op<;>simp only[FA]at c<;>first|(exact .inl rfl)|(exact .inr rfl)|cases c)
def A9V{t:TypeId}{a b a' b':Value}(n:VR ρ a a')(l:VR ρ b b')(g:∀ (k j:IntKind) (x y:Int),a=.int k x->b=.int j y->False)(i:∀ x y:ByteArray,a=.string x->b=.string y->False)(d:A85 a=false)(c:A85 b=false)(e:Bool) :
  binOp (bif e then .eql else .neq) t a' b'=(do let r <- Op.equal t a' b';pure (.bool (bif e then r else !r))):=by
 cases n with
 | hole _ _=>cases d
 | junk=>cases d
 | ixp _ _ _ _ _=>cases d
 | dat _ _ _ _ _=>cases d
 | clp _ _ _ _ _ _=>cases d
 | own _ _ _=>cases d
 | dpt _ _ _=>cases d
 | opt _ _ _=>cases d
 | sdt _=>cases d
 | pure hp =>
   cases a<;>simp only[K5]at hp<;>try cases hp
   all_goals
    cases l with
    | hole _ _=>cases c
    | junk=>cases c
    | ixp _ _ _ _ _=>cases c
    | dat _ _ _ _ _=>cases c
    | clp _ _ _ _ _ _=>cases c
    | own _ _ _=>cases c
    | dpt _ _ _=>cases c
    | opt _ _ _=>cases c
    | sdt _=>cases c
    | pure f=>cases b<;>simp only[K5]at f<;>first|(cases e<;>rfl)|(exfalso;exact g _ _ _ _ rfl rfl)|(exfalso;exact i _ _ rfl rfl)|cases f
    | _=>cases e<;>rfl
 | _ =>
   cases l with
   | hole _ _=>cases c
   | junk=>cases c
   | ixp _ _ _ _ _=>cases c
   | dat _ _ _ _ _=>cases c
   | clp _ _ _ _ _ _=>cases c
   | own _ _ _=>cases c
   | dpt _ _ _=>cases c
   | opt _ _ _=>cases c
   | sdt _=>cases c
   | pure f=>cases b<;>simp only[K5]at f<;>first|(cases e<;>rfl)|cases f
   | _=>cases e<;>rfl
def CQ{op:BinOp}{t:TypeId}{a b a' b' v:Value}(h:xD P op t a b=some v)(c:VR ρ a a')(d:VR ρ b b')(w:World):(binOp op t a' b').run P w=.ok v w/\K5 v=true:=by
 unfold xD at h;split at h
 .cases M2 c;cases M2 d;unfold dG at h;split at h
  .rename_i l f;split at h
   .rename_i n;cases h;unfold MG;cases op<;>simp only[lU]at f<;>cases f
    .refine⟨?_,by simp[cF,K5]⟩;simp[binOp,Op.shift,cF];intro h;omega
    .refine⟨?_,by simp[cF,K5]⟩;simp[binOp,Op.shift,cF];intro h;omega
   .cases h
  .rename_i f;obtain⟨h1,p⟩:=A6 h;cases lM h1;exact A87 f p w
 .cases o8 c;cases o8 d;exact A7w h w
 .rename_i g i;unfold IY at h;have he:∀ r,eqM P 20 t a b=some r->(Op.equal t a' b').run P w=.ok r w:=fun r hr=>OL 20 t a b a' b' r hr c d _ B8 w
  have o:=fun(r:Bool) (hr:eqM P 20 t a b=some r) e=>A9V (t:=t) c d (fun k j x y=>g k x j y) (fun x y=>i x y) (A6b hr).1 (A6b hr).2 e
  split at h
  .split at h
   .rename_i r hr;cases h;refine⟨?_,rfl⟩;have h3:=o r hr true;simp only[F7]at h3;rw[h3];simp[A8,he r hr,Result.andThen]
   .cases h
  .split at h
   .rename_i r hr;cases h;refine⟨?_,rfl⟩;have h3:=o r hr false;simp only[E8]at h3;rw[h3];simp[A8,he r hr,Result.andThen]
   .cases h
  .cases h
end
end
section
open Go
variable [Ora]
section
variable {P:Program} {base:Nat} {ρ:Ren} {m m':Mem} {w:World}
def gN(a:Addr)(n:Nat):eB a n=⟨a.block,a.off+n,none⟩:=by simp[eB,G5]
def w9(b o i:Nat):(Addr.mk b o none).add i=⟨b,o+i,none⟩:=N7.add_none'
def qH{s:TypeId}{x v:Value}{i:Nat}(h:fJ P s x i=some v)(g:VR ρ x x')(w:World):∃ v',(Instr.fieldAt s x' i).run P w=.ok v' w/\VR ρ v v':=by
 unfold fJ at h;split at h
 .rename_i d a hu;obtain⟨l,p,q,rfl⟩:=V0 g;split at h
  .rename_i f j o;split at h
   .rename_i n c;cases h;rw[gN];refine⟨_,?_,.ptr p⟩;have b:d[i]? = some f:=by simpa using j
    have:=P0 c w;simp[Instr.fieldAt,A8,D8 hu,Result.andThen,b,Instr.sureAddr,fieldPlace,this,w9]
   .cases h
  .cases h
 .cases h
def A2R{t:TypeId}{x v:Value}{i:Nat}(h:OG P t x i=some v)(g:VR ρ x x')(w:World):∃ v',(Instr.field t x' i).run P w=.ok v' w/\VR ρ v v':=by
 unfold OG at h;split at h
 .rename_i d cs hu;obtain⟨cs',rfl,b⟩:=o9 g;split at h
  .rename_i f j;obtain⟨v',h1,c⟩:=lQ h b w;have a:d[i]? = some f:=by simpa using j
   refine⟨v',?_,c⟩;simp[Instr.field,A8,D8 hu,Result.andThen,a,asAgg,h1]
  .cases h
 .cases h
def fI{t:TypeId}{x i v:Value}(h:v7 P t x i=some v)(p:VR ρ x x')(hi:VR ρ i i')(w:World):∃ v',(Instr.indexAt t x' i').run P w=.ok v' w/\VR ρ v v':=by
 unfold v7 at h;split at h
 .rename_i n e a r k hu;cases M2 hi;obtain⟨l,d,q,rfl⟩:=V0 p;split at h
  .rename_i s f j;obtain⟨h1,g⟩:=A6 h;cases g;have h1:k<n:=A2 h1;rw[gN];refine⟨.pointer (some ⟨l.blk,a.off+k*s+l.sh,none⟩),?_,.ptr d⟩;simp[Instr.indexAt,A8,D8 hu,Result.andThen,asIntOf,P0 f,h1,w9,Instr.sureAddr]
  .cases h
 .rename_i e a n c r k hu;cases M2 hi;split at h
  .rename_i s f j;obtain⟨h1,g⟩:=A6 h;cases g;have h1:k<n:=A2 h1;rw[gN];cases p with
   | pure hp=>simp[K5]at hp
   | sl d hm =>
     rename_i b o l;refine⟨.pointer (some ⟨l.blk,o+k*s+l.sh,none⟩),?_,.ptr d⟩;simp[Instr.indexAt,A8,D8 hu,Result.andThen,asIntOf,P0 f,h1,w9]
   | op d hm u z =>
     rename_i b o l _;refine⟨.pointer (some ⟨l.blk,o+k*s+l.sh,none⟩),?_,.ptr d⟩;simp[Instr.indexAt,A8,D8 hu,Result.andThen,asIntOf,P0 f,h1,w9]
   | opE q=>omega
  .cases h
 .cases h
def yF{t:TypeId}{x i v:Value}(h:qC P t x i=some v)(c:VR ρ x x')(hi:VR ρ i i')(w:World):∃ v',(Instr.index t x' i').run P w=.ok v' w/\VR ρ v v':=by
 unfold qC at h;split at h
 .rename_i n e cs p k hu;cases M2 hi;obtain⟨cs',rfl,g⟩:=o9 c;split at h
  .rename_i s l;obtain⟨h1,o⟩:=A6 h;have h1:k<n:=A2 h1;obtain⟨v',h3,j⟩:=lQ o g w;refine⟨v',?_,j⟩;simp[Instr.index,A8,D8 hu,Result.andThen,asIntOf,P0 l,h1,h3]
  .cases h
 .rename_i s p k hu;cases M2 hi;cases o8 c;split at h
  .rename_i b d;cases h;refine⟨_,?_,.pure rfl⟩;have a:k<s.size:=by
    have:=(B3.1 d).1
    simpa using this
   have f:s[k]? = some b:=by
    rw[getElem?_pos s k a]
    have:=(B3.1 d).2;rw[<- this];rfl
   simp[Instr.index,A8,D8 hu,Result.andThen,asIntOf,f]
  .cases h
 .cases h
def SK{x v:Value}{i:Nat}(h:pQ m x i=some (v,m'))(c:VR ρ x x')(w:World):m'=m/\∃ v',(Instr.extract x' i).run P w=.ok v' w/\VR ρ v v':=by
 unfold pQ at h;split at h
 .rename_i vs;obtain⟨cs',rfl,a⟩:=yE c;unfold noM at h;split at h
  .rename_i u hu;cases h;obtain⟨v',h1,b⟩:=a.get hu;exact⟨rfl,v',by simp[Instr.extract,h1],b⟩
  .cases h
 .cases h
def KA:∀ (vs:List Value) (off k:Nat) (C:Array Value),((vs.zipIdx k).foldl (fun(cs:Array Value) (x:Value×Nat)=>cs.setIfInBounds (off+x.2) x.1) C)=⟨fF C.toList (off+k) vs⟩
 | [],off,k,C=>rfl
 | v::r,off,k,C=>by
   simp only[List.zipIdx_cons,List.foldl_cons];rw[KA r off (k+1)];simp[fF,fC]
def PR(ρ:Ren):List (Nat×Value)->List (Nat×Value)->Prop
 | [],[]=>True
 | (i,v)::r,(j,v')::r'=>i=j/\VR ρ v v'/\PR ρ r r'
 | _,_=>False
def wT{place:Nat->Option (Nat×Nat)}:∀ {parts parts':List (Nat×Value)} {cs cs' r:D6},FK place cs parts=some r->PR ρ parts parts'->LR ρ cs cs'->∃ r',Instr.fill place ⟨cs'⟩ parts'=some ⟨r'⟩/\LR ρ r r'
 | [],[],cs,cs',r,h,_,hc=>by
   simp only[FK,D9]at h;subst h;exact⟨cs',rfl,hc⟩
 | [],_::_,_,_,_,_,hp,_=>hp.elim
 | _::_,[],_,_,_,_,hp,_=>hp.elim
 | (i,v)::rest,(j,v')::rest',cs,cs',r,h,⟨hij,hv,hp⟩,hc=>by
   subst hij;unfold FK at h;split at h
   .cases h
   .rename_i off size d;obtain⟨h1,g⟩:=A6 h;obtain⟨h3,f⟩:=C5 h1;obtain⟨h3,o⟩:=C5 h3;have h3:=A1 h3;have f:=A2 f;rw[J2]at g;have a:=hv.cells (by simpa using o);have b:v'.cells.size=v.cells.size:=by have:=a.1;simp at this;omega
    obtain⟨r',l,p⟩:=wT g hp (A0P hc a);refine⟨r',?_,p⟩;unfold Instr.fill;simp only[d];rw[A3]
    .have:=KA v'.cells.toList off 0 ⟨cs'⟩;have e:(v'.cells.zipIdx.foldl (fun(cs:Array Value) (x:Value×Nat)=>cs.setIfInBounds (off+x.2) x.1) ⟨cs'⟩)=⟨fF cs' off v'.cells.toList⟩:=by
      rw[<- Array.foldl_toList,Array.toList_zipIdx,this];rfl
     have n:(Array.foldl (fun cs x=>match x with|(c,j)=>cs.setIfInBounds (off+j) c) ({ toList:=cs' }:Array Value) v'.cells.zipIdx)=⟨fF cs' off v'.cells.toList⟩:=e;rw[n];exact l
    .have:=hc.1;simp[b];constructor
     .exact h3
     .omega
def DQ:∀ (a:List Field) (ps:List (Nat×Nat)),vV P a=some ps->∀ w:World,(a.mapM (fun f=>do pure (f.offset,<- sizeOf f.type):Field->Sem (Nat×Nat))).run P w=.ok ps w
 | [],ps,h,w=>by simp only[vV,D9]at h;subst h;rfl
 | f::r,ps,h,w=>by
   unfold vV at h;split at h
   .rename_i n l d c;cases h;have b:=DQ r l c w;simp only[List.mapM_cons,A8,P0 d,Result.andThen,Sem.run_pure];rw[b]
   .cases h
def A2b{t:TypeId}{v:Value}(h:YK P t parts=some v)(hp:PR ρ parts parts')(w:World):∃ v',(Instr.build t ⟨parts'⟩).run P w=.ok v' w/\VR ρ v v':=by
 unfold YK at h;split at h
 .rename_i z j d hu;split at h
  .rename_i ps g;split at h
   .rename_i cs a;cases h;obtain⟨r',h1,c⟩:=wT a hp (uG d);refine⟨.agg ⟨r'⟩,?_,.agg c.1 c.2⟩;have hm:(j.mapM (fun f=>do pure (f.offset,<- sizeOf f.type):Field->Sem (Nat×Nat))).run P w=.ok ps.toArray w:=by
     rw[jQ];show(Sem.bind (j.toList.mapM (fun f=>do pure (f.offset,<- sizeOf f.type):Field->Sem (Nat×Nat))) fun l=>Sem.pure l.toArray).run P w=_
     have:=DQ _ _ g w;have p:∀ (x:Sem (List (Nat×Nat))) (k:List (Nat×Nat)->Sem (Array (Nat×Nat))),(Sem.bind x k).run P w=(x >>= k).run P w:=fun _ _=>rfl
     rw[p,A8,this];rfl
    have b:Instr.fill (fun i=>ps[i]?) z.cells parts'=some ⟨r'⟩:=h1;unfold Instr.build;simp only[A8,dB d,D8 hu,Result.andThen,hm,M3];simp only[b];rfl
   .cases h
  .cases h
 .rename_i z n e d hu;split at h
  .rename_i s o;split at h
   .rename_i cs a;cases h;obtain⟨r',h1,c⟩:=wT a hp (uG d);refine⟨.agg ⟨r'⟩,?_,.agg c.1 c.2⟩;have b:Instr.fill (fun i=>some (i*s,s)) z.cells parts'=some ⟨r'⟩:=h1;simp[Instr.build,A8,dB d,D8 hu,Result.andThen,P0 o,b]
   .cases h
  .cases h
 .cases h
end
end
section
open Go
variable [Ora]
def OR(ρ:Ren):W4->W4->Prop
 | none,none=>True
 | some v,some v'=>VR ρ v v'
 | _,_=>False
def Bd(o:Option Value)(top dflt k:Nat):Prop:=(o=none/\k=dflt)∨∃ j,o=some (.int j (.ofNat k))/\k<=top
section
variable {P:Program} {base:Nat} {ρ:Ren} {m m':Mem} {w:World}
def S4{o:W4}{k:Nat}(h:Z8 o top dflt=some k)(a:OR ρ o o'):Bd o' top dflt k:=by
 unfold Z8 at h;split at h
 .cases h;cases o' with
  | none=>exact .inl ⟨rfl,rfl⟩
  | some _=>exact a.elim
 .obtain⟨h1,b⟩:=A6 h;cases b;cases o' with
  | none=>exact a.elim
  | some v' =>
    have a:VR ρ _ v':=a;cases M2 a;exact .inr ⟨_,rfl,A2 h1⟩
 .cases h
def A14{v:Value}{j:IntKind}{k:Nat}{c:BoundsCode}(a:v=.int j (.ofNat k))(h:k<=y)(w:World):(Instr.sliceBound v y c).run P w=.ok k w:=by
 subst a;simp[Instr.sliceBound,A8,asIntOf,Result.andThen,h]
def mZ{b:Bool}{len cap l h:Nat}{hi:W4}(h1:Bd mx cap cap mm)(h0:hi=none->mx=none)(a:Bd hi mm len h)(h3:Bd lo h 0 l)(w:World) :
  (Instr.sliceBounds b len cap lo hi mx).run P w=.ok (l,h,mm) w:=by
 unfold Instr.sliceBounds;rcases h1 with⟨rfl,rfl⟩|⟨j,rfl,h1⟩<;>rcases a with⟨rfl,rfl⟩|⟨c,rfl,a⟩<;>rcases h3 with⟨rfl,rfl⟩|⟨d,rfl,h3⟩
 all_goals first
  | (exfalso;have:=h0 rfl;cases this;done)
  | (simp only[A8,Sem.run_pure,Result.andThen];repeat (first|rw[A14 rfl ‹_›]|simp only[Result.andThen,A8,Sem.run_pure]));done
def VR.slice{a a':Addr}{n c b:Nat}(h:VR ρ (.slice (some a) n c) (.slice (some a') n b)):True:=trivial
def U4{a:Addr}{n c:Nat}(h:VR ρ (.slice (some a) n c) x') :
  (∃ l,ρ a.block=some l/\a.spot=none/\c<R5/\x'=.slice (some ⟨l.blk,a.off+l.sh,none⟩) n c) ∨
  (∃ l b,ρ a.block=some l/\a.spot=none/\R5<=c/\n<=b/\(c=R5->a.off=0->b=l.cap)/\x'=.slice (some ⟨l.blk,a.off+l.sh,none⟩) n b) ∨
  (∃ a' b,a'.spot=none/\n=0/\c=R5+2/\x'=.slice (some a') 0 b):=by
 cases h with
 | pure hp=>simp[K5]at hp
 | sl d hm=>exact .inl ⟨_,d,rfl,hm,rfl⟩
 | op d hm g f=>exact .inr (.inl ⟨_,_,d,rfl,hm,g,f,rfl⟩)
 | opE i=>exact .inr (.inr ⟨_,_,i,rfl,rfl,rfl⟩)
def V5{n c:Nat}(h:VR ρ (.slice none n c) x'):x'=.slice none n c:=by cases h;rfl
def OR.none_iff{o:W4}(h:OR ρ o o'):o=none↔o'=none:=by
 cases o<;>cases o'<;>simp_all [OR]
def zE{t:TypeId}{s n c l h:Nat}{a:Option Addr}{hi:W4}(hu:P.underlying t=some (.slice e))(f:I4 P e=some s)(h1:Bd mx c c mm)(h0:hi=none->mx=none)(d:Bd hi mm n h)(h3:Bd lo h 0 l)(w:World) :
  (Instr.sliceAt t (.slice a n c) lo hi mx).run P w=.ok (.slice (if mm=l then a else a.map (·.add (l*s))) (h-l) (mm-l)) w:=by
 have:=mZ (P:=P) (b:=true) h1 h0 d h3 w;simp[Instr.sliceAt,Instr.slice,A8,D8 hu,Result.andThen,this,P0 f]
def kW(s:ByteArray)(l h:Nat):s.extract l h=⟨⟨(s.data.toList.drop l).take (h-l)⟩⟩:=by
 have h1:(s.extract l h).data=⟨(s.data.toList.drop l).take (h-l)⟩:=by
  rw[ByteArray.data_extract];apply L3;simp[List.extract]
 cases a:s.extract l h with
 | mk d=>rw[a]at h1;simp only at h1;rw[h1]
def lL{t:TypeId}{x v:Value}{hi lo' hi' mx':W4}(h:fP P t x lo hi mx=some v)(L:VR ρ x x')(q:OR ρ lo lo')(f:OR ρ hi hi')(i:OR ρ mx mx')(w:World) :
  ∃ v',(Instr.sliceAt t x' lo' hi' mx').run P w=.ok v' w/\VR ρ v v':=by
 unfold fP at h;split at h
 ·
  rename_i s hu;cases o8 L;split at h
  .rename_i hh r;split at h
   .rename_i l h3;cases h;refine⟨_,?_,.pure rfl⟩;have hm:mx'=none:=i.none_iff.1 rfl;subst hm
    have:=mZ (P:=P) (b:=false) (len:=s.size) (cap:=s.size) (mx:=none) (.inl ⟨rfl,rfl⟩) (fun _=>rfl) (S4 r f) (S4 h3 q) w;simp[Instr.sliceAt,Instr.slice,A8,D8 hu,Result.andThen,this,kW]
   .cases h
  .cases h
 ·
  rename_i e n c hu;cases V5 L;split at h
  .rename_i h1 r h3;obtain⟨Z,h5⟩:=(by
    cases D:(mx.isSome && hi.isNone) || (I4 P e).isNone with
    | true=>rw[D]at h;cases h
    | false=>rw[D]at h;exact⟨rfl,h⟩:((mx.isSome && hi.isNone) || (I4 P e).isNone)=false/\some (Value.slice none 0 0)=some v)
   cases h5;simp only[P1]at Z;obtain⟨Z,h6⟩:=Z;refine⟨.slice none 0 0,?_,.pure rfl⟩;have V:=S4 h1 i;have U:=S4 r f;have Y:=S4 h3 q;have z:∀ {o:W4} {k:Nat},Bd o 0 0 k->k=0:=fun u=>by rcases u with⟨_,rfl⟩|⟨_,_,u⟩<;>omega
   have z1:=z V;have z2:=z U;have z3:=z Y;subst z1;subst z2;subst z3;have h0:hi'=none->mx'=none:=fun E=>by
    have B:=(f.none_iff).2 E;subst B;cases mx with
    | none=>exact i.none_iff.1 rfl
    | some _=>simp at Z
   obtain⟨s,O⟩:∃ s,I4 P e=some s:=by cases D:I4 P e with|none=>rw[D]at h6;cases h6|some s=>exact⟨s,rfl⟩
   have:=mZ (P:=P) (b:=true) V h0 U Y w;simp[Instr.sliceAt,Instr.slice,A8,D8 hu,Result.andThen,this,P0 O]
  .cases h
 ·
  rename_i e a n c hu;split at h
  .rename_i s O g;have p:∀ (d l hh mm:Nat) (a':Addr),Bd mx' d d mm->(hi'=none->mx'=none)->Bd hi' mm n hh->Bd lo' hh 0 l->(Instr.sliceAt t (.slice (some a') n d) lo' hi' mx').run P w=.ok (.slice (if mm=l then some a' else(some a').map (·.add (l*s))) (hh-l) (mm-l)) w :=
    fun d l hh mm a' h1 h0 r h3=>zE hu O h1 h0 r h3 w
   have F:∀ (l mm:Nat) (lc:Loc),ρ a.block=some lc->(if mm=l then some (Addr.mk lc.blk (a.off+lc.sh) none)else(some (Addr.mk lc.blk (a.off+lc.sh) none)).map (·.add (l*s)))=some ⟨lc.blk,(bif Nat.beq mm l then a else eB a (l*s)).off+lc.sh,none⟩/\(bif Nat.beq mm l then a else eB a (l*s)).block=a.block/\((bif Nat.beq mm l then a else eB a (l*s)).spot=none):=fun l mm lc au=>by
    by_cases B:mm=l
    .subst B;simp[g]
    .have:Nat.beq mm l=false:=by cases u:Nat.beq mm l with|false=>rfl|true=>exact absurd (A1 u) B
     simp[this,B,gN,w9]
   cases N:Nat.blt c R5 with
   | true =>
     have S:c<R5:=A2 N;rw[N]at h;simp only[F7]at h;rcases U4 L with⟨lc,H,_,_,rfl⟩|⟨lc,d,_,_,ho,_⟩|⟨a',d,_,_,rfl,_⟩
     .split at h
      .rename_i mm h1;split at h
       .rename_i hh r;split at h
        .rename_i l h3;cases h;have J:=S4 h1 i;have h0:hi'=none->mx'=none:=fun E=>by
          have B:=(f.none_iff).2 E;subst B;cases mx with
          | none=>exact i.none_iff.1 rfl
          | some _=>cases r
         have I:Bd hi' mm n hh:=by
          cases hi with
          | none=>cases mx with
            | none=>exact S4 r f
            | some _=>cases r
          | some _=>cases mx<;>exact S4 r f
         refine⟨_,p c l hh mm _ J h0 I (S4 h3 q),?_⟩;obtain⟨g1,g2,g3⟩:=F l mm lc H;rw[g1];have an:mm<=c:=by rcases J with⟨_,rfl⟩|⟨_,_,u⟩<;>omega
         generalize hA:(bif Nat.beq mm l then a else eB a (l*s))=A at g2 g3 ⊢;obtain⟨ab,ao,M⟩:=A;simp only at g2 g3;subst g3;exact .sl (by rw[g2];exact H) A0
        .cases h
       .cases h
      .cases h
     .omega
     .omega
   | false =>
     have S:R5<=c:=by
      rcases G7 c R5 with C|aw
      .rw[show Nat.blt c R5=true from D2 C]at N;cases N
      .exact aw
     rw[N]at h;simp only[E8]at h;split at h
     .rename_i mv;split at h
      .rename_i hv mm h1;obtain⟨g0,h⟩:=A6 h;obtain⟨R,Q⟩:=C5 g0;have R:mm<R5:=A2 R;have Q:=A2 Q;split at h
       .rename_i hh r;split at h
        .rename_i l h3;cases h;rcases U4 L with⟨_,_,_,C,_⟩|⟨lc,d,H,_,_,E,_,rfl⟩|⟨a',d,_,_,he,_⟩
         .omega
         .have J:=S4 h1 i;have X:Bd mx' d d mm:=by
           rcases J with⟨ay,_⟩|⟨j,hj,u⟩
           .have:=(i.none_iff).2 ay;cases this
           .exact .inr ⟨j,hj,A0⟩
          refine⟨_,p d l hh mm _ X (fun E=>by have:=(f.none_iff).2 E;cases this) (S4 r f) (S4 h3 q),?_⟩;obtain⟨g1,g2,g3⟩:=F l mm lc H;rw[g1];generalize hA:(bif Nat.beq mm l then a else eB a (l*s))=A at g2 g3 ⊢;obtain⟨ab,ao,M⟩:=A;simp only at g2 g3;subst g3;exact .sl (by rw[g2];exact H) A0
         .omega
        .cases h
       .cases h
      .cases h
     .have hm:mx'=none:=i.none_iff.1 rfl;subst hm;split at h
      .rename_i hh h1;have I:=S4 h1 f;have ar:hh<=n:=by rcases I with⟨_,rfl⟩|⟨_,_,u⟩<;>omega
       have up:∀ d,n<=d->Bd hi' d n hh:=fun d N=>by
        rcases I with u|⟨j,hj,u⟩
        .exact .inl u
        .exact .inr ⟨j,hj,A0⟩
       split at h
       .rename_i h3;cases h;have G:=S4 h3 q;rcases U4 L with⟨_,_,_,C,_⟩|⟨lc,d,H,_,_,E,K,rfl⟩|⟨a',d,W,rfl,rfl,rfl⟩
        .omega
        .refine⟨_,p d 0 hh d _ (.inl ⟨rfl,rfl⟩) (fun _=>rfl) (up d E) G,?_⟩;have:(if d=0 then some (Addr.mk lc.blk (a.off+lc.sh) none)else(some (Addr.mk lc.blk (a.off+lc.sh) none)).map (·.add (0*s)))=some (Addr.mk lc.blk (a.off+lc.sh) none):=by
          simp[w9]
         rw[this];obtain⟨ab,ao,M⟩:=a;simp only at g;subst g;exact .op H S A0 K
        .have av:hh=0:=A0;subst av;refine⟨_,p d 0 0 d _ (.inl ⟨rfl,rfl⟩) (fun _=>rfl) (up d (W1 _)) G,?_⟩;have:(if d=0 then some a' else(some a').map (·.add (0*s)))=some a':=by simp[Addr.add]
         rw[this];exact .opE W
       .rename_i l h3;have G:=S4 h3 q;have aq:l+1<=hh:=by rcases G with⟨_,u⟩|⟨_,_,u⟩<;>omega
        rcases U4 L with⟨_,_,_,C,_⟩|⟨lc,d,H,_,_,E,K,rfl⟩|⟨a',d,W,rfl,rfl,rfl⟩
        .omega
        .have hf:=p d (l+1) hh d ⟨lc.blk,a.off+lc.sh,none⟩ (.inl ⟨rfl,rfl⟩) (fun _=>rfl) (up d E) G;cases D:Nat.blt (l+1) n with
         | true =>
           have ax:l+1<n:=A2 D;simp only[D,F7]at h;cases h;refine⟨_,hf,?_⟩;rw[A3 A0,gN];simp only[P3,w9];rw[show a.off+lc.sh+(l+1)*s=a.off+(l+1)*s+lc.sh by omega];exact .op H (by unfold R5;omega) A0 (fun e=>by unfold R5 at e;omega)
         | false =>
           have ax:¬ l+1<n:=fun C=>by rw[show Nat.blt (l+1) n=true from D2 C]at D;cases D
           simp only[D,E8]at h;cases h;refine⟨_,hf,?_⟩;have B:hh-(l+1)=0:=A0;rw[B];by_cases e2:d=l+1
           .rw[A4 e2];exact .opE rfl
           .rw[A3 e2];simp only[P3,w9];exact .opE rfl
        .omega
       .cases h
      .cases h
  .cases h
 ·
  rename_i n e a hu;obtain⟨lc,H,az,rfl⟩:=V0 L;split at h
  .rename_i s O g;split at h
   .rename_i hh r;split at h
    .rename_i l h3;obtain⟨T,h⟩:=A6 h;have T:n<R5:=A2 T;cases h;have hm:mx'=none:=i.none_iff.1 rfl;subst hm;have hr:=mZ (P:=P) (b:=false) (len:=n) (cap:=n) (mx:=none) (.inl ⟨rfl,rfl⟩) (fun _=>rfl) (S4 r f) (S4 h3 q) w;refine⟨.slice (some ⟨lc.blk,(bif Nat.beq n l then a else eB a (l*s)).off+lc.sh,none⟩) (hh-l) (n-l),?_,?_⟩
     .by_cases B:n=l
      .subst B;simp[Instr.sliceAt,A8,D8 hu,Result.andThen,hr,P0 O,Instr.sureAddr]
      .have D:Nat.beq n l=false:=by cases u:Nat.beq n l with|false=>rfl|true=>exact absurd (A1 u) B
       simp[Instr.sliceAt,A8,D8 hu,Result.andThen,hr,P0 O,Instr.sureAddr,B,D,gN,w9]
     .have E:n-l<R5:=A0;have g2:(bif Nat.beq n l then a else eB a (l*s)).block=a.block:=by cases Nat.beq n l<;>simp[gN]
      have g3:(bif Nat.beq n l then a else eB a (l*s)).spot=none:=by cases Nat.beq n l<;>simp[gN,az]
      generalize hA:(bif Nat.beq n l then a else eB a (l*s))=A at g2 g3 ⊢;obtain⟨ab,ao,M⟩:=A;simp only at g2 g3;subst g3;exact .sl (by rw[g2];exact H) E
    .cases h
   .cases h
  .cases h
 .cases h
end
end
section
open Go
variable [Ora]
section
variable {P:Program} {base:Nat} {ρ:Ren} {m m':Mem} {w:World}
def gW{C:r7}{v:Value}{cap:Nat}{fz:Nat×Nat}{wd:World}(h:HR P base ρ m.H w)(q:base<=w.heap.size)(f:y6 m (.cells cs e false) k=some (v,m'))(g:M8 ρ m.n m'.hi)
  (j:LR ρ cs cs') (hC:∀ (i:Nat) (v:Value),cs'[i]? = some v->C[i]? = some v) (c:NF C fz) (b:∀ inf,P.info? e=some inf->cap*inf.size<=C.size)
  (l:wd.os=w.os/\wd.tape=w.tape/\wd.output=w.output) (hh:wd.heap=w.heap) :
  v=k m.n/\upd ρ m.n (lc w.heap.size 0 cap) m.n=some (lc w.heap.size 0 cap)/\St P base ρ (upd ρ m.n (lc w.heap.size 0 cap)) m m' w { wd with heap:=wd.heap.push (.cells C e fz) }:=by
 have a:ρ m.n=none:=by
  obtain⟨_,_,rfl⟩:=N1 f;exact g m.n (B0 _) (L9 _ _).2
 refine St.alloc (o:=.cells C e fz) h q f g l (by simp[hh]) rfl ⟨rfl,C,fz,e,by simp[hh],fun i u hi=>?_,fun _=>⟨rfl,c,fun inf hi=>⟨by have:=b inf hi;simpa using this,Nat.zero_mod _⟩⟩⟩;obtain⟨d,h1,p⟩:=j.get hi;exact⟨d,by rw[G0];exact hC i d h1,p.mono (u5 a)⟩
def nJ{v:Value}(h:HR P base ρ m.H w)(b:base<=w.heap.size)(d:y6 m (.cells cs e false) k=some (v,m'))(c:M8 ρ m.n m'.hi)(a:LR ρ cs cs') :
  v=k m.n/\upd ρ m.n (lc w.heap.size 0 0) m.n=some (lc w.heap.size 0 0)/\St P base ρ (upd ρ m.n (lc w.heap.size 0 0)) m m' w { w with heap:=w.heap.push (.cells ⟨cs'⟩ e (0,0)) } :=
 gW (wd:=w) h b d c a (fun i v hi=>by simpa using hi) NF.zero (fun inf _=>by simp) ⟨rfl,rfl,rfl⟩ rfl
def A2E{v:Value}(h:HR P base ρ m.H w)(c:base<=w.heap.size)(a:NH P m e=some (v,m'))(f:M8 ρ m.n m'.hi):VOk P base ρ m w (Instr.alloc e true (.tuple #[])) v m':=by
 unfold NH at a;split at a
 .rename_i z b;obtain⟨h1,d,h3⟩:=nJ h c a f (uG b);refine⟨.pointer (some ⟨w.heap.size,0,none⟩),_,_,?_,?_,h3⟩
  .simp[Instr.alloc,newVar,newRow,A8,dB b,Result.andThen,newObj,Sem.run]
  .rw[h1];exact .ptr d
 .cases a
def A8k{x v:Value}(h:HR P base ρ m.H w)(d:base<=w.heap.size)(c:A5L m e x=some (v,m'))(g:M8 ρ m.n m'.hi)(i:VR ρ x x'):VOk P base ρ m w (Instr.box e x') v m':=by
 unfold A5L at c;obtain⟨a,c⟩:=A6 c;obtain⟨h1,f,h3⟩:=nJ h d c g (i.cells (by
  cases b:nL x with
  | false=>rfl
  | true =>
    unfold nL at b;split at b
    .exfalso;simp only[Value.cells]at a;simp[flat]at a;simp[a]at b
    .cases b))
 refine⟨.pointer (some ⟨w.heap.size,0,none⟩),_,_,?_,?_,h3⟩
 .simp[Instr.box,newVar,newRow,A8,Result.andThen,newObj,Sem.run]
 .rw[h1];exact .ptr f
def RL(z:List Value)(a:z≠[]):∀ (n i:Nat),(RM z n)[i]? = if i<n*z.length then z[i%z.length]? else none
 | 0,i=>by simp[RM]
 | n+1,i=>by
   have c:0<z.length:=O1.2 a;rw[RM];by_cases h:i<z.length
   .rw[F8 h,A4 (by rw[Nat.succ_mul];omega),O6 h]
   .rw[E9 A0,RL z a n,Nat.succ_mul];have e:(i-z.length)%z.length=i%z.length:=by rw[<- Nat.mod_eq_sub_mod A0]
    by_cases b:i-z.length<n*z.length
    .rw[A4 b,A4 A0,e]
    .rw[A3 b,A3 A0]
def A1h{z:r7}{n s:Nat}(b:z.size=s)(d:n*s≠0):(Array.range (n*s)).map (z[· % z.size]!)=⟨RM z.toList n⟩:=by
 have c:z.toList≠[]:=by
  intro e;have:z.size=0:=by simpa using G2 List.length e
  rw[b]at this;subst this;simp at d
 apply L3;apply i7;intro i;rw[RL _ c];simp only[Array.toList_map,Array.toList_range,H9];have f:z.toList.length=s:=by simpa using b
 rw[f];by_cases h:i<n*s
 .rw[A4 h,List.getElem?_range h];have a:0<s:=by
   rcases Z1 s with h0|h0
   .subst h0;simp at d
   .exact h0
  have hm:i%s<z.size:=by rw[b];exact uE _ a
  simp[b,getElem!_pos z (i%s) hm,A7 (show i%s<z.toList.length by simpa using hm)]
 .rw[A3 h];simp;omega
def HV{n s:Nat}(j:I4 P e=some s)(h:LJ P e n=some zs) :
  ((n*s=0/\zs=[])∨(n*s≠0/\∃ z:Value,(∀ w,(zeroValue e).run P w=.ok z w)/\(Array.range (n*s)).map (z.cells[· % z.cells.size]!)=⟨zs⟩))/\LR ρ zs zs:=by
 unfold LJ at h;rw[j]at h;simp only at h;cases a:Nat.beq (n*s) 0 with
 | true =>
   rw[a]at h;simp only[F7,D9]at h;subst h;exact⟨.inl ⟨A1 a,rfl⟩,.nil⟩
 | false =>
   rw[a]at h;simp only[E8]at h;have b:n*s≠0:=fun e=>by rw[e]at a;cases a
   split at h
   .rename_i z d;obtain⟨h1,f⟩:=A6 h;cases f;have h1:=A1 h1;refine⟨.inr ⟨b,z,fun w=>dB d w,A1h h1 b⟩,?_⟩;have c:∀ l:D6,LR ρ l l->∀ n,LR ρ (RM l n) (RM l n):=fun l i n=>by
     induction n with
     | zero=>exact .nil
     | succ n g=>exact i.append g
    exact c _ (uG d) n
   .cases h
def GH{t:TypeId}{n:Nat}{v:Value}(h:HR P base ρ m.H w)(A:base<=w.heap.size)(a:fL P m t n parts=some (v,m'))(u:M8 ρ m.n m'.hi)(hp:PR ρ parts parts') :
  VOk P base ρ m w (Instr.buildSlice t n ⟨parts'⟩) v m':=by
 unfold fL at a;split at a
 .rename_i e hu;split at a
  .rename_i s zs p B;obtain⟨h1,a⟩:=A6 a;obtain⟨h1,b⟩:=C5 h1;have h1:=A2 h1;have b:n<R5:=A2 b;split at a
   .rename_i cs f;obtain⟨j,g⟩:=HV (ρ:=ρ) p B;obtain⟨r',r,h3⟩:=wT f hp g;obtain⟨g1,g2,g3⟩:=nJ h A a u h3;refine⟨.slice (some ⟨w.heap.size,0,none⟩) n n,_,_,?_,?_,g3⟩
    .unfold Instr.buildSlice;simp only[A8,D8 hu,P0 p,Result.andThen];rw[A3 A0];have c:Instr.fill (fun i=>some (i*s,s)) ⟨zs⟩ parts'=some ⟨r'⟩:=r;rcases j with⟨d,rfl⟩|⟨d,z,o,l⟩
     .have q:∀ z:r7,Array.map (fun x=>z[x%z.size]!) (Array.range (n*s))=⟨[]⟩:=fun z=>by rw[d];apply L3;simp
      simp only[A4 d,q,c];rfl
     .simp only[A3 d,A8,Sem.run_pure,Result.andThen,o,l,c];rfl
    .rw[g1];exact .sl g2 b
   .cases a
  .cases a
 .cases a
def HL{t:TypeId}{l c l' s v:Value}(h:HR P base ρ m.H w)(J:base<=w.heap.size)(a:iT P m t l c=some (v,m'))(G:M8 ρ m.n m'.hi)(L:VR ρ l l')(E:VR ρ c s) :
  VOk P base ρ m w (Instr.makeSlice t l' s) v m':=by
 unfold iT at a;split at a
 .rename_i e M l N c hu;cases M2 L;cases M2 E;split at a
  .rename_i i hi;obtain⟨h1,a⟩:=A6 a;obtain⟨h1,h3⟩:=C5 h1;obtain⟨h1,A⟩:=C5 h1;have h1:=A2 h1;have A:=A2 A;have h3:=A2 h3;split at a
   .rename_i zs K;rw[J2]at a;have u:I4 P e=some i.size:=by simp[I4,hi]
    obtain⟨j,g⟩:=HV (ρ:=ρ) u K;obtain⟨g1,g2,g3⟩:=nJ h J a G g;refine⟨.slice (some ⟨w.heap.size,0,none⟩) l c,_,_,?_,?_,g3⟩
    .have wl:IntKind.i64.wrap (Int.ofNat l)=Int.ofNat l:=uK .i64 l (by simp only[VX];omega);have C:IntKind.i64.wrap (Int.ofNat c)=Int.ofNat c:=uK .i64 c (by simp only[VX];omega);have b:(askRoom (c*i.bytes)).run P w=.ok () w:=by
      unfold askRoom roomBytes;rw[A3 A0];rfl
     have r:((i.bytes:Int)*(c:Int))=((c*i.bytes:Nat):Int):=by rw[bD];simp
     have I:((i.bytes:Int)*(l:Int))<=((c*i.bytes:Nat):Int):=by
      have:i.bytes*l<=c*i.bytes:=by rw[bD];exact G8 _ h1
      exact_mod_cast this
     unfold Instr.makeSlice;simp only[A8,D8 hu,asInt,asIntOf,Result.andThen,Sem.run_pure,j7 hi,wl,C];rw[A3]
     .have q:(Int.ofNat c).toNat=c:=by simp
      have f:(Int.ofNat l).toNat=l:=by simp
      simp only[A8,Sem.run_pure,Result.andThen,q,f,b,P0 u];rcases j with⟨d,rfl⟩|⟨d,z,p,o⟩
      .have B:∀ z:r7,Array.map (fun x=>z[x%z.size]!) (Array.range (c*i.size))=⟨[]⟩:=fun z=>by rw[d];apply L3;simp
       simp only[A4 d,B];rfl
      .simp only[A3 d,A8,Sem.run_pure,Result.andThen,p,o];rfl
     .have F:Int.ofNat c=(c:Int):=rfl;have D:Int.ofNat l=(l:Int):=rfl;simp only[F,D,r];simp;omega
    .rw[g1];exact .sl g2 (by unfold R5;omega)
   .cases a
  .cases a
 .cases a
end
end
end Go.Sx
