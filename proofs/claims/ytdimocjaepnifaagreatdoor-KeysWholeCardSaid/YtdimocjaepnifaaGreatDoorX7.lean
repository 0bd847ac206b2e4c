import Derived.Test.YtdimocjaepnifaaGreatDoorX6
import Derived.Lib.Bytealg
import Derived.Lib.MakeNoZero
set_option linter.all false
set_option maxRecDepth 100000
set_option maxHeartbeats 4000000
namespace Go.Sx
variable {m m' m1 m2:Mem}{c:Cls}{r:Option (Nat×AB)}{rs:List Rec}{op:OpC}{fn:Func}{vs' vs2:D6}
section
open Go
variable [Ora]
def A7z(ops:Array Oper)(X:Nat->Qs)(i:Nat)(o:Oper):Bool:=QS o.op i ((y7 ops.toList []).getD i []) ((y7 ops.toList []).drop (i+1)) (ops.toList.drop (i+1)) (X i)
structure Rg (P:Program) (base gl nt:Nat) (call:U1) (ops:Array Oper) (F:Nat->Fr) (M:Nat->Mem) (V:Nat->Value) (R:Nat->List Rec) (X:Nat->Qs) (B:Nat->Bool):Prop where
 st:∀ i o,ops[i]? = some o->PF P nt gl call ops.toList ((y7 ops.toList []).getD i []) (R i) (B i) o (F i) (F (i+1)) (M i) (M (i+1)) (V i)
 rc:∀ i o,ops[i]? = some o->(R (i+1)=R i/\∃ lg,M (i+1)=(M i).wLg lg)∨(B i=true/\R (i+1)=[])∨R (i+1)=⟨i,(M i).n,(M (i+1)).n⟩::R i
 qs:∀ i o,ops[i]? = some o->QsN (B i) i nt ops.toList (t7 P call o) ((y7 ops.toList []).getD i []) (R i) (F i) o (M i) (M (i+1)) (V i) (X i) (X (i+1))
 sb:∀ i o,ops[i]? = some o->B i=true->A7z ops X i o=true
 x0:X 0=[]
 ok:SI ops.toList (y7 ops.toList []) ops.toList 0=true
structure Ph (ops:Array Oper) (B:Nat->Bool) (M:Nat->Mem) (lo up:Nat):Prop where
 le:lo<=up
 sz:up<=ops.size
 nh:(M lo).n<=(M lo).hi
 mx:∀ i o,lo<=i->i<up->ops[i]? = some o->B i=false
section
variable {P:Program} {base gl nt:Nat} {call:U1} {ops:Array Oper} {F:Nat->Fr} {M:Nat->Mem} {V:Nat->Value} {R:Nat->List Rec} {X:Nat->Qs} {B:Nat->Bool} {lo up:Nat}
def V6{i:Nat}(h:i<ops.size):∃ o,ops[i]? = some o:=⟨ops[i],by simp[h]⟩
def Rg.one(g:Rg P base gl nt call ops F M V R X B){i:Nat}{o:Oper}(l:ops[i]? = some o)(d:B i=false)(b:(M i).n<=(M i).hi):(M i).n<=(M (i+1)).n/\(M i).hi<=(M (i+1)).hi/\(M (i+1)).n<=(M (i+1)).hi/\(M (i+1)).W=(M i).W /\
  ∀ id,id<=J0->(id<(M i).n∨(M (i+1)).n<=id)->Hp.get (M (i+1)).H id=Hp.get (M i).H id:=by
 obtain⟨_,_,_,h⟩:=g.st i o l;rcases h with⟨_,lg,_,_,h⟩|⟨_,lg,j,_,_,h⟩|⟨h,_⟩|⟨_,_,lg,_,mv,m',_,_,_,a,hm⟩
 .rw[h];exact⟨B0 _,B0 _,b,rfl,fun _ _ _=>rfl⟩
 .rw[h];exact⟨B0 _,B0 _,b,rfl,fun _ _ _=>rfl⟩
 .rw[d]at h;cases h
 .obtain⟨h1,k,h3,f,_,_,_,e⟩:=SQ hm b a;exact⟨h1,k,h3,f,fun id hid hh=>by rw[e id hid,A3 (by show ¬ ((M i).n<=id/\_);omega)];rfl⟩
def Rg.allD(g:Rg P base gl nt call ops F M V R X B)(a:Ph ops B M lo up):∀ d,lo+d<=up->(M lo).n<=(M (lo+d)).n/\(M lo).hi<=(M (lo+d)).hi/\(M (lo+d)).n<=(M (lo+d)).hi/\(M (lo+d)).W=(M lo).W /\
  ∀ id,id<=J0->(id<(M lo).n∨(M (lo+d)).n<=id)->Hp.get (M (lo+d)).H id=Hp.get (M lo).H id
 | 0,_=>⟨B0 _,B0 _,a.nh,rfl,fun _ _ _=>rfl⟩
 | d+1,h=>by
   obtain⟨h1,q,h3,k,e⟩:=g.allD a d A0;obtain⟨o,b⟩:=V6 (ops:=ops) (i:=lo+d) (by have:=a.sz;omega);obtain⟨s,p,j,f,l⟩:=g.one b (a.mx _ o A0 A0 b) h3;exact⟨B9 h1 s,B9 q p,j,f.trans k,fun id hid hh=>by
    rw[show lo+(d+1)=lo+d+1 by omega]at hh ⊢;rw[l id hid A0,e id hid A0]⟩
def Rg.all(g:Rg P base gl nt call ops F M V R X B)(a:Ph ops B M lo up){i:Nat}(h0:lo<=i)(h:i<=up):(M lo).n<=(M i).n/\(M lo).hi<=(M i).hi/\(M i).n<=(M i).hi/\(M i).W=(M lo).W /\
  ∀ id,id<=J0->(id<(M lo).n∨(M i).n<=id)->Hp.get (M i).H id=Hp.get (M lo).H id:=by
 have:=g.allD a (i-lo) A0
 rwa[show lo+(i-lo)=i by omega]at this
def Rg.mono(g:Rg P base gl nt call ops F M V R X B)(a:Ph ops B M lo up){i:Nat}(h0:lo<=i):∀ d,i+d<=up->(M i).n<=(M (i+d)).n/\(M i).hi<=(M (i+d)).hi/\∀ id,id<=J0->id<(M i).n->Hp.get (M (i+d)).H id=Hp.get (M i).H id
 | 0,_=>⟨B0 _,B0 _,fun _ _ _=>rfl⟩
 | d+1,h=>by
   obtain⟨h1,k,e⟩:=g.mono a h0 d A0;obtain⟨o,b⟩:=V6 (ops:=ops) (i:=i+d) (by have:=a.sz;omega);obtain⟨l,j,q,p,f⟩:=g.one b (a.mx _ o A0 A0 b) (g.all a (i:=i+d) A0 A0).2.2.1;exact⟨B9 h1 l,B9 k j,fun id hid hh=>by rw[show i+(d+1)=i+d+1 by omega,f id hid A0,e id hid hh]⟩
def Rg.le(g:Rg P base gl nt call ops F M V R X B)(a:Ph ops B M lo up){i j:Nat}(h0:lo<=i)(h:i<=j)(b:j<=up):(M i).n<=(M j).n/\(M i).hi<=(M j).hi/\∀ id,id<=J0->id<(M i).n->Hp.get (M j).H id=Hp.get (M i).H id:=by
 have:=g.mono a h0 (j-i) A0
 rwa[show i+(j-i)=j by omega]at this
def ZC{mv:Mem}{us:List Rec}(h:HY m c us=some mv):mv.lg=m.lg:=by
 obtain⟨H,n,W,hi,lg⟩:=m;unfold HY at h;simp only at h;cases c with
 | free=>cases h;rfl
 | one b =>
   simp only at h;cases a:cV (aM us) b || !(Nat.ble b J0)with
   | true=>rw[a]at h;cases h
   | false=>rw[a,iO]at h;cases h;rfl
 | all =>
   simp only at h;obtain⟨d,h⟩:=A6 h;cases h;rfl
def SR(h:pS m m'=some m2):m2.lg=m'.lg:=by
 unfold pS at h;cases a:Nat.ble m'.hi m.n with
 | true=>rw[a]at h;cases h;rfl
 | false =>
   rw[a]at h;obtain⟨_,h⟩:=A6 h;simp only[G5,hH]at h;cases h;rfl
def rS{a b:Addr}(h:MK a b=true):a=b:=by
 unfold MK at h;split at h
 .obtain⟨h1,d⟩:=C5 h;rw[A1 h1,A1 d]
 .cases h
def A12{a b:Fn}(h:WS a b=true):a=b:=by
 unfold WS at h;split at h
 .rw[A1 h]
 .rw[A1 h]
 .cases h
def vF{s:Value->Value->Bool}(d:∀ a b,s a b=true->a=b):∀ {l r:D6},IN s l r=true->l=r
 | [],[],_=>rfl
 | [],_::_,h=>by cases h
 | _::_,[],h=>by cases h
 | a::l,b::r,h=>by
   obtain⟨h1,e⟩:=C5 (show(s a b && IN s l r)=true from h);rw[d a b h1,vF d e]
def B9j{a b:r7}(h:a.toList=b.toList):a=b:=by cases a;cases b;cases h;rfl
def A3l:∀ (d:Nat) (v w:Value),DN d v w=true->v=w:=by
 intro d;induction d with
 | zero =>
   intro v w h;unfold DN at h;split at h
   .rw[eq_of_beq h]
   .obtain⟨h1,e⟩:=C5 h;rw[fB]at e;rw[lM h1,eq_of_beq e]
   .obtain⟨h1,e⟩:=C5 h;rw[A1 h1,A1 e]
   .obtain⟨h1,e⟩:=C5 h;rw[A1 h1,A1 e]
   .rename_i s t;have h1:=F4 h;cases s with|mk s=>cases t with|mk t=>cases s;cases t;cases h1;rfl
   .rfl
   .rw[rS h]
   .obtain⟨h1,e⟩:=C5 h;rw[A1 h1,A1 e]
   .obtain⟨h0,h⟩:=C5 h;obtain⟨h1,e⟩:=C5 h;rw[rS h0,A1 h1,A1 e]
   .rfl
   .rw[A1 h]
   .rfl
   .rfl
   all_goals first|cases h|(rename_i hh;cases hh)
 | succ d i =>
   intro v w h;unfold DN at h;split at h
   .rw[eq_of_beq h]
   .obtain⟨h1,e⟩:=C5 h;rw[fB]at e;rw[lM h1,eq_of_beq e]
   .obtain⟨h1,e⟩:=C5 h;rw[A1 h1,A1 e]
   .obtain⟨h1,e⟩:=C5 h;rw[A1 h1,A1 e]
   .rename_i s t;have h1:=F4 h;cases s with|mk s=>cases t with|mk t=>cases s;cases t;cases h1;rfl
   .rfl
   .rw[rS h]
   .obtain⟨h1,e⟩:=C5 h;rw[A1 h1,A1 e]
   .obtain⟨h0,h⟩:=C5 h;obtain⟨h1,e⟩:=C5 h;rw[rS h0,A1 h1,A1 e]
   .rfl
   .rw[A1 h]
   .rfl
   .rfl
   .rename_i j f a b g a' b' he;cases he;obtain⟨h0,h⟩:=C5 h;obtain⟨h1,e⟩:=C5 h;rw[A12 h0,B9j (vF i h1),B9j (vF i e)]
   .rename_i j t v u w he;cases he;obtain⟨h1,e⟩:=C5 h;rw[A1 h1,i _ _ e]
   .cases h
def A3p{a b:AB}(h:A3q a b=true):a=b:=by
 unfold A3q at h;split at h
 .rfl
 .obtain⟨h0,h⟩:=C5 h;obtain⟨h1,d⟩:=C5 h;rw[vF (A3l 6) h0,A1 h1,eq_of_beq d]
 .cases h
def EY{H:Hp AB}{b:Nat}{ab:AB}(h:EZ H b ab=true):Hp.get H b=some ab/\b<=J0:=by
 unfold EZ at h;split at h
 .rename_i x a;obtain⟨h1,d⟩:=C5 h;exact⟨by rw[a,A3p d],A2 h1⟩
 .cases h
def xR{mv:Mem}{us:List Rec}(h:MX m r us=some mv):mv.n=xE/\mv.hi=xE/\mv.W=[]/\mv.lg=m.lg/\(∀ id,id<=J0->∀ ab,Hp.get mv.H id=some ab->r=some (id,ab))/\∀ b ab,r=some (b,ab)->EZ m.H b ab=true/\b ∉ aM us:=by
 obtain⟨H,n,W,hi,lg⟩:=m;unfold MX at h;simp only at h;cases r with
 | none =>
   cases h;exact⟨rfl,rfl,rfl,rfl,fun id _ ab a=>(by rw[wM]at a;cases a),fun b ab g=>by cases g⟩
 | some p =>
   obtain⟨b,f⟩:=p;simp only at h;cases d:cV (aM us) b || !(EZ H b f)with
   | true=>rw[d]at h;cases h
   | false =>
     rw[d,iO]at h;cases h;simp only[P1,Bool.not_eq_false']at d;have g:=(EY d.2).2;refine⟨rfl,rfl,rfl,rfl,fun id hid ab a=>?_,fun b' ab' i=>?_⟩
     .have a:Hp.get (Hp.set hp0 b (some f)) id=some ab:=a;rw[F5 _ _ _ _ g hid]at a;by_cases e:id=b
      .subst e;rw[A4 rfl]at a;cases a;rfl
      .rw[A3 e,wM]at a;cases a
     .cases i;exact⟨d.2,fun hm=>by rw[p9.2 hm]at d;exact absurd d.1 (by simp)⟩
def pL{fr:Fr}{o:Oper}{b:I9}{v:Value}{lg:Lg}(h:pM fr m o b rs op=some (v,lg)):∃ mv m',MX m (TS m.H fr o.op) (JI b rs)=some mv/\op.run fr mv=some (v,m')/\m'.W=[]/\m'.hi=xE/\m'.lg=lg:=by
 unfold pM at h;split at h
 .rename_i mv d;split at h
  .rename_i v' H n hi a hr;obtain⟨h1,e⟩:=A6 h;cases e;exact⟨mv,_,d,hr,rfl,A1 h1,rfl⟩
  .cases h
 .cases h
def IF{all:List Oper}{b:I9}{j:Bool}{o:Oper}{fr e:Fr}{v:Value}(a:l7 P base gl call)(h:PF P nt gl call all b rs j o fr e m m2 v):m.lg.le m2.lg:=by
 obtain⟨_,_,_,h⟩:=h;rcases h with⟨_,lg,hw,_,h⟩|⟨_,lg,i,hw,g,h⟩|⟨_,lg,hw,hr,_⟩|⟨_,_,lg,hw,mv,m',d,hr,_,f,hm⟩
 .rw[h];exact lF hw
 .obtain⟨mv,m',d,hr,_,_,k⟩:=pL g;have h1:=dA a hr;rw[(xR d).2.2.2.1,k]at h1;rw[h];exact(lF hw).trans h1
 .have h1:=dA a hr;rw[x3]at h1;exact(lF hw).trans h1
 .rw[SR hm];have h1:=dA a hr;rw[ZC d]at h1;exact(lF hw).trans h1
def Rg.lgs(g:Rg P base gl nt call ops F M V R X B)(a:l7 P base gl call){i:Nat}:∀ d,i+d<=ops.size->(M i).lg.le (M (i+d)).lg
 | 0,_=>.refl _
 | d+1,h=>by
   obtain⟨o,b⟩:=V6 (ops:=ops) (i:=i+d) A0;exact(g.lgs a d A0).trans (IF a (g.st (i+d) o b))
def Rg.who(g:Rg P base gl nt call ops F M V R X B)(f:Ph ops B M lo up):∀ d,lo+d<=up->∀ b,(M lo).n<=b->b<(M (lo+d)).n->∃ k,lo<=k/\k<lo+d/\(M k).n<=b/\b<(M (k+1)).n
 | 0,_,b,h1,a=>by have a:b<(M lo).n:=a;omega
 | d+1,h,b,h1,a=>by
   rcases G7 b (M (lo+d)).n with h3|h3
   .obtain⟨k,e,j,i⟩:=g.who f d A0 b h1 h3;exact⟨k,e,A0,i⟩
   .exact⟨lo+d,A0,A0,h3,a⟩
def EJ:∀ {rs:List Rec} {b:Nat},b ∈ aM rs↔∃ r ∈ rs,r.lo<=b/\b<r.hi
 | [],b=>by simp[aM]
 | r::rs,b=>by
   simp only[aM,B5,pT,EJ (rs:=rs),B7];constructor
   .rintro(h|⟨a,h1,d⟩)
    .exact⟨r,.inl rfl,A0⟩
    .exact⟨a,.inr h1,d⟩
   .rintro⟨a,rfl|h1,d⟩
    .exact .inl A0
    .exact .inr ⟨a,h1,d⟩
def Rg.recs(g:Rg P base gl nt call ops F M V R X B)(j:Ph ops B M lo up):∀ d,lo+d<=up->∀ k,lo<=k->k<lo+d->∀ b,(M k).n<=b->b<(M (k+1)).n->⟨k,(M k).n,(M (k+1)).n⟩ ∈ R (lo+d)
 | 0,_,k,_,h,_,_,_=>by omega
 | d+1,hi,k,hk,h,b,h1,f=>by
   obtain⟨o,l⟩:=V6 (ops:=ops) (i:=lo+d) (by have:=j.sz;omega);have a:=j.mx _ o A0 A0 l;show _ ∈ R (lo+d+1);by_cases e:k=lo+d
   .subst e;rcases g.rc (lo+d) o l with⟨_,lg,h3⟩|⟨h3,_⟩|h3
    .rw[h3]at f;have f:b<(M (lo+d)).n:=f;omega
    .rw[a]at h3;cases h3
    .rw[h3];exact C7
   .have:=g.recs j d A0 k hk A0 b h1 f;rcases g.rc (lo+d) o l with⟨h3,_⟩|⟨h3,_⟩|h3
    .rw[h3];exact this
    .rw[a]at h3;cases h3
    .rw[h3];exact D1 _ this
def A7m{mv:Mem}{us:List Rec}(h:HY m c us=some mv):mv.n=m.n/\mv.hi=m.hi/\mv.W=[]/\mv.lg=m.lg/\∀ id,id<=J0->∀ ab,Hp.get mv.H id=some ab->Hp.get m.H id=some ab/\id ∉ aM us:=by
 obtain⟨H,n,W,hi,lg⟩:=m;unfold HY at h;simp only at h;cases c with
 | free =>
   cases h;exact⟨rfl,rfl,rfl,rfl,fun id _ ab a=>by rw[wM]at a;cases a⟩
 | one b =>
   simp only at h;cases d:cV (aM us) b || !(Nat.ble b J0)with
   | true=>rw[d]at h;cases h
   | false =>
     rw[d,iO]at h;cases h;simp only[P1,Bool.not_eq_false']at d;have f:=A2 d.2;refine⟨rfl,rfl,rfl,rfl,fun id hid ab a=>?_⟩;have a:Hp.get (Hp.set hp0 b (Hp.get H b)) id=some ab:=a;rw[F5 _ _ _ _ f hid]at a;by_cases e:id=b
     .subst e;rw[A4 rfl]at a;exact⟨a,fun hm=>by rw[p9.2 hm]at d;exact absurd d.1 (by simp)⟩
     .rw[A3 e,wM]at a;cases a
 | all =>
   simp only at h;obtain⟨f,h⟩:=A6 h;cases h;refine⟨rfl,rfl,rfl,rfl,fun id hid ab a=>?_⟩;have a:Hp.get (JX H (aM us)) id=some ab:=a;rw[JW _ _ (yT f) id hid]at a;by_cases e:id ∈ aM us
   .rw[A4 e]at a;cases a
   .rw[A3 e]at a;exact⟨a,e⟩
def kR(M:Nat->Mem)(D:Nat->Bool)(b:Nat):Nat->Bool
 | 0=>false
 | n+1=>(D n && Nat.ble (M n).n b && Nat.blt b (M (n+1)).n) || kR M D b n
def c8{D:Nat->Bool}{b:Nat}:∀ n,kR M D b n=true↔∃ k,k<n/\D k=true/\(M k).n<=b/\b<(M (k+1)).n
 | 0=>by simp[kR]
 | n+1=>by
   simp only[kR,K6,I3,c8 n];constructor
   .rintro(⟨⟨h1,a⟩,h3⟩|⟨k,h1,a⟩)
    .exact⟨n,A0,h1,A2 a,A2 h3⟩
    .exact⟨k,A0,a⟩
   .rintro⟨k,h1,a,h3,d⟩
    by_cases e:k=n
    .subst e;exact .inl ⟨⟨a,D2 h3⟩,D2 d⟩
    .exact .inr ⟨k,A0,a,h3,d⟩
def Dr(lo:Nat)(D:Nat->Bool)(k:Nat):Bool:=Nat.ble lo k && D k
def x7{lo:Nat}{D:Nat->Bool}{k:Nat}:Dr lo D k=true↔lo<=k/\D k=true:=by
 unfold Dr;rw[I3];exact⟨fun h=>⟨A2 h.1,h.2⟩,fun h=>⟨D2 h.1,h.2⟩⟩
def GD(M:Nat->Mem)(lo N:Nat)(D:Nat->Bool)(b:Nat):Option AB:=bif kR M (Dr lo D) b N then Hp.get (M N).H b else Hp.get (M lo).H b
structure Inv (z:Zn) (P:Program) (base gl nt:Nat) (ops:Array Oper) (F:Nat->Fr) (M:Nat->Mem) (V:Nat->Value) (lo up:Nat) (ρ0:Ren) (w0:World) (D:Nat->Bool) (ρ:Ren) (a:Act) (w:World):Prop where
 ext:∀ b l,ρ0 b=some l->ρ b=some l
 new:∀ b l,ρ b=some l->ρ0 b=none->kR M (Dr lo D) b up=true/\(l.on=true->w0.heap.size<=l.blk)
 hr:HRf P base ρ (GD M lo up D) w
 keep:∀ k,k<w0.heap.size->w.heap[k]? = w0.heap[k]?
 size:w0.heap.size<=w.heap.size
 os:w.os=w0.os/\w.tape=w0.tape/\w.output=w0.output
 tch:∀ k,Ff ρ (GD M lo up D) k->w0.heap.size<=k∨Fp ρ0 (M lo).H k
 tsz:a.tmps.size=nt
 dfr:ZR z ρ nt (F 0) a.defers
 frm:∀ t,t<nt->VR ρ (dH D (fun k=>(ops[k]?).bind (·.dst)) V (F 0).get t ops.size) (a.tmps.getD t undef)
def Y9{i:Nat}{o:Oper}(h:ops[i]? = some o):ops.toList[i]? = some o:=by simpa using h
def lS{ops:List Oper}{a:List I9}:∀ (r:List Oper) (i:Nat),SI ops a r i=true->∀ j o,r[j]? = some o->sM (i+j) o.after.toList=true/\xN a (i+j) (o7 ops o) ops 0=true
 | [],i,h,j,o,hj=>by simp at hj
 | x::r,i,h,j,o,hj=>by
   obtain⟨h1,b⟩:=C5 (show(sM i x.after.toList && (xN a i (o7 ops x) ops 0 && SI ops a r (i+1)))=true from h);obtain⟨b,h3⟩:=C5 b;cases j with
   | zero=>simp at hj;subst hj;exact⟨h1,b⟩
   | succ j =>
     have:=lS r (i+1) h3 j o (by simpa using hj)
     rwa[show i+1+j=i+(j+1) by omega]at this
def jF:∀ {es:List Edge} {i:Nat},sM i es=true->∀ e ∈ es,Region.binds .any e=true->e.on<i
 | [],i,h,e,he,_=>by cases he
 | x::r,i,h,e,he,hb=>by
   obtain⟨h1,a⟩:=C5 (show((!(Region.binds .any x) || Nat.blt x.on i) && sM i r)=true from h);rcases B7.1 he with rfl|he
   .rw[hb]at h1;have h1:Nat.blt e.on i=true:=by simpa only [V8,R7]using h1
    exact A2 h1
   .exact jF a e he hb
def IK{b:List I9}{i:Nat}{d:List Tmp}:∀ (r:List Oper) (a:Nat),xN b i d r a=true->∀ j p t,r[j]? = some p->a+j≠i->p.dst=some t->t ∈ d->A8i b i (a+j)=true
 | [],a,h,j,p,t,hj,_,_,_=>by simp at hj
 | x::r,a,h,j,p,t,hj,hne,hd,ht=>by
   obtain⟨h1,g⟩:=C5 (show((Nat.beq a i || (match x.dst with|none=>true|some t=>!(cV d t) || A8i b i a)) && xN b i d r (a+1))=true from h);cases j with
   | zero =>
     simp at hj;subst hj;have f:Nat.beq a i=false:=by
      cases e:Nat.beq a i with
      | false=>rfl
      | true=>exact absurd (A1 e) hne
     rw[f,hd,R7]at h1;simp only[p9.2 ht,V8,R7]at h1;exact h1
   | succ j =>
     have:=IK r (a+1) g j p t (by simpa using hj) A0 hd ht
     rwa[show a+1+j=a+(j+1) by omega]at this
def Rg.slot(g:Rg P base gl nt call ops F M V R X B){D:Nat->Bool}(j:qY ops.toList fun k=>D k=true)(u:∀ k,D k=true->k<ops.size){i:Nat}{o:Oper}(f:ops[i]? = some o)(hi:D i=false)
  (hr:∀ e ∈ o.after.toList,Region.binds .any e=true->D e.on=true) {t:Tmp} (x:t ∈ o7 ops.toList o):∀ k p,ops[k]? = some p->k≠i->p.dst=some t->(D k=true↔k<i):=fun k p hp n v=>by
 have s:∀ (i:Nat) (o:Oper),ops.toList[i]? = some o->∀ e ∈ o.after.toList,Region.binds .any e=true->e.on<i:=fun i o f=>by
  have:=(lS _ 0 g.ok i o f).1;rw[G0]at this;exact jF this
 have h1:=(lS _ 0 g.ok i o (Y9 f)).2;have a:=IK _ 0 h1 k p t (Y9 hp) A0 v x;rw[G0,G0]at a;unfold A8i at a;rcases kO k i with d|heq|l
 .have b:Nat.blt i k=false:=by
   cases b:Nat.blt i k with
   | false=>rfl
   | true=>have:i<k:=A2 b;omega
  rw[b]at a;have hm:=p9.1 (by simpa using a);exact⟨fun _=>d,fun _=>GQ j s (i+1) i k o (K4 i) (Y9 f) hr hm⟩
 .exact absurd heq n
 .have b:Nat.blt i k=true:=D2 l;rw[b]at a;have hm:=p9.1 (by simpa using a);refine⟨fun w=>?_,fun h=>by omega⟩
  have:=GQ j s (k+1) k i p (K4 k) (Y9 hp) (fun e he q=>j k p (Y9 hp) w e he q) hm;rw[hi]at this;cases this
def Rg.frame(g:Rg P base gl nt call ops F M V R X B)(a:nt<=512){t:Tmp}(f:t<nt):∀ i,i<=ops.size->(F i).get t=dH (fun k=>Nat.blt k i) (fun k=>(ops[k]?).bind (·.dst)) V (F 0).get t i
 | 0,_=>rfl
 | i+1,h=>by
   obtain⟨o,j⟩:=V6 (ops:=ops) (i:=i) A0;obtain⟨h1,_,h3,_⟩:=g.st i o j;have l:=g.frame a f i A0;have q:dH (fun k=>Nat.blt k (i+1)) (fun k=>(ops[k]?).bind (·.dst)) V (F 0).get t i=dH (fun k=>Nat.blt k i) (fun k=>(ops[k]?).bind (·.dst)) V (F 0).get t i:=jA i fun k s _=>by
    rw[show Nat.blt k (i+1)=true from D2 A0,show Nat.blt k i=true from D2 s]
   have n:Nat.blt i (i+1)=true:=D2 (B0 _);rw[h3];unfold dH;rw[q,<- l];simp only[n,j,C4,true_and];cases p:o.dst with
   | none=>simp[BA]
   | some d =>
     rw[p]at h1;have b:d<nt:=A2 h1;simp only[BA,D9];rw[Q4 _ _ _ _ (E5 b a) (E5 f a)];by_cases e:t=d
     .subst e;simp
     .rw[A3 e,A3 (fun h=>e h.symm)]
def Rg.look(g:Rg P base gl nt call ops F M V R X B)(b:nt<=512){D:Nat->Bool}(u:qY ops.toList fun k=>D k=true)(a:∀ k,D k=true->k<ops.size){i:Nat}{o:Oper}(l:ops[i]? = some o)(hi:D i=false)
  (hr:∀ e ∈ o.after.toList,Region.binds .any e=true->D e.on=true) {t:Tmp} (z:t ∈ o7 ops.toList o) (j:t<nt):dH D (fun k=>(ops[k]?).bind (·.dst)) V (F 0).get t ops.size=(F i).get t:=by
 have y:i<ops.size:=(E4.1 l).1;rw[g.frame b j i A0];have s:=g.slot u a l hi hr z;have w:dH D (fun k=>(ops[k]?).bind (·.dst)) V (F 0).get t ops.size=dH (fun k=>Nat.blt k i) (fun k=>(ops[k]?).bind (·.dst)) V (F 0).get t ops.size:=jA _ fun k x f=>by
  obtain⟨p,hp⟩:=V6 (ops:=ops) x;rw[hp]at f;by_cases e:k=i
  .subst e;rw[hi];symm;cases v:Nat.blt k k with
   | false=>rfl
   | true=>have:k<k:=A2 v;omega
  .have:=s k p hp e f;rw[N0,this];exact⟨fun h=>D2 h,fun h=>A2 h⟩
 rw[w];have q:∀ d,i+d<=ops.size->dH (fun k=>Nat.blt k i) (fun k=>(ops[k]?).bind (·.dst)) V (F 0).get t (i+d)=dH (fun k=>Nat.blt k i) (fun k=>(ops[k]?).bind (·.dst)) V (F 0).get t i:=by
  intro d;induction d with
  | zero=>intro _;rfl
  | succ d n =>
    intro f;rw[show i+(d+1)=(i+d)+1 by omega];rw[dH,A3 (fun hh=>by have:i+d<i:=A2 hh.1;omega)];exact n A0
 have:=q (ops.size-i) A0
 rwa[show i+(ops.size-i)=ops.size by omega]at this
def CW{o:Oper}{x:Operand}{t:Tmp}(b:x ∈ o.op.operands.toList)(a:x=.tmp t):t ∈ o7 ops.toList o:=by
 unfold o7;refine B5.2 (.inr (B5.2 (.inl (List.mem_flatMap.2 ⟨x,b,?_⟩))));subst a;simp[uW]
def Rg.see{z:Zn}(g:Rg P base gl nt call ops F M V R X B)(b:Ph ops B M lo up){y ρ:Ren}{w0 w:World}{D:Nat->Bool}{a:Act}{i:Nat}{o:Oper}
  (q:At P base gl y (M lo) (M up).hi w0) (G:qY ops.toList fun k=>D k=true) (f:lo<=i) (A:i<up) (h:ops[i]? = some o)
  (hr:∀ e ∈ o.after.toList,Region.binds .any e=true->D e.on=true):∀ id,id<=J0->∀ ab,Hp.get (M i).H id=some ab->id ∉ aM (JI ((y7 ops.toList []).getD i []) (R i))->GD M lo up D id=some ab:=fun id hid ab h1 L=>by
 unfold GD;by_cases d:(M lo).n<=id/\id<(M i).n
 .obtain⟨k,u,Q,t,s⟩:∃ k,lo<=k/\k<i/\(M k).n<=id/\id<(M (k+1)).n:=by
   have:=g.who b (i-lo) A0 id d.1 (by rw[show lo+(i-lo)=i by omega];exact d.2)
   rwa[show lo+(i-lo)=i by omega]at this
  have x:D k=true:=by
   have p:(⟨k,(M k).n,(M (k+1)).n⟩:Rec) ∈ R i:=by
    have:=g.recs b (i-lo) A0 k u A0 id t s
    rwa[show lo+(i-lo)=i by omega]at this
   by_cases E:k ∈ (y7 ops.toList []).getD i []
   .exact GQ G (fun i o h=>by
     have:=(lS _ 0 g.ok i o h).1;rw[G0]at this;exact jF this) (i+1) i k o (K4 i) (Y9 h) hr E
   .exfalso;refine L (EJ.2 ⟨_,X5.2 ⟨p,?_⟩,t,s⟩);cases v:cV ((y7 ops.toList []).getD i []) k with
    | false=>rfl
    | true=>exact absurd (p9.1 v) E
  have hu:kR M (Dr lo D) id up=true:=(c8 _).2 ⟨k,A0,x7.2 ⟨u,x⟩,t,s⟩;rw[hu];simp only[F7];rw[(g.le b (i:=i) (j:=up) f A0 (B0 _)).2.2 id hid d.2];exact h1
 .have N:=(g.all b f A0).2.2.2.2 id hid A0;rw[N]at h1;have hu:kR M (Dr lo D) id up=false:=by
   cases v:kR M (Dr lo D) id up with
   | false=>rfl
   | true =>
     exfalso;obtain⟨k,Q,K,t,s⟩:=(c8 _).1 v;have u:=(x7.1 K).1;obtain⟨l,C,_⟩:=q.hr.at_ id hid ab h1;have J:=g.le b (i:=lo) (j:=k) (B0 _) u A0;have I:=g.le b (i:=k+1) (j:=up) A0 A0 (B0 _);have O:=(g.all b b.le (B0 _)).2.2.1;rw[q.fr id A0 A0]at C;cases C
  rw[hu];exact h1
def Rg.quiet{z:Zn}(g:Rg P base gl nt call ops F M V R X B)(E:l7 P base gl call){L ρ:Ren}{w0 w:World}{D D':Nat->Bool}{a:Act}{i:Nat}{o:Oper}{Q:Exit->Act->World->Prop}{K:Act->World->Prop}
  (u:At P base gl L (M lo) (M up).hi w0) (hS:Sat (M (i+1)).lg) (ag:nt<=512) (inv:Inv z P base gl nt ops F M V lo up L w0 D ρ a w) (hc:qY ops.toList fun k=>D k=true) (au:∀ k,D k=true->k<ops.size) (U:ops[i]? = some o) (hi:D i=false)
  (hr:∀ e ∈ o.after.toList,Region.binds .any e=true->D e.on=true) (hD:∀ k,k≠i->D' k=D k) (aa:D' i=true)
  (aq:gQ nt ops.toList (t7 P call o) ((y7 ops.toList []).getD i []) (R i) (F i) o (M i) (M (i+1)) (V i) r) (al:∀ b ab,r=some (b,ab)->GD M lo up D b=some ab)
  (hK:∀ q a' w',Inv z P base gl nt ops F M V lo up L w0 D' q a' w'->K a' w'):lE P z.rd ops Q i K a w:=by
 have bz:i<ops.size:=(E4.1 U).1;obtain⟨bx,aj,hF,_⟩:=g.st i o U;have I:∀ t,t ∈ o7 ops.toList o->t<nt->VR ρ ((F i).get t) (a.tmps.getD t undef):=fun t T ar=>by
  rw[<- g.look ag hc au U hi hr T ar];exact inv.frm t ar
 have ae:FR ρ (F i) a.eval o.op:=fun x hx=>by
  have ay:okX nt gl x=true:=D7.1 aj x hx;cases x with
  | tmp t=>exact I t (CW hx rfl) (A2 ay)
  | const v=>exact VR.ofC ay
  | global gg=>exact VR.ptr (o:=0) (inv.ext _ _ (u.gr gg (A2 ay)))
  | func f=>exact .func (a:=[]) (b:=[]) (a':=[]) (b':=[]) rfl rfl (fun i v v' h=>by simp at h) (fun i v v' h=>by simp at h)
 have J:∀ lg b,dX nt (F i) (M i).lg ops.toList o=some (b,lg)->Sat lg->Region.wanted o (yielded ops a.tmps)=b:=fun lg b hw G=>by
  unfold dX at hw;split at hw
  .rename_i hg;cases hw;simp[Region.wanted,hg]
  .rename_i j want hg;split at hw
   .rename_i p hp;split at hw
    .rename_i t T;obtain⟨h1,s⟩:=A6 hw;have h1:t<nt:=A2 h1;have hv:=I t (by
      unfold o7;refine B5.2 (.inr (B5.2 (.inr ?_)));simp[hg,hp,T]) h1
     exact rA hg hp T (by rw[inv.tsz];exact h1) (uL s hv G)
    .cases hw
   .cases hw
 have y:∀ (q:Ren) (v':Value),(∀ b l,ρ b=some l->q b=some l)->VR q (V i) v'->∀ t,t<nt->VR q (dH D' (fun k=>(ops[k]?).bind (·.dst)) V (F 0).get t ops.size) ((a.put o.dst v').tmps.getD t undef):=fun q v' he hv t T=>by
  by_cases hd:o.dst=some t
  .have S:∀ k,i<k->k<ops.size->(ops[k]?).bind (·.dst)=some t->D k=false:=fun k bw A av=>by
    obtain⟨p,hp⟩:=V6 (ops:=ops) A;rw[hp]at av
    have:=g.slot hc au U hi hr (t:=t) (by unfold o7;simp[hd]) k p hp A0 av;cases hq:D k with
    | false=>rfl
    | true=>have:=this.1 hq;omega
   rw[wQ hD aa ops.size bz (by simp[U,hd]) S];simp only[hd,Act.put,C6];rw[H4,A4 rfl,A4 (by rw[inv.tsz];exact T)];exact hv
  .rw[tP hD (by simp[U];exact hd)];have h1:=(inv.frm t T).mono he;cases az:o.dst with
   | none=>exact h1
   | some d =>
     have ai:d≠t:=fun e=>hd (e▸az)
     simp only[Act.put,C6]at h1 ⊢;rw[H4,A3 ai];exact h1
 have hM:∃ lg,M (i+1)=(M i).wLg lg:=by
  rcases aq with⟨lg,_,_,h,_⟩|⟨_,aw,_,_,h,_⟩
  .exact⟨lg,h⟩
  .exact⟨aw,h⟩
 have hG:GD M lo up D'=GD M lo up D:=by
  funext b;unfold GD;have:kR M (Dr lo D') b up=kR M (Dr lo D) b up:=by
   obtain⟨lg,hm⟩:=hM;rw[N0,c8,c8];constructor
   .rintro⟨k,h1,s,h3,h4⟩
    have e:k≠i:=fun e=>by
     subst e;rw[hm]at h4;have h4:b<(M k).n:=h4;omega
    obtain⟨W,s⟩:=x7.1 s;rw[hD k e]at s;exact⟨k,h1,x7.2 ⟨W,s⟩,h3,h4⟩
   .rintro⟨k,h1,s,h3⟩
    obtain⟨W,s⟩:=x7.1 s;have e:k≠i:=fun e=>by subst e;rw[hi]at s;cases s
    exact⟨k,h1,x7.2 ⟨W,by rw[hD k e];exact s⟩,h3⟩
  rw[this]
 have N:∀ b l,ρ b=some l->L b=none->kR M (Dr lo D') b up=true/\(l.on=true->w0.heap.size<=l.blk):=fun b l h1 s=>by
  obtain⟨k1,k2⟩:=inv.new b l h1 s;obtain⟨k,q1,q2,q3⟩:=(c8 _).1 k1;obtain⟨an,q2⟩:=x7.1 q2;have e:k≠i:=fun e=>by subst e;rw[hi]at q2;cases q2
  exact⟨(c8 _).2 ⟨k,q1,x7.2 ⟨an,by rw[hD k e];exact q2⟩,q3⟩,k2⟩
 unfold lE;simp only[U];rcases aq with⟨lg,hw,hv,hm,_⟩|⟨lg,aw,hw,hq,hm,ah⟩
 .have G:Sat lg:=by rw[hm]at hS;exact hS
  rw[J lg false hw G];simp only[L2,if_false];refine hK ρ _ w ⟨inv.ext,N,hG▸inv.hr,inv.keep,inv.size,inv.os,hG▸inv.tch,?_,?_,y ρ undef (fun _ _ h=>h) (hv▸uM ρ)⟩
  .cases az:o.dst<;>simp[Act.put,inv.tsz]
  .rw[iP];exact inv.dfr
 .obtain⟨mv,m',Z,O,hW,ao,hl⟩:=pL hq;obtain⟨v1,v2,v3,v4,v5,_⟩:=xR Z;have ax:Sat m'.lg:=by rw[hm]at hS;rw[hl];exact hS
  have G:Sat lg:=V3.le ax (by have:=dA E O;rw[v4]at this;exact this);rw[J lg true hw G];simp only[if_true];have af:HR P base ρ mv.H w:=inv.hr.hr fun id hid ab Y=>al id ab (ah.trans (v5 id hid ab Y))
  have ad:At P base gl ρ mv m'.hi w:=⟨af,B9 u.bs inv.size,fun b h1 s=>(by rw[v1]at h1;rw[ao]at s;omega),u.gr.mono inv.ext,(by rw[v1,v2];exact B0 _),fun b hb=>(by rw[v3]at hb;cases hb),fun k o A=>⟨(u.gf k o A).1,(inv.keep k (E5 (u.gf k o A).1 u.bs)).trans (u.gf k o A).2⟩⟩;refine vC E O ax ad ae fun v' q w' hv st=>?_
  have ak:q=ρ:=by
   funext b;cases h0:ρ b with
   | some l=>exact st.ext b l h0
   | none =>
     cases h1:q b with
     | none=>rfl
     | some l =>
       exfalso;have s:=(st.new b l h1 h0).1;have h3:=st.hr.dom b l h1;rw[v1]at s;unfold xE at s;unfold J0 at h3;omega
  subst ak;have C:∀ k,k<w.heap.size->w'.heap[k]? = w.heap[k]? := fun k A=>st.keep k A fun b hb=>by rw[hW]at hb;cases hb
  refine hK q _ w' ⟨inv.ext,N,hG▸⟨inv.hr.dom,fun id hid ab Y=>?_⟩,fun k A=>by rw[C k (E5 A inv.size),inv.keep k A],B9 inv.size st.size,⟨st.os.1.trans inv.os.1,st.os.2.1.trans inv.os.2.1,st.os.2.2.trans inv.os.2.2⟩,hG▸inv.tch,?_,?_,y q v' (fun _ _ h=>h) hv⟩
  .obtain⟨l,e1,e2,e3⟩:=inv.hr.at_ id hid ab Y;exact⟨l,e1,e2.mono (fun _ _ h=>h) (fun k A=>C _ (e2.tc A)),e3⟩
  .cases az:o.dst<;>simp[Act.put,inv.tsz]
  .rw[iP];exact inv.dfr
def Rg.step{z:Zn}(g:Rg P base gl nt call ops F M V R X B)(ph:Ph ops B M lo up)(S:l7 P base gl call){ao ρ:Ren}{w0 w:World}{D D':Nat->Bool}{a:Act}{i:Nat}{o:Oper}{Q:Exit->Act->World->Prop}{K:Act->World->Prop}
  (I:At P base gl ao (M lo) (M up).hi w0) (hS:Sat (M up).lg) (bd:nt<=512) (inv:Inv z P base gl nt ops F M V lo up ao w0 D ρ a w) (hc:qY ops.toList fun k=>D k=true) (bx:∀ k,D k=true->k<ops.size) (az:lo<=i) (ar:i<up) (W:ops[i]? = some o) (hi:D i=false)
  (hr:∀ e ∈ o.after.toList,Region.binds .any e=true->D e.on=true) (hD:∀ k,k≠i->D' k=D k) (bo:D' i=true)
  (br:¬∃ r,gQ nt ops.toList (t7 P call o) ((y7 ops.toList []).getD i []) (R i) (F i) o (M i) (M (i+1)) (V i) r)
  (hK:∀ C a' w',Inv z P base gl nt ops F M V lo up ao w0 D' C a' w'->K a' w'):lE P z.rd ops Q i K a w:=by
 have cy:i<ops.size:=(E4.1 W).1;obtain⟨cu,bh,hF,af⟩:=g.st i o W;have aa:=ph.mx i o az ar W;have ct:=ph.sz;have cr:=g.le ph (i:=lo) (j:=i) (B0 _) az A0;have bm:=g.le ph (i:=i+1) (j:=up) A0 A0 (B0 _);have cw:=g.one W aa (g.all ph az A0).2.2.1;have aq:∀ t,t ∈ o7 ops.toList o->t<nt->VR ρ ((F i).get t) (a.tmps.getD t undef):=fun t ht bu=>by
  rw[<- g.look bd hc bx W hi hr ht bu];exact inv.frm t bu
 have ba:FR ρ (F i) a.eval o.op:=fun x hx=>by
  have ag:okX nt gl x=true:=D7.1 bh x hx;cases x with
  | tmp t=>exact aq t (CW hx rfl) (A2 ag)
  | const v=>exact VR.ofC ag
  | global gg=>exact VR.ptr (o:=0) (inv.ext _ _ (I.gr gg (A2 ag)))
  | func f=>exact .func (a:=[]) (b:=[]) (a':=[]) (b':=[]) rfl rfl (fun i v v' h=>by simp at h) (fun i v v' h=>by simp at h)
 have ae:∀ lg b,dX nt (F i) (M i).lg ops.toList o=some (b,lg)->Sat lg->Region.wanted o (yielded ops a.tmps)=b:=fun lg b hw ai=>by
  unfold dX at hw;split at hw
  .rename_i hg;cases hw;simp[Region.wanted,hg]
  .rename_i j want hg;split at hw
   .rename_i p hp;split at hw
    .rename_i t ht;obtain⟨h1,u⟩:=A6 hw;have h1:t<nt:=A2 h1;have hv:=aq t (by
      unfold o7;refine B5.2 (.inr (B5.2 (.inr ?_)));simp[hg,hp,ht]) h1
     exact rA hg hp ht (by rw[inv.tsz];exact h1) (uL u hv ai)
    .cases hw
   .cases hw
 have an:∀ (C:Ren) (v':Value),(∀ b l,ρ b=some l->C b=some l)->VR C (V i) v'->∀ t,t<nt->VR C (dH D' (fun k=>(ops[k]?).bind (·.dst)) V (F 0).get t ops.size) ((a.put o.dst v').tmps.getD t undef):=fun C v' he hv t ht=>by
  by_cases hd:o.dst=some t
  .have ak:∀ k,i<k->k<ops.size->(ops[k]?).bind (·.dst)=some t->D k=false:=fun k cp Z bz=>by
    obtain⟨p,hp⟩:=V6 (ops:=ops) Z;rw[hp]at bz
    have:=g.slot hc bx W hi hr (t:=t) (by unfold o7;simp[hd]) k p hp A0 bz;cases hq:D k with
    | false=>rfl
    | true=>have:=this.1 hq;omega
   rw[wQ hD bo ops.size cy (by simp[W,hd]) ak];simp only[hd,Act.put,C6];rw[H4,A4 rfl,A4 (by rw[inv.tsz];exact ht)];exact hv
  .rw[tP hD (by simp[W];exact hd)];have h1:=(inv.frm t ht).mono he;cases bq:o.dst with
   | none=>exact h1
   | some d =>
     have bg:d≠t:=fun e=>hd (e▸bq)
     simp only[Act.put,C6]at h1 ⊢;rw[H4,A3 bg];exact h1
 have O:∀ b,kR M (Dr lo D') b up=true↔(kR M (Dr lo D) b up=true∨((M i).n<=b/\b<(M (i+1)).n)):=fun b=>by
  rw[c8,c8];constructor
  .rintro⟨k,h1,u,h3⟩
   obtain⟨ah,u⟩:=x7.1 u;by_cases e:k=i
   .subst e;exact .inr h3
   .rw[hD k e]at u;exact .inl ⟨k,h1,x7.2 ⟨ah,u⟩,h3⟩
  .rintro(⟨k,h1,u,h3⟩|h3)
   .obtain⟨ah,u⟩:=x7.1 u;have e:k≠i:=fun e=>by subst e;rw[hi]at u;cases u
    exact⟨k,h1,x7.2 ⟨ah,by rw[hD k e];exact u⟩,h3⟩
   .exact⟨i,ar,x7.2 ⟨az,bo⟩,h3⟩
 unfold lE;simp only[W];have bt:Sat (M (i+1)).lg:=V3.le hS (by have:=g.lgs S (i:=i+1) (up-(i+1)) A0;rwa[show i+1+(up-(i+1))=up by omega]at this);rcases af with⟨_,lg,hw,hv,hm⟩|⟨_,lg,bj,hw,hq,hm⟩|⟨bn,_⟩|⟨_,_,lg,hw,mv,m',av,al,hW,bl,U⟩
 .exact absurd ⟨_,.inl ⟨lg,hw,hv,hm,rfl⟩⟩ br
 .exact absurd ⟨_,.inr ⟨lg,bj,hw,hq,hm,rfl⟩⟩ br
 .rw[aa]at bn;cases bn
 .have ad:Sat m'.lg:=by rw[SR U]at bt;exact bt
  have ai:Sat lg:=V3.le ad (by have:=dA S al;rw[ZC av]at this;exact this);rw[ae lg true hw ai];simp only[if_true];obtain⟨v1,v2,v3,_,v4⟩:=A7m av;have v1:mv.n=(M i).n:=v1;have v2:mv.hi=(M i).hi:=v2;have v4:∀ id,id<=J0->∀ ab,Hp.get mv.H id=some ab->Hp.get (M i).H id=some ab/\id ∉ aM (JI ((y7 ops.toList []).getD i []) (R i)):=v4;have aj:=(g.all ph az A0).2.2.1;obtain⟨q1,q2,q3,q4,q5,q6,_,q7⟩:=SQ U aj bl;have q1:(M i).n<=(M (i+1)).n:=q1;have q5:(M (i+1)).n=m'.hi∨((M (i+1)).n=(M i).n/\m'.hi<=(M i).n):=q5;have q7:∀ id,id<=J0->Hp.get (M (i+1)).H id=if(M i).n<=id/\id<(M (i+1)).n then Hp.get m'.H id else Hp.get (M i).H id:=q7
  have J:∀ id,id<=J0->∀ ab,Hp.get mv.H id=some ab->GD M lo up D id=some ab:=fun id hid ab y=>by
   obtain⟨h1,u⟩:=v4 id hid ab y;exact g.see (z:=z) (a:=a) (ρ:=ρ) (w:=w) ph I hc az ar W hr id hid ab h1 u
  have bc:HR P base ρ mv.H w:=inv.hr.hr J;have T:M8 ρ mv.n m'.hi:=fun b h1 u=>by
   rw[v1]at h1;cases hb:ρ b with
   | none=>rfl
   | some l =>
     exfalso;cases h0:ao b with
     | some l0 =>
       rw[I.fr b A0 A0]at h0;cases h0
     | none =>
       obtain⟨k,k1,k2,k3,k4⟩:=(c8 _).1 (inv.new b l hb h0).1;obtain⟨k0,k2⟩:=x7.1 k2;have cq:k≠i:=fun e=>by subst e;rw[hi]at k2;cases k2
       rcases G7 k i with bp|bp
       .have:=(g.le ph (i:=k+1) (j:=i) A0 A0 A0).1;omega
       .have:=(g.le ph (i:=i+1) (j:=k) A0 A0 A0).1;rcases q5 with q5|⟨_,q5⟩<;>omega
  have cz:At P base gl ρ mv m'.hi w:=⟨bc,B9 I.bs inv.size,T,I.gr.mono inv.ext,(by rw[v1,v2];exact aj),fun b hb=>(by rw[v3]at hb;cases hb),fun k o Z=>⟨(I.gf k o Z).1,(inv.keep k (E5 (I.gf k o Z).1 I.bs)).trans (I.gf k o Z).2⟩⟩;refine vC S al ad cz ba fun v' C w' hv st=>hK C _ w' ?_
  have ax:∀ k,k<w.heap.size->w'.heap[k]? = w.heap[k]? := fun k Z=>st.keep k Z fun b hb=>by rw[hW]at hb;cases hb
  have cv:m'.n<=m'.hi:=st.nhi (by rw[v1,v2];exact aj);have aw:∀ b l,C b=some l->ρ b=none->((M i).n<=b/\b<(M (i+1)).n)/\(l.on=true->w.heap.size<=l.blk):=fun b l h1 u=>by
   have h3:=st.new b l h1 u;rw[v1]at h3;refine⟨⟨h3.1,?_⟩,?_⟩
   .rcases q5 with q5|⟨_,q5⟩<;>omega
   .intro W;rcases st.blk b l h1 u W with h|⟨b0,h,_⟩
    .exact h
    .rw[hW]at h;cases h
  have au:∀ id,id<=J0->(M i).n<=id->id<(M (i+1)).n->GD M lo up D' id=Hp.get m'.H id/\ρ id=none:=fun id hid h1 u=>by
   constructor
   .unfold GD;rw[(O id).2 (.inr ⟨h1,u⟩)];simp only[F7];rw[bm.2.2 id hid u,q7 id hid,A4 ⟨h1,u⟩]
   .refine T id (by rw[v1];exact h1) ?_;rcases q5 with q5|⟨q5,_⟩
    .omega
    .rw[q5]at u;omega
  have Y:∀ id,¬ ((M i).n<=id/\id<(M (i+1)).n)->GD M lo up D' id=GD M lo up D id:=fun id hid=>by
   unfold GD;have:kR M (Dr lo D') id up=kR M (Dr lo D) id up:=by
    rw[N0,O id];exact⟨fun h=>h.elim (fun h=>h) (fun h=>absurd h hid),.inl⟩
   rw[this]
  have bb:∀ k,Ff C (GD M lo up D') k->w.heap.size<=k∨Ff ρ (GD M lo up D) k:=fun k ⟨id,ab,l,hid,y,hl,ht⟩=>by
   by_cases hI:(M i).n<=id/\id<(M (i+1)).n
   .rw[(au id hid hI.1 hI.2).1]at y;rcases st.tch k ⟨id,ab,l,hid,y,hl,ht⟩with h|⟨A,ay,l0,e1,e2,e3,e4⟩
    .exact .inl h
    .exact .inr ⟨A,ay,l0,e1,J A e1 ay e2,e3,e4⟩
   .rw[Y id hI]at y;obtain⟨l3,c1,_⟩:=inv.hr.at_ id hid ab y;rw[st.ext id l3 c1]at hl
    have:=A9 hl;subst this;exact .inr ⟨id,ab,l3,hid,y,c1,ht⟩
  refine⟨fun b l h=>st.ext b l (inv.ext b l h),fun b l h1 u=>?_,⟨st.hr.dom,fun id hid ab y=>?_⟩,fun k Z=>by rw[ax k (E5 Z inv.size),inv.keep k Z],B9 inv.size st.size,⟨st.os.1.trans inv.os.1,st.os.2.1.trans inv.os.2.1,st.os.2.2.trans inv.os.2.2⟩,fun k Z=>(bb k Z).elim (fun h=>.inl (B9 inv.size h)) (inv.tch k),?_,?_,an C v' st.ext hv⟩
  .cases h0:ρ b with
   | some l1 =>
     rw[st.ext b l1 h0]at h1
     have:=A9 h1;subst this;exact⟨(O b).2 (.inl (inv.new b l1 h0 u).1),(inv.new b l1 h0 u).2⟩
   | none =>
     have:=aw b l h1 h0;exact⟨(O b).2 (.inr this.1),fun W=>B9 inv.size (this.2 W)⟩
  .by_cases hI:(M i).n<=id/\id<(M (i+1)).n
   .obtain⟨h1,u⟩:=au id hid hI.1 hI.2;rw[h1]at y;obtain⟨l,e1,e2,e3⟩:=st.hr.at_ id hid ab y;refine⟨l,e1,e2,fun N E=>⟨(e3 N E).1,fun q s L l2 f1 f2 f3=>?_⟩⟩;by_cases G:(M i).n<=q/\q<(M (i+1)).n
    .rw[(au q s G.1 G.2).1]at f1;exact(e3 N E).2 q s L l2 f1 f2 f3
    .rw[Y q G]at f1;obtain⟨l3,c1,c2,_⟩:=inv.hr.at_ q s L f1;rw[st.ext q l3 c1]at f2
     have:=A9 f2;subst this;have h5:=c2.tc f3;have h6:=(aw id l e1 u).2 E;omega
   .rw[Y id hI]at y;obtain⟨l,e1,e2,e3⟩:=inv.hr.at_ id hid ab y;refine⟨l,st.ext _ _ e1,e2.mono st.ext (fun k Z=>ax _ (e2.tc Z)),fun N E=>⟨(e3 N E).1,fun q s L l2 f1 f2 f3=>?_⟩⟩;by_cases G:(M i).n<=q/\q<(M (i+1)).n
    .exfalso;rw[(au q s G.1 G.2).1]at f1;have bk:L.fr=true:=by
      cases hq:L.fr with
      | true=>rfl
      | false =>
        exfalso;rcases f3 with⟨_,h1,u⟩|⟨h1,_⟩
        .have h5:=(aw q l2 f2 (au q s G.1 G.2).2).2 h1;have h6:=e2.tc (.inl ⟨AB.rw_on N,E,rfl⟩);omega
        .rw[h1]at hq;cases hq
     rcases st.tch _ ⟨q,L,l2,s,f1,f2,bk,f3⟩with h|⟨A,ay,l0,c1,c2,c3,_,c4⟩
     .have:=e2.tc (.inl ⟨AB.rw_on N,E,rfl⟩);omega
     .have h7:=(e3 N E).2 A c1 ay l0 (J A c1 ay c2) c3 c4;subst h7;have h8:=J A c1 ay c2;rw[y]at h8;have h8:=A9 h8;subst h8;have h9:A<mv.n∨m'.hi<=A:=by
       rcases G7 A mv.n with h|h
       .exact .inl h
       .rcases G7 A m'.hi with h'|h'
        .rw[T A h h']at e1;cases e1
        .exact .inr h'
      have bw:=st.same A c1 (by rw[hW];simp) h9;rw[c2]at bw;obtain⟨_,bf⟩:=st.hr.atl (st.ext _ _ e1) bw
      have:=(bf N E).2 q s L l2 f1 f2 f3;subst this;exact hI G
    .rw[Y q G]at f1;obtain⟨l3,c1,_⟩:=inv.hr.at_ q s L f1;rw[st.ext q l3 c1]at f2
     have:=A9 f2;subst this;exact(e3 N E).2 q s L l3 f1 c1 f3
  .cases bq:o.dst<;>simp[Act.put,inv.tsz]
  .rw[iP];exact inv.dfr.congr st.ext fun _=>⟨rfl,rfl⟩
end
end
section
open Go
variable [Ora]
def KM:∀ (l:List Bool) (i:Nat),l[i]? = some false->(l.set i true).countP (fun b=>!b)+1=l.countP (fun b=>!b)
 | [],i,h=>by simp at h
 | b::r,0,h=>by simp at h;subst h;simp
 | b::r,i+1,h=>by
   have:=KM r i (by simpa using h);rw[List.set_cons_succ,List.countP_cons,List.countP_cons];omega
def YF{l:List Bool}(h:l.countP (fun b=>!b)=0):∀ i,i<l.length->l[i]? = some true:=fun i hi=>by
 rw[List.countP_eq_zero]at h
 have:=h l[i] (S6 hi);rw[A7 hi];cases a:l[i]with
 | true=>rfl
 | false=>rw[a]at this;exact absurd rfl this
section
variable {P:Program} {base gl:Nat} {call:U1}
def A5U(h:pS m m'=some m2)(a:m.hi<=m'.hi):m.hi<=m2.hi:=by
 unfold pS at h;cases b:Nat.ble m'.hi m.n with
 | true=>rw[b]at h;cases h;exact B0 _
 | false =>
   rw[b]at h;obtain⟨_,h⟩:=A6 h;simp only[G5,hH]at h;cases h;exact a
def GK:∀ {n:Nat} {b:I9} {a:Qs},OZ n b a=true->∀ k,k<n->k ∈ b∨∃ q ∈ a,q.1=k
 | 0,_,_,_,k,h=>by omega
 | n+1,b,a,h,k,hk=>by
   obtain⟨h1,g⟩:=C5 (show((cV b n || a.any fun q=>Nat.beq n q.1) && OZ n b a)=true from h);by_cases e:k=n
   .subst e;rcases K6 _ _▸h1 with h1|h1
    .exact .inl (p9.1 h1)
    .obtain⟨q,d,f⟩:=Y7.1 h1;exact .inr ⟨q,d,(A1 f).symm⟩
   .exact GK g k A0
def ES:∀ {i:Nat} {bs:List I9} {r:List Oper},NO i bs r=true->∀ (j:Nat) (c:List Nat) (o:Oper),bs[j]? = some c->r[j]? = some o->i ∈ c∨dC o.op=true
 | _,[],_,_,j,c,o,h,_=>by simp at h
 | _,_::_,[],_,j,c,o,_,h=>by simp at h
 | i,c0::bs,o0::r,h,j,c,o,h1,h2=>by
   obtain⟨a,b⟩:=C5 (show((cV c0 i || dC o0.op) && NO i bs r)=true from h);cases j with
   | zero =>
     simp at h1 h2;subst h1;subst h2;rcases K6 _ _▸a with a|a
     .exact .inl (p9.1 a)
     .exact .inr a
   | succ j=>exact ES b j c o (by simpa using h1) (by simpa using h2)
def MF{ops:Array Oper}{X:Nat->Qs}{i:Nat}{o:Oper}(h:A7z ops X i o=true):dC o.op=false:=by
 obtain⟨h,_⟩:=C5 (show(wrO o.op && _)=true from h);cases a:o.op<;>rw[a]at h<;>first
  | rfl
  | cases h
def WO{ops:Array Oper}{X:Nat->Qs}{i:Nat}{o:Oper}(h:A7z ops X i o=true):∀ k,k<i->k ∈ (y7 ops.toList []).getD i []∨∃ q ∈ X i,q.1=k:=by
 obtain⟨_,h⟩:=C5 (show(wrO o.op && _)=true from h);obtain⟨h,_⟩:=C5 h;exact GK h
def WN{ops:Array Oper}{X:Nat->Qs}{i:Nat}{o:Oper}(h:A7z ops X i o=true):∀ j p,i<j->ops[j]? = some p->i ∈ (y7 ops.toList []).getD j []∨dC p.op=true:=fun j p g hp=>by
 obtain⟨_,h⟩:=C5 (show(wrO o.op && _)=true from h);obtain⟨_,h⟩:=C5 h;obtain⟨e,b,d,_⟩:=yV ops.toList [];have hlen:(y7 ops.toList []).length=ops.size:=by rw[b];simpa using d
 have f:j<ops.size:=(E4.1 hp).1;have a:j<(y7 ops.toList []).length:=A0
 have:=ES h (j-(i+1)) (y7 ops.toList [])[j] p (by rw[J7,show i+1+(j-(i+1))=j by omega,A7 a]) (by rw[J7,show i+1+(j-(i+1))=j by omega];exact Y9 hp);rw[B4,A7 a];exact this
def xW(ops:Array Oper)(B:Nat->Bool):∀ (d lo:Nat),lo+d=ops.size->∃ up,lo<=up/\up<=ops.size/\(∀ i o,lo<=i->i<up->ops[i]? = some o->B i=false)/\(up<ops.size->∃ o,ops[up]? = some o/\B up=true)
 | 0,lo,h=>⟨lo,B0 _,A0,fun i o h1 f=>by omega,fun f=>by omega⟩
 | d+1,lo,h=>by
   obtain⟨o,k⟩:=V6 (ops:=ops) (i:=lo) A0;cases g:B lo with
   | true=>exact⟨lo,B0 _,A0,fun i o h1 f=>by omega,fun _=>⟨o,k,g⟩⟩
   | false =>
     obtain⟨up,h1,f,h3,j⟩:=xW ops B d (lo+1) A0;refine⟨up,A0,f,fun i o' a b c=>?_,j⟩;by_cases e:i=lo
     .subst e;exact g
     .exact h3 i o' A0 b c
section
variable {nt:Nat} {ops:Array Oper} {F:Nat->Fr} {M:Nat->Mem} {V:Nat->Value} {R:Nat->List Rec} {X:Nat->Qs} {B:Nat->Bool} {lo up:Nat}
def Rg.frameUp(g:Rg P base gl nt call ops F M V R X B)(a:nt<=512){t:Tmp}(f:t<nt){i:Nat}(hi:i<=ops.size):dH (fun k=>Nat.blt k i) (fun k=>(ops[k]?).bind (·.dst)) V (F 0).get t ops.size=(F i).get t:=by
 rw[g.frame a f i hi];have e:∀ d,i+d<=ops.size->dH (fun k=>Nat.blt k i) (fun k=>(ops[k]?).bind (·.dst)) V (F 0).get t (i+d)=dH (fun k=>Nat.blt k i) (fun k=>(ops[k]?).bind (·.dst)) V (F 0).get t i:=by
  intro d;induction d with
  | zero=>intro _;rfl
  | succ d b =>
    intro j;rw[show i+(d+1)=(i+d)+1 by omega];rw[dH,A3 (fun hh=>by have:i+d<i:=A2 hh.1;omega)];exact b A0
 have:=e (ops.size-i) A0
 rwa[show i+(ops.size-i)=ops.size by omega]at this
def C2U{k i:Nat}:Nat.blt k i=true↔k<i:=⟨fun h=>A2 h,fun h=>D2 h⟩
def Rg.own(g:Rg P base gl nt call ops F M V R X B)(f:nt<=510):∀ (i:Nat),i<=ops.size->(F i).get 510=(F 0).get 510/\(F i).get 511=(F 0).get 511
 | 0,_=>⟨rfl,rfl⟩
 | i+1,hi=>by
   obtain⟨o,l⟩:=V6 (ops:=ops) (i:=i) A0;obtain⟨d1,_,d3,_⟩:=g.st i o l;have b:=g.own f i A0;have key:∀ t,510<=t->t<512->(F (i+1)).get t=(F i).get t:=fun t h1 j=>by
    rw[d3];cases k:o.dst with
    | none=>rfl
    | some d =>
      rw[k]at d1;have a:d<nt:=A2 d1;show((F i).set d _).get t=_;rw[Q4 _ _ _ _ (E5 a A0) j,A3 (fun e=>by subst e;exact absurd a (Nat.not_lt.2 (B9 f h1)))]
   exact⟨(key 510 B8 B8).trans b.1,(key 511 B8 B8).trans b.2⟩
def Rg.inX(g:Rg P base gl nt call ops F M V R X B):∀ (j:Nat),j<=ops.size->∀ q ∈ X j,q.1<j/\q ∈ X (q.1+1)/\∃ o,ops[q.1]? = some o/\gQ nt ops.toList (t7 P call o) ((y7 ops.toList []).getD q.1 []) (R q.1) (F q.1) o (M q.1) (M (q.1+1)) (V q.1) q.2
 | 0,_,q,hq=>by rw[g.x0]at hq;cases hq
 | j+1,hj,q,hq=>by
   obtain⟨o,d⟩:=V6 (ops:=ops) (i:=j) A0;have old:q ∈ X j->q.1<j+1/\q ∈ X (q.1+1)/\∃ o,ops[q.1]? = some o/\gQ nt ops.toList (t7 P call o) ((y7 ops.toList []).getD q.1 []) (R q.1) (F q.1) o (M q.1) (M (q.1+1)) (V q.1) q.2:=fun h=>by
    obtain⟨h1,b⟩:=g.inX j A0 q h;exact⟨A0,b⟩
   rcases g.qs j o d with⟨_,h,_⟩|⟨_,h⟩|⟨_,r,h,b⟩
   .exact old (h▸hq)
   .exact old (h▸hq)
   .have a:=hq;rw[h]at hq;rcases B7.1 hq with e|e
    .subst e;exact⟨K4 _,a,o,d,b⟩
    .exact old e
def JA{all:List Oper}{b:I9}{fr:Fr}{o:Oper}{v:Value}(h:gQ nt all op b rs fr o m m2 v r):∃ lg,m2=m.wLg lg:=by
 rcases h with⟨lg,_,_,h,_⟩|⟨_,a,_,_,h,_⟩
 .exact⟨lg,h⟩
 .exact⟨a,h⟩
def Rg.kind(g:Rg P base gl nt call ops F M V R X B){i:Nat}{o:Oper}(f:ops[i]? = some o)(a:dC o.op=true):gQ nt ops.toList (t7 P call o) ((y7 ops.toList []).getD i []) (R i) (F i) o (M i) (M (i+1)) (V i) none:=by
 obtain⟨_,_,_,h⟩:=g.st i o f;have j:TS (M i).H (F i) o.op=none:=by
  cases b:o.op<;>rw[b]at a<;>first|rfl|cases a
 rcases h with⟨_,lg,h1,e,h3⟩|⟨_,lg,d,h1,e,h3⟩|⟨h,_⟩|⟨_,h,_⟩
 .exact .inl ⟨lg,h1,e,h3,rfl⟩
 .exact .inr ⟨lg,d,h1,e,h3,j.symm⟩
 .rw[MF (g.sb i o f h)]at a;cases a
 .rw[a]at h;cases h
def Rg.heap{z:Zn}(g:Rg P base gl nt call ops F M V R X B)(f:Ph ops B M lo up){D:Nat->Bool}{p ρ:Ren}{a:Act}{y w':World}(K:∀ k,lo<=k->k<up->D k=false->∃ lg,M (k+1)=(M k).wLg lg)(inv:Inv z P base gl nt ops F M V lo up p y D ρ a w'):St P base p ρ (M lo) (M up) y w':=by
 have x:∀ id,id<=J0->GD M lo up D id=Hp.get (M up).H id:=fun id hid=>by
  unfold GD;cases hu:kR M (Dr lo D) id up with
  | true=>rfl
  | false =>
    simp only[E8];refine((g.all f f.le (B0 _)).2.2.2.2 id hid ?_).symm;rcases G7 id (M lo).n with h1|h1
    .exact .inl h1
    .rcases G7 id (M up).n with e|e
     .exfalso;have hle:=f.le;obtain⟨k,q,J,w,o⟩:=g.who f (up-lo) A0 id h1 (by rw[show lo+(up-lo)=up by omega];exact e);have s:D k=true:=by
       cases A:D k with
       | true=>rfl
       | false =>
         obtain⟨lg,hm⟩:=K k q A0 A;rw[hm]at o;have o:id<(M k).n:=o;omega
      rw[(c8 (M:=M) (D:=Dr lo D) up).2 ⟨k,A0,x7.2 ⟨q,s⟩,w,o⟩]at hu;cases hu
     .exact .inr e
 have d:=g.all f f.le (B0 _);refine⟨inv.ext,fun b l h1 e=>?_,d.1,d.2.1,fun _=>d.2.2.1,inv.hr.hr fun id hid ab t=>by rw[x id hid];exact t,fun b G=>by rw[d.2.2.2.1];exact G,fun b h1 e=>by rw[d.2.2.2.1]at h1;exact absurd h1 e,
     fun k E _=>inv.keep k E,inv.size,inv.os,fun b l h1 e L=>.inl ((inv.new b l h1 e).2 L),fun id hid h1 e=>?_,fun k ⟨id,ab,l,u,v,h,I⟩=>inv.tch k ⟨id,ab,l,u,(x id u).trans v,h,I⟩⟩
 .obtain⟨k,J,C,w,o⟩:=(c8 _).1 (inv.new b l h1 e).1;have q:=(x7.1 C).1;have u:=(g.le f (i:=lo) (j:=k) (B0 _) q A0).1;have v:=(g.le f (i:=k+1) (j:=up) A0 A0 (B0 _)).1;omega
 .refine d.2.2.2.2 id hid ?_;rcases e with e|e
  .exact .inl e
  .exact .inr (by have:=d.2.2.1;omega)
def Rg.last{z:Zn}(g:Rg P base gl nt call ops F M V R X B)(b:nt<=512){D:Nat->Bool}{d ρ:Ren}{a:Act}{n w':World}(o:∀ i,i<ops.size->D i=true)(inv:Inv z P base gl nt ops F M V lo up d n D ρ a w'):FrR z ρ nt (F ops.size) a:=by
 have f:=inv.dfr.congr (fun _ _ h=>h) (fun l=>g.own l ops.size (B0 _));refine⟨inv.tsz,b,f.1,f.2,fun t j=>?_⟩;have h1:=inv.frm t j;rw[<- g.frameUp b j (B0 _)]
 rwa[jA (D':=fun k=>Nat.blt k ops.size) ops.size (fun k e _=>by rw[o k e];exact(C2U.2 e).symm)]at h1
def Rg.fresh{z:Zn}(g:Rg P base gl nt call ops F M V R X B){D:Nat->Bool}{ρ:Ren}{a:Act}{w:World}(A:∀ k,lo<=k->D k=true->∃ lg,M (k+1)=(M k).wLg lg)(hr:HR P base ρ (M lo).H w)(j:a.tmps.size=nt)(q:ZR z ρ nt (F 0) a.defers)
  (e:∀ t,t<nt->VR ρ (dH D (fun k=>(ops[k]?).bind (·.dst)) V (F 0).get t ops.size) (a.tmps.getD t undef)):Inv z P base gl nt ops F M V lo up ρ w D ρ a w:=by
 have hu:∀ b n,kR M (Dr lo D) b n=false:=fun b n=>by
  cases v:kR M (Dr lo D) b n with
  | false=>rfl
  | true =>
    obtain⟨k,_,h,C,p⟩:=(c8 _).1 v;obtain⟨h1,o⟩:=x7.1 h;obtain⟨lg,hm⟩:=A k h1 o;rw[hm]at p;have p:b<(M k).n:=p;omega
 have i:∀ id ab,GD M lo up D id=some ab->Hp.get (M lo).H id=some ab:=fun id ab d=>by
  unfold GD at d;rw[hu]at d;exact d
 exact⟨fun _ _ h=>h,fun b l h1 o=>(by rw[h1]at o;cases o),hr.f fun id hid ab d=>i id ab d,fun _ _=>rfl,B0 _,⟨rfl,rfl,rfl⟩,fun k ⟨id,ab,l,x,u,s,y⟩=>.inr ⟨id,ab,l,x,i id ab u,s,y⟩,j,q,e⟩
def Rg.old{z:Zn}(g:Rg P base gl nt call ops F M V R X B)(d:Ph ops B M lo up){e:Ren}{w0:World}{D:Nat->Bool}(a:At P base gl e (M lo) (M up).hi w0){b:Nat}{ab:AB}(t:EZ (M lo).H b ab=true):GD M lo up D b=some ab:=by
 obtain⟨h1,hid⟩:=EY t;unfold GD;have hu:kR M (Dr lo D) b up=false:=by
  cases n:kR M (Dr lo D) b up with
  | false=>rfl
  | true =>
    exfalso;obtain⟨k,x,q,w,v⟩:=(c8 _).1 n;have u:=(x7.1 q).1;obtain⟨l,f,_⟩:=a.hr.at_ b hid _ h1;have p:=g.le d (i:=lo) (j:=k) (B0 _) u A0;have o:=g.le d (i:=k+1) (j:=up) A0 A0 (B0 _);have s:=(g.all d d.le (B0 _)).2.2.1;rw[a.fr b A0 A0]at f;cases f
 rw[hu];exact h1
end
def A6n(hm:P.follows .mixedOrders=true)(T:l7 P base gl call):gR P base gl call:=by
 refine⟨hm,?_⟩;intro nt ops bt s s' cm;obtain⟨F,M,V,R,X,B,f1,f2,f3,dt,f4,f5,f6⟩:=B0e ops.toList 0 _ _ _ s s' cm;simp only[G0,X9]at f4 f5 f6;have cw:∀ i,i<=ops.size->∀ d,i+d<=ops.size->(M i).hi<=(M (i+d)).hi/\(M i).lg.le (M (i+d)).lg:=by
  intro i _ d;induction d with
  | zero=>intro _;exact⟨B0 _,.refl _⟩
  | succ d ih =>
    intro h;have h1:=ih A0;obtain⟨o,A⟩:=V6 (ops:=ops) (i:=i+d) A0;obtain⟨bp,_⟩:=f6 (i+d) o (Y9 A);refine⟨?_,h1.2.trans (IF T bp)⟩;obtain⟨_,_,_,O⟩:=bp;rcases O with⟨_,_,_,_,O⟩|⟨_,_,_,_,_,O⟩|⟨_,_,_,_,O⟩|⟨_,_,_,_,mv,m',_,_,_,cr,O⟩
    .show _<=(M (i+d+1)).hi;rw[O];exact h1.1
    .show _<=(M (i+d+1)).hi;rw[O];exact h1.1
    .exact B9 h1.1 O
    .exact B9 h1.1 (A5U O cr)
 have E:∀ i j,i<=j->j<=ops.size->(M i).hi<=(M j).hi/\(M i).lg.le (M j).lg:=fun i j h1 O=>by
  have:=cw i A0 (j-i) A0
  rwa[show i+(j-i)=j by omega]at this
 constructor
 .have:=E 0 ops.size A0 (B0 _);rw[f2,f5]at this;exact this
 .intro z aq a0 w id Q cb av al hQ;have g:Rg P base gl nt call ops F M V R X B:=⟨fun i o A=>(f6 i o (Y9 A)).1,fun i o A=>(f6 i o (Y9 A)).2.2.1,fun i o A=>(f6 i o (Y9 A)).2.2.2,fun i o A=>(f6 i o (Y9 A)).2.1,dt,bt⟩;have ck:∀ i o,ops[i]? = some o->∀ e ∈ o.after.toList,Region.binds .any e=true->e.on<i:=fun i o A=>by
   have:=(lS _ 0 g.ok i o (Y9 A)).1;rw[G0]at this;exact jF this
  refine oU hm ?_;generalize cg:({ w with drawn:=w.drawn+1 }:World)=w1;have ar:w1.heap=w.heap:=by rw[<- cg]
  have cu:w1.os=w.os/\w1.tape=w.tape/\w1.output=w.output:=by rw[<- cg];exact⟨rfl,rfl,rfl⟩
  have ax:At P base gl aq (M 0) (M ops.size).hi w1:=by
   rw[f2,f5];exact⟨⟨fun b l h=>av.hr.dom b l h,fun id hid ab dr=>by
    obtain⟨l,e1,e2,e3⟩:=av.hr.at_ id hid ab dr;exact⟨l,e1,e2.mono (fun _ _ h=>h) (fun _ _=>by rw[ar]),e3⟩⟩,by rw[ar];exact av.bs,av.fr,av.gr,av.nh,av.wb,fun k o C=>by rw[ar];exact av.gf k o C⟩
  have aj:∀ i,i<=ops.size->Sat (M i).lg:=fun i hi=>V3.le cb (by rw[<- f5];exact(E i ops.size hi (B0 _)).2)
  have Z:M8 aq (M 0).n (M ops.size).hi:=ax.fr;have fin:∀ (ρ:Ren) (a:Act) (w':World),FrR z ρ nt (F ops.size) a->St P base aq ρ (M 0) (M ops.size) w1 w'->Q .normal a w':=fun ρ a w' hf st=>by
   refine hQ ρ a w' (by rw[<- f4];exact hf) ?_;rw[<- f2,<- f5];exact⟨st.ext,st.new,st.nle,st.hle,st.nhi,st.hr,st.wsub,st.wrw,fun k C hb=>by rw[st.keep k (by rw[ar];exact C) hb,ar],by rw[<- ar];exact st.size,⟨st.os.1.trans cu.1,st.os.2.1.trans cu.2.1,st.os.2.2.trans cu.2.2⟩,fun b l h1 O h3=>by rw[<- ar];exact st.blk b l h1 O h3,st.same,fun k C=>by rw[<- ar];exact st.tch k C⟩
  have main:∀ (fuel:Nat) (listed:Array Bool) (lo up:Nat) (K ρ:Ren) (a:Act) (wL w':World),listed.size=ops.size->listed.toList.countP (fun b=>!b)=fuel->qY ops.toList (fun k=>listed.getD k false=true) ->
    Ph ops B M lo up->(up<ops.size->∃ o,ops[up]? = some o/\B up=true)->St P base aq K (M 0) (M lo) w1 wL->At P base gl K (M lo) (M ops.size).hi wL->(∀ q ∈ X lo,listed.getD q.1 false=false->B21 (M lo).H q.2=true)->(∀ k,k<lo->listed.getD k false=false->∃ q ∈ X lo,q.1=k)->(∀ k o,up<=k->ops[k]? = some o->listed.getD k false=true->dC o.op=true) ->
    Inv z P base gl nt ops F M V lo up K wL (fun k=>listed.getD k false) ρ a w'->mP P z.rd .any ops Q fuel listed a w':=by
   have done:∀ (listed:Array Bool) (lo up:Nat) (K ρ:Ren) (a:Act) (wL w':World),(∀ i,i<ops.size->listed.getD i false=true)->Ph ops B M lo up->(up<ops.size->∃ o,ops[up]? = some o/\B up=true)->St P base aq K (M 0) (M lo) w1 wL->(∀ k o,up<=k->ops[k]? = some o->listed.getD k false=true->dC o.op=true) ->
     Inv z P base gl nt ops F M V lo up K wL (fun k=>listed.getD k false) ρ a w'->Q .normal a w':=fun listed lo up K ρ a wL w' Y ph J ai L inv=>by
    have cf:up=ops.size:=by
     rcases G7 up ops.size with h|h
     .obtain⟨o,A,hs⟩:=J h
      have:=L up o (B0 _) A (Y up h);rw[MF (g.sb up o A hs)]at this;cases this
     .have:=ph.sz;omega
    subst cf;exact fin ρ a w' (g.last al.le Y inv) (St.trans Z ai (g.heap ph (fun k _ h1 O=>by have O:listed.getD k false=false:=O;rw[Y k h1]at O;cases O) inv))
   intro fuel;induction fuel with
   | zero =>
     intro listed lo up K ρ a wL w' bd bj ay ph J ai aa cz bw L inv;have Y:∀ i,i<ops.size->listed.getD i false=true:=fun i hi=>by
      have:=YF bj i (by simpa [bd]using hi);have O:listed[i]? = some true:=by simpa using this
      simp[C6,O]
     refine⟨?_,done listed lo up K ρ a wL w' Y ph J ai L inv⟩;rw[eP];intro j hj;obtain⟨h1,o,O,_⟩:=mem_ready.1 hj;have au:j<ops.size:=(E4.1 O).1;have h3:=Y j au;have cy:j<listed.size:=A0;simp[C6,cy]at h1 h3;rw[h1]at h3;cases h3
   | succ fuel ih =>
     intro listed lo up K ρ a wL w' bd bj ay ph J ai aa cz bw L inv;refine⟨fun dw=>?_,fun i hi=>?_⟩
     ·
      have key:∀ n i,i<n->i<ops.size->listed.getD i false=true:=by
       intro n;induction n with
       | zero=>intro i h;omega
       | succ n bn =>
         intro i dj bm;by_cases h:i<n
         .exact bn i h bm
         .cases W:listed.getD i false with
          | true=>rfl
          | false =>
            exfalso;obtain⟨o,A⟩:=V6 (ops:=ops) bm;have bh:i ∈ Region.ready .any ops listed:=mem_ready.2 ⟨by
             have cy:i<listed.size:=A0;simp[C6,cy]at W ⊢;exact W,o,A,fun e he hb=>by
             have au:=ck i o A e (by simpa using he) hb;exact bn e.on A0 A0⟩
            rw[dw]at bh;cases bh
      exact done listed lo up K ρ a wL w' (fun i hi=>key (i+1) i (K4 i) hi) ph J ai L inv
     .obtain⟨h1,o,A,O⟩:=mem_ready.1 hi;have bm:i<ops.size:=(E4.1 A).1;have ae:i<listed.size:=A0;have az:listed.getD i false=false:=by
       simp[C6,ae]at h1 ⊢;exact h1
      have u:∀ k,k≠i->(listed.setIfInBounds i true).getD k false=listed.getD k false:=fun k C=>by
       simp only[C6,H4];rw[A3 (fun e=>C e.symm)]
      have I:(listed.setIfInBounds i true).getD i false=true:=by
       simp[C6,H4,ae]
      have hr:∀ e ∈ o.after.toList,Region.binds .any e=true->listed.getD e.on false=true:=fun e he hb=>O e (by simpa using he) hb
      have bf:(listed.setIfInBounds i true).size=ops.size:=by simpa using bd
      have bz:(listed.setIfInBounds i true).toList.countP (fun b=>!b)=fuel:=by
       have hg:listed.toList[i]? = some false:=by
        simp[C6,ae]at az;simp[ae,az]
       have:=KM listed.toList i hg;rw[Array.toList_setIfInBounds];omega
      have bk:qY ops.toList (fun k=>(listed.setIfInBounds i true).getD k false=true):=by
       intro k o' bc C e he hb;by_cases e1:e.on=i
       .rw[e1];exact I
       .show(listed.setIfInBounds i true).getD e.on false=true;rw[u e.on e1];by_cases e2:k=i
        .subst e2;have:ops.toList[k]? = some o:=Y9 A;rw[this]at bc;cases bc;exact hr e he hb
        .have C:(listed.setIfInBounds i true).getD k false=true:=C;rw[u k e2]at C;exact ay k o' bc C e he hb
      have bx:∀ k,k ∈ (y7 ops.toList []).getD i []->listed.getD k false=true:=fun k C=>GQ ay (fun i o A=>by
        have:=(lS _ 0 g.ok i o A).1;rw[G0]at this;exact jF this) (i+1) i k o (K4 i) (Y9 A) hr C
      have au:∀ k,listed.getD k false=true->k<ops.size:=fun k C=>by
       rcases G7 k ops.size with h|h
       .exact h
       .have S:listed[k]? = none:=Array.getElem?_eq_none_iff.2 A0;rw[C6,S]at C;cases C
      have ad:At P base gl K (M lo) (M up).hi wL:=aa.less (E up ops.size ph.sz (B0 _)).1;have go:∀ (y:Ren) (a':Act) (G:World),(up<=i->dC o.op=true)->Inv z P base gl nt ops F M V lo up K wL (fun k=>(listed.setIfInBounds i true).getD k false) y a' G->mP P z.rd .any ops Q fuel (listed.setIfInBounds i true) a' G:=fun y a' G W ao =>
       ih (listed.setIfInBounds i true) lo up K y a' wL G bf bz bk ph J ai aa (fun q W S=>cz q W (by
        by_cases e:q.1=i
        .rw[e,I]at S;cases S
        .rw[u _ e]at S;exact S)) (fun k C S=>by
        by_cases e:k=i
        .subst e;rw[I]at S;cases S
        .rw[u k e]at S;exact bw k C S) (fun k p C hp hl=>by
        by_cases e:k=i
        .subst e;rw[A]at hp;cases hp;exact W C
        .rw[u k e]at hl;exact L k p C hp hl) ao
      have quiet:∀ r,(up<=i->dC o.op=true)->gQ nt ops.toList (t7 P call o) ((y7 ops.toList []).getD i []) (R i) (F i) o (M i) (M (i+1)) (V i) r->(∀ b ab,r=some (b,ab)->GD M lo up (fun k=>listed.getD k false) b=some ab)->lE P z.rd ops Q i (fun a' G=>mP P z.rd .any ops Q fuel (listed.setIfInBounds i true) a' G) a w':=fun r W U dz =>
       g.quiet T ad (aj (i+1) A0) al.le inv ay au A az hr u I U dz fun y a' G ao=>go y a' G W ao
      rcases G7 i lo with ag|ag
      ·
       obtain⟨q,cd,cn⟩:=bw i ag az;obtain⟨_,_,p,hp,U⟩:=g.inX lo (by have:=ph.sz;have:=ph.le;omega) q cd;rw[cn]at hp U;rw[A]at hp;cases hp;refine quiet q.2 (fun h=>by have:=ph.le;omega) U fun b ab hb=>?_
       refine g.old (z:=z) ph ad ?_
       have:=cz q cd (by rw[cn];exact az);rw[hb]at this;exact this
      .rcases G7 i up with cv|cv
       ·
        by_cases hex:∃ r,gQ nt ops.toList (t7 P call o) ((y7 ops.toList []).getD i []) (R i) (F i) o (M i) (M (i+1)) (V i) r
        .obtain⟨r,U⟩:=hex;refine quiet r (fun h=>by omega) U fun b ab hb=>?_
         rcases U with⟨_,_,_,_,ds⟩|⟨lg,dm,hw,W,hm,du⟩
         .rw[ds]at hb;cases hb
         .obtain⟨mv,m',ba,_⟩:=pL W;obtain⟨h3,h4⟩:=(xR ba).2.2.2.2.2 b ab (du.symm.trans hb);obtain⟨h5,h6⟩:=EY h3;exact g.see (z:=z) (a:=a) (ρ:=ρ) (w:=w') ph ad ay ag cv A hr b h6 _ h5 h4
        .exact g.step ph T ad (aj up ph.sz) al.le inv ay au ag cv A az hr u I hex fun y a' G ao=>go y a' G (fun h=>by omega) ao
       .obtain⟨os,bq,an⟩:=J A0;rcases G7 up i with dy|di
        ·
         have C:dC o.op=true:=by
          rcases WN (g.sb up os bq an) i o dy A with h|h
          .have h3:=L up os (B0 _) bq (bx up h);rw[MF (g.sb up os bq an)]at h3;cases h3
          .exact h
         exact quiet none (fun _=>C) (g.kind A C) fun b ab hb=>by cases hb
        ·
         have cc:i=up:=A0;subst cc;rw[A]at bq;cases bq;have af:∀ k,k<i->listed.getD k false=false->∃ q ∈ X i,q.1=k:=fun k C S=>by
          rcases WO (g.sb i o A an) k C with h|h
          .rw[bx k h]at S;cases S
          .exact h
         have q2:=g.heap ph (fun k _ C S=>by
          obtain⟨q,W,e⟩:=af k C S;obtain⟨_,_,p,hp,U⟩:=g.inX i A0 q W;rw[e]at U;exact JA U) inv
         have dn:St P base aq ρ (M 0) (M i) w1 w':=St.trans (Z.less (E i ops.size A0 (B0 _)).1) ai q2;have aw:At P base gl ρ (M i) (M ops.size).hi w':=aa.step q2;obtain⟨d1,d2,d3,bp⟩:=g.st i o A;have br:∀ t,t ∈ o7 ops.toList o->t<nt->VR ρ ((F i).get t) (a.tmps.getD t undef):=fun t ht cl=>by
          rw[<- g.look al.le ay au A az hr ht cl];exact inv.frm t cl
         have dp:FR ρ (F i) a.eval o.op:=fun x hx=>by
          have bt:okX nt gl x=true:=D7.1 d2 x hx;cases x with
          | tmp t=>exact br t (CW hx rfl) (A2 bt)
          | const v=>exact VR.ofC bt
          | global gg=>exact VR.ptr (o:=0) (aw.gr gg (A2 bt))
          | func f=>exact .func (a:=[]) (b:=[]) (a':=[]) (b':=[]) rfl rfl (fun i v v' h=>by simp at h) (fun i v v' h=>by simp at h)
         have ct:∀ lg b,dX nt (F i) (M i).lg ops.toList o=some (b,lg)->Sat lg->Region.wanted o (yielded ops a.tmps)=b:=fun lg b hw bb=>by
          unfold dX at hw;split at hw
          .rename_i hg;cases hw;simp[Region.wanted,hg]
          .rename_i j want hg;split at hw
           .rename_i p hp;split at hw
            .rename_i t ht;obtain⟨h1,O⟩:=A6 hw;have h1:t<nt:=A2 h1;have hv:=br t (by
              unfold o7;refine B5.2 (.inr (B5.2 (.inr ?_)));simp[hg,hp,ht]) h1
             exact rA hg hp ht (by rw[inv.tsz];exact h1) (uL O hv bb)
            .cases hw
           .cases hw
         have bl:∀ (y:Ren) (v':Value),(∀ b l,ρ b=some l->y b=some l)->VR y (V i) v'->∀ t,t<nt->VR y (dH (fun k=>(listed.setIfInBounds i true).getD k false) (fun k=>(ops[k]?).bind (·.dst)) V (F 0).get t ops.size) ((a.put o.dst v').tmps.getD t undef):=fun y v' he hv t ht=>by
          by_cases hd:o.dst=some t
          .have ak:∀ k,i<k->k<ops.size->(ops[k]?).bind (·.dst)=some t->listed.getD k false=false:=fun k dk C cp=>by
            obtain⟨p,hp⟩:=V6 (ops:=ops) C;rw[hp]at cp
            have:=g.slot ay au A az hr (t:=t) (by unfold o7;simp[hd]) k p hp A0 cp;cases W:listed.getD k false with
            | false=>rfl
            | true=>have:=this.1 W;omega
           rw[wQ (D:=fun k=>listed.getD k false) u I ops.size bm (by simp[A,hd]) ak];simp only[hd,Act.put,C6];rw[H4,A4 rfl,A4 (by rw[inv.tsz];exact ht)];exact hv
          .rw[tP (D:=fun k=>listed.getD k false) u (by simp[A];exact hd)];have h1:=(inv.frm t ht).mono he;cases cj:o.dst with
           | none=>exact h1
           | some d =>
             have dx:d≠t:=fun e=>hd (e▸cj)
             simp only[Act.put,C6]at h1 ⊢;rw[H4,A3 dx];exact h1
         have hX:X (i+1)=X i/\A5q ((y7 ops.toList []).getD i []) (M (i+1)).H (X i)=true:=by
          rcases g.qs i o A with⟨_,h3,h4⟩|⟨h3,_⟩|⟨h3,_⟩
          .exact⟨h3,h4⟩
          .rw[an]at h3;cases h3
          .rw[an]at h3;cases h3
         have ak:∀ (y:Ren) (v':Value) (G:World),VR y (V i) v'->St P base ρ y (M i) (M (i+1)) w' G->mP P z.rd .any ops Q fuel (listed.setIfInBounds i true) (a.put o.dst v') G:=fun y v' G hv ah=>by
          obtain⟨dq,u1,u2,u3,u4⟩:=xW ops B (ops.size-(i+1)) (i+1) A0;have bg:=aw.step ah;refine ih (listed.setIfInBounds i true) (i+1) dq y y _ G G bf bz bk ⟨u1,u2,bg.nh,u3⟩ u4 (St.trans (Z.less (E (i+1) ops.size A0 (B0 _)).1) dn ah) bg (fun q W S=>?_) (fun k C S=>?_) (fun k p C hp hl=>?_)
           (g.fresh (fun k C hl=>?_) ah.hr ?_ ?_ (bl y v' ah.ext hv))
          .rw[hX.1]at W;have h5:=D7.1 hX.2 q W;rcases K6 _ _▸h5 with h5|h5
           .exfalso;have h6:=bx q.1 (p9.1 h5);by_cases e:q.1=i
            .rw[e,az]at h6;cases h6
            .rw[u _ e,h6]at S;cases S
           .exact h5
          .rw[hX.1];by_cases e:k=i
           .subst e;rw[I]at S;cases S
           .rw[u k e]at S;exact af k A0 S
          .rw[u k A0]at hl;exact L k p A0 hp hl
          .have hl:(listed.setIfInBounds i true).getD k false=true:=hl;rw[u k A0]at hl;obtain⟨p,hp⟩:=V6 (ops:=ops) (au k hl);exact JA (g.kind hp (L k p A0 hp hl))
          .cases cj:o.dst<;>simp[Act.put,inv.tsz]
          .rw[iP];exact inv.dfr.congr ah.ext fun _=>⟨rfl,rfl⟩
         unfold lE;simp only[A];rcases bp with⟨N,_⟩|⟨N,_⟩|⟨_,lg,hw,bu,cr⟩|⟨N,_⟩
         .rw[an]at N;cases N
         .rw[an]at N;cases N
         .have cq:=aj (i+1) A0;have bb:Sat lg:=V3.le cq (by have:=dA T bu;rw[x3]at this;exact this);rw[ct lg true hw bb];simp only[if_true];have ch:At P base gl ρ ((M i).wLg lg) (M (i+1)).hi w':=(aw.wLg lg).less (E (i+1) ops.size A0 (B0 _)).1;refine vC T bu cq ch dp fun v' y G hv ah=>ak y v' G hv ?_
          have ca:=St.wLg (m:=M i) aw.hr lg;exact St.trans (by have:=aw.fr;exact this.less (E (i+1) ops.size A0 (B0 _)).1) ca ah
         .rw[an]at N;cases N
  obtain⟨up,u1,u2,u3,u4⟩:=xW ops B ops.size 0 A0;have bo:∀ k,(Array.replicate ops.size false).getD k false=false:=fun k=>by
   simp only[C6,lD];split<;>simp
  refine main ops.size _ 0 up aq aq a0 w1 w1 (by simp) (by simp[List.countP_replicate]) (fun k o A C=>by have C:(Array.replicate ops.size false).getD k false=true:=C;rw[bo k]at C;cases C) ⟨u1,u2,ax.nh,u3⟩ u4 (St.refl ax.hr) ax (fun q W=>by rw[g.x0]at W;cases W) (fun k C=>by omega) (fun k o C A hl=>by rw[bo k]at hl;cases hl)
   (g.fresh (fun k _ hl=>by have hl:(Array.replicate ops.size false).getD k false=true:=hl;rw[bo k]at hl;cases hl) ax.hr al.size (by rw[f1];exact al.zr) fun t ht=>?_)
  have h0:∀ n,dH (fun k=>(Array.replicate ops.size false).getD k false) (fun k=>(ops[k]?).bind (·.dst)) V (F 0).get t n=(F 0).get t:=by
   intro n;induction n with
   | zero=>rfl
   | succ n bn=>rw[dH,A3 (fun hh=>by rw[bo n]at hh;exact absurd hh.1 (by simp)),bn]
  rw[h0,f1];exact al.get t ht
end
end
section
open Go
variable [Ora]
section
variable {P:Program} {base gl:Nat}
def CH{f:FuncId}{e:r7->Sem Value}{args:r7}{w w':World}{v:Value}(g:P.funcs[f]? = some fn)(b:(fn.name == "runtime.NumGoroutine")=false)(d:fn.body=none)(i:Extern.findNext fn=none)(he:Extern.find fn=some e)
  (hr:(e args).run P w=.ok v w'):(callFunc f args).run P w=.ok (.value v) w':=by
 have a:fn.name ≠ "runtime.NumGoroutine":=by simpa using b
 simp[callFunc,A8,run_program,Result.andThen,g,a,d,i,he,mark,Sem.run,hr]
def qK{k:EK}{vs:D6}{v:Value}(h:tR k vs m=some (v,m')) :
  (k=.noEscape/\vs=[v]/\m'=m) ∨
  (k=.indexByteString/\∃ s c,vs=[.string s,.int .u8 (.ofNat c)]/\v=.int .i64 (yG s.data.toList (UInt8.ofNat c) 0)/\m'=m) ∨
  (k=.countString/\∃ s c,vs=[.string s,.int .u8 (.ofNat c)]/\v=.int .i64 (countB (UInt8.ofNat c) s.data.toList 0)/\m'=m) ∨
  (∃ e n,k=.makeNoZero e/\vs=[.int .i64 (.ofNat n)]/\n<=1000000000/\y6 m (.cells [] e false) (fun b=>.slice (some ⟨b,0,none⟩) n R5)=some (v,m')):=by
 unfold tR at h;split at h
 .cases h;exact .inl ⟨rfl,rfl,rfl⟩
 .cases h;exact .inr (.inl ⟨rfl,_,_,rfl,rfl,rfl⟩)
 .cases h;exact .inr (.inr (.inl ⟨rfl,_,_,rfl,rfl,rfl⟩))
 .obtain⟨h1,h⟩:=A6 h;exact .inr (.inr (.inr ⟨_,_,rfl,rfl,A2 h1,h⟩))
 .cases h
def CI{k:EK}{vs:D6}{v:Value}(h:(FnC.mk (tR k)).run vs m=some (v,m')):m.lg.le m'.lg:=by
 have h:tR k vs m=some (v,m'):=h;rcases qK h with⟨_,_,rfl⟩|⟨_,_,_,_,_,rfl⟩|⟨_,_,_,_,_,rfl⟩|⟨_,_,_,_,_,h⟩
 .exact .refl _
 .exact .refl _
 .exact .refl _
 .obtain⟨_,_,rfl⟩:=N1 h;exact .refl _
def SO{f:FuncId}(g:P.funcs[f]? = some fn)(b:(fn.name == "runtime.NumGoroutine")=false)(i:fn.body=none)(d:Extern.findNext fn=none)(he:Extern.find fn=some Extern.AbiNoEscape.same):nW P base gl f ⟨tR .noEscape⟩:=by
 refine⟨fun vs m m' v hr=>CI hr,?_⟩;intro ρ m m' w vs vs' v hr l a j;have hr:tR .noEscape vs m=some (v,m'):=hr;rcases qK hr with⟨_,rfl,rfl⟩|⟨h,_⟩|⟨h,_⟩|⟨_,_,h,_⟩
 .obtain⟨v',k,rfl,h1,e⟩:=j.tail;cases e.nil_inv;exact .inr ⟨v',ρ,w,CH g b i d he rfl,h1,.refl a.hr⟩
 .cases h
 .cases h
 .cases h
def JU(c:UInt8):∀ (l:List UInt8) (k:Nat),yG l c k=if Lib.indexByte l c == -1 then -1 else Lib.indexByte l c+k
 | [],k=>rfl
 | x::r,k=>by
   have f:=Lib.indexByte_ge r c;have d:=JU c r (k+1);rw[yG,Lib.indexByte];by_cases e:x=c
   .subst e;simp
   .have a:(x == c)=false:=by simpa using e
    simp only[a,C9 e,E8];rw[d];by_cases h:Lib.indexByte r c = -1
    .simp[h]
    .have b:(Lib.indexByte r c == -1)=false:=by simpa using h
     have h3:(Lib.indexByte r c+1 == -1)=false:=by simp;omega
     simp only[b,h3,L2,if_false];omega
def XW(c:UInt8)(l:List UInt8):yG l c 0=Lib.indexByte l c:=by
 rw[JU];by_cases h:Lib.indexByte l c = -1
 .simp[h]
 .have a:(Lib.indexByte l c == -1)=false:=by simpa using h
  simp[a]
def tT(c:UInt8):∀ (l:List UInt8) (n:Nat),countB c l n=n+l.count c
 | [],n=>rfl
 | x::r,n=>by
   rw[countB,List.count_cons];by_cases e:x=c
   .subst e;simp only[decide_true,F7,G5,eO,if_true];rw[tT x r (n+1)];omega
   .have a:(x == c)=false:=by simpa using e
    simp only[C9 e,E8,a,L2,if_false];rw[tT c r n];omega
def NU{f:FuncId}(i:P.funcs[f]? = some fn)(b:(fn.name == "runtime.NumGoroutine")=false)(j:fn.body=none)(e:Extern.findNext fn=none)(he:Extern.find fn=some Extern.BytealgIndexByte.indexByte):nW P base gl f ⟨tR .indexByteString⟩:=by
 refine⟨fun vs m m' v hr=>CI hr,?_⟩;intro ρ m m' w vs vs' v hr n a k;have hr:tR .indexByteString vs m=some (v,m'):=hr;rcases qK hr with⟨h,_⟩|⟨_,s,c,rfl,rfl,rfl⟩|⟨h,_⟩|⟨_,_,h,_⟩
 .cases h
 .obtain⟨v1,r1,rfl,h1,g⟩:=k.tail;obtain⟨v2,l,rfl,h3,d⟩:=g.tail;cases d.nil_inv;cases o8 h1;cases M2 h3;refine .inr ⟨_,ρ,w,CH i b j e he (Lib.run_indexByteString s (.ofNat c) w),?_,.refl a.hr⟩;rw[XW];exact .pure rfl
 .cases h
 .cases h
def FV{f:FuncId}(i:P.funcs[f]? = some fn)(b:(fn.name == "runtime.NumGoroutine")=false)(j:fn.body=none)(e:Extern.findNext fn=none)(he:Extern.find fn=some Extern.BytealgCount.count):nW P base gl f ⟨tR .countString⟩:=by
 refine⟨fun vs m m' v hr=>CI hr,?_⟩;intro ρ m m' w vs vs' v hr n a k;have hr:tR .countString vs m=some (v,m'):=hr;rcases qK hr with⟨h,_⟩|⟨h,_⟩|⟨_,s,c,rfl,rfl,rfl⟩|⟨_,_,h,_⟩
 .cases h
 .cases h
 .obtain⟨v1,r1,rfl,h1,g⟩:=k.tail;obtain⟨v2,l,rfl,h3,d⟩:=g.tail;cases d.nil_inv;cases o8 h1;cases M2 h3;refine .inr ⟨_,ρ,w,CH i b j e he (Lib.run_countString s (.ofNat c) w),?_,.refl a.hr⟩;rw[tT,G0];exact .pure rfl
 .cases h
def HN{f:FuncId}{ps:Array TypeId}{t e:TypeId}(x:P.funcs[f]? = some fn)(j:(fn.name == "runtime.NumGoroutine")=false)(y:fn.body=none)(p:Extern.findNext fn=none)(he:Extern.find fn=some (Extern.BytealgMakeNoZero.makeNoZero ps #[t]))
  (hu:P.underlying t=some (.slice e)) (hi:(P.info? e).map (·.size)=some 1):nW P base gl f ⟨tR (.makeNoZero e)⟩:=by
 refine⟨fun vs m m' v hr=>CI hr,?_⟩;intro ρ m m' w vs vs' v hr A a z;have hr:tR (.makeNoZero e) vs m=some (v,m'):=hr;rcases qK hr with⟨h,_⟩|⟨h,_⟩|⟨h,_⟩|⟨e',n,h,rfl,s,hr⟩
 .cases h
 .cases h
 .cases h
 .cases h;obtain⟨v1,r1,rfl,h1,g⟩:=z.tail;cases g.nil_inv;cases M2 h1;obtain⟨cs,d,hle,_⟩:=Lib.run_makeNoZero (P:=P) w ps t e hu n A0;obtain⟨q,l,k⟩:=gW (wd:=w.drew.drew) (fz:=(0,0)) (cap:=cs.size) (C:=cs) (cs':=[]) a.hr a.bs hr a.fr (.nil) (fun i u hi=>by simp at hi) NF.zero
   (fun inf g=>by rw[g]at hi;have hi:some inf.size=some 1:=hi;have hi:=A9 hi;rw[hi];omega) ⟨rfl,rfl,rfl⟩ rfl
  refine .inr ⟨_,_,_,CH x j y p he d,?_,k⟩;rw[q]
  have:=VR.op (ρ:=upd ρ m.n (lc w.heap.size 0 cs.size)) (b:=m.n) (o:=0) (n:=n) (m:=R5) (m':=cs.size) l (B0 _) hle (fun _ _=>rfl)
  simpa using this
end
end
section
open Go
variable [Ora]
structure GX (P:Program) (f:FuncId) (k:EK):Prop where
 row:∃ fn,P.funcs[f]? = some fn/\(fn.name == "runtime.NumGoroutine")=false/\fn.body=none/\Extern.findNext fn=none /\
  ((k=.noEscape/\Extern.find fn=some Extern.AbiNoEscape.same)∨(k=.indexByteString/\Extern.find fn=some Extern.BytealgIndexByte.indexByte)∨(k=.countString/\Extern.find fn=some Extern.BytealgCount.count) ∨
    (∃ e ps t,k=.makeNoZero e/\Extern.find fn=some (Extern.BytealgMakeNoZero.makeNoZero ps #[t])/\P.underlying t=some (.slice e)/\(P.info? e).map (·.size)=some 1))
def GX.ok{P:Program}{f:FuncId}{k:EK}{base gl:Nat}(h:GX P f k):nW P base gl f ⟨tR k⟩:=by
 obtain⟨fn,h1,d,h3,b,a⟩:=h.row;rcases a with⟨rfl,a⟩|⟨rfl,a⟩|⟨rfl,a⟩|⟨e,ps,t,rfl,a,i,g⟩
 .exact SO h1 d h3 b a
 .exact NU h1 d h3 b a
 .exact FV h1 d h3 b a
 .exact HN h1 d h3 b a i g
def KC:∀ {l:List (FuncId×EK)} {f:FuncId} {k:EK},TY l f=some k->(f,k) ∈ l
 | (g,j)::r,f,k,h=>by
   rw[TY]at h;cases e:Nat.beq g f with
   | true =>
     rw[e]at h;cases h;rw[A1 e];exact .head _
   | false =>
     rw[e]at h;exact .tail _ (KC h)
theorem A9i{P:Program}{ext:List (FuncId×EK)}{gl base:Nat}{con:FuncId->Option FnC}{lp:FuncId->LpT}(hm:P.follows .mixedOrders=true)(b:PG P)(he:∀ p ∈ ext,GX P p.1 p.2)
  (a:∀ f c,con f=some c->nW P base gl f c) (d:∀ f fn body,P.funcs[f]? = some fn->fn.body=some body->YX P base gl fn.ntmps body (lp f)) :
  A9_ ⟨P,ext,gl,con,lp⟩ base :=
 { names:=b,ext:=fun f k fn _ _ h=>(he _ (KC h)).ok,con:=a,lp:=d,draws:=fun _ h=>A6n hm h }
end
section
open Go
inductive Sh where
 | s (t:Nat)
 | a (ts:List Nat)
def PS(t:Nat)(u:U):W4:=if G9 u=t then toV u else none
def A1k:I9->List U->Option (D6×List U)
 | [],us=>some ([],us)
 | t::ts,u::us=>match PS t u,A1k ts us with
   | some v,some (vs,r)=>some (v::vs,r)
   | _,_=>none
 | _::_,[]=>none
def PQ:Sh->List U->Option (Value×List U)
 | .s t,u::us=>match PS t u with
   | some v=>some (v,us)
   | none=>none
 | .s _,[]=>none
 | .a ts,us=>match A1k ts us with
   | some (vs,r)=>some (.agg ⟨vs⟩,r)
   | none=>none
def A1j:List Sh->List U->Option D6
 | [],[]=>some []
 | [],_::_=>none
 | h::hs,us=>match PQ h us with
   | some (v,r)=>match A1j hs r with
     | some vs=>some (v::vs)
     | none=>none
   | none=>none
def tup:D6->Value
 | [v]=>v
 | vs=>.tuple ⟨vs⟩
structure kL (w w':World):Prop where
 os:w'.os=w.os/\w'.tape=w.tape/\w'.output=w.output
 size:w.heap.size<=w'.heap.size
 keep:∀ k,k<w.heap.size->w'.heap[k]? = w.heap[k]?
def GOk(G:Nat->Option Obj)(w:World):Prop:=∀ k o,G k=some o->w.heap[k]? = some o
def GOk.lt{G:Nat->Option Obj}{w:World}(h:GOk G w){k:Nat}{o:Obj}(a:G k=some o):k<w.heap.size:=by
 have:=h k o a;rcases G7 k w.heap.size with h1|h1
 .exact h1
 .rw[Array.getElem?_eq_none h1]at this;cases this
abbrev bB:=List U->Option (Nat×List U)
def Sh.tags:Sh->I9
 | .s t=>[t]
 | .a ts=>ts
def DA:List Sh->I9
 | []=>[]
 | s::ss=>s.tags++DA ss
def Sh.n(s:Sh):Nat:=s.tags.length
def shN:List Sh->Nat
 | []=>0
 | h::hs=>h.n+shN hs
def dY(a:List Sh):Bool:=(DA a).any (Nat.ble 10)
inductive ShR (R:Nat->Option Obj):Sh->List U->Value->Prop
 | s {t u v} (h:Enc R u v) (ht:G9 u=t):ShR R (.s t) [u] v
 | a {ts us cs} (h:y8 R us cs) (ht:us.map G9=ts):ShR R (.a ts) us (.agg ⟨cs⟩)
inductive ShL (R:Nat->Option Obj):List Sh->List U->D6->Prop
 | nil:ShL R [] [] []
 | cons {s ss us us2 v vs} (h:ShR R s us v) (k:ShL R ss us2 vs):ShL R (s::ss) (us++us2) (v::vs)
def y8.append{R:Nat->Option Obj}{us b:List U}{vs:D6}(h:y8 R us vs)(k:y8 R b vs2):y8 R (us++b) (vs++vs2):=by
 refine⟨by simp[h.1,k.1],fun i u v h1 d=>?_⟩;rcases G7 i us.length with a|a
 .rw[F8 a]at h1;rw[F8 (h.1▸a)]at d;exact h.2 i u v h1 d
 .rw[E9 a]at h1;rw[E9 (h.1▸a),<- h.1]at d;exact k.2 _ u v h1 d
def y8.split{R:Nat->Option Obj}:∀ {vs vs2:D6} {us:List U},y8 R us (vs++vs2)->∃ a b,us=a++b/\y8 R a vs/\y8 R b vs2
 | [],vs2,us,h=>⟨[],us,rfl,.nil,h⟩
 | v::vs,vs2,[],h=>by have:=h.1;simp at this
 | v::vs,vs2,u::us,h=>by
   obtain⟨a,b,rfl,h1,e⟩:=y8.split (vs:=vs) (vs2:=vs2) (us:=us) ⟨by have:=h.1;simpa using this,fun i x y d a2=>h.2 (i+1) x y (by simpa using d) (by simpa using a2)⟩;exact⟨u::a,b,rfl,.cons (h.2 0 u v rfl rfl) h1,e⟩
def y8.mono{R d:Nat->Option Obj}{us:List U}{vs:D6}(h:y8 R us vs)(k:Sub R d):y8 d us vs:=⟨h.1,fun i u v a b=>(h.2 i u v a b).mono k⟩
def PU{R:Nat->Option Obj}:∀ {ts:I9} {us r:List U} {vs:D6},A1k ts us=some (vs,r)->∃ a,us=a++r/\y8 R a vs/\a.map G9=ts
 | [],us,r,vs,h=>by cases h;exact⟨[],rfl,.nil,rfl⟩
 | t::ts,u::us,r,vs,h=>by
   unfold A1k at h;split at h
   .rename_i v d i h1 e;cases h;obtain⟨a,rfl,b,f⟩:=PU (R:=R) e;unfold PS at h1;split at h1
    .rename_i g;exact⟨u::a,rfl,.cons (.sc h1) b,by simp[g,f]⟩
    .cases h1
   .cases h
 | _::_,[],_,_,h=>by cases h
def A1i{R:Nat->Option Obj}{s:Sh}{us r:List U}{v:Value}(h:PQ s us=some (v,r)):∃ a,us=a++r/\ShR R s a v:=by
 cases s with
 | s t =>
   cases us with
   | nil=>cases h
   | cons u us =>
     simp only[PQ]at h;split at h
     .rename_i v1 b;cases h;unfold PS at b;split at b
      .rename_i g;exact⟨[u],rfl,.s (.sc b) g⟩
      .cases b
     .cases h
 | a ts =>
   simp only[PQ]at h;split at h
   .rename_i vs i b;cases h;obtain⟨a,d,f,e⟩:=PU (R:=R) b;exact⟨a,d,.a f e⟩
   .cases h
def DI{R:Nat->Option Obj}:∀ {b:List Sh} {us:List U} {vs:D6},A1j b us=some vs->ShL R b us vs
 | [],[],vs,h=>by cases h;exact .nil
 | [],_::_,_,h=>by cases h
 | s::b,us,vs,h=>by
   unfold A1j at h;split at h
   .rename_i v r e;split at h
    .rename_i f g;cases h;obtain⟨a,rfl,d⟩:=A1i (R:=R) e;exact .cons d (DI g)
    .cases h
   .cases h
def A6d{R:Nat->Option Obj}{us:List U}{vs:D6}(h:y8 R us vs)(b:vs2.length=us.length)(k:∀ (i:Nat) (u:U) (v:Value),us[i]? = some u->vs2[i]? = some v->toV u=some v):vs=vs2:=by
 refine i7 fun i=>?_
 rcases G7 i us.length with hi|hi
 .have h1:us[i]? = some us[i]:=A7 hi;have a:vs[i]? = some (vs[i]'(h.1▸hi)):=A7 _;have h3:vs2[i]? = some (vs2[i]'(b▸hi)):=A7 _;rw[a,h3,sK (h.2 i _ _ h1 a) (k i _ _ h1 h3)]
 .rw[M4 (by rw[<- h.1];exact hi),M4 (by rw[b];exact hi)]
def PT:∀ {ts:I9} {us r:List U} {vs:D6},A1k ts us=some (vs,r)->∃ a,us=a++r/\vs.length=a.length/\a.length=ts.length/\∀ (i:Nat) (u:U) (v:Value),a[i]? = some u->vs[i]? = some v->toV u=some v
 | [],us,r,vs,h=>by cases h;exact⟨[],rfl,rfl,rfl,fun i u v h=>by simp at h⟩
 | t::ts,u::us,r,vs,h=>by
   unfold A1k at h;split at h
   .rename_i v e k h1 j;cases h;obtain⟨a,rfl,g,f,d⟩:=PT j;unfold PS at h1;split at h1
    .refine⟨u::a,rfl,by simp[g],by simp[f],fun i x y b a2=>?_⟩;cases i with
     | zero=>simp at b a2;subst b;subst a2;exact h1
     | succ i=>exact d i x y (by simpa using b) (by simpa using a2)
    .cases h1
   .cases h
 | _::_,[],_,_,h=>by cases h
def y9{R:Nat->Option Obj}:∀ {j:List Sh} {us:List U} {vs vs2:D6},ShL R j us vs->A1j j us=some vs2->vs=vs2
 | [],us,vs,vs2,h,k=>by cases h;cases k;rfl
 | s::j,us,vs,vs2,h,k=>by
   cases h with
   | cons h1 l =>
     rename_i d f v vs;unfold A1j at k;split at k
     .rename_i v1 r g;split at k
      .rename_i q n;cases k;have o:d++f=d++f:=rfl;cases h1 with
       | s he i =>
         rename_i t u;have b:(match PS t u with|some v=>some (v,f)|none=>none)=some (v1,r):=g;cases e:PS t u with
         | none=>rw[e]at b;cases b
         | some w =>
           rw[e]at b;cases b;unfold PS at e;rw[A4 i]at e;rw[sK he e,y9 l n]
       | a he i =>
         rename_i ts cs;simp only[PQ]at g;split at g
         .rename_i y D z;cases g;obtain⟨a,A,x,p,C⟩:=PT z;have hlen:a.length=d.length:=by rw[p,<- i];simp
          obtain⟨rfl,rfl⟩:=List.append_inj A hlen.symm;rw[A6d he x C,y9 l n]
         .cases g
      .cases k
     .cases k
def I8(P:Program)(G:Nat->Option Obj)(f:FuncId)(ps:List Sh)(spec:bB)(rs:List Sh):Prop :=
 ∀ (us outs:List U) (w:World) (vs:List Value) (R:Nat->Option Obj),ShL R ps us vs->spec us=some (0,outs)->GOk G w->GOk R w ->
  (callFunc f ⟨vs⟩).run P w=.ok (.enter f ⟨vs⟩) w/\Calls P f ⟨vs⟩ w (fun e w'=>∃ r a,ShL a rs outs r/\e=.returned (tup r)/\kL w w'/\GOk a w'/\∀ k o,a k=some o->w.heap.size<=k∨∃ o',R k=some o')
def unA:List Sh->D6->Option D6
 | [],[]=>some []
 | .s _::ss,v::vs=>match unA ss vs with
   | some r=>some (v::r)
   | none=>none
 | .a ts::ss,.agg cs::vs=>bif Nat.beq cs.toList.length ts.length then match unA ss vs with
   | some r=>some (cs.toList++r)
   | none=>none else none
 | _,_=>none
def iF(P:Program)(ps:List Sh)(vs:List Value)(m:Mem):Option (D6×Mem) :=
 match unA ps vs with
 | some cs=>match HA (tdP P) (DA ps) cs m with
   | some (xs,[],m)=>some (xs,m)
   | some (xs,gs,m)=>match oH gs m with
     | some (_,m)=>some (xs,m)
     | none=>none
   | none=>none
 | none=>none
def A01(i t b:Nat):Value:=bif Nat.blt t 10 then hole i t else dat b i t
def A2q:I9->Nat->Nat->D6
 | [],_,_=>[]
 | t::ts,i,b=>A01 i t b::A2q ts (i+1) b
def B4Y:Sh->Nat->Nat->Value
 | .s t,i,b=>A01 i t b
 | .a ts,i,b=>.agg ⟨A2q ts i b⟩
def sW:List Sh->Nat->Nat->D6
 | [],_,_=>[]
 | h::hs,i,b=>B4Y h i b::sW hs (i+h.n) b
def A17(rs:List Sh)(nx:Nat)(m:Mem):Res :=
 bif dY rs then match iR m fun b m=>some (tup (sW rs nx b),b,m)with
  | some (v,_,m)=>some (v,m)
  | none=>none
 else some (tup (sW rs nx 0),m)
def B9i(m:Mem)(hi:Nat)(v:Value)(lg:Lg):Res :=
 match m with
 | ⟨H,n,W,_,_⟩=>some (v,⟨H,n,W,hi,lg⟩)
def A9o(P:Program)(ps:List Sh)(spec:bB)(rs:List Sh):FnC:=⟨fun vs m =>
 match iF P ps vs m with
 | some (xs,⟨H,n,W,hi,⟨nx,pi,log⟩⟩)=>M5 nx fun nx=>V9 xs fun xs=>M5 (nx+shN rs) fun a=>bif dY rs then A17 rs nx ⟨H,n,W,hi,⟨a,pi,.con spec xs nx 0 (shN rs)::log⟩⟩else B9i m hi (tup (sW rs nx 0)) ⟨a,pi,.con spec xs nx 0 (shN rs)::log⟩
 | none=>none⟩
def A1U{P:Program}{ps:List Sh}{spec:bB}{rs:List Sh}{vs:D6}{v:Value}(h:(A9o P ps spec rs).run vs m=some (v,m')) :
  ∃ xs m1,iF P ps vs m=some (xs,m1)/\((dY rs=true/\A17 rs m1.lg.nx (m1.wLg ⟨m1.lg.nx+shN rs,m1.lg.pi,.con spec xs m1.lg.nx 0 (shN rs)::m1.lg.log⟩)=some (v,m'))∨(dY rs=false/\v=tup (sW rs m1.lg.nx 0)/\m'=⟨m.H,m.n,m.W,m1.hi,⟨m1.lg.nx+shN rs,m1.lg.pi,.con spec xs m1.lg.nx 0 (shN rs)::m1.lg.log⟩⟩)):=by
 unfold A9o at h;simp only at h;split at h
 .rename_i xs H n W hi nx pi log e;simp only[G5,J2]at h;refine⟨xs,_,e,?_⟩;cases a:dY rs with
  | true=>rw[a]at h;exact .inl ⟨rfl,h⟩
  | false =>
    rw[a]at h;obtain⟨g,f,i,b,d⟩:=m;cases h;exact .inr ⟨rfl,rfl,rfl⟩
 .cases h
variable [Ora]
def VV{ρ:Ren}:∀ {b:List Sh} {vs vs' cs:D6},unA b vs=some cs->LR ρ vs vs'->∃ cs',unA b vs'=some cs'/\LR ρ cs cs'
 | [],[],vs',cs,h,hl=>by cases h;rw[hl.nil_inv];exact⟨[],rfl,.nil⟩
 | [],_::_,_,_,h,_=>by cases h
 | .s t::b,[],_,_,h,_=>by cases h
 | .a t::b,[],_,_,h,_=>by cases h
 | .s t::b,v::vs,vs',cs,h,hl=>by
   obtain⟨v',k,rfl,h1,g⟩:=hl.tail;unfold unA at h;split at h
   .rename_i r hr;cases h;obtain⟨cs',f,d⟩:=VV hr g;exact⟨v'::cs',by simp[unA,f],.cons h1 d⟩
   .cases h
 | .a ts::b,v::vs,vs',cs,h,hl=>by
   obtain⟨v',k,rfl,h1,g⟩:=hl.tail;cases v with
   | agg c =>
     unfold unA at h;obtain⟨hlen,h⟩:=A6 h;split at h
     .rename_i r hr;cases h;obtain⟨cs',f,d⟩:=VV hr g;obtain⟨i,rfl,j⟩:=o9 h1;refine⟨i++cs',?_,j.append d⟩;have e:Nat.beq i.length ts.length=true:=by rw[<- j.1];exact hlen
      simp[unA,f,e]
     .cases h
   | _=>cases h
def gL{R:Nat->Option Obj}:∀ {e:List Sh} {vs cs:D6} {us:List U},unA e vs=some cs->y8 R us cs->us.map G9=DA e->ShL R e us vs
 | [],[],cs,us,h,he,ht=>by
   cases h;have:us=[]:=D5.1 he.1;subst this;exact .nil
 | [],_::_,_,_,h,_,_=>by cases h
 | .s t::e,[],_,_,h,_,_=>by cases h
 | .a t::e,[],_,_,h,_,_=>by cases h
 | .s t::e,v::vs,cs,us,h,he,ht=>by
   unfold unA at h;split at h
   .rename_i r hr;cases h;obtain⟨a,b,rfl,d,f⟩:=y8.split (vs:=[v]) (vs2:=r) he
    match a,d with
    | [u],d =>
      simp only[List.singleton_append,F0,DA,Sh.tags,Y6,X4,H8]at ht;exact .cons (.s (d.2 0 u v rfl rfl) ht.1) (gL hr f ht.2)
    | [],d=>have:=d.1;simp at this
    | _::_::_,d=>have:=d.1;simp at this
   .cases h
 | .a ts::e,v::vs,cs,us,h,he,ht=>by
   cases v with
   | agg c =>
     unfold unA at h;obtain⟨hlen,h⟩:=A6 h;have hlen:=A1 hlen;split at h
     .rename_i r hr;cases h;obtain⟨a,b,rfl,d,f⟩:=y8.split he;simp only[O2,DA,Sh.tags]at ht;obtain⟨t1,t2⟩:=List.append_inj ht (by simp[d.1,hlen]);obtain⟨l⟩:=c;exact .cons (.a d t1) (gL hr f t2)
     .cases h
   | _=>cases h
section
variable {P:Program} {base gl:Nat}
def C1J(ρ:Ren)(m:Mem)(R:Nat->Option Obj):Prop:=∀ k o,R k=some o->∃ id ab l,id<=J0/\Hp.get m.H id=some ab/\ρ id=some l/\Tf ab l k/\ab.rw=false
def uZ{ρ:Ren}{w:World}{ps:List Sh}{vs xs:D6}(h:HR P base ρ m.H w)(d:iF P ps vs m=some (xs,m'))(j:M8 ρ m.n m'.hi)(J:LR ρ vs vs')(E:Sat m'.lg) :
  ∃ a R,St P base ρ a m m' w w/\m.lg.le m'.lg/\ShL R ps (xs.map (E7 Ora.env)) vs'/\GOk R w/\C1J a m' R:=by
 unfold iF at d;split at d
 .rename_i cs t;obtain⟨cs',D,A⟩:=VV t J;split at d
  .rename_i u m1 v;cases d;obtain⟨a,f,a2,a3,a4,a5,p⟩:=mQ U7 h v j A E;exact⟨a,fun _=>none,f,a2,gL D (p _ fun b y=>by cases y) a5,(fun k o e=>by cases e),(fun k o e=>by cases e)⟩
  .rename_i u gs m1 v;split at d
   .rename_i g m2 C;cases d;have s:=Q3 C;obtain⟨L,f,a2,a3,a4,a5,p⟩:=mQ U7 h v (j.less s.1) A (by rw[<- s.2.1];exact E);obtain⟨ρ2,lg,x,N,O,q,z,I⟩:=iX f.hr C (j.step f);have i:=(x.hr.atl q z).1.2;exact⟨ρ2,lg.G,St.trans j f x,by rw[s.2.1];exact a2,gL D (p _ fun b y l K=>I b y l K) a5,i,fun k o e=>⟨g,_,lg,x.hr.dom _ _ q,z,q,⟨rfl,.inr ⟨rfl,o,e⟩⟩,rfl⟩⟩
   .cases d
  .cases d
 .cases d
def TP{ρ:Ren}{R:Nat->Option Obj}{i t b:Nat}{u:U}{v:Value}(h:Enc R u v)(j:G9 u=t)(he:Ora.env i=u)(k:10<=t->ρ b=some (fS R)):VR ρ (A01 i t b) v:=by
 unfold A01;cases e:Nat.blt t 10 with
 | true =>
   have a:t<10:=A2 e;obtain⟨v1,g,_,_⟩:=ZK (u:=u) A0
   have:=sK h g;subst this;exact .hole (by rw[he];exact g) (by rw[he];exact j)
 | false =>
   have a:10<=t:=by
    rcases G7 t 10 with d|f
    .rw[show Nat.blt t 10=true from D2 d]at e;cases e
    .exact f
   exact .dat (k a) (by rw[he];exact h) (by rw[he];exact j) a (qN h)
def PP{ρ:Ren}{R:Nat->Option Obj}{b:Nat}:∀ {ts:I9} {us:List U} {cs:D6} {i:Nat},y8 R us cs->us.map G9=ts->(∀ j u,us[j]? = some u->Ora.env (i+j)=u)->(∀ t ∈ ts,10<=t->ρ b=some (fS R))->LR ρ (A2q ts i b) cs
 | [],us,cs,i,h,ht,he,hb=>by
   have:us=[]:=by cases us with|nil=>rfl|cons _ _=>simp at ht
   subst this;have:cs=[]:=D5.1 h.1.symm;subst this;exact .nil
 | t::ts,[],cs,i,h,ht,he,hb=>by simp at ht
 | t::ts,u::us,[],i,h,ht,he,hb=>by have:=h.1;simp at this
 | t::ts,u::us,c::cs,i,h,ht,he,hb=>by
   simp only[F0,H8]at ht;refine .cons (TP (h.2 0 u c rfl rfl) ht.1 (he 0 u rfl) (hb t (.head _))) (PP ⟨by have:=h.1;simpa using this,fun j x y d a2=>h.2 (j+1) x y (by simpa using d) (by simpa using a2)⟩ ht.2 (fun j x f=>?_) fun e a=>hb e (.tail _ a))
   have:=he (j+1) x (by simpa using f);rw[show i+1+j=i+(j+1) by omega];exact this
def lG{ρ:Ren}{R:Nat->Option Obj}{b:Nat}:∀ {g:List Sh} {us:List U} {vs:D6} {i:Nat},ShL R g us vs->(∀ j u,us[j]? = some u->Ora.env (i+j)=u)->(dY g=true->ρ b=some (fS R))->LR ρ (sW g i b) vs/\us.length=shN g
 | [],us,vs,i,h,he,hb=>by cases h;exact⟨.nil,rfl⟩
 | s::g,us,vs,i,h,he,hb=>by
   cases h with
   | cons h1 y =>
     rename_i e x v vs;have p:∀ t ∈ s.tags,10<=t->ρ b=some (fS R):=fun t d f=>hb (Y7.2 ⟨t,B5.2 (.inl d),D2 f⟩)
     have o:dY g=true->ρ b=some (fS R):=fun w=>by
      obtain⟨t,d,f⟩:=Y7.1 w;exact hb (Y7.2 ⟨t,B5.2 (.inr d),f⟩)
     have q:e.length=s.n:=by
      cases h1 with
      | s _ _=>rfl
      | a _ d=>show _=List.length _;rw[<- d];simp[Sh.tags]
     obtain⟨g1,g2⟩:=lG (i:=i+s.n) y (fun j u l=>by
      have:=he (e.length+j) u (by rw[E9 A0,r8];exact l);rw[<- q,fC];exact this) o
     refine⟨.cons ?_ g1,by simp[shN,q,g2]⟩;have k:∀ j u,e[j]? = some u->Ora.env (i+j)=u:=fun j u l=>he j u (by rw[F8 (B3.1 l).1];exact l)
     cases h1 with
     | s h d=>exact TP h d (by have:=k 0 _ rfl;simpa using this) (p _ (.head _))
     | a h d =>
       have:=PP (b:=b) h d k p;exact .agg this.1 this.2
def VW{ρ:Ren}{vs:D6}(h:LR ρ vs vs'):VR ρ (tup vs) (tup vs'):=by
 match vs,vs',h with
 | [],vs',h=>rw[h.nil_inv];exact .tuple (a:=[]) (a':=[]) rfl (fun i v v' h1 _=>by simp at h1)
 | [v],vs',h =>
   obtain⟨v',d,rfl,h1,b⟩:=h.tail;cases b.nil_inv;exact h1
 | v::u::r,vs',h =>
   obtain⟨v',d,rfl,h1,b⟩:=h.tail;obtain⟨f,e,rfl,h3,g⟩:=b.tail;exact .tuple h.1 h.2
def St.grown{ρ:Ren}{w w':World}(h:HR P base ρ m.H w)(g:kL w w'):St P base ρ ρ m m w w' :=
 ⟨fun _ _ h=>h,fun b l h1 a=>(by rw[h1]at a;cases a),B0 _,B0 _,fun h=>h,
  ⟨h.dom,fun id hid ab e=>by
    obtain⟨l,h1,a,h3⟩:=h.at_ id hid ab e;exact⟨l,h1,a.mono (fun _ _ h=>h) (fun k d=>g.keep k (a.tc d)),h3⟩⟩,
  fun _ h=>h,fun b h1 a=>absurd h1 a,fun k d _=>g.keep k d,g.size,g.os,fun b l h1 a=>(by rw[h1]at a;cases a),fun _ _ _ _=>rfl,fun _ h=>.inr h⟩
def St.grownLg{ρ:Ren}{w w':World}(h:HR P base ρ m.H w)(g:kL w w')(lg:Lg):St P base ρ ρ m (m.wLg lg) w w':=by
 obtain⟨H,n,W,hi,l⟩:=m;have r:=St.grown (m:=⟨H,n,W,hi,l⟩) h g;exact⟨r.ext,r.new,r.nle,r.hle,r.nhi,r.hr,r.wsub,r.wrw,r.keep,r.size,r.os,r.blk,r.same,r.tch⟩
def St.ret{ρ:Ren}{w w':World}{G:Nat->Option Obj}(h:HR P base ρ m.H w)(g:kL w w')(N:y6 m .frz (fun _=>undef)=some (undef,m1))(Q:M8 ρ m.n m1.hi)(S:GOk G w')
  (L:∀ k o,G k=some o->w.heap.size<=k∨∃ id ab l,id<=J0/\Hp.get m.H id=some ab/\ρ id=some l/\Tf ab l k/\ab.rw=false):upd ρ m.n (fS G) m.n=some (fS G)/\St P base ρ (upd ρ m.n (fS G)) m m1 w w':=by
 obtain⟨hle,_,rfl⟩:=N1 N;have s:ρ m.n=none:=Q m.n (B0 _) (L9 _ _).2;have i:=u5 (l:=fS G) s;refine⟨M7 _ _ _,i,fun b q h1 f=>?_,by simp,(L9 _ _).1,fun _=>g9 (L9 _ _).2,⟨fun b q C=>?_,fun id hid a d=>?_⟩,fun b T=>T,fun b h1 f=>absurd h1 f,fun q C _=>g.keep q C,g.size,g.os,fun b q h1 f p=>?_,fun id hid h1 f=>?_,fun q ⟨id,a,l,hid,d,v,K⟩=>?_⟩
 .obtain⟨rfl,rfl⟩:=W5 h1 f;exact⟨B0 _,K4 _⟩
 .cases h0:ρ b with
  | some U=>exact h.dom b U h0
  | none=>obtain⟨rfl,rfl⟩:=W5 C h0;exact hle
 .rw[F5 _ _ _ _ hle hid]at d;by_cases e:id=m.n
  .rw[A4 e]at d;have d:=A9 d;subst d;subst e;exact⟨fS G,M7 _ _ _,⟨rfl,S⟩,fun _ p=>(by cases p)⟩
  .rw[A3 e]at d;obtain⟨l0,h1,f,h3⟩:=h.at_ id hid a d;refine⟨l0,i _ _ h1,f.mono i (fun k O=>g.keep k (f.tc O)),fun hr p=>⟨(h3 hr p).1,fun y j z l2 g1 g2 g3=>?_⟩⟩;rw[F5 _ _ _ _ hle j]at g1;by_cases A:y=m.n
   .subst A;rw[M7]at g2
    have:=A9 g2;subst this;rcases g3 with⟨_,g3,_⟩|⟨_,o,g3⟩
    .cases g3
    .rcases L _ o g3 with x|⟨t,a3,l3,D,u,I,J,E⟩
     .have:=f.tc (.inl ⟨AB.rw_on hr,p,rfl⟩);omega
     .have:=(h3 hr p).2 t D a3 l3 u I J.2;subst this;rw[d]at u;have u:=A9 u;subst u;rw[hr]at E;cases E
   .rw[A3 A]at g1;unfold upd at g2;rw[A3 A]at g2;exact(h3 hr p).2 y j z l2 g1 g2 g3
 .obtain⟨rfl,rfl⟩:=W5 h1 f;cases p
 .rw[F5 _ _ _ _ hle hid,A3];intro e;subst e;rcases f with f|f
  .omega
  .have f:upN m.hi m.n<=m.n:=f
   have:=(L9 m.hi m.n).2;omega
 .have d:Hp.get (m.H.set m.n (some .frz)) id=some a:=d;rw[F5 _ _ _ _ hle hid]at d;by_cases e:id=m.n
  .subst e;rw[A4 rfl]at d;have d:=A9 d;subst d;rw[M7]at v;have v:=A9 v;subst v;rcases K.2 with⟨_,h3,_⟩|⟨_,o,h3⟩
   .cases h3
   .rcases L _ o h3 with x|⟨t,a3,l3,D,u,I,J,E⟩
    .exact .inl x
    .exact .inr ⟨t,a3,l3,D,u,I,J⟩
  .rw[A3 e]at d;unfold upd at v;rw[A3 e]at v;exact .inr ⟨id,a,l,hid,d,v,K⟩
def St.back{ρ:Ren}{w w':World}{hi:Nat}{lg:Lg}(h:HR P base ρ m.H w)(g:kL w w')(hh:m.hi<=hi):St P base ρ ρ m ⟨m.H,m.n,m.W,hi,lg⟩ w w':=by
 have r:=St.grownLg (m:=m) h g lg;refine⟨r.ext,fun b l h1 a=>(by rw[h1]at a;cases a),B0 _,hh,fun h=>B9 h hh,?_,fun _ h=>h,fun b h1 a=>absurd h1 a,fun k d _=>g.keep k d,g.size,g.os,fun b l h1 a=>(by rw[h1]at a;cases a),fun _ _ _ _=>rfl,fun _ h=>.inr h⟩
 have:=r.hr;rw[oV]at this;exact this
theorem A9n{f:FuncId}{ps:List Sh}{spec:bB}{rs:List Sh}(h:I8 P Ora.G f ps spec rs):nW P base gl f (A9o P ps spec rs):=by
 have q:∀ {nx:Nat} {m m':Mem} {v:Value},dY rs=true->A17 rs nx m=some (v,m')->m'.lg=m.lg/\m.hi<=m'.hi/\m.n<=m'.n:=fun{nx m m' v} a hr=>by
  unfold A17 at hr;rw[a]at hr;simp only[F7]at hr;split at hr
  .rename_i x;cases hr;obtain⟨m2,H,I,_⟩:=U3 x;cases I;obtain⟨_,_,rfl⟩:=N1 H;exact⟨rfl,(L9 _ _).1,t8 _⟩
  .cases hr
 have i:∀ {vs xs:D6} {m m1:Mem},iF P ps vs m=some (xs,m1)->m.lg.le m1.lg/\m.hi<=m1.hi:=fun{vs xs m m1} h1=>by
  unfold iF at h1;split at h1
  .split at h1
   .rename_i a;cases h1;exact⟨(S2 U7 a).2.1,(S2 U7 a).1⟩
   .rename_i a;split at h1
    .rename_i O;cases h1;exact⟨by rw[(Q3 O).2.1];exact(S2 U7 a).2.1,B9 (S2 U7 a).1 (Q3 O).1⟩
    .cases h1
   .cases h1
  .cases h1
 refine⟨fun vs m m' v hr=>?_,fun ρ m m' w vs vs' v hr N d hl=>.inl ?_⟩
 .obtain⟨xs,m1,h1,⟨a,g⟩|⟨a,_,rfl⟩⟩:=A1U hr
  .rw[(q a g).1,x3];exact(i h1).1.trans ⟨[_],rfl⟩
  .exact(i h1).1.trans ⟨[_],rfl⟩
 .obtain⟨xs,m1,h1,g⟩:=A1U hr;have A:m'.lg=⟨m1.lg.nx+shN rs,m1.lg.pi,.con spec xs m1.lg.nx 0 (shN rs)::m1.lg.log⟩/\m1.hi<=m'.hi:=by
   rcases g with⟨a,g⟩|⟨a,_,rfl⟩
   .obtain⟨r1,u,_⟩:=q a g;simp only[x3,LN]at r1 u;exact⟨r1,u⟩
   .exact⟨rfl,B0 _⟩
  obtain⟨r1,u⟩:=A;have s:t6.con spec xs m1.lg.nx 0 (shN rs) ∈ m'.lg.log:=by rw[r1];exact C7
  have y:Sat m1.lg:=V3.le N (by rw[r1];exact⟨[_],rfl⟩);obtain⟨t,R,J,a2,a3,a4,a5⟩:=uZ d.hr h1 (d.fr.less u) hl y;obtain⟨outs,h3,h4,K⟩:=N _ s;obtain⟨T,Y⟩:=h _ outs w vs' R a3 h3 (fun k o D=>(d.gf k o D).2) a4;refine⟨T,Y.mono fun e w' ⟨r,Q,g1,g2,g3,g4,g5⟩=>?_⟩;rcases g with⟨a,g⟩|⟨a,rfl,rfl⟩
  .let j:Lg:=⟨m1.lg.nx+shN rs,m1.lg.pi,.con spec xs m1.lg.nx 0 (shN rs)::m1.lg.log⟩
   have g:A17 rs m1.lg.nx (m1.wLg j)=some (v,m'):=g;have p:St P base ρ t m (m1.wLg j) w w:=St.trans (d.fr.less (by simpa using u)) J (St.wLg J.hr j);have C:M8 t (m1.wLg j).n m'.hi:=by simpa using d.fr.step J
   unfold A17 at g;rw[a]at g;simp only[F7]at g;split at g
   .rename_i v0 b m2 x;cases g;obtain⟨m3,H,I,_⟩:=U3 x;cases I;obtain⟨S,e2⟩:=St.ret (G:=Q) p.hr g3 H C g4 fun k o D=>by
     rcases g5 k o D with E|⟨o',z⟩
     .exact .inl E
     .obtain⟨id,ab,l,Z,p2,p3,U,W⟩:=a5 k o' z;exact .inr ⟨id,ab,l,Z,by rw[oV];exact p2,p3,U,W⟩
    exact⟨_,_,g2,VW (lG g1 K fun _=>S).1,St.trans d.fr p e2⟩
   .cases g
  .exact⟨_,ρ,g2,VW (lG g1 K fun L=>by rw[a]at L;cases L).1,St.back d.hr g3 (i h1).2⟩
end
end
end Go.Sx
