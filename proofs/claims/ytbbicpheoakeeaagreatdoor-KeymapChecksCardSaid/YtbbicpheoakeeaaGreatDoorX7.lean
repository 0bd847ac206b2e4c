import Derived.Test.YtbbicpheoakeeaaGreatDoorX6
import Derived.Lib.Bytealg
import Derived.Lib.MakeNoZero
set_option linter.all false
set_option maxRecDepth 100000
set_option maxHeartbeats 4000000
namespace Go.Sx
variable {m m' m1 m2:Mem}{c:Cls}{r:Option (Nat×AB)}{rs:List Rec}{op:OpC}{fn:Func}{vs' vs2:D3}
section
open Go
variable [Ora]
def A3a(ops:Array Oper)(X:Nat->Qs)(i:Nat)(o:Oper):Bool:=JO o.op i ((Z4 ops.toList []).getD i []) ((Z4 ops.toList []).drop (i+1)) (ops.toList.drop (i+1)) (X i)
structure Rg (P:Program) (base gl nt:Nat) (call:P7) (ops:Array Oper) (F:Nat->Fr) (M:Nat->Mem) (V:Nat->Value) (R:Nat->List Rec) (X:Nat->Qs) (B:Nat->Bool):Prop where
 st:∀ i o,ops[i]? = some o->IH P nt gl call ops.toList ((Z4 ops.toList []).getD i []) (R i) (B i) o (F i) (F (i+1)) (M i) (M (i+1)) (V i)
 rc:∀ i o,ops[i]? = some o->(R (i+1)=R i/\∃ lg,M (i+1)=(M i).wLg lg)∨(B i=true/\R (i+1)=[])∨R (i+1)=⟨i,(M i).n,(M (i+1)).n⟩::R i
 qs:∀ i o,ops[i]? = some o->QsN (B i) i nt ops.toList (X5 P call o) ((Z4 ops.toList []).getD i []) (R i) (F i) o (M i) (M (i+1)) (V i) (X i) (X (i+1))
 sb:∀ i o,ops[i]? = some o->B i=true->A3a ops X i o=true
 x0:X 0=[]
 ok:KQ ops.toList (Z4 ops.toList []) ops.toList 0=true
structure Ph (ops:Array Oper) (B:Nat->Bool) (M:Nat->Mem) (lo up:Nat):Prop where
 le:lo<=up
 sz:up<=ops.size
 nh:(M lo).n<=(M lo).hi
 mx:∀ i o,lo<=i->i<up->ops[i]? = some o->B i=false
section
variable {P:Program} {base gl nt:Nat} {call:P7} {ops:Array Oper} {F:Nat->Fr} {M:Nat->Mem} {V:Nat->Value} {R:Nat->List Rec} {X:Nat->Qs} {B:Nat->Bool} {lo up:Nat}
def Q4{i:Nat}(h:i<ops.size):∃ o,ops[i]? = some o:=⟨ops[i],by simp[h]⟩
def Rg.one(g:Rg P base gl nt call ops F M V R X B){i:Nat}{o:Oper}(f:ops[i]? = some o)(a:B i=false)(b:(M i).n<=(M i).hi):(M i).n<=(M (i+1)).n/\(M i).hi<=(M (i+1)).hi/\(M (i+1)).n<=(M (i+1)).hi/\(M (i+1)).W=(M i).W /\
  ∀ id,id<=H8->(id<(M i).n∨(M (i+1)).n<=id)->Hp.get (M (i+1)).H id=Hp.get (M i).H id:=by
 obtain⟨_,_,_,h⟩:=g.st i o f;rcases h with⟨_,lg,_,_,h⟩|⟨_,lg,l,_,_,h⟩|⟨h,_⟩|⟨_,_,lg,_,mv,m',_,_,_,d,hm⟩
 .rw[h];exact⟨A6 _,A6 _,b,rfl,fun _ _ _=>rfl⟩
 .rw[h];exact⟨A6 _,A6 _,b,rfl,fun _ _ _=>rfl⟩
 .rw[a]at h;cases h
 .obtain⟨h1,k,h3,e,_,_,_,j⟩:=KX hm b d;exact⟨h1,k,h3,e,fun id hid hh=>by rw[j id hid,A7 (by show ¬ ((M i).n<=id/\_);omega)];rfl⟩
def Rg.allD(g:Rg P base gl nt call ops F M V R X B)(a:Ph ops B M lo up):∀ d,lo+d<=up->(M lo).n<=(M (lo+d)).n/\(M lo).hi<=(M (lo+d)).hi/\(M (lo+d)).n<=(M (lo+d)).hi/\(M (lo+d)).W=(M lo).W /\
  ∀ id,id<=H8->(id<(M lo).n∨(M (lo+d)).n<=id)->Hp.get (M (lo+d)).H id=Hp.get (M lo).H id
 | 0,_=>⟨A6 _,A6 _,a.nh,rfl,fun _ _ _=>rfl⟩
 | d+1,h=>by
   obtain⟨h1,l,h3,e,k⟩:=g.allD a d A2;obtain⟨o,b⟩:=Q4 (ops:=ops) (i:=lo+d) (by have:=a.sz;omega);obtain⟨j,p,f,q,s⟩:=g.one b (a.mx _ o A2 A2 b) h3;exact⟨C6 h1 j,C6 l p,f,q.trans e,fun id hid hh=>by
    rw[show lo+(d+1)=lo+d+1 by omega]at hh ⊢;rw[s id hid A2,k id hid A2]⟩
def Rg.all(g:Rg P base gl nt call ops F M V R X B)(a:Ph ops B M lo up){i:Nat}(h0:lo<=i)(h:i<=up):(M lo).n<=(M i).n/\(M lo).hi<=(M i).hi/\(M i).n<=(M i).hi/\(M i).W=(M lo).W /\
  ∀ id,id<=H8->(id<(M lo).n∨(M i).n<=id)->Hp.get (M i).H id=Hp.get (M lo).H id:=by
 have:=g.allD a (i-lo) A2
 rwa[show lo+(i-lo)=i by omega]at this
def Rg.mono(g:Rg P base gl nt call ops F M V R X B)(a:Ph ops B M lo up){i:Nat}(h0:lo<=i):∀ d,i+d<=up->(M i).n<=(M (i+d)).n/\(M i).hi<=(M (i+d)).hi/\∀ id,id<=H8->id<(M i).n->Hp.get (M (i+d)).H id=Hp.get (M i).H id
 | 0,_=>⟨A6 _,A6 _,fun _ _ _=>rfl⟩
 | d+1,h=>by
   obtain⟨h1,j,f⟩:=g.mono a h0 d A2;obtain⟨o,b⟩:=Q4 (ops:=ops) (i:=i+d) (by have:=a.sz;omega);obtain⟨e,k,p,q,l⟩:=g.one b (a.mx _ o A2 A2 b) (g.all a (i:=i+d) A2 A2).2.2.1;exact⟨C6 h1 e,C6 j k,fun id hid hh=>by rw[show i+(d+1)=i+d+1 by omega,l id hid A2,f id hid hh]⟩
def Rg.le(g:Rg P base gl nt call ops F M V R X B)(a:Ph ops B M lo up){i j:Nat}(h0:lo<=i)(h:i<=j)(b:j<=up):(M i).n<=(M j).n/\(M i).hi<=(M j).hi/\∀ id,id<=H8->id<(M i).n->Hp.get (M j).H id=Hp.get (M i).H id:=by
 have:=g.mono a h0 (j-i) A2
 rwa[show i+(j-i)=j by omega]at this
def QY{mv:Mem}{us:List Rec}(h:CO m c us=some mv):mv.lg=m.lg:=by
 obtain⟨H,n,W,hi,lg⟩:=m;unfold CO at h;simp only at h;cases c with
 | free=>cases h;rfl
 | one b =>
   simp only at h;cases a:x9 (c8 us) b || !(Nat.ble b H8)with
   | true=>rw[a]at h;cases h
   | false=>rw[a,eT]at h;cases h;rfl
 | all =>
   simp only at h;obtain⟨d,h⟩:=A3 h;cases h;rfl
def KY(h:lT m m'=some m2):m2.lg=m'.lg:=by
 unfold lT at h;cases a:Nat.ble m'.hi m.n with
 | true=>rw[a]at h;cases h;rfl
 | false =>
   rw[a]at h;obtain⟨_,h⟩:=A3 h;simp only[F0,eI]at h;cases h;rfl
def nI{a b:Addr}(h:FW a b=true):a=b:=by
 unfold FW at h;split at h
 .obtain⟨h1,d⟩:=B7 h;rw[A0 h1,A0 d]
 .cases h
def VM{a b:Fn}(h:OP a b=true):a=b:=by
 unfold OP at h;split at h
 .rw[A0 h]
 .rw[A0 h]
 .cases h
def qS{s:Value->Value->Bool}(d:∀ a b,s a b=true->a=b):∀ {l r:D3},CY s l r=true->l=r
 | [],[],_=>rfl
 | [],_::_,h=>by cases h
 | _::_,[],h=>by cases h
 | a::l,b::r,h=>by
   obtain⟨h1,e⟩:=B7 (show(s a b && CY s l r)=true from h);rw[d a b h1,qS d e]
def B1o{a b:X1}(h:a.toList=b.toList):a=b:=by cases a;cases b;cases h;rfl
def YX:∀ (d:Nat) (v w:Value),yO d v w=true->v=w:=by
 intro d;induction d with
 | zero =>
   intro v w h;unfold yO at h;split at h
   .rw[eq_of_beq h]
   .obtain⟨h1,e⟩:=B7 h;rw[cN]at e;rw[iA h1,eq_of_beq e]
   .obtain⟨h1,e⟩:=B7 h;rw[A0 h1,A0 e]
   .obtain⟨h1,e⟩:=B7 h;rw[A0 h1,A0 e]
   .rename_i s t;have h1:=I5 h;cases s with|mk s=>cases t with|mk t=>cases s;cases t;cases h1;rfl
   .rfl
   .rw[nI h]
   .obtain⟨h1,e⟩:=B7 h;rw[A0 h1,A0 e]
   .obtain⟨h0,h⟩:=B7 h;obtain⟨h1,e⟩:=B7 h;rw[nI h0,A0 h1,A0 e]
   .rfl
   .rw[A0 h]
   .rfl
   .rfl
   all_goals first|cases h|(rename_i hh;cases hh)
 | succ d i =>
   intro v w h;unfold yO at h;split at h
   .rw[eq_of_beq h]
   .obtain⟨h1,e⟩:=B7 h;rw[cN]at e;rw[iA h1,eq_of_beq e]
   .obtain⟨h1,e⟩:=B7 h;rw[A0 h1,A0 e]
   .obtain⟨h1,e⟩:=B7 h;rw[A0 h1,A0 e]
   .rename_i s t;have h1:=I5 h;cases s with|mk s=>cases t with|mk t=>cases s;cases t;cases h1;rfl
   .rfl
   .rw[nI h]
   .obtain⟨h1,e⟩:=B7 h;rw[A0 h1,A0 e]
   .obtain⟨h0,h⟩:=B7 h;obtain⟨h1,e⟩:=B7 h;rw[nI h0,A0 h1,A0 e]
   .rfl
   .rw[A0 h]
   .rfl
   .rfl
   .rename_i j f a b g a' b' he;cases he;obtain⟨h0,h⟩:=B7 h;obtain⟨h1,e⟩:=B7 h;rw[VM h0,B1o (qS i h1),B1o (qS i e)]
   .rename_i j t v u w he;cases he;obtain⟨h1,e⟩:=B7 h;rw[A0 h1,i _ _ e]
   .cases h
def ZB{a b:AB}(h:ZC a b=true):a=b:=by
 unfold ZC at h;split at h
 .rfl
 .obtain⟨h0,h⟩:=B7 h;obtain⟨h1,d⟩:=B7 h;rw[qS (YX 6) h0,A0 h1,eq_of_beq d]
 .cases h
def zY{H:Hp AB}{b:Nat}{ab:AB}(h:zZ H b ab=true):Hp.get H b=some ab/\b<=H8:=by
 unfold zZ at h;split at h
 .rename_i x a;obtain⟨h1,d⟩:=B7 h;exact⟨by rw[a,ZB d],A1 h1⟩
 .cases h
def tK{mv:Mem}{us:List Rec}(h:GE m r us=some mv):mv.n=tA/\mv.hi=tA/\mv.W=[]/\mv.lg=m.lg/\(∀ id,id<=H8->∀ ab,Hp.get mv.H id=some ab->r=some (id,ab))/\∀ b ab,r=some (b,ab)->zZ m.H b ab=true/\b ∉ c8 us:=by
 obtain⟨H,n,W,hi,lg⟩:=m;unfold GE at h;simp only at h;cases r with
 | none =>
   cases h;exact⟨rfl,rfl,rfl,rfl,fun id _ ab a=>(by rw[sJ]at a;cases a),fun b ab i=>by cases i⟩
 | some p =>
   obtain⟨b,f⟩:=p;simp only at h;cases d:x9 (c8 us) b || !(zZ H b f)with
   | true=>rw[d]at h;cases h
   | false =>
     rw[d,eT]at h;cases h;simp only[c9,Bool.not_eq_false']at d;have i:=(zY d.2).2;refine⟨rfl,rfl,rfl,rfl,fun id hid ab a=>?_,fun b' ab' g=>?_⟩
     .have a:Hp.get (Hp.set hp0 b (some f)) id=some ab:=a;rw[F1 _ _ _ _ i hid]at a;by_cases e:id=b
      .subst e;rw[A9 rfl]at a;cases a;rfl
      .rw[A7 e,sJ]at a;cases a
     .cases g;exact⟨d.2,fun hm=>by rw[W7.2 hm]at d;exact absurd d.1 (by simp)⟩
def lL{fr:Fr}{o:Oper}{b:H5}{v:Value}{lg:Lg}(h:lM fr m o b rs op=some (v,lg)):∃ mv m',GE m (MA m.H fr o.op) (DQ b rs)=some mv/\op.run fr mv=some (v,m')/\m'.W=[]/\m'.hi=tA/\m'.lg=lg:=by
 unfold lM at h;split at h
 .rename_i mv hv;split at h
  .rename_i v' H n hi a hr;obtain⟨h1,d⟩:=A3 h;cases d;exact⟨mv,_,hv,hr,rfl,A0 h1,rfl⟩
  .cases h
 .cases h
def CT{all:List Oper}{b:H5}{f:Bool}{o:Oper}{fr a:Fr}{v:Value}(d:V8 P base gl call)(h:IH P nt gl call all b rs f o fr a m m2 v):m.lg.le m2.lg:=by
 obtain⟨_,_,_,h⟩:=h;rcases h with⟨_,lg,hw,_,h⟩|⟨_,lg,i,hw,g,h⟩|⟨_,lg,hw,hr,_⟩|⟨_,_,lg,hw,mv,m',hv,hr,_,j,hm⟩
 .rw[h];exact hJ hw
 .obtain⟨mv,m',hv,hr,_,_,e⟩:=lL g;have h1:=aK d hr;rw[(tK hv).2.2.2.1,e]at h1;rw[h];exact(hJ hw).trans h1
 .have h1:=aK d hr;rw[i7]at h1;exact(hJ hw).trans h1
 .rw[KY hm];have h1:=aK d hr;rw[QY hv]at h1;exact(hJ hw).trans h1
def Rg.lgs(g:Rg P base gl nt call ops F M V R X B)(a:V8 P base gl call){i:Nat}:∀ d,i+d<=ops.size->(M i).lg.le (M (i+d)).lg
 | 0,_=>.refl _
 | d+1,h=>by
   obtain⟨o,b⟩:=Q4 (ops:=ops) (i:=i+d) A2;exact(g.lgs a d A2).trans (CT a (g.st (i+d) o b))
def Rg.who(g:Rg P base gl nt call ops F M V R X B)(e:Ph ops B M lo up):∀ d,lo+d<=up->∀ b,(M lo).n<=b->b<(M (lo+d)).n->∃ k,lo<=k/\k<lo+d/\(M k).n<=b/\b<(M (k+1)).n
 | 0,_,b,h1,a=>by have a:b<(M lo).n:=a;omega
 | d+1,h,b,h1,a=>by
   rcases G1 b (M (lo+d)).n with h3|h3
   .obtain⟨k,f,j,i⟩:=g.who e d A2 b h1 h3;exact⟨k,f,A2,i⟩
   .exact⟨lo+d,A2,A2,h3,a⟩
def zF:∀ {rs:List Rec} {b:Nat},b ∈ c8 rs↔∃ r ∈ rs,r.lo<=b/\b<r.hi
 | [],b=>by simp[c8]
 | r::rs,b=>by
   simp only[c8,B8,lU,zF (rs:=rs),B6];constructor
   .rintro(h|⟨a,h1,d⟩)
    .exact⟨r,.inl rfl,A2⟩
    .exact⟨a,.inr h1,d⟩
   .rintro⟨a,rfl|h1,d⟩
    .exact .inl A2
    .exact .inr ⟨a,h1,d⟩
def Rg.recs(g:Rg P base gl nt call ops F M V R X B)(j:Ph ops B M lo up):∀ d,lo+d<=up->∀ k,lo<=k->k<lo+d->∀ b,(M k).n<=b->b<(M (k+1)).n->⟨k,(M k).n,(M (k+1)).n⟩ ∈ R (lo+d)
 | 0,_,k,_,h,_,_,_=>by omega
 | d+1,hi,k,hk,h,b,h1,f=>by
   obtain⟨o,l⟩:=Q4 (ops:=ops) (i:=lo+d) (by have:=j.sz;omega);have a:=j.mx _ o A2 A2 l;show _ ∈ R (lo+d+1);by_cases e:k=lo+d
   .subst e;rcases g.rc (lo+d) o l with⟨_,lg,h3⟩|⟨h3,_⟩|h3
    .rw[h3]at f;have f:b<(M (lo+d)).n:=f;omega
    .rw[a]at h3;cases h3
    .rw[h3];exact B5
   .have:=g.recs j d A2 k hk A2 b h1 f;rcases g.rc (lo+d) o l with⟨h3,_⟩|⟨h3,_⟩|h3
    .rw[h3];exact this
    .rw[a]at h3;cases h3
    .rw[h3];exact C5 _ this
def A3R{mv:Mem}{us:List Rec}(h:CO m c us=some mv):mv.n=m.n/\mv.hi=m.hi/\mv.W=[]/\mv.lg=m.lg/\∀ id,id<=H8->∀ ab,Hp.get mv.H id=some ab->Hp.get m.H id=some ab/\id ∉ c8 us:=by
 obtain⟨H,n,W,hi,lg⟩:=m;unfold CO at h;simp only at h;cases c with
 | free =>
   cases h;exact⟨rfl,rfl,rfl,rfl,fun id _ ab a=>by rw[sJ]at a;cases a⟩
 | one b =>
   simp only at h;cases d:x9 (c8 us) b || !(Nat.ble b H8)with
   | true=>rw[d]at h;cases h
   | false =>
     rw[d,eT]at h;cases h;simp only[c9,Bool.not_eq_false']at d;have f:=A1 d.2;refine⟨rfl,rfl,rfl,rfl,fun id hid ab a=>?_⟩;have a:Hp.get (Hp.set hp0 b (Hp.get H b)) id=some ab:=a;rw[F1 _ _ _ _ f hid]at a;by_cases e:id=b
     .subst e;rw[A9 rfl]at a;exact⟨a,fun hm=>by rw[W7.2 hm]at d;exact absurd d.1 (by simp)⟩
     .rw[A7 e,sJ]at a;cases a
 | all =>
   simp only at h;obtain⟨f,h⟩:=A3 h;cases h;refine⟨rfl,rfl,rfl,rfl,fun id hid ab a=>?_⟩;have a:Hp.get (EE H (c8 us)) id=some ab:=a;rw[ED _ _ (uN f) id hid]at a;by_cases e:id ∈ c8 us
   .rw[A9 e]at a;cases a
   .rw[A7 e]at a;exact⟨a,e⟩
def gO(M:Nat->Mem)(D:Nat->Bool)(b:Nat):Nat->Bool
 | 0=>false
 | n+1=>(D n && Nat.ble (M n).n b && Nat.blt b (M (n+1)).n) || gO M D b n
def U8{D:Nat->Bool}{b:Nat}:∀ n,gO M D b n=true↔∃ k,k<n/\D k=true/\(M k).n<=b/\b<(M (k+1)).n
 | 0=>by simp[gO]
 | n+1=>by
   simp only[gO,J2,G9,U8 n];constructor
   .rintro(⟨⟨h1,a⟩,h3⟩|⟨k,h1,a⟩)
    .exact⟨n,A2,h1,A1 a,A1 h3⟩
    .exact⟨k,A2,a⟩
   .rintro⟨k,h1,a,h3,d⟩
    by_cases e:k=n
    .subst e;exact .inl ⟨⟨a,C7 h3⟩,C7 d⟩
    .exact .inr ⟨k,A2,a,h3,d⟩
def Dr(lo:Nat)(D:Nat->Bool)(k:Nat):Bool:=Nat.ble lo k && D k
def Y9{lo:Nat}{D:Nat->Bool}{k:Nat}:Dr lo D k=true↔lo<=k/\D k=true:=by
 unfold Dr;rw[G9];exact⟨fun h=>⟨A1 h.1,h.2⟩,fun h=>⟨C7 h.1,h.2⟩⟩
def GD(M:Nat->Mem)(lo N:Nat)(D:Nat->Bool)(b:Nat):Option AB:=bif gO M (Dr lo D) b N then Hp.get (M N).H b else Hp.get (M lo).H b
structure Inv (z:Zn) (P:Program) (base gl nt:Nat) (ops:Array Oper) (F:Nat->Fr) (M:Nat->Mem) (V:Nat->Value) (lo up:Nat) (ρ0:Ren) (w0:World) (D:Nat->Bool) (ρ:Ren) (a:Act) (w:World):Prop where
 ext:∀ b l,ρ0 b=some l->ρ b=some l
 new:∀ b l,ρ b=some l->ρ0 b=none->gO M (Dr lo D) b up=true/\(l.on=true->w0.heap.size<=l.blk)
 hr:HRf P base ρ (GD M lo up D) w
 keep:∀ k,k<w0.heap.size->w.heap[k]? = w0.heap[k]?
 size:w0.heap.size<=w.heap.size
 os:w.os=w0.os/\w.tape=w0.tape/\w.output=w0.output
 tch:∀ k,Ff ρ (GD M lo up D) k->w0.heap.size<=k∨Fp ρ0 (M lo).H k
 tsz:a.tmps.size=nt
 dfr:ZR z ρ nt (F 0) a.defers
 frm:∀ t,t<nt->VR ρ (bA D (fun k=>(ops[k]?).bind (·.dst)) V (F 0).get t ops.size) (a.tmps.getD t undef)
def T6{i:Nat}{o:Oper}(h:ops[i]? = some o):ops.toList[i]? = some o:=by simpa using h
def iF{ops:List Oper}{a:List H5}:∀ (r:List Oper) (i:Nat),KQ ops a r i=true->∀ j o,r[j]? = some o->nZ (i+j) o.after.toList=true/\tI a (i+j) (V9 ops o) ops 0=true
 | [],i,h,j,o,hj=>by simp at hj
 | x::r,i,h,j,o,hj=>by
   obtain⟨h1,b⟩:=B7 (show(nZ i x.after.toList && (tI a i (V9 ops x) ops 0 && KQ ops a r (i+1)))=true from h);obtain⟨b,h3⟩:=B7 b;cases j with
   | zero=>simp at hj;subst hj;exact⟨h1,b⟩
   | succ j =>
     have:=iF r (i+1) h3 j o (by simpa using hj)
     rwa[show i+1+j=i+(j+1) by omega]at this
def fH:∀ {es:List Edge} {i:Nat},nZ i es=true->∀ e ∈ es,Region.binds .any e=true->e.on<i
 | [],i,h,e,he,_=>by cases he
 | x::r,i,h,e,he,hb=>by
   obtain⟨h1,a⟩:=B7 (show((!(Region.binds .any x) || Nat.blt x.on i) && nZ i r)=true from h);rcases B6.1 he with rfl|he
   .rw[hb]at h1;have h1:Nat.blt e.on i=true:=by simpa only [R0,R1]using h1
    exact A1 h1
   .exact fH a e he hb
def CV{b:List H5}{i:Nat}{d:List Tmp}:∀ (r:List Oper) (a:Nat),tI b i d r a=true->∀ j p t,r[j]? = some p->a+j≠i->p.dst=some t->t ∈ d->A3y b i (a+j)=true
 | [],a,h,j,p,t,hj,_,_,_=>by simp at hj
 | x::r,a,h,j,p,t,hj,hne,hd,ht=>by
   obtain⟨h1,g⟩:=B7 (show((Nat.beq a i || (match x.dst with|none=>true|some t=>!(x9 d t) || A3y b i a)) && tI b i d r (a+1))=true from h);cases j with
   | zero =>
     simp at hj;subst hj;have f:Nat.beq a i=false:=by
      cases e:Nat.beq a i with
      | false=>rfl
      | true=>exact absurd (A0 e) hne
     rw[f,hd,R1]at h1;simp only[W7.2 ht,R0,R1]at h1;exact h1
   | succ j =>
     have:=CV r (a+1) g j p t (by simpa using hj) A2 hd ht
     rwa[show a+1+j=a+(j+1) by omega]at this
def Rg.slot(g:Rg P base gl nt call ops F M V R X B){D:Nat->Bool}(n:mV ops.toList fun k=>D k=true)(x:∀ k,D k=true->k<ops.size){i:Nat}{o:Oper}(f:ops[i]? = some o)(hi:D i=false)
  (hr:∀ e ∈ o.after.toList,Region.binds .any e=true->D e.on=true) {t:Tmp} (u:t ∈ V9 ops.toList o):∀ k p,ops[k]? = some p->k≠i->p.dst=some t->(D k=true↔k<i):=fun k p hp l v=>by
 have s:∀ (i:Nat) (o:Oper),ops.toList[i]? = some o->∀ e ∈ o.after.toList,Region.binds .any e=true->e.on<i:=fun i o f=>by
  have:=(iF _ 0 g.ok i o f).1;rw[F7]at this;exact fH this
 have h1:=(iF _ 0 g.ok i o (T6 f)).2;have a:=CV _ 0 h1 k p t (T6 hp) A2 v u;rw[F7,F7]at a;unfold A3y at a;rcases Nat.lt_trichotomy k i with d|heq|j
 .have b:Nat.blt i k=false:=by
   cases b:Nat.blt i k with
   | false=>rfl
   | true=>have:i<k:=A1 b;omega
  rw[b]at a;have hm:=W7.1 (by simpa using a);exact⟨fun _=>d,fun _=>BL n s (i+1) i k o (J5 i) (T6 f) hr hm⟩
 .exact absurd heq l
 .have b:Nat.blt i k=true:=C7 j;rw[b]at a;have hm:=W7.1 (by simpa using a);refine⟨fun w=>?_,fun h=>by omega⟩
  have:=BL n s (k+1) k i p (J5 k) (T6 hp) (fun e he q=>n k p (T6 hp) w e he q) hm;rw[hi]at this;cases this
def Rg.frame(g:Rg P base gl nt call ops F M V R X B)(a:nt<=512){t:Tmp}(f:t<nt):∀ i,i<=ops.size->(F i).get t=bA (fun k=>Nat.blt k i) (fun k=>(ops[k]?).bind (·.dst)) V (F 0).get t i
 | 0,_=>rfl
 | i+1,h=>by
   obtain⟨o,j⟩:=Q4 (ops:=ops) (i:=i) A2;obtain⟨h1,_,h3,_⟩:=g.st i o j;have q:=g.frame a f i A2;have l:bA (fun k=>Nat.blt k (i+1)) (fun k=>(ops[k]?).bind (·.dst)) V (F 0).get t i=bA (fun k=>Nat.blt k i) (fun k=>(ops[k]?).bind (·.dst)) V (F 0).get t i:=fD i fun k p _=>by
    rw[show Nat.blt k (i+1)=true from C7 A2,show Nat.blt k i=true from C7 p]
   have s:Nat.blt i (i+1)=true:=C7 (A6 _);rw[h3];unfold bA;rw[l,<- q];simp only[s,j,D9,true_and];cases n:o.dst with
   | none=>simp[wM]
   | some d =>
     rw[n]at h1;have b:d<nt:=A1 h1;simp only[wM,D5];rw[M6 _ _ _ _ (D6 b a) (D6 f a)];by_cases e:t=d
     .subst e;simp
     .rw[A7 e,A7 (fun h=>e h.symm)]
def Rg.look(g:Rg P base gl nt call ops F M V R X B)(j:nt<=512){D:Nat->Bool}(y:mV ops.toList fun k=>D k=true)(f:∀ k,D k=true->k<ops.size){i:Nat}{o:Oper}(l:ops[i]? = some o)(hi:D i=false)
  (hr:∀ e ∈ o.after.toList,Region.binds .any e=true->D e.on=true) {t:Tmp} (n:t ∈ V9 ops.toList o) (a:t<nt):bA D (fun k=>(ops[k]?).bind (·.dst)) V (F 0).get t ops.size=(F i).get t:=by
 have q:i<ops.size:=(D0.1 l).1;rw[g.frame j a i A2];have x:=g.slot y f l hi hr n;have s:bA D (fun k=>(ops[k]?).bind (·.dst)) V (F 0).get t ops.size=bA (fun k=>Nat.blt k i) (fun k=>(ops[k]?).bind (·.dst)) V (F 0).get t ops.size:=fD _ fun k u b=>by
  obtain⟨p,hp⟩:=Q4 (ops:=ops) u;rw[hp]at b;by_cases e:k=i
  .subst e;rw[hi];symm;cases w:Nat.blt k k with
   | false=>rfl
   | true=>have:k<k:=A1 w;omega
  .have:=x k p hp e b;rw[K5,this];exact⟨fun h=>C7 h,fun h=>A1 h⟩
 rw[s];have z:∀ d,i+d<=ops.size->bA (fun k=>Nat.blt k i) (fun k=>(ops[k]?).bind (·.dst)) V (F 0).get t (i+d)=bA (fun k=>Nat.blt k i) (fun k=>(ops[k]?).bind (·.dst)) V (F 0).get t i:=by
  intro d;induction d with
  | zero=>intro _;rfl
  | succ d v =>
    intro b;rw[show i+(d+1)=(i+d)+1 by omega];rw[bA,A7 (fun hh=>by have:i+d<i:=A1 hh.1;omega)];exact v A2
 have:=z (ops.size-i) A2
 rwa[show i+(ops.size-i)=ops.size by omega]at this
def xY{o:Oper}{x:Operand}{t:Tmp}(hx:x ∈ o.op.operands.toList)(a:x=.tmp t):t ∈ V9 ops.toList o:=by
 unfold V9;refine B8.2 (.inr (B8.2 (.inl (List.mem_flatMap.2 ⟨x,hx,?_⟩))));subst a;simp[qI]
def Rg.see{z:Zn}(g:Rg P base gl nt call ops F M V R X B)(b:Ph ops B M lo up){v ρ:Ren}{w0 w:World}{D:Nat->Bool}{a:Act}{i:Nat}{o:Oper}
  (q:At P base gl v (M lo) (M up).hi w0) (N:mV ops.toList fun k=>D k=true) (f:lo<=i) (E:i<up) (x:ops[i]? = some o)
  (hr:∀ e ∈ o.after.toList,Region.binds .any e=true->D e.on=true):∀ id,id<=H8->∀ ab,Hp.get (M i).H id=some ab->id ∉ c8 (DQ ((Z4 ops.toList []).getD i []) (R i))->GD M lo up D id=some ab:=fun id hid ab h1 O=>by
 unfold GD;by_cases d:(M lo).n<=id/\id<(M i).n
 .obtain⟨k,s,L,u,t⟩:∃ k,lo<=k/\k<i/\(M k).n<=id/\id<(M (k+1)).n:=by
   have:=g.who b (i-lo) A2 id d.1 (by rw[show lo+(i-lo)=i by omega];exact d.2)
   rwa[show lo+(i-lo)=i by omega]at this
  have y:D k=true:=by
   have p:(⟨k,(M k).n,(M (k+1)).n⟩:Rec) ∈ R i:=by
    have:=g.recs b (i-lo) A2 k s A2 id u t
    rwa[show lo+(i-lo)=i by omega]at this
   by_cases C:k ∈ (Z4 ops.toList []).getD i []
   .exact BL N (fun i o x=>by
     have:=(iF _ 0 g.ok i o x).1;rw[F7]at this;exact fH this) (i+1) i k o (J5 i) (T6 x) hr C
   .exfalso;refine O (zF.2 ⟨_,P9.2 ⟨p,?_⟩,u,t⟩);cases h:x9 ((Z4 ops.toList []).getD i []) k with
    | false=>rfl
    | true=>exact absurd (W7.1 h) C
  have hu:gO M (Dr lo D) id up=true:=(U8 _).2 ⟨k,A2,Y9.2 ⟨s,y⟩,u,t⟩;rw[hu];simp only[E6];rw[(g.le b (i:=i) (j:=up) f A2 (A6 _)).2.2 id hid d.2];exact h1
 .have I:=(g.all b f A2).2.2.2.2 id hid A2;rw[I]at h1;have hu:gO M (Dr lo D) id up=false:=by
   cases h:gO M (Dr lo D) id up with
   | false=>rfl
   | true =>
     exfalso;obtain⟨k,L,K,u,t⟩:=(U8 _).1 h;have s:=(Y9.1 K).1;obtain⟨l,A,_⟩:=q.hr.at_ id hid ab h1;have G:=g.le b (i:=lo) (j:=k) (A6 _) s A2;have Q:=g.le b (i:=k+1) (j:=up) A2 A2 (A6 _);have J:=(g.all b b.le (A6 _)).2.2.1;rw[q.fr id A2 A2]at A;cases A
  rw[hu];exact h1
def Rg.quiet{z:Zn}(g:Rg P base gl nt call ops F M V R X B)(C:V8 P base gl call){L ρ:Ren}{w0 w:World}{D D':Nat->Bool}{a:Act}{i:Nat}{o:Oper}{Q:Exit->Act->World->Prop}{K:Act->World->Prop}
  (u:At P base gl L (M lo) (M up).hi w0) (hS:Sat (M (i+1)).lg) (ai:nt<=512) (inv:Inv z P base gl nt ops F M V lo up L w0 D ρ a w) (hc:mV ops.toList fun k=>D k=true) (au:∀ k,D k=true->k<ops.size) (Z:ops[i]? = some o) (hi:D i=false)
  (hr:∀ e ∈ o.after.toList,Region.binds .any e=true->D e.on=true) (hD:∀ k,k≠i->D' k=D k) (ae:D' i=true)
  (ar:eB nt ops.toList (X5 P call o) ((Z4 ops.toList []).getD i []) (R i) (F i) o (M i) (M (i+1)) (V i) r) (ao:∀ b ab,r=some (b,ab)->GD M lo up D b=some ab)
  (hK:∀ q a' w',Inv z P base gl nt ops F M V lo up L w0 D' q a' w'->K a' w'):hH P z.rd ops Q i K a w:=by
 have al:i<ops.size:=(D0.1 Z).1;obtain⟨bw,ad,hF,_⟩:=g.st i o Z;have E:∀ t,t ∈ V9 ops.toList o->t<nt->VR ρ ((F i).get t) (a.tmps.getD t undef):=fun t T ax=>by
  rw[<- g.look ai hc au Z hi hr T ax];exact inv.frm t ax
 have aj:FR ρ (F i) a.eval o.op:=fun x hx=>by
  have az:okX nt gl x=true:=D7.1 ad x hx;cases x with
  | tmp t=>exact E t (xY hx rfl) (A1 az)
  | const v=>exact VR.ofC az
  | global gg=>exact VR.ptr (o:=0) (inv.ext _ _ (u.gr gg (A1 az)))
  | func f=>exact .func (a:=[]) (b:=[]) (a':=[]) (b':=[]) rfl rfl (fun i v v' h=>by simp at h) (fun i v v' h=>by simp at h)
 have I:∀ lg b,bQ nt (F i) (M i).lg ops.toList o=some (b,lg)->Sat lg->Region.wanted o (yielded ops a.tmps)=b:=fun lg b hw J=>by
  unfold bQ at hw;split at hw
  .rename_i hg;cases hw;simp[Region.wanted,hg]
  .rename_i j want hg;split at hw
   .rename_i p hp;split at hw
    .rename_i t T;obtain⟨h1,s⟩:=A3 hw;have h1:t<nt:=A1 h1;have hv:=E t (by
      unfold V9;refine B8.2 (.inr (B8.2 (.inr ?_)));simp[hg,hp,T]) h1
     exact nA hg hp T (by rw[inv.tsz];exact h1) (qE s hv J)
    .cases hw
   .cases hw
 have y:∀ (q:Ren) (v':Value),(∀ b l,ρ b=some l->q b=some l)->VR q (V i) v'->∀ t,t<nt->VR q (bA D' (fun k=>(ops[k]?).bind (·.dst)) V (F 0).get t ops.size) ((a.put o.dst v').tmps.getD t undef):=fun q v' he hv t T=>by
  by_cases hd:o.dst=some t
  .have U:∀ k,i<k->k<ops.size->(ops[k]?).bind (·.dst)=some t->D k=false:=fun k bx A aq=>by
    obtain⟨p,hp⟩:=Q4 (ops:=ops) A;rw[hp]at aq
    have:=g.slot hc au Z hi hr (t:=t) (by unfold V9;simp[hd]) k p hp A2 aq;cases hq:D k with
    | false=>rfl
    | true=>have:=this.1 hq;omega
   rw[sO hD ae ops.size al (by simp[Z,hd]) U];simp only[hd,Act.put,B9];rw[G3,A9 rfl,A9 (by rw[inv.tsz];exact T)];exact hv
  .rw[pE hD (by simp[Z];exact hd)];have h1:=(inv.frm t T).mono he;cases Y:o.dst with
   | none=>exact h1
   | some d =>
     have ak:d≠t:=fun e=>hd (e▸Y)
     simp only[Act.put,B9]at h1 ⊢;rw[G3,A7 ak];exact h1
 have hM:∃ lg,M (i+1)=(M i).wLg lg:=by
  rcases ar with⟨lg,_,_,h,_⟩|⟨_,aw,_,_,h,_⟩
  .exact⟨lg,h⟩
  .exact⟨aw,h⟩
 have hG:GD M lo up D'=GD M lo up D:=by
  funext b;unfold GD;have:gO M (Dr lo D') b up=gO M (Dr lo D) b up:=by
   obtain⟨lg,hm⟩:=hM;rw[K5,U8,U8];constructor
   .rintro⟨k,h1,s,h3,h4⟩
    have e:k≠i:=fun e=>by
     subst e;rw[hm]at h4;have h4:b<(M k).n:=h4;omega
    obtain⟨ay,s⟩:=Y9.1 s;rw[hD k e]at s;exact⟨k,h1,Y9.2 ⟨ay,s⟩,h3,h4⟩
   .rintro⟨k,h1,s,h3⟩
    obtain⟨ay,s⟩:=Y9.1 s;have e:k≠i:=fun e=>by subst e;rw[hi]at s;cases s
    exact⟨k,h1,Y9.2 ⟨ay,by rw[hD k e];exact s⟩,h3⟩
  rw[this]
 have O:∀ b l,ρ b=some l->L b=none->gO M (Dr lo D') b up=true/\(l.on=true->w0.heap.size<=l.blk):=fun b l h1 s=>by
  obtain⟨k1,k2⟩:=inv.new b l h1 s;obtain⟨k,q1,q2,q3⟩:=(U8 _).1 k1;obtain⟨af,q2⟩:=Y9.1 q2;have e:k≠i:=fun e=>by subst e;rw[hi]at q2;cases q2
  exact⟨(U8 _).2 ⟨k,q1,Y9.2 ⟨af,by rw[hD k e];exact q2⟩,q3⟩,k2⟩
 unfold hH;simp only[Z];rcases ar with⟨lg,hw,hv,hm,_⟩|⟨lg,aw,hw,hq,hm,aa⟩
 .have J:Sat lg:=by rw[hm]at hS;exact hS
  rw[I lg false hw J];simp only[K0,if_false];refine hK ρ _ w ⟨inv.ext,O,hG▸inv.hr,inv.keep,inv.size,inv.os,hG▸inv.tch,?_,?_,y ρ undef (fun _ _ h=>h) (hv▸qG ρ)⟩
  .cases Y:o.dst<;>simp[Act.put,inv.tsz]
  .rw[eU];exact inv.dfr
 .obtain⟨mv,m',W,N,hW,ah,hl⟩:=lL hq;obtain⟨v1,v2,v3,v4,v5,_⟩:=tK W;have av:Sat m'.lg:=by rw[hm]at hS;rw[hl];exact hS
  have J:Sat lg:=S4.le av (by have:=aK C N;rw[v4]at this;exact this);rw[I lg true hw J];simp only[if_true];have an:HR P base ρ mv.H w:=inv.hr.hr fun id hid ab S=>ao id ab (aa.trans (v5 id hid ab S))
  have ag:At P base gl ρ mv m'.hi w:=⟨an,C6 u.bs inv.size,fun b h1 s=>(by rw[v1]at h1;rw[ah]at s;omega),u.gr.mono inv.ext,(by rw[v1,v2];exact A6 _),fun b hb=>(by rw[v3]at hb;cases hb),fun k o A=>⟨(u.gf k o A).1,(inv.keep k (D6 (u.gf k o A).1 u.bs)).trans (u.gf k o A).2⟩⟩;refine qO C N av ag aj fun v' q w' hv st=>?_
  have bz:q=ρ:=by
   funext b;cases h0:ρ b with
   | some l=>exact st.ext b l h0
   | none =>
     cases h1:q b with
     | none=>rfl
     | some l =>
       exfalso;have s:=(st.new b l h1 h0).1;have h3:=st.hr.dom b l h1;rw[v1]at s;unfold tA at s;unfold H8 at h3;omega
  subst bz;have G:∀ k,k<w.heap.size->w'.heap[k]? = w.heap[k]? := fun k A=>st.keep k A fun b hb=>by rw[hW]at hb;cases hb
  refine hK q _ w' ⟨inv.ext,O,hG▸⟨inv.hr.dom,fun id hid ab S=>?_⟩,fun k A=>by rw[G k (D6 A inv.size),inv.keep k A],C6 inv.size st.size,⟨st.os.1.trans inv.os.1,st.os.2.1.trans inv.os.2.1,st.os.2.2.trans inv.os.2.2⟩,hG▸inv.tch,?_,?_,y q v' (fun _ _ h=>h) hv⟩
  .obtain⟨l,e1,e2,e3⟩:=inv.hr.at_ id hid ab S;exact⟨l,e1,e2.mono (fun _ _ h=>h) (fun k A=>G _ (e2.tc A)),e3⟩
  .cases Y:o.dst<;>simp[Act.put,inv.tsz]
  .rw[eU];exact inv.dfr
def Rg.step{z:Zn}(g:Rg P base gl nt call ops F M V R X B)(ph:Ph ops B M lo up)(S:V8 P base gl call){an ρ:Ren}{w0 w:World}{D D':Nat->Bool}{a:Act}{i:Nat}{o:Oper}{Q:Exit->Act->World->Prop}{K:Act->World->Prop}
  (J:At P base gl an (M lo) (M up).hi w0) (hS:Sat (M up).lg) (bf:nt<=512) (inv:Inv z P base gl nt ops F M V lo up an w0 D ρ a w) (hc:mV ops.toList fun k=>D k=true) (bt:∀ k,D k=true->k<ops.size) (ay:lo<=i) (ar:i<up) (Z:ops[i]? = some o) (hi:D i=false)
  (hr:∀ e ∈ o.after.toList,Region.binds .any e=true->D e.on=true) (hD:∀ k,k≠i->D' k=D k) (bq:D' i=true)
  (ad:¬∃ r,eB nt ops.toList (X5 P call o) ((Z4 ops.toList []).getD i []) (R i) (F i) o (M i) (M (i+1)) (V i) r)
  (hK:∀ C a' w',Inv z P base gl nt ops F M V lo up an w0 D' C a' w'->K a' w'):hH P z.rd ops Q i K a w:=by
 have bk:i<ops.size:=(D0.1 Z).1;obtain⟨cq,ba,hF,ah⟩:=g.st i o Z;have bo:=ph.mx i o ay ar Z;have cu:=ph.sz;have cp:=g.le ph (i:=lo) (j:=i) (A6 _) ay A2;have cy:=g.le ph (i:=i+1) (j:=up) A2 A2 (A6 _);have cw:=g.one Z bo (g.all ph ay A2).2.2.1;have ax:∀ t,t ∈ V9 ops.toList o->t<nt->VR ρ ((F i).get t) (a.tmps.getD t undef):=fun t ht aa=>by
  rw[<- g.look bf hc bt Z hi hr ht aa];exact inv.frm t aa
 have bg:FR ρ (F i) a.eval o.op:=fun x hx=>by
  have ag:okX nt gl x=true:=D7.1 ba x hx;cases x with
  | tmp t=>exact ax t (xY hx rfl) (A1 ag)
  | const v=>exact VR.ofC ag
  | global gg=>exact VR.ptr (o:=0) (inv.ext _ _ (J.gr gg (A1 ag)))
  | func f=>exact .func (a:=[]) (b:=[]) (a':=[]) (b':=[]) rfl rfl (fun i v v' h=>by simp at h) (fun i v v' h=>by simp at h)
 have ai:∀ lg b,bQ nt (F i) (M i).lg ops.toList o=some (b,lg)->Sat lg->Region.wanted o (yielded ops a.tmps)=b:=fun lg b hw af=>by
  unfold bQ at hw;split at hw
  .rename_i hg;cases hw;simp[Region.wanted,hg]
  .rename_i j want hg;split at hw
   .rename_i p hp;split at hw
    .rename_i t ht;obtain⟨h1,u⟩:=A3 hw;have h1:t<nt:=A1 h1;have hv:=ax t (by
      unfold V9;refine B8.2 (.inr (B8.2 (.inr ?_)));simp[hg,hp,ht]) h1
     exact nA hg hp ht (by rw[inv.tsz];exact h1) (qE u hv af)
    .cases hw
   .cases hw
 have ao:∀ (C:Ren) (v':Value),(∀ b l,ρ b=some l->C b=some l)->VR C (V i) v'->∀ t,t<nt->VR C (bA D' (fun k=>(ops[k]?).bind (·.dst)) V (F 0).get t ops.size) ((a.put o.dst v').tmps.getD t undef):=fun C v' he hv t ht=>by
  by_cases hd:o.dst=some t
  .have aj:∀ k,i<k->k<ops.size->(ops[k]?).bind (·.dst)=some t->D k=false:=fun k ct U bn=>by
    obtain⟨p,hp⟩:=Q4 (ops:=ops) U;rw[hp]at bn
    have:=g.slot hc bt Z hi hr (t:=t) (by unfold V9;simp[hd]) k p hp A2 bn;cases hq:D k with
    | false=>rfl
    | true=>have:=this.1 hq;omega
   rw[sO hD bq ops.size bk (by simp[Z,hd]) aj];simp only[hd,Act.put,B9];rw[G3,A9 rfl,A9 (by rw[inv.tsz];exact ht)];exact hv
  .rw[pE hD (by simp[Z];exact hd)];have h1:=(inv.frm t ht).mono he;cases bu:o.dst with
   | none=>exact h1
   | some d =>
     have bh:d≠t:=fun e=>hd (e▸bu)
     simp only[Act.put,B9]at h1 ⊢;rw[G3,A7 bh];exact h1
 have O:∀ b,gO M (Dr lo D') b up=true↔(gO M (Dr lo D) b up=true∨((M i).n<=b/\b<(M (i+1)).n)):=fun b=>by
  rw[U8,U8];constructor
  .rintro⟨k,h1,u,h3⟩
   obtain⟨ae,u⟩:=Y9.1 u;by_cases e:k=i
   .subst e;exact .inr h3
   .rw[hD k e]at u;exact .inl ⟨k,h1,Y9.2 ⟨ae,u⟩,h3⟩
  .rintro(⟨k,h1,u,h3⟩|h3)
   .obtain⟨ae,u⟩:=Y9.1 u;have e:k≠i:=fun e=>by subst e;rw[hi]at u;cases u
    exact⟨k,h1,Y9.2 ⟨ae,by rw[hD k e];exact u⟩,h3⟩
   .exact⟨i,ar,Y9.2 ⟨ay,bq⟩,h3⟩
 unfold hH;simp only[Z];have bx:Sat (M (i+1)).lg:=S4.le hS (by have:=g.lgs S (i:=i+1) (up-(i+1)) A2;rwa[show i+1+(up-(i+1))=up by omega]at this);rcases ah with⟨_,lg,hw,hv,hm⟩|⟨_,lg,bm,hw,hq,hm⟩|⟨br,_⟩|⟨_,_,lg,hw,mv,m',av,al,hW,bd,W⟩
 .exact absurd ⟨_,.inl ⟨lg,hw,hv,hm,rfl⟩⟩ ad
 .exact absurd ⟨_,.inr ⟨lg,bm,hw,hq,hm,rfl⟩⟩ ad
 .rw[bo]at br;cases br
 .have bz:Sat m'.lg:=by rw[KY W]at bx;exact bx
  have af:Sat lg:=S4.le bz (by have:=aK S al;rw[QY av]at this;exact this);rw[ai lg true hw af];simp only[if_true];obtain⟨v1,v2,v3,_,v4⟩:=A3R av;have v1:mv.n=(M i).n:=v1;have v2:mv.hi=(M i).hi:=v2;have v4:∀ id,id<=H8->∀ ab,Hp.get mv.H id=some ab->Hp.get (M i).H id=some ab/\id ∉ c8 (DQ ((Z4 ops.toList []).getD i []) (R i)):=v4;have ak:=(g.all ph ay A2).2.2.1;obtain⟨q1,q2,q3,q4,q5,q6,_,q7⟩:=KX W ak bd;have q1:(M i).n<=(M (i+1)).n:=q1;have q5:(M (i+1)).n=m'.hi∨((M (i+1)).n=(M i).n/\m'.hi<=(M i).n):=q5;have q7:∀ id,id<=H8->Hp.get (M (i+1)).H id=if(M i).n<=id/\id<(M (i+1)).n then Hp.get m'.H id else Hp.get (M i).H id:=q7
  have L:∀ id,id<=H8->∀ ab,Hp.get mv.H id=some ab->GD M lo up D id=some ab:=fun id hid ab y=>by
   obtain⟨h1,u⟩:=v4 id hid ab y;exact g.see (z:=z) (a:=a) (ρ:=ρ) (w:=w) ph J hc ay ar Z hr id hid ab h1 u
  have bl:HR P base ρ mv.H w:=inv.hr.hr L;have T:K7 ρ mv.n m'.hi:=fun b h1 u=>by
   rw[v1]at h1;cases hb:ρ b with
   | none=>rfl
   | some l =>
     exfalso;cases h0:an b with
     | some l0 =>
       rw[J.fr b A2 A2]at h0;cases h0
     | none =>
       obtain⟨k,k1,k2,k3,k4⟩:=(U8 _).1 (inv.new b l hb h0).1;obtain⟨k0,k2⟩:=Y9.1 k2;have cr:k≠i:=fun e=>by subst e;rw[hi]at k2;cases k2
       rcases G1 k i with bw|bw
       .have:=(g.le ph (i:=k+1) (j:=i) A2 A2 A2).1;omega
       .have:=(g.le ph (i:=i+1) (j:=k) A2 A2 A2).1;rcases q5 with q5|⟨_,q5⟩<;>omega
  have bc:At P base gl ρ mv m'.hi w:=⟨bl,C6 J.bs inv.size,T,J.gr.mono inv.ext,(by rw[v1,v2];exact ak),fun b hb=>(by rw[v3]at hb;cases hb),fun k o U=>⟨(J.gf k o U).1,(inv.keep k (D6 (J.gf k o U).1 J.bs)).trans (J.gf k o U).2⟩⟩;refine qO S al bz bc bg fun v' C w' hv st=>hK C _ w' ?_
  have aw:∀ k,k<w.heap.size->w'.heap[k]? = w.heap[k]? := fun k U=>st.keep k U fun b hb=>by rw[hW]at hb;cases hb
  have cv:m'.n<=m'.hi:=st.nhi (by rw[v1,v2];exact ak);have aq:∀ b l,C b=some l->ρ b=none->((M i).n<=b/\b<(M (i+1)).n)/\(l.on=true->w.heap.size<=l.blk):=fun b l h1 u=>by
   have h3:=st.new b l h1 u;rw[v1]at h3;refine⟨⟨h3.1,?_⟩,?_⟩
   .rcases q5 with q5|⟨_,q5⟩<;>omega
   .intro Z;rcases st.blk b l h1 u Z with h|⟨b0,h,_⟩
    .exact h
    .rw[hW]at h;cases h
  have au:∀ id,id<=H8->(M i).n<=id->id<(M (i+1)).n->GD M lo up D' id=Hp.get m'.H id/\ρ id=none:=fun id hid h1 u=>by
   constructor
   .unfold GD;rw[(O id).2 (.inr ⟨h1,u⟩)];simp only[E6];rw[cy.2.2 id hid u,q7 id hid,A9 ⟨h1,u⟩]
   .refine T id (by rw[v1];exact h1) ?_;rcases q5 with q5|⟨q5,_⟩
    .omega
    .rw[q5]at u;omega
  have Y:∀ id,¬ ((M i).n<=id/\id<(M (i+1)).n)->GD M lo up D' id=GD M lo up D id:=fun id hid=>by
   unfold GD;have:gO M (Dr lo D') id up=gO M (Dr lo D) id up:=by
    rw[K5,O id];exact⟨fun h=>h.elim (fun h=>h) (fun h=>absurd h hid),.inl⟩
   rw[this]
  have cz:∀ k,Ff C (GD M lo up D') k->w.heap.size<=k∨Ff ρ (GD M lo up D) k:=fun k ⟨id,ab,l,hid,y,hl,ht⟩=>by
   by_cases hI:(M i).n<=id/\id<(M (i+1)).n
   .rw[(au id hid hI.1 hI.2).1]at y;rcases st.tch k ⟨id,ab,l,hid,y,hl,ht⟩with h|⟨A,az,l0,e1,e2,e3,e4⟩
    .exact .inl h
    .exact .inr ⟨A,az,l0,e1,L A e1 az e2,e3,e4⟩
   .rw[Y id hI]at y;obtain⟨l3,c1,_⟩:=inv.hr.at_ id hid ab y;rw[st.ext id l3 c1]at hl
    have:=A8 hl;subst this;exact .inr ⟨id,ab,l3,hid,y,c1,ht⟩
  refine⟨fun b l h=>st.ext b l (inv.ext b l h),fun b l h1 u=>?_,⟨st.hr.dom,fun id hid ab y=>?_⟩,fun k U=>by rw[aw k (D6 U inv.size),inv.keep k U],C6 inv.size st.size,⟨st.os.1.trans inv.os.1,st.os.2.1.trans inv.os.2.1,st.os.2.2.trans inv.os.2.2⟩,fun k U=>(cz k U).elim (fun h=>.inl (C6 inv.size h)) (inv.tch k),?_,?_,ao C v' st.ext hv⟩
  .cases h0:ρ b with
   | some l1 =>
     rw[st.ext b l1 h0]at h1
     have:=A8 h1;subst this;exact⟨(O b).2 (.inl (inv.new b l1 h0 u).1),(inv.new b l1 h0 u).2⟩
   | none =>
     have:=aq b l h1 h0;exact⟨(O b).2 (.inr this.1),fun Z=>C6 inv.size (this.2 Z)⟩
  .by_cases hI:(M i).n<=id/\id<(M (i+1)).n
   .obtain⟨h1,u⟩:=au id hid hI.1 hI.2;rw[h1]at y;obtain⟨l,e1,e2,e3⟩:=st.hr.at_ id hid ab y;refine⟨l,e1,e2,fun I G=>⟨(e3 I G).1,fun q s N l2 f1 f2 f3=>?_⟩⟩;by_cases E:(M i).n<=q/\q<(M (i+1)).n
    .rw[(au q s E.1 E.2).1]at f1;exact(e3 I G).2 q s N l2 f1 f2 f3
    .rw[Y q E]at f1;obtain⟨l3,c1,c2,_⟩:=inv.hr.at_ q s N f1;rw[st.ext q l3 c1]at f2
     have:=A8 f2;subst this;have h5:=c2.tc f3;have h6:=(aq id l e1 u).2 G;omega
   .rw[Y id hI]at y;obtain⟨l,e1,e2,e3⟩:=inv.hr.at_ id hid ab y;refine⟨l,st.ext _ _ e1,e2.mono st.ext (fun k U=>aw _ (e2.tc U)),fun I G=>⟨(e3 I G).1,fun q s N l2 f1 f2 f3=>?_⟩⟩;by_cases E:(M i).n<=q/\q<(M (i+1)).n
    .exfalso;rw[(au q s E.1 E.2).1]at f1;have bb:N.fr=true:=by
      cases hq:N.fr with
      | true=>rfl
      | false =>
        exfalso;rcases f3 with⟨_,h1,u⟩|⟨h1,_⟩
        .have h5:=(aq q l2 f2 (au q s E.1 E.2).2).2 h1;have h6:=e2.tc (.inl ⟨AB.rw_on I,G,rfl⟩);omega
        .rw[h1]at hq;cases hq
     rcases st.tch _ ⟨q,N,l2,s,f1,f2,bb,f3⟩with h|⟨A,az,l0,c1,c2,c3,_,c4⟩
     .have:=e2.tc (.inl ⟨AB.rw_on I,G,rfl⟩);omega
     .have h7:=(e3 I G).2 A c1 az l0 (L A c1 az c2) c3 c4;subst h7;have h8:=L A c1 az c2;rw[y]at h8;have h8:=A8 h8;subst h8;have h9:A<mv.n∨m'.hi<=A:=by
       rcases G1 A mv.n with h|h
       .exact .inl h
       .rcases G1 A m'.hi with h'|h'
        .rw[T A h h']at e1;cases e1
        .exact .inr h'
      have bp:=st.same A c1 (by rw[hW];simp) h9;rw[c2]at bp;obtain⟨_,bj⟩:=st.hr.atl (st.ext _ _ e1) bp
      have:=(bj I G).2 q s N l2 f1 f2 f3;subst this;exact hI E
    .rw[Y q E]at f1;obtain⟨l3,c1,_⟩:=inv.hr.at_ q s N f1;rw[st.ext q l3 c1]at f2
     have:=A8 f2;subst this;exact(e3 I G).2 q s N l3 f1 c1 f3
  .cases bu:o.dst<;>simp[Act.put,inv.tsz]
  .rw[eU];exact inv.dfr.congr st.ext fun _=>⟨rfl,rfl⟩
end
end
section
open Go
variable [Ora]
def EP:∀ (l:List Bool) (i:Nat),l[i]? = some false->(l.set i true).countP (fun b=>!b)+1=l.countP (fun b=>!b)
 | [],i,h=>by simp at h
 | b::r,0,h=>by simp at h;subst h;simp
 | b::r,i+1,h=>by
   have:=EP r i (by simpa using h);rw[List.set_cons_succ,List.countP_cons,List.countP_cons];omega
def QH{l:List Bool}(h:l.countP (fun b=>!b)=0):∀ i,i<l.length->l[i]? = some true:=fun i hi=>by
 rw[List.countP_eq_zero]at h
 have:=h l[i] (O4 hi);rw[A5 hi];cases a:l[i]with
 | true=>rfl
 | false=>rw[a]at this;exact absurd rfl this
section
variable {P:Program} {base gl:Nat} {call:P7}
def A1E(h:lT m m'=some m2)(a:m.hi<=m'.hi):m.hi<=m2.hi:=by
 unfold lT at h;cases b:Nat.ble m'.hi m.n with
 | true=>rw[b]at h;cases h;exact A6 _
 | false =>
   rw[b]at h;obtain⟨_,h⟩:=A3 h;simp only[F0,eI]at h;cases h;exact a
def BJ:∀ {n:Nat} {b:H5} {a:Qs},ID n b a=true->∀ k,k<n->k ∈ b∨∃ q ∈ a,q.1=k
 | 0,_,_,_,k,h=>by omega
 | n+1,b,a,h,k,hk=>by
   obtain⟨h1,g⟩:=B7 (show((x9 b n || a.any fun q=>Nat.beq n q.1) && ID n b a)=true from h);by_cases e:k=n
   .subst e;rcases J2 _ _▸h1 with h1|h1
    .exact .inl (W7.1 h1)
    .obtain⟨q,d,f⟩:=Q6.1 h1;exact .inr ⟨q,d,(A0 f).symm⟩
   .exact BJ g k A2
def zN:∀ {i:Nat} {bs:List H5} {r:List Oper},GU i bs r=true->∀ (j:Nat) (c:List Nat) (o:Oper),bs[j]? = some c->r[j]? = some o->i ∈ c∨aP o.op=true
 | _,[],_,_,j,c,o,h,_=>by simp at h
 | _,_::_,[],_,j,c,o,_,h=>by simp at h
 | i,c0::bs,o0::r,h,j,c,o,h1,h2=>by
   obtain⟨a,b⟩:=B7 (show((x9 c0 i || aP o0.op) && GU i bs r)=true from h);cases j with
   | zero =>
     simp at h1 h2;subst h1;subst h2;rcases J2 _ _▸a with a|a
     .exact .inl (W7.1 a)
     .exact .inr a
   | succ j=>exact zN b j c o (by simpa using h1) (by simpa using h2)
def FU{ops:Array Oper}{X:Nat->Qs}{i:Nat}{o:Oper}(h:A3a ops X i o=true):aP o.op=false:=by
 obtain⟨h,_⟩:=B7 (show(wrO o.op && _)=true from h);cases a:o.op<;>rw[a]at h<;>first
  | rfl
  | cases h
def OL{ops:Array Oper}{X:Nat->Qs}{i:Nat}{o:Oper}(h:A3a ops X i o=true):∀ k,k<i->k ∈ (Z4 ops.toList []).getD i []∨∃ q ∈ X i,q.1=k:=by
 obtain⟨_,h⟩:=B7 (show(wrO o.op && _)=true from h);obtain⟨h,_⟩:=B7 h;exact BJ h
def OK{ops:Array Oper}{X:Nat->Qs}{i:Nat}{o:Oper}(h:A3a ops X i o=true):∀ j p,i<j->ops[j]? = some p->i ∈ (Z4 ops.toList []).getD j []∨aP p.op=true:=fun j p g hp=>by
 obtain⟨_,h⟩:=B7 (show(wrO o.op && _)=true from h);obtain⟨_,h⟩:=B7 h;obtain⟨e,b,d,_⟩:=uP ops.toList [];have hlen:(Z4 ops.toList []).length=ops.size:=by rw[b];simpa using d
 have f:j<ops.size:=(D0.1 hp).1;have a:j<(Z4 ops.toList []).length:=A2
 have:=zN h (j-(i+1)) (Z4 ops.toList [])[j] p (by rw[I0,show i+1+(j-(i+1))=j by omega,A5 a]) (by rw[I0,show i+1+(j-(i+1))=j by omega];exact T6 hp);rw[B0,A5 a];exact this
def tP(ops:Array Oper)(B:Nat->Bool):∀ (d lo:Nat),lo+d=ops.size->∃ up,lo<=up/\up<=ops.size/\(∀ i o,lo<=i->i<up->ops[i]? = some o->B i=false)/\(up<ops.size->∃ o,ops[up]? = some o/\B up=true)
 | 0,lo,h=>⟨lo,A6 _,A2,fun i o h1 f=>by omega,fun f=>by omega⟩
 | d+1,lo,h=>by
   obtain⟨o,k⟩:=Q4 (ops:=ops) (i:=lo) A2;cases g:B lo with
   | true=>exact⟨lo,A6 _,A2,fun i o h1 f=>by omega,fun _=>⟨o,k,g⟩⟩
   | false =>
     obtain⟨up,h1,f,h3,j⟩:=tP ops B d (lo+1) A2;refine⟨up,A2,f,fun i o' a b c=>?_,j⟩;by_cases e:i=lo
     .subst e;exact g
     .exact h3 i o' A2 b c
section
variable {nt:Nat} {ops:Array Oper} {F:Nat->Fr} {M:Nat->Mem} {V:Nat->Value} {R:Nat->List Rec} {X:Nat->Qs} {B:Nat->Bool} {lo up:Nat}
def Rg.frameUp(g:Rg P base gl nt call ops F M V R X B)(a:nt<=512){t:Tmp}(b:t<nt){i:Nat}(hi:i<=ops.size):bA (fun k=>Nat.blt k i) (fun k=>(ops[k]?).bind (·.dst)) V (F 0).get t ops.size=(F i).get t:=by
 rw[g.frame a b i hi];have f:∀ d,i+d<=ops.size->bA (fun k=>Nat.blt k i) (fun k=>(ops[k]?).bind (·.dst)) V (F 0).get t (i+d)=bA (fun k=>Nat.blt k i) (fun k=>(ops[k]?).bind (·.dst)) V (F 0).get t i:=by
  intro d;induction d with
  | zero=>intro _;rfl
  | succ d e =>
    intro j;rw[show i+(d+1)=(i+d)+1 by omega];rw[bA,A7 (fun hh=>by have:i+d<i:=A1 hh.1;omega)];exact e A2
 have:=f (ops.size-i) A2
 rwa[show i+(ops.size-i)=ops.size by omega]at this
def B4J{k i:Nat}:Nat.blt k i=true↔k<i:=⟨fun h=>A1 h,fun h=>C7 h⟩
def Rg.own(g:Rg P base gl nt call ops F M V R X B)(b:nt<=510):∀ (i:Nat),i<=ops.size->(F i).get 510=(F 0).get 510/\(F i).get 511=(F 0).get 511
 | 0,_=>⟨rfl,rfl⟩
 | i+1,hi=>by
   obtain⟨o,l⟩:=Q4 (ops:=ops) (i:=i) A2;obtain⟨d1,_,d3,_⟩:=g.st i o l;have f:=g.own b i A2;have key:∀ t,510<=t->t<512->(F (i+1)).get t=(F i).get t:=fun t h1 k=>by
    rw[d3];cases j:o.dst with
    | none=>rfl
    | some d =>
      rw[j]at d1;have a:d<nt:=A1 d1;show((F i).set d _).get t=_;rw[M6 _ _ _ _ (D6 a A2) k,A7 (fun e=>by subst e;exact absurd a (Nat.not_lt.2 (C6 b h1)))]
   exact⟨(key 510 F3 F3).trans f.1,(key 511 F3 F3).trans f.2⟩
def Rg.inX(g:Rg P base gl nt call ops F M V R X B):∀ (j:Nat),j<=ops.size->∀ q ∈ X j,q.1<j/\q ∈ X (q.1+1)/\∃ o,ops[q.1]? = some o/\eB nt ops.toList (X5 P call o) ((Z4 ops.toList []).getD q.1 []) (R q.1) (F q.1) o (M q.1) (M (q.1+1)) (V q.1) q.2
 | 0,_,q,hq=>by rw[g.x0]at hq;cases hq
 | j+1,hj,q,hq=>by
   obtain⟨o,d⟩:=Q4 (ops:=ops) (i:=j) A2;have old:q ∈ X j->q.1<j+1/\q ∈ X (q.1+1)/\∃ o,ops[q.1]? = some o/\eB nt ops.toList (X5 P call o) ((Z4 ops.toList []).getD q.1 []) (R q.1) (F q.1) o (M q.1) (M (q.1+1)) (V q.1) q.2:=fun h=>by
    obtain⟨h1,b⟩:=g.inX j A2 q h;exact⟨A2,b⟩
   rcases g.qs j o d with⟨_,h,_⟩|⟨_,h⟩|⟨_,r,h,b⟩
   .exact old (h▸hq)
   .exact old (h▸hq)
   .have a:=hq;rw[h]at hq;rcases B6.1 hq with e|e
    .subst e;exact⟨J5 _,a,o,d,b⟩
    .exact old e
def DI{all:List Oper}{b:H5}{fr:Fr}{o:Oper}{v:Value}(h:eB nt all op b rs fr o m m2 v r):∃ lg,m2=m.wLg lg:=by
 rcases h with⟨lg,_,_,h,_⟩|⟨_,a,_,_,h,_⟩
 .exact⟨lg,h⟩
 .exact⟨a,h⟩
def Rg.kind(g:Rg P base gl nt call ops F M V R X B){i:Nat}{o:Oper}(f:ops[i]? = some o)(a:aP o.op=true):eB nt ops.toList (X5 P call o) ((Z4 ops.toList []).getD i []) (R i) (F i) o (M i) (M (i+1)) (V i) none:=by
 obtain⟨_,_,_,h⟩:=g.st i o f;have j:MA (M i).H (F i) o.op=none:=by
  cases e:o.op<;>rw[e]at a<;>first|rfl|cases a
 rcases h with⟨_,lg,h1,d,h3⟩|⟨_,lg,b,h1,d,h3⟩|⟨h,_⟩|⟨_,h,_⟩
 .exact .inl ⟨lg,h1,d,h3,rfl⟩
 .exact .inr ⟨lg,b,h1,d,h3,j.symm⟩
 .rw[FU (g.sb i o f h)]at a;cases a
 .rw[a]at h;cases h
def Rg.heap{z:Zn}(g:Rg P base gl nt call ops F M V R X B)(f:Ph ops B M lo up){D:Nat->Bool}{o ρ:Ren}{a:Act}{y w':World}(hD:∀ k,lo<=k->k<up->D k=false->∃ lg,M (k+1)=(M k).wLg lg)(inv:Inv z P base gl nt ops F M V lo up o y D ρ a w'):St P base o ρ (M lo) (M up) y w':=by
 have v:∀ id,id<=H8->GD M lo up D id=Hp.get (M up).H id:=fun id hid=>by
  unfold GD;cases hu:gO M (Dr lo D) id up with
  | true=>rfl
  | false =>
    simp only[E3];refine((g.all f f.le (A6 _)).2.2.2.2 id hid ?_).symm;rcases G1 id (M lo).n with h1|h1
    .exact .inl h1
    .rcases G1 id (M up).n with e|e
     .exfalso;have hle:=f.le;obtain⟨k,q,G,x,p⟩:=g.who f (up-lo) A2 id h1 (by rw[show lo+(up-lo)=up by omega];exact e);have u:D k=true:=by
       cases I:D k with
       | true=>rfl
       | false =>
         obtain⟨lg,hm⟩:=hD k q A2 I;rw[hm]at p;have p:id<(M k).n:=p;omega
      rw[(U8 (M:=M) (D:=Dr lo D) up).2 ⟨k,A2,Y9.2 ⟨q,u⟩,x,p⟩]at hu;cases hu
     .exact .inr e
 have d:=g.all f f.le (A6 _);refine⟨inv.ext,fun b l h1 e=>?_,d.1,d.2.1,fun _=>d.2.2.1,inv.hr.hr fun id hid ab t=>by rw[v id hid];exact t,fun b h=>by rw[d.2.2.2.1];exact h,fun b h1 e=>by rw[d.2.2.2.1]at h1;exact absurd h1 e,
     fun k E _=>inv.keep k E,inv.size,inv.os,fun b l h1 e C=>.inl ((inv.new b l h1 e).2 C),fun id hid h1 e=>?_,fun k ⟨id,ab,l,s,w,J,K⟩=>inv.tch k ⟨id,ab,l,s,(v id s).trans w,J,K⟩⟩
 .obtain⟨k,G,A,x,p⟩:=(U8 _).1 (inv.new b l h1 e).1;have q:=(Y9.1 A).1;have s:=(g.le f (i:=lo) (j:=k) (A6 _) q A2).1;have w:=(g.le f (i:=k+1) (j:=up) A2 A2 (A6 _)).1;omega
 .refine d.2.2.2.2 id hid ?_;rcases e with e|e
  .exact .inl e
  .exact .inr (by have:=d.2.2.1;omega)
def Rg.last{z:Zn}(g:Rg P base gl nt call ops F M V R X B)(b:nt<=512){D:Nat->Bool}{d ρ:Ren}{a:Act}{n w':World}(hD:∀ i,i<ops.size->D i=true)(inv:Inv z P base gl nt ops F M V lo up d n D ρ a w'):FrR z ρ nt (F ops.size) a:=by
 have f:=inv.dfr.congr (fun _ _ h=>h) (fun l=>g.own l ops.size (A6 _));refine⟨inv.tsz,b,f.1,f.2,fun t e=>?_⟩;have h1:=inv.frm t e;rw[<- g.frameUp b e (A6 _)]
 rwa[fD (D':=fun k=>Nat.blt k ops.size) ops.size (fun k j _=>by rw[hD k j];exact(B4J.2 j).symm)]at h1
def Rg.fresh{z:Zn}(g:Rg P base gl nt call ops F M V R X B){D:Nat->Bool}{ρ:Ren}{a:Act}{w:World}(hD:∀ k,lo<=k->D k=true->∃ lg,M (k+1)=(M k).wLg lg)(hr:HR P base ρ (M lo).H w)(j:a.tmps.size=nt)(q:ZR z ρ nt (F 0) a.defers)
  (e:∀ t,t<nt->VR ρ (bA D (fun k=>(ops[k]?).bind (·.dst)) V (F 0).get t ops.size) (a.tmps.getD t undef)):Inv z P base gl nt ops F M V lo up ρ w D ρ a w:=by
 have hu:∀ b n,gO M (Dr lo D) b n=false:=fun b n=>by
  cases u:gO M (Dr lo D) b n with
  | false=>rfl
  | true =>
    obtain⟨k,_,h,A,p⟩:=(U8 _).1 u;obtain⟨h1,o⟩:=Y9.1 h;obtain⟨lg,hm⟩:=hD k h1 o;rw[hm]at p;have p:b<(M k).n:=p;omega
 have i:∀ id ab,GD M lo up D id=some ab->Hp.get (M lo).H id=some ab:=fun id ab d=>by
  unfold GD at d;rw[hu]at d;exact d
 exact⟨fun _ _ h=>h,fun b l h1 o=>(by rw[h1]at o;cases o),hr.f fun id hid ab d=>i id ab d,fun _ _=>rfl,A6 _,⟨rfl,rfl,rfl⟩,fun k ⟨id,ab,l,s,v,x,y⟩=>.inr ⟨id,ab,l,s,i id ab v,x,y⟩,j,q,e⟩
def Rg.old{z:Zn}(g:Rg P base gl nt call ops F M V R X B)(d:Ph ops B M lo up){e:Ren}{w0:World}{D:Nat->Bool}(a:At P base gl e (M lo) (M up).hi w0){b:Nat}{ab:AB}(p:zZ (M lo).H b ab=true):GD M lo up D b=some ab:=by
 obtain⟨h1,hid⟩:=zY p;unfold GD;have hu:gO M (Dr lo D) b up=false:=by
  cases t:gO M (Dr lo D) b up with
  | false=>rfl
  | true =>
    exfalso;obtain⟨k,w,s,x,v⟩:=(U8 _).1 t;have n:=(Y9.1 s).1;obtain⟨l,f,_⟩:=a.hr.at_ b hid _ h1;have o:=g.le d (i:=lo) (j:=k) (A6 _) n A2;have u:=g.le d (i:=k+1) (j:=up) A2 A2 (A6 _);have q:=(g.all d d.le (A6 _)).2.2.1;rw[a.fr b A2 A2]at f;cases f
 rw[hu];exact h1
end
def A2S(hm:P.follows .mixedOrders=true)(T:V8 P base gl call):gJ P base gl call:=by
 refine⟨hm,?_⟩;intro nt ops bt s s' ch;obtain⟨F,M,V,R,X,B,f1,f2,f3,dn,f4,f5,f6⟩:=A5P ops.toList 0 _ _ _ s s' ch;simp only[F7,S1]at f4 f5 f6;have ba:∀ i,i<=ops.size->∀ d,i+d<=ops.size->(M i).hi<=(M (i+d)).hi/\(M i).lg.le (M (i+d)).lg:=by
  intro i _ d;induction d with
  | zero=>intro _;exact⟨A6 _,.refl _⟩
  | succ d ih =>
    intro h;have h1:=ih A2;obtain⟨o,C⟩:=Q4 (ops:=ops) (i:=i+d) A2;obtain⟨bm,_⟩:=f6 (i+d) o (T6 C);refine⟨?_,h1.2.trans (CT T bm)⟩;obtain⟨_,_,_,O⟩:=bm;rcases O with⟨_,_,_,_,O⟩|⟨_,_,_,_,_,O⟩|⟨_,_,_,_,O⟩|⟨_,_,_,_,mv,m',_,_,_,ck,O⟩
    .show _<=(M (i+d+1)).hi;rw[O];exact h1.1
    .show _<=(M (i+d+1)).hi;rw[O];exact h1.1
    .exact C6 h1.1 O
    .exact C6 h1.1 (A1E O ck)
 have E:∀ i j,i<=j->j<=ops.size->(M i).hi<=(M j).hi/\(M i).lg.le (M j).lg:=fun i j h1 O=>by
  have:=ba i A2 (j-i) A2
  rwa[show i+(j-i)=j by omega]at this
 constructor
 .have:=E 0 ops.size A2 (A6 _);rw[f2,f5]at this;exact this
 .intro z av a0 w id Q cf ax ah hQ;have g:Rg P base gl nt call ops F M V R X B:=⟨fun i o C=>(f6 i o (T6 C)).1,fun i o C=>(f6 i o (T6 C)).2.2.1,fun i o C=>(f6 i o (T6 C)).2.2.2,fun i o C=>(f6 i o (T6 C)).2.1,dn,bt⟩;have cm:∀ i o,ops[i]? = some o->∀ e ∈ o.after.toList,Region.binds .any e=true->e.on<i:=fun i o C=>by
   have:=(iF _ 0 g.ok i o (T6 C)).1;rw[F7]at this;exact fH this
  refine kZ hm ?_;generalize cr:({ w with drawn:=w.drawn+1 }:World)=w1;have ao:w1.heap=w.heap:=by rw[<- cr]
  have bc:w1.os=w.os/\w1.tape=w.tape/\w1.output=w.output:=by rw[<- cr];exact⟨rfl,rfl,rfl⟩
  have au:At P base gl av (M 0) (M ops.size).hi w1:=by
   rw[f2,f5];exact⟨⟨fun b l h=>ax.hr.dom b l h,fun id hid ab dy=>by
    obtain⟨l,e1,e2,e3⟩:=ax.hr.at_ id hid ab dy;exact⟨l,e1,e2.mono (fun _ _ h=>h) (fun _ _=>by rw[ao]),e3⟩⟩,by rw[ao];exact ax.bs,ax.fr,ax.gr,ax.nh,ax.wb,fun k o A=>by rw[ao];exact ax.gf k o A⟩
  have al:∀ i,i<=ops.size->Sat (M i).lg:=fun i hi=>S4.le cf (by rw[<- f5];exact(E i ops.size hi (A6 _)).2)
  have az:K7 av (M 0).n (M ops.size).hi:=au.fr;have fin:∀ (ρ:Ren) (a:Act) (w':World),FrR z ρ nt (F ops.size) a->St P base av ρ (M 0) (M ops.size) w1 w'->Q .normal a w':=fun ρ a w' hf st=>by
   refine hQ ρ a w' (by rw[<- f4];exact hf) ?_;rw[<- f2,<- f5];exact⟨st.ext,st.new,st.nle,st.hle,st.nhi,st.hr,st.wsub,st.wrw,fun k A hb=>by rw[st.keep k (by rw[ao];exact A) hb,ao],by rw[<- ao];exact st.size,⟨st.os.1.trans bc.1,st.os.2.1.trans bc.2.1,st.os.2.2.trans bc.2.2⟩,fun b l h1 O h3=>by rw[<- ao];exact st.blk b l h1 O h3,st.same,fun k A=>by rw[<- ao];exact st.tch k A⟩
  have main:∀ (fuel:Nat) (listed:Array Bool) (lo up:Nat) (K ρ:Ren) (a:Act) (wL w':World),listed.size=ops.size->listed.toList.countP (fun b=>!b)=fuel->mV ops.toList (fun k=>listed.getD k false=true) ->
    Ph ops B M lo up->(up<ops.size->∃ o,ops[up]? = some o/\B up=true)->St P base av K (M 0) (M lo) w1 wL->At P base gl K (M lo) (M ops.size).hi wL->(∀ q ∈ X lo,listed.getD q.1 false=false->A6l (M lo).H q.2=true)->(∀ k,k<lo->listed.getD k false=false->∃ q ∈ X lo,q.1=k)->(∀ k o,up<=k->ops[k]? = some o->listed.getD k false=true->aP o.op=true) ->
    Inv z P base gl nt ops F M V lo up K wL (fun k=>listed.getD k false) ρ a w'->iS P z.rd .any ops Q fuel listed a w':=by
   have done:∀ (listed:Array Bool) (lo up:Nat) (K ρ:Ren) (a:Act) (wL w':World),(∀ i,i<ops.size->listed.getD i false=true)->Ph ops B M lo up->(up<ops.size->∃ o,ops[up]? = some o/\B up=true)->St P base av K (M 0) (M lo) w1 wL->(∀ k o,up<=k->ops[k]? = some o->listed.getD k false=true->aP o.op=true) ->
     Inv z P base gl nt ops F M V lo up K wL (fun k=>listed.getD k false) ρ a w'->Q .normal a w':=fun listed lo up K ρ a wL w' W ph J ai L inv=>by
    have cl:up=ops.size:=by
     rcases G1 up ops.size with h|h
     .obtain⟨o,C,hs⟩:=J h
      have:=L up o (A6 _) C (W up h);rw[FU (g.sb up o C hs)]at this;cases this
     .have:=ph.sz;omega
    subst cl;exact fin ρ a w' (g.last ah.le W inv) (St.trans az ai (g.heap ph (fun k _ h1 O=>by have O:listed.getD k false=false:=O;rw[W k h1]at O;cases O) inv))
   intro fuel;induction fuel with
   | zero =>
     intro listed lo up K ρ a wL w' bd bj ay ph J ai ad cz br L inv;have W:∀ i,i<ops.size->listed.getD i false=true:=fun i hi=>by
      have:=QH bj i (by simpa [bd]using hi);have O:listed[i]? = some true:=by simpa using this
      simp[B9,O]
     refine⟨?_,done listed lo up K ρ a wL w' W ph J ai L inv⟩;rw[cH];intro j hj;obtain⟨h1,o,O,_⟩:=mem_ready.1 hj;have aq:j<ops.size:=(D0.1 O).1;have h3:=W j aq;have bb:j<listed.size:=A2;simp[B9,bb]at h1 h3;rw[h1]at h3;cases h3
   | succ fuel ih =>
     intro listed lo up K ρ a wL w' bd bj ay ph J ai ad cz br L inv;refine⟨fun dp=>?_,fun i hi=>?_⟩
     ·
      have key:∀ n i,i<n->i<ops.size->listed.getD i false=true:=by
       intro n;induction n with
       | zero=>intro i h;omega
       | succ n bp =>
         intro i dh bo;by_cases h:i<n
         .exact bp i h bo
         .cases Y:listed.getD i false with
          | true=>rfl
          | false =>
            exfalso;obtain⟨o,C⟩:=Q4 (ops:=ops) bo;have bh:i ∈ Region.ready .any ops listed:=mem_ready.2 ⟨by
             have bb:i<listed.size:=A2;simp[B9,bb]at Y ⊢;exact Y,o,C,fun e he hb=>by
             have aq:=cm i o C e (by simpa using he) hb;exact bp e.on A2 A2⟩
            rw[dp]at bh;cases bh
      exact done listed lo up K ρ a wL w' (fun i hi=>key (i+1) i (J5 i) hi) ph J ai L inv
     .obtain⟨h1,o,C,O⟩:=mem_ready.1 hi;have bo:i<ops.size:=(D0.1 C).1;have ae:i<listed.size:=A2;have Z:listed.getD i false=false:=by
       simp[B9,ae]at h1 ⊢;exact h1
      have u:∀ k,k≠i->(listed.setIfInBounds i true).getD k false=listed.getD k false:=fun k A=>by
       simp only[B9,G3];rw[A7 (fun e=>A e.symm)]
      have I:(listed.setIfInBounds i true).getD i false=true:=by
       simp[B9,G3,ae]
      have hr:∀ e ∈ o.after.toList,Region.binds .any e=true->listed.getD e.on false=true:=fun e he hb=>O e (by simpa using he) hb
      have bf:(listed.setIfInBounds i true).size=ops.size:=by simpa using bd
      have bq:(listed.setIfInBounds i true).toList.countP (fun b=>!b)=fuel:=by
       have hg:listed.toList[i]? = some false:=by
        simp[B9,ae]at Z;simp[ae,Z]
       have:=EP listed.toList i hg;rw[Array.toList_setIfInBounds];omega
      have bk:mV ops.toList (fun k=>(listed.setIfInBounds i true).getD k false=true):=by
       intro k o' cv A e he hb;by_cases e1:e.on=i
       .rw[e1];exact I
       .show(listed.setIfInBounds i true).getD e.on false=true;rw[u e.on e1];by_cases e2:k=i
        .subst e2;have:ops.toList[k]? = some o:=T6 C;rw[this]at cv;cases cv;exact hr e he hb
        .have A:(listed.setIfInBounds i true).getD k false=true:=A;rw[u k e2]at A;exact ay k o' cv A e he hb
      have bz:∀ k,k ∈ (Z4 ops.toList []).getD i []->listed.getD k false=true:=fun k A=>BL ay (fun i o C=>by
        have:=(iF _ 0 g.ok i o C).1;rw[F7]at this;exact fH this) (i+1) i k o (J5 i) (T6 C) hr A
      have aq:∀ k,listed.getD k false=true->k<ops.size:=fun k A=>by
       rcases G1 k ops.size with h|h
       .exact h
       .have S:listed[k]? = none:=Array.getElem?_eq_none_iff.2 A2;rw[B9,S]at A;cases A
      have ag:At P base gl K (M lo) (M up).hi wL:=ad.less (E up ops.size ph.sz (A6 _)).1;have go:∀ (y:Ren) (a':Act) (G:World),(up<=i->aP o.op=true)->Inv z P base gl nt ops F M V lo up K wL (fun k=>(listed.setIfInBounds i true).getD k false) y a' G->iS P z.rd .any ops Q fuel (listed.setIfInBounds i true) a' G:=fun y a' G Y an =>
       ih (listed.setIfInBounds i true) lo up K y a' wL G bf bq bk ph J ai ad (fun q Y S=>cz q Y (by
        by_cases e:q.1=i
        .rw[e,I]at S;cases S
        .rw[u _ e]at S;exact S)) (fun k A S=>by
        by_cases e:k=i
        .subst e;rw[I]at S;cases S
        .rw[u k e]at S;exact br k A S) (fun k p A hp hl=>by
        by_cases e:k=i
        .subst e;rw[C]at hp;cases hp;exact Y A
        .rw[u k e]at hl;exact L k p A hp hl) an
      have quiet:∀ r,(up<=i->aP o.op=true)->eB nt ops.toList (X5 P call o) ((Z4 ops.toList []).getD i []) (R i) (F i) o (M i) (M (i+1)) (V i) r->(∀ b ab,r=some (b,ab)->GD M lo up (fun k=>listed.getD k false) b=some ab)->hH P z.rd ops Q i (fun a' G=>iS P z.rd .any ops Q fuel (listed.setIfInBounds i true) a' G) a w':=fun r Y U dt =>
       g.quiet T ag (al (i+1) A2) ah.le inv ay aq C Z hr u I U dt fun y a' G an=>go y a' G Y an
      rcases G1 i lo with af|af
      ·
       obtain⟨q,cb,cg⟩:=br i af Z;obtain⟨_,_,p,hp,U⟩:=g.inX lo (by have:=ph.sz;have:=ph.le;omega) q cb;rw[cg]at hp U;rw[C]at hp;cases hp;refine quiet q.2 (fun h=>by have:=ph.le;omega) U fun b ab hb=>?_
       refine g.old (z:=z) ph ag ?_
       have:=cz q cb (by rw[cg];exact Z);rw[hb]at this;exact this
      .rcases G1 i up with ct|ct
       ·
        by_cases hex:∃ r,eB nt ops.toList (X5 P call o) ((Z4 ops.toList []).getD i []) (R i) (F i) o (M i) (M (i+1)) (V i) r
        .obtain⟨r,U⟩:=hex;refine quiet r (fun h=>by omega) U fun b ab hb=>?_
         rcases U with⟨_,_,_,_,dw⟩|⟨lg,di,hw,Y,hm,dm⟩
         .rw[dw]at hb;cases hb
         .obtain⟨mv,m',cy,_⟩:=lL Y;obtain⟨h3,h4⟩:=(tK cy).2.2.2.2.2 b ab (dm.symm.trans hb);obtain⟨h5,h6⟩:=zY h3;exact g.see (z:=z) (a:=a) (ρ:=ρ) (w:=w') ph ag ay af ct C hr b h6 _ h5 h4
        .exact g.step ph T ag (al up ph.sz) ah.le inv ay aq af ct C Z hr u I hex fun y a' G an=>go y a' G (fun h=>by omega) an
       .obtain⟨os,bu,ar⟩:=J A2;rcases G1 up i with dx|dk
        ·
         have A:aP o.op=true:=by
          rcases OK (g.sb up os bu ar) i o dx C with h|h
          .have h3:=L up os (A6 _) bu (bz up h);rw[FU (g.sb up os bu ar)]at h3;cases h3
          .exact h
         exact quiet none (fun _=>A) (g.kind C A) fun b ab hb=>by cases hb
        ·
         have cd:i=up:=A2;subst cd;rw[C]at bu;cases bu;have aa:∀ k,k<i->listed.getD k false=false->∃ q ∈ X i,q.1=k:=fun k A S=>by
          rcases OL (g.sb i o C ar) k A with h|h
          .rw[bz k h]at S;cases S
          .exact h
         have q2:=g.heap ph (fun k _ A S=>by
          obtain⟨q,Y,e⟩:=aa k A S;obtain⟨_,_,p,hp,U⟩:=g.inX i A2 q Y;rw[e]at U;exact DI U) inv
         have ds:St P base av ρ (M 0) (M i) w1 w':=St.trans (az.less (E i ops.size A2 (A6 _)).1) ai q2;have aw:At P base gl ρ (M i) (M ops.size).hi w':=ad.step q2;obtain⟨d1,d2,d3,bm⟩:=g.st i o C;have bx:∀ t,t ∈ V9 ops.toList o->t<nt->VR ρ ((F i).get t) (a.tmps.getD t undef):=fun t ht cq=>by
          rw[<- g.look ah.le ay aq C Z hr ht cq];exact inv.frm t cq
         have dq:FR ρ (F i) a.eval o.op:=fun x hx=>by
          have bt:okX nt gl x=true:=D7.1 d2 x hx;cases x with
          | tmp t=>exact bx t (xY hx rfl) (A1 bt)
          | const v=>exact VR.ofC bt
          | global gg=>exact VR.ptr (o:=0) (aw.gr gg (A1 bt))
          | func f=>exact .func (a:=[]) (b:=[]) (a':=[]) (b':=[]) rfl rfl (fun i v v' h=>by simp at h) (fun i v v' h=>by simp at h)
         have cw:∀ lg b,bQ nt (F i) (M i).lg ops.toList o=some (b,lg)->Sat lg->Region.wanted o (yielded ops a.tmps)=b:=fun lg b hw cu=>by
          unfold bQ at hw;split at hw
          .rename_i hg;cases hw;simp[Region.wanted,hg]
          .rename_i j want hg;split at hw
           .rename_i p hp;split at hw
            .rename_i t ht;obtain⟨h1,O⟩:=A3 hw;have h1:t<nt:=A1 h1;have hv:=bx t (by
              unfold V9;refine B8.2 (.inr (B8.2 (.inr ?_)));simp[hg,hp,ht]) h1
             exact nA hg hp ht (by rw[inv.tsz];exact h1) (qE O hv cu)
            .cases hw
           .cases hw
         have bn:∀ (y:Ren) (v':Value),(∀ b l,ρ b=some l->y b=some l)->VR y (V i) v'->∀ t,t<nt->VR y (bA (fun k=>(listed.setIfInBounds i true).getD k false) (fun k=>(ops[k]?).bind (·.dst)) V (F 0).get t ops.size) ((a.put o.dst v').tmps.getD t undef):=fun y v' he hv t ht=>by
          by_cases hd:o.dst=some t
          .have ak:∀ k,i<k->k<ops.size->(ops[k]?).bind (·.dst)=some t->listed.getD k false=false:=fun k dj A dz=>by
            obtain⟨p,hp⟩:=Q4 (ops:=ops) A;rw[hp]at dz
            have:=g.slot ay aq C Z hr (t:=t) (by unfold V9;simp[hd]) k p hp A2 dz;cases Y:listed.getD k false with
            | false=>rfl
            | true=>have:=this.1 Y;omega
           rw[sO (D:=fun k=>listed.getD k false) u I ops.size bo (by simp[C,hd]) ak];simp only[hd,Act.put,B9];rw[G3,A9 rfl,A9 (by rw[inv.tsz];exact ht)];exact hv
          .rw[pE (D:=fun k=>listed.getD k false) u (by simp[C];exact hd)];have h1:=(inv.frm t ht).mono he;cases cj:o.dst with
           | none=>exact h1
           | some d =>
             have dr:d≠t:=fun e=>hd (e▸cj)
             simp only[Act.put,B9]at h1 ⊢;rw[G3,A7 dr];exact h1
         have hX:X (i+1)=X i/\A1T ((Z4 ops.toList []).getD i []) (M (i+1)).H (X i)=true:=by
          rcases g.qs i o C with⟨_,h3,h4⟩|⟨h3,_⟩|⟨h3,_⟩
          .exact⟨h3,h4⟩
          .rw[ar]at h3;cases h3
          .rw[ar]at h3;cases h3
         have ak:∀ (y:Ren) (v':Value) (G:World),VR y (V i) v'->St P base ρ y (M i) (M (i+1)) w' G->iS P z.rd .any ops Q fuel (listed.setIfInBounds i true) (a.put o.dst v') G:=fun y v' G hv aj=>by
          obtain⟨du,u1,u2,u3,u4⟩:=tP ops B (ops.size-(i+1)) (i+1) A2;have bg:=aw.step aj;refine ih (listed.setIfInBounds i true) (i+1) du y y _ G G bf bq bk ⟨u1,u2,bg.nh,u3⟩ u4 (St.trans (az.less (E (i+1) ops.size A2 (A6 _)).1) ds aj) bg (fun q Y S=>?_) (fun k A S=>?_) (fun k p A hp hl=>?_)
           (g.fresh (fun k A hl=>?_) aj.hr ?_ ?_ (bn y v' aj.ext hv))
          .rw[hX.1]at Y;have h5:=D7.1 hX.2 q Y;rcases J2 _ _▸h5 with h5|h5
           .exfalso;have h6:=bz q.1 (W7.1 h5);by_cases e:q.1=i
            .rw[e,Z]at h6;cases h6
            .rw[u _ e,h6]at S;cases S
           .exact h5
          .rw[hX.1];by_cases e:k=i
           .subst e;rw[I]at S;cases S
           .rw[u k e]at S;exact aa k A2 S
          .rw[u k A2]at hl;exact L k p A2 hp hl
          .have hl:(listed.setIfInBounds i true).getD k false=true:=hl;rw[u k A2]at hl;obtain⟨p,hp⟩:=Q4 (ops:=ops) (aq k hl);exact DI (g.kind hp (L k p A2 hp hl))
          .cases cj:o.dst<;>simp[Act.put,inv.tsz]
          .rw[eU];exact inv.dfr.congr aj.ext fun _=>⟨rfl,rfl⟩
         unfold hH;simp only[C];rcases bm with⟨N,_⟩|⟨N,_⟩|⟨_,lg,hw,bw,ck⟩|⟨N,_⟩
         .rw[ar]at N;cases N
         .rw[ar]at N;cases N
         .have cn:=al (i+1) A2;have cu:Sat lg:=S4.le cn (by have:=aK T bw;rw[i7]at this;exact this);rw[cw lg true hw cu];simp only[if_true];have ca:At P base gl ρ ((M i).wLg lg) (M (i+1)).hi w':=(aw.wLg lg).less (E (i+1) ops.size A2 (A6 _)).1;refine qO T bw cn ca dq fun v' y G hv aj=>ak y v' G hv ?_
          have cp:=St.wLg (m:=M i) aw.hr lg;exact St.trans (by have:=aw.fr;exact this.less (E (i+1) ops.size A2 (A6 _)).1) cp aj
         .rw[ar]at N;cases N
  obtain⟨up,u1,u2,u3,u4⟩:=tP ops B ops.size 0 A2;have bl:∀ k,(Array.replicate ops.size false).getD k false=false:=fun k=>by
   simp only[B9,gY];split<;>simp
  refine main ops.size _ 0 up av av a0 w1 w1 (by simp) (by simp[List.countP_replicate]) (fun k o C A=>by have A:(Array.replicate ops.size false).getD k false=true:=A;rw[bl k]at A;cases A) ⟨u1,u2,au.nh,u3⟩ u4 (St.refl au.hr) au (fun q Y=>by rw[g.x0]at Y;cases Y) (fun k A=>by omega) (fun k o A C hl=>by rw[bl k]at hl;cases hl)
   (g.fresh (fun k _ hl=>by have hl:(Array.replicate ops.size false).getD k false=true:=hl;rw[bl k]at hl;cases hl) au.hr ah.size (by rw[f1];exact ah.zr) fun t ht=>?_)
  have h0:∀ n,bA (fun k=>(Array.replicate ops.size false).getD k false) (fun k=>(ops[k]?).bind (·.dst)) V (F 0).get t n=(F 0).get t:=by
   intro n;induction n with
   | zero=>rfl
   | succ n bp=>rw[bA,A7 (fun hh=>by rw[bl n]at hh;exact absurd hh.1 (by simp)),bp]
  rw[h0,f1];exact ah.get t ht
end
end
section
open Go
variable [Ora]
section
variable {P:Program} {base gl:Nat}
def xM{f:FuncId}{e:X1->Sem Value}{args:X1}{w w':World}{v:Value}(i:P.funcs[f]? = some fn)(b:(fn.name == "runtime.NumGoroutine")=false)(d:fn.body=none)(g:Extern.findNext fn=none)(he:Extern.find fn=some e)
  (hr:(e args).run P w=.ok v w'):(callFunc f args).run P w=.ok (.value v) w':=by
 have a:fn.name ≠ "runtime.NumGoroutine":=by simpa using b
 simp[callFunc,A4,run_program,Result.andThen,i,a,d,g,he,mark,Sem.run,hr]
def mI{k:EK}{vs:D3}{v:Value}(h:pJ k vs m=some (v,m')) :
  (k=.noEscape/\vs=[v]/\m'=m) ∨
  (k=.indexByteString/\∃ s c,vs=[.string s,.int .u8 (.ofNat c)]/\v=.int .i64 (tZ s.data.toList (UInt8.ofNat c) 0)/\m'=m) ∨
  (k=.countString/\∃ s c,vs=[.string s,.int .u8 (.ofNat c)]/\v=.int .i64 (uJ (UInt8.ofNat c) s.data.toList 0)/\m'=m) ∨
  (∃ e n,k=.makeNoZero e/\vs=[.int .i64 (.ofNat n)]/\n<=1000000000/\Z9 m (.cells [] e false) (fun b=>.slice (some ⟨b,0,none⟩) n N6)=some (v,m')):=by
 unfold pJ at h;split at h
 .cases h;exact .inl ⟨rfl,rfl,rfl⟩
 .cases h;exact .inr (.inl ⟨rfl,_,_,rfl,rfl,rfl⟩)
 .cases h;exact .inr (.inr (.inl ⟨rfl,_,_,rfl,rfl,rfl⟩))
 .obtain⟨h1,h⟩:=A3 h;exact .inr (.inr (.inr ⟨_,_,rfl,rfl,A1 h1,h⟩))
 .cases h
def xN{k:EK}{vs:D3}{v:Value}(h:(FnC.mk (pJ k)).run vs m=some (v,m')):m.lg.le m'.lg:=by
 have h:pJ k vs m=some (v,m'):=h;rcases mI h with⟨_,_,rfl⟩|⟨_,_,_,_,_,rfl⟩|⟨_,_,_,_,_,rfl⟩|⟨_,_,_,_,_,h⟩
 .exact .refl _
 .exact .refl _
 .exact .refl _
 .obtain⟨_,_,rfl⟩:=M2 h;exact .refl _
def KU{f:FuncId}(g:P.funcs[f]? = some fn)(a:(fn.name == "runtime.NumGoroutine")=false)(e:fn.body=none)(j:Extern.findNext fn=none)(he:Extern.find fn=some Extern.AbiNoEscape.same):mU P base gl f ⟨pJ .noEscape⟩:=by
 refine⟨fun vs m m' v hr=>xN hr,?_⟩;intro ρ m m' w vs vs' v hr l b d;have hr:pJ .noEscape vs m=some (v,m'):=hr;rcases mI hr with⟨_,rfl,rfl⟩|⟨h,_⟩|⟨h,_⟩|⟨_,_,h,_⟩
 .obtain⟨v',k,rfl,h1,i⟩:=d.tail;cases i.nil_inv;exact .inr ⟨v',ρ,w,xM g a e j he rfl,h1,.refl b.hr⟩
 .cases h
 .cases h
 .cases h
def EB(c:UInt8):∀ (l:List UInt8) (k:Nat),tZ l c k=if Lib.indexByte l c == -1 then -1 else Lib.indexByte l c+k
 | [],k=>rfl
 | x::r,k=>by
   have f:=Lib.indexByte_ge r c;have d:=EB c r (k+1);rw[tZ,Lib.indexByte];by_cases e:x=c
   .subst e;simp
   .have a:(x == c)=false:=by simpa using e
    simp only[a,E5 e,E3];rw[d];by_cases h:Lib.indexByte r c = -1
    .simp[h]
    .have b:(Lib.indexByte r c == -1)=false:=by simpa using h
     have h3:(Lib.indexByte r c+1 == -1)=false:=by simp;omega
     simp only[b,h3,K0,if_false];omega
def PY(c:UInt8)(l:List UInt8):tZ l c 0=Lib.indexByte l c:=by
 rw[EB];by_cases h:Lib.indexByte l c = -1
 .simp[h]
 .have a:(Lib.indexByte l c == -1)=false:=by simpa using h
  simp[a]
def pN(c:UInt8):∀ (l:List UInt8) (n:Nat),uJ c l n=n+l.count c
 | [],n=>rfl
 | x::r,n=>by
   rw[uJ,List.count_cons];by_cases e:x=c
   .subst e;simp only[decide_true,E6,F0,beq_self_eq_true,if_true];rw[pN x r (n+1)];omega
   .have a:(x == c)=false:=by simpa using e
    simp only[E5 e,E3,a,K0,if_false];rw[pN c r n];omega
def HB{f:FuncId}(i:P.funcs[f]? = some fn)(a:(fn.name == "runtime.NumGoroutine")=false)(g:fn.body=none)(k:Extern.findNext fn=none)(he:Extern.find fn=some Extern.BytealgIndexByte.indexByte):mU P base gl f ⟨pJ .indexByteString⟩:=by
 refine⟨fun vs m m' v hr=>xN hr,?_⟩;intro ρ m m' w vs vs' v hr l b d;have hr:pJ .indexByteString vs m=some (v,m'):=hr;rcases mI hr with⟨h,_⟩|⟨_,s,c,rfl,rfl,rfl⟩|⟨h,_⟩|⟨_,_,h,_⟩
 .cases h
 .obtain⟨v1,r1,rfl,h1,j⟩:=d.tail;obtain⟨v2,n,rfl,h3,e⟩:=j.tail;cases e.nil_inv;cases V1 h1;cases J6 h3;refine .inr ⟨_,ρ,w,xM i a g k he (Lib.run_indexByteString s (.ofNat c) w),?_,.refl b.hr⟩;rw[PY];exact .pure rfl
 .cases h
 .cases h
def AR{f:FuncId}(i:P.funcs[f]? = some fn)(a:(fn.name == "runtime.NumGoroutine")=false)(g:fn.body=none)(k:Extern.findNext fn=none)(he:Extern.find fn=some Extern.BytealgCount.count):mU P base gl f ⟨pJ .countString⟩:=by
 refine⟨fun vs m m' v hr=>xN hr,?_⟩;intro ρ m m' w vs vs' v hr l b d;have hr:pJ .countString vs m=some (v,m'):=hr;rcases mI hr with⟨h,_⟩|⟨h,_⟩|⟨_,s,c,rfl,rfl,rfl⟩|⟨_,_,h,_⟩
 .cases h
 .cases h
 .obtain⟨v1,r1,rfl,h1,j⟩:=d.tail;obtain⟨v2,n,rfl,h3,e⟩:=j.tail;cases e.nil_inv;cases V1 h1;cases J6 h3;refine .inr ⟨_,ρ,w,xM i a g k he (Lib.run_countString s (.ofNat c) w),?_,.refl b.hr⟩;rw[pN,F7];exact .pure rfl
 .cases h
def CF{f:FuncId}{ps:Array TypeId}{t e:TypeId}(s:P.funcs[f]? = some fn)(j:(fn.name == "runtime.NumGoroutine")=false)(p:fn.body=none)(z:Extern.findNext fn=none)(he:Extern.find fn=some (Extern.BytealgMakeNoZero.makeNoZero ps #[t]))
  (hu:P.underlying t=some (.slice e)) (hi:(P.info? e).map (·.size)=some 1):mU P base gl f ⟨pJ (.makeNoZero e)⟩:=by
 refine⟨fun vs m m' v hr=>xN hr,?_⟩;intro ρ m m' w vs vs' v hr A a k;have hr:pJ (.makeNoZero e) vs m=some (v,m'):=hr;rcases mI hr with⟨h,_⟩|⟨h,_⟩|⟨h,_⟩|⟨e',n,h,rfl,q,hr⟩
 .cases h
 .cases h
 .cases h
 .cases h;obtain⟨v1,r1,rfl,h1,g⟩:=k.tail;cases g.nil_inv;cases J6 h1;obtain⟨cs,d,hle,_⟩:=Lib.run_makeNoZero (P:=P) w ps t e hu n A2;obtain⟨l,x,y⟩:=eF (wd:=w.drew.drew) (fz:=(0,0)) (cap:=cs.size) (C:=cs) (cs':=[]) a.hr a.bs hr a.fr (.nil) (fun i u hi=>by simp at hi) NF.zero
   (fun inf g=>by rw[g]at hi;have hi:some inf.size=some 1:=hi;have hi:=A8 hi;rw[hi];omega) ⟨rfl,rfl,rfl⟩ rfl
  refine .inr ⟨_,_,_,xM s j p z he d,?_,y⟩;rw[l]
  have:=VR.op (ρ:=upd ρ m.n (lc w.heap.size 0 cs.size)) (b:=m.n) (o:=0) (n:=n) (m:=N6) (m':=cs.size) x (A6 _) hle (fun _ _=>rfl)
  simpa using this
end
end
section
open Go
variable [Ora]
structure BN (P:Program) (f:FuncId) (k:EK):Prop where
 row:∃ fn,P.funcs[f]? = some fn/\(fn.name == "runtime.NumGoroutine")=false/\fn.body=none/\Extern.findNext fn=none /\
  ((k=.noEscape/\Extern.find fn=some Extern.AbiNoEscape.same)∨(k=.indexByteString/\Extern.find fn=some Extern.BytealgIndexByte.indexByte)∨(k=.countString/\Extern.find fn=some Extern.BytealgCount.count) ∨
    (∃ e ps t,k=.makeNoZero e/\Extern.find fn=some (Extern.BytealgMakeNoZero.makeNoZero ps #[t])/\P.underlying t=some (.slice e)/\(P.info? e).map (·.size)=some 1))
def BN.ok{P:Program}{f:FuncId}{k:EK}{base gl:Nat}(h:BN P f k):mU P base gl f ⟨pJ k⟩:=by
 obtain⟨fn,h1,b,h3,d,a⟩:=h.row;rcases a with⟨rfl,a⟩|⟨rfl,a⟩|⟨rfl,a⟩|⟨e,ps,t,rfl,a,g,i⟩
 .exact KU h1 b h3 d a
 .exact HB h1 b h3 d a
 .exact AR h1 b h3 d a
 .exact CF h1 b h3 d a g i
def EJ:∀ {l:List (FuncId×EK)} {f:FuncId} {k:EK},MH l f=some k->(f,k) ∈ l
 | (g,j)::r,f,k,h=>by
   rw[MH]at h;cases e:Nat.beq g f with
   | true =>
     rw[e]at h;cases h;rw[A0 e];exact .head _
   | false =>
     rw[e]at h;exact .tail _ (EJ h)
theorem A4q{P:Program}{ext:List (FuncId×EK)}{gl base:Nat}{con:FuncId->Option FnC}{lp:FuncId->LpT}(hm:P.follows .mixedOrders=true)(d:II P)(he:∀ p ∈ ext,BN P p.1 p.2)
  (b:∀ f c,con f=some c->mU P base gl f c) (a:∀ f fn body,P.funcs[f]? = some fn->fn.body=some body->QV P base gl fn.ntmps body (lp f)) :
  A5K ⟨P,ext,gl,con,lp⟩ base :=
 { names:=d,ext:=fun f k fn _ _ h=>(he _ (EJ h)).ok,con:=b,lp:=a,draws:=fun _ h=>A2S hm h }
end
section
open Go
inductive Sh where
 | s (t:Nat)
 | a (ts:List Nat)
def IX(t:Nat)(u:U):R3:=if G4 u=t then toV u else none
def UX:H5->List U->Option (D3×List U)
 | [],us=>some ([],us)
 | t::ts,u::us=>match IX t u,UX ts us with
   | some v,some (vs,r)=>some (v::vs,r)
   | _,_=>none
 | _::_,[]=>none
def IW:Sh->List U->Option (Value×List U)
 | .s t,u::us=>match IX t u with
   | some v=>some (v,us)
   | none=>none
 | .s _,[]=>none
 | .a ts,us=>match UX ts us with
   | some (vs,r)=>some (.agg ⟨vs⟩,r)
   | none=>none
def UW:List Sh->List U->Option D3
 | [],[]=>some []
 | [],_::_=>none
 | h::hs,us=>match IW h us with
   | some (v,r)=>match UW hs r with
     | some vs=>some (v::vs)
     | none=>none
   | none=>none
def tup:D3->Value
 | [v]=>v
 | vs=>.tuple ⟨vs⟩
structure mT (w w':World):Prop where
 os:w'.os=w.os/\w'.tape=w.tape/\w'.output=w.output
 size:w.heap.size<=w'.heap.size
 keep:∀ k,k<w.heap.size->w'.heap[k]? = w.heap[k]?
def GOk(G:Nat->Option Obj)(w:World):Prop:=∀ k o,G k=some o->w.heap[k]? = some o
def GOk.lt{G:Nat->Option Obj}{w:World}(h:GOk G w){k:Nat}{o:Obj}(a:G k=some o):k<w.heap.size:=by
 have:=h k o a;rcases G1 k w.heap.size with h1|h1
 .exact h1
 .rw[Array.getElem?_eq_none h1]at this;cases this
abbrev dK:=List U->Option (Nat×List U)
def Sh.tags:Sh->H5
 | .s t=>[t]
 | .a ts=>ts
def CS:List Sh->H5
 | []=>[]
 | s::ss=>s.tags++CS ss
def Sh.n(s:Sh):Nat:=s.tags.length
def shN:List Sh->Nat
 | []=>0
 | h::hs=>h.n+shN hs
def mM(a:List Sh):Bool:=(CS a).any (Nat.ble 10)
inductive ShR (R:Nat->Option Obj):Sh->List U->Value->Prop
 | s {t u v} (h:Enc R u v) (ht:G4 u=t):ShR R (.s t) [u] v
 | a {ts us cs} (h:Z5 R us cs) (ht:us.map G4=ts):ShR R (.a ts) us (.agg ⟨cs⟩)
inductive ShL (R:Nat->Option Obj):List Sh->List U->D3->Prop
 | nil:ShL R [] [] []
 | cons {s ss us us2 v vs} (h:ShR R s us v) (k:ShL R ss us2 vs):ShL R (s::ss) (us++us2) (v::vs)
def Z5.append{R:Nat->Option Obj}{us a:List U}{vs:D3}(h:Z5 R us vs)(k:Z5 R a vs2):Z5 R (us++a) (vs++vs2):=by
 refine⟨by simp[h.1,k.1],fun i u v h1 d=>?_⟩;rcases G1 i us.length with b|b
 .rw[F4 b]at h1;rw[F4 (h.1▸b)]at d;exact h.2 i u v h1 d
 .rw[E4 b]at h1;rw[E4 (h.1▸b),<- h.1]at d;exact k.2 _ u v h1 d
def Z5.split{R:Nat->Option Obj}:∀ {vs vs2:D3} {us:List U},Z5 R us (vs++vs2)->∃ a b,us=a++b/\Z5 R a vs/\Z5 R b vs2
 | [],vs2,us,h=>⟨[],us,rfl,.nil,h⟩
 | v::vs,vs2,[],h=>by have:=h.1;simp at this
 | v::vs,vs2,u::us,h=>by
   obtain⟨a,b,rfl,h1,d⟩:=Z5.split (vs:=vs) (vs2:=vs2) (us:=us) ⟨by have:=h.1;simpa using this,fun i x y e a2=>h.2 (i+1) x y (by simpa using e) (by simpa using a2)⟩;exact⟨u::a,b,rfl,.cons (h.2 0 u v rfl rfl) h1,d⟩
def Z5.mono{R d:Nat->Option Obj}{us:List U}{vs:D3}(h:Z5 R us vs)(k:Sub R d):Z5 d us vs:=⟨h.1,fun i u v a b=>(h.2 i u v a b).mono k⟩
def IZ{R:Nat->Option Obj}:∀ {ts:H5} {us r:List U} {vs:D3},UX ts us=some (vs,r)->∃ a,us=a++r/\Z5 R a vs/\a.map G4=ts
 | [],us,r,vs,h=>by cases h;exact⟨[],rfl,.nil,rfl⟩
 | t::ts,u::us,r,vs,h=>by
   unfold UX at h;split at h
   .rename_i v d i h1 f;cases h;obtain⟨a,rfl,e,g⟩:=IZ (R:=R) f;unfold IX at h1;split at h1
    .rename_i b;exact⟨u::a,rfl,.cons (.sc h1) e,by simp[b,g]⟩
    .cases h1
   .cases h
 | _::_,[],_,_,h=>by cases h
def UV{R:Nat->Option Obj}{s:Sh}{us r:List U}{v:Value}(h:IW s us=some (v,r)):∃ a,us=a++r/\ShR R s a v:=by
 cases s with
 | s t =>
   cases us with
   | nil=>cases h
   | cons u us =>
     simp only[IW]at h;split at h
     .rename_i v1 hv;cases h;unfold IX at hv;split at hv
      .rename_i b;exact⟨[u],rfl,.s (.sc hv) b⟩
      .cases hv
     .cases h
 | a ts =>
   simp only[IW]at h;split at h
   .rename_i vs g hv;cases h;obtain⟨a,e,f,d⟩:=IZ (R:=R) hv;exact⟨a,e,.a f d⟩
   .cases h
def yJ{R:Nat->Option Obj}:∀ {b:List Sh} {us:List U} {vs:D3},UW b us=some vs->ShL R b us vs
 | [],[],vs,h=>by cases h;exact .nil
 | [],_::_,_,h=>by cases h
 | s::b,us,vs,h=>by
   unfold UW at h;split at h
   .rename_i v r hv;split at h
    .rename_i d e;cases h;obtain⟨a,rfl,f⟩:=UV (R:=R) hv;exact .cons f (yJ e)
    .cases h
   .cases h
def A2N{R:Nat->Option Obj}{us:List U}{vs:D3}(h:Z5 R us vs)(a:vs2.length=us.length)(k:∀ (i:Nat) (u:U) (v:Value),us[i]? = some u->vs2[i]? = some v->toV u=some v):vs=vs2:=by
 refine bN fun i=>?_
 rcases G1 i us.length with hi|hi
 .have h1:us[i]? = some us[i]:=A5 hi;have b:vs[i]? = some (vs[i]'(h.1▸hi)):=A5 _;have h3:vs2[i]? = some (vs2[i]'(a▸hi)):=A5 _;rw[b,h3,gF (h.2 i _ _ h1 b) (k i _ _ h1 h3)]
 .rw[U2 (by rw[<- h.1];exact hi),U2 (by rw[a];exact hi)]
def IY:∀ {ts:H5} {us r:List U} {vs:D3},UX ts us=some (vs,r)->∃ a,us=a++r/\vs.length=a.length/\a.length=ts.length/\∀ (i:Nat) (u:U) (v:Value),a[i]? = some u->vs[i]? = some v->toV u=some v
 | [],us,r,vs,h=>by cases h;exact⟨[],rfl,rfl,rfl,fun i u v h=>by simp at h⟩
 | t::ts,u::us,r,vs,h=>by
   unfold UX at h;split at h
   .rename_i v e k h1 f;cases h;obtain⟨a,rfl,d,g,j⟩:=IY f;unfold IX at h1;split at h1
    .refine⟨u::a,rfl,by simp[d],by simp[g],fun i x y b a2=>?_⟩;cases i with
     | zero=>simp at b a2;subst b;subst a2;exact h1
     | succ i=>exact j i x y (by simpa using b) (by simpa using a2)
    .cases h1
   .cases h
 | _::_,[],_,_,h=>by cases h
def V4{R:Nat->Option Obj}:∀ {i:List Sh} {us:List U} {vs vs2:D3},ShL R i us vs->UW i us=some vs2->vs=vs2
 | [],us,vs,vs2,h,k=>by cases h;cases k;rfl
 | s::i,us,vs,vs2,h,k=>by
   cases h with
   | cons h1 n =>
     rename_i d f v vs;unfold UW at k;split at k
     .rename_i v1 r hv;split at k
      .rename_i q j;cases k;have l:d++f=d++f:=rfl;cases h1 with
       | s he g =>
         rename_i t u;have b:(match IX t u with|some v=>some (v,f)|none=>none)=some (v1,r):=hv;cases e:IX t u with
         | none=>rw[e]at b;cases b
         | some w =>
           rw[e]at b;cases b;unfold IX at e;rw[A9 g]at e;rw[gF he e,V4 n j]
       | a he g =>
         rename_i ts cs;simp only[IW]at hv;split at hv
         .rename_i A C p;cases hv;obtain⟨a,o,x,y,z⟩:=IY p;have hlen:a.length=d.length:=by rw[y,<- g];simp
          obtain⟨rfl,rfl⟩:=List.append_inj o hlen.symm;rw[A2N he x z,V4 n j]
         .cases hv
      .cases k
     .cases k
def L2(P:Program)(G:Nat->Option Obj)(f:FuncId)(ps:List Sh)(spec:dK)(rs:List Sh):Prop :=
 ∀ (us outs:List U) (w:World) (vs:List Value) (R:Nat->Option Obj),ShL R ps us vs->spec us=some (0,outs)->GOk G w->GOk R w ->
  (callFunc f ⟨vs⟩).run P w=.ok (.enter f ⟨vs⟩) w/\Calls P f ⟨vs⟩ w (fun e w'=>∃ r a,ShL a rs outs r/\e=.returned (tup r)/\mT w w'/\GOk a w'/\∀ k o,a k=some o->w.heap.size<=k∨∃ o',R k=some o')
def unA:List Sh->D3->Option D3
 | [],[]=>some []
 | .s _::ss,v::vs=>match unA ss vs with
   | some r=>some (v::r)
   | none=>none
 | .a ts::ss,.agg cs::vs=>bif Nat.beq cs.toList.length ts.length then match unA ss vs with
   | some r=>some (cs.toList++r)
   | none=>none else none
 | _,_=>none
def qL(P:Program)(ps:List Sh)(vs:List Value)(m:Mem):Option (D3×Mem) :=
 match unA ps vs with
 | some cs=>match BQ (tdP P) (CS ps) cs m with
   | some (xs,[],m)=>some (xs,m)
   | some (xs,gs,m)=>match kH gs m with
     | some (_,m)=>some (xs,m)
     | none=>none
   | none=>none
 | none=>none
def TO(i t b:Nat):Value:=bif Nat.blt t 10 then hole i t else dat b i t
def XL:H5->Nat->Nat->D3
 | [],_,_=>[]
 | t::ts,i,b=>TO i t b::XL ts (i+1) b
def A78:Sh->Nat->Nat->Value
 | .s t,i,b=>TO i t b
 | .a ts,i,b=>.agg ⟨XL ts i b⟩
def xX:List Sh->Nat->Nat->D3
 | [],_,_=>[]
 | h::hs,i,b=>A78 h i b::xX hs (i+h.n) b
def VP(rs:List Sh)(nx:Nat)(m:Mem):Res :=
 bif mM rs then match gT m fun b m=>some (tup (xX rs nx b),b,m)with
  | some (v,_,m)=>some (v,m)
  | none=>none
 else some (tup (xX rs nx 0),m)
def B1i(m:Mem)(hi:Nat)(v:Value)(lg:Lg):Res :=
 match m with
 | ⟨H,n,W,_,_⟩=>some (v,⟨H,n,W,hi,lg⟩)
def A4w(P:Program)(ps:List Sh)(spec:dK)(rs:List Sh):FnC:=⟨fun vs m =>
 match qL P ps vs m with
 | some (xs,⟨H,n,W,hi,⟨nx,pi,log⟩⟩)=>K1 nx fun nx=>S0 xs fun xs=>K1 (nx+shN rs) fun a=>bif mM rs then VP rs nx ⟨H,n,W,hi,⟨a,pi,.con spec xs nx 0 (shN rs)::log⟩⟩else B1i m hi (tup (xX rs nx 0)) ⟨a,pi,.con spec xs nx 0 (shN rs)::log⟩
 | none=>none⟩
def UM{P:Program}{ps:List Sh}{spec:dK}{rs:List Sh}{vs:D3}{v:Value}(h:(A4w P ps spec rs).run vs m=some (v,m')) :
  ∃ xs m1,qL P ps vs m=some (xs,m1)/\((mM rs=true/\VP rs m1.lg.nx (m1.wLg ⟨m1.lg.nx+shN rs,m1.lg.pi,.con spec xs m1.lg.nx 0 (shN rs)::m1.lg.log⟩)=some (v,m'))∨(mM rs=false/\v=tup (xX rs m1.lg.nx 0)/\m'=⟨m.H,m.n,m.W,m1.hi,⟨m1.lg.nx+shN rs,m1.lg.pi,.con spec xs m1.lg.nx 0 (shN rs)::m1.lg.log⟩⟩)):=by
 unfold A4w at h;simp only at h;split at h
 .rename_i xs H n W hi nx pi log hx;simp only[F0,I1]at h;refine⟨xs,_,hx,?_⟩;cases a:mM rs with
  | true=>rw[a]at h;exact .inl ⟨rfl,h⟩
  | false =>
    rw[a]at h;obtain⟨g,f,e,b,d⟩:=m;cases h;exact .inr ⟨rfl,rfl,rfl⟩
 .cases h
variable [Ora]
def NW{ρ:Ren}:∀ {b:List Sh} {vs vs' cs:D3},unA b vs=some cs->LR ρ vs vs'->∃ cs',unA b vs'=some cs'/\LR ρ cs cs'
 | [],[],vs',cs,h,hl=>by cases h;rw[hl.nil_inv];exact⟨[],rfl,.nil⟩
 | [],_::_,_,_,h,_=>by cases h
 | .s t::b,[],_,_,h,_=>by cases h
 | .a t::b,[],_,_,h,_=>by cases h
 | .s t::b,v::vs,vs',cs,h,hl=>by
   obtain⟨v',k,rfl,h1,f⟩:=hl.tail;unfold unA at h;split at h
   .rename_i r hr;cases h;obtain⟨cs',d,g⟩:=NW hr f;exact⟨v'::cs',by simp[unA,d],.cons h1 g⟩
   .cases h
 | .a ts::b,v::vs,vs',cs,h,hl=>by
   obtain⟨v',k,rfl,h1,f⟩:=hl.tail;cases v with
   | agg c =>
     unfold unA at h;obtain⟨hlen,h⟩:=A3 h;split at h
     .rename_i r hr;cases h;obtain⟨cs',d,g⟩:=NW hr f;obtain⟨j,rfl,i⟩:=W1 h1;refine⟨j++cs',?_,i.append g⟩;have e:Nat.beq j.length ts.length=true:=by rw[<- i.1];exact hlen
      simp[unA,d,e]
     .cases h
   | _=>cases h
def dW{R:Nat->Option Obj}:∀ {e:List Sh} {vs cs:D3} {us:List U},unA e vs=some cs->Z5 R us cs->us.map G4=CS e->ShL R e us vs
 | [],[],cs,us,h,he,ht=>by
   cases h;have:us=[]:=G2.1 he.1;subst this;exact .nil
 | [],_::_,_,_,h,_,_=>by cases h
 | .s t::e,[],_,_,h,_,_=>by cases h
 | .a t::e,[],_,_,h,_,_=>by cases h
 | .s t::e,v::vs,cs,us,h,he,ht=>by
   unfold unA at h;split at h
   .rename_i r hr;cases h;obtain⟨a,b,rfl,d,f⟩:=Z5.split (vs:=[v]) (vs2:=r) he
    match a,d with
    | [u],d =>
      simp only[List.singleton_append,C3,CS,Sh.tags,T4,H1,J8]at ht;exact .cons (.s (d.2 0 u v rfl rfl) ht.1) (dW hr f ht.2)
    | [],d=>have:=d.1;simp at this
    | _::_::_,d=>have:=d.1;simp at this
   .cases h
 | .a ts::e,v::vs,cs,us,h,he,ht=>by
   cases v with
   | agg c =>
     unfold unA at h;obtain⟨hlen,h⟩:=A3 h;have hlen:=A0 hlen;split at h
     .rename_i r hr;cases h;obtain⟨a,b,rfl,d,f⟩:=Z5.split he;simp only[M8,CS,Sh.tags]at ht;obtain⟨t1,t2⟩:=List.append_inj ht (by simp[d.1,hlen]);obtain⟨l⟩:=c;exact .cons (.a d t1) (dW hr f t2)
     .cases h
   | _=>cases h
section
variable {P:Program} {base gl:Nat}
def B2p(ρ:Ren)(m:Mem)(R:Nat->Option Obj):Prop:=∀ k o,R k=some o->∃ id ab l,id<=H8/\Hp.get m.H id=some ab/\ρ id=some l/\Tf ab l k/\ab.rw=false
def JD{ρ:Ren}{w:World}{ps:List Sh}{vs xs:D3}(h:HR P base ρ m.H w)(d:qL P ps vs m=some (xs,m'))(j:K7 ρ m.n m'.hi)(hv:LR ρ vs vs')(C:Sat m'.lg) :
  ∃ a R,St P base ρ a m m' w w/\m.lg.le m'.lg/\ShL R ps (xs.map (E0 Ora.env)) vs'/\GOk R w/\B2p a m' R:=by
 unfold qL at d;split at d
 .rename_i cs q;obtain⟨cs',z,E⟩:=NW q hv;split at d
  .rename_i u m1 v;cases d;obtain⟨a,e,a2,a3,a4,a5,y⟩:=iT V5 h v j E C;exact⟨a,fun _=>none,e,a2,dW z (y _ fun b t=>by cases t) a5,(fun k o f=>by cases f),(fun k o f=>by cases f)⟩
  .rename_i u gs m1 v;split at d
   .rename_i g m2 D;cases d;have x:=N9 D;obtain⟨K,e,a2,a3,a4,a5,y⟩:=iT V5 h v (j.less x.1) E (by rw[<- x.2.1];exact C);obtain⟨ρ2,lg,s,L,N,p,A,J⟩:=fA e.hr D (j.step e);have i:=(s.hr.atl p A).1.2;exact⟨ρ2,lg.G,St.trans j e s,by rw[x.2.1];exact a2,dW z (y _ fun b t l I=>J b t l I) a5,i,fun k o f=>⟨g,_,lg,s.hr.dom _ _ p,A,p,⟨rfl,.inr ⟨rfl,o,f⟩⟩,rfl⟩⟩
   .cases d
  .cases d
 .cases d
def LY{ρ:Ren}{R:Nat->Option Obj}{i t b:Nat}{u:U}{v:Value}(h:Enc R u v)(g:G4 u=t)(he:Ora.env i=u)(k:10<=t->ρ b=some (kW R)):VR ρ (TO i t b) v:=by
 unfold TO;cases d:Nat.blt t 10 with
 | true =>
   have a:t<10:=A1 d;obtain⟨v1,j,_,_⟩:=RB (u:=u) A2
   have:=gF h j;subst this;exact .hole (by rw[he];exact j) (by rw[he];exact g)
 | false =>
   have a:10<=t:=by
    rcases G1 t 10 with e|f
    .rw[show Nat.blt t 10=true from C7 e]at d;cases d
    .exact f
   exact .dat (k a) (by rw[he];exact h) (by rw[he];exact g) a (mL h)
def IV{ρ:Ren}{R:Nat->Option Obj}{b:Nat}:∀ {ts:H5} {us:List U} {cs:D3} {i:Nat},Z5 R us cs->us.map G4=ts->(∀ j u,us[j]? = some u->Ora.env (i+j)=u)->(∀ t ∈ ts,10<=t->ρ b=some (kW R))->LR ρ (XL ts i b) cs
 | [],us,cs,i,h,ht,he,hb=>by
   have:us=[]:=by cases us with|nil=>rfl|cons _ _=>simp at ht
   subst this;have:cs=[]:=G2.1 h.1.symm;subst this;exact .nil
 | t::ts,[],cs,i,h,ht,he,hb=>by simp at ht
 | t::ts,u::us,[],i,h,ht,he,hb=>by have:=h.1;simp at this
 | t::ts,u::us,c::cs,i,h,ht,he,hb=>by
   simp only[C3,J8]at ht;refine .cons (LY (h.2 0 u c rfl rfl) ht.1 (he 0 u rfl) (hb t (.head _))) (IV ⟨by have:=h.1;simpa using this,fun j x y d a2=>h.2 (j+1) x y (by simpa using d) (by simpa using a2)⟩ ht.2 (fun j x f=>?_) fun e a=>hb e (.tail _ a))
   have:=he (j+1) x (by simpa using f);rw[show i+1+j=i+(j+1) by omega];exact this
def qF{ρ:Ren}{R:Nat->Option Obj}{b:Nat}:∀ {g:List Sh} {us:List U} {vs:D3} {i:Nat},ShL R g us vs->(∀ j u,us[j]? = some u->Ora.env (i+j)=u)->(mM g=true->ρ b=some (kW R))->LR ρ (xX g i b) vs/\us.length=shN g
 | [],us,vs,i,h,he,hb=>by cases h;exact⟨.nil,rfl⟩
 | s::g,us,vs,i,h,he,hb=>by
   cases h with
   | cons h1 y =>
     rename_i e w v vs;have p:∀ t ∈ s.tags,10<=t->ρ b=some (kW R):=fun t d f=>hb (Q6.2 ⟨t,B8.2 (.inl d),C7 f⟩)
     have o:mM g=true->ρ b=some (kW R):=fun x=>by
      obtain⟨t,d,f⟩:=Q6.1 x;exact hb (Q6.2 ⟨t,B8.2 (.inr d),f⟩)
     have q:e.length=s.n:=by
      cases h1 with
      | s _ _=>rfl
      | a _ d=>show _=List.length _;rw[<- d];simp[Sh.tags]
     obtain⟨g1,g2⟩:=qF (i:=i+s.n) y (fun j u l=>by
      have:=he (e.length+j) u (by rw[E4 A2,X3];exact l);rw[<- q,cO];exact this) o
     refine⟨.cons ?_ g1,by simp[shN,q,g2]⟩;have k:∀ j u,e[j]? = some u->Ora.env (i+j)=u:=fun j u l=>he j u (by rw[F4 (B1.1 l).1];exact l)
     cases h1 with
     | s h d=>exact LY h d (by have:=k 0 _ rfl;simpa using this) (p _ (.head _))
     | a h d =>
       have:=IV (b:=b) h d k p;exact .agg this.1 this.2
def XO{ρ:Ren}{vs:D3}(h:LR ρ vs vs'):VR ρ (tup vs) (tup vs'):=by
 match vs,vs',h with
 | [],vs',h=>rw[h.nil_inv];exact .tuple (a:=[]) (a':=[]) rfl (fun i v v' h1 _=>by simp at h1)
 | [v],vs',h =>
   obtain⟨v',d,rfl,h1,b⟩:=h.tail;cases b.nil_inv;exact h1
 | v::u::r,vs',h =>
   obtain⟨v',d,rfl,h1,b⟩:=h.tail;obtain⟨f,g,rfl,h3,e⟩:=b.tail;exact .tuple h.1 h.2
def St.grown{ρ:Ren}{w w':World}(h:HR P base ρ m.H w)(g:mT w w'):St P base ρ ρ m m w w' :=
 ⟨fun _ _ h=>h,fun b l h1 a=>(by rw[h1]at a;cases a),A6 _,A6 _,fun h=>h,
  ⟨h.dom,fun id hid ab d=>by
    obtain⟨l,h1,a,h3⟩:=h.at_ id hid ab d;exact⟨l,h1,a.mono (fun _ _ h=>h) (fun k e=>g.keep k (a.tc e)),h3⟩⟩,
  fun _ h=>h,fun b h1 a=>absurd h1 a,fun k e _=>g.keep k e,g.size,g.os,fun b l h1 a=>(by rw[h1]at a;cases a),fun _ _ _ _=>rfl,fun _ h=>.inr h⟩
def St.grownLg{ρ:Ren}{w w':World}(h:HR P base ρ m.H w)(g:mT w w')(lg:Lg):St P base ρ ρ m (m.wLg lg) w w':=by
 obtain⟨H,n,W,hi,l⟩:=m;have r:=St.grown (m:=⟨H,n,W,hi,l⟩) h g;exact⟨r.ext,r.new,r.nle,r.hle,r.nhi,r.hr,r.wsub,r.wrw,r.keep,r.size,r.os,r.blk,r.same,r.tch⟩
def St.ret{ρ:Ren}{w w':World}{G:Nat->Option Obj}(h:HR P base ρ m.H w)(g:mT w w')(W:Z9 m .frz (fun _=>undef)=some (undef,m1))(U:K7 ρ m.n m1.hi)(S:GOk G w')
  (N:∀ k o,G k=some o->w.heap.size<=k∨∃ id ab l,id<=H8/\Hp.get m.H id=some ab/\ρ id=some l/\Tf ab l k/\ab.rw=false):upd ρ m.n (kW G) m.n=some (kW G)/\St P base ρ (upd ρ m.n (kW G)) m m1 w w':=by
 obtain⟨hle,_,rfl⟩:=M2 W;have u:ρ m.n=none:=U m.n (A6 _) (L5 _ _).2;have i:=X8 (l:=kW G) u;refine⟨M4 _ _ _,i,fun b q h1 f=>?_,by simp,(L5 _ _).1,fun _=>Z3 (L5 _ _).2,⟨fun b q C=>?_,fun id hid a d=>?_⟩,fun b Q=>Q,fun b h1 f=>absurd h1 f,fun q C _=>g.keep q C,g.size,g.os,fun b q h1 f p=>?_,fun id hid h1 f=>?_,fun q ⟨id,a,l,hid,d,s,L⟩=>?_⟩
 .obtain⟨rfl,rfl⟩:=U9 h1 f;exact⟨A6 _,J5 _⟩
 .cases h0:ρ b with
  | some O=>exact h.dom b O h0
  | none=>obtain⟨rfl,rfl⟩:=U9 C h0;exact hle
 .rw[F1 _ _ _ _ hle hid]at d;by_cases e:id=m.n
  .rw[A9 e]at d;have d:=A8 d;subst d;subst e;exact⟨kW G,M4 _ _ _,⟨rfl,S⟩,fun _ p=>(by cases p)⟩
  .rw[A7 e]at d;obtain⟨l0,h1,f,h3⟩:=h.at_ id hid a d;refine⟨l0,i _ _ h1,f.mono i (fun k T=>g.keep k (f.tc T)),fun hr p=>⟨(h3 hr p).1,fun y j K l2 g1 g2 g3=>?_⟩⟩;rw[F1 _ _ _ _ hle j]at g1;by_cases I:y=m.n
   .subst I;rw[M4]at g2
    have:=A8 g2;subst this;rcases g3 with⟨_,g3,_⟩|⟨_,o,g3⟩
    .cases g3
    .rcases N _ o g3 with x|⟨t,a3,E,D,v,A,J,z⟩
     .have:=f.tc (.inl ⟨AB.rw_on hr,p,rfl⟩);omega
     .have:=(h3 hr p).2 t D a3 E v A J.2;subst this;rw[d]at v;have v:=A8 v;subst v;rw[hr]at z;cases z
   .rw[A7 I]at g1;unfold upd at g2;rw[A7 I]at g2;exact(h3 hr p).2 y j K l2 g1 g2 g3
 .obtain⟨rfl,rfl⟩:=U9 h1 f;cases p
 .rw[F1 _ _ _ _ hle hid,A7];intro e;subst e;rcases f with f|f
  .omega
  .have f:upN m.hi m.n<=m.n:=f
   have:=(L5 m.hi m.n).2;omega
 .have d:Hp.get (m.H.set m.n (some .frz)) id=some a:=d;rw[F1 _ _ _ _ hle hid]at d;by_cases e:id=m.n
  .subst e;rw[A9 rfl]at d;have d:=A8 d;subst d;rw[M4]at s;have s:=A8 s;subst s;rcases L.2 with⟨_,h3,_⟩|⟨_,o,h3⟩
   .cases h3
   .rcases N _ o h3 with x|⟨t,a3,E,D,v,A,J,z⟩
    .exact .inl x
    .exact .inr ⟨t,a3,E,D,v,A,J⟩
  .rw[A7 e]at d;unfold upd at s;rw[A7 e]at s;exact .inr ⟨id,a,l,hid,d,s,L⟩
def St.back{ρ:Ren}{w w':World}{hi:Nat}{lg:Lg}(h:HR P base ρ m.H w)(g:mT w w')(hh:m.hi<=hi):St P base ρ ρ m ⟨m.H,m.n,m.W,hi,lg⟩ w w':=by
 have r:=St.grownLg (m:=m) h g lg;refine⟨r.ext,fun b l h1 a=>(by rw[h1]at a;cases a),A6 _,hh,fun h=>C6 h hh,?_,fun _ h=>h,fun b h1 a=>absurd h1 a,fun k d _=>g.keep k d,g.size,g.os,fun b l h1 a=>(by rw[h1]at a;cases a),fun _ _ _ _=>rfl,fun _ h=>.inr h⟩
 have:=r.hr;rw[lC]at this;exact this
theorem A4v{f:FuncId}{ps:List Sh}{spec:dK}{rs:List Sh}(h:L2 P Ora.G f ps spec rs):mU P base gl f (A4w P ps spec rs):=by
 have p:∀ {nx:Nat} {m m':Mem} {v:Value},mM rs=true->VP rs nx m=some (v,m')->m'.lg=m.lg/\m.hi<=m'.hi/\m.n<=m'.n:=fun{nx m m' v} a hr=>by
  unfold VP at hr;rw[a]at hr;simp only[E6]at hr;split at hr
  .rename_i I;cases hr;obtain⟨m2,z,D,_⟩:=R5 I;cases D;obtain⟨_,_,rfl⟩:=M2 z;exact⟨rfl,(L5 _ _).1,X7 _⟩
  .cases hr
 have g:∀ {vs xs:D3} {m m1:Mem},qL P ps vs m=some (xs,m1)->m.lg.le m1.lg/\m.hi<=m1.hi:=fun{vs xs m m1} h1=>by
  unfold qL at h1;split at h1
  .split at h1
   .rename_i a;cases h1;exact⟨(S8 V5 a).2.1,(S8 V5 a).1⟩
   .rename_i a;split at h1
    .rename_i N;cases h1;exact⟨by rw[(N9 N).2.1];exact(S8 V5 a).2.1,C6 (S8 V5 a).1 (N9 N).1⟩
    .cases h1
   .cases h1
  .cases h1
 refine⟨fun vs m m' v hr=>?_,fun ρ m m' w vs vs' v hr K d W=>.inl ?_⟩
 .obtain⟨xs,m1,h1,⟨a,i⟩|⟨a,_,rfl⟩⟩:=UM hr
  .rw[(p a i).1,i7];exact(g h1).1.trans ⟨[_],rfl⟩
  .exact(g h1).1.trans ⟨[_],rfl⟩
 .obtain⟨xs,m1,h1,i⟩:=UM hr;have H:m'.lg=⟨m1.lg.nx+shN rs,m1.lg.pi,.con spec xs m1.lg.nx 0 (shN rs)::m1.lg.log⟩/\m1.hi<=m'.hi:=by
   rcases i with⟨a,i⟩|⟨a,_,rfl⟩
   .obtain⟨r1,t,_⟩:=p a i;simp only[i7,NT]at r1 t;exact⟨r1,t⟩
   .exact⟨rfl,A6 _⟩
  obtain⟨r1,t⟩:=H;have s:n7.con spec xs m1.lg.nx 0 (shN rs) ∈ m'.lg.log:=by rw[r1];exact B5
  have y:Sat m1.lg:=S4.le K (by rw[r1];exact⟨[_],rfl⟩);obtain⟨u,R,J,a2,a3,a4,a5⟩:=JD d.hr h1 (d.fr.less t) W y;obtain⟨outs,h3,h4,L⟩:=K _ s;obtain⟨Z,Y⟩:=h _ outs w vs' R a3 h3 (fun k o C=>(d.gf k o C).2) a4;refine⟨Z,Y.mono fun e w' ⟨r,Q,g1,g2,g3,g4,g5⟩=>?_⟩;rcases i with⟨a,i⟩|⟨a,rfl,rfl⟩
  .let j:Lg:=⟨m1.lg.nx+shN rs,m1.lg.pi,.con spec xs m1.lg.nx 0 (shN rs)::m1.lg.log⟩
   have i:VP rs m1.lg.nx (m1.wLg j)=some (v,m'):=i;have q:St P base ρ u m (m1.wLg j) w w:=St.trans (d.fr.less (by simpa using t)) J (St.wLg J.hr j);have A:K7 u (m1.wLg j).n m'.hi:=by simpa using d.fr.step J
   unfold VP at i;rw[a]at i;simp only[E6]at i;split at i
   .rename_i v0 b m2 I;cases i;obtain⟨m3,z,D,_⟩:=R5 I;cases D;obtain⟨e1,e2⟩:=St.ret (G:=Q) q.hr g3 z A g4 fun k o C=>by
     rcases g5 k o C with x|⟨o',E⟩
     .exact .inl x
     .obtain⟨id,ab,l,p1,T,S,U,p5⟩:=a5 k o' E;exact .inr ⟨id,ab,l,p1,by rw[lC];exact T,S,U,p5⟩
    exact⟨_,_,g2,XO (qF g1 L fun _=>e1).1,St.trans d.fr q e2⟩
   .cases i
  .exact⟨_,ρ,g2,XO (qF g1 L fun O=>by rw[a]at O;cases O).1,St.back d.hr g3 (g h1).2⟩
end
end
end Go.Sx
