import Derived.Test.YtjdnjfnhdeplfaaX6
import Derived.Lib.Bytealg
import Derived.Lib.MakeNoZero
set_option linter.all false
set_option maxRecDepth 100000
set_option maxHeartbeats 4000000
namespace Go.Sx
open Go
variable {m m' m1 m2:Mem}{c:Cls}{r:Option (Nat×AB)}{rs:List Rec}{op:OpC}{fn:Func}{vs' vs2:D0}
section
open Go
variable [Ora]
def WZ(ops:Array Oper)(X:Nat->Qs)(i:Nat)(o:Oper):Bool:=CN o.op i ((X6 ops.toList []).getD i []) ((X6 ops.toList []).drop (i+1)) (ops.toList.drop (i+1)) (X i)
structure Rg (P:Program) (base gl nt:Nat) (call:M2) (ops:Array Oper) (F:Nat->Fr) (M:Nat->Mem) (V:Nat->Value) (R:Nat->List Rec) (X:Nat->Qs) (B:Nat->Bool):Prop where
 st:∀ i o,ops[i]? = some o->BO P nt gl call ops.toList ((X6 ops.toList []).getD i []) (R i) (B i) o (F i) (F (i+1)) (M i) (M (i+1)) (V i)
 rc:∀ i o,ops[i]? = some o->(R (i+1)=R i/\∃ lg,M (i+1)=(M i).wLg lg)∨(B i=true/\R (i+1)=[])∨R (i+1)=⟨i,(M i).n,(M (i+1)).n⟩::R i
 qs:∀ i o,ops[i]? = some o->QsN (B i) i nt ops.toList (U9 P call o) ((X6 ops.toList []).getD i []) (R i) (F i) o (M i) (M (i+1)) (V i) (X i) (X (i+1))
 sb:∀ i o,ops[i]? = some o->B i=true->WZ ops X i o=true
 x0:X 0=[]
 ok:DO ops.toList (X6 ops.toList []) ops.toList 0=true
structure Ph (ops:Array Oper) (B:Nat->Bool) (M:Nat->Mem) (lo up:Nat):Prop where
 le:lo<=up
 sz:up<=ops.size
 nh:(M lo).n<=(M lo).hi
 mx:∀ i o,lo<=i->i<up->ops[i]? = some o->B i=false
section
variable {P:Program} {base gl nt:Nat} {call:M2} {ops:Array Oper} {F:Nat->Fr} {M:Nat->Mem} {V:Nat->Value} {R:Nat->List Rec} {X:Nat->Qs} {B:Nat->Bool} {lo up:Nat}
def O0{i:Nat}(h:i<ops.size):∃ o,ops[i]? = some o:=⟨ops[i],by simp[h]⟩
def Rg.one(g:Rg P base gl nt call ops F M V R X B){i:Nat}{o:Oper}(k:ops[i]? = some o)(a:B i=false)(b:(M i).n<=(M i).hi):(M i).n<=(M (i+1)).n/\(M i).hi<=(M (i+1)).hi/\(M (i+1)).n<=(M (i+1)).hi/\(M (i+1)).W=(M i).W /\
  ∀ id,id<=G9->(id<(M i).n∨(M (i+1)).n<=id)->Hp.get (M (i+1)).H id=Hp.get (M i).H id:=by
 obtain⟨_,_,_,h⟩:=g.st i o k;rcases h with⟨_,lg,_,_,h⟩|⟨_,lg,l,_,_,h⟩|⟨h,_⟩|⟨_,_,lg,_,mv,m',_,_,_,d,hm⟩
 .rw[h];exact⟨A7 _,A7 _,b,rfl,fun _ _ _=>rfl⟩
 .rw[h];exact⟨A7 _,A7 _,b,rfl,fun _ _ _=>rfl⟩
 .rw[a]at h;cases h
 .obtain⟨h1,f,h3,j,_,_,_,e⟩:=DV hm b d;exact⟨h1,f,h3,j,fun id hid hh=>by rw[e id hid,B0 (by show ¬ ((M i).n<=id/\_);omega)];rfl⟩
def Rg.allD(g:Rg P base gl nt call ops F M V R X B)(a:Ph ops B M lo up):∀ d,lo+d<=up->(M lo).n<=(M (lo+d)).n/\(M lo).hi<=(M (lo+d)).hi/\(M (lo+d)).n<=(M (lo+d)).hi/\(M (lo+d)).W=(M lo).W /\
  ∀ id,id<=G9->(id<(M lo).n∨(M (lo+d)).n<=id)->Hp.get (M (lo+d)).H id=Hp.get (M lo).H id
 | 0,_=>⟨A7 _,A7 _,a.nh,rfl,fun _ _ _=>rfl⟩
 | d+1,h=>by
   obtain⟨h1,f,h3,k,e⟩:=g.allD a d A6;obtain⟨o,b⟩:=O0 (ops:=ops) (i:=lo+d) (by have:=a.sz;omega);obtain⟨j,p,q,s,l⟩:=g.one b (a.mx _ o A6 A6 b) h3;exact⟨B8 h1 j,B8 f p,q,s.trans k,fun id hid hh=>by
    rw[show lo+(d+1)=lo+d+1 by omega]at hh ⊢;rw[l id hid A6,e id hid A6]⟩
def Rg.all(g:Rg P base gl nt call ops F M V R X B)(a:Ph ops B M lo up){i:Nat}(h0:lo<=i)(h:i<=up):(M lo).n<=(M i).n/\(M lo).hi<=(M i).hi/\(M i).n<=(M i).hi/\(M i).W=(M lo).W /\
  ∀ id,id<=G9->(id<(M lo).n∨(M i).n<=id)->Hp.get (M i).H id=Hp.get (M lo).H id:=by
 have:=g.allD a (i-lo) A6
 rwa[show lo+(i-lo)=i by omega]at this
def Rg.mono(g:Rg P base gl nt call ops F M V R X B)(a:Ph ops B M lo up){i:Nat}(h0:lo<=i):∀ d,i+d<=up->(M i).n<=(M (i+d)).n/\(M i).hi<=(M (i+d)).hi/\∀ id,id<=G9->id<(M i).n->Hp.get (M (i+d)).H id=Hp.get (M i).H id
 | 0,_=>⟨A7 _,A7 _,fun _ _ _=>rfl⟩
 | d+1,h=>by
   obtain⟨h1,f,e⟩:=g.mono a h0 d A6;obtain⟨o,b⟩:=O0 (ops:=ops) (i:=i+d) (by have:=a.sz;omega);obtain⟨j,l,p,q,k⟩:=g.one b (a.mx _ o A6 A6 b) (g.all a (i:=i+d) A6 A6).2.2.1;exact⟨B8 h1 j,B8 f l,fun id hid hh=>by rw[show i+(d+1)=i+d+1 by omega,k id hid A6,e id hid hh]⟩
def Rg.le(g:Rg P base gl nt call ops F M V R X B)(a:Ph ops B M lo up){i j:Nat}(h0:lo<=i)(h:i<=j)(b:j<=up):(M i).n<=(M j).n/\(M i).hi<=(M j).hi/\∀ id,id<=G9->id<(M i).n->Hp.get (M j).H id=Hp.get (M i).H id:=by
 have:=g.mono a h0 (j-i) A6
 rwa[show i+(j-i)=j by omega]at this
def IX{mv:Mem}{us:List Rec}(h:wK m c us=some mv):mv.lg=m.lg:=by
 obtain⟨H,n,W,hi,lg⟩:=m;unfold wK at h;simp only at h;cases c with
 | free=>cases h;rfl
 | one b =>
   simp only at h;cases a:r7 (Y1 us) b || !(Nat.ble b G9)with
   | true=>rw[a]at h;cases h
   | false=>rw[a,cK]at h;cases h;rfl
 | all =>
   simp only at h;obtain⟨d,h⟩:=A2 h;cases h;rfl
def DW(h:iP m m'=some m2):m2.lg=m'.lg:=by
 unfold iP at h;cases a:Nat.ble m'.hi m.n with
 | true=>rw[a]at h;cases h;rfl
 | false =>
   rw[a]at h;obtain⟨_,h⟩:=A2 h;simp only[E6,bZ]at h;cases h;rfl
def jY{a b:Addr}(h:zP a b=true):a=b:=by
 unfold zP at h;split at h
 .obtain⟨h1,d⟩:=B6 h;rw[A0 h1,A0 d]
 .cases h
def ND{a b:Fn}(h:HE a b=true):a=b:=by
 unfold HE at h;split at h
 .rw[A0 h]
 .rw[A0 h]
 .cases h
def mV{s:Value->Value->Bool}(d:∀ a b,s a b=true->a=b):∀ {l r:D0},wV s l r=true->l=r
 | [],[],_=>rfl
 | [],_::_,h=>by cases h
 | _::_,[],h=>by cases h
 | a::l,b::r,h=>by
   obtain⟨h1,e⟩:=B6 (show(s a b && wV s l r)=true from h);rw[d a b h1,mV d e]
def A3p{a b:R3}(h:a.toList=b.toList):a=b:=by cases a;cases b;cases h;rfl
def QE:∀ (d:Nat) (v w:Value),tB d v w=true->v=w:=by
 intro d;induction d with
 | zero =>
   intro v w h;unfold tB at h;split at h
   .rw[eq_of_beq h]
   .obtain⟨h1,e⟩:=B6 h;rw[bR]at e;rw[eN h1,eq_of_beq e]
   .obtain⟨h1,e⟩:=B6 h;rw[A0 h1,A0 e]
   .obtain⟨h1,e⟩:=B6 h;rw[A0 h1,A0 e]
   .rename_i s t;have h1:=J4 h;cases s with|mk s=>cases t with|mk t=>cases s;cases t;cases h1;rfl
   .rfl
   .rw[jY h]
   .obtain⟨h1,e⟩:=B6 h;rw[A0 h1,A0 e]
   .obtain⟨h0,h⟩:=B6 h;obtain⟨h1,e⟩:=B6 h;rw[jY h0,A0 h1,A0 e]
   .rfl
   .rw[A0 h]
   .rfl
   .rfl
   all_goals first|cases h|(rename_i hh;cases hh)
 | succ d i =>
   intro v w h;unfold tB at h;split at h
   .rw[eq_of_beq h]
   .obtain⟨h1,e⟩:=B6 h;rw[bR]at e;rw[eN h1,eq_of_beq e]
   .obtain⟨h1,e⟩:=B6 h;rw[A0 h1,A0 e]
   .obtain⟨h1,e⟩:=B6 h;rw[A0 h1,A0 e]
   .rename_i s t;have h1:=J4 h;cases s with|mk s=>cases t with|mk t=>cases s;cases t;cases h1;rfl
   .rfl
   .rw[jY h]
   .obtain⟨h1,e⟩:=B6 h;rw[A0 h1,A0 e]
   .obtain⟨h0,h⟩:=B6 h;obtain⟨h1,e⟩:=B6 h;rw[jY h0,A0 h1,A0 e]
   .rfl
   .rw[A0 h]
   .rfl
   .rfl
   .rename_i d' f a b g a' b' he;cases he;obtain⟨h0,h⟩:=B6 h;obtain⟨h1,e⟩:=B6 h;rw[ND h0,A3p (mV i h1),A3p (mV i e)]
   .rename_i d' t v u w he;cases he;obtain⟨h1,e⟩:=B6 h;rw[A0 h1,i _ _ e]
   .cases h
def QI{a b:AB}(h:QJ a b=true):a=b:=by
 unfold QJ at h;split at h
 .rfl
 .obtain⟨h0,h⟩:=B6 h;obtain⟨h1,d⟩:=B6 h;rw[mV (QE 6) h0,A0 h1,eq_of_beq d]
 .cases h
def tY{H:Hp AB}{b:Nat}{ab:AB}(h:tZ H b ab=true):Hp.get H b=some ab/\b<=G9:=by
 unfold tZ at h;split at h
 .rename_i x d;obtain⟨h1,a⟩:=B6 h;exact⟨by rw[d,QI a],A1 h1⟩
 .cases h
def oU{mv:Mem}{us:List Rec}(h:zW m r us=some mv):mv.n=oJ/\mv.hi=oJ/\mv.W=[]/\mv.lg=m.lg/\(∀ id,id<=G9->∀ ab,Hp.get mv.H id=some ab->r=some (id,ab))/\∀ b ab,r=some (b,ab)->tZ m.H b ab=true/\b ∉ Y1 us:=by
 obtain⟨H,n,W,hi,lg⟩:=m;unfold zW at h;simp only at h;cases r with
 | none =>
   cases h;exact⟨rfl,rfl,rfl,rfl,fun id _ ab a=>(by rw[nS]at a;cases a),fun b ab i=>by cases i⟩
 | some p =>
   obtain⟨b,f⟩:=p;simp only at h;cases d:r7 (Y1 us) b || !(tZ H b f)with
   | true=>rw[d]at h;cases h
   | false =>
     rw[d,cK]at h;cases h;simp only[Y6,Bool.not_eq_false']at d;have i:=(tY d.2).2;refine⟨rfl,rfl,rfl,rfl,fun id hid ab a=>?_,fun b' ab' g=>?_⟩
     .have a:Hp.get (Hp.set hp0 b (some f)) id=some ab:=a;rw[E9 _ _ _ _ i hid]at a;by_cases e:id=b
      .subst e;rw[B2 rfl]at a;cases a;rfl
      .rw[B0 e,nS]at a;cases a
     .cases g;exact⟨d.2,fun hm=>by rw[U3.2 hm]at d;exact absurd d.1 (by simp)⟩
def iI{fr:Fr}{o:Oper}{b:G6}{v:Value}{lg:Lg}(h:iJ fr m o b rs op=some (v,lg)):∃ mv m',zW m (EV m.H fr o.op) (xJ b rs)=some mv/\op.run fr mv=some (v,m')/\m'.W=[]/\m'.hi=oJ/\m'.lg=lg:=by
 unfold iJ at h;split at h
 .rename_i mv e;split at h
  .rename_i v' H n hi d hr;obtain⟨h1,a⟩:=A2 h;cases a;exact⟨mv,_,e,hr,rfl,A0 h1,rfl⟩
  .cases h
 .cases h
def wQ{all:List Oper}{b:G6}{i:Bool}{o:Oper}{fr e:Fr}{v:Value}(d:R6 P base gl call)(h:BO P nt gl call all b rs i o fr e m m2 v):m.lg.le m2.lg:=by
 obtain⟨_,_,_,h⟩:=h;rcases h with⟨_,lg,hw,_,h⟩|⟨_,lg,k,hw,f,h⟩|⟨_,lg,hw,hr,_⟩|⟨_,_,lg,hw,mv,m',a,hr,_,j,hm⟩
 .rw[h];exact eH hw
 .obtain⟨mv,m',a,hr,_,_,g⟩:=iI f;have h1:=s5 d hr;rw[(oU a).2.2.2.1,g]at h1;rw[h];exact(eH hw).trans h1
 .have h1:=s5 d hr;rw[Z4]at h1;exact(eH hw).trans h1
 .rw[DW hm];have h1:=s5 d hr;rw[IX a]at h1;exact(eH hw).trans h1
def Rg.lgs(g:Rg P base gl nt call ops F M V R X B)(a:R6 P base gl call){i:Nat}:∀ d,i+d<=ops.size->(M i).lg.le (M (i+d)).lg
 | 0,_=>.refl _
 | d+1,h=>by
   obtain⟨o,b⟩:=O0 (ops:=ops) (i:=i+d) A6;exact(g.lgs a d A6).trans (wQ a (g.st (i+d) o b))
def Rg.who(g:Rg P base gl nt call ops F M V R X B)(f:Ph ops B M lo up):∀ d,lo+d<=up->∀ b,(M lo).n<=b->b<(M (lo+d)).n->∃ k,lo<=k/\k<lo+d/\(M k).n<=b/\b<(M (k+1)).n
 | 0,_,b,h1,a=>by have a:b<(M lo).n:=a;omega
 | d+1,h,b,h1,a=>by
   rcases F5 b (M (lo+d)).n with h3|h3
   .obtain⟨k,i,j,e⟩:=g.who f d A6 b h1 h3;exact⟨k,i,A6,e⟩
   .exact⟨lo+d,A6,A6,h3,a⟩
def tM:∀ {rs:List Rec} {b:Nat},b ∈ Y1 rs↔∃ r ∈ rs,r.lo<=b/\b<r.hi
 | [],b=>by simp[Y1]
 | r::rs,b=>by
   simp only[Y1,B4,iQ,tM (rs:=rs),A8];constructor
   .rintro(h|⟨a,h1,d⟩)
    .exact⟨r,.inl rfl,A6⟩
    .exact⟨a,.inr h1,d⟩
   .rintro⟨a,rfl|h1,d⟩
    .exact .inl A6
    .exact .inr ⟨a,h1,d⟩
def Rg.recs(g:Rg P base gl nt call ops F M V R X B)(l:Ph ops B M lo up):∀ d,lo+d<=up->∀ k,lo<=k->k<lo+d->∀ b,(M k).n<=b->b<(M (k+1)).n->⟨k,(M k).n,(M (k+1)).n⟩ ∈ R (lo+d)
 | 0,_,k,_,h,_,_,_=>by omega
 | d+1,hi,k,hk,h,b,h1,f=>by
   obtain⟨o,j⟩:=O0 (ops:=ops) (i:=lo+d) (by have:=l.sz;omega);have a:=l.mx _ o A6 A6 j;show _ ∈ R (lo+d+1);by_cases e:k=lo+d
   .subst e;rcases g.rc (lo+d) o j with⟨_,lg,h3⟩|⟨h3,_⟩|h3
    .rw[h3]at f;have f:b<(M (lo+d)).n:=f;omega
    .rw[a]at h3;cases h3
    .rw[h3];exact B5
   .have:=g.recs l d A6 k hk A6 b h1 f;rcases g.rc (lo+d) o j with⟨h3,_⟩|⟨h3,_⟩|h3
    .rw[h3];exact this
    .rw[a]at h3;cases h3
    .rw[h3];exact C5 _ this
def WR{mv:Mem}{us:List Rec}(h:wK m c us=some mv):mv.n=m.n/\mv.hi=m.hi/\mv.W=[]/\mv.lg=m.lg/\∀ id,id<=G9->∀ ab,Hp.get mv.H id=some ab->Hp.get m.H id=some ab/\id ∉ Y1 us:=by
 obtain⟨H,n,W,hi,lg⟩:=m;unfold wK at h;simp only at h;cases c with
 | free =>
   cases h;exact⟨rfl,rfl,rfl,rfl,fun id _ ab a=>by rw[nS]at a;cases a⟩
 | one b =>
   simp only at h;cases d:r7 (Y1 us) b || !(Nat.ble b G9)with
   | true=>rw[d]at h;cases h
   | false =>
     rw[d,cK]at h;cases h;simp only[Y6,Bool.not_eq_false']at d;have f:=A1 d.2;refine⟨rfl,rfl,rfl,rfl,fun id hid ab a=>?_⟩;have a:Hp.get (Hp.set hp0 b (Hp.get H b)) id=some ab:=a;rw[E9 _ _ _ _ f hid]at a;by_cases e:id=b
     .subst e;rw[B2 rfl]at a;exact⟨a,fun hm=>by rw[U3.2 hm]at d;exact absurd d.1 (by simp)⟩
     .rw[B0 e,nS]at a;cases a
 | all =>
   simp only at h;obtain⟨f,h⟩:=A2 h;cases h;refine⟨rfl,rfl,rfl,rfl,fun id hid ab a=>?_⟩;have a:Hp.get (xV H (Y1 us)) id=some ab:=a;rw[xU _ _ (pV f) id hid]at a;by_cases e:id ∈ Y1 us
   .rw[B2 e]at a;cases a
   .rw[B0 e]at a;exact⟨a,e⟩
def eB(M:Nat->Mem)(D:Nat->Bool)(b:Nat):Nat->Bool
 | 0=>false
 | n+1=>(D n && Nat.ble (M n).n b && Nat.blt b (M (n+1)).n) || eB M D b n
def R9{D:Nat->Bool}{b:Nat}:∀ n,eB M D b n=true↔∃ k,k<n/\D k=true/\(M k).n<=b/\b<(M (k+1)).n
 | 0=>by simp[eB]
 | n+1=>by
   simp only[eB,G0,H4,R9 n];constructor
   .rintro(⟨⟨h1,a⟩,h3⟩|⟨k,h1,a⟩)
    .exact⟨n,A6,h1,A1 a,A1 h3⟩
    .exact⟨k,A6,a⟩
   .rintro⟨k,h1,a,h3,d⟩
    by_cases e:k=n
    .subst e;exact .inl ⟨⟨a,C6 h3⟩,C6 d⟩
    .exact .inr ⟨k,A6,a,h3,d⟩
def Dr(lo:Nat)(D:Nat->Bool)(k:Nat):Bool:=Nat.ble lo k && D k
def W9{lo:Nat}{D:Nat->Bool}{k:Nat}:Dr lo D k=true↔lo<=k/\D k=true:=by
 unfold Dr;rw[H4];exact⟨fun h=>⟨A1 h.1,h.2⟩,fun h=>⟨C6 h.1,h.2⟩⟩
def GD(M:Nat->Mem)(lo N:Nat)(D:Nat->Bool)(b:Nat):Option AB:=bif eB M (Dr lo D) b N then Hp.get (M N).H b else Hp.get (M lo).H b
structure Inv (z:Zn) (P:Program) (base gl nt:Nat) (ops:Array Oper) (F:Nat->Fr) (M:Nat->Mem) (V:Nat->Value) (lo up:Nat) (ρ0:Ren) (w0:World) (D:Nat->Bool) (ρ:Ren) (a:Act) (w:World):Prop where
 ext:∀ b l,ρ0 b=some l->ρ b=some l
 new:∀ b l,ρ b=some l->ρ0 b=none->eB M (Dr lo D) b up=true/\(l.on=true->w0.heap.size<=l.blk)
 hr:HRf P base ρ (GD M lo up D) w
 keep:∀ k,k<w0.heap.size->w.heap[k]? = w0.heap[k]?
 size:w0.heap.size<=w.heap.size
 os:w.os=w0.os/\w.tape=w0.tape/\w.output=w0.output
 tch:∀ k,Ff ρ (GD M lo up D) k->w0.heap.size<=k∨Fp ρ0 (M lo).H k
 tsz:a.tmps.size=nt
 dfr:ZR z ρ nt (F 0) a.defers
 frm:∀ t,t<nt->VR ρ (v6 D (fun k=>(ops[k]?).bind (·.dst)) V (F 0).get t ops.size) (a.tmps.getD t undef)
def Q5{i:Nat}{o:Oper}(h:ops[i]? = some o):ops.toList[i]? = some o:=by simpa using h
def eR{ops:List Oper}{a:List G6}:∀ (r:List Oper) (i:Nat),DO ops a r i=true->∀ j o,r[j]? = some o->kS (i+j) o.after.toList=true/\oS a (i+j) (T7 ops o) ops 0=true
 | [],i,h,j,o,hj=>by simp at hj
 | x::r,i,h,j,o,hj=>by
   obtain⟨h1,b⟩:=B6 (show(kS i x.after.toList && (oS a i (T7 ops x) ops 0 && DO ops a r (i+1)))=true from h);obtain⟨b,h3⟩:=B6 b;cases j with
   | zero=>simp at hj;subst hj;exact⟨h1,b⟩
   | succ j =>
     have:=eR r (i+1) h3 j o (by simpa using hj)
     rwa[show i+1+j=i+(j+1) by omega]at this
def cX:∀ {es:List Edge} {i:Nat},kS i es=true->∀ e ∈ es,Region.binds .any e=true->e.on<i
 | [],i,h,e,he,_=>by cases he
 | x::r,i,h,e,he,hb=>by
   obtain⟨h1,a⟩:=B6 (show((!(Region.binds .any x) || Nat.blt x.on i) && kS i r)=true from h);rcases A8.1 he with rfl|he
   .rw[hb]at h1;have h1:Nat.blt e.on i=true:=by simpa only [O7,T5]using h1
    exact A1 h1
   .exact cX a e he hb
def wS{b:List G6}{i:Nat}{d:List Tmp}:∀ (r:List Oper) (a:Nat),oS b i d r a=true->∀ j p t,r[j]? = some p->a+j≠i->p.dst=some t->t ∈ d->XL b i (a+j)=true
 | [],a,h,j,p,t,hj,_,_,_=>by simp at hj
 | x::r,a,h,j,p,t,hj,hne,hd,ht=>by
   obtain⟨h1,e⟩:=B6 (show((Nat.beq a i || (match x.dst with|none=>true|some t=>!(r7 d t) || XL b i a)) && oS b i d r (a+1))=true from h);cases j with
   | zero =>
     simp at hj;subst hj;have f:Nat.beq a i=false:=by
      cases g:Nat.beq a i with
      | false=>rfl
      | true=>exact absurd (A0 g) hne
     rw[f,hd,T5]at h1;simp only[U3.2 ht,O7,T5]at h1;exact h1
   | succ j =>
     have:=wS r (a+1) e j p t (by simpa using hj) A6 hd ht
     rwa[show a+1+j=a+(j+1) by omega]at this
def Rg.slot(g:Rg P base gl nt call ops F M V R X B){D:Nat->Bool}(n:jP ops.toList fun k=>D k=true)(w:∀ k,D k=true->k<ops.size){i:Nat}{o:Oper}(f:ops[i]? = some o)(hi:D i=false)
  (hr:∀ e ∈ o.after.toList,Region.binds .any e=true->D e.on=true) {t:Tmp} (u:t ∈ T7 ops.toList o):∀ k p,ops[k]? = some p->k≠i->p.dst=some t->(D k=true↔k<i):=fun k p hp j v=>by
 have s:∀ (i:Nat) (o:Oper),ops.toList[i]? = some o->∀ e ∈ o.after.toList,Region.binds .any e=true->e.on<i:=fun i o f=>by
  have:=(eR _ 0 g.ok i o f).1;rw[E1]at this;exact cX this
 have h1:=(eR _ 0 g.ok i o (Q5 f)).2;have a:=wS _ 0 h1 k p t (Q5 hp) A6 v u;rw[E1,E1]at a;unfold XL at a;rcases Nat.lt_trichotomy k i with b|heq|q
 .have d:Nat.blt i k=false:=by
   cases d:Nat.blt i k with
   | false=>rfl
   | true=>have:i<k:=A1 d;omega
  rw[d]at a;have hm:=U3.1 (by simpa using a);exact⟨fun _=>b,fun _=>vD n s (i+1) i k o (H9 i) (Q5 f) hr hm⟩
 .exact absurd heq j
 .have d:Nat.blt i k=true:=C6 q;rw[d]at a;have hm:=U3.1 (by simpa using a);refine⟨fun hk=>?_,fun h=>by omega⟩
  have:=vD n s (k+1) k i p (H9 k) (Q5 hp) (fun e he l=>n k p (Q5 hp) hk e he l) hm;rw[hi]at this;cases this
def Rg.frame(g:Rg P base gl nt call ops F M V R X B)(a:nt<=512){t:Tmp}(f:t<nt):∀ i,i<=ops.size->(F i).get t=v6 (fun k=>Nat.blt k i) (fun k=>(ops[k]?).bind (·.dst)) V (F 0).get t i
 | 0,_=>rfl
 | i+1,h=>by
   obtain⟨o,j⟩:=O0 (ops:=ops) (i:=i) A6;obtain⟨h1,_,h3,_⟩:=g.st i o j;have l:=g.frame a f i A6;have q:v6 (fun k=>Nat.blt k (i+1)) (fun k=>(ops[k]?).bind (·.dst)) V (F 0).get t i=v6 (fun k=>Nat.blt k i) (fun k=>(ops[k]?).bind (·.dst)) V (F 0).get t i:=cU i fun k hk _=>by
    rw[show Nat.blt k (i+1)=true from C6 A6,show Nat.blt k i=true from C6 hk]
   have p:Nat.blt i (i+1)=true:=C6 (A7 _);rw[h3];unfold v6;rw[q,<- l];simp only[p,j,G2,true_and];cases n:o.dst with
   | none=>simp[rE]
   | some d =>
     rw[n]at h1;have b:d<nt:=A1 h1;simp only[rE,C7];rw[K8 _ _ _ _ (C9 b a) (C9 f a)];by_cases e:t=d
     .subst e;simp
     .rw[B0 e,B0 (fun h=>e h.symm)]
def Rg.look(g:Rg P base gl nt call ops F M V R X B)(a:nt<=512){D:Nat->Bool}(v:jP ops.toList fun k=>D k=true)(j:∀ k,D k=true->k<ops.size){i:Nat}{o:Oper}(l:ops[i]? = some o)(hi:D i=false)
  (hr:∀ e ∈ o.after.toList,Region.binds .any e=true->D e.on=true) {t:Tmp} (s:t ∈ T7 ops.toList o) (b:t<nt):v6 D (fun k=>(ops[k]?).bind (·.dst)) V (F 0).get t ops.size=(F i).get t:=by
 have y:i<ops.size:=(B7.1 l).1;rw[g.frame a b i A6];have q:=g.slot v j l hi hr s;have x:v6 D (fun k=>(ops[k]?).bind (·.dst)) V (F 0).get t ops.size=v6 (fun k=>Nat.blt k i) (fun k=>(ops[k]?).bind (·.dst)) V (F 0).get t ops.size:=cU _ fun k hk f=>by
  obtain⟨p,hp⟩:=O0 (ops:=ops) hk;rw[hp]at f;by_cases e:k=i
  .subst e;rw[hi];symm;cases u:Nat.blt k k with
   | false=>rfl
   | true=>have:k<k:=A1 u;omega
  .have:=q k p hp e f;rw[I0,this];exact⟨fun h=>C6 h,fun h=>A1 h⟩
 rw[x];have w:∀ d,i+d<=ops.size->v6 (fun k=>Nat.blt k i) (fun k=>(ops[k]?).bind (·.dst)) V (F 0).get t (i+d)=v6 (fun k=>Nat.blt k i) (fun k=>(ops[k]?).bind (·.dst)) V (F 0).get t i:=by
  intro d;induction d with
  | zero=>intro _;rfl
  | succ d n =>
    intro f;rw[show i+(d+1)=(i+d)+1 by omega];rw[v6,B0 (fun hh=>by have:i+d<i:=A1 hh.1;omega)];exact n A6
 have:=w (ops.size-i) A6
 rwa[show i+(ops.size-i)=ops.size by omega]at this
def sN{o:Oper}{x:Operand}{t:Tmp}(b:x ∈ o.op.operands.toList)(a:x=.tmp t):t ∈ T7 ops.toList o:=by
 unfold T7;refine B4.2 (.inr (B4.2 (.inl (List.mem_flatMap.2 ⟨x,b,?_⟩))));subst a;simp[mO]
def Rg.see{z:Zn}(g:Rg P base gl nt call ops F M V R X B)(b:Ph ops B M lo up){y ρ:Ren}{w0 w:World}{D:Nat->Bool}{a:Act}{i:Nat}{o:Oper}
  (p:At P base gl y (M lo) (M up).hi w0) (K:jP ops.toList fun k=>D k=true) (q:lo<=i) (A:i<up) (h:ops[i]? = some o)
  (hr:∀ e ∈ o.after.toList,Region.binds .any e=true->D e.on=true):∀ id,id<=G9->∀ ab,Hp.get (M i).H id=some ab->id ∉ Y1 (xJ ((X6 ops.toList []).getD i []) (R i))->GD M lo up D id=some ab:=fun id hid ab h1 G=>by
 unfold GD;by_cases d:(M lo).n<=id/\id<(M i).n
 .obtain⟨k,s,I,t,u⟩:∃ k,lo<=k/\k<i/\(M k).n<=id/\id<(M (k+1)).n:=by
   have:=g.who b (i-lo) A6 id d.1 (by rw[show lo+(i-lo)=i by omega];exact d.2)
   rwa[show lo+(i-lo)=i by omega]at this
  have x:D k=true:=by
   have f:(⟨k,(M k).n,(M (k+1)).n⟩:Rec) ∈ R i:=by
    have:=g.recs b (i-lo) A6 k s A6 id t u
    rwa[show lo+(i-lo)=i by omega]at this
   by_cases hk:k ∈ (X6 ops.toList []).getD i []
   .exact vD K (fun i o h=>by
     have:=(eR _ 0 g.ok i o h).1;rw[E1]at this;exact cX this) (i+1) i k o (H9 i) (Q5 h) hr hk
   .exfalso;refine G (tM.2 ⟨_,P7.2 ⟨f,?_⟩,t,u⟩);cases v:r7 ((X6 ops.toList []).getD i []) k with
    | false=>rfl
    | true=>exact absurd (U3.1 v) hk
  have hu:eB M (Dr lo D) id up=true:=(R9 _).2 ⟨k,A6,W9.2 ⟨s,x⟩,t,u⟩;rw[hu];simp only[D9];rw[(g.le b (i:=i) (j:=up) q A6 (A7 _)).2.2 id hid d.2];exact h1
 .have E:=(g.all b q A6).2.2.2.2 id hid A6;rw[E]at h1;have hu:eB M (Dr lo D) id up=false:=by
   cases v:eB M (Dr lo D) id up with
   | false=>rfl
   | true =>
     exfalso;obtain⟨k,I,L,t,u⟩:=(R9 _).1 v;have s:=(W9.1 L).1;obtain⟨l,C,_⟩:=p.hr.at_ id hid ab h1;have O:=g.le b (i:=lo) (j:=k) (A7 _) s A6;have N:=g.le b (i:=k+1) (j:=up) A6 A6 (A7 _);have J:=(g.all b b.le (A7 _)).2.2.1;rw[p.fr id A6 A6]at C;cases C
  rw[hu];exact h1
def Rg.quiet{z:Zn}(g:Rg P base gl nt call ops F M V R X B)(G:R6 P base gl call){I ρ:Ren}{w0 w:World}{D D':Nat->Bool}{a:Act}{i:Nat}{o:Oper}{Q:Exit->Act->World->Prop}{K:Act->World->Prop}
  (s:At P base gl I (M lo) (M up).hi w0) (hS:Sat (M (i+1)).lg) (ag:nt<=512) (inv:Inv z P base gl nt ops F M V lo up I w0 D ρ a w) (hc:jP ops.toList fun k=>D k=true) (ay:∀ k,D k=true->k<ops.size) (Y:ops[i]? = some o) (hi:D i=false)
  (hr:∀ e ∈ o.after.toList,Region.binds .any e=true->D e.on=true) (hD:∀ k,k≠i->D' k=D k) (ai:D' i=true)
  (ax:bS nt ops.toList (U9 P call o) ((X6 ops.toList []).getD i []) (R i) (F i) o (M i) (M (i+1)) (V i) r) (aj:∀ b ab,r=some (b,ab)->GD M lo up D b=some ab)
  (hK:∀ ρ' a' w',Inv z P base gl nt ops F M V lo up I w0 D' ρ' a' w'->K a' w'):m9 P z.rd ops Q i K a w:=by
 have ah:i<ops.size:=(B7.1 Y).1;obtain⟨bz,af,hF,_⟩:=g.st i o Y;have A:∀ t,t ∈ T7 ops.toList o->t<nt->VR ρ ((F i).get t) (a.tmps.getD t undef):=fun t S av=>by
  rw[<- g.look ag hc ay Y hi hr S av];exact inv.frm t av
 have ak:FR ρ (F i) a.eval o.op:=fun x hx=>by
  have N:okX nt gl x=true:=D3.1 af x hx;cases x with
  | tmp t=>exact A t (sN hx rfl) (A1 N)
  | const v=>exact VR.ofC N
  | global gg=>exact VR.ptr (o:=0) (inv.ext _ _ (s.gr gg (A1 N)))
  | func f=>exact .func (a:=[]) (b:=[]) (a':=[]) (b':=[]) rfl rfl (fun i v v' h=>by simp at h) (fun i v v' h=>by simp at h)
 have y:∀ lg b,x7 nt (F i) (M i).lg ops.toList o=some (b,lg)->Sat lg->Region.wanted o (yielded ops a.tmps)=b:=fun lg b hw E=>by
  unfold x7 at hw;split at hw
  .rename_i hg;cases hw;simp[Region.wanted,hg]
  .rename_i j want hg;split at hw
   .rename_i p hp;split at hw
    .rename_i t S;obtain⟨h1,q⟩:=A2 hw;have h1:t<nt:=A1 h1;have O:=A t (by
      unfold T7;refine B4.2 (.inr (B4.2 (.inr ?_)));simp[hg,hp,S]) h1
     exact jV hg hp S (by rw[inv.tsz];exact h1) (mL q O E)
    .cases hw
   .cases hw
 have u:∀ (ρ':Ren) (v':Value),(∀ b l,ρ b=some l->ρ' b=some l)->VR ρ' (V i) v'->∀ t,t<nt->VR ρ' (v6 D' (fun k=>(ops[k]?).bind (·.dst)) V (F 0).get t ops.size) ((a.put o.dst v').tmps.getD t undef):=fun ρ' v' he O t S=>by
  by_cases hd:o.dst=some t
  .have U:∀ k,i<k->k<ops.size->(ops[k]?).bind (·.dst)=some t->D k=false:=fun k bx hk ar=>by
    obtain⟨p,hp⟩:=O0 (ops:=ops) hk;rw[hp]at ar
    have:=g.slot hc ay Y hi hr (t:=t) (by unfold T7;simp[hd]) k p hp A6 ar;cases hq:D k with
    | false=>rfl
    | true=>have:=this.1 hq;omega
   rw[nW hD ai ops.size ah (by simp[Y,hd]) U];simp only[hd,Act.put,B1];rw[D1,B2 rfl,B2 (by rw[inv.tsz];exact S)];exact O
  .rw[lS hD (by simp[Y];exact hd)];have h1:=(inv.frm t S).mono he;cases Z:o.dst with
   | none=>exact h1
   | some d =>
     have aq:d≠t:=fun e=>hd (e▸Z)
     simp only[Act.put,B1]at h1 ⊢;rw[D1,B0 aq];exact h1
 have hM:∃ lg,M (i+1)=(M i).wLg lg:=by
  rcases ax with⟨lg,_,_,h,_⟩|⟨_,aw,_,_,h,_⟩
  .exact⟨lg,h⟩
  .exact⟨aw,h⟩
 have hG:GD M lo up D'=GD M lo up D:=by
  funext b;unfold GD;have:eB M (Dr lo D') b up=eB M (Dr lo D) b up:=by
   obtain⟨lg,hm⟩:=hM;rw[I0,R9,R9];constructor
   .rintro⟨k,h1,q,h3,h4⟩
    have e:k≠i:=fun e=>by
     subst e;rw[hm]at h4;have h4:b<(M k).n:=h4;omega
    obtain⟨az,q⟩:=W9.1 q;rw[hD k e]at q;exact⟨k,h1,W9.2 ⟨az,q⟩,h3,h4⟩
   .rintro⟨k,h1,q,h3⟩
    obtain⟨az,q⟩:=W9.1 q;have e:k≠i:=fun e=>by subst e;rw[hi]at q;cases q
    exact⟨k,h1,W9.2 ⟨az,by rw[hD k e];exact q⟩,h3⟩
  rw[this]
 have L:∀ b l,ρ b=some l->I b=none->eB M (Dr lo D') b up=true/\(l.on=true->w0.heap.size<=l.blk):=fun b l h1 q=>by
  obtain⟨k1,k2⟩:=inv.new b l h1 q;obtain⟨k,q1,q2,q3⟩:=(R9 _).1 k1;obtain⟨ao,q2⟩:=W9.1 q2;have e:k≠i:=fun e=>by subst e;rw[hi]at q2;cases q2
  exact⟨(R9 _).2 ⟨k,q1,W9.2 ⟨ao,by rw[hD k e];exact q2⟩,q3⟩,k2⟩
 unfold m9;simp only[Y];rcases ax with⟨lg,hw,O,hm,_⟩|⟨lg,aw,hw,hq,hm,ae⟩
 .have E:Sat lg:=by rw[hm]at hS;exact hS
  rw[y lg false hw E];simp only[G4,if_false];refine hK ρ _ w ⟨inv.ext,L,hG▸inv.hr,inv.keep,inv.size,inv.os,hG▸inv.tch,?_,?_,u ρ undef (fun _ _ h=>h) (O▸mN ρ)⟩
  .cases Z:o.dst<;>simp[Act.put,inv.tsz]
  .rw[cL];exact inv.dfr
 .obtain⟨mv,m',T,J,hW,aa,hl⟩:=iI hq;obtain⟨v1,v2,v3,v4,v5,_⟩:=oU T;have au:Sat m'.lg:=by rw[hm]at hS;rw[hl];exact hS
  have E:Sat lg:=N0.le au (by have:=s5 G J;rw[v4]at this;exact this);rw[y lg true hw E];simp only[if_true];have ad:HR P base ρ mv.H w:=inv.hr.hr fun id hid ab W=>aj id ab (ae.trans (v5 id hid ab W))
  have al:At P base gl ρ mv m'.hi w:=⟨ad,B8 s.bs inv.size,fun b h1 q=>(by rw[v1]at h1;rw[aa]at q;omega),s.gr.mono inv.ext,(by rw[v1,v2];exact A7 _),fun b hb=>(by rw[v3]at hb;cases hb),fun k o hk=>⟨(s.gf k o hk).1,(inv.keep k (C9 (s.gf k o hk).1 s.bs)).trans (s.gf k o hk).2⟩⟩;refine mT G J au al ak fun v' ρ' w' O st=>?_
  have an:ρ'=ρ:=by
   funext b;cases h0:ρ b with
   | some l=>exact st.ext b l h0
   | none =>
     cases h1:ρ' b with
     | none=>rfl
     | some l =>
       exfalso;have q:=(st.new b l h1 h0).1;have h3:=st.hr.dom b l h1;rw[v1]at q;unfold oJ at q;unfold G9 at h3;omega
  subst an;have C:∀ k,k<w.heap.size->w'.heap[k]? = w.heap[k]? := fun k hk=>st.keep k hk fun b hb=>by rw[hW]at hb;cases hb
  refine hK ρ' _ w' ⟨inv.ext,L,hG▸⟨inv.hr.dom,fun id hid ab W=>?_⟩,fun k hk=>by rw[C k (C9 hk inv.size),inv.keep k hk],B8 inv.size st.size,⟨st.os.1.trans inv.os.1,st.os.2.1.trans inv.os.2.1,st.os.2.2.trans inv.os.2.2⟩,hG▸inv.tch,?_,?_,u ρ' v' (fun _ _ h=>h) O⟩
  .obtain⟨l,e1,e2,e3⟩:=inv.hr.at_ id hid ab W;exact⟨l,e1,e2.mono (fun _ _ h=>h) (fun k hk=>C _ (e2.tc hk)),e3⟩
  .cases Z:o.dst<;>simp[Act.put,inv.tsz]
  .rw[cL];exact inv.dfr
def Rg.step{z:Zn}(g:Rg P base gl nt call ops F M V R X B)(ph:Ph ops B M lo up)(S:R6 P base gl call){aq ρ:Ren}{w0 w:World}{D D':Nat->Bool}{a:Act}{i:Nat}{o:Oper}{Q:Exit->Act->World->Prop}{K:Act->World->Prop}
  (J:At P base gl aq (M lo) (M up).hi w0) (hS:Sat (M up).lg) (bh:nt<=512) (inv:Inv z P base gl nt ops F M V lo up aq w0 D ρ a w) (hc:jP ops.toList fun k=>D k=true) (ae:∀ k,D k=true->k<ops.size) (Y:lo<=i) (aw:i<up) (U:ops[i]? = some o) (hi:D i=false)
  (hr:∀ e ∈ o.after.toList,Region.binds .any e=true->D e.on=true) (hD:∀ k,k≠i->D' k=D k) (aa:D' i=true)
  (bu:¬∃ r,bS nt ops.toList (U9 P call o) ((X6 ops.toList []).getD i []) (R i) (F i) o (M i) (M (i+1)) (V i) r)
  (hK:∀ ρ' a' w',Inv z P base gl nt ops F M V lo up aq w0 D' ρ' a' w'->K a' w'):m9 P z.rd ops Q i K a w:=by
 have bj:i<ops.size:=(B7.1 U).1;obtain⟨cw,bf,hF,ak⟩:=g.st i o U;have af:=ph.mx i o Y aw U;have cu:=ph.sz;have ct:=g.le ph (i:=lo) (j:=i) (A7 _) Y A6;have ba:=g.le ph (i:=i+1) (j:=up) A6 A6 (A7 _);have cy:=g.one U af (g.all ph Y A6).2.2.1;have ay:∀ t,t ∈ T7 ops.toList o->t<nt->VR ρ ((F i).get t) (a.tmps.getD t undef):=fun t ht bw=>by
  rw[<- g.look bh hc ae U hi hr ht bw];exact inv.frm t bw
 have bl:FR ρ (F i) a.eval o.op:=fun x hx=>by
  have al:okX nt gl x=true:=D3.1 bf x hx;cases x with
  | tmp t=>exact ay t (sN hx rfl) (A1 al)
  | const v=>exact VR.ofC al
  | global gg=>exact VR.ptr (o:=0) (inv.ext _ _ (J.gr gg (A1 al)))
  | func f=>exact .func (a:=[]) (b:=[]) (a':=[]) (b':=[]) rfl rfl (fun i v v' h=>by simp at h) (fun i v v' h=>by simp at h)
 have an:∀ lg b,x7 nt (F i) (M i).lg ops.toList o=some (b,lg)->Sat lg->Region.wanted o (yielded ops a.tmps)=b:=fun lg b hw ai=>by
  unfold x7 at hw;split at hw
  .rename_i hg;cases hw;simp[Region.wanted,hg]
  .rename_i j want hg;split at hw
   .rename_i p hp;split at hw
    .rename_i t ht;obtain⟨h1,u⟩:=A2 hw;have h1:t<nt:=A1 h1;have hv:=ay t (by
      unfold T7;refine B4.2 (.inr (B4.2 (.inr ?_)));simp[hg,hp,ht]) h1
     exact jV hg hp ht (by rw[inv.tsz];exact h1) (mL u hv ai)
    .cases hw
   .cases hw
 have ar:∀ (ρ':Ren) (v':Value),(∀ b l,ρ b=some l->ρ' b=some l)->VR ρ' (V i) v'->∀ t,t<nt->VR ρ' (v6 D' (fun k=>(ops[k]?).bind (·.dst)) V (F 0).get t ops.size) ((a.put o.dst v').tmps.getD t undef):=fun ρ' v' he hv t ht=>by
  by_cases hd:o.dst=some t
  .have aj:∀ k,i<k->k<ops.size->(ops[k]?).bind (·.dst)=some t->D k=false:=fun k cv hk bq=>by
    obtain⟨p,hp⟩:=O0 (ops:=ops) hk;rw[hp]at bq
    have:=g.slot hc ae U hi hr (t:=t) (by unfold T7;simp[hd]) k p hp A6 bq;cases hq:D k with
    | false=>rfl
    | true=>have:=this.1 hq;omega
   rw[nW hD aa ops.size bj (by simp[U,hd]) aj];simp only[hd,Act.put,B1];rw[D1,B2 rfl,B2 (by rw[inv.tsz];exact ht)];exact hv
  .rw[lS hD (by simp[U];exact hd)];have h1:=(inv.frm t ht).mono he;cases bz:o.dst with
   | none=>exact h1
   | some d =>
     have bo:d≠t:=fun e=>hd (e▸bz)
     simp only[Act.put,B1]at h1 ⊢;rw[D1,B0 bo];exact h1
 have L:∀ b,eB M (Dr lo D') b up=true↔(eB M (Dr lo D) b up=true∨((M i).n<=b/\b<(M (i+1)).n)):=fun b=>by
  rw[R9,R9];constructor
  .rintro⟨k,h1,u,h3⟩
   obtain⟨ah,u⟩:=W9.1 u;by_cases e:k=i
   .subst e;exact .inr h3
   .rw[hD k e]at u;exact .inl ⟨k,h1,W9.2 ⟨ah,u⟩,h3⟩
  .rintro(⟨k,h1,u,h3⟩|h3)
   .obtain⟨ah,u⟩:=W9.1 u;have e:k≠i:=fun e=>by subst e;rw[hi]at u;cases u
    exact⟨k,h1,W9.2 ⟨ah,by rw[hD k e];exact u⟩,h3⟩
   .exact⟨i,aw,W9.2 ⟨Y,aa⟩,h3⟩
 unfold m9;simp only[U];have bp:Sat (M (i+1)).lg:=N0.le hS (by have:=g.lgs S (i:=i+1) (up-(i+1)) A6;rwa[show i+1+(up-(i+1))=up by omega]at this);rcases ak with⟨_,lg,hw,hv,hm⟩|⟨_,lg,bk,hw,hq,hm⟩|⟨ad,_⟩|⟨_,_,lg,hw,mv,m',az,ao,hW,bb,W⟩
 .exact absurd ⟨_,.inl ⟨lg,hw,hv,hm,rfl⟩⟩ bu
 .exact absurd ⟨_,.inr ⟨lg,bk,hw,hq,hm,rfl⟩⟩ bu
 .rw[af]at ad;cases ad
 .have br:Sat m'.lg:=by rw[DW W]at bp;exact bp
  have ai:Sat lg:=N0.le br (by have:=s5 S ao;rw[IX az]at this;exact this);rw[an lg true hw ai];simp only[if_true];obtain⟨v1,v2,v3,_,v4⟩:=WR az;have v1:mv.n=(M i).n:=v1;have v2:mv.hi=(M i).hi:=v2;have v4:∀ id,id<=G9->∀ ab,Hp.get mv.H id=some ab->Hp.get (M i).H id=some ab/\id ∉ Y1 (xJ ((X6 ops.toList []).getD i []) (R i)):=v4;have ag:=(g.all ph Y A6).2.2.1;obtain⟨q1,q2,q3,q4,q5,q6,_,q7⟩:=DV W ag bb;have q1:(M i).n<=(M (i+1)).n:=q1;have q5:(M (i+1)).n=m'.hi∨((M (i+1)).n=(M i).n/\m'.hi<=(M i).n):=q5;have q7:∀ id,id<=G9->Hp.get (M (i+1)).H id=if(M i).n<=id/\id<(M (i+1)).n then Hp.get m'.H id else Hp.get (M i).H id:=q7
  have I:∀ id,id<=G9->∀ ab,Hp.get mv.H id=some ab->GD M lo up D id=some ab:=fun id hid ab y=>by
   obtain⟨h1,u⟩:=v4 id hid ab y;exact g.see (z:=z) (a:=a) (ρ:=ρ) (w:=w) ph J hc Y aw U hr id hid ab h1 u
  have bc:HR P base ρ mv.H w:=inv.hr.hr I;have O:I8 ρ mv.n m'.hi:=fun b h1 u=>by
   rw[v1]at h1;cases hb:ρ b with
   | none=>rfl
   | some l =>
     exfalso;cases h0:aq b with
     | some l0 =>
       rw[J.fr b A6 A6]at h0;cases h0
     | none =>
       obtain⟨k,k1,k2,k3,k4⟩:=(R9 _).1 (inv.new b l hb h0).1;obtain⟨k0,k2⟩:=W9.1 k2;have cr:k≠i:=fun e=>by subst e;rw[hi]at k2;cases k2
       rcases F5 k i with bx|bx
       .have:=(g.le ph (i:=k+1) (j:=i) A6 A6 A6).1;omega
       .have:=(g.le ph (i:=i+1) (j:=k) A6 A6 A6).1;rcases q5 with q5|⟨_,q5⟩<;>omega
  have bn:At P base gl ρ mv m'.hi w:=⟨bc,B8 J.bs inv.size,O,J.gr.mono inv.ext,(by rw[v1,v2];exact ag),fun b hb=>(by rw[v3]at hb;cases hb),fun k o hk=>⟨(J.gf k o hk).1,(inv.keep k (C9 (J.gf k o hk).1 J.bs)).trans (J.gf k o hk).2⟩⟩;refine mT S ao br bn bl fun v' ρ' w' hv st=>hK ρ' _ w' ?_
  have ax:∀ k,k<w.heap.size->w'.heap[k]? = w.heap[k]? := fun k hk=>st.keep k hk fun b hb=>by rw[hW]at hb;cases hb
  have cz:m'.n<=m'.hi:=st.nhi (by rw[v1,v2];exact ag);have av:∀ b l,ρ' b=some l->ρ b=none->((M i).n<=b/\b<(M (i+1)).n)/\(l.on=true->w.heap.size<=l.blk):=fun b l h1 u=>by
   have h3:=st.new b l h1 u;rw[v1]at h3;refine⟨⟨h3.1,?_⟩,?_⟩
   .rcases q5 with q5|⟨_,q5⟩<;>omega
   .intro U;rcases st.blk b l h1 u U with h|⟨b0,h,_⟩
    .exact h
    .rw[hW]at h;cases h
  have au:∀ id,id<=G9->(M i).n<=id->id<(M (i+1)).n->GD M lo up D' id=Hp.get m'.H id/\ρ id=none:=fun id hid h1 u=>by
   constructor
   .unfold GD;rw[(L id).2 (.inr ⟨h1,u⟩)];simp only[D9];rw[ba.2.2 id hid u,q7 id hid,B2 ⟨h1,u⟩]
   .refine O id (by rw[v1];exact h1) ?_;rcases q5 with q5|⟨q5,_⟩
    .omega
    .rw[q5]at u;omega
  have T:∀ id,¬ ((M i).n<=id/\id<(M (i+1)).n)->GD M lo up D' id=GD M lo up D id:=fun id hid=>by
   unfold GD;have:eB M (Dr lo D') id up=eB M (Dr lo D) id up:=by
    rw[I0,L id];exact⟨fun h=>h.elim (fun h=>h) (fun h=>absurd h hid),.inl⟩
   rw[this]
  have bg:∀ k,Ff ρ' (GD M lo up D') k->w.heap.size<=k∨Ff ρ (GD M lo up D) k:=fun k ⟨id,ab,l,hid,y,hl,ht⟩=>by
   by_cases hI:(M i).n<=id/\id<(M (i+1)).n
   .rw[(au id hid hI.1 hI.2).1]at y;rcases st.tch k ⟨id,ab,l,hid,y,hl,ht⟩with h|⟨A,Z,l0,e1,e2,e3,e4⟩
    .exact .inl h
    .exact .inr ⟨A,Z,l0,e1,I A e1 Z e2,e3,e4⟩
   .rw[T id hI]at y;obtain⟨l3,c1,_⟩:=inv.hr.at_ id hid ab y;rw[st.ext id l3 c1]at hl
    have:=A5 hl;subst this;exact .inr ⟨id,ab,l3,hid,y,c1,ht⟩
  refine⟨fun b l h=>st.ext b l (inv.ext b l h),fun b l h1 u=>?_,⟨st.hr.dom,fun id hid ab y=>?_⟩,fun k hk=>by rw[ax k (C9 hk inv.size),inv.keep k hk],B8 inv.size st.size,⟨st.os.1.trans inv.os.1,st.os.2.1.trans inv.os.2.1,st.os.2.2.trans inv.os.2.2⟩,fun k hk=>(bg k hk).elim (fun h=>.inl (B8 inv.size h)) (inv.tch k),?_,?_,ar ρ' v' st.ext hv⟩
  .cases h0:ρ b with
   | some l1 =>
     rw[st.ext b l1 h0]at h1
     have:=A5 h1;subst this;exact⟨(L b).2 (.inl (inv.new b l1 h0 u).1),(inv.new b l1 h0 u).2⟩
   | none =>
     have:=av b l h1 h0;exact⟨(L b).2 (.inr this.1),fun U=>B8 inv.size (this.2 U)⟩
  .by_cases hI:(M i).n<=id/\id<(M (i+1)).n
   .obtain⟨h1,u⟩:=au id hid hI.1 hI.2;rw[h1]at y;obtain⟨l,e1,e2,e3⟩:=st.hr.at_ id hid ab y;refine⟨l,e1,e2,fun N C=>⟨(e3 N C).1,fun q s G l2 f1 f2 f3=>?_⟩⟩;by_cases E:(M i).n<=q/\q<(M (i+1)).n
    .rw[(au q s E.1 E.2).1]at f1;exact(e3 N C).2 q s G l2 f1 f2 f3
    .rw[T q E]at f1;obtain⟨l3,c1,c2,_⟩:=inv.hr.at_ q s G f1;rw[st.ext q l3 c1]at f2
     have:=A5 f2;subst this;have h5:=c2.tc f3;have h6:=(av id l e1 u).2 C;omega
   .rw[T id hI]at y;obtain⟨l,e1,e2,e3⟩:=inv.hr.at_ id hid ab y;refine⟨l,st.ext _ _ e1,e2.mono st.ext (fun k hk=>ax _ (e2.tc hk)),fun N C=>⟨(e3 N C).1,fun q s G l2 f1 f2 f3=>?_⟩⟩;by_cases E:(M i).n<=q/\q<(M (i+1)).n
    .exfalso;rw[(au q s E.1 E.2).1]at f1;have bm:G.fr=true:=by
      cases hq:G.fr with
      | true=>rfl
      | false =>
        exfalso;rcases f3 with⟨_,h1,u⟩|⟨h1,_⟩
        .have h5:=(av q l2 f2 (au q s E.1 E.2).2).2 h1;have h6:=e2.tc (.inl ⟨AB.rw_on N,C,rfl⟩);omega
        .rw[h1]at hq;cases hq
     rcases st.tch _ ⟨q,G,l2,s,f1,f2,bm,f3⟩with h|⟨A,Z,l0,c1,c2,c3,_,c4⟩
     .have:=e2.tc (.inl ⟨AB.rw_on N,C,rfl⟩);omega
     .have h7:=(e3 N C).2 A c1 Z l0 (I A c1 Z c2) c3 c4;subst h7;have h8:=I A c1 Z c2;rw[y]at h8;have h8:=A5 h8;subst h8;have h9:A<mv.n∨m'.hi<=A:=by
       rcases F5 A mv.n with h|h
       .exact .inl h
       .rcases F5 A m'.hi with h'|h'
        .rw[O A h h']at e1;cases e1
        .exact .inr h'
      have bt:=st.same A c1 (by rw[hW];simp) h9;rw[c2]at bt;obtain⟨_,bd⟩:=st.hr.atl (st.ext _ _ e1) bt
      have:=(bd N C).2 q s G l2 f1 f2 f3;subst this;exact hI E
    .rw[T q E]at f1;obtain⟨l3,c1,_⟩:=inv.hr.at_ q s G f1;rw[st.ext q l3 c1]at f2
     have:=A5 f2;subst this;exact(e3 N C).2 q s G l3 f1 c1 f3
  .cases bz:o.dst<;>simp[Act.put,inv.tsz]
  .rw[cL];exact inv.dfr.congr st.ext fun _=>⟨rfl,rfl⟩
end
end
section
open Go
variable [Ora]
def pT:∀ (l:List Bool) (i:Nat),l[i]? = some false->(l.set i true).countP (fun b=>!b)+1=l.countP (fun b=>!b)
 | [],i,h=>by simp at h
 | b::r,0,h=>by simp at h;subst h;simp
 | b::r,i+1,h=>by
   have:=pT r i (by simpa using h);rw[List.set_cons_succ,List.countP_cons,List.countP_cons];omega
def uM{l:List Bool}(h:l.countP (fun b=>!b)=0):∀ i,i<l.length->l[i]? = some true:=fun i hi=>by
 rw[List.countP_eq_zero]at h
 have:=h l[i] (H6 hi);rw[A3 hi];cases a:l[i]with
 | true=>rfl
 | false=>rw[a]at this;exact absurd rfl this
section
variable {P:Program} {base gl:Nat} {call:M2}
def RZ(h:iP m m'=some m2)(a:m.hi<=m'.hi):m.hi<=m2.hi:=by
 unfold iP at h;cases b:Nat.ble m'.hi m.n with
 | true=>rw[b]at h;cases h;exact A7 _
 | false =>
   rw[b]at h;obtain⟨_,h⟩:=A2 h;simp only[E6,bZ]at h;cases h;exact a
def vC:∀ {n:Nat} {b:G6} {a:Qs},BL n b a=true->∀ k,k<n->k ∈ b∨∃ q ∈ a,q.1=k
 | 0,_,_,_,k,h=>by omega
 | n+1,b,a,h,k,hk=>by
   obtain⟨h1,d⟩:=B6 (show((r7 b n || a.any fun q=>Nat.beq n q.1) && BL n b a)=true from h);by_cases e:k=n
   .subst e;rcases G0 _ _▸h1 with h1|h1
    .exact .inl (U3.1 h1)
    .obtain⟨q,g,f⟩:=L1.1 h1;exact .inr ⟨q,g,(A0 f).symm⟩
   .exact vC d k A6
def tS:∀ {i:Nat} {bs:List G6} {r:List Oper},AJ i bs r=true->∀ (j:Nat) (c:List Nat) (o:Oper),bs[j]? = some c->r[j]? = some o->i ∈ c∨t7 o.op=true
 | _,[],_,_,j,c,o,h,_=>by simp at h
 | _,_::_,[],_,j,c,o,_,h=>by simp at h
 | i,c0::bs,o0::r,h,j,c,o,h1,h2=>by
   obtain⟨a,b⟩:=B6 (show((r7 c0 i || t7 o0.op) && AJ i bs r)=true from h);cases j with
   | zero =>
     simp at h1 h2;subst h1;subst h2;rcases G0 _ _▸a with a|a
     .exact .inl (U3.1 a)
     .exact .inr a
   | succ j=>exact tS b j c o (by simpa using h1) (by simpa using h2)
def zM{ops:Array Oper}{X:Nat->Qs}{i:Nat}{o:Oper}(h:WZ ops X i o=true):t7 o.op=false:=by
 obtain⟨h,_⟩:=B6 (show(wrO o.op && _)=true from h);cases a:o.op<;>rw[a]at h<;>first
  | rfl
  | cases h
def GW{ops:Array Oper}{X:Nat->Qs}{i:Nat}{o:Oper}(h:WZ ops X i o=true):∀ k,k<i->k ∈ (X6 ops.toList []).getD i []∨∃ q ∈ X i,q.1=k:=by
 obtain⟨_,h⟩:=B6 (show(wrO o.op && _)=true from h);obtain⟨h,_⟩:=B6 h;exact vC h
def GV{ops:Array Oper}{X:Nat->Qs}{i:Nat}{o:Oper}(h:WZ ops X i o=true):∀ j p,i<j->ops[j]? = some p->i ∈ (X6 ops.toList []).getD j []∨t7 p.op=true:=fun j p e hp=>by
 obtain⟨_,h⟩:=B6 (show(wrO o.op && _)=true from h);obtain⟨_,h⟩:=B6 h;obtain⟨g,b,d,_⟩:=pX ops.toList [];have hlen:(X6 ops.toList []).length=ops.size:=by rw[b];simpa using d
 have f:j<ops.size:=(B7.1 hp).1;have a:j<(X6 ops.toList []).length:=A6
 have:=tS h (j-(i+1)) (X6 ops.toList [])[j] p (by rw[H3,show i+1+(j-(i+1))=j by omega,A3 a]) (by rw[H3,show i+1+(j-(i+1))=j by omega];exact Q5 hp);rw[B3,A3 a];exact this
def oZ(ops:Array Oper)(B:Nat->Bool):∀ (d lo:Nat),lo+d=ops.size->∃ up,lo<=up/\up<=ops.size/\(∀ i o,lo<=i->i<up->ops[i]? = some o->B i=false)/\(up<ops.size->∃ o,ops[up]? = some o/\B up=true)
 | 0,lo,h=>⟨lo,A7 _,A6,fun i o h1 f=>by omega,fun f=>by omega⟩
 | d+1,lo,h=>by
   obtain⟨o,k⟩:=O0 (ops:=ops) (i:=lo) A6;cases g:B lo with
   | true=>exact⟨lo,A7 _,A6,fun i o h1 f=>by omega,fun _=>⟨o,k,g⟩⟩
   | false =>
     obtain⟨up,h1,f,h3,j⟩:=oZ ops B d (lo+1) A6;refine⟨up,A6,f,fun i o' a b c=>?_,j⟩;by_cases e:i=lo
     .subst e;exact g
     .exact h3 i o' A6 b c
section
variable {nt:Nat} {ops:Array Oper} {F:Nat->Fr} {M:Nat->Mem} {V:Nat->Value} {R:Nat->List Rec} {X:Nat->Qs} {B:Nat->Bool} {lo up:Nat}
def Rg.frameUp(g:Rg P base gl nt call ops F M V R X B)(a:nt<=512){t:Tmp}(f:t<nt){i:Nat}(hi:i<=ops.size):v6 (fun k=>Nat.blt k i) (fun k=>(ops[k]?).bind (·.dst)) V (F 0).get t ops.size=(F i).get t:=by
 rw[g.frame a f i hi];have e:∀ d,i+d<=ops.size->v6 (fun k=>Nat.blt k i) (fun k=>(ops[k]?).bind (·.dst)) V (F 0).get t (i+d)=v6 (fun k=>Nat.blt k i) (fun k=>(ops[k]?).bind (·.dst)) V (F 0).get t i:=by
  intro d;induction d with
  | zero=>intro _;rfl
  | succ d b =>
    intro j;rw[show i+(d+1)=(i+d)+1 by omega];rw[v6,B0 (fun hh=>by have:i+d<i:=A1 hh.1;omega)];exact b A6
 have:=e (ops.size-i) A6
 rwa[show i+(ops.size-i)=ops.size by omega]at this
def A4j{k i:Nat}:Nat.blt k i=true↔k<i:=⟨fun h=>A1 h,fun h=>C6 h⟩
def Rg.own(g:Rg P base gl nt call ops F M V R X B)(f:nt<=510):∀ (i:Nat),i<=ops.size->(F i).get 510=(F 0).get 510/\(F i).get 511=(F 0).get 511
 | 0,_=>⟨rfl,rfl⟩
 | i+1,hi=>by
   obtain⟨o,k⟩:=O0 (ops:=ops) (i:=i) A6;obtain⟨d1,_,d3,_⟩:=g.st i o k;have b:=g.own f i A6;have key:∀ t,510<=t->t<512->(F (i+1)).get t=(F i).get t:=fun t h1 j=>by
    rw[d3];cases l:o.dst with
    | none=>rfl
    | some d =>
      rw[l]at d1;have a:d<nt:=A1 d1;show((F i).set d _).get t=_;rw[K8 _ _ _ _ (C9 a A6) j,B0 (fun e=>by subst e;exact absurd a (Nat.not_lt.2 (B8 f h1)))]
   exact⟨(key 510 K3 K3).trans b.1,(key 511 K3 K3).trans b.2⟩
def Rg.inX(g:Rg P base gl nt call ops F M V R X B):∀ (j:Nat),j<=ops.size->∀ q ∈ X j,q.1<j/\q ∈ X (q.1+1)/\∃ o,ops[q.1]? = some o/\bS nt ops.toList (U9 P call o) ((X6 ops.toList []).getD q.1 []) (R q.1) (F q.1) o (M q.1) (M (q.1+1)) (V q.1) q.2
 | 0,_,q,hq=>by rw[g.x0]at hq;cases hq
 | j+1,hj,q,hq=>by
   obtain⟨o,d⟩:=O0 (ops:=ops) (i:=j) A6;have old:q ∈ X j->q.1<j+1/\q ∈ X (q.1+1)/\∃ o,ops[q.1]? = some o/\bS nt ops.toList (U9 P call o) ((X6 ops.toList []).getD q.1 []) (R q.1) (F q.1) o (M q.1) (M (q.1+1)) (V q.1) q.2:=fun h=>by
    obtain⟨h1,a⟩:=g.inX j A6 q h;exact⟨A6,a⟩
   rcases g.qs j o d with⟨_,h,_⟩|⟨_,h⟩|⟨_,r,h,a⟩
   .exact old (h▸hq)
   .exact old (h▸hq)
   .have b:=hq;rw[h]at hq;rcases A8.1 hq with e|e
    .subst e;exact⟨H9 _,b,o,d,a⟩
    .exact old e
def xC{all:List Oper}{b:G6}{fr:Fr}{o:Oper}{v:Value}(h:bS nt all op b rs fr o m m2 v r):∃ lg,m2=m.wLg lg:=by
 rcases h with⟨lg,_,_,h,_⟩|⟨_,a,_,_,h,_⟩
 .exact⟨lg,h⟩
 .exact⟨a,h⟩
def Rg.kind(g:Rg P base gl nt call ops F M V R X B){i:Nat}{o:Oper}(e:ops[i]? = some o)(hk:t7 o.op=true):bS nt ops.toList (U9 P call o) ((X6 ops.toList []).getD i []) (R i) (F i) o (M i) (M (i+1)) (V i) none:=by
 obtain⟨_,_,_,h⟩:=g.st i o e;have f:EV (M i).H (F i) o.op=none:=by
  cases b:o.op<;>rw[b]at hk<;>first|rfl|cases hk
 rcases h with⟨_,lg,h1,a,h3⟩|⟨_,lg,d,h1,a,h3⟩|⟨h,_⟩|⟨_,h,_⟩
 .exact .inl ⟨lg,h1,a,h3,rfl⟩
 .exact .inr ⟨lg,d,h1,a,h3,f.symm⟩
 .rw[zM (g.sb i o e h)]at hk;cases hk
 .rw[hk]at h;cases h
def Rg.heap{z:Zn}(g:Rg P base gl nt call ops F M V R X B)(f:Ph ops B M lo up){D:Nat->Bool}{o ρ:Ren}{a:Act}{x w':World}(K:∀ k,lo<=k->k<up->D k=false->∃ lg,M (k+1)=(M k).wLg lg)(inv:Inv z P base gl nt ops F M V lo up o x D ρ a w'):St P base o ρ (M lo) (M up) x w':=by
 have w:∀ id,id<=G9->GD M lo up D id=Hp.get (M up).H id:=fun id hid=>by
  unfold GD;cases hu:eB M (Dr lo D) id up with
  | true=>rfl
  | false =>
    simp only[D4];refine((g.all f f.le (A7 _)).2.2.2.2 id hid ?_).symm;rcases F5 id (M lo).n with h1|h1
    .exact .inl h1
    .rcases F5 id (M up).n with e|e
     .exfalso;have hle:=f.le;obtain⟨k,q,h,y,p⟩:=g.who f (up-lo) A6 id h1 (by rw[show lo+(up-lo)=up by omega];exact e);have t:D k=true:=by
       cases A:D k with
       | true=>rfl
       | false =>
         obtain⟨lg,hm⟩:=K k q A6 A;rw[hm]at p;have p:id<(M k).n:=p;omega
      rw[(R9 (M:=M) (D:=Dr lo D) up).2 ⟨k,A6,W9.2 ⟨q,t⟩,y,p⟩]at hu;cases hu
     .exact .inr e
 have d:=g.all f f.le (A7 _);refine⟨inv.ext,fun b l h1 e=>?_,d.1,d.2.1,fun _=>d.2.2.1,inv.hr.hr fun id hid ab s=>by rw[w id hid];exact s,fun b E=>by rw[d.2.2.2.1];exact E,fun b h1 e=>by rw[d.2.2.2.1]at h1;exact absurd h1 e,
     fun k hk _=>inv.keep k hk,inv.size,inv.os,fun b l h1 e I=>.inl ((inv.new b l h1 e).2 I),fun id hid h1 e=>?_,fun k ⟨id,ab,l,u,v,C,G⟩=>inv.tch k ⟨id,ab,l,u,(w id u).trans v,C,G⟩⟩
 .obtain⟨k,h,J,y,p⟩:=(R9 _).1 (inv.new b l h1 e).1;have q:=(W9.1 J).1;have u:=(g.le f (i:=lo) (j:=k) (A7 _) q A6).1;have v:=(g.le f (i:=k+1) (j:=up) A6 A6 (A7 _)).1;omega
 .refine d.2.2.2.2 id hid ?_;rcases e with e|e
  .exact .inl e
  .exact .inr (by have:=d.2.2.1;omega)
def Rg.last{z:Zn}(g:Rg P base gl nt call ops F M V R X B)(b:nt<=512){D:Nat->Bool}{d ρ:Ren}{a:Act}{l w':World}(n:∀ i,i<ops.size->D i=true)(inv:Inv z P base gl nt ops F M V lo up d l D ρ a w'):FrR z ρ nt (F ops.size) a:=by
 have f:=inv.dfr.congr (fun _ _ h=>h) (fun j=>g.own j ops.size (A7 _));refine⟨inv.tsz,b,f.1,f.2,fun t e=>?_⟩;have h1:=inv.frm t e;rw[<- g.frameUp b e (A7 _)]
 rwa[cU (D':=fun k=>Nat.blt k ops.size) ops.size (fun k hk _=>by rw[n k hk];exact(A4j.2 hk).symm)]at h1
def Rg.fresh{z:Zn}(g:Rg P base gl nt call ops F M V R X B){D:Nat->Bool}{ρ:Ren}{a:Act}{w:World}(y:∀ k,lo<=k->D k=true->∃ lg,M (k+1)=(M k).wLg lg)(hr:HR P base ρ (M lo).H w)(e:a.tmps.size=nt)(p:ZR z ρ nt (F 0) a.defers)
  (j:∀ t,t<nt->VR ρ (v6 D (fun k=>(ops[k]?).bind (·.dst)) V (F 0).get t ops.size) (a.tmps.getD t undef)):Inv z P base gl nt ops F M V lo up ρ w D ρ a w:=by
 have hu:∀ b n,eB M (Dr lo D) b n=false:=fun b n=>by
  cases s:eB M (Dr lo D) b n with
  | false=>rfl
  | true =>
    obtain⟨k,_,h,C,q⟩:=(R9 _).1 s;obtain⟨h1,o⟩:=W9.1 h;obtain⟨lg,hm⟩:=y k h1 o;rw[hm]at q;have q:b<(M k).n:=q;omega
 have i:∀ id ab,GD M lo up D id=some ab->Hp.get (M lo).H id=some ab:=fun id ab d=>by
  unfold GD at d;rw[hu]at d;exact d
 exact⟨fun _ _ h=>h,fun b l h1 o=>(by rw[h1]at o;cases o),hr.f fun id hid ab d=>i id ab d,fun _ _=>rfl,A7 _,⟨rfl,rfl,rfl⟩,fun k ⟨id,ab,l,A,x,u,v⟩=>.inr ⟨id,ab,l,A,i id ab x,u,v⟩,e,p,j⟩
def Rg.old{z:Zn}(g:Rg P base gl nt call ops F M V R X B)(d:Ph ops B M lo up){e:Ren}{w0:World}{D:Nat->Bool}(a:At P base gl e (M lo) (M up).hi w0){b:Nat}{ab:AB}(p:tZ (M lo).H b ab=true):GD M lo up D b=some ab:=by
 obtain⟨h1,hid⟩:=tY p;unfold GD;have hu:eB M (Dr lo D) b up=false:=by
  cases o:eB M (Dr lo D) b up with
  | false=>rfl
  | true =>
    exfalso;obtain⟨k,v,s,w,x⟩:=(R9 _).1 o;have q:=(W9.1 s).1;obtain⟨l,f,_⟩:=a.hr.at_ b hid _ h1;have u:=g.le d (i:=lo) (j:=k) (A7 _) q A6;have t:=g.le d (i:=k+1) (j:=up) A6 A6 (A7 _);have n:=(g.all d d.le (A7 _)).2.2.1;rw[a.fr b A6 A6]at f;cases f
 rw[hu];exact h1
end
def TS(hm:P.follows .mixedOrders=true)(O:R6 P base gl call):j8 P base gl call:=by
 refine⟨hm,?_⟩;intro nt ops bz s s' ct;obtain⟨F,M,V,R,X,B,f1,f2,f3,dz,f4,f5,f6⟩:=ZW ops.toList 0 _ _ _ s s' ct;simp only[E1,P9]at f4 f5 f6;have bd:∀ i,i<=ops.size->∀ d,i+d<=ops.size->(M i).hi<=(M (i+d)).hi/\(M i).lg.le (M (i+d)).lg:=by
  intro i _ d;induction d with
  | zero=>intro _;exact⟨A7 _,.refl _⟩
  | succ d ih =>
    intro h;have h1:=ih A6;obtain⟨o,y⟩:=O0 (ops:=ops) (i:=i+d) A6;obtain⟨bn,_⟩:=f6 (i+d) o (Q5 y);refine⟨?_,h1.2.trans (wQ O bn)⟩;obtain⟨_,_,_,L⟩:=bn;rcases L with⟨_,_,_,_,L⟩|⟨_,_,_,_,_,L⟩|⟨_,_,_,_,L⟩|⟨_,_,_,_,mv,m',_,_,_,cb,L⟩
    .show _<=(M (i+d+1)).hi;rw[L];exact h1.1
    .show _<=(M (i+d+1)).hi;rw[L];exact h1.1
    .exact B8 h1.1 L
    .exact B8 h1.1 (RZ L cb)
 have A:∀ i j,i<=j->j<=ops.size->(M i).hi<=(M j).hi/\(M i).lg.le (M j).lg:=fun i j h1 L=>by
  have:=bd i A6 (j-i) A6
  rwa[show i+(j-i)=j by omega]at this
 constructor
 .have:=A 0 ops.size A6 (A7 _);rw[f2,f5]at this;exact this
 .intro z au a0 w id Q ch av ak hQ;have g:Rg P base gl nt call ops F M V R X B:=⟨fun i o y=>(f6 i o (Q5 y)).1,fun i o y=>(f6 i o (Q5 y)).2.2.1,fun i o y=>(f6 i o (Q5 y)).2.2.2,fun i o y=>(f6 i o (Q5 y)).2.1,dz,bz⟩;have cp:∀ i o,ops[i]? = some o->∀ e ∈ o.after.toList,Region.binds .any e=true->e.on<i:=fun i o y=>by
   have:=(eR _ 0 g.ok i o (Q5 y)).1;rw[E1]at this;exact cX this
  refine cC hm ?_;generalize ck:({ w with drawn:=w.drawn+1 }:World)=w1;have ar:w1.heap=w.heap:=by rw[<- ck]
  have cv:w1.os=w.os/\w1.tape=w.tape/\w1.output=w.output:=by rw[<- ck];exact⟨rfl,rfl,rfl⟩
  have aq:At P base gl au (M 0) (M ops.size).hi w1:=by
   rw[f2,f5];exact⟨⟨fun b l h=>av.hr.dom b l h,fun id hid ab dy=>by
    obtain⟨l,e1,e2,e3⟩:=av.hr.at_ id hid ab dy;exact⟨l,e1,e2.mono (fun _ _ h=>h) (fun _ _=>by rw[ar]),e3⟩⟩,by rw[ar];exact av.bs,av.fr,av.gr,av.nh,av.wb,fun k o hk=>by rw[ar];exact av.gf k o hk⟩
  have al:∀ i,i<=ops.size->Sat (M i).lg:=fun i hi=>N0.le ch (by rw[<- f5];exact(A i ops.size hi (A7 _)).2)
  have Y:I8 au (M 0).n (M ops.size).hi:=aq.fr;have fin:∀ (ρ:Ren) (a:Act) (w':World),FrR z ρ nt (F ops.size) a->St P base au ρ (M 0) (M ops.size) w1 w'->Q .normal a w':=fun ρ a w' hf st=>by
   refine hQ ρ a w' (by rw[<- f4];exact hf) ?_;rw[<- f2,<- f5];exact⟨st.ext,st.new,st.nle,st.hle,st.nhi,st.hr,st.wsub,st.wrw,fun k hk hb=>by rw[st.keep k (by rw[ar];exact hk) hb,ar],by rw[<- ar];exact st.size,⟨st.os.1.trans cv.1,st.os.2.1.trans cv.2.1,st.os.2.2.trans cv.2.2⟩,fun b l h1 L h3=>by rw[<- ar];exact st.blk b l h1 L h3,st.same,fun k hk=>by rw[<- ar];exact st.tch k hk⟩
  have main:∀ (fuel:Nat) (listed:Array Bool) (lo up:Nat) (I ρ:Ren) (a:Act) (wL w':World),listed.size=ops.size->listed.toList.countP (fun b=>!b)=fuel->jP ops.toList (fun k=>listed.getD k false=true) ->
    Ph ops B M lo up->(up<ops.size->∃ o,ops[up]? = some o/\B up=true)->St P base au I (M 0) (M lo) w1 wL->At P base gl I (M lo) (M ops.size).hi wL->(∀ q ∈ X lo,listed.getD q.1 false=false->A0H (M lo).H q.2=true)->(∀ k,k<lo->listed.getD k false=false->∃ q ∈ X lo,q.1=k)->(∀ k o,up<=k->ops[k]? = some o->listed.getD k false=true->t7 o.op=true) ->
    Inv z P base gl nt ops F M V lo up I wL (fun k=>listed.getD k false) ρ a w'->eA P z.rd .any ops Q fuel listed a w':=by
   have done:∀ (listed:Array Bool) (lo up:Nat) (I ρ:Ren) (a:Act) (wL w':World),(∀ i,i<ops.size->listed.getD i false=true)->Ph ops B M lo up->(up<ops.size->∃ o,ops[up]? = some o/\B up=true)->St P base au I (M 0) (M lo) w1 wL->(∀ k o,up<=k->ops[k]? = some o->listed.getD k false=true->t7 o.op=true) ->
     Inv z P base gl nt ops F M V lo up I wL (fun k=>listed.getD k false) ρ a w'->Q .normal a w':=fun listed lo up I ρ a wL w' U ph G aj J inv=>by
    have cr:up=ops.size:=by
     rcases F5 up ops.size with h|h
     .obtain⟨o,y,hs⟩:=G h
      have:=J up o (A7 _) y (U up h);rw[zM (g.sb up o y hs)]at this;cases this
     .have:=ph.sz;omega
    subst cr;exact fin ρ a w' (g.last ak.le U inv) (St.trans Y aj (g.heap ph (fun k _ h1 L=>by have L:listed.getD k false=false:=L;rw[U k h1]at L;cases L) inv))
   intro fuel;induction fuel with
   | zero =>
     intro listed lo up I ρ a wL w' cy bl ao ph G aj ag ba bt J inv;have U:∀ i,i<ops.size->listed.getD i false=true:=fun i hi=>by
      have:=uM bl i (by simpa [cy]using hi);have L:listed[i]? = some true:=by simpa using this
      simp[B1,L]
     refine⟨?_,done listed lo up I ρ a wL w' U ph G aj J inv⟩;rw[U8];intro j hj;obtain⟨h1,o,L,_⟩:=mem_ready.1 hj;have az:j<ops.size:=(B7.1 L).1;have h3:=U j az;have bc:j<listed.size:=A6;simp[B1,bc]at h1 h3;rw[h1]at h3;cases h3
   | succ fuel ih =>
     intro listed lo up I ρ a wL w' cy bl ao ph G aj ag ba bt J inv;refine⟨fun ds=>?_,fun i hi=>?_⟩
     ·
      have key:∀ n i,i<n->i<ops.size->listed.getD i false=true:=by
       intro n;induction n with
       | zero=>intro i h;omega
       | succ n bp =>
         intro i dk bo;by_cases h:i<n
         .exact bp i h bo
         .cases T:listed.getD i false with
          | true=>rfl
          | false =>
            exfalso;obtain⟨o,y⟩:=O0 (ops:=ops) bo;have bh:i ∈ Region.ready .any ops listed:=mem_ready.2 ⟨by
             have bc:i<listed.size:=A6;simp[B1,bc]at T ⊢;exact T,o,y,fun e he hb=>by
             have az:=cp i o y e (by simpa using he) hb;exact bp e.on A6 A6⟩
            rw[ds]at bh;cases bh
      exact done listed lo up I ρ a wL w' (fun i hi=>key (i+1) i (H9 i) hi) ph G aj J inv
     .obtain⟨h1,o,y,L⟩:=mem_ready.1 hi;have bo:i<ops.size:=(B7.1 y).1;have ah:i<listed.size:=A6;have W:listed.getD i false=false:=by
       simp[B1,ah]at h1 ⊢;exact h1
      have u:∀ k,k≠i->(listed.setIfInBounds i true).getD k false=listed.getD k false:=fun k hk=>by
       simp only[B1,D1];rw[B0 (fun e=>hk e.symm)]
      have E:(listed.setIfInBounds i true).getD i false=true:=by
       simp[B1,D1,ah]
      have hr:∀ e ∈ o.after.toList,Region.binds .any e=true->listed.getD e.on false=true:=fun e he hb=>L e (by simpa using he) hb
      have bj:(listed.setIfInBounds i true).size=ops.size:=by simpa using cy
      have aa:(listed.setIfInBounds i true).toList.countP (fun b=>!b)=fuel:=by
       have hg:listed.toList[i]? = some false:=by
        simp[B1,ah]at W;simp[ah,W]
       have:=pT listed.toList i hg;rw[dF];omega
      have bm:jP ops.toList (fun k=>(listed.setIfInBounds i true).getD k false=true):=by
       intro k o' bf hk e he hb;by_cases e1:e.on=i
       .rw[e1];exact E
       .show(listed.setIfInBounds i true).getD e.on false=true;rw[u e.on e1];by_cases e2:k=i
        .subst e2;have:ops.toList[k]? = some o:=Q5 y;rw[this]at bf;cases bf;exact hr e he hb
        .have hk:(listed.setIfInBounds i true).getD k false=true:=hk;rw[u k e2]at hk;exact ao k o' bf hk e he hb
      have ad:∀ k,k ∈ (X6 ops.toList []).getD i []->listed.getD k false=true:=fun k hk=>vD ao (fun i o y=>by
        have:=(eR _ 0 g.ok i o y).1;rw[E1]at this;exact cX this) (i+1) i k o (H9 i) (Q5 y) hr hk
      have az:∀ k,listed.getD k false=true->k<ops.size:=fun k hk=>by
       rcases F5 k ops.size with h|h
       .exact h
       .have N:listed[k]? = none:=Array.getElem?_eq_none_iff.2 A6;rw[B1,N]at hk;cases hk
      have ai:At P base gl I (M lo) (M up).hi wL:=ag.less (A up ops.size ph.sz (A7 _)).1;have go:∀ (ρ':Ren) (a':Act) (C:World),(up<=i->t7 o.op=true)->Inv z P base gl nt ops F M V lo up I wL (fun k=>(listed.setIfInBounds i true).getD k false) ρ' a' C->eA P z.rd .any ops Q fuel (listed.setIfInBounds i true) a' C:=fun ρ' a' C T aw =>
       ih (listed.setIfInBounds i true) lo up I ρ' a' wL C bj aa bm ph G aj ag (fun q T N=>ba q T (by
        by_cases e:q.1=i
        .rw[e,E]at N;cases N
        .rw[u _ e]at N;exact N)) (fun k hk N=>by
        by_cases e:k=i
        .subst e;rw[E]at N;cases N
        .rw[u k e]at N;exact bt k hk N) (fun k p hk hp Z=>by
        by_cases e:k=i
        .subst e;rw[y]at hp;cases hp;exact T hk
        .rw[u k e]at Z;exact J k p hk hp Z) aw
      have quiet:∀ r,(up<=i->t7 o.op=true)->bS nt ops.toList (U9 P call o) ((X6 ops.toList []).getD i []) (R i) (F i) o (M i) (M (i+1)) (V i) r->(∀ b ab,r=some (b,ab)->GD M lo up (fun k=>listed.getD k false) b=some ab)->m9 P z.rd ops Q i (fun a' C=>eA P z.rd .any ops Q fuel (listed.setIfInBounds i true) a' C) a w':=fun r T S du =>
       g.quiet O ai (al (i+1) A6) ak.le inv ao az y W hr u E S du fun ρ' a' C aw=>go ρ' a' C T aw
      rcases F5 i lo with af|af
      ·
       obtain⟨q,cu,cq⟩:=bt i af W;obtain⟨_,_,p,hp,S⟩:=g.inX lo (by have:=ph.sz;have:=ph.le;omega) q cu;rw[cq]at hp S;rw[y]at hp;cases hp;refine quiet q.2 (fun h=>by have:=ph.le;omega) S fun b ab hb=>?_
       refine g.old (z:=z) ph ai ?_
       have:=ba q cu (by rw[cq];exact W);rw[hb]at this;exact this
      .rcases F5 i up with cw|cw
       ·
        by_cases hex:∃ r,bS nt ops.toList (U9 P call o) ((X6 ops.toList []).getD i []) (R i) (F i) o (M i) (M (i+1)) (V i) r
        .obtain⟨r,S⟩:=hex;refine quiet r (fun h=>by omega) S fun b ab hb=>?_
         rcases S with⟨_,_,_,_,dq⟩|⟨lg,dn,hw,T,hm,dt⟩
         .rw[dq]at hb;cases hb
         .obtain⟨mv,m',bb,_⟩:=iI T;obtain⟨h3,h4⟩:=(oU bb).2.2.2.2.2 b ab (dt.symm.trans hb);obtain⟨h5,h6⟩:=tY h3;exact g.see (z:=z) (a:=a) (ρ:=ρ) (w:=w') ph ai ao af cw y hr b h6 _ h5 h4
        .exact g.step ph O ai (al up ph.sz) ak.le inv ao az af cw y W hr u E hex fun ρ' a' C aw=>go ρ' a' C (fun h=>by omega) aw
       .obtain⟨os,bu,ay⟩:=G A6;rcases F5 up i with dw|dm
        ·
         have hk:t7 o.op=true:=by
          rcases GV (g.sb up os bu ay) i o dw y with h|h
          .have h3:=J up os (A7 _) bu (ad up h);rw[zM (g.sb up os bu ay)]at h3;cases h3
          .exact h
         exact quiet none (fun _=>hk) (g.kind y hk) fun b ab hb=>by cases hb
        ·
         have cn:i=up:=A6;subst cn;rw[y]at bu;cases bu;have ae:∀ k,k<i->listed.getD k false=false->∃ q ∈ X i,q.1=k:=fun k hk N=>by
          rcases GW (g.sb i o y ay) k hk with h|h
          .rw[ad k h]at N;cases N
          .exact h
         have q2:=g.heap ph (fun k _ hk N=>by
          obtain⟨q,T,e⟩:=ae k hk N;obtain⟨_,_,p,hp,S⟩:=g.inX i A6 q T;rw[e]at S;exact xC S) inv
         have st1:St P base au ρ (M 0) (M i) w1 w':=St.trans (Y.less (A i ops.size A6 (A7 _)).1) aj q2;have ax:At P base gl ρ (M i) (M ops.size).hi w':=ag.step q2;obtain⟨d1,d2,d3,bn⟩:=g.st i o y;have bx:∀ t,t ∈ T7 ops.toList o->t<nt->VR ρ ((F i).get t) (a.tmps.getD t undef):=fun t ht cf=>by
          rw[<- g.look ak.le ao az y W hr ht cf];exact inv.frm t cf
         have dx:FR ρ (F i) a.eval o.op:=fun x hx=>by
          have bz:okX nt gl x=true:=D3.1 d2 x hx;cases x with
          | tmp t=>exact bx t (sN hx rfl) (A1 bz)
          | const v=>exact VR.ofC bz
          | global gg=>exact VR.ptr (o:=0) (ax.gr gg (A1 bz))
          | func f=>exact .func (a:=[]) (b:=[]) (a':=[]) (b':=[]) rfl rfl (fun i v v' h=>by simp at h) (fun i v v' h=>by simp at h)
         have bg:∀ lg b,x7 nt (F i) (M i).lg ops.toList o=some (b,lg)->Sat lg->Region.wanted o (yielded ops a.tmps)=b:=fun lg b hw cz=>by
          unfold x7 at hw;split at hw
          .rename_i hg;cases hw;simp[Region.wanted,hg]
          .rename_i j want hg;split at hw
           .rename_i p hp;split at hw
            .rename_i t ht;obtain⟨h1,L⟩:=A2 hw;have h1:t<nt:=A1 h1;have hv:=bx t (by
              unfold T7;refine B4.2 (.inr (B4.2 (.inr ?_)));simp[hg,hp,ht]) h1
             exact jV hg hp ht (by rw[inv.tsz];exact h1) (mL L hv cz)
            .cases hw
           .cases hw
         have bq:∀ (ρ':Ren) (v':Value),(∀ b l,ρ b=some l->ρ' b=some l)->VR ρ' (V i) v'->∀ t,t<nt->VR ρ' (v6 (fun k=>(listed.setIfInBounds i true).getD k false) (fun k=>(ops[k]?).bind (·.dst)) V (F 0).get t ops.size) ((a.put o.dst v').tmps.getD t undef):=fun ρ' v' he hv t ht=>by
          by_cases hd:o.dst=some t
          .have an:∀ k,i<k->k<ops.size->(ops[k]?).bind (·.dst)=some t->listed.getD k false=false:=fun k dp hk cd=>by
            obtain⟨p,hp⟩:=O0 (ops:=ops) hk;rw[hp]at cd
            have:=g.slot ao az y W hr (t:=t) (by unfold T7;simp[hd]) k p hp A6 cd;cases T:listed.getD k false with
            | false=>rfl
            | true=>have:=this.1 T;omega
           rw[nW (D:=fun k=>listed.getD k false) u E ops.size bo (by simp[y,hd]) an];simp only[hd,Act.put,B1];rw[D1,B2 rfl,B2 (by rw[inv.tsz];exact ht)];exact hv
          .rw[lS (D:=fun k=>listed.getD k false) u (by simp[y];exact hd)];have h1:=(inv.frm t ht).mono he;cases cj:o.dst with
           | none=>exact h1
           | some d =>
             have ca:d≠t:=fun e=>hd (e▸cj)
             simp only[Act.put,B1]at h1 ⊢;rw[D1,B0 ca];exact h1
         have hX:X (i+1)=X i/\SM ((X6 ops.toList []).getD i []) (M (i+1)).H (X i)=true:=by
          rcases g.qs i o y with⟨_,h3,h4⟩|⟨h3,_⟩|⟨h3,_⟩
          .exact⟨h3,h4⟩
          .rw[ay]at h3;cases h3
          .rw[ay]at h3;cases h3
         have an:∀ (ρ':Ren) (v':Value) (C:World),VR ρ' (V i) v'->St P base ρ ρ' (M i) (M (i+1)) w' C->eA P z.rd .any ops Q fuel (listed.setIfInBounds i true) (a.put o.dst v') C:=fun ρ' v' C hv st2=>by
          obtain⟨dr,u1,u2,u3,u4⟩:=oZ ops B (ops.size-(i+1)) (i+1) A6;have bk:=ax.step st2;refine ih (listed.setIfInBounds i true) (i+1) dr ρ' ρ' _ C C bj aa bm ⟨u1,u2,bk.nh,u3⟩ u4 (St.trans (Y.less (A (i+1) ops.size A6 (A7 _)).1) st1 st2) bk (fun q T N=>?_) (fun k hk N=>?_) (fun k p hk hp Z=>?_)
           (g.fresh (fun k hk Z=>?_) st2.hr ?_ ?_ (bq ρ' v' st2.ext hv))
          .rw[hX.1]at T;have h5:=D3.1 hX.2 q T;rcases G0 _ _▸h5 with h5|h5
           .exfalso;have h6:=ad q.1 (U3.1 h5);by_cases e:q.1=i
            .rw[e,W]at h6;cases h6
            .rw[u _ e,h6]at N;cases N
           .exact h5
          .rw[hX.1];by_cases e:k=i
           .subst e;rw[E]at N;cases N
           .rw[u k e]at N;exact ae k A6 N
          .rw[u k A6]at Z;exact J k p A6 hp Z
          .have Z:(listed.setIfInBounds i true).getD k false=true:=Z;rw[u k A6]at Z;obtain⟨p,hp⟩:=O0 (ops:=ops) (az k Z);exact xC (g.kind hp (J k p A6 hp Z))
          .cases cj:o.dst<;>simp[Act.put,inv.tsz]
          .rw[cL];exact inv.dfr.congr st2.ext fun _=>⟨rfl,rfl⟩
         unfold m9;simp only[y];rcases bn with⟨K,_⟩|⟨K,_⟩|⟨_,lg,hw,bw,cb⟩|⟨K,_⟩
         .rw[ay]at K;cases K
         .rw[ay]at K;cases K
         .have cc:=al (i+1) A6;have cz:Sat lg:=N0.le cc (by have:=s5 O bw;rw[Z4]at this;exact this);rw[bg lg true hw cz];simp only[if_true];have cg:At P base gl ρ ((M i).wLg lg) (M (i+1)).hi w':=(ax.wLg lg).less (A (i+1) ops.size A6 (A7 _)).1;refine mT O bw cc cg dx fun v' ρ' C hv st2=>an ρ' v' C hv ?_
          have cm:=St.wLg (m:=M i) ax.hr lg;exact St.trans (by have:=ax.fr;exact this.less (A (i+1) ops.size A6 (A7 _)).1) cm st2
         .rw[ay]at K;cases K
  obtain⟨up,u1,u2,u3,u4⟩:=oZ ops B ops.size 0 A6;have br:∀ k,(Array.replicate ops.size false).getD k false=false:=fun k=>by
   simp only[B1,T6];split<;>simp
  refine main ops.size _ 0 up au au a0 w1 w1 (by simp) (by simp[List.countP_replicate]) (fun k o y hk=>by have hk:(Array.replicate ops.size false).getD k false=true:=hk;rw[br k]at hk;cases hk) ⟨u1,u2,aq.nh,u3⟩ u4 (St.refl aq.hr) aq (fun q T=>by rw[g.x0]at T;cases T) (fun k hk=>by omega) (fun k o hk y Z=>by rw[br k]at Z;cases Z)
   (g.fresh (fun k _ Z=>by have Z:(Array.replicate ops.size false).getD k false=true:=Z;rw[br k]at Z;cases Z) aq.hr ak.size (by rw[f1];exact ak.zr) fun t ht=>?_)
  have h0:∀ n,v6 (fun k=>(Array.replicate ops.size false).getD k false) (fun k=>(ops[k]?).bind (·.dst)) V (F 0).get t n=(F 0).get t:=by
   intro n;induction n with
   | zero=>rfl
   | succ n bp=>rw[v6,B0 (fun hh=>by rw[br n]at hh;exact absurd hh.1 (by simp)),bp]
  rw[h0,f1];exact ak.get t ht
end
end
section
open Go
variable [Ora]
section
variable {P:Program} {base gl:Nat}
def rV{f:FuncId}{e:R3->Sem Value}{args:R3}{w w':World}{v:Value}(i:P.funcs[f]? = some fn)(b:(fn.name == "runtime.NumGoroutine")=false)(d:fn.body=none)(g:Extern.findNext fn=none)(he:Extern.find fn=some e)
  (hr:(e args).run P w=.ok v w'):(callFunc f args).run P w=.ok (.value v) w':=by
 have a:fn.name ≠ "runtime.NumGoroutine":=by simpa using b
 simp[callFunc,A4,run_program,Result.andThen,i,a,d,g,he,mark,Sem.run,hr]
def jC{k:EK}{vs:D0}{v:Value}(h:lV k vs m=some (v,m')) :
  (k=.noEscape/\vs=[v]/\m'=m) ∨
  (k=.indexByteString/\∃ s c,vs=[.string s,.int .u8 (.ofNat c)]/\v=.int .i64 (pK s.data.toList (UInt8.ofNat c) 0)/\m'=m) ∨
  (k=.countString/\∃ s c,vs=[.string s,.int .u8 (.ofNat c)]/\v=.int .i64 (pU (UInt8.ofNat c) s.data.toList 0)/\m'=m) ∨
  (∃ e n,k=.makeNoZero e/\vs=[.int .i64 (.ofNat n)]/\n<=1000000000/\Y0 m (.cells [] e false) (fun b=>.slice (some ⟨b,0,none⟩) n L7)=some (v,m')):=by
 unfold lV at h;split at h
 .cases h;exact .inl ⟨rfl,rfl,rfl⟩
 .cases h;exact .inr (.inl ⟨rfl,_,_,rfl,rfl,rfl⟩)
 .cases h;exact .inr (.inr (.inl ⟨rfl,_,_,rfl,rfl,rfl⟩))
 .obtain⟨h1,h⟩:=A2 h;exact .inr (.inr (.inr ⟨_,_,rfl,rfl,A1 h1,h⟩))
 .cases h
def rW{k:EK}{vs:D0}{v:Value}(h:(FnC.mk (lV k)).run vs m=some (v,m')):m.lg.le m'.lg:=by
 have h:lV k vs m=some (v,m'):=h;rcases jC h with⟨_,_,rfl⟩|⟨_,_,_,_,_,rfl⟩|⟨_,_,_,_,_,rfl⟩|⟨_,_,_,_,_,h⟩
 .exact .refl _
 .exact .refl _
 .exact .refl _
 .obtain⟨_,_,rfl⟩:=K5 h;exact .refl _
def DT{f:FuncId}(j:P.funcs[f]? = some fn)(b:(fn.name == "runtime.NumGoroutine")=false)(i:fn.body=none)(e:Extern.findNext fn=none)(he:Extern.find fn=some Extern.AbiNoEscape.same):hY P base gl f ⟨lV .noEscape⟩:=by
 refine⟨fun vs m m' v hr=>rW hr,?_⟩;intro ρ m m' w vs vs' v hr l a g;have hr:lV .noEscape vs m=some (v,m'):=hr;rcases jC hr with⟨_,rfl,rfl⟩|⟨h,_⟩|⟨h,_⟩|⟨_,_,h,_⟩
 .obtain⟨v',k,rfl,h1,d⟩:=g.tail;cases d.nil_inv;exact .inr ⟨v',ρ,w,rV j b i e he rfl,h1,.refl a.hr⟩
 .cases h
 .cases h
 .cases h
def xS(c:UInt8):∀ (l:List UInt8) (k:Nat),pK l c k=if Lib.indexByte l c == -1 then -1 else Lib.indexByte l c+k
 | [],k=>rfl
 | x::r,k=>by
   have f:=Lib.indexByte_ge r c;have b:=xS c r (k+1);rw[pK,Lib.indexByte];by_cases e:x=c
   .subst e;simp
   .have d:(x == c)=false:=by simpa using e
    simp only[d,L9 e,D4];rw[b];by_cases h:Lib.indexByte r c = -1
    .simp[h]
    .have a:(Lib.indexByte r c == -1)=false:=by simpa using h
     have h3:(Lib.indexByte r c+1 == -1)=false:=by simp;omega
     simp only[a,h3,G4,if_false];omega
def ID(c:UInt8)(l:List UInt8):pK l c 0=Lib.indexByte l c:=by
 rw[xS];by_cases h:Lib.indexByte l c = -1
 .simp[h]
 .have a:(Lib.indexByte l c == -1)=false:=by simpa using h
  simp[a]
def lX(c:UInt8):∀ (l:List UInt8) (n:Nat),pU c l n=n+l.count c
 | [],n=>rfl
 | x::r,n=>by
   rw[pU,List.count_cons];by_cases e:x=c
   .subst e;simp only[decide_true,D9,E6,beq_self_eq_true,if_true];rw[lX x r (n+1)];omega
   .have a:(x == c)=false:=by simpa using e
    simp only[L9 e,D4,a,G4,if_false];rw[lX c r n];omega
def AM{f:FuncId}(k:P.funcs[f]? = some fn)(b:(fn.name == "runtime.NumGoroutine")=false)(j:fn.body=none)(g:Extern.findNext fn=none)(he:Extern.find fn=some Extern.BytealgIndexByte.indexByte):hY P base gl f ⟨lV .indexByteString⟩:=by
 refine⟨fun vs m m' v hr=>rW hr,?_⟩;intro ρ m m' w vs vs' v hr l a i;have hr:lV .indexByteString vs m=some (v,m'):=hr;rcases jC hr with⟨h,_⟩|⟨_,s,c,rfl,rfl,rfl⟩|⟨h,_⟩|⟨_,_,h,_⟩
 .cases h
 .obtain⟨v1,r1,rfl,h1,d⟩:=i.tail;obtain⟨v2,r2,rfl,h3,e⟩:=d.tail;cases e.nil_inv;cases S3 h1;cases I2 h3;refine .inr ⟨_,ρ,w,rV k b j g he (Lib.run_indexByteString s (.ofNat c) w),?_,.refl a.hr⟩;rw[ID];exact .pure rfl
 .cases h
 .cases h
def uN{f:FuncId}(k:P.funcs[f]? = some fn)(b:(fn.name == "runtime.NumGoroutine")=false)(j:fn.body=none)(g:Extern.findNext fn=none)(he:Extern.find fn=some Extern.BytealgCount.count):hY P base gl f ⟨lV .countString⟩:=by
 refine⟨fun vs m m' v hr=>rW hr,?_⟩;intro ρ m m' w vs vs' v hr l a i;have hr:lV .countString vs m=some (v,m'):=hr;rcases jC hr with⟨h,_⟩|⟨h,_⟩|⟨_,s,c,rfl,rfl,rfl⟩|⟨_,_,h,_⟩
 .cases h
 .cases h
 .obtain⟨v1,r1,rfl,h1,d⟩:=i.tail;obtain⟨v2,r2,rfl,h3,e⟩:=d.tail;cases e.nil_inv;cases S3 h1;cases I2 h3;refine .inr ⟨_,ρ,w,rV k b j g he (Lib.run_countString s (.ofNat c) w),?_,.refl a.hr⟩;rw[lX,E1];exact .pure rfl
 .cases h
def vW{f:FuncId}{ps:Array TypeId}{t e:TypeId}(z:P.funcs[f]? = some fn)(j:(fn.name == "runtime.NumGoroutine")=false)(q:fn.body=none)(k:Extern.findNext fn=none)(he:Extern.find fn=some (Extern.BytealgMakeNoZero.makeNoZero ps #[t]))
  (hu:P.underlying t=some (.slice e)) (hi:(P.info? e).map (·.size)=some 1):hY P base gl f ⟨lV (.makeNoZero e)⟩:=by
 refine⟨fun vs m m' v hr=>rW hr,?_⟩;intro ρ m m' w vs vs' v hr A a p;have hr:lV (.makeNoZero e) vs m=some (v,m'):=hr;rcases jC hr with⟨h,_⟩|⟨h,_⟩|⟨h,_⟩|⟨e',n,h,rfl,x,hr⟩
 .cases h
 .cases h
 .cases h
 .cases h;obtain⟨v1,r1,rfl,h1,g⟩:=p.tail;cases g.nil_inv;cases I2 h1;obtain⟨cs,d,hle,_⟩:=Lib.run_makeNoZero (P:=P) w ps t e hu n A6;obtain⟨y,s,l⟩:=bU (wd:=w.drew.drew) (fz:=(0,0)) (cap:=cs.size) (C:=cs) (cs':=[]) a.hr a.bs hr a.fr (.nil) (fun i u hi=>by simp at hi) NF.zero
   (fun inf g=>by rw[g]at hi;have hi:some inf.size=some 1:=hi;have hi:=A5 hi;rw[hi];omega) ⟨rfl,rfl,rfl⟩ rfl
  refine .inr ⟨_,_,_,rV z j q k he d,?_,l⟩;rw[y]
  have:=VR.op (ρ:=upd ρ m.n (lc w.heap.size 0 cs.size)) (b:=m.n) (o:=0) (n:=n) (m:=L7) (m':=cs.size) s (A7 _) hle (fun _ _=>rfl)
  simpa using this
end
end
section
open Go
variable [Ora]
structure vG (P:Program) (f:FuncId) (k:EK):Prop where
 row:∃ fn,P.funcs[f]? = some fn/\(fn.name == "runtime.NumGoroutine")=false/\fn.body=none/\Extern.findNext fn=none /\
  ((k=.noEscape/\Extern.find fn=some Extern.AbiNoEscape.same)∨(k=.indexByteString/\Extern.find fn=some Extern.BytealgIndexByte.indexByte)∨(k=.countString/\Extern.find fn=some Extern.BytealgCount.count) ∨
    (∃ e ps t,k=.makeNoZero e/\Extern.find fn=some (Extern.BytealgMakeNoZero.makeNoZero ps #[t])/\P.underlying t=some (.slice e)/\(P.info? e).map (·.size)=some 1))
def vG.ok{P:Program}{f:FuncId}{k:EK}{base gl:Nat}(h:vG P f k):hY P base gl f ⟨lV k⟩:=by
 obtain⟨fn,h1,b,h3,d,a⟩:=h.row;rcases a with⟨rfl,a⟩|⟨rfl,a⟩|⟨rfl,a⟩|⟨e,ps,t,rfl,a,i,g⟩
 .exact DT h1 b h3 d a
 .exact AM h1 b h3 d a
 .exact uN h1 b h3 d a
 .exact vW h1 b h3 d a i g
def yB:∀ {l:List (FuncId×EK)} {f:FuncId} {k:EK},FC l f=some k->(f,k) ∈ l
 | (g,j)::r,f,k,h=>by
   rw[FC]at h;cases e:Nat.beq g f with
   | true =>
     rw[e]at h;cases h;rw[A0 e];exact .head _
   | false =>
     rw[e]at h;exact .tail _ (yB h)
theorem ZC{P:Program}{ext:List (FuncId×EK)}{gl base:Nat}{con:FuncId->Option FnC}{lp:FuncId->LpT}(hm:P.follows .mixedOrders=true)(a:BP P)(he:∀ p ∈ ext,vG P p.1 p.2)
  (b:∀ f c,con f=some c->hY P base gl f c) (d:∀ f fn body,P.funcs[f]? = some fn->fn.body=some body->GA P base gl fn.ntmps body (lp f)) :
  ZT ⟨P,ext,gl,con,lp⟩ base :=
 { names:=a,ext:=fun f k fn _ _ h=>(he _ (yB h)).ok,con:=b,lp:=d,draws:=fun _ h=>TS hm h }
end
section
open Go
inductive Sh where
 | s (t:Nat)
 | a (ts:List Nat)
def MN(t:Nat)(u:U):O8:=if F3 u=t then toV u else none
def WS:G6->List U->Option (D0×List U)
 | [],us=>some ([],us)
 | t::ts,u::us=>match MN t u,WS ts us with
   | some v,some (vs,r)=>some (v::vs,r)
   | _,_=>none
 | _::_,[]=>none
def ZV:Sh->List U->Option (Value×List U)
 | .s t,u::us=>match MN t u with
   | some v=>some (v,us)
   | none=>none
 | .s _,[]=>none
 | .a ts,us=>match WS ts us with
   | some (vs,r)=>some (.agg ⟨vs⟩,r)
   | none=>none
def A08:List Sh->List U->Option D0
 | [],[]=>some []
 | [],_::_=>none
 | h::hs,us=>match ZV h us with
   | some (v,r)=>match A08 hs r with
     | some vs=>some (v::vs)
     | none=>none
   | none=>none
def tup:D0->Value
 | [v]=>v
 | vs=>.tuple ⟨vs⟩
structure oO (w w':World):Prop where
 os:w'.os=w.os/\w'.tape=w.tape/\w'.output=w.output
 size:w.heap.size<=w'.heap.size
 keep:∀ k,k<w.heap.size->w'.heap[k]? = w.heap[k]?
def GOk(G:Nat->Option Obj)(w:World):Prop:=∀ k o,G k=some o->w.heap[k]? = some o
def GOk.lt{G:Nat->Option Obj}{w:World}(h:GOk G w){k:Nat}{o:Obj}(hk:G k=some o):k<w.heap.size:=by
 have:=h k o hk;rcases F5 k w.heap.size with h1|h1
 .exact h1
 .rw[Array.getElem?_eq_none h1]at this;cases this
abbrev Z1:=List U->Option (Nat×List U)
def Sh.tags:Sh->G6
 | .s t=>[t]
 | .a ts=>ts
def wP:List Sh->G6
 | []=>[]
 | s::ss=>s.tags++wP ss
def Sh.n(s:Sh):Nat:=s.tags.length
def shN:List Sh->Nat
 | []=>0
 | h::hs=>h.n+shN hs
def jH(a:List Sh):Bool:=(wP a).any (Nat.ble 10)
inductive ShR (R:Nat->Option Obj):Sh->List U->Value->Prop
 | s {t u v} (h:Enc R u v) (ht:F3 u=t):ShR R (.s t) [u] v
 | a {ts us cs} (h:Y3 R us cs) (ht:us.map F3=ts):ShR R (.a ts) us (.agg ⟨cs⟩)
inductive ShL (R:Nat->Option Obj):List Sh->List U->D0->Prop
 | nil:ShL R [] [] []
 | cons {s ss us us2 v vs} (h:ShR R s us v) (k:ShL R ss us2 vs):ShL R (s::ss) (us++us2) (v::vs)
def Y3.append{R:Nat->Option Obj}{us b:List U}{vs:D0}(h:Y3 R us vs)(k:Y3 R b vs2):Y3 R (us++b) (vs++vs2):=by
 refine⟨by simp[h.1,k.1],fun i u v h1 d=>?_⟩;rcases F5 i us.length with a|a
 .rw[E8 a]at h1;rw[E8 (h.1▸a)]at d;exact h.2 i u v h1 d
 .rw[D6 a]at h1;rw[D6 (h.1▸a),<- h.1]at d;exact k.2 _ u v h1 d
def Y3.split{R:Nat->Option Obj}:∀ {vs vs2:D0} {us:List U},Y3 R us (vs++vs2)->∃ a b,us=a++b/\Y3 R a vs/\Y3 R b vs2
 | [],vs2,us,h=>⟨[],us,rfl,.nil,h⟩
 | v::vs,vs2,[],h=>by have:=h.1;simp at this
 | v::vs,vs2,u::us,h=>by
   obtain⟨a,b,rfl,h1,d⟩:=Y3.split (vs:=vs) (vs2:=vs2) (us:=us) ⟨by have:=h.1;simpa using this,fun i x y e a2=>h.2 (i+1) x y (by simpa using e) (by simpa using a2)⟩;exact⟨u::a,b,rfl,.cons (h.2 0 u v rfl rfl) h1,d⟩
def Y3.mono{R d:Nat->Option Obj}{us:List U}{vs:D0}(h:Y3 R us vs)(k:Sub R d):Y3 d us vs:=⟨h.1,fun i u v a b=>(h.2 i u v a b).mono k⟩
def TP{R:Nat->Option Obj}{us:List U}{vs:D0}(h:Y3 R us vs)(b:vs2.length=us.length)(k:∀ (i:Nat) (u:U) (v:Value),us[i]? = some u->vs2[i]? = some v->toV u=some v):vs=vs2:=by
 refine X5 fun i=>?_
 rcases F5 i us.length with hi|hi
 .have h1:us[i]? = some us[i]:=A3 hi;have a:vs[i]? = some (vs[i]'(h.1▸hi)):=A3 _;have h3:vs2[i]? = some (vs2[i]'(b▸hi)):=A3 _;rw[a,h3,kQ (h.2 i _ _ h1 a) (k i _ _ h1 h3)]
 .rw[L5 (by rw[<- h.1];exact hi),L5 (by rw[b];exact hi)]
def BY:∀ {ts:G6} {us r:List U} {vs:D0},WS ts us=some (vs,r)->∃ a,us=a++r/\vs.length=a.length/\a.length=ts.length/\∀ (i:Nat) (u:U) (v:Value),a[i]? = some u->vs[i]? = some v->toV u=some v
 | [],us,r,vs,h=>by cases h;exact⟨[],rfl,rfl,rfl,fun i u v h=>by simp at h⟩
 | t::ts,u::us,r,vs,h=>by
   unfold WS at h;split at h
   .rename_i v g k h1 d;cases h;obtain⟨a,rfl,j,f,e⟩:=BY d;unfold MN at h1;split at h1
    .refine⟨u::a,rfl,by simp[j],by simp[f],fun i x y b a2=>?_⟩;cases i with
     | zero=>simp at b a2;subst b;subst a2;exact h1
     | succ i=>exact e i x y (by simpa using b) (by simpa using a2)
    .cases h1
   .cases h
 | _::_,[],_,_,h=>by cases h
def lJ{R:Nat->Option Obj}:∀ {j:List Sh} {us:List U} {vs vs2:D0},ShL R j us vs->A08 j us=some vs2->vs=vs2
 | [],us,vs,vs2,h,k=>by cases h;cases k;rfl
 | s::j,us,vs,vs2,h,k=>by
   cases h with
   | cons h1 l =>
     rename_i f d v vs;unfold A08 at k;split at k
     .rename_i v1 r g;split at k
      .rename_i A n;cases k;have o:f++d=f++d:=rfl;cases h1 with
       | s he i =>
         rename_i t u;have b:(match MN t u with|some v=>some (v,d)|none=>none)=some (v1,r):=g;cases e:MN t u with
         | none=>rw[e]at b;cases b
         | some w =>
           rw[e]at b;cases b;unfold MN at e;rw[B2 i]at e;rw[kQ he e,lJ l n]
       | a he i =>
         rename_i ts cs;simp only[ZV]at g;split at g
         .rename_i z D p;cases g;obtain⟨a,C,y,q,x⟩:=BY p;have hlen:a.length=f.length:=by rw[q,<- i];simp
          obtain⟨rfl,rfl⟩:=List.append_inj C hlen.symm;rw[TP he y x,lJ l n]
         .cases g
      .cases k
     .cases k
def jO(P:Program)(G:Nat->Option Obj)(f:FuncId)(ps:List Sh)(spec:Z1)(rs:List Sh):Prop :=
 ∀ (us outs:List U) (w:World) (vs:List Value) (R:Nat->Option Obj),ShL R ps us vs->spec us=some (0,outs)->GOk G w->GOk R w ->
  (callFunc f ⟨vs⟩).run P w=.ok (.enter f ⟨vs⟩) w/\Calls P f ⟨vs⟩ w (fun e w'=>∃ r a,ShL a rs outs r/\e=.returned (tup r)/\oO w w'/\GOk a w'/\∀ k o,a k=some o->w.heap.size<=k∨∃ o',R k=some o')
def unA:List Sh->D0->Option D0
 | [],[]=>some []
 | .s _::ss,v::vs=>match unA ss vs with
   | some r=>some (v::r)
   | none=>none
 | .a ts::ss,.agg cs::vs=>bif Nat.beq cs.toList.length ts.length then match unA ss vs with
   | some r=>some (cs.toList++r)
   | none=>none else none
 | _,_=>none
def mQ(P:Program)(ps:List Sh)(vs:List Value)(m:Mem):Option (D0×Mem) :=
 match unA ps vs with
 | some cs=>match vJ (tdP P) (wP ps) cs m with
   | some (xs,[],m)=>some (xs,m)
   | some (xs,gs,m)=>match gO gs m with
     | some (_,m)=>some (xs,m)
     | none=>none
   | none=>none
 | none=>none
def KR(i t b:Nat):Value:=bif Nat.blt t 10 then hole i t else dat b i t
def OY:G6->Nat->Nat->D0
 | [],_,_=>[]
 | t::ts,i,b=>KR i t b::OY ts (i+1) b
def A07:Sh->Nat->Nat->Value
 | .s t,i,b=>KR i t b
 | .a ts,i,b=>.agg ⟨OY ts i b⟩
def sM:List Sh->Nat->Nat->D0
 | [],_,_=>[]
 | h::hs,i,b=>A07 h i b::sM hs (i+h.n) b
def NH(rs:List Sh)(nx:Nat)(m:Mem):Res :=
 bif jH rs then match eC m fun b m=>some (tup (sM rs nx b),b,m)with
  | some (v,_,m)=>some (v,m)
  | none=>none
 else some (tup (sM rs nx 0),m)
def A3o(m:Mem)(hi:Nat)(v:Value)(lg:Lg):Res :=
 match m with
 | ⟨H,n,W,_,_⟩=>some (v,⟨H,n,W,hi,lg⟩)
def ZF(P:Program)(ps:List Sh)(spec:Z1)(rs:List Sh):FnC:=⟨fun vs m =>
 match mQ P ps vs m with
 | some (xs,⟨H,n,W,hi,⟨nx,pi,log⟩⟩)=>I4 nx fun nx=>P5 xs fun xs=>I4 (nx+shN rs) fun a=>bif jH rs then NH rs nx ⟨H,n,W,hi,⟨a,pi,.con spec xs nx 0 (shN rs)::log⟩⟩else A3o m hi (tup (sM rs nx 0)) ⟨a,pi,.con spec xs nx 0 (shN rs)::log⟩
 | none=>none⟩
def LK{P:Program}{ps:List Sh}{spec:Z1}{rs:List Sh}{vs:D0}{v:Value}(h:(ZF P ps spec rs).run vs m=some (v,m')) :
  ∃ xs m1,mQ P ps vs m=some (xs,m1)/\((jH rs=true/\NH rs m1.lg.nx (m1.wLg ⟨m1.lg.nx+shN rs,m1.lg.pi,.con spec xs m1.lg.nx 0 (shN rs)::m1.lg.log⟩)=some (v,m'))∨(jH rs=false/\v=tup (sM rs m1.lg.nx 0)/\m'=⟨m.H,m.n,m.W,m1.hi,⟨m1.lg.nx+shN rs,m1.lg.pi,.con spec xs m1.lg.nx 0 (shN rs)::m1.lg.log⟩⟩)):=by
 unfold ZF at h;simp only at h;split at h
 .rename_i xs H n W hi nx pi log b;simp only[E6,H5]at h;refine⟨xs,_,b,?_⟩;cases a:jH rs with
  | true=>rw[a]at h;exact .inl ⟨rfl,h⟩
  | false =>
    rw[a]at h;obtain⟨i,g,f,e,d⟩:=m;cases h;exact .inr ⟨rfl,rfl,rfl⟩
 .cases h
variable [Ora]
def GI{ρ:Ren}:∀ {b:List Sh} {vs vs' cs:D0},unA b vs=some cs->LR ρ vs vs'->∃ cs',unA b vs'=some cs'/\LR ρ cs cs'
 | [],[],vs',cs,h,hl=>by cases h;rw[hl.nil_inv];exact⟨[],rfl,.nil⟩
 | [],_::_,_,_,h,_=>by cases h
 | .s t::b,[],_,_,h,_=>by cases h
 | .a t::b,[],_,_,h,_=>by cases h
 | .s t::b,v::vs,vs',cs,h,hl=>by
   obtain⟨v',k,rfl,h1,e⟩:=hl.tail;unfold unA at h;split at h
   .rename_i r hr;cases h;obtain⟨cs',g,f⟩:=GI hr e;exact⟨v'::cs',by simp[unA,g],.cons h1 f⟩
   .cases h
 | .a ts::b,v::vs,vs',cs,h,hl=>by
   obtain⟨v',k,rfl,h1,e⟩:=hl.tail;cases v with
   | agg c =>
     unfold unA at h;obtain⟨hlen,h⟩:=A2 h;split at h
     .rename_i r hr;cases h;obtain⟨cs',g,f⟩:=GI hr e;obtain⟨j,rfl,i⟩:=T8 h1;refine⟨j++cs',?_,i.append f⟩;have d:Nat.beq j.length ts.length=true:=by rw[<- i.1];exact hlen
      simp[unA,g,d]
     .cases h
   | _=>cases h
def bN{R:Nat->Option Obj}:∀ {e:List Sh} {vs cs:D0} {us:List U},unA e vs=some cs->Y3 R us cs->us.map F3=wP e->ShL R e us vs
 | [],[],cs,us,h,he,ht=>by
   cases h;have:us=[]:=D2.1 he.1;subst this;exact .nil
 | [],_::_,_,_,h,_,_=>by cases h
 | .s t::e,[],_,_,h,_,_=>by cases h
 | .a t::e,[],_,_,h,_,_=>by cases h
 | .s t::e,v::vs,cs,us,h,he,ht=>by
   unfold unA at h;split at h
   .rename_i r hr;cases h;obtain⟨a,b,rfl,d,f⟩:=Y3.split (vs:=[v]) (vs2:=r) he
    match a,d with
    | [u],d =>
      simp only[List.singleton_append,B9,wP,Sh.tags,Z2,P6,I3]at ht;exact .cons (.s (d.2 0 u v rfl rfl) ht.1) (bN hr f ht.2)
    | [],d=>have:=d.1;simp at this
    | _::_::_,d=>have:=d.1;simp at this
   .cases h
 | .a ts::e,v::vs,cs,us,h,he,ht=>by
   cases v with
   | agg c =>
     unfold unA at h;obtain⟨hlen,h⟩:=A2 h;have hlen:=A0 hlen;split at h
     .rename_i r hr;cases h;obtain⟨a,b,rfl,d,f⟩:=Y3.split he;simp only[N1,wP,Sh.tags]at ht;obtain⟨t1,t2⟩:=List.append_inj ht (by simp[d.1,hlen]);obtain⟨l⟩:=c;exact .cons (.a d t1) (bN hr f t2)
     .cases h
   | _=>cases h
section
variable {P:Program} {base gl:Nat}
def A4A(ρ:Ren)(m:Mem)(R:Nat->Option Obj):Prop:=∀ k o,R k=some o->∃ id ab l,id<=G9/\Hp.get m.H id=some ab/\ρ id=some l/\Tf ab l k/\ab.rw=false
def CC{ρ:Ren}{w:World}{ps:List Sh}{vs xs:D0}(h:HR P base ρ m.H w)(a:mQ P ps vs m=some (xs,m'))(f:I8 ρ m.n m'.hi)(D:LR ρ vs vs')(x:Sat m'.lg) :
  ∃ ρ' R,St P base ρ ρ' m m' w w/\m.lg.le m'.lg/\ShL R ps (xs.map (D5 Ora.env)) vs'/\GOk R w/\A4A ρ' m' R:=by
 unfold mQ at a;split at a
 .rename_i cs t;obtain⟨cs',C,A⟩:=GI t D;split at a
  .rename_i s m1 j;cases a;obtain⟨ρ',e,a2,a3,a4,a5,i⟩:=fD S9 h j f A x;exact⟨ρ',fun _=>none,e,a2,bN C (i _ fun b p=>by cases p) a5,(fun k o hk=>by cases hk),(fun k o hk=>by cases hk)⟩
  .rename_i s gs m1 j;split at a
   .rename_i g m2 z;cases a;have q:=M0 z;obtain⟨E,e,a2,a3,a4,a5,i⟩:=fD S9 h j (f.less q.1) A (by rw[<- q.2.1];exact x);obtain⟨ρ2,lg,v,L,K,u,y,J⟩:=cS e.hr z (f.step e);have d:=(v.hr.atl u y).1.2;exact⟨ρ2,lg.G,St.trans f e v,by rw[q.2.1];exact a2,bN C (i _ fun b p l I=>J b p l I) a5,d,fun k o hk=>⟨g,_,lg,v.hr.dom _ _ u,y,u,⟨rfl,.inr ⟨rfl,o,hk⟩⟩,rfl⟩⟩
   .cases a
  .cases a
 .cases a
def ES{ρ:Ren}{R:Nat->Option Obj}{i t b:Nat}{u:U}{v:Value}(h:Enc R u v)(j:F3 u=t)(he:Ora.env i=u)(k:10<=t->ρ b=some (hP R)):VR ρ (KR i t b) v:=by
 unfold KR;cases d:Nat.blt t 10 with
 | true =>
   have a:t<10:=A1 d;obtain⟨v1,g,_,_⟩:=JB (u:=u) A6
   have:=kQ h g;subst this;exact .hole (by rw[he];exact g) (by rw[he];exact j)
 | false =>
   have a:10<=t:=by
    rcases F5 t 10 with f|e
    .rw[show Nat.blt t 10=true from C6 f]at d;cases d
    .exact e
   exact .dat (k a) (by rw[he];exact h) (by rw[he];exact j) a (jG h)
def BX{ρ:Ren}{R:Nat->Option Obj}{b:Nat}:∀ {ts:G6} {us:List U} {cs:D0} {i:Nat},Y3 R us cs->us.map F3=ts->(∀ j u,us[j]? = some u->Ora.env (i+j)=u)->(∀ t ∈ ts,10<=t->ρ b=some (hP R))->LR ρ (OY ts i b) cs
 | [],us,cs,i,h,ht,he,hb=>by
   have:us=[]:=by cases us with|nil=>rfl|cons _ _=>simp at ht
   subst this;have:cs=[]:=D2.1 h.1.symm;subst this;exact .nil
 | t::ts,[],cs,i,h,ht,he,hb=>by simp at ht
 | t::ts,u::us,[],i,h,ht,he,hb=>by have:=h.1;simp at this
 | t::ts,u::us,c::cs,i,h,ht,he,hb=>by
   simp only[B9,I3]at ht;refine .cons (ES (h.2 0 u c rfl rfl) ht.1 (he 0 u rfl) (hb t (.head _))) (BX ⟨by have:=h.1;simpa using this,fun j x y f a2=>h.2 (j+1) x y (by simpa using f) (by simpa using a2)⟩ ht.2 (fun j x e=>?_) fun d a=>hb d (.tail _ a))
   have:=he (j+1) x (by simpa using e);rw[show i+1+j=i+(j+1) by omega];exact this
def mM{ρ:Ren}{R:Nat->Option Obj}{b:Nat}:∀ {g:List Sh} {us:List U} {vs:D0} {i:Nat},ShL R g us vs->(∀ j u,us[j]? = some u->Ora.env (i+j)=u)->(jH g=true->ρ b=some (hP R))->LR ρ (sM g i b) vs/\us.length=shN g
 | [],us,vs,i,h,he,hb=>by cases h;exact⟨.nil,rfl⟩
 | s::g,us,vs,i,h,he,hb=>by
   cases h with
   | cons h1 w =>
     rename_i f x v vs;have p:∀ t ∈ s.tags,10<=t->ρ b=some (hP R):=fun t d e=>hb (L1.2 ⟨t,B4.2 (.inl d),C6 e⟩)
     have o:jH g=true->ρ b=some (hP R):=fun y=>by
      obtain⟨t,d,e⟩:=L1.1 y;exact hb (L1.2 ⟨t,B4.2 (.inr d),e⟩)
     have q:f.length=s.n:=by
      cases h1 with
      | s _ _=>rfl
      | a _ d=>show _=List.length _;rw[<- d];simp[Sh.tags]
     obtain⟨g1,g2⟩:=mM (i:=i+s.n) w (fun j u l=>by
      have:=he (f.length+j) u (by rw[D6 A6,U6];exact l);rw[<- q,i5];exact this) o
     refine⟨.cons ?_ g1,by simp[shN,q,g2]⟩;have k:∀ j u,f[j]? = some u->Ora.env (i+j)=u:=fun j u l=>he j u (by rw[E8 (A9.1 l).1];exact l)
     cases h1 with
     | s h d=>exact ES h d (by have:=k 0 _ rfl;simpa using this) (p _ (.head _))
     | a h d =>
       have:=BX (b:=b) h d k p;exact .agg this.1 this.2
def zI{ρ:Ren}{vs:D0}(h:LR ρ vs vs'):VR ρ (tup vs) (tup vs'):=by
 match vs,vs',h with
 | [],vs',h=>rw[h.nil_inv];exact .tuple (a:=[]) (a':=[]) rfl (fun i v v' h1 _=>by simp at h1)
 | [v],vs',h =>
   obtain⟨v',d,rfl,h1,b⟩:=h.tail;cases b.nil_inv;exact h1
 | v::u::r,vs',h =>
   obtain⟨v',d,rfl,h1,b⟩:=h.tail;obtain⟨e,r2,rfl,h3,f⟩:=b.tail;exact .tuple h.1 h.2
def St.grown{ρ:Ren}{w w':World}(h:HR P base ρ m.H w)(g:oO w w'):St P base ρ ρ m m w w' :=
 ⟨fun _ _ h=>h,fun b l h1 a=>(by rw[h1]at a;cases a),A7 _,A7 _,fun h=>h,
  ⟨h.dom,fun id hid ab d=>by
    obtain⟨l,h1,a,h3⟩:=h.at_ id hid ab d;exact⟨l,h1,a.mono (fun _ _ h=>h) (fun k hk=>g.keep k (a.tc hk)),h3⟩⟩,
  fun _ h=>h,fun b h1 a=>absurd h1 a,fun k hk _=>g.keep k hk,g.size,g.os,fun b l h1 a=>(by rw[h1]at a;cases a),fun _ _ _ _=>rfl,fun _ h=>.inr h⟩
def St.grownLg{ρ:Ren}{w w':World}(h:HR P base ρ m.H w)(g:oO w w')(lg:Lg):St P base ρ ρ m (m.wLg lg) w w':=by
 obtain⟨H,n,W,hi,l⟩:=m;have r:=St.grown (m:=⟨H,n,W,hi,l⟩) h g;exact⟨r.ext,r.new,r.nle,r.hle,r.nhi,r.hr,r.wsub,r.wrw,r.keep,r.size,r.os,r.blk,r.same,r.tch⟩
def St.ret{ρ:Ren}{w w':World}{G:Nat->Option Obj}(h:HR P base ρ m.H w)(g:oO w w')(I:Y0 m .frz (fun _=>undef)=some (undef,m1))(N:I8 ρ m.n m1.hi)(K:GOk G w')
  (E:∀ k o,G k=some o->w.heap.size<=k∨∃ id ab l,id<=G9/\Hp.get m.H id=some ab/\ρ id=some l/\Tf ab l k/\ab.rw=false):upd ρ m.n (hP G) m.n=some (hP G)/\St P base ρ (upd ρ m.n (hP G)) m m1 w w':=by
 obtain⟨hle,_,rfl⟩:=K5 I;have t:ρ m.n=none:=N m.n (A7 _) (J7 _ _).2;have i:=V1 (l:=hP G) t;refine⟨K7 _ _ _,i,fun b q h1 f=>?_,by simp,(J7 _ _).1,fun _=>X3 (J7 _ _).2,⟨fun b q z=>?_,fun id hid a d=>?_⟩,fun b J=>J,fun b h1 f=>absurd h1 f,fun q z _=>g.keep q z,g.size,g.os,fun b q h1 f p=>?_,fun id hid h1 f=>?_,fun q ⟨id,a,l,hid,d,s,D⟩=>?_⟩
 .obtain⟨rfl,rfl⟩:=S0 h1 f;exact⟨A7 _,H9 _⟩
 .cases h0:ρ b with
  | some L=>exact h.dom b L h0
  | none=>obtain⟨rfl,rfl⟩:=S0 z h0;exact hle
 .rw[E9 _ _ _ _ hle hid]at d;by_cases e:id=m.n
  .rw[B2 e]at d;have d:=A5 d;subst d;subst e;exact⟨hP G,K7 _ _ _,⟨rfl,K⟩,fun _ p=>(by cases p)⟩
  .rw[B0 e]at d;obtain⟨l0,h1,f,h3⟩:=h.at_ id hid a d;refine⟨l0,i _ _ h1,f.mono i (fun k hk=>g.keep k (f.tc hk)),fun hr p=>⟨(h3 hr p).1,fun v j y l2 g1 g2 g3=>?_⟩⟩;rw[E9 _ _ _ _ hle j]at g1;by_cases A:v=m.n
   .subst A;rw[K7]at g2
    have:=A5 g2;subst this;rcases g3 with⟨_,g3,_⟩|⟨_,o,g3⟩
    .cases g3
    .rcases E _ o g3 with x|⟨u,a3,C,q1,q2,q3,q4,q5⟩
     .have:=f.tc (.inl ⟨AB.rw_on hr,p,rfl⟩);omega
     .have:=(h3 hr p).2 u q1 a3 C q2 q3 q4.2;subst this;rw[d]at q2;have q2:=A5 q2;subst q2;rw[hr]at q5;cases q5
   .rw[B0 A]at g1;unfold upd at g2;rw[B0 A]at g2;exact(h3 hr p).2 v j y l2 g1 g2 g3
 .obtain⟨rfl,rfl⟩:=S0 h1 f;cases p
 .rw[E9 _ _ _ _ hle hid,B0];intro e;subst e;rcases f with f|f
  .omega
  .have f:upN m.hi m.n<=m.n:=f
   have:=(J7 m.hi m.n).2;omega
 .have d:Hp.get (m.H.set m.n (some .frz)) id=some a:=d;rw[E9 _ _ _ _ hle hid]at d;by_cases e:id=m.n
  .subst e;rw[B2 rfl]at d;have d:=A5 d;subst d;rw[K7]at s;have s:=A5 s;subst s;rcases D.2 with⟨_,h3,_⟩|⟨_,o,h3⟩
   .cases h3
   .rcases E _ o h3 with x|⟨u,a3,C,q1,q2,q3,q4,q5⟩
    .exact .inl x
    .exact .inr ⟨u,a3,C,q1,q2,q3,q4⟩
  .rw[B0 e]at d;unfold upd at s;rw[B0 e]at s;exact .inr ⟨id,a,l,hid,d,s,D⟩
def St.back{ρ:Ren}{w w':World}{hi:Nat}{lg:Lg}(h:HR P base ρ m.H w)(g:oO w w')(hh:m.hi<=hi):St P base ρ ρ m ⟨m.H,m.n,m.W,hi,lg⟩ w w':=by
 have r:=St.grownLg (m:=m) h g lg;refine⟨r.ext,fun b l h1 a=>(by rw[h1]at a;cases a),A7 _,hh,fun h=>B8 h hh,?_,fun _ h=>h,fun b h1 a=>absurd h1 a,fun k hk _=>g.keep k hk,g.size,g.os,fun b l h1 a=>(by rw[h1]at a;cases a),fun _ _ _ _=>rfl,fun _ h=>.inr h⟩
 have:=r.hr;rw[hZ]at this;exact this
theorem ZE{f:FuncId}{ps:List Sh}{spec:Z1}{rs:List Sh}(h:jO P Ora.G f ps spec rs):hY P base gl f (ZF P ps spec rs):=by
 have p:∀ {nx:Nat} {m m':Mem} {v:Value},jH rs=true->NH rs nx m=some (v,m')->m'.lg=m.lg/\m.hi<=m'.hi/\m.n<=m'.n:=fun{nx m m' v} a hr=>by
  unfold NH at hr;rw[a]at hr;simp only[D9]at hr;split at hr
  .rename_i D;cases hr;obtain⟨m2,q1,q2,_⟩:=O9 D;cases q2;obtain⟨_,_,rfl⟩:=K5 q1;exact⟨rfl,(J7 _ _).1,Y4 _⟩
  .cases hr
 have d:∀ {vs xs:D0} {m m1:Mem},mQ P ps vs m=some (xs,m1)->m.lg.le m1.lg/\m.hi<=m1.hi:=fun{vs xs m m1} h1=>by
  unfold mQ at h1;split at h1
  .split at h1
   .rename_i a;cases h1;exact⟨(Q3 S9 a).2.1,(Q3 S9 a).1⟩
   .rename_i a;split at h1
    .rename_i J;cases h1;exact⟨by rw[(M0 J).2.1];exact(Q3 S9 a).2.1,B8 (Q3 S9 a).1 (M0 J).1⟩
    .cases h1
   .cases h1
  .cases h1
 refine⟨fun vs m m' v hr=>?_,fun ρ m m' w vs vs' v hr E i W=>.inl ?_⟩
 .obtain⟨xs,m1,h1,⟨a,g⟩|⟨a,_,rfl⟩⟩:=LK hr
  .rw[(p a g).1,Z4];exact(d h1).1.trans ⟨[_],rfl⟩
  .exact(d h1).1.trans ⟨[_],rfl⟩
 .obtain⟨xs,m1,h1,g⟩:=LK hr;have y:m'.lg=⟨m1.lg.nx+shN rs,m1.lg.pi,.con spec xs m1.lg.nx 0 (shN rs)::m1.lg.log⟩/\m1.hi<=m'.hi:=by
   rcases g with⟨a,g⟩|⟨a,_,rfl⟩
   .obtain⟨r1,r2,_⟩:=p a g;simp only[Z4,GG]at r1 r2;exact⟨r1,r2⟩
   .exact⟨rfl,A7 _⟩
  obtain⟨r1,r2⟩:=y;have s:V4.con spec xs m1.lg.nx 0 (shN rs) ∈ m'.lg.log:=by rw[r1];exact B5
  have A:Sat m1.lg:=N0.le E (by rw[r1];exact⟨[_],rfl⟩);obtain⟨t,R,z,a2,a3,a4,a5⟩:=CC i.hr h1 (i.fr.less r2) W A;obtain⟨outs,h3,Z,H⟩:=E _ s;obtain⟨N,T⟩:=h _ outs w vs' R a3 h3 (fun k o hk=>(i.gf k o hk).2) a4;refine⟨N,T.mono fun e w' ⟨r,Q,g1,g2,g3,g4,g5⟩=>?_⟩;rcases g with⟨a,g⟩|⟨a,rfl,rfl⟩
  .let j:Lg:=⟨m1.lg.nx+shN rs,m1.lg.pi,.con spec xs m1.lg.nx 0 (shN rs)::m1.lg.log⟩
   have g:NH rs m1.lg.nx (m1.wLg j)=some (v,m'):=g;have q:St P base ρ t m (m1.wLg j) w w:=St.trans (i.fr.less (by simpa using r2)) z (St.wLg z.hr j);have x:I8 t (m1.wLg j).n m'.hi:=by simpa using i.fr.step z
   unfold NH at g;rw[a]at g;simp only[D9]at g;split at g
   .rename_i v0 b m2 D;cases g;obtain⟨m3,q1,q2,_⟩:=O9 D;cases q2;obtain⟨Y,O⟩:=St.ret (G:=Q) q.hr g3 q1 x g4 fun k o hk=>by
     rcases g5 k o hk with C|⟨o',u⟩
     .exact .inl C
     .obtain⟨id,ab,l,p1,S,U,K,L⟩:=a5 k o' u;exact .inr ⟨id,ab,l,p1,by rw[hZ];exact S,U,K,L⟩
    exact⟨_,_,g2,zI (mM g1 H fun _=>Y).1,St.trans i.fr q O⟩
   .cases g
  .exact⟨_,ρ,g2,zI (mM g1 H fun I=>by rw[a]at I;cases I).1,St.back i.hr g3 (d h1).2⟩
end
end
end Go.Sx
