import Derived.Test.YtbbicpheoakeeaaGreatDoorX6
import Derived.Lib.Bytealg
import Derived.Lib.MakeNoZero
set_option linter.all false
set_option maxRecDepth 100000
set_option maxHeartbeats 4000000
namespace Go.Sx
variable {m m' m1 m2:Mem}{c:Cls}{r:Option (Nat×AB)}{rs:List Rec}{op:OpC}{fn:Func}{vs' vs2:D2}
section
open Go
variable [Ora]
def A4A(ops:Array Oper)(X:Nat->Qs)(i:Nat)(o:Oper):Bool:=JU o.op i ((Y9 ops.toList []).getD i []) ((Y9 ops.toList []).drop (i+1)) (ops.toList.drop (i+1)) (X i)
structure Rg (P:Program) (base gl nt:Nat) (call:P1) (ops:Array Oper) (F:Nat->Fr) (M:Nat->Mem) (V:Nat->Value) (R:Nat->List Rec) (X:Nat->Qs) (B:Nat->Bool):Prop where
 st:∀ i o,ops[i]? = some o->IM P nt gl call ops.toList ((Y9 ops.toList []).getD i []) (R i) (B i) o (F i) (F (i+1)) (M i) (M (i+1)) (V i)
 rc:∀ i o,ops[i]? = some o->(R (i+1)=R i/\∃ lg,M (i+1)=(M i).wLg lg)∨(B i=true/\R (i+1)=[])∨R (i+1)=⟨i,(M i).n,(M (i+1)).n⟩::R i
 qs:∀ i o,ops[i]? = some o->QsN (B i) i nt ops.toList (W9 P call o) ((Y9 ops.toList []).getD i []) (R i) (F i) o (M i) (M (i+1)) (V i) (X i) (X (i+1))
 sb:∀ i o,ops[i]? = some o->B i=true->A4A ops X i o=true
 x0:X 0=[]
 ok:KY ops.toList (Y9 ops.toList []) ops.toList 0=true
structure Ph (ops:Array Oper) (B:Nat->Bool) (M:Nat->Mem) (lo up:Nat):Prop where
 le:lo<=up
 sz:up<=ops.size
 nh:(M lo).n<=(M lo).hi
 mx:∀ i o,lo<=i->i<up->ops[i]? = some o->B i=false
section
variable {P:Program} {base gl nt:Nat} {call:P1} {ops:Array Oper} {F:Nat->Fr} {M:Nat->Mem} {V:Nat->Value} {R:Nat->List Rec} {X:Nat->Qs} {B:Nat->Bool} {lo up:Nat}
def Q3{i:Nat}(h:i<ops.size):∃ o,ops[i]? = some o:=⟨ops[i],by simp[h]⟩
def Rg.one(g:Rg P base gl nt call ops F M V R X B){i:Nat}{o:Oper}(j:ops[i]? = some o)(a:B i=false)(b:(M i).n<=(M i).hi):(M i).n<=(M (i+1)).n/\(M i).hi<=(M (i+1)).hi/\(M (i+1)).n<=(M (i+1)).hi/\(M (i+1)).W=(M i).W /\
  ∀ id,id<=I2->(id<(M i).n∨(M (i+1)).n<=id)->Hp.get (M (i+1)).H id=Hp.get (M i).H id:=by
 obtain⟨_,_,_,h⟩:=g.st i o j;rcases h with⟨_,lg,_,_,h⟩|⟨_,lg,k,_,_,h⟩|⟨h,_⟩|⟨_,_,lg,_,mv,m',_,_,_,d,hm⟩
 .rw[h];exact⟨A6 _,A6 _,b,rfl,fun _ _ _=>rfl⟩
 .rw[h];exact⟨A6 _,A6 _,b,rfl,fun _ _ _=>rfl⟩
 .rw[a]at h;cases h
 .obtain⟨h1,e,h3,l,_,_,_,f⟩:=LF hm b d;exact⟨h1,e,h3,l,fun id hid hh=>by rw[f id hid,A8 (by show ¬ ((M i).n<=id/\_);omega)];rfl⟩
def Rg.allD(g:Rg P base gl nt call ops F M V R X B)(a:Ph ops B M lo up):∀ d,lo+d<=up->(M lo).n<=(M (lo+d)).n/\(M lo).hi<=(M (lo+d)).hi/\(M (lo+d)).n<=(M (lo+d)).hi/\(M (lo+d)).W=(M lo).W /\
  ∀ id,id<=I2->(id<(M lo).n∨(M (lo+d)).n<=id)->Hp.get (M (lo+d)).H id=Hp.get (M lo).H id
 | 0,_=>⟨A6 _,A6 _,a.nh,rfl,fun _ _ _=>rfl⟩
 | d+1,h=>by
   obtain⟨h1,j,h3,s,k⟩:=g.allD a d A2;obtain⟨o,b⟩:=Q3 (ops:=ops) (i:=lo+d) (by have:=a.sz;omega);obtain⟨l,e,f,q,p⟩:=g.one b (a.mx _ o A2 A2 b) h3;exact⟨C6 h1 l,C6 j e,f,q.trans s,fun id hid hh=>by
    rw[show lo+(d+1)=lo+d+1 by omega]at hh ⊢;rw[p id hid A2,k id hid A2]⟩
def Rg.all(g:Rg P base gl nt call ops F M V R X B)(a:Ph ops B M lo up){i:Nat}(h0:lo<=i)(h:i<=up):(M lo).n<=(M i).n/\(M lo).hi<=(M i).hi/\(M i).n<=(M i).hi/\(M i).W=(M lo).W /\
  ∀ id,id<=I2->(id<(M lo).n∨(M i).n<=id)->Hp.get (M i).H id=Hp.get (M lo).H id:=by
 have:=g.allD a (i-lo) A2
 rwa[show lo+(i-lo)=i by omega]at this
def Rg.mono(g:Rg P base gl nt call ops F M V R X B)(a:Ph ops B M lo up){i:Nat}(h0:lo<=i):∀ d,i+d<=up->(M i).n<=(M (i+d)).n/\(M i).hi<=(M (i+d)).hi/\∀ id,id<=I2->id<(M i).n->Hp.get (M (i+d)).H id=Hp.get (M i).H id
 | 0,_=>⟨A6 _,A6 _,fun _ _ _=>rfl⟩
 | d+1,h=>by
   obtain⟨h1,f,j⟩:=g.mono a h0 d A2;obtain⟨o,b⟩:=Q3 (ops:=ops) (i:=i+d) (by have:=a.sz;omega);obtain⟨k,e,p,q,l⟩:=g.one b (a.mx _ o A2 A2 b) (g.all a (i:=i+d) A2 A2).2.2.1;exact⟨C6 h1 k,C6 f e,fun id hid hh=>by rw[show i+(d+1)=i+d+1 by omega,l id hid A2,j id hid hh]⟩
def Rg.le(g:Rg P base gl nt call ops F M V R X B)(a:Ph ops B M lo up){i j:Nat}(h0:lo<=i)(h:i<=j)(b:j<=up):(M i).n<=(M j).n/\(M i).hi<=(M j).hi/\∀ id,id<=I2->id<(M i).n->Hp.get (M j).H id=Hp.get (M i).H id:=by
 have:=g.mono a h0 (j-i) A2
 rwa[show i+(j-i)=j by omega]at this
def RT{mv:Mem}{us:List Rec}(h:CL m c us=some mv):mv.lg=m.lg:=by
 obtain⟨H,n,W,hi,lg⟩:=m;unfold CL at h;simp only at h;cases c with
 | free=>cases h;rfl
 | one b =>
   simp only at h;cases a:aC (Z5 us) b || !(Nat.ble b I2)with
   | true=>rw[a]at h;cases h
   | false=>rw[a,eV]at h;cases h;rfl
 | all =>
   simp only at h;obtain⟨d,h⟩:=A3 h;cases h;rfl
def LG(h:lU m m'=some m2):m2.lg=m'.lg:=by
 unfold lU at h;cases a:Nat.ble m'.hi m.n with
 | true=>rw[a]at h;cases h;rfl
 | false =>
   rw[a]at h;obtain⟨_,h⟩:=A3 h;simp only[E9,eK]at h;cases h;rfl
def nL{a b:Addr}(h:GB a b=true):a=b:=by
 unfold GB at h;split at h
 .obtain⟨h1,d⟩:=B6 h;rw[A0 h1,A0 d]
 .cases h
def WH{a b:Fn}(h:OW a b=true):a=b:=by
 unfold OW at h;split at h
 .rw[A0 h]
 .rw[A0 h]
 .cases h
def qQ{s:Value->Value->Bool}(d:∀ a b,s a b=true->a=b):∀ {l r:D2},CV s l r=true->l=r
 | [],[],_=>rfl
 | [],_::_,h=>by cases h
 | _::_,[],h=>by cases h
 | a::l,b::r,h=>by
   obtain⟨h1,e⟩:=B6 (show(s a b && CV s l r)=true from h);rw[d a b h1,qQ d e]
def B16{a b:W4}(h:a.toList=b.toList):a=b:=by cases a;cases b;cases h;rfl
def ZO:∀ (d:Nat) (v w:Value),yK d v w=true->v=w:=by
 intro d;induction d with
 | zero =>
   intro v w h;unfold yK at h;split at h
   .rw[eq_of_beq h]
   .obtain⟨h1,e⟩:=B6 h;rw[cM]at e;rw[iD h1,eq_of_beq e]
   .obtain⟨h1,e⟩:=B6 h;rw[A0 h1,A0 e]
   .obtain⟨h1,e⟩:=B6 h;rw[A0 h1,A0 e]
   .rename_i s t;have h1:=H5 h;cases s with|mk s=>cases t with|mk t=>cases s;cases t;cases h1;rfl
   .rfl
   .rw[nL h]
   .obtain⟨h1,e⟩:=B6 h;rw[A0 h1,A0 e]
   .obtain⟨h0,h⟩:=B6 h;obtain⟨h1,e⟩:=B6 h;rw[nL h0,A0 h1,A0 e]
   .rfl
   .rw[A0 h]
   .rfl
   .rfl
   all_goals first|cases h|(rename_i hh;cases hh)
 | succ d i =>
   intro v w h;unfold yK at h;split at h
   .rw[eq_of_beq h]
   .obtain⟨h1,e⟩:=B6 h;rw[cM]at e;rw[iD h1,eq_of_beq e]
   .obtain⟨h1,e⟩:=B6 h;rw[A0 h1,A0 e]
   .obtain⟨h1,e⟩:=B6 h;rw[A0 h1,A0 e]
   .rename_i s t;have h1:=H5 h;cases s with|mk s=>cases t with|mk t=>cases s;cases t;cases h1;rfl
   .rfl
   .rw[nL h]
   .obtain⟨h1,e⟩:=B6 h;rw[A0 h1,A0 e]
   .obtain⟨h0,h⟩:=B6 h;obtain⟨h1,e⟩:=B6 h;rw[nL h0,A0 h1,A0 e]
   .rfl
   .rw[A0 h]
   .rfl
   .rfl
   .rename_i j f a b g a' b' he;cases he;obtain⟨h0,h⟩:=B6 h;obtain⟨h1,e⟩:=B6 h;rw[WH h0,B16 (qQ i h1),B16 (qQ i e)]
   .rename_i j t v u w he;cases he;obtain⟨h1,e⟩:=B6 h;rw[A0 h1,i _ _ e]
   .cases h
def ZT{a b:AB}(h:ZU a b=true):a=b:=by
 unfold ZU at h;split at h
 .rfl
 .obtain⟨h0,h⟩:=B6 h;obtain⟨h1,d⟩:=B6 h;rw[qQ (ZO 6) h0,A0 h1,eq_of_beq d]
 .cases h
def zW{H:Hp AB}{b:Nat}{ab:AB}(h:zX H b ab=true):Hp.get H b=some ab/\b<=I2:=by
 unfold zX at h;split at h
 .rename_i x a;obtain⟨h1,d⟩:=B6 h;exact⟨by rw[a,ZT d],A1 h1⟩
 .cases h
def tR{mv:Mem}{us:List Rec}(h:GL m r us=some mv):mv.n=tI/\mv.hi=tI/\mv.W=[]/\mv.lg=m.lg/\(∀ id,id<=I2->∀ ab,Hp.get mv.H id=some ab->r=some (id,ab))/\∀ b ab,r=some (b,ab)->zX m.H b ab=true/\b ∉ Z5 us:=by
 obtain⟨H,n,W,hi,lg⟩:=m;unfold GL at h;simp only at h;cases r with
 | none =>
   cases h;exact⟨rfl,rfl,rfl,rfl,fun id _ ab a=>(by rw[sQ]at a;cases a),fun b ab g=>by cases g⟩
 | some p =>
   obtain⟨b,f⟩:=p;simp only at h;cases d:aC (Z5 us) b || !(zX H b f)with
   | true=>rw[d]at h;cases h
   | false =>
     rw[d,eV]at h;cases h;simp only[Z7,Bool.not_eq_false']at d;have g:=(zW d.2).2;refine⟨rfl,rfl,rfl,rfl,fun id hid ab a=>?_,fun b' ab' i=>?_⟩
     .have a:Hp.get (Hp.set hp0 b (some f)) id=some ab:=a;rw[F1 _ _ _ _ g hid]at a;by_cases e:id=b
      .subst e;rw[B0 rfl]at a;cases a;rfl
      .rw[A8 e,sQ]at a;cases a
     .cases i;exact⟨d.2,fun hm=>by rw[W3.2 hm]at d;exact absurd d.1 (by simp)⟩
def lM{fr:Fr}{o:Oper}{b:H6}{v:Value}{lg:Lg}(h:lN fr m o b rs op=some (v,lg)):∃ mv m',GL m (MG m.H fr o.op) (DK b rs)=some mv/\op.run fr mv=some (v,m')/\m'.W=[]/\m'.hi=tI/\m'.lg=lg:=by
 unfold lN at h;split at h
 .rename_i mv hv;split at h
  .rename_i v' H n hi a hr;obtain⟨h1,d⟩:=A3 h;cases d;exact⟨mv,_,hv,hr,rfl,A0 h1,rfl⟩
  .cases h
 .cases h
def CQ{all:List Oper}{b:H6}{e:Bool}{o:Oper}{fr a:Fr}{v:Value}(d:V7 P base gl call)(h:IM P nt gl call all b rs e o fr a m m2 v):m.lg.le m2.lg:=by
 obtain⟨_,_,_,h⟩:=h;rcases h with⟨_,lg,hw,_,h⟩|⟨_,lg,g,hw,j,h⟩|⟨_,lg,hw,hr,_⟩|⟨_,_,lg,hw,mv,m',hv,hr,_,f,hm⟩
 .rw[h];exact hP hw
 .obtain⟨mv,m',hv,hr,_,_,i⟩:=lM j;have h1:=aO d hr;rw[(tR hv).2.2.2.1,i]at h1;rw[h];exact(hP hw).trans h1
 .have h1:=aO d hr;rw[g8]at h1;exact(hP hw).trans h1
 .rw[LG hm];have h1:=aO d hr;rw[RT hv]at h1;exact(hP hw).trans h1
def Rg.lgs(g:Rg P base gl nt call ops F M V R X B)(a:V7 P base gl call){i:Nat}:∀ d,i+d<=ops.size->(M i).lg.le (M (i+d)).lg
 | 0,_=>.refl _
 | d+1,h=>by
   obtain⟨o,b⟩:=Q3 (ops:=ops) (i:=i+d) A2;exact(g.lgs a d A2).trans (CQ a (g.st (i+d) o b))
def Rg.who(g:Rg P base gl nt call ops F M V R X B)(e:Ph ops B M lo up):∀ d,lo+d<=up->∀ b,(M lo).n<=b->b<(M (lo+d)).n->∃ k,lo<=k/\k<lo+d/\(M k).n<=b/\b<(M (k+1)).n
 | 0,_,b,h1,a=>by have a:b<(M lo).n:=a;omega
 | d+1,h,b,h1,a=>by
   rcases G1 b (M (lo+d)).n with h3|h3
   .obtain⟨k,f,j,i⟩:=g.who e d A2 b h1 h3;exact⟨k,f,A2,i⟩
   .exact⟨lo+d,A2,A2,h3,a⟩
def zE:∀ {rs:List Rec} {b:Nat},b ∈ Z5 rs↔∃ r ∈ rs,r.lo<=b/\b<r.hi
 | [],b=>by simp[Z5]
 | r::rs,b=>by
   simp only[Z5,B7,lV,zE (rs:=rs),B4];constructor
   .rintro(h|⟨d,h1,a⟩)
    .exact⟨r,.inl rfl,A2⟩
    .exact⟨d,.inr h1,a⟩
   .rintro⟨d,rfl|h1,a⟩
    .exact .inl A2
    .exact .inr ⟨d,h1,a⟩
def Rg.recs(g:Rg P base gl nt call ops F M V R X B)(j:Ph ops B M lo up):∀ d,lo+d<=up->∀ k,lo<=k->k<lo+d->∀ b,(M k).n<=b->b<(M (k+1)).n->⟨k,(M k).n,(M (k+1)).n⟩ ∈ R (lo+d)
 | 0,_,k,_,h,_,_,_=>by omega
 | d+1,hi,k,hk,h,b,h1,f=>by
   obtain⟨o,l⟩:=Q3 (ops:=ops) (i:=lo+d) (by have:=j.sz;omega);have a:=j.mx _ o A2 A2 l;show _ ∈ R (lo+d+1);by_cases e:k=lo+d
   .subst e;rcases g.rc (lo+d) o l with⟨_,lg,h3⟩|⟨h3,_⟩|h3
    .rw[h3]at f;have f:b<(M (lo+d)).n:=f;omega
    .rw[a]at h3;cases h3
    .rw[h3];exact B5
   .have:=g.recs j d A2 k hk A2 b h1 f;rcases g.rc (lo+d) o l with⟨h3,_⟩|⟨h3,_⟩|h3
    .rw[h3];exact this
    .rw[a]at h3;cases h3
    .rw[h3];exact C7 _ this
def A31{mv:Mem}{us:List Rec}(h:CL m c us=some mv):mv.n=m.n/\mv.hi=m.hi/\mv.W=[]/\mv.lg=m.lg/\∀ id,id<=I2->∀ ab,Hp.get mv.H id=some ab->Hp.get m.H id=some ab/\id ∉ Z5 us:=by
 obtain⟨H,n,W,hi,lg⟩:=m;unfold CL at h;simp only at h;cases c with
 | free =>
   cases h;exact⟨rfl,rfl,rfl,rfl,fun id _ ab a=>by rw[sQ]at a;cases a⟩
 | one b =>
   simp only at h;cases d:aC (Z5 us) b || !(Nat.ble b I2)with
   | true=>rw[d]at h;cases h
   | false =>
     rw[d,eV]at h;cases h;simp only[Z7,Bool.not_eq_false']at d;have f:=A1 d.2;refine⟨rfl,rfl,rfl,rfl,fun id hid ab a=>?_⟩;have a:Hp.get (Hp.set hp0 b (Hp.get H b)) id=some ab:=a;rw[F1 _ _ _ _ f hid]at a;by_cases e:id=b
     .subst e;rw[B0 rfl]at a;exact⟨a,fun hm=>by rw[W3.2 hm]at d;exact absurd d.1 (by simp)⟩
     .rw[A8 e,sQ]at a;cases a
 | all =>
   simp only at h;obtain⟨f,h⟩:=A3 h;cases h;refine⟨rfl,rfl,rfl,rfl,fun id hid ab a=>?_⟩;have a:Hp.get (DY H (Z5 us)) id=some ab:=a;rw[DX _ _ (uW f) id hid]at a;by_cases e:id ∈ Z5 us
   .rw[B0 e]at a;cases a
   .rw[A8 e]at a;exact⟨a,e⟩
def gV(M:Nat->Mem)(D:Nat->Bool)(b:Nat):Nat->Bool
 | 0=>false
 | n+1=>(D n && Nat.ble (M n).n b && Nat.blt b (M (n+1)).n) || gV M D b n
def U5{D:Nat->Bool}{b:Nat}:∀ n,gV M D b n=true↔∃ k,k<n/\D k=true/\(M k).n<=b/\b<(M (k+1)).n
 | 0=>by simp[gV]
 | n+1=>by
   simp only[gV,J1,H1,U5 n];constructor
   .rintro(⟨⟨h1,a⟩,h3⟩|⟨k,h1,a⟩)
    .exact⟨n,A2,h1,A1 a,A1 h3⟩
    .exact⟨k,A2,a⟩
   .rintro⟨k,h1,a,h3,d⟩
    by_cases e:k=n
    .subst e;exact .inl ⟨⟨a,C8 h3⟩,C8 d⟩
    .exact .inr ⟨k,A2,a,h3,d⟩
def Dr(lo:Nat)(D:Nat->Bool)(k:Nat):Bool:=Nat.ble lo k && D k
def Y6{lo:Nat}{D:Nat->Bool}{k:Nat}:Dr lo D k=true↔lo<=k/\D k=true:=by
 unfold Dr;rw[H1];exact⟨fun h=>⟨A1 h.1,h.2⟩,fun h=>⟨C8 h.1,h.2⟩⟩
def GD(M:Nat->Mem)(lo N:Nat)(D:Nat->Bool)(b:Nat):Option AB:=bif gV M (Dr lo D) b N then Hp.get (M N).H b else Hp.get (M lo).H b
structure Inv (z:Zn) (P:Program) (base gl nt:Nat) (ops:Array Oper) (F:Nat->Fr) (M:Nat->Mem) (V:Nat->Value) (lo up:Nat) (ρ0:Ren) (w0:World) (D:Nat->Bool) (ρ:Ren) (a:Act) (w:World):Prop where
 ext:∀ b l,ρ0 b=some l->ρ b=some l
 new:∀ b l,ρ b=some l->ρ0 b=none->gV M (Dr lo D) b up=true/\(l.on=true->w0.heap.size<=l.blk)
 hr:HRf P base ρ (GD M lo up D) w
 keep:∀ k,k<w0.heap.size->w.heap[k]? = w0.heap[k]?
 size:w0.heap.size<=w.heap.size
 os:w.os=w0.os/\w.tape=w0.tape/\w.output=w0.output
 tch:∀ k,Ff ρ (GD M lo up D) k->w0.heap.size<=k∨Fp ρ0 (M lo).H k
 tsz:a.tmps.size=nt
 dfr:ZR z ρ nt (F 0) a.defers
 frm:∀ t,t<nt->VR ρ (bA D (fun k=>(ops[k]?).bind (·.dst)) V (F 0).get t ops.size) (a.tmps.getD t undef)
def S9{i:Nat}{o:Oper}(h:ops[i]? = some o):ops.toList[i]? = some o:=by simpa using h
def iH{ops:List Oper}{a:List H6}:∀ (r:List Oper) (i:Nat),KY ops a r i=true->∀ j o,r[j]? = some o->oB (i+j) o.after.toList=true/\tP a (i+j) (V8 ops o) ops 0=true
 | [],i,h,j,o,hj=>by simp at hj
 | x::r,i,h,j,o,hj=>by
   obtain⟨h1,b⟩:=B6 (show(oB i x.after.toList && (tP a i (V8 ops x) ops 0 && KY ops a r (i+1)))=true from h);obtain⟨b,h3⟩:=B6 b;cases j with
   | zero=>simp at hj;subst hj;exact⟨h1,b⟩
   | succ j =>
     have:=iH r (i+1) h3 j o (by simpa using hj)
     rwa[show i+1+j=i+(j+1) by omega]at this
def fL:∀ {es:List Edge} {i:Nat},oB i es=true->∀ e ∈ es,Region.binds .any e=true->e.on<i
 | [],i,h,e,he,_=>by cases he
 | x::r,i,h,e,he,hb=>by
   obtain⟨h1,a⟩:=B6 (show((!(Region.binds .any x) || Nat.blt x.on i) && oB i r)=true from h);rcases B4.1 he with rfl|he
   .rw[hb]at h1;have h1:Nat.blt e.on i=true:=by simpa only [Q8,Q9]using h1
    exact A1 h1
   .exact fL a e he hb
def CS{d:List H6}{i:Nat}{b:List Tmp}:∀ (r:List Oper) (a:Nat),tP d i b r a=true->∀ j p t,r[j]? = some p->a+j≠i->p.dst=some t->t ∈ b->A4V d i (a+j)=true
 | [],a,h,j,p,t,hj,_,_,_=>by simp at hj
 | x::r,a,h,j,p,t,hj,hne,hd,ht=>by
   obtain⟨h1,f⟩:=B6 (show((Nat.beq a i || (match x.dst with|none=>true|some t=>!(aC b t) || A4V d i a)) && tP d i b r (a+1))=true from h);cases j with
   | zero =>
     simp at hj;subst hj;have g:Nat.beq a i=false:=by
      cases e:Nat.beq a i with
      | false=>rfl
      | true=>exact absurd (A0 e) hne
     rw[g,hd,Q9]at h1;simp only[W3.2 ht,Q8,Q9]at h1;exact h1
   | succ j =>
     have:=CS r (a+1) f j p t (by simpa using hj) A2 hd ht
     rwa[show a+1+j=a+(j+1) by omega]at this
def Rg.slot(g:Rg P base gl nt call ops F M V R X B){D:Nat->Bool}(l:mZ ops.toList fun k=>D k=true)(x:∀ k,D k=true->k<ops.size){i:Nat}{o:Oper}(f:ops[i]? = some o)(hi:D i=false)
  (hr:∀ e ∈ o.after.toList,Region.binds .any e=true->D e.on=true) {t:Tmp} (v:t ∈ V8 ops.toList o):∀ k p,ops[k]? = some p->k≠i->p.dst=some t->(D k=true↔k<i):=fun k p hp n w=>by
 have s:∀ (i:Nat) (o:Oper),ops.toList[i]? = some o->∀ e ∈ o.after.toList,Region.binds .any e=true->e.on<i:=fun i o f=>by
  have:=(iH _ 0 g.ok i o f).1;rw[F5]at this;exact fL this
 have h1:=(iH _ 0 g.ok i o (S9 f)).2;have a:=CS _ 0 h1 k p t (S9 hp) A2 w v;rw[F5,F5]at a;unfold A4V at a;rcases Nat.lt_trichotomy k i with b|heq|q
 .have d:Nat.blt i k=false:=by
   cases d:Nat.blt i k with
   | false=>rfl
   | true=>have:i<k:=A1 d;omega
  rw[d]at a;have hm:=W3.1 (by simpa using a);exact⟨fun _=>b,fun _=>BH l s (i+1) i k o (J4 i) (S9 f) hr hm⟩
 .exact absurd heq n
 .have d:Nat.blt i k=true:=C8 q;rw[d]at a;have hm:=W3.1 (by simpa using a);refine⟨fun u=>?_,fun h=>by omega⟩
  have:=BH l s (k+1) k i p (J4 k) (S9 hp) (fun e he j=>l k p (S9 hp) u e he j) hm;rw[hi]at this;cases this
def Rg.frame(g:Rg P base gl nt call ops F M V R X B)(a:nt<=512){t:Tmp}(j:t<nt):∀ i,i<=ops.size->(F i).get t=bA (fun k=>Nat.blt k i) (fun k=>(ops[k]?).bind (·.dst)) V (F 0).get t i
 | 0,_=>rfl
 | i+1,h=>by
   obtain⟨o,f⟩:=Q3 (ops:=ops) (i:=i) A2;obtain⟨h1,_,h3,_⟩:=g.st i o f;have s:=g.frame a j i A2;have p:bA (fun k=>Nat.blt k (i+1)) (fun k=>(ops[k]?).bind (·.dst)) V (F 0).get t i=bA (fun k=>Nat.blt k i) (fun k=>(ops[k]?).bind (·.dst)) V (F 0).get t i:=fH i fun k n _=>by
    rw[show Nat.blt k (i+1)=true from C8 A2,show Nat.blt k i=true from C8 n]
   have l:Nat.blt i (i+1)=true:=C8 (A6 _);rw[h3];unfold bA;rw[p,<- s];simp only[l,f,D8,true_and];cases q:o.dst with
   | none=>simp[wS]
   | some d =>
     rw[q]at h1;have b:d<nt:=A1 h1;simp only[wS,D5];rw[M3 _ _ _ _ (D7 b a) (D7 j a)];by_cases e:t=d
     .subst e;simp
     .rw[A8 e,A8 (fun h=>e h.symm)]
def Rg.look(g:Rg P base gl nt call ops F M V R X B)(f:nt<=512){D:Nat->Bool}(q:mZ ops.toList fun k=>D k=true)(j:∀ k,D k=true->k<ops.size){i:Nat}{o:Oper}(l:ops[i]? = some o)(hi:D i=false)
  (hr:∀ e ∈ o.after.toList,Region.binds .any e=true->D e.on=true) {t:Tmp} (v:t ∈ V8 ops.toList o) (a:t<nt):bA D (fun k=>(ops[k]?).bind (·.dst)) V (F 0).get t ops.size=(F i).get t:=by
 have s:i<ops.size:=(C9.1 l).1;rw[g.frame f a i A2];have z:=g.slot q j l hi hr v;have w:bA D (fun k=>(ops[k]?).bind (·.dst)) V (F 0).get t ops.size=bA (fun k=>Nat.blt k i) (fun k=>(ops[k]?).bind (·.dst)) V (F 0).get t ops.size:=fH _ fun k u b=>by
  obtain⟨p,hp⟩:=Q3 (ops:=ops) u;rw[hp]at b;by_cases e:k=i
  .subst e;rw[hi];symm;cases x:Nat.blt k k with
   | false=>rfl
   | true=>have:k<k:=A1 x;omega
  .have:=z k p hp e b;rw[K3,this];exact⟨fun h=>C8 h,fun h=>A1 h⟩
 rw[w];have n:∀ d,i+d<=ops.size->bA (fun k=>Nat.blt k i) (fun k=>(ops[k]?).bind (·.dst)) V (F 0).get t (i+d)=bA (fun k=>Nat.blt k i) (fun k=>(ops[k]?).bind (·.dst)) V (F 0).get t i:=by
  intro d;induction d with
  | zero=>intro _;rfl
  | succ d y =>
    intro b;rw[show i+(d+1)=(i+d)+1 by omega];rw[bA,A8 (fun hh=>by have:i+d<i:=A1 hh.1;omega)];exact y A2
 have:=n (ops.size-i) A2
 rwa[show i+(ops.size-i)=ops.size by omega]at this
def xU{o:Oper}{x:Operand}{t:Tmp}(hx:x ∈ o.op.operands.toList)(a:x=.tmp t):t ∈ V8 ops.toList o:=by
 unfold V8;refine B7.2 (.inr (B7.2 (.inl (List.mem_flatMap.2 ⟨x,hx,?_⟩))));subst a;simp[qI]
def Rg.see{z:Zn}(g:Rg P base gl nt call ops F M V R X B)(b:Ph ops B M lo up){y ρ:Ren}{w0 w:World}{D:Nat->Bool}{a:Act}{i:Nat}{o:Oper}
  (p:At P base gl y (M lo) (M up).hi w0) (L:mZ ops.toList fun k=>D k=true) (f:lo<=i) (A:i<up) (x:ops[i]? = some o)
  (hr:∀ e ∈ o.after.toList,Region.binds .any e=true->D e.on=true):∀ id,id<=I2->∀ ab,Hp.get (M i).H id=some ab->id ∉ Z5 (DK ((Y9 ops.toList []).getD i []) (R i))->GD M lo up D id=some ab:=fun id hid ab h1 J=>by
 unfold GD;by_cases d:(M lo).n<=id/\id<(M i).n
 .obtain⟨k,u,K,s,t⟩:∃ k,lo<=k/\k<i/\(M k).n<=id/\id<(M (k+1)).n:=by
   have:=g.who b (i-lo) A2 id d.1 (by rw[show lo+(i-lo)=i by omega];exact d.2)
   rwa[show lo+(i-lo)=i by omega]at this
  have v:D k=true:=by
   have q:(⟨k,(M k).n,(M (k+1)).n⟩:Rec) ∈ R i:=by
    have:=g.recs b (i-lo) A2 k u A2 id s t
    rwa[show lo+(i-lo)=i by omega]at this
   by_cases C:k ∈ (Y9 ops.toList []).getD i []
   .exact BH L (fun i o x=>by
     have:=(iH _ 0 g.ok i o x).1;rw[F5]at this;exact fL this) (i+1) i k o (J4 i) (S9 x) hr C
   .exfalso;refine J (zE.2 ⟨_,P6.2 ⟨q,?_⟩,s,t⟩);cases h:aC ((Y9 ops.toList []).getD i []) k with
    | false=>rfl
    | true=>exact absurd (W3.1 h) C
  have hu:gV M (Dr lo D) id up=true:=(U5 _).2 ⟨k,A2,Y6.2 ⟨u,v⟩,s,t⟩;rw[hu];simp only[E5];rw[(g.le b (i:=i) (j:=up) f A2 (A6 _)).2.2 id hid d.2];exact h1
 .have G:=(g.all b f A2).2.2.2.2 id hid A2;rw[G]at h1;have hu:gV M (Dr lo D) id up=false:=by
   cases h:gV M (Dr lo D) id up with
   | false=>rfl
   | true =>
     exfalso;obtain⟨k,K,O,s,t⟩:=(U5 _).1 h;have u:=(Y6.1 O).1;obtain⟨l,E,_⟩:=p.hr.at_ id hid ab h1;have Q:=g.le b (i:=lo) (j:=k) (A6 _) u A2;have I:=g.le b (i:=k+1) (j:=up) A2 A2 (A6 _);have N:=(g.all b b.le (A6 _)).2.2.1;rw[p.fr id A2 A2]at E;cases E
  rw[hu];exact h1
def Rg.quiet{z:Zn}(g:Rg P base gl nt call ops F M V R X B)(G:V7 P base gl call){L ρ:Ren}{w0 w:World}{D D':Nat->Bool}{a:Act}{i:Nat}{o:Oper}{Q:Exit->Act->World->Prop}{K:Act->World->Prop}
  (u:At P base gl L (M lo) (M up).hi w0) (hS:Sat (M (i+1)).lg) (bz:nt<=512) (inv:Inv z P base gl nt ops F M V lo up L w0 D ρ a w) (hc:mZ ops.toList fun k=>D k=true) (ar:∀ k,D k=true->k<ops.size) (T:ops[i]? = some o) (hi:D i=false)
  (hr:∀ e ∈ o.after.toList,Region.binds .any e=true->D e.on=true) (hD:∀ k,k≠i->D' k=D k) (ao:D' i=true)
  (au:eE nt ops.toList (W9 P call o) ((Y9 ops.toList []).getD i []) (R i) (F i) o (M i) (M (i+1)) (V i) r) (ai:∀ b ab,r=some (b,ab)->GD M lo up D b=some ab)
  (hK:∀ q a' w',Inv z P base gl nt ops F M V lo up L w0 D' q a' w'->K a' w'):hO P z.rd ops Q i K a w:=by
 have aj:i<ops.size:=(C9.1 T).1;obtain⟨bw,af,hF,_⟩:=g.st i o T;have J:∀ t,t ∈ V8 ops.toList o->t<nt->VR ρ ((F i).get t) (a.tmps.getD t undef):=fun t S aw=>by
  rw[<- g.look bz hc ar T hi hr S aw];exact inv.frm t aw
 have ag:FR ρ (F i) a.eval o.op:=fun x hx=>by
  have ay:okX nt gl x=true:=D6.1 af x hx;cases x with
  | tmp t=>exact J t (xU hx rfl) (A1 ay)
  | const v=>exact VR.ofC ay
  | global gg=>exact VR.ptr (o:=0) (inv.ext _ _ (u.gr gg (A1 ay)))
  | func f=>exact .func (a:=[]) (b:=[]) (a':=[]) (b':=[]) rfl rfl (fun i v v' h=>by simp at h) (fun i v v' h=>by simp at h)
 have C:∀ lg b,bO nt (F i) (M i).lg ops.toList o=some (b,lg)->Sat lg->Region.wanted o (yielded ops a.tmps)=b:=fun lg b hw E=>by
  unfold bO at hw;split at hw
  .rename_i hg;cases hw;simp[Region.wanted,hg]
  .rename_i j want hg;split at hw
   .rename_i p hp;split at hw
    .rename_i t S;obtain⟨h1,s⟩:=A3 hw;have h1:t<nt:=A1 h1;have hv:=J t (by
      unfold V8;refine B7.2 (.inr (B7.2 (.inr ?_)));simp[hg,hp,S]) h1
     exact nG hg hp S (by rw[inv.tsz];exact h1) (qD s hv E)
    .cases hw
   .cases hw
 have y:∀ (q:Ren) (v':Value),(∀ b l,ρ b=some l->q b=some l)->VR q (V i) v'->∀ t,t<nt->VR q (bA D' (fun k=>(ops[k]?).bind (·.dst)) V (F 0).get t ops.size) ((a.put o.dst v').tmps.getD t undef):=fun q v' he hv t S=>by
  by_cases hd:o.dst=some t
  .have W:∀ k,i<k->k<ops.size->(ops[k]?).bind (·.dst)=some t->D k=false:=fun k bx A aq=>by
    obtain⟨p,hp⟩:=Q3 (ops:=ops) A;rw[hp]at aq
    have:=g.slot hc ar T hi hr (t:=t) (by unfold V8;simp[hd]) k p hp A2 aq;cases hq:D k with
    | false=>rfl
    | true=>have:=this.1 hq;omega
   rw[sV hD ao ops.size aj (by simp[T,hd]) W];simp only[hd,Act.put,B8];rw[G6,B0 rfl,B0 (by rw[inv.tsz];exact S)];exact hv
  .rw[pF hD (by simp[T];exact hd)];have h1:=(inv.frm t S).mono he;cases U:o.dst with
   | none=>exact h1
   | some d =>
     have al:d≠t:=fun e=>hd (e▸U)
     simp only[Act.put,B8]at h1 ⊢;rw[G6,A8 al];exact h1
 have hM:∃ lg,M (i+1)=(M i).wLg lg:=by
  rcases au with⟨lg,_,_,h,_⟩|⟨_,ax,_,_,h,_⟩
  .exact⟨lg,h⟩
  .exact⟨ax,h⟩
 have hG:GD M lo up D'=GD M lo up D:=by
  funext b;unfold GD;have:gV M (Dr lo D') b up=gV M (Dr lo D) b up:=by
   obtain⟨lg,hm⟩:=hM;rw[K3,U5,U5];constructor
   .rintro⟨k,h1,s,h3,h4⟩
    have e:k≠i:=fun e=>by
     subst e;rw[hm]at h4;have h4:b<(M k).n:=h4;omega
    obtain⟨Z,s⟩:=Y6.1 s;rw[hD k e]at s;exact⟨k,h1,Y6.2 ⟨Z,s⟩,h3,h4⟩
   .rintro⟨k,h1,s,h3⟩
    obtain⟨Z,s⟩:=Y6.1 s;have e:k≠i:=fun e=>by subst e;rw[hi]at s;cases s
    exact⟨k,h1,Y6.2 ⟨Z,by rw[hD k e];exact s⟩,h3⟩
  rw[this]
 have N:∀ b l,ρ b=some l->L b=none->gV M (Dr lo D') b up=true/\(l.on=true->w0.heap.size<=l.blk):=fun b l h1 s=>by
  obtain⟨k1,k2⟩:=inv.new b l h1 s;obtain⟨k,q1,q2,q3⟩:=(U5 _).1 k1;obtain⟨ae,q2⟩:=Y6.1 q2;have e:k≠i:=fun e=>by subst e;rw[hi]at q2;cases q2
  exact⟨(U5 _).2 ⟨k,q1,Y6.2 ⟨ae,by rw[hD k e];exact q2⟩,q3⟩,k2⟩
 unfold hO;simp only[T];rcases au with⟨lg,hw,hv,hm,_⟩|⟨lg,ax,hw,hq,hm,ak⟩
 .have E:Sat lg:=by rw[hm]at hS;exact hS
  rw[C lg false hw E];simp only[J8,if_false];refine hK ρ _ w ⟨inv.ext,N,hG▸inv.hr,inv.keep,inv.size,inv.os,hG▸inv.tch,?_,?_,y ρ undef (fun _ _ h=>h) (hv▸qF ρ)⟩
  .cases U:o.dst<;>simp[Act.put,inv.tsz]
  .rw[eW];exact inv.dfr
 .obtain⟨mv,m',az,O,hW,ah,hl⟩:=lM hq;obtain⟨v1,v2,v3,v4,v5,_⟩:=tR az;have av:Sat m'.lg:=by rw[hm]at hS;rw[hl];exact hS
  have E:Sat lg:=S2.le av (by have:=aO G O;rw[v4]at this;exact this);rw[C lg true hw E];simp only[if_true];have an:HR P base ρ mv.H w:=inv.hr.hr fun id hid ab Y=>ai id ab (ak.trans (v5 id hid ab Y))
  have aa:At P base gl ρ mv m'.hi w:=⟨an,C6 u.bs inv.size,fun b h1 s=>(by rw[v1]at h1;rw[ah]at s;omega),u.gr.mono inv.ext,(by rw[v1,v2];exact A6 _),fun b hb=>(by rw[v3]at hb;cases hb),fun k o A=>⟨(u.gf k o A).1,(inv.keep k (D7 (u.gf k o A).1 u.bs)).trans (u.gf k o A).2⟩⟩;refine qO G O av aa ag fun v' q w' hv st=>?_
  have ad:q=ρ:=by
   funext b;cases h0:ρ b with
   | some l=>exact st.ext b l h0
   | none =>
     cases h1:q b with
     | none=>rfl
     | some l =>
       exfalso;have s:=(st.new b l h1 h0).1;have h3:=st.hr.dom b l h1;rw[v1]at s;unfold tI at s;unfold I2 at h3;omega
  subst ad;have I:∀ k,k<w.heap.size->w'.heap[k]? = w.heap[k]? := fun k A=>st.keep k A fun b hb=>by rw[hW]at hb;cases hb
  refine hK q _ w' ⟨inv.ext,N,hG▸⟨inv.hr.dom,fun id hid ab Y=>?_⟩,fun k A=>by rw[I k (D7 A inv.size),inv.keep k A],C6 inv.size st.size,⟨st.os.1.trans inv.os.1,st.os.2.1.trans inv.os.2.1,st.os.2.2.trans inv.os.2.2⟩,hG▸inv.tch,?_,?_,y q v' (fun _ _ h=>h) hv⟩
  .obtain⟨l,e1,e2,e3⟩:=inv.hr.at_ id hid ab Y;exact⟨l,e1,e2.mono (fun _ _ h=>h) (fun k A=>I _ (e2.tc A)),e3⟩
  .cases U:o.dst<;>simp[Act.put,inv.tsz]
  .rw[eW];exact inv.dfr
def Rg.step{z:Zn}(g:Rg P base gl nt call ops F M V R X B)(ph:Ph ops B M lo up)(S:V7 P base gl call){an ρ:Ren}{w0 w:World}{D D':Nat->Bool}{a:Act}{i:Nat}{o:Oper}{Q:Exit->Act->World->Prop}{K:Act->World->Prop}
  (L:At P base gl an (M lo) (M up).hi w0) (hS:Sat (M up).lg) (cy:nt<=512) (inv:Inv z P base gl nt ops F M V lo up an w0 D ρ a w) (hc:mZ ops.toList fun k=>D k=true) (bo:∀ k,D k=true->k<ops.size) (ay:lo<=i) (aw:i<up) (W:ops[i]? = some o) (hi:D i=false)
  (hr:∀ e ∈ o.after.toList,Region.binds .any e=true->D e.on=true) (hD:∀ k,k≠i->D' k=D k) (ad:D' i=true)
  (bt:¬∃ r,eE nt ops.toList (W9 P call o) ((Y9 ops.toList []).getD i []) (R i) (F i) o (M i) (M (i+1)) (V i) r)
  (hK:∀ C a' w',Inv z P base gl nt ops F M V lo up an w0 D' C a' w'->K a' w'):hO P z.rd ops Q i K a w:=by
 have bg:i<ops.size:=(C9.1 W).1;obtain⟨cr,bb,hF,ah⟩:=g.st i o W;have br:=ph.mx i o ay aw W;have cq:=ph.sz;have ct:=g.le ph (i:=lo) (j:=i) (A6 _) ay A2;have bj:=g.le ph (i:=i+1) (j:=up) A2 A2 (A6 _);have cw:=g.one W br (g.all ph ay A2).2.2.1;have au:∀ t,t ∈ V8 ops.toList o->t<nt->VR ρ ((F i).get t) (a.tmps.getD t undef):=fun t ht bu=>by
  rw[<- g.look cy hc bo W hi hr ht bu];exact inv.frm t bu
 have bc:FR ρ (F i) a.eval o.op:=fun x hx=>by
  have ae:okX nt gl x=true:=D6.1 bb x hx;cases x with
  | tmp t=>exact au t (xU hx rfl) (A1 ae)
  | const v=>exact VR.ofC ae
  | global gg=>exact VR.ptr (o:=0) (inv.ext _ _ (L.gr gg (A1 ae)))
  | func f=>exact .func (a:=[]) (b:=[]) (a':=[]) (b':=[]) rfl rfl (fun i v v' h=>by simp at h) (fun i v v' h=>by simp at h)
 have ak:∀ lg b,bO nt (F i) (M i).lg ops.toList o=some (b,lg)->Sat lg->Region.wanted o (yielded ops a.tmps)=b:=fun lg b hw aj=>by
  unfold bO at hw;split at hw
  .rename_i hg;cases hw;simp[Region.wanted,hg]
  .rename_i j want hg;split at hw
   .rename_i p hp;split at hw
    .rename_i t ht;obtain⟨h1,u⟩:=A3 hw;have h1:t<nt:=A1 h1;have hv:=au t (by
      unfold V8;refine B7.2 (.inr (B7.2 (.inr ?_)));simp[hg,hp,ht]) h1
     exact nG hg hp ht (by rw[inv.tsz];exact h1) (qD u hv aj)
    .cases hw
   .cases hw
 have ao:∀ (C:Ren) (v':Value),(∀ b l,ρ b=some l->C b=some l)->VR C (V i) v'->∀ t,t<nt->VR C (bA D' (fun k=>(ops[k]?).bind (·.dst)) V (F 0).get t ops.size) ((a.put o.dst v').tmps.getD t undef):=fun C v' he hv t ht=>by
  by_cases hd:o.dst=some t
  .have ag:∀ k,i<k->k<ops.size->(ops[k]?).bind (·.dst)=some t->D k=false:=fun k cu Z bn=>by
    obtain⟨p,hp⟩:=Q3 (ops:=ops) Z;rw[hp]at bn
    have:=g.slot hc bo W hi hr (t:=t) (by unfold V8;simp[hd]) k p hp A2 bn;cases hq:D k with
    | false=>rfl
    | true=>have:=this.1 hq;omega
   rw[sV hD ad ops.size bg (by simp[W,hd]) ag];simp only[hd,Act.put,B8];rw[G6,B0 rfl,B0 (by rw[inv.tsz];exact ht)];exact hv
  .rw[pF hD (by simp[W];exact hd)];have h1:=(inv.frm t ht).mono he;cases bw:o.dst with
   | none=>exact h1
   | some d =>
     have bk:d≠t:=fun e=>hd (e▸bw)
     simp only[Act.put,B8]at h1 ⊢;rw[G6,A8 bk];exact h1
 have J:∀ b,gV M (Dr lo D') b up=true↔(gV M (Dr lo D) b up=true∨((M i).n<=b/\b<(M (i+1)).n)):=fun b=>by
  rw[U5,U5];constructor
  .rintro⟨k,h1,u,h3⟩
   obtain⟨af,u⟩:=Y6.1 u;by_cases e:k=i
   .subst e;exact .inr h3
   .rw[hD k e]at u;exact .inl ⟨k,h1,Y6.2 ⟨af,u⟩,h3⟩
  .rintro(⟨k,h1,u,h3⟩|h3)
   .obtain⟨af,u⟩:=Y6.1 u;have e:k≠i:=fun e=>by subst e;rw[hi]at u;cases u
    exact⟨k,h1,Y6.2 ⟨af,by rw[hD k e];exact u⟩,h3⟩
   .exact⟨i,aw,Y6.2 ⟨ay,ad⟩,h3⟩
 unfold hO;simp only[W];have bz:Sat (M (i+1)).lg:=S2.le hS (by have:=g.lgs S (i:=i+1) (up-(i+1)) A2;rwa[show i+1+(up-(i+1))=up by omega]at this);rcases ah with⟨_,lg,hw,hv,hm⟩|⟨_,lg,bh,hw,hq,hm⟩|⟨bx,_⟩|⟨_,_,lg,hw,mv,m',aq,al,hW,bd,U⟩
 .exact absurd ⟨_,.inl ⟨lg,hw,hv,hm,rfl⟩⟩ bt
 .exact absurd ⟨_,.inr ⟨lg,bh,hw,hq,hm,rfl⟩⟩ bt
 .rw[br]at bx;cases bx
 .have bq:Sat m'.lg:=by rw[LG U]at bz;exact bz
  have aj:Sat lg:=S2.le bq (by have:=aO S al;rw[RT aq]at this;exact this);rw[ak lg true hw aj];simp only[if_true];obtain⟨v1,v2,v3,_,v4⟩:=A31 aq;have v1:mv.n=(M i).n:=v1;have v2:mv.hi=(M i).hi:=v2;have v4:∀ id,id<=I2->∀ ab,Hp.get mv.H id=some ab->Hp.get (M i).H id=some ab/\id ∉ Z5 (DK ((Y9 ops.toList []).getD i []) (R i)):=v4;have ai:=(g.all ph ay A2).2.2.1;obtain⟨q1,q2,q3,q4,q5,q6,_,q7⟩:=LF U ai bd;have q1:(M i).n<=(M (i+1)).n:=q1;have q5:(M (i+1)).n=m'.hi∨((M (i+1)).n=(M i).n/\m'.hi<=(M i).n):=q5;have q7:∀ id,id<=I2->Hp.get (M (i+1)).H id=if(M i).n<=id/\id<(M (i+1)).n then Hp.get m'.H id else Hp.get (M i).H id:=q7
  have I:∀ id,id<=I2->∀ ab,Hp.get mv.H id=some ab->GD M lo up D id=some ab:=fun id hid ab y=>by
   obtain⟨h1,u⟩:=v4 id hid ab y;exact g.see (z:=z) (a:=a) (ρ:=ρ) (w:=w) ph L hc ay aw W hr id hid ab h1 u
  have bm:HR P base ρ mv.H w:=inv.hr.hr I;have T:K4 ρ mv.n m'.hi:=fun b h1 u=>by
   rw[v1]at h1;cases hb:ρ b with
   | none=>rfl
   | some l =>
     exfalso;cases h0:an b with
     | some l0 =>
       rw[L.fr b A2 A2]at h0;cases h0
     | none =>
       obtain⟨k,k1,k2,k3,k4⟩:=(U5 _).1 (inv.new b l hb h0).1;obtain⟨k0,k2⟩:=Y6.1 k2;have cp:k≠i:=fun e=>by subst e;rw[hi]at k2;cases k2
       rcases G1 k i with aa|aa
       .have:=(g.le ph (i:=k+1) (j:=i) A2 A2 A2).1;omega
       .have:=(g.le ph (i:=i+1) (j:=k) A2 A2 A2).1;rcases q5 with q5|⟨_,q5⟩<;>omega
  have cz:At P base gl ρ mv m'.hi w:=⟨bm,C6 L.bs inv.size,T,L.gr.mono inv.ext,(by rw[v1,v2];exact ai),fun b hb=>(by rw[v3]at hb;cases hb),fun k o Z=>⟨(L.gf k o Z).1,(inv.keep k (D7 (L.gf k o Z).1 L.bs)).trans (L.gf k o Z).2⟩⟩;refine qO S al bq cz bc fun v' C w' hv st=>hK C _ w' ?_
  have av:∀ k,k<w.heap.size->w'.heap[k]? = w.heap[k]? := fun k Z=>st.keep k Z fun b hb=>by rw[hW]at hb;cases hb
  have cv:m'.n<=m'.hi:=st.nhi (by rw[v1,v2];exact ai);have ax:∀ b l,C b=some l->ρ b=none->((M i).n<=b/\b<(M (i+1)).n)/\(l.on=true->w.heap.size<=l.blk):=fun b l h1 u=>by
   have h3:=st.new b l h1 u;rw[v1]at h3;refine⟨⟨h3.1,?_⟩,?_⟩
   .rcases q5 with q5|⟨_,q5⟩<;>omega
   .intro W;rcases st.blk b l h1 u W with h|⟨b0,h,_⟩
    .exact h
    .rw[hW]at h;cases h
  have ar:∀ id,id<=I2->(M i).n<=id->id<(M (i+1)).n->GD M lo up D' id=Hp.get m'.H id/\ρ id=none:=fun id hid h1 u=>by
   constructor
   .unfold GD;rw[(J id).2 (.inr ⟨h1,u⟩)];simp only[E5];rw[bj.2.2 id hid u,q7 id hid,B0 ⟨h1,u⟩]
   .refine T id (by rw[v1];exact h1) ?_;rcases q5 with q5|⟨q5,_⟩
    .omega
    .rw[q5]at u;omega
  have Y:∀ id,¬ ((M i).n<=id/\id<(M (i+1)).n)->GD M lo up D' id=GD M lo up D id:=fun id hid=>by
   unfold GD;have:gV M (Dr lo D') id up=gV M (Dr lo D) id up:=by
    rw[K3,J id];exact⟨fun h=>h.elim (fun h=>h) (fun h=>absurd h hid),.inl⟩
   rw[this]
  have ba:∀ k,Ff C (GD M lo up D') k->w.heap.size<=k∨Ff ρ (GD M lo up D) k:=fun k ⟨id,ab,l,hid,y,hl,ht⟩=>by
   by_cases hI:(M i).n<=id/\id<(M (i+1)).n
   .rw[(ar id hid hI.1 hI.2).1]at y;rcases st.tch k ⟨id,ab,l,hid,y,hl,ht⟩with h|⟨A,az,l0,e1,e2,e3,e4⟩
    .exact .inl h
    .exact .inr ⟨A,az,l0,e1,I A e1 az e2,e3,e4⟩
   .rw[Y id hI]at y;obtain⟨l3,c1,_⟩:=inv.hr.at_ id hid ab y;rw[st.ext id l3 c1]at hl
    have:=A9 hl;subst this;exact .inr ⟨id,ab,l3,hid,y,c1,ht⟩
  refine⟨fun b l h=>st.ext b l (inv.ext b l h),fun b l h1 u=>?_,⟨st.hr.dom,fun id hid ab y=>?_⟩,fun k Z=>by rw[av k (D7 Z inv.size),inv.keep k Z],C6 inv.size st.size,⟨st.os.1.trans inv.os.1,st.os.2.1.trans inv.os.2.1,st.os.2.2.trans inv.os.2.2⟩,fun k Z=>(ba k Z).elim (fun h=>.inl (C6 inv.size h)) (inv.tch k),?_,?_,ao C v' st.ext hv⟩
  .cases h0:ρ b with
   | some l1 =>
     rw[st.ext b l1 h0]at h1
     have:=A9 h1;subst this;exact⟨(J b).2 (.inl (inv.new b l1 h0 u).1),(inv.new b l1 h0 u).2⟩
   | none =>
     have:=ax b l h1 h0;exact⟨(J b).2 (.inr this.1),fun W=>C6 inv.size (this.2 W)⟩
  .by_cases hI:(M i).n<=id/\id<(M (i+1)).n
   .obtain⟨h1,u⟩:=ar id hid hI.1 hI.2;rw[h1]at y;obtain⟨l,e1,e2,e3⟩:=st.hr.at_ id hid ab y;refine⟨l,e1,e2,fun O G=>⟨(e3 O G).1,fun q s N l2 f1 f2 f3=>?_⟩⟩;by_cases E:(M i).n<=q/\q<(M (i+1)).n
    .rw[(ar q s E.1 E.2).1]at f1;exact(e3 O G).2 q s N l2 f1 f2 f3
    .rw[Y q E]at f1;obtain⟨l3,c1,c2,_⟩:=inv.hr.at_ q s N f1;rw[st.ext q l3 c1]at f2
     have:=A9 f2;subst this;have h5:=c2.tc f3;have h6:=(ax id l e1 u).2 G;omega
   .rw[Y id hI]at y;obtain⟨l,e1,e2,e3⟩:=inv.hr.at_ id hid ab y;refine⟨l,st.ext _ _ e1,e2.mono st.ext (fun k Z=>av _ (e2.tc Z)),fun O G=>⟨(e3 O G).1,fun q s N l2 f1 f2 f3=>?_⟩⟩;by_cases E:(M i).n<=q/\q<(M (i+1)).n
    .exfalso;rw[(ar q s E.1 E.2).1]at f1;have bf:N.fr=true:=by
      cases hq:N.fr with
      | true=>rfl
      | false =>
        exfalso;rcases f3 with⟨_,h1,u⟩|⟨h1,_⟩
        .have h5:=(ax q l2 f2 (ar q s E.1 E.2).2).2 h1;have h6:=e2.tc (.inl ⟨AB.rw_on O,G,rfl⟩);omega
        .rw[h1]at hq;cases hq
     rcases st.tch _ ⟨q,N,l2,s,f1,f2,bf,f3⟩with h|⟨A,az,l0,c1,c2,c3,_,c4⟩
     .have:=e2.tc (.inl ⟨AB.rw_on O,G,rfl⟩);omega
     .have h7:=(e3 O G).2 A c1 az l0 (I A c1 az c2) c3 c4;subst h7;have h8:=I A c1 az c2;rw[y]at h8;have h8:=A9 h8;subst h8;have h9:A<mv.n∨m'.hi<=A:=by
       rcases G1 A mv.n with h|h
       .exact .inl h
       .rcases G1 A m'.hi with h'|h'
        .rw[T A h h']at e1;cases e1
        .exact .inr h'
      have bp:=st.same A c1 (by rw[hW];simp) h9;rw[c2]at bp;obtain⟨_,bl⟩:=st.hr.atl (st.ext _ _ e1) bp
      have:=(bl O G).2 q s N l2 f1 f2 f3;subst this;exact hI E
    .rw[Y q E]at f1;obtain⟨l3,c1,_⟩:=inv.hr.at_ q s N f1;rw[st.ext q l3 c1]at f2
     have:=A9 f2;subst this;exact(e3 O G).2 q s N l3 f1 c1 f3
  .cases bw:o.dst<;>simp[Act.put,inv.tsz]
  .rw[eW];exact inv.dfr.congr st.ext fun _=>⟨rfl,rfl⟩
end
end
section
open Go
variable [Ora]
def EI:∀ (l:List Bool) (i:Nat),l[i]? = some false->(l.set i true).countP (fun b=>!b)+1=l.countP (fun b=>!b)
 | [],i,h=>by simp at h
 | b::r,0,h=>by simp at h;subst h;simp
 | b::r,i+1,h=>by
   have:=EI r i (by simpa using h);rw[List.set_cons_succ,List.countP_cons,List.countP_cons];omega
def RA{l:List Bool}(h:l.countP (fun b=>!b)=0):∀ i,i<l.length->l[i]? = some true:=fun i hi=>by
 rw[List.countP_eq_zero]at h
 have:=h l[i] (N9 hi);rw[A5 hi];cases a:l[i]with
 | true=>rfl
 | false=>rw[a]at this;exact absurd rfl this
section
variable {P:Program} {base gl:Nat} {call:P1}
def A1G(h:lU m m'=some m2)(a:m.hi<=m'.hi):m.hi<=m2.hi:=by
 unfold lU at h;cases b:Nat.ble m'.hi m.n with
 | true=>rw[b]at h;cases h;exact A6 _
 | false =>
   rw[b]at h;obtain⟨_,h⟩:=A3 h;simp only[E9,eK]at h;cases h;exact a
def BF:∀ {n:Nat} {b:H6} {a:Qs},IJ n b a=true->∀ k,k<n->k ∈ b∨∃ q ∈ a,q.1=k
 | 0,_,_,_,k,h=>by omega
 | n+1,b,a,h,k,hk=>by
   obtain⟨h1,f⟩:=B6 (show((aC b n || a.any fun q=>Nat.beq n q.1) && IJ n b a)=true from h);by_cases e:k=n
   .subst e;rcases J1 _ _▸h1 with h1|h1
    .exact .inl (W3.1 h1)
    .obtain⟨q,d,g⟩:=Q4.1 h1;exact .inr ⟨q,d,(A0 g).symm⟩
   .exact BF f k A2
def zM:∀ {i:Nat} {bs:List H6} {r:List Oper},HA i bs r=true->∀ (j:Nat) (c:List Nat) (o:Oper),bs[j]? = some c->r[j]? = some o->i ∈ c∨aT o.op=true
 | _,[],_,_,j,c,o,h,_=>by simp at h
 | _,_::_,[],_,j,c,o,_,h=>by simp at h
 | i,c0::bs,o0::r,h,j,c,o,h1,h2=>by
   obtain⟨a,b⟩:=B6 (show((aC c0 i || aT o0.op) && HA i bs r)=true from h);cases j with
   | zero =>
     simp at h1 h2;subst h1;subst h2;rcases J1 _ _▸a with a|a
     .exact .inl (W3.1 a)
     .exact .inr a
   | succ j=>exact zM b j c o (by simpa using h1) (by simpa using h2)
def FZ{ops:Array Oper}{X:Nat->Qs}{i:Nat}{o:Oper}(h:A4A ops X i o=true):aT o.op=false:=by
 obtain⟨h,_⟩:=B6 (show(wrO o.op && _)=true from h);cases a:o.op<;>rw[a]at h<;>first
  | rfl
  | cases h
def OS{ops:Array Oper}{X:Nat->Qs}{i:Nat}{o:Oper}(h:A4A ops X i o=true):∀ k,k<i->k ∈ (Y9 ops.toList []).getD i []∨∃ q ∈ X i,q.1=k:=by
 obtain⟨_,h⟩:=B6 (show(wrO o.op && _)=true from h);obtain⟨h,_⟩:=B6 h;exact BF h
def OQ{ops:Array Oper}{X:Nat->Qs}{i:Nat}{o:Oper}(h:A4A ops X i o=true):∀ j p,i<j->ops[j]? = some p->i ∈ (Y9 ops.toList []).getD j []∨aT p.op=true:=fun j p g hp=>by
 obtain⟨_,h⟩:=B6 (show(wrO o.op && _)=true from h);obtain⟨_,h⟩:=B6 h;obtain⟨e,d,b,_⟩:=uY ops.toList [];have hlen:(Y9 ops.toList []).length=ops.size:=by rw[d];simpa using b
 have f:j<ops.size:=(C9.1 hp).1;have a:j<(Y9 ops.toList []).length:=A2
 have:=zM h (j-(i+1)) (Y9 ops.toList [])[j] p (by rw[I4,show i+1+(j-(i+1))=j by omega,A5 a]) (by rw[I4,show i+1+(j-(i+1))=j by omega];exact S9 hp);rw[B2,A5 a];exact this
def tW(ops:Array Oper)(B:Nat->Bool):∀ (d lo:Nat),lo+d=ops.size->∃ up,lo<=up/\up<=ops.size/\(∀ i o,lo<=i->i<up->ops[i]? = some o->B i=false)/\(up<ops.size->∃ o,ops[up]? = some o/\B up=true)
 | 0,lo,h=>⟨lo,A6 _,A2,fun i o h1 f=>by omega,fun f=>by omega⟩
 | d+1,lo,h=>by
   obtain⟨o,j⟩:=Q3 (ops:=ops) (i:=lo) A2;cases g:B lo with
   | true=>exact⟨lo,A6 _,A2,fun i o h1 f=>by omega,fun _=>⟨o,j,g⟩⟩
   | false =>
     obtain⟨up,h1,f,h3,k⟩:=tW ops B d (lo+1) A2;refine⟨up,A2,f,fun i o' a b c=>?_,k⟩;by_cases e:i=lo
     .subst e;exact g
     .exact h3 i o' A2 b c
section
variable {nt:Nat} {ops:Array Oper} {F:Nat->Fr} {M:Nat->Mem} {V:Nat->Value} {R:Nat->List Rec} {X:Nat->Qs} {B:Nat->Bool} {lo up:Nat}
def Rg.frameUp(g:Rg P base gl nt call ops F M V R X B)(a:nt<=512){t:Tmp}(f:t<nt){i:Nat}(hi:i<=ops.size):bA (fun k=>Nat.blt k i) (fun k=>(ops[k]?).bind (·.dst)) V (F 0).get t ops.size=(F i).get t:=by
 rw[g.frame a f i hi];have e:∀ d,i+d<=ops.size->bA (fun k=>Nat.blt k i) (fun k=>(ops[k]?).bind (·.dst)) V (F 0).get t (i+d)=bA (fun k=>Nat.blt k i) (fun k=>(ops[k]?).bind (·.dst)) V (F 0).get t i:=by
  intro d;induction d with
  | zero=>intro _;rfl
  | succ d b =>
    intro j;rw[show i+(d+1)=(i+d)+1 by omega];rw[bA,A8 (fun hh=>by have:i+d<i:=A1 hh.1;omega)];exact b A2
 have:=e (ops.size-i) A2
 rwa[show i+(ops.size-i)=ops.size by omega]at this
def B4D{k i:Nat}:Nat.blt k i=true↔k<i:=⟨fun h=>A1 h,fun h=>C8 h⟩
def Rg.own(g:Rg P base gl nt call ops F M V R X B)(b:nt<=510):∀ (i:Nat),i<=ops.size->(F i).get 510=(F 0).get 510/\(F i).get 511=(F 0).get 511
 | 0,_=>⟨rfl,rfl⟩
 | i+1,hi=>by
   obtain⟨o,j⟩:=Q3 (ops:=ops) (i:=i) A2;obtain⟨d1,_,d3,_⟩:=g.st i o j;have f:=g.own b i A2;have key:∀ t,510<=t->t<512->(F (i+1)).get t=(F i).get t:=fun t h1 k=>by
    rw[d3];cases l:o.dst with
    | none=>rfl
    | some d =>
      rw[l]at d1;have a:d<nt:=A1 d1;show((F i).set d _).get t=_;rw[M3 _ _ _ _ (D7 a A2) k,A8 (fun e=>by subst e;exact absurd a (Nat.not_lt.2 (C6 b h1)))]
   exact⟨(key 510 F0 F0).trans f.1,(key 511 F0 F0).trans f.2⟩
def Rg.inX(g:Rg P base gl nt call ops F M V R X B):∀ (j:Nat),j<=ops.size->∀ q ∈ X j,q.1<j/\q ∈ X (q.1+1)/\∃ o,ops[q.1]? = some o/\eE nt ops.toList (W9 P call o) ((Y9 ops.toList []).getD q.1 []) (R q.1) (F q.1) o (M q.1) (M (q.1+1)) (V q.1) q.2
 | 0,_,q,hq=>by rw[g.x0]at hq;cases hq
 | j+1,hj,q,hq=>by
   obtain⟨o,d⟩:=Q3 (ops:=ops) (i:=j) A2;have old:q ∈ X j->q.1<j+1/\q ∈ X (q.1+1)/\∃ o,ops[q.1]? = some o/\eE nt ops.toList (W9 P call o) ((Y9 ops.toList []).getD q.1 []) (R q.1) (F q.1) o (M q.1) (M (q.1+1)) (V q.1) q.2:=fun h=>by
    obtain⟨h1,b⟩:=g.inX j A2 q h;exact⟨A2,b⟩
   rcases g.qs j o d with⟨_,h,_⟩|⟨_,h⟩|⟨_,r,h,b⟩
   .exact old (h▸hq)
   .exact old (h▸hq)
   .have a:=hq;rw[h]at hq;rcases B4.1 hq with e|e
    .subst e;exact⟨J4 _,a,o,d,b⟩
    .exact old e
def DD{all:List Oper}{b:H6}{fr:Fr}{o:Oper}{v:Value}(h:eE nt all op b rs fr o m m2 v r):∃ lg,m2=m.wLg lg:=by
 rcases h with⟨lg,_,_,h,_⟩|⟨_,a,_,_,h,_⟩
 .exact⟨lg,h⟩
 .exact⟨a,h⟩
def Rg.kind(g:Rg P base gl nt call ops F M V R X B){i:Nat}{o:Oper}(f:ops[i]? = some o)(a:aT o.op=true):eE nt ops.toList (W9 P call o) ((Y9 ops.toList []).getD i []) (R i) (F i) o (M i) (M (i+1)) (V i) none:=by
 obtain⟨_,_,_,h⟩:=g.st i o f;have j:MG (M i).H (F i) o.op=none:=by
  cases d:o.op<;>rw[d]at a<;>first|rfl|cases a
 rcases h with⟨_,lg,h1,b,h3⟩|⟨_,lg,e,h1,b,h3⟩|⟨h,_⟩|⟨_,h,_⟩
 .exact .inl ⟨lg,h1,b,h3,rfl⟩
 .exact .inr ⟨lg,e,h1,b,h3,j.symm⟩
 .rw[FZ (g.sb i o f h)]at a;cases a
 .rw[a]at h;cases h
def Rg.heap{z:Zn}(g:Rg P base gl nt call ops F M V R X B)(f:Ph ops B M lo up){D:Nat->Bool}{p ρ:Ren}{a:Act}{y w':World}(hD:∀ k,lo<=k->k<up->D k=false->∃ lg,M (k+1)=(M k).wLg lg)(inv:Inv z P base gl nt ops F M V lo up p y D ρ a w'):St P base p ρ (M lo) (M up) y w':=by
 have v:∀ id,id<=I2->GD M lo up D id=Hp.get (M up).H id:=fun id hid=>by
  unfold GD;cases hu:gV M (Dr lo D) id up with
  | true=>rfl
  | false =>
    simp only[E0];refine((g.all f f.le (A6 _)).2.2.2.2 id hid ?_).symm;rcases G1 id (M lo).n with h1|h1
    .exact .inl h1
    .rcases G1 id (M up).n with e|e
     .exfalso;have hle:=f.le;obtain⟨k,q,E,x,o⟩:=g.who f (up-lo) A2 id h1 (by rw[show lo+(up-lo)=up by omega];exact e);have s:D k=true:=by
       cases K:D k with
       | true=>rfl
       | false =>
         obtain⟨lg,hm⟩:=hD k q A2 K;rw[hm]at o;have o:id<(M k).n:=o;omega
      rw[(U5 (M:=M) (D:=Dr lo D) up).2 ⟨k,A2,Y6.2 ⟨q,s⟩,x,o⟩]at hu;cases hu
     .exact .inr e
 have d:=g.all f f.le (A6 _);refine⟨inv.ext,fun b l h1 e=>?_,d.1,d.2.1,fun _=>d.2.2.1,inv.hr.hr fun id hid ab u=>by rw[v id hid];exact u,fun b h=>by rw[d.2.2.2.1];exact h,fun b h1 e=>by rw[d.2.2.2.1]at h1;exact absurd h1 e,
     fun k G _=>inv.keep k G,inv.size,inv.os,fun b l h1 e C=>.inl ((inv.new b l h1 e).2 C),fun id hid h1 e=>?_,fun k ⟨id,ab,l,t,w,I,A⟩=>inv.tch k ⟨id,ab,l,t,(v id t).trans w,I,A⟩⟩
 .obtain⟨k,E,J,x,o⟩:=(U5 _).1 (inv.new b l h1 e).1;have q:=(Y6.1 J).1;have t:=(g.le f (i:=lo) (j:=k) (A6 _) q A2).1;have w:=(g.le f (i:=k+1) (j:=up) A2 A2 (A6 _)).1;omega
 .refine d.2.2.2.2 id hid ?_;rcases e with e|e
  .exact .inl e
  .exact .inr (by have:=d.2.2.1;omega)
def Rg.last{z:Zn}(g:Rg P base gl nt call ops F M V R X B)(b:nt<=512){D:Nat->Bool}{d ρ:Ren}{a:Act}{n w':World}(hD:∀ i,i<ops.size->D i=true)(inv:Inv z P base gl nt ops F M V lo up d n D ρ a w'):FrR z ρ nt (F ops.size) a:=by
 have j:=inv.dfr.congr (fun _ _ h=>h) (fun l=>g.own l ops.size (A6 _));refine⟨inv.tsz,b,j.1,j.2,fun t f=>?_⟩;have h1:=inv.frm t f;rw[<- g.frameUp b f (A6 _)]
 rwa[fH (D':=fun k=>Nat.blt k ops.size) ops.size (fun k e _=>by rw[hD k e];exact(B4D.2 e).symm)]at h1
def Rg.fresh{z:Zn}(g:Rg P base gl nt call ops F M V R X B){D:Nat->Bool}{ρ:Ren}{a:Act}{w:World}(hD:∀ k,lo<=k->D k=true->∃ lg,M (k+1)=(M k).wLg lg)(hr:HR P base ρ (M lo).H w)(i:a.tmps.size=nt)(q:ZR z ρ nt (F 0) a.defers)
  (e:∀ t,t<nt->VR ρ (bA D (fun k=>(ops[k]?).bind (·.dst)) V (F 0).get t ops.size) (a.tmps.getD t undef)):Inv z P base gl nt ops F M V lo up ρ w D ρ a w:=by
 have hu:∀ b n,gV M (Dr lo D) b n=false:=fun b n=>by
  cases y:gV M (Dr lo D) b n with
  | false=>rfl
  | true =>
    obtain⟨k,_,h,A,p⟩:=(U5 _).1 y;obtain⟨h1,o⟩:=Y6.1 h;obtain⟨lg,hm⟩:=hD k h1 o;rw[hm]at p;have p:b<(M k).n:=p;omega
 have j:∀ id ab,GD M lo up D id=some ab->Hp.get (M lo).H id=some ab:=fun id ab d=>by
  unfold GD at d;rw[hu]at d;exact d
 exact⟨fun _ _ h=>h,fun b l h1 o=>(by rw[h1]at o;cases o),hr.f fun id hid ab d=>j id ab d,fun _ _=>rfl,A6 _,⟨rfl,rfl,rfl⟩,fun k ⟨id,ab,l,x,s,v,u⟩=>.inr ⟨id,ab,l,x,j id ab s,v,u⟩,i,q,e⟩
def Rg.old{z:Zn}(g:Rg P base gl nt call ops F M V R X B)(d:Ph ops B M lo up){e:Ren}{w0:World}{D:Nat->Bool}(a:At P base gl e (M lo) (M up).hi w0){b:Nat}{ab:AB}(p:zX (M lo).H b ab=true):GD M lo up D b=some ab:=by
 obtain⟨h1,hid⟩:=zW p;unfold GD;have hu:gV M (Dr lo D) b up=false:=by
  cases t:gV M (Dr lo D) b up with
  | false=>rfl
  | true =>
    exfalso;obtain⟨k,x,s,v,w⟩:=(U5 _).1 t;have o:=(Y6.1 s).1;obtain⟨l,f,_⟩:=a.hr.at_ b hid _ h1;have u:=g.le d (i:=lo) (j:=k) (A6 _) o A2;have n:=g.le d (i:=k+1) (j:=up) A2 A2 (A6 _);have q:=(g.all d d.le (A6 _)).2.2.1;rw[a.fr b A2 A2]at f;cases f
 rw[hu];exact h1
end
def A20(hm:P.follows .mixedOrders=true)(T:V7 P base gl call):gO P base gl call:=by
 refine⟨hm,?_⟩;intro nt ops br s s' cp;obtain⟨F,M,V,R,X,B,f1,f2,f3,du,f4,f5,f6⟩:=A5t ops.toList 0 _ _ _ s s' cp;simp only[F5,S0]at f4 f5 f6;have cy:∀ i,i<=ops.size->∀ d,i+d<=ops.size->(M i).hi<=(M (i+d)).hi/\(M i).lg.le (M (i+d)).lg:=by
  intro i _ d;induction d with
  | zero=>intro _;exact⟨A6 _,.refl _⟩
  | succ d ih =>
    intro h;have h1:=ih A2;obtain⟨o,A⟩:=Q3 (ops:=ops) (i:=i+d) A2;obtain⟨bo,_⟩:=f6 (i+d) o (S9 A);refine⟨?_,h1.2.trans (CQ T bo)⟩;obtain⟨_,_,_,O⟩:=bo;rcases O with⟨_,_,_,_,O⟩|⟨_,_,_,_,_,O⟩|⟨_,_,_,_,O⟩|⟨_,_,_,_,mv,m',_,_,_,cd,O⟩
    .show _<=(M (i+d+1)).hi;rw[O];exact h1.1
    .show _<=(M (i+d+1)).hi;rw[O];exact h1.1
    .exact C6 h1.1 O
    .exact C6 h1.1 (A1G O cd)
 have E:∀ i j,i<=j->j<=ops.size->(M i).hi<=(M j).hi/\(M i).lg.le (M j).lg:=fun i j h1 O=>by
  have:=cy i A2 (j-i) A2
  rwa[show i+(j-i)=j by omega]at this
 constructor
 .have:=E 0 ops.size A2 (A6 _);rw[f2,f5]at this;exact this
 .intro z aw a0 w id Q cl ay al hQ;have g:Rg P base gl nt call ops F M V R X B:=⟨fun i o A=>(f6 i o (S9 A)).1,fun i o A=>(f6 i o (S9 A)).2.2.1,fun i o A=>(f6 i o (S9 A)).2.2.2,fun i o A=>(f6 i o (S9 A)).2.1,du,br⟩;have ch:∀ i o,ops[i]? = some o->∀ e ∈ o.after.toList,Region.binds .any e=true->e.on<i:=fun i o A=>by
   have:=(iH _ 0 g.ok i o (S9 A)).1;rw[F5]at this;exact fL this
  refine kZ hm ?_;generalize cr:({ w with drawn:=w.drawn+1 }:World)=w1;have aq:w1.heap=w.heap:=by rw[<- cr]
  have bc:w1.os=w.os/\w1.tape=w.tape/\w1.output=w.output:=by rw[<- cr];exact⟨rfl,rfl,rfl⟩
  have av:At P base gl aw (M 0) (M ops.size).hi w1:=by
   rw[f2,f5];exact⟨⟨fun b l h=>ay.hr.dom b l h,fun id hid ab dn=>by
    obtain⟨l,e1,e2,e3⟩:=ay.hr.at_ id hid ab dn;exact⟨l,e1,e2.mono (fun _ _ h=>h) (fun _ _=>by rw[aq]),e3⟩⟩,by rw[aq];exact ay.bs,ay.fr,ay.gr,ay.nh,ay.wb,fun k o C=>by rw[aq];exact ay.gf k o C⟩
  have ai:∀ i,i<=ops.size->Sat (M i).lg:=fun i hi=>S2.le cl (by rw[<- f5];exact(E i ops.size hi (A6 _)).2)
  have Z:K4 aw (M 0).n (M ops.size).hi:=av.fr;have fin:∀ (ρ:Ren) (a:Act) (w':World),FrR z ρ nt (F ops.size) a->St P base aw ρ (M 0) (M ops.size) w1 w'->Q .normal a w':=fun ρ a w' hf st=>by
   refine hQ ρ a w' (by rw[<- f4];exact hf) ?_;rw[<- f2,<- f5];exact⟨st.ext,st.new,st.nle,st.hle,st.nhi,st.hr,st.wsub,st.wrw,fun k C hb=>by rw[st.keep k (by rw[aq];exact C) hb,aq],by rw[<- aq];exact st.size,⟨st.os.1.trans bc.1,st.os.2.1.trans bc.2.1,st.os.2.2.trans bc.2.2⟩,fun b l h1 O h3=>by rw[<- aq];exact st.blk b l h1 O h3,st.same,fun k C=>by rw[<- aq];exact st.tch k C⟩
  have main:∀ (fuel:Nat) (listed:Array Bool) (lo up:Nat) (K ρ:Ren) (a:Act) (wL w':World),listed.size=ops.size->listed.toList.countP (fun b=>!b)=fuel->mZ ops.toList (fun k=>listed.getD k false=true) ->
    Ph ops B M lo up->(up<ops.size->∃ o,ops[up]? = some o/\B up=true)->St P base aw K (M 0) (M lo) w1 wL->At P base gl K (M lo) (M ops.size).hi wL->(∀ q ∈ X lo,listed.getD q.1 false=false->A63 (M lo).H q.2=true)->(∀ k,k<lo->listed.getD k false=false->∃ q ∈ X lo,q.1=k)->(∀ k o,up<=k->ops[k]? = some o->listed.getD k false=true->aT o.op=true) ->
    Inv z P base gl nt ops F M V lo up K wL (fun k=>listed.getD k false) ρ a w'->iT P z.rd .any ops Q fuel listed a w':=by
   have done:∀ (listed:Array Bool) (lo up:Nat) (K ρ:Ren) (a:Act) (wL w':World),(∀ i,i<ops.size->listed.getD i false=true)->Ph ops B M lo up->(up<ops.size->∃ o,ops[up]? = some o/\B up=true)->St P base aw K (M 0) (M lo) w1 wL->(∀ k o,up<=k->ops[k]? = some o->listed.getD k false=true->aT o.op=true) ->
     Inv z P base gl nt ops F M V lo up K wL (fun k=>listed.getD k false) ρ a w'->Q .normal a w':=fun listed lo up K ρ a wL w' W ph J ah L inv=>by
    have cj:up=ops.size:=by
     rcases G1 up ops.size with h|h
     .obtain⟨o,A,hs⟩:=J h
      have:=L up o (A6 _) A (W up h);rw[FZ (g.sb up o A hs)]at this;cases this
     .have:=ph.sz;omega
    subst cj;exact fin ρ a w' (g.last al.le W inv) (St.trans Z ah (g.heap ph (fun k _ h1 O=>by have O:listed.getD k false=false:=O;rw[W k h1]at O;cases O) inv))
   intro fuel;induction fuel with
   | zero =>
     intro listed lo up K ρ a wL w' cw bk ax ph J ah aa bd bz L inv;have W:∀ i,i<ops.size->listed.getD i false=true:=fun i hi=>by
      have:=RA bk i (by simpa [cw]using hi);have O:listed[i]? = some true:=by simpa using this
      simp[B8,O]
     refine⟨?_,done listed lo up K ρ a wL w' W ph J ah L inv⟩;rw[cG];intro j hj;obtain⟨h1,o,O,_⟩:=mem_ready.1 hj;have an:j<ops.size:=(C9.1 O).1;have h3:=W j an;have ba:j<listed.size:=A2;simp[B8,ba]at h1 h3;rw[h1]at h3;cases h3
   | succ fuel ih =>
     intro listed lo up K ρ a wL w' cw bk ax ph J ah aa bd bz L inv;refine⟨fun ds=>?_,fun i hi=>?_⟩
     ·
      have key:∀ n i,i<n->i<ops.size->listed.getD i false=true:=by
       intro n;induction n with
       | zero=>intro i h;omega
       | succ n bl =>
         intro i dh bm;by_cases h:i<n
         .exact bl i h bm
         .cases Y:listed.getD i false with
          | true=>rfl
          | false =>
            exfalso;obtain⟨o,A⟩:=Q3 (ops:=ops) bm;have bg:i ∈ Region.ready .any ops listed:=mem_ready.2 ⟨by
             have ba:i<listed.size:=A2;simp[B8,ba]at Y ⊢;exact Y,o,A,fun e he hb=>by
             have an:=ch i o A e (by simpa using he) hb;exact bl e.on A2 A2⟩
            rw[ds]at bg;cases bg
      exact done listed lo up K ρ a wL w' (fun i hi=>key (i+1) i (J4 i) hi) ph J ah L inv
     .obtain⟨h1,o,A,O⟩:=mem_ready.1 hi;have bm:i<ops.size:=(C9.1 A).1;have ag:i<listed.size:=A2;have az:listed.getD i false=false:=by
       simp[B8,ag]at h1 ⊢;exact h1
      have u:∀ k,k≠i->(listed.setIfInBounds i true).getD k false=listed.getD k false:=fun k C=>by
       simp only[B8,G6];rw[A8 (fun e=>C e.symm)]
      have I:(listed.setIfInBounds i true).getD i false=true:=by
       simp[B8,G6,ag]
      have hr:∀ e ∈ o.after.toList,Region.binds .any e=true->listed.getD e.on false=true:=fun e he hb=>O e (by simpa using he) hb
      have bf:(listed.setIfInBounds i true).size=ops.size:=by simpa using cw
      have bx:(listed.setIfInBounds i true).toList.countP (fun b=>!b)=fuel:=by
       have hg:listed.toList[i]? = some false:=by
        simp[B8,ag]at az;simp[ag,az]
       have:=EI listed.toList i hg;rw[Array.toList_setIfInBounds];omega
      have bj:mZ ops.toList (fun k=>(listed.setIfInBounds i true).getD k false=true):=by
       intro k o' ct C e he hb;by_cases e1:e.on=i
       .rw[e1];exact I
       .show(listed.setIfInBounds i true).getD e.on false=true;rw[u e.on e1];by_cases e2:k=i
        .subst e2;have:ops.toList[k]? = some o:=S9 A;rw[this]at ct;cases ct;exact hr e he hb
        .have C:(listed.setIfInBounds i true).getD k false=true:=C;rw[u k e2]at C;exact ax k o' ct C e he hb
      have bu:∀ k,k ∈ (Y9 ops.toList []).getD i []->listed.getD k false=true:=fun k C=>BH ax (fun i o A=>by
        have:=(iH _ 0 g.ok i o A).1;rw[F5]at this;exact fL this) (i+1) i k o (J4 i) (S9 A) hr C
      have an:∀ k,listed.getD k false=true->k<ops.size:=fun k C=>by
       rcases G1 k ops.size with h|h
       .exact h
       .have S:listed[k]? = none:=Array.getElem?_eq_none_iff.2 A2;rw[B8,S]at C;cases C
      have af:At P base gl K (M lo) (M up).hi wL:=aa.less (E up ops.size ph.sz (A6 _)).1;have go:∀ (y:Ren) (a':Act) (G:World),(up<=i->aT o.op=true)->Inv z P base gl nt ops F M V lo up K wL (fun k=>(listed.setIfInBounds i true).getD k false) y a' G->iT P z.rd .any ops Q fuel (listed.setIfInBounds i true) a' G:=fun y a' G Y ar =>
       ih (listed.setIfInBounds i true) lo up K y a' wL G bf bx bj ph J ah aa (fun q Y S=>bd q Y (by
        by_cases e:q.1=i
        .rw[e,I]at S;cases S
        .rw[u _ e]at S;exact S)) (fun k C S=>by
        by_cases e:k=i
        .subst e;rw[I]at S;cases S
        .rw[u k e]at S;exact bz k C S) (fun k p C hp hl=>by
        by_cases e:k=i
        .subst e;rw[A]at hp;cases hp;exact Y C
        .rw[u k e]at hl;exact L k p C hp hl) ar
      have quiet:∀ r,(up<=i->aT o.op=true)->eE nt ops.toList (W9 P call o) ((Y9 ops.toList []).getD i []) (R i) (F i) o (M i) (M (i+1)) (V i) r->(∀ b ab,r=some (b,ab)->GD M lo up (fun k=>listed.getD k false) b=some ab)->hO P z.rd ops Q i (fun a' G=>iT P z.rd .any ops Q fuel (listed.setIfInBounds i true) a' G) a w':=fun r Y U dr =>
       g.quiet T af (ai (i+1) A2) al.le inv ax an A az hr u I U dr fun y a' G ar=>go y a' G Y ar
      rcases G1 i lo with ae|ae
      ·
       obtain⟨q,ck,cn⟩:=bz i ae az;obtain⟨_,_,p,hp,U⟩:=g.inX lo (by have:=ph.sz;have:=ph.le;omega) q ck;rw[cn]at hp U;rw[A]at hp;cases hp;refine quiet q.2 (fun h=>by have:=ph.le;omega) U fun b ab hb=>?_
       refine g.old (z:=z) ph af ?_
       have:=bd q ck (by rw[cn];exact az);rw[hb]at this;exact this
      .rcases G1 i up with cv|cv
       ·
        by_cases hex:∃ r,eE nt ops.toList (W9 P call o) ((Y9 ops.toList []).getD i []) (R i) (F i) o (M i) (M (i+1)) (V i) r
        .obtain⟨r,U⟩:=hex;refine quiet r (fun h=>by omega) U fun b ab hb=>?_
         rcases U with⟨_,_,_,_,dp⟩|⟨lg,di,hw,Y,hm,dw⟩
         .rw[dp]at hb;cases hb
         .obtain⟨mv,m',cu,_⟩:=lM Y;obtain⟨h3,h4⟩:=(tR cu).2.2.2.2.2 b ab (dw.symm.trans hb);obtain⟨h5,h6⟩:=zW h3;exact g.see (z:=z) (a:=a) (ρ:=ρ) (w:=w') ph af ax ae cv A hr b h6 _ h5 h4
        .exact g.step ph T af (ai up ph.sz) al.le inv ax an ae cv A az hr u I hex fun y a' G ar=>go y a' G (fun h=>by omega) ar
       .obtain⟨os,bq,au⟩:=J A2;rcases G1 up i with dt|dk
        ·
         have C:aT o.op=true:=by
          rcases OQ (g.sb up os bq au) i o dt A with h|h
          .have h3:=L up os (A6 _) bq (bu up h);rw[FZ (g.sb up os bq au)]at h3;cases h3
          .exact h
         exact quiet none (fun _=>C) (g.kind A C) fun b ab hb=>by cases hb
        ·
         have cm:i=up:=A2;subst cm;rw[A]at bq;cases bq;have ad:∀ k,k<i->listed.getD k false=false->∃ q ∈ X i,q.1=k:=fun k C S=>by
          rcases OS (g.sb i o A au) k C with h|h
          .rw[bu k h]at S;cases S
          .exact h
         have q2:=g.heap ph (fun k _ C S=>by
          obtain⟨q,Y,e⟩:=ad k C S;obtain⟨_,_,p,hp,U⟩:=g.inX i A2 q Y;rw[e]at U;exact DD U) inv
         have dm:St P base aw ρ (M 0) (M i) w1 w':=St.trans (Z.less (E i ops.size A2 (A6 _)).1) ah q2;have ao:At P base gl ρ (M i) (M ops.size).hi w':=aa.step q2;obtain⟨d1,d2,d3,bo⟩:=g.st i o A;have bw:∀ t,t ∈ V8 ops.toList o->t<nt->VR ρ ((F i).get t) (a.tmps.getD t undef):=fun t ht cb=>by
          rw[<- g.look al.le ax an A az hr ht cb];exact inv.frm t cb
         have dq:FR ρ (F i) a.eval o.op:=fun x hx=>by
          have br:okX nt gl x=true:=D6.1 d2 x hx;cases x with
          | tmp t=>exact bw t (xU hx rfl) (A1 br)
          | const v=>exact VR.ofC br
          | global gg=>exact VR.ptr (o:=0) (ao.gr gg (A1 br))
          | func f=>exact .func (a:=[]) (b:=[]) (a':=[]) (b':=[]) rfl rfl (fun i v v' h=>by simp at h) (fun i v v' h=>by simp at h)
         have bb:∀ lg b,bO nt (F i) (M i).lg ops.toList o=some (b,lg)->Sat lg->Region.wanted o (yielded ops a.tmps)=b:=fun lg b hw cz=>by
          unfold bO at hw;split at hw
          .rename_i hg;cases hw;simp[Region.wanted,hg]
          .rename_i j want hg;split at hw
           .rename_i p hp;split at hw
            .rename_i t ht;obtain⟨h1,O⟩:=A3 hw;have h1:t<nt:=A1 h1;have hv:=bw t (by
              unfold V8;refine B7.2 (.inr (B7.2 (.inr ?_)));simp[hg,hp,ht]) h1
             exact nG hg hp ht (by rw[inv.tsz];exact h1) (qD O hv cz)
            .cases hw
           .cases hw
         have bn:∀ (y:Ren) (v':Value),(∀ b l,ρ b=some l->y b=some l)->VR y (V i) v'->∀ t,t<nt->VR y (bA (fun k=>(listed.setIfInBounds i true).getD k false) (fun k=>(ops[k]?).bind (·.dst)) V (F 0).get t ops.size) ((a.put o.dst v').tmps.getD t undef):=fun y v' he hv t ht=>by
          by_cases hd:o.dst=some t
          .have ak:∀ k,i<k->k<ops.size->(ops[k]?).bind (·.dst)=some t->listed.getD k false=false:=fun k dj C dz=>by
            obtain⟨p,hp⟩:=Q3 (ops:=ops) C;rw[hp]at dz
            have:=g.slot ax an A az hr (t:=t) (by unfold V8;simp[hd]) k p hp A2 dz;cases Y:listed.getD k false with
            | false=>rfl
            | true=>have:=this.1 Y;omega
           rw[sV (D:=fun k=>listed.getD k false) u I ops.size bm (by simp[A,hd]) ak];simp only[hd,Act.put,B8];rw[G6,B0 rfl,B0 (by rw[inv.tsz];exact ht)];exact hv
          .rw[pF (D:=fun k=>listed.getD k false) u (by simp[A];exact hd)];have h1:=(inv.frm t ht).mono he;cases cf:o.dst with
           | none=>exact h1
           | some d =>
             have dy:d≠t:=fun e=>hd (e▸cf)
             simp only[Act.put,B8]at h1 ⊢;rw[G6,A8 dy];exact h1
         have hX:X (i+1)=X i/\A10 ((Y9 ops.toList []).getD i []) (M (i+1)).H (X i)=true:=by
          rcases g.qs i o A with⟨_,h3,h4⟩|⟨h3,_⟩|⟨h3,_⟩
          .exact⟨h3,h4⟩
          .rw[au]at h3;cases h3
          .rw[au]at h3;cases h3
         have ak:∀ (y:Ren) (v':Value) (G:World),VR y (V i) v'->St P base ρ y (M i) (M (i+1)) w' G->iT P z.rd .any ops Q fuel (listed.setIfInBounds i true) (a.put o.dst v') G:=fun y v' G hv aj=>by
          obtain⟨dx,u1,u2,u3,u4⟩:=tW ops B (ops.size-(i+1)) (i+1) A2;have bh:=ao.step aj;refine ih (listed.setIfInBounds i true) (i+1) dx y y _ G G bf bx bj ⟨u1,u2,bh.nh,u3⟩ u4 (St.trans (Z.less (E (i+1) ops.size A2 (A6 _)).1) dm aj) bh (fun q Y S=>?_) (fun k C S=>?_) (fun k p C hp hl=>?_)
           (g.fresh (fun k C hl=>?_) aj.hr ?_ ?_ (bn y v' aj.ext hv))
          .rw[hX.1]at Y;have h5:=D6.1 hX.2 q Y;rcases J1 _ _▸h5 with h5|h5
           .exfalso;have h6:=bu q.1 (W3.1 h5);by_cases e:q.1=i
            .rw[e,az]at h6;cases h6
            .rw[u _ e,h6]at S;cases S
           .exact h5
          .rw[hX.1];by_cases e:k=i
           .subst e;rw[I]at S;cases S
           .rw[u k e]at S;exact ad k A2 S
          .rw[u k A2]at hl;exact L k p A2 hp hl
          .have hl:(listed.setIfInBounds i true).getD k false=true:=hl;rw[u k A2]at hl;obtain⟨p,hp⟩:=Q3 (ops:=ops) (an k hl);exact DD (g.kind hp (L k p A2 hp hl))
          .cases cf:o.dst<;>simp[Act.put,inv.tsz]
          .rw[eW];exact inv.dfr.congr aj.ext fun _=>⟨rfl,rfl⟩
         unfold hO;simp only[A];rcases bo with⟨N,_⟩|⟨N,_⟩|⟨_,lg,hw,bt,cd⟩|⟨N,_⟩
         .rw[au]at N;cases N
         .rw[au]at N;cases N
         .have ca:=ai (i+1) A2;have cz:Sat lg:=S2.le ca (by have:=aO T bt;rw[g8]at this;exact this);rw[bb lg true hw cz];simp only[if_true];have cg:At P base gl ρ ((M i).wLg lg) (M (i+1)).hi w':=(ao.wLg lg).less (E (i+1) ops.size A2 (A6 _)).1;refine qO T bt ca cg dq fun v' y G hv aj=>ak y v' G hv ?_
          have cq:=St.wLg (m:=M i) ao.hr lg;exact St.trans (by have:=ao.fr;exact this.less (E (i+1) ops.size A2 (A6 _)).1) cq aj
         .rw[au]at N;cases N
  obtain⟨up,u1,u2,u3,u4⟩:=tW ops B ops.size 0 A2;have bp:∀ k,(Array.replicate ops.size false).getD k false=false:=fun k=>by
   simp only[B8,hH];split<;>simp
  refine main ops.size _ 0 up aw aw a0 w1 w1 (by simp) (by simp[List.countP_replicate]) (fun k o A C=>by have C:(Array.replicate ops.size false).getD k false=true:=C;rw[bp k]at C;cases C) ⟨u1,u2,av.nh,u3⟩ u4 (St.refl av.hr) av (fun q Y=>by rw[g.x0]at Y;cases Y) (fun k C=>by omega) (fun k o C A hl=>by rw[bp k]at hl;cases hl)
   (g.fresh (fun k _ hl=>by have hl:(Array.replicate ops.size false).getD k false=true:=hl;rw[bp k]at hl;cases hl) av.hr al.size (by rw[f1];exact al.zr) fun t ht=>?_)
  have h0:∀ n,bA (fun k=>(Array.replicate ops.size false).getD k false) (fun k=>(ops[k]?).bind (·.dst)) V (F 0).get t n=(F 0).get t:=by
   intro n;induction n with
   | zero=>rfl
   | succ n bl=>rw[bA,A8 (fun hh=>by rw[bp n]at hh;exact absurd hh.1 (by simp)),bl]
  rw[h0,f1];exact al.get t ht
end
end
section
open Go
variable [Ora]
section
variable {P:Program} {base gl:Nat}
def xH{f:FuncId}{e:W4->Sem Value}{args:W4}{w w':World}{v:Value}(i:P.funcs[f]? = some fn)(b:(fn.name == "runtime.NumGoroutine")=false)(g:fn.body=none)(d:Extern.findNext fn=none)(he:Extern.find fn=some e)
  (hr:(e args).run P w=.ok v w'):(callFunc f args).run P w=.ok (.value v) w':=by
 have a:fn.name ≠ "runtime.NumGoroutine":=by simpa using b
 simp[callFunc,A4,run_program,Result.andThen,i,a,g,d,he,mark,Sem.run,hr]
def mL{k:EK}{vs:D2}{v:Value}(h:pL k vs m=some (v,m')) :
  (k=.noEscape/\vs=[v]/\m'=m) ∨
  (k=.indexByteString/\∃ s c,vs=[.string s,.int .u8 (.ofNat c)]/\v=.int .i64 (uG s.data.toList (UInt8.ofNat c) 0)/\m'=m) ∨
  (k=.countString/\∃ s c,vs=[.string s,.int .u8 (.ofNat c)]/\v=.int .i64 (uS (UInt8.ofNat c) s.data.toList 0)/\m'=m) ∨
  (∃ e n,k=.makeNoZero e/\vs=[.int .i64 (.ofNat n)]/\n<=1000000000/\Z4 m (.cells [] e false) (fun b=>.slice (some ⟨b,0,none⟩) n N3)=some (v,m')):=by
 unfold pL at h;split at h
 .cases h;exact .inl ⟨rfl,rfl,rfl⟩
 .cases h;exact .inr (.inl ⟨rfl,_,_,rfl,rfl,rfl⟩)
 .cases h;exact .inr (.inr (.inl ⟨rfl,_,_,rfl,rfl,rfl⟩))
 .obtain⟨h1,h⟩:=A3 h;exact .inr (.inr (.inr ⟨_,_,rfl,rfl,A1 h1,h⟩))
 .cases h
def xI{k:EK}{vs:D2}{v:Value}(h:(FnC.mk (pL k)).run vs m=some (v,m')):m.lg.le m'.lg:=by
 have h:pL k vs m=some (v,m'):=h;rcases mL h with⟨_,_,rfl⟩|⟨_,_,_,_,_,rfl⟩|⟨_,_,_,_,_,rfl⟩|⟨_,_,_,_,_,h⟩
 .exact .refl _
 .exact .refl _
 .exact .refl _
 .obtain⟨_,_,rfl⟩:=M0 h;exact .refl _
def LD{f:FuncId}(j:P.funcs[f]? = some fn)(a:(fn.name == "runtime.NumGoroutine")=false)(g:fn.body=none)(d:Extern.findNext fn=none)(he:Extern.find fn=some Extern.AbiNoEscape.same):mY P base gl f ⟨pL .noEscape⟩:=by
 refine⟨fun vs m m' v hr=>xI hr,?_⟩;intro ρ m m' w vs vs' v hr k b i;have hr:pL .noEscape vs m=some (v,m'):=hr;rcases mL hr with⟨_,rfl,rfl⟩|⟨h,_⟩|⟨h,_⟩|⟨_,_,h,_⟩
 .obtain⟨v',l,rfl,h1,e⟩:=i.tail;cases e.nil_inv;exact .inr ⟨v',ρ,w,xH j a g d he rfl,h1,.refl b.hr⟩
 .cases h
 .cases h
 .cases h
def DU(c:UInt8):∀ (l:List UInt8) (k:Nat),uG l c k=if Lib.indexByte l c == -1 then -1 else Lib.indexByte l c+k
 | [],k=>rfl
 | x::r,k=>by
   have f:=Lib.indexByte_ge r c;have a:=DU c r (k+1);rw[uG,Lib.indexByte];by_cases e:x=c
   .subst e;simp
   .have d:(x == c)=false:=by simpa using e
    simp only[d,E3 e,E0];rw[a];by_cases h:Lib.indexByte r c = -1
    .simp[h]
    .have b:(Lib.indexByte r c == -1)=false:=by simpa using h
     have h3:(Lib.indexByte r c+1 == -1)=false:=by simp;omega
     simp only[b,h3,J8,if_false];omega
def QQ(c:UInt8)(l:List UInt8):uG l c 0=Lib.indexByte l c:=by
 rw[DU];by_cases h:Lib.indexByte l c = -1
 .simp[h]
 .have a:(Lib.indexByte l c == -1)=false:=by simpa using h
  simp[a]
def pN(c:UInt8):∀ (l:List UInt8) (n:Nat),uS c l n=n+l.count c
 | [],n=>rfl
 | x::r,n=>by
   rw[uS,List.count_cons];by_cases e:x=c
   .subst e;simp only[decide_true,E5,E9,beq_self_eq_true,if_true];rw[pN x r (n+1)];omega
   .have a:(x == c)=false:=by simpa using e
    simp only[E3 e,E0,a,J8,if_false];rw[pN c r n];omega
def HK{f:FuncId}(k:P.funcs[f]? = some fn)(a:(fn.name == "runtime.NumGoroutine")=false)(g:fn.body=none)(d:Extern.findNext fn=none)(he:Extern.find fn=some Extern.BytealgIndexByte.indexByte):mY P base gl f ⟨pL .indexByteString⟩:=by
 refine⟨fun vs m m' v hr=>xI hr,?_⟩;intro ρ m m' w vs vs' v hr l b i;have hr:pL .indexByteString vs m=some (v,m'):=hr;rcases mL hr with⟨h,_⟩|⟨_,s,c,rfl,rfl,rfl⟩|⟨h,_⟩|⟨_,_,h,_⟩
 .cases h
 .obtain⟨v1,r1,rfl,h1,e⟩:=i.tail;obtain⟨v2,n,rfl,h3,j⟩:=e.tail;cases j.nil_inv;cases V0 h1;cases J5 h3;refine .inr ⟨_,ρ,w,xH k a g d he (Lib.run_indexByteString s (.ofNat c) w),?_,.refl b.hr⟩;rw[QQ];exact .pure rfl
 .cases h
 .cases h
def AN{f:FuncId}(k:P.funcs[f]? = some fn)(a:(fn.name == "runtime.NumGoroutine")=false)(g:fn.body=none)(d:Extern.findNext fn=none)(he:Extern.find fn=some Extern.BytealgCount.count):mY P base gl f ⟨pL .countString⟩:=by
 refine⟨fun vs m m' v hr=>xI hr,?_⟩;intro ρ m m' w vs vs' v hr l b i;have hr:pL .countString vs m=some (v,m'):=hr;rcases mL hr with⟨h,_⟩|⟨h,_⟩|⟨_,s,c,rfl,rfl,rfl⟩|⟨_,_,h,_⟩
 .cases h
 .cases h
 .obtain⟨v1,r1,rfl,h1,e⟩:=i.tail;obtain⟨v2,n,rfl,h3,j⟩:=e.tail;cases j.nil_inv;cases V0 h1;cases J5 h3;refine .inr ⟨_,ρ,w,xH k a g d he (Lib.run_countString s (.ofNat c) w),?_,.refl b.hr⟩;rw[pN,F5];exact .pure rfl
 .cases h
def CB{f:FuncId}{ps:Array TypeId}{t e:TypeId}(z:P.funcs[f]? = some fn)(g:(fn.name == "runtime.NumGoroutine")=false)(q:fn.body=none)(p:Extern.findNext fn=none)(he:Extern.find fn=some (Extern.BytealgMakeNoZero.makeNoZero ps #[t]))
  (hu:P.underlying t=some (.slice e)) (hi:(P.info? e).map (·.size)=some 1):mY P base gl f ⟨pL (.makeNoZero e)⟩:=by
 refine⟨fun vs m m' v hr=>xI hr,?_⟩;intro ρ m m' w vs vs' v hr A a x;have hr:pL (.makeNoZero e) vs m=some (v,m'):=hr;rcases mL hr with⟨h,_⟩|⟨h,_⟩|⟨h,_⟩|⟨e',n,h,rfl,l,hr⟩
 .cases h
 .cases h
 .cases h
 .cases h;obtain⟨v1,r1,rfl,h1,j⟩:=x.tail;cases j.nil_inv;cases J5 h1;obtain⟨cs,d,hle,_⟩:=Lib.run_makeNoZero (P:=P) w ps t e hu n A2;obtain⟨y,k,s⟩:=eH (wd:=w.drew.drew) (fz:=(0,0)) (cap:=cs.size) (C:=cs) (cs':=[]) a.hr a.bs hr a.fr (.nil) (fun i u hi=>by simp at hi) NF.zero
   (fun inf j=>by rw[j]at hi;have hi:some inf.size=some 1:=hi;have hi:=A9 hi;rw[hi];omega) ⟨rfl,rfl,rfl⟩ rfl
  refine .inr ⟨_,_,_,xH z g q p he d,?_,s⟩;rw[y]
  have:=VR.op (ρ:=upd ρ m.n (lc w.heap.size 0 cs.size)) (b:=m.n) (o:=0) (n:=n) (m:=N3) (m':=cs.size) k (A6 _) hle (fun _ _=>rfl)
  simpa using this
end
end
section
open Go
variable [Ora]
structure BJ (P:Program) (f:FuncId) (k:EK):Prop where
 row:∃ fn,P.funcs[f]? = some fn/\(fn.name == "runtime.NumGoroutine")=false/\fn.body=none/\Extern.findNext fn=none /\
  ((k=.noEscape/\Extern.find fn=some Extern.AbiNoEscape.same)∨(k=.indexByteString/\Extern.find fn=some Extern.BytealgIndexByte.indexByte)∨(k=.countString/\Extern.find fn=some Extern.BytealgCount.count) ∨
    (∃ e ps t,k=.makeNoZero e/\Extern.find fn=some (Extern.BytealgMakeNoZero.makeNoZero ps #[t])/\P.underlying t=some (.slice e)/\(P.info? e).map (·.size)=some 1))
def BJ.ok{P:Program}{f:FuncId}{k:EK}{base gl:Nat}(h:BJ P f k):mY P base gl f ⟨pL k⟩:=by
 obtain⟨fn,h1,b,h3,d,a⟩:=h.row;rcases a with⟨rfl,a⟩|⟨rfl,a⟩|⟨rfl,a⟩|⟨e,ps,t,rfl,a,i,g⟩
 .exact LD h1 b h3 d a
 .exact HK h1 b h3 d a
 .exact AN h1 b h3 d a
 .exact CB h1 b h3 d a i g
def ED:∀ {l:List (FuncId×EK)} {f:FuncId} {k:EK},MN l f=some k->(f,k) ∈ l
 | (g,j)::r,f,k,h=>by
   rw[MN]at h;cases e:Nat.beq g f with
   | true =>
     rw[e]at h;cases h;rw[A0 e];exact .head _
   | false =>
     rw[e]at h;exact .tail _ (ED h)
theorem A5M{P:Program}{ext:List (FuncId×EK)}{gl base:Nat}{con:FuncId->Option FnC}{lp:FuncId->LpT}(hm:P.follows .mixedOrders=true)(a:IN P)(he:∀ p ∈ ext,BJ P p.1 p.2)
  (b:∀ f c,con f=some c->mY P base gl f c) (d:∀ f fn body,P.funcs[f]? = some fn->fn.body=some body->RP P base gl fn.ntmps body (lp f)) :
  A5o ⟨P,ext,gl,con,lp⟩ base :=
 { names:=a,ext:=fun f k fn _ _ h=>(he _ (ED h)).ok,con:=b,lp:=d,draws:=fun _ h=>A20 hm h }
end
section
open Go
inductive Sh where
 | s (t:Nat)
 | a (ts:List Nat)
def JC(t:Nat)(u:U):R1:=if G7 u=t then toV u else none
def VT:H6->List U->Option (D2×List U)
 | [],us=>some ([],us)
 | t::ts,u::us=>match JC t u,VT ts us with
   | some v,some (vs,r)=>some (v::vs,r)
   | _,_=>none
 | _::_,[]=>none
def JB:Sh->List U->Option (Value×List U)
 | .s t,u::us=>match JC t u with
   | some v=>some (v,us)
   | none=>none
 | .s _,[]=>none
 | .a ts,us=>match VT ts us with
   | some (vs,r)=>some (.agg ⟨vs⟩,r)
   | none=>none
def VS:List Sh->List U->Option D2
 | [],[]=>some []
 | [],_::_=>none
 | h::hs,us=>match JB h us with
   | some (v,r)=>match VS hs r with
     | some vs=>some (v::vs)
     | none=>none
   | none=>none
def tup:D2->Value
 | [v]=>v
 | vs=>.tuple ⟨vs⟩
structure mX (w w':World):Prop where
 os:w'.os=w.os/\w'.tape=w.tape/\w'.output=w.output
 size:w.heap.size<=w'.heap.size
 keep:∀ k,k<w.heap.size->w'.heap[k]? = w.heap[k]?
def GOk(G:Nat->Option Obj)(w:World):Prop:=∀ k o,G k=some o->w.heap[k]? = some o
def GOk.lt{G:Nat->Option Obj}{w:World}(h:GOk G w){k:Nat}{o:Obj}(a:G k=some o):k<w.heap.size:=by
 have:=h k o a;rcases G1 k w.heap.size with h1|h1
 .exact h1
 .rw[Array.getElem?_eq_none h1]at this;cases this
abbrev dL:=List U->Option (Nat×List U)
def Sh.tags:Sh->H6
 | .s t=>[t]
 | .a ts=>ts
def CP:List Sh->H6
 | []=>[]
 | s::ss=>s.tags++CP ss
def Sh.n(s:Sh):Nat:=s.tags.length
def shN:List Sh->Nat
 | []=>0
 | h::hs=>h.n+shN hs
def mP(a:List Sh):Bool:=(CP a).any (Nat.ble 10)
inductive ShR (R:Nat->Option Obj):Sh->List U->Value->Prop
 | s {t u v} (h:Enc R u v) (ht:G7 u=t):ShR R (.s t) [u] v
 | a {ts us cs} (h:Z0 R us cs) (ht:us.map G7=ts):ShR R (.a ts) us (.agg ⟨cs⟩)
inductive ShL (R:Nat->Option Obj):List Sh->List U->D2->Prop
 | nil:ShL R [] [] []
 | cons {s ss us us2 v vs} (h:ShR R s us v) (k:ShL R ss us2 vs):ShL R (s::ss) (us++us2) (v::vs)
def Z0.append{R:Nat->Option Obj}{us a:List U}{vs:D2}(h:Z0 R us vs)(k:Z0 R a vs2):Z0 R (us++a) (vs++vs2):=by
 refine⟨by simp[h.1,k.1],fun i u v h1 d=>?_⟩;rcases G1 i us.length with b|b
 .rw[F2 b]at h1;rw[F2 (h.1▸b)]at d;exact h.2 i u v h1 d
 .rw[E1 b]at h1;rw[E1 (h.1▸b),<- h.1]at d;exact k.2 _ u v h1 d
def Z0.split{R:Nat->Option Obj}:∀ {vs vs2:D2} {us:List U},Z0 R us (vs++vs2)->∃ a b,us=a++b/\Z0 R a vs/\Z0 R b vs2
 | [],vs2,us,h=>⟨[],us,rfl,.nil,h⟩
 | v::vs,vs2,[],h=>by have:=h.1;simp at this
 | v::vs,vs2,u::us,h=>by
   obtain⟨a,b,rfl,h1,e⟩:=Z0.split (vs:=vs) (vs2:=vs2) (us:=us) ⟨by have:=h.1;simpa using this,fun i x y d a2=>h.2 (i+1) x y (by simpa using d) (by simpa using a2)⟩;exact⟨u::a,b,rfl,.cons (h.2 0 u v rfl rfl) h1,e⟩
def Z0.mono{R d:Nat->Option Obj}{us:List U}{vs:D2}(h:Z0 R us vs)(k:Sub R d):Z0 d us vs:=⟨h.1,fun i u v a b=>(h.2 i u v a b).mono k⟩
def JE{R:Nat->Option Obj}:∀ {ts:H6} {us r:List U} {vs:D2},VT ts us=some (vs,r)->∃ a,us=a++r/\Z0 R a vs/\a.map G7=ts
 | [],us,r,vs,h=>by cases h;exact⟨[],rfl,.nil,rfl⟩
 | t::ts,u::us,r,vs,h=>by
   unfold VT at h;split at h
   .rename_i v g i h1 d;cases h;obtain⟨a,rfl,e,b⟩:=JE (R:=R) d;unfold JC at h1;split at h1
    .rename_i f;exact⟨u::a,rfl,.cons (.sc h1) e,by simp[f,b]⟩
    .cases h1
   .cases h
 | _::_,[],_,_,h=>by cases h
def VQ{R:Nat->Option Obj}{s:Sh}{us r:List U}{v:Value}(h:JB s us=some (v,r)):∃ a,us=a++r/\ShR R s a v:=by
 cases s with
 | s t =>
   cases us with
   | nil=>cases h
   | cons u us =>
     simp only[JB]at h;split at h
     .rename_i v1 hv;cases h;unfold JC at hv;split at hv
      .rename_i e;exact⟨[u],rfl,.s (.sc hv) e⟩
      .cases hv
     .cases h
 | a ts =>
   simp only[JB]at h;split at h
   .rename_i vs g hv;cases h;obtain⟨a,f,b,d⟩:=JE (R:=R) hv;exact⟨a,f,.a b d⟩
   .cases h
def yF{R:Nat->Option Obj}:∀ {b:List Sh} {us:List U} {vs:D2},VS b us=some vs->ShL R b us vs
 | [],[],vs,h=>by cases h;exact .nil
 | [],_::_,_,h=>by cases h
 | s::b,us,vs,h=>by
   unfold VS at h;split at h
   .rename_i v r hv;split at h
    .rename_i e d;cases h;obtain⟨a,rfl,f⟩:=VQ (R:=R) hv;exact .cons f (yF d)
    .cases h
   .cases h
def A2v{R:Nat->Option Obj}{us:List U}{vs:D2}(h:Z0 R us vs)(b:vs2.length=us.length)(k:∀ (i:Nat) (u:U) (v:Value),us[i]? = some u->vs2[i]? = some v->toV u=some v):vs=vs2:=by
 refine bK fun i=>?_
 rcases G1 i us.length with hi|hi
 .have h1:us[i]? = some us[i]:=A5 hi;have a:vs[i]? = some (vs[i]'(h.1▸hi)):=A5 _;have h3:vs2[i]? = some (vs2[i]'(b▸hi)):=A5 _;rw[a,h3,gJ (h.2 i _ _ h1 a) (k i _ _ h1 h3)]
 .rw[T9 (by rw[<- h.1];exact hi),T9 (by rw[b];exact hi)]
def JD:∀ {ts:H6} {us r:List U} {vs:D2},VT ts us=some (vs,r)->∃ a,us=a++r/\vs.length=a.length/\a.length=ts.length/\∀ (i:Nat) (u:U) (v:Value),a[i]? = some u->vs[i]? = some v->toV u=some v
 | [],us,r,vs,h=>by cases h;exact⟨[],rfl,rfl,rfl,fun i u v h=>by simp at h⟩
 | t::ts,u::us,r,vs,h=>by
   unfold VT at h;split at h
   .rename_i v g k h1 e;cases h;obtain⟨a,rfl,j,d,f⟩:=JD e;unfold JC at h1;split at h1
    .refine⟨u::a,rfl,by simp[j],by simp[d],fun i x y b a2=>?_⟩;cases i with
     | zero=>simp at b a2;subst b;subst a2;exact h1
     | succ i=>exact f i x y (by simpa using b) (by simpa using a2)
    .cases h1
   .cases h
 | _::_,[],_,_,h=>by cases h
def V3{R:Nat->Option Obj}:∀ {i:List Sh} {us:List U} {vs vs2:D2},ShL R i us vs->VS i us=some vs2->vs=vs2
 | [],us,vs,vs2,h,k=>by cases h;cases k;rfl
 | s::i,us,vs,vs2,h,k=>by
   cases h with
   | cons h1 l =>
     rename_i d f v vs;unfold VS at k;split at k
     .rename_i v1 r hv;split at k
      .rename_i z n;cases k;have j:d++f=d++f:=rfl;cases h1 with
       | s he g =>
         rename_i t u;have b:(match JC t u with|some v=>some (v,f)|none=>none)=some (v1,r):=hv;cases e:JC t u with
         | none=>rw[e]at b;cases b
         | some w =>
           rw[e]at b;cases b;unfold JC at e;rw[B0 g]at e;rw[gJ he e,V3 l n]
       | a he g =>
         rename_i ts cs;simp only[JB]at hv;split at hv
         .rename_i p C x;cases hv;obtain⟨a,A,o,y,q⟩:=JD x;have hlen:a.length=d.length:=by rw[y,<- g];simp
          obtain⟨rfl,rfl⟩:=List.append_inj A hlen.symm;rw[A2v he o q,V3 l n]
         .cases hv
      .cases k
     .cases k
def L8(P:Program)(G:Nat->Option Obj)(f:FuncId)(ps:List Sh)(spec:dL)(rs:List Sh):Prop :=
 ∀ (us outs:List U) (w:World) (vs:List Value) (R:Nat->Option Obj),ShL R ps us vs->spec us=some (0,outs)->GOk G w->GOk R w ->
  (callFunc f ⟨vs⟩).run P w=.ok (.enter f ⟨vs⟩) w/\Calls P f ⟨vs⟩ w (fun e w'=>∃ r a,ShL a rs outs r/\e=.returned (tup r)/\mX w w'/\GOk a w'/\∀ k o,a k=some o->w.heap.size<=k∨∃ o',R k=some o')
def unA:List Sh->D2->Option D2
 | [],[]=>some []
 | .s _::ss,v::vs=>match unA ss vs with
   | some r=>some (v::r)
   | none=>none
 | .a ts::ss,.agg cs::vs=>bif Nat.beq cs.toList.length ts.length then match unA ss vs with
   | some r=>some (cs.toList++r)
   | none=>none else none
 | _,_=>none
def qL(P:Program)(ps:List Sh)(vs:List Value)(m:Mem):Option (D2×Mem) :=
 match unA ps vs with
 | some cs=>match BM (tdP P) (CP ps) cs m with
   | some (xs,[],m)=>some (xs,m)
   | some (xs,gs,m)=>match kK gs m with
     | some (_,m)=>some (xs,m)
     | none=>none
   | none=>none
 | none=>none
def UK(i t b:Nat):Value:=bif Nat.blt t 10 then hole i t else dat b i t
def YH:H6->Nat->Nat->D2
 | [],_,_=>[]
 | t::ts,i,b=>UK i t b::YH ts (i+1) b
def A8P:Sh->Nat->Nat->Value
 | .s t,i,b=>UK i t b
 | .a ts,i,b=>.agg ⟨YH ts i b⟩
def xT:List Sh->Nat->Nat->D2
 | [],_,_=>[]
 | h::hs,i,b=>A8P h i b::xT hs (i+h.n) b
def WL(rs:List Sh)(nx:Nat)(m:Mem):Res :=
 bif mP rs then match gW m fun b m=>some (tup (xT rs nx b),b,m)with
  | some (v,_,m)=>some (v,m)
  | none=>none
 else some (tup (xT rs nx 0),m)
def B11(m:Mem)(hi:Nat)(v:Value)(lg:Lg):Res :=
 match m with
 | ⟨H,n,W,_,_⟩=>some (v,⟨H,n,W,hi,lg⟩)
def A5S(P:Program)(ps:List Sh)(spec:dL)(rs:List Sh):FnC:=⟨fun vs m =>
 match qL P ps vs m with
 | some (xs,⟨H,n,W,hi,⟨nx,pi,log⟩⟩)=>K0 nx fun nx=>R8 xs fun xs=>K0 (nx+shN rs) fun a=>bif mP rs then WL rs nx ⟨H,n,W,hi,⟨a,pi,.con spec xs nx 0 (shN rs)::log⟩⟩else B11 m hi (tup (xT rs nx 0)) ⟨a,pi,.con spec xs nx 0 (shN rs)::log⟩
 | none=>none⟩
def VH{P:Program}{ps:List Sh}{spec:dL}{rs:List Sh}{vs:D2}{v:Value}(h:(A5S P ps spec rs).run vs m=some (v,m')) :
  ∃ xs m1,qL P ps vs m=some (xs,m1)/\((mP rs=true/\WL rs m1.lg.nx (m1.wLg ⟨m1.lg.nx+shN rs,m1.lg.pi,.con spec xs m1.lg.nx 0 (shN rs)::m1.lg.log⟩)=some (v,m'))∨(mP rs=false/\v=tup (xT rs m1.lg.nx 0)/\m'=⟨m.H,m.n,m.W,m1.hi,⟨m1.lg.nx+shN rs,m1.lg.pi,.con spec xs m1.lg.nx 0 (shN rs)::m1.lg.log⟩⟩)):=by
 unfold A5S at h;simp only at h;split at h
 .rename_i xs H n W hi nx pi log hx;simp only[E9,I5]at h;refine⟨xs,_,hx,?_⟩;cases a:mP rs with
  | true=>rw[a]at h;exact .inl ⟨rfl,h⟩
  | false =>
    rw[a]at h;obtain⟨e,f,g,b,d⟩:=m;cases h;exact .inr ⟨rfl,rfl,rfl⟩
 .cases h
variable [Ora]
def OB{ρ:Ren}:∀ {b:List Sh} {vs vs' cs:D2},unA b vs=some cs->LR ρ vs vs'->∃ cs',unA b vs'=some cs'/\LR ρ cs cs'
 | [],[],vs',cs,h,hl=>by cases h;rw[hl.nil_inv];exact⟨[],rfl,.nil⟩
 | [],_::_,_,_,h,_=>by cases h
 | .s t::b,[],_,_,h,_=>by cases h
 | .a t::b,[],_,_,h,_=>by cases h
 | .s t::b,v::vs,vs',cs,h,hl=>by
   obtain⟨v',k,rfl,h1,e⟩:=hl.tail;unfold unA at h;split at h
   .rename_i r hr;cases h;obtain⟨cs',f,d⟩:=OB hr e;exact⟨v'::cs',by simp[unA,f],.cons h1 d⟩
   .cases h
 | .a ts::b,v::vs,vs',cs,h,hl=>by
   obtain⟨v',k,rfl,h1,e⟩:=hl.tail;cases v with
   | agg c =>
     unfold unA at h;obtain⟨hlen,h⟩:=A3 h;split at h
     .rename_i r hr;cases h;obtain⟨cs',f,d⟩:=OB hr e;obtain⟨i,rfl,j⟩:=V9 h1;refine⟨i++cs',?_,j.append d⟩;have g:Nat.beq i.length ts.length=true:=by rw[<- j.1];exact hlen
      simp[unA,f,g]
     .cases h
   | _=>cases h
def dY{R:Nat->Option Obj}:∀ {e:List Sh} {vs cs:D2} {us:List U},unA e vs=some cs->Z0 R us cs->us.map G7=CP e->ShL R e us vs
 | [],[],cs,us,h,he,ht=>by
   cases h;have:us=[]:=G4.1 he.1;subst this;exact .nil
 | [],_::_,_,_,h,_,_=>by cases h
 | .s t::e,[],_,_,h,_,_=>by cases h
 | .a t::e,[],_,_,h,_,_=>by cases h
 | .s t::e,v::vs,cs,us,h,he,ht=>by
   unfold unA at h;split at h
   .rename_i r hr;cases h;obtain⟨a,b,rfl,d,f⟩:=Z0.split (vs:=[v]) (vs2:=r) he
    match a,d with
    | [u],d =>
      simp only[List.singleton_append,C3,CP,Sh.tags,S7,G9,J6]at ht;exact .cons (.s (d.2 0 u v rfl rfl) ht.1) (dY hr f ht.2)
    | [],d=>have:=d.1;simp at this
    | _::_::_,d=>have:=d.1;simp at this
   .cases h
 | .a ts::e,v::vs,cs,us,h,he,ht=>by
   cases v with
   | agg c =>
     unfold unA at h;obtain⟨hlen,h⟩:=A3 h;have hlen:=A0 hlen;split at h
     .rename_i r hr;cases h;obtain⟨a,b,rfl,d,f⟩:=Z0.split he;simp only[M5,CP,Sh.tags]at ht;obtain⟨t1,t2⟩:=List.append_inj ht (by simp[d.1,hlen]);obtain⟨l⟩:=c;exact .cons (.a d t1) (dY hr f t2)
     .cases h
   | _=>cases h
section
variable {P:Program} {base gl:Nat}
def B20(ρ:Ren)(m:Mem)(R:Nat->Option Obj):Prop:=∀ k o,R k=some o->∃ id ab l,id<=I2/\Hp.get m.H id=some ab/\ρ id=some l/\Tf ab l k/\ab.rw=false
def JJ{ρ:Ren}{w:World}{ps:List Sh}{vs xs:D2}(h:HR P base ρ m.H w)(d:qL P ps vs m=some (xs,m'))(j:K4 ρ m.n m'.hi)(hv:LR ρ vs vs')(A:Sat m'.lg) :
  ∃ a R,St P base ρ a m m' w w/\m.lg.le m'.lg/\ShL R ps (xs.map (D9 Ora.env)) vs'/\GOk R w/\B20 a m' R:=by
 unfold qL at d;split at d
 .rename_i cs u;obtain⟨cs',D,z⟩:=OB u hv;split at d
  .rename_i p m1 x;cases d;obtain⟨a,e,a2,a3,a4,a5,t⟩:=iU V4 h x j z A;exact⟨a,fun _=>none,e,a2,dY D (t _ fun b s=>by cases s) a5,(fun k o f=>by cases f),(fun k o f=>by cases f)⟩
  .rename_i p gs m1 x;split at d
   .rename_i g m2 C;cases d;have q:=N4 C;obtain⟨K,e,a2,a3,a4,a5,t⟩:=iU V4 h x (j.less q.1) z (by rw[<- q.2.1];exact A);obtain⟨ρ2,lg,y,N,L,v,E,I⟩:=fC e.hr C (j.step e);have i:=(y.hr.atl v E).1.2;exact⟨ρ2,lg.G,St.trans j e y,by rw[q.2.1];exact a2,dY D (t _ fun b s l J=>I b s l J) a5,i,fun k o f=>⟨g,_,lg,y.hr.dom _ _ v,E,v,⟨rfl,.inr ⟨rfl,o,f⟩⟩,rfl⟩⟩
   .cases d
  .cases d
 .cases d
def ME{ρ:Ren}{R:Nat->Option Obj}{i t b:Nat}{u:U}{v:Value}(h:Enc R u v)(g:G7 u=t)(he:Ora.env i=u)(k:10<=t->ρ b=some (kW R)):VR ρ (UK i t b) v:=by
 unfold UK;cases d:Nat.blt t 10 with
 | true =>
   have a:t<10:=A1 d;obtain⟨v1,j,_,_⟩:=RW (u:=u) A2
   have:=gJ h j;subst this;exact .hole (by rw[he];exact j) (by rw[he];exact g)
 | false =>
   have a:10<=t:=by
    rcases G1 t 10 with f|e
    .rw[show Nat.blt t 10=true from C8 f]at d;cases d
    .exact e
   exact .dat (k a) (by rw[he];exact h) (by rw[he];exact g) a (mO h)
def JA{ρ:Ren}{R:Nat->Option Obj}{b:Nat}:∀ {ts:H6} {us:List U} {cs:D2} {i:Nat},Z0 R us cs->us.map G7=ts->(∀ j u,us[j]? = some u->Ora.env (i+j)=u)->(∀ t ∈ ts,10<=t->ρ b=some (kW R))->LR ρ (YH ts i b) cs
 | [],us,cs,i,h,ht,he,hb=>by
   have:us=[]:=by cases us with|nil=>rfl|cons _ _=>simp at ht
   subst this;have:cs=[]:=G4.1 h.1.symm;subst this;exact .nil
 | t::ts,[],cs,i,h,ht,he,hb=>by simp at ht
 | t::ts,u::us,[],i,h,ht,he,hb=>by have:=h.1;simp at this
 | t::ts,u::us,c::cs,i,h,ht,he,hb=>by
   simp only[C3,J6]at ht;refine .cons (ME (h.2 0 u c rfl rfl) ht.1 (he 0 u rfl) (hb t (.head _))) (JA ⟨by have:=h.1;simpa using this,fun j x y d a2=>h.2 (j+1) x y (by simpa using d) (by simpa using a2)⟩ ht.2 (fun j x f=>?_) fun e a=>hb e (.tail _ a))
   have:=he (j+1) x (by simpa using f);rw[show i+1+j=i+(j+1) by omega];exact this
def qE{ρ:Ren}{R:Nat->Option Obj}{b:Nat}:∀ {g:List Sh} {us:List U} {vs:D2} {i:Nat},ShL R g us vs->(∀ j u,us[j]? = some u->Ora.env (i+j)=u)->(mP g=true->ρ b=some (kW R))->LR ρ (xT g i b) vs/\us.length=shN g
 | [],us,vs,i,h,he,hb=>by cases h;exact⟨.nil,rfl⟩
 | s::g,us,vs,i,h,he,hb=>by
   cases h with
   | cons h1 w =>
     rename_i e y v vs;have q:∀ t ∈ s.tags,10<=t->ρ b=some (kW R):=fun t d f=>hb (Q4.2 ⟨t,B7.2 (.inl d),C8 f⟩)
     have o:mP g=true->ρ b=some (kW R):=fun x=>by
      obtain⟨t,d,f⟩:=Q4.1 x;exact hb (Q4.2 ⟨t,B7.2 (.inr d),f⟩)
     have p:e.length=s.n:=by
      cases h1 with
      | s _ _=>rfl
      | a _ d=>show _=List.length _;rw[<- d];simp[Sh.tags]
     obtain⟨g1,g2⟩:=qE (i:=i+s.n) w (fun j u l=>by
      have:=he (e.length+j) u (by rw[E1 A2,W5];exact l);rw[<- p,cO];exact this) o
     refine⟨.cons ?_ g1,by simp[shN,p,g2]⟩;have k:∀ j u,e[j]? = some u->Ora.env (i+j)=u:=fun j u l=>he j u (by rw[F2 (B3.1 l).1];exact l)
     cases h1 with
     | s h d=>exact ME h d (by have:=k 0 _ rfl;simpa using this) (q _ (.head _))
     | a h d =>
       have:=JA (b:=b) h d k q;exact .agg this.1 this.2
def YJ{ρ:Ren}{vs:D2}(h:LR ρ vs vs'):VR ρ (tup vs) (tup vs'):=by
 match vs,vs',h with
 | [],vs',h=>rw[h.nil_inv];exact .tuple (a:=[]) (a':=[]) rfl (fun i v v' h1 _=>by simp at h1)
 | [v],vs',h =>
   obtain⟨v',d,rfl,h1,b⟩:=h.tail;cases b.nil_inv;exact h1
 | v::u::r,vs',h =>
   obtain⟨v',d,rfl,h1,b⟩:=h.tail;obtain⟨e,f,rfl,h3,g⟩:=b.tail;exact .tuple h.1 h.2
def St.grown{ρ:Ren}{w w':World}(h:HR P base ρ m.H w)(g:mX w w'):St P base ρ ρ m m w w' :=
 ⟨fun _ _ h=>h,fun b l h1 a=>(by rw[h1]at a;cases a),A6 _,A6 _,fun h=>h,
  ⟨h.dom,fun id hid ab e=>by
    obtain⟨l,h1,a,h3⟩:=h.at_ id hid ab e;exact⟨l,h1,a.mono (fun _ _ h=>h) (fun k d=>g.keep k (a.tc d)),h3⟩⟩,
  fun _ h=>h,fun b h1 a=>absurd h1 a,fun k d _=>g.keep k d,g.size,g.os,fun b l h1 a=>(by rw[h1]at a;cases a),fun _ _ _ _=>rfl,fun _ h=>.inr h⟩
def St.grownLg{ρ:Ren}{w w':World}(h:HR P base ρ m.H w)(g:mX w w')(lg:Lg):St P base ρ ρ m (m.wLg lg) w w':=by
 obtain⟨H,n,W,hi,l⟩:=m;have r:=St.grown (m:=⟨H,n,W,hi,l⟩) h g;exact⟨r.ext,r.new,r.nle,r.hle,r.nhi,r.hr,r.wsub,r.wrw,r.keep,r.size,r.os,r.blk,r.same,r.tch⟩
def St.ret{ρ:Ren}{w w':World}{G:Nat->Option Obj}(h:HR P base ρ m.H w)(g:mX w w')(Q:Z4 m .frz (fun _=>undef)=some (undef,m1))(W:K4 ρ m.n m1.hi)(O:GOk G w')
  (L:∀ k o,G k=some o->w.heap.size<=k∨∃ id ab l,id<=I2/\Hp.get m.H id=some ab/\ρ id=some l/\Tf ab l k/\ab.rw=false):upd ρ m.n (kW G) m.n=some (kW G)/\St P base ρ (upd ρ m.n (kW G)) m m1 w w':=by
 obtain⟨hle,_,rfl⟩:=M0 Q;have t:ρ m.n=none:=W m.n (A6 _) (L3 _ _).2;have i:=X4 (l:=kW G) t;refine⟨M2 _ _ _,i,fun b q h1 f=>?_,by simp,(L3 _ _).1,fun _=>Y8 (L3 _ _).2,⟨fun b q I=>?_,fun id hid a d=>?_⟩,fun b T=>T,fun b h1 f=>absurd h1 f,fun q I _=>g.keep q I,g.size,g.os,fun b q h1 f p=>?_,fun id hid h1 f=>?_,fun q ⟨id,a,l,hid,d,u,N⟩=>?_⟩
 .obtain⟨rfl,rfl⟩:=U6 h1 f;exact⟨A6 _,J4 _⟩
 .cases h0:ρ b with
  | some S=>exact h.dom b S h0
  | none=>obtain⟨rfl,rfl⟩:=U6 I h0;exact hle
 .rw[F1 _ _ _ _ hle hid]at d;by_cases e:id=m.n
  .rw[B0 e]at d;have d:=A9 d;subst d;subst e;exact⟨kW G,M2 _ _ _,⟨rfl,O⟩,fun _ p=>(by cases p)⟩
  .rw[A8 e]at d;obtain⟨l0,h1,f,h3⟩:=h.at_ id hid a d;refine⟨l0,i _ _ h1,f.mono i (fun k U=>g.keep k (f.tc U)),fun hr p=>⟨(h3 hr p).1,fun y j E l2 g1 g2 g3=>?_⟩⟩;rw[F1 _ _ _ _ hle j]at g1;by_cases A:y=m.n
   .subst A;rw[M2]at g2
    have:=A9 g2;subst this;rcases g3 with⟨_,g3,_⟩|⟨_,o,g3⟩
    .cases g3
    .rcases L _ o g3 with x|⟨v,a3,K,z,s,D,C,J⟩
     .have:=f.tc (.inl ⟨AB.rw_on hr,p,rfl⟩);omega
     .have:=(h3 hr p).2 v z a3 K s D C.2;subst this;rw[d]at s;have s:=A9 s;subst s;rw[hr]at J;cases J
   .rw[A8 A]at g1;unfold upd at g2;rw[A8 A]at g2;exact(h3 hr p).2 y j E l2 g1 g2 g3
 .obtain⟨rfl,rfl⟩:=U6 h1 f;cases p
 .rw[F1 _ _ _ _ hle hid,A8];intro e;subst e;rcases f with f|f
  .omega
  .have f:upN m.hi m.n<=m.n:=f
   have:=(L3 m.hi m.n).2;omega
 .have d:Hp.get (m.H.set m.n (some .frz)) id=some a:=d;rw[F1 _ _ _ _ hle hid]at d;by_cases e:id=m.n
  .subst e;rw[B0 rfl]at d;have d:=A9 d;subst d;rw[M2]at u;have u:=A9 u;subst u;rcases N.2 with⟨_,h3,_⟩|⟨_,o,h3⟩
   .cases h3
   .rcases L _ o h3 with x|⟨v,a3,K,z,s,D,C,J⟩
    .exact .inl x
    .exact .inr ⟨v,a3,K,z,s,D,C⟩
  .rw[A8 e]at d;unfold upd at u;rw[A8 e]at u;exact .inr ⟨id,a,l,hid,d,u,N⟩
def St.back{ρ:Ren}{w w':World}{hi:Nat}{lg:Lg}(h:HR P base ρ m.H w)(g:mX w w')(hh:m.hi<=hi):St P base ρ ρ m ⟨m.H,m.n,m.W,hi,lg⟩ w w':=by
 have r:=St.grownLg (m:=m) h g lg;refine⟨r.ext,fun b l h1 a=>(by rw[h1]at a;cases a),A6 _,hh,fun h=>C6 h hh,?_,fun _ h=>h,fun b h1 a=>absurd h1 a,fun k d _=>g.keep k d,g.size,g.os,fun b l h1 a=>(by rw[h1]at a;cases a),fun _ _ _ _=>rfl,fun _ h=>.inr h⟩
 have:=r.hr;rw[lC]at this;exact this
theorem A5R{f:FuncId}{ps:List Sh}{spec:dL}{rs:List Sh}(h:L8 P Ora.G f ps spec rs):mY P base gl f (A5S P ps spec rs):=by
 have p:∀ {nx:Nat} {m m':Mem} {v:Value},mP rs=true->WL rs nx m=some (v,m')->m'.lg=m.lg/\m.hi<=m'.hi/\m.n<=m'.n:=fun{nx m m' v} a hr=>by
  unfold WL at hr;rw[a]at hr;simp only[E5]at hr;split at hr
  .rename_i y;cases hr;obtain⟨m2,H,I,_⟩:=R3 y;cases I;obtain⟨_,_,rfl⟩:=M0 H;exact⟨rfl,(L3 _ _).1,X3 _⟩
  .cases hr
 have g:∀ {vs xs:D2} {m m1:Mem},qL P ps vs m=some (xs,m1)->m.lg.le m1.lg/\m.hi<=m1.hi:=fun{vs xs m m1} h1=>by
  unfold qL at h1;split at h1
  .split at h1
   .rename_i a;cases h1;exact⟨(S6 V4 a).2.1,(S6 V4 a).1⟩
   .rename_i a;split at h1
    .rename_i O;cases h1;exact⟨by rw[(N4 O).2.1];exact(S6 V4 a).2.1,C6 (S6 V4 a).1 (N4 O).1⟩
    .cases h1
   .cases h1
  .cases h1
 refine⟨fun vs m m' v hr=>?_,fun ρ m m' w vs vs' v hr L d hl=>.inl ?_⟩
 .obtain⟨xs,m1,h1,⟨a,i⟩|⟨a,_,rfl⟩⟩:=VH hr
  .rw[(p a i).1,g8];exact(g h1).1.trans ⟨[_],rfl⟩
  .exact(g h1).1.trans ⟨[_],rfl⟩
 .obtain⟨xs,m1,h1,i⟩:=VH hr;have D:m'.lg=⟨m1.lg.nx+shN rs,m1.lg.pi,.con spec xs m1.lg.nx 0 (shN rs)::m1.lg.log⟩/\m1.hi<=m'.hi:=by
   rcases i with⟨a,i⟩|⟨a,_,rfl⟩
   .obtain⟨r1,u,_⟩:=p a i;simp only[g8,NY]at r1 u;exact⟨r1,u⟩
   .exact⟨rfl,A6 _⟩
  obtain⟨r1,u⟩:=D;have s:n7.con spec xs m1.lg.nx 0 (shN rs) ∈ m'.lg.log:=by rw[r1];exact B5
  have z:Sat m1.lg:=S2.le L (by rw[r1];exact⟨[_],rfl⟩);obtain⟨t,R,A,a2,a3,a4,a5⟩:=JJ d.hr h1 (d.fr.less u) hl z;obtain⟨outs,h3,h4,K⟩:=L _ s;obtain⟨Z,Q⟩:=h _ outs w vs' R a3 h3 (fun k o C=>(d.gf k o C).2) a4;refine⟨Z,Q.mono fun e w' ⟨r,T,g1,g2,g3,g4,g5⟩=>?_⟩;rcases i with⟨a,i⟩|⟨a,rfl,rfl⟩
  .let j:Lg:=⟨m1.lg.nx+shN rs,m1.lg.pi,.con spec xs m1.lg.nx 0 (shN rs)::m1.lg.log⟩
   have i:WL rs m1.lg.nx (m1.wLg j)=some (v,m'):=i;have q:St P base ρ t m (m1.wLg j) w w:=St.trans (d.fr.less (by simpa using u)) A (St.wLg A.hr j);have E:K4 t (m1.wLg j).n m'.hi:=by simpa using d.fr.step A
   unfold WL at i;rw[a]at i;simp only[E5]at i;split at i
   .rename_i v0 b m2 y;cases i;obtain⟨m3,H,I,_⟩:=R3 y;cases I;obtain⟨Y,U⟩:=St.ret (G:=T) q.hr g3 H E g4 fun k o C=>by
     rcases g5 k o C with x|⟨o',J⟩
     .exact .inl x
     .obtain⟨id,ab,l,p1,p2,W,S,p5⟩:=a5 k o' J;exact .inr ⟨id,ab,l,p1,by rw[lC];exact p2,W,S,p5⟩
    exact⟨_,_,g2,YJ (qE g1 K fun _=>Y).1,St.trans d.fr q U⟩
   .cases i
  .exact⟨_,ρ,g2,YJ (qE g1 K fun N=>by rw[a]at N;cases N).1,St.back d.hr g3 (g h1).2⟩
end
end
end Go.Sx
