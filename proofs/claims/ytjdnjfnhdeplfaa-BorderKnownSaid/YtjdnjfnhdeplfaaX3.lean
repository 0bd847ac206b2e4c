import Derived.Test.YtjdnjfnhdeplfaaX2
set_option linter.all false
set_option maxRecDepth 100000
set_option maxHeartbeats 4000000
namespace Go.Sx
open Go
variable {op:LOp}{s ty:TypeId}{hi i j o tg:Nat}{i' z z':Value}{u:U}{kh kk kl:IntKind}{hi' lo lo' mx mx':N6}{hs r' vs vs' xs:D0}{tys:List TypeId}{a:Addr}{m1:Mem}{row us:List U}{ts:F8}{cl sure:Bool}
section
open Go
variable [Ora]
section
variable {P:Program} {base:Nat} {ρ:Ren} {m m':Mem} {w:World}
def pk(k:IntKind)(n:Int):H3 (.int k n)=true:=rfl
def MU{op:UnOp}{x x' v:Value}(h:AO m op x=some (v,m'))(g:VR ρ x x')(p:Sat m'.lg)(w:World):∃ r,(Op.unary op x').run P w=.ok r w/\VR ρ v r:=by
 unfold AO at h;simp only at h;split at h
 .obtain⟨h1,h⟩:=A2 h;obtain⟨b,rfl,e⟩:=dR g (A0 h1);obtain⟨u,c,l,r,d,f,_⟩:=K2 h p;simp only[B8,E3,e,evU,ev1,unM,ofV]at c;subst c;cases d;exact⟨_,(EH (P:=P) (ρ:=ρ) (op:=.not) (x:=.bool b) (v:=.bool !b) rfl (.pure rfl) w).1,f ρ⟩
 .obtain⟨h1,h⟩:=A2 h;obtain⟨k,n,rfl,e,_⟩:=K4 g (A1 h1);obtain⟨u,c,l,r,d,f,q⟩:=K2 h p;simp only[B8,E3,e,evU,ev1]at c;subst c;obtain⟨r',g1,g2⟩:=yQ (by rw[l];exact q);rw[d]at g2;cases g2;exact⟨_,(EH (P:=P) (ρ:=ρ) g1 (.pure (pk k n)) w).1,f ρ⟩
def EO{t:TypeId}{x x' v:Value}(h:lV P m s t x=some (v,m'))(c:VR ρ x x')(l:Sat m'.lg)(w:World):∃ r,(convert s t x').run P w=.ok r w/\VR ρ v r:=by
 unfold lV at h;split at h
 .rename_i j k hs d;obtain⟨h1,h⟩:=A2 h;obtain⟨q,n,rfl,e,_⟩:=K4 c (A1 h1);obtain⟨u,f,A,r,g,p,y⟩:=K2 h l;simp only[B8,E3,e,evU]at f;subst f;cases g;exact⟨_,by simp[convert,A3,C8 hs,C8 d,Result.andThen,Conv.intToInt],p ρ⟩
 .rename_i hs d;obtain⟨h1,h⟩:=A2 h;cases h;obtain⟨b,rfl,e⟩:=Z9 c (A0 h1);exact⟨_,by simp[convert,A3,C8 hs,C8 d,Result.andThen],c⟩
 .cases h
def eO{t:Nat}:∀ {cs:D0},Z1 t cs=true->∀ {i:Nat} {v:Value},cs[i]? = some v->F5 v=t
 | [],_,i,v,h=>by simp at h
 | c::r,hs,i,v,h=>by
   obtain⟨h1,b⟩:=B3 (show(Nat.beq (F5 c) t && Z1 t r)=true from hs);cases i with
   | zero=>simp at h;subst h;exact A0 h1
   | succ i=>exact eO b (by simpa using h)
def NI{t e:TypeId}{n:Nat}{cs:Q0}{x' i v:Value}(hu:P.underlying t=some (.array n e))(B:Y4 P e=some false)(g:F6 P e=some 1)(F:cs.toList.length=n)(l:Z1 tg cs.toList=true)(y:tg<10)
  (f:F5 i<8) (h:Q2 m tg .sel (i::cs.toList)=some (v,m')) (x:VR ρ (.agg cs) x') (hi:VR ρ i i') (D:Sat m'.lg) (w:World):∃ r,(Instr.index t x' i').run P w=.ok r w/\VR ρ v r:=by
 obtain⟨k,z,rfl,e,_⟩:=K4 hi f;obtain⟨u,c,G,r,d,C,E⟩:=K2 h D;simp only[B8,e]at c;cases z with
 | negSucc z=>simp only[evU]at c;subst c;cases d
 | ofNat z =>
   simp only[evU]at c;by_cases p:z<cs.toList.length
   .have b:cs.toList[z]? = some cs.toList[z]:=A4 p;have q:=eO l b;have hm:iB P t (.agg cs) (.int k (.ofNat z))=some cs.toList[z]:=by
     have A:Nat.blt z n=true:=C4 A9;simp only[iB,hu,g,A,D7,mH,B,Nat.mul_one];exact b
    obtain⟨v',g1,g2⟩:=oM (P:=P) hm x (.pure rfl) w;obtain⟨f1,_⟩:=l9 g2 A9;have:u=D4 Ora.env cs.toList[z]:=by
     rw[<- c,B9,F4,b];rfl
    rw[this,f1]at d;cases d;exact⟨_,g1,C ρ⟩
   .rw[B9,P8 (by simp at p ⊢;omega)]at c;subst c;cases d
def vO{e:TypeId}(h:Nat.beq (Z0.sizeD P e) 1=true):F6 P e=some 1:=by
 have h:=A0 h;unfold Z0.sizeD at h;split at h
 .rename_i n b;rw[b,h]
 .cases h
def AR{t:TypeId}{x x' i v:Value}(h:Z0 P m t x i=some (v,m'))(f:VR ρ x x')(hi:VR ρ i i')(p:Sat m'.lg)(w:World):∃ r,(Instr.index t x' i').run P w=.ok r w/\VR ρ v r:=by
 unfold Z0 at h;cases q:!(Nat.blt (F5 i) 8)with
 | true=>rw[q]at h;cases h
 | false =>
   have c:F5 i<8:=by
    have:Nat.blt (F5 i) 8=true:=by simpa using q
    exact A1 this
   rw[q]at h;simp only[D3]at h;split at h
   .rename_i hu;obtain⟨h1,h⟩:=A2 h;obtain⟨s,rfl,f1⟩:=Z9 f (A0 h1);obtain⟨k,z,rfl,f2,_⟩:=K4 hi c;obtain⟨u,d,C,r,l,A,B⟩:=K2 h p;simp only[B8,E3,f1,f2]at d;cases z with
    | negSucc z=>simp only[evU]at d;subst d;cases l
    | ofNat z =>
      simp only[evU]at d;split at d
      .rename_i b y;subst d;cases l;have hm:iB P t (.string ⟨⟨s⟩⟩) (.int k (.ofNat z))=some (.int .u8 b.toNat):=by
        simp only[iB,hu,y]
       obtain⟨v',g1,g2⟩:=oM (P:=P) (ρ:=ρ) hm (.pure rfl) (.pure rfl) w;cases H8 g2;exact⟨_,g1,A ρ⟩
      .subst d;cases l
   .rename_i n e hu;split at h
    .rename_i cs k he;obtain⟨h1,h⟩:=A2 h;obtain⟨h1,h3⟩:=B3 h1;obtain⟨h1,g⟩:=B3 h1;exact NI hu (by simp[Y4,he]) (vO h3) (A0 h1) g (by have:=J8 k;omega) c h f hi p w
    .rename_i cs he;obtain⟨h1,h⟩:=A2 h;obtain⟨h1,h3⟩:=B3 h1;obtain⟨h1,g⟩:=B3 h1;exact NI hu (by simp[Y4,he]) (vO h3) (A0 h1) g A9 c h f hi p w
    .cases h
   .cases h
def EQ{t:TypeId}(hu:P.underlying t=some .string){s:List UInt8}{l h:Int}{r:Value}(b:TK s l h=u)(c:toV u=some r):aF P t (.string ⟨⟨s⟩⟩) (some (.int kl l)) (some (.int kh h)) none=some r:=by
 unfold TK at b;split at b
 .rename_i l h;split at b
  .rename_i hh;subst b;cases c;have e:Nat.ble h (ByteArray.size ⟨⟨s⟩⟩)=true:=C4 hh.2;have d:Nat.ble l h=true:=C4 hh.1;simp only[aF,hu,Q3,e,d,D7]
  .subst b;cases c
 .subst b;cases c
def AP{t:TypeId}{x x' v:Value}{hi:N6}(h:gM P m t x lo hi mx=some (v,m'))(G:VR ρ x x')(g:OR ρ lo lo')(f:OR ρ hi hi')(D:OR ρ mx mx')(F:Sat m'.lg)(w:World) :
  ∃ r,(Instr.sliceAt t x' lo' hi' mx').run P w=.ok r w/\VR ρ v r:=by
 have c:∀ {o:N6},OR ρ none o->o=none:=fun{o} h=>by cases o<;>first|rfl|exact h.elim
 have d:∀ {y:Value} {o:N6},OR ρ (some y) o->∃ I,o=some I/\VR ρ y I:=fun{y o} h=>by cases o<;>first|exact h.elim|exact⟨_,rfl,h⟩
 unfold gM at h;split at h
 .rename_i hu;cases c D;obtain⟨h1,h⟩:=A2 h;obtain⟨s,rfl,f1⟩:=Z9 G (A0 h1);have B:∀ {y:Value},VR ρ (.string ⟨⟨s⟩⟩) y->y=.string ⟨⟨s⟩⟩:=fun h=>R2 h
  split at h
  .cases h;cases c g;cases c f;have hm:aF P t (.string ⟨⟨s⟩⟩) none none none=some (.string ⟨⟨s⟩⟩):=by
    have e:ByteArray.size ⟨⟨s⟩⟩=s.length:=rfl;simp[aF,hu,Q3,e]
   obtain⟨v',g1,g2⟩:=dT (P:=P) (ρ:=ρ) (lo':=none) (hi':=none) (mx':=none) hm (.pure rfl) trivial trivial trivial w;cases R2 g2;exact⟨_,g1,G⟩
  .obtain⟨p,h⟩:=A2 h;obtain⟨l',rfl,C⟩:=d g;cases c f;obtain⟨k,z,rfl,f2,_⟩:=K4 C (A1 p);obtain⟨u,n,J,r,l,A,H⟩:=K2 h F;simp only[B8,E3,f1,f2,evU]at n;have hm:=EQ (P:=P) (kl:=k) (kh:=.i64) hu n l;have q:aF P t (.string ⟨⟨s⟩⟩) (some (.int k z)) none none=some r:=by
    rw[<- hm];have e:ByteArray.size ⟨⟨s⟩⟩=s.length:=rfl;have b:Nat.ble s.length s.length=true:=C4 (A6 _);have E:((s.length:Nat):Int)=Int.ofNat s.length:=rfl;simp only[aF,hu,Q3,e,E,b,D7]
   obtain⟨v',g1,g2⟩:=dT (P:=P) (ρ:=ρ) (lo':=some (.int k z)) (hi':=none) (mx':=none) q (.pure rfl) (VR.pure rfl:VR ρ _ _) trivial trivial w;have:VR ρ r v':=g2;have hp:=dP l;cases g2 with
   | pure _=>exact⟨_,g1,A ρ⟩
   | _=>simp[H3,ixp,Go.Sx.dat,Go.Sx.clp,Go.Sx.own,Go.Sx.dpt,Go.Sx.opt,Go.Sx.yv,Go.Sx.sdt]at hp
  .obtain⟨p,h⟩:=A2 h;obtain⟨L,rfl,hh⟩:=d f;cases c g;obtain⟨k,z,rfl,f2,_⟩:=K4 hh (A1 p);obtain⟨u,n,J,r,l,A,H⟩:=K2 h F;have f0:D4 Ora.env (.int .i64 0)=.int .i64 0:=rfl;simp only[B8,E3,f1,f2,f0,evU]at n;have hm:=EQ (P:=P) (kl:=.i64) (kh:=k) hu n l;have q:aF P t (.string ⟨⟨s⟩⟩) none (some (.int k z)) none=some r:=by
    rw[<- hm];have E:(0:Int)=Int.ofNat 0:=rfl;cases z with
    | negSucc z=>simp only[aF,hu,Q3]
    | ofNat z =>
      have K:Nat.ble 0 z=true:=C4 (iR _);simp only[aF,hu,Q3,E];cases Nat.ble z (ByteArray.size ⟨⟨s⟩⟩)<;>simp[K]
   obtain⟨v',g1,g2⟩:=dT (P:=P) (ρ:=ρ) (lo':=none) (hi':=some (.int k z)) (mx':=none) q (.pure rfl) trivial (VR.pure rfl:VR ρ _ _) trivial w;have hp:=dP l;cases g2 with
   | pure _=>exact⟨_,g1,A ρ⟩
   | _=>simp[H3,ixp,Go.Sx.dat,Go.Sx.clp,Go.Sx.own,Go.Sx.dpt,Go.Sx.opt,Go.Sx.yv,Go.Sx.sdt]at hp
  .obtain⟨p,h⟩:=A2 h;obtain⟨p,h3⟩:=B3 p;obtain⟨L,rfl,hh⟩:=d f;obtain⟨l',rfl,C⟩:=d g;obtain⟨k,z,rfl,f2,_⟩:=K4 C (A1 p);obtain⟨j,y,rfl,f3,_⟩:=K4 hh (A1 h3);obtain⟨u,n,J,r,l,A,H⟩:=K2 h F;simp only[B8,E3,f1,f2,f3,evU]at n;have hm:=EQ (P:=P) (kl:=k) (kh:=j) hu n l;obtain⟨v',g1,g2⟩:=dT (P:=P) (ρ:=ρ) (lo':=some (.int k z)) (hi':=some (.int j y)) (mx':=none) hm (.pure rfl) (VR.pure rfl:VR ρ _ _) (VR.pure rfl:VR ρ _ _) trivial w;have hp:=dP l;cases g2 with
   | pure _=>exact⟨_,g1,A ρ⟩
   | _=>simp[H3,ixp,Go.Sx.dat,Go.Sx.clp,Go.Sx.own,Go.Sx.dpt,Go.Sx.opt,Go.Sx.yv,Go.Sx.sdt]at hp
 .cases h
def uM{b:Builtin}{ks:Array Bool}{v:Value}(hr:HR P base ρ m.H w)(h:bP P m b vs tys=some (v,m'))(p:LR ρ vs vs')(x:Sat m'.lg) :
  ∃ s:Sem Value,builtin b ⟨tys⟩ ty ks ⟨vs'⟩=(do pure (.value (<- s)))/\∃ r,s.run P w=.ok r w/\VR ρ v r:=by
 unfold bP at h;split at h
 .obtain⟨x',r1,rfl,h1,g⟩:=p.tail;cases g.nil_inv;split at h
  .rename_i hu;obtain⟨h3,h⟩:=A2 h;obtain⟨s,rfl,f1⟩:=Z9 h1 (A0 h3);obtain⟨u,e,A,r,l,n,y⟩:=K2 h x;simp only[B8,E3,f1,evU]at e;subst e;cases l;rename_i t rest _ _;have hm:PJ P m t (.string ⟨⟨s⟩⟩)=some (.int .i64 s.length):=by simp[PJ,hu]
   obtain⟨g1,_⟩:=IF (ρ:=ρ) (ty:=ty) (tys:=rest) hr hm (.pure rfl);exact⟨_,rfl,_,g1,n ρ⟩
  .cases h
 .obtain⟨x',r1,rfl,h1,g⟩:=p.tail;obtain⟨B,r2,rfl,h3,q⟩:=g.tail;cases q.nil_inv;obtain⟨d,h⟩:=A2 h;obtain⟨d,f⟩:=B3 d;have d:=A1 d;have f:=A0 f;obtain⟨k,a,rfl,f1,q1⟩:=K4 h1 d;obtain⟨j,c,rfl,f2,q2⟩:=K4 h3 (f▸d);obtain⟨u,e,A,r,l,n,y⟩:=K2 h x;simp only[B8,E3,f1,f2,evU]at e;subst e;cases l;obtain⟨g1,_⟩:=HZ (P:=P) (ρ:=ρ) (ty:=ty) (tys:=⟨tys⟩) (vs:=[.int k a,.int j c]) rfl (.cons (.pure rfl) (.cons (.pure rfl) .nil)) w;exact⟨_,rfl,_,g1,n ρ⟩
 .obtain⟨x',r1,rfl,h1,g⟩:=p.tail;obtain⟨B,r2,rfl,h3,q⟩:=g.tail;cases q.nil_inv;obtain⟨d,h⟩:=A2 h;obtain⟨d,f⟩:=B3 d;have d:=A1 d;have f:=A0 f;obtain⟨k,a,rfl,f1,q1⟩:=K4 h1 d;obtain⟨j,c,rfl,f2,q2⟩:=K4 h3 (f▸d);obtain⟨u,e,A,r,l,n,y⟩:=K2 h x;simp only[B8,E3,f1,f2,evU]at e;subst e;cases l;obtain⟨g1,_⟩:=HY (P:=P) (ρ:=ρ) (ty:=ty) (tys:=⟨tys⟩) (vs:=[.int k a,.int j c]) rfl (.cons (.pure rfl) (.cons (.pure rfl) .nil)) w;exact⟨_,rfl,_,g1,n ρ⟩
 .cases h
def JT{v:Value}{k:IntKind}{n:Int}(h:D4 Ora.env v=.int k n):lE Ora.env v=some n:=by
 cases v with
 | complex k i t =>
   cases k with
   | f64 =>
     have h:Ora.env i=.int _ n:=h;simp only[lE,h]
   | f32=>cases h
 | int j n=>cases h;rfl
 | _=>cases h
def AA{v:Value}{n:Int}(h:lE Ora.env v=some n):∃ k,D4 Ora.env v=.int k n:=by
 cases v with
 | complex k i t =>
   cases k with
   | f64 =>
     simp only[lE]at h;split at h
     .rename_i k z he;cases h;exact⟨k,he⟩
     .cases h
   | f32=>cases h
 | int j n=>cases h;exact⟨j,rfl⟩
 | _=>cases h
def IH{s n:Nat}{i v:Value}(h:LF m a s n i=some (v,m'))(hi:VR ρ i i')(l:Sat m'.lg):v=ixp a s i n/\∃ k z,i'=.int k (.ofNat z)/\z<n/\lE Ora.env i=some (.ofNat z):=by
 unfold LF at h;cases f:!(Nat.blt (F5 i) 8)with
 | true=>rw[f]at h;cases h
 | false =>
   have d:F5 i<8:=by
    have:Nat.blt (F5 i) 8=true:=by simpa using f
    exact A1 this
   rw[f]at h;simp only[D3]at h;split at h
   .rename_i b H k W hh lg q;split at h
    .rename_i t g;cases h;obtain⟨u,p,A,r,c,y,_⟩:=K2 q (M4.le l (cF g));have e:=iL (ρ:=ρ) g (y ρ) l;subst e;obtain⟨x,z,rfl,f1,_⟩:=K4 hi d;have f0:D4 Ora.env (.int .i64 (.ofNat n))=.int .i64 (.ofNat n):=rfl;simp only[B8,E3,f1,f0,evU]at p;subst p;have c:(decide (0<=z) && decide (z<Int.ofNat n))=true:=by
      have:=A5 c;exact Value.bool.inj this
     simp only[H6,decide_eq_true_eq]at c;cases z with
     | negSucc z=>exact absurd c.1 (by simp)
     | ofNat z=>exact⟨rfl,x,z,rfl,by have:=c.2;simpa using this,JT f1⟩
    .cases h
   .cases h
def uI{t:TypeId}{x x' i v:Value}(h:bN P m t x i=some (v,m'))(g:VR ρ x x')(hi:VR ρ i i')(A:Sat m'.lg)(w:World):∃ r,(Instr.indexAt t x' i').run P w=.ok r w/\VR ρ v r:=by
 unfold bN at h;split at h
 .rename_i n e a hu;split at h
  .rename_i s hs d;obtain⟨rfl,k,z,rfl,f,he⟩:=IH h hi A;obtain⟨l,y,_,rfl⟩:=K9 g;have p:Nat.blt z n=true:=C4 f;have hm:U3 P t (.pointer (some a)) (.int k (.ofNat z))=some (.pointer (some ⟨a.block,a.off+z*s,none⟩)):=by
    simp only[U3,hu,hs,d,p,D7,u5,E1]
   obtain⟨v',g1,g2⟩:=y5 (P:=P) hm g (.pure rfl) w;obtain⟨l2,b,_,rfl⟩:=K9 g2;have b:ρ a.block=some l2:=b;rw[y]at b;cases b;exact⟨_,g1,.ixp y d he f rfl⟩
  .cases h
 .rename_i e a n c hu;split at h
  .rename_i s hs d;cases q:Nat.beq c (K8+2)with
   | true=>rw[q]at h;cases h
   | false =>
     rw[q]at h;obtain⟨rfl,k,z,rfl,f,he⟩:=IH h hi A;have p:Nat.blt z n=true:=C4 f;have hm:U3 P t (.slice (some a) n c) (.int k (.ofNat z))=some (.pointer (some ⟨a.block,a.off+z*s,none⟩)):=by
      simp only[U3,hu,hs,d,p,D7,u5,E1]
     obtain⟨v',g1,g2⟩:=y5 (P:=P) hm g (.pure rfl) w;obtain⟨l2,b,_,rfl⟩:=K9 g2;have b:ρ a.block=some l2:=b;exact⟨_,g1,.ixp b d he f rfl⟩
  .cases h
 .cases h
def IJ{s n:Nat}{i v':Value}(h:VR ρ (ixp a s i n) v'):∃ l z,ρ a.block=some l/\a.spot=none/\lE Ora.env i=some (.ofNat z)/\z<n/\v'=.pointer (some ⟨l.blk,a.off+z*s+l.sh,none⟩):=by
 generalize b:ixp a s i n=x at h;cases h with
 | ixp h hs hi c d =>
   simp only[ixp,Value.func.injEq,X1,I4,Value.pointer.injEq,C7,Value.int.injEq,gG,true_and,and_true]at b;obtain⟨rfl,rfl,rfl,rfl⟩:=b;exact⟨_,_,h,hs,hi,c,d⟩
 | pure hp=>subst b;simp[ixp,H3]at hp
 | _=>simp[ixp,Go.Sx.dat,Go.Sx.clp,Go.Sx.own,Go.Sx.dpt,Go.Sx.opt,Go.Sx.yv,Go.Sx.sdt]at b
def uK{x x' v:Value}(h:bO P m s x i=some (v,m'))(e:VR ρ x x')(w:World):∃ r,(Instr.fieldAt s x' i).run P w=.ok r w/\VR ρ v r:=by
 unfold bO at h;split at h
 .rename_i a k j n;split at h
  .rename_i q hu;split at h
   .rename_i f d g;split at h
    .rename_i z c;cases h;obtain⟨l,y,h1,t,h3,p,rfl⟩:=IJ (n:=n) (s:=k) (i:=j) e;have hm:y6 P s (.pointer (some ⟨a.block,a.off+y*k,none⟩)) i=some (.pointer (some ⟨a.block,a.off+y*k+f.offset,none⟩)):=by
      simp only[y6,hu,d,c,u5,E1]
     obtain⟨v',g1,g2⟩:=iF (P:=P) (ρ:=ρ) hm (.ptr h1) w;obtain⟨l2,b,_,rfl⟩:=K9 g2;have b:ρ a.block=some l2:=b;rw[h1]at b;cases b;refine⟨_,g1,?_⟩;simp only[u5,E1];refine .ixp (a:=⟨a.block,a.off+f.offset,none⟩) h1 rfl h3 p ?_;simp only[Value.pointer.injEq,C7,Addr.mk.injEq,true_and,and_true];omega
    .cases h
   .cases h
  .cases h
 .cases h
def pE{cs:D0}{s:Nat}:∀ {n o:Nat} {l:D0},qL cs s o n=some l->l.length=n/\∀ z,z<n->cs[o+z*s]? = l[z]?
 | 0,o,l,h=>by cases h;exact⟨rfl,fun z b=>by omega⟩
 | n+1,o,l,h=>by
   unfold qL at h;split at h
   .rename_i v r d hr;cases h;obtain⟨h1,c⟩:=pE hr;refine⟨by simp[h1],fun z b=>?_⟩;cases z with
    | zero=>simpa using d
    | succ z =>
      have:=c z A9;rw[Nat.succ_mul,show o+(z*s+s)=o+s+z*s by omega]
      simpa using this
   .cases h
def pF{cs cs':D0}{s n:Nat}{i:Value}{z:Nat}(he:lE Ora.env i=some (.ofNat z))(g:z<n)(B:LR ρ cs cs'):∀ {k o:Nat} {m m':Mem} {r:D0},x8 m cs s n i o k=some (r,m')->Sat m'.lg ->
  LR ρ r ((cs'.drop (o+z*s)).take k)/\r.length=k
 | 0,o,m,m',r,h,hS=>by cases h;exact⟨by simpa using LR.nil,rfl⟩
 | k+1,o,m,m',r,h,hS=>by
   unfold x8 at h;split at h
   .rename_i v l e;obtain⟨t,h⟩:=A2 h;obtain⟨t,d⟩:=B3 t;have d:F5 v<10:=A1 d;split at h
    .rename_i hh m1 h1;split at h
     .rename_i r2 m2 y;cases h;obtain⟨p,q⟩:=pF he g B y hS;obtain⟨u,f,H,E,A,D,_⟩:=K2 h1 (M4.le hS (cR y).1);obtain⟨g1,g2⟩:=pE e;have b:=g2 z g;have c:z<(v::l).length:=by rw[g1];exact g
      rw[A4 c]at b;obtain⟨G,f1,f2⟩:=B.get b;have x:=eO t (A4 c);obtain⟨t1,_⟩:=l9 f2 A9;obtain⟨F,C⟩:=AA he;simp only[B8,C,evU]at f;have f:u=D4 Ora.env (v::l)[z]:=by
       rw[<- f];show(List.map (D4 Ora.env) (v::l)).getD z .none=_;rw[B9,F4,A4 c];rfl
      rw[f,t1]at A;cases A;refine⟨?_,by simp[q]⟩;have:(cs'.drop (o+z*s)).take (k+1)=E::(cs'.drop (o+1+z*s)).take k:=by
       rw[Q5 (A7.1 f1).1,List.take_succ_cons,(A7.1 f1).2,show o+z*s+1=o+1+z*s by omega]
      rw[this];exact .cons (D ρ) p
     .cases h
    .cases h
   .cases h
def IC{t:TypeId}{l:Loc}{z s n k:Nat}{i:Value}{cs:D0}(h:HR P base ρ m.H w)(hr:i7 m a ((n-1)*s+k)=some cs)(f:ρ a.block=some l)(he:lE Ora.env i=some (.ofNat z))(d:z<n)(e:x8 m cs s n i 0 k=some (hs,m'))(g:Sat m'.lg) :
  ∃ rs,LR ρ hs rs/\rs.length=k/\∀ (j:Nat) (v':Value),rs[j]? = some v'->w.cell? ⟨l.blk,a.off+z*s+l.sh+j,none⟩=some v':=by
 obtain⟨r',h1,p,h3⟩:=X4 h hr f;obtain⟨g1,g2⟩:=pF he d h1 e g;rw[D8]at g1;refine⟨_,g1,g1.1▸g2,fun j v' b=>?_⟩;have c:j<k:=by
  have:=(A7.1 b).1;simp at this;omega
 rw[F0 c,G4]at b
 have:=h3 _ v' b;rw[show a.off+z*s+l.sh+j=a.off+l.sh+(z*s+j) by omega];exact this
def EM{t:TypeId}{x x' v:Value}(h:HR P base ρ m.H w)(b:lU P m t x=some (v,m'))(k:VR ρ x x')(f:Sat m'.lg):∃ r,(Instr.loadAt t x').run P w=.ok r w/\VR ρ v r:=by
 unfold lU at b;split at b
 .rename_i a s i n;obtain⟨l,z,h1,y,h3,e,rfl⟩:=IJ (n:=n) (s:=s) (i:=i) k;split at b
  .rename_i d;split at b
   .rename_i cs hr;split at b
    .rename_i hh m2 c;cases b;obtain⟨rs,g1,g2,g3⟩:=IC (t:=t) h hr h1 h3 e c f;obtain⟨v',r2,rfl,p,A⟩:=g1.tail;refine⟨v',?_,p⟩
     have:=g3 0 v' rfl;simp[Instr.loadAt,Instr.sureAddr,loadVar,A3,n7 d,Result.andThen,run_load,show w.cell? ⟨l.blk,a.off+z*s+l.sh,none⟩=some v' from by simpa using this]
    .cases b
   .cases b
  .rename_i q d g;split at b
   .rename_i cs hr;split at b
    .rename_i hh m2 c;cases b;obtain⟨rs,g1,g2,g3⟩:=IC (t:=t) h hr h1 h3 e c f;refine⟨.agg ⟨rs⟩,?_,.agg g1.1 g1.2⟩;simp[Instr.loadAt,Instr.sureAddr,loadVar,A3,n7 d,J0 g,Result.andThen,I5 g2 g3]
    .cases b
   .cases b
  .cases b
 .cases b
def TJ{fr:Fr}{g:Operand->Value}{o:Oper}{v:Value}(h:HR P base ρ m.H w)(f:MW P fr m o.op=some (v,m'))(D:FR ρ fr g o.op)(l:Sat m'.lg):NOk P base ρ m w (execOp g o) v m':=by
 obtain⟨_,lg,rfl⟩:=GZ f;have q:St P base ρ ρ m (m.wLg lg) w w:=St.wLg h lg;obtain⟨dst,op,ty,pos,G,I⟩:=o;simp only at f D;have d:∀ {x},x ∈ op.operands.toList->VR ρ (ev fr x) (g x):=fun A=>D _ A
 have fin:∀ {s:Sem Value},(∃ r,s.run P w=.ok r w/\VR ρ v r)->NOk P base ρ m w (do pure (.value (<- s))) v (m.wLg lg):=fun{s} ⟨r,h1,E⟩=>NOk.of ⟨r,ρ,w,h1,E,q⟩
 unfold MW at f;split at f
 .rename_i c a b;have C:=d (x:=c) (by simp[Op.operands]);unfold qK at f;obtain⟨H,n,W,hi,l0⟩:=m;simp only at f;split at f
  .rename_i l1 B;simp only[C7,I9]at f;obtain⟨rfl,f⟩:=f;have p:Sat l1:=by
    have:l1=(Mem.wLg ⟨H,n,W,hi,l0⟩ lg).lg:=by rw[<- f]
    rw[this];exact l
   have:=iL B C p;exact⟨g a,ρ,w,.inl (by simp[execOp,this,asBool]),d (by simp[Op.operands]),q⟩
  .rename_i l1 B;simp only[C7,I9]at f;obtain⟨rfl,f⟩:=f;have p:Sat l1:=by
    have:l1=(Mem.wLg ⟨H,n,W,hi,l0⟩ lg).lg:=by rw[<- f]
    rw[this];exact l
   have:=iL B C p;exact⟨g b,ρ,w,.inl (by simp[execOp,this,asBool]),d (by simp[Op.operands]),q⟩
  .cases f
 .rename_i op t x y L;have A:=d (x:=x) (by simp[Op.operands]);have k:=d (x:=y) (by simp[Op.operands]);refine fin (s:=do eqGuard op t x y (g x) (g y);binOp op t (g x) (g y)) ?_;split at f
  .rename_i r hr;cases f;exact KC hr A k l w
  .rename_i hr;exact MX f A k hr l w
 .rename_i op t x;exact fin (s:=Op.unary op (g x)) (MU f (d (by simp[Op.operands])) l w)
 .exact fin (EO f (d (by simp[Op.operands])) l w)
 .rename_i t x lo hi mx;exact fin (s:=Instr.sliceAt t (g x) (lo.map g) (hi.map g) (mx.map g)) (AP f (d (x:=x) (by simp[Op.operands])) (fC (g:=g) fun y k=>d (by simp[Op.operands]at k ⊢;exact .inr (.inl k))) (fC (g:=g) fun y k=>d (by simp[Op.operands]at k ⊢;exact .inr (.inr (.inl k)))) (fC (g:=g) fun y k=>d (by simp[Op.operands]at k ⊢;exact .inr (.inr (.inr k)))) l w)
 .exact fin (AR f (d (by simp[Op.operands])) (d (by simp[Op.operands])) l w)
 .exact fin (uI f (d (by simp[Op.operands])) (d (by simp[Op.operands])) l w)
 .exact fin (uK f (d (by simp[Op.operands])) w)
 .rename_i t x;exact fin (s:=Instr.loadAt t (g x)) (EM h f (d (by simp[Op.operands])) l)
 .rename_i b xs tys;have l1:=aK (ρ:=ρ) (fr:=fr) (g:=g) (xs:=xs.toList) fun x A=>d (by show x ∈ (#[]++xs:Array Operand).toList;simpa using A)
  obtain⟨ks,J⟩:∃ ks,execOp g ⟨dst,.call ⟨.builtin b,xs,tys⟩,ty,pos,G,I⟩=builtin b tys ty ks (xs.map g):=⟨_,rfl⟩;obtain⟨s,e,hs⟩:=uM (ty:=ty) (ks:=ks) h f l1 l;have K:xs.map g=⟨xs.toList.map g⟩:=by apply H7;simp
  rw[J,K];have F:tys=⟨tys.toList⟩:=rfl;rw[F,e];exact fin hs
 .cases f
end
end
section
open Go
variable [Ora]
section
variable {P:Program} {base:Nat} {ρ ρ':Ren} {m m':Mem} {w w':World}
def I2.step(c:I2 ρ m.n hi)(st:St P base ρ ρ' m m1 w w'):I2 ρ' m1.n hi:=fun b h1 d=>by
 cases e:ρ' b with
 | none=>rfl
 | some l =>
   cases h0:ρ b with
   | some l0=>rw[c b (B6 st.nle h1) d]at h0;cases h0
   | none=>have:=(st.new b l e h0).2;omega
def I2.less{n hi':Nat}(c:I2 ρ n hi)(h:hi'<=hi):I2 ρ n hi':=fun b h1 d=>c b h1 (C9 d h)
def cN(m:Mem)(t:Nat)(op:LOp)(xs:List Value):Lg:=⟨m.lg.nx+1,m.lg.pi,.dt m.lg.nx t op xs::m.lg.log⟩
def L6{t:Nat}{k:Nat->Mem->Res}:qE m t op xs k=k m.lg.nx (m.wLg (cN m t op xs)):=by
 obtain⟨H,n,W,hi,⟨nx,pi,log⟩⟩:=m;simp only[qE,E1,G5];rfl
def CL{t:Nat}{k:Nat->Mem->Option (D0×Mem)}:U5.letDo t op xs m k=k m.lg.nx (m.wLg (cN m t op xs)):=by
 obtain⟨H,n,W,hi,⟨nx,pi,log⟩⟩:=m;simp only[U5.letDo,E1,G5];rfl
@[simp] theorem Y1(lg:Lg):(m.wLg lg).lg=lg:=by cases m;rfl
@[simp] theorem gK(lg:Lg):(m.wLg lg).H=m.H:=by cases m;rfl
@[simp] theorem MG(lg:Lg):(m.wLg lg).n=m.n:=by cases m;rfl
@[simp] theorem EG(lg:Lg):(m.wLg lg).hi=m.hi:=by cases m;rfl
@[simp] theorem A3B(lg:Lg):(m.wLg lg).W=m.W:=by cases m;rfl
def S0{t:Nat} :m.lg.le (m.wLg (cN m t op xs)).lg:=by
 rw[Y1];exact⟨[_],rfl⟩
def fU{t:Nat}{lg:Lg}(e:Sat lg)(d:(m.wLg (cN m t op xs)).lg.le lg):Ora.env m.lg.nx=evU op (xs.map (D4 Ora.env))/\F3 (Ora.env m.lg.nx)=t/\∃ b wd rows,Ora.env m.lg.nx=.seq b wd rows/\t=10+wd:=by
 obtain⟨h1,c,b,wd,rows,h3⟩:=e _ (d.subset (by rw[Y1];exact B4));exact⟨h1,c,b,wd,rows,h3,by rw[<- c,h3];rfl⟩
def bA{b:Nat}(h:kU m b=true):Hp.get m.H b=some .frz:=by
 unfold kU at h;split at h
 .assumption
 .cases h
def IL{b:Nat}(h:kU m b=true):b<=G1:=by
 unfold kU at h;split at h
 .exact A1 h
 .cases h
def PZ{b:Nat}(hr:HR P base ρ m.H w)(h:kU m b=true):∃ l,ρ b=some l:=by
 obtain⟨l,h1,_⟩:=hr.at_ b (IL h) _ (bA h);exact⟨l,h1⟩
def N7{k:Nat->Mem->Option (Value×Nat×Mem)}{r:Value×Nat×Mem}(h:dJ m k=some r):∃ m1,W5 m .frz (fun _=>undef)=some (undef,m1)/\k m.n m1=some r/\m1.H=m.H.set m.n (some .frz)/\m.n<=G1/\m1.lg=m.lg:=by
 obtain⟨H,n,W,hi,lg⟩:=m;simp only[dJ,E1,bS]at h;obtain⟨h1,b⟩:=A2 h;refine⟨_,?_,b,rfl,A1 h1,rfl⟩;simp only[W5,E1,bS,h1,D7]
def gI(G:Nat->Option Obj):Loc:=⟨0,0,0,0,G,false⟩
def St.region{G:Nat->Option Obj}(h:HR P base ρ m.H w)(f:W5 m .frz (fun _=>undef)=some (undef,m1))(p:I2 ρ m.n m1.hi)
  (g:∀ k o,G k=some o->w.heap[k]? = some o/\∃ id ab l,id<=G1/\Hp.get m.H id=some ab/\ρ id=some l/\Tf ab l k/\ab.rw=false) :
  upd ρ m.n (gI G) m.n=some (gI G)/\Hp.get m1.H m.n=some .frz/\St P base ρ (upd ρ m.n (gI G)) m m1 w w:=by
 obtain⟨h1,r,h3⟩:=St.new0 (l':=gI G) h f p ⟨rfl,fun k o hk=>(g k o hk).1⟩ rfl fun q c=>by
  rcases c with⟨c,_⟩|⟨_,o,c⟩
  .cases c
  .obtain⟨g1,id,ab,l,g2,g3,g4,g5,g6⟩:=g q o c;refine⟨⟨id,ab,l,g2,g3,g4,g5⟩,fun t d a l2 b v hr x e=>?_⟩
   have:=((h.atl v b).2 hr x).2 id g2 ab l g3 g4 (e▸g5.2);subst this;rw[g3]at b;have b:=A5 b;subst b;rw[g6]at hr;cases hr
 refine⟨r,?_,h3⟩;obtain⟨hle,_,rfl⟩:=J7 f;show Hp.get (m.H.set m.n (some .frz)) m.n=_;rw[E7 _ _ _ _ hle hle,B2 rfl]
theorem jM{b i t:Nat}{v':Value}(h:VR ρ (dat b i t) v'):∃ l,ρ b=some l/\Enc l.G (Ora.env i) v'/\F3 (Ora.env i)=t/\10<=t:=by
 generalize c:dat b i t=x at h;cases h with
 | dat h he e d f =>
   simp only[dat,Value.func.injEq,X1,I4,Value.pointer.injEq,C7,Addr.mk.injEq,Value.complex.injEq,true_and,and_true]at c;obtain⟨rfl,rfl,rfl⟩:=c;exact⟨_,h,he,e,d⟩
 | pure hp=>subst c;simp[dat,H3]at hp
 | _=>simp[ixp,Go.Sx.dat,Go.Sx.clp,Go.Sx.own,Go.Sx.dpt,Go.Sx.opt,Go.Sx.yv,Go.Sx.sdt]at c
theorem cU{b i t:Nat}{v':Value}(h:VR ρ (clp b i t) v'):∃ l,ρ b=some l/\Enc l.G (Ora.env i) v'/\F3 (Ora.env i)=t/\10<=t/\RL v':=by
 generalize c:clp b i t=x at h;cases h with
 | clp h he f d g e =>
   simp only[clp,Value.func.injEq,X1,I4,Value.pointer.injEq,C7,Addr.mk.injEq,Value.complex.injEq,true_and,and_true]at c;obtain⟨rfl,rfl,rfl⟩:=c;exact⟨_,h,he,f,d,e⟩
 | pure hp=>subst c;simp[clp,H3]at hp
 | _=>simp[ixp,Go.Sx.dat,Go.Sx.clp,Go.Sx.own,Go.Sx.dpt,Go.Sx.opt,Go.Sx.yv,Go.Sx.sdt]at c
theorem x5{b i t:Nat}{v':Value}(h:VR ρ (own b i t) v'):FG ρ b (Ora.env i) v'/\F3 (Ora.env i)=t:=by
 generalize c:own b i t=x at h;cases h with
 | own h d e =>
   simp only[own,Value.func.injEq,X1,I4,Value.pointer.injEq,C7,Addr.mk.injEq,Value.complex.injEq,true_and,and_true]at c;obtain⟨rfl,rfl,rfl⟩:=c;exact⟨h,d⟩
 | pure hp=>subst c;simp[own,H3]at hp
 | _=>simp[ixp,Go.Sx.dat,Go.Sx.clp,Go.Sx.own,Go.Sx.dpt,Go.Sx.opt,Go.Sx.yv,Go.Sx.sdt]at c
def zD{b t:Nat}{v':Value}(h:VR ρ (dpt b i t z o) v'):A1Z ρ b (Ora.env i) (lE Ora.env z) o v'/\F3 (Ora.env i)=t:=by
 generalize c:dpt b i t z o=x at h;cases h with
 | dpt h d e =>
   simp only[dpt,Value.func.injEq,X1,I4,Value.pointer.injEq,C7,Addr.mk.injEq,Value.complex.injEq,Value.int.injEq,gG,true_and,and_true]at c;obtain⟨rfl,⟨rfl,rfl⟩,rfl,rfl⟩:=c;exact⟨h,d⟩
 | pure hp=>subst c;simp[dpt,H3]at hp
 | _=>simp[ixp,Go.Sx.dat,Go.Sx.clp,Go.Sx.own,Go.Sx.dpt,Go.Sx.opt,Go.Sx.yv,Go.Sx.sdt]at c
def qO{b t:Nat}{v':Value}(h:VR ρ (opt b i t z o) v'):A0_ ρ b (Ora.env i) (lE Ora.env z) o v'/\F3 (Ora.env i)=t:=by
 generalize c:opt b i t z o=x at h;cases h with
 | opt h d e =>
   simp only[opt,Value.func.injEq,X1,I4,Value.pointer.injEq,C7,Addr.mk.injEq,Value.complex.injEq,Value.int.injEq,gG,true_and,and_true]at c;obtain⟨rfl,⟨rfl,rfl⟩,rfl,rfl⟩:=c;exact⟨h,d⟩
 | pure hp=>subst c;simp[opt,H3]at hp
 | _=>simp[ixp,Go.Sx.dat,Go.Sx.clp,Go.Sx.own,Go.Sx.dpt,Go.Sx.opt,Go.Sx.yv,Go.Sx.sdt]at c
def wT{b c tc g t:Nat}{T:TypeId}{v':Value}(h:HR P base ρ m.H w)(K:Hp.get m.H b=some (.sq c tc T g true))(S:VR ρ (own b i t) v')(B:tc=t)(y:Hp.get m.H g=some .frz)
  (M:W5 m .frz (fun _=>undef)=some (undef,m1)) (N:I2 ρ m.n m1.hi):∃ l,St P base ρ (upd ρ m.n l) m m1 w w/\upd ρ m.n l m.n=some l/\Hp.get m1.H m.n=some .frz/\Enc l.G (Ora.env c) v'/\F3 (Ora.env c)=t:=by
 obtain⟨A,L⟩:=x5 S;rcases A with⟨l,wd,h1,D,h3,rfl⟩|⟨l,wd,rows,h1,D,h3,V,Q,rfl⟩
 .obtain⟨p,_⟩:=h.atl h1 K;obtain⟨x,inf,I,R,O,d⟩:=SqR.ex p;rcases d with⟨_,d⟩|⟨d,_⟩
  .obtain⟨g1,g2,g3⟩:=St.region (G:=fun _=>none) h M N (fun k o hk=>by cases hk);exact⟨_,g3,g1,g2,by rw[d];exact .nil,by rw[d,<- B,I];rfl⟩
  .rw[D]at d;cases d
 .obtain⟨p,_⟩:=h.atl h1 K;obtain⟨x,inf,I,R,O,d⟩:=SqR.ex p;rcases d with⟨d,_⟩|⟨_,d⟩
  .rw[D]at d;cases d
  .obtain⟨C,fz,E,J,lg,f1,f2,f3,f4,f5,f6,f7,f8,f9⟩:=d;obtain⟨F,_⟩:=h.atl f7 y;have f:∀ k o,lg.G k=some o->w.heap[k]? = some o:=F.2;let G:Nat->Option Obj:=fun k=>if k=l.blk then some (.cells C E fz)else lg.G k
   have q:∀ k o,lg.G k=some o->G k=some o:=fun k o hk=>by
    show(if k=l.blk then _ else _)=_;by_cases e:k=l.blk
    .subst e;rw[B2 rfl]
     have:=f _ _ hk;rw[f1]at this;exact this
    .rw[B1 e];exact hk
   obtain⟨g1,g2,g3⟩:=St.region (G:=G) h M N fun k o hk=>by
    have hk:(if k=l.blk then some (.cells C E fz)else lg.G k)=some o:=hk;by_cases e:k=l.blk
    .subst e;rw[B2 rfl]at hk;exact⟨by rw[f1];exact hk,b,_,l,h.dom _ _ h1,K,h1,⟨rfl,.inl ⟨rfl,D,rfl⟩⟩,rfl⟩
    .rw[B1 e]at hk;exact⟨f _ _ hk,g,_,lg,h.dom _ _ f7,y,f7,⟨rfl,.inr ⟨rfl,o,hk⟩⟩,rfl⟩
   refine⟨_,g3,g1,g2,?_,by rw[f2,<- B,I];rfl⟩;rw[f2,<- f3];refine .sl (G:=G) (C:=C) (T:=E) (fz:=fz) A9 (fun _=>?_) (fun _=>?_) f6 fun r row j u v q1 q2 q3=>(f8 r row j u v q1 q2 q3).mono q
   .show(if l.blk=l.blk then _ else _)=_;rw[B2 rfl]
   .have:=E4 x f4;rw[<- f3]at this;omega
def BR.thaw{c t g:Nat}{T:TypeId}{l:Loc}(h:BR P ρ (.sq c t T g false) l w):BR P ρ (.sq c t T g true) l w:=by
 obtain⟨wd,inf,h1,d,h3,f⟩:=SqR.ex h;refine⟨⟨wd,inf,h1,d,h3,f.imp (fun x=>x) fun⟨b,e⟩=>⟨b,?_⟩⟩⟩;obtain⟨C,fz,n,rows,lg,h1,d,h3,f,e,p,k,q,r⟩:=e;exact⟨C,fz,n,rows,lg,h1,d,h3,f,e,p,k,q,fun h=>by cases h⟩
def rV{id:Nat}{ab:AB}(h:x7 m id ab=some m')(b:j<=G1):Hp.get m'.H j=if j=id then some ab else Hp.get m.H j:=by
 obtain⟨hle,rfl⟩:=R1 h;exact E7 _ _ _ _ hle b
def gY{ab:AB}{k:Nat->Value}{v:Value}(h:W5 m ab k=some (v,m'))(b:j<=G1):Hp.get m'.H j=if j=m.n then some ab else Hp.get m.H j:=by
 obtain⟨hle,_,rfl⟩:=J7 h;exact E7 _ _ _ _ hle b
def yB{t:Nat}{v v' x:Value}{b:Nat}(h:HR P base ρ m.H w)(d:toD t v m=some (x,b,m'))(F:I2 ρ m.n m'.hi)(D:VR ρ v v')(X:Sat m'.lg) :
  ∃ ρ' l,St P base ρ ρ' m m' w w/\ρ' b=some l/\Hp.get m'.H b=some .frz/\Enc l.G (D4 Ora.env x) v'/\F3 (D4 Ora.env x)=t/\m.lg.le m'.lg:=by
 unfold toD at d;split at d
 .rename_i K i tg;obtain⟨h1,f⟩:=A2 d;cases f;obtain⟨h1,f⟩:=B3 h1;have h1:=A0 h1;obtain⟨l,y,r,B,M⟩:=jM D;exact⟨ρ,l,St.refl h,y,bA f,r,B.trans h1,.refl _⟩
 .rename_i K i tg;obtain⟨h1,f⟩:=A2 d;cases f;obtain⟨h1,f⟩:=B3 h1;have h1:=A0 h1;obtain⟨l,y,r,B,M,_⟩:=cU D;exact⟨ρ,l,St.refl h,y,bA f,r,B.trans h1,.refl _⟩
 .rename_i K i tg;split at d
  .rename_i c tc T g E;obtain⟨h1,f⟩:=A2 d;obtain⟨h1,h3⟩:=B3 h1;obtain⟨h1,C⟩:=B3 h1;have h1:=A0 h1;have C:=A0 C;obtain⟨m1,q1,q2,_,_,q5⟩:=N7 f;cases q2;subst h1;obtain⟨l,y,r,B,M,R⟩:=wT h E D C (bA h3) q1 F;exact⟨_,l,y,r,B,M,R,by rw[q5];exact .refl _⟩
  .rename_i c tc T g E;obtain⟨h1,f⟩:=A2 d;obtain⟨h1,h3⟩:=B3 h1;have O:=IL h3;obtain⟨h1,C⟩:=B3 h1;have h1:=A0 h1;have C:=A0 C;split at f
   .rename_i m1 hs;obtain⟨m2,q1,q2,_,_,q5⟩:=N7 f;cases q2;subst h1;have S:∃ l0,ρ K=some l0:=by
     rcases(x5 D).1 with⟨l,_,h1,_⟩|⟨l,_,_,h1,_⟩<;>exact⟨l,h1⟩
    obtain⟨l0,L⟩:=S;have W:=(h.atl L E).1;have p:=St.same0 h hs E rfl L W.thaw (fun q Y=>by
     rcases Y with⟨_,a,b⟩|⟨a,_⟩
     .exact .inl ⟨rfl,a,b⟩
     .cases a)
    have hle:=(R1 hs).1;have V:g≠K:=fun e=>by subst e;rw[bA h3]at E;cases E
    have N:Hp.get m1.H K=some (.sq c tc T g true):=by rw[rV hs hle,B2 rfl]
    have I:Hp.get m1.H g=some .frz:=by rw[rV hs O,B1 V];exact bA h3
    have Q:m1.n=m.n:=by rw[(R1 hs).2]
    obtain⟨l,y,r,B,M,R⟩:=wT p.hr N D C I q1 (by rw[Q];exact F);refine⟨_,l,St.trans F p y,r,B,M,R,by rw[q5,(R1 hs).2];exact .refl _⟩
   .cases f
  .cases d
 .obtain⟨J,d⟩:=A2 d;have J:=A1 J;rw[L6]at d;simp only at d;obtain⟨m1,q1,q2,_,_,q5⟩:=N7 d;cases q2;cases M8 D;have A:(m.wLg (cN m t (.nilw (t-10)) [])).lg.le m'.lg:=by rw[q5];exact .refl _
  obtain⟨y,r,_⟩:=fU X A;have p:=St.wLg h (cN m t (.nilw (t-10)) []);obtain⟨g1,g2,g3⟩:=St.region (G:=fun _=>none) p.hr q1 (by simpa using F) (fun k o hk=>by cases hk);refine⟨_,_,St.trans (by simpa using F) p g3,g1,g2,?_,r,S0.trans A⟩;show Enc _ (Ora.env m.lg.nx) _;rw[y];exact .nil
 .cases d
end
end
section
open Go
variable [Ora]
section
variable {P:Program} {base:Nat} {ρ ρ':Ren} {m m':Mem} {w w':World}
def Z6(ρ:Ren)(m m':Mem):Prop:=∀ j l,ρ j=some l->Hp.get m.H j=some .frz->Hp.get m'.H j=some .frz
def Z6.refl:Z6 ρ m m:=fun _ _ _ h=>h
def Z6.trans(he:∀ b l,ρ b=some l->ρ' b=some l)(a:Z6 ρ m m1)(c:Z6 ρ' m1 m'):Z6 ρ m m':=fun j l h1 d=>c j l (he j l h1) (a j l h1 d)
def Z6.lg(lg:Lg):Z6 ρ m (m.wLg lg):=fun j l _ h=>by rw[gK];exact h
def CN{ab:AB}{k:Nat->Value}{v:Value}(h:HR P base ρ m.H w)(b:W5 m ab k=some (v,m'))(c:I2 ρ m.n m'.hi):Z6 ρ m m':=fun j l h1 d=>by
 rw[gY b (h.dom j l h1),B1]
 .exact d
 .intro e;subst e;obtain⟨_,_,rfl⟩:=J7 b;rw[c m.n (A6 _) (J1 _ _).2]at h1;cases h1
def PM{ab:AB}{id:Nat}(h:HR P base ρ m.H w)(hs:x7 m id ab=some m')(b:Hp.get m.H id≠some .frz):Z6 ρ m m':=fun j l h1 c=>by
 rw[rV hs (h.dom j l h1),B1]
 .exact c
 .intro e;subst e;exact b c
def AM{t:Nat}{v x:Value}{b:Nat}(h:HR P base ρ m.H w)(d:toD t v m=some (x,b,m'))(p:I2 ρ m.n m'.hi):Z6 ρ m m':=by
 unfold toD at d;split at d
 .obtain⟨h1,f⟩:=A2 d;cases f;exact .refl
 .obtain⟨h1,f⟩:=A2 d;cases f;exact .refl
 .split at d
  .obtain⟨h1,f⟩:=A2 d;obtain⟨m1,q1,q2,_⟩:=N7 f;cases q2;exact CN h q1 p
  .rename_i c tc T g B;obtain⟨h1,f⟩:=A2 d;split at f
   .rename_i m1 hs;obtain⟨m2,q1,q2,_⟩:=N7 f;cases q2;have hk:=PM h hs (by rw[B];intro h;cases h);intro j l k r;have A:=hk j l k r;rw[gY q1 (h.dom j l k),B1]
    .exact A
    .intro e;subst e;have q:m1.n=m.n:=by rw[(R1 hs).2]
     obtain⟨_,_,rfl⟩:=J7 q1;rw[p m1.n A9 (J1 _ _).2]at k;cases k
   .cases f
  .cases d
 .obtain⟨y,d⟩:=A2 d;rw[L6]at d;simp only at d;obtain⟨m1,q1,q2,_⟩:=N7 d;cases q2;intro j l k r;rw[gY q1 (h.dom j l k),B1,gK]
  .exact r
  .intro e;subst e;have q:(m.wLg (cN m t (.nilw (t-10)) [])).n=m.n:=by simp
   obtain⟨_,_,rfl⟩:=J7 q1;rw[p _ A9 (J1 _ _).2]at k;cases k
 .cases d
def W7(R:Nat->Option Obj)(us:List U)(vs:List Value):Prop:=us.length=vs.length/\∀ (i:Nat) (u:U) (v:Value),us[i]? = some u->vs[i]? = some v->Enc R u v
omit [Ora] in
def W7.nil{R:Nat->Option Obj}:W7 R [] []:=⟨rfl,fun i u v h=>by simp at h⟩
omit [Ora] in
def W7.cons{R:Nat->Option Obj}{v:Value}(h:Enc R u v)(k:W7 R us vs):W7 R (u::us) (v::vs):=⟨by simp[k.1],fun i a b h1 c=>by
 cases i with
 | zero=>simp at h1 c;subst h1;subst c;exact h
 | succ i=>exact k.2 i a b (by simpa using h1) (by simpa using c)⟩
def Sub(G R:Nat->Option Obj):Prop:=∀ k o,G k=some o->R k=some o
def dQ{t:Nat}{v x:Value}{b:Nat}{m m':Mem}(c:toD t v m=some (x,b,m')):m.hi<=m'.hi/\m.lg.le m'.lg/\m.n<=m'.n:=by
 have e:∀ {m m1:Mem},W5 m .frz (fun _=>undef)=some (undef,m1)->m.hi<=m1.hi/\m.lg.le m1.lg/\m.n<=m1.n:=fun f=>by
  obtain⟨_,_,rfl⟩:=J7 f;exact⟨(J1 _ _).1,.refl _,W8 _⟩
 unfold toD at c;split at c
 .obtain⟨h1,d⟩:=A2 c;cases d;exact⟨A6 _,.refl _,A6 _⟩
 .obtain⟨h1,d⟩:=A2 c;cases d;exact⟨A6 _,.refl _,A6 _⟩
 .split at c
  .obtain⟨h1,d⟩:=A2 c;obtain⟨m1,q1,q2,_⟩:=N7 d;cases q2;exact e q1
  .obtain⟨h1,d⟩:=A2 c;split at d
   .rename_i m1 hs;obtain⟨m2,q1,q2,_⟩:=N7 d;cases q2
    have:=e q1;obtain⟨_,rfl⟩:=R1 hs;exact this
   .cases d
  .cases c
 .obtain⟨g,c⟩:=A2 c;rw[L6]at c;simp only at c;obtain⟨m1,q1,q2,_⟩:=N7 c;cases q2
  have:=e q1;exact⟨by simpa using this.1,S0.trans this.2.1,by simpa using this.2.2⟩
 .cases c
structure uC (P:Program) (td:Td):Prop where
 ok:∀ {base:Nat} {ρ:Ren} {m m':Mem} {w:World} {t:Nat} {v v' x:Value} {b:Nat},HR P base ρ m.H w->td t v m=some (x,b,m')->I2 ρ m.n m'.hi->VR ρ v v'->Sat m'.lg ->
  ∃ ρ' l,St P base ρ ρ' m m' w w/\ρ' b=some l/\Hp.get m'.H b=some .frz/\Enc l.G (D4 Ora.env x) v'/\F3 (D4 Ora.env x)=t/\m.lg.le m'.lg/\Z6 ρ m m'
 mono:∀ {m m':Mem} {t:Nat} {v x:Value} {b:Nat},td t v m=some (x,b,m')->m.hi<=m'.hi/\m.lg.le m'.lg/\m.n<=m'.n
def MM:uC P toD:=⟨fun h c b e g=>let ⟨ρ',l,d,a2,a3,a4,a5,f⟩:=yB h c b e g;⟨ρ',l,d,a2,a3,a4,a5,f,AM h c b⟩,fun h=>dQ h⟩
def P2{e:Td}(d:uC P e):∀ {ts:F8} {vs xs:D0} {gs:F8} {m m':Mem},uG e ts vs m=some (xs,gs,m')->m.hi<=m'.hi/\m.lg.le m'.lg/\m.n<=m'.n
 | [],[],_,_,_,_,h=>by cases h;exact⟨A6 _,.refl _,A6 _⟩
 | t::ts,v::vs,xs,gs,m,m',c=>by
   unfold uG at c;cases f:Nat.blt t 10 with
   | true =>
     rw[f]at c;simp only[D7]at c;obtain⟨h1,c⟩:=A2 c;split at c
     .rename_i hr;cases c;exact P2 d hr
     .cases c
   | false =>
     rw[f]at c;simp only[D3]at c;split at c
     .rename_i g;split at c
      .rename_i hr;cases c;have a:=d.mono g;have b:=P2 d hr;exact⟨B6 a.1 b.1,a.2.1.trans b.2.1,B6 a.2.2 b.2.2⟩
      .cases c
     .cases c
 | [],_::_,_,_,_,_,c=>by cases c
 | _::_,[],_,_,_,_,c=>by cases c
def eL{L:Td}(f:uC P L):∀ {ts:F8} {vs vs' xs:D0} {gs:F8} {m m':Mem} {ρ:Ren},HR P base ρ m.H w->uG L ts vs m=some (xs,gs,m')->I2 ρ m.n m'.hi->LR ρ vs vs'->Sat m'.lg ->
  ∃ ρ',St P base ρ ρ' m m' w w/\m.lg.le m'.lg/\Z6 ρ m m'/\(∀ b ∈ gs,Hp.get m'.H b=some .frz/\∃ l,ρ' b=some l)/\(xs.map (D4 Ora.env)).map F3=ts /\
   ∀ R,(∀ b ∈ gs,∀ l,ρ' b=some l->Sub l.G R)->W7 R (xs.map (D4 Ora.env)) vs'
 | [],[],vs',xs,gs,m,m',ρ,h,c,hf,hv,hS=>by
   cases c;exact⟨ρ,St.refl h,.refl _,.refl,fun b O=>(by cases O),rfl,fun R _=>by rw[hv.nil_inv];exact .nil⟩
 | t::ts,v::vs,vs',xs,gs,m,m',ρ,h,c,hf,hv,hS=>by
   obtain⟨v',r',rfl,p,k⟩:=hv.tail;unfold uG at c;cases J:Nat.blt t 10 with
   | true =>
     rw[J]at c;simp only[D7]at c;obtain⟨h1,c⟩:=A2 c;have h1:=A0 h1;have M:t<10:=A1 J;split at c
     .rename_i r C m2 hr;cases c;obtain⟨ρ2,q,F,x,I,B,K⟩:=eL f h hr hf k hS;obtain⟨f1,f2⟩:=l9 p A9;exact⟨ρ2,q,F,x,I,by simp[f2,h1,B],fun R y=>.cons (.sc f1) (K R y)⟩
     .cases c
   | false =>
     rw[J]at c;simp only[D3]at c;split at c
     .rename_i hh b m1 N;split at c
      .rename_i r C m2 hr;cases c;have d:m1.hi<=m'.hi/\m1.lg.le m'.lg/\m1.n<=m'.n:=P2 f hr;have A:I2 ρ m.n m1.hi:=hf.less d.1;obtain⟨D,l,g,a2,a3,a4,a5,S,Q⟩:=f.ok h N A p (hS.le d.2.1);have E:I2 D m1.n m'.hi:=hf.step g;obtain⟨ρ2,q,F,x,I,B,K⟩:=eL f g.hr hr E (k.mono g.ext) hS;refine⟨ρ2,St.trans hf g q,S.trans F,Q.trans g.ext x,fun b' e=>?_,by simp[a5,B],fun R y=>.cons (a4.mono (y b (.head _) l (q.ext _ _ a2))) (K R fun b' e=>y b' (.tail _ e))⟩;rcases A8.1 e with rfl|e
       .exact⟨x _ l a2 a3,l,q.ext _ _ a2⟩
       .exact I b' e
      .cases c
     .cases c
 | [],_::_,_,_,_,_,_,_,_,c,_,_,_=>by cases c
 | _::_,[],_,_,_,_,_,_,_,c,_,_,_=>by cases c
def bZ{gs:F8}{g:Nat}(h:HR P base ρ m.H w)(c:fR gs m=some (g,m'))(q:I2 ρ m.n m'.hi) :
  ∃ ρ' lg,St P base ρ ρ' m m' w w/\m'.lg=m.lg/\Z6 ρ m m'/\ρ' g=some lg/\Hp.get m'.H g=some .frz/\∀ b ∈ gs,∀ l,ρ b=some l->Sub l.G lg.G:=by
 have main:∀ {gs:F8},(bif gs.all (kU m)then match dJ m fun b m=>some (undef,b,m)with
  | some (_,b,m)=>some (b,m)
  | none=>none else none)=some (g,m')->∃ ρ' lg,St P base ρ ρ' m m' w w/\m'.lg=m.lg/\Z6 ρ m m'/\ρ' g=some lg/\Hp.get m'.H g=some .frz/\∀ b ∈ gs,∀ l,ρ b=some l->Sub l.G lg.G:=fun{gs} c=>by
  obtain⟨h1,c⟩:=A2 c;split at c
  .rename_i r b m1 v;cases c;obtain⟨m2,q1,q2,_,_,q5⟩:=N7 v;cases q2;have e:∀ b ∈ gs,Hp.get m.H b=some .frz:=fun b d=>bA (D2.1 h1 b d)
   classical
   let G:Nat->Option Obj:=fun k=>if ∃ b ∈ gs,∃ l o,ρ b=some l/\l.G k=some o then w.heap[k]? else none
   obtain⟨g1,g2,g3⟩:=St.region (G:=G) h q1 q fun k o hk=>by
    have hk:(if ∃ b ∈ gs,∃ l o,ρ b=some l/\l.G k=some o then w.heap[k]? else none)=some o:=hk;split at hk
    .rename_i hex;obtain⟨b,d,l,y,t,x⟩:=hex;exact⟨hk,b,_,l,h.dom _ _ t,e b d,t,⟨rfl,.inr ⟨rfl,y,x⟩⟩,rfl⟩
    .cases hk
   refine⟨_,gI G,g3,q5,CN h q1 q,g1,g2,fun b d l p k o hk=>?_⟩;show(if ∃ b ∈ gs,∃ l o,ρ b=some l/\l.G k=some o then w.heap[k]? else none)=_;rw[B2 ⟨b,d,l,o,p,hk⟩];exact(h.atl p (e b d)).1.2 k o hk
  .cases c
 unfold fR at c;split at c
 .rename_i g0;obtain⟨h1,c⟩:=A2 c;cases c;obtain⟨l,p⟩:=PZ h h1;refine⟨ρ,l,St.refl h,rfl,.refl,p,bA h1,fun b d l2 f=>?_⟩;rcases A8.1 d with rfl|d
  .rw[p]at f
   have:=A5 f;subst this;exact fun _ _ h=>h
  .cases d
 .exact main c
omit [Ora] in
def jO{R:Nat->Option Obj}{v r:Value}(h:Enc R u v)(hr:toV u=some r):v=r:=by
 cases h with
 | sc h=>rw[h]at hr;exact A5 hr
 | nil=>cases hr
 | emp=>cases hr
 | sl=>cases hr
omit [Ora] in
def iJ{R:Nat->Option Obj}{v:Value}(h:Enc R u v):p8 v=true:=by
 cases h with
 | sc h=>have:=dP h;cases v<;>first|rfl|cases this
 | nil=>rfl
 | emp=>rfl
 | sl=>rfl
def VC{wd k:Nat}{rows:List (List U)} :evU (.get wd o) [.seq false wd rows,.int kk (.ofNat k)]=(rows.getD k []).getD o .none:=by
 simp[evU]
def getD_some(h:row.getD o .none≠.none):row[o]? = some (row.getD o .none):=by
 rw[B9]at *;cases e:row[o]? with
 | none=>rw[e]at h;exact absurd rfl h
 | some u=>rfl
def cV{wd o i t g k:Nat}{z:Value}{lg:Loc}{rows:List (List U)}{cell:Nat->N6}(hi:Ora.env i=.seq false wd rows)(l:lE Ora.env z=some (.ofNat k))(F:ρ g=some lg)
  (n:∀ q u,(rows.getD k [])[q]? = some u->∃ v,cell q=some v/\Enc lg.G u v) :
  ∀ {ts:F8} {j:Nat} {m m':Mem} {r:D0},U5 wd o i t z g ts j m=some (r,m')->Sat m'.lg->∃ r',LR ρ r r'/\r'.length=ts.length/\(∀ q v',r'[q]? = some v'->cell (o+j+q)=some v')/\I1 m m'/\m.lg.le m'.lg
 | [],j,m,m',r,h,hS=>by
   cases h;exact⟨[],.nil,rfl,fun q v' h=>by simp at h,.refl _,.refl _⟩
 | tg::ts,j,m,m',r,h,hS=>by
   unfold U5 at h;obtain⟨kk,y⟩:=AA l;have f:[hole i t,z].map (D4 Ora.env)=[.seq false wd rows,.int kk (.ofNat k)]:=by
    simp only[B8,E3,y];show[Ora.env i,_]=_;rw[hi]
   have b:∀ {u:U},u≠.none->evU (.get wd (o+j)) ([hole i t,z].map (D4 Ora.env))=u->∃ v,cell (o+j)=some v/\Enc lg.G u v:=fun{u} hu he=>by
    rw[f,VC]at he;subst he;exact n _ _ (getD_some hu)
   cases D:Nat.blt tg 10 with
   | true =>
     rw[D]at h;simp only[D7]at h;have H:tg<10:=A1 D;split at h
     .rename_i hh m1 x;split at h
      .rename_i r2 m2 hr;cases h;obtain⟨r',B,A,p,E,d⟩:=cV hi l F n hr hS;obtain⟨u,f1,f2,v,f3,f4,f5⟩:=K2 x (hS.le d);obtain⟨v2,g1,g2⟩:=b (u:=u) (by intro e;subst e;cases f3) f1
       have:=jO g2 f3;subst this;refine⟨v2::r',.cons (f4 ρ) B,by simp[A],fun q v' c=>?_,(F9 x).trans E,(G2 x).trans d⟩;cases q with
       | zero=>simp at c;subst c;exact g1
       | succ q=>rw[show o+j+(q+1)=o+(j+1)+q by omega];exact p q v' (by simpa using c)
      .cases h
     .cases h
   | false =>
     rw[D]at h;simp only[D3]at h;rw[CL]at h;split at h
     .rename_i r2 m2 hr;cases h;obtain⟨r',B,A,p,E,d⟩:=cV hi l F n hr hS;obtain⟨f1,f2,J,I,C,f3,f4⟩:=fU hS d;obtain⟨v2,g1,g2⟩:=b (u:=Ora.env m.lg.nx) (by rw[f3];intro h;cases h) f1.symm;refine⟨v2::r',.cons (.dat F g2 f2 A9 (iJ g2)) B,by simp[A],fun q v' c=>?_,I1.trans ⟨_,rfl⟩ E,S0.trans d⟩;cases q with
      | zero=>simp at c;subst c;exact g1
      | succ q=>rw[show o+j+(q+1)=o+(j+1)+q by omega];exact p q v' (by simpa using c)
     .cases h
def eM{t:TypeId}(h:gL P t=some ts):F6 P t=some ts.length:=by
 unfold gL at h;split at h
 .rename_i l n h1 b;obtain⟨h3,h⟩:=A2 h;cases h;rw[b,A0 h3]
 .cases h
def xV{t:TypeId}{r:D0}{v:Value}{b:Nat}(g:gL P t=some ts)(d:iM P t (some (r,m))=some (v,m'))(f:LR ρ r r')(l:r'.length=ts.length)
  (k:∀ q v',r'[q]? = some v'->w.cell? ⟨b,o+q,none⟩=some v'):m'=m/\∃ v',(Instr.loadAt t (.pointer (some ⟨b,o,none⟩))).run P w=.ok v' w/\VR ρ v v':=by
 unfold iM at d;split at d
 .rename_i c heq;cases d;cases heq;obtain⟨v',r2,rfl,n,p⟩:=f.tail;refine⟨rfl,v',?_,n⟩
  have:=k 0 v' rfl;simp[Instr.loadAt,Instr.sureAddr,loadVar,A3,n7 c,Result.andThen,run_load,show w.cell? ⟨b,o,none⟩=some v' from by simpa using this]
 .rename_i c heq;cases d;cases heq;refine⟨rfl,.agg ⟨r'⟩,?_,.agg f.1 f.2⟩;have e:F6 P t=some r'.length:=by rw[l];exact eM g
  simp[Instr.loadAt,Instr.sureAddr,loadVar,A3,n7 c,J0 e,Result.andThen,I5 rfl k]
 .cases d
def PF{t:TypeId}{x x' v:Value}(h:HR P base ρ m.H w)(n:CK P m t x=some (v,m'))(W:VR ρ x x')(Y:Sat m'.lg):(∃ r,(Instr.loadAt t x').run P w=.ok r w/\VR ρ v r)/\I1 m m'/\m.lg.le m'.lg:=by
 have J:∀ {r:Option (D0×Mem)},iM P t r=some (v,m')->∃ vs,r=some (vs,m'):=fun{r} F=>by
  unfold iM at F;split at F
  .cases F;exact⟨_,rfl⟩
  .cases F;exact⟨_,rfl⟩
  .cases F
 unfold CK at n;split at n
 .rename_i b i tg z o ts E;obtain⟨h1,n⟩:=A2 n;obtain⟨⟨l,wd,rows,a,s,c,k,M,I,L,V,N,e6,rfl⟩,X⟩:=zD W;obtain⟨vs,hr⟩:=J n;rw[hr]at n;have B:tg-10=wd:=by rw[<- X,I];simp[F3]
  rw[B]at hr;have S:=(h.atl M (bA h1)).1.2;rw[I]at L;obtain⟨C,T,fz,f1,f2,f3,f4⟩:∃ C T fz,l.G a=some (.cells C T fz)/\s+rows.length*wd<=C.size/\(∀ row ∈ rows,row.length=wd)/\∀ (r:Nat) (row:List U) (j:Nat) (u:U) (v:Value),rows[r]? = some row->row[j]? = some u->C[s+r*wd+j]? = some v->Enc l.G u v:=by
   have D:rows≠[]:=by intro e;subst e;simp at N
   cases L with
   | sc h=>cases h
   | emp=>exact absurd rfl D
   | sl hc O Z hw hh=>exact⟨_,_,_,O D,Z D,hw,hh⟩
  have y:=S _ _ f1;have d:rows[k]? = some rows[k]:=A4 N;obtain⟨r',g1,g2,g3,g4,g5⟩:=cV (cell:=fun q=>w.cell? ⟨a,s+k*wd+q,none⟩) I V M (fun q u f=>by
   rw[B9,d]at f;have f:rows[k][q]? = some u:=f;have A:=(A7.1 f).1;rw[f3 _ (D6 d)]at A;have hk:(k+1)*wd<=rows.length*wd:=E4 wd N;rw[G0]at hk;have p:s+k*wd+q<C.size:=A9;refine⟨C[s+k*wd+q],?_,f4 k _ q u _ d f (E0 p)⟩;simp[World.cell?,y,E0 p]) hr Y
  obtain⟨_,q1⟩:=xV (w:=w) (b:=a) (o:=s+k*wd+o) E n g1 g2 (fun q v' f=>by
   have:=g3 q v' f;rw[show s+k*wd+o+q=s+k*wd+(o+0+q) by omega];exact this)
  exact⟨q1,g4,g5⟩
 .rename_i b i tg z o ts E;split at n
  .rename_i c tc T g ro O;obtain⟨h1,n⟩:=A2 n;have h1:=A0 h1;subst h1;obtain⟨⟨l,wd,BC,k,M,I,L,V,N,e6,rfl⟩,X⟩:=qO W;obtain⟨vs,hr⟩:=J n;rw[hr]at n;obtain⟨K,inf,d1,d2,d3,d4⟩:=SqR.ex (h.atl M O).1;rcases d4 with⟨d4,_⟩|⟨_,d4⟩
   .rw[I]at d4;cases d4
   obtain⟨C,fz,T',rows,lg,f1,f2,f3,f4,f5,f6,f7,f8,f9⟩:=d4;have B:tc-10=K:=A9;rw[B]at hr;have Q:k<rows.length:=A9;have d:rows[k]? = some rows[k]:=A4 Q;have R:wd=K:=by
    have:F3 (Ora.env i)=10+wd:=by rw[L];rfl
    omega
   subst R;obtain⟨r',g1,g2,g3,g4,g5⟩:=cV (cell:=fun q=>w.cell? ⟨l.blk,l.sh+k*wd+q,none⟩) f2 V f7 (fun q u f=>by
    rw[B9,d]at f;have f:rows[k][q]? = some u:=f;have A:=(A7.1 f).1;rw[f6 _ (D6 d)]at A;have hk:(k+1)*wd<=l.cap*wd:=E4 wd A9;rw[G0]at hk;have p:l.sh+k*wd+q<C.size:=A9;refine⟨C[l.sh+k*wd+q],?_,f8 k _ q u _ d f (E0 p)⟩;simp[World.cell?,f1,E0 p]) hr Y
   obtain⟨_,q1⟩:=xV (w:=w) (b:=l.blk) (o:=l.sh+k*wd+o) E n g1 g2 (fun q v' f=>by
    have:=g3 q v' f;rw[show l.sh+k*wd+o+q=l.sh+k*wd+(o+0+q) by omega];exact this)
   exact⟨q1,g4,g5⟩
  .cases n
 .cases n
end
end
section
open Go
variable [Ora]
section
variable {P:Program} {base:Nat} {ρ ρ':Ren} {m m':Mem} {w w':World}
def at0(a:Nat):Ren:=fun _=>some (lc a 0 0)
def LU{a s n c:Nat}(h:n<=c):VR (at0 a) (.slice (some ⟨0,s,none⟩) n (K8+1)) (.slice (some ⟨a,s,none⟩) n c) :=
 VR.op (ρ:=at0 a) (b:=0) (o:=s) (n:=n) (m:=K8+1) (m':=c) (l:=lc a 0 0) rfl (by unfold K8;omega) h (fun h=>by unfold K8 at h;omega)
def JS{a s:Nat}:VR (at0 a) (.pointer (some ⟨0,s,none⟩)) (.pointer (some ⟨a,s,none⟩)):=VR.ptr (ρ:=at0 a) (b:=0) (o:=s) (l:=lc a 0 0) rfl
def pI{t e:TypeId}{a s n c z sz:Nat}{k:IntKind}(hu:P.underlying t=some (.slice e))(hs:F6 P e=some sz)(d:z<n)(f:n<=c)(w:World) :
  (Instr.indexAt t (.slice (some ⟨a,s,none⟩) n c) (.int k (.ofNat z))).run P w=.ok (.pointer (some ⟨a,s+z*sz,none⟩)) w:=by
 have g:Nat.blt z n=true:=C4 d;have hm:U3 P t (.slice (some ⟨0,s,none⟩) n (K8+1)) (.int k (.ofNat z))=some (.pointer (some ⟨0,s+z*sz,none⟩)):=by
  simp only[U3,hu,hs,g,D7,u5,E1]
 obtain⟨v',g1,g2⟩:=y5 (P:=P) hm (LU (a:=a) f) (.pure rfl) w;obtain⟨l2,b,_,rfl⟩:=K9 g2;cases b;exact g1
def lZ{t e:TypeId}{a s n z sz:Nat}{k:IntKind}(hu:P.underlying t=some (.array n e))(hs:F6 P e=some sz)(c:z<n)(w:World) :
  (Instr.indexAt t (.pointer (some ⟨a,s,none⟩)) (.int k (.ofNat z))).run P w=.ok (.pointer (some ⟨a,s+z*sz,none⟩)) w:=by
 have d:Nat.blt z n=true:=C4 c;have hm:U3 P t (.pointer (some ⟨0,s,none⟩)) (.int k (.ofNat z))=some (.pointer (some ⟨0,s+z*sz,none⟩)):=by
  simp only[U3,hu,hs,d,D7,u5,E1]
 obtain⟨v',g1,g2⟩:=y5 (P:=P) hm (JS (a:=a)) (.pure rfl) w;obtain⟨l2,b,_,rfl⟩:=K9 g2;cases b;exact g1
def pK{a z:Nat}{c:Array Field}{f:Field}(hu:P.underlying s=some (.struct c))(e:c.toList[i]? = some f)(d:F6 P f.type=some (z+1))(w:World) :
  (Instr.fieldAt s (.pointer (some ⟨a,o,none⟩)) i).run P w=.ok (.pointer (some ⟨a,o+f.offset,none⟩)) w:=by
 have hm:y6 P s (.pointer (some ⟨0,o,none⟩)) i=some (.pointer (some ⟨0,o+f.offset,none⟩)):=by
  simp only[y6,hu,e,d,u5,E1]
 obtain⟨v',g1,g2⟩:=iF (P:=P) hm (JS (a:=a)) w;obtain⟨l2,b,_,rfl⟩:=K9 g2;cases b;exact g1
def zF{t wd:Nat}{f:Bool}{rows:List (List U)}{k v:Value}(h:CU m i t z k=some (v,m'))(hi:Ora.env i=.seq f wd rows)(J:t=10+wd)(E:VR ρ z z')(D:Sat m'.lg) :
  v=k/\(∃ kk n,z'=.int kk (.ofNat n)/\n<rows.length/\lE Ora.env z=some (.ofNat n))/\I1 m m'/\m.lg.le m'.lg:=by
 unfold CU at h;cases B:!(Nat.blt (F5 z) 8)with
 | true=>rw[B]at h;cases h
 | false =>
   have G:F5 z<8:=by
    have:Nat.blt (F5 z) 8=true:=by simpa using B
    exact A1 this
   rw[B]at h;simp only[D3]at h;split at h
   .rename_i b H n W hh lg q;split at h
    .rename_i x C;cases h;have d:=G2 q;have c:=cF C;obtain⟨u,e,I,r,l,F,_⟩:=K2 q (M4.le D c);have A:=iL C (F ρ) D;subst A;obtain⟨kk,y,rfl,f2,_⟩:=K4 E G;have g:[z,hole i t].map (D4 Ora.env)=[.int kk y,.seq f wd rows]:=by
      simp only[B8,E3,f2];show[_,Ora.env i]=_;rw[hi]
     rw[g]at e;have e:(if wd=t-10 then U.bool (decide (0<=y) && decide (y<rows.length))else U.none)=u:=e;rw[B2 A9]at e;subst e;have l:some (Value.bool (decide (0<=y) && decide (y<rows.length)))=some (.bool true):=l;have p:(decide (0<=y) && decide (y<rows.length))=true:=by simpa using l
     simp only[H6,decide_eq_true_eq]at p;obtain⟨n0,rfl⟩:∃ n0:Nat,y=.ofNat n0:=⟨y.toNat,by have:=Int.toNat_of_nonneg p.1;exact this.symm⟩;refine⟨rfl,⟨kk,n0,rfl,?_,JT f2⟩,I1.trans (F9 q) ⟨x,rfl⟩,d.trans c⟩
     have:=p.2;have:(n0:Int)<rows.length:=this;omega
    .cases h
   .cases h
def A0T{G:Nat->Option Obj}{b:Bool}{wd:Nat}{rows:List (List U)}{v:Value}(h:Enc G (.seq b wd rows) v)(hr:rows≠[]):b=false/\∃ a o c,v=.slice (some ⟨a,o,none⟩) rows.length c/\rows.length<=c:=by
 cases h with
 | sc h=>cases h
 | nil=>exact absurd rfl hr
 | emp=>exact absurd rfl hr
 | sl d _ _ _ _=>exact⟨rfl,_,_,_,rfl,d⟩
def EY{t:Nat}(h:F3 u=t)(d:10<=t):u=.none∨∃ c wd rows,u=.seq c wd rows/\t=10+wd:=by
 cases u with
 | none=>exact .inl rfl
 | int k n=>have:=J8 k;simp[F3]at h;omega
 | bool b=>simp[F3]at h;omega
 | str s=>simp[F3]at h;omega
 | seq c wd rows=>exact .inr ⟨c,wd,rows,rfl,h.symm⟩
def cY{G:Nat->Option Obj}{v:Value}{t:Nat}(h:Enc G u v)(d:F3 u=t)(b:10<=t):∃ c wd rows,u=.seq c wd rows/\t=10+wd:=by
 rcases EY d b with rfl|h1
 .cases h with
  | sc h=>cases h
 .exact h1
def xB{t e:TypeId}{b s:Nat}{l:Loc}{v v':Value}(hu:P.underlying t=some (.slice e))(hs:F6 P e=some (s+1))(A:tg=10+(s+1))(h1:ρ b=some l)(d:Enc l.G (Ora.env i) v')(h3:F3 (Ora.env i)=tg)
  (h:CU m i tg z (dpt b i tg z 0)=some (v,m')) (x:VR ρ z z') (D:Sat m'.lg):(∃ r,(Instr.indexAt t v' z').run P w=.ok r w/\VR ρ v r)/\I1 m m'/\m.lg.le m'.lg:=by
 obtain⟨C,wd,rows,f,B⟩:=cY d h3 A9;obtain⟨rfl,⟨kk,n,rfl,g,p⟩,g1,g2⟩:=zF h f B x D;have k:wd=s+1:=A9;subst k;have q:rows≠[]:=by intro e;subst e;simp at g
 rw[f]at d;obtain⟨rfl,a,o,c,rfl,y⟩:=A0T d q;refine⟨⟨_,pI hu hs g y w,.dpt ⟨l,s+1,rows,a,o,c,n,h1,f,by rw[f];exact d,p,g,A9,by simp⟩ h3 rfl⟩,g1,g2⟩
def CS{t:TypeId}{x x' v:Value}(h:iC P m t x z=some (v,m'))(C:VR ρ x x')(p:VR ρ z z')(G:Sat m'.lg):(∃ r,(Instr.indexAt t x' z').run P w=.ok r w/\VR ρ v r)/\I1 m m'/\m.lg.le m'.lg:=by
 unfold iC at h;split at h
 .rename_i e b i tg hu;split at h
  .rename_i s hs;obtain⟨f,h⟩:=A2 h;have f:=A0 f;obtain⟨D,d⟩:=x5 C;rcases D with⟨l,wd,h1,A,h3,rfl⟩|⟨l,wd,rows,h1,A,h3,O,I,rfl⟩
   .obtain⟨_,⟨kk,n,_,M,_⟩,_⟩:=zF h h3 (by rw[h3]at d;exact d.symm) p G;simp at M
   .have B:tg=10+wd:=by rw[h3]at d;exact d.symm
    obtain⟨rfl,⟨kk,n,rfl,M,J⟩,g1,g2⟩:=zF h h3 B p G;have g:wd=s+1:=A9;subst g;exact⟨⟨_,pI hu hs A9 I w,.opt ⟨l,s+1,rows,n,h1,A,h3,J,A9,A9,by simp⟩ d rfl⟩,g1,g2⟩
  .cases h
 .rename_i e b i tg hu;split at h
  .rename_i s hs;obtain⟨f,h⟩:=A2 h;have f:=A0 f;obtain⟨l,h1,A,h3,_⟩:=jM C;exact xB hu hs f h1 A h3 h p G
  .cases h
 .rename_i e b i tg hu;split at h
  .rename_i s hs;obtain⟨f,h⟩:=A2 h;have f:=A0 f;obtain⟨l,h1,A,h3,_⟩:=cU C;exact xB hu hs f h1 A h3 h p G
  .cases h
 .rename_i n e b i tg y o hu;split at h
  .rename_i s kk k hs;obtain⟨hk,h⟩:=A2 h;obtain⟨hk,hw⟩:=B3 hk;have hk:=A1 hk;have hw:o+k*s<tg-10:=A1 hw;rw[E1]at h;cases h;cases H8 p;obtain⟨⟨l,wd,rows,a,s0,c,q,K,B,F,L,H,N,rfl⟩,E⟩:=zD C;have g:tg-10=wd:=by rw[<- E,B];simp[F3]
   refine⟨⟨_,lZ hu hs hk w,.dpt ⟨l,wd,rows,a,s0,c,q,K,B,F,L,H,A9,by simp⟩ E rfl⟩,.refl _,.refl _⟩
  .cases h
 .rename_i n e b i tg y o hu;split at h
  .rename_i s kk k hs;obtain⟨hk,h⟩:=A2 h;obtain⟨hk,hw⟩:=B3 hk;have hk:=A1 hk;have hw:o+k*s<tg-10:=A1 hw;rw[E1]at h;cases h;cases H8 p;obtain⟨⟨l,wd,rows,q,K,B,F,L,H,N,rfl⟩,E⟩:=qO C;have g:tg-10=wd:=by rw[<- E,F];simp[F3]
   refine⟨⟨_,lZ hu hs hk w,.opt ⟨l,wd,rows,q,K,B,F,L,H,A9,by simp⟩ E rfl⟩,.refl _,.refl _⟩
  .cases h
 .cases h
def DI{x x' v:Value}{f:Nat}(h:iG P m s x f=some (v,m'))(C:VR ρ x x'):(∃ r,(Instr.fieldAt s x' f).run P w=.ok r w/\VR ρ v r)/\m'=m:=by
 unfold iG at h;split at h
 .rename_i D b i tg y o hu;split at h
  .rename_i fd n;split at h
   .rename_i z k;obtain⟨hw,h⟩:=A2 h;have hw:o+fd.offset<tg-10:=A1 hw;rw[E1]at h;cases h;obtain⟨⟨l,wd,rows,a,s0,c,q,A,g,e,B,t,E,rfl⟩,d⟩:=zD C;have p:tg-10=wd:=by rw[<- d,g];simp[F3]
    exact⟨⟨_,pK hu n k w,.dpt ⟨l,wd,rows,a,s0,c,q,A,g,e,B,t,A9,by simp⟩ d rfl⟩,rfl⟩
   .cases h
  .cases h
 .rename_i D b i tg y o hu;split at h
  .rename_i fd n;split at h
   .rename_i z k;obtain⟨hw,h⟩:=A2 h;have hw:o+fd.offset<tg-10:=A1 hw;rw[E1]at h;cases h;obtain⟨⟨l,wd,rows,q,A,g,e,B,t,E,rfl⟩,d⟩:=qO C;have p:tg-10=wd:=by rw[<- d,e];simp[F3]
    exact⟨⟨_,pK hu n k w,.opt ⟨l,wd,rows,q,A,g,e,B,t,A9,by simp⟩ d rfl⟩,rfl⟩
   .cases h
  .cases h
 .cases h
end
end
section
open Go
variable [Ora]
section
variable {P:Program} {base:Nat} {ρ ρ':Ren} {m m':Mem} {w w':World}
def j9{G:Nat->Option Obj}{b:Bool}{wd:Nat}{rows:List (List U)}{v:Value}(h:Enc G (.seq b wd rows) v):(b=true/\rows=[]/\v=.slice none 0 0)∨(b=false/\∃ (a:Addr) (c:Nat),v=.slice (some a) rows.length c/\rows.length<=c):=by
 cases h with
 | sc h=>cases h
 | nil=>exact .inl ⟨rfl,rfl,rfl⟩
 | emp=>exact .inr ⟨rfl,_,_,rfl,A6 _⟩
 | sl d _ _ _ _=>exact .inr ⟨rfl,_,_,rfl,d⟩
def gQ{t e:TypeId}{a:Option Addr}{n c:Nat}(hu:P.underlying t=some (.slice e))(w:World):(Builtin.len_ ⟨t::tys⟩ ty #[.slice a n c]).run P w=.ok (.int .i64 n) w:=by
 simp[Builtin.len_,A3,C8 hu,Result.andThen,goInt]
def UL{t:Nat}{v:Value}{c:Bool}{wd:Nat}{rows:List (List U)}(h:Q2 m 3 .len [hole i t]=some (v,m'))(hi:Ora.env i=.seq c wd rows)(e:Sat m'.lg):VR ρ v (.int .i64 rows.length)/\I1 m m'/\m.lg.le m'.lg/\D4 Ora.env v=.int .i64 rows.length:=by
 obtain⟨u,d,n,r,f,g,l⟩:=K2 h e;have b:[hole i t].map (D4 Ora.env)=[.seq c wd rows]:=by
  show[Ora.env i]=_;rw[hi]
 rw[b]at d;have d:U.int .i64 rows.length=u:=d;subst d;cases f;refine⟨g ρ,F9 h,G2 h,?_⟩;obtain⟨rfl,rfl⟩:=eY h;obtain⟨h1,k,h3⟩:=e (.lt m.lg.nx 3 .len [hole i t]) (by cases m;exact B4);show Ora.env m.lg.nx=_;rw[h1,b];rfl
def iE{i j:Nat}:∀ {l:List T9},nA i l=some j->∃ tg,T9.lt j 3 .len [hole i tg] ∈ l
 | [],h=>by cases h
 | e::r,h=>by
   unfold nA at h;split at h
   .cases h
   .rename_i f t k tg r' he;cases he;cases d:Nat.beq k i && Nat.beq t 3 with
    | true =>
      rw[d]at h;cases h;obtain⟨h1,c⟩:=B3 d;have h1:=A0 h1;have c:=A0 c;subst h1;subst c;exact⟨tg,.head _⟩
    | false =>
      rw[d]at h;obtain⟨b,h3⟩:=iE h;exact⟨b,.tail _ h3⟩
   .rename_i he;cases he;obtain⟨b,h3⟩:=iE h;exact⟨b,.tail _ h3⟩
def u6{t:Nat}{v:Value}(h:yZ m i t=some (v,m')):I1 m m'/\m.lg.le m'.lg:=by
 unfold yZ at h;split at h
 .cases h;exact⟨I1.refl _,.refl _⟩
 .exact⟨F9 h,G2 h⟩
def iA{t:Nat}{v:Value}{b:Bool}{wd:Nat}{rows:List (List U)}(h:yZ m i t=some (v,m'))(hi:Ora.env i=.seq b wd rows)(d:Sat m'.lg):VR ρ v (.int .i64 rows.length)/\I1 m m'/\m.lg.le m'.lg/\D4 Ora.env v=.int .i64 rows.length:=by
 unfold yZ at h;split at h
 .rename_i j e;cases h;obtain⟨tg,hm⟩:=iE e;obtain⟨h1,f,_⟩:=d _ hm;have c:[hole i tg].map (D4 Ora.env)=[.seq b wd rows]:=by
   show[Ora.env i]=_;rw[hi]
  rw[c]at h1;have h1:Ora.env j=.int .i64 rows.length:=h1;refine⟨.hole ?_ ?_,I1.refl _,.refl _,h1⟩
  .rw[h1];rfl
  .rw[h1];rfl
 .exact UL h hi d
def KX{b:Nat}{v':Value}(h:FG ρ b u v'):∃ d wd rows a c,u=.seq d wd rows/\v'=.slice a rows.length c:=by
 rcases h with⟨l,wd,h1,f,h3,rfl⟩|⟨l,wd,rows,h1,f,h3,e,g,rfl⟩
 .exact⟨_,_,_,_,_,h3,rfl⟩
 .exact⟨_,_,_,_,_,h3,by rw[e]⟩
def UM{t:TypeId}{x x' v:Value}(h:UN P m t x=some (v,m'))(k:VR ρ x x')(p:Sat m'.lg):(∃ r,(Builtin.len_ ⟨t::tys⟩ ty #[x']).run P w=.ok r w/\VR ρ v r)/\I1 m m'/\m.lg.le m'.lg:=by
 unfold UN at h;split at h
 .rename_i e b i tg hu;obtain⟨l,h1,d,h3,n⟩:=jM k;obtain⟨g,wd,rows,f,_⟩:=cY d h3 n;obtain⟨g1,g2,g3,_⟩:=iA (ρ:=ρ) h f p;rw[f]at d;rcases j9 d with⟨rfl,rfl,rfl⟩|⟨rfl,a,c,rfl,_⟩
  .exact⟨⟨_,gQ hu w,g1⟩,g2,g3⟩
  .exact⟨⟨_,gQ hu w,g1⟩,g2,g3⟩
 .rename_i e b i tg hu;obtain⟨l,h1,d,h3,n,_⟩:=cU k;obtain⟨g,wd,rows,f,_⟩:=cY d h3 n;obtain⟨g1,g2,g3,_⟩:=iA (ρ:=ρ) h f p;rw[f]at d;rcases j9 d with⟨rfl,rfl,rfl⟩|⟨rfl,a,c,rfl,_⟩
  .exact⟨⟨_,gQ hu w,g1⟩,g2,g3⟩
  .exact⟨⟨_,gQ hu w,g1⟩,g2,g3⟩
 .rename_i e b i tg hu;obtain⟨g,wd,rows,a,c,f,rfl⟩:=KX (x5 k).1;obtain⟨g1,g2,g3,_⟩:=iA (ρ:=ρ) h f p;exact⟨⟨_,gQ hu w,g1⟩,g2,g3⟩
 .cases h
def wN{v v':Value}{n:Nat}(c:VR ρ v v')(d:sT v=true)(b:D4 Ora.env v=.int kk (.ofNat n)):∃ j,v'=.int j (.ofNat n):=by
 obtain⟨k,z,rfl,f2,_⟩:=K4 c (A1 d);rw[f2]at b;injection b with _ hb
 exact⟨k,by rw[hb]⟩
def NT{h x e x':Value}(hs:HG h x=true)(h1:VR ρ h e)(d:VR ρ x x'):e=x':=by
 unfold HG at hs;split at hs
 .rename_i i t1 j t2
  have:=A0 hs;subst this;have hh:∀ {t:Nat} {v:Value},VR ρ (.complex .f64 i t) v->toV (Ora.env i)=some v:=fun{t v} h=>by
   cases h with
   | pure hp=>simp[H3]at hp
   | hole h _=>exact h
  have a:=hh h1;rw[hh d]at a;exact(A5 a).symm
 .obtain⟨c,b⟩:=B3 hs;have c:=dU c;rw[cX]at b;have b:=eq_of_beq b;subst c;subst b;cases H8 h1;cases H8 d;rfl
 .cases hs
def QK{wd v:Nat}{d:Bool}{rows:List (List U)}{a b:U}(c:evU (.subs wd) [.seq d v rows,a,b]≠.none):∃ g l f h,a=.int g (.ofNat l)/\b=.int f (.ofNat h)/\v=wd/\l<=h/\h<=rows.length:=by
 cases a with
 | int g k=>cases k with
   | ofNat l=>cases b with
     | int f z2=>cases z2 with
       | ofNat h =>
         have c:(if v=wd/\l<=h/\h<=rows.length then U.seq d wd ((rows.drop l).take (h-l))else .none)≠.none:=c;by_cases e:v=wd/\l<=h/\h<=rows.length
         .exact⟨g,l,f,h,rfl,rfl,e.1,e.2.1,e.2.2⟩
         .rw[B1 e]at c;exact(c rfl).elim
       | negSucc _=>exact(c rfl).elim
     | _=>exact(c rfl).elim
   | negSucc _=>exact(c rfl).elim
 | _=>exact(c rfl).elim
def VH{G:Nat->Option Obj}{q:Bool}{wd l h mm n c:Nat}{rows:List (List U)}{a:Option Addr}(he:Enc G (.seq q wd rows) (.slice a n c))(K:l<=h)(hh:h<=rows.length)(hm:h<=mm)(E:mm<=c) :
  Enc G (.seq q wd ((rows.drop l).take (h-l))) (.slice (if mm=l then a else a.map (·.add (l*wd))) (h-l) (mm-l))∨a=none:=by
 cases he with
 | sc h=>cases h
 | nil=>exact .inr rfl
 | emp =>
   rename_i a;have g:h=0:=by simpa using hh
   subst g;have f:l=0:=A9;subst f;have H:mm=0:=A9;subst H;exact .inl .emp
 | sl J I D hw t =>
   rename_i a o C T fz;refine .inl ?_;have hlen:((rows.drop l).take (h-l)).length=h-l:=by simp;omega
   have key:∀ b x,(h-l≠0->b=a/\x=o+l*wd)->Enc G (.seq false wd ((rows.drop l).take (h-l))) (.slice (some ⟨b,x,none⟩) (h-l) (mm-l)):=fun b x B=>by
    have A:∀ r row,((rows.drop l).take (h-l))[r]? = some row->h-l≠0/\rows[l+r]? = some row:=fun r row hr=>by
     have k:=(A7.1 hr).1;rw[hlen]at k;rw[F0 k,G4]at hr;exact⟨A9,hr⟩
    have d:(rows.drop l).take (h-l)≠[]->h-l≠0/\rows≠[]:=fun d=>by
     constructor
     .intro e;rw[e]at d;simp at d
     .intro e;subst e;simp at d
    have:=Enc.sl (G:=G) (w:=wd) (rows:=(rows.drop l).take (h-l)) (a:=b) (o:=x) (c:=mm-l) (C:=C) (T:=T) (fz:=fz) A9
     (fun y=>by obtain⟨g,f⟩:=d y;rw[(B g).1];exact I f)
     (fun y=>by
       obtain⟨g,f⟩:=d y;rw[hlen,(B g).2];have h1:=D f;have F:(l+(h-l))*wd<=rows.length*wd:=E4 wd A9;rw[G0]at F;omega)
     (fun row hr=>hw row (List.mem_of_mem_drop (List.mem_of_mem_take hr)))
     (fun r row j u v q1 q2 q3=>by
       obtain⟨g,f⟩:=A r row q1;rw[(B g).2]at q3;refine t (l+r) row j u v f q2 ?_;rw[G0,show o+(l*wd+r*wd)+j=o+l*wd+r*wd+j by omega];exact q3)
    rw[hlen]at this;exact this
   by_cases p:mm=l
   .rw[B2 p];exact key a o fun h=>by omega
   .rw[B1 p];have e:(Addr.mk a o none).add (l*wd)=⟨a,o+l*wd,none⟩:=by
     unfold Addr.add;split
     .rename_i h;rw[h];rfl
     .rfl
    show Enc G _ (.slice (some ((Addr.mk a o none).add (l*wd))) _ _);rw[e];exact key a (o+l*wd) fun _=>⟨rfl,rfl⟩
def zQ{t e:TypeId}{b s:Nat}{l:Loc}{hi:N6}{v x':Value}(hu:P.underlying t=some (.slice e))(hs:F6 P e=some s)(ak:tg=10+s)(h1:ρ b=some l)(F:Enc l.G (Ora.env i) x')(h3:F3 (Ora.env i)=tg)
  (ar:cl=true->RL x') (h:DO m b i tg cl lo hi mx=some (v,m')) (W:OR ρ lo lo') (O:OR ρ hi hi') (L:OR ρ mx mx') (hS:Sat m'.lg):(∃ r,(Instr.sliceAt t x' lo' hi' mx').run P w=.ok r w/\VR ρ v r)/\I1 m m'/\m.lg.le m'.lg:=by
 have d:∀ {o:N6},OR ρ none o->o=none:=fun{o} h=>by cases o<;>first|rfl|exact h.elim
 have f:∀ {y:Value} {o:N6},OR ρ (some y) o->∃ X,o=some X/\VR ρ y X:=fun{y o} h=>by cases o<;>first|exact h.elim|exact⟨_,rfl,h⟩
 obtain⟨K,wd,rows,e1,e2⟩:=cY F h3 A9;have au:wd=s:=A9;subst au;rw[e1]at F;obtain⟨a,n,c,az,hn,aj⟩:∃ a n c,x'=.slice a n c/\n=rows.length/\n<=c:=by
  rcases j9 F with⟨rfl,rfl,rfl⟩|⟨rfl,a,c,rfl,hc⟩
  .exact⟨_,_,_,rfl,rfl,A6 _⟩
  .exact⟨_,_,_,rfl,rfl,hc⟩
 subst az;have go:∀ {m:Mem} {A g:Value} {M:Bool} {E:N6} {hh mm:Nat},cZ m b i tg A g M=some (v,m') ->
   (E=none/\A=.int .i64 0∨∃ y,E=some y/\VR ρ A y)->(∀ kk q,D4 Ora.env g=.int kk (.ofNat q)->q<=rows.length->q=hh/\Bd mx' c c mm/\(hi'=none->mx'=none)/\Bd hi' mm n hh/\hh<=mm/\(M=true->mm=hh)) ->
   (∃ r,(Instr.sliceAt t (.slice a n c) E hi' mx').run P w=.ok r w/\VR ρ v r)/\I1 m m'/\m.lg.le m'.lg:=fun{m A g M E hh mm} h C ay=>by
  unfold cZ at h;obtain⟨hint,h⟩:=A2 h;obtain⟨av,al⟩:=B3 hint;rw[L6]at h;simp only[C7,I9]at h;obtain⟨rfl,rfl⟩:=h;obtain⟨f1,f2,ao,an,ax,f3,f4⟩:=fU hS (.refl _);have N:[hole i tg,A,g].map (D4 Ora.env)=[.seq K wd rows,D4 Ora.env A,D4 Ora.env g]:=by
   show[Ora.env i,_,_]=_;rw[e1]
  rw[N]at f1;have Z:tg-10=wd:=A9;rw[Z]at f1;obtain⟨Y,l0,V,h0,a1,a2,a3,a4⟩:∃ Y l0 V h0,D4 Ora.env A=.int Y (.ofNat l0)/\D4 Ora.env g=.int V (.ofNat h0)/\l0<=h0/\h0<=rows.length:=by
   have aw:evU (.subs wd) [.seq K wd rows,D4 Ora.env A,D4 Ora.env g]≠.none:=by rw[<- f1,f3];intro h;cases h
   obtain⟨Y,l0,V,h0,q1,q2,_,q3,q4⟩:=QK aw;exact⟨Y,l0,V,h0,q1,q2,q3,q4⟩
  rw[a1,a2]at f1;have f1:Ora.env m.lg.nx=if wd=wd/\l0<=h0/\h0<=rows.length then U.seq K wd ((rows.drop l0).take (h0-l0))else .none:=f1
  rw[B2 ⟨rfl,a3,a4⟩]at f1;obtain⟨rfl,T,b2,b3,b4,b5⟩:=ay V h0 a2 a4;have b6:Bd E h0 0 l0:=by
   rcases C with⟨rfl,rfl⟩|⟨y,rfl,hy⟩
   .cases a1;exact .inl ⟨rfl,rfl⟩
   .obtain⟨j,rfl⟩:=wN hy av a1;exact .inr ⟨j,rfl,a3⟩
  have S:=pH (P:=P) (a:=a) (n:=n) (c:=c) hu hs T b2 b3 b6 w;have I:Enc l.G (Ora.env m.lg.nx) (.slice (if mm=l0 then a else a.map (·.add (l0*wd))) (h0-l0) (mm-l0)):=by
   rw[f1];rcases VH (mm:=mm) F a3 a4 b4 (by rcases T with⟨_,rfl⟩|⟨_,_,T⟩<;>omega)with he|rfl
   .exact he
   .rcases j9 F with⟨rfl,rfl,H⟩|⟨_,_,_,H,_⟩
    .cases H;have z1:h0=0:=by simp at a4;exact a4
     have z2:l0=0:=A9;have z3:mm=0:=by
      rcases T with⟨_,rfl⟩|⟨_,_,T⟩<;>omega
     subst z1;subst z2;subst z3;exact .nil
    .cases H
  refine⟨⟨_,S,?_⟩,⟨_,rfl⟩,S0⟩;cases M with
  | false=>exact .dat h1 I f2 A9 rfl
  | true =>
    refine .clp h1 I f2 A9 rfl ?_;show mm-l0=h0-l0;rw[b5 rfl]
 have B:∀ {g y:Value} {kk:IntKind} {q:Nat},VR ρ g y->sT g=true->D4 Ora.env g=.int kk (.ofNat q)->∃ j,y=.int j (.ofNat q):=fun h1 F h3=>wN h1 F h3
 have p:∀ {m:Mem} {A g:Value} {M:Bool},cZ m b i tg A g M=some (v,m')->sT g=true:=fun h=>by
  unfold cZ at h;exact(B3 (A2 h).1).2
 have main:∀ A,(lo'=none/\A=.int .i64 0∨∃ y,lo'=some y/\VR ρ A y)->DN m b i tg cl A hi mx=some (v,m')->(∃ r,(Instr.sliceAt t (.slice a n c) lo' hi' mx').run P w=.ok r w/\VR ρ v r)/\I1 m m'/\m.lg.le m'.lg:=fun A C h=>by
  cases hi with
  | some g =>
    obtain⟨ai,rfl,D⟩:=f O;cases mx with
    | none =>
      cases d L;have h:cZ m b i tg A g false=some (v,m'):=h;have hint:=p h;obtain⟨kk,q,H⟩:∃ kk q,D4 Ora.env g=.int kk q:=by
       obtain⟨k,z,_,f2,_⟩:=K4 D (A1 hint);exact⟨k,z,f2⟩
      exact go (hh:=q.toNat) (mm:=c) h C fun R q2 h1 F=>by
       rw[H]at h1;injection h1 with _ h1
       subst h1;obtain⟨j,rfl⟩:=B D hint H;have e:(Int.ofNat q2).toNat=q2:=rfl;rw[e];exact⟨rfl,.inl ⟨rfl,rfl⟩,fun h=>(by cases h),.inr ⟨j,rfl,A9⟩,A9,fun h=>by cases h⟩
    | some x =>
      obtain⟨x',rfl,aq⟩:=f L;have h:(bif HG g x then cZ m b i tg A g true else none)=some (v,m'):=h;obtain⟨J,h⟩:=A2 h;have hint:=p h
      have:=NT J D aq;subst this;obtain⟨kk,q,H⟩:∃ kk q,D4 Ora.env g=.int kk q:=by
       obtain⟨k,z,_,f2,_⟩:=K4 D (A1 hint);exact⟨k,z,f2⟩
      exact go (hh:=q.toNat) (mm:=q.toNat) h C fun R q2 h1 F=>by
       rw[H]at h1;injection h1 with _ h1
       subst h1;obtain⟨j,rfl⟩:=B D hint H;have e:(Int.ofNat q2).toNat=q2:=rfl;rw[e];exact⟨rfl,.inr ⟨j,rfl,A9⟩,fun h=>(by cases h),.inr ⟨j,rfl,A6 _⟩,A6 _,fun _=>rfl⟩
  | none =>
    cases d O;cases mx with
    | some x=>cases h
    | none =>
      cases d L;unfold DN at h;simp only at h;split at h
      .rename_i g m1 hl;have Q:I1 m1 m'/\m1.lg.le m'.lg:=by
        unfold cZ at h;obtain⟨_,h⟩:=A2 h;rw[L6]at h;simp only[C7,I9]at h;obtain⟨_,rfl⟩:=h;exact⟨⟨_,rfl⟩,S0⟩
       obtain⟨q1,q2,q3,q4⟩:=iA (ρ:=ρ) hl e1 (hS.le Q.2);obtain⟨r1,r2,r3⟩:=go (hh:=rows.length) (mm:=c) h C fun R q2 h1 F=>by
        rw[q4]at h1;injection h1 with _ h1
        have h1:((rows.length:Nat):Int)=(q2:Nat):=h1;have:q2=rows.length:=A9;subst this;refine⟨rfl,.inl ⟨rfl,rfl⟩,fun _=>rfl,.inl ⟨rfl,hn.symm⟩,A9,fun hc=>?_⟩
        have:=ar hc;have:c=n:=this;omega
       exact⟨r1,q2.trans r2,q3.trans r3⟩
      .cases h
 cases lo with
 | none=>exact main _ (.inl ⟨d W,rfl⟩) h
 | some y=>obtain⟨X,q1,q2⟩:=f W;exact main _ (.inr ⟨X,q1,q2⟩) h
end
end
section
open Go
variable [Ora]
section
variable {P:Program} {base:Nat} {ρ ρ':Ren} {m m':Mem} {w w':World}
def M2(R:Nat->Option Obj)(rows:List (List U))(wd:Nat)(C:Array Value)(o:Nat):Prop :=
 (∀ row ∈ rows,row.length=wd)/\∀ (r:Nat) (row:List U) (j:Nat) (u:U) (v:Value),rows[r]? = some row->row[j]? = some u->C[o+r*wd+j]? = some v->Enc R u v
def M2.mono{R d:Nat->Option Obj}{rows:List (List U)}{wd:Nat}{C:Q0}(h:M2 R rows wd C o)(hs:Sub R d):M2 d rows wd C o:=⟨h.1,fun r row j u v a b c=>(h.2 r row j u v a b c).mono hs⟩
def M2.nil{R:Nat->Option Obj}{wd:Nat}{C:Q0}:M2 R [] wd C o:=⟨fun _ h=>by(cases h),fun r row j u v h=>by simp at h⟩
def jT{wd:Nat}:∀ {n:Nat} {l:List U} {r:List (List U)},Y5 wd n l=some r->r.length=n/\l.length=n*wd/\(∀ row ∈ r,row.length=wd)/\∀ (q:Nat) (row:List U) (j:Nat) (u:U),r[q]? = some row->row[j]? = some u->l[q*wd+j]? = some u
 | 0,[],r,h=>by cases h;exact⟨rfl,by simp,fun _ h=>(by cases h),fun q row j u h=>by simp at h⟩
 | 0,_::_,r,h=>by cases h
 | n+1,l,r,h=>by
   unfold Y5 at h;split at h
   .rename_i hle;split at h
    .rename_i g hr;cases h;obtain⟨h1,c,h3,f⟩:=jT hr;have d:l.length=(n+1)*wd:=by
      rw[S7]at c;rw[G0];omega
     refine⟨by simp[h1],d,fun row b=>?_,fun q row j u g1 g2=>?_⟩
     .rcases A8.1 b with rfl|b
      .simp;omega
      .exact h3 row b
     .cases q with
      | zero =>
        simp at g1;subst g1;have e:=(A7.1 g2).1;simp at e;rw[F0 A9]at g2
        simpa using g2
      | succ q =>
        have:=f q row j u (by simpa using g1) g2;rw[G4]at this;rw[show(q+1)*wd+j=wd+(q*wd+j) by rw[G0];omega];exact this
    .cases h
   .cases h
def kZ{wd:Nat}:∀ (n:Nat) (l:List U),l.length=n*wd->∃ r,Y5 wd n l=some r
 | 0,[],_=>⟨[],rfl⟩
 | 0,_::_,h=>by simp at h
 | n+1,l,h=>by
   rw[G0]at h;obtain⟨r,hr⟩:=kZ (wd:=wd) n (l.drop wd) (by rw[S7];omega);refine⟨l.take wd::r,?_⟩;unfold Y5;rw[B2 A9,hr]
def jZ{R:Nat->Option Obj}{wd n:Nat}{rows:List (List U)}(h:W7 R us vs)(c:Y5 wd n us=some rows):M2 R rows wd ⟨vs⟩ 0:=by
 obtain⟨h1,d,h3,b⟩:=jT c;refine⟨h3,fun r row j u v g1 g2 g3=>h.2 _ u v (b r row j u g1 g2) ?_⟩
 simpa using g3
def sA{α:Type}{l:List α}:∀ n,(FC l n).length=n*l.length
 | 0=>by simp[FC]
 | n+1=>by simp[FC,sA n,G0];omega
def dW(s:List UInt8):(kA s).length=s.length:=by simp[kA]
def BB{R:Nat->Option Obj}(s:List UInt8):M2 R (kA s) 1 ⟨M6 s⟩ 0:=by
 refine⟨fun row hr=>?_,fun r row j u v g1 g2 g3=>?_⟩
 .unfold kA at hr;obtain⟨b,_,rfl⟩:=I6.1 hr;rfl
 .unfold kA at g1;rw[F4]at g1;cases c:s[r]? with
  | none=>rw[c]at g1;cases g1
  | some b =>
    rw[c]at g1;simp only[I3,C7]at g1;subst g1;cases j with
    | zero =>
      simp at g2;subst g2;have g3:(M6 s)[0+r*1+0]? = some v:=by simpa using g3
      unfold M6 at g3;rw[F4,show 0+r*1+0=r by omega,c]at g3;simp only[I3,C7]at g3;subst g3;exact .sc rfl
    | succ j=>simp at g2
def oT{G:Nat->Option Obj}{wd n c:Nat}{rows:List (List U)}(h:Enc G (.seq false wd rows) (.slice (some a) n c))(D:∀ k B,G k=some B->w.heap[k]? = some B) :
  n=rows.length/\∃ new',new'.length=rows.length*wd/\new'.all p8=true/\M2 G rows wd ⟨new'⟩ 0/\∀ (j:Nat) (v':Value),new'[j]? = some v'->w.cell? (a.add j)=some v':=by
 cases h with
 | sc h=>cases h
 | emp=>exact⟨rfl,[],by simp,rfl,.nil,fun j v' h=>by simp at h⟩
 | sl I F A hw f =>
   rename_i a o C T fz;refine⟨rfl,?_⟩;cases hr:rows with
   | nil=>exact⟨[],by simp,rfl,.nil,fun j v' h=>by simp at h⟩
   | cons J K =>
     have p:rows≠[]:=by rw[hr];simp
     rw[<- hr];have hh:=D _ _ (F p);have A:=A p;have hlen:((C.toList.drop o).take (rows.length*wd)).length=rows.length*wd:=by simp;omega
     have b:∀ j,j<rows.length*wd->((C.toList.drop o).take (rows.length*wd))[j]? = C[o+j]? := fun j d=>by
      rw[F0 d,G4];simp
     refine⟨_,hlen,?_,⟨hw,fun r row j u v g1 g2 g3=>?_⟩,fun j v' d=>?_⟩
     .refine D2.2 fun v E=>?_
      obtain⟨j,d,e⟩:=Y8 E;rw[hlen]at d;have x:C[o+j]? = some v:=by rw[<- b j d,A4 (by rw[hlen];exact d),e]
      have g:0<wd:=by
       rcases N0 wd with h0|h0
       .subst h0;omega
       .exact h0
      have h1:j / wd<rows.length:=by rw[Nat.div_lt_iff_lt_mul g];exact d
      have t:(rows[j / wd]).length=wd:=hw _ (L5 h1);have h3:j%wd<wd:=fL _ g;refine iJ (f (j / wd) rows[j / wd] (j%wd) (rows[j / wd])[j%wd] v (A4 h1) (A4 (by rw[t];exact h3)) ?_);have:o+j / wd*wd+j%wd=o+j:=by have:=gA j wd;rw[U0]at this;omega
      rw[this];exact x
     .have H:0+r*wd+j<rows.length*wd:=by
       have y:=(A7.1 g1).1;have q:=(A7.1 g2).1;rw[hw _ (D6 g1)]at q;have t:(r+1)*wd<=rows.length*wd:=E4 wd y;rw[G0]at t;omega
      have g3:((C.toList.drop o).take (rows.length*wd))[0+r*wd+j]? = some v:=by simpa using g3
      rw[b _ H]at g3;exact f r row j u v g1 g2 (by rw[show o+r*wd+j=o+(0+r*wd+j) by omega];exact g3)
     .have l:=(A7.1 d).1;rw[hlen]at l;rw[b j l]at d;rw[I5.add_none'];simp[World.cell?,hh,d]
structure LY (P:Program) (ρ':Ren) (w:World) (wd:Nat) (bh:Beh) (gs:List Nat) (y':Value) (rows2:List (List U)) (new':List Value):Prop where
 len:∀ wd',(Builtin.lenOf y').run P wd'=.ok rows2.length wd'
 first:∀ wd':World,wd'.heap=w.heap->(Builtin.firstCells wd rows2.length y').run P wd'=.ok ⟨new'⟩ wd'
 size:new'.length=rows2.length*wd
 flat:new'.all p8=true
 rows:∀ R,(∀ b ∈ gs,∀ l,ρ' b=some l->Sub l.G R)->M2 R rows2 wd ⟨new'⟩ 0
 ev:∀ c nul rows,Ora.env c=.seq nul wd rows->evU (aT wd (hole c (10+wd)) bh).1 ((aT wd (hole c (10+wd)) bh).2.map (D4 Ora.env))=nL nul wd rows rows2
def wZ{R:Nat->Option Obj}(h:W7 R us vs):vs.all p8=true:=by
 refine D2.2 fun v c=>?_
 obtain⟨j,b,e⟩:=Y8 c;have hu:j<us.length:=by rw[h.1];exact b
 exact iJ (h.2 j us[j] v (A4 hu) (by rw[A4 b,e]))
def JR{td:Td}(K:uC P td){e:TypeId}{wd:Nat}{y y':Value}{bh:Beh}{gs:F8}(h:HR P base ρ m.H w)(p:SO td P m e wd y=some (bh,gs,sure,m'))(hf:I2 ρ m.n m'.hi)(O:VR ρ y y')(hS:Sat m'.lg)(Z:0<wd)(Q:F6 P e=some wd) :
  ∃ ρ' d new',St P base ρ ρ' m m' w w/\m.lg.le m'.lg/\Z6 ρ m m'/\(∀ b ∈ gs,Hp.get m'.H b=some .frz/\∃ l,ρ' b=some l)/\LY P ρ' w wd bh gs y' d new'/\(sure=true->d≠[]):=by
 unfold SO at p;split at p
 .cases p;cases M8 O;refine⟨ρ,[],[],St.refl h,.refl _,.refl,fun b C=>(by cases C),⟨fun _=>rfl,fun _ _=>rfl,by simp,rfl,fun R _=>.nil,fun c g rows t=>?_⟩,fun h=>by cases h⟩;show evU (.snoc wd) [Ora.env c]=_;rw[t];show(if wd=wd/\wd≠0 then(match Y5 wd (([]:List U).length / wd) []with|some r=>nL g wd rows r|none=>.none)else .none)=_;rw[B2 ⟨rfl,A9⟩,List.length_nil,Nat.zero_div];rfl
 .rename_i a n c;split at p
  .rename_i cs ts hr ay;split at p
   .rename_i xs aw m2 V;cases p;have Y:bV m wd (.slice (some a) n c)=some (n,cs):=by simp only[bV,hr]
    obtain⟨f1,new',f2,f3⟩:=pR h Y O;obtain⟨ρ2,D,L,N,B,W,J⟩:=eL K h V hf f2 hS;have az:ts.length=wd:=by have:=eM ay;rw[Q]at this;exact(A5 this).symm
    have E:(xs.map (D4 Ora.env)).length=n*wd:=by
     have:=U8 List.length W;rw[E8,sA,az]at this;exact this
    obtain⟨d,G⟩:=kZ (wd:=wd) n (xs.map (D4 Ora.env)) E;obtain⟨g1,g2,g3,g4⟩:=jT G;refine⟨ρ2,d,new',D,L,N,B,⟨fun q=>by rw[g1];exact f1 q,fun q F=>by rw[g1];exact f3 q F,?_,?_,fun R X=>jZ (J R X) G,fun c g rows t=>?_⟩,fun hs=>?_⟩
    .have:=(J (fun k=>w.heap[k]?) (fun b C l T k o hk=>by
      obtain⟨q1,_⟩:=B b C;exact(D.hr.atl T q1).1.2 k o hk)).1
     rw[<- this,E,g1]
    .exact wZ (J (fun k=>w.heap[k]?) (fun b C l T k o hk=>by
      obtain⟨q1,_⟩:=B b C;exact(D.hr.atl T q1).1.2 k o hk))
    .show evU (.snoc wd) (Ora.env c::xs.map (D4 Ora.env))=_;rw[t];show(if wd=wd/\wd≠0 then(match Y5 wd ((xs.map (D4 Ora.env)).length / wd) (xs.map (D4 Ora.env))with|some r=>nL g wd rows r|none=>.none)else .none)=_;rw[B2 ⟨rfl,A9⟩,E,g8 _ Z,G]
    .have:0<n:=A1 hs;intro he;subst he;simp at g1;omega
   .cases p
  .cases p
 .split at p
  .rename_i x b m2 V;cases p;obtain⟨ρ2,l,D,L,N,B,W,J,e7⟩:=K.ok h V hf O hS;obtain⟨ax,f,d,q1,q2⟩:=cY B W A9;have S:f=wd:=A9;subst S;have hG:=(D.hr.atl L N).1.2;rw[q1]at B;have M:∀ c g rows,Ora.env c=.seq g f rows->evU (aT f (hole c (10+f)) (.rows x)).1 ((aT f (hole c (10+f)) (.rows x)).2.map (D4 Ora.env))=nL g f rows d:=fun c g rows t=>by
    show evU (.cat f) [Ora.env c,D4 Ora.env x]=_;rw[t,q1];simp[evU]
   have A:∀ b' ∈ [b],Hp.get m'.H b'=some .frz/\∃ l,ρ2 b'=some l:=fun b' I=>by
    rcases A8.1 I with rfl|I
    .exact⟨N,l,L⟩
    .cases I
   rcases j9 B with⟨rfl,rfl,rfl⟩|⟨rfl,a,c,rfl,t⟩
   .exact⟨ρ2,[],[],D,J,e7,A,⟨fun _=>rfl,fun _ _=>rfl,by simp,rfl,fun R _=>.nil,M⟩,fun h=>by cases h⟩
   .obtain⟨_,new',g1,g2,g3,g4⟩:=oT (w:=w) B hG;refine⟨ρ2,d,new',D,J,e7,A,⟨fun _=>rfl,fun q F=>?_,g1,g2,fun R X=>g3.mono (X b (.head _) l L),M⟩,fun h=>by cases h⟩;rw[show Builtin.firstCells f d.length (.slice (some a) d.length c)=loadCells a (d.length*f)from rfl];exact hZ g1 fun j v' hj=>by rw[v6 F];exact g4 j v' hj
  .cases p
 .obtain⟨h1,p⟩:=A2 p;obtain⟨h2,h3⟩:=B3 h1;have h4:=A0 h2;have h5:=A0 h3;cases p;subst h5;obtain⟨s,rfl,f1⟩:=Z9 O h4;refine⟨ρ,kA s,M6 s,St.refl h,.refl _,.refl,fun b C=>(by cases C),⟨fun _=>?_,fun q _=>?_,by simp[kA,M6],?_,fun R _=>BB s,fun c g rows t=>?_⟩,fun h=>by cases h⟩
  .rw[dW];rfl
  .rw[dW];have e:((ByteArray.extract ⟨⟨s⟩⟩ 0 s.length).data.map fun b=>Value.int .u8 b.toNat)=⟨M6 s⟩:=by
    rw[dM];apply H7;simp[M6]
   show(pure ((ByteArray.extract ⟨⟨s⟩⟩ 0 s.length).data.map fun b=>Value.int .u8 b.toNat):Sem Q0).run P q=_;rw[e];rfl
  .refine D2.2 fun v hv=>?_
   unfold M6 at hv;obtain⟨b,_,rfl⟩:=I6.1 hv;rfl
  .show evU .cats [Ora.env c,D4 Ora.env y]=_;rw[t,f1];simp[evU]
end
end
section
open Go
variable [Ora]
section
variable {P:Program} {base:Nat} {ρ ρ':Ren} {m m':Mem} {w w':World}
def Sub.trans{A B C:Nat->Option Obj}(h:Sub A B)(k:Sub B C):Sub A C:=fun q o b=>k q o (h q o b)
structure TF (P:Program) (base:Nat) (ρ:Ren) (m:Mem) (w:World) (e:TypeId) (wd c:Nat) (gs:List Nat) (old:Option Nat) (x':Value):Prop where
 ex:∃ nul rows,Ora.env c=.seq nul wd rows/\((nul=true/\rows=[]/\x'=.slice none 0 0/\(∀ b,old=some b->∃ ab l,b<=G1/\Hp.get m.H b=some ab/\ab.rw=true/\ρ b=some l/\l.on=false)) ∨
  (nul=false/\∃ b ab l cap C fz,old=some b/\b<=G1/\Hp.get m.H b=some ab/\ab.rw=true/\ρ b=some l/\l.on=true/\x'=.slice (some ⟨l.blk,l.sh,none⟩) rows.length cap/\w.heap[l.blk]? = some (.cells C e fz) /\
    rows.length<=cap/\l.sh+cap*wd<=C.size/\(∀ i,i<C.size->¬ (fz.1<=i/\i<fz.2))/\∀ R,(∀ b ∈ gs,∀ l,ρ b=some l->Sub l.G R)->M2 R rows wd C l.sh))
def EA{td:Td}(aw:uC P td){e:TypeId}{wd c:Nat}{x x':Value}{gs:F8}{old:Option Nat}(h:HR P base ρ m.H w)(d:xR td P m e wd x=some (c,gs,old,m'))(hf:I2 ρ m.n m'.hi)(hx:VR ρ x x')(hS:Sat m'.lg)(ag:0<wd)(k:F6 P e=some wd) :
  ∃ ρ',St P base ρ ρ' m m' w w/\m.lg.le m'.lg/\Z6 ρ m m'/\TF P base ρ' m' w e wd c gs old x':=by
 unfold xR at d;split at d
 .rw[L6]at d;simp only[hole]at d;cases d;cases M8 hx;obtain⟨q,e2,_⟩:=fU hS (.refl _);refine⟨ρ,St.wLg h _,S0,Z6.lg _,⟨true,[],q,.inl ⟨rfl,rfl,rfl,fun b hb=>by cases hb⟩⟩⟩
 .rename_i b i tg;split at d
  .rename_i c0 tc T g S;obtain⟨h1,d⟩:=A2 d;obtain⟨h1,L⟩:=B3 h1;obtain⟨h1,h3⟩:=B3 h1;obtain⟨L,y⟩:=B3 L;have h1:=A0 h1;have h3:=A0 h3;have L:=A0 L;have y:=A1 y;cases d;subst L;obtain⟨V,bx⟩:=x5 hx;rcases V with⟨l,az,g1,g2,g3,rfl⟩|⟨l,az,al,g1,g2,g3,g4,bs,rfl⟩
   .obtain⟨I,inf,q,e2,e3,f⟩:=SqR.ex (h.atl g1 S).1;rcases f with⟨_,f⟩|⟨f,_⟩
    .have:I=wd:=A9;subst this;refine⟨ρ,St.refl h,.refl _,.refl,⟨true,[],f,.inl ⟨rfl,rfl,rfl,fun b' ad=>?_⟩⟩⟩;cases ad;exact⟨_,l,y,S,rfl,g1,g2⟩
    .rw[g2]at f;cases f
   .obtain⟨I,inf,q,e2,e3,f⟩:=SqR.ex (h.atl g1 S).1;rcases f with⟨f,_⟩|⟨_,f⟩
    .rw[g2]at f;cases f
    .obtain⟨C,fz,T',rows,lg,f1,f2,f3,f4,f5,f6,f7,f8,f9⟩:=f;have:I=wd:=A9;subst this;obtain⟨rfl,f10⟩:=f9 rfl;exact⟨ρ,St.refl h,.refl _,.refl,⟨false,rows,f2,.inr ⟨rfl,b,_,l,l.cap,C,fz,rfl,y,S,rfl,g1,g2,by rw[f3],f1,A9,f5,f10,fun R hR=>⟨f6,fun r row j u v q1 q2 q3=>(f8 r row j u v q1 q2 q3).mono (hR g (.head _) lg f7)⟩⟩⟩⟩
  .cases d
 .rename_i b n c0;split at d
  .rename_i cs T0 br ts S aa;obtain⟨hq,p⟩:=A2 d;obtain⟨ak,an⟩:=B3 hq;have h1:=A0 ak;clear d;split at p
   .rename_i xs bw m1 hd;split at p
    .rename_i bu T Z;obtain⟨K,F⟩:=A2 p;clear p;obtain⟨K,y⟩:=B3 K;have h3:=A0 K;have y:=A1 y;subst h3;rw[L6]at F;simp only[hole]at F;cases F;have ax:I2 ρ m.n m1.hi:=by simpa using hf
     have aq:Sat m1.lg:=M4.le hS S0;obtain⟨l,cap,t,bz,ao,ay⟩:∃ l cap,ρ b=some l/\n<=cap/\(cap=n∨cap=l.cap)/\x'=.slice (some ⟨l.blk,0+l.sh,none⟩) n cap:=by
      rcases(F7 _ _).mp an with D|D
      .obtain⟨M,Q⟩:=B3 D;have M:=A0 M;have Q:c0<K8:=A1 Q;rcases M3 hx with⟨l,t,_,N,rfl⟩|⟨l,c',t,_,ae,Y,X,rfl⟩|⟨a',c',_,_,D,_⟩
       .exact⟨l,c0,t,A9,.inl M,rfl⟩
       .omega
       .omega
      .have D:=A0 D;rcases M3 hx with⟨l,t,_,N,rfl⟩|⟨l,c',t,_,ae,Y,X,rfl⟩|⟨a',c',_,_,Q,_⟩
       .omega
       .exact⟨l,c',t,Y,.inr (X D rfl),rfl⟩
       .omega
     obtain⟨⟨ar,C,fz,T1,f1,f2,_⟩,_⟩:=h.atl t S;obtain⟨cs',f4,f5⟩:=i9 (ρ:=ρ) (C:=C) (cs:=cs) (s:=l.sh) f2;obtain⟨av,q,e2,e3,f,e5,e6⟩:=eL aw h hd ax f4 aq;obtain⟨⟨_,C1,bt,T2,g1,g2,g3⟩,_⟩:=q.hr.atl (q.ext _ _ t) Z;rw[f1]at g1;cases g1;obtain⟨rfl,g4,g5⟩:=g3 rfl;have A:=eM aa;rw[k]at A;have N:ts.length=wd:=(A5 A).symm;have W:(xs.map (D4 Ora.env)).length=n*wd:=by
      have:=U8 List.length e5;rw[E8,sA,N]at this;exact this
     obtain⟨rows,O⟩:=kZ (wd:=wd) n (xs.map (D4 Ora.env)) W;obtain⟨q1,q2,q3,q4⟩:=jT O;obtain⟨d1,d2,_⟩:=fU hS (.refl _);have D:Ora.env m1.lg.nx=.seq false wd rows:=by
      rw[d1];show(if wd=0 then U.none else match Y5 wd ((xs.map (D4 Ora.env)).length / wd) (xs.map (D4 Ora.env))with|some r=>.seq false wd r|none=>.none)=_;rw[B1 A9,W,g8 _ ag,O]
     have af:cs'.length=n*wd:=by rw[<- f4.1];exact h1
     obtain⟨inf,B,E⟩:∃ inf,P.info? T1=some inf/\inf.size=wd:=by
      unfold F6 at k;cases hi:P.info? T1 with
      | none=>rw[hi]at k;cases k
      | some inf=>rw[hi]at k;exact⟨inf,rfl,A5 k⟩
     have J:l.sh+cap*wd<=C.size:=by
      rcases ao with rfl|rfl
      .rcases N0 (cap*wd)with h0|h0
       .rw[h0]
        have:=g5 inf B;rw[E]at this;omega
       .have G:cap*wd-1<cs'.length:=A9
        have:=f5 (cap*wd-1) cs'[cap*wd-1] (A4 G)
        have:=(B5.1 this).1;omega
      .have:=g5 inf B;rw[E]at this;exact this.1
     have aj:=St.wLg q.hr (cN m1 (10+wd) (.mk wd) xs);refine⟨av,St.trans (by simpa using hf) q aj,e2.trans S0,fun j lj hj ai=>by rw[gK];exact e3 j lj hj ai,⟨false,rows,D,.inr ⟨rfl,b,_,l,cap,C,fz,rfl,y,by rw[gK];exact Z,rfl,q.ext _ _ t,ar,by rw[ay,q1,D8],f1,A9,J,g4,fun R hR=>?_⟩⟩⟩;obtain⟨r1,r2⟩:=jZ (e6 R hR) O;refine⟨r1,fun r row j u v a1 a2 a3=>r2 r row j u v a1 a2 ?_⟩;have hq:r*wd+j<cs'.length:=by
      have au:=(A7.1 a1).1;have ah:=(A7.1 a2).1;rw[r1 _ (D6 a1)]at ah;have L:(r+1)*wd<=rows.length*wd:=E4 wd au;rw[G0]at L;rw[af,<- q1];omega
     have:=f5 (r*wd+j) cs'[r*wd+j] (A4 hq);rw[show l.sh+r*wd+j=l.sh+(r*wd+j) by omega,this]at a3;have a3:=A5 a3;show(Array.mk cs')[0+r*wd+j]? = some v;rw[I0,show 0+r*wd+j=r*wd+j by omega,A4 hq,a3]
    .cases p
   .cases p
  .cases d
 .cases d
end
end
end Go.Sx
