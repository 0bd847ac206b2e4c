import Derived.Test.YtjdnjfnhdeplfaaX2
set_option linter.all false
set_option maxRecDepth 100000
set_option maxHeartbeats 4000000
namespace Go.Sx
open Go
variable {op:LOp}{s ty:TypeId}{hi i j o tg:Nat}{i' z z':Value}{u:U}{kh kk kl:IntKind}{hi' lo lo' mx mx':N7}{hs r' vs vs' xs:D0}{tys:List TypeId}{a:Addr}{m1:Mem}{row us:List U}{ts:F9}{cl sure:Bool}
section
open Go
variable [Ora]
section
variable {P:Program} {base:Nat} {ρ:Ren} {m m':Mem} {w:World}
def pk(k:IntKind)(n:Int):H3 (.int k n)=true:=rfl
def NC{op:UnOp}{x x' v:Value}(h:AS m op x=some (v,m'))(p:VR ρ x x')(l:Sat m'.lg)(w:World):∃ r,(Op.unary op x').run P w=.ok r w/\VR ρ v r:=by
 unfold AS at h;simp only at h;split at h
 .obtain⟨h1,h⟩:=A2 h;obtain⟨b,rfl,e⟩:=dU p (A0 h1);obtain⟨u,c,g,r,f,d,_⟩:=K3 h l;simp only[B8,E3,e,evU,ev1,unM,ofV]at c;subst c;cases f;exact⟨_,(EO (P:=P) (ρ:=ρ) (op:=.not) (x:=.bool b) (v:=.bool !b) rfl (.pure rfl) w).1,d ρ⟩
 .obtain⟨h1,h⟩:=A2 h;obtain⟨k,n,rfl,e,_⟩:=K5 p (A1 h1);obtain⟨u,c,g,r,f,d,q⟩:=K3 h l;simp only[B8,E3,e,evU,ev1]at c;subst c;obtain⟨r',g1,g2⟩:=yU (by rw[g];exact q);rw[f]at g2;cases g2;exact⟨_,(EO (P:=P) (ρ:=ρ) g1 (.pure (pk k n)) w).1,d ρ⟩
def EU{t:TypeId}{x x' v:Value}(h:lY P m s t x=some (v,m'))(c:VR ρ x x')(p:Sat m'.lg)(w:World):∃ r,(convert s t x').run P w=.ok r w/\VR ρ v r:=by
 unfold lY at h;split at h
 .rename_i j k hs d;obtain⟨h1,h⟩:=A2 h;obtain⟨A,n,rfl,e,_⟩:=K5 c (A1 h1);obtain⟨u,f,q,r,l,g,y⟩:=K3 h p;simp only[B8,E3,e,evU]at f;subst f;cases l;exact⟨_,by simp[convert,A3,C8 hs,C8 d,Result.andThen,Conv.intToInt],g ρ⟩
 .rename_i hs d;obtain⟨h1,h⟩:=A2 h;cases h;obtain⟨b,rfl,e⟩:=c8 c (A0 h1);exact⟨_,by simp[convert,A3,C8 hs,C8 d,Result.andThen],c⟩
 .cases h
def eQ{t:Nat}:∀ {cs:D0},Z2 t cs=true->∀ {i:Nat} {v:Value},cs[i]? = some v->F5 v=t
 | [],_,i,v,h=>by simp at h
 | c::r,hs,i,v,h=>by
   obtain⟨h1,b⟩:=B3 (show(Nat.beq (F5 c) t && Z2 t r)=true from hs);cases i with
   | zero=>simp at h;subst h;exact A0 h1
   | succ i=>exact eQ b (by simpa using h)
def NQ{t e:TypeId}{n:Nat}{cs:Q0}{x' i v:Value}(hu:P.underlying t=some (.array n e))(D:Y5 P e=some false)(l:F7 P e=some 1)(G:cs.toList.length=n)(f:Z2 tg cs.toList=true)(B:tg<10)
  (g:F5 i<8) (h:Q2 m tg .sel (i::cs.toList)=some (v,m')) (C:VR ρ (.agg cs) x') (hi:VR ρ i i') (A:Sat m'.lg) (w:World):∃ r,(Instr.index t x' i').run P w=.ok r w/\VR ρ v r:=by
 obtain⟨k,z,rfl,e,_⟩:=K5 hi g;obtain⟨u,c,E,r,d,y,F⟩:=K3 h A;simp only[B8,e]at c;cases z with
 | negSucc z=>simp only[evU]at c;subst c;cases d
 | ofNat z =>
   simp only[evU]at c;by_cases p:z<cs.toList.length
   .have b:cs.toList[z]? = some cs.toList[z]:=A4 p;have q:=eQ f b;have hm:iD P t (.agg cs) (.int k (.ofNat z))=some cs.toList[z]:=by
     have x:Nat.blt z n=true:=C4 A9;simp only[iD,hu,l,x,D7,mK,D,Nat.mul_one];exact b
    obtain⟨v',g1,g2⟩:=oP (P:=P) hm C (.pure rfl) w;obtain⟨f1,_⟩:=m9 g2 A9;have:u=D4 Ora.env cs.toList[z]:=by
     rw[<- c,B9,F4,b];rfl
    rw[this,f1]at d;cases d;exact⟨_,g1,y ρ⟩
   .rw[B9,P8 (by simp at p ⊢;omega)]at c;subst c;cases d
def vT{e:TypeId}(h:Nat.beq (Z1.sizeD P e) 1=true):F7 P e=some 1:=by
 have h:=A0 h;unfold Z1.sizeD at h;split at h
 .rename_i n b;rw[b,h]
 .cases h
def AV{t:TypeId}{x x' i v:Value}(h:Z1 P m t x i=some (v,m'))(q:VR ρ x x')(hi:VR ρ i i')(l:Sat m'.lg)(w:World):∃ r,(Instr.index t x' i').run P w=.ok r w/\VR ρ v r:=by
 unfold Z1 at h;cases g:!(Nat.blt (F5 i) 8)with
 | true=>rw[g]at h;cases h
 | false =>
   have d:F5 i<8:=by
    have:Nat.blt (F5 i) 8=true:=by simpa using g
    exact A1 this
   rw[g]at h;simp only[D3]at h;split at h
   .rename_i hu;obtain⟨h1,h⟩:=A2 h;obtain⟨s,rfl,f1⟩:=c8 q (A0 h1);obtain⟨k,z,rfl,f2,_⟩:=K5 hi d;obtain⟨u,c,B,r,f,A,C⟩:=K3 h l;simp only[B8,E3,f1,f2]at c;cases z with
    | negSucc z=>simp only[evU]at c;subst c;cases f
    | ofNat z =>
      simp only[evU]at c;split at c
      .rename_i b y;subst c;cases f;have hm:iD P t (.string ⟨⟨s⟩⟩) (.int k (.ofNat z))=some (.int .u8 b.toNat):=by
        simp only[iD,hu,y]
       obtain⟨v',g1,g2⟩:=oP (P:=P) (ρ:=ρ) hm (.pure rfl) (.pure rfl) w;cases H8 g2;exact⟨_,g1,A ρ⟩
      .subst c;cases f
   .rename_i n e hu;split at h
    .rename_i cs k he;obtain⟨h1,h⟩:=A2 h;obtain⟨h1,h3⟩:=B3 h1;obtain⟨h1,p⟩:=B3 h1;exact NQ hu (by simp[Y5,he]) (vT h3) (A0 h1) p (by have:=J9 k;omega) d h q hi l w
    .rename_i cs he;obtain⟨h1,h⟩:=A2 h;obtain⟨h1,h3⟩:=B3 h1;obtain⟨h1,p⟩:=B3 h1;exact NQ hu (by simp[Y5,he]) (vT h3) (A0 h1) p A9 d h q hi l w
    .cases h
   .cases h
def EW{t:TypeId}(hu:P.underlying t=some .string){s:List UInt8}{l h:Int}{r:Value}(b:TR s l h=u)(c:toV u=some r):aM P t (.string ⟨⟨s⟩⟩) (some (.int kl l)) (some (.int kh h)) none=some r:=by
 unfold TR at b;split at b
 .rename_i l h;split at b
  .rename_i hh;subst b;cases c;have d:Nat.ble h (ByteArray.size ⟨⟨s⟩⟩)=true:=C4 hh.2;have e:Nat.ble l h=true:=C4 hh.1;simp only[aM,hu,Q3,d,e,D7]
  .subst b;cases c
 .subst b;cases c
def AT{t:TypeId}{x x' v:Value}{hi:N7}(h:gO P m t x lo hi mx=some (v,m'))(J:VR ρ x x')(f:OR ρ lo lo')(g:OR ρ hi hi')(F:OR ρ mx mx')(C:Sat m'.lg)(w:World) :
  ∃ r,(Instr.sliceAt t x' lo' hi' mx').run P w=.ok r w/\VR ρ v r:=by
 have c:∀ {o:N7},OR ρ none o->o=none:=fun{o} h=>by cases o<;>first|rfl|exact h.elim
 have d:∀ {y:Value} {o:N7},OR ρ (some y) o->∃ I,o=some I/\VR ρ y I:=fun{y o} h=>by cases o<;>first|exact h.elim|exact⟨_,rfl,h⟩
 unfold gO at h;split at h
 .rename_i hu;cases c F;obtain⟨h1,h⟩:=A2 h;obtain⟨s,rfl,f1⟩:=c8 J (A0 h1);have B:∀ {y:Value},VR ρ (.string ⟨⟨s⟩⟩) y->y=.string ⟨⟨s⟩⟩:=fun h=>R3 h
  split at h
  .cases h;cases c f;cases c g;have hm:aM P t (.string ⟨⟨s⟩⟩) none none none=some (.string ⟨⟨s⟩⟩):=by
    have e:ByteArray.size ⟨⟨s⟩⟩=s.length:=rfl;simp[aM,hu,Q3,e]
   obtain⟨v',g1,g2⟩:=dW (P:=P) (ρ:=ρ) (lo':=none) (hi':=none) (mx':=none) hm (.pure rfl) trivial trivial trivial w;cases R3 g2;exact⟨_,g1,J⟩
  .obtain⟨p,h⟩:=A2 h;obtain⟨l',rfl,E⟩:=d f;cases c g;obtain⟨k,z,rfl,f2,_⟩:=K5 E (A1 p);obtain⟨u,n,G,r,l,A,H⟩:=K3 h C;simp only[B8,E3,f1,f2,evU]at n;have hm:=EW (P:=P) (kl:=k) (kh:=.i64) hu n l;have q:aM P t (.string ⟨⟨s⟩⟩) (some (.int k z)) none none=some r:=by
    rw[<- hm];have e:ByteArray.size ⟨⟨s⟩⟩=s.length:=rfl;have b:Nat.ble s.length s.length=true:=C4 (A6 _);have D:((s.length:Nat):Int)=Int.ofNat s.length:=rfl;simp only[aM,hu,Q3,e,D,b,D7]
   obtain⟨v',g1,g2⟩:=dW (P:=P) (ρ:=ρ) (lo':=some (.int k z)) (hi':=none) (mx':=none) q (.pure rfl) (VR.pure rfl:VR ρ _ _) trivial trivial w;have:VR ρ r v':=g2;have hp:=dS l;cases g2 with
   | pure _=>exact⟨_,g1,A ρ⟩
   | _=>simp[H3,ixp,Go.Sx.dat,Go.Sx.clp,Go.Sx.own,Go.Sx.dpt,Go.Sx.opt,Go.Sx.yv,Go.Sx.sdt]at hp
  .obtain⟨p,h⟩:=A2 h;obtain⟨K,rfl,hh⟩:=d g;cases c f;obtain⟨k,z,rfl,f2,_⟩:=K5 hh (A1 p);obtain⟨u,n,G,r,l,A,H⟩:=K3 h C;have f0:D4 Ora.env (.int .i64 0)=.int .i64 0:=rfl;simp only[B8,E3,f1,f2,f0,evU]at n;have hm:=EW (P:=P) (kl:=.i64) (kh:=k) hu n l;have q:aM P t (.string ⟨⟨s⟩⟩) none (some (.int k z)) none=some r:=by
    rw[<- hm];have D:(0:Int)=Int.ofNat 0:=rfl;cases z with
    | negSucc z=>simp only[aM,hu,Q3]
    | ofNat z =>
      have L:Nat.ble 0 z=true:=C4 (iT _);simp only[aM,hu,Q3,D];cases Nat.ble z (ByteArray.size ⟨⟨s⟩⟩)<;>simp[L]
   obtain⟨v',g1,g2⟩:=dW (P:=P) (ρ:=ρ) (lo':=none) (hi':=some (.int k z)) (mx':=none) q (.pure rfl) trivial (VR.pure rfl:VR ρ _ _) trivial w;have hp:=dS l;cases g2 with
   | pure _=>exact⟨_,g1,A ρ⟩
   | _=>simp[H3,ixp,Go.Sx.dat,Go.Sx.clp,Go.Sx.own,Go.Sx.dpt,Go.Sx.opt,Go.Sx.yv,Go.Sx.sdt]at hp
  .obtain⟨p,h⟩:=A2 h;obtain⟨p,h3⟩:=B3 p;obtain⟨K,rfl,hh⟩:=d g;obtain⟨l',rfl,E⟩:=d f;obtain⟨k,z,rfl,f2,_⟩:=K5 E (A1 p);obtain⟨j,y,rfl,f3,_⟩:=K5 hh (A1 h3);obtain⟨u,n,G,r,l,A,H⟩:=K3 h C;simp only[B8,E3,f1,f2,f3,evU]at n;have hm:=EW (P:=P) (kl:=k) (kh:=j) hu n l;obtain⟨v',g1,g2⟩:=dW (P:=P) (ρ:=ρ) (lo':=some (.int k z)) (hi':=some (.int j y)) (mx':=none) hm (.pure rfl) (VR.pure rfl:VR ρ _ _) (VR.pure rfl:VR ρ _ _) trivial w;have hp:=dS l;cases g2 with
   | pure _=>exact⟨_,g1,A ρ⟩
   | _=>simp[H3,ixp,Go.Sx.dat,Go.Sx.clp,Go.Sx.own,Go.Sx.dpt,Go.Sx.opt,Go.Sx.yv,Go.Sx.sdt]at hp
 .cases h
def uQ{b:Builtin}{ks:Array Bool}{v:Value}(hr:HR P base ρ m.H w)(h:bT P m b vs tys=some (v,m'))(x:LR ρ vs vs')(q:Sat m'.lg) :
  ∃ s:Sem Value,builtin b ⟨tys⟩ ty ks ⟨vs'⟩=(do pure (.value (<- s)))/\∃ r,s.run P w=.ok r w/\VR ρ v r:=by
 unfold bT at h;split at h
 .obtain⟨x',r1,rfl,h1,n⟩:=x.tail;cases n.nil_inv;split at h
  .rename_i hu;obtain⟨h3,h⟩:=A2 h;obtain⟨s,rfl,f1⟩:=c8 h1 (A0 h3);obtain⟨u,e,y,r,l,g,A⟩:=K3 h q;simp only[B8,E3,f1,evU]at e;subst e;cases l;rename_i t rest _ _;have hm:PS P m t (.string ⟨⟨s⟩⟩)=some (.int .i64 s.length):=by simp[PS,hu]
   obtain⟨g1,_⟩:=IN (ρ:=ρ) (ty:=ty) (tys:=rest) hr hm (.pure rfl);exact⟨_,rfl,_,g1,g ρ⟩
  .cases h
 .obtain⟨x',r1,rfl,h1,n⟩:=x.tail;obtain⟨B,r2,rfl,h3,p⟩:=n.tail;cases p.nil_inv;obtain⟨d,h⟩:=A2 h;obtain⟨d,f⟩:=B3 d;have d:=A1 d;have f:=A0 f;obtain⟨k,a,rfl,f1,q1⟩:=K5 h1 d;obtain⟨j,c,rfl,f2,q2⟩:=K5 h3 (f▸d);obtain⟨u,e,y,r,l,g,A⟩:=K3 h q;simp only[B8,E3,f1,f2,evU]at e;subst e;cases l;obtain⟨g1,_⟩:=IH (P:=P) (ρ:=ρ) (ty:=ty) (tys:=⟨tys⟩) (vs:=[.int k a,.int j c]) rfl (.cons (.pure rfl) (.cons (.pure rfl) .nil)) w;exact⟨_,rfl,_,g1,g ρ⟩
 .obtain⟨x',r1,rfl,h1,n⟩:=x.tail;obtain⟨B,r2,rfl,h3,p⟩:=n.tail;cases p.nil_inv;obtain⟨d,h⟩:=A2 h;obtain⟨d,f⟩:=B3 d;have d:=A1 d;have f:=A0 f;obtain⟨k,a,rfl,f1,q1⟩:=K5 h1 d;obtain⟨j,c,rfl,f2,q2⟩:=K5 h3 (f▸d);obtain⟨u,e,y,r,l,g,A⟩:=K3 h q;simp only[B8,E3,f1,f2,evU]at e;subst e;cases l;obtain⟨g1,_⟩:=IG (P:=P) (ρ:=ρ) (ty:=ty) (tys:=⟨tys⟩) (vs:=[.int k a,.int j c]) rfl (.cons (.pure rfl) (.cons (.pure rfl) .nil)) w;exact⟨_,rfl,_,g1,g ρ⟩
 .cases h
def KB{v:Value}{k:IntKind}{n:Int}(h:D4 Ora.env v=.int k n):lH Ora.env v=some n:=by
 cases v with
 | complex k i t =>
   cases k with
   | f64 =>
     have h:Ora.env i=.int _ n:=h;simp only[lH,h]
   | f32=>cases h
 | int j n=>cases h;rfl
 | _=>cases h
def AE{v:Value}{n:Int}(h:lH Ora.env v=some n):∃ k,D4 Ora.env v=.int k n:=by
 cases v with
 | complex k i t =>
   cases k with
   | f64 =>
     simp only[lH]at h;split at h
     .rename_i k z he;cases h;exact⟨k,he⟩
     .cases h
   | f32=>cases h
 | int j n=>cases h;exact⟨j,rfl⟩
 | _=>cases h
def IQ{s n:Nat}{i v:Value}(h:LO m a s n i=some (v,m'))(hi:VR ρ i i')(l:Sat m'.lg):v=ixp a s i n/\∃ k z,i'=.int k (.ofNat z)/\z<n/\lH Ora.env i=some (.ofNat z):=by
 unfold LO at h;cases d:!(Nat.blt (F5 i) 8)with
 | true=>rw[d]at h;cases h
 | false =>
   have f:F5 i<8:=by
    have:Nat.blt (F5 i) 8=true:=by simpa using d
    exact A1 this
   rw[d]at h;simp only[D3]at h;split at h
   .rename_i b H k W hh lg y;split at h
    .rename_i t g;cases h;obtain⟨u,p,A,r,c,q,_⟩:=K3 y (M5.le l (cJ g));have e:=iN (ρ:=ρ) g (q ρ) l;subst e;obtain⟨x,z,rfl,f1,_⟩:=K5 hi f;have f0:D4 Ora.env (.int .i64 (.ofNat n))=.int .i64 (.ofNat n):=rfl;simp only[B8,E3,f1,f0,evU]at p;subst p;have c:(decide (0<=z) && decide (z<Int.ofNat n))=true:=by
      have:=A5 c;exact Value.bool.inj this
     simp only[H6,decide_eq_true_eq]at c;cases z with
     | negSucc z=>exact absurd c.1 (by simp)
     | ofNat z=>exact⟨rfl,x,z,rfl,by have:=c.2;simpa using this,KB f1⟩
    .cases h
   .cases h
def uM{t:TypeId}{x x' i v:Value}(h:bR P m t x i=some (v,m'))(p:VR ρ x x')(hi:VR ρ i i')(q:Sat m'.lg)(w:World):∃ r,(Instr.indexAt t x' i').run P w=.ok r w/\VR ρ v r:=by
 unfold bR at h;split at h
 .rename_i n e a hu;split at h
  .rename_i s hs d;obtain⟨rfl,k,z,rfl,f,he⟩:=IQ h hi q;obtain⟨l,y,_,rfl⟩:=L1 p;have g:Nat.blt z n=true:=C4 f;have hm:U4 P t (.pointer (some a)) (.int k (.ofNat z))=some (.pointer (some ⟨a.block,a.off+z*s,none⟩)):=by
    simp only[U4,hu,hs,d,g,D7,v7,E1]
   obtain⟨v',g1,g2⟩:=y9 (P:=P) hm p (.pure rfl) w;obtain⟨l2,b,_,rfl⟩:=L1 g2;have b:ρ a.block=some l2:=b;rw[y]at b;cases b;exact⟨_,g1,.ixp y d he f rfl⟩
  .cases h
 .rename_i e a n c hu;split at h
  .rename_i s hs d;cases A:Nat.beq c (K9+2)with
   | true=>rw[A]at h;cases h
   | false =>
     rw[A]at h;obtain⟨rfl,k,z,rfl,f,he⟩:=IQ h hi q;have g:Nat.blt z n=true:=C4 f;have hm:U4 P t (.slice (some a) n c) (.int k (.ofNat z))=some (.pointer (some ⟨a.block,a.off+z*s,none⟩)):=by
      simp only[U4,hu,hs,d,g,D7,v7,E1]
     obtain⟨v',g1,g2⟩:=y9 (P:=P) hm p (.pure rfl) w;obtain⟨l2,b,_,rfl⟩:=L1 g2;have b:ρ a.block=some l2:=b;exact⟨_,g1,.ixp b d he f rfl⟩
  .cases h
 .cases h
def IS{s n:Nat}{i v':Value}(h:VR ρ (ixp a s i n) v'):∃ l z,ρ a.block=some l/\a.spot=none/\lH Ora.env i=some (.ofNat z)/\z<n/\v'=.pointer (some ⟨l.blk,a.off+z*s+l.sh,none⟩):=by
 generalize b:ixp a s i n=x at h;cases h with
 | ixp h hs hi d c =>
   simp only[ixp,Value.func.injEq,X3,I4,Value.pointer.injEq,C7,Value.int.injEq,gH,true_and,and_true]at b;obtain⟨rfl,rfl,rfl,rfl⟩:=b;exact⟨_,_,h,hs,hi,d,c⟩
 | pure hp=>subst b;simp[ixp,H3]at hp
 | _=>simp[ixp,Go.Sx.dat,Go.Sx.clp,Go.Sx.own,Go.Sx.dpt,Go.Sx.opt,Go.Sx.yv,Go.Sx.sdt]at b
def uO{x x' v:Value}(h:bS P m s x i=some (v,m'))(g:VR ρ x x')(w:World):∃ r,(Instr.fieldAt s x' i).run P w=.ok r w/\VR ρ v r:=by
 unfold bS at h;split at h
 .rename_i a k j n;split at h
  .rename_i q hu;split at h
   .rename_i f d e;split at h
    .rename_i z p;cases h;obtain⟨l,y,h1,t,h3,c,rfl⟩:=IS (n:=n) (s:=k) (i:=j) g;have hm:aB P s (.pointer (some ⟨a.block,a.off+y*k,none⟩)) i=some (.pointer (some ⟨a.block,a.off+y*k+f.offset,none⟩)):=by
      simp only[aB,hu,d,p,v7,E1]
     obtain⟨v',g1,g2⟩:=iH (P:=P) (ρ:=ρ) hm (.ptr h1) w;obtain⟨l2,b,_,rfl⟩:=L1 g2;have b:ρ a.block=some l2:=b;rw[h1]at b;cases b;refine⟨_,g1,?_⟩;simp only[v7,E1];refine .ixp (a:=⟨a.block,a.off+f.offset,none⟩) h1 rfl h3 c ?_;simp only[Value.pointer.injEq,C7,Addr.mk.injEq,true_and,and_true];omega
    .cases h
   .cases h
  .cases h
 .cases h
def pH{cs:D0}{s:Nat}:∀ {n o:Nat} {l:D0},qP cs s o n=some l->l.length=n/\∀ z,z<n->cs[o+z*s]? = l[z]?
 | 0,o,l,h=>by cases h;exact⟨rfl,fun z d=>by omega⟩
 | n+1,o,l,h=>by
   unfold qP at h;split at h
   .rename_i v r b hr;cases h;obtain⟨h1,c⟩:=pH hr;refine⟨by simp[h1],fun z d=>?_⟩;cases z with
    | zero=>simpa using b
    | succ z =>
      have:=c z A9;rw[Nat.succ_mul,show o+(z*s+s)=o+s+z*s by omega]
      simpa using this
   .cases h
def pI{cs cs':D0}{s n:Nat}{i:Value}{z:Nat}(he:lH Ora.env i=some (.ofNat z))(t:z<n)(A:LR ρ cs cs'):∀ {k o:Nat} {m m':Mem} {r:D0},y5 m cs s n i o k=some (r,m')->Sat m'.lg ->
  LR ρ r ((cs'.drop (o+z*s)).take k)/\r.length=k
 | 0,o,m,m',r,h,hS=>by cases h;exact⟨by simpa using LR.nil,rfl⟩
 | k+1,o,m,m',r,h,hS=>by
   unfold y5 at h;split at h
   .rename_i v l e;obtain⟨p,h⟩:=A2 h;obtain⟨p,d⟩:=B3 p;have d:F5 v<10:=A1 d;split at h
    .rename_i hh m1 h1;split at h
     .rename_i r2 m2 y;cases h;obtain⟨g,q⟩:=pI he t A y hS;obtain⟨u,f,F,C,x,D,_⟩:=K3 h1 (M5.le hS (cV y).1);obtain⟨g1,g2⟩:=pH e;have b:=g2 z t;have c:z<(v::l).length:=by rw[g1];exact t
      rw[A4 c]at b;obtain⟨G,f1,f2⟩:=A.get b;have B:=eQ p (A4 c);obtain⟨t1,_⟩:=m9 f2 A9;obtain⟨H,E⟩:=AE he;simp only[B8,E,evU]at f;have f:u=D4 Ora.env (v::l)[z]:=by
       rw[<- f];show(List.map (D4 Ora.env) (v::l)).getD z .none=_;rw[B9,F4,A4 c];rfl
      rw[f,t1]at x;cases x;refine⟨?_,by simp[q]⟩;have:(cs'.drop (o+z*s)).take (k+1)=C::(cs'.drop (o+1+z*s)).take k:=by
       rw[Q5 (A7.1 f1).1,List.take_succ_cons,(A7.1 f1).2,show o+z*s+1=o+1+z*s by omega]
      rw[this];exact .cons (D ρ) g
     .cases h
    .cases h
   .cases h
def IK{t:TypeId}{l:Loc}{z s n k:Nat}{i:Value}{cs:D0}(h:HR P base ρ m.H w)(hr:i9 m a ((n-1)*s+k)=some cs)(e:ρ a.block=some l)(he:lH Ora.env i=some (.ofNat z))(f:z<n)(g:y5 m cs s n i 0 k=some (hs,m'))(d:Sat m'.lg) :
  ∃ rs,LR ρ hs rs/\rs.length=k/\∀ (j:Nat) (v':Value),rs[j]? = some v'->w.cell? ⟨l.blk,a.off+z*s+l.sh+j,none⟩=some v':=by
 obtain⟨r',h1,p,h3⟩:=X5 h hr e;obtain⟨g1,g2⟩:=pI he f h1 g d;rw[D8]at g1;refine⟨_,g1,g1.1▸g2,fun j v' b=>?_⟩;have c:j<k:=by
  have:=(A7.1 b).1;simp at this;omega
 rw[F0 c,G5]at b
 have:=h3 _ v' b;rw[show a.off+z*s+l.sh+j=a.off+l.sh+(z*s+j) by omega];exact this
def ES{t:TypeId}{x x' v:Value}(h:HR P base ρ m.H w)(b:lX P m t x=some (v,m'))(k:VR ρ x x')(f:Sat m'.lg):∃ r,(Instr.loadAt t x').run P w=.ok r w/\VR ρ v r:=by
 unfold lX at b;split at b
 .rename_i a s i n;obtain⟨l,z,h1,A,h3,e,rfl⟩:=IS (n:=n) (s:=s) (i:=i) k;split at b
  .rename_i d;split at b
   .rename_i cs hr;split at b
    .rename_i hh m2 c;cases b;obtain⟨rs,g1,g2,g3⟩:=IK (t:=t) h hr h1 h3 e c f;obtain⟨v',r2,rfl,p,q⟩:=g1.tail;refine⟨v',?_,p⟩
     have:=g3 0 v' rfl;simp[Instr.loadAt,Instr.sureAddr,loadVar,A3,o7 d,Result.andThen,run_load,show w.cell? ⟨l.blk,a.off+z*s+l.sh,none⟩=some v' from by simpa using this]
    .cases b
   .cases b
  .rename_i y d g;split at b
   .rename_i cs hr;split at b
    .rename_i hh m2 c;cases b;obtain⟨rs,g1,g2,g3⟩:=IK (t:=t) h hr h1 h3 e c f;refine⟨.agg ⟨rs⟩,?_,.agg g1.1 g1.2⟩;simp[Instr.loadAt,Instr.sureAddr,loadVar,A3,o7 d,J1 g,Result.andThen,I5 g2 g3]
    .cases b
   .cases b
  .cases b
 .cases b
def TQ{fr:Fr}{g:Operand->Value}{o:Oper}{v:Value}(h:HR P base ρ m.H w)(f:NE P fr m o.op=some (v,m'))(C:FR ρ fr g o.op)(k:Sat m'.lg):NOk P base ρ m w (execOp g o) v m':=by
 obtain⟨_,lg,rfl⟩:=HH f;have p:St P base ρ ρ m (m.wLg lg) w w:=St.wLg h lg;obtain⟨dst,op,ty,pos,E,J⟩:=o;simp only at f C;have d:∀ {x},x ∈ op.operands.toList->VR ρ (ev fr x) (g x):=fun A=>C _ A
 have fin:∀ {s:Sem Value},(∃ r,s.run P w=.ok r w/\VR ρ v r)->NOk P base ρ m w (do pure (.value (<- s))) v (m.wLg lg):=fun{s} ⟨r,h1,I⟩=>NOk.of ⟨r,ρ,w,h1,I,p⟩
 unfold NE at f;split at f
 .rename_i c a b;have D:=d (x:=c) (by simp[Op.operands]);unfold qO at f;obtain⟨H,n,W,hi,l0⟩:=m;simp only at f;split at f
  .rename_i l1 B;simp only[C7,J0]at f;obtain⟨rfl,f⟩:=f;have q:Sat l1:=by
    have:l1=(Mem.wLg ⟨H,n,W,hi,l0⟩ lg).lg:=by rw[<- f]
    rw[this];exact k
   have:=iN B D q;exact⟨g a,ρ,w,.inl (by simp[execOp,this,asBool]),d (by simp[Op.operands]),p⟩
  .rename_i l1 B;simp only[C7,J0]at f;obtain⟨rfl,f⟩:=f;have q:Sat l1:=by
    have:l1=(Mem.wLg ⟨H,n,W,hi,l0⟩ lg).lg:=by rw[<- f]
    rw[this];exact k
   have:=iN B D q;exact⟨g b,ρ,w,.inl (by simp[execOp,this,asBool]),d (by simp[Op.operands]),p⟩
  .cases f
 .rename_i op t x y L;have A:=d (x:=x) (by simp[Op.operands]);have l:=d (x:=y) (by simp[Op.operands]);refine fin (s:=do eqGuard op t x y (g x) (g y);binOp op t (g x) (g y)) ?_;split at f
  .rename_i r hr;cases f;exact KK hr A l k w
  .rename_i hr;exact NG f A l hr k w
 .rename_i op t x;exact fin (s:=Op.unary op (g x)) (NC f (d (by simp[Op.operands])) k w)
 .exact fin (EU f (d (by simp[Op.operands])) k w)
 .rename_i t x lo hi mx;exact fin (s:=Instr.sliceAt t (g x) (lo.map g) (hi.map g) (mx.map g)) (AT f (d (x:=x) (by simp[Op.operands])) (fE (g:=g) fun y l=>d (by simp[Op.operands]at l ⊢;exact .inr (.inl l))) (fE (g:=g) fun y l=>d (by simp[Op.operands]at l ⊢;exact .inr (.inr (.inl l)))) (fE (g:=g) fun y l=>d (by simp[Op.operands]at l ⊢;exact .inr (.inr (.inr l)))) k w)
 .exact fin (AV f (d (by simp[Op.operands])) (d (by simp[Op.operands])) k w)
 .exact fin (uM f (d (by simp[Op.operands])) (d (by simp[Op.operands])) k w)
 .exact fin (uO f (d (by simp[Op.operands])) w)
 .rename_i t x;exact fin (s:=Instr.loadAt t (g x)) (ES h f (d (by simp[Op.operands])) k)
 .rename_i b xs tys;have l1:=aR (ρ:=ρ) (fr:=fr) (g:=g) (xs:=xs.toList) fun x A=>d (by show x ∈ (#[]++xs:Array Operand).toList;simpa using A)
  obtain⟨ks,F⟩:∃ ks,execOp g ⟨dst,.call ⟨.builtin b,xs,tys⟩,ty,pos,E,J⟩=builtin b tys ty ks (xs.map g):=⟨_,rfl⟩;obtain⟨s,e,hs⟩:=uQ (ty:=ty) (ks:=ks) h f l1 k;have K:xs.map g=⟨xs.toList.map g⟩:=by apply H7;simp
  rw[F,K];have G:tys=⟨tys.toList⟩:=rfl;rw[G,e];exact fin hs
 .cases f
end
end
section
open Go
variable [Ora]
section
variable {P:Program} {base:Nat} {ρ ρ':Ren} {m m':Mem} {w w':World}
def I2.step(e:I2 ρ m.n hi)(st:St P base ρ ρ' m m1 w w'):I2 ρ' m1.n hi:=fun b h1 d=>by
 cases c:ρ' b with
 | none=>rfl
 | some l =>
   cases h0:ρ b with
   | some l0=>rw[e b (B6 st.nle h1) d]at h0;cases h0
   | none=>have:=(st.new b l c h0).2;omega
def I2.less{n hi':Nat}(d:I2 ρ n hi)(h:hi'<=hi):I2 ρ n hi':=fun b h1 c=>d b h1 (C9 c h)
def cR(m:Mem)(t:Nat)(op:LOp)(xs:List Value):Lg:=⟨m.lg.nx+1,m.lg.pi,.dt m.lg.nx t op xs::m.lg.log⟩
def L7{t:Nat}{k:Nat->Mem->Res}:qI m t op xs k=k m.lg.nx (m.wLg (cR m t op xs)):=by
 obtain⟨H,n,W,hi,⟨nx,pi,log⟩⟩:=m;simp only[qI,E1,G6];rfl
def CQ{t:Nat}{k:Nat->Mem->Option (D0×Mem)}:U6.letDo t op xs m k=k m.lg.nx (m.wLg (cR m t op xs)):=by
 obtain⟨H,n,W,hi,⟨nx,pi,log⟩⟩:=m;simp only[U6.letDo,E1,G6];rfl
@[simp] theorem Y2(lg:Lg):(m.wLg lg).lg=lg:=by cases m;rfl
@[simp] theorem gM(lg:Lg):(m.wLg lg).H=m.H:=by cases m;rfl
@[simp] theorem MP(lg:Lg):(m.wLg lg).n=m.n:=by cases m;rfl
@[simp] theorem EN(lg:Lg):(m.wLg lg).hi=m.hi:=by cases m;rfl
@[simp] theorem A3M(lg:Lg):(m.wLg lg).W=m.W:=by cases m;rfl
def S1{t:Nat} :m.lg.le (m.wLg (cR m t op xs)).lg:=by
 rw[Y2];exact⟨[_],rfl⟩
def fW{t:Nat}{lg:Lg}(e:Sat lg)(d:(m.wLg (cR m t op xs)).lg.le lg):Ora.env m.lg.nx=evU op (xs.map (D4 Ora.env))/\F3 (Ora.env m.lg.nx)=t/\∃ b wd rows,Ora.env m.lg.nx=.seq b wd rows/\t=10+wd:=by
 obtain⟨h1,c,b,wd,rows,h3⟩:=e _ (d.subset (by rw[Y2];exact B4));exact⟨h1,c,b,wd,rows,h3,by rw[<- c,h3];rfl⟩
def bE{b:Nat}(h:kV m b=true):Hp.get m.H b=some .frz:=by
 unfold kV at h;split at h
 .assumption
 .cases h
def IU{b:Nat}(h:kV m b=true):b<=G2:=by
 unfold kV at h;split at h
 .exact A1 h
 .cases h
def QH{b:Nat}(hr:HR P base ρ m.H w)(h:kV m b=true):∃ l,ρ b=some l:=by
 obtain⟨l,h1,_⟩:=hr.at_ b (IU h) _ (bE h);exact⟨l,h1⟩
def N9{k:Nat->Mem->Option (Value×Nat×Mem)}{r:Value×Nat×Mem}(h:dM m k=some r):∃ m1,W6 m .frz (fun _=>undef)=some (undef,m1)/\k m.n m1=some r/\m1.H=m.H.set m.n (some .frz)/\m.n<=G2/\m1.lg=m.lg:=by
 obtain⟨H,n,W,hi,lg⟩:=m;simp only[dM,E1,bW]at h;obtain⟨h1,b⟩:=A2 h;refine⟨_,?_,b,rfl,A1 h1,rfl⟩;simp only[W6,E1,bW,h1,D7]
def gJ(G:Nat->Option Obj):Loc:=⟨0,0,0,0,G,false⟩
def St.region{G:Nat->Option Obj}(h:HR P base ρ m.H w)(d:W6 m .frz (fun _=>undef)=some (undef,m1))(p:I2 ρ m.n m1.hi)
  (g:∀ k o,G k=some o->w.heap[k]? = some o/\∃ id ab l,id<=G2/\Hp.get m.H id=some ab/\ρ id=some l/\Tf ab l k/\ab.rw=false) :
  upd ρ m.n (gJ G) m.n=some (gJ G)/\Hp.get m1.H m.n=some .frz/\St P base ρ (upd ρ m.n (gJ G)) m m1 w w:=by
 obtain⟨h1,v,h3⟩:=St.new0 (l':=gJ G) h d p ⟨rfl,fun k o hk=>(g k o hk).1⟩ rfl fun q b=>by
  rcases b with⟨b,_⟩|⟨_,o,b⟩
  .cases b
  .obtain⟨g1,id,ab,l,g2,g3,g4,g5,g6⟩:=g q o b;refine⟨⟨id,ab,l,g2,g3,g4,g5⟩,fun r f a l2 c x hr t e=>?_⟩
   have:=((h.atl x c).2 hr t).2 id g2 ab l g3 g4 (e▸g5.2);subst this;rw[g3]at c;have c:=A5 c;subst c;rw[g6]at hr;cases hr
 refine⟨v,?_,h3⟩;obtain⟨hle,_,rfl⟩:=J8 d;show Hp.get (m.H.set m.n (some .frz)) m.n=_;rw[E7 _ _ _ _ hle hle,B2 rfl]
theorem jO{b i t:Nat}{v':Value}(h:VR ρ (dat b i t) v'):∃ l,ρ b=some l/\Enc l.G (Ora.env i) v'/\F3 (Ora.env i)=t/\10<=t:=by
 generalize c:dat b i t=x at h;cases h with
 | dat h he e d f =>
   simp only[dat,Value.func.injEq,X3,I4,Value.pointer.injEq,C7,Addr.mk.injEq,Value.complex.injEq,true_and,and_true]at c;obtain⟨rfl,rfl,rfl⟩:=c;exact⟨_,h,he,e,d⟩
 | pure hp=>subst c;simp[dat,H3]at hp
 | _=>simp[ixp,Go.Sx.dat,Go.Sx.clp,Go.Sx.own,Go.Sx.dpt,Go.Sx.opt,Go.Sx.yv,Go.Sx.sdt]at c
theorem cY{b i t:Nat}{v':Value}(h:VR ρ (clp b i t) v'):∃ l,ρ b=some l/\Enc l.G (Ora.env i) v'/\F3 (Ora.env i)=t/\10<=t/\RQ v':=by
 generalize c:clp b i t=x at h;cases h with
 | clp h he f d g e =>
   simp only[clp,Value.func.injEq,X3,I4,Value.pointer.injEq,C7,Addr.mk.injEq,Value.complex.injEq,true_and,and_true]at c;obtain⟨rfl,rfl,rfl⟩:=c;exact⟨_,h,he,f,d,e⟩
 | pure hp=>subst c;simp[clp,H3]at hp
 | _=>simp[ixp,Go.Sx.dat,Go.Sx.clp,Go.Sx.own,Go.Sx.dpt,Go.Sx.opt,Go.Sx.yv,Go.Sx.sdt]at c
theorem x9{b i t:Nat}{v':Value}(h:VR ρ (own b i t) v'):FM ρ b (Ora.env i) v'/\F3 (Ora.env i)=t:=by
 generalize c:own b i t=x at h;cases h with
 | own h d e =>
   simp only[own,Value.func.injEq,X3,I4,Value.pointer.injEq,C7,Addr.mk.injEq,Value.complex.injEq,true_and,and_true]at c;obtain⟨rfl,rfl,rfl⟩:=c;exact⟨h,d⟩
 | pure hp=>subst c;simp[own,H3]at hp
 | _=>simp[ixp,Go.Sx.dat,Go.Sx.clp,Go.Sx.own,Go.Sx.dpt,Go.Sx.opt,Go.Sx.yv,Go.Sx.sdt]at c
def zG{b t:Nat}{v':Value}(h:VR ρ (dpt b i t z o) v'):A1j ρ b (Ora.env i) (lH Ora.env z) o v'/\F3 (Ora.env i)=t:=by
 generalize c:dpt b i t z o=x at h;cases h with
 | dpt h d e =>
   simp only[dpt,Value.func.injEq,X3,I4,Value.pointer.injEq,C7,Addr.mk.injEq,Value.complex.injEq,Value.int.injEq,gH,true_and,and_true]at c;obtain⟨rfl,⟨rfl,rfl⟩,rfl,rfl⟩:=c;exact⟨h,d⟩
 | pure hp=>subst c;simp[dpt,H3]at hp
 | _=>simp[ixp,Go.Sx.dat,Go.Sx.clp,Go.Sx.own,Go.Sx.dpt,Go.Sx.opt,Go.Sx.yv,Go.Sx.sdt]at c
def qT{b t:Nat}{v':Value}(h:VR ρ (opt b i t z o) v'):A1I ρ b (Ora.env i) (lH Ora.env z) o v'/\F3 (Ora.env i)=t:=by
 generalize c:opt b i t z o=x at h;cases h with
 | opt h d e =>
   simp only[opt,Value.func.injEq,X3,I4,Value.pointer.injEq,C7,Addr.mk.injEq,Value.complex.injEq,Value.int.injEq,gH,true_and,and_true]at c;obtain⟨rfl,⟨rfl,rfl⟩,rfl,rfl⟩:=c;exact⟨h,d⟩
 | pure hp=>subst c;simp[opt,H3]at hp
 | _=>simp[ixp,Go.Sx.dat,Go.Sx.clp,Go.Sx.own,Go.Sx.dpt,Go.Sx.opt,Go.Sx.yv,Go.Sx.sdt]at c
def wX{b c tc g t:Nat}{T:TypeId}{v':Value}(h:HR P base ρ m.H w)(I:Hp.get m.H b=some (.sq c tc T g true))(Q:VR ρ (own b i t) v')(B:tc=t)(y:Hp.get m.H g=some .frz)
  (M:W6 m .frz (fun _=>undef)=some (undef,m1)) (L:I2 ρ m.n m1.hi):∃ l,St P base ρ (upd ρ m.n l) m m1 w w/\upd ρ m.n l m.n=some l/\Hp.get m1.H m.n=some .frz/\Enc l.G (Ora.env c) v'/\F3 (Ora.env c)=t:=by
 obtain⟨A,N⟩:=x9 Q;rcases A with⟨l,wd,h1,D,h3,rfl⟩|⟨l,wd,rows,h1,D,h3,V,O,rfl⟩
 .obtain⟨p,_⟩:=h.atl h1 I;obtain⟨x,inf,K,R,S,d⟩:=SqR.ex p;rcases d with⟨_,d⟩|⟨d,_⟩
  .obtain⟨g1,g2,g3⟩:=St.region (G:=fun _=>none) h M L (fun k o hk=>by cases hk);exact⟨_,g3,g1,g2,by rw[d];exact .nil,by rw[d,<- B,K];rfl⟩
  .rw[D]at d;cases d
 .obtain⟨p,_⟩:=h.atl h1 I;obtain⟨x,inf,K,R,S,d⟩:=SqR.ex p;rcases d with⟨d,_⟩|⟨_,d⟩
  .rw[D]at d;cases d
  .obtain⟨C,fz,F,E,lg,f1,f2,f3,f4,f5,f6,f7,f8,f9⟩:=d;obtain⟨J,_⟩:=h.atl f7 y;have f:∀ k o,lg.G k=some o->w.heap[k]? = some o:=J.2;let G:Nat->Option Obj:=fun k=>if k=l.blk then some (.cells C F fz)else lg.G k
   have q:∀ k o,lg.G k=some o->G k=some o:=fun k o hk=>by
    show(if k=l.blk then _ else _)=_;by_cases e:k=l.blk
    .subst e;rw[B2 rfl]
     have:=f _ _ hk;rw[f1]at this;exact this
    .rw[B1 e];exact hk
   obtain⟨g1,g2,g3⟩:=St.region (G:=G) h M L fun k o hk=>by
    have hk:(if k=l.blk then some (.cells C F fz)else lg.G k)=some o:=hk;by_cases e:k=l.blk
    .subst e;rw[B2 rfl]at hk;exact⟨by rw[f1];exact hk,b,_,l,h.dom _ _ h1,I,h1,⟨rfl,.inl ⟨rfl,D,rfl⟩⟩,rfl⟩
    .rw[B1 e]at hk;exact⟨f _ _ hk,g,_,lg,h.dom _ _ f7,y,f7,⟨rfl,.inr ⟨rfl,o,hk⟩⟩,rfl⟩
   refine⟨_,g3,g1,g2,?_,by rw[f2,<- B,K];rfl⟩;rw[f2,<- f3];refine .sl (G:=G) (C:=C) (T:=F) (fz:=fz) A9 (fun _=>?_) (fun _=>?_) f6 fun r row j u v q1 q2 q3=>(f8 r row j u v q1 q2 q3).mono q
   .show(if l.blk=l.blk then _ else _)=_;rw[B2 rfl]
   .have:=E4 x f4;rw[<- f3]at this;omega
def BR.thaw{c t g:Nat}{T:TypeId}{l:Loc}(h:BR P ρ (.sq c t T g false) l w):BR P ρ (.sq c t T g true) l w:=by
 obtain⟨wd,inf,h1,e,h3,d⟩:=SqR.ex h;refine⟨⟨wd,inf,h1,e,h3,d.imp (fun x=>x) fun⟨b,f⟩=>⟨b,?_⟩⟩⟩;obtain⟨C,fz,k,rows,lg,h1,e,h3,d,f,q,p,n,r⟩:=f;exact⟨C,fz,k,rows,lg,h1,e,h3,d,f,q,p,n,fun h=>by cases h⟩
def sA{id:Nat}{ab:AB}(h:y4 m id ab=some m')(b:j<=G2):Hp.get m'.H j=if j=id then some ab else Hp.get m.H j:=by
 obtain⟨hle,rfl⟩:=R2 h;exact E7 _ _ _ _ hle b
def hJ{ab:AB}{k:Nat->Value}{v:Value}(h:W6 m ab k=some (v,m'))(b:j<=G2):Hp.get m'.H j=if j=m.n then some ab else Hp.get m.H j:=by
 obtain⟨hle,_,rfl⟩:=J8 h;exact E7 _ _ _ _ hle b
def yF{t:Nat}{v v' x:Value}{b:Nat}(h:HR P base ρ m.H w)(d:toD t v m=some (x,b,m'))(F:I2 ρ m.n m'.hi)(D:VR ρ v v')(Y:Sat m'.lg) :
  ∃ ρ' l,St P base ρ ρ' m m' w w/\ρ' b=some l/\Hp.get m'.H b=some .frz/\Enc l.G (D4 Ora.env x) v'/\F3 (D4 Ora.env x)=t/\m.lg.le m'.lg:=by
 unfold toD at d;split at d
 .rename_i M i tg;obtain⟨h1,f⟩:=A2 d;cases f;obtain⟨h1,f⟩:=B3 h1;have h1:=A0 h1;obtain⟨l,y,r,C,J⟩:=jO D;exact⟨ρ,l,St.refl h,y,bE f,r,C.trans h1,.refl _⟩
 .rename_i M i tg;obtain⟨h1,f⟩:=A2 d;cases f;obtain⟨h1,f⟩:=B3 h1;have h1:=A0 h1;obtain⟨l,y,r,C,J,_⟩:=cY D;exact⟨ρ,l,St.refl h,y,bE f,r,C.trans h1,.refl _⟩
 .rename_i M i tg;split at d
  .rename_i c tc T g E;obtain⟨h1,f⟩:=A2 d;obtain⟨h1,h3⟩:=B3 h1;obtain⟨h1,B⟩:=B3 h1;have h1:=A0 h1;have B:=A0 B;obtain⟨m1,q1,q2,_,_,q5⟩:=N9 f;cases q2;subst h1;obtain⟨l,y,r,C,J,Q⟩:=wX h E D B (bE h3) q1 F;exact⟨_,l,y,r,C,J,Q,by rw[q5];exact .refl _⟩
  .rename_i c tc T g E;obtain⟨h1,f⟩:=A2 d;obtain⟨h1,h3⟩:=B3 h1;have O:=IU h3;obtain⟨h1,B⟩:=B3 h1;have h1:=A0 h1;have B:=A0 B;split at f
   .rename_i m1 hs;obtain⟨m2,q1,q2,_,_,q5⟩:=N9 f;cases q2;subst h1;have R:∃ l0,ρ M=some l0:=by
     rcases(x9 D).1 with⟨l,_,h1,_⟩|⟨l,_,_,h1,_⟩<;>exact⟨l,h1⟩
    obtain⟨l0,L⟩:=R;have S:=(h.atl L E).1;have p:=St.same0 h hs E rfl L S.thaw (fun q X=>by
     rcases X with⟨_,a,b⟩|⟨a,_⟩
     .exact .inl ⟨rfl,a,b⟩
     .cases a)
    have hle:=(R2 hs).1;have N:g≠M:=fun e=>by subst e;rw[bE h3]at E;cases E
    have W:Hp.get m1.H M=some (.sq c tc T g true):=by rw[sA hs hle,B2 rfl]
    have I:Hp.get m1.H g=some .frz:=by rw[sA hs O,B1 N];exact bE h3
    have V:m1.n=m.n:=by rw[(R2 hs).2]
    obtain⟨l,y,r,C,J,Q⟩:=wX p.hr W D B I q1 (by rw[V];exact F);refine⟨_,l,St.trans F p y,r,C,J,Q,by rw[q5,(R2 hs).2];exact .refl _⟩
   .cases f
  .cases d
 .obtain⟨K,d⟩:=A2 d;have K:=A1 K;rw[L7]at d;simp only at d;obtain⟨m1,q1,q2,_,_,q5⟩:=N9 d;cases q2;cases M9 D;have A:(m.wLg (cR m t (.nilw (t-10)) [])).lg.le m'.lg:=by rw[q5];exact .refl _
  obtain⟨y,r,_⟩:=fW Y A;have p:=St.wLg h (cR m t (.nilw (t-10)) []);obtain⟨g1,g2,g3⟩:=St.region (G:=fun _=>none) p.hr q1 (by simpa using F) (fun k o hk=>by cases hk);refine⟨_,_,St.trans (by simpa using F) p g3,g1,g2,?_,r,S1.trans A⟩;show Enc _ (Ora.env m.lg.nx) _;rw[y];exact .nil
 .cases d
end
end
section
open Go
variable [Ora]
section
variable {P:Program} {base:Nat} {ρ ρ':Ren} {m m':Mem} {w w':World}
def Z7(ρ:Ren)(m m':Mem):Prop:=∀ j l,ρ j=some l->Hp.get m.H j=some .frz->Hp.get m'.H j=some .frz
def Z7.refl:Z7 ρ m m:=fun _ _ _ h=>h
def Z7.trans(he:∀ b l,ρ b=some l->ρ' b=some l)(a:Z7 ρ m m1)(c:Z7 ρ' m1 m'):Z7 ρ m m':=fun j l h1 d=>c j l (he j l h1) (a j l h1 d)
def Z7.lg(lg:Lg):Z7 ρ m (m.wLg lg):=fun j l _ h=>by rw[gM];exact h
def CS{ab:AB}{k:Nat->Value}{v:Value}(h:HR P base ρ m.H w)(b:W6 m ab k=some (v,m'))(d:I2 ρ m.n m'.hi):Z7 ρ m m':=fun j l h1 c=>by
 rw[hJ b (h.dom j l h1),B1]
 .exact c
 .intro e;subst e;obtain⟨_,_,rfl⟩:=J8 b;rw[d m.n (A6 _) (J2 _ _).2]at h1;cases h1
def PV{ab:AB}{id:Nat}(h:HR P base ρ m.H w)(hs:y4 m id ab=some m')(b:Hp.get m.H id≠some .frz):Z7 ρ m m':=fun j l h1 c=>by
 rw[sA hs (h.dom j l h1),B1]
 .exact c
 .intro e;subst e;exact b c
def AQ{t:Nat}{v x:Value}{b:Nat}(h:HR P base ρ m.H w)(d:toD t v m=some (x,b,m'))(p:I2 ρ m.n m'.hi):Z7 ρ m m':=by
 unfold toD at d;split at d
 .obtain⟨h1,f⟩:=A2 d;cases f;exact .refl
 .obtain⟨h1,f⟩:=A2 d;cases f;exact .refl
 .split at d
  .obtain⟨h1,f⟩:=A2 d;obtain⟨m1,q1,q2,_⟩:=N9 f;cases q2;exact CS h q1 p
  .rename_i c tc T g A;obtain⟨h1,f⟩:=A2 d;split at f
   .rename_i m1 hs;obtain⟨m2,q1,q2,_⟩:=N9 f;cases q2;have hk:=PV h hs (by rw[A];intro h;cases h);intro j l k q;have y:=hk j l k q;rw[hJ q1 (h.dom j l k),B1]
    .exact y
    .intro e;subst e;have r:m1.n=m.n:=by rw[(R2 hs).2]
     obtain⟨_,_,rfl⟩:=J8 q1;rw[p m1.n A9 (J2 _ _).2]at k;cases k
   .cases f
  .cases d
 .obtain⟨B,d⟩:=A2 d;rw[L7]at d;simp only at d;obtain⟨m1,q1,q2,_⟩:=N9 d;cases q2;intro j l k q;rw[hJ q1 (h.dom j l k),B1,gM]
  .exact q
  .intro e;subst e;have r:(m.wLg (cR m t (.nilw (t-10)) [])).n=m.n:=by simp
   obtain⟨_,_,rfl⟩:=J8 q1;rw[p _ A9 (J2 _ _).2]at k;cases k
 .cases d
def W8(R:Nat->Option Obj)(us:List U)(vs:List Value):Prop:=us.length=vs.length/\∀ (i:Nat) (u:U) (v:Value),us[i]? = some u->vs[i]? = some v->Enc R u v
omit [Ora] in
def W8.nil{R:Nat->Option Obj}:W8 R [] []:=⟨rfl,fun i u v h=>by simp at h⟩
omit [Ora] in
def W8.cons{R:Nat->Option Obj}{v:Value}(h:Enc R u v)(k:W8 R us vs):W8 R (u::us) (v::vs):=⟨by simp[k.1],fun i a b h1 c=>by
 cases i with
 | zero=>simp at h1 c;subst h1;subst c;exact h
 | succ i=>exact k.2 i a b (by simpa using h1) (by simpa using c)⟩
def Sub(G R:Nat->Option Obj):Prop:=∀ k o,G k=some o->R k=some o
def dT{t:Nat}{v x:Value}{b:Nat}{m m':Mem}(c:toD t v m=some (x,b,m')):m.hi<=m'.hi/\m.lg.le m'.lg/\m.n<=m'.n:=by
 have e:∀ {m m1:Mem},W6 m .frz (fun _=>undef)=some (undef,m1)->m.hi<=m1.hi/\m.lg.le m1.lg/\m.n<=m1.n:=fun f=>by
  obtain⟨_,_,rfl⟩:=J8 f;exact⟨(J2 _ _).1,.refl _,W9 _⟩
 unfold toD at c;split at c
 .obtain⟨h1,d⟩:=A2 c;cases d;exact⟨A6 _,.refl _,A6 _⟩
 .obtain⟨h1,d⟩:=A2 c;cases d;exact⟨A6 _,.refl _,A6 _⟩
 .split at c
  .obtain⟨h1,d⟩:=A2 c;obtain⟨m1,q1,q2,_⟩:=N9 d;cases q2;exact e q1
  .obtain⟨h1,d⟩:=A2 c;split at d
   .rename_i m1 hs;obtain⟨m2,q1,q2,_⟩:=N9 d;cases q2
    have:=e q1;obtain⟨_,rfl⟩:=R2 hs;exact this
   .cases d
  .cases c
 .obtain⟨g,c⟩:=A2 c;rw[L7]at c;simp only at c;obtain⟨m1,q1,q2,_⟩:=N9 c;cases q2
  have:=e q1;exact⟨by simpa using this.1,S1.trans this.2.1,by simpa using this.2.2⟩
 .cases c
structure uG (P:Program) (td:Td):Prop where
 ok:∀ {base:Nat} {ρ:Ren} {m m':Mem} {w:World} {t:Nat} {v v' x:Value} {b:Nat},HR P base ρ m.H w->td t v m=some (x,b,m')->I2 ρ m.n m'.hi->VR ρ v v'->Sat m'.lg ->
  ∃ ρ' l,St P base ρ ρ' m m' w w/\ρ' b=some l/\Hp.get m'.H b=some .frz/\Enc l.G (D4 Ora.env x) v'/\F3 (D4 Ora.env x)=t/\m.lg.le m'.lg/\Z7 ρ m m'
 mono:∀ {m m':Mem} {t:Nat} {v x:Value} {b:Nat},td t v m=some (x,b,m')->m.hi<=m'.hi/\m.lg.le m'.lg/\m.n<=m'.n
def MU:uG P toD:=⟨fun h b c d e=>let ⟨ρ',l,g,a2,a3,a4,a5,f⟩:=yF h b c d e;⟨ρ',l,g,a2,a3,a4,a5,f,AQ h b c⟩,fun h=>dT h⟩
def P2{f:Td}(d:uG P f):∀ {ts:F9} {vs xs:D0} {gs:F9} {m m':Mem},uK f ts vs m=some (xs,gs,m')->m.hi<=m'.hi/\m.lg.le m'.lg/\m.n<=m'.n
 | [],[],_,_,_,_,h=>by cases h;exact⟨A6 _,.refl _,A6 _⟩
 | t::ts,v::vs,xs,gs,m,m',c=>by
   unfold uK at c;cases e:Nat.blt t 10 with
   | true =>
     rw[e]at c;simp only[D7]at c;obtain⟨h1,c⟩:=A2 c;split at c
     .rename_i hr;cases c;exact P2 d hr
     .cases c
   | false =>
     rw[e]at c;simp only[D3]at c;split at c
     .rename_i g;split at c
      .rename_i hr;cases c;have a:=d.mono g;have b:=P2 d hr;exact⟨B6 a.1 b.1,a.2.1.trans b.2.1,B6 a.2.2 b.2.2⟩
      .cases c
     .cases c
 | [],_::_,_,_,_,_,c=>by cases c
 | _::_,[],_,_,_,_,c=>by cases c
def eN{L:Td}(f:uG P L):∀ {ts:F9} {vs vs' xs:D0} {gs:F9} {m m':Mem} {ρ:Ren},HR P base ρ m.H w->uK L ts vs m=some (xs,gs,m')->I2 ρ m.n m'.hi->LR ρ vs vs'->Sat m'.lg ->
  ∃ ρ',St P base ρ ρ' m m' w w/\m.lg.le m'.lg/\Z7 ρ m m'/\(∀ b ∈ gs,Hp.get m'.H b=some .frz/\∃ l,ρ' b=some l)/\(xs.map (D4 Ora.env)).map F3=ts /\
   ∀ R,(∀ b ∈ gs,∀ l,ρ' b=some l->Sub l.G R)->W8 R (xs.map (D4 Ora.env)) vs'
 | [],[],vs',xs,gs,m,m',ρ,h,c,hf,hv,hS=>by
   cases c;exact⟨ρ,St.refl h,.refl _,.refl,fun b O=>(by cases O),rfl,fun R _=>by rw[hv.nil_inv];exact .nil⟩
 | t::ts,v::vs,vs',xs,gs,m,m',ρ,h,c,hf,hv,hS=>by
   obtain⟨v',r',rfl,g,p⟩:=hv.tail;unfold uK at c;cases K:Nat.blt t 10 with
   | true =>
     rw[K]at c;simp only[D7]at c;obtain⟨h1,c⟩:=A2 c;have h1:=A0 h1;have S:t<10:=A1 K;split at c
     .rename_i r F m2 hr;cases c;obtain⟨ρ2,q,B,x,D,E,J⟩:=eN f h hr hf p hS;obtain⟨f1,f2⟩:=m9 g A9;exact⟨ρ2,q,B,x,D,by simp[f2,h1,E],fun R y=>.cons (.sc f1) (J R y)⟩
     .cases c
   | false =>
     rw[K]at c;simp only[D3]at c;split at c
     .rename_i hh b m1 N;split at c
      .rename_i r F m2 hr;cases c;have e:m1.hi<=m'.hi/\m1.lg.le m'.lg/\m1.n<=m'.n:=P2 f hr;have A:I2 ρ m.n m1.hi:=hf.less e.1;obtain⟨I,l,k,a2,a3,a4,a5,Q,M⟩:=f.ok h N A g (hS.le e.2.1);have C:I2 I m1.n m'.hi:=hf.step k;obtain⟨ρ2,q,B,x,D,E,J⟩:=eN f k.hr hr C (p.mono k.ext) hS;refine⟨ρ2,St.trans hf k q,Q.trans B,M.trans k.ext x,fun b' d=>?_,by simp[a5,E],fun R y=>.cons (a4.mono (y b (.head _) l (q.ext _ _ a2))) (J R fun b' d=>y b' (.tail _ d))⟩;rcases A8.1 d with rfl|d
       .exact⟨x _ l a2 a3,l,q.ext _ _ a2⟩
       .exact D b' d
      .cases c
     .cases c
 | [],_::_,_,_,_,_,_,_,_,c,_,_,_=>by cases c
 | _::_,[],_,_,_,_,_,_,_,c,_,_,_=>by cases c
def cD{gs:F9}{g:Nat}(h:HR P base ρ m.H w)(c:fS gs m=some (g,m'))(q:I2 ρ m.n m'.hi) :
  ∃ ρ' lg,St P base ρ ρ' m m' w w/\m'.lg=m.lg/\Z7 ρ m m'/\ρ' g=some lg/\Hp.get m'.H g=some .frz/\∀ b ∈ gs,∀ l,ρ b=some l->Sub l.G lg.G:=by
 have main:∀ {gs:F9},(bif gs.all (kV m)then match dM m fun b m=>some (undef,b,m)with
  | some (_,b,m)=>some (b,m)
  | none=>none else none)=some (g,m')->∃ ρ' lg,St P base ρ ρ' m m' w w/\m'.lg=m.lg/\Z7 ρ m m'/\ρ' g=some lg/\Hp.get m'.H g=some .frz/\∀ b ∈ gs,∀ l,ρ b=some l->Sub l.G lg.G:=fun{gs} c=>by
  obtain⟨h1,c⟩:=A2 c;split at c
  .rename_i r b m1 x;cases c;obtain⟨m2,q1,q2,_,_,q5⟩:=N9 x;cases q2;have e:∀ b ∈ gs,Hp.get m.H b=some .frz:=fun b d=>bE (D2.1 h1 b d)
   classical
   let G:Nat->Option Obj:=fun k=>if ∃ b ∈ gs,∃ l o,ρ b=some l/\l.G k=some o then w.heap[k]? else none
   obtain⟨g1,g2,g3⟩:=St.region (G:=G) h q1 q fun k o hk=>by
    have hk:(if ∃ b ∈ gs,∃ l o,ρ b=some l/\l.G k=some o then w.heap[k]? else none)=some o:=hk;split at hk
    .rename_i hex;obtain⟨b,d,l,y,t,v⟩:=hex;exact⟨hk,b,_,l,h.dom _ _ t,e b d,t,⟨rfl,.inr ⟨rfl,y,v⟩⟩,rfl⟩
    .cases hk
   refine⟨_,gJ G,g3,q5,CS h q1 q,g1,g2,fun b d l p k o hk=>?_⟩;show(if ∃ b ∈ gs,∃ l o,ρ b=some l/\l.G k=some o then w.heap[k]? else none)=_;rw[B2 ⟨b,d,l,o,p,hk⟩];exact(h.atl p (e b d)).1.2 k o hk
  .cases c
 unfold fS at c;split at c
 .rename_i g0;obtain⟨h1,c⟩:=A2 c;cases c;obtain⟨l,p⟩:=QH h h1;refine⟨ρ,l,St.refl h,rfl,.refl,p,bE h1,fun b d l2 f=>?_⟩;rcases A8.1 d with rfl|d
  .rw[p]at f
   have:=A5 f;subst this;exact fun _ _ h=>h
  .cases d
 .exact main c
omit [Ora] in
def jQ{R:Nat->Option Obj}{v r:Value}(h:Enc R u v)(hr:toV u=some r):v=r:=by
 cases h with
 | sc h=>rw[h]at hr;exact A5 hr
 | nil=>cases hr
 | emp=>cases hr
 | sl=>cases hr
omit [Ora] in
def iL{R:Nat->Option Obj}{v:Value}(h:Enc R u v):j9 v=true:=by
 cases h with
 | sc h=>have:=dS h;cases v<;>first|rfl|cases this
 | nil=>rfl
 | emp=>rfl
 | sl=>rfl
def VK{wd k:Nat}{rows:List (List U)} :evU (.get wd o) [.seq false wd rows,.int kk (.ofNat k)]=(rows.getD k []).getD o .none:=by
 simp[evU]
def getD_some(h:row.getD o .none≠.none):row[o]? = some (row.getD o .none):=by
 rw[B9]at *;cases e:row[o]? with
 | none=>rw[e]at h;exact absurd rfl h
 | some u=>rfl
def cZ{wd o i t g k:Nat}{z:Value}{lg:Loc}{rows:List (List U)}{cell:Nat->N7}(hi:Ora.env i=.seq false wd rows)(D:lH Ora.env z=some (.ofNat k))(B:ρ g=some lg)
  (E:∀ q u,(rows.getD k [])[q]? = some u->∃ v,cell q=some v/\Enc lg.G u v) :
  ∀ {ts:F9} {j:Nat} {m m':Mem} {r:D0},U6 wd o i t z g ts j m=some (r,m')->Sat m'.lg->∃ r',LR ρ r r'/\r'.length=ts.length/\(∀ q v',r'[q]? = some v'->cell (o+j+q)=some v')/\I1 m m'/\m.lg.le m'.lg
 | [],j,m,m',r,h,hS=>by
   cases h;exact⟨[],.nil,rfl,fun q v' h=>by simp at h,.refl _,.refl _⟩
 | tg::ts,j,m,m',r,h,hS=>by
   unfold U6 at h;obtain⟨kk,x⟩:=AE D;have d:[hole i t,z].map (D4 Ora.env)=[.seq false wd rows,.int kk (.ofNat k)]:=by
    simp only[B8,E3,x];show[Ora.env i,_]=_;rw[hi]
   have b:∀ {u:U},u≠.none->evU (.get wd (o+j)) ([hole i t,z].map (D4 Ora.env))=u->∃ v,cell (o+j)=some v/\Enc lg.G u v:=fun{u} hu he=>by
    rw[d,VK]at he;subst he;exact E _ _ (getD_some hu)
   cases F:Nat.blt tg 10 with
   | true =>
     rw[F]at h;simp only[D7]at h;have J:tg<10:=A1 F;split at h
     .rename_i hh m1 C;split at h
      .rename_i r2 m2 hr;cases h;obtain⟨r',n,p,A,y,f⟩:=cZ hi D B E hr hS;obtain⟨u,f1,f2,v,f3,f4,f5⟩:=K3 C (hS.le f);obtain⟨v2,g1,g2⟩:=b (u:=u) (by intro e;subst e;cases f3) f1
       have:=jQ g2 f3;subst this;refine⟨v2::r',.cons (f4 ρ) n,by simp[p],fun q v' c=>?_,(G0 C).trans y,(G3 C).trans f⟩;cases q with
       | zero=>simp at c;subst c;exact g1
       | succ q=>rw[show o+j+(q+1)=o+(j+1)+q by omega];exact A q v' (by simpa using c)
      .cases h
     .cases h
   | false =>
     rw[F]at h;simp only[D3]at h;rw[CQ]at h;split at h
     .rename_i r2 m2 hr;cases h;obtain⟨r',n,p,A,y,f⟩:=cZ hi D B E hr hS;obtain⟨f1,f2,H,I,l,f3,f4⟩:=fW hS f;obtain⟨v2,g1,g2⟩:=b (u:=Ora.env m.lg.nx) (by rw[f3];intro h;cases h) f1.symm;refine⟨v2::r',.cons (.dat B g2 f2 A9 (iL g2)) n,by simp[p],fun q v' c=>?_,I1.trans ⟨_,rfl⟩ y,S1.trans f⟩;cases q with
      | zero=>simp at c;subst c;exact g1
      | succ q=>rw[show o+j+(q+1)=o+(j+1)+q by omega];exact A q v' (by simpa using c)
     .cases h
def eO{t:TypeId}(h:gN P t=some ts):F7 P t=some ts.length:=by
 unfold gN at h;split at h
 .rename_i l n h1 b;obtain⟨h3,h⟩:=A2 h;cases h;rw[b,A0 h3]
 .cases h
def xZ{t:TypeId}{r:D0}{v:Value}{b:Nat}(e:gN P t=some ts)(d:iO P t (some (r,m))=some (v,m'))(g:LR ρ r r')(n:r'.length=ts.length)
  (k:∀ q v',r'[q]? = some v'->w.cell? ⟨b,o+q,none⟩=some v'):m'=m/\∃ v',(Instr.loadAt t (.pointer (some ⟨b,o,none⟩))).run P w=.ok v' w/\VR ρ v v':=by
 unfold iO at d;split at d
 .rename_i c heq;cases d;cases heq;obtain⟨v',r2,rfl,l,p⟩:=g.tail;refine⟨rfl,v',?_,l⟩
  have:=k 0 v' rfl;simp[Instr.loadAt,Instr.sureAddr,loadVar,A3,o7 c,Result.andThen,run_load,show w.cell? ⟨b,o,none⟩=some v' from by simpa using this]
 .rename_i c heq;cases d;cases heq;refine⟨rfl,.agg ⟨r'⟩,?_,.agg g.1 g.2⟩;have f:F7 P t=some r'.length:=by rw[n];exact eO e
  simp[Instr.loadAt,Instr.sureAddr,loadVar,A3,o7 c,J1 f,Result.andThen,I5 rfl k]
 .cases d
def PN{t:TypeId}{x x' v:Value}(h:HR P base ρ m.H w)(f:CP P m t x=some (v,m'))(Y:VR ρ x x')(W:Sat m'.lg):(∃ r,(Instr.loadAt t x').run P w=.ok r w/\VR ρ v r)/\I1 m m'/\m.lg.le m'.lg:=by
 have F:∀ {r:Option (D0×Mem)},iO P t r=some (v,m')->∃ vs,r=some (vs,m'):=fun{r} J=>by
  unfold iO at J;split at J
  .cases J;exact⟨_,rfl⟩
  .cases J;exact⟨_,rfl⟩
  .cases J
 unfold CP at f;split at f
 .rename_i b i tg z o ts A;obtain⟨h1,f⟩:=A2 f;obtain⟨⟨l,wd,rows,a,s,c,k,M,K,N,O,L,e6,rfl⟩,X⟩:=zG Y;obtain⟨vs,hr⟩:=F f;rw[hr]at f;have B:tg-10=wd:=by rw[<- X,K];simp[F3]
  rw[B]at hr;have S:=(h.atl M (bE h1)).1.2;rw[K]at N;obtain⟨C,T,fz,f1,f2,f3,f4⟩:∃ C T fz,l.G a=some (.cells C T fz)/\s+rows.length*wd<=C.size/\(∀ row ∈ rows,row.length=wd)/\∀ (r:Nat) (row:List U) (j:Nat) (u:U) (v:Value),rows[r]? = some row->row[j]? = some u->C[s+r*wd+j]? = some v->Enc l.G u v:=by
   have y:rows≠[]:=by intro e;subst e;simp at L
   cases N with
   | sc h=>cases h
   | emp=>exact absurd rfl y
   | sl hc R Z hw hh=>exact⟨_,_,_,R y,Z y,hw,hh⟩
  have D:=S _ _ f1;have d:rows[k]? = some rows[k]:=A4 L;obtain⟨r',g1,g2,g3,g4,g5⟩:=cZ (cell:=fun q=>w.cell? ⟨a,s+k*wd+q,none⟩) K O M (fun q u n=>by
   rw[B9,d]at n;have n:rows[k][q]? = some u:=n;have E:=(A7.1 n).1;rw[f3 _ (D6 d)]at E;have hk:(k+1)*wd<=rows.length*wd:=E4 wd L;rw[G1]at hk;have p:s+k*wd+q<C.size:=A9;refine⟨C[s+k*wd+q],?_,f4 k _ q u _ d n (E0 p)⟩;simp[World.cell?,D,E0 p]) hr W
  obtain⟨_,q1⟩:=xZ (w:=w) (b:=a) (o:=s+k*wd+o) A f g1 g2 (fun q v' n=>by
   have:=g3 q v' n;rw[show s+k*wd+o+q=s+k*wd+(o+0+q) by omega];exact this)
  exact⟨q1,g4,g5⟩
 .rename_i b i tg z o ts A;split at f
  .rename_i c tc T g ro R;obtain⟨h1,f⟩:=A2 f;have h1:=A0 h1;subst h1;obtain⟨⟨l,wd,BG,k,M,K,N,O,L,e6,rfl⟩,X⟩:=qT Y;obtain⟨vs,hr⟩:=F f;rw[hr]at f;obtain⟨I,inf,d1,d2,d3,d4⟩:=SqR.ex (h.atl M R).1;rcases d4 with⟨d4,_⟩|⟨_,d4⟩
   .rw[K]at d4;cases d4
   obtain⟨C,fz,T',rows,lg,f1,f2,f3,f4,f5,f6,f7,f8,f9⟩:=d4;have B:tc-10=I:=A9;rw[B]at hr;have V:k<rows.length:=A9;have d:rows[k]? = some rows[k]:=A4 V;have Q:wd=I:=by
    have:F3 (Ora.env i)=10+wd:=by rw[N];rfl
    omega
   subst Q;obtain⟨r',g1,g2,g3,g4,g5⟩:=cZ (cell:=fun q=>w.cell? ⟨l.blk,l.sh+k*wd+q,none⟩) f2 O f7 (fun q u n=>by
    rw[B9,d]at n;have n:rows[k][q]? = some u:=n;have E:=(A7.1 n).1;rw[f6 _ (D6 d)]at E;have hk:(k+1)*wd<=l.cap*wd:=E4 wd A9;rw[G1]at hk;have p:l.sh+k*wd+q<C.size:=A9;refine⟨C[l.sh+k*wd+q],?_,f8 k _ q u _ d n (E0 p)⟩;simp[World.cell?,f1,E0 p]) hr W
   obtain⟨_,q1⟩:=xZ (w:=w) (b:=l.blk) (o:=l.sh+k*wd+o) A f g1 g2 (fun q v' n=>by
    have:=g3 q v' n;rw[show l.sh+k*wd+o+q=l.sh+k*wd+(o+0+q) by omega];exact this)
   exact⟨q1,g4,g5⟩
  .cases f
 .cases f
end
end
section
open Go
variable [Ora]
section
variable {P:Program} {base:Nat} {ρ ρ':Ren} {m m':Mem} {w w':World}
def at0(a:Nat):Ren:=fun _=>some (lc a 0 0)
def MC{a s n c:Nat}(h:n<=c):VR (at0 a) (.slice (some ⟨0,s,none⟩) n (K9+1)) (.slice (some ⟨a,s,none⟩) n c) :=
 VR.op (ρ:=at0 a) (b:=0) (o:=s) (n:=n) (m:=K9+1) (m':=c) (l:=lc a 0 0) rfl (by unfold K9;omega) h (fun h=>by unfold K9 at h;omega)
def JZ{a s:Nat}:VR (at0 a) (.pointer (some ⟨0,s,none⟩)) (.pointer (some ⟨a,s,none⟩)):=VR.ptr (ρ:=at0 a) (b:=0) (o:=s) (l:=lc a 0 0) rfl
def pL{t e:TypeId}{a s n c z sz:Nat}{k:IntKind}(hu:P.underlying t=some (.slice e))(hs:F7 P e=some sz)(f:z<n)(g:n<=c)(w:World) :
  (Instr.indexAt t (.slice (some ⟨a,s,none⟩) n c) (.int k (.ofNat z))).run P w=.ok (.pointer (some ⟨a,s+z*sz,none⟩)) w:=by
 have d:Nat.blt z n=true:=C4 f;have hm:U4 P t (.slice (some ⟨0,s,none⟩) n (K9+1)) (.int k (.ofNat z))=some (.pointer (some ⟨0,s+z*sz,none⟩)):=by
  simp only[U4,hu,hs,d,D7,v7,E1]
 obtain⟨v',g1,g2⟩:=y9 (P:=P) hm (MC (a:=a) g) (.pure rfl) w;obtain⟨l2,b,_,rfl⟩:=L1 g2;cases b;exact g1
def mC{t e:TypeId}{a s n z sz:Nat}{k:IntKind}(hu:P.underlying t=some (.array n e))(hs:F7 P e=some sz)(d:z<n)(w:World) :
  (Instr.indexAt t (.pointer (some ⟨a,s,none⟩)) (.int k (.ofNat z))).run P w=.ok (.pointer (some ⟨a,s+z*sz,none⟩)) w:=by
 have c:Nat.blt z n=true:=C4 d;have hm:U4 P t (.pointer (some ⟨0,s,none⟩)) (.int k (.ofNat z))=some (.pointer (some ⟨0,s+z*sz,none⟩)):=by
  simp only[U4,hu,hs,c,D7,v7,E1]
 obtain⟨v',g1,g2⟩:=y9 (P:=P) hm (JZ (a:=a)) (.pure rfl) w;obtain⟨l2,b,_,rfl⟩:=L1 g2;cases b;exact g1
def pN{a z:Nat}{c:Array Field}{f:Field}(hu:P.underlying s=some (.struct c))(d:c.toList[i]? = some f)(e:F7 P f.type=some (z+1))(w:World) :
  (Instr.fieldAt s (.pointer (some ⟨a,o,none⟩)) i).run P w=.ok (.pointer (some ⟨a,o+f.offset,none⟩)) w:=by
 have hm:aB P s (.pointer (some ⟨0,o,none⟩)) i=some (.pointer (some ⟨0,o+f.offset,none⟩)):=by
  simp only[aB,hu,d,e,v7,E1]
 obtain⟨v',g1,g2⟩:=iH (P:=P) hm (JZ (a:=a)) w;obtain⟨l2,b,_,rfl⟩:=L1 g2;cases b;exact g1
def zI{t wd:Nat}{e:Bool}{rows:List (List U)}{k v:Value}(h:CZ m i t z k=some (v,m'))(hi:Ora.env i=.seq e wd rows)(J:t=10+wd)(G:VR ρ z z')(D:Sat m'.lg) :
  v=k/\(∃ kk n,z'=.int kk (.ofNat n)/\n<rows.length/\lH Ora.env z=some (.ofNat n))/\I1 m m'/\m.lg.le m'.lg:=by
 unfold CZ at h;cases A:!(Nat.blt (F5 z) 8)with
 | true=>rw[A]at h;cases h
 | false =>
   have F:F5 z<8:=by
    have:Nat.blt (F5 z) 8=true:=by simpa using A
    exact A1 this
   rw[A]at h;simp only[D3]at h;split at h
   .rename_i b H n W hh lg B;split at h
    .rename_i l C;cases h;have f:=G3 B;have c:=cJ C;obtain⟨u,g,I,r,q,E,_⟩:=K3 B (M5.le D c);have p:=iN C (E ρ) D;subst p;obtain⟨kk,y,rfl,f2,_⟩:=K5 G F;have d:[z,hole i t].map (D4 Ora.env)=[.int kk y,.seq e wd rows]:=by
      simp only[B8,E3,f2];show[_,Ora.env i]=_;rw[hi]
     rw[d]at g;have g:(if wd=t-10 then U.bool (decide (0<=y) && decide (y<rows.length))else U.none)=u:=g;rw[B2 A9]at g;subst g;have q:some (Value.bool (decide (0<=y) && decide (y<rows.length)))=some (.bool true):=q;have x:(decide (0<=y) && decide (y<rows.length))=true:=by simpa using q
     simp only[H6,decide_eq_true_eq]at x;obtain⟨n0,rfl⟩:∃ n0:Nat,y=.ofNat n0:=⟨y.toNat,by have:=Int.toNat_of_nonneg x.1;exact this.symm⟩;refine⟨rfl,⟨kk,n0,rfl,?_,KB f2⟩,I1.trans (G0 B) ⟨l,rfl⟩,f.trans c⟩
     have:=x.2;have:(n0:Int)<rows.length:=this;omega
    .cases h
   .cases h
def A0b{G:Nat->Option Obj}{b:Bool}{wd:Nat}{rows:List (List U)}{v:Value}(h:Enc G (.seq b wd rows) v)(hr:rows≠[]):b=false/\∃ a o c,v=.slice (some ⟨a,o,none⟩) rows.length c/\rows.length<=c:=by
 cases h with
 | sc h=>cases h
 | nil=>exact absurd rfl hr
 | emp=>exact absurd rfl hr
 | sl d _ _ _ _=>exact⟨rfl,_,_,_,rfl,d⟩
def FE{t:Nat}(h:F3 u=t)(d:10<=t):u=.none∨∃ c wd rows,u=.seq c wd rows/\t=10+wd:=by
 cases u with
 | none=>exact .inl rfl
 | int k n=>have:=J9 k;simp[F3]at h;omega
 | bool b=>simp[F3]at h;omega
 | str s=>simp[F3]at h;omega
 | seq c wd rows=>exact .inr ⟨c,wd,rows,rfl,h.symm⟩
def dC{G:Nat->Option Obj}{v:Value}{t:Nat}(h:Enc G u v)(d:F3 u=t)(b:10<=t):∃ c wd rows,u=.seq c wd rows/\t=10+wd:=by
 rcases FE d b with rfl|h1
 .cases h with
  | sc h=>cases h
 .exact h1
def xF{t e:TypeId}{b s:Nat}{l:Loc}{v v':Value}(hu:P.underlying t=some (.slice e))(hs:F7 P e=some (s+1))(B:tg=10+(s+1))(h1:ρ b=some l)(d:Enc l.G (Ora.env i) v')(h3:F3 (Ora.env i)=tg)
  (h:CZ m i tg z (dpt b i tg z 0)=some (v,m')) (C:VR ρ z z') (A:Sat m'.lg):(∃ r,(Instr.indexAt t v' z').run P w=.ok r w/\VR ρ v r)/\I1 m m'/\m.lg.le m'.lg:=by
 obtain⟨y,wd,rows,f,x⟩:=dC d h3 A9;obtain⟨rfl,⟨kk,n,rfl,k,q⟩,g1,g2⟩:=zI h f x C A;have p:wd=s+1:=A9;subst p;have g:rows≠[]:=by intro e;subst e;simp at k
 rw[f]at d;obtain⟨rfl,a,o,c,rfl,D⟩:=A0b d g;refine⟨⟨_,pL hu hs k D w,.dpt ⟨l,s+1,rows,a,o,c,n,h1,f,by rw[f];exact d,q,k,A9,by simp⟩ h3 rfl⟩,g1,g2⟩
def CX{t:TypeId}{x x' v:Value}(h:iE P m t x z=some (v,m'))(E:VR ρ x x')(B:VR ρ z z')(G:Sat m'.lg):(∃ r,(Instr.indexAt t x' z').run P w=.ok r w/\VR ρ v r)/\I1 m m'/\m.lg.le m'.lg:=by
 unfold iE at h;split at h
 .rename_i e b i tg hu;split at h
  .rename_i s hs;obtain⟨f,h⟩:=A2 h;have f:=A0 f;obtain⟨D,d⟩:=x9 E;rcases D with⟨l,wd,h1,A,h3,rfl⟩|⟨l,wd,rows,h1,A,h3,O,H,rfl⟩
   .obtain⟨_,⟨kk,n,_,M,_⟩,_⟩:=zI h h3 (by rw[h3]at d;exact d.symm) B G;simp at M
   .have p:tg=10+wd:=by rw[h3]at d;exact d.symm
    obtain⟨rfl,⟨kk,n,rfl,M,K⟩,g1,g2⟩:=zI h h3 p B G;have g:wd=s+1:=A9;subst g;exact⟨⟨_,pL hu hs A9 H w,.opt ⟨l,s+1,rows,n,h1,A,h3,K,A9,A9,by simp⟩ d rfl⟩,g1,g2⟩
  .cases h
 .rename_i e b i tg hu;split at h
  .rename_i s hs;obtain⟨f,h⟩:=A2 h;have f:=A0 f;obtain⟨l,h1,A,h3,_⟩:=jO E;exact xF hu hs f h1 A h3 h B G
  .cases h
 .rename_i e b i tg hu;split at h
  .rename_i s hs;obtain⟨f,h⟩:=A2 h;have f:=A0 f;obtain⟨l,h1,A,h3,_⟩:=cY E;exact xF hu hs f h1 A h3 h B G
  .cases h
 .rename_i n e b i tg y o hu;split at h
  .rename_i s kk k hs;obtain⟨hk,h⟩:=A2 h;obtain⟨hk,hw⟩:=B3 hk;have hk:=A1 hk;have hw:o+k*s<tg-10:=A1 hw;rw[E1]at h;cases h;cases H8 B;obtain⟨⟨l,wd,rows,a,s0,c,q,L,p,F,I,J,N,rfl⟩,C⟩:=zG E;have g:tg-10=wd:=by rw[<- C,p];simp[F3]
   refine⟨⟨_,mC hu hs hk w,.dpt ⟨l,wd,rows,a,s0,c,q,L,p,F,I,J,A9,by simp⟩ C rfl⟩,.refl _,.refl _⟩
  .cases h
 .rename_i n e b i tg y o hu;split at h
  .rename_i s kk k hs;obtain⟨hk,h⟩:=A2 h;obtain⟨hk,hw⟩:=B3 hk;have hk:=A1 hk;have hw:o+k*s<tg-10:=A1 hw;rw[E1]at h;cases h;cases H8 B;obtain⟨⟨l,wd,rows,q,L,p,F,I,J,N,rfl⟩,C⟩:=qT E;have g:tg-10=wd:=by rw[<- C,F];simp[F3]
   refine⟨⟨_,mC hu hs hk w,.opt ⟨l,wd,rows,q,L,p,F,I,J,A9,by simp⟩ C rfl⟩,.refl _,.refl _⟩
  .cases h
 .cases h
def DN{x x' v:Value}{f:Nat}(h:iI P m s x f=some (v,m'))(C:VR ρ x x'):(∃ r,(Instr.fieldAt s x' f).run P w=.ok r w/\VR ρ v r)/\m'=m:=by
 unfold iI at h;split at h
 .rename_i D b i tg y o hu;split at h
  .rename_i fd k;split at h
   .rename_i z A;obtain⟨hw,h⟩:=A2 h;have hw:o+fd.offset<tg-10:=A1 hw;rw[E1]at h;cases h;obtain⟨⟨l,wd,rows,a,s0,c,q,B,e,g,n,t,E,rfl⟩,d⟩:=zG C;have p:tg-10=wd:=by rw[<- d,e];simp[F3]
    exact⟨⟨_,pN hu k A w,.dpt ⟨l,wd,rows,a,s0,c,q,B,e,g,n,t,A9,by simp⟩ d rfl⟩,rfl⟩
   .cases h
  .cases h
 .rename_i D b i tg y o hu;split at h
  .rename_i fd k;split at h
   .rename_i z A;obtain⟨hw,h⟩:=A2 h;have hw:o+fd.offset<tg-10:=A1 hw;rw[E1]at h;cases h;obtain⟨⟨l,wd,rows,q,B,e,g,n,t,E,rfl⟩,d⟩:=qT C;have p:tg-10=wd:=by rw[<- d,g];simp[F3]
    exact⟨⟨_,pN hu k A w,.opt ⟨l,wd,rows,q,B,e,g,n,t,A9,by simp⟩ d rfl⟩,rfl⟩
   .cases h
  .cases h
 .cases h
end
end
section
open Go
variable [Ora]
section
variable {P:Program} {base:Nat} {ρ ρ':Ren} {m m':Mem} {w w':World}
def l7{G:Nat->Option Obj}{b:Bool}{wd:Nat}{rows:List (List U)}{v:Value}(h:Enc G (.seq b wd rows) v):(b=true/\rows=[]/\v=.slice none 0 0)∨(b=false/\∃ (a:Addr) (c:Nat),v=.slice (some a) rows.length c/\rows.length<=c):=by
 cases h with
 | sc h=>cases h
 | nil=>exact .inl ⟨rfl,rfl,rfl⟩
 | emp=>exact .inr ⟨rfl,_,_,rfl,A6 _⟩
 | sl d _ _ _ _=>exact .inr ⟨rfl,_,_,rfl,d⟩
def gS{t e:TypeId}{a:Option Addr}{n c:Nat}(hu:P.underlying t=some (.slice e))(w:World):(Builtin.len_ ⟨t::tys⟩ ty #[.slice a n c]).run P w=.ok (.int .i64 n) w:=by
 simp[Builtin.len_,A3,C8 hu,Result.andThen,goInt]
def UT{t:Nat}{v:Value}{c:Bool}{wd:Nat}{rows:List (List U)}(h:Q2 m 3 .len [hole i t]=some (v,m'))(hi:Ora.env i=.seq c wd rows)(e:Sat m'.lg):VR ρ v (.int .i64 rows.length)/\I1 m m'/\m.lg.le m'.lg/\D4 Ora.env v=.int .i64 rows.length:=by
 obtain⟨u,d,k,r,g,f,l⟩:=K3 h e;have b:[hole i t].map (D4 Ora.env)=[.seq c wd rows]:=by
  show[Ora.env i]=_;rw[hi]
 rw[b]at d;have d:U.int .i64 rows.length=u:=d;subst d;cases g;refine⟨f ρ,G0 h,G3 h,?_⟩;obtain⟨rfl,rfl⟩:=fA h;obtain⟨h1,n,h3⟩:=e (.lt m.lg.nx 3 .len [hole i t]) (by cases m;exact B4);show Ora.env m.lg.nx=_;rw[h1,b];rfl
def iG{i j:Nat}:∀ {l:List U0},nE i l=some j->∃ tg,U0.lt j 3 .len [hole i tg] ∈ l
 | [],h=>by cases h
 | e::r,h=>by
   unfold nE at h;split at h
   .cases h
   .rename_i f t k tg r' he;cases he;cases d:Nat.beq k i && Nat.beq t 3 with
    | true =>
      rw[d]at h;cases h;obtain⟨h1,c⟩:=B3 d;have h1:=A0 h1;have c:=A0 c;subst h1;subst c;exact⟨tg,.head _⟩
    | false =>
      rw[d]at h;obtain⟨b,h3⟩:=iG h;exact⟨b,.tail _ h3⟩
   .rename_i he;cases he;obtain⟨b,h3⟩:=iG h;exact⟨b,.tail _ h3⟩
def v8{t:Nat}{v:Value}(h:zD m i t=some (v,m')):I1 m m'/\m.lg.le m'.lg:=by
 unfold zD at h;split at h
 .cases h;exact⟨I1.refl _,.refl _⟩
 .exact⟨G0 h,G3 h⟩
def iC{t:Nat}{v:Value}{c:Bool}{wd:Nat}{rows:List (List U)}(h:zD m i t=some (v,m'))(hi:Ora.env i=.seq c wd rows)(d:Sat m'.lg):VR ρ v (.int .i64 rows.length)/\I1 m m'/\m.lg.le m'.lg/\D4 Ora.env v=.int .i64 rows.length:=by
 unfold zD at h;split at h
 .rename_i j e;cases h;obtain⟨tg,hm⟩:=iG e;obtain⟨h1,f,_⟩:=d _ hm;have b:[hole i tg].map (D4 Ora.env)=[.seq c wd rows]:=by
   show[Ora.env i]=_;rw[hi]
  rw[b]at h1;have h1:Ora.env j=.int .i64 rows.length:=h1;refine⟨.hole ?_ ?_,I1.refl _,.refl _,h1⟩
  .rw[h1];rfl
  .rw[h1];rfl
 .exact UT h hi d
def LG{b:Nat}{v':Value}(h:FM ρ b u v'):∃ d wd rows a c,u=.seq d wd rows/\v'=.slice a rows.length c:=by
 rcases h with⟨l,wd,h1,f,h3,rfl⟩|⟨l,wd,rows,h1,f,h3,g,e,rfl⟩
 .exact⟨_,_,_,_,_,h3,rfl⟩
 .exact⟨_,_,_,_,_,h3,by rw[g]⟩
def UU{t:TypeId}{x x' v:Value}(h:UV P m t x=some (v,m'))(p:VR ρ x x')(n:Sat m'.lg):(∃ r,(Builtin.len_ ⟨t::tys⟩ ty #[x']).run P w=.ok r w/\VR ρ v r)/\I1 m m'/\m.lg.le m'.lg:=by
 unfold UV at h;split at h
 .rename_i e b i tg hu;obtain⟨l,h1,d,h3,k⟩:=jO p;obtain⟨g,wd,rows,f,_⟩:=dC d h3 k;obtain⟨g1,g2,g3,_⟩:=iC (ρ:=ρ) h f n;rw[f]at d;rcases l7 d with⟨rfl,rfl,rfl⟩|⟨rfl,a,c,rfl,_⟩
  .exact⟨⟨_,gS hu w,g1⟩,g2,g3⟩
  .exact⟨⟨_,gS hu w,g1⟩,g2,g3⟩
 .rename_i e b i tg hu;obtain⟨l,h1,d,h3,k,_⟩:=cY p;obtain⟨g,wd,rows,f,_⟩:=dC d h3 k;obtain⟨g1,g2,g3,_⟩:=iC (ρ:=ρ) h f n;rw[f]at d;rcases l7 d with⟨rfl,rfl,rfl⟩|⟨rfl,a,c,rfl,_⟩
  .exact⟨⟨_,gS hu w,g1⟩,g2,g3⟩
  .exact⟨⟨_,gS hu w,g1⟩,g2,g3⟩
 .rename_i e b i tg hu;obtain⟨g,wd,rows,a,c,f,rfl⟩:=LG (x9 p).1;obtain⟨g1,g2,g3,_⟩:=iC (ρ:=ρ) h f n;exact⟨⟨_,gS hu w,g1⟩,g2,g3⟩
 .cases h
def wR{v v':Value}{n:Nat}(c:VR ρ v v')(d:sY v=true)(b:D4 Ora.env v=.int kk (.ofNat n)):∃ j,v'=.int j (.ofNat n):=by
 obtain⟨k,z,rfl,f2,_⟩:=K5 c (A1 d);rw[f2]at b;injection b with _ hb
 exact⟨k,by rw[hb]⟩
def OB{h x d x':Value}(hs:HO h x=true)(h1:VR ρ h d)(e:VR ρ x x'):d=x':=by
 unfold HO at hs;split at hs
 .rename_i i t1 j t2
  have:=A0 hs;subst this;have hh:∀ {t:Nat} {v:Value},VR ρ (.complex .f64 i t) v->toV (Ora.env i)=some v:=fun{t v} h=>by
   cases h with
   | pure hp=>simp[H3]at hp
   | hole h _=>exact h
  have a:=hh h1;rw[hh e]at a;exact(A5 a).symm
 .obtain⟨c,b⟩:=B3 hs;have c:=dX c;rw[dB]at b;have b:=eq_of_beq b;subst c;subst b;cases H8 h1;cases H8 e;rfl
 .cases hs
def QS{wd v:Nat}{d:Bool}{rows:List (List U)}{a b:U}(c:evU (.subs wd) [.seq d v rows,a,b]≠.none):∃ g l f h,a=.int g (.ofNat l)/\b=.int f (.ofNat h)/\v=wd/\l<=h/\h<=rows.length:=by
 cases a with
 | int g k=>cases k with
   | ofNat l=>cases b with
     | int f z2=>cases z2 with
       | ofNat h =>
         have c:(if v=wd/\l<=h/\h<=rows.length then U.seq d wd ((rows.drop l).take (h-l))else .none)≠.none:=c;by_cases e:v=wd/\l<=h/\h<=rows.length
         .exact⟨g,l,f,h,rfl,rfl,e.1,e.2.1,e.2.2⟩
         .rw[B1 e]at c;exact(c rfl).elim
       | negSucc _=>exact(c rfl).elim
     | _=>exact(c rfl).elim
   | negSucc _=>exact(c rfl).elim
 | _=>exact(c rfl).elim
def VP{G:Nat->Option Obj}{p:Bool}{wd l h mm n c:Nat}{rows:List (List U)}{a:Option Addr}(he:Enc G (.seq p wd rows) (.slice a n c))(J:l<=h)(hh:h<=rows.length)(hm:h<=mm)(D:mm<=c) :
  Enc G (.seq p wd ((rows.drop l).take (h-l))) (.slice (if mm=l then a else a.map (·.add (l*wd))) (h-l) (mm-l))∨a=none:=by
 cases he with
 | sc h=>cases h
 | nil=>exact .inr rfl
 | emp =>
   rename_i a;have f:h=0:=by simpa using hh
   subst f;have g:l=0:=A9;subst g;have E:mm=0:=A9;subst E;exact .inl .emp
 | sl K F I hw q =>
   rename_i a o C T fz;refine .inl ?_;have hlen:((rows.drop l).take (h-l)).length=h-l:=by simp;omega
   have key:∀ b x,(h-l≠0->b=a/\x=o+l*wd)->Enc G (.seq false wd ((rows.drop l).take (h-l))) (.slice (some ⟨b,x,none⟩) (h-l) (mm-l)):=fun b x B=>by
    have y:∀ r row,((rows.drop l).take (h-l))[r]? = some row->h-l≠0/\rows[l+r]? = some row:=fun r row hr=>by
     have k:=(A7.1 hr).1;rw[hlen]at k;rw[F0 k,G5]at hr;exact⟨A9,hr⟩
    have d:(rows.drop l).take (h-l)≠[]->h-l≠0/\rows≠[]:=fun d=>by
     constructor
     .intro e;rw[e]at d;simp at d
     .intro e;subst e;simp at d
    have:=Enc.sl (G:=G) (w:=wd) (rows:=(rows.drop l).take (h-l)) (a:=b) (o:=x) (c:=mm-l) (C:=C) (T:=T) (fz:=fz) A9
     (fun A=>by obtain⟨f,g⟩:=d A;rw[(B f).1];exact F g)
     (fun A=>by
       obtain⟨f,g⟩:=d A;rw[hlen,(B f).2];have h1:=I g;have H:(l+(h-l))*wd<=rows.length*wd:=E4 wd A9;rw[G1]at H;omega)
     (fun row hr=>hw row (List.mem_of_mem_drop (List.mem_of_mem_take hr)))
     (fun r row j u v q1 q2 q3=>by
       obtain⟨f,g⟩:=y r row q1;rw[(B f).2]at q3;refine q (l+r) row j u v g q2 ?_;rw[G1,show o+(l*wd+r*wd)+j=o+l*wd+r*wd+j by omega];exact q3)
    rw[hlen]at this;exact this
   by_cases t:mm=l
   .rw[B2 t];exact key a o fun h=>by omega
   .rw[B1 t];have e:(Addr.mk a o none).add (l*wd)=⟨a,o+l*wd,none⟩:=by
     unfold Addr.add;split
     .rename_i h;rw[h];rfl
     .rfl
    show Enc G _ (.slice (some ((Addr.mk a o none).add (l*wd))) _ _);rw[e];exact key a (o+l*wd) fun _=>⟨rfl,rfl⟩
def zT{t e:TypeId}{b s:Nat}{l:Loc}{hi:N7}{v x':Value}(hu:P.underlying t=some (.slice e))(hs:F7 P e=some s)(aj:tg=10+s)(h1:ρ b=some l)(F:Enc l.G (Ora.env i) x')(h3:F3 (Ora.env i)=tg)
  (ay:cl=true->RQ x') (h:DT m b i tg cl lo hi mx=some (v,m')) (O:OR ρ lo lo') (T:OR ρ hi hi') (L:OR ρ mx mx') (hS:Sat m'.lg):(∃ r,(Instr.sliceAt t x' lo' hi' mx').run P w=.ok r w/\VR ρ v r)/\I1 m m'/\m.lg.le m'.lg:=by
 have d:∀ {o:N7},OR ρ none o->o=none:=fun{o} h=>by cases o<;>first|rfl|exact h.elim
 have f:∀ {y:Value} {o:N7},OR ρ (some y) o->∃ Y,o=some Y/\VR ρ y Y:=fun{y o} h=>by cases o<;>first|exact h.elim|exact⟨_,rfl,h⟩
 obtain⟨K,wd,rows,e1,e2⟩:=dC F h3 A9;have az:wd=s:=A9;subst az;rw[e1]at F;obtain⟨a,n,c,av,hn,ai⟩:∃ a n c,x'=.slice a n c/\n=rows.length/\n<=c:=by
  rcases l7 F with⟨rfl,rfl,rfl⟩|⟨rfl,a,c,rfl,hc⟩
  .exact⟨_,_,_,rfl,rfl,A6 _⟩
  .exact⟨_,_,_,rfl,rfl,hc⟩
 subst av;have go:∀ {m:Mem} {A g:Value} {M:Bool} {E:N7} {hh mm:Nat},dD m b i tg A g M=some (v,m') ->
   (E=none/\A=.int .i64 0∨∃ y,E=some y/\VR ρ A y)->(∀ kk q,D4 Ora.env g=.int kk (.ofNat q)->q<=rows.length->q=hh/\Bd mx' c c mm/\(hi'=none->mx'=none)/\Bd hi' mm n hh/\hh<=mm/\(M=true->mm=hh)) ->
   (∃ r,(Instr.sliceAt t (.slice a n c) E hi' mx').run P w=.ok r w/\VR ρ v r)/\I1 m m'/\m.lg.le m'.lg:=fun{m A g M E hh mm} h C au=>by
  unfold dD at h;obtain⟨hint,h⟩:=A2 h;obtain⟨aw,an⟩:=B3 hint;rw[L7]at h;simp only[C7,J0]at h;obtain⟨rfl,rfl⟩:=h;obtain⟨f1,f2,ao,al,ar,f3,f4⟩:=fW hS (.refl _);have R:[hole i tg,A,g].map (D4 Ora.env)=[.seq K wd rows,D4 Ora.env A,D4 Ora.env g]:=by
   show[Ora.env i,_,_]=_;rw[e1]
  rw[R]at f1;have aq:tg-10=wd:=A9;rw[aq]at f1;obtain⟨X,l0,Q,h0,a1,a2,a3,a4⟩:∃ X l0 Q h0,D4 Ora.env A=.int X (.ofNat l0)/\D4 Ora.env g=.int Q (.ofNat h0)/\l0<=h0/\h0<=rows.length:=by
   have Z:evU (.subs wd) [.seq K wd rows,D4 Ora.env A,D4 Ora.env g]≠.none:=by rw[<- f1,f3];intro h;cases h
   obtain⟨X,l0,Q,h0,q1,q2,_,q3,q4⟩:=QS Z;exact⟨X,l0,Q,h0,q1,q2,q3,q4⟩
  rw[a1,a2]at f1;have f1:Ora.env m.lg.nx=if wd=wd/\l0<=h0/\h0<=rows.length then U.seq K wd ((rows.drop l0).take (h0-l0))else .none:=f1
  rw[B2 ⟨rfl,a3,a4⟩]at f1;obtain⟨rfl,V,b2,b3,b4,b5⟩:=au Q h0 a2 a4;have b6:Bd E h0 0 l0:=by
   rcases C with⟨rfl,rfl⟩|⟨y,rfl,hy⟩
   .cases a1;exact .inl ⟨rfl,rfl⟩
   .obtain⟨j,rfl⟩:=wR hy aw a1;exact .inr ⟨j,rfl,a3⟩
  have N:=pK (P:=P) (a:=a) (n:=n) (c:=c) hu hs V b2 b3 b6 w;have I:Enc l.G (Ora.env m.lg.nx) (.slice (if mm=l0 then a else a.map (·.add (l0*wd))) (h0-l0) (mm-l0)):=by
   rw[f1];rcases VP (mm:=mm) F a3 a4 b4 (by rcases V with⟨_,rfl⟩|⟨_,_,V⟩<;>omega)with he|rfl
   .exact he
   .rcases l7 F with⟨rfl,rfl,H⟩|⟨_,_,_,H,_⟩
    .cases H;have z1:h0=0:=by simp at a4;exact a4
     have z2:l0=0:=A9;have z3:mm=0:=by
      rcases V with⟨_,rfl⟩|⟨_,_,V⟩<;>omega
     subst z1;subst z2;subst z3;exact .nil
    .cases H
  refine⟨⟨_,N,?_⟩,⟨_,rfl⟩,S1⟩;cases M with
  | false=>exact .dat h1 I f2 A9 rfl
  | true =>
    refine .clp h1 I f2 A9 rfl ?_;show mm-l0=h0-l0;rw[b5 rfl]
 have B:∀ {g y:Value} {kk:IntKind} {q:Nat},VR ρ g y->sY g=true->D4 Ora.env g=.int kk (.ofNat q)->∃ j,y=.int j (.ofNat q):=fun h1 F h3=>wR h1 F h3
 have p:∀ {m:Mem} {A g:Value} {M:Bool},dD m b i tg A g M=some (v,m')->sY g=true:=fun h=>by
  unfold dD at h;exact(B3 (A2 h).1).2
 have main:∀ A,(lo'=none/\A=.int .i64 0∨∃ y,lo'=some y/\VR ρ A y)->DS m b i tg cl A hi mx=some (v,m')->(∃ r,(Instr.sliceAt t (.slice a n c) lo' hi' mx').run P w=.ok r w/\VR ρ v r)/\I1 m m'/\m.lg.le m'.lg:=fun A C h=>by
  cases hi with
  | some g =>
    obtain⟨ak,rfl,D⟩:=f T;cases mx with
    | none =>
      cases d L;have h:dD m b i tg A g false=some (v,m'):=h;have hint:=p h;obtain⟨kk,q,H⟩:∃ kk q,D4 Ora.env g=.int kk q:=by
       obtain⟨k,z,_,f2,_⟩:=K5 D (A1 hint);exact⟨k,z,f2⟩
      exact go (hh:=q.toNat) (mm:=c) h C fun S q2 h1 F=>by
       rw[H]at h1;injection h1 with _ h1
       subst h1;obtain⟨j,rfl⟩:=B D hint H;have e:(Int.ofNat q2).toNat=q2:=rfl;rw[e];exact⟨rfl,.inl ⟨rfl,rfl⟩,fun h=>(by cases h),.inr ⟨j,rfl,A9⟩,A9,fun h=>by cases h⟩
    | some x =>
      obtain⟨x',rfl,ax⟩:=f L;have h:(bif HO g x then dD m b i tg A g true else none)=some (v,m'):=h;obtain⟨J,h⟩:=A2 h;have hint:=p h
      have:=OB J D ax;subst this;obtain⟨kk,q,H⟩:∃ kk q,D4 Ora.env g=.int kk q:=by
       obtain⟨k,z,_,f2,_⟩:=K5 D (A1 hint);exact⟨k,z,f2⟩
      exact go (hh:=q.toNat) (mm:=q.toNat) h C fun S q2 h1 F=>by
       rw[H]at h1;injection h1 with _ h1
       subst h1;obtain⟨j,rfl⟩:=B D hint H;have e:(Int.ofNat q2).toNat=q2:=rfl;rw[e];exact⟨rfl,.inr ⟨j,rfl,A9⟩,fun h=>(by cases h),.inr ⟨j,rfl,A6 _⟩,A6 _,fun _=>rfl⟩
  | none =>
    cases d T;cases mx with
    | some x=>cases h
    | none =>
      cases d L;unfold DS at h;simp only at h;split at h
      .rename_i g m1 hl;have W:I1 m1 m'/\m1.lg.le m'.lg:=by
        unfold dD at h;obtain⟨_,h⟩:=A2 h;rw[L7]at h;simp only[C7,J0]at h;obtain⟨_,rfl⟩:=h;exact⟨⟨_,rfl⟩,S1⟩
       obtain⟨q1,q2,q3,q4⟩:=iC (ρ:=ρ) hl e1 (hS.le W.2);obtain⟨r1,r2,r3⟩:=go (hh:=rows.length) (mm:=c) h C fun S q2 h1 F=>by
        rw[q4]at h1;injection h1 with _ h1
        have h1:((rows.length:Nat):Int)=(q2:Nat):=h1;have:q2=rows.length:=A9;subst this;refine⟨rfl,.inl ⟨rfl,rfl⟩,fun _=>rfl,.inl ⟨rfl,hn.symm⟩,A9,fun hc=>?_⟩
        have:=ay hc;have:c=n:=this;omega
       exact⟨r1,q2.trans r2,q3.trans r3⟩
      .cases h
 cases lo with
 | none=>exact main _ (.inl ⟨d O,rfl⟩) h
 | some y=>obtain⟨Y,q1,q2⟩:=f O;exact main _ (.inr ⟨Y,q1,q2⟩) h
end
end
section
open Go
variable [Ora]
section
variable {P:Program} {base:Nat} {ρ ρ':Ren} {m m':Mem} {w w':World}
def M3(R:Nat->Option Obj)(rows:List (List U))(wd:Nat)(C:Array Value)(o:Nat):Prop :=
 (∀ row ∈ rows,row.length=wd)/\∀ (r:Nat) (row:List U) (j:Nat) (u:U) (v:Value),rows[r]? = some row->row[j]? = some u->C[o+r*wd+j]? = some v->Enc R u v
def M3.mono{R d:Nat->Option Obj}{rows:List (List U)}{wd:Nat}{C:Q0}(h:M3 R rows wd C o)(hs:Sub R d):M3 d rows wd C o:=⟨h.1,fun r row j u v a b c=>(h.2 r row j u v a b c).mono hs⟩
def M3.nil{R:Nat->Option Obj}{wd:Nat}{C:Q0}:M3 R [] wd C o:=⟨fun _ h=>by(cases h),fun r row j u v h=>by simp at h⟩
def jV{wd:Nat}:∀ {n:Nat} {l:List U} {r:List (List U)},Y6 wd n l=some r->r.length=n/\l.length=n*wd/\(∀ row ∈ r,row.length=wd)/\∀ (q:Nat) (row:List U) (j:Nat) (u:U),r[q]? = some row->row[j]? = some u->l[q*wd+j]? = some u
 | 0,[],r,h=>by cases h;exact⟨rfl,by simp,fun _ h=>(by cases h),fun q row j u h=>by simp at h⟩
 | 0,_::_,r,h=>by cases h
 | n+1,l,r,h=>by
   unfold Y6 at h;split at h
   .rename_i hle;split at h
    .rename_i g hr;cases h;obtain⟨h1,f,h3,c⟩:=jV hr;have d:l.length=(n+1)*wd:=by
      rw[S9]at f;rw[G1];omega
     refine⟨by simp[h1],d,fun row b=>?_,fun q row j u g1 g2=>?_⟩
     .rcases A8.1 b with rfl|b
      .simp;omega
      .exact h3 row b
     .cases q with
      | zero =>
        simp at g1;subst g1;have e:=(A7.1 g2).1;simp at e;rw[F0 A9]at g2
        simpa using g2
      | succ q =>
        have:=c q row j u (by simpa using g1) g2;rw[G5]at this;rw[show(q+1)*wd+j=wd+(q*wd+j) by rw[G1];omega];exact this
    .cases h
   .cases h
def lE{wd:Nat}:∀ (n:Nat) (l:List U),l.length=n*wd->∃ r,Y6 wd n l=some r
 | 0,[],_=>⟨[],rfl⟩
 | 0,_::_,h=>by simp at h
 | n+1,l,h=>by
   rw[G1]at h;obtain⟨r,hr⟩:=lE (wd:=wd) n (l.drop wd) (by rw[S9];omega);refine⟨l.take wd::r,?_⟩;unfold Y6;rw[B2 A9,hr]
def kB{R:Nat->Option Obj}{wd n:Nat}{rows:List (List U)}(h:W8 R us vs)(b:Y6 wd n us=some rows):M3 R rows wd ⟨vs⟩ 0:=by
 obtain⟨h1,d,h3,c⟩:=jV b;refine⟨h3,fun r row j u v g1 g2 g3=>h.2 _ u v (c r row j u g1 g2) ?_⟩
 simpa using g3
def sG{α:Type}{l:List α}:∀ n,(FI l n).length=n*l.length
 | 0=>by simp[FI]
 | n+1=>by simp[FI,sG n,G1];omega
def dZ(s:List UInt8):(kC s).length=s.length:=by simp[kC]
def BF{R:Nat->Option Obj}(s:List UInt8):M3 R (kC s) 1 ⟨M7 s⟩ 0:=by
 refine⟨fun row hr=>?_,fun r row j u v g1 g2 g3=>?_⟩
 .unfold kC at hr;obtain⟨b,_,rfl⟩:=I6.1 hr;rfl
 .unfold kC at g1;rw[F4]at g1;cases c:s[r]? with
  | none=>rw[c]at g1;cases g1
  | some b =>
    rw[c]at g1;simp only[I3,C7]at g1;subst g1;cases j with
    | zero =>
      simp at g2;subst g2;have g3:(M7 s)[0+r*1+0]? = some v:=by simpa using g3
      unfold M7 at g3;rw[F4,show 0+r*1+0=r by omega,c]at g3;simp only[I3,C7]at g3;subst g3;exact .sc rfl
    | succ j=>simp at g2
def oW{G:Nat->Option Obj}{wd n c:Nat}{rows:List (List U)}(h:Enc G (.seq false wd rows) (.slice (some a) n c))(H:∀ k A,G k=some A->w.heap[k]? = some A) :
  n=rows.length/\∃ new',new'.length=rows.length*wd/\new'.all j9=true/\M3 G rows wd ⟨new'⟩ 0/\∀ (j:Nat) (v':Value),new'[j]? = some v'->w.cell? (a.add j)=some v':=by
 cases h with
 | sc h=>cases h
 | emp=>exact⟨rfl,[],by simp,rfl,.nil,fun j v' h=>by simp at h⟩
 | sl K E B hw f =>
   rename_i a o C T fz;refine⟨rfl,?_⟩;cases hr:rows with
   | nil=>exact⟨[],by simp,rfl,.nil,fun j v' h=>by simp at h⟩
   | cons J I =>
     have l:rows≠[]:=by rw[hr];simp
     rw[<- hr];have hh:=H _ _ (E l);have B:=B l;have hlen:((C.toList.drop o).take (rows.length*wd)).length=rows.length*wd:=by simp;omega
     have b:∀ j,j<rows.length*wd->((C.toList.drop o).take (rows.length*wd))[j]? = C[o+j]? := fun j d=>by
      rw[F0 d,G5];simp
     refine⟨_,hlen,?_,⟨hw,fun r row j u v g1 g2 g3=>?_⟩,fun j v' d=>?_⟩
     .refine D2.2 fun v D=>?_
      obtain⟨j,d,e⟩:=Y9 D;rw[hlen]at d;have t:C[o+j]? = some v:=by rw[<- b j d,A4 (by rw[hlen];exact d),e]
      have p:0<wd:=by
       rcases N1 wd with h0|h0
       .subst h0;omega
       .exact h0
      have h1:j / wd<rows.length:=by rw[Nat.div_lt_iff_lt_mul p];exact d
      have q:(rows[j / wd]).length=wd:=hw _ (L6 h1);have h3:j%wd<wd:=fN _ p;refine iL (f (j / wd) rows[j / wd] (j%wd) (rows[j / wd])[j%wd] v (A4 h1) (A4 (by rw[q];exact h3)) ?_);have:o+j / wd*wd+j%wd=o+j:=by have:=gB j wd;rw[U1]at this;omega
      rw[this];exact t
     .have F:0+r*wd+j<rows.length*wd:=by
       have x:=(A7.1 g1).1;have y:=(A7.1 g2).1;rw[hw _ (D6 g1)]at y;have q:(r+1)*wd<=rows.length*wd:=E4 wd x;rw[G1]at q;omega
      have g3:((C.toList.drop o).take (rows.length*wd))[0+r*wd+j]? = some v:=by simpa using g3
      rw[b _ F]at g3;exact f r row j u v g1 g2 (by rw[show o+r*wd+j=o+(0+r*wd+j) by omega];exact g3)
     .have g:=(A7.1 d).1;rw[hlen]at g;rw[b j g]at d;rw[I5.add_none'];simp[World.cell?,hh,d]
structure MG (P:Program) (ρ':Ren) (w:World) (wd:Nat) (bh:Beh) (gs:List Nat) (y':Value) (rows2:List (List U)) (new':List Value):Prop where
 len:∀ wd',(Builtin.lenOf y').run P wd'=.ok rows2.length wd'
 first:∀ wd':World,wd'.heap=w.heap->(Builtin.firstCells wd rows2.length y').run P wd'=.ok ⟨new'⟩ wd'
 size:new'.length=rows2.length*wd
 flat:new'.all j9=true
 rows:∀ R,(∀ b ∈ gs,∀ l,ρ' b=some l->Sub l.G R)->M3 R rows2 wd ⟨new'⟩ 0
 ev:∀ c nul rows,Ora.env c=.seq nul wd rows->evU (aY wd (hole c (10+wd)) bh).1 ((aY wd (hole c (10+wd)) bh).2.map (D4 Ora.env))=nO nul wd rows rows2
def xD{R:Nat->Option Obj}(h:W8 R us vs):vs.all j9=true:=by
 refine D2.2 fun v c=>?_
 obtain⟨j,b,e⟩:=Y9 c;have hu:j<us.length:=by rw[h.1];exact b
 exact iL (h.2 j us[j] v (A4 hu) (by rw[A4 b,e]))
def JY{td:Td}(L:uG P td){e:TypeId}{wd:Nat}{y y':Value}{bh:Beh}{gs:F9}(h:HR P base ρ m.H w)(p:ST td P m e wd y=some (bh,gs,sure,m'))(hf:I2 ρ m.n m'.hi)(N:VR ρ y y')(hS:Sat m'.lg)(S:0<wd)(V:F7 P e=some wd) :
  ∃ ρ' d new',St P base ρ ρ' m m' w w/\m.lg.le m'.lg/\Z7 ρ m m'/\(∀ b ∈ gs,Hp.get m'.H b=some .frz/\∃ l,ρ' b=some l)/\MG P ρ' w wd bh gs y' d new'/\(sure=true->d≠[]):=by
 unfold ST at p;split at p
 .cases p;cases M9 N;refine⟨ρ,[],[],St.refl h,.refl _,.refl,fun b C=>(by cases C),⟨fun _=>rfl,fun _ _=>rfl,by simp,rfl,fun R _=>.nil,fun c g rows B=>?_⟩,fun h=>by cases h⟩;show evU (.snoc wd) [Ora.env c]=_;rw[B];show(if wd=wd/\wd≠0 then(match Y6 wd (([]:List U).length / wd) []with|some r=>nO g wd rows r|none=>.none)else .none)=_;rw[B2 ⟨rfl,A9⟩,List.length_nil,Nat.zero_div];rfl
 .rename_i a n c;split at p
  .rename_i cs ts hr T;split at p
   .rename_i xs ax m2 hd;cases p;have az:bZ m wd (.slice (some a) n c)=some (n,cs):=by simp only[bZ,hr]
    obtain⟨f1,new',f2,f3⟩:=pU h az N;obtain⟨ρ2,E,K,O,t,W,J⟩:=eN L h hd hf f2 hS;have Q:ts.length=wd:=by have:=eO T;rw[V]at this;exact(A5 this).symm
    have F:(xs.map (D4 Ora.env)).length=n*wd:=by
     have:=U9 List.length W;rw[E8,sG,Q]at this;exact this
    obtain⟨d,D⟩:=lE (wd:=wd) n (xs.map (D4 Ora.env)) F;obtain⟨g1,g2,g3,g4⟩:=jV D;refine⟨ρ2,d,new',E,K,O,t,⟨fun q=>by rw[g1];exact f1 q,fun q I=>by rw[g1];exact f3 q I,?_,?_,fun R Y=>kB (J R Y) D,fun c g rows B=>?_⟩,fun hs=>?_⟩
    .have:=(J (fun k=>w.heap[k]?) (fun b C l Z k o hk=>by
      obtain⟨q1,_⟩:=t b C;exact(E.hr.atl Z q1).1.2 k o hk)).1
     rw[<- this,F,g1]
    .exact xD (J (fun k=>w.heap[k]?) (fun b C l Z k o hk=>by
      obtain⟨q1,_⟩:=t b C;exact(E.hr.atl Z q1).1.2 k o hk))
    .show evU (.snoc wd) (Ora.env c::xs.map (D4 Ora.env))=_;rw[B];show(if wd=wd/\wd≠0 then(match Y6 wd ((xs.map (D4 Ora.env)).length / wd) (xs.map (D4 Ora.env))with|some r=>nO g wd rows r|none=>.none)else .none)=_;rw[B2 ⟨rfl,A9⟩,F,g9 _ S,D]
    .have:0<n:=A1 hs;intro he;subst he;simp at g1;omega
   .cases p
  .cases p
 .split at p
  .rename_i x b m2 hd;cases p;obtain⟨ρ2,l,E,K,O,t,W,J,e7⟩:=L.ok h hd hf N hS;obtain⟨ay,f,d,q1,q2⟩:=dC t W A9;have X:f=wd:=A9;subst X;have hG:=(E.hr.atl K O).1.2;rw[q1]at t;have M:∀ c g rows,Ora.env c=.seq g f rows->evU (aY f (hole c (10+f)) (.rows x)).1 ((aY f (hole c (10+f)) (.rows x)).2.map (D4 Ora.env))=nO g f rows d:=fun c g rows B=>by
    show evU (.cat f) [Ora.env c,D4 Ora.env x]=_;rw[B,q1];simp[evU]
   have A:∀ b' ∈ [b],Hp.get m'.H b'=some .frz/\∃ l,ρ2 b'=some l:=fun b' G=>by
    rcases A8.1 G with rfl|G
    .exact⟨O,l,K⟩
    .cases G
   rcases l7 t with⟨rfl,rfl,rfl⟩|⟨rfl,a,c,rfl,B⟩
   .exact⟨ρ2,[],[],E,J,e7,A,⟨fun _=>rfl,fun _ _=>rfl,by simp,rfl,fun R _=>.nil,M⟩,fun h=>by cases h⟩
   .obtain⟨_,new',g1,g2,g3,g4⟩:=oW (w:=w) t hG;refine⟨ρ2,d,new',E,J,e7,A,⟨fun _=>rfl,fun q I=>?_,g1,g2,fun R Y=>g3.mono (Y b (.head _) l K),M⟩,fun h=>by cases h⟩;rw[show Builtin.firstCells f d.length (.slice (some a) d.length c)=loadCells a (d.length*f)from rfl];exact iB g1 fun j v' hj=>by rw[x5 I];exact g4 j v' hj
  .cases p
 .obtain⟨h1,p⟩:=A2 p;obtain⟨h2,h3⟩:=B3 h1;have h4:=A0 h2;have h5:=A0 h3;cases p;subst h5;obtain⟨s,rfl,f1⟩:=c8 N h4;refine⟨ρ,kC s,M7 s,St.refl h,.refl _,.refl,fun b C=>(by cases C),⟨fun _=>?_,fun q _=>?_,by simp[kC,M7],?_,fun R _=>BF s,fun c g rows B=>?_⟩,fun h=>by cases h⟩
  .rw[dZ];rfl
  .rw[dZ];have e:((ByteArray.extract ⟨⟨s⟩⟩ 0 s.length).data.map fun b=>Value.int .u8 b.toNat)=⟨M7 s⟩:=by
    rw[dP];apply H7;simp[M7]
   show(pure ((ByteArray.extract ⟨⟨s⟩⟩ 0 s.length).data.map fun b=>Value.int .u8 b.toNat):Sem Q0).run P q=_;rw[e];rfl
  .refine D2.2 fun v hv=>?_
   unfold M7 at hv;obtain⟨b,_,rfl⟩:=I6.1 hv;rfl
  .show evU .cats [Ora.env c,D4 Ora.env y]=_;rw[B,f1];simp[evU]
end
end
section
open Go
variable [Ora]
section
variable {P:Program} {base:Nat} {ρ ρ':Ren} {m m':Mem} {w w':World}
def Sub.trans{A B C:Nat->Option Obj}(h:Sub A B)(k:Sub B C):Sub A C:=fun q o b=>k q o (h q o b)
structure TK (P:Program) (base:Nat) (ρ:Ren) (m:Mem) (w:World) (e:TypeId) (wd c:Nat) (gs:List Nat) (old:Option Nat) (x':Value):Prop where
 ex:∃ nul rows,Ora.env c=.seq nul wd rows/\((nul=true/\rows=[]/\x'=.slice none 0 0/\(∀ b,old=some b->∃ ab l,b<=G2/\Hp.get m.H b=some ab/\ab.rw=true/\ρ b=some l/\l.on=false)) ∨
  (nul=false/\∃ b ab l cap C fz,old=some b/\b<=G2/\Hp.get m.H b=some ab/\ab.rw=true/\ρ b=some l/\l.on=true/\x'=.slice (some ⟨l.blk,l.sh,none⟩) rows.length cap/\w.heap[l.blk]? = some (.cells C e fz) /\
    rows.length<=cap/\l.sh+cap*wd<=C.size/\(∀ i,i<C.size->¬ (fz.1<=i/\i<fz.2))/\∀ R,(∀ b ∈ gs,∀ l,ρ b=some l->Sub l.G R)->M3 R rows wd C l.sh))
def EG{td:Td}(ai:uG P td){e:TypeId}{wd c:Nat}{x x':Value}{gs:F9}{old:Option Nat}(h:HR P base ρ m.H w)(d:xV td P m e wd x=some (c,gs,old,m'))(hf:I2 ρ m.n m'.hi)(hx:VR ρ x x')(hS:Sat m'.lg)(az:0<wd)(p:F7 P e=some wd) :
  ∃ ρ',St P base ρ ρ' m m' w w/\m.lg.le m'.lg/\Z7 ρ m m'/\TK P base ρ' m' w e wd c gs old x':=by
 unfold xV at d;split at d
 .rw[L7]at d;simp only[hole]at d;cases d;cases M9 hx;obtain⟨q,e2,_⟩:=fW hS (.refl _);refine⟨ρ,St.wLg h _,S1,Z7.lg _,⟨true,[],q,.inl ⟨rfl,rfl,rfl,fun b hb=>by cases hb⟩⟩⟩
 .rename_i b i tg;split at d
  .rename_i c0 tc T g S;obtain⟨h1,d⟩:=A2 d;obtain⟨h1,N⟩:=B3 h1;obtain⟨h1,h3⟩:=B3 h1;obtain⟨N,B⟩:=B3 N;have h1:=A0 h1;have h3:=A0 h3;have N:=A0 N;have B:=A1 B;cases d;subst N;obtain⟨Y,bz⟩:=x9 hx;rcases Y with⟨l,ak,g1,g2,g3,rfl⟩|⟨l,ak,ae,g1,g2,g3,g4,bu,rfl⟩
   .obtain⟨I,inf,q,e2,e3,f⟩:=SqR.ex (h.atl g1 S).1;rcases f with⟨_,f⟩|⟨f,_⟩
    .have:I=wd:=A9;subst this;refine⟨ρ,St.refl h,.refl _,.refl,⟨true,[],f,.inl ⟨rfl,rfl,rfl,fun b' aj=>?_⟩⟩⟩;cases aj;exact⟨_,l,B,S,rfl,g1,g2⟩
    .rw[g2]at f;cases f
   .obtain⟨I,inf,q,e2,e3,f⟩:=SqR.ex (h.atl g1 S).1;rcases f with⟨f,_⟩|⟨_,f⟩
    .rw[g2]at f;cases f
    .obtain⟨C,fz,T',rows,lg,f1,f2,f3,f4,f5,f6,f7,f8,f9⟩:=f;have:I=wd:=A9;subst this;obtain⟨rfl,f10⟩:=f9 rfl;exact⟨ρ,St.refl h,.refl _,.refl,⟨false,rows,f2,.inr ⟨rfl,b,_,l,l.cap,C,fz,rfl,B,S,rfl,g1,g2,by rw[f3],f1,A9,f5,f10,fun R hR=>⟨f6,fun r row j u v q1 q2 q3=>(f8 r row j u v q1 q2 q3).mono (hR g (.head _) lg f7)⟩⟩⟩⟩
  .cases d
 .rename_i b n c0;split at d
  .rename_i cs T0 br ts S ay;obtain⟨hq,k⟩:=A2 d;obtain⟨ao,ad⟩:=B3 hq;have h1:=A0 ao;clear d;split at k
   .rename_i xs bt m1 hd;split at k
    .rename_i bs T V;obtain⟨M,L⟩:=A2 k;clear k;obtain⟨M,B⟩:=B3 M;have h3:=A0 M;have B:=A1 B;subst h3;rw[L7]at L;simp only[hole]at L;cases L;have aq:I2 ρ m.n m1.hi:=by simpa using hf
     have af:Sat m1.lg:=M5.le hS S1;obtain⟨l,cap,t,bx,aa,ah⟩:∃ l cap,ρ b=some l/\n<=cap/\(cap=n∨cap=l.cap)/\x'=.slice (some ⟨l.blk,0+l.sh,none⟩) n cap:=by
      rcases(F8 _ _).mp ad with E|E
      .obtain⟨G,K⟩:=B3 E;have G:=A0 G;have K:c0<K9:=A1 K;rcases M4 hx with⟨l,t,_,F,rfl⟩|⟨l,c',t,_,ag,Z,W,rfl⟩|⟨a',c',_,_,E,_⟩
       .exact⟨l,c0,t,A9,.inl G,rfl⟩
       .omega
       .omega
      .have E:=A0 E;rcases M4 hx with⟨l,t,_,F,rfl⟩|⟨l,c',t,_,ag,Z,W,rfl⟩|⟨a',c',_,_,K,_⟩
       .omega
       .exact⟨l,c',t,Z,.inr (W E rfl),rfl⟩
       .omega
     obtain⟨⟨ar,C,fz,T1,f1,f2,_⟩,_⟩:=h.atl t S;obtain⟨cs',f4,f5⟩:=j7 (ρ:=ρ) (C:=C) (cs:=cs) (s:=l.sh) f2;obtain⟨aw,q,e2,e3,f,e5,e6⟩:=eN ai h hd aq f4 af;obtain⟨⟨_,C1,bw,T2,g1,g2,g3⟩,_⟩:=q.hr.atl (q.ext _ _ t) V;rw[f1]at g1;cases g1;obtain⟨rfl,g4,g5⟩:=g3 rfl;have y:=eO ay;rw[p]at y;have F:ts.length=wd:=(A5 y).symm;have X:(xs.map (D4 Ora.env)).length=n*wd:=by
      have:=U9 List.length e5;rw[E8,sG,F]at this;exact this
     obtain⟨rows,J⟩:=lE (wd:=wd) n (xs.map (D4 Ora.env)) X;obtain⟨q1,q2,q3,q4⟩:=jV J;obtain⟨d1,d2,_⟩:=fW hS (.refl _);have E:Ora.env m1.lg.nx=.seq false wd rows:=by
      rw[d1];show(if wd=0 then U.none else match Y6 wd ((xs.map (D4 Ora.env)).length / wd) (xs.map (D4 Ora.env))with|some r=>.seq false wd r|none=>.none)=_;rw[B1 A9,X,g9 _ az,J]
     have av:cs'.length=n*wd:=by rw[<- f4.1];exact h1
     obtain⟨inf,A,D⟩:∃ inf,P.info? T1=some inf/\inf.size=wd:=by
      unfold F7 at p;cases hi:P.info? T1 with
      | none=>rw[hi]at p;cases p
      | some inf=>rw[hi]at p;exact⟨inf,rfl,A5 p⟩
     have O:l.sh+cap*wd<=C.size:=by
      rcases aa with rfl|rfl
      .rcases N1 (cap*wd)with h0|h0
       .rw[h0]
        have:=g5 inf A;rw[D]at this;omega
       .have Q:cap*wd-1<cs'.length:=A9
        have:=f5 (cap*wd-1) cs'[cap*wd-1] (A4 Q)
        have:=(B5.1 this).1;omega
      .have:=g5 inf A;rw[D]at this;exact this.1
     have al:=St.wLg q.hr (cR m1 (10+wd) (.mk wd) xs);refine⟨aw,St.trans (by simpa using hf) q al,e2.trans S1,fun j lj hj ax=>by rw[gM];exact e3 j lj hj ax,⟨false,rows,E,.inr ⟨rfl,b,_,l,cap,C,fz,rfl,B,by rw[gM];exact V,rfl,q.ext _ _ t,ar,by rw[ah,q1,D8],f1,A9,O,g4,fun R hR=>?_⟩⟩⟩;obtain⟨r1,r2⟩:=kB (e6 R hR) J;refine⟨r1,fun r row j u v a1 a2 a3=>r2 r row j u v a1 a2 ?_⟩;have hq:r*wd+j<cs'.length:=by
      have an:=(A7.1 a1).1;have au:=(A7.1 a2).1;rw[r1 _ (D6 a1)]at au;have N:(r+1)*wd<=rows.length*wd:=E4 wd an;rw[G1]at N;rw[av,<- q1];omega
     have:=f5 (r*wd+j) cs'[r*wd+j] (A4 hq);rw[show l.sh+r*wd+j=l.sh+(r*wd+j) by omega,this]at a3;have a3:=A5 a3;show(Array.mk cs')[0+r*wd+j]? = some v;rw[I0,show 0+r*wd+j=r*wd+j by omega,A4 hq,a3]
    .cases k
   .cases k
  .cases d
 .cases d
end
end
end Go.Sx
