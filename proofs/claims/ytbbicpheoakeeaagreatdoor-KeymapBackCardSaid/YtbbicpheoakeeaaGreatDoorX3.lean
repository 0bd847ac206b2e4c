import Derived.Test.YtbbicpheoakeeaaGreatDoorX2
set_option linter.all false
set_option maxRecDepth 100000
set_option maxHeartbeats 4000000
namespace Go.Sx
variable {op:LOp}{s ty:TypeId}{hi i j o tg:Nat}{i' z z':Value}{u:U}{kh kk kl:IntKind}{hi' lo lo' mx mx':Q6}{hs r' vs vs' xs:D2}{tys:List TypeId}{a:Addr}{m1:Mem}{row us:List U}{ts:H1}{cl sure:Bool}
section
open Go
variable [Ora]
section
variable {P:Program} {base:Nat} {ρ:Ren} {m m':Mem} {w:World}
def pk(k:IntKind)(n:Int):I4 (.int k n)=true:=rfl
def WI{op:UnOp}{x x' v:Value}(h:HZ m op x=some (v,m'))(hx:VR ρ x x')(l:Sat m'.lg)(w:World):∃ r,(Op.unary op x').run P w=.ok r w/\VR ρ v r:=by
 unfold HZ at h;simp only at h;split at h
 .obtain⟨h1,h⟩:=A3 h;obtain⟨b,rfl,e⟩:=gV hx (A0 h1);obtain⟨u,c,g,r,d,f,_⟩:=M4 h l;simp only[C4,G0,e,evU,ev1,unM,ofV]at c;subst c;cases d;exact⟨_,(MM (P:=P) (ρ:=ρ) (op:=.not) (x:=.bool b) (v:=.bool !b) rfl (.pure rfl) w).1,f ρ⟩
 .obtain⟨h1,h⟩:=A3 h;obtain⟨k,n,rfl,e,_⟩:=M6 hx (A1 h1);obtain⟨u,c,g,r,d,f,p⟩:=M4 h l;simp only[C4,G0,e,evU,ev1]at c;subst c;obtain⟨r',g1,g2⟩:=FA (by rw[g];exact p);rw[d]at g2;cases g2;exact⟨_,(MM (P:=P) (ρ:=ρ) g1 (.pure (pk k n)) w).1,f ρ⟩
def MT{t:TypeId}{x x' v:Value}(h:pW P m s t x=some (v,m'))(hx:VR ρ x x')(l:Sat m'.lg)(w:World):∃ r,(convert s t x').run P w=.ok r w/\VR ρ v r:=by
 unfold pW at h;split at h
 .rename_i j k hs c;obtain⟨h1,h⟩:=A3 h;obtain⟨y,n,rfl,e,_⟩:=M6 hx (A1 h1);obtain⟨u,d,q,r,f,g,p⟩:=M4 h l;simp only[C4,G0,e,evU]at d;subst d;cases f;exact⟨_,by simp[convert,A4,D1 hs,D1 c,Result.andThen,Conv.intToInt],g ρ⟩
 .rename_i hs c;obtain⟨h1,h⟩:=A3 h;cases h;obtain⟨b,rfl,e⟩:=l6 hx (A0 h1);exact⟨_,by simp[convert,A4,D1 hs,D1 c,Result.andThen],hx⟩
 .cases h
def iM{t:Nat}:∀ {cs:D2},g9 t cs=true->∀ {i:Nat} {v:Value},cs[i]? = some v->G5 v=t
 | [],_,i,v,h=>by simp at h
 | c::r,hs,i,v,h=>by
   obtain⟨h1,b⟩:=B6 (show(Nat.beq (G5 c) t && g9 t r)=true from hs);cases i with
   | zero=>simp at h;subst h;exact A0 h1
   | succ i=>exact iM b (by simpa using h)
def WV{t e:TypeId}{n:Nat}{cs:V9}{x' i v:Value}(hu:P.underlying t=some (.array n e))(A:aC P e=some false)(l:G9 P e=some 1)(F:cs.toList.length=n)(f:g9 tg cs.toList=true)(C:tg<10)
  (g:G5 i<8) (h:U1 m tg .sel (i::cs.toList)=some (v,m')) (hx:VR ρ (.agg cs) x') (hi:VR ρ i i') (B:Sat m'.lg) (w:World):∃ r,(Instr.index t x' i').run P w=.ok r w/\VR ρ v r:=by
 obtain⟨k,z,rfl,e,_⟩:=M6 hi g;obtain⟨u,c,E,r,d,y,D⟩:=M4 h B;simp only[C4,e]at c;cases z with
 | negSucc z=>simp only[evU]at c;subst c;cases d
 | ofNat z =>
   simp only[evU]at c;by_cases q:z<cs.toList.length
   .have b:cs.toList[z]? = some cs.toList[z]:=A5 q;have p:=iM f b;have hm:lR P t (.agg cs) (.int k (.ofNat z))=some cs.toList[z]:=by
     have x:Nat.blt z n=true:=C6 A2;simp only[lR,hu,l,x,E3,qV,A,Nat.mul_one];exact b
    obtain⟨v',g1,g2⟩:=tG (P:=P) hm hx (.pure rfl) w;obtain⟨f1,_⟩:=u7 g2 A2;have:u=D6 Ora.env cs.toList[z]:=by
     rw[<- c,B1,G2,b];rfl
    rw[this,f1]at d;cases d;exact⟨_,g1,y ρ⟩
   .rw[B1,T7 (by simp at q ⊢;omega)]at c;subst c;cases d
def BV{e:TypeId}(h:Nat.beq (g8.sizeD P e) 1=true):G9 P e=some 1:=by
 have h:=A0 h;unfold g8.sizeD at h;split at h
 .rename_i n b;rw[b,h]
 .cases h
def IC{t:TypeId}{x x' i v:Value}(h:g8 P m t x i=some (v,m'))(hx:VR ρ x x')(hi:VR ρ i i')(p:Sat m'.lg)(w:World):∃ r,(Instr.index t x' i').run P w=.ok r w/\VR ρ v r:=by
 unfold g8 at h;cases l:!(Nat.blt (G5 i) 8)with
 | true=>rw[l]at h;cases h
 | false =>
   have d:G5 i<8:=by
    have:Nat.blt (G5 i) 8=true:=by simpa using l
    exact A1 this
   rw[l]at h;simp only[D7]at h;split at h
   .rename_i hu;obtain⟨h1,h⟩:=A3 h;obtain⟨s,rfl,f1⟩:=l6 hx (A0 h1);obtain⟨k,z,rfl,f2,_⟩:=M6 hi d;obtain⟨u,c,B,r,g,y,A⟩:=M4 h p;simp only[C4,G0,f1,f2]at c;cases z with
    | negSucc z=>simp only[evU]at c;subst c;cases g
    | ofNat z =>
      simp only[evU]at c;split at c
      .rename_i b q;subst c;cases g;have hm:lR P t (.string ⟨⟨s⟩⟩) (.int k (.ofNat z))=some (.int .u8 b.toNat):=by
        simp only[lR,hu,q]
       obtain⟨v',g1,g2⟩:=tG (P:=P) (ρ:=ρ) hm (.pure rfl) (.pure rfl) w;cases J3 g2;exact⟨_,g1,y ρ⟩
      .subst c;cases g
   .rename_i n e hu;split at h
    .rename_i cs k he;obtain⟨h1,h⟩:=A3 h;obtain⟨h1,h3⟩:=B6 h1;obtain⟨h1,f⟩:=B6 h1;exact WV hu (by simp[aC,he]) (BV h3) (A0 h1) f (by have:=L7 k;omega) d h hx hi p w
    .rename_i cs he;obtain⟨h1,h⟩:=A3 h;obtain⟨h1,h3⟩:=B6 h1;obtain⟨h1,f⟩:=B6 h1;exact WV hu (by simp[aC,he]) (BV h3) (A0 h1) f A2 d h hx hi p w
    .cases h
   .cases h
def MW{t:TypeId}(hu:P.underlying t=some .string){s:List UInt8}{l h:Int}{r:Value}(b:IF s l h=u)(c:toV u=some r):cS P t (.string ⟨⟨s⟩⟩) (some (.int kl l)) (some (.int kh h)) none=some r:=by
 unfold IF at b;split at b
 .rename_i l h;split at b
  .rename_i hh;subst b;cases c;have e:Nat.ble h (ByteArray.size ⟨⟨s⟩⟩)=true:=C6 hh.2;have d:Nat.ble l h=true:=C6 hh.1;simp only[cS,hu,U2,e,d,E3]
  .subst b;cases c
 .subst b;cases c
def IA{t:TypeId}{x x' v:Value}{hi:Q6}(h:kS P m t x lo hi mx=some (v,m'))(hx:VR ρ x x')(g:OR ρ lo lo')(f:OR ρ hi hi')(C:OR ρ mx mx')(E:Sat m'.lg)(w:World) :
  ∃ r,(Instr.sliceAt t x' lo' hi' mx').run P w=.ok r w/\VR ρ v r:=by
 have c:∀ {o:Q6},OR ρ none o->o=none:=fun{o} h=>by cases o<;>first|rfl|exact h.elim
 have d:∀ {y:Value} {o:Q6},OR ρ (some y) o->∃ I,o=some I/\VR ρ y I:=fun{y o} h=>by cases o<;>first|exact h.elim|exact⟨_,rfl,h⟩
 unfold kS at h;split at h
 .rename_i hu;cases c C;obtain⟨h1,h⟩:=A3 h;obtain⟨s,rfl,f1⟩:=l6 hx (A0 h1);have B:∀ {y:Value},VR ρ (.string ⟨⟨s⟩⟩) y->y=.string ⟨⟨s⟩⟩:=fun h=>U6 h
  split at h
  .cases h;cases c g;cases c f;have hm:cS P t (.string ⟨⟨s⟩⟩) none none none=some (.string ⟨⟨s⟩⟩):=by
    have e:ByteArray.size ⟨⟨s⟩⟩=s.length:=rfl;simp[cS,hu,U2,e]
   obtain⟨v',g1,g2⟩:=gW (P:=P) (ρ:=ρ) (lo':=none) (hi':=none) (mx':=none) hm (.pure rfl) trivial trivial trivial w;cases U6 g2;exact⟨_,g1,hx⟩
  .obtain⟨p,h⟩:=A3 h;obtain⟨l',rfl,F⟩:=d g;cases c f;obtain⟨k,z,rfl,f2,_⟩:=M6 F (A1 p);obtain⟨u,l,H,r,n,A,G⟩:=M4 h E;simp only[C4,G0,f1,f2,evU]at l;have hm:=MW (P:=P) (kl:=k) (kh:=.i64) hu l n;have q:cS P t (.string ⟨⟨s⟩⟩) (some (.int k z)) none none=some r:=by
    rw[<- hm];have e:ByteArray.size ⟨⟨s⟩⟩=s.length:=rfl;have b:Nat.ble s.length s.length=true:=C6 (A6 _);have D:((s.length:Nat):Int)=Int.ofNat s.length:=rfl;simp only[cS,hu,U2,e,D,b,E3]
   obtain⟨v',g1,g2⟩:=gW (P:=P) (ρ:=ρ) (lo':=some (.int k z)) (hi':=none) (mx':=none) q (.pure rfl) (VR.pure rfl:VR ρ _ _) trivial trivial w;have:VR ρ r v':=g2;have hp:=gT n;cases g2 with
   | pure _=>exact⟨_,g1,A ρ⟩
   | _=>simp[I4,ixp,Go.Sx.dat,Go.Sx.clp,Go.Sx.own,Go.Sx.dpt,Go.Sx.opt,Go.Sx.yv,Go.Sx.sdt]at hp
  .obtain⟨p,h⟩:=A3 h;obtain⟨J,rfl,hh⟩:=d f;cases c g;obtain⟨k,z,rfl,f2,_⟩:=M6 hh (A1 p);obtain⟨u,l,H,r,n,A,G⟩:=M4 h E;have f0:D6 Ora.env (.int .i64 0)=.int .i64 0:=rfl;simp only[C4,G0,f1,f2,f0,evU]at l;have hm:=MW (P:=P) (kl:=.i64) (kh:=k) hu l n;have q:cS P t (.string ⟨⟨s⟩⟩) none (some (.int k z)) none=some r:=by
    rw[<- hm];have D:(0:Int)=Int.ofNat 0:=rfl;cases z with
    | negSucc z=>simp only[cS,hu,U2]
    | ofNat z =>
      have K:Nat.ble 0 z=true:=C6 (mL _);simp only[cS,hu,U2,D];cases Nat.ble z (ByteArray.size ⟨⟨s⟩⟩)<;>simp[K]
   obtain⟨v',g1,g2⟩:=gW (P:=P) (ρ:=ρ) (lo':=none) (hi':=some (.int k z)) (mx':=none) q (.pure rfl) trivial (VR.pure rfl:VR ρ _ _) trivial w;have hp:=gT n;cases g2 with
   | pure _=>exact⟨_,g1,A ρ⟩
   | _=>simp[I4,ixp,Go.Sx.dat,Go.Sx.clp,Go.Sx.own,Go.Sx.dpt,Go.Sx.opt,Go.Sx.yv,Go.Sx.sdt]at hp
  .obtain⟨p,h⟩:=A3 h;obtain⟨p,h3⟩:=B6 p;obtain⟨J,rfl,hh⟩:=d f;obtain⟨l',rfl,F⟩:=d g;obtain⟨k,z,rfl,f2,_⟩:=M6 F (A1 p);obtain⟨j,y,rfl,f3,_⟩:=M6 hh (A1 h3);obtain⟨u,l,H,r,n,A,G⟩:=M4 h E;simp only[C4,G0,f1,f2,f3,evU]at l;have hm:=MW (P:=P) (kl:=k) (kh:=j) hu l n;obtain⟨v',g1,g2⟩:=gW (P:=P) (ρ:=ρ) (lo':=some (.int k z)) (hi':=some (.int j y)) (mx':=none) hm (.pure rfl) (VR.pure rfl:VR ρ _ _) (VR.pure rfl:VR ρ _ _) trivial w;have hp:=gT n;cases g2 with
   | pure _=>exact⟨_,g1,A ρ⟩
   | _=>simp[I4,ixp,Go.Sx.dat,Go.Sx.clp,Go.Sx.own,Go.Sx.dpt,Go.Sx.opt,Go.Sx.yv,Go.Sx.sdt]at hp
 .cases h
def AW{b:Builtin}{ks:Array Bool}{v:Value}(hr:HR P base ρ m.H w)(h:eF P m b vs tys=some (v,m'))(hx:LR ρ vs vs')(q:Sat m'.lg) :
  ∃ s:Sem Value,builtin b ⟨tys⟩ ty ks ⟨vs'⟩=(do pure (.value (<- s)))/\∃ r,s.run P w=.ok r w/\VR ρ v r:=by
 unfold eF at h;split at h
 .obtain⟨x',r1,rfl,h1,g⟩:=hx.tail;cases g.nil_inv;split at h
  .rename_i hu;obtain⟨h3,h⟩:=A3 h;obtain⟨s,rfl,f1⟩:=l6 h1 (A0 h3);obtain⟨u,e,y,r,l,n,x⟩:=M4 h q;simp only[C4,G0,f1,evU]at e;subst e;cases l;rename_i t rest _ _;have hm:A0V P m t (.string ⟨⟨s⟩⟩)=some (.int .i64 s.length):=by simp[A0V,hu]
   obtain⟨g1,_⟩:=RO (ρ:=ρ) (ty:=ty) (tys:=rest) hr hm (.pure rfl);exact⟨_,rfl,_,g1,n ρ⟩
  .cases h
 .obtain⟨x',r1,rfl,h1,g⟩:=hx.tail;obtain⟨C,D,rfl,h3,p⟩:=g.tail;cases p.nil_inv;obtain⟨d,h⟩:=A3 h;obtain⟨d,f⟩:=B6 d;have d:=A1 d;have f:=A0 f;obtain⟨k,a,rfl,f1,A⟩:=M6 h1 d;obtain⟨j,c,rfl,f2,B⟩:=M6 h3 (f▸d);obtain⟨u,e,y,r,l,n,x⟩:=M4 h q;simp only[C4,G0,f1,f2,evU]at e;subst e;cases l;obtain⟨g1,_⟩:=RH (P:=P) (ρ:=ρ) (ty:=ty) (tys:=⟨tys⟩) (vs:=[.int k a,.int j c]) rfl (.cons (.pure rfl) (.cons (.pure rfl) .nil)) w;exact⟨_,rfl,_,g1,n ρ⟩
 .obtain⟨x',r1,rfl,h1,g⟩:=hx.tail;obtain⟨C,D,rfl,h3,p⟩:=g.tail;cases p.nil_inv;obtain⟨d,h⟩:=A3 h;obtain⟨d,f⟩:=B6 d;have d:=A1 d;have f:=A0 f;obtain⟨k,a,rfl,f1,A⟩:=M6 h1 d;obtain⟨j,c,rfl,f2,B⟩:=M6 h3 (f▸d);obtain⟨u,e,y,r,l,n,x⟩:=M4 h q;simp only[C4,G0,f1,f2,evU]at e;subst e;cases l;obtain⟨g1,_⟩:=RF (P:=P) (ρ:=ρ) (ty:=ty) (tys:=⟨tys⟩) (vs:=[.int k a,.int j c]) rfl (.cons (.pure rfl) (.cons (.pure rfl) .nil)) w;exact⟨_,rfl,_,g1,n ρ⟩
 .cases h
def TI{v:Value}{k:IntKind}{n:Int}(h:D6 Ora.env v=.int k n):oW Ora.env v=some n:=by
 cases v with
 | complex k i t =>
   cases k with
   | f64 =>
     have h:Ora.env i=.int _ n:=h;simp only[oW,h]
   | f32=>cases h
 | int j n=>cases h;rfl
 | _=>cases h
def GY{v:Value}{n:Int}(h:oW Ora.env v=some n):∃ k,D6 Ora.env v=.int k n:=by
 cases v with
 | complex k i t =>
   cases k with
   | f64 =>
     simp only[oW]at h;split at h
     .rename_i k z he;cases h;exact⟨k,he⟩
     .cases h
   | f32=>cases h
 | int j n=>cases h;exact⟨j,rfl⟩
 | _=>cases h
def SA{s n:Nat}{i v:Value}(h:UY m a s n i=some (v,m'))(hi:VR ρ i i')(p:Sat m'.lg):v=ixp a s i n/\∃ k z,i'=.int k (.ofNat z)/\z<n/\oW Ora.env i=some (.ofNat z):=by
 unfold UY at h;cases f:!(Nat.blt (G5 i) 8)with
 | true=>rw[f]at h;cases h
 | false =>
   have e:G5 i<8:=by
    have:Nat.blt (G5 i) 8=true:=by simpa using f
    exact A1 this
   rw[f]at h;simp only[D7]at h;split at h
   .rename_i b H k W hh lg y;split at h
    .rename_i x g;cases h;obtain⟨u,l,A,r,c,t,_⟩:=M4 y (R6.le p (eX g));have d:=mC (ρ:=ρ) g (t ρ) p;subst d;obtain⟨q,z,rfl,f1,_⟩:=M6 hi e;have f0:D6 Ora.env (.int .i64 (.ofNat n))=.int .i64 (.ofNat n):=rfl;simp only[C4,G0,f1,f0,evU]at l;subst l;have c:(decide (0<=z) && decide (z<Int.ofNat n))=true:=by
      have:=A8 c;exact Value.bool.inj this
     simp only[G6,decide_eq_true_eq]at c;cases z with
     | negSucc z=>exact absurd c.1 (by simp)
     | ofNat z=>exact⟨rfl,q,z,rfl,by have:=c.2;simpa using this,TI f1⟩
    .cases h
   .cases h
def AS{t:TypeId}{x x' i v:Value}(h:eD P m t x i=some (v,m'))(hx:VR ρ x x')(hi:VR ρ i i')(p:Sat m'.lg)(w:World):∃ r,(Instr.indexAt t x' i').run P w=.ok r w/\VR ρ v r:=by
 unfold eD at h;split at h
 .rename_i n e a hu;split at h
  .rename_i s hs d;obtain⟨rfl,k,z,rfl,f,he⟩:=SA h hi p;obtain⟨l,q,_,rfl⟩:=O9 hx;have g:Nat.blt z n=true:=C6 f;have hm:X7 P t (.pointer (some a)) (.int k (.ofNat z))=some (.pointer (some ⟨a.block,a.off+z*s,none⟩)):=by
    simp only[X7,hu,hs,d,g,E3,bF,E7]
   obtain⟨v',g1,g2⟩:=cF (P:=P) hm hx (.pure rfl) w;obtain⟨l2,b,_,rfl⟩:=O9 g2;have b:ρ a.block=some l2:=b;rw[q]at b;cases b;exact⟨_,g1,.ixp q d he f rfl⟩
  .cases h
 .rename_i e a n c hu;split at h
  .rename_i s hs d;cases y:Nat.beq c (M9+2)with
   | true=>rw[y]at h;cases h
   | false =>
     rw[y]at h;obtain⟨rfl,k,z,rfl,f,he⟩:=SA h hi p;have g:Nat.blt z n=true:=C6 f;have hm:X7 P t (.slice (some a) n c) (.int k (.ofNat z))=some (.pointer (some ⟨a.block,a.off+z*s,none⟩)):=by
      simp only[X7,hu,hs,d,g,E3,bF,E7]
     obtain⟨v',g1,g2⟩:=cF (P:=P) hm hx (.pure rfl) w;obtain⟨l2,b,_,rfl⟩:=O9 g2;have b:ρ a.block=some l2:=b;exact⟨_,g1,.ixp b d he f rfl⟩
  .cases h
 .cases h
def SC{s n:Nat}{i v':Value}(h:VR ρ (ixp a s i n) v'):∃ l z,ρ a.block=some l/\a.spot=none/\oW Ora.env i=some (.ofNat z)/\z<n/\v'=.pointer (some ⟨l.blk,a.off+z*s+l.sh,none⟩):=by
 generalize hx:ixp a s i n=x at h;cases h with
 | ixp h hs hi b hv =>
   simp only[ixp,Value.func.injEq,Z7,J5,Value.pointer.injEq,D3,Value.int.injEq,kC,true_and,and_true]at hx;obtain⟨rfl,rfl,rfl,rfl⟩:=hx;exact⟨_,_,h,hs,hi,b,hv⟩
 | pure hp=>subst hx;simp[ixp,I4]at hp
 | _=>simp[ixp,Go.Sx.dat,Go.Sx.clp,Go.Sx.own,Go.Sx.dpt,Go.Sx.opt,Go.Sx.yv,Go.Sx.sdt]at hx
def AU{x x' v:Value}(h:eE P m s x i=some (v,m'))(hx:VR ρ x x')(w:World):∃ r,(Instr.fieldAt s x' i).run P w=.ok r w/\VR ρ v r:=by
 unfold eE at h;split at h
 .rename_i a k j n;split at h
  .rename_i q hu;split at h
   .rename_i f d c;split at h
    .rename_i z e;cases h;obtain⟨l,y,h1,p,h3,g,rfl⟩:=SC (n:=n) (s:=k) (i:=j) hx;have hm:cG P s (.pointer (some ⟨a.block,a.off+y*k,none⟩)) i=some (.pointer (some ⟨a.block,a.off+y*k+f.offset,none⟩)):=by
      simp only[cG,hu,d,e,bF,E7]
     obtain⟨v',g1,g2⟩:=lV (P:=P) (ρ:=ρ) hm (.ptr h1) w;obtain⟨l2,b,_,rfl⟩:=O9 g2;have b:ρ a.block=some l2:=b;rw[h1]at b;cases b;refine⟨_,g1,?_⟩;simp only[bF,E7];refine .ixp (a:=⟨a.block,a.off+f.offset,none⟩) h1 rfl h3 g ?_;simp only[Value.pointer.injEq,D3,Addr.mk.injEq,true_and,and_true];omega
    .cases h
   .cases h
  .cases h
 .cases h
def uC{cs:D2}{s:Nat}:∀ {n o:Nat} {l:D2},wA cs s o n=some l->l.length=n/\∀ z,z<n->cs[o+z*s]? = l[z]?
 | 0,o,l,h=>by cases h;exact⟨rfl,fun z c=>by omega⟩
 | n+1,o,l,h=>by
   unfold wA at h;split at h
   .rename_i v r hv hr;cases h;obtain⟨h1,b⟩:=uC hr;refine⟨by simp[h1],fun z c=>?_⟩;cases z with
    | zero=>simpa using hv
    | succ z =>
      have:=b z A2;rw[Nat.succ_mul,show o+(z*s+s)=o+s+z*s by omega]
      simpa using this
   .cases h
def uD{cs cs':D2}{s n:Nat}{i:Value}{z:Nat}(he:oW Ora.env i=some (.ofNat z))(p:z<n)(B:LR ρ cs cs'):∀ {k o:Nat} {m m':Mem} {r:D2},cA m cs s n i o k=some (r,m')->Sat m'.lg ->
  LR ρ r ((cs'.drop (o+z*s)).take k)/\r.length=k
 | 0,o,m,m',r,h,hS=>by cases h;exact⟨by simpa using LR.nil,rfl⟩
 | k+1,o,m,m',r,h,hS=>by
   unfold cA at h;split at h
   .rename_i v l d;obtain⟨q,h⟩:=A3 h;obtain⟨q,e⟩:=B6 q;have e:G5 v<10:=A1 e;split at h
    .rename_i hh m1 h1;split at h
     .rename_i H m2 y;cases h;obtain⟨t,g⟩:=uD he p B y hS;obtain⟨u,f,G,C,A,D,_⟩:=M4 h1 (R6.le hS (fM y).1);obtain⟨g1,g2⟩:=uC d;have b:=g2 z p;have c:z<(v::l).length:=by rw[g1];exact p
      rw[A5 c]at b;obtain⟨I,f1,f2⟩:=B.get b;have x:=iM q (A5 c);obtain⟨t1,_⟩:=u7 f2 A2;obtain⟨F,E⟩:=GY he;simp only[C4,E,evU]at f;have f:u=D6 Ora.env (v::l)[z]:=by
       rw[<- f];show(List.map (D6 Ora.env) (v::l)).getD z .none=_;rw[B1,G2,A5 c];rfl
      rw[f,t1]at A;cases A;refine⟨?_,by simp[g]⟩;have:(cs'.drop (o+z*s)).take (k+1)=C::(cs'.drop (o+1+z*s)).take k:=by
       rw[c9 (B0.1 f1).1,List.take_succ_cons,(B0.1 f1).2,show o+z*s+1=o+1+z*s by omega]
      rw[this];exact .cons (D ρ) t
     .cases h
    .cases h
   .cases h
def RJ{t:TypeId}{l:Loc}{z s n k:Nat}{i:Value}{cs:D2}(h:HR P base ρ m.H w)(hr:q8 m a ((n-1)*s+k)=some cs)(f:ρ a.block=some l)(he:oW Ora.env i=some (.ofNat z))(d:z<n)(g:cA m cs s n i 0 k=some (hs,m'))(e:Sat m'.lg) :
  ∃ rs,LR ρ hs rs/\rs.length=k/\∀ (j:Nat) (v':Value),rs[j]? = some v'->w.cell? ⟨l.blk,a.off+z*s+l.sh+j,none⟩=some v':=by
 obtain⟨r',h1,p,h3⟩:=Z8 h hr f;obtain⟨g1,g2⟩:=uD he d h1 g e;rw[F4]at g1;refine⟨_,g1,g1.1▸g2,fun j v' c=>?_⟩;have b:j<k:=by
  have:=(B0.1 c).1;simp at this;omega
 rw[E8 b,H8]at c
 have:=h3 _ v' c;rw[show a.off+z*s+l.sh+j=a.off+l.sh+(z*s+j) by omega];exact this
def MR{t:TypeId}{x x' v:Value}(h:HR P base ρ m.H w)(b:pV P m t x=some (v,m'))(hx:VR ρ x x')(f:Sat m'.lg):∃ r,(Instr.loadAt t x').run P w=.ok r w/\VR ρ v r:=by
 unfold pV at b;split at b
 .rename_i a s i n;obtain⟨l,z,h1,p,h3,e,rfl⟩:=SC (n:=n) (s:=s) (i:=i) hx;split at b
  .rename_i c;split at b
   .rename_i cs hr;split at b
    .rename_i hh m2 d;cases b;obtain⟨rs,g1,g2,g3⟩:=RJ (t:=t) h hr h1 h3 e d f;obtain⟨v',y,rfl,g,q⟩:=g1.tail;refine⟨v',?_,g⟩
     have:=g3 0 v' rfl;simp[Instr.loadAt,Instr.sureAddr,loadVar,A4,bT c,Result.andThen,run_load,show w.cell? ⟨l.blk,a.off+z*s+l.sh,none⟩=some v' from by simpa using this]
    .cases b
   .cases b
  .rename_i A c k;split at b
   .rename_i cs hr;split at b
    .rename_i hh m2 d;cases b;obtain⟨rs,g1,g2,g3⟩:=RJ (t:=t) h hr h1 h3 e d f;refine⟨.agg ⟨rs⟩,?_,.agg g1.1 g1.2⟩;simp[Instr.loadAt,Instr.sureAddr,loadVar,A4,bT c,K9 k,Result.andThen,K2 g2 g3]
    .cases b
   .cases b
  .cases b
 .cases b
def A2i{fr:Fr}{g:Operand->Value}{o:Oper}{v:Value}(h:HR P base ρ m.H w)(f:WK P fr m o.op=some (v,m'))(B:FR ρ fr g o.op)(l:Sat m'.lg):NOk P base ρ m w (execOp g o) v m':=by
 obtain⟨_,lg,rfl⟩:=PX f;have q:St P base ρ ρ m (m.wLg lg) w w:=St.wLg h lg;obtain⟨dst,op,ty,pos,I,J⟩:=o;simp only at f B;have d:∀ {x},x ∈ op.operands.toList->VR ρ (ev fr x) (g x):=fun hx=>B _ hx
 have fin:∀ {s:Sem Value},(∃ r,s.run P w=.ok r w/\VR ρ v r)->NOk P base ρ m w (do pure (.value (<- s))) v (m.wLg lg):=fun{s} ⟨r,h1,E⟩=>NOk.of ⟨r,ρ,w,h1,E,q⟩
 unfold WK at f;split at f
 .rename_i c a b;have C:=d (x:=c) (by simp[Op.operands]);unfold vZ at f;obtain⟨H,n,W,hi,l0⟩:=m;simp only at f;split at f
  .rename_i l1 A;simp only[D3,L5]at f;obtain⟨rfl,f⟩:=f;have p:Sat l1:=by
    have:l1=(Mem.wLg ⟨H,n,W,hi,l0⟩ lg).lg:=by rw[<- f]
    rw[this];exact l
   have:=mC A C p;exact⟨g a,ρ,w,.inl (by simp[execOp,this,asBool]),d (by simp[Op.operands]),q⟩
  .rename_i l1 A;simp only[D3,L5]at f;obtain⟨rfl,f⟩:=f;have p:Sat l1:=by
    have:l1=(Mem.wLg ⟨H,n,W,hi,l0⟩ lg).lg:=by rw[<- f]
    rw[this];exact l
   have:=mC A C p;exact⟨g b,ρ,w,.inl (by simp[execOp,this,asBool]),d (by simp[Op.operands]),q⟩
  .cases f
 .rename_i op t x y K;have hx:=d (x:=x) (by simp[Op.operands]);have k:=d (x:=y) (by simp[Op.operands]);refine fin (s:=do eqGuard op t x y (g x) (g y);binOp op t (g x) (g y)) ?_;split at f
  .rename_i r hr;cases f;exact TP hr hx k l w
  .rename_i hr;exact WL f hx k hr l w
 .rename_i op t x;exact fin (s:=Op.unary op (g x)) (WI f (d (by simp[Op.operands])) l w)
 .exact fin (MT f (d (by simp[Op.operands])) l w)
 .rename_i t x lo hi mx;exact fin (s:=Instr.sliceAt t (g x) (lo.map g) (hi.map g) (mx.map g)) (IA f (d (x:=x) (by simp[Op.operands])) (iX (g:=g) fun y k=>d (by simp[Op.operands]at k ⊢;exact .inr (.inl k))) (iX (g:=g) fun y k=>d (by simp[Op.operands]at k ⊢;exact .inr (.inr (.inl k)))) (iX (g:=g) fun y k=>d (by simp[Op.operands]at k ⊢;exact .inr (.inr (.inr k)))) l w)
 .exact fin (IC f (d (by simp[Op.operands])) (d (by simp[Op.operands])) l w)
 .exact fin (AS f (d (by simp[Op.operands])) (d (by simp[Op.operands])) l w)
 .exact fin (AU f (d (by simp[Op.operands])) w)
 .rename_i t x;exact fin (s:=Instr.loadAt t (g x)) (MR h f (d (by simp[Op.operands])) l)
 .rename_i b xs tys;have l1:=cU (ρ:=ρ) (fr:=fr) (g:=g) (xs:=xs.toList) fun x hx=>d (by show x ∈ (#[]++xs:Array Operand).toList;simpa using hx)
  obtain⟨ks,F⟩:∃ ks,execOp g ⟨dst,.call ⟨.builtin b,xs,tys⟩,ty,pos,I,J⟩=builtin b tys ty ks (xs.map g):=⟨_,rfl⟩;obtain⟨s,e,hs⟩:=AW (ty:=ty) (ks:=ks) h f l1 l;have D:xs.map g=⟨xs.toList.map g⟩:=by apply J1;simp
  rw[F,D];have G:tys=⟨tys.toList⟩:=rfl;rw[G,e];exact fin hs
 .cases f
end
end
section
open Go
variable [Ora]
section
variable {P:Program} {base:Nat} {ρ ρ':Ren} {m m':Mem} {w w':World}
def K1.step(d:K1 ρ m.n hi)(st:St P base ρ ρ' m m1 w w'):K1 ρ' m1.n hi:=fun b h1 e=>by
 cases c:ρ' b with
 | none=>rfl
 | some l =>
   cases h0:ρ b with
   | some l0=>rw[d b (C5 st.nle h1) e]at h0;cases h0
   | none=>have:=(st.new b l c h0).2;omega
def K1.less{n hi':Nat}(c:K1 ρ n hi)(h:hi'<=hi):K1 ρ n hi':=fun b h1 d=>c b h1 (D5 d h)
def fF(m:Mem)(t:Nat)(op:LOp)(xs:List Value):Lg:=⟨m.lg.nx+1,m.lg.pi,.dt m.lg.nx t op xs::m.lg.log⟩
def N9{t:Nat}{k:Nat->Mem->Res}:vQ m t op xs k=k m.lg.nx (m.wLg (fF m t op xs)):=by
 obtain⟨H,n,W,hi,⟨nx,pi,log⟩⟩:=m;simp only[vQ,E7,H9];rfl
def KA{t:Nat}{k:Nat->Mem->Option (D2×Mem)}:X9.letDo t op xs m k=k m.lg.nx (m.wLg (fF m t op xs)):=by
 obtain⟨H,n,W,hi,⟨nx,pi,log⟩⟩:=m;simp only[X9.letDo,E7,H9];rfl
@[simp] theorem d7(lg:Lg):(m.wLg lg).lg=lg:=by cases m;rfl
@[simp] theorem kM(lg:Lg):(m.wLg lg).H=m.H:=by cases m;rfl
@[simp] theorem VV(lg:Lg):(m.wLg lg).n=m.n:=by cases m;rfl
@[simp] theorem MK(lg:Lg):(m.wLg lg).hi=m.hi:=by cases m;rfl
@[simp] theorem B29(lg:Lg):(m.wLg lg).W=m.W:=by cases m;rfl
def V7{t:Nat} :m.lg.le (m.wLg (fF m t op xs)).lg:=by
 rw[d7];exact⟨[_],rfl⟩
def jV{t:Nat}{lg:Lg}(e:Sat lg)(d:(m.wLg (fF m t op xs)).lg.le lg):Ora.env m.lg.nx=evU op (xs.map (D6 Ora.env))/\G1 (Ora.env m.lg.nx)=t/\∃ b wd rows,Ora.env m.lg.nx=.seq b wd rows/\t=10+wd:=by
 obtain⟨h1,c,b,wd,rows,h3⟩:=e _ (d.subset (by rw[d7];exact B3));exact⟨h1,c,b,wd,rows,h3,by rw[<- c,h3];rfl⟩
def dO{b:Nat}(h:oK m b=true):Hp.get m.H b=some .frz:=by
 unfold oK at h;split at h
 .assumption
 .cases h
def SH{b:Nat}(h:oK m b=true):b<=H6:=by
 unfold oK at h;split at h
 .exact A1 h
 .cases h
def A1E{b:Nat}(hr:HR P base ρ m.H w)(h:oK m b=true):∃ l,ρ b=some l:=by
 obtain⟨l,h1,_⟩:=hr.at_ b (SH h) _ (dO h);exact⟨l,h1⟩
def Q8{k:Nat->Mem->Option (Value×Nat×Mem)}{r:Value×Nat×Mem}(h:gG m k=some r):∃ m1,Z3 m .frz (fun _=>undef)=some (undef,m1)/\k m.n m1=some r/\m1.H=m.H.set m.n (some .frz)/\m.n<=H6/\m1.lg=m.lg:=by
 obtain⟨H,n,W,hi,lg⟩:=m;simp only[gG,E7,eI]at h;obtain⟨h1,b⟩:=A3 h;refine⟨_,?_,b,rfl,A1 h1,rfl⟩;simp only[Z3,E7,eI,h1,E3]
def kH(G:Nat->Option Obj):Loc:=⟨0,0,0,0,G,false⟩
def St.region{G:Nat->Option Obj}(h:HR P base ρ m.H w)(f:Z3 m .frz (fun _=>undef)=some (undef,m1))(t:K1 ρ m.n m1.hi)
  (g:∀ k o,G k=some o->w.heap[k]? = some o/\∃ id ab l,id<=H6/\Hp.get m.H id=some ab/\ρ id=some l/\Tf ab l k/\ab.rw=false) :
  upd ρ m.n (kH G) m.n=some (kH G)/\Hp.get m1.H m.n=some .frz/\St P base ρ (upd ρ m.n (kH G)) m m1 w w:=by
 obtain⟨h1,p,h3⟩:=St.new0 (l':=kH G) h f t ⟨rfl,fun k o x=>(g k o x).1⟩ rfl fun q b=>by
  rcases b with⟨b,_⟩|⟨_,o,b⟩
  .cases b
  .obtain⟨g1,id,ab,l,g2,g3,g4,g5,g6⟩:=g q o b;refine⟨⟨id,ab,l,g2,g3,g4,g5⟩,fun v d a l2 c y hr r e=>?_⟩
   have:=((h.atl y c).2 hr r).2 id g2 ab l g3 g4 (e▸g5.2);subst this;rw[g3]at c;have c:=A8 c;subst c;rw[g6]at hr;cases hr
 refine⟨p,?_,h3⟩;obtain⟨hle,_,rfl⟩:=L6 f;show Hp.get (m.H.set m.n (some .frz)) m.n=_;rw[F0 _ _ _ _ hle hle,A9 rfl]
theorem nH{b i t:Nat}{v':Value}(h:VR ρ (dat b i t) v'):∃ l,ρ b=some l/\Enc l.G (Ora.env i) v'/\G1 (Ora.env i)=t/\10<=t:=by
 generalize hx:dat b i t=x at h;cases h with
 | dat h he d c e =>
   simp only[dat,Value.func.injEq,Z7,J5,Value.pointer.injEq,D3,Addr.mk.injEq,Value.complex.injEq,true_and,and_true]at hx;obtain⟨rfl,rfl,rfl⟩:=hx;exact⟨_,h,he,d,c⟩
 | pure hp=>subst hx;simp[dat,I4]at hp
 | _=>simp[ixp,Go.Sx.dat,Go.Sx.clp,Go.Sx.own,Go.Sx.dpt,Go.Sx.opt,Go.Sx.yv,Go.Sx.sdt]at hx
theorem fQ{b i t:Nat}{v':Value}(h:VR ρ (clp b i t) v'):∃ l,ρ b=some l/\Enc l.G (Ora.env i) v'/\G1 (Ora.env i)=t/\10<=t/\A1x v':=by
 generalize hx:clp b i t=x at h;cases h with
 | clp h he e c f d =>
   simp only[clp,Value.func.injEq,Z7,J5,Value.pointer.injEq,D3,Addr.mk.injEq,Value.complex.injEq,true_and,and_true]at hx;obtain⟨rfl,rfl,rfl⟩:=hx;exact⟨_,h,he,e,c,d⟩
 | pure hp=>subst hx;simp[clp,I4]at hp
 | _=>simp[ixp,Go.Sx.dat,Go.Sx.clp,Go.Sx.own,Go.Sx.dpt,Go.Sx.opt,Go.Sx.yv,Go.Sx.sdt]at hx
theorem fP{b i t:Nat}{v':Value}(h:VR ρ (own b i t) v'):ZU ρ b (Ora.env i) v'/\G1 (Ora.env i)=t:=by
 generalize hx:own b i t=x at h;cases h with
 | own h c d =>
   simp only[own,Value.func.injEq,Z7,J5,Value.pointer.injEq,D3,Addr.mk.injEq,Value.complex.injEq,true_and,and_true]at hx;obtain⟨rfl,rfl,rfl⟩:=hx;exact⟨h,c⟩
 | pure hp=>subst hx;simp[own,I4]at hp
 | _=>simp[ixp,Go.Sx.dat,Go.Sx.clp,Go.Sx.own,Go.Sx.dpt,Go.Sx.opt,Go.Sx.yv,Go.Sx.sdt]at hx
def FU{b t:Nat}{v':Value}(h:VR ρ (dpt b i t z o) v'):A97 ρ b (Ora.env i) (oW Ora.env z) o v'/\G1 (Ora.env i)=t:=by
 generalize hx:dpt b i t z o=x at h;cases h with
 | dpt h c d =>
   simp only[dpt,Value.func.injEq,Z7,J5,Value.pointer.injEq,D3,Addr.mk.injEq,Value.complex.injEq,Value.int.injEq,kC,true_and,and_true]at hx;obtain⟨rfl,⟨rfl,rfl⟩,rfl,rfl⟩:=hx;exact⟨h,c⟩
 | pure hp=>subst hx;simp[dpt,I4]at hp
 | _=>simp[ixp,Go.Sx.dat,Go.Sx.clp,Go.Sx.own,Go.Sx.dpt,Go.Sx.opt,Go.Sx.yv,Go.Sx.sdt]at hx
def wJ{b t:Nat}{v':Value}(h:VR ρ (opt b i t z o) v'):A86 ρ b (Ora.env i) (oW Ora.env z) o v'/\G1 (Ora.env i)=t:=by
 generalize hx:opt b i t z o=x at h;cases h with
 | opt h c d =>
   simp only[opt,Value.func.injEq,Z7,J5,Value.pointer.injEq,D3,Addr.mk.injEq,Value.complex.injEq,Value.int.injEq,kC,true_and,and_true]at hx;obtain⟨rfl,⟨rfl,rfl⟩,rfl,rfl⟩:=hx;exact⟨h,c⟩
 | pure hp=>subst hx;simp[opt,I4]at hp
 | _=>simp[ixp,Go.Sx.dat,Go.Sx.clp,Go.Sx.own,Go.Sx.dpt,Go.Sx.opt,Go.Sx.yv,Go.Sx.sdt]at hx
def DC{b c tc g t:Nat}{T:TypeId}{v':Value}(h:HR P base ρ m.H w)(F:Hp.get m.H b=some (.sq c tc T g true))(hv:VR ρ (own b i t) v')(D:tc=t)(y:Hp.get m.H g=some .frz)
  (N:Z3 m .frz (fun _=>undef)=some (undef,m1)) (O:K1 ρ m.n m1.hi):∃ l,St P base ρ (upd ρ m.n l) m m1 w w/\upd ρ m.n l m.n=some l/\Hp.get m1.H m.n=some .frz/\Enc l.G (Ora.env c) v'/\G1 (Ora.env c)=t:=by
 obtain⟨B,M⟩:=fP hv;rcases B with⟨l,wd,h1,E,h3,rfl⟩|⟨l,wd,rows,h1,E,h3,Y,Q,rfl⟩
 .obtain⟨q,_⟩:=h.atl h1 F;obtain⟨x,inf,I,V,W,d⟩:=SqR.ex q;rcases d with⟨_,d⟩|⟨d,_⟩
  .obtain⟨g1,g2,g3⟩:=St.region (G:=fun _=>none) h N O (fun k o f=>by cases f);exact⟨_,g3,g1,g2,by rw[d];exact .nil,by rw[d,<- D,I];rfl⟩
  .rw[E]at d;cases d
 .obtain⟨q,_⟩:=h.atl h1 F;obtain⟨x,inf,I,V,W,d⟩:=SqR.ex q;rcases d with⟨d,_⟩|⟨_,d⟩
  .rw[E]at d;cases d
  .obtain⟨C,fz,L,K,lg,f1,f2,f3,f4,f5,f6,f7,f8,f9⟩:=d;obtain⟨J,_⟩:=h.atl f7 y;have p:∀ k o,lg.G k=some o->w.heap[k]? = some o:=J.2;let G:Nat->Option Obj:=fun k=>if k=l.blk then some (.cells C L fz)else lg.G k
   have A:∀ k o,lg.G k=some o->G k=some o:=fun k o f=>by
    show(if k=l.blk then _ else _)=_;by_cases e:k=l.blk
    .subst e;rw[A9 rfl]
     have:=p _ _ f;rw[f1]at this;exact this
    .rw[A7 e];exact f
   obtain⟨g1,g2,g3⟩:=St.region (G:=G) h N O fun k o f=>by
    have f:(if k=l.blk then some (.cells C L fz)else lg.G k)=some o:=f;by_cases e:k=l.blk
    .subst e;rw[A9 rfl]at f;exact⟨by rw[f1];exact f,b,_,l,h.dom _ _ h1,F,h1,⟨rfl,.inl ⟨rfl,E,rfl⟩⟩,rfl⟩
    .rw[A7 e]at f;exact⟨p _ _ f,g,_,lg,h.dom _ _ f7,y,f7,⟨rfl,.inr ⟨rfl,o,f⟩⟩,rfl⟩
   refine⟨_,g3,g1,g2,?_,by rw[f2,<- D,I];rfl⟩;rw[f2,<- f3];refine .sl (G:=G) (C:=C) (T:=L) (fz:=fz) A2 (fun _=>?_) (fun _=>?_) f6 fun r row j u v R X S=>(f8 r row j u v R X S).mono A
   .show(if l.blk=l.blk then _ else _)=_;rw[A9 rfl]
   .have:=F6 x f4;rw[<- f3]at this;omega
def BR.thaw{c t g:Nat}{T:TypeId}{l:Loc}(h:BR P ρ (.sq c t T g false) l w):BR P ρ (.sq c t T g true) l w:=by
 obtain⟨wd,inf,h1,b,h3,f⟩:=SqR.ex h;refine⟨⟨wd,inf,h1,b,h3,f.imp (fun x=>x) fun⟨e,d⟩=>⟨e,?_⟩⟩⟩;obtain⟨C,fz,p,rows,lg,h1,b,h3,f,d,k,n,q,r⟩:=d;exact⟨C,fz,p,rows,lg,h1,b,h3,f,d,k,n,q,fun h=>by cases h⟩
def xJ{id:Nat}{ab:AB}(h:bZ m id ab=some m')(b:j<=H6):Hp.get m'.H j=if j=id then some ab else Hp.get m.H j:=by
 obtain⟨hle,rfl⟩:=U5 h;exact F0 _ _ _ _ hle b
def lG{ab:AB}{k:Nat->Value}{v:Value}(h:Z3 m ab k=some (v,m'))(b:j<=H6):Hp.get m'.H j=if j=m.n then some ab else Hp.get m.H j:=by
 obtain⟨hle,_,rfl⟩:=L6 h;exact F0 _ _ _ _ hle b
def EI{t:Nat}{v v' x:Value}{b:Nat}(h:HR P base ρ m.H w)(d:toD t v m=some (x,b,m'))(J:K1 ρ m.n m'.hi)(hv:VR ρ v v')(hS:Sat m'.lg) :
  ∃ ρ' l,St P base ρ ρ' m m' w w/\ρ' b=some l/\Hp.get m'.H b=some .frz/\Enc l.G (D6 Ora.env x) v'/\G1 (D6 Ora.env x)=t/\m.lg.le m'.lg:=by
 unfold toD at d;split at d
 .rename_i N i tg;obtain⟨h1,f⟩:=A3 d;cases f;obtain⟨h1,f⟩:=B6 h1;have h1:=A0 h1;obtain⟨l,r,y,B,I⟩:=nH hv;exact⟨ρ,l,St.refl h,r,dO f,y,B.trans h1,.refl _⟩
 .rename_i N i tg;obtain⟨h1,f⟩:=A3 d;cases f;obtain⟨h1,f⟩:=B6 h1;have h1:=A0 h1;obtain⟨l,r,y,B,I,_⟩:=fQ hv;exact⟨ρ,l,St.refl h,r,dO f,y,B.trans h1,.refl _⟩
 .rename_i N i tg;split at d
  .rename_i c tc T g D;obtain⟨h1,f⟩:=A3 d;obtain⟨h1,h3⟩:=B6 h1;obtain⟨h1,C⟩:=B6 h1;have h1:=A0 h1;have C:=A0 C;obtain⟨m1,E,L,_,_,K⟩:=Q8 f;cases L;subst h1;obtain⟨l,r,y,B,I,S⟩:=DC h D hv C (dO h3) E J;exact⟨_,l,r,y,B,I,S,by rw[K];exact .refl _⟩
  .rename_i c tc T g D;obtain⟨h1,f⟩:=A3 d;obtain⟨h1,h3⟩:=B6 h1;have W:=SH h3;obtain⟨h1,C⟩:=B6 h1;have h1:=A0 h1;have C:=A0 C;split at f
   .rename_i m1 hs;obtain⟨m2,E,L,_,_,K⟩:=Q8 f;cases L;subst h1;have Y:∃ l0,ρ N=some l0:=by
     rcases(fP hv).1 with⟨l,_,h1,_⟩|⟨l,_,_,h1,_⟩<;>exact⟨l,h1⟩
    obtain⟨l0,F⟩:=Y;have V:=(h.atl F D).1;have p:=St.same0 h hs D rfl F V.thaw (fun q Z=>by
     rcases Z with⟨_,a,b⟩|⟨a,_⟩
     .exact .inl ⟨rfl,a,b⟩
     .cases a)
    have hle:=(U5 hs).1;have X:g≠N:=fun e=>by subst e;rw[dO h3]at D;cases D
    have Q:Hp.get m1.H N=some (.sq c tc T g true):=by rw[xJ hs hle,A9 rfl]
    have M:Hp.get m1.H g=some .frz:=by rw[xJ hs W,A7 X];exact dO h3
    have R:m1.n=m.n:=by rw[(U5 hs).2]
    obtain⟨l,r,y,B,I,S⟩:=DC p.hr Q hv C M E (by rw[R];exact J);refine⟨_,l,St.trans J p r,y,B,I,S,by rw[K,(U5 hs).2];exact .refl _⟩
   .cases f
  .cases d
 .obtain⟨O,d⟩:=A3 d;have O:=A1 O;rw[N9]at d;simp only at d;obtain⟨m1,E,L,_,_,K⟩:=Q8 d;cases L;cases P8 hv;have A:(m.wLg (fF m t (.nilw (t-10)) [])).lg.le m'.lg:=by rw[K];exact .refl _
  obtain⟨r,y,_⟩:=jV hS A;have p:=St.wLg h (fF m t (.nilw (t-10)) []);obtain⟨g1,g2,g3⟩:=St.region (G:=fun _=>none) p.hr E (by simpa using J) (fun k o hk=>by cases hk);refine⟨_,_,St.trans (by simpa using J) p g3,g1,g2,?_,y,V7.trans A⟩;show Enc _ (Ora.env m.lg.nx) _;rw[r];exact .nil
 .cases d
end
end
section
open Go
variable [Ora]
section
variable {P:Program} {base:Nat} {ρ ρ':Ren} {m m':Mem} {w w':World}
def j9(ρ:Ren)(m m':Mem):Prop:=∀ j l,ρ j=some l->Hp.get m.H j=some .frz->Hp.get m'.H j=some .frz
def j9.refl:j9 ρ m m:=fun _ _ _ h=>h
def j9.trans(he:∀ b l,ρ b=some l->ρ' b=some l)(a:j9 ρ m m1)(c:j9 ρ' m1 m'):j9 ρ m m':=fun j l h1 d=>c j l (he j l h1) (a j l h1 d)
def j9.lg(lg:Lg):j9 ρ m (m.wLg lg):=fun j l _ h=>by rw[kM];exact h
def KE{ab:AB}{k:Nat->Value}{v:Value}(h:HR P base ρ m.H w)(b:Z3 m ab k=some (v,m'))(d:K1 ρ m.n m'.hi):j9 ρ m m':=fun j l h1 c=>by
 rw[lG b (h.dom j l h1),A7]
 .exact c
 .intro e;subst e;obtain⟨_,_,rfl⟩:=L6 b;rw[d m.n (A6 _) (L1 _ _).2]at h1;cases h1
def A0b{ab:AB}{id:Nat}(h:HR P base ρ m.H w)(hs:bZ m id ab=some m')(b:Hp.get m.H id≠some .frz):j9 ρ m m':=fun j l h1 c=>by
 rw[xJ hs (h.dom j l h1),A7]
 .exact c
 .intro e;subst e;exact b c
def HV{t:Nat}{v x:Value}{b:Nat}(h:HR P base ρ m.H w)(d:toD t v m=some (x,b,m'))(A:K1 ρ m.n m'.hi):j9 ρ m m':=by
 unfold toD at d;split at d
 .obtain⟨h1,f⟩:=A3 d;cases f;exact .refl
 .obtain⟨h1,f⟩:=A3 d;cases f;exact .refl
 .split at d
  .obtain⟨h1,f⟩:=A3 d;obtain⟨m1,p,q,_⟩:=Q8 f;cases q;exact KE h p A
  .rename_i c tc T g B;obtain⟨h1,f⟩:=A3 d;split at f
   .rename_i m1 hs;obtain⟨m2,p,q,_⟩:=Q8 f;cases q;have D:=A0b h hs (by rw[B];intro h;cases h);intro j l k y;have C:=D j l k y;rw[lG p (h.dom j l k),A7]
    .exact C
    .intro e;subst e;have r:m1.n=m.n:=by rw[(U5 hs).2]
     obtain⟨_,_,rfl⟩:=L6 p;rw[A m1.n A2 (L1 _ _).2]at k;cases k
   .cases f
  .cases d
 .obtain⟨E,d⟩:=A3 d;rw[N9]at d;simp only at d;obtain⟨m1,p,q,_⟩:=Q8 d;cases q;intro j l k y;rw[lG p (h.dom j l k),A7,kM]
  .exact y
  .intro e;subst e;have r:(m.wLg (fF m t (.nilw (t-10)) [])).n=m.n:=by simp
   obtain⟨_,_,rfl⟩:=L6 p;rw[A _ A2 (L1 _ _).2]at k;cases k
 .cases d
def Z0(R:Nat->Option Obj)(us:List U)(vs:List Value):Prop:=us.length=vs.length/\∀ (i:Nat) (u:U) (v:Value),us[i]? = some u->vs[i]? = some v->Enc R u v
omit [Ora] in
def Z0.nil{R:Nat->Option Obj}:Z0 R [] []:=⟨rfl,fun i u v h=>by simp at h⟩
omit [Ora] in
def Z0.cons{R:Nat->Option Obj}{v:Value}(h:Enc R u v)(k:Z0 R us vs):Z0 R (u::us) (v::vs):=⟨by simp[k.1],fun i a b h1 c=>by
 cases i with
 | zero=>simp at h1 c;subst h1;subst c;exact h
 | succ i=>exact k.2 i a b (by simpa using h1) (by simpa using c)⟩
def Sub(G R:Nat->Option Obj):Prop:=∀ k o,G k=some o->R k=some o
def gU{t:Nat}{v x:Value}{b:Nat}{m m':Mem}(c:toD t v m=some (x,b,m')):m.hi<=m'.hi/\m.lg.le m'.lg/\m.n<=m'.n:=by
 have e:∀ {m m1:Mem},Z3 m .frz (fun _=>undef)=some (undef,m1)->m.hi<=m1.hi/\m.lg.le m1.lg/\m.n<=m1.n:=fun k=>by
  obtain⟨_,_,rfl⟩:=L6 k;exact⟨(L1 _ _).1,.refl _,W7 _⟩
 unfold toD at c;split at c
 .obtain⟨h1,d⟩:=A3 c;cases d;exact⟨A6 _,.refl _,A6 _⟩
 .obtain⟨h1,d⟩:=A3 c;cases d;exact⟨A6 _,.refl _,A6 _⟩
 .split at c
  .obtain⟨h1,d⟩:=A3 c;obtain⟨m1,f,g,_⟩:=Q8 d;cases g;exact e f
  .obtain⟨h1,d⟩:=A3 c;split at d
   .rename_i m1 hs;obtain⟨m2,f,g,_⟩:=Q8 d;cases g
    have:=e f;obtain⟨_,rfl⟩:=U5 hs;exact this
   .cases d
  .cases c
 .obtain⟨l,c⟩:=A3 c;rw[N9]at c;simp only at c;obtain⟨m1,f,g,_⟩:=Q8 c;cases g
  have:=e f;exact⟨by simpa using this.1,V7.trans this.2.1,by simpa using this.2.2⟩
 .cases c
structure AK (P:Program) (td:Td):Prop where
 ok:∀ {base:Nat} {ρ:Ren} {m m':Mem} {w:World} {t:Nat} {v v' x:Value} {b:Nat},HR P base ρ m.H w->td t v m=some (x,b,m')->K1 ρ m.n m'.hi->VR ρ v v'->Sat m'.lg ->
  ∃ ρ' l,St P base ρ ρ' m m' w w/\ρ' b=some l/\Hp.get m'.H b=some .frz/\Enc l.G (D6 Ora.env x) v'/\G1 (D6 Ora.env x)=t/\m.lg.le m'.lg/\j9 ρ m m'
 mono:∀ {m m':Mem} {t:Nat} {v x:Value} {b:Nat},td t v m=some (x,b,m')->m.hi<=m'.hi/\m.lg.le m'.lg/\m.n<=m'.n
def WE:AK P toD:=⟨fun h c b hv f=>let ⟨ρ',l,e,a2,a3,a4,a5,d⟩:=EI h c b hv f;⟨ρ',l,e,a2,a3,a4,a5,d,HV h c b⟩,fun h=>gU h⟩
def S1{f:Td}(d:AK P f):∀ {ts:H1} {vs xs:D2} {gs:H1} {m m':Mem},AO f ts vs m=some (xs,gs,m')->m.hi<=m'.hi/\m.lg.le m'.lg/\m.n<=m'.n
 | [],[],_,_,_,_,h=>by cases h;exact⟨A6 _,.refl _,A6 _⟩
 | t::ts,v::vs,xs,gs,m,m',c=>by
   unfold AO at c;cases e:Nat.blt t 10 with
   | true =>
     rw[e]at c;simp only[E3]at c;obtain⟨h1,c⟩:=A3 c;split at c
     .rename_i hr;cases c;exact S1 d hr
     .cases c
   | false =>
     rw[e]at c;simp only[D7]at c;split at c
     .rename_i g;split at c
      .rename_i hr;cases c;have a:=d.mono g;have b:=S1 d hr;exact⟨C5 a.1 b.1,a.2.1.trans b.2.1,C5 a.2.2 b.2.2⟩
      .cases c
     .cases c
 | [],_::_,_,_,_,_,c=>by cases c
 | _::_,[],_,_,_,_,c=>by cases c
def iJ{K:Td}(f:AK P K):∀ {ts:H1} {vs vs' xs:D2} {gs:H1} {m m':Mem} {ρ:Ren},HR P base ρ m.H w->AO K ts vs m=some (xs,gs,m')->K1 ρ m.n m'.hi->LR ρ vs vs'->Sat m'.lg ->
  ∃ ρ',St P base ρ ρ' m m' w w/\m.lg.le m'.lg/\j9 ρ m m'/\(∀ b ∈ gs,Hp.get m'.H b=some .frz/\∃ l,ρ' b=some l)/\(xs.map (D6 Ora.env)).map G1=ts /\
   ∀ R,(∀ b ∈ gs,∀ l,ρ' b=some l->Sub l.G R)->Z0 R (xs.map (D6 Ora.env)) vs'
 | [],[],vs',xs,gs,m,m',ρ,h,c,hf,hv,hS=>by
   cases c;exact⟨ρ,St.refl h,.refl _,.refl,fun b L=>(by cases L),rfl,fun R _=>by rw[hv.nil_inv];exact .nil⟩
 | t::ts,v::vs,vs',xs,gs,m,m',ρ,h,c,hf,hv,hS=>by
   obtain⟨v',r',rfl,p,q⟩:=hv.tail;unfold AO at c;cases E:Nat.blt t 10 with
   | true =>
     rw[E]at c;simp only[E3]at c;obtain⟨h1,c⟩:=A3 c;have h1:=A0 h1;have Q:t<10:=A1 E;split at c
     .rename_i r D m2 hr;cases c;obtain⟨ρ2,g,B,x,C,y,F⟩:=iJ f h hr hf q hS;obtain⟨f1,f2⟩:=u7 p A2;exact⟨ρ2,g,B,x,C,by simp[f2,h1,y],fun R hR=>.cons (.sc f1) (F R hR)⟩
     .cases c
   | false =>
     rw[E]at c;simp only[D7]at c;split at c
     .rename_i hh b m1 O;split at c
      .rename_i r D m2 hr;cases c;have e:m1.hi<=m'.hi/\m1.lg.le m'.lg/\m1.n<=m'.n:=S1 f hr;have J:K1 ρ m.n m1.hi:=hf.less e.1;obtain⟨A,l,k,a2,a3,a4,a5,N,M⟩:=f.ok h O J p (hS.le e.2.1);have I:K1 A m1.n m'.hi:=hf.step k;obtain⟨ρ2,g,B,x,C,y,F⟩:=iJ f k.hr hr I (q.mono k.ext) hS;refine⟨ρ2,St.trans hf k g,N.trans B,M.trans k.ext x,fun b' d=>?_,by simp[a5,y],fun R hR=>.cons (a4.mono (hR b (.head _) l (g.ext _ _ a2))) (F R fun b' d=>hR b' (.tail _ d))⟩;rcases B4.1 d with rfl|d
       .exact⟨x _ l a2 a3,l,g.ext _ _ a2⟩
       .exact C b' d
      .cases c
     .cases c
 | [],_::_,_,_,_,_,_,_,_,c,_,_,_=>by cases c
 | _::_,[],_,_,_,_,_,_,_,c,_,_,_=>by cases c
def eP{gs:H1}{g:Nat}(h:HR P base ρ m.H w)(c:jT gs m=some (g,m'))(x:K1 ρ m.n m'.hi) :
  ∃ ρ' lg,St P base ρ ρ' m m' w w/\m'.lg=m.lg/\j9 ρ m m'/\ρ' g=some lg/\Hp.get m'.H g=some .frz/\∀ b ∈ gs,∀ l,ρ b=some l->Sub l.G lg.G:=by
 have main:∀ {gs:H1},(bif gs.all (oK m)then match gG m fun b m=>some (undef,b,m)with
  | some (_,b,m)=>some (b,m)
  | none=>none else none)=some (g,m')->∃ ρ' lg,St P base ρ ρ' m m' w w/\m'.lg=m.lg/\j9 ρ m m'/\ρ' g=some lg/\Hp.get m'.H g=some .frz/\∀ b ∈ gs,∀ l,ρ b=some l->Sub l.G lg.G:=fun{gs} c=>by
  obtain⟨h1,c⟩:=A3 c;split at c
  .rename_i r b m1 A;cases c;obtain⟨m2,v,C,_,_,B⟩:=Q8 A;cases C;have e:∀ b ∈ gs,Hp.get m.H b=some .frz:=fun b d=>dO (D4.1 h1 b d)
   classical
   let G:Nat->Option Obj:=fun k=>if ∃ b ∈ gs,∃ l o,ρ b=some l/\l.G k=some o then w.heap[k]? else none
   obtain⟨g1,g2,g3⟩:=St.region (G:=G) h v x fun k o f=>by
    have f:(if ∃ b ∈ gs,∃ l o,ρ b=some l/\l.G k=some o then w.heap[k]? else none)=some o:=f;split at f
    .rename_i hex;obtain⟨b,d,l,D,t,y⟩:=hex;exact⟨f,b,_,l,h.dom _ _ t,e b d,t,⟨rfl,.inr ⟨rfl,D,y⟩⟩,rfl⟩
    .cases f
   refine⟨_,kH G,g3,B,KE h v x,g1,g2,fun b d l q k o f=>?_⟩;show(if ∃ b ∈ gs,∃ l o,ρ b=some l/\l.G k=some o then w.heap[k]? else none)=_;rw[A9 ⟨b,d,l,o,q,f⟩];exact(h.atl q (e b d)).1.2 k o f
  .cases c
 unfold jT at c;split at c
 .rename_i g0;obtain⟨h1,c⟩:=A3 c;cases c;obtain⟨l,q⟩:=A1E h h1;refine⟨ρ,l,St.refl h,rfl,.refl,q,dO h1,fun b d l2 p=>?_⟩;rcases B4.1 d with rfl|d
  .rw[q]at p
   have:=A8 p;subst this;exact fun _ _ h=>h
  .cases d
 .exact main c
omit [Ora] in
def fT{R:Nat->Option Obj}{v r:Value}(h:Enc R u v)(hr:toV u=some r):v=r:=by
 cases h with
 | sc h=>rw[h]at hr;exact A8 hr
 | nil=>cases hr
 | emp=>cases hr
 | sl=>cases hr
omit [Ora] in
def lZ{R:Nat->Option Obj}{v:Value}(h:Enc R u v):s5 v=true:=by
 cases h with
 | sc h=>have:=gT h;cases v<;>first|rfl|cases this
 | nil=>rfl
 | emp=>rfl
 | sl=>rfl
def A32{wd k:Nat}{rows:List (List U)} :evU (.get wd o) [.seq false wd rows,.int kk (.ofNat k)]=(rows.getD k []).getD o .none:=by
 simp[evU]
def getD_some(h:row.getD o .none≠.none):row[o]? = some (row.getD o .none):=by
 rw[B1]at *;cases e:row[o]? with
 | none=>rw[e]at h;exact absurd rfl h
 | some u=>rfl
def fR{wd o i t g k:Nat}{z:Value}{lg:Loc}{rows:List (List U)}{cell:Nat->Q6}(hi:Ora.env i=.seq false wd rows)(A:oW Ora.env z=some (.ofNat k))(l:ρ g=some lg)
  (E:∀ q u,(rows.getD k [])[q]? = some u->∃ v,cell q=some v/\Enc lg.G u v) :
  ∀ {ts:H1} {j:Nat} {m m':Mem} {r:D2},X9 wd o i t z g ts j m=some (r,m')->Sat m'.lg->∃ r',LR ρ r r'/\r'.length=ts.length/\(∀ q v',r'[q]? = some v'->cell (o+j+q)=some v')/\J9 m m'/\m.lg.le m'.lg
 | [],j,m,m',r,h,hS=>by
   cases h;exact⟨[],.nil,rfl,fun q v' h=>by simp at h,.refl _,.refl _⟩
 | tg::ts,j,m,m',r,h,hS=>by
   unfold X9 at h;obtain⟨kk,F⟩:=GY A;have f:[hole i t,z].map (D6 Ora.env)=[.seq false wd rows,.int kk (.ofNat k)]:=by
    simp only[C4,G0,F];show[Ora.env i,_]=_;rw[hi]
   have b:∀ {u:U},u≠.none->evU (.get wd (o+j)) ([hole i t,z].map (D6 Ora.env))=u->∃ v,cell (o+j)=some v/\Enc lg.G u v:=fun{u} hu he=>by
    rw[f,A32]at he;subst he;exact E _ _ (getD_some hu)
   cases B:Nat.blt tg 10 with
   | true =>
     rw[B]at h;simp only[E3]at h;have K:tg<10:=A1 B;split at h
     .rename_i hh m1 C;split at h
      .rename_i I m2 hr;cases h;obtain⟨r',n,p,x,y,d⟩:=fR hi A l E hr hS;obtain⟨u,f1,f2,v,f3,f4,f5⟩:=M4 C (hS.le d);obtain⟨v2,g1,g2⟩:=b (u:=u) (by intro e;subst e;cases f3) f1
       have:=fT g2 f3;subst this;refine⟨v2::r',.cons (f4 ρ) n,by simp[p],fun q v' c=>?_,(H4 C).trans y,(H7 C).trans d⟩;cases q with
       | zero=>simp at c;subst c;exact g1
       | succ q=>rw[show o+j+(q+1)=o+(j+1)+q by omega];exact x q v' (by simpa using c)
      .cases h
     .cases h
   | false =>
     rw[B]at h;simp only[D7]at h;rw[KA]at h;split at h
     .rename_i I m2 hr;cases h;obtain⟨r',n,p,x,y,d⟩:=fR hi A l E hr hS;obtain⟨f1,f2,J,H,D,f3,f4⟩:=jV hS d;obtain⟨v2,g1,g2⟩:=b (u:=Ora.env m.lg.nx) (by rw[f3];intro h;cases h) f1.symm;refine⟨v2::r',.cons (.dat l g2 f2 A2 (lZ g2)) n,by simp[p],fun q v' c=>?_,J9.trans ⟨_,rfl⟩ y,V7.trans d⟩;cases q with
      | zero=>simp at c;subst c;exact g1
      | succ q=>rw[show o+j+(q+1)=o+(j+1)+q by omega];exact x q v' (by simpa using c)
     .cases h
def iK{t:TypeId}(h:kP P t=some ts):G9 P t=some ts.length:=by
 unfold kP at h;split at h
 .rename_i l n h1 b;obtain⟨h3,h⟩:=A3 h;cases h;rw[b,A0 h3]
 .cases h
def ED{t:TypeId}{r:D2}{v:Value}{b:Nat}(g:kP P t=some ts)(d:mE P t (some (r,m))=some (v,m'))(f:LR ρ r r')(n:r'.length=ts.length)
  (k:∀ q v',r'[q]? = some v'->w.cell? ⟨b,o+q,none⟩=some v'):m'=m/\∃ v',(Instr.loadAt t (.pointer (some ⟨b,o,none⟩))).run P w=.ok v' w/\VR ρ v v':=by
 unfold mE at d;split at d
 .rename_i c heq;cases d;cases heq;obtain⟨v',x,rfl,l,p⟩:=f.tail;refine⟨rfl,v',?_,l⟩
  have:=k 0 v' rfl;simp[Instr.loadAt,Instr.sureAddr,loadVar,A4,bT c,Result.andThen,run_load,show w.cell? ⟨b,o,none⟩=some v' from by simpa using this]
 .rename_i c heq;cases d;cases heq;refine⟨rfl,.agg ⟨r'⟩,?_,.agg f.1 f.2⟩;have e:G9 P t=some r'.length:=by rw[n];exact iK g
  simp[Instr.loadAt,Instr.sureAddr,loadVar,A4,bT c,K9 e,Result.andThen,K2 rfl k]
 .cases d
def A0Q{t:TypeId}{x x' v:Value}(h:HR P base ρ m.H w)(n:JZ P m t x=some (v,m'))(hx:VR ρ x x')(Y:Sat m'.lg):(∃ r,(Instr.loadAt t x').run P w=.ok r w/\VR ρ v r)/\J9 m m'/\m.lg.le m'.lg:=by
 have F:∀ {r:Option (D2×Mem)},mE P t r=some (v,m')->∃ vs,r=some (vs,m'):=fun{r} K=>by
  unfold mE at K;split at K
  .cases K;exact⟨_,rfl⟩
  .cases K;exact⟨_,rfl⟩
  .cases K
 unfold JZ at n;split at n
 .rename_i b i tg z o ts y;obtain⟨h1,n⟩:=A3 n;obtain⟨⟨l,wd,rows,a,s,c,k,M,I,L,Q,N,e6,rfl⟩,Z⟩:=FU hx;obtain⟨vs,hr⟩:=F n;rw[hr]at n;have D:tg-10=wd:=by rw[<- Z,I];simp[G1]
  rw[D]at hr;have O:=(h.atl M (dO h1)).1.2;rw[I]at L;obtain⟨C,T,fz,f1,f2,f3,f4⟩:∃ C T fz,l.G a=some (.cells C T fz)/\s+rows.length*wd<=C.size/\(∀ row ∈ rows,row.length=wd)/\∀ (r:Nat) (row:List U) (j:Nat) (u:U) (v:Value),rows[r]? = some row->row[j]? = some u->C[s+r*wd+j]? = some v->Enc l.G u v:=by
   have B:rows≠[]:=by intro e;subst e;simp at N
   cases L with
   | sc h=>cases h
   | emp=>exact absurd rfl B
   | sl hc V hz hw hh=>exact⟨_,_,_,V B,hz B,hw,hh⟩
  have A:=O _ _ f1;have d:rows[k]? = some rows[k]:=A5 N;obtain⟨r',g1,g2,g3,g4,g5⟩:=fR (cell:=fun q=>w.cell? ⟨a,s+k*wd+q,none⟩) I Q M (fun q u f=>by
   rw[B1,d]at f;have f:rows[k][q]? = some u:=f;have E:=(B0.1 f).1;rw[f3 _ (D0 d)]at E;have R:(k+1)*wd<=rows.length*wd:=F6 wd N;rw[H5]at R;have p:s+k*wd+q<C.size:=A2;refine⟨C[s+k*wd+q],?_,f4 k _ q u _ d f (F3 p)⟩;simp[World.cell?,A,F3 p]) hr Y
  obtain⟨_,X⟩:=ED (w:=w) (b:=a) (o:=s+k*wd+o) y n g1 g2 (fun q v' f=>by
   have:=g3 q v' f;rw[show s+k*wd+o+q=s+k*wd+(o+0+q) by omega];exact this)
  exact⟨X,g4,g5⟩
 .rename_i b i tg z o ts y;split at n
  .rename_i c tc T g ro V;obtain⟨h1,n⟩:=A3 n;have h1:=A0 h1;subst h1;obtain⟨⟨l,wd,jN,k,M,I,L,Q,N,e6,rfl⟩,Z⟩:=wJ hx;obtain⟨vs,hr⟩:=F n;rw[hr]at n;obtain⟨J,inf,d1,d2,d3,d4⟩:=SqR.ex (h.atl M V).1;rcases d4 with⟨d4,_⟩|⟨_,d4⟩
   .rw[I]at d4;cases d4
   obtain⟨C,fz,T',rows,lg,f1,f2,f3,f4,f5,f6,f7,f8,f9⟩:=d4;have D:tc-10=J:=A2;rw[D]at hr;have W:k<rows.length:=A2;have d:rows[k]? = some rows[k]:=A5 W;have S:wd=J:=by
    have:G1 (Ora.env i)=10+wd:=by rw[L];rfl
    omega
   subst S;obtain⟨r',g1,g2,g3,g4,g5⟩:=fR (cell:=fun q=>w.cell? ⟨l.blk,l.sh+k*wd+q,none⟩) f2 Q f7 (fun q u f=>by
    rw[B1,d]at f;have f:rows[k][q]? = some u:=f;have E:=(B0.1 f).1;rw[f6 _ (D0 d)]at E;have R:(k+1)*wd<=l.cap*wd:=F6 wd A2;rw[H5]at R;have p:l.sh+k*wd+q<C.size:=A2;refine⟨C[l.sh+k*wd+q],?_,f8 k _ q u _ d f (F3 p)⟩;simp[World.cell?,f1,F3 p]) hr Y
   obtain⟨_,X⟩:=ED (w:=w) (b:=l.blk) (o:=l.sh+k*wd+o) y n g1 g2 (fun q v' f=>by
    have:=g3 q v' f;rw[show l.sh+k*wd+o+q=l.sh+k*wd+(o+0+q) by omega];exact this)
   exact⟨X,g4,g5⟩
  .cases n
 .cases n
end
end
section
open Go
variable [Ora]
section
variable {P:Program} {base:Nat} {ρ ρ':Ren} {m m':Mem} {w w':World}
def at0(a:Nat):Ren:=fun _=>some (lc a 0 0)
def VM{a s n c:Nat}(h:n<=c):VR (at0 a) (.slice (some ⟨0,s,none⟩) n (M9+1)) (.slice (some ⟨a,s,none⟩) n c) :=
 VR.op (ρ:=at0 a) (b:=0) (o:=s) (n:=n) (m:=M9+1) (m':=c) (l:=lc a 0 0) rfl (by unfold M9;omega) h (fun h=>by unfold M9 at h;omega)
def TH{a s:Nat}:VR (at0 a) (.pointer (some ⟨0,s,none⟩)) (.pointer (some ⟨a,s,none⟩)):=VR.ptr (ρ:=at0 a) (b:=0) (o:=s) (l:=lc a 0 0) rfl
def uG{t e:TypeId}{a s n c z sz:Nat}{k:IntKind}(hu:P.underlying t=some (.slice e))(hs:G9 P e=some sz)(f:z<n)(g:n<=c)(w:World) :
  (Instr.indexAt t (.slice (some ⟨a,s,none⟩) n c) (.int k (.ofNat z))).run P w=.ok (.pointer (some ⟨a,s+z*sz,none⟩)) w:=by
 have d:Nat.blt z n=true:=C6 f;have hm:X7 P t (.slice (some ⟨0,s,none⟩) n (M9+1)) (.int k (.ofNat z))=some (.pointer (some ⟨0,s+z*sz,none⟩)):=by
  simp only[X7,hu,hs,d,E3,bF,E7]
 obtain⟨v',g1,g2⟩:=cF (P:=P) hm (VM (a:=a) g) (.pure rfl) w;obtain⟨l2,b,_,rfl⟩:=O9 g2;cases b;exact g1
def qB{t e:TypeId}{a s n z sz:Nat}{k:IntKind}(hu:P.underlying t=some (.array n e))(hs:G9 P e=some sz)(d:z<n)(w:World) :
  (Instr.indexAt t (.pointer (some ⟨a,s,none⟩)) (.int k (.ofNat z))).run P w=.ok (.pointer (some ⟨a,s+z*sz,none⟩)) w:=by
 have c:Nat.blt z n=true:=C6 d;have hm:X7 P t (.pointer (some ⟨0,s,none⟩)) (.int k (.ofNat z))=some (.pointer (some ⟨0,s+z*sz,none⟩)):=by
  simp only[X7,hu,hs,c,E3,bF,E7]
 obtain⟨v',g1,g2⟩:=cF (P:=P) hm (TH (a:=a)) (.pure rfl) w;obtain⟨l2,b,_,rfl⟩:=O9 g2;cases b;exact g1
def uI{a z:Nat}{c:Array Field}{f:Field}(hu:P.underlying s=some (.struct c))(d:c.toList[i]? = some f)(e:G9 P f.type=some (z+1))(w:World) :
  (Instr.fieldAt s (.pointer (some ⟨a,o,none⟩)) i).run P w=.ok (.pointer (some ⟨a,o+f.offset,none⟩)) w:=by
 have hm:cG P s (.pointer (some ⟨0,o,none⟩)) i=some (.pointer (some ⟨0,o+f.offset,none⟩)):=by
  simp only[cG,hu,d,e,bF,E7]
 obtain⟨v',g1,g2⟩:=lV (P:=P) hm (TH (a:=a)) w;obtain⟨l2,b,_,rfl⟩:=O9 g2;cases b;exact g1
def FW{t wd:Nat}{g:Bool}{rows:List (List U)}{k v:Value}(h:KM m i t z k=some (v,m'))(hi:Ora.env i=.seq g wd rows)(J:t=10+wd)(G:VR ρ z z')(D:Sat m'.lg) :
  v=k/\(∃ kk n,z'=.int kk (.ofNat n)/\n<rows.length/\oW Ora.env z=some (.ofNat n))/\J9 m m'/\m.lg.le m'.lg:=by
 unfold KM at h;cases x:!(Nat.blt (G5 z) 8)with
 | true=>rw[x]at h;cases h
 | false =>
   have E:G5 z<8:=by
    have:Nat.blt (G5 z) 8=true:=by simpa using x
    exact A1 this
   rw[x]at h;simp only[D7]at h;split at h
   .rename_i b H n W hh lg B;split at h
    .rename_i l C;cases h;have e:=H7 B;have c:=eX C;obtain⟨u,d,I,r,q,F,_⟩:=M4 B (R6.le D c);have A:=mC C (F ρ) D;subst A;obtain⟨kk,y,rfl,f2,_⟩:=M6 G E;have f:[z,hole i t].map (D6 Ora.env)=[.int kk y,.seq g wd rows]:=by
      simp only[C4,G0,f2];show[_,Ora.env i]=_;rw[hi]
     rw[f]at d;have d:(if wd=t-10 then U.bool (decide (0<=y) && decide (y<rows.length))else U.none)=u:=d;rw[A9 A2]at d;subst d;have q:some (Value.bool (decide (0<=y) && decide (y<rows.length)))=some (.bool true):=q;have p:(decide (0<=y) && decide (y<rows.length))=true:=by simpa using q
     simp only[G6,decide_eq_true_eq]at p;obtain⟨n0,rfl⟩:∃ n0:Nat,y=.ofNat n0:=⟨y.toNat,by have:=dF p.1;exact this.symm⟩;refine⟨rfl,⟨kk,n0,rfl,?_,TI f2⟩,J9.trans (H4 B) ⟨l,rfl⟩,e.trans c⟩
     have:=p.2;have:(n0:Int)<rows.length:=this;omega
    .cases h
   .cases h
def A8K{G:Nat->Option Obj}{b:Bool}{wd:Nat}{rows:List (List U)}{v:Value}(h:Enc G (.seq b wd rows) v)(hr:rows≠[]):b=false/\∃ a o c,v=.slice (some ⟨a,o,none⟩) rows.length c/\rows.length<=c:=by
 cases h with
 | sc h=>cases h
 | nil=>exact absurd rfl hr
 | emp=>exact absurd rfl hr
 | sl d _ _ _ _=>exact⟨rfl,_,_,_,rfl,d⟩
def NI{t:Nat}(h:G1 u=t)(d:10<=t):u=.none∨∃ c wd rows,u=.seq c wd rows/\t=10+wd:=by
 cases u with
 | none=>exact .inl rfl
 | int k n=>have:=L7 k;simp[G1]at h;omega
 | bool b=>simp[G1]at h;omega
 | str s=>simp[G1]at h;omega
 | seq c wd rows=>exact .inr ⟨c,wd,rows,rfl,h.symm⟩
def fU{G:Nat->Option Obj}{v:Value}{t:Nat}(h:Enc G u v)(d:G1 u=t)(c:10<=t):∃ b wd rows,u=.seq b wd rows/\t=10+wd:=by
 rcases NI d c with rfl|h1
 .cases h with
  | sc h=>cases h
 .exact h1
def DI{t e:TypeId}{b s:Nat}{l:Loc}{v v':Value}(hu:P.underlying t=some (.slice e))(hs:G9 P e=some (s+1))(x:tg=10+(s+1))(h1:ρ b=some l)(f:Enc l.G (Ora.env i) v')(h3:G1 (Ora.env i)=tg)
  (h:KM m i tg z (dpt b i tg z 0)=some (v,m')) (A:VR ρ z z') (C:Sat m'.lg):(∃ r,(Instr.indexAt t v' z').run P w=.ok r w/\VR ρ v r)/\J9 m m'/\m.lg.le m'.lg:=by
 obtain⟨B,wd,rows,d,y⟩:=fU f h3 A2;obtain⟨rfl,⟨kk,n,rfl,k,q⟩,g1,g2⟩:=FW h d y A C;have g:wd=s+1:=A2;subst g;have p:rows≠[]:=by intro e;subst e;simp at k
 rw[d]at f;obtain⟨rfl,a,o,c,rfl,D⟩:=A8K f p;refine⟨⟨_,uG hu hs k D w,.dpt ⟨l,s+1,rows,a,o,c,n,h1,d,by rw[d];exact f,q,k,A2,by simp⟩ h3 rfl⟩,g1,g2⟩
def KK{t:TypeId}{x x' v:Value}(h:lS P m t x z=some (v,m'))(hx:VR ρ x x')(C:VR ρ z z')(G:Sat m'.lg):(∃ r,(Instr.indexAt t x' z').run P w=.ok r w/\VR ρ v r)/\J9 m m'/\m.lg.le m'.lg:=by
 unfold lS at h;split at h
 .rename_i e b i tg hu;split at h
  .rename_i s hs;obtain⟨g,h⟩:=A3 h;have g:=A0 g;obtain⟨E,d⟩:=fP hx;rcases E with⟨l,wd,h1,A,h3,rfl⟩|⟨l,wd,rows,h1,A,h3,O,I,rfl⟩
   .obtain⟨_,⟨kk,n,_,M,_⟩,_⟩:=FW h h3 (by rw[h3]at d;exact d.symm) C G;simp at M
   .have B:tg=10+wd:=by rw[h3]at d;exact d.symm
    obtain⟨rfl,⟨kk,n,rfl,M,L⟩,g1,g2⟩:=FW h h3 B C G;have p:wd=s+1:=A2;subst p;exact⟨⟨_,uG hu hs A2 I w,.opt ⟨l,s+1,rows,n,h1,A,h3,L,A2,A2,by simp⟩ d rfl⟩,g1,g2⟩
  .cases h
 .rename_i e b i tg hu;split at h
  .rename_i s hs;obtain⟨g,h⟩:=A3 h;have g:=A0 g;obtain⟨l,h1,A,h3,_⟩:=nH hx;exact DI hu hs g h1 A h3 h C G
  .cases h
 .rename_i e b i tg hu;split at h
  .rename_i s hs;obtain⟨g,h⟩:=A3 h;have g:=A0 g;obtain⟨l,h1,A,h3,_⟩:=fQ hx;exact DI hu hs g h1 A h3 h C G
  .cases h
 .rename_i n e b i tg y o hu;split at h
  .rename_i s kk k hs;obtain⟨f,h⟩:=A3 h;obtain⟨f,hw⟩:=B6 f;have f:=A1 f;have hw:o+k*s<tg-10:=A1 hw;rw[E7]at h;cases h;cases J3 C;obtain⟨⟨l,wd,rows,a,s0,c,q,H,B,F,K,J,N,rfl⟩,D⟩:=FU hx;have p:tg-10=wd:=by rw[<- D,B];simp[G1]
   refine⟨⟨_,qB hu hs f w,.dpt ⟨l,wd,rows,a,s0,c,q,H,B,F,K,J,A2,by simp⟩ D rfl⟩,.refl _,.refl _⟩
  .cases h
 .rename_i n e b i tg y o hu;split at h
  .rename_i s kk k hs;obtain⟨f,h⟩:=A3 h;obtain⟨f,hw⟩:=B6 f;have f:=A1 f;have hw:o+k*s<tg-10:=A1 hw;rw[E7]at h;cases h;cases J3 C;obtain⟨⟨l,wd,rows,q,H,B,F,K,J,N,rfl⟩,D⟩:=wJ hx;have p:tg-10=wd:=by rw[<- D,F];simp[G1]
   refine⟨⟨_,qB hu hs f w,.opt ⟨l,wd,rows,q,H,B,F,K,J,A2,by simp⟩ D rfl⟩,.refl _,.refl _⟩
  .cases h
 .cases h
def LA{x x' v:Value}{f:Nat}(h:lW P m s x f=some (v,m'))(hx:VR ρ x x'):(∃ r,(Instr.fieldAt s x' f).run P w=.ok r w/\VR ρ v r)/\m'=m:=by
 unfold lW at h;split at h
 .rename_i D b i tg y o hu;split at h
  .rename_i fd A;split at h
   .rename_i z B;obtain⟨hw,h⟩:=A3 h;have hw:o+fd.offset<tg-10:=A1 hw;rw[E7]at h;cases h;obtain⟨⟨l,wd,rows,a,s0,c,q,k,e,g,t,p,C,rfl⟩,d⟩:=FU hx;have n:tg-10=wd:=by rw[<- d,e];simp[G1]
    exact⟨⟨_,uI hu A B w,.dpt ⟨l,wd,rows,a,s0,c,q,k,e,g,t,p,A2,by simp⟩ d rfl⟩,rfl⟩
   .cases h
  .cases h
 .rename_i D b i tg y o hu;split at h
  .rename_i fd A;split at h
   .rename_i z B;obtain⟨hw,h⟩:=A3 h;have hw:o+fd.offset<tg-10:=A1 hw;rw[E7]at h;cases h;obtain⟨⟨l,wd,rows,q,k,e,g,t,p,C,rfl⟩,d⟩:=wJ hx;have n:tg-10=wd:=by rw[<- d,g];simp[G1]
    exact⟨⟨_,uI hu A B w,.opt ⟨l,wd,rows,q,k,e,g,t,p,A2,by simp⟩ d rfl⟩,rfl⟩
   .cases h
  .cases h
 .cases h
end
end
section
open Go
variable [Ora]
section
variable {P:Program} {base:Nat} {ρ ρ':Ren} {m m':Mem} {w w':World}
def t6{G:Nat->Option Obj}{b:Bool}{wd:Nat}{rows:List (List U)}{v:Value}(h:Enc G (.seq b wd rows) v):(b=true/\rows=[]/\v=.slice none 0 0)∨(b=false/\∃ (a:Addr) (c:Nat),v=.slice (some a) rows.length c/\rows.length<=c):=by
 cases h with
 | sc h=>cases h
 | nil=>exact .inl ⟨rfl,rfl,rfl⟩
 | emp=>exact .inr ⟨rfl,_,_,rfl,A6 _⟩
 | sl d _ _ _ _=>exact .inr ⟨rfl,_,_,rfl,d⟩
def kV{t e:TypeId}{a:Option Addr}{n c:Nat}(hu:P.underlying t=some (.slice e))(w:World):(Builtin.len_ ⟨t::tys⟩ ty #[.slice a n c]).run P w=.ok (.int .i64 n) w:=by
 simp[Builtin.len_,A4,D1 hu,Result.andThen,goInt]
def A3U{t:Nat}{v:Value}{c:Bool}{wd:Nat}{rows:List (List U)}(h:U1 m 3 .len [hole i t]=some (v,m'))(hi:Ora.env i=.seq c wd rows)(e:Sat m'.lg):VR ρ v (.int .i64 rows.length)/\J9 m m'/\m.lg.le m'.lg/\D6 Ora.env v=.int .i64 rows.length:=by
 obtain⟨u,d,n,r,f,g,k⟩:=M4 h e;have b:[hole i t].map (D6 Ora.env)=[.seq c wd rows]:=by
  show[Ora.env i]=_;rw[hi]
 rw[b]at d;have d:U.int .i64 rows.length=u:=d;subst d;cases f;refine⟨g ρ,H4 h,H7 h,?_⟩;obtain⟨rfl,rfl⟩:=iU h;obtain⟨h1,l,h3⟩:=e (.lt m.lg.nx 3 .len [hole i t]) (by cases m;exact B3);show Ora.env m.lg.nx=_;rw[h1,b];rfl
def lU{i j:Nat}:∀ {l:List j8},rX i l=some j->∃ tg,j8.lt j 3 .len [hole i tg] ∈ l
 | [],h=>by cases h
 | e::r,h=>by
   unfold rX at h;split at h
   .cases h
   .rename_i f t k tg r' he;cases he;cases c:Nat.beq k i && Nat.beq t 3 with
    | true =>
      rw[c]at h;cases h;obtain⟨h1,d⟩:=B6 c;have h1:=A0 h1;have d:=A0 d;subst h1;subst d;exact⟨tg,.head _⟩
    | false =>
      rw[c]at h;obtain⟨b,h3⟩:=lU h;exact⟨b,.tail _ h3⟩
   .rename_i he;cases he;obtain⟨b,h3⟩:=lU h;exact⟨b,.tail _ h3⟩
def bJ{t:Nat}{v:Value}(h:FK m i t=some (v,m')):J9 m m'/\m.lg.le m'.lg:=by
 unfold FK at h;split at h
 .cases h;exact⟨J9.refl _,.refl _⟩
 .exact⟨H4 h,H7 h⟩
def lO{t:Nat}{v:Value}{c:Bool}{wd:Nat}{rows:List (List U)}(h:FK m i t=some (v,m'))(hi:Ora.env i=.seq c wd rows)(d:Sat m'.lg):VR ρ v (.int .i64 rows.length)/\J9 m m'/\m.lg.le m'.lg/\D6 Ora.env v=.int .i64 rows.length:=by
 unfold FK at h;split at h
 .rename_i j e;cases h;obtain⟨tg,hm⟩:=lU e;obtain⟨h1,f,_⟩:=d _ hm;have b:[hole i tg].map (D6 Ora.env)=[.seq c wd rows]:=by
   show[Ora.env i]=_;rw[hi]
  rw[b]at h1;have h1:Ora.env j=.int .i64 rows.length:=h1;refine⟨.hole ?_ ?_,J9.refl _,.refl _,h1⟩
  .rw[h1];rfl
  .rw[h1];rfl
 .exact A3U h hi d
def UM{b:Nat}{v':Value}(h:ZU ρ b u v'):∃ d wd rows a c,u=.seq d wd rows/\v'=.slice a rows.length c:=by
 rcases h with⟨l,wd,h1,g,h3,rfl⟩|⟨l,wd,rows,h1,g,h3,e,f,rfl⟩
 .exact⟨_,_,_,_,_,h3,rfl⟩
 .exact⟨_,_,_,_,_,h3,by rw[e]⟩
def A3V{t:TypeId}{x x' v:Value}(h:A3W P m t x=some (v,m'))(hx:VR ρ x x')(n:Sat m'.lg):(∃ r,(Builtin.len_ ⟨t::tys⟩ ty #[x']).run P w=.ok r w/\VR ρ v r)/\J9 m m'/\m.lg.le m'.lg:=by
 unfold A3W at h;split at h
 .rename_i e b i tg hu;obtain⟨l,h1,f,h3,k⟩:=nH hx;obtain⟨g,wd,rows,d,_⟩:=fU f h3 k;obtain⟨g1,g2,g3,_⟩:=lO (ρ:=ρ) h d n;rw[d]at f;rcases t6 f with⟨rfl,rfl,rfl⟩|⟨rfl,a,c,rfl,_⟩
  .exact⟨⟨_,kV hu w,g1⟩,g2,g3⟩
  .exact⟨⟨_,kV hu w,g1⟩,g2,g3⟩
 .rename_i e b i tg hu;obtain⟨l,h1,f,h3,k,_⟩:=fQ hx;obtain⟨g,wd,rows,d,_⟩:=fU f h3 k;obtain⟨g1,g2,g3,_⟩:=lO (ρ:=ρ) h d n;rw[d]at f;rcases t6 f with⟨rfl,rfl,rfl⟩|⟨rfl,a,c,rfl,_⟩
  .exact⟨⟨_,kV hu w,g1⟩,g2,g3⟩
  .exact⟨⟨_,kV hu w,g1⟩,g2,g3⟩
 .rename_i e b i tg hu;obtain⟨g,wd,rows,a,c,d,rfl⟩:=UM (fP hx).1;obtain⟨g1,g2,g3,_⟩:=lO (ρ:=ρ) h d n;exact⟨⟨_,kV hu w,g1⟩,g2,g3⟩
 .cases h
def CW{v v':Value}{n:Nat}(hv:VR ρ v v')(c:yV v=true)(b:D6 Ora.env v=.int kk (.ofNat n)):∃ j,v'=.int j (.ofNat n):=by
 obtain⟨k,z,rfl,f2,_⟩:=M6 hv (A1 c);rw[f2]at b;injection b with _ hb
 exact⟨k,by rw[hb]⟩
def XD{h x d x':Value}(hs:QF h x=true)(h1:VR ρ h d)(e:VR ρ x x'):d=x':=by
 unfold QF at hs;split at hs
 .rename_i i t1 j t2
  have:=A0 hs;subst this;have hh:∀ {t:Nat} {v:Value},VR ρ (.complex .f64 i t) v->toV (Ora.env i)=some v:=fun{t v} h=>by
   cases h with
   | pure hp=>simp[I4]at hp
   | hole h _=>exact h
  have a:=hh h1;rw[hh e]at a;exact(A8 a).symm
 .obtain⟨c,b⟩:=B6 hs;have c:=gX c;rw[bW]at b;have b:=eq_of_beq b;subst c;subst b;cases J3 h1;cases J3 e;rfl
 .cases hs
def A1U{wd v:Nat}{d:Bool}{rows:List (List U)}{a b:U}(c:evU (.subs wd) [.seq d v rows,a,b]≠.none):∃ f l g h,a=.int f (.ofNat l)/\b=.int g (.ofNat h)/\v=wd/\l<=h/\h<=rows.length:=by
 cases a with
 | int f k=>cases k with
   | ofNat l=>cases b with
     | int g z2=>cases z2 with
       | ofNat h =>
         have c:(if v=wd/\l<=h/\h<=rows.length then U.seq d wd ((rows.drop l).take (h-l))else .none)≠.none:=c;by_cases e:v=wd/\l<=h/\h<=rows.length
         .exact⟨f,l,g,h,rfl,rfl,e.1,e.2.1,e.2.2⟩
         .rw[A7 e]at c;exact(c rfl).elim
       | negSucc _=>exact(c rfl).elim
     | _=>exact(c rfl).elim
   | negSucc _=>exact(c rfl).elim
 | _=>exact(c rfl).elim
def A36{G:Nat->Option Obj}{q:Bool}{wd l h mm n c:Nat}{rows:List (List U)}{a:Option Addr}(he:Enc G (.seq q wd rows) (.slice a n c))(M:l<=h)(hh:h<=rows.length)(hm:h<=mm)(L:mm<=c) :
  Enc G (.seq q wd ((rows.drop l).take (h-l))) (.slice (if mm=l then a else a.map (·.add (l*wd))) (h-l) (mm-l))∨a=none:=by
 cases he with
 | sc h=>cases h
 | nil=>exact .inr rfl
 | emp =>
   rename_i a;have f:h=0:=by simpa using hh
   subst f;have g:l=0:=A2;subst g;have I:mm=0:=A2;subst I;exact .inl .emp
 | sl N E K hw k =>
   rename_i a o C T fz;refine .inl ?_;have hlen:((rows.drop l).take (h-l)).length=h-l:=by simp;omega
   have key:∀ b x,(h-l≠0->b=a/\x=o+l*wd)->Enc G (.seq false wd ((rows.drop l).take (h-l))) (.slice (some ⟨b,x,none⟩) (h-l) (mm-l)):=fun b x A=>by
    have y:∀ r row,((rows.drop l).take (h-l))[r]? = some row->h-l≠0/\rows[l+r]? = some row:=fun r row hr=>by
     have p:=(B0.1 hr).1;rw[hlen]at p;rw[E8 p,H8]at hr;exact⟨A2,hr⟩
    have d:(rows.drop l).take (h-l)≠[]->h-l≠0/\rows≠[]:=fun d=>by
     constructor
     .intro e;rw[e]at d;simp at d
     .intro e;subst e;simp at d
    have:=Enc.sl (G:=G) (w:=wd) (rows:=(rows.drop l).take (h-l)) (a:=b) (o:=x) (c:=mm-l) (C:=C) (T:=T) (fz:=fz) A2
     (fun B=>by obtain⟨f,g⟩:=d B;rw[(A f).1];exact E g)
     (fun B=>by
       obtain⟨f,g⟩:=d B;rw[hlen,(A f).2];have h1:=K g;have F:(l+(h-l))*wd<=rows.length*wd:=F6 wd A2;rw[H5]at F;omega)
     (fun row hr=>hw row (cM (List.mem_of_mem_take hr)))
     (fun r row j u v H J D=>by
       obtain⟨f,g⟩:=y r row H;rw[(A f).2]at D;refine k (l+r) row j u v g J ?_;rw[H5,show o+(l*wd+r*wd)+j=o+l*wd+r*wd+j by omega];exact D)
    rw[hlen]at this;exact this
   by_cases t:mm=l
   .rw[A9 t];exact key a o fun h=>by omega
   .rw[A7 t];have e:(Addr.mk a o none).add (l*wd)=⟨a,o+l*wd,none⟩:=by
     unfold Addr.add;split
     .rename_i h;rw[h];rfl
     .rfl
    show Enc G _ (.slice (some ((Addr.mk a o none).add (l*wd))) _ _);rw[e];exact key a (o+l*wd) fun _=>⟨rfl,rfl⟩
def GL{t e:TypeId}{b s:Nat}{l:Loc}{hi:Q6}{v x':Value}(hu:P.underlying t=some (.slice e))(hs:G9 P e=some s)(ak:tg=10+s)(h1:ρ b=some l)(F:Enc l.G (Ora.env i) x')(h3:G1 (Ora.env i)=tg)
  (au:cl=true->A1x x') (h:LI m b i tg cl lo hi mx=some (v,m')) (S:OR ρ lo lo') (Q:OR ρ hi hi') (J:OR ρ mx mx') (hS:Sat m'.lg):(∃ r,(Instr.sliceAt t x' lo' hi' mx').run P w=.ok r w/\VR ρ v r)/\J9 m m'/\m.lg.le m'.lg:=by
 have d:∀ {o:Q6},OR ρ none o->o=none:=fun{o} h=>by cases o<;>first|rfl|exact h.elim
 have f:∀ {y:Value} {o:Q6},OR ρ (some y) o->∃ Y,o=some Y/\VR ρ y Y:=fun{y o} h=>by cases o<;>first|exact h.elim|exact⟨_,rfl,h⟩
 obtain⟨L,wd,rows,e1,e2⟩:=fU F h3 A2;have ax:wd=s:=A2;subst ax;rw[e1]at F;obtain⟨a,n,c,ay,hn,an⟩:∃ a n c,x'=.slice a n c/\n=rows.length/\n<=c:=by
  rcases t6 F with⟨rfl,rfl,rfl⟩|⟨rfl,a,c,rfl,hc⟩
  .exact⟨_,_,_,rfl,rfl,A6 _⟩
  .exact⟨_,_,_,rfl,rfl,hc⟩
 subst ay;have go:∀ {m:Mem} {p hv:Value} {cc:Bool} {C:Q6} {hh mm:Nat},fV m b i tg p hv cc=some (v,m') ->
   (C=none/\p=.int .i64 0∨∃ y,C=some y/\VR ρ p y)->(∀ kk q,D6 Ora.env hv=.int kk (.ofNat q)->q<=rows.length->q=hh/\Bd mx' c c mm/\(hi'=none->mx'=none)/\Bd hi' mm n hh/\hh<=mm/\(cc=true->mm=hh)) ->
   (∃ r,(Instr.sliceAt t (.slice a n c) C hi' mx').run P w=.ok r w/\VR ρ v r)/\J9 m m'/\m.lg.le m'.lg:=fun{m p hv cc C hh mm} h E ar=>by
  unfold fV at h;obtain⟨hint,h⟩:=A3 h;obtain⟨Z,ai⟩:=B6 hint;rw[N9]at h;simp only[D3,L5]at h;obtain⟨rfl,rfl⟩:=h;obtain⟨f1,f2,ao,al,aq,f3,f4⟩:=jV hS (.refl _);have N:[hole i tg,p,hv].map (D6 Ora.env)=[.seq L wd rows,D6 Ora.env p,D6 Ora.env hv]:=by
   show[Ora.env i,_,_]=_;rw[e1]
  rw[N]at f1;have az:tg-10=wd:=A2;rw[az]at f1;obtain⟨W,l0,T,h0,a1,a2,a3,a4⟩:∃ W l0 T h0,D6 Ora.env p=.int W (.ofNat l0)/\D6 Ora.env hv=.int T (.ofNat h0)/\l0<=h0/\h0<=rows.length:=by
   have av:evU (.subs wd) [.seq L wd rows,D6 Ora.env p,D6 Ora.env hv]≠.none:=by rw[<- f1,f3];intro h;cases h
   obtain⟨W,l0,T,h0,X,A,_,q3,q4⟩:=A1U av;exact⟨W,l0,T,h0,X,A,q3,q4⟩
  rw[a1,a2]at f1;have f1:Ora.env m.lg.nx=if wd=wd/\l0<=h0/\h0<=rows.length then U.seq L wd ((rows.drop l0).take (h0-l0))else .none:=f1
  rw[A9 ⟨rfl,a3,a4⟩]at f1;obtain⟨rfl,O,b2,b3,b4,b5⟩:=ar T h0 a2 a4;have b6:Bd C h0 0 l0:=by
   rcases E with⟨rfl,rfl⟩|⟨y,rfl,hy⟩
   .cases a1;exact .inl ⟨rfl,rfl⟩
   .obtain⟨j,rfl⟩:=CW hy Z a1;exact .inr ⟨j,rfl,a3⟩
  have R:=uF (P:=P) (a:=a) (n:=n) (c:=c) hu hs O b2 b3 b6 w;have I:Enc l.G (Ora.env m.lg.nx) (.slice (if mm=l0 then a else a.map (·.add (l0*wd))) (h0-l0) (mm-l0)):=by
   rw[f1];rcases A36 (mm:=mm) F a3 a4 b4 (by rcases O with⟨_,rfl⟩|⟨_,_,O⟩<;>omega)with he|rfl
   .exact he
   .rcases t6 F with⟨rfl,rfl,H⟩|⟨_,_,_,H,_⟩
    .cases H;have z1:h0=0:=by simp at a4;exact a4
     have z2:l0=0:=A2;have z3:mm=0:=by
      rcases O with⟨_,rfl⟩|⟨_,_,O⟩<;>omega
     subst z1;subst z2;subst z3;exact .nil
    .cases H
  refine⟨⟨_,R,?_⟩,⟨_,rfl⟩,V7⟩;cases cc with
  | false=>exact .dat h1 I f2 A2 rfl
  | true =>
    refine .clp h1 I f2 A2 rfl ?_;show mm-l0=h0-l0;rw[b5 rfl]
 have B:∀ {hv y:Value} {kk:IntKind} {q:Nat},VR ρ hv y->yV hv=true->D6 Ora.env hv=.int kk (.ofNat q)->∃ j,y=.int j (.ofNat q):=fun h1 F h3=>CW h1 F h3
 have g:∀ {m:Mem} {p hv:Value} {cc:Bool},fV m b i tg p hv cc=some (v,m')->yV hv=true:=fun h=>by
  unfold fV at h;exact(B6 (A3 h).1).2
 have main:∀ p,(lo'=none/\p=.int .i64 0∨∃ y,lo'=some y/\VR ρ p y)->LH m b i tg cl p hi mx=some (v,m')->(∃ r,(Instr.sliceAt t (.slice a n c) lo' hi' mx').run P w=.ok r w/\VR ρ v r)/\J9 m m'/\m.lg.le m'.lg:=fun p E h=>by
  cases hi with
  | some hv =>
    obtain⟨aj,rfl,D⟩:=f Q;cases mx with
    | none =>
      cases d J;have h:fV m b i tg p hv false=some (v,m'):=h;have hint:=g h;obtain⟨kk,q,H⟩:∃ kk q,D6 Ora.env hv=.int kk q:=by
       obtain⟨k,z,_,f2,_⟩:=M6 D (A1 hint);exact⟨k,z,f2⟩
      exact go (hh:=q.toNat) (mm:=c) h E fun M A h1 F=>by
       rw[H]at h1;injection h1 with _ h1
       subst h1;obtain⟨j,rfl⟩:=B D hint H;have e:(Int.ofNat A).toNat=A:=rfl;rw[e];exact⟨rfl,.inl ⟨rfl,rfl⟩,fun h=>(by cases h),.inr ⟨j,rfl,A2⟩,A2,fun h=>by cases h⟩
    | some x =>
      obtain⟨x',rfl,aw⟩:=f J;have h:(bif QF hv x then fV m b i tg p hv true else none)=some (v,m'):=h;obtain⟨K,h⟩:=A3 h;have hint:=g h
      have:=XD K D aw;subst this;obtain⟨kk,q,H⟩:∃ kk q,D6 Ora.env hv=.int kk q:=by
       obtain⟨k,z,_,f2,_⟩:=M6 D (A1 hint);exact⟨k,z,f2⟩
      exact go (hh:=q.toNat) (mm:=q.toNat) h E fun M A h1 F=>by
       rw[H]at h1;injection h1 with _ h1
       subst h1;obtain⟨j,rfl⟩:=B D hint H;have e:(Int.ofNat A).toNat=A:=rfl;rw[e];exact⟨rfl,.inr ⟨j,rfl,A2⟩,fun h=>(by cases h),.inr ⟨j,rfl,A6 _⟩,A6 _,fun _=>rfl⟩
  | none =>
    cases d Q;cases mx with
    | some x=>cases h
    | none =>
      cases d J;unfold LH at h;simp only at h;split at h
      .rename_i hv m1 hl;have V:J9 m1 m'/\m1.lg.le m'.lg:=by
        unfold fV at h;obtain⟨_,h⟩:=A3 h;rw[N9]at h;simp only[D3,L5]at h;obtain⟨_,rfl⟩:=h;exact⟨⟨_,rfl⟩,V7⟩
       obtain⟨X,A,q3,q4⟩:=lO (ρ:=ρ) hl e1 (hS.le V.2);obtain⟨r1,r2,r3⟩:=go (hh:=rows.length) (mm:=c) h E fun M A h1 F=>by
        rw[q4]at h1;injection h1 with _ h1
        have h1:((rows.length:Nat):Int)=(A:Nat):=h1;have:A=rows.length:=A2;subst this;refine⟨rfl,.inl ⟨rfl,rfl⟩,fun _=>rfl,.inl ⟨rfl,hn.symm⟩,A2,fun hc=>?_⟩
        have:=au hc;have:c=n:=this;omega
       exact⟨r1,A.trans r2,q3.trans r3⟩
      .cases h
 cases lo with
 | none=>exact main _ (.inl ⟨d S,rfl⟩) h
 | some y=>obtain⟨Y,X,A⟩:=f S;exact main _ (.inr ⟨Y,X,A⟩) h
end
end
section
open Go
variable [Ora]
section
variable {P:Program} {base:Nat} {ρ ρ':Ren} {m m':Mem} {w w':World}
def P1(R:Nat->Option Obj)(rows:List (List U))(wd:Nat)(C:Array Value)(o:Nat):Prop :=
 (∀ row ∈ rows,row.length=wd)/\∀ (r:Nat) (row:List U) (j:Nat) (u:U) (v:Value),rows[r]? = some row->row[j]? = some u->C[o+r*wd+j]? = some v->Enc R u v
def P1.mono{R d:Nat->Option Obj}{rows:List (List U)}{wd:Nat}{C:V9}(h:P1 R rows wd C o)(hs:Sub R d):P1 d rows wd C o:=⟨h.1,fun r row j u v a b c=>(h.2 r row j u v a b c).mono hs⟩
def P1.nil{R:Nat->Option Obj}{wd:Nat}{C:V9}:P1 R [] wd C o:=⟨fun _ h=>by(cases h),fun r row j u v h=>by simp at h⟩
def nP{wd:Nat}:∀ {n:Nat} {l:List U} {r:List (List U)},d9 wd n l=some r->r.length=n/\l.length=n*wd/\(∀ row ∈ r,row.length=wd)/\∀ (q:Nat) (row:List U) (j:Nat) (u:U),r[q]? = some row->row[j]? = some u->l[q*wd+j]? = some u
 | 0,[],r,h=>by cases h;exact⟨rfl,by simp,fun _ h=>(by cases h),fun q row j u h=>by simp at h⟩
 | 0,_::_,r,h=>by cases h
 | n+1,l,r,h=>by
   unfold d9 at h;split at h
   .rename_i hle;split at h
    .rename_i g hr;cases h;obtain⟨h1,c,h3,e⟩:=nP hr;have f:l.length=(n+1)*wd:=by
      rw[E9]at c;rw[H5];omega
     refine⟨by simp[h1],f,fun row b=>?_,fun q row j u g1 g2=>?_⟩
     .rcases B4.1 b with rfl|b
      .simp;omega
      .exact h3 row b
     .cases q with
      | zero =>
        simp at g1;subst g1;have d:=(B0.1 g2).1;simp at d;rw[E8 A2]at g2
        simpa using g2
      | succ q =>
        have:=e q row j u (by simpa using g1) g2;rw[H8]at this;rw[show(q+1)*wd+j=wd+(q*wd+j) by rw[H5];omega];exact this
    .cases h
   .cases h
def oR{wd:Nat}:∀ (n:Nat) (l:List U),l.length=n*wd->∃ r,d9 wd n l=some r
 | 0,[],_=>⟨[],rfl⟩
 | 0,_::_,h=>by simp at h
 | n+1,l,h=>by
   rw[H5]at h;obtain⟨r,hr⟩:=oR (wd:=wd) n (l.drop wd) (by rw[E9];omega);refine⟨l.take wd::r,?_⟩;unfold d9;rw[A9 A2,hr]
def nX{R:Nat->Option Obj}{wd n:Nat}{rows:List (List U)}(h:Z0 R us vs)(c:d9 wd n us=some rows):P1 R rows wd ⟨vs⟩ 0:=by
 obtain⟨h1,d,h3,b⟩:=nP c;refine⟨h3,fun r row j u v g1 g2 g3=>h.2 _ u v (b r row j u g1 g2) ?_⟩
 simpa using g3
def xS{α:Type}{l:List α}:∀ n,(NK l n).length=n*l.length
 | 0=>by simp[NK]
 | n+1=>by simp[NK,xS n,H5];omega
def gZ(s:List UInt8):(jM s).length=s.length:=by simp[jM]
def IQ{R:Nat->Option Obj}(s:List UInt8):P1 R (jM s) 1 ⟨P6 s⟩ 0:=by
 refine⟨fun row hr=>?_,fun r row j u v g1 g2 g3=>?_⟩
 .unfold jM at hr;obtain⟨b,_,rfl⟩:=I1.1 hr;rfl
 .unfold jM at g1;rw[G2]at g1;cases c:s[r]? with
  | none=>rw[c]at g1;cases g1
  | some b =>
    rw[c]at g1;simp only[L3,D3]at g1;subst g1;cases j with
    | zero =>
      simp at g2;subst g2;have g3:(P6 s)[0+r*1+0]? = some v:=by simpa using g3
      unfold P6 at g3;rw[G2,show 0+r*1+0=r by omega,c]at g3;simp only[L3,D3]at g3;subst g3;exact .sc rfl
    | succ j=>simp at g2
def tR{G:Nat->Option Obj}{wd n c:Nat}{rows:List (List U)}(h:Enc G (.seq false wd rows) (.slice (some a) n c))(F:∀ k A,G k=some A->w.heap[k]? = some A) :
  n=rows.length/\∃ new',new'.length=rows.length*wd/\new'.all s5=true/\P1 G rows wd ⟨new'⟩ 0/\∀ (j:Nat) (v':Value),new'[j]? = some v'->w.cell? (a.add j)=some v':=by
 cases h with
 | sc h=>cases h
 | emp=>exact⟨rfl,[],by simp,rfl,.nil,fun j v' h=>by simp at h⟩
 | sl J D B hw f =>
   rename_i a o C T fz;refine⟨rfl,?_⟩;cases hr:rows with
   | nil=>exact⟨[],by simp,rfl,.nil,fun j v' h=>by simp at h⟩
   | cons H I =>
     have l:rows≠[]:=by rw[hr];simp
     rw[<- hr];have hh:=F _ _ (D l);have B:=B l;have hlen:((C.toList.drop o).take (rows.length*wd)).length=rows.length*wd:=by simp;omega
     have b:∀ j,j<rows.length*wd->((C.toList.drop o).take (rows.length*wd))[j]? = C[o+j]? := fun j d=>by
      rw[E8 d,H8];simp
     refine⟨_,hlen,?_,⟨hw,fun r row j u v g1 g2 g3=>?_⟩,fun j v' d=>?_⟩
     .refine D4.2 fun v hv=>?_
      obtain⟨j,d,e⟩:=e9 hv;rw[hlen]at d;have y:C[o+j]? = some v:=by rw[<- b j d,A5 (by rw[hlen];exact d),e]
      have g:0<wd:=by
       rcases S8 wd with h0|h0
       .subst h0;omega
       .exact h0
      have h1:j / wd<rows.length:=by rw[Nat.div_lt_iff_lt_mul g];exact d
      have x:(rows[j / wd]).length=wd:=hw _ (N6 h1);have h3:j%wd<wd:=oY _ g;refine lZ (f (j / wd) rows[j / wd] (j%wd) (rows[j / wd])[j%wd] v (A5 h1) (A5 (by rw[x];exact h3)) ?_);have:o+j / wd*wd+j%wd=o+j:=by have:=Nat.div_add_mod j wd;rw[aV]at this;omega
      rw[this];exact y
     .have E:0+r*wd+j<rows.length*wd:=by
       have q:=(B0.1 g1).1;have t:=(B0.1 g2).1;rw[hw _ (D0 g1)]at t;have x:(r+1)*wd<=rows.length*wd:=F6 wd q;rw[H5]at x;omega
      have g3:((C.toList.drop o).take (rows.length*wd))[0+r*wd+j]? = some v:=by simpa using g3
      rw[b _ E]at g3;exact f r row j u v g1 g2 (by rw[show o+r*wd+j=o+(0+r*wd+j) by omega];exact g3)
     .have p:=(B0.1 d).1;rw[hlen]at p;rw[b j p]at d;rw[K2.add_none'];simp[World.cell?,hh,d]
structure VO (P:Program) (ρ':Ren) (w:World) (wd:Nat) (bh:Beh) (gs:List Nat) (y':Value) (rows2:List (List U)) (new':List Value):Prop where
 len:∀ wd',(Builtin.lenOf y').run P wd'=.ok rows2.length wd'
 first:∀ wd':World,wd'.heap=w.heap->(Builtin.firstCells wd rows2.length y').run P wd'=.ok ⟨new'⟩ wd'
 size:new'.length=rows2.length*wd
 flat:new'.all s5=true
 rows:∀ R,(∀ b ∈ gs,∀ l,ρ' b=some l->Sub l.G R)->P1 R rows2 wd ⟨new'⟩ 0
 ev:∀ c nul rows,Ora.env c=.seq nul wd rows->evU (dA wd (hole c (10+wd)) bh).1 ((dA wd (hole c (10+wd)) bh).2.map (D6 Ora.env))=mB nul wd rows rows2
def DH{R:Nat->Option Obj}(h:Z0 R us vs):vs.all s5=true:=by
 refine D4.2 fun v hv=>?_
 obtain⟨j,b,e⟩:=e9 hv;have hu:j<us.length:=by rw[h.1];exact b
 exact lZ (h.2 j us[j] v (A5 hu) (by rw[A5 b,e]))
def TG{td:Td}(N:AK P td){e:TypeId}{wd:Nat}{y y':Value}{bh:Beh}{gs:H1}(h:HR P base ρ m.H w)(p:A2B td P m e wd y=some (bh,gs,sure,m'))(hf:K1 ρ m.n m'.hi)(Q:VR ρ y y')(hS:Sat m'.lg)(X:0<wd)(az:G9 P e=some wd) :
  ∃ ρ' d new',St P base ρ ρ' m m' w w/\m.lg.le m'.lg/\j9 ρ m m'/\(∀ b ∈ gs,Hp.get m'.H b=some .frz/\∃ l,ρ' b=some l)/\VO P ρ' w wd bh gs y' d new'/\(sure=true->d≠[]):=by
 unfold A2B at p;split at p
 .cases p;cases P8 Q;refine⟨ρ,[],[],St.refl h,.refl _,.refl,fun b C=>(by cases C),⟨fun _=>rfl,fun _ _=>rfl,by simp,rfl,fun R _=>.nil,fun c g rows B=>?_⟩,fun h=>by cases h⟩;show evU (.snoc wd) [Ora.env c]=_;rw[B];show(if wd=wd/\wd≠0 then(match d9 wd (([]:List U).length / wd) []with|some r=>mB g wd rows r|none=>.none)else .none)=_;rw[A9 ⟨rfl,A2⟩,N1,Nat.zero_div];rfl
 .rename_i a n c;split at p
  .rename_i cs ts hr S;split at p
   .rename_i xs aw m2 hd;cases p;have V:eK m wd (.slice (some a) n c)=some (n,cs):=by simp only[eK,hr]
    obtain⟨f1,new',f2,f3⟩:=uT h V Q;obtain⟨ρ2,D,M,O,t,Z,K⟩:=iJ N h hd hf f2 hS;have ay:ts.length=wd:=by have:=iK S;rw[az]at this;exact(A8 this).symm
    have I:(xs.map (D6 Ora.env)).length=n*wd:=by
     have:=F1 List.length Z;rw[E5,xS,ay]at this;exact this
    obtain⟨d,E⟩:=oR (wd:=wd) n (xs.map (D6 Ora.env)) I;obtain⟨g1,g2,g3,g4⟩:=nP E;refine⟨ρ2,d,new',D,M,O,t,⟨fun q=>by rw[g1];exact f1 q,fun q G=>by rw[g1];exact f3 q G,?_,?_,fun R hR=>nX (K R hR) E,fun c g rows B=>?_⟩,fun hs=>?_⟩
    .have:=(K (fun k=>w.heap[k]?) (fun b C l Y k o T=>by
      obtain⟨J,_⟩:=t b C;exact(D.hr.atl Y J).1.2 k o T)).1
     rw[<- this,I,g1]
    .exact DH (K (fun k=>w.heap[k]?) (fun b C l Y k o T=>by
      obtain⟨J,_⟩:=t b C;exact(D.hr.atl Y J).1.2 k o T))
    .show evU (.snoc wd) (Ora.env c::xs.map (D6 Ora.env))=_;rw[B];show(if wd=wd/\wd≠0 then(match d9 wd ((xs.map (D6 Ora.env)).length / wd) (xs.map (D6 Ora.env))with|some r=>mB g wd rows r|none=>.none)else .none)=_;rw[A9 ⟨rfl,A2⟩,I,n7 _ X,E]
    .have:0<n:=A1 hs;intro he;subst he;simp at g1;omega
   .cases p
  .cases p
 .split at p
  .rename_i x b m2 hd;cases p;obtain⟨ρ2,l,D,M,O,t,Z,K,e7⟩:=N.ok h hd hf Q hS;obtain⟨ax,f,d,J,q2⟩:=fU t Z A2;have W:f=wd:=A2;subst W;have hG:=(D.hr.atl M O).1.2;rw[J]at t;have L:∀ c g rows,Ora.env c=.seq g f rows->evU (dA f (hole c (10+f)) (.rows x)).1 ((dA f (hole c (10+f)) (.rows x)).2.map (D6 Ora.env))=mB g f rows d:=fun c g rows B=>by
    show evU (.cat f) [Ora.env c,D6 Ora.env x]=_;rw[B,J];simp[evU]
   have A:∀ b' ∈ [b],Hp.get m'.H b'=some .frz/\∃ l,ρ2 b'=some l:=fun b' F=>by
    rcases B4.1 F with rfl|F
    .exact⟨O,l,M⟩
    .cases F
   rcases t6 t with⟨rfl,rfl,rfl⟩|⟨rfl,a,c,rfl,B⟩
   .exact⟨ρ2,[],[],D,K,e7,A,⟨fun _=>rfl,fun _ _=>rfl,by simp,rfl,fun R _=>.nil,L⟩,fun h=>by cases h⟩
   .obtain⟨_,new',g1,g2,g3,g4⟩:=tR (w:=w) t hG;refine⟨ρ2,d,new',D,K,e7,A,⟨fun _=>rfl,fun q G=>?_,g1,g2,fun R hR=>g3.mono (hR b (.head _) l M),L⟩,fun h=>by cases h⟩;rw[show Builtin.firstCells f d.length (.slice (some a) d.length c)=loadCells a (d.length*f)from rfl];exact lN g1 fun j v' hj=>by rw[bM G];exact g4 j v' hj
  .cases p
 .obtain⟨h1,p⟩:=A3 p;obtain⟨h2,h3⟩:=B6 h1;have h4:=A0 h2;have h5:=A0 h3;cases p;subst h5;obtain⟨s,rfl,f1⟩:=l6 Q h4;refine⟨ρ,jM s,P6 s,St.refl h,.refl _,.refl,fun b C=>(by cases C),⟨fun _=>?_,fun q _=>?_,by simp[jM,P6],?_,fun R _=>IQ s,fun c g rows B=>?_⟩,fun h=>by cases h⟩
  .rw[gZ];rfl
  .rw[gZ];have e:((ByteArray.extract ⟨⟨s⟩⟩ 0 s.length).data.map fun b=>Value.int .u8 b.toNat)=⟨P6 s⟩:=by
    rw[gI];apply J1;simp[P6]
   show(pure ((ByteArray.extract ⟨⟨s⟩⟩ 0 s.length).data.map fun b=>Value.int .u8 b.toNat):Sem V9).run P q=_;rw[e];rfl
  .refine D4.2 fun v hv=>?_
   unfold P6 at hv;obtain⟨b,_,rfl⟩:=I1.1 hv;rfl
  .show evU .cats [Ora.env c,D6 Ora.env y]=_;rw[B,f1];simp[evU]
end
end
section
open Go
variable [Ora]
section
variable {P:Program} {base:Nat} {ρ ρ':Ren} {m m':Mem} {w w':World}
def Sub.trans{A B C:Nat->Option Obj}(h:Sub A B)(k:Sub B C):Sub A C:=fun q o b=>k q o (h q o b)
structure A2Z (P:Program) (base:Nat) (ρ:Ren) (m:Mem) (w:World) (e:TypeId) (wd c:Nat) (gs:List Nat) (old:Option Nat) (x':Value):Prop where
 ex:∃ nul rows,Ora.env c=.seq nul wd rows/\((nul=true/\rows=[]/\x'=.slice none 0 0/\(∀ b,old=some b->∃ ab l,b<=H6/\Hp.get m.H b=some ab/\ab.rw=true/\ρ b=some l/\l.on=false)) ∨
  (nul=false/\∃ b ab l cap C fz,old=some b/\b<=H6/\Hp.get m.H b=some ab/\ab.rw=true/\ρ b=some l/\l.on=true/\x'=.slice (some ⟨l.blk,l.sh,none⟩) rows.length cap/\w.heap[l.blk]? = some (.cells C e fz) /\
    rows.length<=cap/\l.sh+cap*wd<=C.size/\(∀ i,i<C.size->¬ (fz.1<=i/\i<fz.2))/\∀ R,(∀ b ∈ gs,∀ l,ρ b=some l->Sub l.G R)->P1 R rows wd C l.sh))
def MA{td:Td}(ao:AK P td){e:TypeId}{wd c:Nat}{x x':Value}{gs:H1}{old:Option Nat}(h:HR P base ρ m.H w)(d:DY td P m e wd x=some (c,gs,old,m'))(hf:K1 ρ m.n m'.hi)(hx:VR ρ x x')(hS:Sat m'.lg)(aq:0<wd)(p:G9 P e=some wd) :
  ∃ ρ',St P base ρ ρ' m m' w w/\m.lg.le m'.lg/\j9 ρ m m'/\A2Z P base ρ' m' w e wd c gs old x':=by
 unfold DY at d;split at d
 .rw[N9]at d;simp only[hole]at d;cases d;cases P8 hx;obtain⟨q,e2,_⟩:=jV hS (.refl _);refine⟨ρ,St.wLg h _,V7,j9.lg _,⟨true,[],q,.inl ⟨rfl,rfl,rfl,fun b hb=>by cases hb⟩⟩⟩
 .rename_i b i tg;split at d
  .rename_i c0 tc T g S;obtain⟨h1,d⟩:=A3 d;obtain⟨h1,K⟩:=B6 h1;obtain⟨h1,h3⟩:=B6 h1;obtain⟨K,E⟩:=B6 K;have h1:=A0 h1;have h3:=A0 h3;have K:=A0 K;have E:=A1 E;cases d;subst K;obtain⟨Z,bz⟩:=fP hx;rcases Z with⟨l,an,g1,g2,g3,rfl⟩|⟨l,an,ak,g1,g2,g3,g4,bw,rfl⟩
   .obtain⟨M,inf,q,e2,e3,f⟩:=SqR.ex (h.atl g1 S).1;rcases f with⟨_,f⟩|⟨f,_⟩
    .have:M=wd:=A2;subst this;refine⟨ρ,St.refl h,.refl _,.refl,⟨true,[],f,.inl ⟨rfl,rfl,rfl,fun b' af=>?_⟩⟩⟩;cases af;exact⟨_,l,E,S,rfl,g1,g2⟩
    .rw[g2]at f;cases f
   .obtain⟨M,inf,q,e2,e3,f⟩:=SqR.ex (h.atl g1 S).1;rcases f with⟨f,_⟩|⟨_,f⟩
    .rw[g2]at f;cases f
    .obtain⟨C,fz,T',rows,lg,f1,f2,f3,f4,f5,f6,f7,f8,f9⟩:=f;have:M=wd:=A2;subst this;obtain⟨rfl,f10⟩:=f9 rfl;exact⟨ρ,St.refl h,.refl _,.refl,⟨false,rows,f2,.inr ⟨rfl,b,_,l,l.cap,C,fz,rfl,E,S,rfl,g1,g2,by rw[f3],f1,A2,f5,f10,fun R hR=>⟨f6,fun r row j u v q1 q2 q3=>(f8 r row j u v q1 q2 q3).mono (hR g (.head _) lg f7)⟩⟩⟩⟩
  .cases d
 .rename_i b n c0;split at d
  .rename_i cs T0 bt ts S ay;obtain⟨hq,k⟩:=A3 d;obtain⟨av,aa⟩:=B6 hq;have h1:=A0 av;clear d;split at k
   .rename_i xs bu m1 hd;split at k
    .rename_i br T W;obtain⟨I,J⟩:=A3 k;clear k;obtain⟨I,E⟩:=B6 I;have h3:=A0 I;have E:=A1 E;subst h3;rw[N9]at J;simp only[hole]at J;cases J;have al:K1 ρ m.n m1.hi:=by simpa using hf
     have ae:Sat m1.lg:=R6.le hS V7;obtain⟨l,cap,t,bx,ar,au⟩:∃ l cap,ρ b=some l/\n<=cap/\(cap=n∨cap=l.cap)/\x'=.slice (some ⟨l.blk,0+l.sh,none⟩) n cap:=by
      rcases(I9 _ _).mp aa with B|B
      .obtain⟨N,O⟩:=B6 B;have N:=A0 N;have O:c0<M9:=A1 O;rcases P4 hx with⟨l,t,_,Q,rfl⟩|⟨l,c',t,_,aj,V,X,rfl⟩|⟨a',c',_,_,B,_⟩
       .exact⟨l,c0,t,A2,.inl N,rfl⟩
       .omega
       .omega
      .have B:=A0 B;rcases P4 hx with⟨l,t,_,Q,rfl⟩|⟨l,c',t,_,aj,V,X,rfl⟩|⟨a',c',_,_,O,_⟩
       .omega
       .exact⟨l,c',t,V,.inr (X B rfl),rfl⟩
       .omega
     obtain⟨⟨aw,C,fz,T1,f1,f2,_⟩,_⟩:=h.atl t S;obtain⟨cs',f4,f5⟩:=dT (ρ:=ρ) (C:=C) (cs:=cs) (s:=l.sh) f2;obtain⟨ax,q,e2,e3,f,e5,e6⟩:=iJ ao h hd al f4 ae;obtain⟨⟨_,C1,bs,T2,g1,g2,g3⟩,_⟩:=q.hr.atl (q.ext _ _ t) W;rw[f1]at g1;cases g1;obtain⟨rfl,g4,g5⟩:=g3 rfl;have D:=iK ay;rw[p]at D;have Q:ts.length=wd:=(A8 D).symm;have Y:(xs.map (D6 Ora.env)).length=n*wd:=by
      have:=F1 List.length e5;rw[E5,xS,Q]at this;exact this
     obtain⟨rows,L⟩:=oR (wd:=wd) n (xs.map (D6 Ora.env)) Y;obtain⟨q1,q2,q3,q4⟩:=nP L;obtain⟨d1,d2,_⟩:=jV hS (.refl _);have B:Ora.env m1.lg.nx=.seq false wd rows:=by
      rw[d1];show(if wd=0 then U.none else match d9 wd ((xs.map (D6 Ora.env)).length / wd) (xs.map (D6 Ora.env))with|some r=>.seq false wd r|none=>.none)=_;rw[A7 A2,Y,n7 _ aq,L]
     have ai:cs'.length=n*wd:=by rw[<- f4.1];exact h1
     obtain⟨inf,y,A⟩:∃ inf,P.info? T1=some inf/\inf.size=wd:=by
      unfold G9 at p;cases hi:P.info? T1 with
      | none=>rw[hi]at p;cases p
      | some inf=>rw[hi]at p;exact⟨inf,rfl,A8 p⟩
     have F:l.sh+cap*wd<=C.size:=by
      rcases ar with rfl|rfl
      .rcases S8 (cap*wd)with h0|h0
       .rw[h0]
        have:=g5 inf y;rw[A]at this;omega
       .have G:cap*wd-1<cs'.length:=A2
        have:=f5 (cap*wd-1) cs'[cap*wd-1] (A5 G)
        have:=(C9.1 this).1;omega
      .have:=g5 inf y;rw[A]at this;exact this.1
     have ad:=St.wLg q.hr (fF m1 (10+wd) (.mk wd) xs);refine⟨ax,St.trans (by simpa using hf) q ad,e2.trans V7,fun j lj hj ah=>by rw[kM];exact e3 j lj hj ah,⟨false,rows,B,.inr ⟨rfl,b,_,l,cap,C,fz,rfl,E,by rw[kM];exact W,rfl,q.ext _ _ t,aw,by rw[au,q1,F4],f1,A2,F,g4,fun R hR=>?_⟩⟩⟩;obtain⟨r1,r2⟩:=nX (e6 R hR) L;refine⟨r1,fun r row j u v a1 a2 a3=>r2 r row j u v a1 a2 ?_⟩;have hq:r*wd+j<cs'.length:=by
      have az:=(B0.1 a1).1;have ag:=(B0.1 a2).1;rw[r1 _ (D0 a1)]at ag;have K:(r+1)*wd<=rows.length*wd:=F6 wd az;rw[H5]at K;rw[ai,<- q1];omega
     have:=f5 (r*wd+j) cs'[r*wd+j] (A5 hq);rw[show l.sh+r*wd+j=l.sh+(r*wd+j) by omega,this]at a3;have a3:=A8 a3;show(Array.mk cs')[0+r*wd+j]? = some v;rw[I8,show 0+r*wd+j=r*wd+j by omega,A5 hq,a3]
    .cases k
   .cases k
  .cases d
 .cases d
end
end
end Go.Sx
