import Derived.Test.YtdkdbjgkedahfaaGreatDoorX2
set_option linter.all false
set_option maxRecDepth 100000
set_option maxHeartbeats 4000000
namespace Go.Sx
open Go
variable {op:LOp}{s ty:TypeId}{hi i j o tg:Nat}{i' z z':Value}{u:U}{kh kk kl:IntKind}{hi' lo lo' mx mx':S8}{hs r' vs vs' xs:E0}{tys:List TypeId}{a:Addr}{m1:Mem}{row us:List U}{ts:I7}{cl sure:Bool}
section
open Go
variable [Ora]
section
variable {P:Program} {base:Nat} {ρ:Ren} {m m':Mem} {w:World}
def pk(k:IntKind)(n:Int):J8 (.int k n)=true:=rfl
def YL{op:UnOp}{x x' v:Value}(h:KB m op x=some (v,m'))(q:VR ρ x x')(p:Sat m'.lg)(w:World):∃ r,(Op.unary op x').run P w=.ok r w/\VR ρ v r:=by
 unfold KB at h;simp only at h;split at h
 .obtain⟨d,h⟩:=A3 h;obtain⟨b,rfl,e⟩:=jY q (A1 d);obtain⟨u,c,l,r,f,g,_⟩:=O0 h p;simp only[E4,I3,e,evU,ev1,unM,ofV]at c;subst c;cases f;exact⟨_,(OQ (P:=P) (ρ:=ρ) (op:=.not) (x:=.bool b) (v:=.bool !b) rfl (.pure rfl) w).1,g ρ⟩
 .obtain⟨d,h⟩:=A3 h;obtain⟨k,n,rfl,e,_⟩:=O2 q (A2 d);obtain⟨u,c,l,r,f,g,t⟩:=O0 h p;simp only[E4,I3,e,evU,ev1]at c;subst c;obtain⟨r',g1,g2⟩:=HK (by rw[l];exact t);rw[f]at g2;cases g2;exact⟨_,(OQ (P:=P) (ρ:=ρ) g1 (.pure (pk k n)) w).1,g ρ⟩
def OX{t:TypeId}{x x' v:Value}(h:sS P m s t x=some (v,m'))(d:VR ρ x x')(p:Sat m'.lg)(w:World):∃ r,(convert s t x').run P w=.ok r w/\VR ρ v r:=by
 unfold sS at h;split at h
 .rename_i j k hs f;obtain⟨c,h⟩:=A3 h;obtain⟨A,n,rfl,e,_⟩:=O2 d (A2 c);obtain⟨u,g,B,r,l,q,y⟩:=O0 h p;simp only[E4,I3,e,evU]at g;subst g;cases l;exact⟨_,by simp[convert,A5,D7 hs,D7 f,Result.andThen,Conv.intToInt],q ρ⟩
 .rename_i hs f;obtain⟨c,h⟩:=A3 h;cases h;obtain⟨b,rfl,e⟩:=bC d (A1 c);exact⟨_,by simp[convert,A5,D7 hs,D7 f,Result.andThen],d⟩
 .cases h
def lK{t:Nat}:∀ {cs:E0},aR t cs=true->∀ {i:Nat} {v:Value},cs[i]? = some v->H6 v=t
 | [],_,i,v,h=>by simp at h
 | c::r,hs,i,v,h=>by
   obtain⟨d,b⟩:=B3 (show(Nat.beq (H6 c) t && aR t r)=true from hs);cases i with
   | zero=>simp at h;subst h;exact A1 d
   | succ i=>exact lK b (by simpa using h)
def YU{t e:TypeId}{n:Nat}{cs:c9}{x' i v:Value}(hu:P.underlying t=some (.array n e))(y:cQ P e=some false)(g:I2 P e=some 1)(F:cs.toList.length=n)(l:aR tg cs.toList=true)(B:tg<10)
  (f:H6 i<8) (h:X4 m tg .sel (i::cs.toList)=some (v,m')) (D:VR ρ (.agg cs) x') (hi:VR ρ i i') (A:Sat m'.lg) (w:World):∃ r,(Instr.index t x' i').run P w=.ok r w/\VR ρ v r:=by
 obtain⟨k,z,rfl,e,_⟩:=O2 hi f;obtain⟨u,c,G,r,d,C,E⟩:=O0 h A;simp only[E4,e]at c;cases z with
 | negSucc z=>simp only[evU]at c;subst c;cases d
 | ofNat z =>
   simp only[evU]at c;by_cases q:z<cs.toList.length
   .have b:cs.toList[z]? = some cs.toList[z]:=A6 q;have p:=lK l b;have hm:nY P t (.agg cs) (.int k (.ofNat z))=some cs.toList[z]:=by
     have x:Nat.blt z n=true:=C5 A0;simp only[nY,hu,g,x,F1,tF,y,Nat.mul_one];exact b
    obtain⟨v',g1,g2⟩:=vB (P:=P) hm D (.pure rfl) w;obtain⟨f1,_⟩:=cE g2 A0;have:u=F3 Ora.env cs.toList[z]:=by
     rw[<- c,C6,H9,b];rfl
    rw[this,f1]at d;cases d;exact⟨_,g1,C ρ⟩
   .rw[C6,X3 (by simp at q ⊢;omega)]at c;subst c;cases d
def DU{e:TypeId}(h:Nat.beq (aQ.sizeD P e) 1=true):I2 P e=some 1:=by
 have h:=A1 h;unfold aQ.sizeD at h;split at h
 .rename_i n b;rw[b,h]
 .cases h
def KE{t:TypeId}{x x' i v:Value}(h:aQ P m t x i=some (v,m'))(y:VR ρ x x')(hi:VR ρ i i')(q:Sat m'.lg)(w:World):∃ r,(Instr.index t x' i').run P w=.ok r w/\VR ρ v r:=by
 unfold aQ at h;cases g:!(Nat.blt (H6 i) 8)with
 | true=>rw[g]at h;cases h
 | false =>
   have d:H6 i<8:=by
    have:Nat.blt (H6 i) 8=true:=by simpa using g
    exact A2 this
   rw[g]at h;simp only[E7]at h;split at h
   .rename_i hu;obtain⟨c,h⟩:=A3 h;obtain⟨s,rfl,f1⟩:=bC y (A1 c);obtain⟨k,z,rfl,f2,_⟩:=O2 hi d;obtain⟨u,f,D,r,l,B,C⟩:=O0 h q;simp only[E4,I3,f1,f2]at f;cases z with
    | negSucc z=>simp only[evU]at f;subst f;cases l
    | ofNat z =>
      simp only[evU]at f;split at f
      .rename_i b A;subst f;cases l;have hm:nY P t (.string ⟨⟨s⟩⟩) (.int k (.ofNat z))=some (.int .u8 b.toNat):=by
        simp only[nY,hu,A]
       obtain⟨v',g1,g2⟩:=vB (P:=P) (ρ:=ρ) hm (.pure rfl) (.pure rfl) w;cases K2 g2;exact⟨_,g1,B ρ⟩
      .subst f;cases l
   .rename_i n e hu;split at h
    .rename_i cs k he;obtain⟨c,h⟩:=A3 h;obtain⟨c,h3⟩:=B3 c;obtain⟨c,p⟩:=B3 c;exact YU hu (by simp[cQ,he]) (DU h3) (A1 c) p (by have:=N1 k;omega) d h y hi q w
    .rename_i cs he;obtain⟨c,h⟩:=A3 h;obtain⟨c,h3⟩:=B3 c;obtain⟨c,p⟩:=B3 c;exact YU hu (by simp[cQ,he]) (DU h3) (A1 c) p A0 d h y hi q w
    .cases h
   .cases h
def OZ{t:TypeId}(hu:P.underlying t=some .string){s:List UInt8}{l h:Int}{r:Value}(b:KH s l h=u)(c:toV u=some r):eR P t (.string ⟨⟨s⟩⟩) (some (.int kl l)) (some (.int kh h)) none=some r:=by
 unfold KH at b;split at b
 .rename_i l h;split at b
  .rename_i hh;subst b;cases c;have d:Nat.ble h (ByteArray.size ⟨⟨s⟩⟩)=true:=C5 hh.2;have e:Nat.ble l h=true:=C5 hh.1;simp only[eR,hu,X8,d,e,F1]
  .subst b;cases c
 .subst b;cases c
def KC{t:TypeId}{x x' v:Value}{hi:S8}(h:nD P m t x lo hi mx=some (v,m'))(J:VR ρ x x')(g:OR ρ lo lo')(f:OR ρ hi hi')(F:OR ρ mx mx')(E:Sat m'.lg)(w:World) :
  ∃ r,(Instr.sliceAt t x' lo' hi' mx').run P w=.ok r w/\VR ρ v r:=by
 have c:∀ {o:S8},OR ρ none o->o=none:=fun{o} h=>by cases o<;>first|rfl|exact h.elim
 have d:∀ {y:Value} {o:S8},OR ρ (some y) o->∃ I,o=some I/\VR ρ y I:=fun{y o} h=>by cases o<;>first|exact h.elim|exact⟨_,rfl,h⟩
 unfold nD at h;split at h
 .rename_i hu;cases c F;obtain⟨M,h⟩:=A3 h;obtain⟨s,rfl,f1⟩:=bC J (A1 M);have B:∀ {y:Value},VR ρ (.string ⟨⟨s⟩⟩) y->y=.string ⟨⟨s⟩⟩:=fun h=>Y7 h
  split at h
  .cases h;cases c g;cases c f;have hm:eR P t (.string ⟨⟨s⟩⟩) none none none=some (.string ⟨⟨s⟩⟩):=by
    have e:ByteArray.size ⟨⟨s⟩⟩=s.length:=rfl;simp[eR,hu,X8,e]
   obtain⟨v',g1,g2⟩:=jZ (P:=P) (ρ:=ρ) (lo':=none) (hi':=none) (mx':=none) hm (.pure rfl) trivial trivial trivial w;cases Y7 g2;exact⟨_,g1,J⟩
  .obtain⟨p,h⟩:=A3 h;obtain⟨l',rfl,C⟩:=d g;cases c f;obtain⟨k,z,rfl,f2,_⟩:=O2 C (A2 p);obtain⟨u,n,H,r,l,A,G⟩:=O0 h E;simp only[E4,I3,f1,f2,evU]at n;have hm:=OZ (P:=P) (kl:=k) (kh:=.i64) hu n l;have q:eR P t (.string ⟨⟨s⟩⟩) (some (.int k z)) none none=some r:=by
    rw[<- hm];have e:ByteArray.size ⟨⟨s⟩⟩=s.length:=rfl;have b:Nat.ble s.length s.length=true:=C5 (A7 _);have D:((s.length:Nat):Int)=Int.ofNat s.length:=rfl;simp only[eR,hu,X8,e,D,b,F1]
   obtain⟨v',g1,g2⟩:=jZ (P:=P) (ρ:=ρ) (lo':=some (.int k z)) (hi':=none) (mx':=none) q (.pure rfl) (VR.pure rfl:VR ρ _ _) trivial trivial w;have:VR ρ r v':=g2;have hp:=jW l;cases g2 with
   | pure _=>exact⟨_,g1,A ρ⟩
   | _=>simp[J8,ixp,Go.Sx.dat,Go.Sx.clp,Go.Sx.own,Go.Sx.dpt,Go.Sx.opt,Go.Sx.yv,Go.Sx.sdt]at hp
  .obtain⟨p,h⟩:=A3 h;obtain⟨L,rfl,hh⟩:=d f;cases c g;obtain⟨k,z,rfl,f2,_⟩:=O2 hh (A2 p);obtain⟨u,n,H,r,l,A,G⟩:=O0 h E;have f0:F3 Ora.env (.int .i64 0)=.int .i64 0:=rfl;simp only[E4,I3,f1,f2,f0,evU]at n;have hm:=OZ (P:=P) (kl:=.i64) (kh:=k) hu n l;have q:eR P t (.string ⟨⟨s⟩⟩) none (some (.int k z)) none=some r:=by
    rw[<- hm];have D:(0:Int)=Int.ofNat 0:=rfl;cases z with
    | negSucc z=>simp only[eR,hu,X8]
    | ofNat z =>
      have K:Nat.ble 0 z=true:=C5 (Nat.zero_le _);simp only[eR,hu,X8,D];cases Nat.ble z (ByteArray.size ⟨⟨s⟩⟩)<;>simp[K]
   obtain⟨v',g1,g2⟩:=jZ (P:=P) (ρ:=ρ) (lo':=none) (hi':=some (.int k z)) (mx':=none) q (.pure rfl) trivial (VR.pure rfl:VR ρ _ _) trivial w;have hp:=jW l;cases g2 with
   | pure _=>exact⟨_,g1,A ρ⟩
   | _=>simp[J8,ixp,Go.Sx.dat,Go.Sx.clp,Go.Sx.own,Go.Sx.dpt,Go.Sx.opt,Go.Sx.yv,Go.Sx.sdt]at hp
  .obtain⟨p,h⟩:=A3 h;obtain⟨p,h3⟩:=B3 p;obtain⟨L,rfl,hh⟩:=d f;obtain⟨l',rfl,C⟩:=d g;obtain⟨k,z,rfl,f2,_⟩:=O2 C (A2 p);obtain⟨j,y,rfl,f3,_⟩:=O2 hh (A2 h3);obtain⟨u,n,H,r,l,A,G⟩:=O0 h E;simp only[E4,I3,f1,f2,f3,evU]at n;have hm:=OZ (P:=P) (kl:=k) (kh:=j) hu n l;obtain⟨v',g1,g2⟩:=jZ (P:=P) (ρ:=ρ) (lo':=some (.int k z)) (hi':=some (.int j y)) (mx':=none) hm (.pure rfl) (VR.pure rfl:VR ρ _ _) (VR.pure rfl:VR ρ _ _) trivial w;have hp:=jW l;cases g2 with
   | pure _=>exact⟨_,g1,A ρ⟩
   | _=>simp[J8,ixp,Go.Sx.dat,Go.Sx.clp,Go.Sx.own,Go.Sx.dpt,Go.Sx.opt,Go.Sx.yv,Go.Sx.sdt]at hp
 .cases h
def CS{b:Builtin}{ks:Array Bool}{v:Value}(hr:HR P base ρ m.H w)(h:fY P m b vs tys=some (v,m'))(y:LR ρ vs vs')(x:Sat m'.lg) :
  ∃ s:Sem Value,builtin b ⟨tys⟩ ty ks ⟨vs'⟩=(do pure (.value (<- s)))/\∃ r,s.run P w=.ok r w/\VR ρ v r:=by
 unfold fY at h;split at h
 .obtain⟨x',r1,rfl,g,n⟩:=y.tail;cases n.nil_inv;split at h
  .rename_i hu;obtain⟨h3,h⟩:=A3 h;obtain⟨s,rfl,f1⟩:=bC g (A1 h3);obtain⟨u,e,B,r,l,p,A⟩:=O0 h x;simp only[E4,I3,f1,evU]at e;subst e;cases l;rename_i t rest _ _;have hm:A0b P m t (.string ⟨⟨s⟩⟩)=some (.int .i64 s.length):=by simp[A0b,hu]
   obtain⟨g1,_⟩:=SR (ρ:=ρ) (ty:=ty) (tys:=rest) hr hm (.pure rfl);exact⟨_,rfl,_,g1,p ρ⟩
  .cases h
 .obtain⟨x',r1,rfl,g,n⟩:=y.tail;obtain⟨F,C,rfl,h3,q⟩:=n.tail;cases q.nil_inv;obtain⟨d,h⟩:=A3 h;obtain⟨d,f⟩:=B3 d;have d:=A2 d;have f:=A1 f;obtain⟨k,a,rfl,f1,E⟩:=O2 g d;obtain⟨j,c,rfl,f2,D⟩:=O2 h3 (f▸d);obtain⟨u,e,B,r,l,p,A⟩:=O0 h x;simp only[E4,I3,f1,f2,evU]at e;subst e;cases l;obtain⟨g1,_⟩:=SK (P:=P) (ρ:=ρ) (ty:=ty) (tys:=⟨tys⟩) (vs:=[.int k a,.int j c]) rfl (.cons (.pure rfl) (.cons (.pure rfl) .nil)) w;exact⟨_,rfl,_,g1,p ρ⟩
 .obtain⟨x',r1,rfl,g,n⟩:=y.tail;obtain⟨F,C,rfl,h3,q⟩:=n.tail;cases q.nil_inv;obtain⟨d,h⟩:=A3 h;obtain⟨d,f⟩:=B3 d;have d:=A2 d;have f:=A1 f;obtain⟨k,a,rfl,f1,E⟩:=O2 g d;obtain⟨j,c,rfl,f2,D⟩:=O2 h3 (f▸d);obtain⟨u,e,B,r,l,p,A⟩:=O0 h x;simp only[E4,I3,f1,f2,evU]at e;subst e;cases l;obtain⟨g1,_⟩:=SI (P:=P) (ρ:=ρ) (ty:=ty) (tys:=⟨tys⟩) (vs:=[.int k a,.int j c]) rfl (.cons (.pure rfl) (.cons (.pure rfl) .nil)) w;exact⟨_,rfl,_,g1,p ρ⟩
 .cases h
def TZ{v:Value}{k:IntKind}{n:Int}(h:F3 Ora.env v=.int k n):rS Ora.env v=some n:=by
 cases v with
 | complex k i t =>
   cases k with
   | f64 =>
     have h:Ora.env i=.int _ n:=h;simp only[rS,h]
   | f32=>cases h
 | int j n=>cases h;rfl
 | _=>cases h
def JF{v:Value}{n:Int}(h:rS Ora.env v=some n):∃ k,F3 Ora.env v=.int k n:=by
 cases v with
 | complex k i t =>
   cases k with
   | f64 =>
     simp only[rS]at h;split at h
     .rename_i k z he;cases h;exact⟨k,he⟩
     .cases h
   | f32=>cases h
 | int j n=>cases h;exact⟨j,rfl⟩
 | _=>cases h
def SV{s n:Nat}{i v:Value}(h:VQ m a s n i=some (v,m'))(hi:VR ρ i i')(l:Sat m'.lg):v=ixp a s i n/\∃ k z,i'=.int k (.ofNat z)/\z<n/\rS Ora.env i=some (.ofNat z):=by
 unfold VQ at h;cases e:!(Nat.blt (H6 i) 8)with
 | true=>rw[e]at h;cases h
 | false =>
   have d:H6 i<8:=by
    have:Nat.blt (H6 i) 8=true:=by simpa using e
    exact A2 this
   rw[e]at h;simp only[E7]at h;split at h
   .rename_i b H k W hh lg q;split at h
    .rename_i y g;cases h;obtain⟨u,p,A,r,c,x,_⟩:=O0 q (V2.le l (gU g));have f:=oJ (ρ:=ρ) g (x ρ) l;subst f;obtain⟨t,z,rfl,f1,_⟩:=O2 hi d;have f0:F3 Ora.env (.int .i64 (.ofNat n))=.int .i64 (.ofNat n):=rfl;simp only[E4,I3,f1,f0,evU]at p;subst p;have c:(decide (0<=z) && decide (z<Int.ofNat n))=true:=by
      have:=A8 c;exact Value.bool.inj this
     simp only[J5,decide_eq_true_eq]at c;cases z with
     | negSucc z=>exact absurd c.1 (by simp)
     | ofNat z=>exact⟨rfl,t,z,rfl,by have:=c.2;simpa using this,TZ f1⟩
    .cases h
   .cases h
def CO{t:TypeId}{x x' i v:Value}(h:fW P m t x i=some (v,m'))(p:VR ρ x x')(hi:VR ρ i i')(A:Sat m'.lg)(w:World):∃ r,(Instr.indexAt t x' i').run P w=.ok r w/\VR ρ v r:=by
 unfold fW at h;split at h
 .rename_i n e a hu;split at h
  .rename_i s hs d;obtain⟨rfl,k,z,rfl,f,he⟩:=SV h hi A;obtain⟨l,y,_,rfl⟩:=Q3 p;have g:Nat.blt z n=true:=C5 f;have hm:m7 P t (.pointer (some a)) (.int k (.ofNat z))=some (.pointer (some ⟨a.block,a.off+z*s,none⟩)):=by
    simp only[m7,hu,hs,d,g,F1,dM,F5]
   obtain⟨v',g1,g2⟩:=eI (P:=P) hm p (.pure rfl) w;obtain⟨l2,b,_,rfl⟩:=Q3 g2;have b:ρ a.block=some l2:=b;rw[y]at b;cases b;exact⟨_,g1,.ixp y d he f rfl⟩
  .cases h
 .rename_i e a n c hu;split at h
  .rename_i s hs d;cases q:Nat.beq c (O7+2)with
   | true=>rw[q]at h;cases h
   | false =>
     rw[q]at h;obtain⟨rfl,k,z,rfl,f,he⟩:=SV h hi A;have g:Nat.blt z n=true:=C5 f;have hm:m7 P t (.slice (some a) n c) (.int k (.ofNat z))=some (.pointer (some ⟨a.block,a.off+z*s,none⟩)):=by
      simp only[m7,hu,hs,d,g,F1,dM,F5]
     obtain⟨v',g1,g2⟩:=eI (P:=P) hm p (.pure rfl) w;obtain⟨l2,b,_,rfl⟩:=Q3 g2;have b:ρ a.block=some l2:=b;exact⟨_,g1,.ixp b d he f rfl⟩
  .cases h
 .cases h
def SY{s n:Nat}{i v':Value}(h:VR ρ (ixp a s i n) v'):∃ l z,ρ a.block=some l/\a.spot=none/\rS Ora.env i=some (.ofNat z)/\z<n/\v'=.pointer (some ⟨l.blk,a.off+z*s+l.sh,none⟩):=by
 generalize b:ixp a s i n=x at h;cases h with
 | ixp h hs hi d c =>
   simp only[ixp,Value.func.injEq,x7,D4,Value.pointer.injEq,D9,Value.int.injEq,mR,true_and,and_true]at b;obtain⟨rfl,rfl,rfl,rfl⟩:=b;exact⟨_,_,h,hs,hi,d,c⟩
 | pure hp=>subst b;simp[ixp,J8]at hp
 | _=>simp[ixp,Go.Sx.dat,Go.Sx.clp,Go.Sx.own,Go.Sx.dpt,Go.Sx.opt,Go.Sx.yv,Go.Sx.sdt]at b
def CQ{x x' v:Value}(h:fX P m s x i=some (v,m'))(p:VR ρ x x')(w:World):∃ r,(Instr.fieldAt s x' i).run P w=.ok r w/\VR ρ v r:=by
 unfold fX at h;split at h
 .rename_i a k j n;split at h
  .rename_i t hu;split at h
   .rename_i f g e;split at h
    .rename_i z q;cases h;obtain⟨l,y,c,A,h3,d,rfl⟩:=SY (n:=n) (s:=k) (i:=j) p;have hm:eJ P s (.pointer (some ⟨a.block,a.off+y*k,none⟩)) i=some (.pointer (some ⟨a.block,a.off+y*k+f.offset,none⟩)):=by
      simp only[eJ,hu,g,q,dM,F5]
     obtain⟨v',g1,g2⟩:=oC (P:=P) (ρ:=ρ) hm (.ptr c) w;obtain⟨l2,b,_,rfl⟩:=Q3 g2;have b:ρ a.block=some l2:=b;rw[c]at b;cases b;refine⟨_,g1,?_⟩;simp only[dM,F5];refine .ixp (a:=⟨a.block,a.off+f.offset,none⟩) c rfl h3 d ?_;simp only[Value.pointer.injEq,D9,Addr.mk.injEq,true_and,and_true];omega
    .cases h
   .cases h
  .cases h
 .cases h
def wB{cs:E0}{s:Nat}:∀ {n o:Nat} {l:E0},yB cs s o n=some l->l.length=n/\∀ z,z<n->cs[o+z*s]? = l[z]?
 | 0,o,l,h=>by cases h;exact⟨rfl,fun z d=>by omega⟩
 | n+1,o,l,h=>by
   unfold yB at h;split at h
   .rename_i v r b hr;cases h;obtain⟨e,c⟩:=wB hr;refine⟨by simp[e],fun z d=>?_⟩;cases z with
    | zero=>simpa using b
    | succ z =>
      have:=c z A0;rw[Nat.succ_mul,show o+(z*s+s)=o+s+z*s by omega]
      simpa using this
   .cases h
def wC{cs cs':E0}{s n:Nat}{i:Value}{z:Nat}(he:rS Ora.env i=some (.ofNat z))(t:z<n)(x:LR ρ cs cs'):∀ {k o:Nat} {m m':Mem} {r:E0},eB m cs s n i o k=some (r,m')->Sat m'.lg ->
  LR ρ r ((cs'.drop (o+z*s)).take k)/\r.length=k
 | 0,o,m,m',r,h,hS=>by cases h;exact⟨by simpa using LR.nil,rfl⟩
 | k+1,o,m,m',r,h,hS=>by
   unfold eB at h;split at h
   .rename_i v l d;obtain⟨p,h⟩:=A3 h;obtain⟨p,e⟩:=B3 p;have e:H6 v<10:=A2 e;split at h
    .rename_i hh m1 C;split at h
     .rename_i G m2 A;cases h;obtain⟨g,q⟩:=wC he t x A hS;obtain⟨u,f,I,F,y,E,_⟩:=O0 C (V2.le hS (iJ A).1);obtain⟨g1,g2⟩:=wB d;have b:=g2 z t;have c:z<(v::l).length:=by rw[g1];exact t
      rw[A6 c]at b;obtain⟨H,f1,f2⟩:=x.get b;have B:=lK p (A6 c);obtain⟨t1,_⟩:=cE f2 A0;obtain⟨J,D⟩:=JF he;simp only[E4,D,evU]at f;have f:u=F3 Ora.env (v::l)[z]:=by
       rw[<- f];show(List.map (F3 Ora.env) (v::l)).getD z .none=_;rw[C6,H9,A6 c];rfl
      rw[f,t1]at y;cases y;refine⟨?_,by simp[q]⟩;have:(cs'.drop (o+z*s)).take (k+1)=F::(cs'.drop (o+1+z*s)).take k:=by
       rw[aG (B1.1 f1).1,List.take_succ_cons,(B1.1 f1).2,show o+z*s+1=o+1+z*s by omega]
      rw[this];exact .cons (E ρ) g
     .cases h
    .cases h
   .cases h
def SN{t:TypeId}{l:Loc}{z s n k:Nat}{i:Value}{cs:E0}(h:HR P base ρ m.H w)(hr:bR m a ((n-1)*s+k)=some cs)(e:ρ a.block=some l)(he:rS Ora.env i=some (.ofNat z))(p:z<n)(d:eB m cs s n i 0 k=some (hs,m'))(g:Sat m'.lg) :
  ∃ rs,LR ρ hs rs/\rs.length=k/\∀ (j:Nat) (v':Value),rs[j]? = some v'->w.cell? ⟨l.blk,a.off+z*s+l.sh+j,none⟩=some v':=by
 obtain⟨r',f,q,h3⟩:=aA h hr e;obtain⟨g1,g2⟩:=wC he p f d g;rw[F9]at g1;refine⟨_,g1,g1.1▸g2,fun j v' b=>?_⟩;have c:j<k:=by
  have:=(B1.1 b).1;simp at this;omega
 rw[G6 c,J2]at b
 have:=h3 _ v' b;rw[show a.off+z*s+l.sh+j=a.off+l.sh+(z*s+j) by omega];exact this
def OV{t:TypeId}{x x' v:Value}(h:HR P base ρ m.H w)(b:sR P m t x=some (v,m'))(q:VR ρ x x')(g:Sat m'.lg):∃ r,(Instr.loadAt t x').run P w=.ok r w/\VR ρ v r:=by
 unfold sR at b;split at b
 .rename_i a s i n;obtain⟨l,z,e,B,h3,f,rfl⟩:=SY (n:=n) (s:=s) (i:=i) q;split at b
  .rename_i d;split at b
   .rename_i cs hr;split at b
    .rename_i hh m2 c;cases b;obtain⟨rs,g1,g2,g3⟩:=SN (t:=t) h hr e h3 f c g;obtain⟨v',y,rfl,k,A⟩:=g1.tail;refine⟨v',?_,k⟩
     have:=g3 0 v' rfl;simp[Instr.loadAt,Instr.sureAddr,loadVar,A5,dU d,Result.andThen,run_load,show w.cell? ⟨l.blk,a.off+z*s+l.sh,none⟩=some v' from by simpa using this]
    .cases b
   .cases b
  .rename_i C d p;split at b
   .rename_i cs hr;split at b
    .rename_i hh m2 c;cases b;obtain⟨rs,g1,g2,g3⟩:=SN (t:=t) h hr e h3 f c g;refine⟨.agg ⟨rs⟩,?_,.agg g1.1 g1.2⟩;simp[Instr.loadAt,Instr.sureAddr,loadVar,A5,dU d,L7 p,Result.andThen,L2 g2 g3]
    .cases b
   .cases b
  .cases b
 .cases b
def A14{fr:Fr}{g:Operand->Value}{o:Oper}{v:Value}(h:HR P base ρ m.H w)(f:YN P fr m o.op=some (v,m'))(D:FR ρ fr g o.op)(k:Sat m'.lg):NOk P base ρ m w (execOp g o) v m':=by
 obtain⟨_,lg,rfl⟩:=RF f;have q:St P base ρ ρ m (m.wLg lg) w w:=St.wLg h lg;obtain⟨dst,op,ty,pos,K,M⟩:=o;simp only at f D;have d:∀ {x},x ∈ op.operands.toList->VR ρ (ev fr x) (g x):=fun A=>D _ A
 have fin:∀ {s:Sem Value},(∃ r,s.run P w=.ok r w/\VR ρ v r)->NOk P base ρ m w (do pure (.value (<- s))) v (m.wLg lg):=fun{s} ⟨r,F,J⟩=>NOk.of ⟨r,ρ,w,F,J,q⟩
 unfold YN at f;split at f
 .rename_i c a b;have C:=d (x:=c) (by simp[Op.operands]);unfold yA at f;obtain⟨H,n,W,hi,E⟩:=m;simp only at f;split at f
  .rename_i l1 B;simp only[D9,Q0]at f;obtain⟨rfl,f⟩:=f;have p:Sat l1:=by
    have:l1=(Mem.wLg ⟨H,n,W,hi,E⟩ lg).lg:=by rw[<- f]
    rw[this];exact k
   have:=oJ B C p;exact⟨g a,ρ,w,.inl (by simp[execOp,this,asBool]),d (by simp[Op.operands]),q⟩
  .rename_i l1 B;simp only[D9,Q0]at f;obtain⟨rfl,f⟩:=f;have p:Sat l1:=by
    have:l1=(Mem.wLg ⟨H,n,W,hi,E⟩ lg).lg:=by rw[<- f]
    rw[this];exact k
   have:=oJ B C p;exact⟨g b,ρ,w,.inl (by simp[execOp,this,asBool]),d (by simp[Op.operands]),q⟩
  .cases f
 .rename_i op t x y N;have A:=d (x:=x) (by simp[Op.operands]);have l:=d (x:=y) (by simp[Op.operands]);refine fin (s:=do eqGuard op t x y (g x) (g y);binOp op t (g x) (g y)) ?_;split at f
  .rename_i r hr;cases f;exact UI hr A l k w
  .rename_i hr;exact YO f A l hr k w
 .rename_i op t x;exact fin (s:=Op.unary op (g x)) (YL f (d (by simp[Op.operands])) k w)
 .exact fin (OX f (d (by simp[Op.operands])) k w)
 .rename_i t x lo hi mx;exact fin (s:=Instr.sliceAt t (g x) (lo.map g) (hi.map g) (mx.map g)) (KC f (d (x:=x) (by simp[Op.operands])) (lX (g:=g) fun y l=>d (by simp[Op.operands]at l ⊢;exact .inr (.inl l))) (lX (g:=g) fun y l=>d (by simp[Op.operands]at l ⊢;exact .inr (.inr (.inl l)))) (lX (g:=g) fun y l=>d (by simp[Op.operands]at l ⊢;exact .inr (.inr (.inr l)))) k w)
 .exact fin (KE f (d (by simp[Op.operands])) (d (by simp[Op.operands])) k w)
 .exact fin (CO f (d (by simp[Op.operands])) (d (by simp[Op.operands])) k w)
 .exact fin (CQ f (d (by simp[Op.operands])) w)
 .rename_i t x;exact fin (s:=Instr.loadAt t (g x)) (OV h f (d (by simp[Op.operands])) k)
 .rename_i b xs tys;have l1:=eU (ρ:=ρ) (fr:=fr) (g:=g) (xs:=xs.toList) fun x A=>d (by show x ∈ (#[]++xs:Array Operand).toList;simpa using A)
  obtain⟨ks,I⟩:∃ ks,execOp g ⟨dst,.call ⟨.builtin b,xs,tys⟩,ty,pos,K,M⟩=builtin b tys ty ks (xs.map g):=⟨_,rfl⟩;obtain⟨s,e,hs⟩:=CS (ty:=ty) (ks:=ks) h f l1 k;have L:xs.map g=⟨xs.toList.map g⟩:=by apply K0;simp
  rw[I,L];have G:tys=⟨tys.toList⟩:=rfl;rw[G,e];exact fin hs
 .cases f
end
end
section
open Go
variable [Ora]
section
variable {P:Program} {base:Nat} {ρ ρ':Ren} {m m':Mem} {w w':World}
def L1.step(d:L1 ρ m.n hi)(st:St P base ρ ρ' m m1 w w'):L1 ρ' m1.n hi:=fun b g e=>by
 cases f:ρ' b with
 | none=>rfl
 | some l =>
   cases c:ρ b with
   | some k=>rw[d b (C3 st.nle g) e]at c;cases c
   | none=>have:=(st.new b l f c).2;omega
def L1.less{n hi':Nat}(c:L1 ρ n hi)(h:hi'<=hi):L1 ρ n hi':=fun b e d=>c b e (E1 d h)
def hZ(m:Mem)(t:Nat)(op:LOp)(xs:List Value):Lg:=⟨m.lg.nx+1,m.lg.pi,.dt m.lg.nx t op xs::m.lg.log⟩
def P5{t:Nat}{k:Nat->Mem->Res}:xI m t op xs k=k m.lg.nx (m.wLg (hZ m t op xs)):=by
 obtain⟨H,n,W,hi,⟨nx,pi,log⟩⟩:=m;simp only[xI,F5,J4];rfl
def MD{t:Nat}{k:Nat->Mem->Option (E0×Mem)}:n7.letDo t op xs m k=k m.lg.nx (m.wLg (hZ m t op xs)):=by
 obtain⟨H,n,W,hi,⟨nx,pi,log⟩⟩:=m;simp only[n7.letDo,F5,J4];rfl
@[simp] theorem aH(lg:Lg):(m.wLg lg).lg=lg:=by cases m;rfl
@[simp] theorem mY(lg:Lg):(m.wLg lg).H=m.H:=by cases m;rfl
@[simp] theorem XQ(lg:Lg):(m.wLg lg).n=m.n:=by cases m;rfl
@[simp] theorem OP(lg:Lg):(m.wLg lg).hi=m.hi:=by cases m;rfl
@[simp] theorem A8A(lg:Lg):(m.wLg lg).W=m.W:=by cases m;rfl
def Z8{t:Nat} :m.lg.le (m.wLg (hZ m t op xs)).lg:=by
 rw[aH];exact⟨[_],rfl⟩
def mN{t:Nat}{lg:Lg}(d:Sat lg)(e:(m.wLg (hZ m t op xs)).lg.le lg):Ora.env m.lg.nx=evU op (xs.map (F3 Ora.env))/\H7 (Ora.env m.lg.nx)=t/\∃ b wd rows,Ora.env m.lg.nx=.seq b wd rows/\t=10+wd:=by
 obtain⟨f,c,b,wd,rows,h3⟩:=d _ (e.subset (by rw[aH];exact B6));exact⟨f,c,b,wd,rows,h3,by rw[<- c,h3];rfl⟩
def fI{b:Nat}(h:rE m b=true):Hp.get m.H b=some .frz:=by
 unfold rE at h;split at h
 .assumption
 .cases h
def TD{b:Nat}(h:rE m b=true):b<=J0:=by
 unfold rE at h;split at h
 .exact A2 h
 .cases h
def A0t{b:Nat}(hr:HR P base ρ m.H w)(h:rE m b=true):∃ l,ρ b=some l:=by
 obtain⟨l,c,_⟩:=hr.at_ b (TD h) _ (fI h);exact⟨l,c⟩
def T5{k:Nat->Mem->Option (Value×Nat×Mem)}{r:Value×Nat×Mem}(h:jN m k=some r):∃ m1,w8 m .frz (fun _=>undef)=some (undef,m1)/\k m.n m1=some r/\m1.H=m.H.set m.n (some .frz)/\m.n<=J0/\m1.lg=m.lg:=by
 obtain⟨H,n,W,hi,lg⟩:=m;simp only[jN,F5,gB]at h;obtain⟨b,c⟩:=A3 h;refine⟨_,?_,c,rfl,A2 b,rfl⟩;simp only[w8,F5,gB,b,F1]
def mU(G:Nat->Option Obj):Loc:=⟨0,0,0,0,G,false⟩
def St.region{G:Nat->Option Obj}(h:HR P base ρ m.H w)(f:w8 m .frz (fun _=>undef)=some (undef,m1))(x:L1 ρ m.n m1.hi)
  (d:∀ k o,G k=some o->w.heap[k]? = some o/\∃ id ab l,id<=J0/\Hp.get m.H id=some ab/\ρ id=some l/\Tf ab l k/\ab.rw=false) :
  upd ρ m.n (mU G) m.n=some (mU G)/\Hp.get m1.H m.n=some .frz/\St P base ρ (upd ρ m.n (mU G)) m m1 w w:=by
 obtain⟨A,t,h3⟩:=St.new0 (l':=mU G) h f x ⟨rfl,fun k o y=>(d k o y).1⟩ rfl fun q b=>by
  rcases b with⟨b,_⟩|⟨_,o,b⟩
  .cases b
  .obtain⟨g1,id,ab,l,g2,g3,g4,g5,g6⟩:=d q o b;refine⟨⟨id,ab,l,g2,g3,g4,g5⟩,fun p g a l2 c r hr v e=>?_⟩
   have:=((h.atl r c).2 hr v).2 id g2 ab l g3 g4 (e▸g5.2);subst this;rw[g3]at c;have c:=A8 c;subst c;rw[g6]at hr;cases hr
 refine⟨t,?_,h3⟩;obtain⟨hle,_,rfl⟩:=N0 f;show Hp.get (m.H.set m.n (some .frz)) m.n=_;rw[F6 _ _ _ _ hle hle,B0 rfl]
theorem pN{b i t:Nat}{v':Value}(h:VR ρ (dat b i t) v'):∃ l,ρ b=some l/\Enc l.G (Ora.env i) v'/\H7 (Ora.env i)=t/\10<=t:=by
 generalize c:dat b i t=x at h;cases h with
 | dat h he e d f =>
   simp only[dat,Value.func.injEq,x7,D4,Value.pointer.injEq,D9,Addr.mk.injEq,Value.complex.injEq,true_and,and_true]at c;obtain⟨rfl,rfl,rfl⟩:=c;exact⟨_,h,he,e,d⟩
 | pure hp=>subst c;simp[dat,J8]at hp
 | _=>simp[ixp,Go.Sx.dat,Go.Sx.clp,Go.Sx.own,Go.Sx.dpt,Go.Sx.opt,Go.Sx.yv,Go.Sx.sdt]at c
theorem iT{b i t:Nat}{v':Value}(h:VR ρ (clp b i t) v'):∃ l,ρ b=some l/\Enc l.G (Ora.env i) v'/\H7 (Ora.env i)=t/\10<=t/\A1Q v':=by
 generalize c:clp b i t=x at h;cases h with
 | clp h he f d g e =>
   simp only[clp,Value.func.injEq,x7,D4,Value.pointer.injEq,D9,Addr.mk.injEq,Value.complex.injEq,true_and,and_true]at c;obtain⟨rfl,rfl,rfl⟩:=c;exact⟨_,h,he,f,d,e⟩
 | pure hp=>subst c;simp[clp,J8]at hp
 | _=>simp[ixp,Go.Sx.dat,Go.Sx.clp,Go.Sx.own,Go.Sx.dpt,Go.Sx.opt,Go.Sx.yv,Go.Sx.sdt]at c
theorem iS{b i t:Nat}{v':Value}(h:VR ρ (own b i t) v'):A0C ρ b (Ora.env i) v'/\H7 (Ora.env i)=t:=by
 generalize c:own b i t=x at h;cases h with
 | own h d e =>
   simp only[own,Value.func.injEq,x7,D4,Value.pointer.injEq,D9,Addr.mk.injEq,Value.complex.injEq,true_and,and_true]at c;obtain⟨rfl,rfl,rfl⟩:=c;exact⟨h,d⟩
 | pure hp=>subst c;simp[own,J8]at hp
 | _=>simp[ixp,Go.Sx.dat,Go.Sx.clp,Go.Sx.own,Go.Sx.dpt,Go.Sx.opt,Go.Sx.yv,Go.Sx.sdt]at c
def IC{b t:Nat}{v':Value}(h:VR ρ (dpt b i t z o) v'):A68 ρ b (Ora.env i) (rS Ora.env z) o v'/\H7 (Ora.env i)=t:=by
 generalize c:dpt b i t z o=x at h;cases h with
 | dpt h d e =>
   simp only[dpt,Value.func.injEq,x7,D4,Value.pointer.injEq,D9,Addr.mk.injEq,Value.complex.injEq,Value.int.injEq,mR,true_and,and_true]at c;obtain⟨rfl,⟨rfl,rfl⟩,rfl,rfl⟩:=c;exact⟨h,d⟩
 | pure hp=>subst c;simp[dpt,J8]at hp
 | _=>simp[ixp,Go.Sx.dat,Go.Sx.clp,Go.Sx.own,Go.Sx.dpt,Go.Sx.opt,Go.Sx.yv,Go.Sx.sdt]at c
def yG{b t:Nat}{v':Value}(h:VR ρ (opt b i t z o) v'):A6e ρ b (Ora.env i) (rS Ora.env z) o v'/\H7 (Ora.env i)=t:=by
 generalize c:opt b i t z o=x at h;cases h with
 | opt h d e =>
   simp only[opt,Value.func.injEq,x7,D4,Value.pointer.injEq,D9,Addr.mk.injEq,Value.complex.injEq,Value.int.injEq,mR,true_and,and_true]at c;obtain⟨rfl,⟨rfl,rfl⟩,rfl,rfl⟩:=c;exact⟨h,d⟩
 | pure hp=>subst c;simp[opt,J8]at hp
 | _=>simp[ixp,Go.Sx.dat,Go.Sx.clp,Go.Sx.own,Go.Sx.dpt,Go.Sx.opt,Go.Sx.yv,Go.Sx.sdt]at c
def FD{b c tc g t:Nat}{T:TypeId}{v':Value}(h:HR P base ρ m.H w)(K:Hp.get m.H b=some (.sq c tc T g true))(S:VR ρ (own b i t) v')(x:tc=t)(E:Hp.get m.H g=some .frz)
  (O:w8 m .frz (fun _=>undef)=some (undef,m1)) (N:L1 ρ m.n m1.hi):∃ l,St P base ρ (upd ρ m.n l) m m1 w w/\upd ρ m.n l m.n=some l/\Hp.get m1.H m.n=some .frz/\Enc l.G (Ora.env c) v'/\H7 (Ora.env c)=t:=by
 obtain⟨B,Q⟩:=iS S;rcases B with⟨l,wd,A,F,h3,rfl⟩|⟨l,wd,rows,A,F,h3,h4,R,rfl⟩
 .obtain⟨q,_⟩:=h.atl A K;obtain⟨y,inf,L,X,W,d⟩:=SqR.ex q;rcases d with⟨_,d⟩|⟨d,_⟩
  .obtain⟨g1,g2,g3⟩:=St.region (G:=fun _=>none) h O N (fun k o f=>by cases f);exact⟨_,g3,g1,g2,by rw[d];exact .nil,by rw[d,<- x,L];rfl⟩
  .rw[F]at d;cases d
 .obtain⟨q,_⟩:=h.atl A K;obtain⟨y,inf,L,X,W,d⟩:=SqR.ex q;rcases d with⟨d,_⟩|⟨_,d⟩
  .rw[F]at d;cases d
  .obtain⟨C,fz,J,I,lg,f1,f2,f3,f4,f5,f6,f7,f8,f9⟩:=d;obtain⟨M,_⟩:=h.atl f7 E;have p:∀ k o,lg.G k=some o->w.heap[k]? = some o:=M.2;let G:Nat->Option Obj:=fun k=>if k=l.blk then some (.cells C J fz)else lg.G k
   have D:∀ k o,lg.G k=some o->G k=some o:=fun k o f=>by
    show(if k=l.blk then _ else _)=_;by_cases e:k=l.blk
    .subst e;rw[B0 rfl]
     have:=p _ _ f;rw[f1]at this;exact this
    .rw[A9 e];exact f
   obtain⟨g1,g2,g3⟩:=St.region (G:=G) h O N fun k o f=>by
    have f:(if k=l.blk then some (.cells C J fz)else lg.G k)=some o:=f;by_cases e:k=l.blk
    .subst e;rw[B0 rfl]at f;exact⟨by rw[f1];exact f,b,_,l,h.dom _ _ A,K,A,⟨rfl,.inl ⟨rfl,F,rfl⟩⟩,rfl⟩
    .rw[A9 e]at f;exact⟨p _ _ f,g,_,lg,h.dom _ _ f7,E,f7,⟨rfl,.inr ⟨rfl,o,f⟩⟩,rfl⟩
   refine⟨_,g3,g1,g2,?_,by rw[f2,<- x,L];rfl⟩;rw[f2,<- f3];refine .sl (G:=G) (C:=C) (T:=J) (fz:=fz) A0 (fun _=>?_) (fun _=>?_) f6 fun r row j u v Y V Z=>(f8 r row j u v Y V Z).mono D
   .show(if l.blk=l.blk then _ else _)=_;rw[B0 rfl]
   .have:=G0 y f4;rw[<- f3]at this;omega
def BR.thaw{c t g:Nat}{T:TypeId}{l:Loc}(h:BR P ρ (.sq c t T g false) l w):BR P ρ (.sq c t T g true) l w:=by
 obtain⟨wd,inf,b,e,h3,d⟩:=SqR.ex h;refine⟨⟨wd,inf,b,e,h3,d.imp (fun x=>x) fun⟨f,k⟩=>⟨f,?_⟩⟩⟩;obtain⟨C,fz,n,rows,lg,b,e,h3,d,k,p,r,q,v⟩:=k;exact⟨C,fz,n,rows,lg,b,e,h3,d,k,p,r,q,fun h=>by cases h⟩
def zK{id:Nat}{ab:AB}(h:eA m id ab=some m')(b:j<=J0):Hp.get m'.H j=if j=id then some ab else Hp.get m.H j:=by
 obtain⟨hle,rfl⟩:=Y6 h;exact F6 _ _ _ _ hle b
def nQ{ab:AB}{k:Nat->Value}{v:Value}(h:w8 m ab k=some (v,m'))(b:j<=J0):Hp.get m'.H j=if j=m.n then some ab else Hp.get m.H j:=by
 obtain⟨hle,_,rfl⟩:=N0 h;exact F6 _ _ _ _ hle b
def GS{t:Nat}{v v' x:Value}{b:Nat}(h:HR P base ρ m.H w)(f:toD t v m=some (x,b,m'))(N:L1 ρ m.n m'.hi)(E:VR ρ v v')(hS:Sat m'.lg) :
  ∃ ρ' l,St P base ρ ρ' m m' w w/\ρ' b=some l/\Hp.get m'.H b=some .frz/\Enc l.G (F3 Ora.env x) v'/\H7 (F3 Ora.env x)=t/\m.lg.le m'.lg:=by
 unfold toD at f;split at f
 .rename_i J i tg;obtain⟨d,p⟩:=A3 f;cases p;obtain⟨d,p⟩:=B3 d;have d:=A1 d;obtain⟨l,A,y,C,Q⟩:=pN E;exact⟨ρ,l,St.refl h,A,fI p,y,C.trans d,.refl _⟩
 .rename_i J i tg;obtain⟨d,p⟩:=A3 f;cases p;obtain⟨d,p⟩:=B3 d;have d:=A1 d;obtain⟨l,A,y,C,Q,_⟩:=iT E;exact⟨ρ,l,St.refl h,A,fI p,y,C.trans d,.refl _⟩
 .rename_i J i tg;split at f
  .rename_i c tc T g F;obtain⟨d,p⟩:=A3 f;obtain⟨d,h3⟩:=B3 d;obtain⟨d,D⟩:=B3 d;have d:=A1 d;have D:=A1 D;obtain⟨m1,M,L,_,_,R⟩:=T5 p;cases L;subst d;obtain⟨l,A,y,C,Q,S⟩:=FD h F E D (fI h3) M N;exact⟨_,l,A,y,C,Q,S,by rw[R];exact .refl _⟩
  .rename_i c tc T g F;obtain⟨d,p⟩:=A3 f;obtain⟨d,h3⟩:=B3 d;have Y:=TD h3;obtain⟨d,D⟩:=B3 d;have d:=A1 d;have D:=A1 D;split at p
   .rename_i m1 hs;obtain⟨m2,M,L,_,_,R⟩:=T5 p;cases L;subst d;have V:∃ l0,ρ J=some l0:=by
     rcases(iS E).1 with⟨l,_,d,_⟩|⟨l,_,_,d,_⟩<;>exact⟨l,d⟩
    obtain⟨l0,I⟩:=V;have az:=(h.atl I F).1;have r:=St.same0 h hs F rfl I az.thaw (fun q hq=>by
     rcases hq with⟨_,a,b⟩|⟨a,_⟩
     .exact .inl ⟨rfl,a,b⟩
     .cases a)
    have hle:=(Y6 hs).1;have W:g≠J:=fun e=>by subst e;rw[fI h3]at F;cases F
    have Z:Hp.get m1.H J=some (.sq c tc T g true):=by rw[zK hs hle,B0 rfl]
    have K:Hp.get m1.H g=some .frz:=by rw[zK hs Y,A9 W];exact fI h3
    have X:m1.n=m.n:=by rw[(Y6 hs).2]
    obtain⟨l,A,y,C,Q,S⟩:=FD r.hr Z E D K M (by rw[X];exact N);refine⟨_,l,St.trans N r A,y,C,Q,S,by rw[R,(Y6 hs).2];exact .refl _⟩
   .cases p
  .cases f
 .obtain⟨O,f⟩:=A3 f;have O:=A2 O;rw[P5]at f;simp only at f;obtain⟨m1,M,L,_,_,R⟩:=T5 f;cases L;cases R8 E;have B:(m.wLg (hZ m t (.nilw (t-10)) [])).lg.le m'.lg:=by rw[R];exact .refl _
  obtain⟨A,y,_⟩:=mN hS B;have r:=St.wLg h (hZ m t (.nilw (t-10)) []);obtain⟨g1,g2,g3⟩:=St.region (G:=fun _=>none) r.hr M (by simpa using N) (fun k o hk=>by cases hk);refine⟨_,_,St.trans (by simpa using N) r g3,g1,g2,?_,y,Z8.trans B⟩;show Enc _ (Ora.env m.lg.nx) _;rw[A];exact .nil
 .cases f
end
end
section
open Go
variable [Ora]
section
variable {P:Program} {base:Nat} {ρ ρ':Ren} {m m':Mem} {w w':World}
def aX(ρ:Ren)(m m':Mem):Prop:=∀ j l,ρ j=some l->Hp.get m.H j=some .frz->Hp.get m'.H j=some .frz
def aX.refl:aX ρ m m:=fun _ _ _ h=>h
def aX.trans(he:∀ b l,ρ b=some l->ρ' b=some l)(a:aX ρ m m1)(c:aX ρ' m1 m'):aX ρ m m':=fun j l d e=>c j l (he j l d) (a j l d e)
def aX.lg(lg:Lg):aX ρ m (m.wLg lg):=fun j l _ h=>by rw[mY];exact h
def MH{ab:AB}{k:Nat->Value}{v:Value}(h:HR P base ρ m.H w)(c:w8 m ab k=some (v,m'))(d:L1 ρ m.n m'.hi):aX ρ m m':=fun j l b f=>by
 rw[nQ c (h.dom j l b),A9]
 .exact f
 .intro e;subst e;obtain⟨_,_,rfl⟩:=N0 c;rw[d m.n (A7 _) (L8 _ _).2]at b;cases b
def A0e{ab:AB}{id:Nat}(h:HR P base ρ m.H w)(hs:eA m id ab=some m')(b:Hp.get m.H id≠some .frz):aX ρ m m':=fun j l d c=>by
 rw[zK hs (h.dom j l d),A9]
 .exact c
 .intro e;subst e;exact b c
def JX{t:Nat}{v x:Value}{b:Nat}(h:HR P base ρ m.H w)(d:toD t v m=some (x,b,m'))(B:L1 ρ m.n m'.hi):aX ρ m m':=by
 unfold toD at d;split at d
 .obtain⟨r,f⟩:=A3 d;cases f;exact .refl
 .obtain⟨r,f⟩:=A3 d;cases f;exact .refl
 .split at d
  .obtain⟨r,f⟩:=A3 d;obtain⟨m1,p,q,_⟩:=T5 f;cases q;exact MH h p B
  .rename_i c tc T g D;obtain⟨r,f⟩:=A3 d;split at f
   .rename_i m1 hs;obtain⟨m2,p,q,_⟩:=T5 f;cases q;have F:=A0e h hs (by rw[D];intro h;cases h);intro j l k y;have C:=F j l k y;rw[nQ p (h.dom j l k),A9]
    .exact C
    .intro e;subst e;have A:m1.n=m.n:=by rw[(Y6 hs).2]
     obtain⟨_,_,rfl⟩:=N0 p;rw[B m1.n A0 (L8 _ _).2]at k;cases k
   .cases f
  .cases d
 .obtain⟨E,d⟩:=A3 d;rw[P5]at d;simp only at d;obtain⟨m1,p,q,_⟩:=T5 d;cases q;intro j l k y;rw[nQ p (h.dom j l k),A9,mY]
  .exact y
  .intro e;subst e;have A:(m.wLg (hZ m t (.nilw (t-10)) [])).n=m.n:=by simp
   obtain⟨_,_,rfl⟩:=N0 p;rw[B _ A0 (L8 _ _).2]at k;cases k
 .cases d
def u9(R:Nat->Option Obj)(us:List U)(vs:List Value):Prop:=us.length=vs.length/\∀ (i:Nat) (u:U) (v:Value),us[i]? = some u->vs[i]? = some v->Enc R u v
omit [Ora] in
def u9.nil{R:Nat->Option Obj}:u9 R [] []:=⟨rfl,fun i u v h=>by simp at h⟩
omit [Ora] in
def u9.cons{R:Nat->Option Obj}{v:Value}(h:Enc R u v)(k:u9 R us vs):u9 R (u::us) (v::vs):=⟨by simp[k.1],fun i a b d c=>by
 cases i with
 | zero=>simp at d c;subst d;subst c;exact h
 | succ i=>exact k.2 i a b (by simpa using d) (by simpa using c)⟩
def Sub(G R:Nat->Option Obj):Prop:=∀ k o,G k=some o->R k=some o
def jX{t:Nat}{v x:Value}{b:Nat}{m m':Mem}(c:toD t v m=some (x,b,m')):m.hi<=m'.hi/\m.lg.le m'.lg/\m.n<=m'.n:=by
 have e:∀ {m m1:Mem},w8 m .frz (fun _=>undef)=some (undef,m1)->m.hi<=m1.hi/\m.lg.le m1.lg/\m.n<=m1.n:=fun p=>by
  obtain⟨_,_,rfl⟩:=N0 p;exact⟨(L8 _ _).1,.refl _,x6 _⟩
 unfold toD at c;split at c
 .obtain⟨k,d⟩:=A3 c;cases d;exact⟨A7 _,.refl _,A7 _⟩
 .obtain⟨k,d⟩:=A3 c;cases d;exact⟨A7 _,.refl _,A7 _⟩
 .split at c
  .obtain⟨k,d⟩:=A3 c;obtain⟨m1,g,f,_⟩:=T5 d;cases f;exact e g
  .obtain⟨k,d⟩:=A3 c;split at d
   .rename_i m1 hs;obtain⟨m2,g,f,_⟩:=T5 d;cases f
    have:=e g;obtain⟨_,rfl⟩:=Y6 hs;exact this
   .cases d
  .cases c
 .obtain⟨l,c⟩:=A3 c;rw[P5]at c;simp only at c;obtain⟨m1,g,f,_⟩:=T5 c;cases f
  have:=e g;exact⟨by simpa using this.1,Z8.trans this.2.1,by simpa using this.2.2⟩
 .cases c
structure CC (P:Program) (td:Td):Prop where
 ok:∀ {base:Nat} {ρ:Ren} {m m':Mem} {w:World} {t:Nat} {v v' x:Value} {b:Nat},HR P base ρ m.H w->td t v m=some (x,b,m')->L1 ρ m.n m'.hi->VR ρ v v'->Sat m'.lg ->
  ∃ ρ' l,St P base ρ ρ' m m' w w/\ρ' b=some l/\Hp.get m'.H b=some .frz/\Enc l.G (F3 Ora.env x) v'/\H7 (F3 Ora.env x)=t/\m.lg.le m'.lg/\aX ρ m m'
 mono:∀ {m m':Mem} {t:Nat} {v x:Value} {b:Nat},td t v m=some (x,b,m')->m.hi<=m'.hi/\m.lg.le m'.lg/\m.n<=m'.n
def YH:CC P toD:=⟨fun h c b f e=>let ⟨ρ',l,d,a2,a3,a4,a5,g⟩:=GS h c b f e;⟨ρ',l,d,a2,a3,a4,a5,g,JX h c b⟩,fun h=>jX h⟩
def V8{e:Td}(d:CC P e):∀ {ts:I7} {vs xs:E0} {gs:I7} {m m':Mem},CM e ts vs m=some (xs,gs,m')->m.hi<=m'.hi/\m.lg.le m'.lg/\m.n<=m'.n
 | [],[],_,_,_,_,h=>by cases h;exact⟨A7 _,.refl _,A7 _⟩
 | t::ts,v::vs,xs,gs,m,m',c=>by
   unfold CM at c;cases f:Nat.blt t 10 with
   | true =>
     rw[f]at c;simp only[F1]at c;obtain⟨k,c⟩:=A3 c;split at c
     .rename_i hr;cases c;exact V8 d hr
     .cases c
   | false =>
     rw[f]at c;simp only[E7]at c;split at c
     .rename_i g;split at c
      .rename_i hr;cases c;have a:=d.mono g;have b:=V8 d hr;exact⟨C3 a.1 b.1,a.2.1.trans b.2.1,C3 a.2.2 b.2.2⟩
      .cases c
     .cases c
 | [],_::_,_,_,_,_,c=>by cases c
 | _::_,[],_,_,_,_,c=>by cases c
def lC{M:Td}(f:CC P M):∀ {ts:I7} {vs vs' xs:E0} {gs:I7} {m m':Mem} {ρ:Ren},HR P base ρ m.H w->CM M ts vs m=some (xs,gs,m')->L1 ρ m.n m'.hi->LR ρ vs vs'->Sat m'.lg ->
  ∃ ρ',St P base ρ ρ' m m' w w/\m.lg.le m'.lg/\aX ρ m m'/\(∀ b ∈ gs,Hp.get m'.H b=some .frz/\∃ l,ρ' b=some l)/\(xs.map (F3 Ora.env)).map H7=ts /\
   ∀ R,(∀ b ∈ gs,∀ l,ρ' b=some l->Sub l.G R)->u9 R (xs.map (F3 Ora.env)) vs'
 | [],[],vs',xs,gs,m,m',ρ,h,c,hf,hv,hS=>by
   cases c;exact⟨ρ,St.refl h,.refl _,.refl,fun b O=>(by cases O),rfl,fun R _=>by rw[hv.nil_inv];exact .nil⟩
 | t::ts,v::vs,vs',xs,gs,m,m',ρ,h,c,hf,hv,hS=>by
   obtain⟨v',r',rfl,g,k⟩:=hv.tail;unfold CM at c;cases K:Nat.blt t 10 with
   | true =>
     rw[K]at c;simp only[F1]at c;obtain⟨B,c⟩:=A3 c;have B:=A1 B;have Q:t<10:=A2 K;split at c
     .rename_i r D m2 hr;cases c;obtain⟨ρ2,p,E,y,I,A,C⟩:=lC f h hr hf k hS;obtain⟨f1,f2⟩:=cE g A0;exact⟨ρ2,p,E,y,I,by simp[f2,B,A],fun R x=>.cons (.sc f1) (C R x)⟩
     .cases c
   | false =>
     rw[K]at c;simp only[E7]at c;split at c
     .rename_i hh b m1 T;split at c
      .rename_i r D m2 hr;cases c;have e:m1.hi<=m'.hi/\m1.lg.le m'.lg/\m1.n<=m'.n:=V8 f hr;have F:L1 ρ m.n m1.hi:=hf.less e.1;obtain⟨L,l,q,a2,a3,a4,a5,S,N⟩:=f.ok h T F g (hS.le e.2.1);have J:L1 L m1.n m'.hi:=hf.step q;obtain⟨ρ2,p,E,y,I,A,C⟩:=lC f q.hr hr J (k.mono q.ext) hS;refine⟨ρ2,St.trans hf q p,S.trans E,N.trans q.ext y,fun b' d=>?_,by simp[a5,A],fun R x=>.cons (a4.mono (x b (.head _) l (p.ext _ _ a2))) (C R fun b' d=>x b' (.tail _ d))⟩;rcases C4.1 d with rfl|d
       .exact⟨y _ l a2 a3,l,p.ext _ _ a2⟩
       .exact I b' d
      .cases c
     .cases c
 | [],_::_,_,_,_,_,_,_,_,c,_,_,_=>by cases c
 | _::_,[],_,_,_,_,_,_,_,c,_,_,_=>by cases c
def gJ{gs:I7}{g:Nat}(h:HR P base ρ m.H w)(c:mM gs m=some (g,m'))(x:L1 ρ m.n m'.hi) :
  ∃ ρ' lg,St P base ρ ρ' m m' w w/\m'.lg=m.lg/\aX ρ m m'/\ρ' g=some lg/\Hp.get m'.H g=some .frz/\∀ b ∈ gs,∀ l,ρ b=some l->Sub l.G lg.G:=by
 have main:∀ {gs:I7},(bif gs.all (rE m)then match jN m fun b m=>some (undef,b,m)with
  | some (_,b,m)=>some (b,m)
  | none=>none else none)=some (g,m')->∃ ρ' lg,St P base ρ ρ' m m' w w/\m'.lg=m.lg/\aX ρ m m'/\ρ' g=some lg/\Hp.get m'.H g=some .frz/\∀ b ∈ gs,∀ l,ρ b=some l->Sub l.G lg.G:=fun{gs} c=>by
  obtain⟨t,c⟩:=A3 c;split at c
  .rename_i r b m1 D;cases c;obtain⟨m2,v,A,_,_,B⟩:=T5 D;cases A;have e:∀ b ∈ gs,Hp.get m.H b=some .frz:=fun b d=>fI (E8.1 t b d)
   classical
   let G:Nat->Option Obj:=fun k=>if ∃ b ∈ gs,∃ l o,ρ b=some l/\l.G k=some o then w.heap[k]? else none
   obtain⟨g1,g2,g3⟩:=St.region (G:=G) h v x fun k o f=>by
    have f:(if ∃ b ∈ gs,∃ l o,ρ b=some l/\l.G k=some o then w.heap[k]? else none)=some o:=f;split at f
    .rename_i hex;obtain⟨b,d,l,E,y,C⟩:=hex;exact⟨f,b,_,l,h.dom _ _ y,e b d,y,⟨rfl,.inr ⟨rfl,E,C⟩⟩,rfl⟩
    .cases f
   refine⟨_,mU G,g3,B,MH h v x,g1,g2,fun b d l p k o f=>?_⟩;show(if ∃ b ∈ gs,∃ l o,ρ b=some l/\l.G k=some o then w.heap[k]? else none)=_;rw[B0 ⟨b,d,l,o,p,f⟩];exact(h.atl p (e b d)).1.2 k o f
  .cases c
 unfold mM at c;split at c
 .rename_i g0;obtain⟨t,c⟩:=A3 c;cases c;obtain⟨l,p⟩:=A0t h t;refine⟨ρ,l,St.refl h,rfl,.refl,p,fI t,fun b d l2 q=>?_⟩;rcases C4.1 d with rfl|d
  .rw[p]at q
   have:=A8 q;subst this;exact fun _ _ h=>h
  .cases d
 .exact main c
omit [Ora] in
def pQ{R:Nat->Option Obj}{v r:Value}(h:Enc R u v)(hr:toV u=some r):v=r:=by
 cases h with
 | sc h=>rw[h]at hr;exact A8 hr
 | nil=>cases hr
 | emp=>cases hr
 | sl=>cases hr
omit [Ora] in
def oG{R:Nat->Option Obj}{v:Value}(h:Enc R u v):dJ v=true:=by
 cases h with
 | sc h=>have:=jW h;cases v<;>first|rfl|cases this
 | nil=>rfl
 | emp=>rfl
 | sl=>rfl
def A2n{wd k:Nat}{rows:List (List U)} :evU (.get wd o) [.seq false wd rows,.int kk (.ofNat k)]=(rows.getD k []).getD o .none:=by
 simp[evU]
def getD_some(h:row.getD o .none≠.none):row[o]? = some (row.getD o .none):=by
 rw[C6]at *;cases e:row[o]? with
 | none=>rw[e]at h;exact absurd rfl h
 | some u=>rfl
def iU{wd o i t g k:Nat}{z:Value}{lg:Loc}{rows:List (List U)}{cell:Nat->S8}(hi:Ora.env i=.seq false wd rows)(F:rS Ora.env z=some (.ofNat k))(B:ρ g=some lg)
  (l:∀ q u,(rows.getD k [])[q]? = some u->∃ v,cell q=some v/\Enc lg.G u v) :
  ∀ {ts:I7} {j:Nat} {m m':Mem} {r:E0},n7 wd o i t z g ts j m=some (r,m')->Sat m'.lg->∃ r',LR ρ r r'/\r'.length=ts.length/\(∀ q v',r'[q]? = some v'->cell (o+j+q)=some v')/\K7 m m'/\m.lg.le m'.lg
 | [],j,m,m',r,h,hS=>by
   cases h;exact⟨[],.nil,rfl,fun q v' h=>by simp at h,.refl _,.refl _⟩
 | tg::ts,j,m,m',r,h,hS=>by
   unfold n7 at h;obtain⟨kk,n⟩:=JF F;have f:[hole i t,z].map (F3 Ora.env)=[.seq false wd rows,.int kk (.ofNat k)]:=by
    simp only[E4,I3,n];show[Ora.env i,_]=_;rw[hi]
   have b:∀ {u:U},u≠.none->evU (.get wd (o+j)) ([hole i t,z].map (F3 Ora.env))=u->∃ v,cell (o+j)=some v/\Enc lg.G u v:=fun{u} hu he=>by
    rw[f,A2n]at he;subst he;exact l _ _ (getD_some hu)
   cases E:Nat.blt tg 10 with
   | true =>
     rw[E]at h;simp only[F1]at h;have K:tg<10:=A2 E;split at h
     .rename_i hh m1 p;split at h
      .rename_i H m2 hr;cases h;obtain⟨r',C,A,y,D,d⟩:=iU hi F B l hr hS;obtain⟨u,f1,f2,v,f3,f4,f5⟩:=O0 p (hS.le d);obtain⟨v2,g1,g2⟩:=b (u:=u) (by intro e;subst e;cases f3) f1
       have:=pQ g2 f3;subst this;refine⟨v2::r',.cons (f4 ρ) C,by simp[A],fun q v' c=>?_,(I8 p).trans D,(J1 p).trans d⟩;cases q with
       | zero=>simp at c;subst c;exact g1
       | succ q=>rw[show o+j+(q+1)=o+(j+1)+q by omega];exact y q v' (by simpa using c)
      .cases h
     .cases h
   | false =>
     rw[E]at h;simp only[E7]at h;rw[MD]at h;split at h
     .rename_i H m2 hr;cases h;obtain⟨r',C,A,y,D,d⟩:=iU hi F B l hr hS;obtain⟨f1,f2,J,I,x,f3,f4⟩:=mN hS d;obtain⟨v2,g1,g2⟩:=b (u:=Ora.env m.lg.nx) (by rw[f3];intro h;cases h) f1.symm;refine⟨v2::r',.cons (.dat B g2 f2 A0 (oG g2)) C,by simp[A],fun q v' c=>?_,K7.trans ⟨_,rfl⟩ D,Z8.trans d⟩;cases q with
      | zero=>simp at c;subst c;exact g1
      | succ q=>rw[show o+j+(q+1)=o+(j+1)+q by omega];exact y q v' (by simpa using c)
     .cases h
def lH{t:TypeId}(h:nC P t=some ts):I2 P t=some ts.length:=by
 unfold nC at h;split at h
 .rename_i l n c b;obtain⟨h3,h⟩:=A3 h;cases h;rw[b,A1 h3]
 .cases h
def GC{t:TypeId}{r:E0}{v:Value}{b:Nat}(e:nC P t=some ts)(d:oM P t (some (r,m))=some (v,m'))(g:LR ρ r r')(l:r'.length=ts.length)
  (k:∀ q v',r'[q]? = some v'->w.cell? ⟨b,o+q,none⟩=some v'):m'=m/\∃ v',(Instr.loadAt t (.pointer (some ⟨b,o,none⟩))).run P w=.ok v' w/\VR ρ v v':=by
 unfold oM at d;split at d
 .rename_i c heq;cases d;cases heq;obtain⟨v',p,rfl,n,x⟩:=g.tail;refine⟨rfl,v',?_,n⟩
  have:=k 0 v' rfl;simp[Instr.loadAt,Instr.sureAddr,loadVar,A5,dU c,Result.andThen,run_load,show w.cell? ⟨b,o,none⟩=some v' from by simpa using this]
 .rename_i c heq;cases d;cases heq;refine⟨rfl,.agg ⟨r'⟩,?_,.agg g.1 g.2⟩;have f:I2 P t=some r'.length:=by rw[l];exact lH e
  simp[Instr.loadAt,Instr.sureAddr,loadVar,A5,dU c,L7 f,Result.andThen,L2 rfl k]
 .cases d
def A0R{t:TypeId}{x x' v:Value}(h:HR P base ρ m.H w)(n:MB P m t x=some (v,m'))(hx:VR ρ x x')(hS:Sat m'.lg):(∃ r,(Instr.loadAt t x').run P w=.ok r w/\VR ρ v r)/\K7 m m'/\m.lg.le m'.lg:=by
 have F:∀ {r:Option (E0×Mem)},oM P t r=some (v,m')->∃ vs,r=some (vs,m'):=fun{r} J=>by
  unfold oM at J;split at J
  .cases J;exact⟨_,rfl⟩
  .cases J;exact⟨_,rfl⟩
  .cases J
 unfold MB at n;split at n
 .rename_i b i tg z o ts A;obtain⟨I,n⟩:=A3 n;obtain⟨⟨l,wd,rows,a,s,c,k,N,L,M,X,O,e6,rfl⟩,Z⟩:=IC hx;obtain⟨vs,hr⟩:=F n;rw[hr]at n;have D:tg-10=wd:=by rw[<- Z,L];simp[H7]
  rw[D]at hr;have S:=(h.atl N (fI I)).1.2;rw[L]at M;obtain⟨C,T,fz,f1,f2,f3,f4⟩:∃ C T fz,l.G a=some (.cells C T fz)/\s+rows.length*wd<=C.size/\(∀ row ∈ rows,row.length=wd)/\∀ (r:Nat) (row:List U) (j:Nat) (u:U) (v:Value),rows[r]? = some row->row[j]? = some u->C[s+r*wd+j]? = some v->Enc l.G u v:=by
   have y:rows≠[]:=by intro e;subst e;simp at O
   cases M with
   | sc h=>cases h
   | emp=>exact absurd rfl y
   | sl hc W hz hw hh=>exact⟨_,_,_,W y,hz y,hw,hh⟩
  have B:=S _ _ f1;have d:rows[k]? = some rows[k]:=A6 O;obtain⟨r',g1,g2,g3,g4,g5⟩:=iU (cell:=fun q=>w.cell? ⟨a,s+k*wd+q,none⟩) L X N (fun q u f=>by
   rw[C6,d]at f;have f:rows[k][q]? = some u:=f;have E:=(B1.1 f).1;rw[f3 _ (E6 d)]at E;have V:(k+1)*wd<=rows.length*wd:=G0 wd O;rw[I9]at V;have p:s+k*wd+q<C.size:=A0;refine⟨C[s+k*wd+q],?_,f4 k _ q u _ d f (H1 p)⟩;simp[World.cell?,B,H1 p]) hr hS
  obtain⟨_,Q⟩:=GC (w:=w) (b:=a) (o:=s+k*wd+o) A n g1 g2 (fun q v' f=>by
   have:=g3 q v' f;rw[show s+k*wd+o+q=s+k*wd+(o+0+q) by omega];exact this)
  exact⟨Q,g4,g5⟩
 .rename_i b i tg z o ts A;split at n
  .rename_i c tc T g ro W;obtain⟨I,n⟩:=A3 n;have I:=A1 I;subst I;obtain⟨⟨l,wd,eC,k,N,L,M,X,O,e6,rfl⟩,Z⟩:=yG hx;obtain⟨vs,hr⟩:=F n;rw[hr]at n;obtain⟨K,inf,d1,d2,d3,d4⟩:=SqR.ex (h.atl N W).1;rcases d4 with⟨d4,_⟩|⟨_,d4⟩
   .rw[L]at d4;cases d4
   obtain⟨C,fz,T',rows,lg,f1,f2,f3,f4,f5,f6,f7,f8,f9⟩:=d4;have D:tc-10=K:=A0;rw[D]at hr;have R:k<rows.length:=A0;have d:rows[k]? = some rows[k]:=A6 R;have Y:wd=K:=by
    have:H7 (Ora.env i)=10+wd:=by rw[M];rfl
    omega
   subst Y;obtain⟨r',g1,g2,g3,g4,g5⟩:=iU (cell:=fun q=>w.cell? ⟨l.blk,l.sh+k*wd+q,none⟩) f2 X f7 (fun q u f=>by
    rw[C6,d]at f;have f:rows[k][q]? = some u:=f;have E:=(B1.1 f).1;rw[f6 _ (E6 d)]at E;have V:(k+1)*wd<=l.cap*wd:=G0 wd A0;rw[I9]at V;have p:l.sh+k*wd+q<C.size:=A0;refine⟨C[l.sh+k*wd+q],?_,f8 k _ q u _ d f (H1 p)⟩;simp[World.cell?,f1,H1 p]) hr hS
   obtain⟨_,Q⟩:=GC (w:=w) (b:=l.blk) (o:=l.sh+k*wd+o) A n g1 g2 (fun q v' f=>by
    have:=g3 q v' f;rw[show l.sh+k*wd+o+q=l.sh+k*wd+(o+0+q) by omega];exact this)
   exact⟨Q,g4,g5⟩
  .cases n
 .cases n
end
end
section
open Go
variable [Ora]
section
variable {P:Program} {base:Nat} {ρ ρ':Ren} {m m':Mem} {w w':World}
def at0(a:Nat):Ren:=fun _=>some (lc a 0 0)
def WJ{a s n c:Nat}(h:n<=c):VR (at0 a) (.slice (some ⟨0,s,none⟩) n (O7+1)) (.slice (some ⟨a,s,none⟩) n c) :=
 VR.op (ρ:=at0 a) (b:=0) (o:=s) (n:=n) (m:=O7+1) (m':=c) (l:=lc a 0 0) rfl (by unfold O7;omega) h (fun h=>by unfold O7 at h;omega)
def TY{a s:Nat}:VR (at0 a) (.pointer (some ⟨0,s,none⟩)) (.pointer (some ⟨a,s,none⟩)):=VR.ptr (ρ:=at0 a) (b:=0) (o:=s) (l:=lc a 0 0) rfl
def wG{t e:TypeId}{a s n c z sz:Nat}{k:IntKind}(hu:P.underlying t=some (.slice e))(hs:I2 P e=some sz)(d:z<n)(f:n<=c)(w:World) :
  (Instr.indexAt t (.slice (some ⟨a,s,none⟩) n c) (.int k (.ofNat z))).run P w=.ok (.pointer (some ⟨a,s+z*sz,none⟩)) w:=by
 have g:Nat.blt z n=true:=C5 d;have hm:m7 P t (.slice (some ⟨0,s,none⟩) n (O7+1)) (.int k (.ofNat z))=some (.pointer (some ⟨0,s+z*sz,none⟩)):=by
  simp only[m7,hu,hs,g,F1,dM,F5]
 obtain⟨v',g1,g2⟩:=eI (P:=P) hm (WJ (a:=a) f) (.pure rfl) w;obtain⟨l2,b,_,rfl⟩:=Q3 g2;cases b;exact g1
def sW{t e:TypeId}{a s n z sz:Nat}{k:IntKind}(hu:P.underlying t=some (.array n e))(hs:I2 P e=some sz)(c:z<n)(w:World) :
  (Instr.indexAt t (.pointer (some ⟨a,s,none⟩)) (.int k (.ofNat z))).run P w=.ok (.pointer (some ⟨a,s+z*sz,none⟩)) w:=by
 have d:Nat.blt z n=true:=C5 c;have hm:m7 P t (.pointer (some ⟨0,s,none⟩)) (.int k (.ofNat z))=some (.pointer (some ⟨0,s+z*sz,none⟩)):=by
  simp only[m7,hu,hs,d,F1,dM,F5]
 obtain⟨v',g1,g2⟩:=eI (P:=P) hm (TY (a:=a)) (.pure rfl) w;obtain⟨l2,b,_,rfl⟩:=Q3 g2;cases b;exact g1
def wI{a z:Nat}{c:Array Field}{f:Field}(hu:P.underlying s=some (.struct c))(d:c.toList[i]? = some f)(e:I2 P f.type=some (z+1))(w:World) :
  (Instr.fieldAt s (.pointer (some ⟨a,o,none⟩)) i).run P w=.ok (.pointer (some ⟨a,o+f.offset,none⟩)) w:=by
 have hm:eJ P s (.pointer (some ⟨0,o,none⟩)) i=some (.pointer (some ⟨0,o+f.offset,none⟩)):=by
  simp only[eJ,hu,d,e,dM,F5]
 obtain⟨v',g1,g2⟩:=oC (P:=P) hm (TY (a:=a)) w;obtain⟨l2,b,_,rfl⟩:=Q3 g2;cases b;exact g1
def IE{t wd:Nat}{e:Bool}{rows:List (List U)}{k v:Value}(h:MO m i t z k=some (v,m'))(hi:Ora.env i=.seq e wd rows)(J:t=10+wd)(G:VR ρ z z')(D:Sat m'.lg) :
  v=k/\(∃ kk n,z'=.int kk (.ofNat n)/\n<rows.length/\rS Ora.env z=some (.ofNat n))/\K7 m m'/\m.lg.le m'.lg:=by
 unfold MO at h;cases p:!(Nat.blt (H6 z) 8)with
 | true=>rw[p]at h;cases h
 | false =>
   have E:H6 z<8:=by
    have:Nat.blt (H6 z) 8=true:=by simpa using p
    exact A2 this
   rw[p]at h;simp only[E7]at h;split at h
   .rename_i b H n W hh lg q;split at h
    .rename_i B C;cases h;have d:=J1 q;have c:=gU C;obtain⟨u,f,I,r,x,F,_⟩:=O0 q (V2.le D c);have A:=oJ C (F ρ) D;subst A;obtain⟨kk,y,rfl,f2,_⟩:=O2 G E;have g:[z,hole i t].map (F3 Ora.env)=[.int kk y,.seq e wd rows]:=by
      simp only[E4,I3,f2];show[_,Ora.env i]=_;rw[hi]
     rw[g]at f;have f:(if wd=t-10 then U.bool (decide (0<=y) && decide (y<rows.length))else U.none)=u:=f;rw[B0 A0]at f;subst f;have x:some (Value.bool (decide (0<=y) && decide (y<rows.length)))=some (.bool true):=x;have l:(decide (0<=y) && decide (y<rows.length))=true:=by simpa using x
     simp only[J5,decide_eq_true_eq]at l;obtain⟨n0,rfl⟩:∃ n0:Nat,y=.ofNat n0:=⟨y.toNat,by have:=Int.toNat_of_nonneg l.1;exact this.symm⟩;refine⟨rfl,⟨kk,n0,rfl,?_,TZ f2⟩,K7.trans (I8 q) ⟨B,rfl⟩,d.trans c⟩
     have:=l.2;have:(n0:Int)<rows.length:=this;omega
    .cases h
   .cases h
def A6C{G:Nat->Option Obj}{b:Bool}{wd:Nat}{rows:List (List U)}{v:Value}(h:Enc G (.seq b wd rows) v)(hr:rows≠[]):b=false/\∃ a o c,v=.slice (some ⟨a,o,none⟩) rows.length c/\rows.length<=c:=by
 cases h with
 | sc h=>cases h
 | nil=>exact absurd rfl hr
 | emp=>exact absurd rfl hr
 | sl d _ _ _ _=>exact⟨rfl,_,_,_,rfl,d⟩
def PI{t:Nat}(h:H7 u=t)(d:10<=t):u=.none∨∃ c wd rows,u=.seq c wd rows/\t=10+wd:=by
 cases u with
 | none=>exact .inl rfl
 | int k n=>have:=N1 k;simp[H7]at h;omega
 | bool b=>simp[H7]at h;omega
 | str s=>simp[H7]at h;omega
 | seq c wd rows=>exact .inr ⟨c,wd,rows,rfl,h.symm⟩
def iX{G:Nat->Option Obj}{v:Value}{t:Nat}(h:Enc G u v)(d:H7 u=t)(c:10<=t):∃ b wd rows,u=.seq b wd rows/\t=10+wd:=by
 rcases PI d c with rfl|e
 .cases h with
  | sc h=>cases h
 .exact e
def FK{t e:TypeId}{b s:Nat}{l:Loc}{v v':Value}(hu:P.underlying t=some (.slice e))(hs:I2 P e=some (s+1))(D:tg=10+(s+1))(y:ρ b=some l)(d:Enc l.G (Ora.env i) v')(h3:H7 (Ora.env i)=tg)
  (h:MO m i tg z (dpt b i tg z 0)=some (v,m')) (E:VR ρ z z') (C:Sat m'.lg):(∃ r,(Instr.indexAt t v' z').run P w=.ok r w/\VR ρ v r)/\K7 m m'/\m.lg.le m'.lg:=by
 obtain⟨A,wd,rows,f,B⟩:=iX d h3 A0;obtain⟨rfl,⟨kk,n,rfl,k,p⟩,g1,g2⟩:=IE h f B E C;have q:wd=s+1:=A0;subst q;have g:rows≠[]:=by intro e;subst e;simp at k
 rw[f]at d;obtain⟨rfl,a,o,c,rfl,x⟩:=A6C d g;refine⟨⟨_,wG hu hs k x w,.dpt ⟨l,s+1,rows,a,o,c,n,y,f,by rw[f];exact d,p,k,A0,by simp⟩ h3 rfl⟩,g1,g2⟩
def MM{t:TypeId}{x x' v:Value}(h:nZ P m t x z=some (v,m'))(F:VR ρ x x')(D:VR ρ z z')(I:Sat m'.lg):(∃ r,(Instr.indexAt t x' z').run P w=.ok r w/\VR ρ v r)/\K7 m m'/\m.lg.le m'.lg:=by
 unfold nZ at h;split at h
 .rename_i e b i tg hu;split at h
  .rename_i s hs;obtain⟨g,h⟩:=A3 h;have g:=A1 g;obtain⟨E,d⟩:=iS F;rcases E with⟨l,wd,A,B,h3,rfl⟩|⟨l,wd,rows,A,B,h3,R,J,rfl⟩
   .obtain⟨_,⟨kk,n,_,O,_⟩,_⟩:=IE h h3 (by rw[h3]at d;exact d.symm) D I;simp at O
   .have C:tg=10+wd:=by rw[h3]at d;exact d.symm
    obtain⟨rfl,⟨kk,n,rfl,O,N⟩,g1,g2⟩:=IE h h3 C D I;have p:wd=s+1:=A0;subst p;exact⟨⟨_,wG hu hs A0 J w,.opt ⟨l,s+1,rows,n,A,B,h3,N,A0,A0,by simp⟩ d rfl⟩,g1,g2⟩
  .cases h
 .rename_i e b i tg hu;split at h
  .rename_i s hs;obtain⟨g,h⟩:=A3 h;have g:=A1 g;obtain⟨l,A,B,h3,_⟩:=pN F;exact FK hu hs g A B h3 h D I
  .cases h
 .rename_i e b i tg hu;split at h
  .rename_i s hs;obtain⟨g,h⟩:=A3 h;have g:=A1 g;obtain⟨l,A,B,h3,_⟩:=iT F;exact FK hu hs g A B h3 h D I
  .cases h
 .rename_i n e b i tg y o hu;split at h
  .rename_i s kk k hs;obtain⟨f,h⟩:=A3 h;obtain⟨f,hw⟩:=B3 f;have f:=A2 f;have hw:o+k*s<tg-10:=A2 hw;rw[F5]at h;cases h;cases K2 D;obtain⟨⟨l,wd,rows,a,s0,c,q,L,C,H,M,K,Q,rfl⟩,G⟩:=IC F;have p:tg-10=wd:=by rw[<- G,C];simp[H7]
   refine⟨⟨_,sW hu hs f w,.dpt ⟨l,wd,rows,a,s0,c,q,L,C,H,M,K,A0,by simp⟩ G rfl⟩,.refl _,.refl _⟩
  .cases h
 .rename_i n e b i tg y o hu;split at h
  .rename_i s kk k hs;obtain⟨f,h⟩:=A3 h;obtain⟨f,hw⟩:=B3 f;have f:=A2 f;have hw:o+k*s<tg-10:=A2 hw;rw[F5]at h;cases h;cases K2 D;obtain⟨⟨l,wd,rows,q,L,C,H,M,K,Q,rfl⟩,G⟩:=yG F;have p:tg-10=wd:=by rw[<- G,H];simp[H7]
   refine⟨⟨_,sW hu hs f w,.opt ⟨l,wd,rows,q,L,C,H,M,K,A0,by simp⟩ G rfl⟩,.refl _,.refl _⟩
  .cases h
 .cases h
def NA{x x' v:Value}{f:Nat}(h:oD P m s x f=some (v,m'))(C:VR ρ x x'):(∃ r,(Instr.fieldAt s x' f).run P w=.ok r w/\VR ρ v r)/\m'=m:=by
 unfold oD at h;split at h
 .rename_i D b i tg y o hu;split at h
  .rename_i fd n;split at h
   .rename_i z B;obtain⟨hw,h⟩:=A3 h;have hw:o+fd.offset<tg-10:=A2 hw;rw[F5]at h;cases h;obtain⟨⟨l,wd,rows,a,s0,c,q,p,g,e,t,k,E,rfl⟩,d⟩:=IC C;have A:tg-10=wd:=by rw[<- d,g];simp[H7]
    exact⟨⟨_,wI hu n B w,.dpt ⟨l,wd,rows,a,s0,c,q,p,g,e,t,k,A0,by simp⟩ d rfl⟩,rfl⟩
   .cases h
  .cases h
 .rename_i D b i tg y o hu;split at h
  .rename_i fd n;split at h
   .rename_i z B;obtain⟨hw,h⟩:=A3 h;have hw:o+fd.offset<tg-10:=A2 hw;rw[F5]at h;cases h;obtain⟨⟨l,wd,rows,q,p,g,e,t,k,E,rfl⟩,d⟩:=yG C;have A:tg-10=wd:=by rw[<- d,e];simp[H7]
    exact⟨⟨_,wI hu n B w,.opt ⟨l,wd,rows,q,p,g,e,t,k,A0,by simp⟩ d rfl⟩,rfl⟩
   .cases h
  .cases h
 .cases h
end
end
section
open Go
variable [Ora]
section
variable {P:Program} {base:Nat} {ρ ρ':Ren} {m m':Mem} {w w':World}
def bW{G:Nat->Option Obj}{b:Bool}{wd:Nat}{rows:List (List U)}{v:Value}(h:Enc G (.seq b wd rows) v):(b=true/\rows=[]/\v=.slice none 0 0)∨(b=false/\∃ (a:Addr) (c:Nat),v=.slice (some a) rows.length c/\rows.length<=c):=by
 cases h with
 | sc h=>cases h
 | nil=>exact .inl ⟨rfl,rfl,rfl⟩
 | emp=>exact .inr ⟨rfl,_,_,rfl,A7 _⟩
 | sl d _ _ _ _=>exact .inr ⟨rfl,_,_,rfl,d⟩
def nG{t e:TypeId}{a:Option Addr}{n c:Nat}(hu:P.underlying t=some (.slice e))(w:World):(Builtin.len_ ⟨t::tys⟩ ty #[.slice a n c]).run P w=.ok (.int .i64 n) w:=by
 simp[Builtin.len_,A5,D7 hu,Result.andThen,goInt]
def A2X{t:Nat}{v:Value}{c:Bool}{wd:Nat}{rows:List (List U)}(h:X4 m 3 .len [hole i t]=some (v,m'))(hi:Ora.env i=.seq c wd rows)(e:Sat m'.lg):VR ρ v (.int .i64 rows.length)/\K7 m m'/\m.lg.le m'.lg/\F3 Ora.env v=.int .i64 rows.length:=by
 obtain⟨u,d,n,r,g,k,l⟩:=O0 h e;have b:[hole i t].map (F3 Ora.env)=[.seq c wd rows]:=by
  show[Ora.env i]=_;rw[hi]
 rw[b]at d;have d:U.int .i64 rows.length=u:=d;subst d;cases g;refine⟨k ρ,I8 h,J1 h,?_⟩;obtain⟨rfl,rfl⟩:=lT h;obtain⟨f,p,h3⟩:=e (.lt m.lg.nx 3 .len [hole i t]) (by cases m;exact B6);show Ora.env m.lg.nx=_;rw[f,b];rfl
def oB{i j:Nat}:∀ {l:List u7},tW i l=some j->∃ tg,u7.lt j 3 .len [hole i tg] ∈ l
 | [],h=>by cases h
 | e::r,h=>by
   unfold tW at h;split at h
   .cases h
   .rename_i g t k tg r' he;cases he;cases d:Nat.beq k i && Nat.beq t 3 with
    | true =>
      rw[d]at h;cases h;obtain⟨f,c⟩:=B3 d;have f:=A1 f;have c:=A1 c;subst f;subst c;exact⟨tg,.head _⟩
    | false =>
      rw[d]at h;obtain⟨b,h3⟩:=oB h;exact⟨b,.tail _ h3⟩
   .rename_i he;cases he;obtain⟨b,h3⟩:=oB h;exact⟨b,.tail _ h3⟩
def dN{t:Nat}{v:Value}(h:HW m i t=some (v,m')):K7 m m'/\m.lg.le m'.lg:=by
 unfold HW at h;split at h
 .cases h;exact⟨K7.refl _,.refl _⟩
 .exact⟨I8 h,J1 h⟩
def nX{t:Nat}{v:Value}{d:Bool}{wd:Nat}{rows:List (List U)}(h:HW m i t=some (v,m'))(hi:Ora.env i=.seq d wd rows)(e:Sat m'.lg):VR ρ v (.int .i64 rows.length)/\K7 m m'/\m.lg.le m'.lg/\F3 Ora.env v=.int .i64 rows.length:=by
 unfold HW at h;split at h
 .rename_i j f;cases h;obtain⟨tg,hm⟩:=oB f;obtain⟨b,g,_⟩:=e _ hm;have c:[hole i tg].map (F3 Ora.env)=[.seq d wd rows]:=by
   show[Ora.env i]=_;rw[hi]
  rw[c]at b;have b:Ora.env j=.int .i64 rows.length:=b;refine⟨.hole ?_ ?_,K7.refl _,.refl _,b⟩
  .rw[b];rfl
  .rw[b];rfl
 .exact A2X h hi e
def VG{b:Nat}{v':Value}(h:A0C ρ b u v'):∃ d wd rows a c,u=.seq d wd rows/\v'=.slice a rows.length c:=by
 rcases h with⟨l,wd,k,g,h3,rfl⟩|⟨l,wd,rows,k,g,h3,f,e,rfl⟩
 .exact⟨_,_,_,_,_,h3,rfl⟩
 .exact⟨_,_,_,_,_,h3,by rw[f]⟩
def A2Z{t:TypeId}{x x' v:Value}(h:A2a P m t x=some (v,m'))(p:VR ρ x x')(n:Sat m'.lg):(∃ r,(Builtin.len_ ⟨t::tys⟩ ty #[x']).run P w=.ok r w/\VR ρ v r)/\K7 m m'/\m.lg.le m'.lg:=by
 unfold A2a at h;split at h
 .rename_i e b i tg hu;obtain⟨l,q,d,h3,k⟩:=pN p;obtain⟨g,wd,rows,f,_⟩:=iX d h3 k;obtain⟨g1,g2,g3,_⟩:=nX (ρ:=ρ) h f n;rw[f]at d;rcases bW d with⟨rfl,rfl,rfl⟩|⟨rfl,a,c,rfl,_⟩
  .exact⟨⟨_,nG hu w,g1⟩,g2,g3⟩
  .exact⟨⟨_,nG hu w,g1⟩,g2,g3⟩
 .rename_i e b i tg hu;obtain⟨l,q,d,h3,k,_⟩:=iT p;obtain⟨g,wd,rows,f,_⟩:=iX d h3 k;obtain⟨g1,g2,g3,_⟩:=nX (ρ:=ρ) h f n;rw[f]at d;rcases bW d with⟨rfl,rfl,rfl⟩|⟨rfl,a,c,rfl,_⟩
  .exact⟨⟨_,nG hu w,g1⟩,g2,g3⟩
  .exact⟨⟨_,nG hu w,g1⟩,g2,g3⟩
 .rename_i e b i tg hu;obtain⟨g,wd,rows,a,c,f,rfl⟩:=VG (iS p).1;obtain⟨g1,g2,g3,_⟩:=nX (ρ:=ρ) h f n;exact⟨⟨_,nG hu w,g1⟩,g2,g3⟩
 .cases h
def EW{v v':Value}{n:Nat}(d:VR ρ v v')(c:AN v=true)(b:F3 Ora.env v=.int kk (.ofNat n)):∃ j,v'=.int j (.ofNat n):=by
 obtain⟨k,z,rfl,f2,_⟩:=O2 d (A2 c);rw[f2]at b;injection b with _ hb
 exact⟨k,by rw[hb]⟩
def ZA{h x d x':Value}(hs:RN h x=true)(e:VR ρ h d)(f:VR ρ x x'):d=x':=by
 unfold RN at hs;split at hs
 .rename_i i t1 j t2
  have:=A1 hs;subst this;have hh:∀ {t:Nat} {v:Value},VR ρ (.complex .f64 i t) v->toV (Ora.env i)=some v:=fun{t v} h=>by
   cases h with
   | pure hp=>simp[J8]at hp
   | hole h _=>exact h
  have a:=hh e;rw[hh f]at a;exact(A8 a).symm
 .obtain⟨c,b⟩:=B3 hs;have c:=kA c;rw[dW]at b;have b:=eq_of_beq b;subst c;subst b;cases K2 e;cases K2 f;rfl
 .cases hs
def A09{wd v:Nat}{d:Bool}{rows:List (List U)}{a b:U}(c:evU (.subs wd) [.seq d v rows,a,b]≠.none):∃ g l f h,a=.int g (.ofNat l)/\b=.int f (.ofNat h)/\v=wd/\l<=h/\h<=rows.length:=by
 cases a with
 | int g k=>cases k with
   | ofNat l=>cases b with
     | int f z2=>cases z2 with
       | ofNat h =>
         have c:(if v=wd/\l<=h/\h<=rows.length then U.seq d wd ((rows.drop l).take (h-l))else .none)≠.none:=c;by_cases e:v=wd/\l<=h/\h<=rows.length
         .exact⟨g,l,f,h,rfl,rfl,e.1,e.2.1,e.2.2⟩
         .rw[A9 e]at c;exact(c rfl).elim
       | negSucc _=>exact(c rfl).elim
     | _=>exact(c rfl).elim
   | negSucc _=>exact(c rfl).elim
 | _=>exact(c rfl).elim
def A2q{G:Nat->Option Obj}{k:Bool}{wd l h mm n c:Nat}{rows:List (List U)}{a:Option Addr}(he:Enc G (.seq k wd rows) (.slice a n c))(N:l<=h)(hh:h<=rows.length)(hm:h<=mm)(K:mm<=c) :
  Enc G (.seq k wd ((rows.drop l).take (h-l))) (.slice (if mm=l then a else a.map (·.add (l*wd))) (h-l) (mm-l))∨a=none:=by
 cases he with
 | sc h=>cases h
 | nil=>exact .inr rfl
 | emp =>
   rename_i a;have g:h=0:=by simpa using hh
   subst g;have f:l=0:=A0;subst f;have F:mm=0:=A0;subst F;exact .inl .emp
 | sl M I L hw t =>
   rename_i a o C T fz;refine .inl ?_;have hlen:((rows.drop l).take (h-l)).length=h-l:=by simp;omega
   have key:∀ b x,(h-l≠0->b=a/\x=o+l*wd)->Enc G (.seq false wd ((rows.drop l).take (h-l))) (.slice (some ⟨b,x,none⟩) (h-l) (mm-l)):=fun b x y=>by
    have A:∀ r row,((rows.drop l).take (h-l))[r]? = some row->h-l≠0/\rows[l+r]? = some row:=fun r row hr=>by
     have q:=(B1.1 hr).1;rw[hlen]at q;rw[G6 q,J2]at hr;exact⟨A0,hr⟩
    have d:(rows.drop l).take (h-l)≠[]->h-l≠0/\rows≠[]:=fun d=>by
     constructor
     .intro e;rw[e]at d;simp at d
     .intro e;subst e;simp at d
    have:=Enc.sl (G:=G) (w:=wd) (rows:=(rows.drop l).take (h-l)) (a:=b) (o:=x) (c:=mm-l) (C:=C) (T:=T) (fz:=fz) A0
     (fun B=>by obtain⟨g,f⟩:=d B;rw[(y g).1];exact I f)
     (fun B=>by
       obtain⟨g,f⟩:=d B;rw[hlen,(y g).2];have O:=L f;have H:(l+(h-l))*wd<=rows.length*wd:=G0 wd A0;rw[I9]at H;omega)
     (fun row hr=>hw row (List.mem_of_mem_drop (List.mem_of_mem_take hr)))
     (fun r row j u v J E D=>by
       obtain⟨g,f⟩:=A r row J;rw[(y g).2]at D;refine t (l+r) row j u v f E ?_;rw[I9,show o+(l*wd+r*wd)+j=o+l*wd+r*wd+j by omega];exact D)
    rw[hlen]at this;exact this
   by_cases p:mm=l
   .rw[B0 p];exact key a o fun h=>by omega
   .rw[A9 p];have e:(Addr.mk a o none).add (l*wd)=⟨a,o+l*wd,none⟩:=by
     unfold Addr.add;split
     .rename_i h;rw[h];rfl
     .rfl
    show Enc G _ (.slice (some ((Addr.mk a o none).add (l*wd))) _ _);rw[e];exact key a (o+l*wd) fun _=>⟨rfl,rfl⟩
def IR{t e:TypeId}{b s:Nat}{l:Loc}{hi:S8}{v x':Value}(hu:P.underlying t=some (.slice e))(hs:I2 P e=some s)(ah:tg=10+s)(p:ρ b=some l)(K:Enc l.G (Ora.env i) x')(h3:H7 (Ora.env i)=tg)
  (ar:cl=true->A1Q x') (h:NG m b i tg cl lo hi mx=some (v,m')) (az:OR ρ lo lo') (T:OR ρ hi hi') (Q:OR ρ mx mx') (hS:Sat m'.lg):(∃ r,(Instr.sliceAt t x' lo' hi' mx').run P w=.ok r w/\VR ρ v r)/\K7 m m'/\m.lg.le m'.lg:=by
 have d:∀ {o:S8},OR ρ none o->o=none:=fun{o} h=>by cases o<;>first|rfl|exact h.elim
 have f:∀ {y:Value} {o:S8},OR ρ (some y) o->∃ y',o=some y'/\VR ρ y y':=fun{y o} h=>by cases o<;>first|exact h.elim|exact⟨_,rfl,h⟩
 obtain⟨N,wd,rows,e1,e2⟩:=iX K h3 A0;have an:wd=s:=A0;subst an;rw[e1]at K;obtain⟨a,n,c,ax,hn,ag⟩:∃ a n c,x'=.slice a n c/\n=rows.length/\n<=c:=by
  rcases bW K with⟨rfl,rfl,rfl⟩|⟨rfl,a,c,rfl,hc⟩
  .exact⟨_,_,_,rfl,rfl,A7 _⟩
  .exact⟨_,_,_,rfl,rfl,hc⟩
 subst ax;have go:∀ {m:Mem} {A g:Value} {R:Bool} {H:S8} {hh mm:Nat},iZ m b i tg A g R=some (v,m') ->
   (H=none/\A=.int .i64 0∨∃ y,H=some y/\VR ρ A y)->(∀ kk q,F3 Ora.env g=.int kk (.ofNat q)->q<=rows.length->q=hh/\Bd mx' c c mm/\(hi'=none->mx'=none)/\Bd hi' mm n hh/\hh<=mm/\(R=true->mm=hh)) ->
   (∃ r,(Instr.sliceAt t (.slice a n c) H hi' mx').run P w=.ok r w/\VR ρ v r)/\K7 m m'/\m.lg.le m'.lg:=fun{m A g R H hh mm} h I ao=>by
  unfold iZ at h;obtain⟨hint,h⟩:=A3 h;obtain⟨aw,ak⟩:=B3 hint;rw[P5]at h;simp only[D9,Q0]at h;obtain⟨rfl,rfl⟩:=h;obtain⟨f1,f2,al,aj,av,f3,f4⟩:=mN hS (.refl _);have S:[hole i tg,A,g].map (F3 Ora.env)=[.seq N wd rows,F3 Ora.env A,F3 Ora.env g]:=by
   show[Ora.env i,_,_]=_;rw[e1]
  rw[S]at f1;have au:tg-10=wd:=A0;rw[au]at f1;obtain⟨k1,C,Z,D,a1,a2,a3,a4⟩:∃ k1 C Z D,F3 Ora.env A=.int k1 (.ofNat C)/\F3 Ora.env g=.int Z (.ofNat D)/\C<=D/\D<=rows.length:=by
   have ay:evU (.subs wd) [.seq N wd rows,F3 Ora.env A,F3 Ora.env g]≠.none:=by rw[<- f1,f3];intro h;cases h
   obtain⟨k1,C,Z,D,q1,E,_,q3,q4⟩:=A09 ay;exact⟨k1,C,Z,D,q1,E,q3,q4⟩
  rw[a1,a2]at f1;have f1:Ora.env m.lg.nx=if wd=wd/\C<=D/\D<=rows.length then U.seq N wd ((rows.drop C).take (D-C))else .none:=f1
  rw[B0 ⟨rfl,a3,a4⟩]at f1;obtain⟨rfl,Y,b2,b3,b4,b5⟩:=ao Z D a2 a4;have b6:Bd H D 0 C:=by
   rcases I with⟨rfl,rfl⟩|⟨y,rfl,hy⟩
   .cases a1;exact .inl ⟨rfl,rfl⟩
   .obtain⟨j,rfl⟩:=EW hy aw a1;exact .inr ⟨j,rfl,a3⟩
  have W:=wF (P:=P) (a:=a) (n:=n) (c:=c) hu hs Y b2 b3 b6 w;have M:Enc l.G (Ora.env m.lg.nx) (.slice (if mm=C then a else a.map (·.add (C*wd))) (D-C) (mm-C)):=by
   rw[f1];rcases A2q (mm:=mm) K a3 a4 b4 (by rcases Y with⟨_,rfl⟩|⟨_,_,Y⟩<;>omega)with he|rfl
   .exact he
   .rcases bW K with⟨rfl,rfl,L⟩|⟨_,_,_,L,_⟩
    .cases L;have z1:D=0:=by simp at a4;exact a4
     have z2:C=0:=A0;have z3:mm=0:=by
      rcases Y with⟨_,rfl⟩|⟨_,_,Y⟩<;>omega
     subst z1;subst z2;subst z3;exact .nil
    .cases L
  refine⟨⟨_,W,?_⟩,⟨_,rfl⟩,Z8⟩;cases R with
  | false=>exact .dat p M f2 A0 rfl
  | true =>
    refine .clp p M f2 A0 rfl ?_;show mm-C=D-C;rw[b5 rfl]
 have F:∀ {g y:Value} {kk:IntKind} {q:Nat},VR ρ g y->AN g=true->F3 Ora.env g=.int kk (.ofNat q)->∃ j,y=.int j (.ofNat q):=fun p K h3=>EW p K h3
 have B:∀ {m:Mem} {A g:Value} {R:Bool},iZ m b i tg A g R=some (v,m')->AN g=true:=fun h=>by
  unfold iZ at h;exact(B3 (A3 h).1).2
 have main:∀ A,(lo'=none/\A=.int .i64 0∨∃ y,lo'=some y/\VR ρ A y)->NE m b i tg cl A hi mx=some (v,m')->(∃ r,(Instr.sliceAt t (.slice a n c) lo' hi' mx').run P w=.ok r w/\VR ρ v r)/\K7 m m'/\m.lg.le m'.lg:=fun A I h=>by
  cases hi with
  | some g =>
    obtain⟨ai,rfl,J⟩:=f T;cases mx with
    | none =>
      cases d Q;have h:iZ m b i tg A g false=some (v,m'):=h;have hint:=B h;obtain⟨kk,q,L⟩:∃ kk q,F3 Ora.env g=.int kk q:=by
       obtain⟨k,z,_,f2,_⟩:=O2 J (A2 hint);exact⟨k,z,f2⟩
      exact go (hh:=q.toNat) (mm:=c) h I fun X E p K=>by
       rw[L]at p;injection p with _ p
       subst p;obtain⟨j,rfl⟩:=F J hint L;have e:(Int.ofNat E).toNat=E:=rfl;rw[e];exact⟨rfl,.inl ⟨rfl,rfl⟩,fun h=>(by cases h),.inr ⟨j,rfl,A0⟩,A0,fun h=>by cases h⟩
    | some x =>
      obtain⟨x',rfl,aq⟩:=f Q;have h:(bif RN g x then iZ m b i tg A g true else none)=some (v,m'):=h;obtain⟨O,h⟩:=A3 h;have hint:=B h
      have:=ZA O J aq;subst this;obtain⟨kk,q,L⟩:∃ kk q,F3 Ora.env g=.int kk q:=by
       obtain⟨k,z,_,f2,_⟩:=O2 J (A2 hint);exact⟨k,z,f2⟩
      exact go (hh:=q.toNat) (mm:=q.toNat) h I fun X E p K=>by
       rw[L]at p;injection p with _ p
       subst p;obtain⟨j,rfl⟩:=F J hint L;have e:(Int.ofNat E).toNat=E:=rfl;rw[e];exact⟨rfl,.inr ⟨j,rfl,A0⟩,fun h=>(by cases h),.inr ⟨j,rfl,A7 _⟩,A7 _,fun _=>rfl⟩
  | none =>
    cases d T;cases mx with
    | some x=>cases h
    | none =>
      cases d Q;unfold NE at h;simp only at h;split at h
      .rename_i g m1 hl;have V:K7 m1 m'/\m1.lg.le m'.lg:=by
        unfold iZ at h;obtain⟨_,h⟩:=A3 h;rw[P5]at h;simp only[D9,Q0]at h;obtain⟨_,rfl⟩:=h;exact⟨⟨_,rfl⟩,Z8⟩
       obtain⟨q1,E,q3,q4⟩:=nX (ρ:=ρ) hl e1 (hS.le V.2);obtain⟨r1,r2,r3⟩:=go (hh:=rows.length) (mm:=c) h I fun X E p K=>by
        rw[q4]at p;injection p with _ p
        have p:((rows.length:Nat):Int)=(E:Nat):=p;have:E=rows.length:=A0;subst this;refine⟨rfl,.inl ⟨rfl,rfl⟩,fun _=>rfl,.inl ⟨rfl,hn.symm⟩,A0,fun hc=>?_⟩
        have:=ar hc;have:c=n:=this;omega
       exact⟨r1,E.trans r2,q3.trans r3⟩
      .cases h
 cases lo with
 | none=>exact main _ (.inl ⟨d az,rfl⟩) h
 | some y=>obtain⟨y',q1,E⟩:=f az;exact main _ (.inr ⟨y',q1,E⟩) h
end
end
section
open Go
variable [Ora]
section
variable {P:Program} {base:Nat} {ρ ρ':Ren} {m m':Mem} {w w':World}
def Q4(R:Nat->Option Obj)(rows:List (List U))(wd:Nat)(C:Array Value)(o:Nat):Prop :=
 (∀ row ∈ rows,row.length=wd)/\∀ (r:Nat) (row:List U) (j:Nat) (u:U) (v:Value),rows[r]? = some row->row[j]? = some u->C[o+r*wd+j]? = some v->Enc R u v
def Q4.mono{R d:Nat->Option Obj}{rows:List (List U)}{wd:Nat}{C:c9}(h:Q4 R rows wd C o)(hs:Sub R d):Q4 d rows wd C o:=⟨h.1,fun r row j u v a b c=>(h.2 r row j u v a b c).mono hs⟩
def Q4.nil{R:Nat->Option Obj}{wd:Nat}{C:c9}:Q4 R [] wd C o:=⟨fun _ h=>by(cases h),fun r row j u v h=>by simp at h⟩
def pV{wd:Nat}:∀ {n:Nat} {l:List U} {r:List (List U)},aN wd n l=some r->r.length=n/\l.length=n*wd/\(∀ row ∈ r,row.length=wd)/\∀ (q:Nat) (row:List U) (j:Nat) (u:U),r[q]? = some row->row[j]? = some u->l[q*wd+j]? = some u
 | 0,[],r,h=>by cases h;exact⟨rfl,by simp,fun _ h=>(by cases h),fun q row j u h=>by simp at h⟩
 | 0,_::_,r,h=>by cases h
 | n+1,l,r,h=>by
   unfold aN at h;split at h
   .rename_i hle;split at h
    .rename_i k hr;cases h;obtain⟨c,e,h3,d⟩:=pV hr;have g:l.length=(n+1)*wd:=by
      rw[K8]at e;rw[I9];omega
     refine⟨by simp[c],g,fun row b=>?_,fun q row j u g1 g2=>?_⟩
     .rcases C4.1 b with rfl|b
      .simp;omega
      .exact h3 row b
     .cases q with
      | zero =>
        simp at g1;subst g1;have f:=(B1.1 g2).1;simp at f;rw[G6 A0]at g2
        simpa using g2
      | succ q =>
        have:=d q row j u (by simpa using g1) g2;rw[J2]at this;rw[show(q+1)*wd+j=wd+(q*wd+j) by rw[I9];omega];exact this
    .cases h
   .cases h
def rI{wd:Nat}:∀ (n:Nat) (l:List U),l.length=n*wd->∃ r,aN wd n l=some r
 | 0,[],_=>⟨[],rfl⟩
 | 0,_::_,h=>by simp at h
 | n+1,l,h=>by
   rw[I9]at h;obtain⟨r,hr⟩:=rI (wd:=wd) n (l.drop wd) (by rw[K8];omega);refine⟨l.take wd::r,?_⟩;unfold aN;rw[B0 A0,hr]
def qG{R:Nat->Option Obj}{wd n:Nat}{rows:List (List U)}(h:u9 R us vs)(b:aN wd n us=some rows):Q4 R rows wd ⟨vs⟩ 0:=by
 obtain⟨e,d,h3,c⟩:=pV b;refine⟨h3,fun r row j u v g1 g2 g3=>h.2 _ u v (c r row j u g1 g2) ?_⟩
 simpa using g3
def zT{α:Type}{l:List α}:∀ n,(PN l n).length=n*l.length
 | 0=>by simp[PN]
 | n+1=>by simp[PN,zT n,I9];omega
def kC(s:List UInt8):(mH s).length=s.length:=by simp[mH]
def KQ{R:Nat->Option Obj}(s:List UInt8):Q4 R (mH s) 1 ⟨R3 s⟩ 0:=by
 refine⟨fun row hr=>?_,fun r row j u v g1 g2 g3=>?_⟩
 .unfold mH at hr;obtain⟨b,_,rfl⟩:=O9.1 hr;rfl
 .unfold mH at g1;rw[H9]at g1;cases c:s[r]? with
  | none=>rw[c]at g1;cases g1
  | some b =>
    rw[c]at g1;simp only[M1,D9]at g1;subst g1;cases j with
    | zero =>
      simp at g2;subst g2;have g3:(R3 s)[0+r*1+0]? = some v:=by simpa using g3
      unfold R3 at g3;rw[H9,show 0+r*1+0=r by omega,c]at g3;simp only[M1,D9]at g3;subst g3;exact .sc rfl
    | succ j=>simp at g2
def vL{G:Nat->Option Obj}{wd n c:Nat}{rows:List (List U)}(h:Enc G (.seq false wd rows) (.slice (some a) n c))(I:∀ k D,G k=some D->w.heap[k]? = some D) :
  n=rows.length/\∃ new',new'.length=rows.length*wd/\new'.all dJ=true/\Q4 G rows wd ⟨new'⟩ 0/\∀ (j:Nat) (v':Value),new'[j]? = some v'->w.cell? (a.add j)=some v':=by
 cases h with
 | sc h=>cases h
 | emp=>exact⟨rfl,[],by simp,rfl,.nil,fun j v' h=>by simp at h⟩
 | sl K J E hw f =>
   rename_i a o C T fz;refine⟨rfl,?_⟩;cases hr:rows with
   | nil=>exact⟨[],by simp,rfl,.nil,fun j v' h=>by simp at h⟩
   | cons L M =>
     have l:rows≠[]:=by rw[hr];simp
     rw[<- hr];have hh:=I _ _ (J l);have E:=E l;have hlen:((C.toList.drop o).take (rows.length*wd)).length=rows.length*wd:=by simp;omega
     have b:∀ j,j<rows.length*wd->((C.toList.drop o).take (rows.length*wd))[j]? = C[o+j]? := fun j d=>by
      rw[G6 d,J2];simp
     refine⟨_,hlen,?_,⟨hw,fun r row j u v g1 g2 g3=>?_⟩,fun j v' d=>?_⟩
     .refine E8.2 fun v F=>?_
      obtain⟨j,d,e⟩:=aO F;rw[hlen]at d;have y:C[o+j]? = some v:=by rw[<- b j d,A6 (by rw[hlen];exact d),e]
      have p:0<wd:=by
       rcases W6 wd with A|A
       .subst A;omega
       .exact A
      have B:j / wd<rows.length:=by rw[Nat.div_lt_iff_lt_mul p];exact d
      have t:(rows[j / wd]).length=wd:=hw _ (P4 B);have h3:j%wd<wd:=rU _ p;refine oG (f (j / wd) rows[j / wd] (j%wd) (rows[j / wd])[j%wd] v (A6 B) (A6 (by rw[t];exact h3)) ?_);have:o+j / wd*wd+j%wd=o+j:=by have:=Nat.div_add_mod j wd;rw[dA]at this;omega
      rw[this];exact y
     .have H:0+r*wd+j<rows.length*wd:=by
       have x:=(B1.1 g1).1;have q:=(B1.1 g2).1;rw[hw _ (E6 g1)]at q;have t:(r+1)*wd<=rows.length*wd:=G0 wd x;rw[I9]at t;omega
      have g3:((C.toList.drop o).take (rows.length*wd))[0+r*wd+j]? = some v:=by simpa using g3
      rw[b _ H]at g3;exact f r row j u v g1 g2 (by rw[show o+r*wd+j=o+(0+r*wd+j) by omega];exact g3)
     .have g:=(B1.1 d).1;rw[hlen]at g;rw[b j g]at d;rw[L2.add_none'];simp[World.cell?,hh,d]
structure WM (P:Program) (ρ':Ren) (w:World) (wd:Nat) (bh:Beh) (gs:List Nat) (y':Value) (rows2:List (List U)) (new':List Value):Prop where
 len:∀ wd',(Builtin.lenOf y').run P wd'=.ok rows2.length wd'
 first:∀ wd':World,wd'.heap=w.heap->(Builtin.firstCells wd rows2.length y').run P wd'=.ok ⟨new'⟩ wd'
 size:new'.length=rows2.length*wd
 flat:new'.all dJ=true
 rows:∀ R,(∀ b ∈ gs,∀ l,ρ' b=some l->Sub l.G R)->Q4 R rows2 wd ⟨new'⟩ 0
 ev:∀ c nul rows,Ora.env c=.seq nul wd rows->evU (fB wd (hole c (10+wd)) bh).1 ((fB wd (hole c (10+wd)) bh).2.map (F3 Ora.env))=oI nul wd rows rows2
def FJ{R:Nat->Option Obj}(h:u9 R us vs):vs.all dJ=true:=by
 refine E8.2 fun v c=>?_
 obtain⟨j,b,e⟩:=aO c;have hu:j<us.length:=by rw[h.1];exact b
 exact oG (h.2 j us[j] v (A6 hu) (by rw[A6 b,e]))
def TX{td:Td}(N:CC P td){e:TypeId}{wd:Nat}{y y':Value}{bh:Beh}{gs:I7}(h:HR P base ρ m.H w)(p:A1e td P m e wd y=some (bh,gs,sure,m'))(hf:L1 ρ m.n m'.hi)(Q:VR ρ y y')(hS:Sat m'.lg)(ay:0<wd)(V:I2 P e=some wd) :
  ∃ ρ' d new',St P base ρ ρ' m m' w w/\m.lg.le m'.lg/\aX ρ m m'/\(∀ b ∈ gs,Hp.get m'.H b=some .frz/\∃ l,ρ' b=some l)/\WM P ρ' w wd bh gs y' d new'/\(sure=true->d≠[]):=by
 unfold A1e at p;split at p
 .cases p;cases R8 Q;refine⟨ρ,[],[],St.refl h,.refl _,.refl,fun b F=>(by cases F),⟨fun _=>rfl,fun _ _=>rfl,by simp,rfl,fun R _=>.nil,fun c g rows t=>?_⟩,fun h=>by cases h⟩;show evU (.snoc wd) [Ora.env c]=_;rw[t];show(if wd=wd/\wd≠0 then(match aN wd (([]:List U).length / wd) []with|some r=>oI g wd rows r|none=>.none)else .none)=_;rw[B0 ⟨rfl,A0⟩,B4,Nat.zero_div];rfl
 .rename_i a n c;split at p
  .rename_i cs ts hr T;split at p
   .rename_i xs aw m2 W;cases p;have az:gD m wd (.slice (some a) n c)=some (n,cs):=by simp only[gD,hr]
    obtain⟨f1,new',f2,f3⟩:=wQ h az Q;obtain⟨ρ2,D,L,O,B,e5,J⟩:=lC N h W hf f2 hS;have Y:ts.length=wd:=by have:=lH T;rw[V]at this;exact(A8 this).symm
    have E:(xs.map (F3 Ora.env)).length=n*wd:=by
     have:=D8 List.length e5;rw[I4,zT,Y]at this;exact this
    obtain⟨d,G⟩:=rI (wd:=wd) n (xs.map (F3 Ora.env)) E;obtain⟨g1,g2,g3,g4⟩:=pV G;refine⟨ρ2,d,new',D,L,O,B,⟨fun q=>by rw[g1];exact f1 q,fun q I=>by rw[g1];exact f3 q I,?_,?_,fun R hR=>qG (J R hR) G,fun c g rows t=>?_⟩,fun hs=>?_⟩
    .have:=(J (fun k=>w.heap[k]?) (fun b F l X k o Z=>by
      obtain⟨K,_⟩:=B b F;exact(D.hr.atl X K).1.2 k o Z)).1
     rw[<- this,E,g1]
    .exact FJ (J (fun k=>w.heap[k]?) (fun b F l X k o Z=>by
      obtain⟨K,_⟩:=B b F;exact(D.hr.atl X K).1.2 k o Z))
    .show evU (.snoc wd) (Ora.env c::xs.map (F3 Ora.env))=_;rw[t];show(if wd=wd/\wd≠0 then(match aN wd ((xs.map (F3 Ora.env)).length / wd) (xs.map (F3 Ora.env))with|some r=>oI g wd rows r|none=>.none)else .none)=_;rw[B0 ⟨rfl,A0⟩,E,bN _ ay,G]
    .have:0<n:=A2 hs;intro he;subst he;simp at g1;omega
   .cases p
  .cases p
 .split at p
  .rename_i x b m2 W;cases p;obtain⟨ρ2,l,D,L,O,B,e5,J,e7⟩:=N.ok h W hf Q hS;obtain⟨ax,f,d,K,q2⟩:=iX B e5 A0;have S:f=wd:=A0;subst S;have hG:=(D.hr.atl L O).1.2;rw[K]at B;have M:∀ c g rows,Ora.env c=.seq g f rows->evU (fB f (hole c (10+f)) (.rows x)).1 ((fB f (hole c (10+f)) (.rows x)).2.map (F3 Ora.env))=oI g f rows d:=fun c g rows t=>by
    show evU (.cat f) [Ora.env c,F3 Ora.env x]=_;rw[t,K];simp[evU]
   have A:∀ b' ∈ [b],Hp.get m'.H b'=some .frz/\∃ l,ρ2 b'=some l:=fun b' C=>by
    rcases C4.1 C with rfl|C
    .exact⟨O,l,L⟩
    .cases C
   rcases bW B with⟨rfl,rfl,rfl⟩|⟨rfl,a,c,rfl,t⟩
   .exact⟨ρ2,[],[],D,J,e7,A,⟨fun _=>rfl,fun _ _=>rfl,by simp,rfl,fun R _=>.nil,M⟩,fun h=>by cases h⟩
   .obtain⟨_,new',g1,g2,g3,g4⟩:=vL (w:=w) B hG;refine⟨ρ2,d,new',D,J,e7,A,⟨fun _=>rfl,fun q I=>?_,g1,g2,fun R hR=>g3.mono (hR b (.head _) l L),M⟩,fun h=>by cases h⟩;rw[show Builtin.firstCells f d.length (.slice (some a) d.length c)=loadCells a (d.length*f)from rfl];exact nW g1 fun j v' hj=>by rw[dQ I];exact g4 j v' hj
  .cases p
 .obtain⟨h1,p⟩:=A3 p;obtain⟨h2,h3⟩:=B3 h1;have h4:=A1 h2;have h5:=A1 h3;cases p;subst h5;obtain⟨s,rfl,f1⟩:=bC Q h4;refine⟨ρ,mH s,R3 s,St.refl h,.refl _,.refl,fun b F=>(by cases F),⟨fun _=>?_,fun q _=>?_,by simp[mH,R3],?_,fun R _=>KQ s,fun c g rows t=>?_⟩,fun h=>by cases h⟩
  .rw[kC];rfl
  .rw[kC];have e:((ByteArray.extract ⟨⟨s⟩⟩ 0 s.length).data.map fun b=>Value.int .u8 b.toNat)=⟨R3 s⟩:=by
    rw[jQ];apply K0;simp[R3]
   show(pure ((ByteArray.extract ⟨⟨s⟩⟩ 0 s.length).data.map fun b=>Value.int .u8 b.toNat):Sem c9).run P q=_;rw[e];rfl
  .refine E8.2 fun v hv=>?_
   unfold R3 at hv;obtain⟨b,_,rfl⟩:=O9.1 hv;rfl
  .show evU .cats [Ora.env c,F3 Ora.env y]=_;rw[t,f1];simp[evU]
end
end
section
open Go
variable [Ora]
section
variable {P:Program} {base:Nat} {ρ ρ':Ren} {m m':Mem} {w w':World}
def Sub.trans{A B C:Nat->Option Obj}(h:Sub A B)(k:Sub B C):Sub A C:=fun q o b=>k q o (h q o b)
structure A1w (P:Program) (base:Nat) (ρ:Ren) (m:Mem) (w:World) (e:TypeId) (wd c:Nat) (gs:List Nat) (old:Option Nat) (x':Value):Prop where
 ex:∃ nul rows,Ora.env c=.seq nul wd rows/\((nul=true/\rows=[]/\x'=.slice none 0 0/\(∀ b,old=some b->∃ ab l,b<=J0/\Hp.get m.H b=some ab/\ab.rw=true/\ρ b=some l/\l.on=false)) ∨
  (nul=false/\∃ b ab l cap C fz,old=some b/\b<=J0/\Hp.get m.H b=some ab/\ab.rw=true/\ρ b=some l/\l.on=true/\x'=.slice (some ⟨l.blk,l.sh,none⟩) rows.length cap/\w.heap[l.blk]? = some (.cells C e fz) /\
    rows.length<=cap/\l.sh+cap*wd<=C.size/\(∀ i,i<C.size->¬ (fz.1<=i/\i<fz.2))/\∀ R,(∀ b ∈ gs,∀ l,ρ b=some l->Sub l.G R)->Q4 R rows wd C l.sh))
def NX{td:Td}(ah:CC P td){e:TypeId}{wd c:Nat}{x x':Value}{gs:I7}{old:Option Nat}(h:HR P base ρ m.H w)(d:FY td P m e wd x=some (c,gs,old,m'))(hf:L1 ρ m.n m'.hi)(hx:VR ρ x x')(hS:Sat m'.lg)(aa:0<wd)(p:I2 P e=some wd) :
  ∃ ρ',St P base ρ ρ' m m' w w/\m.lg.le m'.lg/\aX ρ m m'/\A1w P base ρ' m' w e wd c gs old x':=by
 unfold FY at d;split at d
 .rw[P5]at d;simp only[hole]at d;cases d;cases R8 hx;obtain⟨q,e2,_⟩:=mN hS (.refl _);refine⟨ρ,St.wLg h _,Z8,aX.lg _,⟨true,[],q,.inl ⟨rfl,rfl,rfl,fun b hb=>by cases hb⟩⟩⟩
 .rename_i b i tg;split at d
  .rename_i c0 tc T g V;obtain⟨y,d⟩:=A3 d;obtain⟨y,O⟩:=B3 y;obtain⟨y,h3⟩:=B3 y;obtain⟨O,F⟩:=B3 O;have y:=A1 y;have h3:=A1 h3;have O:=A1 O;have F:=A2 F;cases d;subst O;obtain⟨Y,bw⟩:=iS hx;rcases Y with⟨l,an,g1,g2,g3,rfl⟩|⟨l,an,ag,g1,g2,g3,g4,bq,rfl⟩
   .obtain⟨G,inf,q,e2,e3,f⟩:=SqR.ex (h.atl g1 V).1;rcases f with⟨_,f⟩|⟨f,_⟩
    .have:G=wd:=A0;subst this;refine⟨ρ,St.refl h,.refl _,.refl,⟨true,[],f,.inl ⟨rfl,rfl,rfl,fun b' aw=>?_⟩⟩⟩;cases aw;exact⟨_,l,F,V,rfl,g1,g2⟩
    .rw[g2]at f;cases f
   .obtain⟨G,inf,q,e2,e3,f⟩:=SqR.ex (h.atl g1 V).1;rcases f with⟨f,_⟩|⟨_,f⟩
    .rw[g2]at f;cases f
    .obtain⟨C,fz,T',rows,lg,f1,f2,f3,f4,f5,f6,f7,f8,f9⟩:=f;have:G=wd:=A0;subst this;obtain⟨rfl,f10⟩:=f9 rfl;exact⟨ρ,St.refl h,.refl _,.refl,⟨false,rows,f2,.inr ⟨rfl,b,_,l,l.cap,C,fz,rfl,F,V,rfl,g1,g2,by rw[f3],f1,A0,f5,f10,fun R hR=>⟨f6,fun r row j u v q1 q2 q3=>(f8 r row j u v q1 q2 q3).mono (hR g (.head _) lg f7)⟩⟩⟩⟩
  .cases d
 .rename_i b n c0;split at d
  .rename_i cs T0 br ts V av;obtain⟨hq,k⟩:=A3 d;obtain⟨aj,al⟩:=B3 hq;have y:=A1 aj;clear d;split at k
   .rename_i xs bs m1 hd;split at k
    .rename_i bu T W;obtain⟨K,I⟩:=A3 k;clear k;obtain⟨K,F⟩:=B3 K;have h3:=A1 K;have F:=A2 F;subst h3;rw[P5]at I;simp only[hole]at I;cases I;have ao:L1 ρ m.n m1.hi:=by simpa using hf
     have af:Sat m1.lg:=V2.le hS Z8;obtain⟨l,cap,t,bx,ay,au⟩:∃ l cap,ρ b=some l/\n<=cap/\(cap=n∨cap=l.cap)/\x'=.slice (some ⟨l.blk,0+l.sh,none⟩) n cap:=by
      rcases(J9 _ _).mp al with D|D
      .obtain⟨S,M⟩:=B3 D;have S:=A1 S;have M:c0<O7:=A2 M;rcases Q7 hx with⟨l,t,_,L,rfl⟩|⟨l,c',t,_,ai,az,Z,rfl⟩|⟨a',c',_,_,D,_⟩
       .exact⟨l,c0,t,A0,.inl S,rfl⟩
       .omega
       .omega
      .have D:=A1 D;rcases Q7 hx with⟨l,t,_,L,rfl⟩|⟨l,c',t,_,ai,az,Z,rfl⟩|⟨a',c',_,_,M,_⟩
       .omega
       .exact⟨l,c',t,az,.inr (Z D rfl),rfl⟩
       .omega
     obtain⟨⟨ax,C,fz,T1,f1,f2,_⟩,_⟩:=h.atl t V;obtain⟨cs',f4,f5⟩:=bS (ρ:=ρ) (C:=C) (cs:=cs) (s:=l.sh) f2;obtain⟨bz,q,e2,e3,f,e5,e6⟩:=lC ah h hd ao f4 af;obtain⟨⟨_,C1,bt,T2,g1,g2,g3⟩,_⟩:=q.hr.atl (q.ext _ _ t) W;rw[f1]at g1;cases g1;obtain⟨rfl,g4,g5⟩:=g3 rfl;have A:=lH av;rw[p]at A;have L:ts.length=wd:=(A8 A).symm;have X:(xs.map (F3 Ora.env)).length=n*wd:=by
      have:=D8 List.length e5;rw[I4,zT,L]at this;exact this
     obtain⟨rows,Q⟩:=rI (wd:=wd) n (xs.map (F3 Ora.env)) X;obtain⟨q1,q2,q3,q4⟩:=pV Q;obtain⟨d1,d2,_⟩:=mN hS (.refl _);have D:Ora.env m1.lg.nx=.seq false wd rows:=by
      rw[d1];show(if wd=0 then U.none else match aN wd ((xs.map (F3 Ora.env)).length / wd) (xs.map (F3 Ora.env))with|some r=>.seq false wd r|none=>.none)=_;rw[A9 A0,X,bN _ aa,Q]
     have ae:cs'.length=n*wd:=by rw[<- f4.1];exact y
     obtain⟨inf,B,E⟩:∃ inf,P.info? T1=some inf/\inf.size=wd:=by
      unfold I2 at p;cases hi:P.info? T1 with
      | none=>rw[hi]at p;cases p
      | some inf=>rw[hi]at p;exact⟨inf,rfl,A8 p⟩
     have J:l.sh+cap*wd<=C.size:=by
      rcases ay with rfl|rfl
      .rcases W6 (cap*wd)with h0|h0
       .rw[h0]
        have:=g5 inf B;rw[E]at this;omega
       .have N:cap*wd-1<cs'.length:=A0
        have:=f5 (cap*wd-1) cs'[cap*wd-1] (A6 N)
        have:=(D5.1 this).1;omega
      .have:=g5 inf B;rw[E]at this;exact this.1
     have aq:=St.wLg q.hr (hZ m1 (10+wd) (.mk wd) xs);refine⟨bz,St.trans (by simpa using hf) q aq,e2.trans Z8,fun j lj hj ad=>by rw[mY];exact e3 j lj hj ad,⟨false,rows,D,.inr ⟨rfl,b,_,l,cap,C,fz,rfl,F,by rw[mY];exact W,rfl,q.ext _ _ t,ax,by rw[au,q1,F9],f1,A0,J,g4,fun R hR=>?_⟩⟩⟩;obtain⟨r1,r2⟩:=qG (e6 R hR) Q;refine⟨r1,fun r row j u v a1 a2 a3=>r2 r row j u v a1 a2 ?_⟩;have hq:r*wd+j<cs'.length:=by
      have ak:=(B1.1 a1).1;have ar:=(B1.1 a2).1;rw[r1 _ (E6 a1)]at ar;have O:(r+1)*wd<=rows.length*wd:=G0 wd ak;rw[I9]at O;rw[ae,<- q1];omega
     have:=f5 (r*wd+j) cs'[r*wd+j] (A6 hq);rw[show l.sh+r*wd+j=l.sh+(r*wd+j) by omega,this]at a3;have a3:=A8 a3;show(Array.mk cs')[0+r*wd+j]? = some v;rw[K6,show 0+r*wd+j=r*wd+j by omega,A6 hq,a3]
    .cases k
   .cases k
  .cases d
 .cases d
end
end
end Go.Sx
