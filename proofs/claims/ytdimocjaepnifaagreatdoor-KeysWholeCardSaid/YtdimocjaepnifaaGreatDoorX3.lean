import Derived.Test.YtdimocjaepnifaaGreatDoorX2
set_option linter.all false
set_option maxRecDepth 100000
set_option maxHeartbeats 4000000
namespace Go.Sx
variable {op:LOp}{s ty:TypeId}{hi i j o tg:Nat}{i' z z':Value}{u:U}{kh kk kl:IntKind}{hi' lo lo' mx mx':W4}{hs r' vs vs' xs:D6}{tys:List TypeId}{a:Addr}{m1:Mem}{row us:List U}{ts:I9}{cl sure:Bool}
section
open Go
variable [Ora]
section
variable {P:Program} {base:Nat} {ρ:Ren} {m m':Mem} {w:World}
def pk(k:IntKind)(n:Int):K5 (.int k n)=true:=rfl
def A3D{op:UnOp}{x x' v:Value}(h:QD m op x=some (v,m'))(l:VR ρ x x')(p:Sat m'.lg)(w:World):∃ r,(Op.unary op x').run P w=.ok r w/\VR ρ v r:=by
 unfold QD at h;simp only at h;split at h
 .obtain⟨h1,h⟩:=A6 h;obtain⟨b,rfl,e⟩:=lJ l (A1 h1);obtain⟨u,c,g,r,d,f,_⟩:=Q8 h p;simp only[F0,K7,e,evU,ev1,unM,ofV]at c;subst c;cases d;exact⟨_,(VU (P:=P) (ρ:=ρ) (op:=.not) (x:=.bool b) (v:=.bool !b) rfl (.pure rfl) w).1,f ρ⟩
 .obtain⟨h1,h⟩:=A6 h;obtain⟨k,n,rfl,e,_⟩:=S8 l (A2 h1);obtain⟨u,c,g,r,d,f,q⟩:=Q8 h p;simp only[F0,K7,e,evU,ev1]at c;subst c;obtain⟨r',g1,g2⟩:=ND (by rw[g];exact q);rw[d]at g2;cases g2;exact⟨_,(VU (P:=P) (ρ:=ρ) g1 (.pure (pk k n)) w).1,f ρ⟩
def WC{t:TypeId}{x x' v:Value}(h:vB P m s t x=some (v,m'))(c:VR ρ x x')(p:Sat m'.lg)(w:World):∃ r,(convert s t x').run P w=.ok r w/\VR ρ v r:=by
 unfold vB at h;split at h
 .rename_i j k hs d;obtain⟨h1,h⟩:=A6 h;obtain⟨A,n,rfl,e,_⟩:=S8 c (A2 h1);obtain⟨u,f,q,r,g,l,y⟩:=Q8 h p;simp only[F0,K7,e,evU]at f;subst f;cases g;exact⟨_,by simp[convert,A8,D8 hs,D8 d,Result.andThen,Conv.intToInt],l ρ⟩
 .rename_i hs d;obtain⟨h1,h⟩:=A6 h;cases h;obtain⟨b,rfl,e⟩:=eS c (A1 h1);exact⟨_,by simp[convert,A8,D8 hs,D8 d,Result.andThen],c⟩
 .cases h
def mY{t:Nat}:∀ {cs:D6},bM t cs=true->∀ {i:Nat} {v:Value},cs[i]? = some v->I2 v=t
 | [],_,i,v,h=>by simp at h
 | c::r,hs,i,v,h=>by
   obtain⟨h1,b⟩:=C5 (show(Nat.beq (I2 c) t && bM t r)=true from hs);cases i with
   | zero=>simp at h;subst h;exact A1 h1
   | succ i=>exact mY b (by simpa using h)
def A3h{t e:TypeId}{n:Nat}{cs:r7}{x' i v:Value}(hu:P.underlying t=some (.array n e))(x:dF P e=some false)(g:I4 P e=some 1)(G:cs.toList.length=n)(f:bM tg cs.toList=true)(y:tg<10)
  (l:I2 i<8) (h:p8 m tg .sel (i::cs.toList)=some (v,m')) (A:VR ρ (.agg cs) x') (hi:VR ρ i i') (D:Sat m'.lg) (w:World):∃ r,(Instr.index t x' i').run P w=.ok r w/\VR ρ v r:=by
 obtain⟨k,z,rfl,e,_⟩:=S8 hi l;obtain⟨u,c,E,r,d,C,F⟩:=Q8 h D;simp only[F0,e]at c;cases z with
 | negSucc z=>simp only[evU]at c;subst c;cases d
 | ofNat z =>
   simp only[evU]at c;by_cases q:z<cs.toList.length
   .have b:cs.toList[z]? = some cs.toList[z]:=A7 q;have p:=mY f b;have hm:qC P t (.agg cs) (.int k (.ofNat z))=some cs.toList[z]:=by
     have B:Nat.blt z n=true:=D2 A0;simp only[qC,hu,g,B,F7,vW,x,Nat.mul_one];exact b
    obtain⟨v',g1,g2⟩:=yF (P:=P) hm A (.pure rfl) w;obtain⟨f1,_⟩:=cZ g2 A0;have:u=E7 Ora.env cs.toList[z]:=by
     rw[<- c,B4,H9,b];rfl
    rw[this,f1]at d;cases d;exact⟨_,g1,C ρ⟩
   .rw[B4,M4 (by simp at q ⊢;omega)]at c;subst c;cases d
def IM{e:TypeId}(h:Nat.beq (bL.sizeD P e) 1=true):I4 P e=some 1:=by
 have h:=A1 h;unfold bL.sizeD at h;split at h
 .rename_i n b;rw[b,h]
 .cases h
def QG{t:TypeId}{x x' i v:Value}(h:bL P m t x i=some (v,m'))(p:VR ρ x x')(hi:VR ρ i i')(q:Sat m'.lg)(w:World):∃ r,(Instr.index t x' i').run P w=.ok r w/\VR ρ v r:=by
 unfold bL at h;cases g:!(Nat.blt (I2 i) 8)with
 | true=>rw[g]at h;cases h
 | false =>
   have c:I2 i<8:=by
    have:Nat.blt (I2 i) 8=true:=by simpa using g
    exact A2 this
   rw[g]at h;simp only[E8]at h;split at h
   .rename_i hu;obtain⟨h1,h⟩:=A6 h;obtain⟨s,rfl,f1⟩:=eS p (A1 h1);obtain⟨k,z,rfl,f2,_⟩:=S8 hi c;obtain⟨u,d,B,r,f,A,C⟩:=Q8 h q;simp only[F0,K7,f1,f2]at d;cases z with
    | negSucc z=>simp only[evU]at d;subst d;cases f
    | ofNat z =>
      simp only[evU]at d;split at d
      .rename_i b y;subst d;cases f;have hm:qC P t (.string ⟨⟨s⟩⟩) (.int k (.ofNat z))=some (.int .u8 b.toNat):=by
        simp only[qC,hu,y]
       obtain⟨v',g1,g2⟩:=yF (P:=P) (ρ:=ρ) hm (.pure rfl) (.pure rfl) w;cases M2 g2;exact⟨_,g1,A ρ⟩
      .subst d;cases f
   .rename_i n e hu;split at h
    .rename_i cs k he;obtain⟨h1,h⟩:=A6 h;obtain⟨h1,h3⟩:=C5 h1;obtain⟨h1,l⟩:=C5 h1;exact A3h hu (by simp[dF,he]) (IM h3) (A1 h1) l (by have:=Q2 k;omega) c h p hi q w
    .rename_i cs he;obtain⟨h1,h⟩:=A6 h;obtain⟨h1,h3⟩:=C5 h1;obtain⟨h1,l⟩:=C5 h1;exact A3h hu (by simp[dF,he]) (IM h3) (A1 h1) l A0 c h p hi q w
    .cases h
   .cases h
def WE{t:TypeId}(hu:P.underlying t=some .string){s:List UInt8}{l h:Int}{r:Value}(b:QL s l h=u)(c:toV u=some r):fP P t (.string ⟨⟨s⟩⟩) (some (.int kl l)) (some (.int kh h)) none=some r:=by
 unfold QL at b;split at b
 .rename_i l h;split at b
  .rename_i hh;subst b;cases c;have d:Nat.ble h (ByteArray.size ⟨⟨s⟩⟩)=true:=D2 hh.2;have e:Nat.ble l h=true:=D2 hh.1;simp only[fP,hu,Z8,d,e,F7]
  .subst b;cases c
 .subst b;cases c
def QE{t:TypeId}{x x' v:Value}{hi:W4}(h:oZ P m t x lo hi mx=some (v,m'))(I:VR ρ x x')(g:OR ρ lo lo')(f:OR ρ hi hi')(C:OR ρ mx mx')(F:Sat m'.lg)(w:World) :
  ∃ r,(Instr.sliceAt t x' lo' hi' mx').run P w=.ok r w/\VR ρ v r:=by
 have c:∀ {o:W4},OR ρ none o->o=none:=fun{o} h=>by cases o<;>first|rfl|exact h.elim
 have d:∀ {y:Value} {o:W4},OR ρ (some y) o->∃ H,o=some H/\VR ρ y H:=fun{y o} h=>by cases o<;>first|exact h.elim|exact⟨_,rfl,h⟩
 unfold oZ at h;split at h
 .rename_i hu;cases c C;obtain⟨h1,h⟩:=A6 h;obtain⟨s,rfl,f1⟩:=eS I (A1 h1);have B:∀ {y:Value},VR ρ (.string ⟨⟨s⟩⟩) y->y=.string ⟨⟨s⟩⟩:=fun h=>o8 h
  split at h
  .cases h;cases c g;cases c f;have hm:fP P t (.string ⟨⟨s⟩⟩) none none none=some (.string ⟨⟨s⟩⟩):=by
    have e:ByteArray.size ⟨⟨s⟩⟩=s.length:=rfl;simp[fP,hu,Z8,e]
   obtain⟨v',g1,g2⟩:=lL (P:=P) (ρ:=ρ) (lo':=none) (hi':=none) (mx':=none) hm (.pure rfl) trivial trivial trivial w;cases o8 g2;exact⟨_,g1,I⟩
  .obtain⟨q,h⟩:=A6 h;obtain⟨l',rfl,E⟩:=d g;cases c f;obtain⟨k,z,rfl,f2,_⟩:=S8 E (A2 q);obtain⟨u,n,G,r,l,A,J⟩:=Q8 h F;simp only[F0,K7,f1,f2,evU]at n;have hm:=WE (P:=P) (kl:=k) (kh:=.i64) hu n l;have p:fP P t (.string ⟨⟨s⟩⟩) (some (.int k z)) none none=some r:=by
    rw[<- hm];have e:ByteArray.size ⟨⟨s⟩⟩=s.length:=rfl;have b:Nat.ble s.length s.length=true:=D2 (B0 _);have D:((s.length:Nat):Int)=Int.ofNat s.length:=rfl;simp only[fP,hu,Z8,e,D,b,F7]
   obtain⟨v',g1,g2⟩:=lL (P:=P) (ρ:=ρ) (lo':=some (.int k z)) (hi':=none) (mx':=none) p (.pure rfl) (VR.pure rfl:VR ρ _ _) trivial trivial w;have:VR ρ r v':=g2;have hp:=lH l;cases g2 with
   | pure _=>exact⟨_,g1,A ρ⟩
   | _=>simp[K5,ixp,Go.Sx.dat,Go.Sx.clp,Go.Sx.own,Go.Sx.dpt,Go.Sx.opt,Go.Sx.yv,Go.Sx.sdt]at hp
  .obtain⟨q,h⟩:=A6 h;obtain⟨L,rfl,hh⟩:=d f;cases c g;obtain⟨k,z,rfl,f2,_⟩:=S8 hh (A2 q);obtain⟨u,n,G,r,l,A,J⟩:=Q8 h F;have f0:E7 Ora.env (.int .i64 0)=.int .i64 0:=rfl;simp only[F0,K7,f1,f2,f0,evU]at n;have hm:=WE (P:=P) (kl:=.i64) (kh:=k) hu n l;have p:fP P t (.string ⟨⟨s⟩⟩) none (some (.int k z)) none=some r:=by
    rw[<- hm];have D:(0:Int)=Int.ofNat 0:=rfl;cases z with
    | negSucc z=>simp only[fP,hu,Z8]
    | ofNat z =>
      have K:Nat.ble 0 z=true:=D2 (W1 _);simp only[fP,hu,Z8,D];cases Nat.ble z (ByteArray.size ⟨⟨s⟩⟩)<;>simp[K]
   obtain⟨v',g1,g2⟩:=lL (P:=P) (ρ:=ρ) (lo':=none) (hi':=some (.int k z)) (mx':=none) p (.pure rfl) trivial (VR.pure rfl:VR ρ _ _) trivial w;have hp:=lH l;cases g2 with
   | pure _=>exact⟨_,g1,A ρ⟩
   | _=>simp[K5,ixp,Go.Sx.dat,Go.Sx.clp,Go.Sx.own,Go.Sx.dpt,Go.Sx.opt,Go.Sx.yv,Go.Sx.sdt]at hp
  .obtain⟨q,h⟩:=A6 h;obtain⟨q,h3⟩:=C5 q;obtain⟨L,rfl,hh⟩:=d f;obtain⟨l',rfl,E⟩:=d g;obtain⟨k,z,rfl,f2,_⟩:=S8 E (A2 q);obtain⟨j,y,rfl,f3,_⟩:=S8 hh (A2 h3);obtain⟨u,n,G,r,l,A,J⟩:=Q8 h F;simp only[F0,K7,f1,f2,f3,evU]at n;have hm:=WE (P:=P) (kl:=k) (kh:=j) hu n l;obtain⟨v',g1,g2⟩:=lL (P:=P) (ρ:=ρ) (lo':=some (.int k z)) (hi':=some (.int j y)) (mx':=none) hm (.pure rfl) (VR.pure rfl:VR ρ _ _) (VR.pure rfl:VR ρ _ _) trivial w;have hp:=lH l;cases g2 with
   | pure _=>exact⟨_,g1,A ρ⟩
   | _=>simp[K5,ixp,Go.Sx.dat,Go.Sx.clp,Go.Sx.own,Go.Sx.dpt,Go.Sx.opt,Go.Sx.yv,Go.Sx.sdt]at hp
 .cases h
def HG{b:Builtin}{ks:Array Bool}{v:Value}(hr:HR P base ρ m.H w)(h:iI P m b vs tys=some (v,m'))(q:LR ρ vs vs')(x:Sat m'.lg) :
  ∃ s:Sem Value,builtin b ⟨tys⟩ ty ks ⟨vs'⟩=(do pure (.value (<- s)))/\∃ r,s.run P w=.ok r w/\VR ρ v r:=by
 unfold iI at h;split at h
 .obtain⟨x',r1,rfl,h1,l⟩:=q.tail;cases l.nil_inv;split at h
  .rename_i hu;obtain⟨h3,h⟩:=A6 h;obtain⟨s,rfl,f1⟩:=eS h1 (A1 h3);obtain⟨u,e,y,r,g,n,A⟩:=Q8 h x;simp only[F0,K7,f1,evU]at e;subst e;cases g;rename_i t rest _ _;have hm:A5k P m t (.string ⟨⟨s⟩⟩)=some (.int .i64 s.length):=by simp[A5k,hu]
   obtain⟨g1,_⟩:=A0n (ρ:=ρ) (ty:=ty) (tys:=rest) hr hm (.pure rfl);exact⟨_,rfl,_,g1,n ρ⟩
  .cases h
 .obtain⟨x',r1,rfl,h1,l⟩:=q.tail;obtain⟨B,D,rfl,h3,p⟩:=l.tail;cases p.nil_inv;obtain⟨d,h⟩:=A6 h;obtain⟨d,f⟩:=C5 d;have d:=A2 d;have f:=A1 f;obtain⟨k,a,rfl,f1,C⟩:=S8 h1 d;obtain⟨j,c,rfl,f2,E⟩:=S8 h3 (f▸d);obtain⟨u,e,y,r,g,n,A⟩:=Q8 h x;simp only[F0,K7,f1,f2,evU]at e;subst e;cases g;obtain⟨g1,_⟩:=A0g (P:=P) (ρ:=ρ) (ty:=ty) (tys:=⟨tys⟩) (vs:=[.int k a,.int j c]) rfl (.cons (.pure rfl) (.cons (.pure rfl) .nil)) w;exact⟨_,rfl,_,g1,n ρ⟩
 .obtain⟨x',r1,rfl,h1,l⟩:=q.tail;obtain⟨B,D,rfl,h3,p⟩:=l.tail;cases p.nil_inv;obtain⟨d,h⟩:=A6 h;obtain⟨d,f⟩:=C5 d;have d:=A2 d;have f:=A1 f;obtain⟨k,a,rfl,f1,C⟩:=S8 h1 d;obtain⟨j,c,rfl,f2,E⟩:=S8 h3 (f▸d);obtain⟨u,e,y,r,g,n,A⟩:=Q8 h x;simp only[F0,K7,f1,f2,evU]at e;subst e;cases g;obtain⟨g1,_⟩:=A0e (P:=P) (ρ:=ρ) (ty:=ty) (tys:=⟨tys⟩) (vs:=[.int k a,.int j c]) rfl (.cons (.pure rfl) (.cons (.pure rfl) .nil)) w;exact⟨_,rfl,_,g1,n ρ⟩
 .cases h
def A1e{v:Value}{k:IntKind}{n:Int}(h:E7 Ora.env v=.int k n):uC Ora.env v=some n:=by
 cases v with
 | complex k i t =>
   cases k with
   | f64 =>
     have h:Ora.env i=.int _ n:=h;simp only[uC,h]
   | f32=>cases h
 | int j n=>cases h;rfl
 | _=>cases h
def PA{v:Value}{n:Int}(h:uC Ora.env v=some n):∃ k,E7 Ora.env v=.int k n:=by
 cases v with
 | complex k i t =>
   cases k with
   | f64 =>
     simp only[uC]at h;split at h
     .rename_i k z he;cases h;exact⟨k,he⟩
     .cases h
   | f32=>cases h
 | int j n=>cases h;exact⟨j,rfl⟩
 | _=>cases h
def A0v{s n:Nat}{i v:Value}(h:A2P m a s n i=some (v,m'))(hi:VR ρ i i')(p:Sat m'.lg):v=ixp a s i n/\∃ k z,i'=.int k (.ofNat z)/\z<n/\uC Ora.env i=some (.ofNat z):=by
 unfold A2P at h;cases d:!(Nat.blt (I2 i) 8)with
 | true=>rw[d]at h;cases h
 | false =>
   have e:I2 i<8:=by
    have:Nat.blt (I2 i) 8=true:=by simpa using d
    exact A2 this
   rw[d]at h;simp only[E8]at h;split at h
   .rename_i b H k W hh lg y;split at h
    .rename_i q l;cases h;obtain⟨u,g,A,r,c,t,_⟩:=Q8 y (V3.le p (qU l));have f:=tY (ρ:=ρ) l (t ρ) p;subst f;obtain⟨x,z,rfl,f1,_⟩:=S8 hi e;have f0:E7 Ora.env (.int .i64 (.ofNat n))=.int .i64 (.ofNat n):=rfl;simp only[F0,K7,f1,f0,evU]at g;subst g;have c:(decide (0<=z) && decide (z<Int.ofNat n))=true:=by
      have:=A9 c;exact Value.bool.inj this
     simp only[I3,decide_eq_true_eq]at c;cases z with
     | negSucc z=>exact absurd c.1 (by simp)
     | ofNat z=>exact⟨rfl,x,z,rfl,by have:=c.2;simpa using this,A1e f1⟩
    .cases h
   .cases h
def HC{t:TypeId}{x x' i v:Value}(h:iG P m t x i=some (v,m'))(g:VR ρ x x')(hi:VR ρ i i')(y:Sat m'.lg)(w:World):∃ r,(Instr.indexAt t x' i').run P w=.ok r w/\VR ρ v r:=by
 unfold iG at h;split at h
 .rename_i n e a hu;split at h
  .rename_i s hs d;obtain⟨rfl,k,z,rfl,f,he⟩:=A0v h hi y;obtain⟨l,A,_,rfl⟩:=V0 g;have p:Nat.blt z n=true:=D2 f;have hm:v7 P t (.pointer (some a)) (.int k (.ofNat z))=some (.pointer (some ⟨a.block,a.off+z*s,none⟩)):=by
    simp only[v7,hu,hs,d,p,F7,eB,G5]
   obtain⟨v',g1,g2⟩:=fI (P:=P) hm g (.pure rfl) w;obtain⟨l2,b,_,rfl⟩:=V0 g2;have b:ρ a.block=some l2:=b;rw[A]at b;cases b;exact⟨_,g1,.ixp A d he f rfl⟩
  .cases h
 .rename_i e a n c hu;split at h
  .rename_i s hs d;cases q:Nat.beq c (R5+2)with
   | true=>rw[q]at h;cases h
   | false =>
     rw[q]at h;obtain⟨rfl,k,z,rfl,f,he⟩:=A0v h hi y;have p:Nat.blt z n=true:=D2 f;have hm:v7 P t (.slice (some a) n c) (.int k (.ofNat z))=some (.pointer (some ⟨a.block,a.off+z*s,none⟩)):=by
      simp only[v7,hu,hs,d,p,F7,eB,G5]
     obtain⟨v',g1,g2⟩:=fI (P:=P) hm g (.pure rfl) w;obtain⟨l2,b,_,rfl⟩:=V0 g2;have b:ρ a.block=some l2:=b;exact⟨_,g1,.ixp b d he f rfl⟩
  .cases h
 .cases h
def A0x{s n:Nat}{i v':Value}(h:VR ρ (ixp a s i n) v'):∃ l z,ρ a.block=some l/\a.spot=none/\uC Ora.env i=some (.ofNat z)/\z<n/\v'=.pointer (some ⟨l.blk,a.off+z*s+l.sh,none⟩):=by
 generalize b:ixp a s i n=x at h;cases h with
 | ixp h hs hi d c =>
   simp only[ixp,Value.func.injEq,aT,H8,Value.pointer.injEq,D9,Value.int.injEq,oN,true_and,and_true]at b;obtain⟨rfl,rfl,rfl,rfl⟩:=b;exact⟨_,_,h,hs,hi,d,c⟩
 | pure hp=>subst b;simp[ixp,K5]at hp
 | _=>simp[ixp,Go.Sx.dat,Go.Sx.clp,Go.Sx.own,Go.Sx.dpt,Go.Sx.opt,Go.Sx.yv,Go.Sx.sdt]at b
def HE{x x' v:Value}(h:iH P m s x i=some (v,m'))(d:VR ρ x x')(w:World):∃ r,(Instr.fieldAt s x' i).run P w=.ok r w/\VR ρ v r:=by
 unfold iH at h;split at h
 .rename_i a k j n;split at h
  .rename_i t hu;split at h
   .rename_i f e p;split at h
    .rename_i z g;cases h;obtain⟨l,y,h1,q,h3,c,rfl⟩:=A0x (n:=n) (s:=k) (i:=j) d;have hm:fJ P s (.pointer (some ⟨a.block,a.off+y*k,none⟩)) i=some (.pointer (some ⟨a.block,a.off+y*k+f.offset,none⟩)):=by
      simp only[fJ,hu,e,g,eB,G5]
     obtain⟨v',g1,g2⟩:=qH (P:=P) (ρ:=ρ) hm (.ptr h1) w;obtain⟨l2,b,_,rfl⟩:=V0 g2;have b:ρ a.block=some l2:=b;rw[h1]at b;cases b;refine⟨_,g1,?_⟩;simp only[eB,G5];refine .ixp (a:=⟨a.block,a.off+f.offset,none⟩) h1 rfl h3 c ?_;simp only[Value.pointer.injEq,D9,Addr.mk.injEq,true_and,and_true];omega
    .cases h
   .cases h
  .cases h
 .cases h
def zB{cs:D6}{s:Nat}:∀ {n o:Nat} {l:D6},BS cs s o n=some l->l.length=n/\∀ z,z<n->cs[o+z*s]? = l[z]?
 | 0,o,l,h=>by cases h;exact⟨rfl,fun z c=>by omega⟩
 | n+1,o,l,h=>by
   unfold BS at h;split at h
   .rename_i v r b hr;cases h;obtain⟨h1,d⟩:=zB hr;refine⟨by simp[h1],fun z c=>?_⟩;cases z with
    | zero=>simpa using b
    | succ z =>
      have:=d z A0;rw[Nat.succ_mul,show o+(z*s+s)=o+s+z*s by omega]
      simpa using this
   .cases h
def zD{cs cs':D6}{s n:Nat}{i:Value}{z:Nat}(he:uC Ora.env i=some (.ofNat z))(t:z<n)(B:LR ρ cs cs'):∀ {k o:Nat} {m m':Mem} {r:D6},fE m cs s n i o k=some (r,m')->Sat m'.lg ->
  LR ρ r ((cs'.drop (o+z*s)).take k)/\r.length=k
 | 0,o,m,m',r,h,hS=>by cases h;exact⟨by simpa using LR.nil,rfl⟩
 | k+1,o,m,m',r,h,hS=>by
   unfold fE at h;split at h
   .rename_i v l d;obtain⟨g,h⟩:=A6 h;obtain⟨g,e⟩:=C5 g;have e:I2 v<10:=A2 e;split at h
    .rename_i hh m1 h1;split at h
     .rename_i H m2 A;cases h;obtain⟨p,q⟩:=zD he t B A hS;obtain⟨u,f,G,E,x,D,_⟩:=Q8 h1 (V3.le hS (jY A).1);obtain⟨g1,g2⟩:=zB d;have b:=g2 z t;have c:z<(v::l).length:=by rw[g1];exact t
      rw[A7 c]at b;obtain⟨F,f1,f2⟩:=B.get b;have y:=mY g (A7 c);obtain⟨t1,_⟩:=cZ f2 A0;obtain⟨I,C⟩:=PA he;simp only[F0,C,evU]at f;have f:u=E7 Ora.env (v::l)[z]:=by
       rw[<- f];show(List.map (E7 Ora.env) (v::l)).getD z .none=_;rw[B4,H9,A7 c];rfl
      rw[f,t1]at x;cases x;refine⟨?_,by simp[q]⟩;have:(cs'.drop (o+z*s)).take (k+1)=E::(cs'.drop (o+1+z*s)).take k:=by
       rw[bE (B3.1 f1).1,List.take_succ_cons,(B3.1 f1).2,show o+z*s+1=o+1+z*s by omega]
      rw[this];exact .cons (D ρ) p
     .cases h
    .cases h
   .cases h
def A0j{t:TypeId}{l:Loc}{z s n k:Nat}{i:Value}{cs:D6}(h:HR P base ρ m.H w)(hr:cO m a ((n-1)*s+k)=some cs)(f:ρ a.block=some l)(he:uC Ora.env i=some (.ofNat z))(e:z<n)(d:fE m cs s n i 0 k=some (hs,m'))(g:Sat m'.lg) :
  ∃ rs,LR ρ hs rs/\rs.length=k/\∀ (j:Nat) (v':Value),rs[j]? = some v'->w.cell? ⟨l.blk,a.off+z*s+l.sh+j,none⟩=some v':=by
 obtain⟨r',h1,p,h3⟩:=aY h hr f;obtain⟨g1,g2⟩:=zD he e h1 d g;rw[G0]at g1;refine⟨_,g1,g1.1▸g2,fun j v' b=>?_⟩;have c:j<k:=by
  have:=(B3.1 b).1;simp at this;omega
 rw[G4 c,J7]at b
 have:=h3 _ v' b;rw[show a.off+z*s+l.sh+j=a.off+l.sh+(z*s+j) by omega];exact this
def WA{t:TypeId}{x x' v:Value}(h:HR P base ρ m.H w)(b:vA P m t x=some (v,m'))(p:VR ρ x x')(f:Sat m'.lg):∃ r,(Instr.loadAt t x').run P w=.ok r w/\VR ρ v r:=by
 unfold vA at b;split at b
 .rename_i a s i n;obtain⟨l,z,h1,A,h3,e,rfl⟩:=A0x (n:=n) (s:=s) (i:=i) p;split at b
  .rename_i d;split at b
   .rename_i cs hr;split at b
    .rename_i hh m2 c;cases b;obtain⟨rs,g1,g2,g3⟩:=A0j (t:=t) h hr h1 h3 e c f;obtain⟨v',y,rfl,k,q⟩:=g1.tail;refine⟨v',?_,k⟩
     have:=g3 0 v' rfl;simp[Instr.loadAt,Instr.sureAddr,loadVar,A8,eT d,Result.andThen,run_load,show w.cell? ⟨l.blk,a.off+z*s+l.sh,none⟩=some v' from by simpa using this]
    .cases b
   .cases b
  .rename_i B d g;split at b
   .rename_i cs hr;split at b
    .rename_i hh m2 c;cases b;obtain⟨rs,g1,g2,g3⟩:=A0j (t:=t) h hr h1 h3 e c f;refine⟨.agg ⟨rs⟩,?_,.agg g1.1 g1.2⟩;simp[Instr.loadAt,Instr.sureAddr,loadVar,A8,eT d,P0 g,Result.andThen,N7 g2 g3]
    .cases b
   .cases b
  .cases b
 .cases b
def A7v{fr:Fr}{g:Operand->Value}{o:Oper}{v:Value}(h:HR P base ρ m.H w)(f:A3F P fr m o.op=some (v,m'))(C:FR ρ fr g o.op)(l:Sat m'.lg):NOk P base ρ m w (execOp g o) v m':=by
 obtain⟨_,lg,rfl⟩:=ZL f;have p:St P base ρ ρ m (m.wLg lg) w w:=St.wLg h lg;obtain⟨dst,op,ty,pos,K,E⟩:=o;simp only at f C;have d:∀ {x},x ∈ op.operands.toList->VR ρ (ev fr x) (g x):=fun A=>C _ A
 have fin:∀ {s:Sem Value},(∃ r,s.run P w=.ok r w/\VR ρ v r)->NOk P base ρ m w (do pure (.value (<- s))) v (m.wLg lg):=fun{s} ⟨r,h1,J⟩=>NOk.of ⟨r,ρ,w,h1,J,p⟩
 unfold A3F at f;split at f
 .rename_i c a b;have D:=d (x:=c) (by simp[Op.operands]);unfold BQ at f;obtain⟨H,n,W,hi,l0⟩:=m;simp only at f;split at f
  .rename_i l1 B;simp only[D9,R6]at f;obtain⟨rfl,f⟩:=f;have q:Sat l1:=by
    have:l1=(Mem.wLg ⟨H,n,W,hi,l0⟩ lg).lg:=by rw[<- f]
    rw[this];exact l
   have:=tY B D q;exact⟨g a,ρ,w,.inl (by simp[execOp,this,asBool]),d (by simp[Op.operands]),p⟩
  .rename_i l1 B;simp only[D9,R6]at f;obtain⟨rfl,f⟩:=f;have q:Sat l1:=by
    have:l1=(Mem.wLg ⟨H,n,W,hi,l0⟩ lg).lg:=by rw[<- f]
    rw[this];exact l
   have:=tY B D q;exact⟨g b,ρ,w,.inl (by simp[execOp,this,asBool]),d (by simp[Op.operands]),p⟩
  .cases f
 .rename_i op t x y L;have A:=d (x:=x) (by simp[Op.operands]);have k:=d (x:=y) (by simp[Op.operands]);refine fin (s:=do eqGuard op t x y (g x) (g y);binOp op t (g x) (g y)) ?_;split at f
  .rename_i r hr;cases f;exact A1m hr A k l w
  .rename_i hr;exact A3G f A k hr l w
 .rename_i op t x;exact fin (s:=Op.unary op (g x)) (A3D f (d (by simp[Op.operands])) l w)
 .exact fin (WC f (d (by simp[Op.operands])) l w)
 .rename_i t x lo hi mx;exact fin (s:=Instr.sliceAt t (g x) (lo.map g) (hi.map g) (mx.map g)) (QE f (d (x:=x) (by simp[Op.operands])) (nQ (g:=g) fun y k=>d (by simp[Op.operands]at k ⊢;exact .inr (.inl k))) (nQ (g:=g) fun y k=>d (by simp[Op.operands]at k ⊢;exact .inr (.inr (.inl k)))) (nQ (g:=g) fun y k=>d (by simp[Op.operands]at k ⊢;exact .inr (.inr (.inr k)))) l w)
 .exact fin (QG f (d (by simp[Op.operands])) (d (by simp[Op.operands])) l w)
 .exact fin (HC f (d (by simp[Op.operands])) (d (by simp[Op.operands])) l w)
 .exact fin (HE f (d (by simp[Op.operands])) w)
 .rename_i t x;exact fin (s:=Instr.loadAt t (g x)) (WA h f (d (by simp[Op.operands])) l)
 .rename_i b xs tys;have l1:=fW (ρ:=ρ) (fr:=fr) (g:=g) (xs:=xs.toList) fun x A=>d (by show x ∈ (#[]++xs:Array Operand).toList;simpa using A)
  obtain⟨ks,G⟩:∃ ks,execOp g ⟨dst,.call ⟨.builtin b,xs,tys⟩,ty,pos,K,E⟩=builtin b tys ty ks (xs.map g):=⟨_,rfl⟩;obtain⟨s,e,hs⟩:=HG (ty:=ty) (ks:=ks) h f l1 l;have I:xs.map g=⟨xs.toList.map g⟩:=by apply L3;simp
  rw[G,I];have F:tys=⟨tys.toList⟩:=rfl;rw[F,e];exact fin hs
 .cases f
end
end
section
open Go
variable [Ora]
section
variable {P:Program} {base:Nat} {ρ ρ':Ren} {m m':Mem} {w w':World}
def M8.step(e:M8 ρ m.n hi)(st:St P base ρ ρ' m m1 w w'):M8 ρ' m1.n hi:=fun b h1 d=>by
 cases c:ρ' b with
 | none=>rfl
 | some l =>
   cases h0:ρ b with
   | some l0=>rw[e b (B9 st.nle h1) d]at h0;cases h0
   | none=>have:=(st.new b l c h0).2;omega
def M8.less{n hi':Nat}(d:M8 ρ n hi)(h:hi'<=hi):M8 ρ n hi':=fun b h1 c=>d b h1 (E5 c h)
def jM(m:Mem)(t:Nat)(op:LOp)(xs:List Value):Lg:=⟨m.lg.nx+1,m.lg.pi,.dt m.lg.nx t op xs::m.lg.log⟩
def S9{t:Nat}{k:Nat->Mem->Res}:AY m t op xs k=k m.lg.nx (m.wLg (jM m t op xs)):=by
 obtain⟨H,n,W,hi,⟨nx,pi,log⟩⟩:=m;simp only[AY,G5,J2];rfl
def SZ{t:Nat}{k:Nat->Mem->Option (D6×Mem)}:v8.letDo t op xs m k=k m.lg.nx (m.wLg (jM m t op xs)):=by
 obtain⟨H,n,W,hi,⟨nx,pi,log⟩⟩:=m;simp only[v8.letDo,G5,J2];rfl
@[simp] theorem x3(lg:Lg):(m.wLg lg).lg=lg:=by cases m;rfl
@[simp] theorem oV(lg:Lg):(m.wLg lg).H=m.H:=by cases m;rfl
@[simp] theorem A2n(lg:Lg):(m.wLg lg).n=m.n:=by cases m;rfl
@[simp] theorem LN(lg:Lg):(m.wLg lg).hi=m.hi:=by cases m;rfl
@[simp] theorem C2Z(lg:Lg):(m.wLg lg).W=m.W:=by cases m;rfl
def p7{t:Nat} :m.lg.le (m.wLg (jM m t op xs)).lg:=by
 rw[x3];exact⟨[_],rfl⟩
def oK{t:Nat}{lg:Lg}(e:Sat lg)(d:(m.wLg (jM m t op xs)).lg.le lg):Ora.env m.lg.nx=evU op (xs.map (E7 Ora.env))/\G9 (Ora.env m.lg.nx)=t/\∃ b wd rows,Ora.env m.lg.nx=.seq b wd rows/\t=10+wd:=by
 obtain⟨h1,c,b,wd,rows,h3⟩:=e _ (d.subset (by rw[x3];exact C7));exact⟨h1,c,b,wd,rows,h3,by rw[<- c,h3];rfl⟩
def eX{b:Nat}(h:qF m b=true):Hp.get m.H b=some .frz:=by
 unfold qF at h;split at h
 .assumption
 .cases h
def A02{b:Nat}(h:qF m b=true):b<=J0:=by
 unfold qF at h;split at h
 .exact A2 h
 .cases h
def A6H{b:Nat}(hr:HR P base ρ m.H w)(h:qF m b=true):∃ l,ρ b=some l:=by
 obtain⟨l,h1,_⟩:=hr.at_ b (A02 h) _ (eX h);exact⟨l,h1⟩
def U3{k:Nat->Mem->Option (Value×Nat×Mem)}{r:Value×Nat×Mem}(h:iR m k=some r):∃ m1,y6 m .frz (fun _=>undef)=some (undef,m1)/\k m.n m1=some r/\m1.H=m.H.set m.n (some .frz)/\m.n<=J0/\m1.lg=m.lg:=by
 obtain⟨H,n,W,hi,lg⟩:=m;simp only[iR,G5,iO]at h;obtain⟨h1,b⟩:=A6 h;refine⟨_,?_,b,rfl,A2 h1,rfl⟩;simp only[y6,G5,iO,h1,F7]
def fS(G:Nat->Option Obj):Loc:=⟨0,0,0,0,G,false⟩
def St.region{G:Nat->Option Obj}(h:HR P base ρ m.H w)(d:y6 m .frz (fun _=>undef)=some (undef,m1))(v:M8 ρ m.n m1.hi)
  (g:∀ k o,G k=some o->w.heap[k]? = some o/\∃ id ab l,id<=J0/\Hp.get m.H id=some ab/\ρ id=some l/\Tf ab l k/\ab.rw=false) :
  upd ρ m.n (fS G) m.n=some (fS G)/\Hp.get m1.H m.n=some .frz/\St P base ρ (upd ρ m.n (fS G)) m m1 w w:=by
 obtain⟨h1,t,h3⟩:=St.new0 (l':=fS G) h d v ⟨rfl,fun k o r=>(g k o r).1⟩ rfl fun q b=>by
  rcases b with⟨b,_⟩|⟨_,o,b⟩
  .cases b
  .obtain⟨g1,id,ab,l,g2,g3,g4,g5,g6⟩:=g q o b;refine⟨⟨id,ab,l,g2,g3,g4,g5⟩,fun p f a l2 c x hr y e=>?_⟩
   have:=((h.atl x c).2 hr y).2 id g2 ab l g3 g4 (e▸g5.2);subst this;rw[g3]at c;have c:=A9 c;subst c;rw[g6]at hr;cases hr
 refine⟨t,?_,h3⟩;obtain⟨hle,_,rfl⟩:=N1 d;show Hp.get (m.H.set m.n (some .frz)) m.n=_;rw[F5 _ _ _ _ hle hle,A4 rfl]
theorem sI{b i t:Nat}{v':Value}(h:VR ρ (dat b i t) v'):∃ l,ρ b=some l/\Enc l.G (Ora.env i) v'/\G9 (Ora.env i)=t/\10<=t:=by
 generalize c:dat b i t=x at h;cases h with
 | dat h he e d f =>
   simp only[dat,Value.func.injEq,aT,H8,Value.pointer.injEq,D9,Addr.mk.injEq,Value.complex.injEq,true_and,and_true]at c;obtain⟨rfl,rfl,rfl⟩:=c;exact⟨_,h,he,e,d⟩
 | pure hp=>subst c;simp[dat,K5]at hp
 | _=>simp[ixp,Go.Sx.dat,Go.Sx.clp,Go.Sx.own,Go.Sx.dpt,Go.Sx.opt,Go.Sx.yv,Go.Sx.sdt]at c
theorem kE{b i t:Nat}{v':Value}(h:VR ρ (clp b i t) v'):∃ l,ρ b=some l/\Enc l.G (Ora.env i) v'/\G9 (Ora.env i)=t/\10<=t/\A66 v':=by
 generalize c:clp b i t=x at h;cases h with
 | clp h he f d g e =>
   simp only[clp,Value.func.injEq,aT,H8,Value.pointer.injEq,D9,Addr.mk.injEq,Value.complex.injEq,true_and,and_true]at c;obtain⟨rfl,rfl,rfl⟩:=c;exact⟨_,h,he,f,d,e⟩
 | pure hp=>subst c;simp[clp,K5]at hp
 | _=>simp[ixp,Go.Sx.dat,Go.Sx.clp,Go.Sx.own,Go.Sx.dpt,Go.Sx.opt,Go.Sx.yv,Go.Sx.sdt]at c
theorem gP{b i t:Nat}{v':Value}(h:VR ρ (own b i t) v'):A2C ρ b (Ora.env i) v'/\G9 (Ora.env i)=t:=by
 generalize c:own b i t=x at h;cases h with
 | own h d e =>
   simp only[own,Value.func.injEq,aT,H8,Value.pointer.injEq,D9,Addr.mk.injEq,Value.complex.injEq,true_and,and_true]at c;obtain⟨rfl,rfl,rfl⟩:=c;exact⟨h,d⟩
 | pure hp=>subst c;simp[own,K5]at hp
 | _=>simp[ixp,Go.Sx.dat,Go.Sx.clp,Go.Sx.own,Go.Sx.dpt,Go.Sx.opt,Go.Sx.yv,Go.Sx.sdt]at c
def NT{b t:Nat}{v':Value}(h:VR ρ (dpt b i t z o) v'):B9H ρ b (Ora.env i) (uC Ora.env z) o v'/\G9 (Ora.env i)=t:=by
 generalize c:dpt b i t z o=x at h;cases h with
 | dpt h d e =>
   simp only[dpt,Value.func.injEq,aT,H8,Value.pointer.injEq,D9,Addr.mk.injEq,Value.complex.injEq,Value.int.injEq,oN,true_and,and_true]at c;obtain⟨rfl,⟨rfl,rfl⟩,rfl,rfl⟩:=c;exact⟨h,d⟩
 | pure hp=>subst c;simp[dpt,K5]at hp
 | _=>simp[ixp,Go.Sx.dat,Go.Sx.clp,Go.Sx.own,Go.Sx.dpt,Go.Sx.opt,Go.Sx.yv,Go.Sx.sdt]at c
def CC{b t:Nat}{v':Value}(h:VR ρ (opt b i t z o) v'):B7n ρ b (Ora.env i) (uC Ora.env z) o v'/\G9 (Ora.env i)=t:=by
 generalize c:opt b i t z o=x at h;cases h with
 | opt h d e =>
   simp only[opt,Value.func.injEq,aT,H8,Value.pointer.injEq,D9,Addr.mk.injEq,Value.complex.injEq,Value.int.injEq,oN,true_and,and_true]at c;obtain⟨rfl,⟨rfl,rfl⟩,rfl,rfl⟩:=c;exact⟨h,d⟩
 | pure hp=>subst c;simp[opt,K5]at hp
 | _=>simp[ixp,Go.Sx.dat,Go.Sx.clp,Go.Sx.own,Go.Sx.dpt,Go.Sx.opt,Go.Sx.yv,Go.Sx.sdt]at c
def JZ{b c tc g t:Nat}{T:TypeId}{v':Value}(h:HR P base ρ m.H w)(F:Hp.get m.H b=some (.sq c tc T g true))(W:VR ρ (own b i t) v')(A:tc=t)(x:Hp.get m.H g=some .frz)
  (N:y6 m .frz (fun _=>undef)=some (undef,m1)) (O:M8 ρ m.n m1.hi):∃ l,St P base ρ (upd ρ m.n l) m m1 w w/\upd ρ m.n l m.n=some l/\Hp.get m1.H m.n=some .frz/\Enc l.G (Ora.env c) v'/\G9 (Ora.env c)=t:=by
 obtain⟨B,M⟩:=gP W;rcases B with⟨l,wd,h1,E,h3,rfl⟩|⟨l,wd,rows,h1,E,h3,Z,V,rfl⟩
 .obtain⟨q,_⟩:=h.atl h1 F;obtain⟨D,inf,J,R,Q,d⟩:=SqR.ex q;rcases d with⟨_,d⟩|⟨d,_⟩
  .obtain⟨g1,g2,g3⟩:=St.region (G:=fun _=>none) h N O (fun k o f=>by cases f);exact⟨_,g3,g1,g2,by rw[d];exact .nil,by rw[d,<- A,J];rfl⟩
  .rw[E]at d;cases d
 .obtain⟨q,_⟩:=h.atl h1 F;obtain⟨D,inf,J,R,Q,d⟩:=SqR.ex q;rcases d with⟨d,_⟩|⟨_,d⟩
  .rw[E]at d;cases d
  .obtain⟨C,fz,K,L,lg,f1,f2,f3,f4,f5,f6,f7,f8,f9⟩:=d;obtain⟨I,_⟩:=h.atl f7 x;have p:∀ k o,lg.G k=some o->w.heap[k]? = some o:=I.2;let G:Nat->Option Obj:=fun k=>if k=l.blk then some (.cells C K fz)else lg.G k
   have y:∀ k o,lg.G k=some o->G k=some o:=fun k o f=>by
    show(if k=l.blk then _ else _)=_;by_cases e:k=l.blk
    .subst e;rw[A4 rfl]
     have:=p _ _ f;rw[f1]at this;exact this
    .rw[A3 e];exact f
   obtain⟨g1,g2,g3⟩:=St.region (G:=G) h N O fun k o f=>by
    have f:(if k=l.blk then some (.cells C K fz)else lg.G k)=some o:=f;by_cases e:k=l.blk
    .subst e;rw[A4 rfl]at f;exact⟨by rw[f1];exact f,b,_,l,h.dom _ _ h1,F,h1,⟨rfl,.inl ⟨rfl,E,rfl⟩⟩,rfl⟩
    .rw[A3 e]at f;exact⟨p _ _ f,g,_,lg,h.dom _ _ f7,x,f7,⟨rfl,.inr ⟨rfl,o,f⟩⟩,rfl⟩
   refine⟨_,g3,g1,g2,?_,by rw[f2,<- A,J];rfl⟩;rw[f2,<- f3];refine .sl (G:=G) (C:=C) (T:=K) (fz:=fz) A0 (fun _=>?_) (fun _=>?_) f6 fun r row j u v S X Y=>(f8 r row j u v S X Y).mono y
   .show(if l.blk=l.blk then _ else _)=_;rw[A4 rfl]
   .have:=G8 D f4;rw[<- f3]at this;omega
def BR.thaw{c t g:Nat}{T:TypeId}{l:Loc}(h:BR P ρ (.sq c t T g false) l w):BR P ρ (.sq c t T g true) l w:=by
 obtain⟨wd,inf,h1,f,h3,e⟩:=SqR.ex h;refine⟨⟨wd,inf,h1,f,h3,e.imp (fun x=>x) fun⟨d,b⟩=>⟨d,?_⟩⟩⟩;obtain⟨C,fz,p,rows,lg,h1,f,h3,e,b,q,k,n,r⟩:=b;exact⟨C,fz,p,rows,lg,h1,f,h3,e,b,q,k,n,fun h=>by cases h⟩
def DK{id:Nat}{ab:AB}(h:iJ m id ab=some m')(b:j<=J0):Hp.get m'.H j=if j=id then some ab else Hp.get m.H j:=by
 obtain⟨hle,rfl⟩:=d8 h;exact F5 _ _ _ _ hle b
def pR{ab:AB}{k:Nat->Value}{v:Value}(h:y6 m ab k=some (v,m'))(b:j<=J0):Hp.get m'.H j=if j=m.n then some ab else Hp.get m.H j:=by
 obtain⟨hle,_,rfl⟩:=N1 h;exact F5 _ _ _ _ hle b
def LS{t:Nat}{v v' x:Value}{b:Nat}(h:HR P base ρ m.H w)(d:toD t v m=some (x,b,m'))(N:M8 ρ m.n m'.hi)(E:VR ρ v v')(hS:Sat m'.lg) :
  ∃ ρ' l,St P base ρ ρ' m m' w w/\ρ' b=some l/\Hp.get m'.H b=some .frz/\Enc l.G (E7 Ora.env x) v'/\G9 (E7 Ora.env x)=t/\m.lg.le m'.lg:=by
 unfold toD at d;split at d
 .rename_i J i tg;obtain⟨h1,f⟩:=A6 d;cases f;obtain⟨h1,f⟩:=C5 h1;have h1:=A1 h1;obtain⟨l,y,r,B,Q⟩:=sI E;exact⟨ρ,l,St.refl h,y,eX f,r,B.trans h1,.refl _⟩
 .rename_i J i tg;obtain⟨h1,f⟩:=A6 d;cases f;obtain⟨h1,f⟩:=C5 h1;have h1:=A1 h1;obtain⟨l,y,r,B,Q,_⟩:=kE E;exact⟨ρ,l,St.refl h,y,eX f,r,B.trans h1,.refl _⟩
 .rename_i J i tg;split at d
  .rename_i c tc T g D;obtain⟨h1,f⟩:=A6 d;obtain⟨h1,h3⟩:=C5 h1;obtain⟨h1,C⟩:=C5 h1;have h1:=A1 h1;have C:=A1 C;obtain⟨m1,K,O,_,_,L⟩:=U3 f;cases O;subst h1;obtain⟨l,y,r,B,Q,Y⟩:=JZ h D E C (eX h3) K N;exact⟨_,l,y,r,B,Q,Y,by rw[L];exact .refl _⟩
  .rename_i c tc T g D;obtain⟨h1,f⟩:=A6 d;obtain⟨h1,h3⟩:=C5 h1;have Z:=A02 h3;obtain⟨h1,C⟩:=C5 h1;have h1:=A1 h1;have C:=A1 C;split at f
   .rename_i m1 hs;obtain⟨m2,K,O,_,_,L⟩:=U3 f;cases O;subst h1;have X:∃ l0,ρ J=some l0:=by
     rcases(gP E).1 with⟨l,_,h1,_⟩|⟨l,_,_,h1,_⟩<;>exact⟨l,h1⟩
    obtain⟨l0,F⟩:=X;have R:=(h.atl F D).1;have p:=St.same0 h hs D rfl F R.thaw (fun q hq=>by
     rcases hq with⟨_,a,b⟩|⟨a,_⟩
     .exact .inl ⟨rfl,a,b⟩
     .cases a)
    have hle:=(d8 hs).1;have V:g≠J:=fun e=>by subst e;rw[eX h3]at D;cases D
    have W:Hp.get m1.H J=some (.sq c tc T g true):=by rw[DK hs hle,A4 rfl]
    have I:Hp.get m1.H g=some .frz:=by rw[DK hs Z,A3 V];exact eX h3
    have S:m1.n=m.n:=by rw[(d8 hs).2]
    obtain⟨l,y,r,B,Q,Y⟩:=JZ p.hr W E C I K (by rw[S];exact N);refine⟨_,l,St.trans N p y,r,B,Q,Y,by rw[L,(d8 hs).2];exact .refl _⟩
   .cases f
  .cases d
 .obtain⟨M,d⟩:=A6 d;have M:=A2 M;rw[S9]at d;simp only at d;obtain⟨m1,K,O,_,_,L⟩:=U3 d;cases O;cases V5 E;have A:(m.wLg (jM m t (.nilw (t-10)) [])).lg.le m'.lg:=by rw[L];exact .refl _
  obtain⟨y,r,_⟩:=oK hS A;have p:=St.wLg h (jM m t (.nilw (t-10)) []);obtain⟨g1,g2,g3⟩:=St.region (G:=fun _=>none) p.hr K (by simpa using N) (fun k o hk=>by cases hk);refine⟨_,_,St.trans (by simpa using N) p g3,g1,g2,?_,r,p7.trans A⟩;show Enc _ (Ora.env m.lg.nx) _;rw[y];exact .nil
 .cases d
end
end
section
open Go
variable [Ora]
section
variable {P:Program} {base:Nat} {ρ ρ':Ren} {m m':Mem} {w w':World}
def bQ(ρ:Ren)(m m':Mem):Prop:=∀ j l,ρ j=some l->Hp.get m.H j=some .frz->Hp.get m'.H j=some .frz
def bQ.refl:bQ ρ m m:=fun _ _ _ h=>h
def bQ.trans(he:∀ b l,ρ b=some l->ρ' b=some l)(a:bQ ρ m m1)(c:bQ ρ' m1 m'):bQ ρ m m':=fun j l h1 d=>c j l (he j l h1) (a j l h1 d)
def bQ.lg(lg:Lg):bQ ρ m (m.wLg lg):=fun j l _ h=>by rw[oV];exact h
def TD{ab:AB}{k:Nat->Value}{v:Value}(h:HR P base ρ m.H w)(b:y6 m ab k=some (v,m'))(d:M8 ρ m.n m'.hi):bQ ρ m m':=fun j l h1 c=>by
 rw[pR b (h.dom j l h1),A3]
 .exact c
 .intro e;subst e;obtain⟨_,_,rfl⟩:=N1 b;rw[d m.n (B0 _) (L9 _ _).2]at h1;cases h1
def A5p{ab:AB}{id:Nat}(h:HR P base ρ m.H w)(hs:iJ m id ab=some m')(b:Hp.get m.H id≠some .frz):bQ ρ m m':=fun j l h1 c=>by
 rw[DK hs (h.dom j l h1),A3]
 .exact c
 .intro e;subst e;exact b c
def QA{t:Nat}{v x:Value}{b:Nat}(h:HR P base ρ m.H w)(d:toD t v m=some (x,b,m'))(A:M8 ρ m.n m'.hi):bQ ρ m m':=by
 unfold toD at d;split at d
 .obtain⟨h1,f⟩:=A6 d;cases f;exact .refl
 .obtain⟨h1,f⟩:=A6 d;cases f;exact .refl
 .split at d
  .obtain⟨h1,f⟩:=A6 d;obtain⟨m1,p,q,_⟩:=U3 f;cases q;exact TD h p A
  .rename_i c tc T g B;obtain⟨h1,f⟩:=A6 d;split at f
   .rename_i m1 hs;obtain⟨m2,p,q,_⟩:=U3 f;cases q;have D:=A5p h hs (by rw[B];intro h;cases h);intro j l k r;have C:=D j l k r;rw[pR p (h.dom j l k),A3]
    .exact C
    .intro e;subst e;have y:m1.n=m.n:=by rw[(d8 hs).2]
     obtain⟨_,_,rfl⟩:=N1 p;rw[A m1.n A0 (L9 _ _).2]at k;cases k
   .cases f
  .cases d
 .obtain⟨E,d⟩:=A6 d;rw[S9]at d;simp only at d;obtain⟨m1,p,q,_⟩:=U3 d;cases q;intro j l k r;rw[pR p (h.dom j l k),A3,oV]
  .exact r
  .intro e;subst e;have y:(m.wLg (jM m t (.nilw (t-10)) [])).n=m.n:=by simp
   obtain⟨_,_,rfl⟩:=N1 p;rw[A _ A0 (L9 _ _).2]at k;cases k
 .cases d
def y8(R:Nat->Option Obj)(us:List U)(vs:List Value):Prop:=us.length=vs.length/\∀ (i:Nat) (u:U) (v:Value),us[i]? = some u->vs[i]? = some v->Enc R u v
omit [Ora] in
def y8.nil{R:Nat->Option Obj}:y8 R [] []:=⟨rfl,fun i u v h=>by simp at h⟩
omit [Ora] in
def y8.cons{R:Nat->Option Obj}{v:Value}(h:Enc R u v)(k:y8 R us vs):y8 R (u::us) (v::vs):=⟨by simp[k.1],fun i a b h1 c=>by
 cases i with
 | zero=>simp at h1 c;subst h1;subst c;exact h
 | succ i=>exact k.2 i a b (by simpa using h1) (by simpa using c)⟩
def Sub(G R:Nat->Option Obj):Prop:=∀ k o,G k=some o->R k=some o
def lI{t:Nat}{v x:Value}{b:Nat}{m m':Mem}(c:toD t v m=some (x,b,m')):m.hi<=m'.hi/\m.lg.le m'.lg/\m.n<=m'.n:=by
 have e:∀ {m m1:Mem},y6 m .frz (fun _=>undef)=some (undef,m1)->m.hi<=m1.hi/\m.lg.le m1.lg/\m.n<=m1.n:=fun k=>by
  obtain⟨_,_,rfl⟩:=N1 k;exact⟨(L9 _ _).1,.refl _,t8 _⟩
 unfold toD at c;split at c
 .obtain⟨h1,d⟩:=A6 c;cases d;exact⟨B0 _,.refl _,B0 _⟩
 .obtain⟨h1,d⟩:=A6 c;cases d;exact⟨B0 _,.refl _,B0 _⟩
 .split at c
  .obtain⟨h1,d⟩:=A6 c;obtain⟨m1,f,g,_⟩:=U3 d;cases g;exact e f
  .obtain⟨h1,d⟩:=A6 c;split at d
   .rename_i m1 hs;obtain⟨m2,f,g,_⟩:=U3 d;cases g
    have:=e f;obtain⟨_,rfl⟩:=d8 hs;exact this
   .cases d
  .cases c
 .obtain⟨l,c⟩:=A6 c;rw[S9]at c;simp only at c;obtain⟨m1,f,g,_⟩:=U3 c;cases g
  have:=e f;exact⟨by simpa using this.1,p7.trans this.2.1,by simpa using this.2.2⟩
 .cases c
structure GS (P:Program) (td:Td):Prop where
 ok:∀ {base:Nat} {ρ:Ren} {m m':Mem} {w:World} {t:Nat} {v v' x:Value} {b:Nat},HR P base ρ m.H w->td t v m=some (x,b,m')->M8 ρ m.n m'.hi->VR ρ v v'->Sat m'.lg ->
  ∃ ρ' l,St P base ρ ρ' m m' w w/\ρ' b=some l/\Hp.get m'.H b=some .frz/\Enc l.G (E7 Ora.env x) v'/\G9 (E7 Ora.env x)=t/\m.lg.le m'.lg/\bQ ρ m m'
 mono:∀ {m m':Mem} {t:Nat} {v x:Value} {b:Nat},td t v m=some (x,b,m')->m.hi<=m'.hi/\m.lg.le m'.lg/\m.n<=m'.n
def A28:GS P toD:=⟨fun h b c e g=>let ⟨ρ',l,d,a2,a3,a4,a5,f⟩:=LS h b c e g;⟨ρ',l,d,a2,a3,a4,a5,f,QA h b c⟩,fun h=>lI h⟩
def S2{f:Td}(d:GS P f):∀ {ts:I9} {vs xs:D6} {gs:I9} {m m':Mem},HA f ts vs m=some (xs,gs,m')->m.hi<=m'.hi/\m.lg.le m'.lg/\m.n<=m'.n
 | [],[],_,_,_,_,h=>by cases h;exact⟨B0 _,.refl _,B0 _⟩
 | t::ts,v::vs,xs,gs,m,m',c=>by
   unfold HA at c;cases e:Nat.blt t 10 with
   | true =>
     rw[e]at c;simp only[F7]at c;obtain⟨h1,c⟩:=A6 c;split at c
     .rename_i hr;cases c;exact S2 d hr
     .cases c
   | false =>
     rw[e]at c;simp only[E8]at c;split at c
     .rename_i g;split at c
      .rename_i hr;cases c;have a:=d.mono g;have b:=S2 d hr;exact⟨B9 a.1 b.1,a.2.1.trans b.2.1,B9 a.2.2 b.2.2⟩
      .cases c
     .cases c
 | [],_::_,_,_,_,_,c=>by cases c
 | _::_,[],_,_,_,_,c=>by cases c
def mQ{L:Td}(f:GS P L):∀ {ts:I9} {vs vs' xs:D6} {gs:I9} {m m':Mem} {ρ:Ren},HR P base ρ m.H w->HA L ts vs m=some (xs,gs,m')->M8 ρ m.n m'.hi->LR ρ vs vs'->Sat m'.lg ->
  ∃ ρ',St P base ρ ρ' m m' w w/\m.lg.le m'.lg/\bQ ρ m m'/\(∀ b ∈ gs,Hp.get m'.H b=some .frz/\∃ l,ρ' b=some l)/\(xs.map (E7 Ora.env)).map G9=ts /\
   ∀ R,(∀ b ∈ gs,∀ l,ρ' b=some l->Sub l.G R)->y8 R (xs.map (E7 Ora.env)) vs'
 | [],[],vs',xs,gs,m,m',ρ,h,c,hf,hv,hS=>by
   cases c;exact⟨ρ,St.refl h,.refl _,.refl,fun b S=>(by cases S),rfl,fun R _=>by rw[hv.nil_inv];exact .nil⟩
 | t::ts,v::vs,vs',xs,gs,m,m',ρ,h,c,hf,hv,hS=>by
   obtain⟨v',r',rfl,q,p⟩:=hv.tail;unfold HA at c;cases B:Nat.blt t 10 with
   | true =>
     rw[B]at c;simp only[F7]at c;obtain⟨h1,c⟩:=A6 c;have h1:=A1 h1;have Q:t<10:=A2 B;split at c
     .rename_i r K m2 hr;cases c;obtain⟨ρ2,g,A,x,F,E,I⟩:=mQ f h hr hf p hS;obtain⟨f1,f2⟩:=cZ q A0;exact⟨ρ2,g,A,x,F,by simp[f2,h1,E],fun R y=>.cons (.sc f1) (I R y)⟩
     .cases c
   | false =>
     rw[B]at c;simp only[E8]at c;split at c
     .rename_i hh b m1 N;split at c
      .rename_i r K m2 hr;cases c;have d:m1.hi<=m'.hi/\m1.lg.le m'.lg/\m1.n<=m'.n:=S2 f hr;have C:M8 ρ m.n m1.hi:=hf.less d.1;obtain⟨J,l,k,a2,a3,a4,a5,M,O⟩:=f.ok h N C q (hS.le d.2.1);have D:M8 J m1.n m'.hi:=hf.step k;obtain⟨ρ2,g,A,x,F,E,I⟩:=mQ f k.hr hr D (p.mono k.ext) hS;refine⟨ρ2,St.trans hf k g,M.trans A,O.trans k.ext x,fun b' e=>?_,by simp[a5,E],fun R y=>.cons (a4.mono (y b (.head _) l (g.ext _ _ a2))) (I R fun b' e=>y b' (.tail _ e))⟩;rcases B7.1 e with rfl|e
       .exact⟨x _ l a2 a3,l,g.ext _ _ a2⟩
       .exact F b' e
      .cases c
     .cases c
 | [],_::_,_,_,_,_,_,_,_,c,_,_,_=>by cases c
 | _::_,[],_,_,_,_,_,_,_,c,_,_,_=>by cases c
def iX{gs:I9}{g:Nat}(h:HR P base ρ m.H w)(c:oH gs m=some (g,m'))(x:M8 ρ m.n m'.hi) :
  ∃ ρ' lg,St P base ρ ρ' m m' w w/\m'.lg=m.lg/\bQ ρ m m'/\ρ' g=some lg/\Hp.get m'.H g=some .frz/\∀ b ∈ gs,∀ l,ρ b=some l->Sub l.G lg.G:=by
 have main:∀ {gs:I9},(bif gs.all (qF m)then match iR m fun b m=>some (undef,b,m)with
  | some (_,b,m)=>some (b,m)
  | none=>none else none)=some (g,m')->∃ ρ' lg,St P base ρ ρ' m m' w w/\m'.lg=m.lg/\bQ ρ m m'/\ρ' g=some lg/\Hp.get m'.H g=some .frz/\∀ b ∈ gs,∀ l,ρ b=some l->Sub l.G lg.G:=fun{gs} c=>by
  obtain⟨h1,c⟩:=A6 c;split at c
  .rename_i r b m1 A;cases c;obtain⟨m2,t,C,_,_,B⟩:=U3 A;cases C;have e:∀ b ∈ gs,Hp.get m.H b=some .frz:=fun b d=>eX (D7.1 h1 b d)
   classical
   let G:Nat->Option Obj:=fun k=>if ∃ b ∈ gs,∃ l o,ρ b=some l/\l.G k=some o then w.heap[k]? else none
   obtain⟨g1,g2,g3⟩:=St.region (G:=G) h t x fun k o f=>by
    have f:(if ∃ b ∈ gs,∃ l o,ρ b=some l/\l.G k=some o then w.heap[k]? else none)=some o:=f;split at f
    .rename_i hex;obtain⟨b,d,l,D,v,y⟩:=hex;exact⟨f,b,_,l,h.dom _ _ v,e b d,v,⟨rfl,.inr ⟨rfl,D,y⟩⟩,rfl⟩
    .cases f
   refine⟨_,fS G,g3,B,TD h t x,g1,g2,fun b d l q k o f=>?_⟩;show(if ∃ b ∈ gs,∃ l o,ρ b=some l/\l.G k=some o then w.heap[k]? else none)=_;rw[A4 ⟨b,d,l,o,q,f⟩];exact(h.atl q (e b d)).1.2 k o f
  .cases c
 unfold oH at c;split at c
 .rename_i g0;obtain⟨h1,c⟩:=A6 c;cases c;obtain⟨l,q⟩:=A6H h h1;refine⟨ρ,l,St.refl h,rfl,.refl,q,eX h1,fun b d l2 p=>?_⟩;rcases B7.1 d with rfl|d
  .rw[q]at p
   have:=A9 p;subst this;exact fun _ _ h=>h
  .cases d
 .exact main c
omit [Ora] in
def sK{R:Nat->Option Obj}{v r:Value}(h:Enc R u v)(hr:toV u=some r):v=r:=by
 cases h with
 | sc h=>rw[h]at hr;exact A9 hr
 | nil=>cases hr
 | emp=>cases hr
 | sl=>cases hr
omit [Ora] in
def qN{R:Nat->Option Obj}{v:Value}(h:Enc R u v):cR v=true:=by
 cases h with
 | sc h=>have:=lH h;cases v<;>first|rfl|cases this
 | nil=>rfl
 | emp=>rfl
 | sl=>rfl
def A9S{wd k:Nat}{rows:List (List U)} :evU (.get wd o) [.seq false wd rows,.int kk (.ofNat k)]=(rows.getD k []).getD o .none:=by
 simp[evU]
def getD_some(h:row.getD o .none≠.none):row[o]? = some (row.getD o .none):=by
 rw[B4]at *;cases e:row[o]? with
 | none=>rw[e]at h;exact absurd rfl h
 | some u=>rfl
def kF{wd o i t g k:Nat}{z:Value}{lg:Loc}{rows:List (List U)}{cell:Nat->W4}(hi:Ora.env i=.seq false wd rows)(D:uC Ora.env z=some (.ofNat k))(l:ρ g=some lg)
  (x:∀ q u,(rows.getD k [])[q]? = some u->∃ v,cell q=some v/\Enc lg.G u v) :
  ∀ {ts:I9} {j:Nat} {m m':Mem} {r:D6},v8 wd o i t z g ts j m=some (r,m')->Sat m'.lg->∃ r',LR ρ r r'/\r'.length=ts.length/\(∀ q v',r'[q]? = some v'->cell (o+j+q)=some v')/\N2 m m'/\m.lg.le m'.lg
 | [],j,m,m',r,h,hS=>by
   cases h;exact⟨[],.nil,rfl,fun q v' h=>by simp at h,.refl _,.refl _⟩
 | tg::ts,j,m,m',r,h,hS=>by
   unfold v8 at h;obtain⟨kk,A⟩:=PA D;have d:[hole i t,z].map (E7 Ora.env)=[.seq false wd rows,.int kk (.ofNat k)]:=by
    simp only[F0,K7,A];show[Ora.env i,_]=_;rw[hi]
   have b:∀ {u:U},u≠.none->evU (.get wd (o+j)) ([hole i t,z].map (E7 Ora.env))=u->∃ v,cell (o+j)=some v/\Enc lg.G u v:=fun{u} hu he=>by
    rw[d,A9S]at he;subst he;exact x _ _ (getD_some hu)
   cases F:Nat.blt tg 10 with
   | true =>
     rw[F]at h;simp only[F7]at h;have J:tg<10:=A2 F;split at h
     .rename_i hh m1 E;split at h
      .rename_i I m2 hr;cases h;obtain⟨r',y,p,n,B,f⟩:=kF hi D l x hr hS;obtain⟨u,f1,f2,v,f3,f4,f5⟩:=Q8 E (hS.le f);obtain⟨v2,g1,g2⟩:=b (u:=u) (by intro e;subst e;cases f3) f1
       have:=sK g2 f3;subst this;refine⟨v2::r',.cons (f4 ρ) y,by simp[p],fun q v' c=>?_,(K8 E).trans B,(L4 E).trans f⟩;cases q with
       | zero=>simp at c;subst c;exact g1
       | succ q=>rw[show o+j+(q+1)=o+(j+1)+q by omega];exact n q v' (by simpa using c)
      .cases h
     .cases h
   | false =>
     rw[F]at h;simp only[E8]at h;rw[SZ]at h;split at h
     .rename_i I m2 hr;cases h;obtain⟨r',y,p,n,B,f⟩:=kF hi D l x hr hS;obtain⟨f1,f2,H,K,C,f3,f4⟩:=oK hS f;obtain⟨v2,g1,g2⟩:=b (u:=Ora.env m.lg.nx) (by rw[f3];intro h;cases h) f1.symm;refine⟨v2::r',.cons (.dat l g2 f2 A0 (qN g2)) y,by simp[p],fun q v' c=>?_,N2.trans ⟨_,rfl⟩ B,p7.trans f⟩;cases q with
      | zero=>simp at c;subst c;exact g1
      | succ q=>rw[show o+j+(q+1)=o+(j+1)+q by omega];exact n q v' (by simpa using c)
     .cases h
def mV{t:TypeId}(h:oY P t=some ts):I4 P t=some ts.length:=by
 unfold oY at h;split at h
 .rename_i l n h1 b;obtain⟨h3,h⟩:=A6 h;cases h;rw[b,A1 h3]
 .cases h
def LF{t:TypeId}{r:D6}{v:Value}{b:Nat}(e:oY P t=some ts)(d:qV P t (some (r,m))=some (v,m'))(f:LR ρ r r')(n:r'.length=ts.length)
  (k:∀ q v',r'[q]? = some v'->w.cell? ⟨b,o+q,none⟩=some v'):m'=m/\∃ v',(Instr.loadAt t (.pointer (some ⟨b,o,none⟩))).run P w=.ok v' w/\VR ρ v v':=by
 unfold qV at d;split at d
 .rename_i c heq;cases d;cases heq;obtain⟨v',p,rfl,l,x⟩:=f.tail;refine⟨rfl,v',?_,l⟩
  have:=k 0 v' rfl;simp[Instr.loadAt,Instr.sureAddr,loadVar,A8,eT c,Result.andThen,run_load,show w.cell? ⟨b,o,none⟩=some v' from by simpa using this]
 .rename_i c heq;cases d;cases heq;refine⟨rfl,.agg ⟨r'⟩,?_,.agg f.1 f.2⟩;have g:I4 P t=some r'.length:=by rw[n];exact mV e
  simp[Instr.loadAt,Instr.sureAddr,loadVar,A8,eT c,P0 g,Result.andThen,N7 rfl k]
 .cases d
def A5b{t:TypeId}{x x' v:Value}(h:HR P base ρ m.H w)(n:SW P m t x=some (v,m'))(Z:VR ρ x x')(hS:Sat m'.lg):(∃ r,(Instr.loadAt t x').run P w=.ok r w/\VR ρ v r)/\N2 m m'/\m.lg.le m'.lg:=by
 have F:∀ {r:Option (D6×Mem)},qV P t r=some (v,m')->∃ vs,r=some (vs,m'):=fun{r} K=>by
  unfold qV at K;split at K
  .cases K;exact⟨_,rfl⟩
  .cases K;exact⟨_,rfl⟩
  .cases K
 unfold SW at n;split at n
 .rename_i b i tg z o ts E;obtain⟨h1,n⟩:=A6 n;obtain⟨⟨l,wd,rows,a,s,c,k,L,J,N,R,M,e6,rfl⟩,Y⟩:=NT Z;obtain⟨vs,hr⟩:=F n;rw[hr]at n;have y:tg-10=wd:=by rw[<- Y,J];simp[G9]
  rw[y]at hr;have Q:=(h.atl L (eX h1)).1.2;rw[J]at N;obtain⟨C,T,fz,f1,f2,f3,f4⟩:∃ C T fz,l.G a=some (.cells C T fz)/\s+rows.length*wd<=C.size/\(∀ row ∈ rows,row.length=wd)/\∀ (r:Nat) (row:List U) (j:Nat) (u:U) (v:Value),rows[r]? = some row->row[j]? = some u->C[s+r*wd+j]? = some v->Enc l.G u v:=by
   have A:rows≠[]:=by intro e;subst e;simp at M
   cases N with
   | sc h=>cases h
   | emp=>exact absurd rfl A
   | sl hc V hz hw hh=>exact⟨_,_,_,V A,hz A,hw,hh⟩
  have D:=Q _ _ f1;have d:rows[k]? = some rows[k]:=A7 M;obtain⟨r',g1,g2,g3,g4,g5⟩:=kF (cell:=fun q=>w.cell? ⟨a,s+k*wd+q,none⟩) J R L (fun q u f=>by
   rw[B4,d]at f;have f:rows[k][q]? = some u:=f;have B:=(B3.1 f).1;rw[f3 _ (E6 d)]at B;have S:(k+1)*wd<=rows.length*wd:=G8 wd M;rw[J4]at S;have p:s+k*wd+q<C.size:=A0;refine⟨C[s+k*wd+q],?_,f4 k _ q u _ d f (I1 p)⟩;simp[World.cell?,D,I1 p]) hr hS
  obtain⟨_,W⟩:=LF (w:=w) (b:=a) (o:=s+k*wd+o) E n g1 g2 (fun q v' f=>by
   have:=g3 q v' f;rw[show s+k*wd+o+q=s+k*wd+(o+0+q) by omega];exact this)
  exact⟨W,g4,g5⟩
 .rename_i b i tg z o ts E;split at n
  .rename_i c tc T g ro V;obtain⟨h1,n⟩:=A6 n;have h1:=A1 h1;subst h1;obtain⟨⟨l,wd,iM,k,L,J,N,R,M,e6,rfl⟩,Y⟩:=CC Z;obtain⟨vs,hr⟩:=F n;rw[hr]at n;obtain⟨I,inf,d1,d2,d3,d4⟩:=SqR.ex (h.atl L V).1;rcases d4 with⟨d4,_⟩|⟨_,d4⟩
   .rw[J]at d4;cases d4
   obtain⟨C,fz,T',rows,lg,f1,f2,f3,f4,f5,f6,f7,f8,f9⟩:=d4;have y:tc-10=I:=A0;rw[y]at hr;have O:k<rows.length:=A0;have d:rows[k]? = some rows[k]:=A7 O;have X:wd=I:=by
    have:G9 (Ora.env i)=10+wd:=by rw[N];rfl
    omega
   subst X;obtain⟨r',g1,g2,g3,g4,g5⟩:=kF (cell:=fun q=>w.cell? ⟨l.blk,l.sh+k*wd+q,none⟩) f2 R f7 (fun q u f=>by
    rw[B4,d]at f;have f:rows[k][q]? = some u:=f;have B:=(B3.1 f).1;rw[f6 _ (E6 d)]at B;have S:(k+1)*wd<=l.cap*wd:=G8 wd A0;rw[J4]at S;have p:l.sh+k*wd+q<C.size:=A0;refine⟨C[l.sh+k*wd+q],?_,f8 k _ q u _ d f (I1 p)⟩;simp[World.cell?,f1,I1 p]) hr hS
   obtain⟨_,W⟩:=LF (w:=w) (b:=l.blk) (o:=l.sh+k*wd+o) E n g1 g2 (fun q v' f=>by
    have:=g3 q v' f;rw[show l.sh+k*wd+o+q=l.sh+k*wd+(o+0+q) by omega];exact this)
   exact⟨W,g4,g5⟩
  .cases n
 .cases n
end
end
section
open Go
variable [Ora]
section
variable {P:Program} {base:Nat} {ρ ρ':Ren} {m m':Mem} {w w':World}
def at0(a:Nat):Ren:=fun _=>some (lc a 0 0)
def A2f{a s n c:Nat}(h:n<=c):VR (at0 a) (.slice (some ⟨0,s,none⟩) n (R5+1)) (.slice (some ⟨a,s,none⟩) n c) :=
 VR.op (ρ:=at0 a) (b:=0) (o:=s) (n:=n) (m:=R5+1) (m':=c) (l:=lc a 0 0) rfl (by unfold R5;omega) h (fun h=>by unfold R5 at h;omega)
def A1c{a s:Nat}:VR (at0 a) (.pointer (some ⟨0,s,none⟩)) (.pointer (some ⟨a,s,none⟩)):=VR.ptr (ρ:=at0 a) (b:=0) (o:=s) (l:=lc a 0 0) rfl
def zF{t e:TypeId}{a s n c z sz:Nat}{k:IntKind}(hu:P.underlying t=some (.slice e))(hs:I4 P e=some sz)(g:z<n)(d:n<=c)(w:World) :
  (Instr.indexAt t (.slice (some ⟨a,s,none⟩) n c) (.int k (.ofNat z))).run P w=.ok (.pointer (some ⟨a,s+z*sz,none⟩)) w:=by
 have f:Nat.blt z n=true:=D2 g;have hm:v7 P t (.slice (some ⟨0,s,none⟩) n (R5+1)) (.int k (.ofNat z))=some (.pointer (some ⟨0,s+z*sz,none⟩)):=by
  simp only[v7,hu,hs,f,F7,eB,G5]
 obtain⟨v',g1,g2⟩:=fI (P:=P) hm (A2f (a:=a) d) (.pure rfl) w;obtain⟨l2,b,_,rfl⟩:=V0 g2;cases b;exact g1
def vG{t e:TypeId}{a s n z sz:Nat}{k:IntKind}(hu:P.underlying t=some (.array n e))(hs:I4 P e=some sz)(d:z<n)(w:World) :
  (Instr.indexAt t (.pointer (some ⟨a,s,none⟩)) (.int k (.ofNat z))).run P w=.ok (.pointer (some ⟨a,s+z*sz,none⟩)) w:=by
 have c:Nat.blt z n=true:=D2 d;have hm:v7 P t (.pointer (some ⟨0,s,none⟩)) (.int k (.ofNat z))=some (.pointer (some ⟨0,s+z*sz,none⟩)):=by
  simp only[v7,hu,hs,c,F7,eB,G5]
 obtain⟨v',g1,g2⟩:=fI (P:=P) hm (A1c (a:=a)) (.pure rfl) w;obtain⟨l2,b,_,rfl⟩:=V0 g2;cases b;exact g1
def zH{a z:Nat}{c:Array Field}{f:Field}(hu:P.underlying s=some (.struct c))(e:c.toList[i]? = some f)(d:I4 P f.type=some (z+1))(w:World) :
  (Instr.fieldAt s (.pointer (some ⟨a,o,none⟩)) i).run P w=.ok (.pointer (some ⟨a,o+f.offset,none⟩)) w:=by
 have hm:fJ P s (.pointer (some ⟨0,o,none⟩)) i=some (.pointer (some ⟨0,o+f.offset,none⟩)):=by
  simp only[fJ,hu,e,d,eB,G5]
 obtain⟨v',g1,g2⟩:=qH (P:=P) hm (A1c (a:=a)) w;obtain⟨l2,b,_,rfl⟩:=V0 g2;cases b;exact g1
def NV{t wd:Nat}{d:Bool}{rows:List (List U)}{k v:Value}(h:TM m i t z k=some (v,m'))(hi:Ora.env i=.seq d wd rows)(J:t=10+wd)(G:VR ρ z z')(D:Sat m'.lg) :
  v=k/\(∃ kk n,z'=.int kk (.ofNat n)/\n<rows.length/\uC Ora.env z=some (.ofNat n))/\N2 m m'/\m.lg.le m'.lg:=by
 unfold TM at h;cases p:!(Nat.blt (I2 z) 8)with
 | true=>rw[p]at h;cases h
 | false =>
   have E:I2 z<8:=by
    have:Nat.blt (I2 z) 8=true:=by simpa using p
    exact A2 this
   rw[p]at h;simp only[E8]at h;split at h
   .rename_i b H n W hh lg B;split at h
    .rename_i q C;cases h;have g:=L4 B;have c:=qU C;obtain⟨u,f,I,r,l,F,_⟩:=Q8 B (V3.le D c);have A:=tY C (F ρ) D;subst A;obtain⟨kk,y,rfl,f2,_⟩:=S8 G E;have e:[z,hole i t].map (E7 Ora.env)=[.int kk y,.seq d wd rows]:=by
      simp only[F0,K7,f2];show[_,Ora.env i]=_;rw[hi]
     rw[e]at f;have f:(if wd=t-10 then U.bool (decide (0<=y) && decide (y<rows.length))else U.none)=u:=f;rw[A4 A0]at f;subst f;have l:some (Value.bool (decide (0<=y) && decide (y<rows.length)))=some (.bool true):=l;have x:(decide (0<=y) && decide (y<rows.length))=true:=by simpa using l
     simp only[I3,decide_eq_true_eq]at x;obtain⟨n0,rfl⟩:∃ n0:Nat,y=.ofNat n0:=⟨y.toNat,by have:=U5 x.1;exact this.symm⟩;refine⟨rfl,⟨kk,n0,rfl,?_,A1e f2⟩,N2.trans (K8 B) ⟨q,rfl⟩,g.trans c⟩
     have:=x.2;have:(n0:Int)<rows.length:=this;omega
    .cases h
   .cases h
def B50{G:Nat->Option Obj}{b:Bool}{wd:Nat}{rows:List (List U)}{v:Value}(h:Enc G (.seq b wd rows) v)(hr:rows≠[]):b=false/\∃ a o c,v=.slice (some ⟨a,o,none⟩) rows.length c/\rows.length<=c:=by
 cases h with
 | sc h=>cases h
 | nil=>exact absurd rfl hr
 | emp=>exact absurd rfl hr
 | sl d _ _ _ _=>exact⟨rfl,_,_,_,rfl,d⟩
def WQ{t:Nat}(h:G9 u=t)(d:10<=t):u=.none∨∃ c wd rows,u=.seq c wd rows/\t=10+wd:=by
 cases u with
 | none=>exact .inl rfl
 | int k n=>have:=Q2 k;simp[G9]at h;omega
 | bool b=>simp[G9]at h;omega
 | str s=>simp[G9]at h;omega
 | seq c wd rows=>exact .inr ⟨c,wd,rows,rfl,h.symm⟩
def kH{G:Nat->Option Obj}{v:Value}{t:Nat}(h:Enc G u v)(d:G9 u=t)(c:10<=t):∃ b wd rows,u=.seq b wd rows/\t=10+wd:=by
 rcases WQ d c with rfl|h1
 .cases h with
  | sc h=>cases h
 .exact h1
def KK{t e:TypeId}{b s:Nat}{l:Loc}{v v':Value}(hu:P.underlying t=some (.slice e))(hs:I4 P e=some (s+1))(y:tg=10+(s+1))(h1:ρ b=some l)(f:Enc l.G (Ora.env i) v')(h3:G9 (Ora.env i)=tg)
  (h:TM m i tg z (dpt b i tg z 0)=some (v,m')) (C:VR ρ z z') (D:Sat m'.lg):(∃ r,(Instr.indexAt t v' z').run P w=.ok r w/\VR ρ v r)/\N2 m m'/\m.lg.le m'.lg:=by
 obtain⟨x,wd,rows,d,A⟩:=kH f h3 A0;obtain⟨rfl,⟨kk,n,rfl,k,q⟩,g1,g2⟩:=NV h d A C D;have p:wd=s+1:=A0;subst p;have g:rows≠[]:=by intro e;subst e;simp at k
 rw[d]at f;obtain⟨rfl,a,o,c,rfl,B⟩:=B50 f g;refine⟨⟨_,zF hu hs k B w,.dpt ⟨l,s+1,rows,a,o,c,n,h1,d,by rw[d];exact f,q,k,A0,by simp⟩ h3 rfl⟩,g1,g2⟩
def TK{t:TypeId}{x x' v:Value}(h:qD P m t x z=some (v,m'))(F:VR ρ x x')(C:VR ρ z z')(H:Sat m'.lg):(∃ r,(Instr.indexAt t x' z').run P w=.ok r w/\VR ρ v r)/\N2 m m'/\m.lg.le m'.lg:=by
 unfold qD at h;split at h
 .rename_i e b i tg hu;split at h
  .rename_i s hs;obtain⟨g,h⟩:=A6 h;have g:=A1 g;obtain⟨D,d⟩:=gP F;rcases D with⟨l,wd,h1,B,h3,rfl⟩|⟨l,wd,rows,h1,B,h3,Q,K,rfl⟩
   .obtain⟨_,⟨kk,n,_,N,_⟩,_⟩:=NV h h3 (by rw[h3]at d;exact d.symm) C H;simp at N
   .have A:tg=10+wd:=by rw[h3]at d;exact d.symm
    obtain⟨rfl,⟨kk,n,rfl,N,I⟩,g1,g2⟩:=NV h h3 A C H;have p:wd=s+1:=A0;subst p;exact⟨⟨_,zF hu hs A0 K w,.opt ⟨l,s+1,rows,n,h1,B,h3,I,A0,A0,by simp⟩ d rfl⟩,g1,g2⟩
  .cases h
 .rename_i e b i tg hu;split at h
  .rename_i s hs;obtain⟨g,h⟩:=A6 h;have g:=A1 g;obtain⟨l,h1,B,h3,_⟩:=sI F;exact KK hu hs g h1 B h3 h C H
  .cases h
 .rename_i e b i tg hu;split at h
  .rename_i s hs;obtain⟨g,h⟩:=A6 h;have g:=A1 g;obtain⟨l,h1,B,h3,_⟩:=kE F;exact KK hu hs g h1 B h3 h C H
  .cases h
 .rename_i n e b i tg y o hu;split at h
  .rename_i s kk k hs;obtain⟨f,h⟩:=A6 h;obtain⟨f,hw⟩:=C5 f;have f:=A2 f;have hw:o+k*s<tg-10:=A2 hw;rw[G5]at h;cases h;cases M2 C;obtain⟨⟨l,wd,rows,a,s0,c,q,J,A,G,M,L,O,rfl⟩,E⟩:=NT F;have p:tg-10=wd:=by rw[<- E,A];simp[G9]
   refine⟨⟨_,vG hu hs f w,.dpt ⟨l,wd,rows,a,s0,c,q,J,A,G,M,L,A0,by simp⟩ E rfl⟩,.refl _,.refl _⟩
  .cases h
 .rename_i n e b i tg y o hu;split at h
  .rename_i s kk k hs;obtain⟨f,h⟩:=A6 h;obtain⟨f,hw⟩:=C5 f;have f:=A2 f;have hw:o+k*s<tg-10:=A2 hw;rw[G5]at h;cases h;cases M2 C;obtain⟨⟨l,wd,rows,q,J,A,G,M,L,O,rfl⟩,E⟩:=CC F;have p:tg-10=wd:=by rw[<- E,G];simp[G9]
   refine⟨⟨_,vG hu hs f w,.opt ⟨l,wd,rows,q,J,A,G,M,L,A0,by simp⟩ E rfl⟩,.refl _,.refl _⟩
  .cases h
 .cases h
def TZ{x x' v:Value}{f:Nat}(h:qI P m s x f=some (v,m'))(C:VR ρ x x'):(∃ r,(Instr.fieldAt s x' f).run P w=.ok r w/\VR ρ v r)/\m'=m:=by
 unfold qI at h;split at h
 .rename_i D b i tg y o hu;split at h
  .rename_i fd p;split at h
   .rename_i z B;obtain⟨hw,h⟩:=A6 h;have hw:o+fd.offset<tg-10:=A2 hw;rw[G5]at h;cases h;obtain⟨⟨l,wd,rows,a,s0,c,q,k,g,e,A,t,E,rfl⟩,d⟩:=NT C;have n:tg-10=wd:=by rw[<- d,g];simp[G9]
    exact⟨⟨_,zH hu p B w,.dpt ⟨l,wd,rows,a,s0,c,q,k,g,e,A,t,A0,by simp⟩ d rfl⟩,rfl⟩
   .cases h
  .cases h
 .rename_i D b i tg y o hu;split at h
  .rename_i fd p;split at h
   .rename_i z B;obtain⟨hw,h⟩:=A6 h;have hw:o+fd.offset<tg-10:=A2 hw;rw[G5]at h;cases h;obtain⟨⟨l,wd,rows,q,k,g,e,A,t,E,rfl⟩,d⟩:=CC C;have n:tg-10=wd:=by rw[<- d,e];simp[G9]
    exact⟨⟨_,zH hu p B w,.opt ⟨l,wd,rows,q,k,g,e,A,t,A0,by simp⟩ d rfl⟩,rfl⟩
   .cases h
  .cases h
 .cases h
end
end
section
open Go
variable [Ora]
section
variable {P:Program} {base:Nat} {ρ ρ':Ren} {m m':Mem} {w w':World}
def cS{G:Nat->Option Obj}{b:Bool}{wd:Nat}{rows:List (List U)}{v:Value}(h:Enc G (.seq b wd rows) v):(b=true/\rows=[]/\v=.slice none 0 0)∨(b=false/\∃ (a:Addr) (c:Nat),v=.slice (some a) rows.length c/\rows.length<=c):=by
 cases h with
 | sc h=>cases h
 | nil=>exact .inl ⟨rfl,rfl,rfl⟩
 | emp=>exact .inr ⟨rfl,_,_,rfl,B0 _⟩
 | sl d _ _ _ _=>exact .inr ⟨rfl,_,_,rfl,d⟩
def pF{t e:TypeId}{a:Option Addr}{n c:Nat}(hu:P.underlying t=some (.slice e))(w:World):(Builtin.len_ ⟨t::tys⟩ ty #[.slice a n c]).run P w=.ok (.int .i64 n) w:=by
 simp[Builtin.len_,A8,D8 hu,Result.andThen,goInt]
def A8x{t:Nat}{v:Value}{c:Bool}{wd:Nat}{rows:List (List U)}(h:p8 m 3 .len [hole i t]=some (v,m'))(hi:Ora.env i=.seq c wd rows)(e:Sat m'.lg):VR ρ v (.int .i64 rows.length)/\N2 m m'/\m.lg.le m'.lg/\E7 Ora.env v=.int .i64 rows.length:=by
 obtain⟨u,d,k,r,f,g,n⟩:=Q8 h e;have b:[hole i t].map (E7 Ora.env)=[.seq c wd rows]:=by
  show[Ora.env i]=_;rw[hi]
 rw[b]at d;have d:U.int .i64 rows.length=u:=d;subst d;cases f;refine⟨g ρ,K8 h,L4 h,?_⟩;obtain⟨rfl,rfl⟩:=sG h;obtain⟨h1,l,h3⟩:=e (.lt m.lg.nx 3 .len [hole i t]) (by cases m;exact C7);show Ora.env m.lg.nx=_;rw[h1,b];rfl
def qG{i j:Nat}:∀ {l:List t6},wS i l=some j->∃ tg,t6.lt j 3 .len [hole i tg] ∈ l
 | [],h=>by cases h
 | e::r,h=>by
   unfold wS at h;split at h
   .cases h
   .rename_i f t k tg r' he;cases he;cases c:Nat.beq k i && Nat.beq t 3 with
    | true =>
      rw[c]at h;cases h;obtain⟨h1,d⟩:=C5 c;have h1:=A1 h1;have d:=A1 d;subst h1;subst d;exact⟨tg,.head _⟩
    | false =>
      rw[c]at h;obtain⟨b,h3⟩:=qG h;exact⟨b,.tail _ h3⟩
   .rename_i he;cases he;obtain⟨b,h3⟩:=qG h;exact⟨b,.tail _ h3⟩
def eD{t:Nat}{v:Value}(h:NM m i t=some (v,m')):N2 m m'/\m.lg.le m'.lg:=by
 unfold NM at h;split at h
 .cases h;exact⟨N2.refl _,.refl _⟩
 .exact⟨K8 h,L4 h⟩
def pY{t:Nat}{v:Value}{b:Bool}{wd:Nat}{rows:List (List U)}(h:NM m i t=some (v,m'))(hi:Ora.env i=.seq b wd rows)(d:Sat m'.lg):VR ρ v (.int .i64 rows.length)/\N2 m m'/\m.lg.le m'.lg/\E7 Ora.env v=.int .i64 rows.length:=by
 unfold NM at h;split at h
 .rename_i j e;cases h;obtain⟨tg,hm⟩:=qG e;obtain⟨h1,f,_⟩:=d _ hm;have c:[hole i tg].map (E7 Ora.env)=[.seq b wd rows]:=by
   show[Ora.env i]=_;rw[hi]
  rw[c]at h1;have h1:Ora.env j=.int .i64 rows.length:=h1;refine⟨.hole ?_ ?_,N2.refl _,.refl _,h1⟩
  .rw[h1];rfl
  .rw[h1];rfl
 .exact A8x h hi d
def A2B{b:Nat}{v':Value}(h:A2C ρ b u v'):∃ d wd rows a c,u=.seq d wd rows/\v'=.slice a rows.length c:=by
 rcases h with⟨l,wd,h1,g,h3,rfl⟩|⟨l,wd,rows,h1,g,h3,f,e,rfl⟩
 .exact⟨_,_,_,_,_,h3,rfl⟩
 .exact⟨_,_,_,_,_,h3,by rw[f]⟩
def A8y{t:TypeId}{x x' v:Value}(h:A8z P m t x=some (v,m'))(n:VR ρ x x')(p:Sat m'.lg):(∃ r,(Builtin.len_ ⟨t::tys⟩ ty #[x']).run P w=.ok r w/\VR ρ v r)/\N2 m m'/\m.lg.le m'.lg:=by
 unfold A8z at h;split at h
 .rename_i e b i tg hu;obtain⟨l,h1,f,h3,k⟩:=sI n;obtain⟨g,wd,rows,d,_⟩:=kH f h3 k;obtain⟨g1,g2,g3,_⟩:=pY (ρ:=ρ) h d p;rw[d]at f;rcases cS f with⟨rfl,rfl,rfl⟩|⟨rfl,a,c,rfl,_⟩
  .exact⟨⟨_,pF hu w,g1⟩,g2,g3⟩
  .exact⟨⟨_,pF hu w,g1⟩,g2,g3⟩
 .rename_i e b i tg hu;obtain⟨l,h1,f,h3,k,_⟩:=kE n;obtain⟨g,wd,rows,d,_⟩:=kH f h3 k;obtain⟨g1,g2,g3,_⟩:=pY (ρ:=ρ) h d p;rw[d]at f;rcases cS f with⟨rfl,rfl,rfl⟩|⟨rfl,a,c,rfl,_⟩
  .exact⟨⟨_,pF hu w,g1⟩,g2,g3⟩
  .exact⟨⟨_,pF hu w,g1⟩,g2,g3⟩
 .rename_i e b i tg hu;obtain⟨g,wd,rows,a,c,d,rfl⟩:=A2B (gP n).1;obtain⟨g1,g2,g3,_⟩:=pY (ρ:=ρ) h d p;exact⟨⟨_,pF hu w,g1⟩,g2,g3⟩
 .cases h
def JT{v v':Value}{n:Nat}(c:VR ρ v v')(d:EX v=true)(b:E7 Ora.env v=.int kk (.ofNat n)):∃ j,v'=.int j (.ofNat n):=by
 obtain⟨k,z,rfl,f2,_⟩:=S8 c (A2 d);rw[f2]at b;injection b with _ hb
 exact⟨k,by rw[hb]⟩
def A3o{h x d x':Value}(hs:ZU h x=true)(h1:VR ρ h d)(e:VR ρ x x'):d=x':=by
 unfold ZU at hs;split at hs
 .rename_i i t1 j t2
  have:=A1 hs;subst this;have hh:∀ {t:Nat} {v:Value},VR ρ (.complex .f64 i t) v->toV (Ora.env i)=some v:=fun{t v} h=>by
   cases h with
   | pure hp=>simp[K5]at hp
   | hole h _=>exact h
  have a:=hh h1;rw[hh e]at a;exact(A9 a).symm
 .obtain⟨c,b⟩:=C5 hs;have c:=lM c;rw[fB]at b;have b:=eq_of_beq b;subst c;subst b;cases M2 h1;cases M2 e;rfl
 .cases hs
def A6W{wd v:Nat}{d:Bool}{rows:List (List U)}{a b:U}(c:evU (.subs wd) [.seq d v rows,a,b]≠.none):∃ f l g h,a=.int f (.ofNat l)/\b=.int g (.ofNat h)/\v=wd/\l<=h/\h<=rows.length:=by
 cases a with
 | int f k=>cases k with
   | ofNat l=>cases b with
     | int g z2=>cases z2 with
       | ofNat h =>
         have c:(if v=wd/\l<=h/\h<=rows.length then U.seq d wd ((rows.drop l).take (h-l))else .none)≠.none:=c;by_cases e:v=wd/\l<=h/\h<=rows.length
         .exact⟨f,l,g,h,rfl,rfl,e.1,e.2.1,e.2.2⟩
         .rw[A3 e]at c;exact(c rfl).elim
       | negSucc _=>exact(c rfl).elim
     | _=>exact(c rfl).elim
   | negSucc _=>exact(c rfl).elim
 | _=>exact(c rfl).elim
def A9Z{G:Nat->Option Obj}{k:Bool}{wd l h mm n c:Nat}{rows:List (List U)}{a:Option Addr}(he:Enc G (.seq k wd rows) (.slice a n c))(N:l<=h)(hh:h<=rows.length)(hm:h<=mm)(H:mm<=c) :
  Enc G (.seq k wd ((rows.drop l).take (h-l))) (.slice (if mm=l then a else a.map (·.add (l*wd))) (h-l) (mm-l))∨a=none:=by
 cases he with
 | sc h=>cases h
 | nil=>exact .inr rfl
 | emp =>
   rename_i a;have g:h=0:=by simpa using hh
   subst g;have f:l=0:=A0;subst f;have F:mm=0:=A0;subst F;exact .inl .emp
 | sl M E L hw t =>
   rename_i a o C T fz;refine .inl ?_;have hlen:((rows.drop l).take (h-l)).length=h-l:=by simp;omega
   have key:∀ b x,(h-l≠0->b=a/\x=o+l*wd)->Enc G (.seq false wd ((rows.drop l).take (h-l))) (.slice (some ⟨b,x,none⟩) (h-l) (mm-l)):=fun b x A=>by
    have B:∀ r row,((rows.drop l).take (h-l))[r]? = some row->h-l≠0/\rows[l+r]? = some row:=fun r row hr=>by
     have p:=(B3.1 hr).1;rw[hlen]at p;rw[G4 p,J7]at hr;exact⟨A0,hr⟩
    have d:(rows.drop l).take (h-l)≠[]->h-l≠0/\rows≠[]:=fun d=>by
     constructor
     .intro e;rw[e]at d;simp at d
     .intro e;subst e;simp at d
    have:=Enc.sl (G:=G) (w:=wd) (rows:=(rows.drop l).take (h-l)) (a:=b) (o:=x) (c:=mm-l) (C:=C) (T:=T) (fz:=fz) A0
     (fun y=>by obtain⟨g,f⟩:=d y;rw[(A g).1];exact E f)
     (fun y=>by
       obtain⟨g,f⟩:=d y;rw[hlen,(A g).2];have h1:=L f;have J:(l+(h-l))*wd<=rows.length*wd:=G8 wd A0;rw[J4]at J;omega)
     (fun row hr=>hw row (K0 (N3 hr)))
     (fun r row j u v I K D=>by
       obtain⟨g,f⟩:=B r row I;rw[(A g).2]at D;refine t (l+r) row j u v f K ?_;rw[J4,show o+(l*wd+r*wd)+j=o+l*wd+r*wd+j by omega];exact D)
    rw[hlen]at this;exact this
   by_cases q:mm=l
   .rw[A4 q];exact key a o fun h=>by omega
   .rw[A3 q];have e:(Addr.mk a o none).add (l*wd)=⟨a,o+l*wd,none⟩:=by
     unfold Addr.add;split
     .rename_i h;rw[h];rfl
     .rfl
    show Enc G _ (.slice (some ((Addr.mk a o none).add (l*wd))) _ _);rw[e];exact key a (o+l*wd) fun _=>⟨rfl,rfl⟩
def OO{t e:TypeId}{b s:Nat}{l:Loc}{hi:W4}{v x':Value}(hu:P.underlying t=some (.slice e))(hs:I4 P e=some s)(al:tg=10+s)(h1:ρ b=some l)(H:Enc l.G (Ora.env i) x')(h3:G9 (Ora.env i)=tg)
  (az:cl=true->A66 x') (h:UK m b i tg cl lo hi mx=some (v,m')) (Q:OR ρ lo lo') (O:OR ρ hi hi') (K:OR ρ mx mx') (hS:Sat m'.lg):(∃ r,(Instr.sliceAt t x' lo' hi' mx').run P w=.ok r w/\VR ρ v r)/\N2 m m'/\m.lg.le m'.lg:=by
 have d:∀ {o:W4},OR ρ none o->o=none:=fun{o} h=>by cases o<;>first|rfl|exact h.elim
 have f:∀ {y:Value} {o:W4},OR ρ (some y) o->∃ Z,o=some Z/\VR ρ y Z:=fun{y o} h=>by cases o<;>first|exact h.elim|exact⟨_,rfl,h⟩
 obtain⟨L,wd,rows,e1,e2⟩:=kH H h3 A0;have aq:wd=s:=A0;subst aq;rw[e1]at H;obtain⟨a,n,c,au,hn,ai⟩:∃ a n c,x'=.slice a n c/\n=rows.length/\n<=c:=by
  rcases cS H with⟨rfl,rfl,rfl⟩|⟨rfl,a,c,rfl,hc⟩
  .exact⟨_,_,_,rfl,rfl,B0 _⟩
  .exact⟨_,_,_,rfl,rfl,hc⟩
 subst au;have go:∀ {m:Mem} {A g:Value} {N:Bool} {E:W4} {hh mm:Nat},kJ m b i tg A g N=some (v,m') ->
   (E=none/\A=.int .i64 0∨∃ y,E=some y/\VR ρ A y)->(∀ kk q,E7 Ora.env g=.int kk (.ofNat q)->q<=rows.length->q=hh/\Bd mx' c c mm/\(hi'=none->mx'=none)/\Bd hi' mm n hh/\hh<=mm/\(N=true->mm=hh)) ->
   (∃ r,(Instr.sliceAt t (.slice a n c) E hi' mx').run P w=.ok r w/\VR ρ v r)/\N2 m m'/\m.lg.le m'.lg:=fun{m A g N E hh mm} h F ay=>by
  unfold kJ at h;obtain⟨hint,h⟩:=A6 h;obtain⟨aw,aj⟩:=C5 hint;rw[S9]at h;simp only[D9,R6]at h;obtain⟨rfl,rfl⟩:=h;obtain⟨f1,f2,an,ah,ar,f3,f4⟩:=oK hS (.refl _);have X:[hole i tg,A,g].map (E7 Ora.env)=[.seq L wd rows,E7 Ora.env A,E7 Ora.env g]:=by
   show[Ora.env i,_,_]=_;rw[e1]
  rw[X]at f1;have av:tg-10=wd:=A0;rw[av]at f1;obtain⟨Y,l0,S,h0,a1,a2,a3,a4⟩:∃ Y l0 S h0,E7 Ora.env A=.int Y (.ofNat l0)/\E7 Ora.env g=.int S (.ofNat h0)/\l0<=h0/\h0<=rows.length:=by
   have ax:evU (.subs wd) [.seq L wd rows,E7 Ora.env A,E7 Ora.env g]≠.none:=by rw[<- f1,f3];intro h;cases h
   obtain⟨Y,l0,S,h0,q1,C,_,q3,q4⟩:=A6W ax;exact⟨Y,l0,S,h0,q1,C,q3,q4⟩
  rw[a1,a2]at f1;have f1:Ora.env m.lg.nx=if wd=wd/\l0<=h0/\h0<=rows.length then U.seq L wd ((rows.drop l0).take (h0-l0))else .none:=f1
  rw[A4 ⟨rfl,a3,a4⟩]at f1;obtain⟨rfl,R,b2,b3,b4,b5⟩:=ay S h0 a2 a4;have b6:Bd E h0 0 l0:=by
   rcases F with⟨rfl,rfl⟩|⟨y,rfl,hy⟩
   .cases a1;exact .inl ⟨rfl,rfl⟩
   .obtain⟨j,rfl⟩:=JT hy aw a1;exact .inr ⟨j,rfl,a3⟩
  have T:=zE (P:=P) (a:=a) (n:=n) (c:=c) hu hs R b2 b3 b6 w;have J:Enc l.G (Ora.env m.lg.nx) (.slice (if mm=l0 then a else a.map (·.add (l0*wd))) (h0-l0) (mm-l0)):=by
   rw[f1];rcases A9Z (mm:=mm) H a3 a4 b4 (by rcases R with⟨_,rfl⟩|⟨_,_,R⟩<;>omega)with he|rfl
   .exact he
   .rcases cS H with⟨rfl,rfl,I⟩|⟨_,_,_,I,_⟩
    .cases I;have z1:h0=0:=by simp at a4;exact a4
     have z2:l0=0:=A0;have z3:mm=0:=by
      rcases R with⟨_,rfl⟩|⟨_,_,R⟩<;>omega
     subst z1;subst z2;subst z3;exact .nil
    .cases I
  refine⟨⟨_,T,?_⟩,⟨_,rfl⟩,p7⟩;cases N with
  | false=>exact .dat h1 J f2 A0 rfl
  | true =>
    refine .clp h1 J f2 A0 rfl ?_;show mm-l0=h0-l0;rw[b5 rfl]
 have B:∀ {g y:Value} {kk:IntKind} {q:Nat},VR ρ g y->EX g=true->E7 Ora.env g=.int kk (.ofNat q)->∃ j,y=.int j (.ofNat q):=fun h1 H h3=>JT h1 H h3
 have p:∀ {m:Mem} {A g:Value} {N:Bool},kJ m b i tg A g N=some (v,m')->EX g=true:=fun h=>by
  unfold kJ at h;exact(C5 (A6 h).1).2
 have main:∀ A,(lo'=none/\A=.int .i64 0∨∃ y,lo'=some y/\VR ρ A y)->UJ m b i tg cl A hi mx=some (v,m')->(∃ r,(Instr.sliceAt t (.slice a n c) lo' hi' mx').run P w=.ok r w/\VR ρ v r)/\N2 m m'/\m.lg.le m'.lg:=fun A F h=>by
  cases hi with
  | some g =>
    obtain⟨ak,rfl,D⟩:=f O;cases mx with
    | none =>
      cases d K;have h:kJ m b i tg A g false=some (v,m'):=h;have hint:=p h;obtain⟨kk,q,I⟩:∃ kk q,E7 Ora.env g=.int kk q:=by
       obtain⟨k,z,_,f2,_⟩:=S8 D (A2 hint);exact⟨k,z,f2⟩
      exact go (hh:=q.toNat) (mm:=c) h F fun W C h1 H=>by
       rw[I]at h1;injection h1 with _ h1
       subst h1;obtain⟨j,rfl⟩:=B D hint I;have e:(Int.ofNat C).toNat=C:=rfl;rw[e];exact⟨rfl,.inl ⟨rfl,rfl⟩,fun h=>(by cases h),.inr ⟨j,rfl,A0⟩,A0,fun h=>by cases h⟩
    | some x =>
      obtain⟨x',rfl,ao⟩:=f K;have h:(bif ZU g x then kJ m b i tg A g true else none)=some (v,m'):=h;obtain⟨M,h⟩:=A6 h;have hint:=p h
      have:=A3o M D ao;subst this;obtain⟨kk,q,I⟩:∃ kk q,E7 Ora.env g=.int kk q:=by
       obtain⟨k,z,_,f2,_⟩:=S8 D (A2 hint);exact⟨k,z,f2⟩
      exact go (hh:=q.toNat) (mm:=q.toNat) h F fun W C h1 H=>by
       rw[I]at h1;injection h1 with _ h1
       subst h1;obtain⟨j,rfl⟩:=B D hint I;have e:(Int.ofNat C).toNat=C:=rfl;rw[e];exact⟨rfl,.inr ⟨j,rfl,A0⟩,fun h=>(by cases h),.inr ⟨j,rfl,B0 _⟩,B0 _,fun _=>rfl⟩
  | none =>
    cases d O;cases mx with
    | some x=>cases h
    | none =>
      cases d K;unfold UJ at h;simp only at h;split at h
      .rename_i g m1 hl;have V:N2 m1 m'/\m1.lg.le m'.lg:=by
        unfold kJ at h;obtain⟨_,h⟩:=A6 h;rw[S9]at h;simp only[D9,R6]at h;obtain⟨_,rfl⟩:=h;exact⟨⟨_,rfl⟩,p7⟩
       obtain⟨q1,C,q3,q4⟩:=pY (ρ:=ρ) hl e1 (hS.le V.2);obtain⟨r1,r2,r3⟩:=go (hh:=rows.length) (mm:=c) h F fun W C h1 H=>by
        rw[q4]at h1;injection h1 with _ h1
        have h1:((rows.length:Nat):Int)=(C:Nat):=h1;have:C=rows.length:=A0;subst this;refine⟨rfl,.inl ⟨rfl,rfl⟩,fun _=>rfl,.inl ⟨rfl,hn.symm⟩,A0,fun hc=>?_⟩
        have:=az hc;have:c=n:=this;omega
       exact⟨r1,C.trans r2,q3.trans r3⟩
      .cases h
 cases lo with
 | none=>exact main _ (.inl ⟨d Q,rfl⟩) h
 | some y=>obtain⟨Z,q1,C⟩:=f Q;exact main _ (.inr ⟨Z,q1,C⟩) h
end
end
section
open Go
variable [Ora]
section
variable {P:Program} {base:Nat} {ρ ρ':Ren} {m m':Mem} {w w':World}
def T5(R:Nat->Option Obj)(rows:List (List U))(wd:Nat)(C:Array Value)(o:Nat):Prop :=
 (∀ row ∈ rows,row.length=wd)/\∀ (r:Nat) (row:List U) (j:Nat) (u:U) (v:Value),rows[r]? = some row->row[j]? = some u->C[o+r*wd+j]? = some v->Enc R u v
def T5.mono{R d:Nat->Option Obj}{rows:List (List U)}{wd:Nat}{C:r7}(h:T5 R rows wd C o)(hs:Sub R d):T5 d rows wd C o:=⟨h.1,fun r row j u v a b c=>(h.2 r row j u v a b c).mono hs⟩
def T5.nil{R:Nat->Option Obj}{wd:Nat}{C:r7}:T5 R [] wd C o:=⟨fun _ h=>by(cases h),fun r row j u v h=>by simp at h⟩
def sP{wd:Nat}:∀ {n:Nat} {l:List U} {r:List (List U)},bF wd n l=some r->r.length=n/\l.length=n*wd/\(∀ row ∈ r,row.length=wd)/\∀ (q:Nat) (row:List U) (j:Nat) (u:U),r[q]? = some row->row[j]? = some u->l[q*wd+j]? = some u
 | 0,[],r,h=>by cases h;exact⟨rfl,by simp,fun _ h=>(by cases h),fun q row j u h=>by simp at h⟩
 | 0,_::_,r,h=>by cases h
 | n+1,l,r,h=>by
   unfold bF at h;split at h
   .rename_i hle;split at h
    .rename_i g hr;cases h;obtain⟨h1,f,h3,d⟩:=sP hr;have e:l.length=(n+1)*wd:=by
      rw[F6]at f;rw[J4];omega
     refine⟨by simp[h1],e,fun row b=>?_,fun q row j u g1 g2=>?_⟩
     .rcases B7.1 b with rfl|b
      .simp;omega
      .exact h3 row b
     .cases q with
      | zero =>
        simp at g1;subst g1;have c:=(B3.1 g2).1;simp at c;rw[G4 A0]at g2
        simpa using g2
      | succ q =>
        have:=d q row j u (by simpa using g1) g2;rw[J7]at this;rw[show(q+1)*wd+j=wd+(q*wd+j) by rw[J4];omega];exact this
    .cases h
   .cases h
def tU{wd:Nat}:∀ (n:Nat) (l:List U),l.length=n*wd->∃ r,bF wd n l=some r
 | 0,[],_=>⟨[],rfl⟩
 | 0,_::_,h=>by simp at h
 | n+1,l,h=>by
   rw[J4]at h;obtain⟨r,hr⟩:=tU (wd:=wd) n (l.drop wd) (by rw[F6];omega);refine⟨l.take wd::r,?_⟩;unfold bF;rw[A4 A0,hr]
def sZ{R:Nat->Option Obj}{wd n:Nat}{rows:List (List U)}(h:y8 R us vs)(b:bF wd n us=some rows):T5 R rows wd ⟨vs⟩ 0:=by
 obtain⟨h1,d,h3,c⟩:=sP b;refine⟨h3,fun r row j u v g1 g2 g3=>h.2 _ u v (c r row j u g1 g2) ?_⟩
 simpa using g3
def DX{α:Type}{l:List α}:∀ n,(WZ l n).length=n*l.length
 | 0=>by simp[WZ]
 | n+1=>by simp[WZ,DX n,J4];omega
def lO(s:List UInt8):(oC s).length=s.length:=by simp[oC]
def RC{R:Nat->Option Obj}(s:List UInt8):T5 R (oC s) 1 ⟨U8 s⟩ 0:=by
 refine⟨fun row hr=>?_,fun r row j u v g1 g2 g3=>?_⟩
 .unfold oC at hr;obtain⟨b,_,rfl⟩:=U2.1 hr;rfl
 .unfold oC at g1;rw[H9]at g1;cases c:s[r]? with
  | none=>rw[c]at g1;cases g1
  | some b =>
    rw[c]at g1;simp only[P3,D9]at g1;subst g1;cases j with
    | zero =>
      simp at g2;subst g2;have g3:(U8 s)[0+r*1+0]? = some v:=by simpa using g3
      unfold U8 at g3;rw[H9,show 0+r*1+0=r by omega,c]at g3;simp only[P3,D9]at g3;subst g3;exact .sc rfl
    | succ j=>simp at g2
def yP{G:Nat->Option Obj}{wd n c:Nat}{rows:List (List U)}(h:Enc G (.seq false wd rows) (.slice (some a) n c))(H:∀ k A,G k=some A->w.heap[k]? = some A) :
  n=rows.length/\∃ new',new'.length=rows.length*wd/\new'.all cR=true/\T5 G rows wd ⟨new'⟩ 0/\∀ (j:Nat) (v':Value),new'[j]? = some v'->w.cell? (a.add j)=some v':=by
 cases h with
 | sc h=>cases h
 | emp=>exact⟨rfl,[],by simp,rfl,.nil,fun j v' h=>by simp at h⟩
 | sl I D B hw f =>
   rename_i a o C T fz;refine⟨rfl,?_⟩;cases hr:rows with
   | nil=>exact⟨[],by simp,rfl,.nil,fun j v' h=>by simp at h⟩
   | cons J K =>
     have l:rows≠[]:=by rw[hr];simp
     rw[<- hr];have hh:=H _ _ (D l);have B:=B l;have hlen:((C.toList.drop o).take (rows.length*wd)).length=rows.length*wd:=by simp;omega
     have b:∀ j,j<rows.length*wd->((C.toList.drop o).take (rows.length*wd))[j]? = C[o+j]? := fun j d=>by
      rw[G4 d,J7];simp
     refine⟨_,hlen,?_,⟨hw,fun r row j u v g1 g2 g3=>?_⟩,fun j v' d=>?_⟩
     .refine D7.2 fun v F=>?_
      obtain⟨j,d,e⟩:=bH F;rw[hlen]at d;have y:C[o+j]? = some v:=by rw[<- b j d,A7 (by rw[hlen];exact d),e]
      have p:0<wd:=by
       rcases Z1 wd with h0|h0
       .subst h0;omega
       .exact h0
      have h1:j / wd<rows.length:=by rw[Nat.div_lt_iff_lt_mul p];exact d
      have x:(rows[j / wd]).length=wd:=hw _ (S6 h1);have h3:j%wd<wd:=uE _ p;refine qN (f (j / wd) rows[j / wd] (j%wd) (rows[j / wd])[j%wd] v (A7 h1) (A7 (by rw[x];exact h3)) ?_);have:o+j / wd*wd+j%wd=o+j:=by have:=Nat.div_add_mod j wd;rw[bD]at this;omega
      rw[this];exact y
     .have E:0+r*wd+j<rows.length*wd:=by
       have t:=(B3.1 g1).1;have q:=(B3.1 g2).1;rw[hw _ (E6 g1)]at q;have x:(r+1)*wd<=rows.length*wd:=G8 wd t;rw[J4]at x;omega
      have g3:((C.toList.drop o).take (rows.length*wd))[0+r*wd+j]? = some v:=by simpa using g3
      rw[b _ E]at g3;exact f r row j u v g1 g2 (by rw[show o+r*wd+j=o+(0+r*wd+j) by omega];exact g3)
     .have g:=(B3.1 d).1;rw[hlen]at g;rw[b j g]at d;rw[N7.add_none'];simp[World.cell?,hh,d]
structure A2i (P:Program) (ρ':Ren) (w:World) (wd:Nat) (bh:Beh) (gs:List Nat) (y':Value) (rows2:List (List U)) (new':List Value):Prop where
 len:∀ wd',(Builtin.lenOf y').run P wd'=.ok rows2.length wd'
 first:∀ wd':World,wd'.heap=w.heap->(Builtin.firstCells wd rows2.length y').run P wd'=.ok ⟨new'⟩ wd'
 size:new'.length=rows2.length*wd
 flat:new'.all cR=true
 rows:∀ R,(∀ b ∈ gs,∀ l,ρ' b=some l->Sub l.G R)->T5 R rows2 wd ⟨new'⟩ 0
 ev:∀ c nul rows,Ora.env c=.seq nul wd rows->evU (gD wd (hole c (10+wd)) bh).1 ((gD wd (hole c (10+wd)) bh).2.map (E7 Ora.env))=qT nul wd rows rows2
def KE{R:Nat->Option Obj}(h:y8 R us vs):vs.all cR=true:=by
 refine D7.2 fun v c=>?_
 obtain⟨j,b,e⟩:=bH c;have hu:j<us.length:=by rw[h.1];exact b
 exact qN (h.2 j us[j] v (A7 hu) (by rw[A7 b,e]))
def A1Z{td:Td}(M:GS P td){e:TypeId}{wd:Nat}{y y':Value}{bh:Beh}{gs:I9}(h:HR P base ρ m.H w)(p:A7G td P m e wd y=some (bh,gs,sure,m'))(hf:M8 ρ m.n m'.hi)(O:VR ρ y y')(hS:Sat m'.lg)(az:0<wd)(S:I4 P e=some wd) :
  ∃ ρ' d new',St P base ρ ρ' m m' w w/\m.lg.le m'.lg/\bQ ρ m m'/\(∀ b ∈ gs,Hp.get m'.H b=some .frz/\∃ l,ρ' b=some l)/\A2i P ρ' w wd bh gs y' d new'/\(sure=true->d≠[]):=by
 unfold A7G at p;split at p
 .cases p;cases V5 O;refine⟨ρ,[],[],St.refl h,.refl _,.refl,fun b G=>(by cases G),⟨fun _=>rfl,fun _ _=>rfl,by simp,rfl,fun R _=>.nil,fun c g rows t=>?_⟩,fun h=>by cases h⟩;show evU (.snoc wd) [Ora.env c]=_;rw[t];show(if wd=wd/\wd≠0 then(match bF wd (([]:List U).length / wd) []with|some r=>qT g wd rows r|none=>.none)else .none)=_;rw[A4 ⟨rfl,A0⟩,E0,Nat.zero_div];rfl
 .rename_i a n c;split at p
  .rename_i cs ts hr ay;split at p
   .rename_i xs aw m2 T;cases p;have Y:iS m wd (.slice (some a) n c)=some (n,cs):=by simp only[iS,hr]
    obtain⟨f1,new',f2,f3⟩:=zZ h Y O;obtain⟨ρ2,C,N,Q,B,W,J⟩:=mQ M h T hf f2 hS;have V:ts.length=wd:=by have:=mV ay;rw[S]at this;exact(A9 this).symm
    have F:(xs.map (E7 Ora.env)).length=n*wd:=by
     have:=G2 List.length W;rw[H3,DX,V]at this;exact this
    obtain⟨d,E⟩:=tU (wd:=wd) n (xs.map (E7 Ora.env)) F;obtain⟨g1,g2,g3,g4⟩:=sP E;refine⟨ρ2,d,new',C,N,Q,B,⟨fun q=>by rw[g1];exact f1 q,fun q D=>by rw[g1];exact f3 q D,?_,?_,fun R hR=>sZ (J R hR) E,fun c g rows t=>?_⟩,fun hs=>?_⟩
    .have:=(J (fun k=>w.heap[k]?) (fun b G l hl k o Z=>by
      obtain⟨K,_⟩:=B b G;exact(C.hr.atl hl K).1.2 k o Z)).1
     rw[<- this,F,g1]
    .exact KE (J (fun k=>w.heap[k]?) (fun b G l hl k o Z=>by
      obtain⟨K,_⟩:=B b G;exact(C.hr.atl hl K).1.2 k o Z))
    .show evU (.snoc wd) (Ora.env c::xs.map (E7 Ora.env))=_;rw[t];show(if wd=wd/\wd≠0 then(match bF wd ((xs.map (E7 Ora.env)).length / wd) (xs.map (E7 Ora.env))with|some r=>qT g wd rows r|none=>.none)else .none)=_;rw[A4 ⟨rfl,A0⟩,F,cK _ az,E]
    .have:0<n:=A2 hs;intro he;subst he;simp at g1;omega
   .cases p
  .cases p
 .split at p
  .rename_i x b m2 T;cases p;obtain⟨ρ2,l,C,N,Q,B,W,J,e7⟩:=M.ok h T hf O hS;obtain⟨ax,f,d,K,q2⟩:=kH B W A0;have X:f=wd:=A0;subst X;have hG:=(C.hr.atl N Q).1.2;rw[K]at B;have L:∀ c g rows,Ora.env c=.seq g f rows->evU (gD f (hole c (10+f)) (.rows x)).1 ((gD f (hole c (10+f)) (.rows x)).2.map (E7 Ora.env))=qT g f rows d:=fun c g rows t=>by
    show evU (.cat f) [Ora.env c,E7 Ora.env x]=_;rw[t,K];simp[evU]
   have A:∀ b' ∈ [b],Hp.get m'.H b'=some .frz/\∃ l,ρ2 b'=some l:=fun b' I=>by
    rcases B7.1 I with rfl|I
    .exact⟨Q,l,N⟩
    .cases I
   rcases cS B with⟨rfl,rfl,rfl⟩|⟨rfl,a,c,rfl,t⟩
   .exact⟨ρ2,[],[],C,J,e7,A,⟨fun _=>rfl,fun _ _=>rfl,by simp,rfl,fun R _=>.nil,L⟩,fun h=>by cases h⟩
   .obtain⟨_,new',g1,g2,g3,g4⟩:=yP (w:=w) B hG;refine⟨ρ2,d,new',C,J,e7,A,⟨fun _=>rfl,fun q D=>?_,g1,g2,fun R hR=>g3.mono (hR b (.head _) l N),L⟩,fun h=>by cases h⟩;rw[show Builtin.firstCells f d.length (.slice (some a) d.length c)=loadCells a (d.length*f)from rfl];exact pX g1 fun j v' hj=>by rw[eM D];exact g4 j v' hj
  .cases p
 .obtain⟨h1,p⟩:=A6 p;obtain⟨h2,h3⟩:=C5 h1;have h4:=A1 h2;have h5:=A1 h3;cases p;subst h5;obtain⟨s,rfl,f1⟩:=eS O h4;refine⟨ρ,oC s,U8 s,St.refl h,.refl _,.refl,fun b G=>(by cases G),⟨fun _=>?_,fun q _=>?_,by simp[oC,U8],?_,fun R _=>RC s,fun c g rows t=>?_⟩,fun h=>by cases h⟩
  .rw[lO];rfl
  .rw[lO];have e:((ByteArray.extract ⟨⟨s⟩⟩ 0 s.length).data.map fun b=>Value.int .u8 b.toNat)=⟨U8 s⟩:=by
    rw[kW];apply L3;simp[U8]
   show(pure ((ByteArray.extract ⟨⟨s⟩⟩ 0 s.length).data.map fun b=>Value.int .u8 b.toNat):Sem r7).run P q=_;rw[e];rfl
  .refine D7.2 fun v hv=>?_
   unfold U8 at hv;obtain⟨b,_,rfl⟩:=U2.1 hv;rfl
  .show evU .cats [Ora.env c,E7 Ora.env y]=_;rw[t,f1];simp[evU]
end
end
section
open Go
variable [Ora]
section
variable {P:Program} {base:Nat} {ρ ρ':Ren} {m m':Mem} {w w':World}
def Sub.trans{A B C:Nat->Option Obj}(h:Sub A B)(k:Sub B C):Sub A C:=fun q o b=>k q o (h q o b)
structure A7h (P:Program) (base:Nat) (ρ:Ren) (m:Mem) (w:World) (e:TypeId) (wd c:Nat) (gs:List Nat) (old:Option Nat) (x':Value):Prop where
 ex:∃ nul rows,Ora.env c=.seq nul wd rows/\((nul=true/\rows=[]/\x'=.slice none 0 0/\(∀ b,old=some b->∃ ab l,b<=J0/\Hp.get m.H b=some ab/\ab.rw=true/\ρ b=some l/\l.on=false)) ∨
  (nul=false/\∃ b ab l cap C fz,old=some b/\b<=J0/\Hp.get m.H b=some ab/\ab.rw=true/\ρ b=some l/\l.on=true/\x'=.slice (some ⟨l.blk,l.sh,none⟩) rows.length cap/\w.heap[l.blk]? = some (.cells C e fz) /\
    rows.length<=cap/\l.sh+cap*wd<=C.size/\(∀ i,i<C.size->¬ (fz.1<=i/\i<fz.2))/\∀ R,(∀ b ∈ gs,∀ l,ρ b=some l->Sub l.G R)->T5 R rows wd C l.sh))
def VF{td:Td}(aj:GS P td){e:TypeId}{wd c:Nat}{x x':Value}{gs:I9}{old:Option Nat}(h:HR P base ρ m.H w)(d:KZ td P m e wd x=some (c,gs,old,m'))(hf:M8 ρ m.n m'.hi)(hx:VR ρ x x')(hS:Sat m'.lg)(ag:0<wd)(k:I4 P e=some wd) :
  ∃ ρ',St P base ρ ρ' m m' w w/\m.lg.le m'.lg/\bQ ρ m m'/\A7h P base ρ' m' w e wd c gs old x':=by
 unfold KZ at d;split at d
 .rw[S9]at d;simp only[hole]at d;cases d;cases V5 hx;obtain⟨q,e2,_⟩:=oK hS (.refl _);refine⟨ρ,St.wLg h _,p7,bQ.lg _,⟨true,[],q,.inl ⟨rfl,rfl,rfl,fun b hb=>by cases hb⟩⟩⟩
 .rename_i b i tg;split at d
  .rename_i c0 tc T g S;obtain⟨h1,d⟩:=A6 d;obtain⟨h1,M⟩:=C5 h1;obtain⟨h1,h3⟩:=C5 h1;obtain⟨M,E⟩:=C5 M;have h1:=A1 h1;have h3:=A1 h3;have M:=A1 M;have E:=A2 E;cases d;subst M;obtain⟨Y,bz⟩:=gP hx;rcases Y with⟨l,ao,g1,g2,g3,rfl⟩|⟨l,ao,al,g1,g2,g3,g4,bw,rfl⟩
   .obtain⟨N,inf,q,e2,e3,f⟩:=SqR.ex (h.atl g1 S).1;rcases f with⟨_,f⟩|⟨f,_⟩
    .have:N=wd:=A0;subst this;refine⟨ρ,St.refl h,.refl _,.refl,⟨true,[],f,.inl ⟨rfl,rfl,rfl,fun b' aa=>?_⟩⟩⟩;cases aa;exact⟨_,l,E,S,rfl,g1,g2⟩
    .rw[g2]at f;cases f
   .obtain⟨N,inf,q,e2,e3,f⟩:=SqR.ex (h.atl g1 S).1;rcases f with⟨f,_⟩|⟨_,f⟩
    .rw[g2]at f;cases f
    .obtain⟨C,fz,T',rows,lg,f1,f2,f3,f4,f5,f6,f7,f8,f9⟩:=f;have:N=wd:=A0;subst this;obtain⟨rfl,f10⟩:=f9 rfl;exact⟨ρ,St.refl h,.refl _,.refl,⟨false,rows,f2,.inr ⟨rfl,b,_,l,l.cap,C,fz,rfl,E,S,rfl,g1,g2,by rw[f3],f1,A0,f5,f10,fun R hR=>⟨f6,fun r row j u v q1 q2 q3=>(f8 r row j u v q1 q2 q3).mono (hR g (.head _) lg f7)⟩⟩⟩⟩
  .cases d
 .rename_i b n c0;split at d
  .rename_i cs T0 br ts S af;obtain⟨hq,p⟩:=A6 d;obtain⟨ae,ad⟩:=C5 hq;have h1:=A1 ae;clear d;split at p
   .rename_i xs bu m1 hd;split at p
    .rename_i bt T W;obtain⟨Q,F⟩:=A6 p;clear p;obtain⟨Q,E⟩:=C5 Q;have h3:=A1 Q;have E:=A2 E;subst h3;rw[S9]at F;simp only[hole]at F;cases F;have ak:M8 ρ m.n m1.hi:=by simpa using hf
     have ar:Sat m1.lg:=V3.le hS p7;obtain⟨l,cap,t,bx,ai,an⟩:∃ l cap,ρ b=some l/\n<=cap/\(cap=n∨cap=l.cap)/\x'=.slice (some ⟨l.blk,0+l.sh,none⟩) n cap:=by
      rcases(K6 _ _).mp ad with y|y
      .obtain⟨G,I⟩:=C5 y;have G:=A1 G;have I:c0<R5:=A2 I;rcases U4 hx with⟨l,t,_,K,rfl⟩|⟨l,c',t,_,ah,X,V,rfl⟩|⟨a',c',_,_,y,_⟩
       .exact⟨l,c0,t,A0,.inl G,rfl⟩
       .omega
       .omega
      .have y:=A1 y;rcases U4 hx with⟨l,t,_,K,rfl⟩|⟨l,c',t,_,ah,X,V,rfl⟩|⟨a',c',_,_,I,_⟩
       .omega
       .exact⟨l,c',t,X,.inr (V y rfl),rfl⟩
       .omega
     obtain⟨⟨av,C,fz,T1,f1,f2,_⟩,_⟩:=h.atl t S;obtain⟨cs',f4,f5⟩:=gV (ρ:=ρ) (C:=C) (cs:=cs) (s:=l.sh) f2;obtain⟨aq,q,e2,e3,f,e5,e6⟩:=mQ aj h hd ak f4 ar;obtain⟨⟨_,C1,bs,T2,g1,g2,g3⟩,_⟩:=q.hr.atl (q.ext _ _ t) W;rw[f1]at g1;cases g1;obtain⟨rfl,g4,g5⟩:=g3 rfl;have A:=mV af;rw[k]at A;have K:ts.length=wd:=(A9 A).symm;have Z:(xs.map (E7 Ora.env)).length=n*wd:=by
      have:=G2 List.length e5;rw[H3,DX,K]at this;exact this
     obtain⟨rows,O⟩:=tU (wd:=wd) n (xs.map (E7 Ora.env)) Z;obtain⟨q1,q2,q3,q4⟩:=sP O;obtain⟨d1,d2,_⟩:=oK hS (.refl _);have y:Ora.env m1.lg.nx=.seq false wd rows:=by
      rw[d1];show(if wd=0 then U.none else match bF wd ((xs.map (E7 Ora.env)).length / wd) (xs.map (E7 Ora.env))with|some r=>.seq false wd r|none=>.none)=_;rw[A3 A0,Z,cK _ ag,O]
     have az:cs'.length=n*wd:=by rw[<- f4.1];exact h1
     obtain⟨inf,D,B⟩:∃ inf,P.info? T1=some inf/\inf.size=wd:=by
      unfold I4 at k;cases hi:P.info? T1 with
      | none=>rw[hi]at k;cases k
      | some inf=>rw[hi]at k;exact⟨inf,rfl,A9 k⟩
     have J:l.sh+cap*wd<=C.size:=by
      rcases ai with rfl|rfl
      .rcases Z1 (cap*wd)with h0|h0
       .rw[h0]
        have:=g5 inf D;rw[B]at this;omega
       .have L:cap*wd-1<cs'.length:=A0
        have:=f5 (cap*wd-1) cs'[cap*wd-1] (A7 L)
        have:=(E4.1 this).1;omega
      .have:=g5 inf D;rw[B]at this;exact this.1
     have aw:=St.wLg q.hr (jM m1 (10+wd) (.mk wd) xs);refine⟨aq,St.trans (by simpa using hf) q aw,e2.trans p7,fun j lj hj ay=>by rw[oV];exact e3 j lj hj ay,⟨false,rows,y,.inr ⟨rfl,b,_,l,cap,C,fz,rfl,E,by rw[oV];exact W,rfl,q.ext _ _ t,av,by rw[an,q1,G0],f1,A0,J,g4,fun R hR=>?_⟩⟩⟩;obtain⟨r1,r2⟩:=sZ (e6 R hR) O;refine⟨r1,fun r row j u v a1 a2 a3=>r2 r row j u v a1 a2 ?_⟩;have hq:r*wd+j<cs'.length:=by
      have au:=(B3.1 a1).1;have ax:=(B3.1 a2).1;rw[r1 _ (E6 a1)]at ax;have M:(r+1)*wd<=rows.length*wd:=G8 wd au;rw[J4]at M;rw[az,<- q1];omega
     have:=f5 (r*wd+j) cs'[r*wd+j] (A7 hq);rw[show l.sh+r*wd+j=l.sh+(r*wd+j) by omega,this]at a3;have a3:=A9 a3;show(Array.mk cs')[0+r*wd+j]? = some v;rw[M3,show 0+r*wd+j=r*wd+j by omega,A7 hq,a3]
    .cases p
   .cases p
  .cases d
 .cases d
end
end
end Go.Sx
