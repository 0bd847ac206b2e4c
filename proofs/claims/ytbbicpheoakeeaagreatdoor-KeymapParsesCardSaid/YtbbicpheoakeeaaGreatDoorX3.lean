import Derived.Test.YtbbicpheoakeeaaGreatDoorX2
set_option linter.all false
set_option maxRecDepth 100000
set_option maxHeartbeats 4000000
namespace Go.Sx
variable {op:LOp}{s ty:TypeId}{hi i j o tg:Nat}{i' z z':Value}{u:U}{kh kk kl:IntKind}{hi' lo lo' mx mx':R2}{hs r' vs vs' xs:D3}{tys:List TypeId}{a:Addr}{m1:Mem}{row us:List U}{ts:H9}{cl sure:Bool}
section
open Go
variable [Ora]
section
variable {P:Program} {base:Nat} {ρ:Ren} {m m':Mem} {w:World}
def pk(k:IntKind)(n:Int):J0 (.int k n)=true:=rfl
def ZC{op:UnOp}{x x' v:Value}(h:JU m op x=some (v,m'))(hx:VR ρ x x')(l:Sat m'.lg)(w:World):∃ r,(Op.unary op x').run P w=.ok r w/\VR ρ v r:=by
 unfold JU at h;simp only at h;split at h
 .obtain⟨h1,h⟩:=A3 h;obtain⟨b,rfl,e⟩:=iI hx (A0 h1);obtain⟨u,c,g,r,d,f,_⟩:=N0 h l;simp only[C5,G1,e,evU,ev1,unM,ofV]at c;subst c;cases d;exact⟨_,(OM (P:=P) (ρ:=ρ) (op:=.not) (x:=.bool b) (v:=.bool !b) rfl (.pure rfl) w).1,f ρ⟩
 .obtain⟨h1,h⟩:=A3 h;obtain⟨k,n,rfl,e,_⟩:=N1 hx (A1 h1);obtain⟨u,c,g,r,d,f,p⟩:=N0 h l;simp only[C5,G1,e,evU,ev1]at c;subst c;obtain⟨r',g1,g2⟩:=GS (by rw[g];exact p);rw[d]at g2;cases g2;exact⟨_,(OM (P:=P) (ρ:=ρ) g1 (.pure (pk k n)) w).1,f ρ⟩
def OV{t:TypeId}{x x' v:Value}(h:qW P m s t x=some (v,m'))(hx:VR ρ x x')(g:Sat m'.lg)(w:World):∃ r,(convert s t x').run P w=.ok r w/\VR ρ v r:=by
 unfold qW at h;split at h
 .rename_i j k hs c;obtain⟨h1,h⟩:=A3 h;obtain⟨y,n,rfl,e,_⟩:=N1 hx (A1 h1);obtain⟨u,d,p,r,f,l,q⟩:=N0 h g;simp only[C5,G1,e,evU]at d;subst d;cases f;exact⟨_,by simp[convert,A4,D2 hs,D2 c,Result.andThen,Conv.intToInt],l ρ⟩
 .rename_i hs c;obtain⟨h1,h⟩:=A3 h;cases h;obtain⟨b,rfl,e⟩:=s8 hx (A0 h1);exact⟨_,by simp[convert,A4,D2 hs,D2 c,Result.andThen],hx⟩
 .cases h
def jH{t:Nat}:∀ {cs:D3},n7 t cs=true->∀ {i:Nat} {v:Value},cs[i]? = some v->G8 v=t
 | [],_,i,v,h=>by simp at h
 | c::r,hs,i,v,h=>by
   obtain⟨h1,b⟩:=B8 (show(Nat.beq (G8 c) t && n7 t r)=true from hs);cases i with
   | zero=>simp at h;subst h;exact A0 h1
   | succ i=>exact jH b (by simpa using h)
def ZV{t e:TypeId}{n:Nat}{cs:X4}{x' i v:Value}(hu:P.underlying t=some (.array n e))(y:bE P e=some false)(f:H6 P e=some 1)(E:cs.toList.length=n)(g:n7 tg cs.toList=true)(x:tg<10)
  (l:G8 i<8) (h:U6 m tg .sel (i::cs.toList)=some (v,m')) (hx:VR ρ (.agg cs) x') (hi:VR ρ i i') (A:Sat m'.lg) (w:World):∃ r,(Instr.index t x' i').run P w=.ok r w/\VR ρ v r:=by
 obtain⟨k,z,rfl,e,_⟩:=N1 hi l;obtain⟨u,c,D,r,d,B,F⟩:=N0 h A;simp only[C5,e]at c;cases z with
 | negSucc z=>simp only[evU]at c;subst c;cases d
 | ofNat z =>
   simp only[evU]at c;by_cases p:z<cs.toList.length
   .have b:cs.toList[z]? = some cs.toList[z]:=A5 p;have q:=jH g b;have hm:mK P t (.agg cs) (.int k (.ofNat z))=some cs.toList[z]:=by
     have C:Nat.blt z n=true:=C7 A2;simp only[mK,hu,f,C,E6,sC,y,Nat.mul_one];exact b
    obtain⟨v',g1,g2⟩:=uL (P:=P) hm hx (.pure rfl) w;obtain⟨f1,_⟩:=aV g2 A2;have:u=D9 Ora.env cs.toList[z]:=by
     rw[<- c,B2,F8,b];rfl
    rw[this,f1]at d;cases d;exact⟨_,g1,B ρ⟩
   .rw[B2,U3 (by simp at p ⊢;omega)]at c;subst c;cases d
def DJ{e:TypeId}(h:Nat.beq (m9.sizeD P e) 1=true):H6 P e=some 1:=by
 have h:=A0 h;unfold m9.sizeD at h;split at h
 .rename_i n b;rw[b,h]
 .cases h
def JX{t:TypeId}{x x' i v:Value}(h:m9 P m t x i=some (v,m'))(hx:VR ρ x x')(hi:VR ρ i i')(g:Sat m'.lg)(w:World):∃ r,(Instr.index t x' i').run P w=.ok r w/\VR ρ v r:=by
 unfold m9 at h;cases p:!(Nat.blt (G8 i) 8)with
 | true=>rw[p]at h;cases h
 | false =>
   have d:G8 i<8:=by
    have:Nat.blt (G8 i) 8=true:=by simpa using p
    exact A1 this
   rw[p]at h;simp only[E0]at h;split at h
   .rename_i hu;obtain⟨h1,h⟩:=A3 h;obtain⟨s,rfl,f1⟩:=s8 hx (A0 h1);obtain⟨k,z,rfl,f2,_⟩:=N1 hi d;obtain⟨u,c,A,r,f,q,B⟩:=N0 h g;simp only[C5,G1,f1,f2]at c;cases z with
    | negSucc z=>simp only[evU]at c;subst c;cases f
    | ofNat z =>
      simp only[evU]at c;split at c
      .rename_i b y;subst c;cases f;have hm:mK P t (.string ⟨⟨s⟩⟩) (.int k (.ofNat z))=some (.int .u8 b.toNat):=by
        simp only[mK,hu,y]
       obtain⟨v',g1,g2⟩:=uL (P:=P) (ρ:=ρ) hm (.pure rfl) (.pure rfl) w;cases J9 g2;exact⟨_,g1,q ρ⟩
      .subst c;cases f
   .rename_i n e hu;split at h
    .rename_i cs k he;obtain⟨h1,h⟩:=A3 h;obtain⟨h1,h3⟩:=B8 h1;obtain⟨h1,l⟩:=B8 h1;exact ZV hu (by simp[bE,he]) (DJ h3) (A0 h1) l (by have:=M4 k;omega) d h hx hi g w
    .rename_i cs he;obtain⟨h1,h⟩:=A3 h;obtain⟨h1,h3⟩:=B8 h1;obtain⟨h1,l⟩:=B8 h1;exact ZV hu (by simp[bE,he]) (DJ h3) (A0 h1) l A2 d h hx hi g w
    .cases h
   .cases h
def OY{t:TypeId}(hu:P.underlying t=some .string){s:List UInt8}{l h:Int}{r:Value}(b:KA s l h=u)(c:toV u=some r):dQ P t (.string ⟨⟨s⟩⟩) (some (.int kl l)) (some (.int kh h)) none=some r:=by
 unfold KA at b;split at b
 .rename_i l h;split at b
  .rename_i hh;subst b;cases c;have e:Nat.ble h (ByteArray.size ⟨⟨s⟩⟩)=true:=C7 hh.2;have d:Nat.ble l h=true:=C7 hh.1;simp only[dQ,hu,U7,e,d,E6]
  .subst b;cases c
 .subst b;cases c
def JV{t:TypeId}{x x' v:Value}{hi:R2}(h:lN P m t x lo hi mx=some (v,m'))(hx:VR ρ x x')(f:OR ρ lo lo')(g:OR ρ hi hi')(D:OR ρ mx mx')(C:Sat m'.lg)(w:World) :
  ∃ r,(Instr.sliceAt t x' lo' hi' mx').run P w=.ok r w/\VR ρ v r:=by
 have c:∀ {o:R2},OR ρ none o->o=none:=fun{o} h=>by cases o<;>first|rfl|exact h.elim
 have d:∀ {y:Value} {o:R2},OR ρ (some y) o->∃ H,o=some H/\VR ρ y H:=fun{y o} h=>by cases o<;>first|exact h.elim|exact⟨_,rfl,h⟩
 unfold lN at h;split at h
 .rename_i hu;cases c D;obtain⟨h1,h⟩:=A3 h;obtain⟨s,rfl,f1⟩:=s8 hx (A0 h1);have B:∀ {y:Value},VR ρ (.string ⟨⟨s⟩⟩) y->y=.string ⟨⟨s⟩⟩:=fun h=>V2 h
  split at h
  .cases h;cases c f;cases c g;have hm:dQ P t (.string ⟨⟨s⟩⟩) none none none=some (.string ⟨⟨s⟩⟩):=by
    have e:ByteArray.size ⟨⟨s⟩⟩=s.length:=rfl;simp[dQ,hu,U7,e]
   obtain⟨v',g1,g2⟩:=iJ (P:=P) (ρ:=ρ) (lo':=none) (hi':=none) (mx':=none) hm (.pure rfl) trivial trivial trivial w;cases V2 g2;exact⟨_,g1,hx⟩
  .obtain⟨p,h⟩:=A3 h;obtain⟨l',rfl,F⟩:=d f;cases c g;obtain⟨k,z,rfl,f2,_⟩:=N1 F (A1 p);obtain⟨u,n,G,r,l,A,I⟩:=N0 h C;simp only[C5,G1,f1,f2,evU]at n;have hm:=OY (P:=P) (kl:=k) (kh:=.i64) hu n l;have q:dQ P t (.string ⟨⟨s⟩⟩) (some (.int k z)) none none=some r:=by
    rw[<- hm];have e:ByteArray.size ⟨⟨s⟩⟩=s.length:=rfl;have b:Nat.ble s.length s.length=true:=C7 (A7 _);have E:((s.length:Nat):Int)=Int.ofNat s.length:=rfl;simp only[dQ,hu,U7,e,E,b,E6]
   obtain⟨v',g1,g2⟩:=iJ (P:=P) (ρ:=ρ) (lo':=some (.int k z)) (hi':=none) (mx':=none) q (.pure rfl) (VR.pure rfl:VR ρ _ _) trivial trivial w;have:VR ρ r v':=g2;have hp:=iG l;cases g2 with
   | pure _=>exact⟨_,g1,A ρ⟩
   | _=>simp[J0,ixp,Go.Sx.dat,Go.Sx.clp,Go.Sx.own,Go.Sx.dpt,Go.Sx.opt,Go.Sx.yv,Go.Sx.sdt]at hp
  .obtain⟨p,h⟩:=A3 h;obtain⟨J,rfl,hh⟩:=d g;cases c f;obtain⟨k,z,rfl,f2,_⟩:=N1 hh (A1 p);obtain⟨u,n,G,r,l,A,I⟩:=N0 h C;have f0:D9 Ora.env (.int .i64 0)=.int .i64 0:=rfl;simp only[C5,G1,f1,f2,f0,evU]at n;have hm:=OY (P:=P) (kl:=.i64) (kh:=k) hu n l;have q:dQ P t (.string ⟨⟨s⟩⟩) none (some (.int k z)) none=some r:=by
    rw[<- hm];have E:(0:Int)=Int.ofNat 0:=rfl;cases z with
    | negSucc z=>simp only[dQ,hu,U7]
    | ofNat z =>
      have K:Nat.ble 0 z=true:=C7 (dJ _);simp only[dQ,hu,U7,E];cases Nat.ble z (ByteArray.size ⟨⟨s⟩⟩)<;>simp[K]
   obtain⟨v',g1,g2⟩:=iJ (P:=P) (ρ:=ρ) (lo':=none) (hi':=some (.int k z)) (mx':=none) q (.pure rfl) trivial (VR.pure rfl:VR ρ _ _) trivial w;have hp:=iG l;cases g2 with
   | pure _=>exact⟨_,g1,A ρ⟩
   | _=>simp[J0,ixp,Go.Sx.dat,Go.Sx.clp,Go.Sx.own,Go.Sx.dpt,Go.Sx.opt,Go.Sx.yv,Go.Sx.sdt]at hp
  .obtain⟨p,h⟩:=A3 h;obtain⟨p,h3⟩:=B8 p;obtain⟨J,rfl,hh⟩:=d g;obtain⟨l',rfl,F⟩:=d f;obtain⟨k,z,rfl,f2,_⟩:=N1 F (A1 p);obtain⟨j,y,rfl,f3,_⟩:=N1 hh (A1 h3);obtain⟨u,n,G,r,l,A,I⟩:=N0 h C;simp only[C5,G1,f1,f2,f3,evU]at n;have hm:=OY (P:=P) (kl:=k) (kh:=j) hu n l;obtain⟨v',g1,g2⟩:=iJ (P:=P) (ρ:=ρ) (lo':=some (.int k z)) (hi':=some (.int j y)) (mx':=none) hm (.pure rfl) (VR.pure rfl:VR ρ _ _) (VR.pure rfl:VR ρ _ _) trivial w;have hp:=iG l;cases g2 with
   | pure _=>exact⟨_,g1,A ρ⟩
   | _=>simp[J0,ixp,Go.Sx.dat,Go.Sx.clp,Go.Sx.own,Go.Sx.dpt,Go.Sx.opt,Go.Sx.yv,Go.Sx.sdt]at hp
 .cases h
def CH{b:Builtin}{ks:Array Bool}{v:Value}(hr:HR P base ρ m.H w)(h:fA P m b vs tys=some (v,m'))(hx:LR ρ vs vs')(p:Sat m'.lg) :
  ∃ s:Sem Value,builtin b ⟨tys⟩ ty ks ⟨vs'⟩=(do pure (.value (<- s)))/\∃ r,s.run P w=.ok r w/\VR ρ v r:=by
 unfold fA at h;split at h
 .obtain⟨x',r1,rfl,h1,n⟩:=hx.tail;cases n.nil_inv;split at h
  .rename_i hu;obtain⟨h3,h⟩:=A3 h;obtain⟨s,rfl,f1⟩:=s8 h1 (A0 h3);obtain⟨u,e,x,r,g,l,y⟩:=N0 h p;simp only[C5,G1,f1,evU]at e;subst e;cases g;rename_i t rest _ _;have hm:A11 P m t (.string ⟨⟨s⟩⟩)=some (.int .i64 s.length):=by simp[A11,hu]
   obtain⟨g1,_⟩:=UA (ρ:=ρ) (ty:=ty) (tys:=rest) hr hm (.pure rfl);exact⟨_,rfl,_,g1,l ρ⟩
  .cases h
 .obtain⟨x',r1,rfl,h1,n⟩:=hx.tail;obtain⟨C,D,rfl,h3,q⟩:=n.tail;cases q.nil_inv;obtain⟨d,h⟩:=A3 h;obtain⟨d,f⟩:=B8 d;have d:=A1 d;have f:=A0 f;obtain⟨k,a,rfl,f1,B⟩:=N1 h1 d;obtain⟨j,c,rfl,f2,A⟩:=N1 h3 (f▸d);obtain⟨u,e,x,r,g,l,y⟩:=N0 h p;simp only[C5,G1,f1,f2,evU]at e;subst e;cases g;obtain⟨g1,_⟩:=TT (P:=P) (ρ:=ρ) (ty:=ty) (tys:=⟨tys⟩) (vs:=[.int k a,.int j c]) rfl (.cons (.pure rfl) (.cons (.pure rfl) .nil)) w;exact⟨_,rfl,_,g1,l ρ⟩
 .obtain⟨x',r1,rfl,h1,n⟩:=hx.tail;obtain⟨C,D,rfl,h3,q⟩:=n.tail;cases q.nil_inv;obtain⟨d,h⟩:=A3 h;obtain⟨d,f⟩:=B8 d;have d:=A1 d;have f:=A0 f;obtain⟨k,a,rfl,f1,B⟩:=N1 h1 d;obtain⟨j,c,rfl,f2,A⟩:=N1 h3 (f▸d);obtain⟨u,e,x,r,g,l,y⟩:=N0 h p;simp only[C5,G1,f1,f2,evU]at e;subst e;cases g;obtain⟨g1,_⟩:=TR (P:=P) (ρ:=ρ) (ty:=ty) (tys:=⟨tys⟩) (vs:=[.int k a,.int j c]) rfl (.cons (.pure rfl) (.cons (.pure rfl) .nil)) w;exact⟨_,rfl,_,g1,l ρ⟩
 .cases h
def VY{v:Value}{k:IntKind}{n:Int}(h:D9 Ora.env v=.int k n):qC Ora.env v=some n:=by
 cases v with
 | complex k i t =>
   cases k with
   | f64 =>
     have h:Ora.env i=.int _ n:=h;simp only[qC,h]
   | f32=>cases h
 | int j n=>cases h;rfl
 | _=>cases h
def IW{v:Value}{n:Int}(h:qC Ora.env v=some n):∃ k,D9 Ora.env v=.int k n:=by
 cases v with
 | complex k i t =>
   cases k with
   | f64 =>
     simp only[qC]at h;split at h
     .rename_i k z he;cases h;exact⟨k,he⟩
     .cases h
   | f32=>cases h
 | int j n=>cases h;exact⟨j,rfl⟩
 | _=>cases h
def UO{s n:Nat}{i v:Value}(h:XP m a s n i=some (v,m'))(hi:VR ρ i i')(g:Sat m'.lg):v=ixp a s i n/\∃ k z,i'=.int k (.ofNat z)/\z<n/\qC Ora.env i=some (.ofNat z):=by
 unfold XP at h;cases f:!(Nat.blt (G8 i) 8)with
 | true=>rw[f]at h;cases h
 | false =>
   have e:G8 i<8:=by
    have:Nat.blt (G8 i) 8=true:=by simpa using f
    exact A1 this
   rw[f]at h;simp only[E0]at h;split at h
   .rename_i b H k W hh lg t;split at h
    .rename_i x l;cases h;obtain⟨u,p,A,r,c,q,_⟩:=N0 t (S3.le g (fU l));have d:=mV (ρ:=ρ) l (q ρ) g;subst d;obtain⟨y,z,rfl,f1,_⟩:=N1 hi e;have f0:D9 Ora.env (.int .i64 (.ofNat n))=.int .i64 (.ofNat n):=rfl;simp only[C5,G1,f1,f0,evU]at p;subst p;have c:(decide (0<=z) && decide (z<Int.ofNat n))=true:=by
      have:=A9 c;exact Value.bool.inj this
     simp only[G9,decide_eq_true_eq]at c;cases z with
     | negSucc z=>exact absurd c.1 (by simp)
     | ofNat z=>exact⟨rfl,y,z,rfl,by have:=c.2;simpa using this,VY f1⟩
    .cases h
   .cases h
def CD{t:TypeId}{x x' i v:Value}(h:eY P m t x i=some (v,m'))(hx:VR ρ x x')(hi:VR ρ i i')(q:Sat m'.lg)(w:World):∃ r,(Instr.indexAt t x' i').run P w=.ok r w/\VR ρ v r:=by
 unfold eY at h;split at h
 .rename_i n e a hu;split at h
  .rename_i s hs d;obtain⟨rfl,k,z,rfl,f,he⟩:=UO h hi q;obtain⟨l,y,_,rfl⟩:=P3 hx;have g:Nat.blt z n=true:=C7 f;have hm:Y6 P t (.pointer (some a)) (.int k (.ofNat z))=some (.pointer (some ⟨a.block,a.off+z*s,none⟩)):=by
    simp only[Y6,hu,hs,d,g,E6,cD,E9]
   obtain⟨v',g1,g2⟩:=dE (P:=P) hm hx (.pure rfl) w;obtain⟨l2,b,_,rfl⟩:=P3 g2;have b:ρ a.block=some l2:=b;rw[y]at b;cases b;exact⟨_,g1,.ixp y d he f rfl⟩
  .cases h
 .rename_i e a n c hu;split at h
  .rename_i s hs d;cases p:Nat.beq c (N4+2)with
   | true=>rw[p]at h;cases h
   | false =>
     rw[p]at h;obtain⟨rfl,k,z,rfl,f,he⟩:=UO h hi q;have g:Nat.blt z n=true:=C7 f;have hm:Y6 P t (.slice (some a) n c) (.int k (.ofNat z))=some (.pointer (some ⟨a.block,a.off+z*s,none⟩)):=by
      simp only[Y6,hu,hs,d,g,E6,cD,E9]
     obtain⟨v',g1,g2⟩:=dE (P:=P) hm hx (.pure rfl) w;obtain⟨l2,b,_,rfl⟩:=P3 g2;have b:ρ a.block=some l2:=b;exact⟨_,g1,.ixp b d he f rfl⟩
  .cases h
 .cases h
def UQ{s n:Nat}{i v':Value}(h:VR ρ (ixp a s i n) v'):∃ l z,ρ a.block=some l/\a.spot=none/\qC Ora.env i=some (.ofNat z)/\z<n/\v'=.pointer (some ⟨l.blk,a.off+z*s+l.sh,none⟩):=by
 generalize hx:ixp a s i n=x at h;cases h with
 | ixp h hs hi b hv =>
   simp only[ixp,Value.func.injEq,g8,K0,Value.pointer.injEq,D6,Value.int.injEq,lE,true_and,and_true]at hx;obtain⟨rfl,rfl,rfl,rfl⟩:=hx;exact⟨_,_,h,hs,hi,b,hv⟩
 | pure hp=>subst hx;simp[ixp,J0]at hp
 | _=>simp[ixp,Go.Sx.dat,Go.Sx.clp,Go.Sx.own,Go.Sx.dpt,Go.Sx.opt,Go.Sx.yv,Go.Sx.sdt]at hx
def CF{x x' v:Value}(h:eZ P m s x i=some (v,m'))(hx:VR ρ x x')(w:World):∃ r,(Instr.fieldAt s x' i).run P w=.ok r w/\VR ρ v r:=by
 unfold eZ at h;split at h
 .rename_i a k j n;split at h
  .rename_i p hu;split at h
   .rename_i f g c;split at h
    .rename_i z e;cases h;obtain⟨l,y,h1,q,h3,d,rfl⟩:=UQ (n:=n) (s:=k) (i:=j) hx;have hm:dF P s (.pointer (some ⟨a.block,a.off+y*k,none⟩)) i=some (.pointer (some ⟨a.block,a.off+y*k+f.offset,none⟩)):=by
      simp only[dF,hu,g,e,cD,E9]
     obtain⟨v',g1,g2⟩:=mO (P:=P) (ρ:=ρ) hm (.ptr h1) w;obtain⟨l2,b,_,rfl⟩:=P3 g2;have b:ρ a.block=some l2:=b;rw[h1]at b;cases b;refine⟨_,g1,?_⟩;simp only[cD,E9];refine .ixp (a:=⟨a.block,a.off+f.offset,none⟩) h1 rfl h3 d ?_;simp only[Value.pointer.injEq,D6,Addr.mk.injEq,true_and,and_true];omega
    .cases h
   .cases h
  .cases h
 .cases h
def vG{cs:D3}{s:Nat}:∀ {n o:Nat} {l:D3},xQ cs s o n=some l->l.length=n/\∀ z,z<n->cs[o+z*s]? = l[z]?
 | 0,o,l,h=>by cases h;exact⟨rfl,fun z c=>by omega⟩
 | n+1,o,l,h=>by
   unfold xQ at h;split at h
   .rename_i v r hv hr;cases h;obtain⟨h1,b⟩:=vG hr;refine⟨by simp[h1],fun z c=>?_⟩;cases z with
    | zero=>simpa using hv
    | succ z =>
      have:=b z A2;rw[Nat.succ_mul,show o+(z*s+s)=o+s+z*s by omega]
      simpa using this
   .cases h
def vH{cs cs':D3}{s n:Nat}{i:Value}{z:Nat}(he:qC Ora.env i=some (.ofNat z))(q:z<n)(A:LR ρ cs cs'):∀ {k o:Nat} {m m':Mem} {r:D3},cZ m cs s n i o k=some (r,m')->Sat m'.lg ->
  LR ρ r ((cs'.drop (o+z*s)).take k)/\r.length=k
 | 0,o,m,m',r,h,hS=>by cases h;exact⟨by simpa using LR.nil,rfl⟩
 | k+1,o,m,m',r,h,hS=>by
   unfold cZ at h;split at h
   .rename_i v l e;obtain⟨t,h⟩:=A3 h;obtain⟨t,d⟩:=B8 t;have d:G8 v<10:=A1 d;split at h
    .rename_i hh m1 h1;split at h
     .rename_i I m2 y;cases h;obtain⟨p,g⟩:=vH he q A y hS;obtain⟨u,f,F,C,x,D,_⟩:=N0 h1 (S3.le hS (gI y).1);obtain⟨g1,g2⟩:=vG e;have b:=g2 z q;have c:z<(v::l).length:=by rw[g1];exact q
      rw[A5 c]at b;obtain⟨G,f1,f2⟩:=A.get b;have B:=jH t (A5 c);obtain⟨t1,_⟩:=aV f2 A2;obtain⟨H,E⟩:=IW he;simp only[C5,E,evU]at f;have f:u=D9 Ora.env (v::l)[z]:=by
       rw[<- f];show(List.map (D9 Ora.env) (v::l)).getD z .none=_;rw[B2,F8,A5 c];rfl
      rw[f,t1]at x;cases x;refine⟨?_,by simp[g]⟩;have:(cs'.drop (o+z*s)).take (k+1)=C::(cs'.drop (o+1+z*s)).take k:=by
       rw[j9 (B1.1 f1).1,List.take_succ_cons,(B1.1 f1).2,show o+z*s+1=o+1+z*s by omega]
      rw[this];exact .cons (D ρ) p
     .cases h
    .cases h
   .cases h
def TV{t:TypeId}{l:Loc}{z s n k:Nat}{i:Value}{cs:D3}(h:HR P base ρ m.H w)(hr:y9 m a ((n-1)*s+k)=some cs)(f:ρ a.block=some l)(he:qC Ora.env i=some (.ofNat z))(g:z<n)(d:cZ m cs s n i 0 k=some (hs,m'))(e:Sat m'.lg) :
  ∃ rs,LR ρ hs rs/\rs.length=k/\∀ (j:Nat) (v':Value),rs[j]? = some v'->w.cell? ⟨l.blk,a.off+z*s+l.sh+j,none⟩=some v':=by
 obtain⟨r',h1,p,h3⟩:=i6 h hr f;obtain⟨g1,g2⟩:=vH he g h1 d e;rw[F7]at g1;refine⟨_,g1,g1.1▸g2,fun j v' c=>?_⟩;have b:j<k:=by
  have:=(B1.1 c).1;simp at this;omega
 rw[F0 b,I7]at c
 have:=h3 _ v' c;rw[show a.off+z*s+l.sh+j=a.off+l.sh+(z*s+j) by omega];exact this
def OT{t:TypeId}{x x' v:Value}(h:HR P base ρ m.H w)(b:qV P m t x=some (v,m'))(hx:VR ρ x x')(e:Sat m'.lg):∃ r,(Instr.loadAt t x').run P w=.ok r w/\VR ρ v r:=by
 unfold qV at b;split at b
 .rename_i a s i n;obtain⟨l,z,h1,q,h3,f,rfl⟩:=UQ (n:=n) (s:=s) (i:=i) hx;split at b
  .rename_i d;split at b
   .rename_i cs hr;split at b
    .rename_i hh m2 c;cases b;obtain⟨rs,g1,g2,g3⟩:=TV (t:=t) h hr h1 h3 f c e;obtain⟨v',A,rfl,g,p⟩:=g1.tail;refine⟨v',?_,g⟩
     have:=g3 0 v' rfl;simp[Instr.loadAt,Instr.sureAddr,loadVar,A4,cS d,Result.andThen,run_load,show w.cell? ⟨l.blk,a.off+z*s+l.sh,none⟩=some v' from by simpa using this]
    .cases b
   .cases b
  .rename_i y d k;split at b
   .rename_i cs hr;split at b
    .rename_i hh m2 c;cases b;obtain⟨rs,g1,g2,g3⟩:=TV (t:=t) h hr h1 h3 f c e;refine⟨.agg ⟨rs⟩,?_,.agg g1.1 g1.2⟩;simp[Instr.loadAt,Instr.sureAddr,loadVar,A4,cS d,L5 k,Result.andThen,K8 g2 g3]
    .cases b
   .cases b
  .cases b
 .cases b
def A4J{fr:Fr}{g:Operand->Value}{o:Oper}{v:Value}(h:HR P base ρ m.H w)(f:ZE P fr m o.op=some (v,m'))(C:FR ρ fr g o.op)(k:Sat m'.lg):NOk P base ρ m w (execOp g o) v m':=by
 obtain⟨_,lg,rfl⟩:=SA f;have q:St P base ρ ρ m (m.wLg lg) w w:=St.wLg h lg;obtain⟨dst,op,ty,pos,J,F⟩:=o;simp only at f C;have d:∀ {x},x ∈ op.operands.toList->VR ρ (ev fr x) (g x):=fun hx=>C _ hx
 have fin:∀ {s:Sem Value},(∃ r,s.run P w=.ok r w/\VR ρ v r)->NOk P base ρ m w (do pure (.value (<- s))) v (m.wLg lg):=fun{s} ⟨r,h1,G⟩=>NOk.of ⟨r,ρ,w,h1,G,q⟩
 unfold ZE at f;split at f
 .rename_i c a b;have B:=d (x:=c) (by simp[Op.operands]);unfold xO at f;obtain⟨H,n,W,hi,l0⟩:=m;simp only at f;split at f
  .rename_i l1 A;simp only[D6,L9]at f;obtain⟨rfl,f⟩:=f;have p:Sat l1:=by
    have:l1=(Mem.wLg ⟨H,n,W,hi,l0⟩ lg).lg:=by rw[<- f]
    rw[this];exact k
   have:=mV A B p;exact⟨g a,ρ,w,.inl (by simp[execOp,this,asBool]),d (by simp[Op.operands]),q⟩
  .rename_i l1 A;simp only[D6,L9]at f;obtain⟨rfl,f⟩:=f;have p:Sat l1:=by
    have:l1=(Mem.wLg ⟨H,n,W,hi,l0⟩ lg).lg:=by rw[<- f]
    rw[this];exact k
   have:=mV A B p;exact⟨g b,ρ,w,.inl (by simp[execOp,this,asBool]),d (by simp[Op.operands]),q⟩
  .cases f
 .rename_i op t x y K;have hx:=d (x:=x) (by simp[Op.operands]);have l:=d (x:=y) (by simp[Op.operands]);refine fin (s:=do eqGuard op t x y (g x) (g y);binOp op t (g x) (g y)) ?_;split at f
  .rename_i r hr;cases f;exact WF hr hx l k w
  .rename_i hr;exact ZF f hx l hr k w
 .rename_i op t x;exact fin (s:=Op.unary op (g x)) (ZC f (d (by simp[Op.operands])) k w)
 .exact fin (OV f (d (by simp[Op.operands])) k w)
 .rename_i t x lo hi mx;exact fin (s:=Instr.sliceAt t (g x) (lo.map g) (hi.map g) (mx.map g)) (JV f (d (x:=x) (by simp[Op.operands])) (jU (g:=g) fun y l=>d (by simp[Op.operands]at l ⊢;exact .inr (.inl l))) (jU (g:=g) fun y l=>d (by simp[Op.operands]at l ⊢;exact .inr (.inr (.inl l)))) (jU (g:=g) fun y l=>d (by simp[Op.operands]at l ⊢;exact .inr (.inr (.inr l)))) k w)
 .exact fin (JX f (d (by simp[Op.operands])) (d (by simp[Op.operands])) k w)
 .exact fin (CD f (d (by simp[Op.operands])) (d (by simp[Op.operands])) k w)
 .exact fin (CF f (d (by simp[Op.operands])) w)
 .rename_i t x;exact fin (s:=Instr.loadAt t (g x)) (OT h f (d (by simp[Op.operands])) k)
 .rename_i b xs tys;have l1:=dS (ρ:=ρ) (fr:=fr) (g:=g) (xs:=xs.toList) fun x hx=>d (by show x ∈ (#[]++xs:Array Operand).toList;simpa using hx)
  obtain⟨ks,D⟩:∃ ks,execOp g ⟨dst,.call ⟨.builtin b,xs,tys⟩,ty,pos,J,F⟩=builtin b tys ty ks (xs.map g):=⟨_,rfl⟩;obtain⟨s,e,hs⟩:=CH (ty:=ty) (ks:=ks) h f l1 k;have I:xs.map g=⟨xs.toList.map g⟩:=by apply J5;simp
  rw[D,I];have E:tys=⟨tys.toList⟩:=rfl;rw[E,e];exact fin hs
 .cases f
end
end
section
open Go
variable [Ora]
section
variable {P:Program} {base:Nat} {ρ ρ':Ren} {m m':Mem} {w w':World}
def K7.step(c:K7 ρ m.n hi)(st:St P base ρ ρ' m m1 w w'):K7 ρ' m1.n hi:=fun b h1 d=>by
 cases e:ρ' b with
 | none=>rfl
 | some l =>
   cases h0:ρ b with
   | some l0=>rw[c b (C6 st.nle h1) d]at h0;cases h0
   | none=>have:=(st.new b l e h0).2;omega
def K7.less{n hi':Nat}(c:K7 ρ n hi)(h:hi'<=hi):K7 ρ n hi':=fun b h1 d=>c b h1 (D8 d h)
def fZ(m:Mem)(t:Nat)(op:LOp)(xs:List Value):Lg:=⟨m.lg.nx+1,m.lg.pi,.dt m.lg.nx t op xs::m.lg.log⟩
def O4{t:Nat}{k:Nat->Mem->Res}:wY m t op xs k=k m.lg.nx (m.wLg (fZ m t op xs)):=by
 obtain⟨H,n,W,hi,⟨nx,pi,log⟩⟩:=m;simp only[wY,E9,I8];rfl
def LZ{t:Nat}{k:Nat->Mem->Option (D3×Mem)}:Y8.letDo t op xs m k=k m.lg.nx (m.wLg (fZ m t op xs)):=by
 obtain⟨H,n,W,hi,⟨nx,pi,log⟩⟩:=m;simp only[Y8.letDo,E9,I8];rfl
@[simp] theorem l5(lg:Lg):(m.wLg lg).lg=lg:=by cases m;rfl
@[simp] theorem lL(lg:Lg):(m.wLg lg).H=m.H:=by cases m;rfl
@[simp] theorem YR(lg:Lg):(m.wLg lg).n=m.n:=by cases m;rfl
@[simp] theorem OK(lg:Lg):(m.wLg lg).hi=m.hi:=by cases m;rfl
@[simp] theorem B6E(lg:Lg):(m.wLg lg).W=m.W:=by cases m;rfl
def W9{t:Nat} :m.lg.le (m.wLg (fZ m t op xs)).lg:=by
 rw[l5];exact⟨[_],rfl⟩
def kW{t:Nat}{lg:Lg}(e:Sat lg)(d:(m.wLg (fZ m t op xs)).lg.le lg):Ora.env m.lg.nx=evU op (xs.map (D9 Ora.env))/\G4 (Ora.env m.lg.nx)=t/\∃ b wd rows,Ora.env m.lg.nx=.seq b wd rows/\t=10+wd:=by
 obtain⟨h1,c,b,wd,rows,h3⟩:=e _ (d.subset (by rw[l5];exact B4));exact⟨h1,c,b,wd,rows,h3,by rw[<- c,h3];rfl⟩
def eL{b:Nat}(h:pT m b=true):Hp.get m.H b=some .frz:=by
 unfold pT at h;split at h
 .assumption
 .cases h
def UU{b:Nat}(h:pT m b=true):b<=I4:=by
 unfold pT at h;split at h
 .exact A1 h
 .cases h
def A2r{b:Nat}(hr:HR P base ρ m.H w)(h:pT m b=true):∃ l,ρ b=some l:=by
 obtain⟨l,h1,_⟩:=hr.at_ b (UU h) _ (eL h);exact⟨l,h1⟩
def R3{k:Nat->Mem->Option (Value×Nat×Mem)}{r:Value×Nat×Mem}(h:hO m k=some r):∃ m1,d9 m .frz (fun _=>undef)=some (undef,m1)/\k m.n m1=some r/\m1.H=m.H.set m.n (some .frz)/\m.n<=I4/\m1.lg=m.lg:=by
 obtain⟨H,n,W,hi,lg⟩:=m;simp only[hO,E9,fD]at h;obtain⟨h1,b⟩:=A3 h;refine⟨_,?_,b,rfl,A1 h1,rfl⟩;simp only[d9,E9,fD,h1,E6]
def lH(G:Nat->Option Obj):Loc:=⟨0,0,0,0,G,false⟩
def St.region{G:Nat->Option Obj}(h:HR P base ρ m.H w)(g:d9 m .frz (fun _=>undef)=some (undef,m1))(y:K7 ρ m.n m1.hi)
  (f:∀ k o,G k=some o->w.heap[k]? = some o/\∃ id ab l,id<=I4/\Hp.get m.H id=some ab/\ρ id=some l/\Tf ab l k/\ab.rw=false) :
  upd ρ m.n (lH G) m.n=some (lH G)/\Hp.get m1.H m.n=some .frz/\St P base ρ (upd ρ m.n (lH G)) m m1 w w:=by
 obtain⟨h1,t,h3⟩:=St.new0 (l':=lH G) h g y ⟨rfl,fun k o p=>(f k o p).1⟩ rfl fun q c=>by
  rcases c with⟨c,_⟩|⟨_,o,c⟩
  .cases c
  .obtain⟨g1,id,ab,l,g2,g3,g4,g5,g6⟩:=f q o c;refine⟨⟨id,ab,l,g2,g3,g4,g5⟩,fun r d a l2 b v hr x e=>?_⟩
   have:=((h.atl v b).2 hr x).2 id g2 ab l g3 g4 (e▸g5.2);subst this;rw[g3]at b;have b:=A9 b;subst b;rw[g6]at hr;cases hr
 refine⟨t,?_,h3⟩;obtain⟨hle,_,rfl⟩:=M3 g;show Hp.get (m.H.set m.n (some .frz)) m.n=_;rw[F2 _ _ _ _ hle hle,A8 rfl]
theorem oC{b i t:Nat}{v':Value}(h:VR ρ (dat b i t) v'):∃ l,ρ b=some l/\Enc l.G (Ora.env i) v'/\G4 (Ora.env i)=t/\10<=t:=by
 generalize hx:dat b i t=x at h;cases h with
 | dat h he d c e =>
   simp only[dat,Value.func.injEq,g8,K0,Value.pointer.injEq,D6,Addr.mk.injEq,Value.complex.injEq,true_and,and_true]at hx;obtain⟨rfl,rfl,rfl⟩:=hx;exact⟨_,h,he,d,c⟩
 | pure hp=>subst hx;simp[dat,J0]at hp
 | _=>simp[ixp,Go.Sx.dat,Go.Sx.clp,Go.Sx.own,Go.Sx.dpt,Go.Sx.opt,Go.Sx.yv,Go.Sx.sdt]at hx
theorem gN{b i t:Nat}{v':Value}(h:VR ρ (clp b i t) v'):∃ l,ρ b=some l/\Enc l.G (Ora.env i) v'/\G4 (Ora.env i)=t/\10<=t/\A3b v':=by
 generalize hx:clp b i t=x at h;cases h with
 | clp h he d c f e =>
   simp only[clp,Value.func.injEq,g8,K0,Value.pointer.injEq,D6,Addr.mk.injEq,Value.complex.injEq,true_and,and_true]at hx;obtain⟨rfl,rfl,rfl⟩:=hx;exact⟨_,h,he,d,c,e⟩
 | pure hp=>subst hx;simp[clp,J0]at hp
 | _=>simp[ixp,Go.Sx.dat,Go.Sx.clp,Go.Sx.own,Go.Sx.dpt,Go.Sx.opt,Go.Sx.yv,Go.Sx.sdt]at hx
theorem gM{b i t:Nat}{v':Value}(h:VR ρ (own b i t) v'):A1Y ρ b (Ora.env i) v'/\G4 (Ora.env i)=t:=by
 generalize hx:own b i t=x at h;cases h with
 | own h c d =>
   simp only[own,Value.func.injEq,g8,K0,Value.pointer.injEq,D6,Addr.mk.injEq,Value.complex.injEq,true_and,and_true]at hx;obtain⟨rfl,rfl,rfl⟩:=hx;exact⟨h,c⟩
 | pure hp=>subst hx;simp[own,J0]at hp
 | _=>simp[ixp,Go.Sx.dat,Go.Sx.clp,Go.Sx.own,Go.Sx.dpt,Go.Sx.opt,Go.Sx.yv,Go.Sx.sdt]at hx
def HL{b t:Nat}{v':Value}(h:VR ρ (dpt b i t z o) v'):B2g ρ b (Ora.env i) (qC Ora.env z) o v'/\G4 (Ora.env i)=t:=by
 generalize hx:dpt b i t z o=x at h;cases h with
 | dpt h c d =>
   simp only[dpt,Value.func.injEq,g8,K0,Value.pointer.injEq,D6,Addr.mk.injEq,Value.complex.injEq,Value.int.injEq,lE,true_and,and_true]at hx;obtain⟨rfl,⟨rfl,rfl⟩,rfl,rfl⟩:=hx;exact⟨h,c⟩
 | pure hp=>subst hx;simp[dpt,J0]at hp
 | _=>simp[ixp,Go.Sx.dat,Go.Sx.clp,Go.Sx.own,Go.Sx.dpt,Go.Sx.opt,Go.Sx.yv,Go.Sx.sdt]at hx
def xX{b t:Nat}{v':Value}(h:VR ρ (opt b i t z o) v'):B1T ρ b (Ora.env i) (qC Ora.env z) o v'/\G4 (Ora.env i)=t:=by
 generalize hx:opt b i t z o=x at h;cases h with
 | opt h c d =>
   simp only[opt,Value.func.injEq,g8,K0,Value.pointer.injEq,D6,Addr.mk.injEq,Value.complex.injEq,Value.int.injEq,lE,true_and,and_true]at hx;obtain⟨rfl,⟨rfl,rfl⟩,rfl,rfl⟩:=hx;exact⟨h,c⟩
 | pure hp=>subst hx;simp[opt,J0]at hp
 | _=>simp[ixp,Go.Sx.dat,Go.Sx.clp,Go.Sx.own,Go.Sx.dpt,Go.Sx.opt,Go.Sx.yv,Go.Sx.sdt]at hx
def EQ{b c tc g t:Nat}{T:TypeId}{v':Value}(h:HR P base ρ m.H w)(I:Hp.get m.H b=some (.sq c tc T g true))(hv:VR ρ (own b i t) v')(B:tc=t)(A:Hp.get m.H g=some .frz)
  (O:d9 m .frz (fun _=>undef)=some (undef,m1)) (N:K7 ρ m.n m1.hi):∃ l,St P base ρ (upd ρ m.n l) m m1 w w/\upd ρ m.n l m.n=some l/\Hp.get m1.H m.n=some .frz/\Enc l.G (Ora.env c) v'/\G4 (Ora.env c)=t:=by
 obtain⟨x,M⟩:=gM hv;rcases x with⟨l,wd,h1,E,h3,rfl⟩|⟨l,wd,rows,h1,E,h3,Y,W,rfl⟩
 .obtain⟨q,_⟩:=h.atl h1 I;obtain⟨D,inf,L,Q,R,d⟩:=SqR.ex q;rcases d with⟨_,d⟩|⟨d,_⟩
  .obtain⟨g1,g2,g3⟩:=St.region (G:=fun _=>none) h O N (fun k o f=>by cases f);exact⟨_,g3,g1,g2,by rw[d];exact .nil,by rw[d,<- B,L];rfl⟩
  .rw[E]at d;cases d
 .obtain⟨q,_⟩:=h.atl h1 I;obtain⟨D,inf,L,Q,R,d⟩:=SqR.ex q;rcases d with⟨d,_⟩|⟨_,d⟩
  .rw[E]at d;cases d
  .obtain⟨C,fz,K,F,lg,f1,f2,f3,f4,f5,f6,f7,f8,f9⟩:=d;obtain⟨J,_⟩:=h.atl f7 A;have p:∀ k o,lg.G k=some o->w.heap[k]? = some o:=J.2;let G:Nat->Option Obj:=fun k=>if k=l.blk then some (.cells C K fz)else lg.G k
   have y:∀ k o,lg.G k=some o->G k=some o:=fun k o f=>by
    show(if k=l.blk then _ else _)=_;by_cases e:k=l.blk
    .subst e;rw[A8 rfl]
     have:=p _ _ f;rw[f1]at this;exact this
    .rw[A6 e];exact f
   obtain⟨g1,g2,g3⟩:=St.region (G:=G) h O N fun k o f=>by
    have f:(if k=l.blk then some (.cells C K fz)else lg.G k)=some o:=f;by_cases e:k=l.blk
    .subst e;rw[A8 rfl]at f;exact⟨by rw[f1];exact f,b,_,l,h.dom _ _ h1,I,h1,⟨rfl,.inl ⟨rfl,E,rfl⟩⟩,rfl⟩
    .rw[A6 e]at f;exact⟨p _ _ f,g,_,lg,h.dom _ _ f7,A,f7,⟨rfl,.inr ⟨rfl,o,f⟩⟩,rfl⟩
   refine⟨_,g3,g1,g2,?_,by rw[f2,<- B,L];rfl⟩;rw[f2,<- f3];refine .sl (G:=G) (C:=C) (T:=K) (fz:=fz) A2 (fun _=>?_) (fun _=>?_) f6 fun r row j u v V S X=>(f8 r row j u v V S X).mono y
   .show(if l.blk=l.blk then _ else _)=_;rw[A8 rfl]
   .have:=F9 D f4;rw[<- f3]at this;omega
def BR.thaw{c t g:Nat}{T:TypeId}{l:Loc}(h:BR P ρ (.sq c t T g false) l w):BR P ρ (.sq c t T g true) l w:=by
 obtain⟨wd,inf,h1,e,h3,d⟩:=SqR.ex h;refine⟨⟨wd,inf,h1,e,h3,d.imp (fun x=>x) fun⟨b,f⟩=>⟨b,?_⟩⟩⟩;obtain⟨C,fz,n,rows,lg,h1,e,h3,d,f,k,q,p,r⟩:=f;exact⟨C,fz,n,rows,lg,h1,e,h3,d,f,k,q,p,fun h=>by cases h⟩
def yX{id:Nat}{ab:AB}(h:cY m id ab=some m')(b:j<=I4):Hp.get m'.H j=if j=id then some ab else Hp.get m.H j:=by
 obtain⟨hle,rfl⟩:=V1 h;exact F2 _ _ _ _ hle b
def lZ{ab:AB}{k:Nat->Value}{v:Value}(h:d9 m ab k=some (v,m'))(b:j<=I4):Hp.get m'.H j=if j=m.n then some ab else Hp.get m.H j:=by
 obtain⟨hle,_,rfl⟩:=M3 h;exact F2 _ _ _ _ hle b
def FY{t:Nat}{v v' x:Value}{b:Nat}(h:HR P base ρ m.H w)(d:toD t v m=some (x,b,m'))(L:K7 ρ m.n m'.hi)(hv:VR ρ v v')(Z:Sat m'.lg) :
  ∃ ρ' l,St P base ρ ρ' m m' w w/\ρ' b=some l/\Hp.get m'.H b=some .frz/\Enc l.G (D9 Ora.env x) v'/\G4 (D9 Ora.env x)=t/\m.lg.le m'.lg:=by
 unfold toD at d;split at d
 .rename_i M i tg;obtain⟨h1,f⟩:=A3 d;cases f;obtain⟨h1,f⟩:=B8 h1;have h1:=A0 h1;obtain⟨l,y,r,B,K⟩:=oC hv;exact⟨ρ,l,St.refl h,y,eL f,r,B.trans h1,.refl _⟩
 .rename_i M i tg;obtain⟨h1,f⟩:=A3 d;cases f;obtain⟨h1,f⟩:=B8 h1;have h1:=A0 h1;obtain⟨l,y,r,B,K,_⟩:=gN hv;exact⟨ρ,l,St.refl h,y,eL f,r,B.trans h1,.refl _⟩
 .rename_i M i tg;split at d
  .rename_i c tc T g D;obtain⟨h1,f⟩:=A3 d;obtain⟨h1,h3⟩:=B8 h1;obtain⟨h1,C⟩:=B8 h1;have h1:=A0 h1;have C:=A0 C;obtain⟨m1,I,F,_,_,O⟩:=R3 f;cases F;subst h1;obtain⟨l,y,r,B,K,X⟩:=EQ h D hv C (eL h3) I L;exact⟨_,l,y,r,B,K,X,by rw[O];exact .refl _⟩
  .rename_i c tc T g D;obtain⟨h1,f⟩:=A3 d;obtain⟨h1,h3⟩:=B8 h1;have R:=UU h3;obtain⟨h1,C⟩:=B8 h1;have h1:=A0 h1;have C:=A0 C;split at f
   .rename_i m1 hs;obtain⟨m2,I,F,_,_,O⟩:=R3 f;cases F;subst h1;have Q:∃ l0,ρ M=some l0:=by
     rcases(gM hv).1 with⟨l,_,h1,_⟩|⟨l,_,_,h1,_⟩<;>exact⟨l,h1⟩
    obtain⟨l0,J⟩:=Q;have S:=(h.atl J D).1;have p:=St.same0 h hs D rfl J S.thaw (fun q hq=>by
     rcases hq with⟨_,a,b⟩|⟨a,_⟩
     .exact .inl ⟨rfl,a,b⟩
     .cases a)
    have hle:=(V1 hs).1;have V:g≠M:=fun e=>by subst e;rw[eL h3]at D;cases D
    have W:Hp.get m1.H M=some (.sq c tc T g true):=by rw[yX hs hle,A8 rfl]
    have N:Hp.get m1.H g=some .frz:=by rw[yX hs R,A6 V];exact eL h3
    have Y:m1.n=m.n:=by rw[(V1 hs).2]
    obtain⟨l,y,r,B,K,X⟩:=EQ p.hr W hv C N I (by rw[Y];exact L);refine⟨_,l,St.trans L p y,r,B,K,X,by rw[O,(V1 hs).2];exact .refl _⟩
   .cases f
  .cases d
 .obtain⟨E,d⟩:=A3 d;have E:=A1 E;rw[O4]at d;simp only at d;obtain⟨m1,I,F,_,_,O⟩:=R3 d;cases F;cases Q3 hv;have A:(m.wLg (fZ m t (.nilw (t-10)) [])).lg.le m'.lg:=by rw[O];exact .refl _
  obtain⟨y,r,_⟩:=kW Z A;have p:=St.wLg h (fZ m t (.nilw (t-10)) []);obtain⟨g1,g2,g3⟩:=St.region (G:=fun _=>none) p.hr I (by simpa using L) (fun k o hk=>by cases hk);refine⟨_,_,St.trans (by simpa using L) p g3,g1,g2,?_,r,W9.trans A⟩;show Enc _ (Ora.env m.lg.nx) _;rw[y];exact .nil
 .cases d
end
end
section
open Go
variable [Ora]
section
variable {P:Program} {base:Nat} {ρ ρ':Ren} {m m':Mem} {w w':World}
def q8(ρ:Ren)(m m':Mem):Prop:=∀ j l,ρ j=some l->Hp.get m.H j=some .frz->Hp.get m'.H j=some .frz
def q8.refl:q8 ρ m m:=fun _ _ _ h=>h
def q8.trans(he:∀ b l,ρ b=some l->ρ' b=some l)(a:q8 ρ m m1)(c:q8 ρ' m1 m'):q8 ρ m m':=fun j l h1 d=>c j l (he j l h1) (a j l h1 d)
def q8.lg(lg:Lg):q8 ρ m (m.wLg lg):=fun j l _ h=>by rw[lL];exact h
def MC{ab:AB}{k:Nat->Value}{v:Value}(h:HR P base ρ m.H w)(b:d9 m ab k=some (v,m'))(c:K7 ρ m.n m'.hi):q8 ρ m m':=fun j l h1 d=>by
 rw[lZ b (h.dom j l h1),A6]
 .exact d
 .intro e;subst e;obtain⟨_,_,rfl⟩:=M3 b;rw[c m.n (A7 _) (L7 _ _).2]at h1;cases h1
def A19{ab:AB}{id:Nat}(h:HR P base ρ m.H w)(hs:cY m id ab=some m')(b:Hp.get m.H id≠some .frz):q8 ρ m m':=fun j l h1 c=>by
 rw[yX hs (h.dom j l h1),A6]
 .exact c
 .intro e;subst e;exact b c
def JR{t:Nat}{v x:Value}{b:Nat}(h:HR P base ρ m.H w)(d:toD t v m=some (x,b,m'))(y:K7 ρ m.n m'.hi):q8 ρ m m':=by
 unfold toD at d;split at d
 .obtain⟨h1,f⟩:=A3 d;cases f;exact .refl
 .obtain⟨h1,f⟩:=A3 d;cases f;exact .refl
 .split at d
  .obtain⟨h1,f⟩:=A3 d;obtain⟨m1,p,q,_⟩:=R3 f;cases q;exact MC h p y
  .rename_i c tc T g D;obtain⟨h1,f⟩:=A3 d;split at f
   .rename_i m1 hs;obtain⟨m2,p,q,_⟩:=R3 f;cases q;have E:=A19 h hs (by rw[D];intro h;cases h);intro j l k r;have C:=E j l k r;rw[lZ p (h.dom j l k),A6]
    .exact C
    .intro e;subst e;have A:m1.n=m.n:=by rw[(V1 hs).2]
     obtain⟨_,_,rfl⟩:=M3 p;rw[y m1.n A2 (L7 _ _).2]at k;cases k
   .cases f
  .cases d
 .obtain⟨B,d⟩:=A3 d;rw[O4]at d;simp only at d;obtain⟨m1,p,q,_⟩:=R3 d;cases q;intro j l k r;rw[lZ p (h.dom j l k),A6,lL]
  .exact r
  .intro e;subst e;have A:(m.wLg (fZ m t (.nilw (t-10)) [])).n=m.n:=by simp
   obtain⟨_,_,rfl⟩:=M3 p;rw[y _ A2 (L7 _ _).2]at k;cases k
 .cases d
def c9(R:Nat->Option Obj)(us:List U)(vs:List Value):Prop:=us.length=vs.length/\∀ (i:Nat) (u:U) (v:Value),us[i]? = some u->vs[i]? = some v->Enc R u v
omit [Ora] in
def c9.nil{R:Nat->Option Obj}:c9 R [] []:=⟨rfl,fun i u v h=>by simp at h⟩
omit [Ora] in
def c9.cons{R:Nat->Option Obj}{v:Value}(h:Enc R u v)(k:c9 R us vs):c9 R (u::us) (v::vs):=⟨by simp[k.1],fun i a b h1 c=>by
 cases i with
 | zero=>simp at h1 c;subst h1;subst c;exact h
 | succ i=>exact k.2 i a b (by simpa using h1) (by simpa using c)⟩
def Sub(G R:Nat->Option Obj):Prop:=∀ k o,G k=some o->R k=some o
def iH{t:Nat}{v x:Value}{b:Nat}{m m':Mem}(c:toD t v m=some (x,b,m')):m.hi<=m'.hi/\m.lg.le m'.lg/\m.n<=m'.n:=by
 have e:∀ {m m1:Mem},d9 m .frz (fun _=>undef)=some (undef,m1)->m.hi<=m1.hi/\m.lg.le m1.lg/\m.n<=m1.n:=fun l=>by
  obtain⟨_,_,rfl⟩:=M3 l;exact⟨(L7 _ _).1,.refl _,V4 _⟩
 unfold toD at c;split at c
 .obtain⟨h1,d⟩:=A3 c;cases d;exact⟨A7 _,.refl _,A7 _⟩
 .obtain⟨h1,d⟩:=A3 c;cases d;exact⟨A7 _,.refl _,A7 _⟩
 .split at c
  .obtain⟨h1,d⟩:=A3 c;obtain⟨m1,g,f,_⟩:=R3 d;cases f;exact e g
  .obtain⟨h1,d⟩:=A3 c;split at d
   .rename_i m1 hs;obtain⟨m2,g,f,_⟩:=R3 d;cases f
    have:=e g;obtain⟨_,rfl⟩:=V1 hs;exact this
   .cases d
  .cases c
 .obtain⟨k,c⟩:=A3 c;rw[O4]at c;simp only at c;obtain⟨m1,g,f,_⟩:=R3 c;cases f
  have:=e g;exact⟨by simpa using this.1,W9.trans this.2.1,by simpa using this.2.2⟩
 .cases c
structure BX (P:Program) (td:Td):Prop where
 ok:∀ {base:Nat} {ρ:Ren} {m m':Mem} {w:World} {t:Nat} {v v' x:Value} {b:Nat},HR P base ρ m.H w->td t v m=some (x,b,m')->K7 ρ m.n m'.hi->VR ρ v v'->Sat m'.lg ->
  ∃ ρ' l,St P base ρ ρ' m m' w w/\ρ' b=some l/\Hp.get m'.H b=some .frz/\Enc l.G (D9 Ora.env x) v'/\G4 (D9 Ora.env x)=t/\m.lg.le m'.lg/\q8 ρ m m'
 mono:∀ {m m':Mem} {t:Nat} {v x:Value} {b:Nat},td t v m=some (x,b,m')->m.hi<=m'.hi/\m.lg.le m'.lg/\m.n<=m'.n
def YY:BX P toD:=⟨fun h c b hv d=>let ⟨ρ',l,e,a2,a3,a4,a5,f⟩:=FY h c b hv d;⟨ρ',l,e,a2,a3,a4,a5,f,JR h c b⟩,fun h=>iH h⟩
def S8{f:Td}(d:BX P f):∀ {ts:H9} {vs xs:D3} {gs:H9} {m m':Mem},CB f ts vs m=some (xs,gs,m')->m.hi<=m'.hi/\m.lg.le m'.lg/\m.n<=m'.n
 | [],[],_,_,_,_,h=>by cases h;exact⟨A7 _,.refl _,A7 _⟩
 | t::ts,v::vs,xs,gs,m,m',c=>by
   unfold CB at c;cases e:Nat.blt t 10 with
   | true =>
     rw[e]at c;simp only[E6]at c;obtain⟨h1,c⟩:=A3 c;split at c
     .rename_i hr;cases c;exact S8 d hr
     .cases c
   | false =>
     rw[e]at c;simp only[E0]at c;split at c
     .rename_i g;split at c
      .rename_i hr;cases c;have a:=d.mono g;have b:=S8 d hr;exact⟨C6 a.1 b.1,a.2.1.trans b.2.1,C6 a.2.2 b.2.2⟩
      .cases c
     .cases c
 | [],_::_,_,_,_,_,c=>by cases c
 | _::_,[],_,_,_,_,c=>by cases c
def jC{K:Td}(f:BX P K):∀ {ts:H9} {vs vs' xs:D3} {gs:H9} {m m':Mem} {ρ:Ren},HR P base ρ m.H w->CB K ts vs m=some (xs,gs,m')->K7 ρ m.n m'.hi->LR ρ vs vs'->Sat m'.lg ->
  ∃ ρ',St P base ρ ρ' m m' w w/\m.lg.le m'.lg/\q8 ρ m m'/\(∀ b ∈ gs,Hp.get m'.H b=some .frz/\∃ l,ρ' b=some l)/\(xs.map (D9 Ora.env)).map G4=ts /\
   ∀ R,(∀ b ∈ gs,∀ l,ρ' b=some l->Sub l.G R)->c9 R (xs.map (D9 Ora.env)) vs'
 | [],[],vs',xs,gs,m,m',ρ,h,c,hf,hv,hS=>by
   cases c;exact⟨ρ,St.refl h,.refl _,.refl,fun b N=>(by cases N),rfl,fun R _=>by rw[hv.nil_inv];exact .nil⟩
 | t::ts,v::vs,vs',xs,gs,m,m',ρ,h,c,hf,hv,hS=>by
   obtain⟨v',r',rfl,p,g⟩:=hv.tail;unfold CB at c;cases C:Nat.blt t 10 with
   | true =>
     rw[C]at c;simp only[E6]at c;obtain⟨h1,c⟩:=A3 c;have h1:=A0 h1;have L:t<10:=A1 C;split at c
     .rename_i r J m2 hr;cases c;obtain⟨ρ2,q,A,x,D,F,B⟩:=jC f h hr hf g hS;obtain⟨f1,f2⟩:=aV p A2;exact⟨ρ2,q,A,x,D,by simp[f2,h1,F],fun R hR=>.cons (.sc f1) (B R hR)⟩
     .cases c
   | false =>
     rw[C]at c;simp only[E0]at c;split at c
     .rename_i hh b m1 M;split at c
      .rename_i r J m2 hr;cases c;have e:m1.hi<=m'.hi/\m1.lg.le m'.lg/\m1.n<=m'.n:=S8 f hr;have I:K7 ρ m.n m1.hi:=hf.less e.1;obtain⟨E,l,k,a2,a3,a4,a5,Q,O⟩:=f.ok h M I p (hS.le e.2.1);have y:K7 E m1.n m'.hi:=hf.step k;obtain⟨ρ2,q,A,x,D,F,B⟩:=jC f k.hr hr y (g.mono k.ext) hS;refine⟨ρ2,St.trans hf k q,Q.trans A,O.trans k.ext x,fun b' d=>?_,by simp[a5,F],fun R hR=>.cons (a4.mono (hR b (.head _) l (q.ext _ _ a2))) (B R fun b' d=>hR b' (.tail _ d))⟩;rcases B3.1 d with rfl|d
       .exact⟨x _ l a2 a3,l,q.ext _ _ a2⟩
       .exact D b' d
      .cases c
     .cases c
 | [],_::_,_,_,_,_,_,_,_,c,_,_,_=>by cases c
 | _::_,[],_,_,_,_,_,_,_,c,_,_,_=>by cases c
def fL{gs:H9}{g:Nat}(h:HR P base ρ m.H w)(c:kT gs m=some (g,m'))(x:K7 ρ m.n m'.hi) :
  ∃ ρ' lg,St P base ρ ρ' m m' w w/\m'.lg=m.lg/\q8 ρ m m'/\ρ' g=some lg/\Hp.get m'.H g=some .frz/\∀ b ∈ gs,∀ l,ρ b=some l->Sub l.G lg.G:=by
 have main:∀ {gs:H9},(bif gs.all (pT m)then match hO m fun b m=>some (undef,b,m)with
  | some (_,b,m)=>some (b,m)
  | none=>none else none)=some (g,m')->∃ ρ' lg,St P base ρ ρ' m m' w w/\m'.lg=m.lg/\q8 ρ m m'/\ρ' g=some lg/\Hp.get m'.H g=some .frz/\∀ b ∈ gs,∀ l,ρ b=some l->Sub l.G lg.G:=fun{gs} c=>by
  obtain⟨h1,c⟩:=A3 c;split at c
  .rename_i r b m1 D;cases c;obtain⟨m2,t,A,_,_,C⟩:=R3 D;cases A;have e:∀ b ∈ gs,Hp.get m.H b=some .frz:=fun b d=>eL (D5.1 h1 b d)
   classical
   let G:Nat->Option Obj:=fun k=>if ∃ b ∈ gs,∃ l o,ρ b=some l/\l.G k=some o then w.heap[k]? else none
   obtain⟨g1,g2,g3⟩:=St.region (G:=G) h t x fun k o f=>by
    have f:(if ∃ b ∈ gs,∃ l o,ρ b=some l/\l.G k=some o then w.heap[k]? else none)=some o:=f;split at f
    .rename_i hex;obtain⟨b,d,l,B,v,y⟩:=hex;exact⟨f,b,_,l,h.dom _ _ v,e b d,v,⟨rfl,.inr ⟨rfl,B,y⟩⟩,rfl⟩
    .cases f
   refine⟨_,lH G,g3,C,MC h t x,g1,g2,fun b d l q k o f=>?_⟩;show(if ∃ b ∈ gs,∃ l o,ρ b=some l/\l.G k=some o then w.heap[k]? else none)=_;rw[A8 ⟨b,d,l,o,q,f⟩];exact(h.atl q (e b d)).1.2 k o f
  .cases c
 unfold kT at c;split at c
 .rename_i g0;obtain⟨h1,c⟩:=A3 c;cases c;obtain⟨l,q⟩:=A2r h h1;refine⟨ρ,l,St.refl h,rfl,.refl,q,eL h1,fun b d l2 p=>?_⟩;rcases B3.1 d with rfl|d
  .rw[q]at p
   have:=A9 p;subst this;exact fun _ _ h=>h
  .cases d
 .exact main c
omit [Ora] in
def gT{R:Nat->Option Obj}{v r:Value}(h:Enc R u v)(hr:toV u=some r):v=r:=by
 cases h with
 | sc h=>rw[h]at hr;exact A9 hr
 | nil=>cases hr
 | emp=>cases hr
 | sl=>cases hr
omit [Ora] in
def mT{R:Nat->Option Obj}{v:Value}(h:Enc R u v):o8 v=true:=by
 cases h with
 | sc h=>have:=iG h;cases v<;>first|rfl|cases this
 | nil=>rfl
 | emp=>rfl
 | sl=>rfl
def A5X{wd k:Nat}{rows:List (List U)} :evU (.get wd o) [.seq false wd rows,.int kk (.ofNat k)]=(rows.getD k []).getD o .none:=by
 simp[evU]
def getD_some(h:row.getD o .none≠.none):row[o]? = some (row.getD o .none):=by
 rw[B2]at *;cases e:row[o]? with
 | none=>rw[e]at h;exact absurd rfl h
 | some u=>rfl
def gO{wd o i t g k:Nat}{z:Value}{lg:Loc}{rows:List (List U)}{cell:Nat->R2}(hi:Ora.env i=.seq false wd rows)(F:qC Ora.env z=some (.ofNat k))(y:ρ g=some lg)
  (n:∀ q u,(rows.getD k [])[q]? = some u->∃ v,cell q=some v/\Enc lg.G u v) :
  ∀ {ts:H9} {j:Nat} {m m':Mem} {r:D3},Y8 wd o i t z g ts j m=some (r,m')->Sat m'.lg->∃ r',LR ρ r r'/\r'.length=ts.length/\(∀ q v',r'[q]? = some v'->cell (o+j+q)=some v')/\K3 m m'/\m.lg.le m'.lg
 | [],j,m,m',r,h,hS=>by
   cases h;exact⟨[],.nil,rfl,fun q v' h=>by simp at h,.refl _,.refl _⟩
 | tg::ts,j,m,m',r,h,hS=>by
   unfold Y8 at h;obtain⟨kk,A⟩:=IW F;have d:[hole i t,z].map (D9 Ora.env)=[.seq false wd rows,.int kk (.ofNat k)]:=by
    simp only[C5,G1,A];show[Ora.env i,_]=_;rw[hi]
   have b:∀ {u:U},u≠.none->evU (.get wd (o+j)) ([hole i t,z].map (D9 Ora.env))=u->∃ v,cell (o+j)=some v/\Enc lg.G u v:=fun{u} hu he=>by
    rw[d,A5X]at he;subst he;exact n _ _ (getD_some hu)
   cases B:Nat.blt tg 10 with
   | true =>
     rw[B]at h;simp only[E6]at h;have H:tg<10:=A1 B;split at h
     .rename_i hh m1 C;split at h
      .rename_i J m2 hr;cases h;obtain⟨r',E,p,x,D,f⟩:=gO hi F y n hr hS;obtain⟨u,f1,f2,v,f3,f4,f5⟩:=N0 C (hS.le f);obtain⟨v2,g1,g2⟩:=b (u:=u) (by intro e;subst e;cases f3) f1
       have:=gT g2 f3;subst this;refine⟨v2::r',.cons (f4 ρ) E,by simp[p],fun q v' c=>?_,(I1 C).trans D,(I5 C).trans f⟩;cases q with
       | zero=>simp at c;subst c;exact g1
       | succ q=>rw[show o+j+(q+1)=o+(j+1)+q by omega];exact x q v' (by simpa using c)
      .cases h
     .cases h
   | false =>
     rw[B]at h;simp only[E0]at h;rw[LZ]at h;split at h
     .rename_i J m2 hr;cases h;obtain⟨r',E,p,x,D,f⟩:=gO hi F y n hr hS;obtain⟨f1,f2,I,K,l,f3,f4⟩:=kW hS f;obtain⟨v2,g1,g2⟩:=b (u:=Ora.env m.lg.nx) (by rw[f3];intro h;cases h) f1.symm;refine⟨v2::r',.cons (.dat y g2 f2 A2 (mT g2)) E,by simp[p],fun q v' c=>?_,K3.trans ⟨_,rfl⟩ D,W9.trans f⟩;cases q with
      | zero=>simp at c;subst c;exact g1
      | succ q=>rw[show o+j+(q+1)=o+(j+1)+q by omega];exact x q v' (by simpa using c)
     .cases h
def jF{t:TypeId}(h:lM P t=some ts):H6 P t=some ts.length:=by
 unfold lM at h;split at h
 .rename_i l n h1 b;obtain⟨h3,h⟩:=A3 h;cases h;rw[b,A0 h3]
 .cases h
def FQ{t:TypeId}{r:D3}{v:Value}{b:Nat}(g:lM P t=some ts)(d:mX P t (some (r,m))=some (v,m'))(e:LR ρ r r')(n:r'.length=ts.length)
  (k:∀ q v',r'[q]? = some v'->w.cell? ⟨b,o+q,none⟩=some v'):m'=m/\∃ v',(Instr.loadAt t (.pointer (some ⟨b,o,none⟩))).run P w=.ok v' w/\VR ρ v v':=by
 unfold mX at d;split at d
 .rename_i c heq;cases d;cases heq;obtain⟨v',p,rfl,l,x⟩:=e.tail;refine⟨rfl,v',?_,l⟩
  have:=k 0 v' rfl;simp[Instr.loadAt,Instr.sureAddr,loadVar,A4,cS c,Result.andThen,run_load,show w.cell? ⟨b,o,none⟩=some v' from by simpa using this]
 .rename_i c heq;cases d;cases heq;refine⟨rfl,.agg ⟨r'⟩,?_,.agg e.1 e.2⟩;have f:H6 P t=some r'.length:=by rw[n];exact jF g
  simp[Instr.loadAt,Instr.sureAddr,loadVar,A4,cS c,L5 f,Result.andThen,K8 rfl k]
 .cases d
def A1w{t:TypeId}{x x' v:Value}(h:HR P base ρ m.H w)(n:LY P m t x=some (v,m'))(hx:VR ρ x x')(Y:Sat m'.lg):(∃ r,(Instr.loadAt t x').run P w=.ok r w/\VR ρ v r)/\K3 m m'/\m.lg.le m'.lg:=by
 have J:∀ {r:Option (D3×Mem)},mX P t r=some (v,m')->∃ vs,r=some (vs,m'):=fun{r} F=>by
  unfold mX at F;split at F
  .cases F;exact⟨_,rfl⟩
  .cases F;exact⟨_,rfl⟩
  .cases F
 unfold LY at n;split at n
 .rename_i b i tg z o ts A;obtain⟨h1,n⟩:=A3 n;obtain⟨⟨l,wd,rows,a,s,c,k,M,K,N,R,L,e6,rfl⟩,Z⟩:=HL hx;obtain⟨vs,hr⟩:=J n;rw[hr]at n;have D:tg-10=wd:=by rw[<- Z,K];simp[G4]
  rw[D]at hr;have O:=(h.atl M (eL h1)).1.2;rw[K]at N;obtain⟨C,T,fz,f1,f2,f3,f4⟩:∃ C T fz,l.G a=some (.cells C T fz)/\s+rows.length*wd<=C.size/\(∀ row ∈ rows,row.length=wd)/\∀ (r:Nat) (row:List U) (j:Nat) (u:U) (v:Value),rows[r]? = some row->row[j]? = some u->C[s+r*wd+j]? = some v->Enc l.G u v:=by
   have B:rows≠[]:=by intro e;subst e;simp at L
   cases N with
   | sc h=>cases h
   | emp=>exact absurd rfl B
   | sl hc X hz hw hh=>exact⟨_,_,_,X B,hz B,hw,hh⟩
  have y:=O _ _ f1;have d:rows[k]? = some rows[k]:=A5 L;obtain⟨r',g1,g2,g3,g4,g5⟩:=gO (cell:=fun q=>w.cell? ⟨a,s+k*wd+q,none⟩) K R M (fun q u f=>by
   rw[B2,d]at f;have f:rows[k][q]? = some u:=f;have E:=(B1.1 f).1;rw[f3 _ (D1 d)]at E;have W:(k+1)*wd<=rows.length*wd:=F9 wd L;rw[I3]at W;have p:s+k*wd+q<C.size:=A2;refine⟨C[s+k*wd+q],?_,f4 k _ q u _ d f (F5 p)⟩;simp[World.cell?,y,F5 p]) hr Y
  obtain⟨_,V⟩:=FQ (w:=w) (b:=a) (o:=s+k*wd+o) A n g1 g2 (fun q v' f=>by
   have:=g3 q v' f;rw[show s+k*wd+o+q=s+k*wd+(o+0+q) by omega];exact this)
  exact⟨V,g4,g5⟩
 .rename_i b i tg z o ts A;split at n
  .rename_i c tc T g ro X;obtain⟨h1,n⟩:=A3 n;have h1:=A0 h1;subst h1;obtain⟨⟨l,wd,kN,k,M,K,N,R,L,e6,rfl⟩,Z⟩:=xX hx;obtain⟨vs,hr⟩:=J n;rw[hr]at n;obtain⟨I,inf,d1,d2,d3,d4⟩:=SqR.ex (h.atl M X).1;rcases d4 with⟨d4,_⟩|⟨_,d4⟩
   .rw[K]at d4;cases d4
   obtain⟨C,fz,T',rows,lg,f1,f2,f3,f4,f5,f6,f7,f8,f9⟩:=d4;have D:tc-10=I:=A2;rw[D]at hr;have S:k<rows.length:=A2;have d:rows[k]? = some rows[k]:=A5 S;have Q:wd=I:=by
    have:G4 (Ora.env i)=10+wd:=by rw[N];rfl
    omega
   subst Q;obtain⟨r',g1,g2,g3,g4,g5⟩:=gO (cell:=fun q=>w.cell? ⟨l.blk,l.sh+k*wd+q,none⟩) f2 R f7 (fun q u f=>by
    rw[B2,d]at f;have f:rows[k][q]? = some u:=f;have E:=(B1.1 f).1;rw[f6 _ (D1 d)]at E;have W:(k+1)*wd<=l.cap*wd:=F9 wd A2;rw[I3]at W;have p:l.sh+k*wd+q<C.size:=A2;refine⟨C[l.sh+k*wd+q],?_,f8 k _ q u _ d f (F5 p)⟩;simp[World.cell?,f1,F5 p]) hr Y
   obtain⟨_,V⟩:=FQ (w:=w) (b:=l.blk) (o:=l.sh+k*wd+o) A n g1 g2 (fun q v' f=>by
    have:=g3 q v' f;rw[show l.sh+k*wd+o+q=l.sh+k*wd+(o+0+q) by omega];exact this)
   exact⟨V,g4,g5⟩
  .cases n
 .cases n
end
end
section
open Go
variable [Ora]
section
variable {P:Program} {base:Nat} {ρ ρ':Ren} {m m':Mem} {w w':World}
def at0(a:Nat):Ren:=fun _=>some (lc a 0 0)
def YH{a s n c:Nat}(h:n<=c):VR (at0 a) (.slice (some ⟨0,s,none⟩) n (N4+1)) (.slice (some ⟨a,s,none⟩) n c) :=
 VR.op (ρ:=at0 a) (b:=0) (o:=s) (n:=n) (m:=N4+1) (m':=c) (l:=lc a 0 0) rfl (by unfold N4;omega) h (fun h=>by unfold N4 at h;omega)
def VX{a s:Nat}:VR (at0 a) (.pointer (some ⟨0,s,none⟩)) (.pointer (some ⟨a,s,none⟩)):=VR.ptr (ρ:=at0 a) (b:=0) (o:=s) (l:=lc a 0 0) rfl
def vK{t e:TypeId}{a s n c z sz:Nat}{k:IntKind}(hu:P.underlying t=some (.slice e))(hs:H6 P e=some sz)(g:z<n)(d:n<=c)(w:World) :
  (Instr.indexAt t (.slice (some ⟨a,s,none⟩) n c) (.int k (.ofNat z))).run P w=.ok (.pointer (some ⟨a,s+z*sz,none⟩)) w:=by
 have f:Nat.blt z n=true:=C7 g;have hm:Y6 P t (.slice (some ⟨0,s,none⟩) n (N4+1)) (.int k (.ofNat z))=some (.pointer (some ⟨0,s+z*sz,none⟩)):=by
  simp only[Y6,hu,hs,f,E6,cD,E9]
 obtain⟨v',g1,g2⟩:=dE (P:=P) hm (YH (a:=a) d) (.pure rfl) w;obtain⟨l2,b,_,rfl⟩:=P3 g2;cases b;exact g1
def rF{t e:TypeId}{a s n z sz:Nat}{k:IntKind}(hu:P.underlying t=some (.array n e))(hs:H6 P e=some sz)(d:z<n)(w:World) :
  (Instr.indexAt t (.pointer (some ⟨a,s,none⟩)) (.int k (.ofNat z))).run P w=.ok (.pointer (some ⟨a,s+z*sz,none⟩)) w:=by
 have c:Nat.blt z n=true:=C7 d;have hm:Y6 P t (.pointer (some ⟨0,s,none⟩)) (.int k (.ofNat z))=some (.pointer (some ⟨0,s+z*sz,none⟩)):=by
  simp only[Y6,hu,hs,c,E6,cD,E9]
 obtain⟨v',g1,g2⟩:=dE (P:=P) hm (VX (a:=a)) (.pure rfl) w;obtain⟨l2,b,_,rfl⟩:=P3 g2;cases b;exact g1
def vM{a z:Nat}{c:Array Field}{f:Field}(hu:P.underlying s=some (.struct c))(d:c.toList[i]? = some f)(e:H6 P f.type=some (z+1))(w:World) :
  (Instr.fieldAt s (.pointer (some ⟨a,o,none⟩)) i).run P w=.ok (.pointer (some ⟨a,o+f.offset,none⟩)) w:=by
 have hm:dF P s (.pointer (some ⟨0,o,none⟩)) i=some (.pointer (some ⟨0,o+f.offset,none⟩)):=by
  simp only[dF,hu,d,e,cD,E9]
 obtain⟨v',g1,g2⟩:=mO (P:=P) hm (VX (a:=a)) w;obtain⟨l2,b,_,rfl⟩:=P3 g2;cases b;exact g1
def HN{t wd:Nat}{f:Bool}{rows:List (List U)}{k v:Value}(h:MJ m i t z k=some (v,m'))(hi:Ora.env i=.seq f wd rows)(J:t=10+wd)(G:VR ρ z z')(C:Sat m'.lg) :
  v=k/\(∃ kk n,z'=.int kk (.ofNat n)/\n<rows.length/\qC Ora.env z=some (.ofNat n))/\K3 m m'/\m.lg.le m'.lg:=by
 unfold MJ at h;cases B:!(Nat.blt (G8 z) 8)with
 | true=>rw[B]at h;cases h
 | false =>
   have E:G8 z<8:=by
    have:Nat.blt (G8 z) 8=true:=by simpa using B
    exact A1 this
   rw[B]at h;simp only[E0]at h;split at h
   .rename_i b H n W hh lg x;split at h
    .rename_i q D;cases h;have e:=I5 x;have c:=fU D;obtain⟨u,g,I,r,p,F,_⟩:=N0 x (S3.le C c);have l:=mV D (F ρ) C;subst l;obtain⟨kk,y,rfl,f2,_⟩:=N1 G E;have d:[z,hole i t].map (D9 Ora.env)=[.int kk y,.seq f wd rows]:=by
      simp only[C5,G1,f2];show[_,Ora.env i]=_;rw[hi]
     rw[d]at g;have g:(if wd=t-10 then U.bool (decide (0<=y) && decide (y<rows.length))else U.none)=u:=g;rw[A8 A2]at g;subst g;have p:some (Value.bool (decide (0<=y) && decide (y<rows.length)))=some (.bool true):=p;have A:(decide (0<=y) && decide (y<rows.length))=true:=by simpa using p
     simp only[G9,decide_eq_true_eq]at A;obtain⟨n0,rfl⟩:∃ n0:Nat,y=.ofNat n0:=⟨y.toNat,by have:=eD A.1;exact this.symm⟩;refine⟨rfl,⟨kk,n0,rfl,?_,VY f2⟩,K3.trans (I1 x) ⟨q,rfl⟩,e.trans c⟩
     have:=A.2;have:(n0:Int)<rows.length:=this;omega
    .cases h
   .cases h
def B0T{G:Nat->Option Obj}{b:Bool}{wd:Nat}{rows:List (List U)}{v:Value}(h:Enc G (.seq b wd rows) v)(hr:rows≠[]):b=false/\∃ a o c,v=.slice (some ⟨a,o,none⟩) rows.length c/\rows.length<=c:=by
 cases h with
 | sc h=>cases h
 | nil=>exact absurd rfl hr
 | emp=>exact absurd rfl hr
 | sl d _ _ _ _=>exact⟨rfl,_,_,_,rfl,d⟩
def PK{t:Nat}(h:G4 u=t)(d:10<=t):u=.none∨∃ c wd rows,u=.seq c wd rows/\t=10+wd:=by
 cases u with
 | none=>exact .inl rfl
 | int k n=>have:=M4 k;simp[G4]at h;omega
 | bool b=>simp[G4]at h;omega
 | str s=>simp[G4]at h;omega
 | seq c wd rows=>exact .inr ⟨c,wd,rows,rfl,h.symm⟩
def gU{G:Nat->Option Obj}{v:Value}{t:Nat}(h:Enc G u v)(d:G4 u=t)(b:10<=t):∃ c wd rows,u=.seq c wd rows/\t=10+wd:=by
 rcases PK d b with rfl|h1
 .cases h with
  | sc h=>cases h
 .exact h1
def EW{t e:TypeId}{b s:Nat}{l:Loc}{v v':Value}(hu:P.underlying t=some (.slice e))(hs:H6 P e=some (s+1))(B:tg=10+(s+1))(h1:ρ b=some l)(d:Enc l.G (Ora.env i) v')(h3:G4 (Ora.env i)=tg)
  (h:MJ m i tg z (dpt b i tg z 0)=some (v,m')) (D:VR ρ z z') (A:Sat m'.lg):(∃ r,(Instr.indexAt t v' z').run P w=.ok r w/\VR ρ v r)/\K3 m m'/\m.lg.le m'.lg:=by
 obtain⟨C,wd,rows,f,x⟩:=gU d h3 A2;obtain⟨rfl,⟨kk,n,rfl,q,k⟩,g1,g2⟩:=HN h f x D A;have p:wd=s+1:=A2;subst p;have g:rows≠[]:=by intro e;subst e;simp at q
 rw[f]at d;obtain⟨rfl,a,o,c,rfl,y⟩:=B0T d g;refine⟨⟨_,vK hu hs q y w,.dpt ⟨l,s+1,rows,a,o,c,n,h1,f,by rw[f];exact d,k,q,A2,by simp⟩ h3 rfl⟩,g1,g2⟩
def MH{t:TypeId}{x x' v:Value}(h:mL P m t x z=some (v,m'))(hx:VR ρ x x')(C:VR ρ z z')(G:Sat m'.lg):(∃ r,(Instr.indexAt t x' z').run P w=.ok r w/\VR ρ v r)/\K3 m m'/\m.lg.le m'.lg:=by
 unfold mL at h;split at h
 .rename_i e b i tg hu;split at h
  .rename_i s hs;obtain⟨g,h⟩:=A3 h;have g:=A0 g;obtain⟨D,d⟩:=gM hx;rcases D with⟨l,wd,h1,B,h3,rfl⟩|⟨l,wd,rows,h1,B,h3,O,I,rfl⟩
   .obtain⟨_,⟨kk,n,_,M,_⟩,_⟩:=HN h h3 (by rw[h3]at d;exact d.symm) C G;simp at M
   .have A:tg=10+wd:=by rw[h3]at d;exact d.symm
    obtain⟨rfl,⟨kk,n,rfl,M,H⟩,g1,g2⟩:=HN h h3 A C G;have p:wd=s+1:=A2;subst p;exact⟨⟨_,vK hu hs A2 I w,.opt ⟨l,s+1,rows,n,h1,B,h3,H,A2,A2,by simp⟩ d rfl⟩,g1,g2⟩
  .cases h
 .rename_i e b i tg hu;split at h
  .rename_i s hs;obtain⟨g,h⟩:=A3 h;have g:=A0 g;obtain⟨l,h1,B,h3,_⟩:=oC hx;exact EW hu hs g h1 B h3 h C G
  .cases h
 .rename_i e b i tg hu;split at h
  .rename_i s hs;obtain⟨g,h⟩:=A3 h;have g:=A0 g;obtain⟨l,h1,B,h3,_⟩:=gN hx;exact EW hu hs g h1 B h3 h C G
  .cases h
 .rename_i n e b i tg y o hu;split at h
  .rename_i s kk k hs;obtain⟨f,h⟩:=A3 h;obtain⟨f,hw⟩:=B8 f;have f:=A1 f;have hw:o+k*s<tg-10:=A1 hw;rw[E9]at h;cases h;cases J9 C;obtain⟨⟨l,wd,rows,a,s0,c,q,K,A,F,J,L,N,rfl⟩,E⟩:=HL hx;have p:tg-10=wd:=by rw[<- E,A];simp[G4]
   refine⟨⟨_,rF hu hs f w,.dpt ⟨l,wd,rows,a,s0,c,q,K,A,F,J,L,A2,by simp⟩ E rfl⟩,.refl _,.refl _⟩
  .cases h
 .rename_i n e b i tg y o hu;split at h
  .rename_i s kk k hs;obtain⟨f,h⟩:=A3 h;obtain⟨f,hw⟩:=B8 f;have f:=A1 f;have hw:o+k*s<tg-10:=A1 hw;rw[E9]at h;cases h;cases J9 C;obtain⟨⟨l,wd,rows,q,K,A,F,J,L,N,rfl⟩,E⟩:=xX hx;have p:tg-10=wd:=by rw[<- E,F];simp[G4]
   refine⟨⟨_,rF hu hs f w,.opt ⟨l,wd,rows,q,K,A,F,J,L,A2,by simp⟩ E rfl⟩,.refl _,.refl _⟩
  .cases h
 .cases h
def MY{x x' v:Value}{f:Nat}(h:mP P m s x f=some (v,m'))(hx:VR ρ x x'):(∃ r,(Instr.fieldAt s x' f).run P w=.ok r w/\VR ρ v r)/\m'=m:=by
 unfold mP at h;split at h
 .rename_i C b i tg y o hu;split at h
  .rename_i fd A;split at h
   .rename_i z p;obtain⟨hw,h⟩:=A3 h;have hw:o+fd.offset<tg-10:=A1 hw;rw[E9]at h;cases h;obtain⟨⟨l,wd,rows,a,s0,c,q,n,e,g,k,t,D,rfl⟩,d⟩:=HL hx;have B:tg-10=wd:=by rw[<- d,e];simp[G4]
    exact⟨⟨_,vM hu A p w,.dpt ⟨l,wd,rows,a,s0,c,q,n,e,g,k,t,A2,by simp⟩ d rfl⟩,rfl⟩
   .cases h
  .cases h
 .rename_i C b i tg y o hu;split at h
  .rename_i fd A;split at h
   .rename_i z p;obtain⟨hw,h⟩:=A3 h;have hw:o+fd.offset<tg-10:=A1 hw;rw[E9]at h;cases h;obtain⟨⟨l,wd,rows,q,n,e,g,k,t,D,rfl⟩,d⟩:=xX hx;have B:tg-10=wd:=by rw[<- d,g];simp[G4]
    exact⟨⟨_,vM hu A p w,.opt ⟨l,wd,rows,q,n,e,g,k,t,A2,by simp⟩ d rfl⟩,rfl⟩
   .cases h
  .cases h
 .cases h
end
end
section
open Go
variable [Ora]
section
variable {P:Program} {base:Nat} {ρ ρ':Ren} {m m':Mem} {w w':World}
def aJ{G:Nat->Option Obj}{b:Bool}{wd:Nat}{rows:List (List U)}{v:Value}(h:Enc G (.seq b wd rows) v):(b=true/\rows=[]/\v=.slice none 0 0)∨(b=false/\∃ (a:Addr) (c:Nat),v=.slice (some a) rows.length c/\rows.length<=c):=by
 cases h with
 | sc h=>cases h
 | nil=>exact .inl ⟨rfl,rfl,rfl⟩
 | emp=>exact .inr ⟨rfl,_,_,rfl,A7 _⟩
 | sl d _ _ _ _=>exact .inr ⟨rfl,_,_,rfl,d⟩
def lQ{t e:TypeId}{a:Option Addr}{n c:Nat}(hu:P.underlying t=some (.slice e))(w:World):(Builtin.len_ ⟨t::tys⟩ ty #[.slice a n c]).run P w=.ok (.int .i64 n) w:=by
 simp[Builtin.len_,A4,D2 hu,Result.andThen,goInt]
def A46{t:Nat}{v:Value}{c:Bool}{wd:Nat}{rows:List (List U)}(h:U6 m 3 .len [hole i t]=some (v,m'))(hi:Ora.env i=.seq c wd rows)(e:Sat m'.lg):VR ρ v (.int .i64 rows.length)/\K3 m m'/\m.lg.le m'.lg/\D9 Ora.env v=.int .i64 rows.length:=by
 obtain⟨u,d,k,r,f,g,n⟩:=N0 h e;have b:[hole i t].map (D9 Ora.env)=[.seq c wd rows]:=by
  show[Ora.env i]=_;rw[hi]
 rw[b]at d;have d:U.int .i64 rows.length=u:=d;subst d;cases f;refine⟨g ρ,I1 h,I5 h,?_⟩;obtain⟨rfl,rfl⟩:=jR h;obtain⟨h1,l,h3⟩:=e (.lt m.lg.nx 3 .len [hole i t]) (by cases m;exact B4);show Ora.env m.lg.nx=_;rw[h1,b];rfl
def mN{i j:Nat}:∀ {l:List p9},tA i l=some j->∃ tg,p9.lt j 3 .len [hole i tg] ∈ l
 | [],h=>by cases h
 | e::r,h=>by
   unfold tA at h;split at h
   .cases h
   .rename_i f t k tg r' he;cases he;cases d:Nat.beq k i && Nat.beq t 3 with
    | true =>
      rw[d]at h;cases h;obtain⟨h1,c⟩:=B8 d;have h1:=A0 h1;have c:=A0 c;subst h1;subst c;exact⟨tg,.head _⟩
    | false =>
      rw[d]at h;obtain⟨b,h3⟩:=mN h;exact⟨b,.tail _ h3⟩
   .rename_i he;cases he;obtain⟨b,h3⟩:=mN h;exact⟨b,.tail _ h3⟩
def cG{t:Nat}{v:Value}(h:HC m i t=some (v,m')):K3 m m'/\m.lg.le m'.lg:=by
 unfold HC at h;split at h
 .cases h;exact⟨K3.refl _,.refl _⟩
 .exact⟨I1 h,I5 h⟩
def mH{t:Nat}{v:Value}{b:Bool}{wd:Nat}{rows:List (List U)}(h:HC m i t=some (v,m'))(hi:Ora.env i=.seq b wd rows)(d:Sat m'.lg):VR ρ v (.int .i64 rows.length)/\K3 m m'/\m.lg.le m'.lg/\D9 Ora.env v=.int .i64 rows.length:=by
 unfold HC at h;split at h
 .rename_i j e;cases h;obtain⟨tg,hm⟩:=mN e;obtain⟨h1,f,_⟩:=d _ hm;have c:[hole i tg].map (D9 Ora.env)=[.seq b wd rows]:=by
   show[Ora.env i]=_;rw[hi]
  rw[c]at h1;have h1:Ora.env j=.int .i64 rows.length:=h1;refine⟨.hole ?_ ?_,K3.refl _,.refl _,h1⟩
  .rw[h1];rfl
  .rw[h1];rfl
 .exact A46 h hi d
def XD{b:Nat}{v':Value}(h:A1Y ρ b u v'):∃ d wd rows a c,u=.seq d wd rows/\v'=.slice a rows.length c:=by
 rcases h with⟨l,wd,h1,g,h3,rfl⟩|⟨l,wd,rows,h1,g,h3,f,e,rfl⟩
 .exact⟨_,_,_,_,_,h3,rfl⟩
 .exact⟨_,_,_,_,_,h3,by rw[f]⟩
def A47{t:TypeId}{x x' v:Value}(h:A48 P m t x=some (v,m'))(hx:VR ρ x x')(k:Sat m'.lg):(∃ r,(Builtin.len_ ⟨t::tys⟩ ty #[x']).run P w=.ok r w/\VR ρ v r)/\K3 m m'/\m.lg.le m'.lg:=by
 unfold A48 at h;split at h
 .rename_i e b i tg hu;obtain⟨l,h1,d,h3,n⟩:=oC hx;obtain⟨g,wd,rows,f,_⟩:=gU d h3 n;obtain⟨g1,g2,g3,_⟩:=mH (ρ:=ρ) h f k;rw[f]at d;rcases aJ d with⟨rfl,rfl,rfl⟩|⟨rfl,a,c,rfl,_⟩
  .exact⟨⟨_,lQ hu w,g1⟩,g2,g3⟩
  .exact⟨⟨_,lQ hu w,g1⟩,g2,g3⟩
 .rename_i e b i tg hu;obtain⟨l,h1,d,h3,n,_⟩:=gN hx;obtain⟨g,wd,rows,f,_⟩:=gU d h3 n;obtain⟨g1,g2,g3,_⟩:=mH (ρ:=ρ) h f k;rw[f]at d;rcases aJ d with⟨rfl,rfl,rfl⟩|⟨rfl,a,c,rfl,_⟩
  .exact⟨⟨_,lQ hu w,g1⟩,g2,g3⟩
  .exact⟨⟨_,lQ hu w,g1⟩,g2,g3⟩
 .rename_i e b i tg hu;obtain⟨g,wd,rows,a,c,f,rfl⟩:=XD (gM hx).1;obtain⟨g1,g2,g3,_⟩:=mH (ρ:=ρ) h f k;exact⟨⟨_,lQ hu w,g1⟩,g2,g3⟩
 .cases h
def EJ{v v':Value}{n:Nat}(hv:VR ρ v v')(c:AJ v=true)(b:D9 Ora.env v=.int kk (.ofNat n)):∃ j,v'=.int j (.ofNat n):=by
 obtain⟨k,z,rfl,f2,_⟩:=N1 hv (A1 c);rw[f2]at b;injection b with _ hb
 exact⟨k,by rw[hb]⟩
def A0C{h x d x':Value}(hs:SI h x=true)(h1:VR ρ h d)(e:VR ρ x x'):d=x':=by
 unfold SI at hs;split at hs
 .rename_i i t1 j t2
  have:=A0 hs;subst this;have hh:∀ {t:Nat} {v:Value},VR ρ (.complex .f64 i t) v->toV (Ora.env i)=some v:=fun{t v} h=>by
   cases h with
   | pure hp=>simp[J0]at hp
   | hole h _=>exact h
  have a:=hh h1;rw[hh e]at a;exact(A9 a).symm
 .obtain⟨c,b⟩:=B8 hs;have c:=iK c;rw[cV]at b;have b:=eq_of_beq b;subst c;subst b;cases J9 h1;cases J9 e;rfl
 .cases hs
def A27{wd v:Nat}{d:Bool}{rows:List (List U)}{a b:U}(c:evU (.subs wd) [.seq d v rows,a,b]≠.none):∃ f l g h,a=.int f (.ofNat l)/\b=.int g (.ofNat h)/\v=wd/\l<=h/\h<=rows.length:=by
 cases a with
 | int f k=>cases k with
   | ofNat l=>cases b with
     | int g z2=>cases z2 with
       | ofNat h =>
         have c:(if v=wd/\l<=h/\h<=rows.length then U.seq d wd ((rows.drop l).take (h-l))else .none)≠.none:=c;by_cases e:v=wd/\l<=h/\h<=rows.length
         .exact⟨f,l,g,h,rfl,rfl,e.1,e.2.1,e.2.2⟩
         .rw[A6 e]at c;exact(c rfl).elim
       | negSucc _=>exact(c rfl).elim
     | _=>exact(c rfl).elim
   | negSucc _=>exact(c rfl).elim
 | _=>exact(c rfl).elim
def A5b{G:Nat->Option Obj}{t:Bool}{wd l h mm n c:Nat}{rows:List (List U)}{a:Option Addr}(he:Enc G (.seq t wd rows) (.slice a n c))(N:l<=h)(hh:h<=rows.length)(hm:h<=mm)(J:mm<=c) :
  Enc G (.seq t wd ((rows.drop l).take (h-l))) (.slice (if mm=l then a else a.map (·.add (l*wd))) (h-l) (mm-l))∨a=none:=by
 cases he with
 | sc h=>cases h
 | nil=>exact .inr rfl
 | emp =>
   rename_i a;have g:h=0:=by simpa using hh
   subst g;have f:l=0:=A2;subst f;have E:mm=0:=A2;subst E;exact .inl .emp
 | sl M F L hw p =>
   rename_i a o C T fz;refine .inl ?_;have hlen:((rows.drop l).take (h-l)).length=h-l:=by simp;omega
   have key:∀ b x,(h-l≠0->b=a/\x=o+l*wd)->Enc G (.seq false wd ((rows.drop l).take (h-l))) (.slice (some ⟨b,x,none⟩) (h-l) (mm-l)):=fun b x y=>by
    have A:∀ r row,((rows.drop l).take (h-l))[r]? = some row->h-l≠0/\rows[l+r]? = some row:=fun r row hr=>by
     have q:=(B1.1 hr).1;rw[hlen]at q;rw[F0 q,I7]at hr;exact⟨A2,hr⟩
    have d:(rows.drop l).take (h-l)≠[]->h-l≠0/\rows≠[]:=fun d=>by
     constructor
     .intro e;rw[e]at d;simp at d
     .intro e;subst e;simp at d
    have:=Enc.sl (G:=G) (w:=wd) (rows:=(rows.drop l).take (h-l)) (a:=b) (o:=x) (c:=mm-l) (C:=C) (T:=T) (fz:=fz) A2
     (fun B=>by obtain⟨g,f⟩:=d B;rw[(y g).1];exact F f)
     (fun B=>by
       obtain⟨g,f⟩:=d B;rw[hlen,(y g).2];have h1:=L f;have K:(l+(h-l))*wd<=rows.length*wd:=F9 wd A2;rw[I3]at K;omega)
     (fun row hr=>hw row (dL (List.mem_of_mem_take hr)))
     (fun r row j u v I H D=>by
       obtain⟨g,f⟩:=A r row I;rw[(y g).2]at D;refine p (l+r) row j u v f H ?_;rw[I3,show o+(l*wd+r*wd)+j=o+l*wd+r*wd+j by omega];exact D)
    rw[hlen]at this;exact this
   by_cases k:mm=l
   .rw[A8 k];exact key a o fun h=>by omega
   .rw[A6 k];have e:(Addr.mk a o none).add (l*wd)=⟨a,o+l*wd,none⟩:=by
     unfold Addr.add;split
     .rename_i h;rw[h];rfl
     .rfl
    show Enc G _ (.slice (some ((Addr.mk a o none).add (l*wd))) _ _);rw[e];exact key a (o+l*wd) fun _=>⟨rfl,rfl⟩
def IJ{t e:TypeId}{b s:Nat}{l:Loc}{hi:R2}{v x':Value}(hu:P.underlying t=some (.slice e))(hs:H6 P e=some s)(aj:tg=10+s)(h1:ρ b=some l)(F:Enc l.G (Ora.env i) x')(h3:G4 (Ora.env i)=tg)
  (av:cl=true->A3b x') (h:NE m b i tg cl lo hi mx=some (v,m')) (O:OR ρ lo lo') (Q:OR ρ hi hi') (J:OR ρ mx mx') (hS:Sat m'.lg):(∃ r,(Instr.sliceAt t x' lo' hi' mx').run P w=.ok r w/\VR ρ v r)/\K3 m m'/\m.lg.le m'.lg:=by
 have d:∀ {o:R2},OR ρ none o->o=none:=fun{o} h=>by cases o<;>first|rfl|exact h.elim
 have f:∀ {y:Value} {o:R2},OR ρ (some y) o->∃ Y,o=some Y/\VR ρ y Y:=fun{y o} h=>by cases o<;>first|exact h.elim|exact⟨_,rfl,h⟩
 obtain⟨K,wd,rows,e1,e2⟩:=gU F h3 A2;have ax:wd=s:=A2;subst ax;rw[e1]at F;obtain⟨a,n,c,ay,hn,an⟩:∃ a n c,x'=.slice a n c/\n=rows.length/\n<=c:=by
  rcases aJ F with⟨rfl,rfl,rfl⟩|⟨rfl,a,c,rfl,hc⟩
  .exact⟨_,_,_,rfl,rfl,A7 _⟩
  .exact⟨_,_,_,rfl,rfl,hc⟩
 subst ay;have go:∀ {m:Mem} {g hv:Value} {cc:Bool} {D:R2} {hh mm:Nat},gV m b i tg g hv cc=some (v,m') ->
   (D=none/\g=.int .i64 0∨∃ y,D=some y/\VR ρ g y)->(∀ kk q,D9 Ora.env hv=.int kk (.ofNat q)->q<=rows.length->q=hh/\Bd mx' c c mm/\(hi'=none->mx'=none)/\Bd hi' mm n hh/\hh<=mm/\(cc=true->mm=hh)) ->
   (∃ r,(Instr.sliceAt t (.slice a n c) D hi' mx').run P w=.ok r w/\VR ρ v r)/\K3 m m'/\m.lg.le m'.lg:=fun{m g hv cc D hh mm} h E aq=>by
  unfold gV at h;obtain⟨hint,h⟩:=A3 h;obtain⟨aw,al⟩:=B8 hint;rw[O4]at h;simp only[D6,L9]at h;obtain⟨rfl,rfl⟩:=h;obtain⟨f1,f2,ao,ak,Z,f3,f4⟩:=kW hS (.refl _);have T:[hole i tg,g,hv].map (D9 Ora.env)=[.seq K wd rows,D9 Ora.env g,D9 Ora.env hv]:=by
   show[Ora.env i,_,_]=_;rw[e1]
  rw[T]at f1;have au:tg-10=wd:=A2;rw[au]at f1;obtain⟨X,l0,V,h0,a1,a2,a3,a4⟩:∃ X l0 V h0,D9 Ora.env g=.int X (.ofNat l0)/\D9 Ora.env hv=.int V (.ofNat h0)/\l0<=h0/\h0<=rows.length:=by
   have ar:evU (.subs wd) [.seq K wd rows,D9 Ora.env g,D9 Ora.env hv]≠.none:=by rw[<- f1,f3];intro h;cases h
   obtain⟨X,l0,V,h0,W,A,_,q3,q4⟩:=A27 ar;exact⟨X,l0,V,h0,W,A,q3,q4⟩
  rw[a1,a2]at f1;have f1:Ora.env m.lg.nx=if wd=wd/\l0<=h0/\h0<=rows.length then U.seq K wd ((rows.drop l0).take (h0-l0))else .none:=f1
  rw[A8 ⟨rfl,a3,a4⟩]at f1;obtain⟨rfl,N,b2,b3,b4,b5⟩:=aq V h0 a2 a4;have b6:Bd D h0 0 l0:=by
   rcases E with⟨rfl,rfl⟩|⟨y,rfl,hy⟩
   .cases a1;exact .inl ⟨rfl,rfl⟩
   .obtain⟨j,rfl⟩:=EJ hy aw a1;exact .inr ⟨j,rfl,a3⟩
  have M:=vJ (P:=P) (a:=a) (n:=n) (c:=c) hu hs N b2 b3 b6 w;have I:Enc l.G (Ora.env m.lg.nx) (.slice (if mm=l0 then a else a.map (·.add (l0*wd))) (h0-l0) (mm-l0)):=by
   rw[f1];rcases A5b (mm:=mm) F a3 a4 b4 (by rcases N with⟨_,rfl⟩|⟨_,_,N⟩<;>omega)with he|rfl
   .exact he
   .rcases aJ F with⟨rfl,rfl,H⟩|⟨_,_,_,H,_⟩
    .cases H;have z1:h0=0:=by simp at a4;exact a4
     have z2:l0=0:=A2;have z3:mm=0:=by
      rcases N with⟨_,rfl⟩|⟨_,_,N⟩<;>omega
     subst z1;subst z2;subst z3;exact .nil
    .cases H
  refine⟨⟨_,M,?_⟩,⟨_,rfl⟩,W9⟩;cases cc with
  | false=>exact .dat h1 I f2 A2 rfl
  | true =>
    refine .clp h1 I f2 A2 rfl ?_;show mm-l0=h0-l0;rw[b5 rfl]
 have B:∀ {hv y:Value} {kk:IntKind} {q:Nat},VR ρ hv y->AJ hv=true->D9 Ora.env hv=.int kk (.ofNat q)->∃ j,y=.int j (.ofNat q):=fun h1 F h3=>EJ h1 F h3
 have p:∀ {m:Mem} {g hv:Value} {cc:Bool},gV m b i tg g hv cc=some (v,m')->AJ hv=true:=fun h=>by
  unfold gV at h;exact(B8 (A3 h).1).2
 have main:∀ g,(lo'=none/\g=.int .i64 0∨∃ y,lo'=some y/\VR ρ g y)->ND m b i tg cl g hi mx=some (v,m')->(∃ r,(Instr.sliceAt t (.slice a n c) lo' hi' mx').run P w=.ok r w/\VR ρ v r)/\K3 m m'/\m.lg.le m'.lg:=fun g E h=>by
  cases hi with
  | some hv =>
    obtain⟨ai,rfl,C⟩:=f Q;cases mx with
    | none =>
      cases d J;have h:gV m b i tg g hv false=some (v,m'):=h;have hint:=p h;obtain⟨kk,q,H⟩:∃ kk q,D9 Ora.env hv=.int kk q:=by
       obtain⟨k,z,_,f2,_⟩:=N1 C (A1 hint);exact⟨k,z,f2⟩
      exact go (hh:=q.toNat) (mm:=c) h E fun R A h1 F=>by
       rw[H]at h1;injection h1 with _ h1
       subst h1;obtain⟨j,rfl⟩:=B C hint H;have e:(Int.ofNat A).toNat=A:=rfl;rw[e];exact⟨rfl,.inl ⟨rfl,rfl⟩,fun h=>(by cases h),.inr ⟨j,rfl,A2⟩,A2,fun h=>by cases h⟩
    | some x =>
      obtain⟨x',rfl,az⟩:=f J;have h:(bif SI hv x then gV m b i tg g hv true else none)=some (v,m'):=h;obtain⟨L,h⟩:=A3 h;have hint:=p h
      have:=A0C L C az;subst this;obtain⟨kk,q,H⟩:∃ kk q,D9 Ora.env hv=.int kk q:=by
       obtain⟨k,z,_,f2,_⟩:=N1 C (A1 hint);exact⟨k,z,f2⟩
      exact go (hh:=q.toNat) (mm:=q.toNat) h E fun R A h1 F=>by
       rw[H]at h1;injection h1 with _ h1
       subst h1;obtain⟨j,rfl⟩:=B C hint H;have e:(Int.ofNat A).toNat=A:=rfl;rw[e];exact⟨rfl,.inr ⟨j,rfl,A2⟩,fun h=>(by cases h),.inr ⟨j,rfl,A7 _⟩,A7 _,fun _=>rfl⟩
  | none =>
    cases d Q;cases mx with
    | some x=>cases h
    | none =>
      cases d J;unfold ND at h;simp only at h;split at h
      .rename_i hv m1 hl;have S:K3 m1 m'/\m1.lg.le m'.lg:=by
        unfold gV at h;obtain⟨_,h⟩:=A3 h;rw[O4]at h;simp only[D6,L9]at h;obtain⟨_,rfl⟩:=h;exact⟨⟨_,rfl⟩,W9⟩
       obtain⟨W,A,q3,q4⟩:=mH (ρ:=ρ) hl e1 (hS.le S.2);obtain⟨r1,r2,r3⟩:=go (hh:=rows.length) (mm:=c) h E fun R A h1 F=>by
        rw[q4]at h1;injection h1 with _ h1
        have h1:((rows.length:Nat):Int)=(A:Nat):=h1;have:A=rows.length:=A2;subst this;refine⟨rfl,.inl ⟨rfl,rfl⟩,fun _=>rfl,.inl ⟨rfl,hn.symm⟩,A2,fun hc=>?_⟩
        have:=av hc;have:c=n:=this;omega
       exact⟨r1,A.trans r2,q3.trans r3⟩
      .cases h
 cases lo with
 | none=>exact main _ (.inl ⟨d O,rfl⟩) h
 | some y=>obtain⟨Y,W,A⟩:=f O;exact main _ (.inr ⟨Y,W,A⟩) h
end
end
section
open Go
variable [Ora]
section
variable {P:Program} {base:Nat} {ρ ρ':Ren} {m m':Mem} {w w':World}
def P5(R:Nat->Option Obj)(rows:List (List U))(wd:Nat)(C:Array Value)(o:Nat):Prop :=
 (∀ row ∈ rows,row.length=wd)/\∀ (r:Nat) (row:List U) (j:Nat) (u:U) (v:Value),rows[r]? = some row->row[j]? = some u->C[o+r*wd+j]? = some v->Enc R u v
def P5.mono{R d:Nat->Option Obj}{rows:List (List U)}{wd:Nat}{C:X4}(h:P5 R rows wd C o)(hs:Sub R d):P5 d rows wd C o:=⟨h.1,fun r row j u v a b c=>(h.2 r row j u v a b c).mono hs⟩
def P5.nil{R:Nat->Option Obj}{wd:Nat}{C:X4}:P5 R [] wd C o:=⟨fun _ h=>by(cases h),fun r row j u v h=>by simp at h⟩
def oJ{wd:Nat}:∀ {n:Nat} {l:List U} {r:List (List U)},l7 wd n l=some r->r.length=n/\l.length=n*wd/\(∀ row ∈ r,row.length=wd)/\∀ (q:Nat) (row:List U) (j:Nat) (u:U),r[q]? = some row->row[j]? = some u->l[q*wd+j]? = some u
 | 0,[],r,h=>by cases h;exact⟨rfl,by simp,fun _ h=>(by cases h),fun q row j u h=>by simp at h⟩
 | 0,_::_,r,h=>by cases h
 | n+1,l,r,h=>by
   unfold l7 at h;split at h
   .rename_i hle;split at h
    .rename_i g hr;cases h;obtain⟨h1,f,h3,e⟩:=oJ hr;have c:l.length=(n+1)*wd:=by
      rw[D7]at f;rw[I3];omega
     refine⟨by simp[h1],c,fun row b=>?_,fun q row j u g1 g2=>?_⟩
     .rcases B3.1 b with rfl|b
      .simp;omega
      .exact h3 row b
     .cases q with
      | zero =>
        simp at g1;subst g1;have d:=(B1.1 g2).1;simp at d;rw[F0 A2]at g2
        simpa using g2
      | succ q =>
        have:=e q row j u (by simpa using g1) g2;rw[I7]at this;rw[show(q+1)*wd+j=wd+(q*wd+j) by rw[I3];omega];exact this
    .cases h
   .cases h
def pY{wd:Nat}:∀ (n:Nat) (l:List U),l.length=n*wd->∃ r,l7 wd n l=some r
 | 0,[],_=>⟨[],rfl⟩
 | 0,_::_,h=>by simp at h
 | n+1,l,h=>by
   rw[I3]at h;obtain⟨r,hr⟩:=pY (wd:=wd) n (l.drop wd) (by rw[D7];omega);refine⟨l.take wd::r,?_⟩;unfold l7;rw[A8 A2,hr]
def oU{R:Nat->Option Obj}{wd n:Nat}{rows:List (List U)}(h:c9 R us vs)(c:l7 wd n us=some rows):P5 R rows wd ⟨vs⟩ 0:=by
 obtain⟨h1,d,h3,b⟩:=oJ c;refine⟨h3,fun r row j u v g1 g2 g3=>h.2 _ u v (b r row j u g1 g2) ?_⟩
 simpa using g3
def zE{α:Type}{l:List α}:∀ n,(PO l n).length=n*l.length
 | 0=>by simp[PO]
 | n+1=>by simp[PO,zE n,I3];omega
def iM(s:List UInt8):(kM s).length=s.length:=by simp[kM]
def KL{R:Nat->Option Obj}(s:List UInt8):P5 R (kM s) 1 ⟨Q0 s⟩ 0:=by
 refine⟨fun row hr=>?_,fun r row j u v g1 g2 g3=>?_⟩
 .unfold kM at hr;obtain⟨b,_,rfl⟩:=I6.1 hr;rfl
 .unfold kM at g1;rw[F8]at g1;cases c:s[r]? with
  | none=>rw[c]at g1;cases g1
  | some b =>
    rw[c]at g1;simp only[L8,D6]at g1;subst g1;cases j with
    | zero =>
      simp at g2;subst g2;have g3:(Q0 s)[0+r*1+0]? = some v:=by simpa using g3
      unfold Q0 at g3;rw[F8,show 0+r*1+0=r by omega,c]at g3;simp only[L8,D6]at g3;subst g3;exact .sc rfl
    | succ j=>simp at g2
def uV{G:Nat->Option Obj}{wd n c:Nat}{rows:List (List U)}(h:Enc G (.seq false wd rows) (.slice (some a) n c))(E:∀ k A,G k=some A->w.heap[k]? = some A) :
  n=rows.length/\∃ new',new'.length=rows.length*wd/\new'.all o8=true/\P5 G rows wd ⟨new'⟩ 0/\∀ (j:Nat) (v':Value),new'[j]? = some v'->w.cell? (a.add j)=some v':=by
 cases h with
 | sc h=>cases h
 | emp=>exact⟨rfl,[],by simp,rfl,.nil,fun j v' h=>by simp at h⟩
 | sl H D B hw f =>
   rename_i a o C T fz;refine⟨rfl,?_⟩;cases hr:rows with
   | nil=>exact⟨[],by simp,rfl,.nil,fun j v' h=>by simp at h⟩
   | cons I J =>
     have l:rows≠[]:=by rw[hr];simp
     rw[<- hr];have hh:=E _ _ (D l);have B:=B l;have hlen:((C.toList.drop o).take (rows.length*wd)).length=rows.length*wd:=by simp;omega
     have b:∀ j,j<rows.length*wd->((C.toList.drop o).take (rows.length*wd))[j]? = C[o+j]? := fun j d=>by
      rw[F0 d,I7];simp
     refine⟨_,hlen,?_,⟨hw,fun r row j u v g1 g2 g3=>?_⟩,fun j v' d=>?_⟩
     .refine D5.2 fun v hv=>?_
      obtain⟨j,d,e⟩:=m6 hv;rw[hlen]at d;have t:C[o+j]? = some v:=by rw[<- b j d,A5 (by rw[hlen];exact d),e]
      have p:0<wd:=by
       rcases T6 wd with h0|h0
       .subst h0;omega
       .exact h0
      have h1:j / wd<rows.length:=by rw[Nat.div_lt_iff_lt_mul p];exact d
      have y:(rows[j / wd]).length=wd:=hw _ (O1 h1);have h3:j%wd<wd:=qE _ p;refine mT (f (j / wd) rows[j / wd] (j%wd) (rows[j / wd])[j%wd] v (A5 h1) (A5 (by rw[y];exact h3)) ?_);have:o+j / wd*wd+j%wd=o+j:=by have:=Nat.div_add_mod j wd;rw[bQ]at this;omega
      rw[this];exact t
     .have F:0+r*wd+j<rows.length*wd:=by
       have x:=(B1.1 g1).1;have q:=(B1.1 g2).1;rw[hw _ (D1 g1)]at q;have y:(r+1)*wd<=rows.length*wd:=F9 wd x;rw[I3]at y;omega
      have g3:((C.toList.drop o).take (rows.length*wd))[0+r*wd+j]? = some v:=by simpa using g3
      rw[b _ F]at g3;exact f r row j u v g1 g2 (by rw[show o+r*wd+j=o+(0+r*wd+j) by omega];exact g3)
     .have g:=(B1.1 d).1;rw[hlen]at g;rw[b j g]at d;rw[K8.add_none'];simp[World.cell?,hh,d]
structure YK (P:Program) (ρ':Ren) (w:World) (wd:Nat) (bh:Beh) (gs:List Nat) (y':Value) (rows2:List (List U)) (new':List Value):Prop where
 len:∀ wd',(Builtin.lenOf y').run P wd'=.ok rows2.length wd'
 first:∀ wd':World,wd'.heap=w.heap->(Builtin.firstCells wd rows2.length y').run P wd'=.ok ⟨new'⟩ wd'
 size:new'.length=rows2.length*wd
 flat:new'.all o8=true
 rows:∀ R,(∀ b ∈ gs,∀ l,ρ' b=some l->Sub l.G R)->P5 R rows2 wd ⟨new'⟩ 0
 ev:∀ c nul rows,Ora.env c=.seq nul wd rows->evU (dY wd (hole c (10+wd)) bh).1 ((dY wd (hole c (10+wd)) bh).2.map (D9 Ora.env))=tM nul wd rows rows2
def EV{R:Nat->Option Obj}(h:c9 R us vs):vs.all o8=true:=by
 refine D5.2 fun v hv=>?_
 obtain⟨j,b,e⟩:=m6 hv;have hu:j<us.length:=by rw[h.1];exact b
 exact mT (h.2 j us[j] v (A5 hu) (by rw[A5 b,e]))
def VW{td:Td}(L:BX P td){e:TypeId}{wd:Nat}{y y':Value}{bh:Beh}{gs:H9}(h:HR P base ρ m.H w)(p:A3k td P m e wd y=some (bh,gs,sure,m'))(hf:K7 ρ m.n m'.hi)(O:VR ρ y y')(hS:Sat m'.lg)(X:0<wd)(Z:H6 P e=some wd) :
  ∃ ρ' d new',St P base ρ ρ' m m' w w/\m.lg.le m'.lg/\q8 ρ m m'/\(∀ b ∈ gs,Hp.get m'.H b=some .frz/\∃ l,ρ' b=some l)/\YK P ρ' w wd bh gs y' d new'/\(sure=true->d≠[]):=by
 unfold A3k at p;split at p
 .cases p;cases Q3 O;refine⟨ρ,[],[],St.refl h,.refl _,.refl,fun b I=>(by cases I),⟨fun _=>rfl,fun _ _=>rfl,by simp,rfl,fun R _=>.nil,fun c g rows B=>?_⟩,fun h=>by cases h⟩;show evU (.snoc wd) [Ora.env c]=_;rw[B];show(if wd=wd/\wd≠0 then(match l7 wd (([]:List U).length / wd) []with|some r=>tM g wd rows r|none=>.none)else .none)=_;rw[A8 ⟨rfl,A2⟩,J3,Nat.zero_div];rfl
 .rename_i a n c;split at p
  .rename_i cs ts hr Y;split at p
   .rename_i xs ay m2 hd;cases p;have V:fF m wd (.slice (some a) n c)=some (n,cs):=by simp only[fF,hr]
    obtain⟨f1,new',f2,f3⟩:=vY h V O;obtain⟨ρ2,F,N,Q,A,W,K⟩:=jC L h hd hf f2 hS;have T:ts.length=wd:=by have:=jF Y;rw[Z]at this;exact(A9 this).symm
    have E:(xs.map (D9 Ora.env)).length=n*wd:=by
     have:=E1 List.length W;rw[E7,zE,T]at this;exact this
    obtain⟨d,G⟩:=pY (wd:=wd) n (xs.map (D9 Ora.env)) E;obtain⟨g1,g2,g3,g4⟩:=oJ G;refine⟨ρ2,d,new',F,N,Q,A,⟨fun q=>by rw[g1];exact f1 q,fun q D=>by rw[g1];exact f3 q D,?_,?_,fun R hR=>oU (K R hR) G,fun c g rows B=>?_⟩,fun hs=>?_⟩
    .have:=(K (fun k=>w.heap[k]?) (fun b I l hl k o hk=>by
      obtain⟨J,_⟩:=A b I;exact(F.hr.atl hl J).1.2 k o hk)).1
     rw[<- this,E,g1]
    .exact EV (K (fun k=>w.heap[k]?) (fun b I l hl k o hk=>by
      obtain⟨J,_⟩:=A b I;exact(F.hr.atl hl J).1.2 k o hk))
    .show evU (.snoc wd) (Ora.env c::xs.map (D9 Ora.env))=_;rw[B];show(if wd=wd/\wd≠0 then(match l7 wd ((xs.map (D9 Ora.env)).length / wd) (xs.map (D9 Ora.env))with|some r=>tM g wd rows r|none=>.none)else .none)=_;rw[A8 ⟨rfl,A2⟩,E,v6 _ X,G]
    .have:0<n:=A1 hs;intro he;subst he;simp at g1;omega
   .cases p
  .cases p
 .split at p
  .rename_i x b m2 hd;cases p;obtain⟨ρ2,l,F,N,Q,A,W,K,e7⟩:=L.ok h hd hf O hS;obtain⟨az,f,d,J,q2⟩:=gU A W A2;have S:f=wd:=A2;subst S;have hG:=(F.hr.atl N Q).1.2;rw[J]at A;have M:∀ c g rows,Ora.env c=.seq g f rows->evU (dY f (hole c (10+f)) (.rows x)).1 ((dY f (hole c (10+f)) (.rows x)).2.map (D9 Ora.env))=tM g f rows d:=fun c g rows B=>by
    show evU (.cat f) [Ora.env c,D9 Ora.env x]=_;rw[B,J];simp[evU]
   have t:∀ b' ∈ [b],Hp.get m'.H b'=some .frz/\∃ l,ρ2 b'=some l:=fun b' C=>by
    rcases B3.1 C with rfl|C
    .exact⟨Q,l,N⟩
    .cases C
   rcases aJ A with⟨rfl,rfl,rfl⟩|⟨rfl,a,c,rfl,B⟩
   .exact⟨ρ2,[],[],F,K,e7,t,⟨fun _=>rfl,fun _ _=>rfl,by simp,rfl,fun R _=>.nil,M⟩,fun h=>by cases h⟩
   .obtain⟨_,new',g1,g2,g3,g4⟩:=uV (w:=w) A hG;refine⟨ρ2,d,new',F,K,e7,t,⟨fun _=>rfl,fun q D=>?_,g1,g2,fun R hR=>g3.mono (hR b (.head _) l N),M⟩,fun h=>by cases h⟩;rw[show Builtin.firstCells f d.length (.slice (some a) d.length c)=loadCells a (d.length*f)from rfl];exact mG g1 fun j v' hj=>by rw[cJ D];exact g4 j v' hj
  .cases p
 .obtain⟨h1,p⟩:=A3 p;obtain⟨h2,h3⟩:=B8 h1;have h4:=A0 h2;have h5:=A0 h3;cases p;subst h5;obtain⟨s,rfl,f1⟩:=s8 O h4;refine⟨ρ,kM s,Q0 s,St.refl h,.refl _,.refl,fun b I=>(by cases I),⟨fun _=>?_,fun q _=>?_,by simp[kM,Q0],?_,fun R _=>KL s,fun c g rows B=>?_⟩,fun h=>by cases h⟩
  .rw[iM];rfl
  .rw[iM];have e:((ByteArray.extract ⟨⟨s⟩⟩ 0 s.length).data.map fun b=>Value.int .u8 b.toNat)=⟨Q0 s⟩:=by
    rw[hY];apply J5;simp[Q0]
   show(pure ((ByteArray.extract ⟨⟨s⟩⟩ 0 s.length).data.map fun b=>Value.int .u8 b.toNat):Sem X4).run P q=_;rw[e];rfl
  .refine D5.2 fun v hv=>?_
   unfold Q0 at hv;obtain⟨b,_,rfl⟩:=I6.1 hv;rfl
  .show evU .cats [Ora.env c,D9 Ora.env y]=_;rw[B,f1];simp[evU]
end
end
section
open Go
variable [Ora]
section
variable {P:Program} {base:Nat} {ρ ρ':Ren} {m m':Mem} {w w':World}
def Sub.trans{A B C:Nat->Option Obj}(h:Sub A B)(k:Sub B C):Sub A C:=fun q o b=>k q o (h q o b)
structure A4A (P:Program) (base:Nat) (ρ:Ren) (m:Mem) (w:World) (e:TypeId) (wd c:Nat) (gs:List Nat) (old:Option Nat) (x':Value):Prop where
 ex:∃ nul rows,Ora.env c=.seq nul wd rows/\((nul=true/\rows=[]/\x'=.slice none 0 0/\(∀ b,old=some b->∃ ab l,b<=I4/\Hp.get m.H b=some ab/\ab.rw=true/\ρ b=some l/\l.on=false)) ∨
  (nul=false/\∃ b ab l cap C fz,old=some b/\b<=I4/\Hp.get m.H b=some ab/\ab.rw=true/\ρ b=some l/\l.on=true/\x'=.slice (some ⟨l.blk,l.sh,none⟩) rows.length cap/\w.heap[l.blk]? = some (.cells C e fz) /\
    rows.length<=cap/\l.sh+cap*wd<=C.size/\(∀ i,i<C.size->¬ (fz.1<=i/\i<fz.2))/\∀ R,(∀ b ∈ gs,∀ l,ρ b=some l->Sub l.G R)->P5 R rows wd C l.sh))
def NZ{td:Td}(ay:BX P td){e:TypeId}{wd c:Nat}{x x':Value}{gs:H9}{old:Option Nat}(h:HR P base ρ m.H w)(d:FL td P m e wd x=some (c,gs,old,m'))(hf:K7 ρ m.n m'.hi)(hx:VR ρ x x')(hS:Sat m'.lg)(ax:0<wd)(p:H6 P e=some wd) :
  ∃ ρ',St P base ρ ρ' m m' w w/\m.lg.le m'.lg/\q8 ρ m m'/\A4A P base ρ' m' w e wd c gs old x':=by
 unfold FL at d;split at d
 .rw[O4]at d;simp only[hole]at d;cases d;cases Q3 hx;obtain⟨t,e2,_⟩:=kW hS (.refl _);refine⟨ρ,St.wLg h _,W9,q8.lg _,⟨true,[],t,.inl ⟨rfl,rfl,rfl,fun b hb=>by cases hb⟩⟩⟩
 .rename_i b i tg;split at d
  .rename_i c0 tc T g S;obtain⟨h1,d⟩:=A3 d;obtain⟨h1,L⟩:=B8 h1;obtain⟨h1,h3⟩:=B8 h1;obtain⟨L,E⟩:=B8 L;have h1:=A0 h1;have h3:=A0 h3;have L:=A0 L;have E:=A1 E;cases d;subst L;obtain⟨X,bz⟩:=gM hx;rcases X with⟨l,ak,g1,g2,g3,rfl⟩|⟨l,ak,aj,g1,g2,g3,g4,br,rfl⟩
   .obtain⟨I,inf,t,e2,e3,f⟩:=SqR.ex (h.atl g1 S).1;rcases f with⟨_,f⟩|⟨f,_⟩
    .have:I=wd:=A2;subst this;refine⟨ρ,St.refl h,.refl _,.refl,⟨true,[],f,.inl ⟨rfl,rfl,rfl,fun b' aq=>?_⟩⟩⟩;cases aq;exact⟨_,l,E,S,rfl,g1,g2⟩
    .rw[g2]at f;cases f
   .obtain⟨I,inf,t,e2,e3,f⟩:=SqR.ex (h.atl g1 S).1;rcases f with⟨f,_⟩|⟨_,f⟩
    .rw[g2]at f;cases f
    .obtain⟨C,fz,T',rows,lg,f1,f2,f3,f4,f5,f6,f7,f8,f9⟩:=f;have:I=wd:=A2;subst this;obtain⟨rfl,f10⟩:=f9 rfl;exact⟨ρ,St.refl h,.refl _,.refl,⟨false,rows,f2,.inr ⟨rfl,b,_,l,l.cap,C,fz,rfl,E,S,rfl,g1,g2,by rw[f3],f1,A2,f5,f10,fun R hR=>⟨f6,fun r row j u v q1 q2 q3=>(f8 r row j u v q1 q2 q3).mono (hR g (.head _) lg f7)⟩⟩⟩⟩
  .cases d
 .rename_i b n c0;split at d
  .rename_i cs T0 bu ts S au;obtain⟨hq,k⟩:=A3 d;obtain⟨az,aw⟩:=B8 hq;have h1:=A0 az;clear d;split at k
   .rename_i xs bw m1 hd;split at k
    .rename_i bs T Y;obtain⟨K,O⟩:=A3 k;clear k;obtain⟨K,E⟩:=B8 K;have h3:=A0 K;have E:=A1 E;subst h3;rw[O4]at O;simp only[hole]at O;cases O;have an:K7 ρ m.n m1.hi:=by simpa using hf
     have ah:Sat m1.lg:=S3.le hS W9;obtain⟨l,cap,q,bx,ad,af⟩:∃ l cap,ρ b=some l/\n<=cap/\(cap=n∨cap=l.cap)/\x'=.slice (some ⟨l.blk,0+l.sh,none⟩) n cap:=by
      rcases(J4 _ _).mp aw with D|D
      .obtain⟨J,N⟩:=B8 D;have J:=A0 J;have N:c0<N4:=A1 N;rcases P8 hx with⟨l,q,_,F,rfl⟩|⟨l,c',q,_,ag,V,W,rfl⟩|⟨a',c',_,_,D,_⟩
       .exact⟨l,c0,q,A2,.inl J,rfl⟩
       .omega
       .omega
      .have D:=A0 D;rcases P8 hx with⟨l,q,_,F,rfl⟩|⟨l,c',q,_,ag,V,W,rfl⟩|⟨a',c',_,_,N,_⟩
       .omega
       .exact⟨l,c',q,V,.inr (W D rfl),rfl⟩
       .omega
     obtain⟨⟨ai,C,fz,T1,f1,f2,_⟩,_⟩:=h.atl q S;obtain⟨cs',f4,f5⟩:=eP (ρ:=ρ) (C:=C) (cs:=cs) (s:=l.sh) f2;obtain⟨aa,t,e2,e3,f,e5,e6⟩:=jC ay h hd an f4 ah;obtain⟨⟨_,C1,bt,T2,g1,g2,g3⟩,_⟩:=t.hr.atl (t.ext _ _ q) Y;rw[f1]at g1;cases g1;obtain⟨rfl,g4,g5⟩:=g3 rfl;have B:=jF au;rw[p]at B;have F:ts.length=wd:=(A9 B).symm;have Z:(xs.map (D9 Ora.env)).length=n*wd:=by
      have:=E1 List.length e5;rw[E7,zE,F]at this;exact this
     obtain⟨rows,M⟩:=pY (wd:=wd) n (xs.map (D9 Ora.env)) Z;obtain⟨q1,q2,q3,q4⟩:=oJ M;obtain⟨d1,d2,_⟩:=kW hS (.refl _);have D:Ora.env m1.lg.nx=.seq false wd rows:=by
      rw[d1];show(if wd=0 then U.none else match l7 wd ((xs.map (D9 Ora.env)).length / wd) (xs.map (D9 Ora.env))with|some r=>.seq false wd r|none=>.none)=_;rw[A6 A2,Z,v6 _ ax,M]
     have ao:cs'.length=n*wd:=by rw[<- f4.1];exact h1
     obtain⟨inf,y,A⟩:∃ inf,P.info? T1=some inf/\inf.size=wd:=by
      unfold H6 at p;cases hi:P.info? T1 with
      | none=>rw[hi]at p;cases p
      | some inf=>rw[hi]at p;exact⟨inf,rfl,A9 p⟩
     have Q:l.sh+cap*wd<=C.size:=by
      rcases ad with rfl|rfl
      .rcases T6 (cap*wd)with h0|h0
       .rw[h0]
        have:=g5 inf y;rw[A]at this;omega
       .have G:cap*wd-1<cs'.length:=A2
        have:=f5 (cap*wd-1) cs'[cap*wd-1] (A5 G)
        have:=(D0.1 this).1;omega
      .have:=g5 inf y;rw[A]at this;exact this.1
     have av:=St.wLg t.hr (fZ m1 (10+wd) (.mk wd) xs);refine⟨aa,St.trans (by simpa using hf) t av,e2.trans W9,fun j lj hj al=>by rw[lL];exact e3 j lj hj al,⟨false,rows,D,.inr ⟨rfl,b,_,l,cap,C,fz,rfl,E,by rw[lL];exact Y,rfl,t.ext _ _ q,ai,by rw[af,q1,F7],f1,A2,Q,g4,fun R hR=>?_⟩⟩⟩;obtain⟨r1,r2⟩:=oU (e6 R hR) M;refine⟨r1,fun r row j u v a1 a2 a3=>r2 r row j u v a1 a2 ?_⟩;have hq:r*wd+j<cs'.length:=by
      have ar:=(B1.1 a1).1;have ae:=(B1.1 a2).1;rw[r1 _ (D1 a1)]at ae;have L:(r+1)*wd<=rows.length*wd:=F9 wd ar;rw[I3]at L;rw[ao,<- q1];omega
     have:=f5 (r*wd+j) cs'[r*wd+j] (A5 hq);rw[show l.sh+r*wd+j=l.sh+(r*wd+j) by omega,this]at a3;have a3:=A9 a3;show(Array.mk cs')[0+r*wd+j]? = some v;rw[J2,show 0+r*wd+j=r*wd+j by omega,A5 hq,a3]
    .cases k
   .cases k
  .cases d
 .cases d
end
end
end Go.Sx
