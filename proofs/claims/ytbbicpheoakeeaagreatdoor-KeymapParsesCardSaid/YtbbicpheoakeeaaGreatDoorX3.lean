import Derived.Test.YtbbicpheoakeeaaGreatDoorX2
set_option linter.all false
set_option maxRecDepth 100000
set_option maxHeartbeats 4000000
namespace Go.Sx
variable {op:LOp}{s ty:TypeId}{hi i j o tg:Nat}{i' z z':Value}{u:U}{kh kk kl:IntKind}{hi' lo lo' mx mx':R2}{hs r' vs vs' xs:D3}{tys:List TypeId}{a:Addr}{m1:Mem}{row us:List U}{ts:H9}{cl sure:Bool}
section
open Go
variable [Ora]
section
variable {P:Program} {base:Nat} {ρ:Ren} {m m':Mem} {w:World}
def pk(k:IntKind)(n:Int):J0 (.int k n)=true:=rfl
def ZC{op:UnOp}{x x' v:Value}(h:JU m op x=some (v,m'))(hx:VR ρ x x')(l:Sat m'.lg)(w:World):∃ r,(Op.unary op x').run P w=.ok r w/\VR ρ v r:=by
 unfold JU at h;simp only at h;split at h
 .obtain⟨h1,h⟩:=A3 h;obtain⟨b,rfl,e⟩:=iI hx (A0 h1);obtain⟨u,c,g,r,f,d,_⟩:=N0 h l;simp only[C5,G1,e,evU,ev1,unM,ofV]at c;subst c;cases f;exact⟨_,(OM (P:=P) (ρ:=ρ) (op:=.not) (x:=.bool b) (v:=.bool !b) rfl (.pure rfl) w).1,d ρ⟩
 .obtain⟨h1,h⟩:=A3 h;obtain⟨k,n,rfl,e,_⟩:=N1 hx (A1 h1);obtain⟨u,c,g,r,f,d,p⟩:=N0 h l;simp only[C5,G1,e,evU,ev1]at c;subst c;obtain⟨r',g1,g2⟩:=GS (by rw[g];exact p);rw[f]at g2;cases g2;exact⟨_,(OM (P:=P) (ρ:=ρ) g1 (.pure (pk k n)) w).1,d ρ⟩
def OV{t:TypeId}{x x' v:Value}(h:qW P m s t x=some (v,m'))(hx:VR ρ x x')(g:Sat m'.lg)(w:World):∃ r,(convert s t x').run P w=.ok r w/\VR ρ v r:=by
 unfold qW at h;split at h
 .rename_i j k hs c;obtain⟨h1,h⟩:=A3 h;obtain⟨q,n,rfl,e,_⟩:=N1 hx (A1 h1);obtain⟨u,d,p,r,l,f,y⟩:=N0 h g;simp only[C5,G1,e,evU]at d;subst d;cases l;exact⟨_,by simp[convert,A4,D2 hs,D2 c,Result.andThen,Conv.intToInt],f ρ⟩
 .rename_i hs c;obtain⟨h1,h⟩:=A3 h;cases h;obtain⟨b,rfl,e⟩:=s8 hx (A0 h1);exact⟨_,by simp[convert,A4,D2 hs,D2 c,Result.andThen],hx⟩
 .cases h
def jH{t:Nat}:∀ {cs:D3},n7 t cs=true->∀ {i:Nat} {v:Value},cs[i]? = some v->G8 v=t
 | [],_,i,v,h=>by simp at h
 | c::r,hs,i,v,h=>by
   obtain⟨h1,b⟩:=B8 (show(Nat.beq (G8 c) t && n7 t r)=true from hs);cases i with
   | zero=>simp at h;subst h;exact A0 h1
   | succ i=>exact jH b (by simpa using h)
def ZV{t e:TypeId}{n:Nat}{cs:X4}{x' i v:Value}(hu:P.underlying t=some (.array n e))(y:bE P e=some false)(g:H6 P e=some 1)(D:cs.toList.length=n)(f:n7 tg cs.toList=true)(C:tg<10)
  (l:G8 i<8) (h:U6 m tg .sel (i::cs.toList)=some (v,m')) (hx:VR ρ (.agg cs) x') (hi:VR ρ i i') (B:Sat m'.lg) (w:World):∃ r,(Instr.index t x' i').run P w=.ok r w/\VR ρ v r:=by
 obtain⟨k,z,rfl,e,_⟩:=N1 hi l;obtain⟨u,c,E,r,d,A,F⟩:=N0 h B;simp only[C5,e]at c;cases z with
 | negSucc z=>simp only[evU]at c;subst c;cases d
 | ofNat z =>
   simp only[evU]at c;by_cases q:z<cs.toList.length
   .have b:cs.toList[z]? = some cs.toList[z]:=A5 q;have p:=jH f b;have hm:mK P t (.agg cs) (.int k (.ofNat z))=some cs.toList[z]:=by
     have x:Nat.blt z n=true:=C7 A2;simp only[mK,hu,g,x,E6,sC,y,Nat.mul_one];exact b
    obtain⟨v',g1,g2⟩:=uL (P:=P) hm hx (.pure rfl) w;obtain⟨f1,_⟩:=aV g2 A2;have:u=D9 Ora.env cs.toList[z]:=by
     rw[<- c,B2,F8,b];rfl
    rw[this,f1]at d;cases d;exact⟨_,g1,A ρ⟩
   .rw[B2,U3 (by simp at q ⊢;omega)]at c;subst c;cases d
def DJ{e:TypeId}(h:Nat.beq (m9.sizeD P e) 1=true):H6 P e=some 1:=by
 have h:=A0 h;unfold m9.sizeD at h;split at h
 .rename_i n b;rw[b,h]
 .cases h
def JX{t:TypeId}{x x' i v:Value}(h:m9 P m t x i=some (v,m'))(hx:VR ρ x x')(hi:VR ρ i i')(l:Sat m'.lg)(w:World):∃ r,(Instr.index t x' i').run P w=.ok r w/\VR ρ v r:=by
 unfold m9 at h;cases g:!(Nat.blt (G8 i) 8)with
 | true=>rw[g]at h;cases h
 | false =>
   have d:G8 i<8:=by
    have:Nat.blt (G8 i) 8=true:=by simpa using g
    exact A1 this
   rw[g]at h;simp only[E0]at h;split at h
   .rename_i hu;obtain⟨h1,h⟩:=A3 h;obtain⟨s,rfl,f1⟩:=s8 hx (A0 h1);obtain⟨k,z,rfl,f2,_⟩:=N1 hi d;obtain⟨u,c,A,r,p,y,B⟩:=N0 h l;simp only[C5,G1,f1,f2]at c;cases z with
    | negSucc z=>simp only[evU]at c;subst c;cases p
    | ofNat z =>
      simp only[evU]at c;split at c
      .rename_i b q;subst c;cases p;have hm:mK P t (.string ⟨⟨s⟩⟩) (.int k (.ofNat z))=some (.int .u8 b.toNat):=by
        simp only[mK,hu,q]
       obtain⟨v',g1,g2⟩:=uL (P:=P) (ρ:=ρ) hm (.pure rfl) (.pure rfl) w;cases J9 g2;exact⟨_,g1,y ρ⟩
      .subst c;cases p
   .rename_i n e hu;split at h
    .rename_i cs k he;obtain⟨h1,h⟩:=A3 h;obtain⟨h1,h3⟩:=B8 h1;obtain⟨h1,f⟩:=B8 h1;exact ZV hu (by simp[bE,he]) (DJ h3) (A0 h1) f (by have:=M4 k;omega) d h hx hi l w
    .rename_i cs he;obtain⟨h1,h⟩:=A3 h;obtain⟨h1,h3⟩:=B8 h1;obtain⟨h1,f⟩:=B8 h1;exact ZV hu (by simp[bE,he]) (DJ h3) (A0 h1) f A2 d h hx hi l w
    .cases h
   .cases h
def OY{t:TypeId}(hu:P.underlying t=some .string){s:List UInt8}{l h:Int}{r:Value}(b:KA s l h=u)(c:toV u=some r):dQ P t (.string ⟨⟨s⟩⟩) (some (.int kl l)) (some (.int kh h)) none=some r:=by
 unfold KA at b;split at b
 .rename_i l h;split at b
  .rename_i hh;subst b;cases c;have e:Nat.ble h (ByteArray.size ⟨⟨s⟩⟩)=true:=C7 hh.2;have d:Nat.ble l h=true:=C7 hh.1;simp only[dQ,hu,U7,e,d,E6]
  .subst b;cases c
 .subst b;cases c
def JV{t:TypeId}{x x' v:Value}{hi:R2}(h:lN P m t x lo hi mx=some (v,m'))(hx:VR ρ x x')(g:OR ρ lo lo')(f:OR ρ hi hi')(E:OR ρ mx mx')(F:Sat m'.lg)(w:World) :
  ∃ r,(Instr.sliceAt t x' lo' hi' mx').run P w=.ok r w/\VR ρ v r:=by
 have c:∀ {o:R2},OR ρ none o->o=none:=fun{o} h=>by cases o<;>first|rfl|exact h.elim
 have d:∀ {y:Value} {o:R2},OR ρ (some y) o->∃ H,o=some H/\VR ρ y H:=fun{y o} h=>by cases o<;>first|exact h.elim|exact⟨_,rfl,h⟩
 unfold lN at h;split at h
 .rename_i hu;cases c E;obtain⟨h1,h⟩:=A3 h;obtain⟨s,rfl,f1⟩:=s8 hx (A0 h1);have B:∀ {y:Value},VR ρ (.string ⟨⟨s⟩⟩) y->y=.string ⟨⟨s⟩⟩:=fun h=>V2 h
  split at h
  .cases h;cases c g;cases c f;have hm:dQ P t (.string ⟨⟨s⟩⟩) none none none=some (.string ⟨⟨s⟩⟩):=by
    have e:ByteArray.size ⟨⟨s⟩⟩=s.length:=rfl;simp[dQ,hu,U7,e]
   obtain⟨v',g1,g2⟩:=iJ (P:=P) (ρ:=ρ) (lo':=none) (hi':=none) (mx':=none) hm (.pure rfl) trivial trivial trivial w;cases V2 g2;exact⟨_,g1,hx⟩
  .obtain⟨p,h⟩:=A3 h;obtain⟨l',rfl,C⟩:=d g;cases c f;obtain⟨k,z,rfl,f2,_⟩:=N1 C (A1 p);obtain⟨u,l,G,r,n,A,I⟩:=N0 h F;simp only[C5,G1,f1,f2,evU]at l;have hm:=OY (P:=P) (kl:=k) (kh:=.i64) hu l n;have q:dQ P t (.string ⟨⟨s⟩⟩) (some (.int k z)) none none=some r:=by
    rw[<- hm];have e:ByteArray.size ⟨⟨s⟩⟩=s.length:=rfl;have b:Nat.ble s.length s.length=true:=C7 (A7 _);have D:((s.length:Nat):Int)=Int.ofNat s.length:=rfl;simp only[dQ,hu,U7,e,D,b,E6]
   obtain⟨v',g1,g2⟩:=iJ (P:=P) (ρ:=ρ) (lo':=some (.int k z)) (hi':=none) (mx':=none) q (.pure rfl) (VR.pure rfl:VR ρ _ _) trivial trivial w;have:VR ρ r v':=g2;have hp:=iG n;cases g2 with
   | pure _=>exact⟨_,g1,A ρ⟩
   | _=>simp[J0,ixp,Go.Sx.dat,Go.Sx.clp,Go.Sx.own,Go.Sx.dpt,Go.Sx.opt,Go.Sx.yv,Go.Sx.sdt]at hp
  .obtain⟨p,h⟩:=A3 h;obtain⟨J,rfl,hh⟩:=d f;cases c g;obtain⟨k,z,rfl,f2,_⟩:=N1 hh (A1 p);obtain⟨u,l,G,r,n,A,I⟩:=N0 h F;have f0:D9 Ora.env (.int .i64 0)=.int .i64 0:=rfl;simp only[C5,G1,f1,f2,f0,evU]at l;have hm:=OY (P:=P) (kl:=.i64) (kh:=k) hu l n;have q:dQ P t (.string ⟨⟨s⟩⟩) none (some (.int k z)) none=some r:=by
    rw[<- hm];have D:(0:Int)=Int.ofNat 0:=rfl;cases z with
    | negSucc z=>simp only[dQ,hu,U7]
    | ofNat z =>
      have K:Nat.ble 0 z=true:=C7 (dJ _);simp only[dQ,hu,U7,D];cases Nat.ble z (ByteArray.size ⟨⟨s⟩⟩)<;>simp[K]
   obtain⟨v',g1,g2⟩:=iJ (P:=P) (ρ:=ρ) (lo':=none) (hi':=some (.int k z)) (mx':=none) q (.pure rfl) trivial (VR.pure rfl:VR ρ _ _) trivial w;have hp:=iG n;cases g2 with
   | pure _=>exact⟨_,g1,A ρ⟩
   | _=>simp[J0,ixp,Go.Sx.dat,Go.Sx.clp,Go.Sx.own,Go.Sx.dpt,Go.Sx.opt,Go.Sx.yv,Go.Sx.sdt]at hp
  .obtain⟨p,h⟩:=A3 h;obtain⟨p,h3⟩:=B8 p;obtain⟨J,rfl,hh⟩:=d f;obtain⟨l',rfl,C⟩:=d g;obtain⟨k,z,rfl,f2,_⟩:=N1 C (A1 p);obtain⟨j,y,rfl,f3,_⟩:=N1 hh (A1 h3);obtain⟨u,l,G,r,n,A,I⟩:=N0 h F;simp only[C5,G1,f1,f2,f3,evU]at l;have hm:=OY (P:=P) (kl:=k) (kh:=j) hu l n;obtain⟨v',g1,g2⟩:=iJ (P:=P) (ρ:=ρ) (lo':=some (.int k z)) (hi':=some (.int j y)) (mx':=none) hm (.pure rfl) (VR.pure rfl:VR ρ _ _) (VR.pure rfl:VR ρ _ _) trivial w;have hp:=iG n;cases g2 with
   | pure _=>exact⟨_,g1,A ρ⟩
   | _=>simp[J0,ixp,Go.Sx.dat,Go.Sx.clp,Go.Sx.own,Go.Sx.dpt,Go.Sx.opt,Go.Sx.yv,Go.Sx.sdt]at hp
 .cases h
def CH{b:Builtin}{ks:Array Bool}{v:Value}(hr:HR P base ρ m.H w)(h:fA P m b vs tys=some (v,m'))(hx:LR ρ vs vs')(p:Sat m'.lg) :
  ∃ s:Sem Value,builtin b ⟨tys⟩ ty ks ⟨vs'⟩=(do pure (.value (<- s)))/\∃ r,s.run P w=.ok r w/\VR ρ v r:=by
 unfold fA at h;split at h
 .obtain⟨x',r1,rfl,h1,g⟩:=hx.tail;cases g.nil_inv;split at h
  .rename_i hu;obtain⟨h3,h⟩:=A3 h;obtain⟨s,rfl,f1⟩:=s8 h1 (A0 h3);obtain⟨u,e,x,r,n,l,y⟩:=N0 h p;simp only[C5,G1,f1,evU]at e;subst e;cases n;rename_i t rest _ _;have hm:A11 P m t (.string ⟨⟨s⟩⟩)=some (.int .i64 s.length):=by simp[A11,hu]
   obtain⟨g1,_⟩:=UA (ρ:=ρ) (ty:=ty) (tys:=rest) hr hm (.pure rfl);exact⟨_,rfl,_,g1,l ρ⟩
  .cases h
 .obtain⟨x',r1,rfl,h1,g⟩:=hx.tail;obtain⟨A,C,rfl,h3,q⟩:=g.tail;cases q.nil_inv;obtain⟨d,h⟩:=A3 h;obtain⟨d,f⟩:=B8 d;have d:=A1 d;have f:=A0 f;obtain⟨k,a,rfl,f1,D⟩:=N1 h1 d;obtain⟨j,c,rfl,f2,B⟩:=N1 h3 (f▸d);obtain⟨u,e,x,r,n,l,y⟩:=N0 h p;simp only[C5,G1,f1,f2,evU]at e;subst e;cases n;obtain⟨g1,_⟩:=TT (P:=P) (ρ:=ρ) (ty:=ty) (tys:=⟨tys⟩) (vs:=[.int k a,.int j c]) rfl (.cons (.pure rfl) (.cons (.pure rfl) .nil)) w;exact⟨_,rfl,_,g1,l ρ⟩
 .obtain⟨x',r1,rfl,h1,g⟩:=hx.tail;obtain⟨A,C,rfl,h3,q⟩:=g.tail;cases q.nil_inv;obtain⟨d,h⟩:=A3 h;obtain⟨d,f⟩:=B8 d;have d:=A1 d;have f:=A0 f;obtain⟨k,a,rfl,f1,D⟩:=N1 h1 d;obtain⟨j,c,rfl,f2,B⟩:=N1 h3 (f▸d);obtain⟨u,e,x,r,n,l,y⟩:=N0 h p;simp only[C5,G1,f1,f2,evU]at e;subst e;cases n;obtain⟨g1,_⟩:=TR (P:=P) (ρ:=ρ) (ty:=ty) (tys:=⟨tys⟩) (vs:=[.int k a,.int j c]) rfl (.cons (.pure rfl) (.cons (.pure rfl) .nil)) w;exact⟨_,rfl,_,g1,l ρ⟩
 .cases h
def VY{v:Value}{k:IntKind}{n:Int}(h:D9 Ora.env v=.int k n):qC Ora.env v=some n:=by
 cases v with
 | complex k i t =>
   cases k with
   | f64 =>
     have h:Ora.env i=.int _ n:=h;simp only[qC,h]
   | f32=>cases h
 | int j n=>cases h;rfl
 | _=>cases h
def IW{v:Value}{n:Int}(h:qC Ora.env v=some n):∃ k,D9 Ora.env v=.int k n:=by
 cases v with
 | complex k i t =>
   cases k with
   | f64 =>
     simp only[qC]at h;split at h
     .rename_i k z he;cases h;exact⟨k,he⟩
     .cases h
   | f32=>cases h
 | int j n=>cases h;exact⟨j,rfl⟩
 | _=>cases h
def UO{s n:Nat}{i v:Value}(h:XP m a s n i=some (v,m'))(hi:VR ρ i i')(l:Sat m'.lg):v=ixp a s i n/\∃ k z,i'=.int k (.ofNat z)/\z<n/\qC Ora.env i=some (.ofNat z):=by
 unfold XP at h;cases e:!(Nat.blt (G8 i) 8)with
 | true=>rw[e]at h;cases h
 | false =>
   have f:G8 i<8:=by
    have:Nat.blt (G8 i) 8=true:=by simpa using e
    exact A1 this
   rw[e]at h;simp only[E0]at h;split at h
   .rename_i b H k W hh lg q;split at h
    .rename_i t g;cases h;obtain⟨u,p,A,r,c,x,_⟩:=N0 q (S3.le l (fU g));have d:=mV (ρ:=ρ) g (x ρ) l;subst d;obtain⟨y,z,rfl,f1,_⟩:=N1 hi f;have f0:D9 Ora.env (.int .i64 (.ofNat n))=.int .i64 (.ofNat n):=rfl;simp only[C5,G1,f1,f0,evU]at p;subst p;have c:(decide (0<=z) && decide (z<Int.ofNat n))=true:=by
      have:=A9 c;exact Value.bool.inj this
     simp only[G9,decide_eq_true_eq]at c;cases z with
     | negSucc z=>exact absurd c.1 (by simp)
     | ofNat z=>exact⟨rfl,y,z,rfl,by have:=c.2;simpa using this,VY f1⟩
    .cases h
   .cases h
def CD{t:TypeId}{x x' i v:Value}(h:eY P m t x i=some (v,m'))(hx:VR ρ x x')(hi:VR ρ i i')(q:Sat m'.lg)(w:World):∃ r,(Instr.indexAt t x' i').run P w=.ok r w/\VR ρ v r:=by
 unfold eY at h;split at h
 .rename_i n e a hu;split at h
  .rename_i s hs d;obtain⟨rfl,k,z,rfl,f,he⟩:=UO h hi q;obtain⟨l,p,_,rfl⟩:=P3 hx;have g:Nat.blt z n=true:=C7 f;have hm:Y6 P t (.pointer (some a)) (.int k (.ofNat z))=some (.pointer (some ⟨a.block,a.off+z*s,none⟩)):=by
    simp only[Y6,hu,hs,d,g,E6,cD,E9]
   obtain⟨v',g1,g2⟩:=dE (P:=P) hm hx (.pure rfl) w;obtain⟨l2,b,_,rfl⟩:=P3 g2;have b:ρ a.block=some l2:=b;rw[p]at b;cases b;exact⟨_,g1,.ixp p d he f rfl⟩
  .cases h
 .rename_i e a n c hu;split at h
  .rename_i s hs d;cases y:Nat.beq c (N4+2)with
   | true=>rw[y]at h;cases h
   | false =>
     rw[y]at h;obtain⟨rfl,k,z,rfl,f,he⟩:=UO h hi q;have g:Nat.blt z n=true:=C7 f;have hm:Y6 P t (.slice (some a) n c) (.int k (.ofNat z))=some (.pointer (some ⟨a.block,a.off+z*s,none⟩)):=by
      simp only[Y6,hu,hs,d,g,E6,cD,E9]
     obtain⟨v',g1,g2⟩:=dE (P:=P) hm hx (.pure rfl) w;obtain⟨l2,b,_,rfl⟩:=P3 g2;have b:ρ a.block=some l2:=b;exact⟨_,g1,.ixp b d he f rfl⟩
  .cases h
 .cases h
def UQ{s n:Nat}{i v':Value}(h:VR ρ (ixp a s i n) v'):∃ l z,ρ a.block=some l/\a.spot=none/\qC Ora.env i=some (.ofNat z)/\z<n/\v'=.pointer (some ⟨l.blk,a.off+z*s+l.sh,none⟩):=by
 generalize hx:ixp a s i n=x at h;cases h with
 | ixp h hs hi b hv =>
   simp only[ixp,Value.func.injEq,g8,K0,Value.pointer.injEq,D6,Value.int.injEq,lE,true_and,and_true]at hx;obtain⟨rfl,rfl,rfl,rfl⟩:=hx;exact⟨_,_,h,hs,hi,b,hv⟩
 | pure hp=>subst hx;simp[ixp,J0]at hp
 | _=>simp[ixp,Go.Sx.dat,Go.Sx.clp,Go.Sx.own,Go.Sx.dpt,Go.Sx.opt,Go.Sx.yv,Go.Sx.sdt]at hx
def CF{x x' v:Value}(h:eZ P m s x i=some (v,m'))(hx:VR ρ x x')(w:World):∃ r,(Instr.fieldAt s x' i).run P w=.ok r w/\VR ρ v r:=by
 unfold eZ at h;split at h
 .rename_i a k j n;split at h
  .rename_i q hu;split at h
   .rename_i f d c;split at h
    .rename_i z e;cases h;obtain⟨l,y,h1,p,h3,g,rfl⟩:=UQ (n:=n) (s:=k) (i:=j) hx;have hm:dF P s (.pointer (some ⟨a.block,a.off+y*k,none⟩)) i=some (.pointer (some ⟨a.block,a.off+y*k+f.offset,none⟩)):=by
      simp only[dF,hu,d,e,cD,E9]
     obtain⟨v',g1,g2⟩:=mO (P:=P) (ρ:=ρ) hm (.ptr h1) w;obtain⟨l2,b,_,rfl⟩:=P3 g2;have b:ρ a.block=some l2:=b;rw[h1]at b;cases b;refine⟨_,g1,?_⟩;simp only[cD,E9];refine .ixp (a:=⟨a.block,a.off+f.offset,none⟩) h1 rfl h3 g ?_;simp only[Value.pointer.injEq,D6,Addr.mk.injEq,true_and,and_true];omega
    .cases h
   .cases h
  .cases h
 .cases h
def vG{cs:D3}{s:Nat}:∀ {n o:Nat} {l:D3},xQ cs s o n=some l->l.length=n/\∀ z,z<n->cs[o+z*s]? = l[z]?
 | 0,o,l,h=>by cases h;exact⟨rfl,fun z c=>by omega⟩
 | n+1,o,l,h=>by
   unfold xQ at h;split at h
   .rename_i v r hv hr;cases h;obtain⟨h1,b⟩:=vG hr;refine⟨by simp[h1],fun z c=>?_⟩;cases z with
    | zero=>simpa using hv
    | succ z =>
      have:=b z A2;rw[Nat.succ_mul,show o+(z*s+s)=o+s+z*s by omega]
      simpa using this
   .cases h
def vH{cs cs':D3}{s n:Nat}{i:Value}{z:Nat}(he:qC Ora.env i=some (.ofNat z))(t:z<n)(y:LR ρ cs cs'):∀ {k o:Nat} {m m':Mem} {r:D3},cZ m cs s n i o k=some (r,m')->Sat m'.lg ->
  LR ρ r ((cs'.drop (o+z*s)).take k)/\r.length=k
 | 0,o,m,m',r,h,hS=>by cases h;exact⟨by simpa using LR.nil,rfl⟩
 | k+1,o,m,m',r,h,hS=>by
   unfold cZ at h;split at h
   .rename_i v l d;obtain⟨q,h⟩:=A3 h;obtain⟨q,e⟩:=B8 q;have e:G8 v<10:=A1 e;split at h
    .rename_i hh m1 h1;split at h
     .rename_i I m2 A;cases h;obtain⟨g,p⟩:=vH he t y A hS;obtain⟨u,f,G,C,B,E,_⟩:=N0 h1 (S3.le hS (gI A).1);obtain⟨g1,g2⟩:=vG d;have b:=g2 z t;have c:z<(v::l).length:=by rw[g1];exact t
      rw[A5 c]at b;obtain⟨H,f1,f2⟩:=y.get b;have x:=jH q (A5 c);obtain⟨t1,_⟩:=aV f2 A2;obtain⟨F,D⟩:=IW he;simp only[C5,D,evU]at f;have f:u=D9 Ora.env (v::l)[z]:=by
       rw[<- f];show(List.map (D9 Ora.env) (v::l)).getD z .none=_;rw[B2,F8,A5 c];rfl
      rw[f,t1]at B;cases B;refine⟨?_,by simp[p]⟩;have:(cs'.drop (o+z*s)).take (k+1)=C::(cs'.drop (o+1+z*s)).take k:=by
       rw[j9 (B1.1 f1).1,List.take_succ_cons,(B1.1 f1).2,show o+z*s+1=o+1+z*s by omega]
      rw[this];exact .cons (E ρ) g
     .cases h
    .cases h
   .cases h
def TV{t:TypeId}{l:Loc}{z s n k:Nat}{i:Value}{cs:D3}(h:HR P base ρ m.H w)(hr:y9 m a ((n-1)*s+k)=some cs)(d:ρ a.block=some l)(he:qC Ora.env i=some (.ofNat z))(g:z<n)(f:cZ m cs s n i 0 k=some (hs,m'))(e:Sat m'.lg) :
  ∃ rs,LR ρ hs rs/\rs.length=k/\∀ (j:Nat) (v':Value),rs[j]? = some v'->w.cell? ⟨l.blk,a.off+z*s+l.sh+j,none⟩=some v':=by
 obtain⟨r',h1,p,h3⟩:=i6 h hr d;obtain⟨g1,g2⟩:=vH he g h1 f e;rw[F7]at g1;refine⟨_,g1,g1.1▸g2,fun j v' c=>?_⟩;have b:j<k:=by
  have:=(B1.1 c).1;simp at this;omega
 rw[F0 b,I7]at c
 have:=h3 _ v' c;rw[show a.off+z*s+l.sh+j=a.off+l.sh+(z*s+j) by omega];exact this
def OT{t:TypeId}{x x' v:Value}(h:HR P base ρ m.H w)(b:qV P m t x=some (v,m'))(hx:VR ρ x x')(e:Sat m'.lg):∃ r,(Instr.loadAt t x').run P w=.ok r w/\VR ρ v r:=by
 unfold qV at b;split at b
 .rename_i a s i n;obtain⟨l,z,h1,p,h3,f,rfl⟩:=UQ (n:=n) (s:=s) (i:=i) hx;split at b
  .rename_i c;split at b
   .rename_i cs hr;split at b
    .rename_i hh m2 d;cases b;obtain⟨rs,g1,g2,g3⟩:=TV (t:=t) h hr h1 h3 f d e;obtain⟨v',A,rfl,k,q⟩:=g1.tail;refine⟨v',?_,k⟩
     have:=g3 0 v' rfl;simp[Instr.loadAt,Instr.sureAddr,loadVar,A4,cS c,Result.andThen,run_load,show w.cell? ⟨l.blk,a.off+z*s+l.sh,none⟩=some v' from by simpa using this]
    .cases b
   .cases b
  .rename_i y c g;split at b
   .rename_i cs hr;split at b
    .rename_i hh m2 d;cases b;obtain⟨rs,g1,g2,g3⟩:=TV (t:=t) h hr h1 h3 f d e;refine⟨.agg ⟨rs⟩,?_,.agg g1.1 g1.2⟩;simp[Instr.loadAt,Instr.sureAddr,loadVar,A4,cS c,L5 g,Result.andThen,K8 g2 g3]
    .cases b
   .cases b
  .cases b
 .cases b
def A4J{fr:Fr}{g:Operand->Value}{o:Oper}{v:Value}(h:HR P base ρ m.H w)(f:ZE P fr m o.op=some (v,m'))(B:FR ρ fr g o.op)(l:Sat m'.lg):NOk P base ρ m w (execOp g o) v m':=by
 obtain⟨_,lg,rfl⟩:=SA f;have q:St P base ρ ρ m (m.wLg lg) w w:=St.wLg h lg;obtain⟨dst,op,ty,pos,J,F⟩:=o;simp only at f B;have d:∀ {x},x ∈ op.operands.toList->VR ρ (ev fr x) (g x):=fun hx=>B _ hx
 have fin:∀ {s:Sem Value},(∃ r,s.run P w=.ok r w/\VR ρ v r)->NOk P base ρ m w (do pure (.value (<- s))) v (m.wLg lg):=fun{s} ⟨r,h1,D⟩=>NOk.of ⟨r,ρ,w,h1,D,q⟩
 unfold ZE at f;split at f
 .rename_i c a b;have C:=d (x:=c) (by simp[Op.operands]);unfold xO at f;obtain⟨H,n,W,hi,l0⟩:=m;simp only at f;split at f
  .rename_i l1 A;simp only[D6,L9]at f;obtain⟨rfl,f⟩:=f;have p:Sat l1:=by
    have:l1=(Mem.wLg ⟨H,n,W,hi,l0⟩ lg).lg:=by rw[<- f]
    rw[this];exact l
   have:=mV A C p;exact⟨g a,ρ,w,.inl (by simp[execOp,this,asBool]),d (by simp[Op.operands]),q⟩
  .rename_i l1 A;simp only[D6,L9]at f;obtain⟨rfl,f⟩:=f;have p:Sat l1:=by
    have:l1=(Mem.wLg ⟨H,n,W,hi,l0⟩ lg).lg:=by rw[<- f]
    rw[this];exact l
   have:=mV A C p;exact⟨g b,ρ,w,.inl (by simp[execOp,this,asBool]),d (by simp[Op.operands]),q⟩
  .cases f
 .rename_i op t x y K;have hx:=d (x:=x) (by simp[Op.operands]);have k:=d (x:=y) (by simp[Op.operands]);refine fin (s:=do eqGuard op t x y (g x) (g y);binOp op t (g x) (g y)) ?_;split at f
  .rename_i r hr;cases f;exact WF hr hx k l w
  .rename_i hr;exact ZF f hx k hr l w
 .rename_i op t x;exact fin (s:=Op.unary op (g x)) (ZC f (d (by simp[Op.operands])) l w)
 .exact fin (OV f (d (by simp[Op.operands])) l w)
 .rename_i t x lo hi mx;exact fin (s:=Instr.sliceAt t (g x) (lo.map g) (hi.map g) (mx.map g)) (JV f (d (x:=x) (by simp[Op.operands])) (jU (g:=g) fun y k=>d (by simp[Op.operands]at k ⊢;exact .inr (.inl k))) (jU (g:=g) fun y k=>d (by simp[Op.operands]at k ⊢;exact .inr (.inr (.inl k)))) (jU (g:=g) fun y k=>d (by simp[Op.operands]at k ⊢;exact .inr (.inr (.inr k)))) l w)
 .exact fin (JX f (d (by simp[Op.operands])) (d (by simp[Op.operands])) l w)
 .exact fin (CD f (d (by simp[Op.operands])) (d (by simp[Op.operands])) l w)
 .exact fin (CF f (d (by simp[Op.operands])) w)
 .rename_i t x;exact fin (s:=Instr.loadAt t (g x)) (OT h f (d (by simp[Op.operands])) l)
 .rename_i b xs tys;have l1:=dS (ρ:=ρ) (fr:=fr) (g:=g) (xs:=xs.toList) fun x hx=>d (by show x ∈ (#[]++xs:Array Operand).toList;simpa using hx)
  obtain⟨ks,E⟩:∃ ks,execOp g ⟨dst,.call ⟨.builtin b,xs,tys⟩,ty,pos,J,F⟩=builtin b tys ty ks (xs.map g):=⟨_,rfl⟩;obtain⟨s,e,hs⟩:=CH (ty:=ty) (ks:=ks) h f l1 l;have G:xs.map g=⟨xs.toList.map g⟩:=by apply J5;simp
  rw[E,G];have I:tys=⟨tys.toList⟩:=rfl;rw[I,e];exact fin hs
 .cases f
end
end
section
open Go
variable [Ora]
section
variable {P:Program} {base:Nat} {ρ ρ':Ren} {m m':Mem} {w w':World}
def K7.step(e:K7 ρ m.n hi)(st:St P base ρ ρ' m m1 w w'):K7 ρ' m1.n hi:=fun b h1 c=>by
 cases d:ρ' b with
 | none=>rfl
 | some l =>
   cases h0:ρ b with
   | some l0=>rw[e b (C6 st.nle h1) c]at h0;cases h0
   | none=>have:=(st.new b l d h0).2;omega
def K7.less{n hi':Nat}(d:K7 ρ n hi)(h:hi'<=hi):K7 ρ n hi':=fun b h1 c=>d b h1 (D8 c h)
def fZ(m:Mem)(t:Nat)(op:LOp)(xs:List Value):Lg:=⟨m.lg.nx+1,m.lg.pi,.dt m.lg.nx t op xs::m.lg.log⟩
def O4{t:Nat}{k:Nat->Mem->Res}:wY m t op xs k=k m.lg.nx (m.wLg (fZ m t op xs)):=by
 obtain⟨H,n,W,hi,⟨nx,pi,log⟩⟩:=m;simp only[wY,E9,I8];rfl
def LZ{t:Nat}{k:Nat->Mem->Option (D3×Mem)}:Y8.letDo t op xs m k=k m.lg.nx (m.wLg (fZ m t op xs)):=by
 obtain⟨H,n,W,hi,⟨nx,pi,log⟩⟩:=m;simp only[Y8.letDo,E9,I8];rfl
@[simp] theorem l5(lg:Lg):(m.wLg lg).lg=lg:=by cases m;rfl
@[simp] theorem lL(lg:Lg):(m.wLg lg).H=m.H:=by cases m;rfl
@[simp] theorem YR(lg:Lg):(m.wLg lg).n=m.n:=by cases m;rfl
@[simp] theorem OK(lg:Lg):(m.wLg lg).hi=m.hi:=by cases m;rfl
@[simp] theorem B6E(lg:Lg):(m.wLg lg).W=m.W:=by cases m;rfl
def W9{t:Nat} :m.lg.le (m.wLg (fZ m t op xs)).lg:=by
 rw[l5];exact⟨[_],rfl⟩
def kW{t:Nat}{lg:Lg}(e:Sat lg)(d:(m.wLg (fZ m t op xs)).lg.le lg):Ora.env m.lg.nx=evU op (xs.map (D9 Ora.env))/\G4 (Ora.env m.lg.nx)=t/\∃ b wd rows,Ora.env m.lg.nx=.seq b wd rows/\t=10+wd:=by
 obtain⟨h1,c,b,wd,rows,h3⟩:=e _ (d.subset (by rw[l5];exact B4));exact⟨h1,c,b,wd,rows,h3,by rw[<- c,h3];rfl⟩
def eL{b:Nat}(h:pT m b=true):Hp.get m.H b=some .frz:=by
 unfold pT at h;split at h
 .assumption
 .cases h
def UU{b:Nat}(h:pT m b=true):b<=I4:=by
 unfold pT at h;split at h
 .exact A1 h
 .cases h
def A2r{b:Nat}(hr:HR P base ρ m.H w)(h:pT m b=true):∃ l,ρ b=some l:=by
 obtain⟨l,h1,_⟩:=hr.at_ b (UU h) _ (eL h);exact⟨l,h1⟩
def R3{k:Nat->Mem->Option (Value×Nat×Mem)}{r:Value×Nat×Mem}(h:hO m k=some r):∃ m1,d9 m .frz (fun _=>undef)=some (undef,m1)/\k m.n m1=some r/\m1.H=m.H.set m.n (some .frz)/\m.n<=I4/\m1.lg=m.lg:=by
 obtain⟨H,n,W,hi,lg⟩:=m;simp only[hO,E9,fD]at h;obtain⟨h1,b⟩:=A3 h;refine⟨_,?_,b,rfl,A1 h1,rfl⟩;simp only[d9,E9,fD,h1,E6]
def lH(G:Nat->Option Obj):Loc:=⟨0,0,0,0,G,false⟩
def St.region{G:Nat->Option Obj}(h:HR P base ρ m.H w)(d:d9 m .frz (fun _=>undef)=some (undef,m1))(y:K7 ρ m.n m1.hi)
  (g:∀ k o,G k=some o->w.heap[k]? = some o/\∃ id ab l,id<=I4/\Hp.get m.H id=some ab/\ρ id=some l/\Tf ab l k/\ab.rw=false) :
  upd ρ m.n (lH G) m.n=some (lH G)/\Hp.get m1.H m.n=some .frz/\St P base ρ (upd ρ m.n (lH G)) m m1 w w:=by
 obtain⟨h1,r,h3⟩:=St.new0 (l':=lH G) h d y ⟨rfl,fun k o t=>(g k o t).1⟩ rfl fun q b=>by
  rcases b with⟨b,_⟩|⟨_,o,b⟩
  .cases b
  .obtain⟨g1,id,ab,l,g2,g3,g4,g5,g6⟩:=g q o b;refine⟨⟨id,ab,l,g2,g3,g4,g5⟩,fun x f a l2 c p hr v e=>?_⟩
   have:=((h.atl p c).2 hr v).2 id g2 ab l g3 g4 (e▸g5.2);subst this;rw[g3]at c;have c:=A9 c;subst c;rw[g6]at hr;cases hr
 refine⟨r,?_,h3⟩;obtain⟨hle,_,rfl⟩:=M3 d;show Hp.get (m.H.set m.n (some .frz)) m.n=_;rw[F2 _ _ _ _ hle hle,A8 rfl]
theorem oC{b i t:Nat}{v':Value}(h:VR ρ (dat b i t) v'):∃ l,ρ b=some l/\Enc l.G (Ora.env i) v'/\G4 (Ora.env i)=t/\10<=t:=by
 generalize hx:dat b i t=x at h;cases h with
 | dat h he d c e =>
   simp only[dat,Value.func.injEq,g8,K0,Value.pointer.injEq,D6,Addr.mk.injEq,Value.complex.injEq,true_and,and_true]at hx;obtain⟨rfl,rfl,rfl⟩:=hx;exact⟨_,h,he,d,c⟩
 | pure hp=>subst hx;simp[dat,J0]at hp
 | _=>simp[ixp,Go.Sx.dat,Go.Sx.clp,Go.Sx.own,Go.Sx.dpt,Go.Sx.opt,Go.Sx.yv,Go.Sx.sdt]at hx
theorem gN{b i t:Nat}{v':Value}(h:VR ρ (clp b i t) v'):∃ l,ρ b=some l/\Enc l.G (Ora.env i) v'/\G4 (Ora.env i)=t/\10<=t/\A3b v':=by
 generalize hx:clp b i t=x at h;cases h with
 | clp h he e c f d =>
   simp only[clp,Value.func.injEq,g8,K0,Value.pointer.injEq,D6,Addr.mk.injEq,Value.complex.injEq,true_and,and_true]at hx;obtain⟨rfl,rfl,rfl⟩:=hx;exact⟨_,h,he,e,c,d⟩
 | pure hp=>subst hx;simp[clp,J0]at hp
 | _=>simp[ixp,Go.Sx.dat,Go.Sx.clp,Go.Sx.own,Go.Sx.dpt,Go.Sx.opt,Go.Sx.yv,Go.Sx.sdt]at hx
theorem gM{b i t:Nat}{v':Value}(h:VR ρ (own b i t) v'):A1Y ρ b (Ora.env i) v'/\G4 (Ora.env i)=t:=by
 generalize hx:own b i t=x at h;cases h with
 | own h c d =>
   simp only[own,Value.func.injEq,g8,K0,Value.pointer.injEq,D6,Addr.mk.injEq,Value.complex.injEq,true_and,and_true]at hx;obtain⟨rfl,rfl,rfl⟩:=hx;exact⟨h,c⟩
 | pure hp=>subst hx;simp[own,J0]at hp
 | _=>simp[ixp,Go.Sx.dat,Go.Sx.clp,Go.Sx.own,Go.Sx.dpt,Go.Sx.opt,Go.Sx.yv,Go.Sx.sdt]at hx
def HL{b t:Nat}{v':Value}(h:VR ρ (dpt b i t z o) v'):B2g ρ b (Ora.env i) (qC Ora.env z) o v'/\G4 (Ora.env i)=t:=by
 generalize hx:dpt b i t z o=x at h;cases h with
 | dpt h c d =>
   simp only[dpt,Value.func.injEq,g8,K0,Value.pointer.injEq,D6,Addr.mk.injEq,Value.complex.injEq,Value.int.injEq,lE,true_and,and_true]at hx;obtain⟨rfl,⟨rfl,rfl⟩,rfl,rfl⟩:=hx;exact⟨h,c⟩
 | pure hp=>subst hx;simp[dpt,J0]at hp
 | _=>simp[ixp,Go.Sx.dat,Go.Sx.clp,Go.Sx.own,Go.Sx.dpt,Go.Sx.opt,Go.Sx.yv,Go.Sx.sdt]at hx
def xX{b t:Nat}{v':Value}(h:VR ρ (opt b i t z o) v'):B1T ρ b (Ora.env i) (qC Ora.env z) o v'/\G4 (Ora.env i)=t:=by
 generalize hx:opt b i t z o=x at h;cases h with
 | opt h c d =>
   simp only[opt,Value.func.injEq,g8,K0,Value.pointer.injEq,D6,Addr.mk.injEq,Value.complex.injEq,Value.int.injEq,lE,true_and,and_true]at hx;obtain⟨rfl,⟨rfl,rfl⟩,rfl,rfl⟩:=hx;exact⟨h,c⟩
 | pure hp=>subst hx;simp[opt,J0]at hp
 | _=>simp[ixp,Go.Sx.dat,Go.Sx.clp,Go.Sx.own,Go.Sx.dpt,Go.Sx.opt,Go.Sx.yv,Go.Sx.sdt]at hx
def EQ{b c tc g t:Nat}{T:TypeId}{v':Value}(h:HR P base ρ m.H w)(K:Hp.get m.H b=some (.sq c tc T g true))(hv:VR ρ (own b i t) v')(B:tc=t)(A:Hp.get m.H g=some .frz)
  (N:d9 m .frz (fun _=>undef)=some (undef,m1)) (O:K7 ρ m.n m1.hi):∃ l,St P base ρ (upd ρ m.n l) m m1 w w/\upd ρ m.n l m.n=some l/\Hp.get m1.H m.n=some .frz/\Enc l.G (Ora.env c) v'/\G4 (Ora.env c)=t:=by
 obtain⟨D,M⟩:=gM hv;rcases D with⟨l,wd,h1,E,h3,rfl⟩|⟨l,wd,rows,h1,E,h3,Y,S,rfl⟩
 .obtain⟨q,_⟩:=h.atl h1 K;obtain⟨x,inf,L,R,W,d⟩:=SqR.ex q;rcases d with⟨_,d⟩|⟨d,_⟩
  .obtain⟨g1,g2,g3⟩:=St.region (G:=fun _=>none) h N O (fun k o f=>by cases f);exact⟨_,g3,g1,g2,by rw[d];exact .nil,by rw[d,<- B,L];rfl⟩
  .rw[E]at d;cases d
 .obtain⟨q,_⟩:=h.atl h1 K;obtain⟨x,inf,L,R,W,d⟩:=SqR.ex q;rcases d with⟨d,_⟩|⟨_,d⟩
  .rw[E]at d;cases d
  .obtain⟨C,fz,J,I,lg,f1,f2,f3,f4,f5,f6,f7,f8,f9⟩:=d;obtain⟨F,_⟩:=h.atl f7 A;have p:∀ k o,lg.G k=some o->w.heap[k]? = some o:=F.2;let G:Nat->Option Obj:=fun k=>if k=l.blk then some (.cells C J fz)else lg.G k
   have y:∀ k o,lg.G k=some o->G k=some o:=fun k o f=>by
    show(if k=l.blk then _ else _)=_;by_cases e:k=l.blk
    .subst e;rw[A8 rfl]
     have:=p _ _ f;rw[f1]at this;exact this
    .rw[A6 e];exact f
   obtain⟨g1,g2,g3⟩:=St.region (G:=G) h N O fun k o f=>by
    have f:(if k=l.blk then some (.cells C J fz)else lg.G k)=some o:=f;by_cases e:k=l.blk
    .subst e;rw[A8 rfl]at f;exact⟨by rw[f1];exact f,b,_,l,h.dom _ _ h1,K,h1,⟨rfl,.inl ⟨rfl,E,rfl⟩⟩,rfl⟩
    .rw[A6 e]at f;exact⟨p _ _ f,g,_,lg,h.dom _ _ f7,A,f7,⟨rfl,.inr ⟨rfl,o,f⟩⟩,rfl⟩
   refine⟨_,g3,g1,g2,?_,by rw[f2,<- B,L];rfl⟩;rw[f2,<- f3];refine .sl (G:=G) (C:=C) (T:=J) (fz:=fz) A2 (fun _=>?_) (fun _=>?_) f6 fun r row j u v X V Q=>(f8 r row j u v X V Q).mono y
   .show(if l.blk=l.blk then _ else _)=_;rw[A8 rfl]
   .have:=F9 x f4;rw[<- f3]at this;omega
def BR.thaw{c t g:Nat}{T:TypeId}{l:Loc}(h:BR P ρ (.sq c t T g false) l w):BR P ρ (.sq c t T g true) l w:=by
 obtain⟨wd,inf,h1,b,h3,e⟩:=SqR.ex h;refine⟨⟨wd,inf,h1,b,h3,e.imp (fun x=>x) fun⟨d,f⟩=>⟨d,?_⟩⟩⟩;obtain⟨C,fz,n,rows,lg,h1,b,h3,e,f,k,p,q,r⟩:=f;exact⟨C,fz,n,rows,lg,h1,b,h3,e,f,k,p,q,fun h=>by cases h⟩
def yX{id:Nat}{ab:AB}(h:cY m id ab=some m')(b:j<=I4):Hp.get m'.H j=if j=id then some ab else Hp.get m.H j:=by
 obtain⟨hle,rfl⟩:=V1 h;exact F2 _ _ _ _ hle b
def lZ{ab:AB}{k:Nat->Value}{v:Value}(h:d9 m ab k=some (v,m'))(b:j<=I4):Hp.get m'.H j=if j=m.n then some ab else Hp.get m.H j:=by
 obtain⟨hle,_,rfl⟩:=M3 h;exact F2 _ _ _ _ hle b
def FY{t:Nat}{v v' x:Value}{b:Nat}(h:HR P base ρ m.H w)(d:toD t v m=some (x,b,m'))(K:K7 ρ m.n m'.hi)(hv:VR ρ v v')(hS:Sat m'.lg) :
  ∃ ρ' l,St P base ρ ρ' m m' w w/\ρ' b=some l/\Hp.get m'.H b=some .frz/\Enc l.G (D9 Ora.env x) v'/\G4 (D9 Ora.env x)=t/\m.lg.le m'.lg:=by
 unfold toD at d;split at d
 .rename_i N i tg;obtain⟨h1,f⟩:=A3 d;cases f;obtain⟨h1,f⟩:=B8 h1;have h1:=A0 h1;obtain⟨l,y,r,B,F⟩:=oC hv;exact⟨ρ,l,St.refl h,y,eL f,r,B.trans h1,.refl _⟩
 .rename_i N i tg;obtain⟨h1,f⟩:=A3 d;cases f;obtain⟨h1,f⟩:=B8 h1;have h1:=A0 h1;obtain⟨l,y,r,B,F,_⟩:=gN hv;exact⟨ρ,l,St.refl h,y,eL f,r,B.trans h1,.refl _⟩
 .rename_i N i tg;split at d
  .rename_i c tc T g D;obtain⟨h1,f⟩:=A3 d;obtain⟨h1,h3⟩:=B8 h1;obtain⟨h1,C⟩:=B8 h1;have h1:=A0 h1;have C:=A0 C;obtain⟨m1,O,E,_,_,J⟩:=R3 f;cases E;subst h1;obtain⟨l,y,r,B,F,V⟩:=EQ h D hv C (eL h3) O K;exact⟨_,l,y,r,B,F,V,by rw[J];exact .refl _⟩
  .rename_i c tc T g D;obtain⟨h1,f⟩:=A3 d;obtain⟨h1,h3⟩:=B8 h1;have S:=UU h3;obtain⟨h1,C⟩:=B8 h1;have h1:=A0 h1;have C:=A0 C;split at f
   .rename_i m1 hs;obtain⟨m2,O,E,_,_,J⟩:=R3 f;cases E;subst h1;have W:∃ l0,ρ N=some l0:=by
     rcases(gM hv).1 with⟨l,_,h1,_⟩|⟨l,_,_,h1,_⟩<;>exact⟨l,h1⟩
    obtain⟨l0,M⟩:=W;have R:=(h.atl M D).1;have p:=St.same0 h hs D rfl M R.thaw (fun q hq=>by
     rcases hq with⟨_,a,b⟩|⟨a,_⟩
     .exact .inl ⟨rfl,a,b⟩
     .cases a)
    have hle:=(V1 hs).1;have Y:g≠N:=fun e=>by subst e;rw[eL h3]at D;cases D
    have X:Hp.get m1.H N=some (.sq c tc T g true):=by rw[yX hs hle,A8 rfl]
    have I:Hp.get m1.H g=some .frz:=by rw[yX hs S,A6 Y];exact eL h3
    have Q:m1.n=m.n:=by rw[(V1 hs).2]
    obtain⟨l,y,r,B,F,V⟩:=EQ p.hr X hv C I O (by rw[Q];exact K);refine⟨_,l,St.trans K p y,r,B,F,V,by rw[J,(V1 hs).2];exact .refl _⟩
   .cases f
  .cases d
 .obtain⟨L,d⟩:=A3 d;have L:=A1 L;rw[O4]at d;simp only at d;obtain⟨m1,O,E,_,_,J⟩:=R3 d;cases E;cases Q3 hv;have A:(m.wLg (fZ m t (.nilw (t-10)) [])).lg.le m'.lg:=by rw[J];exact .refl _
  obtain⟨y,r,_⟩:=kW hS A;have p:=St.wLg h (fZ m t (.nilw (t-10)) []);obtain⟨g1,g2,g3⟩:=St.region (G:=fun _=>none) p.hr O (by simpa using K) (fun k o Z=>by cases Z);refine⟨_,_,St.trans (by simpa using K) p g3,g1,g2,?_,r,W9.trans A⟩;show Enc _ (Ora.env m.lg.nx) _;rw[y];exact .nil
 .cases d
end
end
section
open Go
variable [Ora]
section
variable {P:Program} {base:Nat} {ρ ρ':Ren} {m m':Mem} {w w':World}
def q8(ρ:Ren)(m m':Mem):Prop:=∀ j l,ρ j=some l->Hp.get m.H j=some .frz->Hp.get m'.H j=some .frz
def q8.refl:q8 ρ m m:=fun _ _ _ h=>h
def q8.trans(he:∀ b l,ρ b=some l->ρ' b=some l)(a:q8 ρ m m1)(c:q8 ρ' m1 m'):q8 ρ m m':=fun j l h1 d=>c j l (he j l h1) (a j l h1 d)
def q8.lg(lg:Lg):q8 ρ m (m.wLg lg):=fun j l _ h=>by rw[lL];exact h
def MC{ab:AB}{k:Nat->Value}{v:Value}(h:HR P base ρ m.H w)(b:d9 m ab k=some (v,m'))(d:K7 ρ m.n m'.hi):q8 ρ m m':=fun j l h1 c=>by
 rw[lZ b (h.dom j l h1),A6]
 .exact c
 .intro e;subst e;obtain⟨_,_,rfl⟩:=M3 b;rw[d m.n (A7 _) (L7 _ _).2]at h1;cases h1
def A19{ab:AB}{id:Nat}(h:HR P base ρ m.H w)(hs:cY m id ab=some m')(b:Hp.get m.H id≠some .frz):q8 ρ m m':=fun j l h1 c=>by
 rw[yX hs (h.dom j l h1),A6]
 .exact c
 .intro e;subst e;exact b c
def JR{t:Nat}{v x:Value}{b:Nat}(h:HR P base ρ m.H w)(d:toD t v m=some (x,b,m'))(A:K7 ρ m.n m'.hi):q8 ρ m m':=by
 unfold toD at d;split at d
 .obtain⟨h1,f⟩:=A3 d;cases f;exact .refl
 .obtain⟨h1,f⟩:=A3 d;cases f;exact .refl
 .split at d
  .obtain⟨h1,f⟩:=A3 d;obtain⟨m1,p,q,_⟩:=R3 f;cases q;exact MC h p A
  .rename_i c tc T g C;obtain⟨h1,f⟩:=A3 d;split at f
   .rename_i m1 hs;obtain⟨m2,p,q,_⟩:=R3 f;cases q;have B:=A19 h hs (by rw[C];intro h;cases h);intro j l k r;have D:=B j l k r;rw[lZ p (h.dom j l k),A6]
    .exact D
    .intro e;subst e;have y:m1.n=m.n:=by rw[(V1 hs).2]
     obtain⟨_,_,rfl⟩:=M3 p;rw[A m1.n A2 (L7 _ _).2]at k;cases k
   .cases f
  .cases d
 .obtain⟨E,d⟩:=A3 d;rw[O4]at d;simp only at d;obtain⟨m1,p,q,_⟩:=R3 d;cases q;intro j l k r;rw[lZ p (h.dom j l k),A6,lL]
  .exact r
  .intro e;subst e;have y:(m.wLg (fZ m t (.nilw (t-10)) [])).n=m.n:=by simp
   obtain⟨_,_,rfl⟩:=M3 p;rw[A _ A2 (L7 _ _).2]at k;cases k
 .cases d
def c9(R:Nat->Option Obj)(us:List U)(vs:List Value):Prop:=us.length=vs.length/\∀ (i:Nat) (u:U) (v:Value),us[i]? = some u->vs[i]? = some v->Enc R u v
omit [Ora] in
def c9.nil{R:Nat->Option Obj}:c9 R [] []:=⟨rfl,fun i u v h=>by simp at h⟩
omit [Ora] in
def c9.cons{R:Nat->Option Obj}{v:Value}(h:Enc R u v)(k:c9 R us vs):c9 R (u::us) (v::vs):=⟨by simp[k.1],fun i a b h1 c=>by
 cases i with
 | zero=>simp at h1 c;subst h1;subst c;exact h
 | succ i=>exact k.2 i a b (by simpa using h1) (by simpa using c)⟩
def Sub(G R:Nat->Option Obj):Prop:=∀ k o,G k=some o->R k=some o
def iH{t:Nat}{v x:Value}{b:Nat}{m m':Mem}(c:toD t v m=some (x,b,m')):m.hi<=m'.hi/\m.lg.le m'.lg/\m.n<=m'.n:=by
 have e:∀ {m m1:Mem},d9 m .frz (fun _=>undef)=some (undef,m1)->m.hi<=m1.hi/\m.lg.le m1.lg/\m.n<=m1.n:=fun k=>by
  obtain⟨_,_,rfl⟩:=M3 k;exact⟨(L7 _ _).1,.refl _,V4 _⟩
 unfold toD at c;split at c
 .obtain⟨h1,d⟩:=A3 c;cases d;exact⟨A7 _,.refl _,A7 _⟩
 .obtain⟨h1,d⟩:=A3 c;cases d;exact⟨A7 _,.refl _,A7 _⟩
 .split at c
  .obtain⟨h1,d⟩:=A3 c;obtain⟨m1,g,f,_⟩:=R3 d;cases f;exact e g
  .obtain⟨h1,d⟩:=A3 c;split at d
   .rename_i m1 hs;obtain⟨m2,g,f,_⟩:=R3 d;cases f
    have:=e g;obtain⟨_,rfl⟩:=V1 hs;exact this
   .cases d
  .cases c
 .obtain⟨l,c⟩:=A3 c;rw[O4]at c;simp only at c;obtain⟨m1,g,f,_⟩:=R3 c;cases f
  have:=e g;exact⟨by simpa using this.1,W9.trans this.2.1,by simpa using this.2.2⟩
 .cases c
structure BX (P:Program) (td:Td):Prop where
 ok:∀ {base:Nat} {ρ:Ren} {m m':Mem} {w:World} {t:Nat} {v v' x:Value} {b:Nat},HR P base ρ m.H w->td t v m=some (x,b,m')->K7 ρ m.n m'.hi->VR ρ v v'->Sat m'.lg ->
  ∃ ρ' l,St P base ρ ρ' m m' w w/\ρ' b=some l/\Hp.get m'.H b=some .frz/\Enc l.G (D9 Ora.env x) v'/\G4 (D9 Ora.env x)=t/\m.lg.le m'.lg/\q8 ρ m m'
 mono:∀ {m m':Mem} {t:Nat} {v x:Value} {b:Nat},td t v m=some (x,b,m')->m.hi<=m'.hi/\m.lg.le m'.lg/\m.n<=m'.n
def YY:BX P toD:=⟨fun h b c hv f=>let ⟨ρ',l,d,a2,a3,a4,a5,e⟩:=FY h b c hv f;⟨ρ',l,d,a2,a3,a4,a5,e,JR h b c⟩,fun h=>iH h⟩
def S8{e:Td}(d:BX P e):∀ {ts:H9} {vs xs:D3} {gs:H9} {m m':Mem},CB e ts vs m=some (xs,gs,m')->m.hi<=m'.hi/\m.lg.le m'.lg/\m.n<=m'.n
 | [],[],_,_,_,_,h=>by cases h;exact⟨A7 _,.refl _,A7 _⟩
 | t::ts,v::vs,xs,gs,m,m',c=>by
   unfold CB at c;cases f:Nat.blt t 10 with
   | true =>
     rw[f]at c;simp only[E6]at c;obtain⟨h1,c⟩:=A3 c;split at c
     .rename_i hr;cases c;exact S8 d hr
     .cases c
   | false =>
     rw[f]at c;simp only[E0]at c;split at c
     .rename_i g;split at c
      .rename_i hr;cases c;have a:=d.mono g;have b:=S8 d hr;exact⟨C6 a.1 b.1,a.2.1.trans b.2.1,C6 a.2.2 b.2.2⟩
      .cases c
     .cases c
 | [],_::_,_,_,_,_,c=>by cases c
 | _::_,[],_,_,_,_,c=>by cases c
def jC{K:Td}(f:BX P K):∀ {ts:H9} {vs vs' xs:D3} {gs:H9} {m m':Mem} {ρ:Ren},HR P base ρ m.H w->CB K ts vs m=some (xs,gs,m')->K7 ρ m.n m'.hi->LR ρ vs vs'->Sat m'.lg ->
  ∃ ρ',St P base ρ ρ' m m' w w/\m.lg.le m'.lg/\q8 ρ m m'/\(∀ b ∈ gs,Hp.get m'.H b=some .frz/\∃ l,ρ' b=some l)/\(xs.map (D9 Ora.env)).map G4=ts /\
   ∀ R,(∀ b ∈ gs,∀ l,ρ' b=some l->Sub l.G R)->c9 R (xs.map (D9 Ora.env)) vs'
 | [],[],vs',xs,gs,m,m',ρ,h,c,hf,hv,hS=>by
   cases c;exact⟨ρ,St.refl h,.refl _,.refl,fun b M=>(by cases M),rfl,fun R _=>by rw[hv.nil_inv];exact .nil⟩
 | t::ts,v::vs,vs',xs,gs,m,m',ρ,h,c,hf,hv,hS=>by
   obtain⟨v',r',rfl,k,p⟩:=hv.tail;unfold CB at c;cases B:Nat.blt t 10 with
   | true =>
     rw[B]at c;simp only[E6]at c;obtain⟨h1,c⟩:=A3 c;have h1:=A0 h1;have Q:t<10:=A1 B;split at c
     .rename_i r C m2 hr;cases c;obtain⟨ρ2,q,y,x,F,A,I⟩:=jC f h hr hf p hS;obtain⟨f1,f2⟩:=aV k A2;exact⟨ρ2,q,y,x,F,by simp[f2,h1,A],fun R hR=>.cons (.sc f1) (I R hR)⟩
     .cases c
   | false =>
     rw[B]at c;simp only[E0]at c;split at c
     .rename_i hh b m1 O;split at c
      .rename_i r C m2 hr;cases c;have e:m1.hi<=m'.hi/\m1.lg.le m'.lg/\m1.n<=m'.n:=S8 f hr;have D:K7 ρ m.n m1.hi:=hf.less e.1;obtain⟨J,l,g,a2,a3,a4,a5,L,N⟩:=f.ok h O D k (hS.le e.2.1);have E:K7 J m1.n m'.hi:=hf.step g;obtain⟨ρ2,q,y,x,F,A,I⟩:=jC f g.hr hr E (p.mono g.ext) hS;refine⟨ρ2,St.trans hf g q,L.trans y,N.trans g.ext x,fun b' d=>?_,by simp[a5,A],fun R hR=>.cons (a4.mono (hR b (.head _) l (q.ext _ _ a2))) (I R fun b' d=>hR b' (.tail _ d))⟩;rcases B3.1 d with rfl|d
       .exact⟨x _ l a2 a3,l,q.ext _ _ a2⟩
       .exact F b' d
      .cases c
     .cases c
 | [],_::_,_,_,_,_,_,_,_,c,_,_,_=>by cases c
 | _::_,[],_,_,_,_,_,_,_,c,_,_,_=>by cases c
def fL{gs:H9}{g:Nat}(h:HR P base ρ m.H w)(c:kT gs m=some (g,m'))(v:K7 ρ m.n m'.hi) :
  ∃ ρ' lg,St P base ρ ρ' m m' w w/\m'.lg=m.lg/\q8 ρ m m'/\ρ' g=some lg/\Hp.get m'.H g=some .frz/\∀ b ∈ gs,∀ l,ρ b=some l->Sub l.G lg.G:=by
 have main:∀ {gs:H9},(bif gs.all (pT m)then match hO m fun b m=>some (undef,b,m)with
  | some (_,b,m)=>some (b,m)
  | none=>none else none)=some (g,m')->∃ ρ' lg,St P base ρ ρ' m m' w w/\m'.lg=m.lg/\q8 ρ m m'/\ρ' g=some lg/\Hp.get m'.H g=some .frz/\∀ b ∈ gs,∀ l,ρ b=some l->Sub l.G lg.G:=fun{gs} c=>by
  obtain⟨h1,c⟩:=A3 c;split at c
  .rename_i r b m1 C;cases c;obtain⟨m2,x,B,_,_,D⟩:=R3 C;cases B;have f:∀ b ∈ gs,Hp.get m.H b=some .frz:=fun b d=>eL (D5.1 h1 b d)
   classical
   let G:Nat->Option Obj:=fun k=>if ∃ b ∈ gs,∃ l o,ρ b=some l/\l.G k=some o then w.heap[k]? else none
   obtain⟨g1,g2,g3⟩:=St.region (G:=G) h x v fun k o e=>by
    have e:(if ∃ b ∈ gs,∃ l o,ρ b=some l/\l.G k=some o then w.heap[k]? else none)=some o:=e;split at e
    .rename_i hex;obtain⟨b,d,l,A,t,y⟩:=hex;exact⟨e,b,_,l,h.dom _ _ t,f b d,t,⟨rfl,.inr ⟨rfl,A,y⟩⟩,rfl⟩
    .cases e
   refine⟨_,lH G,g3,D,MC h x v,g1,g2,fun b d l p k o e=>?_⟩;show(if ∃ b ∈ gs,∃ l o,ρ b=some l/\l.G k=some o then w.heap[k]? else none)=_;rw[A8 ⟨b,d,l,o,p,e⟩];exact(h.atl p (f b d)).1.2 k o e
  .cases c
 unfold kT at c;split at c
 .rename_i g0;obtain⟨h1,c⟩:=A3 c;cases c;obtain⟨l,p⟩:=A2r h h1;refine⟨ρ,l,St.refl h,rfl,.refl,p,eL h1,fun b d l2 q=>?_⟩;rcases B3.1 d with rfl|d
  .rw[p]at q
   have:=A9 q;subst this;exact fun _ _ h=>h
  .cases d
 .exact main c
omit [Ora] in
def gT{R:Nat->Option Obj}{v r:Value}(h:Enc R u v)(hr:toV u=some r):v=r:=by
 cases h with
 | sc h=>rw[h]at hr;exact A9 hr
 | nil=>cases hr
 | emp=>cases hr
 | sl=>cases hr
omit [Ora] in
def mT{R:Nat->Option Obj}{v:Value}(h:Enc R u v):o8 v=true:=by
 cases h with
 | sc h=>have:=iG h;cases v<;>first|rfl|cases this
 | nil=>rfl
 | emp=>rfl
 | sl=>rfl
def A5X{wd k:Nat}{rows:List (List U)} :evU (.get wd o) [.seq false wd rows,.int kk (.ofNat k)]=(rows.getD k []).getD o .none:=by
 simp[evU]
def getD_some(h:row.getD o .none≠.none):row[o]? = some (row.getD o .none):=by
 rw[B2]at *;cases e:row[o]? with
 | none=>rw[e]at h;exact absurd rfl h
 | some u=>rfl
def gO{wd o i t g k:Nat}{z:Value}{lg:Loc}{rows:List (List U)}{cell:Nat->R2}(hi:Ora.env i=.seq false wd rows)(F:qC Ora.env z=some (.ofNat k))(A:ρ g=some lg)
  (C:∀ q u,(rows.getD k [])[q]? = some u->∃ v,cell q=some v/\Enc lg.G u v) :
  ∀ {ts:H9} {j:Nat} {m m':Mem} {r:D3},Y8 wd o i t z g ts j m=some (r,m')->Sat m'.lg->∃ r',LR ρ r r'/\r'.length=ts.length/\(∀ q v',r'[q]? = some v'->cell (o+j+q)=some v')/\K3 m m'/\m.lg.le m'.lg
 | [],j,m,m',r,h,hS=>by
   cases h;exact⟨[],.nil,rfl,fun q v' h=>by simp at h,.refl _,.refl _⟩
 | tg::ts,j,m,m',r,h,hS=>by
   unfold Y8 at h;obtain⟨kk,E⟩:=IW F;have f:[hole i t,z].map (D9 Ora.env)=[.seq false wd rows,.int kk (.ofNat k)]:=by
    simp only[C5,G1,E];show[Ora.env i,_]=_;rw[hi]
   have b:∀ {u:U},u≠.none->evU (.get wd (o+j)) ([hole i t,z].map (D9 Ora.env))=u->∃ v,cell (o+j)=some v/\Enc lg.G u v:=fun{u} hu he=>by
    rw[f,A5X]at he;subst he;exact C _ _ (getD_some hu)
   cases x:Nat.blt tg 10 with
   | true =>
     rw[x]at h;simp only[E6]at h;have K:tg<10:=A1 x;split at h
     .rename_i hh m1 l;split at h
      .rename_i J m2 hr;cases h;obtain⟨r',B,n,D,y,d⟩:=gO hi F A C hr hS;obtain⟨u,f1,f2,v,f3,f4,f5⟩:=N0 l (hS.le d);obtain⟨v2,g1,g2⟩:=b (u:=u) (by intro e;subst e;cases f3) f1
       have:=gT g2 f3;subst this;refine⟨v2::r',.cons (f4 ρ) B,by simp[n],fun q v' c=>?_,(I1 l).trans y,(I5 l).trans d⟩;cases q with
       | zero=>simp at c;subst c;exact g1
       | succ q=>rw[show o+j+(q+1)=o+(j+1)+q by omega];exact D q v' (by simpa using c)
      .cases h
     .cases h
   | false =>
     rw[x]at h;simp only[E0]at h;rw[LZ]at h;split at h
     .rename_i J m2 hr;cases h;obtain⟨r',B,n,D,y,d⟩:=gO hi F A C hr hS;obtain⟨f1,f2,I,H,p,f3,f4⟩:=kW hS d;obtain⟨v2,g1,g2⟩:=b (u:=Ora.env m.lg.nx) (by rw[f3];intro h;cases h) f1.symm;refine⟨v2::r',.cons (.dat A g2 f2 A2 (mT g2)) B,by simp[n],fun q v' c=>?_,K3.trans ⟨_,rfl⟩ y,W9.trans d⟩;cases q with
      | zero=>simp at c;subst c;exact g1
      | succ q=>rw[show o+j+(q+1)=o+(j+1)+q by omega];exact D q v' (by simpa using c)
     .cases h
def jF{t:TypeId}(h:lM P t=some ts):H6 P t=some ts.length:=by
 unfold lM at h;split at h
 .rename_i l n h1 b;obtain⟨h3,h⟩:=A3 h;cases h;rw[b,A0 h3]
 .cases h
def FQ{t:TypeId}{r:D3}{v:Value}{b:Nat}(e:lM P t=some ts)(d:mX P t (some (r,m))=some (v,m'))(f:LR ρ r r')(n:r'.length=ts.length)
  (k:∀ q v',r'[q]? = some v'->w.cell? ⟨b,o+q,none⟩=some v'):m'=m/\∃ v',(Instr.loadAt t (.pointer (some ⟨b,o,none⟩))).run P w=.ok v' w/\VR ρ v v':=by
 unfold mX at d;split at d
 .rename_i c heq;cases d;cases heq;obtain⟨v',p,rfl,l,x⟩:=f.tail;refine⟨rfl,v',?_,l⟩
  have:=k 0 v' rfl;simp[Instr.loadAt,Instr.sureAddr,loadVar,A4,cS c,Result.andThen,run_load,show w.cell? ⟨b,o,none⟩=some v' from by simpa using this]
 .rename_i c heq;cases d;cases heq;refine⟨rfl,.agg ⟨r'⟩,?_,.agg f.1 f.2⟩;have g:H6 P t=some r'.length:=by rw[n];exact jF e
  simp[Instr.loadAt,Instr.sureAddr,loadVar,A4,cS c,L5 g,Result.andThen,K8 rfl k]
 .cases d
def A1w{t:TypeId}{x x' v:Value}(h:HR P base ρ m.H w)(n:LY P m t x=some (v,m'))(hx:VR ρ x x')(Y:Sat m'.lg):(∃ r,(Instr.loadAt t x').run P w=.ok r w/\VR ρ v r)/\K3 m m'/\m.lg.le m'.lg:=by
 have K:∀ {r:Option (D3×Mem)},mX P t r=some (v,m')->∃ vs,r=some (vs,m'):=fun{r} I=>by
  unfold mX at I;split at I
  .cases I;exact⟨_,rfl⟩
  .cases I;exact⟨_,rfl⟩
  .cases I
 unfold LY at n;split at n
 .rename_i b i tg z o ts E;obtain⟨h1,n⟩:=A3 n;obtain⟨⟨l,wd,rows,a,s,c,k,N,F,L,W,M,e6,rfl⟩,Z⟩:=HL hx;obtain⟨vs,hr⟩:=K n;rw[hr]at n;have A:tg-10=wd:=by rw[<- Z,F];simp[G4]
  rw[A]at hr;have R:=(h.atl N (eL h1)).1.2;rw[F]at L;obtain⟨C,T,fz,f1,f2,f3,f4⟩:∃ C T fz,l.G a=some (.cells C T fz)/\s+rows.length*wd<=C.size/\(∀ row ∈ rows,row.length=wd)/\∀ (r:Nat) (row:List U) (j:Nat) (u:U) (v:Value),rows[r]? = some row->row[j]? = some u->C[s+r*wd+j]? = some v->Enc l.G u v:=by
   have D:rows≠[]:=by intro e;subst e;simp at M
   cases L with
   | sc h=>cases h
   | emp=>exact absurd rfl D
   | sl hc Q hz hw hh=>exact⟨_,_,_,Q D,hz D,hw,hh⟩
  have B:=R _ _ f1;have d:rows[k]? = some rows[k]:=A5 M;obtain⟨r',g1,g2,g3,g4,g5⟩:=gO (cell:=fun q=>w.cell? ⟨a,s+k*wd+q,none⟩) F W N (fun q u f=>by
   rw[B2,d]at f;have f:rows[k][q]? = some u:=f;have y:=(B1.1 f).1;rw[f3 _ (D1 d)]at y;have O:(k+1)*wd<=rows.length*wd:=F9 wd M;rw[I3]at O;have p:s+k*wd+q<C.size:=A2;refine⟨C[s+k*wd+q],?_,f4 k _ q u _ d f (F5 p)⟩;simp[World.cell?,B,F5 p]) hr Y
  obtain⟨_,X⟩:=FQ (w:=w) (b:=a) (o:=s+k*wd+o) E n g1 g2 (fun q v' f=>by
   have:=g3 q v' f;rw[show s+k*wd+o+q=s+k*wd+(o+0+q) by omega];exact this)
  exact⟨X,g4,g5⟩
 .rename_i b i tg z o ts E;split at n
  .rename_i c tc T g ro Q;obtain⟨h1,n⟩:=A3 n;have h1:=A0 h1;subst h1;obtain⟨⟨l,wd,kN,k,N,F,L,W,M,e6,rfl⟩,Z⟩:=xX hx;obtain⟨vs,hr⟩:=K n;rw[hr]at n;obtain⟨J,inf,d1,d2,d3,d4⟩:=SqR.ex (h.atl N Q).1;rcases d4 with⟨d4,_⟩|⟨_,d4⟩
   .rw[F]at d4;cases d4
   obtain⟨C,fz,T',rows,lg,f1,f2,f3,f4,f5,f6,f7,f8,f9⟩:=d4;have A:tc-10=J:=A2;rw[A]at hr;have V:k<rows.length:=A2;have d:rows[k]? = some rows[k]:=A5 V;have S:wd=J:=by
    have:G4 (Ora.env i)=10+wd:=by rw[L];rfl
    omega
   subst S;obtain⟨r',g1,g2,g3,g4,g5⟩:=gO (cell:=fun q=>w.cell? ⟨l.blk,l.sh+k*wd+q,none⟩) f2 W f7 (fun q u f=>by
    rw[B2,d]at f;have f:rows[k][q]? = some u:=f;have y:=(B1.1 f).1;rw[f6 _ (D1 d)]at y;have O:(k+1)*wd<=l.cap*wd:=F9 wd A2;rw[I3]at O;have p:l.sh+k*wd+q<C.size:=A2;refine⟨C[l.sh+k*wd+q],?_,f8 k _ q u _ d f (F5 p)⟩;simp[World.cell?,f1,F5 p]) hr Y
   obtain⟨_,X⟩:=FQ (w:=w) (b:=l.blk) (o:=l.sh+k*wd+o) E n g1 g2 (fun q v' f=>by
    have:=g3 q v' f;rw[show l.sh+k*wd+o+q=l.sh+k*wd+(o+0+q) by omega];exact this)
   exact⟨X,g4,g5⟩
  .cases n
 .cases n
end
end
section
open Go
variable [Ora]
section
variable {P:Program} {base:Nat} {ρ ρ':Ren} {m m':Mem} {w w':World}
def at0(a:Nat):Ren:=fun _=>some (lc a 0 0)
def YH{a s n c:Nat}(h:n<=c):VR (at0 a) (.slice (some ⟨0,s,none⟩) n (N4+1)) (.slice (some ⟨a,s,none⟩) n c) :=
 VR.op (ρ:=at0 a) (b:=0) (o:=s) (n:=n) (m:=N4+1) (m':=c) (l:=lc a 0 0) rfl (by unfold N4;omega) h (fun h=>by unfold N4 at h;omega)
def VX{a s:Nat}:VR (at0 a) (.pointer (some ⟨0,s,none⟩)) (.pointer (some ⟨a,s,none⟩)):=VR.ptr (ρ:=at0 a) (b:=0) (o:=s) (l:=lc a 0 0) rfl
def vK{t e:TypeId}{a s n c z sz:Nat}{k:IntKind}(hu:P.underlying t=some (.slice e))(hs:H6 P e=some sz)(g:z<n)(f:n<=c)(w:World) :
  (Instr.indexAt t (.slice (some ⟨a,s,none⟩) n c) (.int k (.ofNat z))).run P w=.ok (.pointer (some ⟨a,s+z*sz,none⟩)) w:=by
 have d:Nat.blt z n=true:=C7 g;have hm:Y6 P t (.slice (some ⟨0,s,none⟩) n (N4+1)) (.int k (.ofNat z))=some (.pointer (some ⟨0,s+z*sz,none⟩)):=by
  simp only[Y6,hu,hs,d,E6,cD,E9]
 obtain⟨v',g1,g2⟩:=dE (P:=P) hm (YH (a:=a) f) (.pure rfl) w;obtain⟨l2,b,_,rfl⟩:=P3 g2;cases b;exact g1
def rF{t e:TypeId}{a s n z sz:Nat}{k:IntKind}(hu:P.underlying t=some (.array n e))(hs:H6 P e=some sz)(d:z<n)(w:World) :
  (Instr.indexAt t (.pointer (some ⟨a,s,none⟩)) (.int k (.ofNat z))).run P w=.ok (.pointer (some ⟨a,s+z*sz,none⟩)) w:=by
 have c:Nat.blt z n=true:=C7 d;have hm:Y6 P t (.pointer (some ⟨0,s,none⟩)) (.int k (.ofNat z))=some (.pointer (some ⟨0,s+z*sz,none⟩)):=by
  simp only[Y6,hu,hs,c,E6,cD,E9]
 obtain⟨v',g1,g2⟩:=dE (P:=P) hm (VX (a:=a)) (.pure rfl) w;obtain⟨l2,b,_,rfl⟩:=P3 g2;cases b;exact g1
def vM{a z:Nat}{c:Array Field}{f:Field}(hu:P.underlying s=some (.struct c))(d:c.toList[i]? = some f)(e:H6 P f.type=some (z+1))(w:World) :
  (Instr.fieldAt s (.pointer (some ⟨a,o,none⟩)) i).run P w=.ok (.pointer (some ⟨a,o+f.offset,none⟩)) w:=by
 have hm:dF P s (.pointer (some ⟨0,o,none⟩)) i=some (.pointer (some ⟨0,o+f.offset,none⟩)):=by
  simp only[dF,hu,d,e,cD,E9]
 obtain⟨v',g1,g2⟩:=mO (P:=P) hm (VX (a:=a)) w;obtain⟨l2,b,_,rfl⟩:=P3 g2;cases b;exact g1
def HN{t wd:Nat}{e:Bool}{rows:List (List U)}{k v:Value}(h:MJ m i t z k=some (v,m'))(hi:Ora.env i=.seq e wd rows)(J:t=10+wd)(G:VR ρ z z')(D:Sat m'.lg) :
  v=k/\(∃ kk n,z'=.int kk (.ofNat n)/\n<rows.length/\qC Ora.env z=some (.ofNat n))/\K3 m m'/\m.lg.le m'.lg:=by
 unfold MJ at h;cases x:!(Nat.blt (G8 z) 8)with
 | true=>rw[x]at h;cases h
 | false =>
   have F:G8 z<8:=by
    have:Nat.blt (G8 z) 8=true:=by simpa using x
    exact A1 this
   rw[x]at h;simp only[E0]at h;split at h
   .rename_i b H n W hh lg l;split at h
    .rename_i A C;cases h;have d:=I5 l;have c:=fU C;obtain⟨u,g,I,r,B,E,_⟩:=N0 l (S3.le D c);have p:=mV C (E ρ) D;subst p;obtain⟨kk,y,rfl,f2,_⟩:=N1 G F;have f:[z,hole i t].map (D9 Ora.env)=[.int kk y,.seq e wd rows]:=by
      simp only[C5,G1,f2];show[_,Ora.env i]=_;rw[hi]
     rw[f]at g;have g:(if wd=t-10 then U.bool (decide (0<=y) && decide (y<rows.length))else U.none)=u:=g;rw[A8 A2]at g;subst g;have B:some (Value.bool (decide (0<=y) && decide (y<rows.length)))=some (.bool true):=B;have q:(decide (0<=y) && decide (y<rows.length))=true:=by simpa using B
     simp only[G9,decide_eq_true_eq]at q;obtain⟨n0,rfl⟩:∃ n0:Nat,y=.ofNat n0:=⟨y.toNat,by have:=eD q.1;exact this.symm⟩;refine⟨rfl,⟨kk,n0,rfl,?_,VY f2⟩,K3.trans (I1 l) ⟨A,rfl⟩,d.trans c⟩
     have:=q.2;have:(n0:Int)<rows.length:=this;omega
    .cases h
   .cases h
def B0T{G:Nat->Option Obj}{b:Bool}{wd:Nat}{rows:List (List U)}{v:Value}(h:Enc G (.seq b wd rows) v)(hr:rows≠[]):b=false/\∃ a o c,v=.slice (some ⟨a,o,none⟩) rows.length c/\rows.length<=c:=by
 cases h with
 | sc h=>cases h
 | nil=>exact absurd rfl hr
 | emp=>exact absurd rfl hr
 | sl d _ _ _ _=>exact⟨rfl,_,_,_,rfl,d⟩
def PK{t:Nat}(h:G4 u=t)(d:10<=t):u=.none∨∃ c wd rows,u=.seq c wd rows/\t=10+wd:=by
 cases u with
 | none=>exact .inl rfl
 | int k n=>have:=M4 k;simp[G4]at h;omega
 | bool b=>simp[G4]at h;omega
 | str s=>simp[G4]at h;omega
 | seq c wd rows=>exact .inr ⟨c,wd,rows,rfl,h.symm⟩
def gU{G:Nat->Option Obj}{v:Value}{t:Nat}(h:Enc G u v)(d:G4 u=t)(b:10<=t):∃ c wd rows,u=.seq c wd rows/\t=10+wd:=by
 rcases PK d b with rfl|h1
 .cases h with
  | sc h=>cases h
 .exact h1
def EW{t e:TypeId}{b s:Nat}{l:Loc}{v v':Value}(hu:P.underlying t=some (.slice e))(hs:H6 P e=some (s+1))(A:tg=10+(s+1))(h1:ρ b=some l)(d:Enc l.G (Ora.env i) v')(h3:G4 (Ora.env i)=tg)
  (h:MJ m i tg z (dpt b i tg z 0)=some (v,m')) (D:VR ρ z z') (B:Sat m'.lg):(∃ r,(Instr.indexAt t v' z').run P w=.ok r w/\VR ρ v r)/\K3 m m'/\m.lg.le m'.lg:=by
 obtain⟨y,wd,rows,f,x⟩:=gU d h3 A2;obtain⟨rfl,⟨kk,n,rfl,g,q⟩,g1,g2⟩:=HN h f x D B;have k:wd=s+1:=A2;subst k;have p:rows≠[]:=by intro e;subst e;simp at g
 rw[f]at d;obtain⟨rfl,a,o,c,rfl,C⟩:=B0T d p;refine⟨⟨_,vK hu hs g C w,.dpt ⟨l,s+1,rows,a,o,c,n,h1,f,by rw[f];exact d,q,g,A2,by simp⟩ h3 rfl⟩,g1,g2⟩
def MH{t:TypeId}{x x' v:Value}(h:mL P m t x z=some (v,m'))(hx:VR ρ x x')(C:VR ρ z z')(F:Sat m'.lg):(∃ r,(Instr.indexAt t x' z').run P w=.ok r w/\VR ρ v r)/\K3 m m'/\m.lg.le m'.lg:=by
 unfold mL at h;split at h
 .rename_i e b i tg hu;split at h
  .rename_i s hs;obtain⟨g,h⟩:=A3 h;have g:=A0 g;obtain⟨E,d⟩:=gM hx;rcases E with⟨l,wd,h1,A,h3,rfl⟩|⟨l,wd,rows,h1,A,h3,O,H,rfl⟩
   .obtain⟨_,⟨kk,n,_,M,_⟩,_⟩:=HN h h3 (by rw[h3]at d;exact d.symm) C F;simp at M
   .have B:tg=10+wd:=by rw[h3]at d;exact d.symm
    obtain⟨rfl,⟨kk,n,rfl,M,K⟩,g1,g2⟩:=HN h h3 B C F;have p:wd=s+1:=A2;subst p;exact⟨⟨_,vK hu hs A2 H w,.opt ⟨l,s+1,rows,n,h1,A,h3,K,A2,A2,by simp⟩ d rfl⟩,g1,g2⟩
  .cases h
 .rename_i e b i tg hu;split at h
  .rename_i s hs;obtain⟨g,h⟩:=A3 h;have g:=A0 g;obtain⟨l,h1,A,h3,_⟩:=oC hx;exact EW hu hs g h1 A h3 h C F
  .cases h
 .rename_i e b i tg hu;split at h
  .rename_i s hs;obtain⟨g,h⟩:=A3 h;have g:=A0 g;obtain⟨l,h1,A,h3,_⟩:=gN hx;exact EW hu hs g h1 A h3 h C F
  .cases h
 .rename_i n e b i tg y o hu;split at h
  .rename_i s kk k hs;obtain⟨f,h⟩:=A3 h;obtain⟨f,hw⟩:=B8 f;have f:=A1 f;have hw:o+k*s<tg-10:=A1 hw;rw[E9]at h;cases h;cases J9 C;obtain⟨⟨l,wd,rows,a,s0,c,q,L,B,G,J,I,N,rfl⟩,D⟩:=HL hx;have p:tg-10=wd:=by rw[<- D,B];simp[G4]
   refine⟨⟨_,rF hu hs f w,.dpt ⟨l,wd,rows,a,s0,c,q,L,B,G,J,I,A2,by simp⟩ D rfl⟩,.refl _,.refl _⟩
  .cases h
 .rename_i n e b i tg y o hu;split at h
  .rename_i s kk k hs;obtain⟨f,h⟩:=A3 h;obtain⟨f,hw⟩:=B8 f;have f:=A1 f;have hw:o+k*s<tg-10:=A1 hw;rw[E9]at h;cases h;cases J9 C;obtain⟨⟨l,wd,rows,q,L,B,G,J,I,N,rfl⟩,D⟩:=xX hx;have p:tg-10=wd:=by rw[<- D,G];simp[G4]
   refine⟨⟨_,rF hu hs f w,.opt ⟨l,wd,rows,q,L,B,G,J,I,A2,by simp⟩ D rfl⟩,.refl _,.refl _⟩
  .cases h
 .cases h
def MY{x x' v:Value}{f:Nat}(h:mP P m s x f=some (v,m'))(hx:VR ρ x x'):(∃ r,(Instr.fieldAt s x' f).run P w=.ok r w/\VR ρ v r)/\m'=m:=by
 unfold mP at h;split at h
 .rename_i C b i tg y o hu;split at h
  .rename_i fd A;split at h
   .rename_i z B;obtain⟨hw,h⟩:=A3 h;have hw:o+fd.offset<tg-10:=A1 hw;rw[E9]at h;cases h;obtain⟨⟨l,wd,rows,a,s0,c,q,t,e,g,p,k,D,rfl⟩,d⟩:=HL hx;have n:tg-10=wd:=by rw[<- d,e];simp[G4]
    exact⟨⟨_,vM hu A B w,.dpt ⟨l,wd,rows,a,s0,c,q,t,e,g,p,k,A2,by simp⟩ d rfl⟩,rfl⟩
   .cases h
  .cases h
 .rename_i C b i tg y o hu;split at h
  .rename_i fd A;split at h
   .rename_i z B;obtain⟨hw,h⟩:=A3 h;have hw:o+fd.offset<tg-10:=A1 hw;rw[E9]at h;cases h;obtain⟨⟨l,wd,rows,q,t,e,g,p,k,D,rfl⟩,d⟩:=xX hx;have n:tg-10=wd:=by rw[<- d,g];simp[G4]
    exact⟨⟨_,vM hu A B w,.opt ⟨l,wd,rows,q,t,e,g,p,k,A2,by simp⟩ d rfl⟩,rfl⟩
   .cases h
  .cases h
 .cases h
end
end
section
open Go
variable [Ora]
section
variable {P:Program} {base:Nat} {ρ ρ':Ren} {m m':Mem} {w w':World}
def aJ{G:Nat->Option Obj}{b:Bool}{wd:Nat}{rows:List (List U)}{v:Value}(h:Enc G (.seq b wd rows) v):(b=true/\rows=[]/\v=.slice none 0 0)∨(b=false/\∃ (a:Addr) (c:Nat),v=.slice (some a) rows.length c/\rows.length<=c):=by
 cases h with
 | sc h=>cases h
 | nil=>exact .inl ⟨rfl,rfl,rfl⟩
 | emp=>exact .inr ⟨rfl,_,_,rfl,A7 _⟩
 | sl d _ _ _ _=>exact .inr ⟨rfl,_,_,rfl,d⟩
def lQ{t e:TypeId}{a:Option Addr}{n c:Nat}(hu:P.underlying t=some (.slice e))(w:World):(Builtin.len_ ⟨t::tys⟩ ty #[.slice a n c]).run P w=.ok (.int .i64 n) w:=by
 simp[Builtin.len_,A4,D2 hu,Result.andThen,goInt]
def A46{t:Nat}{v:Value}{c:Bool}{wd:Nat}{rows:List (List U)}(h:U6 m 3 .len [hole i t]=some (v,m'))(hi:Ora.env i=.seq c wd rows)(e:Sat m'.lg):VR ρ v (.int .i64 rows.length)/\K3 m m'/\m.lg.le m'.lg/\D9 Ora.env v=.int .i64 rows.length:=by
 obtain⟨u,d,l,r,g,f,n⟩:=N0 h e;have b:[hole i t].map (D9 Ora.env)=[.seq c wd rows]:=by
  show[Ora.env i]=_;rw[hi]
 rw[b]at d;have d:U.int .i64 rows.length=u:=d;subst d;cases g;refine⟨f ρ,I1 h,I5 h,?_⟩;obtain⟨rfl,rfl⟩:=jR h;obtain⟨h1,k,h3⟩:=e (.lt m.lg.nx 3 .len [hole i t]) (by cases m;exact B4);show Ora.env m.lg.nx=_;rw[h1,b];rfl
def mN{i j:Nat}:∀ {l:List p9},tA i l=some j->∃ tg,p9.lt j 3 .len [hole i tg] ∈ l
 | [],h=>by cases h
 | e::r,h=>by
   unfold tA at h;split at h
   .cases h
   .rename_i f t k tg r' he;cases he;cases d:Nat.beq k i && Nat.beq t 3 with
    | true =>
      rw[d]at h;cases h;obtain⟨h1,c⟩:=B8 d;have h1:=A0 h1;have c:=A0 c;subst h1;subst c;exact⟨tg,.head _⟩
    | false =>
      rw[d]at h;obtain⟨b,h3⟩:=mN h;exact⟨b,.tail _ h3⟩
   .rename_i he;cases he;obtain⟨b,h3⟩:=mN h;exact⟨b,.tail _ h3⟩
def cG{t:Nat}{v:Value}(h:HC m i t=some (v,m')):K3 m m'/\m.lg.le m'.lg:=by
 unfold HC at h;split at h
 .cases h;exact⟨K3.refl _,.refl _⟩
 .exact⟨I1 h,I5 h⟩
def mH{t:Nat}{v:Value}{c:Bool}{wd:Nat}{rows:List (List U)}(h:HC m i t=some (v,m'))(hi:Ora.env i=.seq c wd rows)(d:Sat m'.lg):VR ρ v (.int .i64 rows.length)/\K3 m m'/\m.lg.le m'.lg/\D9 Ora.env v=.int .i64 rows.length:=by
 unfold HC at h;split at h
 .rename_i j e;cases h;obtain⟨tg,hm⟩:=mN e;obtain⟨h1,f,_⟩:=d _ hm;have b:[hole i tg].map (D9 Ora.env)=[.seq c wd rows]:=by
   show[Ora.env i]=_;rw[hi]
  rw[b]at h1;have h1:Ora.env j=.int .i64 rows.length:=h1;refine⟨.hole ?_ ?_,K3.refl _,.refl _,h1⟩
  .rw[h1];rfl
  .rw[h1];rfl
 .exact A46 h hi d
def XD{b:Nat}{v':Value}(h:A1Y ρ b u v'):∃ d wd rows a c,u=.seq d wd rows/\v'=.slice a rows.length c:=by
 rcases h with⟨l,wd,h1,e,h3,rfl⟩|⟨l,wd,rows,h1,e,h3,g,f,rfl⟩
 .exact⟨_,_,_,_,_,h3,rfl⟩
 .exact⟨_,_,_,_,_,h3,by rw[g]⟩
def A47{t:TypeId}{x x' v:Value}(h:A48 P m t x=some (v,m'))(hx:VR ρ x x')(k:Sat m'.lg):(∃ r,(Builtin.len_ ⟨t::tys⟩ ty #[x']).run P w=.ok r w/\VR ρ v r)/\K3 m m'/\m.lg.le m'.lg:=by
 unfold A48 at h;split at h
 .rename_i e b i tg hu;obtain⟨l,h1,d,h3,n⟩:=oC hx;obtain⟨g,wd,rows,f,_⟩:=gU d h3 n;obtain⟨g1,g2,g3,_⟩:=mH (ρ:=ρ) h f k;rw[f]at d;rcases aJ d with⟨rfl,rfl,rfl⟩|⟨rfl,a,c,rfl,_⟩
  .exact⟨⟨_,lQ hu w,g1⟩,g2,g3⟩
  .exact⟨⟨_,lQ hu w,g1⟩,g2,g3⟩
 .rename_i e b i tg hu;obtain⟨l,h1,d,h3,n,_⟩:=gN hx;obtain⟨g,wd,rows,f,_⟩:=gU d h3 n;obtain⟨g1,g2,g3,_⟩:=mH (ρ:=ρ) h f k;rw[f]at d;rcases aJ d with⟨rfl,rfl,rfl⟩|⟨rfl,a,c,rfl,_⟩
  .exact⟨⟨_,lQ hu w,g1⟩,g2,g3⟩
  .exact⟨⟨_,lQ hu w,g1⟩,g2,g3⟩
 .rename_i e b i tg hu;obtain⟨g,wd,rows,a,c,f,rfl⟩:=XD (gM hx).1;obtain⟨g1,g2,g3,_⟩:=mH (ρ:=ρ) h f k;exact⟨⟨_,lQ hu w,g1⟩,g2,g3⟩
 .cases h
def EJ{v v':Value}{n:Nat}(hv:VR ρ v v')(c:AJ v=true)(b:D9 Ora.env v=.int kk (.ofNat n)):∃ j,v'=.int j (.ofNat n):=by
 obtain⟨k,z,rfl,f2,_⟩:=N1 hv (A1 c);rw[f2]at b;injection b with _ hb
 exact⟨k,by rw[hb]⟩
def A0C{h x e x':Value}(hs:SI h x=true)(h1:VR ρ h e)(d:VR ρ x x'):e=x':=by
 unfold SI at hs;split at hs
 .rename_i i t1 j t2
  have:=A0 hs;subst this;have hh:∀ {t:Nat} {v:Value},VR ρ (.complex .f64 i t) v->toV (Ora.env i)=some v:=fun{t v} h=>by
   cases h with
   | pure hp=>simp[J0]at hp
   | hole h _=>exact h
  have a:=hh h1;rw[hh d]at a;exact(A9 a).symm
 .obtain⟨c,b⟩:=B8 hs;have c:=iK c;rw[cV]at b;have b:=eq_of_beq b;subst c;subst b;cases J9 h1;cases J9 d;rfl
 .cases hs
def A27{wd v:Nat}{d:Bool}{rows:List (List U)}{a b:U}(c:evU (.subs wd) [.seq d v rows,a,b]≠.none):∃ g l f h,a=.int g (.ofNat l)/\b=.int f (.ofNat h)/\v=wd/\l<=h/\h<=rows.length:=by
 cases a with
 | int g k=>cases k with
   | ofNat l=>cases b with
     | int f z2=>cases z2 with
       | ofNat h =>
         have c:(if v=wd/\l<=h/\h<=rows.length then U.seq d wd ((rows.drop l).take (h-l))else .none)≠.none:=c;by_cases e:v=wd/\l<=h/\h<=rows.length
         .exact⟨g,l,f,h,rfl,rfl,e.1,e.2.1,e.2.2⟩
         .rw[A6 e]at c;exact(c rfl).elim
       | negSucc _=>exact(c rfl).elim
     | _=>exact(c rfl).elim
   | negSucc _=>exact(c rfl).elim
 | _=>exact(c rfl).elim
def A5b{G:Nat->Option Obj}{p:Bool}{wd l h mm n c:Nat}{rows:List (List U)}{a:Option Addr}(he:Enc G (.seq p wd rows) (.slice a n c))(M:l<=h)(hh:h<=rows.length)(hm:h<=mm)(H:mm<=c) :
  Enc G (.seq p wd ((rows.drop l).take (h-l))) (.slice (if mm=l then a else a.map (·.add (l*wd))) (h-l) (mm-l))∨a=none:=by
 cases he with
 | sc h=>cases h
 | nil=>exact .inr rfl
 | emp =>
   rename_i a;have g:h=0:=by simpa using hh
   subst g;have f:l=0:=A2;subst f;have J:mm=0:=A2;subst J;exact .inl .emp
 | sl N I L hw t =>
   rename_i a o C T fz;refine .inl ?_;have hlen:((rows.drop l).take (h-l)).length=h-l:=by simp;omega
   have key:∀ b x,(h-l≠0->b=a/\x=o+l*wd)->Enc G (.seq false wd ((rows.drop l).take (h-l))) (.slice (some ⟨b,x,none⟩) (h-l) (mm-l)):=fun b x A=>by
    have B:∀ r row,((rows.drop l).take (h-l))[r]? = some row->h-l≠0/\rows[l+r]? = some row:=fun r row hr=>by
     have k:=(B1.1 hr).1;rw[hlen]at k;rw[F0 k,I7]at hr;exact⟨A2,hr⟩
    have d:(rows.drop l).take (h-l)≠[]->h-l≠0/\rows≠[]:=fun d=>by
     constructor
     .intro e;rw[e]at d;simp at d
     .intro e;subst e;simp at d
    have:=Enc.sl (G:=G) (w:=wd) (rows:=(rows.drop l).take (h-l)) (a:=b) (o:=x) (c:=mm-l) (C:=C) (T:=T) (fz:=fz) A2
     (fun y=>by obtain⟨g,f⟩:=d y;rw[(A g).1];exact I f)
     (fun y=>by
       obtain⟨g,f⟩:=d y;rw[hlen,(A g).2];have h1:=L f;have E:(l+(h-l))*wd<=rows.length*wd:=F9 wd A2;rw[I3]at E;omega)
     (fun row hr=>hw row (dL (List.mem_of_mem_take hr)))
     (fun r row j u v K F D=>by
       obtain⟨g,f⟩:=B r row K;rw[(A g).2]at D;refine t (l+r) row j u v f F ?_;rw[I3,show o+(l*wd+r*wd)+j=o+l*wd+r*wd+j by omega];exact D)
    rw[hlen]at this;exact this
   by_cases q:mm=l
   .rw[A8 q];exact key a o fun h=>by omega
   .rw[A6 q];have e:(Addr.mk a o none).add (l*wd)=⟨a,o+l*wd,none⟩:=by
     unfold Addr.add;split
     .rename_i h;rw[h];rfl
     .rfl
    show Enc G _ (.slice (some ((Addr.mk a o none).add (l*wd))) _ _);rw[e];exact key a (o+l*wd) fun _=>⟨rfl,rfl⟩
def IJ{t e:TypeId}{b s:Nat}{l:Loc}{hi:R2}{v x':Value}(hu:P.underlying t=some (.slice e))(hs:H6 P e=some s)(ak:tg=10+s)(h1:ρ b=some l)(F:Enc l.G (Ora.env i) x')(h3:G4 (Ora.env i)=tg)
  (ar:cl=true->A3b x') (h:NE m b i tg cl lo hi mx=some (v,m')) (Q:OR ρ lo lo') (M:OR ρ hi hi') (L:OR ρ mx mx') (hS:Sat m'.lg):(∃ r,(Instr.sliceAt t x' lo' hi' mx').run P w=.ok r w/\VR ρ v r)/\K3 m m'/\m.lg.le m'.lg:=by
 have d:∀ {o:R2},OR ρ none o->o=none:=fun{o} h=>by cases o<;>first|rfl|exact h.elim
 have f:∀ {y:Value} {o:R2},OR ρ (some y) o->∃ W,o=some W/\VR ρ y W:=fun{y o} h=>by cases o<;>first|exact h.elim|exact⟨_,rfl,h⟩
 obtain⟨J,wd,rows,e1,e2⟩:=gU F h3 A2;have az:wd=s:=A2;subst az;rw[e1]at F;obtain⟨a,n,c,aw,hn,ai⟩:∃ a n c,x'=.slice a n c/\n=rows.length/\n<=c:=by
  rcases aJ F with⟨rfl,rfl,rfl⟩|⟨rfl,a,c,rfl,hc⟩
  .exact⟨_,_,_,rfl,rfl,A7 _⟩
  .exact⟨_,_,_,rfl,rfl,hc⟩
 subst aw;have go:∀ {m:Mem} {p hv:Value} {cc:Bool} {C:R2} {hh mm:Nat},gV m b i tg p hv cc=some (v,m') ->
   (C=none/\p=.int .i64 0∨∃ y,C=some y/\VR ρ p y)->(∀ kk q,D9 Ora.env hv=.int kk (.ofNat q)->q<=rows.length->q=hh/\Bd mx' c c mm/\(hi'=none->mx'=none)/\Bd hi' mm n hh/\hh<=mm/\(cc=true->mm=hh)) ->
   (∃ r,(Instr.sliceAt t (.slice a n c) C hi' mx').run P w=.ok r w/\VR ρ v r)/\K3 m m'/\m.lg.le m'.lg:=fun{m p hv cc C hh mm} h E ax=>by
  unfold gV at h;obtain⟨hint,h⟩:=A3 h;obtain⟨av,an⟩:=B8 hint;rw[O4]at h;simp only[D6,L9]at h;obtain⟨rfl,rfl⟩:=h;obtain⟨f1,f2,ao,aj,Z,f3,f4⟩:=kW hS (.refl _);have V:[hole i tg,p,hv].map (D9 Ora.env)=[.seq J wd rows,D9 Ora.env p,D9 Ora.env hv]:=by
   show[Ora.env i,_,_]=_;rw[e1]
  rw[V]at f1;have aq:tg-10=wd:=A2;rw[aq]at f1;obtain⟨X,l0,O,h0,a1,a2,a3,a4⟩:∃ X l0 O h0,D9 Ora.env p=.int X (.ofNat l0)/\D9 Ora.env hv=.int O (.ofNat h0)/\l0<=h0/\h0<=rows.length:=by
   have au:evU (.subs wd) [.seq J wd rows,D9 Ora.env p,D9 Ora.env hv]≠.none:=by rw[<- f1,f3];intro h;cases h
   obtain⟨X,l0,O,h0,Y,B,_,q3,q4⟩:=A27 au;exact⟨X,l0,O,h0,Y,B,q3,q4⟩
  rw[a1,a2]at f1;have f1:Ora.env m.lg.nx=if wd=wd/\l0<=h0/\h0<=rows.length then U.seq J wd ((rows.drop l0).take (h0-l0))else .none:=f1
  rw[A8 ⟨rfl,a3,a4⟩]at f1;obtain⟨rfl,T,b2,b3,b4,b5⟩:=ax O h0 a2 a4;have b6:Bd C h0 0 l0:=by
   rcases E with⟨rfl,rfl⟩|⟨y,rfl,hy⟩
   .cases a1;exact .inl ⟨rfl,rfl⟩
   .obtain⟨j,rfl⟩:=EJ hy av a1;exact .inr ⟨j,rfl,a3⟩
  have R:=vJ (P:=P) (a:=a) (n:=n) (c:=c) hu hs T b2 b3 b6 w;have I:Enc l.G (Ora.env m.lg.nx) (.slice (if mm=l0 then a else a.map (·.add (l0*wd))) (h0-l0) (mm-l0)):=by
   rw[f1];rcases A5b (mm:=mm) F a3 a4 b4 (by rcases T with⟨_,rfl⟩|⟨_,_,T⟩<;>omega)with he|rfl
   .exact he
   .rcases aJ F with⟨rfl,rfl,H⟩|⟨_,_,_,H,_⟩
    .cases H;have z1:h0=0:=by simp at a4;exact a4
     have z2:l0=0:=A2;have z3:mm=0:=by
      rcases T with⟨_,rfl⟩|⟨_,_,T⟩<;>omega
     subst z1;subst z2;subst z3;exact .nil
    .cases H
  refine⟨⟨_,R,?_⟩,⟨_,rfl⟩,W9⟩;cases cc with
  | false=>exact .dat h1 I f2 A2 rfl
  | true =>
    refine .clp h1 I f2 A2 rfl ?_;show mm-l0=h0-l0;rw[b5 rfl]
 have A:∀ {hv y:Value} {kk:IntKind} {q:Nat},VR ρ hv y->AJ hv=true->D9 Ora.env hv=.int kk (.ofNat q)->∃ j,y=.int j (.ofNat q):=fun h1 F h3=>EJ h1 F h3
 have g:∀ {m:Mem} {p hv:Value} {cc:Bool},gV m b i tg p hv cc=some (v,m')->AJ hv=true:=fun h=>by
  unfold gV at h;exact(B8 (A3 h).1).2
 have main:∀ p,(lo'=none/\p=.int .i64 0∨∃ y,lo'=some y/\VR ρ p y)->ND m b i tg cl p hi mx=some (v,m')->(∃ r,(Instr.sliceAt t (.slice a n c) lo' hi' mx').run P w=.ok r w/\VR ρ v r)/\K3 m m'/\m.lg.le m'.lg:=fun p E h=>by
  cases hi with
  | some hv =>
    obtain⟨al,rfl,D⟩:=f M;cases mx with
    | none =>
      cases d L;have h:gV m b i tg p hv false=some (v,m'):=h;have hint:=g h;obtain⟨kk,q,H⟩:∃ kk q,D9 Ora.env hv=.int kk q:=by
       obtain⟨k,z,_,f2,_⟩:=N1 D (A1 hint);exact⟨k,z,f2⟩
      exact go (hh:=q.toNat) (mm:=c) h E fun S B h1 F=>by
       rw[H]at h1;injection h1 with _ h1
       subst h1;obtain⟨j,rfl⟩:=A D hint H;have e:(Int.ofNat B).toNat=B:=rfl;rw[e];exact⟨rfl,.inl ⟨rfl,rfl⟩,fun h=>(by cases h),.inr ⟨j,rfl,A2⟩,A2,fun h=>by cases h⟩
    | some x =>
      obtain⟨x',rfl,ay⟩:=f L;have h:(bif SI hv x then gV m b i tg p hv true else none)=some (v,m'):=h;obtain⟨K,h⟩:=A3 h;have hint:=g h
      have:=A0C K D ay;subst this;obtain⟨kk,q,H⟩:∃ kk q,D9 Ora.env hv=.int kk q:=by
       obtain⟨k,z,_,f2,_⟩:=N1 D (A1 hint);exact⟨k,z,f2⟩
      exact go (hh:=q.toNat) (mm:=q.toNat) h E fun S B h1 F=>by
       rw[H]at h1;injection h1 with _ h1
       subst h1;obtain⟨j,rfl⟩:=A D hint H;have e:(Int.ofNat B).toNat=B:=rfl;rw[e];exact⟨rfl,.inr ⟨j,rfl,A2⟩,fun h=>(by cases h),.inr ⟨j,rfl,A7 _⟩,A7 _,fun _=>rfl⟩
  | none =>
    cases d M;cases mx with
    | some x=>cases h
    | none =>
      cases d L;unfold ND at h;simp only at h;split at h
      .rename_i hv m1 hl;have N:K3 m1 m'/\m1.lg.le m'.lg:=by
        unfold gV at h;obtain⟨_,h⟩:=A3 h;rw[O4]at h;simp only[D6,L9]at h;obtain⟨_,rfl⟩:=h;exact⟨⟨_,rfl⟩,W9⟩
       obtain⟨Y,B,q3,q4⟩:=mH (ρ:=ρ) hl e1 (hS.le N.2);obtain⟨r1,r2,r3⟩:=go (hh:=rows.length) (mm:=c) h E fun S B h1 F=>by
        rw[q4]at h1;injection h1 with _ h1
        have h1:((rows.length:Nat):Int)=(B:Nat):=h1;have:B=rows.length:=A2;subst this;refine⟨rfl,.inl ⟨rfl,rfl⟩,fun _=>rfl,.inl ⟨rfl,hn.symm⟩,A2,fun hc=>?_⟩
        have:=ar hc;have:c=n:=this;omega
       exact⟨r1,B.trans r2,q3.trans r3⟩
      .cases h
 cases lo with
 | none=>exact main _ (.inl ⟨d Q,rfl⟩) h
 | some y=>obtain⟨W,Y,B⟩:=f Q;exact main _ (.inr ⟨W,Y,B⟩) h
end
end
section
open Go
variable [Ora]
section
variable {P:Program} {base:Nat} {ρ ρ':Ren} {m m':Mem} {w w':World}
def P5(R:Nat->Option Obj)(rows:List (List U))(wd:Nat)(C:Array Value)(o:Nat):Prop :=
 (∀ row ∈ rows,row.length=wd)/\∀ (r:Nat) (row:List U) (j:Nat) (u:U) (v:Value),rows[r]? = some row->row[j]? = some u->C[o+r*wd+j]? = some v->Enc R u v
def P5.mono{R d:Nat->Option Obj}{rows:List (List U)}{wd:Nat}{C:X4}(h:P5 R rows wd C o)(hs:Sub R d):P5 d rows wd C o:=⟨h.1,fun r row j u v a b c=>(h.2 r row j u v a b c).mono hs⟩
def P5.nil{R:Nat->Option Obj}{wd:Nat}{C:X4}:P5 R [] wd C o:=⟨fun _ h=>by(cases h),fun r row j u v h=>by simp at h⟩
def oJ{wd:Nat}:∀ {n:Nat} {l:List U} {r:List (List U)},l7 wd n l=some r->r.length=n/\l.length=n*wd/\(∀ row ∈ r,row.length=wd)/\∀ (q:Nat) (row:List U) (j:Nat) (u:U),r[q]? = some row->row[j]? = some u->l[q*wd+j]? = some u
 | 0,[],r,h=>by cases h;exact⟨rfl,by simp,fun _ h=>(by cases h),fun q row j u h=>by simp at h⟩
 | 0,_::_,r,h=>by cases h
 | n+1,l,r,h=>by
   unfold l7 at h;split at h
   .rename_i hle;split at h
    .rename_i g hr;cases h;obtain⟨h1,c,h3,f⟩:=oJ hr;have e:l.length=(n+1)*wd:=by
      rw[D7]at c;rw[I3];omega
     refine⟨by simp[h1],e,fun row b=>?_,fun q row j u g1 g2=>?_⟩
     .rcases B3.1 b with rfl|b
      .simp;omega
      .exact h3 row b
     .cases q with
      | zero =>
        simp at g1;subst g1;have d:=(B1.1 g2).1;simp at d;rw[F0 A2]at g2
        simpa using g2
      | succ q =>
        have:=f q row j u (by simpa using g1) g2;rw[I7]at this;rw[show(q+1)*wd+j=wd+(q*wd+j) by rw[I3];omega];exact this
    .cases h
   .cases h
def pY{wd:Nat}:∀ (n:Nat) (l:List U),l.length=n*wd->∃ r,l7 wd n l=some r
 | 0,[],_=>⟨[],rfl⟩
 | 0,_::_,h=>by simp at h
 | n+1,l,h=>by
   rw[I3]at h;obtain⟨r,hr⟩:=pY (wd:=wd) n (l.drop wd) (by rw[D7];omega);refine⟨l.take wd::r,?_⟩;unfold l7;rw[A8 A2,hr]
def oU{R:Nat->Option Obj}{wd n:Nat}{rows:List (List U)}(h:c9 R us vs)(c:l7 wd n us=some rows):P5 R rows wd ⟨vs⟩ 0:=by
 obtain⟨h1,d,h3,b⟩:=oJ c;refine⟨h3,fun r row j u v g1 g2 g3=>h.2 _ u v (b r row j u g1 g2) ?_⟩
 simpa using g3
def zE{α:Type}{l:List α}:∀ n,(PO l n).length=n*l.length
 | 0=>by simp[PO]
 | n+1=>by simp[PO,zE n,I3];omega
def iM(s:List UInt8):(kM s).length=s.length:=by simp[kM]
def KL{R:Nat->Option Obj}(s:List UInt8):P5 R (kM s) 1 ⟨Q0 s⟩ 0:=by
 refine⟨fun row hr=>?_,fun r row j u v g1 g2 g3=>?_⟩
 .unfold kM at hr;obtain⟨b,_,rfl⟩:=I6.1 hr;rfl
 .unfold kM at g1;rw[F8]at g1;cases c:s[r]? with
  | none=>rw[c]at g1;cases g1
  | some b =>
    rw[c]at g1;simp only[L8,D6]at g1;subst g1;cases j with
    | zero =>
      simp at g2;subst g2;have g3:(Q0 s)[0+r*1+0]? = some v:=by simpa using g3
      unfold Q0 at g3;rw[F8,show 0+r*1+0=r by omega,c]at g3;simp only[L8,D6]at g3;subst g3;exact .sc rfl
    | succ j=>simp at g2
def uV{G:Nat->Option Obj}{wd n c:Nat}{rows:List (List U)}(h:Enc G (.seq false wd rows) (.slice (some a) n c))(E:∀ k A,G k=some A->w.heap[k]? = some A) :
  n=rows.length/\∃ new',new'.length=rows.length*wd/\new'.all o8=true/\P5 G rows wd ⟨new'⟩ 0/\∀ (j:Nat) (v':Value),new'[j]? = some v'->w.cell? (a.add j)=some v':=by
 cases h with
 | sc h=>cases h
 | emp=>exact⟨rfl,[],by simp,rfl,.nil,fun j v' h=>by simp at h⟩
 | sl I F B hw f =>
   rename_i a o C T fz;refine⟨rfl,?_⟩;cases hr:rows with
   | nil=>exact⟨[],by simp,rfl,.nil,fun j v' h=>by simp at h⟩
   | cons J H =>
     have p:rows≠[]:=by rw[hr];simp
     rw[<- hr];have hh:=E _ _ (F p);have B:=B p;have hlen:((C.toList.drop o).take (rows.length*wd)).length=rows.length*wd:=by simp;omega
     have b:∀ j,j<rows.length*wd->((C.toList.drop o).take (rows.length*wd))[j]? = C[o+j]? := fun j d=>by
      rw[F0 d,I7];simp
     refine⟨_,hlen,?_,⟨hw,fun r row j u v g1 g2 g3=>?_⟩,fun j v' d=>?_⟩
     .refine D5.2 fun v hv=>?_
      obtain⟨j,d,e⟩:=m6 hv;rw[hlen]at d;have x:C[o+j]? = some v:=by rw[<- b j d,A5 (by rw[hlen];exact d),e]
      have l:0<wd:=by
       rcases T6 wd with h0|h0
       .subst h0;omega
       .exact h0
      have h1:j / wd<rows.length:=by rw[Nat.div_lt_iff_lt_mul l];exact d
      have q:(rows[j / wd]).length=wd:=hw _ (O1 h1);have h3:j%wd<wd:=qE _ l;refine mT (f (j / wd) rows[j / wd] (j%wd) (rows[j / wd])[j%wd] v (A5 h1) (A5 (by rw[q];exact h3)) ?_);have:o+j / wd*wd+j%wd=o+j:=by have:=Nat.div_add_mod j wd;rw[bQ]at this;omega
      rw[this];exact x
     .have D:0+r*wd+j<rows.length*wd:=by
       have y:=(B1.1 g1).1;have t:=(B1.1 g2).1;rw[hw _ (D1 g1)]at t;have q:(r+1)*wd<=rows.length*wd:=F9 wd y;rw[I3]at q;omega
      have g3:((C.toList.drop o).take (rows.length*wd))[0+r*wd+j]? = some v:=by simpa using g3
      rw[b _ D]at g3;exact f r row j u v g1 g2 (by rw[show o+r*wd+j=o+(0+r*wd+j) by omega];exact g3)
     .have g:=(B1.1 d).1;rw[hlen]at g;rw[b j g]at d;rw[K8.add_none'];simp[World.cell?,hh,d]
structure YK (P:Program) (ρ':Ren) (w:World) (wd:Nat) (bh:Beh) (gs:List Nat) (y':Value) (rows2:List (List U)) (new':List Value):Prop where
 len:∀ wd',(Builtin.lenOf y').run P wd'=.ok rows2.length wd'
 first:∀ wd':World,wd'.heap=w.heap->(Builtin.firstCells wd rows2.length y').run P wd'=.ok ⟨new'⟩ wd'
 size:new'.length=rows2.length*wd
 flat:new'.all o8=true
 rows:∀ R,(∀ b ∈ gs,∀ l,ρ' b=some l->Sub l.G R)->P5 R rows2 wd ⟨new'⟩ 0
 ev:∀ c nul rows,Ora.env c=.seq nul wd rows->evU (dY wd (hole c (10+wd)) bh).1 ((dY wd (hole c (10+wd)) bh).2.map (D9 Ora.env))=tM nul wd rows rows2
def EV{R:Nat->Option Obj}(h:c9 R us vs):vs.all o8=true:=by
 refine D5.2 fun v hv=>?_
 obtain⟨j,b,e⟩:=m6 hv;have hu:j<us.length:=by rw[h.1];exact b
 exact mT (h.2 j us[j] v (A5 hu) (by rw[A5 b,e]))
def VW{td:Td}(M:BX P td){e:TypeId}{wd:Nat}{y y':Value}{bh:Beh}{gs:H9}(h:HR P base ρ m.H w)(p:A3k td P m e wd y=some (bh,gs,sure,m'))(hf:K7 ρ m.n m'.hi)(Q:VR ρ y y')(hS:Sat m'.lg)(X:0<wd)(W:H6 P e=some wd) :
  ∃ ρ' d new',St P base ρ ρ' m m' w w/\m.lg.le m'.lg/\q8 ρ m m'/\(∀ b ∈ gs,Hp.get m'.H b=some .frz/\∃ l,ρ' b=some l)/\YK P ρ' w wd bh gs y' d new'/\(sure=true->d≠[]):=by
 unfold A3k at p;split at p
 .cases p;cases Q3 Q;refine⟨ρ,[],[],St.refl h,.refl _,.refl,fun b C=>(by cases C),⟨fun _=>rfl,fun _ _=>rfl,by simp,rfl,fun R _=>.nil,fun c g rows B=>?_⟩,fun h=>by cases h⟩;show evU (.snoc wd) [Ora.env c]=_;rw[B];show(if wd=wd/\wd≠0 then(match l7 wd (([]:List U).length / wd) []with|some r=>tM g wd rows r|none=>.none)else .none)=_;rw[A8 ⟨rfl,A2⟩,J3,Nat.zero_div];rfl
 .rename_i a n c;split at p
  .rename_i cs ts hr ay;split at p
   .rename_i xs aw m2 T;cases p;have az:fF m wd (.slice (some a) n c)=some (n,cs):=by simp only[fF,hr]
    obtain⟨f1,new',f2,f3⟩:=vY h az Q;obtain⟨ρ2,I,L,O,A,e5,J⟩:=jC M h T hf f2 hS;have Y:ts.length=wd:=by have:=jF ay;rw[W]at this;exact(A9 this).symm
    have E:(xs.map (D9 Ora.env)).length=n*wd:=by
     have:=E1 List.length e5;rw[E7,zE,Y]at this;exact this
    obtain⟨d,F⟩:=pY (wd:=wd) n (xs.map (D9 Ora.env)) E;obtain⟨g1,g2,g3,g4⟩:=oJ F;refine⟨ρ2,d,new',I,L,O,A,⟨fun q=>by rw[g1];exact f1 q,fun q D=>by rw[g1];exact f3 q D,?_,?_,fun R hR=>oU (J R hR) F,fun c g rows B=>?_⟩,fun hs=>?_⟩
    .have:=(J (fun k=>w.heap[k]?) (fun b C l V k o S=>by
      obtain⟨K,_⟩:=A b C;exact(I.hr.atl V K).1.2 k o S)).1
     rw[<- this,E,g1]
    .exact EV (J (fun k=>w.heap[k]?) (fun b C l V k o S=>by
      obtain⟨K,_⟩:=A b C;exact(I.hr.atl V K).1.2 k o S))
    .show evU (.snoc wd) (Ora.env c::xs.map (D9 Ora.env))=_;rw[B];show(if wd=wd/\wd≠0 then(match l7 wd ((xs.map (D9 Ora.env)).length / wd) (xs.map (D9 Ora.env))with|some r=>tM g wd rows r|none=>.none)else .none)=_;rw[A8 ⟨rfl,A2⟩,E,v6 _ X,F]
    .have:0<n:=A1 hs;intro he;subst he;simp at g1;omega
   .cases p
  .cases p
 .split at p
  .rename_i x b m2 T;cases p;obtain⟨ρ2,l,I,L,O,A,e5,J,e7⟩:=M.ok h T hf Q hS;obtain⟨ax,f,d,K,q2⟩:=gU A e5 A2;have Z:f=wd:=A2;subst Z;have hG:=(I.hr.atl L O).1.2;rw[K]at A;have N:∀ c g rows,Ora.env c=.seq g f rows->evU (dY f (hole c (10+f)) (.rows x)).1 ((dY f (hole c (10+f)) (.rows x)).2.map (D9 Ora.env))=tM g f rows d:=fun c g rows B=>by
    show evU (.cat f) [Ora.env c,D9 Ora.env x]=_;rw[B,K];simp[evU]
   have t:∀ b' ∈ [b],Hp.get m'.H b'=some .frz/\∃ l,ρ2 b'=some l:=fun b' G=>by
    rcases B3.1 G with rfl|G
    .exact⟨O,l,L⟩
    .cases G
   rcases aJ A with⟨rfl,rfl,rfl⟩|⟨rfl,a,c,rfl,B⟩
   .exact⟨ρ2,[],[],I,J,e7,t,⟨fun _=>rfl,fun _ _=>rfl,by simp,rfl,fun R _=>.nil,N⟩,fun h=>by cases h⟩
   .obtain⟨_,new',g1,g2,g3,g4⟩:=uV (w:=w) A hG;refine⟨ρ2,d,new',I,J,e7,t,⟨fun _=>rfl,fun q D=>?_,g1,g2,fun R hR=>g3.mono (hR b (.head _) l L),N⟩,fun h=>by cases h⟩;rw[show Builtin.firstCells f d.length (.slice (some a) d.length c)=loadCells a (d.length*f)from rfl];exact mG g1 fun j v' hj=>by rw[cJ D];exact g4 j v' hj
  .cases p
 .obtain⟨h1,p⟩:=A3 p;obtain⟨h2,h3⟩:=B8 h1;have h4:=A0 h2;have h5:=A0 h3;cases p;subst h5;obtain⟨s,rfl,f1⟩:=s8 Q h4;refine⟨ρ,kM s,Q0 s,St.refl h,.refl _,.refl,fun b C=>(by cases C),⟨fun _=>?_,fun q _=>?_,by simp[kM,Q0],?_,fun R _=>KL s,fun c g rows B=>?_⟩,fun h=>by cases h⟩
  .rw[iM];rfl
  .rw[iM];have e:((ByteArray.extract ⟨⟨s⟩⟩ 0 s.length).data.map fun b=>Value.int .u8 b.toNat)=⟨Q0 s⟩:=by
    rw[hY];apply J5;simp[Q0]
   show(pure ((ByteArray.extract ⟨⟨s⟩⟩ 0 s.length).data.map fun b=>Value.int .u8 b.toNat):Sem X4).run P q=_;rw[e];rfl
  .refine D5.2 fun v hv=>?_
   unfold Q0 at hv;obtain⟨b,_,rfl⟩:=I6.1 hv;rfl
  .show evU .cats [Ora.env c,D9 Ora.env y]=_;rw[B,f1];simp[evU]
end
end
section
open Go
variable [Ora]
section
variable {P:Program} {base:Nat} {ρ ρ':Ren} {m m':Mem} {w w':World}
def Sub.trans{A B C:Nat->Option Obj}(h:Sub A B)(k:Sub B C):Sub A C:=fun q o b=>k q o (h q o b)
structure A4A (P:Program) (base:Nat) (ρ:Ren) (m:Mem) (w:World) (e:TypeId) (wd c:Nat) (gs:List Nat) (old:Option Nat) (x':Value):Prop where
 ex:∃ nul rows,Ora.env c=.seq nul wd rows/\((nul=true/\rows=[]/\x'=.slice none 0 0/\(∀ b,old=some b->∃ ab l,b<=I4/\Hp.get m.H b=some ab/\ab.rw=true/\ρ b=some l/\l.on=false)) ∨
  (nul=false/\∃ b ab l cap C fz,old=some b/\b<=I4/\Hp.get m.H b=some ab/\ab.rw=true/\ρ b=some l/\l.on=true/\x'=.slice (some ⟨l.blk,l.sh,none⟩) rows.length cap/\w.heap[l.blk]? = some (.cells C e fz) /\
    rows.length<=cap/\l.sh+cap*wd<=C.size/\(∀ i,i<C.size->¬ (fz.1<=i/\i<fz.2))/\∀ R,(∀ b ∈ gs,∀ l,ρ b=some l->Sub l.G R)->P5 R rows wd C l.sh))
def NZ{td:Td}(ar:BX P td){e:TypeId}{wd c:Nat}{x x':Value}{gs:H9}{old:Option Nat}(h:HR P base ρ m.H w)(d:FL td P m e wd x=some (c,gs,old,m'))(hf:K7 ρ m.n m'.hi)(hx:VR ρ x x')(hS:Sat m'.lg)(aq:0<wd)(k:H6 P e=some wd) :
  ∃ ρ',St P base ρ ρ' m m' w w/\m.lg.le m'.lg/\q8 ρ m m'/\A4A P base ρ' m' w e wd c gs old x':=by
 unfold FL at d;split at d
 .rw[O4]at d;simp only[hole]at d;cases d;cases Q3 hx;obtain⟨t,e2,_⟩:=kW hS (.refl _);refine⟨ρ,St.wLg h _,W9,q8.lg _,⟨true,[],t,.inl ⟨rfl,rfl,rfl,fun b hb=>by cases hb⟩⟩⟩
 .rename_i b i tg;split at d
  .rename_i c0 tc T g S;obtain⟨h1,d⟩:=A3 d;obtain⟨h1,I⟩:=B8 h1;obtain⟨h1,h3⟩:=B8 h1;obtain⟨I,A⟩:=B8 I;have h1:=A0 h1;have h3:=A0 h3;have I:=A0 I;have A:=A1 A;cases d;subst I;obtain⟨W,bz⟩:=gM hx;rcases W with⟨l,aa,g1,g2,g3,rfl⟩|⟨l,aa,ax,g1,g2,g3,g4,bw,rfl⟩
   .obtain⟨O,inf,t,e2,e3,f⟩:=SqR.ex (h.atl g1 S).1;rcases f with⟨_,f⟩|⟨f,_⟩
    .have:O=wd:=A2;subst this;refine⟨ρ,St.refl h,.refl _,.refl,⟨true,[],f,.inl ⟨rfl,rfl,rfl,fun b' ae=>?_⟩⟩⟩;cases ae;exact⟨_,l,A,S,rfl,g1,g2⟩
    .rw[g2]at f;cases f
   .obtain⟨O,inf,t,e2,e3,f⟩:=SqR.ex (h.atl g1 S).1;rcases f with⟨f,_⟩|⟨_,f⟩
    .rw[g2]at f;cases f
    .obtain⟨C,fz,T',rows,lg,f1,f2,f3,f4,f5,f6,f7,f8,f9⟩:=f;have:O=wd:=A2;subst this;obtain⟨rfl,f10⟩:=f9 rfl;exact⟨ρ,St.refl h,.refl _,.refl,⟨false,rows,f2,.inr ⟨rfl,b,_,l,l.cap,C,fz,rfl,A,S,rfl,g1,g2,by rw[f3],f1,A2,f5,f10,fun R hR=>⟨f6,fun r row j u v q1 q2 q3=>(f8 r row j u v q1 q2 q3).mono (hR g (.head _) lg f7)⟩⟩⟩⟩
  .cases d
 .rename_i b n c0;split at d
  .rename_i cs T0 bs ts S ad;obtain⟨hq,p⟩:=A3 d;obtain⟨ag,au⟩:=B8 hq;have h1:=A0 ag;clear d;split at p
   .rename_i xs bu m1 hd;split at p
    .rename_i br T Y;obtain⟨L,J⟩:=A3 p;clear p;obtain⟨L,A⟩:=B8 L;have h3:=A0 L;have A:=A1 A;subst h3;rw[O4]at J;simp only[hole]at J;cases J;have ao:K7 ρ m.n m1.hi:=by simpa using hf
     have aj:Sat m1.lg:=S3.le hS W9;obtain⟨l,cap,q,bx,ak,ay⟩:∃ l cap,ρ b=some l/\n<=cap/\(cap=n∨cap=l.cap)/\x'=.slice (some ⟨l.blk,0+l.sh,none⟩) n cap:=by
      rcases(J4 _ _).mp au with E|E
      .obtain⟨G,F⟩:=B8 E;have G:=A0 G;have F:c0<N4:=A1 F;rcases P8 hx with⟨l,q,_,K,rfl⟩|⟨l,c',q,_,ah,Z,X,rfl⟩|⟨a',c',_,_,E,_⟩
       .exact⟨l,c0,q,A2,.inl G,rfl⟩
       .omega
       .omega
      .have E:=A0 E;rcases P8 hx with⟨l,q,_,K,rfl⟩|⟨l,c',q,_,ah,Z,X,rfl⟩|⟨a',c',_,_,F,_⟩
       .omega
       .exact⟨l,c',q,Z,.inr (X E rfl),rfl⟩
       .omega
     obtain⟨⟨af,C,fz,T1,f1,f2,_⟩,_⟩:=h.atl q S;obtain⟨cs',f4,f5⟩:=eP (ρ:=ρ) (C:=C) (cs:=cs) (s:=l.sh) f2;obtain⟨an,t,e2,e3,f,e5,e6⟩:=jC ar h hd ao f4 aj;obtain⟨⟨_,C1,bt,T2,g1,g2,g3⟩,_⟩:=t.hr.atl (t.ext _ _ q) Y;rw[f1]at g1;cases g1;obtain⟨rfl,g4,g5⟩:=g3 rfl;have B:=jF ad;rw[k]at B;have K:ts.length=wd:=(A9 B).symm;have V:(xs.map (D9 Ora.env)).length=n*wd:=by
      have:=E1 List.length e5;rw[E7,zE,K]at this;exact this
     obtain⟨rows,N⟩:=pY (wd:=wd) n (xs.map (D9 Ora.env)) V;obtain⟨q1,q2,q3,q4⟩:=oJ N;obtain⟨d1,d2,_⟩:=kW hS (.refl _);have E:Ora.env m1.lg.nx=.seq false wd rows:=by
      rw[d1];show(if wd=0 then U.none else match l7 wd ((xs.map (D9 Ora.env)).length / wd) (xs.map (D9 Ora.env))with|some r=>.seq false wd r|none=>.none)=_;rw[A6 A2,V,v6 _ aq,N]
     have al:cs'.length=n*wd:=by rw[<- f4.1];exact h1
     obtain⟨inf,D,y⟩:∃ inf,P.info? T1=some inf/\inf.size=wd:=by
      unfold H6 at k;cases hi:P.info? T1 with
      | none=>rw[hi]at k;cases k
      | some inf=>rw[hi]at k;exact⟨inf,rfl,A9 k⟩
     have Q:l.sh+cap*wd<=C.size:=by
      rcases ak with rfl|rfl
      .rcases T6 (cap*wd)with h0|h0
       .rw[h0]
        have:=g5 inf D;rw[y]at this;omega
       .have M:cap*wd-1<cs'.length:=A2
        have:=f5 (cap*wd-1) cs'[cap*wd-1] (A5 M)
        have:=(D0.1 this).1;omega
      .have:=g5 inf D;rw[y]at this;exact this.1
     have av:=St.wLg t.hr (fZ m1 (10+wd) (.mk wd) xs);refine⟨an,St.trans (by simpa using hf) t av,e2.trans W9,fun j lj hj ai=>by rw[lL];exact e3 j lj hj ai,⟨false,rows,E,.inr ⟨rfl,b,_,l,cap,C,fz,rfl,A,by rw[lL];exact Y,rfl,t.ext _ _ q,af,by rw[ay,q1,F7],f1,A2,Q,g4,fun R hR=>?_⟩⟩⟩;obtain⟨r1,r2⟩:=oU (e6 R hR) N;refine⟨r1,fun r row j u v a1 a2 a3=>r2 r row j u v a1 a2 ?_⟩;have hq:r*wd+j<cs'.length:=by
      have aw:=(B1.1 a1).1;have az:=(B1.1 a2).1;rw[r1 _ (D1 a1)]at az;have I:(r+1)*wd<=rows.length*wd:=F9 wd aw;rw[I3]at I;rw[al,<- q1];omega
     have:=f5 (r*wd+j) cs'[r*wd+j] (A5 hq);rw[show l.sh+r*wd+j=l.sh+(r*wd+j) by omega,this]at a3;have a3:=A9 a3;show(Array.mk cs')[0+r*wd+j]? = some v;rw[J2,show 0+r*wd+j=r*wd+j by omega,A5 hq,a3]
    .cases p
   .cases p
  .cases d
 .cases d
end
end
end Go.Sx
