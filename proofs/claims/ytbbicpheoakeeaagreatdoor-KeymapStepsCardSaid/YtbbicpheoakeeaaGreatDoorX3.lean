import Derived.Test.YtbbicpheoakeeaaGreatDoorX2
set_option linter.all false
set_option maxRecDepth 100000
set_option maxHeartbeats 4000000
namespace Go.Sx
variable {op:LOp}{s ty:TypeId}{hi i j o tg:Nat}{i' z z':Value}{u:U}{kh kk kl:IntKind}{hi' lo lo' mx mx':R1}{hs r' vs vs' xs:D2}{tys:List TypeId}{a:Addr}{m1:Mem}{row us:List U}{ts:H6}{cl sure:Bool}
section
open Go
variable [Ora]
section
variable {P:Program} {base:Nat} {ρ:Ren} {m m':Mem} {w:World}
def pk(k:IntKind)(n:Int):I8 (.int k n)=true:=rfl
def YS{op:UnOp}{x x' v:Value}(h:JK m op x=some (v,m'))(hx:VR ρ x x')(l:Sat m'.lg)(w:World):∃ r,(Op.unary op x').run P w=.ok r w/\VR ρ v r:=by
 unfold JK at h;simp only at h;split at h
 .obtain⟨h1,h⟩:=A3 h;obtain⟨b,rfl,e⟩:=iA hx (A0 h1);obtain⟨u,c,g,r,f,d,_⟩:=M8 h l;simp only[C3,F6,e,evU,ev1,unM,ofV]at c;subst c;cases f;exact⟨_,(OA (P:=P) (ρ:=ρ) (op:=.not) (x:=.bool b) (v:=.bool !b) rfl (.pure rfl) w).1,d ρ⟩
 .obtain⟨h1,h⟩:=A3 h;obtain⟨k,n,rfl,e,_⟩:=M9 hx (A1 h1);obtain⟨u,c,g,r,f,d,p⟩:=M8 h l;simp only[C3,F6,e,evU,ev1]at c;subst c;obtain⟨r',g1,g2⟩:=GO (by rw[g];exact p);rw[f]at g2;cases g2;exact⟨_,(OA (P:=P) (ρ:=ρ) g1 (.pure (pk k n)) w).1,d ρ⟩
def OI{t:TypeId}{x x' v:Value}(h:qN P m s t x=some (v,m'))(hx:VR ρ x x')(f:Sat m'.lg)(w:World):∃ r,(convert s t x').run P w=.ok r w/\VR ρ v r:=by
 unfold qN at h;split at h
 .rename_i j k hs c;obtain⟨h1,h⟩:=A3 h;obtain⟨q,n,rfl,e,_⟩:=M9 hx (A1 h1);obtain⟨u,d,p,r,l,g,y⟩:=M8 h f;simp only[C3,F6,e,evU]at d;subst d;cases l;exact⟨_,by simp[convert,A4,D1 hs,D1 c,Result.andThen,Conv.intToInt],g ρ⟩
 .rename_i hs c;obtain⟨h1,h⟩:=A3 h;cases h;obtain⟨b,rfl,e⟩:=o9 hx (A0 h1);exact⟨_,by simp[convert,A4,D1 hs,D1 c,Result.andThen],hx⟩
 .cases h
def jA{t:Nat}:∀ {cs:D2},j9 t cs=true->∀ {i:Nat} {v:Value},cs[i]? = some v->G8 v=t
 | [],_,i,v,h=>by simp at h
 | c::r,hs,i,v,h=>by
   obtain⟨h1,b⟩:=B6 (show(Nat.beq (G8 c) t && j9 t r)=true from hs);cases i with
   | zero=>simp at h;subst h;exact A0 h1
   | succ i=>exact jA b (by simpa using h)
def ZK{t e:TypeId}{n:Nat}{cs:W4}{x' i v:Value}(hu:P.underlying t=some (.array n e))(y:aY P e=some false)(g:H4 P e=some 1)(E:cs.toList.length=n)(f:j9 tg cs.toList=true)(C:tg<10)
  (l:G8 i<8) (h:U3 m tg .sel (i::cs.toList)=some (v,m')) (hx:VR ρ (.agg cs) x') (hi:VR ρ i i') (x:Sat m'.lg) (w:World):∃ r,(Instr.index t x' i').run P w=.ok r w/\VR ρ v r:=by
 obtain⟨k,z,rfl,e,_⟩:=M9 hi l;obtain⟨u,c,D,r,d,A,F⟩:=M8 h x;simp only[C3,e]at c;cases z with
 | negSucc z=>simp only[evU]at c;subst c;cases d
 | ofNat z =>
   simp only[evU]at c;by_cases q:z<cs.toList.length
   .have b:cs.toList[z]? = some cs.toList[z]:=A5 q;have p:=jA f b;have hm:mF P t (.agg cs) (.int k (.ofNat z))=some cs.toList[z]:=by
     have B:Nat.blt z n=true:=C8 A2;simp only[mF,hu,g,B,E5,rT,y,Nat.mul_one];exact b
    obtain⟨v',g1,g2⟩:=uF (P:=P) hm hx (.pure rfl) w;obtain⟨f1,_⟩:=aK g2 A2;have:u=D9 Ora.env cs.toList[z]:=by
     rw[<- c,B2,F8,b];rfl
    rw[this,f1]at d;cases d;exact⟨_,g1,A ρ⟩
   .rw[B2,T9 (by simp at q ⊢;omega)]at c;subst c;cases d
def CU{e:TypeId}(h:Nat.beq (j8.sizeD P e) 1=true):H4 P e=some 1:=by
 have h:=A0 h;unfold j8.sizeD at h;split at h
 .rename_i n b;rw[b,h]
 .cases h
def JN{t:TypeId}{x x' i v:Value}(h:j8 P m t x i=some (v,m'))(hx:VR ρ x x')(hi:VR ρ i i')(f:Sat m'.lg)(w:World):∃ r,(Instr.index t x' i').run P w=.ok r w/\VR ρ v r:=by
 unfold j8 at h;cases p:!(Nat.blt (G8 i) 8)with
 | true=>rw[p]at h;cases h
 | false =>
   have c:G8 i<8:=by
    have:Nat.blt (G8 i) 8=true:=by simpa using p
    exact A1 this
   rw[p]at h;simp only[E0]at h;split at h
   .rename_i hu;obtain⟨h1,h⟩:=A3 h;obtain⟨s,rfl,f1⟩:=o9 hx (A0 h1);obtain⟨k,z,rfl,f2,_⟩:=M9 hi c;obtain⟨u,d,A,r,l,y,B⟩:=M8 h f;simp only[C3,F6,f1,f2]at d;cases z with
    | negSucc z=>simp only[evU]at d;subst d;cases l
    | ofNat z =>
      simp only[evU]at d;split at d
      .rename_i b q;subst d;cases l;have hm:mF P t (.string ⟨⟨s⟩⟩) (.int k (.ofNat z))=some (.int .u8 b.toNat):=by
        simp only[mF,hu,q]
       obtain⟨v',g1,g2⟩:=uF (P:=P) (ρ:=ρ) hm (.pure rfl) (.pure rfl) w;cases J5 g2;exact⟨_,g1,y ρ⟩
      .subst d;cases l
   .rename_i n e hu;split at h
    .rename_i cs k he;obtain⟨h1,h⟩:=A3 h;obtain⟨h1,h3⟩:=B6 h1;obtain⟨h1,g⟩:=B6 h1;exact ZK hu (by simp[aY,he]) (CU h3) (A0 h1) g (by have:=M1 k;omega) c h hx hi f w
    .rename_i cs he;obtain⟨h1,h⟩:=A3 h;obtain⟨h1,h3⟩:=B6 h1;obtain⟨h1,g⟩:=B6 h1;exact ZK hu (by simp[aY,he]) (CU h3) (A0 h1) g A2 c h hx hi f w
    .cases h
   .cases h
def OL{t:TypeId}(hu:P.underlying t=some .string){s:List UInt8}{l h:Int}{r:Value}(b:JQ s l h=u)(c:toV u=some r):dI P t (.string ⟨⟨s⟩⟩) (some (.int kl l)) (some (.int kh h)) none=some r:=by
 unfold JQ at b;split at b
 .rename_i l h;split at b
  .rename_i hh;subst b;cases c;have e:Nat.ble h (ByteArray.size ⟨⟨s⟩⟩)=true:=C8 hh.2;have d:Nat.ble l h=true:=C8 hh.1;simp only[dI,hu,U4,e,d,E5]
  .subst b;cases c
 .subst b;cases c
def JL{t:TypeId}{x x' v:Value}{hi:R1}(h:lG P m t x lo hi mx=some (v,m'))(hx:VR ρ x x')(g:OR ρ lo lo')(f:OR ρ hi hi')(D:OR ρ mx mx')(C:Sat m'.lg)(w:World) :
  ∃ r,(Instr.sliceAt t x' lo' hi' mx').run P w=.ok r w/\VR ρ v r:=by
 have c:∀ {o:R1},OR ρ none o->o=none:=fun{o} h=>by cases o<;>first|rfl|exact h.elim
 have d:∀ {y:Value} {o:R1},OR ρ (some y) o->∃ H,o=some H/\VR ρ y H:=fun{y o} h=>by cases o<;>first|exact h.elim|exact⟨_,rfl,h⟩
 unfold lG at h;split at h
 .rename_i hu;cases c D;obtain⟨h1,h⟩:=A3 h;obtain⟨s,rfl,f1⟩:=o9 hx (A0 h1);have B:∀ {y:Value},VR ρ (.string ⟨⟨s⟩⟩) y->y=.string ⟨⟨s⟩⟩:=fun h=>V0 h
  split at h
  .cases h;cases c g;cases c f;have hm:dI P t (.string ⟨⟨s⟩⟩) none none none=some (.string ⟨⟨s⟩⟩):=by
    have e:ByteArray.size ⟨⟨s⟩⟩=s.length:=rfl;simp[dI,hu,U4,e]
   obtain⟨v',g1,g2⟩:=iC (P:=P) (ρ:=ρ) (lo':=none) (hi':=none) (mx':=none) hm (.pure rfl) trivial trivial trivial w;cases V0 g2;exact⟨_,g1,hx⟩
  .obtain⟨p,h⟩:=A3 h;obtain⟨l',rfl,F⟩:=d g;cases c f;obtain⟨k,z,rfl,f2,_⟩:=M9 F (A1 p);obtain⟨u,n,G,r,l,A,I⟩:=M8 h C;simp only[C3,F6,f1,f2,evU]at n;have hm:=OL (P:=P) (kl:=k) (kh:=.i64) hu n l;have q:dI P t (.string ⟨⟨s⟩⟩) (some (.int k z)) none none=some r:=by
    rw[<- hm];have e:ByteArray.size ⟨⟨s⟩⟩=s.length:=rfl;have b:Nat.ble s.length s.length=true:=C8 (A6 _);have E:((s.length:Nat):Int)=Int.ofNat s.length:=rfl;simp only[dI,hu,U4,e,E,b,E5]
   obtain⟨v',g1,g2⟩:=iC (P:=P) (ρ:=ρ) (lo':=some (.int k z)) (hi':=none) (mx':=none) q (.pure rfl) (VR.pure rfl:VR ρ _ _) trivial trivial w;have:VR ρ r v':=g2;have hp:=hY l;cases g2 with
   | pure _=>exact⟨_,g1,A ρ⟩
   | _=>simp[I8,ixp,Go.Sx.dat,Go.Sx.clp,Go.Sx.own,Go.Sx.dpt,Go.Sx.opt,Go.Sx.yv,Go.Sx.sdt]at hp
  .obtain⟨p,h⟩:=A3 h;obtain⟨K,rfl,hh⟩:=d f;cases c g;obtain⟨k,z,rfl,f2,_⟩:=M9 hh (A1 p);obtain⟨u,n,G,r,l,A,I⟩:=M8 h C;have f0:D9 Ora.env (.int .i64 0)=.int .i64 0:=rfl;simp only[C3,F6,f1,f2,f0,evU]at n;have hm:=OL (P:=P) (kl:=.i64) (kh:=k) hu n l;have q:dI P t (.string ⟨⟨s⟩⟩) none (some (.int k z)) none=some r:=by
    rw[<- hm];have E:(0:Int)=Int.ofNat 0:=rfl;cases z with
    | negSucc z=>simp only[dI,hu,U4]
    | ofNat z =>
      have J:Nat.ble 0 z=true:=C8 (nA _);simp only[dI,hu,U4,E];cases Nat.ble z (ByteArray.size ⟨⟨s⟩⟩)<;>simp[J]
   obtain⟨v',g1,g2⟩:=iC (P:=P) (ρ:=ρ) (lo':=none) (hi':=some (.int k z)) (mx':=none) q (.pure rfl) trivial (VR.pure rfl:VR ρ _ _) trivial w;have hp:=hY l;cases g2 with
   | pure _=>exact⟨_,g1,A ρ⟩
   | _=>simp[I8,ixp,Go.Sx.dat,Go.Sx.clp,Go.Sx.own,Go.Sx.dpt,Go.Sx.opt,Go.Sx.yv,Go.Sx.sdt]at hp
  .obtain⟨p,h⟩:=A3 h;obtain⟨p,h3⟩:=B6 p;obtain⟨K,rfl,hh⟩:=d f;obtain⟨l',rfl,F⟩:=d g;obtain⟨k,z,rfl,f2,_⟩:=M9 F (A1 p);obtain⟨j,y,rfl,f3,_⟩:=M9 hh (A1 h3);obtain⟨u,n,G,r,l,A,I⟩:=M8 h C;simp only[C3,F6,f1,f2,f3,evU]at n;have hm:=OL (P:=P) (kl:=k) (kh:=j) hu n l;obtain⟨v',g1,g2⟩:=iC (P:=P) (ρ:=ρ) (lo':=some (.int k z)) (hi':=some (.int j y)) (mx':=none) hm (.pure rfl) (VR.pure rfl:VR ρ _ _) (VR.pure rfl:VR ρ _ _) trivial w;have hp:=hY l;cases g2 with
   | pure _=>exact⟨_,g1,A ρ⟩
   | _=>simp[I8,ixp,Go.Sx.dat,Go.Sx.clp,Go.Sx.own,Go.Sx.dpt,Go.Sx.opt,Go.Sx.yv,Go.Sx.sdt]at hp
 .cases h
def BT{b:Builtin}{ks:Array Bool}{v:Value}(hr:HR P base ρ m.H w)(h:eS P m b vs tys=some (v,m'))(hx:LR ρ vs vs')(p:Sat m'.lg) :
  ∃ s:Sem Value,builtin b ⟨tys⟩ ty ks ⟨vs'⟩=(do pure (.value (<- s)))/\∃ r,s.run P w=.ok r w/\VR ρ v r:=by
 unfold eS at h;split at h
 .obtain⟨x',r1,rfl,h1,g⟩:=hx.tail;cases g.nil_inv;split at h
  .rename_i hu;obtain⟨h3,h⟩:=A3 h;obtain⟨s,rfl,f1⟩:=o9 h1 (A0 h3);obtain⟨u,e,x,r,n,l,y⟩:=M8 h p;simp only[C3,F6,f1,evU]at e;subst e;cases n;rename_i t rest _ _;have hm:A1P P m t (.string ⟨⟨s⟩⟩)=some (.int .i64 s.length):=by simp[A1P,hu]
   obtain⟨g1,_⟩:=TN (ρ:=ρ) (ty:=ty) (tys:=rest) hr hm (.pure rfl);exact⟨_,rfl,_,g1,l ρ⟩
  .cases h
 .obtain⟨x',r1,rfl,h1,g⟩:=hx.tail;obtain⟨C,D,rfl,h3,q⟩:=g.tail;cases q.nil_inv;obtain⟨d,h⟩:=A3 h;obtain⟨d,f⟩:=B6 d;have d:=A1 d;have f:=A0 f;obtain⟨k,a,rfl,f1,A⟩:=M9 h1 d;obtain⟨j,c,rfl,f2,B⟩:=M9 h3 (f▸d);obtain⟨u,e,x,r,n,l,y⟩:=M8 h p;simp only[C3,F6,f1,f2,evU]at e;subst e;cases n;obtain⟨g1,_⟩:=TI (P:=P) (ρ:=ρ) (ty:=ty) (tys:=⟨tys⟩) (vs:=[.int k a,.int j c]) rfl (.cons (.pure rfl) (.cons (.pure rfl) .nil)) w;exact⟨_,rfl,_,g1,l ρ⟩
 .obtain⟨x',r1,rfl,h1,g⟩:=hx.tail;obtain⟨C,D,rfl,h3,q⟩:=g.tail;cases q.nil_inv;obtain⟨d,h⟩:=A3 h;obtain⟨d,f⟩:=B6 d;have d:=A1 d;have f:=A0 f;obtain⟨k,a,rfl,f1,A⟩:=M9 h1 d;obtain⟨j,c,rfl,f2,B⟩:=M9 h3 (f▸d);obtain⟨u,e,x,r,n,l,y⟩:=M8 h p;simp only[C3,F6,f1,f2,evU]at e;subst e;cases n;obtain⟨g1,_⟩:=TG (P:=P) (ρ:=ρ) (ty:=ty) (tys:=⟨tys⟩) (vs:=[.int k a,.int j c]) rfl (.cons (.pure rfl) (.cons (.pure rfl) .nil)) w;exact⟨_,rfl,_,g1,l ρ⟩
 .cases h
def VN{v:Value}{k:IntKind}{n:Int}(h:D9 Ora.env v=.int k n):pU Ora.env v=some n:=by
 cases v with
 | complex k i t =>
   cases k with
   | f64 =>
     have h:Ora.env i=.int _ n:=h;simp only[pU,h]
   | f32=>cases h
 | int j n=>cases h;rfl
 | _=>cases h
def IK{v:Value}{n:Int}(h:pU Ora.env v=some n):∃ k,D9 Ora.env v=.int k n:=by
 cases v with
 | complex k i t =>
   cases k with
   | f64 =>
     simp only[pU]at h;split at h
     .rename_i k z he;cases h;exact⟨k,he⟩
     .cases h
   | f32=>cases h
 | int j n=>cases h;exact⟨j,rfl⟩
 | _=>cases h
def UH{s n:Nat}{i v:Value}(h:XH m a s n i=some (v,m'))(hi:VR ρ i i')(g:Sat m'.lg):v=ixp a s i n/\∃ k z,i'=.int k (.ofNat z)/\z<n/\pU Ora.env i=some (.ofNat z):=by
 unfold XH at h;cases e:!(Nat.blt (G8 i) 8)with
 | true=>rw[e]at h;cases h
 | false =>
   have d:G8 i<8:=by
    have:Nat.blt (G8 i) 8=true:=by simpa using e
    exact A1 this
   rw[e]at h;simp only[E0]at h;split at h
   .rename_i b H k W hh lg y;split at h
    .rename_i x l;cases h;obtain⟨u,p,A,r,c,t,_⟩:=M8 y (S2.le g (fM l));have f:=mS (ρ:=ρ) l (t ρ) g;subst f;obtain⟨q,z,rfl,f1,_⟩:=M9 hi d;have f0:D9 Ora.env (.int .i64 (.ofNat n))=.int .i64 (.ofNat n):=rfl;simp only[C3,F6,f1,f0,evU]at p;subst p;have c:(decide (0<=z) && decide (z<Int.ofNat n))=true:=by
      have:=A9 c;exact Value.bool.inj this
     simp only[H1,decide_eq_true_eq]at c;cases z with
     | negSucc z=>exact absurd c.1 (by simp)
     | ofNat z=>exact⟨rfl,q,z,rfl,by have:=c.2;simpa using this,VN f1⟩
    .cases h
   .cases h
def BO{t:TypeId}{x x' i v:Value}(h:eQ P m t x i=some (v,m'))(hx:VR ρ x x')(hi:VR ρ i i')(p:Sat m'.lg)(w:World):∃ r,(Instr.indexAt t x' i').run P w=.ok r w/\VR ρ v r:=by
 unfold eQ at h;split at h
 .rename_i n e a hu;split at h
  .rename_i s hs d;obtain⟨rfl,k,z,rfl,f,he⟩:=UH h hi p;obtain⟨l,y,_,rfl⟩:=O9 hx;have g:Nat.blt z n=true:=C8 f;have hm:Y1 P t (.pointer (some a)) (.int k (.ofNat z))=some (.pointer (some ⟨a.block,a.off+z*s,none⟩)):=by
    simp only[Y1,hu,hs,d,g,E5,bV,E9]
   obtain⟨v',g1,g2⟩:=cX (P:=P) hm hx (.pure rfl) w;obtain⟨l2,b,_,rfl⟩:=O9 g2;have b:ρ a.block=some l2:=b;rw[y]at b;cases b;exact⟨_,g1,.ixp y d he f rfl⟩
  .cases h
 .rename_i e a n c hu;split at h
  .rename_i s hs d;cases q:Nat.beq c (N3+2)with
   | true=>rw[q]at h;cases h
   | false =>
     rw[q]at h;obtain⟨rfl,k,z,rfl,f,he⟩:=UH h hi p;have g:Nat.blt z n=true:=C8 f;have hm:Y1 P t (.slice (some a) n c) (.int k (.ofNat z))=some (.pointer (some ⟨a.block,a.off+z*s,none⟩)):=by
      simp only[Y1,hu,hs,d,g,E5,bV,E9]
     obtain⟨v',g1,g2⟩:=cX (P:=P) hm hx (.pure rfl) w;obtain⟨l2,b,_,rfl⟩:=O9 g2;have b:ρ a.block=some l2:=b;exact⟨_,g1,.ixp b d he f rfl⟩
  .cases h
 .cases h
def UJ{s n:Nat}{i v':Value}(h:VR ρ (ixp a s i n) v'):∃ l z,ρ a.block=some l/\a.spot=none/\pU Ora.env i=some (.ofNat z)/\z<n/\v'=.pointer (some ⟨l.blk,a.off+z*s+l.sh,none⟩):=by
 generalize hx:ixp a s i n=x at h;cases h with
 | ixp h hs hi b hv =>
   simp only[ixp,Value.func.injEq,Z8,J6,Value.pointer.injEq,D5,Value.int.injEq,kU,true_and,and_true]at hx;obtain⟨rfl,rfl,rfl,rfl⟩:=hx;exact⟨_,_,h,hs,hi,b,hv⟩
 | pure hp=>subst hx;simp[ixp,I8]at hp
 | _=>simp[ixp,Go.Sx.dat,Go.Sx.clp,Go.Sx.own,Go.Sx.dpt,Go.Sx.opt,Go.Sx.yv,Go.Sx.sdt]at hx
def BQ{x x' v:Value}(h:eR P m s x i=some (v,m'))(hx:VR ρ x x')(w:World):∃ r,(Instr.fieldAt s x' i).run P w=.ok r w/\VR ρ v r:=by
 unfold eR at h;split at h
 .rename_i a k j n;split at h
  .rename_i q hu;split at h
   .rename_i f g c;split at h
    .rename_i z e;cases h;obtain⟨l,y,h1,p,h3,d,rfl⟩:=UJ (n:=n) (s:=k) (i:=j) hx;have hm:cY P s (.pointer (some ⟨a.block,a.off+y*k,none⟩)) i=some (.pointer (some ⟨a.block,a.off+y*k+f.offset,none⟩)):=by
      simp only[cY,hu,g,e,bV,E9]
     obtain⟨v',g1,g2⟩:=mJ (P:=P) (ρ:=ρ) hm (.ptr h1) w;obtain⟨l2,b,_,rfl⟩:=O9 g2;have b:ρ a.block=some l2:=b;rw[h1]at b;cases b;refine⟨_,g1,?_⟩;simp only[bV,E9];refine .ixp (a:=⟨a.block,a.off+f.offset,none⟩) h1 rfl h3 d ?_;simp only[Value.pointer.injEq,D5,Addr.mk.injEq,true_and,and_true];omega
    .cases h
   .cases h
  .cases h
 .cases h
def vB{cs:D2}{s:Nat}:∀ {n o:Nat} {l:D2},xA cs s o n=some l->l.length=n/\∀ z,z<n->cs[o+z*s]? = l[z]?
 | 0,o,l,h=>by cases h;exact⟨rfl,fun z c=>by omega⟩
 | n+1,o,l,h=>by
   unfold xA at h;split at h
   .rename_i v r hv hr;cases h;obtain⟨h1,b⟩:=vB hr;refine⟨by simp[h1],fun z c=>?_⟩;cases z with
    | zero=>simpa using hv
    | succ z =>
      have:=b z A2;rw[Nat.succ_mul,show o+(z*s+s)=o+s+z*s by omega]
      simpa using this
   .cases h
def vC{cs cs':D2}{s n:Nat}{i:Value}{z:Nat}(he:pU Ora.env i=some (.ofNat z))(t:z<n)(A:LR ρ cs cs'):∀ {k o:Nat} {m m':Mem} {r:D2},cS m cs s n i o k=some (r,m')->Sat m'.lg ->
  LR ρ r ((cs'.drop (o+z*s)).take k)/\r.length=k
 | 0,o,m,m',r,h,hS=>by cases h;exact⟨by simpa using LR.nil,rfl⟩
 | k+1,o,m,m',r,h,hS=>by
   unfold cS at h;split at h
   .rename_i v l d;obtain⟨p,h⟩:=A3 h;obtain⟨p,e⟩:=B6 p;have e:G8 v<10:=A1 e;split at h
    .rename_i hh m1 h1;split at h
     .rename_i I m2 x;cases h;obtain⟨g,q⟩:=vC he t A x hS;obtain⟨u,f,F,E,y,C,_⟩:=M8 h1 (S2.le hS (gA x).1);obtain⟨g1,g2⟩:=vB d;have b:=g2 z t;have c:z<(v::l).length:=by rw[g1];exact t
      rw[A5 c]at b;obtain⟨G,f1,f2⟩:=A.get b;have B:=jA p (A5 c);obtain⟨t1,_⟩:=aK f2 A2;obtain⟨H,D⟩:=IK he;simp only[C3,D,evU]at f;have f:u=D9 Ora.env (v::l)[z]:=by
       rw[<- f];show(List.map (D9 Ora.env) (v::l)).getD z .none=_;rw[B2,F8,A5 c];rfl
      rw[f,t1]at y;cases y;refine⟨?_,by simp[q]⟩;have:(cs'.drop (o+z*s)).take (k+1)=E::(cs'.drop (o+1+z*s)).take k:=by
       rw[g7 (B3.1 f1).1,List.take_succ_cons,(B3.1 f1).2,show o+z*s+1=o+1+z*s by omega]
      rw[this];exact .cons (C ρ) g
     .cases h
    .cases h
   .cases h
def TK{t:TypeId}{l:Loc}{z s n k:Nat}{i:Value}{cs:D2}(h:HR P base ρ m.H w)(hr:v6 m a ((n-1)*s+k)=some cs)(f:ρ a.block=some l)(he:pU Ora.env i=some (.ofNat z))(g:z<n)(e:cS m cs s n i 0 k=some (hs,m'))(d:Sat m'.lg) :
  ∃ rs,LR ρ hs rs/\rs.length=k/\∀ (j:Nat) (v':Value),rs[j]? = some v'->w.cell? ⟨l.blk,a.off+z*s+l.sh+j,none⟩=some v':=by
 obtain⟨r',h1,p,h3⟩:=c9 h hr f;obtain⟨g1,g2⟩:=vC he g h1 e d;rw[F5]at g1;refine⟨_,g1,g1.1▸g2,fun j v' b=>?_⟩;have c:j<k:=by
  have:=(B3.1 b).1;simp at this;omega
 rw[E8 c,I4]at b
 have:=h3 _ v' b;rw[show a.off+z*s+l.sh+j=a.off+l.sh+(z*s+j) by omega];exact this
def OG{t:TypeId}{x x' v:Value}(h:HR P base ρ m.H w)(b:qM P m t x=some (v,m'))(hx:VR ρ x x')(e:Sat m'.lg):∃ r,(Instr.loadAt t x').run P w=.ok r w/\VR ρ v r:=by
 unfold qM at b;split at b
 .rename_i a s i n;obtain⟨l,z,h1,y,h3,f,rfl⟩:=UJ (n:=n) (s:=s) (i:=i) hx;split at b
  .rename_i c;split at b
   .rename_i cs hr;split at b
    .rename_i hh m2 d;cases b;obtain⟨rs,g1,g2,g3⟩:=TK (t:=t) h hr h1 h3 f d e;obtain⟨v',A,rfl,k,p⟩:=g1.tail;refine⟨v',?_,k⟩
     have:=g3 0 v' rfl;simp[Instr.loadAt,Instr.sureAddr,loadVar,A4,cK c,Result.andThen,run_load,show w.cell? ⟨l.blk,a.off+z*s+l.sh,none⟩=some v' from by simpa using this]
    .cases b
   .cases b
  .rename_i q c g;split at b
   .rename_i cs hr;split at b
    .rename_i hh m2 d;cases b;obtain⟨rs,g1,g2,g3⟩:=TK (t:=t) h hr h1 h3 f d e;refine⟨.agg ⟨rs⟩,?_,.agg g1.1 g1.2⟩;simp[Instr.loadAt,Instr.sureAddr,loadVar,A4,cK c,L1 g,Result.andThen,K6 g2 g3]
    .cases b
   .cases b
  .cases b
 .cases b
def A35{fr:Fr}{g:Operand->Value}{o:Oper}{v:Value}(h:HR P base ρ m.H w)(f:YU P fr m o.op=some (v,m'))(C:FR ρ fr g o.op)(k:Sat m'.lg):NOk P base ρ m w (execOp g o) v m':=by
 obtain⟨_,lg,rfl⟩:=RX f;have p:St P base ρ ρ m (m.wLg lg) w w:=St.wLg h lg;obtain⟨dst,op,ty,pos,F,J⟩:=o;simp only at f C;have d:∀ {x},x ∈ op.operands.toList->VR ρ (ev fr x) (g x):=fun hx=>C _ hx
 have fin:∀ {s:Sem Value},(∃ r,s.run P w=.ok r w/\VR ρ v r)->NOk P base ρ m w (do pure (.value (<- s))) v (m.wLg lg):=fun{s} ⟨r,h1,E⟩=>NOk.of ⟨r,ρ,w,h1,E,p⟩
 unfold YU at f;split at f
 .rename_i c a b;have B:=d (x:=c) (by simp[Op.operands]);unfold wZ at f;obtain⟨H,n,W,hi,l0⟩:=m;simp only at f;split at f
  .rename_i l1 A;simp only[D5,M4]at f;obtain⟨rfl,f⟩:=f;have q:Sat l1:=by
    have:l1=(Mem.wLg ⟨H,n,W,hi,l0⟩ lg).lg:=by rw[<- f]
    rw[this];exact k
   have:=mS A B q;exact⟨g a,ρ,w,.inl (by simp[execOp,this,asBool]),d (by simp[Op.operands]),p⟩
  .rename_i l1 A;simp only[D5,M4]at f;obtain⟨rfl,f⟩:=f;have q:Sat l1:=by
    have:l1=(Mem.wLg ⟨H,n,W,hi,l0⟩ lg).lg:=by rw[<- f]
    rw[this];exact k
   have:=mS A B q;exact⟨g b,ρ,w,.inl (by simp[execOp,this,asBool]),d (by simp[Op.operands]),p⟩
  .cases f
 .rename_i op t x y K;have hx:=d (x:=x) (by simp[Op.operands]);have l:=d (x:=y) (by simp[Op.operands]);refine fin (s:=do eqGuard op t x y (g x) (g y);binOp op t (g x) (g y)) ?_;split at f
  .rename_i r hr;cases f;exact VV hr hx l k w
  .rename_i hr;exact YV f hx l hr k w
 .rename_i op t x;exact fin (s:=Op.unary op (g x)) (YS f (d (by simp[Op.operands])) k w)
 .exact fin (OI f (d (by simp[Op.operands])) k w)
 .rename_i t x lo hi mx;exact fin (s:=Instr.sliceAt t (g x) (lo.map g) (hi.map g) (mx.map g)) (JL f (d (x:=x) (by simp[Op.operands])) (jO (g:=g) fun y l=>d (by simp[Op.operands]at l ⊢;exact .inr (.inl l))) (jO (g:=g) fun y l=>d (by simp[Op.operands]at l ⊢;exact .inr (.inr (.inl l)))) (jO (g:=g) fun y l=>d (by simp[Op.operands]at l ⊢;exact .inr (.inr (.inr l)))) k w)
 .exact fin (JN f (d (by simp[Op.operands])) (d (by simp[Op.operands])) k w)
 .exact fin (BO f (d (by simp[Op.operands])) (d (by simp[Op.operands])) k w)
 .exact fin (BQ f (d (by simp[Op.operands])) w)
 .rename_i t x;exact fin (s:=Instr.loadAt t (g x)) (OG h f (d (by simp[Op.operands])) k)
 .rename_i b xs tys;have l1:=dK (ρ:=ρ) (fr:=fr) (g:=g) (xs:=xs.toList) fun x hx=>d (by show x ∈ (#[]++xs:Array Operand).toList;simpa using hx)
  obtain⟨ks,D⟩:∃ ks,execOp g ⟨dst,.call ⟨.builtin b,xs,tys⟩,ty,pos,F,J⟩=builtin b tys ty ks (xs.map g):=⟨_,rfl⟩;obtain⟨s,e,hs⟩:=BT (ty:=ty) (ks:=ks) h f l1 k;have I:xs.map g=⟨xs.toList.map g⟩:=by apply J2;simp
  rw[D,I];have G:tys=⟨tys.toList⟩:=rfl;rw[G,e];exact fin hs
 .cases f
end
end
section
open Go
variable [Ora]
section
variable {P:Program} {base:Nat} {ρ ρ':Ren} {m m':Mem} {w w':World}
def K4.step(e:K4 ρ m.n hi)(st:St P base ρ ρ' m m1 w w'):K4 ρ' m1.n hi:=fun b h1 c=>by
 cases d:ρ' b with
 | none=>rfl
 | some l =>
   cases h0:ρ b with
   | some l0=>rw[e b (C6 st.nle h1) c]at h0;cases h0
   | none=>have:=(st.new b l d h0).2;omega
def K4.less{n hi':Nat}(d:K4 ρ n hi)(h:hi'<=hi):K4 ρ n hi':=fun b h1 c=>d b h1 (D7 c h)
def fT(m:Mem)(t:Nat)(op:LOp)(xs:List Value):Lg:=⟨m.lg.nx+1,m.lg.pi,.dt m.lg.nx t op xs::m.lg.log⟩
def O0{t:Nat}{k:Nat->Mem->Res}:wR m t op xs k=k m.lg.nx (m.wLg (fT m t op xs)):=by
 obtain⟨H,n,W,hi,⟨nx,pi,log⟩⟩:=m;simp only[wR,E9,I5];rfl
def LN{t:Nat}{k:Nat->Mem->Option (D2×Mem)}:Y3.letDo t op xs m k=k m.lg.nx (m.wLg (fT m t op xs)):=by
 obtain⟨H,n,W,hi,⟨nx,pi,log⟩⟩:=m;simp only[Y3.letDo,E9,I5];rfl
@[simp] theorem g8(lg:Lg):(m.wLg lg).lg=lg:=by cases m;rfl
@[simp] theorem lC(lg:Lg):(m.wLg lg).H=m.H:=by cases m;rfl
@[simp] theorem YF(lg:Lg):(m.wLg lg).n=m.n:=by cases m;rfl
@[simp] theorem NY(lg:Lg):(m.wLg lg).hi=m.hi:=by cases m;rfl
@[simp] theorem B4R(lg:Lg):(m.wLg lg).W=m.W:=by cases m;rfl
def W1{t:Nat} :m.lg.le (m.wLg (fT m t op xs)).lg:=by
 rw[g8];exact⟨[_],rfl⟩
def kM{t:Nat}{lg:Lg}(d:Sat lg)(e:(m.wLg (fT m t op xs)).lg.le lg):Ora.env m.lg.nx=evU op (xs.map (D9 Ora.env))/\G7 (Ora.env m.lg.nx)=t/\∃ b wd rows,Ora.env m.lg.nx=.seq b wd rows/\t=10+wd:=by
 obtain⟨h1,c,b,wd,rows,h3⟩:=d _ (e.subset (by rw[g8];exact B5));exact⟨h1,c,b,wd,rows,h3,by rw[<- c,h3];rfl⟩
def eB{b:Nat}(h:pI m b=true):Hp.get m.H b=some .frz:=by
 unfold pI at h;split at h
 .assumption
 .cases h
def UO{b:Nat}(h:pI m b=true):b<=I2:=by
 unfold pI at h;split at h
 .exact A1 h
 .cases h
def A2c{b:Nat}(hr:HR P base ρ m.H w)(h:pI m b=true):∃ l,ρ b=some l:=by
 obtain⟨l,h1,_⟩:=hr.at_ b (UO h) _ (eB h);exact⟨l,h1⟩
def R3{k:Nat->Mem->Option (Value×Nat×Mem)}{r:Value×Nat×Mem}(h:gW m k=some r):∃ m1,Z4 m .frz (fun _=>undef)=some (undef,m1)/\k m.n m1=some r/\m1.H=m.H.set m.n (some .frz)/\m.n<=I2/\m1.lg=m.lg:=by
 obtain⟨H,n,W,hi,lg⟩:=m;simp only[gW,E9,eV]at h;obtain⟨h1,b⟩:=A3 h;refine⟨_,?_,b,rfl,A1 h1,rfl⟩;simp only[Z4,E9,eV,h1,E5]
def kW(G:Nat->Option Obj):Loc:=⟨0,0,0,0,G,false⟩
def St.region{G:Nat->Option Obj}(h:HR P base ρ m.H w)(g:Z4 m .frz (fun _=>undef)=some (undef,m1))(y:K4 ρ m.n m1.hi)
  (d:∀ k o,G k=some o->w.heap[k]? = some o/\∃ id ab l,id<=I2/\Hp.get m.H id=some ab/\ρ id=some l/\Tf ab l k/\ab.rw=false) :
  upd ρ m.n (kW G) m.n=some (kW G)/\Hp.get m1.H m.n=some .frz/\St P base ρ (upd ρ m.n (kW G)) m m1 w w:=by
 obtain⟨h1,p,h3⟩:=St.new0 (l':=kW G) h g y ⟨rfl,fun k o t=>(d k o t).1⟩ rfl fun q c=>by
  rcases c with⟨c,_⟩|⟨_,o,c⟩
  .cases c
  .obtain⟨g1,id,ab,l,g2,g3,g4,g5,g6⟩:=d q o c;refine⟨⟨id,ab,l,g2,g3,g4,g5⟩,fun x f a l2 b v hr r e=>?_⟩
   have:=((h.atl v b).2 hr r).2 id g2 ab l g3 g4 (e▸g5.2);subst this;rw[g3]at b;have b:=A9 b;subst b;rw[g6]at hr;cases hr
 refine⟨p,?_,h3⟩;obtain⟨hle,_,rfl⟩:=M0 g;show Hp.get (m.H.set m.n (some .frz)) m.n=_;rw[F1 _ _ _ _ hle hle,B0 rfl]
theorem nX{b i t:Nat}{v':Value}(h:VR ρ (dat b i t) v'):∃ l,ρ b=some l/\Enc l.G (Ora.env i) v'/\G7 (Ora.env i)=t/\10<=t:=by
 generalize hx:dat b i t=x at h;cases h with
 | dat h he d c e =>
   simp only[dat,Value.func.injEq,Z8,J6,Value.pointer.injEq,D5,Addr.mk.injEq,Value.complex.injEq,true_and,and_true]at hx;obtain⟨rfl,rfl,rfl⟩:=hx;exact⟨_,h,he,d,c⟩
 | pure hp=>subst hx;simp[dat,I8]at hp
 | _=>simp[ixp,Go.Sx.dat,Go.Sx.clp,Go.Sx.own,Go.Sx.dpt,Go.Sx.opt,Go.Sx.yv,Go.Sx.sdt]at hx
theorem gG{b i t:Nat}{v':Value}(h:VR ρ (clp b i t) v'):∃ l,ρ b=some l/\Enc l.G (Ora.env i) v'/\G7 (Ora.env i)=t/\10<=t/\A3H v':=by
 generalize hx:clp b i t=x at h;cases h with
 | clp h he e c f d =>
   simp only[clp,Value.func.injEq,Z8,J6,Value.pointer.injEq,D5,Addr.mk.injEq,Value.complex.injEq,true_and,and_true]at hx;obtain⟨rfl,rfl,rfl⟩:=hx;exact⟨_,h,he,e,c,d⟩
 | pure hp=>subst hx;simp[clp,I8]at hp
 | _=>simp[ixp,Go.Sx.dat,Go.Sx.clp,Go.Sx.own,Go.Sx.dpt,Go.Sx.opt,Go.Sx.yv,Go.Sx.sdt]at hx
theorem gF{b i t:Nat}{v':Value}(h:VR ρ (own b i t) v'):A03 ρ b (Ora.env i) v'/\G7 (Ora.env i)=t:=by
 generalize hx:own b i t=x at h;cases h with
 | own h c d =>
   simp only[own,Value.func.injEq,Z8,J6,Value.pointer.injEq,D5,Addr.mk.injEq,Value.complex.injEq,true_and,and_true]at hx;obtain⟨rfl,rfl,rfl⟩:=hx;exact⟨h,c⟩
 | pure hp=>subst hx;simp[own,I8]at hp
 | _=>simp[ixp,Go.Sx.dat,Go.Sx.clp,Go.Sx.own,Go.Sx.dpt,Go.Sx.opt,Go.Sx.yv,Go.Sx.sdt]at hx
def HJ{b t:Nat}{v':Value}(h:VR ρ (dpt b i t z o) v'):B1d ρ b (Ora.env i) (pU Ora.env z) o v'/\G7 (Ora.env i)=t:=by
 generalize hx:dpt b i t z o=x at h;cases h with
 | dpt h c d =>
   simp only[dpt,Value.func.injEq,Z8,J6,Value.pointer.injEq,D5,Addr.mk.injEq,Value.complex.injEq,Value.int.injEq,kU,true_and,and_true]at hx;obtain⟨rfl,⟨rfl,rfl⟩,rfl,rfl⟩:=hx;exact⟨h,c⟩
 | pure hp=>subst hx;simp[dpt,I8]at hp
 | _=>simp[ixp,Go.Sx.dat,Go.Sx.clp,Go.Sx.own,Go.Sx.dpt,Go.Sx.opt,Go.Sx.yv,Go.Sx.sdt]at hx
def xF{b t:Nat}{v':Value}(h:VR ρ (opt b i t z o) v'):B0g ρ b (Ora.env i) (pU Ora.env z) o v'/\G7 (Ora.env i)=t:=by
 generalize hx:opt b i t z o=x at h;cases h with
 | opt h c d =>
   simp only[opt,Value.func.injEq,Z8,J6,Value.pointer.injEq,D5,Addr.mk.injEq,Value.complex.injEq,Value.int.injEq,kU,true_and,and_true]at hx;obtain⟨rfl,⟨rfl,rfl⟩,rfl,rfl⟩:=hx;exact⟨h,c⟩
 | pure hp=>subst hx;simp[opt,I8]at hp
 | _=>simp[ixp,Go.Sx.dat,Go.Sx.clp,Go.Sx.own,Go.Sx.dpt,Go.Sx.opt,Go.Sx.yv,Go.Sx.sdt]at hx
def EA{b c tc g t:Nat}{T:TypeId}{v':Value}(h:HR P base ρ m.H w)(L:Hp.get m.H b=some (.sq c tc T g true))(hv:VR ρ (own b i t) v')(x:tc=t)(y:Hp.get m.H g=some .frz)
  (M:Z4 m .frz (fun _=>undef)=some (undef,m1)) (O:K4 ρ m.n m1.hi):∃ l,St P base ρ (upd ρ m.n l) m m1 w w/\upd ρ m.n l m.n=some l/\Hp.get m1.H m.n=some .frz/\Enc l.G (Ora.env c) v'/\G7 (Ora.env c)=t:=by
 obtain⟨B,N⟩:=gF hv;rcases B with⟨l,wd,h1,E,h3,rfl⟩|⟨l,wd,rows,h1,E,h3,Y,S,rfl⟩
 .obtain⟨q,_⟩:=h.atl h1 L;obtain⟨A,inf,K,Q,X,d⟩:=SqR.ex q;rcases d with⟨_,d⟩|⟨d,_⟩
  .obtain⟨g1,g2,g3⟩:=St.region (G:=fun _=>none) h M O (fun k o f=>by cases f);exact⟨_,g3,g1,g2,by rw[d];exact .nil,by rw[d,<- x,K];rfl⟩
  .rw[E]at d;cases d
 .obtain⟨q,_⟩:=h.atl h1 L;obtain⟨A,inf,K,Q,X,d⟩:=SqR.ex q;rcases d with⟨d,_⟩|⟨_,d⟩
  .rw[E]at d;cases d
  .obtain⟨C,fz,I,F,lg,f1,f2,f3,f4,f5,f6,f7,f8,f9⟩:=d;obtain⟨J,_⟩:=h.atl f7 y;have p:∀ k o,lg.G k=some o->w.heap[k]? = some o:=J.2;let G:Nat->Option Obj:=fun k=>if k=l.blk then some (.cells C I fz)else lg.G k
   have D:∀ k o,lg.G k=some o->G k=some o:=fun k o f=>by
    show(if k=l.blk then _ else _)=_;by_cases e:k=l.blk
    .subst e;rw[B0 rfl]
     have:=p _ _ f;rw[f1]at this;exact this
    .rw[A8 e];exact f
   obtain⟨g1,g2,g3⟩:=St.region (G:=G) h M O fun k o f=>by
    have f:(if k=l.blk then some (.cells C I fz)else lg.G k)=some o:=f;by_cases e:k=l.blk
    .subst e;rw[B0 rfl]at f;exact⟨by rw[f1];exact f,b,_,l,h.dom _ _ h1,L,h1,⟨rfl,.inl ⟨rfl,E,rfl⟩⟩,rfl⟩
    .rw[A8 e]at f;exact⟨p _ _ f,g,_,lg,h.dom _ _ f7,y,f7,⟨rfl,.inr ⟨rfl,o,f⟩⟩,rfl⟩
   refine⟨_,g3,g1,g2,?_,by rw[f2,<- x,K];rfl⟩;rw[f2,<- f3];refine .sl (G:=G) (C:=C) (T:=I) (fz:=fz) A2 (fun _=>?_) (fun _=>?_) f6 fun r row j u v R V W=>(f8 r row j u v R V W).mono D
   .show(if l.blk=l.blk then _ else _)=_;rw[B0 rfl]
   .have:=F9 A f4;rw[<- f3]at this;omega
def BR.thaw{c t g:Nat}{T:TypeId}{l:Loc}(h:BR P ρ (.sq c t T g false) l w):BR P ρ (.sq c t T g true) l w:=by
 obtain⟨wd,inf,h1,b,h3,f⟩:=SqR.ex h;refine⟨⟨wd,inf,h1,b,h3,f.imp (fun x=>x) fun⟨e,d⟩=>⟨e,?_⟩⟩⟩;obtain⟨C,fz,p,rows,lg,h1,b,h3,f,d,q,k,n,r⟩:=d;exact⟨C,fz,p,rows,lg,h1,b,h3,f,d,q,k,n,fun h=>by cases h⟩
def yH{id:Nat}{ab:AB}(h:cQ m id ab=some m')(b:j<=I2):Hp.get m'.H j=if j=id then some ab else Hp.get m.H j:=by
 obtain⟨hle,rfl⟩:=U9 h;exact F1 _ _ _ _ hle b
def lS{ab:AB}{k:Nat->Value}{v:Value}(h:Z4 m ab k=some (v,m'))(b:j<=I2):Hp.get m'.H j=if j=m.n then some ab else Hp.get m.H j:=by
 obtain⟨hle,_,rfl⟩:=M0 h;exact F1 _ _ _ _ hle b
def FO{t:Nat}{v v' x:Value}{b:Nat}(h:HR P base ρ m.H w)(d:toD t v m=some (x,b,m'))(O:K4 ρ m.n m'.hi)(hv:VR ρ v v')(Z:Sat m'.lg) :
  ∃ ρ' l,St P base ρ ρ' m m' w w/\ρ' b=some l/\Hp.get m'.H b=some .frz/\Enc l.G (D9 Ora.env x) v'/\G7 (D9 Ora.env x)=t/\m.lg.le m'.lg:=by
 unfold toD at d;split at d
 .rename_i F i tg;obtain⟨h1,f⟩:=A3 d;cases f;obtain⟨h1,f⟩:=B6 h1;have h1:=A0 h1;obtain⟨l,y,r,B,J⟩:=nX hv;exact⟨ρ,l,St.refl h,y,eB f,r,B.trans h1,.refl _⟩
 .rename_i F i tg;obtain⟨h1,f⟩:=A3 d;cases f;obtain⟨h1,f⟩:=B6 h1;have h1:=A0 h1;obtain⟨l,y,r,B,J,_⟩:=gG hv;exact⟨ρ,l,St.refl h,y,eB f,r,B.trans h1,.refl _⟩
 .rename_i F i tg;split at d
  .rename_i c tc T g D;obtain⟨h1,f⟩:=A3 d;obtain⟨h1,h3⟩:=B6 h1;obtain⟨h1,C⟩:=B6 h1;have h1:=A0 h1;have C:=A0 C;obtain⟨m1,E,I,_,_,L⟩:=R3 f;cases I;subst h1;obtain⟨l,y,r,B,J,X⟩:=EA h D hv C (eB h3) E O;exact⟨_,l,y,r,B,J,X,by rw[L];exact .refl _⟩
  .rename_i c tc T g D;obtain⟨h1,f⟩:=A3 d;obtain⟨h1,h3⟩:=B6 h1;have Y:=UO h3;obtain⟨h1,C⟩:=B6 h1;have h1:=A0 h1;have C:=A0 C;split at f
   .rename_i m1 hs;obtain⟨m2,E,I,_,_,L⟩:=R3 f;cases I;subst h1;have Q:∃ l0,ρ F=some l0:=by
     rcases(gF hv).1 with⟨l,_,h1,_⟩|⟨l,_,_,h1,_⟩<;>exact⟨l,h1⟩
    obtain⟨l0,K⟩:=Q;have W:=(h.atl K D).1;have p:=St.same0 h hs D rfl K W.thaw (fun q hq=>by
     rcases hq with⟨_,a,b⟩|⟨a,_⟩
     .exact .inl ⟨rfl,a,b⟩
     .cases a)
    have hle:=(U9 hs).1;have V:g≠F:=fun e=>by subst e;rw[eB h3]at D;cases D
    have S:Hp.get m1.H F=some (.sq c tc T g true):=by rw[yH hs hle,B0 rfl]
    have M:Hp.get m1.H g=some .frz:=by rw[yH hs Y,A8 V];exact eB h3
    have R:m1.n=m.n:=by rw[(U9 hs).2]
    obtain⟨l,y,r,B,J,X⟩:=EA p.hr S hv C M E (by rw[R];exact O);refine⟨_,l,St.trans O p y,r,B,J,X,by rw[L,(U9 hs).2];exact .refl _⟩
   .cases f
  .cases d
 .obtain⟨N,d⟩:=A3 d;have N:=A1 N;rw[O0]at d;simp only at d;obtain⟨m1,E,I,_,_,L⟩:=R3 d;cases I;cases Q2 hv;have A:(m.wLg (fT m t (.nilw (t-10)) [])).lg.le m'.lg:=by rw[L];exact .refl _
  obtain⟨y,r,_⟩:=kM Z A;have p:=St.wLg h (fT m t (.nilw (t-10)) []);obtain⟨g1,g2,g3⟩:=St.region (G:=fun _=>none) p.hr E (by simpa using O) (fun k o hk=>by cases hk);refine⟨_,_,St.trans (by simpa using O) p g3,g1,g2,?_,r,W1.trans A⟩;show Enc _ (Ora.env m.lg.nx) _;rw[y];exact .nil
 .cases d
end
end
section
open Go
variable [Ora]
section
variable {P:Program} {base:Nat} {ρ ρ':Ren} {m m':Mem} {w w':World}
def n8(ρ:Ren)(m m':Mem):Prop:=∀ j l,ρ j=some l->Hp.get m.H j=some .frz->Hp.get m'.H j=some .frz
def n8.refl:n8 ρ m m:=fun _ _ _ h=>h
def n8.trans(he:∀ b l,ρ b=some l->ρ' b=some l)(a:n8 ρ m m1)(c:n8 ρ' m1 m'):n8 ρ m m':=fun j l h1 d=>c j l (he j l h1) (a j l h1 d)
def n8.lg(lg:Lg):n8 ρ m (m.wLg lg):=fun j l _ h=>by rw[lC];exact h
def LS{ab:AB}{k:Nat->Value}{v:Value}(h:HR P base ρ m.H w)(b:Z4 m ab k=some (v,m'))(d:K4 ρ m.n m'.hi):n8 ρ m m':=fun j l h1 c=>by
 rw[lS b (h.dom j l h1),A8]
 .exact c
 .intro e;subst e;obtain⟨_,_,rfl⟩:=M0 b;rw[d m.n (A6 _) (L3 _ _).2]at h1;cases h1
def A1z{ab:AB}{id:Nat}(h:HR P base ρ m.H w)(hs:cQ m id ab=some m')(b:Hp.get m.H id≠some .frz):n8 ρ m m':=fun j l h1 c=>by
 rw[yH hs (h.dom j l h1),A8]
 .exact c
 .intro e;subst e;exact b c
def JH{t:Nat}{v x:Value}{b:Nat}(h:HR P base ρ m.H w)(d:toD t v m=some (x,b,m'))(A:K4 ρ m.n m'.hi):n8 ρ m m':=by
 unfold toD at d;split at d
 .obtain⟨h1,f⟩:=A3 d;cases f;exact .refl
 .obtain⟨h1,f⟩:=A3 d;cases f;exact .refl
 .split at d
  .obtain⟨h1,f⟩:=A3 d;obtain⟨m1,p,q,_⟩:=R3 f;cases q;exact LS h p A
  .rename_i c tc T g E;obtain⟨h1,f⟩:=A3 d;split at f
   .rename_i m1 hs;obtain⟨m2,p,q,_⟩:=R3 f;cases q;have B:=A1z h hs (by rw[E];intro h;cases h);intro j l k r;have C:=B j l k r;rw[lS p (h.dom j l k),A8]
    .exact C
    .intro e;subst e;have y:m1.n=m.n:=by rw[(U9 hs).2]
     obtain⟨_,_,rfl⟩:=M0 p;rw[A m1.n A2 (L3 _ _).2]at k;cases k
   .cases f
  .cases d
 .obtain⟨D,d⟩:=A3 d;rw[O0]at d;simp only at d;obtain⟨m1,p,q,_⟩:=R3 d;cases q;intro j l k r;rw[lS p (h.dom j l k),A8,lC]
  .exact r
  .intro e;subst e;have y:(m.wLg (fT m t (.nilw (t-10)) [])).n=m.n:=by simp
   obtain⟨_,_,rfl⟩:=M0 p;rw[A _ A2 (L3 _ _).2]at k;cases k
 .cases d
def Z0(R:Nat->Option Obj)(us:List U)(vs:List Value):Prop:=us.length=vs.length/\∀ (i:Nat) (u:U) (v:Value),us[i]? = some u->vs[i]? = some v->Enc R u v
omit [Ora] in
def Z0.nil{R:Nat->Option Obj}:Z0 R [] []:=⟨rfl,fun i u v h=>by simp at h⟩
omit [Ora] in
def Z0.cons{R:Nat->Option Obj}{v:Value}(h:Enc R u v)(k:Z0 R us vs):Z0 R (u::us) (v::vs):=⟨by simp[k.1],fun i a b h1 c=>by
 cases i with
 | zero=>simp at h1 c;subst h1;subst c;exact h
 | succ i=>exact k.2 i a b (by simpa using h1) (by simpa using c)⟩
def Sub(G R:Nat->Option Obj):Prop:=∀ k o,G k=some o->R k=some o
def hZ{t:Nat}{v x:Value}{b:Nat}{m m':Mem}(c:toD t v m=some (x,b,m')):m.hi<=m'.hi/\m.lg.le m'.lg/\m.n<=m'.n:=by
 have e:∀ {m m1:Mem},Z4 m .frz (fun _=>undef)=some (undef,m1)->m.hi<=m1.hi/\m.lg.le m1.lg/\m.n<=m1.n:=fun k=>by
  obtain⟨_,_,rfl⟩:=M0 k;exact⟨(L3 _ _).1,.refl _,X3 _⟩
 unfold toD at c;split at c
 .obtain⟨h1,d⟩:=A3 c;cases d;exact⟨A6 _,.refl _,A6 _⟩
 .obtain⟨h1,d⟩:=A3 c;cases d;exact⟨A6 _,.refl _,A6 _⟩
 .split at c
  .obtain⟨h1,d⟩:=A3 c;obtain⟨m1,f,g,_⟩:=R3 d;cases g;exact e f
  .obtain⟨h1,d⟩:=A3 c;split at d
   .rename_i m1 hs;obtain⟨m2,f,g,_⟩:=R3 d;cases g
    have:=e f;obtain⟨_,rfl⟩:=U9 hs;exact this
   .cases d
  .cases c
 .obtain⟨l,c⟩:=A3 c;rw[O0]at c;simp only at c;obtain⟨m1,f,g,_⟩:=R3 c;cases g
  have:=e f;exact⟨by simpa using this.1,W1.trans this.2.1,by simpa using this.2.2⟩
 .cases c
structure BI (P:Program) (td:Td):Prop where
 ok:∀ {base:Nat} {ρ:Ren} {m m':Mem} {w:World} {t:Nat} {v v' x:Value} {b:Nat},HR P base ρ m.H w->td t v m=some (x,b,m')->K4 ρ m.n m'.hi->VR ρ v v'->Sat m'.lg ->
  ∃ ρ' l,St P base ρ ρ' m m' w w/\ρ' b=some l/\Hp.get m'.H b=some .frz/\Enc l.G (D9 Ora.env x) v'/\G7 (D9 Ora.env x)=t/\m.lg.le m'.lg/\n8 ρ m m'
 mono:∀ {m m':Mem} {t:Nat} {v x:Value} {b:Nat},td t v m=some (x,b,m')->m.hi<=m'.hi/\m.lg.le m'.lg/\m.n<=m'.n
def YN:BI P toD:=⟨fun h b c hv e=>let ⟨ρ',l,f,a2,a3,a4,a5,d⟩:=FO h b c hv e;⟨ρ',l,f,a2,a3,a4,a5,d,JH h b c⟩,fun h=>hZ h⟩
def S6{e:Td}(d:BI P e):∀ {ts:H6} {vs xs:D2} {gs:H6} {m m':Mem},BM e ts vs m=some (xs,gs,m')->m.hi<=m'.hi/\m.lg.le m'.lg/\m.n<=m'.n
 | [],[],_,_,_,_,h=>by cases h;exact⟨A6 _,.refl _,A6 _⟩
 | t::ts,v::vs,xs,gs,m,m',c=>by
   unfold BM at c;cases f:Nat.blt t 10 with
   | true =>
     rw[f]at c;simp only[E5]at c;obtain⟨h1,c⟩:=A3 c;split at c
     .rename_i hr;cases c;exact S6 d hr
     .cases c
   | false =>
     rw[f]at c;simp only[E0]at c;split at c
     .rename_i g;split at c
      .rename_i hr;cases c;have a:=d.mono g;have b:=S6 d hr;exact⟨C6 a.1 b.1,a.2.1.trans b.2.1,C6 a.2.2 b.2.2⟩
      .cases c
     .cases c
 | [],_::_,_,_,_,_,c=>by cases c
 | _::_,[],_,_,_,_,c=>by cases c
def iU{K:Td}(f:BI P K):∀ {ts:H6} {vs vs' xs:D2} {gs:H6} {m m':Mem} {ρ:Ren},HR P base ρ m.H w->BM K ts vs m=some (xs,gs,m')->K4 ρ m.n m'.hi->LR ρ vs vs'->Sat m'.lg ->
  ∃ ρ',St P base ρ ρ' m m' w w/\m.lg.le m'.lg/\n8 ρ m m'/\(∀ b ∈ gs,Hp.get m'.H b=some .frz/\∃ l,ρ' b=some l)/\(xs.map (D9 Ora.env)).map G7=ts /\
   ∀ R,(∀ b ∈ gs,∀ l,ρ' b=some l->Sub l.G R)->Z0 R (xs.map (D9 Ora.env)) vs'
 | [],[],vs',xs,gs,m,m',ρ,h,c,hf,hv,hS=>by
   cases c;exact⟨ρ,St.refl h,.refl _,.refl,fun b M=>(by cases M),rfl,fun R _=>by rw[hv.nil_inv];exact .nil⟩
 | t::ts,v::vs,vs',xs,gs,m,m',ρ,h,c,hf,hv,hS=>by
   obtain⟨v',r',rfl,p,g⟩:=hv.tail;unfold BM at c;cases C:Nat.blt t 10 with
   | true =>
     rw[C]at c;simp only[E5]at c;obtain⟨h1,c⟩:=A3 c;have h1:=A0 h1;have Q:t<10:=A1 C;split at c
     .rename_i r I m2 hr;cases c;obtain⟨ρ2,q,y,x,A,D,B⟩:=iU f h hr hf g hS;obtain⟨f1,f2⟩:=aK p A2;exact⟨ρ2,q,y,x,A,by simp[f2,h1,D],fun R hR=>.cons (.sc f1) (B R hR)⟩
     .cases c
   | false =>
     rw[C]at c;simp only[E0]at c;split at c
     .rename_i hh b m1 O;split at c
      .rename_i r I m2 hr;cases c;have e:m1.hi<=m'.hi/\m1.lg.le m'.lg/\m1.n<=m'.n:=S6 f hr;have F:K4 ρ m.n m1.hi:=hf.less e.1;obtain⟨J,l,k,a2,a3,a4,a5,N,L⟩:=f.ok h O F p (hS.le e.2.1);have E:K4 J m1.n m'.hi:=hf.step k;obtain⟨ρ2,q,y,x,A,D,B⟩:=iU f k.hr hr E (g.mono k.ext) hS;refine⟨ρ2,St.trans hf k q,N.trans y,L.trans k.ext x,fun b' d=>?_,by simp[a5,D],fun R hR=>.cons (a4.mono (hR b (.head _) l (q.ext _ _ a2))) (B R fun b' d=>hR b' (.tail _ d))⟩;rcases B4.1 d with rfl|d
       .exact⟨x _ l a2 a3,l,q.ext _ _ a2⟩
       .exact A b' d
      .cases c
     .cases c
 | [],_::_,_,_,_,_,_,_,_,c,_,_,_=>by cases c
 | _::_,[],_,_,_,_,_,_,_,c,_,_,_=>by cases c
def fC{gs:H6}{g:Nat}(h:HR P base ρ m.H w)(c:kK gs m=some (g,m'))(x:K4 ρ m.n m'.hi) :
  ∃ ρ' lg,St P base ρ ρ' m m' w w/\m'.lg=m.lg/\n8 ρ m m'/\ρ' g=some lg/\Hp.get m'.H g=some .frz/\∀ b ∈ gs,∀ l,ρ b=some l->Sub l.G lg.G:=by
 have main:∀ {gs:H6},(bif gs.all (pI m)then match gW m fun b m=>some (undef,b,m)with
  | some (_,b,m)=>some (b,m)
  | none=>none else none)=some (g,m')->∃ ρ' lg,St P base ρ ρ' m m' w w/\m'.lg=m.lg/\n8 ρ m m'/\ρ' g=some lg/\Hp.get m'.H g=some .frz/\∀ b ∈ gs,∀ l,ρ b=some l->Sub l.G lg.G:=fun{gs} c=>by
  obtain⟨h1,c⟩:=A3 c;split at c
  .rename_i r b m1 A;cases c;obtain⟨m2,t,B,_,_,D⟩:=R3 A;cases B;have e:∀ b ∈ gs,Hp.get m.H b=some .frz:=fun b d=>eB (D6.1 h1 b d)
   classical
   let G:Nat->Option Obj:=fun k=>if ∃ b ∈ gs,∃ l o,ρ b=some l/\l.G k=some o then w.heap[k]? else none
   obtain⟨g1,g2,g3⟩:=St.region (G:=G) h t x fun k o f=>by
    have f:(if ∃ b ∈ gs,∃ l o,ρ b=some l/\l.G k=some o then w.heap[k]? else none)=some o:=f;split at f
    .rename_i hex;obtain⟨b,d,l,C,v,y⟩:=hex;exact⟨f,b,_,l,h.dom _ _ v,e b d,v,⟨rfl,.inr ⟨rfl,C,y⟩⟩,rfl⟩
    .cases f
   refine⟨_,kW G,g3,D,LS h t x,g1,g2,fun b d l p k o f=>?_⟩;show(if ∃ b ∈ gs,∃ l o,ρ b=some l/\l.G k=some o then w.heap[k]? else none)=_;rw[B0 ⟨b,d,l,o,p,f⟩];exact(h.atl p (e b d)).1.2 k o f
  .cases c
 unfold kK at c;split at c
 .rename_i g0;obtain⟨h1,c⟩:=A3 c;cases c;obtain⟨l,p⟩:=A2c h h1;refine⟨ρ,l,St.refl h,rfl,.refl,p,eB h1,fun b d l2 q=>?_⟩;rcases B4.1 d with rfl|d
  .rw[p]at q
   have:=A9 q;subst this;exact fun _ _ h=>h
  .cases d
 .exact main c
omit [Ora] in
def gJ{R:Nat->Option Obj}{v r:Value}(h:Enc R u v)(hr:toV u=some r):v=r:=by
 cases h with
 | sc h=>rw[h]at hr;exact A9 hr
 | nil=>cases hr
 | emp=>cases hr
 | sl=>cases hr
omit [Ora] in
def mO{R:Nat->Option Obj}{v:Value}(h:Enc R u v):m9 v=true:=by
 cases h with
 | sc h=>have:=hY h;cases v<;>first|rfl|cases this
 | nil=>rfl
 | emp=>rfl
 | sl=>rfl
def A5G{wd k:Nat}{rows:List (List U)} :evU (.get wd o) [.seq false wd rows,.int kk (.ofNat k)]=(rows.getD k []).getD o .none:=by
 simp[evU]
def getD_some(h:row.getD o .none≠.none):row[o]? = some (row.getD o .none):=by
 rw[B2]at *;cases e:row[o]? with
 | none=>rw[e]at h;exact absurd rfl h
 | some u=>rfl
def gH{wd o i t g k:Nat}{z:Value}{lg:Loc}{rows:List (List U)}{cell:Nat->R1}(hi:Ora.env i=.seq false wd rows)(E:pU Ora.env z=some (.ofNat k))(F:ρ g=some lg)
  (x:∀ q u,(rows.getD k [])[q]? = some u->∃ v,cell q=some v/\Enc lg.G u v) :
  ∀ {ts:H6} {j:Nat} {m m':Mem} {r:D2},Y3 wd o i t z g ts j m=some (r,m')->Sat m'.lg->∃ r',LR ρ r r'/\r'.length=ts.length/\(∀ q v',r'[q]? = some v'->cell (o+j+q)=some v')/\K1 m m'/\m.lg.le m'.lg
 | [],j,m,m',r,h,hS=>by
   cases h;exact⟨[],.nil,rfl,fun q v' h=>by simp at h,.refl _,.refl _⟩
 | tg::ts,j,m,m',r,h,hS=>by
   unfold Y3 at h;obtain⟨kk,D⟩:=IK E;have f:[hole i t,z].map (D9 Ora.env)=[.seq false wd rows,.int kk (.ofNat k)]:=by
    simp only[C3,F6,D];show[Ora.env i,_]=_;rw[hi]
   have b:∀ {u:U},u≠.none->evU (.get wd (o+j)) ([hole i t,z].map (D9 Ora.env))=u->∃ v,cell (o+j)=some v/\Enc lg.G u v:=fun{u} hu he=>by
    rw[f,A5G]at he;subst he;exact x _ _ (getD_some hu)
   cases B:Nat.blt tg 10 with
   | true =>
     rw[B]at h;simp only[E5]at h;have K:tg<10:=A1 B;split at h
     .rename_i hh m1 A;split at h
      .rename_i J m2 hr;cases h;obtain⟨r',C,l,y,p,d⟩:=gH hi E F x hr hS;obtain⟨u,f1,f2,v,f3,f4,f5⟩:=M8 A (hS.le d);obtain⟨v2,g1,g2⟩:=b (u:=u) (by intro e;subst e;cases f3) f1
       have:=gJ g2 f3;subst this;refine⟨v2::r',.cons (f4 ρ) C,by simp[l],fun q v' c=>?_,(H8 A).trans p,(I3 A).trans d⟩;cases q with
       | zero=>simp at c;subst c;exact g1
       | succ q=>rw[show o+j+(q+1)=o+(j+1)+q by omega];exact y q v' (by simpa using c)
      .cases h
     .cases h
   | false =>
     rw[B]at h;simp only[E0]at h;rw[LN]at h;split at h
     .rename_i J m2 hr;cases h;obtain⟨r',C,l,y,p,d⟩:=gH hi E F x hr hS;obtain⟨f1,f2,H,I,n,f3,f4⟩:=kM hS d;obtain⟨v2,g1,g2⟩:=b (u:=Ora.env m.lg.nx) (by rw[f3];intro h;cases h) f1.symm;refine⟨v2::r',.cons (.dat F g2 f2 A2 (mO g2)) C,by simp[l],fun q v' c=>?_,K1.trans ⟨_,rfl⟩ p,W1.trans d⟩;cases q with
      | zero=>simp at c;subst c;exact g1
      | succ q=>rw[show o+j+(q+1)=o+(j+1)+q by omega];exact y q v' (by simpa using c)
     .cases h
def iY{t:TypeId}(h:lF P t=some ts):H4 P t=some ts.length:=by
 unfold lF at h;split at h
 .rename_i l n h1 b;obtain⟨h3,h⟩:=A3 h;cases h;rw[b,A0 h3]
 .cases h
def FD{t:TypeId}{r:D2}{v:Value}{b:Nat}(g:lF P t=some ts)(d:mT P t (some (r,m))=some (v,m'))(e:LR ρ r r')(l:r'.length=ts.length)
  (k:∀ q v',r'[q]? = some v'->w.cell? ⟨b,o+q,none⟩=some v'):m'=m/\∃ v',(Instr.loadAt t (.pointer (some ⟨b,o,none⟩))).run P w=.ok v' w/\VR ρ v v':=by
 unfold mT at d;split at d
 .rename_i c heq;cases d;cases heq;obtain⟨v',x,rfl,n,p⟩:=e.tail;refine⟨rfl,v',?_,n⟩
  have:=k 0 v' rfl;simp[Instr.loadAt,Instr.sureAddr,loadVar,A4,cK c,Result.andThen,run_load,show w.cell? ⟨b,o,none⟩=some v' from by simpa using this]
 .rename_i c heq;cases d;cases heq;refine⟨rfl,.agg ⟨r'⟩,?_,.agg e.1 e.2⟩;have f:H4 P t=some r'.length:=by rw[l];exact iY g
  simp[Instr.loadAt,Instr.sureAddr,loadVar,A4,cK c,L1 f,Result.andThen,K6 rfl k]
 .cases d
def A1L{t:TypeId}{x x' v:Value}(h:HR P base ρ m.H w)(f:LM P m t x=some (v,m'))(hx:VR ρ x x')(Z:Sat m'.lg):(∃ r,(Instr.loadAt t x').run P w=.ok r w/\VR ρ v r)/\K1 m m'/\m.lg.le m'.lg:=by
 have K:∀ {r:Option (D2×Mem)},mT P t r=some (v,m')->∃ vs,r=some (vs,m'):=fun{r} F=>by
  unfold mT at F;split at F
  .cases F;exact⟨_,rfl⟩
  .cases F;exact⟨_,rfl⟩
  .cases F
 unfold LM at f;split at f
 .rename_i b i tg z o ts B;obtain⟨h1,f⟩:=A3 f;obtain⟨⟨l,wd,rows,a,s,c,k,N,J,L,W,M,e6,rfl⟩,Y⟩:=HJ hx;obtain⟨vs,hr⟩:=K f;rw[hr]at f;have D:tg-10=wd:=by rw[<- Y,J];simp[G7]
  rw[D]at hr;have X:=(h.atl N (eB h1)).1.2;rw[J]at L;obtain⟨C,T,fz,f1,f2,f3,f4⟩:∃ C T fz,l.G a=some (.cells C T fz)/\s+rows.length*wd<=C.size/\(∀ row ∈ rows,row.length=wd)/\∀ (r:Nat) (row:List U) (j:Nat) (u:U) (v:Value),rows[r]? = some row->row[j]? = some u->C[s+r*wd+j]? = some v->Enc l.G u v:=by
   have y:rows≠[]:=by intro e;subst e;simp at M
   cases L with
   | sc h=>cases h
   | emp=>exact absurd rfl y
   | sl hc Q hz hw hh=>exact⟨_,_,_,Q y,hz y,hw,hh⟩
  have E:=X _ _ f1;have d:rows[k]? = some rows[k]:=A5 M;obtain⟨r',g1,g2,g3,g4,g5⟩:=gH (cell:=fun q=>w.cell? ⟨a,s+k*wd+q,none⟩) J W N (fun q u n=>by
   rw[B2,d]at n;have n:rows[k][q]? = some u:=n;have A:=(B3.1 n).1;rw[f3 _ (D0 d)]at A;have S:(k+1)*wd<=rows.length*wd:=F9 wd M;rw[I1]at S;have p:s+k*wd+q<C.size:=A2;refine⟨C[s+k*wd+q],?_,f4 k _ q u _ d n (F3 p)⟩;simp[World.cell?,E,F3 p]) hr Z
  obtain⟨_,V⟩:=FD (w:=w) (b:=a) (o:=s+k*wd+o) B f g1 g2 (fun q v' n=>by
   have:=g3 q v' n;rw[show s+k*wd+o+q=s+k*wd+(o+0+q) by omega];exact this)
  exact⟨V,g4,g5⟩
 .rename_i b i tg z o ts B;split at f
  .rename_i c tc T g ro Q;obtain⟨h1,f⟩:=A3 f;have h1:=A0 h1;subst h1;obtain⟨⟨l,wd,kE,k,N,J,L,W,M,e6,rfl⟩,Y⟩:=xF hx;obtain⟨vs,hr⟩:=K f;rw[hr]at f;obtain⟨I,inf,d1,d2,d3,d4⟩:=SqR.ex (h.atl N Q).1;rcases d4 with⟨d4,_⟩|⟨_,d4⟩
   .rw[J]at d4;cases d4
   obtain⟨C,fz,T',rows,lg,f1,f2,f3,f4,f5,f6,f7,f8,f9⟩:=d4;have D:tc-10=I:=A2;rw[D]at hr;have R:k<rows.length:=A2;have d:rows[k]? = some rows[k]:=A5 R;have O:wd=I:=by
    have:G7 (Ora.env i)=10+wd:=by rw[L];rfl
    omega
   subst O;obtain⟨r',g1,g2,g3,g4,g5⟩:=gH (cell:=fun q=>w.cell? ⟨l.blk,l.sh+k*wd+q,none⟩) f2 W f7 (fun q u n=>by
    rw[B2,d]at n;have n:rows[k][q]? = some u:=n;have A:=(B3.1 n).1;rw[f6 _ (D0 d)]at A;have S:(k+1)*wd<=l.cap*wd:=F9 wd A2;rw[I1]at S;have p:l.sh+k*wd+q<C.size:=A2;refine⟨C[l.sh+k*wd+q],?_,f8 k _ q u _ d n (F3 p)⟩;simp[World.cell?,f1,F3 p]) hr Z
   obtain⟨_,V⟩:=FD (w:=w) (b:=l.blk) (o:=l.sh+k*wd+o) B f g1 g2 (fun q v' n=>by
    have:=g3 q v' n;rw[show l.sh+k*wd+o+q=l.sh+k*wd+(o+0+q) by omega];exact this)
   exact⟨V,g4,g5⟩
  .cases f
 .cases f
end
end
section
open Go
variable [Ora]
section
variable {P:Program} {base:Nat} {ρ ρ':Ren} {m m':Mem} {w w':World}
def at0(a:Nat):Ren:=fun _=>some (lc a 0 0)
def XW{a s n c:Nat}(h:n<=c):VR (at0 a) (.slice (some ⟨0,s,none⟩) n (N3+1)) (.slice (some ⟨a,s,none⟩) n c) :=
 VR.op (ρ:=at0 a) (b:=0) (o:=s) (n:=n) (m:=N3+1) (m':=c) (l:=lc a 0 0) rfl (by unfold N3;omega) h (fun h=>by unfold N3 at h;omega)
def VM{a s:Nat}:VR (at0 a) (.pointer (some ⟨0,s,none⟩)) (.pointer (some ⟨a,s,none⟩)):=VR.ptr (ρ:=at0 a) (b:=0) (o:=s) (l:=lc a 0 0) rfl
def vF{t e:TypeId}{a s n c z sz:Nat}{k:IntKind}(hu:P.underlying t=some (.slice e))(hs:H4 P e=some sz)(g:z<n)(f:n<=c)(w:World) :
  (Instr.indexAt t (.slice (some ⟨a,s,none⟩) n c) (.int k (.ofNat z))).run P w=.ok (.pointer (some ⟨a,s+z*sz,none⟩)) w:=by
 have d:Nat.blt z n=true:=C8 g;have hm:Y1 P t (.slice (some ⟨0,s,none⟩) n (N3+1)) (.int k (.ofNat z))=some (.pointer (some ⟨0,s+z*sz,none⟩)):=by
  simp only[Y1,hu,hs,d,E5,bV,E9]
 obtain⟨v',g1,g2⟩:=cX (P:=P) hm (XW (a:=a) f) (.pure rfl) w;obtain⟨l2,b,_,rfl⟩:=O9 g2;cases b;exact g1
def qS{t e:TypeId}{a s n z sz:Nat}{k:IntKind}(hu:P.underlying t=some (.array n e))(hs:H4 P e=some sz)(d:z<n)(w:World) :
  (Instr.indexAt t (.pointer (some ⟨a,s,none⟩)) (.int k (.ofNat z))).run P w=.ok (.pointer (some ⟨a,s+z*sz,none⟩)) w:=by
 have c:Nat.blt z n=true:=C8 d;have hm:Y1 P t (.pointer (some ⟨0,s,none⟩)) (.int k (.ofNat z))=some (.pointer (some ⟨0,s+z*sz,none⟩)):=by
  simp only[Y1,hu,hs,c,E5,bV,E9]
 obtain⟨v',g1,g2⟩:=cX (P:=P) hm (VM (a:=a)) (.pure rfl) w;obtain⟨l2,b,_,rfl⟩:=O9 g2;cases b;exact g1
def vH{a z:Nat}{c:Array Field}{f:Field}(hu:P.underlying s=some (.struct c))(e:c.toList[i]? = some f)(d:H4 P f.type=some (z+1))(w:World) :
  (Instr.fieldAt s (.pointer (some ⟨a,o,none⟩)) i).run P w=.ok (.pointer (some ⟨a,o+f.offset,none⟩)) w:=by
 have hm:cY P s (.pointer (some ⟨0,o,none⟩)) i=some (.pointer (some ⟨0,o+f.offset,none⟩)):=by
  simp only[cY,hu,e,d,bV,E9]
 obtain⟨v',g1,g2⟩:=mJ (P:=P) hm (VM (a:=a)) w;obtain⟨l2,b,_,rfl⟩:=O9 g2;cases b;exact g1
def HL{t wd:Nat}{d:Bool}{rows:List (List U)}{k v:Value}(h:LZ m i t z k=some (v,m'))(hi:Ora.env i=.seq d wd rows)(J:t=10+wd)(G:VR ρ z z')(C:Sat m'.lg) :
  v=k/\(∃ kk n,z'=.int kk (.ofNat n)/\n<rows.length/\pU Ora.env z=some (.ofNat n))/\K1 m m'/\m.lg.le m'.lg:=by
 unfold LZ at h;cases B:!(Nat.blt (G8 z) 8)with
 | true=>rw[B]at h;cases h
 | false =>
   have E:G8 z<8:=by
    have:Nat.blt (G8 z) 8=true:=by simpa using B
    exact A1 this
   rw[B]at h;simp only[E0]at h;split at h
   .rename_i b H n W hh lg x;split at h
    .rename_i l D;cases h;have e:=I3 x;have c:=fM D;obtain⟨u,f,I,r,p,F,_⟩:=M8 x (S2.le C c);have q:=mS D (F ρ) C;subst q;obtain⟨kk,y,rfl,f2,_⟩:=M9 G E;have g:[z,hole i t].map (D9 Ora.env)=[.int kk y,.seq d wd rows]:=by
      simp only[C3,F6,f2];show[_,Ora.env i]=_;rw[hi]
     rw[g]at f;have f:(if wd=t-10 then U.bool (decide (0<=y) && decide (y<rows.length))else U.none)=u:=f;rw[B0 A2]at f;subst f;have p:some (Value.bool (decide (0<=y) && decide (y<rows.length)))=some (.bool true):=p;have A:(decide (0<=y) && decide (y<rows.length))=true:=by simpa using p
     simp only[H1,decide_eq_true_eq]at A;obtain⟨n0,rfl⟩:∃ n0:Nat,y=.ofNat n0:=⟨y.toNat,by have:=dW A.1;exact this.symm⟩;refine⟨rfl,⟨kk,n0,rfl,?_,VN f2⟩,K1.trans (H8 x) ⟨l,rfl⟩,e.trans c⟩
     have:=A.2;have:(n0:Int)<rows.length:=this;omega
    .cases h
   .cases h
def A9j{G:Nat->Option Obj}{b:Bool}{wd:Nat}{rows:List (List U)}{v:Value}(h:Enc G (.seq b wd rows) v)(hr:rows≠[]):b=false/\∃ a o c,v=.slice (some ⟨a,o,none⟩) rows.length c/\rows.length<=c:=by
 cases h with
 | sc h=>cases h
 | nil=>exact absurd rfl hr
 | emp=>exact absurd rfl hr
 | sl d _ _ _ _=>exact⟨rfl,_,_,_,rfl,d⟩
def OV{t:Nat}(h:G7 u=t)(d:10<=t):u=.none∨∃ c wd rows,u=.seq c wd rows/\t=10+wd:=by
 cases u with
 | none=>exact .inl rfl
 | int k n=>have:=M1 k;simp[G7]at h;omega
 | bool b=>simp[G7]at h;omega
 | str s=>simp[G7]at h;omega
 | seq c wd rows=>exact .inr ⟨c,wd,rows,rfl,h.symm⟩
def gL{G:Nat->Option Obj}{v:Value}{t:Nat}(h:Enc G u v)(d:G7 u=t)(b:10<=t):∃ c wd rows,u=.seq c wd rows/\t=10+wd:=by
 rcases OV d b with rfl|h1
 .cases h with
  | sc h=>cases h
 .exact h1
def EG{t e:TypeId}{b s:Nat}{l:Loc}{v v':Value}(hu:P.underlying t=some (.slice e))(hs:H4 P e=some (s+1))(x:tg=10+(s+1))(h1:ρ b=some l)(d:Enc l.G (Ora.env i) v')(h3:G7 (Ora.env i)=tg)
  (h:LZ m i tg z (dpt b i tg z 0)=some (v,m')) (D:VR ρ z z') (A:Sat m'.lg):(∃ r,(Instr.indexAt t v' z').run P w=.ok r w/\VR ρ v r)/\K1 m m'/\m.lg.le m'.lg:=by
 obtain⟨B,wd,rows,f,y⟩:=gL d h3 A2;obtain⟨rfl,⟨kk,n,rfl,k,g⟩,g1,g2⟩:=HL h f y D A;have p:wd=s+1:=A2;subst p;have q:rows≠[]:=by intro e;subst e;simp at k
 rw[f]at d;obtain⟨rfl,a,o,c,rfl,C⟩:=A9j d q;refine⟨⟨_,vF hu hs k C w,.dpt ⟨l,s+1,rows,a,o,c,n,h1,f,by rw[f];exact d,g,k,A2,by simp⟩ h3 rfl⟩,g1,g2⟩
def LX{t:TypeId}{x x' v:Value}(h:mG P m t x z=some (v,m'))(hx:VR ρ x x')(C:VR ρ z z')(F:Sat m'.lg):(∃ r,(Instr.indexAt t x' z').run P w=.ok r w/\VR ρ v r)/\K1 m m'/\m.lg.le m'.lg:=by
 unfold mG at h;split at h
 .rename_i e b i tg hu;split at h
  .rename_i s hs;obtain⟨g,h⟩:=A3 h;have g:=A0 g;obtain⟨E,d⟩:=gF hx;rcases E with⟨l,wd,h1,B,h3,rfl⟩|⟨l,wd,rows,h1,B,h3,O,I,rfl⟩
   .obtain⟨_,⟨kk,n,_,M,_⟩,_⟩:=HL h h3 (by rw[h3]at d;exact d.symm) C F;simp at M
   .have A:tg=10+wd:=by rw[h3]at d;exact d.symm
    obtain⟨rfl,⟨kk,n,rfl,M,H⟩,g1,g2⟩:=HL h h3 A C F;have p:wd=s+1:=A2;subst p;exact⟨⟨_,vF hu hs A2 I w,.opt ⟨l,s+1,rows,n,h1,B,h3,H,A2,A2,by simp⟩ d rfl⟩,g1,g2⟩
  .cases h
 .rename_i e b i tg hu;split at h
  .rename_i s hs;obtain⟨g,h⟩:=A3 h;have g:=A0 g;obtain⟨l,h1,B,h3,_⟩:=nX hx;exact EG hu hs g h1 B h3 h C F
  .cases h
 .rename_i e b i tg hu;split at h
  .rename_i s hs;obtain⟨g,h⟩:=A3 h;have g:=A0 g;obtain⟨l,h1,B,h3,_⟩:=gG hx;exact EG hu hs g h1 B h3 h C F
  .cases h
 .rename_i n e b i tg y o hu;split at h
  .rename_i s kk k hs;obtain⟨f,h⟩:=A3 h;obtain⟨f,hw⟩:=B6 f;have f:=A1 f;have hw:o+k*s<tg-10:=A1 hw;rw[E9]at h;cases h;cases J5 C;obtain⟨⟨l,wd,rows,a,s0,c,q,K,A,G,J,L,N,rfl⟩,D⟩:=HJ hx;have p:tg-10=wd:=by rw[<- D,A];simp[G7]
   refine⟨⟨_,qS hu hs f w,.dpt ⟨l,wd,rows,a,s0,c,q,K,A,G,J,L,A2,by simp⟩ D rfl⟩,.refl _,.refl _⟩
  .cases h
 .rename_i n e b i tg y o hu;split at h
  .rename_i s kk k hs;obtain⟨f,h⟩:=A3 h;obtain⟨f,hw⟩:=B6 f;have f:=A1 f;have hw:o+k*s<tg-10:=A1 hw;rw[E9]at h;cases h;cases J5 C;obtain⟨⟨l,wd,rows,q,K,A,G,J,L,N,rfl⟩,D⟩:=xF hx;have p:tg-10=wd:=by rw[<- D,G];simp[G7]
   refine⟨⟨_,qS hu hs f w,.opt ⟨l,wd,rows,q,K,A,G,J,L,A2,by simp⟩ D rfl⟩,.refl _,.refl _⟩
  .cases h
 .cases h
def MO{x x' v:Value}{f:Nat}(h:mK P m s x f=some (v,m'))(hx:VR ρ x x'):(∃ r,(Instr.fieldAt s x' f).run P w=.ok r w/\VR ρ v r)/\m'=m:=by
 unfold mK at h;split at h
 .rename_i C b i tg y o hu;split at h
  .rename_i fd B;split at h
   .rename_i z A;obtain⟨hw,h⟩:=A3 h;have hw:o+fd.offset<tg-10:=A1 hw;rw[E9]at h;cases h;obtain⟨⟨l,wd,rows,a,s0,c,q,t,e,g,n,p,D,rfl⟩,d⟩:=HJ hx;have k:tg-10=wd:=by rw[<- d,e];simp[G7]
    exact⟨⟨_,vH hu B A w,.dpt ⟨l,wd,rows,a,s0,c,q,t,e,g,n,p,A2,by simp⟩ d rfl⟩,rfl⟩
   .cases h
  .cases h
 .rename_i C b i tg y o hu;split at h
  .rename_i fd B;split at h
   .rename_i z A;obtain⟨hw,h⟩:=A3 h;have hw:o+fd.offset<tg-10:=A1 hw;rw[E9]at h;cases h;obtain⟨⟨l,wd,rows,q,t,e,g,n,p,D,rfl⟩,d⟩:=xF hx;have k:tg-10=wd:=by rw[<- d,g];simp[G7]
    exact⟨⟨_,vH hu B A w,.opt ⟨l,wd,rows,q,t,e,g,n,p,A2,by simp⟩ d rfl⟩,rfl⟩
   .cases h
  .cases h
 .cases h
end
end
section
open Go
variable [Ora]
section
variable {P:Program} {base:Nat} {ρ ρ':Ren} {m m':Mem} {w w':World}
def y0{G:Nat->Option Obj}{b:Bool}{wd:Nat}{rows:List (List U)}{v:Value}(h:Enc G (.seq b wd rows) v):(b=true/\rows=[]/\v=.slice none 0 0)∨(b=false/\∃ (a:Addr) (c:Nat),v=.slice (some a) rows.length c/\rows.length<=c):=by
 cases h with
 | sc h=>cases h
 | nil=>exact .inl ⟨rfl,rfl,rfl⟩
 | emp=>exact .inr ⟨rfl,_,_,rfl,A6 _⟩
 | sl d _ _ _ _=>exact .inr ⟨rfl,_,_,rfl,d⟩
def lJ{t e:TypeId}{a:Option Addr}{n c:Nat}(hu:P.underlying t=some (.slice e))(w:World):(Builtin.len_ ⟨t::tys⟩ ty #[.slice a n c]).run P w=.ok (.int .i64 n) w:=by
 simp[Builtin.len_,A4,D1 hu,Result.andThen,goInt]
def A4l{t:Nat}{v:Value}{c:Bool}{wd:Nat}{rows:List (List U)}(h:U3 m 3 .len [hole i t]=some (v,m'))(hi:Ora.env i=.seq c wd rows)(e:Sat m'.lg):VR ρ v (.int .i64 rows.length)/\K1 m m'/\m.lg.le m'.lg/\D9 Ora.env v=.int .i64 rows.length:=by
 obtain⟨u,d,k,r,g,f,n⟩:=M8 h e;have b:[hole i t].map (D9 Ora.env)=[.seq c wd rows]:=by
  show[Ora.env i]=_;rw[hi]
 rw[b]at d;have d:U.int .i64 rows.length=u:=d;subst d;cases g;refine⟨f ρ,H8 h,I3 h,?_⟩;obtain⟨rfl,rfl⟩:=jJ h;obtain⟨h1,l,h3⟩:=e (.lt m.lg.nx 3 .len [hole i t]) (by cases m;exact B5);show Ora.env m.lg.nx=_;rw[h1,b];rfl
def mI{i j:Nat}:∀ {l:List n7},sY i l=some j->∃ tg,n7.lt j 3 .len [hole i tg] ∈ l
 | [],h=>by cases h
 | e::r,h=>by
   unfold sY at h;split at h
   .cases h
   .rename_i f t k tg r' he;cases he;cases c:Nat.beq k i && Nat.beq t 3 with
    | true =>
      rw[c]at h;cases h;obtain⟨h1,d⟩:=B6 c;have h1:=A0 h1;have d:=A0 d;subst h1;subst d;exact⟨tg,.head _⟩
    | false =>
      rw[c]at h;obtain⟨b,h3⟩:=mI h;exact⟨b,.tail _ h3⟩
   .rename_i he;cases he;obtain⟨b,h3⟩:=mI h;exact⟨b,.tail _ h3⟩
def bY{t:Nat}{v:Value}(h:GY m i t=some (v,m')):K1 m m'/\m.lg.le m'.lg:=by
 unfold GY at h;split at h
 .cases h;exact⟨K1.refl _,.refl _⟩
 .exact⟨H8 h,I3 h⟩
def mA{t:Nat}{v:Value}{c:Bool}{wd:Nat}{rows:List (List U)}(h:GY m i t=some (v,m'))(hi:Ora.env i=.seq c wd rows)(d:Sat m'.lg):VR ρ v (.int .i64 rows.length)/\K1 m m'/\m.lg.le m'.lg/\D9 Ora.env v=.int .i64 rows.length:=by
 unfold GY at h;split at h
 .rename_i j e;cases h;obtain⟨tg,hm⟩:=mI e;obtain⟨h1,f,_⟩:=d _ hm;have b:[hole i tg].map (D9 Ora.env)=[.seq c wd rows]:=by
   show[Ora.env i]=_;rw[hi]
  rw[b]at h1;have h1:Ora.env j=.int .i64 rows.length:=h1;refine⟨.hole ?_ ?_,K1.refl _,.refl _,h1⟩
  .rw[h1];rfl
  .rw[h1];rfl
 .exact A4l h hi d
def WT{b:Nat}{v':Value}(h:A03 ρ b u v'):∃ d wd rows a c,u=.seq d wd rows/\v'=.slice a rows.length c:=by
 rcases h with⟨l,wd,h1,e,h3,rfl⟩|⟨l,wd,rows,h1,e,h3,f,g,rfl⟩
 .exact⟨_,_,_,_,_,h3,rfl⟩
 .exact⟨_,_,_,_,_,h3,by rw[f]⟩
def A4m{t:TypeId}{x x' v:Value}(h:A4n P m t x=some (v,m'))(hx:VR ρ x x')(k:Sat m'.lg):(∃ r,(Builtin.len_ ⟨t::tys⟩ ty #[x']).run P w=.ok r w/\VR ρ v r)/\K1 m m'/\m.lg.le m'.lg:=by
 unfold A4n at h;split at h
 .rename_i e b i tg hu;obtain⟨l,h1,d,h3,n⟩:=nX hx;obtain⟨g,wd,rows,f,_⟩:=gL d h3 n;obtain⟨g1,g2,g3,_⟩:=mA (ρ:=ρ) h f k;rw[f]at d;rcases y0 d with⟨rfl,rfl,rfl⟩|⟨rfl,a,c,rfl,_⟩
  .exact⟨⟨_,lJ hu w,g1⟩,g2,g3⟩
  .exact⟨⟨_,lJ hu w,g1⟩,g2,g3⟩
 .rename_i e b i tg hu;obtain⟨l,h1,d,h3,n,_⟩:=gG hx;obtain⟨g,wd,rows,f,_⟩:=gL d h3 n;obtain⟨g1,g2,g3,_⟩:=mA (ρ:=ρ) h f k;rw[f]at d;rcases y0 d with⟨rfl,rfl,rfl⟩|⟨rfl,a,c,rfl,_⟩
  .exact⟨⟨_,lJ hu w,g1⟩,g2,g3⟩
  .exact⟨⟨_,lJ hu w,g1⟩,g2,g3⟩
 .rename_i e b i tg hu;obtain⟨g,wd,rows,a,c,f,rfl⟩:=WT (gF hx).1;obtain⟨g1,g2,g3,_⟩:=mA (ρ:=ρ) h f k;exact⟨⟨_,lJ hu w,g1⟩,g2,g3⟩
 .cases h
def DT{v v':Value}{n:Nat}(hv:VR ρ v v')(c:zV v=true)(b:D9 Ora.env v=.int kk (.ofNat n)):∃ j,v'=.int j (.ofNat n):=by
 obtain⟨k,z,rfl,f2,_⟩:=M9 hv (A1 c);rw[f2]at b;injection b with _ hb
 exact⟨k,by rw[hb]⟩
def ZS{h x e x':Value}(hs:SF h x=true)(h1:VR ρ h e)(d:VR ρ x x'):e=x':=by
 unfold SF at hs;split at hs
 .rename_i i t1 j t2
  have:=A0 hs;subst this;have hh:∀ {t:Nat} {v:Value},VR ρ (.complex .f64 i t) v->toV (Ora.env i)=some v:=fun{t v} h=>by
   cases h with
   | pure hp=>simp[I8]at hp
   | hole h _=>exact h
  have a:=hh h1;rw[hh d]at a;exact(A9 a).symm
 .obtain⟨c,b⟩:=B6 hs;have c:=iD c;rw[cM]at b;have b:=eq_of_beq b;subst c;subst b;cases J5 h1;cases J5 d;rfl
 .cases hs
def A2q{wd v:Nat}{d:Bool}{rows:List (List U)}{a b:U}(c:evU (.subs wd) [.seq d v rows,a,b]≠.none):∃ f l g h,a=.int f (.ofNat l)/\b=.int g (.ofNat h)/\v=wd/\l<=h/\h<=rows.length:=by
 cases a with
 | int f k=>cases k with
   | ofNat l=>cases b with
     | int g z2=>cases z2 with
       | ofNat h =>
         have c:(if v=wd/\l<=h/\h<=rows.length then U.seq d wd ((rows.drop l).take (h-l))else .none)≠.none:=c;by_cases e:v=wd/\l<=h/\h<=rows.length
         .exact⟨f,l,g,h,rfl,rfl,e.1,e.2.1,e.2.2⟩
         .rw[A8 e]at c;exact(c rfl).elim
       | negSucc _=>exact(c rfl).elim
     | _=>exact(c rfl).elim
   | negSucc _=>exact(c rfl).elim
 | _=>exact(c rfl).elim
def A5K{G:Nat->Option Obj}{q:Bool}{wd l h mm n c:Nat}{rows:List (List U)}{a:Option Addr}(he:Enc G (.seq q wd rows) (.slice a n c))(N:l<=h)(hh:h<=rows.length)(hm:h<=mm)(J:mm<=c) :
  Enc G (.seq q wd ((rows.drop l).take (h-l))) (.slice (if mm=l then a else a.map (·.add (l*wd))) (h-l) (mm-l))∨a=none:=by
 cases he with
 | sc h=>cases h
 | nil=>exact .inr rfl
 | emp =>
   rename_i a;have g:h=0:=by simpa using hh
   subst g;have f:l=0:=A2;subst f;have I:mm=0:=A2;subst I;exact .inl .emp
 | sl M L K hw p =>
   rename_i a o C T fz;refine .inl ?_;have hlen:((rows.drop l).take (h-l)).length=h-l:=by simp;omega
   have key:∀ b x,(h-l≠0->b=a/\x=o+l*wd)->Enc G (.seq false wd ((rows.drop l).take (h-l))) (.slice (some ⟨b,x,none⟩) (h-l) (mm-l)):=fun b x A=>by
    have B:∀ r row,((rows.drop l).take (h-l))[r]? = some row->h-l≠0/\rows[l+r]? = some row:=fun r row hr=>by
     have t:=(B3.1 hr).1;rw[hlen]at t;rw[E8 t,I4]at hr;exact⟨A2,hr⟩
    have d:(rows.drop l).take (h-l)≠[]->h-l≠0/\rows≠[]:=fun d=>by
     constructor
     .intro e;rw[e]at d;simp at d
     .intro e;subst e;simp at d
    have:=Enc.sl (G:=G) (w:=wd) (rows:=(rows.drop l).take (h-l)) (a:=b) (o:=x) (c:=mm-l) (C:=C) (T:=T) (fz:=fz) A2
     (fun y=>by obtain⟨g,f⟩:=d y;rw[(A g).1];exact L f)
     (fun y=>by
       obtain⟨g,f⟩:=d y;rw[hlen,(A g).2];have h1:=K f;have H:(l+(h-l))*wd<=rows.length*wd:=F9 wd A2;rw[I1]at H;omega)
     (fun row hr=>hw row (dE (dD hr)))
     (fun r row j u v E F D=>by
       obtain⟨g,f⟩:=B r row E;rw[(A g).2]at D;refine p (l+r) row j u v f F ?_;rw[I1,show o+(l*wd+r*wd)+j=o+l*wd+r*wd+j by omega];exact D)
    rw[hlen]at this;exact this
   by_cases k:mm=l
   .rw[B0 k];exact key a o fun h=>by omega
   .rw[A8 k];have e:(Addr.mk a o none).add (l*wd)=⟨a,o+l*wd,none⟩:=by
     unfold Addr.add;split
     .rename_i h;rw[h];rfl
     .rfl
    show Enc G _ (.slice (some ((Addr.mk a o none).add (l*wd))) _ _);rw[e];exact key a (o+l*wd) fun _=>⟨rfl,rfl⟩
def IB{t e:TypeId}{b s:Nat}{l:Loc}{hi:R1}{v x':Value}(hu:P.underlying t=some (.slice e))(hs:H4 P e=some s)(ak:tg=10+s)(h1:ρ b=some l)(F:Enc l.G (Ora.env i) x')(h3:G7 (Ora.env i)=tg)
  (ay:cl=true->A3H x') (h:MU m b i tg cl lo hi mx=some (v,m')) (Q:OR ρ lo lo') (S:OR ρ hi hi') (L:OR ρ mx mx') (hS:Sat m'.lg):(∃ r,(Instr.sliceAt t x' lo' hi' mx').run P w=.ok r w/\VR ρ v r)/\K1 m m'/\m.lg.le m'.lg:=by
 have d:∀ {o:R1},OR ρ none o->o=none:=fun{o} h=>by cases o<;>first|rfl|exact h.elim
 have f:∀ {y:Value} {o:R1},OR ρ (some y) o->∃ Y,o=some Y/\VR ρ y Y:=fun{y o} h=>by cases o<;>first|exact h.elim|exact⟨_,rfl,h⟩
 obtain⟨K,wd,rows,e1,e2⟩:=gL F h3 A2;have az:wd=s:=A2;subst az;rw[e1]at F;obtain⟨a,n,c,av,hn,ai⟩:∃ a n c,x'=.slice a n c/\n=rows.length/\n<=c:=by
  rcases y0 F with⟨rfl,rfl,rfl⟩|⟨rfl,a,c,rfl,hc⟩
  .exact⟨_,_,_,rfl,rfl,A6 _⟩
  .exact⟨_,_,_,rfl,rfl,hc⟩
 subst av;have go:∀ {m:Mem} {p hv:Value} {cc:Bool} {D:R1} {hh mm:Nat},gM m b i tg p hv cc=some (v,m') ->
   (D=none/\p=.int .i64 0∨∃ y,D=some y/\VR ρ p y)->(∀ kk q,D9 Ora.env hv=.int kk (.ofNat q)->q<=rows.length->q=hh/\Bd mx' c c mm/\(hi'=none->mx'=none)/\Bd hi' mm n hh/\hh<=mm/\(cc=true->mm=hh)) ->
   (∃ r,(Instr.sliceAt t (.slice a n c) D hi' mx').run P w=.ok r w/\VR ρ v r)/\K1 m m'/\m.lg.le m'.lg:=fun{m p hv cc D hh mm} h C Z=>by
  unfold gM at h;obtain⟨hint,h⟩:=A3 h;obtain⟨aw,aj⟩:=B6 hint;rw[O0]at h;simp only[D5,M4]at h;obtain⟨rfl,rfl⟩:=h;obtain⟨f1,f2,ao,an,ar,f3,f4⟩:=kM hS (.refl _);have V:[hole i tg,p,hv].map (D9 Ora.env)=[.seq K wd rows,D9 Ora.env p,D9 Ora.env hv]:=by
   show[Ora.env i,_,_]=_;rw[e1]
  rw[V]at f1;have aq:tg-10=wd:=A2;rw[aq]at f1;obtain⟨W,l0,O,h0,a1,a2,a3,a4⟩:∃ W l0 O h0,D9 Ora.env p=.int W (.ofNat l0)/\D9 Ora.env hv=.int O (.ofNat h0)/\l0<=h0/\h0<=rows.length:=by
   have ax:evU (.subs wd) [.seq K wd rows,D9 Ora.env p,D9 Ora.env hv]≠.none:=by rw[<- f1,f3];intro h;cases h
   obtain⟨W,l0,O,h0,X,B,_,q3,q4⟩:=A2q ax;exact⟨W,l0,O,h0,X,B,q3,q4⟩
  rw[a1,a2]at f1;have f1:Ora.env m.lg.nx=if wd=wd/\l0<=h0/\h0<=rows.length then U.seq K wd ((rows.drop l0).take (h0-l0))else .none:=f1
  rw[B0 ⟨rfl,a3,a4⟩]at f1;obtain⟨rfl,N,b2,b3,b4,b5⟩:=Z O h0 a2 a4;have b6:Bd D h0 0 l0:=by
   rcases C with⟨rfl,rfl⟩|⟨y,rfl,hy⟩
   .cases a1;exact .inl ⟨rfl,rfl⟩
   .obtain⟨j,rfl⟩:=DT hy aw a1;exact .inr ⟨j,rfl,a3⟩
  have M:=vE (P:=P) (a:=a) (n:=n) (c:=c) hu hs N b2 b3 b6 w;have I:Enc l.G (Ora.env m.lg.nx) (.slice (if mm=l0 then a else a.map (·.add (l0*wd))) (h0-l0) (mm-l0)):=by
   rw[f1];rcases A5K (mm:=mm) F a3 a4 b4 (by rcases N with⟨_,rfl⟩|⟨_,_,N⟩<;>omega)with he|rfl
   .exact he
   .rcases y0 F with⟨rfl,rfl,H⟩|⟨_,_,_,H,_⟩
    .cases H;have z1:h0=0:=by simp at a4;exact a4
     have z2:l0=0:=A2;have z3:mm=0:=by
      rcases N with⟨_,rfl⟩|⟨_,_,N⟩<;>omega
     subst z1;subst z2;subst z3;exact .nil
    .cases H
  refine⟨⟨_,M,?_⟩,⟨_,rfl⟩,W1⟩;cases cc with
  | false=>exact .dat h1 I f2 A2 rfl
  | true =>
    refine .clp h1 I f2 A2 rfl ?_;show mm-l0=h0-l0;rw[b5 rfl]
 have A:∀ {hv y:Value} {kk:IntKind} {q:Nat},VR ρ hv y->zV hv=true->D9 Ora.env hv=.int kk (.ofNat q)->∃ j,y=.int j (.ofNat q):=fun h1 F h3=>DT h1 F h3
 have g:∀ {m:Mem} {p hv:Value} {cc:Bool},gM m b i tg p hv cc=some (v,m')->zV hv=true:=fun h=>by
  unfold gM at h;exact(B6 (A3 h).1).2
 have main:∀ p,(lo'=none/\p=.int .i64 0∨∃ y,lo'=some y/\VR ρ p y)->MT m b i tg cl p hi mx=some (v,m')->(∃ r,(Instr.sliceAt t (.slice a n c) lo' hi' mx').run P w=.ok r w/\VR ρ v r)/\K1 m m'/\m.lg.le m'.lg:=fun p C h=>by
  cases hi with
  | some hv =>
    obtain⟨al,rfl,E⟩:=f S;cases mx with
    | none =>
      cases d L;have h:gM m b i tg p hv false=some (v,m'):=h;have hint:=g h;obtain⟨kk,q,H⟩:∃ kk q,D9 Ora.env hv=.int kk q:=by
       obtain⟨k,z,_,f2,_⟩:=M9 E (A1 hint);exact⟨k,z,f2⟩
      exact go (hh:=q.toNat) (mm:=c) h C fun R B h1 F=>by
       rw[H]at h1;injection h1 with _ h1
       subst h1;obtain⟨j,rfl⟩:=A E hint H;have e:(Int.ofNat B).toNat=B:=rfl;rw[e];exact⟨rfl,.inl ⟨rfl,rfl⟩,fun h=>(by cases h),.inr ⟨j,rfl,A2⟩,A2,fun h=>by cases h⟩
    | some x =>
      obtain⟨x',rfl,au⟩:=f L;have h:(bif SF hv x then gM m b i tg p hv true else none)=some (v,m'):=h;obtain⟨J,h⟩:=A3 h;have hint:=g h
      have:=ZS J E au;subst this;obtain⟨kk,q,H⟩:∃ kk q,D9 Ora.env hv=.int kk q:=by
       obtain⟨k,z,_,f2,_⟩:=M9 E (A1 hint);exact⟨k,z,f2⟩
      exact go (hh:=q.toNat) (mm:=q.toNat) h C fun R B h1 F=>by
       rw[H]at h1;injection h1 with _ h1
       subst h1;obtain⟨j,rfl⟩:=A E hint H;have e:(Int.ofNat B).toNat=B:=rfl;rw[e];exact⟨rfl,.inr ⟨j,rfl,A2⟩,fun h=>(by cases h),.inr ⟨j,rfl,A6 _⟩,A6 _,fun _=>rfl⟩
  | none =>
    cases d S;cases mx with
    | some x=>cases h
    | none =>
      cases d L;unfold MT at h;simp only at h;split at h
      .rename_i hv m1 hl;have T:K1 m1 m'/\m1.lg.le m'.lg:=by
        unfold gM at h;obtain⟨_,h⟩:=A3 h;rw[O0]at h;simp only[D5,M4]at h;obtain⟨_,rfl⟩:=h;exact⟨⟨_,rfl⟩,W1⟩
       obtain⟨X,B,q3,q4⟩:=mA (ρ:=ρ) hl e1 (hS.le T.2);obtain⟨r1,r2,r3⟩:=go (hh:=rows.length) (mm:=c) h C fun R B h1 F=>by
        rw[q4]at h1;injection h1 with _ h1
        have h1:((rows.length:Nat):Int)=(B:Nat):=h1;have:B=rows.length:=A2;subst this;refine⟨rfl,.inl ⟨rfl,rfl⟩,fun _=>rfl,.inl ⟨rfl,hn.symm⟩,A2,fun hc=>?_⟩
        have:=ay hc;have:c=n:=this;omega
       exact⟨r1,B.trans r2,q3.trans r3⟩
      .cases h
 cases lo with
 | none=>exact main _ (.inl ⟨d Q,rfl⟩) h
 | some y=>obtain⟨Y,X,B⟩:=f Q;exact main _ (.inr ⟨Y,X,B⟩) h
end
end
section
open Go
variable [Ora]
section
variable {P:Program} {base:Nat} {ρ ρ':Ren} {m m':Mem} {w w':World}
def P0(R:Nat->Option Obj)(rows:List (List U))(wd:Nat)(C:Array Value)(o:Nat):Prop :=
 (∀ row ∈ rows,row.length=wd)/\∀ (r:Nat) (row:List U) (j:Nat) (u:U) (v:Value),rows[r]? = some row->row[j]? = some u->C[o+r*wd+j]? = some v->Enc R u v
def P0.mono{R d:Nat->Option Obj}{rows:List (List U)}{wd:Nat}{C:W4}(h:P0 R rows wd C o)(hs:Sub R d):P0 d rows wd C o:=⟨h.1,fun r row j u v a b c=>(h.2 r row j u v a b c).mono hs⟩
def P0.nil{R:Nat->Option Obj}{wd:Nat}{C:W4}:P0 R [] wd C o:=⟨fun _ h=>by(cases h),fun r row j u v h=>by simp at h⟩
def oE{wd:Nat}:∀ {n:Nat} {l:List U} {r:List (List U)},i6 wd n l=some r->r.length=n/\l.length=n*wd/\(∀ row ∈ r,row.length=wd)/\∀ (q:Nat) (row:List U) (j:Nat) (u:U),r[q]? = some row->row[j]? = some u->l[q*wd+j]? = some u
 | 0,[],r,h=>by cases h;exact⟨rfl,by simp,fun _ h=>(by cases h),fun q row j u h=>by simp at h⟩
 | 0,_::_,r,h=>by cases h
 | n+1,l,r,h=>by
   unfold i6 at h;split at h
   .rename_i hle;split at h
    .rename_i g hr;cases h;obtain⟨h1,c,h3,f⟩:=oE hr;have e:l.length=(n+1)*wd:=by
      rw[E4]at c;rw[I1];omega
     refine⟨by simp[h1],e,fun row b=>?_,fun q row j u g1 g2=>?_⟩
     .rcases B4.1 b with rfl|b
      .simp;omega
      .exact h3 row b
     .cases q with
      | zero =>
        simp at g1;subst g1;have d:=(B3.1 g2).1;simp at d;rw[E8 A2]at g2
        simpa using g2
      | succ q =>
        have:=f q row j u (by simpa using g1) g2;rw[I4]at this;rw[show(q+1)*wd+j=wd+(q*wd+j) by rw[I1];omega];exact this
    .cases h
   .cases h
def pO{wd:Nat}:∀ (n:Nat) (l:List U),l.length=n*wd->∃ r,i6 wd n l=some r
 | 0,[],_=>⟨[],rfl⟩
 | 0,_::_,h=>by simp at h
 | n+1,l,h=>by
   rw[I1]at h;obtain⟨r,hr⟩:=pO (wd:=wd) n (l.drop wd) (by rw[E4];omega);refine⟨l.take wd::r,?_⟩;unfold i6;rw[B0 A2,hr]
def oO{R:Nat->Option Obj}{wd n:Nat}{rows:List (List U)}(h:Z0 R us vs)(b:i6 wd n us=some rows):P0 R rows wd ⟨vs⟩ 0:=by
 obtain⟨h1,d,h3,c⟩:=oE b;refine⟨h3,fun r row j u v g1 g2 g3=>h.2 _ u v (c r row j u g1 g2) ?_⟩
 simpa using g3
def yQ{α:Type}{l:List α}:∀ n,(OX l n).length=n*l.length
 | 0=>by simp[OX]
 | n+1=>by simp[OX,yQ n,I1];omega
def iF(s:List UInt8):(kC s).length=s.length:=by simp[kC]
def KC{R:Nat->Option Obj}(s:List UInt8):P0 R (kC s) 1 ⟨P8 s⟩ 0:=by
 refine⟨fun row hr=>?_,fun r row j u v g1 g2 g3=>?_⟩
 .unfold kC at hr;obtain⟨b,_,rfl⟩:=I6.1 hr;rfl
 .unfold kC at g1;rw[F8]at g1;cases c:s[r]? with
  | none=>rw[c]at g1;cases g1
  | some b =>
    rw[c]at g1;simp only[L6,D5]at g1;subst g1;cases j with
    | zero =>
      simp at g2;subst g2;have g3:(P8 s)[0+r*1+0]? = some v:=by simpa using g3
      unfold P8 at g3;rw[F8,show 0+r*1+0=r by omega,c]at g3;simp only[L6,D5]at g3;subst g3;exact .sc rfl
    | succ j=>simp at g2
def uQ{G:Nat->Option Obj}{wd n c:Nat}{rows:List (List U)}(h:Enc G (.seq false wd rows) (.slice (some a) n c))(D:∀ k A,G k=some A->w.heap[k]? = some A) :
  n=rows.length/\∃ new',new'.length=rows.length*wd/\new'.all m9=true/\P0 G rows wd ⟨new'⟩ 0/\∀ (j:Nat) (v':Value),new'[j]? = some v'->w.cell? (a.add j)=some v':=by
 cases h with
 | sc h=>cases h
 | emp=>exact⟨rfl,[],by simp,rfl,.nil,fun j v' h=>by simp at h⟩
 | sl H E B hw f =>
   rename_i a o C T fz;refine⟨rfl,?_⟩;cases hr:rows with
   | nil=>exact⟨[],by simp,rfl,.nil,fun j v' h=>by simp at h⟩
   | cons I J =>
     have p:rows≠[]:=by rw[hr];simp
     rw[<- hr];have hh:=D _ _ (E p);have B:=B p;have hlen:((C.toList.drop o).take (rows.length*wd)).length=rows.length*wd:=by simp;omega
     have b:∀ j,j<rows.length*wd->((C.toList.drop o).take (rows.length*wd))[j]? = C[o+j]? := fun j d=>by
      rw[E8 d,I4];simp
     refine⟨_,hlen,?_,⟨hw,fun r row j u v g1 g2 g3=>?_⟩,fun j v' d=>?_⟩
     .refine D6.2 fun v hv=>?_
      obtain⟨j,d,e⟩:=i7 hv;rw[hlen]at d;have t:C[o+j]? = some v:=by rw[<- b j d,A5 (by rw[hlen];exact d),e]
      have g:0<wd:=by
       rcases T4 wd with h0|h0
       .subst h0;omega
       .exact h0
      have h1:j / wd<rows.length:=by rw[Nat.div_lt_iff_lt_mul g];exact d
      have x:(rows[j / wd]).length=wd:=hw _ (N9 h1);have h3:j%wd<wd:=pW _ g;refine mO (f (j / wd) rows[j / wd] (j%wd) (rows[j / wd])[j%wd] v (A5 h1) (A5 (by rw[x];exact h3)) ?_);have:o+j / wd*wd+j%wd=o+j:=by have:=Nat.div_add_mod j wd;rw[bH]at this;omega
      rw[this];exact t
     .have F:0+r*wd+j<rows.length*wd:=by
       have q:=(B3.1 g1).1;have y:=(B3.1 g2).1;rw[hw _ (D0 g1)]at y;have x:(r+1)*wd<=rows.length*wd:=F9 wd q;rw[I1]at x;omega
      have g3:((C.toList.drop o).take (rows.length*wd))[0+r*wd+j]? = some v:=by simpa using g3
      rw[b _ F]at g3;exact f r row j u v g1 g2 (by rw[show o+r*wd+j=o+(0+r*wd+j) by omega];exact g3)
     .have l:=(B3.1 d).1;rw[hlen]at l;rw[b j l]at d;rw[K6.add_none'];simp[World.cell?,hh,d]
structure XZ (P:Program) (ρ':Ren) (w:World) (wd:Nat) (bh:Beh) (gs:List Nat) (y':Value) (rows2:List (List U)) (new':List Value):Prop where
 len:∀ wd',(Builtin.lenOf y').run P wd'=.ok rows2.length wd'
 first:∀ wd':World,wd'.heap=w.heap->(Builtin.firstCells wd rows2.length y').run P wd'=.ok ⟨new'⟩ wd'
 size:new'.length=rows2.length*wd
 flat:new'.all m9=true
 rows:∀ R,(∀ b ∈ gs,∀ l,ρ' b=some l->Sub l.G R)->P0 R rows2 wd ⟨new'⟩ 0
 ev:∀ c nul rows,Ora.env c=.seq nul wd rows->evU (dR wd (hole c (10+wd)) bh).1 ((dR wd (hole c (10+wd)) bh).2.map (D9 Ora.env))=mQ nul wd rows rows2
def EF{R:Nat->Option Obj}(h:Z0 R us vs):vs.all m9=true:=by
 refine D6.2 fun v hv=>?_
 obtain⟨j,b,e⟩:=i7 hv;have hu:j<us.length:=by rw[h.1];exact b
 exact mO (h.2 j us[j] v (A5 hu) (by rw[A5 b,e]))
def VL{td:Td}(N:BI P td){e:TypeId}{wd:Nat}{y y':Value}{bh:Beh}{gs:H6}(h:HR P base ρ m.H w)(p:A3S td P m e wd y=some (bh,gs,sure,m'))(hf:K4 ρ m.n m'.hi)(Q:VR ρ y y')(hS:Sat m'.lg)(S:0<wd)(Z:H4 P e=some wd) :
  ∃ ρ' d new',St P base ρ ρ' m m' w w/\m.lg.le m'.lg/\n8 ρ m m'/\(∀ b ∈ gs,Hp.get m'.H b=some .frz/\∃ l,ρ' b=some l)/\XZ P ρ' w wd bh gs y' d new'/\(sure=true->d≠[]):=by
 unfold A3S at p;split at p
 .cases p;cases Q2 Q;refine⟨ρ,[],[],St.refl h,.refl _,.refl,fun b E=>(by cases E),⟨fun _=>rfl,fun _ _=>rfl,by simp,rfl,fun R _=>.nil,fun c g rows t=>?_⟩,fun h=>by cases h⟩;show evU (.snoc wd) [Ora.env c]=_;rw[t];show(if wd=wd/\wd≠0 then(match i6 wd (([]:List U).length / wd) []with|some r=>mQ g wd rows r|none=>.none)else .none)=_;rw[B0 ⟨rfl,A2⟩,Y5,Nat.zero_div];rfl
 .rename_i a n c;split at p
  .rename_i cs ts hr T;split at p
   .rename_i xs aw m2 Y;cases p;have az:eX m wd (.slice (some a) n c)=some (n,cs):=by simp only[eX,hr]
    obtain⟨f1,new',f2,f3⟩:=vS h az Q;obtain⟨ρ2,F,M,O,B,V,J⟩:=iU N h Y hf f2 hS;have ay:ts.length=wd:=by have:=iY T;rw[Z]at this;exact(A9 this).symm
    have D:(xs.map (D9 Ora.env)).length=n*wd:=by
     have:=F4 List.length V;rw[E7,yQ,ay]at this;exact this
    obtain⟨d,I⟩:=pO (wd:=wd) n (xs.map (D9 Ora.env)) D;obtain⟨g1,g2,g3,g4⟩:=oE I;refine⟨ρ2,d,new',F,M,O,B,⟨fun q=>by rw[g1];exact f1 q,fun q C=>by rw[g1];exact f3 q C,?_,?_,fun R hR=>oO (J R hR) I,fun c g rows t=>?_⟩,fun hs=>?_⟩
    .have:=(J (fun k=>w.heap[k]?) (fun b E l hl k o X=>by
      obtain⟨K,_⟩:=B b E;exact(F.hr.atl hl K).1.2 k o X)).1
     rw[<- this,D,g1]
    .exact EF (J (fun k=>w.heap[k]?) (fun b E l hl k o X=>by
      obtain⟨K,_⟩:=B b E;exact(F.hr.atl hl K).1.2 k o X))
    .show evU (.snoc wd) (Ora.env c::xs.map (D9 Ora.env))=_;rw[t];show(if wd=wd/\wd≠0 then(match i6 wd ((xs.map (D9 Ora.env)).length / wd) (xs.map (D9 Ora.env))with|some r=>mQ g wd rows r|none=>.none)else .none)=_;rw[B0 ⟨rfl,A2⟩,D,s9 _ S,I]
    .have:0<n:=A1 hs;intro he;subst he;simp at g1;omega
   .cases p
  .cases p
 .split at p
  .rename_i x b m2 Y;cases p;obtain⟨ρ2,l,F,M,O,B,V,J,e7⟩:=N.ok h Y hf Q hS;obtain⟨ax,f,d,K,q2⟩:=gL B V A2;have W:f=wd:=A2;subst W;have hG:=(F.hr.atl M O).1.2;rw[K]at B;have L:∀ c g rows,Ora.env c=.seq g f rows->evU (dR f (hole c (10+f)) (.rows x)).1 ((dR f (hole c (10+f)) (.rows x)).2.map (D9 Ora.env))=mQ g f rows d:=fun c g rows t=>by
    show evU (.cat f) [Ora.env c,D9 Ora.env x]=_;rw[t,K];simp[evU]
   have A:∀ b' ∈ [b],Hp.get m'.H b'=some .frz/\∃ l,ρ2 b'=some l:=fun b' G=>by
    rcases B4.1 G with rfl|G
    .exact⟨O,l,M⟩
    .cases G
   rcases y0 B with⟨rfl,rfl,rfl⟩|⟨rfl,a,c,rfl,t⟩
   .exact⟨ρ2,[],[],F,J,e7,A,⟨fun _=>rfl,fun _ _=>rfl,by simp,rfl,fun R _=>.nil,L⟩,fun h=>by cases h⟩
   .obtain⟨_,new',g1,g2,g3,g4⟩:=uQ (w:=w) B hG;refine⟨ρ2,d,new',F,J,e7,A,⟨fun _=>rfl,fun q C=>?_,g1,g2,fun R hR=>g3.mono (hR b (.head _) l M),L⟩,fun h=>by cases h⟩;rw[show Builtin.firstCells f d.length (.slice (some a) d.length c)=loadCells a (d.length*f)from rfl];exact lZ g1 fun j v' hj=>by rw[cC C];exact g4 j v' hj
  .cases p
 .obtain⟨h1,p⟩:=A3 p;obtain⟨h2,h3⟩:=B6 h1;have h4:=A0 h2;have h5:=A0 h3;cases p;subst h5;obtain⟨s,rfl,f1⟩:=o9 Q h4;refine⟨ρ,kC s,P8 s,St.refl h,.refl _,.refl,fun b E=>(by cases E),⟨fun _=>?_,fun q _=>?_,by simp[kC,P8],?_,fun R _=>KC s,fun c g rows t=>?_⟩,fun h=>by cases h⟩
  .rw[iF];rfl
  .rw[iF];have e:((ByteArray.extract ⟨⟨s⟩⟩ 0 s.length).data.map fun b=>Value.int .u8 b.toNat)=⟨P8 s⟩:=by
    rw[gX];apply J2;simp[P8]
   show(pure ((ByteArray.extract ⟨⟨s⟩⟩ 0 s.length).data.map fun b=>Value.int .u8 b.toNat):Sem W4).run P q=_;rw[e];rfl
  .refine D6.2 fun v hv=>?_
   unfold P8 at hv;obtain⟨b,_,rfl⟩:=I6.1 hv;rfl
  .show evU .cats [Ora.env c,D9 Ora.env y]=_;rw[t,f1];simp[evU]
end
end
section
open Go
variable [Ora]
section
variable {P:Program} {base:Nat} {ρ ρ':Ren} {m m':Mem} {w w':World}
def Sub.trans{A B C:Nat->Option Obj}(h:Sub A B)(k:Sub B C):Sub A C:=fun q o b=>k q o (h q o b)
structure A3w (P:Program) (base:Nat) (ρ:Ren) (m:Mem) (w:World) (e:TypeId) (wd c:Nat) (gs:List Nat) (old:Option Nat) (x':Value):Prop where
 ex:∃ nul rows,Ora.env c=.seq nul wd rows/\((nul=true/\rows=[]/\x'=.slice none 0 0/\(∀ b,old=some b->∃ ab l,b<=I2/\Hp.get m.H b=some ab/\ab.rw=true/\ρ b=some l/\l.on=false)) ∨
  (nul=false/\∃ b ab l cap C fz,old=some b/\b<=I2/\Hp.get m.H b=some ab/\ab.rw=true/\ρ b=some l/\l.on=true/\x'=.slice (some ⟨l.blk,l.sh,none⟩) rows.length cap/\w.heap[l.blk]? = some (.cells C e fz) /\
    rows.length<=cap/\l.sh+cap*wd<=C.size/\(∀ i,i<C.size->¬ (fz.1<=i/\i<fz.2))/\∀ R,(∀ b ∈ gs,∀ l,ρ b=some l->Sub l.G R)->P0 R rows wd C l.sh))
def NO{td:Td}(an:BI P td){e:TypeId}{wd c:Nat}{x x':Value}{gs:H6}{old:Option Nat}(h:HR P base ρ m.H w)(d:EY td P m e wd x=some (c,gs,old,m'))(hf:K4 ρ m.n m'.hi)(hx:VR ρ x x')(hS:Sat m'.lg)(aw:0<wd)(p:H4 P e=some wd) :
  ∃ ρ',St P base ρ ρ' m m' w w/\m.lg.le m'.lg/\n8 ρ m m'/\A3w P base ρ' m' w e wd c gs old x':=by
 unfold EY at d;split at d
 .rw[O0]at d;simp only[hole]at d;cases d;cases Q2 hx;obtain⟨q,e2,_⟩:=kM hS (.refl _);refine⟨ρ,St.wLg h _,W1,n8.lg _,⟨true,[],q,.inl ⟨rfl,rfl,rfl,fun b hb=>by cases hb⟩⟩⟩
 .rename_i b i tg;split at d
  .rename_i c0 tc T g S;obtain⟨h1,d⟩:=A3 d;obtain⟨h1,N⟩:=B6 h1;obtain⟨h1,h3⟩:=B6 h1;obtain⟨N,D⟩:=B6 N;have h1:=A0 h1;have h3:=A0 h3;have N:=A0 N;have D:=A1 D;cases d;subst N;obtain⟨Z,bz⟩:=gF hx;rcases Z with⟨l,ad,g1,g2,g3,rfl⟩|⟨l,ad,ae,g1,g2,g3,g4,br,rfl⟩
   .obtain⟨G,inf,q,e2,e3,f⟩:=SqR.ex (h.atl g1 S).1;rcases f with⟨_,f⟩|⟨f,_⟩
    .have:G=wd:=A2;subst this;refine⟨ρ,St.refl h,.refl _,.refl,⟨true,[],f,.inl ⟨rfl,rfl,rfl,fun b' aj=>?_⟩⟩⟩;cases aj;exact⟨_,l,D,S,rfl,g1,g2⟩
    .rw[g2]at f;cases f
   .obtain⟨G,inf,q,e2,e3,f⟩:=SqR.ex (h.atl g1 S).1;rcases f with⟨f,_⟩|⟨_,f⟩
    .rw[g2]at f;cases f
    .obtain⟨C,fz,T',rows,lg,f1,f2,f3,f4,f5,f6,f7,f8,f9⟩:=f;have:G=wd:=A2;subst this;obtain⟨rfl,f10⟩:=f9 rfl;exact⟨ρ,St.refl h,.refl _,.refl,⟨false,rows,f2,.inr ⟨rfl,b,_,l,l.cap,C,fz,rfl,D,S,rfl,g1,g2,by rw[f3],f1,A2,f5,f10,fun R hR=>⟨f6,fun r row j u v q1 q2 q3=>(f8 r row j u v q1 q2 q3).mono (hR g (.head _) lg f7)⟩⟩⟩⟩
  .cases d
 .rename_i b n c0;split at d
  .rename_i cs T0 bt ts S aq;obtain⟨hq,k⟩:=A3 d;obtain⟨ao,ah⟩:=B6 hq;have h1:=A0 ao;clear d;split at k
   .rename_i xs bu m1 hd;split at k
    .rename_i bs T W;obtain⟨I,F⟩:=A3 k;clear k;obtain⟨I,D⟩:=B6 I;have h3:=A0 I;have D:=A1 D;subst h3;rw[O0]at F;simp only[hole]at F;cases F;have ai:K4 ρ m.n m1.hi:=by simpa using hf
     have al:Sat m1.lg:=S2.le hS W1;obtain⟨l,cap,t,bx,aa,ax⟩:∃ l cap,ρ b=some l/\n<=cap/\(cap=n∨cap=l.cap)/\x'=.slice (some ⟨l.blk,0+l.sh,none⟩) n cap:=by
      rcases(J1 _ _).mp ah with y|y
      .obtain⟨K,J⟩:=B6 y;have K:=A0 K;have J:c0<N3:=A1 J;rcases P4 hx with⟨l,t,_,Q,rfl⟩|⟨l,c',t,_,ay,Y,V,rfl⟩|⟨a',c',_,_,y,_⟩
       .exact⟨l,c0,t,A2,.inl K,rfl⟩
       .omega
       .omega
      .have y:=A0 y;rcases P4 hx with⟨l,t,_,Q,rfl⟩|⟨l,c',t,_,ay,Y,V,rfl⟩|⟨a',c',_,_,J,_⟩
       .omega
       .exact⟨l,c',t,Y,.inr (V y rfl),rfl⟩
       .omega
     obtain⟨⟨ag,C,fz,T1,f1,f2,_⟩,_⟩:=h.atl t S;obtain⟨cs',f4,f5⟩:=eG (ρ:=ρ) (C:=C) (cs:=cs) (s:=l.sh) f2;obtain⟨af,q,e2,e3,f,e5,e6⟩:=iU an h hd ai f4 al;obtain⟨⟨_,C1,bw,T2,g1,g2,g3⟩,_⟩:=q.hr.atl (q.ext _ _ t) W;rw[f1]at g1;cases g1;obtain⟨rfl,g4,g5⟩:=g3 rfl;have E:=iY aq;rw[p]at E;have Q:ts.length=wd:=(A9 E).symm;have X:(xs.map (D9 Ora.env)).length=n*wd:=by
      have:=F4 List.length e5;rw[E7,yQ,Q]at this;exact this
     obtain⟨rows,O⟩:=pO (wd:=wd) n (xs.map (D9 Ora.env)) X;obtain⟨q1,q2,q3,q4⟩:=oE O;obtain⟨d1,d2,_⟩:=kM hS (.refl _);have y:Ora.env m1.lg.nx=.seq false wd rows:=by
      rw[d1];show(if wd=0 then U.none else match i6 wd ((xs.map (D9 Ora.env)).length / wd) (xs.map (D9 Ora.env))with|some r=>.seq false wd r|none=>.none)=_;rw[A8 A2,X,s9 _ aw,O]
     have ar:cs'.length=n*wd:=by rw[<- f4.1];exact h1
     obtain⟨inf,A,B⟩:∃ inf,P.info? T1=some inf/\inf.size=wd:=by
      unfold H4 at p;cases hi:P.info? T1 with
      | none=>rw[hi]at p;cases p
      | some inf=>rw[hi]at p;exact⟨inf,rfl,A9 p⟩
     have L:l.sh+cap*wd<=C.size:=by
      rcases aa with rfl|rfl
      .rcases T4 (cap*wd)with h0|h0
       .rw[h0]
        have:=g5 inf A;rw[B]at this;omega
       .have M:cap*wd-1<cs'.length:=A2
        have:=f5 (cap*wd-1) cs'[cap*wd-1] (A5 M)
        have:=(C9.1 this).1;omega
      .have:=g5 inf A;rw[B]at this;exact this.1
     have av:=St.wLg q.hr (fT m1 (10+wd) (.mk wd) xs);refine⟨af,St.trans (by simpa using hf) q av,e2.trans W1,fun j lj hj ak=>by rw[lC];exact e3 j lj hj ak,⟨false,rows,y,.inr ⟨rfl,b,_,l,cap,C,fz,rfl,D,by rw[lC];exact W,rfl,q.ext _ _ t,ag,by rw[ax,q1,F5],f1,A2,L,g4,fun R hR=>?_⟩⟩⟩;obtain⟨r1,r2⟩:=oO (e6 R hR) O;refine⟨r1,fun r row j u v a1 a2 a3=>r2 r row j u v a1 a2 ?_⟩;have hq:r*wd+j<cs'.length:=by
      have az:=(B3.1 a1).1;have au:=(B3.1 a2).1;rw[r1 _ (D0 a1)]at au;have N:(r+1)*wd<=rows.length*wd:=F9 wd az;rw[I1]at N;rw[ar,<- q1];omega
     have:=f5 (r*wd+j) cs'[r*wd+j] (A5 hq);rw[show l.sh+r*wd+j=l.sh+(r*wd+j) by omega,this]at a3;have a3:=A9 a3;show(Array.mk cs')[0+r*wd+j]? = some v;rw[J0,show 0+r*wd+j=r*wd+j by omega,A5 hq,a3]
    .cases k
   .cases k
  .cases d
 .cases d
end
end
end Go.Sx
