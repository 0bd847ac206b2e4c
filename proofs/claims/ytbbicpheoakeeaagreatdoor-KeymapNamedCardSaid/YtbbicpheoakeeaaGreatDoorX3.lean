import Derived.Test.YtbbicpheoakeeaaGreatDoorX2
set_option linter.all false
set_option maxRecDepth 100000
set_option maxHeartbeats 4000000
namespace Go.Sx
variable {op:LOp}{s ty:TypeId}{hi i j o tg:Nat}{i' z z':Value}{u:U}{kh kk kl:IntKind}{hi' lo lo' mx mx':P5}{hs r' vs vs' xs:C8}{tys:List TypeId}{a:Addr}{m1:Mem}{row us:List U}{ts:G5}{cl sure:Bool}
section
open Go
variable [Ora]
section
variable {P:Program} {base:Nat} {ρ:Ren} {m m':Mem} {w:World}
def pk(k:IntKind)(n:Int):H9 (.int k n)=true:=rfl
def TQ{op:UnOp}{x x' v:Value}(h:FO m op x=some (v,m'))(hx:VR ρ x x')(l:Sat m'.lg)(w:World):∃ r,(Op.unary op x').run P w=.ok r w/\VR ρ v r:=by
 unfold FO at h;simp only at h;split at h
 .obtain⟨h1,h⟩:=A3 h;obtain⟨b,rfl,e⟩:=fU hx (A0 h1);obtain⟨u,c,g,r,d,f,_⟩:=L3 h l;simp only[C3,F6,e,evU,ev1,unM,ofV]at c;subst c;cases d;exact⟨_,(KG (P:=P) (ρ:=ρ) (op:=.not) (x:=.bool b) (v:=.bool !b) rfl (.pure rfl) w).1,f ρ⟩
 .obtain⟨h1,h⟩:=A3 h;obtain⟨k,n,rfl,e,_⟩:=L6 hx (A1 h1);obtain⟨u,c,g,r,d,f,p⟩:=L3 h l;simp only[C3,F6,e,evU,ev1]at c;subst c;obtain⟨r',g1,g2⟩:=CS (by rw[g];exact p);rw[d]at g2;cases g2;exact⟨_,(KG (P:=P) (ρ:=ρ) g1 (.pure (pk k n)) w).1,f ρ⟩
def KN{t:TypeId}{x x' v:Value}(h:oK P m s t x=some (v,m'))(hx:VR ρ x x')(g:Sat m'.lg)(w:World):∃ r,(convert s t x').run P w=.ok r w/\VR ρ v r:=by
 unfold oK at h;split at h
 .rename_i j k hs c;obtain⟨h1,h⟩:=A3 h;obtain⟨y,n,rfl,e,_⟩:=L6 hx (A1 h1);obtain⟨u,d,p,r,f,l,q⟩:=L3 h g;simp only[C3,F6,e,evU]at d;subst d;cases f;exact⟨_,by simp[convert,A4,C7 hs,C7 c,Result.andThen,Conv.intToInt],l ρ⟩
 .rename_i hs c;obtain⟨h1,h⟩:=A3 h;cases h;obtain⟨b,rfl,e⟩:=g9 hx (A0 h1);exact⟨_,by simp[convert,A4,C7 hs,C7 c,Result.andThen],hx⟩
 .cases h
def gX{t:Nat}:∀ {cs:C8},Z9 t cs=true->∀ {i:Nat} {v:Value},cs[i]? = some v->G1 v=t
 | [],_,i,v,h=>by simp at h
 | c::r,hs,i,v,h=>by
   obtain⟨h1,b⟩:=B4 (show(Nat.beq (G1 c) t && Z9 t r)=true from hs);cases i with
   | zero=>simp at h;subst h;exact A0 h1
   | succ i=>exact gX b (by simpa using h)
def UE{t e:TypeId}{n:Nat}{cs:U9}{x' i v:Value}(hu:P.underlying t=some (.array n e))(C:u9 P e=some false)(f:G3 P e=some 1)(F:cs.toList.length=n)(l:Z9 tg cs.toList=true)(y:tg<10)
  (g:G1 i<8) (h:S5 m tg .sel (i::cs.toList)=some (v,m')) (hx:VR ρ (.agg cs) x') (hi:VR ρ i i') (A:Sat m'.lg) (w:World):∃ r,(Instr.index t x' i').run P w=.ok r w/\VR ρ v r:=by
 obtain⟨k,z,rfl,e,_⟩:=L6 hi g;obtain⟨u,c,D,r,d,B,E⟩:=L3 h A;simp only[C3,e]at c;cases z with
 | negSucc z=>simp only[evU]at c;subst c;cases d
 | ofNat z =>
   simp only[evU]at c;by_cases p:z<cs.toList.length
   .have b:cs.toList[z]? = some cs.toList[z]:=A5 p;have q:=gX l b;have hm:kN P t (.agg cs) (.int k (.ofNat z))=some cs.toList[z]:=by
     have x:Nat.blt z n=true:=C4 A2;simp only[kN,hu,f,x,D7,pD,C,Nat.mul_one];exact b
    obtain⟨v',g1,g2⟩:=rL (P:=P) hm hx (.pure rfl) w;obtain⟨f1,_⟩:=r9 g2 A2;have:u=D3 Ora.env cs.toList[z]:=by
     rw[<- c,B1,F9,b];rfl
    rw[this,f1]at d;cases d;exact⟨_,g1,B ρ⟩
   .rw[B1,S2 (by simp at p ⊢;omega)]at c;subst c;cases d
def zN{e:TypeId}(h:Nat.beq (Z8.sizeD P e) 1=true):G3 P e=some 1:=by
 have h:=A0 h;unfold Z8.sizeD at h;split at h
 .rename_i n b;rw[b,h]
 .cases h
def FS{t:TypeId}{x x' i v:Value}(h:Z8 P m t x i=some (v,m'))(hx:VR ρ x x')(hi:VR ρ i i')(p:Sat m'.lg)(w:World):∃ r,(Instr.index t x' i').run P w=.ok r w/\VR ρ v r:=by
 unfold Z8 at h;cases l:!(Nat.blt (G1 i) 8)with
 | true=>rw[l]at h;cases h
 | false =>
   have c:G1 i<8:=by
    have:Nat.blt (G1 i) 8=true:=by simpa using l
    exact A1 this
   rw[l]at h;simp only[D4]at h;split at h
   .rename_i hu;obtain⟨h1,h⟩:=A3 h;obtain⟨s,rfl,f1⟩:=g9 hx (A0 h1);obtain⟨k,z,rfl,f2,_⟩:=L6 hi c;obtain⟨u,d,A,r,g,y,B⟩:=L3 h p;simp only[C3,F6,f1,f2]at d;cases z with
    | negSucc z=>simp only[evU]at d;subst d;cases g
    | ofNat z =>
      simp only[evU]at d;split at d
      .rename_i b q;subst d;cases g;have hm:kN P t (.string ⟨⟨s⟩⟩) (.int k (.ofNat z))=some (.int .u8 b.toNat):=by
        simp only[kN,hu,q]
       obtain⟨v',g1,g2⟩:=rL (P:=P) (ρ:=ρ) hm (.pure rfl) (.pure rfl) w;cases I6 g2;exact⟨_,g1,y ρ⟩
      .subst d;cases g
   .rename_i n e hu;split at h
    .rename_i cs k he;obtain⟨h1,h⟩:=A3 h;obtain⟨h1,h3⟩:=B4 h1;obtain⟨h1,f⟩:=B4 h1;exact UE hu (by simp[u9,he]) (zN h3) (A0 h1) f (by have:=K7 k;omega) c h hx hi p w
    .rename_i cs he;obtain⟨h1,h⟩:=A3 h;obtain⟨h1,h3⟩:=B4 h1;obtain⟨h1,f⟩:=B4 h1;exact UE hu (by simp[u9,he]) (zN h3) (A0 h1) f A2 c h hx hi p w
    .cases h
   .cases h
def KQ{t:TypeId}(hu:P.underlying t=some .string){s:List UInt8}{l h:Int}{r:Value}(b:FV s l h=u)(c:toV u=some r):cE P t (.string ⟨⟨s⟩⟩) (some (.int kl l)) (some (.int kh h)) none=some r:=by
 unfold FV at b;split at b
 .rename_i l h;split at b
  .rename_i hh;subst b;cases c;have e:Nat.ble h (ByteArray.size ⟨⟨s⟩⟩)=true:=C4 hh.2;have d:Nat.ble l h=true:=C4 hh.1;simp only[cE,hu,S6,e,d,D7]
  .subst b;cases c
 .subst b;cases c
def FP{t:TypeId}{x x' v:Value}{hi:P5}(h:jQ P m t x lo hi mx=some (v,m'))(hx:VR ρ x x')(f:OR ρ lo lo')(g:OR ρ hi hi')(D:OR ρ mx mx')(F:Sat m'.lg)(w:World) :
  ∃ r,(Instr.sliceAt t x' lo' hi' mx').run P w=.ok r w/\VR ρ v r:=by
 have c:∀ {o:P5},OR ρ none o->o=none:=fun{o} h=>by cases o<;>first|rfl|exact h.elim
 have d:∀ {y:Value} {o:P5},OR ρ (some y) o->∃ H,o=some H/\VR ρ y H:=fun{y o} h=>by cases o<;>first|exact h.elim|exact⟨_,rfl,h⟩
 unfold jQ at h;split at h
 .rename_i hu;cases c D;obtain⟨h1,h⟩:=A3 h;obtain⟨s,rfl,f1⟩:=g9 hx (A0 h1);have B:∀ {y:Value},VR ρ (.string ⟨⟨s⟩⟩) y->y=.string ⟨⟨s⟩⟩:=fun h=>T5 h
  split at h
  .cases h;cases c f;cases c g;have hm:cE P t (.string ⟨⟨s⟩⟩) none none none=some (.string ⟨⟨s⟩⟩):=by
    have e:ByteArray.size ⟨⟨s⟩⟩=s.length:=rfl;simp[cE,hu,S6,e]
   obtain⟨v',g1,g2⟩:=fV (P:=P) (ρ:=ρ) (lo':=none) (hi':=none) (mx':=none) hm (.pure rfl) trivial trivial trivial w;cases T5 g2;exact⟨_,g1,hx⟩
  .obtain⟨p,h⟩:=A3 h;obtain⟨l',rfl,E⟩:=d f;cases c g;obtain⟨k,z,rfl,f2,_⟩:=L6 E (A1 p);obtain⟨u,n,G,r,l,A,I⟩:=L3 h F;simp only[C3,F6,f1,f2,evU]at n;have hm:=KQ (P:=P) (kl:=k) (kh:=.i64) hu n l;have q:cE P t (.string ⟨⟨s⟩⟩) (some (.int k z)) none none=some r:=by
    rw[<- hm];have e:ByteArray.size ⟨⟨s⟩⟩=s.length:=rfl;have b:Nat.ble s.length s.length=true:=C4 (A6 _);have C:((s.length:Nat):Int)=Int.ofNat s.length:=rfl;simp only[cE,hu,S6,e,C,b,D7]
   obtain⟨v',g1,g2⟩:=fV (P:=P) (ρ:=ρ) (lo':=some (.int k z)) (hi':=none) (mx':=none) q (.pure rfl) (VR.pure rfl:VR ρ _ _) trivial trivial w;have:VR ρ r v':=g2;have hp:=fR l;cases g2 with
   | pure _=>exact⟨_,g1,A ρ⟩
   | _=>simp[H9,ixp,Go.Sx.dat,Go.Sx.clp,Go.Sx.own,Go.Sx.dpt,Go.Sx.opt,Go.Sx.yv,Go.Sx.sdt]at hp
  .obtain⟨p,h⟩:=A3 h;obtain⟨J,rfl,hh⟩:=d g;cases c f;obtain⟨k,z,rfl,f2,_⟩:=L6 hh (A1 p);obtain⟨u,n,G,r,l,A,I⟩:=L3 h F;have f0:D3 Ora.env (.int .i64 0)=.int .i64 0:=rfl;simp only[C3,F6,f1,f2,f0,evU]at n;have hm:=KQ (P:=P) (kl:=.i64) (kh:=k) hu n l;have q:cE P t (.string ⟨⟨s⟩⟩) none (some (.int k z)) none=some r:=by
    rw[<- hm];have C:(0:Int)=Int.ofNat 0:=rfl;cases z with
    | negSucc z=>simp only[cE,hu,S6]
    | ofNat z =>
      have K:Nat.ble 0 z=true:=C4 (lJ _);simp only[cE,hu,S6,C];cases Nat.ble z (ByteArray.size ⟨⟨s⟩⟩)<;>simp[K]
   obtain⟨v',g1,g2⟩:=fV (P:=P) (ρ:=ρ) (lo':=none) (hi':=some (.int k z)) (mx':=none) q (.pure rfl) trivial (VR.pure rfl:VR ρ _ _) trivial w;have hp:=fR l;cases g2 with
   | pure _=>exact⟨_,g1,A ρ⟩
   | _=>simp[H9,ixp,Go.Sx.dat,Go.Sx.clp,Go.Sx.own,Go.Sx.dpt,Go.Sx.opt,Go.Sx.yv,Go.Sx.sdt]at hp
  .obtain⟨p,h⟩:=A3 h;obtain⟨p,h3⟩:=B4 p;obtain⟨J,rfl,hh⟩:=d g;obtain⟨l',rfl,E⟩:=d f;obtain⟨k,z,rfl,f2,_⟩:=L6 E (A1 p);obtain⟨j,y,rfl,f3,_⟩:=L6 hh (A1 h3);obtain⟨u,n,G,r,l,A,I⟩:=L3 h F;simp only[C3,F6,f1,f2,f3,evU]at n;have hm:=KQ (P:=P) (kl:=k) (kh:=j) hu n l;obtain⟨v',g1,g2⟩:=fV (P:=P) (ρ:=ρ) (lo':=some (.int k z)) (hi':=some (.int j y)) (mx':=none) hm (.pure rfl) (VR.pure rfl:VR ρ _ _) (VR.pure rfl:VR ρ _ _) trivial w;have hp:=fR l;cases g2 with
   | pure _=>exact⟨_,g1,A ρ⟩
   | _=>simp[H9,ixp,Go.Sx.dat,Go.Sx.clp,Go.Sx.own,Go.Sx.dpt,Go.Sx.opt,Go.Sx.yv,Go.Sx.sdt]at hp
 .cases h
def yP{b:Builtin}{ks:Array Bool}{v:Value}(hr:HR P base ρ m.H w)(h:dO P m b vs tys=some (v,m'))(hx:LR ρ vs vs')(p:Sat m'.lg) :
  ∃ s:Sem Value,builtin b ⟨tys⟩ ty ks ⟨vs'⟩=(do pure (.value (<- s)))/\∃ r,s.run P w=.ok r w/\VR ρ v r:=by
 unfold dO at h;split at h
 .obtain⟨x',r1,rfl,h1,g⟩:=hx.tail;cases g.nil_inv;split at h
  .rename_i hu;obtain⟨h3,h⟩:=A3 h;obtain⟨s,rfl,f1⟩:=g9 h1 (A0 h3);obtain⟨u,e,x,r,l,n,y⟩:=L3 h p;simp only[C3,F6,f1,evU]at e;subst e;cases l;rename_i t rest _ _;have hm:XF P m t (.string ⟨⟨s⟩⟩)=some (.int .i64 s.length):=by simp[XF,hu]
   obtain⟨g1,_⟩:=OW (ρ:=ρ) (ty:=ty) (tys:=rest) hr hm (.pure rfl);exact⟨_,rfl,_,g1,n ρ⟩
  .cases h
 .obtain⟨x',r1,rfl,h1,g⟩:=hx.tail;obtain⟨B,C,rfl,h3,q⟩:=g.tail;cases q.nil_inv;obtain⟨d,h⟩:=A3 h;obtain⟨d,f⟩:=B4 d;have d:=A1 d;have f:=A0 f;obtain⟨k,a,rfl,f1,A⟩:=L6 h1 d;obtain⟨j,c,rfl,f2,D⟩:=L6 h3 (f▸d);obtain⟨u,e,x,r,l,n,y⟩:=L3 h p;simp only[C3,F6,f1,f2,evU]at e;subst e;cases l;obtain⟨g1,_⟩:=OQ (P:=P) (ρ:=ρ) (ty:=ty) (tys:=⟨tys⟩) (vs:=[.int k a,.int j c]) rfl (.cons (.pure rfl) (.cons (.pure rfl) .nil)) w;exact⟨_,rfl,_,g1,n ρ⟩
 .obtain⟨x',r1,rfl,h1,g⟩:=hx.tail;obtain⟨B,C,rfl,h3,q⟩:=g.tail;cases q.nil_inv;obtain⟨d,h⟩:=A3 h;obtain⟨d,f⟩:=B4 d;have d:=A1 d;have f:=A0 f;obtain⟨k,a,rfl,f1,A⟩:=L6 h1 d;obtain⟨j,c,rfl,f2,D⟩:=L6 h3 (f▸d);obtain⟨u,e,x,r,l,n,y⟩:=L3 h p;simp only[C3,F6,f1,f2,evU]at e;subst e;cases l;obtain⟨g1,_⟩:=OO (P:=P) (ρ:=ρ) (ty:=ty) (tys:=⟨tys⟩) (vs:=[.int k a,.int j c]) rfl (.cons (.pure rfl) (.cons (.pure rfl) .nil)) w;exact⟨_,rfl,_,g1,n ρ⟩
 .cases h
def QR{v:Value}{k:IntKind}{n:Int}(h:D3 Ora.env v=.int k n):nT Ora.env v=some n:=by
 cases v with
 | complex k i t =>
   cases k with
   | f64 =>
     have h:Ora.env i=.int _ n:=h;simp only[nT,h]
   | f32=>cases h
 | int j n=>cases h;rfl
 | _=>cases h
def EN{v:Value}{n:Int}(h:nT Ora.env v=some n):∃ k,D3 Ora.env v=.int k n:=by
 cases v with
 | complex k i t =>
   cases k with
   | f64 =>
     simp only[nT]at h;split at h
     .rename_i k z he;cases h;exact⟨k,he⟩
     .cases h
   | f32=>cases h
 | int j n=>cases h;exact⟨j,rfl⟩
 | _=>cases h
def PK{s n:Nat}{i v:Value}(h:SH m a s n i=some (v,m'))(hi:VR ρ i i')(p:Sat m'.lg):v=ixp a s i n/\∃ k z,i'=.int k (.ofNat z)/\z<n/\nT Ora.env i=some (.ofNat z):=by
 unfold SH at h;cases d:!(Nat.blt (G1 i) 8)with
 | true=>rw[d]at h;cases h
 | false =>
   have e:G1 i<8:=by
    have:Nat.blt (G1 i) 8=true:=by simpa using d
    exact A1 this
   rw[d]at h;simp only[D4]at h;split at h
   .rename_i b H k W hh lg q;split at h
    .rename_i t g;cases h;obtain⟨u,l,A,r,c,x,_⟩:=L3 q (Q6.le p (eF g));have f:=lC (ρ:=ρ) g (x ρ) p;subst f;obtain⟨y,z,rfl,f1,_⟩:=L6 hi e;have f0:D3 Ora.env (.int .i64 (.ofNat n))=.int .i64 (.ofNat n):=rfl;simp only[C3,F6,f1,f0,evU]at l;subst l;have c:(decide (0<=z) && decide (z<Int.ofNat n))=true:=by
      have:=A8 c;exact Value.bool.inj this
     simp only[G4,decide_eq_true_eq]at c;cases z with
     | negSucc z=>exact absurd c.1 (by simp)
     | ofNat z=>exact⟨rfl,y,z,rfl,by have:=c.2;simpa using this,QR f1⟩
    .cases h
   .cases h
def yL{t:TypeId}{x x' i v:Value}(h:dL P m t x i=some (v,m'))(hx:VR ρ x x')(hi:VR ρ i i')(y:Sat m'.lg)(w:World):∃ r,(Instr.indexAt t x' i').run P w=.ok r w/\VR ρ v r:=by
 unfold dL at h;split at h
 .rename_i n e a hu;split at h
  .rename_i s hs d;obtain⟨rfl,k,z,rfl,f,he⟩:=PK h hi y;obtain⟨l,q,_,rfl⟩:=N6 hx;have g:Nat.blt z n=true:=C4 f;have hm:W5 P t (.pointer (some a)) (.int k (.ofNat z))=some (.pointer (some ⟨a.block,a.off+z*s,none⟩)):=by
    simp only[W5,hu,hs,d,g,D7,aO,E1]
   obtain⟨v',g1,g2⟩:=bS (P:=P) hm hx (.pure rfl) w;obtain⟨l2,b,_,rfl⟩:=N6 g2;have b:ρ a.block=some l2:=b;rw[q]at b;cases b;exact⟨_,g1,.ixp q d he f rfl⟩
  .cases h
 .rename_i e a n c hu;split at h
  .rename_i s hs d;cases p:Nat.beq c (L9+2)with
   | true=>rw[p]at h;cases h
   | false =>
     rw[p]at h;obtain⟨rfl,k,z,rfl,f,he⟩:=PK h hi y;have g:Nat.blt z n=true:=C4 f;have hm:W5 P t (.slice (some a) n c) (.int k (.ofNat z))=some (.pointer (some ⟨a.block,a.off+z*s,none⟩)):=by
      simp only[W5,hu,hs,d,g,D7,aO,E1]
     obtain⟨v',g1,g2⟩:=bS (P:=P) hm hx (.pure rfl) w;obtain⟨l2,b,_,rfl⟩:=N6 g2;have b:ρ a.block=some l2:=b;exact⟨_,g1,.ixp b d he f rfl⟩
  .cases h
 .cases h
def PM{s n:Nat}{i v':Value}(h:VR ρ (ixp a s i n) v'):∃ l z,ρ a.block=some l/\a.spot=none/\nT Ora.env i=some (.ofNat z)/\z<n/\v'=.pointer (some ⟨l.blk,a.off+z*s+l.sh,none⟩):=by
 generalize hx:ixp a s i n=x at h;cases h with
 | ixp h hs hi b hv =>
   simp only[ixp,Value.func.injEq,Y4,I8,Value.pointer.injEq,C9,Value.int.injEq,jD,true_and,and_true]at hx;obtain⟨rfl,rfl,rfl,rfl⟩:=hx;exact⟨_,_,h,hs,hi,b,hv⟩
 | pure hp=>subst hx;simp[ixp,H9]at hp
 | _=>simp[ixp,Go.Sx.dat,Go.Sx.clp,Go.Sx.own,Go.Sx.dpt,Go.Sx.opt,Go.Sx.yv,Go.Sx.sdt]at hx
def yN{x x' v:Value}(h:dN P m s x i=some (v,m'))(hx:VR ρ x x')(w:World):∃ r,(Instr.fieldAt s x' i).run P w=.ok r w/\VR ρ v r:=by
 unfold dN at h;split at h
 .rename_i a k j n;split at h
  .rename_i q hu;split at h
   .rename_i f d e;split at h
    .rename_i z c;cases h;obtain⟨l,y,h1,p,h3,g,rfl⟩:=PM (n:=n) (s:=k) (i:=j) hx;have hm:bT P s (.pointer (some ⟨a.block,a.off+y*k,none⟩)) i=some (.pointer (some ⟨a.block,a.off+y*k+f.offset,none⟩)):=by
      simp only[bT,hu,d,c,aO,E1]
     obtain⟨v',g1,g2⟩:=kT (P:=P) (ρ:=ρ) hm (.ptr h1) w;obtain⟨l2,b,_,rfl⟩:=N6 g2;have b:ρ a.block=some l2:=b;rw[h1]at b;cases b;refine⟨_,g1,?_⟩;simp only[aO,E1];refine .ixp (a:=⟨a.block,a.off+f.offset,none⟩) h1 rfl h3 g ?_;simp only[Value.pointer.injEq,C9,Addr.mk.injEq,true_and,and_true];omega
    .cases h
   .cases h
  .cases h
 .cases h
def sI{cs:C8}{s:Nat}:∀ {n o:Nat} {l:C8},uF cs s o n=some l->l.length=n/\∀ z,z<n->cs[o+z*s]? = l[z]?
 | 0,o,l,h=>by cases h;exact⟨rfl,fun z c=>by omega⟩
 | n+1,o,l,h=>by
   unfold uF at h;split at h
   .rename_i v r hv hr;cases h;obtain⟨h1,b⟩:=sI hr;refine⟨by simp[h1],fun z c=>?_⟩;cases z with
    | zero=>simpa using hv
    | succ z =>
      have:=b z A2;rw[Nat.succ_mul,show o+(z*s+s)=o+s+z*s by omega]
      simpa using this
   .cases h
def sJ{cs cs':C8}{s n:Nat}{i:Value}{z:Nat}(he:nT Ora.env i=some (.ofNat z))(g:z<n)(B:LR ρ cs cs'):∀ {k o:Nat} {m m':Mem} {r:C8},bN m cs s n i o k=some (r,m')->Sat m'.lg ->
  LR ρ r ((cs'.drop (o+z*s)).take k)/\r.length=k
 | 0,o,m,m',r,h,hS=>by cases h;exact⟨by simpa using LR.nil,rfl⟩
 | k+1,o,m,m',r,h,hS=>by
   unfold bN at h;split at h
   .rename_i v l d;obtain⟨q,h⟩:=A3 h;obtain⟨q,e⟩:=B4 q;have e:G1 v<10:=A1 e;split at h
    .rename_i hh m1 h1;split at h
     .rename_i I m2 x;cases h;obtain⟨t,p⟩:=sJ he g B x hS;obtain⟨u,f,G,D,A,E,_⟩:=L3 h1 (Q6.le hS (eR x).1);obtain⟨g1,g2⟩:=sI d;have b:=g2 z g;have c:z<(v::l).length:=by rw[g1];exact g
      rw[A5 c]at b;obtain⟨F,f1,f2⟩:=B.get b;have y:=gX q (A5 c);obtain⟨t1,_⟩:=r9 f2 A2;obtain⟨H,C⟩:=EN he;simp only[C3,C,evU]at f;have f:u=D3 Ora.env (v::l)[z]:=by
       rw[<- f];show(List.map (D3 Ora.env) (v::l)).getD z .none=_;rw[B1,F9,A5 c];rfl
      rw[f,t1]at A;cases A;refine⟨?_,by simp[p]⟩;have:(cs'.drop (o+z*s)).take (k+1)=D::(cs'.drop (o+1+z*s)).take k:=by
       rw[Z1 (B0.1 f1).1,List.take_succ_cons,(B0.1 f1).2,show o+z*s+1=o+1+z*s by omega]
      rw[this];exact .cons (E ρ) t
     .cases h
    .cases h
   .cases h
def OT{t:TypeId}{l:Loc}{z s n k:Nat}{i:Value}{cs:C8}(h:HR P base ρ m.H w)(hr:m9 m a ((n-1)*s+k)=some cs)(f:ρ a.block=some l)(he:nT Ora.env i=some (.ofNat z))(e:z<n)(d:bN m cs s n i 0 k=some (hs,m'))(g:Sat m'.lg) :
  ∃ rs,LR ρ hs rs/\rs.length=k/\∀ (j:Nat) (v':Value),rs[j]? = some v'->w.cell? ⟨l.blk,a.off+z*s+l.sh+j,none⟩=some v':=by
 obtain⟨r',h1,p,h3⟩:=Y5 h hr f;obtain⟨g1,g2⟩:=sJ he e h1 d g;rw[E9]at g1;refine⟨_,g1,g1.1▸g2,fun j v' c=>?_⟩;have b:j<k:=by
  have:=(B0.1 c).1;simp at this;omega
 rw[F2 b,H5]at c
 have:=h3 _ v' c;rw[show a.off+z*s+l.sh+j=a.off+l.sh+(z*s+j) by omega];exact this
def KL{t:TypeId}{x x' v:Value}(h:HR P base ρ m.H w)(b:oJ P m t x=some (v,m'))(hx:VR ρ x x')(e:Sat m'.lg):∃ r,(Instr.loadAt t x').run P w=.ok r w/\VR ρ v r:=by
 unfold oJ at b;split at b
 .rename_i a s i n;obtain⟨l,z,h1,p,h3,f,rfl⟩:=PM (n:=n) (s:=s) (i:=i) hx;split at b
  .rename_i d;split at b
   .rename_i cs hr;split at b
    .rename_i hh m2 c;cases b;obtain⟨rs,g1,g2,g3⟩:=OT (t:=t) h hr h1 h3 f c e;obtain⟨v',A,rfl,k,q⟩:=g1.tail;refine⟨v',?_,k⟩
     have:=g3 0 v' rfl;simp[Instr.loadAt,Instr.sureAddr,loadVar,A4,bG d,Result.andThen,run_load,show w.cell? ⟨l.blk,a.off+z*s+l.sh,none⟩=some v' from by simpa using this]
    .cases b
   .cases b
  .rename_i y d g;split at b
   .rename_i cs hr;split at b
    .rename_i hh m2 c;cases b;obtain⟨rs,g1,g2,g3⟩:=OT (t:=t) h hr h1 h3 f c e;refine⟨.agg ⟨rs⟩,?_,.agg g1.1 g1.2⟩;simp[Instr.loadAt,Instr.sureAddr,loadVar,A4,bG d,K1 g,Result.andThen,J7 g2 g3]
    .cases b
   .cases b
  .cases b
 .cases b
def A05{fr:Fr}{g:Operand->Value}{o:Oper}{v:Value}(h:HR P base ρ m.H w)(f:TS P fr m o.op=some (v,m'))(C:FR ρ fr g o.op)(l:Sat m'.lg):NOk P base ρ m w (execOp g o) v m':=by
 obtain⟨_,lg,rfl⟩:=NK f;have q:St P base ρ ρ m (m.wLg lg) w w:=St.wLg h lg;obtain⟨dst,op,ty,pos,I,F⟩:=o;simp only at f C;have d:∀ {x},x ∈ op.operands.toList->VR ρ (ev fr x) (g x):=fun hx=>C _ hx
 have fin:∀ {s:Sem Value},(∃ r,s.run P w=.ok r w/\VR ρ v r)->NOk P base ρ m w (do pure (.value (<- s))) v (m.wLg lg):=fun{s} ⟨r,h1,D⟩=>NOk.of ⟨r,ρ,w,h1,D,q⟩
 unfold TS at f;split at f
 .rename_i c a b;have B:=d (x:=c) (by simp[Op.operands]);unfold uE at f;obtain⟨H,n,W,hi,l0⟩:=m;simp only at f;split at f
  .rename_i l1 A;simp only[C9,L1]at f;obtain⟨rfl,f⟩:=f;have p:Sat l1:=by
    have:l1=(Mem.wLg ⟨H,n,W,hi,l0⟩ lg).lg:=by rw[<- f]
    rw[this];exact l
   have:=lC A B p;exact⟨g a,ρ,w,.inl (by simp[execOp,this,asBool]),d (by simp[Op.operands]),q⟩
  .rename_i l1 A;simp only[C9,L1]at f;obtain⟨rfl,f⟩:=f;have p:Sat l1:=by
    have:l1=(Mem.wLg ⟨H,n,W,hi,l0⟩ lg).lg:=by rw[<- f]
    rw[this];exact l
   have:=lC A B p;exact⟨g b,ρ,w,.inl (by simp[execOp,this,asBool]),d (by simp[Op.operands]),q⟩
  .cases f
 .rename_i op t x y K;have hx:=d (x:=x) (by simp[Op.operands]);have k:=d (x:=y) (by simp[Op.operands]);refine fin (s:=do eqGuard op t x y (g x) (g y);binOp op t (g x) (g y)) ?_;split at f
  .rename_i r hr;cases f;exact QY hr hx k l w
  .rename_i hr;exact TT f hx k hr l w
 .rename_i op t x;exact fin (s:=Op.unary op (g x)) (TQ f (d (by simp[Op.operands])) l w)
 .exact fin (KN f (d (by simp[Op.operands])) l w)
 .rename_i t x lo hi mx;exact fin (s:=Instr.sliceAt t (g x) (lo.map g) (hi.map g) (mx.map g)) (FP f (d (x:=x) (by simp[Op.operands])) (iC (g:=g) fun y k=>d (by simp[Op.operands]at k ⊢;exact .inr (.inl k))) (iC (g:=g) fun y k=>d (by simp[Op.operands]at k ⊢;exact .inr (.inr (.inl k)))) (iC (g:=g) fun y k=>d (by simp[Op.operands]at k ⊢;exact .inr (.inr (.inr k)))) l w)
 .exact fin (FS f (d (by simp[Op.operands])) (d (by simp[Op.operands])) l w)
 .exact fin (yL f (d (by simp[Op.operands])) (d (by simp[Op.operands])) l w)
 .exact fin (yN f (d (by simp[Op.operands])) w)
 .rename_i t x;exact fin (s:=Instr.loadAt t (g x)) (KL h f (d (by simp[Op.operands])) l)
 .rename_i b xs tys;have l1:=cG (ρ:=ρ) (fr:=fr) (g:=g) (xs:=xs.toList) fun x hx=>d (by show x ∈ (#[]++xs:Array Operand).toList;simpa using hx)
  obtain⟨ks,E⟩:∃ ks,execOp g ⟨dst,.call ⟨.builtin b,xs,tys⟩,ty,pos,I,F⟩=builtin b tys ty ks (xs.map g):=⟨_,rfl⟩;obtain⟨s,e,hs⟩:=yP (ty:=ty) (ks:=ks) h f l1 l;have J:xs.map g=⟨xs.toList.map g⟩:=by apply I3;simp
  rw[E,J];have G:tys=⟨tys.toList⟩:=rfl;rw[G,e];exact fin hs
 .cases f
end
end
section
open Go
variable [Ora]
section
variable {P:Program} {base:Nat} {ρ ρ':Ren} {m m':Mem} {w w':World}
def J6.step(d:J6 ρ m.n hi)(st:St P base ρ ρ' m m1 w w'):J6 ρ' m1.n hi:=fun b h1 e=>by
 cases c:ρ' b with
 | none=>rfl
 | some l =>
   cases h0:ρ b with
   | some l0=>rw[d b (B9 st.nle h1) e]at h0;cases h0
   | none=>have:=(st.new b l c h0).2;omega
def J6.less{n hi':Nat}(c:J6 ρ n hi)(h:hi'<=hi):J6 ρ n hi':=fun b h1 d=>c b h1 (D1 d h)
def eL(m:Mem)(t:Nat)(op:LOp)(xs:List Value):Lg:=⟨m.lg.nx+1,m.lg.pi,.dt m.lg.nx t op xs::m.lg.log⟩
def M8{t:Nat}{k:Nat->Mem->Res}:tU m t op xs k=k m.lg.nx (m.wLg (eL m t op xs)):=by
 obtain⟨H,n,W,hi,⟨nx,pi,log⟩⟩:=m;simp only[tU,E1,H6];rfl
def HS{t:Nat}{k:Nat->Mem->Option (C8×Mem)}:W7.letDo t op xs m k=k m.lg.nx (m.wLg (eL m t op xs)):=by
 obtain⟨H,n,W,hi,⟨nx,pi,log⟩⟩:=m;simp only[W7.letDo,E1,H6];rfl
@[simp] theorem Z2(lg:Lg):(m.wLg lg).lg=lg:=by cases m;rfl
@[simp] theorem jN(lg:Lg):(m.wLg lg).H=m.H:=by cases m;rfl
@[simp] theorem TD(lg:Lg):(m.wLg lg).n=m.n:=by cases m;rfl
@[simp] theorem KE(lg:Lg):(m.wLg lg).hi=m.hi:=by cases m;rfl
@[simp] theorem A95(lg:Lg):(m.wLg lg).W=m.W:=by cases m;rfl
def U6{t:Nat} :m.lg.le (m.wLg (eL m t op xs)).lg:=by
 rw[Z2];exact⟨[_],rfl⟩
def iX{t:Nat}{lg:Lg}(e:Sat lg)(d:(m.wLg (eL m t op xs)).lg.le lg):Ora.env m.lg.nx=evU op (xs.map (D3 Ora.env))/\F7 (Ora.env m.lg.nx)=t/\∃ b wd rows,Ora.env m.lg.nx=.seq b wd rows/\t=10+wd:=by
 obtain⟨h1,c,b,wd,rows,h3⟩:=e _ (d.subset (by rw[Z2];exact B2));exact⟨h1,c,b,wd,rows,h3,by rw[<- c,h3];rfl⟩
def cW{b:Nat}(h:nK m b=true):Hp.get m.H b=some .frz:=by
 unfold nK at h;split at h
 .assumption
 .cases h
def PS{b:Nat}(h:nK m b=true):b<=H3:=by
 unfold nK at h;split at h
 .exact A1 h
 .cases h
def YY{b:Nat}(hr:HR P base ρ m.H w)(h:nK m b=true):∃ l,ρ b=some l:=by
 obtain⟨l,h1,_⟩:=hr.at_ b (PS h) _ (cW h);exact⟨l,h1⟩
def P7{k:Nat->Mem->Option (Value×Nat×Mem)}{r:Value×Nat×Mem}(h:fJ m k=some r):∃ m1,Y0 m .frz (fun _=>undef)=some (undef,m1)/\k m.n m1=some r/\m1.H=m.H.set m.n (some .frz)/\m.n<=H3/\m1.lg=m.lg:=by
 obtain⟨H,n,W,hi,lg⟩:=m;simp only[fJ,E1,dR]at h;obtain⟨h1,b⟩:=A3 h;refine⟨_,?_,b,rfl,A1 h1,rfl⟩;simp only[Y0,E1,dR,h1,D7]
def jH(G:Nat->Option Obj):Loc:=⟨0,0,0,0,G,false⟩
def St.region{G:Nat->Option Obj}(h:HR P base ρ m.H w)(g:Y0 m .frz (fun _=>undef)=some (undef,m1))(t:J6 ρ m.n m1.hi)
  (d:∀ k o,G k=some o->w.heap[k]? = some o/\∃ id ab l,id<=H3/\Hp.get m.H id=some ab/\ρ id=some l/\Tf ab l k/\ab.rw=false) :
  upd ρ m.n (jH G) m.n=some (jH G)/\Hp.get m1.H m.n=some .frz/\St P base ρ (upd ρ m.n (jH G)) m m1 w w:=by
 obtain⟨h1,r,h3⟩:=St.new0 (l':=jH G) h g t ⟨rfl,fun k o v=>(d k o v).1⟩ rfl fun q b=>by
  rcases b with⟨b,_⟩|⟨_,o,b⟩
  .cases b
  .obtain⟨g1,id,ab,l,g2,g3,g4,g5,g6⟩:=d q o b;refine⟨⟨id,ab,l,g2,g3,g4,g5⟩,fun p f a l2 c x hr y e=>?_⟩
   have:=((h.atl x c).2 hr y).2 id g2 ab l g3 g4 (e▸g5.2);subst this;rw[g3]at c;have c:=A8 c;subst c;rw[g6]at hr;cases hr
 refine⟨r,?_,h3⟩;obtain⟨hle,_,rfl⟩:=K6 g;show Hp.get (m.H.set m.n (some .frz)) m.n=_;rw[E6 _ _ _ _ hle hle,A9 rfl]
theorem mC{b i t:Nat}{v':Value}(h:VR ρ (dat b i t) v'):∃ l,ρ b=some l/\Enc l.G (Ora.env i) v'/\F7 (Ora.env i)=t/\10<=t:=by
 generalize hx:dat b i t=x at h;cases h with
 | dat h he d c e =>
   simp only[dat,Value.func.injEq,Y4,I8,Value.pointer.injEq,C9,Addr.mk.injEq,Value.complex.injEq,true_and,and_true]at hx;obtain⟨rfl,rfl,rfl⟩:=hx;exact⟨_,h,he,d,c⟩
 | pure hp=>subst hx;simp[dat,H9]at hp
 | _=>simp[ixp,Go.Sx.dat,Go.Sx.clp,Go.Sx.own,Go.Sx.dpt,Go.Sx.opt,Go.Sx.yv,Go.Sx.sdt]at hx
theorem eV{b i t:Nat}{v':Value}(h:VR ρ (clp b i t) v'):∃ l,ρ b=some l/\Enc l.G (Ora.env i) v'/\F7 (Ora.env i)=t/\10<=t/\A0N v':=by
 generalize hx:clp b i t=x at h;cases h with
 | clp h he e c f d =>
   simp only[clp,Value.func.injEq,Y4,I8,Value.pointer.injEq,C9,Addr.mk.injEq,Value.complex.injEq,true_and,and_true]at hx;obtain⟨rfl,rfl,rfl⟩:=hx;exact⟨_,h,he,e,c,d⟩
 | pure hp=>subst hx;simp[clp,H9]at hp
 | _=>simp[ixp,Go.Sx.dat,Go.Sx.clp,Go.Sx.own,Go.Sx.dpt,Go.Sx.opt,Go.Sx.yv,Go.Sx.sdt]at hx
theorem eU{b i t:Nat}{v':Value}(h:VR ρ (own b i t) v'):WE ρ b (Ora.env i) v'/\F7 (Ora.env i)=t:=by
 generalize hx:own b i t=x at h;cases h with
 | own h c d =>
   simp only[own,Value.func.injEq,Y4,I8,Value.pointer.injEq,C9,Addr.mk.injEq,Value.complex.injEq,true_and,and_true]at hx;obtain⟨rfl,rfl,rfl⟩:=hx;exact⟨h,c⟩
 | pure hp=>subst hx;simp[own,H9]at hp
 | _=>simp[ixp,Go.Sx.dat,Go.Sx.clp,Go.Sx.own,Go.Sx.dpt,Go.Sx.opt,Go.Sx.yv,Go.Sx.sdt]at hx
def DJ{b t:Nat}{v':Value}(h:VR ρ (dpt b i t z o) v'):A7V ρ b (Ora.env i) (nT Ora.env z) o v'/\F7 (Ora.env i)=t:=by
 generalize hx:dpt b i t z o=x at h;cases h with
 | dpt h c d =>
   simp only[dpt,Value.func.injEq,Y4,I8,Value.pointer.injEq,C9,Addr.mk.injEq,Value.complex.injEq,Value.int.injEq,jD,true_and,and_true]at hx;obtain⟨rfl,⟨rfl,rfl⟩,rfl,rfl⟩:=hx;exact⟨h,c⟩
 | pure hp=>subst hx;simp[dpt,H9]at hp
 | _=>simp[ixp,Go.Sx.dat,Go.Sx.clp,Go.Sx.own,Go.Sx.dpt,Go.Sx.opt,Go.Sx.yv,Go.Sx.sdt]at hx
def uJ{b t:Nat}{v':Value}(h:VR ρ (opt b i t z o) v'):A6f ρ b (Ora.env i) (nT Ora.env z) o v'/\F7 (Ora.env i)=t:=by
 generalize hx:opt b i t z o=x at h;cases h with
 | opt h c d =>
   simp only[opt,Value.func.injEq,Y4,I8,Value.pointer.injEq,C9,Addr.mk.injEq,Value.complex.injEq,Value.int.injEq,jD,true_and,and_true]at hx;obtain⟨rfl,⟨rfl,rfl⟩,rfl,rfl⟩:=hx;exact⟨h,c⟩
 | pure hp=>subst hx;simp[opt,H9]at hp
 | _=>simp[ixp,Go.Sx.dat,Go.Sx.clp,Go.Sx.own,Go.Sx.dpt,Go.Sx.opt,Go.Sx.yv,Go.Sx.sdt]at hx
def AS{b c tc g t:Nat}{T:TypeId}{v':Value}(h:HR P base ρ m.H w)(J:Hp.get m.H b=some (.sq c tc T g true))(hv:VR ρ (own b i t) v')(x:tc=t)(D:Hp.get m.H g=some .frz)
  (O:Y0 m .frz (fun _=>undef)=some (undef,m1)) (N:J6 ρ m.n m1.hi):∃ l,St P base ρ (upd ρ m.n l) m m1 w w/\upd ρ m.n l m.n=some l/\Hp.get m1.H m.n=some .frz/\Enc l.G (Ora.env c) v'/\F7 (Ora.env c)=t:=by
 obtain⟨y,M⟩:=eU hv;rcases y with⟨l,wd,h1,E,h3,rfl⟩|⟨l,wd,rows,h1,E,h3,Y,V,rfl⟩
 .obtain⟨q,_⟩:=h.atl h1 J;obtain⟨B,inf,K,S,W,d⟩:=SqR.ex q;rcases d with⟨_,d⟩|⟨d,_⟩
  .obtain⟨g1,g2,g3⟩:=St.region (G:=fun _=>none) h O N (fun k o f=>by cases f);exact⟨_,g3,g1,g2,by rw[d];exact .nil,by rw[d,<- x,K];rfl⟩
  .rw[E]at d;cases d
 .obtain⟨q,_⟩:=h.atl h1 J;obtain⟨B,inf,K,S,W,d⟩:=SqR.ex q;rcases d with⟨d,_⟩|⟨_,d⟩
  .rw[E]at d;cases d
  .obtain⟨C,fz,L,F,lg,f1,f2,f3,f4,f5,f6,f7,f8,f9⟩:=d;obtain⟨I,_⟩:=h.atl f7 D;have p:∀ k o,lg.G k=some o->w.heap[k]? = some o:=I.2;let G:Nat->Option Obj:=fun k=>if k=l.blk then some (.cells C L fz)else lg.G k
   have A:∀ k o,lg.G k=some o->G k=some o:=fun k o f=>by
    show(if k=l.blk then _ else _)=_;by_cases e:k=l.blk
    .subst e;rw[A9 rfl]
     have:=p _ _ f;rw[f1]at this;exact this
    .rw[A7 e];exact f
   obtain⟨g1,g2,g3⟩:=St.region (G:=G) h O N fun k o f=>by
    have f:(if k=l.blk then some (.cells C L fz)else lg.G k)=some o:=f;by_cases e:k=l.blk
    .subst e;rw[A9 rfl]at f;exact⟨by rw[f1];exact f,b,_,l,h.dom _ _ h1,J,h1,⟨rfl,.inl ⟨rfl,E,rfl⟩⟩,rfl⟩
    .rw[A7 e]at f;exact⟨p _ _ f,g,_,lg,h.dom _ _ f7,D,f7,⟨rfl,.inr ⟨rfl,o,f⟩⟩,rfl⟩
   refine⟨_,g3,g1,g2,?_,by rw[f2,<- x,K];rfl⟩;rw[f2,<- f3];refine .sl (G:=G) (C:=C) (T:=L) (fz:=fz) A2 (fun _=>?_) (fun _=>?_) f6 fun r row j u v Q X R=>(f8 r row j u v Q X R).mono A
   .show(if l.blk=l.blk then _ else _)=_;rw[A9 rfl]
   .have:=F3 B f4;rw[<- f3]at this;omega
def BR.thaw{c t g:Nat}{T:TypeId}{l:Loc}(h:BR P ρ (.sq c t T g false) l w):BR P ρ (.sq c t T g true) l w:=by
 obtain⟨wd,inf,h1,b,h3,e⟩:=SqR.ex h;refine⟨⟨wd,inf,h1,b,h3,e.imp (fun x=>x) fun⟨f,d⟩=>⟨f,?_⟩⟩⟩;obtain⟨C,fz,p,rows,lg,h1,b,h3,e,d,n,k,q,r⟩:=d;exact⟨C,fz,p,rows,lg,h1,b,h3,e,d,n,k,q,fun h=>by cases h⟩
def vH{id:Nat}{ab:AB}(h:bM m id ab=some m')(b:j<=H3):Hp.get m'.H j=if j=id then some ab else Hp.get m.H j:=by
 obtain⟨hle,rfl⟩:=T4 h;exact E6 _ _ _ _ hle b
def kC{ab:AB}{k:Nat->Value}{v:Value}(h:Y0 m ab k=some (v,m'))(b:j<=H3):Hp.get m'.H j=if j=m.n then some ab else Hp.get m.H j:=by
 obtain⟨hle,_,rfl⟩:=K6 h;exact E6 _ _ _ _ hle b
def CB{t:Nat}{v v' x:Value}{b:Nat}(h:HR P base ρ m.H w)(d:toD t v m=some (x,b,m'))(K:J6 ρ m.n m'.hi)(hv:VR ρ v v')(hS:Sat m'.lg) :
  ∃ ρ' l,St P base ρ ρ' m m' w w/\ρ' b=some l/\Hp.get m'.H b=some .frz/\Enc l.G (D3 Ora.env x) v'/\F7 (D3 Ora.env x)=t/\m.lg.le m'.lg:=by
 unfold toD at d;split at d
 .rename_i L i tg;obtain⟨h1,f⟩:=A3 d;cases f;obtain⟨h1,f⟩:=B4 h1;have h1:=A0 h1;obtain⟨l,y,r,B,O⟩:=mC hv;exact⟨ρ,l,St.refl h,y,cW f,r,B.trans h1,.refl _⟩
 .rename_i L i tg;obtain⟨h1,f⟩:=A3 d;cases f;obtain⟨h1,f⟩:=B4 h1;have h1:=A0 h1;obtain⟨l,y,r,B,O,_⟩:=eV hv;exact⟨ρ,l,St.refl h,y,cW f,r,B.trans h1,.refl _⟩
 .rename_i L i tg;split at d
  .rename_i c tc T g D;obtain⟨h1,f⟩:=A3 d;obtain⟨h1,h3⟩:=B4 h1;obtain⟨h1,C⟩:=B4 h1;have h1:=A0 h1;have C:=A0 C;obtain⟨m1,F,N,_,_,J⟩:=P7 f;cases N;subst h1;obtain⟨l,y,r,B,O,V⟩:=AS h D hv C (cW h3) F K;exact⟨_,l,y,r,B,O,V,by rw[J];exact .refl _⟩
  .rename_i c tc T g D;obtain⟨h1,f⟩:=A3 d;obtain⟨h1,h3⟩:=B4 h1;have S:=PS h3;obtain⟨h1,C⟩:=B4 h1;have h1:=A0 h1;have C:=A0 C;split at f
   .rename_i m1 hs;obtain⟨m2,F,N,_,_,J⟩:=P7 f;cases N;subst h1;have Q:∃ l0,ρ L=some l0:=by
     rcases(eU hv).1 with⟨l,_,h1,_⟩|⟨l,_,_,h1,_⟩<;>exact⟨l,h1⟩
    obtain⟨l0,E⟩:=Q;have W:=(h.atl E D).1;have p:=St.same0 h hs D rfl E W.thaw (fun q Z=>by
     rcases Z with⟨_,a,b⟩|⟨a,_⟩
     .exact .inl ⟨rfl,a,b⟩
     .cases a)
    have hle:=(T4 hs).1;have X:g≠L:=fun e=>by subst e;rw[cW h3]at D;cases D
    have Y:Hp.get m1.H L=some (.sq c tc T g true):=by rw[vH hs hle,A9 rfl]
    have I:Hp.get m1.H g=some .frz:=by rw[vH hs S,A7 X];exact cW h3
    have R:m1.n=m.n:=by rw[(T4 hs).2]
    obtain⟨l,y,r,B,O,V⟩:=AS p.hr Y hv C I F (by rw[R];exact K);refine⟨_,l,St.trans K p y,r,B,O,V,by rw[J,(T4 hs).2];exact .refl _⟩
   .cases f
  .cases d
 .obtain⟨M,d⟩:=A3 d;have M:=A1 M;rw[M8]at d;simp only at d;obtain⟨m1,F,N,_,_,J⟩:=P7 d;cases N;cases O6 hv;have A:(m.wLg (eL m t (.nilw (t-10)) [])).lg.le m'.lg:=by rw[J];exact .refl _
  obtain⟨y,r,_⟩:=iX hS A;have p:=St.wLg h (eL m t (.nilw (t-10)) []);obtain⟨g1,g2,g3⟩:=St.region (G:=fun _=>none) p.hr F (by simpa using K) (fun k o hk=>by cases hk);refine⟨_,_,St.trans (by simpa using K) p g3,g1,g2,?_,r,U6.trans A⟩;show Enc _ (Ora.env m.lg.nx) _;rw[y];exact .nil
 .cases d
end
end
section
open Go
variable [Ora]
section
variable {P:Program} {base:Nat} {ρ ρ':Ren} {m m':Mem} {w w':World}
def e9(ρ:Ren)(m m':Mem):Prop:=∀ j l,ρ j=some l->Hp.get m.H j=some .frz->Hp.get m'.H j=some .frz
def e9.refl:e9 ρ m m:=fun _ _ _ h=>h
def e9.trans(he:∀ b l,ρ b=some l->ρ' b=some l)(a:e9 ρ m m1)(c:e9 ρ' m1 m'):e9 ρ m m':=fun j l h1 d=>c j l (he j l h1) (a j l h1 d)
def e9.lg(lg:Lg):e9 ρ m (m.wLg lg):=fun j l _ h=>by rw[jN];exact h
def HX{ab:AB}{k:Nat->Value}{v:Value}(h:HR P base ρ m.H w)(b:Y0 m ab k=some (v,m'))(c:J6 ρ m.n m'.hi):e9 ρ m m':=fun j l h1 d=>by
 rw[kC b (h.dom j l h1),A7]
 .exact d
 .intro e;subst e;obtain⟨_,_,rfl⟩:=K6 b;rw[c m.n (A6 _) (K2 _ _).2]at h1;cases h1
def XP{ab:AB}{id:Nat}(h:HR P base ρ m.H w)(hs:bM m id ab=some m')(b:Hp.get m.H id≠some .frz):e9 ρ m m':=fun j l h1 c=>by
 rw[vH hs (h.dom j l h1),A7]
 .exact c
 .intro e;subst e;exact b c
def FK{t:Nat}{v x:Value}{b:Nat}(h:HR P base ρ m.H w)(d:toD t v m=some (x,b,m'))(y:J6 ρ m.n m'.hi):e9 ρ m m':=by
 unfold toD at d;split at d
 .obtain⟨h1,f⟩:=A3 d;cases f;exact .refl
 .obtain⟨h1,f⟩:=A3 d;cases f;exact .refl
 .split at d
  .obtain⟨h1,f⟩:=A3 d;obtain⟨m1,p,q,_⟩:=P7 f;cases q;exact HX h p y
  .rename_i c tc T g C;obtain⟨h1,f⟩:=A3 d;split at f
   .rename_i m1 hs;obtain⟨m2,p,q,_⟩:=P7 f;cases q;have E:=XP h hs (by rw[C];intro h;cases h);intro j l k r;have B:=E j l k r;rw[kC p (h.dom j l k),A7]
    .exact B
    .intro e;subst e;have A:m1.n=m.n:=by rw[(T4 hs).2]
     obtain⟨_,_,rfl⟩:=K6 p;rw[y m1.n A2 (K2 _ _).2]at k;cases k
   .cases f
  .cases d
 .obtain⟨D,d⟩:=A3 d;rw[M8]at d;simp only at d;obtain⟨m1,p,q,_⟩:=P7 d;cases q;intro j l k r;rw[kC p (h.dom j l k),A7,jN]
  .exact r
  .intro e;subst e;have A:(m.wLg (eL m t (.nilw (t-10)) [])).n=m.n:=by simp
   obtain⟨_,_,rfl⟩:=K6 p;rw[y _ A2 (K2 _ _).2]at k;cases k
 .cases d
def X7(R:Nat->Option Obj)(us:List U)(vs:List Value):Prop:=us.length=vs.length/\∀ (i:Nat) (u:U) (v:Value),us[i]? = some u->vs[i]? = some v->Enc R u v
omit [Ora] in
def X7.nil{R:Nat->Option Obj}:X7 R [] []:=⟨rfl,fun i u v h=>by simp at h⟩
omit [Ora] in
def X7.cons{R:Nat->Option Obj}{v:Value}(h:Enc R u v)(k:X7 R us vs):X7 R (u::us) (v::vs):=⟨by simp[k.1],fun i a b h1 c=>by
 cases i with
 | zero=>simp at h1 c;subst h1;subst c;exact h
 | succ i=>exact k.2 i a b (by simpa using h1) (by simpa using c)⟩
def Sub(G R:Nat->Option Obj):Prop:=∀ k o,G k=some o->R k=some o
def fS{t:Nat}{v x:Value}{b:Nat}{m m':Mem}(c:toD t v m=some (x,b,m')):m.hi<=m'.hi/\m.lg.le m'.lg/\m.n<=m'.n:=by
 have e:∀ {m m1:Mem},Y0 m .frz (fun _=>undef)=some (undef,m1)->m.hi<=m1.hi/\m.lg.le m1.lg/\m.n<=m1.n:=fun l=>by
  obtain⟨_,_,rfl⟩:=K6 l;exact⟨(K2 _ _).1,.refl _,Y2 _⟩
 unfold toD at c;split at c
 .obtain⟨h1,d⟩:=A3 c;cases d;exact⟨A6 _,.refl _,A6 _⟩
 .obtain⟨h1,d⟩:=A3 c;cases d;exact⟨A6 _,.refl _,A6 _⟩
 .split at c
  .obtain⟨h1,d⟩:=A3 c;obtain⟨m1,f,g,_⟩:=P7 d;cases g;exact e f
  .obtain⟨h1,d⟩:=A3 c;split at d
   .rename_i m1 hs;obtain⟨m2,f,g,_⟩:=P7 d;cases g
    have:=e f;obtain⟨_,rfl⟩:=T4 hs;exact this
   .cases d
  .cases c
 .obtain⟨k,c⟩:=A3 c;rw[M8]at c;simp only at c;obtain⟨m1,f,g,_⟩:=P7 c;cases g
  have:=e f;exact⟨by simpa using this.1,U6.trans this.2.1,by simpa using this.2.2⟩
 .cases c
structure yE (P:Program) (td:Td):Prop where
 ok:∀ {base:Nat} {ρ:Ren} {m m':Mem} {w:World} {t:Nat} {v v' x:Value} {b:Nat},HR P base ρ m.H w->td t v m=some (x,b,m')->J6 ρ m.n m'.hi->VR ρ v v'->Sat m'.lg ->
  ∃ ρ' l,St P base ρ ρ' m m' w w/\ρ' b=some l/\Hp.get m'.H b=some .frz/\Enc l.G (D3 Ora.env x) v'/\F7 (D3 Ora.env x)=t/\m.lg.le m'.lg/\e9 ρ m m'
 mono:∀ {m m':Mem} {t:Nat} {v x:Value} {b:Nat},td t v m=some (x,b,m')->m.hi<=m'.hi/\m.lg.le m'.lg/\m.n<=m'.n
def TM:yE P toD:=⟨fun h b c hv e=>let ⟨ρ',l,f,a2,a3,a4,a5,d⟩:=CB h b c hv e;⟨ρ',l,f,a2,a3,a4,a5,d,FK h b c⟩,fun h=>fS h⟩
def R0{e:Td}(d:yE P e):∀ {ts:G5} {vs xs:C8} {gs:G5} {m m':Mem},yI e ts vs m=some (xs,gs,m')->m.hi<=m'.hi/\m.lg.le m'.lg/\m.n<=m'.n
 | [],[],_,_,_,_,h=>by cases h;exact⟨A6 _,.refl _,A6 _⟩
 | t::ts,v::vs,xs,gs,m,m',c=>by
   unfold yI at c;cases f:Nat.blt t 10 with
   | true =>
     rw[f]at c;simp only[D7]at c;obtain⟨h1,c⟩:=A3 c;split at c
     .rename_i hr;cases c;exact R0 d hr
     .cases c
   | false =>
     rw[f]at c;simp only[D4]at c;split at c
     .rename_i g;split at c
      .rename_i hr;cases c;have a:=d.mono g;have b:=R0 d hr;exact⟨B9 a.1 b.1,a.2.1.trans b.2.1,B9 a.2.2 b.2.2⟩
      .cases c
     .cases c
 | [],_::_,_,_,_,_,c=>by cases c
 | _::_,[],_,_,_,_,c=>by cases c
def gS{K:Td}(f:yE P K):∀ {ts:G5} {vs vs' xs:C8} {gs:G5} {m m':Mem} {ρ:Ren},HR P base ρ m.H w->yI K ts vs m=some (xs,gs,m')->J6 ρ m.n m'.hi->LR ρ vs vs'->Sat m'.lg ->
  ∃ ρ',St P base ρ ρ' m m' w w/\m.lg.le m'.lg/\e9 ρ m m'/\(∀ b ∈ gs,Hp.get m'.H b=some .frz/\∃ l,ρ' b=some l)/\(xs.map (D3 Ora.env)).map F7=ts /\
   ∀ R,(∀ b ∈ gs,∀ l,ρ' b=some l->Sub l.G R)->X7 R (xs.map (D3 Ora.env)) vs'
 | [],[],vs',xs,gs,m,m',ρ,h,c,hf,hv,hS=>by
   cases c;exact⟨ρ,St.refl h,.refl _,.refl,fun b M=>(by cases M),rfl,fun R _=>by rw[hv.nil_inv];exact .nil⟩
 | t::ts,v::vs,vs',xs,gs,m,m',ρ,h,c,hf,hv,hS=>by
   obtain⟨v',r',rfl,q,g⟩:=hv.tail;unfold yI at c;cases F:Nat.blt t 10 with
   | true =>
     rw[F]at c;simp only[D7]at c;obtain⟨h1,c⟩:=A3 c;have h1:=A0 h1;have N:t<10:=A1 F;split at c
     .rename_i r J m2 hr;cases c;obtain⟨ρ2,p,B,x,E,C,y⟩:=gS f h hr hf g hS;obtain⟨f1,f2⟩:=r9 q A2;exact⟨ρ2,p,B,x,E,by simp[f2,h1,C],fun R hR=>.cons (.sc f1) (y R hR)⟩
     .cases c
   | false =>
     rw[F]at c;simp only[D4]at c;split at c
     .rename_i hh b m1 Q;split at c
      .rename_i r J m2 hr;cases c;have e:m1.hi<=m'.hi/\m1.lg.le m'.lg/\m1.n<=m'.n:=R0 f hr;have I:J6 ρ m.n m1.hi:=hf.less e.1;obtain⟨D,l,k,a2,a3,a4,a5,O,L⟩:=f.ok h Q I q (hS.le e.2.1);have A:J6 D m1.n m'.hi:=hf.step k;obtain⟨ρ2,p,B,x,E,C,y⟩:=gS f k.hr hr A (g.mono k.ext) hS;refine⟨ρ2,St.trans hf k p,O.trans B,L.trans k.ext x,fun b' d=>?_,by simp[a5,C],fun R hR=>.cons (a4.mono (hR b (.head _) l (p.ext _ _ a2))) (y R fun b' d=>hR b' (.tail _ d))⟩;rcases B3.1 d with rfl|d
       .exact⟨x _ l a2 a3,l,p.ext _ _ a2⟩
       .exact E b' d
      .cases c
     .cases c
 | [],_::_,_,_,_,_,_,_,_,c,_,_,_=>by cases c
 | _::_,[],_,_,_,_,_,_,_,c,_,_,_=>by cases c
def dY{gs:G5}{g:Nat}(h:HR P base ρ m.H w)(c:iV gs m=some (g,m'))(v:J6 ρ m.n m'.hi) :
  ∃ ρ' lg,St P base ρ ρ' m m' w w/\m'.lg=m.lg/\e9 ρ m m'/\ρ' g=some lg/\Hp.get m'.H g=some .frz/\∀ b ∈ gs,∀ l,ρ b=some l->Sub l.G lg.G:=by
 have main:∀ {gs:G5},(bif gs.all (nK m)then match fJ m fun b m=>some (undef,b,m)with
  | some (_,b,m)=>some (b,m)
  | none=>none else none)=some (g,m')->∃ ρ' lg,St P base ρ ρ' m m' w w/\m'.lg=m.lg/\e9 ρ m m'/\ρ' g=some lg/\Hp.get m'.H g=some .frz/\∀ b ∈ gs,∀ l,ρ b=some l->Sub l.G lg.G:=fun{gs} c=>by
  obtain⟨h1,c⟩:=A3 c;split at c
  .rename_i r b m1 C;cases c;obtain⟨m2,t,D,_,_,A⟩:=P7 C;cases D;have e:∀ b ∈ gs,Hp.get m.H b=some .frz:=fun b d=>cW (D0.1 h1 b d)
   classical
   let G:Nat->Option Obj:=fun k=>if ∃ b ∈ gs,∃ l o,ρ b=some l/\l.G k=some o then w.heap[k]? else none
   obtain⟨g1,g2,g3⟩:=St.region (G:=G) h t v fun k o f=>by
    have f:(if ∃ b ∈ gs,∃ l o,ρ b=some l/\l.G k=some o then w.heap[k]? else none)=some o:=f;split at f
    .rename_i hex;obtain⟨b,d,l,y,x,B⟩:=hex;exact⟨f,b,_,l,h.dom _ _ x,e b d,x,⟨rfl,.inr ⟨rfl,y,B⟩⟩,rfl⟩
    .cases f
   refine⟨_,jH G,g3,A,HX h t v,g1,g2,fun b d l q k o f=>?_⟩;show(if ∃ b ∈ gs,∃ l o,ρ b=some l/\l.G k=some o then w.heap[k]? else none)=_;rw[A9 ⟨b,d,l,o,q,f⟩];exact(h.atl q (e b d)).1.2 k o f
  .cases c
 unfold iV at c;split at c
 .rename_i g0;obtain⟨h1,c⟩:=A3 c;cases c;obtain⟨l,q⟩:=YY h h1;refine⟨ρ,l,St.refl h,rfl,.refl,q,cW h1,fun b d l2 p=>?_⟩;rcases B3.1 d with rfl|d
  .rw[q]at p
   have:=A8 p;subst this;exact fun _ _ h=>h
  .cases d
 .exact main c
omit [Ora] in
def eY{R:Nat->Option Obj}{v r:Value}(h:Enc R u v)(hr:toV u=some r):v=r:=by
 cases h with
 | sc h=>rw[h]at hr;exact A8 hr
 | nil=>cases hr
 | emp=>cases hr
 | sl=>cases hr
omit [Ora] in
def kX{R:Nat->Option Obj}{v:Value}(h:Enc R u v):n9 v=true:=by
 cases h with
 | sc h=>have:=fR h;cases v<;>first|rfl|cases this
 | nil=>rfl
 | emp=>rfl
 | sl=>rfl
def A2E{wd k:Nat}{rows:List (List U)} :evU (.get wd o) [.seq false wd rows,.int kk (.ofNat k)]=(rows.getD k []).getD o .none:=by
 simp[evU]
def getD_some(h:row.getD o .none≠.none):row[o]? = some (row.getD o .none):=by
 rw[B1]at *;cases e:row[o]? with
 | none=>rw[e]at h;exact absurd rfl h
 | some u=>rfl
def eW{wd o i t g k:Nat}{z:Value}{lg:Loc}{rows:List (List U)}{cell:Nat->P5}(hi:Ora.env i=.seq false wd rows)(p:nT Ora.env z=some (.ofNat k))(A:ρ g=some lg)
  (n:∀ q u,(rows.getD k [])[q]? = some u->∃ v,cell q=some v/\Enc lg.G u v) :
  ∀ {ts:G5} {j:Nat} {m m':Mem} {r:C8},W7 wd o i t z g ts j m=some (r,m')->Sat m'.lg->∃ r',LR ρ r r'/\r'.length=ts.length/\(∀ q v',r'[q]? = some v'->cell (o+j+q)=some v')/\J1 m m'/\m.lg.le m'.lg
 | [],j,m,m',r,h,hS=>by
   cases h;exact⟨[],.nil,rfl,fun q v' h=>by simp at h,.refl _,.refl _⟩
 | tg::ts,j,m,m',r,h,hS=>by
   unfold W7 at h;obtain⟨kk,E⟩:=EN p;have d:[hole i t,z].map (D3 Ora.env)=[.seq false wd rows,.int kk (.ofNat k)]:=by
    simp only[C3,F6,E];show[Ora.env i,_]=_;rw[hi]
   have b:∀ {u:U},u≠.none->evU (.get wd (o+j)) ([hole i t,z].map (D3 Ora.env))=u->∃ v,cell (o+j)=some v/\Enc lg.G u v:=fun{u} hu he=>by
    rw[d,A2E]at he;subst he;exact n _ _ (getD_some hu)
   cases F:Nat.blt tg 10 with
   | true =>
     rw[F]at h;simp only[D7]at h;have I:tg<10:=A1 F;split at h
     .rename_i hh m1 B;split at h
      .rename_i H m2 hr;cases h;obtain⟨r',C,x,y,D,f⟩:=eW hi p A n hr hS;obtain⟨u,f1,f2,v,f3,f4,f5⟩:=L3 B (hS.le f);obtain⟨v2,g1,g2⟩:=b (u:=u) (by intro e;subst e;cases f3) f1
       have:=eY g2 f3;subst this;refine⟨v2::r',.cons (f4 ρ) C,by simp[x],fun q v' c=>?_,(G8 B).trans D,(H4 B).trans f⟩;cases q with
       | zero=>simp at c;subst c;exact g1
       | succ q=>rw[show o+j+(q+1)=o+(j+1)+q by omega];exact y q v' (by simpa using c)
      .cases h
     .cases h
   | false =>
     rw[F]at h;simp only[D4]at h;rw[HS]at h;split at h
     .rename_i H m2 hr;cases h;obtain⟨r',C,x,y,D,f⟩:=eW hi p A n hr hS;obtain⟨f1,f2,J,K,l,f3,f4⟩:=iX hS f;obtain⟨v2,g1,g2⟩:=b (u:=Ora.env m.lg.nx) (by rw[f3];intro h;cases h) f1.symm;refine⟨v2::r',.cons (.dat A g2 f2 A2 (kX g2)) C,by simp[x],fun q v' c=>?_,J1.trans ⟨_,rfl⟩ D,U6.trans f⟩;cases q with
      | zero=>simp at c;subst c;exact g1
      | succ q=>rw[show o+j+(q+1)=o+(j+1)+q by omega];exact y q v' (by simpa using c)
     .cases h
def gV{t:TypeId}(h:jP P t=some ts):G3 P t=some ts.length:=by
 unfold jP at h;split at h
 .rename_i l n h1 b;obtain⟨h3,h⟩:=A3 h;cases h;rw[b,A0 h3]
 .cases h
def BW{t:TypeId}{r:C8}{v:Value}{b:Nat}(f:jP P t=some ts)(d:lD P t (some (r,m))=some (v,m'))(e:LR ρ r r')(n:r'.length=ts.length)
  (k:∀ q v',r'[q]? = some v'->w.cell? ⟨b,o+q,none⟩=some v'):m'=m/\∃ v',(Instr.loadAt t (.pointer (some ⟨b,o,none⟩))).run P w=.ok v' w/\VR ρ v v':=by
 unfold lD at d;split at d
 .rename_i c heq;cases d;cases heq;obtain⟨v',p,rfl,l,x⟩:=e.tail;refine⟨rfl,v',?_,l⟩
  have:=k 0 v' rfl;simp[Instr.loadAt,Instr.sureAddr,loadVar,A4,bG c,Result.andThen,run_load,show w.cell? ⟨b,o,none⟩=some v' from by simpa using this]
 .rename_i c heq;cases d;cases heq;refine⟨rfl,.agg ⟨r'⟩,?_,.agg e.1 e.2⟩;have g:G3 P t=some r'.length:=by rw[n];exact gV f
  simp[Instr.loadAt,Instr.sureAddr,loadVar,A4,bG c,K1 g,Result.andThen,J7 rfl k]
 .cases d
def XA{t:TypeId}{x x' v:Value}(h:HR P base ρ m.H w)(f:HQ P m t x=some (v,m'))(hx:VR ρ x x')(Z:Sat m'.lg):(∃ r,(Instr.loadAt t x').run P w=.ok r w/\VR ρ v r)/\J1 m m'/\m.lg.le m'.lg:=by
 have K:∀ {r:Option (C8×Mem)},lD P t r=some (v,m')->∃ vs,r=some (vs,m'):=fun{r} J=>by
  unfold lD at J;split at J
  .cases J;exact⟨_,rfl⟩
  .cases J;exact⟨_,rfl⟩
  .cases J
 unfold HQ at f;split at f
 .rename_i b i tg z o ts E;obtain⟨h1,f⟩:=A3 f;obtain⟨⟨l,wd,rows,a,s,c,k,M,F,L,X,N,e6,rfl⟩,Y⟩:=DJ hx;obtain⟨vs,hr⟩:=K f;rw[hr]at f;have B:tg-10=wd:=by rw[<- Y,F];simp[F7]
  rw[B]at hr;have V:=(h.atl M (cW h1)).1.2;rw[F]at L;obtain⟨C,T,fz,f1,f2,f3,f4⟩:∃ C T fz,l.G a=some (.cells C T fz)/\s+rows.length*wd<=C.size/\(∀ row ∈ rows,row.length=wd)/\∀ (r:Nat) (row:List U) (j:Nat) (u:U) (v:Value),rows[r]? = some row->row[j]? = some u->C[s+r*wd+j]? = some v->Enc l.G u v:=by
   have D:rows≠[]:=by intro e;subst e;simp at N
   cases L with
   | sc h=>cases h
   | emp=>exact absurd rfl D
   | sl hc S hz hw hh=>exact⟨_,_,_,S D,hz D,hw,hh⟩
  have y:=V _ _ f1;have d:rows[k]? = some rows[k]:=A5 N;obtain⟨r',g1,g2,g3,g4,g5⟩:=eW (cell:=fun q=>w.cell? ⟨a,s+k*wd+q,none⟩) F X M (fun q u n=>by
   rw[B1,d]at n;have n:rows[k][q]? = some u:=n;have A:=(B0.1 n).1;rw[f3 _ (C6 d)]at A;have W:(k+1)*wd<=rows.length*wd:=F3 wd N;rw[H1]at W;have p:s+k*wd+q<C.size:=A2;refine⟨C[s+k*wd+q],?_,f4 k _ q u _ d n (E8 p)⟩;simp[World.cell?,y,E8 p]) hr Z
  obtain⟨_,Q⟩:=BW (w:=w) (b:=a) (o:=s+k*wd+o) E f g1 g2 (fun q v' n=>by
   have:=g3 q v' n;rw[show s+k*wd+o+q=s+k*wd+(o+0+q) by omega];exact this)
  exact⟨Q,g4,g5⟩
 .rename_i b i tg z o ts E;split at f
  .rename_i c tc T g ro S;obtain⟨h1,f⟩:=A3 f;have h1:=A0 h1;subst h1;obtain⟨⟨l,wd,iR,k,M,F,L,X,N,e6,rfl⟩,Y⟩:=uJ hx;obtain⟨vs,hr⟩:=K f;rw[hr]at f;obtain⟨I,inf,d1,d2,d3,d4⟩:=SqR.ex (h.atl M S).1;rcases d4 with⟨d4,_⟩|⟨_,d4⟩
   .rw[F]at d4;cases d4
   obtain⟨C,fz,T',rows,lg,f1,f2,f3,f4,f5,f6,f7,f8,f9⟩:=d4;have B:tc-10=I:=A2;rw[B]at hr;have R:k<rows.length:=A2;have d:rows[k]? = some rows[k]:=A5 R;have O:wd=I:=by
    have:F7 (Ora.env i)=10+wd:=by rw[L];rfl
    omega
   subst O;obtain⟨r',g1,g2,g3,g4,g5⟩:=eW (cell:=fun q=>w.cell? ⟨l.blk,l.sh+k*wd+q,none⟩) f2 X f7 (fun q u n=>by
    rw[B1,d]at n;have n:rows[k][q]? = some u:=n;have A:=(B0.1 n).1;rw[f6 _ (C6 d)]at A;have W:(k+1)*wd<=l.cap*wd:=F3 wd A2;rw[H1]at W;have p:l.sh+k*wd+q<C.size:=A2;refine⟨C[l.sh+k*wd+q],?_,f8 k _ q u _ d n (E8 p)⟩;simp[World.cell?,f1,E8 p]) hr Z
   obtain⟨_,Q⟩:=BW (w:=w) (b:=l.blk) (o:=l.sh+k*wd+o) E f g1 g2 (fun q v' n=>by
    have:=g3 q v' n;rw[show l.sh+k*wd+o+q=l.sh+k*wd+(o+0+q) by omega];exact this)
   exact⟨Q,g4,g5⟩
  .cases f
 .cases f
end
end
section
open Go
variable [Ora]
section
variable {P:Program} {base:Nat} {ρ ρ':Ren} {m m':Mem} {w w':World}
def at0(a:Nat):Ren:=fun _=>some (lc a 0 0)
def SV{a s n c:Nat}(h:n<=c):VR (at0 a) (.slice (some ⟨0,s,none⟩) n (L9+1)) (.slice (some ⟨a,s,none⟩) n c) :=
 VR.op (ρ:=at0 a) (b:=0) (o:=s) (n:=n) (m:=L9+1) (m':=c) (l:=lc a 0 0) rfl (by unfold L9;omega) h (fun h=>by unfold L9 at h;omega)
def QQ{a s:Nat}:VR (at0 a) (.pointer (some ⟨0,s,none⟩)) (.pointer (some ⟨a,s,none⟩)):=VR.ptr (ρ:=at0 a) (b:=0) (o:=s) (l:=lc a 0 0) rfl
def sM{t e:TypeId}{a s n c z sz:Nat}{k:IntKind}(hu:P.underlying t=some (.slice e))(hs:G3 P e=some sz)(f:z<n)(d:n<=c)(w:World) :
  (Instr.indexAt t (.slice (some ⟨a,s,none⟩) n c) (.int k (.ofNat z))).run P w=.ok (.pointer (some ⟨a,s+z*sz,none⟩)) w:=by
 have g:Nat.blt z n=true:=C4 f;have hm:W5 P t (.slice (some ⟨0,s,none⟩) n (L9+1)) (.int k (.ofNat z))=some (.pointer (some ⟨0,s+z*sz,none⟩)):=by
  simp only[W5,hu,hs,g,D7,aO,E1]
 obtain⟨v',g1,g2⟩:=bS (P:=P) hm (SV (a:=a) d) (.pure rfl) w;obtain⟨l2,b,_,rfl⟩:=N6 g2;cases b;exact g1
def oQ{t e:TypeId}{a s n z sz:Nat}{k:IntKind}(hu:P.underlying t=some (.array n e))(hs:G3 P e=some sz)(c:z<n)(w:World) :
  (Instr.indexAt t (.pointer (some ⟨a,s,none⟩)) (.int k (.ofNat z))).run P w=.ok (.pointer (some ⟨a,s+z*sz,none⟩)) w:=by
 have d:Nat.blt z n=true:=C4 c;have hm:W5 P t (.pointer (some ⟨0,s,none⟩)) (.int k (.ofNat z))=some (.pointer (some ⟨0,s+z*sz,none⟩)):=by
  simp only[W5,hu,hs,d,D7,aO,E1]
 obtain⟨v',g1,g2⟩:=bS (P:=P) hm (QQ (a:=a)) (.pure rfl) w;obtain⟨l2,b,_,rfl⟩:=N6 g2;cases b;exact g1
def sO{a z:Nat}{c:Array Field}{f:Field}(hu:P.underlying s=some (.struct c))(d:c.toList[i]? = some f)(e:G3 P f.type=some (z+1))(w:World) :
  (Instr.fieldAt s (.pointer (some ⟨a,o,none⟩)) i).run P w=.ok (.pointer (some ⟨a,o+f.offset,none⟩)) w:=by
 have hm:bT P s (.pointer (some ⟨0,o,none⟩)) i=some (.pointer (some ⟨0,o+f.offset,none⟩)):=by
  simp only[bT,hu,d,e,aO,E1]
 obtain⟨v',g1,g2⟩:=kT (P:=P) hm (QQ (a:=a)) w;obtain⟨l2,b,_,rfl⟩:=N6 g2;cases b;exact g1
def DL{t wd:Nat}{f:Bool}{rows:List (List U)}{k v:Value}(h:IE m i t z k=some (v,m'))(hi:Ora.env i=.seq f wd rows)(J:t=10+wd)(E:VR ρ z z')(D:Sat m'.lg) :
  v=k/\(∃ kk n,z'=.int kk (.ofNat n)/\n<rows.length/\nT Ora.env z=some (.ofNat n))/\J1 m m'/\m.lg.le m'.lg:=by
 unfold IE at h;cases x:!(Nat.blt (G1 z) 8)with
 | true=>rw[x]at h;cases h
 | false =>
   have F:G1 z<8:=by
    have:Nat.blt (G1 z) 8=true:=by simpa using x
    exact A1 this
   rw[x]at h;simp only[D4]at h;split at h
   .rename_i b H n W hh lg A;split at h
    .rename_i l C;cases h;have d:=H4 A;have c:=eF C;obtain⟨u,g,I,r,p,G,_⟩:=L3 A (Q6.le D c);have B:=lC C (G ρ) D;subst B;obtain⟨kk,y,rfl,f2,_⟩:=L6 E F;have e:[z,hole i t].map (D3 Ora.env)=[.int kk y,.seq f wd rows]:=by
      simp only[C3,F6,f2];show[_,Ora.env i]=_;rw[hi]
     rw[e]at g;have g:(if wd=t-10 then U.bool (decide (0<=y) && decide (y<rows.length))else U.none)=u:=g;rw[A9 A2]at g;subst g;have p:some (Value.bool (decide (0<=y) && decide (y<rows.length)))=some (.bool true):=p;have q:(decide (0<=y) && decide (y<rows.length))=true:=by simpa using p
     simp only[G4,decide_eq_true_eq]at q;obtain⟨n0,rfl⟩:∃ n0:Nat,y=.ofNat n0:=⟨y.toNat,by have:=cS q.1;exact this.symm⟩;refine⟨rfl,⟨kk,n0,rfl,?_,QR f2⟩,J1.trans (G8 A) ⟨l,rfl⟩,d.trans c⟩
     have:=q.2;have:(n0:Int)<rows.length:=this;omega
    .cases h
   .cases h
def A51{G:Nat->Option Obj}{b:Bool}{wd:Nat}{rows:List (List U)}{v:Value}(h:Enc G (.seq b wd rows) v)(hr:rows≠[]):b=false/\∃ a o c,v=.slice (some ⟨a,o,none⟩) rows.length c/\rows.length<=c:=by
 cases h with
 | sc h=>cases h
 | nil=>exact absurd rfl hr
 | emp=>exact absurd rfl hr
 | sl d _ _ _ _=>exact⟨rfl,_,_,_,rfl,d⟩
def KZ{t:Nat}(h:F7 u=t)(d:10<=t):u=.none∨∃ c wd rows,u=.seq c wd rows/\t=10+wd:=by
 cases u with
 | none=>exact .inl rfl
 | int k n=>have:=K7 k;simp[F7]at h;omega
 | bool b=>simp[F7]at h;omega
 | str s=>simp[F7]at h;omega
 | seq c wd rows=>exact .inr ⟨c,wd,rows,rfl,h.symm⟩
def eZ{G:Nat->Option Obj}{v:Value}{t:Nat}(h:Enc G u v)(d:F7 u=t)(b:10<=t):∃ c wd rows,u=.seq c wd rows/\t=10+wd:=by
 rcases KZ d b with rfl|h1
 .cases h with
  | sc h=>cases h
 .exact h1
def AZ{t e:TypeId}{b s:Nat}{l:Loc}{v v':Value}(hu:P.underlying t=some (.slice e))(hs:G3 P e=some (s+1))(B:tg=10+(s+1))(h1:ρ b=some l)(d:Enc l.G (Ora.env i) v')(h3:F7 (Ora.env i)=tg)
  (h:IE m i tg z (dpt b i tg z 0)=some (v,m')) (y:VR ρ z z') (D:Sat m'.lg):(∃ r,(Instr.indexAt t v' z').run P w=.ok r w/\VR ρ v r)/\J1 m m'/\m.lg.le m'.lg:=by
 obtain⟨C,wd,rows,f,A⟩:=eZ d h3 A2;obtain⟨rfl,⟨kk,n,rfl,g,p⟩,g1,g2⟩:=DL h f A y D;have q:wd=s+1:=A2;subst q;have k:rows≠[]:=by intro e;subst e;simp at g
 rw[f]at d;obtain⟨rfl,a,o,c,rfl,x⟩:=A51 d k;refine⟨⟨_,sM hu hs g x w,.dpt ⟨l,s+1,rows,a,o,c,n,h1,f,by rw[f];exact d,p,g,A2,by simp⟩ h3 rfl⟩,g1,g2⟩
def IC{t:TypeId}{x x' v:Value}(h:kO P m t x z=some (v,m'))(hx:VR ρ x x')(B:VR ρ z z')(G:Sat m'.lg):(∃ r,(Instr.indexAt t x' z').run P w=.ok r w/\VR ρ v r)/\J1 m m'/\m.lg.le m'.lg:=by
 unfold kO at h;split at h
 .rename_i e b i tg hu;split at h
  .rename_i s hs;obtain⟨g,h⟩:=A3 h;have g:=A0 g;obtain⟨D,d⟩:=eU hx;rcases D with⟨l,wd,h1,A,h3,rfl⟩|⟨l,wd,rows,h1,A,h3,O,H,rfl⟩
   .obtain⟨_,⟨kk,n,_,M,_⟩,_⟩:=DL h h3 (by rw[h3]at d;exact d.symm) B G;simp at M
   .have C:tg=10+wd:=by rw[h3]at d;exact d.symm
    obtain⟨rfl,⟨kk,n,rfl,M,K⟩,g1,g2⟩:=DL h h3 C B G;have p:wd=s+1:=A2;subst p;exact⟨⟨_,sM hu hs A2 H w,.opt ⟨l,s+1,rows,n,h1,A,h3,K,A2,A2,by simp⟩ d rfl⟩,g1,g2⟩
  .cases h
 .rename_i e b i tg hu;split at h
  .rename_i s hs;obtain⟨g,h⟩:=A3 h;have g:=A0 g;obtain⟨l,h1,A,h3,_⟩:=mC hx;exact AZ hu hs g h1 A h3 h B G
  .cases h
 .rename_i e b i tg hu;split at h
  .rename_i s hs;obtain⟨g,h⟩:=A3 h;have g:=A0 g;obtain⟨l,h1,A,h3,_⟩:=eV hx;exact AZ hu hs g h1 A h3 h B G
  .cases h
 .rename_i n e b i tg y o hu;split at h
  .rename_i s kk k hs;obtain⟨f,h⟩:=A3 h;obtain⟨f,hw⟩:=B4 f;have f:=A1 f;have hw:o+k*s<tg-10:=A1 hw;rw[E1]at h;cases h;cases I6 B;obtain⟨⟨l,wd,rows,a,s0,c,q,J,C,F,L,I,N,rfl⟩,E⟩:=DJ hx;have p:tg-10=wd:=by rw[<- E,C];simp[F7]
   refine⟨⟨_,oQ hu hs f w,.dpt ⟨l,wd,rows,a,s0,c,q,J,C,F,L,I,A2,by simp⟩ E rfl⟩,.refl _,.refl _⟩
  .cases h
 .rename_i n e b i tg y o hu;split at h
  .rename_i s kk k hs;obtain⟨f,h⟩:=A3 h;obtain⟨f,hw⟩:=B4 f;have f:=A1 f;have hw:o+k*s<tg-10:=A1 hw;rw[E1]at h;cases h;cases I6 B;obtain⟨⟨l,wd,rows,q,J,C,F,L,I,N,rfl⟩,E⟩:=uJ hx;have p:tg-10=wd:=by rw[<- E,F];simp[F7]
   refine⟨⟨_,oQ hu hs f w,.opt ⟨l,wd,rows,q,J,C,F,L,I,A2,by simp⟩ E rfl⟩,.refl _,.refl _⟩
  .cases h
 .cases h
def IT{x x' v:Value}{f:Nat}(h:kU P m s x f=some (v,m'))(hx:VR ρ x x'):(∃ r,(Instr.fieldAt s x' f).run P w=.ok r w/\VR ρ v r)/\m'=m:=by
 unfold kU at h;split at h
 .rename_i D b i tg y o hu;split at h
  .rename_i fd n;split at h
   .rename_i z k;obtain⟨hw,h⟩:=A3 h;have hw:o+fd.offset<tg-10:=A1 hw;rw[E1]at h;cases h;obtain⟨⟨l,wd,rows,a,s0,c,q,t,e,g,A,p,C,rfl⟩,d⟩:=DJ hx;have B:tg-10=wd:=by rw[<- d,e];simp[F7]
    exact⟨⟨_,sO hu n k w,.dpt ⟨l,wd,rows,a,s0,c,q,t,e,g,A,p,A2,by simp⟩ d rfl⟩,rfl⟩
   .cases h
  .cases h
 .rename_i D b i tg y o hu;split at h
  .rename_i fd n;split at h
   .rename_i z k;obtain⟨hw,h⟩:=A3 h;have hw:o+fd.offset<tg-10:=A1 hw;rw[E1]at h;cases h;obtain⟨⟨l,wd,rows,q,t,e,g,A,p,C,rfl⟩,d⟩:=uJ hx;have B:tg-10=wd:=by rw[<- d,g];simp[F7]
    exact⟨⟨_,sO hu n k w,.opt ⟨l,wd,rows,q,t,e,g,A,p,A2,by simp⟩ d rfl⟩,rfl⟩
   .cases h
  .cases h
 .cases h
end
end
section
open Go
variable [Ora]
section
variable {P:Program} {base:Nat} {ρ ρ':Ren} {m m':Mem} {w w':World}
def o7{G:Nat->Option Obj}{b:Bool}{wd:Nat}{rows:List (List U)}{v:Value}(h:Enc G (.seq b wd rows) v):(b=true/\rows=[]/\v=.slice none 0 0)∨(b=false/\∃ (a:Addr) (c:Nat),v=.slice (some a) rows.length c/\rows.length<=c):=by
 cases h with
 | sc h=>cases h
 | nil=>exact .inl ⟨rfl,rfl,rfl⟩
 | emp=>exact .inr ⟨rfl,_,_,rfl,A6 _⟩
 | sl d _ _ _ _=>exact .inr ⟨rfl,_,_,rfl,d⟩
def jT{t e:TypeId}{a:Option Addr}{n c:Nat}(hu:P.underlying t=some (.slice e))(w:World):(Builtin.len_ ⟨t::tys⟩ ty #[.slice a n c]).run P w=.ok (.int .i64 n) w:=by
 simp[Builtin.len_,A4,C7 hu,Result.andThen,goInt]
def A1l{t:Nat}{v:Value}{c:Bool}{wd:Nat}{rows:List (List U)}(h:S5 m 3 .len [hole i t]=some (v,m'))(hi:Ora.env i=.seq c wd rows)(e:Sat m'.lg):VR ρ v (.int .i64 rows.length)/\J1 m m'/\m.lg.le m'.lg/\D3 Ora.env v=.int .i64 rows.length:=by
 obtain⟨u,d,l,r,f,g,n⟩:=L3 h e;have b:[hole i t].map (D3 Ora.env)=[.seq c wd rows]:=by
  show[Ora.env i]=_;rw[hi]
 rw[b]at d;have d:U.int .i64 rows.length=u:=d;subst d;cases f;refine⟨g ρ,G8 h,H4 h,?_⟩;obtain⟨rfl,rfl⟩:=hZ h;obtain⟨h1,k,h3⟩:=e (.lt m.lg.nx 3 .len [hole i t]) (by cases m;exact B2);show Ora.env m.lg.nx=_;rw[h1,b];rfl
def kS{i j:Nat}:∀ {l:List d9},qD i l=some j->∃ tg,d9.lt j 3 .len [hole i tg] ∈ l
 | [],h=>by cases h
 | e::r,h=>by
   unfold qD at h;split at h
   .cases h
   .rename_i f t k tg r' he;cases he;cases c:Nat.beq k i && Nat.beq t 3 with
    | true =>
      rw[c]at h;cases h;obtain⟨h1,d⟩:=B4 c;have h1:=A0 h1;have d:=A0 d;subst h1;subst d;exact⟨tg,.head _⟩
    | false =>
      rw[c]at h;obtain⟨b,h3⟩:=kS h;exact⟨b,.tail _ h3⟩
   .rename_i he;cases he;obtain⟨b,h3⟩:=kS h;exact⟨b,.tail _ h3⟩
def aT{t:Nat}{v:Value}(h:DC m i t=some (v,m')):J1 m m'/\m.lg.le m'.lg:=by
 unfold DC at h;split at h
 .cases h;exact⟨J1.refl _,.refl _⟩
 .exact⟨G8 h,H4 h⟩
def kK{t:Nat}{v:Value}{c:Bool}{wd:Nat}{rows:List (List U)}(h:DC m i t=some (v,m'))(hi:Ora.env i=.seq c wd rows)(d:Sat m'.lg):VR ρ v (.int .i64 rows.length)/\J1 m m'/\m.lg.le m'.lg/\D3 Ora.env v=.int .i64 rows.length:=by
 unfold DC at h;split at h
 .rename_i j e;cases h;obtain⟨tg,hm⟩:=kS e;obtain⟨h1,f,_⟩:=d _ hm;have b:[hole i tg].map (D3 Ora.env)=[.seq c wd rows]:=by
   show[Ora.env i]=_;rw[hi]
  rw[b]at h1;have h1:Ora.env j=.int .i64 rows.length:=h1;refine⟨.hole ?_ ?_,J1.refl _,.refl _,h1⟩
  .rw[h1];rfl
  .rw[h1];rfl
 .exact A1l h hi d
def RW{b:Nat}{v':Value}(h:WE ρ b u v'):∃ d wd rows a c,u=.seq d wd rows/\v'=.slice a rows.length c:=by
 rcases h with⟨l,wd,h1,g,h3,rfl⟩|⟨l,wd,rows,h1,g,h3,e,f,rfl⟩
 .exact⟨_,_,_,_,_,h3,rfl⟩
 .exact⟨_,_,_,_,_,h3,by rw[e]⟩
def A1m{t:TypeId}{x x' v:Value}(h:A1n P m t x=some (v,m'))(hx:VR ρ x x')(k:Sat m'.lg):(∃ r,(Builtin.len_ ⟨t::tys⟩ ty #[x']).run P w=.ok r w/\VR ρ v r)/\J1 m m'/\m.lg.le m'.lg:=by
 unfold A1n at h;split at h
 .rename_i e b i tg hu;obtain⟨l,h1,d,h3,n⟩:=mC hx;obtain⟨g,wd,rows,f,_⟩:=eZ d h3 n;obtain⟨g1,g2,g3,_⟩:=kK (ρ:=ρ) h f k;rw[f]at d;rcases o7 d with⟨rfl,rfl,rfl⟩|⟨rfl,a,c,rfl,_⟩
  .exact⟨⟨_,jT hu w,g1⟩,g2,g3⟩
  .exact⟨⟨_,jT hu w,g1⟩,g2,g3⟩
 .rename_i e b i tg hu;obtain⟨l,h1,d,h3,n,_⟩:=eV hx;obtain⟨g,wd,rows,f,_⟩:=eZ d h3 n;obtain⟨g1,g2,g3,_⟩:=kK (ρ:=ρ) h f k;rw[f]at d;rcases o7 d with⟨rfl,rfl,rfl⟩|⟨rfl,a,c,rfl,_⟩
  .exact⟨⟨_,jT hu w,g1⟩,g2,g3⟩
  .exact⟨⟨_,jT hu w,g1⟩,g2,g3⟩
 .rename_i e b i tg hu;obtain⟨g,wd,rows,a,c,f,rfl⟩:=RW (eU hx).1;obtain⟨g1,g2,g3,_⟩:=kK (ρ:=ρ) h f k;exact⟨⟨_,jT hu w,g1⟩,g2,g3⟩
 .cases h
def AM{v v':Value}{n:Nat}(hv:VR ρ v v')(c:wT v=true)(b:D3 Ora.env v=.int kk (.ofNat n)):∃ j,v'=.int j (.ofNat n):=by
 obtain⟨k,z,rfl,f2,_⟩:=L6 hv (A1 c);rw[f2]at b;injection b with _ hb
 exact⟨k,by rw[hb]⟩
def UL{h x e x':Value}(hs:NS h x=true)(h1:VR ρ h e)(d:VR ρ x x'):e=x':=by
 unfold NS at hs;split at hs
 .rename_i i t1 j t2
  have:=A0 hs;subst this;have hh:∀ {t:Nat} {v:Value},VR ρ (.complex .f64 i t) v->toV (Ora.env i)=some v:=fun{t v} h=>by
   cases h with
   | pure hp=>simp[H9]at hp
   | hole h _=>exact h
  have a:=hh h1;rw[hh d]at a;exact(A8 a).symm
 .obtain⟨c,b⟩:=B4 hs;have c:=fW c;rw[bJ]at b;have b:=eq_of_beq b;subst c;subst b;cases I6 h1;cases I6 d;rfl
 .cases hs
def ZK{wd v:Nat}{d:Bool}{rows:List (List U)}{a b:U}(c:evU (.subs wd) [.seq d v rows,a,b]≠.none):∃ g l f h,a=.int g (.ofNat l)/\b=.int f (.ofNat h)/\v=wd/\l<=h/\h<=rows.length:=by
 cases a with
 | int g k=>cases k with
   | ofNat l=>cases b with
     | int f z2=>cases z2 with
       | ofNat h =>
         have c:(if v=wd/\l<=h/\h<=rows.length then U.seq d wd ((rows.drop l).take (h-l))else .none)≠.none:=c;by_cases e:v=wd/\l<=h/\h<=rows.length
         .exact⟨g,l,f,h,rfl,rfl,e.1,e.2.1,e.2.2⟩
         .rw[A7 e]at c;exact(c rfl).elim
       | negSucc _=>exact(c rfl).elim
     | _=>exact(c rfl).elim
   | negSucc _=>exact(c rfl).elim
 | _=>exact(c rfl).elim
def A2I{G:Nat->Option Obj}{t:Bool}{wd l h mm n c:Nat}{rows:List (List U)}{a:Option Addr}(he:Enc G (.seq t wd rows) (.slice a n c))(N:l<=h)(hh:h<=rows.length)(hm:h<=mm)(L:mm<=c) :
  Enc G (.seq t wd ((rows.drop l).take (h-l))) (.slice (if mm=l then a else a.map (·.add (l*wd))) (h-l) (mm-l))∨a=none:=by
 cases he with
 | sc h=>cases h
 | nil=>exact .inr rfl
 | emp =>
   rename_i a;have g:h=0:=by simpa using hh
   subst g;have f:l=0:=A2;subst f;have I:mm=0:=A2;subst I;exact .inl .emp
 | sl M J H hw q =>
   rename_i a o C T fz;refine .inl ?_;have hlen:((rows.drop l).take (h-l)).length=h-l:=by simp;omega
   have key:∀ b x,(h-l≠0->b=a/\x=o+l*wd)->Enc G (.seq false wd ((rows.drop l).take (h-l))) (.slice (some ⟨b,x,none⟩) (h-l) (mm-l)):=fun b x y=>by
    have A:∀ r row,((rows.drop l).take (h-l))[r]? = some row->h-l≠0/\rows[l+r]? = some row:=fun r row hr=>by
     have k:=(B0.1 hr).1;rw[hlen]at k;rw[F2 k,H5]at hr;exact⟨A2,hr⟩
    have d:(rows.drop l).take (h-l)≠[]->h-l≠0/\rows≠[]:=fun d=>by
     constructor
     .intro e;rw[e]at d;simp at d
     .intro e;subst e;simp at d
    have:=Enc.sl (G:=G) (w:=wd) (rows:=(rows.drop l).take (h-l)) (a:=b) (o:=x) (c:=mm-l) (C:=C) (T:=T) (fz:=fz) A2
     (fun B=>by obtain⟨g,f⟩:=d B;rw[(y g).1];exact J f)
     (fun B=>by
       obtain⟨g,f⟩:=d B;rw[hlen,(y g).2];have h1:=H f;have F:(l+(h-l))*wd<=rows.length*wd:=F3 wd A2;rw[H1]at F;omega)
     (fun row hr=>hw row (bZ (List.mem_of_mem_take hr)))
     (fun r row j u v E K D=>by
       obtain⟨g,f⟩:=A r row E;rw[(y g).2]at D;refine q (l+r) row j u v f K ?_;rw[H1,show o+(l*wd+r*wd)+j=o+l*wd+r*wd+j by omega];exact D)
    rw[hlen]at this;exact this
   by_cases p:mm=l
   .rw[A9 p];exact key a o fun h=>by omega
   .rw[A7 p];have e:(Addr.mk a o none).add (l*wd)=⟨a,o+l*wd,none⟩:=by
     unfold Addr.add;split
     .rename_i h;rw[h];rfl
     .rfl
    show Enc G _ (.slice (some ((Addr.mk a o none).add (l*wd))) _ _);rw[e];exact key a (o+l*wd) fun _=>⟨rfl,rfl⟩
def EC{t e:TypeId}{b s:Nat}{l:Loc}{hi:P5}{v x':Value}(hu:P.underlying t=some (.slice e))(hs:G3 P e=some s)(aj:tg=10+s)(h1:ρ b=some l)(F:Enc l.G (Ora.env i) x')(h3:F7 (Ora.env i)=tg)
  (aq:cl=true->A0N x') (h:JB m b i tg cl lo hi mx=some (v,m')) (T:OR ρ lo lo') (N:OR ρ hi hi') (J:OR ρ mx mx') (hS:Sat m'.lg):(∃ r,(Instr.sliceAt t x' lo' hi' mx').run P w=.ok r w/\VR ρ v r)/\J1 m m'/\m.lg.le m'.lg:=by
 have d:∀ {o:P5},OR ρ none o->o=none:=fun{o} h=>by cases o<;>first|rfl|exact h.elim
 have f:∀ {y:Value} {o:P5},OR ρ (some y) o->∃ X,o=some X/\VR ρ y X:=fun{y o} h=>by cases o<;>first|exact h.elim|exact⟨_,rfl,h⟩
 obtain⟨K,wd,rows,e1,e2⟩:=eZ F h3 A2;have ax:wd=s:=A2;subst ax;rw[e1]at F;obtain⟨a,n,c,aw,hn,ai⟩:∃ a n c,x'=.slice a n c/\n=rows.length/\n<=c:=by
  rcases o7 F with⟨rfl,rfl,rfl⟩|⟨rfl,a,c,rfl,hc⟩
  .exact⟨_,_,_,rfl,rfl,A6 _⟩
  .exact⟨_,_,_,rfl,rfl,hc⟩
 subst aw;have go:∀ {m:Mem} {p hv:Value} {cc:Bool} {E:P5} {hh mm:Nat},fA m b i tg p hv cc=some (v,m') ->
   (E=none/\p=.int .i64 0∨∃ y,E=some y/\VR ρ p y)->(∀ kk q,D3 Ora.env hv=.int kk (.ofNat q)->q<=rows.length->q=hh/\Bd mx' c c mm/\(hi'=none->mx'=none)/\Bd hi' mm n hh/\hh<=mm/\(cc=true->mm=hh)) ->
   (∃ r,(Instr.sliceAt t (.slice a n c) E hi' mx').run P w=.ok r w/\VR ρ v r)/\J1 m m'/\m.lg.le m'.lg:=fun{m p hv cc E hh mm} h C au=>by
  unfold fA at h;obtain⟨hint,h⟩:=A3 h;obtain⟨az,an⟩:=B4 hint;rw[M8]at h;simp only[C9,L1]at h;obtain⟨rfl,rfl⟩:=h;obtain⟨f1,f2,ao,al,Z,f3,f4⟩:=iX hS (.refl _);have Q:[hole i tg,p,hv].map (D3 Ora.env)=[.seq K wd rows,D3 Ora.env p,D3 Ora.env hv]:=by
   show[Ora.env i,_,_]=_;rw[e1]
  rw[Q]at f1;have av:tg-10=wd:=A2;rw[av]at f1;obtain⟨Y,l0,M,h0,a1,a2,a3,a4⟩:∃ Y l0 M h0,D3 Ora.env p=.int Y (.ofNat l0)/\D3 Ora.env hv=.int M (.ofNat h0)/\l0<=h0/\h0<=rows.length:=by
   have ar:evU (.subs wd) [.seq K wd rows,D3 Ora.env p,D3 Ora.env hv]≠.none:=by rw[<- f1,f3];intro h;cases h
   obtain⟨Y,l0,M,h0,W,B,_,q3,q4⟩:=ZK ar;exact⟨Y,l0,M,h0,W,B,q3,q4⟩
  rw[a1,a2]at f1;have f1:Ora.env m.lg.nx=if wd=wd/\l0<=h0/\h0<=rows.length then U.seq K wd ((rows.drop l0).take (h0-l0))else .none:=f1
  rw[A9 ⟨rfl,a3,a4⟩]at f1;obtain⟨rfl,R,b2,b3,b4,b5⟩:=au M h0 a2 a4;have b6:Bd E h0 0 l0:=by
   rcases C with⟨rfl,rfl⟩|⟨y,rfl,hy⟩
   .cases a1;exact .inl ⟨rfl,rfl⟩
   .obtain⟨j,rfl⟩:=AM hy az a1;exact .inr ⟨j,rfl,a3⟩
  have O:=sL (P:=P) (a:=a) (n:=n) (c:=c) hu hs R b2 b3 b6 w;have I:Enc l.G (Ora.env m.lg.nx) (.slice (if mm=l0 then a else a.map (·.add (l0*wd))) (h0-l0) (mm-l0)):=by
   rw[f1];rcases A2I (mm:=mm) F a3 a4 b4 (by rcases R with⟨_,rfl⟩|⟨_,_,R⟩<;>omega)with he|rfl
   .exact he
   .rcases o7 F with⟨rfl,rfl,H⟩|⟨_,_,_,H,_⟩
    .cases H;have z1:h0=0:=by simp at a4;exact a4
     have z2:l0=0:=A2;have z3:mm=0:=by
      rcases R with⟨_,rfl⟩|⟨_,_,R⟩<;>omega
     subst z1;subst z2;subst z3;exact .nil
    .cases H
  refine⟨⟨_,O,?_⟩,⟨_,rfl⟩,U6⟩;cases cc with
  | false=>exact .dat h1 I f2 A2 rfl
  | true =>
    refine .clp h1 I f2 A2 rfl ?_;show mm-l0=h0-l0;rw[b5 rfl]
 have A:∀ {hv y:Value} {kk:IntKind} {q:Nat},VR ρ hv y->wT hv=true->D3 Ora.env hv=.int kk (.ofNat q)->∃ j,y=.int j (.ofNat q):=fun h1 F h3=>AM h1 F h3
 have g:∀ {m:Mem} {p hv:Value} {cc:Bool},fA m b i tg p hv cc=some (v,m')->wT hv=true:=fun h=>by
  unfold fA at h;exact(B4 (A3 h).1).2
 have main:∀ p,(lo'=none/\p=.int .i64 0∨∃ y,lo'=some y/\VR ρ p y)->JA m b i tg cl p hi mx=some (v,m')->(∃ r,(Instr.sliceAt t (.slice a n c) lo' hi' mx').run P w=.ok r w/\VR ρ v r)/\J1 m m'/\m.lg.le m'.lg:=fun p C h=>by
  cases hi with
  | some hv =>
    obtain⟨ak,rfl,D⟩:=f N;cases mx with
    | none =>
      cases d J;have h:fA m b i tg p hv false=some (v,m'):=h;have hint:=g h;obtain⟨kk,q,H⟩:∃ kk q,D3 Ora.env hv=.int kk q:=by
       obtain⟨k,z,_,f2,_⟩:=L6 D (A1 hint);exact⟨k,z,f2⟩
      exact go (hh:=q.toNat) (mm:=c) h C fun S B h1 F=>by
       rw[H]at h1;injection h1 with _ h1
       subst h1;obtain⟨j,rfl⟩:=A D hint H;have e:(Int.ofNat B).toNat=B:=rfl;rw[e];exact⟨rfl,.inl ⟨rfl,rfl⟩,fun h=>(by cases h),.inr ⟨j,rfl,A2⟩,A2,fun h=>by cases h⟩
    | some x =>
      obtain⟨x',rfl,ay⟩:=f J;have h:(bif NS hv x then fA m b i tg p hv true else none)=some (v,m'):=h;obtain⟨L,h⟩:=A3 h;have hint:=g h
      have:=UL L D ay;subst this;obtain⟨kk,q,H⟩:∃ kk q,D3 Ora.env hv=.int kk q:=by
       obtain⟨k,z,_,f2,_⟩:=L6 D (A1 hint);exact⟨k,z,f2⟩
      exact go (hh:=q.toNat) (mm:=q.toNat) h C fun S B h1 F=>by
       rw[H]at h1;injection h1 with _ h1
       subst h1;obtain⟨j,rfl⟩:=A D hint H;have e:(Int.ofNat B).toNat=B:=rfl;rw[e];exact⟨rfl,.inr ⟨j,rfl,A2⟩,fun h=>(by cases h),.inr ⟨j,rfl,A6 _⟩,A6 _,fun _=>rfl⟩
  | none =>
    cases d N;cases mx with
    | some x=>cases h
    | none =>
      cases d J;unfold JA at h;simp only at h;split at h
      .rename_i hv m1 hl;have V:J1 m1 m'/\m1.lg.le m'.lg:=by
        unfold fA at h;obtain⟨_,h⟩:=A3 h;rw[M8]at h;simp only[C9,L1]at h;obtain⟨_,rfl⟩:=h;exact⟨⟨_,rfl⟩,U6⟩
       obtain⟨W,B,q3,q4⟩:=kK (ρ:=ρ) hl e1 (hS.le V.2);obtain⟨r1,r2,r3⟩:=go (hh:=rows.length) (mm:=c) h C fun S B h1 F=>by
        rw[q4]at h1;injection h1 with _ h1
        have h1:((rows.length:Nat):Int)=(B:Nat):=h1;have:B=rows.length:=A2;subst this;refine⟨rfl,.inl ⟨rfl,rfl⟩,fun _=>rfl,.inl ⟨rfl,hn.symm⟩,A2,fun hc=>?_⟩
        have:=aq hc;have:c=n:=this;omega
       exact⟨r1,B.trans r2,q3.trans r3⟩
      .cases h
 cases lo with
 | none=>exact main _ (.inl ⟨d T,rfl⟩) h
 | some y=>obtain⟨X,W,B⟩:=f T;exact main _ (.inr ⟨X,W,B⟩) h
end
end
section
open Go
variable [Ora]
section
variable {P:Program} {base:Nat} {ρ ρ':Ren} {m m':Mem} {w w':World}
def N7(R:Nat->Option Obj)(rows:List (List U))(wd:Nat)(C:Array Value)(o:Nat):Prop :=
 (∀ row ∈ rows,row.length=wd)/\∀ (r:Nat) (row:List U) (j:Nat) (u:U) (v:Value),rows[r]? = some row->row[j]? = some u->C[o+r*wd+j]? = some v->Enc R u v
def N7.mono{R d:Nat->Option Obj}{rows:List (List U)}{wd:Nat}{C:U9}(h:N7 R rows wd C o)(hs:Sub R d):N7 d rows wd C o:=⟨h.1,fun r row j u v a b c=>(h.2 r row j u v a b c).mono hs⟩
def N7.nil{R:Nat->Option Obj}{wd:Nat}{C:U9}:N7 R [] wd C o:=⟨fun _ h=>by(cases h),fun r row j u v h=>by simp at h⟩
def mK{wd:Nat}:∀ {n:Nat} {l:List U} {r:List (List U)},Z5 wd n l=some r->r.length=n/\l.length=n*wd/\(∀ row ∈ r,row.length=wd)/\∀ (q:Nat) (row:List U) (j:Nat) (u:U),r[q]? = some row->row[j]? = some u->l[q*wd+j]? = some u
 | 0,[],r,h=>by cases h;exact⟨rfl,by simp,fun _ h=>(by cases h),fun q row j u h=>by simp at h⟩
 | 0,_::_,r,h=>by cases h
 | n+1,l,r,h=>by
   unfold Z5 at h;split at h
   .rename_i hle;split at h
    .rename_i g hr;cases h;obtain⟨h1,c,h3,e⟩:=mK hr;have f:l.length=(n+1)*wd:=by
      rw[E4]at c;rw[H1];omega
     refine⟨by simp[h1],f,fun row b=>?_,fun q row j u g1 g2=>?_⟩
     .rcases B3.1 b with rfl|b
      .simp;omega
      .exact h3 row b
     .cases q with
      | zero =>
        simp at g1;subst g1;have d:=(B0.1 g2).1;simp at d;rw[F2 A2]at g2
        simpa using g2
      | succ q =>
        have:=e q row j u (by simpa using g1) g2;rw[H5]at this;rw[show(q+1)*wd+j=wd+(q*wd+j) by rw[H1];omega];exact this
    .cases h
   .cases h
def nP{wd:Nat}:∀ (n:Nat) (l:List U),l.length=n*wd->∃ r,Z5 wd n l=some r
 | 0,[],_=>⟨[],rfl⟩
 | 0,_::_,h=>by simp at h
 | n+1,l,h=>by
   rw[H1]at h;obtain⟨r,hr⟩:=nP (wd:=wd) n (l.drop wd) (by rw[E4];omega);refine⟨l.take wd::r,?_⟩;unfold Z5;rw[A9 A2,hr]
def mS{R:Nat->Option Obj}{wd n:Nat}{rows:List (List U)}(h:X7 R us vs)(b:Z5 wd n us=some rows):N7 R rows wd ⟨vs⟩ 0:=by
 obtain⟨h1,d,h3,c⟩:=mK b;refine⟨h3,fun r row j u v g1 g2 g3=>h.2 _ u v (c r row j u g1 g2) ?_⟩
 simpa using g3
def vO{α:Type}{l:List α}:∀ n,(LB l n).length=n*l.length
 | 0=>by simp[LB]
 | n+1=>by simp[LB,vO n,H1];omega
def fY(s:List UInt8):(iQ s).length=s.length:=by simp[iQ]
def GH{R:Nat->Option Obj}(s:List UInt8):N7 R (iQ s) 1 ⟨O5 s⟩ 0:=by
 refine⟨fun row hr=>?_,fun r row j u v g1 g2 g3=>?_⟩
 .unfold iQ at hr;obtain⟨b,_,rfl⟩:=L5.1 hr;rfl
 .unfold iQ at g1;rw[F9]at g1;cases c:s[r]? with
  | none=>rw[c]at g1;cases g1
  | some b =>
    rw[c]at g1;simp only[K3,C9]at g1;subst g1;cases j with
    | zero =>
      simp at g2;subst g2;have g3:(O5 s)[0+r*1+0]? = some v:=by simpa using g3
      unfold O5 at g3;rw[F9,show 0+r*1+0=r by omega,c]at g3;simp only[K3,C9]at g3;subst g3;exact .sc rfl
    | succ j=>simp at g2
def rY{G:Nat->Option Obj}{wd n c:Nat}{rows:List (List U)}(h:Enc G (.seq false wd rows) (.slice (some a) n c))(D:∀ k B,G k=some B->w.heap[k]? = some B) :
  n=rows.length/\∃ new',new'.length=rows.length*wd/\new'.all n9=true/\N7 G rows wd ⟨new'⟩ 0/\∀ (j:Nat) (v':Value),new'[j]? = some v'->w.cell? (a.add j)=some v':=by
 cases h with
 | sc h=>cases h
 | emp=>exact⟨rfl,[],by simp,rfl,.nil,fun j v' h=>by simp at h⟩
 | sl H F A hw f =>
   rename_i a o C T fz;refine⟨rfl,?_⟩;cases hr:rows with
   | nil=>exact⟨[],by simp,rfl,.nil,fun j v' h=>by simp at h⟩
   | cons I J =>
     have l:rows≠[]:=by rw[hr];simp
     rw[<- hr];have hh:=D _ _ (F l);have A:=A l;have hlen:((C.toList.drop o).take (rows.length*wd)).length=rows.length*wd:=by simp;omega
     have b:∀ j,j<rows.length*wd->((C.toList.drop o).take (rows.length*wd))[j]? = C[o+j]? := fun j d=>by
      rw[F2 d,H5];simp
     refine⟨_,hlen,?_,⟨hw,fun r row j u v g1 g2 g3=>?_⟩,fun j v' d=>?_⟩
     .refine D0.2 fun v hv=>?_
      obtain⟨j,d,e⟩:=Z6 hv;rw[hlen]at d;have y:C[o+j]? = some v:=by rw[<- b j d,A5 (by rw[hlen];exact d),e]
      have p:0<wd:=by
       rcases R4 wd with h0|h0
       .subst h0;omega
       .exact h0
      have h1:j / wd<rows.length:=by rw[Nat.div_lt_iff_lt_mul p];exact d
      have q:(rows[j / wd]).length=wd:=hw _ (M7 h1);have h3:j%wd<wd:=nV _ p;refine kX (f (j / wd) rows[j / wd] (j%wd) (rows[j / wd])[j%wd] v (A5 h1) (A5 (by rw[q];exact h3)) ?_);have:o+j / wd*wd+j%wd=o+j:=by have:=Nat.div_add_mod j wd;rw[y7]at this;omega
      rw[this];exact y
     .have E:0+r*wd+j<rows.length*wd:=by
       have t:=(B0.1 g1).1;have x:=(B0.1 g2).1;rw[hw _ (C6 g1)]at x;have q:(r+1)*wd<=rows.length*wd:=F3 wd t;rw[H1]at q;omega
      have g3:((C.toList.drop o).take (rows.length*wd))[0+r*wd+j]? = some v:=by simpa using g3
      rw[b _ E]at g3;exact f r row j u v g1 g2 (by rw[show o+r*wd+j=o+(0+r*wd+j) by omega];exact g3)
     .have g:=(B0.1 d).1;rw[hlen]at g;rw[b j g]at d;rw[J7.add_none'];simp[World.cell?,hh,d]
structure SX (P:Program) (ρ':Ren) (w:World) (wd:Nat) (bh:Beh) (gs:List Nat) (y':Value) (rows2:List (List U)) (new':List Value):Prop where
 len:∀ wd',(Builtin.lenOf y').run P wd'=.ok rows2.length wd'
 first:∀ wd':World,wd'.heap=w.heap->(Builtin.firstCells wd rows2.length y').run P wd'=.ok ⟨new'⟩ wd'
 size:new'.length=rows2.length*wd
 flat:new'.all n9=true
 rows:∀ R,(∀ b ∈ gs,∀ l,ρ' b=some l->Sub l.G R)->N7 R rows2 wd ⟨new'⟩ 0
 ev:∀ c nul rows,Ora.env c=.seq nul wd rows->evU (cL wd (hole c (10+wd)) bh).1 ((cL wd (hole c (10+wd)) bh).2.map (D3 Ora.env))=qL nul wd rows rows2
def AX{R:Nat->Option Obj}(h:X7 R us vs):vs.all n9=true:=by
 refine D0.2 fun v hv=>?_
 obtain⟨j,b,e⟩:=Z6 hv;have hu:j<us.length:=by rw[h.1];exact b
 exact kX (h.2 j us[j] v (A5 hu) (by rw[A5 b,e]))
def QP{td:Td}(N:yE P td){e:TypeId}{wd:Nat}{y y':Value}{bh:Beh}{gs:G5}(h:HR P base ρ m.H w)(p:A0a td P m e wd y=some (bh,gs,sure,m'))(hf:J6 ρ m.n m'.hi)(Q:VR ρ y y')(hS:Sat m'.lg)(V:0<wd)(W:G3 P e=some wd) :
  ∃ ρ' d new',St P base ρ ρ' m m' w w/\m.lg.le m'.lg/\e9 ρ m m'/\(∀ b ∈ gs,Hp.get m'.H b=some .frz/\∃ l,ρ' b=some l)/\SX P ρ' w wd bh gs y' d new'/\(sure=true->d≠[]):=by
 unfold A0a at p;split at p
 .cases p;cases O6 Q;refine⟨ρ,[],[],St.refl h,.refl _,.refl,fun b G=>(by cases G),⟨fun _=>rfl,fun _ _=>rfl,by simp,rfl,fun R _=>.nil,fun c g rows t=>?_⟩,fun h=>by cases h⟩;show evU (.snoc wd) [Ora.env c]=_;rw[t];show(if wd=wd/\wd≠0 then(match Z5 wd (([]:List U).length / wd) []with|some r=>qL g wd rows r|none=>.none)else .none)=_;rw[A9 ⟨rfl,A2⟩,W9,Nat.zero_div];rfl
 .rename_i a n c;split at p
  .rename_i cs ts hr az;split at p
   .rename_i xs aw m2 hd;cases p;have Y:dT m wd (.slice (some a) n c)=some (n,cs):=by simp only[dT,hr]
    obtain⟨f1,new',f2,f3⟩:=sY h Y Q;obtain⟨ρ2,F,L,O,B,Z,J⟩:=gS N h hd hf f2 hS;have ay:ts.length=wd:=by have:=gV az;rw[W]at this;exact(A8 this).symm
    have I:(xs.map (D3 Ora.env)).length=n*wd:=by
     have:=F0 List.length Z;rw[E3,vO,ay]at this;exact this
    obtain⟨d,C⟩:=nP (wd:=wd) n (xs.map (D3 Ora.env)) I;obtain⟨g1,g2,g3,g4⟩:=mK C;refine⟨ρ2,d,new',F,L,O,B,⟨fun q=>by rw[g1];exact f1 q,fun q E=>by rw[g1];exact f3 q E,?_,?_,fun R hR=>mS (J R hR) C,fun c g rows t=>?_⟩,fun hs=>?_⟩
    .have:=(J (fun k=>w.heap[k]?) (fun b G l T k o X=>by
      obtain⟨K,_⟩:=B b G;exact(F.hr.atl T K).1.2 k o X)).1
     rw[<- this,I,g1]
    .exact AX (J (fun k=>w.heap[k]?) (fun b G l T k o X=>by
      obtain⟨K,_⟩:=B b G;exact(F.hr.atl T K).1.2 k o X))
    .show evU (.snoc wd) (Ora.env c::xs.map (D3 Ora.env))=_;rw[t];show(if wd=wd/\wd≠0 then(match Z5 wd ((xs.map (D3 Ora.env)).length / wd) (xs.map (D3 Ora.env))with|some r=>qL g wd rows r|none=>.none)else .none)=_;rw[A9 ⟨rfl,A2⟩,I,j9 _ V,C]
    .have:0<n:=A1 hs;intro he;subst he;simp at g1;omega
   .cases p
  .cases p
 .split at p
  .rename_i x b m2 hd;cases p;obtain⟨ρ2,l,F,L,O,B,Z,J,e7⟩:=N.ok h hd hf Q hS;obtain⟨ax,f,d,K,q2⟩:=eZ B Z A2;have S:f=wd:=A2;subst S;have hG:=(F.hr.atl L O).1.2;rw[K]at B;have M:∀ c g rows,Ora.env c=.seq g f rows->evU (cL f (hole c (10+f)) (.rows x)).1 ((cL f (hole c (10+f)) (.rows x)).2.map (D3 Ora.env))=qL g f rows d:=fun c g rows t=>by
    show evU (.cat f) [Ora.env c,D3 Ora.env x]=_;rw[t,K];simp[evU]
   have A:∀ b' ∈ [b],Hp.get m'.H b'=some .frz/\∃ l,ρ2 b'=some l:=fun b' D=>by
    rcases B3.1 D with rfl|D
    .exact⟨O,l,L⟩
    .cases D
   rcases o7 B with⟨rfl,rfl,rfl⟩|⟨rfl,a,c,rfl,t⟩
   .exact⟨ρ2,[],[],F,J,e7,A,⟨fun _=>rfl,fun _ _=>rfl,by simp,rfl,fun R _=>.nil,M⟩,fun h=>by cases h⟩
   .obtain⟨_,new',g1,g2,g3,g4⟩:=rY (w:=w) B hG;refine⟨ρ2,d,new',F,J,e7,A,⟨fun _=>rfl,fun q E=>?_,g1,g2,fun R hR=>g3.mono (hR b (.head _) l L),M⟩,fun h=>by cases h⟩;rw[show Builtin.firstCells f d.length (.slice (some a) d.length c)=loadCells a (d.length*f)from rfl];exact kJ g1 fun j v' hj=>by rw[aY E];exact g4 j v' hj
  .cases p
 .obtain⟨h1,p⟩:=A3 p;obtain⟨h2,h3⟩:=B4 h1;have h4:=A0 h2;have h5:=A0 h3;cases p;subst h5;obtain⟨s,rfl,f1⟩:=g9 Q h4;refine⟨ρ,iQ s,O5 s,St.refl h,.refl _,.refl,fun b G=>(by cases G),⟨fun _=>?_,fun q _=>?_,by simp[iQ,O5],?_,fun R _=>GH s,fun c g rows t=>?_⟩,fun h=>by cases h⟩
  .rw[fY];rfl
  .rw[fY];have e:((ByteArray.extract ⟨⟨s⟩⟩ 0 s.length).data.map fun b=>Value.int .u8 b.toNat)=⟨O5 s⟩:=by
    rw[fL];apply I3;simp[O5]
   show(pure ((ByteArray.extract ⟨⟨s⟩⟩ 0 s.length).data.map fun b=>Value.int .u8 b.toNat):Sem U9).run P q=_;rw[e];rfl
  .refine D0.2 fun v hv=>?_
   unfold O5 at hv;obtain⟨b,_,rfl⟩:=L5.1 hv;rfl
  .show evU .cats [Ora.env c,D3 Ora.env y]=_;rw[t,f1];simp[evU]
end
end
section
open Go
variable [Ora]
section
variable {P:Program} {base:Nat} {ρ ρ':Ren} {m m':Mem} {w w':World}
def Sub.trans{A B C:Nat->Option Obj}(h:Sub A B)(k:Sub B C):Sub A C:=fun q o b=>k q o (h q o b)
structure A0w (P:Program) (base:Nat) (ρ:Ren) (m:Mem) (w:World) (e:TypeId) (wd c:Nat) (gs:List Nat) (old:Option Nat) (x':Value):Prop where
 ex:∃ nul rows,Ora.env c=.seq nul wd rows/\((nul=true/\rows=[]/\x'=.slice none 0 0/\(∀ b,old=some b->∃ ab l,b<=H3/\Hp.get m.H b=some ab/\ab.rw=true/\ρ b=some l/\l.on=false)) ∨
  (nul=false/\∃ b ab l cap C fz,old=some b/\b<=H3/\Hp.get m.H b=some ab/\ab.rw=true/\ρ b=some l/\l.on=true/\x'=.slice (some ⟨l.blk,l.sh,none⟩) rows.length cap/\w.heap[l.blk]? = some (.cells C e fz) /\
    rows.length<=cap/\l.sh+cap*wd<=C.size/\(∀ i,i<C.size->¬ (fz.1<=i/\i<fz.2))/\∀ R,(∀ b ∈ gs,∀ l,ρ b=some l->Sub l.G R)->N7 R rows wd C l.sh))
def JV{td:Td}(ai:yE P td){e:TypeId}{wd c:Nat}{x x':Value}{gs:G5}{old:Option Nat}(h:HR P base ρ m.H w)(d:BQ td P m e wd x=some (c,gs,old,m'))(hf:J6 ρ m.n m'.hi)(hx:VR ρ x x')(hS:Sat m'.lg)(av:0<wd)(k:G3 P e=some wd) :
  ∃ ρ',St P base ρ ρ' m m' w w/\m.lg.le m'.lg/\e9 ρ m m'/\A0w P base ρ' m' w e wd c gs old x':=by
 unfold BQ at d;split at d
 .rw[M8]at d;simp only[hole]at d;cases d;cases O6 hx;obtain⟨t,e2,_⟩:=iX hS (.refl _);refine⟨ρ,St.wLg h _,U6,e9.lg _,⟨true,[],t,.inl ⟨rfl,rfl,rfl,fun b hb=>by cases hb⟩⟩⟩
 .rename_i b i tg;split at d
  .rename_i c0 tc T g S;obtain⟨h1,d⟩:=A3 d;obtain⟨h1,L⟩:=B4 h1;obtain⟨h1,h3⟩:=B4 h1;obtain⟨L,A⟩:=B4 L;have h1:=A0 h1;have h3:=A0 h3;have L:=A0 L;have A:=A1 A;cases d;subst L;obtain⟨V,bz⟩:=eU hx;rcases V with⟨l,an,g1,g2,g3,rfl⟩|⟨l,an,ao,g1,g2,g3,g4,bt,rfl⟩
   .obtain⟨I,inf,t,e2,e3,f⟩:=SqR.ex (h.atl g1 S).1;rcases f with⟨_,f⟩|⟨f,_⟩
    .have:I=wd:=A2;subst this;refine⟨ρ,St.refl h,.refl _,.refl,⟨true,[],f,.inl ⟨rfl,rfl,rfl,fun b' au=>?_⟩⟩⟩;cases au;exact⟨_,l,A,S,rfl,g1,g2⟩
    .rw[g2]at f;cases f
   .obtain⟨I,inf,t,e2,e3,f⟩:=SqR.ex (h.atl g1 S).1;rcases f with⟨f,_⟩|⟨_,f⟩
    .rw[g2]at f;cases f
    .obtain⟨C,fz,T',rows,lg,f1,f2,f3,f4,f5,f6,f7,f8,f9⟩:=f;have:I=wd:=A2;subst this;obtain⟨rfl,f10⟩:=f9 rfl;exact⟨ρ,St.refl h,.refl _,.refl,⟨false,rows,f2,.inr ⟨rfl,b,_,l,l.cap,C,fz,rfl,A,S,rfl,g1,g2,by rw[f3],f1,A2,f5,f10,fun R hR=>⟨f6,fun r row j u v q1 q2 q3=>(f8 r row j u v q1 q2 q3).mono (hR g (.head _) lg f7)⟩⟩⟩⟩
  .cases d
 .rename_i b n c0;split at d
  .rename_i cs T0 br ts S af;obtain⟨hq,p⟩:=A3 d;obtain⟨ay,ax⟩:=B4 hq;have h1:=A0 ay;clear d;split at p
   .rename_i xs bs m1 hd;split at p
    .rename_i bu T Z;obtain⟨J,N⟩:=A3 p;clear p;obtain⟨J,A⟩:=B4 J;have h3:=A0 J;have A:=A1 A;subst h3;rw[M8]at N;simp only[hole]at N;cases N;have aa:J6 ρ m.n m1.hi:=by simpa using hf
     have ag:Sat m1.lg:=Q6.le hS U6;obtain⟨l,cap,q,bx,aj,az⟩:∃ l cap,ρ b=some l/\n<=cap/\(cap=n∨cap=l.cap)/\x'=.slice (some ⟨l.blk,0+l.sh,none⟩) n cap:=by
      rcases(I1 _ _).mp ax with y|y
      .obtain⟨M,F⟩:=B4 y;have M:=A0 M;have F:c0<L9:=A1 F;rcases O1 hx with⟨l,q,_,Q,rfl⟩|⟨l,c',q,_,al,W,X,rfl⟩|⟨a',c',_,_,y,_⟩
       .exact⟨l,c0,q,A2,.inl M,rfl⟩
       .omega
       .omega
      .have y:=A0 y;rcases O1 hx with⟨l,q,_,Q,rfl⟩|⟨l,c',q,_,al,W,X,rfl⟩|⟨a',c',_,_,F,_⟩
       .omega
       .exact⟨l,c',q,W,.inr (X y rfl),rfl⟩
       .omega
     obtain⟨⟨aq,C,fz,T1,f1,f2,_⟩,_⟩:=h.atl q S;obtain⟨cs',f4,f5⟩:=dA (ρ:=ρ) (C:=C) (cs:=cs) (s:=l.sh) f2;obtain⟨aw,t,e2,e3,f,e5,e6⟩:=gS ai h hd aa f4 ag;obtain⟨⟨_,C1,bw,T2,g1,g2,g3⟩,_⟩:=t.hr.atl (t.ext _ _ q) Z;rw[f1]at g1;cases g1;obtain⟨rfl,g4,g5⟩:=g3 rfl;have E:=gV af;rw[k]at E;have Q:ts.length=wd:=(A8 E).symm;have Y:(xs.map (D3 Ora.env)).length=n*wd:=by
      have:=F0 List.length e5;rw[E3,vO,Q]at this;exact this
     obtain⟨rows,G⟩:=nP (wd:=wd) n (xs.map (D3 Ora.env)) Y;obtain⟨q1,q2,q3,q4⟩:=mK G;obtain⟨d1,d2,_⟩:=iX hS (.refl _);have y:Ora.env m1.lg.nx=.seq false wd rows:=by
      rw[d1];show(if wd=0 then U.none else match Z5 wd ((xs.map (D3 Ora.env)).length / wd) (xs.map (D3 Ora.env))with|some r=>.seq false wd r|none=>.none)=_;rw[A7 A2,Y,j9 _ av,G]
     have ak:cs'.length=n*wd:=by rw[<- f4.1];exact h1
     obtain⟨inf,D,B⟩:∃ inf,P.info? T1=some inf/\inf.size=wd:=by
      unfold G3 at k;cases hi:P.info? T1 with
      | none=>rw[hi]at k;cases k
      | some inf=>rw[hi]at k;exact⟨inf,rfl,A8 k⟩
     have O:l.sh+cap*wd<=C.size:=by
      rcases aj with rfl|rfl
      .rcases R4 (cap*wd)with h0|h0
       .rw[h0]
        have:=g5 inf D;rw[B]at this;omega
       .have K:cap*wd-1<cs'.length:=A2
        have:=f5 (cap*wd-1) cs'[cap*wd-1] (A5 K)
        have:=(C5.1 this).1;omega
      .have:=g5 inf D;rw[B]at this;exact this.1
     have ae:=St.wLg t.hr (eL m1 (10+wd) (.mk wd) xs);refine⟨aw,St.trans (by simpa using hf) t ae,e2.trans U6,fun j lj hj ad=>by rw[jN];exact e3 j lj hj ad,⟨false,rows,y,.inr ⟨rfl,b,_,l,cap,C,fz,rfl,A,by rw[jN];exact Z,rfl,t.ext _ _ q,aq,by rw[az,q1,E9],f1,A2,O,g4,fun R hR=>?_⟩⟩⟩;obtain⟨r1,r2⟩:=mS (e6 R hR) G;refine⟨r1,fun r row j u v a1 a2 a3=>r2 r row j u v a1 a2 ?_⟩;have hq:r*wd+j<cs'.length:=by
      have ah:=(B0.1 a1).1;have ar:=(B0.1 a2).1;rw[r1 _ (C6 a1)]at ar;have L:(r+1)*wd<=rows.length*wd:=F3 wd ah;rw[H1]at L;rw[ak,<- q1];omega
     have:=f5 (r*wd+j) cs'[r*wd+j] (A5 hq);rw[show l.sh+r*wd+j=l.sh+(r*wd+j) by omega,this]at a3;have a3:=A8 a3;show(Array.mk cs')[0+r*wd+j]? = some v;rw[I0,show 0+r*wd+j=r*wd+j by omega,A5 hq,a3]
    .cases p
   .cases p
  .cases d
 .cases d
end
end
end Go.Sx
