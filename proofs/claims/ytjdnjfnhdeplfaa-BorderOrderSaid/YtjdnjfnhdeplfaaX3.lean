import Derived.Test.YtjdnjfnhdeplfaaX2
set_option linter.all false
set_option maxRecDepth 100000
set_option maxHeartbeats 4000000
namespace Go.Sx
open Go
variable {op:LOp}{s ty:TypeId}{hi i j o tg:Nat}{i' z z':Value}{u:U}{kh kk kl:IntKind}{hi' lo lo' mx mx':O8}{hs r' vs vs' xs:D0}{tys:List TypeId}{a:Addr}{m1:Mem}{row us:List U}{ts:G6}{cl sure:Bool}
section
open Go
variable [Ora]
section
variable {P:Program} {base:Nat} {ρ:Ren} {m m':Mem} {w:World}
def pk(k:IntKind)(n:Int):H8 (.int k n)=true:=rfl
def PJ{op:UnOp}{x x' v:Value}(h:CF m op x=some (v,m'))(l:VR ρ x x')(g:Sat m'.lg)(w:World):∃ r,(Op.unary op x').run P w=.ok r w/\VR ρ v r:=by
 unfold CF at h;simp only at h;split at h
 .obtain⟨h1,h⟩:=A2 h;obtain⟨b,rfl,e⟩:=eK l (A0 h1);obtain⟨u,c,p,r,d,f,_⟩:=K9 h g;simp only[B9,E5,e,evU,ev1,unM,ofV]at c;subst c;cases d;exact⟨_,(GH (P:=P) (ρ:=ρ) (op:=.not) (x:=.bool b) (v:=.bool !b) rfl (.pure rfl) w).1,f ρ⟩
 .obtain⟨h1,h⟩:=A2 h;obtain⟨k,n,rfl,e,_⟩:=L3 l (A1 h1);obtain⟨u,c,p,r,d,f,q⟩:=K9 h g;simp only[B9,E5,e,evU,ev1]at c;subst c;obtain⟨r',g1,g2⟩:=zY (by rw[p];exact q);rw[d]at g2;cases g2;exact⟨_,(GH (P:=P) (ρ:=ρ) g1 (.pure (pk k n)) w).1,f ρ⟩
def GO{t:TypeId}{x x' v:Value}(h:mS P m s t x=some (v,m'))(d:VR ρ x x')(g:Sat m'.lg)(w:World):∃ r,(convert s t x').run P w=.ok r w/\VR ρ v r:=by
 unfold mS at h;split at h
 .rename_i j k hs c;obtain⟨h1,h⟩:=A2 h;obtain⟨y,n,rfl,e,_⟩:=L3 d (A1 h1);obtain⟨u,f,A,r,l,p,q⟩:=K9 h g;simp only[B9,E5,e,evU]at f;subst f;cases l;exact⟨_,by simp[convert,A4,C8 hs,C8 c,Result.andThen,Conv.intToInt],p ρ⟩
 .rename_i hs c;obtain⟨h1,h⟩:=A2 h;cases h;obtain⟨b,rfl,e⟩:=i7 d (A0 h1);exact⟨_,by simp[convert,A4,C8 hs,C8 c,Result.andThen],d⟩
 .cases h
def fI{t:Nat}:∀ {cs:D0},d7 t cs=true->∀ {i:Nat} {v:Value},cs[i]? = some v->F9 v=t
 | [],_,i,v,h=>by simp at h
 | c::r,hs,i,v,h=>by
   obtain⟨h1,b⟩:=B6 (show(Nat.beq (F9 c) t && d7 t r)=true from hs);cases i with
   | zero=>simp at h;subst h;exact A0 h1
   | succ i=>exact fI b (by simpa using h)
def PY{t e:TypeId}{n:Nat}{cs:R3}{x' i v:Value}(hu:P.underlying t=some (.array n e))(D:Z7 P e=some false)(l:G3 P e=some 1)(F:cs.toList.length=n)(g:d7 tg cs.toList=true)(C:tg<10)
  (f:F9 i<8) (h:R4 m tg .sel (i::cs.toList)=some (v,m')) (y:VR ρ (.agg cs) x') (hi:VR ρ i i') (x:Sat m'.lg) (w:World):∃ r,(Instr.index t x' i').run P w=.ok r w/\VR ρ v r:=by
 obtain⟨k,z,rfl,e,_⟩:=L3 hi f;obtain⟨u,c,G,r,d,B,E⟩:=K9 h x;simp only[B9,e]at c;cases z with
 | negSucc z=>simp only[evU]at c;subst c;cases d
 | ofNat z =>
   simp only[evU]at c;by_cases p:z<cs.toList.length
   .have b:cs.toList[z]? = some cs.toList[z]:=A3 p;have q:=fI g b;have hm:iW P t (.agg cs) (.int k (.ofNat z))=some cs.toList[z]:=by
     have A:Nat.blt z n=true:=C6 A6;simp only[iW,hu,l,A,D9,nF,D,Nat.mul_one];exact b
    obtain⟨v',g1,g2⟩:=pJ (P:=P) hm y (.pure rfl) w;obtain⟨f1,_⟩:=r9 g2 A6;have:u=D5 Ora.env cs.toList[z]:=by
     rw[<- c,B3,F6,b];rfl
    rw[this,f1]at d;cases d;exact⟨_,g1,B ρ⟩
   .rw[B3,L5 (by simp at p ⊢;omega)]at c;subst c;cases d
def wU{e:TypeId}(h:Nat.beq (c9.sizeD P e) 1=true):G3 P e=some 1:=by
 have h:=A0 h;unfold c9.sizeD at h;split at h
 .rename_i n b;rw[b,h]
 .cases h
def CI{t:TypeId}{x x' i v:Value}(h:c9 P m t x i=some (v,m'))(p:VR ρ x x')(hi:VR ρ i i')(f:Sat m'.lg)(w:World):∃ r,(Instr.index t x' i').run P w=.ok r w/\VR ρ v r:=by
 unfold c9 at h;cases l:!(Nat.blt (F9 i) 8)with
 | true=>rw[l]at h;cases h
 | false =>
   have c:F9 i<8:=by
    have:Nat.blt (F9 i) 8=true:=by simpa using l
    exact A1 this
   rw[l]at h;simp only[D4]at h;split at h
   .rename_i hu;obtain⟨h1,h⟩:=A2 h;obtain⟨s,rfl,f1⟩:=i7 p (A0 h1);obtain⟨k,z,rfl,f2,_⟩:=L3 hi c;obtain⟨u,d,C,r,q,A,B⟩:=K9 h f;simp only[B9,E5,f1,f2]at d;cases z with
    | negSucc z=>simp only[evU]at d;subst d;cases q
    | ofNat z =>
      simp only[evU]at d;split at d
      .rename_i b y;subst d;cases q;have hm:iW P t (.string ⟨⟨s⟩⟩) (.int k (.ofNat z))=some (.int .u8 b.toNat):=by
        simp only[iW,hu,y]
       obtain⟨v',g1,g2⟩:=pJ (P:=P) (ρ:=ρ) hm (.pure rfl) (.pure rfl) w;cases I2 g2;exact⟨_,g1,A ρ⟩
      .subst d;cases q
   .rename_i n e hu;split at h
    .rename_i cs k he;obtain⟨h1,h⟩:=A2 h;obtain⟨h1,h3⟩:=B6 h1;obtain⟨h1,g⟩:=B6 h1;exact PY hu (by simp[Z7,he]) (wU h3) (A0 h1) g (by have:=K6 k;omega) c h p hi f w
    .rename_i cs he;obtain⟨h1,h⟩:=A2 h;obtain⟨h1,h3⟩:=B6 h1;obtain⟨h1,g⟩:=B6 h1;exact PY hu (by simp[Z7,he]) (wU h3) (A0 h1) g A6 c h p hi f w
    .cases h
   .cases h
def GQ{t:TypeId}(hu:P.underlying t=some .string){s:List UInt8}{l h:Int}{r:Value}(b:WW s l h=u)(c:toV u=some r):bD P t (.string ⟨⟨s⟩⟩) (some (.int kl l)) (some (.int kh h)) none=some r:=by
 unfold WW at b;split at b
 .rename_i l h;split at b
  .rename_i hh;subst b;cases c;have e:Nat.ble h (ByteArray.size ⟨⟨s⟩⟩)=true:=C6 hh.2;have d:Nat.ble l h=true:=C6 hh.1;simp only[bD,hu,R5,e,d,D9]
  .subst b;cases c
 .subst b;cases c
def CG{t:TypeId}{x x' v:Value}{hi:O8}(h:iB P m t x lo hi mx=some (v,m'))(H:VR ρ x x')(g:OR ρ lo lo')(f:OR ρ hi hi')(D:OR ρ mx mx')(C:Sat m'.lg)(w:World) :
  ∃ r,(Instr.sliceAt t x' lo' hi' mx').run P w=.ok r w/\VR ρ v r:=by
 have c:∀ {o:O8},OR ρ none o->o=none:=fun{o} h=>by cases o<;>first|rfl|exact h.elim
 have d:∀ {y:Value} {o:O8},OR ρ (some y) o->∃ J,o=some J/\VR ρ y J:=fun{y o} h=>by cases o<;>first|exact h.elim|exact⟨_,rfl,h⟩
 unfold iB at h;split at h
 .rename_i hu;cases c D;obtain⟨h1,h⟩:=A2 h;obtain⟨s,rfl,f1⟩:=i7 H (A0 h1);have B:∀ {y:Value},VR ρ (.string ⟨⟨s⟩⟩) y->y=.string ⟨⟨s⟩⟩:=fun h=>S3 h
  split at h
  .cases h;cases c g;cases c f;have hm:bD P t (.string ⟨⟨s⟩⟩) none none none=some (.string ⟨⟨s⟩⟩):=by
    have e:ByteArray.size ⟨⟨s⟩⟩=s.length:=rfl;simp[bD,hu,R5,e]
   obtain⟨v',g1,g2⟩:=eM (P:=P) (ρ:=ρ) (lo':=none) (hi':=none) (mx':=none) hm (.pure rfl) trivial trivial trivial w;cases S3 g2;exact⟨_,g1,H⟩
  .obtain⟨p,h⟩:=A2 h;obtain⟨l',rfl,E⟩:=d g;cases c f;obtain⟨k,z,rfl,f2,_⟩:=L3 E (A1 p);obtain⟨u,n,I,r,l,A,G⟩:=K9 h C;simp only[B9,E5,f1,f2,evU]at n;have hm:=GQ (P:=P) (kl:=k) (kh:=.i64) hu n l;have q:bD P t (.string ⟨⟨s⟩⟩) (some (.int k z)) none none=some r:=by
    rw[<- hm];have e:ByteArray.size ⟨⟨s⟩⟩=s.length:=rfl;have b:Nat.ble s.length s.length=true:=C6 (A7 _);have F:((s.length:Nat):Int)=Int.ofNat s.length:=rfl;simp only[bD,hu,R5,e,F,b,D9]
   obtain⟨v',g1,g2⟩:=eM (P:=P) (ρ:=ρ) (lo':=some (.int k z)) (hi':=none) (mx':=none) q (.pure rfl) (VR.pure rfl:VR ρ _ _) trivial trivial w;have:VR ρ r v':=g2;have hp:=eI l;cases g2 with
   | pure _=>exact⟨_,g1,A ρ⟩
   | _=>simp[H8,ixp,Go.Sx.dat,Go.Sx.clp,Go.Sx.own,Go.Sx.dpt,Go.Sx.opt,Go.Sx.yv,Go.Sx.sdt]at hp
  .obtain⟨p,h⟩:=A2 h;obtain⟨K,rfl,hh⟩:=d f;cases c g;obtain⟨k,z,rfl,f2,_⟩:=L3 hh (A1 p);obtain⟨u,n,I,r,l,A,G⟩:=K9 h C;have f0:D5 Ora.env (.int .i64 0)=.int .i64 0:=rfl;simp only[B9,E5,f1,f2,f0,evU]at n;have hm:=GQ (P:=P) (kl:=.i64) (kh:=k) hu n l;have q:bD P t (.string ⟨⟨s⟩⟩) none (some (.int k z)) none=some r:=by
    rw[<- hm];have F:(0:Int)=Int.ofNat 0:=rfl;cases z with
    | negSucc z=>simp only[bD,hu,R5]
    | ofNat z =>
      have L:Nat.ble 0 z=true:=C6 (jQ _);simp only[bD,hu,R5,F];cases Nat.ble z (ByteArray.size ⟨⟨s⟩⟩)<;>simp[L]
   obtain⟨v',g1,g2⟩:=eM (P:=P) (ρ:=ρ) (lo':=none) (hi':=some (.int k z)) (mx':=none) q (.pure rfl) trivial (VR.pure rfl:VR ρ _ _) trivial w;have hp:=eI l;cases g2 with
   | pure _=>exact⟨_,g1,A ρ⟩
   | _=>simp[H8,ixp,Go.Sx.dat,Go.Sx.clp,Go.Sx.own,Go.Sx.dpt,Go.Sx.opt,Go.Sx.yv,Go.Sx.sdt]at hp
  .obtain⟨p,h⟩:=A2 h;obtain⟨p,h3⟩:=B6 p;obtain⟨K,rfl,hh⟩:=d f;obtain⟨l',rfl,E⟩:=d g;obtain⟨k,z,rfl,f2,_⟩:=L3 E (A1 p);obtain⟨j,y,rfl,f3,_⟩:=L3 hh (A1 h3);obtain⟨u,n,I,r,l,A,G⟩:=K9 h C;simp only[B9,E5,f1,f2,f3,evU]at n;have hm:=GQ (P:=P) (kl:=k) (kh:=j) hu n l;obtain⟨v',g1,g2⟩:=eM (P:=P) (ρ:=ρ) (lo':=some (.int k z)) (hi':=some (.int j y)) (mx':=none) hm (.pure rfl) (VR.pure rfl:VR ρ _ _) (VR.pure rfl:VR ρ _ _) trivial w;have hp:=eI l;cases g2 with
   | pure _=>exact⟨_,g1,A ρ⟩
   | _=>simp[H8,ixp,Go.Sx.dat,Go.Sx.clp,Go.Sx.own,Go.Sx.dpt,Go.Sx.opt,Go.Sx.yv,Go.Sx.sdt]at hp
 .cases h
def vQ{b:Builtin}{ks:Array Bool}{v:Value}(hr:HR P base ρ m.H w)(h:cH P m b vs tys=some (v,m'))(x:LR ρ vs vs')(p:Sat m'.lg) :
  ∃ s:Sem Value,builtin b ⟨tys⟩ ty ks ⟨vs'⟩=(do pure (.value (<- s)))/\∃ r,s.run P w=.ok r w/\VR ρ v r:=by
 unfold cH at h;split at h
 .obtain⟨x',r1,rfl,h1,g⟩:=x.tail;cases g.nil_inv;split at h
  .rename_i hu;obtain⟨h3,h⟩:=A2 h;obtain⟨s,rfl,f1⟩:=i7 h1 (A0 h3);obtain⟨u,e,A,r,l,n,y⟩:=K9 h p;simp only[B9,E5,f1,evU]at e;subst e;cases l;rename_i t rest _ _;have hm:SI P m t (.string ⟨⟨s⟩⟩)=some (.int .i64 s.length):=by simp[SI,hu]
   obtain⟨g1,_⟩:=KM (ρ:=ρ) (ty:=ty) (tys:=rest) hr hm (.pure rfl);exact⟨_,rfl,_,g1,n ρ⟩
  .cases h
 .obtain⟨x',r1,rfl,h1,g⟩:=x.tail;obtain⟨B,r2,rfl,h3,q⟩:=g.tail;cases q.nil_inv;obtain⟨d,h⟩:=A2 h;obtain⟨d,f⟩:=B6 d;have d:=A1 d;have f:=A0 f;obtain⟨k,a,rfl,f1,q1⟩:=L3 h1 d;obtain⟨j,c,rfl,f2,q2⟩:=L3 h3 (f▸d);obtain⟨u,e,A,r,l,n,y⟩:=K9 h p;simp only[B9,E5,f1,f2,evU]at e;subst e;cases l;obtain⟨g1,_⟩:=KG (P:=P) (ρ:=ρ) (ty:=ty) (tys:=⟨tys⟩) (vs:=[.int k a,.int j c]) rfl (.cons (.pure rfl) (.cons (.pure rfl) .nil)) w;exact⟨_,rfl,_,g1,n ρ⟩
 .obtain⟨x',r1,rfl,h1,g⟩:=x.tail;obtain⟨B,r2,rfl,h3,q⟩:=g.tail;cases q.nil_inv;obtain⟨d,h⟩:=A2 h;obtain⟨d,f⟩:=B6 d;have d:=A1 d;have f:=A0 f;obtain⟨k,a,rfl,f1,q1⟩:=L3 h1 d;obtain⟨j,c,rfl,f2,q2⟩:=L3 h3 (f▸d);obtain⟨u,e,A,r,l,n,y⟩:=K9 h p;simp only[B9,E5,f1,f2,evU]at e;subst e;cases l;obtain⟨g1,_⟩:=KE (P:=P) (ρ:=ρ) (ty:=ty) (tys:=⟨tys⟩) (vs:=[.int k a,.int j c]) rfl (.cons (.pure rfl) (.cons (.pure rfl) .nil)) w;exact⟨_,rfl,_,g1,n ρ⟩
 .cases h
def MF{v:Value}{k:IntKind}{n:Int}(h:D5 Ora.env v=.int k n):mB Ora.env v=some n:=by
 cases v with
 | complex k i t =>
   cases k with
   | f64 =>
     have h:Ora.env i=.int _ n:=h;simp only[mB,h]
   | f32=>cases h
 | int j n=>cases h;rfl
 | _=>cases h
def BM{v:Value}{n:Int}(h:mB Ora.env v=some n):∃ k,D5 Ora.env v=.int k n:=by
 cases v with
 | complex k i t =>
   cases k with
   | f64 =>
     simp only[mB]at h;split at h
     .rename_i k z he;cases h;exact⟨k,he⟩
     .cases h
   | f32=>cases h
 | int j n=>cases h;exact⟨j,rfl⟩
 | _=>cases h
def KO{s n:Nat}{i v:Value}(h:NW m a s n i=some (v,m'))(hi:VR ρ i i')(g:Sat m'.lg):v=ixp a s i n/\∃ k z,i'=.int k (.ofNat z)/\z<n/\mB Ora.env i=some (.ofNat z):=by
 unfold NW at h;cases e:!(Nat.blt (F9 i) 8)with
 | true=>rw[e]at h;cases h
 | false =>
   have d:F9 i<8:=by
    have:Nat.blt (F9 i) 8=true:=by simpa using e
    exact A1 this
   rw[e]at h;simp only[D4]at h;split at h
   .rename_i b H k W hh lg q;split at h
    .rename_i t l;cases h;obtain⟨u,p,A,r,c,x,_⟩:=K9 q (N0.le g (cZ l));have f:=jK (ρ:=ρ) l (x ρ) g;subst f;obtain⟨y,z,rfl,f1,_⟩:=L3 hi d;have f0:D5 Ora.env (.int .i64 (.ofNat n))=.int .i64 (.ofNat n):=rfl;simp only[B9,E5,f1,f0,evU]at p;subst p;have c:(decide (0<=z) && decide (z<Int.ofNat n))=true:=by
      have:=A5 c;exact Value.bool.inj this
     simp only[H4,decide_eq_true_eq]at c;cases z with
     | negSucc z=>exact absurd c.1 (by simp)
     | ofNat z=>exact⟨rfl,y,z,rfl,by have:=c.2;simpa using this,MF f1⟩
    .cases h
   .cases h
def vL{t:TypeId}{x x' i v:Value}(h:cF P m t x i=some (v,m'))(g:VR ρ x x')(hi:VR ρ i i')(q:Sat m'.lg)(w:World):∃ r,(Instr.indexAt t x' i').run P w=.ok r w/\VR ρ v r:=by
 unfold cF at h;split at h
 .rename_i n e a hu;split at h
  .rename_i s hs d;obtain⟨rfl,k,z,rfl,f,he⟩:=KO h hi q;obtain⟨l,A,_,rfl⟩:=L8 g;have p:Nat.blt z n=true:=C6 f;have hm:V9 P t (.pointer (some a)) (.int k (.ofNat z))=some (.pointer (some ⟨a.block,a.off+z*s,none⟩)):=by
    simp only[V9,hu,hs,d,p,D9,y5,E6]
   obtain⟨v',g1,g2⟩:=aT (P:=P) hm g (.pure rfl) w;obtain⟨l2,b,_,rfl⟩:=L8 g2;have b:ρ a.block=some l2:=b;rw[A]at b;cases b;exact⟨_,g1,.ixp A d he f rfl⟩
  .cases h
 .rename_i e a n c hu;split at h
  .rename_i s hs d;cases y:Nat.beq c (L7+2)with
   | true=>rw[y]at h;cases h
   | false =>
     rw[y]at h;obtain⟨rfl,k,z,rfl,f,he⟩:=KO h hi q;have p:Nat.blt z n=true:=C6 f;have hm:V9 P t (.slice (some a) n c) (.int k (.ofNat z))=some (.pointer (some ⟨a.block,a.off+z*s,none⟩)):=by
      simp only[V9,hu,hs,d,p,D9,y5,E6]
     obtain⟨v',g1,g2⟩:=aT (P:=P) hm g (.pure rfl) w;obtain⟨l2,b,_,rfl⟩:=L8 g2;have b:ρ a.block=some l2:=b;exact⟨_,g1,.ixp b d he f rfl⟩
  .cases h
 .cases h
def KQ{s n:Nat}{i v':Value}(h:VR ρ (ixp a s i n) v'):∃ l z,ρ a.block=some l/\a.spot=none/\mB Ora.env i=some (.ofNat z)/\z<n/\v'=.pointer (some ⟨l.blk,a.off+z*s+l.sh,none⟩):=by
 generalize b:ixp a s i n=x at h;cases h with
 | ixp h hs hi d c =>
   simp only[ixp,Value.func.injEq,Y7,I3,Value.pointer.injEq,C7,Value.int.injEq,hJ,true_and,and_true]at b;obtain⟨rfl,rfl,rfl,rfl⟩:=b;exact⟨_,_,h,hs,hi,d,c⟩
 | pure hp=>subst b;simp[ixp,H8]at hp
 | _=>simp[ixp,Go.Sx.dat,Go.Sx.clp,Go.Sx.own,Go.Sx.dpt,Go.Sx.opt,Go.Sx.yv,Go.Sx.sdt]at b
def vN{x x' v:Value}(h:cG P m s x i=some (v,m'))(d:VR ρ x x')(w:World):∃ r,(Instr.fieldAt s x' i).run P w=.ok r w/\VR ρ v r:=by
 unfold cG at h;split at h
 .rename_i a k j n;split at h
  .rename_i t hu;split at h
   .rename_i f p e;split at h
    .rename_i z g;cases h;obtain⟨l,y,h1,q,h3,c,rfl⟩:=KQ (n:=n) (s:=k) (i:=j) d;have hm:aU P s (.pointer (some ⟨a.block,a.off+y*k,none⟩)) i=some (.pointer (some ⟨a.block,a.off+y*k+f.offset,none⟩)):=by
      simp only[aU,hu,p,g,y5,E6]
     obtain⟨v',g1,g2⟩:=jA (P:=P) (ρ:=ρ) hm (.ptr h1) w;obtain⟨l2,b,_,rfl⟩:=L8 g2;have b:ρ a.block=some l2:=b;rw[h1]at b;cases b;refine⟨_,g1,?_⟩;simp only[y5,E6];refine .ixp (a:=⟨a.block,a.off+f.offset,none⟩) h1 rfl h3 c ?_;simp only[Value.pointer.injEq,C7,Addr.mk.injEq,true_and,and_true];omega
    .cases h
   .cases h
  .cases h
 .cases h
def qC{cs:D0}{s:Nat}:∀ {n o:Nat} {l:D0},rL cs s o n=some l->l.length=n/\∀ z,z<n->cs[o+z*s]? = l[z]?
 | 0,o,l,h=>by cases h;exact⟨rfl,fun z d=>by omega⟩
 | n+1,o,l,h=>by
   unfold rL at h;split at h
   .rename_i v r c hr;cases h;obtain⟨h1,b⟩:=qC hr;refine⟨by simp[h1],fun z d=>?_⟩;cases z with
    | zero=>simpa using c
    | succ z =>
      have:=b z A6;rw[Nat.succ_mul,show o+(z*s+s)=o+s+z*s by omega]
      simpa using this
   .cases h
def qD{cs cs':D0}{s n:Nat}{i:Value}{z:Nat}(he:mB Ora.env i=some (.ofNat z))(q:z<n)(A:LR ρ cs cs'):∀ {k o:Nat} {m m':Mem} {r:D0},aM m cs s n i o k=some (r,m')->Sat m'.lg ->
  LR ρ r ((cs'.drop (o+z*s)).take k)/\r.length=k
 | 0,o,m,m',r,h,hS=>by cases h;exact⟨by simpa using LR.nil,rfl⟩
 | k+1,o,m,m',r,h,hS=>by
   unfold aM at h;split at h
   .rename_i v l e;obtain⟨g,h⟩:=A2 h;obtain⟨g,d⟩:=B6 g;have d:F9 v<10:=A1 d;split at h
    .rename_i hh m1 h1;split at h
     .rename_i r2 m2 x;cases h;obtain⟨p,t⟩:=qD he q A x hS;obtain⟨u,f,H,D,y,E,_⟩:=K9 h1 (N0.le hS (dL x).1);obtain⟨g1,g2⟩:=qC e;have b:=g2 z q;have c:z<(v::l).length:=by rw[g1];exact q
      rw[A3 c]at b;obtain⟨G,f1,f2⟩:=A.get b;have B:=fI g (A3 c);obtain⟨t1,_⟩:=r9 f2 A6;obtain⟨F,C⟩:=BM he;simp only[B9,C,evU]at f;have f:u=D5 Ora.env (v::l)[z]:=by
       rw[<- f];show(List.map (D5 Ora.env) (v::l)).getD z .none=_;rw[B3,F6,A3 c];rfl
      rw[f,t1]at y;cases y;refine⟨?_,by simp[t]⟩;have:(cs'.drop (o+z*s)).take (k+1)=D::(cs'.drop (o+1+z*s)).take k:=by
       rw[N5 (A9.1 f1).1,List.take_succ_cons,(A9.1 f1).2,show o+z*s+1=o+1+z*s by omega]
      rw[this];exact .cons (E ρ) p
     .cases h
    .cases h
   .cases h
def KJ{t:TypeId}{l:Loc}{z s n k:Nat}{i:Value}{cs:D0}(h:HR P base ρ m.H w)(hr:n9 m a ((n-1)*s+k)=some cs)(f:ρ a.block=some l)(he:mB Ora.env i=some (.ofNat z))(g:z<n)(e:aM m cs s n i 0 k=some (hs,m'))(d:Sat m'.lg) :
  ∃ rs,LR ρ hs rs/\rs.length=k/\∀ (j:Nat) (v':Value),rs[j]? = some v'->w.cell? ⟨l.blk,a.off+z*s+l.sh+j,none⟩=some v':=by
 obtain⟨r',h1,p,h3⟩:=Y9 h hr f;obtain⟨g1,g2⟩:=qD he g h1 e d;rw[E1]at g1;refine⟨_,g1,g1.1▸g2,fun j v' b=>?_⟩;have c:j<k:=by
  have:=(A9.1 b).1;simp at this;omega
 rw[F2 c,H3]at b
 have:=h3 _ v' b;rw[show a.off+z*s+l.sh+j=a.off+l.sh+(z*s+j) by omega];exact this
def GM{t:TypeId}{x x' v:Value}(h:HR P base ρ m.H w)(b:mR P m t x=some (v,m'))(k:VR ρ x x')(e:Sat m'.lg):∃ r,(Instr.loadAt t x').run P w=.ok r w/\VR ρ v r:=by
 unfold mR at b;split at b
 .rename_i a s i n;obtain⟨l,z,h1,y,h3,f,rfl⟩:=KQ (n:=n) (s:=s) (i:=i) k;split at b
  .rename_i d;split at b
   .rename_i cs hr;split at b
    .rename_i hh m2 c;cases b;obtain⟨rs,g1,g2,g3⟩:=KJ (t:=t) h hr h1 h3 f c e;obtain⟨v',r2,rfl,p,A⟩:=g1.tail;refine⟨v',?_,p⟩
     have:=g3 0 v' rfl;simp[Instr.loadAt,Instr.sureAddr,loadVar,A4,t6 d,Result.andThen,run_load,show w.cell? ⟨l.blk,a.off+z*s+l.sh,none⟩=some v' from by simpa using this]
    .cases b
   .cases b
  .rename_i q d g;split at b
   .rename_i cs hr;split at b
    .rename_i hh m2 c;cases b;obtain⟨rs,g1,g2,g3⟩:=KJ (t:=t) h hr h1 h3 f c e;refine⟨.agg ⟨rs⟩,?_,.agg g1.1 g1.2⟩;simp[Instr.loadAt,Instr.sureAddr,loadVar,A4,t6 d,J5 g,Result.andThen,J0 g2 g3]
    .cases b
   .cases b
  .cases b
 .cases b
def WV{fr:Fr}{g:Operand->Value}{o:Oper}{v:Value}(h:HR P base ρ m.H w)(f:PL P fr m o.op=some (v,m'))(C:FR ρ fr g o.op)(k:Sat m'.lg):NOk P base ρ m w (execOp g o) v m':=by
 obtain⟨_,lg,rfl⟩:=JC f;have p:St P base ρ ρ m (m.wLg lg) w w:=St.wLg h lg;obtain⟨dst,op,ty,pos,J,I⟩:=o;simp only at f C;have d:∀ {x},x ∈ op.operands.toList->VR ρ (ev fr x) (g x):=fun A=>C _ A
 have fin:∀ {s:Sem Value},(∃ r,s.run P w=.ok r w/\VR ρ v r)->NOk P base ρ m w (do pure (.value (<- s))) v (m.wLg lg):=fun{s} ⟨r,h1,E⟩=>NOk.of ⟨r,ρ,w,h1,E,p⟩
 unfold PL at f;split at f
 .rename_i c a b;have D:=d (x:=c) (by simp[Op.operands]);unfold rJ at f;obtain⟨H,n,W,hi,l0⟩:=m;simp only at f;split at f
  .rename_i l1 B;simp only[C7,J1]at f;obtain⟨rfl,f⟩:=f;have q:Sat l1:=by
    have:l1=(Mem.wLg ⟨H,n,W,hi,l0⟩ lg).lg:=by rw[<- f]
    rw[this];exact k
   have:=jK B D q;exact⟨g a,ρ,w,.inl (by simp[execOp,this,asBool]),d (by simp[Op.operands]),p⟩
  .rename_i l1 B;simp only[C7,J1]at f;obtain⟨rfl,f⟩:=f;have q:Sat l1:=by
    have:l1=(Mem.wLg ⟨H,n,W,hi,l0⟩ lg).lg:=by rw[<- f]
    rw[this];exact k
   have:=jK B D q;exact⟨g b,ρ,w,.inl (by simp[execOp,this,asBool]),d (by simp[Op.operands]),p⟩
  .cases f
 .rename_i op t x y L;have A:=d (x:=x) (by simp[Op.operands]);have l:=d (x:=y) (by simp[Op.operands]);refine fin (s:=do eqGuard op t x y (g x) (g y);binOp op t (g x) (g y)) ?_;split at f
  .rename_i r hr;cases f;exact MS hr A l k w
  .rename_i hr;exact PM f A l hr k w
 .rename_i op t x;exact fin (s:=Op.unary op (g x)) (PJ f (d (by simp[Op.operands])) k w)
 .exact fin (GO f (d (by simp[Op.operands])) k w)
 .rename_i t x lo hi mx;exact fin (s:=Instr.sliceAt t (g x) (lo.map g) (hi.map g) (mx.map g)) (CG f (d (x:=x) (by simp[Op.operands])) (fY (g:=g) fun y l=>d (by simp[Op.operands]at l ⊢;exact .inr (.inl l))) (fY (g:=g) fun y l=>d (by simp[Op.operands]at l ⊢;exact .inr (.inr (.inl l)))) (fY (g:=g) fun y l=>d (by simp[Op.operands]at l ⊢;exact .inr (.inr (.inr l)))) k w)
 .exact fin (CI f (d (by simp[Op.operands])) (d (by simp[Op.operands])) k w)
 .exact fin (vL f (d (by simp[Op.operands])) (d (by simp[Op.operands])) k w)
 .exact fin (vN f (d (by simp[Op.operands])) w)
 .rename_i t x;exact fin (s:=Instr.loadAt t (g x)) (GM h f (d (by simp[Op.operands])) k)
 .rename_i b xs tys;have l1:=bG (ρ:=ρ) (fr:=fr) (g:=g) (xs:=xs.toList) fun x A=>d (by show x ∈ (#[]++xs:Array Operand).toList;simpa using A)
  obtain⟨ks,G⟩:∃ ks,execOp g ⟨dst,.call ⟨.builtin b,xs,tys⟩,ty,pos,J,I⟩=builtin b tys ty ks (xs.map g):=⟨_,rfl⟩;obtain⟨s,e,hs⟩:=vQ (ty:=ty) (ks:=ks) h f l1 k;have K:xs.map g=⟨xs.toList.map g⟩:=by apply I1;simp
  rw[G,K];have F:tys=⟨tys.toList⟩:=rfl;rw[F,e];exact fin hs
 .cases f
end
end
section
open Go
variable [Ora]
section
variable {P:Program} {base:Nat} {ρ ρ':Ren} {m m':Mem} {w w':World}
def I8.step(e:I8 ρ m.n hi)(st:St P base ρ ρ' m m1 w w'):I8 ρ' m1.n hi:=fun b h1 c=>by
 cases d:ρ' b with
 | none=>rfl
 | some l =>
   cases h0:ρ b with
   | some l0=>rw[e b (B8 st.nle h1) c]at h0;cases h0
   | none=>have:=(st.new b l d h0).2;omega
def I8.less{n hi':Nat}(d:I8 ρ n hi)(h:hi'<=hi):I8 ρ n hi':=fun b h1 c=>d b h1 (C9 c h)
def dH(m:Mem)(t:Nat)(op:LOp)(xs:List Value):Lg:=⟨m.lg.nx+1,m.lg.pi,.dt m.lg.nx t op xs::m.lg.log⟩
def M3{t:Nat}{k:Nat->Mem->Res}:rD m t op xs k=k m.lg.nx (m.wLg (dH m t op xs)):=by
 obtain⟨H,n,W,hi,⟨nx,pi,log⟩⟩:=m;simp only[rD,E6,H5];rfl
def ED{t:Nat}{k:Nat->Mem->Option (D0×Mem)}:W4.letDo t op xs m k=k m.lg.nx (m.wLg (dH m t op xs)):=by
 obtain⟨H,n,W,hi,⟨nx,pi,log⟩⟩:=m;simp only[W4.letDo,E6,H5];rfl
@[simp] theorem Z4(lg:Lg):(m.wLg lg).lg=lg:=by cases m;rfl
@[simp] theorem hZ(lg:Lg):(m.wLg lg).H=m.H:=by cases m;rfl
@[simp] theorem OX(lg:Lg):(m.wLg lg).n=m.n:=by cases m;rfl
@[simp] theorem GG(lg:Lg):(m.wLg lg).hi=m.hi:=by cases m;rfl
@[simp] theorem A4t(lg:Lg):(m.wLg lg).W=m.W:=by cases m;rfl
def T9{t:Nat} :m.lg.le (m.wLg (dH m t op xs)).lg:=by
 rw[Z4];exact⟨[_],rfl⟩
def gQ{t:Nat}{lg:Lg}(e:Sat lg)(d:(m.wLg (dH m t op xs)).lg.le lg):Ora.env m.lg.nx=evU op (xs.map (D5 Ora.env))/\F3 (Ora.env m.lg.nx)=t/\∃ b wd rows,Ora.env m.lg.nx=.seq b wd rows/\t=10+wd:=by
 obtain⟨h1,c,b,wd,rows,h3⟩:=e _ (d.subset (by rw[Z4];exact B5));exact⟨h1,c,b,wd,rows,h3,by rw[<- c,h3];rfl⟩
def bQ{b:Nat}(h:lT m b=true):Hp.get m.H b=some .frz:=by
 unfold lT at h;split at h
 .assumption
 .cases h
def KS{b:Nat}(h:lT m b=true):b<=G9:=by
 unfold lT at h;split at h
 .exact A1 h
 .cases h
def SX{b:Nat}(hr:HR P base ρ m.H w)(h:lT m b=true):∃ l,ρ b=some l:=by
 obtain⟨l,h1,_⟩:=hr.at_ b (KS h) _ (bQ h);exact⟨l,h1⟩
def O9{k:Nat->Mem->Option (Value×Nat×Mem)}{r:Value×Nat×Mem}(h:eC m k=some r):∃ m1,Y0 m .frz (fun _=>undef)=some (undef,m1)/\k m.n m1=some r/\m1.H=m.H.set m.n (some .frz)/\m.n<=G9/\m1.lg=m.lg:=by
 obtain⟨H,n,W,hi,lg⟩:=m;simp only[eC,E6,cK]at h;obtain⟨h1,b⟩:=A2 h;refine⟨_,?_,b,rfl,A1 h1,rfl⟩;simp only[Y0,E6,cK,h1,D9]
def hP(G:Nat->Option Obj):Loc:=⟨0,0,0,0,G,false⟩
def St.region{G:Nat->Option Obj}(h:HR P base ρ m.H w)(f:Y0 m .frz (fun _=>undef)=some (undef,m1))(x:I8 ρ m.n m1.hi)
  (g:∀ k o,G k=some o->w.heap[k]? = some o/\∃ id ab l,id<=G9/\Hp.get m.H id=some ab/\ρ id=some l/\Tf ab l k/\ab.rw=false) :
  upd ρ m.n (hP G) m.n=some (hP G)/\Hp.get m1.H m.n=some .frz/\St P base ρ (upd ρ m.n (hP G)) m m1 w w:=by
 obtain⟨h1,p,h3⟩:=St.new0 (l':=hP G) h f x ⟨rfl,fun k o hk=>(g k o hk).1⟩ rfl fun q b=>by
  rcases b with⟨b,_⟩|⟨_,o,b⟩
  .cases b
  .obtain⟨g1,id,ab,l,g2,g3,g4,g5,g6⟩:=g q o b;refine⟨⟨id,ab,l,g2,g3,g4,g5⟩,fun t d a l2 c r hr v e=>?_⟩
   have:=((h.atl r c).2 hr v).2 id g2 ab l g3 g4 (e▸g5.2);subst this;rw[g3]at c;have c:=A5 c;subst c;rw[g6]at hr;cases hr
 refine⟨p,?_,h3⟩;obtain⟨hle,_,rfl⟩:=K5 f;show Hp.get (m.H.set m.n (some .frz)) m.n=_;rw[E9 _ _ _ _ hle hle,B2 rfl]
theorem kO{b i t:Nat}{v':Value}(h:VR ρ (dat b i t) v'):∃ l,ρ b=some l/\Enc l.G (Ora.env i) v'/\F3 (Ora.env i)=t/\10<=t:=by
 generalize c:dat b i t=x at h;cases h with
 | dat h he e d f =>
   simp only[dat,Value.func.injEq,Y7,I3,Value.pointer.injEq,C7,Addr.mk.injEq,Value.complex.injEq,true_and,and_true]at c;obtain⟨rfl,rfl,rfl⟩:=c;exact⟨_,h,he,e,d⟩
 | pure hp=>subst c;simp[dat,H8]at hp
 | _=>simp[ixp,Go.Sx.dat,Go.Sx.clp,Go.Sx.own,Go.Sx.dpt,Go.Sx.opt,Go.Sx.yv,Go.Sx.sdt]at c
theorem dO{b i t:Nat}{v':Value}(h:VR ρ (clp b i t) v'):∃ l,ρ b=some l/\Enc l.G (Ora.env i) v'/\F3 (Ora.env i)=t/\10<=t/\UM v':=by
 generalize c:clp b i t=x at h;cases h with
 | clp h he e d g f =>
   simp only[clp,Value.func.injEq,Y7,I3,Value.pointer.injEq,C7,Addr.mk.injEq,Value.complex.injEq,true_and,and_true]at c;obtain⟨rfl,rfl,rfl⟩:=c;exact⟨_,h,he,e,d,f⟩
 | pure hp=>subst c;simp[clp,H8]at hp
 | _=>simp[ixp,Go.Sx.dat,Go.Sx.clp,Go.Sx.own,Go.Sx.dpt,Go.Sx.opt,Go.Sx.yv,Go.Sx.sdt]at c
theorem aF{b i t:Nat}{v':Value}(h:VR ρ (own b i t) v'):HL ρ b (Ora.env i) v'/\F3 (Ora.env i)=t:=by
 generalize c:own b i t=x at h;cases h with
 | own h d e =>
   simp only[own,Value.func.injEq,Y7,I3,Value.pointer.injEq,C7,Addr.mk.injEq,Value.complex.injEq,true_and,and_true]at c;obtain⟨rfl,rfl,rfl⟩:=c;exact⟨h,d⟩
 | pure hp=>subst c;simp[own,H8]at hp
 | _=>simp[ixp,Go.Sx.dat,Go.Sx.clp,Go.Sx.own,Go.Sx.dpt,Go.Sx.opt,Go.Sx.yv,Go.Sx.sdt]at c
def AL{b t:Nat}{v':Value}(h:VR ρ (dpt b i t z o) v'):A3B ρ b (Ora.env i) (mB Ora.env z) o v'/\F3 (Ora.env i)=t:=by
 generalize c:dpt b i t z o=x at h;cases h with
 | dpt h d e =>
   simp only[dpt,Value.func.injEq,Y7,I3,Value.pointer.injEq,C7,Addr.mk.injEq,Value.complex.injEq,Value.int.injEq,hJ,true_and,and_true]at c;obtain⟨rfl,⟨rfl,rfl⟩,rfl,rfl⟩:=c;exact⟨h,d⟩
 | pure hp=>subst c;simp[dpt,H8]at hp
 | _=>simp[ixp,Go.Sx.dat,Go.Sx.clp,Go.Sx.own,Go.Sx.dpt,Go.Sx.opt,Go.Sx.yv,Go.Sx.sdt]at c
def rS{b t:Nat}{v':Value}(h:VR ρ (opt b i t z o) v'):A2l ρ b (Ora.env i) (mB Ora.env z) o v'/\F3 (Ora.env i)=t:=by
 generalize c:opt b i t z o=x at h;cases h with
 | opt h d e =>
   simp only[opt,Value.func.injEq,Y7,I3,Value.pointer.injEq,C7,Addr.mk.injEq,Value.complex.injEq,Value.int.injEq,hJ,true_and,and_true]at c;obtain⟨rfl,⟨rfl,rfl⟩,rfl,rfl⟩:=c;exact⟨h,d⟩
 | pure hp=>subst c;simp[opt,H8]at hp
 | _=>simp[ixp,Go.Sx.dat,Go.Sx.clp,Go.Sx.own,Go.Sx.dpt,Go.Sx.opt,Go.Sx.yv,Go.Sx.sdt]at c
def xX{b c tc g t:Nat}{T:TypeId}{v':Value}(h:HR P base ρ m.H w)(E:Hp.get m.H b=some (.sq c tc T g true))(O:VR ρ (own b i t) v')(B:tc=t)(y:Hp.get m.H g=some .frz)
  (L:Y0 m .frz (fun _=>undef)=some (undef,m1)) (N:I8 ρ m.n m1.hi):∃ l,St P base ρ (upd ρ m.n l) m m1 w w/\upd ρ m.n l m.n=some l/\Hp.get m1.H m.n=some .frz/\Enc l.G (Ora.env c) v'/\F3 (Ora.env c)=t:=by
 obtain⟨A,M⟩:=aF O;rcases A with⟨l,wd,h1,D,h3,rfl⟩|⟨l,wd,rows,h1,D,h3,V,S,rfl⟩
 .obtain⟨p,_⟩:=h.atl h1 E;obtain⟨q,inf,K,R,Q,d⟩:=SqR.ex p;rcases d with⟨_,d⟩|⟨d,_⟩
  .obtain⟨g1,g2,g3⟩:=St.region (G:=fun _=>none) h L N (fun k o hk=>by cases hk);exact⟨_,g3,g1,g2,by rw[d];exact .nil,by rw[d,<- B,K];rfl⟩
  .rw[D]at d;cases d
 .obtain⟨p,_⟩:=h.atl h1 E;obtain⟨q,inf,K,R,Q,d⟩:=SqR.ex p;rcases d with⟨d,_⟩|⟨_,d⟩
  .rw[D]at d;cases d
  .obtain⟨C,fz,J,F,lg,f1,f2,f3,f4,f5,f6,f7,f8,f9⟩:=d;obtain⟨I,_⟩:=h.atl f7 y;have f:∀ k o,lg.G k=some o->w.heap[k]? = some o:=I.2;let G:Nat->Option Obj:=fun k=>if k=l.blk then some (.cells C J fz)else lg.G k
   have x:∀ k o,lg.G k=some o->G k=some o:=fun k o hk=>by
    show(if k=l.blk then _ else _)=_;by_cases e:k=l.blk
    .subst e;rw[B2 rfl]
     have:=f _ _ hk;rw[f1]at this;exact this
    .rw[B0 e];exact hk
   obtain⟨g1,g2,g3⟩:=St.region (G:=G) h L N fun k o hk=>by
    have hk:(if k=l.blk then some (.cells C J fz)else lg.G k)=some o:=hk;by_cases e:k=l.blk
    .subst e;rw[B2 rfl]at hk;exact⟨by rw[f1];exact hk,b,_,l,h.dom _ _ h1,E,h1,⟨rfl,.inl ⟨rfl,D,rfl⟩⟩,rfl⟩
    .rw[B0 e]at hk;exact⟨f _ _ hk,g,_,lg,h.dom _ _ f7,y,f7,⟨rfl,.inr ⟨rfl,o,hk⟩⟩,rfl⟩
   refine⟨_,g3,g1,g2,?_,by rw[f2,<- B,K];rfl⟩;rw[f2,<- f3];refine .sl (G:=G) (C:=C) (T:=J) (fz:=fz) A6 (fun _=>?_) (fun _=>?_) f6 fun r row j u v q1 q2 q3=>(f8 r row j u v q1 q2 q3).mono x
   .show(if l.blk=l.blk then _ else _)=_;rw[B2 rfl]
   .have:=E7 q f4;rw[<- f3]at this;omega
def BR.thaw{c t g:Nat}{T:TypeId}{l:Loc}(h:BR P ρ (.sq c t T g false) l w):BR P ρ (.sq c t T g true) l w:=by
 obtain⟨wd,inf,h1,e,h3,f⟩:=SqR.ex h;refine⟨⟨wd,inf,h1,e,h3,f.imp (fun x=>x) fun⟨b,d⟩=>⟨b,?_⟩⟩⟩;obtain⟨C,fz,p,rows,lg,h1,e,h3,f,d,n,q,k,r⟩:=d;exact⟨C,fz,p,rows,lg,h1,e,h3,f,d,n,q,k,fun h=>by cases h⟩
def sY{id:Nat}{ab:AB}(h:aK m id ab=some m')(b:j<=G9):Hp.get m'.H j=if j=id then some ab else Hp.get m.H j:=by
 obtain⟨hle,rfl⟩:=S2 h;exact E9 _ _ _ _ hle b
def iO{ab:AB}{k:Nat->Value}{v:Value}(h:Y0 m ab k=some (v,m'))(b:j<=G9):Hp.get m'.H j=if j=m.n then some ab else Hp.get m.H j:=by
 obtain⟨hle,_,rfl⟩:=K5 h;exact E9 _ _ _ _ hle b
def zJ{t:Nat}{v v' x:Value}{b:Nat}(h:HR P base ρ m.H w)(d:toD t v m=some (x,b,m'))(M:I8 ρ m.n m'.hi)(E:VR ρ v v')(X:Sat m'.lg) :
  ∃ ρ' l,St P base ρ ρ' m m' w w/\ρ' b=some l/\Hp.get m'.H b=some .frz/\Enc l.G (D5 Ora.env x) v'/\F3 (D5 Ora.env x)=t/\m.lg.le m'.lg:=by
 unfold toD at d;split at d
 .rename_i F i tg;obtain⟨h1,f⟩:=A2 d;cases f;obtain⟨h1,f⟩:=B6 h1;have h1:=A0 h1;obtain⟨l,y,r,C,J⟩:=kO E;exact⟨ρ,l,St.refl h,y,bQ f,r,C.trans h1,.refl _⟩
 .rename_i F i tg;obtain⟨h1,f⟩:=A2 d;cases f;obtain⟨h1,f⟩:=B6 h1;have h1:=A0 h1;obtain⟨l,y,r,C,J,_⟩:=dO E;exact⟨ρ,l,St.refl h,y,bQ f,r,C.trans h1,.refl _⟩
 .rename_i F i tg;split at d
  .rename_i c tc T g D;obtain⟨h1,f⟩:=A2 d;obtain⟨h1,h3⟩:=B6 h1;obtain⟨h1,B⟩:=B6 h1;have h1:=A0 h1;have B:=A0 B;obtain⟨m1,q1,q2,_,_,q5⟩:=O9 f;cases q2;subst h1;obtain⟨l,y,r,C,J,Q⟩:=xX h D E B (bQ h3) q1 M;exact⟨_,l,y,r,C,J,Q,by rw[q5];exact .refl _⟩
  .rename_i c tc T g D;obtain⟨h1,f⟩:=A2 d;obtain⟨h1,h3⟩:=B6 h1;have V:=KS h3;obtain⟨h1,B⟩:=B6 h1;have h1:=A0 h1;have B:=A0 B;split at f
   .rename_i m1 hs;obtain⟨m2,q1,q2,_,_,q5⟩:=O9 f;cases q2;subst h1;have R:∃ l0,ρ F=some l0:=by
     rcases(aF E).1 with⟨l,_,h1,_⟩|⟨l,_,_,h1,_⟩<;>exact⟨l,h1⟩
    obtain⟨l0,K⟩:=R;have S:=(h.atl K D).1;have p:=St.same0 h hs D rfl K S.thaw (fun q Y=>by
     rcases Y with⟨_,a,b⟩|⟨a,_⟩
     .exact .inl ⟨rfl,a,b⟩
     .cases a)
    have hle:=(S2 hs).1;have N:g≠F:=fun e=>by subst e;rw[bQ h3]at D;cases D
    have W:Hp.get m1.H F=some (.sq c tc T g true):=by rw[sY hs hle,B2 rfl]
    have I:Hp.get m1.H g=some .frz:=by rw[sY hs V,B0 N];exact bQ h3
    have O:m1.n=m.n:=by rw[(S2 hs).2]
    obtain⟨l,y,r,C,J,Q⟩:=xX p.hr W E B I q1 (by rw[O];exact M);refine⟨_,l,St.trans M p y,r,C,J,Q,by rw[q5,(S2 hs).2];exact .refl _⟩
   .cases f
  .cases d
 .obtain⟨L,d⟩:=A2 d;have L:=A1 L;rw[M3]at d;simp only at d;obtain⟨m1,q1,q2,_,_,q5⟩:=O9 d;cases q2;cases N9 E;have A:(m.wLg (dH m t (.nilw (t-10)) [])).lg.le m'.lg:=by rw[q5];exact .refl _
  obtain⟨y,r,_⟩:=gQ X A;have p:=St.wLg h (dH m t (.nilw (t-10)) []);obtain⟨g1,g2,g3⟩:=St.region (G:=fun _=>none) p.hr q1 (by simpa using M) (fun k o hk=>by cases hk);refine⟨_,_,St.trans (by simpa using M) p g3,g1,g2,?_,r,T9.trans A⟩;show Enc _ (Ora.env m.lg.nx) _;rw[y];exact .nil
 .cases d
end
end
section
open Go
variable [Ora]
section
variable {P:Program} {base:Nat} {ρ ρ':Ren} {m m':Mem} {w w':World}
def g9(ρ:Ren)(m m':Mem):Prop:=∀ j l,ρ j=some l->Hp.get m.H j=some .frz->Hp.get m'.H j=some .frz
def g9.refl:g9 ρ m m:=fun _ _ _ h=>h
def g9.trans(he:∀ b l,ρ b=some l->ρ' b=some l)(a:g9 ρ m m1)(c:g9 ρ' m1 m'):g9 ρ m m':=fun j l h1 d=>c j l (he j l h1) (a j l h1 d)
def g9.lg(lg:Lg):g9 ρ m (m.wLg lg):=fun j l _ h=>by rw[hZ];exact h
def EF{ab:AB}{k:Nat->Value}{v:Value}(h:HR P base ρ m.H w)(b:Y0 m ab k=some (v,m'))(d:I8 ρ m.n m'.hi):g9 ρ m m':=fun j l h1 c=>by
 rw[iO b (h.dom j l h1),B0]
 .exact c
 .intro e;subst e;obtain⟨_,_,rfl⟩:=K5 b;rw[d m.n (A7 _) (J7 _ _).2]at h1;cases h1
def SL{ab:AB}{id:Nat}(h:HR P base ρ m.H w)(hs:aK m id ab=some m')(b:Hp.get m.H id≠some .frz):g9 ρ m m':=fun j l h1 c=>by
 rw[sY hs (h.dom j l h1),B0]
 .exact c
 .intro e;subst e;exact b c
def CA{t:Nat}{v x:Value}{b:Nat}(h:HR P base ρ m.H w)(d:toD t v m=some (x,b,m'))(r:I8 ρ m.n m'.hi):g9 ρ m m':=by
 unfold toD at d;split at d
 .obtain⟨h1,f⟩:=A2 d;cases f;exact .refl
 .obtain⟨h1,f⟩:=A2 d;cases f;exact .refl
 .split at d
  .obtain⟨h1,f⟩:=A2 d;obtain⟨m1,q1,q2,_⟩:=O9 f;cases q2;exact EF h q1 r
  .rename_i c tc T g y;obtain⟨h1,f⟩:=A2 d;split at f
   .rename_i m1 hs;obtain⟨m2,q1,q2,_⟩:=O9 f;cases q2;have hk:=SL h hs (by rw[y];intro h;cases h);intro j l k q;have A:=hk j l k q;rw[iO q1 (h.dom j l k),B0]
    .exact A
    .intro e;subst e;have p:m1.n=m.n:=by rw[(S2 hs).2]
     obtain⟨_,_,rfl⟩:=K5 q1;rw[r m1.n A6 (J7 _ _).2]at k;cases k
   .cases f
  .cases d
 .obtain⟨B,d⟩:=A2 d;rw[M3]at d;simp only at d;obtain⟨m1,q1,q2,_⟩:=O9 d;cases q2;intro j l k q;rw[iO q1 (h.dom j l k),B0,hZ]
  .exact q
  .intro e;subst e;have p:(m.wLg (dH m t (.nilw (t-10)) [])).n=m.n:=by simp
   obtain⟨_,_,rfl⟩:=K5 q1;rw[r _ A6 (J7 _ _).2]at k;cases k
 .cases d
def Y3(R:Nat->Option Obj)(us:List U)(vs:List Value):Prop:=us.length=vs.length/\∀ (i:Nat) (u:U) (v:Value),us[i]? = some u->vs[i]? = some v->Enc R u v
omit [Ora] in
def Y3.nil{R:Nat->Option Obj}:Y3 R [] []:=⟨rfl,fun i u v h=>by simp at h⟩
omit [Ora] in
def Y3.cons{R:Nat->Option Obj}{v:Value}(h:Enc R u v)(k:Y3 R us vs):Y3 R (u::us) (v::vs):=⟨by simp[k.1],fun i a b h1 c=>by
 cases i with
 | zero=>simp at h1 c;subst h1;subst c;exact h
 | succ i=>exact k.2 i a b (by simpa using h1) (by simpa using c)⟩
def Sub(G R:Nat->Option Obj):Prop:=∀ k o,G k=some o->R k=some o
def eJ{t:Nat}{v x:Value}{b:Nat}{m m':Mem}(c:toD t v m=some (x,b,m')):m.hi<=m'.hi/\m.lg.le m'.lg/\m.n<=m'.n:=by
 have e:∀ {m m1:Mem},Y0 m .frz (fun _=>undef)=some (undef,m1)->m.hi<=m1.hi/\m.lg.le m1.lg/\m.n<=m1.n:=fun f=>by
  obtain⟨_,_,rfl⟩:=K5 f;exact⟨(J7 _ _).1,.refl _,Y4 _⟩
 unfold toD at c;split at c
 .obtain⟨h1,d⟩:=A2 c;cases d;exact⟨A7 _,.refl _,A7 _⟩
 .obtain⟨h1,d⟩:=A2 c;cases d;exact⟨A7 _,.refl _,A7 _⟩
 .split at c
  .obtain⟨h1,d⟩:=A2 c;obtain⟨m1,q1,q2,_⟩:=O9 d;cases q2;exact e q1
  .obtain⟨h1,d⟩:=A2 c;split at d
   .rename_i m1 hs;obtain⟨m2,q1,q2,_⟩:=O9 d;cases q2
    have:=e q1;obtain⟨_,rfl⟩:=S2 hs;exact this
   .cases d
  .cases c
 .obtain⟨g,c⟩:=A2 c;rw[M3]at c;simp only at c;obtain⟨m1,q1,q2,_⟩:=O9 c;cases q2
  have:=e q1;exact⟨by simpa using this.1,T9.trans this.2.1,by simpa using this.2.2⟩
 .cases c
structure vE (P:Program) (td:Td):Prop where
 ok:∀ {base:Nat} {ρ:Ren} {m m':Mem} {w:World} {t:Nat} {v v' x:Value} {b:Nat},HR P base ρ m.H w->td t v m=some (x,b,m')->I8 ρ m.n m'.hi->VR ρ v v'->Sat m'.lg ->
  ∃ ρ' l,St P base ρ ρ' m m' w w/\ρ' b=some l/\Hp.get m'.H b=some .frz/\Enc l.G (D5 Ora.env x) v'/\F3 (D5 Ora.env x)=t/\m.lg.le m'.lg/\g9 ρ m m'
 mono:∀ {m m':Mem} {t:Nat} {v x:Value} {b:Nat},td t v m=some (x,b,m')->m.hi<=m'.hi/\m.lg.le m'.lg/\m.n<=m'.n
def PE:vE P toD:=⟨fun h b c g e=>let ⟨ρ',l,f,a2,a3,a4,a5,d⟩:=zJ h b c g e;⟨ρ',l,f,a2,a3,a4,a5,d,CA h b c⟩,fun h=>eJ h⟩
def Q3{e:Td}(d:vE P e):∀ {ts:G6} {vs xs:D0} {gs:G6} {m m':Mem},vJ e ts vs m=some (xs,gs,m')->m.hi<=m'.hi/\m.lg.le m'.lg/\m.n<=m'.n
 | [],[],_,_,_,_,h=>by cases h;exact⟨A7 _,.refl _,A7 _⟩
 | t::ts,v::vs,xs,gs,m,m',c=>by
   unfold vJ at c;cases f:Nat.blt t 10 with
   | true =>
     rw[f]at c;simp only[D9]at c;obtain⟨h1,c⟩:=A2 c;split at c
     .rename_i hr;cases c;exact Q3 d hr
     .cases c
   | false =>
     rw[f]at c;simp only[D4]at c;split at c
     .rename_i g;split at c
      .rename_i hr;cases c;have a:=d.mono g;have b:=Q3 d hr;exact⟨B8 a.1 b.1,a.2.1.trans b.2.1,B8 a.2.2 b.2.2⟩
      .cases c
     .cases c
 | [],_::_,_,_,_,_,c=>by cases c
 | _::_,[],_,_,_,_,c=>by cases c
def fD{L:Td}(f:vE P L):∀ {ts:G6} {vs vs' xs:D0} {gs:G6} {m m':Mem} {ρ:Ren},HR P base ρ m.H w->vJ L ts vs m=some (xs,gs,m')->I8 ρ m.n m'.hi->LR ρ vs vs'->Sat m'.lg ->
  ∃ ρ',St P base ρ ρ' m m' w w/\m.lg.le m'.lg/\g9 ρ m m'/\(∀ b ∈ gs,Hp.get m'.H b=some .frz/\∃ l,ρ' b=some l)/\(xs.map (D5 Ora.env)).map F3=ts /\
   ∀ R,(∀ b ∈ gs,∀ l,ρ' b=some l->Sub l.G R)->Y3 R (xs.map (D5 Ora.env)) vs'
 | [],[],vs',xs,gs,m,m',ρ,h,c,hf,hv,hS=>by
   cases c;exact⟨ρ,St.refl h,.refl _,.refl,fun b Q=>(by cases Q),rfl,fun R _=>by rw[hv.nil_inv];exact .nil⟩
 | t::ts,v::vs,vs',xs,gs,m,m',ρ,h,c,hf,hv,hS=>by
   obtain⟨v',r',rfl,p,g⟩:=hv.tail;unfold vJ at c;cases A:Nat.blt t 10 with
   | true =>
     rw[A]at c;simp only[D9]at c;obtain⟨h1,c⟩:=A2 c;have h1:=A0 h1;have S:t<10:=A1 A;split at c
     .rename_i r B m2 hr;cases c;obtain⟨ρ2,q,I,y,F,C,K⟩:=fD f h hr hf g hS;obtain⟨f1,f2⟩:=r9 p A6;exact⟨ρ2,q,I,y,F,by simp[f2,h1,C],fun R x=>.cons (.sc f1) (K R x)⟩
     .cases c
   | false =>
     rw[A]at c;simp only[D4]at c;split at c
     .rename_i hh b m1 N;split at c
      .rename_i r B m2 hr;cases c;have d:m1.hi<=m'.hi/\m1.lg.le m'.lg/\m1.n<=m'.n:=Q3 f hr;have D:I8 ρ m.n m1.hi:=hf.less d.1;obtain⟨E,l,k,a2,a3,a4,a5,M,O⟩:=f.ok h N D p (hS.le d.2.1);have J:I8 E m1.n m'.hi:=hf.step k;obtain⟨ρ2,q,I,y,F,C,K⟩:=fD f k.hr hr J (g.mono k.ext) hS;refine⟨ρ2,St.trans hf k q,M.trans I,O.trans k.ext y,fun b' e=>?_,by simp[a5,C],fun R x=>.cons (a4.mono (x b (.head _) l (q.ext _ _ a2))) (K R fun b' e=>x b' (.tail _ e))⟩;rcases A8.1 e with rfl|e
       .exact⟨y _ l a2 a3,l,q.ext _ _ a2⟩
       .exact F b' e
      .cases c
     .cases c
 | [],_::_,_,_,_,_,_,_,_,c,_,_,_=>by cases c
 | _::_,[],_,_,_,_,_,_,_,c,_,_,_=>by cases c
def cS{gs:G6}{g:Nat}(h:HR P base ρ m.H w)(c:gO gs m=some (g,m'))(t:I8 ρ m.n m'.hi) :
  ∃ ρ' lg,St P base ρ ρ' m m' w w/\m'.lg=m.lg/\g9 ρ m m'/\ρ' g=some lg/\Hp.get m'.H g=some .frz/\∀ b ∈ gs,∀ l,ρ b=some l->Sub l.G lg.G:=by
 have main:∀ {gs:G6},(bif gs.all (lT m)then match eC m fun b m=>some (undef,b,m)with
  | some (_,b,m)=>some (b,m)
  | none=>none else none)=some (g,m')->∃ ρ' lg,St P base ρ ρ' m m' w w/\m'.lg=m.lg/\g9 ρ m m'/\ρ' g=some lg/\Hp.get m'.H g=some .frz/\∀ b ∈ gs,∀ l,ρ b=some l->Sub l.G lg.G:=fun{gs} c=>by
  obtain⟨h1,c⟩:=A2 c;split at c
  .rename_i r b m1 v;cases c;obtain⟨m2,q1,q2,_,_,q5⟩:=O9 v;cases q2;have e:∀ b ∈ gs,Hp.get m.H b=some .frz:=fun b d=>bQ (D3.1 h1 b d)
   classical
   let G:Nat->Option Obj:=fun k=>if ∃ b ∈ gs,∃ l o,ρ b=some l/\l.G k=some o then w.heap[k]? else none
   obtain⟨g1,g2,g3⟩:=St.region (G:=G) h q1 t fun k o hk=>by
    have hk:(if ∃ b ∈ gs,∃ l o,ρ b=some l/\l.G k=some o then w.heap[k]? else none)=some o:=hk;split at hk
    .rename_i hex;obtain⟨b,d,l,y,q,x⟩:=hex;exact⟨hk,b,_,l,h.dom _ _ q,e b d,q,⟨rfl,.inr ⟨rfl,y,x⟩⟩,rfl⟩
    .cases hk
   refine⟨_,hP G,g3,q5,EF h q1 t,g1,g2,fun b d l p k o hk=>?_⟩;show(if ∃ b ∈ gs,∃ l o,ρ b=some l/\l.G k=some o then w.heap[k]? else none)=_;rw[B2 ⟨b,d,l,o,p,hk⟩];exact(h.atl p (e b d)).1.2 k o hk
  .cases c
 unfold gO at c;split at c
 .rename_i g0;obtain⟨h1,c⟩:=A2 c;cases c;obtain⟨l,p⟩:=SX h h1;refine⟨ρ,l,St.refl h,rfl,.refl,p,bQ h1,fun b d l2 f=>?_⟩;rcases A8.1 d with rfl|d
  .rw[p]at f
   have:=A5 f;subst this;exact fun _ _ h=>h
  .cases d
 .exact main c
omit [Ora] in
def kQ{R:Nat->Option Obj}{v r:Value}(h:Enc R u v)(hr:toV u=some r):v=r:=by
 cases h with
 | sc h=>rw[h]at hr;exact A5 hr
 | nil=>cases hr
 | emp=>cases hr
 | sl=>cases hr
omit [Ora] in
def jG{R:Nat->Option Obj}{v:Value}(h:Enc R u v):o9 v=true:=by
 cases h with
 | sc h=>have:=eI h;cases v<;>first|rfl|cases this
 | nil=>rfl
 | emp=>rfl
 | sl=>rfl
def YU{wd k:Nat}{rows:List (List U)} :evU (.get wd o) [.seq false wd rows,.int kk (.ofNat k)]=(rows.getD k []).getD o .none:=by
 simp[evU]
def getD_some(h:row.getD o .none≠.none):row[o]? = some (row.getD o .none):=by
 rw[B3]at *;cases e:row[o]? with
 | none=>rw[e]at h;exact absurd rfl h
 | some u=>rfl
def dP{wd o i t g k:Nat}{z:Value}{lg:Loc}{rows:List (List U)}{cell:Nat->O8}(hi:Ora.env i=.seq false wd rows)(E:mB Ora.env z=some (.ofNat k))(l:ρ g=some lg)
  (y:∀ q u,(rows.getD k [])[q]? = some u->∃ v,cell q=some v/\Enc lg.G u v) :
  ∀ {ts:G6} {j:Nat} {m m':Mem} {r:D0},W4 wd o i t z g ts j m=some (r,m')->Sat m'.lg->∃ r',LR ρ r r'/\r'.length=ts.length/\(∀ q v',r'[q]? = some v'->cell (o+j+q)=some v')/\I7 m m'/\m.lg.le m'.lg
 | [],j,m,m',r,h,hS=>by
   cases h;exact⟨[],.nil,rfl,fun q v' h=>by simp at h,.refl _,.refl _⟩
 | tg::ts,j,m,m',r,h,hS=>by
   unfold W4 at h;obtain⟨kk,x⟩:=BM E;have f:[hole i t,z].map (D5 Ora.env)=[.seq false wd rows,.int kk (.ofNat k)]:=by
    simp only[B9,E5,x];show[Ora.env i,_]=_;rw[hi]
   have b:∀ {u:U},u≠.none->evU (.get wd (o+j)) ([hole i t,z].map (D5 Ora.env))=u->∃ v,cell (o+j)=some v/\Enc lg.G u v:=fun{u} hu he=>by
    rw[f,YU]at he;subst he;exact y _ _ (getD_some hu)
   cases n:Nat.blt tg 10 with
   | true =>
     rw[n]at h;simp only[D9]at h;have J:tg<10:=A1 n;split at h
     .rename_i hh m1 B;split at h
      .rename_i r2 m2 hr;cases h;obtain⟨r',F,D,A,C,d⟩:=dP hi E l y hr hS;obtain⟨u,f1,f2,v,f3,f4,f5⟩:=K9 B (hS.le d);obtain⟨v2,g1,g2⟩:=b (u:=u) (by intro e;subst e;cases f3) f1
       have:=kQ g2 f3;subst this;refine⟨v2::r',.cons (f4 ρ) F,by simp[D],fun q v' c=>?_,(G7 B).trans C,(H1 B).trans d⟩;cases q with
       | zero=>simp at c;subst c;exact g1
       | succ q=>rw[show o+j+(q+1)=o+(j+1)+q by omega];exact A q v' (by simpa using c)
      .cases h
     .cases h
   | false =>
     rw[n]at h;simp only[D4]at h;rw[ED]at h;split at h
     .rename_i r2 m2 hr;cases h;obtain⟨r',F,D,A,C,d⟩:=dP hi E l y hr hS;obtain⟨f1,f2,I,H,p,f3,f4⟩:=gQ hS d;obtain⟨v2,g1,g2⟩:=b (u:=Ora.env m.lg.nx) (by rw[f3];intro h;cases h) f1.symm;refine⟨v2::r',.cons (.dat l g2 f2 A6 (jG g2)) F,by simp[D],fun q v' c=>?_,I7.trans ⟨_,rfl⟩ C,T9.trans d⟩;cases q with
      | zero=>simp at c;subst c;exact g1
      | succ q=>rw[show o+j+(q+1)=o+(j+1)+q by omega];exact A q v' (by simpa using c)
     .cases h
def fE{t:TypeId}(h:iA P t=some ts):G3 P t=some ts.length:=by
 unfold iA at h;split at h
 .rename_i l n h1 b;obtain⟨h3,h⟩:=A2 h;cases h;rw[b,A0 h3]
 .cases h
def zB{t:TypeId}{r:D0}{v:Value}{b:Nat}(g:iA P t=some ts)(d:jL P t (some (r,m))=some (v,m'))(e:LR ρ r r')(l:r'.length=ts.length)
  (k:∀ q v',r'[q]? = some v'->w.cell? ⟨b,o+q,none⟩=some v'):m'=m/\∃ v',(Instr.loadAt t (.pointer (some ⟨b,o,none⟩))).run P w=.ok v' w/\VR ρ v v':=by
 unfold jL at d;split at d
 .rename_i c heq;cases d;cases heq;obtain⟨v',r2,rfl,n,p⟩:=e.tail;refine⟨rfl,v',?_,n⟩
  have:=k 0 v' rfl;simp[Instr.loadAt,Instr.sureAddr,loadVar,A4,t6 c,Result.andThen,run_load,show w.cell? ⟨b,o,none⟩=some v' from by simpa using this]
 .rename_i c heq;cases d;cases heq;refine⟨rfl,.agg ⟨r'⟩,?_,.agg e.1 e.2⟩;have f:G3 P t=some r'.length:=by rw[l];exact fE g
  simp[Instr.loadAt,Instr.sureAddr,loadVar,A4,t6 c,J5 f,Result.andThen,J0 rfl k]
 .cases d
def SE{t:TypeId}{x x' v:Value}(h:HR P base ρ m.H w)(n:EC P m t x=some (v,m'))(Y:VR ρ x x')(W:Sat m'.lg):(∃ r,(Instr.loadAt t x').run P w=.ok r w/\VR ρ v r)/\I7 m m'/\m.lg.le m'.lg:=by
 have K:∀ {r:Option (D0×Mem)},jL P t r=some (v,m')->∃ vs,r=some (vs,m'):=fun{r} F=>by
  unfold jL at F;split at F
  .cases F;exact⟨_,rfl⟩
  .cases F;exact⟨_,rfl⟩
  .cases F
 unfold EC at n;split at n
 .rename_i b i tg z o ts A;obtain⟨h1,n⟩:=A2 n;obtain⟨⟨l,wd,rows,a,s,c,k,N,I,L,S,M,Z,rfl⟩,X⟩:=AL Y;obtain⟨vs,hr⟩:=K n;rw[hr]at n;have B:tg-10=wd:=by rw[<- X,I];simp[F3]
  rw[B]at hr;have O:=(h.atl N (bQ h1)).1.2;rw[I]at L;obtain⟨C,T,fz,f1,f2,f3,f4⟩:∃ C T fz,l.G a=some (.cells C T fz)/\s+rows.length*wd<=C.size/\(∀ row ∈ rows,row.length=wd)/\∀ (r:Nat) (row:List U) (j:Nat) (u:U) (v:Value),rows[r]? = some row->row[j]? = some u->C[s+r*wd+j]? = some v->Enc l.G u v:=by
   have y:rows≠[]:=by intro e;subst e;simp at M
   cases L with
   | sc h=>cases h
   | emp=>exact absurd rfl y
   | sl hc Q hz hw hh=>exact⟨_,_,_,Q y,hz y,hw,hh⟩
  have E:=O _ _ f1;have d:rows[k]? = some rows[k]:=A3 M;obtain⟨r',g1,g2,g3,g4,g5⟩:=dP (cell:=fun q=>w.cell? ⟨a,s+k*wd+q,none⟩) I S N (fun q u f=>by
   rw[B3,d]at f;have f:rows[k][q]? = some u:=f;have D:=(A9.1 f).1;rw[f3 _ (D8 d)]at D;have hk:(k+1)*wd<=rows.length*wd:=E7 wd M;rw[G8]at hk;have p:s+k*wd+q<C.size:=A6;refine⟨C[s+k*wd+q],?_,f4 k _ q u _ d f (E4 p)⟩;simp[World.cell?,E,E4 p]) hr W
  obtain⟨_,q1⟩:=zB (w:=w) (b:=a) (o:=s+k*wd+o) A n g1 g2 (fun q v' f=>by
   have:=g3 q v' f;rw[show s+k*wd+o+q=s+k*wd+(o+0+q) by omega];exact this)
  exact⟨q1,g4,g5⟩
 .rename_i b i tg z o ts A;split at n
  .rename_i c tc T g ro Q;obtain⟨h1,n⟩:=A2 n;have h1:=A0 h1;subst h1;obtain⟨⟨l,wd,CV,k,N,I,L,S,M,Z,rfl⟩,X⟩:=rS Y;obtain⟨vs,hr⟩:=K n;rw[hr]at n;obtain⟨J,inf,d1,d2,d3,d4⟩:=SqR.ex (h.atl N Q).1;rcases d4 with⟨d4,_⟩|⟨_,d4⟩
   .rw[I]at d4;cases d4
   obtain⟨C,fz,T',rows,lg,f1,f2,f3,f4,f5,f6,f7,f8,f9⟩:=d4;have B:tc-10=J:=A6;rw[B]at hr;have R:k<rows.length:=A6;have d:rows[k]? = some rows[k]:=A3 R;have V:wd=J:=by
    have:F3 (Ora.env i)=10+wd:=by rw[L];rfl
    omega
   subst V;obtain⟨r',g1,g2,g3,g4,g5⟩:=dP (cell:=fun q=>w.cell? ⟨l.blk,l.sh+k*wd+q,none⟩) f2 S f7 (fun q u f=>by
    rw[B3,d]at f;have f:rows[k][q]? = some u:=f;have D:=(A9.1 f).1;rw[f6 _ (D8 d)]at D;have hk:(k+1)*wd<=l.cap*wd:=E7 wd A6;rw[G8]at hk;have p:l.sh+k*wd+q<C.size:=A6;refine⟨C[l.sh+k*wd+q],?_,f8 k _ q u _ d f (E4 p)⟩;simp[World.cell?,f1,E4 p]) hr W
   obtain⟨_,q1⟩:=zB (w:=w) (b:=l.blk) (o:=l.sh+k*wd+o) A n g1 g2 (fun q v' f=>by
    have:=g3 q v' f;rw[show l.sh+k*wd+o+q=l.sh+k*wd+(o+0+q) by omega];exact this)
   exact⟨q1,g4,g5⟩
  .cases n
 .cases n
end
end
section
open Go
variable [Ora]
section
variable {P:Program} {base:Nat} {ρ ρ':Ren} {m m':Mem} {w w':World}
def at0(a:Nat):Ren:=fun _=>some (lc a 0 0)
def OK{a s n c:Nat}(h:n<=c):VR (at0 a) (.slice (some ⟨0,s,none⟩) n (L7+1)) (.slice (some ⟨a,s,none⟩) n c) :=
 VR.op (ρ:=at0 a) (b:=0) (o:=s) (n:=n) (m:=L7+1) (m':=c) (l:=lc a 0 0) rfl (by unfold L7;omega) h (fun h=>by unfold L7 at h;omega)
def ME{a s:Nat}:VR (at0 a) (.pointer (some ⟨0,s,none⟩)) (.pointer (some ⟨a,s,none⟩)):=VR.ptr (ρ:=at0 a) (b:=0) (o:=s) (l:=lc a 0 0) rfl
def qG{t e:TypeId}{a s n c z sz:Nat}{k:IntKind}(hu:P.underlying t=some (.slice e))(hs:G3 P e=some sz)(g:z<n)(d:n<=c)(w:World) :
  (Instr.indexAt t (.slice (some ⟨a,s,none⟩) n c) (.int k (.ofNat z))).run P w=.ok (.pointer (some ⟨a,s+z*sz,none⟩)) w:=by
 have f:Nat.blt z n=true:=C6 g;have hm:V9 P t (.slice (some ⟨0,s,none⟩) n (L7+1)) (.int k (.ofNat z))=some (.pointer (some ⟨0,s+z*sz,none⟩)):=by
  simp only[V9,hu,hs,f,D9,y5,E6]
 obtain⟨v',g1,g2⟩:=aT (P:=P) hm (OK (a:=a) d) (.pure rfl) w;obtain⟨l2,b,_,rfl⟩:=L8 g2;cases b;exact g1
def mW{t e:TypeId}{a s n z sz:Nat}{k:IntKind}(hu:P.underlying t=some (.array n e))(hs:G3 P e=some sz)(d:z<n)(w:World) :
  (Instr.indexAt t (.pointer (some ⟨a,s,none⟩)) (.int k (.ofNat z))).run P w=.ok (.pointer (some ⟨a,s+z*sz,none⟩)) w:=by
 have c:Nat.blt z n=true:=C6 d;have hm:V9 P t (.pointer (some ⟨0,s,none⟩)) (.int k (.ofNat z))=some (.pointer (some ⟨0,s+z*sz,none⟩)):=by
  simp only[V9,hu,hs,c,D9,y5,E6]
 obtain⟨v',g1,g2⟩:=aT (P:=P) hm (ME (a:=a)) (.pure rfl) w;obtain⟨l2,b,_,rfl⟩:=L8 g2;cases b;exact g1
def qI{a z:Nat}{c:Array Field}{f:Field}(hu:P.underlying s=some (.struct c))(e:c.toList[i]? = some f)(d:G3 P f.type=some (z+1))(w:World) :
  (Instr.fieldAt s (.pointer (some ⟨a,o,none⟩)) i).run P w=.ok (.pointer (some ⟨a,o+f.offset,none⟩)) w:=by
 have hm:aU P s (.pointer (some ⟨0,o,none⟩)) i=some (.pointer (some ⟨0,o+f.offset,none⟩)):=by
  simp only[aU,hu,e,d,y5,E6]
 obtain⟨v',g1,g2⟩:=jA (P:=P) hm (ME (a:=a)) w;obtain⟨l2,b,_,rfl⟩:=L8 g2;cases b;exact g1
def AN{t wd:Nat}{e:Bool}{rows:List (List U)}{k v:Value}(h:EN m i t z k=some (v,m'))(hi:Ora.env i=.seq e wd rows)(I:t=10+wd)(G:VR ρ z z')(C:Sat m'.lg) :
  v=k/\(∃ kk n,z'=.int kk (.ofNat n)/\n<rows.length/\mB Ora.env z=some (.ofNat n))/\I7 m m'/\m.lg.le m'.lg:=by
 unfold EN at h;cases p:!(Nat.blt (F9 z) 8)with
 | true=>rw[p]at h;cases h
 | false =>
   have E:F9 z<8:=by
    have:Nat.blt (F9 z) 8=true:=by simpa using p
    exact A1 this
   rw[p]at h;simp only[D4]at h;split at h
   .rename_i b H n W hh lg x;split at h
    .rename_i A D;cases h;have d:=H1 x;have c:=cZ D;obtain⟨u,g,J,r,q,F,_⟩:=K9 x (N0.le C c);have B:=jK D (F ρ) C;subst B;obtain⟨kk,y,rfl,f2,_⟩:=L3 G E;have f:[z,hole i t].map (D5 Ora.env)=[.int kk y,.seq e wd rows]:=by
      simp only[B9,E5,f2];show[_,Ora.env i]=_;rw[hi]
     rw[f]at g;have g:(if wd=t-10 then U.bool (decide (0<=y) && decide (y<rows.length))else U.none)=u:=g;rw[B2 A6]at g;subst g;have q:some (Value.bool (decide (0<=y) && decide (y<rows.length)))=some (.bool true):=q;have l:(decide (0<=y) && decide (y<rows.length))=true:=by simpa using q
     simp only[H4,decide_eq_true_eq]at l;obtain⟨n0,rfl⟩:∃ n0:Nat,y=.ofNat n0:=⟨y.toNat,by have:=Int.toNat_of_nonneg l.1;exact this.symm⟩;refine⟨rfl,⟨kk,n0,rfl,?_,MF f2⟩,I7.trans (G7 x) ⟨A,rfl⟩,d.trans c⟩
     have:=l.2;have:(n0:Int)<rows.length:=this;omega
    .cases h
   .cases h
def A10{G:Nat->Option Obj}{b:Bool}{wd:Nat}{rows:List (List U)}{v:Value}(h:Enc G (.seq b wd rows) v)(hr:rows≠[]):b=false/\∃ a o c,v=.slice (some ⟨a,o,none⟩) rows.length c/\rows.length<=c:=by
 cases h with
 | sc h=>cases h
 | nil=>exact absurd rfl hr
 | emp=>exact absurd rfl hr
 | sl d _ _ _ _=>exact⟨rfl,_,_,_,rfl,d⟩
def GY{t:Nat}(h:F3 u=t)(d:10<=t):u=.none∨∃ c wd rows,u=.seq c wd rows/\t=10+wd:=by
 cases u with
 | none=>exact .inl rfl
 | int k n=>have:=K6 k;simp[F3]at h;omega
 | bool b=>simp[F3]at h;omega
 | str s=>simp[F3]at h;omega
 | seq c wd rows=>exact .inr ⟨c,wd,rows,rfl,h.symm⟩
def dR{G:Nat->Option Obj}{v:Value}{t:Nat}(h:Enc G u v)(d:F3 u=t)(c:10<=t):∃ b wd rows,u=.seq b wd rows/\t=10+wd:=by
 rcases GY d c with rfl|h1
 .cases h with
  | sc h=>cases h
 .exact h1
def yG{t e:TypeId}{b s:Nat}{l:Loc}{v v':Value}(hu:P.underlying t=some (.slice e))(hs:G3 P e=some (s+1))(A:tg=10+(s+1))(h1:ρ b=some l)(d:Enc l.G (Ora.env i) v')(h3:F3 (Ora.env i)=tg)
  (h:EN m i tg z (dpt b i tg z 0)=some (v,m')) (D:VR ρ z z') (x:Sat m'.lg):(∃ r,(Instr.indexAt t v' z').run P w=.ok r w/\VR ρ v r)/\I7 m m'/\m.lg.le m'.lg:=by
 obtain⟨B,wd,rows,f,C⟩:=dR d h3 A6;obtain⟨rfl,⟨kk,n,rfl,k,p⟩,g1,g2⟩:=AN h f C D x;have q:wd=s+1:=A6;subst q;have g:rows≠[]:=by intro e;subst e;simp at k
 rw[f]at d;obtain⟨rfl,a,o,c,rfl,y⟩:=A10 d g;refine⟨⟨_,qG hu hs k y w,.dpt ⟨l,s+1,rows,a,o,c,n,h1,f,by rw[f];exact d,p,k,A6,by simp⟩ h3 rfl⟩,g1,g2⟩
def EL{t:TypeId}{x x' v:Value}(h:iX P m t x z=some (v,m'))(C:VR ρ x x')(B:VR ρ z z')(F:Sat m'.lg):(∃ r,(Instr.indexAt t x' z').run P w=.ok r w/\VR ρ v r)/\I7 m m'/\m.lg.le m'.lg:=by
 unfold iX at h;split at h
 .rename_i e b i tg hu;split at h
  .rename_i s hs;obtain⟨f,h⟩:=A2 h;have f:=A0 f;obtain⟨E,d⟩:=aF C;rcases E with⟨l,wd,h1,p,h3,rfl⟩|⟨l,wd,rows,h1,p,h3,O,L,rfl⟩
   .obtain⟨_,⟨kk,n,_,M,_⟩,_⟩:=AN h h3 (by rw[h3]at d;exact d.symm) B F;simp at M
   .have A:tg=10+wd:=by rw[h3]at d;exact d.symm
    obtain⟨rfl,⟨kk,n,rfl,M,I⟩,g1,g2⟩:=AN h h3 A B F;have g:wd=s+1:=A6;subst g;exact⟨⟨_,qG hu hs A6 L w,.opt ⟨l,s+1,rows,n,h1,p,h3,I,A6,A6,by simp⟩ d rfl⟩,g1,g2⟩
  .cases h
 .rename_i e b i tg hu;split at h
  .rename_i s hs;obtain⟨f,h⟩:=A2 h;have f:=A0 f;obtain⟨l,h1,p,h3,_⟩:=kO C;exact yG hu hs f h1 p h3 h B F
  .cases h
 .rename_i e b i tg hu;split at h
  .rename_i s hs;obtain⟨f,h⟩:=A2 h;have f:=A0 f;obtain⟨l,h1,p,h3,_⟩:=dO C;exact yG hu hs f h1 p h3 h B F
  .cases h
 .rename_i n e b i tg y o hu;split at h
  .rename_i s kk k hs;obtain⟨hk,h⟩:=A2 h;obtain⟨hk,hw⟩:=B6 hk;have hk:=A1 hk;have hw:o+k*s<tg-10:=A1 hw;rw[E6]at h;cases h;cases I2 B;obtain⟨⟨l,wd,rows,a,s0,c,q,K,A,G,J,H,N,rfl⟩,D⟩:=AL C;have g:tg-10=wd:=by rw[<- D,A];simp[F3]
   refine⟨⟨_,mW hu hs hk w,.dpt ⟨l,wd,rows,a,s0,c,q,K,A,G,J,H,A6,by simp⟩ D rfl⟩,.refl _,.refl _⟩
  .cases h
 .rename_i n e b i tg y o hu;split at h
  .rename_i s kk k hs;obtain⟨hk,h⟩:=A2 h;obtain⟨hk,hw⟩:=B6 hk;have hk:=A1 hk;have hw:o+k*s<tg-10:=A1 hw;rw[E6]at h;cases h;cases I2 B;obtain⟨⟨l,wd,rows,q,K,A,G,J,H,N,rfl⟩,D⟩:=rS C;have g:tg-10=wd:=by rw[<- D,G];simp[F3]
   refine⟨⟨_,mW hu hs hk w,.opt ⟨l,wd,rows,q,K,A,G,J,H,A6,by simp⟩ D rfl⟩,.refl _,.refl _⟩
  .cases h
 .cases h
def FD{x x' v:Value}{f:Nat}(h:jB P m s x f=some (v,m'))(C:VR ρ x x'):(∃ r,(Instr.fieldAt s x' f).run P w=.ok r w/\VR ρ v r)/\m'=m:=by
 unfold jB at h;split at h
 .rename_i D b i tg y o hu;split at h
  .rename_i fd B;split at h
   .rename_i z t;obtain⟨hw,h⟩:=A2 h;have hw:o+fd.offset<tg-10:=A1 hw;rw[E6]at h;cases h;obtain⟨⟨l,wd,rows,a,s0,c,q,A,g,e,n,k,E,rfl⟩,d⟩:=AL C;have p:tg-10=wd:=by rw[<- d,g];simp[F3]
    exact⟨⟨_,qI hu B t w,.dpt ⟨l,wd,rows,a,s0,c,q,A,g,e,n,k,A6,by simp⟩ d rfl⟩,rfl⟩
   .cases h
  .cases h
 .rename_i D b i tg y o hu;split at h
  .rename_i fd B;split at h
   .rename_i z t;obtain⟨hw,h⟩:=A2 h;have hw:o+fd.offset<tg-10:=A1 hw;rw[E6]at h;cases h;obtain⟨⟨l,wd,rows,q,A,g,e,n,k,E,rfl⟩,d⟩:=rS C;have p:tg-10=wd:=by rw[<- d,e];simp[F3]
    exact⟨⟨_,qI hu B t w,.opt ⟨l,wd,rows,q,A,g,e,n,k,A6,by simp⟩ d rfl⟩,rfl⟩
   .cases h
  .cases h
 .cases h
end
end
section
open Go
variable [Ora]
section
variable {P:Program} {base:Nat} {ρ ρ':Ren} {m m':Mem} {w w':World}
def p7{G:Nat->Option Obj}{b:Bool}{wd:Nat}{rows:List (List U)}{v:Value}(h:Enc G (.seq b wd rows) v):(b=true/\rows=[]/\v=.slice none 0 0)∨(b=false/\∃ (a:Addr) (c:Nat),v=.slice (some a) rows.length c/\rows.length<=c):=by
 cases h with
 | sc h=>cases h
 | nil=>exact .inl ⟨rfl,rfl,rfl⟩
 | emp=>exact .inr ⟨rfl,_,_,rfl,A7 _⟩
 | sl d _ _ _ _=>exact .inr ⟨rfl,_,_,rfl,d⟩
def iF{t e:TypeId}{a:Option Addr}{n c:Nat}(hu:P.underlying t=some (.slice e))(w:World):(Builtin.len_ ⟨t::tys⟩ ty #[.slice a n c]).run P w=.ok (.int .i64 n) w:=by
 simp[Builtin.len_,A4,C8 hu,Result.andThen,goInt]
def YA{t:Nat}{v:Value}{c:Bool}{wd:Nat}{rows:List (List U)}(h:R4 m 3 .len [hole i t]=some (v,m'))(hi:Ora.env i=.seq c wd rows)(e:Sat m'.lg):VR ρ v (.int .i64 rows.length)/\I7 m m'/\m.lg.le m'.lg/\D5 Ora.env v=.int .i64 rows.length:=by
 obtain⟨u,d,n,r,f,g,l⟩:=K9 h e;have b:[hole i t].map (D5 Ora.env)=[.seq c wd rows]:=by
  show[Ora.env i]=_;rw[hi]
 rw[b]at d;have d:U.int .i64 rows.length=u:=d;subst d;cases f;refine⟨g ρ,G7 h,H1 h,?_⟩;obtain⟨rfl,rfl⟩:=fT h;obtain⟨h1,k,h3⟩:=e (.lt m.lg.nx 3 .len [hole i t]) (by cases m;exact B5);show Ora.env m.lg.nx=_;rw[h1,b];rfl
def iZ{i j:Nat}:∀ {l:List V4},nZ i l=some j->∃ tg,V4.lt j 3 .len [hole i tg] ∈ l
 | [],h=>by cases h
 | e::r,h=>by
   unfold nZ at h;split at h
   .cases h
   .rename_i f t k tg r' he;cases he;cases d:Nat.beq k i && Nat.beq t 3 with
    | true =>
      rw[d]at h;cases h;obtain⟨h1,c⟩:=B6 d;have h1:=A0 h1;have c:=A0 c;subst h1;subst c;exact⟨tg,.head _⟩
    | false =>
      rw[d]at h;obtain⟨b,h3⟩:=iZ h;exact⟨b,.tail _ h3⟩
   .rename_i he;cases he;obtain⟨b,h3⟩:=iZ h;exact⟨b,.tail _ h3⟩
def y6{t:Nat}{v:Value}(h:AI m i t=some (v,m')):I7 m m'/\m.lg.le m'.lg:=by
 unfold AI at h;split at h
 .cases h;exact⟨I7.refl _,.refl _⟩
 .exact⟨G7 h,H1 h⟩
def iV{t:Nat}{v:Value}{b:Bool}{wd:Nat}{rows:List (List U)}(h:AI m i t=some (v,m'))(hi:Ora.env i=.seq b wd rows)(d:Sat m'.lg):VR ρ v (.int .i64 rows.length)/\I7 m m'/\m.lg.le m'.lg/\D5 Ora.env v=.int .i64 rows.length:=by
 unfold AI at h;split at h
 .rename_i j e;cases h;obtain⟨tg,hm⟩:=iZ e;obtain⟨h1,f,_⟩:=d _ hm;have c:[hole i tg].map (D5 Ora.env)=[.seq b wd rows]:=by
   show[Ora.env i]=_;rw[hi]
  rw[c]at h1;have h1:Ora.env j=.int .i64 rows.length:=h1;refine⟨.hole ?_ ?_,I7.refl _,.refl _,h1⟩
  .rw[h1];rfl
  .rw[h1];rfl
 .exact YA h hi d
def NO{b:Nat}{v':Value}(h:HL ρ b u v'):∃ d wd rows a c,u=.seq d wd rows/\v'=.slice a rows.length c:=by
 rcases h with⟨l,wd,h1,e,h3,rfl⟩|⟨l,wd,rows,h1,e,h3,f,g,rfl⟩
 .exact⟨_,_,_,_,_,h3,rfl⟩
 .exact⟨_,_,_,_,_,h3,by rw[f]⟩
def YB{t:TypeId}{x x' v:Value}(h:YC P m t x=some (v,m'))(p:VR ρ x x')(k:Sat m'.lg):(∃ r,(Builtin.len_ ⟨t::tys⟩ ty #[x']).run P w=.ok r w/\VR ρ v r)/\I7 m m'/\m.lg.le m'.lg:=by
 unfold YC at h;split at h
 .rename_i e b i tg hu;obtain⟨l,h1,d,h3,n⟩:=kO p;obtain⟨g,wd,rows,f,_⟩:=dR d h3 n;obtain⟨g1,g2,g3,_⟩:=iV (ρ:=ρ) h f k;rw[f]at d;rcases p7 d with⟨rfl,rfl,rfl⟩|⟨rfl,a,c,rfl,_⟩
  .exact⟨⟨_,iF hu w,g1⟩,g2,g3⟩
  .exact⟨⟨_,iF hu w,g1⟩,g2,g3⟩
 .rename_i e b i tg hu;obtain⟨l,h1,d,h3,n,_⟩:=dO p;obtain⟨g,wd,rows,f,_⟩:=dR d h3 n;obtain⟨g1,g2,g3,_⟩:=iV (ρ:=ρ) h f k;rw[f]at d;rcases p7 d with⟨rfl,rfl,rfl⟩|⟨rfl,a,c,rfl,_⟩
  .exact⟨⟨_,iF hu w,g1⟩,g2,g3⟩
  .exact⟨⟨_,iF hu w,g1⟩,g2,g3⟩
 .rename_i e b i tg hu;obtain⟨g,wd,rows,a,c,f,rfl⟩:=NO (aF p).1;obtain⟨g1,g2,g3,_⟩:=iV (ρ:=ρ) h f k;exact⟨⟨_,iF hu w,g1⟩,g2,g3⟩
 .cases h
def xR{v v':Value}{n:Nat}(c:VR ρ v v')(d:tX v=true)(b:D5 Ora.env v=.int kk (.ofNat n)):∃ j,v'=.int j (.ofNat n):=by
 obtain⟨k,z,rfl,f2,_⟩:=L3 c (A1 d);rw[f2]at b;injection b with _ hb
 exact⟨k,by rw[hb]⟩
def QH{h x d x':Value}(hs:JK h x=true)(h1:VR ρ h d)(e:VR ρ x x'):d=x':=by
 unfold JK at hs;split at hs
 .rename_i i t1 j t2
  have:=A0 hs;subst this;have hh:∀ {t:Nat} {v:Value},VR ρ (.complex .f64 i t) v->toV (Ora.env i)=some v:=fun{t v} h=>by
   cases h with
   | pure hp=>simp[H8]at hp
   | hole h _=>exact h
  have a:=hh h1;rw[hh e]at a;exact(A5 a).symm
 .obtain⟨c,b⟩:=B6 hs;have c:=eN c;rw[bR]at b;have b:=eq_of_beq b;subst c;subst b;cases I2 h1;cases I2 e;rfl
 .cases hs
def TM{wd v:Nat}{d:Bool}{rows:List (List U)}{a b:U}(c:evU (.subs wd) [.seq d v rows,a,b]≠.none):∃ f l g h,a=.int f (.ofNat l)/\b=.int g (.ofNat h)/\v=wd/\l<=h/\h<=rows.length:=by
 cases a with
 | int f k=>cases k with
   | ofNat l=>cases b with
     | int g z2=>cases z2 with
       | ofNat h =>
         have c:(if v=wd/\l<=h/\h<=rows.length then U.seq d wd ((rows.drop l).take (h-l))else .none)≠.none:=c;by_cases e:v=wd/\l<=h/\h<=rows.length
         .exact⟨f,l,g,h,rfl,rfl,e.1,e.2.1,e.2.2⟩
         .rw[B0 e]at c;exact(c rfl).elim
       | negSucc _=>exact(c rfl).elim
     | _=>exact(c rfl).elim
   | negSucc _=>exact(c rfl).elim
 | _=>exact(c rfl).elim
def YZ{G:Nat->Option Obj}{q:Bool}{wd l h mm n c:Nat}{rows:List (List U)}{a:Option Addr}(he:Enc G (.seq q wd rows) (.slice a n c))(K:l<=h)(hh:h<=rows.length)(hm:h<=mm)(I:mm<=c) :
  Enc G (.seq q wd ((rows.drop l).take (h-l))) (.slice (if mm=l then a else a.map (·.add (l*wd))) (h-l) (mm-l))∨a=none:=by
 cases he with
 | sc h=>cases h
 | nil=>exact .inr rfl
 | emp =>
   rename_i a;have g:h=0:=by simpa using hh
   subst g;have f:l=0:=A6;subst f;have F:mm=0:=A6;subst F;exact .inl .emp
 | sl J D H hw k =>
   rename_i a o C T fz;refine .inl ?_;have hlen:((rows.drop l).take (h-l)).length=h-l:=by simp;omega
   have key:∀ b x,(h-l≠0->b=a/\x=o+l*wd)->Enc G (.seq false wd ((rows.drop l).take (h-l))) (.slice (some ⟨b,x,none⟩) (h-l) (mm-l)):=fun b x A=>by
    have B:∀ r row,((rows.drop l).take (h-l))[r]? = some row->h-l≠0/\rows[l+r]? = some row:=fun r row hr=>by
     have p:=(A9.1 hr).1;rw[hlen]at p;rw[F2 p,H3]at hr;exact⟨A6,hr⟩
    have d:(rows.drop l).take (h-l)≠[]->h-l≠0/\rows≠[]:=fun d=>by
     constructor
     .intro e;rw[e]at d;simp at d
     .intro e;subst e;simp at d
    have:=Enc.sl (G:=G) (w:=wd) (rows:=(rows.drop l).take (h-l)) (a:=b) (o:=x) (c:=mm-l) (C:=C) (T:=T) (fz:=fz) A6
     (fun y=>by obtain⟨g,f⟩:=d y;rw[(A g).1];exact D f)
     (fun y=>by
       obtain⟨g,f⟩:=d y;rw[hlen,(A g).2];have h1:=H f;have E:(l+(h-l))*wd<=rows.length*wd:=E7 wd A6;rw[G8]at E;omega)
     (fun row hr=>hw row (List.mem_of_mem_drop (aY hr)))
     (fun r row j u v q1 q2 q3=>by
       obtain⟨g,f⟩:=B r row q1;rw[(A g).2]at q3;refine k (l+r) row j u v f q2 ?_;rw[G8,show o+(l*wd+r*wd)+j=o+l*wd+r*wd+j by omega];exact q3)
    rw[hlen]at this;exact this
   by_cases t:mm=l
   .rw[B2 t];exact key a o fun h=>by omega
   .rw[B0 t];have e:(Addr.mk a o none).add (l*wd)=⟨a,o+l*wd,none⟩:=by
     unfold Addr.add;split
     .rename_i h;rw[h];rfl
     .rfl
    show Enc G _ (.slice (some ((Addr.mk a o none).add (l*wd))) _ _);rw[e];exact key a (o+l*wd) fun _=>⟨rfl,rfl⟩
def BA{t e:TypeId}{b s:Nat}{l:Loc}{hi:O8}{v x':Value}(hu:P.underlying t=some (.slice e))(hs:G3 P e=some s)(ak:tg=10+s)(h1:ρ b=some l)(F:Enc l.G (Ora.env i) x')(h3:F3 (Ora.env i)=tg)
  (aq:cl=true->UM x') (h:FI m b i tg cl lo hi mx=some (v,m')) (R:OR ρ lo lo') (V:OR ρ hi hi') (J:OR ρ mx mx') (hS:Sat m'.lg):(∃ r,(Instr.sliceAt t x' lo' hi' mx').run P w=.ok r w/\VR ρ v r)/\I7 m m'/\m.lg.le m'.lg:=by
 have d:∀ {o:O8},OR ρ none o->o=none:=fun{o} h=>by cases o<;>first|rfl|exact h.elim
 have f:∀ {y:Value} {o:O8},OR ρ (some y) o->∃ Y,o=some Y/\VR ρ y Y:=fun{y o} h=>by cases o<;>first|exact h.elim|exact⟨_,rfl,h⟩
 obtain⟨K,wd,rows,e1,e2⟩:=dR F h3 A6;have ar:wd=s:=A6;subst ar;rw[e1]at F;obtain⟨a,n,c,ax,hn,aj⟩:∃ a n c,x'=.slice a n c/\n=rows.length/\n<=c:=by
  rcases p7 F with⟨rfl,rfl,rfl⟩|⟨rfl,a,c,rfl,hc⟩
  .exact⟨_,_,_,rfl,rfl,A7 _⟩
  .exact⟨_,_,_,rfl,rfl,hc⟩
 subst ax;have go:∀ {m:Mem} {A g:Value} {M:Bool} {E:O8} {hh mm:Nat},dS m b i tg A g M=some (v,m') ->
   (E=none/\A=.int .i64 0∨∃ y,E=some y/\VR ρ A y)->(∀ kk q,D5 Ora.env g=.int kk (.ofNat q)->q<=rows.length->q=hh/\Bd mx' c c mm/\(hi'=none->mx'=none)/\Bd hi' mm n hh/\hh<=mm/\(M=true->mm=hh)) ->
   (∃ r,(Instr.sliceAt t (.slice a n c) E hi' mx').run P w=.ok r w/\VR ρ v r)/\I7 m m'/\m.lg.le m'.lg:=fun{m A g M E hh mm} h D av=>by
  unfold dS at h;obtain⟨hint,h⟩:=A2 h;obtain⟨ay,ai⟩:=B6 hint;rw[M3]at h;simp only[C7,J1]at h;obtain⟨rfl,rfl⟩:=h;obtain⟨f1,f2,ao,al,aw,f3,f4⟩:=gQ hS (.refl _);have S:[hole i tg,A,g].map (D5 Ora.env)=[.seq K wd rows,D5 Ora.env A,D5 Ora.env g]:=by
   show[Ora.env i,_,_]=_;rw[e1]
  rw[S]at f1;have au:tg-10=wd:=A6;rw[au]at f1;obtain⟨X,l0,W,h0,a1,a2,a3,a4⟩:∃ X l0 W h0,D5 Ora.env A=.int X (.ofNat l0)/\D5 Ora.env g=.int W (.ofNat h0)/\l0<=h0/\h0<=rows.length:=by
   have Z:evU (.subs wd) [.seq K wd rows,D5 Ora.env A,D5 Ora.env g]≠.none:=by rw[<- f1,f3];intro h;cases h
   obtain⟨X,l0,W,h0,q1,q2,_,q3,q4⟩:=TM Z;exact⟨X,l0,W,h0,q1,q2,q3,q4⟩
  rw[a1,a2]at f1;have f1:Ora.env m.lg.nx=if wd=wd/\l0<=h0/\h0<=rows.length then U.seq K wd ((rows.drop l0).take (h0-l0))else .none:=f1
  rw[B2 ⟨rfl,a3,a4⟩]at f1;obtain⟨rfl,Q,b2,b3,b4,b5⟩:=av W h0 a2 a4;have b6:Bd E h0 0 l0:=by
   rcases D with⟨rfl,rfl⟩|⟨y,rfl,hy⟩
   .cases a1;exact .inl ⟨rfl,rfl⟩
   .obtain⟨j,rfl⟩:=xR hy ay a1;exact .inr ⟨j,rfl,a3⟩
  have N:=qF (P:=P) (a:=a) (n:=n) (c:=c) hu hs Q b2 b3 b6 w;have I:Enc l.G (Ora.env m.lg.nx) (.slice (if mm=l0 then a else a.map (·.add (l0*wd))) (h0-l0) (mm-l0)):=by
   rw[f1];rcases YZ (mm:=mm) F a3 a4 b4 (by rcases Q with⟨_,rfl⟩|⟨_,_,Q⟩<;>omega)with he|rfl
   .exact he
   .rcases p7 F with⟨rfl,rfl,H⟩|⟨_,_,_,H,_⟩
    .cases H;have z1:h0=0:=by simp at a4;exact a4
     have z2:l0=0:=A6;have z3:mm=0:=by
      rcases Q with⟨_,rfl⟩|⟨_,_,Q⟩<;>omega
     subst z1;subst z2;subst z3;exact .nil
    .cases H
  refine⟨⟨_,N,?_⟩,⟨_,rfl⟩,T9⟩;cases M with
  | false=>exact .dat h1 I f2 A6 rfl
  | true =>
    refine .clp h1 I f2 A6 rfl ?_;show mm-l0=h0-l0;rw[b5 rfl]
 have B:∀ {g y:Value} {kk:IntKind} {q:Nat},VR ρ g y->tX g=true->D5 Ora.env g=.int kk (.ofNat q)->∃ j,y=.int j (.ofNat q):=fun h1 F h3=>xR h1 F h3
 have p:∀ {m:Mem} {A g:Value} {M:Bool},dS m b i tg A g M=some (v,m')->tX g=true:=fun h=>by
  unfold dS at h;exact(B6 (A2 h).1).2
 have main:∀ A,(lo'=none/\A=.int .i64 0∨∃ y,lo'=some y/\VR ρ A y)->FH m b i tg cl A hi mx=some (v,m')->(∃ r,(Instr.sliceAt t (.slice a n c) lo' hi' mx').run P w=.ok r w/\VR ρ v r)/\I7 m m'/\m.lg.le m'.lg:=fun A D h=>by
  cases hi with
  | some g =>
    obtain⟨an,rfl,C⟩:=f V;cases mx with
    | none =>
      cases d J;have h:dS m b i tg A g false=some (v,m'):=h;have hint:=p h;obtain⟨kk,q,H⟩:∃ kk q,D5 Ora.env g=.int kk q:=by
       obtain⟨k,z,_,f2,_⟩:=L3 C (A1 hint);exact⟨k,z,f2⟩
      exact go (hh:=q.toNat) (mm:=c) h D fun T q2 h1 F=>by
       rw[H]at h1;injection h1 with _ h1
       subst h1;obtain⟨j,rfl⟩:=B C hint H;have e:(Int.ofNat q2).toNat=q2:=rfl;rw[e];exact⟨rfl,.inl ⟨rfl,rfl⟩,fun h=>(by cases h),.inr ⟨j,rfl,A6⟩,A6,fun h=>by cases h⟩
    | some x =>
      obtain⟨x',rfl,az⟩:=f J;have h:(bif JK g x then dS m b i tg A g true else none)=some (v,m'):=h;obtain⟨L,h⟩:=A2 h;have hint:=p h
      have:=QH L C az;subst this;obtain⟨kk,q,H⟩:∃ kk q,D5 Ora.env g=.int kk q:=by
       obtain⟨k,z,_,f2,_⟩:=L3 C (A1 hint);exact⟨k,z,f2⟩
      exact go (hh:=q.toNat) (mm:=q.toNat) h D fun T q2 h1 F=>by
       rw[H]at h1;injection h1 with _ h1
       subst h1;obtain⟨j,rfl⟩:=B C hint H;have e:(Int.ofNat q2).toNat=q2:=rfl;rw[e];exact⟨rfl,.inr ⟨j,rfl,A6⟩,fun h=>(by cases h),.inr ⟨j,rfl,A7 _⟩,A7 _,fun _=>rfl⟩
  | none =>
    cases d V;cases mx with
    | some x=>cases h
    | none =>
      cases d J;unfold FH at h;simp only at h;split at h
      .rename_i g m1 hl;have O:I7 m1 m'/\m1.lg.le m'.lg:=by
        unfold dS at h;obtain⟨_,h⟩:=A2 h;rw[M3]at h;simp only[C7,J1]at h;obtain⟨_,rfl⟩:=h;exact⟨⟨_,rfl⟩,T9⟩
       obtain⟨q1,q2,q3,q4⟩:=iV (ρ:=ρ) hl e1 (hS.le O.2);obtain⟨r1,r2,r3⟩:=go (hh:=rows.length) (mm:=c) h D fun T q2 h1 F=>by
        rw[q4]at h1;injection h1 with _ h1
        have h1:((rows.length:Nat):Int)=(q2:Nat):=h1;have:q2=rows.length:=A6;subst this;refine⟨rfl,.inl ⟨rfl,rfl⟩,fun _=>rfl,.inl ⟨rfl,hn.symm⟩,A6,fun hc=>?_⟩
        have:=aq hc;have:c=n:=this;omega
       exact⟨r1,q2.trans r2,q3.trans r3⟩
      .cases h
 cases lo with
 | none=>exact main _ (.inl ⟨d R,rfl⟩) h
 | some y=>obtain⟨Y,q1,q2⟩:=f R;exact main _ (.inr ⟨Y,q1,q2⟩) h
end
end
section
open Go
variable [Ora]
section
variable {P:Program} {base:Nat} {ρ ρ':Ren} {m m':Mem} {w w':World}
def M8(R:Nat->Option Obj)(rows:List (List U))(wd:Nat)(C:Array Value)(o:Nat):Prop :=
 (∀ row ∈ rows,row.length=wd)/\∀ (r:Nat) (row:List U) (j:Nat) (u:U) (v:Value),rows[r]? = some row->row[j]? = some u->C[o+r*wd+j]? = some v->Enc R u v
def M8.mono{R d:Nat->Option Obj}{rows:List (List U)}{wd:Nat}{C:R3}(h:M8 R rows wd C o)(hs:Sub R d):M8 d rows wd C o:=⟨h.1,fun r row j u v a b c=>(h.2 r row j u v a b c).mono hs⟩
def M8.nil{R:Nat->Option Obj}{wd:Nat}{C:R3}:M8 R [] wd C o:=⟨fun _ h=>by(cases h),fun r row j u v h=>by simp at h⟩
def kU{wd:Nat}:∀ {n:Nat} {l:List U} {r:List (List U)},Z8 wd n l=some r->r.length=n/\l.length=n*wd/\(∀ row ∈ r,row.length=wd)/\∀ (q:Nat) (row:List U) (j:Nat) (u:U),r[q]? = some row->row[j]? = some u->l[q*wd+j]? = some u
 | 0,[],r,h=>by cases h;exact⟨rfl,by simp,fun _ h=>(by cases h),fun q row j u h=>by simp at h⟩
 | 0,_::_,r,h=>by cases h
 | n+1,l,r,h=>by
   unfold Z8 at h;split at h
   .rename_i hle;split at h
    .rename_i g hr;cases h;obtain⟨h1,c,h3,e⟩:=kU hr;have d:l.length=(n+1)*wd:=by
      rw[O2]at c;rw[G8];omega
     refine⟨by simp[h1],d,fun row b=>?_,fun q row j u g1 g2=>?_⟩
     .rcases A8.1 b with rfl|b
      .simp;omega
      .exact h3 row b
     .cases q with
      | zero =>
        simp at g1;subst g1;have f:=(A9.1 g2).1;simp at f;rw[F2 A6]at g2
        simpa using g2
      | succ q =>
        have:=e q row j u (by simpa using g1) g2;rw[H3]at this;rw[show(q+1)*wd+j=wd+(q*wd+j) by rw[G8];omega];exact this
    .cases h
   .cases h
def lY{wd:Nat}:∀ (n:Nat) (l:List U),l.length=n*wd->∃ r,Z8 wd n l=some r
 | 0,[],_=>⟨[],rfl⟩
 | 0,_::_,h=>by simp at h
 | n+1,l,h=>by
   rw[G8]at h;obtain⟨r,hr⟩:=lY (wd:=wd) n (l.drop wd) (by rw[O2];omega);refine⟨l.take wd::r,?_⟩;unfold Z8;rw[B2 A6,hr]
def kZ{R:Nat->Option Obj}{wd n:Nat}{rows:List (List U)}(h:Y3 R us vs)(c:Z8 wd n us=some rows):M8 R rows wd ⟨vs⟩ 0:=by
 obtain⟨h1,d,h3,b⟩:=kU c;refine⟨h3,fun r row j u v g1 g2 g3=>h.2 _ u v (b r row j u g1 g2) ?_⟩
 simpa using g3
def tD{α:Type}{l:List α}:∀ n,(HI l n).length=n*l.length
 | 0=>by simp[HI]
 | n+1=>by simp[HI,tD n,G8];omega
def eP(s:List UInt8):(lC s).length=s.length:=by simp[lC]
def CU{R:Nat->Option Obj}(s:List UInt8):M8 R (lC s) 1 ⟨N3 s⟩ 0:=by
 refine⟨fun row hr=>?_,fun r row j u v g1 g2 g3=>?_⟩
 .unfold lC at hr;obtain⟨b,_,rfl⟩:=I5.1 hr;rfl
 .unfold lC at g1;rw[F6]at g1;cases c:s[r]? with
  | none=>rw[c]at g1;cases g1
  | some b =>
    rw[c]at g1;simp only[I9,C7]at g1;subst g1;cases j with
    | zero =>
      simp at g2;subst g2;have g3:(N3 s)[0+r*1+0]? = some v:=by simpa using g3
      unfold N3 at g3;rw[F6,show 0+r*1+0=r by omega,c]at g3;simp only[I9,C7]at g3;subst g3;exact .sc rfl
    | succ j=>simp at g2
def pQ{G:Nat->Option Obj}{wd n c:Nat}{rows:List (List U)}(h:Enc G (.seq false wd rows) (.slice (some a) n c))(H:∀ k B,G k=some B->w.heap[k]? = some B) :
  n=rows.length/\∃ new',new'.length=rows.length*wd/\new'.all o9=true/\M8 G rows wd ⟨new'⟩ 0/\∀ (j:Nat) (v':Value),new'[j]? = some v'->w.cell? (a.add j)=some v':=by
 cases h with
 | sc h=>cases h
 | emp=>exact⟨rfl,[],by simp,rfl,.nil,fun j v' h=>by simp at h⟩
 | sl J D A hw f =>
   rename_i a o C T fz;refine⟨rfl,?_⟩;cases hr:rows with
   | nil=>exact⟨[],by simp,rfl,.nil,fun j v' h=>by simp at h⟩
   | cons K I =>
     have g:rows≠[]:=by rw[hr];simp
     rw[<- hr];have hh:=H _ _ (D g);have A:=A g;have hlen:((C.toList.drop o).take (rows.length*wd)).length=rows.length*wd:=by simp;omega
     have b:∀ j,j<rows.length*wd->((C.toList.drop o).take (rows.length*wd))[j]? = C[o+j]? := fun j d=>by
      rw[F2 d,H3];simp
     refine⟨_,hlen,?_,⟨hw,fun r row j u v g1 g2 g3=>?_⟩,fun j v' d=>?_⟩
     .refine D3.2 fun v E=>?_
      obtain⟨j,d,e⟩:=U1 E;rw[hlen]at d;have q:C[o+j]? = some v:=by rw[<- b j d,A3 (by rw[hlen];exact d),e]
      have l:0<wd:=by
       rcases O1 wd with h0|h0
       .subst h0;omega
       .exact h0
      have h1:j / wd<rows.length:=by rw[Nat.div_lt_iff_lt_mul l];exact d
      have t:(rows[j / wd]).length=wd:=hw _ (H6 h1);have h3:j%wd<wd:=gJ _ l;refine jG (f (j / wd) rows[j / wd] (j%wd) (rows[j / wd])[j%wd] v (A3 h1) (A3 (by rw[t];exact h3)) ?_);have:o+j / wd*wd+j%wd=o+j:=by have:=gV j wd;rw[V5]at this;omega
      rw[this];exact q
     .have F:0+r*wd+j<rows.length*wd:=by
       have y:=(A9.1 g1).1;have x:=(A9.1 g2).1;rw[hw _ (D8 g1)]at x;have t:(r+1)*wd<=rows.length*wd:=E7 wd y;rw[G8]at t;omega
      have g3:((C.toList.drop o).take (rows.length*wd))[0+r*wd+j]? = some v:=by simpa using g3
      rw[b _ F]at g3;exact f r row j u v g1 g2 (by rw[show o+r*wd+j=o+(0+r*wd+j) by omega];exact g3)
     .have p:=(A9.1 d).1;rw[hlen]at p;rw[b j p]at d;rw[J0.add_none'];simp[World.cell?,hh,d]
structure OP (P:Program) (ρ':Ren) (w:World) (wd:Nat) (bh:Beh) (gs:List Nat) (y':Value) (rows2:List (List U)) (new':List Value):Prop where
 len:∀ wd',(Builtin.lenOf y').run P wd'=.ok rows2.length wd'
 first:∀ wd':World,wd'.heap=w.heap->(Builtin.firstCells wd rows2.length y').run P wd'=.ok ⟨new'⟩ wd'
 size:new'.length=rows2.length*wd
 flat:new'.all o9=true
 rows:∀ R,(∀ b ∈ gs,∀ l,ρ' b=some l->Sub l.G R)->M8 R rows2 wd ⟨new'⟩ 0
 ev:∀ c nul rows,Ora.env c=.seq nul wd rows->evU (bK wd (hole c (10+wd)) bh).1 ((bK wd (hole c (10+wd)) bh).2.map (D5 Ora.env))=jJ nul wd rows rows2
def yD{R:Nat->Option Obj}(h:Y3 R us vs):vs.all o9=true:=by
 refine D3.2 fun v c=>?_
 obtain⟨j,b,e⟩:=U1 c;have hu:j<us.length:=by rw[h.1];exact b
 exact jG (h.2 j us[j] v (A3 hu) (by rw[A3 b,e]))
def MD{td:Td}(M:vE P td){e:TypeId}{wd:Nat}{y y':Value}{bh:Beh}{gs:G6}(h:HR P base ρ m.H w)(p:VU td P m e wd y=some (bh,gs,sure,m'))(hf:I8 ρ m.n m'.hi)(O:VR ρ y y')(hS:Sat m'.lg)(az:0<wd)(X:G3 P e=some wd) :
  ∃ ρ' d new',St P base ρ ρ' m m' w w/\m.lg.le m'.lg/\g9 ρ m m'/\(∀ b ∈ gs,Hp.get m'.H b=some .frz/\∃ l,ρ' b=some l)/\OP P ρ' w wd bh gs y' d new'/\(sure=true->d≠[]):=by
 unfold VU at p;split at p
 .cases p;cases N9 O;refine⟨ρ,[],[],St.refl h,.refl _,.refl,fun b E=>(by cases E),⟨fun _=>rfl,fun _ _=>rfl,by simp,rfl,fun R _=>.nil,fun c g rows t=>?_⟩,fun h=>by cases h⟩;show evU (.snoc wd) [Ora.env c]=_;rw[t];show(if wd=wd/\wd≠0 then(match Z8 wd (([]:List U).length / wd) []with|some r=>jJ g wd rows r|none=>.none)else .none)=_;rw[B2 ⟨rfl,A6⟩,gX,Nat.zero_div];rfl
 .rename_i a n c;split at p
  .rename_i cs ts hr W;split at p
   .rename_i xs aw m2 T;cases p;have ay:cN m wd (.slice (some a) n c)=some (n,cs):=by simp only[cN,hr]
    obtain⟨f1,new',f2,f3⟩:=qP h ay O;obtain⟨ρ2,I,L,N,B,Y,J⟩:=fD M h T hf f2 hS;have Q:ts.length=wd:=by have:=fE W;rw[X]at this;exact(A5 this).symm
    have C:(xs.map (D5 Ora.env)).length=n*wd:=by
     have:=U4 List.length Y;rw[F0,tD,Q]at this;exact this
    obtain⟨d,D⟩:=lY (wd:=wd) n (xs.map (D5 Ora.env)) C;obtain⟨g1,g2,g3,g4⟩:=kU D;refine⟨ρ2,d,new',I,L,N,B,⟨fun q=>by rw[g1];exact f1 q,fun q F=>by rw[g1];exact f3 q F,?_,?_,fun R S=>kZ (J R S) D,fun c g rows t=>?_⟩,fun hs=>?_⟩
    .have:=(J (fun k=>w.heap[k]?) (fun b E l Z k o hk=>by
      obtain⟨q1,_⟩:=B b E;exact(I.hr.atl Z q1).1.2 k o hk)).1
     rw[<- this,C,g1]
    .exact yD (J (fun k=>w.heap[k]?) (fun b E l Z k o hk=>by
      obtain⟨q1,_⟩:=B b E;exact(I.hr.atl Z q1).1.2 k o hk))
    .show evU (.snoc wd) (Ora.env c::xs.map (D5 Ora.env))=_;rw[t];show(if wd=wd/\wd≠0 then(match Z8 wd ((xs.map (D5 Ora.env)).length / wd) (xs.map (D5 Ora.env))with|some r=>jJ g wd rows r|none=>.none)else .none)=_;rw[B2 ⟨rfl,A6⟩,C,m6 _ az,D]
    .have:0<n:=A1 hs;intro he;subst he;simp at g1;omega
   .cases p
  .cases p
 .split at p
  .rename_i x b m2 T;cases p;obtain⟨ρ2,l,I,L,N,B,Y,J,e7⟩:=M.ok h T hf O hS;obtain⟨ax,f,d,q1,q2⟩:=dR B Y A6;have V:f=wd:=A6;subst V;have hG:=(I.hr.atl L N).1.2;rw[q1]at B;have K:∀ c g rows,Ora.env c=.seq g f rows->evU (bK f (hole c (10+f)) (.rows x)).1 ((bK f (hole c (10+f)) (.rows x)).2.map (D5 Ora.env))=jJ g f rows d:=fun c g rows t=>by
    show evU (.cat f) [Ora.env c,D5 Ora.env x]=_;rw[t,q1];simp[evU]
   have A:∀ b' ∈ [b],Hp.get m'.H b'=some .frz/\∃ l,ρ2 b'=some l:=fun b' G=>by
    rcases A8.1 G with rfl|G
    .exact⟨N,l,L⟩
    .cases G
   rcases p7 B with⟨rfl,rfl,rfl⟩|⟨rfl,a,c,rfl,t⟩
   .exact⟨ρ2,[],[],I,J,e7,A,⟨fun _=>rfl,fun _ _=>rfl,by simp,rfl,fun R _=>.nil,K⟩,fun h=>by cases h⟩
   .obtain⟨_,new',g1,g2,g3,g4⟩:=pQ (w:=w) B hG;refine⟨ρ2,d,new',I,J,e7,A,⟨fun _=>rfl,fun q F=>?_,g1,g2,fun R S=>g3.mono (S b (.head _) l L),K⟩,fun h=>by cases h⟩;rw[show Builtin.firstCells f d.length (.slice (some a) d.length c)=loadCells a (d.length*f)from rfl];exact iU g1 fun j v' hj=>by rw[y9 F];exact g4 j v' hj
  .cases p
 .obtain⟨h1,p⟩:=A2 p;obtain⟨h2,h3⟩:=B6 h1;have h4:=A0 h2;have h5:=A0 h3;cases p;subst h5;obtain⟨s,rfl,f1⟩:=i7 O h4;refine⟨ρ,lC s,N3 s,St.refl h,.refl _,.refl,fun b E=>(by cases E),⟨fun _=>?_,fun q _=>?_,by simp[lC,N3],?_,fun R _=>CU s,fun c g rows t=>?_⟩,fun h=>by cases h⟩
  .rw[eP];rfl
  .rw[eP];have e:((ByteArray.extract ⟨⟨s⟩⟩ 0 s.length).data.map fun b=>Value.int .u8 b.toNat)=⟨N3 s⟩:=by
    rw[eE];apply I1;simp[N3]
   show(pure ((ByteArray.extract ⟨⟨s⟩⟩ 0 s.length).data.map fun b=>Value.int .u8 b.toNat):Sem R3).run P q=_;rw[e];rfl
  .refine D3.2 fun v hv=>?_
   unfold N3 at hv;obtain⟨b,_,rfl⟩:=I5.1 hv;rfl
  .show evU .cats [Ora.env c,D5 Ora.env y]=_;rw[t,f1];simp[evU]
end
end
section
open Go
variable [Ora]
section
variable {P:Program} {base:Nat} {ρ ρ':Ren} {m m':Mem} {w w':World}
def Sub.trans{A B C:Nat->Option Obj}(h:Sub A B)(k:Sub B C):Sub A C:=fun q o b=>k q o (h q o b)
structure WO (P:Program) (base:Nat) (ρ:Ren) (m:Mem) (w:World) (e:TypeId) (wd c:Nat) (gs:List Nat) (old:Option Nat) (x':Value):Prop where
 ex:∃ nul rows,Ora.env c=.seq nul wd rows/\((nul=true/\rows=[]/\x'=.slice none 0 0/\(∀ b,old=some b->∃ ab l,b<=G9/\Hp.get m.H b=some ab/\ab.rw=true/\ρ b=some l/\l.on=false)) ∨
  (nul=false/\∃ b ab l cap C fz,old=some b/\b<=G9/\Hp.get m.H b=some ab/\ab.rw=true/\ρ b=some l/\l.on=true/\x'=.slice (some ⟨l.blk,l.sh,none⟩) rows.length cap/\w.heap[l.blk]? = some (.cells C e fz) /\
    rows.length<=cap/\l.sh+cap*wd<=C.size/\(∀ i,i<C.size->¬ (fz.1<=i/\i<fz.2))/\∀ R,(∀ b ∈ gs,∀ l,ρ b=some l->Sub l.G R)->M8 R rows wd C l.sh))
def FX{td:Td}(an:vE P td){e:TypeId}{wd c:Nat}{x x':Value}{gs:G6}{old:Option Nat}(h:HR P base ρ m.H w)(d:yX td P m e wd x=some (c,gs,old,m'))(hf:I8 ρ m.n m'.hi)(hx:VR ρ x x')(hS:Sat m'.lg)(ae:0<wd)(k:G3 P e=some wd) :
  ∃ ρ',St P base ρ ρ' m m' w w/\m.lg.le m'.lg/\g9 ρ m m'/\WO P base ρ' m' w e wd c gs old x':=by
 unfold yX at d;split at d
 .rw[M3]at d;simp only[hole]at d;cases d;cases N9 hx;obtain⟨t,e2,_⟩:=gQ hS (.refl _);refine⟨ρ,St.wLg h _,T9,g9.lg _,⟨true,[],t,.inl ⟨rfl,rfl,rfl,fun b hb=>by cases hb⟩⟩⟩
 .rename_i b i tg;split at d
  .rename_i c0 tc T g S;obtain⟨h1,d⟩:=A2 d;obtain⟨h1,M⟩:=B6 h1;obtain⟨h1,h3⟩:=B6 h1;obtain⟨M,D⟩:=B6 M;have h1:=A0 h1;have h3:=A0 h3;have M:=A0 M;have D:=A1 D;cases d;subst M;obtain⟨W,bz⟩:=aF hx;rcases W with⟨l,ay,g1,g2,g3,rfl⟩|⟨l,ay,ao,g1,g2,g3,g4,bt,rfl⟩
   .obtain⟨N,inf,t,e2,e3,f⟩:=SqR.ex (h.atl g1 S).1;rcases f with⟨_,f⟩|⟨f,_⟩
    .have:N=wd:=A6;subst this;refine⟨ρ,St.refl h,.refl _,.refl,⟨true,[],f,.inl ⟨rfl,rfl,rfl,fun b' af=>?_⟩⟩⟩;cases af;exact⟨_,l,D,S,rfl,g1,g2⟩
    .rw[g2]at f;cases f
   .obtain⟨N,inf,t,e2,e3,f⟩:=SqR.ex (h.atl g1 S).1;rcases f with⟨f,_⟩|⟨_,f⟩
    .rw[g2]at f;cases f
    .obtain⟨C,fz,T',rows,lg,f1,f2,f3,f4,f5,f6,f7,f8,f9⟩:=f;have:N=wd:=A6;subst this;obtain⟨rfl,f10⟩:=f9 rfl;exact⟨ρ,St.refl h,.refl _,.refl,⟨false,rows,f2,.inr ⟨rfl,b,_,l,l.cap,C,fz,rfl,D,S,rfl,g1,g2,by rw[f3],f1,A6,f5,f10,fun R hR=>⟨f6,fun r row j u v q1 q2 q3=>(f8 r row j u v q1 q2 q3).mono (hR g (.head _) lg f7)⟩⟩⟩⟩
  .cases d
 .rename_i b n c0;split at d
  .rename_i cs T0 bu ts S aj;obtain⟨hq,p⟩:=A2 d;obtain⟨ak,al⟩:=B6 hq;have h1:=A0 ak;clear d;split at p
   .rename_i xs bw m1 hd;split at p
    .rename_i bs T X;obtain⟨G,Q⟩:=A2 p;clear p;obtain⟨G,D⟩:=B6 G;have h3:=A0 G;have D:=A1 D;subst h3;rw[M3]at Q;simp only[hole]at Q;cases Q;have ax:I8 ρ m.n m1.hi:=by simpa using hf
     have ai:Sat m1.lg:=N0.le hS T9;obtain⟨l,cap,q,bx,aw,ar⟩:∃ l cap,ρ b=some l/\n<=cap/\(cap=n∨cap=l.cap)/\x'=.slice (some ⟨l.blk,0+l.sh,none⟩) n cap:=by
      rcases(G0 _ _).mp al with A|A
      .obtain⟨O,J⟩:=B6 A;have O:=A0 O;have J:c0<L7:=A1 J;rcases M9 hx with⟨l,q,_,I,rfl⟩|⟨l,c',q,_,ah,Z,Y,rfl⟩|⟨a',c',_,_,A,_⟩
       .exact⟨l,c0,q,A6,.inl O,rfl⟩
       .omega
       .omega
      .have A:=A0 A;rcases M9 hx with⟨l,q,_,I,rfl⟩|⟨l,c',q,_,ah,Z,Y,rfl⟩|⟨a',c',_,_,J,_⟩
       .omega
       .exact⟨l,c',q,Z,.inr (Y A rfl),rfl⟩
       .omega
     obtain⟨⟨az,C,fz,T1,f1,f2,_⟩,_⟩:=h.atl q S;obtain⟨cs',f4,f5⟩:=o7 (ρ:=ρ) (C:=C) (cs:=cs) (s:=l.sh) f2;obtain⟨av,t,e2,e3,f,e5,e6⟩:=fD an h hd ax f4 ai;obtain⟨⟨_,C1,br,T2,g1,g2,g3⟩,_⟩:=t.hr.atl (t.ext _ _ q) X;rw[f1]at g1;cases g1;obtain⟨rfl,g4,g5⟩:=g3 rfl;have y:=fE aj;rw[k]at y;have I:ts.length=wd:=(A5 y).symm;have V:(xs.map (D5 Ora.env)).length=n*wd:=by
      have:=U4 List.length e5;rw[F0,tD,I]at this;exact this
     obtain⟨rows,K⟩:=lY (wd:=wd) n (xs.map (D5 Ora.env)) V;obtain⟨q1,q2,q3,q4⟩:=kU K;obtain⟨d1,d2,_⟩:=gQ hS (.refl _);have A:Ora.env m1.lg.nx=.seq false wd rows:=by
      rw[d1];show(if wd=0 then U.none else match Z8 wd ((xs.map (D5 Ora.env)).length / wd) (xs.map (D5 Ora.env))with|some r=>.seq false wd r|none=>.none)=_;rw[B0 A6,V,m6 _ ae,K]
     have ad:cs'.length=n*wd:=by rw[<- f4.1];exact h1
     obtain⟨inf,B,E⟩:∃ inf,P.info? T1=some inf/\inf.size=wd:=by
      unfold G3 at k;cases hi:P.info? T1 with
      | none=>rw[hi]at k;cases k
      | some inf=>rw[hi]at k;exact⟨inf,rfl,A5 k⟩
     have F:l.sh+cap*wd<=C.size:=by
      rcases aw with rfl|rfl
      .rcases O1 (cap*wd)with h0|h0
       .rw[h0]
        have:=g5 inf B;rw[E]at this;omega
       .have L:cap*wd-1<cs'.length:=A6
        have:=f5 (cap*wd-1) cs'[cap*wd-1] (A3 L)
        have:=(B7.1 this).1;omega
      .have:=g5 inf B;rw[E]at this;exact this.1
     have ag:=St.wLg t.hr (dH m1 (10+wd) (.mk wd) xs);refine⟨av,St.trans (by simpa using hf) t ag,e2.trans T9,fun j lj hj aa=>by rw[hZ];exact e3 j lj hj aa,⟨false,rows,A,.inr ⟨rfl,b,_,l,cap,C,fz,rfl,D,by rw[hZ];exact X,rfl,t.ext _ _ q,az,by rw[ar,q1,E1],f1,A6,F,g4,fun R hR=>?_⟩⟩⟩;obtain⟨r1,r2⟩:=kZ (e6 R hR) K;refine⟨r1,fun r row j u v a1 a2 a3=>r2 r row j u v a1 a2 ?_⟩;have hq:r*wd+j<cs'.length:=by
      have au:=(A9.1 a1).1;have aq:=(A9.1 a2).1;rw[r1 _ (D8 a1)]at aq;have M:(r+1)*wd<=rows.length*wd:=E7 wd au;rw[G8]at M;rw[ad,<- q1];omega
     have:=f5 (r*wd+j) cs'[r*wd+j] (A3 hq);rw[show l.sh+r*wd+j=l.sh+(r*wd+j) by omega,this]at a3;have a3:=A5 a3;show(Array.mk cs')[0+r*wd+j]? = some v;rw[I6,show 0+r*wd+j=r*wd+j by omega,A3 hq,a3]
    .cases p
   .cases p
  .cases d
 .cases d
end
end
end Go.Sx
