import Derived.Test.YtbbicpheoakeeaaGreatDoorX2
set_option linter.all false
set_option maxRecDepth 100000
set_option maxHeartbeats 4000000
namespace Go.Sx
variable {op:LOp}{s ty:TypeId}{hi i j o tg:Nat}{i' z z':Value}{u:U}{kh kk kl:IntKind}{hi' lo lo' mx mx':Q3}{hs r' vs vs' xs:D0}{tys:List TypeId}{a:Addr}{m1:Mem}{row us:List U}{ts:H4}{cl sure:Bool}
section
open Go
variable [Ora]
section
variable {P:Program} {base:Nat} {ρ:Ren} {m m':Mem} {w:World}
def pk(k:IntKind)(n:Int):I4 (.int k n)=true:=rfl
def WP{op:UnOp}{x x' v:Value}(h:IC m op x=some (v,m'))(hx:VR ρ x x')(g:Sat m'.lg)(w:World):∃ r,(Op.unary op x').run P w=.ok r w/\VR ρ v r:=by
 unfold IC at h;simp only at h;split at h
 .obtain⟨h1,h⟩:=A3 h;obtain⟨b,rfl,e⟩:=hH hx (A0 h1);obtain⟨u,c,l,r,d,f,_⟩:=M4 h g;simp only[C3,F9,e,evU,ev1,unM,ofV]at c;subst c;cases d;exact⟨_,(MS (P:=P) (ρ:=ρ) (op:=.not) (x:=.bool b) (v:=.bool !b) rfl (.pure rfl) w).1,f ρ⟩
 .obtain⟨h1,h⟩:=A3 h;obtain⟨k,n,rfl,e,_⟩:=M6 hx (A1 h1);obtain⟨u,c,l,r,d,f,p⟩:=M4 h g;simp only[C3,F9,e,evU,ev1]at c;subst c;obtain⟨r',g1,g2⟩:=FF (by rw[l];exact p);rw[d]at g2;cases g2;exact⟨_,(MS (P:=P) (ρ:=ρ) g1 (.pure (pk k n)) w).1,f ρ⟩
def MZ{t:TypeId}{x x' v:Value}(h:qD P m s t x=some (v,m'))(hx:VR ρ x x')(f:Sat m'.lg)(w:World):∃ r,(convert s t x').run P w=.ok r w/\VR ρ v r:=by
 unfold qD at h;split at h
 .rename_i j k hs c;obtain⟨h1,h⟩:=A3 h;obtain⟨q,n,rfl,e,_⟩:=M6 hx (A1 h1);obtain⟨u,d,p,r,g,l,y⟩:=M4 h f;simp only[C3,F9,e,evU]at d;subst d;cases g;exact⟨_,by simp[convert,A4,C9 hs,C9 c,Result.andThen,Conv.intToInt],l ρ⟩
 .rename_i hs c;obtain⟨h1,h⟩:=A3 h;cases h;obtain⟨b,rfl,e⟩:=o7 hx (A0 h1);exact⟨_,by simp[convert,A4,C9 hs,C9 c,Result.andThen],hx⟩
 .cases h
def iT{t:Nat}:∀ {cs:D0},l6 t cs=true->∀ {i:Nat} {v:Value},cs[i]? = some v->G4 v=t
 | [],_,i,v,h=>by simp at h
 | c::r,hs,i,v,h=>by
   obtain⟨h1,b⟩:=B6 (show(Nat.beq (G4 c) t && l6 t r)=true from hs);cases i with
   | zero=>simp at h;subst h;exact A0 h1
   | succ i=>exact iT b (by simpa using h)
def XF{t e:TypeId}{n:Nat}{cs:V8}{x' i v:Value}(hu:P.underlying t=some (.array n e))(y:aR P e=some false)(f:H1 P e=some 1)(D:cs.toList.length=n)(g:l6 tg cs.toList=true)(C:tg<10)
  (l:G4 i<8) (h:T9 m tg .sel (i::cs.toList)=some (v,m')) (hx:VR ρ (.agg cs) x') (hi:VR ρ i i') (x:Sat m'.lg) (w:World):∃ r,(Instr.index t x' i').run P w=.ok r w/\VR ρ v r:=by
 obtain⟨k,z,rfl,e,_⟩:=M6 hi l;obtain⟨u,c,E,r,d,B,F⟩:=M4 h x;simp only[C3,e]at c;cases z with
 | negSucc z=>simp only[evU]at c;subst c;cases d
 | ofNat z =>
   simp only[evU]at c;by_cases p:z<cs.toList.length
   .have b:cs.toList[z]? = some cs.toList[z]:=A5 p;have q:=iT g b;have hm:lX P t (.agg cs) (.int k (.ofNat z))=some cs.toList[z]:=by
     have A:Nat.blt z n=true:=C5 A2;simp only[lX,hu,f,A,E3,rE,y,Nat.mul_one];exact b
    obtain⟨v',g1,g2⟩:=tK (P:=P) hm hx (.pure rfl) w;obtain⟨f1,_⟩:=aB g2 A2;have:u=D5 Ora.env cs.toList[z]:=by
     rw[<- c,B1,F6,b];rfl
    rw[this,f1]at d;cases d;exact⟨_,g1,B ρ⟩
   .rw[B1,T6 (by simp at p ⊢;omega)]at c;subst c;cases d
def BV{e:TypeId}(h:Nat.beq (l5.sizeD P e) 1=true):H1 P e=some 1:=by
 have h:=A0 h;unfold l5.sizeD at h;split at h
 .rename_i n b;rw[b,h]
 .cases h
def IF{t:TypeId}{x x' i v:Value}(h:l5 P m t x i=some (v,m'))(hx:VR ρ x x')(hi:VR ρ i i')(f:Sat m'.lg)(w:World):∃ r,(Instr.index t x' i').run P w=.ok r w/\VR ρ v r:=by
 unfold l5 at h;cases p:!(Nat.blt (G4 i) 8)with
 | true=>rw[p]at h;cases h
 | false =>
   have c:G4 i<8:=by
    have:Nat.blt (G4 i) 8=true:=by simpa using p
    exact A1 this
   rw[p]at h;simp only[D6]at h;split at h
   .rename_i hu;obtain⟨h1,h⟩:=A3 h;obtain⟨s,rfl,f1⟩:=o7 hx (A0 h1);obtain⟨k,z,rfl,f2,_⟩:=M6 hi c;obtain⟨u,d,A,r,l,y,B⟩:=M4 h f;simp only[C3,F9,f1,f2]at d;cases z with
    | negSucc z=>simp only[evU]at d;subst d;cases l
    | ofNat z =>
      simp only[evU]at d;split at d
      .rename_i b q;subst d;cases l;have hm:lX P t (.string ⟨⟨s⟩⟩) (.int k (.ofNat z))=some (.int .u8 b.toNat):=by
        simp only[lX,hu,q]
       obtain⟨v',g1,g2⟩:=tK (P:=P) (ρ:=ρ) hm (.pure rfl) (.pure rfl) w;cases J4 g2;exact⟨_,g1,y ρ⟩
      .subst d;cases l
   .rename_i n e hu;split at h
    .rename_i cs k he;obtain⟨h1,h⟩:=A3 h;obtain⟨h1,h3⟩:=B6 h1;obtain⟨h1,g⟩:=B6 h1;exact XF hu (by simp[aR,he]) (BV h3) (A0 h1) g (by have:=L6 k;omega) c h hx hi f w
    .rename_i cs he;obtain⟨h1,h⟩:=A3 h;obtain⟨h1,h3⟩:=B6 h1;obtain⟨h1,g⟩:=B6 h1;exact XF hu (by simp[aR,he]) (BV h3) (A0 h1) g A2 c h hx hi f w
    .cases h
   .cases h
def NC{t:TypeId}(hu:P.underlying t=some .string){s:List UInt8}{l h:Int}{r:Value}(b:II s l h=u)(c:toV u=some r):dD P t (.string ⟨⟨s⟩⟩) (some (.int kl l)) (some (.int kh h)) none=some r:=by
 unfold II at b;split at b
 .rename_i l h;split at b
  .rename_i hh;subst b;cases c;have e:Nat.ble h (ByteArray.size ⟨⟨s⟩⟩)=true:=C5 hh.2;have d:Nat.ble l h=true:=C5 hh.1;simp only[dD,hu,U0,e,d,E3]
  .subst b;cases c
 .subst b;cases c
def ID{t:TypeId}{x x' v:Value}{hi:Q3}(h:kY P m t x lo hi mx=some (v,m'))(hx:VR ρ x x')(f:OR ρ lo lo')(g:OR ρ hi hi')(E:OR ρ mx mx')(C:Sat m'.lg)(w:World) :
  ∃ r,(Instr.sliceAt t x' lo' hi' mx').run P w=.ok r w/\VR ρ v r:=by
 have c:∀ {o:Q3},OR ρ none o->o=none:=fun{o} h=>by cases o<;>first|rfl|exact h.elim
 have d:∀ {y:Value} {o:Q3},OR ρ (some y) o->∃ G,o=some G/\VR ρ y G:=fun{y o} h=>by cases o<;>first|exact h.elim|exact⟨_,rfl,h⟩
 unfold kY at h;split at h
 .rename_i hu;cases c E;obtain⟨h1,h⟩:=A3 h;obtain⟨s,rfl,f1⟩:=o7 hx (A0 h1);have B:∀ {y:Value},VR ρ (.string ⟨⟨s⟩⟩) y->y=.string ⟨⟨s⟩⟩:=fun h=>U6 h
  split at h
  .cases h;cases c f;cases c g;have hm:dD P t (.string ⟨⟨s⟩⟩) none none none=some (.string ⟨⟨s⟩⟩):=by
    have e:ByteArray.size ⟨⟨s⟩⟩=s.length:=rfl;simp[dD,hu,U0,e]
   obtain⟨v',g1,g2⟩:=hJ (P:=P) (ρ:=ρ) (lo':=none) (hi':=none) (mx':=none) hm (.pure rfl) trivial trivial trivial w;cases U6 g2;exact⟨_,g1,hx⟩
  .obtain⟨p,h⟩:=A3 h;obtain⟨l',rfl,D⟩:=d f;cases c g;obtain⟨k,z,rfl,f2,_⟩:=M6 D (A1 p);obtain⟨u,n,H,r,l,A,I⟩:=M4 h C;simp only[C3,F9,f1,f2,evU]at n;have hm:=NC (P:=P) (kl:=k) (kh:=.i64) hu n l;have q:dD P t (.string ⟨⟨s⟩⟩) (some (.int k z)) none none=some r:=by
    rw[<- hm];have e:ByteArray.size ⟨⟨s⟩⟩=s.length:=rfl;have b:Nat.ble s.length s.length=true:=C5 (A6 _);have F:((s.length:Nat):Int)=Int.ofNat s.length:=rfl;simp only[dD,hu,U0,e,F,b,E3]
   obtain⟨v',g1,g2⟩:=hJ (P:=P) (ρ:=ρ) (lo':=some (.int k z)) (hi':=none) (mx':=none) q (.pure rfl) (VR.pure rfl:VR ρ _ _) trivial trivial w;have:VR ρ r v':=g2;have hp:=gY l;cases g2 with
   | pure _=>exact⟨_,g1,A ρ⟩
   | _=>simp[I4,ixp,Go.Sx.dat,Go.Sx.clp,Go.Sx.own,Go.Sx.dpt,Go.Sx.opt,Go.Sx.yv,Go.Sx.sdt]at hp
  .obtain⟨p,h⟩:=A3 h;obtain⟨J,rfl,hh⟩:=d g;cases c f;obtain⟨k,z,rfl,f2,_⟩:=M6 hh (A1 p);obtain⟨u,n,H,r,l,A,I⟩:=M4 h C;have f0:D5 Ora.env (.int .i64 0)=.int .i64 0:=rfl;simp only[C3,F9,f1,f2,f0,evU]at n;have hm:=NC (P:=P) (kl:=.i64) (kh:=k) hu n l;have q:dD P t (.string ⟨⟨s⟩⟩) none (some (.int k z)) none=some r:=by
    rw[<- hm];have F:(0:Int)=Int.ofNat 0:=rfl;cases z with
    | negSucc z=>simp only[dD,hu,U0]
    | ofNat z =>
      have K:Nat.ble 0 z=true:=C5 (mP _);simp only[dD,hu,U0,F];cases Nat.ble z (ByteArray.size ⟨⟨s⟩⟩)<;>simp[K]
   obtain⟨v',g1,g2⟩:=hJ (P:=P) (ρ:=ρ) (lo':=none) (hi':=some (.int k z)) (mx':=none) q (.pure rfl) trivial (VR.pure rfl:VR ρ _ _) trivial w;have hp:=gY l;cases g2 with
   | pure _=>exact⟨_,g1,A ρ⟩
   | _=>simp[I4,ixp,Go.Sx.dat,Go.Sx.clp,Go.Sx.own,Go.Sx.dpt,Go.Sx.opt,Go.Sx.yv,Go.Sx.sdt]at hp
  .obtain⟨p,h⟩:=A3 h;obtain⟨p,h3⟩:=B6 p;obtain⟨J,rfl,hh⟩:=d g;obtain⟨l',rfl,D⟩:=d f;obtain⟨k,z,rfl,f2,_⟩:=M6 D (A1 p);obtain⟨j,y,rfl,f3,_⟩:=M6 hh (A1 h3);obtain⟨u,n,H,r,l,A,I⟩:=M4 h C;simp only[C3,F9,f1,f2,f3,evU]at n;have hm:=NC (P:=P) (kl:=k) (kh:=j) hu n l;obtain⟨v',g1,g2⟩:=hJ (P:=P) (ρ:=ρ) (lo':=some (.int k z)) (hi':=some (.int j y)) (mx':=none) hm (.pure rfl) (VR.pure rfl:VR ρ _ _) (VR.pure rfl:VR ρ _ _) trivial w;have hp:=gY l;cases g2 with
   | pure _=>exact⟨_,g1,A ρ⟩
   | _=>simp[I4,ixp,Go.Sx.dat,Go.Sx.clp,Go.Sx.own,Go.Sx.dpt,Go.Sx.opt,Go.Sx.yv,Go.Sx.sdt]at hp
 .cases h
def AU{b:Builtin}{ks:Array Bool}{v:Value}(hr:HR P base ρ m.H w)(h:eM P m b vs tys=some (v,m'))(hx:LR ρ vs vs')(p:Sat m'.lg) :
  ∃ s:Sem Value,builtin b ⟨tys⟩ ty ks ⟨vs'⟩=(do pure (.value (<- s)))/\∃ r,s.run P w=.ok r w/\VR ρ v r:=by
 unfold eM at h;split at h
 .obtain⟨x',r1,rfl,h1,g⟩:=hx.tail;cases g.nil_inv;split at h
  .rename_i hu;obtain⟨h3,h⟩:=A3 h;obtain⟨s,rfl,f1⟩:=o7 h1 (A0 h3);obtain⟨u,e,x,r,l,n,y⟩:=M4 h p;simp only[C3,F9,f1,evU]at e;subst e;cases l;rename_i t rest _ _;have hm:A0T P m t (.string ⟨⟨s⟩⟩)=some (.int .i64 s.length):=by simp[A0T,hu]
   obtain⟨g1,_⟩:=RS (ρ:=ρ) (ty:=ty) (tys:=rest) hr hm (.pure rfl);exact⟨_,rfl,_,g1,n ρ⟩
  .cases h
 .obtain⟨x',r1,rfl,h1,g⟩:=hx.tail;obtain⟨A,B,rfl,h3,q⟩:=g.tail;cases q.nil_inv;obtain⟨d,h⟩:=A3 h;obtain⟨d,f⟩:=B6 d;have d:=A1 d;have f:=A0 f;obtain⟨k,a,rfl,f1,D⟩:=M6 h1 d;obtain⟨j,c,rfl,f2,C⟩:=M6 h3 (f▸d);obtain⟨u,e,x,r,l,n,y⟩:=M4 h p;simp only[C3,F9,f1,f2,evU]at e;subst e;cases l;obtain⟨g1,_⟩:=RN (P:=P) (ρ:=ρ) (ty:=ty) (tys:=⟨tys⟩) (vs:=[.int k a,.int j c]) rfl (.cons (.pure rfl) (.cons (.pure rfl) .nil)) w;exact⟨_,rfl,_,g1,n ρ⟩
 .obtain⟨x',r1,rfl,h1,g⟩:=hx.tail;obtain⟨A,B,rfl,h3,q⟩:=g.tail;cases q.nil_inv;obtain⟨d,h⟩:=A3 h;obtain⟨d,f⟩:=B6 d;have d:=A1 d;have f:=A0 f;obtain⟨k,a,rfl,f1,D⟩:=M6 h1 d;obtain⟨j,c,rfl,f2,C⟩:=M6 h3 (f▸d);obtain⟨u,e,x,r,l,n,y⟩:=M4 h p;simp only[C3,F9,f1,f2,evU]at e;subst e;cases l;obtain⟨g1,_⟩:=RL (P:=P) (ρ:=ρ) (ty:=ty) (tys:=⟨tys⟩) (vs:=[.int k a,.int j c]) rfl (.cons (.pure rfl) (.cons (.pure rfl) .nil)) w;exact⟨_,rfl,_,g1,n ρ⟩
 .cases h
def TN{v:Value}{k:IntKind}{n:Int}(h:D5 Ora.env v=.int k n):pD Ora.env v=some n:=by
 cases v with
 | complex k i t =>
   cases k with
   | f64 =>
     have h:Ora.env i=.int _ n:=h;simp only[pD,h]
   | f32=>cases h
 | int j n=>cases h;rfl
 | _=>cases h
def HC{v:Value}{n:Int}(h:pD Ora.env v=some n):∃ k,D5 Ora.env v=.int k n:=by
 cases v with
 | complex k i t =>
   cases k with
   | f64 =>
     simp only[pD]at h;split at h
     .rename_i k z he;cases h;exact⟨k,he⟩
     .cases h
   | f32=>cases h
 | int j n=>cases h;exact⟨j,rfl⟩
 | _=>cases h
def SH{s n:Nat}{i v:Value}(h:VE m a s n i=some (v,m'))(hi:VR ρ i i')(g:Sat m'.lg):v=ixp a s i n/\∃ k z,i'=.int k (.ofNat z)/\z<n/\pD Ora.env i=some (.ofNat z):=by
 unfold VE at h;cases f:!(Nat.blt (G4 i) 8)with
 | true=>rw[f]at h;cases h
 | false =>
   have d:G4 i<8:=by
    have:Nat.blt (G4 i) 8=true:=by simpa using f
    exact A1 this
   rw[f]at h;simp only[D6]at h;split at h
   .rename_i b H k W hh lg q;split at h
    .rename_i y l;cases h;obtain⟨u,p,A,r,c,x,_⟩:=M4 q (R6.le g (fE l));have e:=mH (ρ:=ρ) l (x ρ) g;subst e;obtain⟨t,z,rfl,f1,_⟩:=M6 hi d;have f0:D5 Ora.env (.int .i64 (.ofNat n))=.int .i64 (.ofNat n):=rfl;simp only[C3,F9,f1,f0,evU]at p;subst p;have c:(decide (0<=z) && decide (z<Int.ofNat n))=true:=by
      have:=A8 c;exact Value.bool.inj this
     simp only[G8,decide_eq_true_eq]at c;cases z with
     | negSucc z=>exact absurd c.1 (by simp)
     | ofNat z=>exact⟨rfl,t,z,rfl,by have:=c.2;simpa using this,TN f1⟩
    .cases h
   .cases h
def AQ{t:TypeId}{x x' i v:Value}(h:eK P m t x i=some (v,m'))(hx:VR ρ x x')(hi:VR ρ i i')(p:Sat m'.lg)(w:World):∃ r,(Instr.indexAt t x' i').run P w=.ok r w/\VR ρ v r:=by
 unfold eK at h;split at h
 .rename_i n e a hu;split at h
  .rename_i s hs d;obtain⟨rfl,k,z,rfl,f,he⟩:=SH h hi p;obtain⟨l,q,_,rfl⟩:=O6 hx;have g:Nat.blt z n=true:=C5 f;have hm:X7 P t (.pointer (some a)) (.int k (.ofNat z))=some (.pointer (some ⟨a.block,a.off+z*s,none⟩)):=by
    simp only[X7,hu,hs,d,g,E3,bP,E5]
   obtain⟨v',g1,g2⟩:=cQ (P:=P) hm hx (.pure rfl) w;obtain⟨l2,b,_,rfl⟩:=O6 g2;have b:ρ a.block=some l2:=b;rw[q]at b;cases b;exact⟨_,g1,.ixp q d he f rfl⟩
  .cases h
 .rename_i e a n c hu;split at h
  .rename_i s hs d;cases y:Nat.beq c (M9+2)with
   | true=>rw[y]at h;cases h
   | false =>
     rw[y]at h;obtain⟨rfl,k,z,rfl,f,he⟩:=SH h hi p;have g:Nat.blt z n=true:=C5 f;have hm:X7 P t (.slice (some a) n c) (.int k (.ofNat z))=some (.pointer (some ⟨a.block,a.off+z*s,none⟩)):=by
      simp only[X7,hu,hs,d,g,E3,bP,E5]
     obtain⟨v',g1,g2⟩:=cQ (P:=P) hm hx (.pure rfl) w;obtain⟨l2,b,_,rfl⟩:=O6 g2;have b:ρ a.block=some l2:=b;exact⟨_,g1,.ixp b d he f rfl⟩
  .cases h
 .cases h
def SJ{s n:Nat}{i v':Value}(h:VR ρ (ixp a s i n) v'):∃ l z,ρ a.block=some l/\a.spot=none/\pD Ora.env i=some (.ofNat z)/\z<n/\v'=.pointer (some ⟨l.blk,a.off+z*s+l.sh,none⟩):=by
 generalize hx:ixp a s i n=x at h;cases h with
 | ixp h hs hi b hv =>
   simp only[ixp,Value.func.injEq,Z8,J5,Value.pointer.injEq,D2,Value.int.injEq,kL,true_and,and_true]at hx;obtain⟨rfl,rfl,rfl,rfl⟩:=hx;exact⟨_,_,h,hs,hi,b,hv⟩
 | pure hp=>subst hx;simp[ixp,I4]at hp
 | _=>simp[ixp,Go.Sx.dat,Go.Sx.clp,Go.Sx.own,Go.Sx.dpt,Go.Sx.opt,Go.Sx.yv,Go.Sx.sdt]at hx
def AS{x x' v:Value}(h:eL P m s x i=some (v,m'))(hx:VR ρ x x')(w:World):∃ r,(Instr.fieldAt s x' i).run P w=.ok r w/\VR ρ v r:=by
 unfold eL at h;split at h
 .rename_i a k j n;split at h
  .rename_i q hu;split at h
   .rename_i f e d;split at h
    .rename_i z c;cases h;obtain⟨l,y,h1,p,h3,g,rfl⟩:=SJ (n:=n) (s:=k) (i:=j) hx;have hm:cT P s (.pointer (some ⟨a.block,a.off+y*k,none⟩)) i=some (.pointer (some ⟨a.block,a.off+y*k+f.offset,none⟩)):=by
      simp only[cT,hu,e,c,bP,E5]
     obtain⟨v',g1,g2⟩:=mB (P:=P) (ρ:=ρ) hm (.ptr h1) w;obtain⟨l2,b,_,rfl⟩:=O6 g2;have b:ρ a.block=some l2:=b;rw[h1]at b;cases b;refine⟨_,g1,?_⟩;simp only[bP,E5];refine .ixp (a:=⟨a.block,a.off+f.offset,none⟩) h1 rfl h3 g ?_;simp only[Value.pointer.injEq,D2,Addr.mk.injEq,true_and,and_true];omega
    .cases h
   .cases h
  .cases h
 .cases h
def uF{cs:D0}{s:Nat}:∀ {n o:Nat} {l:D0},wD cs s o n=some l->l.length=n/\∀ z,z<n->cs[o+z*s]? = l[z]?
 | 0,o,l,h=>by cases h;exact⟨rfl,fun z c=>by omega⟩
 | n+1,o,l,h=>by
   unfold wD at h;split at h
   .rename_i v r hv hr;cases h;obtain⟨h1,b⟩:=uF hr;refine⟨by simp[h1],fun z c=>?_⟩;cases z with
    | zero=>simpa using hv
    | succ z =>
      have:=b z A2;rw[Nat.succ_mul,show o+(z*s+s)=o+s+z*s by omega]
      simpa using this
   .cases h
def uG{cs cs':D0}{s n:Nat}{i:Value}{z:Nat}(he:pD Ora.env i=some (.ofNat z))(g:z<n)(y:LR ρ cs cs'):∀ {k o:Nat} {m m':Mem} {r:D0},cL m cs s n i o k=some (r,m')->Sat m'.lg ->
  LR ρ r ((cs'.drop (o+z*s)).take k)/\r.length=k
 | 0,o,m,m',r,h,hS=>by cases h;exact⟨by simpa using LR.nil,rfl⟩
 | k+1,o,m,m',r,h,hS=>by
   unfold cL at h;split at h
   .rename_i v l d;obtain⟨t,h⟩:=A3 h;obtain⟨t,e⟩:=B6 t;have e:G4 v<10:=A1 e;split at h
    .rename_i hh m1 h1;split at h
     .rename_i G m2 x;cases h;obtain⟨q,p⟩:=uG he g y x hS;obtain⟨u,f,I,C,A,E,_⟩:=M4 h1 (R6.le hS (fT x).1);obtain⟨g1,g2⟩:=uF d;have b:=g2 z g;have c:z<(v::l).length:=by rw[g1];exact g
      rw[A5 c]at b;obtain⟨F,f1,f2⟩:=y.get b;have B:=iT t (A5 c);obtain⟨t1,_⟩:=aB f2 A2;obtain⟨H,D⟩:=HC he;simp only[C3,D,evU]at f;have f:u=D5 Ora.env (v::l)[z]:=by
       rw[<- f];show(List.map (D5 Ora.env) (v::l)).getD z .none=_;rw[B1,F6,A5 c];rfl
      rw[f,t1]at A;cases A;refine⟨?_,by simp[p]⟩;have:(cs'.drop (o+z*s)).take (k+1)=C::(cs'.drop (o+1+z*s)).take k:=by
       rw[g8 (B0.1 f1).1,List.take_succ_cons,(B0.1 f1).2,show o+z*s+1=o+1+z*s by omega]
      rw[this];exact .cons (E ρ) q
     .cases h
    .cases h
   .cases h
def RP{t:TypeId}{l:Loc}{z s n k:Nat}{i:Value}{cs:D0}(h:HR P base ρ m.H w)(hr:t8 m a ((n-1)*s+k)=some cs)(e:ρ a.block=some l)(he:pD Ora.env i=some (.ofNat z))(f:z<n)(g:cL m cs s n i 0 k=some (hs,m'))(d:Sat m'.lg) :
  ∃ rs,LR ρ hs rs/\rs.length=k/\∀ (j:Nat) (v':Value),rs[j]? = some v'->w.cell? ⟨l.blk,a.off+z*s+l.sh+j,none⟩=some v':=by
 obtain⟨r',h1,p,h3⟩:=d8 h hr e;obtain⟨g1,g2⟩:=uG he f h1 g d;rw[F4]at g1;refine⟨_,g1,g1.1▸g2,fun j v' c=>?_⟩;have b:j<k:=by
  have:=(B0.1 c).1;simp at this;omega
 rw[E6 b,H9]at c
 have:=h3 _ v' c;rw[show a.off+z*s+l.sh+j=a.off+l.sh+(z*s+j) by omega];exact this
def MX{t:TypeId}{x x' v:Value}(h:HR P base ρ m.H w)(b:qC P m t x=some (v,m'))(hx:VR ρ x x')(e:Sat m'.lg):∃ r,(Instr.loadAt t x').run P w=.ok r w/\VR ρ v r:=by
 unfold qC at b;split at b
 .rename_i a s i n;obtain⟨l,z,h1,p,h3,f,rfl⟩:=SJ (n:=n) (s:=s) (i:=i) hx;split at b
  .rename_i c;split at b
   .rename_i cs hr;split at b
    .rename_i hh m2 d;cases b;obtain⟨rs,g1,g2,g3⟩:=RP (t:=t) h hr h1 h3 f d e;obtain⟨v',q,rfl,g,y⟩:=g1.tail;refine⟨v',?_,g⟩
     have:=g3 0 v' rfl;simp[Instr.loadAt,Instr.sureAddr,loadVar,A4,cF c,Result.andThen,run_load,show w.cell? ⟨l.blk,a.off+z*s+l.sh,none⟩=some v' from by simpa using this]
    .cases b
   .cases b
  .rename_i A c k;split at b
   .rename_i cs hr;split at b
    .rename_i hh m2 d;cases b;obtain⟨rs,g1,g2,g3⟩:=RP (t:=t) h hr h1 h3 f d e;refine⟨.agg ⟨rs⟩,?_,.agg g1.1 g1.2⟩;simp[Instr.loadAt,Instr.sureAddr,loadVar,A4,cF c,K8 k,Result.andThen,K4 g2 g3]
    .cases b
   .cases b
  .cases b
 .cases b
def A2i{fr:Fr}{g:Operand->Value}{o:Oper}{v:Value}(h:HR P base ρ m.H w)(f:WR P fr m o.op=some (v,m'))(C:FR ρ fr g o.op)(k:Sat m'.lg):NOk P base ρ m w (execOp g o) v m':=by
 obtain⟨_,lg,rfl⟩:=QB f;have p:St P base ρ ρ m (m.wLg lg) w w:=St.wLg h lg;obtain⟨dst,op,ty,pos,G,E⟩:=o;simp only at f C;have d:∀ {x},x ∈ op.operands.toList->VR ρ (ev fr x) (g x):=fun hx=>C _ hx
 have fin:∀ {s:Sem Value},(∃ r,s.run P w=.ok r w/\VR ρ v r)->NOk P base ρ m w (do pure (.value (<- s))) v (m.wLg lg):=fun{s} ⟨r,h1,D⟩=>NOk.of ⟨r,ρ,w,h1,D,p⟩
 unfold WR at f;split at f
 .rename_i c a b;have B:=d (x:=c) (by simp[Op.operands]);unfold wC at f;obtain⟨H,n,W,hi,l0⟩:=m;simp only at f;split at f
  .rename_i l1 A;simp only[D2,M0]at f;obtain⟨rfl,f⟩:=f;have q:Sat l1:=by
    have:l1=(Mem.wLg ⟨H,n,W,hi,l0⟩ lg).lg:=by rw[<- f]
    rw[this];exact k
   have:=mH A B q;exact⟨g a,ρ,w,.inl (by simp[execOp,this,asBool]),d (by simp[Op.operands]),p⟩
  .rename_i l1 A;simp only[D2,M0]at f;obtain⟨rfl,f⟩:=f;have q:Sat l1:=by
    have:l1=(Mem.wLg ⟨H,n,W,hi,l0⟩ lg).lg:=by rw[<- f]
    rw[this];exact k
   have:=mH A B q;exact⟨g b,ρ,w,.inl (by simp[execOp,this,asBool]),d (by simp[Op.operands]),p⟩
  .cases f
 .rename_i op t x y K;have hx:=d (x:=x) (by simp[Op.operands]);have l:=d (x:=y) (by simp[Op.operands]);refine fin (s:=do eqGuard op t x y (g x) (g y);binOp op t (g x) (g y)) ?_;split at f
  .rename_i r hr;cases f;exact TU hr hx l k w
  .rename_i hr;exact WS f hx l hr k w
 .rename_i op t x;exact fin (s:=Op.unary op (g x)) (WP f (d (by simp[Op.operands])) k w)
 .exact fin (MZ f (d (by simp[Op.operands])) k w)
 .rename_i t x lo hi mx;exact fin (s:=Instr.sliceAt t (g x) (lo.map g) (hi.map g) (mx.map g)) (ID f (d (x:=x) (by simp[Op.operands])) (jF (g:=g) fun y l=>d (by simp[Op.operands]at l ⊢;exact .inr (.inl l))) (jF (g:=g) fun y l=>d (by simp[Op.operands]at l ⊢;exact .inr (.inr (.inl l)))) (jF (g:=g) fun y l=>d (by simp[Op.operands]at l ⊢;exact .inr (.inr (.inr l)))) k w)
 .exact fin (IF f (d (by simp[Op.operands])) (d (by simp[Op.operands])) k w)
 .exact fin (AQ f (d (by simp[Op.operands])) (d (by simp[Op.operands])) k w)
 .exact fin (AS f (d (by simp[Op.operands])) w)
 .rename_i t x;exact fin (s:=Instr.loadAt t (g x)) (MX h f (d (by simp[Op.operands])) k)
 .rename_i b xs tys;have l1:=dF (ρ:=ρ) (fr:=fr) (g:=g) (xs:=xs.toList) fun x hx=>d (by show x ∈ (#[]++xs:Array Operand).toList;simpa using hx)
  obtain⟨ks,I⟩:∃ ks,execOp g ⟨dst,.call ⟨.builtin b,xs,tys⟩,ty,pos,G,E⟩=builtin b tys ty ks (xs.map g):=⟨_,rfl⟩;obtain⟨s,e,hs⟩:=AU (ty:=ty) (ks:=ks) h f l1 k;have J:xs.map g=⟨xs.toList.map g⟩:=by apply J1;simp
  rw[I,J];have F:tys=⟨tys.toList⟩:=rfl;rw[F,e];exact fin hs
 .cases f
end
end
section
open Go
variable [Ora]
section
variable {P:Program} {base:Nat} {ρ ρ':Ren} {m m':Mem} {w w':World}
def K2.step(c:K2 ρ m.n hi)(st:St P base ρ ρ' m m1 w w'):K2 ρ' m1.n hi:=fun b h1 d=>by
 cases e:ρ' b with
 | none=>rfl
 | some l =>
   cases h0:ρ b with
   | some l0=>rw[c b (B9 st.nle h1) d]at h0;cases h0
   | none=>have:=(st.new b l e h0).2;omega
def K2.less{n hi':Nat}(c:K2 ρ n hi)(h:hi'<=hi):K2 ρ n hi':=fun b h1 d=>c b h1 (D3 d h)
def fN(m:Mem)(t:Nat)(op:LOp)(xs:List Value):Lg:=⟨m.lg.nx+1,m.lg.pi,.dt m.lg.nx t op xs::m.lg.log⟩
def N6{t:Nat}{k:Nat->Mem->Res}:vT m t op xs k=k m.lg.nx (m.wLg (fN m t op xs)):=by
 obtain⟨H,n,W,hi,⟨nx,pi,log⟩⟩:=m;simp only[vT,E5,I1];rfl
def KC{t:Nat}{k:Nat->Mem->Option (D0×Mem)}:X9.letDo t op xs m k=k m.lg.nx (m.wLg (fN m t op xs)):=by
 obtain⟨H,n,W,hi,⟨nx,pi,log⟩⟩:=m;simp only[X9.letDo,E5,I1];rfl
@[simp] theorem g9(lg:Lg):(m.wLg lg).lg=lg:=by cases m;rfl
@[simp] theorem kU(lg:Lg):(m.wLg lg).H=m.H:=by cases m;rfl
@[simp] theorem WC(lg:Lg):(m.wLg lg).n=m.n:=by cases m;rfl
@[simp] theorem MQ(lg:Lg):(m.wLg lg).hi=m.hi:=by cases m;rfl
@[simp] theorem B2y(lg:Lg):(m.wLg lg).W=m.W:=by cases m;rfl
def V6{t:Nat} :m.lg.le (m.wLg (fN m t op xs)).lg:=by
 rw[g9];exact⟨[_],rfl⟩
def kC{t:Nat}{lg:Lg}(d:Sat lg)(e:(m.wLg (fN m t op xs)).lg.le lg):Ora.env m.lg.nx=evU op (xs.map (D5 Ora.env))/\G2 (Ora.env m.lg.nx)=t/\∃ b wd rows,Ora.env m.lg.nx=.seq b wd rows/\t=10+wd:=by
 obtain⟨h1,c,b,wd,rows,h3⟩:=d _ (e.subset (by rw[g9];exact B4));exact⟨h1,c,b,wd,rows,h3,by rw[<- c,h3];rfl⟩
def dY{b:Nat}(h:oT m b=true):Hp.get m.H b=some .frz:=by
 unfold oT at h;split at h
 .assumption
 .cases h
def SO{b:Nat}(h:oT m b=true):b<=H7:=by
 unfold oT at h;split at h
 .exact A1 h
 .cases h
def A1O{b:Nat}(hr:HR P base ρ m.H w)(h:oT m b=true):∃ l,ρ b=some l:=by
 obtain⟨l,h1,_⟩:=hr.at_ b (SO h) _ (dY h);exact⟨l,h1⟩
def Q5{k:Nat->Mem->Option (Value×Nat×Mem)}{r:Value×Nat×Mem}(h:gM m k=some r):∃ m1,Z4 m .frz (fun _=>undef)=some (undef,m1)/\k m.n m1=some r/\m1.H=m.H.set m.n (some .frz)/\m.n<=H7/\m1.lg=m.lg:=by
 obtain⟨H,n,W,hi,lg⟩:=m;simp only[gM,E5,eP]at h;obtain⟨h1,b⟩:=A3 h;refine⟨_,?_,b,rfl,A1 h1,rfl⟩;simp only[Z4,E5,eP,h1,E3]
def kO(G:Nat->Option Obj):Loc:=⟨0,0,0,0,G,false⟩
def St.region{G:Nat->Option Obj}(h:HR P base ρ m.H w)(g:Z4 m .frz (fun _=>undef)=some (undef,m1))(x:K2 ρ m.n m1.hi)
  (d:∀ k o,G k=some o->w.heap[k]? = some o/\∃ id ab l,id<=H7/\Hp.get m.H id=some ab/\ρ id=some l/\Tf ab l k/\ab.rw=false) :
  upd ρ m.n (kO G) m.n=some (kO G)/\Hp.get m1.H m.n=some .frz/\St P base ρ (upd ρ m.n (kO G)) m m1 w w:=by
 obtain⟨h1,p,h3⟩:=St.new0 (l':=kO G) h g x ⟨rfl,fun k o v=>(d k o v).1⟩ rfl fun q c=>by
  rcases c with⟨c,_⟩|⟨_,o,c⟩
  .cases c
  .obtain⟨g1,id,ab,l,g2,g3,g4,g5,g6⟩:=d q o c;refine⟨⟨id,ab,l,g2,g3,g4,g5⟩,fun y f a l2 b t hr r e=>?_⟩
   have:=((h.atl t b).2 hr r).2 id g2 ab l g3 g4 (e▸g5.2);subst this;rw[g3]at b;have b:=A8 b;subst b;rw[g6]at hr;cases hr
 refine⟨p,?_,h3⟩;obtain⟨hle,_,rfl⟩:=L5 g;show Hp.get (m.H.set m.n (some .frz)) m.n=_;rw[F0 _ _ _ _ hle hle,A9 rfl]
theorem nM{b i t:Nat}{v':Value}(h:VR ρ (dat b i t) v'):∃ l,ρ b=some l/\Enc l.G (Ora.env i) v'/\G2 (Ora.env i)=t/\10<=t:=by
 generalize hx:dat b i t=x at h;cases h with
 | dat h he d c e =>
   simp only[dat,Value.func.injEq,Z8,J5,Value.pointer.injEq,D2,Addr.mk.injEq,Value.complex.injEq,true_and,and_true]at hx;obtain⟨rfl,rfl,rfl⟩:=hx;exact⟨_,h,he,d,c⟩
 | pure hp=>subst hx;simp[dat,I4]at hp
 | _=>simp[ixp,Go.Sx.dat,Go.Sx.clp,Go.Sx.own,Go.Sx.dpt,Go.Sx.opt,Go.Sx.yv,Go.Sx.sdt]at hx
theorem fX{b i t:Nat}{v':Value}(h:VR ρ (clp b i t) v'):∃ l,ρ b=some l/\Enc l.G (Ora.env i) v'/\G2 (Ora.env i)=t/\10<=t/\A13 v':=by
 generalize hx:clp b i t=x at h;cases h with
 | clp h he d c f e =>
   simp only[clp,Value.func.injEq,Z8,J5,Value.pointer.injEq,D2,Addr.mk.injEq,Value.complex.injEq,true_and,and_true]at hx;obtain⟨rfl,rfl,rfl⟩:=hx;exact⟨_,h,he,d,c,e⟩
 | pure hp=>subst hx;simp[clp,I4]at hp
 | _=>simp[ixp,Go.Sx.dat,Go.Sx.clp,Go.Sx.own,Go.Sx.dpt,Go.Sx.opt,Go.Sx.yv,Go.Sx.sdt]at hx
theorem fW{b i t:Nat}{v':Value}(h:VR ρ (own b i t) v'):ZW ρ b (Ora.env i) v'/\G2 (Ora.env i)=t:=by
 generalize hx:own b i t=x at h;cases h with
 | own h c d =>
   simp only[own,Value.func.injEq,Z8,J5,Value.pointer.injEq,D2,Addr.mk.injEq,Value.complex.injEq,true_and,and_true]at hx;obtain⟨rfl,rfl,rfl⟩:=hx;exact⟨h,c⟩
 | pure hp=>subst hx;simp[own,I4]at hp
 | _=>simp[ixp,Go.Sx.dat,Go.Sx.clp,Go.Sx.own,Go.Sx.dpt,Go.Sx.opt,Go.Sx.yv,Go.Sx.sdt]at hx
def FY{b t:Nat}{v':Value}(h:VR ρ (dpt b i t z o) v'):A94 ρ b (Ora.env i) (pD Ora.env z) o v'/\G2 (Ora.env i)=t:=by
 generalize hx:dpt b i t z o=x at h;cases h with
 | dpt h c d =>
   simp only[dpt,Value.func.injEq,Z8,J5,Value.pointer.injEq,D2,Addr.mk.injEq,Value.complex.injEq,Value.int.injEq,kL,true_and,and_true]at hx;obtain⟨rfl,⟨rfl,rfl⟩,rfl,rfl⟩:=hx;exact⟨h,c⟩
 | pure hp=>subst hx;simp[dpt,I4]at hp
 | _=>simp[ixp,Go.Sx.dat,Go.Sx.clp,Go.Sx.own,Go.Sx.dpt,Go.Sx.opt,Go.Sx.yv,Go.Sx.sdt]at hx
def wI{b t:Nat}{v':Value}(h:VR ρ (opt b i t z o) v'):A85 ρ b (Ora.env i) (pD Ora.env z) o v'/\G2 (Ora.env i)=t:=by
 generalize hx:opt b i t z o=x at h;cases h with
 | opt h c d =>
   simp only[opt,Value.func.injEq,Z8,J5,Value.pointer.injEq,D2,Addr.mk.injEq,Value.complex.injEq,Value.int.injEq,kL,true_and,and_true]at hx;obtain⟨rfl,⟨rfl,rfl⟩,rfl,rfl⟩:=hx;exact⟨h,c⟩
 | pure hp=>subst hx;simp[opt,I4]at hp
 | _=>simp[ixp,Go.Sx.dat,Go.Sx.clp,Go.Sx.own,Go.Sx.dpt,Go.Sx.opt,Go.Sx.yv,Go.Sx.sdt]at hx
def DB{b c tc g t:Nat}{T:TypeId}{v':Value}(h:HR P base ρ m.H w)(L:Hp.get m.H b=some (.sq c tc T g true))(hv:VR ρ (own b i t) v')(y:tc=t)(A:Hp.get m.H g=some .frz)
  (N:Z4 m .frz (fun _=>undef)=some (undef,m1)) (M:K2 ρ m.n m1.hi):∃ l,St P base ρ (upd ρ m.n l) m m1 w w/\upd ρ m.n l m.n=some l/\Hp.get m1.H m.n=some .frz/\Enc l.G (Ora.env c) v'/\G2 (Ora.env c)=t:=by
 obtain⟨D,O⟩:=fW hv;rcases D with⟨l,wd,h1,E,h3,rfl⟩|⟨l,wd,rows,h1,E,h3,Y,W,rfl⟩
 .obtain⟨q,_⟩:=h.atl h1 L;obtain⟨x,inf,F,S,Q,d⟩:=SqR.ex q;rcases d with⟨_,d⟩|⟨d,_⟩
  .obtain⟨g1,g2,g3⟩:=St.region (G:=fun _=>none) h N M (fun k o f=>by cases f);exact⟨_,g3,g1,g2,by rw[d];exact .nil,by rw[d,<- y,F];rfl⟩
  .rw[E]at d;cases d
 .obtain⟨q,_⟩:=h.atl h1 L;obtain⟨x,inf,F,S,Q,d⟩:=SqR.ex q;rcases d with⟨d,_⟩|⟨_,d⟩
  .rw[E]at d;cases d
  .obtain⟨C,fz,I,K,lg,f1,f2,f3,f4,f5,f6,f7,f8,f9⟩:=d;obtain⟨J,_⟩:=h.atl f7 A;have p:∀ k o,lg.G k=some o->w.heap[k]? = some o:=J.2;let G:Nat->Option Obj:=fun k=>if k=l.blk then some (.cells C I fz)else lg.G k
   have B:∀ k o,lg.G k=some o->G k=some o:=fun k o f=>by
    show(if k=l.blk then _ else _)=_;by_cases e:k=l.blk
    .subst e;rw[A9 rfl]
     have:=p _ _ f;rw[f1]at this;exact this
    .rw[A7 e];exact f
   obtain⟨g1,g2,g3⟩:=St.region (G:=G) h N M fun k o f=>by
    have f:(if k=l.blk then some (.cells C I fz)else lg.G k)=some o:=f;by_cases e:k=l.blk
    .subst e;rw[A9 rfl]at f;exact⟨by rw[f1];exact f,b,_,l,h.dom _ _ h1,L,h1,⟨rfl,.inl ⟨rfl,E,rfl⟩⟩,rfl⟩
    .rw[A7 e]at f;exact⟨p _ _ f,g,_,lg,h.dom _ _ f7,A,f7,⟨rfl,.inr ⟨rfl,o,f⟩⟩,rfl⟩
   refine⟨_,g3,g1,g2,?_,by rw[f2,<- y,F];rfl⟩;rw[f2,<- f3];refine .sl (G:=G) (C:=C) (T:=I) (fz:=fz) A2 (fun _=>?_) (fun _=>?_) f6 fun r row j u v X V R=>(f8 r row j u v X V R).mono B
   .show(if l.blk=l.blk then _ else _)=_;rw[A9 rfl]
   .have:=F7 x f4;rw[<- f3]at this;omega
def BR.thaw{c t g:Nat}{T:TypeId}{l:Loc}(h:BR P ρ (.sq c t T g false) l w):BR P ρ (.sq c t T g true) l w:=by
 obtain⟨wd,inf,h1,b,h3,f⟩:=SqR.ex h;refine⟨⟨wd,inf,h1,b,h3,f.imp (fun x=>x) fun⟨e,d⟩=>⟨e,?_⟩⟩⟩;obtain⟨C,fz,p,rows,lg,h1,b,h3,f,d,q,n,k,r⟩:=d;exact⟨C,fz,p,rows,lg,h1,b,h3,f,d,q,n,k,fun h=>by cases h⟩
def xH{id:Nat}{ab:AB}(h:cK m id ab=some m')(b:j<=H7):Hp.get m'.H j=if j=id then some ab else Hp.get m.H j:=by
 obtain⟨hle,rfl⟩:=U4 h;exact F0 _ _ _ _ hle b
def lM{ab:AB}{k:Nat->Value}{v:Value}(h:Z4 m ab k=some (v,m'))(b:j<=H7):Hp.get m'.H j=if j=m.n then some ab else Hp.get m.H j:=by
 obtain⟨hle,_,rfl⟩:=L5 h;exact F0 _ _ _ _ hle b
def EJ{t:Nat}{v v' x:Value}{b:Nat}(h:HR P base ρ m.H w)(d:toD t v m=some (x,b,m'))(J:K2 ρ m.n m'.hi)(hv:VR ρ v v')(Z:Sat m'.lg) :
  ∃ ρ' l,St P base ρ ρ' m m' w w/\ρ' b=some l/\Hp.get m'.H b=some .frz/\Enc l.G (D5 Ora.env x) v'/\G2 (D5 Ora.env x)=t/\m.lg.le m'.lg:=by
 unfold toD at d;split at d
 .rename_i E i tg;obtain⟨h1,f⟩:=A3 d;cases f;obtain⟨h1,f⟩:=B6 h1;have h1:=A0 h1;obtain⟨l,y,r,B,L⟩:=nM hv;exact⟨ρ,l,St.refl h,y,dY f,r,B.trans h1,.refl _⟩
 .rename_i E i tg;obtain⟨h1,f⟩:=A3 d;cases f;obtain⟨h1,f⟩:=B6 h1;have h1:=A0 h1;obtain⟨l,y,r,B,L,_⟩:=fX hv;exact⟨ρ,l,St.refl h,y,dY f,r,B.trans h1,.refl _⟩
 .rename_i E i tg;split at d
  .rename_i c tc T g D;obtain⟨h1,f⟩:=A3 d;obtain⟨h1,h3⟩:=B6 h1;obtain⟨h1,C⟩:=B6 h1;have h1:=A0 h1;have C:=A0 C;obtain⟨m1,M,K,_,_,I⟩:=Q5 f;cases K;subst h1;obtain⟨l,y,r,B,L,X⟩:=DB h D hv C (dY h3) M J;exact⟨_,l,y,r,B,L,X,by rw[I];exact .refl _⟩
  .rename_i c tc T g D;obtain⟨h1,f⟩:=A3 d;obtain⟨h1,h3⟩:=B6 h1;have S:=SO h3;obtain⟨h1,C⟩:=B6 h1;have h1:=A0 h1;have C:=A0 C;split at f
   .rename_i m1 hs;obtain⟨m2,M,K,_,_,I⟩:=Q5 f;cases K;subst h1;have Q:∃ l0,ρ E=some l0:=by
     rcases(fW hv).1 with⟨l,_,h1,_⟩|⟨l,_,_,h1,_⟩<;>exact⟨l,h1⟩
    obtain⟨l0,N⟩:=Q;have Y:=(h.atl N D).1;have p:=St.same0 h hs D rfl N Y.thaw (fun q hq=>by
     rcases hq with⟨_,a,b⟩|⟨a,_⟩
     .exact .inl ⟨rfl,a,b⟩
     .cases a)
    have hle:=(U4 hs).1;have R:g≠E:=fun e=>by subst e;rw[dY h3]at D;cases D
    have W:Hp.get m1.H E=some (.sq c tc T g true):=by rw[xH hs hle,A9 rfl]
    have O:Hp.get m1.H g=some .frz:=by rw[xH hs S,A7 R];exact dY h3
    have V:m1.n=m.n:=by rw[(U4 hs).2]
    obtain⟨l,y,r,B,L,X⟩:=DB p.hr W hv C O M (by rw[V];exact J);refine⟨_,l,St.trans J p y,r,B,L,X,by rw[I,(U4 hs).2];exact .refl _⟩
   .cases f
  .cases d
 .obtain⟨F,d⟩:=A3 d;have F:=A1 F;rw[N6]at d;simp only at d;obtain⟨m1,M,K,_,_,I⟩:=Q5 d;cases K;cases P4 hv;have A:(m.wLg (fN m t (.nilw (t-10)) [])).lg.le m'.lg:=by rw[I];exact .refl _
  obtain⟨y,r,_⟩:=kC Z A;have p:=St.wLg h (fN m t (.nilw (t-10)) []);obtain⟨g1,g2,g3⟩:=St.region (G:=fun _=>none) p.hr M (by simpa using J) (fun k o hk=>by cases hk);refine⟨_,_,St.trans (by simpa using J) p g3,g1,g2,?_,r,V6.trans A⟩;show Enc _ (Ora.env m.lg.nx) _;rw[y];exact .nil
 .cases d
end
end
section
open Go
variable [Ora]
section
variable {P:Program} {base:Nat} {ρ ρ':Ren} {m m':Mem} {w w':World}
def n8(ρ:Ren)(m m':Mem):Prop:=∀ j l,ρ j=some l->Hp.get m.H j=some .frz->Hp.get m'.H j=some .frz
def n8.refl:n8 ρ m m:=fun _ _ _ h=>h
def n8.trans(he:∀ b l,ρ b=some l->ρ' b=some l)(a:n8 ρ m m1)(c:n8 ρ' m1 m'):n8 ρ m m':=fun j l h1 d=>c j l (he j l h1) (a j l h1 d)
def n8.lg(lg:Lg):n8 ρ m (m.wLg lg):=fun j l _ h=>by rw[kU];exact h
def KG{ab:AB}{k:Nat->Value}{v:Value}(h:HR P base ρ m.H w)(b:Z4 m ab k=some (v,m'))(c:K2 ρ m.n m'.hi):n8 ρ m m':=fun j l h1 d=>by
 rw[lM b (h.dom j l h1),A7]
 .exact d
 .intro e;subst e;obtain⟨_,_,rfl⟩:=L5 b;rw[c m.n (A6 _) (K9 _ _).2]at h1;cases h1
def A0n{ab:AB}{id:Nat}(h:HR P base ρ m.H w)(hs:cK m id ab=some m')(b:Hp.get m.H id≠some .frz):n8 ρ m m':=fun j l h1 c=>by
 rw[xH hs (h.dom j l h1),A7]
 .exact c
 .intro e;subst e;exact b c
def HZ{t:Nat}{v x:Value}{b:Nat}(h:HR P base ρ m.H w)(d:toD t v m=some (x,b,m'))(y:K2 ρ m.n m'.hi):n8 ρ m m':=by
 unfold toD at d;split at d
 .obtain⟨h1,f⟩:=A3 d;cases f;exact .refl
 .obtain⟨h1,f⟩:=A3 d;cases f;exact .refl
 .split at d
  .obtain⟨h1,f⟩:=A3 d;obtain⟨m1,p,q,_⟩:=Q5 f;cases q;exact KG h p y
  .rename_i c tc T g E;obtain⟨h1,f⟩:=A3 d;split at f
   .rename_i m1 hs;obtain⟨m2,p,q,_⟩:=Q5 f;cases q;have B:=A0n h hs (by rw[E];intro h;cases h);intro j l k A;have C:=B j l k A;rw[lM p (h.dom j l k),A7]
    .exact C
    .intro e;subst e;have r:m1.n=m.n:=by rw[(U4 hs).2]
     obtain⟨_,_,rfl⟩:=L5 p;rw[y m1.n A2 (K9 _ _).2]at k;cases k
   .cases f
  .cases d
 .obtain⟨D,d⟩:=A3 d;rw[N6]at d;simp only at d;obtain⟨m1,p,q,_⟩:=Q5 d;cases q;intro j l k A;rw[lM p (h.dom j l k),A7,kU]
  .exact A
  .intro e;subst e;have r:(m.wLg (fN m t (.nilw (t-10)) [])).n=m.n:=by simp
   obtain⟨_,_,rfl⟩:=L5 p;rw[y _ A2 (K9 _ _).2]at k;cases k
 .cases d
def Z1(R:Nat->Option Obj)(us:List U)(vs:List Value):Prop:=us.length=vs.length/\∀ (i:Nat) (u:U) (v:Value),us[i]? = some u->vs[i]? = some v->Enc R u v
omit [Ora] in
def Z1.nil{R:Nat->Option Obj}:Z1 R [] []:=⟨rfl,fun i u v h=>by simp at h⟩
omit [Ora] in
def Z1.cons{R:Nat->Option Obj}{v:Value}(h:Enc R u v)(k:Z1 R us vs):Z1 R (u::us) (v::vs):=⟨by simp[k.1],fun i a b h1 c=>by
 cases i with
 | zero=>simp at h1 c;subst h1;subst c;exact h
 | succ i=>exact k.2 i a b (by simpa using h1) (by simpa using c)⟩
def Sub(G R:Nat->Option Obj):Prop:=∀ k o,G k=some o->R k=some o
def gZ{t:Nat}{v x:Value}{b:Nat}{m m':Mem}(c:toD t v m=some (x,b,m')):m.hi<=m'.hi/\m.lg.le m'.lg/\m.n<=m'.n:=by
 have e:∀ {m m1:Mem},Z4 m .frz (fun _=>undef)=some (undef,m1)->m.hi<=m1.hi/\m.lg.le m1.lg/\m.n<=m1.n:=fun k=>by
  obtain⟨_,_,rfl⟩:=L5 k;exact⟨(K9 _ _).1,.refl _,W6 _⟩
 unfold toD at c;split at c
 .obtain⟨h1,d⟩:=A3 c;cases d;exact⟨A6 _,.refl _,A6 _⟩
 .obtain⟨h1,d⟩:=A3 c;cases d;exact⟨A6 _,.refl _,A6 _⟩
 .split at c
  .obtain⟨h1,d⟩:=A3 c;obtain⟨m1,g,f,_⟩:=Q5 d;cases f;exact e g
  .obtain⟨h1,d⟩:=A3 c;split at d
   .rename_i m1 hs;obtain⟨m2,g,f,_⟩:=Q5 d;cases f
    have:=e g;obtain⟨_,rfl⟩:=U4 hs;exact this
   .cases d
  .cases c
 .obtain⟨l,c⟩:=A3 c;rw[N6]at c;simp only at c;obtain⟨m1,g,f,_⟩:=Q5 c;cases f
  have:=e g;exact⟨by simpa using this.1,V6.trans this.2.1,by simpa using this.2.2⟩
 .cases c
structure AJ (P:Program) (td:Td):Prop where
 ok:∀ {base:Nat} {ρ:Ren} {m m':Mem} {w:World} {t:Nat} {v v' x:Value} {b:Nat},HR P base ρ m.H w->td t v m=some (x,b,m')->K2 ρ m.n m'.hi->VR ρ v v'->Sat m'.lg ->
  ∃ ρ' l,St P base ρ ρ' m m' w w/\ρ' b=some l/\Hp.get m'.H b=some .frz/\Enc l.G (D5 Ora.env x) v'/\G2 (D5 Ora.env x)=t/\m.lg.le m'.lg/\n8 ρ m m'
 mono:∀ {m m':Mem} {t:Nat} {v x:Value} {b:Nat},td t v m=some (x,b,m')->m.hi<=m'.hi/\m.lg.le m'.lg/\m.n<=m'.n
def WL:AJ P toD:=⟨fun h c b hv e=>let ⟨ρ',l,d,a2,a3,a4,a5,f⟩:=EJ h c b hv e;⟨ρ',l,d,a2,a3,a4,a5,f,HZ h c b⟩,fun h=>gZ h⟩
def S1{f:Td}(d:AJ P f):∀ {ts:H4} {vs xs:D0} {gs:H4} {m m':Mem},AN f ts vs m=some (xs,gs,m')->m.hi<=m'.hi/\m.lg.le m'.lg/\m.n<=m'.n
 | [],[],_,_,_,_,h=>by cases h;exact⟨A6 _,.refl _,A6 _⟩
 | t::ts,v::vs,xs,gs,m,m',c=>by
   unfold AN at c;cases e:Nat.blt t 10 with
   | true =>
     rw[e]at c;simp only[E3]at c;obtain⟨h1,c⟩:=A3 c;split at c
     .rename_i hr;cases c;exact S1 d hr
     .cases c
   | false =>
     rw[e]at c;simp only[D6]at c;split at c
     .rename_i g;split at c
      .rename_i hr;cases c;have a:=d.mono g;have b:=S1 d hr;exact⟨B9 a.1 b.1,a.2.1.trans b.2.1,B9 a.2.2 b.2.2⟩
      .cases c
     .cases c
 | [],_::_,_,_,_,_,c=>by cases c
 | _::_,[],_,_,_,_,c=>by cases c
def iO{K:Td}(f:AJ P K):∀ {ts:H4} {vs vs' xs:D0} {gs:H4} {m m':Mem} {ρ:Ren},HR P base ρ m.H w->AN K ts vs m=some (xs,gs,m')->K2 ρ m.n m'.hi->LR ρ vs vs'->Sat m'.lg ->
  ∃ ρ',St P base ρ ρ' m m' w w/\m.lg.le m'.lg/\n8 ρ m m'/\(∀ b ∈ gs,Hp.get m'.H b=some .frz/\∃ l,ρ' b=some l)/\(xs.map (D5 Ora.env)).map G2=ts /\
   ∀ R,(∀ b ∈ gs,∀ l,ρ' b=some l->Sub l.G R)->Z1 R (xs.map (D5 Ora.env)) vs'
 | [],[],vs',xs,gs,m,m',ρ,h,c,hf,hv,hS=>by
   cases c;exact⟨ρ,St.refl h,.refl _,.refl,fun b N=>(by cases N),rfl,fun R _=>by rw[hv.nil_inv];exact .nil⟩
 | t::ts,v::vs,vs',xs,gs,m,m',ρ,h,c,hf,hv,hS=>by
   obtain⟨v',r',rfl,q,k⟩:=hv.tail;unfold AN at c;cases C:Nat.blt t 10 with
   | true =>
     rw[C]at c;simp only[E3]at c;obtain⟨h1,c⟩:=A3 c;have h1:=A0 h1;have Q:t<10:=A1 C;split at c
     .rename_i r A m2 hr;cases c;obtain⟨ρ2,p,D,x,J,I,F⟩:=iO f h hr hf k hS;obtain⟨f1,f2⟩:=aB q A2;exact⟨ρ2,p,D,x,J,by simp[f2,h1,I],fun R hR=>.cons (.sc f1) (F R hR)⟩
     .cases c
   | false =>
     rw[C]at c;simp only[D6]at c;split at c
     .rename_i hh b m1 M;split at c
      .rename_i r A m2 hr;cases c;have d:m1.hi<=m'.hi/\m1.lg.le m'.lg/\m1.n<=m'.n:=S1 f hr;have E:K2 ρ m.n m1.hi:=hf.less d.1;obtain⟨B,l,g,a2,a3,a4,a5,L,O⟩:=f.ok h M E q (hS.le d.2.1);have y:K2 B m1.n m'.hi:=hf.step g;obtain⟨ρ2,p,D,x,J,I,F⟩:=iO f g.hr hr y (k.mono g.ext) hS;refine⟨ρ2,St.trans hf g p,L.trans D,O.trans g.ext x,fun b' e=>?_,by simp[a5,I],fun R hR=>.cons (a4.mono (hR b (.head _) l (p.ext _ _ a2))) (F R fun b' e=>hR b' (.tail _ e))⟩;rcases B5.1 e with rfl|e
       .exact⟨x _ l a2 a3,l,p.ext _ _ a2⟩
       .exact J b' e
      .cases c
     .cases c
 | [],_::_,_,_,_,_,_,_,_,c,_,_,_=>by cases c
 | _::_,[],_,_,_,_,_,_,_,c,_,_,_=>by cases c
def eW{gs:H4}{g:Nat}(h:HR P base ρ m.H w)(c:kA gs m=some (g,m'))(t:K2 ρ m.n m'.hi) :
  ∃ ρ' lg,St P base ρ ρ' m m' w w/\m'.lg=m.lg/\n8 ρ m m'/\ρ' g=some lg/\Hp.get m'.H g=some .frz/\∀ b ∈ gs,∀ l,ρ b=some l->Sub l.G lg.G:=by
 have main:∀ {gs:H4},(bif gs.all (oT m)then match gM m fun b m=>some (undef,b,m)with
  | some (_,b,m)=>some (b,m)
  | none=>none else none)=some (g,m')->∃ ρ' lg,St P base ρ ρ' m m' w w/\m'.lg=m.lg/\n8 ρ m m'/\ρ' g=some lg/\Hp.get m'.H g=some .frz/\∀ b ∈ gs,∀ l,ρ b=some l->Sub l.G lg.G:=fun{gs} c=>by
  obtain⟨h1,c⟩:=A3 c;split at c
  .rename_i r b m1 C;cases c;obtain⟨m2,x,B,_,_,y⟩:=Q5 C;cases B;have f:∀ b ∈ gs,Hp.get m.H b=some .frz:=fun b d=>dY (D4.1 h1 b d)
   classical
   let G:Nat->Option Obj:=fun k=>if ∃ b ∈ gs,∃ l o,ρ b=some l/\l.G k=some o then w.heap[k]? else none
   obtain⟨g1,g2,g3⟩:=St.region (G:=G) h x t fun k o e=>by
    have e:(if ∃ b ∈ gs,∃ l o,ρ b=some l/\l.G k=some o then w.heap[k]? else none)=some o:=e;split at e
    .rename_i hex;obtain⟨b,d,l,D,v,A⟩:=hex;exact⟨e,b,_,l,h.dom _ _ v,f b d,v,⟨rfl,.inr ⟨rfl,D,A⟩⟩,rfl⟩
    .cases e
   refine⟨_,kO G,g3,y,KG h x t,g1,g2,fun b d l q k o e=>?_⟩;show(if ∃ b ∈ gs,∃ l o,ρ b=some l/\l.G k=some o then w.heap[k]? else none)=_;rw[A9 ⟨b,d,l,o,q,e⟩];exact(h.atl q (f b d)).1.2 k o e
  .cases c
 unfold kA at c;split at c
 .rename_i g0;obtain⟨h1,c⟩:=A3 c;cases c;obtain⟨l,q⟩:=A1O h h1;refine⟨ρ,l,St.refl h,rfl,.refl,q,dY h1,fun b d l2 p=>?_⟩;rcases B5.1 d with rfl|d
  .rw[q]at p
   have:=A8 p;subst this;exact fun _ _ h=>h
  .cases d
 .exact main c
omit [Ora] in
def gA{R:Nat->Option Obj}{v r:Value}(h:Enc R u v)(hr:toV u=some r):v=r:=by
 cases h with
 | sc h=>rw[h]at hr;exact A8 hr
 | nil=>cases hr
 | emp=>cases hr
 | sl=>cases hr
omit [Ora] in
def mF{R:Nat->Option Obj}{v:Value}(h:Enc R u v):m9 v=true:=by
 cases h with
 | sc h=>have:=gY h;cases v<;>first|rfl|cases this
 | nil=>rfl
 | emp=>rfl
 | sl=>rfl
def A3t{wd k:Nat}{rows:List (List U)} :evU (.get wd o) [.seq false wd rows,.int kk (.ofNat k)]=(rows.getD k []).getD o .none:=by
 simp[evU]
def getD_some(h:row.getD o .none≠.none):row[o]? = some (row.getD o .none):=by
 rw[B1]at *;cases e:row[o]? with
 | none=>rw[e]at h;exact absurd rfl h
 | some u=>rfl
def fY{wd o i t g k:Nat}{z:Value}{lg:Loc}{rows:List (List U)}{cell:Nat->Q3}(hi:Ora.env i=.seq false wd rows)(n:pD Ora.env z=some (.ofNat k))(F:ρ g=some lg)
  (A:∀ q u,(rows.getD k [])[q]? = some u->∃ v,cell q=some v/\Enc lg.G u v) :
  ∀ {ts:H4} {j:Nat} {m m':Mem} {r:D0},X9 wd o i t z g ts j m=some (r,m')->Sat m'.lg->∃ r',LR ρ r r'/\r'.length=ts.length/\(∀ q v',r'[q]? = some v'->cell (o+j+q)=some v')/\J9 m m'/\m.lg.le m'.lg
 | [],j,m,m',r,h,hS=>by
   cases h;exact⟨[],.nil,rfl,fun q v' h=>by simp at h,.refl _,.refl _⟩
 | tg::ts,j,m,m',r,h,hS=>by
   unfold X9 at h;obtain⟨kk,D⟩:=HC n;have d:[hole i t,z].map (D5 Ora.env)=[.seq false wd rows,.int kk (.ofNat k)]:=by
    simp only[C3,F9,D];show[Ora.env i,_]=_;rw[hi]
   have b:∀ {u:U},u≠.none->evU (.get wd (o+j)) ([hole i t,z].map (D5 Ora.env))=u->∃ v,cell (o+j)=some v/\Enc lg.G u v:=fun{u} hu he=>by
    rw[d,A3t]at he;subst he;exact A _ _ (getD_some hu)
   cases x:Nat.blt tg 10 with
   | true =>
     rw[x]at h;simp only[E3]at h;have K:tg<10:=A1 x;split at h
     .rename_i hh m1 l;split at h
      .rename_i J m2 hr;cases h;obtain⟨r',C,y,p,B,f⟩:=fY hi n F A hr hS;obtain⟨u,f1,f2,v,f3,f4,f5⟩:=M4 l (hS.le f);obtain⟨v2,g1,g2⟩:=b (u:=u) (by intro e;subst e;cases f3) f1
       have:=gA g2 f3;subst this;refine⟨v2::r',.cons (f4 ρ) C,by simp[y],fun q v' c=>?_,(H5 l).trans B,(H8 l).trans f⟩;cases q with
       | zero=>simp at c;subst c;exact g1
       | succ q=>rw[show o+j+(q+1)=o+(j+1)+q by omega];exact p q v' (by simpa using c)
      .cases h
     .cases h
   | false =>
     rw[x]at h;simp only[D6]at h;rw[KC]at h;split at h
     .rename_i J m2 hr;cases h;obtain⟨r',C,y,p,B,f⟩:=fY hi n F A hr hS;obtain⟨f1,f2,I,H,E,f3,f4⟩:=kC hS f;obtain⟨v2,g1,g2⟩:=b (u:=Ora.env m.lg.nx) (by rw[f3];intro h;cases h) f1.symm;refine⟨v2::r',.cons (.dat F g2 f2 A2 (mF g2)) C,by simp[y],fun q v' c=>?_,J9.trans ⟨_,rfl⟩ B,V6.trans f⟩;cases q with
      | zero=>simp at c;subst c;exact g1
      | succ q=>rw[show o+j+(q+1)=o+(j+1)+q by omega];exact p q v' (by simpa using c)
     .cases h
def iR{t:TypeId}(h:kX P t=some ts):H1 P t=some ts.length:=by
 unfold kX at h;split at h
 .rename_i l n h1 b;obtain⟨h3,h⟩:=A3 h;cases h;rw[b,A0 h3]
 .cases h
def ED{t:TypeId}{r:D0}{v:Value}{b:Nat}(e:kX P t=some ts)(d:mI P t (some (r,m))=some (v,m'))(f:LR ρ r r')(n:r'.length=ts.length)
  (k:∀ q v',r'[q]? = some v'->w.cell? ⟨b,o+q,none⟩=some v'):m'=m/\∃ v',(Instr.loadAt t (.pointer (some ⟨b,o,none⟩))).run P w=.ok v' w/\VR ρ v v':=by
 unfold mI at d;split at d
 .rename_i c heq;cases d;cases heq;obtain⟨v',x,rfl,l,p⟩:=f.tail;refine⟨rfl,v',?_,l⟩
  have:=k 0 v' rfl;simp[Instr.loadAt,Instr.sureAddr,loadVar,A4,cF c,Result.andThen,run_load,show w.cell? ⟨b,o,none⟩=some v' from by simpa using this]
 .rename_i c heq;cases d;cases heq;refine⟨rfl,.agg ⟨r'⟩,?_,.agg f.1 f.2⟩;have g:H1 P t=some r'.length:=by rw[n];exact iR e
  simp[Instr.loadAt,Instr.sureAddr,loadVar,A4,cF c,K8 g,Result.andThen,K4 rfl k]
 .cases d
def A0P{t:TypeId}{x x' v:Value}(h:HR P base ρ m.H w)(f:KB P m t x=some (v,m'))(hx:VR ρ x x')(Y:Sat m'.lg):(∃ r,(Instr.loadAt t x').run P w=.ok r w/\VR ρ v r)/\J9 m m'/\m.lg.le m'.lg:=by
 have J:∀ {r:Option (D0×Mem)},mI P t r=some (v,m')->∃ vs,r=some (vs,m'):=fun{r} F=>by
  unfold mI at F;split at F
  .cases F;exact⟨_,rfl⟩
  .cases F;exact⟨_,rfl⟩
  .cases F
 unfold KB at f;split at f
 .rename_i b i tg z o ts y;obtain⟨h1,f⟩:=A3 f;obtain⟨⟨l,wd,rows,a,s,c,k,N,I,L,V,M,e6,rfl⟩,Z⟩:=FY hx;obtain⟨vs,hr⟩:=J f;rw[hr]at f;have A:tg-10=wd:=by rw[<- Z,I];simp[G2]
  rw[A]at hr;have W:=(h.atl N (dY h1)).1.2;rw[I]at L;obtain⟨C,T,fz,f1,f2,f3,f4⟩:∃ C T fz,l.G a=some (.cells C T fz)/\s+rows.length*wd<=C.size/\(∀ row ∈ rows,row.length=wd)/\∀ (r:Nat) (row:List U) (j:Nat) (u:U) (v:Value),rows[r]? = some row->row[j]? = some u->C[s+r*wd+j]? = some v->Enc l.G u v:=by
   have E:rows≠[]:=by intro e;subst e;simp at M
   cases L with
   | sc h=>cases h
   | emp=>exact absurd rfl E
   | sl hc Q hz hw hh=>exact⟨_,_,_,Q E,hz E,hw,hh⟩
  have B:=W _ _ f1;have d:rows[k]? = some rows[k]:=A5 M;obtain⟨r',g1,g2,g3,g4,g5⟩:=fY (cell:=fun q=>w.cell? ⟨a,s+k*wd+q,none⟩) I V N (fun q u n=>by
   rw[B1,d]at n;have n:rows[k][q]? = some u:=n;have D:=(B0.1 n).1;rw[f3 _ (C8 d)]at D;have R:(k+1)*wd<=rows.length*wd:=F7 wd M;rw[H6]at R;have p:s+k*wd+q<C.size:=A2;refine⟨C[s+k*wd+q],?_,f4 k _ q u _ d n (F2 p)⟩;simp[World.cell?,B,F2 p]) hr Y
  obtain⟨_,X⟩:=ED (w:=w) (b:=a) (o:=s+k*wd+o) y f g1 g2 (fun q v' n=>by
   have:=g3 q v' n;rw[show s+k*wd+o+q=s+k*wd+(o+0+q) by omega];exact this)
  exact⟨X,g4,g5⟩
 .rename_i b i tg z o ts y;split at f
  .rename_i c tc T g ro Q;obtain⟨h1,f⟩:=A3 f;have h1:=A0 h1;subst h1;obtain⟨⟨l,wd,jW,k,N,I,L,V,M,e6,rfl⟩,Z⟩:=wI hx;obtain⟨vs,hr⟩:=J f;rw[hr]at f;obtain⟨K,inf,d1,d2,d3,d4⟩:=SqR.ex (h.atl N Q).1;rcases d4 with⟨d4,_⟩|⟨_,d4⟩
   .rw[I]at d4;cases d4
   obtain⟨C,fz,T',rows,lg,f1,f2,f3,f4,f5,f6,f7,f8,f9⟩:=d4;have A:tc-10=K:=A2;rw[A]at hr;have O:k<rows.length:=A2;have d:rows[k]? = some rows[k]:=A5 O;have S:wd=K:=by
    have:G2 (Ora.env i)=10+wd:=by rw[L];rfl
    omega
   subst S;obtain⟨r',g1,g2,g3,g4,g5⟩:=fY (cell:=fun q=>w.cell? ⟨l.blk,l.sh+k*wd+q,none⟩) f2 V f7 (fun q u n=>by
    rw[B1,d]at n;have n:rows[k][q]? = some u:=n;have D:=(B0.1 n).1;rw[f6 _ (C8 d)]at D;have R:(k+1)*wd<=l.cap*wd:=F7 wd A2;rw[H6]at R;have p:l.sh+k*wd+q<C.size:=A2;refine⟨C[l.sh+k*wd+q],?_,f8 k _ q u _ d n (F2 p)⟩;simp[World.cell?,f1,F2 p]) hr Y
   obtain⟨_,X⟩:=ED (w:=w) (b:=l.blk) (o:=l.sh+k*wd+o) y f g1 g2 (fun q v' n=>by
    have:=g3 q v' n;rw[show l.sh+k*wd+o+q=l.sh+k*wd+(o+0+q) by omega];exact this)
   exact⟨X,g4,g5⟩
  .cases f
 .cases f
end
end
section
open Go
variable [Ora]
section
variable {P:Program} {base:Nat} {ρ ρ':Ren} {m m':Mem} {w w':World}
def at0(a:Nat):Ren:=fun _=>some (lc a 0 0)
def VT{a s n c:Nat}(h:n<=c):VR (at0 a) (.slice (some ⟨0,s,none⟩) n (M9+1)) (.slice (some ⟨a,s,none⟩) n c) :=
 VR.op (ρ:=at0 a) (b:=0) (o:=s) (n:=n) (m:=M9+1) (m':=c) (l:=lc a 0 0) rfl (by unfold M9;omega) h (fun h=>by unfold M9 at h;omega)
def TM{a s:Nat}:VR (at0 a) (.pointer (some ⟨0,s,none⟩)) (.pointer (some ⟨a,s,none⟩)):=VR.ptr (ρ:=at0 a) (b:=0) (o:=s) (l:=lc a 0 0) rfl
def uJ{t e:TypeId}{a s n c z sz:Nat}{k:IntKind}(hu:P.underlying t=some (.slice e))(hs:H1 P e=some sz)(d:z<n)(g:n<=c)(w:World) :
  (Instr.indexAt t (.slice (some ⟨a,s,none⟩) n c) (.int k (.ofNat z))).run P w=.ok (.pointer (some ⟨a,s+z*sz,none⟩)) w:=by
 have f:Nat.blt z n=true:=C5 d;have hm:X7 P t (.slice (some ⟨0,s,none⟩) n (M9+1)) (.int k (.ofNat z))=some (.pointer (some ⟨0,s+z*sz,none⟩)):=by
  simp only[X7,hu,hs,f,E3,bP,E5]
 obtain⟨v',g1,g2⟩:=cQ (P:=P) hm (VT (a:=a) g) (.pure rfl) w;obtain⟨l2,b,_,rfl⟩:=O6 g2;cases b;exact g1
def qI{t e:TypeId}{a s n z sz:Nat}{k:IntKind}(hu:P.underlying t=some (.array n e))(hs:H1 P e=some sz)(c:z<n)(w:World) :
  (Instr.indexAt t (.pointer (some ⟨a,s,none⟩)) (.int k (.ofNat z))).run P w=.ok (.pointer (some ⟨a,s+z*sz,none⟩)) w:=by
 have d:Nat.blt z n=true:=C5 c;have hm:X7 P t (.pointer (some ⟨0,s,none⟩)) (.int k (.ofNat z))=some (.pointer (some ⟨0,s+z*sz,none⟩)):=by
  simp only[X7,hu,hs,d,E3,bP,E5]
 obtain⟨v',g1,g2⟩:=cQ (P:=P) hm (TM (a:=a)) (.pure rfl) w;obtain⟨l2,b,_,rfl⟩:=O6 g2;cases b;exact g1
def uL{a z:Nat}{c:Array Field}{f:Field}(hu:P.underlying s=some (.struct c))(d:c.toList[i]? = some f)(e:H1 P f.type=some (z+1))(w:World) :
  (Instr.fieldAt s (.pointer (some ⟨a,o,none⟩)) i).run P w=.ok (.pointer (some ⟨a,o+f.offset,none⟩)) w:=by
 have hm:cT P s (.pointer (some ⟨0,o,none⟩)) i=some (.pointer (some ⟨0,o+f.offset,none⟩)):=by
  simp only[cT,hu,d,e,bP,E5]
 obtain⟨v',g1,g2⟩:=mB (P:=P) hm (TM (a:=a)) w;obtain⟨l2,b,_,rfl⟩:=O6 g2;cases b;exact g1
def GA{t wd:Nat}{e:Bool}{rows:List (List U)}{k v:Value}(h:KO m i t z k=some (v,m'))(hi:Ora.env i=.seq e wd rows)(I:t=10+wd)(F:VR ρ z z')(C:Sat m'.lg) :
  v=k/\(∃ kk n,z'=.int kk (.ofNat n)/\n<rows.length/\pD Ora.env z=some (.ofNat n))/\J9 m m'/\m.lg.le m'.lg:=by
 unfold KO at h;cases B:!(Nat.blt (G4 z) 8)with
 | true=>rw[B]at h;cases h
 | false =>
   have E:G4 z<8:=by
    have:Nat.blt (G4 z) 8=true:=by simpa using B
    exact A1 this
   rw[B]at h;simp only[D6]at h;split at h
   .rename_i b H n W hh lg l;split at h
    .rename_i x D;cases h;have f:=H8 l;have c:=fE D;obtain⟨u,g,J,r,p,G,_⟩:=M4 l (R6.le C c);have q:=mH D (G ρ) C;subst q;obtain⟨kk,y,rfl,f2,_⟩:=M6 F E;have d:[z,hole i t].map (D5 Ora.env)=[.int kk y,.seq e wd rows]:=by
      simp only[C3,F9,f2];show[_,Ora.env i]=_;rw[hi]
     rw[d]at g;have g:(if wd=t-10 then U.bool (decide (0<=y) && decide (y<rows.length))else U.none)=u:=g;rw[A9 A2]at g;subst g;have p:some (Value.bool (decide (0<=y) && decide (y<rows.length)))=some (.bool true):=p;have A:(decide (0<=y) && decide (y<rows.length))=true:=by simpa using p
     simp only[G8,decide_eq_true_eq]at A;obtain⟨n0,rfl⟩:∃ n0:Nat,y=.ofNat n0:=⟨y.toNat,by have:=dS A.1;exact this.symm⟩;refine⟨rfl,⟨kk,n0,rfl,?_,TN f2⟩,J9.trans (H5 l) ⟨x,rfl⟩,f.trans c⟩
     have:=A.2;have:(n0:Int)<rows.length:=this;omega
    .cases h
   .cases h
def A8I{G:Nat->Option Obj}{b:Bool}{wd:Nat}{rows:List (List U)}{v:Value}(h:Enc G (.seq b wd rows) v)(hr:rows≠[]):b=false/\∃ a o c,v=.slice (some ⟨a,o,none⟩) rows.length c/\rows.length<=c:=by
 cases h with
 | sc h=>cases h
 | nil=>exact absurd rfl hr
 | emp=>exact absurd rfl hr
 | sl d _ _ _ _=>exact⟨rfl,_,_,_,rfl,d⟩
def NM{t:Nat}(h:G2 u=t)(d:10<=t):u=.none∨∃ c wd rows,u=.seq c wd rows/\t=10+wd:=by
 cases u with
 | none=>exact .inl rfl
 | int k n=>have:=L6 k;simp[G2]at h;omega
 | bool b=>simp[G2]at h;omega
 | str s=>simp[G2]at h;omega
 | seq c wd rows=>exact .inr ⟨c,wd,rows,rfl,h.symm⟩
def gB{G:Nat->Option Obj}{v:Value}{t:Nat}(h:Enc G u v)(d:G2 u=t)(c:10<=t):∃ b wd rows,u=.seq b wd rows/\t=10+wd:=by
 rcases NM d c with rfl|h1
 .cases h with
  | sc h=>cases h
 .exact h1
def DH{t e:TypeId}{b s:Nat}{l:Loc}{v v':Value}(hu:P.underlying t=some (.slice e))(hs:H1 P e=some (s+1))(B:tg=10+(s+1))(h1:ρ b=some l)(d:Enc l.G (Ora.env i) v')(h3:G2 (Ora.env i)=tg)
  (h:KO m i tg z (dpt b i tg z 0)=some (v,m')) (y:VR ρ z z') (x:Sat m'.lg):(∃ r,(Instr.indexAt t v' z').run P w=.ok r w/\VR ρ v r)/\J9 m m'/\m.lg.le m'.lg:=by
 obtain⟨A,wd,rows,f,C⟩:=gB d h3 A2;obtain⟨rfl,⟨kk,n,rfl,q,g⟩,g1,g2⟩:=GA h f C y x;have k:wd=s+1:=A2;subst k;have p:rows≠[]:=by intro e;subst e;simp at q
 rw[f]at d;obtain⟨rfl,a,o,c,rfl,D⟩:=A8I d p;refine⟨⟨_,uJ hu hs q D w,.dpt ⟨l,s+1,rows,a,o,c,n,h1,f,by rw[f];exact d,g,q,A2,by simp⟩ h3 rfl⟩,g1,g2⟩
def KM{t:TypeId}{x x' v:Value}(h:lY P m t x z=some (v,m'))(hx:VR ρ x x')(B:VR ρ z z')(F:Sat m'.lg):(∃ r,(Instr.indexAt t x' z').run P w=.ok r w/\VR ρ v r)/\J9 m m'/\m.lg.le m'.lg:=by
 unfold lY at h;split at h
 .rename_i e b i tg hu;split at h
  .rename_i s hs;obtain⟨g,h⟩:=A3 h;have g:=A0 g;obtain⟨E,d⟩:=fW hx;rcases E with⟨l,wd,h1,A,h3,rfl⟩|⟨l,wd,rows,h1,A,h3,O,I,rfl⟩
   .obtain⟨_,⟨kk,n,_,M,_⟩,_⟩:=GA h h3 (by rw[h3]at d;exact d.symm) B F;simp at M
   .have C:tg=10+wd:=by rw[h3]at d;exact d.symm
    obtain⟨rfl,⟨kk,n,rfl,M,H⟩,g1,g2⟩:=GA h h3 C B F;have p:wd=s+1:=A2;subst p;exact⟨⟨_,uJ hu hs A2 I w,.opt ⟨l,s+1,rows,n,h1,A,h3,H,A2,A2,by simp⟩ d rfl⟩,g1,g2⟩
  .cases h
 .rename_i e b i tg hu;split at h
  .rename_i s hs;obtain⟨g,h⟩:=A3 h;have g:=A0 g;obtain⟨l,h1,A,h3,_⟩:=nM hx;exact DH hu hs g h1 A h3 h B F
  .cases h
 .rename_i e b i tg hu;split at h
  .rename_i s hs;obtain⟨g,h⟩:=A3 h;have g:=A0 g;obtain⟨l,h1,A,h3,_⟩:=fX hx;exact DH hu hs g h1 A h3 h B F
  .cases h
 .rename_i n e b i tg y o hu;split at h
  .rename_i s kk k hs;obtain⟨f,h⟩:=A3 h;obtain⟨f,hw⟩:=B6 f;have f:=A1 f;have hw:o+k*s<tg-10:=A1 hw;rw[E5]at h;cases h;cases J4 B;obtain⟨⟨l,wd,rows,a,s0,c,q,L,C,G,K,J,N,rfl⟩,D⟩:=FY hx;have p:tg-10=wd:=by rw[<- D,C];simp[G2]
   refine⟨⟨_,qI hu hs f w,.dpt ⟨l,wd,rows,a,s0,c,q,L,C,G,K,J,A2,by simp⟩ D rfl⟩,.refl _,.refl _⟩
  .cases h
 .rename_i n e b i tg y o hu;split at h
  .rename_i s kk k hs;obtain⟨f,h⟩:=A3 h;obtain⟨f,hw⟩:=B6 f;have f:=A1 f;have hw:o+k*s<tg-10:=A1 hw;rw[E5]at h;cases h;cases J4 B;obtain⟨⟨l,wd,rows,q,L,C,G,K,J,N,rfl⟩,D⟩:=wI hx;have p:tg-10=wd:=by rw[<- D,G];simp[G2]
   refine⟨⟨_,qI hu hs f w,.opt ⟨l,wd,rows,q,L,C,G,K,J,A2,by simp⟩ D rfl⟩,.refl _,.refl _⟩
  .cases h
 .cases h
def LE{x x' v:Value}{f:Nat}(h:mC P m s x f=some (v,m'))(hx:VR ρ x x'):(∃ r,(Instr.fieldAt s x' f).run P w=.ok r w/\VR ρ v r)/\m'=m:=by
 unfold mC at h;split at h
 .rename_i C b i tg y o hu;split at h
  .rename_i fd p;split at h
   .rename_i z k;obtain⟨hw,h⟩:=A3 h;have hw:o+fd.offset<tg-10:=A1 hw;rw[E5]at h;cases h;obtain⟨⟨l,wd,rows,a,s0,c,q,B,g,e,A,t,D,rfl⟩,d⟩:=FY hx;have n:tg-10=wd:=by rw[<- d,g];simp[G2]
    exact⟨⟨_,uL hu p k w,.dpt ⟨l,wd,rows,a,s0,c,q,B,g,e,A,t,A2,by simp⟩ d rfl⟩,rfl⟩
   .cases h
  .cases h
 .rename_i C b i tg y o hu;split at h
  .rename_i fd p;split at h
   .rename_i z k;obtain⟨hw,h⟩:=A3 h;have hw:o+fd.offset<tg-10:=A1 hw;rw[E5]at h;cases h;obtain⟨⟨l,wd,rows,q,B,g,e,A,t,D,rfl⟩,d⟩:=wI hx;have n:tg-10=wd:=by rw[<- d,e];simp[G2]
    exact⟨⟨_,uL hu p k w,.opt ⟨l,wd,rows,q,B,g,e,A,t,A2,by simp⟩ d rfl⟩,rfl⟩
   .cases h
  .cases h
 .cases h
end
end
section
open Go
variable [Ora]
section
variable {P:Program} {base:Nat} {ρ ρ':Ren} {m m':Mem} {w w':World}
def v6{G:Nat->Option Obj}{b:Bool}{wd:Nat}{rows:List (List U)}{v:Value}(h:Enc G (.seq b wd rows) v):(b=true/\rows=[]/\v=.slice none 0 0)∨(b=false/\∃ (a:Addr) (c:Nat),v=.slice (some a) rows.length c/\rows.length<=c):=by
 cases h with
 | sc h=>cases h
 | nil=>exact .inl ⟨rfl,rfl,rfl⟩
 | emp=>exact .inr ⟨rfl,_,_,rfl,A6 _⟩
 | sl d _ _ _ _=>exact .inr ⟨rfl,_,_,rfl,d⟩
def lD{t e:TypeId}{a:Option Addr}{n c:Nat}(hu:P.underlying t=some (.slice e))(w:World):(Builtin.len_ ⟨t::tys⟩ ty #[.slice a n c]).run P w=.ok (.int .i64 n) w:=by
 simp[Builtin.len_,A4,C9 hu,Result.andThen,goInt]
def A3L{t:Nat}{v:Value}{c:Bool}{wd:Nat}{rows:List (List U)}(h:T9 m 3 .len [hole i t]=some (v,m'))(hi:Ora.env i=.seq c wd rows)(e:Sat m'.lg):VR ρ v (.int .i64 rows.length)/\J9 m m'/\m.lg.le m'.lg/\D5 Ora.env v=.int .i64 rows.length:=by
 obtain⟨u,d,l,r,f,g,n⟩:=M4 h e;have b:[hole i t].map (D5 Ora.env)=[.seq c wd rows]:=by
  show[Ora.env i]=_;rw[hi]
 rw[b]at d;have d:U.int .i64 rows.length=u:=d;subst d;cases f;refine⟨g ρ,H5 h,H8 h,?_⟩;obtain⟨rfl,rfl⟩:=jB h;obtain⟨h1,k,h3⟩:=e (.lt m.lg.nx 3 .len [hole i t]) (by cases m;exact B4);show Ora.env m.lg.nx=_;rw[h1,b];rfl
def mA{i j:Nat}:∀ {l:List n7},sB i l=some j->∃ tg,n7.lt j 3 .len [hole i tg] ∈ l
 | [],h=>by cases h
 | e::r,h=>by
   unfold sB at h;split at h
   .cases h
   .rename_i f t k tg r' he;cases he;cases d:Nat.beq k i && Nat.beq t 3 with
    | true =>
      rw[d]at h;cases h;obtain⟨h1,c⟩:=B6 d;have h1:=A0 h1;have c:=A0 c;subst h1;subst c;exact⟨tg,.head _⟩
    | false =>
      rw[d]at h;obtain⟨b,h3⟩:=mA h;exact⟨b,.tail _ h3⟩
   .rename_i he;cases he;obtain⟨b,h3⟩:=mA h;exact⟨b,.tail _ h3⟩
def bS{t:Nat}{v:Value}(h:FO m i t=some (v,m')):J9 m m'/\m.lg.le m'.lg:=by
 unfold FO at h;split at h
 .cases h;exact⟨J9.refl _,.refl _⟩
 .exact⟨H5 h,H8 h⟩
def lU{t:Nat}{v:Value}{c:Bool}{wd:Nat}{rows:List (List U)}(h:FO m i t=some (v,m'))(hi:Ora.env i=.seq c wd rows)(d:Sat m'.lg):VR ρ v (.int .i64 rows.length)/\J9 m m'/\m.lg.le m'.lg/\D5 Ora.env v=.int .i64 rows.length:=by
 unfold FO at h;split at h
 .rename_i j e;cases h;obtain⟨tg,hm⟩:=mA e;obtain⟨h1,f,_⟩:=d _ hm;have b:[hole i tg].map (D5 Ora.env)=[.seq c wd rows]:=by
   show[Ora.env i]=_;rw[hi]
  rw[b]at h1;have h1:Ora.env j=.int .i64 rows.length:=h1;refine⟨.hole ?_ ?_,J9.refl _,.refl _,h1⟩
  .rw[h1];rfl
  .rw[h1];rfl
 .exact A3L h hi d
def US{b:Nat}{v':Value}(h:ZW ρ b u v'):∃ d wd rows a c,u=.seq d wd rows/\v'=.slice a rows.length c:=by
 rcases h with⟨l,wd,h1,e,h3,rfl⟩|⟨l,wd,rows,h1,e,h3,f,g,rfl⟩
 .exact⟨_,_,_,_,_,h3,rfl⟩
 .exact⟨_,_,_,_,_,h3,by rw[f]⟩
def A3M{t:TypeId}{x x' v:Value}(h:A3N P m t x=some (v,m'))(hx:VR ρ x x')(k:Sat m'.lg):(∃ r,(Builtin.len_ ⟨t::tys⟩ ty #[x']).run P w=.ok r w/\VR ρ v r)/\J9 m m'/\m.lg.le m'.lg:=by
 unfold A3N at h;split at h
 .rename_i e b i tg hu;obtain⟨l,h1,d,h3,n⟩:=nM hx;obtain⟨g,wd,rows,f,_⟩:=gB d h3 n;obtain⟨g1,g2,g3,_⟩:=lU (ρ:=ρ) h f k;rw[f]at d;rcases v6 d with⟨rfl,rfl,rfl⟩|⟨rfl,a,c,rfl,_⟩
  .exact⟨⟨_,lD hu w,g1⟩,g2,g3⟩
  .exact⟨⟨_,lD hu w,g1⟩,g2,g3⟩
 .rename_i e b i tg hu;obtain⟨l,h1,d,h3,n,_⟩:=fX hx;obtain⟨g,wd,rows,f,_⟩:=gB d h3 n;obtain⟨g1,g2,g3,_⟩:=lU (ρ:=ρ) h f k;rw[f]at d;rcases v6 d with⟨rfl,rfl,rfl⟩|⟨rfl,a,c,rfl,_⟩
  .exact⟨⟨_,lD hu w,g1⟩,g2,g3⟩
  .exact⟨⟨_,lD hu w,g1⟩,g2,g3⟩
 .rename_i e b i tg hu;obtain⟨g,wd,rows,a,c,f,rfl⟩:=US (fW hx).1;obtain⟨g1,g2,g3,_⟩:=lU (ρ:=ρ) h f k;exact⟨⟨_,lD hu w,g1⟩,g2,g3⟩
 .cases h
def CV{v v':Value}{n:Nat}(hv:VR ρ v v')(c:yV v=true)(b:D5 Ora.env v=.int kk (.ofNat n)):∃ j,v'=.int j (.ofNat n):=by
 obtain⟨k,z,rfl,f2,_⟩:=M6 hv (A1 c);rw[f2]at b;injection b with _ hb
 exact⟨k,by rw[hb]⟩
def XM{h x d x':Value}(hs:QK h x=true)(h1:VR ρ h d)(e:VR ρ x x'):d=x':=by
 unfold QK at hs;split at hs
 .rename_i i t1 j t2
  have:=A0 hs;subst this;have hh:∀ {t:Nat} {v:Value},VR ρ (.complex .f64 i t) v->toV (Ora.env i)=some v:=fun{t v} h=>by
   cases h with
   | pure hp=>simp[I4]at hp
   | hole h _=>exact h
  have a:=hh h1;rw[hh e]at a;exact(A8 a).symm
 .obtain⟨c,b⟩:=B6 hs;have c:=hO c;rw[cH]at b;have b:=eq_of_beq b;subst c;subst b;cases J4 h1;cases J4 e;rfl
 .cases hs
def A1b{wd v:Nat}{d:Bool}{rows:List (List U)}{a b:U}(c:evU (.subs wd) [.seq d v rows,a,b]≠.none):∃ f l g h,a=.int f (.ofNat l)/\b=.int g (.ofNat h)/\v=wd/\l<=h/\h<=rows.length:=by
 cases a with
 | int f k=>cases k with
   | ofNat l=>cases b with
     | int g z2=>cases z2 with
       | ofNat h =>
         have c:(if v=wd/\l<=h/\h<=rows.length then U.seq d wd ((rows.drop l).take (h-l))else .none)≠.none:=c;by_cases e:v=wd/\l<=h/\h<=rows.length
         .exact⟨f,l,g,h,rfl,rfl,e.1,e.2.1,e.2.2⟩
         .rw[A7 e]at c;exact(c rfl).elim
       | negSucc _=>exact(c rfl).elim
     | _=>exact(c rfl).elim
   | negSucc _=>exact(c rfl).elim
 | _=>exact(c rfl).elim
def A3x{G:Nat->Option Obj}{p:Bool}{wd l h mm n c:Nat}{rows:List (List U)}{a:Option Addr}(he:Enc G (.seq p wd rows) (.slice a n c))(M:l<=h)(hh:h<=rows.length)(hm:h<=mm)(K:mm<=c) :
  Enc G (.seq p wd ((rows.drop l).take (h-l))) (.slice (if mm=l then a else a.map (·.add (l*wd))) (h-l) (mm-l))∨a=none:=by
 cases he with
 | sc h=>cases h
 | nil=>exact .inr rfl
 | emp =>
   rename_i a;have g:h=0:=by simpa using hh
   subst g;have f:l=0:=A2;subst f;have H:mm=0:=A2;subst H;exact .inl .emp
 | sl N L F hw q =>
   rename_i a o C T fz;refine .inl ?_;have hlen:((rows.drop l).take (h-l)).length=h-l:=by simp;omega
   have key:∀ b x,(h-l≠0->b=a/\x=o+l*wd)->Enc G (.seq false wd ((rows.drop l).take (h-l))) (.slice (some ⟨b,x,none⟩) (h-l) (mm-l)):=fun b x A=>by
    have y:∀ r row,((rows.drop l).take (h-l))[r]? = some row->h-l≠0/\rows[l+r]? = some row:=fun r row hr=>by
     have k:=(B0.1 hr).1;rw[hlen]at k;rw[E6 k,H9]at hr;exact⟨A2,hr⟩
    have d:(rows.drop l).take (h-l)≠[]->h-l≠0/\rows≠[]:=fun d=>by
     constructor
     .intro e;rw[e]at d;simp at d
     .intro e;subst e;simp at d
    have:=Enc.sl (G:=G) (w:=wd) (rows:=(rows.drop l).take (h-l)) (a:=b) (o:=x) (c:=mm-l) (C:=C) (T:=T) (fz:=fz) A2
     (fun B=>by obtain⟨g,f⟩:=d B;rw[(A g).1];exact L f)
     (fun B=>by
       obtain⟨g,f⟩:=d B;rw[hlen,(A g).2];have h1:=F f;have E:(l+(h-l))*wd<=rows.length*wd:=F7 wd A2;rw[H6]at E;omega)
     (fun row hr=>hw row (cZ (List.mem_of_mem_take hr)))
     (fun r row j u v J I D=>by
       obtain⟨g,f⟩:=y r row J;rw[(A g).2]at D;refine q (l+r) row j u v f I ?_;rw[H6,show o+(l*wd+r*wd)+j=o+l*wd+r*wd+j by omega];exact D)
    rw[hlen]at this;exact this
   by_cases t:mm=l
   .rw[A9 t];exact key a o fun h=>by omega
   .rw[A7 t];have e:(Addr.mk a o none).add (l*wd)=⟨a,o+l*wd,none⟩:=by
     unfold Addr.add;split
     .rename_i h;rw[h];rfl
     .rfl
    show Enc G _ (.slice (some ((Addr.mk a o none).add (l*wd))) _ _);rw[e];exact key a (o+l*wd) fun _=>⟨rfl,rfl⟩
def GT{t e:TypeId}{b s:Nat}{l:Loc}{hi:Q3}{v x':Value}(hu:P.underlying t=some (.slice e))(hs:H1 P e=some s)(ak:tg=10+s)(h1:ρ b=some l)(F:Enc l.G (Ora.env i) x')(h3:G2 (Ora.env i)=tg)
  (aq:cl=true->A13 x') (h:LL m b i tg cl lo hi mx=some (v,m')) (V:OR ρ lo lo') (N:OR ρ hi hi') (K:OR ρ mx mx') (hS:Sat m'.lg):(∃ r,(Instr.sliceAt t x' lo' hi' mx').run P w=.ok r w/\VR ρ v r)/\J9 m m'/\m.lg.le m'.lg:=by
 have d:∀ {o:Q3},OR ρ none o->o=none:=fun{o} h=>by cases o<;>first|rfl|exact h.elim
 have f:∀ {y:Value} {o:Q3},OR ρ (some y) o->∃ W,o=some W/\VR ρ y W:=fun{y o} h=>by cases o<;>first|exact h.elim|exact⟨_,rfl,h⟩
 obtain⟨L,wd,rows,e1,e2⟩:=gB F h3 A2;have ay:wd=s:=A2;subst ay;rw[e1]at F;obtain⟨a,n,c,az,hn,aj⟩:∃ a n c,x'=.slice a n c/\n=rows.length/\n<=c:=by
  rcases v6 F with⟨rfl,rfl,rfl⟩|⟨rfl,a,c,rfl,hc⟩
  .exact⟨_,_,_,rfl,rfl,A6 _⟩
  .exact⟨_,_,_,rfl,rfl,hc⟩
 subst az;have go:∀ {m:Mem} {p hv:Value} {cc:Bool} {E:Q3} {hh mm:Nat},gD m b i tg p hv cc=some (v,m') ->
   (E=none/\p=.int .i64 0∨∃ y,E=some y/\VR ρ p y)->(∀ kk q,D5 Ora.env hv=.int kk (.ofNat q)->q<=rows.length->q=hh/\Bd mx' c c mm/\(hi'=none->mx'=none)/\Bd hi' mm n hh/\hh<=mm/\(cc=true->mm=hh)) ->
   (∃ r,(Instr.sliceAt t (.slice a n c) E hi' mx').run P w=.ok r w/\VR ρ v r)/\J9 m m'/\m.lg.le m'.lg:=fun{m p hv cc E hh mm} h D aw=>by
  unfold gD at h;obtain⟨hint,h⟩:=A3 h;obtain⟨au,al⟩:=B6 hint;rw[N6]at h;simp only[D2,M0]at h;obtain⟨rfl,rfl⟩:=h;obtain⟨f1,f2,ao,ai,av,f3,f4⟩:=kC hS (.refl _);have T:[hole i tg,p,hv].map (D5 Ora.env)=[.seq L wd rows,D5 Ora.env p,D5 Ora.env hv]:=by
   show[Ora.env i,_,_]=_;rw[e1]
  rw[T]at f1;have ax:tg-10=wd:=A2;rw[ax]at f1;obtain⟨Y,l0,O,h0,a1,a2,a3,a4⟩:∃ Y l0 O h0,D5 Ora.env p=.int Y (.ofNat l0)/\D5 Ora.env hv=.int O (.ofNat h0)/\l0<=h0/\h0<=rows.length:=by
   have ar:evU (.subs wd) [.seq L wd rows,D5 Ora.env p,D5 Ora.env hv]≠.none:=by rw[<- f1,f3];intro h;cases h
   obtain⟨Y,l0,O,h0,X,B,_,q3,q4⟩:=A1b ar;exact⟨Y,l0,O,h0,X,B,q3,q4⟩
  rw[a1,a2]at f1;have f1:Ora.env m.lg.nx=if wd=wd/\l0<=h0/\h0<=rows.length then U.seq L wd ((rows.drop l0).take (h0-l0))else .none:=f1
  rw[A9 ⟨rfl,a3,a4⟩]at f1;obtain⟨rfl,S,b2,b3,b4,b5⟩:=aw O h0 a2 a4;have b6:Bd E h0 0 l0:=by
   rcases D with⟨rfl,rfl⟩|⟨y,rfl,hy⟩
   .cases a1;exact .inl ⟨rfl,rfl⟩
   .obtain⟨j,rfl⟩:=CV hy au a1;exact .inr ⟨j,rfl,a3⟩
  have R:=uI (P:=P) (a:=a) (n:=n) (c:=c) hu hs S b2 b3 b6 w;have I:Enc l.G (Ora.env m.lg.nx) (.slice (if mm=l0 then a else a.map (·.add (l0*wd))) (h0-l0) (mm-l0)):=by
   rw[f1];rcases A3x (mm:=mm) F a3 a4 b4 (by rcases S with⟨_,rfl⟩|⟨_,_,S⟩<;>omega)with he|rfl
   .exact he
   .rcases v6 F with⟨rfl,rfl,H⟩|⟨_,_,_,H,_⟩
    .cases H;have z1:h0=0:=by simp at a4;exact a4
     have z2:l0=0:=A2;have z3:mm=0:=by
      rcases S with⟨_,rfl⟩|⟨_,_,S⟩<;>omega
     subst z1;subst z2;subst z3;exact .nil
    .cases H
  refine⟨⟨_,R,?_⟩,⟨_,rfl⟩,V6⟩;cases cc with
  | false=>exact .dat h1 I f2 A2 rfl
  | true =>
    refine .clp h1 I f2 A2 rfl ?_;show mm-l0=h0-l0;rw[b5 rfl]
 have A:∀ {hv y:Value} {kk:IntKind} {q:Nat},VR ρ hv y->yV hv=true->D5 Ora.env hv=.int kk (.ofNat q)->∃ j,y=.int j (.ofNat q):=fun h1 F h3=>CV h1 F h3
 have g:∀ {m:Mem} {p hv:Value} {cc:Bool},gD m b i tg p hv cc=some (v,m')->yV hv=true:=fun h=>by
  unfold gD at h;exact(B6 (A3 h).1).2
 have main:∀ p,(lo'=none/\p=.int .i64 0∨∃ y,lo'=some y/\VR ρ p y)->LK m b i tg cl p hi mx=some (v,m')->(∃ r,(Instr.sliceAt t (.slice a n c) lo' hi' mx').run P w=.ok r w/\VR ρ v r)/\J9 m m'/\m.lg.le m'.lg:=fun p D h=>by
  cases hi with
  | some hv =>
    obtain⟨an,rfl,C⟩:=f N;cases mx with
    | none =>
      cases d K;have h:gD m b i tg p hv false=some (v,m'):=h;have hint:=g h;obtain⟨kk,q,H⟩:∃ kk q,D5 Ora.env hv=.int kk q:=by
       obtain⟨k,z,_,f2,_⟩:=M6 C (A1 hint);exact⟨k,z,f2⟩
      exact go (hh:=q.toNat) (mm:=c) h D fun M B h1 F=>by
       rw[H]at h1;injection h1 with _ h1
       subst h1;obtain⟨j,rfl⟩:=A C hint H;have e:(Int.ofNat B).toNat=B:=rfl;rw[e];exact⟨rfl,.inl ⟨rfl,rfl⟩,fun h=>(by cases h),.inr ⟨j,rfl,A2⟩,A2,fun h=>by cases h⟩
    | some x =>
      obtain⟨x',rfl,Z⟩:=f K;have h:(bif QK hv x then gD m b i tg p hv true else none)=some (v,m'):=h;obtain⟨J,h⟩:=A3 h;have hint:=g h
      have:=XM J C Z;subst this;obtain⟨kk,q,H⟩:∃ kk q,D5 Ora.env hv=.int kk q:=by
       obtain⟨k,z,_,f2,_⟩:=M6 C (A1 hint);exact⟨k,z,f2⟩
      exact go (hh:=q.toNat) (mm:=q.toNat) h D fun M B h1 F=>by
       rw[H]at h1;injection h1 with _ h1
       subst h1;obtain⟨j,rfl⟩:=A C hint H;have e:(Int.ofNat B).toNat=B:=rfl;rw[e];exact⟨rfl,.inr ⟨j,rfl,A2⟩,fun h=>(by cases h),.inr ⟨j,rfl,A6 _⟩,A6 _,fun _=>rfl⟩
  | none =>
    cases d N;cases mx with
    | some x=>cases h
    | none =>
      cases d K;unfold LK at h;simp only at h;split at h
      .rename_i hv m1 hl;have Q:J9 m1 m'/\m1.lg.le m'.lg:=by
        unfold gD at h;obtain⟨_,h⟩:=A3 h;rw[N6]at h;simp only[D2,M0]at h;obtain⟨_,rfl⟩:=h;exact⟨⟨_,rfl⟩,V6⟩
       obtain⟨X,B,q3,q4⟩:=lU (ρ:=ρ) hl e1 (hS.le Q.2);obtain⟨r1,r2,r3⟩:=go (hh:=rows.length) (mm:=c) h D fun M B h1 F=>by
        rw[q4]at h1;injection h1 with _ h1
        have h1:((rows.length:Nat):Int)=(B:Nat):=h1;have:B=rows.length:=A2;subst this;refine⟨rfl,.inl ⟨rfl,rfl⟩,fun _=>rfl,.inl ⟨rfl,hn.symm⟩,A2,fun hc=>?_⟩
        have:=aq hc;have:c=n:=this;omega
       exact⟨r1,B.trans r2,q3.trans r3⟩
      .cases h
 cases lo with
 | none=>exact main _ (.inl ⟨d V,rfl⟩) h
 | some y=>obtain⟨W,X,B⟩:=f V;exact main _ (.inr ⟨W,X,B⟩) h
end
end
section
open Go
variable [Ora]
section
variable {P:Program} {base:Nat} {ρ ρ':Ren} {m m':Mem} {w w':World}
def O7(R:Nat->Option Obj)(rows:List (List U))(wd:Nat)(C:Array Value)(o:Nat):Prop :=
 (∀ row ∈ rows,row.length=wd)/\∀ (r:Nat) (row:List U) (j:Nat) (u:U) (v:Value),rows[r]? = some row->row[j]? = some u->C[o+r*wd+j]? = some v->Enc R u v
def O7.mono{R d:Nat->Option Obj}{rows:List (List U)}{wd:Nat}{C:V8}(h:O7 R rows wd C o)(hs:Sub R d):O7 d rows wd C o:=⟨h.1,fun r row j u v a b c=>(h.2 r row j u v a b c).mono hs⟩
def O7.nil{R:Nat->Option Obj}{wd:Nat}{C:V8}:O7 R [] wd C o:=⟨fun _ h=>by(cases h),fun r row j u v h=>by simp at h⟩
def nU{wd:Nat}:∀ {n:Nat} {l:List U} {r:List (List U)},i7 wd n l=some r->r.length=n/\l.length=n*wd/\(∀ row ∈ r,row.length=wd)/\∀ (q:Nat) (row:List U) (j:Nat) (u:U),r[q]? = some row->row[j]? = some u->l[q*wd+j]? = some u
 | 0,[],r,h=>by cases h;exact⟨rfl,by simp,fun _ h=>(by cases h),fun q row j u h=>by simp at h⟩
 | 0,_::_,r,h=>by cases h
 | n+1,l,r,h=>by
   unfold i7 at h;split at h
   .rename_i hle;split at h
    .rename_i g hr;cases h;obtain⟨h1,c,h3,e⟩:=nU hr;have d:l.length=(n+1)*wd:=by
      rw[E9]at c;rw[H6];omega
     refine⟨by simp[h1],d,fun row b=>?_,fun q row j u g1 g2=>?_⟩
     .rcases B5.1 b with rfl|b
      .simp;omega
      .exact h3 row b
     .cases q with
      | zero =>
        simp at g1;subst g1;have f:=(B0.1 g2).1;simp at f;rw[E6 A2]at g2
        simpa using g2
      | succ q =>
        have:=e q row j u (by simpa using g1) g2;rw[H9]at this;rw[show(q+1)*wd+j=wd+(q*wd+j) by rw[H6];omega];exact this
    .cases h
   .cases h
def oY{wd:Nat}:∀ (n:Nat) (l:List U),l.length=n*wd->∃ r,i7 wd n l=some r
 | 0,[],_=>⟨[],rfl⟩
 | 0,_::_,h=>by simp at h
 | n+1,l,h=>by
   rw[H6]at h;obtain⟨r,hr⟩:=oY (wd:=wd) n (l.drop wd) (by rw[E9];omega);refine⟨l.take wd::r,?_⟩;unfold i7;rw[A9 A2,hr]
def oD{R:Nat->Option Obj}{wd n:Nat}{rows:List (List U)}(h:Z1 R us vs)(b:i7 wd n us=some rows):O7 R rows wd ⟨vs⟩ 0:=by
 obtain⟨h1,d,h3,c⟩:=nU b;refine⟨h3,fun r row j u v g1 g2 g3=>h.2 _ u v (c r row j u g1 g2) ?_⟩
 simpa using g3
def xQ{α:Type}{l:List α}:∀ n,(NO l n).length=n*l.length
 | 0=>by simp[NO]
 | n+1=>by simp[NO,xQ n,H6];omega
def hY(s:List UInt8):(jV s).length=s.length:=by simp[jV]
def IU{R:Nat->Option Obj}(s:List UInt8):O7 R (jV s) 1 ⟨P2 s⟩ 0:=by
 refine⟨fun row hr=>?_,fun r row j u v g1 g2 g3=>?_⟩
 .unfold jV at hr;obtain⟨b,_,rfl⟩:=I7.1 hr;rfl
 .unfold jV at g1;rw[F6]at g1;cases c:s[r]? with
  | none=>rw[c]at g1;cases g1
  | some b =>
    rw[c]at g1;simp only[L2,D2]at g1;subst g1;cases j with
    | zero =>
      simp at g2;subst g2;have g3:(P2 s)[0+r*1+0]? = some v:=by simpa using g3
      unfold P2 at g3;rw[F6,show 0+r*1+0=r by omega,c]at g3;simp only[L2,D2]at g3;subst g3;exact .sc rfl
    | succ j=>simp at g2
def tV{G:Nat->Option Obj}{wd n c:Nat}{rows:List (List U)}(h:Enc G (.seq false wd rows) (.slice (some a) n c))(E:∀ k B,G k=some B->w.heap[k]? = some B) :
  n=rows.length/\∃ new',new'.length=rows.length*wd/\new'.all m9=true/\O7 G rows wd ⟨new'⟩ 0/\∀ (j:Nat) (v':Value),new'[j]? = some v'->w.cell? (a.add j)=some v':=by
 cases h with
 | sc h=>cases h
 | emp=>exact⟨rfl,[],by simp,rfl,.nil,fun j v' h=>by simp at h⟩
 | sl I F A hw f =>
   rename_i a o C T fz;refine⟨rfl,?_⟩;cases hr:rows with
   | nil=>exact⟨[],by simp,rfl,.nil,fun j v' h=>by simp at h⟩
   | cons H J =>
     have g:rows≠[]:=by rw[hr];simp
     rw[<- hr];have hh:=E _ _ (F g);have A:=A g;have hlen:((C.toList.drop o).take (rows.length*wd)).length=rows.length*wd:=by simp;omega
     have b:∀ j,j<rows.length*wd->((C.toList.drop o).take (rows.length*wd))[j]? = C[o+j]? := fun j d=>by
      rw[E6 d,H9];simp
     refine⟨_,hlen,?_,⟨hw,fun r row j u v g1 g2 g3=>?_⟩,fun j v' d=>?_⟩
     .refine D4.2 fun v hv=>?_
      obtain⟨j,d,e⟩:=j7 hv;rw[hlen]at d;have x:C[o+j]? = some v:=by rw[<- b j d,A5 (by rw[hlen];exact d),e]
      have l:0<wd:=by
       rcases S6 wd with h0|h0
       .subst h0;omega
       .exact h0
      have h1:j / wd<rows.length:=by rw[Nat.div_lt_iff_lt_mul l];exact d
      have q:(rows[j / wd]).length=wd:=hw _ (N5 h1);have h3:j%wd<wd:=pI _ l;refine mF (f (j / wd) rows[j / wd] (j%wd) (rows[j / wd])[j%wd] v (A5 h1) (A5 (by rw[q];exact h3)) ?_);have:o+j / wd*wd+j%wd=o+j:=by have:=Nat.div_add_mod j wd;rw[bB]at this;omega
      rw[this];exact x
     .have D:0+r*wd+j<rows.length*wd:=by
       have y:=(B0.1 g1).1;have t:=(B0.1 g2).1;rw[hw _ (C8 g1)]at t;have q:(r+1)*wd<=rows.length*wd:=F7 wd y;rw[H6]at q;omega
      have g3:((C.toList.drop o).take (rows.length*wd))[0+r*wd+j]? = some v:=by simpa using g3
      rw[b _ D]at g3;exact f r row j u v g1 g2 (by rw[show o+r*wd+j=o+(0+r*wd+j) by omega];exact g3)
     .have p:=(B0.1 d).1;rw[hlen]at p;rw[b j p]at d;rw[K4.add_none'];simp[World.cell?,hh,d]
structure VV (P:Program) (ρ':Ren) (w:World) (wd:Nat) (bh:Beh) (gs:List Nat) (y':Value) (rows2:List (List U)) (new':List Value):Prop where
 len:∀ wd',(Builtin.lenOf y').run P wd'=.ok rows2.length wd'
 first:∀ wd':World,wd'.heap=w.heap->(Builtin.firstCells wd rows2.length y').run P wd'=.ok ⟨new'⟩ wd'
 size:new'.length=rows2.length*wd
 flat:new'.all m9=true
 rows:∀ R,(∀ b ∈ gs,∀ l,ρ' b=some l->Sub l.G R)->O7 R rows2 wd ⟨new'⟩ 0
 ev:∀ c nul rows,Ora.env c=.seq nul wd rows->evU (dN wd (hole c (10+wd)) bh).1 ((dN wd (hole c (10+wd)) bh).2.map (D5 Ora.env))=sN nul wd rows rows2
def DG{R:Nat->Option Obj}(h:Z1 R us vs):vs.all m9=true:=by
 refine D4.2 fun v hv=>?_
 obtain⟨j,b,e⟩:=j7 hv;have hu:j<us.length:=by rw[h.1];exact b
 exact mF (h.2 j us[j] v (A5 hu) (by rw[A5 b,e]))
def TL{td:Td}(L:AJ P td){e:TypeId}{wd:Nat}{y y':Value}{bh:Beh}{gs:H4}(h:HR P base ρ m.H w)(p:A2C td P m e wd y=some (bh,gs,sure,m'))(hf:K2 ρ m.n m'.hi)(O:VR ρ y y')(hS:Sat m'.lg)(az:0<wd)(T:H1 P e=some wd) :
  ∃ ρ' d new',St P base ρ ρ' m m' w w/\m.lg.le m'.lg/\n8 ρ m m'/\(∀ b ∈ gs,Hp.get m'.H b=some .frz/\∃ l,ρ' b=some l)/\VV P ρ' w wd bh gs y' d new'/\(sure=true->d≠[]):=by
 unfold A2C at p;split at p
 .cases p;cases P4 O;refine⟨ρ,[],[],St.refl h,.refl _,.refl,fun b E=>(by cases E),⟨fun _=>rfl,fun _ _=>rfl,by simp,rfl,fun R _=>.nil,fun c g rows B=>?_⟩,fun h=>by cases h⟩;show evU (.snoc wd) [Ora.env c]=_;rw[B];show(if wd=wd/\wd≠0 then(match i7 wd (([]:List U).length / wd) []with|some r=>sN g wd rows r|none=>.none)else .none)=_;rw[A9 ⟨rfl,A2⟩,Y2,Nat.zero_div];rfl
 .rename_i a n c;split at p
  .rename_i cs ts hr S;split at p
   .rename_i xs aw m2 Z;cases p;have V:eR m wd (.slice (some a) n c)=some (n,cs):=by simp only[eR,hr]
    obtain⟨f1,new',f2,f3⟩:=uW h V O;obtain⟨ρ2,I,M,Q,A,e5,J⟩:=iO L h Z hf f2 hS;have X:ts.length=wd:=by have:=iR S;rw[T]at this;exact(A8 this).symm
    have D:(xs.map (D5 Ora.env)).length=n*wd:=by
     have:=F3 List.length e5;rw[E8,xQ,X]at this;exact this
    obtain⟨d,C⟩:=oY (wd:=wd) n (xs.map (D5 Ora.env)) D;obtain⟨g1,g2,g3,g4⟩:=nU C;refine⟨ρ2,d,new',I,M,Q,A,⟨fun q=>by rw[g1];exact f1 q,fun q G=>by rw[g1];exact f3 q G,?_,?_,fun R hR=>oD (J R hR) C,fun c g rows B=>?_⟩,fun hs=>?_⟩
    .have:=(J (fun k=>w.heap[k]?) (fun b E l W k o Y=>by
      obtain⟨K,_⟩:=A b E;exact(I.hr.atl W K).1.2 k o Y)).1
     rw[<- this,D,g1]
    .exact DG (J (fun k=>w.heap[k]?) (fun b E l W k o Y=>by
      obtain⟨K,_⟩:=A b E;exact(I.hr.atl W K).1.2 k o Y))
    .show evU (.snoc wd) (Ora.env c::xs.map (D5 Ora.env))=_;rw[B];show(if wd=wd/\wd≠0 then(match i7 wd ((xs.map (D5 Ora.env)).length / wd) (xs.map (D5 Ora.env))with|some r=>sN g wd rows r|none=>.none)else .none)=_;rw[A9 ⟨rfl,A2⟩,D,r9 _ az,C]
    .have:0<n:=A1 hs;intro he;subst he;simp at g1;omega
   .cases p
  .cases p
 .split at p
  .rename_i x b m2 Z;cases p;obtain⟨ρ2,l,I,M,Q,A,e5,J,e7⟩:=L.ok h Z hf O hS;obtain⟨ax,f,d,K,q2⟩:=gB A e5 A2;have ay:f=wd:=A2;subst ay;have hG:=(I.hr.atl M Q).1.2;rw[K]at A;have N:∀ c g rows,Ora.env c=.seq g f rows->evU (dN f (hole c (10+f)) (.rows x)).1 ((dN f (hole c (10+f)) (.rows x)).2.map (D5 Ora.env))=sN g f rows d:=fun c g rows B=>by
    show evU (.cat f) [Ora.env c,D5 Ora.env x]=_;rw[B,K];simp[evU]
   have t:∀ b' ∈ [b],Hp.get m'.H b'=some .frz/\∃ l,ρ2 b'=some l:=fun b' F=>by
    rcases B5.1 F with rfl|F
    .exact⟨Q,l,M⟩
    .cases F
   rcases v6 A with⟨rfl,rfl,rfl⟩|⟨rfl,a,c,rfl,B⟩
   .exact⟨ρ2,[],[],I,J,e7,t,⟨fun _=>rfl,fun _ _=>rfl,by simp,rfl,fun R _=>.nil,N⟩,fun h=>by cases h⟩
   .obtain⟨_,new',g1,g2,g3,g4⟩:=tV (w:=w) A hG;refine⟨ρ2,d,new',I,J,e7,t,⟨fun _=>rfl,fun q G=>?_,g1,g2,fun R hR=>g3.mono (hR b (.head _) l M),N⟩,fun h=>by cases h⟩;rw[show Builtin.firstCells f d.length (.slice (some a) d.length c)=loadCells a (d.length*f)from rfl];exact lT g1 fun j v' hj=>by rw[bX G];exact g4 j v' hj
  .cases p
 .obtain⟨h1,p⟩:=A3 p;obtain⟨h2,h3⟩:=B6 h1;have h4:=A0 h2;have h5:=A0 h3;cases p;subst h5;obtain⟨s,rfl,f1⟩:=o7 O h4;refine⟨ρ,jV s,P2 s,St.refl h,.refl _,.refl,fun b E=>(by cases E),⟨fun _=>?_,fun q _=>?_,by simp[jV,P2],?_,fun R _=>IU s,fun c g rows B=>?_⟩,fun h=>by cases h⟩
  .rw[hY];rfl
  .rw[hY];have e:((ByteArray.extract ⟨⟨s⟩⟩ 0 s.length).data.map fun b=>Value.int .u8 b.toNat)=⟨P2 s⟩:=by
    rw[gO];apply J1;simp[P2]
   show(pure ((ByteArray.extract ⟨⟨s⟩⟩ 0 s.length).data.map fun b=>Value.int .u8 b.toNat):Sem V8).run P q=_;rw[e];rfl
  .refine D4.2 fun v hv=>?_
   unfold P2 at hv;obtain⟨b,_,rfl⟩:=I7.1 hv;rfl
  .show evU .cats [Ora.env c,D5 Ora.env y]=_;rw[B,f1];simp[evU]
end
end
section
open Go
variable [Ora]
section
variable {P:Program} {base:Nat} {ρ ρ':Ren} {m m':Mem} {w w':World}
def Sub.trans{A B C:Nat->Option Obj}(h:Sub A B)(k:Sub B C):Sub A C:=fun q o b=>k q o (h q o b)
structure A2a (P:Program) (base:Nat) (ρ:Ren) (m:Mem) (w:World) (e:TypeId) (wd c:Nat) (gs:List Nat) (old:Option Nat) (x':Value):Prop where
 ex:∃ nul rows,Ora.env c=.seq nul wd rows/\((nul=true/\rows=[]/\x'=.slice none 0 0/\(∀ b,old=some b->∃ ab l,b<=H7/\Hp.get m.H b=some ab/\ab.rw=true/\ρ b=some l/\l.on=false)) ∨
  (nul=false/\∃ b ab l cap C fz,old=some b/\b<=H7/\Hp.get m.H b=some ab/\ab.rw=true/\ρ b=some l/\l.on=true/\x'=.slice (some ⟨l.blk,l.sh,none⟩) rows.length cap/\w.heap[l.blk]? = some (.cells C e fz) /\
    rows.length<=cap/\l.sh+cap*wd<=C.size/\(∀ i,i<C.size->¬ (fz.1<=i/\i<fz.2))/\∀ R,(∀ b ∈ gs,∀ l,ρ b=some l->Sub l.G R)->O7 R rows wd C l.sh))
def MF{td:Td}(aw:AJ P td){e:TypeId}{wd c:Nat}{x x':Value}{gs:H4}{old:Option Nat}(h:HR P base ρ m.H w)(d:DY td P m e wd x=some (c,gs,old,m'))(hf:K2 ρ m.n m'.hi)(hx:VR ρ x x')(hS:Sat m'.lg)(au:0<wd)(k:H1 P e=some wd) :
  ∃ ρ',St P base ρ ρ' m m' w w/\m.lg.le m'.lg/\n8 ρ m m'/\A2a P base ρ' m' w e wd c gs old x':=by
 unfold DY at d;split at d
 .rw[N6]at d;simp only[hole]at d;cases d;cases P4 hx;obtain⟨t,e2,_⟩:=kC hS (.refl _);refine⟨ρ,St.wLg h _,V6,n8.lg _,⟨true,[],t,.inl ⟨rfl,rfl,rfl,fun b hb=>by cases hb⟩⟩⟩
 .rename_i b i tg;split at d
  .rename_i c0 tc T g S;obtain⟨h1,d⟩:=A3 d;obtain⟨h1,Q⟩:=B6 h1;obtain⟨h1,h3⟩:=B6 h1;obtain⟨Q,y⟩:=B6 Q;have h1:=A0 h1;have h3:=A0 h3;have Q:=A0 Q;have y:=A1 y;cases d;subst Q;obtain⟨V,bx⟩:=fW hx;rcases V with⟨l,ah,g1,g2,g3,rfl⟩|⟨l,ah,ay,g1,g2,g3,g4,bu,rfl⟩
   .obtain⟨N,inf,t,e2,e3,f⟩:=SqR.ex (h.atl g1 S).1;rcases f with⟨_,f⟩|⟨f,_⟩
    .have:N=wd:=A2;subst this;refine⟨ρ,St.refl h,.refl _,.refl,⟨true,[],f,.inl ⟨rfl,rfl,rfl,fun b' al=>?_⟩⟩⟩;cases al;exact⟨_,l,y,S,rfl,g1,g2⟩
    .rw[g2]at f;cases f
   .obtain⟨N,inf,t,e2,e3,f⟩:=SqR.ex (h.atl g1 S).1;rcases f with⟨f,_⟩|⟨_,f⟩
    .rw[g2]at f;cases f
    .obtain⟨C,fz,T',rows,lg,f1,f2,f3,f4,f5,f6,f7,f8,f9⟩:=f;have:N=wd:=A2;subst this;obtain⟨rfl,f10⟩:=f9 rfl;exact⟨ρ,St.refl h,.refl _,.refl,⟨false,rows,f2,.inr ⟨rfl,b,_,l,l.cap,C,fz,rfl,y,S,rfl,g1,g2,by rw[f3],f1,A2,f5,f10,fun R hR=>⟨f6,fun r row j u v q1 q2 q3=>(f8 r row j u v q1 q2 q3).mono (hR g (.head _) lg f7)⟩⟩⟩⟩
  .cases d
 .rename_i b n c0;split at d
  .rename_i cs T0 bw ts S az;obtain⟨hq,p⟩:=A3 d;obtain⟨ak,ai⟩:=B6 hq;have h1:=A0 ak;clear d;split at p
   .rename_i xs bt m1 hd;split at p
    .rename_i bs T Z;obtain⟨O,L⟩:=A3 p;clear p;obtain⟨O,y⟩:=B6 O;have h3:=A0 O;have y:=A1 y;subst h3;rw[N6]at L;simp only[hole]at L;cases L;have af:K2 ρ m.n m1.hi:=by simpa using hf
     have ag:Sat m1.lg:=R6.le hS V6;obtain⟨l,cap,q,bz,aa,aq⟩:∃ l cap,ρ b=some l/\n<=cap/\(cap=n∨cap=l.cap)/\x'=.slice (some ⟨l.blk,0+l.sh,none⟩) n cap:=by
      rcases(J0 _ _).mp ai with B|B
      .obtain⟨F,M⟩:=B6 B;have F:=A0 F;have M:c0<M9:=A1 M;rcases P0 hx with⟨l,q,_,K,rfl⟩|⟨l,c',q,_,ae,W,Y,rfl⟩|⟨a',c',_,_,B,_⟩
       .exact⟨l,c0,q,A2,.inl F,rfl⟩
       .omega
       .omega
      .have B:=A0 B;rcases P0 hx with⟨l,q,_,K,rfl⟩|⟨l,c',q,_,ae,W,Y,rfl⟩|⟨a',c',_,_,M,_⟩
       .omega
       .exact⟨l,c',q,W,.inr (Y B rfl),rfl⟩
       .omega
     obtain⟨⟨aj,C,fz,T1,f1,f2,_⟩,_⟩:=h.atl q S;obtain⟨cs',f4,f5⟩:=eB (ρ:=ρ) (C:=C) (cs:=cs) (s:=l.sh) f2;obtain⟨ax,t,e2,e3,f,e5,e6⟩:=iO aw h hd af f4 ag;obtain⟨⟨_,C1,br,T2,g1,g2,g3⟩,_⟩:=t.hr.atl (t.ext _ _ q) Z;rw[f1]at g1;cases g1;obtain⟨rfl,g4,g5⟩:=g3 rfl;have E:=iR az;rw[k]at E;have K:ts.length=wd:=(A8 E).symm;have X:(xs.map (D5 Ora.env)).length=n*wd:=by
      have:=F3 List.length e5;rw[E8,xQ,K]at this;exact this
     obtain⟨rows,J⟩:=oY (wd:=wd) n (xs.map (D5 Ora.env)) X;obtain⟨q1,q2,q3,q4⟩:=nU J;obtain⟨d1,d2,_⟩:=kC hS (.refl _);have B:Ora.env m1.lg.nx=.seq false wd rows:=by
      rw[d1];show(if wd=0 then U.none else match i7 wd ((xs.map (D5 Ora.env)).length / wd) (xs.map (D5 Ora.env))with|some r=>.seq false wd r|none=>.none)=_;rw[A7 A2,X,r9 _ au,J]
     have ad:cs'.length=n*wd:=by rw[<- f4.1];exact h1
     obtain⟨inf,A,D⟩:∃ inf,P.info? T1=some inf/\inf.size=wd:=by
      unfold H1 at k;cases hi:P.info? T1 with
      | none=>rw[hi]at k;cases k
      | some inf=>rw[hi]at k;exact⟨inf,rfl,A8 k⟩
     have G:l.sh+cap*wd<=C.size:=by
      rcases aa with rfl|rfl
      .rcases S6 (cap*wd)with h0|h0
       .rw[h0]
        have:=g5 inf A;rw[D]at this;omega
       .have I:cap*wd-1<cs'.length:=A2
        have:=f5 (cap*wd-1) cs'[cap*wd-1] (A5 I)
        have:=(C7.1 this).1;omega
      .have:=g5 inf A;rw[D]at this;exact this.1
     have ao:=St.wLg t.hr (fN m1 (10+wd) (.mk wd) xs);refine⟨ax,St.trans (by simpa using hf) t ao,e2.trans V6,fun j lj hj av=>by rw[kU];exact e3 j lj hj av,⟨false,rows,B,.inr ⟨rfl,b,_,l,cap,C,fz,rfl,y,by rw[kU];exact Z,rfl,t.ext _ _ q,aj,by rw[aq,q1,F4],f1,A2,G,g4,fun R hR=>?_⟩⟩⟩;obtain⟨r1,r2⟩:=oD (e6 R hR) J;refine⟨r1,fun r row j u v a1 a2 a3=>r2 r row j u v a1 a2 ?_⟩;have hq:r*wd+j<cs'.length:=by
      have ar:=(B0.1 a1).1;have an:=(B0.1 a2).1;rw[r1 _ (C8 a1)]at an;have Q:(r+1)*wd<=rows.length*wd:=F7 wd ar;rw[H6]at Q;rw[ad,<- q1];omega
     have:=f5 (r*wd+j) cs'[r*wd+j] (A5 hq);rw[show l.sh+r*wd+j=l.sh+(r*wd+j) by omega,this]at a3;have a3:=A8 a3;show(Array.mk cs')[0+r*wd+j]? = some v;rw[I9,show 0+r*wd+j=r*wd+j by omega,A5 hq,a3]
    .cases p
   .cases p
  .cases d
 .cases d
end
end
end Go.Sx
