import Derived.Test.YtbbicpheoakeeaaGreatDoorX2
set_option linter.all false
set_option maxRecDepth 100000
set_option maxHeartbeats 4000000
namespace Go.Sx
variable {op:LOp}{s ty:TypeId}{hi i j o tg:Nat}{i' z z':Value}{u:U}{kh kk kl:IntKind}{hi' lo lo' mx mx':R3}{hs r' vs vs' xs:D3}{tys:List TypeId}{a:Addr}{m1:Mem}{row us:List U}{ts:H5}{cl sure:Bool}
section
open Go
variable [Ora]
section
variable {P:Program} {base:Nat} {ρ:Ren} {m m':Mem} {w:World}
def pk(k:IntKind)(n:Int):I8 (.int k n)=true:=rfl
def XX{op:UnOp}{x x' v:Value}(h:JE m op x=some (v,m'))(hx:VR ρ x x')(g:Sat m'.lg)(w:World):∃ r,(Op.unary op x').run P w=.ok r w/\VR ρ v r:=by
 unfold JE at h;simp only at h;split at h
 .obtain⟨h1,h⟩:=A3 h;obtain⟨b,rfl,e⟩:=hY hx (A0 h1);obtain⟨u,c,l,r,d,f,_⟩:=N2 h g;simp only[C3,F8,e,evU,ev1,unM,ofV]at c;subst c;cases d;exact⟨_,(NV (P:=P) (ρ:=ρ) (op:=.not) (x:=.bool b) (v:=.bool !b) rfl (.pure rfl) w).1,f ρ⟩
 .obtain⟨h1,h⟩:=A3 h;obtain⟨k,n,rfl,e,_⟩:=N4 hx (A1 h1);obtain⟨u,c,l,r,d,f,p⟩:=N2 h g;simp only[C3,F8,e,evU,ev1]at c;subst c;obtain⟨r',g1,g2⟩:=GI (by rw[l];exact p);rw[d]at g2;cases g2;exact⟨_,(NV (P:=P) (ρ:=ρ) g1 (.pure (pk k n)) w).1,f ρ⟩
def OC{t:TypeId}{x x' v:Value}(h:qN P m s t x=some (v,m'))(hx:VR ρ x x')(f:Sat m'.lg)(w:World):∃ r,(convert s t x').run P w=.ok r w/\VR ρ v r:=by
 unfold qN at h;split at h
 .rename_i j k hs c;obtain⟨h1,h⟩:=A3 h;obtain⟨p,n,rfl,e,_⟩:=N4 hx (A1 h1);obtain⟨u,d,y,r,g,l,q⟩:=N2 h f;simp only[C3,F8,e,evU]at d;subst d;cases g;exact⟨_,by simp[convert,A4,D2 hs,D2 c,Result.andThen,Conv.intToInt],l ρ⟩
 .rename_i hs c;obtain⟨h1,h⟩:=A3 h;cases h;obtain⟨b,rfl,e⟩:=o7 hx (A0 h1);exact⟨_,by simp[convert,A4,D2 hs,D2 c,Result.andThen],hx⟩
 .cases h
def iW{t:Nat}:∀ {cs:D3},l7 t cs=true->∀ {i:Nat} {v:Value},cs[i]? = some v->G8 v=t
 | [],_,i,v,h=>by simp at h
 | c::r,hs,i,v,h=>by
   obtain⟨h1,b⟩:=B7 (show(Nat.beq (G8 c) t && l7 t r)=true from hs);cases i with
   | zero=>simp at h;subst h;exact A0 h1
   | succ i=>exact iW b (by simpa using h)
def YT{t e:TypeId}{n:Nat}{cs:X1}{x' i v:Value}(hu:P.underlying t=some (.array n e))(A:aW P e=some false)(f:H4 P e=some 1)(D:cs.toList.length=n)(g:l7 tg cs.toList=true)(x:tg<10)
  (l:G8 i<8) (h:U5 m tg .sel (i::cs.toList)=some (v,m')) (hx:VR ρ (.agg cs) x') (hi:VR ρ i i') (B:Sat m'.lg) (w:World):∃ r,(Instr.index t x' i').run P w=.ok r w/\VR ρ v r:=by
 obtain⟨k,z,rfl,e,_⟩:=N4 hi l;obtain⟨u,c,F,r,d,C,E⟩:=N2 h B;simp only[C3,e]at c;cases z with
 | negSucc z=>simp only[evU]at c;subst c;cases d
 | ofNat z =>
   simp only[evU]at c;by_cases p:z<cs.toList.length
   .have b:cs.toList[z]? = some cs.toList[z]:=A5 p;have q:=iW g b;have hm:mC P t (.agg cs) (.int k (.ofNat z))=some cs.toList[z]:=by
     have y:Nat.blt z n=true:=C7 A2;simp only[mC,hu,f,y,E6,rV,A,Nat.mul_one];exact b
    obtain⟨v',g1,g2⟩:=tY (P:=P) hm hx (.pure rfl) w;obtain⟨f1,_⟩:=aJ g2 A2;have:u=E0 Ora.env cs.toList[z]:=by
     rw[<- c,B0,F9,b];rfl
    rw[this,f1]at d;cases d;exact⟨_,g1,C ρ⟩
   .rw[B0,U2 (by simp at p ⊢;omega)]at c;subst c;cases d
def CX{e:TypeId}(h:Nat.beq (l6.sizeD P e) 1=true):H4 P e=some 1:=by
 have h:=A0 h;unfold l6.sizeD at h;split at h
 .rename_i n b;rw[b,h]
 .cases h
def JH{t:TypeId}{x x' i v:Value}(h:l6 P m t x i=some (v,m'))(hx:VR ρ x x')(hi:VR ρ i i')(f:Sat m'.lg)(w:World):∃ r,(Instr.index t x' i').run P w=.ok r w/\VR ρ v r:=by
 unfold l6 at h;cases g:!(Nat.blt (G8 i) 8)with
 | true=>rw[g]at h;cases h
 | false =>
   have d:G8 i<8:=by
    have:Nat.blt (G8 i) 8=true:=by simpa using g
    exact A1 this
   rw[g]at h;simp only[E3]at h;split at h
   .rename_i hu;obtain⟨h1,h⟩:=A3 h;obtain⟨s,rfl,f1⟩:=o7 hx (A0 h1);obtain⟨k,z,rfl,f2,_⟩:=N4 hi d;obtain⟨u,c,B,r,p,y,A⟩:=N2 h f;simp only[C3,F8,f1,f2]at c;cases z with
    | negSucc z=>simp only[evU]at c;subst c;cases p
    | ofNat z =>
      simp only[evU]at c;split at c
      .rename_i b q;subst c;cases p;have hm:mC P t (.string ⟨⟨s⟩⟩) (.int k (.ofNat z))=some (.int .u8 b.toNat):=by
        simp only[mC,hu,q]
       obtain⟨v',g1,g2⟩:=tY (P:=P) (ρ:=ρ) hm (.pure rfl) (.pure rfl) w;cases J6 g2;exact⟨_,g1,y ρ⟩
      .subst c;cases p
   .rename_i n e hu;split at h
    .rename_i cs k he;obtain⟨h1,h⟩:=A3 h;obtain⟨h1,h3⟩:=B7 h1;obtain⟨h1,l⟩:=B7 h1;exact YT hu (by simp[aW,he]) (CX h3) (A0 h1) l (by have:=M3 k;omega) d h hx hi f w
    .rename_i cs he;obtain⟨h1,h⟩:=A3 h;obtain⟨h1,h3⟩:=B7 h1;obtain⟨h1,l⟩:=B7 h1;exact YT hu (by simp[aW,he]) (CX h3) (A0 h1) l A2 d h hx hi f w
    .cases h
   .cases h
def OF{t:TypeId}(hu:P.underlying t=some .string){s:List UInt8}{l h:Int}{r:Value}(b:JK s l h=u)(c:toV u=some r):dH P t (.string ⟨⟨s⟩⟩) (some (.int kl l)) (some (.int kh h)) none=some r:=by
 unfold JK at b;split at b
 .rename_i l h;split at b
  .rename_i hh;subst b;cases c;have d:Nat.ble h (ByteArray.size ⟨⟨s⟩⟩)=true:=C7 hh.2;have e:Nat.ble l h=true:=C7 hh.1;simp only[dH,hu,U6,d,e,E6]
  .subst b;cases c
 .subst b;cases c
def JF{t:TypeId}{x x' v:Value}{hi:R3}(h:lF P m t x lo hi mx=some (v,m'))(hx:VR ρ x x')(g:OR ρ lo lo')(f:OR ρ hi hi')(E:OR ρ mx mx')(F:Sat m'.lg)(w:World) :
  ∃ r,(Instr.sliceAt t x' lo' hi' mx').run P w=.ok r w/\VR ρ v r:=by
 have c:∀ {o:R3},OR ρ none o->o=none:=fun{o} h=>by cases o<;>first|rfl|exact h.elim
 have d:∀ {y:Value} {o:R3},OR ρ (some y) o->∃ I,o=some I/\VR ρ y I:=fun{y o} h=>by cases o<;>first|exact h.elim|exact⟨_,rfl,h⟩
 unfold lF at h;split at h
 .rename_i hu;cases c E;obtain⟨h1,h⟩:=A3 h;obtain⟨s,rfl,f1⟩:=o7 hx (A0 h1);have B:∀ {y:Value},VR ρ (.string ⟨⟨s⟩⟩) y->y=.string ⟨⟨s⟩⟩:=fun h=>V1 h
  split at h
  .cases h;cases c g;cases c f;have hm:dH P t (.string ⟨⟨s⟩⟩) none none none=some (.string ⟨⟨s⟩⟩):=by
    have e:ByteArray.size ⟨⟨s⟩⟩=s.length:=rfl;simp[dH,hu,U6,e]
   obtain⟨v',g1,g2⟩:=hZ (P:=P) (ρ:=ρ) (lo':=none) (hi':=none) (mx':=none) hm (.pure rfl) trivial trivial trivial w;cases V1 g2;exact⟨_,g1,hx⟩
  .obtain⟨q,h⟩:=A3 h;obtain⟨l',rfl,C⟩:=d g;cases c f;obtain⟨k,z,rfl,f2,_⟩:=N4 C (A1 q);obtain⟨u,l,G,r,n,A,H⟩:=N2 h F;simp only[C3,F8,f1,f2,evU]at l;have hm:=OF (P:=P) (kl:=k) (kh:=.i64) hu l n;have p:dH P t (.string ⟨⟨s⟩⟩) (some (.int k z)) none none=some r:=by
    rw[<- hm];have e:ByteArray.size ⟨⟨s⟩⟩=s.length:=rfl;have b:Nat.ble s.length s.length=true:=C7 (A6 _);have D:((s.length:Nat):Int)=Int.ofNat s.length:=rfl;simp only[dH,hu,U6,e,D,b,E6]
   obtain⟨v',g1,g2⟩:=hZ (P:=P) (ρ:=ρ) (lo':=some (.int k z)) (hi':=none) (mx':=none) p (.pure rfl) (VR.pure rfl:VR ρ _ _) trivial trivial w;have:VR ρ r v':=g2;have hp:=hO n;cases g2 with
   | pure _=>exact⟨_,g1,A ρ⟩
   | _=>simp[I8,ixp,Go.Sx.dat,Go.Sx.clp,Go.Sx.own,Go.Sx.dpt,Go.Sx.opt,Go.Sx.yv,Go.Sx.sdt]at hp
  .obtain⟨q,h⟩:=A3 h;obtain⟨K,rfl,hh⟩:=d f;cases c g;obtain⟨k,z,rfl,f2,_⟩:=N4 hh (A1 q);obtain⟨u,l,G,r,n,A,H⟩:=N2 h F;have f0:E0 Ora.env (.int .i64 0)=.int .i64 0:=rfl;simp only[C3,F8,f1,f2,f0,evU]at l;have hm:=OF (P:=P) (kl:=.i64) (kh:=k) hu l n;have p:dH P t (.string ⟨⟨s⟩⟩) none (some (.int k z)) none=some r:=by
    rw[<- hm];have D:(0:Int)=Int.ofNat 0:=rfl;cases z with
    | negSucc z=>simp only[dH,hu,U6]
    | ofNat z =>
      have J:Nat.ble 0 z=true:=C7 (mW _);simp only[dH,hu,U6,D];cases Nat.ble z (ByteArray.size ⟨⟨s⟩⟩)<;>simp[J]
   obtain⟨v',g1,g2⟩:=hZ (P:=P) (ρ:=ρ) (lo':=none) (hi':=some (.int k z)) (mx':=none) p (.pure rfl) trivial (VR.pure rfl:VR ρ _ _) trivial w;have hp:=hO n;cases g2 with
   | pure _=>exact⟨_,g1,A ρ⟩
   | _=>simp[I8,ixp,Go.Sx.dat,Go.Sx.clp,Go.Sx.own,Go.Sx.dpt,Go.Sx.opt,Go.Sx.yv,Go.Sx.sdt]at hp
  .obtain⟨q,h⟩:=A3 h;obtain⟨q,h3⟩:=B7 q;obtain⟨K,rfl,hh⟩:=d f;obtain⟨l',rfl,C⟩:=d g;obtain⟨k,z,rfl,f2,_⟩:=N4 C (A1 q);obtain⟨j,y,rfl,f3,_⟩:=N4 hh (A1 h3);obtain⟨u,l,G,r,n,A,H⟩:=N2 h F;simp only[C3,F8,f1,f2,f3,evU]at l;have hm:=OF (P:=P) (kl:=k) (kh:=j) hu l n;obtain⟨v',g1,g2⟩:=hZ (P:=P) (ρ:=ρ) (lo':=some (.int k z)) (hi':=some (.int j y)) (mx':=none) hm (.pure rfl) (VR.pure rfl:VR ρ _ _) (VR.pure rfl:VR ρ _ _) trivial w;have hp:=hO n;cases g2 with
   | pure _=>exact⟨_,g1,A ρ⟩
   | _=>simp[I8,ixp,Go.Sx.dat,Go.Sx.clp,Go.Sx.own,Go.Sx.dpt,Go.Sx.opt,Go.Sx.yv,Go.Sx.sdt]at hp
 .cases h
def BX{b:Builtin}{ks:Array Bool}{v:Value}(hr:HR P base ρ m.H w)(h:eQ P m b vs tys=some (v,m'))(hx:LR ρ vs vs')(q:Sat m'.lg) :
  ∃ s:Sem Value,builtin b ⟨tys⟩ ty ks ⟨vs'⟩=(do pure (.value (<- s)))/\∃ r,s.run P w=.ok r w/\VR ρ v r:=by
 unfold eQ at h;split at h
 .obtain⟨x',r1,rfl,h1,g⟩:=hx.tail;cases g.nil_inv;split at h
  .rename_i hu;obtain⟨h3,h⟩:=A3 h;obtain⟨s,rfl,f1⟩:=o7 h1 (A0 h3);obtain⟨u,e,y,r,l,n,x⟩:=N2 h q;simp only[C3,F8,f1,evU]at e;subst e;cases l;rename_i t rest _ _;have hm:A1N P m t (.string ⟨⟨s⟩⟩)=some (.int .i64 s.length):=by simp[A1N,hu]
   obtain⟨g1,_⟩:=SZ (ρ:=ρ) (ty:=ty) (tys:=rest) hr hm (.pure rfl);exact⟨_,rfl,_,g1,n ρ⟩
  .cases h
 .obtain⟨x',r1,rfl,h1,g⟩:=hx.tail;obtain⟨C,B,rfl,h3,p⟩:=g.tail;cases p.nil_inv;obtain⟨d,h⟩:=A3 h;obtain⟨d,f⟩:=B7 d;have d:=A1 d;have f:=A0 f;obtain⟨k,a,rfl,f1,A⟩:=N4 h1 d;obtain⟨j,c,rfl,f2,D⟩:=N4 h3 (f▸d);obtain⟨u,e,y,r,l,n,x⟩:=N2 h q;simp only[C3,F8,f1,f2,evU]at e;subst e;cases l;obtain⟨g1,_⟩:=ST (P:=P) (ρ:=ρ) (ty:=ty) (tys:=⟨tys⟩) (vs:=[.int k a,.int j c]) rfl (.cons (.pure rfl) (.cons (.pure rfl) .nil)) w;exact⟨_,rfl,_,g1,n ρ⟩
 .obtain⟨x',r1,rfl,h1,g⟩:=hx.tail;obtain⟨C,B,rfl,h3,p⟩:=g.tail;cases p.nil_inv;obtain⟨d,h⟩:=A3 h;obtain⟨d,f⟩:=B7 d;have d:=A1 d;have f:=A0 f;obtain⟨k,a,rfl,f1,A⟩:=N4 h1 d;obtain⟨j,c,rfl,f2,D⟩:=N4 h3 (f▸d);obtain⟨u,e,y,r,l,n,x⟩:=N2 h q;simp only[C3,F8,f1,f2,evU]at e;subst e;cases l;obtain⟨g1,_⟩:=SR (P:=P) (ρ:=ρ) (ty:=ty) (tys:=⟨tys⟩) (vs:=[.int k a,.int j c]) rfl (.cons (.pure rfl) (.cons (.pure rfl) .nil)) w;exact⟨_,rfl,_,g1,n ρ⟩
 .cases h
def US{v:Value}{k:IntKind}{n:Int}(h:E0 Ora.env v=.int k n):pV Ora.env v=some n:=by
 cases v with
 | complex k i t =>
   cases k with
   | f64 =>
     have h:Ora.env i=.int _ n:=h;simp only[pV,h]
   | f32=>cases h
 | int j n=>cases h;rfl
 | _=>cases h
def IF{v:Value}{n:Int}(h:pV Ora.env v=some n):∃ k,E0 Ora.env v=.int k n:=by
 cases v with
 | complex k i t =>
   cases k with
   | f64 =>
     simp only[pV]at h;split at h
     .rename_i k z he;cases h;exact⟨k,he⟩
     .cases h
   | f32=>cases h
 | int j n=>cases h;exact⟨j,rfl⟩
 | _=>cases h
def TL{s n:Nat}{i v:Value}(h:WL m a s n i=some (v,m'))(hi:VR ρ i i')(p:Sat m'.lg):v=ixp a s i n/\∃ k z,i'=.int k (.ofNat z)/\z<n/\pV Ora.env i=some (.ofNat z):=by
 unfold WL at h;cases e:!(Nat.blt (G8 i) 8)with
 | true=>rw[e]at h;cases h
 | false =>
   have d:G8 i<8:=by
    have:Nat.blt (G8 i) 8=true:=by simpa using e
    exact A1 this
   rw[e]at h;simp only[E3]at h;split at h
   .rename_i b H k W hh lg t;split at h
    .rename_i y l;cases h;obtain⟨u,g,A,r,c,x,_⟩:=N2 t (S4.le p (fI l));have f:=mO (ρ:=ρ) l (x ρ) p;subst f;obtain⟨q,z,rfl,f1,_⟩:=N4 hi d;have f0:E0 Ora.env (.int .i64 (.ofNat n))=.int .i64 (.ofNat n):=rfl;simp only[C3,F8,f1,f0,evU]at g;subst g;have c:(decide (0<=z) && decide (z<Int.ofNat n))=true:=by
      have:=A8 c;exact Value.bool.inj this
     simp only[G9,decide_eq_true_eq]at c;cases z with
     | negSucc z=>exact absurd c.1 (by simp)
     | ofNat z=>exact⟨rfl,q,z,rfl,by have:=c.2;simpa using this,US f1⟩
    .cases h
   .cases h
def BT{t:TypeId}{x x' i v:Value}(h:eO P m t x i=some (v,m'))(hx:VR ρ x x')(hi:VR ρ i i')(q:Sat m'.lg)(w:World):∃ r,(Instr.indexAt t x' i').run P w=.ok r w/\VR ρ v r:=by
 unfold eO at h;split at h
 .rename_i n e a hu;split at h
  .rename_i s hs d;obtain⟨rfl,k,z,rfl,f,he⟩:=TL h hi q;obtain⟨l,p,_,rfl⟩:=P5 hx;have g:Nat.blt z n=true:=C7 f;have hm:Y4 P t (.pointer (some a)) (.int k (.ofNat z))=some (.pointer (some ⟨a.block,a.off+z*s,none⟩)):=by
    simp only[Y4,hu,hs,d,g,E6,bY,F0]
   obtain⟨v',g1,g2⟩:=cX (P:=P) hm hx (.pure rfl) w;obtain⟨l2,b,_,rfl⟩:=P5 g2;have b:ρ a.block=some l2:=b;rw[p]at b;cases b;exact⟨_,g1,.ixp p d he f rfl⟩
  .cases h
 .rename_i e a n c hu;split at h
  .rename_i s hs d;cases y:Nat.beq c (N6+2)with
   | true=>rw[y]at h;cases h
   | false =>
     rw[y]at h;obtain⟨rfl,k,z,rfl,f,he⟩:=TL h hi q;have g:Nat.blt z n=true:=C7 f;have hm:Y4 P t (.slice (some a) n c) (.int k (.ofNat z))=some (.pointer (some ⟨a.block,a.off+z*s,none⟩)):=by
      simp only[Y4,hu,hs,d,g,E6,bY,F0]
     obtain⟨v',g1,g2⟩:=cX (P:=P) hm hx (.pure rfl) w;obtain⟨l2,b,_,rfl⟩:=P5 g2;have b:ρ a.block=some l2:=b;exact⟨_,g1,.ixp b d he f rfl⟩
  .cases h
 .cases h
def TN{s n:Nat}{i v':Value}(h:VR ρ (ixp a s i n) v'):∃ l z,ρ a.block=some l/\a.spot=none/\pV Ora.env i=some (.ofNat z)/\z<n/\v'=.pointer (some ⟨l.blk,a.off+z*s+l.sh,none⟩):=by
 generalize hx:ixp a s i n=x at h;cases h with
 | ixp h hs hi b hv =>
   simp only[ixp,Value.func.injEq,d7,J8,Value.pointer.injEq,D5,Value.int.injEq,kT,true_and,and_true]at hx;obtain⟨rfl,rfl,rfl,rfl⟩:=hx;exact⟨_,_,h,hs,hi,b,hv⟩
 | pure hp=>subst hx;simp[ixp,I8]at hp
 | _=>simp[ixp,Go.Sx.dat,Go.Sx.clp,Go.Sx.own,Go.Sx.dpt,Go.Sx.opt,Go.Sx.yv,Go.Sx.sdt]at hx
def BV{x x' v:Value}(h:eP P m s x i=some (v,m'))(hx:VR ρ x x')(w:World):∃ r,(Instr.fieldAt s x' i).run P w=.ok r w/\VR ρ v r:=by
 unfold eP at h;split at h
 .rename_i a k j n;split at h
  .rename_i q hu;split at h
   .rename_i f e g;split at h
    .rename_i z c;cases h;obtain⟨l,y,h1,p,h3,d,rfl⟩:=TN (n:=n) (s:=k) (i:=j) hx;have hm:cY P s (.pointer (some ⟨a.block,a.off+y*k,none⟩)) i=some (.pointer (some ⟨a.block,a.off+y*k+f.offset,none⟩)):=by
      simp only[cY,hu,e,c,bY,F0]
     obtain⟨v',g1,g2⟩:=mG (P:=P) (ρ:=ρ) hm (.ptr h1) w;obtain⟨l2,b,_,rfl⟩:=P5 g2;have b:ρ a.block=some l2:=b;rw[h1]at b;cases b;refine⟨_,g1,?_⟩;simp only[bY,F0];refine .ixp (a:=⟨a.block,a.off+f.offset,none⟩) h1 rfl h3 d ?_;simp only[Value.pointer.injEq,D5,Addr.mk.injEq,true_and,and_true];omega
    .cases h
   .cases h
  .cases h
 .cases h
def uS{cs:D3}{s:Nat}:∀ {n o:Nat} {l:D3},xA cs s o n=some l->l.length=n/\∀ z,z<n->cs[o+z*s]? = l[z]?
 | 0,o,l,h=>by cases h;exact⟨rfl,fun z c=>by omega⟩
 | n+1,o,l,h=>by
   unfold xA at h;split at h
   .rename_i v r hv hr;cases h;obtain⟨h1,b⟩:=uS hr;refine⟨by simp[h1],fun z c=>?_⟩;cases z with
    | zero=>simpa using hv
    | succ z =>
      have:=b z A2;rw[Nat.succ_mul,show o+(z*s+s)=o+s+z*s by omega]
      simpa using this
   .cases h
def uU{cs cs':D3}{s n:Nat}{i:Value}{z:Nat}(he:pV Ora.env i=some (.ofNat z))(g:z<n)(x:LR ρ cs cs'):∀ {k o:Nat} {m m':Mem} {r:D3},cS m cs s n i o k=some (r,m')->Sat m'.lg ->
  LR ρ r ((cs'.drop (o+z*s)).take k)/\r.length=k
 | 0,o,m,m',r,h,hS=>by cases h;exact⟨by simpa using LR.nil,rfl⟩
 | k+1,o,m,m',r,h,hS=>by
   unfold cS at h;split at h
   .rename_i v l e;obtain⟨p,h⟩:=A3 h;obtain⟨p,d⟩:=B7 p;have d:G8 v<10:=A1 d;split at h
    .rename_i hh m1 h1;split at h
     .rename_i I m2 y;cases h;obtain⟨q,t⟩:=uU he g x y hS;obtain⟨u,f,H,E,A,D,_⟩:=N2 h1 (S4.le hS (fW y).1);obtain⟨g1,g2⟩:=uS e;have b:=g2 z g;have c:z<(v::l).length:=by rw[g1];exact g
      rw[A5 c]at b;obtain⟨F,f1,f2⟩:=x.get b;have B:=iW p (A5 c);obtain⟨t1,_⟩:=aJ f2 A2;obtain⟨G,C⟩:=IF he;simp only[C3,C,evU]at f;have f:u=E0 Ora.env (v::l)[z]:=by
       rw[<- f];show(List.map (E0 Ora.env) (v::l)).getD z .none=_;rw[B0,F9,A5 c];rfl
      rw[f,t1]at A;cases A;refine⟨?_,by simp[t]⟩;have:(cs'.drop (o+z*s)).take (k+1)=E::(cs'.drop (o+1+z*s)).take k:=by
       rw[i6 (B1.1 f1).1,List.take_succ_cons,(B1.1 f1).2,show o+z*s+1=o+1+z*s by omega]
      rw[this];exact .cons (D ρ) q
     .cases h
    .cases h
   .cases h
def SV{t:TypeId}{l:Loc}{z s n k:Nat}{i:Value}{cs:D3}(h:HR P base ρ m.H w)(hr:u6 m a ((n-1)*s+k)=some cs)(d:ρ a.block=some l)(he:pV Ora.env i=some (.ofNat z))(e:z<n)(g:cS m cs s n i 0 k=some (hs,m'))(f:Sat m'.lg) :
  ∃ rs,LR ρ hs rs/\rs.length=k/\∀ (j:Nat) (v':Value),rs[j]? = some v'->w.cell? ⟨l.blk,a.off+z*s+l.sh+j,none⟩=some v':=by
 obtain⟨r',h1,p,h3⟩:=d8 h hr d;obtain⟨g1,g2⟩:=uU he e h1 g f;rw[F7]at g1;refine⟨_,g1,g1.1▸g2,fun j v' b=>?_⟩;have c:j<k:=by
  have:=(B1.1 b).1;simp at this;omega
 rw[E8 c,I0]at b
 have:=h3 _ v' b;rw[show a.off+z*s+l.sh+j=a.off+l.sh+(z*s+j) by omega];exact this
def OA{t:TypeId}{x x' v:Value}(h:HR P base ρ m.H w)(b:qM P m t x=some (v,m'))(hx:VR ρ x x')(f:Sat m'.lg):∃ r,(Instr.loadAt t x').run P w=.ok r w/\VR ρ v r:=by
 unfold qM at b;split at b
 .rename_i a s i n;obtain⟨l,z,h1,q,h3,e,rfl⟩:=TN (n:=n) (s:=s) (i:=i) hx;split at b
  .rename_i c;split at b
   .rename_i cs hr;split at b
    .rename_i hh m2 d;cases b;obtain⟨rs,g1,g2,g3⟩:=SV (t:=t) h hr h1 h3 e d f;obtain⟨v',A,rfl,g,y⟩:=g1.tail;refine⟨v',?_,g⟩
     have:=g3 0 v' rfl;simp[Instr.loadAt,Instr.sureAddr,loadVar,A4,cL c,Result.andThen,run_load,show w.cell? ⟨l.blk,a.off+z*s+l.sh,none⟩=some v' from by simpa using this]
    .cases b
   .cases b
  .rename_i p c k;split at b
   .rename_i cs hr;split at b
    .rename_i hh m2 d;cases b;obtain⟨rs,g1,g2,g3⟩:=SV (t:=t) h hr h1 h3 e d f;refine⟨.agg ⟨rs⟩,?_,.agg g1.1 g1.2⟩;simp[Instr.loadAt,Instr.sureAddr,loadVar,A4,cL c,L4 k,Result.andThen,K8 g2 g3]
    .cases b
   .cases b
  .cases b
 .cases b
def A3V{fr:Fr}{g:Operand->Value}{o:Oper}{v:Value}(h:HR P base ρ m.H w)(f:XZ P fr m o.op=some (v,m'))(B:FR ρ fr g o.op)(k:Sat m'.lg):NOk P base ρ m w (execOp g o) v m':=by
 obtain⟨_,lg,rfl⟩:=RC f;have q:St P base ρ ρ m (m.wLg lg) w w:=St.wLg h lg;obtain⟨dst,op,ty,pos,J,E⟩:=o;simp only at f B;have d:∀ {x},x ∈ op.operands.toList->VR ρ (ev fr x) (g x):=fun hx=>B _ hx
 have fin:∀ {s:Sem Value},(∃ r,s.run P w=.ok r w/\VR ρ v r)->NOk P base ρ m w (do pure (.value (<- s))) v (m.wLg lg):=fun{s} ⟨r,h1,F⟩=>NOk.of ⟨r,ρ,w,h1,F,q⟩
 unfold XZ at f;split at f
 .rename_i c a b;have C:=d (x:=c) (by simp[Op.operands]);unfold wZ at f;obtain⟨H,n,W,hi,l0⟩:=m;simp only at f;split at f
  .rename_i l1 A;simp only[D5,L9]at f;obtain⟨rfl,f⟩:=f;have p:Sat l1:=by
    have:l1=(Mem.wLg ⟨H,n,W,hi,l0⟩ lg).lg:=by rw[<- f]
    rw[this];exact k
   have:=mO A C p;exact⟨g a,ρ,w,.inl (by simp[execOp,this,asBool]),d (by simp[Op.operands]),q⟩
  .rename_i l1 A;simp only[D5,L9]at f;obtain⟨rfl,f⟩:=f;have p:Sat l1:=by
    have:l1=(Mem.wLg ⟨H,n,W,hi,l0⟩ lg).lg:=by rw[<- f]
    rw[this];exact k
   have:=mO A C p;exact⟨g b,ρ,w,.inl (by simp[execOp,this,asBool]),d (by simp[Op.operands]),q⟩
  .cases f
 .rename_i op t x y K;have hx:=d (x:=x) (by simp[Op.operands]);have l:=d (x:=y) (by simp[Op.operands]);refine fin (s:=do eqGuard op t x y (g x) (g y);binOp op t (g x) (g y)) ?_;split at f
  .rename_i r hr;cases f;exact VA hr hx l k w
  .rename_i hr;exact YA f hx l hr k w
 .rename_i op t x;exact fin (s:=Op.unary op (g x)) (XX f (d (by simp[Op.operands])) k w)
 .exact fin (OC f (d (by simp[Op.operands])) k w)
 .rename_i t x lo hi mx;exact fin (s:=Instr.sliceAt t (g x) (lo.map g) (hi.map g) (mx.map g)) (JF f (d (x:=x) (by simp[Op.operands])) (jJ (g:=g) fun y l=>d (by simp[Op.operands]at l ⊢;exact .inr (.inl l))) (jJ (g:=g) fun y l=>d (by simp[Op.operands]at l ⊢;exact .inr (.inr (.inl l)))) (jJ (g:=g) fun y l=>d (by simp[Op.operands]at l ⊢;exact .inr (.inr (.inr l)))) k w)
 .exact fin (JH f (d (by simp[Op.operands])) (d (by simp[Op.operands])) k w)
 .exact fin (BT f (d (by simp[Op.operands])) (d (by simp[Op.operands])) k w)
 .exact fin (BV f (d (by simp[Op.operands])) w)
 .rename_i t x;exact fin (s:=Instr.loadAt t (g x)) (OA h f (d (by simp[Op.operands])) k)
 .rename_i b xs tys;have l1:=dJ (ρ:=ρ) (fr:=fr) (g:=g) (xs:=xs.toList) fun x hx=>d (by show x ∈ (#[]++xs:Array Operand).toList;simpa using hx)
  obtain⟨ks,G⟩:∃ ks,execOp g ⟨dst,.call ⟨.builtin b,xs,tys⟩,ty,pos,J,E⟩=builtin b tys ty ks (xs.map g):=⟨_,rfl⟩;obtain⟨s,e,hs⟩:=BX (ty:=ty) (ks:=ks) h f l1 k;have D:xs.map g=⟨xs.toList.map g⟩:=by apply J3;simp
  rw[G,D];have I:tys=⟨tys.toList⟩:=rfl;rw[I,e];exact fin hs
 .cases f
end
end
section
open Go
variable [Ora]
section
variable {P:Program} {base:Nat} {ρ ρ':Ren} {m m':Mem} {w w':World}
def K7.step(d:K7 ρ m.n hi)(st:St P base ρ ρ' m m1 w w'):K7 ρ' m1.n hi:=fun b h1 e=>by
 cases c:ρ' b with
 | none=>rfl
 | some l =>
   cases h0:ρ b with
   | some l0=>rw[d b (C6 st.nle h1) e]at h0;cases h0
   | none=>have:=(st.new b l c h0).2;omega
def K7.less{n hi':Nat}(c:K7 ρ n hi)(h:hi'<=hi):K7 ρ n hi':=fun b h1 d=>c b h1 (D6 d h)
def fP(m:Mem)(t:Nat)(op:LOp)(xs:List Value):Lg:=⟨m.lg.nx+1,m.lg.pi,.dt m.lg.nx t op xs::m.lg.log⟩
def O5{t:Nat}{k:Nat->Mem->Res}:wJ m t op xs k=k m.lg.nx (m.wLg (fP m t op xs)):=by
 obtain⟨H,n,W,hi,⟨nx,pi,log⟩⟩:=m;simp only[wJ,F0,I1];rfl
def LG{t:Nat}{k:Nat->Mem->Option (D3×Mem)}:Y6.letDo t op xs m k=k m.lg.nx (m.wLg (fP m t op xs)):=by
 obtain⟨H,n,W,hi,⟨nx,pi,log⟩⟩:=m;simp only[Y6.letDo,F0,I1];rfl
@[simp] theorem i7(lg:Lg):(m.wLg lg).lg=lg:=by cases m;rfl
@[simp] theorem lC(lg:Lg):(m.wLg lg).H=m.H:=by cases m;rfl
@[simp] theorem XJ(lg:Lg):(m.wLg lg).n=m.n:=by cases m;rfl
@[simp] theorem NT(lg:Lg):(m.wLg lg).hi=m.hi:=by cases m;rfl
@[simp] theorem B4Z(lg:Lg):(m.wLg lg).W=m.W:=by cases m;rfl
def W3{t:Nat} :m.lg.le (m.wLg (fP m t op xs)).lg:=by
 rw[i7];exact⟨[_],rfl⟩
def kL{t:Nat}{lg:Lg}(e:Sat lg)(d:(m.wLg (fP m t op xs)).lg.le lg):Ora.env m.lg.nx=evU op (xs.map (E0 Ora.env))/\G4 (Ora.env m.lg.nx)=t/\∃ b wd rows,Ora.env m.lg.nx=.seq b wd rows/\t=10+wd:=by
 obtain⟨h1,c,b,wd,rows,h3⟩:=e _ (d.subset (by rw[i7];exact B5));exact⟨h1,c,b,wd,rows,h3,by rw[<- c,h3];rfl⟩
def dZ{b:Nat}(h:pF m b=true):Hp.get m.H b=some .frz:=by
 unfold pF at h;split at h
 .assumption
 .cases h
def TR{b:Nat}(h:pF m b=true):b<=H8:=by
 unfold pF at h;split at h
 .exact A1 h
 .cases h
def A15{b:Nat}(hr:HR P base ρ m.H w)(h:pF m b=true):∃ l,ρ b=some l:=by
 obtain⟨l,h1,_⟩:=hr.at_ b (TR h) _ (dZ h);exact⟨l,h1⟩
def R5{k:Nat->Mem->Option (Value×Nat×Mem)}{r:Value×Nat×Mem}(h:gT m k=some r):∃ m1,Z9 m .frz (fun _=>undef)=some (undef,m1)/\k m.n m1=some r/\m1.H=m.H.set m.n (some .frz)/\m.n<=H8/\m1.lg=m.lg:=by
 obtain⟨H,n,W,hi,lg⟩:=m;simp only[gT,F0,eT]at h;obtain⟨h1,b⟩:=A3 h;refine⟨_,?_,b,rfl,A1 h1,rfl⟩;simp only[Z9,F0,eT,h1,E6]
def kW(G:Nat->Option Obj):Loc:=⟨0,0,0,0,G,false⟩
def St.region{G:Nat->Option Obj}(h:HR P base ρ m.H w)(g:Z9 m .frz (fun _=>undef)=some (undef,m1))(v:K7 ρ m.n m1.hi)
  (f:∀ k o,G k=some o->w.heap[k]? = some o/\∃ id ab l,id<=H8/\Hp.get m.H id=some ab/\ρ id=some l/\Tf ab l k/\ab.rw=false) :
  upd ρ m.n (kW G) m.n=some (kW G)/\Hp.get m1.H m.n=some .frz/\St P base ρ (upd ρ m.n (kW G)) m m1 w w:=by
 obtain⟨h1,x,h3⟩:=St.new0 (l':=kW G) h g v ⟨rfl,fun k o t=>(f k o t).1⟩ rfl fun q c=>by
  rcases c with⟨c,_⟩|⟨_,o,c⟩
  .cases c
  .obtain⟨g1,id,ab,l,g2,g3,g4,g5,g6⟩:=f q o c;refine⟨⟨id,ab,l,g2,g3,g4,g5⟩,fun y d a l2 b p hr r e=>?_⟩
   have:=((h.atl p b).2 hr r).2 id g2 ab l g3 g4 (e▸g5.2);subst this;rw[g3]at b;have b:=A8 b;subst b;rw[g6]at hr;cases hr
 refine⟨x,?_,h3⟩;obtain⟨hle,_,rfl⟩:=M2 g;show Hp.get (m.H.set m.n (some .frz)) m.n=_;rw[F1 _ _ _ _ hle hle,A9 rfl]
theorem nV{b i t:Nat}{v':Value}(h:VR ρ (dat b i t) v'):∃ l,ρ b=some l/\Enc l.G (Ora.env i) v'/\G4 (Ora.env i)=t/\10<=t:=by
 generalize hx:dat b i t=x at h;cases h with
 | dat h he d c e =>
   simp only[dat,Value.func.injEq,d7,J8,Value.pointer.injEq,D5,Addr.mk.injEq,Value.complex.injEq,true_and,and_true]at hx;obtain⟨rfl,rfl,rfl⟩:=hx;exact⟨_,h,he,d,c⟩
 | pure hp=>subst hx;simp[dat,I8]at hp
 | _=>simp[ixp,Go.Sx.dat,Go.Sx.clp,Go.Sx.own,Go.Sx.dpt,Go.Sx.opt,Go.Sx.yv,Go.Sx.sdt]at hx
theorem gA{b i t:Nat}{v':Value}(h:VR ρ (clp b i t) v'):∃ l,ρ b=some l/\Enc l.G (Ora.env i) v'/\G4 (Ora.env i)=t/\10<=t/\A2k v':=by
 generalize hx:clp b i t=x at h;cases h with
 | clp h he d c f e =>
   simp only[clp,Value.func.injEq,d7,J8,Value.pointer.injEq,D5,Addr.mk.injEq,Value.complex.injEq,true_and,and_true]at hx;obtain⟨rfl,rfl,rfl⟩:=hx;exact⟨_,h,he,d,c,e⟩
 | pure hp=>subst hx;simp[clp,I8]at hp
 | _=>simp[ixp,Go.Sx.dat,Go.Sx.clp,Go.Sx.own,Go.Sx.dpt,Go.Sx.opt,Go.Sx.yv,Go.Sx.sdt]at hx
theorem fZ{b i t:Nat}{v':Value}(h:VR ρ (own b i t) v'):A00 ρ b (Ora.env i) v'/\G4 (Ora.env i)=t:=by
 generalize hx:own b i t=x at h;cases h with
 | own h c d =>
   simp only[own,Value.func.injEq,d7,J8,Value.pointer.injEq,D5,Addr.mk.injEq,Value.complex.injEq,true_and,and_true]at hx;obtain⟨rfl,rfl,rfl⟩:=hx;exact⟨h,c⟩
 | pure hp=>subst hx;simp[own,I8]at hp
 | _=>simp[ixp,Go.Sx.dat,Go.Sx.clp,Go.Sx.own,Go.Sx.dpt,Go.Sx.opt,Go.Sx.yv,Go.Sx.sdt]at hx
def HA{b t:Nat}{v':Value}(h:VR ρ (dpt b i t z o) v'):B1K ρ b (Ora.env i) (pV Ora.env z) o v'/\G4 (Ora.env i)=t:=by
 generalize hx:dpt b i t z o=x at h;cases h with
 | dpt h c d =>
   simp only[dpt,Value.func.injEq,d7,J8,Value.pointer.injEq,D5,Addr.mk.injEq,Value.complex.injEq,Value.int.injEq,kT,true_and,and_true]at hx;obtain⟨rfl,⟨rfl,rfl⟩,rfl,rfl⟩:=hx;exact⟨h,c⟩
 | pure hp=>subst hx;simp[dpt,I8]at hp
 | _=>simp[ixp,Go.Sx.dat,Go.Sx.clp,Go.Sx.own,Go.Sx.dpt,Go.Sx.opt,Go.Sx.yv,Go.Sx.sdt]at hx
def xK{b t:Nat}{v':Value}(h:VR ρ (opt b i t z o) v'):B0E ρ b (Ora.env i) (pV Ora.env z) o v'/\G4 (Ora.env i)=t:=by
 generalize hx:opt b i t z o=x at h;cases h with
 | opt h c d =>
   simp only[opt,Value.func.injEq,d7,J8,Value.pointer.injEq,D5,Addr.mk.injEq,Value.complex.injEq,Value.int.injEq,kT,true_and,and_true]at hx;obtain⟨rfl,⟨rfl,rfl⟩,rfl,rfl⟩:=hx;exact⟨h,c⟩
 | pure hp=>subst hx;simp[opt,I8]at hp
 | _=>simp[ixp,Go.Sx.dat,Go.Sx.clp,Go.Sx.own,Go.Sx.dpt,Go.Sx.opt,Go.Sx.yv,Go.Sx.sdt]at hx
def EG{b c tc g t:Nat}{T:TypeId}{v':Value}(h:HR P base ρ m.H w)(F:Hp.get m.H b=some (.sq c tc T g true))(hv:VR ρ (own b i t) v')(A:tc=t)(D:Hp.get m.H g=some .frz)
  (N:Z9 m .frz (fun _=>undef)=some (undef,m1)) (M:K7 ρ m.n m1.hi):∃ l,St P base ρ (upd ρ m.n l) m m1 w w/\upd ρ m.n l m.n=some l/\Hp.get m1.H m.n=some .frz/\Enc l.G (Ora.env c) v'/\G4 (Ora.env c)=t:=by
 obtain⟨y,O⟩:=fZ hv;rcases y with⟨l,wd,h1,E,h3,rfl⟩|⟨l,wd,rows,h1,E,h3,Y,X,rfl⟩
 .obtain⟨q,_⟩:=h.atl h1 F;obtain⟨B,inf,I,S,V,d⟩:=SqR.ex q;rcases d with⟨_,d⟩|⟨d,_⟩
  .obtain⟨g1,g2,g3⟩:=St.region (G:=fun _=>none) h N M (fun k o f=>by cases f);exact⟨_,g3,g1,g2,by rw[d];exact .nil,by rw[d,<- A,I];rfl⟩
  .rw[E]at d;cases d
 .obtain⟨q,_⟩:=h.atl h1 F;obtain⟨B,inf,I,S,V,d⟩:=SqR.ex q;rcases d with⟨d,_⟩|⟨_,d⟩
  .rw[E]at d;cases d
  .obtain⟨C,fz,J,K,lg,f1,f2,f3,f4,f5,f6,f7,f8,f9⟩:=d;obtain⟨L,_⟩:=h.atl f7 D;have p:∀ k o,lg.G k=some o->w.heap[k]? = some o:=L.2;let G:Nat->Option Obj:=fun k=>if k=l.blk then some (.cells C J fz)else lg.G k
   have x:∀ k o,lg.G k=some o->G k=some o:=fun k o f=>by
    show(if k=l.blk then _ else _)=_;by_cases e:k=l.blk
    .subst e;rw[A9 rfl]
     have:=p _ _ f;rw[f1]at this;exact this
    .rw[A7 e];exact f
   obtain⟨g1,g2,g3⟩:=St.region (G:=G) h N M fun k o f=>by
    have f:(if k=l.blk then some (.cells C J fz)else lg.G k)=some o:=f;by_cases e:k=l.blk
    .subst e;rw[A9 rfl]at f;exact⟨by rw[f1];exact f,b,_,l,h.dom _ _ h1,F,h1,⟨rfl,.inl ⟨rfl,E,rfl⟩⟩,rfl⟩
    .rw[A7 e]at f;exact⟨p _ _ f,g,_,lg,h.dom _ _ f7,D,f7,⟨rfl,.inr ⟨rfl,o,f⟩⟩,rfl⟩
   refine⟨_,g3,g1,g2,?_,by rw[f2,<- A,I];rfl⟩;rw[f2,<- f3];refine .sl (G:=G) (C:=C) (T:=J) (fz:=fz) A2 (fun _=>?_) (fun _=>?_) f6 fun r row j u v R W Q=>(f8 r row j u v R W Q).mono x
   .show(if l.blk=l.blk then _ else _)=_;rw[A9 rfl]
   .have:=G0 B f4;rw[<- f3]at this;omega
def BR.thaw{c t g:Nat}{T:TypeId}{l:Loc}(h:BR P ρ (.sq c t T g false) l w):BR P ρ (.sq c t T g true) l w:=by
 obtain⟨wd,inf,h1,f,h3,d⟩:=SqR.ex h;refine⟨⟨wd,inf,h1,f,h3,d.imp (fun x=>x) fun⟨b,e⟩=>⟨b,?_⟩⟩⟩;obtain⟨C,fz,p,rows,lg,h1,f,h3,d,e,n,q,k,r⟩:=e;exact⟨C,fz,p,rows,lg,h1,f,h3,d,e,n,q,k,fun h=>by cases h⟩
def yL{id:Nat}{ab:AB}(h:cQ m id ab=some m')(b:j<=H8):Hp.get m'.H j=if j=id then some ab else Hp.get m.H j:=by
 obtain⟨hle,rfl⟩:=V0 h;exact F1 _ _ _ _ hle b
def lR{ab:AB}{k:Nat->Value}{v:Value}(h:Z9 m ab k=some (v,m'))(b:j<=H8):Hp.get m'.H j=if j=m.n then some ab else Hp.get m.H j:=by
 obtain⟨hle,_,rfl⟩:=M2 h;exact F1 _ _ _ _ hle b
def FP{t:Nat}{v v' x:Value}{b:Nat}(h:HR P base ρ m.H w)(d:toD t v m=some (x,b,m'))(K:K7 ρ m.n m'.hi)(hv:VR ρ v v')(Z:Sat m'.lg) :
  ∃ ρ' l,St P base ρ ρ' m m' w w/\ρ' b=some l/\Hp.get m'.H b=some .frz/\Enc l.G (E0 Ora.env x) v'/\G4 (E0 Ora.env x)=t/\m.lg.le m'.lg:=by
 unfold toD at d;split at d
 .rename_i L i tg;obtain⟨h1,f⟩:=A3 d;cases f;obtain⟨h1,f⟩:=B7 h1;have h1:=A0 h1;obtain⟨l,r,y,C,M⟩:=nV hv;exact⟨ρ,l,St.refl h,r,dZ f,y,C.trans h1,.refl _⟩
 .rename_i L i tg;obtain⟨h1,f⟩:=A3 d;cases f;obtain⟨h1,f⟩:=B7 h1;have h1:=A0 h1;obtain⟨l,r,y,C,M,_⟩:=gA hv;exact⟨ρ,l,St.refl h,r,dZ f,y,C.trans h1,.refl _⟩
 .rename_i L i tg;split at d
  .rename_i c tc T g D;obtain⟨h1,f⟩:=A3 d;obtain⟨h1,h3⟩:=B7 h1;obtain⟨h1,B⟩:=B7 h1;have h1:=A0 h1;have B:=A0 B;obtain⟨m1,J,O,_,_,F⟩:=R5 f;cases O;subst h1;obtain⟨l,r,y,C,M,W⟩:=EG h D hv B (dZ h3) J K;exact⟨_,l,r,y,C,M,W,by rw[F];exact .refl _⟩
  .rename_i c tc T g D;obtain⟨h1,f⟩:=A3 d;obtain⟨h1,h3⟩:=B7 h1;have Q:=TR h3;obtain⟨h1,B⟩:=B7 h1;have h1:=A0 h1;have B:=A0 B;split at f
   .rename_i m1 hs;obtain⟨m2,J,O,_,_,F⟩:=R5 f;cases O;subst h1;have Y:∃ l0,ρ L=some l0:=by
     rcases(fZ hv).1 with⟨l,_,h1,_⟩|⟨l,_,_,h1,_⟩<;>exact⟨l,h1⟩
    obtain⟨l0,N⟩:=Y;have S:=(h.atl N D).1;have p:=St.same0 h hs D rfl N S.thaw (fun q hq=>by
     rcases hq with⟨_,a,b⟩|⟨a,_⟩
     .exact .inl ⟨rfl,a,b⟩
     .cases a)
    have hle:=(V0 hs).1;have R:g≠L:=fun e=>by subst e;rw[dZ h3]at D;cases D
    have X:Hp.get m1.H L=some (.sq c tc T g true):=by rw[yL hs hle,A9 rfl]
    have I:Hp.get m1.H g=some .frz:=by rw[yL hs Q,A7 R];exact dZ h3
    have V:m1.n=m.n:=by rw[(V0 hs).2]
    obtain⟨l,r,y,C,M,W⟩:=EG p.hr X hv B I J (by rw[V];exact K);refine⟨_,l,St.trans K p r,y,C,M,W,by rw[F,(V0 hs).2];exact .refl _⟩
   .cases f
  .cases d
 .obtain⟨E,d⟩:=A3 d;have E:=A1 E;rw[O5]at d;simp only at d;obtain⟨m1,J,O,_,_,F⟩:=R5 d;cases O;cases Q3 hv;have A:(m.wLg (fP m t (.nilw (t-10)) [])).lg.le m'.lg:=by rw[F];exact .refl _
  obtain⟨r,y,_⟩:=kL Z A;have p:=St.wLg h (fP m t (.nilw (t-10)) []);obtain⟨g1,g2,g3⟩:=St.region (G:=fun _=>none) p.hr J (by simpa using K) (fun k o hk=>by cases hk);refine⟨_,_,St.trans (by simpa using K) p g3,g1,g2,?_,y,W3.trans A⟩;show Enc _ (Ora.env m.lg.nx) _;rw[r];exact .nil
 .cases d
end
end
section
open Go
variable [Ora]
section
variable {P:Program} {base:Nat} {ρ ρ':Ren} {m m':Mem} {w w':World}
def n8(ρ:Ren)(m m':Mem):Prop:=∀ j l,ρ j=some l->Hp.get m.H j=some .frz->Hp.get m'.H j=some .frz
def n8.refl:n8 ρ m m:=fun _ _ _ h=>h
def n8.trans(he:∀ b l,ρ b=some l->ρ' b=some l)(a:n8 ρ m m1)(c:n8 ρ' m1 m'):n8 ρ m m':=fun j l h1 d=>c j l (he j l h1) (a j l h1 d)
def n8.lg(lg:Lg):n8 ρ m (m.wLg lg):=fun j l _ h=>by rw[lC];exact h
def LK{ab:AB}{k:Nat->Value}{v:Value}(h:HR P base ρ m.H w)(b:Z9 m ab k=some (v,m'))(c:K7 ρ m.n m'.hi):n8 ρ m m':=fun j l h1 d=>by
 rw[lR b (h.dom j l h1),A7]
 .exact d
 .intro e;subst e;obtain⟨_,_,rfl⟩:=M2 b;rw[c m.n (A6 _) (L5 _ _).2]at h1;cases h1
def A1S{ab:AB}{id:Nat}(h:HR P base ρ m.H w)(hs:cQ m id ab=some m')(b:Hp.get m.H id≠some .frz):n8 ρ m m':=fun j l h1 c=>by
 rw[yL hs (h.dom j l h1),A7]
 .exact c
 .intro e;subst e;exact b c
def JB{t:Nat}{v x:Value}{b:Nat}(h:HR P base ρ m.H w)(d:toD t v m=some (x,b,m'))(y:K7 ρ m.n m'.hi):n8 ρ m m':=by
 unfold toD at d;split at d
 .obtain⟨h1,f⟩:=A3 d;cases f;exact .refl
 .obtain⟨h1,f⟩:=A3 d;cases f;exact .refl
 .split at d
  .obtain⟨h1,f⟩:=A3 d;obtain⟨m1,p,q,_⟩:=R5 f;cases q;exact LK h p y
  .rename_i c tc T g B;obtain⟨h1,f⟩:=A3 d;split at f
   .rename_i m1 hs;obtain⟨m2,p,q,_⟩:=R5 f;cases q;have D:=A1S h hs (by rw[B];intro h;cases h);intro j l k A;have E:=D j l k A;rw[lR p (h.dom j l k),A7]
    .exact E
    .intro e;subst e;have r:m1.n=m.n:=by rw[(V0 hs).2]
     obtain⟨_,_,rfl⟩:=M2 p;rw[y m1.n A2 (L5 _ _).2]at k;cases k
   .cases f
  .cases d
 .obtain⟨C,d⟩:=A3 d;rw[O5]at d;simp only at d;obtain⟨m1,p,q,_⟩:=R5 d;cases q;intro j l k A;rw[lR p (h.dom j l k),A7,lC]
  .exact A
  .intro e;subst e;have r:(m.wLg (fP m t (.nilw (t-10)) [])).n=m.n:=by simp
   obtain⟨_,_,rfl⟩:=M2 p;rw[y _ A2 (L5 _ _).2]at k;cases k
 .cases d
def Z5(R:Nat->Option Obj)(us:List U)(vs:List Value):Prop:=us.length=vs.length/\∀ (i:Nat) (u:U) (v:Value),us[i]? = some u->vs[i]? = some v->Enc R u v
omit [Ora] in
def Z5.nil{R:Nat->Option Obj}:Z5 R [] []:=⟨rfl,fun i u v h=>by simp at h⟩
omit [Ora] in
def Z5.cons{R:Nat->Option Obj}{v:Value}(h:Enc R u v)(k:Z5 R us vs):Z5 R (u::us) (v::vs):=⟨by simp[k.1],fun i a b h1 c=>by
 cases i with
 | zero=>simp at h1 c;subst h1;subst c;exact h
 | succ i=>exact k.2 i a b (by simpa using h1) (by simpa using c)⟩
def Sub(G R:Nat->Option Obj):Prop:=∀ k o,G k=some o->R k=some o
def hP{t:Nat}{v x:Value}{b:Nat}{m m':Mem}(c:toD t v m=some (x,b,m')):m.hi<=m'.hi/\m.lg.le m'.lg/\m.n<=m'.n:=by
 have e:∀ {m m1:Mem},Z9 m .frz (fun _=>undef)=some (undef,m1)->m.hi<=m1.hi/\m.lg.le m1.lg/\m.n<=m1.n:=fun l=>by
  obtain⟨_,_,rfl⟩:=M2 l;exact⟨(L5 _ _).1,.refl _,X7 _⟩
 unfold toD at c;split at c
 .obtain⟨h1,d⟩:=A3 c;cases d;exact⟨A6 _,.refl _,A6 _⟩
 .obtain⟨h1,d⟩:=A3 c;cases d;exact⟨A6 _,.refl _,A6 _⟩
 .split at c
  .obtain⟨h1,d⟩:=A3 c;obtain⟨m1,f,g,_⟩:=R5 d;cases g;exact e f
  .obtain⟨h1,d⟩:=A3 c;split at d
   .rename_i m1 hs;obtain⟨m2,f,g,_⟩:=R5 d;cases g
    have:=e f;obtain⟨_,rfl⟩:=V0 hs;exact this
   .cases d
  .cases c
 .obtain⟨k,c⟩:=A3 c;rw[O5]at c;simp only at c;obtain⟨m1,f,g,_⟩:=R5 c;cases g
  have:=e f;exact⟨by simpa using this.1,W3.trans this.2.1,by simpa using this.2.2⟩
 .cases c
structure BM (P:Program) (td:Td):Prop where
 ok:∀ {base:Nat} {ρ:Ren} {m m':Mem} {w:World} {t:Nat} {v v' x:Value} {b:Nat},HR P base ρ m.H w->td t v m=some (x,b,m')->K7 ρ m.n m'.hi->VR ρ v v'->Sat m'.lg ->
  ∃ ρ' l,St P base ρ ρ' m m' w w/\ρ' b=some l/\Hp.get m'.H b=some .frz/\Enc l.G (E0 Ora.env x) v'/\G4 (E0 Ora.env x)=t/\m.lg.le m'.lg/\n8 ρ m m'
 mono:∀ {m m':Mem} {t:Nat} {v x:Value} {b:Nat},td t v m=some (x,b,m')->m.hi<=m'.hi/\m.lg.le m'.lg/\m.n<=m'.n
def XS:BM P toD:=⟨fun h c b hv d=>let ⟨ρ',l,f,a2,a3,a4,a5,e⟩:=FP h c b hv d;⟨ρ',l,f,a2,a3,a4,a5,e,JB h c b⟩,fun h=>hP h⟩
def S8{f:Td}(d:BM P f):∀ {ts:H5} {vs xs:D3} {gs:H5} {m m':Mem},BQ f ts vs m=some (xs,gs,m')->m.hi<=m'.hi/\m.lg.le m'.lg/\m.n<=m'.n
 | [],[],_,_,_,_,h=>by cases h;exact⟨A6 _,.refl _,A6 _⟩
 | t::ts,v::vs,xs,gs,m,m',c=>by
   unfold BQ at c;cases e:Nat.blt t 10 with
   | true =>
     rw[e]at c;simp only[E6]at c;obtain⟨h1,c⟩:=A3 c;split at c
     .rename_i hr;cases c;exact S8 d hr
     .cases c
   | false =>
     rw[e]at c;simp only[E3]at c;split at c
     .rename_i g;split at c
      .rename_i hr;cases c;have a:=d.mono g;have b:=S8 d hr;exact⟨C6 a.1 b.1,a.2.1.trans b.2.1,C6 a.2.2 b.2.2⟩
      .cases c
     .cases c
 | [],_::_,_,_,_,_,c=>by cases c
 | _::_,[],_,_,_,_,c=>by cases c
def iT{K:Td}(f:BM P K):∀ {ts:H5} {vs vs' xs:D3} {gs:H5} {m m':Mem} {ρ:Ren},HR P base ρ m.H w->BQ K ts vs m=some (xs,gs,m')->K7 ρ m.n m'.hi->LR ρ vs vs'->Sat m'.lg ->
  ∃ ρ',St P base ρ ρ' m m' w w/\m.lg.le m'.lg/\n8 ρ m m'/\(∀ b ∈ gs,Hp.get m'.H b=some .frz/\∃ l,ρ' b=some l)/\(xs.map (E0 Ora.env)).map G4=ts /\
   ∀ R,(∀ b ∈ gs,∀ l,ρ' b=some l->Sub l.G R)->Z5 R (xs.map (E0 Ora.env)) vs'
 | [],[],vs',xs,gs,m,m',ρ,h,c,hf,hv,hS=>by
   cases c;exact⟨ρ,St.refl h,.refl _,.refl,fun b N=>(by cases N),rfl,fun R _=>by rw[hv.nil_inv];exact .nil⟩
 | t::ts,v::vs,vs',xs,gs,m,m',ρ,h,c,hf,hv,hS=>by
   obtain⟨v',r',rfl,q,p⟩:=hv.tail;unfold BQ at c;cases y:Nat.blt t 10 with
   | true =>
     rw[y]at c;simp only[E6]at c;obtain⟨h1,c⟩:=A3 c;have h1:=A0 h1;have M:t<10:=A1 y;split at c
     .rename_i r B m2 hr;cases c;obtain⟨ρ2,g,F,x,I,E,C⟩:=iT f h hr hf p hS;obtain⟨f1,f2⟩:=aJ q A2;exact⟨ρ2,g,F,x,I,by simp[f2,h1,E],fun R hR=>.cons (.sc f1) (C R hR)⟩
     .cases c
   | false =>
     rw[y]at c;simp only[E3]at c;split at c
     .rename_i hh b m1 O;split at c
      .rename_i r B m2 hr;cases c;have e:m1.hi<=m'.hi/\m1.lg.le m'.lg/\m1.n<=m'.n:=S8 f hr;have D:K7 ρ m.n m1.hi:=hf.less e.1;obtain⟨J,l,k,a2,a3,a4,a5,Q,L⟩:=f.ok h O D q (hS.le e.2.1);have A:K7 J m1.n m'.hi:=hf.step k;obtain⟨ρ2,g,F,x,I,E,C⟩:=iT f k.hr hr A (p.mono k.ext) hS;refine⟨ρ2,St.trans hf k g,Q.trans F,L.trans k.ext x,fun b' d=>?_,by simp[a5,E],fun R hR=>.cons (a4.mono (hR b (.head _) l (g.ext _ _ a2))) (C R fun b' d=>hR b' (.tail _ d))⟩;rcases B6.1 d with rfl|d
       .exact⟨x _ l a2 a3,l,g.ext _ _ a2⟩
       .exact I b' d
      .cases c
     .cases c
 | [],_::_,_,_,_,_,_,_,_,c,_,_,_=>by cases c
 | _::_,[],_,_,_,_,_,_,_,c,_,_,_=>by cases c
def fA{gs:H5}{g:Nat}(h:HR P base ρ m.H w)(c:kH gs m=some (g,m'))(x:K7 ρ m.n m'.hi) :
  ∃ ρ' lg,St P base ρ ρ' m m' w w/\m'.lg=m.lg/\n8 ρ m m'/\ρ' g=some lg/\Hp.get m'.H g=some .frz/\∀ b ∈ gs,∀ l,ρ b=some l->Sub l.G lg.G:=by
 have main:∀ {gs:H5},(bif gs.all (pF m)then match gT m fun b m=>some (undef,b,m)with
  | some (_,b,m)=>some (b,m)
  | none=>none else none)=some (g,m')->∃ ρ' lg,St P base ρ ρ' m m' w w/\m'.lg=m.lg/\n8 ρ m m'/\ρ' g=some lg/\Hp.get m'.H g=some .frz/\∀ b ∈ gs,∀ l,ρ b=some l->Sub l.G lg.G:=fun{gs} c=>by
  obtain⟨h1,c⟩:=A3 c;split at c
  .rename_i r b m1 C;cases c;obtain⟨m2,v,D,_,_,y⟩:=R5 C;cases D;have e:∀ b ∈ gs,Hp.get m.H b=some .frz:=fun b d=>dZ (D7.1 h1 b d)
   classical
   let G:Nat->Option Obj:=fun k=>if ∃ b ∈ gs,∃ l o,ρ b=some l/\l.G k=some o then w.heap[k]? else none
   obtain⟨g1,g2,g3⟩:=St.region (G:=G) h v x fun k o f=>by
    have f:(if ∃ b ∈ gs,∃ l o,ρ b=some l/\l.G k=some o then w.heap[k]? else none)=some o:=f;split at f
    .rename_i hex;obtain⟨b,d,l,A,t,B⟩:=hex;exact⟨f,b,_,l,h.dom _ _ t,e b d,t,⟨rfl,.inr ⟨rfl,A,B⟩⟩,rfl⟩
    .cases f
   refine⟨_,kW G,g3,y,LK h v x,g1,g2,fun b d l p k o f=>?_⟩;show(if ∃ b ∈ gs,∃ l o,ρ b=some l/\l.G k=some o then w.heap[k]? else none)=_;rw[A9 ⟨b,d,l,o,p,f⟩];exact(h.atl p (e b d)).1.2 k o f
  .cases c
 unfold kH at c;split at c
 .rename_i g0;obtain⟨h1,c⟩:=A3 c;cases c;obtain⟨l,p⟩:=A15 h h1;refine⟨ρ,l,St.refl h,rfl,.refl,p,dZ h1,fun b d l2 q=>?_⟩;rcases B6.1 d with rfl|d
  .rw[p]at q
   have:=A8 q;subst this;exact fun _ _ h=>h
  .cases d
 .exact main c
omit [Ora] in
def gF{R:Nat->Option Obj}{v r:Value}(h:Enc R u v)(hr:toV u=some r):v=r:=by
 cases h with
 | sc h=>rw[h]at hr;exact A8 hr
 | nil=>cases hr
 | emp=>cases hr
 | sl=>cases hr
omit [Ora] in
def mL{R:Nat->Option Obj}{v:Value}(h:Enc R u v):m9 v=true:=by
 cases h with
 | sc h=>have:=hO h;cases v<;>first|rfl|cases this
 | nil=>rfl
 | emp=>rfl
 | sl=>rfl
def A4k{wd k:Nat}{rows:List (List U)} :evU (.get wd o) [.seq false wd rows,.int kk (.ofNat k)]=(rows.getD k []).getD o .none:=by
 simp[evU]
def getD_some(h:row.getD o .none≠.none):row[o]? = some (row.getD o .none):=by
 rw[B0]at *;cases e:row[o]? with
 | none=>rw[e]at h;exact absurd rfl h
 | some u=>rfl
def gB{wd o i t g k:Nat}{z:Value}{lg:Loc}{rows:List (List U)}{cell:Nat->R3}(hi:Ora.env i=.seq false wd rows)(A:pV Ora.env z=some (.ofNat k))(p:ρ g=some lg)
  (B:∀ q u,(rows.getD k [])[q]? = some u->∃ v,cell q=some v/\Enc lg.G u v) :
  ∀ {ts:H5} {j:Nat} {m m':Mem} {r:D3},Y6 wd o i t z g ts j m=some (r,m')->Sat m'.lg->∃ r',LR ρ r r'/\r'.length=ts.length/\(∀ q v',r'[q]? = some v'->cell (o+j+q)=some v')/\K2 m m'/\m.lg.le m'.lg
 | [],j,m,m',r,h,hS=>by
   cases h;exact⟨[],.nil,rfl,fun q v' h=>by simp at h,.refl _,.refl _⟩
 | tg::ts,j,m,m',r,h,hS=>by
   unfold Y6 at h;obtain⟨kk,n⟩:=IF A;have d:[hole i t,z].map (E0 Ora.env)=[.seq false wd rows,.int kk (.ofNat k)]:=by
    simp only[C3,F8,n];show[Ora.env i,_]=_;rw[hi]
   have b:∀ {u:U},u≠.none->evU (.get wd (o+j)) ([hole i t,z].map (E0 Ora.env))=u->∃ v,cell (o+j)=some v/\Enc lg.G u v:=fun{u} hu he=>by
    rw[d,A4k]at he;subst he;exact B _ _ (getD_some hu)
   cases l:Nat.blt tg 10 with
   | true =>
     rw[l]at h;simp only[E6]at h;have I:tg<10:=A1 l;split at h
     .rename_i hh m1 x;split at h
      .rename_i K m2 hr;cases h;obtain⟨r',y,D,E,F,f⟩:=gB hi A p B hr hS;obtain⟨u,f1,f2,v,f3,f4,f5⟩:=N2 x (hS.le f);obtain⟨v2,g1,g2⟩:=b (u:=u) (by intro e;subst e;cases f3) f1
       have:=gF g2 f3;subst this;refine⟨v2::r',.cons (f4 ρ) y,by simp[D],fun q v' c=>?_,(H6 x).trans F,(H9 x).trans f⟩;cases q with
       | zero=>simp at c;subst c;exact g1
       | succ q=>rw[show o+j+(q+1)=o+(j+1)+q by omega];exact E q v' (by simpa using c)
      .cases h
     .cases h
   | false =>
     rw[l]at h;simp only[E3]at h;rw[LG]at h;split at h
     .rename_i K m2 hr;cases h;obtain⟨r',y,D,E,F,f⟩:=gB hi A p B hr hS;obtain⟨f1,f2,H,J,C,f3,f4⟩:=kL hS f;obtain⟨v2,g1,g2⟩:=b (u:=Ora.env m.lg.nx) (by rw[f3];intro h;cases h) f1.symm;refine⟨v2::r',.cons (.dat p g2 f2 A2 (mL g2)) y,by simp[D],fun q v' c=>?_,K2.trans ⟨_,rfl⟩ F,W3.trans f⟩;cases q with
      | zero=>simp at c;subst c;exact g1
      | succ q=>rw[show o+j+(q+1)=o+(j+1)+q by omega];exact E q v' (by simpa using c)
     .cases h
def iU{t:TypeId}(h:lE P t=some ts):H4 P t=some ts.length:=by
 unfold lE at h;split at h
 .rename_i l n h1 b;obtain⟨h3,h⟩:=A3 h;cases h;rw[b,A0 h3]
 .cases h
def FJ{t:TypeId}{r:D3}{v:Value}{b:Nat}(e:lE P t=some ts)(d:mP P t (some (r,m))=some (v,m'))(f:LR ρ r r')(l:r'.length=ts.length)
  (k:∀ q v',r'[q]? = some v'->w.cell? ⟨b,o+q,none⟩=some v'):m'=m/\∃ v',(Instr.loadAt t (.pointer (some ⟨b,o,none⟩))).run P w=.ok v' w/\VR ρ v v':=by
 unfold mP at d;split at d
 .rename_i c heq;cases d;cases heq;obtain⟨v',x,rfl,n,p⟩:=f.tail;refine⟨rfl,v',?_,n⟩
  have:=k 0 v' rfl;simp[Instr.loadAt,Instr.sureAddr,loadVar,A4,cL c,Result.andThen,run_load,show w.cell? ⟨b,o,none⟩=some v' from by simpa using this]
 .rename_i c heq;cases d;cases heq;refine⟨rfl,.agg ⟨r'⟩,?_,.agg f.1 f.2⟩;have g:H4 P t=some r'.length:=by rw[l];exact iU e
  simp[Instr.loadAt,Instr.sureAddr,loadVar,A4,cL c,L4 g,Result.andThen,K8 rfl k]
 .cases d
def A1J{t:TypeId}{x x' v:Value}(h:HR P base ρ m.H w)(f:LF P m t x=some (v,m'))(hx:VR ρ x x')(Y:Sat m'.lg):(∃ r,(Instr.loadAt t x').run P w=.ok r w/\VR ρ v r)/\K2 m m'/\m.lg.le m'.lg:=by
 have K:∀ {r:Option (D3×Mem)},mP P t r=some (v,m')->∃ vs,r=some (vs,m'):=fun{r} F=>by
  unfold mP at F;split at F
  .cases F;exact⟨_,rfl⟩
  .cases F;exact⟨_,rfl⟩
  .cases F
 unfold LF at f;split at f
 .rename_i b i tg z o ts A;obtain⟨h1,f⟩:=A3 f;obtain⟨⟨l,wd,rows,a,s,c,k,M,J,L,X,N,e6,rfl⟩,Z⟩:=HA hx;obtain⟨vs,hr⟩:=K f;rw[hr]at f;have D:tg-10=wd:=by rw[<- Z,J];simp[G4]
  rw[D]at hr;have V:=(h.atl M (dZ h1)).1.2;rw[J]at L;obtain⟨C,T,fz,f1,f2,f3,f4⟩:∃ C T fz,l.G a=some (.cells C T fz)/\s+rows.length*wd<=C.size/\(∀ row ∈ rows,row.length=wd)/\∀ (r:Nat) (row:List U) (j:Nat) (u:U) (v:Value),rows[r]? = some row->row[j]? = some u->C[s+r*wd+j]? = some v->Enc l.G u v:=by
   have B:rows≠[]:=by intro e;subst e;simp at N
   cases L with
   | sc h=>cases h
   | emp=>exact absurd rfl B
   | sl hc O hz hw hh=>exact⟨_,_,_,O B,hz B,hw,hh⟩
  have y:=V _ _ f1;have d:rows[k]? = some rows[k]:=A5 N;obtain⟨r',g1,g2,g3,g4,g5⟩:=gB (cell:=fun q=>w.cell? ⟨a,s+k*wd+q,none⟩) J X M (fun q u n=>by
   rw[B0,d]at n;have n:rows[k][q]? = some u:=n;have E:=(B1.1 n).1;rw[f3 _ (D1 d)]at E;have W:(k+1)*wd<=rows.length*wd:=G0 wd N;rw[H7]at W;have p:s+k*wd+q<C.size:=A2;refine⟨C[s+k*wd+q],?_,f4 k _ q u _ d n (F5 p)⟩;simp[World.cell?,y,F5 p]) hr Y
  obtain⟨_,R⟩:=FJ (w:=w) (b:=a) (o:=s+k*wd+o) A f g1 g2 (fun q v' n=>by
   have:=g3 q v' n;rw[show s+k*wd+o+q=s+k*wd+(o+0+q) by omega];exact this)
  exact⟨R,g4,g5⟩
 .rename_i b i tg z o ts A;split at f
  .rename_i c tc T g ro O;obtain⟨h1,f⟩:=A3 f;have h1:=A0 h1;subst h1;obtain⟨⟨l,wd,jZ,k,M,J,L,X,N,e6,rfl⟩,Z⟩:=xK hx;obtain⟨vs,hr⟩:=K f;rw[hr]at f;obtain⟨I,inf,d1,d2,d3,d4⟩:=SqR.ex (h.atl M O).1;rcases d4 with⟨d4,_⟩|⟨_,d4⟩
   .rw[J]at d4;cases d4
   obtain⟨C,fz,T',rows,lg,f1,f2,f3,f4,f5,f6,f7,f8,f9⟩:=d4;have D:tc-10=I:=A2;rw[D]at hr;have S:k<rows.length:=A2;have d:rows[k]? = some rows[k]:=A5 S;have Q:wd=I:=by
    have:G4 (Ora.env i)=10+wd:=by rw[L];rfl
    omega
   subst Q;obtain⟨r',g1,g2,g3,g4,g5⟩:=gB (cell:=fun q=>w.cell? ⟨l.blk,l.sh+k*wd+q,none⟩) f2 X f7 (fun q u n=>by
    rw[B0,d]at n;have n:rows[k][q]? = some u:=n;have E:=(B1.1 n).1;rw[f6 _ (D1 d)]at E;have W:(k+1)*wd<=l.cap*wd:=G0 wd A2;rw[H7]at W;have p:l.sh+k*wd+q<C.size:=A2;refine⟨C[l.sh+k*wd+q],?_,f8 k _ q u _ d n (F5 p)⟩;simp[World.cell?,f1,F5 p]) hr Y
   obtain⟨_,R⟩:=FJ (w:=w) (b:=l.blk) (o:=l.sh+k*wd+o) A f g1 g2 (fun q v' n=>by
    have:=g3 q v' n;rw[show l.sh+k*wd+o+q=l.sh+k*wd+(o+0+q) by omega];exact this)
   exact⟨R,g4,g5⟩
  .cases f
 .cases f
end
end
section
open Go
variable [Ora]
section
variable {P:Program} {base:Nat} {ρ ρ':Ren} {m m':Mem} {w w':World}
def at0(a:Nat):Ren:=fun _=>some (lc a 0 0)
def WZ{a s n c:Nat}(h:n<=c):VR (at0 a) (.slice (some ⟨0,s,none⟩) n (N6+1)) (.slice (some ⟨a,s,none⟩) n c) :=
 VR.op (ρ:=at0 a) (b:=0) (o:=s) (n:=n) (m:=N6+1) (m':=c) (l:=lc a 0 0) rfl (by unfold N6;omega) h (fun h=>by unfold N6 at h;omega)
def UR{a s:Nat}:VR (at0 a) (.pointer (some ⟨0,s,none⟩)) (.pointer (some ⟨a,s,none⟩)):=VR.ptr (ρ:=at0 a) (b:=0) (o:=s) (l:=lc a 0 0) rfl
def uX{t e:TypeId}{a s n c z sz:Nat}{k:IntKind}(hu:P.underlying t=some (.slice e))(hs:H4 P e=some sz)(d:z<n)(g:n<=c)(w:World) :
  (Instr.indexAt t (.slice (some ⟨a,s,none⟩) n c) (.int k (.ofNat z))).run P w=.ok (.pointer (some ⟨a,s+z*sz,none⟩)) w:=by
 have f:Nat.blt z n=true:=C7 d;have hm:Y4 P t (.slice (some ⟨0,s,none⟩) n (N6+1)) (.int k (.ofNat z))=some (.pointer (some ⟨0,s+z*sz,none⟩)):=by
  simp only[Y4,hu,hs,f,E6,bY,F0]
 obtain⟨v',g1,g2⟩:=cX (P:=P) hm (WZ (a:=a) g) (.pure rfl) w;obtain⟨l2,b,_,rfl⟩:=P5 g2;cases b;exact g1
def qU{t e:TypeId}{a s n z sz:Nat}{k:IntKind}(hu:P.underlying t=some (.array n e))(hs:H4 P e=some sz)(c:z<n)(w:World) :
  (Instr.indexAt t (.pointer (some ⟨a,s,none⟩)) (.int k (.ofNat z))).run P w=.ok (.pointer (some ⟨a,s+z*sz,none⟩)) w:=by
 have d:Nat.blt z n=true:=C7 c;have hm:Y4 P t (.pointer (some ⟨0,s,none⟩)) (.int k (.ofNat z))=some (.pointer (some ⟨0,s+z*sz,none⟩)):=by
  simp only[Y4,hu,hs,d,E6,bY,F0]
 obtain⟨v',g1,g2⟩:=cX (P:=P) hm (UR (a:=a)) (.pure rfl) w;obtain⟨l2,b,_,rfl⟩:=P5 g2;cases b;exact g1
def uZ{a z:Nat}{c:Array Field}{f:Field}(hu:P.underlying s=some (.struct c))(d:c.toList[i]? = some f)(e:H4 P f.type=some (z+1))(w:World) :
  (Instr.fieldAt s (.pointer (some ⟨a,o,none⟩)) i).run P w=.ok (.pointer (some ⟨a,o+f.offset,none⟩)) w:=by
 have hm:cY P s (.pointer (some ⟨0,o,none⟩)) i=some (.pointer (some ⟨0,o+f.offset,none⟩)):=by
  simp only[cY,hu,d,e,bY,F0]
 obtain⟨v',g1,g2⟩:=mG (P:=P) hm (UR (a:=a)) w;obtain⟨l2,b,_,rfl⟩:=P5 g2;cases b;exact g1
def HC{t wd:Nat}{d:Bool}{rows:List (List U)}{k v:Value}(h:LT m i t z k=some (v,m'))(hi:Ora.env i=.seq d wd rows)(I:t=10+wd)(F:VR ρ z z')(D:Sat m'.lg) :
  v=k/\(∃ kk n,z'=.int kk (.ofNat n)/\n<rows.length/\pV Ora.env z=some (.ofNat n))/\K2 m m'/\m.lg.le m'.lg:=by
 unfold LT at h;cases q:!(Nat.blt (G8 z) 8)with
 | true=>rw[q]at h;cases h
 | false =>
   have E:G8 z<8:=by
    have:Nat.blt (G8 z) 8=true:=by simpa using q
    exact A1 this
   rw[q]at h;simp only[E3]at h;split at h
   .rename_i b H n W hh lg p;split at h
    .rename_i B C;cases h;have g:=H9 p;have c:=fI C;obtain⟨u,e,J,r,x,G,_⟩:=N2 p (S4.le D c);have l:=mO C (G ρ) D;subst l;obtain⟨kk,y,rfl,f2,_⟩:=N4 F E;have f:[z,hole i t].map (E0 Ora.env)=[.int kk y,.seq d wd rows]:=by
      simp only[C3,F8,f2];show[_,Ora.env i]=_;rw[hi]
     rw[f]at e;have e:(if wd=t-10 then U.bool (decide (0<=y) && decide (y<rows.length))else U.none)=u:=e;rw[A9 A2]at e;subst e;have x:some (Value.bool (decide (0<=y) && decide (y<rows.length)))=some (.bool true):=x;have A:(decide (0<=y) && decide (y<rows.length))=true:=by simpa using x
     simp only[G9,decide_eq_true_eq]at A;obtain⟨n0,rfl⟩:∃ n0:Nat,y=.ofNat n0:=⟨y.toNat,by have:=dU A.1;exact this.symm⟩;refine⟨rfl,⟨kk,n0,rfl,?_,US f2⟩,K2.trans (H6 p) ⟨B,rfl⟩,g.trans c⟩
     have:=A.2;have:(n0:Int)<rows.length:=this;omega
    .cases h
   .cases h
def A9M{G:Nat->Option Obj}{b:Bool}{wd:Nat}{rows:List (List U)}{v:Value}(h:Enc G (.seq b wd rows) v)(hr:rows≠[]):b=false/\∃ a o c,v=.slice (some ⟨a,o,none⟩) rows.length c/\rows.length<=c:=by
 cases h with
 | sc h=>cases h
 | nil=>exact absurd rfl hr
 | emp=>exact absurd rfl hr
 | sl d _ _ _ _=>exact⟨rfl,_,_,_,rfl,d⟩
def OO{t:Nat}(h:G4 u=t)(d:10<=t):u=.none∨∃ c wd rows,u=.seq c wd rows/\t=10+wd:=by
 cases u with
 | none=>exact .inl rfl
 | int k n=>have:=M3 k;simp[G4]at h;omega
 | bool b=>simp[G4]at h;omega
 | str s=>simp[G4]at h;omega
 | seq c wd rows=>exact .inr ⟨c,wd,rows,rfl,h.symm⟩
def gG{G:Nat->Option Obj}{v:Value}{t:Nat}(h:Enc G u v)(d:G4 u=t)(c:10<=t):∃ b wd rows,u=.seq b wd rows/\t=10+wd:=by
 rcases OO d c with rfl|h1
 .cases h with
  | sc h=>cases h
 .exact h1
def EN{t e:TypeId}{b s:Nat}{l:Loc}{v v':Value}(hu:P.underlying t=some (.slice e))(hs:H4 P e=some (s+1))(B:tg=10+(s+1))(h1:ρ b=some l)(f:Enc l.G (Ora.env i) v')(h3:G4 (Ora.env i)=tg)
  (h:LT m i tg z (dpt b i tg z 0)=some (v,m')) (y:VR ρ z z') (A:Sat m'.lg):(∃ r,(Instr.indexAt t v' z').run P w=.ok r w/\VR ρ v r)/\K2 m m'/\m.lg.le m'.lg:=by
 obtain⟨x,wd,rows,d,D⟩:=gG f h3 A2;obtain⟨rfl,⟨kk,n,rfl,q,k⟩,g1,g2⟩:=HC h d D y A;have g:wd=s+1:=A2;subst g;have p:rows≠[]:=by intro e;subst e;simp at q
 rw[d]at f;obtain⟨rfl,a,o,c,rfl,C⟩:=A9M f p;refine⟨⟨_,uX hu hs q C w,.dpt ⟨l,s+1,rows,a,o,c,n,h1,d,by rw[d];exact f,k,q,A2,by simp⟩ h3 rfl⟩,g1,g2⟩
def LQ{t:TypeId}{x x' v:Value}(h:mD P m t x z=some (v,m'))(hx:VR ρ x x')(A:VR ρ z z')(F:Sat m'.lg):(∃ r,(Instr.indexAt t x' z').run P w=.ok r w/\VR ρ v r)/\K2 m m'/\m.lg.le m'.lg:=by
 unfold mD at h;split at h
 .rename_i e b i tg hu;split at h
  .rename_i s hs;obtain⟨g,h⟩:=A3 h;have g:=A0 g;obtain⟨D,d⟩:=fZ hx;rcases D with⟨l,wd,h1,B,h3,rfl⟩|⟨l,wd,rows,h1,B,h3,O,L,rfl⟩
   .obtain⟨_,⟨kk,n,_,M,_⟩,_⟩:=HC h h3 (by rw[h3]at d;exact d.symm) A F;simp at M
   .have C:tg=10+wd:=by rw[h3]at d;exact d.symm
    obtain⟨rfl,⟨kk,n,rfl,M,I⟩,g1,g2⟩:=HC h h3 C A F;have p:wd=s+1:=A2;subst p;exact⟨⟨_,uX hu hs A2 L w,.opt ⟨l,s+1,rows,n,h1,B,h3,I,A2,A2,by simp⟩ d rfl⟩,g1,g2⟩
  .cases h
 .rename_i e b i tg hu;split at h
  .rename_i s hs;obtain⟨g,h⟩:=A3 h;have g:=A0 g;obtain⟨l,h1,B,h3,_⟩:=nV hx;exact EN hu hs g h1 B h3 h A F
  .cases h
 .rename_i e b i tg hu;split at h
  .rename_i s hs;obtain⟨g,h⟩:=A3 h;have g:=A0 g;obtain⟨l,h1,B,h3,_⟩:=gA hx;exact EN hu hs g h1 B h3 h A F
  .cases h
 .rename_i n e b i tg y o hu;split at h
  .rename_i s kk k hs;obtain⟨f,h⟩:=A3 h;obtain⟨f,hw⟩:=B7 f;have f:=A1 f;have hw:o+k*s<tg-10:=A1 hw;rw[F0]at h;cases h;cases J6 A;obtain⟨⟨l,wd,rows,a,s0,c,q,H,C,G,K,J,N,rfl⟩,E⟩:=HA hx;have p:tg-10=wd:=by rw[<- E,C];simp[G4]
   refine⟨⟨_,qU hu hs f w,.dpt ⟨l,wd,rows,a,s0,c,q,H,C,G,K,J,A2,by simp⟩ E rfl⟩,.refl _,.refl _⟩
  .cases h
 .rename_i n e b i tg y o hu;split at h
  .rename_i s kk k hs;obtain⟨f,h⟩:=A3 h;obtain⟨f,hw⟩:=B7 f;have f:=A1 f;have hw:o+k*s<tg-10:=A1 hw;rw[F0]at h;cases h;cases J6 A;obtain⟨⟨l,wd,rows,q,H,C,G,K,J,N,rfl⟩,E⟩:=xK hx;have p:tg-10=wd:=by rw[<- E,G];simp[G4]
   refine⟨⟨_,qU hu hs f w,.opt ⟨l,wd,rows,q,H,C,G,K,J,A2,by simp⟩ E rfl⟩,.refl _,.refl _⟩
  .cases h
 .cases h
def MI{x x' v:Value}{f:Nat}(h:mH P m s x f=some (v,m'))(hx:VR ρ x x'):(∃ r,(Instr.fieldAt s x' f).run P w=.ok r w/\VR ρ v r)/\m'=m:=by
 unfold mH at h;split at h
 .rename_i D b i tg y o hu;split at h
  .rename_i fd t;split at h
   .rename_i z n;obtain⟨hw,h⟩:=A3 h;have hw:o+fd.offset<tg-10:=A1 hw;rw[F0]at h;cases h;obtain⟨⟨l,wd,rows,a,s0,c,q,k,e,g,B,A,C,rfl⟩,d⟩:=HA hx;have p:tg-10=wd:=by rw[<- d,e];simp[G4]
    exact⟨⟨_,uZ hu t n w,.dpt ⟨l,wd,rows,a,s0,c,q,k,e,g,B,A,A2,by simp⟩ d rfl⟩,rfl⟩
   .cases h
  .cases h
 .rename_i D b i tg y o hu;split at h
  .rename_i fd t;split at h
   .rename_i z n;obtain⟨hw,h⟩:=A3 h;have hw:o+fd.offset<tg-10:=A1 hw;rw[F0]at h;cases h;obtain⟨⟨l,wd,rows,q,k,e,g,B,A,C,rfl⟩,d⟩:=xK hx;have p:tg-10=wd:=by rw[<- d,g];simp[G4]
    exact⟨⟨_,uZ hu t n w,.opt ⟨l,wd,rows,q,k,e,g,B,A,A2,by simp⟩ d rfl⟩,rfl⟩
   .cases h
  .cases h
 .cases h
end
end
section
open Go
variable [Ora]
section
variable {P:Program} {base:Nat} {ρ ρ':Ren} {m m':Mem} {w w':World}
def v6{G:Nat->Option Obj}{b:Bool}{wd:Nat}{rows:List (List U)}{v:Value}(h:Enc G (.seq b wd rows) v):(b=true/\rows=[]/\v=.slice none 0 0)∨(b=false/\∃ (a:Addr) (c:Nat),v=.slice (some a) rows.length c/\rows.length<=c):=by
 cases h with
 | sc h=>cases h
 | nil=>exact .inl ⟨rfl,rfl,rfl⟩
 | emp=>exact .inr ⟨rfl,_,_,rfl,A6 _⟩
 | sl d _ _ _ _=>exact .inr ⟨rfl,_,_,rfl,d⟩
def lI{t e:TypeId}{a:Option Addr}{n c:Nat}(hu:P.underlying t=some (.slice e))(w:World):(Builtin.len_ ⟨t::tys⟩ ty #[.slice a n c]).run P w=.ok (.int .i64 n) w:=by
 simp[Builtin.len_,A4,D2 hu,Result.andThen,goInt]
def A4E{t:Nat}{v:Value}{c:Bool}{wd:Nat}{rows:List (List U)}(h:U5 m 3 .len [hole i t]=some (v,m'))(hi:Ora.env i=.seq c wd rows)(e:Sat m'.lg):VR ρ v (.int .i64 rows.length)/\K2 m m'/\m.lg.le m'.lg/\E0 Ora.env v=.int .i64 rows.length:=by
 obtain⟨u,d,n,r,f,g,l⟩:=N2 h e;have b:[hole i t].map (E0 Ora.env)=[.seq c wd rows]:=by
  show[Ora.env i]=_;rw[hi]
 rw[b]at d;have d:U.int .i64 rows.length=u:=d;subst d;cases f;refine⟨g ρ,H6 h,H9 h,?_⟩;obtain⟨rfl,rfl⟩:=jF h;obtain⟨h1,k,h3⟩:=e (.lt m.lg.nx 3 .len [hole i t]) (by cases m;exact B5);show Ora.env m.lg.nx=_;rw[h1,b];rfl
def mF{i j:Nat}:∀ {l:List n7},sQ i l=some j->∃ tg,n7.lt j 3 .len [hole i tg] ∈ l
 | [],h=>by cases h
 | e::r,h=>by
   unfold sQ at h;split at h
   .cases h
   .rename_i f t k tg r' he;cases he;cases c:Nat.beq k i && Nat.beq t 3 with
    | true =>
      rw[c]at h;cases h;obtain⟨h1,d⟩:=B7 c;have h1:=A0 h1;have d:=A0 d;subst h1;subst d;exact⟨tg,.head _⟩
    | false =>
      rw[c]at h;obtain⟨b,h3⟩:=mF h;exact⟨b,.tail _ h3⟩
   .rename_i he;cases he;obtain⟨b,h3⟩:=mF h;exact⟨b,.tail _ h3⟩
def cB{t:Nat}{v:Value}(h:GS m i t=some (v,m')):K2 m m'/\m.lg.le m'.lg:=by
 unfold GS at h;split at h
 .cases h;exact⟨K2.refl _,.refl _⟩
 .exact⟨H6 h,H9 h⟩
def lZ{t:Nat}{v:Value}{b:Bool}{wd:Nat}{rows:List (List U)}(h:GS m i t=some (v,m'))(hi:Ora.env i=.seq b wd rows)(d:Sat m'.lg):VR ρ v (.int .i64 rows.length)/\K2 m m'/\m.lg.le m'.lg/\E0 Ora.env v=.int .i64 rows.length:=by
 unfold GS at h;split at h
 .rename_i j e;cases h;obtain⟨tg,hm⟩:=mF e;obtain⟨h1,f,_⟩:=d _ hm;have c:[hole i tg].map (E0 Ora.env)=[.seq b wd rows]:=by
   show[Ora.env i]=_;rw[hi]
  rw[c]at h1;have h1:Ora.env j=.int .i64 rows.length:=h1;refine⟨.hole ?_ ?_,K2.refl _,.refl _,h1⟩
  .rw[h1];rfl
  .rw[h1];rfl
 .exact A4E h hi d
def VY{b:Nat}{v':Value}(h:A00 ρ b u v'):∃ d wd rows a c,u=.seq d wd rows/\v'=.slice a rows.length c:=by
 rcases h with⟨l,wd,h1,e,h3,rfl⟩|⟨l,wd,rows,h1,e,h3,f,g,rfl⟩
 .exact⟨_,_,_,_,_,h3,rfl⟩
 .exact⟨_,_,_,_,_,h3,by rw[f]⟩
def A4F{t:TypeId}{x x' v:Value}(h:A4G P m t x=some (v,m'))(hx:VR ρ x x')(n:Sat m'.lg):(∃ r,(Builtin.len_ ⟨t::tys⟩ ty #[x']).run P w=.ok r w/\VR ρ v r)/\K2 m m'/\m.lg.le m'.lg:=by
 unfold A4G at h;split at h
 .rename_i e b i tg hu;obtain⟨l,h1,f,h3,k⟩:=nV hx;obtain⟨g,wd,rows,d,_⟩:=gG f h3 k;obtain⟨g1,g2,g3,_⟩:=lZ (ρ:=ρ) h d n;rw[d]at f;rcases v6 f with⟨rfl,rfl,rfl⟩|⟨rfl,a,c,rfl,_⟩
  .exact⟨⟨_,lI hu w,g1⟩,g2,g3⟩
  .exact⟨⟨_,lI hu w,g1⟩,g2,g3⟩
 .rename_i e b i tg hu;obtain⟨l,h1,f,h3,k,_⟩:=gA hx;obtain⟨g,wd,rows,d,_⟩:=gG f h3 k;obtain⟨g1,g2,g3,_⟩:=lZ (ρ:=ρ) h d n;rw[d]at f;rcases v6 f with⟨rfl,rfl,rfl⟩|⟨rfl,a,c,rfl,_⟩
  .exact⟨⟨_,lI hu w,g1⟩,g2,g3⟩
  .exact⟨⟨_,lI hu w,g1⟩,g2,g3⟩
 .rename_i e b i tg hu;obtain⟨g,wd,rows,a,c,d,rfl⟩:=VY (fZ hx).1;obtain⟨g1,g2,g3,_⟩:=lZ (ρ:=ρ) h d n;exact⟨⟨_,lI hu w,g1⟩,g2,g3⟩
 .cases h
def EA{v v':Value}{n:Nat}(hv:VR ρ v v')(c:zX v=true)(b:E0 Ora.env v=.int kk (.ofNat n)):∃ j,v'=.int j (.ofNat n):=by
 obtain⟨k,z,rfl,f2,_⟩:=N4 hv (A1 c);rw[f2]at b;injection b with _ hb
 exact⟨k,by rw[hb]⟩
def ZA{h x e x':Value}(hs:RL h x=true)(h1:VR ρ h e)(d:VR ρ x x'):e=x':=by
 unfold RL at hs;split at hs
 .rename_i i t1 j t2
  have:=A0 hs;subst this;have hh:∀ {t:Nat} {v:Value},VR ρ (.complex .f64 i t) v->toV (Ora.env i)=some v:=fun{t v} h=>by
   cases h with
   | pure hp=>simp[I8]at hp
   | hole h _=>exact h
  have a:=hh h1;rw[hh d]at a;exact(A8 a).symm
 .obtain⟨c,b⟩:=B7 hs;have c:=iA c;rw[cN]at b;have b:=eq_of_beq b;subst c;subst b;cases J6 h1;cases J6 d;rfl
 .cases hs
def A2J{wd v:Nat}{d:Bool}{rows:List (List U)}{a b:U}(c:evU (.subs wd) [.seq d v rows,a,b]≠.none):∃ f l g h,a=.int f (.ofNat l)/\b=.int g (.ofNat h)/\v=wd/\l<=h/\h<=rows.length:=by
 cases a with
 | int f k=>cases k with
   | ofNat l=>cases b with
     | int g z2=>cases z2 with
       | ofNat h =>
         have c:(if v=wd/\l<=h/\h<=rows.length then U.seq d wd ((rows.drop l).take (h-l))else .none)≠.none:=c;by_cases e:v=wd/\l<=h/\h<=rows.length
         .exact⟨f,l,g,h,rfl,rfl,e.1,e.2.1,e.2.2⟩
         .rw[A7 e]at c;exact(c rfl).elim
       | negSucc _=>exact(c rfl).elim
     | _=>exact(c rfl).elim
   | negSucc _=>exact(c rfl).elim
 | _=>exact(c rfl).elim
def A4o{G:Nat->Option Obj}{k:Bool}{wd l h mm n c:Nat}{rows:List (List U)}{a:Option Addr}(he:Enc G (.seq k wd rows) (.slice a n c))(M:l<=h)(hh:h<=rows.length)(hm:h<=mm)(H:mm<=c) :
  Enc G (.seq k wd ((rows.drop l).take (h-l))) (.slice (if mm=l then a else a.map (·.add (l*wd))) (h-l) (mm-l))∨a=none:=by
 cases he with
 | sc h=>cases h
 | nil=>exact .inr rfl
 | emp =>
   rename_i a;have f:h=0:=by simpa using hh
   subst f;have g:l=0:=A2;subst g;have K:mm=0:=A2;subst K;exact .inl .emp
 | sl N E F hw p =>
   rename_i a o C T fz;refine .inl ?_;have hlen:((rows.drop l).take (h-l)).length=h-l:=by simp;omega
   have key:∀ b x,(h-l≠0->b=a/\x=o+l*wd)->Enc G (.seq false wd ((rows.drop l).take (h-l))) (.slice (some ⟨b,x,none⟩) (h-l) (mm-l)):=fun b x y=>by
    have B:∀ r row,((rows.drop l).take (h-l))[r]? = some row->h-l≠0/\rows[l+r]? = some row:=fun r row hr=>by
     have t:=(B1.1 hr).1;rw[hlen]at t;rw[E8 t,I0]at hr;exact⟨A2,hr⟩
    have d:(rows.drop l).take (h-l)≠[]->h-l≠0/\rows≠[]:=fun d=>by
     constructor
     .intro e;rw[e]at d;simp at d
     .intro e;subst e;simp at d
    have:=Enc.sl (G:=G) (w:=wd) (rows:=(rows.drop l).take (h-l)) (a:=b) (o:=x) (c:=mm-l) (C:=C) (T:=T) (fz:=fz) A2
     (fun A=>by obtain⟨f,g⟩:=d A;rw[(y f).1];exact E g)
     (fun A=>by
       obtain⟨f,g⟩:=d A;rw[hlen,(y f).2];have h1:=F g;have J:(l+(h-l))*wd<=rows.length*wd:=G0 wd A2;rw[H7]at J;omega)
     (fun row hr=>hw row (dE (dD hr)))
     (fun r row j u v I L D=>by
       obtain⟨f,g⟩:=B r row I;rw[(y f).2]at D;refine p (l+r) row j u v g L ?_;rw[H7,show o+(l*wd+r*wd)+j=o+l*wd+r*wd+j by omega];exact D)
    rw[hlen]at this;exact this
   by_cases q:mm=l
   .rw[A9 q];exact key a o fun h=>by omega
   .rw[A7 q];have e:(Addr.mk a o none).add (l*wd)=⟨a,o+l*wd,none⟩:=by
     unfold Addr.add;split
     .rename_i h;rw[h];rfl
     .rfl
    show Enc G _ (.slice (some ((Addr.mk a o none).add (l*wd))) _ _);rw[e];exact key a (o+l*wd) fun _=>⟨rfl,rfl⟩
def HV{t e:TypeId}{b s:Nat}{l:Loc}{hi:R3}{v x':Value}(hu:P.underlying t=some (.slice e))(hs:H4 P e=some s)(aj:tg=10+s)(h1:ρ b=some l)(F:Enc l.G (Ora.env i) x')(h3:G4 (Ora.env i)=tg)
  (ay:cl=true->A2k x') (h:MP m b i tg cl lo hi mx=some (v,m')) (V:OR ρ lo lo') (N:OR ρ hi hi') (L:OR ρ mx mx') (hS:Sat m'.lg):(∃ r,(Instr.sliceAt t x' lo' hi' mx').run P w=.ok r w/\VR ρ v r)/\K2 m m'/\m.lg.le m'.lg:=by
 have d:∀ {o:R3},OR ρ none o->o=none:=fun{o} h=>by cases o<;>first|rfl|exact h.elim
 have f:∀ {y:Value} {o:R3},OR ρ (some y) o->∃ Y,o=some Y/\VR ρ y Y:=fun{y o} h=>by cases o<;>first|exact h.elim|exact⟨_,rfl,h⟩
 obtain⟨K,wd,rows,e1,e2⟩:=gG F h3 A2;have az:wd=s:=A2;subst az;rw[e1]at F;obtain⟨a,n,c,av,hn,al⟩:∃ a n c,x'=.slice a n c/\n=rows.length/\n<=c:=by
  rcases v6 F with⟨rfl,rfl,rfl⟩|⟨rfl,a,c,rfl,hc⟩
  .exact⟨_,_,_,rfl,rfl,A6 _⟩
  .exact⟨_,_,_,rfl,rfl,hc⟩
 subst av;have go:∀ {m:Mem} {g hv:Value} {cc:Bool} {E:R3} {hh mm:Nat},gH m b i tg g hv cc=some (v,m') ->
   (E=none/\g=.int .i64 0∨∃ y,E=some y/\VR ρ g y)->(∀ kk q,E0 Ora.env hv=.int kk (.ofNat q)->q<=rows.length->q=hh/\Bd mx' c c mm/\(hi'=none->mx'=none)/\Bd hi' mm n hh/\hh<=mm/\(cc=true->mm=hh)) ->
   (∃ r,(Instr.sliceAt t (.slice a n c) E hi' mx').run P w=.ok r w/\VR ρ v r)/\K2 m m'/\m.lg.le m'.lg:=fun{m g hv cc E hh mm} h D aq=>by
  unfold gH at h;obtain⟨hint,h⟩:=A3 h;obtain⟨au,an⟩:=B7 hint;rw[O5]at h;simp only[D5,L9]at h;obtain⟨rfl,rfl⟩:=h;obtain⟨f1,f2,ao,ai,aw,f3,f4⟩:=kL hS (.refl _);have Q:[hole i tg,g,hv].map (E0 Ora.env)=[.seq K wd rows,E0 Ora.env g,E0 Ora.env hv]:=by
   show[Ora.env i,_,_]=_;rw[e1]
  rw[Q]at f1;have ar:tg-10=wd:=A2;rw[ar]at f1;obtain⟨X,l0,T,h0,a1,a2,a3,a4⟩:∃ X l0 T h0,E0 Ora.env g=.int X (.ofNat l0)/\E0 Ora.env hv=.int T (.ofNat h0)/\l0<=h0/\h0<=rows.length:=by
   have ax:evU (.subs wd) [.seq K wd rows,E0 Ora.env g,E0 Ora.env hv]≠.none:=by rw[<- f1,f3];intro h;cases h
   obtain⟨X,l0,T,h0,W,B,_,q3,q4⟩:=A2J ax;exact⟨X,l0,T,h0,W,B,q3,q4⟩
  rw[a1,a2]at f1;have f1:Ora.env m.lg.nx=if wd=wd/\l0<=h0/\h0<=rows.length then U.seq K wd ((rows.drop l0).take (h0-l0))else .none:=f1
  rw[A9 ⟨rfl,a3,a4⟩]at f1;obtain⟨rfl,M,b2,b3,b4,b5⟩:=aq T h0 a2 a4;have b6:Bd E h0 0 l0:=by
   rcases D with⟨rfl,rfl⟩|⟨y,rfl,hy⟩
   .cases a1;exact .inl ⟨rfl,rfl⟩
   .obtain⟨j,rfl⟩:=EA hy au a1;exact .inr ⟨j,rfl,a3⟩
  have O:=uW (P:=P) (a:=a) (n:=n) (c:=c) hu hs M b2 b3 b6 w;have I:Enc l.G (Ora.env m.lg.nx) (.slice (if mm=l0 then a else a.map (·.add (l0*wd))) (h0-l0) (mm-l0)):=by
   rw[f1];rcases A4o (mm:=mm) F a3 a4 b4 (by rcases M with⟨_,rfl⟩|⟨_,_,M⟩<;>omega)with he|rfl
   .exact he
   .rcases v6 F with⟨rfl,rfl,H⟩|⟨_,_,_,H,_⟩
    .cases H;have z1:h0=0:=by simp at a4;exact a4
     have z2:l0=0:=A2;have z3:mm=0:=by
      rcases M with⟨_,rfl⟩|⟨_,_,M⟩<;>omega
     subst z1;subst z2;subst z3;exact .nil
    .cases H
  refine⟨⟨_,O,?_⟩,⟨_,rfl⟩,W3⟩;cases cc with
  | false=>exact .dat h1 I f2 A2 rfl
  | true =>
    refine .clp h1 I f2 A2 rfl ?_;show mm-l0=h0-l0;rw[b5 rfl]
 have A:∀ {hv y:Value} {kk:IntKind} {q:Nat},VR ρ hv y->zX hv=true->E0 Ora.env hv=.int kk (.ofNat q)->∃ j,y=.int j (.ofNat q):=fun h1 F h3=>EA h1 F h3
 have p:∀ {m:Mem} {g hv:Value} {cc:Bool},gH m b i tg g hv cc=some (v,m')->zX hv=true:=fun h=>by
  unfold gH at h;exact(B7 (A3 h).1).2
 have main:∀ g,(lo'=none/\g=.int .i64 0∨∃ y,lo'=some y/\VR ρ g y)->MO m b i tg cl g hi mx=some (v,m')->(∃ r,(Instr.sliceAt t (.slice a n c) lo' hi' mx').run P w=.ok r w/\VR ρ v r)/\K2 m m'/\m.lg.le m'.lg:=fun g D h=>by
  cases hi with
  | some hv =>
    obtain⟨ak,rfl,C⟩:=f N;cases mx with
    | none =>
      cases d L;have h:gH m b i tg g hv false=some (v,m'):=h;have hint:=p h;obtain⟨kk,q,H⟩:∃ kk q,E0 Ora.env hv=.int kk q:=by
       obtain⟨k,z,_,f2,_⟩:=N4 C (A1 hint);exact⟨k,z,f2⟩
      exact go (hh:=q.toNat) (mm:=c) h D fun R B h1 F=>by
       rw[H]at h1;injection h1 with _ h1
       subst h1;obtain⟨j,rfl⟩:=A C hint H;have e:(Int.ofNat B).toNat=B:=rfl;rw[e];exact⟨rfl,.inl ⟨rfl,rfl⟩,fun h=>(by cases h),.inr ⟨j,rfl,A2⟩,A2,fun h=>by cases h⟩
    | some x =>
      obtain⟨x',rfl,Z⟩:=f L;have h:(bif RL hv x then gH m b i tg g hv true else none)=some (v,m'):=h;obtain⟨J,h⟩:=A3 h;have hint:=p h
      have:=ZA J C Z;subst this;obtain⟨kk,q,H⟩:∃ kk q,E0 Ora.env hv=.int kk q:=by
       obtain⟨k,z,_,f2,_⟩:=N4 C (A1 hint);exact⟨k,z,f2⟩
      exact go (hh:=q.toNat) (mm:=q.toNat) h D fun R B h1 F=>by
       rw[H]at h1;injection h1 with _ h1
       subst h1;obtain⟨j,rfl⟩:=A C hint H;have e:(Int.ofNat B).toNat=B:=rfl;rw[e];exact⟨rfl,.inr ⟨j,rfl,A2⟩,fun h=>(by cases h),.inr ⟨j,rfl,A6 _⟩,A6 _,fun _=>rfl⟩
  | none =>
    cases d N;cases mx with
    | some x=>cases h
    | none =>
      cases d L;unfold MO at h;simp only at h;split at h
      .rename_i hv m1 hl;have S:K2 m1 m'/\m1.lg.le m'.lg:=by
        unfold gH at h;obtain⟨_,h⟩:=A3 h;rw[O5]at h;simp only[D5,L9]at h;obtain⟨_,rfl⟩:=h;exact⟨⟨_,rfl⟩,W3⟩
       obtain⟨W,B,q3,q4⟩:=lZ (ρ:=ρ) hl e1 (hS.le S.2);obtain⟨r1,r2,r3⟩:=go (hh:=rows.length) (mm:=c) h D fun R B h1 F=>by
        rw[q4]at h1;injection h1 with _ h1
        have h1:((rows.length:Nat):Int)=(B:Nat):=h1;have:B=rows.length:=A2;subst this;refine⟨rfl,.inl ⟨rfl,rfl⟩,fun _=>rfl,.inl ⟨rfl,hn.symm⟩,A2,fun hc=>?_⟩
        have:=ay hc;have:c=n:=this;omega
       exact⟨r1,B.trans r2,q3.trans r3⟩
      .cases h
 cases lo with
 | none=>exact main _ (.inl ⟨d V,rfl⟩) h
 | some y=>obtain⟨Y,W,B⟩:=f V;exact main _ (.inr ⟨Y,W,B⟩) h
end
end
section
open Go
variable [Ora]
section
variable {P:Program} {base:Nat} {ρ ρ':Ren} {m m':Mem} {w w':World}
def P6(R:Nat->Option Obj)(rows:List (List U))(wd:Nat)(C:Array Value)(o:Nat):Prop :=
 (∀ row ∈ rows,row.length=wd)/\∀ (r:Nat) (row:List U) (j:Nat) (u:U) (v:Value),rows[r]? = some row->row[j]? = some u->C[o+r*wd+j]? = some v->Enc R u v
def P6.mono{R d:Nat->Option Obj}{rows:List (List U)}{wd:Nat}{C:X1}(h:P6 R rows wd C o)(hs:Sub R d):P6 d rows wd C o:=⟨h.1,fun r row j u v a b c=>(h.2 r row j u v a b c).mono hs⟩
def P6.nil{R:Nat->Option Obj}{wd:Nat}{C:X1}:P6 R [] wd C o:=⟨fun _ h=>by(cases h),fun r row j u v h=>by simp at h⟩
def oC{wd:Nat}:∀ {n:Nat} {l:List U} {r:List (List U)},j8 wd n l=some r->r.length=n/\l.length=n*wd/\(∀ row ∈ r,row.length=wd)/\∀ (q:Nat) (row:List U) (j:Nat) (u:U),r[q]? = some row->row[j]? = some u->l[q*wd+j]? = some u
 | 0,[],r,h=>by cases h;exact⟨rfl,by simp,fun _ h=>(by cases h),fun q row j u h=>by simp at h⟩
 | 0,_::_,r,h=>by cases h
 | n+1,l,r,h=>by
   unfold j8 at h;split at h
   .rename_i hle;split at h
    .rename_i g hr;cases h;obtain⟨h1,e,h3,c⟩:=oC hr;have d:l.length=(n+1)*wd:=by
      rw[E7]at e;rw[H7];omega
     refine⟨by simp[h1],d,fun row b=>?_,fun q row j u g1 g2=>?_⟩
     .rcases B6.1 b with rfl|b
      .simp;omega
      .exact h3 row b
     .cases q with
      | zero =>
        simp at g1;subst g1;have f:=(B1.1 g2).1;simp at f;rw[E8 A2]at g2
        simpa using g2
      | succ q =>
        have:=c q row j u (by simpa using g1) g2;rw[I0]at this;rw[show(q+1)*wd+j=wd+(q*wd+j) by rw[H7];omega];exact this
    .cases h
   .cases h
def pO{wd:Nat}:∀ (n:Nat) (l:List U),l.length=n*wd->∃ r,j8 wd n l=some r
 | 0,[],_=>⟨[],rfl⟩
 | 0,_::_,h=>by simp at h
 | n+1,l,h=>by
   rw[H7]at h;obtain⟨r,hr⟩:=pO (wd:=wd) n (l.drop wd) (by rw[E7];omega);refine⟨l.take wd::r,?_⟩;unfold j8;rw[A9 A2,hr]
def oN{R:Nat->Option Obj}{wd n:Nat}{rows:List (List U)}(h:Z5 R us vs)(b:j8 wd n us=some rows):P6 R rows wd ⟨vs⟩ 0:=by
 obtain⟨h1,d,h3,c⟩:=oC b;refine⟨h3,fun r row j u v g1 g2 g3=>h.2 _ u v (c r row j u g1 g2) ?_⟩
 simpa using g3
def yT{α:Type}{l:List α}:∀ n,(OU l n).length=n*l.length
 | 0=>by simp[OU]
 | n+1=>by simp[OU,yT n,H7];omega
def iD(s:List UInt8):(jY s).length=s.length:=by simp[jY]
def JW{R:Nat->Option Obj}(s:List UInt8):P6 R (jY s) 1 ⟨Q1 s⟩ 0:=by
 refine⟨fun row hr=>?_,fun r row j u v g1 g2 g3=>?_⟩
 .unfold jY at hr;obtain⟨b,_,rfl⟩:=I6.1 hr;rfl
 .unfold jY at g1;rw[F9]at g1;cases c:s[r]? with
  | none=>rw[c]at g1;cases g1
  | some b =>
    rw[c]at g1;simp only[L6,D5]at g1;subst g1;cases j with
    | zero =>
      simp at g2;subst g2;have g3:(Q1 s)[0+r*1+0]? = some v:=by simpa using g3
      unfold Q1 at g3;rw[F9,show 0+r*1+0=r by omega,c]at g3;simp only[L6,D5]at g3;subst g3;exact .sc rfl
    | succ j=>simp at g2
def uH{G:Nat->Option Obj}{wd n c:Nat}{rows:List (List U)}(h:Enc G (.seq false wd rows) (.slice (some a) n c))(E:∀ k B,G k=some B->w.heap[k]? = some B) :
  n=rows.length/\∃ new',new'.length=rows.length*wd/\new'.all m9=true/\P6 G rows wd ⟨new'⟩ 0/\∀ (j:Nat) (v':Value),new'[j]? = some v'->w.cell? (a.add j)=some v':=by
 cases h with
 | sc h=>cases h
 | emp=>exact⟨rfl,[],by simp,rfl,.nil,fun j v' h=>by simp at h⟩
 | sl I D A hw f =>
   rename_i a o C T fz;refine⟨rfl,?_⟩;cases hr:rows with
   | nil=>exact⟨[],by simp,rfl,.nil,fun j v' h=>by simp at h⟩
   | cons H J =>
     have p:rows≠[]:=by rw[hr];simp
     rw[<- hr];have hh:=E _ _ (D p);have A:=A p;have hlen:((C.toList.drop o).take (rows.length*wd)).length=rows.length*wd:=by simp;omega
     have b:∀ j,j<rows.length*wd->((C.toList.drop o).take (rows.length*wd))[j]? = C[o+j]? := fun j d=>by
      rw[E8 d,I0];simp
     refine⟨_,hlen,?_,⟨hw,fun r row j u v g1 g2 g3=>?_⟩,fun j v' d=>?_⟩
     .refine D7.2 fun v hv=>?_
      obtain⟨j,d,e⟩:=j9 hv;rw[hlen]at d;have y:C[o+j]? = some v:=by rw[<- b j d,A5 (by rw[hlen];exact d),e]
      have l:0<wd:=by
       rcases T7 wd with h0|h0
       .subst h0;omega
       .exact h0
      have h1:j / wd<rows.length:=by rw[Nat.div_lt_iff_lt_mul l];exact d
      have x:(rows[j / wd]).length=wd:=hw _ (O4 h1);have h3:j%wd<wd:=pX _ l;refine mL (f (j / wd) rows[j / wd] (j%wd) (rows[j / wd])[j%wd] v (A5 h1) (A5 (by rw[x];exact h3)) ?_);have:o+j / wd*wd+j%wd=o+j:=by have:=Nat.div_add_mod j wd;rw[bK]at this;omega
      rw[this];exact y
     .have F:0+r*wd+j<rows.length*wd:=by
       have q:=(B1.1 g1).1;have t:=(B1.1 g2).1;rw[hw _ (D1 g1)]at t;have x:(r+1)*wd<=rows.length*wd:=G0 wd q;rw[H7]at x;omega
      have g3:((C.toList.drop o).take (rows.length*wd))[0+r*wd+j]? = some v:=by simpa using g3
      rw[b _ F]at g3;exact f r row j u v g1 g2 (by rw[show o+r*wd+j=o+(0+r*wd+j) by omega];exact g3)
     .have g:=(B1.1 d).1;rw[hlen]at g;rw[b j g]at d;rw[K8.add_none'];simp[World.cell?,hh,d]
structure XD (P:Program) (ρ':Ren) (w:World) (wd:Nat) (bh:Beh) (gs:List Nat) (y':Value) (rows2:List (List U)) (new':List Value):Prop where
 len:∀ wd',(Builtin.lenOf y').run P wd'=.ok rows2.length wd'
 first:∀ wd':World,wd'.heap=w.heap->(Builtin.firstCells wd rows2.length y').run P wd'=.ok ⟨new'⟩ wd'
 size:new'.length=rows2.length*wd
 flat:new'.all m9=true
 rows:∀ R,(∀ b ∈ gs,∀ l,ρ' b=some l->Sub l.G R)->P6 R rows2 wd ⟨new'⟩ 0
 ev:∀ c nul rows,Ora.env c=.seq nul wd rows->evU (dP wd (hole c (10+wd)) bh).1 ((dP wd (hole c (10+wd)) bh).2.map (E0 Ora.env))=mN nul wd rows rows2
def EM{R:Nat->Option Obj}(h:Z5 R us vs):vs.all m9=true:=by
 refine D7.2 fun v hv=>?_
 obtain⟨j,b,e⟩:=j9 hv;have hu:j<us.length:=by rw[h.1];exact b
 exact mL (h.2 j us[j] v (A5 hu) (by rw[A5 b,e]))
def UQ{td:Td}(L:BM P td){e:TypeId}{wd:Nat}{y y':Value}{bh:Beh}{gs:H5}(h:HR P base ρ m.H w)(p:A2w td P m e wd y=some (bh,gs,sure,m'))(hf:K7 ρ m.n m'.hi)(O:VR ρ y y')(hS:Sat m'.lg)(T:0<wd)(S:H4 P e=some wd) :
  ∃ ρ' d new',St P base ρ ρ' m m' w w/\m.lg.le m'.lg/\n8 ρ m m'/\(∀ b ∈ gs,Hp.get m'.H b=some .frz/\∃ l,ρ' b=some l)/\XD P ρ' w wd bh gs y' d new'/\(sure=true->d≠[]):=by
 unfold A2w at p;split at p
 .cases p;cases Q3 O;refine⟨ρ,[],[],St.refl h,.refl _,.refl,fun b C=>(by cases C),⟨fun _=>rfl,fun _ _=>rfl,by simp,rfl,fun R _=>.nil,fun c g rows B=>?_⟩,fun h=>by cases h⟩;show evU (.snoc wd) [Ora.env c]=_;rw[B];show(if wd=wd/\wd≠0 then(match j8 wd (([]:List U).length / wd) []with|some r=>mN g wd rows r|none=>.none)else .none)=_;rw[A9 ⟨rfl,A2⟩,J7,Nat.zero_div];rfl
 .rename_i a n c;split at p
  .rename_i cs ts hr X;split at p
   .rename_i xs ax m2 hd;cases p;have V:eV m wd (.slice (some a) n c)=some (n,cs):=by simp only[eV,hr]
    obtain⟨f1,new',f2,f3⟩:=vM h V O;obtain⟨ρ2,G,N,Q,A,e5,K⟩:=iT L h hd hf f2 hS;have az:ts.length=wd:=by have:=iU X;rw[S]at this;exact(A8 this).symm
    have E:(xs.map (E0 Ora.env)).length=n*wd:=by
     have:=E1 List.length e5;rw[E9,yT,az]at this;exact this
    obtain⟨d,D⟩:=pO (wd:=wd) n (xs.map (E0 Ora.env)) E;obtain⟨g1,g2,g3,g4⟩:=oC D;refine⟨ρ2,d,new',G,N,Q,A,⟨fun q=>by rw[g1];exact f1 q,fun q I=>by rw[g1];exact f3 q I,?_,?_,fun R hR=>oN (K R hR) D,fun c g rows B=>?_⟩,fun hs=>?_⟩
    .have:=(K (fun k=>w.heap[k]?) (fun b C l Z k o Y=>by
      obtain⟨J,_⟩:=A b C;exact(G.hr.atl Z J).1.2 k o Y)).1
     rw[<- this,E,g1]
    .exact EM (K (fun k=>w.heap[k]?) (fun b C l Z k o Y=>by
      obtain⟨J,_⟩:=A b C;exact(G.hr.atl Z J).1.2 k o Y))
    .show evU (.snoc wd) (Ora.env c::xs.map (E0 Ora.env))=_;rw[B];show(if wd=wd/\wd≠0 then(match j8 wd ((xs.map (E0 Ora.env)).length / wd) (xs.map (E0 Ora.env))with|some r=>mN g wd rows r|none=>.none)else .none)=_;rw[A9 ⟨rfl,A2⟩,E,s5 _ T,D]
    .have:0<n:=A1 hs;intro he;subst he;simp at g1;omega
   .cases p
  .cases p
 .split at p
  .rename_i x b m2 hd;cases p;obtain⟨ρ2,l,G,N,Q,A,e5,K,e7⟩:=L.ok h hd hf O hS;obtain⟨ay,f,d,J,q2⟩:=gG A e5 A2;have W:f=wd:=A2;subst W;have hG:=(G.hr.atl N Q).1.2;rw[J]at A;have M:∀ c g rows,Ora.env c=.seq g f rows->evU (dP f (hole c (10+f)) (.rows x)).1 ((dP f (hole c (10+f)) (.rows x)).2.map (E0 Ora.env))=mN g f rows d:=fun c g rows B=>by
    show evU (.cat f) [Ora.env c,E0 Ora.env x]=_;rw[B,J];simp[evU]
   have t:∀ b' ∈ [b],Hp.get m'.H b'=some .frz/\∃ l,ρ2 b'=some l:=fun b' F=>by
    rcases B6.1 F with rfl|F
    .exact⟨Q,l,N⟩
    .cases F
   rcases v6 A with⟨rfl,rfl,rfl⟩|⟨rfl,a,c,rfl,B⟩
   .exact⟨ρ2,[],[],G,K,e7,t,⟨fun _=>rfl,fun _ _=>rfl,by simp,rfl,fun R _=>.nil,M⟩,fun h=>by cases h⟩
   .obtain⟨_,new',g1,g2,g3,g4⟩:=uH (w:=w) A hG;refine⟨ρ2,d,new',G,K,e7,t,⟨fun _=>rfl,fun q I=>?_,g1,g2,fun R hR=>g3.mono (hR b (.head _) l N),M⟩,fun h=>by cases h⟩;rw[show Builtin.firstCells f d.length (.slice (some a) d.length c)=loadCells a (d.length*f)from rfl];exact lY g1 fun j v' hj=>by rw[cE I];exact g4 j v' hj
  .cases p
 .obtain⟨h1,p⟩:=A3 p;obtain⟨h2,h3⟩:=B7 h1;have h4:=A0 h2;have h5:=A0 h3;cases p;subst h5;obtain⟨s,rfl,f1⟩:=o7 O h4;refine⟨ρ,jY s,Q1 s,St.refl h,.refl _,.refl,fun b C=>(by cases C),⟨fun _=>?_,fun q _=>?_,by simp[jY,Q1],?_,fun R _=>JW s,fun c g rows B=>?_⟩,fun h=>by cases h⟩
  .rw[iD];rfl
  .rw[iD];have e:((ByteArray.extract ⟨⟨s⟩⟩ 0 s.length).data.map fun b=>Value.int .u8 b.toNat)=⟨Q1 s⟩:=by
    rw[gV];apply J3;simp[Q1]
   show(pure ((ByteArray.extract ⟨⟨s⟩⟩ 0 s.length).data.map fun b=>Value.int .u8 b.toNat):Sem X1).run P q=_;rw[e];rfl
  .refine D7.2 fun v hv=>?_
   unfold Q1 at hv;obtain⟨b,_,rfl⟩:=I6.1 hv;rfl
  .show evU .cats [Ora.env c,E0 Ora.env y]=_;rw[B,f1];simp[evU]
end
end
section
open Go
variable [Ora]
section
variable {P:Program} {base:Nat} {ρ ρ':Ren} {m m':Mem} {w w':World}
def Sub.trans{A B C:Nat->Option Obj}(h:Sub A B)(k:Sub B C):Sub A C:=fun q o b=>k q o (h q o b)
structure A3M (P:Program) (base:Nat) (ρ:Ren) (m:Mem) (w:World) (e:TypeId) (wd c:Nat) (gs:List Nat) (old:Option Nat) (x':Value):Prop where
 ex:∃ nul rows,Ora.env c=.seq nul wd rows/\((nul=true/\rows=[]/\x'=.slice none 0 0/\(∀ b,old=some b->∃ ab l,b<=H8/\Hp.get m.H b=some ab/\ab.rw=true/\ρ b=some l/\l.on=false)) ∨
  (nul=false/\∃ b ab l cap C fz,old=some b/\b<=H8/\Hp.get m.H b=some ab/\ab.rw=true/\ρ b=some l/\l.on=true/\x'=.slice (some ⟨l.blk,l.sh,none⟩) rows.length cap/\w.heap[l.blk]? = some (.cells C e fz) /\
    rows.length<=cap/\l.sh+cap*wd<=C.size/\(∀ i,i<C.size->¬ (fz.1<=i/\i<fz.2))/\∀ R,(∀ b ∈ gs,∀ l,ρ b=some l->Sub l.G R)->P6 R rows wd C l.sh))
def NJ{td:Td}(ar:BM P td){e:TypeId}{wd c:Nat}{x x':Value}{gs:H5}{old:Option Nat}(h:HR P base ρ m.H w)(d:FE td P m e wd x=some (c,gs,old,m'))(hf:K7 ρ m.n m'.hi)(hx:VR ρ x x')(hS:Sat m'.lg)(aw:0<wd)(k:H4 P e=some wd) :
  ∃ ρ',St P base ρ ρ' m m' w w/\m.lg.le m'.lg/\n8 ρ m m'/\A3M P base ρ' m' w e wd c gs old x':=by
 unfold FE at d;split at d
 .rw[O5]at d;simp only[hole]at d;cases d;cases Q3 hx;obtain⟨t,e2,_⟩:=kL hS (.refl _);refine⟨ρ,St.wLg h _,W3,n8.lg _,⟨true,[],t,.inl ⟨rfl,rfl,rfl,fun b hb=>by cases hb⟩⟩⟩
 .rename_i b i tg;split at d
  .rename_i c0 tc T g S;obtain⟨h1,d⟩:=A3 d;obtain⟨h1,M⟩:=B7 h1;obtain⟨h1,h3⟩:=B7 h1;obtain⟨M,B⟩:=B7 M;have h1:=A0 h1;have h3:=A0 h3;have M:=A0 M;have B:=A1 B;cases d;subst M;obtain⟨X,bx⟩:=fZ hx;rcases X with⟨l,ak,g1,g2,g3,rfl⟩|⟨l,ak,ah,g1,g2,g3,g4,br,rfl⟩
   .obtain⟨N,inf,t,e2,e3,f⟩:=SqR.ex (h.atl g1 S).1;rcases f with⟨_,f⟩|⟨f,_⟩
    .have:N=wd:=A2;subst this;refine⟨ρ,St.refl h,.refl _,.refl,⟨true,[],f,.inl ⟨rfl,rfl,rfl,fun b' af=>?_⟩⟩⟩;cases af;exact⟨_,l,B,S,rfl,g1,g2⟩
    .rw[g2]at f;cases f
   .obtain⟨N,inf,t,e2,e3,f⟩:=SqR.ex (h.atl g1 S).1;rcases f with⟨f,_⟩|⟨_,f⟩
    .rw[g2]at f;cases f
    .obtain⟨C,fz,T',rows,lg,f1,f2,f3,f4,f5,f6,f7,f8,f9⟩:=f;have:N=wd:=A2;subst this;obtain⟨rfl,f10⟩:=f9 rfl;exact⟨ρ,St.refl h,.refl _,.refl,⟨false,rows,f2,.inr ⟨rfl,b,_,l,l.cap,C,fz,rfl,B,S,rfl,g1,g2,by rw[f3],f1,A2,f5,f10,fun R hR=>⟨f6,fun r row j u v q1 q2 q3=>(f8 r row j u v q1 q2 q3).mono (hR g (.head _) lg f7)⟩⟩⟩⟩
  .cases d
 .rename_i b n c0;split at d
  .rename_i cs T0 bw ts S ao;obtain⟨hq,p⟩:=A3 d;obtain⟨av,an⟩:=B7 hq;have h1:=A0 av;clear d;split at p
   .rename_i xs bt m1 hd;split at p
    .rename_i bs T Z;obtain⟨J,O⟩:=A3 p;clear p;obtain⟨J,B⟩:=B7 J;have h3:=A0 J;have B:=A1 B;subst h3;rw[O5]at O;simp only[hole]at O;cases O;have al:K7 ρ m.n m1.hi:=by simpa using hf
     have ax:Sat m1.lg:=S4.le hS W3;obtain⟨l,cap,q,bz,aa,ae⟩:∃ l cap,ρ b=some l/\n<=cap/\(cap=n∨cap=l.cap)/\x'=.slice (some ⟨l.blk,0+l.sh,none⟩) n cap:=by
      rcases(J2 _ _).mp an with E|E
      .obtain⟨K,Q⟩:=B7 E;have K:=A0 K;have Q:c0<N6:=A1 Q;rcases P8 hx with⟨l,q,_,L,rfl⟩|⟨l,c',q,_,az,V,Y,rfl⟩|⟨a',c',_,_,E,_⟩
       .exact⟨l,c0,q,A2,.inl K,rfl⟩
       .omega
       .omega
      .have E:=A0 E;rcases P8 hx with⟨l,q,_,L,rfl⟩|⟨l,c',q,_,az,V,Y,rfl⟩|⟨a',c',_,_,Q,_⟩
       .omega
       .exact⟨l,c',q,V,.inr (Y E rfl),rfl⟩
       .omega
     obtain⟨⟨aj,C,fz,T1,f1,f2,_⟩,_⟩:=h.atl q S;obtain⟨cs',f4,f5⟩:=eE (ρ:=ρ) (C:=C) (cs:=cs) (s:=l.sh) f2;obtain⟨ag,t,e2,e3,f,e5,e6⟩:=iT ar h hd al f4 ax;obtain⟨⟨_,C1,bu,T2,g1,g2,g3⟩,_⟩:=t.hr.atl (t.ext _ _ q) Z;rw[f1]at g1;cases g1;obtain⟨rfl,g4,g5⟩:=g3 rfl;have A:=iU ao;rw[k]at A;have L:ts.length=wd:=(A8 A).symm;have W:(xs.map (E0 Ora.env)).length=n*wd:=by
      have:=E1 List.length e5;rw[E9,yT,L]at this;exact this
     obtain⟨rows,F⟩:=pO (wd:=wd) n (xs.map (E0 Ora.env)) W;obtain⟨q1,q2,q3,q4⟩:=oC F;obtain⟨d1,d2,_⟩:=kL hS (.refl _);have E:Ora.env m1.lg.nx=.seq false wd rows:=by
      rw[d1];show(if wd=0 then U.none else match j8 wd ((xs.map (E0 Ora.env)).length / wd) (xs.map (E0 Ora.env))with|some r=>.seq false wd r|none=>.none)=_;rw[A7 A2,W,s5 _ aw,F]
     have au:cs'.length=n*wd:=by rw[<- f4.1];exact h1
     obtain⟨inf,y,D⟩:∃ inf,P.info? T1=some inf/\inf.size=wd:=by
      unfold H4 at k;cases hi:P.info? T1 with
      | none=>rw[hi]at k;cases k
      | some inf=>rw[hi]at k;exact⟨inf,rfl,A8 k⟩
     have G:l.sh+cap*wd<=C.size:=by
      rcases aa with rfl|rfl
      .rcases T7 (cap*wd)with h0|h0
       .rw[h0]
        have:=g5 inf y;rw[D]at this;omega
       .have I:cap*wd-1<cs'.length:=A2
        have:=f5 (cap*wd-1) cs'[cap*wd-1] (A5 I)
        have:=(D0.1 this).1;omega
      .have:=g5 inf y;rw[D]at this;exact this.1
     have ai:=St.wLg t.hr (fP m1 (10+wd) (.mk wd) xs);refine⟨ag,St.trans (by simpa using hf) t ai,e2.trans W3,fun j lj hj aq=>by rw[lC];exact e3 j lj hj aq,⟨false,rows,E,.inr ⟨rfl,b,_,l,cap,C,fz,rfl,B,by rw[lC];exact Z,rfl,t.ext _ _ q,aj,by rw[ae,q1,F7],f1,A2,G,g4,fun R hR=>?_⟩⟩⟩;obtain⟨r1,r2⟩:=oN (e6 R hR) F;refine⟨r1,fun r row j u v a1 a2 a3=>r2 r row j u v a1 a2 ?_⟩;have hq:r*wd+j<cs'.length:=by
      have ay:=(B1.1 a1).1;have ad:=(B1.1 a2).1;rw[r1 _ (D1 a1)]at ad;have M:(r+1)*wd<=rows.length*wd:=G0 wd ay;rw[H7]at M;rw[au,<- q1];omega
     have:=f5 (r*wd+j) cs'[r*wd+j] (A5 hq);rw[show l.sh+r*wd+j=l.sh+(r*wd+j) by omega,this]at a3;have a3:=A8 a3;show(Array.mk cs')[0+r*wd+j]? = some v;rw[J0,show 0+r*wd+j=r*wd+j by omega,A5 hq,a3]
    .cases p
   .cases p
  .cases d
 .cases d
end
end
end Go.Sx
