import Derived.Test.YtbbicpheoakeeaaGreatDoorX2
set_option linter.all false
set_option maxRecDepth 100000
set_option maxHeartbeats 4000000
namespace Go.Sx
variable {op:LOp}{s ty:TypeId}{hi i j o tg:Nat}{i' z z':Value}{u:U}{kh kk kl:IntKind}{hi' lo lo' mx mx':Q0}{hs r' vs vs' xs:C9}{tys:List TypeId}{a:Addr}{m1:Mem}{row us:List U}{ts:G9}{cl sure:Bool}
section
open Go
variable [Ora]
section
variable {P:Program} {base:Nat} {ρ:Ren} {m m':Mem} {w:World}
def pk(k:IntKind)(n:Int):I1 (.int k n)=true:=rfl
def VI{op:UnOp}{x x' v:Value}(h:GU m op x=some (v,m'))(hx:VR ρ x x')(g:Sat m'.lg)(w:World):∃ r,(Op.unary op x').run P w=.ok r w/\VR ρ v r:=by
 unfold GU at h;simp only at h;split at h
 .obtain⟨h1,h⟩:=A3 h;obtain⟨b,rfl,e⟩:=gN hx (A0 h1);obtain⟨u,c,l,r,d,f,_⟩:=M1 h g;simp only[B9,F7,e,evU,ev1,unM,ofV]at c;subst c;cases d;exact⟨_,(LN (P:=P) (ρ:=ρ) (op:=.not) (x:=.bool b) (v:=.bool !b) rfl (.pure rfl) w).1,f ρ⟩
 .obtain⟨h1,h⟩:=A3 h;obtain⟨k,n,rfl,e,_⟩:=M2 hx (A1 h1);obtain⟨u,c,l,r,d,f,p⟩:=M1 h g;simp only[B9,F7,e,evU,ev1]at c;subst c;obtain⟨r',g1,g2⟩:=DZ (by rw[l];exact p);rw[d]at g2;cases g2;exact⟨_,(LN (P:=P) (ρ:=ρ) g1 (.pure (pk k n)) w).1,f ρ⟩
def LW{t:TypeId}{x x' v:Value}(h:pF P m s t x=some (v,m'))(hx:VR ρ x x')(f:Sat m'.lg)(w:World):∃ r,(convert s t x').run P w=.ok r w/\VR ρ v r:=by
 unfold pF at h;split at h
 .rename_i j k hs c;obtain⟨h1,h⟩:=A3 h;obtain⟨q,n,rfl,e,_⟩:=M2 hx (A1 h1);obtain⟨u,d,y,r,g,l,p⟩:=M1 h f;simp only[B9,F7,e,evU]at d;subst d;cases g;exact⟨_,by simp[convert,A4,C8 hs,C8 c,Result.andThen,Conv.intToInt],l ρ⟩
 .rename_i hs c;obtain⟨h1,h⟩:=A3 h;cases h;obtain⟨b,rfl,e⟩:=l5 hx (A0 h1);exact⟨_,by simp[convert,A4,C8 hs,C8 c,Result.andThen],hx⟩
 .cases h
def iM{t:Nat}:∀ {cs:C9},e9 t cs=true->∀ {i:Nat} {v:Value},cs[i]? = some v->G2 v=t
 | [],_,i,v,h=>by simp at h
 | c::r,hs,i,v,h=>by
   obtain⟨h1,b⟩:=B4 (show(Nat.beq (G2 c) t && e9 t r)=true from hs);cases i with
   | zero=>simp at h;subst h;exact A0 h1
   | succ i=>exact iM b (by simpa using h)
def WB{t e:TypeId}{n:Nat}{cs:V9}{x' i v:Value}(hu:P.underlying t=some (.array n e))(C:y9 P e=some false)(f:G5 P e=some 1)(F:cs.toList.length=n)(l:e9 tg cs.toList=true)(y:tg<10)
  (g:G2 i<8) (h:T9 m tg .sel (i::cs.toList)=some (v,m')) (hx:VR ρ (.agg cs) x') (hi:VR ρ i i') (x:Sat m'.lg) (w:World):∃ r,(Instr.index t x' i').run P w=.ok r w/\VR ρ v r:=by
 obtain⟨k,z,rfl,e,_⟩:=M2 hi g;obtain⟨u,c,E,r,d,A,D⟩:=M1 h x;simp only[B9,e]at c;cases z with
 | negSucc z=>simp only[evU]at c;subst c;cases d
 | ofNat z =>
   simp only[evU]at c;by_cases q:z<cs.toList.length
   .have b:cs.toList[z]? = some cs.toList[z]:=A5 q;have p:=iM l b;have hm:lJ P t (.agg cs) (.int k (.ofNat z))=some cs.toList[z]:=by
     have B:Nat.blt z n=true:=C4 A2;simp only[lJ,hu,f,B,E1,qC,C,Nat.mul_one];exact b
    obtain⟨v',g1,g2⟩:=sL (P:=P) hm hx (.pure rfl) w;obtain⟨f1,_⟩:=w9 g2 A2;have:u=D6 Ora.env cs.toList[z]:=by
     rw[<- c,B1,F3,b];rfl
    rw[this,f1]at d;cases d;exact⟨_,g1,A ρ⟩
   .rw[B1,T5 (by simp at q ⊢;omega)]at c;subst c;cases d
def AT{e:TypeId}(h:Nat.beq (d9.sizeD P e) 1=true):G5 P e=some 1:=by
 have h:=A0 h;unfold d9.sizeD at h;split at h
 .rename_i n b;rw[b,h]
 .cases h
def GX{t:TypeId}{x x' i v:Value}(h:d9 P m t x i=some (v,m'))(hx:VR ρ x x')(hi:VR ρ i i')(f:Sat m'.lg)(w:World):∃ r,(Instr.index t x' i').run P w=.ok r w/\VR ρ v r:=by
 unfold d9 at h;cases l:!(Nat.blt (G2 i) 8)with
 | true=>rw[l]at h;cases h
 | false =>
   have d:G2 i<8:=by
    have:Nat.blt (G2 i) 8=true:=by simpa using l
    exact A1 this
   rw[l]at h;simp only[D7]at h;split at h
   .rename_i hu;obtain⟨h1,h⟩:=A3 h;obtain⟨s,rfl,f1⟩:=l5 hx (A0 h1);obtain⟨k,z,rfl,f2,_⟩:=M2 hi d;obtain⟨u,c,B,r,g,q,A⟩:=M1 h f;simp only[B9,F7,f1,f2]at c;cases z with
    | negSucc z=>simp only[evU]at c;subst c;cases g
    | ofNat z =>
      simp only[evU]at c;split at c
      .rename_i b y;subst c;cases g;have hm:lJ P t (.string ⟨⟨s⟩⟩) (.int k (.ofNat z))=some (.int .u8 b.toNat):=by
        simp only[lJ,hu,y]
       obtain⟨v',g1,g2⟩:=sL (P:=P) (ρ:=ρ) hm (.pure rfl) (.pure rfl) w;cases J1 g2;exact⟨_,g1,q ρ⟩
      .subst c;cases g
   .rename_i n e hu;split at h
    .rename_i cs k he;obtain⟨h1,h⟩:=A3 h;obtain⟨h1,h3⟩:=B4 h1;obtain⟨h1,p⟩:=B4 h1;exact WB hu (by simp[y9,he]) (AT h3) (A0 h1) p (by have:=L4 k;omega) d h hx hi f w
    .rename_i cs he;obtain⟨h1,h⟩:=A3 h;obtain⟨h1,h3⟩:=B4 h1;obtain⟨h1,p⟩:=B4 h1;exact WB hu (by simp[y9,he]) (AT h3) (A0 h1) p A2 d h hx hi f w
    .cases h
   .cases h
def LZ{t:TypeId}(hu:P.underlying t=some .string){s:List UInt8}{l h:Int}{r:Value}(b:HA s l h=u)(c:toV u=some r):cP P t (.string ⟨⟨s⟩⟩) (some (.int kl l)) (some (.int kh h)) none=some r:=by
 unfold HA at b;split at b
 .rename_i l h;split at b
  .rename_i hh;subst b;cases c;have e:Nat.ble h (ByteArray.size ⟨⟨s⟩⟩)=true:=C4 hh.2;have d:Nat.ble l h=true:=C4 hh.1;simp only[cP,hu,U0,e,d,E1]
  .subst b;cases c
 .subst b;cases c
def GV{t:TypeId}{x x' v:Value}{hi:Q0}(h:kJ P m t x lo hi mx=some (v,m'))(hx:VR ρ x x')(g:OR ρ lo lo')(f:OR ρ hi hi')(D:OR ρ mx mx')(C:Sat m'.lg)(w:World) :
  ∃ r,(Instr.sliceAt t x' lo' hi' mx').run P w=.ok r w/\VR ρ v r:=by
 have c:∀ {o:Q0},OR ρ none o->o=none:=fun{o} h=>by cases o<;>first|rfl|exact h.elim
 have d:∀ {y:Value} {o:Q0},OR ρ (some y) o->∃ G,o=some G/\VR ρ y G:=fun{y o} h=>by cases o<;>first|exact h.elim|exact⟨_,rfl,h⟩
 unfold kJ at h;split at h
 .rename_i hu;cases c D;obtain⟨h1,h⟩:=A3 h;obtain⟨s,rfl,f1⟩:=l5 hx (A0 h1);have B:∀ {y:Value},VR ρ (.string ⟨⟨s⟩⟩) y->y=.string ⟨⟨s⟩⟩:=fun h=>U5 h
  split at h
  .cases h;cases c g;cases c f;have hm:cP P t (.string ⟨⟨s⟩⟩) none none none=some (.string ⟨⟨s⟩⟩):=by
    have e:ByteArray.size ⟨⟨s⟩⟩=s.length:=rfl;simp[cP,hu,U0,e]
   obtain⟨v',g1,g2⟩:=gS (P:=P) (ρ:=ρ) (lo':=none) (hi':=none) (mx':=none) hm (.pure rfl) trivial trivial trivial w;cases U5 g2;exact⟨_,g1,hx⟩
  .obtain⟨q,h⟩:=A3 h;obtain⟨l',rfl,F⟩:=d g;cases c f;obtain⟨k,z,rfl,f2,_⟩:=M2 F (A1 q);obtain⟨u,n,I,r,l,A,H⟩:=M1 h C;simp only[B9,F7,f1,f2,evU]at n;have hm:=LZ (P:=P) (kl:=k) (kh:=.i64) hu n l;have p:cP P t (.string ⟨⟨s⟩⟩) (some (.int k z)) none none=some r:=by
    rw[<- hm];have e:ByteArray.size ⟨⟨s⟩⟩=s.length:=rfl;have b:Nat.ble s.length s.length=true:=C4 (A7 _);have E:((s.length:Nat):Int)=Int.ofNat s.length:=rfl;simp only[cP,hu,U0,e,E,b,E1]
   obtain⟨v',g1,g2⟩:=gS (P:=P) (ρ:=ρ) (lo':=some (.int k z)) (hi':=none) (mx':=none) p (.pure rfl) (VR.pure rfl:VR ρ _ _) trivial trivial w;have:VR ρ r v':=g2;have hp:=gL l;cases g2 with
   | pure _=>exact⟨_,g1,A ρ⟩
   | _=>simp[I1,ixp,Go.Sx.dat,Go.Sx.clp,Go.Sx.own,Go.Sx.dpt,Go.Sx.opt,Go.Sx.yv,Go.Sx.sdt]at hp
  .obtain⟨q,h⟩:=A3 h;obtain⟨K,rfl,hh⟩:=d f;cases c g;obtain⟨k,z,rfl,f2,_⟩:=M2 hh (A1 q);obtain⟨u,n,I,r,l,A,H⟩:=M1 h C;have f0:D6 Ora.env (.int .i64 0)=.int .i64 0:=rfl;simp only[B9,F7,f1,f2,f0,evU]at n;have hm:=LZ (P:=P) (kl:=.i64) (kh:=k) hu n l;have p:cP P t (.string ⟨⟨s⟩⟩) none (some (.int k z)) none=some r:=by
    rw[<- hm];have E:(0:Int)=Int.ofNat 0:=rfl;cases z with
    | negSucc z=>simp only[cP,hu,U0]
    | ofNat z =>
      have J:Nat.ble 0 z=true:=C4 (mB _);simp only[cP,hu,U0,E];cases Nat.ble z (ByteArray.size ⟨⟨s⟩⟩)<;>simp[J]
   obtain⟨v',g1,g2⟩:=gS (P:=P) (ρ:=ρ) (lo':=none) (hi':=some (.int k z)) (mx':=none) p (.pure rfl) trivial (VR.pure rfl:VR ρ _ _) trivial w;have hp:=gL l;cases g2 with
   | pure _=>exact⟨_,g1,A ρ⟩
   | _=>simp[I1,ixp,Go.Sx.dat,Go.Sx.clp,Go.Sx.own,Go.Sx.dpt,Go.Sx.opt,Go.Sx.yv,Go.Sx.sdt]at hp
  .obtain⟨q,h⟩:=A3 h;obtain⟨q,h3⟩:=B4 q;obtain⟨K,rfl,hh⟩:=d f;obtain⟨l',rfl,F⟩:=d g;obtain⟨k,z,rfl,f2,_⟩:=M2 F (A1 q);obtain⟨j,y,rfl,f3,_⟩:=M2 hh (A1 h3);obtain⟨u,n,I,r,l,A,H⟩:=M1 h C;simp only[B9,F7,f1,f2,f3,evU]at n;have hm:=LZ (P:=P) (kl:=k) (kh:=j) hu n l;obtain⟨v',g1,g2⟩:=gS (P:=P) (ρ:=ρ) (lo':=some (.int k z)) (hi':=some (.int j y)) (mx':=none) hm (.pure rfl) (VR.pure rfl:VR ρ _ _) (VR.pure rfl:VR ρ _ _) trivial w;have hp:=gL l;cases g2 with
   | pure _=>exact⟨_,g1,A ρ⟩
   | _=>simp[I1,ixp,Go.Sx.dat,Go.Sx.clp,Go.Sx.own,Go.Sx.dpt,Go.Sx.opt,Go.Sx.yv,Go.Sx.sdt]at hp
 .cases h
def zU{b:Builtin}{ks:Array Bool}{v:Value}(hr:HR P base ρ m.H w)(h:eA P m b vs tys=some (v,m'))(hx:LR ρ vs vs')(q:Sat m'.lg) :
  ∃ s:Sem Value,builtin b ⟨tys⟩ ty ks ⟨vs'⟩=(do pure (.value (<- s)))/\∃ r,s.run P w=.ok r w/\VR ρ v r:=by
 unfold eA at h;split at h
 .obtain⟨x',r1,rfl,h1,l⟩:=hx.tail;cases l.nil_inv;split at h
  .rename_i hu;obtain⟨h3,h⟩:=A3 h;obtain⟨s,rfl,f1⟩:=l5 h1 (A0 h3);obtain⟨u,e,y,r,g,n,x⟩:=M1 h q;simp only[B9,F7,f1,evU]at e;subst e;cases g;rename_i t rest _ _;have hm:ZF P m t (.string ⟨⟨s⟩⟩)=some (.int .i64 s.length):=by simp[ZF,hu]
   obtain⟨g1,_⟩:=QQ (ρ:=ρ) (ty:=ty) (tys:=rest) hr hm (.pure rfl);exact⟨_,rfl,_,g1,n ρ⟩
  .cases h
 .obtain⟨x',r1,rfl,h1,l⟩:=hx.tail;obtain⟨A,C,rfl,h3,p⟩:=l.tail;cases p.nil_inv;obtain⟨d,h⟩:=A3 h;obtain⟨d,f⟩:=B4 d;have d:=A1 d;have f:=A0 f;obtain⟨k,a,rfl,f1,B⟩:=M2 h1 d;obtain⟨j,c,rfl,f2,D⟩:=M2 h3 (f▸d);obtain⟨u,e,y,r,g,n,x⟩:=M1 h q;simp only[B9,F7,f1,f2,evU]at e;subst e;cases g;obtain⟨g1,_⟩:=QL (P:=P) (ρ:=ρ) (ty:=ty) (tys:=⟨tys⟩) (vs:=[.int k a,.int j c]) rfl (.cons (.pure rfl) (.cons (.pure rfl) .nil)) w;exact⟨_,rfl,_,g1,n ρ⟩
 .obtain⟨x',r1,rfl,h1,l⟩:=hx.tail;obtain⟨A,C,rfl,h3,p⟩:=l.tail;cases p.nil_inv;obtain⟨d,h⟩:=A3 h;obtain⟨d,f⟩:=B4 d;have d:=A1 d;have f:=A0 f;obtain⟨k,a,rfl,f1,B⟩:=M2 h1 d;obtain⟨j,c,rfl,f2,D⟩:=M2 h3 (f▸d);obtain⟨u,e,y,r,g,n,x⟩:=M1 h q;simp only[B9,F7,f1,f2,evU]at e;subst e;cases g;obtain⟨g1,_⟩:=QJ (P:=P) (ρ:=ρ) (ty:=ty) (tys:=⟨tys⟩) (vs:=[.int k a,.int j c]) rfl (.cons (.pure rfl) (.cons (.pure rfl) .nil)) w;exact⟨_,rfl,_,g1,n ρ⟩
 .cases h
def SK{v:Value}{k:IntKind}{n:Int}(h:D6 Ora.env v=.int k n):oK Ora.env v=some n:=by
 cases v with
 | complex k i t =>
   cases k with
   | f64 =>
     have h:Ora.env i=.int _ n:=h;simp only[oK,h]
   | f32=>cases h
 | int j n=>cases h;rfl
 | _=>cases h
def FV{v:Value}{n:Int}(h:oK Ora.env v=some n):∃ k,D6 Ora.env v=.int k n:=by
 cases v with
 | complex k i t =>
   cases k with
   | f64 =>
     simp only[oK]at h;split at h
     .rename_i k z he;cases h;exact⟨k,he⟩
     .cases h
   | f32=>cases h
 | int j n=>cases h;exact⟨j,rfl⟩
 | _=>cases h
def RD{s n:Nat}{i v:Value}(h:UB m a s n i=some (v,m'))(hi:VR ρ i i')(g:Sat m'.lg):v=ixp a s i n/\∃ k z,i'=.int k (.ofNat z)/\z<n/\oK Ora.env i=some (.ofNat z):=by
 unfold UB at h;cases e:!(Nat.blt (G2 i) 8)with
 | true=>rw[e]at h;cases h
 | false =>
   have f:G2 i<8:=by
    have:Nat.blt (G2 i) 8=true:=by simpa using e
    exact A1 this
   rw[e]at h;simp only[D7]at h;split at h
   .rename_i b H k W hh lg x;split at h
    .rename_i y p;cases h;obtain⟨u,l,A,r,c,t,_⟩:=M1 x (R2.le g (eS p));have d:=lT (ρ:=ρ) p (t ρ) g;subst d;obtain⟨q,z,rfl,f1,_⟩:=M2 hi f;have f0:D6 Ora.env (.int .i64 (.ofNat n))=.int .i64 (.ofNat n):=rfl;simp only[B9,F7,f1,f0,evU]at l;subst l;have c:(decide (0<=z) && decide (z<Int.ofNat n))=true:=by
      have:=A8 c;exact Value.bool.inj this
     simp only[G8,decide_eq_true_eq]at c;cases z with
     | negSucc z=>exact absurd c.1 (by simp)
     | ofNat z=>exact⟨rfl,q,z,rfl,by have:=c.2;simpa using this,SK f1⟩
    .cases h
   .cases h
def zQ{t:TypeId}{x x' i v:Value}(h:dY P m t x i=some (v,m'))(hx:VR ρ x x')(hi:VR ρ i i')(p:Sat m'.lg)(w:World):∃ r,(Instr.indexAt t x' i').run P w=.ok r w/\VR ρ v r:=by
 unfold dY at h;split at h
 .rename_i n e a hu;split at h
  .rename_i s hs d;obtain⟨rfl,k,z,rfl,f,he⟩:=RD h hi p;obtain⟨l,y,_,rfl⟩:=O0 hx;have g:Nat.blt z n=true:=C4 f;have hm:X1 P t (.pointer (some a)) (.int k (.ofNat z))=some (.pointer (some ⟨a.block,a.off+z*s,none⟩)):=by
    simp only[X1,hu,hs,d,g,E1,bE,E5]
   obtain⟨v',g1,g2⟩:=cG (P:=P) hm hx (.pure rfl) w;obtain⟨l2,b,_,rfl⟩:=O0 g2;have b:ρ a.block=some l2:=b;rw[y]at b;cases b;exact⟨_,g1,.ixp y d he f rfl⟩
  .cases h
 .rename_i e a n c hu;split at h
  .rename_i s hs d;cases q:Nat.beq c (M5+2)with
   | true=>rw[q]at h;cases h
   | false =>
     rw[q]at h;obtain⟨rfl,k,z,rfl,f,he⟩:=RD h hi p;have g:Nat.blt z n=true:=C4 f;have hm:X1 P t (.slice (some a) n c) (.int k (.ofNat z))=some (.pointer (some ⟨a.block,a.off+z*s,none⟩)):=by
      simp only[X1,hu,hs,d,g,E1,bE,E5]
     obtain⟨v',g1,g2⟩:=cG (P:=P) hm hx (.pure rfl) w;obtain⟨l2,b,_,rfl⟩:=O0 g2;have b:ρ a.block=some l2:=b;exact⟨_,g1,.ixp b d he f rfl⟩
  .cases h
 .cases h
def RF{s n:Nat}{i v':Value}(h:VR ρ (ixp a s i n) v'):∃ l z,ρ a.block=some l/\a.spot=none/\oK Ora.env i=some (.ofNat z)/\z<n/\v'=.pointer (some ⟨l.blk,a.off+z*s+l.sh,none⟩):=by
 generalize hx:ixp a s i n=x at h;cases h with
 | ixp h hs hi b hv =>
   simp only[ixp,Value.func.injEq,Z1,J2,Value.pointer.injEq,D2,Value.int.injEq,jZ,true_and,and_true]at hx;obtain⟨rfl,rfl,rfl,rfl⟩:=hx;exact⟨_,_,h,hs,hi,b,hv⟩
 | pure hp=>subst hx;simp[ixp,I1]at hp
 | _=>simp[ixp,Go.Sx.dat,Go.Sx.clp,Go.Sx.own,Go.Sx.dpt,Go.Sx.opt,Go.Sx.yv,Go.Sx.sdt]at hx
def zS{x x' v:Value}(h:dZ P m s x i=some (v,m'))(hx:VR ρ x x')(w:World):∃ r,(Instr.fieldAt s x' i).run P w=.ok r w/\VR ρ v r:=by
 unfold dZ at h;split at h
 .rename_i a k j n;split at h
  .rename_i p hu;split at h
   .rename_i f e d;split at h
    .rename_i z g;cases h;obtain⟨l,y,h1,q,h3,c,rfl⟩:=RF (n:=n) (s:=k) (i:=j) hx;have hm:cH P s (.pointer (some ⟨a.block,a.off+y*k,none⟩)) i=some (.pointer (some ⟨a.block,a.off+y*k+f.offset,none⟩)):=by
      simp only[cH,hu,e,g,bE,E5]
     obtain⟨v',g1,g2⟩:=lN (P:=P) (ρ:=ρ) hm (.ptr h1) w;obtain⟨l2,b,_,rfl⟩:=O0 g2;have b:ρ a.block=some l2:=b;rw[h1]at b;cases b;refine⟨_,g1,?_⟩;simp only[bE,E5];refine .ixp (a:=⟨a.block,a.off+f.offset,none⟩) h1 rfl h3 c ?_;simp only[Value.pointer.injEq,D2,Addr.mk.injEq,true_and,and_true];omega
    .cases h
   .cases h
  .cases h
 .cases h
def tG{cs:C9}{s:Nat}:∀ {n o:Nat} {l:C9},vI cs s o n=some l->l.length=n/\∀ z,z<n->cs[o+z*s]? = l[z]?
 | 0,o,l,h=>by cases h;exact⟨rfl,fun z c=>by omega⟩
 | n+1,o,l,h=>by
   unfold vI at h;split at h
   .rename_i v r hv hr;cases h;obtain⟨h1,b⟩:=tG hr;refine⟨by simp[h1],fun z c=>?_⟩;cases z with
    | zero=>simpa using hv
    | succ z =>
      have:=b z A2;rw[Nat.succ_mul,show o+(z*s+s)=o+s+z*s by omega]
      simpa using this
   .cases h
def tH{cs cs':C9}{s n:Nat}{i:Value}{z:Nat}(he:oK Ora.env i=some (.ofNat z))(q:z<n)(B:LR ρ cs cs'):∀ {k o:Nat} {m m':Mem} {r:C9},cB m cs s n i o k=some (r,m')->Sat m'.lg ->
  LR ρ r ((cs'.drop (o+z*s)).take k)/\r.length=k
 | 0,o,m,m',r,h,hS=>by cases h;exact⟨by simpa using LR.nil,rfl⟩
 | k+1,o,m,m',r,h,hS=>by
   unfold cB at h;split at h
   .rename_i v l d;obtain⟨g,h⟩:=A3 h;obtain⟨g,e⟩:=B4 g;have e:G2 v<10:=A1 e;split at h
    .rename_i hh m1 h1;split at h
     .rename_i I m2 A;cases h;obtain⟨p,t⟩:=tH he q B A hS;obtain⟨u,f,H,C,y,D,_⟩:=M1 h1 (R2.le hS (fI A).1);obtain⟨g1,g2⟩:=tG d;have b:=g2 z q;have c:z<(v::l).length:=by rw[g1];exact q
      rw[A5 c]at b;obtain⟨F,f1,f2⟩:=B.get b;have x:=iM g (A5 c);obtain⟨t1,_⟩:=w9 f2 A2;obtain⟨G,E⟩:=FV he;simp only[B9,E,evU]at f;have f:u=D6 Ora.env (v::l)[z]:=by
       rw[<- f];show(List.map (D6 Ora.env) (v::l)).getD z .none=_;rw[B1,F3,A5 c];rfl
      rw[f,t1]at y;cases y;refine⟨?_,by simp[t]⟩;have:(cs'.drop (o+z*s)).take (k+1)=C::(cs'.drop (o+1+z*s)).take k:=by
       rw[Z7 (B0.1 f1).1,List.take_succ_cons,(B0.1 f1).2,show o+z*s+1=o+1+z*s by omega]
      rw[this];exact .cons (D ρ) p
     .cases h
    .cases h
   .cases h
def QN{t:TypeId}{l:Loc}{z s n k:Nat}{i:Value}{cs:C9}(h:HR P base ρ m.H w)(hr:s8 m a ((n-1)*s+k)=some cs)(g:ρ a.block=some l)(he:oK Ora.env i=some (.ofNat z))(f:z<n)(e:cB m cs s n i 0 k=some (hs,m'))(d:Sat m'.lg) :
  ∃ rs,LR ρ hs rs/\rs.length=k/\∀ (j:Nat) (v':Value),rs[j]? = some v'->w.cell? ⟨l.blk,a.off+z*s+l.sh+j,none⟩=some v':=by
 obtain⟨r',h1,p,h3⟩:=Z2 h hr g;obtain⟨g1,g2⟩:=tH he f h1 e d;rw[F1]at g1;refine⟨_,g1,g1.1▸g2,fun j v' c=>?_⟩;have b:j<k:=by
  have:=(B0.1 c).1;simp at this;omega
 rw[F2 b,H7]at c
 have:=h3 _ v' c;rw[show a.off+z*s+l.sh+j=a.off+l.sh+(z*s+j) by omega];exact this
def LU{t:TypeId}{x x' v:Value}(h:HR P base ρ m.H w)(b:pE P m t x=some (v,m'))(hx:VR ρ x x')(f:Sat m'.lg):∃ r,(Instr.loadAt t x').run P w=.ok r w/\VR ρ v r:=by
 unfold pE at b;split at b
 .rename_i a s i n;obtain⟨l,z,h1,A,h3,e,rfl⟩:=RF (n:=n) (s:=s) (i:=i) hx;split at b
  .rename_i d;split at b
   .rename_i cs hr;split at b
    .rename_i hh m2 c;cases b;obtain⟨rs,g1,g2,g3⟩:=QN (t:=t) h hr h1 h3 e c f;obtain⟨v',y,rfl,k,q⟩:=g1.tail;refine⟨v',?_,k⟩
     have:=g3 0 v' rfl;simp[Instr.loadAt,Instr.sureAddr,loadVar,A4,bT d,Result.andThen,run_load,show w.cell? ⟨l.blk,a.off+z*s+l.sh,none⟩=some v' from by simpa using this]
    .cases b
   .cases b
  .rename_i p d g;split at b
   .rename_i cs hr;split at b
    .rename_i hh m2 c;cases b;obtain⟨rs,g1,g2,g3⟩:=QN (t:=t) h hr h1 h3 e c f;refine⟨.agg ⟨rs⟩,?_,.agg g1.1 g1.2⟩;simp[Instr.loadAt,Instr.sureAddr,loadVar,A4,bT d,K4 g,Result.andThen,K0 g2 g3]
    .cases b
   .cases b
  .cases b
 .cases b
def A1r{fr:Fr}{g:Operand->Value}{o:Oper}{v:Value}(h:HR P base ρ m.H w)(f:VK P fr m o.op=some (v,m'))(C:FR ρ fr g o.op)(l:Sat m'.lg):NOk P base ρ m w (execOp g o) v m':=by
 obtain⟨_,lg,rfl⟩:=OU f;have p:St P base ρ ρ m (m.wLg lg) w w:=St.wLg h lg;obtain⟨dst,op,ty,pos,G,J⟩:=o;simp only at f C;have d:∀ {x},x ∈ op.operands.toList->VR ρ (ev fr x) (g x):=fun hx=>C _ hx
 have fin:∀ {s:Sem Value},(∃ r,s.run P w=.ok r w/\VR ρ v r)->NOk P base ρ m w (do pure (.value (<- s))) v (m.wLg lg):=fun{s} ⟨r,h1,I⟩=>NOk.of ⟨r,ρ,w,h1,I,p⟩
 unfold VK at f;split at f
 .rename_i c a b;have B:=d (x:=c) (by simp[Op.operands]);unfold vH at f;obtain⟨H,n,W,hi,l0⟩:=m;simp only at f;split at f
  .rename_i l1 A;simp only[D2,L8]at f;obtain⟨rfl,f⟩:=f;have q:Sat l1:=by
    have:l1=(Mem.wLg ⟨H,n,W,hi,l0⟩ lg).lg:=by rw[<- f]
    rw[this];exact l
   have:=lT A B q;exact⟨g a,ρ,w,.inl (by simp[execOp,this,asBool]),d (by simp[Op.operands]),p⟩
  .rename_i l1 A;simp only[D2,L8]at f;obtain⟨rfl,f⟩:=f;have q:Sat l1:=by
    have:l1=(Mem.wLg ⟨H,n,W,hi,l0⟩ lg).lg:=by rw[<- f]
    rw[this];exact l
   have:=lT A B q;exact⟨g b,ρ,w,.inl (by simp[execOp,this,asBool]),d (by simp[Op.operands]),p⟩
  .cases f
 .rename_i op t x y K;have hx:=d (x:=x) (by simp[Op.operands]);have k:=d (x:=y) (by simp[Op.operands]);refine fin (s:=do eqGuard op t x y (g x) (g y);binOp op t (g x) (g y)) ?_;split at f
  .rename_i r hr;cases f;exact SR hr hx k l w
  .rename_i hr;exact VL f hx k hr l w
 .rename_i op t x;exact fin (s:=Op.unary op (g x)) (VI f (d (by simp[Op.operands])) l w)
 .exact fin (LW f (d (by simp[Op.operands])) l w)
 .rename_i t x lo hi mx;exact fin (s:=Instr.sliceAt t (g x) (lo.map g) (hi.map g) (mx.map g)) (GV f (d (x:=x) (by simp[Op.operands])) (iX (g:=g) fun y k=>d (by simp[Op.operands]at k ⊢;exact .inr (.inl k))) (iX (g:=g) fun y k=>d (by simp[Op.operands]at k ⊢;exact .inr (.inr (.inl k)))) (iX (g:=g) fun y k=>d (by simp[Op.operands]at k ⊢;exact .inr (.inr (.inr k)))) l w)
 .exact fin (GX f (d (by simp[Op.operands])) (d (by simp[Op.operands])) l w)
 .exact fin (zQ f (d (by simp[Op.operands])) (d (by simp[Op.operands])) l w)
 .exact fin (zS f (d (by simp[Op.operands])) w)
 .rename_i t x;exact fin (s:=Instr.loadAt t (g x)) (LU h f (d (by simp[Op.operands])) l)
 .rename_i b xs tys;have l1:=cS (ρ:=ρ) (fr:=fr) (g:=g) (xs:=xs.toList) fun x hx=>d (by show x ∈ (#[]++xs:Array Operand).toList;simpa using hx)
  obtain⟨ks,F⟩:∃ ks,execOp g ⟨dst,.call ⟨.builtin b,xs,tys⟩,ty,pos,G,J⟩=builtin b tys ty ks (xs.map g):=⟨_,rfl⟩;obtain⟨s,e,hs⟩:=zU (ty:=ty) (ks:=ks) h f l1 l;have E:xs.map g=⟨xs.toList.map g⟩:=by apply I7;simp
  rw[F,E];have D:tys=⟨tys.toList⟩:=rfl;rw[D,e];exact fin hs
 .cases f
end
end
section
open Go
variable [Ora]
section
variable {P:Program} {base:Nat} {ρ ρ':Ren} {m m':Mem} {w w':World}
def J9.step(d:J9 ρ m.n hi)(st:St P base ρ ρ' m m1 w w'):J9 ρ' m1.n hi:=fun b h1 c=>by
 cases e:ρ' b with
 | none=>rfl
 | some l =>
   cases h0:ρ b with
   | some l0=>rw[d b (B8 st.nle h1) c]at h0;cases h0
   | none=>have:=(st.new b l e h0).2;omega
def J9.less{n hi':Nat}(d:J9 ρ n hi)(h:hi'<=hi):J9 ρ n hi':=fun b h1 c=>d b h1 (D4 c h)
def eZ(m:Mem)(t:Nat)(op:LOp)(xs:List Value):Lg:=⟨m.lg.nx+1,m.lg.pi,.dt m.lg.nx t op xs::m.lg.log⟩
def N2{t:Nat}{k:Nat->Mem->Res}:uU m t op xs k=k m.lg.nx (m.wLg (eZ m t op xs)):=by
 obtain⟨H,n,W,hi,⟨nx,pi,log⟩⟩:=m;simp only[uU,E5,H8];rfl
def IX{t:Nat}{k:Nat->Mem->Option (C9×Mem)}:X4.letDo t op xs m k=k m.lg.nx (m.wLg (eZ m t op xs)):=by
 obtain⟨H,n,W,hi,⟨nx,pi,log⟩⟩:=m;simp only[X4.letDo,E5,H8];rfl
@[simp] theorem Z8(lg:Lg):(m.wLg lg).lg=lg:=by cases m;rfl
@[simp] theorem kG(lg:Lg):(m.wLg lg).H=m.H:=by cases m;rfl
@[simp] theorem UX(lg:Lg):(m.wLg lg).n=m.n:=by cases m;rfl
@[simp] theorem LL(lg:Lg):(m.wLg lg).hi=m.hi:=by cases m;rfl
@[simp] theorem B1F(lg:Lg):(m.wLg lg).W=m.W:=by cases m;rfl
def V5{t:Nat} :m.lg.le (m.wLg (eZ m t op xs)).lg:=by
 rw[Z8];exact⟨[_],rfl⟩
def jU{t:Nat}{lg:Lg}(e:Sat lg)(d:(m.wLg (eZ m t op xs)).lg.le lg):Ora.env m.lg.nx=evU op (xs.map (D6 Ora.env))/\F9 (Ora.env m.lg.nx)=t/\∃ b wd rows,Ora.env m.lg.nx=.seq b wd rows/\t=10+wd:=by
 obtain⟨h1,c,b,wd,rows,h3⟩:=e _ (d.subset (by rw[Z8];exact B2));exact⟨h1,c,b,wd,rows,h3,by rw[<- c,h3];rfl⟩
def dH{b:Nat}(h:oA m b=true):Hp.get m.H b=some .frz:=by
 unfold oA at h;split at h
 .assumption
 .cases h
def RJ{b:Nat}(h:oA m b=true):b<=H5:=by
 unfold oA at h;split at h
 .exact A1 h
 .cases h
def A0b{b:Nat}(hr:HR P base ρ m.H w)(h:oA m b=true):∃ l,ρ b=some l:=by
 obtain⟨l,h1,_⟩:=hr.at_ b (RJ h) _ (dH h);exact⟨l,h1⟩
def Q1{k:Nat->Mem->Option (Value×Nat×Mem)}{r:Value×Nat×Mem}(h:fZ m k=some r):∃ m1,Y6 m .frz (fun _=>undef)=some (undef,m1)/\k m.n m1=some r/\m1.H=m.H.set m.n (some .frz)/\m.n<=H5/\m1.lg=m.lg:=by
 obtain⟨H,n,W,hi,lg⟩:=m;simp only[fZ,E5,eD]at h;obtain⟨h1,b⟩:=A3 h;refine⟨_,?_,b,rfl,A1 h1,rfl⟩;simp only[Y6,E5,eD,h1,E1]
def kB(G:Nat->Option Obj):Loc:=⟨0,0,0,0,G,false⟩
def St.region{G:Nat->Option Obj}(h:HR P base ρ m.H w)(d:Y6 m .frz (fun _=>undef)=some (undef,m1))(r:J9 ρ m.n m1.hi)
  (g:∀ k o,G k=some o->w.heap[k]? = some o/\∃ id ab l,id<=H5/\Hp.get m.H id=some ab/\ρ id=some l/\Tf ab l k/\ab.rw=false) :
  upd ρ m.n (kB G) m.n=some (kB G)/\Hp.get m1.H m.n=some .frz/\St P base ρ (upd ρ m.n (kB G)) m m1 w w:=by
 obtain⟨h1,t,h3⟩:=St.new0 (l':=kB G) h d r ⟨rfl,fun k o v=>(g k o v).1⟩ rfl fun q b=>by
  rcases b with⟨b,_⟩|⟨_,o,b⟩
  .cases b
  .obtain⟨g1,id,ab,l,g2,g3,g4,g5,g6⟩:=g q o b;refine⟨⟨id,ab,l,g2,g3,g4,g5⟩,fun p f a l2 c x hr y e=>?_⟩
   have:=((h.atl x c).2 hr y).2 id g2 ab l g3 g4 (e▸g5.2);subst this;rw[g3]at c;have c:=A8 c;subst c;rw[g6]at hr;cases hr
 refine⟨t,?_,h3⟩;obtain⟨hle,_,rfl⟩:=L3 d;show Hp.get (m.H.set m.n (some .frz)) m.n=_;rw[E8 _ _ _ _ hle hle,A9 rfl]
theorem mU{b i t:Nat}{v':Value}(h:VR ρ (dat b i t) v'):∃ l,ρ b=some l/\Enc l.G (Ora.env i) v'/\F9 (Ora.env i)=t/\10<=t:=by
 generalize hx:dat b i t=x at h;cases h with
 | dat h he d c e =>
   simp only[dat,Value.func.injEq,Z1,J2,Value.pointer.injEq,D2,Addr.mk.injEq,Value.complex.injEq,true_and,and_true]at hx;obtain⟨rfl,rfl,rfl⟩:=hx;exact⟨_,h,he,d,c⟩
 | pure hp=>subst hx;simp[dat,I1]at hp
 | _=>simp[ixp,Go.Sx.dat,Go.Sx.clp,Go.Sx.own,Go.Sx.dpt,Go.Sx.opt,Go.Sx.yv,Go.Sx.sdt]at hx
theorem fM{b i t:Nat}{v':Value}(h:VR ρ (clp b i t) v'):∃ l,ρ b=some l/\Enc l.G (Ora.env i) v'/\F9 (Ora.env i)=t/\10<=t/\A1C v':=by
 generalize hx:clp b i t=x at h;cases h with
 | clp h he e c f d =>
   simp only[clp,Value.func.injEq,Z1,J2,Value.pointer.injEq,D2,Addr.mk.injEq,Value.complex.injEq,true_and,and_true]at hx;obtain⟨rfl,rfl,rfl⟩:=hx;exact⟨_,h,he,e,c,d⟩
 | pure hp=>subst hx;simp[clp,I1]at hp
 | _=>simp[ixp,Go.Sx.dat,Go.Sx.clp,Go.Sx.own,Go.Sx.dpt,Go.Sx.opt,Go.Sx.yv,Go.Sx.sdt]at hx
theorem fL{b i t:Nat}{v':Value}(h:VR ρ (own b i t) v'):YE ρ b (Ora.env i) v'/\F9 (Ora.env i)=t:=by
 generalize hx:own b i t=x at h;cases h with
 | own h c d =>
   simp only[own,Value.func.injEq,Z1,J2,Value.pointer.injEq,D2,Addr.mk.injEq,Value.complex.injEq,true_and,and_true]at hx;obtain⟨rfl,rfl,rfl⟩:=hx;exact⟨h,c⟩
 | pure hp=>subst hx;simp[own,I1]at hp
 | _=>simp[ixp,Go.Sx.dat,Go.Sx.clp,Go.Sx.own,Go.Sx.dpt,Go.Sx.opt,Go.Sx.yv,Go.Sx.sdt]at hx
def EP{b t:Nat}{v':Value}(h:VR ρ (dpt b i t z o) v'):A8f ρ b (Ora.env i) (oK Ora.env z) o v'/\F9 (Ora.env i)=t:=by
 generalize hx:dpt b i t z o=x at h;cases h with
 | dpt h c d =>
   simp only[dpt,Value.func.injEq,Z1,J2,Value.pointer.injEq,D2,Addr.mk.injEq,Value.complex.injEq,Value.int.injEq,jZ,true_and,and_true]at hx;obtain⟨rfl,⟨rfl,rfl⟩,rfl,rfl⟩:=hx;exact⟨h,c⟩
 | pure hp=>subst hx;simp[dpt,I1]at hp
 | _=>simp[ixp,Go.Sx.dat,Go.Sx.clp,Go.Sx.own,Go.Sx.dpt,Go.Sx.opt,Go.Sx.yv,Go.Sx.sdt]at hx
def vL{b t:Nat}{v':Value}(h:VR ρ (opt b i t z o) v'):A7q ρ b (Ora.env i) (oK Ora.env z) o v'/\F9 (Ora.env i)=t:=by
 generalize hx:opt b i t z o=x at h;cases h with
 | opt h c d =>
   simp only[opt,Value.func.injEq,Z1,J2,Value.pointer.injEq,D2,Addr.mk.injEq,Value.complex.injEq,Value.int.injEq,jZ,true_and,and_true]at hx;obtain⟨rfl,⟨rfl,rfl⟩,rfl,rfl⟩:=hx;exact⟨h,c⟩
 | pure hp=>subst hx;simp[opt,I1]at hp
 | _=>simp[ixp,Go.Sx.dat,Go.Sx.clp,Go.Sx.own,Go.Sx.dpt,Go.Sx.opt,Go.Sx.yv,Go.Sx.sdt]at hx
def CA{b c tc g t:Nat}{T:TypeId}{v':Value}(h:HR P base ρ m.H w)(L:Hp.get m.H b=some (.sq c tc T g true))(hv:VR ρ (own b i t) v')(B:tc=t)(y:Hp.get m.H g=some .frz)
  (N:Y6 m .frz (fun _=>undef)=some (undef,m1)) (O:J9 ρ m.n m1.hi):∃ l,St P base ρ (upd ρ m.n l) m m1 w w/\upd ρ m.n l m.n=some l/\Hp.get m1.H m.n=some .frz/\Enc l.G (Ora.env c) v'/\F9 (Ora.env c)=t:=by
 obtain⟨x,M⟩:=fL hv;rcases x with⟨l,wd,h1,E,h3,rfl⟩|⟨l,wd,rows,h1,E,h3,Y,X,rfl⟩
 .obtain⟨q,_⟩:=h.atl h1 L;obtain⟨A,inf,K,S,Q,d⟩:=SqR.ex q;rcases d with⟨_,d⟩|⟨d,_⟩
  .obtain⟨g1,g2,g3⟩:=St.region (G:=fun _=>none) h N O (fun k o f=>by cases f);exact⟨_,g3,g1,g2,by rw[d];exact .nil,by rw[d,<- B,K];rfl⟩
  .rw[E]at d;cases d
 .obtain⟨q,_⟩:=h.atl h1 L;obtain⟨A,inf,K,S,Q,d⟩:=SqR.ex q;rcases d with⟨d,_⟩|⟨_,d⟩
  .rw[E]at d;cases d
  .obtain⟨C,fz,F,I,lg,f1,f2,f3,f4,f5,f6,f7,f8,f9⟩:=d;obtain⟨J,_⟩:=h.atl f7 y;have p:∀ k o,lg.G k=some o->w.heap[k]? = some o:=J.2;let G:Nat->Option Obj:=fun k=>if k=l.blk then some (.cells C F fz)else lg.G k
   have D:∀ k o,lg.G k=some o->G k=some o:=fun k o f=>by
    show(if k=l.blk then _ else _)=_;by_cases e:k=l.blk
    .subst e;rw[A9 rfl]
     have:=p _ _ f;rw[f1]at this;exact this
    .rw[A6 e];exact f
   obtain⟨g1,g2,g3⟩:=St.region (G:=G) h N O fun k o f=>by
    have f:(if k=l.blk then some (.cells C F fz)else lg.G k)=some o:=f;by_cases e:k=l.blk
    .subst e;rw[A9 rfl]at f;exact⟨by rw[f1];exact f,b,_,l,h.dom _ _ h1,L,h1,⟨rfl,.inl ⟨rfl,E,rfl⟩⟩,rfl⟩
    .rw[A6 e]at f;exact⟨p _ _ f,g,_,lg,h.dom _ _ f7,y,f7,⟨rfl,.inr ⟨rfl,o,f⟩⟩,rfl⟩
   refine⟨_,g3,g1,g2,?_,by rw[f2,<- B,K];rfl⟩;rw[f2,<- f3];refine .sl (G:=G) (C:=C) (T:=F) (fz:=fz) A2 (fun _=>?_) (fun _=>?_) f6 fun r row j u v R W V=>(f8 r row j u v R W V).mono D
   .show(if l.blk=l.blk then _ else _)=_;rw[A9 rfl]
   .have:=F4 A f4;rw[<- f3]at this;omega
def BR.thaw{c t g:Nat}{T:TypeId}{l:Loc}(h:BR P ρ (.sq c t T g false) l w):BR P ρ (.sq c t T g true) l w:=by
 obtain⟨wd,inf,h1,e,h3,b⟩:=SqR.ex h;refine⟨⟨wd,inf,h1,e,h3,b.imp (fun x=>x) fun⟨d,f⟩=>⟨d,?_⟩⟩⟩;obtain⟨C,fz,k,rows,lg,h1,e,h3,b,f,n,p,q,r⟩:=f;exact⟨C,fz,k,rows,lg,h1,e,h3,b,f,n,p,q,fun h=>by cases h⟩
def wM{id:Nat}{ab:AB}(h:cA m id ab=some m')(b:j<=H5):Hp.get m'.H j=if j=id then some ab else Hp.get m.H j:=by
 obtain⟨hle,rfl⟩:=U4 h;exact E8 _ _ _ _ hle b
def kX{ab:AB}{k:Nat->Value}{v:Value}(h:Y6 m ab k=some (v,m'))(b:j<=H5):Hp.get m'.H j=if j=m.n then some ab else Hp.get m.H j:=by
 obtain⟨hle,_,rfl⟩:=L3 h;exact E8 _ _ _ _ hle b
def DJ{t:Nat}{v v' x:Value}{b:Nat}(h:HR P base ρ m.H w)(d:toD t v m=some (x,b,m'))(J:J9 ρ m.n m'.hi)(hv:VR ρ v v')(Z:Sat m'.lg) :
  ∃ ρ' l,St P base ρ ρ' m m' w w/\ρ' b=some l/\Hp.get m'.H b=some .frz/\Enc l.G (D6 Ora.env x) v'/\F9 (D6 Ora.env x)=t/\m.lg.le m'.lg:=by
 unfold toD at d;split at d
 .rename_i K i tg;obtain⟨h1,f⟩:=A3 d;cases f;obtain⟨h1,f⟩:=B4 h1;have h1:=A0 h1;obtain⟨l,r,y,C,M⟩:=mU hv;exact⟨ρ,l,St.refl h,r,dH f,y,C.trans h1,.refl _⟩
 .rename_i K i tg;obtain⟨h1,f⟩:=A3 d;cases f;obtain⟨h1,f⟩:=B4 h1;have h1:=A0 h1;obtain⟨l,r,y,C,M,_⟩:=fM hv;exact⟨ρ,l,St.refl h,r,dH f,y,C.trans h1,.refl _⟩
 .rename_i K i tg;split at d
  .rename_i c tc T g D;obtain⟨h1,f⟩:=A3 d;obtain⟨h1,h3⟩:=B4 h1;obtain⟨h1,B⟩:=B4 h1;have h1:=A0 h1;have B:=A0 B;obtain⟨m1,I,N,_,_,E⟩:=Q1 f;cases N;subst h1;obtain⟨l,r,y,C,M,Q⟩:=CA h D hv B (dH h3) I J;exact⟨_,l,r,y,C,M,Q,by rw[E];exact .refl _⟩
  .rename_i c tc T g D;obtain⟨h1,f⟩:=A3 d;obtain⟨h1,h3⟩:=B4 h1;have V:=RJ h3;obtain⟨h1,B⟩:=B4 h1;have h1:=A0 h1;have B:=A0 B;split at f
   .rename_i m1 hs;obtain⟨m2,I,N,_,_,E⟩:=Q1 f;cases N;subst h1;have X:∃ l0,ρ K=some l0:=by
     rcases(fL hv).1 with⟨l,_,h1,_⟩|⟨l,_,_,h1,_⟩<;>exact⟨l,h1⟩
    obtain⟨l0,F⟩:=X;have Y:=(h.atl F D).1;have p:=St.same0 h hs D rfl F Y.thaw (fun q hq=>by
     rcases hq with⟨_,a,b⟩|⟨a,_⟩
     .exact .inl ⟨rfl,a,b⟩
     .cases a)
    have hle:=(U4 hs).1;have R:g≠K:=fun e=>by subst e;rw[dH h3]at D;cases D
    have S:Hp.get m1.H K=some (.sq c tc T g true):=by rw[wM hs hle,A9 rfl]
    have O:Hp.get m1.H g=some .frz:=by rw[wM hs V,A6 R];exact dH h3
    have W:m1.n=m.n:=by rw[(U4 hs).2]
    obtain⟨l,r,y,C,M,Q⟩:=CA p.hr S hv B O I (by rw[W];exact J);refine⟨_,l,St.trans J p r,y,C,M,Q,by rw[E,(U4 hs).2];exact .refl _⟩
   .cases f
  .cases d
 .obtain⟨L,d⟩:=A3 d;have L:=A1 L;rw[N2]at d;simp only at d;obtain⟨m1,I,N,_,_,E⟩:=Q1 d;cases N;cases P1 hv;have A:(m.wLg (eZ m t (.nilw (t-10)) [])).lg.le m'.lg:=by rw[E];exact .refl _
  obtain⟨r,y,_⟩:=jU Z A;have p:=St.wLg h (eZ m t (.nilw (t-10)) []);obtain⟨g1,g2,g3⟩:=St.region (G:=fun _=>none) p.hr I (by simpa using J) (fun k o hk=>by cases hk);refine⟨_,_,St.trans (by simpa using J) p g3,g1,g2,?_,y,V5.trans A⟩;show Enc _ (Ora.env m.lg.nx) _;rw[r];exact .nil
 .cases d
end
end
section
open Go
variable [Ora]
section
variable {P:Program} {base:Nat} {ρ ρ':Ren} {m m':Mem} {w w':World}
def j7(ρ:Ren)(m m':Mem):Prop:=∀ j l,ρ j=some l->Hp.get m.H j=some .frz->Hp.get m'.H j=some .frz
def j7.refl:j7 ρ m m:=fun _ _ _ h=>h
def j7.trans(he:∀ b l,ρ b=some l->ρ' b=some l)(a:j7 ρ m m1)(c:j7 ρ' m1 m'):j7 ρ m m':=fun j l h1 d=>c j l (he j l h1) (a j l h1 d)
def j7.lg(lg:Lg):j7 ρ m (m.wLg lg):=fun j l _ h=>by rw[kG];exact h
def JB{ab:AB}{k:Nat->Value}{v:Value}(h:HR P base ρ m.H w)(b:Y6 m ab k=some (v,m'))(d:J9 ρ m.n m'.hi):j7 ρ m m':=fun j l h1 c=>by
 rw[kX b (h.dom j l h1),A6]
 .exact c
 .intro e;subst e;obtain⟨_,_,rfl⟩:=L3 b;rw[d m.n (A7 _) (K7 _ _).2]at h1;cases h1
def ZN{ab:AB}{id:Nat}(h:HR P base ρ m.H w)(hs:cA m id ab=some m')(b:Hp.get m.H id≠some .frz):j7 ρ m m':=fun j l h1 c=>by
 rw[wM hs (h.dom j l h1),A6]
 .exact c
 .intro e;subst e;exact b c
def GQ{t:Nat}{v x:Value}{b:Nat}(h:HR P base ρ m.H w)(d:toD t v m=some (x,b,m'))(A:J9 ρ m.n m'.hi):j7 ρ m m':=by
 unfold toD at d;split at d
 .obtain⟨h1,f⟩:=A3 d;cases f;exact .refl
 .obtain⟨h1,f⟩:=A3 d;cases f;exact .refl
 .split at d
  .obtain⟨h1,f⟩:=A3 d;obtain⟨m1,p,q,_⟩:=Q1 f;cases q;exact JB h p A
  .rename_i c tc T g C;obtain⟨h1,f⟩:=A3 d;split at f
   .rename_i m1 hs;obtain⟨m2,p,q,_⟩:=Q1 f;cases q;have E:=ZN h hs (by rw[C];intro h;cases h);intro j l k y;have B:=E j l k y;rw[kX p (h.dom j l k),A6]
    .exact B
    .intro e;subst e;have r:m1.n=m.n:=by rw[(U4 hs).2]
     obtain⟨_,_,rfl⟩:=L3 p;rw[A m1.n A2 (K7 _ _).2]at k;cases k
   .cases f
  .cases d
 .obtain⟨D,d⟩:=A3 d;rw[N2]at d;simp only at d;obtain⟨m1,p,q,_⟩:=Q1 d;cases q;intro j l k y;rw[kX p (h.dom j l k),A6,kG]
  .exact y
  .intro e;subst e;have r:(m.wLg (eZ m t (.nilw (t-10)) [])).n=m.n:=by simp
   obtain⟨_,_,rfl⟩:=L3 p;rw[A _ A2 (K7 _ _).2]at k;cases k
 .cases d
def Y2(R:Nat->Option Obj)(us:List U)(vs:List Value):Prop:=us.length=vs.length/\∀ (i:Nat) (u:U) (v:Value),us[i]? = some u->vs[i]? = some v->Enc R u v
omit [Ora] in
def Y2.nil{R:Nat->Option Obj}:Y2 R [] []:=⟨rfl,fun i u v h=>by simp at h⟩
omit [Ora] in
def Y2.cons{R:Nat->Option Obj}{v:Value}(h:Enc R u v)(k:Y2 R us vs):Y2 R (u::us) (v::vs):=⟨by simp[k.1],fun i a b h1 c=>by
 cases i with
 | zero=>simp at h1 c;subst h1;subst c;exact h
 | succ i=>exact k.2 i a b (by simpa using h1) (by simpa using c)⟩
def Sub(G R:Nat->Option Obj):Prop:=∀ k o,G k=some o->R k=some o
def gM{t:Nat}{v x:Value}{b:Nat}{m m':Mem}(c:toD t v m=some (x,b,m')):m.hi<=m'.hi/\m.lg.le m'.lg/\m.n<=m'.n:=by
 have e:∀ {m m1:Mem},Y6 m .frz (fun _=>undef)=some (undef,m1)->m.hi<=m1.hi/\m.lg.le m1.lg/\m.n<=m1.n:=fun k=>by
  obtain⟨_,_,rfl⟩:=L3 k;exact⟨(K7 _ _).1,.refl _,Y9 _⟩
 unfold toD at c;split at c
 .obtain⟨h1,d⟩:=A3 c;cases d;exact⟨A7 _,.refl _,A7 _⟩
 .obtain⟨h1,d⟩:=A3 c;cases d;exact⟨A7 _,.refl _,A7 _⟩
 .split at c
  .obtain⟨h1,d⟩:=A3 c;obtain⟨m1,f,g,_⟩:=Q1 d;cases g;exact e f
  .obtain⟨h1,d⟩:=A3 c;split at d
   .rename_i m1 hs;obtain⟨m2,f,g,_⟩:=Q1 d;cases g
    have:=e f;obtain⟨_,rfl⟩:=U4 hs;exact this
   .cases d
  .cases c
 .obtain⟨l,c⟩:=A3 c;rw[N2]at c;simp only at c;obtain⟨m1,f,g,_⟩:=Q1 c;cases g
  have:=e f;exact⟨by simpa using this.1,V5.trans this.2.1,by simpa using this.2.2⟩
 .cases c
structure zI (P:Program) (td:Td):Prop where
 ok:∀ {base:Nat} {ρ:Ren} {m m':Mem} {w:World} {t:Nat} {v v' x:Value} {b:Nat},HR P base ρ m.H w->td t v m=some (x,b,m')->J9 ρ m.n m'.hi->VR ρ v v'->Sat m'.lg ->
  ∃ ρ' l,St P base ρ ρ' m m' w w/\ρ' b=some l/\Hp.get m'.H b=some .frz/\Enc l.G (D6 Ora.env x) v'/\F9 (D6 Ora.env x)=t/\m.lg.le m'.lg/\j7 ρ m m'
 mono:∀ {m m':Mem} {t:Nat} {v x:Value} {b:Nat},td t v m=some (x,b,m')->m.hi<=m'.hi/\m.lg.le m'.lg/\m.n<=m'.n
def VE:zI P toD:=⟨fun h c b hv f=>let ⟨ρ',l,e,a2,a3,a4,a5,d⟩:=DJ h c b hv f;⟨ρ',l,e,a2,a3,a4,a5,d,GQ h c b⟩,fun h=>gM h⟩
def R6{f:Td}(d:zI P f):∀ {ts:G9} {vs xs:C9} {gs:G9} {m m':Mem},zO f ts vs m=some (xs,gs,m')->m.hi<=m'.hi/\m.lg.le m'.lg/\m.n<=m'.n
 | [],[],_,_,_,_,h=>by cases h;exact⟨A7 _,.refl _,A7 _⟩
 | t::ts,v::vs,xs,gs,m,m',c=>by
   unfold zO at c;cases e:Nat.blt t 10 with
   | true =>
     rw[e]at c;simp only[E1]at c;obtain⟨h1,c⟩:=A3 c;split at c
     .rename_i hr;cases c;exact R6 d hr
     .cases c
   | false =>
     rw[e]at c;simp only[D7]at c;split at c
     .rename_i g;split at c
      .rename_i hr;cases c;have a:=d.mono g;have b:=R6 d hr;exact⟨B8 a.1 b.1,a.2.1.trans b.2.1,B8 a.2.2 b.2.2⟩
      .cases c
     .cases c
 | [],_::_,_,_,_,_,c=>by cases c
 | _::_,[],_,_,_,_,c=>by cases c
def iG{K:Td}(f:zI P K):∀ {ts:G9} {vs vs' xs:C9} {gs:G9} {m m':Mem} {ρ:Ren},HR P base ρ m.H w->zO K ts vs m=some (xs,gs,m')->J9 ρ m.n m'.hi->LR ρ vs vs'->Sat m'.lg ->
  ∃ ρ',St P base ρ ρ' m m' w w/\m.lg.le m'.lg/\j7 ρ m m'/\(∀ b ∈ gs,Hp.get m'.H b=some .frz/\∃ l,ρ' b=some l)/\(xs.map (D6 Ora.env)).map F9=ts /\
   ∀ R,(∀ b ∈ gs,∀ l,ρ' b=some l->Sub l.G R)->Y2 R (xs.map (D6 Ora.env)) vs'
 | [],[],vs',xs,gs,m,m',ρ,h,c,hf,hv,hS=>by
   cases c;exact⟨ρ,St.refl h,.refl _,.refl,fun b Q=>(by cases Q),rfl,fun R _=>by rw[hv.nil_inv];exact .nil⟩
 | t::ts,v::vs,vs',xs,gs,m,m',ρ,h,c,hf,hv,hS=>by
   obtain⟨v',r',rfl,q,g⟩:=hv.tail;unfold zO at c;cases B:Nat.blt t 10 with
   | true =>
     rw[B]at c;simp only[E1]at c;obtain⟨h1,c⟩:=A3 c;have h1:=A0 h1;have O:t<10:=A1 B;split at c
     .rename_i r A m2 hr;cases c;obtain⟨ρ2,p,F,x,I,y,D⟩:=iG f h hr hf g hS;obtain⟨f1,f2⟩:=w9 q A2;exact⟨ρ2,p,F,x,I,by simp[f2,h1,y],fun R hR=>.cons (.sc f1) (D R hR)⟩
     .cases c
   | false =>
     rw[B]at c;simp only[D7]at c;split at c
     .rename_i hh b m1 N;split at c
      .rename_i r A m2 hr;cases c;have e:m1.hi<=m'.hi/\m1.lg.le m'.lg/\m1.n<=m'.n:=R6 f hr;have E:J9 ρ m.n m1.hi:=hf.less e.1;obtain⟨J,l,k,a2,a3,a4,a5,M,L⟩:=f.ok h N E q (hS.le e.2.1);have C:J9 J m1.n m'.hi:=hf.step k;obtain⟨ρ2,p,F,x,I,y,D⟩:=iG f k.hr hr C (g.mono k.ext) hS;refine⟨ρ2,St.trans hf k p,M.trans F,L.trans k.ext x,fun b' d=>?_,by simp[a5,y],fun R hR=>.cons (a4.mono (hR b (.head _) l (p.ext _ _ a2))) (D R fun b' d=>hR b' (.tail _ d))⟩;rcases B3.1 d with rfl|d
       .exact⟨x _ l a2 a3,l,p.ext _ _ a2⟩
       .exact I b' d
      .cases c
     .cases c
 | [],_::_,_,_,_,_,_,_,_,c,_,_,_=>by cases c
 | _::_,[],_,_,_,_,_,_,_,c,_,_,_=>by cases c
def eL{gs:G9}{g:Nat}(h:HR P base ρ m.H w)(c:jR gs m=some (g,m'))(x:J9 ρ m.n m'.hi) :
  ∃ ρ' lg,St P base ρ ρ' m m' w w/\m'.lg=m.lg/\j7 ρ m m'/\ρ' g=some lg/\Hp.get m'.H g=some .frz/\∀ b ∈ gs,∀ l,ρ b=some l->Sub l.G lg.G:=by
 have main:∀ {gs:G9},(bif gs.all (oA m)then match fZ m fun b m=>some (undef,b,m)with
  | some (_,b,m)=>some (b,m)
  | none=>none else none)=some (g,m')->∃ ρ' lg,St P base ρ ρ' m m' w w/\m'.lg=m.lg/\j7 ρ m m'/\ρ' g=some lg/\Hp.get m'.H g=some .frz/\∀ b ∈ gs,∀ l,ρ b=some l->Sub l.G lg.G:=fun{gs} c=>by
  obtain⟨h1,c⟩:=A3 c;split at c
  .rename_i r b m1 B;cases c;obtain⟨m2,v,D,_,_,A⟩:=Q1 B;cases D;have e:∀ b ∈ gs,Hp.get m.H b=some .frz:=fun b d=>dH (D3.1 h1 b d)
   classical
   let G:Nat->Option Obj:=fun k=>if ∃ b ∈ gs,∃ l o,ρ b=some l/\l.G k=some o then w.heap[k]? else none
   obtain⟨g1,g2,g3⟩:=St.region (G:=G) h v x fun k o f=>by
    have f:(if ∃ b ∈ gs,∃ l o,ρ b=some l/\l.G k=some o then w.heap[k]? else none)=some o:=f;split at f
    .rename_i hex;obtain⟨b,d,l,y,t,C⟩:=hex;exact⟨f,b,_,l,h.dom _ _ t,e b d,t,⟨rfl,.inr ⟨rfl,y,C⟩⟩,rfl⟩
    .cases f
   refine⟨_,kB G,g3,A,JB h v x,g1,g2,fun b d l q k o f=>?_⟩;show(if ∃ b ∈ gs,∃ l o,ρ b=some l/\l.G k=some o then w.heap[k]? else none)=_;rw[A9 ⟨b,d,l,o,q,f⟩];exact(h.atl q (e b d)).1.2 k o f
  .cases c
 unfold jR at c;split at c
 .rename_i g0;obtain⟨h1,c⟩:=A3 c;cases c;obtain⟨l,q⟩:=A0b h h1;refine⟨ρ,l,St.refl h,rfl,.refl,q,dH h1,fun b d l2 p=>?_⟩;rcases B3.1 d with rfl|d
  .rw[q]at p
   have:=A8 p;subst this;exact fun _ _ h=>h
  .cases d
 .exact main c
omit [Ora] in
def fP{R:Nat->Option Obj}{v r:Value}(h:Enc R u v)(hr:toV u=some r):v=r:=by
 cases h with
 | sc h=>rw[h]at hr;exact A8 hr
 | nil=>cases hr
 | emp=>cases hr
 | sl=>cases hr
omit [Ora] in
def lR{R:Nat->Option Obj}{v:Value}(h:Enc R u v):i6 v=true:=by
 cases h with
 | sc h=>have:=gL h;cases v<;>first|rfl|cases this
 | nil=>rfl
 | emp=>rfl
 | sl=>rfl
def A2z{wd k:Nat}{rows:List (List U)} :evU (.get wd o) [.seq false wd rows,.int kk (.ofNat k)]=(rows.getD k []).getD o .none:=by
 simp[evU]
def getD_some(h:row.getD o .none≠.none):row[o]? = some (row.getD o .none):=by
 rw[B1]at *;cases e:row[o]? with
 | none=>rw[e]at h;exact absurd rfl h
 | some u=>rfl
def fN{wd o i t g k:Nat}{z:Value}{lg:Loc}{rows:List (List U)}{cell:Nat->Q0}(hi:Ora.env i=.seq false wd rows)(D:oK Ora.env z=some (.ofNat k))(A:ρ g=some lg)
  (y:∀ q u,(rows.getD k [])[q]? = some u->∃ v,cell q=some v/\Enc lg.G u v) :
  ∀ {ts:G9} {j:Nat} {m m':Mem} {r:C9},X4 wd o i t z g ts j m=some (r,m')->Sat m'.lg->∃ r',LR ρ r r'/\r'.length=ts.length/\(∀ q v',r'[q]? = some v'->cell (o+j+q)=some v')/\J5 m m'/\m.lg.le m'.lg
 | [],j,m,m',r,h,hS=>by
   cases h;exact⟨[],.nil,rfl,fun q v' h=>by simp at h,.refl _,.refl _⟩
 | tg::ts,j,m,m',r,h,hS=>by
   unfold X4 at h;obtain⟨kk,F⟩:=FV D;have f:[hole i t,z].map (D6 Ora.env)=[.seq false wd rows,.int kk (.ofNat k)]:=by
    simp only[B9,F7,F];show[Ora.env i,_]=_;rw[hi]
   have b:∀ {u:U},u≠.none->evU (.get wd (o+j)) ([hole i t,z].map (D6 Ora.env))=u->∃ v,cell (o+j)=some v/\Enc lg.G u v:=fun{u} hu he=>by
    rw[f,A2z]at he;subst he;exact y _ _ (getD_some hu)
   cases n:Nat.blt tg 10 with
   | true =>
     rw[n]at h;simp only[E1]at h;have J:tg<10:=A1 n;split at h
     .rename_i hh m1 E;split at h
      .rename_i I m2 hr;cases h;obtain⟨r',x,B,p,C,d⟩:=fN hi D A y hr hS;obtain⟨u,f1,f2,v,f3,f4,f5⟩:=M1 E (hS.le d);obtain⟨v2,g1,g2⟩:=b (u:=u) (by intro e;subst e;cases f3) f1
       have:=fP g2 f3;subst this;refine⟨v2::r',.cons (f4 ρ) x,by simp[B],fun q v' c=>?_,(H3 E).trans C,(H6 E).trans d⟩;cases q with
       | zero=>simp at c;subst c;exact g1
       | succ q=>rw[show o+j+(q+1)=o+(j+1)+q by omega];exact p q v' (by simpa using c)
      .cases h
     .cases h
   | false =>
     rw[n]at h;simp only[D7]at h;rw[IX]at h;split at h
     .rename_i I m2 hr;cases h;obtain⟨r',x,B,p,C,d⟩:=fN hi D A y hr hS;obtain⟨f1,f2,K,H,l,f3,f4⟩:=jU hS d;obtain⟨v2,g1,g2⟩:=b (u:=Ora.env m.lg.nx) (by rw[f3];intro h;cases h) f1.symm;refine⟨v2::r',.cons (.dat A g2 f2 A2 (lR g2)) x,by simp[B],fun q v' c=>?_,J5.trans ⟨_,rfl⟩ C,V5.trans d⟩;cases q with
      | zero=>simp at c;subst c;exact g1
      | succ q=>rw[show o+j+(q+1)=o+(j+1)+q by omega];exact p q v' (by simpa using c)
     .cases h
def iK{t:TypeId}(h:kI P t=some ts):G5 P t=some ts.length:=by
 unfold kI at h;split at h
 .rename_i l n h1 b;obtain⟨h3,h⟩:=A3 h;cases h;rw[b,A0 h3]
 .cases h
def DC{t:TypeId}{r:C9}{v:Value}{b:Nat}(f:kI P t=some ts)(d:lU P t (some (r,m))=some (v,m'))(g:LR ρ r r')(l:r'.length=ts.length)
  (k:∀ q v',r'[q]? = some v'->w.cell? ⟨b,o+q,none⟩=some v'):m'=m/\∃ v',(Instr.loadAt t (.pointer (some ⟨b,o,none⟩))).run P w=.ok v' w/\VR ρ v v':=by
 unfold lU at d;split at d
 .rename_i c heq;cases d;cases heq;obtain⟨v',x,rfl,n,p⟩:=g.tail;refine⟨rfl,v',?_,n⟩
  have:=k 0 v' rfl;simp[Instr.loadAt,Instr.sureAddr,loadVar,A4,bT c,Result.andThen,run_load,show w.cell? ⟨b,o,none⟩=some v' from by simpa using this]
 .rename_i c heq;cases d;cases heq;refine⟨rfl,.agg ⟨r'⟩,?_,.agg g.1 g.2⟩;have e:G5 P t=some r'.length:=by rw[l];exact iK f
  simp[Instr.loadAt,Instr.sureAddr,loadVar,A4,bT c,K4 e,Result.andThen,K0 rfl k]
 .cases d
def ZB{t:TypeId}{x x' v:Value}(h:HR P base ρ m.H w)(f:IW P m t x=some (v,m'))(hx:VR ρ x x')(Y:Sat m'.lg):(∃ r,(Instr.loadAt t x').run P w=.ok r w/\VR ρ v r)/\J5 m m'/\m.lg.le m'.lg:=by
 have K:∀ {r:Option (C9×Mem)},lU P t r=some (v,m')->∃ vs,r=some (vs,m'):=fun{r} I=>by
  unfold lU at I;split at I
  .cases I;exact⟨_,rfl⟩
  .cases I;exact⟨_,rfl⟩
  .cases I
 unfold IW at f;split at f
 .rename_i b i tg z o ts A;obtain⟨h1,f⟩:=A3 f;obtain⟨⟨l,wd,rows,a,s,c,k,N,F,M,V,L,e6,rfl⟩,Z⟩:=EP hx;obtain⟨vs,hr⟩:=K f;rw[hr]at f;have D:tg-10=wd:=by rw[<- Z,F];simp[F9]
  rw[D]at hr;have X:=(h.atl N (dH h1)).1.2;rw[F]at M;obtain⟨C,T,fz,f1,f2,f3,f4⟩:∃ C T fz,l.G a=some (.cells C T fz)/\s+rows.length*wd<=C.size/\(∀ row ∈ rows,row.length=wd)/\∀ (r:Nat) (row:List U) (j:Nat) (u:U) (v:Value),rows[r]? = some row->row[j]? = some u->C[s+r*wd+j]? = some v->Enc l.G u v:=by
   have B:rows≠[]:=by intro e;subst e;simp at L
   cases M with
   | sc h=>cases h
   | emp=>exact absurd rfl B
   | sl hc R hz hw hh=>exact⟨_,_,_,R B,hz B,hw,hh⟩
  have y:=X _ _ f1;have d:rows[k]? = some rows[k]:=A5 L;obtain⟨r',g1,g2,g3,g4,g5⟩:=fN (cell:=fun q=>w.cell? ⟨a,s+k*wd+q,none⟩) F V N (fun q u n=>by
   rw[B1,d]at n;have n:rows[k][q]? = some u:=n;have E:=(B0.1 n).1;rw[f3 _ (C7 d)]at E;have S:(k+1)*wd<=rows.length*wd:=F4 wd L;rw[H4]at S;have p:s+k*wd+q<C.size:=A2;refine⟨C[s+k*wd+q],?_,f4 k _ q u _ d n (F0 p)⟩;simp[World.cell?,y,F0 p]) hr Y
  obtain⟨_,Q⟩:=DC (w:=w) (b:=a) (o:=s+k*wd+o) A f g1 g2 (fun q v' n=>by
   have:=g3 q v' n;rw[show s+k*wd+o+q=s+k*wd+(o+0+q) by omega];exact this)
  exact⟨Q,g4,g5⟩
 .rename_i b i tg z o ts A;split at f
  .rename_i c tc T g ro R;obtain⟨h1,f⟩:=A3 f;have h1:=A0 h1;subst h1;obtain⟨⟨l,wd,jN,k,N,F,M,V,L,e6,rfl⟩,Z⟩:=vL hx;obtain⟨vs,hr⟩:=K f;rw[hr]at f;obtain⟨J,inf,d1,d2,d3,d4⟩:=SqR.ex (h.atl N R).1;rcases d4 with⟨d4,_⟩|⟨_,d4⟩
   .rw[F]at d4;cases d4
   obtain⟨C,fz,T',rows,lg,f1,f2,f3,f4,f5,f6,f7,f8,f9⟩:=d4;have D:tc-10=J:=A2;rw[D]at hr;have O:k<rows.length:=A2;have d:rows[k]? = some rows[k]:=A5 O;have W:wd=J:=by
    have:F9 (Ora.env i)=10+wd:=by rw[M];rfl
    omega
   subst W;obtain⟨r',g1,g2,g3,g4,g5⟩:=fN (cell:=fun q=>w.cell? ⟨l.blk,l.sh+k*wd+q,none⟩) f2 V f7 (fun q u n=>by
    rw[B1,d]at n;have n:rows[k][q]? = some u:=n;have E:=(B0.1 n).1;rw[f6 _ (C7 d)]at E;have S:(k+1)*wd<=l.cap*wd:=F4 wd A2;rw[H4]at S;have p:l.sh+k*wd+q<C.size:=A2;refine⟨C[l.sh+k*wd+q],?_,f8 k _ q u _ d n (F0 p)⟩;simp[World.cell?,f1,F0 p]) hr Y
   obtain⟨_,Q⟩:=DC (w:=w) (b:=l.blk) (o:=l.sh+k*wd+o) A f g1 g2 (fun q v' n=>by
    have:=g3 q v' n;rw[show l.sh+k*wd+o+q=l.sh+k*wd+(o+0+q) by omega];exact this)
   exact⟨Q,g4,g5⟩
  .cases f
 .cases f
end
end
section
open Go
variable [Ora]
section
variable {P:Program} {base:Nat} {ρ ρ':Ren} {m m':Mem} {w w':World}
def at0(a:Nat):Ren:=fun _=>some (lc a 0 0)
def UP{a s n c:Nat}(h:n<=c):VR (at0 a) (.slice (some ⟨0,s,none⟩) n (M5+1)) (.slice (some ⟨a,s,none⟩) n c) :=
 VR.op (ρ:=at0 a) (b:=0) (o:=s) (n:=n) (m:=M5+1) (m':=c) (l:=lc a 0 0) rfl (by unfold M5;omega) h (fun h=>by unfold M5 at h;omega)
def SJ{a s:Nat}:VR (at0 a) (.pointer (some ⟨0,s,none⟩)) (.pointer (some ⟨a,s,none⟩)):=VR.ptr (ρ:=at0 a) (b:=0) (o:=s) (l:=lc a 0 0) rfl
def tK{t e:TypeId}{a s n c z sz:Nat}{k:IntKind}(hu:P.underlying t=some (.slice e))(hs:G5 P e=some sz)(f:z<n)(d:n<=c)(w:World) :
  (Instr.indexAt t (.slice (some ⟨a,s,none⟩) n c) (.int k (.ofNat z))).run P w=.ok (.pointer (some ⟨a,s+z*sz,none⟩)) w:=by
 have g:Nat.blt z n=true:=C4 f;have hm:X1 P t (.slice (some ⟨0,s,none⟩) n (M5+1)) (.int k (.ofNat z))=some (.pointer (some ⟨0,s+z*sz,none⟩)):=by
  simp only[X1,hu,hs,g,E1,bE,E5]
 obtain⟨v',g1,g2⟩:=cG (P:=P) hm (UP (a:=a) d) (.pure rfl) w;obtain⟨l2,b,_,rfl⟩:=O0 g2;cases b;exact g1
def pN{t e:TypeId}{a s n z sz:Nat}{k:IntKind}(hu:P.underlying t=some (.array n e))(hs:G5 P e=some sz)(c:z<n)(w:World) :
  (Instr.indexAt t (.pointer (some ⟨a,s,none⟩)) (.int k (.ofNat z))).run P w=.ok (.pointer (some ⟨a,s+z*sz,none⟩)) w:=by
 have d:Nat.blt z n=true:=C4 c;have hm:X1 P t (.pointer (some ⟨0,s,none⟩)) (.int k (.ofNat z))=some (.pointer (some ⟨0,s+z*sz,none⟩)):=by
  simp only[X1,hu,hs,d,E1,bE,E5]
 obtain⟨v',g1,g2⟩:=cG (P:=P) hm (SJ (a:=a)) (.pure rfl) w;obtain⟨l2,b,_,rfl⟩:=O0 g2;cases b;exact g1
def tM{a z:Nat}{c:Array Field}{f:Field}(hu:P.underlying s=some (.struct c))(d:c.toList[i]? = some f)(e:G5 P f.type=some (z+1))(w:World) :
  (Instr.fieldAt s (.pointer (some ⟨a,o,none⟩)) i).run P w=.ok (.pointer (some ⟨a,o+f.offset,none⟩)) w:=by
 have hm:cH P s (.pointer (some ⟨0,o,none⟩)) i=some (.pointer (some ⟨0,o+f.offset,none⟩)):=by
  simp only[cH,hu,d,e,bE,E5]
 obtain⟨v',g1,g2⟩:=lN (P:=P) hm (SJ (a:=a)) w;obtain⟨l2,b,_,rfl⟩:=O0 g2;cases b;exact g1
def ER{t wd:Nat}{f:Bool}{rows:List (List U)}{k v:Value}(h:JI m i t z k=some (v,m'))(hi:Ora.env i=.seq f wd rows)(I:t=10+wd)(F:VR ρ z z')(C:Sat m'.lg) :
  v=k/\(∃ kk n,z'=.int kk (.ofNat n)/\n<rows.length/\oK Ora.env z=some (.ofNat n))/\J5 m m'/\m.lg.le m'.lg:=by
 unfold JI at h;cases x:!(Nat.blt (G2 z) 8)with
 | true=>rw[x]at h;cases h
 | false =>
   have G:G2 z<8:=by
    have:Nat.blt (G2 z) 8=true:=by simpa using x
    exact A1 this
   rw[x]at h;simp only[D7]at h;split at h
   .rename_i b H n W hh lg B;split at h
    .rename_i A D;cases h;have e:=H6 B;have c:=eS D;obtain⟨u,d,J,r,q,E,_⟩:=M1 B (R2.le C c);have p:=lT D (E ρ) C;subst p;obtain⟨kk,y,rfl,f2,_⟩:=M2 F G;have g:[z,hole i t].map (D6 Ora.env)=[.int kk y,.seq f wd rows]:=by
      simp only[B9,F7,f2];show[_,Ora.env i]=_;rw[hi]
     rw[g]at d;have d:(if wd=t-10 then U.bool (decide (0<=y) && decide (y<rows.length))else U.none)=u:=d;rw[A9 A2]at d;subst d;have q:some (Value.bool (decide (0<=y) && decide (y<rows.length)))=some (.bool true):=q;have l:(decide (0<=y) && decide (y<rows.length))=true:=by simpa using q
     simp only[G8,decide_eq_true_eq]at l;obtain⟨n0,rfl⟩:∃ n0:Nat,y=.ofNat n0:=⟨y.toNat,by have:=dB l.1;exact this.symm⟩;refine⟨rfl,⟨kk,n0,rfl,?_,SK f2⟩,J5.trans (H3 B) ⟨A,rfl⟩,e.trans c⟩
     have:=l.2;have:(n0:Int)<rows.length:=this;omega
    .cases h
   .cases h
def A62{G:Nat->Option Obj}{b:Bool}{wd:Nat}{rows:List (List U)}{v:Value}(h:Enc G (.seq b wd rows) v)(hr:rows≠[]):b=false/\∃ a o c,v=.slice (some ⟨a,o,none⟩) rows.length c/\rows.length<=c:=by
 cases h with
 | sc h=>cases h
 | nil=>exact absurd rfl hr
 | emp=>exact absurd rfl hr
 | sl d _ _ _ _=>exact⟨rfl,_,_,_,rfl,d⟩
def MI{t:Nat}(h:F9 u=t)(d:10<=t):u=.none∨∃ c wd rows,u=.seq c wd rows/\t=10+wd:=by
 cases u with
 | none=>exact .inl rfl
 | int k n=>have:=L4 k;simp[F9]at h;omega
 | bool b=>simp[F9]at h;omega
 | str s=>simp[F9]at h;omega
 | seq c wd rows=>exact .inr ⟨c,wd,rows,rfl,h.symm⟩
def fQ{G:Nat->Option Obj}{v:Value}{t:Nat}(h:Enc G u v)(d:F9 u=t)(c:10<=t):∃ b wd rows,u=.seq b wd rows/\t=10+wd:=by
 rcases MI d c with rfl|h1
 .cases h with
  | sc h=>cases h
 .exact h1
def CH{t e:TypeId}{b s:Nat}{l:Loc}{v v':Value}(hu:P.underlying t=some (.slice e))(hs:G5 P e=some (s+1))(C:tg=10+(s+1))(h1:ρ b=some l)(f:Enc l.G (Ora.env i) v')(h3:F9 (Ora.env i)=tg)
  (h:JI m i tg z (dpt b i tg z 0)=some (v,m')) (D:VR ρ z z') (x:Sat m'.lg):(∃ r,(Instr.indexAt t v' z').run P w=.ok r w/\VR ρ v r)/\J5 m m'/\m.lg.le m'.lg:=by
 obtain⟨B,wd,rows,d,A⟩:=fQ f h3 A2;obtain⟨rfl,⟨kk,n,rfl,k,p⟩,g1,g2⟩:=ER h d A D x;have q:wd=s+1:=A2;subst q;have g:rows≠[]:=by intro e;subst e;simp at k
 rw[d]at f;obtain⟨rfl,a,o,c,rfl,y⟩:=A62 f g;refine⟨⟨_,tK hu hs k y w,.dpt ⟨l,s+1,rows,a,o,c,n,h1,d,by rw[d];exact f,p,k,A2,by simp⟩ h3 rfl⟩,g1,g2⟩
def JG{t:TypeId}{x x' v:Value}(h:lK P m t x z=some (v,m'))(hx:VR ρ x x')(C:VR ρ z z')(F:Sat m'.lg):(∃ r,(Instr.indexAt t x' z').run P w=.ok r w/\VR ρ v r)/\J5 m m'/\m.lg.le m'.lg:=by
 unfold lK at h;split at h
 .rename_i e b i tg hu;split at h
  .rename_i s hs;obtain⟨g,h⟩:=A3 h;have g:=A0 g;obtain⟨E,d⟩:=fL hx;rcases E with⟨l,wd,h1,B,h3,rfl⟩|⟨l,wd,rows,h1,B,h3,O,L,rfl⟩
   .obtain⟨_,⟨kk,n,_,M,_⟩,_⟩:=ER h h3 (by rw[h3]at d;exact d.symm) C F;simp at M
   .have A:tg=10+wd:=by rw[h3]at d;exact d.symm
    obtain⟨rfl,⟨kk,n,rfl,M,J⟩,g1,g2⟩:=ER h h3 A C F;have p:wd=s+1:=A2;subst p;exact⟨⟨_,tK hu hs A2 L w,.opt ⟨l,s+1,rows,n,h1,B,h3,J,A2,A2,by simp⟩ d rfl⟩,g1,g2⟩
  .cases h
 .rename_i e b i tg hu;split at h
  .rename_i s hs;obtain⟨g,h⟩:=A3 h;have g:=A0 g;obtain⟨l,h1,B,h3,_⟩:=mU hx;exact CH hu hs g h1 B h3 h C F
  .cases h
 .rename_i e b i tg hu;split at h
  .rename_i s hs;obtain⟨g,h⟩:=A3 h;have g:=A0 g;obtain⟨l,h1,B,h3,_⟩:=fM hx;exact CH hu hs g h1 B h3 h C F
  .cases h
 .rename_i n e b i tg y o hu;split at h
  .rename_i s kk k hs;obtain⟨f,h⟩:=A3 h;obtain⟨f,hw⟩:=B4 f;have f:=A1 f;have hw:o+k*s<tg-10:=A1 hw;rw[E5]at h;cases h;cases J1 C;obtain⟨⟨l,wd,rows,a,s0,c,q,I,A,G,K,H,N,rfl⟩,D⟩:=EP hx;have p:tg-10=wd:=by rw[<- D,A];simp[F9]
   refine⟨⟨_,pN hu hs f w,.dpt ⟨l,wd,rows,a,s0,c,q,I,A,G,K,H,A2,by simp⟩ D rfl⟩,.refl _,.refl _⟩
  .cases h
 .rename_i n e b i tg y o hu;split at h
  .rename_i s kk k hs;obtain⟨f,h⟩:=A3 h;obtain⟨f,hw⟩:=B4 f;have f:=A1 f;have hw:o+k*s<tg-10:=A1 hw;rw[E5]at h;cases h;cases J1 C;obtain⟨⟨l,wd,rows,q,I,A,G,K,H,N,rfl⟩,D⟩:=vL hx;have p:tg-10=wd:=by rw[<- D,G];simp[F9]
   refine⟨⟨_,pN hu hs f w,.opt ⟨l,wd,rows,q,I,A,G,K,H,A2,by simp⟩ D rfl⟩,.refl _,.refl _⟩
  .cases h
 .cases h
def JX{x x' v:Value}{f:Nat}(h:lO P m s x f=some (v,m'))(hx:VR ρ x x'):(∃ r,(Instr.fieldAt s x' f).run P w=.ok r w/\VR ρ v r)/\m'=m:=by
 unfold lO at h;split at h
 .rename_i D b i tg y o hu;split at h
  .rename_i fd p;split at h
   .rename_i z A;obtain⟨hw,h⟩:=A3 h;have hw:o+fd.offset<tg-10:=A1 hw;rw[E5]at h;cases h;obtain⟨⟨l,wd,rows,a,s0,c,q,n,g,e,t,k,C,rfl⟩,d⟩:=EP hx;have B:tg-10=wd:=by rw[<- d,g];simp[F9]
    exact⟨⟨_,tM hu p A w,.dpt ⟨l,wd,rows,a,s0,c,q,n,g,e,t,k,A2,by simp⟩ d rfl⟩,rfl⟩
   .cases h
  .cases h
 .rename_i D b i tg y o hu;split at h
  .rename_i fd p;split at h
   .rename_i z A;obtain⟨hw,h⟩:=A3 h;have hw:o+fd.offset<tg-10:=A1 hw;rw[E5]at h;cases h;obtain⟨⟨l,wd,rows,q,n,g,e,t,k,C,rfl⟩,d⟩:=vL hx;have B:tg-10=wd:=by rw[<- d,e];simp[F9]
    exact⟨⟨_,tM hu p A w,.opt ⟨l,wd,rows,q,n,g,e,t,k,A2,by simp⟩ d rfl⟩,rfl⟩
   .cases h
  .cases h
 .cases h
end
end
section
open Go
variable [Ora]
section
variable {P:Program} {base:Nat} {ρ ρ':Ren} {m m':Mem} {w w':World}
def t7{G:Nat->Option Obj}{b:Bool}{wd:Nat}{rows:List (List U)}{v:Value}(h:Enc G (.seq b wd rows) v):(b=true/\rows=[]/\v=.slice none 0 0)∨(b=false/\∃ (a:Addr) (c:Nat),v=.slice (some a) rows.length c/\rows.length<=c):=by
 cases h with
 | sc h=>cases h
 | nil=>exact .inl ⟨rfl,rfl,rfl⟩
 | emp=>exact .inr ⟨rfl,_,_,rfl,A7 _⟩
 | sl d _ _ _ _=>exact .inr ⟨rfl,_,_,rfl,d⟩
def kM{t e:TypeId}{a:Option Addr}{n c:Nat}(hu:P.underlying t=some (.slice e))(w:World):(Builtin.len_ ⟨t::tys⟩ ty #[.slice a n c]).run P w=.ok (.int .i64 n) w:=by
 simp[Builtin.len_,A4,C8 hu,Result.andThen,goInt]
def A2Z{t:Nat}{v:Value}{c:Bool}{wd:Nat}{rows:List (List U)}(h:T9 m 3 .len [hole i t]=some (v,m'))(hi:Ora.env i=.seq c wd rows)(e:Sat m'.lg):VR ρ v (.int .i64 rows.length)/\J5 m m'/\m.lg.le m'.lg/\D6 Ora.env v=.int .i64 rows.length:=by
 obtain⟨u,d,l,r,f,g,k⟩:=M1 h e;have b:[hole i t].map (D6 Ora.env)=[.seq c wd rows]:=by
  show[Ora.env i]=_;rw[hi]
 rw[b]at d;have d:U.int .i64 rows.length=u:=d;subst d;cases f;refine⟨g ρ,H3 h,H6 h,?_⟩;obtain⟨rfl,rfl⟩:=iU h;obtain⟨h1,n,h3⟩:=e (.lt m.lg.nx 3 .len [hole i t]) (by cases m;exact B2);show Ora.env m.lg.nx=_;rw[h1,b];rfl
def lM{i j:Nat}:∀ {l:List i7},rA i l=some j->∃ tg,i7.lt j 3 .len [hole i tg] ∈ l
 | [],h=>by cases h
 | e::r,h=>by
   unfold rA at h;split at h
   .cases h
   .rename_i f t k tg r' he;cases he;cases d:Nat.beq k i && Nat.beq t 3 with
    | true =>
      rw[d]at h;cases h;obtain⟨h1,c⟩:=B4 d;have h1:=A0 h1;have c:=A0 c;subst h1;subst c;exact⟨tg,.head _⟩
    | false =>
      rw[d]at h;obtain⟨b,h3⟩:=lM h;exact⟨b,.tail _ h3⟩
   .rename_i he;cases he;obtain⟨b,h3⟩:=lM h;exact⟨b,.tail _ h3⟩
def bH{t:Nat}{v:Value}(h:EI m i t=some (v,m')):J5 m m'/\m.lg.le m'.lg:=by
 unfold EI at h;split at h
 .cases h;exact⟨J5.refl _,.refl _⟩
 .exact⟨H3 h,H6 h⟩
def lG{t:Nat}{v:Value}{b:Bool}{wd:Nat}{rows:List (List U)}(h:EI m i t=some (v,m'))(hi:Ora.env i=.seq b wd rows)(d:Sat m'.lg):VR ρ v (.int .i64 rows.length)/\J5 m m'/\m.lg.le m'.lg/\D6 Ora.env v=.int .i64 rows.length:=by
 unfold EI at h;split at h
 .rename_i j e;cases h;obtain⟨tg,hm⟩:=lM e;obtain⟨h1,f,_⟩:=d _ hm;have c:[hole i tg].map (D6 Ora.env)=[.seq b wd rows]:=by
   show[Ora.env i]=_;rw[hi]
  rw[c]at h1;have h1:Ora.env j=.int .i64 rows.length:=h1;refine⟨.hole ?_ ?_,J5.refl _,.refl _,h1⟩
  .rw[h1];rfl
  .rw[h1];rfl
 .exact A2Z h hi d
def TP{b:Nat}{v':Value}(h:YE ρ b u v'):∃ d wd rows a c,u=.seq d wd rows/\v'=.slice a rows.length c:=by
 rcases h with⟨l,wd,h1,e,h3,rfl⟩|⟨l,wd,rows,h1,e,h3,f,g,rfl⟩
 .exact⟨_,_,_,_,_,h3,rfl⟩
 .exact⟨_,_,_,_,_,h3,by rw[f]⟩
def A2a{t:TypeId}{x x' v:Value}(h:A2b P m t x=some (v,m'))(hx:VR ρ x x')(n:Sat m'.lg):(∃ r,(Builtin.len_ ⟨t::tys⟩ ty #[x']).run P w=.ok r w/\VR ρ v r)/\J5 m m'/\m.lg.le m'.lg:=by
 unfold A2b at h;split at h
 .rename_i e b i tg hu;obtain⟨l,h1,f,h3,k⟩:=mU hx;obtain⟨g,wd,rows,d,_⟩:=fQ f h3 k;obtain⟨g1,g2,g3,_⟩:=lG (ρ:=ρ) h d n;rw[d]at f;rcases t7 f with⟨rfl,rfl,rfl⟩|⟨rfl,a,c,rfl,_⟩
  .exact⟨⟨_,kM hu w,g1⟩,g2,g3⟩
  .exact⟨⟨_,kM hu w,g1⟩,g2,g3⟩
 .rename_i e b i tg hu;obtain⟨l,h1,f,h3,k,_⟩:=fM hx;obtain⟨g,wd,rows,d,_⟩:=fQ f h3 k;obtain⟨g1,g2,g3,_⟩:=lG (ρ:=ρ) h d n;rw[d]at f;rcases t7 f with⟨rfl,rfl,rfl⟩|⟨rfl,a,c,rfl,_⟩
  .exact⟨⟨_,kM hu w,g1⟩,g2,g3⟩
  .exact⟨⟨_,kM hu w,g1⟩,g2,g3⟩
 .rename_i e b i tg hu;obtain⟨g,wd,rows,a,c,d,rfl⟩:=TP (fL hx).1;obtain⟨g1,g2,g3,_⟩:=lG (ρ:=ρ) h d n;exact⟨⟨_,kM hu w,g1⟩,g2,g3⟩
 .cases h
def BU{v v':Value}{n:Nat}(hv:VR ρ v v')(c:xY v=true)(b:D6 Ora.env v=.int kk (.ofNat n)):∃ j,v'=.int j (.ofNat n):=by
 obtain⟨k,z,rfl,f2,_⟩:=M2 hv (A1 c);rw[f2]at b;injection b with _ hb
 exact⟨k,by rw[hb]⟩
def WI{h x e x':Value}(hs:PD h x=true)(h1:VR ρ h e)(d:VR ρ x x'):e=x':=by
 unfold PD at hs;split at hs
 .rename_i i t1 j t2
  have:=A0 hs;subst this;have hh:∀ {t:Nat} {v:Value},VR ρ (.complex .f64 i t) v->toV (Ora.env i)=some v:=fun{t v} h=>by
   cases h with
   | pure hp=>simp[I1]at hp
   | hole h _=>exact h
  have a:=hh h1;rw[hh d]at a;exact(A8 a).symm
 .obtain⟨c,b⟩:=B4 hs;have c:=gT c;rw[bX]at b;have b:=eq_of_beq b;subst c;subst b;cases J1 h1;cases J1 d;rfl
 .cases hs
def A0m{wd v:Nat}{d:Bool}{rows:List (List U)}{a b:U}(c:evU (.subs wd) [.seq d v rows,a,b]≠.none):∃ g l f h,a=.int g (.ofNat l)/\b=.int f (.ofNat h)/\v=wd/\l<=h/\h<=rows.length:=by
 cases a with
 | int g k=>cases k with
   | ofNat l=>cases b with
     | int f z2=>cases z2 with
       | ofNat h =>
         have c:(if v=wd/\l<=h/\h<=rows.length then U.seq d wd ((rows.drop l).take (h-l))else .none)≠.none:=c;by_cases e:v=wd/\l<=h/\h<=rows.length
         .exact⟨g,l,f,h,rfl,rfl,e.1,e.2.1,e.2.2⟩
         .rw[A6 e]at c;exact(c rfl).elim
       | negSucc _=>exact(c rfl).elim
     | _=>exact(c rfl).elim
   | negSucc _=>exact(c rfl).elim
 | _=>exact(c rfl).elim
def A23{G:Nat->Option Obj}{q:Bool}{wd l h mm n c:Nat}{rows:List (List U)}{a:Option Addr}(he:Enc G (.seq q wd rows) (.slice a n c))(N:l<=h)(hh:h<=rows.length)(hm:h<=mm)(I:mm<=c) :
  Enc G (.seq q wd ((rows.drop l).take (h-l))) (.slice (if mm=l then a else a.map (·.add (l*wd))) (h-l) (mm-l))∨a=none:=by
 cases he with
 | sc h=>cases h
 | nil=>exact .inr rfl
 | emp =>
   rename_i a;have f:h=0:=by simpa using hh
   subst f;have g:l=0:=A2;subst g;have E:mm=0:=A2;subst E;exact .inl .emp
 | sl M H L hw p =>
   rename_i a o C T fz;refine .inl ?_;have hlen:((rows.drop l).take (h-l)).length=h-l:=by simp;omega
   have key:∀ b x,(h-l≠0->b=a/\x=o+l*wd)->Enc G (.seq false wd ((rows.drop l).take (h-l))) (.slice (some ⟨b,x,none⟩) (h-l) (mm-l)):=fun b x B=>by
    have A:∀ r row,((rows.drop l).take (h-l))[r]? = some row->h-l≠0/\rows[l+r]? = some row:=fun r row hr=>by
     have k:=(B0.1 hr).1;rw[hlen]at k;rw[F2 k,H7]at hr;exact⟨A2,hr⟩
    have d:(rows.drop l).take (h-l)≠[]->h-l≠0/\rows≠[]:=fun d=>by
     constructor
     .intro e;rw[e]at d;simp at d
     .intro e;subst e;simp at d
    have:=Enc.sl (G:=G) (w:=wd) (rows:=(rows.drop l).take (h-l)) (a:=b) (o:=x) (c:=mm-l) (C:=C) (T:=T) (fz:=fz) A2
     (fun y=>by obtain⟨f,g⟩:=d y;rw[(B f).1];exact H g)
     (fun y=>by
       obtain⟨f,g⟩:=d y;rw[hlen,(B f).2];have h1:=L g;have J:(l+(h-l))*wd<=rows.length*wd:=F4 wd A2;rw[H4]at J;omega)
     (fun row hr=>hw row (cM (List.mem_of_mem_take hr)))
     (fun r row j u v F K D=>by
       obtain⟨f,g⟩:=A r row F;rw[(B f).2]at D;refine p (l+r) row j u v g K ?_;rw[H4,show o+(l*wd+r*wd)+j=o+l*wd+r*wd+j by omega];exact D)
    rw[hlen]at this;exact this
   by_cases t:mm=l
   .rw[A9 t];exact key a o fun h=>by omega
   .rw[A6 t];have e:(Addr.mk a o none).add (l*wd)=⟨a,o+l*wd,none⟩:=by
     unfold Addr.add;split
     .rename_i h;rw[h];rfl
     .rfl
    show Enc G _ (.slice (some ((Addr.mk a o none).add (l*wd))) _ _);rw[e];exact key a (o+l*wd) fun _=>⟨rfl,rfl⟩
def FK{t e:TypeId}{b s:Nat}{l:Loc}{hi:Q0}{v x':Value}(hu:P.underlying t=some (.slice e))(hs:G5 P e=some s)(aj:tg=10+s)(h1:ρ b=some l)(F:Enc l.G (Ora.env i) x')(h3:F9 (Ora.env i)=tg)
  (ax:cl=true->A1C x') (h:KF m b i tg cl lo hi mx=some (v,m')) (V:OR ρ lo lo') (Q:OR ρ hi hi') (J:OR ρ mx mx') (hS:Sat m'.lg):(∃ r,(Instr.sliceAt t x' lo' hi' mx').run P w=.ok r w/\VR ρ v r)/\J5 m m'/\m.lg.le m'.lg:=by
 have d:∀ {o:Q0},OR ρ none o->o=none:=fun{o} h=>by cases o<;>first|rfl|exact h.elim
 have f:∀ {y:Value} {o:Q0},OR ρ (some y) o->∃ W,o=some W/\VR ρ y W:=fun{y o} h=>by cases o<;>first|exact h.elim|exact⟨_,rfl,h⟩
 obtain⟨L,wd,rows,e1,e2⟩:=fQ F h3 A2;have aw:wd=s:=A2;subst aw;rw[e1]at F;obtain⟨a,n,c,ar,hn,ak⟩:∃ a n c,x'=.slice a n c/\n=rows.length/\n<=c:=by
  rcases t7 F with⟨rfl,rfl,rfl⟩|⟨rfl,a,c,rfl,hc⟩
  .exact⟨_,_,_,rfl,rfl,A7 _⟩
  .exact⟨_,_,_,rfl,rfl,hc⟩
 subst ar;have go:∀ {m:Mem} {g hv:Value} {cc:Bool} {C:Q0} {hh mm:Nat},fR m b i tg g hv cc=some (v,m') ->
   (C=none/\g=.int .i64 0∨∃ y,C=some y/\VR ρ g y)->(∀ kk q,D6 Ora.env hv=.int kk (.ofNat q)->q<=rows.length->q=hh/\Bd mx' c c mm/\(hi'=none->mx'=none)/\Bd hi' mm n hh/\hh<=mm/\(cc=true->mm=hh)) ->
   (∃ r,(Instr.sliceAt t (.slice a n c) C hi' mx').run P w=.ok r w/\VR ρ v r)/\J5 m m'/\m.lg.le m'.lg:=fun{m g hv cc C hh mm} h D Z=>by
  unfold fR at h;obtain⟨hint,h⟩:=A3 h;obtain⟨az,ai⟩:=B4 hint;rw[N2]at h;simp only[D2,L8]at h;obtain⟨rfl,rfl⟩:=h;obtain⟨f1,f2,ao,an,ay,f3,f4⟩:=jU hS (.refl _);have S:[hole i tg,g,hv].map (D6 Ora.env)=[.seq L wd rows,D6 Ora.env g,D6 Ora.env hv]:=by
   show[Ora.env i,_,_]=_;rw[e1]
  rw[S]at f1;have aq:tg-10=wd:=A2;rw[aq]at f1;obtain⟨Y,l0,M,h0,a1,a2,a3,a4⟩:∃ Y l0 M h0,D6 Ora.env g=.int Y (.ofNat l0)/\D6 Ora.env hv=.int M (.ofNat h0)/\l0<=h0/\h0<=rows.length:=by
   have av:evU (.subs wd) [.seq L wd rows,D6 Ora.env g,D6 Ora.env hv]≠.none:=by rw[<- f1,f3];intro h;cases h
   obtain⟨Y,l0,M,h0,X,A,_,q3,q4⟩:=A0m av;exact⟨Y,l0,M,h0,X,A,q3,q4⟩
  rw[a1,a2]at f1;have f1:Ora.env m.lg.nx=if wd=wd/\l0<=h0/\h0<=rows.length then U.seq L wd ((rows.drop l0).take (h0-l0))else .none:=f1
  rw[A9 ⟨rfl,a3,a4⟩]at f1;obtain⟨rfl,O,b2,b3,b4,b5⟩:=Z M h0 a2 a4;have b6:Bd C h0 0 l0:=by
   rcases D with⟨rfl,rfl⟩|⟨y,rfl,hy⟩
   .cases a1;exact .inl ⟨rfl,rfl⟩
   .obtain⟨j,rfl⟩:=BU hy az a1;exact .inr ⟨j,rfl,a3⟩
  have R:=tJ (P:=P) (a:=a) (n:=n) (c:=c) hu hs O b2 b3 b6 w;have I:Enc l.G (Ora.env m.lg.nx) (.slice (if mm=l0 then a else a.map (·.add (l0*wd))) (h0-l0) (mm-l0)):=by
   rw[f1];rcases A23 (mm:=mm) F a3 a4 b4 (by rcases O with⟨_,rfl⟩|⟨_,_,O⟩<;>omega)with he|rfl
   .exact he
   .rcases t7 F with⟨rfl,rfl,H⟩|⟨_,_,_,H,_⟩
    .cases H;have z1:h0=0:=by simp at a4;exact a4
     have z2:l0=0:=A2;have z3:mm=0:=by
      rcases O with⟨_,rfl⟩|⟨_,_,O⟩<;>omega
     subst z1;subst z2;subst z3;exact .nil
    .cases H
  refine⟨⟨_,R,?_⟩,⟨_,rfl⟩,V5⟩;cases cc with
  | false=>exact .dat h1 I f2 A2 rfl
  | true =>
    refine .clp h1 I f2 A2 rfl ?_;show mm-l0=h0-l0;rw[b5 rfl]
 have B:∀ {hv y:Value} {kk:IntKind} {q:Nat},VR ρ hv y->xY hv=true->D6 Ora.env hv=.int kk (.ofNat q)->∃ j,y=.int j (.ofNat q):=fun h1 F h3=>BU h1 F h3
 have p:∀ {m:Mem} {g hv:Value} {cc:Bool},fR m b i tg g hv cc=some (v,m')->xY hv=true:=fun h=>by
  unfold fR at h;exact(B4 (A3 h).1).2
 have main:∀ g,(lo'=none/\g=.int .i64 0∨∃ y,lo'=some y/\VR ρ g y)->KE m b i tg cl g hi mx=some (v,m')->(∃ r,(Instr.sliceAt t (.slice a n c) lo' hi' mx').run P w=.ok r w/\VR ρ v r)/\J5 m m'/\m.lg.le m'.lg:=fun g D h=>by
  cases hi with
  | some hv =>
    obtain⟨al,rfl,E⟩:=f Q;cases mx with
    | none =>
      cases d J;have h:fR m b i tg g hv false=some (v,m'):=h;have hint:=p h;obtain⟨kk,q,H⟩:∃ kk q,D6 Ora.env hv=.int kk q:=by
       obtain⟨k,z,_,f2,_⟩:=M2 E (A1 hint);exact⟨k,z,f2⟩
      exact go (hh:=q.toNat) (mm:=c) h D fun T A h1 F=>by
       rw[H]at h1;injection h1 with _ h1
       subst h1;obtain⟨j,rfl⟩:=B E hint H;have e:(Int.ofNat A).toNat=A:=rfl;rw[e];exact⟨rfl,.inl ⟨rfl,rfl⟩,fun h=>(by cases h),.inr ⟨j,rfl,A2⟩,A2,fun h=>by cases h⟩
    | some x =>
      obtain⟨x',rfl,au⟩:=f J;have h:(bif PD hv x then fR m b i tg g hv true else none)=some (v,m'):=h;obtain⟨K,h⟩:=A3 h;have hint:=p h
      have:=WI K E au;subst this;obtain⟨kk,q,H⟩:∃ kk q,D6 Ora.env hv=.int kk q:=by
       obtain⟨k,z,_,f2,_⟩:=M2 E (A1 hint);exact⟨k,z,f2⟩
      exact go (hh:=q.toNat) (mm:=q.toNat) h D fun T A h1 F=>by
       rw[H]at h1;injection h1 with _ h1
       subst h1;obtain⟨j,rfl⟩:=B E hint H;have e:(Int.ofNat A).toNat=A:=rfl;rw[e];exact⟨rfl,.inr ⟨j,rfl,A2⟩,fun h=>(by cases h),.inr ⟨j,rfl,A7 _⟩,A7 _,fun _=>rfl⟩
  | none =>
    cases d Q;cases mx with
    | some x=>cases h
    | none =>
      cases d J;unfold KE at h;simp only at h;split at h
      .rename_i hv m1 hl;have N:J5 m1 m'/\m1.lg.le m'.lg:=by
        unfold fR at h;obtain⟨_,h⟩:=A3 h;rw[N2]at h;simp only[D2,L8]at h;obtain⟨_,rfl⟩:=h;exact⟨⟨_,rfl⟩,V5⟩
       obtain⟨X,A,q3,q4⟩:=lG (ρ:=ρ) hl e1 (hS.le N.2);obtain⟨r1,r2,r3⟩:=go (hh:=rows.length) (mm:=c) h D fun T A h1 F=>by
        rw[q4]at h1;injection h1 with _ h1
        have h1:((rows.length:Nat):Int)=(A:Nat):=h1;have:A=rows.length:=A2;subst this;refine⟨rfl,.inl ⟨rfl,rfl⟩,fun _=>rfl,.inl ⟨rfl,hn.symm⟩,A2,fun hc=>?_⟩
        have:=ax hc;have:c=n:=this;omega
       exact⟨r1,A.trans r2,q3.trans r3⟩
      .cases h
 cases lo with
 | none=>exact main _ (.inl ⟨d V,rfl⟩) h
 | some y=>obtain⟨W,X,A⟩:=f V;exact main _ (.inr ⟨W,X,A⟩) h
end
end
section
open Go
variable [Ora]
section
variable {P:Program} {base:Nat} {ρ ρ':Ren} {m m':Mem} {w w':World}
def O1(R:Nat->Option Obj)(rows:List (List U))(wd:Nat)(C:Array Value)(o:Nat):Prop :=
 (∀ row ∈ rows,row.length=wd)/\∀ (r:Nat) (row:List U) (j:Nat) (u:U) (v:Value),rows[r]? = some row->row[j]? = some u->C[o+r*wd+j]? = some v->Enc R u v
def O1.mono{R d:Nat->Option Obj}{rows:List (List U)}{wd:Nat}{C:V9}(h:O1 R rows wd C o)(hs:Sub R d):O1 d rows wd C o:=⟨h.1,fun r row j u v a b c=>(h.2 r row j u v a b c).mono hs⟩
def O1.nil{R:Nat->Option Obj}{wd:Nat}{C:V9}:O1 R [] wd C o:=⟨fun _ h=>by(cases h),fun r row j u v h=>by simp at h⟩
def nC{wd:Nat}:∀ {n:Nat} {l:List U} {r:List (List U)},c8 wd n l=some r->r.length=n/\l.length=n*wd/\(∀ row ∈ r,row.length=wd)/\∀ (q:Nat) (row:List U) (j:Nat) (u:U),r[q]? = some row->row[j]? = some u->l[q*wd+j]? = some u
 | 0,[],r,h=>by cases h;exact⟨rfl,by simp,fun _ h=>(by cases h),fun q row j u h=>by simp at h⟩
 | 0,_::_,r,h=>by cases h
 | n+1,l,r,h=>by
   unfold c8 at h;split at h
   .rename_i hle;split at h
    .rename_i g hr;cases h;obtain⟨h1,f,h3,c⟩:=nC hr;have e:l.length=(n+1)*wd:=by
      rw[D1]at f;rw[H4];omega
     refine⟨by simp[h1],e,fun row b=>?_,fun q row j u g1 g2=>?_⟩
     .rcases B3.1 b with rfl|b
      .simp;omega
      .exact h3 row b
     .cases q with
      | zero =>
        simp at g1;subst g1;have d:=(B0.1 g2).1;simp at d;rw[F2 A2]at g2
        simpa using g2
      | succ q =>
        have:=c q row j u (by simpa using g1) g2;rw[H7]at this;rw[show(q+1)*wd+j=wd+(q*wd+j) by rw[H4];omega];exact this
    .cases h
   .cases h
def oG{wd:Nat}:∀ (n:Nat) (l:List U),l.length=n*wd->∃ r,c8 wd n l=some r
 | 0,[],_=>⟨[],rfl⟩
 | 0,_::_,h=>by simp at h
 | n+1,l,h=>by
   rw[H4]at h;obtain⟨r,hr⟩:=oG (wd:=wd) n (l.drop wd) (by rw[D1];omega);refine⟨l.take wd::r,?_⟩;unfold c8;rw[A9 A2,hr]
def nK{R:Nat->Option Obj}{wd n:Nat}{rows:List (List U)}(h:Y2 R us vs)(c:c8 wd n us=some rows):O1 R rows wd ⟨vs⟩ 0:=by
 obtain⟨h1,d,h3,b⟩:=nC c;refine⟨h3,fun r row j u v g1 g2 g3=>h.2 _ u v (b r row j u g1 g2) ?_⟩
 simpa using g3
def wV{α:Type}{l:List α}:∀ n,(MK l n).length=n*l.length
 | 0=>by simp[MK]
 | n+1=>by simp[MK,wV n,H4];omega
def gV(s:List UInt8):(jM s).length=s.length:=by simp[jM]
def HL{R:Nat->Option Obj}(s:List UInt8):O1 R (jM s) 1 ⟨O8 s⟩ 0:=by
 refine⟨fun row hr=>?_,fun r row j u v g1 g2 g3=>?_⟩
 .unfold jM at hr;obtain⟨b,_,rfl⟩:=K1.1 hr;rfl
 .unfold jM at g1;rw[F3]at g1;cases c:s[r]? with
  | none=>rw[c]at g1;cases g1
  | some b =>
    rw[c]at g1;simp only[K9,D2]at g1;subst g1;cases j with
    | zero =>
      simp at g2;subst g2;have g3:(O8 s)[0+r*1+0]? = some v:=by simpa using g3
      unfold O8 at g3;rw[F3,show 0+r*1+0=r by omega,c]at g3;simp only[K9,D2]at g3;subst g3;exact .sc rfl
    | succ j=>simp at g2
def sV{G:Nat->Option Obj}{wd n c:Nat}{rows:List (List U)}(h:Enc G (.seq false wd rows) (.slice (some a) n c))(F:∀ k A,G k=some A->w.heap[k]? = some A) :
  n=rows.length/\∃ new',new'.length=rows.length*wd/\new'.all i6=true/\O1 G rows wd ⟨new'⟩ 0/\∀ (j:Nat) (v':Value),new'[j]? = some v'->w.cell? (a.add j)=some v':=by
 cases h with
 | sc h=>cases h
 | emp=>exact⟨rfl,[],by simp,rfl,.nil,fun j v' h=>by simp at h⟩
 | sl J E B hw f =>
   rename_i a o C T fz;refine⟨rfl,?_⟩;cases hr:rows with
   | nil=>exact⟨[],by simp,rfl,.nil,fun j v' h=>by simp at h⟩
   | cons H I =>
     have g:rows≠[]:=by rw[hr];simp
     rw[<- hr];have hh:=F _ _ (E g);have B:=B g;have hlen:((C.toList.drop o).take (rows.length*wd)).length=rows.length*wd:=by simp;omega
     have b:∀ j,j<rows.length*wd->((C.toList.drop o).take (rows.length*wd))[j]? = C[o+j]? := fun j d=>by
      rw[F2 d,H7];simp
     refine⟨_,hlen,?_,⟨hw,fun r row j u v g1 g2 g3=>?_⟩,fun j v' d=>?_⟩
     .refine D3.2 fun v hv=>?_
      obtain⟨j,d,e⟩:=c9 hv;rw[hlen]at d;have q:C[o+j]? = some v:=by rw[<- b j d,A5 (by rw[hlen];exact d),e]
      have p:0<wd:=by
       rcases S1 wd with h0|h0
       .subst h0;omega
       .exact h0
      have h1:j / wd<rows.length:=by rw[Nat.div_lt_iff_lt_mul p];exact d
      have y:(rows[j / wd]).length=wd:=hw _ (N1 h1);have h3:j%wd<wd:=oN _ p;refine lR (f (j / wd) rows[j / wd] (j%wd) (rows[j / wd])[j%wd] v (A5 h1) (A5 (by rw[y];exact h3)) ?_);have:o+j / wd*wd+j%wd=o+j:=by have:=Nat.div_add_mod j wd;rw[aR]at this;omega
      rw[this];exact q
     .have D:0+r*wd+j<rows.length*wd:=by
       have t:=(B0.1 g1).1;have x:=(B0.1 g2).1;rw[hw _ (C7 g1)]at x;have y:(r+1)*wd<=rows.length*wd:=F4 wd t;rw[H4]at y;omega
      have g3:((C.toList.drop o).take (rows.length*wd))[0+r*wd+j]? = some v:=by simpa using g3
      rw[b _ D]at g3;exact f r row j u v g1 g2 (by rw[show o+r*wd+j=o+(0+r*wd+j) by omega];exact g3)
     .have l:=(B0.1 d).1;rw[hlen]at l;rw[b j l]at d;rw[K0.add_none'];simp[World.cell?,hh,d]
structure UR (P:Program) (ρ':Ren) (w:World) (wd:Nat) (bh:Beh) (gs:List Nat) (y':Value) (rows2:List (List U)) (new':List Value):Prop where
 len:∀ wd',(Builtin.lenOf y').run P wd'=.ok rows2.length wd'
 first:∀ wd':World,wd'.heap=w.heap->(Builtin.firstCells wd rows2.length y').run P wd'=.ok ⟨new'⟩ wd'
 size:new'.length=rows2.length*wd
 flat:new'.all i6=true
 rows:∀ R,(∀ b ∈ gs,∀ l,ρ' b=some l->Sub l.G R)->O1 R rows2 wd ⟨new'⟩ 0
 ev:∀ c nul rows,Ora.env c=.seq nul wd rows->evU (cW wd (hole c (10+wd)) bh).1 ((cW wd (hole c (10+wd)) bh).2.map (D6 Ora.env))=rM nul wd rows rows2
def CF{R:Nat->Option Obj}(h:Y2 R us vs):vs.all i6=true:=by
 refine D3.2 fun v hv=>?_
 obtain⟨j,b,e⟩:=c9 hv;have hu:j<us.length:=by rw[h.1];exact b
 exact lR (h.2 j us[j] v (A5 hu) (by rw[A5 b,e]))
def SI{td:Td}(L:zI P td){e:TypeId}{wd:Nat}{y y':Value}{bh:Beh}{gs:G9}(h:HR P base ρ m.H w)(p:A1M td P m e wd y=some (bh,gs,sure,m'))(hf:J9 ρ m.n m'.hi)(O:VR ρ y y')(hS:Sat m'.lg)(Z:0<wd)(Y:G5 P e=some wd) :
  ∃ ρ' d new',St P base ρ ρ' m m' w w/\m.lg.le m'.lg/\j7 ρ m m'/\(∀ b ∈ gs,Hp.get m'.H b=some .frz/\∃ l,ρ' b=some l)/\UR P ρ' w wd bh gs y' d new'/\(sure=true->d≠[]):=by
 unfold A1M at p;split at p
 .cases p;cases P1 O;refine⟨ρ,[],[],St.refl h,.refl _,.refl,fun b F=>(by cases F),⟨fun _=>rfl,fun _ _=>rfl,by simp,rfl,fun R _=>.nil,fun c g rows A=>?_⟩,fun h=>by cases h⟩;show evU (.snoc wd) [Ora.env c]=_;rw[A];show(if wd=wd/\wd≠0 then(match c8 wd (([]:List U).length / wd) []with|some r=>rM g wd rows r|none=>.none)else .none)=_;rw[A9 ⟨rfl,A2⟩,I4,Nat.zero_div];rfl
 .rename_i a n c;split at p
  .rename_i cs ts hr W;split at p
   .rename_i xs aw m2 hd;cases p;have az:eF m wd (.slice (some a) n c)=some (n,cs):=by simp only[eF,hr]
    obtain⟨f1,new',f2,f3⟩:=tX h az O;obtain⟨ρ2,I,M,Q,t,S,K⟩:=iG L h hd hf f2 hS;have X:ts.length=wd:=by have:=iK W;rw[Y]at this;exact(A8 this).symm
    have G:(xs.map (D6 Ora.env)).length=n*wd:=by
     have:=D9 List.length S;rw[E4,wV,X]at this;exact this
    obtain⟨d,D⟩:=oG (wd:=wd) n (xs.map (D6 Ora.env)) G;obtain⟨g1,g2,g3,g4⟩:=nC D;refine⟨ρ2,d,new',I,M,Q,t,⟨fun q=>by rw[g1];exact f1 q,fun q E=>by rw[g1];exact f3 q E,?_,?_,fun R hR=>nK (K R hR) D,fun c g rows A=>?_⟩,fun hs=>?_⟩
    .have:=(K (fun k=>w.heap[k]?) (fun b F l V k o T=>by
      obtain⟨J,_⟩:=t b F;exact(I.hr.atl V J).1.2 k o T)).1
     rw[<- this,G,g1]
    .exact CF (K (fun k=>w.heap[k]?) (fun b F l V k o T=>by
      obtain⟨J,_⟩:=t b F;exact(I.hr.atl V J).1.2 k o T))
    .show evU (.snoc wd) (Ora.env c::xs.map (D6 Ora.env))=_;rw[A];show(if wd=wd/\wd≠0 then(match c8 wd ((xs.map (D6 Ora.env)).length / wd) (xs.map (D6 Ora.env))with|some r=>rM g wd rows r|none=>.none)else .none)=_;rw[A9 ⟨rfl,A2⟩,G,o7 _ Z,D]
    .have:0<n:=A1 hs;intro he;subst he;simp at g1;omega
   .cases p
  .cases p
 .split at p
  .rename_i x b m2 hd;cases p;obtain⟨ρ2,l,I,M,Q,t,S,K,e7⟩:=L.ok h hd hf O hS;obtain⟨ax,f,d,J,q2⟩:=fQ t S A2;have ay:f=wd:=A2;subst ay;have hG:=(I.hr.atl M Q).1.2;rw[J]at t;have N:∀ c g rows,Ora.env c=.seq g f rows->evU (cW f (hole c (10+f)) (.rows x)).1 ((cW f (hole c (10+f)) (.rows x)).2.map (D6 Ora.env))=rM g f rows d:=fun c g rows A=>by
    show evU (.cat f) [Ora.env c,D6 Ora.env x]=_;rw[A,J];simp[evU]
   have B:∀ b' ∈ [b],Hp.get m'.H b'=some .frz/\∃ l,ρ2 b'=some l:=fun b' C=>by
    rcases B3.1 C with rfl|C
    .exact⟨Q,l,M⟩
    .cases C
   rcases t7 t with⟨rfl,rfl,rfl⟩|⟨rfl,a,c,rfl,A⟩
   .exact⟨ρ2,[],[],I,K,e7,B,⟨fun _=>rfl,fun _ _=>rfl,by simp,rfl,fun R _=>.nil,N⟩,fun h=>by cases h⟩
   .obtain⟨_,new',g1,g2,g3,g4⟩:=sV (w:=w) t hG;refine⟨ρ2,d,new',I,K,e7,B,⟨fun _=>rfl,fun q E=>?_,g1,g2,fun R hR=>g3.mono (hR b (.head _) l M),N⟩,fun h=>by cases h⟩;rw[show Builtin.firstCells f d.length (.slice (some a) d.length c)=loadCells a (d.length*f)from rfl];exact lF g1 fun j v' hj=>by rw[bM E];exact g4 j v' hj
  .cases p
 .obtain⟨h1,p⟩:=A3 p;obtain⟨h2,h3⟩:=B4 h1;have h4:=A0 h2;have h5:=A0 h3;cases p;subst h5;obtain⟨s,rfl,f1⟩:=l5 O h4;refine⟨ρ,jM s,O8 s,St.refl h,.refl _,.refl,fun b F=>(by cases F),⟨fun _=>?_,fun q _=>?_,by simp[jM,O8],?_,fun R _=>HL s,fun c g rows A=>?_⟩,fun h=>by cases h⟩
  .rw[gV];rfl
  .rw[gV];have e:((ByteArray.extract ⟨⟨s⟩⟩ 0 s.length).data.map fun b=>Value.int .u8 b.toNat)=⟨O8 s⟩:=by
    rw[gD];apply I7;simp[O8]
   show(pure ((ByteArray.extract ⟨⟨s⟩⟩ 0 s.length).data.map fun b=>Value.int .u8 b.toNat):Sem V9).run P q=_;rw[e];rfl
  .refine D3.2 fun v hv=>?_
   unfold O8 at hv;obtain⟨b,_,rfl⟩:=K1.1 hv;rfl
  .show evU .cats [Ora.env c,D6 Ora.env y]=_;rw[A,f1];simp[evU]
end
end
section
open Go
variable [Ora]
section
variable {P:Program} {base:Nat} {ρ ρ':Ren} {m m':Mem} {w w':World}
def Sub.trans{A B C:Nat->Option Obj}(h:Sub A B)(k:Sub B C):Sub A C:=fun q o b=>k q o (h q o b)
structure A1i (P:Program) (base:Nat) (ρ:Ren) (m:Mem) (w:World) (e:TypeId) (wd c:Nat) (gs:List Nat) (old:Option Nat) (x':Value):Prop where
 ex:∃ nul rows,Ora.env c=.seq nul wd rows/\((nul=true/\rows=[]/\x'=.slice none 0 0/\(∀ b,old=some b->∃ ab l,b<=H5/\Hp.get m.H b=some ab/\ab.rw=true/\ρ b=some l/\l.on=false)) ∨
  (nul=false/\∃ b ab l cap C fz,old=some b/\b<=H5/\Hp.get m.H b=some ab/\ab.rw=true/\ρ b=some l/\l.on=true/\x'=.slice (some ⟨l.blk,l.sh,none⟩) rows.length cap/\w.heap[l.blk]? = some (.cells C e fz) /\
    rows.length<=cap/\l.sh+cap*wd<=C.size/\(∀ i,i<C.size->¬ (fz.1<=i/\i<fz.2))/\∀ R,(∀ b ∈ gs,∀ l,ρ b=some l->Sub l.G R)->O1 R rows wd C l.sh))
def LA{td:Td}(au:zI P td){e:TypeId}{wd c:Nat}{x x':Value}{gs:G9}{old:Option Nat}(h:HR P base ρ m.H w)(d:CX td P m e wd x=some (c,gs,old,m'))(hf:J9 ρ m.n m'.hi)(hx:VR ρ x x')(hS:Sat m'.lg)(ah:0<wd)(p:G5 P e=some wd) :
  ∃ ρ',St P base ρ ρ' m m' w w/\m.lg.le m'.lg/\j7 ρ m m'/\A1i P base ρ' m' w e wd c gs old x':=by
 unfold CX at d;split at d
 .rw[N2]at d;simp only[hole]at d;cases d;cases P1 hx;obtain⟨t,e2,_⟩:=jU hS (.refl _);refine⟨ρ,St.wLg h _,V5,j7.lg _,⟨true,[],t,.inl ⟨rfl,rfl,rfl,fun b hb=>by cases hb⟩⟩⟩
 .rename_i b i tg;split at d
  .rename_i c0 tc T g S;obtain⟨h1,d⟩:=A3 d;obtain⟨h1,K⟩:=B4 h1;obtain⟨h1,h3⟩:=B4 h1;obtain⟨K,y⟩:=B4 K;have h1:=A0 h1;have h3:=A0 h3;have K:=A0 K;have y:=A1 y;cases d;subst K;obtain⟨Z,bx⟩:=fL hx;rcases Z with⟨l,ae,g1,g2,g3,rfl⟩|⟨l,ae,ad,g1,g2,g3,g4,bs,rfl⟩
   .obtain⟨J,inf,t,e2,e3,f⟩:=SqR.ex (h.atl g1 S).1;rcases f with⟨_,f⟩|⟨f,_⟩
    .have:J=wd:=A2;subst this;refine⟨ρ,St.refl h,.refl _,.refl,⟨true,[],f,.inl ⟨rfl,rfl,rfl,fun b' az=>?_⟩⟩⟩;cases az;exact⟨_,l,y,S,rfl,g1,g2⟩
    .rw[g2]at f;cases f
   .obtain⟨J,inf,t,e2,e3,f⟩:=SqR.ex (h.atl g1 S).1;rcases f with⟨f,_⟩|⟨_,f⟩
    .rw[g2]at f;cases f
    .obtain⟨C,fz,T',rows,lg,f1,f2,f3,f4,f5,f6,f7,f8,f9⟩:=f;have:J=wd:=A2;subst this;obtain⟨rfl,f10⟩:=f9 rfl;exact⟨ρ,St.refl h,.refl _,.refl,⟨false,rows,f2,.inr ⟨rfl,b,_,l,l.cap,C,fz,rfl,y,S,rfl,g1,g2,by rw[f3],f1,A2,f5,f10,fun R hR=>⟨f6,fun r row j u v q1 q2 q3=>(f8 r row j u v q1 q2 q3).mono (hR g (.head _) lg f7)⟩⟩⟩⟩
  .cases d
 .rename_i b n c0;split at d
  .rename_i cs T0 br ts S al;obtain⟨hq,k⟩:=A3 d;obtain⟨ar,ay⟩:=B4 hq;have h1:=A0 ar;clear d;split at k
   .rename_i xs bw m1 hd;split at k
    .rename_i bu T V;obtain⟨O,N⟩:=A3 k;clear k;obtain⟨O,y⟩:=B4 O;have h3:=A0 O;have y:=A1 y;subst h3;rw[N2]at N;simp only[hole]at N;cases N;have av:J9 ρ m.n m1.hi:=by simpa using hf
     have ak:Sat m1.lg:=R2.le hS V5;obtain⟨l,cap,q,bz,ai,aq⟩:∃ l cap,ρ b=some l/\n<=cap/\(cap=n∨cap=l.cap)/\x'=.slice (some ⟨l.blk,0+l.sh,none⟩) n cap:=by
      rcases(I5 _ _).mp ay with B|B
      .obtain⟨I,L⟩:=B4 B;have I:=A0 I;have L:c0<M5:=A1 L;rcases O5 hx with⟨l,q,_,M,rfl⟩|⟨l,c',q,_,an,X,W,rfl⟩|⟨a',c',_,_,B,_⟩
       .exact⟨l,c0,q,A2,.inl I,rfl⟩
       .omega
       .omega
      .have B:=A0 B;rcases O5 hx with⟨l,q,_,M,rfl⟩|⟨l,c',q,_,an,X,W,rfl⟩|⟨a',c',_,_,L,_⟩
       .omega
       .exact⟨l,c',q,X,.inr (W B rfl),rfl⟩
       .omega
     obtain⟨⟨aw,C,fz,T1,f1,f2,_⟩,_⟩:=h.atl q S;obtain⟨cs',f4,f5⟩:=dL (ρ:=ρ) (C:=C) (cs:=cs) (s:=l.sh) f2;obtain⟨aa,t,e2,e3,f,e5,e6⟩:=iG au h hd av f4 ak;obtain⟨⟨_,C1,bt,T2,g1,g2,g3⟩,_⟩:=t.hr.atl (t.ext _ _ q) V;rw[f1]at g1;cases g1;obtain⟨rfl,g4,g5⟩:=g3 rfl;have D:=iK al;rw[p]at D;have M:ts.length=wd:=(A8 D).symm;have Y:(xs.map (D6 Ora.env)).length=n*wd:=by
      have:=D9 List.length e5;rw[E4,wV,M]at this;exact this
     obtain⟨rows,F⟩:=oG (wd:=wd) n (xs.map (D6 Ora.env)) Y;obtain⟨q1,q2,q3,q4⟩:=nC F;obtain⟨d1,d2,_⟩:=jU hS (.refl _);have B:Ora.env m1.lg.nx=.seq false wd rows:=by
      rw[d1];show(if wd=0 then U.none else match c8 wd ((xs.map (D6 Ora.env)).length / wd) (xs.map (D6 Ora.env))with|some r=>.seq false wd r|none=>.none)=_;rw[A6 A2,Y,o7 _ ah,F]
     have aj:cs'.length=n*wd:=by rw[<- f4.1];exact h1
     obtain⟨inf,A,E⟩:∃ inf,P.info? T1=some inf/\inf.size=wd:=by
      unfold G5 at p;cases hi:P.info? T1 with
      | none=>rw[hi]at p;cases p
      | some inf=>rw[hi]at p;exact⟨inf,rfl,A8 p⟩
     have G:l.sh+cap*wd<=C.size:=by
      rcases ai with rfl|rfl
      .rcases S1 (cap*wd)with h0|h0
       .rw[h0]
        have:=g5 inf A;rw[E]at this;omega
       .have Q:cap*wd-1<cs'.length:=A2
        have:=f5 (cap*wd-1) cs'[cap*wd-1] (A5 Q)
        have:=(C6.1 this).1;omega
      .have:=g5 inf A;rw[E]at this;exact this.1
     have ax:=St.wLg t.hr (eZ m1 (10+wd) (.mk wd) xs);refine⟨aa,St.trans (by simpa using hf) t ax,e2.trans V5,fun j lj hj af=>by rw[kG];exact e3 j lj hj af,⟨false,rows,B,.inr ⟨rfl,b,_,l,cap,C,fz,rfl,y,by rw[kG];exact V,rfl,t.ext _ _ q,aw,by rw[aq,q1,F1],f1,A2,G,g4,fun R hR=>?_⟩⟩⟩;obtain⟨r1,r2⟩:=nK (e6 R hR) F;refine⟨r1,fun r row j u v a1 a2 a3=>r2 r row j u v a1 a2 ?_⟩;have hq:r*wd+j<cs'.length:=by
      have ag:=(B0.1 a1).1;have ao:=(B0.1 a2).1;rw[r1 _ (C7 a1)]at ao;have K:(r+1)*wd<=rows.length*wd:=F4 wd ag;rw[H4]at K;rw[aj,<- q1];omega
     have:=f5 (r*wd+j) cs'[r*wd+j] (A5 hq);rw[show l.sh+r*wd+j=l.sh+(r*wd+j) by omega,this]at a3;have a3:=A8 a3;show(Array.mk cs')[0+r*wd+j]? = some v;rw[I3,show 0+r*wd+j=r*wd+j by omega,A5 hq,a3]
    .cases k
   .cases k
  .cases d
 .cases d
end
end
end Go.Sx
