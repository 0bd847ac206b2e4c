import Derived.Test.YtbbicpheoakeeaaGreatDoorX2
set_option linter.all false
set_option maxRecDepth 100000
set_option maxHeartbeats 4000000
namespace Go.Sx
variable {op:LOp}{s ty:TypeId}{hi i j o tg:Nat}{i' z z':Value}{u:U}{kh kk kl:IntKind}{hi' lo lo' mx mx':P4}{hs r' vs vs' xs:C9}{tys:List TypeId}{a:Addr}{m1:Mem}{row us:List U}{ts:G5}{cl sure:Bool}
section
open Go
variable [Ora]
section
variable {P:Program} {base:Nat} {ρ:Ren} {m m':Mem} {w:World}
def pk(k:IntKind)(n:Int):H9 (.int k n)=true:=rfl
def SX{op:UnOp}{x x' v:Value}(h:EQ m op x=some (v,m'))(hx:VR ρ x x')(g:Sat m'.lg)(w:World):∃ r,(Op.unary op x').run P w=.ok r w/\VR ρ v r:=by
 unfold EQ at h;simp only at h;split at h
 .obtain⟨h1,h⟩:=A3 h;obtain⟨b,rfl,e⟩:=fE hx (A0 h1);obtain⟨u,c,l,r,d,f,_⟩:=L5 h g;simp only[C4,F8,e,evU,ev1,unM,ofV]at c;subst c;cases d;exact⟨_,(JH (P:=P) (ρ:=ρ) (op:=.not) (x:=.bool b) (v:=.bool !b) rfl (.pure rfl) w).1,f ρ⟩
 .obtain⟨h1,h⟩:=A3 h;obtain⟨k,n,rfl,e,_⟩:=L7 hx (A1 h1);obtain⟨u,c,l,r,d,f,p⟩:=L5 h g;simp only[C4,F8,e,evU,ev1]at c;subst c;obtain⟨r',g1,g2⟩:=CC (by rw[l];exact p);rw[d]at g2;cases g2;exact⟨_,(JH (P:=P) (ρ:=ρ) g1 (.pure (pk k n)) w).1,f ρ⟩
def JO{t:TypeId}{x x' v:Value}(h:nZ P m s t x=some (v,m'))(hx:VR ρ x x')(g:Sat m'.lg)(w:World):∃ r,(convert s t x').run P w=.ok r w/\VR ρ v r:=by
 unfold nZ at h;split at h
 .rename_i j k hs c;obtain⟨h1,h⟩:=A3 h;obtain⟨q,n,rfl,e,_⟩:=L7 hx (A1 h1);obtain⟨u,d,y,r,f,l,p⟩:=L5 h g;simp only[C4,F8,e,evU]at d;subst d;cases f;exact⟨_,by simp[convert,A4,C8 hs,C8 c,Result.andThen,Conv.intToInt],l ρ⟩
 .rename_i hs c;obtain⟨h1,h⟩:=A3 h;cases h;obtain⟨b,rfl,e⟩:=d7 hx (A0 h1);exact⟨_,by simp[convert,A4,C8 hs,C8 c,Result.andThen],hx⟩
 .cases h
def gF{t:Nat}:∀ {cs:C9},Z7 t cs=true->∀ {i:Nat} {v:Value},cs[i]? = some v->G0 v=t
 | [],_,i,v,h=>by simp at h
 | c::r,hs,i,v,h=>by
   obtain⟨h1,b⟩:=B3 (show(Nat.beq (G0 c) t && Z7 t r)=true from hs);cases i with
   | zero=>simp at h;subst h;exact A0 h1
   | succ i=>exact gF b (by simpa using h)
def TM{t e:TypeId}{n:Nat}{cs:U8}{x' i v:Value}(hu:P.underlying t=some (.array n e))(y:s5 P e=some false)(f:G3 P e=some 1)(E:cs.toList.length=n)(g:Z7 tg cs.toList=true)(x:tg<10)
  (l:G0 i<8) (h:S7 m tg .sel (i::cs.toList)=some (v,m')) (hx:VR ρ (.agg cs) x') (hi:VR ρ i i') (B:Sat m'.lg) (w:World):∃ r,(Instr.index t x' i').run P w=.ok r w/\VR ρ v r:=by
 obtain⟨k,z,rfl,e,_⟩:=L7 hi l;obtain⟨u,c,F,r,d,C,D⟩:=L5 h B;simp only[C4,e]at c;cases z with
 | negSucc z=>simp only[evU]at c;subst c;cases d
 | ofNat z =>
   simp only[evU]at c;by_cases q:z<cs.toList.length
   .have b:cs.toList[z]? = some cs.toList[z]:=A5 q;have p:=gF g b;have hm:kA P t (.agg cs) (.int k (.ofNat z))=some cs.toList[z]:=by
     have A:Nat.blt z n=true:=C5 A2;simp only[kA,hu,f,A,D8,oS,y,Nat.mul_one];exact b
    obtain⟨v',g1,g2⟩:=qY (P:=P) hm hx (.pure rfl) w;obtain⟨f1,_⟩:=n9 g2 A2;have:u=D3 Ora.env cs.toList[z]:=by
     rw[<- c,B2,F9,b];rfl
    rw[this,f1]at d;cases d;exact⟨_,g1,C ρ⟩
   .rw[B2,S4 (by simp at q ⊢;omega)]at c;subst c;cases d
def yY{e:TypeId}(h:Nat.beq (Z6.sizeD P e) 1=true):G3 P e=some 1:=by
 have h:=A0 h;unfold Z6.sizeD at h;split at h
 .rename_i n b;rw[b,h]
 .cases h
def ET{t:TypeId}{x x' i v:Value}(h:Z6 P m t x i=some (v,m'))(hx:VR ρ x x')(hi:VR ρ i i')(p:Sat m'.lg)(w:World):∃ r,(Instr.index t x' i').run P w=.ok r w/\VR ρ v r:=by
 unfold Z6 at h;cases l:!(Nat.blt (G0 i) 8)with
 | true=>rw[l]at h;cases h
 | false =>
   have d:G0 i<8:=by
    have:Nat.blt (G0 i) 8=true:=by simpa using l
    exact A1 this
   rw[l]at h;simp only[D4]at h;split at h
   .rename_i hu;obtain⟨h1,h⟩:=A3 h;obtain⟨s,rfl,f1⟩:=d7 hx (A0 h1);obtain⟨k,z,rfl,f2,_⟩:=L7 hi d;obtain⟨u,c,B,r,g,y,A⟩:=L5 h p;simp only[C4,F8,f1,f2]at c;cases z with
    | negSucc z=>simp only[evU]at c;subst c;cases g
    | ofNat z =>
      simp only[evU]at c;split at c
      .rename_i b q;subst c;cases g;have hm:kA P t (.string ⟨⟨s⟩⟩) (.int k (.ofNat z))=some (.int .u8 b.toNat):=by
        simp only[kA,hu,q]
       obtain⟨v',g1,g2⟩:=qY (P:=P) (ρ:=ρ) hm (.pure rfl) (.pure rfl) w;cases I4 g2;exact⟨_,g1,y ρ⟩
      .subst c;cases g
   .rename_i n e hu;split at h
    .rename_i cs k he;obtain⟨h1,h⟩:=A3 h;obtain⟨h1,h3⟩:=B3 h1;obtain⟨h1,f⟩:=B3 h1;exact TM hu (by simp[s5,he]) (yY h3) (A0 h1) f (by have:=K7 k;omega) d h hx hi p w
    .rename_i cs he;obtain⟨h1,h⟩:=A3 h;obtain⟨h1,h3⟩:=B3 h1;obtain⟨h1,f⟩:=B3 h1;exact TM hu (by simp[s5,he]) (yY h3) (A0 h1) f A2 d h hx hi p w
    .cases h
   .cases h
def JR{t:TypeId}(hu:P.underlying t=some .string){s:List UInt8}{l h:Int}{r:Value}(b:EW s l h=u)(c:toV u=some r):bS P t (.string ⟨⟨s⟩⟩) (some (.int kl l)) (some (.int kh h)) none=some r:=by
 unfold EW at b;split at b
 .rename_i l h;split at b
  .rename_i hh;subst b;cases c;have d:Nat.ble h (ByteArray.size ⟨⟨s⟩⟩)=true:=C5 hh.2;have e:Nat.ble l h=true:=C5 hh.1;simp only[bS,hu,S8,d,e,D8]
  .subst b;cases c
 .subst b;cases c
def ER{t:TypeId}{x x' v:Value}{hi:P4}(h:jC P m t x lo hi mx=some (v,m'))(hx:VR ρ x x')(f:OR ρ lo lo')(g:OR ρ hi hi')(D:OR ρ mx mx')(F:Sat m'.lg)(w:World) :
  ∃ r,(Instr.sliceAt t x' lo' hi' mx').run P w=.ok r w/\VR ρ v r:=by
 have c:∀ {o:P4},OR ρ none o->o=none:=fun{o} h=>by cases o<;>first|rfl|exact h.elim
 have d:∀ {y:Value} {o:P4},OR ρ (some y) o->∃ H,o=some H/\VR ρ y H:=fun{y o} h=>by cases o<;>first|exact h.elim|exact⟨_,rfl,h⟩
 unfold jC at h;split at h
 .rename_i hu;cases c D;obtain⟨h1,h⟩:=A3 h;obtain⟨s,rfl,f1⟩:=d7 hx (A0 h1);have B:∀ {y:Value},VR ρ (.string ⟨⟨s⟩⟩) y->y=.string ⟨⟨s⟩⟩:=fun h=>T7 h
  split at h
  .cases h;cases c f;cases c g;have hm:bS P t (.string ⟨⟨s⟩⟩) none none none=some (.string ⟨⟨s⟩⟩):=by
    have e:ByteArray.size ⟨⟨s⟩⟩=s.length:=rfl;simp[bS,hu,S8,e]
   obtain⟨v',g1,g2⟩:=fF (P:=P) (ρ:=ρ) (lo':=none) (hi':=none) (mx':=none) hm (.pure rfl) trivial trivial trivial w;cases T7 g2;exact⟨_,g1,hx⟩
  .obtain⟨p,h⟩:=A3 h;obtain⟨l',rfl,C⟩:=d f;cases c g;obtain⟨k,z,rfl,f2,_⟩:=L7 C (A1 p);obtain⟨u,n,I,r,l,A,G⟩:=L5 h F;simp only[C4,F8,f1,f2,evU]at n;have hm:=JR (P:=P) (kl:=k) (kh:=.i64) hu n l;have q:bS P t (.string ⟨⟨s⟩⟩) (some (.int k z)) none none=some r:=by
    rw[<- hm];have e:ByteArray.size ⟨⟨s⟩⟩=s.length:=rfl;have b:Nat.ble s.length s.length=true:=C5 (A6 _);have E:((s.length:Nat):Int)=Int.ofNat s.length:=rfl;simp only[bS,hu,S8,e,E,b,D8]
   obtain⟨v',g1,g2⟩:=fF (P:=P) (ρ:=ρ) (lo':=some (.int k z)) (hi':=none) (mx':=none) q (.pure rfl) (VR.pure rfl:VR ρ _ _) trivial trivial w;have:VR ρ r v':=g2;have hp:=fB l;cases g2 with
   | pure _=>exact⟨_,g1,A ρ⟩
   | _=>simp[H9,ixp,Go.Sx.dat,Go.Sx.clp,Go.Sx.own,Go.Sx.dpt,Go.Sx.opt,Go.Sx.yv,Go.Sx.sdt]at hp
  .obtain⟨p,h⟩:=A3 h;obtain⟨J,rfl,hh⟩:=d g;cases c f;obtain⟨k,z,rfl,f2,_⟩:=L7 hh (A1 p);obtain⟨u,n,I,r,l,A,G⟩:=L5 h F;have f0:D3 Ora.env (.int .i64 0)=.int .i64 0:=rfl;simp only[C4,F8,f1,f2,f0,evU]at n;have hm:=JR (P:=P) (kl:=.i64) (kh:=k) hu n l;have q:bS P t (.string ⟨⟨s⟩⟩) none (some (.int k z)) none=some r:=by
    rw[<- hm];have E:(0:Int)=Int.ofNat 0:=rfl;cases z with
    | negSucc z=>simp only[bS,hu,S8]
    | ofNat z =>
      have K:Nat.ble 0 z=true:=C5 (kW _);simp only[bS,hu,S8,E];cases Nat.ble z (ByteArray.size ⟨⟨s⟩⟩)<;>simp[K]
   obtain⟨v',g1,g2⟩:=fF (P:=P) (ρ:=ρ) (lo':=none) (hi':=some (.int k z)) (mx':=none) q (.pure rfl) trivial (VR.pure rfl:VR ρ _ _) trivial w;have hp:=fB l;cases g2 with
   | pure _=>exact⟨_,g1,A ρ⟩
   | _=>simp[H9,ixp,Go.Sx.dat,Go.Sx.clp,Go.Sx.own,Go.Sx.dpt,Go.Sx.opt,Go.Sx.yv,Go.Sx.sdt]at hp
  .obtain⟨p,h⟩:=A3 h;obtain⟨p,h3⟩:=B3 p;obtain⟨J,rfl,hh⟩:=d g;obtain⟨l',rfl,C⟩:=d f;obtain⟨k,z,rfl,f2,_⟩:=L7 C (A1 p);obtain⟨j,y,rfl,f3,_⟩:=L7 hh (A1 h3);obtain⟨u,n,I,r,l,A,G⟩:=L5 h F;simp only[C4,F8,f1,f2,f3,evU]at n;have hm:=JR (P:=P) (kl:=k) (kh:=j) hu n l;obtain⟨v',g1,g2⟩:=fF (P:=P) (ρ:=ρ) (lo':=some (.int k z)) (hi':=some (.int j y)) (mx':=none) hm (.pure rfl) (VR.pure rfl:VR ρ _ _) (VR.pure rfl:VR ρ _ _) trivial w;have hp:=fB l;cases g2 with
   | pure _=>exact⟨_,g1,A ρ⟩
   | _=>simp[H9,ixp,Go.Sx.dat,Go.Sx.clp,Go.Sx.own,Go.Sx.dpt,Go.Sx.opt,Go.Sx.yv,Go.Sx.sdt]at hp
 .cases h
def yA{b:Builtin}{ks:Array Bool}{v:Value}(hr:HR P base ρ m.H w)(h:dC P m b vs tys=some (v,m'))(hx:LR ρ vs vs')(q:Sat m'.lg) :
  ∃ s:Sem Value,builtin b ⟨tys⟩ ty ks ⟨vs'⟩=(do pure (.value (<- s)))/\∃ r,s.run P w=.ok r w/\VR ρ v r:=by
 unfold dC at h;split at h
 .obtain⟨x',r1,rfl,h1,g⟩:=hx.tail;cases g.nil_inv;split at h
  .rename_i hu;obtain⟨h3,h⟩:=A3 h;obtain⟨s,rfl,f1⟩:=d7 h1 (A0 h3);obtain⟨u,e,y,r,l,n,x⟩:=L5 h q;simp only[C4,F8,f1,evU]at e;subst e;cases l;rename_i t rest _ _;have hm:WQ P m t (.string ⟨⟨s⟩⟩)=some (.int .i64 s.length):=by simp[WQ,hu]
   obtain⟨g1,_⟩:=OC (ρ:=ρ) (ty:=ty) (tys:=rest) hr hm (.pure rfl);exact⟨_,rfl,_,g1,n ρ⟩
  .cases h
 .obtain⟨x',r1,rfl,h1,g⟩:=hx.tail;obtain⟨B,A,rfl,h3,p⟩:=g.tail;cases p.nil_inv;obtain⟨d,h⟩:=A3 h;obtain⟨d,f⟩:=B3 d;have d:=A1 d;have f:=A0 f;obtain⟨k,a,rfl,f1,C⟩:=L7 h1 d;obtain⟨j,c,rfl,f2,D⟩:=L7 h3 (f▸d);obtain⟨u,e,y,r,l,n,x⟩:=L5 h q;simp only[C4,F8,f1,f2,evU]at e;subst e;cases l;obtain⟨g1,_⟩:=NW (P:=P) (ρ:=ρ) (ty:=ty) (tys:=⟨tys⟩) (vs:=[.int k a,.int j c]) rfl (.cons (.pure rfl) (.cons (.pure rfl) .nil)) w;exact⟨_,rfl,_,g1,n ρ⟩
 .obtain⟨x',r1,rfl,h1,g⟩:=hx.tail;obtain⟨B,A,rfl,h3,p⟩:=g.tail;cases p.nil_inv;obtain⟨d,h⟩:=A3 h;obtain⟨d,f⟩:=B3 d;have d:=A1 d;have f:=A0 f;obtain⟨k,a,rfl,f1,C⟩:=L7 h1 d;obtain⟨j,c,rfl,f2,D⟩:=L7 h3 (f▸d);obtain⟨u,e,y,r,l,n,x⟩:=L5 h q;simp only[C4,F8,f1,f2,evU]at e;subst e;cases l;obtain⟨g1,_⟩:=NU (P:=P) (ρ:=ρ) (ty:=ty) (tys:=⟨tys⟩) (vs:=[.int k a,.int j c]) rfl (.cons (.pure rfl) (.cons (.pure rfl) .nil)) w;exact⟨_,rfl,_,g1,n ρ⟩
 .cases h
def PU{v:Value}{k:IntKind}{n:Int}(h:D3 Ora.env v=.int k n):nI Ora.env v=some n:=by
 cases v with
 | complex k i t =>
   cases k with
   | f64 =>
     have h:Ora.env i=.int _ n:=h;simp only[nI,h]
   | f32=>cases h
 | int j n=>cases h;rfl
 | _=>cases h
def DS{v:Value}{n:Int}(h:nI Ora.env v=some n):∃ k,D3 Ora.env v=.int k n:=by
 cases v with
 | complex k i t =>
   cases k with
   | f64 =>
     simp only[nI]at h;split at h
     .rename_i k z he;cases h;exact⟨k,he⟩
     .cases h
   | f32=>cases h
 | int j n=>cases h;exact⟨j,rfl⟩
 | _=>cases h
def OM{s n:Nat}{i v:Value}(h:RM m a s n i=some (v,m'))(hi:VR ρ i i')(p:Sat m'.lg):v=ixp a s i n/\∃ k z,i'=.int k (.ofNat z)/\z<n/\nI Ora.env i=some (.ofNat z):=by
 unfold RM at h;cases d:!(Nat.blt (G0 i) 8)with
 | true=>rw[d]at h;cases h
 | false =>
   have f:G0 i<8:=by
    have:Nat.blt (G0 i) 8=true:=by simpa using d
    exact A1 this
   rw[d]at h;simp only[D4]at h;split at h
   .rename_i b H k W hh lg q;split at h
    .rename_i x l;cases h;obtain⟨u,g,A,r,c,y,_⟩:=L5 q (Q8.le p (dT l));have e:=kN (ρ:=ρ) l (y ρ) p;subst e;obtain⟨t,z,rfl,f1,_⟩:=L7 hi f;have f0:D3 Ora.env (.int .i64 (.ofNat n))=.int .i64 (.ofNat n):=rfl;simp only[C4,F8,f1,f0,evU]at g;subst g;have c:(decide (0<=z) && decide (z<Int.ofNat n))=true:=by
      have:=A7 c;exact Value.bool.inj this
     simp only[G4,decide_eq_true_eq]at c;cases z with
     | negSucc z=>exact absurd c.1 (by simp)
     | ofNat z=>exact⟨rfl,t,z,rfl,by have:=c.2;simpa using this,PU f1⟩
    .cases h
   .cases h
def xW{t:TypeId}{x x' i v:Value}(h:dA P m t x i=some (v,m'))(hx:VR ρ x x')(hi:VR ρ i i')(y:Sat m'.lg)(w:World):∃ r,(Instr.indexAt t x' i').run P w=.ok r w/\VR ρ v r:=by
 unfold dA at h;split at h
 .rename_i n e a hu;split at h
  .rename_i s hs d;obtain⟨rfl,k,z,rfl,f,he⟩:=OM h hi y;obtain⟨l,q,_,rfl⟩:=N5 hx;have g:Nat.blt z n=true:=C5 f;have hm:V8 P t (.pointer (some a)) (.int k (.ofNat z))=some (.pointer (some ⟨a.block,a.off+z*s,none⟩)):=by
    simp only[V8,hu,hs,d,g,D8,y5,E1]
   obtain⟨v',g1,g2⟩:=bJ (P:=P) hm hx (.pure rfl) w;obtain⟨l2,b,_,rfl⟩:=N5 g2;have b:ρ a.block=some l2:=b;rw[q]at b;cases b;exact⟨_,g1,.ixp q d he f rfl⟩
  .cases h
 .rename_i e a n c hu;split at h
  .rename_i s hs d;cases p:Nat.beq c (M1+2)with
   | true=>rw[p]at h;cases h
   | false =>
     rw[p]at h;obtain⟨rfl,k,z,rfl,f,he⟩:=OM h hi y;have g:Nat.blt z n=true:=C5 f;have hm:V8 P t (.slice (some a) n c) (.int k (.ofNat z))=some (.pointer (some ⟨a.block,a.off+z*s,none⟩)):=by
      simp only[V8,hu,hs,d,g,D8,y5,E1]
     obtain⟨v',g1,g2⟩:=bJ (P:=P) hm hx (.pure rfl) w;obtain⟨l2,b,_,rfl⟩:=N5 g2;have b:ρ a.block=some l2:=b;exact⟨_,g1,.ixp b d he f rfl⟩
  .cases h
 .cases h
def OO{s n:Nat}{i v':Value}(h:VR ρ (ixp a s i n) v'):∃ l z,ρ a.block=some l/\a.spot=none/\nI Ora.env i=some (.ofNat z)/\z<n/\v'=.pointer (some ⟨l.blk,a.off+z*s+l.sh,none⟩):=by
 generalize hx:ixp a s i n=x at h;cases h with
 | ixp h hs hi b hv =>
   simp only[ixp,Value.func.injEq,Y5,I5,Value.pointer.injEq,D0,Value.int.injEq,iQ,true_and,and_true]at hx;obtain⟨rfl,rfl,rfl,rfl⟩:=hx;exact⟨_,_,h,hs,hi,b,hv⟩
 | pure hp=>subst hx;simp[ixp,H9]at hp
 | _=>simp[ixp,Go.Sx.dat,Go.Sx.clp,Go.Sx.own,Go.Sx.dpt,Go.Sx.opt,Go.Sx.yv,Go.Sx.sdt]at hx
def xY{x x' v:Value}(h:dB P m s x i=some (v,m'))(hx:VR ρ x x')(w:World):∃ r,(Instr.fieldAt s x' i).run P w=.ok r w/\VR ρ v r:=by
 unfold dB at h;split at h
 .rename_i a k j n;split at h
  .rename_i q hu;split at h
   .rename_i f g c;split at h
    .rename_i z e;cases h;obtain⟨l,y,h1,p,h3,d,rfl⟩:=OO (n:=n) (s:=k) (i:=j) hx;have hm:bK P s (.pointer (some ⟨a.block,a.off+y*k,none⟩)) i=some (.pointer (some ⟨a.block,a.off+y*k+f.offset,none⟩)):=by
      simp only[bK,hu,g,e,y5,E1]
     obtain⟨v',g1,g2⟩:=kF (P:=P) (ρ:=ρ) hm (.ptr h1) w;obtain⟨l2,b,_,rfl⟩:=N5 g2;have b:ρ a.block=some l2:=b;rw[h1]at b;cases b;refine⟨_,g1,?_⟩;simp only[y5,E1];refine .ixp (a:=⟨a.block,a.off+f.offset,none⟩) h1 rfl h3 d ?_;simp only[Value.pointer.injEq,D0,Addr.mk.injEq,true_and,and_true];omega
    .cases h
   .cases h
  .cases h
 .cases h
def rX{cs:C9}{s:Nat}:∀ {n o:Nat} {l:C9},tS cs s o n=some l->l.length=n/\∀ z,z<n->cs[o+z*s]? = l[z]?
 | 0,o,l,h=>by cases h;exact⟨rfl,fun z b=>by omega⟩
 | n+1,o,l,h=>by
   unfold tS at h;split at h
   .rename_i v r hv hr;cases h;obtain⟨h1,c⟩:=rX hr;refine⟨by simp[h1],fun z b=>?_⟩;cases z with
    | zero=>simpa using hv
    | succ z =>
      have:=c z A2;rw[Nat.succ_mul,show o+(z*s+s)=o+s+z*s by omega]
      simpa using this
   .cases h
def rY{cs cs':C9}{s n:Nat}{i:Value}{z:Nat}(he:nI Ora.env i=some (.ofNat z))(t:z<n)(B:LR ρ cs cs'):∀ {k o:Nat} {m m':Mem} {r:C9},bC m cs s n i o k=some (r,m')->Sat m'.lg ->
  LR ρ r ((cs'.drop (o+z*s)).take k)/\r.length=k
 | 0,o,m,m',r,h,hS=>by cases h;exact⟨by simpa using LR.nil,rfl⟩
 | k+1,o,m,m',r,h,hS=>by
   unfold bC at h;split at h
   .rename_i v l e;obtain⟨p,h⟩:=A3 h;obtain⟨p,d⟩:=B3 p;have d:G0 v<10:=A1 d;split at h
    .rename_i hh m1 h1;split at h
     .rename_i G m2 x;cases h;obtain⟨g,q⟩:=rY he t B x hS;obtain⟨u,f,I,D,A,E,_⟩:=L5 h1 (Q8.le hS (eD x).1);obtain⟨g1,g2⟩:=rX e;have b:=g2 z t;have c:z<(v::l).length:=by rw[g1];exact t
      rw[A5 c]at b;obtain⟨F,f1,f2⟩:=B.get b;have y:=gF p (A5 c);obtain⟨t1,_⟩:=n9 f2 A2;obtain⟨H,C⟩:=DS he;simp only[C4,C,evU]at f;have f:u=D3 Ora.env (v::l)[z]:=by
       rw[<- f];show(List.map (D3 Ora.env) (v::l)).getD z .none=_;rw[B2,F9,A5 c];rfl
      rw[f,t1]at A;cases A;refine⟨?_,by simp[q]⟩;have:(cs'.drop (o+z*s)).take (k+1)=D::(cs'.drop (o+1+z*s)).take k:=by
       rw[Z0 (B0.1 f1).1,List.take_succ_cons,(B0.1 f1).2,show o+z*s+1=o+1+z*s by omega]
      rw[this];exact .cons (E ρ) g
     .cases h
    .cases h
   .cases h
def NY{t:TypeId}{l:Loc}{z s n k:Nat}{i:Value}{cs:C9}(h:HR P base ρ m.H w)(hr:l5 m a ((n-1)*s+k)=some cs)(e:ρ a.block=some l)(he:nI Ora.env i=some (.ofNat z))(f:z<n)(d:bC m cs s n i 0 k=some (hs,m'))(g:Sat m'.lg) :
  ∃ rs,LR ρ hs rs/\rs.length=k/\∀ (j:Nat) (v':Value),rs[j]? = some v'->w.cell? ⟨l.blk,a.off+z*s+l.sh+j,none⟩=some v':=by
 obtain⟨r',h1,p,h3⟩:=Y6 h hr e;obtain⟨g1,g2⟩:=rY he f h1 d g;rw[E8]at g1;refine⟨_,g1,g1.1▸g2,fun j v' c=>?_⟩;have b:j<k:=by
  have:=(B0.1 c).1;simp at this;omega
 rw[F4 b,H3]at c
 have:=h3 _ v' c;rw[show a.off+z*s+l.sh+j=a.off+l.sh+(z*s+j) by omega];exact this
def JM{t:TypeId}{x x' v:Value}(h:HR P base ρ m.H w)(b:nY P m t x=some (v,m'))(hx:VR ρ x x')(f:Sat m'.lg):∃ r,(Instr.loadAt t x').run P w=.ok r w/\VR ρ v r:=by
 unfold nY at b;split at b
 .rename_i a s i n;obtain⟨l,z,h1,p,h3,e,rfl⟩:=OO (n:=n) (s:=s) (i:=i) hx;split at b
  .rename_i c;split at b
   .rename_i cs hr;split at b
    .rename_i hh m2 d;cases b;obtain⟨rs,g1,g2,g3⟩:=NY (t:=t) h hr h1 h3 e d f;obtain⟨v',y,rfl,k,A⟩:=g1.tail;refine⟨v',?_,k⟩
     have:=g3 0 v' rfl;simp[Instr.loadAt,Instr.sureAddr,loadVar,A4,aT c,Result.andThen,run_load,show w.cell? ⟨l.blk,a.off+z*s+l.sh,none⟩=some v' from by simpa using this]
    .cases b
   .cases b
  .rename_i q c g;split at b
   .rename_i cs hr;split at b
    .rename_i hh m2 d;cases b;obtain⟨rs,g1,g2,g3⟩:=NY (t:=t) h hr h1 h3 e d f;refine⟨.agg ⟨rs⟩,?_,.agg g1.1 g1.2⟩;simp[Instr.loadAt,Instr.sureAddr,loadVar,A4,aT c,J8 g,Result.andThen,J3 g2 g3]
    .cases b
   .cases b
  .cases b
 .cases b
def A0d{fr:Fr}{g:Operand->Value}{o:Oper}{v:Value}(h:HR P base ρ m.H w)(f:SZ P fr m o.op=some (v,m'))(C:FR ρ fr g o.op)(l:Sat m'.lg):NOk P base ρ m w (execOp g o) v m':=by
 obtain⟨_,lg,rfl⟩:=MP f;have p:St P base ρ ρ m (m.wLg lg) w w:=St.wLg h lg;obtain⟨dst,op,ty,pos,G,I⟩:=o;simp only at f C;have d:∀ {x},x ∈ op.operands.toList->VR ρ (ev fr x) (g x):=fun hx=>C _ hx
 have fin:∀ {s:Sem Value},(∃ r,s.run P w=.ok r w/\VR ρ v r)->NOk P base ρ m w (do pure (.value (<- s))) v (m.wLg lg):=fun{s} ⟨r,h1,D⟩=>NOk.of ⟨r,ρ,w,h1,D,p⟩
 unfold SZ at f;split at f
 .rename_i c a b;have B:=d (x:=c) (by simp[Op.operands]);unfold tR at f;obtain⟨H,n,W,hi,l0⟩:=m;simp only at f;split at f
  .rename_i l1 A;simp only[D0,L2]at f;obtain⟨rfl,f⟩:=f;have q:Sat l1:=by
    have:l1=(Mem.wLg ⟨H,n,W,hi,l0⟩ lg).lg:=by rw[<- f]
    rw[this];exact l
   have:=kN A B q;exact⟨g a,ρ,w,.inl (by simp[execOp,this,asBool]),d (by simp[Op.operands]),p⟩
  .rename_i l1 A;simp only[D0,L2]at f;obtain⟨rfl,f⟩:=f;have q:Sat l1:=by
    have:l1=(Mem.wLg ⟨H,n,W,hi,l0⟩ lg).lg:=by rw[<- f]
    rw[this];exact l
   have:=kN A B q;exact⟨g b,ρ,w,.inl (by simp[execOp,this,asBool]),d (by simp[Op.operands]),p⟩
  .cases f
 .rename_i op t x y K;have hx:=d (x:=x) (by simp[Op.operands]);have k:=d (x:=y) (by simp[Op.operands]);refine fin (s:=do eqGuard op t x y (g x) (g y);binOp op t (g x) (g y)) ?_;split at f
  .rename_i r hr;cases f;exact QC hr hx k l w
  .rename_i hr;exact TA f hx k hr l w
 .rename_i op t x;exact fin (s:=Op.unary op (g x)) (SX f (d (by simp[Op.operands])) l w)
 .exact fin (JO f (d (by simp[Op.operands])) l w)
 .rename_i t x lo hi mx;exact fin (s:=Instr.sliceAt t (g x) (lo.map g) (hi.map g) (mx.map g)) (ER f (d (x:=x) (by simp[Op.operands])) (gT (g:=g) fun y k=>d (by simp[Op.operands]at k ⊢;exact .inr (.inl k))) (gT (g:=g) fun y k=>d (by simp[Op.operands]at k ⊢;exact .inr (.inr (.inl k)))) (gT (g:=g) fun y k=>d (by simp[Op.operands]at k ⊢;exact .inr (.inr (.inr k)))) l w)
 .exact fin (ET f (d (by simp[Op.operands])) (d (by simp[Op.operands])) l w)
 .exact fin (xW f (d (by simp[Op.operands])) (d (by simp[Op.operands])) l w)
 .exact fin (xY f (d (by simp[Op.operands])) w)
 .rename_i t x;exact fin (s:=Instr.loadAt t (g x)) (JM h f (d (by simp[Op.operands])) l)
 .rename_i b xs tys;have l1:=bW (ρ:=ρ) (fr:=fr) (g:=g) (xs:=xs.toList) fun x hx=>d (by show x ∈ (#[]++xs:Array Operand).toList;simpa using hx)
  obtain⟨ks,J⟩:∃ ks,execOp g ⟨dst,.call ⟨.builtin b,xs,tys⟩,ty,pos,G,I⟩=builtin b tys ty ks (xs.map g):=⟨_,rfl⟩;obtain⟨s,e,hs⟩:=yA (ty:=ty) (ks:=ks) h f l1 l;have F:xs.map g=⟨xs.toList.map g⟩:=by apply I2;simp
  rw[J,F];have E:tys=⟨tys.toList⟩:=rfl;rw[E,e];exact fin hs
 .cases f
end
end
section
open Go
variable [Ora]
section
variable {P:Program} {base:Nat} {ρ ρ':Ren} {m m':Mem} {w w':World}
def J2.step(e:J2 ρ m.n hi)(st:St P base ρ ρ' m m1 w w'):J2 ρ' m1.n hi:=fun b h1 c=>by
 cases d:ρ' b with
 | none=>rfl
 | some l =>
   cases h0:ρ b with
   | some l0=>rw[e b (B9 st.nle h1) c]at h0;cases h0
   | none=>have:=(st.new b l d h0).2;omega
def J2.less{n hi':Nat}(d:J2 ρ n hi)(h:hi'<=hi):J2 ρ n hi':=fun b h1 c=>d b h1 (D1 c h)
def dY(m:Mem)(t:Nat)(op:LOp)(xs:List Value):Lg:=⟨m.lg.nx+1,m.lg.pi,.dt m.lg.nx t op xs::m.lg.log⟩
def M9{t:Nat}{k:Nat->Mem->Res}:tH m t op xs k=k m.lg.nx (m.wLg (dY m t op xs)):=by
 obtain⟨H,n,W,hi,⟨nx,pi,log⟩⟩:=m;simp only[tH,E1,H4];rfl
def GT{t:Nat}{k:Nat->Mem->Option (C9×Mem)}:W1.letDo t op xs m k=k m.lg.nx (m.wLg (dY m t op xs)):=by
 obtain⟨H,n,W,hi,⟨nx,pi,log⟩⟩:=m;simp only[W1.letDo,E1,H4];rfl
@[simp] theorem Z1(lg:Lg):(m.wLg lg).lg=lg:=by cases m;rfl
@[simp] theorem iY(lg:Lg):(m.wLg lg).H=m.H:=by cases m;rfl
@[simp] theorem SK(lg:Lg):(m.wLg lg).n=m.n:=by cases m;rfl
@[simp] theorem JF(lg:Lg):(m.wLg lg).hi=m.hi:=by cases m;rfl
@[simp] theorem A89(lg:Lg):(m.wLg lg).W=m.W:=by cases m;rfl
def U6{t:Nat} :m.lg.le (m.wLg (dY m t op xs)).lg:=by
 rw[Z1];exact⟨[_],rfl⟩
def iK{t:Nat}{lg:Lg}(d:Sat lg)(e:(m.wLg (dY m t op xs)).lg.le lg):Ora.env m.lg.nx=evU op (xs.map (D3 Ora.env))/\F5 (Ora.env m.lg.nx)=t/\∃ b wd rows,Ora.env m.lg.nx=.seq b wd rows/\t=10+wd:=by
 obtain⟨h1,c,b,wd,rows,h3⟩:=d _ (e.subset (by rw[Z1];exact B1));exact⟨h1,c,b,wd,rows,h3,by rw[<- c,h3];rfl⟩
def cK{b:Nat}(h:mY m b=true):Hp.get m.H b=some .frz:=by
 unfold mY at h;split at h
 .assumption
 .cases h
def OU{b:Nat}(h:mY m b=true):b<=G9:=by
 unfold mY at h;split at h
 .exact A1 h
 .cases h
def YG{b:Nat}(hr:HR P base ρ m.H w)(h:mY m b=true):∃ l,ρ b=some l:=by
 obtain⟨l,h1,_⟩:=hr.at_ b (OU h) _ (cK h);exact⟨l,h1⟩
def P6{k:Nat->Mem->Option (Value×Nat×Mem)}{r:Value×Nat×Mem}(h:eU m k=some r):∃ m1,Y1 m .frz (fun _=>undef)=some (undef,m1)/\k m.n m1=some r/\m1.H=m.H.set m.n (some .frz)/\m.n<=G9/\m1.lg=m.lg:=by
 obtain⟨H,n,W,hi,lg⟩:=m;simp only[eU,E1,dF]at h;obtain⟨h1,b⟩:=A3 h;refine⟨_,?_,b,rfl,A1 h1,rfl⟩;simp only[Y1,E1,dF,h1,D8]
def iS(G:Nat->Option Obj):Loc:=⟨0,0,0,0,G,false⟩
def St.region{G:Nat->Option Obj}(h:HR P base ρ m.H w)(d:Y1 m .frz (fun _=>undef)=some (undef,m1))(y:J2 ρ m.n m1.hi)
  (g:∀ k o,G k=some o->w.heap[k]? = some o/\∃ id ab l,id<=G9/\Hp.get m.H id=some ab/\ρ id=some l/\Tf ab l k/\ab.rw=false) :
  upd ρ m.n (iS G) m.n=some (iS G)/\Hp.get m1.H m.n=some .frz/\St P base ρ (upd ρ m.n (iS G)) m m1 w w:=by
 obtain⟨h1,p,h3⟩:=St.new0 (l':=iS G) h d y ⟨rfl,fun k o x=>(g k o x).1⟩ rfl fun q b=>by
  rcases b with⟨b,_⟩|⟨_,o,b⟩
  .cases b
  .obtain⟨g1,id,ab,l,g2,g3,g4,g5,g6⟩:=g q o b;refine⟨⟨id,ab,l,g2,g3,g4,g5⟩,fun t f a l2 c r hr v e=>?_⟩
   have:=((h.atl r c).2 hr v).2 id g2 ab l g3 g4 (e▸g5.2);subst this;rw[g3]at c;have c:=A7 c;subst c;rw[g6]at hr;cases hr
 refine⟨p,?_,h3⟩;obtain⟨hle,_,rfl⟩:=K6 d;show Hp.get (m.H.set m.n (some .frz)) m.n=_;rw[E5 _ _ _ _ hle hle,A9 rfl]
theorem lR{b i t:Nat}{v':Value}(h:VR ρ (dat b i t) v'):∃ l,ρ b=some l/\Enc l.G (Ora.env i) v'/\F5 (Ora.env i)=t/\10<=t:=by
 generalize hx:dat b i t=x at h;cases h with
 | dat h he d c e =>
   simp only[dat,Value.func.injEq,Y5,I5,Value.pointer.injEq,D0,Addr.mk.injEq,Value.complex.injEq,true_and,and_true]at hx;obtain⟨rfl,rfl,rfl⟩:=hx;exact⟨_,h,he,d,c⟩
 | pure hp=>subst hx;simp[dat,H9]at hp
 | _=>simp[ixp,Go.Sx.dat,Go.Sx.clp,Go.Sx.own,Go.Sx.dpt,Go.Sx.opt,Go.Sx.yv,Go.Sx.sdt]at hx
theorem eH{b i t:Nat}{v':Value}(h:VR ρ (clp b i t) v'):∃ l,ρ b=some l/\Enc l.G (Ora.env i) v'/\F5 (Ora.env i)=t/\10<=t/\ZN v':=by
 generalize hx:clp b i t=x at h;cases h with
 | clp h he d c f e =>
   simp only[clp,Value.func.injEq,Y5,I5,Value.pointer.injEq,D0,Addr.mk.injEq,Value.complex.injEq,true_and,and_true]at hx;obtain⟨rfl,rfl,rfl⟩:=hx;exact⟨_,h,he,d,c,e⟩
 | pure hp=>subst hx;simp[clp,H9]at hp
 | _=>simp[ixp,Go.Sx.dat,Go.Sx.clp,Go.Sx.own,Go.Sx.dpt,Go.Sx.opt,Go.Sx.yv,Go.Sx.sdt]at hx
theorem eG{b i t:Nat}{v':Value}(h:VR ρ (own b i t) v'):VT ρ b (Ora.env i) v'/\F5 (Ora.env i)=t:=by
 generalize hx:own b i t=x at h;cases h with
 | own h c d =>
   simp only[own,Value.func.injEq,Y5,I5,Value.pointer.injEq,D0,Addr.mk.injEq,Value.complex.injEq,true_and,and_true]at hx;obtain⟨rfl,rfl,rfl⟩:=hx;exact⟨h,c⟩
 | pure hp=>subst hx;simp[own,H9]at hp
 | _=>simp[ixp,Go.Sx.dat,Go.Sx.clp,Go.Sx.own,Go.Sx.dpt,Go.Sx.opt,Go.Sx.yv,Go.Sx.sdt]at hx
def CT{b t:Nat}{v':Value}(h:VR ρ (dpt b i t z o) v'):A6m ρ b (Ora.env i) (nI Ora.env z) o v'/\F5 (Ora.env i)=t:=by
 generalize hx:dpt b i t z o=x at h;cases h with
 | dpt h c d =>
   simp only[dpt,Value.func.injEq,Y5,I5,Value.pointer.injEq,D0,Addr.mk.injEq,Value.complex.injEq,Value.int.injEq,iQ,true_and,and_true]at hx;obtain⟨rfl,⟨rfl,rfl⟩,rfl,rfl⟩:=hx;exact⟨h,c⟩
 | pure hp=>subst hx;simp[dpt,H9]at hp
 | _=>simp[ixp,Go.Sx.dat,Go.Sx.clp,Go.Sx.own,Go.Sx.dpt,Go.Sx.opt,Go.Sx.yv,Go.Sx.sdt]at hx
def tZ{b t:Nat}{v':Value}(h:VR ρ (opt b i t z o) v'):A54 ρ b (Ora.env i) (nI Ora.env z) o v'/\F5 (Ora.env i)=t:=by
 generalize hx:opt b i t z o=x at h;cases h with
 | opt h c d =>
   simp only[opt,Value.func.injEq,Y5,I5,Value.pointer.injEq,D0,Addr.mk.injEq,Value.complex.injEq,Value.int.injEq,iQ,true_and,and_true]at hx;obtain⟨rfl,⟨rfl,rfl⟩,rfl,rfl⟩:=hx;exact⟨h,c⟩
 | pure hp=>subst hx;simp[opt,H9]at hp
 | _=>simp[ixp,Go.Sx.dat,Go.Sx.clp,Go.Sx.own,Go.Sx.dpt,Go.Sx.opt,Go.Sx.yv,Go.Sx.sdt]at hx
def AE{b c tc g t:Nat}{T:TypeId}{v':Value}(h:HR P base ρ m.H w)(I:Hp.get m.H b=some (.sq c tc T g true))(hv:VR ρ (own b i t) v')(A:tc=t)(y:Hp.get m.H g=some .frz)
  (N:Y1 m .frz (fun _=>undef)=some (undef,m1)) (O:J2 ρ m.n m1.hi):∃ l,St P base ρ (upd ρ m.n l) m m1 w w/\upd ρ m.n l m.n=some l/\Hp.get m1.H m.n=some .frz/\Enc l.G (Ora.env c) v'/\F5 (Ora.env c)=t:=by
 obtain⟨x,M⟩:=eG hv;rcases x with⟨l,wd,h1,E,h3,rfl⟩|⟨l,wd,rows,h1,E,h3,Y,V,rfl⟩
 .obtain⟨q,_⟩:=h.atl h1 I;obtain⟨D,inf,J,W,Q,d⟩:=SqR.ex q;rcases d with⟨_,d⟩|⟨d,_⟩
  .obtain⟨g1,g2,g3⟩:=St.region (G:=fun _=>none) h N O (fun k o f=>by cases f);exact⟨_,g3,g1,g2,by rw[d];exact .nil,by rw[d,<- A,J];rfl⟩
  .rw[E]at d;cases d
 .obtain⟨q,_⟩:=h.atl h1 I;obtain⟨D,inf,J,W,Q,d⟩:=SqR.ex q;rcases d with⟨d,_⟩|⟨_,d⟩
  .rw[E]at d;cases d
  .obtain⟨C,fz,L,K,lg,f1,f2,f3,f4,f5,f6,f7,f8,f9⟩:=d;obtain⟨F,_⟩:=h.atl f7 y;have p:∀ k o,lg.G k=some o->w.heap[k]? = some o:=F.2;let G:Nat->Option Obj:=fun k=>if k=l.blk then some (.cells C L fz)else lg.G k
   have B:∀ k o,lg.G k=some o->G k=some o:=fun k o f=>by
    show(if k=l.blk then _ else _)=_;by_cases e:k=l.blk
    .subst e;rw[A9 rfl]
     have:=p _ _ f;rw[f1]at this;exact this
    .rw[A8 e];exact f
   obtain⟨g1,g2,g3⟩:=St.region (G:=G) h N O fun k o f=>by
    have f:(if k=l.blk then some (.cells C L fz)else lg.G k)=some o:=f;by_cases e:k=l.blk
    .subst e;rw[A9 rfl]at f;exact⟨by rw[f1];exact f,b,_,l,h.dom _ _ h1,I,h1,⟨rfl,.inl ⟨rfl,E,rfl⟩⟩,rfl⟩
    .rw[A8 e]at f;exact⟨p _ _ f,g,_,lg,h.dom _ _ f7,y,f7,⟨rfl,.inr ⟨rfl,o,f⟩⟩,rfl⟩
   refine⟨_,g3,g1,g2,?_,by rw[f2,<- A,J];rfl⟩;rw[f2,<- f3];refine .sl (G:=G) (C:=C) (T:=L) (fz:=fz) A2 (fun _=>?_) (fun _=>?_) f6 fun r row j u v R S X=>(f8 r row j u v R S X).mono B
   .show(if l.blk=l.blk then _ else _)=_;rw[A9 rfl]
   .have:=F1 D f4;rw[<- f3]at this;omega
def BR.thaw{c t g:Nat}{T:TypeId}{l:Loc}(h:BR P ρ (.sq c t T g false) l w):BR P ρ (.sq c t T g true) l w:=by
 obtain⟨wd,inf,h1,b,h3,e⟩:=SqR.ex h;refine⟨⟨wd,inf,h1,b,h3,e.imp (fun x=>x) fun⟨f,d⟩=>⟨f,?_⟩⟩⟩;obtain⟨C,fz,q,rows,lg,h1,b,h3,e,d,p,k,n,r⟩:=d;exact⟨C,fz,q,rows,lg,h1,b,h3,e,d,p,k,n,fun h=>by cases h⟩
def uX{id:Nat}{ab:AB}(h:bB m id ab=some m')(b:j<=G9):Hp.get m'.H j=if j=id then some ab else Hp.get m.H j:=by
 obtain⟨hle,rfl⟩:=T6 h;exact E5 _ _ _ _ hle b
def jP{ab:AB}{k:Nat->Value}{v:Value}(h:Y1 m ab k=some (v,m'))(b:j<=G9):Hp.get m'.H j=if j=m.n then some ab else Hp.get m.H j:=by
 obtain⟨hle,_,rfl⟩:=K6 h;exact E5 _ _ _ _ hle b
def BL{t:Nat}{v v' x:Value}{b:Nat}(h:HR P base ρ m.H w)(d:toD t v m=some (x,b,m'))(O:J2 ρ m.n m'.hi)(hv:VR ρ v v')(hS:Sat m'.lg) :
  ∃ ρ' l,St P base ρ ρ' m m' w w/\ρ' b=some l/\Hp.get m'.H b=some .frz/\Enc l.G (D3 Ora.env x) v'/\F5 (D3 Ora.env x)=t/\m.lg.le m'.lg:=by
 unfold toD at d;split at d
 .rename_i I i tg;obtain⟨h1,f⟩:=A3 d;cases f;obtain⟨h1,f⟩:=B3 h1;have h1:=A0 h1;obtain⟨l,r,y,B,M⟩:=lR hv;exact⟨ρ,l,St.refl h,r,cK f,y,B.trans h1,.refl _⟩
 .rename_i I i tg;obtain⟨h1,f⟩:=A3 d;cases f;obtain⟨h1,f⟩:=B3 h1;have h1:=A0 h1;obtain⟨l,r,y,B,M,_⟩:=eH hv;exact⟨ρ,l,St.refl h,r,cK f,y,B.trans h1,.refl _⟩
 .rename_i I i tg;split at d
  .rename_i c tc T g D;obtain⟨h1,f⟩:=A3 d;obtain⟨h1,h3⟩:=B3 h1;obtain⟨h1,C⟩:=B3 h1;have h1:=A0 h1;have C:=A0 C;obtain⟨m1,L,N,_,_,J⟩:=P6 f;cases N;subst h1;obtain⟨l,r,y,B,M,R⟩:=AE h D hv C (cK h3) L O;exact⟨_,l,r,y,B,M,R,by rw[J];exact .refl _⟩
  .rename_i c tc T g D;obtain⟨h1,f⟩:=A3 d;obtain⟨h1,h3⟩:=B3 h1;have X:=OU h3;obtain⟨h1,C⟩:=B3 h1;have h1:=A0 h1;have C:=A0 C;split at f
   .rename_i m1 hs;obtain⟨m2,L,N,_,_,J⟩:=P6 f;cases N;subst h1;have S:∃ l0,ρ I=some l0:=by
     rcases(eG hv).1 with⟨l,_,h1,_⟩|⟨l,_,_,h1,_⟩<;>exact⟨l,h1⟩
    obtain⟨l0,E⟩:=S;have V:=(h.atl E D).1;have p:=St.same0 h hs D rfl E V.thaw (fun q Z=>by
     rcases Z with⟨_,a,b⟩|⟨a,_⟩
     .exact .inl ⟨rfl,a,b⟩
     .cases a)
    have hle:=(T6 hs).1;have Q:g≠I:=fun e=>by subst e;rw[cK h3]at D;cases D
    have Y:Hp.get m1.H I=some (.sq c tc T g true):=by rw[uX hs hle,A9 rfl]
    have K:Hp.get m1.H g=some .frz:=by rw[uX hs X,A8 Q];exact cK h3
    have W:m1.n=m.n:=by rw[(T6 hs).2]
    obtain⟨l,r,y,B,M,R⟩:=AE p.hr Y hv C K L (by rw[W];exact O);refine⟨_,l,St.trans O p r,y,B,M,R,by rw[J,(T6 hs).2];exact .refl _⟩
   .cases f
  .cases d
 .obtain⟨F,d⟩:=A3 d;have F:=A1 F;rw[M9]at d;simp only at d;obtain⟨m1,L,N,_,_,J⟩:=P6 d;cases N;cases O5 hv;have A:(m.wLg (dY m t (.nilw (t-10)) [])).lg.le m'.lg:=by rw[J];exact .refl _
  obtain⟨r,y,_⟩:=iK hS A;have p:=St.wLg h (dY m t (.nilw (t-10)) []);obtain⟨g1,g2,g3⟩:=St.region (G:=fun _=>none) p.hr L (by simpa using O) (fun k o hk=>by cases hk);refine⟨_,_,St.trans (by simpa using O) p g3,g1,g2,?_,y,U6.trans A⟩;show Enc _ (Ora.env m.lg.nx) _;rw[r];exact .nil
 .cases d
end
end
section
open Go
variable [Ora]
section
variable {P:Program} {base:Nat} {ρ ρ':Ren} {m m':Mem} {w w':World}
def c9(ρ:Ren)(m m':Mem):Prop:=∀ j l,ρ j=some l->Hp.get m.H j=some .frz->Hp.get m'.H j=some .frz
def c9.refl:c9 ρ m m:=fun _ _ _ h=>h
def c9.trans(he:∀ b l,ρ b=some l->ρ' b=some l)(a:c9 ρ m m1)(c:c9 ρ' m1 m'):c9 ρ m m':=fun j l h1 d=>c j l (he j l h1) (a j l h1 d)
def c9.lg(lg:Lg):c9 ρ m (m.wLg lg):=fun j l _ h=>by rw[iY];exact h
def GY{ab:AB}{k:Nat->Value}{v:Value}(h:HR P base ρ m.H w)(b:Y1 m ab k=some (v,m'))(d:J2 ρ m.n m'.hi):c9 ρ m m':=fun j l h1 c=>by
 rw[jP b (h.dom j l h1),A8]
 .exact c
 .intro e;subst e;obtain⟨_,_,rfl⟩:=K6 b;rw[d m.n (A6 _) (J9 _ _).2]at h1;cases h1
def WV{ab:AB}{id:Nat}(h:HR P base ρ m.H w)(hs:bB m id ab=some m')(b:Hp.get m.H id≠some .frz):c9 ρ m m':=fun j l h1 c=>by
 rw[uX hs (h.dom j l h1),A8]
 .exact c
 .intro e;subst e;exact b c
def EN{t:Nat}{v x:Value}{b:Nat}(h:HR P base ρ m.H w)(d:toD t v m=some (x,b,m'))(y:J2 ρ m.n m'.hi):c9 ρ m m':=by
 unfold toD at d;split at d
 .obtain⟨h1,f⟩:=A3 d;cases f;exact .refl
 .obtain⟨h1,f⟩:=A3 d;cases f;exact .refl
 .split at d
  .obtain⟨h1,f⟩:=A3 d;obtain⟨m1,p,q,_⟩:=P6 f;cases q;exact GY h p y
  .rename_i c tc T g D;obtain⟨h1,f⟩:=A3 d;split at f
   .rename_i m1 hs;obtain⟨m2,p,q,_⟩:=P6 f;cases q;have E:=WV h hs (by rw[D];intro h;cases h);intro j l k A;have B:=E j l k A;rw[jP p (h.dom j l k),A8]
    .exact B
    .intro e;subst e;have r:m1.n=m.n:=by rw[(T6 hs).2]
     obtain⟨_,_,rfl⟩:=K6 p;rw[y m1.n A2 (J9 _ _).2]at k;cases k
   .cases f
  .cases d
 .obtain⟨C,d⟩:=A3 d;rw[M9]at d;simp only at d;obtain⟨m1,p,q,_⟩:=P6 d;cases q;intro j l k A;rw[jP p (h.dom j l k),A8,iY]
  .exact A
  .intro e;subst e;have r:(m.wLg (dY m t (.nilw (t-10)) [])).n=m.n:=by simp
   obtain⟨_,_,rfl⟩:=K6 p;rw[y _ A2 (J9 _ _).2]at k;cases k
 .cases d
def X7(R:Nat->Option Obj)(us:List U)(vs:List Value):Prop:=us.length=vs.length/\∀ (i:Nat) (u:U) (v:Value),us[i]? = some u->vs[i]? = some v->Enc R u v
omit [Ora] in
def X7.nil{R:Nat->Option Obj}:X7 R [] []:=⟨rfl,fun i u v h=>by simp at h⟩
omit [Ora] in
def X7.cons{R:Nat->Option Obj}{v:Value}(h:Enc R u v)(k:X7 R us vs):X7 R (u::us) (v::vs):=⟨by simp[k.1],fun i a b h1 c=>by
 cases i with
 | zero=>simp at h1 c;subst h1;subst c;exact h
 | succ i=>exact k.2 i a b (by simpa using h1) (by simpa using c)⟩
def Sub(G R:Nat->Option Obj):Prop:=∀ k o,G k=some o->R k=some o
def fC{t:Nat}{v x:Value}{b:Nat}{m m':Mem}(c:toD t v m=some (x,b,m')):m.hi<=m'.hi/\m.lg.le m'.lg/\m.n<=m'.n:=by
 have e:∀ {m m1:Mem},Y1 m .frz (fun _=>undef)=some (undef,m1)->m.hi<=m1.hi/\m.lg.le m1.lg/\m.n<=m1.n:=fun l=>by
  obtain⟨_,_,rfl⟩:=K6 l;exact⟨(J9 _ _).1,.refl _,Y3 _⟩
 unfold toD at c;split at c
 .obtain⟨h1,d⟩:=A3 c;cases d;exact⟨A6 _,.refl _,A6 _⟩
 .obtain⟨h1,d⟩:=A3 c;cases d;exact⟨A6 _,.refl _,A6 _⟩
 .split at c
  .obtain⟨h1,d⟩:=A3 c;obtain⟨m1,f,g,_⟩:=P6 d;cases g;exact e f
  .obtain⟨h1,d⟩:=A3 c;split at d
   .rename_i m1 hs;obtain⟨m2,f,g,_⟩:=P6 d;cases g
    have:=e f;obtain⟨_,rfl⟩:=T6 hs;exact this
   .cases d
  .cases c
 .obtain⟨k,c⟩:=A3 c;rw[M9]at c;simp only at c;obtain⟨m1,f,g,_⟩:=P6 c;cases g
  have:=e f;exact⟨by simpa using this.1,U6.trans this.2.1,by simpa using this.2.2⟩
 .cases c
structure xO (P:Program) (td:Td):Prop where
 ok:∀ {base:Nat} {ρ:Ren} {m m':Mem} {w:World} {t:Nat} {v v' x:Value} {b:Nat},HR P base ρ m.H w->td t v m=some (x,b,m')->J2 ρ m.n m'.hi->VR ρ v v'->Sat m'.lg ->
  ∃ ρ' l,St P base ρ ρ' m m' w w/\ρ' b=some l/\Hp.get m'.H b=some .frz/\Enc l.G (D3 Ora.env x) v'/\F5 (D3 Ora.env x)=t/\m.lg.le m'.lg/\c9 ρ m m'
 mono:∀ {m m':Mem} {t:Nat} {v x:Value} {b:Nat},td t v m=some (x,b,m')->m.hi<=m'.hi/\m.lg.le m'.lg/\m.n<=m'.n
def ST:xO P toD:=⟨fun h b c hv e=>let ⟨ρ',l,d,a2,a3,a4,a5,f⟩:=BL h b c hv e;⟨ρ',l,d,a2,a3,a4,a5,f,EN h b c⟩,fun h=>fC h⟩
def R1{f:Td}(d:xO P f):∀ {ts:G5} {vs xs:C9} {gs:G5} {m m':Mem},xT f ts vs m=some (xs,gs,m')->m.hi<=m'.hi/\m.lg.le m'.lg/\m.n<=m'.n
 | [],[],_,_,_,_,h=>by cases h;exact⟨A6 _,.refl _,A6 _⟩
 | t::ts,v::vs,xs,gs,m,m',c=>by
   unfold xT at c;cases e:Nat.blt t 10 with
   | true =>
     rw[e]at c;simp only[D8]at c;obtain⟨h1,c⟩:=A3 c;split at c
     .rename_i hr;cases c;exact R1 d hr
     .cases c
   | false =>
     rw[e]at c;simp only[D4]at c;split at c
     .rename_i g;split at c
      .rename_i hr;cases c;have a:=d.mono g;have b:=R1 d hr;exact⟨B9 a.1 b.1,a.2.1.trans b.2.1,B9 a.2.2 b.2.2⟩
      .cases c
     .cases c
 | [],_::_,_,_,_,_,c=>by cases c
 | _::_,[],_,_,_,_,c=>by cases c
def fZ{K:Td}(f:xO P K):∀ {ts:G5} {vs vs' xs:C9} {gs:G5} {m m':Mem} {ρ:Ren},HR P base ρ m.H w->xT K ts vs m=some (xs,gs,m')->J2 ρ m.n m'.hi->LR ρ vs vs'->Sat m'.lg ->
  ∃ ρ',St P base ρ ρ' m m' w w/\m.lg.le m'.lg/\c9 ρ m m'/\(∀ b ∈ gs,Hp.get m'.H b=some .frz/\∃ l,ρ' b=some l)/\(xs.map (D3 Ora.env)).map F5=ts /\
   ∀ R,(∀ b ∈ gs,∀ l,ρ' b=some l->Sub l.G R)->X7 R (xs.map (D3 Ora.env)) vs'
 | [],[],vs',xs,gs,m,m',ρ,h,c,hf,hv,hS=>by
   cases c;exact⟨ρ,St.refl h,.refl _,.refl,fun b O=>(by cases O),rfl,fun R _=>by rw[hv.nil_inv];exact .nil⟩
 | t::ts,v::vs,vs',xs,gs,m,m',ρ,h,c,hf,hv,hS=>by
   obtain⟨v',r',rfl,p,q⟩:=hv.tail;unfold xT at c;cases y:Nat.blt t 10 with
   | true =>
     rw[y]at c;simp only[D8]at c;obtain⟨h1,c⟩:=A3 c;have h1:=A0 h1;have L:t<10:=A1 y;split at c
     .rename_i r B m2 hr;cases c;obtain⟨ρ2,g,A,x,I,C,F⟩:=fZ f h hr hf q hS;obtain⟨f1,f2⟩:=n9 p A2;exact⟨ρ2,g,A,x,I,by simp[f2,h1,C],fun R hR=>.cons (.sc f1) (F R hR)⟩
     .cases c
   | false =>
     rw[y]at c;simp only[D4]at c;split at c
     .rename_i hh b m1 Q;split at c
      .rename_i r B m2 hr;cases c;have e:m1.hi<=m'.hi/\m1.lg.le m'.lg/\m1.n<=m'.n:=R1 f hr;have J:J2 ρ m.n m1.hi:=hf.less e.1;obtain⟨E,l,k,a2,a3,a4,a5,M,N⟩:=f.ok h Q J p (hS.le e.2.1);have D:J2 E m1.n m'.hi:=hf.step k;obtain⟨ρ2,g,A,x,I,C,F⟩:=fZ f k.hr hr D (q.mono k.ext) hS;refine⟨ρ2,St.trans hf k g,M.trans A,N.trans k.ext x,fun b' d=>?_,by simp[a5,C],fun R hR=>.cons (a4.mono (hR b (.head _) l (g.ext _ _ a2))) (F R fun b' d=>hR b' (.tail _ d))⟩;rcases B4.1 d with rfl|d
       .exact⟨x _ l a2 a3,l,g.ext _ _ a2⟩
       .exact I b' d
      .cases c
     .cases c
 | [],_::_,_,_,_,_,_,_,_,c,_,_,_=>by cases c
 | _::_,[],_,_,_,_,_,_,_,c,_,_,_=>by cases c
def dM{gs:G5}{g:Nat}(h:HR P base ρ m.H w)(c:iI gs m=some (g,m'))(x:J2 ρ m.n m'.hi) :
  ∃ ρ' lg,St P base ρ ρ' m m' w w/\m'.lg=m.lg/\c9 ρ m m'/\ρ' g=some lg/\Hp.get m'.H g=some .frz/\∀ b ∈ gs,∀ l,ρ b=some l->Sub l.G lg.G:=by
 have main:∀ {gs:G5},(bif gs.all (mY m)then match eU m fun b m=>some (undef,b,m)with
  | some (_,b,m)=>some (b,m)
  | none=>none else none)=some (g,m')->∃ ρ' lg,St P base ρ ρ' m m' w w/\m'.lg=m.lg/\c9 ρ m m'/\ρ' g=some lg/\Hp.get m'.H g=some .frz/\∀ b ∈ gs,∀ l,ρ b=some l->Sub l.G lg.G:=fun{gs} c=>by
  obtain⟨h1,c⟩:=A3 c;split at c
  .rename_i r b m1 y;cases c;obtain⟨m2,v,C,_,_,A⟩:=P6 y;cases C;have e:∀ b ∈ gs,Hp.get m.H b=some .frz:=fun b d=>cK (D2.1 h1 b d)
   classical
   let G:Nat->Option Obj:=fun k=>if ∃ b ∈ gs,∃ l o,ρ b=some l/\l.G k=some o then w.heap[k]? else none
   obtain⟨g1,g2,g3⟩:=St.region (G:=G) h v x fun k o f=>by
    have f:(if ∃ b ∈ gs,∃ l o,ρ b=some l/\l.G k=some o then w.heap[k]? else none)=some o:=f;split at f
    .rename_i hex;obtain⟨b,d,l,B,t,D⟩:=hex;exact⟨f,b,_,l,h.dom _ _ t,e b d,t,⟨rfl,.inr ⟨rfl,B,D⟩⟩,rfl⟩
    .cases f
   refine⟨_,iS G,g3,A,GY h v x,g1,g2,fun b d l p k o f=>?_⟩;show(if ∃ b ∈ gs,∃ l o,ρ b=some l/\l.G k=some o then w.heap[k]? else none)=_;rw[A9 ⟨b,d,l,o,p,f⟩];exact(h.atl p (e b d)).1.2 k o f
  .cases c
 unfold iI at c;split at c
 .rename_i g0;obtain⟨h1,c⟩:=A3 c;cases c;obtain⟨l,p⟩:=YG h h1;refine⟨ρ,l,St.refl h,rfl,.refl,p,cK h1,fun b d l2 q=>?_⟩;rcases B4.1 d with rfl|d
  .rw[p]at q
   have:=A7 q;subst this;exact fun _ _ h=>h
  .cases d
 .exact main c
omit [Ora] in
def eL{R:Nat->Option Obj}{v r:Value}(h:Enc R u v)(hr:toV u=some r):v=r:=by
 cases h with
 | sc h=>rw[h]at hr;exact A7 hr
 | nil=>cases hr
 | emp=>cases hr
 | sl=>cases hr
omit [Ora] in
def kJ{R:Nat->Option Obj}{v:Value}(h:Enc R u v):l8 v=true:=by
 cases h with
 | sc h=>have:=fB h;cases v<;>first|rfl|cases this
 | nil=>rfl
 | emp=>rfl
 | sl=>rfl
def A1n{wd k:Nat}{rows:List (List U)} :evU (.get wd o) [.seq false wd rows,.int kk (.ofNat k)]=(rows.getD k []).getD o .none:=by
 simp[evU]
def getD_some(h:row.getD o .none≠.none):row[o]? = some (row.getD o .none):=by
 rw[B2]at *;cases e:row[o]? with
 | none=>rw[e]at h;exact absurd rfl h
 | some u=>rfl
def eI{wd o i t g k:Nat}{z:Value}{lg:Loc}{rows:List (List U)}{cell:Nat->P4}(hi:Ora.env i=.seq false wd rows)(B:nI Ora.env z=some (.ofNat k))(y:ρ g=some lg)
  (p:∀ q u,(rows.getD k [])[q]? = some u->∃ v,cell q=some v/\Enc lg.G u v) :
  ∀ {ts:G5} {j:Nat} {m m':Mem} {r:C9},W1 wd o i t z g ts j m=some (r,m')->Sat m'.lg->∃ r',LR ρ r r'/\r'.length=ts.length/\(∀ q v',r'[q]? = some v'->cell (o+j+q)=some v')/\I9 m m'/\m.lg.le m'.lg
 | [],j,m,m',r,h,hS=>by
   cases h;exact⟨[],.nil,rfl,fun q v' h=>by simp at h,.refl _,.refl _⟩
 | tg::ts,j,m,m',r,h,hS=>by
   unfold W1 at h;obtain⟨kk,E⟩:=DS B;have f:[hole i t,z].map (D3 Ora.env)=[.seq false wd rows,.int kk (.ofNat k)]:=by
    simp only[C4,F8,E];show[Ora.env i,_]=_;rw[hi]
   have b:∀ {u:U},u≠.none->evU (.get wd (o+j)) ([hole i t,z].map (D3 Ora.env))=u->∃ v,cell (o+j)=some v/\Enc lg.G u v:=fun{u} hu he=>by
    rw[f,A1n]at he;subst he;exact p _ _ (getD_some hu)
   cases l:Nat.blt tg 10 with
   | true =>
     rw[l]at h;simp only[D8]at h;have H:tg<10:=A1 l;split at h
     .rename_i hh m1 x;split at h
      .rename_i I m2 hr;cases h;obtain⟨r',A,F,n,C,d⟩:=eI hi B y p hr hS;obtain⟨u,f1,f2,v,f3,f4,f5⟩:=L5 x (hS.le d);obtain⟨v2,g1,g2⟩:=b (u:=u) (by intro e;subst e;cases f3) f1
       have:=eL g2 f3;subst this;refine⟨v2::r',.cons (f4 ρ) A,by simp[F],fun q v' c=>?_,(G7 x).trans C,(H1 x).trans d⟩;cases q with
       | zero=>simp at c;subst c;exact g1
       | succ q=>rw[show o+j+(q+1)=o+(j+1)+q by omega];exact n q v' (by simpa using c)
      .cases h
     .cases h
   | false =>
     rw[l]at h;simp only[D4]at h;rw[GT]at h;split at h
     .rename_i I m2 hr;cases h;obtain⟨r',A,F,n,C,d⟩:=eI hi B y p hr hS;obtain⟨f1,f2,J,K,D,f3,f4⟩:=iK hS d;obtain⟨v2,g1,g2⟩:=b (u:=Ora.env m.lg.nx) (by rw[f3];intro h;cases h) f1.symm;refine⟨v2::r',.cons (.dat y g2 f2 A2 (kJ g2)) A,by simp[F],fun q v' c=>?_,I9.trans ⟨_,rfl⟩ C,U6.trans d⟩;cases q with
      | zero=>simp at c;subst c;exact g1
      | succ q=>rw[show o+j+(q+1)=o+(j+1)+q by omega];exact n q v' (by simpa using c)
     .cases h
def gB{t:TypeId}(h:jB P t=some ts):G3 P t=some ts.length:=by
 unfold jB at h;split at h
 .rename_i l n h1 b;obtain⟨h3,h⟩:=A3 h;cases h;rw[b,A0 h3]
 .cases h
def BF{t:TypeId}{r:C9}{v:Value}{b:Nat}(g:jB P t=some ts)(d:kO P t (some (r,m))=some (v,m'))(e:LR ρ r r')(l:r'.length=ts.length)
  (k:∀ q v',r'[q]? = some v'->w.cell? ⟨b,o+q,none⟩=some v'):m'=m/\∃ v',(Instr.loadAt t (.pointer (some ⟨b,o,none⟩))).run P w=.ok v' w/\VR ρ v v':=by
 unfold kO at d;split at d
 .rename_i c heq;cases d;cases heq;obtain⟨v',p,rfl,n,x⟩:=e.tail;refine⟨rfl,v',?_,n⟩
  have:=k 0 v' rfl;simp[Instr.loadAt,Instr.sureAddr,loadVar,A4,aT c,Result.andThen,run_load,show w.cell? ⟨b,o,none⟩=some v' from by simpa using this]
 .rename_i c heq;cases d;cases heq;refine⟨rfl,.agg ⟨r'⟩,?_,.agg e.1 e.2⟩;have f:G3 P t=some r'.length:=by rw[l];exact gB g
  simp[Instr.loadAt,Instr.sureAddr,loadVar,A4,aT c,J8 f,Result.andThen,J3 rfl k]
 .cases d
def WM{t:TypeId}{x x' v:Value}(h:HR P base ρ m.H w)(f:GS P m t x=some (v,m'))(hx:VR ρ x x')(Y:Sat m'.lg):(∃ r,(Instr.loadAt t x').run P w=.ok r w/\VR ρ v r)/\I9 m m'/\m.lg.le m'.lg:=by
 have J:∀ {r:Option (C9×Mem)},kO P t r=some (v,m')->∃ vs,r=some (vs,m'):=fun{r} F=>by
  unfold kO at F;split at F
  .cases F;exact⟨_,rfl⟩
  .cases F;exact⟨_,rfl⟩
  .cases F
 unfold GS at f;split at f
 .rename_i b i tg z o ts y;obtain⟨h1,f⟩:=A3 f;obtain⟨⟨l,wd,rows,a,s,c,k,M,I,N,Q,L,e6,rfl⟩,Z⟩:=CT hx;obtain⟨vs,hr⟩:=J f;rw[hr]at f;have A:tg-10=wd:=by rw[<- Z,I];simp[F5]
  rw[A]at hr;have O:=(h.atl M (cK h1)).1.2;rw[I]at N;obtain⟨C,T,fz,f1,f2,f3,f4⟩:∃ C T fz,l.G a=some (.cells C T fz)/\s+rows.length*wd<=C.size/\(∀ row ∈ rows,row.length=wd)/\∀ (r:Nat) (row:List U) (j:Nat) (u:U) (v:Value),rows[r]? = some row->row[j]? = some u->C[s+r*wd+j]? = some v->Enc l.G u v:=by
   have E:rows≠[]:=by intro e;subst e;simp at L
   cases N with
   | sc h=>cases h
   | emp=>exact absurd rfl E
   | sl hc V hz hw hh=>exact⟨_,_,_,V E,hz E,hw,hh⟩
  have D:=O _ _ f1;have d:rows[k]? = some rows[k]:=A5 L;obtain⟨r',g1,g2,g3,g4,g5⟩:=eI (cell:=fun q=>w.cell? ⟨a,s+k*wd+q,none⟩) I Q M (fun q u n=>by
   rw[B2,d]at n;have n:rows[k][q]? = some u:=n;have B:=(B0.1 n).1;rw[f3 _ (C7 d)]at B;have W:(k+1)*wd<=rows.length*wd:=F1 wd L;rw[G8]at W;have p:s+k*wd+q<C.size:=A2;refine⟨C[s+k*wd+q],?_,f4 k _ q u _ d n (E7 p)⟩;simp[World.cell?,D,E7 p]) hr Y
  obtain⟨_,R⟩:=BF (w:=w) (b:=a) (o:=s+k*wd+o) y f g1 g2 (fun q v' n=>by
   have:=g3 q v' n;rw[show s+k*wd+o+q=s+k*wd+(o+0+q) by omega];exact this)
  exact⟨R,g4,g5⟩
 .rename_i b i tg z o ts y;split at f
  .rename_i c tc T g ro V;obtain⟨h1,f⟩:=A3 f;have h1:=A0 h1;subst h1;obtain⟨⟨l,wd,iE,k,M,I,N,Q,L,e6,rfl⟩,Z⟩:=tZ hx;obtain⟨vs,hr⟩:=J f;rw[hr]at f;obtain⟨K,inf,d1,d2,d3,d4⟩:=SqR.ex (h.atl M V).1;rcases d4 with⟨d4,_⟩|⟨_,d4⟩
   .rw[I]at d4;cases d4
   obtain⟨C,fz,T',rows,lg,f1,f2,f3,f4,f5,f6,f7,f8,f9⟩:=d4;have A:tc-10=K:=A2;rw[A]at hr;have S:k<rows.length:=A2;have d:rows[k]? = some rows[k]:=A5 S;have X:wd=K:=by
    have:F5 (Ora.env i)=10+wd:=by rw[N];rfl
    omega
   subst X;obtain⟨r',g1,g2,g3,g4,g5⟩:=eI (cell:=fun q=>w.cell? ⟨l.blk,l.sh+k*wd+q,none⟩) f2 Q f7 (fun q u n=>by
    rw[B2,d]at n;have n:rows[k][q]? = some u:=n;have B:=(B0.1 n).1;rw[f6 _ (C7 d)]at B;have W:(k+1)*wd<=l.cap*wd:=F1 wd A2;rw[G8]at W;have p:l.sh+k*wd+q<C.size:=A2;refine⟨C[l.sh+k*wd+q],?_,f8 k _ q u _ d n (E7 p)⟩;simp[World.cell?,f1,E7 p]) hr Y
   obtain⟨_,R⟩:=BF (w:=w) (b:=l.blk) (o:=l.sh+k*wd+o) y f g1 g2 (fun q v' n=>by
    have:=g3 q v' n;rw[show l.sh+k*wd+o+q=l.sh+k*wd+(o+0+q) by omega];exact this)
   exact⟨R,g4,g5⟩
  .cases f
 .cases f
end
end
section
open Go
variable [Ora]
section
variable {P:Program} {base:Nat} {ρ ρ':Ren} {m m':Mem} {w w':World}
def at0(a:Nat):Ren:=fun _=>some (lc a 0 0)
def SB{a s n c:Nat}(h:n<=c):VR (at0 a) (.slice (some ⟨0,s,none⟩) n (M1+1)) (.slice (some ⟨a,s,none⟩) n c) :=
 VR.op (ρ:=at0 a) (b:=0) (o:=s) (n:=n) (m:=M1+1) (m':=c) (l:=lc a 0 0) rfl (by unfold M1;omega) h (fun h=>by unfold M1 at h;omega)
def PT{a s:Nat}:VR (at0 a) (.pointer (some ⟨0,s,none⟩)) (.pointer (some ⟨a,s,none⟩)):=VR.ptr (ρ:=at0 a) (b:=0) (o:=s) (l:=lc a 0 0) rfl
def sB{t e:TypeId}{a s n c z sz:Nat}{k:IntKind}(hu:P.underlying t=some (.slice e))(hs:G3 P e=some sz)(g:z<n)(d:n<=c)(w:World) :
  (Instr.indexAt t (.slice (some ⟨a,s,none⟩) n c) (.int k (.ofNat z))).run P w=.ok (.pointer (some ⟨a,s+z*sz,none⟩)) w:=by
 have f:Nat.blt z n=true:=C5 g;have hm:V8 P t (.slice (some ⟨0,s,none⟩) n (M1+1)) (.int k (.ofNat z))=some (.pointer (some ⟨0,s+z*sz,none⟩)):=by
  simp only[V8,hu,hs,f,D8,y5,E1]
 obtain⟨v',g1,g2⟩:=bJ (P:=P) hm (SB (a:=a) d) (.pure rfl) w;obtain⟨l2,b,_,rfl⟩:=N5 g2;cases b;exact g1
def oE{t e:TypeId}{a s n z sz:Nat}{k:IntKind}(hu:P.underlying t=some (.array n e))(hs:G3 P e=some sz)(d:z<n)(w:World) :
  (Instr.indexAt t (.pointer (some ⟨a,s,none⟩)) (.int k (.ofNat z))).run P w=.ok (.pointer (some ⟨a,s+z*sz,none⟩)) w:=by
 have c:Nat.blt z n=true:=C5 d;have hm:V8 P t (.pointer (some ⟨0,s,none⟩)) (.int k (.ofNat z))=some (.pointer (some ⟨0,s+z*sz,none⟩)):=by
  simp only[V8,hu,hs,c,D8,y5,E1]
 obtain⟨v',g1,g2⟩:=bJ (P:=P) hm (PT (a:=a)) (.pure rfl) w;obtain⟨l2,b,_,rfl⟩:=N5 g2;cases b;exact g1
def sD{a z:Nat}{c:Array Field}{f:Field}(hu:P.underlying s=some (.struct c))(e:c.toList[i]? = some f)(d:G3 P f.type=some (z+1))(w:World) :
  (Instr.fieldAt s (.pointer (some ⟨a,o,none⟩)) i).run P w=.ok (.pointer (some ⟨a,o+f.offset,none⟩)) w:=by
 have hm:bK P s (.pointer (some ⟨0,o,none⟩)) i=some (.pointer (some ⟨0,o+f.offset,none⟩)):=by
  simp only[bK,hu,e,d,y5,E1]
 obtain⟨v',g1,g2⟩:=kF (P:=P) hm (PT (a:=a)) w;obtain⟨l2,b,_,rfl⟩:=N5 g2;cases b;exact g1
def CV{t wd:Nat}{g:Bool}{rows:List (List U)}{k v:Value}(h:HG m i t z k=some (v,m'))(hi:Ora.env i=.seq g wd rows)(I:t=10+wd)(F:VR ρ z z')(D:Sat m'.lg) :
  v=k/\(∃ kk n,z'=.int kk (.ofNat n)/\n<rows.length/\nI Ora.env z=some (.ofNat n))/\I9 m m'/\m.lg.le m'.lg:=by
 unfold HG at h;cases l:!(Nat.blt (G0 z) 8)with
 | true=>rw[l]at h;cases h
 | false =>
   have E:G0 z<8:=by
    have:Nat.blt (G0 z) 8=true:=by simpa using l
    exact A1 this
   rw[l]at h;simp only[D4]at h;split at h
   .rename_i b H n W hh lg A;split at h
    .rename_i x C;cases h;have d:=H1 A;have c:=dT C;obtain⟨u,f,J,r,p,G,_⟩:=L5 A (Q8.le D c);have B:=kN C (G ρ) D;subst B;obtain⟨kk,y,rfl,f2,_⟩:=L7 F E;have e:[z,hole i t].map (D3 Ora.env)=[.int kk y,.seq g wd rows]:=by
      simp only[C4,F8,f2];show[_,Ora.env i]=_;rw[hi]
     rw[e]at f;have f:(if wd=t-10 then U.bool (decide (0<=y) && decide (y<rows.length))else U.none)=u:=f;rw[A9 A2]at f;subst f;have p:some (Value.bool (decide (0<=y) && decide (y<rows.length)))=some (.bool true):=p;have q:(decide (0<=y) && decide (y<rows.length))=true:=by simpa using p
     simp only[G4,decide_eq_true_eq]at q;obtain⟨n0,rfl⟩:∃ n0:Nat,y=.ofNat n0:=⟨y.toNat,by have:=cG q.1;exact this.symm⟩;refine⟨rfl,⟨kk,n0,rfl,?_,PU f2⟩,I9.trans (G7 A) ⟨x,rfl⟩,d.trans c⟩
     have:=q.2;have:(n0:Int)<rows.length:=this;omega
    .cases h
   .cases h
def A5H{G:Nat->Option Obj}{b:Bool}{wd:Nat}{rows:List (List U)}{v:Value}(h:Enc G (.seq b wd rows) v)(hr:rows≠[]):b=false/\∃ a o c,v=.slice (some ⟨a,o,none⟩) rows.length c/\rows.length<=c:=by
 cases h with
 | sc h=>cases h
 | nil=>exact absurd rfl hr
 | emp=>exact absurd rfl hr
 | sl d _ _ _ _=>exact⟨rfl,_,_,_,rfl,d⟩
def KA{t:Nat}(h:F5 u=t)(d:10<=t):u=.none∨∃ c wd rows,u=.seq c wd rows/\t=10+wd:=by
 cases u with
 | none=>exact .inl rfl
 | int k n=>have:=K7 k;simp[F5]at h;omega
 | bool b=>simp[F5]at h;omega
 | str s=>simp[F5]at h;omega
 | seq c wd rows=>exact .inr ⟨c,wd,rows,rfl,h.symm⟩
def eM{G:Nat->Option Obj}{v:Value}{t:Nat}(h:Enc G u v)(d:F5 u=t)(b:10<=t):∃ c wd rows,u=.seq c wd rows/\t=10+wd:=by
 rcases KA d b with rfl|h1
 .cases h with
  | sc h=>cases h
 .exact h1
def AK{t e:TypeId}{b s:Nat}{l:Loc}{v v':Value}(hu:P.underlying t=some (.slice e))(hs:G3 P e=some (s+1))(y:tg=10+(s+1))(h1:ρ b=some l)(d:Enc l.G (Ora.env i) v')(h3:F5 (Ora.env i)=tg)
  (h:HG m i tg z (dpt b i tg z 0)=some (v,m')) (B:VR ρ z z') (C:Sat m'.lg):(∃ r,(Instr.indexAt t v' z').run P w=.ok r w/\VR ρ v r)/\I9 m m'/\m.lg.le m'.lg:=by
 obtain⟨A,wd,rows,f,D⟩:=eM d h3 A2;obtain⟨rfl,⟨kk,n,rfl,k,p⟩,g1,g2⟩:=CV h f D B C;have q:wd=s+1:=A2;subst q;have g:rows≠[]:=by intro e;subst e;simp at k
 rw[f]at d;obtain⟨rfl,a,o,c,rfl,x⟩:=A5H d g;refine⟨⟨_,sB hu hs k x w,.dpt ⟨l,s+1,rows,a,o,c,n,h1,f,by rw[f];exact d,p,k,A2,by simp⟩ h3 rfl⟩,g1,g2⟩
def HE{t:TypeId}{x x' v:Value}(h:kB P m t x z=some (v,m'))(hx:VR ρ x x')(B:VR ρ z z')(G:Sat m'.lg):(∃ r,(Instr.indexAt t x' z').run P w=.ok r w/\VR ρ v r)/\I9 m m'/\m.lg.le m'.lg:=by
 unfold kB at h;split at h
 .rename_i e b i tg hu;split at h
  .rename_i s hs;obtain⟨g,h⟩:=A3 h;have g:=A0 g;obtain⟨D,d⟩:=eG hx;rcases D with⟨l,wd,h1,A,h3,rfl⟩|⟨l,wd,rows,h1,A,h3,O,L,rfl⟩
   .obtain⟨_,⟨kk,n,_,M,_⟩,_⟩:=CV h h3 (by rw[h3]at d;exact d.symm) B G;simp at M
   .have C:tg=10+wd:=by rw[h3]at d;exact d.symm
    obtain⟨rfl,⟨kk,n,rfl,M,J⟩,g1,g2⟩:=CV h h3 C B G;have p:wd=s+1:=A2;subst p;exact⟨⟨_,sB hu hs A2 L w,.opt ⟨l,s+1,rows,n,h1,A,h3,J,A2,A2,by simp⟩ d rfl⟩,g1,g2⟩
  .cases h
 .rename_i e b i tg hu;split at h
  .rename_i s hs;obtain⟨g,h⟩:=A3 h;have g:=A0 g;obtain⟨l,h1,A,h3,_⟩:=lR hx;exact AK hu hs g h1 A h3 h B G
  .cases h
 .rename_i e b i tg hu;split at h
  .rename_i s hs;obtain⟨g,h⟩:=A3 h;have g:=A0 g;obtain⟨l,h1,A,h3,_⟩:=eH hx;exact AK hu hs g h1 A h3 h B G
  .cases h
 .rename_i n e b i tg y o hu;split at h
  .rename_i s kk k hs;obtain⟨f,h⟩:=A3 h;obtain⟨f,hw⟩:=B3 f;have f:=A1 f;have hw:o+k*s<tg-10:=A1 hw;rw[E1]at h;cases h;cases I4 B;obtain⟨⟨l,wd,rows,a,s0,c,q,I,C,F,K,H,N,rfl⟩,E⟩:=CT hx;have p:tg-10=wd:=by rw[<- E,C];simp[F5]
   refine⟨⟨_,oE hu hs f w,.dpt ⟨l,wd,rows,a,s0,c,q,I,C,F,K,H,A2,by simp⟩ E rfl⟩,.refl _,.refl _⟩
  .cases h
 .rename_i n e b i tg y o hu;split at h
  .rename_i s kk k hs;obtain⟨f,h⟩:=A3 h;obtain⟨f,hw⟩:=B3 f;have f:=A1 f;have hw:o+k*s<tg-10:=A1 hw;rw[E1]at h;cases h;cases I4 B;obtain⟨⟨l,wd,rows,q,I,C,F,K,H,N,rfl⟩,E⟩:=tZ hx;have p:tg-10=wd:=by rw[<- E,F];simp[F5]
   refine⟨⟨_,oE hu hs f w,.opt ⟨l,wd,rows,q,I,C,F,K,H,A2,by simp⟩ E rfl⟩,.refl _,.refl _⟩
  .cases h
 .cases h
def HV{x x' v:Value}{f:Nat}(h:kG P m s x f=some (v,m'))(hx:VR ρ x x'):(∃ r,(Instr.fieldAt s x' f).run P w=.ok r w/\VR ρ v r)/\m'=m:=by
 unfold kG at h;split at h
 .rename_i D b i tg y o hu;split at h
  .rename_i fd B;split at h
   .rename_i z p;obtain⟨hw,h⟩:=A3 h;have hw:o+fd.offset<tg-10:=A1 hw;rw[E1]at h;cases h;obtain⟨⟨l,wd,rows,a,s0,c,q,n,g,e,t,k,C,rfl⟩,d⟩:=CT hx;have A:tg-10=wd:=by rw[<- d,g];simp[F5]
    exact⟨⟨_,sD hu B p w,.dpt ⟨l,wd,rows,a,s0,c,q,n,g,e,t,k,A2,by simp⟩ d rfl⟩,rfl⟩
   .cases h
  .cases h
 .rename_i D b i tg y o hu;split at h
  .rename_i fd B;split at h
   .rename_i z p;obtain⟨hw,h⟩:=A3 h;have hw:o+fd.offset<tg-10:=A1 hw;rw[E1]at h;cases h;obtain⟨⟨l,wd,rows,q,n,g,e,t,k,C,rfl⟩,d⟩:=tZ hx;have A:tg-10=wd:=by rw[<- d,e];simp[F5]
    exact⟨⟨_,sD hu B p w,.opt ⟨l,wd,rows,q,n,g,e,t,k,A2,by simp⟩ d rfl⟩,rfl⟩
   .cases h
  .cases h
 .cases h
end
end
section
open Go
variable [Ora]
section
variable {P:Program} {base:Nat} {ρ ρ':Ren} {m m':Mem} {w w':World}
def m6{G:Nat->Option Obj}{b:Bool}{wd:Nat}{rows:List (List U)}{v:Value}(h:Enc G (.seq b wd rows) v):(b=true/\rows=[]/\v=.slice none 0 0)∨(b=false/\∃ (a:Addr) (c:Nat),v=.slice (some a) rows.length c/\rows.length<=c):=by
 cases h with
 | sc h=>cases h
 | nil=>exact .inl ⟨rfl,rfl,rfl⟩
 | emp=>exact .inr ⟨rfl,_,_,rfl,A6 _⟩
 | sl d _ _ _ _=>exact .inr ⟨rfl,_,_,rfl,d⟩
def jF{t e:TypeId}{a:Option Addr}{n c:Nat}(hu:P.underlying t=some (.slice e))(w:World):(Builtin.len_ ⟨t::tys⟩ ty #[.slice a n c]).run P w=.ok (.int .i64 n) w:=by
 simp[Builtin.len_,A4,C8 hu,Result.andThen,goInt]
def A1M{t:Nat}{v:Value}{c:Bool}{wd:Nat}{rows:List (List U)}(h:S7 m 3 .len [hole i t]=some (v,m'))(hi:Ora.env i=.seq c wd rows)(e:Sat m'.lg):VR ρ v (.int .i64 rows.length)/\I9 m m'/\m.lg.le m'.lg/\D3 Ora.env v=.int .i64 rows.length:=by
 obtain⟨u,d,n,r,f,g,l⟩:=L5 h e;have b:[hole i t].map (D3 Ora.env)=[.seq c wd rows]:=by
  show[Ora.env i]=_;rw[hi]
 rw[b]at d;have d:U.int .i64 rows.length=u:=d;subst d;cases f;refine⟨g ρ,G7 h,H1 h,?_⟩;obtain⟨rfl,rfl⟩:=gO h;obtain⟨h1,k,h3⟩:=e (.lt m.lg.nx 3 .len [hole i t]) (by cases m;exact B1);show Ora.env m.lg.nx=_;rw[h1,b];rfl
def kE{i j:Nat}:∀ {l:List c8},pT i l=some j->∃ tg,c8.lt j 3 .len [hole i tg] ∈ l
 | [],h=>by cases h
 | e::r,h=>by
   unfold pT at h;split at h
   .cases h
   .rename_i f t k tg r' he;cases he;cases d:Nat.beq k i && Nat.beq t 3 with
    | true =>
      rw[d]at h;cases h;obtain⟨h1,c⟩:=B3 d;have h1:=A0 h1;have c:=A0 c;subst h1;subst c;exact⟨tg,.head _⟩
    | false =>
      rw[d]at h;obtain⟨b,h3⟩:=kE h;exact⟨b,.tail _ h3⟩
   .rename_i he;cases he;obtain⟨b,h3⟩:=kE h;exact⟨b,.tail _ h3⟩
def y8{t:Nat}{v:Value}(h:CL m i t=some (v,m')):I9 m m'/\m.lg.le m'.lg:=by
 unfold CL at h;split at h
 .cases h;exact⟨I9.refl _,.refl _⟩
 .exact⟨G7 h,H1 h⟩
def jX{t:Nat}{v:Value}{c:Bool}{wd:Nat}{rows:List (List U)}(h:CL m i t=some (v,m'))(hi:Ora.env i=.seq c wd rows)(d:Sat m'.lg):VR ρ v (.int .i64 rows.length)/\I9 m m'/\m.lg.le m'.lg/\D3 Ora.env v=.int .i64 rows.length:=by
 unfold CL at h;split at h
 .rename_i j e;cases h;obtain⟨tg,hm⟩:=kE e;obtain⟨h1,f,_⟩:=d _ hm;have b:[hole i tg].map (D3 Ora.env)=[.seq c wd rows]:=by
   show[Ora.env i]=_;rw[hi]
  rw[b]at h1;have h1:Ora.env j=.int .i64 rows.length:=h1;refine⟨.hole ?_ ?_,I9.refl _,.refl _,h1⟩
  .rw[h1];rfl
  .rw[h1];rfl
 .exact A1M h hi d
def RA{b:Nat}{v':Value}(h:VT ρ b u v'):∃ d wd rows a c,u=.seq d wd rows/\v'=.slice a rows.length c:=by
 rcases h with⟨l,wd,h1,e,h3,rfl⟩|⟨l,wd,rows,h1,e,h3,f,g,rfl⟩
 .exact⟨_,_,_,_,_,h3,rfl⟩
 .exact⟨_,_,_,_,_,h3,by rw[f]⟩
def A1N{t:TypeId}{x x' v:Value}(h:A1O P m t x=some (v,m'))(hx:VR ρ x x')(n:Sat m'.lg):(∃ r,(Builtin.len_ ⟨t::tys⟩ ty #[x']).run P w=.ok r w/\VR ρ v r)/\I9 m m'/\m.lg.le m'.lg:=by
 unfold A1O at h;split at h
 .rename_i e b i tg hu;obtain⟨l,h1,d,h3,k⟩:=lR hx;obtain⟨g,wd,rows,f,_⟩:=eM d h3 k;obtain⟨g1,g2,g3,_⟩:=jX (ρ:=ρ) h f n;rw[f]at d;rcases m6 d with⟨rfl,rfl,rfl⟩|⟨rfl,a,c,rfl,_⟩
  .exact⟨⟨_,jF hu w,g1⟩,g2,g3⟩
  .exact⟨⟨_,jF hu w,g1⟩,g2,g3⟩
 .rename_i e b i tg hu;obtain⟨l,h1,d,h3,k,_⟩:=eH hx;obtain⟨g,wd,rows,f,_⟩:=eM d h3 k;obtain⟨g1,g2,g3,_⟩:=jX (ρ:=ρ) h f n;rw[f]at d;rcases m6 d with⟨rfl,rfl,rfl⟩|⟨rfl,a,c,rfl,_⟩
  .exact⟨⟨_,jF hu w,g1⟩,g2,g3⟩
  .exact⟨⟨_,jF hu w,g1⟩,g2,g3⟩
 .rename_i e b i tg hu;obtain⟨g,wd,rows,a,c,f,rfl⟩:=RA (eG hx).1;obtain⟨g1,g2,g3,_⟩:=jX (ρ:=ρ) h f n;exact⟨⟨_,jF hu w,g1⟩,g2,g3⟩
 .cases h
def zX{v v':Value}{n:Nat}(hv:VR ρ v v')(c:wF v=true)(b:D3 Ora.env v=.int kk (.ofNat n)):∃ j,v'=.int j (.ofNat n):=by
 obtain⟨k,z,rfl,f2,_⟩:=L7 hv (A1 c);rw[f2]at b;injection b with _ hb
 exact⟨k,by rw[hb]⟩
def TT{h x e x':Value}(hs:MX h x=true)(h1:VR ρ h e)(d:VR ρ x x'):e=x':=by
 unfold MX at hs;split at hs
 .rename_i i t1 j t2
  have:=A0 hs;subst this;have hh:∀ {t:Nat} {v:Value},VR ρ (.complex .f64 i t) v->toV (Ora.env i)=some v:=fun{t v} h=>by
   cases h with
   | pure hp=>simp[H9]at hp
   | hole h _=>exact h
  have a:=hh h1;rw[hh d]at a;exact(A7 a).symm
 .obtain⟨c,b⟩:=B3 hs;have c:=fH c;rw[eK]at b;have b:=eq_of_beq b;subst c;subst b;cases I4 h1;cases I4 d;rfl
 .cases hs
def YS{wd v:Nat}{d:Bool}{rows:List (List U)}{a b:U}(c:evU (.subs wd) [.seq d v rows,a,b]≠.none):∃ f l g h,a=.int f (.ofNat l)/\b=.int g (.ofNat h)/\v=wd/\l<=h/\h<=rows.length:=by
 cases a with
 | int f k=>cases k with
   | ofNat l=>cases b with
     | int g z2=>cases z2 with
       | ofNat h =>
         have c:(if v=wd/\l<=h/\h<=rows.length then U.seq d wd ((rows.drop l).take (h-l))else .none)≠.none:=c;by_cases e:v=wd/\l<=h/\h<=rows.length
         .exact⟨f,l,g,h,rfl,rfl,e.1,e.2.1,e.2.2⟩
         .rw[A8 e]at c;exact(c rfl).elim
       | negSucc _=>exact(c rfl).elim
     | _=>exact(c rfl).elim
   | negSucc _=>exact(c rfl).elim
 | _=>exact(c rfl).elim
def A1r{G:Nat->Option Obj}{t:Bool}{wd l h mm n c:Nat}{rows:List (List U)}{a:Option Addr}(he:Enc G (.seq t wd rows) (.slice a n c))(N:l<=h)(hh:h<=rows.length)(hm:h<=mm)(H:mm<=c) :
  Enc G (.seq t wd ((rows.drop l).take (h-l))) (.slice (if mm=l then a else a.map (·.add (l*wd))) (h-l) (mm-l))∨a=none:=by
 cases he with
 | sc h=>cases h
 | nil=>exact .inr rfl
 | emp =>
   rename_i a;have f:h=0:=by simpa using hh
   subst f;have g:l=0:=A2;subst g;have F:mm=0:=A2;subst F;exact .inl .emp
 | sl M J K hw k =>
   rename_i a o C T fz;refine .inl ?_;have hlen:((rows.drop l).take (h-l)).length=h-l:=by simp;omega
   have key:∀ b x,(h-l≠0->b=a/\x=o+l*wd)->Enc G (.seq false wd ((rows.drop l).take (h-l))) (.slice (some ⟨b,x,none⟩) (h-l) (mm-l)):=fun b x B=>by
    have y:∀ r row,((rows.drop l).take (h-l))[r]? = some row->h-l≠0/\rows[l+r]? = some row:=fun r row hr=>by
     have p:=(B0.1 hr).1;rw[hlen]at p;rw[F4 p,H3]at hr;exact⟨A2,hr⟩
    have d:(rows.drop l).take (h-l)≠[]->h-l≠0/\rows≠[]:=fun d=>by
     constructor
     .intro e;rw[e]at d;simp at d
     .intro e;subst e;simp at d
    have:=Enc.sl (G:=G) (w:=wd) (rows:=(rows.drop l).take (h-l)) (a:=b) (o:=x) (c:=mm-l) (C:=C) (T:=T) (fz:=fz) A2
     (fun A=>by obtain⟨f,g⟩:=d A;rw[(B f).1];exact J g)
     (fun A=>by
       obtain⟨f,g⟩:=d A;rw[hlen,(B f).2];have h1:=K g;have E:(l+(h-l))*wd<=rows.length*wd:=F1 wd A2;rw[G8]at E;omega)
     (fun row hr=>hw row (bP (List.mem_of_mem_take hr)))
     (fun r row j u v I L D=>by
       obtain⟨f,g⟩:=y r row I;rw[(B f).2]at D;refine k (l+r) row j u v g L ?_;rw[G8,show o+(l*wd+r*wd)+j=o+l*wd+r*wd+j by omega];exact D)
    rw[hlen]at this;exact this
   by_cases q:mm=l
   .rw[A9 q];exact key a o fun h=>by omega
   .rw[A8 q];have e:(Addr.mk a o none).add (l*wd)=⟨a,o+l*wd,none⟩:=by
     unfold Addr.add;split
     .rename_i h;rw[h];rfl
     .rfl
    show Enc G _ (.slice (some ((Addr.mk a o none).add (l*wd))) _ _);rw[e];exact key a (o+l*wd) fun _=>⟨rfl,rfl⟩
def DJ{t e:TypeId}{b s:Nat}{l:Loc}{hi:P4}{v x':Value}(hu:P.underlying t=some (.slice e))(hs:G3 P e=some s)(al:tg=10+s)(h1:ρ b=some l)(F:Enc l.G (Ora.env i) x')(h3:F5 (Ora.env i)=tg)
  (ar:cl=true->ZN x') (h:ID m b i tg cl lo hi mx=some (v,m')) (T:OR ρ lo lo') (N:OR ρ hi hi') (K:OR ρ mx mx') (hS:Sat m'.lg):(∃ r,(Instr.sliceAt t x' lo' hi' mx').run P w=.ok r w/\VR ρ v r)/\I9 m m'/\m.lg.le m'.lg:=by
 have d:∀ {o:P4},OR ρ none o->o=none:=fun{o} h=>by cases o<;>first|rfl|exact h.elim
 have f:∀ {y:Value} {o:P4},OR ρ (some y) o->∃ X,o=some X/\VR ρ y X:=fun{y o} h=>by cases o<;>first|exact h.elim|exact⟨_,rfl,h⟩
 obtain⟨J,wd,rows,e1,e2⟩:=eM F h3 A2;have aq:wd=s:=A2;subst aq;rw[e1]at F;obtain⟨a,n,c,az,hn,aj⟩:∃ a n c,x'=.slice a n c/\n=rows.length/\n<=c:=by
  rcases m6 F with⟨rfl,rfl,rfl⟩|⟨rfl,a,c,rfl,hc⟩
  .exact⟨_,_,_,rfl,rfl,A6 _⟩
  .exact⟨_,_,_,rfl,rfl,hc⟩
 subst az;have go:∀ {m:Mem} {p hv:Value} {cc:Bool} {C:P4} {hh mm:Nat},eN m b i tg p hv cc=some (v,m') ->
   (C=none/\p=.int .i64 0∨∃ y,C=some y/\VR ρ p y)->(∀ kk q,D3 Ora.env hv=.int kk (.ofNat q)->q<=rows.length->q=hh/\Bd mx' c c mm/\(hi'=none->mx'=none)/\Bd hi' mm n hh/\hh<=mm/\(cc=true->mm=hh)) ->
   (∃ r,(Instr.sliceAt t (.slice a n c) C hi' mx').run P w=.ok r w/\VR ρ v r)/\I9 m m'/\m.lg.le m'.lg:=fun{m p hv cc C hh mm} h E Z=>by
  unfold eN at h;obtain⟨hint,h⟩:=A3 h;obtain⟨ay,ak⟩:=B3 hint;rw[M9]at h;simp only[D0,L2]at h;obtain⟨rfl,rfl⟩:=h;obtain⟨f1,f2,ao,ai,ax,f3,f4⟩:=iK hS (.refl _);have M:[hole i tg,p,hv].map (D3 Ora.env)=[.seq J wd rows,D3 Ora.env p,D3 Ora.env hv]:=by
   show[Ora.env i,_,_]=_;rw[e1]
  rw[M]at f1;have av:tg-10=wd:=A2;rw[av]at f1;obtain⟨Y,l0,R,h0,a1,a2,a3,a4⟩:∃ Y l0 R h0,D3 Ora.env p=.int Y (.ofNat l0)/\D3 Ora.env hv=.int R (.ofNat h0)/\l0<=h0/\h0<=rows.length:=by
   have aw:evU (.subs wd) [.seq J wd rows,D3 Ora.env p,D3 Ora.env hv]≠.none:=by rw[<- f1,f3];intro h;cases h
   obtain⟨Y,l0,R,h0,W,B,_,q3,q4⟩:=YS aw;exact⟨Y,l0,R,h0,W,B,q3,q4⟩
  rw[a1,a2]at f1;have f1:Ora.env m.lg.nx=if wd=wd/\l0<=h0/\h0<=rows.length then U.seq J wd ((rows.drop l0).take (h0-l0))else .none:=f1
  rw[A9 ⟨rfl,a3,a4⟩]at f1;obtain⟨rfl,O,b2,b3,b4,b5⟩:=Z R h0 a2 a4;have b6:Bd C h0 0 l0:=by
   rcases E with⟨rfl,rfl⟩|⟨y,rfl,hy⟩
   .cases a1;exact .inl ⟨rfl,rfl⟩
   .obtain⟨j,rfl⟩:=zX hy ay a1;exact .inr ⟨j,rfl,a3⟩
  have S:=sA (P:=P) (a:=a) (n:=n) (c:=c) hu hs O b2 b3 b6 w;have I:Enc l.G (Ora.env m.lg.nx) (.slice (if mm=l0 then a else a.map (·.add (l0*wd))) (h0-l0) (mm-l0)):=by
   rw[f1];rcases A1r (mm:=mm) F a3 a4 b4 (by rcases O with⟨_,rfl⟩|⟨_,_,O⟩<;>omega)with he|rfl
   .exact he
   .rcases m6 F with⟨rfl,rfl,H⟩|⟨_,_,_,H,_⟩
    .cases H;have z1:h0=0:=by simp at a4;exact a4
     have z2:l0=0:=A2;have z3:mm=0:=by
      rcases O with⟨_,rfl⟩|⟨_,_,O⟩<;>omega
     subst z1;subst z2;subst z3;exact .nil
    .cases H
  refine⟨⟨_,S,?_⟩,⟨_,rfl⟩,U6⟩;cases cc with
  | false=>exact .dat h1 I f2 A2 rfl
  | true =>
    refine .clp h1 I f2 A2 rfl ?_;show mm-l0=h0-l0;rw[b5 rfl]
 have A:∀ {hv y:Value} {kk:IntKind} {q:Nat},VR ρ hv y->wF hv=true->D3 Ora.env hv=.int kk (.ofNat q)->∃ j,y=.int j (.ofNat q):=fun h1 F h3=>zX h1 F h3
 have g:∀ {m:Mem} {p hv:Value} {cc:Bool},eN m b i tg p hv cc=some (v,m')->wF hv=true:=fun h=>by
  unfold eN at h;exact(B3 (A3 h).1).2
 have main:∀ p,(lo'=none/\p=.int .i64 0∨∃ y,lo'=some y/\VR ρ p y)->IC m b i tg cl p hi mx=some (v,m')->(∃ r,(Instr.sliceAt t (.slice a n c) lo' hi' mx').run P w=.ok r w/\VR ρ v r)/\I9 m m'/\m.lg.le m'.lg:=fun p E h=>by
  cases hi with
  | some hv =>
    obtain⟨an,rfl,D⟩:=f N;cases mx with
    | none =>
      cases d K;have h:eN m b i tg p hv false=some (v,m'):=h;have hint:=g h;obtain⟨kk,q,H⟩:∃ kk q,D3 Ora.env hv=.int kk q:=by
       obtain⟨k,z,_,f2,_⟩:=L7 D (A1 hint);exact⟨k,z,f2⟩
      exact go (hh:=q.toNat) (mm:=c) h E fun V B h1 F=>by
       rw[H]at h1;injection h1 with _ h1
       subst h1;obtain⟨j,rfl⟩:=A D hint H;have e:(Int.ofNat B).toNat=B:=rfl;rw[e];exact⟨rfl,.inl ⟨rfl,rfl⟩,fun h=>(by cases h),.inr ⟨j,rfl,A2⟩,A2,fun h=>by cases h⟩
    | some x =>
      obtain⟨x',rfl,au⟩:=f K;have h:(bif MX hv x then eN m b i tg p hv true else none)=some (v,m'):=h;obtain⟨L,h⟩:=A3 h;have hint:=g h
      have:=TT L D au;subst this;obtain⟨kk,q,H⟩:∃ kk q,D3 Ora.env hv=.int kk q:=by
       obtain⟨k,z,_,f2,_⟩:=L7 D (A1 hint);exact⟨k,z,f2⟩
      exact go (hh:=q.toNat) (mm:=q.toNat) h E fun V B h1 F=>by
       rw[H]at h1;injection h1 with _ h1
       subst h1;obtain⟨j,rfl⟩:=A D hint H;have e:(Int.ofNat B).toNat=B:=rfl;rw[e];exact⟨rfl,.inr ⟨j,rfl,A2⟩,fun h=>(by cases h),.inr ⟨j,rfl,A6 _⟩,A6 _,fun _=>rfl⟩
  | none =>
    cases d N;cases mx with
    | some x=>cases h
    | none =>
      cases d K;unfold IC at h;simp only at h;split at h
      .rename_i hv m1 hl;have Q:I9 m1 m'/\m1.lg.le m'.lg:=by
        unfold eN at h;obtain⟨_,h⟩:=A3 h;rw[M9]at h;simp only[D0,L2]at h;obtain⟨_,rfl⟩:=h;exact⟨⟨_,rfl⟩,U6⟩
       obtain⟨W,B,q3,q4⟩:=jX (ρ:=ρ) hl e1 (hS.le Q.2);obtain⟨r1,r2,r3⟩:=go (hh:=rows.length) (mm:=c) h E fun V B h1 F=>by
        rw[q4]at h1;injection h1 with _ h1
        have h1:((rows.length:Nat):Int)=(B:Nat):=h1;have:B=rows.length:=A2;subst this;refine⟨rfl,.inl ⟨rfl,rfl⟩,fun _=>rfl,.inl ⟨rfl,hn.symm⟩,A2,fun hc=>?_⟩
        have:=ar hc;have:c=n:=this;omega
       exact⟨r1,B.trans r2,q3.trans r3⟩
      .cases h
 cases lo with
 | none=>exact main _ (.inl ⟨d T,rfl⟩) h
 | some y=>obtain⟨X,W,B⟩:=f T;exact main _ (.inr ⟨X,W,B⟩) h
end
end
section
open Go
variable [Ora]
section
variable {P:Program} {base:Nat} {ρ ρ':Ren} {m m':Mem} {w w':World}
def N7(R:Nat->Option Obj)(rows:List (List U))(wd:Nat)(C:Array Value)(o:Nat):Prop :=
 (∀ row ∈ rows,row.length=wd)/\∀ (r:Nat) (row:List U) (j:Nat) (u:U) (v:Value),rows[r]? = some row->row[j]? = some u->C[o+r*wd+j]? = some v->Enc R u v
def N7.mono{R d:Nat->Option Obj}{rows:List (List U)}{wd:Nat}{C:U8}(h:N7 R rows wd C o)(hs:Sub R d):N7 d rows wd C o:=⟨h.1,fun r row j u v a b c=>(h.2 r row j u v a b c).mono hs⟩
def N7.nil{R:Nat->Option Obj}{wd:Nat}{C:U8}:N7 R [] wd C o:=⟨fun _ h=>by(cases h),fun r row j u v h=>by simp at h⟩
def lY{wd:Nat}:∀ {n:Nat} {l:List U} {r:List (List U)},Z3 wd n l=some r->r.length=n/\l.length=n*wd/\(∀ row ∈ r,row.length=wd)/\∀ (q:Nat) (row:List U) (j:Nat) (u:U),r[q]? = some row->row[j]? = some u->l[q*wd+j]? = some u
 | 0,[],r,h=>by cases h;exact⟨rfl,by simp,fun _ h=>(by cases h),fun q row j u h=>by simp at h⟩
 | 0,_::_,r,h=>by cases h
 | n+1,l,r,h=>by
   unfold Z3 at h;split at h
   .rename_i hle;split at h
    .rename_i g hr;cases h;obtain⟨h1,c,h3,d⟩:=lY hr;have f:l.length=(n+1)*wd:=by
      rw[E4]at c;rw[G8];omega
     refine⟨by simp[h1],f,fun row b=>?_,fun q row j u g1 g2=>?_⟩
     .rcases B4.1 b with rfl|b
      .simp;omega
      .exact h3 row b
     .cases q with
      | zero =>
        simp at g1;subst g1;have e:=(B0.1 g2).1;simp at e;rw[F4 A2]at g2
        simpa using g2
      | succ q =>
        have:=d q row j u (by simpa using g1) g2;rw[H3]at this;rw[show(q+1)*wd+j=wd+(q*wd+j) by rw[G8];omega];exact this
    .cases h
   .cases h
def nE{wd:Nat}:∀ (n:Nat) (l:List U),l.length=n*wd->∃ r,Z3 wd n l=some r
 | 0,[],_=>⟨[],rfl⟩
 | 0,_::_,h=>by simp at h
 | n+1,l,h=>by
   rw[G8]at h;obtain⟨r,hr⟩:=nE (wd:=wd) n (l.drop wd) (by rw[E4];omega);refine⟨l.take wd::r,?_⟩;unfold Z3;rw[A9 A2,hr]
def mJ{R:Nat->Option Obj}{wd n:Nat}{rows:List (List U)}(h:X7 R us vs)(b:Z3 wd n us=some rows):N7 R rows wd ⟨vs⟩ 0:=by
 obtain⟨h1,d,h3,c⟩:=lY b;refine⟨h3,fun r row j u v g1 g2 g3=>h.2 _ u v (c r row j u g1 g2) ?_⟩
 simpa using g3
def vD{α:Type}{l:List α}:∀ n,(KC l n).length=n*l.length
 | 0=>by simp[KC]
 | n+1=>by simp[KC,vD n,G8];omega
def fJ(s:List UInt8):(iD s).length=s.length:=by simp[iD]
def FH{R:Nat->Option Obj}(s:List UInt8):N7 R (iD s) 1 ⟨O4 s⟩ 0:=by
 refine⟨fun row hr=>?_,fun r row j u v g1 g2 g3=>?_⟩
 .unfold iD at hr;obtain⟨b,_,rfl⟩:=K4.1 hr;rfl
 .unfold iD at g1;rw[F9]at g1;cases c:s[r]? with
  | none=>rw[c]at g1;cases g1
  | some b =>
    rw[c]at g1;simp only[K2,D0]at g1;subst g1;cases j with
    | zero =>
      simp at g2;subst g2;have g3:(O4 s)[0+r*1+0]? = some v:=by simpa using g3
      unfold O4 at g3;rw[F9,show 0+r*1+0=r by omega,c]at g3;simp only[K2,D0]at g3;subst g3;exact .sc rfl
    | succ j=>simp at g2
def rL{G:Nat->Option Obj}{wd n c:Nat}{rows:List (List U)}(h:Enc G (.seq false wd rows) (.slice (some a) n c))(E:∀ k A,G k=some A->w.heap[k]? = some A) :
  n=rows.length/\∃ new',new'.length=rows.length*wd/\new'.all l8=true/\N7 G rows wd ⟨new'⟩ 0/\∀ (j:Nat) (v':Value),new'[j]? = some v'->w.cell? (a.add j)=some v':=by
 cases h with
 | sc h=>cases h
 | emp=>exact⟨rfl,[],by simp,rfl,.nil,fun j v' h=>by simp at h⟩
 | sl I F B hw f =>
   rename_i a o C T fz;refine⟨rfl,?_⟩;cases hr:rows with
   | nil=>exact⟨[],by simp,rfl,.nil,fun j v' h=>by simp at h⟩
   | cons H J =>
     have g:rows≠[]:=by rw[hr];simp
     rw[<- hr];have hh:=E _ _ (F g);have B:=B g;have hlen:((C.toList.drop o).take (rows.length*wd)).length=rows.length*wd:=by simp;omega
     have b:∀ j,j<rows.length*wd->((C.toList.drop o).take (rows.length*wd))[j]? = C[o+j]? := fun j d=>by
      rw[F4 d,H3];simp
     refine⟨_,hlen,?_,⟨hw,fun r row j u v g1 g2 g3=>?_⟩,fun j v' d=>?_⟩
     .refine D2.2 fun v hv=>?_
      obtain⟨j,d,e⟩:=Z4 hv;rw[hlen]at d;have y:C[o+j]? = some v:=by rw[<- b j d,A5 (by rw[hlen];exact d),e]
      have l:0<wd:=by
       rcases R9 wd with h0|h0
       .subst h0;omega
       .exact h0
      have h1:j / wd<rows.length:=by rw[Nat.div_lt_iff_lt_mul l];exact d
      have q:(rows[j / wd]).length=wd:=hw _ (M8 h1);have h3:j%wd<wd:=nK _ l;refine kJ (f (j / wd) rows[j / wd] (j%wd) (rows[j / wd])[j%wd] v (A5 h1) (A5 (by rw[q];exact h3)) ?_);have:o+j / wd*wd+j%wd=o+j:=by have:=Nat.div_add_mod j wd;rw[u6]at this;omega
      rw[this];exact y
     .have D:0+r*wd+j<rows.length*wd:=by
       have t:=(B0.1 g1).1;have x:=(B0.1 g2).1;rw[hw _ (C7 g1)]at x;have q:(r+1)*wd<=rows.length*wd:=F1 wd t;rw[G8]at q;omega
      have g3:((C.toList.drop o).take (rows.length*wd))[0+r*wd+j]? = some v:=by simpa using g3
      rw[b _ D]at g3;exact f r row j u v g1 g2 (by rw[show o+r*wd+j=o+(0+r*wd+j) by omega];exact g3)
     .have p:=(B0.1 d).1;rw[hlen]at p;rw[b j p]at d;rw[J3.add_none'];simp[World.cell?,hh,d]
structure SE (P:Program) (ρ':Ren) (w:World) (wd:Nat) (bh:Beh) (gs:List Nat) (y':Value) (rows2:List (List U)) (new':List Value):Prop where
 len:∀ wd',(Builtin.lenOf y').run P wd'=.ok rows2.length wd'
 first:∀ wd':World,wd'.heap=w.heap->(Builtin.firstCells wd rows2.length y').run P wd'=.ok ⟨new'⟩ wd'
 size:new'.length=rows2.length*wd
 flat:new'.all l8=true
 rows:∀ R,(∀ b ∈ gs,∀ l,ρ' b=some l->Sub l.G R)->N7 R rows2 wd ⟨new'⟩ 0
 ev:∀ c nul rows,Ora.env c=.seq nul wd rows->evU (cB wd (hole c (10+wd)) bh).1 ((cB wd (hole c (10+wd)) bh).2.map (D3 Ora.env))=kM nul wd rows rows2
def AJ{R:Nat->Option Obj}(h:X7 R us vs):vs.all l8=true:=by
 refine D2.2 fun v hv=>?_
 obtain⟨j,b,e⟩:=Z4 hv;have hu:j<us.length:=by rw[h.1];exact b
 exact kJ (h.2 j us[j] v (A5 hu) (by rw[A5 b,e]))
def PS{td:Td}(N:xO P td){e:TypeId}{wd:Nat}{y y':Value}{bh:Beh}{gs:G5}(h:HR P base ρ m.H w)(p:A0B td P m e wd y=some (bh,gs,sure,m'))(hf:J2 ρ m.n m'.hi)(Q:VR ρ y y')(hS:Sat m'.lg)(az:0<wd)(V:G3 P e=some wd) :
  ∃ ρ' d new',St P base ρ ρ' m m' w w/\m.lg.le m'.lg/\c9 ρ m m'/\(∀ b ∈ gs,Hp.get m'.H b=some .frz/\∃ l,ρ' b=some l)/\SE P ρ' w wd bh gs y' d new'/\(sure=true->d≠[]):=by
 unfold A0B at p;split at p
 .cases p;cases O5 Q;refine⟨ρ,[],[],St.refl h,.refl _,.refl,fun b F=>(by cases F),⟨fun _=>rfl,fun _ _=>rfl,by simp,rfl,fun R _=>.nil,fun c g rows B=>?_⟩,fun h=>by cases h⟩;show evU (.snoc wd) [Ora.env c]=_;rw[B];show(if wd=wd/\wd≠0 then(match Z3 wd (([]:List U).length / wd) []with|some r=>kM g wd rows r|none=>.none)else .none)=_;rw[A9 ⟨rfl,A2⟩,Q6,Nat.zero_div];rfl
 .rename_i a n c;split at p
  .rename_i cs ts hr T;split at p
   .rename_i xs ax m2 hd;cases p;have X:dH m wd (.slice (some a) n c)=some (n,cs):=by simp only[dH,hr]
    obtain⟨f1,new',f2,f3⟩:=sO h X Q;obtain⟨ρ2,C,M,O,t,S,K⟩:=fZ N h hd hf f2 hS;have Z:ts.length=wd:=by have:=gB T;rw[V]at this;exact(A7 this).symm
    have I:(xs.map (D3 Ora.env)).length=n*wd:=by
     have:=F0 List.length S;rw[E3,vD,Z]at this;exact this
    obtain⟨d,D⟩:=nE (wd:=wd) n (xs.map (D3 Ora.env)) I;obtain⟨g1,g2,g3,g4⟩:=lY D;refine⟨ρ2,d,new',C,M,O,t,⟨fun q=>by rw[g1];exact f1 q,fun q E=>by rw[g1];exact f3 q E,?_,?_,fun R hR=>mJ (K R hR) D,fun c g rows B=>?_⟩,fun hs=>?_⟩
    .have:=(K (fun k=>w.heap[k]?) (fun b F l Y k o hk=>by
      obtain⟨J,_⟩:=t b F;exact(C.hr.atl Y J).1.2 k o hk)).1
     rw[<- this,I,g1]
    .exact AJ (K (fun k=>w.heap[k]?) (fun b F l Y k o hk=>by
      obtain⟨J,_⟩:=t b F;exact(C.hr.atl Y J).1.2 k o hk))
    .show evU (.snoc wd) (Ora.env c::xs.map (D3 Ora.env))=_;rw[B];show(if wd=wd/\wd≠0 then(match Z3 wd ((xs.map (D3 Ora.env)).length / wd) (xs.map (D3 Ora.env))with|some r=>kM g wd rows r|none=>.none)else .none)=_;rw[A9 ⟨rfl,A2⟩,I,g8 _ az,D]
    .have:0<n:=A1 hs;intro he;subst he;simp at g1;omega
   .cases p
  .cases p
 .split at p
  .rename_i x b m2 hd;cases p;obtain⟨ρ2,l,C,M,O,t,S,K,e7⟩:=N.ok h hd hf Q hS;obtain⟨ay,f,d,J,q2⟩:=eM t S A2;have W:f=wd:=A2;subst W;have hG:=(C.hr.atl M O).1.2;rw[J]at t;have L:∀ c g rows,Ora.env c=.seq g f rows->evU (cB f (hole c (10+f)) (.rows x)).1 ((cB f (hole c (10+f)) (.rows x)).2.map (D3 Ora.env))=kM g f rows d:=fun c g rows B=>by
    show evU (.cat f) [Ora.env c,D3 Ora.env x]=_;rw[B,J];simp[evU]
   have A:∀ b' ∈ [b],Hp.get m'.H b'=some .frz/\∃ l,ρ2 b'=some l:=fun b' G=>by
    rcases B4.1 G with rfl|G
    .exact⟨O,l,M⟩
    .cases G
   rcases m6 t with⟨rfl,rfl,rfl⟩|⟨rfl,a,c,rfl,B⟩
   .exact⟨ρ2,[],[],C,K,e7,A,⟨fun _=>rfl,fun _ _=>rfl,by simp,rfl,fun R _=>.nil,L⟩,fun h=>by cases h⟩
   .obtain⟨_,new',g1,g2,g3,g4⟩:=rL (w:=w) t hG;refine⟨ρ2,d,new',C,K,e7,A,⟨fun _=>rfl,fun q E=>?_,g1,g2,fun R hR=>g3.mono (hR b (.head _) l M),L⟩,fun h=>by cases h⟩;rw[show Builtin.firstCells f d.length (.slice (some a) d.length c)=loadCells a (d.length*f)from rfl];exact jW g1 fun j v' hj=>by rw[aF E];exact g4 j v' hj
  .cases p
 .obtain⟨h1,p⟩:=A3 p;obtain⟨h2,h3⟩:=B3 h1;have h4:=A0 h2;have h5:=A0 h3;cases p;subst h5;obtain⟨s,rfl,f1⟩:=d7 Q h4;refine⟨ρ,iD s,O4 s,St.refl h,.refl _,.refl,fun b F=>(by cases F),⟨fun _=>?_,fun q _=>?_,by simp[iD,O4],?_,fun R _=>FH s,fun c g rows B=>?_⟩,fun h=>by cases h⟩
  .rw[fJ];rfl
  .rw[fJ];have e:((ByteArray.extract ⟨⟨s⟩⟩ 0 s.length).data.map fun b=>Value.int .u8 b.toNat)=⟨O4 s⟩:=by
    rw[eV];apply I2;simp[O4]
   show(pure ((ByteArray.extract ⟨⟨s⟩⟩ 0 s.length).data.map fun b=>Value.int .u8 b.toNat):Sem U8).run P q=_;rw[e];rfl
  .refine D2.2 fun v hv=>?_
   unfold O4 at hv;obtain⟨b,_,rfl⟩:=K4.1 hv;rfl
  .show evU .cats [Ora.env c,D3 Ora.env y]=_;rw[B,f1];simp[evU]
end
end
section
open Go
variable [Ora]
section
variable {P:Program} {base:Nat} {ρ ρ':Ren} {m m':Mem} {w w':World}
def Sub.trans{A B C:Nat->Option Obj}(h:Sub A B)(k:Sub B C):Sub A C:=fun q o b=>k q o (h q o b)
structure A0V (P:Program) (base:Nat) (ρ:Ren) (m:Mem) (w:World) (e:TypeId) (wd c:Nat) (gs:List Nat) (old:Option Nat) (x':Value):Prop where
 ex:∃ nul rows,Ora.env c=.seq nul wd rows/\((nul=true/\rows=[]/\x'=.slice none 0 0/\(∀ b,old=some b->∃ ab l,b<=G9/\Hp.get m.H b=some ab/\ab.rw=true/\ρ b=some l/\l.on=false)) ∨
  (nul=false/\∃ b ab l cap C fz,old=some b/\b<=G9/\Hp.get m.H b=some ab/\ab.rw=true/\ρ b=some l/\l.on=true/\x'=.slice (some ⟨l.blk,l.sh,none⟩) rows.length cap/\w.heap[l.blk]? = some (.cells C e fz) /\
    rows.length<=cap/\l.sh+cap*wd<=C.size/\(∀ i,i<C.size->¬ (fz.1<=i/\i<fz.2))/\∀ R,(∀ b ∈ gs,∀ l,ρ b=some l->Sub l.G R)->N7 R rows wd C l.sh))
def IX{td:Td}(ak:xO P td){e:TypeId}{wd c:Nat}{x x':Value}{gs:G5}{old:Option Nat}(h:HR P base ρ m.H w)(d:BA td P m e wd x=some (c,gs,old,m'))(hf:J2 ρ m.n m'.hi)(hx:VR ρ x x')(hS:Sat m'.lg)(ad:0<wd)(k:G3 P e=some wd) :
  ∃ ρ',St P base ρ ρ' m m' w w/\m.lg.le m'.lg/\c9 ρ m m'/\A0V P base ρ' m' w e wd c gs old x':=by
 unfold BA at d;split at d
 .rw[M9]at d;simp only[hole]at d;cases d;cases O5 hx;obtain⟨q,e2,_⟩:=iK hS (.refl _);refine⟨ρ,St.wLg h _,U6,c9.lg _,⟨true,[],q,.inl ⟨rfl,rfl,rfl,fun b hb=>by cases hb⟩⟩⟩
 .rename_i b i tg;split at d
  .rename_i c0 tc T g S;obtain⟨h1,d⟩:=A3 d;obtain⟨h1,M⟩:=B3 h1;obtain⟨h1,h3⟩:=B3 h1;obtain⟨M,E⟩:=B3 M;have h1:=A0 h1;have h3:=A0 h3;have M:=A0 M;have E:=A1 E;cases d;subst M;obtain⟨Y,bx⟩:=eG hx;rcases Y with⟨l,ar,g1,g2,g3,rfl⟩|⟨l,ar,aj,g1,g2,g3,g4,bw,rfl⟩
   .obtain⟨Q,inf,q,e2,e3,f⟩:=SqR.ex (h.atl g1 S).1;rcases f with⟨_,f⟩|⟨f,_⟩
    .have:Q=wd:=A2;subst this;refine⟨ρ,St.refl h,.refl _,.refl,⟨true,[],f,.inl ⟨rfl,rfl,rfl,fun b' an=>?_⟩⟩⟩;cases an;exact⟨_,l,E,S,rfl,g1,g2⟩
    .rw[g2]at f;cases f
   .obtain⟨Q,inf,q,e2,e3,f⟩:=SqR.ex (h.atl g1 S).1;rcases f with⟨f,_⟩|⟨_,f⟩
    .rw[g2]at f;cases f
    .obtain⟨C,fz,T',rows,lg,f1,f2,f3,f4,f5,f6,f7,f8,f9⟩:=f;have:Q=wd:=A2;subst this;obtain⟨rfl,f10⟩:=f9 rfl;exact⟨ρ,St.refl h,.refl _,.refl,⟨false,rows,f2,.inr ⟨rfl,b,_,l,l.cap,C,fz,rfl,E,S,rfl,g1,g2,by rw[f3],f1,A2,f5,f10,fun R hR=>⟨f6,fun r row j u v q1 q2 q3=>(f8 r row j u v q1 q2 q3).mono (hR g (.head _) lg f7)⟩⟩⟩⟩
  .cases d
 .rename_i b n c0;split at d
  .rename_i cs T0 bu ts S az;obtain⟨hq,p⟩:=A3 d;obtain⟨ah,ag⟩:=B3 hq;have h1:=A0 ah;clear d;split at p
   .rename_i xs bt m1 hd;split at p
    .rename_i bs T W;obtain⟨L,I⟩:=A3 p;clear p;obtain⟨L,E⟩:=B3 L;have h3:=A0 L;have E:=A1 E;subst h3;rw[M9]at I;simp only[hole]at I;cases I;have ao:J2 ρ m.n m1.hi:=by simpa using hf
     have aq:Sat m1.lg:=Q8.le hS U6;obtain⟨l,cap,t,bz,aw,ai⟩:∃ l cap,ρ b=some l/\n<=cap/\(cap=n∨cap=l.cap)/\x'=.slice (some ⟨l.blk,0+l.sh,none⟩) n cap:=by
      rcases(I1 _ _).mp ag with D|D
      .obtain⟨J,F⟩:=B3 D;have J:=A0 J;have F:c0<M1:=A1 F;rcases O2 hx with⟨l,t,_,O,rfl⟩|⟨l,c',t,_,au,X,V,rfl⟩|⟨a',c',_,_,D,_⟩
       .exact⟨l,c0,t,A2,.inl J,rfl⟩
       .omega
       .omega
      .have D:=A0 D;rcases O2 hx with⟨l,t,_,O,rfl⟩|⟨l,c',t,_,au,X,V,rfl⟩|⟨a',c',_,_,F,_⟩
       .omega
       .exact⟨l,c',t,X,.inr (V D rfl),rfl⟩
       .omega
     obtain⟨⟨al,C,fz,T1,f1,f2,_⟩,_⟩:=h.atl t S;obtain⟨cs',f4,f5⟩:=cP (ρ:=ρ) (C:=C) (cs:=cs) (s:=l.sh) f2;obtain⟨ay,q,e2,e3,f,e5,e6⟩:=fZ ak h hd ao f4 aq;obtain⟨⟨_,C1,br,T2,g1,g2,g3⟩,_⟩:=q.hr.atl (q.ext _ _ t) W;rw[f1]at g1;cases g1;obtain⟨rfl,g4,g5⟩:=g3 rfl;have y:=gB az;rw[k]at y;have O:ts.length=wd:=(A7 y).symm;have Z:(xs.map (D3 Ora.env)).length=n*wd:=by
      have:=F0 List.length e5;rw[E3,vD,O]at this;exact this
     obtain⟨rows,G⟩:=nE (wd:=wd) n (xs.map (D3 Ora.env)) Z;obtain⟨q1,q2,q3,q4⟩:=lY G;obtain⟨d1,d2,_⟩:=iK hS (.refl _);have D:Ora.env m1.lg.nx=.seq false wd rows:=by
      rw[d1];show(if wd=0 then U.none else match Z3 wd ((xs.map (D3 Ora.env)).length / wd) (xs.map (D3 Ora.env))with|some r=>.seq false wd r|none=>.none)=_;rw[A8 A2,Z,g8 _ ad,G]
     have ae:cs'.length=n*wd:=by rw[<- f4.1];exact h1
     obtain⟨inf,A,B⟩:∃ inf,P.info? T1=some inf/\inf.size=wd:=by
      unfold G3 at k;cases hi:P.info? T1 with
      | none=>rw[hi]at k;cases k
      | some inf=>rw[hi]at k;exact⟨inf,rfl,A7 k⟩
     have K:l.sh+cap*wd<=C.size:=by
      rcases aw with rfl|rfl
      .rcases R9 (cap*wd)with h0|h0
       .rw[h0]
        have:=g5 inf A;rw[B]at this;omega
       .have N:cap*wd-1<cs'.length:=A2
        have:=f5 (cap*wd-1) cs'[cap*wd-1] (A5 N)
        have:=(C6.1 this).1;omega
      .have:=g5 inf A;rw[B]at this;exact this.1
     have af:=St.wLg q.hr (dY m1 (10+wd) (.mk wd) xs);refine⟨ay,St.trans (by simpa using hf) q af,e2.trans U6,fun j lj hj aa=>by rw[iY];exact e3 j lj hj aa,⟨false,rows,D,.inr ⟨rfl,b,_,l,cap,C,fz,rfl,E,by rw[iY];exact W,rfl,q.ext _ _ t,al,by rw[ai,q1,E8],f1,A2,K,g4,fun R hR=>?_⟩⟩⟩;obtain⟨r1,r2⟩:=mJ (e6 R hR) G;refine⟨r1,fun r row j u v a1 a2 a3=>r2 r row j u v a1 a2 ?_⟩;have hq:r*wd+j<cs'.length:=by
      have av:=(B0.1 a1).1;have ax:=(B0.1 a2).1;rw[r1 _ (C7 a1)]at ax;have M:(r+1)*wd<=rows.length*wd:=F1 wd av;rw[G8]at M;rw[ae,<- q1];omega
     have:=f5 (r*wd+j) cs'[r*wd+j] (A5 hq);rw[show l.sh+r*wd+j=l.sh+(r*wd+j) by omega,this]at a3;have a3:=A7 a3;show(Array.mk cs')[0+r*wd+j]? = some v;rw[I0,show 0+r*wd+j=r*wd+j by omega,A5 hq,a3]
    .cases p
   .cases p
  .cases d
 .cases d
end
end
end Go.Sx
