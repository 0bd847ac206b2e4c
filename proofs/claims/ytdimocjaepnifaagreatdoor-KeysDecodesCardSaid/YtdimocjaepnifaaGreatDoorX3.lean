import Derived.Test.YtdimocjaepnifaaGreatDoorX2
set_option linter.all false
set_option maxRecDepth 100000
set_option maxHeartbeats 4000000
namespace Go.Sx
variable {op:LOp}{s ty:TypeId}{hi i j o tg:Nat}{i' z z':Value}{u:U}{kh kk kl:IntKind}{hi' lo lo' mx mx':V7}{hs r' vs vs' xs:D5}{tys:List TypeId}{a:Addr}{m1:Mem}{row us:List U}{ts:I6}{cl sure:Bool}
section
open Go
variable [Ora]
section
variable {P:Program} {base:Nat} {ρ:Ren} {m m':Mem} {w:World}
def pk(k:IntKind)(n:Int):K2 (.int k n)=true:=rfl
def A2T{op:UnOp}{x x' v:Value}(h:OY m op x=some (v,m'))(hx:VR ρ x x')(hS:Sat m'.lg)(w:World):∃ r,(Op.unary op x').run P w=.ok r w∧VR ρ v r:=by
 unfold OY at h;simp only at h;split at h
 ·obtain⟨h1,h⟩:=A6 h;obtain⟨b,rfl,e⟩:=kU hx (A1 h1);obtain⟨u,e1,e2,r,e3,e4,_⟩:=Q5 h hS;simp only[F0,K7,e,evU,ev1,unM,ofV]at e1;subst e1;cases e3;exact⟨_,(UF (P:=P) (ρ:=ρ) (op:=.not) (x:=.bool b) (v:=.bool !b) rfl (.pure rfl) w).1,e4 ρ⟩
 ·obtain⟨h1,h⟩:=A6 h;obtain⟨k,n,rfl,e,_⟩:=S5 hx (A2 h1);obtain⟨u,e1,e2,r,e3,e4,e5⟩:=Q5 h hS;simp only[F0,K7,e,evU,ev1]at e1;subst e1;obtain⟨r',g1,g2⟩:=LZ (by rw[e2];exact e5);rw[e3]at g2;cases g2;exact⟨_,(UF (P:=P) (ρ:=ρ) g1 (.pure (pk k n)) w).1,e4 ρ⟩
def UO{t:TypeId}{x x' v:Value}(h:uI P m s t x=some (v,m'))(hx:VR ρ x x')(hS:Sat m'.lg)(w:World):∃ r,(convert s t x').run P w=.ok r w∧VR ρ v r:=by
 unfold uI at h;split at h
 ·rename_i j k hs ht;obtain⟨h1,h⟩:=A6 h;obtain⟨j2,n,rfl,e,_⟩:=S5 hx (A2 h1);obtain⟨u,e1,e2,r,e3,e4,e5⟩:=Q5 h hS;simp only[F0,K7,e,evU]at e1;subst e1;cases e3;exact⟨_,by simp[convert,A8,D8 hs,D8 ht,Result.andThen,Conv.intToInt],e4 ρ⟩
 ·rename_i hs ht;obtain⟨h1,h⟩:=A6 h;cases h;obtain⟨b,rfl,e⟩:=eB hx (A1 h1);exact⟨_,by simp[convert,A8,D8 hs,D8 ht,Result.andThen],hx⟩
 ·cases h
def mI{t:Nat}:∀ {cs:D5},bC t cs=true→∀ {i:Nat} {v:Value},cs[i]? = some v→I1 v=t
 | [],_,i,v,h=>by simp at h
 | c::r,hs,i,v,h=>by
   obtain⟨h1,h2⟩:=B8 (show(Nat.beq (I1 c) t && bC t r)=true from hs);cases i with
   | zero=>simp at h;subst h;exact A1 h1
   | succ i=>exact mI h2 (by simpa using h)
def A2x{t e:TypeId}{n:Nat}{cs:o7}{x' i v:Value}(hu:P.underlying t=some (.array n e))(ha:cU P e=some false)(hsz:I4 P e=some 1)(hl:cs.toList.length=n)(htg:bC tg cs.toList=true)(h10:tg<10)
  (hi8:I1 i<8) (h:m7 m tg .sel (i::cs.toList)=some (v,m')) (hx:VR ρ (.agg cs) x') (hi:VR ρ i i') (hS:Sat m'.lg) (w:World):∃ r,(Instr.index t x' i').run P w=.ok r w∧VR ρ v r:=by
 obtain⟨k,z,rfl,e,_⟩:=S5 hi hi8;obtain⟨u,e1,e2,r,e3,e4,e5⟩:=Q5 h hS;simp only[F0,e]at e1;cases z with
 | negSucc z=>simp only[evU]at e1;subst e1;cases e3
 | ofNat z =>
   simp only[evU]at e1;by_cases hz:z<cs.toList.length
   ·have hget:cs.toList[z]? = some cs.toList[z]:=A7 hz;have htag:=mI htg hget;have hm:pI P t (.agg cs) (.int k (.ofNat z))=some cs.toList[z]:=by
     have hb:Nat.blt z n=true:=C9 A0;simp only[pI,hu,hsz,hb,F3,vF,ha,Nat.mul_one];exact hget
    obtain⟨v',g1,g2⟩:=xM (P:=P) hm hx (.pure rfl) w;obtain⟨f1,_⟩:=cN g2 A0;have:u=E6 Ora.env cs.toList[z]:=by
     rw[← e1,B4,H9,hget];rfl
    rw[this,f1]at e3;cases e3;exact⟨_,g1,e4 ρ⟩
   ·rw[B4,L9 (by simp at hz ⊢;omega)]at e1;subst e1;cases e3
def HL{e:TypeId}(h:Nat.beq (bB.sizeD P e) 1=true):I4 P e=some 1:=by
 have h:=A1 h;unfold bB.sizeD at h;split at h
 ·rename_i n hn;rw[hn,h]
 ·cases h
def PC{t:TypeId}{x x' i v:Value}(h:bB P m t x i=some (v,m'))(hx:VR ρ x x')(hi:VR ρ i i')(hS:Sat m'.lg)(w:World):∃ r,(Instr.index t x' i').run P w=.ok r w∧VR ρ v r:=by
 unfold bB at h;cases hq:!(Nat.blt (I1 i) 8)with
 | true=>rw[hq]at h;cases h
 | false =>
   have hi8:I1 i<8:=by
    have:Nat.blt (I1 i) 8=true:=by simpa using hq
    exact A2 this
   rw[hq]at h;simp only[E7]at h;split at h
   ·rename_i hu;obtain⟨h1,h⟩:=A6 h;obtain⟨s,rfl,f1⟩:=eB hx (A1 h1);obtain⟨k,z,rfl,f2,_⟩:=S5 hi hi8;obtain⟨u,e1,e2,r,e3,e4,e5⟩:=Q5 h hS;simp only[F0,K7,f1,f2]at e1;cases z with
    | negSucc z=>simp only[evU]at e1;subst e1;cases e3
    | ofNat z =>
      simp only[evU]at e1;split at e1
      ·rename_i b hb;subst e1;cases e3;have hm:pI P t (.string ⟨⟨s⟩⟩) (.int k (.ofNat z))=some (.int .u8 b.toNat):=by
        simp only[pI,hu,hb]
       obtain⟨v',g1,g2⟩:=xM (P:=P) (ρ:=ρ) hm (.pure rfl) (.pure rfl) w;cases L7 g2;exact⟨_,g1,e4 ρ⟩
      ·subst e1;cases e3
   ·rename_i n e hu;split at h
    ·rename_i cs k he;obtain⟨h1,h⟩:=A6 h;obtain⟨h1,h3⟩:=B8 h1;obtain⟨h1,h2⟩:=B8 h1;exact A2x hu (by simp[cU,he]) (HL h3) (A1 h1) h2 (by have:=Q0 k;omega) hi8 h hx hi hS w
    ·rename_i cs he;obtain⟨h1,h⟩:=A6 h;obtain⟨h1,h3⟩:=B8 h1;obtain⟨h1,h2⟩:=B8 h1;exact A2x hu (by simp[cU,he]) (HL h3) (A1 h1) h2 A0 hi8 h hx hi hS w
    ·cases h
   ·cases h
def UQ{t:TypeId}(hu:P.underlying t=some .string){s:List UInt8}{l h:Int}{r:Value}(e1:PH s l h=u)(e3:toV u=some r):fB P t (.string ⟨⟨s⟩⟩) (some (.int kl l)) (some (.int kh h)) none=some r:=by
 unfold PH at e1;split at e1
 ·rename_i l h;split at e1
  ·rename_i hh;subst e1;cases e3;have b1:Nat.ble h (ByteArray.size ⟨⟨s⟩⟩)=true:=C9 hh.2;have b2:Nat.ble l h=true:=C9 hh.1;simp only[fB,hu,Z3,b1,b2,F3]
  ·subst e1;cases e3
 ·subst e1;cases e3
def OZ{t:TypeId}{x x' v:Value}{hi:V7}(h:oH P m t x lo hi mx=some (v,m'))(hx:VR ρ x x')(hlo:OR ρ lo lo')(hhi:OR ρ hi hi')(hmx:OR ρ mx mx')(hS:Sat m'.lg)(w:World) :
  ∃ r,(Instr.sliceAt t x' lo' hi' mx').run P w=.ok r w∧VR ρ v r:=by
 have none_inv:∀ {o:V7},OR ρ none o→o=none:=fun{o} h=>by cases o<;>first|rfl|exact h.elim
 have some_inv:∀ {y:Value} {o:V7},OR ρ (some y) o→∃ y',o=some y'∧VR ρ y y':=fun{y o} h=>by cases o<;>first|exact h.elim|exact⟨_,rfl,h⟩
 unfold oH at h;split at h
 ·rename_i hu;cases none_inv hmx;obtain⟨h1,h⟩:=A6 h;obtain⟨s,rfl,f1⟩:=eB hx (A1 h1);have str_of:∀ {y:Value},VR ρ (.string ⟨⟨s⟩⟩) y→y=.string ⟨⟨s⟩⟩:=fun h=>l8 h
  split at h
  ·cases h;cases none_inv hlo;cases none_inv hhi;have hm:fB P t (.string ⟨⟨s⟩⟩) none none none=some (.string ⟨⟨s⟩⟩):=by
    have e:ByteArray.size ⟨⟨s⟩⟩=s.length:=rfl;simp[fB,hu,Z3,e]
   obtain⟨v',g1,g2⟩:=kW (P:=P) (ρ:=ρ) (lo':=none) (hi':=none) (mx':=none) hm (.pure rfl) trivial trivial trivial w;cases l8 g2;exact⟨_,g1,hx⟩
  ·obtain⟨h2,h⟩:=A6 h;obtain⟨l',rfl,hl⟩:=some_inv hlo;cases none_inv hhi;obtain⟨k,z,rfl,f2,_⟩:=S5 hl (A2 h2);obtain⟨u,e1,e2,r,e3,e4,e5⟩:=Q5 h hS;simp only[F0,K7,f1,f2,evU]at e1;have hm:=UQ (P:=P) (kl:=k) (kh:=.i64) hu e1 e3;have hm2:fB P t (.string ⟨⟨s⟩⟩) (some (.int k z)) none none=some r:=by
    rw[← hm];have e:ByteArray.size ⟨⟨s⟩⟩=s.length:=rfl;have b:Nat.ble s.length s.length=true:=C9 (B0 _);have e6:((s.length:Nat):Int)=Int.ofNat s.length:=rfl;simp only[fB,hu,Z3,e,e6,b,F3]
   obtain⟨v',g1,g2⟩:=kW (P:=P) (ρ:=ρ) (lo':=some (.int k z)) (hi':=none) (mx':=none) hm2 (.pure rfl) (VR.pure rfl:VR ρ _ _) trivial trivial w;have:VR ρ r v':=g2;have hp:=kS e3;cases g2 with
   | pure _=>exact⟨_,g1,e4 ρ⟩
   | _=>simp[K2,ixp,Go.Sx.dat,Go.Sx.clp,Go.Sx.own,Go.Sx.dpt,Go.Sx.opt,Go.Sx.yv,Go.Sx.sdt]at hp
  ·obtain⟨h2,h⟩:=A6 h;obtain⟨h',rfl,hh⟩:=some_inv hhi;cases none_inv hlo;obtain⟨k,z,rfl,f2,_⟩:=S5 hh (A2 h2);obtain⟨u,e1,e2,r,e3,e4,e5⟩:=Q5 h hS;have f0:E6 Ora.env (.int .i64 0)=.int .i64 0:=rfl;simp only[F0,K7,f1,f2,f0,evU]at e1;have hm:=UQ (P:=P) (kl:=.i64) (kh:=k) hu e1 e3;have hm2:fB P t (.string ⟨⟨s⟩⟩) none (some (.int k z)) none=some r:=by
    rw[← hm];have e6:(0:Int)=Int.ofNat 0:=rfl;cases z with
    | negSucc z=>simp only[fB,hu,Z3]
    | ofNat z =>
      have b0:Nat.ble 0 z=true:=C9 (kA _);simp only[fB,hu,Z3,e6];cases Nat.ble z (ByteArray.size ⟨⟨s⟩⟩)<;>simp[b0]
   obtain⟨v',g1,g2⟩:=kW (P:=P) (ρ:=ρ) (lo':=none) (hi':=some (.int k z)) (mx':=none) hm2 (.pure rfl) trivial (VR.pure rfl:VR ρ _ _) trivial w;have hp:=kS e3;cases g2 with
   | pure _=>exact⟨_,g1,e4 ρ⟩
   | _=>simp[K2,ixp,Go.Sx.dat,Go.Sx.clp,Go.Sx.own,Go.Sx.dpt,Go.Sx.opt,Go.Sx.yv,Go.Sx.sdt]at hp
  ·obtain⟨h2,h⟩:=A6 h;obtain⟨h2,h3⟩:=B8 h2;obtain⟨h',rfl,hh⟩:=some_inv hhi;obtain⟨l',rfl,hl⟩:=some_inv hlo;obtain⟨k,z,rfl,f2,_⟩:=S5 hl (A2 h2);obtain⟨j,y,rfl,f3,_⟩:=S5 hh (A2 h3);obtain⟨u,e1,e2,r,e3,e4,e5⟩:=Q5 h hS;simp only[F0,K7,f1,f2,f3,evU]at e1;have hm:=UQ (P:=P) (kl:=k) (kh:=j) hu e1 e3;obtain⟨v',g1,g2⟩:=kW (P:=P) (ρ:=ρ) (lo':=some (.int k z)) (hi':=some (.int j y)) (mx':=none) hm (.pure rfl) (VR.pure rfl:VR ρ _ _) (VR.pure rfl:VR ρ _ _) trivial w;have hp:=kS e3;cases g2 with
   | pure _=>exact⟨_,g1,e4 ρ⟩
   | _=>simp[K2,ixp,Go.Sx.dat,Go.Sx.clp,Go.Sx.own,Go.Sx.dpt,Go.Sx.opt,Go.Sx.yv,Go.Sx.sdt]at hp
 ·cases h
def GG{b:Builtin}{ks:Array Bool}{v:Value}(hr:HR P base ρ m.H w)(h:gZ P m b vs tys=some (v,m'))(hx:LR ρ vs vs')(hS:Sat m'.lg) :
  ∃ s:Sem Value,builtin b ⟨tys⟩ ty ks ⟨vs'⟩=(do pure (.value (← s)))∧∃ r,s.run P w=.ok r w∧VR ρ v r:=by
 unfold gZ at h;split at h
 ·obtain⟨x',r1,rfl,h1,h2⟩:=hx.tail;cases h2.nil_inv;split at h
  ·rename_i hu;obtain⟨h3,h⟩:=A6 h;obtain⟨s,rfl,f1⟩:=eB h1 (A1 h3);obtain⟨u,e1,e2,r,e3,e4,e5⟩:=Q5 h hS;simp only[F0,K7,f1,evU]at e1;subst e1;cases e3;rename_i t rest _ _;have hm:A4p P m t (.string ⟨⟨s⟩⟩)=some (.int .i64 s.length):=by simp[A4p,hu]
   obtain⟨g1,_⟩:=ZY (ρ:=ρ) (ty:=ty) (tys:=rest) hr hm (.pure rfl);exact⟨_,rfl,_,g1,e4 ρ⟩
  ·cases h
 ·obtain⟨x',r1,rfl,h1,h2⟩:=hx.tail;obtain⟨y',r2,rfl,h3,h4⟩:=h2.tail;cases h4.nil_inv;obtain⟨h5,h⟩:=A6 h;obtain⟨h5,h6⟩:=B8 h5;have h5:=A2 h5;have h6:=A1 h6;obtain⟨k,a,rfl,f1,q1⟩:=S5 h1 h5;obtain⟨j,c,rfl,f2,q2⟩:=S5 h3 (h6▸h5);obtain⟨u,e1,e2,r,e3,e4,e5⟩:=Q5 h hS;simp only[F0,K7,f1,f2,evU]at e1;subst e1;cases e3;obtain⟨g1,_⟩:=ZQ (P:=P) (ρ:=ρ) (ty:=ty) (tys:=⟨tys⟩) (vs:=[.int k a,.int j c]) rfl (.cons (.pure rfl) (.cons (.pure rfl) .nil)) w;exact⟨_,rfl,_,g1,e4 ρ⟩
 ·obtain⟨x',r1,rfl,h1,h2⟩:=hx.tail;obtain⟨y',r2,rfl,h3,h4⟩:=h2.tail;cases h4.nil_inv;obtain⟨h5,h⟩:=A6 h;obtain⟨h5,h6⟩:=B8 h5;have h5:=A2 h5;have h6:=A1 h6;obtain⟨k,a,rfl,f1,q1⟩:=S5 h1 h5;obtain⟨j,c,rfl,f2,q2⟩:=S5 h3 (h6▸h5);obtain⟨u,e1,e2,r,e3,e4,e5⟩:=Q5 h hS;simp only[F0,K7,f1,f2,evU]at e1;subst e1;cases e3;obtain⟨g1,_⟩:=ZO (P:=P) (ρ:=ρ) (ty:=ty) (tys:=⟨tys⟩) (vs:=[.int k a,.int j c]) rfl (.cons (.pure rfl) (.cons (.pure rfl) .nil)) w;exact⟨_,rfl,_,g1,e4 ρ⟩
 ·cases h
def A0v{v:Value}{k:IntKind}{n:Int}(h:E6 Ora.env v=.int k n):tJ Ora.env v=some n:=by
 cases v with
 | complex k i t =>
   cases k with
   | f64 =>
     have h:Ora.env i=.int _ n:=h;simp only[tJ,h]
   | f32=>cases h
 | int j n=>cases h;rfl
 | _=>cases h
def NY{v:Value}{n:Int}(h:tJ Ora.env v=some n):∃ k,E6 Ora.env v=.int k n:=by
 cases v with
 | complex k i t =>
   cases k with
   | f64 =>
     simp only[tJ]at h;split at h
     ·rename_i k z he;cases h;exact⟨k,he⟩
     ·cases h
   | f32=>cases h
 | int j n=>cases h;exact⟨j,rfl⟩
 | _=>cases h
def A0G{s n:Nat}{i v:Value}(h:A1f m a s n i=some (v,m'))(hi:VR ρ i i')(hS:Sat m'.lg):v=ixp a s i n∧∃ k z,i'=.int k (.ofNat z)∧z<n∧tJ Ora.env i=some (.ofNat z):=by
 unfold A1f at h;cases hq:!(Nat.blt (I1 i) 8)with
 | true=>rw[hq]at h;cases h
 | false =>
   have hi8:I1 i<8:=by
    have:Nat.blt (I1 i) 8=true:=by simpa using hq
    exact A2 this
   rw[hq]at h;simp only[E7]at h;split at h
   ·rename_i b H k W hh lg hl;split at h
    ·rename_i lg' hb;cases h;obtain⟨u,e1,e2,r,e3,e4,_⟩:=Q5 hl (U9.le hS (pZ hb));have hbt:=tF (ρ:=ρ) hb (e4 ρ) hS;subst hbt;obtain⟨k0,z,rfl,f1,_⟩:=S5 hi hi8;have f0:E6 Ora.env (.int .i64 (.ofNat n))=.int .i64 (.ofNat n):=rfl;simp only[F0,K7,f1,f0,evU]at e1;subst e1;have e3:(decide (0≤z) && decide (z<Int.ofNat n))=true:=by
      have:=A9 e3;exact Value.bool.inj this
     simp only[I3,decide_eq_true_eq]at e3;cases z with
     | negSucc z=>exact absurd e3.1 (by simp)
     | ofNat z=>exact⟨rfl,k0,z,rfl,by have:=e3.2;simpa using this,A0v f1⟩
    ·cases h
   ·cases h
def GB{t:TypeId}{x x' i v:Value}(h:gX P m t x i=some (v,m'))(hx:VR ρ x x')(hi:VR ρ i i')(hS:Sat m'.lg)(w:World):∃ r,(Instr.indexAt t x' i').run P w=.ok r w∧VR ρ v r:=by
 unfold gX at h;split at h
 ·rename_i n e a hu;split at h
  ·rename_i s hs hsp;obtain⟨rfl,k,z,rfl,hz,he⟩:=A0G h hi hS;obtain⟨l,hl,_,rfl⟩:=U7 hx;have hb:Nat.blt z n=true:=C9 hz;have hm:u5 P t (.pointer (some a)) (.int k (.ofNat z))=some (.pointer (some ⟨a.block,a.off+z*s,none⟩)):=by
    simp only[u5,hu,hs,hsp,hb,F3,dP,F8]
   obtain⟨v',g1,g2⟩:=eU (P:=P) hm hx (.pure rfl) w;obtain⟨l2,hl2,_,rfl⟩:=U7 g2;have hl2:ρ a.block=some l2:=hl2;rw[hl]at hl2;cases hl2;exact⟨_,g1,.ixp hl hsp he hz rfl⟩
  ·cases h
 ·rename_i e a n c hu;split at h
  ·rename_i s hs hsp;cases hc:Nat.beq c (R5+2)with
   | true=>rw[hc]at h;cases h
   | false =>
     rw[hc]at h;obtain⟨rfl,k,z,rfl,hz,he⟩:=A0G h hi hS;have hb:Nat.blt z n=true:=C9 hz;have hm:u5 P t (.slice (some a) n c) (.int k (.ofNat z))=some (.pointer (some ⟨a.block,a.off+z*s,none⟩)):=by
      simp only[u5,hu,hs,hsp,hb,F3,dP,F8]
     obtain⟨v',g1,g2⟩:=eU (P:=P) hm hx (.pure rfl) w;obtain⟨l2,hl2,_,rfl⟩:=U7 g2;have hl2:ρ a.block=some l2:=hl2;exact⟨_,g1,.ixp hl2 hsp he hz rfl⟩
  ·cases h
 ·cases h
def A0I{s n:Nat}{i v':Value}(h:VR ρ (ixp a s i n) v'):∃ l z,ρ a.block=some l∧a.spot=none∧tJ Ora.env i=some (.ofNat z)∧z<n∧v'=.pointer (some ⟨l.blk,a.off+z*s+l.sh,none⟩):=by
 generalize hx:ixp a s i n=x at h;cases h with
 | ixp h hs hi hz hv =>
   simp only[ixp,Value.func.injEq,aJ,H8,Value.pointer.injEq,D9,Value.int.injEq,nU,true_and,and_true]at hx;obtain⟨rfl,rfl,rfl,rfl⟩:=hx;exact⟨_,_,h,hs,hi,hz,hv⟩
 | pure hp=>subst hx;simp[ixp,K2]at hp
 | _=>simp[ixp,Go.Sx.dat,Go.Sx.clp,Go.Sx.own,Go.Sx.dpt,Go.Sx.opt,Go.Sx.yv,Go.Sx.sdt]at hx
def GE{x x' v:Value}(h:gY P m s x i=some (v,m'))(hx:VR ρ x x')(w:World):∃ r,(Instr.fieldAt s x' i).run P w=.ok r w∧VR ρ v r:=by
 unfold gY at h;split at h
 ·rename_i a k j n;split at h
  ·rename_i fs hu;split at h
   ·rename_i f hf hsp;split at h
    ·rename_i z hz;cases h;obtain⟨l,y,h1,h2,h3,h4,rfl⟩:=A0I (n:=n) (s:=k) (i:=j) hx;have hm:eV P s (.pointer (some ⟨a.block,a.off+y*k,none⟩)) i=some (.pointer (some ⟨a.block,a.off+y*k+f.offset,none⟩)):=by
      simp only[eV,hu,hf,hz,dP,F8]
     obtain⟨v',g1,g2⟩:=pN (P:=P) (ρ:=ρ) hm (.ptr h1) w;obtain⟨l2,hl2,_,rfl⟩:=U7 g2;have hl2:ρ a.block=some l2:=hl2;rw[h1]at hl2;cases hl2;refine⟨_,g1,?_⟩;simp only[dP,F8];refine .ixp (a:=⟨a.block,a.off+f.offset,none⟩) h1 rfl h3 h4 ?_;simp only[Value.pointer.injEq,D9,Addr.mk.injEq,true_and,and_true];omega
    ·cases h
   ·cases h
  ·cases h
 ·cases h
def yG{cs:D5}{s:Nat}:∀ {n o:Nat} {l:D5},AU cs s o n=some l→l.length=n∧∀ z,z<n→cs[o+z*s]? = l[z]?
 | 0,o,l,h=>by cases h;exact⟨rfl,fun z hz=>by omega⟩
 | n+1,o,l,h=>by
   unfold AU at h;split at h
   ·rename_i v r hv hr;cases h;obtain⟨h1,h2⟩:=yG hr;refine⟨by simp[h1],fun z hz=>?_⟩;cases z with
    | zero=>simpa using hv
    | succ z =>
      have:=h2 z A0;rw[Nat.succ_mul,show o+(z*s+s)=o+s+z*s by omega]
      simpa using this
   ·cases h
def yI{cs cs':D5}{s n:Nat}{i:Value}{z:Nat}(he:tJ Ora.env i=some (.ofNat z))(hz:z<n)(hl:LR ρ cs cs'):∀ {k o:Nat} {m m':Mem} {r:D5},eP m cs s n i o k=some (r,m')→Sat m'.lg →
  LR ρ r ((cs'.drop (o+z*s)).take k)∧r.length=k
 | 0,o,m,m',r,h,hS=>by cases h;exact⟨by simpa using LR.nil,rfl⟩
 | k+1,o,m,m',r,h,hS=>by
   unfold eP at h;split at h
   ·rename_i v l hstr;obtain⟨hq,h⟩:=A6 h;obtain⟨hq,h10⟩:=B8 hq;have h10:I1 v<10:=A2 h10;split at h
    ·rename_i hh m1 h1;split at h
     ·rename_i r2 m2 h2;cases h;obtain⟨ih1,ih2⟩:=yI he hz hl h2 hS;obtain⟨u,e1,e2,rr,e3,e4,_⟩:=Q5 h1 (U9.le hS (jM h2).1);obtain⟨g1,g2⟩:=yG hstr;have hget:=g2 z hz;have hzl:z<(v::l).length:=by rw[g1];exact hz
      rw[A7 hzl]at hget;obtain⟨c',f1,f2⟩:=hl.get hget;have htag:=mI hq (A7 hzl);obtain⟨t1,_⟩:=cN f2 A0;obtain⟨ki,ei⟩:=NY he;simp only[F0,ei,evU]at e1;have e1:u=E6 Ora.env (v::l)[z]:=by
       rw[← e1];show(List.map (E6 Ora.env) (v::l)).getD z .none=_;rw[B4,H9,A7 hzl];rfl
      rw[e1,t1]at e3;cases e3;refine⟨?_,by simp[ih2]⟩;have:(cs'.drop (o+z*s)).take (k+1)=rr::(cs'.drop (o+1+z*s)).take k:=by
       rw[aV (B3.1 f1).1,List.take_succ_cons,(B3.1 f1).2,show o+z*s+1=o+1+z*s by omega]
      rw[this];exact .cons (e4 ρ) ih1
     ·cases h
    ·cases h
   ·cases h
def ZU{t:TypeId}{l:Loc}{z s n k:Nat}{i:Value}{cs:D5}(h:HR P base ρ m.H w)(hr:cA m a ((n-1)*s+k)=some cs)(hl:ρ a.block=some l)(he:tJ Ora.env i=some (.ofNat z))(hz:z<n)(hc:eP m cs s n i 0 k=some (hs,m'))(hS:Sat m'.lg) :
  ∃ rs,LR ρ hs rs∧rs.length=k∧∀ (j:Nat) (v':Value),rs[j]? = some v'→w.cell? ⟨l.blk,a.off+z*s+l.sh+j,none⟩=some v':=by
 obtain⟨r',h1,h2,h3⟩:=aM h hr hl;obtain⟨g1,g2⟩:=yI he hz h1 hc hS;rw[F6]at g1;refine⟨_,g1,g1.1▸g2,fun j v' hj=>?_⟩;have hjk:j<k:=by
  have:=(B3.1 hj).1;simp at this;omega
 rw[G1 hjk,J2]at hj
 have:=h3 _ v' hj;rw[show a.off+z*s+l.sh+j=a.off+l.sh+(z*s+j) by omega];exact this
def UM{t:TypeId}{x x' v:Value}(h:HR P base ρ m.H w)(ho:uH P m t x=some (v,m'))(hx:VR ρ x x')(hS:Sat m'.lg):∃ r,(Instr.loadAt t x').run P w=.ok r w∧VR ρ v r:=by
 unfold uH at ho;split at ho
 ·rename_i a s i n;obtain⟨l,z,h1,h2,h3,h4,rfl⟩:=A0I (n:=n) (s:=s) (i:=i) hx;split at ho
  ·rename_i ha;split at ho
   ·rename_i cs hr;split at ho
    ·rename_i hh m2 hc;cases ho;obtain⟨rs,g1,g2,g3⟩:=ZU (t:=t) h hr h1 h3 h4 hc hS;obtain⟨v',r2,rfl,e1,e2⟩:=g1.tail;refine⟨v',?_,e1⟩
     have:=g3 0 v' rfl;simp[Instr.loadAt,Instr.sureAddr,loadVar,A8,eC ha,Result.andThen,run_load,show w.cell? ⟨l.blk,a.off+z*s+l.sh,none⟩=some v' from by simpa using this]
    ·cases ho
   ·cases ho
  ·rename_i zz ha hn;split at ho
   ·rename_i cs hr;split at ho
    ·rename_i hh m2 hc;cases ho;obtain⟨rs,g1,g2,g3⟩:=ZU (t:=t) h hr h1 h3 h4 hc hS;refine⟨.agg ⟨rs⟩,?_,.agg g1.1 g1.2⟩;simp[Instr.loadAt,Instr.sureAddr,loadVar,A8,eC ha,O8 hn,Result.andThen,N3 g2 g3]
    ·cases ho
   ·cases ho
  ·cases ho
 ·cases ho
def A6y{fr:Fr}{g:Operand→Value}{o:Oper}{v:Value}(h:HR P base ρ m.H w)(ho:A2V P fr m o.op=some (v,m'))(hg:FR ρ fr g o.op)(hS:Sat m'.lg):NOk P base ρ m w (execOp g o) v m':=by
 obtain⟨_,lg,rfl⟩:=XV ho;have hst:St P base ρ ρ m (m.wLg lg) w w:=St.wLg h lg;obtain⟨dst,op,ty,pos,af,gd⟩:=o;simp only at ho hg;have hx1:∀ {x},x ∈ op.operands.toList→VR ρ (ev fr x) (g x):=fun hx=>hg _ hx
 have fin:∀ {s:Sem Value},(∃ r,s.run P w=.ok r w∧VR ρ v r)→NOk P base ρ m w (do pure (.value (← s))) v (m.wLg lg):=fun{s} ⟨r,h1,h2⟩=>NOk.of ⟨r,ρ,w,h1,h2,hst⟩
 unfold A2V at ho;split at ho
 ·rename_i c a b;have hc:=hx1 (x:=c) (by simp[Op.operands]);unfold AT at ho;obtain⟨H,n,W,hi,l0⟩:=m;simp only at ho;split at ho
  ·rename_i l1 hb;simp only[D9,R6]at ho;obtain⟨rfl,ho⟩:=ho;have hS1:Sat l1:=by
    have:l1=(Mem.wLg ⟨H,n,W,hi,l0⟩ lg).lg:=by rw[← ho]
    rw[this];exact hS
   have:=tF hb hc hS1;exact⟨g a,ρ,w,.inl (by simp[execOp,this,asBool]),hx1 (by simp[Op.operands]),hst⟩
  ·rename_i l1 hb;simp only[D9,R6]at ho;obtain⟨rfl,ho⟩:=ho;have hS1:Sat l1:=by
    have:l1=(Mem.wLg ⟨H,n,W,hi,l0⟩ lg).lg:=by rw[← ho]
    rw[this];exact hS
   have:=tF hb hc hS1;exact⟨g b,ρ,w,.inl (by simp[execOp,this,asBool]),hx1 (by simp[Op.operands]),hst⟩
  ·cases ho
 ·rename_i op t x y yt;have hx:=hx1 (x:=x) (by simp[Op.operands]);have hy:=hx1 (x:=y) (by simp[Op.operands]);refine fin (s:=do eqGuard op t x y (g x) (g y);binOp op t (g x) (g y)) ?_;split at ho
  ·rename_i r hr;cases ho;exact A04 hr hx hy hS w
  ·rename_i hr;exact A2W ho hx hy hr hS w
 ·rename_i op t x;exact fin (s:=Op.unary op (g x)) (A2T ho (hx1 (by simp[Op.operands])) hS w)
 ·exact fin (UO ho (hx1 (by simp[Op.operands])) hS w)
 ·rename_i t x lo hi mx;exact fin (s:=Instr.sliceAt t (g x) (lo.map g) (hi.map g) (mx.map g)) (OZ ho (hx1 (x:=x) (by simp[Op.operands])) (mX (g:=g) fun y hy=>hx1 (by simp[Op.operands]at hy ⊢;exact .inr (.inl hy))) (mX (g:=g) fun y hy=>hx1 (by simp[Op.operands]at hy ⊢;exact .inr (.inr (.inl hy)))) (mX (g:=g) fun y hy=>hx1 (by simp[Op.operands]at hy ⊢;exact .inr (.inr (.inr hy)))) hS w)
 ·exact fin (PC ho (hx1 (by simp[Op.operands])) (hx1 (by simp[Op.operands])) hS w)
 ·exact fin (GB ho (hx1 (by simp[Op.operands])) (hx1 (by simp[Op.operands])) hS w)
 ·exact fin (GE ho (hx1 (by simp[Op.operands])) w)
 ·rename_i t x;exact fin (s:=Instr.loadAt t (g x)) (UM h ho (hx1 (by simp[Op.operands])) hS)
 ·rename_i b xs tys;have l1:=fJ (ρ:=ρ) (fr:=fr) (g:=g) (xs:=xs.toList) fun x hx=>hx1 (by show x ∈ (#[]++xs:Array Operand).toList;simpa using hx)
  obtain⟨ks,e2⟩:∃ ks,execOp g ⟨dst,.call ⟨.builtin b,xs,tys⟩,ty,pos,af,gd⟩=builtin b tys ty ks (xs.map g):=⟨_,rfl⟩;obtain⟨s,e,hs⟩:=GG (ty:=ty) (ks:=ks) h ho l1 hS;have e1:xs.map g=⟨xs.toList.map g⟩:=by apply L1;simp
  rw[e2,e1];have e3:tys=⟨tys.toList⟩:=rfl;rw[e3,e];exact fin hs
 ·cases ho
end
end
section
open Go
variable [Ora]
section
variable {P:Program} {base:Nat} {ρ ρ':Ren} {m m':Mem} {w w':World}
def M4.step(hf:M4 ρ m.n hi)(st:St P base ρ ρ' m m1 w w'):M4 ρ' m1.n hi:=fun b h1 h2=>by
 cases hb:ρ' b with
 | none=>rfl
 | some l =>
   cases h0:ρ b with
   | some l0=>rw[hf b (B7 st.nle h1) h2]at h0;cases h0
   | none=>have:=(st.new b l hb h0).2;omega
def M4.less{n hi':Nat}(hf:M4 ρ n hi)(h:hi'≤hi):M4 ρ n hi':=fun b h1 h2=>hf b h1 (E3 h2 h)
def iZ(m:Mem)(t:Nat)(op:LOp)(xs:List Value):Lg:=⟨m.lg.nx+1,m.lg.pi,.dt m.lg.nx t op xs::m.lg.log⟩
def S6{t:Nat}{k:Nat→Mem→Res}:AD m t op xs k=k m.lg.nx (m.wLg (iZ m t op xs)):=by
 obtain⟨H,n,W,hi,⟨nx,pi,log⟩⟩:=m;simp only[AD,F8,I9];rfl
def RN{t:Nat}{k:Nat→Mem→Option (D5×Mem)}:u6.letDo t op xs m k=k m.lg.nx (m.wLg (iZ m t op xs)):=by
 obtain⟨H,n,W,hi,⟨nx,pi,log⟩⟩:=m;simp only[u6.letDo,F8,I9];rfl
@[simp] theorem u9(lg:Lg):(m.wLg lg).lg=lg:=by cases m;rfl
@[simp] theorem oE(lg:Lg):(m.wLg lg).H=m.H:=by cases m;rfl
@[simp] theorem A13(lg:Lg):(m.wLg lg).n=m.n:=by cases m;rfl
@[simp] theorem KK(lg:Lg):(m.wLg lg).hi=m.hi:=by cases m;rfl
@[simp] theorem C0Z(lg:Lg):(m.wLg lg).W=m.W:=by cases m;rfl
def m6{t:Nat} :m.lg.le (m.wLg (iZ m t op xs)).lg:=by
 rw[u9];exact⟨[_],rfl⟩
def nS{t:Nat}{lg:Lg}(hS:Sat lg)(hl:(m.wLg (iZ m t op xs)).lg.le lg):Ora.env m.lg.nx=evU op (xs.map (E6 Ora.env))∧H1 (Ora.env m.lg.nx)=t∧∃ nul wd rows,Ora.env m.lg.nx=.seq nul wd rows∧t=10+wd:=by
 obtain⟨h1,h2,nul,wd,rows,h3⟩:=hS _ (hl.subset (by rw[u9];exact C5));exact⟨h1,h2,nul,wd,rows,h3,by rw[← h2,h3];rfl⟩
def eH{b:Nat}(h:pL m b=true):Hp.get m.H b=some .frz:=by
 unfold pL at h;split at h
 ·assumption
 ·cases h
def A0L{b:Nat}(h:pL m b=true):b≤I7:=by
 unfold pL at h;split at h
 ·exact A2 h
 ·cases h
def A5M{b:Nat}(hr:HR P base ρ m.H w)(h:pL m b=true):∃ l,ρ b=some l:=by
 obtain⟨l,h1,_⟩:=hr.at_ b (A0L h) _ (eH h);exact⟨l,h1⟩
def U0{k:Nat→Mem→Option (Value×Nat×Mem)}{r:Value×Nat×Mem}(h:iE m k=some r):∃ m1,x8 m .frz (fun _=>undef)=some (undef,m1)∧k m.n m1=some r∧m1.H=m.H.set m.n (some .frz)∧m.n≤I7∧m1.lg=m.lg:=by
 obtain⟨H,n,W,hi,lg⟩:=m;simp only[iE,F8,iA]at h;obtain⟨h1,h2⟩:=A6 h;refine⟨_,?_,h2,rfl,A2 h1,rfl⟩;simp only[x8,F8,iA,h1,F3]
def fE(G:Nat→Option Obj):Loc:=⟨0,0,0,0,G,false⟩
def St.region{G:Nat→Option Obj}(h:HR P base ρ m.H w)(hn:x8 m .frz (fun _=>undef)=some (undef,m1))(hf:M4 ρ m.n m1.hi)
  (hG:∀ k o,G k=some o→w.heap[k]? = some o∧∃ id ab l,id≤I7∧Hp.get m.H id=some ab∧ρ id=some l∧Tf ab l k∧ab.rw=false) :
  upd ρ m.n (fE G) m.n=some (fE G)∧Hp.get m1.H m.n=some .frz∧St P base ρ (upd ρ m.n (fE G)) m m1 w w:=by
 obtain⟨h1,h2,h3⟩:=St.new0 (l':=fE G) h hn hf ⟨rfl,fun k o hk=>(hG k o hk).1⟩ rfl fun q hq=>by
  rcases hq with⟨hq,_⟩|⟨_,o,hq⟩
  ·cases hq
  ·obtain⟨g1,id,ab,l,g2,g3,g4,g5,g6⟩:=hG q o hq;refine⟨⟨id,ab,l,g2,g3,g4,g5⟩,fun id2 hid2 a l2 ha hl hr ho e=>?_⟩
   have:=((h.atl hl ha).2 hr ho).2 id g2 ab l g3 g4 (e▸g5.2);subst this;rw[g3]at ha;have ha:=A9 ha;subst ha;rw[g6]at hr;cases hr
 refine⟨h2,?_,h3⟩;obtain⟨hle,_,rfl⟩:=M7 hn;show Hp.get (m.H.set m.n (some .frz)) m.n=_;rw[F2 _ _ _ _ hle hle,A4 rfl]
theorem rK{b i t:Nat}{v':Value}(h:VR ρ (dat b i t) v'):∃ l,ρ b=some l∧Enc l.G (Ora.env i) v'∧H1 (Ora.env i)=t∧10≤t:=by
 generalize hx:dat b i t=x at h;cases h with
 | dat h he ht h10 hf =>
   simp only[dat,Value.func.injEq,aJ,H8,Value.pointer.injEq,D9,Addr.mk.injEq,Value.complex.injEq,true_and,and_true]at hx;obtain⟨rfl,rfl,rfl⟩:=hx;exact⟨_,h,he,ht,h10⟩
 | pure hp=>subst hx;simp[dat,K2]at hp
 | _=>simp[ixp,Go.Sx.dat,Go.Sx.clp,Go.Sx.own,Go.Sx.dpt,Go.Sx.opt,Go.Sx.yv,Go.Sx.sdt]at hx
theorem jR{b i t:Nat}{v':Value}(h:VR ρ (clp b i t) v'):∃ l,ρ b=some l∧Enc l.G (Ora.env i) v'∧H1 (Ora.env i)=t∧10≤t∧A55 v':=by
 generalize hx:clp b i t=x at h;cases h with
 | clp h he ht h10 hf hc =>
   simp only[clp,Value.func.injEq,aJ,H8,Value.pointer.injEq,D9,Addr.mk.injEq,Value.complex.injEq,true_and,and_true]at hx;obtain⟨rfl,rfl,rfl⟩:=hx;exact⟨_,h,he,ht,h10,hc⟩
 | pure hp=>subst hx;simp[clp,K2]at hp
 | _=>simp[ixp,Go.Sx.dat,Go.Sx.clp,Go.Sx.own,Go.Sx.dpt,Go.Sx.opt,Go.Sx.yv,Go.Sx.sdt]at hx
theorem gA{b i t:Nat}{v':Value}(h:VR ρ (own b i t) v'):A1T ρ b (Ora.env i) v'∧H1 (Ora.env i)=t:=by
 generalize hx:own b i t=x at h;cases h with
 | own h ht hf =>
   simp only[own,Value.func.injEq,aJ,H8,Value.pointer.injEq,D9,Addr.mk.injEq,Value.complex.injEq,true_and,and_true]at hx;obtain⟨rfl,rfl,rfl⟩:=hx;exact⟨h,ht⟩
 | pure hp=>subst hx;simp[own,K2]at hp
 | _=>simp[ixp,Go.Sx.dat,Go.Sx.clp,Go.Sx.own,Go.Sx.dpt,Go.Sx.opt,Go.Sx.yv,Go.Sx.sdt]at hx
def MP{b t:Nat}{v':Value}(h:VR ρ (dpt b i t z o) v'):B7d ρ b (Ora.env i) (tJ Ora.env z) o v'∧H1 (Ora.env i)=t:=by
 generalize hx:dpt b i t z o=x at h;cases h with
 | dpt h ht hf =>
   simp only[dpt,Value.func.injEq,aJ,H8,Value.pointer.injEq,D9,Addr.mk.injEq,Value.complex.injEq,Value.int.injEq,nU,true_and,and_true]at hx;obtain⟨rfl,⟨rfl,rfl⟩,rfl,rfl⟩:=hx;exact⟨h,ht⟩
 | pure hp=>subst hx;simp[dpt,K2]at hp
 | _=>simp[ixp,Go.Sx.dat,Go.Sx.clp,Go.Sx.own,Go.Sx.dpt,Go.Sx.opt,Go.Sx.yv,Go.Sx.sdt]at hx
def BE{b t:Nat}{v':Value}(h:VR ρ (opt b i t z o) v'):B6G ρ b (Ora.env i) (tJ Ora.env z) o v'∧H1 (Ora.env i)=t:=by
 generalize hx:opt b i t z o=x at h;cases h with
 | opt h ht hf =>
   simp only[opt,Value.func.injEq,aJ,H8,Value.pointer.injEq,D9,Addr.mk.injEq,Value.complex.injEq,Value.int.injEq,nU,true_and,and_true]at hx;obtain⟨rfl,⟨rfl,rfl⟩,rfl,rfl⟩:=hx;exact⟨h,ht⟩
 | pure hp=>subst hx;simp[opt,K2]at hp
 | _=>simp[ixp,Go.Sx.dat,Go.Sx.clp,Go.Sx.own,Go.Sx.dpt,Go.Sx.opt,Go.Sx.yv,Go.Sx.sdt]at hx
def IZ{b c tc g t:Nat}{T:TypeId}{v':Value}(h:HR P base ρ m.H w)(hg:Hp.get m.H b=some (.sq c tc T g true))(hv:VR ρ (own b i t) v')(htc:tc=t)(hgf:Hp.get m.H g=some .frz)
  (hn:x8 m .frz (fun _=>undef)=some (undef,m1)) (hf:M4 ρ m.n m1.hi):∃ l,St P base ρ (upd ρ m.n l) m m1 w w∧upd ρ m.n l m.n=some l∧Hp.get m1.H m.n=some .frz∧Enc l.G (Ora.env c) v'∧H1 (Ora.env c)=t:=by
 obtain⟨hown,htag⟩:=gA hv;rcases hown with⟨l,wd,h1,h2,h3,rfl⟩|⟨l,wd,rows,h1,h2,h3,h4,h40,rfl⟩
 ·obtain⟨hbr,_⟩:=h.atl h1 hg;obtain⟨wd2,inf,e1,e2,e3,e4⟩:=SqR.ex hbr;rcases e4 with⟨_,e4⟩|⟨e4,_⟩
  ·obtain⟨g1,g2,g3⟩:=St.region (G:=fun _=>none) h hn hf (fun k o hk=>by cases hk);exact⟨_,g3,g1,g2,by rw[e4];exact .nil,by rw[e4,← htc,e1];rfl⟩
  ·rw[h2]at e4;cases e4
 ·obtain⟨hbr,_⟩:=h.atl h1 hg;obtain⟨wd2,inf,e1,e2,e3,e4⟩:=SqR.ex hbr;rcases e4 with⟨e4,_⟩|⟨_,e4⟩
  ·rw[h2]at e4;cases e4
  ·obtain⟨C,fz,T',rows2,lg,f1,f2,f3,f4,f5,f6,f7,f8,f9⟩:=e4;obtain⟨hbg,_⟩:=h.atl f7 hgf;have hcomp:∀ k o,lg.G k=some o→w.heap[k]? = some o:=hbg.2;let G:Nat→Option Obj:=fun k=>if k=l.blk then some (.cells C T' fz)else lg.G k
   have hsub:∀ k o,lg.G k=some o→G k=some o:=fun k o hk=>by
    show(if k=l.blk then _ else _)=_;by_cases e:k=l.blk
    ·subst e;rw[A4 rfl]
     have:=hcomp _ _ hk;rw[f1]at this;exact this
    ·rw[A3 e];exact hk
   obtain⟨g1,g2,g3⟩:=St.region (G:=G) h hn hf fun k o hk=>by
    have hk:(if k=l.blk then some (.cells C T' fz)else lg.G k)=some o:=hk;by_cases e:k=l.blk
    ·subst e;rw[A4 rfl]at hk;exact⟨by rw[f1];exact hk,b,_,l,h.dom _ _ h1,hg,h1,⟨rfl,.inl ⟨rfl,h2,rfl⟩⟩,rfl⟩
    ·rw[A3 e]at hk;exact⟨hcomp _ _ hk,g,_,lg,h.dom _ _ f7,hgf,f7,⟨rfl,.inr ⟨rfl,o,hk⟩⟩,rfl⟩
   refine⟨_,g3,g1,g2,?_,by rw[f2,← htc,e1];rfl⟩;rw[f2,← f3];refine .sl (G:=G) (C:=C) (T:=T') (fz:=fz) A0 (fun _=>?_) (fun _=>?_) f6 fun r row j u v q1 q2 q3=>(f8 r row j u v q1 q2 q3).mono hsub
   ·show(if l.blk=l.blk then _ else _)=_;rw[A4 rfl]
   ·have:=G7 wd2 f4;rw[← f3]at this;omega
def BR.thaw{c t g:Nat}{T:TypeId}{l:Loc}(h:BR P ρ (.sq c t T g false) l w):BR P ρ (.sq c t T g true) l w:=by
 obtain⟨wd,inf,h1,h2,h3,h4⟩:=SqR.ex h;refine⟨⟨wd,inf,h1,h2,h3,h4.imp (fun x=>x) fun⟨hon,h5⟩=>⟨hon,?_⟩⟩⟩;obtain⟨C,fz,T',rows,lg,h1,h2,h3,h4,h5,h6,h7,h8,h9⟩:=h5;exact⟨C,fz,T',rows,lg,h1,h2,h3,h4,h5,h6,h7,h8,fun h=>by cases h⟩
def CM{id:Nat}{ab:AB}(h:hH m id ab=some m')(hj:j≤I7):Hp.get m'.H j=if j=id then some ab else Hp.get m.H j:=by
 obtain⟨hle,rfl⟩:=Z8 h;exact F2 _ _ _ _ hle hj
def oY{ab:AB}{k:Nat→Value}{v:Value}(h:x8 m ab k=some (v,m'))(hj:j≤I7):Hp.get m'.H j=if j=m.n then some ab else Hp.get m.H j:=by
 obtain⟨hle,_,rfl⟩:=M7 h;exact F2 _ _ _ _ hle hj
def KN{t:Nat}{v v' x:Value}{b:Nat}(h:HR P base ρ m.H w)(ho:toD t v m=some (x,b,m'))(hf:M4 ρ m.n m'.hi)(hv:VR ρ v v')(hS:Sat m'.lg) :
  ∃ ρ' l,St P base ρ ρ' m m' w w∧ρ' b=some l∧Hp.get m'.H b=some .frz∧Enc l.G (E6 Ora.env x) v'∧H1 (E6 Ora.env x)=t∧m.lg.le m'.lg:=by
 unfold toD at ho;split at ho
 ·rename_i b0 i tg;obtain⟨h1,h2⟩:=A6 ho;cases h2;obtain⟨h1,h2⟩:=B8 h1;have h1:=A1 h1;obtain⟨l,e1,e2,e3,e4⟩:=rK hv;exact⟨ρ,l,St.refl h,e1,eH h2,e2,e3.trans h1,.refl _⟩
 ·rename_i b0 i tg;obtain⟨h1,h2⟩:=A6 ho;cases h2;obtain⟨h1,h2⟩:=B8 h1;have h1:=A1 h1;obtain⟨l,e1,e2,e3,e4,_⟩:=jR hv;exact⟨ρ,l,St.refl h,e1,eH h2,e2,e3.trans h1,.refl _⟩
 ·rename_i b0 i tg;split at ho
  ·rename_i c tc T g hg;obtain⟨h1,h2⟩:=A6 ho;obtain⟨h1,h3⟩:=B8 h1;obtain⟨h1,h4⟩:=B8 h1;have h1:=A1 h1;have h4:=A1 h4;obtain⟨m1,q1,q2,_,_,q5⟩:=U0 h2;cases q2;subst h1;obtain⟨l,e1,e2,e3,e4,e5⟩:=IZ h hg hv h4 (eH h3) q1 hf;exact⟨_,l,e1,e2,e3,e4,e5,by rw[q5];exact .refl _⟩
  ·rename_i c tc T g hg;obtain⟨h1,h2⟩:=A6 ho;obtain⟨h1,h3⟩:=B8 h1;have hgm:=A0L h3;obtain⟨h1,h4⟩:=B8 h1;have h1:=A1 h1;have h4:=A1 h4;split at h2
   ·rename_i m1 hs;obtain⟨m2,q1,q2,_,_,q5⟩:=U0 h2;cases q2;subst h1;have hbl:∃ l0,ρ b0=some l0:=by
     rcases(gA hv).1 with⟨l,_,h1,_⟩|⟨l,_,_,h1,_⟩<;>exact⟨l,h1⟩
    obtain⟨l0,hl0⟩:=hbl;have hgl:=(h.atl hl0 hg).1;have hst:=St.same0 h hs hg rfl hl0 hgl.thaw (fun q hq=>by
     rcases hq with⟨_,a,b⟩|⟨a,_⟩
     ·exact .inl ⟨rfl,a,b⟩
     ·cases a)
    have hle:=(Z8 hs).1;have hne:g≠b0:=fun e=>by subst e;rw[eH h3]at hg;cases hg
    have hg1:Hp.get m1.H b0=some (.sq c tc T g true):=by rw[CM hs hle,A4 rfl]
    have hfz1:Hp.get m1.H g=some .frz:=by rw[CM hs hgm,A3 hne];exact eH h3
    have hn1:m1.n=m.n:=by rw[(Z8 hs).2]
    obtain⟨l,e1,e2,e3,e4,e5⟩:=IZ hst.hr hg1 hv h4 hfz1 q1 (by rw[hn1];exact hf);refine⟨_,l,St.trans hf hst e1,e2,e3,e4,e5,by rw[q5,(Z8 hs).2];exact .refl _⟩
   ·cases h2
  ·cases ho
 ·obtain⟨h10,ho⟩:=A6 ho;have h10:=A2 h10;rw[S6]at ho;simp only at ho;obtain⟨m1,q1,q2,_,_,q5⟩:=U0 ho;cases q2;cases V1 hv;have hlog:(m.wLg (iZ m t (.nilw (t-10)) [])).lg.le m'.lg:=by rw[q5];exact .refl _
  obtain⟨e1,e2,_⟩:=nS hS hlog;have hst:=St.wLg h (iZ m t (.nilw (t-10)) []);obtain⟨g1,g2,g3⟩:=St.region (G:=fun _=>none) hst.hr q1 (by simpa using hf) (fun k o hk=>by cases hk);refine⟨_,_,St.trans (by simpa using hf) hst g3,g1,g2,?_,e2,m6.trans hlog⟩;show Enc _ (Ora.env m.lg.nx) _;rw[e1];exact .nil
 ·cases ho
end
end
section
open Go
variable [Ora]
section
variable {P:Program} {base:Nat} {ρ ρ':Ren} {m m':Mem} {w w':World}
def bG(ρ:Ren)(m m':Mem):Prop:=∀ j l,ρ j=some l→Hp.get m.H j=some .frz→Hp.get m'.H j=some .frz
def bG.refl:bG ρ m m:=fun _ _ _ h=>h
def bG.trans(he:∀ b l,ρ b=some l→ρ' b=some l)(a:bG ρ m m1)(c:bG ρ' m1 m'):bG ρ m m':=fun j l h1 h2=>c j l (he j l h1) (a j l h1 h2)
def bG.lg(lg:Lg):bG ρ m (m.wLg lg):=fun j l _ h=>by rw[oE];exact h
def RR{ab:AB}{k:Nat→Value}{v:Value}(h:HR P base ρ m.H w)(hn:x8 m ab k=some (v,m'))(hf:M4 ρ m.n m'.hi):bG ρ m m':=fun j l h1 h2=>by
 rw[oY hn (h.dom j l h1),A3]
 ·exact h2
 ·intro e;subst e;obtain⟨_,_,rfl⟩:=M7 hn;rw[hf m.n (B0 _) (L6 _ _).2]at h1;cases h1
def A4t{ab:AB}{id:Nat}(h:HR P base ρ m.H w)(hs:hH m id ab=some m')(hne:Hp.get m.H id≠some .frz):bG ρ m m':=fun j l h1 h2=>by
 rw[CM hs (h.dom j l h1),A3]
 ·exact h2
 ·intro e;subst e;exact hne h2
def OW{t:Nat}{v x:Value}{b:Nat}(h:HR P base ρ m.H w)(ho:toD t v m=some (x,b,m'))(hf:M4 ρ m.n m'.hi):bG ρ m m':=by
 unfold toD at ho;split at ho
 ·obtain⟨h1,h2⟩:=A6 ho;cases h2;exact .refl
 ·obtain⟨h1,h2⟩:=A6 ho;cases h2;exact .refl
 ·split at ho
  ·obtain⟨h1,h2⟩:=A6 ho;obtain⟨m1,q1,q2,_⟩:=U0 h2;cases q2;exact RR h q1 hf
  ·rename_i c tc T g hg;obtain⟨h1,h2⟩:=A6 ho;split at h2
   ·rename_i m1 hs;obtain⟨m2,q1,q2,_⟩:=U0 h2;cases q2;have hk:=A4t h hs (by rw[hg];intro h;cases h);intro j l e1 e2;have e3:=hk j l e1 e2;rw[oY q1 (h.dom j l e1),A3]
    ·exact e3
    ·intro e;subst e;have hn1:m1.n=m.n:=by rw[(Z8 hs).2]
     obtain⟨_,_,rfl⟩:=M7 q1;rw[hf m1.n A0 (L6 _ _).2]at e1;cases e1
   ·cases h2
  ·cases ho
 ·obtain⟨h10,ho⟩:=A6 ho;rw[S6]at ho;simp only at ho;obtain⟨m1,q1,q2,_⟩:=U0 ho;cases q2;intro j l e1 e2;rw[oY q1 (h.dom j l e1),A3,oE]
  ·exact e2
  ·intro e;subst e;have hn1:(m.wLg (iZ m t (.nilw (t-10)) [])).n=m.n:=by simp
   obtain⟨_,_,rfl⟩:=M7 q1;rw[hf _ A0 (L6 _ _).2]at e1;cases e1
 ·cases ho
def y0(R:Nat→Option Obj)(us:List U)(vs:List Value):Prop:=us.length=vs.length∧∀ (i:Nat) (u:U) (v:Value),us[i]? = some u→vs[i]? = some v→Enc R u v
omit [Ora] in
def y0.nil{R:Nat→Option Obj}:y0 R [] []:=⟨rfl,fun i u v h=>by simp at h⟩
omit [Ora] in
def y0.cons{R:Nat→Option Obj}{v:Value}(h:Enc R u v)(k:y0 R us vs):y0 R (u::us) (v::vs):=⟨by simp[k.1],fun i a b h1 h2=>by
 cases i with
 | zero=>simp at h1 h2;subst h1;subst h2;exact h
 | succ i=>exact k.2 i a b (by simpa using h1) (by simpa using h2)⟩
def Sub(G R:Nat→Option Obj):Prop:=∀ k o,G k=some o→R k=some o
def kT{t:Nat}{v x:Value}{b:Nat}{m m':Mem}(ho:toD t v m=some (x,b,m')):m.hi≤m'.hi∧m.lg.le m'.lg∧m.n≤m'.n:=by
 have hfz:∀ {m m1:Mem},x8 m .frz (fun _=>undef)=some (undef,m1)→m.hi≤m1.hi∧m.lg.le m1.lg∧m.n≤m1.n:=fun hn=>by
  obtain⟨_,_,rfl⟩:=M7 hn;exact⟨(L6 _ _).1,.refl _,q8 _⟩
 unfold toD at ho;split at ho
 ·obtain⟨h1,h2⟩:=A6 ho;cases h2;exact⟨B0 _,.refl _,B0 _⟩
 ·obtain⟨h1,h2⟩:=A6 ho;cases h2;exact⟨B0 _,.refl _,B0 _⟩
 ·split at ho
  ·obtain⟨h1,h2⟩:=A6 ho;obtain⟨m1,q1,q2,_⟩:=U0 h2;cases q2;exact hfz q1
  ·obtain⟨h1,h2⟩:=A6 ho;split at h2
   ·rename_i m1 hs;obtain⟨m2,q1,q2,_⟩:=U0 h2;cases q2
    have:=hfz q1;obtain⟨_,rfl⟩:=Z8 hs;exact this
   ·cases h2
  ·cases ho
 ·obtain⟨h10,ho⟩:=A6 ho;rw[S6]at ho;simp only at ho;obtain⟨m1,q1,q2,_⟩:=U0 ho;cases q2
  have:=hfz q1;exact⟨by simpa using this.1,m6.trans this.2.1,by simpa using this.2.2⟩
 ·cases ho
structure FQ (P:Program) (td:Td):Prop where
 ok:∀ {base:Nat} {ρ:Ren} {m m':Mem} {w:World} {t:Nat} {v v' x:Value} {b:Nat},HR P base ρ m.H w→td t v m=some (x,b,m')→M4 ρ m.n m'.hi→VR ρ v v'→Sat m'.lg →
  ∃ ρ' l,St P base ρ ρ' m m' w w∧ρ' b=some l∧Hp.get m'.H b=some .frz∧Enc l.G (E6 Ora.env x) v'∧H1 (E6 Ora.env x)=t∧m.lg.le m'.lg∧bG ρ m m'
 mono:∀ {m m':Mem} {t:Nat} {v x:Value} {b:Nat},td t v m=some (x,b,m')→m.hi≤m'.hi∧m.lg.le m'.lg∧m.n≤m'.n
def A2N:FQ P toD:=⟨fun h ho hf hv hS=>let ⟨ρ',l,a1,a2,a3,a4,a5,a6⟩:=KN h ho hf hv hS;⟨ρ',l,a1,a2,a3,a4,a5,a6,OW h ho hf⟩,fun h=>kT h⟩
def S0{td:Td}(htd:FQ P td):∀ {ts:I6} {vs xs:D5} {gs:I6} {m m':Mem},FZ td ts vs m=some (xs,gs,m')→m.hi≤m'.hi∧m.lg.le m'.lg∧m.n≤m'.n
 | [],[],_,_,_,_,h=>by cases h;exact⟨B0 _,.refl _,B0 _⟩
 | t::ts,v::vs,xs,gs,m,m',ho=>by
   unfold FZ at ho;cases ht:Nat.blt t 10 with
   | true =>
     rw[ht]at ho;simp only[F3]at ho;obtain⟨h1,ho⟩:=A6 ho;split at ho
     ·rename_i hr;cases ho;exact S0 htd hr
     ·cases ho
   | false =>
     rw[ht]at ho;simp only[E7]at ho;split at ho
     ·rename_i hd;split at ho
      ·rename_i hr;cases ho;have a:=htd.mono hd;have b:=S0 htd hr;exact⟨B7 a.1 b.1,a.2.1.trans b.2.1,B7 a.2.2 b.2.2⟩
      ·cases ho
     ·cases ho
 | [],_::_,_,_,_,_,ho=>by cases ho
 | _::_,[],_,_,_,_,ho=>by cases ho
def mB{td:Td}(htd:FQ P td):∀ {ts:I6} {vs vs' xs:D5} {gs:I6} {m m':Mem} {ρ:Ren},HR P base ρ m.H w→FZ td ts vs m=some (xs,gs,m')→M4 ρ m.n m'.hi→LR ρ vs vs'→Sat m'.lg →
  ∃ ρ',St P base ρ ρ' m m' w w∧m.lg.le m'.lg∧bG ρ m m'∧(∀ b ∈ gs,Hp.get m'.H b=some .frz∧∃ l,ρ' b=some l)∧(xs.map (E6 Ora.env)).map H1=ts ∧
   ∀ R,(∀ b ∈ gs,∀ l,ρ' b=some l→Sub l.G R)→y0 R (xs.map (E6 Ora.env)) vs'
 | [],[],vs',xs,gs,m,m',ρ,h,ho,hf,hv,hS=>by
   cases ho;exact⟨ρ,St.refl h,.refl _,.refl,fun b hb=>(by cases hb),rfl,fun R _=>by rw[hv.nil_inv];exact .nil⟩
 | t::ts,v::vs,vs',xs,gs,m,m',ρ,h,ho,hf,hv,hS=>by
   obtain⟨v',r',rfl,hv1,hv2⟩:=hv.tail;unfold FZ at ho;cases ht:Nat.blt t 10 with
   | true =>
     rw[ht]at ho;simp only[F3]at ho;obtain⟨h1,ho⟩:=A6 ho;have h1:=A1 h1;have h10:t<10:=A2 ht;split at ho
     ·rename_i r gs2 m2 hr;cases ho;obtain⟨ρ2,e1,e2,e3,e4,e5,e6⟩:=mB htd h hr hf hv2 hS;obtain⟨f1,f2⟩:=cN hv1 A0;exact⟨ρ2,e1,e2,e3,e4,by simp[f2,h1,e5],fun R hR=>.cons (.sc f1) (e6 R hR)⟩
     ·cases ho
   | false =>
     rw[ht]at ho;simp only[E7]at ho;split at ho
     ·rename_i hh b m1 hd;split at ho
      ·rename_i r gs2 m2 hr;cases ho;have hmono:m1.hi≤m'.hi∧m1.lg.le m'.lg∧m1.n≤m'.n:=S0 htd hr;have hf1:M4 ρ m.n m1.hi:=hf.less hmono.1;obtain⟨ρ1,l,a1,a2,a3,a4,a5,a6,a7⟩:=htd.ok h hd hf1 hv1 (hS.le hmono.2.1);have hf2:M4 ρ1 m1.n m'.hi:=hf.step a1;obtain⟨ρ2,e1,e2,e3,e4,e5,e6⟩:=mB htd a1.hr hr hf2 (hv2.mono a1.ext) hS;refine⟨ρ2,St.trans hf a1 e1,a6.trans e2,a7.trans a1.ext e3,fun b' hb'=>?_,by simp[a5,e5],fun R hR=>.cons (a4.mono (hR b (.head _) l (e1.ext _ _ a2))) (e6 R fun b' hb'=>hR b' (.tail _ hb'))⟩;rcases B6.1 hb' with rfl|hb'
       ·exact⟨e3 _ l a2 a3,l,e1.ext _ _ a2⟩
       ·exact e4 b' hb'
      ·cases ho
     ·cases ho
 | [],_::_,_,_,_,_,_,_,_,ho,_,_,_=>by cases ho
 | _::_,[],_,_,_,_,_,_,_,ho,_,_,_=>by cases ho
def iK{gs:I6}{g:Nat}(h:HR P base ρ m.H w)(ho:nP gs m=some (g,m'))(hf:M4 ρ m.n m'.hi) :
  ∃ ρ' lg,St P base ρ ρ' m m' w w∧m'.lg=m.lg∧bG ρ m m'∧ρ' g=some lg∧Hp.get m'.H g=some .frz∧∀ b ∈ gs,∀ l,ρ b=some l→Sub l.G lg.G:=by
 have main:∀ {gs:I6},(bif gs.all (pL m)then match iE m fun b m=>some (undef,b,m)with
  | some (_,b,m)=>some (b,m)
  | none=>none else none)=some (g,m')→∃ ρ' lg,St P base ρ ρ' m m' w w∧m'.lg=m.lg∧bG ρ m m'∧ρ' g=some lg∧Hp.get m'.H g=some .frz∧∀ b ∈ gs,∀ l,ρ b=some l→Sub l.G lg.G:=fun{gs} ho=>by
  obtain⟨h1,ho⟩:=A6 ho;split at ho
  ·rename_i r b m1 hn;cases ho;obtain⟨m2,q1,q2,_,_,q5⟩:=U0 hn;cases q2;have hall:∀ b ∈ gs,Hp.get m.H b=some .frz:=fun b hb=>eH (D7.1 h1 b hb)
   classical
   let G:Nat→Option Obj:=fun k=>if ∃ b ∈ gs,∃ l o,ρ b=some l∧l.G k=some o then w.heap[k]? else none
   obtain⟨g1,g2,g3⟩:=St.region (G:=G) h q1 hf fun k o hk=>by
    have hk:(if ∃ b ∈ gs,∃ l o,ρ b=some l∧l.G k=some o then w.heap[k]? else none)=some o:=hk;split at hk
    ·rename_i hex;obtain⟨b,hb,l,o2,e1,e2⟩:=hex;exact⟨hk,b,_,l,h.dom _ _ e1,hall b hb,e1,⟨rfl,.inr ⟨rfl,o2,e2⟩⟩,rfl⟩
    ·cases hk
   refine⟨_,fE G,g3,q5,RR h q1 hf,g1,g2,fun b hb l hl k o hk=>?_⟩;show(if ∃ b ∈ gs,∃ l o,ρ b=some l∧l.G k=some o then w.heap[k]? else none)=_;rw[A4 ⟨b,hb,l,o,hl,hk⟩];exact(h.atl hl (hall b hb)).1.2 k o hk
  ·cases ho
 unfold nP at ho;split at ho
 ·rename_i g0;obtain⟨h1,ho⟩:=A6 ho;cases ho;obtain⟨l,hl⟩:=A5M h h1;refine⟨ρ,l,St.refl h,rfl,.refl,hl,eH h1,fun b hb l2 hl2=>?_⟩;rcases B6.1 hb with rfl|hb
  ·rw[hl]at hl2
   have:=A9 hl2;subst this;exact fun _ _ h=>h
  ·cases hb
 ·exact main ho
omit [Ora] in
def rR{R:Nat→Option Obj}{v r:Value}(h:Enc R u v)(hr:toV u=some r):v=r:=by
 cases h with
 | sc h=>rw[h]at hr;exact A9 hr
 | nil=>cases hr
 | emp=>cases hr
 | sl=>cases hr
omit [Ora] in
def pU{R:Nat→Option Obj}{v:Value}(h:Enc R u v):cC v=true:=by
 cases h with
 | sc h=>have:=kS h;cases v<;>first|rfl|cases this
 | nil=>rfl
 | emp=>rfl
 | sl=>rfl
def A8Q{wd k:Nat}{rows:List (List U)} :evU (.get wd o) [.seq false wd rows,.int kk (.ofNat k)]=(rows.getD k []).getD o .none:=by
 simp[evU]
def getD_some(h:row.getD o .none≠.none):row[o]? = some (row.getD o .none):=by
 rw[B4]at *;cases e:row[o]? with
 | none=>rw[e]at h;exact absurd rfl h
 | some u=>rfl
def jS{wd o i t g k:Nat}{z:Value}{lg:Loc}{rows:List (List U)}{cell:Nat→V7}(hi:Ora.env i=.seq false wd rows)(hz:tJ Ora.env z=some (.ofNat k))(hg:ρ g=some lg)
  (hc:∀ q u,(rows.getD k [])[q]? = some u→∃ v,cell q=some v∧Enc lg.G u v) :
  ∀ {ts:I6} {j:Nat} {m m':Mem} {r:D5},u6 wd o i t z g ts j m=some (r,m')→Sat m'.lg→∃ r',LR ρ r r'∧r'.length=ts.length∧(∀ q v',r'[q]? = some v'→cell (o+j+q)=some v')∧M8 m m'∧m.lg.le m'.lg
 | [],j,m,m',r,h,hS=>by
   cases h;exact⟨[],.nil,rfl,fun q v' h=>by simp at h,.refl _,.refl _⟩
 | tg::ts,j,m,m',r,h,hS=>by
   unfold u6 at h;obtain⟨kk,hz2⟩:=NY hz;have harg:[hole i t,z].map (E6 Ora.env)=[.seq false wd rows,.int kk (.ofNat k)]:=by
    simp only[F0,K7,hz2];show[Ora.env i,_]=_;rw[hi]
   have hcell:∀ {u:U},u≠.none→evU (.get wd (o+j)) ([hole i t,z].map (E6 Ora.env))=u→∃ v,cell (o+j)=some v∧Enc lg.G u v:=fun{u} hu he=>by
    rw[harg,A8Q]at he;subst he;exact hc _ _ (getD_some hu)
   cases ht:Nat.blt tg 10 with
   | true =>
     rw[ht]at h;simp only[F3]at h;have h10:tg<10:=A2 ht;split at h
     ·rename_i hh m1 hl;split at h
      ·rename_i r2 m2 hr;cases h;obtain⟨r',e1,e2,e3,e4,e5⟩:=jS hi hz hg hc hr hS;obtain⟨u,f1,f2,v,f3,f4,f5⟩:=Q5 hl (hS.le e5);obtain⟨v2,g1,g2⟩:=hcell (u:=u) (by intro e;subst e;cases f3) f1
       have:=rR g2 f3;subst this;refine⟨v2::r',.cons (f4 ρ) e1,by simp[e2],fun q v' hq=>?_,(K4 hl).trans e4,(L2 hl).trans e5⟩;cases q with
       | zero=>simp at hq;subst hq;exact g1
       | succ q=>rw[show o+j+(q+1)=o+(j+1)+q by omega];exact e3 q v' (by simpa using hq)
      ·cases h
     ·cases h
   | false =>
     rw[ht]at h;simp only[E7]at h;rw[RN]at h;split at h
     ·rename_i r2 m2 hr;cases h;obtain⟨r',e1,e2,e3,e4,e5⟩:=jS hi hz hg hc hr hS;obtain⟨f1,f2,nul,wd2,rows2,f3,f4⟩:=nS hS e5;obtain⟨v2,g1,g2⟩:=hcell (u:=Ora.env m.lg.nx) (by rw[f3];intro h;cases h) f1.symm;refine⟨v2::r',.cons (.dat hg g2 f2 A0 (pU g2)) e1,by simp[e2],fun q v' hq=>?_,M8.trans ⟨_,rfl⟩ e4,m6.trans e5⟩;cases q with
      | zero=>simp at hq;subst hq;exact g1
      | succ q=>rw[show o+j+(q+1)=o+(j+1)+q by omega];exact e3 q v' (by simpa using hq)
     ·cases h
def mF{t:TypeId}(h:oG P t=some ts):I4 P t=some ts.length:=by
 unfold oG at h;split at h
 ·rename_i l n h1 h2;obtain⟨h3,h⟩:=A6 h;cases h;rw[h2,A1 h3]
 ·cases h
def KE{t:TypeId}{r:D5}{v:Value}{b:Nat}(hts:oG P t=some ts)(ha:qA P t (some (r,m))=some (v,m'))(hl:LR ρ r r')(hn:r'.length=ts.length)
  (hc:∀ q v',r'[q]? = some v'→w.cell? ⟨b,o+q,none⟩=some v'):m'=m∧∃ v',(Instr.loadAt t (.pointer (some ⟨b,o,none⟩))).run P w=.ok v' w∧VR ρ v v':=by
 unfold qA at ha;split at ha
 ·rename_i hag heq;cases ha;cases heq;obtain⟨v',r2,rfl,e1,e2⟩:=hl.tail;refine⟨rfl,v',?_,e1⟩
  have:=hc 0 v' rfl;simp[Instr.loadAt,Instr.sureAddr,loadVar,A8,eC hag,Result.andThen,run_load,show w.cell? ⟨b,o,none⟩=some v' from by simpa using this]
 ·rename_i hag heq;cases ha;cases heq;refine⟨rfl,.agg ⟨r'⟩,?_,.agg hl.1 hl.2⟩;have hsz:I4 P t=some r'.length:=by rw[hn];exact mF hts
  simp[Instr.loadAt,Instr.sureAddr,loadVar,A8,eC hag,O8 hsz,Result.andThen,N3 rfl hc]
 ·cases ha
def A4g{t:TypeId}{x x' v:Value}(h:HR P base ρ m.H w)(ho:RL P m t x=some (v,m'))(hx:VR ρ x x')(hS:Sat m'.lg):(∃ r,(Instr.loadAt t x').run P w=.ok r w∧VR ρ v r)∧M8 m m'∧m.lg.le m'.lg:=by
 have hmm:∀ {r:Option (D5×Mem)},qA P t r=some (v,m')→∃ vs,r=some (vs,m'):=fun{r} ha=>by
  unfold qA at ha;split at ha
  ·cases ha;exact⟨_,rfl⟩
  ·cases ha;exact⟨_,rfl⟩
  ·cases ha
 unfold RL at ho;split at ho
 ·rename_i b i tg z o ts hts;obtain⟨h1,ho⟩:=A6 ho;obtain⟨⟨l,wd,rows,a,s,c,k,e1,e2,e3,e4,e5,e6,rfl⟩,e8⟩:=MP hx;obtain⟨vs,hr⟩:=hmm ho;rw[hr]at ho;have htg:tg-10=wd:=by rw[← e8,e2];simp[H1]
  rw[htg]at hr;have hbg:=(h.atl e1 (eH h1)).1.2;rw[e2]at e3;obtain⟨C,T,fz,f1,f2,f3,f4⟩:∃ C T fz,l.G a=some (.cells C T fz)∧s+rows.length*wd≤C.size∧(∀ row ∈ rows,row.length=wd)∧∀ (r:Nat) (row:List U) (j:Nat) (u:U) (v:Value),rows[r]? = some row→row[j]? = some u→C[s+r*wd+j]? = some v→Enc l.G u v:=by
   have hne:rows≠[]:=by intro e;subst e;simp at e5
   cases e3 with
   | sc h=>cases h
   | emp=>exact absurd rfl hne
   | sl hc hg hz hw hh=>exact⟨_,_,_,hg hne,hz hne,hw,hh⟩
  have hheap:=hbg _ _ f1;have hrow:rows[k]? = some rows[k]:=A7 e5;obtain⟨r',g1,g2,g3,g4,g5⟩:=jS (cell:=fun q=>w.cell? ⟨a,s+k*wd+q,none⟩) e2 e4 e1 (fun q u hq=>by
   rw[B4,hrow]at hq;have hq:rows[k][q]? = some u:=hq;have hql:=(B3.1 hq).1;rw[f3 _ (E5 hrow)]at hql;have hk:(k+1)*wd≤rows.length*wd:=G7 wd e5;rw[J1]at hk;have hlt:s+k*wd+q<C.size:=A0;refine⟨C[s+k*wd+q],?_,f4 k _ q u _ hrow hq (I0 hlt)⟩;simp[World.cell?,hheap,I0 hlt]) hr hS
  obtain⟨_,q1⟩:=KE (w:=w) (b:=a) (o:=s+k*wd+o) hts ho g1 g2 (fun q v' hq=>by
   have:=g3 q v' hq;rw[show s+k*wd+o+q=s+k*wd+(o+0+q) by omega];exact this)
  exact⟨q1,g4,g5⟩
 ·rename_i b i tg z o ts hts;split at ho
  ·rename_i c tc T g ro hg;obtain⟨h1,ho⟩:=A6 ho;have h1:=A1 h1;subst h1;obtain⟨⟨l,wd,sH,k,e1,e2,e3,e4,e5,e6,rfl⟩,e8⟩:=BE hx;obtain⟨vs,hr⟩:=hmm ho;rw[hr]at ho;obtain⟨wd2,inf,d1,d2,d3,d4⟩:=SqR.ex (h.atl e1 hg).1;rcases d4 with⟨d4,_⟩|⟨_,d4⟩
   ·rw[e2]at d4;cases d4
   obtain⟨C,fz,T',rows,lg,f1,f2,f3,f4,f5,f6,f7,f8,f9⟩:=d4;have htg:tc-10=wd2:=A0;rw[htg]at hr;have hkl:k<rows.length:=A0;have hrow:rows[k]? = some rows[k]:=A7 hkl;have hwd:wd=wd2:=by
    have:H1 (Ora.env i)=10+wd:=by rw[e3];rfl
    omega
   subst hwd;obtain⟨r',g1,g2,g3,g4,g5⟩:=jS (cell:=fun q=>w.cell? ⟨l.blk,l.sh+k*wd+q,none⟩) f2 e4 f7 (fun q u hq=>by
    rw[B4,hrow]at hq;have hq:rows[k][q]? = some u:=hq;have hql:=(B3.1 hq).1;rw[f6 _ (E5 hrow)]at hql;have hk:(k+1)*wd≤l.cap*wd:=G7 wd A0;rw[J1]at hk;have hlt:l.sh+k*wd+q<C.size:=A0;refine⟨C[l.sh+k*wd+q],?_,f8 k _ q u _ hrow hq (I0 hlt)⟩;simp[World.cell?,f1,I0 hlt]) hr hS
   obtain⟨_,q1⟩:=KE (w:=w) (b:=l.blk) (o:=l.sh+k*wd+o) hts ho g1 g2 (fun q v' hq=>by
    have:=g3 q v' hq;rw[show l.sh+k*wd+o+q=l.sh+k*wd+(o+0+q) by omega];exact this)
   exact⟨q1,g4,g5⟩
  ·cases ho
 ·cases ho
end
end
section
open Go
variable [Ora]
section
variable {P:Program} {base:Nat} {ρ ρ':Ren} {m m':Mem} {w w':World}
def at0(a:Nat):Ren:=fun _=>some (lc a 0 0)
def A1v{a s n c:Nat}(h:n≤c):VR (at0 a) (.slice (some ⟨0,s,none⟩) n (R5+1)) (.slice (some ⟨a,s,none⟩) n c) :=
 VR.op (ρ:=at0 a) (b:=0) (o:=s) (n:=n) (m:=R5+1) (m':=c) (l:=lc a 0 0) rfl (by unfold R5;omega) h (fun h=>by unfold R5 at h;omega)
def A0u{a s:Nat}:VR (at0 a) (.pointer (some ⟨0,s,none⟩)) (.pointer (some ⟨a,s,none⟩)):=VR.ptr (ρ:=at0 a) (b:=0) (o:=s) (l:=lc a 0 0) rfl
def yK{t e:TypeId}{a s n c z sz:Nat}{k:IntKind}(hu:P.underlying t=some (.slice e))(hs:I4 P e=some sz)(hz:z<n)(hc:n≤c)(w:World) :
  (Instr.indexAt t (.slice (some ⟨a,s,none⟩) n c) (.int k (.ofNat z))).run P w=.ok (.pointer (some ⟨a,s+z*sz,none⟩)) w:=by
 have hb:Nat.blt z n=true:=C9 hz;have hm:u5 P t (.slice (some ⟨0,s,none⟩) n (R5+1)) (.int k (.ofNat z))=some (.pointer (some ⟨0,s+z*sz,none⟩)):=by
  simp only[u5,hu,hs,hb,F3,dP,F8]
 obtain⟨v',g1,g2⟩:=eU (P:=P) hm (A1v (a:=a) hc) (.pure rfl) w;obtain⟨l2,hl2,_,rfl⟩:=U7 g2;cases hl2;exact g1
def uO{t e:TypeId}{a s n z sz:Nat}{k:IntKind}(hu:P.underlying t=some (.array n e))(hs:I4 P e=some sz)(hz:z<n)(w:World) :
  (Instr.indexAt t (.pointer (some ⟨a,s,none⟩)) (.int k (.ofNat z))).run P w=.ok (.pointer (some ⟨a,s+z*sz,none⟩)) w:=by
 have hb:Nat.blt z n=true:=C9 hz;have hm:u5 P t (.pointer (some ⟨0,s,none⟩)) (.int k (.ofNat z))=some (.pointer (some ⟨0,s+z*sz,none⟩)):=by
  simp only[u5,hu,hs,hb,F3,dP,F8]
 obtain⟨v',g1,g2⟩:=eU (P:=P) hm (A0u (a:=a)) (.pure rfl) w;obtain⟨l2,hl2,_,rfl⟩:=U7 g2;cases hl2;exact g1
def yM{a z:Nat}{fs:Array Field}{f:Field}(hu:P.underlying s=some (.struct fs))(hf:fs.toList[i]? = some f)(hz:I4 P f.type=some (z+1))(w:World) :
  (Instr.fieldAt s (.pointer (some ⟨a,o,none⟩)) i).run P w=.ok (.pointer (some ⟨a,o+f.offset,none⟩)) w:=by
 have hm:eV P s (.pointer (some ⟨0,o,none⟩)) i=some (.pointer (some ⟨0,o+f.offset,none⟩)):=by
  simp only[eV,hu,hf,hz,dP,F8]
 obtain⟨v',g1,g2⟩:=pN (P:=P) hm (A0u (a:=a)) w;obtain⟨l2,hl2,_,rfl⟩:=U7 g2;cases hl2;exact g1
def MR{t wd:Nat}{nul:Bool}{rows:List (List U)}{k v:Value}(h:SB m i t z k=some (v,m'))(hi:Ora.env i=.seq nul wd rows)(ht:t=10+wd)(hz:VR ρ z z')(hS:Sat m'.lg) :
  v=k∧(∃ kk n,z'=.int kk (.ofNat n)∧n<rows.length∧tJ Ora.env z=some (.ofNat n))∧M8 m m'∧m.lg.le m'.lg:=by
 unfold SB at h;cases hq:!(Nat.blt (I1 z) 8)with
 | true=>rw[hq]at h;cases h
 | false =>
   have h8:I1 z<8:=by
    have:Nat.blt (I1 z) 8=true:=by simpa using hq
    exact A2 this
   rw[hq]at h;simp only[E7]at h;split at h
   ·rename_i b H n W hh lg hl;split at h
    ·rename_i lg2 hb;cases h;have hle1:=L2 hl;have hle2:=pZ hb;obtain⟨u,e1,e2,r,e3,e4,_⟩:=Q5 hl (U9.le hS hle2);have hb2:=tF hb (e4 ρ) hS;subst hb2;obtain⟨kk,y,rfl,f2,_⟩:=S5 hz h8;have harg:[z,hole i t].map (E6 Ora.env)=[.int kk y,.seq nul wd rows]:=by
      simp only[F0,K7,f2];show[_,Ora.env i]=_;rw[hi]
     rw[harg]at e1;have e1:(if wd=t-10 then U.bool (decide (0≤y) && decide (y<rows.length))else U.none)=u:=e1;rw[A4 A0]at e1;subst e1;have e3:some (Value.bool (decide (0≤y) && decide (y<rows.length)))=some (.bool true):=e3;have e5:(decide (0≤y) && decide (y<rows.length))=true:=by simpa using e3
     simp only[I3,decide_eq_true_eq]at e5;obtain⟨n0,rfl⟩:∃ n0:Nat,y=.ofNat n0:=⟨y.toNat,by have:=U2 e5.1;exact this.symm⟩;refine⟨rfl,⟨kk,n0,rfl,?_,A0v f2⟩,M8.trans (K4 hl) ⟨lg2,rfl⟩,hle1.trans hle2⟩
     have:=e5.2;have:(n0:Int)<rows.length:=this;omega
    ·cases h
   ·cases h
def B4d{G:Nat→Option Obj}{nul:Bool}{wd:Nat}{rows:List (List U)}{v:Value}(h:Enc G (.seq nul wd rows) v)(hr:rows≠[]):nul=false∧∃ a o c,v=.slice (some ⟨a,o,none⟩) rows.length c∧rows.length≤c:=by
 cases h with
 | sc h=>cases h
 | nil=>exact absurd rfl hr
 | emp=>exact absurd rfl hr
 | sl hc _ _ _ _=>exact⟨rfl,_,_,_,rfl,hc⟩
def VC{t:Nat}(h:H1 u=t)(h10:10≤t):u=.none∨∃ nul wd rows,u=.seq nul wd rows∧t=10+wd:=by
 cases u with
 | none=>exact .inl rfl
 | int k n=>have:=Q0 k;simp[H1]at h;omega
 | bool b=>simp[H1]at h;omega
 | str s=>simp[H1]at h;omega
 | seq nul wd rows=>exact .inr ⟨nul,wd,rows,rfl,h.symm⟩
def jU{G:Nat→Option Obj}{v:Value}{t:Nat}(h:Enc G u v)(ht:H1 u=t)(h10:10≤t):∃ nul wd rows,u=.seq nul wd rows∧t=10+wd:=by
 rcases VC ht h10 with rfl|h1
 ·cases h with
  | sc h=>cases h
 ·exact h1
def JK{t e:TypeId}{b s:Nat}{l:Loc}{v v':Value}(hu:P.underlying t=some (.slice e))(hs:I4 P e=some (s+1))(htg:tg=10+(s+1))(h1:ρ b=some l)(h2:Enc l.G (Ora.env i) v')(h3:H1 (Ora.env i)=tg)
  (h:SB m i tg z (dpt b i tg z 0)=some (v,m')) (hz:VR ρ z z') (hS:Sat m'.lg):(∃ r,(Instr.indexAt t v' z').run P w=.ok r w∧VR ρ v r)∧M8 m m'∧m.lg.le m'.lg:=by
 obtain⟨nul,wd,rows,e1,e2⟩:=jU h2 h3 A0;obtain⟨rfl,⟨kk,n,rfl,hn,hzz⟩,g1,g2⟩:=MR h e1 e2 hz hS;have hwd:wd=s+1:=A0;subst hwd;have hne:rows≠[]:=by intro e;subst e;simp at hn
 rw[e1]at h2;obtain⟨rfl,a,o,c,rfl,hc⟩:=B4d h2 hne;refine⟨⟨_,yK hu hs hn hc w,.dpt ⟨l,s+1,rows,a,o,c,n,h1,e1,by rw[e1];exact h2,hzz,hn,A0,by simp⟩ h3 rfl⟩,g1,g2⟩
def RZ{t:TypeId}{x x' v:Value}(h:pJ P m t x z=some (v,m'))(hx:VR ρ x x')(hz:VR ρ z z')(hS:Sat m'.lg):(∃ r,(Instr.indexAt t x' z').run P w=.ok r w∧VR ρ v r)∧M8 m m'∧m.lg.le m'.lg:=by
 unfold pJ at h;split at h
 ·rename_i e b i tg hu;split at h
  ·rename_i s hs;obtain⟨ht,h⟩:=A6 h;have ht:=A1 ht;obtain⟨hown,htag⟩:=gA hx;rcases hown with⟨l,wd,h1,h2,h3,rfl⟩|⟨l,wd,rows,h1,h2,h3,h4,h40,rfl⟩
   ·obtain⟨_,⟨kk,n,_,hn,_⟩,_⟩:=MR h h3 (by rw[h3]at htag;exact htag.symm) hz hS;simp at hn
   ·have e2:tg=10+wd:=by rw[h3]at htag;exact htag.symm
    obtain⟨rfl,⟨kk,n,rfl,hn,hzz⟩,g1,g2⟩:=MR h h3 e2 hz hS;have hwd:wd=s+1:=A0;subst hwd;exact⟨⟨_,yK hu hs A0 h40 w,.opt ⟨l,s+1,rows,n,h1,h2,h3,hzz,A0,A0,by simp⟩ htag rfl⟩,g1,g2⟩
  ·cases h
 ·rename_i e b i tg hu;split at h
  ·rename_i s hs;obtain⟨ht,h⟩:=A6 h;have ht:=A1 ht;obtain⟨l,h1,h2,h3,_⟩:=rK hx;exact JK hu hs ht h1 h2 h3 h hz hS
  ·cases h
 ·rename_i e b i tg hu;split at h
  ·rename_i s hs;obtain⟨ht,h⟩:=A6 h;have ht:=A1 ht;obtain⟨l,h1,h2,h3,_⟩:=jR hx;exact JK hu hs ht h1 h2 h3 h hz hS
  ·cases h
 ·rename_i n e b i tg y o hu;split at h
  ·rename_i s kk k hs;obtain⟨hk,h⟩:=A6 h;obtain⟨hk,hw⟩:=B8 hk;have hk:=A2 hk;have hw:o+k*s<tg-10:=A2 hw;rw[F8]at h;cases h;cases L7 hz;obtain⟨⟨l,wd,rows,a,s0,c,q,e1,e2,e3,e4,e5,e6,rfl⟩,e8⟩:=MP hx;have hwd:tg-10=wd:=by rw[← e8,e2];simp[H1]
   refine⟨⟨_,uO hu hs hk w,.dpt ⟨l,wd,rows,a,s0,c,q,e1,e2,e3,e4,e5,A0,by simp⟩ e8 rfl⟩,.refl _,.refl _⟩
  ·cases h
 ·rename_i n e b i tg y o hu;split at h
  ·rename_i s kk k hs;obtain⟨hk,h⟩:=A6 h;obtain⟨hk,hw⟩:=B8 hk;have hk:=A2 hk;have hw:o+k*s<tg-10:=A2 hw;rw[F8]at h;cases h;cases L7 hz;obtain⟨⟨l,wd,rows,q,e1,e2,e3,e4,e5,e6,rfl⟩,e8⟩:=BE hx;have hwd:tg-10=wd:=by rw[← e8,e3];simp[H1]
   refine⟨⟨_,uO hu hs hk w,.opt ⟨l,wd,rows,q,e1,e2,e3,e4,e5,A0,by simp⟩ e8 rfl⟩,.refl _,.refl _⟩
  ·cases h
 ·cases h
def SO{x x' v:Value}{f:Nat}(h:pO P m s x f=some (v,m'))(hx:VR ρ x x'):(∃ r,(Instr.fieldAt s x' f).run P w=.ok r w∧VR ρ v r)∧m'=m:=by
 unfold pO at h;split at h
 ·rename_i fs b i tg y o hu;split at h
  ·rename_i fd hf;split at h
   ·rename_i z hz;obtain⟨hw,h⟩:=A6 h;have hw:o+fd.offset<tg-10:=A2 hw;rw[F8]at h;cases h;obtain⟨⟨l,wd,rows,a,s0,c,q,e1,e2,e3,e4,e5,e6,rfl⟩,e8⟩:=MP hx;have hwd:tg-10=wd:=by rw[← e8,e2];simp[H1]
    exact⟨⟨_,yM hu hf hz w,.dpt ⟨l,wd,rows,a,s0,c,q,e1,e2,e3,e4,e5,A0,by simp⟩ e8 rfl⟩,rfl⟩
   ·cases h
  ·cases h
 ·rename_i fs b i tg y o hu;split at h
  ·rename_i fd hf;split at h
   ·rename_i z hz;obtain⟨hw,h⟩:=A6 h;have hw:o+fd.offset<tg-10:=A2 hw;rw[F8]at h;cases h;obtain⟨⟨l,wd,rows,q,e1,e2,e3,e4,e5,e6,rfl⟩,e8⟩:=BE hx;have hwd:tg-10=wd:=by rw[← e8,e3];simp[H1]
    exact⟨⟨_,yM hu hf hz w,.opt ⟨l,wd,rows,q,e1,e2,e3,e4,e5,A0,by simp⟩ e8 rfl⟩,rfl⟩
   ·cases h
  ·cases h
 ·cases h
end
end
section
open Go
variable [Ora]
section
variable {P:Program} {base:Nat} {ρ ρ':Ren} {m m':Mem} {w w':World}
def cD{G:Nat→Option Obj}{nul:Bool}{wd:Nat}{rows:List (List U)}{v:Value}(h:Enc G (.seq nul wd rows) v):(nul=true∧rows=[]∧v=.slice none 0 0)∨(nul=false∧∃ (a:Addr) (c:Nat),v=.slice (some a) rows.length c∧rows.length≤c):=by
 cases h with
 | sc h=>cases h
 | nil=>exact .inl ⟨rfl,rfl,rfl⟩
 | emp=>exact .inr ⟨rfl,_,_,rfl,B0 _⟩
 | sl hc _ _ _ _=>exact .inr ⟨rfl,_,_,rfl,hc⟩
def oN{t e:TypeId}{a:Option Addr}{n c:Nat}(hu:P.underlying t=some (.slice e))(w:World):(Builtin.len_ ⟨t::tys⟩ ty #[.slice a n c]).run P w=.ok (.int .i64 n) w:=by
 simp[Builtin.len_,A8,D8 hu,Result.andThen,goInt]
def A7w{t:Nat}{v:Value}{nul:Bool}{wd:Nat}{rows:List (List U)}(h:m7 m 3 .len [hole i t]=some (v,m'))(hi:Ora.env i=.seq nul wd rows)(hS:Sat m'.lg):VR ρ v (.int .i64 rows.length)∧M8 m m'∧m.lg.le m'.lg∧E6 Ora.env v=.int .i64 rows.length:=by
 obtain⟨u,e1,e2,r,e3,e4,e5⟩:=Q5 h hS;have harg:[hole i t].map (E6 Ora.env)=[.seq nul wd rows]:=by
  show[Ora.env i]=_;rw[hi]
 rw[harg]at e1;have e1:U.int .i64 rows.length=u:=e1;subst e1;cases e3;refine⟨e4 ρ,K4 h,L2 h,?_⟩;obtain⟨rfl,rfl⟩:=rH h;obtain⟨h1,h2,h3⟩:=hS (.lt m.lg.nx 3 .len [hole i t]) (by cases m;exact C5);show Ora.env m.lg.nx=_;rw[h1,harg];rfl
def pM{i j:Nat}:∀ {l:List p7},vZ i l=some j→∃ tg,p7.lt j 3 .len [hole i tg] ∈ l
 | [],h=>by cases h
 | e::r,h=>by
   unfold vZ at h;split at h
   ·cases h
   ·rename_i j' t k tg r' he;cases he;cases hq:Nat.beq k i && Nat.beq t 3 with
    | true =>
      rw[hq]at h;cases h;obtain⟨h1,h2⟩:=B8 hq;have h1:=A1 h1;have h2:=A1 h2;subst h1;subst h2;exact⟨tg,.head _⟩
    | false =>
      rw[hq]at h;obtain⟨tg',h3⟩:=pM h;exact⟨tg',.tail _ h3⟩
   ·rename_i he;cases he;obtain⟨tg',h3⟩:=pM h;exact⟨tg',.tail _ h3⟩
def dR{t:Nat}{v:Value}(h:MH m i t=some (v,m')):M8 m m'∧m.lg.le m'.lg:=by
 unfold MH at h;split at h
 ·cases h;exact⟨M8.refl _,.refl _⟩
 ·exact⟨K4 h,L2 h⟩
def pF{t:Nat}{v:Value}{nul:Bool}{wd:Nat}{rows:List (List U)}(h:MH m i t=some (v,m'))(hi:Ora.env i=.seq nul wd rows)(hS:Sat m'.lg):VR ρ v (.int .i64 rows.length)∧M8 m m'∧m.lg.le m'.lg∧E6 Ora.env v=.int .i64 rows.length:=by
 unfold MH at h;split at h
 ·rename_i j hj;cases h;obtain⟨tg,hm⟩:=pM hj;obtain⟨h1,h2,_⟩:=hS _ hm;have harg:[hole i tg].map (E6 Ora.env)=[.seq nul wd rows]:=by
   show[Ora.env i]=_;rw[hi]
  rw[harg]at h1;have h1:Ora.env j=.int .i64 rows.length:=h1;refine⟨.hole ?_ ?_,M8.refl _,.refl _,h1⟩
  ·rw[h1];rfl
  ·rw[h1];rfl
 ·exact A7w h hi hS
def A1S{b:Nat}{v':Value}(h:A1T ρ b u v'):∃ nul wd rows a c,u=.seq nul wd rows∧v'=.slice a rows.length c:=by
 rcases h with⟨l,wd,h1,h2,h3,rfl⟩|⟨l,wd,rows,h1,h2,h3,h4,h40,rfl⟩
 ·exact⟨_,_,_,_,_,h3,rfl⟩
 ·exact⟨_,_,_,_,_,h3,by rw[h4]⟩
def A7x{t:TypeId}{x x' v:Value}(h:A7y P m t x=some (v,m'))(hx:VR ρ x x')(hS:Sat m'.lg):(∃ r,(Builtin.len_ ⟨t::tys⟩ ty #[x']).run P w=.ok r w∧VR ρ v r)∧M8 m m'∧m.lg.le m'.lg:=by
 unfold A7y at h;split at h
 ·rename_i e b i tg hu;obtain⟨l,h1,h2,h3,h4⟩:=rK hx;obtain⟨nul,wd,rows,e1,_⟩:=jU h2 h3 h4;obtain⟨g1,g2,g3,_⟩:=pF (ρ:=ρ) h e1 hS;rw[e1]at h2;rcases cD h2 with⟨rfl,rfl,rfl⟩|⟨rfl,a,c,rfl,_⟩
  ·exact⟨⟨_,oN hu w,g1⟩,g2,g3⟩
  ·exact⟨⟨_,oN hu w,g1⟩,g2,g3⟩
 ·rename_i e b i tg hu;obtain⟨l,h1,h2,h3,h4,_⟩:=jR hx;obtain⟨nul,wd,rows,e1,_⟩:=jU h2 h3 h4;obtain⟨g1,g2,g3,_⟩:=pF (ρ:=ρ) h e1 hS;rw[e1]at h2;rcases cD h2 with⟨rfl,rfl,rfl⟩|⟨rfl,a,c,rfl,_⟩
  ·exact⟨⟨_,oN hu w,g1⟩,g2,g3⟩
  ·exact⟨⟨_,oN hu w,g1⟩,g2,g3⟩
 ·rename_i e b i tg hu;obtain⟨nul,wd,rows,a,c,e1,rfl⟩:=A1S (gA hx).1;obtain⟨g1,g2,g3,_⟩:=pF (ρ:=ρ) h e1 hS;exact⟨⟨_,oN hu w,g1⟩,g2,g3⟩
 ·cases h
def IT{v v':Value}{n:Nat}(hv:VR ρ v v')(ht:DW v=true)(ha:E6 Ora.env v=.int kk (.ofNat n)):∃ j,v'=.int j (.ofNat n):=by
 obtain⟨k,z,rfl,f2,_⟩:=S5 hv (A2 ht);rw[f2]at ha;injection ha with _ hb
 exact⟨k,by rw[hb]⟩
def A24{h x h' x':Value}(hs:YD h x=true)(h1:VR ρ h h')(h2:VR ρ x x'):h'=x':=by
 unfold YD at hs;split at hs
 ·rename_i i t1 j t2
  have:=A1 hs;subst this;have hh:∀ {t:Nat} {v:Value},VR ρ (.complex .f64 i t) v→toV (Ora.env i)=some v:=fun{t v} h=>by
   cases h with
   | pure hp=>simp[K2]at hp
   | hole h _=>exact h
  have a:=hh h1;rw[hh h2]at a;exact(A9 a).symm
 ·obtain⟨e1,e2⟩:=B8 hs;have e1:=kX e1;rw[eM]at e2;have e2:=eq_of_beq e2;subst e1;subst e2;cases L7 h1;cases L7 h2;rfl
 ·cases hs
def A5b{wd v:Nat}{nul:Bool}{rows:List (List U)}{a b:U}(hne:evU (.subs wd) [.seq nul v rows,a,b]≠.none):∃ k1 l k2 h,a=.int k1 (.ofNat l)∧b=.int k2 (.ofNat h)∧v=wd∧l≤h∧h≤rows.length:=by
 cases a with
 | int k1 z1=>cases z1 with
   | ofNat l=>cases b with
     | int k2 z2=>cases z2 with
       | ofNat h =>
         have hne:(if v=wd∧l≤h∧h≤rows.length then U.seq nul wd ((rows.drop l).take (h-l))else .none)≠.none:=hne;by_cases hc:v=wd∧l≤h∧h≤rows.length
         ·exact⟨k1,l,k2,h,rfl,rfl,hc.1,hc.2.1,hc.2.2⟩
         ·rw[A3 hc]at hne;exact(hne rfl).elim
       | negSucc _=>exact(hne rfl).elim
     | _=>exact(hne rfl).elim
   | negSucc _=>exact(hne rfl).elim
 | _=>exact(hne rfl).elim
def A8X{G:Nat→Option Obj}{nul:Bool}{wd l h mm n c:Nat}{rows:List (List U)}{a:Option Addr}(he:Enc G (.seq nul wd rows) (.slice a n c))(hl:l≤h)(hh:h≤rows.length)(hm:h≤mm)(hmc:mm≤c) :
  Enc G (.seq nul wd ((rows.drop l).take (h-l))) (.slice (if mm=l then a else a.map (·.add (l*wd))) (h-l) (mm-l))∨a=none:=by
 cases he with
 | sc h=>cases h
 | nil=>exact .inr rfl
 | emp =>
   rename_i a;have e1:h=0:=by simpa using hh
   subst e1;have e2:l=0:=A0;subst e2;have e3:mm=0:=A0;subst e3;exact .inl .emp
 | sl hc hg hz hw hrow =>
   rename_i a o C T fz;refine .inl ?_;have hlen:((rows.drop l).take (h-l)).length=h-l:=by simp;omega
   have key:∀ b o2,(h-l≠0→b=a∧o2=o+l*wd)→Enc G (.seq false wd ((rows.drop l).take (h-l))) (.slice (some ⟨b,o2,none⟩) (h-l) (mm-l)):=fun b o2 hb=>by
    have hgo:∀ r row,((rows.drop l).take (h-l))[r]? = some row→h-l≠0∧rows[l+r]? = some row:=fun r row hr=>by
     have hlt:=(B3.1 hr).1;rw[hlen]at hlt;rw[G1 hlt,J2]at hr;exact⟨A0,hr⟩
    have hne:(rows.drop l).take (h-l)≠[]→h-l≠0∧rows≠[]:=fun hne=>by
     constructor
     ·intro e;rw[e]at hne;simp at hne
     ·intro e;subst e;simp at hne
    have:=Enc.sl (G:=G) (w:=wd) (rows:=(rows.drop l).take (h-l)) (a:=b) (o:=o2) (c:=mm-l) (C:=C) (T:=T) (fz:=fz) A0
     (fun hn=>by obtain⟨e1,e2⟩:=hne hn;rw[(hb e1).1];exact hg e2)
     (fun hn=>by
       obtain⟨e1,e2⟩:=hne hn;rw[hlen,(hb e1).2];have h1:=hz e2;have h2:(l+(h-l))*wd≤rows.length*wd:=G7 wd A0;rw[J1]at h2;omega)
     (fun row hr=>hw row (J5 (M9 hr)))
     (fun r row j u v q1 q2 q3=>by
       obtain⟨e1,e2⟩:=hgo r row q1;rw[(hb e1).2]at q3;refine hrow (l+r) row j u v e2 q2 ?_;rw[J1,show o+(l*wd+r*wd)+j=o+l*wd+r*wd+j by omega];exact q3)
    rw[hlen]at this;exact this
   by_cases hml:mm=l
   ·rw[A4 hml];exact key a o fun h=>by omega
   ·rw[A3 hml];have e:(Addr.mk a o none).add (l*wd)=⟨a,o+l*wd,none⟩:=by
     unfold Addr.add;split
     ·rename_i h;rw[h];rfl
     ·rfl
    show Enc G _ (.slice (some ((Addr.mk a o none).add (l*wd))) _ _);rw[e];exact key a (o+l*wd) fun _=>⟨rfl,rfl⟩
def NN{t e:TypeId}{b s:Nat}{l:Loc}{hi:V7}{v x':Value}(hu:P.underlying t=some (.slice e))(hs:I4 P e=some s)(htg:tg=10+s)(h1:ρ b=some l)(h2:Enc l.G (Ora.env i) x')(h3:H1 (Ora.env i)=tg)
  (hcl:cl=true→A55 x') (h:SY m b i tg cl lo hi mx=some (v,m')) (hlo:OR ρ lo lo') (hhi:OR ρ hi hi') (hmx:OR ρ mx mx') (hS:Sat m'.lg):(∃ r,(Instr.sliceAt t x' lo' hi' mx').run P w=.ok r w∧VR ρ v r)∧M8 m m'∧m.lg.le m'.lg:=by
 have none_inv:∀ {o:V7},OR ρ none o→o=none:=fun{o} h=>by cases o<;>first|rfl|exact h.elim
 have some_inv:∀ {y:Value} {o:V7},OR ρ (some y) o→∃ y',o=some y'∧VR ρ y y':=fun{y o} h=>by cases o<;>first|exact h.elim|exact⟨_,rfl,h⟩
 obtain⟨nul,wd,rows,e1,e2⟩:=jU h2 h3 A0;have hwd:wd=s:=A0;subst hwd;rw[e1]at h2;obtain⟨a,n,c,hx',hn,hnc⟩:∃ a n c,x'=.slice a n c∧n=rows.length∧n≤c:=by
  rcases cD h2 with⟨rfl,rfl,rfl⟩|⟨rfl,a,c,rfl,hc⟩
  ·exact⟨_,_,_,rfl,rfl,B0 _⟩
  ·exact⟨_,_,_,rfl,rfl,hc⟩
 subst hx';have go:∀ {m:Mem} {lv hv:Value} {cc:Bool} {lv':V7} {hh mm:Nat},jW m b i tg lv hv cc=some (v,m') →
   (lv'=none∧lv=.int .i64 0∨∃ y,lv'=some y∧VR ρ lv y)→(∀ kk q,E6 Ora.env hv=.int kk (.ofNat q)→q≤rows.length→q=hh∧Bd mx' c c mm∧(hi'=none→mx'=none)∧Bd hi' mm n hh∧hh≤mm∧(cc=true→mm=hh)) →
   (∃ r,(Instr.sliceAt t (.slice a n c) lv' hi' mx').run P w=.ok r w∧VR ρ v r)∧M8 m m'∧m.lg.le m'.lg:=fun{m lv hv cc lv' hh mm} h hlv hhv=>by
  unfold jW at h;obtain⟨hint,h⟩:=A6 h;obtain⟨hi1,hi2⟩:=B8 hint;rw[S6]at h;simp only[D9,R6]at h;obtain⟨rfl,rfl⟩:=h;obtain⟨f1,f2,nul2,wd2,rows2,f3,f4⟩:=nS hS (.refl _);have harg:[hole i tg,lv,hv].map (E6 Ora.env)=[.seq nul wd rows,E6 Ora.env lv,E6 Ora.env hv]:=by
   show[Ora.env i,_,_]=_;rw[e1]
  rw[harg]at f1;have h10:tg-10=wd:=A0;rw[h10]at f1;obtain⟨k1,l0,k2,h0,a1,a2,a3,a4⟩:∃ k1 l0 k2 h0,E6 Ora.env lv=.int k1 (.ofNat l0)∧E6 Ora.env hv=.int k2 (.ofNat h0)∧l0≤h0∧h0≤rows.length:=by
   have hne:evU (.subs wd) [.seq nul wd rows,E6 Ora.env lv,E6 Ora.env hv]≠.none:=by rw[← f1,f3];intro h;cases h
   obtain⟨k1,l0,k2,h0,q1,q2,_,q3,q4⟩:=A5b hne;exact⟨k1,l0,k2,h0,q1,q2,q3,q4⟩
  rw[a1,a2]at f1;have f1:Ora.env m.lg.nx=if wd=wd∧l0≤h0∧h0≤rows.length then U.seq nul wd ((rows.drop l0).take (h0-l0))else .none:=f1
  rw[A4 ⟨rfl,a3,a4⟩]at f1;obtain⟨rfl,b1,b2,b3,b4,b5⟩:=hhv k2 h0 a2 a4;have b6:Bd lv' h0 0 l0:=by
   rcases hlv with⟨rfl,rfl⟩|⟨y,rfl,hy⟩
   ·cases a1;exact .inl ⟨rfl,rfl⟩
   ·obtain⟨j,rfl⟩:=IT hy hi1 a1;exact .inr ⟨j,rfl,a3⟩
  have hrun:=yJ (P:=P) (a:=a) (n:=n) (c:=c) hu hs b1 b2 b3 b6 w;have henc:Enc l.G (Ora.env m.lg.nx) (.slice (if mm=l0 then a else a.map (·.add (l0*wd))) (h0-l0) (mm-l0)):=by
   rw[f1];rcases A8X (mm:=mm) h2 a3 a4 b4 (by rcases b1 with⟨_,rfl⟩|⟨_,_,b1⟩<;>omega)with he|rfl
   ·exact he
   ·rcases cD h2 with⟨rfl,rfl,hq⟩|⟨_,_,_,hq,_⟩
    ·cases hq;have z1:h0=0:=by simp at a4;exact a4
     have z2:l0=0:=A0;have z3:mm=0:=by
      rcases b1 with⟨_,rfl⟩|⟨_,_,b1⟩<;>omega
     subst z1;subst z2;subst z3;exact .nil
    ·cases hq
  refine⟨⟨_,hrun,?_⟩,⟨_,rfl⟩,m6⟩;cases cc with
  | false=>exact .dat h1 henc f2 A0 rfl
  | true =>
    refine .clp h1 henc f2 A0 rfl ?_;show mm-l0=h0-l0;rw[b5 rfl]
 have nat_of:∀ {hv y:Value} {kk:IntKind} {q:Nat},VR ρ hv y→DW hv=true→E6 Ora.env hv=.int kk (.ofNat q)→∃ j,y=.int j (.ofNat q):=fun h1 h2 h3=>IT h1 h2 h3
 have hint_of:∀ {m:Mem} {lv hv:Value} {cc:Bool},jW m b i tg lv hv cc=some (v,m')→DW hv=true:=fun h=>by
  unfold jW at h;exact(B8 (A6 h).1).2
 have main:∀ lv,(lo'=none∧lv=.int .i64 0∨∃ y,lo'=some y∧VR ρ lv y)→SX m b i tg cl lv hi mx=some (v,m')→(∃ r,(Instr.sliceAt t (.slice a n c) lo' hi' mx').run P w=.ok r w∧VR ρ v r)∧M8 m m'∧m.lg.le m'.lg:=fun lv hlv h=>by
  cases hi with
  | some hv =>
    obtain⟨hv',rfl,hvv⟩:=some_inv hhi;cases mx with
    | none =>
      cases none_inv hmx;have h:jW m b i tg lv hv false=some (v,m'):=h;have hint:=hint_of h;obtain⟨kk,q,hq⟩:∃ kk q,E6 Ora.env hv=.int kk q:=by
       obtain⟨k,z,_,f2,_⟩:=S5 hvv (A2 hint);exact⟨k,z,f2⟩
      exact go (hh:=q.toNat) (mm:=c) h hlv fun kk2 q2 h1 h2=>by
       rw[hq]at h1;injection h1 with _ h1
       subst h1;obtain⟨j,rfl⟩:=nat_of hvv hint hq;have e:(Int.ofNat q2).toNat=q2:=rfl;rw[e];exact⟨rfl,.inl ⟨rfl,rfl⟩,fun h=>(by cases h),.inr ⟨j,rfl,A0⟩,A0,fun h=>by cases h⟩
    | some x =>
      obtain⟨x',rfl,hxx⟩:=some_inv hmx;have h:(bif YD hv x then jW m b i tg lv hv true else none)=some (v,m'):=h;obtain⟨hsame,h⟩:=A6 h;have hint:=hint_of h
      have:=A24 hsame hvv hxx;subst this;obtain⟨kk,q,hq⟩:∃ kk q,E6 Ora.env hv=.int kk q:=by
       obtain⟨k,z,_,f2,_⟩:=S5 hvv (A2 hint);exact⟨k,z,f2⟩
      exact go (hh:=q.toNat) (mm:=q.toNat) h hlv fun kk2 q2 h1 h2=>by
       rw[hq]at h1;injection h1 with _ h1
       subst h1;obtain⟨j,rfl⟩:=nat_of hvv hint hq;have e:(Int.ofNat q2).toNat=q2:=rfl;rw[e];exact⟨rfl,.inr ⟨j,rfl,A0⟩,fun h=>(by cases h),.inr ⟨j,rfl,B0 _⟩,B0 _,fun _=>rfl⟩
  | none =>
    cases none_inv hhi;cases mx with
    | some x=>cases h
    | none =>
      cases none_inv hmx;unfold SX at h;simp only at h;split at h
      ·rename_i hv m1 hl;have hle2:M8 m1 m'∧m1.lg.le m'.lg:=by
        unfold jW at h;obtain⟨_,h⟩:=A6 h;rw[S6]at h;simp only[D9,R6]at h;obtain⟨_,rfl⟩:=h;exact⟨⟨_,rfl⟩,m6⟩
       obtain⟨q1,q2,q3,q4⟩:=pF (ρ:=ρ) hl e1 (hS.le hle2.2);obtain⟨r1,r2,r3⟩:=go (hh:=rows.length) (mm:=c) h hlv fun kk2 q2 h1 h2=>by
        rw[q4]at h1;injection h1 with _ h1
        have h1:((rows.length:Nat):Int)=(q2:Nat):=h1;have:q2=rows.length:=A0;subst this;refine⟨rfl,.inl ⟨rfl,rfl⟩,fun _=>rfl,.inl ⟨rfl,hn.symm⟩,A0,fun hc=>?_⟩
        have:=hcl hc;have:c=n:=this;omega
       exact⟨r1,q2.trans r2,q3.trans r3⟩
      ·cases h
 cases lo with
 | none=>exact main _ (.inl ⟨none_inv hlo,rfl⟩) h
 | some y=>obtain⟨y',q1,q2⟩:=some_inv hlo;exact main _ (.inr ⟨y',q1,q2⟩) h
end
end
section
open Go
variable [Ora]
section
variable {P:Program} {base:Nat} {ρ ρ':Ren} {m m':Mem} {w w':World}
def S8(R:Nat→Option Obj)(rows:List (List U))(wd:Nat)(C:Array Value)(o:Nat):Prop :=
 (∀ row ∈ rows,row.length=wd)∧∀ (r:Nat) (row:List U) (j:Nat) (u:U) (v:Value),rows[r]? = some row→row[j]? = some u→C[o+r*wd+j]? = some v→Enc R u v
def S8.mono{R R':Nat→Option Obj}{rows:List (List U)}{wd:Nat}{C:o7}(h:S8 R rows wd C o)(hs:Sub R R'):S8 R' rows wd C o:=⟨h.1,fun r row j u v a b c=>(h.2 r row j u v a b c).mono hs⟩
def S8.nil{R:Nat→Option Obj}{wd:Nat}{C:o7}:S8 R [] wd C o:=⟨fun _ h=>by(cases h),fun r row j u v h=>by simp at h⟩
def rV{wd:Nat}:∀ {n:Nat} {l:List U} {r:List (List U)},aW wd n l=some r→r.length=n∧l.length=n*wd∧(∀ row ∈ r,row.length=wd)∧∀ (q:Nat) (row:List U) (j:Nat) (u:U),r[q]? = some row→row[j]? = some u→l[q*wd+j]? = some u
 | 0,[],r,h=>by cases h;exact⟨rfl,by simp,fun _ h=>(by cases h),fun q row j u h=>by simp at h⟩
 | 0,_::_,r,h=>by cases h
 | n+1,l,r,h=>by
   unfold aW at h;split at h
   ·rename_i hle;split at h
    ·rename_i r0 hr;cases h;obtain⟨h1,h2,h3,h4⟩:=rV hr;have hd:l.length=(n+1)*wd:=by
      rw[F4]at h2;rw[J1];omega
     refine⟨by simp[h1],hd,fun row hrow=>?_,fun q row j u g1 g2=>?_⟩
     ·rcases B6.1 hrow with rfl|hrow
      ·simp;omega
      ·exact h3 row hrow
     ·cases q with
      | zero =>
        simp at g1;subst g1;have hj:=(B3.1 g2).1;simp at hj;rw[G1 A0]at g2
        simpa using g2
      | succ q =>
        have:=h4 q row j u (by simpa using g1) g2;rw[J2]at this;rw[show(q+1)*wd+j=wd+(q*wd+j) by rw[J1];omega];exact this
    ·cases h
   ·cases h
def tB{wd:Nat}:∀ (n:Nat) (l:List U),l.length=n*wd→∃ r,aW wd n l=some r
 | 0,[],_=>⟨[],rfl⟩
 | 0,_::_,h=>by simp at h
 | n+1,l,h=>by
   rw[J1]at h;obtain⟨r,hr⟩:=tB (wd:=wd) n (l.drop wd) (by rw[F4];omega);refine⟨l.take wd::r,?_⟩;unfold aW;rw[A4 A0,hr]
def sG{R:Nat→Option Obj}{wd n:Nat}{rows:List (List U)}(h:y0 R us vs)(hc:aW wd n us=some rows):S8 R rows wd ⟨vs⟩ 0:=by
 obtain⟨h1,h2,h3,h4⟩:=rV hc;refine⟨h3,fun r row j u v g1 g2 g3=>h.2 _ u v (h4 r row j u g1 g2) ?_⟩
 simpa using g3
def DA{α:Type}{l:List α}:∀ n,(VL l n).length=n*l.length
 | 0=>by simp[VL]
 | n+1=>by simp[VL,DA n,J1];omega
def kZ(s:List UInt8):(nM s).length=s.length:=by simp[nM]
def PY{R:Nat→Option Obj}(s:List UInt8):S8 R (nM s) 1 ⟨U5 s⟩ 0:=by
 refine⟨fun row hr=>?_,fun r row j u v g1 g2 g3=>?_⟩
 ·unfold nM at hr;obtain⟨b,_,rfl⟩:=T9.1 hr;rfl
 ·unfold nM at g1;rw[H9]at g1;cases hb:s[r]? with
  | none=>rw[hb]at g1;cases g1
  | some b =>
    rw[hb]at g1;simp only[P2,D9]at g1;subst g1;cases j with
    | zero =>
      simp at g2;subst g2;have g3:(U5 s)[0+r*1+0]? = some v:=by simpa using g3
      unfold U5 at g3;rw[H9,show 0+r*1+0=r by omega,hb]at g3;simp only[P2,D9]at g3;subst g3;exact .sc rfl
    | succ j=>simp at g2
def xV{G:Nat→Option Obj}{wd n c:Nat}{rows:List (List U)}(h:Enc G (.seq false wd rows) (.slice (some a) n c))(hG:∀ k ob,G k=some ob→w.heap[k]? = some ob) :
  n=rows.length∧∃ new',new'.length=rows.length*wd∧new'.all cC=true∧S8 G rows wd ⟨new'⟩ 0∧∀ (j:Nat) (v':Value),new'[j]? = some v'→w.cell? (a.add j)=some v':=by
 cases h with
 | sc h=>cases h
 | emp=>exact⟨rfl,[],by simp,rfl,.nil,fun j v' h=>by simp at h⟩
 | sl hc hg hz hw hrow =>
   rename_i a o C T fz;refine⟨rfl,?_⟩;cases hr:rows with
   | nil=>exact⟨[],by simp,rfl,.nil,fun j v' h=>by simp at h⟩
   | cons r0 rr =>
     have hne:rows≠[]:=by rw[hr];simp
     rw[← hr];have hh:=hG _ _ (hg hne);have hz:=hz hne;have hlen:((C.toList.drop o).take (rows.length*wd)).length=rows.length*wd:=by simp;omega
     have hget:∀ j,j<rows.length*wd→((C.toList.drop o).take (rows.length*wd))[j]? = C[o+j]? := fun j hj=>by
      rw[G1 hj,J2];simp
     refine⟨_,hlen,?_,⟨hw,fun r row j u v g1 g2 g3=>?_⟩,fun j v' hj=>?_⟩
     ·refine D7.2 fun v hv=>?_
      obtain⟨j,hj,e⟩:=aZ hv;rw[hlen]at hj;have hv2:C[o+j]? = some v:=by rw[← hget j hj,A7 (by rw[hlen];exact hj),e]
      have hwd:0<wd:=by
       rcases Y5 wd with h0|h0
       ·subst h0;omega
       ·exact h0
      have h1:j / wd<rows.length:=by rw[Nat.div_lt_iff_lt_mul hwd];exact hj
      have h2:(rows[j / wd]).length=wd:=hw _ (S3 h1);have h3:j%wd<wd:=tL _ hwd;refine pU (hrow (j / wd) rows[j / wd] (j%wd) (rows[j / wd])[j%wd] v (A7 h1) (A7 (by rw[h2];exact h3)) ?_);have:o+j / wd*wd+j%wd=o+j:=by have:=Nat.div_add_mod j wd;rw[aU]at this;omega
      rw[this];exact hv2
     ·have hq:0+r*wd+j<rows.length*wd:=by
       have hr1:=(B3.1 g1).1;have hj1:=(B3.1 g2).1;rw[hw _ (E5 g1)]at hj1;have h2:(r+1)*wd≤rows.length*wd:=G7 wd hr1;rw[J1]at h2;omega
      have g3:((C.toList.drop o).take (rows.length*wd))[0+r*wd+j]? = some v:=by simpa using g3
      rw[hget _ hq]at g3;exact hrow r row j u v g1 g2 (by rw[show o+r*wd+j=o+(0+r*wd+j) by omega];exact g3)
     ·have hjl:=(B3.1 hj).1;rw[hlen]at hjl;rw[hget j hjl]at hj;rw[N3.add_none'];simp[World.cell?,hh,hj]
structure A1y (P:Program) (ρ':Ren) (w:World) (wd:Nat) (bh:Beh) (gs:List Nat) (y':Value) (rows2:List (List U)) (new':List Value):Prop where
 len:∀ wd',(Builtin.lenOf y').run P wd'=.ok rows2.length wd'
 first:∀ wd':World,wd'.heap=w.heap→(Builtin.firstCells wd rows2.length y').run P wd'=.ok ⟨new'⟩ wd'
 size:new'.length=rows2.length*wd
 flat:new'.all cC=true
 rows:∀ R,(∀ b ∈ gs,∀ l,ρ' b=some l→Sub l.G R)→S8 R rows2 wd ⟨new'⟩ 0
 ev:∀ c nul rows,Ora.env c=.seq nul wd rows→evU (fR wd (hole c (10+wd)) bh).1 ((fR wd (hole c (10+wd)) bh).2.map (E6 Ora.env))=pY nul wd rows rows2
def JE{R:Nat→Option Obj}(h:y0 R us vs):vs.all cC=true:=by
 refine D7.2 fun v hv=>?_
 obtain⟨j,hj,e⟩:=aZ hv;have hu:j<us.length:=by rw[h.1];exact hj
 exact pU (h.2 j us[j] v (A7 hu) (by rw[A7 hj,e]))
def A0r{td:Td}(htd:FQ P td){e:TypeId}{wd:Nat}{y y':Value}{bh:Beh}{gs:I6}(h:HR P base ρ m.H w)(ho:A6G td P m e wd y=some (bh,gs,sure,m'))(hf:M4 ρ m.n m'.hi)(hy:VR ρ y y')(hS:Sat m'.lg)(hwd:0<wd)(hsz:I4 P e=some wd) :
  ∃ ρ' rows2 new',St P base ρ ρ' m m' w w∧m.lg.le m'.lg∧bG ρ m m'∧(∀ b ∈ gs,Hp.get m'.H b=some .frz∧∃ l,ρ' b=some l)∧A1y P ρ' w wd bh gs y' rows2 new'∧(sure=true→rows2≠[]):=by
 unfold A6G at ho;split at ho
 ·cases ho;cases V1 hy;refine⟨ρ,[],[],St.refl h,.refl _,.refl,fun b hb=>(by cases hb),⟨fun _=>rfl,fun _ _=>rfl,by simp,rfl,fun R _=>.nil,fun c nul rows hc=>?_⟩,fun h=>by cases h⟩;show evU (.snoc wd) [Ora.env c]=_;rw[hc];show(if wd=wd∧wd≠0 then(match aW wd (([]:List U).length / wd) []with|some r=>pY nul wd rows r|none=>.none)else .none)=_;rw[A4 ⟨rfl,A0⟩,G4,Nat.zero_div];rfl
 ·rename_i a n c;split at ho
  ·rename_i cs ts hr hts;split at ho
   ·rename_i xs gs2 m2 hd;cases ho;have hnc:iF m wd (.slice (some a) n c)=some (n,cs):=by simp only[iF,hr]
    obtain⟨f1,new',f2,f3⟩:=zF h hnc hy;obtain⟨ρ2,e1,e2,e3,e4,e5,e6⟩:=mB htd h hd hf f2 hS;have hlt:ts.length=wd:=by have:=mF hts;rw[hsz]at this;exact(A9 this).symm
    have hul:(xs.map (E6 Ora.env)).length=n*wd:=by
     have:=G0 List.length e5;rw[H3,DA,hlt]at this;exact this
    obtain⟨rows2,hch⟩:=tB (wd:=wd) n (xs.map (E6 Ora.env)) hul;obtain⟨g1,g2,g3,g4⟩:=rV hch;refine⟨ρ2,rows2,new',e1,e2,e3,e4,⟨fun wd'=>by rw[g1];exact f1 wd',fun wd' hw'=>by rw[g1];exact f3 wd' hw',?_,?_,fun R hR=>sG (e6 R hR) hch,fun c nul rows hc=>?_⟩,fun hs=>?_⟩
    ·have:=(e6 (fun k=>w.heap[k]?) (fun b hb l hl k o hk=>by
      obtain⟨q1,_⟩:=e4 b hb;exact(e1.hr.atl hl q1).1.2 k o hk)).1
     rw[← this,hul,g1]
    ·exact JE (e6 (fun k=>w.heap[k]?) (fun b hb l hl k o hk=>by
      obtain⟨q1,_⟩:=e4 b hb;exact(e1.hr.atl hl q1).1.2 k o hk))
    ·show evU (.snoc wd) (Ora.env c::xs.map (E6 Ora.env))=_;rw[hc];show(if wd=wd∧wd≠0 then(match aW wd ((xs.map (E6 Ora.env)).length / wd) (xs.map (E6 Ora.env))with|some r=>pY nul wd rows r|none=>.none)else .none)=_;rw[A4 ⟨rfl,A0⟩,hul,bW _ hwd,hch]
    ·have:0<n:=A2 hs;intro he;subst he;simp at g1;omega
   ·cases ho
  ·cases ho
 ·split at ho
  ·rename_i x b m2 hd;cases ho;obtain⟨ρ2,l,e1,e2,e3,e4,e5,e6,e7⟩:=htd.ok h hd hf hy hS;obtain⟨nul2,wd2,rows2,q1,q2⟩:=jU e4 e5 A0;have hw2:wd2=wd:=A0;subst hw2;have hG:=(e1.hr.atl e2 e3).1.2;rw[q1]at e4;have hev:∀ c nul rows,Ora.env c=.seq nul wd2 rows→evU (fR wd2 (hole c (10+wd2)) (.rows x)).1 ((fR wd2 (hole c (10+wd2)) (.rows x)).2.map (E6 Ora.env))=pY nul wd2 rows rows2:=fun c nul rows hc=>by
    show evU (.cat wd2) [Ora.env c,E6 Ora.env x]=_;rw[hc,q1];simp[evU]
   have hreg:∀ b' ∈ [b],Hp.get m'.H b'=some .frz∧∃ l,ρ2 b'=some l:=fun b' hb'=>by
    rcases B6.1 hb' with rfl|hb'
    ·exact⟨e3,l,e2⟩
    ·cases hb'
   rcases cD e4 with⟨rfl,rfl,rfl⟩|⟨rfl,a,c,rfl,hc⟩
   ·exact⟨ρ2,[],[],e1,e6,e7,hreg,⟨fun _=>rfl,fun _ _=>rfl,by simp,rfl,fun R _=>.nil,hev⟩,fun h=>by cases h⟩
   ·obtain⟨_,new',g1,g2,g3,g4⟩:=xV (w:=w) e4 hG;refine⟨ρ2,rows2,new',e1,e6,e7,hreg,⟨fun _=>rfl,fun wd' hw'=>?_,g1,g2,fun R hR=>g3.mono (hR b (.head _) l e2),hev⟩,fun h=>by cases h⟩;rw[show Builtin.firstCells wd2 rows2.length (.slice (some a) rows2.length c)=loadCells a (rows2.length*wd2)from rfl];exact pE g1 fun j v' hj=>by rw[dX hw'];exact g4 j v' hj
  ·cases ho
 ·obtain⟨h1,ho⟩:=A6 ho;obtain⟨h2,h3⟩:=B8 h1;have h4:=A1 h2;have h5:=A1 h3;cases ho;subst h5;obtain⟨s,rfl,f1⟩:=eB hy h4;refine⟨ρ,nM s,U5 s,St.refl h,.refl _,.refl,fun b hb=>(by cases hb),⟨fun _=>?_,fun wd' _=>?_,by simp[nM,U5],?_,fun R _=>PY s,fun c nul rows hc=>?_⟩,fun h=>by cases h⟩
  ·rw[kZ];rfl
  ·rw[kZ];have e:((ByteArray.extract ⟨⟨s⟩⟩ 0 s.length).data.map fun b=>Value.int .u8 b.toNat)=⟨U5 s⟩:=by
    rw[kK];apply L1;simp[U5]
   show(pure ((ByteArray.extract ⟨⟨s⟩⟩ 0 s.length).data.map fun b=>Value.int .u8 b.toNat):Sem o7).run P wd'=_;rw[e];rfl
  ·refine D7.2 fun v hv=>?_
   unfold U5 at hv;obtain⟨b,_,rfl⟩:=T9.1 hv;rfl
  ·show evU .cats [Ora.env c,E6 Ora.env y]=_;rw[hc,f1];simp[evU]
end
end
section
open Go
variable [Ora]
section
variable {P:Program} {base:Nat} {ρ ρ':Ren} {m m':Mem} {w w':World}
def Sub.trans{A B C:Nat→Option Obj}(h:Sub A B)(k:Sub B C):Sub A C:=fun q o hq=>k q o (h q o hq)
structure A6k (P:Program) (base:Nat) (ρ:Ren) (m:Mem) (w:World) (e:TypeId) (wd c:Nat) (gs:List Nat) (old:Option Nat) (x':Value):Prop where
 ex:∃ nul rows,Ora.env c=.seq nul wd rows∧((nul=true∧rows=[]∧x'=.slice none 0 0∧(∀ b,old=some b→∃ ab l,b≤I7∧Hp.get m.H b=some ab∧ab.rw=true∧ρ b=some l∧l.on=false)) ∨
  (nul=false∧∃ b ab l cap C fz,old=some b∧b≤I7∧Hp.get m.H b=some ab∧ab.rw=true∧ρ b=some l∧l.on=true∧x'=.slice (some ⟨l.blk,l.sh,none⟩) rows.length cap∧w.heap[l.blk]? = some (.cells C e fz) ∧
    rows.length≤cap∧l.sh+cap*wd≤C.size∧(∀ i,i<C.size→¬ (fz.1≤i∧i<fz.2))∧∀ R,(∀ b ∈ gs,∀ l,ρ b=some l→Sub l.G R)→S8 R rows wd C l.sh))
def TR{td:Td}(htd:FQ P td){e:TypeId}{wd c:Nat}{x x':Value}{gs:I6}{old:Option Nat}(h:HR P base ρ m.H w)(ho:JZ td P m e wd x=some (c,gs,old,m'))(hf:M4 ρ m.n m'.hi)(hx:VR ρ x x')(hS:Sat m'.lg)(hwd:0<wd)(hsz:I4 P e=some wd) :
  ∃ ρ',St P base ρ ρ' m m' w w∧m.lg.le m'.lg∧bG ρ m m'∧A6k P base ρ' m' w e wd c gs old x':=by
 unfold JZ at ho;split at ho
 ·rw[S6]at ho;simp only[hole]at ho;cases ho;cases V1 hx;obtain⟨e1,e2,_⟩:=nS hS (.refl _);refine⟨ρ,St.wLg h _,m6,bG.lg _,⟨true,[],e1,.inl ⟨rfl,rfl,rfl,fun b hb=>by cases hb⟩⟩⟩
 ·rename_i b i tg;split at ho
  ·rename_i c0 tc T g hg;obtain⟨h1,ho⟩:=A6 ho;obtain⟨h1,h2⟩:=B8 h1;obtain⟨h1,h3⟩:=B8 h1;obtain⟨h2,h4⟩:=B8 h2;have h1:=A1 h1;have h3:=A1 h3;have h2:=A1 h2;have h4:=A2 h4;cases ho;subst h2;obtain⟨hown,htag⟩:=gA hx;rcases hown with⟨l,wd1,g1,g2,g3,rfl⟩|⟨l,wd1,rows1,g1,g2,g3,g4,g40,rfl⟩
   ·obtain⟨wd2,inf,e1,e2,e3,e4⟩:=SqR.ex (h.atl g1 hg).1;rcases e4 with⟨_,e4⟩|⟨e4,_⟩
    ·have:wd2=wd:=A0;subst this;refine⟨ρ,St.refl h,.refl _,.refl,⟨true,[],e4,.inl ⟨rfl,rfl,rfl,fun b' hb'=>?_⟩⟩⟩;cases hb';exact⟨_,l,h4,hg,rfl,g1,g2⟩
    ·rw[g2]at e4;cases e4
   ·obtain⟨wd2,inf,e1,e2,e3,e4⟩:=SqR.ex (h.atl g1 hg).1;rcases e4 with⟨e4,_⟩|⟨_,e4⟩
    ·rw[g2]at e4;cases e4
    ·obtain⟨C,fz,T',rows,lg,f1,f2,f3,f4,f5,f6,f7,f8,f9⟩:=e4;have:wd2=wd:=A0;subst this;obtain⟨rfl,f10⟩:=f9 rfl;exact⟨ρ,St.refl h,.refl _,.refl,⟨false,rows,f2,.inr ⟨rfl,b,_,l,l.cap,C,fz,rfl,h4,hg,rfl,g1,g2,by rw[f3],f1,A0,f5,f10,fun R hR=>⟨f6,fun r row j u v q1 q2 q3=>(f8 r row j u v q1 q2 q3).mono (hR g (.head _) lg f7)⟩⟩⟩⟩
  ·cases ho
 ·rename_i b n c0;split at ho
  ·rename_i cs T0 ro0 ts hg hts;obtain⟨hq,ho1⟩:=A6 ho;obtain⟨hq1,hq2⟩:=B8 hq;have h1:=A1 hq1;clear ho;split at ho1
   ·rename_i xs gs2 m1 hd;split at ho1
    ·rename_i cs1 T hg1;obtain⟨hq3,ho2⟩:=A6 ho1;clear ho1;obtain⟨hq3,h4⟩:=B8 hq3;have h3:=A1 hq3;have h4:=A2 h4;subst h3;rw[S6]at ho2;simp only[hole]at ho2;cases ho2;have hf1:M4 ρ m.n m1.hi:=by simpa using hf
     have hS1:Sat m1.lg:=U9.le hS m6;obtain⟨l,cap,hl,hcap,hcn,hx2⟩:∃ l cap,ρ b=some l∧n≤cap∧(cap=n∨cap=l.cap)∧x'=.slice (some ⟨l.blk,0+l.sh,none⟩) n cap:=by
      rcases(K3 _ _).mp hq2 with hc|hc
      ·obtain⟨hc1,hc2⟩:=B8 hc;have hc1:=A1 hc1;have hc2:c0<R5:=A2 hc2;rcases U1 hx with⟨l,hl,_,hlt,rfl⟩|⟨l,c',hl,_,hge,hnc,hcc,rfl⟩|⟨a',c',_,_,hc,_⟩
       ·exact⟨l,c0,hl,A0,.inl hc1,rfl⟩
       ·omega
       ·omega
      ·have hc:=A1 hc;rcases U1 hx with⟨l,hl,_,hlt,rfl⟩|⟨l,c',hl,_,hge,hnc,hcc,rfl⟩|⟨a',c',_,_,hc2,_⟩
       ·omega
       ·exact⟨l,c',hl,hnc,.inr (hcc hc rfl),rfl⟩
       ·omega
     obtain⟨⟨hon,C,fz,T1,f1,f2,_⟩,_⟩:=h.atl hl hg;obtain⟨cs',f4,f5⟩:=gI (ρ:=ρ) (C:=C) (cs:=cs) (s:=l.sh) f2;obtain⟨ρ1,e1,e2,e3,e4,e5,e6⟩:=mB htd h hd hf1 f4 hS1;obtain⟨⟨_,C1,fz1,T2,g1,g2,g3⟩,_⟩:=e1.hr.atl (e1.ext _ _ hl) hg1;rw[f1]at g1;cases g1;obtain⟨rfl,g4,g5⟩:=g3 rfl;have hts2:=mF hts;rw[hsz]at hts2;have hlt:ts.length=wd:=(A9 hts2).symm;have hul:(xs.map (E6 Ora.env)).length=n*wd:=by
      have:=G0 List.length e5;rw[H3,DA,hlt]at this;exact this
     obtain⟨rows,hch⟩:=tB (wd:=wd) n (xs.map (E6 Ora.env)) hul;obtain⟨q1,q2,q3,q4⟩:=rV hch;obtain⟨d1,d2,_⟩:=nS hS (.refl _);have hc:Ora.env m1.lg.nx=.seq false wd rows:=by
      rw[d1];show(if wd=0 then U.none else match aW wd ((xs.map (E6 Ora.env)).length / wd) (xs.map (E6 Ora.env))with|some r=>.seq false wd r|none=>.none)=_;rw[A3 A0,hul,bW _ hwd,hch]
     have hcl:cs'.length=n*wd:=by rw[← f4.1];exact h1
     obtain⟨inf,hinf,hisz⟩:∃ inf,P.info? T1=some inf∧inf.size=wd:=by
      unfold I4 at hsz;cases hi:P.info? T1 with
      | none=>rw[hi]at hsz;cases hsz
      | some inf=>rw[hi]at hsz;exact⟨inf,rfl,A9 hsz⟩
     have hroom:l.sh+cap*wd≤C.size:=by
      rcases hcn with rfl|rfl
      ·rcases Y5 (cap*wd)with h0|h0
       ·rw[h0]
        have:=g5 inf hinf;rw[hisz]at this;omega
       ·have hlast:cap*wd-1<cs'.length:=A0
        have:=f5 (cap*wd-1) cs'[cap*wd-1] (A7 hlast)
        have:=(E0.1 this).1;omega
      ·have:=g5 inf hinf;rw[hisz]at this;exact this.1
     have hst:=St.wLg e1.hr (iZ m1 (10+wd) (.mk wd) xs);refine⟨ρ1,St.trans (by simpa using hf) e1 hst,e2.trans m6,fun j lj hj hjg=>by rw[oE];exact e3 j lj hj hjg,⟨false,rows,hc,.inr ⟨rfl,b,_,l,cap,C,fz,rfl,h4,by rw[oE];exact hg1,rfl,e1.ext _ _ hl,hon,by rw[hx2,q1,F6],f1,A0,hroom,g4,fun R hR=>?_⟩⟩⟩;obtain⟨r1,r2⟩:=sG (e6 R hR) hch;refine⟨r1,fun r row j u v a1 a2 a3=>r2 r row j u v a1 a2 ?_⟩;have hq:r*wd+j<cs'.length:=by
      have hr1:=(B3.1 a1).1;have hj1:=(B3.1 a2).1;rw[r1 _ (E5 a1)]at hj1;have h2:(r+1)*wd≤rows.length*wd:=G7 wd hr1;rw[J1]at h2;rw[hcl,← q1];omega
     have:=f5 (r*wd+j) cs'[r*wd+j] (A7 hq);rw[show l.sh+r*wd+j=l.sh+(r*wd+j) by omega,this]at a3;have a3:=A9 a3;show(Array.mk cs')[0+r*wd+j]? = some v;rw[L8,show 0+r*wd+j=r*wd+j by omega,A7 hq,a3]
    ·cases ho1
   ·cases ho1
  ·cases ho
 ·cases ho
end
end
end Go.Sx
