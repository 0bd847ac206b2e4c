import Derived.Test.YtdimocjaepnifaaGreatDoorX2
set_option linter.all false
set_option maxRecDepth 100000
set_option maxHeartbeats 4000000
namespace Go.Sx
variable {op:LOp}{s ty:TypeId}{hi i j o tg:Nat}{i' z z':Value}{u:U}{kh kk kl:IntKind}{hi' lo lo' mx mx':T5}{hs r' vs vs' xs:D4}{tys:List TypeId}{a:Addr}{m1:Mem}{row us:List U}{ts:I1}{cl sure:Bool}
section
open Go
variable [Ora]
section
variable {P:Program} {base:Nat} {ρ:Ren} {m m':Mem} {w:World}
def pk(k:IntKind)(n:Int):J1 (.int k n)=true:=rfl
def A0Q{op:UnOp}{x x' v:Value}(h:LF m op x=some (v,m'))(hx:VR ρ x x')(hS:Sat m'.lg)(w:World):∃ r,(Op.unary op x').run P w=.ok r w∧VR ρ v r:=by
 unfold LF at h;simp only at h;split at h
 ·obtain⟨h1,h⟩:=A5 h;obtain⟨b,rfl,e⟩:=jL hx (A0 h1);obtain⟨u,e1,e2,r,e3,e4,_⟩:=N6 h hS;simp only[E9,J7,e,evU,ev1,unM,ofV]at e1;subst e1;cases e3;exact⟨_,(QM (P:=P) (ρ:=ρ) (op:=.not) (x:=.bool b) (v:=.bool !b) rfl (.pure rfl) w).1,e4 ρ⟩
 ·obtain⟨h1,h⟩:=A5 h;obtain⟨k,n,rfl,e,_⟩:=P8 hx (A2 h1);obtain⟨u,e1,e2,r,e3,e4,e5⟩:=N6 h hS;simp only[E9,J7,e,evU,ev1]at e1;subst e1;obtain⟨r',g1,g2⟩:=IH (by rw[e2];exact e5);rw[e3]at g2;cases g2;exact⟨_,(QM (P:=P) (ρ:=ρ) g1 (.pure (pk k n)) w).1,e4 ρ⟩
def QS{t:TypeId}{x x' v:Value}(h:sH P m s t x=some (v,m'))(hx:VR ρ x x')(hS:Sat m'.lg)(w:World):∃ r,(convert s t x').run P w=.ok r w∧VR ρ v r:=by
 unfold sH at h;split at h
 ·rename_i j k hs ht;obtain⟨h1,h⟩:=A5 h;obtain⟨j2,n,rfl,e,_⟩:=P8 hx (A2 h1);obtain⟨u,e1,e2,r,e3,e4,e5⟩:=N6 h hS;simp only[E9,J7,e,evU]at e1;subst e1;cases e3;exact⟨_,by simp[convert,A6,D6 hs,D6 ht,Result.andThen,Conv.intToInt],e4 ρ⟩
 ·rename_i hs ht;obtain⟨h1,h⟩:=A5 h;cases h;obtain⟨b,rfl,e⟩:=cV hx (A0 h1);exact⟨_,by simp[convert,A6,D6 hs,D6 ht,Result.andThen],hx⟩
 ·cases h
def kR{t:Nat}:∀ {cs:D4},u9 t cs=true→∀ {i:Nat} {v:Value},cs[i]? = some v→H5 v=t
 | [],_,i,v,h=>by simp at h
 | c::r,hs,i,v,h=>by
   obtain⟨h1,h2⟩:=B8 (show(Nat.beq (H5 c) t && u9 t r)=true from hs);cases i with
   | zero=>simp at h;subst h;exact A0 h1
   | succ i=>exact kR h2 (by simpa using h)
def A0x{t e:TypeId}{n:Nat}{cs:Z5}{x' i v:Value}(hu:P.underlying t=some (.array n e))(ha:bF P e=some false)(hsz:H7 P e=some 1)(hl:cs.toList.length=n)(htg:u9 tg cs.toList=true)(h10:tg<10)
  (hi8:H5 i<8) (h:Z1 m tg .sel (i::cs.toList)=some (v,m')) (hx:VR ρ (.agg cs) x') (hi:VR ρ i i') (hS:Sat m'.lg) (w:World):∃ r,(Instr.index t x' i').run P w=.ok r w∧VR ρ v r:=by
 obtain⟨k,z,rfl,e,_⟩:=P8 hi hi8;obtain⟨u,e1,e2,r,e3,e4,e5⟩:=N6 h hS;simp only[E9,e]at e1;cases z with
 | negSucc z=>simp only[evU]at e1;subst e1;cases e3
 | ofNat z =>
   simp only[evU]at e1;by_cases hz:z<cs.toList.length
   ·have hget:cs.toList[z]? = some cs.toList[z]:=A8 hz;have htag:=kR htg hget;have hm:nQ P t (.agg cs) (.int k (.ofNat z))=some cs.toList[z]:=by
     have hb:Nat.blt z n=true:=C8 A1;simp only[nQ,hu,hsz,hb,F0,sY,ha,Nat.mul_one];exact hget
    obtain⟨v',g1,g2⟩:=vF (P:=P) hm hx (.pure rfl) w;obtain⟨f1,_⟩:=aW g2 A1;have:u=E5 Ora.env cs.toList[z]:=by
     rw[← e1,B4,H6,hget];rfl
    rw[this,f1]at e3;cases e3;exact⟨_,g1,e4 ρ⟩
   ·rw[B4,S0 (by simp at hz ⊢;omega)]at e1;subst e1;cases e3
def EN{e:TypeId}(h:Nat.beq (u6.sizeD P e) 1=true):H7 P e=some 1:=by
 have h:=A0 h;unfold u6.sizeD at h;split at h
 ·rename_i n hn;rw[hn,h]
 ·cases h
def LI{t:TypeId}{x x' i v:Value}(h:u6 P m t x i=some (v,m'))(hx:VR ρ x x')(hi:VR ρ i i')(hS:Sat m'.lg)(w:World):∃ r,(Instr.index t x' i').run P w=.ok r w∧VR ρ v r:=by
 unfold u6 at h;cases hq:!(Nat.blt (H5 i) 8)with
 | true=>rw[hq]at h;cases h
 | false =>
   have hi8:H5 i<8:=by
    have:Nat.blt (H5 i) 8=true:=by simpa using hq
    exact A2 this
   rw[hq]at h;simp only[E7]at h;split at h
   ·rename_i hu;obtain⟨h1,h⟩:=A5 h;obtain⟨s,rfl,f1⟩:=cV hx (A0 h1);obtain⟨k,z,rfl,f2,_⟩:=P8 hi hi8;obtain⟨u,e1,e2,r,e3,e4,e5⟩:=N6 h hS;simp only[E9,J7,f1,f2]at e1;cases z with
    | negSucc z=>simp only[evU]at e1;subst e1;cases e3
    | ofNat z =>
      simp only[evU]at e1;split at e1
      ·rename_i b hb;subst e1;cases e3;have hm:nQ P t (.string ⟨⟨s⟩⟩) (.int k (.ofNat z))=some (.int .u8 b.toNat):=by
        simp only[nQ,hu,hb]
       obtain⟨v',g1,g2⟩:=vF (P:=P) (ρ:=ρ) hm (.pure rfl) (.pure rfl) w;cases K4 g2;exact⟨_,g1,e4 ρ⟩
      ·subst e1;cases e3
   ·rename_i n e hu;split at h
    ·rename_i cs k he;obtain⟨h1,h⟩:=A5 h;obtain⟨h1,h3⟩:=B8 h1;obtain⟨h1,h2⟩:=B8 h1;exact A0x hu (by simp[bF,he]) (EN h3) (A0 h1) h2 (by have:=N0 k;omega) hi8 h hx hi hS w
    ·rename_i cs he;obtain⟨h1,h⟩:=A5 h;obtain⟨h1,h3⟩:=B8 h1;obtain⟨h1,h2⟩:=B8 h1;exact A0x hu (by simp[bF,he]) (EN h3) (A0 h1) h2 A1 hi8 h hx hi hS w
    ·cases h
   ·cases h
def QU{t:TypeId}(hu:P.underlying t=some .string){s:List UInt8}{l h:Int}{r:Value}(e1:XN s l h=u)(e3:toV u=some r):dT P t (.string ⟨⟨s⟩⟩) (some (.int kl l)) (some (.int kh h)) none=some r:=by
 unfold XN at e1;split at e1
 ·rename_i l h;split at e1
  ·rename_i hh;subst e1;cases e3;have b1:Nat.ble h (ByteArray.size ⟨⟨s⟩⟩)=true:=C8 hh.2;have b2:Nat.ble l h=true:=C8 hh.1;simp only[dT,hu,X0,b1,b2,F0]
  ·subst e1;cases e3
 ·subst e1;cases e3
def LG{t:TypeId}{x x' v:Value}{hi:T5}(h:mQ P m t x lo hi mx=some (v,m'))(hx:VR ρ x x')(hlo:OR ρ lo lo')(hhi:OR ρ hi hi')(hmx:OR ρ mx mx')(hS:Sat m'.lg)(w:World) :
  ∃ r,(Instr.sliceAt t x' lo' hi' mx').run P w=.ok r w∧VR ρ v r:=by
 have none_inv:∀ {o:T5},OR ρ none o→o=none:=fun{o} h=>by cases o<;>first|rfl|exact h.elim
 have some_inv:∀ {y:Value} {o:T5},OR ρ (some y) o→∃ y',o=some y'∧VR ρ y y':=fun{y o} h=>by cases o<;>first|exact h.elim|exact⟨_,rfl,h⟩
 unfold mQ at h;split at h
 ·rename_i hu;cases none_inv hmx;obtain⟨h1,h⟩:=A5 h;obtain⟨s,rfl,f1⟩:=cV hx (A0 h1);have str_of:∀ {y:Value},VR ρ (.string ⟨⟨s⟩⟩) y→y=.string ⟨⟨s⟩⟩:=fun h=>Y8 h
  split at h
  ·cases h;cases none_inv hlo;cases none_inv hhi;have hm:dT P t (.string ⟨⟨s⟩⟩) none none none=some (.string ⟨⟨s⟩⟩):=by
    have e:ByteArray.size ⟨⟨s⟩⟩=s.length:=rfl;simp[dT,hu,X0,e]
   obtain⟨v',g1,g2⟩:=jN (P:=P) (ρ:=ρ) (lo':=none) (hi':=none) (mx':=none) hm (.pure rfl) trivial trivial trivial w;cases Y8 g2;exact⟨_,g1,hx⟩
  ·obtain⟨h2,h⟩:=A5 h;obtain⟨l',rfl,hl⟩:=some_inv hlo;cases none_inv hhi;obtain⟨k,z,rfl,f2,_⟩:=P8 hl (A2 h2);obtain⟨u,e1,e2,r,e3,e4,e5⟩:=N6 h hS;simp only[E9,J7,f1,f2,evU]at e1;have hm:=QU (P:=P) (kl:=k) (kh:=.i64) hu e1 e3;have hm2:dT P t (.string ⟨⟨s⟩⟩) (some (.int k z)) none none=some r:=by
    rw[← hm];have e:ByteArray.size ⟨⟨s⟩⟩=s.length:=rfl;have b:Nat.ble s.length s.length=true:=C8 (B0 _);have e6:((s.length:Nat):Int)=Int.ofNat s.length:=rfl;simp only[dT,hu,X0,e,e6,b,F0]
   obtain⟨v',g1,g2⟩:=jN (P:=P) (ρ:=ρ) (lo':=some (.int k z)) (hi':=none) (mx':=none) hm2 (.pure rfl) (VR.pure rfl:VR ρ _ _) trivial trivial w;have:VR ρ r v':=g2;have hp:=jH e3;cases g2 with
   | pure _=>exact⟨_,g1,e4 ρ⟩
   | _=>simp[J1,ixp,Go.Sx.dat,Go.Sx.clp,Go.Sx.own,Go.Sx.dpt,Go.Sx.opt,Go.Sx.yv,Go.Sx.sdt]at hp
  ·obtain⟨h2,h⟩:=A5 h;obtain⟨h',rfl,hh⟩:=some_inv hhi;cases none_inv hlo;obtain⟨k,z,rfl,f2,_⟩:=P8 hh (A2 h2);obtain⟨u,e1,e2,r,e3,e4,e5⟩:=N6 h hS;have f0:E5 Ora.env (.int .i64 0)=.int .i64 0:=rfl;simp only[E9,J7,f1,f2,f0,evU]at e1;have hm:=QU (P:=P) (kl:=.i64) (kh:=k) hu e1 e3;have hm2:dT P t (.string ⟨⟨s⟩⟩) none (some (.int k z)) none=some r:=by
    rw[← hm];have e6:(0:Int)=Int.ofNat 0:=rfl;cases z with
    | negSucc z=>simp only[dT,hu,X0]
    | ofNat z =>
      have b0:Nat.ble 0 z=true:=C8 (U9 _);simp only[dT,hu,X0,e6];cases Nat.ble z (ByteArray.size ⟨⟨s⟩⟩)<;>simp[b0]
   obtain⟨v',g1,g2⟩:=jN (P:=P) (ρ:=ρ) (lo':=none) (hi':=some (.int k z)) (mx':=none) hm2 (.pure rfl) trivial (VR.pure rfl:VR ρ _ _) trivial w;have hp:=jH e3;cases g2 with
   | pure _=>exact⟨_,g1,e4 ρ⟩
   | _=>simp[J1,ixp,Go.Sx.dat,Go.Sx.clp,Go.Sx.own,Go.Sx.dpt,Go.Sx.opt,Go.Sx.yv,Go.Sx.sdt]at hp
  ·obtain⟨h2,h⟩:=A5 h;obtain⟨h2,h3⟩:=B8 h2;obtain⟨h',rfl,hh⟩:=some_inv hhi;obtain⟨l',rfl,hl⟩:=some_inv hlo;obtain⟨k,z,rfl,f2,_⟩:=P8 hl (A2 h2);obtain⟨j,y,rfl,f3,_⟩:=P8 hh (A2 h3);obtain⟨u,e1,e2,r,e3,e4,e5⟩:=N6 h hS;simp only[E9,J7,f1,f2,f3,evU]at e1;have hm:=QU (P:=P) (kl:=k) (kh:=j) hu e1 e3;obtain⟨v',g1,g2⟩:=jN (P:=P) (ρ:=ρ) (lo':=some (.int k z)) (hi':=some (.int j y)) (mx':=none) hm (.pure rfl) (VR.pure rfl:VR ρ _ _) (VR.pure rfl:VR ρ _ _) trivial w;have hp:=jH e3;cases g2 with
   | pure _=>exact⟨_,g1,e4 ρ⟩
   | _=>simp[J1,ixp,Go.Sx.dat,Go.Sx.clp,Go.Sx.own,Go.Sx.dpt,Go.Sx.opt,Go.Sx.yv,Go.Sx.sdt]at hp
 ·cases h
def DK{b:Builtin}{ks:Array Bool}{v:Value}(hr:HR P base ρ m.H w)(h:fY P m b vs tys=some (v,m'))(hx:LR ρ vs vs')(hS:Sat m'.lg) :
  ∃ s:Sem Value,builtin b ⟨tys⟩ ty ks ⟨vs'⟩=(do pure (.value (← s)))∧∃ r,s.run P w=.ok r w∧VR ρ v r:=by
 unfold fY at h;split at h
 ·obtain⟨x',r1,rfl,h1,h2⟩:=hx.tail;cases h2.nil_inv;split at h
  ·rename_i hu;obtain⟨h3,h⟩:=A5 h;obtain⟨s,rfl,f1⟩:=cV h1 (A0 h3);obtain⟨u,e1,e2,r,e3,e4,e5⟩:=N6 h hS;simp only[E9,J7,f1,evU]at e1;subst e1;cases e3;rename_i t rest _ _;have hm:A19 P m t (.string ⟨⟨s⟩⟩)=some (.int .i64 s.length):=by simp[A19,hu]
   obtain⟨g1,_⟩:=VF (ρ:=ρ) (ty:=ty) (tys:=rest) hr hm (.pure rfl);exact⟨_,rfl,_,g1,e4 ρ⟩
  ·cases h
 ·obtain⟨x',r1,rfl,h1,h2⟩:=hx.tail;obtain⟨y',r2,rfl,h3,h4⟩:=h2.tail;cases h4.nil_inv;obtain⟨h5,h⟩:=A5 h;obtain⟨h5,h6⟩:=B8 h5;have h5:=A2 h5;have h6:=A0 h6;obtain⟨k,a,rfl,f1,q1⟩:=P8 h1 h5;obtain⟨j,c,rfl,f2,q2⟩:=P8 h3 (h6▸h5);obtain⟨u,e1,e2,r,e3,e4,e5⟩:=N6 h hS;simp only[E9,J7,f1,f2,evU]at e1;subst e1;cases e3;obtain⟨g1,_⟩:=VA (P:=P) (ρ:=ρ) (ty:=ty) (tys:=⟨tys⟩) (vs:=[.int k a,.int j c]) rfl (.cons (.pure rfl) (.cons (.pure rfl) .nil)) w;exact⟨_,rfl,_,g1,e4 ρ⟩
 ·obtain⟨x',r1,rfl,h1,h2⟩:=hx.tail;obtain⟨y',r2,rfl,h3,h4⟩:=h2.tail;cases h4.nil_inv;obtain⟨h5,h⟩:=A5 h;obtain⟨h5,h6⟩:=B8 h5;have h5:=A2 h5;have h6:=A0 h6;obtain⟨k,a,rfl,f1,q1⟩:=P8 h1 h5;obtain⟨j,c,rfl,f2,q2⟩:=P8 h3 (h6▸h5);obtain⟨u,e1,e2,r,e3,e4,e5⟩:=N6 h hS;simp only[E9,J7,f1,f2,evU]at e1;subst e1;cases e3;obtain⟨g1,_⟩:=UZ (P:=P) (ρ:=ρ) (ty:=ty) (tys:=⟨tys⟩) (vs:=[.int k a,.int j c]) rfl (.cons (.pure rfl) (.cons (.pure rfl) .nil)) w;exact⟨_,rfl,_,g1,e4 ρ⟩
 ·cases h
def XE{v:Value}{k:IntKind}{n:Int}(h:E5 Ora.env v=.int k n):rA Ora.env v=some n:=by
 cases v with
 | complex k i t =>
   cases k with
   | f64 =>
     have h:Ora.env i=.int _ n:=h;simp only[rA,h]
   | f32=>cases h
 | int j n=>cases h;rfl
 | _=>cases h
def KG{v:Value}{n:Int}(h:rA Ora.env v=some n):∃ k,E5 Ora.env v=.int k n:=by
 cases v with
 | complex k i t =>
   cases k with
   | f64 =>
     simp only[rA]at h;split at h
     ·rename_i k z he;cases h;exact⟨k,he⟩
     ·cases h
   | f32=>cases h
 | int j n=>cases h;exact⟨j,rfl⟩
 | _=>cases h
def VP{s n:Nat}{i v:Value}(h:YV m a s n i=some (v,m'))(hi:VR ρ i i')(hS:Sat m'.lg):v=ixp a s i n∧∃ k z,i'=.int k (.ofNat z)∧z<n∧rA Ora.env i=some (.ofNat z):=by
 unfold YV at h;cases hq:!(Nat.blt (H5 i) 8)with
 | true=>rw[hq]at h;cases h
 | false =>
   have hi8:H5 i<8:=by
    have:Nat.blt (H5 i) 8=true:=by simpa using hq
    exact A2 this
   rw[hq]at h;simp only[E7]at h;split at h
   ·rename_i b H k W hh lg hl;split at h
    ·rename_i lg' hb;cases h;obtain⟨u,e1,e2,r,e3,e4,_⟩:=N6 hl (U3.le hS (oI hb));have hbt:=qZ (ρ:=ρ) hb (e4 ρ) hS;subst hbt;obtain⟨k0,z,rfl,f1,_⟩:=P8 hi hi8;have f0:E5 Ora.env (.int .i64 (.ofNat n))=.int .i64 (.ofNat n):=rfl;simp only[E9,J7,f1,f0,evU]at e1;subst e1;have e3:(decide (0≤z) && decide (z<Int.ofNat n))=true:=by
      have:=B1 e3;exact Value.bool.inj this
     simp only[I7,decide_eq_true_eq]at e3;cases z with
     | negSucc z=>exact absurd e3.1 (by simp)
     | ofNat z=>exact⟨rfl,k0,z,rfl,by have:=e3.2;simpa using this,XE f1⟩
    ·cases h
   ·cases h
def DG{t:TypeId}{x x' i v:Value}(h:fW P m t x i=some (v,m'))(hx:VR ρ x x')(hi:VR ρ i i')(hS:Sat m'.lg)(w:World):∃ r,(Instr.indexAt t x' i').run P w=.ok r w∧VR ρ v r:=by
 unfold fW at h;split at h
 ·rename_i n e a hu;split at h
  ·rename_i s hs hsp;obtain⟨rfl,k,z,rfl,hz,he⟩:=VP h hi hS;obtain⟨l,hl,_,rfl⟩:=R9 hx;have hb:Nat.blt z n=true:=C8 hz;have hm:g8 P t (.pointer (some a)) (.int k (.ofNat z))=some (.pointer (some ⟨a.block,a.off+z*s,none⟩)):=by
    simp only[g8,hu,hs,hsp,hb,F0,cG,F5]
   obtain⟨v',g1,g2⟩:=dJ (P:=P) hm hx (.pure rfl) w;obtain⟨l2,hl2,_,rfl⟩:=R9 g2;have hl2:ρ a.block=some l2:=hl2;rw[hl]at hl2;cases hl2;exact⟨_,g1,.ixp hl hsp he hz rfl⟩
  ·cases h
 ·rename_i e a n c hu;split at h
  ·rename_i s hs hsp;cases hc:Nat.beq c (O6+2)with
   | true=>rw[hc]at h;cases h
   | false =>
     rw[hc]at h;obtain⟨rfl,k,z,rfl,hz,he⟩:=VP h hi hS;have hb:Nat.blt z n=true:=C8 hz;have hm:g8 P t (.slice (some a) n c) (.int k (.ofNat z))=some (.pointer (some ⟨a.block,a.off+z*s,none⟩)):=by
      simp only[g8,hu,hs,hsp,hb,F0,cG,F5]
     obtain⟨v',g1,g2⟩:=dJ (P:=P) hm hx (.pure rfl) w;obtain⟨l2,hl2,_,rfl⟩:=R9 g2;have hl2:ρ a.block=some l2:=hl2;exact⟨_,g1,.ixp hl2 hsp he hz rfl⟩
  ·cases h
 ·cases h
def VS{s n:Nat}{i v':Value}(h:VR ρ (ixp a s i n) v'):∃ l z,ρ a.block=some l∧a.spot=none∧rA Ora.env i=some (.ofNat z)∧z<n∧v'=.pointer (some ⟨l.blk,a.off+z*s+l.sh,none⟩):=by
 generalize hx:ixp a s i n=x at h;cases h with
 | ixp h hs hi hz hv =>
   simp only[ixp,Value.func.injEq,o8,I8,Value.pointer.injEq,D7,Value.int.injEq,mB,true_and,and_true]at hx;obtain⟨rfl,rfl,rfl,rfl⟩:=hx;exact⟨_,_,h,hs,hi,hz,hv⟩
 | pure hp=>subst hx;simp[ixp,J1]at hp
 | _=>simp[ixp,Go.Sx.dat,Go.Sx.clp,Go.Sx.own,Go.Sx.dpt,Go.Sx.opt,Go.Sx.yv,Go.Sx.sdt]at hx
def DI{x x' v:Value}(h:fX P m s x i=some (v,m'))(hx:VR ρ x x')(w:World):∃ r,(Instr.fieldAt s x' i).run P w=.ok r w∧VR ρ v r:=by
 unfold fX at h;split at h
 ·rename_i a k j n;split at h
  ·rename_i fs hu;split at h
   ·rename_i f hf hsp;split at h
    ·rename_i z hz;cases h;obtain⟨l,y,h1,h2,h3,h4,rfl⟩:=VS (n:=n) (s:=k) (i:=j) hx;have hm:dK P s (.pointer (some ⟨a.block,a.off+y*k,none⟩)) i=some (.pointer (some ⟨a.block,a.off+y*k+f.offset,none⟩)):=by
      simp only[dK,hu,hf,hz,cG,F5]
     obtain⟨v',g1,g2⟩:=nV (P:=P) (ρ:=ρ) hm (.ptr h1) w;obtain⟨l2,hl2,_,rfl⟩:=R9 g2;have hl2:ρ a.block=some l2:=hl2;rw[h1]at hl2;cases hl2;refine⟨_,g1,?_⟩;simp only[cG,F5];refine .ixp (a:=⟨a.block,a.off+f.offset,none⟩) h1 rfl h3 h4 ?_;simp only[Value.pointer.injEq,D7,Addr.mk.injEq,true_and,and_true];omega
    ·cases h
   ·cases h
  ·cases h
 ·cases h
def wG{cs:D4}{s:Nat}:∀ {n o:Nat} {l:D4},yN cs s o n=some l→l.length=n∧∀ z,z<n→cs[o+z*s]? = l[z]?
 | 0,o,l,h=>by cases h;exact⟨rfl,fun z hz=>by omega⟩
 | n+1,o,l,h=>by
   unfold yN at h;split at h
   ·rename_i v r hv hr;cases h;obtain⟨h1,h2⟩:=wG hr;refine⟨by simp[h1],fun z hz=>?_⟩;cases z with
    | zero=>simpa using hv
    | succ z =>
      have:=h2 z A1;rw[Nat.succ_mul,show o+(z*s+s)=o+s+z*s by omega]
      simpa using this
   ·cases h
def wI{cs cs':D4}{s n:Nat}{i:Value}{z:Nat}(he:rA Ora.env i=some (.ofNat z))(hz:z<n)(hl:LR ρ cs cs'):∀ {k o:Nat} {m m':Mem} {r:D4},dF m cs s n i o k=some (r,m')→Sat m'.lg →
  LR ρ r ((cs'.drop (o+z*s)).take k)∧r.length=k
 | 0,o,m,m',r,h,hS=>by cases h;exact⟨by simpa using LR.nil,rfl⟩
 | k+1,o,m,m',r,h,hS=>by
   unfold dF at h;split at h
   ·rename_i v l hstr;obtain⟨hq,h⟩:=A5 h;obtain⟨hq,h10⟩:=B8 hq;have h10:H5 v<10:=A2 h10;split at h
    ·rename_i hh m1 h1;split at h
     ·rename_i r2 m2 h2;cases h;obtain⟨ih1,ih2⟩:=wI he hz hl h2 hS;obtain⟨u,e1,e2,rr,e3,e4,_⟩:=N6 h1 (U3.le hS (iI h2).1);obtain⟨g1,g2⟩:=wG hstr;have hget:=g2 z hz;have hzl:z<(v::l).length:=by rw[g1];exact hz
      rw[A8 hzl]at hget;obtain⟨c',f1,f2⟩:=hl.get hget;have htag:=kR hq (A8 hzl);obtain⟨t1,_⟩:=aW f2 A1;obtain⟨ki,ei⟩:=KG he;simp only[E9,ei,evU]at e1;have e1:u=E5 Ora.env (v::l)[z]:=by
       rw[← e1];show(List.map (E5 Ora.env) (v::l)).getD z .none=_;rw[B4,H6,A8 hzl];rfl
      rw[e1,t1]at e3;cases e3;refine⟨?_,by simp[ih2]⟩;have:(cs'.drop (o+z*s)).take (k+1)=rr::(cs'.drop (o+1+z*s)).take k:=by
       rw[r9 (B2.1 f1).1,List.take_succ_cons,(B2.1 f1).2,show o+z*s+1=o+1+z*s by omega]
      rw[this];exact .cons (e4 ρ) ih1
     ·cases h
    ·cases h
   ·cases h
def VC{t:TypeId}{l:Loc}{z s n k:Nat}{i:Value}{cs:D4}(h:HR P base ρ m.H w)(hr:aO m a ((n-1)*s+k)=some cs)(hl:ρ a.block=some l)(he:rA Ora.env i=some (.ofNat z))(hz:z<n)(hc:dF m cs s n i 0 k=some (hs,m'))(hS:Sat m'.lg) :
  ∃ rs,LR ρ hs rs∧rs.length=k∧∀ (j:Nat) (v':Value),rs[j]? = some v'→w.cell? ⟨l.blk,a.off+z*s+l.sh+j,none⟩=some v':=by
 obtain⟨r',h1,h2,h3⟩:=p8 h hr hl;obtain⟨g1,g2⟩:=wI he hz h1 hc hS;rw[G0]at g1;refine⟨_,g1,g1.1▸g2,fun j v' hj=>?_⟩;have hjk:j<k:=by
  have:=(B2.1 hj).1;simp at this;omega
 rw[F9 hjk,H9]at hj
 have:=h3 _ v' hj;rw[show a.off+z*s+l.sh+j=a.off+l.sh+(z*s+j) by omega];exact this
def QQ{t:TypeId}{x x' v:Value}(h:HR P base ρ m.H w)(ho:sG P m t x=some (v,m'))(hx:VR ρ x x')(hS:Sat m'.lg):∃ r,(Instr.loadAt t x').run P w=.ok r w∧VR ρ v r:=by
 unfold sG at ho;split at ho
 ·rename_i a s i n;obtain⟨l,z,h1,h2,h3,h4,rfl⟩:=VS (n:=n) (s:=s) (i:=i) hx;split at ho
  ·rename_i ha;split at ho
   ·rename_i cs hr;split at ho
    ·rename_i hh m2 hc;cases ho;obtain⟨rs,g1,g2,g3⟩:=VC (t:=t) h hr h1 h3 h4 hc hS;obtain⟨v',r2,rfl,e1,e2⟩:=g1.tail;refine⟨v',?_,e1⟩
     have:=g3 0 v' rfl;simp[Instr.loadAt,Instr.sureAddr,loadVar,A6,cW ha,Result.andThen,run_load,show w.cell? ⟨l.blk,a.off+z*s+l.sh,none⟩=some v' from by simpa using this]
    ·cases ho
   ·cases ho
  ·rename_i zz ha hn;split at ho
   ·rename_i cs hr;split at ho
    ·rename_i hh m2 hc;cases ho;obtain⟨rs,g1,g2,g3⟩:=VC (t:=t) h hr h1 h3 h4 hc hS;refine⟨.agg ⟨rs⟩,?_,.agg g1.1 g1.2⟩;simp[Instr.loadAt,Instr.sureAddr,loadVar,A6,cW ha,M1 hn,Result.andThen,L5 g2 g3]
    ·cases ho
   ·cases ho
  ·cases ho
 ·cases ho
def A4m{fr:Fr}{g:Operand→Value}{o:Oper}{v:Value}(h:HR P base ρ m.H w)(ho:A0S P fr m o.op=some (v,m'))(hg:FR ρ fr g o.op)(hS:Sat m'.lg):NOk P base ρ m w (execOp g o) v m':=by
 obtain⟨_,lg,rfl⟩:=TU ho;have hst:St P base ρ ρ m (m.wLg lg) w w:=St.wLg h lg;obtain⟨dst,op,ty,pos,af,gd⟩:=o;simp only at ho hg;have hx1:∀ {x},x ∈ op.operands.toList→VR ρ (ev fr x) (g x):=fun hx=>hg _ hx
 have fin:∀ {s:Sem Value},(∃ r,s.run P w=.ok r w∧VR ρ v r)→NOk P base ρ m w (do pure (.value (← s))) v (m.wLg lg):=fun{s} ⟨r,h1,h2⟩=>NOk.of ⟨r,ρ,w,h1,h2,hst⟩
 unfold A0S at ho;split at ho
 ·rename_i c a b;have hc:=hx1 (x:=c) (by simp[Op.operands]);unfold yM at ho;obtain⟨H,n,W,hi,l0⟩:=m;simp only at ho;split at ho
  ·rename_i l1 hb;simp only[D7,O7]at ho;obtain⟨rfl,ho⟩:=ho;have hS1:Sat l1:=by
    have:l1=(Mem.wLg ⟨H,n,W,hi,l0⟩ lg).lg:=by rw[← ho]
    rw[this];exact hS
   have:=qZ hb hc hS1;exact⟨g a,ρ,w,.inl (by simp[execOp,this,asBool]),hx1 (by simp[Op.operands]),hst⟩
  ·rename_i l1 hb;simp only[D7,O7]at ho;obtain⟨rfl,ho⟩:=ho;have hS1:Sat l1:=by
    have:l1=(Mem.wLg ⟨H,n,W,hi,l0⟩ lg).lg:=by rw[← ho]
    rw[this];exact hS
   have:=qZ hb hc hS1;exact⟨g b,ρ,w,.inl (by simp[execOp,this,asBool]),hx1 (by simp[Op.operands]),hst⟩
  ·cases ho
 ·rename_i op t x y yt;have hx:=hx1 (x:=x) (by simp[Op.operands]);have hy:=hx1 (x:=y) (by simp[Op.operands]);refine fin (s:=do eqGuard op t x y (g x) (g y);binOp op t (g x) (g y)) ?_;split at ho
  ·rename_i r hr;cases ho;exact XL hr hx hy hS w
  ·rename_i hr;exact A0T ho hx hy hr hS w
 ·rename_i op t x;exact fin (s:=Op.unary op (g x)) (A0Q ho (hx1 (by simp[Op.operands])) hS w)
 ·exact fin (QS ho (hx1 (by simp[Op.operands])) hS w)
 ·rename_i t x lo hi mx;exact fin (s:=Instr.sliceAt t (g x) (lo.map g) (hi.map g) (mx.map g)) (LG ho (hx1 (x:=x) (by simp[Op.operands])) (lF (g:=g) fun y hy=>hx1 (by simp[Op.operands]at hy ⊢;exact .inr (.inl hy))) (lF (g:=g) fun y hy=>hx1 (by simp[Op.operands]at hy ⊢;exact .inr (.inr (.inl hy)))) (lF (g:=g) fun y hy=>hx1 (by simp[Op.operands]at hy ⊢;exact .inr (.inr (.inr hy)))) hS w)
 ·exact fin (LI ho (hx1 (by simp[Op.operands])) (hx1 (by simp[Op.operands])) hS w)
 ·exact fin (DG ho (hx1 (by simp[Op.operands])) (hx1 (by simp[Op.operands])) hS w)
 ·exact fin (DI ho (hx1 (by simp[Op.operands])) w)
 ·rename_i t x;exact fin (s:=Instr.loadAt t (g x)) (QQ h ho (hx1 (by simp[Op.operands])) hS)
 ·rename_i b xs tys;have l1:=dY (ρ:=ρ) (fr:=fr) (g:=g) (xs:=xs.toList) fun x hx=>hx1 (by show x ∈ (#[]++xs:Array Operand).toList;simpa using hx)
  obtain⟨ks,e2⟩:∃ ks,execOp g ⟨dst,.call ⟨.builtin b,xs,tys⟩,ty,pos,af,gd⟩=builtin b tys ty ks (xs.map g):=⟨_,rfl⟩;obtain⟨s,e,hs⟩:=DK (ty:=ty) (ks:=ks) h ho l1 hS;have e1:xs.map g=⟨xs.toList.map g⟩:=by apply K1;simp
  rw[e2,e1];have e3:tys=⟨tys.toList⟩:=rfl;rw[e3,e];exact fin hs
 ·cases ho
end
end
section
open Go
variable [Ora]
section
variable {P:Program} {base:Nat} {ρ ρ':Ren} {m m':Mem} {w w':World}
def L6.step(hf:L6 ρ m.n hi)(st:St P base ρ ρ' m m1 w w'):L6 ρ' m1.n hi:=fun b h1 h2=>by
 cases hb:ρ' b with
 | none=>rfl
 | some l =>
   cases h0:ρ b with
   | some l0=>rw[hf b (C4 st.nle h1) h2]at h0;cases h0
   | none=>have:=(st.new b l hb h0).2;omega
def L6.less{n hi':Nat}(hf:L6 ρ n hi)(h:hi'≤hi):L6 ρ n hi':=fun b h1 h2=>hf b h1 (E1 h2 h)
def hJ(m:Mem)(t:Nat)(op:LOp)(xs:List Value):Lg:=⟨m.lg.nx+1,m.lg.pi,.dt m.lg.nx t op xs::m.lg.log⟩
def P9{t:Nat}{k:Nat→Mem→Res}:xV m t op xs k=k m.lg.nx (m.wLg (hJ m t op xs)):=by
 obtain⟨H,n,W,hi,⟨nx,pi,log⟩⟩:=m;simp only[xV,F5,I6];rfl
def NR{t:Nat}{k:Nat→Mem→Option (D4×Mem)}:g9.letDo t op xs m k=k m.lg.nx (m.wLg (hJ m t op xs)):=by
 obtain⟨H,n,W,hi,⟨nx,pi,log⟩⟩:=m;simp only[g9.letDo,F5,I6];rfl
@[simp] theorem s5(lg:Lg):(m.wLg lg).lg=lg:=by cases m;rfl
@[simp] theorem pU(lg:Lg):(m.wLg lg).H=m.H:=by cases m;rfl
@[simp] theorem ZT(lg:Lg):(m.wLg lg).n=m.n:=by cases m;rfl
@[simp] theorem QI(lg:Lg):(m.wLg lg).hi=m.hi:=by cases m;rfl
@[simp] theorem B57(lg:Lg):(m.wLg lg).W=m.W:=by cases m;rfl
def Z0{t:Nat} :m.lg.le (m.wLg (hJ m t op xs)).lg:=by
 rw[s5];exact⟨[_],rfl⟩
def lX{t:Nat}{lg:Lg}(hS:Sat lg)(hl:(m.wLg (hJ m t op xs)).lg.le lg):Ora.env m.lg.nx=evU op (xs.map (E5 Ora.env))∧G7 (Ora.env m.lg.nx)=t∧∃ nul wd rows,Ora.env m.lg.nx=.seq nul wd rows∧t=10+wd:=by
 obtain⟨h1,h2,nul,wd,rows,h3⟩:=hS _ (hl.subset (by rw[s5];exact C5));exact⟨h1,h2,nul,wd,rows,h3,by rw[← h2,h3];rfl⟩
def eX{b:Nat}(h:qO m b=true):Hp.get m.H b=some .frz:=by
 unfold qO at h;split at h
 ·assumption
 ·cases h
def VX{b:Nat}(h:qO m b=true):b≤I4:=by
 unfold qO at h;split at h
 ·exact A2 h
 ·cases h
def A2p{b:Nat}(hr:HR P base ρ m.H w)(h:qO m b=true):∃ l,ρ b=some l:=by
 obtain⟨l,h1,_⟩:=hr.at_ b (VX h) _ (eX h);exact⟨l,h1⟩
def T6{k:Nat→Mem→Option (Value×Nat×Mem)}{r:Value×Nat×Mem}(h:iY m k=some r):∃ m1,p9 m .frz (fun _=>undef)=some (undef,m1)∧k m.n m1=some r∧m1.H=m.H.set m.n (some .frz)∧m.n≤I4∧m1.lg=m.lg:=by
 obtain⟨H,n,W,hi,lg⟩:=m;simp only[iY,F5,gF]at h;obtain⟨h1,h2⟩:=A5 h;refine⟨_,?_,h2,rfl,A2 h1,rfl⟩;simp only[p9,F5,gF,h1,F0]
def mE(G:Nat→Option Obj):Loc:=⟨0,0,0,0,G,false⟩
def St.region{G:Nat→Option Obj}(h:HR P base ρ m.H w)(hn:p9 m .frz (fun _=>undef)=some (undef,m1))(hf:L6 ρ m.n m1.hi)
  (hG:∀ k o,G k=some o→w.heap[k]? = some o∧∃ id ab l,id≤I4∧Hp.get m.H id=some ab∧ρ id=some l∧Tf ab l k∧ab.rw=false) :
  upd ρ m.n (mE G) m.n=some (mE G)∧Hp.get m1.H m.n=some .frz∧St P base ρ (upd ρ m.n (mE G)) m m1 w w:=by
 obtain⟨h1,h2,h3⟩:=St.new0 (l':=mE G) h hn hf ⟨rfl,fun k o hk=>(hG k o hk).1⟩ rfl fun q hq=>by
  rcases hq with⟨hq,_⟩|⟨_,o,hq⟩
  ·cases hq
  ·obtain⟨g1,id,ab,l,g2,g3,g4,g5,g6⟩:=hG q o hq;refine⟨⟨id,ab,l,g2,g3,g4,g5⟩,fun id2 hid2 a l2 ha hl hr ho e=>?_⟩
   have:=((h.atl hl ha).2 hr ho).2 id g2 ab l g3 g4 (e▸g5.2);subst this;rw[g3]at ha;have ha:=B1 ha;subst ha;rw[g6]at hr;cases hr
 refine⟨h2,?_,h3⟩;obtain⟨hle,_,rfl⟩:=N5 hn;show Hp.get (m.H.set m.n (some .frz)) m.n=_;rw[F7 _ _ _ _ hle hle,A4 rfl]
theorem pJ{b i t:Nat}{v':Value}(h:VR ρ (dat b i t) v'):∃ l,ρ b=some l∧Enc l.G (Ora.env i) v'∧G7 (Ora.env i)=t∧10≤t:=by
 generalize hx:dat b i t=x at h;cases h with
 | dat h he ht h10 hf =>
   simp only[dat,Value.func.injEq,o8,I8,Value.pointer.injEq,D7,Addr.mk.injEq,Value.complex.injEq,true_and,and_true]at hx;obtain⟨rfl,rfl,rfl⟩:=hx;exact⟨_,h,he,ht,h10⟩
 | pure hp=>subst hx;simp[dat,J1]at hp
 | _=>simp[ixp,Go.Sx.dat,Go.Sx.clp,Go.Sx.own,Go.Sx.dpt,Go.Sx.opt,Go.Sx.yv,Go.Sx.sdt]at hx
theorem iM{b i t:Nat}{v':Value}(h:VR ρ (clp b i t) v'):∃ l,ρ b=some l∧Enc l.G (Ora.env i) v'∧G7 (Ora.env i)=t∧10≤t∧A3o v':=by
 generalize hx:clp b i t=x at h;cases h with
 | clp h he ht h10 hf hc =>
   simp only[clp,Value.func.injEq,o8,I8,Value.pointer.injEq,D7,Addr.mk.injEq,Value.complex.injEq,true_and,and_true]at hx;obtain⟨rfl,rfl,rfl⟩:=hx;exact⟨_,h,he,ht,h10,hc⟩
 | pure hp=>subst hx;simp[clp,J1]at hp
 | _=>simp[ixp,Go.Sx.dat,Go.Sx.clp,Go.Sx.own,Go.Sx.dpt,Go.Sx.opt,Go.Sx.yv,Go.Sx.sdt]at hx
theorem iL{b i t:Nat}{v':Value}(h:VR ρ (own b i t) v'):A1p ρ b (Ora.env i) v'∧G7 (Ora.env i)=t:=by
 generalize hx:own b i t=x at h;cases h with
 | own h ht hf =>
   simp only[own,Value.func.injEq,o8,I8,Value.pointer.injEq,D7,Addr.mk.injEq,Value.complex.injEq,true_and,and_true]at hx;obtain⟨rfl,rfl,rfl⟩:=hx;exact⟨h,ht⟩
 | pure hp=>subst hx;simp[own,J1]at hp
 | _=>simp[ixp,Go.Sx.dat,Go.Sx.clp,Go.Sx.own,Go.Sx.dpt,Go.Sx.opt,Go.Sx.yv,Go.Sx.sdt]at hx
def IY{b t:Nat}{v':Value}(h:VR ρ (dpt b i t z o) v'):B3e ρ b (Ora.env i) (rA Ora.env z) o v'∧G7 (Ora.env i)=t:=by
 generalize hx:dpt b i t z o=x at h;cases h with
 | dpt h ht hf =>
   simp only[dpt,Value.func.injEq,o8,I8,Value.pointer.injEq,D7,Addr.mk.injEq,Value.complex.injEq,Value.int.injEq,mB,true_and,and_true]at hx;obtain⟨rfl,⟨rfl,rfl⟩,rfl,rfl⟩:=hx;exact⟨h,ht⟩
 | pure hp=>subst hx;simp[dpt,J1]at hp
 | _=>simp[ixp,Go.Sx.dat,Go.Sx.clp,Go.Sx.own,Go.Sx.dpt,Go.Sx.opt,Go.Sx.yv,Go.Sx.sdt]at hx
def yX{b t:Nat}{v':Value}(h:VR ρ (opt b i t z o) v'):B2T ρ b (Ora.env i) (rA Ora.env z) o v'∧G7 (Ora.env i)=t:=by
 generalize hx:opt b i t z o=x at h;cases h with
 | opt h ht hf =>
   simp only[opt,Value.func.injEq,o8,I8,Value.pointer.injEq,D7,Addr.mk.injEq,Value.complex.injEq,Value.int.injEq,mB,true_and,and_true]at hx;obtain⟨rfl,⟨rfl,rfl⟩,rfl,rfl⟩:=hx;exact⟨h,ht⟩
 | pure hp=>subst hx;simp[opt,J1]at hp
 | _=>simp[ixp,Go.Sx.dat,Go.Sx.clp,Go.Sx.own,Go.Sx.dpt,Go.Sx.opt,Go.Sx.yv,Go.Sx.sdt]at hx
def GA{b c tc g t:Nat}{T:TypeId}{v':Value}(h:HR P base ρ m.H w)(hg:Hp.get m.H b=some (.sq c tc T g true))(hv:VR ρ (own b i t) v')(htc:tc=t)(hgf:Hp.get m.H g=some .frz)
  (hn:p9 m .frz (fun _=>undef)=some (undef,m1)) (hf:L6 ρ m.n m1.hi):∃ l,St P base ρ (upd ρ m.n l) m m1 w w∧upd ρ m.n l m.n=some l∧Hp.get m1.H m.n=some .frz∧Enc l.G (Ora.env c) v'∧G7 (Ora.env c)=t:=by
 obtain⟨hown,htag⟩:=iL hv;rcases hown with⟨l,wd,h1,h2,h3,rfl⟩|⟨l,wd,rows,h1,h2,h3,h4,h40,rfl⟩
 ·obtain⟨hbr,_⟩:=h.atl h1 hg;obtain⟨wd2,inf,e1,e2,e3,e4⟩:=SqR.ex hbr;rcases e4 with⟨_,e4⟩|⟨e4,_⟩
  ·obtain⟨g1,g2,g3⟩:=St.region (G:=fun _=>none) h hn hf (fun k o hk=>by cases hk);exact⟨_,g3,g1,g2,by rw[e4];exact .nil,by rw[e4,← htc,e1];rfl⟩
  ·rw[h2]at e4;cases e4
 ·obtain⟨hbr,_⟩:=h.atl h1 hg;obtain⟨wd2,inf,e1,e2,e3,e4⟩:=SqR.ex hbr;rcases e4 with⟨e4,_⟩|⟨_,e4⟩
  ·rw[h2]at e4;cases e4
  ·obtain⟨C,fz,T',rows2,lg,f1,f2,f3,f4,f5,f6,f7,f8,f9⟩:=e4;obtain⟨hbg,_⟩:=h.atl f7 hgf;have hcomp:∀ k o,lg.G k=some o→w.heap[k]? = some o:=hbg.2;let G:Nat→Option Obj:=fun k=>if k=l.blk then some (.cells C T' fz)else lg.G k
   have hsub:∀ k o,lg.G k=some o→G k=some o:=fun k o hk=>by
    show(if k=l.blk then _ else _)=_;by_cases e:k=l.blk
    ·subst e;rw[A4 rfl]
     have:=hcomp _ _ hk;rw[f1]at this;exact this
    ·rw[A3 e];exact hk
   obtain⟨g1,g2,g3⟩:=St.region (G:=G) h hn hf fun k o hk=>by
    have hk:(if k=l.blk then some (.cells C T' fz)else lg.G k)=some o:=hk;by_cases e:k=l.blk
    ·subst e;rw[A4 rfl]at hk;exact⟨by rw[f1];exact hk,b,_,l,h.dom _ _ h1,hg,h1,⟨rfl,.inl ⟨rfl,h2,rfl⟩⟩,rfl⟩
    ·rw[A3 e]at hk;exact⟨hcomp _ _ hk,g,_,lg,h.dom _ _ f7,hgf,f7,⟨rfl,.inr ⟨rfl,o,hk⟩⟩,rfl⟩
   refine⟨_,g3,g1,g2,?_,by rw[f2,← htc,e1];rfl⟩;rw[f2,← f3];refine .sl (G:=G) (C:=C) (T:=T') (fz:=fz) A1 (fun _=>?_) (fun _=>?_) f6 fun r row j u v q1 q2 q3=>(f8 r row j u v q1 q2 q3).mono hsub
   ·show(if l.blk=l.blk then _ else _)=_;rw[A4 rfl]
   ·have:=G2 wd2 f4;rw[← f3]at this;omega
def BR.thaw{c t g:Nat}{T:TypeId}{l:Loc}(h:BR P ρ (.sq c t T g false) l w):BR P ρ (.sq c t T g true) l w:=by
 obtain⟨wd,inf,h1,h2,h3,h4⟩:=SqR.ex h;refine⟨⟨wd,inf,h1,h2,h3,h4.imp (fun x=>x) fun⟨hon,h5⟩=>⟨hon,?_⟩⟩⟩;obtain⟨C,fz,T',rows,lg,h1,h2,h3,h4,h5,h6,h7,h8,h9⟩:=h5;exact⟨C,fz,T',rows,lg,h1,h2,h3,h4,h5,h6,h7,h8,fun h=>by cases h⟩
def AD{id:Nat}{ab:AB}(h:gA m id ab=some m')(hj:j≤I4):Hp.get m'.H j=if j=id then some ab else Hp.get m.H j:=by
 obtain⟨hle,rfl⟩:=X5 h;exact F7 _ _ _ _ hle hj
def nF{ab:AB}{k:Nat→Value}{v:Value}(h:p9 m ab k=some (v,m'))(hj:j≤I4):Hp.get m'.H j=if j=m.n then some ab else Hp.get m.H j:=by
 obtain⟨hle,_,rfl⟩:=N5 h;exact F7 _ _ _ _ hle hj
def HO{t:Nat}{v v' x:Value}{b:Nat}(h:HR P base ρ m.H w)(ho:toD t v m=some (x,b,m'))(hf:L6 ρ m.n m'.hi)(hv:VR ρ v v')(hS:Sat m'.lg) :
  ∃ ρ' l,St P base ρ ρ' m m' w w∧ρ' b=some l∧Hp.get m'.H b=some .frz∧Enc l.G (E5 Ora.env x) v'∧G7 (E5 Ora.env x)=t∧m.lg.le m'.lg:=by
 unfold toD at ho;split at ho
 ·rename_i b0 i tg;obtain⟨h1,h2⟩:=A5 ho;cases h2;obtain⟨h1,h2⟩:=B8 h1;have h1:=A0 h1;obtain⟨l,e1,e2,e3,e4⟩:=pJ hv;exact⟨ρ,l,St.refl h,e1,eX h2,e2,e3.trans h1,.refl _⟩
 ·rename_i b0 i tg;obtain⟨h1,h2⟩:=A5 ho;cases h2;obtain⟨h1,h2⟩:=B8 h1;have h1:=A0 h1;obtain⟨l,e1,e2,e3,e4,_⟩:=iM hv;exact⟨ρ,l,St.refl h,e1,eX h2,e2,e3.trans h1,.refl _⟩
 ·rename_i b0 i tg;split at ho
  ·rename_i c tc T g hg;obtain⟨h1,h2⟩:=A5 ho;obtain⟨h1,h3⟩:=B8 h1;obtain⟨h1,h4⟩:=B8 h1;have h1:=A0 h1;have h4:=A0 h4;obtain⟨m1,q1,q2,_,_,q5⟩:=T6 h2;cases q2;subst h1;obtain⟨l,e1,e2,e3,e4,e5⟩:=GA h hg hv h4 (eX h3) q1 hf;exact⟨_,l,e1,e2,e3,e4,e5,by rw[q5];exact .refl _⟩
  ·rename_i c tc T g hg;obtain⟨h1,h2⟩:=A5 ho;obtain⟨h1,h3⟩:=B8 h1;have hgm:=VX h3;obtain⟨h1,h4⟩:=B8 h1;have h1:=A0 h1;have h4:=A0 h4;split at h2
   ·rename_i m1 hs;obtain⟨m2,q1,q2,_,_,q5⟩:=T6 h2;cases q2;subst h1;have hbl:∃ l0,ρ b0=some l0:=by
     rcases(iL hv).1 with⟨l,_,h1,_⟩|⟨l,_,_,h1,_⟩<;>exact⟨l,h1⟩
    obtain⟨l0,hl0⟩:=hbl;have hgl:=(h.atl hl0 hg).1;have hst:=St.same0 h hs hg rfl hl0 hgl.thaw (fun q hq=>by
     rcases hq with⟨_,a,b⟩|⟨a,_⟩
     ·exact .inl ⟨rfl,a,b⟩
     ·cases a)
    have hle:=(X5 hs).1;have hne:g≠b0:=fun e=>by subst e;rw[eX h3]at hg;cases hg
    have hg1:Hp.get m1.H b0=some (.sq c tc T g true):=by rw[AD hs hle,A4 rfl]
    have hfz1:Hp.get m1.H g=some .frz:=by rw[AD hs hgm,A3 hne];exact eX h3
    have hn1:m1.n=m.n:=by rw[(X5 hs).2]
    obtain⟨l,e1,e2,e3,e4,e5⟩:=GA hst.hr hg1 hv h4 hfz1 q1 (by rw[hn1];exact hf);refine⟨_,l,St.trans hf hst e1,e2,e3,e4,e5,by rw[q5,(X5 hs).2];exact .refl _⟩
   ·cases h2
  ·cases ho
 ·obtain⟨h10,ho⟩:=A5 ho;have h10:=A2 h10;rw[P9]at ho;simp only at ho;obtain⟨m1,q1,q2,_,_,q5⟩:=T6 ho;cases q2;cases S4 hv;have hlog:(m.wLg (hJ m t (.nilw (t-10)) [])).lg.le m'.lg:=by rw[q5];exact .refl _
  obtain⟨e1,e2,_⟩:=lX hS hlog;have hst:=St.wLg h (hJ m t (.nilw (t-10)) []);obtain⟨g1,g2,g3⟩:=St.region (G:=fun _=>none) hst.hr q1 (by simpa using hf) (fun k o hk=>by cases hk);refine⟨_,_,St.trans (by simpa using hf) hst g3,g1,g2,?_,e2,Z0.trans hlog⟩;show Enc _ (Ora.env m.lg.nx) _;rw[e1];exact .nil
 ·cases ho
end
end
section
open Go
variable [Ora]
section
variable {P:Program} {base:Nat} {ρ ρ':Ren} {m m':Mem} {w w':World}
def x3(ρ:Ren)(m m':Mem):Prop:=∀ j l,ρ j=some l→Hp.get m.H j=some .frz→Hp.get m'.H j=some .frz
def x3.refl:x3 ρ m m:=fun _ _ _ h=>h
def x3.trans(he:∀ b l,ρ b=some l→ρ' b=some l)(a:x3 ρ m m1)(c:x3 ρ' m1 m'):x3 ρ m m':=fun j l h1 h2=>c j l (he j l h1) (a j l h1 h2)
def x3.lg(lg:Lg):x3 ρ m (m.wLg lg):=fun j l _ h=>by rw[pU];exact h
def NW{ab:AB}{k:Nat→Value}{v:Value}(h:HR P base ρ m.H w)(hn:p9 m ab k=some (v,m'))(hf:L6 ρ m.n m'.hi):x3 ρ m m':=fun j l h1 h2=>by
 rw[nF hn (h.dom j l h1),A3]
 ·exact h2
 ·intro e;subst e;obtain⟨_,_,rfl⟩:=N5 hn;rw[hf m.n (B0 _) (M5 _ _).2]at h1;cases h1
def A2E{ab:AB}{id:Nat}(h:HR P base ρ m.H w)(hs:gA m id ab=some m')(hne:Hp.get m.H id≠some .frz):x3 ρ m m':=fun j l h1 h2=>by
 rw[AD hs (h.dom j l h1),A3]
 ·exact h2
 ·intro e;subst e;exact hne h2
def LA{t:Nat}{v x:Value}{b:Nat}(h:HR P base ρ m.H w)(ho:toD t v m=some (x,b,m'))(hf:L6 ρ m.n m'.hi):x3 ρ m m':=by
 unfold toD at ho;split at ho
 ·obtain⟨h1,h2⟩:=A5 ho;cases h2;exact .refl
 ·obtain⟨h1,h2⟩:=A5 ho;cases h2;exact .refl
 ·split at ho
  ·obtain⟨h1,h2⟩:=A5 ho;obtain⟨m1,q1,q2,_⟩:=T6 h2;cases q2;exact NW h q1 hf
  ·rename_i c tc T g hg;obtain⟨h1,h2⟩:=A5 ho;split at h2
   ·rename_i m1 hs;obtain⟨m2,q1,q2,_⟩:=T6 h2;cases q2;have hk:=A2E h hs (by rw[hg];intro h;cases h);intro j l e1 e2;have e3:=hk j l e1 e2;rw[nF q1 (h.dom j l e1),A3]
    ·exact e3
    ·intro e;subst e;have hn1:m1.n=m.n:=by rw[(X5 hs).2]
     obtain⟨_,_,rfl⟩:=N5 q1;rw[hf m1.n A1 (M5 _ _).2]at e1;cases e1
   ·cases h2
  ·cases ho
 ·obtain⟨h10,ho⟩:=A5 ho;rw[P9]at ho;simp only at ho;obtain⟨m1,q1,q2,_⟩:=T6 ho;cases q2;intro j l e1 e2;rw[nF q1 (h.dom j l e1),A3,pU]
  ·exact e2
  ·intro e;subst e;have hn1:(m.wLg (hJ m t (.nilw (t-10)) [])).n=m.n:=by simp
   obtain⟨_,_,rfl⟩:=N5 q1;rw[hf _ A1 (M5 _ _).2]at e1;cases e1
 ·cases ho
def m7(R:Nat→Option Obj)(us:List U)(vs:List Value):Prop:=us.length=vs.length∧∀ (i:Nat) (u:U) (v:Value),us[i]? = some u→vs[i]? = some v→Enc R u v
omit [Ora] in
def m7.nil{R:Nat→Option Obj}:m7 R [] []:=⟨rfl,fun i u v h=>by simp at h⟩
omit [Ora] in
def m7.cons{R:Nat→Option Obj}{v:Value}(h:Enc R u v)(k:m7 R us vs):m7 R (u::us) (v::vs):=⟨by simp[k.1],fun i a b h1 h2=>by
 cases i with
 | zero=>simp at h1 h2;subst h1;subst h2;exact h
 | succ i=>exact k.2 i a b (by simpa using h1) (by simpa using h2)⟩
def Sub(G R:Nat→Option Obj):Prop:=∀ k o,G k=some o→R k=some o
def jJ{t:Nat}{v x:Value}{b:Nat}{m m':Mem}(ho:toD t v m=some (x,b,m')):m.hi≤m'.hi∧m.lg.le m'.lg∧m.n≤m'.n:=by
 have hfz:∀ {m m1:Mem},p9 m .frz (fun _=>undef)=some (undef,m1)→m.hi≤m1.hi∧m.lg.le m1.lg∧m.n≤m1.n:=fun hn=>by
  obtain⟨_,_,rfl⟩:=N5 hn;exact⟨(M5 _ _).1,.refl _,c8 _⟩
 unfold toD at ho;split at ho
 ·obtain⟨h1,h2⟩:=A5 ho;cases h2;exact⟨B0 _,.refl _,B0 _⟩
 ·obtain⟨h1,h2⟩:=A5 ho;cases h2;exact⟨B0 _,.refl _,B0 _⟩
 ·split at ho
  ·obtain⟨h1,h2⟩:=A5 ho;obtain⟨m1,q1,q2,_⟩:=T6 h2;cases q2;exact hfz q1
  ·obtain⟨h1,h2⟩:=A5 ho;split at h2
   ·rename_i m1 hs;obtain⟨m2,q1,q2,_⟩:=T6 h2;cases q2
    have:=hfz q1;obtain⟨_,rfl⟩:=X5 hs;exact this
   ·cases h2
  ·cases ho
 ·obtain⟨h10,ho⟩:=A5 ho;rw[P9]at ho;simp only at ho;obtain⟨m1,q1,q2,_⟩:=T6 ho;cases q2
  have:=hfz q1;exact⟨by simpa using this.1,Z0.trans this.2.1,by simpa using this.2.2⟩
 ·cases ho
structure CW (P:Program) (td:Td):Prop where
 ok:∀ {base:Nat} {ρ:Ren} {m m':Mem} {w:World} {t:Nat} {v v' x:Value} {b:Nat},HR P base ρ m.H w→td t v m=some (x,b,m')→L6 ρ m.n m'.hi→VR ρ v v'→Sat m'.lg →
  ∃ ρ' l,St P base ρ ρ' m m' w w∧ρ' b=some l∧Hp.get m'.H b=some .frz∧Enc l.G (E5 Ora.env x) v'∧G7 (E5 Ora.env x)=t∧m.lg.le m'.lg∧x3 ρ m m'
 mono:∀ {m m':Mem} {t:Nat} {v x:Value} {b:Nat},td t v m=some (x,b,m')→m.hi≤m'.hi∧m.lg.le m'.lg∧m.n≤m'.n
def A0M:CW P toD:=⟨fun h ho hf hv hS=>let ⟨ρ',l,a1,a2,a3,a4,a5,a6⟩:=HO h ho hf hv hS;⟨ρ',l,a1,a2,a3,a4,a5,a6,LA h ho hf⟩,fun h=>jJ h⟩
def V0{td:Td}(htd:CW P td):∀ {ts:I1} {vs xs:D4} {gs:I1} {m m':Mem},DE td ts vs m=some (xs,gs,m')→m.hi≤m'.hi∧m.lg.le m'.lg∧m.n≤m'.n
 | [],[],_,_,_,_,h=>by cases h;exact⟨B0 _,.refl _,B0 _⟩
 | t::ts,v::vs,xs,gs,m,m',ho=>by
   unfold DE at ho;cases ht:Nat.blt t 10 with
   | true =>
     rw[ht]at ho;simp only[F0]at ho;obtain⟨h1,ho⟩:=A5 ho;split at ho
     ·rename_i hr;cases ho;exact V0 htd hr
     ·cases ho
   | false =>
     rw[ht]at ho;simp only[E7]at ho;split at ho
     ·rename_i hd;split at ho
      ·rename_i hr;cases ho;have a:=htd.mono hd;have b:=V0 htd hr;exact⟨C4 a.1 b.1,a.2.1.trans b.2.1,C4 a.2.2 b.2.2⟩
      ·cases ho
     ·cases ho
 | [],_::_,_,_,_,_,ho=>by cases ho
 | _::_,[],_,_,_,_,ho=>by cases ho
def kL{td:Td}(htd:CW P td):∀ {ts:I1} {vs vs' xs:D4} {gs:I1} {m m':Mem} {ρ:Ren},HR P base ρ m.H w→DE td ts vs m=some (xs,gs,m')→L6 ρ m.n m'.hi→LR ρ vs vs'→Sat m'.lg →
  ∃ ρ',St P base ρ ρ' m m' w w∧m.lg.le m'.lg∧x3 ρ m m'∧(∀ b ∈ gs,Hp.get m'.H b=some .frz∧∃ l,ρ' b=some l)∧(xs.map (E5 Ora.env)).map G7=ts ∧
   ∀ R,(∀ b ∈ gs,∀ l,ρ' b=some l→Sub l.G R)→m7 R (xs.map (E5 Ora.env)) vs'
 | [],[],vs',xs,gs,m,m',ρ,h,ho,hf,hv,hS=>by
   cases ho;exact⟨ρ,St.refl h,.refl _,.refl,fun b hb=>(by cases hb),rfl,fun R _=>by rw[hv.nil_inv];exact .nil⟩
 | t::ts,v::vs,vs',xs,gs,m,m',ρ,h,ho,hf,hv,hS=>by
   obtain⟨v',r',rfl,hv1,hv2⟩:=hv.tail;unfold DE at ho;cases ht:Nat.blt t 10 with
   | true =>
     rw[ht]at ho;simp only[F0]at ho;obtain⟨h1,ho⟩:=A5 ho;have h1:=A0 h1;have h10:t<10:=A2 ht;split at ho
     ·rename_i r gs2 m2 hr;cases ho;obtain⟨ρ2,e1,e2,e3,e4,e5,e6⟩:=kL htd h hr hf hv2 hS;obtain⟨f1,f2⟩:=aW hv1 A1;exact⟨ρ2,e1,e2,e3,e4,by simp[f2,h1,e5],fun R hR=>.cons (.sc f1) (e6 R hR)⟩
     ·cases ho
   | false =>
     rw[ht]at ho;simp only[E7]at ho;split at ho
     ·rename_i hh b m1 hd;split at ho
      ·rename_i r gs2 m2 hr;cases ho;have hmono:m1.hi≤m'.hi∧m1.lg.le m'.lg∧m1.n≤m'.n:=V0 htd hr;have hf1:L6 ρ m.n m1.hi:=hf.less hmono.1;obtain⟨ρ1,l,a1,a2,a3,a4,a5,a6,a7⟩:=htd.ok h hd hf1 hv1 (hS.le hmono.2.1);have hf2:L6 ρ1 m1.n m'.hi:=hf.step a1;obtain⟨ρ2,e1,e2,e3,e4,e5,e6⟩:=kL htd a1.hr hr hf2 (hv2.mono a1.ext) hS;refine⟨ρ2,St.trans hf a1 e1,a6.trans e2,a7.trans a1.ext e3,fun b' hb'=>?_,by simp[a5,e5],fun R hR=>.cons (a4.mono (hR b (.head _) l (e1.ext _ _ a2))) (e6 R fun b' hb'=>hR b' (.tail _ hb'))⟩;rcases C6.1 hb' with rfl|hb'
       ·exact⟨e3 _ l a2 a3,l,e1.ext _ _ a2⟩
       ·exact e4 b' hb'
      ·cases ho
     ·cases ho
 | [],_::_,_,_,_,_,_,_,_,ho,_,_,_=>by cases ho
 | _::_,[],_,_,_,_,_,_,_,ho,_,_,_=>by cases ho
def gO{gs:I1}{g:Nat}(h:HR P base ρ m.H w)(ho:lT gs m=some (g,m'))(hf:L6 ρ m.n m'.hi) :
  ∃ ρ' lg,St P base ρ ρ' m m' w w∧m'.lg=m.lg∧x3 ρ m m'∧ρ' g=some lg∧Hp.get m'.H g=some .frz∧∀ b ∈ gs,∀ l,ρ b=some l→Sub l.G lg.G:=by
 have main:∀ {gs:I1},(bif gs.all (qO m)then match iY m fun b m=>some (undef,b,m)with
  | some (_,b,m)=>some (b,m)
  | none=>none else none)=some (g,m')→∃ ρ' lg,St P base ρ ρ' m m' w w∧m'.lg=m.lg∧x3 ρ m m'∧ρ' g=some lg∧Hp.get m'.H g=some .frz∧∀ b ∈ gs,∀ l,ρ b=some l→Sub l.G lg.G:=fun{gs} ho=>by
  obtain⟨h1,ho⟩:=A5 ho;split at ho
  ·rename_i r b m1 hn;cases ho;obtain⟨m2,q1,q2,_,_,q5⟩:=T6 hn;cases q2;have hall:∀ b ∈ gs,Hp.get m.H b=some .frz:=fun b hb=>eX (E4.1 h1 b hb)
   classical
   let G:Nat→Option Obj:=fun k=>if ∃ b ∈ gs,∃ l o,ρ b=some l∧l.G k=some o then w.heap[k]? else none
   obtain⟨g1,g2,g3⟩:=St.region (G:=G) h q1 hf fun k o hk=>by
    have hk:(if ∃ b ∈ gs,∃ l o,ρ b=some l∧l.G k=some o then w.heap[k]? else none)=some o:=hk;split at hk
    ·rename_i hex;obtain⟨b,hb,l,o2,e1,e2⟩:=hex;exact⟨hk,b,_,l,h.dom _ _ e1,hall b hb,e1,⟨rfl,.inr ⟨rfl,o2,e2⟩⟩,rfl⟩
    ·cases hk
   refine⟨_,mE G,g3,q5,NW h q1 hf,g1,g2,fun b hb l hl k o hk=>?_⟩;show(if ∃ b ∈ gs,∃ l o,ρ b=some l∧l.G k=some o then w.heap[k]? else none)=_;rw[A4 ⟨b,hb,l,o,hl,hk⟩];exact(h.atl hl (hall b hb)).1.2 k o hk
  ·cases ho
 unfold lT at ho;split at ho
 ·rename_i g0;obtain⟨h1,ho⟩:=A5 ho;cases ho;obtain⟨l,hl⟩:=A2p h h1;refine⟨ρ,l,St.refl h,rfl,.refl,hl,eX h1,fun b hb l2 hl2=>?_⟩;rcases C6.1 hb with rfl|hb
  ·rw[hl]at hl2
   have:=B1 hl2;subst this;exact fun _ _ h=>h
  ·cases hb
 ·exact main ho
omit [Ora] in
def pL{R:Nat→Option Obj}{v r:Value}(h:Enc R u v)(hr:toV u=some r):v=r:=by
 cases h with
 | sc h=>rw[h]at hr;exact B1 hr
 | nil=>cases hr
 | emp=>cases hr
 | sl=>cases hr
omit [Ora] in
def oB{R:Nat→Option Obj}{v:Value}(h:Enc R u v):bJ v=true:=by
 cases h with
 | sc h=>have:=jH h;cases v<;>first|rfl|cases this
 | nil=>rfl
 | emp=>rfl
 | sl=>rfl
def A5x{wd k:Nat}{rows:List (List U)} :evU (.get wd o) [.seq false wd rows,.int kk (.ofNat k)]=(rows.getD k []).getD o .none:=by
 simp[evU]
def getD_some(h:row.getD o .none≠.none):row[o]? = some (row.getD o .none):=by
 rw[B4]at *;cases e:row[o]? with
 | none=>rw[e]at h;exact absurd rfl h
 | some u=>rfl
def iN{wd o i t g k:Nat}{z:Value}{lg:Loc}{rows:List (List U)}{cell:Nat→T5}(hi:Ora.env i=.seq false wd rows)(hz:rA Ora.env z=some (.ofNat k))(hg:ρ g=some lg)
  (hc:∀ q u,(rows.getD k [])[q]? = some u→∃ v,cell q=some v∧Enc lg.G u v) :
  ∀ {ts:I1} {j:Nat} {m m':Mem} {r:D4},g9 wd o i t z g ts j m=some (r,m')→Sat m'.lg→∃ r',LR ρ r r'∧r'.length=ts.length∧(∀ q v',r'[q]? = some v'→cell (o+j+q)=some v')∧L3 m m'∧m.lg.le m'.lg
 | [],j,m,m',r,h,hS=>by
   cases h;exact⟨[],.nil,rfl,fun q v' h=>by simp at h,.refl _,.refl _⟩
 | tg::ts,j,m,m',r,h,hS=>by
   unfold g9 at h;obtain⟨kk,hz2⟩:=KG hz;have harg:[hole i t,z].map (E5 Ora.env)=[.seq false wd rows,.int kk (.ofNat k)]:=by
    simp only[E9,J7,hz2];show[Ora.env i,_]=_;rw[hi]
   have hcell:∀ {u:U},u≠.none→evU (.get wd (o+j)) ([hole i t,z].map (E5 Ora.env))=u→∃ v,cell (o+j)=some v∧Enc lg.G u v:=fun{u} hu he=>by
    rw[harg,A5x]at he;subst he;exact hc _ _ (getD_some hu)
   cases ht:Nat.blt tg 10 with
   | true =>
     rw[ht]at h;simp only[F0]at h;have h10:tg<10:=A2 ht;split at h
     ·rename_i hh m1 hl;split at h
      ·rename_i r2 m2 hr;cases h;obtain⟨r',e1,e2,e3,e4,e5⟩:=iN hi hz hg hc hr hS;obtain⟨u,f1,f2,v,f3,f4,f5⟩:=N6 hl (hS.le e5);obtain⟨v2,g1,g2⟩:=hcell (u:=u) (by intro e;subst e;cases f3) f1
       have:=pL g2 f3;subst this;refine⟨v2::r',.cons (f4 ρ) e1,by simp[e2],fun q v' hq=>?_,(J3 hl).trans e4,(K2 hl).trans e5⟩;cases q with
       | zero=>simp at hq;subst hq;exact g1
       | succ q=>rw[show o+j+(q+1)=o+(j+1)+q by omega];exact e3 q v' (by simpa using hq)
      ·cases h
     ·cases h
   | false =>
     rw[ht]at h;simp only[E7]at h;rw[NR]at h;split at h
     ·rename_i r2 m2 hr;cases h;obtain⟨r',e1,e2,e3,e4,e5⟩:=iN hi hz hg hc hr hS;obtain⟨f1,f2,nul,wd2,rows2,f3,f4⟩:=lX hS e5;obtain⟨v2,g1,g2⟩:=hcell (u:=Ora.env m.lg.nx) (by rw[f3];intro h;cases h) f1.symm;refine⟨v2::r',.cons (.dat hg g2 f2 A1 (oB g2)) e1,by simp[e2],fun q v' hq=>?_,L3.trans ⟨_,rfl⟩ e4,Z0.trans e5⟩;cases q with
      | zero=>simp at hq;subst hq;exact g1
      | succ q=>rw[show o+j+(q+1)=o+(j+1)+q by omega];exact e3 q v' (by simpa using hq)
     ·cases h
def kO{t:TypeId}(h:mP P t=some ts):H7 P t=some ts.length:=by
 unfold mP at h;split at h
 ·rename_i l n h1 h2;obtain⟨h3,h⟩:=A5 h;cases h;rw[h2,A0 h3]
 ·cases h
def HG{t:TypeId}{r:D4}{v:Value}{b:Nat}(hts:mP P t=some ts)(ha:oJ P t (some (r,m))=some (v,m'))(hl:LR ρ r r')(hn:r'.length=ts.length)
  (hc:∀ q v',r'[q]? = some v'→w.cell? ⟨b,o+q,none⟩=some v'):m'=m∧∃ v',(Instr.loadAt t (.pointer (some ⟨b,o,none⟩))).run P w=.ok v' w∧VR ρ v v':=by
 unfold oJ at ha;split at ha
 ·rename_i hag heq;cases ha;cases heq;obtain⟨v',r2,rfl,e1,e2⟩:=hl.tail;refine⟨rfl,v',?_,e1⟩
  have:=hc 0 v' rfl;simp[Instr.loadAt,Instr.sureAddr,loadVar,A6,cW hag,Result.andThen,run_load,show w.cell? ⟨b,o,none⟩=some v' from by simpa using this]
 ·rename_i hag heq;cases ha;cases heq;refine⟨rfl,.agg ⟨r'⟩,?_,.agg hl.1 hl.2⟩;have hsz:H7 P t=some r'.length:=by rw[hn];exact kO hts
  simp[Instr.loadAt,Instr.sureAddr,loadVar,A6,cW hag,M1 hsz,Result.andThen,L5 rfl hc]
 ·cases ha
def A15{t:TypeId}{x x' v:Value}(h:HR P base ρ m.H w)(ho:NP P m t x=some (v,m'))(hx:VR ρ x x')(hS:Sat m'.lg):(∃ r,(Instr.loadAt t x').run P w=.ok r w∧VR ρ v r)∧L3 m m'∧m.lg.le m'.lg:=by
 have hmm:∀ {r:Option (D4×Mem)},oJ P t r=some (v,m')→∃ vs,r=some (vs,m'):=fun{r} ha=>by
  unfold oJ at ha;split at ha
  ·cases ha;exact⟨_,rfl⟩
  ·cases ha;exact⟨_,rfl⟩
  ·cases ha
 unfold NP at ho;split at ho
 ·rename_i b i tg z o ts hts;obtain⟨h1,ho⟩:=A5 ho;obtain⟨⟨l,wd,rows,a,s,c,k,e1,e2,e3,e4,e5,e6,rfl⟩,e8⟩:=IY hx;obtain⟨vs,hr⟩:=hmm ho;rw[hr]at ho;have htg:tg-10=wd:=by rw[← e8,e2];simp[G7]
  rw[htg]at hr;have hbg:=(h.atl e1 (eX h1)).1.2;rw[e2]at e3;obtain⟨C,T,fz,f1,f2,f3,f4⟩:∃ C T fz,l.G a=some (.cells C T fz)∧s+rows.length*wd≤C.size∧(∀ row ∈ rows,row.length=wd)∧∀ (r:Nat) (row:List U) (j:Nat) (u:U) (v:Value),rows[r]? = some row→row[j]? = some u→C[s+r*wd+j]? = some v→Enc l.G u v:=by
   have hne:rows≠[]:=by intro e;subst e;simp at e5
   cases e3 with
   | sc h=>cases h
   | emp=>exact absurd rfl hne
   | sl hc hg hz hw hh=>exact⟨_,_,_,hg hne,hz hne,hw,hh⟩
  have hheap:=hbg _ _ f1;have hrow:rows[k]? = some rows[k]:=A8 e5;obtain⟨r',g1,g2,g3,g4,g5⟩:=iN (cell:=fun q=>w.cell? ⟨a,s+k*wd+q,none⟩) e2 e4 e1 (fun q u hq=>by
   rw[B4,hrow]at hq;have hq:rows[k][q]? = some u:=hq;have hql:=(B2.1 hq).1;rw[f3 _ (E6 hrow)]at hql;have hk:(k+1)*wd≤rows.length*wd:=G2 wd e5;rw[I5]at hk;have hlt:s+k*wd+q<C.size:=A1;refine⟨C[s+k*wd+q],?_,f4 k _ q u _ hrow hq (H4 hlt)⟩;simp[World.cell?,hheap,H4 hlt]) hr hS
  obtain⟨_,q1⟩:=HG (w:=w) (b:=a) (o:=s+k*wd+o) hts ho g1 g2 (fun q v' hq=>by
   have:=g3 q v' hq;rw[show s+k*wd+o+q=s+k*wd+(o+0+q) by omega];exact this)
  exact⟨q1,g4,g5⟩
 ·rename_i b i tg z o ts hts;split at ho
  ·rename_i c tc T g ro hg;obtain⟨h1,ho⟩:=A5 ho;have h1:=A0 h1;subst h1;obtain⟨⟨l,wd,pY,k,e1,e2,e3,e4,e5,e6,rfl⟩,e8⟩:=yX hx;obtain⟨vs,hr⟩:=hmm ho;rw[hr]at ho;obtain⟨wd2,inf,d1,d2,d3,d4⟩:=SqR.ex (h.atl e1 hg).1;rcases d4 with⟨d4,_⟩|⟨_,d4⟩
   ·rw[e2]at d4;cases d4
   obtain⟨C,fz,T',rows,lg,f1,f2,f3,f4,f5,f6,f7,f8,f9⟩:=d4;have htg:tc-10=wd2:=A1;rw[htg]at hr;have hkl:k<rows.length:=A1;have hrow:rows[k]? = some rows[k]:=A8 hkl;have hwd:wd=wd2:=by
    have:G7 (Ora.env i)=10+wd:=by rw[e3];rfl
    omega
   subst hwd;obtain⟨r',g1,g2,g3,g4,g5⟩:=iN (cell:=fun q=>w.cell? ⟨l.blk,l.sh+k*wd+q,none⟩) f2 e4 f7 (fun q u hq=>by
    rw[B4,hrow]at hq;have hq:rows[k][q]? = some u:=hq;have hql:=(B2.1 hq).1;rw[f6 _ (E6 hrow)]at hql;have hk:(k+1)*wd≤l.cap*wd:=G2 wd A1;rw[I5]at hk;have hlt:l.sh+k*wd+q<C.size:=A1;refine⟨C[l.sh+k*wd+q],?_,f8 k _ q u _ hrow hq (H4 hlt)⟩;simp[World.cell?,f1,H4 hlt]) hr hS
   obtain⟨_,q1⟩:=HG (w:=w) (b:=l.blk) (o:=l.sh+k*wd+o) hts ho g1 g2 (fun q v' hq=>by
    have:=g3 q v' hq;rw[show l.sh+k*wd+o+q=l.sh+k*wd+(o+0+q) by omega];exact this)
   exact⟨q1,g4,g5⟩
  ·cases ho
 ·cases ho
end
end
section
open Go
variable [Ora]
section
variable {P:Program} {base:Nat} {ρ ρ':Ren} {m m':Mem} {w w':World}
def at0(a:Nat):Ren:=fun _=>some (lc a 0 0)
def ZJ{a s n c:Nat}(h:n≤c):VR (at0 a) (.slice (some ⟨0,s,none⟩) n (O6+1)) (.slice (some ⟨a,s,none⟩) n c) :=
 VR.op (ρ:=at0 a) (b:=0) (o:=s) (n:=n) (m:=O6+1) (m':=c) (l:=lc a 0 0) rfl (by unfold O6;omega) h (fun h=>by unfold O6 at h;omega)
def XD{a s:Nat}:VR (at0 a) (.pointer (some ⟨0,s,none⟩)) (.pointer (some ⟨a,s,none⟩)):=VR.ptr (ρ:=at0 a) (b:=0) (o:=s) (l:=lc a 0 0) rfl
def wK{t e:TypeId}{a s n c z sz:Nat}{k:IntKind}(hu:P.underlying t=some (.slice e))(hs:H7 P e=some sz)(hz:z<n)(hc:n≤c)(w:World) :
  (Instr.indexAt t (.slice (some ⟨a,s,none⟩) n c) (.int k (.ofNat z))).run P w=.ok (.pointer (some ⟨a,s+z*sz,none⟩)) w:=by
 have hb:Nat.blt z n=true:=C8 hz;have hm:g8 P t (.slice (some ⟨0,s,none⟩) n (O6+1)) (.int k (.ofNat z))=some (.pointer (some ⟨0,s+z*sz,none⟩)):=by
  simp only[g8,hu,hs,hb,F0,cG,F5]
 obtain⟨v',g1,g2⟩:=dJ (P:=P) hm (ZJ (a:=a) hc) (.pure rfl) w;obtain⟨l2,hl2,_,rfl⟩:=R9 g2;cases hl2;exact g1
def sM{t e:TypeId}{a s n z sz:Nat}{k:IntKind}(hu:P.underlying t=some (.array n e))(hs:H7 P e=some sz)(hz:z<n)(w:World) :
  (Instr.indexAt t (.pointer (some ⟨a,s,none⟩)) (.int k (.ofNat z))).run P w=.ok (.pointer (some ⟨a,s+z*sz,none⟩)) w:=by
 have hb:Nat.blt z n=true:=C8 hz;have hm:g8 P t (.pointer (some ⟨0,s,none⟩)) (.int k (.ofNat z))=some (.pointer (some ⟨0,s+z*sz,none⟩)):=by
  simp only[g8,hu,hs,hb,F0,cG,F5]
 obtain⟨v',g1,g2⟩:=dJ (P:=P) hm (XD (a:=a)) (.pure rfl) w;obtain⟨l2,hl2,_,rfl⟩:=R9 g2;cases hl2;exact g1
def wN{a z:Nat}{fs:Array Field}{f:Field}(hu:P.underlying s=some (.struct fs))(hf:fs.toList[i]? = some f)(hz:H7 P f.type=some (z+1))(w:World) :
  (Instr.fieldAt s (.pointer (some ⟨a,o,none⟩)) i).run P w=.ok (.pointer (some ⟨a,o+f.offset,none⟩)) w:=by
 have hm:dK P s (.pointer (some ⟨0,o,none⟩)) i=some (.pointer (some ⟨0,o+f.offset,none⟩)):=by
  simp only[dK,hu,hf,hz,cG,F5]
 obtain⟨v',g1,g2⟩:=nV (P:=P) hm (XD (a:=a)) w;obtain⟨l2,hl2,_,rfl⟩:=R9 g2;cases hl2;exact g1
def JA{t wd:Nat}{nul:Bool}{rows:List (List U)}{k v:Value}(h:OG m i t z k=some (v,m'))(hi:Ora.env i=.seq nul wd rows)(ht:t=10+wd)(hz:VR ρ z z')(hS:Sat m'.lg) :
  v=k∧(∃ kk n,z'=.int kk (.ofNat n)∧n<rows.length∧rA Ora.env z=some (.ofNat n))∧L3 m m'∧m.lg.le m'.lg:=by
 unfold OG at h;cases hq:!(Nat.blt (H5 z) 8)with
 | true=>rw[hq]at h;cases h
 | false =>
   have h8:H5 z<8:=by
    have:Nat.blt (H5 z) 8=true:=by simpa using hq
    exact A2 this
   rw[hq]at h;simp only[E7]at h;split at h
   ·rename_i b H n W hh lg hl;split at h
    ·rename_i lg2 hb;cases h;have hle1:=K2 hl;have hle2:=oI hb;obtain⟨u,e1,e2,r,e3,e4,_⟩:=N6 hl (U3.le hS hle2);have hb2:=qZ hb (e4 ρ) hS;subst hb2;obtain⟨kk,y,rfl,f2,_⟩:=P8 hz h8;have harg:[z,hole i t].map (E5 Ora.env)=[.int kk y,.seq nul wd rows]:=by
      simp only[E9,J7,f2];show[_,Ora.env i]=_;rw[hi]
     rw[harg]at e1;have e1:(if wd=t-10 then U.bool (decide (0≤y) && decide (y<rows.length))else U.none)=u:=e1;rw[A4 A1]at e1;subst e1;have e3:some (Value.bool (decide (0≤y) && decide (y<rows.length)))=some (.bool true):=e3;have e5:(decide (0≤y) && decide (y<rows.length))=true:=by simpa using e3
     simp only[I7,decide_eq_true_eq]at e5;obtain⟨n0,rfl⟩:∃ n0:Nat,y=.ofNat n0:=⟨y.toNat,by have:=R5 e5.1;exact this.symm⟩;refine⟨rfl,⟨kk,n0,rfl,?_,XE f2⟩,L3.trans (J3 hl) ⟨lg2,rfl⟩,hle1.trans hle2⟩
     have:=e5.2;have:(n0:Int)<rows.length:=this;omega
    ·cases h
   ·cases h
def B06{G:Nat→Option Obj}{nul:Bool}{wd:Nat}{rows:List (List U)}{v:Value}(h:Enc G (.seq nul wd rows) v)(hr:rows≠[]):nul=false∧∃ a o c,v=.slice (some ⟨a,o,none⟩) rows.length c∧rows.length≤c:=by
 cases h with
 | sc h=>cases h
 | nil=>exact absurd rfl hr
 | emp=>exact absurd rfl hr
 | sl hc _ _ _ _=>exact⟨rfl,_,_,_,rfl,hc⟩
def RB{t:Nat}(h:G7 u=t)(h10:10≤t):u=.none∨∃ nul wd rows,u=.seq nul wd rows∧t=10+wd:=by
 cases u with
 | none=>exact .inl rfl
 | int k n=>have:=N0 k;simp[G7]at h;omega
 | bool b=>simp[G7]at h;omega
 | str s=>simp[G7]at h;omega
 | seq nul wd rows=>exact .inr ⟨nul,wd,rows,rfl,h.symm⟩
def iP{G:Nat→Option Obj}{v:Value}{t:Nat}(h:Enc G u v)(ht:G7 u=t)(h10:10≤t):∃ nul wd rows,u=.seq nul wd rows∧t=10+wd:=by
 rcases RB ht h10 with rfl|h1
 ·cases h with
  | sc h=>cases h
 ·exact h1
def GK{t e:TypeId}{b s:Nat}{l:Loc}{v v':Value}(hu:P.underlying t=some (.slice e))(hs:H7 P e=some (s+1))(htg:tg=10+(s+1))(h1:ρ b=some l)(h2:Enc l.G (Ora.env i) v')(h3:G7 (Ora.env i)=tg)
  (h:OG m i tg z (dpt b i tg z 0)=some (v,m')) (hz:VR ρ z z') (hS:Sat m'.lg):(∃ r,(Instr.indexAt t v' z').run P w=.ok r w∧VR ρ v r)∧L3 m m'∧m.lg.le m'.lg:=by
 obtain⟨nul,wd,rows,e1,e2⟩:=iP h2 h3 A1;obtain⟨rfl,⟨kk,n,rfl,hn,hzz⟩,g1,g2⟩:=JA h e1 e2 hz hS;have hwd:wd=s+1:=A1;subst hwd;have hne:rows≠[]:=by intro e;subst e;simp at hn
 rw[e1]at h2;obtain⟨rfl,a,o,c,rfl,hc⟩:=B06 h2 hne;refine⟨⟨_,wK hu hs hn hc w,.dpt ⟨l,s+1,rows,a,o,c,n,h1,e1,by rw[e1];exact h2,hzz,hn,A1,by simp⟩ h3 rfl⟩,g1,g2⟩
def OE{t:TypeId}{x x' v:Value}(h:nR P m t x z=some (v,m'))(hx:VR ρ x x')(hz:VR ρ z z')(hS:Sat m'.lg):(∃ r,(Instr.indexAt t x' z').run P w=.ok r w∧VR ρ v r)∧L3 m m'∧m.lg.le m'.lg:=by
 unfold nR at h;split at h
 ·rename_i e b i tg hu;split at h
  ·rename_i s hs;obtain⟨ht,h⟩:=A5 h;have ht:=A0 ht;obtain⟨hown,htag⟩:=iL hx;rcases hown with⟨l,wd,h1,h2,h3,rfl⟩|⟨l,wd,rows,h1,h2,h3,h4,h40,rfl⟩
   ·obtain⟨_,⟨kk,n,_,hn,_⟩,_⟩:=JA h h3 (by rw[h3]at htag;exact htag.symm) hz hS;simp at hn
   ·have e2:tg=10+wd:=by rw[h3]at htag;exact htag.symm
    obtain⟨rfl,⟨kk,n,rfl,hn,hzz⟩,g1,g2⟩:=JA h h3 e2 hz hS;have hwd:wd=s+1:=A1;subst hwd;exact⟨⟨_,wK hu hs A1 h40 w,.opt ⟨l,s+1,rows,n,h1,h2,h3,hzz,A1,A1,by simp⟩ htag rfl⟩,g1,g2⟩
  ·cases h
 ·rename_i e b i tg hu;split at h
  ·rename_i s hs;obtain⟨ht,h⟩:=A5 h;have ht:=A0 ht;obtain⟨l,h1,h2,h3,_⟩:=pJ hx;exact GK hu hs ht h1 h2 h3 h hz hS
  ·cases h
 ·rename_i e b i tg hu;split at h
  ·rename_i s hs;obtain⟨ht,h⟩:=A5 h;have ht:=A0 ht;obtain⟨l,h1,h2,h3,_⟩:=iM hx;exact GK hu hs ht h1 h2 h3 h hz hS
  ·cases h
 ·rename_i n e b i tg y o hu;split at h
  ·rename_i s kk k hs;obtain⟨hk,h⟩:=A5 h;obtain⟨hk,hw⟩:=B8 hk;have hk:=A2 hk;have hw:o+k*s<tg-10:=A2 hw;rw[F5]at h;cases h;cases K4 hz;obtain⟨⟨l,wd,rows,a,s0,c,q,e1,e2,e3,e4,e5,e6,rfl⟩,e8⟩:=IY hx;have hwd:tg-10=wd:=by rw[← e8,e2];simp[G7]
   refine⟨⟨_,sM hu hs hk w,.dpt ⟨l,wd,rows,a,s0,c,q,e1,e2,e3,e4,e5,A1,by simp⟩ e8 rfl⟩,.refl _,.refl _⟩
  ·cases h
 ·rename_i n e b i tg y o hu;split at h
  ·rename_i s kk k hs;obtain⟨hk,h⟩:=A5 h;obtain⟨hk,hw⟩:=B8 hk;have hk:=A2 hk;have hw:o+k*s<tg-10:=A2 hw;rw[F5]at h;cases h;cases K4 hz;obtain⟨⟨l,wd,rows,q,e1,e2,e3,e4,e5,e6,rfl⟩,e8⟩:=yX hx;have hwd:tg-10=wd:=by rw[← e8,e3];simp[G7]
   refine⟨⟨_,sM hu hs hk w,.opt ⟨l,wd,rows,q,e1,e2,e3,e4,e5,A1,by simp⟩ e8 rfl⟩,.refl _,.refl _⟩
  ·cases h
 ·cases h
def OU{x x' v:Value}{f:Nat}(h:nW P m s x f=some (v,m'))(hx:VR ρ x x'):(∃ r,(Instr.fieldAt s x' f).run P w=.ok r w∧VR ρ v r)∧m'=m:=by
 unfold nW at h;split at h
 ·rename_i fs b i tg y o hu;split at h
  ·rename_i fd hf;split at h
   ·rename_i z hz;obtain⟨hw,h⟩:=A5 h;have hw:o+fd.offset<tg-10:=A2 hw;rw[F5]at h;cases h;obtain⟨⟨l,wd,rows,a,s0,c,q,e1,e2,e3,e4,e5,e6,rfl⟩,e8⟩:=IY hx;have hwd:tg-10=wd:=by rw[← e8,e2];simp[G7]
    exact⟨⟨_,wN hu hf hz w,.dpt ⟨l,wd,rows,a,s0,c,q,e1,e2,e3,e4,e5,A1,by simp⟩ e8 rfl⟩,rfl⟩
   ·cases h
  ·cases h
 ·rename_i fs b i tg y o hu;split at h
  ·rename_i fd hf;split at h
   ·rename_i z hz;obtain⟨hw,h⟩:=A5 h;have hw:o+fd.offset<tg-10:=A2 hw;rw[F5]at h;cases h;obtain⟨⟨l,wd,rows,q,e1,e2,e3,e4,e5,e6,rfl⟩,e8⟩:=yX hx;have hwd:tg-10=wd:=by rw[← e8,e3];simp[G7]
    exact⟨⟨_,wN hu hf hz w,.opt ⟨l,wd,rows,q,e1,e2,e3,e4,e5,A1,by simp⟩ e8 rfl⟩,rfl⟩
   ·cases h
  ·cases h
 ·cases h
end
end
section
open Go
variable [Ora]
section
variable {P:Program} {base:Nat} {ρ ρ':Ren} {m m':Mem} {w w':World}
def aR{G:Nat→Option Obj}{nul:Bool}{wd:Nat}{rows:List (List U)}{v:Value}(h:Enc G (.seq nul wd rows) v):(nul=true∧rows=[]∧v=.slice none 0 0)∨(nul=false∧∃ (a:Addr) (c:Nat),v=.slice (some a) rows.length c∧rows.length≤c):=by
 cases h with
 | sc h=>cases h
 | nil=>exact .inl ⟨rfl,rfl,rfl⟩
 | emp=>exact .inr ⟨rfl,_,_,rfl,B0 _⟩
 | sl hc _ _ _ _=>exact .inr ⟨rfl,_,_,rfl,hc⟩
def mT{t e:TypeId}{a:Option Addr}{n c:Nat}(hu:P.underlying t=some (.slice e))(w:World):(Builtin.len_ ⟨t::tys⟩ ty #[.slice a n c]).run P w=.ok (.int .i64 n) w:=by
 simp[Builtin.len_,A6,D6 hu,Result.andThen,goInt]
def A5T{t:Nat}{v:Value}{nul:Bool}{wd:Nat}{rows:List (List U)}(h:Z1 m 3 .len [hole i t]=some (v,m'))(hi:Ora.env i=.seq nul wd rows)(hS:Sat m'.lg):VR ρ v (.int .i64 rows.length)∧L3 m m'∧m.lg.le m'.lg∧E5 Ora.env v=.int .i64 rows.length:=by
 obtain⟨u,e1,e2,r,e3,e4,e5⟩:=N6 h hS;have harg:[hole i t].map (E5 Ora.env)=[.seq nul wd rows]:=by
  show[Ora.env i]=_;rw[hi]
 rw[harg]at e1;have e1:U.int .i64 rows.length=u:=e1;subst e1;cases e3;refine⟨e4 ρ,J3 h,K2 h,?_⟩;obtain⟨rfl,rfl⟩:=pH h;obtain⟨h1,h2,h3⟩:=hS (.lt m.lg.nx 3 .len [hole i t]) (by cases m;exact C5);show Ora.env m.lg.nx=_;rw[h1,harg];rfl
def nU{i j:Nat}:∀ {l:List o7},tT i l=some j→∃ tg,o7.lt j 3 .len [hole i tg] ∈ l
 | [],h=>by cases h
 | e::r,h=>by
   unfold tT at h;split at h
   ·cases h
   ·rename_i j' t k tg r' he;cases he;cases hq:Nat.beq k i && Nat.beq t 3 with
    | true =>
      rw[hq]at h;cases h;obtain⟨h1,h2⟩:=B8 hq;have h1:=A0 h1;have h2:=A0 h2;subst h1;subst h2;exact⟨tg,.head _⟩
    | false =>
      rw[hq]at h;obtain⟨tg',h3⟩:=nU h;exact⟨tg',.tail _ h3⟩
   ·rename_i he;cases he;obtain⟨tg',h3⟩:=nU h;exact⟨tg',.tail _ h3⟩
def cJ{t:Nat}{v:Value}(h:IR m i t=some (v,m')):L3 m m'∧m.lg.le m'.lg:=by
 unfold IR at h;split at h
 ·cases h;exact⟨L3.refl _,.refl _⟩
 ·exact⟨J3 h,K2 h⟩
def nM{t:Nat}{v:Value}{nul:Bool}{wd:Nat}{rows:List (List U)}(h:IR m i t=some (v,m'))(hi:Ora.env i=.seq nul wd rows)(hS:Sat m'.lg):VR ρ v (.int .i64 rows.length)∧L3 m m'∧m.lg.le m'.lg∧E5 Ora.env v=.int .i64 rows.length:=by
 unfold IR at h;split at h
 ·rename_i j hj;cases h;obtain⟨tg,hm⟩:=nU hj;obtain⟨h1,h2,_⟩:=hS _ hm;have harg:[hole i tg].map (E5 Ora.env)=[.seq nul wd rows]:=by
   show[Ora.env i]=_;rw[hi]
  rw[harg]at h1;have h1:Ora.env j=.int .i64 rows.length:=h1;refine⟨.hole ?_ ?_,L3.refl _,.refl _,h1⟩
  ·rw[h1];rfl
  ·rw[h1];rfl
 ·exact A5T h hi hS
def YJ{b:Nat}{v':Value}(h:A1p ρ b u v'):∃ nul wd rows a c,u=.seq nul wd rows∧v'=.slice a rows.length c:=by
 rcases h with⟨l,wd,h1,h2,h3,rfl⟩|⟨l,wd,rows,h1,h2,h3,h4,h40,rfl⟩
 ·exact⟨_,_,_,_,_,h3,rfl⟩
 ·exact⟨_,_,_,_,_,h3,by rw[h4]⟩
def A5U{t:TypeId}{x x' v:Value}(h:A5V P m t x=some (v,m'))(hx:VR ρ x x')(hS:Sat m'.lg):(∃ r,(Builtin.len_ ⟨t::tys⟩ ty #[x']).run P w=.ok r w∧VR ρ v r)∧L3 m m'∧m.lg.le m'.lg:=by
 unfold A5V at h;split at h
 ·rename_i e b i tg hu;obtain⟨l,h1,h2,h3,h4⟩:=pJ hx;obtain⟨nul,wd,rows,e1,_⟩:=iP h2 h3 h4;obtain⟨g1,g2,g3,_⟩:=nM (ρ:=ρ) h e1 hS;rw[e1]at h2;rcases aR h2 with⟨rfl,rfl,rfl⟩|⟨rfl,a,c,rfl,_⟩
  ·exact⟨⟨_,mT hu w,g1⟩,g2,g3⟩
  ·exact⟨⟨_,mT hu w,g1⟩,g2,g3⟩
 ·rename_i e b i tg hu;obtain⟨l,h1,h2,h3,h4,_⟩:=iM hx;obtain⟨nul,wd,rows,e1,_⟩:=iP h2 h3 h4;obtain⟨g1,g2,g3,_⟩:=nM (ρ:=ρ) h e1 hS;rw[e1]at h2;rcases aR h2 with⟨rfl,rfl,rfl⟩|⟨rfl,a,c,rfl,_⟩
  ·exact⟨⟨_,mT hu w,g1⟩,g2,g3⟩
  ·exact⟨⟨_,mT hu w,g1⟩,g2,g3⟩
 ·rename_i e b i tg hu;obtain⟨nul,wd,rows,a,c,e1,rfl⟩:=YJ (iL hx).1;obtain⟨g1,g2,g3,_⟩:=nM (ρ:=ρ) h e1 hS;exact⟨⟨_,mT hu w,g1⟩,g2,g3⟩
 ·cases h
def FT{v v':Value}{n:Nat}(hv:VR ρ v v')(ht:BI v=true)(ha:E5 Ora.env v=.int kk (.ofNat n)):∃ j,v'=.int j (.ofNat n):=by
 obtain⟨k,z,rfl,f2,_⟩:=P8 hv (A2 ht);rw[f2]at ha;injection ha with _ hb
 exact⟨k,by rw[hb]⟩
def A04{h x h' x':Value}(hs:UE h x=true)(h1:VR ρ h h')(h2:VR ρ x x'):h'=x':=by
 unfold UE at hs;split at hs
 ·rename_i i t1 j t2
  have:=A0 hs;subst this;have hh:∀ {t:Nat} {v:Value},VR ρ (.complex .f64 i t) v→toV (Ora.env i)=some v:=fun{t v} h=>by
   cases h with
   | pure hp=>simp[J1]at hp
   | hole h _=>exact h
  have a:=hh h1;rw[hh h2]at a;exact(B1 a).symm
 ·obtain⟨e1,e2⟩:=B8 hs;have e1:=jO e1;rw[dB]at e2;have e2:=eq_of_beq e2;subst e1;subst e2;cases K4 h1;cases K4 h2;rfl
 ·cases hs
def A25{wd v:Nat}{nul:Bool}{rows:List (List U)}{a b:U}(hne:evU (.subs wd) [.seq nul v rows,a,b]≠.none):∃ k1 l k2 h,a=.int k1 (.ofNat l)∧b=.int k2 (.ofNat h)∧v=wd∧l≤h∧h≤rows.length:=by
 cases a with
 | int k1 z1=>cases z1 with
   | ofNat l=>cases b with
     | int k2 z2=>cases z2 with
       | ofNat h =>
         have hne:(if v=wd∧l≤h∧h≤rows.length then U.seq nul wd ((rows.drop l).take (h-l))else .none)≠.none:=hne;by_cases hc:v=wd∧l≤h∧h≤rows.length
         ·exact⟨k1,l,k2,h,rfl,rfl,hc.1,hc.2.1,hc.2.2⟩
         ·rw[A3 hc]at hne;exact(hne rfl).elim
       | negSucc _=>exact(hne rfl).elim
     | _=>exact(hne rfl).elim
   | negSucc _=>exact(hne rfl).elim
 | _=>exact(hne rfl).elim
def A54{G:Nat→Option Obj}{nul:Bool}{wd l h mm n c:Nat}{rows:List (List U)}{a:Option Addr}(he:Enc G (.seq nul wd rows) (.slice a n c))(hl:l≤h)(hh:h≤rows.length)(hm:h≤mm)(hmc:mm≤c) :
  Enc G (.seq nul wd ((rows.drop l).take (h-l))) (.slice (if mm=l then a else a.map (·.add (l*wd))) (h-l) (mm-l))∨a=none:=by
 cases he with
 | sc h=>cases h
 | nil=>exact .inr rfl
 | emp =>
   rename_i a;have e1:h=0:=by simpa using hh
   subst e1;have e2:l=0:=A1;subst e2;have e3:mm=0:=A1;subst e3;exact .inl .emp
 | sl hc hg hz hw hrow =>
   rename_i a o C T fz;refine .inl ?_;have hlen:((rows.drop l).take (h-l)).length=h-l:=by simp;omega
   have key:∀ b o2,(h-l≠0→b=a∧o2=o+l*wd)→Enc G (.seq false wd ((rows.drop l).take (h-l))) (.slice (some ⟨b,o2,none⟩) (h-l) (mm-l)):=fun b o2 hb=>by
    have hgo:∀ r row,((rows.drop l).take (h-l))[r]? = some row→h-l≠0∧rows[l+r]? = some row:=fun r row hr=>by
     have hlt:=(B2.1 hr).1;rw[hlen]at hlt;rw[F9 hlt,H9]at hr;exact⟨A1,hr⟩
    have hne:(rows.drop l).take (h-l)≠[]→h-l≠0∧rows≠[]:=fun hne=>by
     constructor
     ·intro e;rw[e]at hne;simp at hne
     ·intro e;subst e;simp at hne
    have:=Enc.sl (G:=G) (w:=wd) (rows:=(rows.drop l).take (h-l)) (a:=b) (o:=o2) (c:=mm-l) (C:=C) (T:=T) (fz:=fz) A1
     (fun hn=>by obtain⟨e1,e2⟩:=hne hn;rw[(hb e1).1];exact hg e2)
     (fun hn=>by
       obtain⟨e1,e2⟩:=hne hn;rw[hlen,(hb e1).2];have h1:=hz e2;have h2:(l+(h-l))*wd≤rows.length*wd:=G2 wd A1;rw[I5]at h2;omega)
     (fun row hr=>hw row (M3 (N3 hr)))
     (fun r row j u v q1 q2 q3=>by
       obtain⟨e1,e2⟩:=hgo r row q1;rw[(hb e1).2]at q3;refine hrow (l+r) row j u v e2 q2 ?_;rw[I5,show o+(l*wd+r*wd)+j=o+l*wd+r*wd+j by omega];exact q3)
    rw[hlen]at this;exact this
   by_cases hml:mm=l
   ·rw[A4 hml];exact key a o fun h=>by omega
   ·rw[A3 hml];have e:(Addr.mk a o none).add (l*wd)=⟨a,o+l*wd,none⟩:=by
     unfold Addr.add;split
     ·rename_i h;rw[h];rfl
     ·rfl
    show Enc G _ (.slice (some ((Addr.mk a o none).add (l*wd))) _ _);rw[e];exact key a (o+l*wd) fun _=>⟨rfl,rfl⟩
def JS{t e:TypeId}{b s:Nat}{l:Loc}{hi:T5}{v x':Value}(hu:P.underlying t=some (.slice e))(hs:H7 P e=some s)(htg:tg=10+s)(h1:ρ b=some l)(h2:Enc l.G (Ora.env i) x')(h3:G7 (Ora.env i)=tg)
  (hcl:cl=true→A3o x') (h:PE m b i tg cl lo hi mx=some (v,m')) (hlo:OR ρ lo lo') (hhi:OR ρ hi hi') (hmx:OR ρ mx mx') (hS:Sat m'.lg):(∃ r,(Instr.sliceAt t x' lo' hi' mx').run P w=.ok r w∧VR ρ v r)∧L3 m m'∧m.lg.le m'.lg:=by
 have none_inv:∀ {o:T5},OR ρ none o→o=none:=fun{o} h=>by cases o<;>first|rfl|exact h.elim
 have some_inv:∀ {y:Value} {o:T5},OR ρ (some y) o→∃ y',o=some y'∧VR ρ y y':=fun{y o} h=>by cases o<;>first|exact h.elim|exact⟨_,rfl,h⟩
 obtain⟨nul,wd,rows,e1,e2⟩:=iP h2 h3 A1;have hwd:wd=s:=A1;subst hwd;rw[e1]at h2;obtain⟨a,n,c,hx',hn,hnc⟩:∃ a n c,x'=.slice a n c∧n=rows.length∧n≤c:=by
  rcases aR h2 with⟨rfl,rfl,rfl⟩|⟨rfl,a,c,rfl,hc⟩
  ·exact⟨_,_,_,rfl,rfl,B0 _⟩
  ·exact⟨_,_,_,rfl,rfl,hc⟩
 subst hx';have go:∀ {m:Mem} {lv hv:Value} {cc:Bool} {lv':T5} {hh mm:Nat},iQ m b i tg lv hv cc=some (v,m') →
   (lv'=none∧lv=.int .i64 0∨∃ y,lv'=some y∧VR ρ lv y)→(∀ kk q,E5 Ora.env hv=.int kk (.ofNat q)→q≤rows.length→q=hh∧Bd mx' c c mm∧(hi'=none→mx'=none)∧Bd hi' mm n hh∧hh≤mm∧(cc=true→mm=hh)) →
   (∃ r,(Instr.sliceAt t (.slice a n c) lv' hi' mx').run P w=.ok r w∧VR ρ v r)∧L3 m m'∧m.lg.le m'.lg:=fun{m lv hv cc lv' hh mm} h hlv hhv=>by
  unfold iQ at h;obtain⟨hint,h⟩:=A5 h;obtain⟨hi1,hi2⟩:=B8 hint;rw[P9]at h;simp only[D7,O7]at h;obtain⟨rfl,rfl⟩:=h;obtain⟨f1,f2,nul2,wd2,rows2,f3,f4⟩:=lX hS (.refl _);have harg:[hole i tg,lv,hv].map (E5 Ora.env)=[.seq nul wd rows,E5 Ora.env lv,E5 Ora.env hv]:=by
   show[Ora.env i,_,_]=_;rw[e1]
  rw[harg]at f1;have h10:tg-10=wd:=A1;rw[h10]at f1;obtain⟨k1,l0,k2,h0,a1,a2,a3,a4⟩:∃ k1 l0 k2 h0,E5 Ora.env lv=.int k1 (.ofNat l0)∧E5 Ora.env hv=.int k2 (.ofNat h0)∧l0≤h0∧h0≤rows.length:=by
   have hne:evU (.subs wd) [.seq nul wd rows,E5 Ora.env lv,E5 Ora.env hv]≠.none:=by rw[← f1,f3];intro h;cases h
   obtain⟨k1,l0,k2,h0,q1,q2,_,q3,q4⟩:=A25 hne;exact⟨k1,l0,k2,h0,q1,q2,q3,q4⟩
  rw[a1,a2]at f1;have f1:Ora.env m.lg.nx=if wd=wd∧l0≤h0∧h0≤rows.length then U.seq nul wd ((rows.drop l0).take (h0-l0))else .none:=f1
  rw[A4 ⟨rfl,a3,a4⟩]at f1;obtain⟨rfl,b1,b2,b3,b4,b5⟩:=hhv k2 h0 a2 a4;have b6:Bd lv' h0 0 l0:=by
   rcases hlv with⟨rfl,rfl⟩|⟨y,rfl,hy⟩
   ·cases a1;exact .inl ⟨rfl,rfl⟩
   ·obtain⟨j,rfl⟩:=FT hy hi1 a1;exact .inr ⟨j,rfl,a3⟩
  have hrun:=wJ (P:=P) (a:=a) (n:=n) (c:=c) hu hs b1 b2 b3 b6 w;have henc:Enc l.G (Ora.env m.lg.nx) (.slice (if mm=l0 then a else a.map (·.add (l0*wd))) (h0-l0) (mm-l0)):=by
   rw[f1];rcases A54 (mm:=mm) h2 a3 a4 b4 (by rcases b1 with⟨_,rfl⟩|⟨_,_,b1⟩<;>omega)with he|rfl
   ·exact he
   ·rcases aR h2 with⟨rfl,rfl,hq⟩|⟨_,_,_,hq,_⟩
    ·cases hq;have z1:h0=0:=by simp at a4;exact a4
     have z2:l0=0:=A1;have z3:mm=0:=by
      rcases b1 with⟨_,rfl⟩|⟨_,_,b1⟩<;>omega
     subst z1;subst z2;subst z3;exact .nil
    ·cases hq
  refine⟨⟨_,hrun,?_⟩,⟨_,rfl⟩,Z0⟩;cases cc with
  | false=>exact .dat h1 henc f2 A1 rfl
  | true =>
    refine .clp h1 henc f2 A1 rfl ?_;show mm-l0=h0-l0;rw[b5 rfl]
 have nat_of:∀ {hv y:Value} {kk:IntKind} {q:Nat},VR ρ hv y→BI hv=true→E5 Ora.env hv=.int kk (.ofNat q)→∃ j,y=.int j (.ofNat q):=fun h1 h2 h3=>FT h1 h2 h3
 have hint_of:∀ {m:Mem} {lv hv:Value} {cc:Bool},iQ m b i tg lv hv cc=some (v,m')→BI hv=true:=fun h=>by
  unfold iQ at h;exact(B8 (A5 h).1).2
 have main:∀ lv,(lo'=none∧lv=.int .i64 0∨∃ y,lo'=some y∧VR ρ lv y)→PD m b i tg cl lv hi mx=some (v,m')→(∃ r,(Instr.sliceAt t (.slice a n c) lo' hi' mx').run P w=.ok r w∧VR ρ v r)∧L3 m m'∧m.lg.le m'.lg:=fun lv hlv h=>by
  cases hi with
  | some hv =>
    obtain⟨hv',rfl,hvv⟩:=some_inv hhi;cases mx with
    | none =>
      cases none_inv hmx;have h:iQ m b i tg lv hv false=some (v,m'):=h;have hint:=hint_of h;obtain⟨kk,q,hq⟩:∃ kk q,E5 Ora.env hv=.int kk q:=by
       obtain⟨k,z,_,f2,_⟩:=P8 hvv (A2 hint);exact⟨k,z,f2⟩
      exact go (hh:=q.toNat) (mm:=c) h hlv fun kk2 q2 h1 h2=>by
       rw[hq]at h1;injection h1 with _ h1
       subst h1;obtain⟨j,rfl⟩:=nat_of hvv hint hq;have e:(Int.ofNat q2).toNat=q2:=rfl;rw[e];exact⟨rfl,.inl ⟨rfl,rfl⟩,fun h=>(by cases h),.inr ⟨j,rfl,A1⟩,A1,fun h=>by cases h⟩
    | some x =>
      obtain⟨x',rfl,hxx⟩:=some_inv hmx;have h:(bif UE hv x then iQ m b i tg lv hv true else none)=some (v,m'):=h;obtain⟨hsame,h⟩:=A5 h;have hint:=hint_of h
      have:=A04 hsame hvv hxx;subst this;obtain⟨kk,q,hq⟩:∃ kk q,E5 Ora.env hv=.int kk q:=by
       obtain⟨k,z,_,f2,_⟩:=P8 hvv (A2 hint);exact⟨k,z,f2⟩
      exact go (hh:=q.toNat) (mm:=q.toNat) h hlv fun kk2 q2 h1 h2=>by
       rw[hq]at h1;injection h1 with _ h1
       subst h1;obtain⟨j,rfl⟩:=nat_of hvv hint hq;have e:(Int.ofNat q2).toNat=q2:=rfl;rw[e];exact⟨rfl,.inr ⟨j,rfl,A1⟩,fun h=>(by cases h),.inr ⟨j,rfl,B0 _⟩,B0 _,fun _=>rfl⟩
  | none =>
    cases none_inv hhi;cases mx with
    | some x=>cases h
    | none =>
      cases none_inv hmx;unfold PD at h;simp only at h;split at h
      ·rename_i hv m1 hl;have hle2:L3 m1 m'∧m1.lg.le m'.lg:=by
        unfold iQ at h;obtain⟨_,h⟩:=A5 h;rw[P9]at h;simp only[D7,O7]at h;obtain⟨_,rfl⟩:=h;exact⟨⟨_,rfl⟩,Z0⟩
       obtain⟨q1,q2,q3,q4⟩:=nM (ρ:=ρ) hl e1 (hS.le hle2.2);obtain⟨r1,r2,r3⟩:=go (hh:=rows.length) (mm:=c) h hlv fun kk2 q2 h1 h2=>by
        rw[q4]at h1;injection h1 with _ h1
        have h1:((rows.length:Nat):Int)=(q2:Nat):=h1;have:q2=rows.length:=A1;subst this;refine⟨rfl,.inl ⟨rfl,rfl⟩,fun _=>rfl,.inl ⟨rfl,hn.symm⟩,A1,fun hc=>?_⟩
        have:=hcl hc;have:c=n:=this;omega
       exact⟨r1,q2.trans r2,q3.trans r3⟩
      ·cases h
 cases lo with
 | none=>exact main _ (.inl ⟨none_inv hlo,rfl⟩) h
 | some y=>obtain⟨y',q1,q2⟩:=some_inv hlo;exact main _ (.inr ⟨y',q1,q2⟩) h
end
end
section
open Go
variable [Ora]
section
variable {P:Program} {base:Nat} {ρ ρ':Ren} {m m':Mem} {w w':World}
def Q7(R:Nat→Option Obj)(rows:List (List U))(wd:Nat)(C:Array Value)(o:Nat):Prop :=
 (∀ row ∈ rows,row.length=wd)∧∀ (r:Nat) (row:List U) (j:Nat) (u:U) (v:Value),rows[r]? = some row→row[j]? = some u→C[o+r*wd+j]? = some v→Enc R u v
def Q7.mono{R R':Nat→Option Obj}{rows:List (List U)}{wd:Nat}{C:Z5}(h:Q7 R rows wd C o)(hs:Sub R R'):Q7 R' rows wd C o:=⟨h.1,fun r row j u v a b c=>(h.2 r row j u v a b c).mono hs⟩
def Q7.nil{R:Nat→Option Obj}{wd:Nat}{C:Z5}:Q7 R [] wd C o:=⟨fun _ h=>by(cases h),fun r row j u v h=>by simp at h⟩
def pQ{wd:Nat}:∀ {n:Nat} {l:List U} {r:List (List U)},s9 wd n l=some r→r.length=n∧l.length=n*wd∧(∀ row ∈ r,row.length=wd)∧∀ (q:Nat) (row:List U) (j:Nat) (u:U),r[q]? = some row→row[j]? = some u→l[q*wd+j]? = some u
 | 0,[],r,h=>by cases h;exact⟨rfl,by simp,fun _ h=>(by cases h),fun q row j u h=>by simp at h⟩
 | 0,_::_,r,h=>by cases h
 | n+1,l,r,h=>by
   unfold s9 at h;split at h
   ·rename_i hle;split at h
    ·rename_i r0 hr;cases h;obtain⟨h1,h2,h3,h4⟩:=pQ hr;have hd:l.length=(n+1)*wd:=by
      rw[C9]at h2;rw[I5];omega
     refine⟨by simp[h1],hd,fun row hrow=>?_,fun q row j u g1 g2=>?_⟩
     ·rcases C6.1 hrow with rfl|hrow
      ·simp;omega
      ·exact h3 row hrow
     ·cases q with
      | zero =>
        simp at g1;subst g1;have hj:=(B2.1 g2).1;simp at hj;rw[F9 A1]at g2
        simpa using g2
      | succ q =>
        have:=h4 q row j u (by simpa using g1) g2;rw[H9]at this;rw[show(q+1)*wd+j=wd+(q*wd+j) by rw[I5];omega];exact this
    ·cases h
   ·cases h
def qV{wd:Nat}:∀ (n:Nat) (l:List U),l.length=n*wd→∃ r,s9 wd n l=some r
 | 0,[],_=>⟨[],rfl⟩
 | 0,_::_,h=>by simp at h
 | n+1,l,h=>by
   rw[I5]at h;obtain⟨r,hr⟩:=qV (wd:=wd) n (l.drop wd) (by rw[C9];omega);refine⟨l.take wd::r,?_⟩;unfold s9;rw[A4 A1,hr]
def pX{R:Nat→Option Obj}{wd n:Nat}{rows:List (List U)}(h:m7 R us vs)(hc:s9 wd n us=some rows):Q7 R rows wd ⟨vs⟩ 0:=by
 obtain⟨h1,h2,h3,h4⟩:=pQ hc;refine⟨h3,fun r row j u v g1 g2 g3=>h.2 _ u v (h4 r row j u g1 g2) ?_⟩
 simpa using g3
def AM{α:Type}{l:List α}:∀ n,(RK l n).length=n*l.length
 | 0=>by simp[RK]
 | n+1=>by simp[RK,AM n,I5];omega
def jQ(s:List UInt8):(lP s).length=s.length:=by simp[lP]
def MB{R:Nat→Option Obj}(s:List UInt8):Q7 R (lP s) 1 ⟨R8 s⟩ 0:=by
 refine⟨fun row hr=>?_,fun r row j u v g1 g2 g3=>?_⟩
 ·unfold lP at hr;obtain⟨b,_,rfl⟩:=R0.1 hr;rfl
 ·unfold lP at g1;rw[H6]at g1;cases hb:s[r]? with
  | none=>rw[hb]at g1;cases g1
  | some b =>
    rw[hb]at g1;simp only[M6,D7]at g1;subst g1;cases j with
    | zero =>
      simp at g2;subst g2;have g3:(R8 s)[0+r*1+0]? = some v:=by simpa using g3
      unfold R8 at g3;rw[H6,show 0+r*1+0=r by omega,hb]at g3;simp only[M6,D7]at g3;subst g3;exact .sc rfl
    | succ j=>simp at g2
def vQ{G:Nat→Option Obj}{wd n c:Nat}{rows:List (List U)}(h:Enc G (.seq false wd rows) (.slice (some a) n c))(hG:∀ k ob,G k=some ob→w.heap[k]? = some ob) :
  n=rows.length∧∃ new',new'.length=rows.length*wd∧new'.all bJ=true∧Q7 G rows wd ⟨new'⟩ 0∧∀ (j:Nat) (v':Value),new'[j]? = some v'→w.cell? (a.add j)=some v':=by
 cases h with
 | sc h=>cases h
 | emp=>exact⟨rfl,[],by simp,rfl,.nil,fun j v' h=>by simp at h⟩
 | sl hc hg hz hw hrow =>
   rename_i a o C T fz;refine⟨rfl,?_⟩;cases hr:rows with
   | nil=>exact⟨[],by simp,rfl,.nil,fun j v' h=>by simp at h⟩
   | cons r0 rr =>
     have hne:rows≠[]:=by rw[hr];simp
     rw[← hr];have hh:=hG _ _ (hg hne);have hz:=hz hne;have hlen:((C.toList.drop o).take (rows.length*wd)).length=rows.length*wd:=by simp;omega
     have hget:∀ j,j<rows.length*wd→((C.toList.drop o).take (rows.length*wd))[j]? = C[o+j]? := fun j hj=>by
      rw[F9 hj,H9];simp
     refine⟨_,hlen,?_,⟨hw,fun r row j u v g1 g2 g3=>?_⟩,fun j v' hj=>?_⟩
     ·refine E4.2 fun v hv=>?_
      obtain⟨j,hj,e⟩:=t7 hv;rw[hlen]at hj;have hv2:C[o+j]? = some v:=by rw[← hget j hj,A8 (by rw[hlen];exact hj),e]
      have hwd:0<wd:=by
       rcases V7 wd with h0|h0
       ·subst h0;omega
       ·exact h0
      have h1:j / wd<rows.length:=by rw[Nat.div_lt_iff_lt_mul hwd];exact hj
      have h2:(rows[j / wd]).length=wd:=hw _ (N9 h1);have h3:j%wd<wd:=rF _ hwd;refine oB (hrow (j / wd) rows[j / wd] (j%wd) (rows[j / wd])[j%wd] v (A8 h1) (A8 (by rw[h2];exact h3)) ?_);have:o+j / wd*wd+j%wd=o+j:=by have:=Nat.div_add_mod j wd;rw[q9]at this;omega
      rw[this];exact hv2
     ·have hq:0+r*wd+j<rows.length*wd:=by
       have hr1:=(B2.1 g1).1;have hj1:=(B2.1 g2).1;rw[hw _ (E6 g1)]at hj1;have h2:(r+1)*wd≤rows.length*wd:=G2 wd hr1;rw[I5]at h2;omega
      have g3:((C.toList.drop o).take (rows.length*wd))[0+r*wd+j]? = some v:=by simpa using g3
      rw[hget _ hq]at g3;exact hrow r row j u v g1 g2 (by rw[show o+r*wd+j=o+(0+r*wd+j) by omega];exact g3)
     ·have hjl:=(B2.1 hj).1;rw[hlen]at hjl;rw[hget j hjl]at hj;rw[L5.add_none'];simp[World.cell?,hh,hj]
structure ZM (P:Program) (ρ':Ren) (w:World) (wd:Nat) (bh:Beh) (gs:List Nat) (y':Value) (rows2:List (List U)) (new':List Value):Prop where
 len:∀ wd',(Builtin.lenOf y').run P wd'=.ok rows2.length wd'
 first:∀ wd':World,wd'.heap=w.heap→(Builtin.firstCells wd rows2.length y').run P wd'=.ok ⟨new'⟩ wd'
 size:new'.length=rows2.length*wd
 flat:new'.all bJ=true
 rows:∀ R,(∀ b ∈ gs,∀ l,ρ' b=some l→Sub l.G R)→Q7 R rows2 wd ⟨new'⟩ 0
 ev:∀ c nul rows,Ora.env c=.seq nul wd rows→evU (eM wd (hole c (10+wd)) bh).1 ((eM wd (hole c (10+wd)) bh).2.map (E5 Ora.env))=oG nul wd rows rows2
def GG{R:Nat→Option Obj}(h:m7 R us vs):vs.all bJ=true:=by
 refine E4.2 fun v hv=>?_
 obtain⟨j,hj,e⟩:=t7 hv;have hu:j<us.length:=by rw[h.1];exact hj
 exact oB (h.2 j us[j] v (A8 hu) (by rw[A8 hj,e]))
def WZ{td:Td}(htd:CW P td){e:TypeId}{wd:Nat}{y y':Value}{bh:Beh}{gs:I1}(h:HR P base ρ m.H w)(ho:A34 td P m e wd y=some (bh,gs,sure,m'))(hf:L6 ρ m.n m'.hi)(hy:VR ρ y y')(hS:Sat m'.lg)(hwd:0<wd)(hsz:H7 P e=some wd) :
  ∃ ρ' rows2 new',St P base ρ ρ' m m' w w∧m.lg.le m'.lg∧x3 ρ m m'∧(∀ b ∈ gs,Hp.get m'.H b=some .frz∧∃ l,ρ' b=some l)∧ZM P ρ' w wd bh gs y' rows2 new'∧(sure=true→rows2≠[]):=by
 unfold A34 at ho;split at ho
 ·cases ho;cases S4 hy;refine⟨ρ,[],[],St.refl h,.refl _,.refl,fun b hb=>(by cases hb),⟨fun _=>rfl,fun _ _=>rfl,by simp,rfl,fun R _=>.nil,fun c nul rows hc=>?_⟩,fun h=>by cases h⟩;show evU (.snoc wd) [Ora.env c]=_;rw[hc];show(if wd=wd∧wd≠0 then(match s9 wd (([]:List U).length / wd) []with|some r=>oG nul wd rows r|none=>.none)else .none)=_;rw[A4 ⟨rfl,A1⟩,D2,Nat.zero_div];rfl
 ·rename_i a n c;split at ho
  ·rename_i cs ts hr hts;split at ho
   ·rename_i xs gs2 m2 hd;cases ho;have hnc:gK m wd (.slice (some a) n c)=some (n,cs):=by simp only[gK,hr]
    obtain⟨f1,new',f2,f3⟩:=wX h hnc hy;obtain⟨ρ2,e1,e2,e3,e4,e5,e6⟩:=kL htd h hd hf f2 hS;have hlt:ts.length=wd:=by have:=kO hts;rw[hsz]at this;exact(B1 this).symm
    have hul:(xs.map (E5 Ora.env)).length=n*wd:=by
     have:=H3 List.length e5;rw[G5,AM,hlt]at this;exact this
    obtain⟨rows2,hch⟩:=qV (wd:=wd) n (xs.map (E5 Ora.env)) hul;obtain⟨g1,g2,g3,g4⟩:=pQ hch;refine⟨ρ2,rows2,new',e1,e2,e3,e4,⟨fun wd'=>by rw[g1];exact f1 wd',fun wd' hw'=>by rw[g1];exact f3 wd' hw',?_,?_,fun R hR=>pX (e6 R hR) hch,fun c nul rows hc=>?_⟩,fun hs=>?_⟩
    ·have:=(e6 (fun k=>w.heap[k]?) (fun b hb l hl k o hk=>by
      obtain⟨q1,_⟩:=e4 b hb;exact(e1.hr.atl hl q1).1.2 k o hk)).1
     rw[← this,hul,g1]
    ·exact GG (e6 (fun k=>w.heap[k]?) (fun b hb l hl k o hk=>by
      obtain⟨q1,_⟩:=e4 b hb;exact(e1.hr.atl hl q1).1.2 k o hk))
    ·show evU (.snoc wd) (Ora.env c::xs.map (E5 Ora.env))=_;rw[hc];show(if wd=wd∧wd≠0 then(match s9 wd ((xs.map (E5 Ora.env)).length / wd) (xs.map (E5 Ora.env))with|some r=>oG nul wd rows r|none=>.none)else .none)=_;rw[A4 ⟨rfl,A1⟩,hul,aJ _ hwd,hch]
    ·have:0<n:=A2 hs;intro he;subst he;simp at g1;omega
   ·cases ho
  ·cases ho
 ·split at ho
  ·rename_i x b m2 hd;cases ho;obtain⟨ρ2,l,e1,e2,e3,e4,e5,e6,e7⟩:=htd.ok h hd hf hy hS;obtain⟨nul2,wd2,rows2,q1,q2⟩:=iP e4 e5 A1;have hw2:wd2=wd:=A1;subst hw2;have hG:=(e1.hr.atl e2 e3).1.2;rw[q1]at e4;have hev:∀ c nul rows,Ora.env c=.seq nul wd2 rows→evU (eM wd2 (hole c (10+wd2)) (.rows x)).1 ((eM wd2 (hole c (10+wd2)) (.rows x)).2.map (E5 Ora.env))=oG nul wd2 rows rows2:=fun c nul rows hc=>by
    show evU (.cat wd2) [Ora.env c,E5 Ora.env x]=_;rw[hc,q1];simp[evU]
   have hreg:∀ b' ∈ [b],Hp.get m'.H b'=some .frz∧∃ l,ρ2 b'=some l:=fun b' hb'=>by
    rcases C6.1 hb' with rfl|hb'
    ·exact⟨e3,l,e2⟩
    ·cases hb'
   rcases aR e4 with⟨rfl,rfl,rfl⟩|⟨rfl,a,c,rfl,hc⟩
   ·exact⟨ρ2,[],[],e1,e6,e7,hreg,⟨fun _=>rfl,fun _ _=>rfl,by simp,rfl,fun R _=>.nil,hev⟩,fun h=>by cases h⟩
   ·obtain⟨_,new',g1,g2,g3,g4⟩:=vQ (w:=w) e4 hG;refine⟨ρ2,rows2,new',e1,e6,e7,hreg,⟨fun _=>rfl,fun wd' hw'=>?_,g1,g2,fun R hR=>g3.mono (hR b (.head _) l e2),hev⟩,fun h=>by cases h⟩;rw[show Builtin.firstCells wd2 rows2.length (.slice (some a) rows2.length c)=loadCells a (rows2.length*wd2)from rfl];exact nL g1 fun j v' hj=>by rw[cQ hw'];exact g4 j v' hj
  ·cases ho
 ·obtain⟨h1,ho⟩:=A5 ho;obtain⟨h2,h3⟩:=B8 h1;have h4:=A0 h2;have h5:=A0 h3;cases ho;subst h5;obtain⟨s,rfl,f1⟩:=cV hy h4;refine⟨ρ,lP s,R8 s,St.refl h,.refl _,.refl,fun b hb=>(by cases hb),⟨fun _=>?_,fun wd' _=>?_,by simp[lP,R8],?_,fun R _=>MB s,fun c nul rows hc=>?_⟩,fun h=>by cases h⟩
  ·rw[jQ];rfl
  ·rw[jQ];have e:((ByteArray.extract ⟨⟨s⟩⟩ 0 s.length).data.map fun b=>Value.int .u8 b.toNat)=⟨R8 s⟩:=by
    rw[jB];apply K1;simp[R8]
   show(pure ((ByteArray.extract ⟨⟨s⟩⟩ 0 s.length).data.map fun b=>Value.int .u8 b.toNat):Sem Z5).run P wd'=_;rw[e];rfl
  ·refine E4.2 fun v hv=>?_
   unfold R8 at hv;obtain⟨b,_,rfl⟩:=R0.1 hv;rfl
  ·show evU .cats [Ora.env c,E5 Ora.env y]=_;rw[hc,f1];simp[evU]
end
end
section
open Go
variable [Ora]
section
variable {P:Program} {base:Nat} {ρ ρ':Ren} {m m':Mem} {w w':World}
def Sub.trans{A B C:Nat→Option Obj}(h:Sub A B)(k:Sub B C):Sub A C:=fun q o hq=>k q o (h q o hq)
structure A4V (P:Program) (base:Nat) (ρ:Ren) (m:Mem) (w:World) (e:TypeId) (wd c:Nat) (gs:List Nat) (old:Option Nat) (x':Value):Prop where
 ex:∃ nul rows,Ora.env c=.seq nul wd rows∧((nul=true∧rows=[]∧x'=.slice none 0 0∧(∀ b,old=some b→∃ ab l,b≤I4∧Hp.get m.H b=some ab∧ab.rw=true∧ρ b=some l∧l.on=false)) ∨
  (nul=false∧∃ b ab l cap C fz,old=some b∧b≤I4∧Hp.get m.H b=some ab∧ab.rw=true∧ρ b=some l∧l.on=true∧x'=.slice (some ⟨l.blk,l.sh,none⟩) rows.length cap∧w.heap[l.blk]? = some (.cells C e fz) ∧
    rows.length≤cap∧l.sh+cap*wd≤C.size∧(∀ i,i<C.size→¬ (fz.1≤i∧i<fz.2))∧∀ R,(∀ b ∈ gs,∀ l,ρ b=some l→Sub l.G R)→Q7 R rows wd C l.sh))
def PY{td:Td}(htd:CW P td){e:TypeId}{wd c:Nat}{x x':Value}{gs:I1}{old:Option Nat}(h:HR P base ρ m.H w)(ho:HB td P m e wd x=some (c,gs,old,m'))(hf:L6 ρ m.n m'.hi)(hx:VR ρ x x')(hS:Sat m'.lg)(hwd:0<wd)(hsz:H7 P e=some wd) :
  ∃ ρ',St P base ρ ρ' m m' w w∧m.lg.le m'.lg∧x3 ρ m m'∧A4V P base ρ' m' w e wd c gs old x':=by
 unfold HB at ho;split at ho
 ·rw[P9]at ho;simp only[hole]at ho;cases ho;cases S4 hx;obtain⟨e1,e2,_⟩:=lX hS (.refl _);refine⟨ρ,St.wLg h _,Z0,x3.lg _,⟨true,[],e1,.inl ⟨rfl,rfl,rfl,fun b hb=>by cases hb⟩⟩⟩
 ·rename_i b i tg;split at ho
  ·rename_i c0 tc T g hg;obtain⟨h1,ho⟩:=A5 ho;obtain⟨h1,h2⟩:=B8 h1;obtain⟨h1,h3⟩:=B8 h1;obtain⟨h2,h4⟩:=B8 h2;have h1:=A0 h1;have h3:=A0 h3;have h2:=A0 h2;have h4:=A2 h4;cases ho;subst h2;obtain⟨hown,htag⟩:=iL hx;rcases hown with⟨l,wd1,g1,g2,g3,rfl⟩|⟨l,wd1,rows1,g1,g2,g3,g4,g40,rfl⟩
   ·obtain⟨wd2,inf,e1,e2,e3,e4⟩:=SqR.ex (h.atl g1 hg).1;rcases e4 with⟨_,e4⟩|⟨e4,_⟩
    ·have:wd2=wd:=A1;subst this;refine⟨ρ,St.refl h,.refl _,.refl,⟨true,[],e4,.inl ⟨rfl,rfl,rfl,fun b' hb'=>?_⟩⟩⟩;cases hb';exact⟨_,l,h4,hg,rfl,g1,g2⟩
    ·rw[g2]at e4;cases e4
   ·obtain⟨wd2,inf,e1,e2,e3,e4⟩:=SqR.ex (h.atl g1 hg).1;rcases e4 with⟨e4,_⟩|⟨_,e4⟩
    ·rw[g2]at e4;cases e4
    ·obtain⟨C,fz,T',rows,lg,f1,f2,f3,f4,f5,f6,f7,f8,f9⟩:=e4;have:wd2=wd:=A1;subst this;obtain⟨rfl,f10⟩:=f9 rfl;exact⟨ρ,St.refl h,.refl _,.refl,⟨false,rows,f2,.inr ⟨rfl,b,_,l,l.cap,C,fz,rfl,h4,hg,rfl,g1,g2,by rw[f3],f1,A1,f5,f10,fun R hR=>⟨f6,fun r row j u v q1 q2 q3=>(f8 r row j u v q1 q2 q3).mono (hR g (.head _) lg f7)⟩⟩⟩⟩
  ·cases ho
 ·rename_i b n c0;split at ho
  ·rename_i cs T0 ro0 ts hg hts;obtain⟨hq,ho1⟩:=A5 ho;obtain⟨hq1,hq2⟩:=B8 hq;have h1:=A0 hq1;clear ho;split at ho1
   ·rename_i xs gs2 m1 hd;split at ho1
    ·rename_i cs1 T hg1;obtain⟨hq3,ho2⟩:=A5 ho1;clear ho1;obtain⟨hq3,h4⟩:=B8 hq3;have h3:=A0 hq3;have h4:=A2 h4;subst h3;rw[P9]at ho2;simp only[hole]at ho2;cases ho2;have hf1:L6 ρ m.n m1.hi:=by simpa using hf
     have hS1:Sat m1.lg:=U3.le hS Z0;obtain⟨l,cap,hl,hcap,hcn,hx2⟩:∃ l cap,ρ b=some l∧n≤cap∧(cap=n∨cap=l.cap)∧x'=.slice (some ⟨l.blk,0+l.sh,none⟩) n cap:=by
      rcases(J9 _ _).mp hq2 with hc|hc
      ·obtain⟨hc1,hc2⟩:=B8 hc;have hc1:=A0 hc1;have hc2:c0<O6:=A2 hc2;rcases R2 hx with⟨l,hl,_,hlt,rfl⟩|⟨l,c',hl,_,hge,hnc,hcc,rfl⟩|⟨a',c',_,_,hc,_⟩
       ·exact⟨l,c0,hl,A1,.inl hc1,rfl⟩
       ·omega
       ·omega
      ·have hc:=A0 hc;rcases R2 hx with⟨l,hl,_,hlt,rfl⟩|⟨l,c',hl,_,hge,hnc,hcc,rfl⟩|⟨a',c',_,_,hc2,_⟩
       ·omega
       ·exact⟨l,c',hl,hnc,.inr (hcc hc rfl),rfl⟩
       ·omega
     obtain⟨⟨hon,C,fz,T1,f1,f2,_⟩,_⟩:=h.atl hl hg;obtain⟨cs',f4,f5⟩:=fL (ρ:=ρ) (C:=C) (cs:=cs) (s:=l.sh) f2;obtain⟨ρ1,e1,e2,e3,e4,e5,e6⟩:=kL htd h hd hf1 f4 hS1;obtain⟨⟨_,C1,fz1,T2,g1,g2,g3⟩,_⟩:=e1.hr.atl (e1.ext _ _ hl) hg1;rw[f1]at g1;cases g1;obtain⟨rfl,g4,g5⟩:=g3 rfl;have hts2:=kO hts;rw[hsz]at hts2;have hlt:ts.length=wd:=(B1 hts2).symm;have hul:(xs.map (E5 Ora.env)).length=n*wd:=by
      have:=H3 List.length e5;rw[G5,AM,hlt]at this;exact this
     obtain⟨rows,hch⟩:=qV (wd:=wd) n (xs.map (E5 Ora.env)) hul;obtain⟨q1,q2,q3,q4⟩:=pQ hch;obtain⟨d1,d2,_⟩:=lX hS (.refl _);have hc:Ora.env m1.lg.nx=.seq false wd rows:=by
      rw[d1];show(if wd=0 then U.none else match s9 wd ((xs.map (E5 Ora.env)).length / wd) (xs.map (E5 Ora.env))with|some r=>.seq false wd r|none=>.none)=_;rw[A3 A1,hul,aJ _ hwd,hch]
     have hcl:cs'.length=n*wd:=by rw[← f4.1];exact h1
     obtain⟨inf,hinf,hisz⟩:∃ inf,P.info? T1=some inf∧inf.size=wd:=by
      unfold H7 at hsz;cases hi:P.info? T1 with
      | none=>rw[hi]at hsz;cases hsz
      | some inf=>rw[hi]at hsz;exact⟨inf,rfl,B1 hsz⟩
     have hroom:l.sh+cap*wd≤C.size:=by
      rcases hcn with rfl|rfl
      ·rcases V7 (cap*wd)with h0|h0
       ·rw[h0]
        have:=g5 inf hinf;rw[hisz]at this;omega
       ·have hlast:cap*wd-1<cs'.length:=A1
        have:=f5 (cap*wd-1) cs'[cap*wd-1] (A8 hlast)
        have:=(D9.1 this).1;omega
      ·have:=g5 inf hinf;rw[hisz]at this;exact this.1
     have hst:=St.wLg e1.hr (hJ m1 (10+wd) (.mk wd) xs);refine⟨ρ1,St.trans (by simpa using hf) e1 hst,e2.trans Z0,fun j lj hj hjg=>by rw[pU];exact e3 j lj hj hjg,⟨false,rows,hc,.inr ⟨rfl,b,_,l,cap,C,fz,rfl,h4,by rw[pU];exact hg1,rfl,e1.ext _ _ hl,hon,by rw[hx2,q1,G0],f1,A1,hroom,g4,fun R hR=>?_⟩⟩⟩;obtain⟨r1,r2⟩:=pX (e6 R hR) hch;refine⟨r1,fun r row j u v a1 a2 a3=>r2 r row j u v a1 a2 ?_⟩;have hq:r*wd+j<cs'.length:=by
      have hr1:=(B2.1 a1).1;have hj1:=(B2.1 a2).1;rw[r1 _ (E6 a1)]at hj1;have h2:(r+1)*wd≤rows.length*wd:=G2 wd hr1;rw[I5]at h2;rw[hcl,← q1];omega
     have:=f5 (r*wd+j) cs'[r*wd+j] (A8 hq);rw[show l.sh+r*wd+j=l.sh+(r*wd+j) by omega,this]at a3;have a3:=B1 a3;show(Array.mk cs')[0+r*wd+j]? = some v;rw[K6,show 0+r*wd+j=r*wd+j by omega,A8 hq,a3]
    ·cases ho1
   ·cases ho1
  ·cases ho
 ·cases ho
end
end
end Go.Sx
