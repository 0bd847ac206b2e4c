/- The law KeysPastes: for every input the call returns true, and the arguments read behind it as they read before. No condition. -/
import Derived.Test.YtdimocjaepnifaaGreatDoorX2
namespace Go.Sx
set_option linter.all false
open Go
set_option linter.unusedVariables false
set_option linter.unusedSimpArgs false
variable [Ora]
section
variable {P:Program} {base:Nat} {ρ:Ren} {m m':Mem} {w:World}
theorem pk(k:IntKind)(n:Int):H5 (.int k n)=true:=rfl
theorem B8e{op:UnOp}{x x' v:Value}(h:B3E m op x=some (v,m'))(hx:VR ρ x x')(hS:Sat m'.lg)(w:World):∃ r,(Op.unary op x').run P w=.ok r w∧VR ρ v r:=by
 unfold B3E at h;simp only at h;split at h
 ·obtain⟨h1,h⟩:=A2 h;obtain⟨b,rfl,e⟩:=A2e hx (A0 h1);obtain⟨u,e1,e2,r,e3,e4,_⟩:=L5 h hS;simp only[D7,I0,e,evU,ev1,unM,ofV]at e1;subst e1;cases e3;exact⟨_,(B4v (P:=P) (ρ:=ρ) (op:=.not) (x:=.bool b) (v:=.bool !b) rfl (.pure rfl) w).1,e4 ρ⟩
 ·obtain⟨h1,h⟩:=A2 h;obtain⟨k,n,rfl,e,_⟩:=O6 hx (A1 h1);obtain⟨u,e1,e2,r,e3,e4,e5⟩:=L5 h hS;simp only[D7,I0,e,evU,ev1]at e1;subst e1;obtain⟨r',g1,g2⟩:=B2A (by rw[e2];exact e5);rw[e3]at g2;cases g2;exact⟨_,(B4v (P:=P) (ρ:=ρ) g1 (.pure (pk k n)) w).1,e4 ρ⟩
theorem B41{s t:TypeId}{x x' v:Value}(h:A5v P m s t x=some (v,m'))(hx:VR ρ x x')(hS:Sat m'.lg)(w:World):∃ r,(convert s t x').run P w=.ok r w∧VR ρ v r:=by
 unfold A5v at h;split at h
 ·rename_i j k hs ht;obtain⟨h1,h⟩:=A2 h;obtain⟨j2,n,rfl,e,_⟩:=O6 hx (A1 h1);obtain⟨u,e1,e2,r,e3,e4,e5⟩:=L5 h hS;simp only[D7,I0,e,evU]at e1;subst e1;cases e3;exact⟨_,by simp[convert,Sem.run_bind,C4 hs,C4 ht,Result.andThen,Conv.intToInt],e4 ρ⟩
 ·rename_i hs ht;obtain⟨h1,h⟩:=A2 h;cases h;obtain⟨b,rfl,e⟩:=A0b hx (A0 h1);exact⟨_,by simp[convert,Sem.run_bind,C4 hs,C4 ht,Result.andThen],hx⟩
 ·cases h
theorem A24{t:Nat}:∀ {cs:List Value},o7 t cs=true→∀ {i:Nat} {v:Value},cs[i]? = some v→F4 v=t
 | [],_,i,v,h=>by simp at h
 | c::r,hs,i,v,h=>by
   obtain⟨h1,h2⟩:=B2 (show(Nat.beq (F4 c) t && o7 t r)=true from hs);cases i with
   | zero=>simp at h;subst h;exact A0 h1
   | succ i=>exact A24 h2 (by simpa using h)
theorem B8y{t e:TypeId}{n tg:Nat}{cs:Array Value}{x' i i' v:Value}(hu:P.underlying t=some (.array n e))(ha:y0 P e=some false)(hsz:F7 P e=some 1)(hl:cs.toList.length=n)(htg:o7 tg cs.toList=true)(h10:tg<10)
  (hi8:F4 i<8) (h:W6 m tg .sel (i::cs.toList)=some (v,m')) (hx:VR ρ (.agg cs) x') (hi:VR ρ i i') (hS:Sat m'.lg) (w:World):∃ r,(Instr.index t x' i').run P w=.ok r w∧VR ρ v r:=by
 obtain⟨k,z,rfl,e,_⟩:=O6 hi hi8;obtain⟨u,e1,e2,r,e3,e4,e5⟩:=L5 h hS;simp only[D7,e]at e1;cases z with
 | negSucc z=>simp only[evU]at e1;subst e1;cases e3
 | ofNat z =>
   simp only[evU]at e1;by_cases hz:z<cs.toList.length
   ·have hget:cs.toList[z]? = some cs.toList[z]:=A3 hz;have htag:=A24 htg hget;have hm:A4D P t (.agg cs) (.int k (.ofNat z))=some cs.toList[z]:=by
     have hb:Nat.blt z n=true:=C3 (by omega);simp only[A4D,hu,hsz,hb,cond_true,A6A,ha,Nat.mul_one];exact hget
    obtain⟨v',g1,g2⟩:=A62 (P:=P) hm hx (.pure rfl) w;obtain⟨f1,_⟩:=x3 g2 (by omega);have:u=D2 Ora.env cs.toList[z]:=by
     rw[← e1,B5,G5,hget];rfl
    rw[this,f1]at e3;cases e3;exact⟨_,g1,e4 ρ⟩
   ·rw[B5,Q1 (by simp at hz ⊢;omega)]at e1;subst e1;cases e3
theorem B0j{e:TypeId}(h:Nat.beq (n8.sizeD P e) 1=true):F7 P e=some 1:=by
 have h:=A0 h;unfold n8.sizeD at h;split at h
 ·rename_i n hn;rw[hn,h]
 ·cases h
theorem B3H{t:TypeId}{x x' i i' v:Value}(h:n8 P m t x i=some (v,m'))(hx:VR ρ x x')(hi:VR ρ i i')(hS:Sat m'.lg)(w:World):∃ r,(Instr.index t x' i').run P w=.ok r w∧VR ρ v r:=by
 unfold n8 at h;cases hq:!(Nat.blt (F4 i) 8)with
 | true=>rw[hq]at h;cases h
 | false =>
   have hi8:F4 i<8:=by
    have:Nat.blt (F4 i) 8=true:=by simpa using hq
    exact A1 this
   rw[hq]at h;simp only[cond_false]at h;split at h
   ·rename_i hu;obtain⟨h1,h⟩:=A2 h;obtain⟨s,rfl,f1⟩:=A0b hx (A0 h1);obtain⟨k,z,rfl,f2,_⟩:=O6 hi hi8;obtain⟨u,e1,e2,r,e3,e4,e5⟩:=L5 h hS;simp only[D7,I0,f1,f2]at e1;cases z with
    | negSucc z=>simp only[evU]at e1;subst e1;cases e3
    | ofNat z =>
      simp only[evU]at e1;split at e1
      ·rename_i b hb;subst e1;cases e3;have hm:A4D P t (.string ⟨⟨s⟩⟩) (.int k (.ofNat z))=some (.int .u8 b.toNat):=by
        simp only[A4D,hu,hb]
       obtain⟨v',g1,g2⟩:=A62 (P:=P) (ρ:=ρ) hm (.pure rfl) (.pure rfl) w;cases I6 g2;exact⟨_,g1,e4 ρ⟩
      ·subst e1;cases e3
   ·rename_i n e hu;split at h
    ·rename_i cs k he;obtain⟨h1,h⟩:=A2 h;obtain⟨h1,h3⟩:=B2 h1;obtain⟨h1,h2⟩:=B2 h1;exact B8y hu (by simp[y0,he]) (B0j h3) (A0 h1) h2 (by have:=K8 k;omega) hi8 h hx hi hS w
    ·rename_i cs he;obtain⟨h1,h⟩:=A2 h;obtain⟨h1,h3⟩:=B2 h1;obtain⟨h1,h2⟩:=B2 h1;exact B8y hu (by simp[y0,he]) (B0j h3) (A0 h1) h2 (by omega) hi8 h hx hi hS w
    ·cases h
   ·cases h
theorem B43{t:TypeId}(hu:P.underlying t=some .string){s:List UInt8}{l h:Int}{u:U}{r:Value}{kl kh:IntKind}(e1:B7V s l h=u)(e3:toV u=some r):A0x P t (.string ⟨⟨s⟩⟩) (some (.int kl l)) (some (.int kh h)) none=some r:=by
 unfold B7V at e1;split at e1
 ·rename_i l h;split at e1
  ·rename_i hh;subst e1;cases e3;have b1:Nat.ble h (ByteArray.size ⟨⟨s⟩⟩)=true:=C3 hh.2;have b2:Nat.ble l h=true:=C3 hh.1;simp only[A0x,hu,U6,b1,b2,cond_true]
  ·subst e1;cases e3
 ·subst e1;cases e3
theorem B3F{t:TypeId}{x x' v:Value}{lo hi mx lo' hi' mx':Option Value}(h:A3q P m t x lo hi mx=some (v,m'))(hx:VR ρ x x')(hlo:OR ρ lo lo')(hhi:OR ρ hi hi')(hmx:OR ρ mx mx')(hS:Sat m'.lg)(w:World) :
  ∃ r,(Instr.sliceAt t x' lo' hi' mx').run P w=.ok r w∧VR ρ v r:=by
 have none_inv:∀ {o:Option Value},OR ρ none o→o=none:=fun{o} h=>by cases o<;>first|rfl|exact h.elim
 have some_inv:∀ {y:Value} {o:Option Value},OR ρ (some y) o→∃ y',o=some y'∧VR ρ y y':=fun{y o} h=>by cases o<;>first|exact h.elim|exact⟨_,rfl,h⟩
 unfold A3q at h;split at h
 ·rename_i hu;cases none_inv hmx;obtain⟨h1,h⟩:=A2 h;obtain⟨s,rfl,f1⟩:=A0b hx (A0 h1);have str_of:∀ {y:Value},VR ρ (.string ⟨⟨s⟩⟩) y→y=.string ⟨⟨s⟩⟩:=fun h=>V9 h
  split at h
  ·cases h;cases none_inv hlo;cases none_inv hhi;have hm:A0x P t (.string ⟨⟨s⟩⟩) none none none=some (.string ⟨⟨s⟩⟩):=by
    have e:ByteArray.size ⟨⟨s⟩⟩=s.length:=rfl;simp[A0x,hu,U6,e]
   obtain⟨v',g1,g2⟩:=A2f (P:=P) (ρ:=ρ) (lo':=none) (hi':=none) (mx':=none) hm (.pure rfl) trivial trivial trivial w;cases V9 g2;exact⟨_,g1,hx⟩
  ·obtain⟨h2,h⟩:=A2 h;obtain⟨l',rfl,hl⟩:=some_inv hlo;cases none_inv hhi;obtain⟨k,z,rfl,f2,_⟩:=O6 hl (A1 h2);obtain⟨u,e1,e2,r,e3,e4,e5⟩:=L5 h hS;simp only[D7,I0,f1,f2,evU]at e1;have hm:=B43 (P:=P) (kl:=k) (kh:=.i64) hu e1 e3;have hm2:A0x P t (.string ⟨⟨s⟩⟩) (some (.int k z)) none none=some r:=by
    rw[← hm];have e:ByteArray.size ⟨⟨s⟩⟩=s.length:=rfl;have b:Nat.ble s.length s.length=true:=C3 (A5 _);have e6:((s.length:Nat):Int)=Int.ofNat s.length:=rfl;simp only[A0x,hu,U6,e,e6,b,cond_true]
   obtain⟨v',g1,g2⟩:=A2f (P:=P) (ρ:=ρ) (lo':=some (.int k z)) (hi':=none) (mx':=none) hm2 (.pure rfl) (VR.pure rfl:VR ρ _ _) trivial trivial w;have:VR ρ r v':=g2;have hp:=A2b e3;cases g2 with
   | pure _=>exact⟨_,g1,e4 ρ⟩
   | _=>simp[H5,ixp,Go.Sx.dat,Go.Sx.clp,Go.Sx.own,Go.Sx.dpt,Go.Sx.opt,Go.Sx.yv,Go.Sx.sdt]at hp
  ·obtain⟨h2,h⟩:=A2 h;obtain⟨h',rfl,hh⟩:=some_inv hhi;cases none_inv hlo;obtain⟨k,z,rfl,f2,_⟩:=O6 hh (A1 h2);obtain⟨u,e1,e2,r,e3,e4,e5⟩:=L5 h hS;have f0:D2 Ora.env (.int .i64 0)=.int .i64 0:=rfl;simp only[D7,I0,f1,f2,f0,evU]at e1;have hm:=B43 (P:=P) (kl:=.i64) (kh:=k) hu e1 e3;have hm2:A0x P t (.string ⟨⟨s⟩⟩) none (some (.int k z)) none=some r:=by
    rw[← hm];have e6:(0:Int)=Int.ofNat 0:=rfl;cases z with
    | negSucc z=>simp only[A0x,hu,U6]
    | ofNat z =>
      have b0:Nat.ble 0 z=true:=C3 (v7 _);simp only[A0x,hu,U6,e6];cases Nat.ble z (ByteArray.size ⟨⟨s⟩⟩)<;>simp[b0]
   obtain⟨v',g1,g2⟩:=A2f (P:=P) (ρ:=ρ) (lo':=none) (hi':=some (.int k z)) (mx':=none) hm2 (.pure rfl) trivial (VR.pure rfl:VR ρ _ _) trivial w;have hp:=A2b e3;cases g2 with
   | pure _=>exact⟨_,g1,e4 ρ⟩
   | _=>simp[H5,ixp,Go.Sx.dat,Go.Sx.clp,Go.Sx.own,Go.Sx.dpt,Go.Sx.opt,Go.Sx.yv,Go.Sx.sdt]at hp
  ·obtain⟨h2,h⟩:=A2 h;obtain⟨h2,h3⟩:=B2 h2;obtain⟨h',rfl,hh⟩:=some_inv hhi;obtain⟨l',rfl,hl⟩:=some_inv hlo;obtain⟨k,z,rfl,f2,_⟩:=O6 hl (A1 h2);obtain⟨j,y,rfl,f3,_⟩:=O6 hh (A1 h3);obtain⟨u,e1,e2,r,e3,e4,e5⟩:=L5 h hS;simp only[D7,I0,f1,f2,f3,evU]at e1;have hm:=B43 (P:=P) (kl:=k) (kh:=j) hu e1 e3;obtain⟨v',g1,g2⟩:=A2f (P:=P) (ρ:=ρ) (lo':=some (.int k z)) (hi':=some (.int j y)) (mx':=none) hm (.pure rfl) (VR.pure rfl:VR ρ _ _) (VR.pure rfl:VR ρ _ _) trivial w;have hp:=A2b e3;cases g2 with
   | pure _=>exact⟨_,g1,e4 ρ⟩
   | _=>simp[H5,ixp,Go.Sx.dat,Go.Sx.clp,Go.Sx.own,Go.Sx.dpt,Go.Sx.opt,Go.Sx.yv,Go.Sx.sdt]at hp
 ·cases h
theorem B0H{b:Builtin}{vs vs':List Value}{tys:List TypeId}{ty:TypeId}{ks:Array Bool}{v:Value}(hr:HR P base ρ m.H w)(h:A1X P m b vs tys=some (v,m'))(hx:LR ρ vs vs')(hS:Sat m'.lg) :
  ∃ s:Sem Value,builtin b ⟨tys⟩ ty ks ⟨vs'⟩=(do pure (.value (← s)))∧∃ r,s.run P w=.ok r w∧VR ρ v r:=by
 unfold A1X at h;split at h
 ·obtain⟨x',r1,rfl,h1,h2⟩:=hx.tail;cases h2.nil_inv;split at h
  ·rename_i hu;obtain⟨h3,h⟩:=A2 h;obtain⟨s,rfl,f1⟩:=A0b h1 (A0 h3);obtain⟨u,e1,e2,r,e3,e4,e5⟩:=L5 h hS;simp only[D7,I0,f1,evU]at e1;subst e1;cases e3;rename_i t rest _ _;have hm:B9n P m t (.string ⟨⟨s⟩⟩)=some (.int .i64 s.length):=by simp[B9n,hu]
   obtain⟨g1,_⟩:=B6e (ρ:=ρ) (ty:=ty) (tys:=rest) hr hm (.pure rfl);exact⟨_,rfl,_,g1,e4 ρ⟩
  ·cases h
 ·obtain⟨x',r1,rfl,h1,h2⟩:=hx.tail;obtain⟨y',r2,rfl,h3,h4⟩:=h2.tail;cases h4.nil_inv;obtain⟨h5,h⟩:=A2 h;obtain⟨h5,h6⟩:=B2 h5;have h5:=A1 h5;have h6:=A0 h6;obtain⟨k,a,rfl,f1,q1⟩:=O6 h1 h5;obtain⟨j,c,rfl,f2,q2⟩:=O6 h3 (h6▸h5);obtain⟨u,e1,e2,r,e3,e4,e5⟩:=L5 h hS;simp only[D7,I0,f1,f2,evU]at e1;subst e1;cases e3;obtain⟨g1,_⟩:=B6Z (P:=P) (ρ:=ρ) (ty:=ty) (tys:=⟨tys⟩) (vs:=[.int k a,.int j c]) rfl (.cons (.pure rfl) (.cons (.pure rfl) .nil)) w;exact⟨_,rfl,_,g1,e4 ρ⟩
 ·obtain⟨x',r1,rfl,h1,h2⟩:=hx.tail;obtain⟨y',r2,rfl,h3,h4⟩:=h2.tail;cases h4.nil_inv;obtain⟨h5,h⟩:=A2 h;obtain⟨h5,h6⟩:=B2 h5;have h5:=A1 h5;have h6:=A0 h6;obtain⟨k,a,rfl,f1,q1⟩:=O6 h1 h5;obtain⟨j,c,rfl,f2,q2⟩:=O6 h3 (h6▸h5);obtain⟨u,e1,e2,r,e3,e4,e5⟩:=L5 h hS;simp only[D7,I0,f1,f2,evU]at e1;subst e1;cases e3;obtain⟨g1,_⟩:=B6Y (P:=P) (ρ:=ρ) (ty:=ty) (tys:=⟨tys⟩) (vs:=[.int k a,.int j c]) rfl (.cons (.pure rfl) (.cons (.pure rfl) .nil)) w;exact⟨_,rfl,_,g1,e4 ρ⟩
 ·cases h
theorem B7I{v:Value}{k:IntKind}{n:Int}(h:D2 Ora.env v=.int k n):A5c Ora.env v=some n:=by
 cases v with
 | complex k i t =>
   cases k with
   | f64 =>
     have h:Ora.env i=.int _ n:=h;simp only[A5c,h]
   | f32=>cases h
 | int j n=>cases h;rfl
 | _=>cases h
theorem B2w{v:Value}{n:Int}(h:A5c Ora.env v=some n):∃ k,D2 Ora.env v=.int k n:=by
 cases v with
 | complex k i t =>
   cases k with
   | f64 =>
     simp only[A5c]at h;split at h
     ·rename_i k z he;cases h;exact⟨k,he⟩
     ·cases h
   | f32=>cases h
 | int j n=>cases h;exact⟨j,rfl⟩
 | _=>cases h
theorem B6l{a:Addr}{s n:Nat}{i i' v:Value}(h:B71 m a s n i=some (v,m'))(hi:VR ρ i i')(hS:Sat m'.lg):v=ixp a s i n∧∃ k z,i'=.int k (.ofNat z)∧z<n∧A5c Ora.env i=some (.ofNat z):=by
 unfold B71 at h;cases hq:!(Nat.blt (F4 i) 8)with
 | true=>rw[hq]at h;cases h
 | false =>
   have hi8:F4 i<8:=by
    have:Nat.blt (F4 i) 8=true:=by simpa using hq
    exact A1 this
   rw[hq]at h;simp only[cond_false]at h;split at h
   ·rename_i b H k W hh lg hl;split at h
    ·rename_i lg' hb;cases h;obtain⟨u,e1,e2,r,e3,e4,_⟩:=L5 hl (R9.le hS (A4Y hb));have hbt:=A5b (ρ:=ρ) hb (e4 ρ) hS;subst hbt;obtain⟨k0,z,rfl,f1,_⟩:=O6 hi hi8;have f0:D2 Ora.env (.int .i64 (.ofNat n))=.int .i64 (.ofNat n):=rfl;simp only[D7,I0,f1,f0,evU]at e1;subst e1;have e3:(decide (0≤z) && decide (z<Int.ofNat n))=true:=by
      have:=A4 e3;exact Value.bool.inj this
     simp only[G7,decide_eq_true_eq]at e3;cases z with
     | negSucc z=>exact absurd e3.1 (by simp)
     | ofNat z=>exact⟨rfl,k0,z,rfl,by have:=e3.2;simpa using this,B7I f1⟩
    ·cases h
   ·cases h
theorem B0D{t:TypeId}{x x' i i' v:Value}(h:A1V P m t x i=some (v,m'))(hx:VR ρ x x')(hi:VR ρ i i')(hS:Sat m'.lg)(w:World):∃ r,(Instr.indexAt t x' i').run P w=.ok r w∧VR ρ v r:=by
 unfold A1V at h;split at h
 ·rename_i n e a hu;split at h
  ·rename_i s hs hsp;obtain⟨rfl,k,z,rfl,hz,he⟩:=B6l h hi hS;obtain⟨l,hl,_,rfl⟩:=Q0 hx;have hb:Nat.blt z n=true:=C3 hz;have hm:Y2 P t (.pointer (some a)) (.int k (.ofNat z))=some (.pointer (some ⟨a.block,a.off+z*s,none⟩)):=by
    simp only[Y2,hu,hs,hsp,hb,cond_true,A0R,E1]
   obtain⟨v',g1,g2⟩:=A0p (P:=P) hm hx (.pure rfl) w;obtain⟨l2,hl2,_,rfl⟩:=Q0 g2;have hl2:ρ a.block=some l2:=hl2;rw[hl]at hl2;cases hl2;exact⟨_,g1,.ixp hl hsp he hz rfl⟩
  ·cases h
 ·rename_i e a n c hu;split at h
  ·rename_i s hs hsp;cases hc:Nat.beq c (M0+2)with
   | true=>rw[hc]at h;cases h
   | false =>
     rw[hc]at h;obtain⟨rfl,k,z,rfl,hz,he⟩:=B6l h hi hS;have hb:Nat.blt z n=true:=C3 hz;have hm:Y2 P t (.slice (some a) n c) (.int k (.ofNat z))=some (.pointer (some ⟨a.block,a.off+z*s,none⟩)):=by
      simp only[Y2,hu,hs,hsp,hb,cond_true,A0R,E1]
     obtain⟨v',g1,g2⟩:=A0p (P:=P) hm hx (.pure rfl) w;obtain⟨l2,hl2,_,rfl⟩:=Q0 g2;have hl2:ρ a.block=some l2:=hl2;exact⟨_,g1,.ixp hl2 hsp he hz rfl⟩
  ·cases h
 ·cases h
theorem B6n{a:Addr}{s n:Nat}{i v':Value}(h:VR ρ (ixp a s i n) v'):∃ l z,ρ a.block=some l∧a.spot=none∧A5c Ora.env i=some (.ofNat z)∧z<n∧v'=.pointer (some ⟨l.blk,a.off+z*s+l.sh,none⟩):=by
 generalize hx:ixp a s i n=x at h;cases h with
 | ixp h hs hi hz hv =>
   simp only[ixp,Value.func.injEq,d8,G8,Value.pointer.injEq,C5,Value.int.injEq,A3f,true_and,and_true]at hx;obtain⟨rfl,rfl,rfl,rfl⟩:=hx;exact⟨_,_,h,hs,hi,hz,hv⟩
 | pure hp=>subst hx;simp[ixp,H5]at hp
 | _=>simp[ixp,Go.Sx.dat,Go.Sx.clp,Go.Sx.own,Go.Sx.dpt,Go.Sx.opt,Go.Sx.yv,Go.Sx.sdt]at hx
theorem B0F{s:TypeId}{x x' v:Value}{i:Nat}(h:A1W P m s x i=some (v,m'))(hx:VR ρ x x')(w:World):∃ r,(Instr.fieldAt s x' i).run P w=.ok r w∧VR ρ v r:=by
 unfold A1W at h;split at h
 ·rename_i a k j n;split at h
  ·rename_i fs hu;split at h
   ·rename_i f hf hsp;split at h
    ·rename_i z hz;cases h;obtain⟨l,y,h1,h2,h3,h4,rfl⟩:=B6n (n:=n) (s:=k) (i:=j) hx;have hm:A0q P s (.pointer (some ⟨a.block,a.off+y*k,none⟩)) i=some (.pointer (some ⟨a.block,a.off+y*k+f.offset,none⟩)):=by
      simp only[A0q,hu,hf,hz,A0R,E1]
     obtain⟨v',g1,g2⟩:=A4H (P:=P) (ρ:=ρ) hm (.ptr h1) w;obtain⟨l2,hl2,_,rfl⟩:=Q0 g2;have hl2:ρ a.block=some l2:=hl2;rw[h1]at hl2;cases hl2;refine⟨_,g1,?_⟩;simp only[A0R,E1];refine .ixp (a:=⟨a.block,a.off+f.offset,none⟩) h1 rfl h3 h4 ?_;simp only[Value.pointer.injEq,C5,Addr.mk.injEq,true_and,and_true];omega
    ·cases h
   ·cases h
  ·cases h
 ·cases h
theorem A7N{cs:List Value}{s:Nat}:∀ {n o:Nat} {l:List Value},A8E cs s o n=some l→l.length=n∧∀ z,z<n→cs[o+z*s]? = l[z]?
 | 0,o,l,h=>by cases h;exact⟨rfl,fun z hz=>by omega⟩
 | n+1,o,l,h=>by
   unfold A8E at h;split at h
   ·rename_i v r hv hr;cases h;obtain⟨h1,h2⟩:=A7N hr;refine⟨by simp[h1],fun z hz=>?_⟩;cases z with
    | zero=>simpa using hv
    | succ z =>
      have:=h2 z (by omega);rw[Nat.succ_mul,show o+(z*s+s)=o+s+z*s by omega]
      simpa using this
   ·cases h
theorem A7Q{cs cs':List Value}{s n:Nat}{i:Value}{z:Nat}(he:A5c Ora.env i=some (.ofNat z))(hz:z<n)(hl:LR ρ cs cs'):∀ {k o:Nat} {m m':Mem} {r:List Value},A0l m cs s n i o k=some (r,m')→Sat m'.lg →
  LR ρ r ((cs'.drop (o+z*s)).take k)∧r.length=k
 | 0,o,m,m',r,h,hS=>by cases h;exact⟨by simpa using LR.nil,rfl⟩
 | k+1,o,m,m',r,h,hS=>by
   unfold A0l at h;split at h
   ·rename_i v l hstr;obtain⟨hq,h⟩:=A2 h;obtain⟨hq,h10⟩:=B2 hq;have h10:F4 v<10:=A1 h10;split at h
    ·rename_i hh m1 h1;split at h
     ·rename_i r2 m2 h2;cases h;obtain⟨ih1,ih2⟩:=A7Q he hz hl h2 hS;obtain⟨u,e1,e2,rr,e3,e4,_⟩:=L5 h1 (R9.le hS (A16 h2).1);obtain⟨g1,g2⟩:=A7N hstr;have hget:=g2 z hz;have hzl:z<(v::l).length:=by rw[g1];exact hz
      rw[A3 hzl]at hget;obtain⟨c',f1,f2⟩:=hl.get hget;have htag:=A24 hq (A3 hzl);obtain⟨t1,_⟩:=x3 f2 (by omega);obtain⟨ki,ei⟩:=B2w he;simp only[D7,ei,evU]at e1;have e1:u=D2 Ora.env (v::l)[z]:=by
       rw[← e1];show(List.map (D2 Ora.env) (v::l)).getD z .none=_;rw[B5,G5,A3 hzl];rfl
      rw[e1,t1]at e3;cases e3;refine⟨?_,by simp[ih2]⟩;have:(cs'.drop (o+z*s)).take (k+1)=rr::(cs'.drop (o+1+z*s)).take k:=by
       rw[l4 (A9.1 f1).1,List.take_succ_cons,(A9.1 f1).2,show o+z*s+1=o+1+z*s by omega]
      rw[this];exact .cons (e4 ρ) ih1
     ·cases h
    ·cases h
   ·cases h
theorem B6b{t:TypeId}{a:Addr}{l:Loc}{z s n k:Nat}{i:Value}{cs hs:List Value}(h:HR P base ρ m.H w)(hr:u7 m a ((n-1)*s+k)=some cs)(hl:ρ a.block=some l)(he:A5c Ora.env i=some (.ofNat z))(hz:z<n)(hc:A0l m cs s n i 0 k=some (hs,m'))(hS:Sat m'.lg) :
  ∃ rs,LR ρ hs rs∧rs.length=k∧∀ (j:Nat) (v':Value),rs[j]? = some v'→w.cell? ⟨l.blk,a.off+z*s+l.sh+j,none⟩=some v':=by
 obtain⟨r',h1,h2,h3⟩:=d9 h hr hl;obtain⟨g1,g2⟩:=A7Q he hz h1 hc hS;rw[E4]at g1;refine⟨_,g1,g1.1▸g2,fun j v' hj=>?_⟩;have hjk:j<k:=by
  have:=(A9.1 hj).1;simp at this;omega
 rw[F0 hjk,F9]at hj
 have:=h3 _ v' hj;rw[show a.off+z*s+l.sh+j=a.off+l.sh+(z*s+j) by omega];exact this
theorem B4z{t:TypeId}{x x' v:Value}(h:HR P base ρ m.H w)(ho:A5u P m t x=some (v,m'))(hx:VR ρ x x')(hS:Sat m'.lg):∃ r,(Instr.loadAt t x').run P w=.ok r w∧VR ρ v r:=by
 unfold A5u at ho;split at ho
 ·rename_i a s i n;obtain⟨l,z,h1,h2,h3,h4,rfl⟩:=B6n (n:=n) (s:=s) (i:=i) hx;split at ho
  ·rename_i ha;split at ho
   ·rename_i cs hr;split at ho
    ·rename_i hh m2 hc;cases ho;obtain⟨rs,g1,g2,g3⟩:=B6b (t:=t) h hr h1 h3 h4 hc hS;obtain⟨v',r2,rfl,e1,e2⟩:=g1.tail;refine⟨v',?_,e1⟩
     have:=g3 0 v' rfl;simp[Instr.loadAt,Instr.sureAddr,loadVar,Sem.run_bind,A0c ha,Result.andThen,run_load,show w.cell? ⟨l.blk,a.off+z*s+l.sh,none⟩=some v' from by simpa using this]
    ·cases ho
   ·cases ho
  ·rename_i zz ha hn;split at ho
   ·rename_i cs hr;split at ho
    ·rename_i hh m2 hc;cases ho;obtain⟨rs,g1,g2,g3⟩:=B6b (t:=t) h hr h1 h3 h4 hc hS;refine⟨.agg ⟨rs⟩,?_,.agg g1.1 g1.2⟩;simp[Instr.loadAt,Instr.sureAddr,loadVar,Sem.run_bind,A0c ha,K1 hn,Result.andThen,J5 g2 g3]
    ·cases ho
   ·cases ho
  ·cases ho
 ·cases ho
theorem C2E{fr:Fr}{g:Operand→Value}{o:Oper}{v:Value}(h:HR P base ρ m.H w)(ho:B8g P fr m o.op=some (v,m'))(hg:FR ρ fr g o.op)(hS:Sat m'.lg):NOk P base ρ m w (execOp g o) v m':=by
 obtain⟨_,lg,rfl⟩:=B5_ ho;have hst:St P base ρ ρ m (m.wLg lg) w w:=St.wLg h lg;obtain⟨dst,op,ty,pos,af,gd⟩:=o;simp only at ho hg;have hx1:∀ {x},x ∈ op.operands.toList→VR ρ (ev fr x) (g x):=fun hx=>hg _ hx
 have fin:∀ {s:Sem Value},(∃ r,s.run P w=.ok r w∧VR ρ v r)→NOk P base ρ m w (do pure (.value (← s))) v (m.wLg lg):=fun{s} ⟨r,h1,h2⟩=>NOk.of ⟨r,ρ,w,h1,h2,hst⟩
 unfold B8g at ho;split at ho
 ·rename_i c a b;have hc:=hx1 (x:=c) (by simp[Op.operands]);unfold A8D at ho;obtain⟨H,n,W,hi,l0⟩:=m;simp only at ho;split at ho
  ·rename_i l1 hb;simp only[C5,M1]at ho;obtain⟨rfl,ho⟩:=ho;have hS1:Sat l1:=by
    have:l1=(Mem.wLg ⟨H,n,W,hi,l0⟩ lg).lg:=by rw[← ho]
    rw[this];exact hS
   have:=A5b hb hc hS1;exact⟨g a,ρ,w,.inl (by simp[execOp,this,asBool]),hx1 (by simp[Op.operands]),hst⟩
  ·rename_i l1 hb;simp only[C5,M1]at ho;obtain⟨rfl,ho⟩:=ho;have hS1:Sat l1:=by
    have:l1=(Mem.wLg ⟨H,n,W,hi,l0⟩ lg).lg:=by rw[← ho]
    rw[this];exact hS
   have:=A5b hb hc hS1;exact⟨g b,ρ,w,.inl (by simp[execOp,this,asBool]),hx1 (by simp[Op.operands]),hst⟩
  ·cases ho
 ·rename_i op t x y yt;have hx:=hx1 (x:=x) (by simp[Op.operands]);have hy:=hx1 (x:=y) (by simp[Op.operands]);refine fin (s:=do eqGuard op t x y (g x) (g y);binOp op t (g x) (g y)) ?_;split at ho
  ·rename_i r hr;cases ho;exact B7T hr hx hy hS w
  ·rename_i hr;exact B8h ho hx hy hr hS w
 ·rename_i op t x;exact fin (s:=Op.unary op (g x)) (B8e ho (hx1 (by simp[Op.operands])) hS w)
 ·exact fin (B41 ho (hx1 (by simp[Op.operands])) hS w)
 ·rename_i t x lo hi mx;exact fin (s:=Instr.sliceAt t (g x) (lo.map g) (hi.map g) (mx.map g)) (B3F ho (hx1 (x:=x) (by simp[Op.operands])) (A3H (g:=g) fun y hy=>hx1 (by simp[Op.operands]at hy ⊢;exact .inr (.inl hy))) (A3H (g:=g) fun y hy=>hx1 (by simp[Op.operands]at hy ⊢;exact .inr (.inr (.inl hy)))) (A3H (g:=g) fun y hy=>hx1 (by simp[Op.operands]at hy ⊢;exact .inr (.inr (.inr hy)))) hS w)
 ·exact fin (B3H ho (hx1 (by simp[Op.operands])) (hx1 (by simp[Op.operands])) hS w)
 ·exact fin (B0D ho (hx1 (by simp[Op.operands])) (hx1 (by simp[Op.operands])) hS w)
 ·exact fin (B0F ho (hx1 (by simp[Op.operands])) w)
 ·rename_i t x;exact fin (s:=Instr.loadAt t (g x)) (B4z h ho (hx1 (by simp[Op.operands])) hS)
 ·rename_i b xs tys;have l1:=A02 (ρ:=ρ) (fr:=fr) (g:=g) (xs:=xs.toList) fun x hx=>hx1 (by show x ∈ (#[]++xs:Array Operand).toList;simpa using hx)
  obtain⟨ks,e2⟩:∃ ks,execOp g ⟨dst,.call ⟨.builtin b,xs,tys⟩,ty,pos,af,gd⟩=builtin b tys ty ks (xs.map g):=⟨_,rfl⟩;obtain⟨s,e,hs⟩:=B0H (ty:=ty) (ks:=ks) h ho l1 hS;have e1:xs.map g=⟨xs.toList.map g⟩:=by apply I3;simp
  rw[e2,e1];have e3:tys=⟨tys.toList⟩:=rfl;rw[e3,e];exact fin hs
 ·cases ho
end
end Go.Sx
namespace Go.Sx
set_option linter.all false
open Go
set_option linter.unusedVariables false
set_option linter.unusedSimpArgs false
variable [Ora]
section
variable {P:Program} {base:Nat} {ρ ρ':Ren} {m m':Mem} {w w':World}
theorem J6.step{m1:Mem}{hi:Nat}(hf:J6 ρ m.n hi)(st:St P base ρ ρ' m m1 w w'):J6 ρ' m1.n hi:=fun b h1 h2=>by
 cases hb:ρ' b with
 | none=>rfl
 | some l =>
   cases h0:ρ b with
   | some l0=>rw[hf b (B0 st.nle h1) h2]at h0;cases h0
   | none=>have:=(st.new b l hb h0).2;omega
theorem J6.less{n hi hi':Nat}(hf:J6 ρ n hi)(h:hi'≤hi):J6 ρ n hi':=fun b h1 h2=>hf b h1 (C7 h2 h)
def A1y(m:Mem)(t:Nat)(op:LOp)(xs:List Value):Lg:=⟨m.lg.nx+1,m.lg.pi,.dt m.lg.nx t op xs::m.lg.log⟩
theorem O7{t:Nat}{op:LOp}{xs:List Value}{k:Nat→Mem→Res}:A74 m t op xs k=k m.lg.nx (m.wLg (A1y m t op xs)):=by
 obtain⟨H,n,W,hi,⟨nx,pi,log⟩⟩:=m;simp only[A74,E1,G6];rfl
theorem B3z{t:Nat}{op:LOp}{xs:List Value}{k:Nat→Mem→Option (List Value×Mem)}:Y3.letDo t op xs m k=k m.lg.nx (m.wLg (A1y m t op xs)):=by
 obtain⟨H,n,W,hi,⟨nx,pi,log⟩⟩:=m;simp only[Y3.letDo,E1,G6];rfl
@[simp] theorem l5(lg:Lg):(m.wLg lg).lg=lg:=by cases m;rfl
@[simp] theorem A48(lg:Lg):(m.wLg lg).H=m.H:=by cases m;rfl
@[simp] theorem B8K(lg:Lg):(m.wLg lg).n=m.n:=by cases m;rfl
@[simp] theorem B4u(lg:Lg):(m.wLg lg).hi=m.hi:=by cases m;rfl
@[simp] theorem D00(lg:Lg):(m.wLg lg).W=m.W:=by cases m;rfl
theorem W3{t:Nat}{op:LOp}{xs:List Value}:m.lg.le (m.wLg (A1y m t op xs)).lg:=by
 rw[l5];exact⟨[_],rfl⟩
theorem A3c{t:Nat}{op:LOp}{xs:List Value}{lg:Lg}(hS:Sat lg)(hl:(m.wLg (A1y m t op xs)).lg.le lg):Ora.env m.lg.nx=evU op (xs.map (D2 Ora.env))∧F1 (Ora.env m.lg.nx)=t∧∃ nul wd rows,Ora.env m.lg.nx=.seq nul wd rows∧t=10+wd:=by
 obtain⟨h1,h2,nul,wd,rows,h3⟩:=hS _ (hl.subset (by rw[l5];exact B4));exact⟨h1,h2,nul,wd,rows,h3,by rw[← h2,h3];rfl⟩
theorem A1D{b:Nat}(h:A5S m b=true):Hp.get m.H b=some .frz:=by
 unfold A5S at h;split at h
 ·assumption
 ·cases h
theorem B6q{b:Nat}(h:A5S m b=true):b≤G2:=by
 unfold A5S at h;split at h
 ·exact A1 h
 ·cases h
theorem C0E{b:Nat}(hr:HR P base ρ m.H w)(h:A5S m b=true):∃ l,ρ b=some l:=by
 obtain⟨l,h1,_⟩:=hr.at_ b (B6q h) _ (A1D h);exact⟨l,h1⟩
theorem R4{k:Nat→Mem→Option (Value×Nat×Mem)}{r:Value×Nat×Mem}(h:A2O m k=some r):∃ m1,e9 m .frz (fun _=>undef)=some (undef,m1)∧k m.n m1=some r∧m1.H=m.H.set m.n (some .frz)∧m.n≤G2∧m1.lg=m.lg:=by
 obtain⟨H,n,W,hi,lg⟩:=m;simp only[A2O,E1,A1d]at h;obtain⟨h1,h2⟩:=A2 h;refine⟨_,?_,h2,rfl,A1 h1,rfl⟩;simp only[e9,E1,A1d,h1,cond_true]
def A3i(G:Nat→Option Obj):Loc:=⟨0,0,0,0,G,false⟩
theorem St.region{m1:Mem}{G:Nat→Option Obj}(h:HR P base ρ m.H w)(hn:e9 m .frz (fun _=>undef)=some (undef,m1))(hf:J6 ρ m.n m1.hi)
  (hG:∀ k o,G k=some o→w.heap[k]? = some o∧∃ id ab l,id≤G2∧Hp.get m.H id=some ab∧ρ id=some l∧Tf ab l k∧ab.rw=false) :
  upd ρ m.n (A3i G) m.n=some (A3i G)∧Hp.get m1.H m.n=some .frz∧St P base ρ (upd ρ m.n (A3i G)) m m1 w w:=by
 obtain⟨h1,h2,h3⟩:=St.new0 (l':=A3i G) h hn hf ⟨rfl,fun k o hk=>(hG k o hk).1⟩ rfl fun q hq=>by
  rcases hq with⟨hq,_⟩|⟨_,o,hq⟩
  ·cases hq
  ·obtain⟨g1,id,ab,l,g2,g3,g4,g5,g6⟩:=hG q o hq;refine⟨⟨id,ab,l,g2,g3,g4,g5⟩,fun id2 hid2 a l2 ha hl hr ho e=>?_⟩
   have:=((h.atl hl ha).2 hr ho).2 id g2 ab l g3 g4 (e▸g5.2);subst this;rw[g3]at ha;have ha:=A4 ha;subst ha;rw[g6]at hr;cases hr
 refine⟨h2,?_,h3⟩;obtain⟨hle,_,rfl⟩:=L4 hn;show Hp.get (m.H.set m.n (some .frz)) m.n=_;rw[E3 _ _ _ _ hle hle,if_pos rfl]
theorem A4x{b i t:Nat}{v':Value}(h:VR ρ (dat b i t) v'):∃ l,ρ b=some l∧Enc l.G (Ora.env i) v'∧F1 (Ora.env i)=t∧10≤t:=by
 generalize hx:dat b i t=x at h;cases h with
 | dat h he ht h10 hf =>
   simp only[dat,Value.func.injEq,d8,G8,Value.pointer.injEq,C5,Addr.mk.injEq,Value.complex.injEq,true_and,and_true]at hx;obtain⟨rfl,rfl,rfl⟩:=hx;exact⟨_,h,he,ht,h10⟩
 | pure hp=>subst hx;simp[dat,H5]at hp
 | _=>simp[ixp,Go.Sx.dat,Go.Sx.clp,Go.Sx.own,Go.Sx.dpt,Go.Sx.opt,Go.Sx.yv,Go.Sx.sdt]at hx
theorem A1_{b i t:Nat}{v':Value}(h:VR ρ (clp b i t) v'):∃ l,ρ b=some l∧Enc l.G (Ora.env i) v'∧F1 (Ora.env i)=t∧10≤t∧C0p v':=by
 generalize hx:clp b i t=x at h;cases h with
 | clp h he ht h10 hf hc =>
   simp only[clp,Value.func.injEq,d8,G8,Value.pointer.injEq,C5,Addr.mk.injEq,Value.complex.injEq,true_and,and_true]at hx;obtain⟨rfl,rfl,rfl⟩:=hx;exact⟨_,h,he,ht,h10,hc⟩
 | pure hp=>subst hx;simp[clp,H5]at hp
 | _=>simp[ixp,Go.Sx.dat,Go.Sx.clp,Go.Sx.own,Go.Sx.dpt,Go.Sx.opt,Go.Sx.yv,Go.Sx.sdt]at hx
theorem A19{b i t:Nat}{v':Value}(h:VR ρ (own b i t) v'):B9V ρ b (Ora.env i) v'∧F1 (Ora.env i)=t:=by
 generalize hx:own b i t=x at h;cases h with
 | own h ht hf =>
   simp only[own,Value.func.injEq,d8,G8,Value.pointer.injEq,C5,Addr.mk.injEq,Value.complex.injEq,true_and,and_true]at hx;obtain⟨rfl,rfl,rfl⟩:=hx;exact⟨h,ht⟩
 | pure hp=>subst hx;simp[own,H5]at hp
 | _=>simp[ixp,Go.Sx.dat,Go.Sx.clp,Go.Sx.own,Go.Sx.dpt,Go.Sx.opt,Go.Sx.yv,Go.Sx.sdt]at hx
theorem B2P{b i t o:Nat}{z v':Value}(h:VR ρ (dpt b i t z o) v'):C9w ρ b (Ora.env i) (A5c Ora.env z) o v'∧F1 (Ora.env i)=t:=by
 generalize hx:dpt b i t z o=x at h;cases h with
 | dpt h ht hf =>
   simp only[dpt,Value.func.injEq,d8,G8,Value.pointer.injEq,C5,Addr.mk.injEq,Value.complex.injEq,Value.int.injEq,A3f,true_and,and_true]at hx;obtain⟨rfl,⟨rfl,rfl⟩,rfl,rfl⟩:=hx;exact⟨h,ht⟩
 | pure hp=>subst hx;simp[dpt,H5]at hp
 | _=>simp[ixp,Go.Sx.dat,Go.Sx.clp,Go.Sx.own,Go.Sx.dpt,Go.Sx.opt,Go.Sx.yv,Go.Sx.sdt]at hx
theorem A8L{b i t o:Nat}{z v':Value}(h:VR ρ (opt b i t z o) v'):C83 ρ b (Ora.env i) (A5c Ora.env z) o v'∧F1 (Ora.env i)=t:=by
 generalize hx:opt b i t z o=x at h;cases h with
 | opt h ht hf =>
   simp only[opt,Value.func.injEq,d8,G8,Value.pointer.injEq,C5,Addr.mk.injEq,Value.complex.injEq,Value.int.injEq,A3f,true_and,and_true]at hx;obtain⟨rfl,⟨rfl,rfl⟩,rfl,rfl⟩:=hx;exact⟨h,ht⟩
 | pure hp=>subst hx;simp[opt,H5]at hp
 | _=>simp[ixp,Go.Sx.dat,Go.Sx.clp,Go.Sx.own,Go.Sx.dpt,Go.Sx.opt,Go.Sx.yv,Go.Sx.sdt]at hx
theorem B1K{b c tc g t i:Nat}{T:TypeId}{m1:Mem}{v':Value}(h:HR P base ρ m.H w)(hg:Hp.get m.H b=some (.sq c tc T g true))(hv:VR ρ (own b i t) v')(htc:tc=t)(hgf:Hp.get m.H g=some .frz)
  (hn:e9 m .frz (fun _=>undef)=some (undef,m1)) (hf:J6 ρ m.n m1.hi):∃ l,St P base ρ (upd ρ m.n l) m m1 w w∧upd ρ m.n l m.n=some l∧Hp.get m1.H m.n=some .frz∧Enc l.G (Ora.env c) v'∧F1 (Ora.env c)=t:=by
 obtain⟨hown,htag⟩:=A19 hv;rcases hown with⟨l,wd,h1,h2,h3,rfl⟩|⟨l,wd,rows,h1,h2,h3,h4,h40,rfl⟩
 ·obtain⟨hbr,_⟩:=h.atl h1 hg;obtain⟨wd2,inf,e1,e2,e3,e4⟩:=SqR.ex hbr;rcases e4 with⟨_,e4⟩|⟨e4,_⟩
  ·obtain⟨g1,g2,g3⟩:=St.region (G:=fun _=>none) h hn hf (fun k o hk=>by cases hk);exact⟨_,g3,g1,g2,by rw[e4];exact .nil,by rw[e4,← htc,e1];rfl⟩
  ·rw[h2]at e4;cases e4
 ·obtain⟨hbr,_⟩:=h.atl h1 hg;obtain⟨wd2,inf,e1,e2,e3,e4⟩:=SqR.ex hbr;rcases e4 with⟨e4,_⟩|⟨_,e4⟩
  ·rw[h2]at e4;cases e4
  ·obtain⟨C,fz,T',rows2,lg,f1,f2,f3,f4,f5,f6,f7,f8,f9⟩:=e4;obtain⟨hbg,_⟩:=h.atl f7 hgf;have hcomp:∀ k o,lg.G k=some o→w.heap[k]? = some o:=hbg.2;let G:Nat→Option Obj:=fun k=>if k=l.blk then some (.cells C T' fz)else lg.G k
   have hsub:∀ k o,lg.G k=some o→G k=some o:=fun k o hk=>by
    show(if k=l.blk then _ else _)=_;by_cases e:k=l.blk
    ·subst e;rw[if_pos rfl]
     have:=hcomp _ _ hk;rw[f1]at this;exact this
    ·rw[if_neg e];exact hk
   obtain⟨g1,g2,g3⟩:=St.region (G:=G) h hn hf fun k o hk=>by
    have hk:(if k=l.blk then some (.cells C T' fz)else lg.G k)=some o:=hk;by_cases e:k=l.blk
    ·subst e;rw[if_pos rfl]at hk;exact⟨by rw[f1];exact hk,b,_,l,h.dom _ _ h1,hg,h1,⟨rfl,.inl ⟨rfl,h2,rfl⟩⟩,rfl⟩
    ·rw[if_neg e]at hk;exact⟨hcomp _ _ hk,g,_,lg,h.dom _ _ f7,hgf,f7,⟨rfl,.inr ⟨rfl,o,hk⟩⟩,rfl⟩
   refine⟨_,g3,g1,g2,?_,by rw[f2,← htc,e1];rfl⟩;rw[f2,← f3];refine .sl (G:=G) (C:=C) (T:=T') (fz:=fz) (by omega) (fun _=>?_) (fun _=>?_) f6 fun r row j u v q1 q2 q3=>(f8 r row j u v q1 q2 q3).mono hsub
   ·show(if l.blk=l.blk then _ else _)=_;rw[if_pos rfl]
   ·have:=E6 wd2 f4;rw[← f3]at this;omega
theorem BR.thaw{c t g:Nat}{T:TypeId}{l:Loc}(h:BR P ρ (.sq c t T g false) l w):BR P ρ (.sq c t T g true) l w:=by
 obtain⟨wd,inf,h1,h2,h3,h4⟩:=SqR.ex h;refine⟨⟨wd,inf,h1,h2,h3,h4.imp (fun x=>x) fun⟨hon,h5⟩=>⟨hon,?_⟩⟩⟩;obtain⟨C,fz,T',rows,lg,h1,h2,h3,h4,h5,h6,h7,h8,h9⟩:=h5;exact⟨C,fz,T',rows,lg,h1,h2,h3,h4,h5,h6,h7,h8,fun h=>by cases h⟩
theorem A8v{id:Nat}{ab:AB}(h:A1Z m id ab=some m'){j:Nat}(hj:j≤G2):Hp.get m'.H j=if j=id then some ab else Hp.get m.H j:=by
 obtain⟨hle,rfl⟩:=U9 h;exact E3 _ _ _ _ hle hj
theorem A33{ab:AB}{k:Nat→Value}{v:Value}(h:e9 m ab k=some (v,m')){j:Nat}(hj:j≤G2):Hp.get m'.H j=if j=m.n then some ab else Hp.get m.H j:=by
 obtain⟨hle,_,rfl⟩:=L4 h;exact E3 _ _ _ _ hle hj
theorem B1s{t:Nat}{v v' x:Value}{b:Nat}(h:HR P base ρ m.H w)(ho:toD t v m=some (x,b,m'))(hf:J6 ρ m.n m'.hi)(hv:VR ρ v v')(hS:Sat m'.lg) :
  ∃ ρ' l,St P base ρ ρ' m m' w w∧ρ' b=some l∧Hp.get m'.H b=some .frz∧Enc l.G (D2 Ora.env x) v'∧F1 (D2 Ora.env x)=t∧m.lg.le m'.lg:=by
 unfold toD at ho;split at ho
 ·rename_i b0 i tg;obtain⟨h1,h2⟩:=A2 ho;cases h2;obtain⟨h1,h2⟩:=B2 h1;have h1:=A0 h1;obtain⟨l,e1,e2,e3,e4⟩:=A4x hv;exact⟨ρ,l,St.refl h,e1,A1D h2,e2,e3.trans h1,.refl _⟩
 ·rename_i b0 i tg;obtain⟨h1,h2⟩:=A2 ho;cases h2;obtain⟨h1,h2⟩:=B2 h1;have h1:=A0 h1;obtain⟨l,e1,e2,e3,e4,_⟩:=A1_ hv;exact⟨ρ,l,St.refl h,e1,A1D h2,e2,e3.trans h1,.refl _⟩
 ·rename_i b0 i tg;split at ho
  ·rename_i c tc T g hg;obtain⟨h1,h2⟩:=A2 ho;obtain⟨h1,h3⟩:=B2 h1;obtain⟨h1,h4⟩:=B2 h1;have h1:=A0 h1;have h4:=A0 h4;obtain⟨m1,q1,q2,_,_,q5⟩:=R4 h2;cases q2;subst h1;obtain⟨l,e1,e2,e3,e4,e5⟩:=B1K h hg hv h4 (A1D h3) q1 hf;exact⟨_,l,e1,e2,e3,e4,e5,by rw[q5];exact .refl _⟩
  ·rename_i c tc T g hg;obtain⟨h1,h2⟩:=A2 ho;obtain⟨h1,h3⟩:=B2 h1;have hgm:=B6q h3;obtain⟨h1,h4⟩:=B2 h1;have h1:=A0 h1;have h4:=A0 h4;split at h2
   ·rename_i m1 hs;obtain⟨m2,q1,q2,_,_,q5⟩:=R4 h2;cases q2;subst h1;have hbl:∃ l0,ρ b0=some l0:=by
     rcases(A19 hv).1 with⟨l,_,h1,_⟩|⟨l,_,_,h1,_⟩<;>exact⟨l,h1⟩
    obtain⟨l0,hl0⟩:=hbl;have hgl:=(h.atl hl0 hg).1;have hst:=St.same0 h hs hg rfl hl0 hgl.thaw (fun q hq=>by
     rcases hq with⟨_,a,b⟩|⟨a,_⟩
     ·exact .inl ⟨rfl,a,b⟩
     ·cases a)
    have hle:=(U9 hs).1;have hne:g≠b0:=fun e=>by subst e;rw[A1D h3]at hg;cases hg
    have hg1:Hp.get m1.H b0=some (.sq c tc T g true):=by rw[A8v hs hle,if_pos rfl]
    have hfz1:Hp.get m1.H g=some .frz:=by rw[A8v hs hgm,if_neg hne];exact A1D h3
    have hn1:m1.n=m.n:=by rw[(U9 hs).2]
    obtain⟨l,e1,e2,e3,e4,e5⟩:=B1K hst.hr hg1 hv h4 hfz1 q1 (by rw[hn1];exact hf);refine⟨_,l,St.trans hf hst e1,e2,e3,e4,e5,by rw[q5,(U9 hs).2];exact .refl _⟩
   ·cases h2
  ·cases ho
 ·obtain⟨h10,ho⟩:=A2 ho;have h10:=A1 h10;rw[O7]at ho;simp only at ho;obtain⟨m1,q1,q2,_,_,q5⟩:=R4 ho;cases q2;cases Q3 hv;have hlog:(m.wLg (A1y m t (.nilw (t-10)) [])).lg.le m'.lg:=by rw[q5];exact .refl _
  obtain⟨e1,e2,_⟩:=A3c hS hlog;have hst:=St.wLg h (A1y m t (.nilw (t-10)) []);obtain⟨g1,g2,g3⟩:=St.region (G:=fun _=>none) hst.hr q1 (by simpa using hf) (fun k o hk=>by cases hk);refine⟨_,_,St.trans (by simpa using hf) hst g3,g1,g2,?_,e2,W3.trans hlog⟩;show Enc _ (Ora.env m.lg.nx) _;rw[e1];exact .nil
 ·cases ho
end
end Go.Sx
namespace Go.Sx
set_option linter.all false
open Go
set_option linter.unusedVariables false
set_option linter.unusedSimpArgs false
variable [Ora]
section
variable {P:Program} {base:Nat} {ρ ρ':Ren} {m m':Mem} {w w':World}
def p8(ρ:Ren)(m m':Mem):Prop:=∀ j l,ρ j=some l→Hp.get m.H j=some .frz→Hp.get m'.H j=some .frz
theorem p8.refl:p8 ρ m m:=fun _ _ _ h=>h
theorem p8.trans{m1:Mem}(he:∀ b l,ρ b=some l→ρ' b=some l)(a:p8 ρ m m1)(c:p8 ρ' m1 m'):p8 ρ m m':=fun j l h1 h2=>c j l (he j l h1) (a j l h1 h2)
theorem p8.lg(lg:Lg):p8 ρ m (m.wLg lg):=fun j l _ h=>by rw[A48];exact h
theorem B33{ab:AB}{k:Nat→Value}{v:Value}(h:HR P base ρ m.H w)(hn:e9 m ab k=some (v,m'))(hf:J6 ρ m.n m'.hi):p8 ρ m m':=fun j l h1 h2=>by
 rw[A33 hn (h.dom j l h1),if_neg]
 ·exact h2
 ·intro e;subst e;obtain⟨_,_,rfl⟩:=L4 hn;rw[hf m.n (A5 _) (K3 _ _).2]at h1;cases h1
theorem B9t{ab:AB}{id:Nat}(h:HR P base ρ m.H w)(hs:A1Z m id ab=some m')(hne:Hp.get m.H id≠some .frz):p8 ρ m m':=fun j l h1 h2=>by
 rw[A8v hs (h.dom j l h1),if_neg]
 ·exact h2
 ·intro e;subst e;exact hne h2
theorem B3A{t:Nat}{v x:Value}{b:Nat}(h:HR P base ρ m.H w)(ho:toD t v m=some (x,b,m'))(hf:J6 ρ m.n m'.hi):p8 ρ m m':=by
 unfold toD at ho;split at ho
 ·obtain⟨h1,h2⟩:=A2 ho;cases h2;exact .refl
 ·obtain⟨h1,h2⟩:=A2 ho;cases h2;exact .refl
 ·split at ho
  ·obtain⟨h1,h2⟩:=A2 ho;obtain⟨m1,q1,q2,_⟩:=R4 h2;cases q2;exact B33 h q1 hf
  ·rename_i c tc T g hg;obtain⟨h1,h2⟩:=A2 ho;split at h2
   ·rename_i m1 hs;obtain⟨m2,q1,q2,_⟩:=R4 h2;cases q2;have hk:=B9t h hs (by rw[hg];intro h;cases h);intro j l e1 e2;have e3:=hk j l e1 e2;rw[A33 q1 (h.dom j l e1),if_neg]
    ·exact e3
    ·intro e;subst e;have hn1:m1.n=m.n:=by rw[(U9 hs).2]
     obtain⟨_,_,rfl⟩:=L4 q1;rw[hf m1.n (by omega) (K3 _ _).2]at e1;cases e1
   ·cases h2
  ·cases ho
 ·obtain⟨h10,ho⟩:=A2 ho;rw[O7]at ho;simp only at ho;obtain⟨m1,q1,q2,_⟩:=R4 ho;cases q2;intro j l e1 e2;rw[A33 q1 (h.dom j l e1),if_neg,A48]
  ·exact e2
  ·intro e;subst e;have hn1:(m.wLg (A1y m t (.nilw (t-10)) [])).n=m.n:=by simp
   obtain⟨_,_,rfl⟩:=L4 q1;rw[hf _ (by omega) (K3 _ _).2]at e1;cases e1
 ·cases ho
def Z4(R:Nat→Option Obj)(us:List U)(vs:List Value):Prop:=us.length=vs.length∧∀ (i:Nat) (u:U) (v:Value),us[i]? = some u→vs[i]? = some v→Enc R u v
omit [Ora] in
theorem Z4.nil{R:Nat→Option Obj}:Z4 R [] []:=⟨rfl,fun i u v h=>by simp at h⟩
omit [Ora] in
theorem Z4.cons{R:Nat→Option Obj}{u:U}{v:Value}{us:List U}{vs:List Value}(h:Enc R u v)(k:Z4 R us vs):Z4 R (u::us) (v::vs):=⟨by simp[k.1],fun i a b h1 h2=>by
 cases i with
 | zero=>simp at h1 h2;subst h1;subst h2;exact h
 | succ i=>exact k.2 i a b (by simpa using h1) (by simpa using h2)⟩
def Sub(G R:Nat→Option Obj):Prop:=∀ k o,G k=some o→R k=some o
theorem A2c{t:Nat}{v x:Value}{b:Nat}{m m':Mem}(ho:toD t v m=some (x,b,m')):m.hi≤m'.hi∧m.lg.le m'.lg∧m.n≤m'.n:=by
 have hfz:∀ {m m1:Mem},e9 m .frz (fun _=>undef)=some (undef,m1)→m.hi≤m1.hi∧m.lg.le m1.lg∧m.n≤m1.n:=fun hn=>by
  obtain⟨_,_,rfl⟩:=L4 hn;exact⟨(K3 _ _).1,.refl _,d7 _⟩
 unfold toD at ho;split at ho
 ·obtain⟨h1,h2⟩:=A2 ho;cases h2;exact⟨A5 _,.refl _,A5 _⟩
 ·obtain⟨h1,h2⟩:=A2 ho;cases h2;exact⟨A5 _,.refl _,A5 _⟩
 ·split at ho
  ·obtain⟨h1,h2⟩:=A2 ho;obtain⟨m1,q1,q2,_⟩:=R4 h2;cases q2;exact hfz q1
  ·obtain⟨h1,h2⟩:=A2 ho;split at h2
   ·rename_i m1 hs;obtain⟨m2,q1,q2,_⟩:=R4 h2;cases q2
    have:=hfz q1;obtain⟨_,rfl⟩:=U9 hs;exact this
   ·cases h2
  ·cases ho
 ·obtain⟨h10,ho⟩:=A2 ho;rw[O7]at ho;simp only at ho;obtain⟨m1,q1,q2,_⟩:=R4 ho;cases q2
  have:=hfz q1;exact⟨by simpa using this.1,W3.trans this.2.1,by simpa using this.2.2⟩
 ·cases ho
structure A92 (P:Program) (td:Td):Prop where
 ok:∀ {base:Nat} {ρ:Ren} {m m':Mem} {w:World} {t:Nat} {v v' x:Value} {b:Nat},HR P base ρ m.H w→td t v m=some (x,b,m')→J6 ρ m.n m'.hi→VR ρ v v'→Sat m'.lg →
  ∃ ρ' l,St P base ρ ρ' m m' w w∧ρ' b=some l∧Hp.get m'.H b=some .frz∧Enc l.G (D2 Ora.env x) v'∧F1 (D2 Ora.env x)=t∧m.lg.le m'.lg∧p8 ρ m m'
 mono:∀ {m m':Mem} {t:Nat} {v x:Value} {b:Nat},td t v m=some (x,b,m')→m.hi≤m'.hi∧m.lg.le m'.lg∧m.n≤m'.n
theorem B8Y:A92 P toD:=⟨fun h ho hf hv hS=>let ⟨ρ',l,a1,a2,a3,a4,a5,a6⟩:=B1s h ho hf hv hS;⟨ρ',l,a1,a2,a3,a4,a5,a6,B3A h ho hf⟩,fun h=>A2c h⟩
theorem S8{td:Td}(htd:A92 P td):∀ {ts:List Nat} {vs xs:List Value} {gs:List Nat} {m m':Mem},B0B td ts vs m=some (xs,gs,m')→m.hi≤m'.hi∧m.lg.le m'.lg∧m.n≤m'.n
 | [],[],_,_,_,_,h=>by cases h;exact⟨A5 _,.refl _,A5 _⟩
 | t::ts,v::vs,xs,gs,m,m',ho=>by
   unfold B0B at ho;cases ht:Nat.blt t 10 with
   | true =>
     rw[ht]at ho;simp only[cond_true]at ho;obtain⟨h1,ho⟩:=A2 ho;split at ho
     ·rename_i hr;cases ho;exact S8 htd hr
     ·cases ho
   | false =>
     rw[ht]at ho;simp only[cond_false]at ho;split at ho
     ·rename_i hd;split at ho
      ·rename_i hr;cases ho;have a:=htd.mono hd;have b:=S8 htd hr;exact⟨B0 a.1 b.1,a.2.1.trans b.2.1,B0 a.2.2 b.2.2⟩
      ·cases ho
     ·cases ho
 | [],_::_,_,_,_,_,ho=>by cases ho
 | _::_,[],_,_,_,_,ho=>by cases ho
theorem A21{td:Td}(htd:A92 P td):∀ {ts:List Nat} {vs vs' xs:List Value} {gs:List Nat} {m m':Mem} {ρ:Ren},HR P base ρ m.H w→B0B td ts vs m=some (xs,gs,m')→J6 ρ m.n m'.hi→LR ρ vs vs'→Sat m'.lg →
  ∃ ρ',St P base ρ ρ' m m' w w∧m.lg.le m'.lg∧p8 ρ m m'∧(∀ b ∈ gs,Hp.get m'.H b=some .frz∧∃ l,ρ' b=some l)∧(xs.map (D2 Ora.env)).map F1=ts ∧
   ∀ R,(∀ b ∈ gs,∀ l,ρ' b=some l→Sub l.G R)→Z4 R (xs.map (D2 Ora.env)) vs'
 | [],[],vs',xs,gs,m,m',ρ,h,ho,hf,hv,hS=>by
   cases ho;exact⟨ρ,St.refl h,.refl _,.refl,fun b hb=>(by cases hb),rfl,fun R _=>by rw[hv.nil_inv];exact .nil⟩
 | t::ts,v::vs,vs',xs,gs,m,m',ρ,h,ho,hf,hv,hS=>by
   obtain⟨v',r',rfl,hv1,hv2⟩:=hv.tail;unfold B0B at ho;cases ht:Nat.blt t 10 with
   | true =>
     rw[ht]at ho;simp only[cond_true]at ho;obtain⟨h1,ho⟩:=A2 ho;have h1:=A0 h1;have h10:t<10:=A1 ht;split at ho
     ·rename_i r gs2 m2 hr;cases ho;obtain⟨ρ2,e1,e2,e3,e4,e5,e6⟩:=A21 htd h hr hf hv2 hS;obtain⟨f1,f2⟩:=x3 hv1 (by omega);exact⟨ρ2,e1,e2,e3,e4,by simp[f2,h1,e5],fun R hR=>.cons (.sc f1) (e6 R hR)⟩
     ·cases ho
   | false =>
     rw[ht]at ho;simp only[cond_false]at ho;split at ho
     ·rename_i hh b m1 hd;split at ho
      ·rename_i r gs2 m2 hr;cases ho;have hmono:m1.hi≤m'.hi∧m1.lg.le m'.lg∧m1.n≤m'.n:=S8 htd hr;have hf1:J6 ρ m.n m1.hi:=hf.less hmono.1;obtain⟨ρ1,l,a1,a2,a3,a4,a5,a6,a7⟩:=htd.ok h hd hf1 hv1 (hS.le hmono.2.1);have hf2:J6 ρ1 m1.n m'.hi:=hf.step a1;obtain⟨ρ2,e1,e2,e3,e4,e5,e6⟩:=A21 htd a1.hr hr hf2 (hv2.mono a1.ext) hS;refine⟨ρ2,St.trans hf a1 e1,a6.trans e2,a7.trans a1.ext e3,fun b' hb'=>?_,by simp[a5,e5],fun R hR=>.cons (a4.mono (hR b (.head _) l (e1.ext _ _ a2))) (e6 R fun b' hb'=>hR b' (.tail _ hb'))⟩;rcases B7.1 hb' with rfl|hb'
       ·exact⟨e3 _ l a2 a3,l,e1.ext _ _ a2⟩
       ·exact e4 b' hb'
      ·cases ho
     ·cases ho
 | [],_::_,_,_,_,_,_,_,_,ho,_,_,_=>by cases ho
 | _::_,[],_,_,_,_,_,_,_,ho,_,_,_=>by cases ho
theorem A1m{gs:List Nat}{g:Nat}(h:HR P base ρ m.H w)(ho:A3Y gs m=some (g,m'))(hf:J6 ρ m.n m'.hi) :
  ∃ ρ' lg,St P base ρ ρ' m m' w w∧m'.lg=m.lg∧p8 ρ m m'∧ρ' g=some lg∧Hp.get m'.H g=some .frz∧∀ b ∈ gs,∀ l,ρ b=some l→Sub l.G lg.G:=by
 have main:∀ {gs:List Nat},(bif gs.all (A5S m)then match A2O m fun b m=>some (undef,b,m)with
  | some (_,b,m)=>some (b,m)
  | none=>none else none)=some (g,m')→∃ ρ' lg,St P base ρ ρ' m m' w w∧m'.lg=m.lg∧p8 ρ m m'∧ρ' g=some lg∧Hp.get m'.H g=some .frz∧∀ b ∈ gs,∀ l,ρ b=some l→Sub l.G lg.G:=fun{gs} ho=>by
  obtain⟨h1,ho⟩:=A2 ho;split at ho
  ·rename_i r b m1 hn;cases ho;obtain⟨m2,q1,q2,_,_,q5⟩:=R4 hn;cases q2;have hall:∀ b ∈ gs,Hp.get m.H b=some .frz:=fun b hb=>A1D (D0.1 h1 b hb)
   classical
   let G:Nat→Option Obj:=fun k=>if ∃ b ∈ gs,∃ l o,ρ b=some l∧l.G k=some o then w.heap[k]? else none
   obtain⟨g1,g2,g3⟩:=St.region (G:=G) h q1 hf fun k o hk=>by
    have hk:(if ∃ b ∈ gs,∃ l o,ρ b=some l∧l.G k=some o then w.heap[k]? else none)=some o:=hk;split at hk
    ·rename_i hex;obtain⟨b,hb,l,o2,e1,e2⟩:=hex;exact⟨hk,b,_,l,h.dom _ _ e1,hall b hb,e1,⟨rfl,.inr ⟨rfl,o2,e2⟩⟩,rfl⟩
    ·cases hk
   refine⟨_,A3i G,g3,q5,B33 h q1 hf,g1,g2,fun b hb l hl k o hk=>?_⟩;show(if ∃ b ∈ gs,∃ l o,ρ b=some l∧l.G k=some o then w.heap[k]? else none)=_;rw[if_pos ⟨b,hb,l,o,hl,hk⟩];exact(h.atl hl (hall b hb)).1.2 k o hk
  ·cases ho
 unfold A3Y at ho;split at ho
 ·rename_i g0;obtain⟨h1,ho⟩:=A2 ho;cases ho;obtain⟨l,hl⟩:=C0E h h1;refine⟨ρ,l,St.refl h,rfl,.refl,hl,A1D h1,fun b hb l2 hl2=>?_⟩;rcases B7.1 hb with rfl|hb
  ·rw[hl]at hl2
   have:=A4 hl2;subst this;exact fun _ _ h=>h
  ·cases hb
 ·exact main ho
omit [Ora] in
theorem A4z{R:Nat→Option Obj}{u:U}{v r:Value}(h:Enc R u v)(hr:toV u=some r):v=r:=by
 cases h with
 | sc h=>rw[h]at hr;exact A4 hr
 | nil=>cases hr
 | emp=>cases hr
 | sl=>cases hr
omit [Ora] in
theorem A4N{R:Nat→Option Obj}{u:U}{v:Value}(h:Enc R u v):y6 v=true:=by
 cases h with
 | sc h=>have:=A2b h;cases v<;>first|rfl|cases this
 | nil=>rfl
 | emp=>rfl
 | sl=>rfl
theorem C3G{wd o k:Nat}{rows:List (List U)}{kk:IntKind}:evU (.get wd o) [.seq false wd rows,.int kk (.ofNat k)]=(rows.getD k []).getD o .none:=by
 simp[evU]
theorem getD_some{row:List U}{o:Nat}(h:row.getD o .none≠.none):row[o]? = some (row.getD o .none):=by
 rw[B5]at *;cases e:row[o]? with
 | none=>rw[e]at h;exact absurd rfl h
 | some u=>rfl
theorem A2B{wd o i t g k:Nat}{z:Value}{lg:Loc}{rows:List (List U)}{cell:Nat→Option Value}(hi:Ora.env i=.seq false wd rows)(hz:A5c Ora.env z=some (.ofNat k))(hg:ρ g=some lg)
  (hc:∀ q u,(rows.getD k [])[q]? = some u→∃ v,cell q=some v∧Enc lg.G u v) :
  ∀ {ts:List Nat} {j:Nat} {m m':Mem} {r:List Value},Y3 wd o i t z g ts j m=some (r,m')→Sat m'.lg→∃ r',LR ρ r r'∧r'.length=ts.length∧(∀ q v',r'[q]? = some v'→cell (o+j+q)=some v')∧J4 m m'∧m.lg.le m'.lg
 | [],j,m,m',r,h,hS=>by
   cases h;exact⟨[],.nil,rfl,fun q v' h=>by simp at h,.refl _,.refl _⟩
 | tg::ts,j,m,m',r,h,hS=>by
   unfold Y3 at h;obtain⟨kk,hz2⟩:=B2w hz;have harg:[hole i t,z].map (D2 Ora.env)=[.seq false wd rows,.int kk (.ofNat k)]:=by
    simp only[D7,I0,hz2];show[Ora.env i,_]=_;rw[hi]
   have hcell:∀ {u:U},u≠.none→evU (.get wd (o+j)) ([hole i t,z].map (D2 Ora.env))=u→∃ v,cell (o+j)=some v∧Enc lg.G u v:=fun{u} hu he=>by
    rw[harg,C3G]at he;subst he;exact hc _ _ (getD_some hu)
   cases ht:Nat.blt tg 10 with
   | true =>
     rw[ht]at h;simp only[cond_true]at h;have h10:tg<10:=A1 ht;split at h
     ·rename_i hh m1 hl;split at h
      ·rename_i r2 m2 hr;cases h;obtain⟨r',e1,e2,e3,e4,e5⟩:=A2B hi hz hg hc hr hS;obtain⟨u,f1,f2,v,f3,f4,f5⟩:=L5 hl (hS.le e5);obtain⟨v2,g1,g2⟩:=hcell (u:=u) (by intro e;subst e;cases f3) f1
       have:=A4z g2 f3;subst this;refine⟨v2::r',.cons (f4 ρ) e1,by simp[e2],fun q v' hq=>?_,(H6 hl).trans e4,(I4 hl).trans e5⟩;cases q with
       | zero=>simp at hq;subst hq;exact g1
       | succ q=>rw[show o+j+(q+1)=o+(j+1)+q by omega];exact e3 q v' (by simpa using hq)
      ·cases h
     ·cases h
   | false =>
     rw[ht]at h;simp only[cond_false]at h;rw[B3z]at h;split at h
     ·rename_i r2 m2 hr;cases h;obtain⟨r',e1,e2,e3,e4,e5⟩:=A2B hi hz hg hc hr hS;obtain⟨f1,f2,nul,wd2,rows2,f3,f4⟩:=A3c hS e5;obtain⟨v2,g1,g2⟩:=hcell (u:=Ora.env m.lg.nx) (by rw[f3];intro h;cases h) f1.symm;refine⟨v2::r',.cons (.dat hg g2 f2 (by omega) (A4N g2)) e1,by simp[e2],fun q v' hq=>?_,J4.trans ⟨_,rfl⟩ e4,W3.trans e5⟩;cases q with
      | zero=>simp at hq;subst hq;exact g1
      | succ q=>rw[show o+j+(q+1)=o+(j+1)+q by omega];exact e3 q v' (by simpa using hq)
     ·cases h
theorem A22{t:TypeId}{ts:List Nat}(h:A3p P t=some ts):F7 P t=some ts.length:=by
 unfold A3p at h;split at h
 ·rename_i l n h1 h2;obtain⟨h3,h⟩:=A2 h;cases h;rw[h2,A0 h3]
 ·cases h
theorem B1j{t:TypeId}{ts:List Nat}{r r':List Value}{v:Value}{b o:Nat}(hts:A3p P t=some ts)(ha:A4Z P t (some (r,m))=some (v,m'))(hl:LR ρ r r')(hn:r'.length=ts.length)
  (hc:∀ q v',r'[q]? = some v'→w.cell? ⟨b,o+q,none⟩=some v'):m'=m∧∃ v',(Instr.loadAt t (.pointer (some ⟨b,o,none⟩))).run P w=.ok v' w∧VR ρ v v':=by
 unfold A4Z at ha;split at ha
 ·rename_i hag heq;cases ha;cases heq;obtain⟨v',r2,rfl,e1,e2⟩:=hl.tail;refine⟨rfl,v',?_,e1⟩
  have:=hc 0 v' rfl;simp[Instr.loadAt,Instr.sureAddr,loadVar,Sem.run_bind,A0c hag,Result.andThen,run_load,show w.cell? ⟨b,o,none⟩=some v' from by simpa using this]
 ·rename_i hag heq;cases ha;cases heq;refine⟨rfl,.agg ⟨r'⟩,?_,.agg hl.1 hl.2⟩;have hsz:F7 P t=some r'.length:=by rw[hn];exact A22 hts
  simp[Instr.loadAt,Instr.sureAddr,loadVar,Sem.run_bind,A0c hag,K1 hsz,Result.andThen,J5 rfl hc]
 ·cases ha
theorem B9i{t:TypeId}{x x' v:Value}(h:HR P base ρ m.H w)(ho:B3x P m t x=some (v,m'))(hx:VR ρ x x')(hS:Sat m'.lg):(∃ r,(Instr.loadAt t x').run P w=.ok r w∧VR ρ v r)∧J4 m m'∧m.lg.le m'.lg:=by
 have hmm:∀ {r:Option (List Value×Mem)},A4Z P t r=some (v,m')→∃ vs,r=some (vs,m'):=fun{r} ha=>by
  unfold A4Z at ha;split at ha
  ·cases ha;exact⟨_,rfl⟩
  ·cases ha;exact⟨_,rfl⟩
  ·cases ha
 unfold B3x at ho;split at ho
 ·rename_i b i tg z o ts hts;obtain⟨h1,ho⟩:=A2 ho;obtain⟨⟨l,wd,rows,a,s,c,k,e1,e2,e3,e4,e5,e6,rfl⟩,e8⟩:=B2P hx;obtain⟨vs,hr⟩:=hmm ho;rw[hr]at ho;have htg:tg-10=wd:=by rw[← e8,e2];simp[F1]
  rw[htg]at hr;have hbg:=(h.atl e1 (A1D h1)).1.2;rw[e2]at e3;obtain⟨C,T,fz,f1,f2,f3,f4⟩:∃ C T fz,l.G a=some (.cells C T fz)∧s+rows.length*wd≤C.size∧(∀ row ∈ rows,row.length=wd)∧∀ (r:Nat) (row:List U) (j:Nat) (u:U) (v:Value),rows[r]? = some row→row[j]? = some u→C[s+r*wd+j]? = some v→Enc l.G u v:=by
   have hne:rows≠[]:=by intro e;subst e;simp at e5
   cases e3 with
   | sc h=>cases h
   | emp=>exact absurd rfl hne
   | sl hc hg hz hw hh=>exact⟨_,_,_,hg hne,hz hne,hw,hh⟩
  have hheap:=hbg _ _ f1;have hrow:rows[k]? = some rows[k]:=A3 e5;obtain⟨r',g1,g2,g3,g4,g5⟩:=A2B (cell:=fun q=>w.cell? ⟨a,s+k*wd+q,none⟩) e2 e4 e1 (fun q u hq=>by
   rw[B5,hrow]at hq;have hq:rows[k][q]? = some u:=hq;have hql:=(A9.1 hq).1;rw[f3 _ (D3 hrow)]at hql;have hk:(k+1)*wd≤rows.length*wd:=E6 wd e5;rw[G3]at hk;have hlt:s+k*wd+q<C.size:=by omega
   refine⟨C[s+k*wd+q],?_,f4 k _ q u _ hrow hq (F3 hlt)⟩;simp[World.cell?,hheap,F3 hlt]) hr hS
  obtain⟨_,q1⟩:=B1j (w:=w) (b:=a) (o:=s+k*wd+o) hts ho g1 g2 (fun q v' hq=>by
   have:=g3 q v' hq;rw[show s+k*wd+o+q=s+k*wd+(o+0+q) by omega];exact this)
  exact⟨q1,g4,g5⟩
 ·rename_i b i tg z o ts hts;split at ho
  ·rename_i c tc T g ro hg;obtain⟨h1,ho⟩:=A2 ho;have h1:=A0 h1;subst h1;obtain⟨⟨l,wd,A5C,k,e1,e2,e3,e4,e5,e6,rfl⟩,e8⟩:=A8L hx;obtain⟨vs,hr⟩:=hmm ho;rw[hr]at ho;obtain⟨wd2,inf,d1,d2,d3,d4⟩:=SqR.ex (h.atl e1 hg).1;rcases d4 with⟨d4,_⟩|⟨_,d4⟩
   ·rw[e2]at d4;cases d4
   obtain⟨C,fz,T',rows,lg,f1,f2,f3,f4,f5,f6,f7,f8,f9⟩:=d4;have htg:tc-10=wd2:=by omega
   rw[htg]at hr;have hkl:k<rows.length:=by omega
   have hrow:rows[k]? = some rows[k]:=A3 hkl;have hwd:wd=wd2:=by
    have:F1 (Ora.env i)=10+wd:=by rw[e3];rfl
    omega
   subst hwd;obtain⟨r',g1,g2,g3,g4,g5⟩:=A2B (cell:=fun q=>w.cell? ⟨l.blk,l.sh+k*wd+q,none⟩) f2 e4 f7 (fun q u hq=>by
    rw[B5,hrow]at hq;have hq:rows[k][q]? = some u:=hq;have hql:=(A9.1 hq).1;rw[f6 _ (D3 hrow)]at hql;have hk:(k+1)*wd≤l.cap*wd:=E6 wd (by omega);rw[G3]at hk;have hlt:l.sh+k*wd+q<C.size:=by omega
    refine⟨C[l.sh+k*wd+q],?_,f8 k _ q u _ hrow hq (F3 hlt)⟩;simp[World.cell?,f1,F3 hlt]) hr hS
   obtain⟨_,q1⟩:=B1j (w:=w) (b:=l.blk) (o:=l.sh+k*wd+o) hts ho g1 g2 (fun q v' hq=>by
    have:=g3 q v' hq;rw[show l.sh+k*wd+o+q=l.sh+k*wd+(o+0+q) by omega];exact this)
   exact⟨q1,g4,g5⟩
  ·cases ho
 ·cases ho
end
end Go.Sx
namespace Go.Sx
set_option linter.all false
open Go
set_option linter.unusedVariables false
set_option linter.unusedSimpArgs false
variable [Ora]
section
variable {P:Program} {base:Nat} {ρ ρ':Ren} {m m':Mem} {w w':World}
def at0(a:Nat):Ren:=fun _=>some (lc a 0 0)
theorem B8D{a s n c:Nat}(h:n≤c):VR (at0 a) (.slice (some ⟨0,s,none⟩) n (M0+1)) (.slice (some ⟨a,s,none⟩) n c) :=
 VR.op (ρ:=at0 a) (b:=0) (o:=s) (n:=n) (m:=M0+1) (m':=c) (l:=lc a 0 0) rfl (by unfold M0;omega) h (fun h=>by unfold M0 at h;omega)
theorem B7H{a s:Nat}:VR (at0 a) (.pointer (some ⟨0,s,none⟩)) (.pointer (some ⟨a,s,none⟩)):=VR.ptr (ρ:=at0 a) (b:=0) (o:=s) (l:=lc a 0 0) rfl
theorem A7S{t e:TypeId}{a s n c z sz:Nat}{k:IntKind}(hu:P.underlying t=some (.slice e))(hs:F7 P e=some sz)(hz:z<n)(hc:n≤c)(w:World) :
  (Instr.indexAt t (.slice (some ⟨a,s,none⟩) n c) (.int k (.ofNat z))).run P w=.ok (.pointer (some ⟨a,s+z*sz,none⟩)) w:=by
 have hb:Nat.blt z n=true:=C3 hz;have hm:Y2 P t (.slice (some ⟨0,s,none⟩) n (M0+1)) (.int k (.ofNat z))=some (.pointer (some ⟨0,s+z*sz,none⟩)):=by
  simp only[Y2,hu,hs,hb,cond_true,A0R,E1]
 obtain⟨v',g1,g2⟩:=A0p (P:=P) hm (B8D (a:=a) hc) (.pure rfl) w;obtain⟨l2,hl2,_,rfl⟩:=Q0 g2;cases hl2;exact g1
theorem A50{t e:TypeId}{a s n z sz:Nat}{k:IntKind}(hu:P.underlying t=some (.array n e))(hs:F7 P e=some sz)(hz:z<n)(w:World) :
  (Instr.indexAt t (.pointer (some ⟨a,s,none⟩)) (.int k (.ofNat z))).run P w=.ok (.pointer (some ⟨a,s+z*sz,none⟩)) w:=by
 have hb:Nat.blt z n=true:=C3 hz;have hm:Y2 P t (.pointer (some ⟨0,s,none⟩)) (.int k (.ofNat z))=some (.pointer (some ⟨0,s+z*sz,none⟩)):=by
  simp only[Y2,hu,hs,hb,cond_true,A0R,E1]
 obtain⟨v',g1,g2⟩:=A0p (P:=P) hm (B7H (a:=a)) (.pure rfl) w;obtain⟨l2,hl2,_,rfl⟩:=Q0 g2;cases hl2;exact g1
theorem A7U{s:TypeId}{a o i z:Nat}{fs:Array Field}{f:Field}(hu:P.underlying s=some (.struct fs))(hf:fs.toList[i]? = some f)(hz:F7 P f.type=some (z+1))(w:World) :
  (Instr.fieldAt s (.pointer (some ⟨a,o,none⟩)) i).run P w=.ok (.pointer (some ⟨a,o+f.offset,none⟩)) w:=by
 have hm:A0q P s (.pointer (some ⟨0,o,none⟩)) i=some (.pointer (some ⟨0,o+f.offset,none⟩)):=by
  simp only[A0q,hu,hf,hz,A0R,E1]
 obtain⟨v',g1,g2⟩:=A4H (P:=P) hm (B7H (a:=a)) w;obtain⟨l2,hl2,_,rfl⟩:=Q0 g2;cases hl2;exact g1
theorem B2R{i t wd:Nat}{nul:Bool}{rows:List (List U)}{z z' k v:Value}(h:B3_ m i t z k=some (v,m'))(hi:Ora.env i=.seq nul wd rows)(ht:t=10+wd)(hz:VR ρ z z')(hS:Sat m'.lg) :
  v=k∧(∃ kk n,z'=.int kk (.ofNat n)∧n<rows.length∧A5c Ora.env z=some (.ofNat n))∧J4 m m'∧m.lg.le m'.lg:=by
 unfold B3_ at h;cases hq:!(Nat.blt (F4 z) 8)with
 | true=>rw[hq]at h;cases h
 | false =>
   have h8:F4 z<8:=by
    have:Nat.blt (F4 z) 8=true:=by simpa using hq
    exact A1 this
   rw[hq]at h;simp only[cond_false]at h;split at h
   ·rename_i b H n W hh lg hl;split at h
    ·rename_i lg2 hb;cases h;have hle1:=I4 hl;have hle2:=A4Y hb;obtain⟨u,e1,e2,r,e3,e4,_⟩:=L5 hl (R9.le hS hle2);have hb2:=A5b hb (e4 ρ) hS;subst hb2;obtain⟨kk,y,rfl,f2,_⟩:=O6 hz h8;have harg:[z,hole i t].map (D2 Ora.env)=[.int kk y,.seq nul wd rows]:=by
      simp only[D7,I0,f2];show[_,Ora.env i]=_;rw[hi]
     rw[harg]at e1;have e1:(if wd=t-10 then U.bool (decide (0≤y) && decide (y<rows.length))else U.none)=u:=e1;rw[if_pos (by omega)]at e1;subst e1;have e3:some (Value.bool (decide (0≤y) && decide (y<rows.length)))=some (.bool true):=e3;have e5:(decide (0≤y) && decide (y<rows.length))=true:=by simpa using e3
     simp only[G7,decide_eq_true_eq]at e5;obtain⟨n0,rfl⟩:∃ n0:Nat,y=.ofNat n0:=⟨y.toNat,by have:=A0_ e5.1;exact this.symm⟩;refine⟨rfl,⟨kk,n0,rfl,?_,B7I f2⟩,J4.trans (H6 hl) ⟨lg2,rfl⟩,hle1.trans hle2⟩
     have:=e5.2;have:(n0:Int)<rows.length:=this;omega
    ·cases h
   ·cases h
theorem C7y{G:Nat→Option Obj}{nul:Bool}{wd:Nat}{rows:List (List U)}{v:Value}(h:Enc G (.seq nul wd rows) v)(hr:rows≠[]):nul=false∧∃ a o c,v=.slice (some ⟨a,o,none⟩) rows.length c∧rows.length≤c:=by
 cases h with
 | sc h=>cases h
 | nil=>exact absurd rfl hr
 | emp=>exact absurd rfl hr
 | sl hc _ _ _ _=>exact⟨rfl,_,_,_,rfl,hc⟩
theorem B4_{u:U}{t:Nat}(h:F1 u=t)(h10:10≤t):u=.none∨∃ nul wd rows,u=.seq nul wd rows∧t=10+wd:=by
 cases u with
 | none=>exact .inl rfl
 | int k n=>have:=K8 k;simp[F1]at h;omega
 | bool b=>simp[F1]at h;omega
 | str s=>simp[F1]at h;omega
 | seq nul wd rows=>exact .inr ⟨nul,wd,rows,rfl,h.symm⟩
theorem A2F{G:Nat→Option Obj}{u:U}{v:Value}{t:Nat}(h:Enc G u v)(ht:F1 u=t)(h10:10≤t):∃ nul wd rows,u=.seq nul wd rows∧t=10+wd:=by
 rcases B4_ ht h10 with rfl|h1
 ·cases h with
  | sc h=>cases h
 ·exact h1
theorem B1P{t e:TypeId}{b i tg s:Nat}{l:Loc}{z z' v v':Value}(hu:P.underlying t=some (.slice e))(hs:F7 P e=some (s+1))(htg:tg=10+(s+1))(h1:ρ b=some l)(h2:Enc l.G (Ora.env i) v')(h3:F1 (Ora.env i)=tg)
  (h:B3_ m i tg z (dpt b i tg z 0)=some (v,m')) (hz:VR ρ z z') (hS:Sat m'.lg):(∃ r,(Instr.indexAt t v' z').run P w=.ok r w∧VR ρ v r)∧J4 m m'∧m.lg.le m'.lg:=by
 obtain⟨nul,wd,rows,e1,e2⟩:=A2F h2 h3 (by omega);obtain⟨rfl,⟨kk,n,rfl,hn,hzz⟩,g1,g2⟩:=B2R h e1 e2 hz hS;have hwd:wd=s+1:=by omega
 subst hwd;have hne:rows≠[]:=by intro e;subst e;simp at hn
 rw[e1]at h2;obtain⟨rfl,a,o,c,rfl,hc⟩:=C7y h2 hne;refine⟨⟨_,A7S hu hs hn hc w,.dpt ⟨l,s+1,rows,a,o,c,n,h1,e1,by rw[e1];exact h2,hzz,hn,by omega,by simp⟩ h3 rfl⟩,g1,g2⟩
theorem B38{t:TypeId}{x x' z z' v:Value}(h:A4E P m t x z=some (v,m'))(hx:VR ρ x x')(hz:VR ρ z z')(hS:Sat m'.lg):(∃ r,(Instr.indexAt t x' z').run P w=.ok r w∧VR ρ v r)∧J4 m m'∧m.lg.le m'.lg:=by
 unfold A4E at h;split at h
 ·rename_i e b i tg hu;split at h
  ·rename_i s hs;obtain⟨ht,h⟩:=A2 h;have ht:=A0 ht;obtain⟨hown,htag⟩:=A19 hx;rcases hown with⟨l,wd,h1,h2,h3,rfl⟩|⟨l,wd,rows,h1,h2,h3,h4,h40,rfl⟩
   ·obtain⟨_,⟨kk,n,_,hn,_⟩,_⟩:=B2R h h3 (by rw[h3]at htag;exact htag.symm) hz hS;simp at hn
   ·have e2:tg=10+wd:=by rw[h3]at htag;exact htag.symm
    obtain⟨rfl,⟨kk,n,rfl,hn,hzz⟩,g1,g2⟩:=B2R h h3 e2 hz hS;have hwd:wd=s+1:=by omega
    subst hwd;exact⟨⟨_,A7S hu hs (by omega) h40 w,.opt ⟨l,s+1,rows,n,h1,h2,h3,hzz,by omega,by omega,by simp⟩ htag rfl⟩,g1,g2⟩
  ·cases h
 ·rename_i e b i tg hu;split at h
  ·rename_i s hs;obtain⟨ht,h⟩:=A2 h;have ht:=A0 ht;obtain⟨l,h1,h2,h3,_⟩:=A4x hx;exact B1P hu hs ht h1 h2 h3 h hz hS
  ·cases h
 ·rename_i e b i tg hu;split at h
  ·rename_i s hs;obtain⟨ht,h⟩:=A2 h;have ht:=A0 ht;obtain⟨l,h1,h2,h3,_⟩:=A1_ hx;exact B1P hu hs ht h1 h2 h3 h hz hS
  ·cases h
 ·rename_i n e b i tg y o hu;split at h
  ·rename_i s kk k hs;obtain⟨hk,h⟩:=A2 h;obtain⟨hk,hw⟩:=B2 hk;have hk:=A1 hk;have hw:o+k*s<tg-10:=A1 hw;rw[E1]at h;cases h;cases I6 hz;obtain⟨⟨l,wd,rows,a,s0,c,q,e1,e2,e3,e4,e5,e6,rfl⟩,e8⟩:=B2P hx;have hwd:tg-10=wd:=by rw[← e8,e2];simp[F1]
   refine⟨⟨_,A50 hu hs hk w,.dpt ⟨l,wd,rows,a,s0,c,q,e1,e2,e3,e4,e5,by omega,by simp⟩ e8 rfl⟩,.refl _,.refl _⟩
  ·cases h
 ·rename_i n e b i tg y o hu;split at h
  ·rename_i s kk k hs;obtain⟨hk,h⟩:=A2 h;obtain⟨hk,hw⟩:=B2 hk;have hk:=A1 hk;have hw:o+k*s<tg-10:=A1 hw;rw[E1]at h;cases h;cases I6 hz;obtain⟨⟨l,wd,rows,q,e1,e2,e3,e4,e5,e6,rfl⟩,e8⟩:=A8L hx;have hwd:tg-10=wd:=by rw[← e8,e3];simp[F1]
   refine⟨⟨_,A50 hu hs hk w,.opt ⟨l,wd,rows,q,e1,e2,e3,e4,e5,by omega,by simp⟩ e8 rfl⟩,.refl _,.refl _⟩
  ·cases h
 ·cases h
theorem B4L{s:TypeId}{x x' v:Value}{f:Nat}(h:A4I P m s x f=some (v,m'))(hx:VR ρ x x'):(∃ r,(Instr.fieldAt s x' f).run P w=.ok r w∧VR ρ v r)∧m'=m:=by
 unfold A4I at h;split at h
 ·rename_i fs b i tg y o hu;split at h
  ·rename_i fd hf;split at h
   ·rename_i z hz;obtain⟨hw,h⟩:=A2 h;have hw:o+fd.offset<tg-10:=A1 hw;rw[E1]at h;cases h;obtain⟨⟨l,wd,rows,a,s0,c,q,e1,e2,e3,e4,e5,e6,rfl⟩,e8⟩:=B2P hx;have hwd:tg-10=wd:=by rw[← e8,e2];simp[F1]
    exact⟨⟨_,A7U hu hf hz w,.dpt ⟨l,wd,rows,a,s0,c,q,e1,e2,e3,e4,e5,by omega,by simp⟩ e8 rfl⟩,rfl⟩
   ·cases h
  ·cases h
 ·rename_i fs b i tg y o hu;split at h
  ·rename_i fd hf;split at h
   ·rename_i z hz;obtain⟨hw,h⟩:=A2 h;have hw:o+fd.offset<tg-10:=A1 hw;rw[E1]at h;cases h;obtain⟨⟨l,wd,rows,q,e1,e2,e3,e4,e5,e6,rfl⟩,e8⟩:=A8L hx;have hwd:tg-10=wd:=by rw[← e8,e3];simp[F1]
    exact⟨⟨_,A7U hu hf hz w,.opt ⟨l,wd,rows,q,e1,e2,e3,e4,e5,by omega,by simp⟩ e8 rfl⟩,rfl⟩
   ·cases h
  ·cases h
 ·cases h
end
end Go.Sx
namespace Go.Sx
set_option linter.all false
open Go
set_option linter.unusedVariables false
set_option linter.unusedSimpArgs false
variable [Ora]
section
variable {P:Program} {base:Nat} {ρ ρ':Ren} {m m':Mem} {w w':World}
theorem v6{G:Nat→Option Obj}{nul:Bool}{wd:Nat}{rows:List (List U)}{v:Value}(h:Enc G (.seq nul wd rows) v):(nul=true∧rows=[]∧v=.slice none 0 0)∨(nul=false∧∃ (a:Addr) (c:Nat),v=.slice (some a) rows.length c∧rows.length≤c):=by
 cases h with
 | sc h=>cases h
 | nil=>exact .inl ⟨rfl,rfl,rfl⟩
 | emp=>exact .inr ⟨rfl,_,_,rfl,A5 _⟩
 | sl hc _ _ _ _=>exact .inr ⟨rfl,_,_,rfl,hc⟩
theorem A3t{t e ty:TypeId}{a:Option Addr}{n c:Nat}{tys:List TypeId}(hu:P.underlying t=some (.slice e))(w:World):(Builtin.len_ ⟨t::tys⟩ ty #[.slice a n c]).run P w=.ok (.int .i64 n) w:=by
 simp[Builtin.len_,Sem.run_bind,C4 hu,Result.andThen,goInt]
theorem C2s{i t:Nat}{v:Value}{nul:Bool}{wd:Nat}{rows:List (List U)}(h:W6 m 3 .len [hole i t]=some (v,m'))(hi:Ora.env i=.seq nul wd rows)(hS:Sat m'.lg):VR ρ v (.int .i64 rows.length)∧J4 m m'∧m.lg.le m'.lg∧D2 Ora.env v=.int .i64 rows.length:=by
 obtain⟨u,e1,e2,r,e3,e4,e5⟩:=L5 h hS;have harg:[hole i t].map (D2 Ora.env)=[.seq nul wd rows]:=by
  show[Ora.env i]=_;rw[hi]
 rw[harg]at e1;have e1:U.int .i64 rows.length=u:=e1;subst e1;cases e3;refine⟨e4 ρ,H6 h,I4 h,?_⟩;obtain⟨rfl,rfl⟩:=A4v h;obtain⟨h1,h2,h3⟩:=hS (.lt m.lg.nx 3 .len [hole i t]) (by cases m;exact B4);show Ora.env m.lg.nx=_;rw[h1,harg];rfl
theorem A4G{i j:Nat}:∀ {l:List c9},A6R i l=some j→∃ tg,c9.lt j 3 .len [hole i tg] ∈ l
 | [],h=>by cases h
 | e::r,h=>by
   unfold A6R at h;split at h
   ·cases h
   ·rename_i j' t k tg r' he;cases he;cases hq:Nat.beq k i && Nat.beq t 3 with
    | true =>
      rw[hq]at h;cases h;obtain⟨h1,h2⟩:=B2 hq;have h1:=A0 h1;have h2:=A0 h2;subst h1;subst h2;exact⟨tg,.head _⟩
    | false =>
      rw[hq]at h;obtain⟨tg',h3⟩:=A4G h;exact⟨tg',.tail _ h3⟩
   ·rename_i he;cases he;obtain⟨tg',h3⟩:=A4G h;exact⟨tg',.tail _ h3⟩
theorem A0T{i t:Nat}{v:Value}(h:B2I m i t=some (v,m')):J4 m m'∧m.lg.le m'.lg:=by
 unfold B2I at h;split at h
 ·cases h;exact⟨J4.refl _,.refl _⟩
 ·exact⟨H6 h,I4 h⟩
theorem A4A{i t:Nat}{v:Value}{nul:Bool}{wd:Nat}{rows:List (List U)}(h:B2I m i t=some (v,m'))(hi:Ora.env i=.seq nul wd rows)(hS:Sat m'.lg):VR ρ v (.int .i64 rows.length)∧J4 m m'∧m.lg.le m'.lg∧D2 Ora.env v=.int .i64 rows.length:=by
 unfold B2I at h;split at h
 ·rename_i j hj;cases h;obtain⟨tg,hm⟩:=A4G hj;obtain⟨h1,h2,_⟩:=hS _ hm;have harg:[hole i tg].map (D2 Ora.env)=[.seq nul wd rows]:=by
   show[Ora.env i]=_;rw[hi]
  rw[harg]at h1;have h1:Ora.env j=.int .i64 rows.length:=h1;refine⟨.hole ?_ ?_,J4.refl _,.refl _,h1⟩
  ·rw[h1];rfl
  ·rw[h1];rfl
 ·exact C2s h hi hS
theorem B7r{b:Nat}{u:U}{v':Value}(h:B9V ρ b u v'):∃ nul wd rows a c,u=.seq nul wd rows∧v'=.slice a rows.length c:=by
 rcases h with⟨l,wd,h1,h2,h3,rfl⟩|⟨l,wd,rows,h1,h2,h3,h4,h40,rfl⟩
 ·exact⟨_,_,_,_,_,h3,rfl⟩
 ·exact⟨_,_,_,_,_,h3,by rw[h4]⟩
theorem C2t{t ty:TypeId}{tys:List TypeId}{x x' v:Value}(h:C2u P m t x=some (v,m'))(hx:VR ρ x x')(hS:Sat m'.lg):(∃ r,(Builtin.len_ ⟨t::tys⟩ ty #[x']).run P w=.ok r w∧VR ρ v r)∧J4 m m'∧m.lg.le m'.lg:=by
 unfold C2u at h;split at h
 ·rename_i e b i tg hu;obtain⟨l,h1,h2,h3,h4⟩:=A4x hx;obtain⟨nul,wd,rows,e1,_⟩:=A2F h2 h3 h4;obtain⟨g1,g2,g3,_⟩:=A4A (ρ:=ρ) h e1 hS;rw[e1]at h2;rcases v6 h2 with⟨rfl,rfl,rfl⟩|⟨rfl,a,c,rfl,_⟩
  ·exact⟨⟨_,A3t hu w,g1⟩,g2,g3⟩
  ·exact⟨⟨_,A3t hu w,g1⟩,g2,g3⟩
 ·rename_i e b i tg hu;obtain⟨l,h1,h2,h3,h4,_⟩:=A1_ hx;obtain⟨nul,wd,rows,e1,_⟩:=A2F h2 h3 h4;obtain⟨g1,g2,g3,_⟩:=A4A (ρ:=ρ) h e1 hS;rw[e1]at h2;rcases v6 h2 with⟨rfl,rfl,rfl⟩|⟨rfl,a,c,rfl,_⟩
  ·exact⟨⟨_,A3t hu w,g1⟩,g2,g3⟩
  ·exact⟨⟨_,A3t hu w,g1⟩,g2,g3⟩
 ·rename_i e b i tg hu;obtain⟨nul,wd,rows,a,c,e1,rfl⟩:=B7r (A19 hx).1;obtain⟨g1,g2,g3,_⟩:=A4A (ρ:=ρ) h e1 hS;exact⟨⟨_,A3t hu w,g1⟩,g2,g3⟩
 ·cases h
theorem B1E{v v':Value}{n:Nat}(hv:VR ρ v v')(ht:A9K v=true){kk:IntKind}(ha:D2 Ora.env v=.int kk (.ofNat n)):∃ j,v'=.int j (.ofNat n):=by
 obtain⟨k,z,rfl,f2,_⟩:=O6 hv (A1 ht);rw[f2]at ha;injection ha with _ hb
 exact⟨k,by rw[hb]⟩
theorem B84{h x h' x':Value}(hs:B6G h x=true)(h1:VR ρ h h')(h2:VR ρ x x'):h'=x':=by
 unfold B6G at hs;split at hs
 ·rename_i i t1 j t2
  have:=A0 hs;subst this;have hh:∀ {t:Nat} {v:Value},VR ρ (.complex .f64 i t) v→toV (Ora.env i)=some v:=fun{t v} h=>by
   cases h with
   | pure hp=>simp[H5]at hp
   | hole h _=>exact h
  have a:=hh h1;rw[hh h2]at a;exact(A4 a).symm
 ·obtain⟨e1,e2⟩:=B2 hs;have e1:=A2g e1;rw[A1E]at e2;have e2:=eq_of_beq e2;subst e1;subst e2;cases I6 h1;cases I6 h2;rfl
 ·cases hs
theorem C0Q{wd v:Nat}{nul:Bool}{rows:List (List U)}{a b:U}(hne:evU (.subs wd) [.seq nul v rows,a,b]≠.none):∃ k1 l k2 h,a=.int k1 (.ofNat l)∧b=.int k2 (.ofNat h)∧v=wd∧l≤h∧h≤rows.length:=by
 cases a with
 | int k1 z1=>cases z1 with
   | ofNat l=>cases b with
     | int k2 z2=>cases z2 with
       | ofNat h =>
         have hne:(if v=wd∧l≤h∧h≤rows.length then U.seq nul wd ((rows.drop l).take (h-l))else .none)≠.none:=hne;by_cases hc:v=wd∧l≤h∧h≤rows.length
         ·exact⟨k1,l,k2,h,rfl,rfl,hc.1,hc.2.1,hc.2.2⟩
         ·rw[if_neg hc]at hne;exact(hne rfl).elim
       | negSucc _=>exact(hne rfl).elim
     | _=>exact(hne rfl).elim
   | negSucc _=>exact(hne rfl).elim
 | _=>exact(hne rfl).elim
theorem C3M{G:Nat→Option Obj}{nul:Bool}{wd l h mm n c:Nat}{rows:List (List U)}{a:Option Addr}(he:Enc G (.seq nul wd rows) (.slice a n c))(hl:l≤h)(hh:h≤rows.length)(hm:h≤mm)(hmc:mm≤c) :
  Enc G (.seq nul wd ((rows.drop l).take (h-l))) (.slice (if mm=l then a else a.map (·.add (l*wd))) (h-l) (mm-l))∨a=none:=by
 cases he with
 | sc h=>cases h
 | nil=>exact .inr rfl
 | emp =>
   rename_i a;have e1:h=0:=by simpa using hh
   subst e1;have e2:l=0:=by omega
   subst e2;have e3:mm=0:=by omega
   subst e3;exact .inl .emp
 | sl hc hg hz hw hrow =>
   rename_i a o C T fz;refine .inl ?_;have hlen:((rows.drop l).take (h-l)).length=h-l:=by simp;omega
   have key:∀ b o2,(h-l≠0→b=a∧o2=o+l*wd)→Enc G (.seq false wd ((rows.drop l).take (h-l))) (.slice (some ⟨b,o2,none⟩) (h-l) (mm-l)):=fun b o2 hb=>by
    have hgo:∀ r row,((rows.drop l).take (h-l))[r]? = some row→h-l≠0∧rows[l+r]? = some row:=fun r row hr=>by
     have hlt:=(A9.1 hr).1;rw[hlen]at hlt;rw[F0 hlt,F9]at hr;exact⟨by omega,hr⟩
    have hne:(rows.drop l).take (h-l)≠[]→h-l≠0∧rows≠[]:=fun hne=>by
     constructor
     ·intro e;rw[e]at hne;simp at hne
     ·intro e;subst e;simp at hne
    have:=Enc.sl (G:=G) (w:=wd) (rows:=(rows.drop l).take (h-l)) (a:=b) (o:=o2) (c:=mm-l) (C:=C) (T:=T) (fz:=fz) (by omega)
     (fun hn=>by obtain⟨e1,e2⟩:=hne hn;rw[(hb e1).1];exact hg e2)
     (fun hn=>by
       obtain⟨e1,e2⟩:=hne hn;rw[hlen,(hb e1).2];have h1:=hz e2;have h2:(l+(h-l))*wd≤rows.length*wd:=E6 wd (by omega);rw[G3]at h2;omega)
     (fun row hr=>hw row (K2 (O2 hr)))
     (fun r row j u v q1 q2 q3=>by
       obtain⟨e1,e2⟩:=hgo r row q1;rw[(hb e1).2]at q3;refine hrow (l+r) row j u v e2 q2 ?_;rw[G3,show o+(l*wd+r*wd)+j=o+l*wd+r*wd+j by omega];exact q3)
    rw[hlen]at this;exact this
   by_cases hml:mm=l
   ·rw[if_pos hml];exact key a o fun h=>by omega
   ·rw[if_neg hml];have e:(Addr.mk a o none).add (l*wd)=⟨a,o+l*wd,none⟩:=by
     unfold Addr.add;split
     ·rename_i h;rw[h];rfl
     ·rfl
    show Enc G _ (.slice (some ((Addr.mk a o none).add (l*wd))) _ _);rw[e];exact key a (o+l*wd) fun _=>⟨rfl,rfl⟩
theorem B2i{t e:TypeId}{b i tg s:Nat}{cl:Bool}{l:Loc}{lo hi mx lo' hi' mx':Option Value}{v x':Value}(hu:P.underlying t=some (.slice e))(hs:F7 P e=some s)(htg:tg=10+s)(h1:ρ b=some l)(h2:Enc l.G (Ora.env i) x')(h3:F1 (Ora.env i)=tg)
  (hcl:cl=true→C0p x') (h:B4T m b i tg cl lo hi mx=some (v,m')) (hlo:OR ρ lo lo') (hhi:OR ρ hi hi') (hmx:OR ρ mx mx') (hS:Sat m'.lg):(∃ r,(Instr.sliceAt t x' lo' hi' mx').run P w=.ok r w∧VR ρ v r)∧J4 m m'∧m.lg.le m'.lg:=by
 have none_inv:∀ {o:Option Value},OR ρ none o→o=none:=fun{o} h=>by cases o<;>first|rfl|exact h.elim
 have some_inv:∀ {y:Value} {o:Option Value},OR ρ (some y) o→∃ y',o=some y'∧VR ρ y y':=fun{y o} h=>by cases o<;>first|exact h.elim|exact⟨_,rfl,h⟩
 obtain⟨nul,wd,rows,e1,e2⟩:=A2F h2 h3 (by omega);have hwd:wd=s:=by omega
 subst hwd;rw[e1]at h2;obtain⟨a,n,c,hx',hn,hnc⟩:∃ a n c,x'=.slice a n c∧n=rows.length∧n≤c:=by
  rcases v6 h2 with⟨rfl,rfl,rfl⟩|⟨rfl,a,c,rfl,hc⟩
  ·exact⟨_,_,_,rfl,rfl,A5 _⟩
  ·exact⟨_,_,_,rfl,rfl,hc⟩
 subst hx';have go:∀ {m:Mem} {lv hv:Value} {cc:Bool} {lv':Option Value} {hh mm:Nat},A2G m b i tg lv hv cc=some (v,m') →
   (lv'=none∧lv=.int .i64 0∨∃ y,lv'=some y∧VR ρ lv y)→(∀ kk q,D2 Ora.env hv=.int kk (.ofNat q)→q≤rows.length→q=hh∧Bd mx' c c mm∧(hi'=none→mx'=none)∧Bd hi' mm n hh∧hh≤mm∧(cc=true→mm=hh)) →
   (∃ r,(Instr.sliceAt t (.slice a n c) lv' hi' mx').run P w=.ok r w∧VR ρ v r)∧J4 m m'∧m.lg.le m'.lg:=fun{m lv hv cc lv' hh mm} h hlv hhv=>by
  unfold A2G at h;obtain⟨hint,h⟩:=A2 h;obtain⟨hi1,hi2⟩:=B2 hint;rw[O7]at h;simp only[C5,M1]at h;obtain⟨rfl,rfl⟩:=h;obtain⟨f1,f2,nul2,wd2,rows2,f3,f4⟩:=A3c hS (.refl _);have harg:[hole i tg,lv,hv].map (D2 Ora.env)=[.seq nul wd rows,D2 Ora.env lv,D2 Ora.env hv]:=by
   show[Ora.env i,_,_]=_;rw[e1]
  rw[harg]at f1;have h10:tg-10=wd:=by omega
  rw[h10]at f1;obtain⟨k1,l0,k2,h0,a1,a2,a3,a4⟩:∃ k1 l0 k2 h0,D2 Ora.env lv=.int k1 (.ofNat l0)∧D2 Ora.env hv=.int k2 (.ofNat h0)∧l0≤h0∧h0≤rows.length:=by
   have hne:evU (.subs wd) [.seq nul wd rows,D2 Ora.env lv,D2 Ora.env hv]≠.none:=by rw[← f1,f3];intro h;cases h
   obtain⟨k1,l0,k2,h0,q1,q2,_,q3,q4⟩:=C0Q hne;exact⟨k1,l0,k2,h0,q1,q2,q3,q4⟩
  rw[a1,a2]at f1;have f1:Ora.env m.lg.nx=if wd=wd∧l0≤h0∧h0≤rows.length then U.seq nul wd ((rows.drop l0).take (h0-l0))else .none:=f1
  rw[if_pos ⟨rfl,a3,a4⟩]at f1;obtain⟨rfl,b1,b2,b3,b4,b5⟩:=hhv k2 h0 a2 a4;have b6:Bd lv' h0 0 l0:=by
   rcases hlv with⟨rfl,rfl⟩|⟨y,rfl,hy⟩
   ·cases a1;exact .inl ⟨rfl,rfl⟩
   ·obtain⟨j,rfl⟩:=B1E hy hi1 a1;exact .inr ⟨j,rfl,a3⟩
  have hrun:=A7R (P:=P) (a:=a) (n:=n) (c:=c) hu hs b1 b2 b3 b6 w;have henc:Enc l.G (Ora.env m.lg.nx) (.slice (if mm=l0 then a else a.map (·.add (l0*wd))) (h0-l0) (mm-l0)):=by
   rw[f1];rcases C3M (mm:=mm) h2 a3 a4 b4 (by rcases b1 with⟨_,rfl⟩|⟨_,_,b1⟩<;>omega)with he|rfl
   ·exact he
   ·rcases v6 h2 with⟨rfl,rfl,hq⟩|⟨_,_,_,hq,_⟩
    ·cases hq;have z1:h0=0:=by simp at a4;exact a4
     have z2:l0=0:=by omega
     have z3:mm=0:=by
      rcases b1 with⟨_,rfl⟩|⟨_,_,b1⟩<;>omega
     subst z1;subst z2;subst z3;exact .nil
    ·cases hq
  refine⟨⟨_,hrun,?_⟩,⟨_,rfl⟩,W3⟩;cases cc with
  | false=>exact .dat h1 henc f2 (by omega) rfl
  | true =>
    refine .clp h1 henc f2 (by omega) rfl ?_;show mm-l0=h0-l0;rw[b5 rfl]
 have nat_of:∀ {hv y:Value} {kk:IntKind} {q:Nat},VR ρ hv y→A9K hv=true→D2 Ora.env hv=.int kk (.ofNat q)→∃ j,y=.int j (.ofNat q):=fun h1 h2 h3=>B1E h1 h2 h3
 have hint_of:∀ {m:Mem} {lv hv:Value} {cc:Bool},A2G m b i tg lv hv cc=some (v,m')→A9K hv=true:=fun h=>by
  unfold A2G at h;exact(B2 (A2 h).1).2
 have main:∀ lv,(lo'=none∧lv=.int .i64 0∨∃ y,lo'=some y∧VR ρ lv y)→B4S m b i tg cl lv hi mx=some (v,m')→(∃ r,(Instr.sliceAt t (.slice a n c) lo' hi' mx').run P w=.ok r w∧VR ρ v r)∧J4 m m'∧m.lg.le m'.lg:=fun lv hlv h=>by
  cases hi with
  | some hv =>
    obtain⟨hv',rfl,hvv⟩:=some_inv hhi;cases mx with
    | none =>
      cases none_inv hmx;have h:A2G m b i tg lv hv false=some (v,m'):=h;have hint:=hint_of h;obtain⟨kk,q,hq⟩:∃ kk q,D2 Ora.env hv=.int kk q:=by
       obtain⟨k,z,_,f2,_⟩:=O6 hvv (A1 hint);exact⟨k,z,f2⟩
      exact go (hh:=q.toNat) (mm:=c) h hlv fun kk2 q2 h1 h2=>by
       rw[hq]at h1;injection h1 with _ h1
       subst h1;obtain⟨j,rfl⟩:=nat_of hvv hint hq;have e:(Int.ofNat q2).toNat=q2:=rfl;rw[e];exact⟨rfl,.inl ⟨rfl,rfl⟩,fun h=>(by cases h),.inr ⟨j,rfl,by omega⟩,by omega,fun h=>by cases h⟩
    | some x =>
      obtain⟨x',rfl,hxx⟩:=some_inv hmx;have h:(bif B6G hv x then A2G m b i tg lv hv true else none)=some (v,m'):=h;obtain⟨hsame,h⟩:=A2 h;have hint:=hint_of h
      have:=B84 hsame hvv hxx;subst this;obtain⟨kk,q,hq⟩:∃ kk q,D2 Ora.env hv=.int kk q:=by
       obtain⟨k,z,_,f2,_⟩:=O6 hvv (A1 hint);exact⟨k,z,f2⟩
      exact go (hh:=q.toNat) (mm:=q.toNat) h hlv fun kk2 q2 h1 h2=>by
       rw[hq]at h1;injection h1 with _ h1
       subst h1;obtain⟨j,rfl⟩:=nat_of hvv hint hq;have e:(Int.ofNat q2).toNat=q2:=rfl;rw[e];exact⟨rfl,.inr ⟨j,rfl,by omega⟩,fun h=>(by cases h),.inr ⟨j,rfl,A5 _⟩,A5 _,fun _=>rfl⟩
  | none =>
    cases none_inv hhi;cases mx with
    | some x=>cases h
    | none =>
      cases none_inv hmx;unfold B4S at h;simp only at h;split at h
      ·rename_i hv m1 hl;have hle2:J4 m1 m'∧m1.lg.le m'.lg:=by
        unfold A2G at h;obtain⟨_,h⟩:=A2 h;rw[O7]at h;simp only[C5,M1]at h;obtain⟨_,rfl⟩:=h;exact⟨⟨_,rfl⟩,W3⟩
       obtain⟨q1,q2,q3,q4⟩:=A4A (ρ:=ρ) hl e1 (hS.le hle2.2);obtain⟨r1,r2,r3⟩:=go (hh:=rows.length) (mm:=c) h hlv fun kk2 q2 h1 h2=>by
        rw[q4]at h1;injection h1 with _ h1
        have h1:((rows.length:Nat):Int)=(q2:Nat):=h1;have:q2=rows.length:=by omega
        subst this;refine⟨rfl,.inl ⟨rfl,rfl⟩,fun _=>rfl,.inl ⟨rfl,hn.symm⟩,by omega,fun hc=>?_⟩
        have:=hcl hc;have:c=n:=this;omega
       exact⟨r1,q2.trans r2,q3.trans r3⟩
      ·cases h
 cases lo with
 | none=>exact main _ (.inl ⟨none_inv hlo,rfl⟩) h
 | some y=>obtain⟨y',q1,q2⟩:=some_inv hlo;exact main _ (.inr ⟨y',q1,q2⟩) h
end
end Go.Sx
namespace Go.Sx
set_option linter.all false
open Go
set_option linter.unusedVariables false
set_option linter.unusedSimpArgs false
variable [Ora]
section
variable {P:Program} {base:Nat} {ρ ρ':Ren} {m m':Mem} {w w':World}
def P3(R:Nat→Option Obj)(rows:List (List U))(wd:Nat)(C:Array Value)(o:Nat):Prop :=
 (∀ row ∈ rows,row.length=wd)∧∀ (r:Nat) (row:List U) (j:Nat) (u:U) (v:Value),rows[r]? = some row→row[j]? = some u→C[o+r*wd+j]? = some v→Enc R u v
theorem P3.mono{R R':Nat→Option Obj}{rows:List (List U)}{wd o:Nat}{C:Array Value}(h:P3 R rows wd C o)(hs:Sub R R'):P3 R' rows wd C o:=⟨h.1,fun r row j u v a b c=>(h.2 r row j u v a b c).mono hs⟩
theorem P3.nil{R:Nat→Option Obj}{wd o:Nat}{C:Array Value}:P3 R [] wd C o:=⟨fun _ h=>by(cases h),fun r row j u v h=>by simp at h⟩
theorem A43{wd:Nat}:∀ {n:Nat} {l:List U} {r:List (List U)},l8 wd n l=some r→r.length=n∧l.length=n*wd∧(∀ row ∈ r,row.length=wd)∧∀ (q:Nat) (row:List U) (j:Nat) (u:U),r[q]? = some row→row[j]? = some u→l[q*wd+j]? = some u
 | 0,[],r,h=>by cases h;exact⟨rfl,by simp,fun _ h=>(by cases h),fun q row j u h=>by simp at h⟩
 | 0,_::_,r,h=>by cases h
 | n+1,l,r,h=>by
   unfold l8 at h;split at h
   ·rename_i hle;split at h
    ·rename_i r0 hr;cases h;obtain⟨h1,h2,h3,h4⟩:=A43 hr;have hd:l.length=(n+1)*wd:=by
      rw[C8]at h2;rw[G3];omega
     refine⟨by simp[h1],hd,fun row hrow=>?_,fun q row j u g1 g2=>?_⟩
     ·rcases B7.1 hrow with rfl|hrow
      ·simp;omega
      ·exact h3 row hrow
     ·cases q with
      | zero =>
        simp at g1;subst g1;have hj:=(A9.1 g2).1;simp at hj;rw[F0 (by omega)]at g2
        simpa using g2
      | succ q =>
        have:=h4 q row j u (by simpa using g1) g2;rw[F9]at this;rw[show(q+1)*wd+j=wd+(q*wd+j) by rw[G3];omega];exact this
    ·cases h
   ·cases h
theorem A5X{wd:Nat}:∀ (n:Nat) (l:List U),l.length=n*wd→∃ r,l8 wd n l=some r
 | 0,[],_=>⟨[],rfl⟩
 | 0,_::_,h=>by simp at h
 | n+1,l,h=>by
   rw[G3]at h;obtain⟨r,hr⟩:=A5X (wd:=wd) n (l.drop wd) (by rw[C8];omega);refine⟨l.take wd::r,?_⟩;unfold l8;rw[if_pos (by omega),hr]
theorem A5B{R:Nat→Option Obj}{us:List U}{vs:List Value}{wd n:Nat}{rows:List (List U)}(h:Z4 R us vs)(hc:l8 wd n us=some rows):P3 R rows wd ⟨vs⟩ 0:=by
 obtain⟨h1,h2,h3,h4⟩:=A43 hc;refine⟨h3,fun r row j u v g1 g2 g3=>h.2 _ u v (h4 r row j u g1 g2) ?_⟩
 simpa using g3
theorem A82{α:Type}{l:List α}:∀ n,(B5E l n).length=n*l.length
 | 0=>by simp[B5E]
 | n+1=>by simp[B5E,A82 n,G3];omega
theorem A2i(s:List UInt8):(A3V s).length=s.length:=by simp[A3V]
theorem B3S{R:Nat→Option Obj}(s:List UInt8):P3 R (A3V s) 1 ⟨P9 s⟩ 0:=by
 refine⟨fun row hr=>?_,fun r row j u v g1 g2 g3=>?_⟩
 ·unfold A3V at hr;obtain⟨b,_,rfl⟩:=Q6.1 hr;rfl
 ·unfold A3V at g1;rw[G5]at g1;cases hb:s[r]? with
  | none=>rw[hb]at g1;cases g1
  | some b =>
    rw[hb]at g1;simp only[K5,C5]at g1;subst g1;cases j with
    | zero =>
      simp at g2;subst g2;have g3:(P9 s)[0+r*1+0]? = some v:=by simpa using g3
      unfold P9 at g3;rw[G5,show 0+r*1+0=r by omega,hb]at g3;simp only[K5,C5]at g3;subst g3;exact .sc rfl
    | succ j=>simp at g2
theorem A7C{G:Nat→Option Obj}{wd n c:Nat}{a:Addr}{rows:List (List U)}(h:Enc G (.seq false wd rows) (.slice (some a) n c))(hG:∀ k ob,G k=some ob→w.heap[k]? = some ob) :
  n=rows.length∧∃ new',new'.length=rows.length*wd∧new'.all y6=true∧P3 G rows wd ⟨new'⟩ 0∧∀ (j:Nat) (v':Value),new'[j]? = some v'→w.cell? (a.add j)=some v':=by
 cases h with
 | sc h=>cases h
 | emp=>exact⟨rfl,[],by simp,rfl,.nil,fun j v' h=>by simp at h⟩
 | sl hc hg hz hw hrow =>
   rename_i a o C T fz;refine⟨rfl,?_⟩;cases hr:rows with
   | nil=>exact⟨[],by simp,rfl,.nil,fun j v' h=>by simp at h⟩
   | cons r0 rr =>
     have hne:rows≠[]:=by rw[hr];simp
     rw[← hr];have hh:=hG _ _ (hg hne);have hz:=hz hne;have hlen:((C.toList.drop o).take (rows.length*wd)).length=rows.length*wd:=by simp;omega
     have hget:∀ j,j<rows.length*wd→((C.toList.drop o).take (rows.length*wd))[j]? = C[o+j]? := fun j hj=>by
      rw[F0 hj,F9];simp
     refine⟨_,hlen,?_,⟨hw,fun r row j u v g1 g2 g3=>?_⟩,fun j v' hj=>?_⟩
     ·refine D0.2 fun v hv=>?_
      obtain⟨j,hj,e⟩:=m6 hv;rw[hlen]at hj;have hv2:C[o+j]? = some v:=by rw[← hget j hj,A3 (by rw[hlen];exact hj),e]
      have hwd:0<wd:=by
       rcases T8 wd with h0|h0
       ·subst h0;omega
       ·exact h0
      have h1:j / wd<rows.length:=by rw[Nat.div_lt_iff_lt_mul hwd];exact hj
      have h2:(rows[j / wd]).length=wd:=hw _ (O4 h1);have h3:j%wd<wd:=A5e _ hwd;refine A4N (hrow (j / wd) rows[j / wd] (j%wd) (rows[j / wd])[j%wd] v (A3 h1) (A3 (by rw[h2];exact h3)) ?_);have:o+j / wd*wd+j%wd=o+j:=by have:=Nat.div_add_mod j wd;rw[i7]at this;omega
      rw[this];exact hv2
     ·have hq:0+r*wd+j<rows.length*wd:=by
       have hr1:=(A9.1 g1).1;have hj1:=(A9.1 g2).1;rw[hw _ (D3 g1)]at hj1;have h2:(r+1)*wd≤rows.length*wd:=E6 wd hr1;rw[G3]at h2;omega
      have g3:((C.toList.drop o).take (rows.length*wd))[0+r*wd+j]? = some v:=by simpa using g3
      rw[hget _ hq]at g3;exact hrow r row j u v g1 g2 (by rw[show o+r*wd+j=o+(0+r*wd+j) by omega];exact g3)
     ·have hjl:=(A9.1 hj).1;rw[hlen]at hjl;rw[hget j hjl]at hj;rw[J5.add_none'];simp[World.cell?,hh,hj]
structure B8F (P:Program) (ρ':Ren) (w:World) (wd:Nat) (bh:Beh) (gs:List Nat) (y':Value) (rows2:List (List U)) (new':List Value):Prop where
 len:∀ wd',(Builtin.lenOf y').run P wd'=.ok rows2.length wd'
 first:∀ wd':World,wd'.heap=w.heap→(Builtin.firstCells wd rows2.length y').run P wd'=.ok ⟨new'⟩ wd'
 size:new'.length=rows2.length*wd
 flat:new'.all y6=true
 rows:∀ R,(∀ b ∈ gs,∀ l,ρ' b=some l→Sub l.G R)→P3 R rows2 wd ⟨new'⟩ 0
 ev:∀ c nul rows,Ora.env c=.seq nul wd rows→evU (A07 wd (hole c (10+wd)) bh).1 ((A07 wd (hole c (10+wd)) bh).2.map (D2 Ora.env))=A4W nul wd rows rows2
theorem B1O{R:Nat→Option Obj}{us:List U}{vs:List Value}(h:Z4 R us vs):vs.all y6=true:=by
 refine D0.2 fun v hv=>?_
 obtain⟨j,hj,e⟩:=m6 hv;have hu:j<us.length:=by rw[h.1];exact hj
 exact A4N (h.2 j us[j] v (A3 hu) (by rw[A3 hj,e]))
theorem B7E{td:Td}(htd:A92 P td){e:TypeId}{wd:Nat}{y y':Value}{bh:Beh}{gs:List Nat}{sure:Bool}(h:HR P base ρ m.H w)(ho:C0v td P m e wd y=some (bh,gs,sure,m'))(hf:J6 ρ m.n m'.hi)(hy:VR ρ y y')(hS:Sat m'.lg)(hwd:0<wd)(hsz:F7 P e=some wd) :
  ∃ ρ' rows2 new',St P base ρ ρ' m m' w w∧m.lg.le m'.lg∧p8 ρ m m'∧(∀ b ∈ gs,Hp.get m'.H b=some .frz∧∃ l,ρ' b=some l)∧B8F P ρ' w wd bh gs y' rows2 new'∧(sure=true→rows2≠[]):=by
 unfold C0v at ho;split at ho
 ·cases ho;cases Q3 hy;refine⟨ρ,[],[],St.refl h,.refl _,.refl,fun b hb=>(by cases hb),⟨fun _=>rfl,fun _ _=>rfl,by simp,rfl,fun R _=>.nil,fun c nul rows hc=>?_⟩,fun h=>by cases h⟩;show evU (.snoc wd) [Ora.env c]=_;rw[hc];show(if wd=wd∧wd≠0 then(match l8 wd (([]:List U).length / wd) []with|some r=>A4W nul wd rows r|none=>.none)else .none)=_;rw[if_pos ⟨rfl,by omega⟩,D9,Nat.zero_div];rfl
 ·rename_i a n c;split at ho
  ·rename_i cs ts hr hts;split at ho
   ·rename_i xs gs2 m2 hd;cases ho;have hnc:A1i m wd (.slice (some a) n c)=some (n,cs):=by simp only[A1i,hr]
    obtain⟨f1,new',f2,f3⟩:=A7f h hnc hy;obtain⟨ρ2,e1,e2,e3,e4,e5,e6⟩:=A21 htd h hd hf f2 hS;have hlt:ts.length=wd:=by have:=A22 hts;rw[hsz]at this;exact(A4 this).symm
    have hul:(xs.map (D2 Ora.env)).length=n*wd:=by
     have:=congrArg List.length e5;rw[F5,A82,hlt]at this;exact this
    obtain⟨rows2,hch⟩:=A5X (wd:=wd) n (xs.map (D2 Ora.env)) hul;obtain⟨g1,g2,g3,g4⟩:=A43 hch;refine⟨ρ2,rows2,new',e1,e2,e3,e4,⟨fun wd'=>by rw[g1];exact f1 wd',fun wd' hw'=>by rw[g1];exact f3 wd' hw',?_,?_,fun R hR=>A5B (e6 R hR) hch,fun c nul rows hc=>?_⟩,fun hs=>?_⟩
    ·have:=(e6 (fun k=>w.heap[k]?) (fun b hb l hl k o hk=>by
      obtain⟨q1,_⟩:=e4 b hb;exact(e1.hr.atl hl q1).1.2 k o hk)).1
     rw[← this,hul,g1]
    ·exact B1O (e6 (fun k=>w.heap[k]?) (fun b hb l hl k o hk=>by
      obtain⟨q1,_⟩:=e4 b hb;exact(e1.hr.atl hl q1).1.2 k o hk))
    ·show evU (.snoc wd) (Ora.env c::xs.map (D2 Ora.env))=_;rw[hc];show(if wd=wd∧wd≠0 then(match l8 wd ((xs.map (D2 Ora.env)).length / wd) (xs.map (D2 Ora.env))with|some r=>A4W nul wd rows r|none=>.none)else .none)=_;rw[if_pos ⟨rfl,by omega⟩,hul,t7 _ hwd,hch]
    ·have:0<n:=A1 hs;intro he;subst he;simp at g1;omega
   ·cases ho
  ·cases ho
 ·split at ho
  ·rename_i x b m2 hd;cases ho;obtain⟨ρ2,l,e1,e2,e3,e4,e5,e6,e7⟩:=htd.ok h hd hf hy hS;obtain⟨nul2,wd2,rows2,q1,q2⟩:=A2F e4 e5 (by omega);have hw2:wd2=wd:=by omega
   subst hw2;have hG:=(e1.hr.atl e2 e3).1.2;rw[q1]at e4;have hev:∀ c nul rows,Ora.env c=.seq nul wd2 rows→evU (A07 wd2 (hole c (10+wd2)) (.rows x)).1 ((A07 wd2 (hole c (10+wd2)) (.rows x)).2.map (D2 Ora.env))=A4W nul wd2 rows rows2:=fun c nul rows hc=>by
    show evU (.cat wd2) [Ora.env c,D2 Ora.env x]=_;rw[hc,q1];simp[evU]
   have hreg:∀ b' ∈ [b],Hp.get m'.H b'=some .frz∧∃ l,ρ2 b'=some l:=fun b' hb'=>by
    rcases B7.1 hb' with rfl|hb'
    ·exact⟨e3,l,e2⟩
    ·cases hb'
   rcases v6 e4 with⟨rfl,rfl,rfl⟩|⟨rfl,a,c,rfl,hc⟩
   ·exact⟨ρ2,[],[],e1,e6,e7,hreg,⟨fun _=>rfl,fun _ _=>rfl,by simp,rfl,fun R _=>.nil,hev⟩,fun h=>by cases h⟩
   ·obtain⟨_,new',g1,g2,g3,g4⟩:=A7C (w:=w) e4 hG;refine⟨ρ2,rows2,new',e1,e6,e7,hreg,⟨fun _=>rfl,fun wd' hw'=>?_,g1,g2,fun R hR=>g3.mono (hR b (.head _) l e2),hev⟩,fun h=>by cases h⟩;rw[show Builtin.firstCells wd2 rows2.length (.slice (some a) rows2.length c)=loadCells a (rows2.length*wd2)from rfl];exact A3_ g1 fun j v' hj=>by rw[A0Y hw'];exact g4 j v' hj
  ·cases ho
 ·obtain⟨h1,ho⟩:=A2 ho;obtain⟨h2,h3⟩:=B2 h1;have h4:=A0 h2;have h5:=A0 h3;cases ho;subst h5;obtain⟨s,rfl,f1⟩:=A0b hy h4;refine⟨ρ,A3V s,P9 s,St.refl h,.refl _,.refl,fun b hb=>(by cases hb),⟨fun _=>?_,fun wd' _=>?_,by simp[A3V,P9],?_,fun R _=>B3S s,fun c nul rows hc=>?_⟩,fun h=>by cases h⟩
  ·rw[A2i];rfl
  ·rw[A2i];have e:((ByteArray.extract ⟨⟨s⟩⟩ 0 s.length).data.map fun b=>Value.int .u8 b.toNat)=⟨P9 s⟩:=by
    rw[A2S];apply I3;simp[P9]
   show(pure ((ByteArray.extract ⟨⟨s⟩⟩ 0 s.length).data.map fun b=>Value.int .u8 b.toNat):Sem (Array Value)).run P wd'=_;rw[e];rfl
  ·refine D0.2 fun v hv=>?_
   unfold P9 at hv;obtain⟨b,_,rfl⟩:=Q6.1 hv;rfl
  ·show evU .cats [Ora.env c,D2 Ora.env y]=_;rw[hc,f1];simp[evU]
end
end Go.Sx
namespace Go.Sx
set_option linter.all false
open Go
set_option linter.unusedVariables false
set_option linter.unusedSimpArgs false
variable [Ora]
section
variable {P:Program} {base:Nat} {ρ ρ':Ren} {m m':Mem} {w w':World}
theorem Sub.trans{A B C:Nat→Option Obj}(h:Sub A B)(k:Sub B C):Sub A C:=fun q o hq=>k q o (h q o hq)
structure C1x (P:Program) (base:Nat) (ρ:Ren) (m:Mem) (w:World) (e:TypeId) (wd c:Nat) (gs:List Nat) (old:Option Nat) (x':Value):Prop where
 ex:∃ nul rows,Ora.env c=.seq nul wd rows∧((nul=true∧rows=[]∧x'=.slice none 0 0∧(∀ b,old=some b→∃ ab l,b≤G2∧Hp.get m.H b=some ab∧ab.rw=true∧ρ b=some l∧l.on=false)) ∨
  (nul=false∧∃ b ab l cap C fz,old=some b∧b≤G2∧Hp.get m.H b=some ab∧ab.rw=true∧ρ b=some l∧l.on=true∧x'=.slice (some ⟨l.blk,l.sh,none⟩) rows.length cap∧w.heap[l.blk]? = some (.cells C e fz) ∧
    rows.length≤cap∧l.sh+cap*wd≤C.size∧(∀ i,i<C.size→¬ (fz.1≤i∧i<fz.2))∧∀ R,(∀ b ∈ gs,∀ l,ρ b=some l→Sub l.G R)→P3 R rows wd C l.sh))
theorem B4j{td:Td}(htd:A92 P td){e:TypeId}{wd c:Nat}{x x':Value}{gs:List Nat}{old:Option Nat}(h:HR P base ρ m.H w)(ho:B1f td P m e wd x=some (c,gs,old,m'))(hf:J6 ρ m.n m'.hi)(hx:VR ρ x x')(hS:Sat m'.lg)(hwd:0<wd)(hsz:F7 P e=some wd) :
  ∃ ρ',St P base ρ ρ' m m' w w∧m.lg.le m'.lg∧p8 ρ m m'∧C1x P base ρ' m' w e wd c gs old x':=by
 unfold B1f at ho;split at ho
 ·rw[O7]at ho;simp only[hole]at ho;cases ho;cases Q3 hx;obtain⟨e1,e2,_⟩:=A3c hS (.refl _);refine⟨ρ,St.wLg h _,W3,p8.lg _,⟨true,[],e1,.inl ⟨rfl,rfl,rfl,fun b hb=>by cases hb⟩⟩⟩
 ·rename_i b i tg;split at ho
  ·rename_i c0 tc T g hg;obtain⟨h1,ho⟩:=A2 ho;obtain⟨h1,h2⟩:=B2 h1;obtain⟨h1,h3⟩:=B2 h1;obtain⟨h2,h4⟩:=B2 h2;have h1:=A0 h1;have h3:=A0 h3;have h2:=A0 h2;have h4:=A1 h4;cases ho;subst h2;obtain⟨hown,htag⟩:=A19 hx;rcases hown with⟨l,wd1,g1,g2,g3,rfl⟩|⟨l,wd1,rows1,g1,g2,g3,g4,g40,rfl⟩
   ·obtain⟨wd2,inf,e1,e2,e3,e4⟩:=SqR.ex (h.atl g1 hg).1;rcases e4 with⟨_,e4⟩|⟨e4,_⟩
    ·have:wd2=wd:=by omega
     subst this;refine⟨ρ,St.refl h,.refl _,.refl,⟨true,[],e4,.inl ⟨rfl,rfl,rfl,fun b' hb'=>?_⟩⟩⟩;cases hb';exact⟨_,l,h4,hg,rfl,g1,g2⟩
    ·rw[g2]at e4;cases e4
   ·obtain⟨wd2,inf,e1,e2,e3,e4⟩:=SqR.ex (h.atl g1 hg).1;rcases e4 with⟨e4,_⟩|⟨_,e4⟩
    ·rw[g2]at e4;cases e4
    ·obtain⟨C,fz,T',rows,lg,f1,f2,f3,f4,f5,f6,f7,f8,f9⟩:=e4;have:wd2=wd:=by omega
     subst this;obtain⟨rfl,f10⟩:=f9 rfl;exact⟨ρ,St.refl h,.refl _,.refl,⟨false,rows,f2,.inr ⟨rfl,b,_,l,l.cap,C,fz,rfl,h4,hg,rfl,g1,g2,by rw[f3],f1,by omega,f5,f10,fun R hR=>⟨f6,fun r row j u v q1 q2 q3=>(f8 r row j u v q1 q2 q3).mono (hR g (.head _) lg f7)⟩⟩⟩⟩
  ·cases ho
 ·rename_i b n c0;split at ho
  ·rename_i cs T0 ro0 ts hg hts;obtain⟨hq,ho1⟩:=A2 ho;obtain⟨hq1,hq2⟩:=B2 hq;have h1:=A0 hq1;clear ho;split at ho1
   ·rename_i xs gs2 m1 hd;split at ho1
    ·rename_i cs1 T hg1;obtain⟨hq3,ho2⟩:=A2 ho1;clear ho1;obtain⟨hq3,h4⟩:=B2 hq3;have h3:=A0 hq3;have h4:=A1 h4;subst h3;rw[O7]at ho2;simp only[hole]at ho2;cases ho2;have hf1:J6 ρ m.n m1.hi:=by simpa using hf
     have hS1:Sat m1.lg:=R9.le hS W3;obtain⟨l,cap,hl,hcap,hcn,hx2⟩:∃ l cap,ρ b=some l∧n≤cap∧(cap=n∨cap=l.cap)∧x'=.slice (some ⟨l.blk,0+l.sh,none⟩) n cap:=by
      rcases(I1 _ _).mp hq2 with hc|hc
      ·obtain⟨hc1,hc2⟩:=B2 hc;have hc1:=A0 hc1;have hc2:c0<M0:=A1 hc2;rcases P6 hx with⟨l,hl,_,hlt,rfl⟩|⟨l,c',hl,_,hge,hnc,hcc,rfl⟩|⟨a',c',_,_,hc,_⟩
       ·exact⟨l,c0,hl,by omega,.inl hc1,rfl⟩
       ·omega
       ·omega
      ·have hc:=A0 hc;rcases P6 hx with⟨l,hl,_,hlt,rfl⟩|⟨l,c',hl,_,hge,hnc,hcc,rfl⟩|⟨a',c',_,_,hc2,_⟩
       ·omega
       ·exact⟨l,c',hl,hnc,.inr (hcc hc rfl),rfl⟩
       ·omega
     obtain⟨⟨hon,C,fz,T1,f1,f2,_⟩,_⟩:=h.atl hl hg;obtain⟨cs',f4,f5⟩:=A1K (ρ:=ρ) (C:=C) (cs:=cs) (s:=l.sh) f2;obtain⟨ρ1,e1,e2,e3,e4,e5,e6⟩:=A21 htd h hd hf1 f4 hS1;obtain⟨⟨_,C1,fz1,T2,g1,g2,g3⟩,_⟩:=e1.hr.atl (e1.ext _ _ hl) hg1;rw[f1]at g1;cases g1;obtain⟨rfl,g4,g5⟩:=g3 rfl;have hts2:=A22 hts;rw[hsz]at hts2;have hlt:ts.length=wd:=(A4 hts2).symm;have hul:(xs.map (D2 Ora.env)).length=n*wd:=by
      have:=congrArg List.length e5;rw[F5,A82,hlt]at this;exact this
     obtain⟨rows,hch⟩:=A5X (wd:=wd) n (xs.map (D2 Ora.env)) hul;obtain⟨q1,q2,q3,q4⟩:=A43 hch;obtain⟨d1,d2,_⟩:=A3c hS (.refl _);have hc:Ora.env m1.lg.nx=.seq false wd rows:=by
      rw[d1];show(if wd=0 then U.none else match l8 wd ((xs.map (D2 Ora.env)).length / wd) (xs.map (D2 Ora.env))with|some r=>.seq false wd r|none=>.none)=_;rw[if_neg (by omega),hul,t7 _ hwd,hch]
     have hcl:cs'.length=n*wd:=by rw[← f4.1];exact h1
     obtain⟨inf,hinf,hisz⟩:∃ inf,P.info? T1=some inf∧inf.size=wd:=by
      unfold F7 at hsz;cases hi:P.info? T1 with
      | none=>rw[hi]at hsz;cases hsz
      | some inf=>rw[hi]at hsz;exact⟨inf,rfl,A4 hsz⟩
     have hroom:l.sh+cap*wd≤C.size:=by
      rcases hcn with rfl|rfl
      ·rcases T8 (cap*wd)with h0|h0
       ·rw[h0]
        have:=g5 inf hinf;rw[hisz]at this;omega
       ·have hlast:cap*wd-1<cs'.length:=by omega
        have:=f5 (cap*wd-1) cs'[cap*wd-1] (A3 hlast)
        have:=(C6.1 this).1;omega
      ·have:=g5 inf hinf;rw[hisz]at this;exact this.1
     have hst:=St.wLg e1.hr (A1y m1 (10+wd) (.mk wd) xs);refine⟨ρ1,St.trans (by simpa using hf) e1 hst,e2.trans W3,fun j lj hj hjg=>by rw[A48];exact e3 j lj hj hjg,⟨false,rows,hc,.inr ⟨rfl,b,_,l,cap,C,fz,rfl,h4,by rw[A48];exact hg1,rfl,e1.ext _ _ hl,hon,by rw[hx2,q1,E4],f1,by omega,hroom,g4,fun R hR=>?_⟩⟩⟩;obtain⟨r1,r2⟩:=A5B (e6 R hR) hch;refine⟨r1,fun r row j u v a1 a2 a3=>r2 r row j u v a1 a2 ?_⟩;have hq:r*wd+j<cs'.length:=by
      have hr1:=(A9.1 a1).1;have hj1:=(A9.1 a2).1;rw[r1 _ (D3 a1)]at hj1;have h2:(r+1)*wd≤rows.length*wd:=E6 wd hr1;rw[G3]at h2;rw[hcl,← q1];omega
     have:=f5 (r*wd+j) cs'[r*wd+j] (A3 hq);rw[show l.sh+r*wd+j=l.sh+(r*wd+j) by omega,this]at a3;have a3:=A4 a3;show(Array.mk cs')[0+r*wd+j]? = some v;rw[I7,show 0+r*wd+j=r*wd+j by omega,A3 hq,a3]
    ·cases ho1
   ·cases ho1
  ·cases ho
 ·cases ho
end
end Go.Sx
