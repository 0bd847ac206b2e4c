/- The law PickFound: for every input the call returns true, and the arguments read behind it as they read before. No condition. -/
import Derived.Test.YtdkdbjgkedahfaaDoorX3
import Derived.Lib.Builder
import Derived.LoopNIn
import Derived.RangeFuncRecord
namespace Go.Sx
set_option linter.all false
open Go
set_option linter.unusedVariables false
set_option linter.unusedSimpArgs false
variable [Ora]
section
variable {P:Program} {base:Nat} {ρ ρ':Ren} {m m':Mem} {w w':World}
theorem B5z{i t:Nat}{v:Value}{nul:Bool}{wd:Nat}{rows:List (List U)}(h:Z6 m 8 .nilp [hole i t]=some (v,m'))(hi:Ora.env i=.seq nul wd rows)(hS:Sat m'.lg):VR ρ v (.bool nul)∧J9 m m'∧m.lg.le m'.lg:=by
 obtain⟨u,e1,e2,r,e3,e4,e5⟩:=N0 h hS;have harg:[hole i t].map (F8 Ora.env)=[.seq nul wd rows]:=by
  show[Ora.env i]=_;rw[hi]
 rw[harg]at e1;have e1:U.bool nul=u:=e1;subst e1;cases e3;exact⟨e4 ρ,I7 h,J5 h⟩
theorem B0N{op:BinOp}{t e:TypeId}{x y:Operand}{a:Option Addr}{n c:Nat}{nul:Bool}(hu:P.underlying t=some (.slice e))(hn:(a=none∧n=0∧c=0∧nul=true)∨(nul=false∧∃ q:Addr,a=some q∧n≤c))(hop:op=.eql∨op=.neq)(w:World) :
  (do eqGuard op t x y (.slice a n c) (.slice none 0 0);binOp op t (.slice a n c) (.slice none 0 0):Sem Value).run P w=.ok (.bool (if op=.eql then nul else !nul)) w:=by
 have key:∀ {ρ:Ren} {am:Value},VR ρ am (.slice a n c)→A4O P t x y am (.slice none 0 0)=true→A6s P .eql t am (.slice none 0 0)=some (.bool nul)→A6s P .neq t am (.slice none 0 0)=some (.bool !nul) →
   (do eqGuard op t x y (.slice a n c) (.slice none 0 0);binOp op t (.slice a n c) (.slice none 0 0):Sem Value).run P w=.ok (.bool (if op=.eql then nul else !nul)) w:=fun{ρ am} hv hg h1 h2=>by
  have hv0:VR ρ (.slice none 0 0) (.slice none 0 0):=.pure rfl;have hq:=A6f (op:=op) (fun _=>hg) hv hv0 w;rcases hop with rfl|rfl
  ·obtain⟨g1,_⟩:=A8M h1 hv hv0 w;simp[Sem.run_bind,hq,g1,Result.andThen]
  ·obtain⟨g1,_⟩:=A8M h2 hv hv0 w;simp[Sem.run_bind,hq,g1,Result.andThen]
 rcases hn with⟨rfl,rfl,rfl,rfl⟩|⟨rfl,q,rfl,hc⟩
 ·refine key (ρ:=fun _=>none) (am:=.slice none 0 0) (.pure rfl) rfl ?_ ?_
  ·simp[A6s,B0U,eqM,hu]
  ·simp[A6s,B0U,eqM,hu]
 ·obtain⟨d,hd⟩:∃ d,Op.maxDepth=d+1:=⟨Op.maxDepth-1,rfl⟩;have he:∀ w,(Op.equal t (.slice (some q) n c) (.slice none 0 0)).run P w=.ok false w:=fun w=>by
   rw[Op.equal,hd];simp[Op.equalIn,Sem.run_bind,D8 hu,Result.andThen]
  have hg:∀ o:BinOp,(eqGuard o t x y (.slice (some q) n c) (.slice none 0 0)).run P w=.ok () w:=fun o=>by
   unfold eqGuard;cases o<;>rfl
  rcases hop with rfl|rfl
  ·rw[Sem.run_bind,hg];show(do pure (.bool (← Op.equal t (.slice (some q) n c) (.slice none 0 0))):Sem Value).run P w=_;rw[Sem.run_bind,he];rfl
  ·rw[Sem.run_bind,hg];show(do pure (.bool (!(← Op.equal t (.slice (some q) n c) (.slice none 0 0)))):Sem Value).run P w=_;rw[Sem.run_bind,he];rfl
theorem C1q{op:BinOp}{t:TypeId}{x y:Operand}{a a' b b' v:Value}(ho:B9C P m op t x y a b=some (v,m'))(ha:VR ρ a a')(hb:VR ρ b b')(hS:Sat m'.lg) :
  (∃ r,(do eqGuard op t x y a' b';binOp op t a' b':Sem Value).run P w=.ok r w∧VR ρ v r)∧J9 m m'∧m.lg.le m'.lg:=by
 unfold B9C at ho;split at ho
 ·rename_i e k b0 i tg hu;obtain⟨hq,ho1⟩:=A5 ho;clear ho;obtain⟨hq,hk⟩:=B8 hq;obtain⟨hq,hcst⟩:=B8 hq;have hbn:b'=.slice none 0 0:=by
   unfold B9c at hq;split at hq
   ·exact Q3 hb
   ·cases hq
  subst hbn;obtain⟨nul,wd,rows,ad,n,c,e1,rfl,e2⟩:∃ nul wd rows ad n c,Ora.env i=.seq nul wd rows∧a'=.slice ad n c∧((ad=none∧n=0∧c=0∧nul=true)∨(nul=false∧∃ q:Addr,ad=some q∧n≤c)):=by
   have henc:∀ {l:Loc},Enc l.G (Ora.env i) a'→L4 (Ora.env i)=tg→10≤tg→∃ nul wd rows ad n c,Ora.env i=.seq nul wd rows∧a'=.slice ad n c∧((ad=none∧n=0∧c=0∧nul=true)∨(nul=false∧∃ q:Addr,ad=some q∧n≤c)):=fun h2 h3 h4=>by
    obtain⟨nul,wd,rows,e1,_⟩:=A2e h2 h3 h4;rw[e1]at h2;rcases A0M h2 with⟨rfl,rfl,rfl⟩|⟨rfl,q,c,rfl,hc⟩
    ·exact⟨_,_,_,_,_,_,e1,rfl,.inl ⟨rfl,rfl,rfl,rfl⟩⟩
    ·exact⟨_,_,_,_,_,_,e1,rfl,.inr ⟨rfl,q,rfl,hc⟩⟩
   rcases(I5 _ _).mp hk with hk|hk
   ·rcases(I5 _ _).mp hk with hk|hk
    ·have:=A2 hk;subst this;obtain⟨l,_,h2,h3,h4⟩:=A4y ha;exact henc h2 h3 h4
    ·have:=A2 hk;subst this;obtain⟨l,_,h2,h3,h4,_⟩:=A2Y ha;exact henc h2 h3 h4
   ·have:=A2 hk;subst this;rcases(A2X ha).1 with⟨l,wd,h1,h2,h3,rfl⟩|⟨l,wd,rows,h1,h2,h3,h4,h40,rfl⟩
    ·exact⟨_,_,_,_,_,_,h3,rfl,.inl ⟨rfl,rfl,rfl,rfl⟩⟩
    ·exact⟨_,_,_,_,_,_,h3,rfl,.inr ⟨rfl,_,rfl,h40⟩⟩
  split at ho1
  ·rename_i r hl;cases ho1;obtain⟨g1,g2,g3⟩:=B5z (ρ:=ρ) hl e1 hS;exact⟨⟨_,B0N hu e2 (.inl rfl) w,g1⟩,g2,g3⟩
  ·rename_i hh m1 hl;have hle:=J5 ho1;obtain⟨g1,g2,g3⟩:=B5z (ρ:=ρ) hl e1 (hS.le hle);obtain⟨u,f1,f2,r,f3,f4,f5⟩:=N0 ho1 hS;obtain⟨rfl,hm1⟩:=A4w hl;have hbv:F8 Ora.env (hole m.lg.nx 8)=.bool nul:=by
    obtain⟨q1,_⟩:=A01 g1 (by show(8:Nat)<10;omega);cases hq:F8 Ora.env (hole m.lg.nx 8)with
    | bool b=>rw[hq]at q1;cases q1;rfl
    | int k n=>rw[hq]at q1;cases q1
    | str s=>rw[hq]at q1;cases q1
    | none=>rw[hq]at q1;cases q1
    | seq _ _ _=>rw[hq]at q1;cases q1
   have f1:ev1 .not (F8 Ora.env (hole m.lg.nx 8))=u:=f1;rw[hbv]at f1;have f1:U.bool (!nul)=u:=f1;subst f1;cases f3;exact⟨⟨_,B0N hu e2 (.inr rfl) w,f4 ρ⟩,g2.trans (I7 ho1),g3.trans hle⟩
  ·cases ho1
 ·cases ho
theorem C51{fr:Fr}{g:Operand→Value}{o:Oper}{v:Value}(h:HR P base ρ m.H w)(hb:base≤w.heap.size)(ho:dsM P fr m o.op=some (v,m'))(hf:K4 ρ m.n m'.hi)(hg:FR ρ fr g o.op)(hS:Sat m'.lg):NOk P base ρ m w (execOp g o) v m':=by
 obtain⟨dst,op,ty,pos,af,gd⟩:=o;simp only at ho hg;have hx1:∀ {x},x ∈ op.operands.toList→VR ρ (ev fr x) (g x):=fun hx=>hg _ hx
 have fin:∀ {s:Sem Value},(∃ r,s.run P w=.ok r w∧VR ρ v r)→J9 m m'→NOk P base ρ m w (do pure (.value (← s))) v m':=fun{s} ⟨r,h1,h2⟩ ⟨lg,hl⟩=>by
  subst hl;exact NOk.of ⟨r,ρ,w,h1,h2,St.wLg h lg⟩
 unfold dsM at ho;split at ho
 ·rename_i t x y;exact NOk.of (B9H h hb ho hf (hx1 (x:=x) (by simp[Op.operands])) (hx1 (x:=y) (by simp[Op.operands])) hS).1
 ·rename_i t x;obtain⟨g1,g2,_⟩:=B9L (w:=w) h ho (hx1 (x:=x) (by simp[Op.operands])) hS;exact fin (s:=Instr.loadAt t (g x)) g1 g2
 ·rename_i t x y;obtain⟨g1,rfl,_⟩:=B66 h ho hf (hx1 (x:=x) (by simp[Op.operands])) (hx1 (x:=y) (by simp[Op.operands])) hS;exact NOk.ofU (s:=Instr.storeAt t (g x) (g y)) g1
 ·rename_i t x i;obtain⟨g1,g2,_⟩:=B3j (w:=w) ho (hx1 (x:=x) (by simp[Op.operands])) (hx1 (x:=i) (by simp[Op.operands])) hS;exact fin (s:=Instr.indexAt t (g x) (g i)) g1 g2
 ·rename_i s x i;obtain⟨g1,rfl⟩:=B3w (w:=w) ho (hx1 (x:=x) (by simp[Op.operands]));exact fin (s:=Instr.fieldAt s (g x) i) g1 (.refl _)
 ·rename_i t x lo hi mx;obtain⟨g1,_⟩:=B69 h ho hf (hx1 (x:=x) (by simp[Op.operands])) (A3b (g:=g) fun y hy=>hx1 (by simp[Op.operands]at hy ⊢;exact .inr (.inl hy))) (A3b (g:=g) fun y hy=>hx1 (by simp[Op.operands]at hy ⊢;exact .inr (.inr (.inl hy)))) (A3b (g:=g) fun y hy=>hx1 (by simp[Op.operands]at hy ⊢;exact .inr (.inr (.inr hy)))) hS;exact NOk.of (s:=Instr.sliceAt t (g x) (lo.map g) (hi.map g) (mx.map g)) g1
 ·rename_i s t x;exact NOk.of (C0A h hb ho hf (hx1 (x:=x) (by simp[Op.operands])) hS).1
 ·rename_i op t x y yt;obtain⟨g1,g2,_⟩:=C1q (w:=w) ho (hx1 (x:=x) (by simp[Op.operands])) (hx1 (x:=y) (by simp[Op.operands])) hS;exact fin (s:=do eqGuard op t x y (g x) (g y);binOp op t (g x) (g y)) g1 g2
 ·rename_i xs tys;have l1:=A2A (ρ:=ρ) (fr:=fr) (g:=g) (xs:=xs.toList) fun x hx=>hx1 (by show x ∈ (#[]++xs:Array Operand).toList;simpa using hx)
  split at ho
  ·rename_i x t rest he1 he2;rw[he1]at l1;obtain⟨x',r1,e3,q1,q2⟩:=l1.tail
   have:=q2.nil_inv;subst this;obtain⟨g1,g2,_⟩:=C12 (w:=w) (ty:=ty) (tys:=rest) ho q1 hS;obtain⟨ks,e2⟩:∃ ks,execOp g ⟨dst,.call ⟨.builtin .len,xs,tys⟩,ty,pos,af,gd⟩=builtin .len tys ty ks (xs.map g):=⟨#[],rfl⟩;have e1:xs.map g=⟨xs.toList.map g⟩:=by apply J1;simp
   have e4:tys=⟨t::rest⟩:=by rw[← he2]
   rw[e2,e1,e3,e4];exact fin (s:=Builtin.len_ ⟨t::rest⟩ ty #[x']) g1 g2
  ·cases ho
 ·rename_i xs tys;have l1:=A2A (ρ:=ρ) (fr:=fr) (g:=g) (xs:=xs.toList) fun x hx=>hx1 (by show x ∈ (#[]++xs:Array Operand).toList;simpa using hx)
  split at ho
  ·rename_i x y t t2 rest he1 he2;rw[he1]at l1;obtain⟨x',r1,e3,q1,q2⟩:=l1.tail;obtain⟨y',r2,e5,q3,q4⟩:=q2.tail
   have:=q4.nil_inv;subst this
   have:=B5R (ty:=ty) h hb ho hf q1 q3 hS;obtain⟨ks,e2⟩:∃ ks,execOp g ⟨dst,.call ⟨.builtin .append,xs,tys⟩,ty,pos,af,gd⟩=builtin .append tys ty ks (xs.map g):=⟨#[],rfl⟩;have e1:xs.map g=⟨xs.toList.map g⟩:=by apply J1;simp
   have e4:tys=⟨t::t2::rest⟩:=by rw[← he2]
   rw[e2,e1,e3,e5,e4];have e:Builtin.append_ ⟨t::t2::rest⟩ ty #[x',y']=Builtin.append_ #[t,t2] ty #[x',y']:=rfl;refine NOk.of (s:=Builtin.append_ ⟨t::t2::rest⟩ ty #[x',y']) ?_;rw[e];exact this
  ·cases ho
 ·cases ho
theorem A2a{wd o i t g:Nat}{z:Value}:∀ {ts:List Nat} {j:Nat} {m m':Mem} {r:List Value},Z9 wd o i t z g ts j m=some (r,m')→m.lg.le m'.lg
 | [],j,m,m',r,h=>by cases h;exact .refl _
 | tg::ts,j,m,m',r,h=>by
   unfold Z9 at h;cases ht:Nat.blt tg 10 with
   | true =>
     rw[ht]at h;simp only[cond_true]at h;split at h
     ·rename_i hl;split at h
      ·rename_i hr;cases h;exact(J5 hl).trans (A2a hr)
      ·cases h
     ·cases h
   | false =>
     rw[ht]at h;simp only[cond_false]at h;rw[B3Z]at h;split at h
     ·rename_i hr;cases h;exact m6.trans (A2a hr)
     ·cases h
theorem B1F{t:TypeId}{r:Option (List Value×Mem)}{v:Value}(h:A4Z P t r=some (v,m')):∃ vs,r=some (vs,m'):=by
 unfold A4Z at h;split at h
 ·cases h;exact⟨_,rfl⟩
 ·cases h;exact⟨_,rfl⟩
 ·cases h
theorem B9M{t:TypeId}{x v:Value}(ho:B3X P m t x=some (v,m')):m.lg.le m'.lg:=by
 unfold B3X at ho;split at ho
 ·obtain⟨_,ho⟩:=A5 ho;obtain⟨vs,h⟩:=B1F ho;exact A2a h
 ·split at ho
  ·obtain⟨_,ho⟩:=A5 ho;obtain⟨vs,h⟩:=B1F ho;exact A2a h
  ·cases ho
 ·cases ho
theorem B67{t:TypeId}{x y v:Value}(ho:A8X P m t x y=some (v,m')):m.lg.le m'.lg:=by
 unfold A8X at ho;split at ho
 ·cases hw0:A3X y with
  | true=>rw[hw0]at ho;cases ho
  | false =>
    rw[hw0]at ho;simp only[cond_false]at ho;split at ho
    ·rename_i hd;split at ho
     ·obtain⟨_,ho⟩:=A5 ho;split at ho
      ·rename_i hj;rw[S3]at ho;simp only[hole]at ho;obtain⟨hs,_⟩:=A4s ho;have md:=U6 X1 hd;have mj:=N4 hj;refine md.2.1.trans ?_;rw[(X6 hs).2,← mj.2.1];simp only[u7];exact⟨[_],rfl⟩
      ·cases ho
     ·cases ho
    ·cases ho
 ·cases ho
theorem C19{i t:Nat}{z k v:Value}(h:B3l m i t z k=some (v,m')):m.lg.le m'.lg:=by
 unfold B3l at h;cases hq:!(Nat.blt (G4 z) 8)with
 | true=>rw[hq]at h;cases h
 | false =>
   rw[hq]at h;simp only[cond_false]at h;split at h
   ·rename_i hl;split at h
    ·rename_i hb;cases h;exact(J5 hl).trans (A4Y hb)
    ·cases h
   ·cases h
theorem B3k{t:TypeId}{x z v:Value}(h:A4N P m t x z=some (v,m')):m.lg.le m'.lg:=by
 unfold A4N at h;split at h;all_goals first
  | (split at h
     ·obtain⟨_,h⟩:=A5 h;exact C19 h
     ·cases h;done)
  | (split at h
     ·obtain⟨_,h⟩:=A5 h;rw[E8]at h;cases h;exact .refl _
     ·cases h;done)
  | cases h
theorem B3x{s:TypeId}{x v:Value}{f:Nat}(h:A4R P m s x f=some (v,m')):m.lg.le m'.lg:=by
 unfold A4R at h;split at h;all_goals first
  | (split at h
     ·split at h
      ·obtain⟨_,h⟩:=A5 h;rw[E8]at h;cases h;exact .refl _
      ·cases h
     ·cases h;done)
  | cases h
theorem B2B{b i t:Nat}{cl:Bool}{lo hi mx:Option Value}{v:Value}(ho:B32 m b i t cl lo hi mx=some (v,m')):m.lg.le m'.lg:=by
 have go:∀ {m1:Mem} {l h:Value} {cc:Bool},A2g m1 b i t l h cc=some (v,m')→m1.lg.le m'.lg:=fun h=>by
  unfold A2g at h;obtain⟨_,h⟩:=A5 h;rw[S3]at h;simp only[D3,O5]at h;obtain⟨_,rfl⟩:=h;exact m6
 unfold B32 B31 at ho;split at ho
 ·exact go ho
 ·exact go (A5 ho).2
 ·split at ho
  ·rename_i hl;exact(A1k hl).2.trans (go ho)
  ·cases ho
 ·cases ho
theorem B6_{t:TypeId}{x v:Value}{lo hi mx:Option Value}(ho:A8Y P m t x lo hi mx=some (v,m')):m.lg.le m'.lg:=by
 unfold A8Y at ho;split at ho
 ·split at ho
  ·exact B2B (A5 ho).2
  ·cases ho
 ·split at ho
  ·exact B2B (A5 ho).2
  ·cases ho
 ·split at ho
  ·obtain⟨_,ho⟩:=A5 ho;split at ho
   ·rename_i hd;exact(A2x hd).2.1.trans (B2B ho)
   ·cases ho
  ·cases ho
 ·cases ho
theorem C0B{s t:TypeId}{x v:Value}(ho:B34 P m s t x=some (v,m')):m.lg.le m'.lg:=by
 unfold B34 at ho;split at ho
 ·split at ho
  ·split at ho
   ·exact J5 (A5 ho).2
   ·cases ho
  ·cases ho
 ·split at ho
  ·split at ho
   ·rename_i hd;rw[B3f]at ho;have h2:=J5 ho;exact(A2x hd).2.1.trans h2
   ·cases ho
  ·cases ho
 ·obtain⟨_,ho⟩:=A5 ho;split at ho
  ·split at ho
   ·split at ho
    ·rename_i hj;rw[S3]at ho;simp only[hole]at ho;have mj:=N4 hj;rw[(A0B ho).2.1,u7,← mj.2.1];exact⟨[_],rfl⟩
    ·cases ho
   ·cases ho
  ·cases ho
 ·cases ho
theorem C1r{op:BinOp}{t:TypeId}{x y:Operand}{a b v:Value}(ho:B9C P m op t x y a b=some (v,m')):m.lg.le m'.lg:=by
 unfold B9C at ho;split at ho
 ·obtain⟨_,ho1⟩:=A5 ho;clear ho;split at ho1
  ·rename_i hl;cases ho1;exact J5 hl
  ·rename_i hl;exact(J5 hl).trans (J5 ho1)
  ·cases ho1
 ·cases ho
theorem B9I{t:TypeId}{l c v:Value}(ho:B3S P m t l c=some (v,m')):m.lg.le m'.lg:=by
 unfold B3S at ho;split at ho
 ·obtain⟨_,ho⟩:=A5 ho;split at ho
  ·obtain⟨_,ho⟩:=A5 ho;split at ho
   ·obtain⟨_,ho⟩:=A5 ho;split at ho
    ·rename_i hj;rw[S3]at ho;simp only[hole]at ho;have mj:=N4 hj;rw[(A0B ho).2.1,u7,← mj.2.1];exact⟨[_],rfl⟩
    ·cases ho
   ·cases ho
  ·cases ho
 ·cases ho
theorem C52{fr:Fr}{o:Op}{v:Value}(ho:dsM P fr m o=some (v,m')):m.lg.le m'.lg:=by
 unfold dsM at ho;split at ho
 ·exact B9I ho
 ·exact B9M ho
 ·exact B67 ho
 ·exact B3k ho
 ·exact B3x ho
 ·exact B6_ ho
 ·exact C0B ho
 ·exact C1r ho
 ·split at ho
  ·unfold C13 at ho;split at ho
   ·exact(A1k ho).2
   ·exact(A1k ho).2
   ·exact(A1k ho).2
   ·cases ho
  ·cases ho
 ·split at ho
  ·exact(B2N ho).2.1
  ·cases ho
 ·cases ho
end
end Go.Sx
namespace Go.Sx
set_option linter.all false
open Go
set_option linter.unusedVariables false
set_option linter.unusedSimpArgs false
variable [Ora]
section
variable {P:Program} {base:Nat} {ρ:Ren} {m m':Mem} {w:World}
omit [Ora] in
theorem B4C{G:Nat→Option Obj}:∀ {us:List U} {s:List UInt8} {vs:List Value},A7N us=some s→n8 G us vs→∃ ns:List Int,vs=ns.map (Value.int .u8)∧s=ns.map fun n=>UInt8.ofNat n.toNat
 | [],s,vs,h,he=>by
   cases h;have:vs=[]:=G0.1 he.1.symm;subst this;exact⟨[],rfl,rfl⟩
 | u::us,s,vs,h,he=>by
   unfold A7N at h;split at h
   ·rename_i heq;cases heq
   ·rename_i n r heq;cases heq;split at h
    ·split at h
     ·rename_i l hl;cases h;cases vs with
      | nil=>have:=he.1;simp at this
      | cons v vr =>
        obtain⟨ns,e1,e2⟩:=B4C (vs:=vr) hl ⟨by have:=he.1;simpa using this,fun i a b h1 h2=>he.2 (i+1) a b (by simpa using h1) (by simpa using h2)⟩
        have:=A42 (he.2 0 _ v rfl rfl) rfl;subst this;exact⟨(Int.ofNat n)::ns,by rw[e1];rfl,by rw[e2];rfl⟩
     ·cases h
    ·cases h
   ·cases h
theorem B2w{t:TypeId}{n:Nat}(h:G7 P t=some n):∃ inf,P.info? t=some inf∧inf.size=n:=by
 unfold G7 at h;cases hi:P.info? t with
 | none=>rw[hi]at h;cases h
 | some inf=>rw[hi]at h;exact⟨inf,rfl,A8 h⟩
theorem B20(d:Nat)(t:TypeId):sameLayout P (d+1) t t=true:=by simp[sameLayout]
theorem B94:∃ d,P.depth=d+1:=⟨2*(P.types.size+Made.depth)+1,rfl⟩
theorem B46{T:TypeId}{n off:Nat}(hs:P.cellsOf T≠0)(hr:off%P.cellsOf T=0)(hn:off / P.cellsOf T+1≤n):liesAt P P.depth T n off T 1=true:=by
 obtain⟨d,hd⟩:=B94 (P:=P);have h1:rowAt P (sameLayout P P.depth · T) P.depth T n off 1=true:=by
  rw[hd];unfold rowAt;simp only[hs,if_false,hr,B20];simp[hn]
 rw[hd]at h1 ⊢;unfold liesAt;rw[hd,h1];rfl
theorem B98{s t:TypeId}{x x' v:Value}(h:HR P base ρ m.H w)(ho:B6e P m s t x=some (v,m'))(hx:VR ρ x x'):VOk P base ρ m w (convert s t x') v m':=by
 unfold B6e at ho;split at ho
 ·rename_i e b o hs ht;obtain⟨l,hl,_,rfl⟩:=Q0 hx;split at ho
  ·rename_i k cs T ro hsz hg;obtain⟨hlt,ho⟩:=A5 ho;have hlt:o<cs.length:=A1 hlt;cases ho;obtain⟨inf,hinf,hk⟩:=B2w hsz;obtain⟨⟨hon,C,fz,T',h1,h2,_⟩,_⟩:=h.atl hl hg;obtain⟨v',h3,_⟩:=h2 o cs[o] (A6 hlt);have hlt2:l.sh+o<C.size:=(D7.1 h3).1;exact VOk.same h (Lib.run_to_unsafe w ⟨l.blk,o+l.sh,none⟩ hs ht hinf (by omega) (show w.shape? l.blk=some (T',C.size) by simp[World.shape?,h1]) (by show o+l.sh<C.size;omega)) hx
  ·cases ho
 ·rename_i u b hs ht;obtain⟨l,hl,_,rfl⟩:=Q0 hx;split at ho
  ·rename_i k cs T hsz hg;obtain⟨hq,ho1⟩:=A5 ho;clear ho;obtain⟨q1,q2⟩:=B8 hq;have q1:=A2 q1;have q2:=A2 q2;clear hq;subst q1;cases ho1;obtain⟨inf,hinf,hk⟩:=B2w hsz;obtain⟨⟨hon,C,fz,T',h1,h2,h3⟩,_⟩:=h.atl hl hg;obtain⟨rfl,_,h4⟩:=h3 rfl;obtain⟨_,h5⟩:=h4 inf hinf;have hc:P.cellsOf T'=k+1:=by unfold Program.cellsOf;rw[hinf];exact hk
   have hlast:k<cs.length:=by omega
   obtain⟨v',h6,_⟩:=h2 k cs[k] (A6 hlast);have hlt2:l.sh+k<C.size:=(D7.1 h6).1;refine VOk.same h (Lib.run_from_unsafe w ⟨l.blk,0+l.sh,none⟩ hs ht hinf (show w.shape? l.blk=some (T',C.size) by simp[World.shape?,h1]) ?_) hx;show liesAt P P.depth T' (C.size / P.cellsOf T') (0+l.sh) T' 1=true;rw[F0];refine B46 (by omega) (by rw[hc];rw[hk]at h5;exact h5) ?_;rw[hc];have h5:l.sh%(k+1)=0:=by rw[hk]at h5;exact h5
   have e1:l.sh=(k+1)*(l.sh / (k+1)):=by have:=Nat.div_add_mod l.sh (k+1);omega
   refine(Nat.le_div_iff_mul_le (by omega)).2 ?_;rw[H1,A2i,A0g];omega
  ·cases ho
 ·cases ho
theorem B8z{op:BinOp}{t:TypeId}{x y:Operand}{a a' b b' v:Value}(h:HR P base ρ m.H w)(ho:B5q P m op t a b=some (v,m'))(ha:VR ρ a a')(hb:VR ρ b b'):VOk P base ρ m w (do eqGuard op t x y a' b';binOp op t a' b') v m':=by
 unfold B5q at ho;split at ho
 ·rename_i e b1 o1 b2 o2 hu;obtain⟨hq,ho1⟩:=A5 ho;clear ho;obtain⟨q1,q2⟩:=B8 hq;have q1:=A2 q1;have q2:=A2 q2;clear hq;subst q1;subst q2;obtain⟨l,hl,_,rfl⟩:=Q0 ha;obtain⟨l2,hl2,_,rfl⟩:=Q0 hb;rw[hl]at hl2
  have:=A8 hl2;subst this;have heq:∀ j,P.info? e=some j→∀ d:Nat,(Op.equalIn (d+1) t (.pointer (some ⟨l.blk,o1+l.sh,none⟩)) (.pointer (some ⟨l.blk,o1+l.sh,none⟩))).run P w=.ok true w:=fun j hj d=>by
   simp[Op.equalIn,run_underlying hu,sizeOf,typeInfo,hj,run_sameAddr_same]
  have hgd:(eqGuard op t x y (.pointer (some ⟨l.blk,o1+l.sh,none⟩)) (.pointer (some ⟨l.blk,o1+l.sh,none⟩))).run P w=.ok () w:=by
   unfold eqGuard;split<;>simp
  split at ho1
  ·rename_i j hj;cases ho1;refine VOk.same h (v':=.bool true) ?_ (.pure rfl);rw[Sem.run_bind,hgd];simp[Result.andThen,binOp,Op.equal,Op.maxDepth,heq j hj 9999]
  ·rename_i j hj;cases ho1;refine VOk.same h (v':=.bool false) ?_ (.pure rfl);rw[Sem.run_bind,hgd];simp[Result.andThen,binOp,Op.equal,Op.maxDepth,heq j hj 9999]
  ·cases ho1
 ·cases ho
theorem St.laid{o:Obj}(h:HR P base ρ m.H w):St P base ρ ρ m m w { w with heap:=w.heap.push o } :=
 have hk:∀ k,k<w.heap.size→(w.heap.push o)[k]? = w.heap[k]? := fun k hk=>by rw[w9,if_neg (by omega)]
 ⟨fun _ _ h=>h,fun b l h1 h2=>(by rw[h1]at h2;cases h2),A7 _,A7 _,fun h=>h,
  ⟨h.dom,fun id hid ab hab=>by
    obtain⟨l,h1,h2,h3⟩:=h.at_ id hid ab hab;exact⟨l,h1,h2.mono (fun _ _ h=>h) (fun k hk2=>hk k (h2.tc hk2)),h3⟩⟩,
  fun _ h=>h,fun b h1 h2=>absurd h1 h2,fun k hk2 _=>hk k hk2,by simp,⟨rfl,rfl,rfl⟩,fun b l h1 h2=>(by rw[h1]at h2;cases h2),fun _ _ _ _=>rfl,fun _ h=>.inr h⟩
theorem C5L{ty:TypeId}{tys:Array TypeId}{x x' v:Value}(h:HR P base ρ m.H w)(ho:sdM P m ty x=some (v,m'))(hx:VR ρ x x'):VOk P base ρ m w (Builtin.unsafeSliceData_ tys ty #[x']) v m':=by
 unfold sdM at ho;split at ho
 ·rename_i e he;split at ho
  ·rename_i b i t;split at ho
   ·rename_i c tc T g ro hg;cases ho;have hx:VR ρ (own b i t) x':=hx;rcases(A2X hx).1 with⟨l,wd,h1,h2,h3,rfl⟩|⟨l,wd,rows,h1,h2,h3,h4,h5,rfl⟩
    ·exact VOk.same h rfl (.sdt ⟨l,h1,.inl ⟨h2,rfl⟩⟩)
    ·have hdef:Builtin.unsafeSliceData_ tys ty #[.slice (some ⟨l.blk,l.sh,none⟩) l.len l.cap]=(do
       if l.cap≠0 then pure (.pointer (some ⟨l.blk,l.sh,none⟩))
       else if(← viewAt l.blk).isSome then pure (.pointer (some ⟨l.blk,l.sh,none⟩))
       else pure (.pointer (some ⟨← newObj (.view ⟨l.blk,l.sh,none⟩ (← elemOf ty)),0,none⟩))):=rfl
     rw[hdef];by_cases hc:l.cap=0
     ·rw[if_neg (by simpa using hc)];obtain⟨wd2,inf,_,_,_,k4⟩:=SqR.ex (h.atl h1 hg).1;rcases k4 with⟨k5,_⟩|⟨_,k5⟩
      ·rw[h2]at k5;cases k5
      ·obtain⟨C,fz,T',rows2,lg,j1,_⟩:=k5;have hsh:w.shape? l.blk=some (T',C.size):=by simp[World.shape?,j1]
       refine⟨.pointer (some ⟨w.heap.size,0,none⟩),ρ,{ w with heap:=w.heap.push (.view ⟨l.blk,l.sh,none⟩ e) },?_,.sdt ⟨l,h1,.inr ⟨h2,_,rfl,fun h=>absurd hc h⟩⟩,St.laid h⟩;simp[viewAt,hsh,elemOf,D8 he,newObj,Sem.run,Sem.run_bind,Result.andThen]
     ·rw[if_pos hc];exact VOk.same h rfl (.sdt ⟨l,h1,.inr ⟨h2,_,rfl,fun _=>rfl⟩⟩)
   ·cases ho
  ·cases ho
 ·cases ho
theorem C5F{pt ty:TypeId}{tys:List TypeId}{p l p' l' v:Value}(h:HR P base ρ m.H w)(ho:usM P m pt p l=some (v,m'))(hp:VR ρ p p')(hl:VR ρ l l')(hS:Sat m'.lg)(hf:K4 ρ m.n m'.hi) :
  VOk P base ρ m w (Builtin.unsafeString_ ⟨pt::tys⟩ ty #[p',l']) v m':=by
 have hmax:IntKind.i64.max=9223372036854775807:=rfl;unfold usM at ho;split at ho
 ·rename_i b;obtain⟨htl,ho⟩:=A5 ho;have htl:G4 l<8:=A1 htl;obtain⟨k,n0,rfl,hn1,_⟩:=O0 hl htl;split at ho
  ·rename_i c tc T g e hg hpt;obtain⟨hq,ho1⟩:=A5 ho;clear ho;obtain⟨q1,q2⟩:=B8 hq;have q1:=A2 q1;have q2:=A2 q2;clear hq;subst q1;subst q2;split at ho1
   ·rename_i u m1 hsz hlet;split at ho1
    ·rename_i m2 A3x;cases ho1;have hlg:=A7_ A3x;have hS1:Sat m1.lg:=by rw[← hlg];exact hS
     obtain⟨u0,e1,e2,r,e3,e4,e5⟩:=N0 hlet hS1;obtain⟨lg,rfl⟩:=I7 hlet;obtain⟨l0,hl0,hv⟩:=C17 (show VR ρ (sdt b) p' from hp);have hst:=St.wLg h lg;obtain⟨wd,inf,k1,k2,k3,k4⟩:=SqR.ex (h.atl hl0 hg).1;have hwd:wd=1:=by omega
     subst hwd;have hev:evU .ustr [Ora.env c,.int k n0]=u0:=by
      have:F8 Ora.env (hole c 11)=Ora.env c:=rfl;rw[← this,← hn1];exact e1
     have hsb:∀ nul rows,Ora.env c=.seq nul 1 rows→∃ (n:Nat) (sb:List UInt8),n0=(n:Int)∧n≤rows.length∧n≤1000000000∧A75 (rows.take n)=some sb∧u0=.str sb:=fun nul rows hc=>by
      rw[hc]at hev;cases n0 with
      | negSucc z=>have:u0=.none:=hev.symm;subst this;cases e3
      | ofNat n =>
        have hev:(if 1=1∧n≤rows.length∧n≤A7O then match A75 (rows.take n)with
         | some s=>U.str s
         | none=>.none else .none)=u0:=hev
        split at hev
        ·rename_i hc2;split at hev
         ·rename_i sb hsb;exact⟨n,sb,rfl,hc2.2.1,hc2.2.2,hsb,hev.symm⟩
         ·subst hev;cases e3
        ·subst hev;cases e3
     have hcell:P.cellsOf e=1:=by unfold Program.cellsOf;rw[k2];exact k3
     have hsame:∀ {ρ:Ren} {w:World} {lx:Loc},BR P ρ (.sq c 11 e g false) lx w→BR P ρ (.sq c 11 e g true) lx w:=fun hb=>by
      obtain⟨wd,inf,k1,k2,k3,k4⟩:=SqR.ex hb;refine⟨⟨wd,inf,k1,k2,k3,k4.imp (fun x=>x) fun⟨a,C,fz,T',rows,lg,b1,b2,b3,b4,b5,b6,b7,b8,_⟩=>⟨a,C,fz,T',rows,lg,b1,b2,b3,b4,b5,b6,b7,b8,fun hh=>by cases hh⟩⟩⟩
     have hg':Hp.get (m.wLg lg).H b=some (.sq c 11 e g false):=by rw[A5_];exact hg
     have hsts:St P base ρ ρ m m' w w:=St.trans hf hst (St.same0 hst.hr A3x hg' rfl hl0 (hsame (hst.hr.atl hl0 hg').1) fun q hq=>hq.imp (fun⟨_,b⟩=>⟨rfl,b⟩) fun⟨hh,_⟩=>by cases hh);rcases hv with⟨hoff,rfl⟩|⟨hon,a,rfl,ha⟩
     ·rcases k4 with⟨_,k5⟩|⟨k5,_⟩
      ·obtain⟨n,sb,rfl,j1,_,j2,rfl⟩:=hsb _ _ k5;have hn:n=0:=by simpa using j1
       subst hn;cases j2;cases e3;refine⟨.string ByteArray.empty,ρ,w,?_,e4 ρ,hsts⟩;have hdef:Builtin.unsafeString_ ⟨pt::tys⟩ ty #[.pointer none,.int k ((0:Nat):Int)] =
         (do
           let n ← asInt (.int k ((0:Nat):Int))
           if n<0 then runtimePanic (.error "unsafe.String: len out of range")
           if n>IntKind.i64.max then unsupported (.unsafePointer "String: a length above the largest int")
           if n=0 then pure (.string .empty)
           else runtimePanic (.error "unsafe.String: ptr is nil and len is not zero")):=rfl
       rw[hdef];simp[asInt,asIntOf,hmax]
      ·rw[hoff]at k5;cases k5
     ·rcases k4 with⟨k5,_⟩|⟨_,k5⟩
      ·rw[hon]at k5;cases k5
      obtain⟨C,fz,T',rows,lg2,z1,z2,z3,z4,z5,z6,z7,z8,z9⟩:=k5;obtain⟨rfl,z10⟩:=z9 rfl;obtain⟨n,sb,rfl,j1,j0,j2,rfl⟩:=hsb _ _ z2;cases e3;have hdef:Builtin.unsafeString_ ⟨pt::tys⟩ ty #[.pointer (some a),.int k (n:Int)] =
       (do
         let n ← asInt (.int k (n:Int))
         if n<0 then runtimePanic (.error "unsafe.String: len out of range")
         if n>IntKind.i64.max then unsupported (.unsafePointer "String: a length above the largest int")
         if n=0 then pure (.string .empty)
         else if ← variablesAt a (← elemOf pt) n.toNat then do
          let s ← loadBytes a .empty n.toNat
          freeze a n.toNat
          pure (.string s)
         else unsupported (.unsafePointer "String: not so many bytes at ptr")):=rfl
      have hneg:¬ (n:Int)<0:=by omega
      have hbig:¬ (9223372036854775807:Int)<(n:Int):=by omega
      by_cases hz2:n=0
      ·subst hz2;cases j2;refine⟨.string ByteArray.empty,ρ,w,?_,e4 ρ,hsts⟩;rw[hdef];simp[asInt,asIntOf,hmax]
      ·have hz:¬ (n:Int)=0:=by omega
       have hcap:l0.cap≠0:=by omega
       have ha:=ha hcap;subst ha;obtain⟨y1,y2,y3⟩:=B2J j2;have hlen:(rows.take n).length=n:=by simp;omega
       have hin:l0.sh+n≤C.size:=by omega
       obtain⟨ns,r1,r2⟩:∃ ns:List Int,(C.toList.drop l0.sh).take n=ns.map (Value.int .u8)∧sb=ns.map fun n=>UInt8.ofNat n.toNat:=by
        refine B4C (G:=lg2.G) y1 ⟨by rw[y2,hlen];simp;omega,fun i u v b1 b2=>?_⟩;have hil:i<n:=by have:=(A9.1 b1).1;rw[y2,hlen]at this;exact this
        have hir:i<rows.length:=by omega
        have hrow:rows[i]? = some rows[i]:=A6 hir;have hrow2:(rows.take n)[i]? = some rows[i]:=by rw[F5 hil];exact hrow
        have hrl:rows[i].length=1:=z6 _ (Q5 hir);have h0:rows[i][0]? = some (rows[i][0]'(by omega)):=A6 (by omega);obtain⟨_,k4⟩:=y3 i _ 0 _ hrow2 h0;rw[b1]at k4;have k4:=A8 k4;rw[k4];have hc:C[l0.sh+i*1+0]? = some v:=by
         rw[F5 hil,H9]at b2
         simpa using b2
        exact z8 i _ 0 _ v hrow h0 hc
       have hnl:ns.length=n:=by
        have:=congrArg List.length r1;simp at this;omega
       have hcells:∀ (j:Nat) (v:Value),(ns.map (Value.int .u8))[j]? = some v→w.cell? ⟨l0.blk,l0.sh+j,none⟩=some v:=fun j v hj=>by
        rw[← r1]at hj;have hjn:j<n:=by have:=(A9.1 hj).1;simp at this;omega
        rw[F5 hjn,H9]at hj;simp only[World.cell?,z1]
        simpa using hj
       have hlb:=A1x (P:=P) (w:=w) ns l0.blk l0.sh .empty hcells;rw[hnl]at hlb;have hsh:w.shape? l0.blk=some (T',C.size):=by simp[World.shape?,z1]
       have hlies:=A83 (P:=P) hcell (C.size / P.cellsOf T') l0.sh n (by rw[hcell];simpa using hin);have st2:St P base ρ ρ (m.wLg lg) m' w (w.freeze ⟨l0.blk,l0.sh,none⟩ n):=by
        refine St.write hst.hr A3x hg' rfl hl0 hon ?_ ?_ ?_ ?_
        ·simp[World.freeze,hz2]
        ·simp[World.freeze,hz2]
        ·intro j hj;simp only[World.freeze,hz2,if_false,J4];rw[if_neg (fun e=>hj e.symm)]
        ·refine⟨⟨1,inf,rfl,k2,k3,.inr ⟨hon,C,(if fz.1 == fz.2 then(l0.sh,l0.sh+n)else(min fz.1 l0.sh,max fz.2 (l0.sh+n))),T',rows,lg2,?_,z2,z3,z4,z5,z6,z7,z8,fun hc=>by cases hc⟩⟩⟩;simp only[World.freeze,hz2,if_false,J4,if_true,z1,P5]
       refine⟨.string ⟨⟨sb⟩⟩,ρ,w.freeze ⟨l0.blk,l0.sh,none⟩ n,?_,e4 ρ,St.trans hf hst st2⟩;rw[hdef];simp[asInt,asIntOf,hmax,hneg,hbig,hz,hz2,variablesAt,hsh,elemOf,D8 hpt,hlies,hlb,freeze,Sem.run,Sem.run_bind,Result.andThen,r2]
    ·cases ho1
   ·cases ho1
  ·cases ho
 ·cases ho
theorem C49{fr:Fr}{g:Operand→Value}{o:Oper}{v:Value}(h:HR P base ρ m.H w)(hb:base≤w.heap.size)(ho:xtM P fr m o=some (v,m'))(hf:K4 ρ m.n m'.hi)(hg:FR ρ fr g o.op)(hS:Sat m'.lg):NOk P base ρ m w (execOp g o) v m':=by
 obtain⟨dst,op,ty,pos,af,gd⟩:=o;unfold xtM at ho;simp only at ho hg;have hx1:∀ {x},x ∈ op.operands.toList→VR ρ (ev fr x) (g x):=fun hx=>hg _ hx
 split at ho
 ·rename_i s t x;exact NOk.of (B98 h ho (hx1 (x:=x) (by simp[Op.operands])))
 ·rename_i op t x y yt;exact NOk.of (B8z h ho (hx1 (x:=x) (by simp[Op.operands])) (hx1 (x:=y) (by simp[Op.operands])))
 ·rename_i xs tys;have l1:=A2A (ρ:=ρ) (fr:=fr) (g:=g) (xs:=xs.toList) fun y hy=>hg y (by show y ∈ (#[]++xs:Array Operand).toList;simpa using hy)
  split at ho
  ·rename_i x hx;rw[hx]at l1;obtain⟨x',r1,e1,g1,g2⟩:=l1.tail;cases g2.nil_inv;have e2:xs.map g=#[x']:=by apply J1;simpa using e1
   have:=C5L (tys:=tys) h ho g1;have hn:=NOk.of this;obtain⟨ks,e3⟩:∃ ks,execOp g ⟨dst,.call ⟨.builtin .unsafeSliceData,xs,tys⟩,ty,pos,af,gd⟩=builtin .unsafeSliceData tys ty ks (xs.map g):=⟨#[],rfl⟩;rw[e3,e2];exact hn
  ·cases ho
 ·rename_i xs tys;have l1:=A2A (ρ:=ρ) (fr:=fr) (g:=g) (xs:=xs.toList) fun y hy=>hg y (by show y ∈ (#[]++xs:Array Operand).toList;simpa using hy)
  split at ho
  ·rename_i p l t rest hx ht;rw[hx]at l1;obtain⟨x',r1,e1,g1,g2⟩:=l1.tail;obtain⟨y',r2,rfl,g3,g4⟩:=g2.tail;cases g4.nil_inv;have e2:xs.map g=#[x',y']:=by apply J1;simpa using e1
   have hn:=NOk.of (C5F (ty:=ty) (tys:=rest) h ho g1 g3 hS hf);obtain⟨ks,e3⟩:∃ ks,execOp g ⟨dst,.call ⟨.builtin .unsafeString,xs,tys⟩,ty,pos,af,gd⟩=builtin .unsafeString tys ty ks (xs.map g):=⟨#[],rfl⟩;have e4:tys=⟨t::rest⟩:=by rw[← ht]
   rw[e3,e2,e4];exact hn
  ·cases ho
 ·cases ho
theorem C4_{fr:Fr}{o:Oper}{v:Value}(ho:xtM P fr m o=some (v,m')):m.lg.le m'.lg:=by
 unfold xtM at ho;split at ho
 ·unfold B6e at ho;split at ho
  ·split at ho
   ·obtain⟨_,ho⟩:=A5 ho;cases ho;exact .refl _
   ·cases ho
  ·split at ho
   ·obtain⟨_,ho⟩:=A5 ho;cases ho;exact .refl _
   ·cases ho
  ·cases ho
 ·unfold B5q at ho;split at ho
  ·obtain⟨_,ho⟩:=A5 ho;split at ho
   ·cases ho;exact .refl _
   ·cases ho;exact .refl _
   ·cases ho
  ·cases ho
 ·split at ho
  ·unfold sdM at ho;split at ho
   ·split at ho
    ·split at ho
     ·cases ho;exact .refl _
     ·cases ho
    ·cases ho
   ·cases ho
  ·cases ho
 ·split at ho
  ·unfold usM at ho;split at ho
   ·obtain⟨_,ho⟩:=A5 ho;split at ho
    ·obtain⟨_,ho⟩:=A5 ho;split at ho
     ·rename_i hl;split at ho
      ·rename_i hs;cases ho;rw[A7_ hs];exact J5 hl
      ·cases ho
     ·cases ho
    ·cases ho
   ·cases ho
  ·cases ho
 ·cases ho
end
end Go.Sx
namespace Go.Sx
set_option linter.all false
open Go
set_option linter.unusedVariables false
def fw(rd:Option Nat):Fence:={ Fence.wide with round:=rd }
theorem A6g{rd:Option Nat}{n:Nat}:(fw rd).depth.isSome=true→1≤n:=fun h=>by cases h
theorem A5x{rd:Option Nat}{n:Nat}{P:Program}{f:FuncId}{args:Array Value}{w:World}{R:Ending→World→Prop}:CallsIn (fw rd) n P f args w R↔Calls P f args w R :=
 ⟨fun h=>callsIn_wide.1 (show CallsIn Fence.wide n P f args w R from h),fun h=>show CallsIn (fw rd) n P f args w R from(callsIn_wide (n:=n)).2 h⟩
section
variable {P:Program} {rd:Option Nat}
def wpO(P:Program)(rd:Option Nat)(o:Oper)(a:Act)(w:World)(K:Act→World→Prop)(Q:Exit→Act→World→Prop):Prop:=o.wpIn (fw rd) 0 P a w K Q
theorem B2W{o:Oper}{a:Act}{w:World}{K K':Act→World→Prop}{Q:Exit→Act→World→Prop}(h:∀ a w,K a w→K' a w)(hh:wpO P rd o a w K Q):wpO P rd o a w K' Q:=by
 unfold wpO Oper.wpIn at *;refine⟨hh.1,?_⟩;have hh:=hh.2;generalize (o.semAt (fw rd).round a.eval).run P w=r at *;cases r with
 | ok n w' =>
   cases n<;>simp only[Oper.uponIn]at hh ⊢ <;>
    first
     | exact h _ _ hh
     | exact⟨hh.1,CallsIn.mono hh.2 (fun e w'' he=>by cases e<;>first|exact h _ _ he|exact he)⟩
     | exact⟨hh.1,RowsIn.mono hh.2 (fun _ _ he=>h _ _ he)⟩
     | exact⟨hh.1,RoundIn.mono hh.2 (fun e w'' he=>by cases e<;>first|exact h _ _ he|exact he)⟩
 | halt x w'=>cases x<;>simp only[Oper.uponIn]at hh ⊢<;>exact hh
def wpL(P:Program)(rd:Option Nat)(ops:Array Oper)(Q:Exit→Act→World→Prop):List Oper→Act→World→Prop
 | [],a,w=>Q .normal a w
 | o::rest,a,w=>if Region.wanted o (yielded ops a.tmps)then wpO P rd o a w (wpL P rd ops Q rest) Q else wpL P rd ops Q rest (a.put o.dst undef) w
theorem B2X{ops:Array Oper}{Q:Exit→Act→World→Prop}{a:Act}{w:World}{rest:List Oper}{o:Oper}
  (h:∀ K:Act→World→Prop,(∀ a w,wpL P rd ops Q rest a w→K a w)→if Region.wanted o (yielded ops a.tmps)then wpO P rd o a w K Q else K (a.put o.dst undef) w):wpL P rd ops Q (o::rest) a w:=h _ fun _ _ h=>h
theorem B5V{ops:Array Oper}{Q:Exit→Act→World→Prop}:∀ (l:List Oper) (k:Nat),(∀ j,l[j]? = ops[k+j]?)→∀ a w,wpL P rd ops Q l a w→wpOpsIn (fw rd) 0 P ops Q (List.range' k l.length) a w
 | [],k,_,a,w,h=>h
 | o::l,k,hk,a,w,h=>by
   have h0:ops[k]? = some o:=by simpa using(hk 0).symm
   have ih:=B5V (Q:=Q) l (k+1) (fun j=>by have:=hk (j+1);simpa [A05,A3j 1 j]using this);simp only[A3,List.range'_succ,wpOpsIn,h0];unfold wpL at h;split
   ·rename_i hw;rw[if_pos hw]at h;exact B2W ih h
   ·rename_i hw;rw[if_neg hw]at h;exact⟨fun _ _=>trivial,ih _ _ h⟩
theorem A7y{id:Nat}{ops:Array Oper}{Q:Exit→Act→World→Prop}{a:Act}{w:World}(h:wpL P rd ops Q ops.toList a w):(Code.region id ops false).wpIn (fw rd) 0 P Q a w :=
 wpIn_region (by
  have:=B5V ops.toList 0 (by simp) a w h;rw[List.range_eq_range',← T9];exact this)
def A2u(P:Program)(rd:Option Nat)(ops:Array Oper)(Q:Exit→Act→World→Prop)(i:Nat)(K:Act→World→Prop)(a:Act)(w:World):Prop :=
 match ops[i]? with
 | none=>K a w
 | some o=>if Region.wanted o (yielded ops a.tmps)then wpO P rd o a w K Q else K (a.put o.dst undef) w
theorem B4X{ops:Array Oper}{Q:Exit→Act→World→Prop}{i:Nat}{a:Act}{w:World}{K K':Act→World→Prop}(h:∀ a w,K a w→K' a w)(hh:A2u P rd ops Q i K a w):A2u P rd ops Q i K' a w:=by
 unfold A2u at *;split
 ·exact h _ _ (by simpa [*]using hh)
 ·rename_i o ho;simp only[ho]at hh;split
  ·rename_i hw;simp only[hw,if_true]at hh;exact B2W h hh
  ·rename_i hw;simp only[hw]at hh;exact h _ _ hh
theorem B1H{ops:Array Oper}{Q:Exit→Act→World→Prop}{i:Nat}{rest:List Nat}{a:Act}{w:World}(h:A2u P rd ops Q i (wpOpsIn (fw rd) 0 P ops Q rest) a w):wpOpsIn (fw rd) 0 P ops Q (i::rest) a w:=by
 unfold A2u at h;simp only[wpOpsIn];split at h
 ·rename_i hn;simp only[hn];exact h
 ·rename_i o ho;simp only[ho];split at h
  ·rename_i hw;rw[if_pos hw];exact h
  ·rename_i hw;rw[if_neg hw];exact⟨fun _ _=>trivial,h⟩
def A3E(P:Program)(rd:Option Nat)(md:Region.Mode)(ops:Array Oper)(Q:Exit→Act→World→Prop):Nat→Array Bool→Act→World→Prop
 | 0,listed,a,w=>Region.ready md ops listed=[]∧Q .normal a w
 | fuel+1,listed,a,w=>(Region.ready md ops listed=[]→Q .normal a w)∧∀ i ∈ Region.ready md ops listed,A2u P rd ops Q i (A3E P rd md ops Q fuel (listed.setIfInBounds i true)) a w
theorem B1I{md:Region.Mode}{ops:Array Oper}{Q:Exit→Act→World→Prop}:∀ (fuel t:Nat) (listed:Array Bool) (a:Act) (w:World),A3E P rd md ops Q fuel listed a w→wpOpsIn (fw rd) 0 P ops Q (Region.linearise.go md ops fuel t listed []) a w:=by
 intro fuel;induction fuel with
 | zero=>intro t listed a w h;simpa [Region.linearise.go,wpOpsIn]using h.2
 | succ fuel ih =>
   intro t listed a w h;obtain⟨h0,h1⟩:=h;simp only[Region.linearise.go];change wpOpsIn (fw rd) 0 P ops Q (match (Region.ready md ops listed)[t%(Region.ready md ops listed).length]? with
    | some i=>Region.linearise.go md ops fuel (t / (Region.ready md ops listed).length) (listed.setIfInBounds i true) [i]
    | none=>[].reverse) a w
   cases hi:(Region.ready md ops listed)[t%(Region.ready md ops listed).length]? with
   | none =>
     have hnil:Region.ready md ops listed=[]:=by
      cases hr:Region.ready md ops listed with
      | nil=>rfl
      | cons x xs =>
        rw[hr]at hi;have hlt:t%(x::xs).length<(x::xs).length:=A52 _ (by simp);simp at hi;simp at hlt;omega
     simpa [wpOpsIn]using h0 hnil
   | some i =>
     simp only[];rw[linearise_go_acc,List.reverse_singleton,List.singleton_append];exact B1H (B4X (fun a w=>ih _ _ a w) (h1 i (E1 hi)))
theorem A30{id:Nat}{ops:Array Oper}{Q:Exit→Act→World→Prop}{a:Act}{w:World}(hm:P.follows .mixedOrders=true)
  (h:A3E P rd .any ops Q ops.size (Array.replicate ops.size false) a { w with drawn:=w.drawn+1 }):(Code.region id ops true).wpIn (fw rd) 0 P Q a w :=
 wpIn_region_draw fun t=>by
  simp only[Region.schedule,hm,Bool.true_or,if_true];exact B1I ops.size t _ a _ h
theorem A0I{b:Frame}{a:Act}{k:List Item}{cs:List Frame}{w:World}{c:Code}:step P (lone (b.atR a (.code (.scope c)::k)) cs w)=.next (lone (b.atR a (.code c::.inScope c::k)) cs w) :=
 step_lone_go (by simp[stepG,stepG.exec,Frame.atR])
theorem A9v{b:Frame}{a:Act}{k:List Item}{cs:List Frame}{w:World}{c:Code}:step P (lone (b.atR a (.inScope c::k)) cs w)=.next (lone (b.atR a k) cs w) :=
 step_lone_go (by simp[stepG,stepG.exec,Frame.atR])
def Exit.calm(Q:Exit→Act→World→Prop):Exit→Act→World→Prop
 | .goto _,_,_=>False
 | e,a,w=>Q e a w
theorem B4Y{F:Fence}{n:Nat}{Q:Exit→Act→World→Prop}{a:Act}{w:World}{c:Code}(h:c.wpIn F n P (Exit.calm Q) a w):(Code.scope c).wpIn F n P Q a w:=by
 intro b k cs hro hb hr;have h0:(lone (b.atR a (.code (.scope c)::k)) cs w).fenced P F:=fenced_calm hb hr rfl;obtain⟨e,a₁,w₁,hq,harr⟩:=h b (.inScope c::k) cs hro hb hr;cases e with
 | normal=>exact⟨.normal,a₁,w₁,hq,.head h0 A0I (StepsIn.trans harr (.one (fenced_calm hb hr rfl) A9v))⟩
 | exit id =>
   have hx:exitTo id (.inScope c::k)=exitTo id k:=rfl;exact⟨.exit id,a₁,w₁,hq,fun k' hk=>.head h0 A0I (harr.1 k' (by rw[hx];exact hk)),
    fun hr' hk=>let ⟨k₁,h1,h2⟩:=harr.2 hr' (by rw[hx];exact hk);⟨k₁,h1,.head h0 A0I h2⟩⟩
 | goto l=>exact hq.elim
 | ret=>exact⟨_,a₁,w₁,hq,.of_steps (.one h0 A0I) harr⟩
 | panic ch=>exact⟨_,a₁,w₁,hq,.of_steps (.one h0 A0I) harr⟩
 | outgrown=>exact⟨_,a₁,w₁,hq,.of_steps (.one h0 A0I) harr⟩
end
end Go.Sx
namespace Go.Sx
set_option linter.all false
open Go
set_option linter.unusedVariables false
set_option linter.unusedSimpArgs false
def A5A(o:Op)(g:Operand→Value):Sem Value :=
 match o with
 | .move x|.assign x=>pure (g x)
 | .load t x=>Instr.loadAt t (g x)
 | .store t x y=>do Instr.storeAt t (g x) (g y);pure undef
 | _=>stuck "no such operation"
def A7K(P:Program)(o:Oper)(s:Act×World):Option (Act×World) :=
 match (A5A o.op s.1.eval).run P s.2 with
 | .ok v w'=>some (s.1.put o.dst v,w')
 | .halt _ _=>none
section
variable {P:Program} {rd:Option Nat}
theorem A8K{o:Oper}{s t:Act×World}(h:A7K P o s=some t):∃ v,(A5A o.op s.1.eval).run P s.2=.ok v t.2∧t.1=s.1.put o.dst v:=by
 unfold A7K at h;split at h
 ·rename_i v w' hr;cases h;exact⟨v,hr,rfl⟩
 ·cases h
theorem A44{o:Oper}{s:Act×World}{v:Value}{w':World}(h:(A5A o.op s.1.eval).run P s.2=.ok v w'):A7K P o s=some (s.1.put o.dst v,w'):=by
 unfold A7K;rw[h]
theorem B7l{o:Oper}(hc:B2D o.op=true)(w:World)(g:Operand→Value):o.about P w g=none:=by
 unfold Oper.about;cases ho:o.op<;>rw[ho]at hc<;>first|rfl|cases hc
theorem B5h{o:Oper}(hc:B2D o.op=true)(g:Operand→Value):∀ c,o.op≠.defer c:=fun c h=>by rw[h]at hc;cases hc
theorem C1K{o:Oper}(hc:B2D o.op=true){a a':Act}{w w':World}{K:Act→World→Prop}{Q:Exit→Act→World→Prop}(h:A7K P o (a,w)=some (a',w'))(hk:K a' w'):wpO P rd o a w K Q:=by
 obtain⟨v,h1,h2⟩:=A8K h;simp only at h1 h2;subst h2;unfold wpO Oper.wpIn;refine⟨fun f hf=>(by rw[B7l hc]at hf;cases hf),?_⟩;rw[Oper.semAt_eq _ _ _ (B5h hc a.eval)];cases ho:o.op<;>rw[ho]at hc h1<;>first
  | cases hc;done
  | skip
 ·have e:(execOp a.eval o)=pure (.value (a.eval ‹Operand›)):=by unfold execOp;rw[ho]
  rw[e];cases h1;exact hk
 ·have e:(execOp a.eval o)=pure (.value (a.eval ‹Operand›)):=by unfold execOp;rw[ho]
  rw[e];cases h1;exact hk
 ·rename_i t x;have e:(execOp a.eval o)=(do pure (.value (← Instr.loadAt t (a.eval x)))):=by unfold execOp;rw[ho]
  have h1:(Instr.loadAt t (a.eval x)).run P w=.ok v w':=h1;rw[e];simp only[Sem.run_bind,h1,Result.andThen,Sem.run_pure];exact hk
 ·rename_i t x y;have e:(execOp a.eval o)=(do Instr.storeAt t (a.eval x) (a.eval y);pure .skip):=by unfold execOp;rw[ho]
  have h1:(do Instr.storeAt t (a.eval x) (a.eval y);pure undef:Sem Value).run P w=.ok v w':=h1;rw[e];simp only[Sem.run_bind]at h1 ⊢;cases hr:(Instr.storeAt t (a.eval x) (a.eval y)).run P w with
  | ok u w2=>rw[hr]at h1;simp only[Result.andThen,Sem.run_pure]at h1 ⊢;cases h1;exact hk
  | halt x w2=>rw[hr]at h1;cases h1
theorem C2K{o:Oper}(hc:B2D o.op=true){a:Act}{w:World}{K:Act→World→Prop}{Q:Exit→Act→World→Prop}(hq:∀ c a w,¬Q (.panic c) a w)(h:wpO P rd o a w K Q):∃ a' w',A7K P o (a,w)=some (a',w')∧K a' w':=by
 unfold wpO Oper.wpIn at h;obtain⟨_,h⟩:=h;rw[Oper.semAt_eq _ _ _ (B5h hc a.eval)]at h;cases ho:o.op<;>rw[ho]at hc<;>first
  | cases hc;done
  | skip
 ·rename_i x;have e:(execOp a.eval o)=pure (.value (a.eval x)):=by unfold execOp;rw[ho]
  rw[e]at h;exact⟨_,_,A44 (s:=(a,w)) (v:=a.eval x) (w':=w) (by rw[ho];rfl),h⟩
 ·rename_i x;have e:(execOp a.eval o)=pure (.value (a.eval x)):=by unfold execOp;rw[ho]
  rw[e]at h;exact⟨_,_,A44 (s:=(a,w)) (v:=a.eval x) (w':=w) (by rw[ho];rfl),h⟩
 ·rename_i t x;have e:(execOp a.eval o)=(do pure (.value (← Instr.loadAt t (a.eval x)))):=by unfold execOp;rw[ho]
  rw[e]at h;simp only[Sem.run_bind]at h;cases hr:(Instr.loadAt t (a.eval x)).run P w with
  | ok v w' =>
    rw[hr]at h;exact⟨_,_,A44 (s:=(a,w)) (v:=v) (w':=w') (by rw[ho];exact hr),h⟩
  | halt y w' =>
    rw[hr]at h;cases y<;>first|exact absurd h (hq _ _ _)|exact h.elim
 ·rename_i t x y;have e:(execOp a.eval o)=(do Instr.storeAt t (a.eval x) (a.eval y);pure .skip):=by unfold execOp;rw[ho]
  rw[e]at h;simp only[Sem.run_bind]at h;cases hr:(Instr.storeAt t (a.eval x) (a.eval y)).run P w with
  | ok u w' =>
    rw[hr]at h;refine⟨_,_,A44 (s:=(a,w)) (v:=undef) (w':=w') ?_,h⟩;rw[ho];show(do Instr.storeAt t (a.eval x) (a.eval y);pure undef:Sem Value).run P w=_;simp only[Sem.run_bind,hr,Result.andThen,Sem.run_pure]
  | halt z w' =>
    rw[hr]at h;cases z<;>first|exact absurd h (hq _ _ _)|exact h.elim
theorem B8w{a:Act}{d e:Option Tmp}{v u:Value}(h:∀ x y,d=some x→e=some y→x≠y):(a.put d v).put e u=(a.put e u).put d v:=by
 cases d with
 | none=>rfl
 | some x=>cases e with
   | none=>rfl
   | some y =>
     have hn:=h x y rfl rfl;unfold Act.put;simp only;congr 1
     exact Array.setIfInBounds_comm _ _ hn
theorem A28{a:Act}{d:Option Tmp}{v:Value}{x:Operand}(h:∀ t,d=some t→t ∉ A6F x):(a.put d v).eval x=a.eval x:=by
 cases x with
 | const c=>cases d<;>rfl
 | tmp t =>
   cases d with
   | none=>rfl
   | some y =>
     have:y≠t:=fun e=>h y rfl (by subst e;exact A2G.2 rfl)
     unfold Act.put Act.eval;simp only[B1];rw[Array.getElem?_setIfInBounds_ne this]
 | _=>cases d<;>rfl
variable [Ora]
def A98(P:Program)(w:World)(t:TypeId)(p:Value):Prop :=
 ∃ b o C T fz s g,p=.pointer (some ⟨b,o,none⟩)∧w.heap[b]? = some (.cells C T fz)∧G7 P t=some s∧A0w P t=some g∧o+s≤C.size∧o<C.size
theorem B0g{t:TypeId}{b o s:Nat}{C:Array Value}{T:TypeId}{fz:Nat×Nat}{g:Bool}(hs:G7 P t=some s)(hg:A0w P t=some g)(h1:o+s≤C.size)(h2:o<C.size):∃ v,∀ w:World,w.heap[b]? = some (.cells C T fz)→(Instr.loadAt t (.pointer (some ⟨b,o,none⟩))).run P w=.ok v w:=by
 have hcell:∀ w:World,w.heap[b]? = some (.cells C T fz)→∀ j v,C[o+j]? = some v→w.cell? ⟨b,o+j,none⟩=some v:=fun w hw j v hv=>by simp[World.cell?,hw,hv]
 cases g with
 | true =>
   refine⟨.agg ⟨(C.toList.drop o).take s⟩,fun w hw=>?_⟩;have hl:((C.toList.drop o).take s).length=s:=by rw[List.length_take,M8,T9];omega
   have hld:=J8 (P:=P) (w:=w) (b:=b) (o:=o) hl (fun j v hj=>by
    have hjs:j<s:=by have:=(A9.1 hj).1;omega
    rw[F5 hjs,H9,A0p]at hj;exact hcell w hw j v hj)
   unfold Instr.loadAt;simp[Sem.run_bind,Instr.sureAddr,loadVar,A03 hg,K8 hs,Result.andThen,hld]
 | false =>
   refine⟨C[o],fun w hw=>?_⟩
   have:=hcell w hw 0 C[o] (by simp[h2]);unfold Instr.loadAt;simp[Sem.run_bind,Instr.sureAddr,loadVar,A03 hg,Result.andThen,run_load,show w.cell? ⟨b,o,none⟩=some C[o]from by simpa using this]
theorem A8V{b o:Nat}{T:TypeId}{fz:Nat×Nat}:∀ (vs:List Value) (i:Nat) (C:Array Value) (w w':World),w.heap[b]? = some (.cells C T fz)→o+i+vs.length≤C.size→(storeCells ⟨b,o,none⟩ vs i).run P w=.ok () w' →
  (∀ k,k≠b→w'.heap[k]? = w.heap[k]?)∧∃ C',w'.heap[b]? = some (.cells C' T fz)∧C'.size=C.size
 | [],i,C,w,w',h,_,hr=>by cases hr;exact⟨fun _ _=>rfl,C,h,rfl⟩
 | v::r,i,C,w,w',h,hl,hr=>by
   simp only[A3]at hl;have hlt:o+i<C.size:=by omega
   have hc:w.cell? ⟨b,o+i,none⟩=some C[o+i]:=by simp[World.cell?,h,hlt]
   have hb:(w.setCell ⟨b,o+i,none⟩ v).heap[b]? = some (.cells (C.setIfInBounds (o+i) v) T fz):=by
    simp[World.setCell,J4,h]
   unfold storeCells at hr;simp only[Sem.run_bind,J8.add_none']at hr;have hst:(store ⟨b,o+i,none⟩ v).run P w=.ok () (w.setCell ⟨b,o+i,none⟩ v)∨∃ x w2,(store ⟨b,o+i,none⟩ v).run P w=.halt x w2:=by
    unfold store;cases v<;>first
     | exact .inr ⟨_,_,rfl⟩
     | (simp only[Sem.run,hc]
        split
        ·exact .inr ⟨_,_,rfl⟩
        ·exact .inl rfl)
   rcases hst with hst|⟨x,w2,hst⟩
   ·rw[hst]at hr;simp only[Result.andThen]at hr;obtain⟨k1,C',k2,k3⟩:=A8V r (i+1) _ _ _ hb (by simp;omega) hr;refine⟨fun k hk=>?_,C',k2,by rw[k3];simp⟩;rw[k1 k hk];simp only[World.setCell,J4];rw[if_neg (fun e=>hk e.symm)]
   ·rw[hst]at hr;cases hr
theorem B1Q{t:TypeId}{b o s:Nat}{C:Array Value}{T:TypeId}{fz:Nat×Nat}{y:Value}{w w':World}(hs:G7 P t=some s)(hw:w.heap[b]? = some (.cells C T fz))(h1:o+s≤C.size)(hr:(Instr.storeAt t (.pointer (some ⟨b,o,none⟩)) y).run P w=.ok () w') :
  (∀ k,k≠b→w'.heap[k]? = w.heap[k]?)∧∃ C',w'.heap[b]? = some (.cells C' T fz)∧C'.size=C.size:=by
 unfold Instr.storeAt at hr;simp only[Sem.run_bind,Instr.sureAddr,storeVar,K8 hs,Result.andThen,Sem.run_pure]at hr;by_cases hq:y.cells.size≠s
 ·rw[if_pos hq]at hr;cases hr
 ·rw[if_neg hq]at hr;have hq:=W9.1 hq;exact A8V y.cells.toList 0 C w w' hw (by rw[T9,hq];omega) hr
structure B4V (P:Program) (ops:List Oper) (s:Act×World):Prop where
 pl:∀ o ∈ ops,∀ t x,A4a o.op=some (t,x)→A98 P s.2 t (s.1.eval x)
 ap:∀ i j a b,i<j→ops[i]? = some a→ops[j]? = some b→A6q b i=false→(A2W a.op || A2W b.op)=true→∀ t x u y,A4a a.op=some (t,x)→A4a b.op=some (u,y)→∀ p q,s.1.eval x=.pointer (some p)→s.1.eval y=.pointer (some q)→p.block≠q.block
theorem A9A{l:List Nat}{b:Nat}:A0Y l b=true↔b ∈ l:=by
 unfold A0Y;rw[Q6];constructor
 ·rintro⟨x,h,e⟩;have:=A2 e;subst this;exact h
 ·intro h;exact⟨b,h,A1h b⟩
theorem B3K{ads:List Tmp}:∀ {l:List Oper} {k i:Nat} {o:Oper},B89 ads k l=true→l[i]? = some o→C5b ads (k+i) o=true
 | [],k,i,o,_,h=>by simp at h
 | p::l,k,0,o,h,hi=>by
   simp at hi;subst hi;exact(B8 h).1
 | p::l,k,i+1,o,h,hi=>by
   have:=B3K (l:=l) (k:=k+1) (i:=i) (o:=o) (B8 h).2 (by simpa using hi);rw[show k+(i+1)=k+1+i by omega];exact this
structure One (ops:List Oper) (i:Nat) (o:Oper):Prop where
 cls:B2D o.op=true
 grd:o.guard=none
 ads:∀ p ∈ ops,∀ t x,A4a p.op=some (t,x)→∀ d,o.dst=some d→d ∉ A6F x
 lt:∀ e ∈ o.after,Region.binds .any e=true→e.on<i
theorem A4l{ops:List Oper}(h:A38 ops=true){i:Nat}{o:Oper}(hi:ops[i]? = some o):One ops i o:=by
 have h1:=B3K (B8 h).1 hi;rw[F0]at h1;unfold C5b at h1;obtain⟨a1,h1⟩:=B8 h1;obtain⟨a2,h1⟩:=B8 h1;obtain⟨a3,a4⟩:=B8 h1;refine⟨a1,?_,fun p hp t x hx d hd hm=>?_,fun e he hb=>?_⟩
 ·cases hg:o.guard with
  | none=>rfl
  | some g=>rw[hg]at a2;cases a2
 ·have:A0Y (C0U ops) d=true:=A9A.2 (List.mem_flatMap.2 ⟨p,hp,by rw[hx];exact hm⟩);unfold B0X at a3;rw[hd]at a3;simp only at a3;rw[this]at a3;cases a3
 ·have:=A2J.1 a4 e he;rw[hb]at this;exact A1 this
theorem B26{p:Oper→Oper→Bool}{ops:List Oper}(h:B1d p ops=true){i j:Nat}{a b:Oper}(hij:i<j)(hi:ops[i]? = some a)(hj:ops[j]? = some b)(he:A6q b i=false):p a b=true:=by
 unfold B1d at h;have hjl:=(A9.1 hj).1
 have:=E0.1 (E0.1 h j (q9.2 hjl)) i (q9.2 hij);rw[hi,hj]at this;simp only[he,e9]at this;exact this
theorem B2_{o:Oper}{a:Act}{d:Option Tmp}{v:Value}(hd:∀ t,d=some t→t ∉ B8u o.op)(hc:B2D o.op=true):A5A o.op (a.put d v).eval=A5A o.op a.eval:=by
 cases ho:o.op<;>rw[ho]at hc hd<;>first
  | cases hc;done
  | skip
 ·unfold A5A;simp only;rw[A28 hd]
 ·unfold A5A;simp only;rw[A28 hd]
 ·unfold A5A;simp only;rw[A28 hd]
 ·unfold A5A;simp only;rw[A28 (fun t ht hm=>hd t ht (B5.2 (.inl hm))),A28 (fun t ht hm=>hd t ht (B5.2 (.inr hm)))]
theorem A8C{o:Oper}{s:Act×World}{v:Value}{w':World}(hc:B2D o.op=true)(hst:A2W o.op=false)(hp:∀ t x,A4a o.op=some (t,x)→A98 P s.2 t (s.1.eval x))(h:(A5A o.op s.1.eval).run P s.2=.ok v w'):w'=s.2:=by
 cases ho:o.op<;>rw[ho]at hc hst h hp<;>first
  | cases hc;done
  | cases hst;done
  | skip
 ·cases h;rfl
 ·cases h;rfl
 ·rename_i t x;obtain⟨b,o',C,T,fz,sz,g,e1,e2,e3,e4,e5,e6⟩:=hp t x rfl;obtain⟨u,hu⟩:=B0g (P:=P) (T:=T) (fz:=fz) e3 e4 e5 e6;have h:(Instr.loadAt t (s.1.eval x)).run P s.2=.ok v w':=h;rw[e1,hu s.2 e2]at h;cases h;rfl
theorem A8U{o:Oper}{s:Act×World}{v:Value}{w':World}(hst:A2W o.op=true)(hp:∀ t x,A4a o.op=some (t,x)→A98 P s.2 t (s.1.eval x))(h:(A5A o.op s.1.eval).run P s.2=.ok v w') :
  ∃ t x b o' C T fz,A4a o.op=some (t,x)∧s.1.eval x=.pointer (some ⟨b,o',none⟩)∧s.2.heap[b]? = some (.cells C T fz)∧(∀ k,k≠b→w'.heap[k]? = s.2.heap[k]?)∧∃ C',w'.heap[b]? = some (.cells C' T fz)∧C'.size=C.size:=by
 cases ho:o.op<;>rw[ho]at hst h hp<;>first
  | cases hst;done
  | skip
 rename_i t x y;obtain⟨b,o',C,T,fz,sz,g,e1,e2,e3,e4,e5,e6⟩:=hp t x rfl;have h:(do Instr.storeAt t (s.1.eval x) (s.1.eval y);pure undef:Sem Value).run P s.2=.ok v w':=h;simp only[Sem.run_bind]at h;cases hr:(Instr.storeAt t (s.1.eval x) (s.1.eval y)).run P s.2 with
 | ok u w2 =>
   rw[hr]at h;simp only[Result.andThen,Sem.run_pure]at h;cases h;rw[e1]at hr;obtain⟨k1,k2⟩:=B1Q e3 e2 e5 hr;exact⟨t,x,b,o',C,T,fz,rfl,e1,e2,k1,k2⟩
 | halt z w2=>rw[hr]at h;cases h
theorem A98.keep{w w':World}{t:TypeId}{p:Value}(h:A98 P w t p)(hk:∀ (b:Nat) (C:Array Value) (T:TypeId) (fz:Nat×Nat),w.heap[b]? = some (.cells C T fz)→∃ C',w'.heap[b]? = some (.cells C' T fz)∧C'.size=C.size):A98 P w' t p:=by
 obtain⟨b,o,C,T,fz,s,g,e1,e2,e3,e4,e5,e6⟩:=h;obtain⟨C',h1,h2⟩:=hk b C T fz e2;exact⟨b,o,C',T,fz,s,g,e1,h1,e3,e4,by omega,by omega⟩
theorem B4V.step{ops:List Oper}{s s':Act×World}{i:Nat}{o:Oper}(hr:A38 ops=true)(hg:B4V P ops s)(hi:ops[i]? = some o)(h:A7K P o s=some s'):B4V P ops s':=by
 obtain⟨v,h1,h2⟩:=A8K h;have ho:=A4l hr hi;have hmem:=E1 hi;have hev:∀ p ∈ ops,∀ t x,A4a p.op=some (t,x)→s'.1.eval x=s.1.eval x:=fun p hp t x hx=>by rw[h2];exact A28 (ho.ads p hp t x hx)
 have hk:∀ (b:Nat) (C:Array Value) (T:TypeId) (fz:Nat×Nat),s.2.heap[b]? = some (.cells C T fz)→∃ C',s'.2.heap[b]? = some (.cells C' T fz)∧C'.size=C.size:=fun b C T fz hb=>by
  cases hst:A2W o.op with
  | false=>rw[A8C ho.cls hst (fun t x hx=>hg.pl o hmem t x hx) h1];exact⟨C,hb,rfl⟩
  | true =>
    obtain⟨t,x,b',o',C0,T0,fz0,e1,e2,e3,e4,C',e5,e6⟩:=A8U hst (fun t x hx=>hg.pl o hmem t x hx) h1;by_cases e:b=b'
    ·subst e;rw[e3]at hb;cases hb;exact⟨C',e5,e6⟩
    ·exact⟨C,by rw[e4 b e];exact hb,rfl⟩
 refine⟨fun p hp t x hx=>by rw[hev p hp t x hx];exact(hg.pl p hp t x hx).keep hk,fun i j a b hij h3 h4 h5 h6 t x u y h7 h8 p q h9 h10=>?_⟩;rw[hev a (E1 h3) t x h7]at h9;rw[hev b (E1 h4) u y h8]at h10;exact hg.ap i j a b hij h3 h4 h5 h6 t x u y h7 h8 p q h9 h10
theorem B9w{ops:List Oper}{s s1 s2:Act×World}{i j:Nat}{a b:Oper}(hr:A38 ops=true)(hg:B4V P ops s)(hij:i<j)(hi:ops[i]? = some a)(hj:ops[j]? = some b)(he:A6q b i=false)(h1:A7K P a s=some s1)(h2:A7K P b s1=some s2):∃ t,A7K P b s=some t∧A7K P a t=some s2:=by
 have oa:=A4l hr hi;have ob:=A4l hr hj;have ma:=E1 hi;have mb:=E1 hj;have hind:=B26 (B8 hr).2 hij hi hj he;unfold C6s at hind;obtain⟨i1,hind⟩:=B8 hind;obtain⟨i2,hind⟩:=B8 hind;obtain⟨i3,i4⟩:=B8 hind;have hd1:∀ t,a.dst=some t→t ∉ B8u b.op:=fun t ht hm=>by
  unfold B0X at i2;rw[ht]at i2;simp only at i2;rw[A9A.2 hm]at i2;cases i2
 have hd2:∀ t,b.dst=some t→t ∉ B8u a.op:=fun t ht hm=>by
  unfold B0X at i3;rw[ht]at i3;simp only at i3;rw[A9A.2 hm]at i3;cases i3
 have hdd:∀ x y,a.dst=some x→b.dst=some y→x≠y:=fun x y hx hy e=>by
  rw[hx,hy]at i1;simp only at i1;subst e;rw[A1h]at i1;cases i1
 obtain⟨v,e1,e2⟩:=A8K h1;obtain⟨u,e3,e4⟩:=A8K h2;obtain⟨a1,w1⟩:=s1;obtain⟨a2,w2⟩:=s2;obtain⟨a0,w0⟩:=s;simp only at e1 e2 e3 e4;subst e2;subst e4;rw[B2_ hd1 ob.cls]at e3;suffices hh:∃ w',(A5A b.op a0.eval).run P w0=.ok u w'∧(A5A a.op a0.eval).run P w'=.ok v w2 by
  obtain⟨w',q1,q2⟩:=hh;refine⟨(a0.put b.dst u,w'),A44 (s:=(a0,w0)) q1,?_⟩
  have:=A44 (P:=P) (o:=a) (s:=(a0.put b.dst u,w')) (v:=v) (w':=w2) (by show(A5A a.op (a0.put b.dst u).eval).run P w'=_;rw[B2_ hd2 oa.cls];exact q2);rw[this];simp only;rw[B8w hdd]
 have pla:∀ t x,A4a a.op=some (t,x)→A98 P w0 t (a0.eval x):=fun t x hx=>hg.pl a ma t x hx
 have plb:∀ t x,A4a b.op=some (t,x)→A98 P w0 t (a0.eval x):=fun t x hx=>hg.pl b mb t x hx
 have hload:∀ {o:Oper} {w w':World} {r:Value},B2D o.op=true→A2W o.op=false→(∀ t x,A4a o.op=some (t,x)→∃ bb oo C T fz s g,a0.eval x=.pointer (some ⟨bb,oo,none⟩)∧w.heap[bb]? = some (.cells C T fz)∧w'.heap[bb]? = some (.cells C T fz)∧G7 P t=some s∧A0w P t=some g∧oo+s≤C.size∧oo<C.size)→(A5A o.op a0.eval).run P w=.ok r w→(A5A o.op a0.eval).run P w'=.ok r w':=fun{o w w' r} hc hst hp h=>by
  cases ho:o.op<;>rw[ho]at hc hst h hp<;>first
   | cases hc;done
   | cases hst;done
   | skip
  ·cases h;rfl
  ·cases h;rfl
  ·rename_i t x;obtain⟨bb,oo,C,T,fz,sz,g,f1,f2,f3,f4,f5,f6,f7⟩:=hp t x rfl;obtain⟨z,hz⟩:=B0g (P:=P) (T:=T) (fz:=fz) f4 f5 f6 f7;have h:(Instr.loadAt t (a0.eval x)).run P w=.ok r w:=h;show(Instr.loadAt t (a0.eval x)).run P w'=.ok r w';rw[f1,hz w f2]at h;rw[f1,hz w' f3];cases h;rfl
 cases sa:A2W a.op with
 | false =>
   have hw:w1=w0:=A8C (s:=(a0,w0)) oa.cls sa pla e1;subst hw;refine⟨w2,e3,?_⟩;refine hload oa.cls sa (fun t x hx=>?_) e1;obtain⟨bb,oo,C,T,fz,sz,g,f1,f2,f3,f4,f5,f6⟩:=pla t x hx;cases sb:A2W b.op with
   | false =>
     have hw2:w2=w1:=A8C (s:=(a0,w1)) ob.cls sb plb e3;subst hw2;exact⟨bb,oo,C,T,fz,sz,g,f1,f2,f2,f3,f4,f5,f6⟩
   | true =>
     obtain⟨t',x',b',o',C0,T0,fz0,g1,g2,g3,g4,_⟩:=A8U (s:=(a0,w1)) sb plb e3;have hne:=hg.ap i j a b hij hi hj he (by rw[sa,sb];rfl) t x t' x' hx g1 _ _ f1 g2;exact⟨bb,oo,C,T,fz,sz,g,f1,f2,(g4 bb hne).trans f2,f3,f4,f5,f6⟩
 | true =>
   have sb:A2W b.op=false:=by
    cases h:A2W b.op with
    | false=>rfl
    | true=>rw[sa,h]at i4;cases i4
   obtain⟨t',x',b',o',C0,T0,fz0,g1,g2,g3,g4,C1,g5,g6⟩:=A8U (s:=(a0,w0)) sa pla e1;have plb1:∀ t x,A4a b.op=some (t,x)→A98 P w1 t (a0.eval x):=fun t x hx=>(plb t x hx).keep fun b C T fz hb=>by
    by_cases e:b=b'
    ·subst e;rw[g3]at hb;cases hb;exact⟨C1,g5,g6⟩
    ·exact⟨C,by rw[g4 b e];exact hb,rfl⟩
   have hw:w2=w1:=A8C (s:=(a0,w1)) ob.cls sb plb1 e3;subst hw;refine⟨w0,?_,e1⟩;refine hload ob.cls sb (fun t x hx=>?_) e3;obtain⟨bb,oo,C,T,fz,sz,g,f1,f2,f3,f4,f5,f6⟩:=plb t x hx;have hne:=hg.ap i j a b hij hi hj he (by rw[sa,sb];rfl) t' x' t x g1 hx _ _ g2 f1;exact⟨bb,oo,C,T,fz,sz,g,f1,(g4 bb (fun e=>hne e.symm)).trans f2,f2,f3,f4,f5,f6⟩
def B1V(P:Program)(ops:List Oper):List Nat→Act×World→Option (Act×World)
 | [],s=>some s
 | i::l,s=>match ops[i]? with
   | some o=>match A7K P o s with
     | some s=>B1V P ops l s
     | none=>none
   | none=>B1V P ops l s
theorem A5g{ops:List Oper}(hr:A38 ops=true){j:Nat}{b:Oper}(hj:ops[j]? = some b){l2:List Nat}{r:Act×World}:∀ (l1:List Nat) (s:Act×World),B4V P ops s→(∀ i ∈ l1,i<j∧A6q b i=false)→B1V P ops (l1++j::l2) s=some r→∃ s1,A7K P b s=some s1∧B1V P ops (l1++l2) s1=some r
 | [],s,hg,_,h=>by
   simp only[d8,B1V,hj]at h;split at h
   ·rename_i s1 h1;exact⟨s1,h1,h⟩
   ·cases h
 | i::l1,s,hg,hl,h=>by
   obtain⟨h0,he⟩:=hl i B6;have hl':∀ i ∈ l1,i<j∧A6q b i=false:=fun k hk=>hl k (D1 _ hk)
   simp only[Y3,B1V]at h ⊢;cases hi:ops[i]? with
   | none =>
     rw[hi]at h;exact A5g hr hj l1 s hg hl' h
   | some a =>
     rw[hi]at h;simp only at h ⊢;split at h
     ·rename_i s' h1;obtain⟨s1,q1,q2⟩:=A5g hr hj l1 s' (hg.step hr hi h1) hl' h;obtain⟨t,t1,t2⟩:=B9w hr hg h0 hi hj he h1 q1;exact⟨t,t1,by rw[t2];exact q2⟩
     ·cases h
def A3v(n:Nat)(listed:Array Bool):List Nat:=(List.range n).filter fun i=>!listed.getD i true
theorem A6R{n:Nat}{listed:Array Bool}{i:Nat}:i ∈ A3v n listed↔i<n∧listed.getD i true=false:=by
 unfold A3v;rw[T6,q9];simp
theorem B1a(n:Nat)(listed:Array Bool):(A3v n listed).Pairwise (· < ·):=List.Pairwise.filter _ List.pairwise_lt_range
theorem B8t{n:Nat}{listed:Array Bool}{i:Nat}{l1 l2:List Nat}(hi:i<listed.size)(h:A3v n listed=l1++i::l2):A3v n (listed.setIfInBounds i true)=l1++l2:=by
 have hp:=B1a n listed;rw[h]at hp;have hne:∀ k ∈ l1++l2,(k != i)=true:=fun k hk=>by
  have hp:=List.pairwise_append.1 hp;rcases B5.1 hk with hk|hk
  ·have:=hp.2.2 k hk i B6;simp;omega
  ·have:=(List.pairwise_cons.1 hp.2.1).1 k hk;simp;omega
 have e:A3v n (listed.setIfInBounds i true)=(A3v n listed).filter fun k=>k != i:=by
  unfold A3v;rw[List.filter_filter];apply List.filter_congr;intro k _;simp only[B1,F3];by_cases e:i=k
  ·subst e;simp[hi]
  ·simp[e,Ne.symm e]
 rw[e,h,List.filter_append,List.filter_cons];have e1:(i != i)=false:=by simp
 rw[e1];simp only[Q7,if_false];rw[A1a.2 fun k hk=>hne k (B5.2 (.inl hk)),A1a.2 fun k hk=>hne k (B5.2 (.inr hk))]
theorem B0b{ops:Array Oper}(hr:A38 ops.toList=true){Q:Exit→Act→World→Prop}:∀ (fuel:Nat) (listed:Array Bool) (a:Act) (w:World) (r:Act×World),listed.size=ops.size→B4V P ops.toList (a,w)→(A3v ops.size listed).length=fuel→B1V P ops.toList (A3v ops.size listed) (a,w)=some r→Q .normal r.1 r.2→A3E P rd .any ops Q fuel listed a w
 | 0,listed,a,w,r,hsz,hg,hl,h,hq=>by
   have h0:=G0.1 hl;rw[h0]at h;cases h;refine⟨?_,hq⟩;rw[A00];intro i hi;have:i ∈ A3v ops.size listed:=by
    unfold Region.ready at hi;rw[T6]at hi;unfold A3v;rw[T6];exact⟨hi.1,(B8 hi.2).1⟩
   rw[h0]at this;cases this
 | fuel+1,listed,a,w,r,hsz,hg,hl,h,hq=>by
   have hget:∀ {i:Nat},i<ops.size→∃ o,ops.toList[i]? = some o∧ops[i]? = some o:=fun{i} hi=>⟨ops[i],by simp[hi],by simp[hi]⟩
   refine⟨fun hn=>?_,fun i hi=>?_⟩
   ·
    cases hrm:A3v ops.size listed with
    | nil=>rw[hrm]at hl;cases hl
    | cons i t =>
      exfalso;have him:i ∈ A3v ops.size listed:=by rw[hrm];exact B6
      obtain⟨i1,i2⟩:=A6R.1 him;obtain⟨o,o1,o2⟩:=hget i1;have ho:=A4l hr o1;have hpw:=B1a ops.size listed;rw[hrm]at hpw;have hmin:∀ k,k<i→listed.getD k false=true:=fun k hk=>by
       have hk2:k<listed.size:=by omega
       cases hv:listed.getD k true with
       | true=>rw[← hv];simp[B1,hk2]
       | false =>
         have:k ∈ A3v ops.size listed:=A6R.2 ⟨by omega,hv⟩;rw[hrm]at this;rcases C5.1 this with e|hm
         ·omega
         ·have:=(List.pairwise_cons.1 hpw).1 k hm;omega
      have:i ∈ Region.ready .any ops listed:=by
       unfold Region.ready;rw[T6,q9];refine⟨i1,?_⟩;rw[i2,o2];simp only[Bool.not_false,Bool.true_and,P5,Option.getD_some];rw[A2J];intro e he;cases hb:Region.binds .any e with
       | false=>rfl
       | true=>rw[hmin e.on (ho.lt e he hb)];rfl
      rw[hn]at this;cases this
   ·have hi':=hi;unfold Region.ready at hi;rw[T6,q9]at hi;obtain⟨i1,i2⟩:=hi;obtain⟨o,o1,o2⟩:=hget i1;have ho:=A4l hr o1;rw[o2]at i2;obtain⟨i2,i3⟩:=B8 i2;simp only[P5,Option.getD_some]at i3;have hun:listed.getD i true=false:=by simpa using i2
    have hmem:i ∈ A3v ops.size listed:=A6R.2 ⟨i1,hun⟩;obtain⟨l1,l2,hspl⟩:=List.append_of_mem hmem;have hpw:=B1a ops.size listed;rw[hspl]at hpw;have hfr:∀ k ∈ l1,k<i∧A6q o k=false:=fun k hk=>by
     refine⟨(List.pairwise_append.1 hpw).2.2 k hk i B6,?_⟩;cases he:A6q o k with
     | false=>rfl
     | true =>
       exfalso;unfold A6q at he;rw[Array.any_eq_true']at he;obtain⟨e,hm,he⟩:=he;obtain⟨b1,b2⟩:=B8 he;have b2:=A2 b2
       have:=(A2J.1 i3) e hm;rw[b1,b2]at this;simp only[R4,e9]at this;have hk2:=(A6R (n:=ops.size) (listed:=listed) (i:=k)).1 (by rw[hspl];exact B5.2 (.inl hk));have hk3:k<listed.size:=by omega
       have hk4:=hk2.2;simp[B1,hk3]at this hk4;rw[this]at hk4;cases hk4
    rw[hspl]at h;obtain⟨s1,q1,q2⟩:=A5g hr o1 l1 (a,w) hg hfr h;have A3x:=B8t (n:=ops.size) (listed:=listed) (i:=i) (l1:=l1) (l2:=l2) (by omega) hspl;obtain⟨a1,w1⟩:=s1;unfold A2u;rw[o2];simp only;have hw:Region.wanted o (yielded ops a.tmps)=true:=by unfold Region.wanted;rw[ho.grd]
    rw[if_pos hw];refine C1K ho.cls q1 (B0b hr fuel (listed.setIfInBounds i true) a1 w1 r (by simpa using hsz) (hg.step hr o1 q1) ?_ (by rw[A3x];exact q2) hq);rw[A3x];have:(l1++i::l2).length=fuel+1:=by rw[← hspl];exact hl
    simp at this ⊢;omega
theorem B0O{ops:Array Oper}(hr:A38 ops.toList=true){Q:Exit→Act→World→Prop}:∀ (d k:Nat) (a:Act) (w:World),k+d=ops.size→wpL P rd ops (fun e a' w'=>e=.normal∧Q e a' w') (ops.toList.drop k) a w→∃ r,B1V P ops.toList (List.range' k d) (a,w)=some r∧Q .normal r.1 r.2
 | 0,k,a,w,hk,h=>by
   have:ops.toList.drop k=[]:=List.drop_eq_nil_of_le (by simp;omega);rw[this]at h;exact⟨(a,w),rfl,h.2⟩
 | d+1,k,a,w,hk,h=>by
   have hlt:k<ops.toList.length:=by simp;omega
   rw[u6 hlt]at h;have ho:=A4l hr (A6 hlt);unfold wpL at h;have hw:Region.wanted ops.toList[k] (yielded ops a.tmps)=true:=by unfold Region.wanted;rw[ho.grd]
   rw[if_pos hw]at h;obtain⟨a',w',h1,h2⟩:=C2K ho.cls (fun c a w hh=>by cases hh.1) h;obtain⟨r,r1,r2⟩:=B0O hr d (k+1) a' w' (by omega) h2;refine⟨r,?_,r2⟩;rw[List.range'_succ];simp only[B1V,A6 hlt,h1];exact r1
theorem C1c{ops:Array Oper}(hr:A38 ops.toList=true){Q:Exit→Act→World→Prop}{a:Act}{w:World}(hg:∀ w',w'.heap=w.heap→B4V P ops.toList (a,w'))(h:∀ d,wpL P rd ops (fun e a' w'=>e=.normal∧Q e a' w') ops.toList a { w with drawn:=d })(d:Nat):A3E P rd .any ops Q ops.size (Array.replicate ops.size false) a { w with drawn:=d }:=by
 obtain⟨r,r1,r2⟩:=B0O hr ops.size 0 a { w with drawn:=d } (by omega) (by simpa using h d);have e:A3v ops.size (Array.replicate ops.size false)=List.range' 0 ops.size:=by
  unfold A3v;rw[List.range_eq_range',A1a];intro i hi;have:i<ops.size:=by have:=List.mem_range'.1 hi;omega
  simp[B1,this]
 exact B0b hr ops.size _ a _ r (by simp) (hg _ rfl) (by rw[e];simp) (by rw[e];exact r1) r2
end
end Go.Sx
