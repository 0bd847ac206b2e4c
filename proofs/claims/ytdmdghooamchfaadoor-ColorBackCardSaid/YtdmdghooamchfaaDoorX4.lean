/- The law ColorBack: for every input the call returns true, and the arguments read behind it as they read before. No condition. -/
import Derived.Test.YtdmdghooamchfaaDoorX3
import Derived.Lib.Builder
import Derived.LoopNIn
import Derived.RangeFuncRecord
namespace Go.Sx
set_option linter.all false
open Go
set_option linter.unusedVariables false
set_option linter.unusedSimpArgs false
variable [Ora]
section
variable {P:Program} {base:Nat} {ρ ρ':Ren} {m m':Mem} {w w':World}
theorem nil_row {i t:Nat} {v:Value} {nul:Bool} {wd:Nat} {rows:List (List U)} (h:letM m 8 .nilp [hole i t]=some (v,m')) (hi:Ora.env i=.seq nul wd rows) (hS:Sat m'.lg):VR ρ v (.bool nul)∧OnlyLg m m'∧m.lg.le m'.lg:=by
 obtain ⟨u,e1,e2,r,e3,e4,e5⟩:=letM_ok h hS
 have harg:[hole i t].map (argU Ora.env)=[.seq nul wd rows]:=by
  show [Ora.env i]=_
  rw [hi]
 rw [harg] at e1
 have e1:U.bool nul=u:=e1
 subst e1; cases e3
 exact ⟨e4 ρ,letM_only h,letM_le h⟩
theorem run_isNil {op:BinOp} {t e:TypeId} {x y:Operand} {a:Option Addr} {n c:Nat} {nul:Bool} (hu:P.underlying t=some (.slice e)) (hn:(a=none∧n=0∧c=0∧nul=true)∨(nul=false∧∃ q:Addr,a=some q∧n≤c)) (hop:op=.eql∨op=.neq) (w:World) :
  (do eqGuard op t x y (.slice a n c) (.slice none 0 0); binOp op t (.slice a n c) (.slice none 0 0):Sem Value).run P w=.ok (.bool (if op=.eql then nul else !nul)) w:=by
 have key:∀ {ρ:Ren} {am:Value},VR ρ am (.slice a n c)→guardM P t x y am (.slice none 0 0)=true→binM P .eql t am (.slice none 0 0)=some (.bool nul)→binM P .neq t am (.slice none 0 0)=some (.bool !nul) →
   (do eqGuard op t x y (.slice a n c) (.slice none 0 0); binOp op t (.slice a n c) (.slice none 0 0):Sem Value).run P w=.ok (.bool (if op=.eql then nul else !nul)) w:=fun {ρ am} hv hg h1 h2=>by
  have hv0:VR ρ (.slice none 0 0) (.slice none 0 0):=.pure rfl
  have hq:=guard_ok (op:=op) (fun _=>hg) hv hv0 w
  rcases hop with rfl|rfl
  ·obtain ⟨g1,_⟩:=binM_ok h1 hv hv0 w
   simp [Sem.run_bind,hq,g1,Result.andThen]
  ·obtain ⟨g1,_⟩:=binM_ok h2 hv hv0 w
   simp [Sem.run_bind,hq,g1,Result.andThen]
 rcases hn with ⟨rfl,rfl,rfl,rfl⟩|⟨rfl,q,rfl,hc⟩
 ·refine key (ρ:=fun _=>none) (am:=.slice none 0 0) (.pure rfl) rfl ?_ ?_
  ·simp [binM,restM,eqM,hu]
  ·simp [binM,restM,eqM,hu]
 ·obtain ⟨d,hd⟩:∃ d,Op.maxDepth=d+1:=⟨Op.maxDepth - 1,rfl⟩
  have he:∀ w,(Op.equal t (.slice (some q) n c) (.slice none 0 0)).run P w=.ok false w:=fun w=>by
   rw [Op.equal,hd]
   simp [Op.equalIn,Sem.run_bind,run_und hu,Result.andThen]
  have hg:∀ o:BinOp,(eqGuard o t x y (.slice (some q) n c) (.slice none 0 0)).run P w=.ok () w:=fun o=>by
   unfold eqGuard
   cases o <;> rfl
  rcases hop with rfl|rfl
  ·rw [Sem.run_bind,hg]
   show (do pure (.bool (← Op.equal t (.slice (some q) n c) (.slice none 0 0))):Sem Value).run P w=_
   rw [Sem.run_bind,he]; rfl
  ·rw [Sem.run_bind,hg]
   show (do pure (.bool (!(← Op.equal t (.slice (some q) n c) (.slice none 0 0)))):Sem Value).run P w=_
   rw [Sem.run_bind,he]; rfl
theorem nilD_ok {op:BinOp} {t:TypeId} {x y:Operand} {a a' b b' v:Value} (ho:nilD P m op t x y a b=some (v,m')) (ha:VR ρ a a') (hb:VR ρ b b') (hS:Sat m'.lg) :
  (∃ r,(do eqGuard op t x y a' b'; binOp op t a' b':Sem Value).run P w=.ok r w∧VR ρ v r)∧OnlyLg m m'∧m.lg.le m'.lg:=by
 unfold nilD at ho
 split at ho
 ·rename_i e k b0 i tg hu
  obtain ⟨hq,ho1⟩:=cond_some ho
  clear ho
  obtain ⟨hq,hk⟩:=boolAnd hq
  obtain ⟨hq,hcst⟩:=boolAnd hq
  have hbn:b'=.slice none 0 0:=by
   unfold isNilS at hq
   split at hq
   ·exact inv_sliceN hb
   ·cases hq
  subst hbn
  obtain ⟨nul,wd,rows,ad,n,c,e1,rfl,e2⟩:∃ nul wd rows ad n c,Ora.env i=.seq nul wd rows∧a'=.slice ad n c∧((ad=none∧n=0∧c=0∧nul=true)∨(nul=false∧∃ q:Addr,ad=some q∧n≤c)):=by
   have henc:∀ {l:Loc},Enc l.G (Ora.env i) a'→tagU (Ora.env i)=tg→10≤tg→∃ nul wd rows ad n c,Ora.env i=.seq nul wd rows∧a'=.slice ad n c∧((ad=none∧n=0∧c=0∧nul=true)∨(nul=false∧∃ q:Addr,ad=some q∧n≤c)):=fun h2 h3 h4=>by
    obtain ⟨nul,wd,rows,e1,_⟩:=enc_seq h2 h3 h4
    rw [e1] at h2
    rcases enc_cases h2 with ⟨rfl,rfl,rfl⟩|⟨rfl,q,c,rfl,hc⟩
    ·exact ⟨_,_,_,_,_,_,e1,rfl,.inl ⟨rfl,rfl,rfl,rfl⟩⟩
    ·exact ⟨_,_,_,_,_,_,e1,rfl,.inr ⟨rfl,q,rfl,hc⟩⟩
   rcases (Bool.or_eq_true _ _).mp hk with hk|hk
   ·rcases (Bool.or_eq_true _ _).mp hk with hk|hk
    ·have:=Nat.eq_of_beq_eq_true hk; subst this
     obtain ⟨l,_,h2,h3,h4⟩:=inv_dat ha
     exact henc h2 h3 h4
    ·have:=Nat.eq_of_beq_eq_true hk; subst this
     obtain ⟨l,_,h2,h3,h4,_⟩:=inv_clp ha
     exact henc h2 h3 h4
   ·have:=Nat.eq_of_beq_eq_true hk; subst this
    rcases (inv_own ha).1 with ⟨l,wd,h1,h2,h3,rfl⟩|⟨l,wd,rows,h1,h2,h3,h4,h40,rfl⟩
    ·exact ⟨_,_,_,_,_,_,h3,rfl,.inl ⟨rfl,rfl,rfl,rfl⟩⟩
    ·exact ⟨_,_,_,_,_,_,h3,rfl,.inr ⟨rfl,_,rfl,h40⟩⟩
  split at ho1
  ·rename_i r hl
   cases ho1
   obtain ⟨g1,g2,g3⟩:=nil_row (ρ:=ρ) hl e1 hS
   exact ⟨⟨_,run_isNil hu e2 (.inl rfl) w,g1⟩,g2,g3⟩
  ·rename_i hh m1 hl
   have hle:=letM_le ho1
   obtain ⟨g1,g2,g3⟩:=nil_row (ρ:=ρ) hl e1 (hS.le hle)
   obtain ⟨u,f1,f2,r,f3,f4,f5⟩:=letM_ok ho1 hS
   obtain ⟨rfl,hm1⟩:=letM_eq hl
   have hbv:argU Ora.env (hole m.lg.nx 8)=.bool nul:=by
    obtain ⟨q1,_⟩:=tag_val g1 (by show (8:Nat) < 10; omega)
    cases hq:argU Ora.env (hole m.lg.nx 8) with
    | bool b=>rw [hq] at q1; cases q1; rfl
    | int k n=>rw [hq] at q1; cases q1
    | str s=>rw [hq] at q1; cases q1
    | none=>rw [hq] at q1; cases q1
    | seq _ _ _=>rw [hq] at q1; cases q1
   have f1:ev1 .not (argU Ora.env (hole m.lg.nx 8))=u:=f1
   rw [hbv] at f1
   have f1:U.bool (!nul)=u:=f1
   subst f1; cases f3
   exact ⟨⟨_,run_isNil hu e2 (.inr rfl) w,f4 ρ⟩,g2.trans (letM_only ho1),g3.trans hle⟩
  ·cases ho1
 ·cases ho
theorem dsM_ok {fr:Fr} {g:Operand→Value} {o:Oper} {v:Value} (h:HR P base ρ m.H w) (hb:base≤w.heap.size) (ho:dsM P fr m o.op=some (v,m')) (hf:Free ρ m.n m'.hi) (hg:FR ρ fr g o.op) (hS:Sat m'.lg):NOk P base ρ m w (execOp g o) v m':=by
 obtain ⟨dst,op,ty,pos,af,gd⟩:=o
 simp only at ho hg
 have hx1:∀ {x},x ∈ op.operands.toList→VR ρ (ev fr x) (g x):=fun hx=>hg _ hx
 have fin:∀ {s:Sem Value},(∃ r,s.run P w=.ok r w∧VR ρ v r)→OnlyLg m m'→NOk P base ρ m w (do pure (.value (← s))) v m':=fun {s} ⟨r,h1,h2⟩ ⟨lg,hl⟩=>by
  subst hl
  exact NOk.of ⟨r,ρ,w,h1,h2,St.wLg h lg⟩
 unfold dsM at ho
 split at ho
 ·rename_i t x y
  exact NOk.of (makeD_ok h hb ho hf (hx1 (x:=x) (by simp [Op.operands])) (hx1 (x:=y) (by simp [Op.operands])) hS).1
 ·rename_i t x
  obtain ⟨g1,g2,_⟩:=loadD_ok (w:=w) h ho (hx1 (x:=x) (by simp [Op.operands])) hS
  exact fin (s:=Instr.loadAt t (g x)) g1 g2
 ·rename_i t x y
  obtain ⟨g1,rfl,_⟩:=storeD_ok h ho hf (hx1 (x:=x) (by simp [Op.operands])) (hx1 (x:=y) (by simp [Op.operands])) hS
  exact NOk.ofU (s:=Instr.storeAt t (g x) (g y)) g1
 ·rename_i t x i
  obtain ⟨g1,g2,_⟩:=indexAtD_ok (w:=w) ho (hx1 (x:=x) (by simp [Op.operands])) (hx1 (x:=i) (by simp [Op.operands])) hS
  exact fin (s:=Instr.indexAt t (g x) (g i)) g1 g2
 ·rename_i s x i
  obtain ⟨g1,rfl⟩:=fieldAtD_ok (w:=w) ho (hx1 (x:=x) (by simp [Op.operands]))
  exact fin (s:=Instr.fieldAt s (g x) i) g1 (.refl _)
 ·rename_i t x lo hi mx
  obtain ⟨g1,_⟩:=sliceD_ok h ho hf (hx1 (x:=x) (by simp [Op.operands])) (evO_OR (g:=g) fun y hy=>hx1 (by simp [Op.operands] at hy ⊢; exact .inr (.inl hy))) (evO_OR (g:=g) fun y hy=>hx1 (by simp [Op.operands] at hy ⊢; exact .inr (.inr (.inl hy)))) (evO_OR (g:=g) fun y hy=>hx1 (by simp [Op.operands] at hy ⊢; exact .inr (.inr (.inr hy)))) hS
  exact NOk.of (s:=Instr.sliceAt t (g x) (lo.map g) (hi.map g) (mx.map g)) g1
 ·rename_i s t x
  exact NOk.of (convD_ok h hb ho hf (hx1 (x:=x) (by simp [Op.operands])) hS).1
 ·rename_i op t x y yt
  obtain ⟨g1,g2,_⟩:=nilD_ok (w:=w) ho (hx1 (x:=x) (by simp [Op.operands])) (hx1 (x:=y) (by simp [Op.operands])) hS
  exact fin (s:=do eqGuard op t x y (g x) (g y); binOp op t (g x) (g y)) g1 g2
 ·rename_i xs tys
  have l1:=evL_LR (ρ:=ρ) (fr:=fr) (g:=g) (xs:=xs.toList) fun x hx=>hx1 (by show x ∈ (#[]++xs:Array Operand).toList; simpa using hx)
  split at ho
  ·rename_i x t rest he1 he2
   rw [he1] at l1
   obtain ⟨x',r1,e3,q1,q2⟩:=l1.tail
   have:=q2.nil_inv; subst this
   obtain ⟨g1,g2,_⟩:=lenD_ok (w:=w) (ty:=ty) (tys:=rest) ho q1 hS
   obtain ⟨ks,e2⟩:∃ ks,execOp g ⟨dst,.call ⟨.builtin .len,xs,tys⟩,ty,pos,af,gd⟩=builtin .len tys ty ks (xs.map g):=⟨#[],rfl⟩
   have e1:xs.map g=⟨xs.toList.map g⟩:=by apply Array.ext'; simp
   have e4:tys=⟨t::rest⟩:=by rw [← he2]
   rw [e2,e1,e3,e4]
   exact fin (s:=Builtin.len_ ⟨t::rest⟩ ty #[x']) g1 g2
  ·cases ho
 ·rename_i xs tys
  have l1:=evL_LR (ρ:=ρ) (fr:=fr) (g:=g) (xs:=xs.toList) fun x hx=>hx1 (by show x ∈ (#[]++xs:Array Operand).toList; simpa using hx)
  split at ho
  ·rename_i x y t t2 rest he1 he2
   rw [he1] at l1
   obtain ⟨x',r1,e3,q1,q2⟩:=l1.tail
   obtain ⟨y',r2,e5,q3,q4⟩:=q2.tail
   have:=q4.nil_inv; subst this
   have:=appendD_ok (ty:=ty) h hb ho hf q1 q3 hS
   obtain ⟨ks,e2⟩:∃ ks,execOp g ⟨dst,.call ⟨.builtin .append,xs,tys⟩,ty,pos,af,gd⟩=builtin .append tys ty ks (xs.map g):=⟨#[],rfl⟩
   have e1:xs.map g=⟨xs.toList.map g⟩:=by apply Array.ext'; simp
   have e4:tys=⟨t::t2::rest⟩:=by rw [← he2]
   rw [e2,e1,e3,e5,e4]
   have e:Builtin.append_ ⟨t::t2::rest⟩ ty #[x',y']=Builtin.append_ #[t,t2] ty #[x',y']:=rfl
   refine NOk.of (s:=Builtin.append_ ⟨t::t2::rest⟩ ty #[x',y']) ?_
   rw [e]; exact this
  ·cases ho
 ·cases ho
theorem getCells_le {wd o i t g:Nat} {z:Value}:∀ {ts:List Nat} {j:Nat} {m m':Mem} {r:List Value},getCells wd o i t z g ts j m=some (r,m')→m.lg.le m'.lg
 | [],j,m,m',r,h=>by cases h; exact .refl _
 | tg::ts,j,m,m',r,h=>by
   unfold getCells at h
   cases ht:Nat.blt tg 10 with
   | true =>
     rw [ht] at h
     simp only [cond_true] at h
     split at h
     ·rename_i hl
      split at h
      ·rename_i hr
       cases h
       exact (letM_le hl).trans (getCells_le hr)
      ·cases h
     ·cases h
   | false =>
     rw [ht] at h
     simp only [cond_false] at h
     rw [letDo_eq] at h
     split at h
     ·rename_i hr
      cases h
      exact dtLg_le.trans (getCells_le hr)
     ·cases h
theorem asLoad_le {t:TypeId} {r:Option (List Value × Mem)} {v:Value} (h:asLoad P t r=some (v,m')):∃ vs,r=some (vs,m'):=by
 unfold asLoad at h
 split at h
 ·cases h; exact ⟨_,rfl⟩
 ·cases h; exact ⟨_,rfl⟩
 ·cases h
theorem loadD_le {t:TypeId} {x v:Value} (ho:loadD P m t x=some (v,m')):m.lg.le m'.lg:=by
 unfold loadD at ho
 split at ho
 ·obtain ⟨_,ho⟩:=cond_some ho
  obtain ⟨vs,h⟩:=asLoad_le ho
  exact getCells_le h
 ·split at ho
  ·obtain ⟨_,ho⟩:=cond_some ho
   obtain ⟨vs,h⟩:=asLoad_le ho
   exact getCells_le h
  ·cases ho
 ·cases ho
theorem storeD_le {t:TypeId} {x y v:Value} (ho:storeD P m t x y=some (v,m')):m.lg.le m'.lg:=by
 unfold storeD at ho
 split at ho
 ·cases hw0:isWide y with
  | true=>rw [hw0] at ho; cases ho
  | false =>
    rw [hw0] at ho
    simp only [cond_false] at ho
    split at ho
    ·rename_i hd
     split at ho
     ·obtain ⟨_,ho⟩:=cond_some ho
      split at ho
      ·rename_i hj
       rw [letD_eq] at ho
       simp only [hole] at ho
       obtain ⟨hs,_⟩:=memM_some ho
       have md:=toDL_mono tdP_ok hd
       have mj:=joinD_mono hj
       refine md.2.1.trans ?_
       rw [(setM_eq hs).2,← mj.2.1]
       simp only [wLg_lg]
       exact ⟨[_],rfl⟩
      ·cases ho
     ·cases ho
    ·cases ho
 ·cases ho
theorem inbD_le {i t:Nat} {z k v:Value} (h:inbD m i t z k=some (v,m')):m.lg.le m'.lg:=by
 unfold inbD at h
 cases hq:!(Nat.blt (tagOf z) 8) with
 | true=>rw [hq] at h; cases h
 | false =>
   rw [hq] at h
   simp only [cond_false] at h
   split at h
   ·rename_i hl
    split at h
    ·rename_i hb
     cases h
     exact (letM_le hl).trans (brL_le hb)
    ·cases h
   ·cases h
theorem indexAtD_le {t:TypeId} {x z v:Value} (h:indexAtD P m t x z=some (v,m')):m.lg.le m'.lg:=by
 unfold indexAtD at h
 split at h
 all_goals first
  | (split at h
     ·obtain ⟨_,h⟩:=cond_some h; exact inbD_le h
     ·cases h; done)
  | (split at h
     ·obtain ⟨_,h⟩:=cond_some h; rw [forceN_eq] at h; cases h; exact .refl _
     ·cases h; done)
  | cases h
theorem fieldAtD_le {s:TypeId} {x v:Value} {f:Nat} (h:fieldAtD P m s x f=some (v,m')):m.lg.le m'.lg:=by
 unfold fieldAtD at h
 split at h
 all_goals first
  | (split at h
     ·split at h
      ·obtain ⟨_,h⟩:=cond_some h; rw [forceN_eq] at h; cases h; exact .refl _
      ·cases h
     ·cases h; done)
  | cases h
theorem cutD_le {b i t:Nat} {cl:Bool} {lo hi mx:Option Value} {v:Value} (ho:cutD m b i t cl lo hi mx=some (v,m')):m.lg.le m'.lg:=by
 have go:∀ {m1:Mem} {l h:Value} {cc:Bool},cutGo m1 b i t l h cc=some (v,m')→m1.lg.le m'.lg:=fun h=>by
  unfold cutGo at h
  obtain ⟨_,h⟩:=cond_some h
  rw [letD_eq] at h
  simp only [Option.some.injEq,Prod.mk.injEq] at h
  obtain ⟨_,rfl⟩:=h
  exact dtLg_le
 unfold cutD cutD2 at ho
 split at ho
 ·exact go ho
 ·exact go (cond_some ho).2
 ·split at ho
  ·rename_i hl
   exact (lenH_only hl).2.trans (go ho)
  ·cases ho
 ·cases ho
theorem sliceD_le {t:TypeId} {x v:Value} {lo hi mx:Option Value} (ho:sliceD P m t x lo hi mx=some (v,m')):m.lg.le m'.lg:=by
 unfold sliceD at ho
 split at ho
 ·split at ho
  ·exact cutD_le (cond_some ho).2
  ·cases ho
 ·split at ho
  ·exact cutD_le (cond_some ho).2
  ·cases ho
 ·split at ho
  ·obtain ⟨_,ho⟩:=cond_some ho
   split at ho
   ·rename_i hd
    exact (toD_mono hd).2.1.trans (cutD_le ho)
   ·cases ho
  ·cases ho
 ·cases ho
theorem convD_le {s t:TypeId} {x v:Value} (ho:convD P m s t x=some (v,m')):m.lg.le m'.lg:=by
 unfold convD at ho
 split at ho
 ·split at ho
  ·split at ho
   ·exact letM_le (cond_some ho).2
   ·cases ho
  ·cases ho
 ·split at ho
  ·split at ho
   ·rename_i hd
    rw [keepM_eq] at ho
    have h2:=letM_le ho
    exact (toD_mono hd).2.1.trans h2
   ·cases ho
  ·cases ho
 ·obtain ⟨_,ho⟩:=cond_some ho
  split at ho
  ·split at ho
   ·split at ho
    ·rename_i hj
     rw [letD_eq] at ho
     simp only [hole] at ho
     have mj:=joinD_mono hj
     rw [(newSq_mono ho).2.1,wLg_lg,← mj.2.1]
     exact ⟨[_],rfl⟩
    ·cases ho
   ·cases ho
  ·cases ho
 ·cases ho
theorem nilD_le {op:BinOp} {t:TypeId} {x y:Operand} {a b v:Value} (ho:nilD P m op t x y a b=some (v,m')):m.lg.le m'.lg:=by
 unfold nilD at ho
 split at ho
 ·obtain ⟨_,ho1⟩:=cond_some ho
  clear ho
  split at ho1
  ·rename_i hl
   cases ho1
   exact letM_le hl
  ·rename_i hl
   exact (letM_le hl).trans (letM_le ho1)
  ·cases ho1
 ·cases ho
theorem makeD_le {t:TypeId} {l c v:Value} (ho:makeD P m t l c=some (v,m')):m.lg.le m'.lg:=by
 unfold makeD at ho
 split at ho
 ·obtain ⟨_,ho⟩:=cond_some ho
  split at ho
  ·obtain ⟨_,ho⟩:=cond_some ho
   split at ho
   ·obtain ⟨_,ho⟩:=cond_some ho
    split at ho
    ·rename_i hj
     rw [letD_eq] at ho
     simp only [hole] at ho
     have mj:=joinD_mono hj
     rw [(newSq_mono ho).2.1,wLg_lg,← mj.2.1]
     exact ⟨[_],rfl⟩
    ·cases ho
   ·cases ho
  ·cases ho
 ·cases ho
theorem dsM_lg {fr:Fr} {o:Op} {v:Value} (ho:dsM P fr m o=some (v,m')):m.lg.le m'.lg:=by
 unfold dsM at ho
 split at ho
 ·exact makeD_le ho
 ·exact loadD_le ho
 ·exact storeD_le ho
 ·exact indexAtD_le ho
 ·exact fieldAtD_le ho
 ·exact sliceD_le ho
 ·exact convD_le ho
 ·exact nilD_le ho
 ·split at ho
  ·unfold lenD at ho
   split at ho
   ·exact (lenH_only ho).2
   ·exact (lenH_only ho).2
   ·exact (lenH_only ho).2
   ·cases ho
  ·cases ho
 ·split at ho
  ·exact (appendD_mono ho).2.1
  ·cases ho
 ·cases ho
end
end Go.Sx

namespace Go.Sx
set_option linter.all false
open Go
set_option linter.unusedVariables false
set_option linter.unusedSimpArgs false
variable [Ora]
section
variable {P:Program} {base:Nat} {ρ:Ren} {m m':Mem} {w:World}
omit [Ora] in
theorem bytU_eqG {G:Nat→Option Obj}:∀ {us:List U} {s:List UInt8} {vs:List Value},bytU us=some s→EncL G us vs→∃ ns:List Int,vs=ns.map (Value.int .u8)∧s=ns.map fun n=>UInt8.ofNat n.toNat
 | [],s,vs,h,he=>by
   cases h
   have:vs=[]:=List.length_eq_zero_iff.1 he.1.symm
   subst this
   exact ⟨[],rfl,rfl⟩
 | u::us,s,vs,h,he=>by
   unfold bytU at h
   split at h
   ·rename_i heq; cases heq
   ·rename_i n r heq
    cases heq
    split at h
    ·split at h
     ·rename_i l hl
      cases h
      cases vs with
      | nil=>have:=he.1; simp at this
      | cons v vr =>
        obtain ⟨ns,e1,e2⟩:=bytU_eqG (vs:=vr) hl ⟨by have:=he.1; simpa using this,fun i a b h1 h2=>he.2 (i+1) a b (by simpa using h1) (by simpa using h2)⟩
        have:=enc_toV (he.2 0 _ v rfl rfl) rfl
        subst this
        exact ⟨(Int.ofNat n)::ns,by rw [e1]; rfl,by rw [e2]; rfl⟩
     ·cases h
    ·cases h
   ·cases h
theorem sizeM_eq {t:TypeId} {n:Nat} (h:sizeM P t=some n):∃ inf,P.info? t=some inf∧inf.size=n:=by
 unfold sizeM at h
 cases hi:P.info? t with
 | none=>rw [hi] at h; cases h
 | some inf=>rw [hi] at h; exact ⟨inf,rfl,Option.some.inj h⟩
theorem same_layout (d:Nat) (t:TypeId):sameLayout P (d+1) t t=true:=by simp [sameLayout]
theorem depth_eq:∃ d,P.depth=d+1:=⟨2 * (P.types.size+Made.depth)+1,rfl⟩
theorem liesAt_one {T:TypeId} {n off:Nat} (hs:P.cellsOf T≠0) (hr:off % P.cellsOf T=0) (hn:off / P.cellsOf T+1≤n):liesAt P P.depth T n off T 1=true:=by
 obtain ⟨d,hd⟩:=depth_eq (P:=P)
 have h1:rowAt P (sameLayout P P.depth · T) P.depth T n off 1=true:=by
  rw [hd]
  unfold rowAt
  simp only [hs,if_false,hr,same_layout]
  simp [hn]
 rw [hd] at h1 ⊢
 unfold liesAt
 rw [hd,h1]; rfl
theorem convU_ok {s t:TypeId} {x x' v:Value} (h:HR P base ρ m.H w) (ho:convU P m s t x=some (v,m')) (hx:VR ρ x x'):VOk P base ρ m w (convert s t x') v m':=by
 unfold convU at ho
 split at ho
 ·rename_i e b o hs ht
  obtain ⟨l,hl,_,rfl⟩:=inv_ptr hx
  split at ho
  ·rename_i k cs T ro hsz hg
   obtain ⟨hlt,ho⟩:=cond_some ho
   have hlt:o < cs.length:=Nat.le_of_ble_eq_true hlt
   cases ho
   obtain ⟨inf,hinf,hk⟩:=sizeM_eq hsz
   obtain ⟨⟨hon,C,fz,T',h1,h2,_⟩,_⟩:=h.atl hl hg
   obtain ⟨v',h3,_⟩:=h2 o cs[o] (List.getElem?_eq_getElem hlt)
   have hlt2:l.sh+o < C.size:=(Array.getElem?_eq_some_iff.1 h3).1
   exact VOk.same h (Lib.run_to_unsafe w ⟨l.blk,o+l.sh,none⟩ hs ht hinf (by omega) (show w.shape? l.blk=some (T',C.size) by simp [World.shape?,h1]) (by show o+l.sh < C.size; omega)) hx
  ·cases ho
 ·rename_i u b hs ht
  obtain ⟨l,hl,_,rfl⟩:=inv_ptr hx
  split at ho
  ·rename_i k cs T hsz hg
   obtain ⟨hq,ho1⟩:=cond_some ho
   clear ho
   obtain ⟨q1,q2⟩:=boolAnd hq
   have q1:=Nat.eq_of_beq_eq_true q1
   have q2:=Nat.eq_of_beq_eq_true q2
   clear hq
   subst q1
   cases ho1
   obtain ⟨inf,hinf,hk⟩:=sizeM_eq hsz
   obtain ⟨⟨hon,C,fz,T',h1,h2,h3⟩,_⟩:=h.atl hl hg
   obtain ⟨rfl,_,h4⟩:=h3 rfl
   obtain ⟨_,h5⟩:=h4 inf hinf
   have hc:P.cellsOf T'=k+1:=by unfold Program.cellsOf; rw [hinf]; exact hk
   have hlast:k < cs.length:=by omega
   obtain ⟨v',h6,_⟩:=h2 k cs[k] (List.getElem?_eq_getElem hlast)
   have hlt2:l.sh+k < C.size:=(Array.getElem?_eq_some_iff.1 h6).1
   refine VOk.same h (Lib.run_from_unsafe w ⟨l.blk,0+l.sh,none⟩ hs ht hinf (show w.shape? l.blk=some (T',C.size) by simp [World.shape?,h1]) ?_) hx
   show liesAt P P.depth T' (C.size / P.cellsOf T') (0+l.sh) T' 1=true
   rw [Nat.zero_add]
   refine liesAt_one (by omega) (by rw [hc]; rw [hk] at h5; exact h5) ?_
   rw [hc]
   have h5:l.sh % (k+1)=0:=by rw [hk] at h5; exact h5
   have e1:l.sh=(k+1) * (l.sh / (k+1)):=by have:=Nat.div_add_mod l.sh (k+1); omega
   refine (Nat.le_div_iff_mul_le (by omega)).2 ?_
   rw [Nat.add_mul,Nat.one_mul,Nat.mul_comm]
   omega
  ·cases ho
 ·cases ho
theorem ptrEq_ok {op:BinOp} {t:TypeId} {x y:Operand} {a a' b b' v:Value} (h:HR P base ρ m.H w) (ho:ptrEq P m op t a b=some (v,m')) (ha:VR ρ a a') (hb:VR ρ b b'):VOk P base ρ m w (do eqGuard op t x y a' b'; binOp op t a' b') v m':=by
 unfold ptrEq at ho
 split at ho
 ·rename_i e b1 o1 b2 o2 hu
  obtain ⟨hq,ho1⟩:=cond_some ho
  clear ho
  obtain ⟨q1,q2⟩:=boolAnd hq
  have q1:=Nat.eq_of_beq_eq_true q1
  have q2:=Nat.eq_of_beq_eq_true q2
  clear hq
  subst q1; subst q2
  obtain ⟨l,hl,_,rfl⟩:=inv_ptr ha
  obtain ⟨l2,hl2,_,rfl⟩:=inv_ptr hb
  rw [hl] at hl2
  have:=Option.some.inj hl2; subst this
  have heq:∀ j,P.info? e=some j→∀ d:Nat,(Op.equalIn (d+1) t (.pointer (some ⟨l.blk,o1+l.sh,none⟩)) (.pointer (some ⟨l.blk,o1+l.sh,none⟩))).run P w=.ok true w:=fun j hj d=>by
   simp [Op.equalIn,run_underlying hu,sizeOf,typeInfo,hj,run_sameAddr_same]
  have hgd:(eqGuard op t x y (.pointer (some ⟨l.blk,o1+l.sh,none⟩)) (.pointer (some ⟨l.blk,o1+l.sh,none⟩))).run P w=.ok () w:=by
   unfold eqGuard
   split <;> simp
  split at ho1
  ·rename_i j hj
   cases ho1
   refine VOk.same h (v':=.bool true) ?_ (.pure rfl)
   rw [Sem.run_bind,hgd]
   simp [Result.andThen,binOp,Op.equal,Op.maxDepth,heq j hj 9999]
  ·rename_i j hj
   cases ho1
   refine VOk.same h (v':=.bool false) ?_ (.pure rfl)
   rw [Sem.run_bind,hgd]
   simp [Result.andThen,binOp,Op.equal,Op.maxDepth,heq j hj 9999]
  ·cases ho1
 ·cases ho
theorem St.laid {o:Obj} (h:HR P base ρ m.H w):St P base ρ ρ m m w { w with heap:=w.heap.push o } :=
 have hk:∀ k,k < w.heap.size→(w.heap.push o)[k]? = w.heap[k]? := fun k hk=>by rw [Array.getElem?_push,if_neg (by omega)]
 ⟨fun _ _ h=>h,fun b l h1 h2=>(by rw [h1] at h2; cases h2),Nat.le_refl _,Nat.le_refl _,fun h=>h,
  ⟨h.dom,fun id hid ab hab=>by
    obtain ⟨l,h1,h2,h3⟩:=h.at_ id hid ab hab
    exact ⟨l,h1,h2.mono (fun _ _ h=>h) (fun k hk2=>hk k (h2.tc hk2)),h3⟩⟩,
  fun _ h=>h,fun b h1 h2=>absurd h1 h2,fun k hk2 _=>hk k hk2,by simp,⟨rfl,rfl,rfl⟩,fun b l h1 h2=>(by rw [h1] at h2; cases h2),fun _ _ _ _=>rfl,fun _ h=>.inr h⟩
theorem sdM_ok {ty:TypeId} {tys:Array TypeId} {x x' v:Value} (h:HR P base ρ m.H w) (ho:sdM P m ty x=some (v,m')) (hx:VR ρ x x'):VOk P base ρ m w (Builtin.unsafeSliceData_ tys ty #[x']) v m':=by
 unfold sdM at ho
 split at ho
 ·rename_i e he
  split at ho
  ·rename_i b i t
   split at ho
   ·rename_i c tc T g ro hg
    cases ho
    have hx:VR ρ (own b i t) x':=hx
    rcases (inv_own hx).1 with ⟨l,wd,h1,h2,h3,rfl⟩|⟨l,wd,rows,h1,h2,h3,h4,h5,rfl⟩
    ·exact VOk.same h rfl (.sdt ⟨l,h1,.inl ⟨h2,rfl⟩⟩)
    ·have hdef:Builtin.unsafeSliceData_ tys ty #[.slice (some ⟨l.blk,l.sh,none⟩) l.len l.cap]=(do
       if l.cap≠0 then pure (.pointer (some ⟨l.blk,l.sh,none⟩))
       else if (← viewAt l.blk).isSome then pure (.pointer (some ⟨l.blk,l.sh,none⟩))
       else pure (.pointer (some ⟨← newObj (.view ⟨l.blk,l.sh,none⟩ (← elemOf ty)),0,none⟩))):=rfl
     rw [hdef]
     by_cases hc:l.cap=0
     ·rw [if_neg (by simpa using hc)]
      obtain ⟨wd2,inf,_,_,_,k4⟩:=SqR.ex (h.atl h1 hg).1
      rcases k4 with ⟨k5,_⟩|⟨_,k5⟩
      ·rw [h2] at k5; cases k5
      ·obtain ⟨C,fz,T',rows2,lg,j1,_⟩:=k5
       have hsh:w.shape? l.blk=some (T',C.size):=by simp [World.shape?,j1]
       refine ⟨.pointer (some ⟨w.heap.size,0,none⟩),ρ,{ w with heap:=w.heap.push (.view ⟨l.blk,l.sh,none⟩ e) },?_,.sdt ⟨l,h1,.inr ⟨h2,_,rfl,fun h=>absurd hc h⟩⟩,St.laid h⟩
       simp [viewAt,hsh,elemOf,run_und he,newObj,Sem.run,Sem.run_bind,Result.andThen]
     ·rw [if_pos hc]
      exact VOk.same h rfl (.sdt ⟨l,h1,.inr ⟨h2,_,rfl,fun _=>rfl⟩⟩)
   ·cases ho
  ·cases ho
 ·cases ho
theorem usM_ok {pt ty:TypeId} {tys:List TypeId} {p l p' l' v:Value} (h:HR P base ρ m.H w) (ho:usM P m pt p l=some (v,m')) (hp:VR ρ p p') (hl:VR ρ l l') (hS:Sat m'.lg) (hf:Free ρ m.n m'.hi) :
  VOk P base ρ m w (Builtin.unsafeString_ ⟨pt::tys⟩ ty #[p',l']) v m':=by
 have hmax:IntKind.i64.max=9223372036854775807:=rfl
 unfold usM at ho
 split at ho
 ·rename_i b
  obtain ⟨htl,ho⟩:=cond_some ho
  have htl:tagOf l < 8:=Nat.le_of_ble_eq_true htl
  obtain ⟨k,n0,rfl,hn1,_⟩:=tag_int hl htl
  split at ho
  ·rename_i c tc T g e hg hpt
   obtain ⟨hq,ho1⟩:=cond_some ho
   clear ho
   obtain ⟨q1,q2⟩:=boolAnd hq
   have q1:=Nat.eq_of_beq_eq_true q1
   have q2:=Nat.eq_of_beq_eq_true q2
   clear hq
   subst q1; subst q2
   split at ho1
   ·rename_i u m1 hsz hlet
    split at ho1
    ·rename_i m2 hset
     cases ho1
     have hlg:=setM_lg hset
     have hS1:Sat m1.lg:=by rw [← hlg]; exact hS
     obtain ⟨u0,e1,e2,r,e3,e4,e5⟩:=letM_ok hlet hS1
     obtain ⟨lg,rfl⟩:=letM_only hlet
     obtain ⟨l0,hl0,hv⟩:=inv_sdt (show VR ρ (sdt b) p' from hp)
     have hst:=St.wLg h lg
     obtain ⟨wd,inf,k1,k2,k3,k4⟩:=SqR.ex (h.atl hl0 hg).1
     have hwd:wd=1:=by omega
     subst hwd
     have hev:evU .ustr [Ora.env c,.int k n0]=u0:=by
      have:argU Ora.env (hole c 11)=Ora.env c:=rfl
      rw [← this,← hn1]; exact e1
     have hsb:∀ nul rows,Ora.env c=.seq nul 1 rows→∃ (n:Nat) (sb:List UInt8),n0=(n:Int)∧n≤rows.length∧n≤1000000000∧bytR (rows.take n)=some sb∧u0=.str sb:=fun nul rows hc=>by
      rw [hc] at hev
      cases n0 with
      | negSucc z=>have:u0=.none:=hev.symm; subst this; cases e3
      | ofNat n =>
        have hev:(if 1=1∧n≤rows.length∧n≤bigN then match bytR (rows.take n) with
         | some s=>U.str s
         | none=>.none else .none)=u0:=hev
        split at hev
        ·rename_i hc2
         split at hev
         ·rename_i sb hsb; exact ⟨n,sb,rfl,hc2.2.1,hc2.2.2,hsb,hev.symm⟩
         ·subst hev; cases e3
        ·subst hev; cases e3
     have hcell:P.cellsOf e=1:=by unfold Program.cellsOf; rw [k2]; exact k3
     have hsame:∀ {ρ:Ren} {w:World} {lx:Loc},BR P ρ (.sq c 11 e g false) lx w→BR P ρ (.sq c 11 e g true) lx w:=fun hb=>by
      obtain ⟨wd,inf,k1,k2,k3,k4⟩:=SqR.ex hb
      refine ⟨⟨wd,inf,k1,k2,k3,k4.imp (fun x=>x) fun ⟨a,C,fz,T',rows,lg,b1,b2,b3,b4,b5,b6,b7,b8,_⟩=>⟨a,C,fz,T',rows,lg,b1,b2,b3,b4,b5,b6,b7,b8,fun hh=>by cases hh⟩⟩⟩
     have hg':Hp.get (m.wLg lg).H b=some (.sq c 11 e g false):=by rw [wLg_H]; exact hg
     have hsts:St P base ρ ρ m m' w w:=St.trans hf hst (St.same0 hst.hr hset hg' rfl hl0 (hsame (hst.hr.atl hl0 hg').1) fun q hq=>hq.imp (fun ⟨_,b⟩=>⟨rfl,b⟩) fun ⟨hh,_⟩=>by cases hh)
     rcases hv with ⟨hoff,rfl⟩|⟨hon,a,rfl,ha⟩
     ·rcases k4 with ⟨_,k5⟩|⟨k5,_⟩
      ·obtain ⟨n,sb,rfl,j1,_,j2,rfl⟩:=hsb _ _ k5
       have hn:n=0:=by simpa using j1
       subst hn
       cases j2
       cases e3
       refine ⟨.string ByteArray.empty,ρ,w,?_,e4 ρ,hsts⟩
       have hdef:Builtin.unsafeString_ ⟨pt::tys⟩ ty #[.pointer none,.int k ((0:Nat):Int)] =
         (do
           let n ← asInt (.int k ((0:Nat):Int))
           if n < 0 then runtimePanic (.error "unsafe.String: len out of range")
           if n > IntKind.i64.max then unsupported (.unsafePointer "String: a length above the largest int")
           if n=0 then pure (.string .empty)
           else runtimePanic (.error "unsafe.String: ptr is nil and len is not zero")):=rfl
       rw [hdef]
       simp [asInt,asIntOf,hmax]
      ·rw [hoff] at k5; cases k5
     ·rcases k4 with ⟨k5,_⟩|⟨_,k5⟩
      ·rw [hon] at k5; cases k5
      obtain ⟨C,fz,T',rows,lg2,z1,z2,z3,z4,z5,z6,z7,z8,z9⟩:=k5
      obtain ⟨rfl,z10⟩:=z9 rfl
      obtain ⟨n,sb,rfl,j1,j0,j2,rfl⟩:=hsb _ _ z2
      cases e3
      have hdef:Builtin.unsafeString_ ⟨pt::tys⟩ ty #[.pointer (some a),.int k (n:Int)] =
       (do
         let n ← asInt (.int k (n:Int))
         if n < 0 then runtimePanic (.error "unsafe.String: len out of range")
         if n > IntKind.i64.max then unsupported (.unsafePointer "String: a length above the largest int")
         if n=0 then pure (.string .empty)
         else if ← variablesAt a (← elemOf pt) n.toNat then do
          let s ← loadBytes a .empty n.toNat
          freeze a n.toNat
          pure (.string s)
         else unsupported (.unsafePointer "String: not so many bytes at ptr")):=rfl
      have hneg:¬ (n:Int) < 0:=by omega
      have hbig:¬ (9223372036854775807:Int) < (n:Int):=by omega
      by_cases hz2:n=0
      ·subst hz2
       cases j2
       refine ⟨.string ByteArray.empty,ρ,w,?_,e4 ρ,hsts⟩
       rw [hdef]
       simp [asInt,asIntOf,hmax]
      ·have hz:¬ (n:Int)=0:=by omega
       have hcap:l0.cap≠0:=by omega
       have ha:=ha hcap
       subst ha
       obtain ⟨y1,y2,y3⟩:=bytR_eq j2
       have hlen:(rows.take n).length=n:=by simp; omega
       have hin:l0.sh+n≤C.size:=by omega
       obtain ⟨ns,r1,r2⟩:∃ ns:List Int,(C.toList.drop l0.sh).take n=ns.map (Value.int .u8)∧sb=ns.map fun n=>UInt8.ofNat n.toNat:=by
        refine bytU_eqG (G:=lg2.G) y1 ⟨by rw [y2,hlen]; simp; omega,fun i u v b1 b2=>?_⟩
        have hil:i < n:=by have:=(List.getElem?_eq_some_iff.1 b1).1; rw [y2,hlen] at this; exact this
        have hir:i < rows.length:=by omega
        have hrow:rows[i]? = some rows[i]:=List.getElem?_eq_getElem hir
        have hrow2:(rows.take n)[i]? = some rows[i]:=by rw [List.getElem?_take_of_lt hil]; exact hrow
        have hrl:rows[i].length=1:=z6 _ (List.getElem_mem hir)
        have h0:rows[i][0]? = some (rows[i][0]'(by omega)):=List.getElem?_eq_getElem (by omega)
        obtain ⟨_,k4⟩:=y3 i _ 0 _ hrow2 h0
        rw [b1] at k4
        have k4:=Option.some.inj k4
        rw [k4]
        have hc:C[l0.sh+i * 1+0]? = some v:=by
         rw [List.getElem?_take_of_lt hil,List.getElem?_drop] at b2
         simpa using b2
        exact z8 i _ 0 _ v hrow h0 hc
       have hnl:ns.length=n:=by
        have:=congrArg List.length r1
        simp at this; omega
       have hcells:∀ (j:Nat) (v:Value),(ns.map (Value.int .u8))[j]? = some v→w.cell? ⟨l0.blk,l0.sh+j,none⟩=some v:=fun j v hj=>by
        rw [← r1] at hj
        have hjn:j < n:=by have:=(List.getElem?_eq_some_iff.1 hj).1; simp at this; omega
        rw [List.getElem?_take_of_lt hjn,List.getElem?_drop] at hj
        simp only [World.cell?,z1]
        simpa using hj
       have hlb:=run_loadBytes' (P:=P) (w:=w) ns l0.blk l0.sh .empty hcells
       rw [hnl] at hlb
       have hsh:w.shape? l0.blk=some (T',C.size):=by simp [World.shape?,z1]
       have hlies:=liesAt_off (P:=P) hcell (C.size / P.cellsOf T') l0.sh n (by rw [hcell]; simpa using hin)
       have st2:St P base ρ ρ (m.wLg lg) m' w (w.freeze ⟨l0.blk,l0.sh,none⟩ n):=by
        refine St.write hst.hr hset hg' rfl hl0 hon ?_ ?_ ?_ ?_
        ·simp [World.freeze,hz2]
        ·simp [World.freeze,hz2]
        ·intro j hj
         simp only [World.freeze,hz2,if_false,Array.getElem?_modify]
         rw [if_neg (fun e=>hj e.symm)]
        ·refine ⟨⟨1,inf,rfl,k2,k3,.inr ⟨hon,C,(if fz.1 == fz.2 then (l0.sh,l0.sh+n) else (min fz.1 l0.sh,max fz.2 (l0.sh+n))),T',rows,lg2,?_,z2,z3,z4,z5,z6,z7,z8,fun hc=>by cases hc⟩⟩⟩
         simp only [World.freeze,hz2,if_false,Array.getElem?_modify,if_true,z1,Option.map_some]
       refine ⟨.string ⟨⟨sb⟩⟩,ρ,w.freeze ⟨l0.blk,l0.sh,none⟩ n,?_,e4 ρ,St.trans hf hst st2⟩
       rw [hdef]
       simp [asInt,asIntOf,hmax,hneg,hbig,hz,hz2,variablesAt,hsh,elemOf,run_und hpt,hlies,hlb,freeze,Sem.run,Sem.run_bind,Result.andThen,r2]
    ·cases ho1
   ·cases ho1
  ·cases ho
 ·cases ho
theorem xtM_ok {fr:Fr} {g:Operand→Value} {o:Oper} {v:Value} (h:HR P base ρ m.H w) (hb:base≤w.heap.size) (ho:xtM P fr m o=some (v,m')) (hf:Free ρ m.n m'.hi) (hg:FR ρ fr g o.op) (hS:Sat m'.lg):NOk P base ρ m w (execOp g o) v m':=by
 obtain ⟨dst,op,ty,pos,af,gd⟩:=o
 unfold xtM at ho
 simp only at ho hg
 have hx1:∀ {x},x ∈ op.operands.toList→VR ρ (ev fr x) (g x):=fun hx=>hg _ hx
 split at ho
 ·rename_i s t x
  exact NOk.of (convU_ok h ho (hx1 (x:=x) (by simp [Op.operands])))
 ·rename_i op t x y yt
  exact NOk.of (ptrEq_ok h ho (hx1 (x:=x) (by simp [Op.operands])) (hx1 (x:=y) (by simp [Op.operands])))
 ·rename_i xs tys
  have l1:=evL_LR (ρ:=ρ) (fr:=fr) (g:=g) (xs:=xs.toList) fun y hy=>hg y (by show y ∈ (#[]++xs:Array Operand).toList; simpa using hy)
  split at ho
  ·rename_i x hx
   rw [hx] at l1
   obtain ⟨x',r1,e1,g1,g2⟩:=l1.tail
   cases g2.nil_inv
   have e2:xs.map g=#[x']:=by apply Array.ext'; simpa using e1
   have:=sdM_ok (tys:=tys) h ho g1
   have hn:=NOk.of this
   obtain ⟨ks,e3⟩:∃ ks,execOp g ⟨dst,.call ⟨.builtin .unsafeSliceData,xs,tys⟩,ty,pos,af,gd⟩=builtin .unsafeSliceData tys ty ks (xs.map g):=⟨#[],rfl⟩
   rw [e3,e2]; exact hn
  ·cases ho
 ·rename_i xs tys
  have l1:=evL_LR (ρ:=ρ) (fr:=fr) (g:=g) (xs:=xs.toList) fun y hy=>hg y (by show y ∈ (#[]++xs:Array Operand).toList; simpa using hy)
  split at ho
  ·rename_i p l t rest hx ht
   rw [hx] at l1
   obtain ⟨x',r1,e1,g1,g2⟩:=l1.tail
   obtain ⟨y',r2,rfl,g3,g4⟩:=g2.tail
   cases g4.nil_inv
   have e2:xs.map g=#[x',y']:=by apply Array.ext'; simpa using e1
   have hn:=NOk.of (usM_ok (ty:=ty) (tys:=rest) h ho g1 g3 hS hf)
   obtain ⟨ks,e3⟩:∃ ks,execOp g ⟨dst,.call ⟨.builtin .unsafeString,xs,tys⟩,ty,pos,af,gd⟩=builtin .unsafeString tys ty ks (xs.map g):=⟨#[],rfl⟩
   have e4:tys=⟨t::rest⟩:=by rw [← ht]
   rw [e3,e2,e4]; exact hn
  ·cases ho
 ·cases ho
theorem xtM_lg {fr:Fr} {o:Oper} {v:Value} (ho:xtM P fr m o=some (v,m')):m.lg.le m'.lg:=by
 unfold xtM at ho
 split at ho
 ·unfold convU at ho
  split at ho
  ·split at ho
   ·obtain ⟨_,ho⟩:=cond_some ho; cases ho; exact .refl _
   ·cases ho
  ·split at ho
   ·obtain ⟨_,ho⟩:=cond_some ho; cases ho; exact .refl _
   ·cases ho
  ·cases ho
 ·unfold ptrEq at ho
  split at ho
  ·obtain ⟨_,ho⟩:=cond_some ho
   split at ho
   ·cases ho; exact .refl _
   ·cases ho; exact .refl _
   ·cases ho
  ·cases ho
 ·split at ho
  ·unfold sdM at ho
   split at ho
   ·split at ho
    ·split at ho
     ·cases ho; exact .refl _
     ·cases ho
    ·cases ho
   ·cases ho
  ·cases ho
 ·split at ho
  ·unfold usM at ho
   split at ho
   ·obtain ⟨_,ho⟩:=cond_some ho
    split at ho
    ·obtain ⟨_,ho⟩:=cond_some ho
     split at ho
     ·rename_i hl
      split at ho
      ·rename_i hs
       cases ho
       rw [setM_lg hs]
       exact letM_le hl
      ·cases ho
     ·cases ho
    ·cases ho
   ·cases ho
  ·cases ho
 ·cases ho
end
end Go.Sx

namespace Go.Sx
set_option linter.all false
open Go
set_option linter.unusedVariables false
def fw (rd:Option Nat):Fence:={ Fence.wide with round:=rd }
theorem fw_depth {rd:Option Nat} {n:Nat}:(fw rd).depth.isSome=true→1≤n:=fun h=>by cases h
theorem callsIn_fw {rd:Option Nat} {n:Nat} {P:Program} {f:FuncId} {args:Array Value} {w:World} {R:Ending→World→Prop}:CallsIn (fw rd) n P f args w R↔Calls P f args w R :=
 ⟨fun h=>callsIn_wide.1 (show CallsIn Fence.wide n P f args w R from h),fun h=>show CallsIn (fw rd) n P f args w R from (callsIn_wide (n:=n)).2 h⟩
section
variable {P:Program} {rd:Option Nat}
def wpO (P:Program) (rd:Option Nat) (o:Oper) (a:Act) (w:World) (K:Act→World→Prop) (Q:Exit→Act→World→Prop):Prop:=o.wpIn (fw rd) 0 P a w K Q
theorem wpO_mono {o:Oper} {a:Act} {w:World} {K K':Act→World→Prop} {Q:Exit→Act→World→Prop} (h:∀ a w,K a w→K' a w) (hh:wpO P rd o a w K Q):wpO P rd o a w K' Q:=by
 unfold wpO Oper.wpIn at *
 refine ⟨hh.1,?_⟩
 have hh:=hh.2
 generalize (o.semAt (fw rd).round a.eval).run P w=r at *
 cases r with
 | ok n w' =>
   cases n <;> simp only [Oper.uponIn] at hh ⊢ <;>
    first
     | exact h _ _ hh
     | exact ⟨hh.1,CallsIn.mono hh.2 (fun e w'' he=>by cases e <;> first|exact h _ _ he|exact he)⟩
     | exact ⟨hh.1,RowsIn.mono hh.2 (fun _ _ he=>h _ _ he)⟩
     | exact ⟨hh.1,RoundIn.mono hh.2 (fun e w'' he=>by cases e <;> first|exact h _ _ he|exact he)⟩
 | halt x w'=>cases x <;> simp only [Oper.uponIn] at hh ⊢ <;> exact hh
def wpL (P:Program) (rd:Option Nat) (ops:Array Oper) (Q:Exit→Act→World→Prop):List Oper→Act→World→Prop
 | [],a,w=>Q .normal a w
 | o::rest,a,w=>if Region.wanted o (yielded ops a.tmps) then wpO P rd o a w (wpL P rd ops Q rest) Q else wpL P rd ops Q rest (a.put o.dst undef) w
theorem wpL_step {ops:Array Oper} {Q:Exit→Act→World→Prop} {a:Act} {w:World} {rest:List Oper} {o:Oper}
  (h:∀ K:Act→World→Prop,(∀ a w,wpL P rd ops Q rest a w→K a w)→if Region.wanted o (yielded ops a.tmps) then wpO P rd o a w K Q else K (a.put o.dst undef) w):wpL P rd ops Q (o::rest) a w:=h _ fun _ _ h=>h
theorem wpL_ops {ops:Array Oper} {Q:Exit→Act→World→Prop}:∀ (l:List Oper) (k:Nat),(∀ j,l[j]? = ops[k+j]?)→∀ a w,wpL P rd ops Q l a w→wpOpsIn (fw rd) 0 P ops Q (List.range' k l.length) a w
 | [],k,_,a,w,h=>h
 | o::l,k,hk,a,w,h=>by
   have h0:ops[k]? = some o:=by simpa using (hk 0).symm
   have ih:=wpL_ops (Q:=Q) l (k+1) (fun j=>by have:=hk (j+1); simpa [Nat.add_assoc,Nat.add_comm 1 j] using this)
   simp only [List.length_cons,List.range'_succ,wpOpsIn,h0]
   unfold wpL at h
   split
   ·rename_i hw; rw [if_pos hw] at h; exact wpO_mono ih h
   ·rename_i hw; rw [if_neg hw] at h; exact ⟨fun _ _=>trivial,ih _ _ h⟩
theorem wpI_region_list {id:Nat} {ops:Array Oper} {Q:Exit→Act→World→Prop} {a:Act} {w:World} (h:wpL P rd ops Q ops.toList a w):(Code.region id ops false).wpIn (fw rd) 0 P Q a w :=
 wpIn_region (by
  have:=wpL_ops ops.toList 0 (by simp) a w h
  rw [List.range_eq_range',← Array.length_toList]; exact this)
def wpOpI (P:Program) (rd:Option Nat) (ops:Array Oper) (Q:Exit→Act→World→Prop) (i:Nat) (K:Act→World→Prop) (a:Act) (w:World):Prop :=
 match ops[i]? with
 | none=>K a w
 | some o=>if Region.wanted o (yielded ops a.tmps) then wpO P rd o a w K Q else K (a.put o.dst undef) w
theorem wpOpI_mono {ops:Array Oper} {Q:Exit→Act→World→Prop} {i:Nat} {a:Act} {w:World} {K K':Act→World→Prop} (h:∀ a w,K a w→K' a w) (hh:wpOpI P rd ops Q i K a w):wpOpI P rd ops Q i K' a w:=by
 unfold wpOpI at *
 split
 ·exact h _ _ (by simpa [*] using hh)
 ·rename_i o ho
  simp only [ho] at hh
  split
  ·rename_i hw; simp only [hw,if_true] at hh; exact wpO_mono h hh
  ·rename_i hw; simp only [hw] at hh; exact h _ _ hh
theorem wpOpsIn_cons {ops:Array Oper} {Q:Exit→Act→World→Prop} {i:Nat} {rest:List Nat} {a:Act} {w:World} (h:wpOpI P rd ops Q i (wpOpsIn (fw rd) 0 P ops Q rest) a w):wpOpsIn (fw rd) 0 P ops Q (i::rest) a w:=by
 unfold wpOpI at h
 simp only [wpOpsIn]
 split at h
 ·rename_i hn; simp only [hn]; exact h
 ·rename_i o ho
  simp only [ho]
  split at h
  ·rename_i hw; rw [if_pos hw]; exact h
  ·rename_i hw; rw [if_neg hw]; exact ⟨fun _ _=>trivial,h⟩
def wpAnyI (P:Program) (rd:Option Nat) (md:Region.Mode) (ops:Array Oper) (Q:Exit→Act→World→Prop):Nat→Array Bool→Act→World→Prop
 | 0,listed,a,w=>Region.ready md ops listed=[]∧Q .normal a w
 | fuel+1,listed,a,w=>(Region.ready md ops listed=[]→Q .normal a w)∧∀ i ∈ Region.ready md ops listed,wpOpI P rd ops Q i (wpAnyI P rd md ops Q fuel (listed.setIfInBounds i true)) a w
theorem wpAnyI_sound {md:Region.Mode} {ops:Array Oper} {Q:Exit→Act→World→Prop}:∀ (fuel t:Nat) (listed:Array Bool) (a:Act) (w:World),wpAnyI P rd md ops Q fuel listed a w→wpOpsIn (fw rd) 0 P ops Q (Region.linearise.go md ops fuel t listed []) a w:=by
 intro fuel
 induction fuel with
 | zero=>intro t listed a w h; simpa [Region.linearise.go,wpOpsIn] using h.2
 | succ fuel ih =>
   intro t listed a w h
   obtain ⟨h0,h1⟩:=h
   simp only [Region.linearise.go]
   change wpOpsIn (fw rd) 0 P ops Q (match (Region.ready md ops listed)[t % (Region.ready md ops listed).length]? with
    | some i=>Region.linearise.go md ops fuel (t / (Region.ready md ops listed).length) (listed.setIfInBounds i true) [i]
    | none=>[].reverse) a w
   cases hi:(Region.ready md ops listed)[t % (Region.ready md ops listed).length]? with
   | none =>
     have hnil:Region.ready md ops listed=[]:=by
      cases hr:Region.ready md ops listed with
      | nil=>rfl
      | cons x xs =>
        rw [hr] at hi
        have hlt:t % (x::xs).length < (x::xs).length:=Nat.mod_lt _ (by simp)
        simp at hi
        simp at hlt
        omega
     simpa [wpOpsIn] using h0 hnil
   | some i =>
     simp only []
     rw [linearise_go_acc,List.reverse_singleton,List.singleton_append]
     exact wpOpsIn_cons (wpOpI_mono (fun a w=>ih _ _ a w) (h1 i (List.mem_of_getElem? hi)))
theorem wpI_region_any {id:Nat} {ops:Array Oper} {Q:Exit→Act→World→Prop} {a:Act} {w:World} (hm:P.follows .mixedOrders=true)
  (h:wpAnyI P rd .any ops Q ops.size (Array.replicate ops.size false) a { w with drawn:=w.drawn+1 }):(Code.region id ops true).wpIn (fw rd) 0 P Q a w :=
 wpIn_region_draw fun t=>by
  simp only [Region.schedule,hm,Bool.true_or,if_true]
  exact wpAnyI_sound ops.size t _ a _ h
end
end Go.Sx

namespace Go.Sx
set_option linter.all false
open Go
set_option linter.unusedVariables false
set_option linter.unusedSimpArgs false
variable [Ora]
section
variable {P:Program} {base gl nt:Nat}
def GR (gl:Nat) (ρ:Ren):Prop:=∀ g,g < gl→ρ g=some (lc g 0 0)
theorem GR.mono {ρ ρ':Ren} (h:GR gl ρ) (he:∀ b l,ρ b=some l→ρ' b=some l):GR gl ρ':=fun g hg=>he _ _ (h g hg)
structure At (P:Program) (base gl:Nat) (ρ:Ren) (m:Mem) (hi:Nat) (w:World):Prop where
 hr:HR P base ρ m.H w
 bs:base≤w.heap.size
 fr:Free ρ m.n hi
 gr:GR gl ρ
 nh:m.n≤m.hi
 wb:∀ b ∈ m.W,∀ l,ρ b=some l→l.on=true→base≤l.blk
 gf:∀ k o,Ora.G k=some o→k < base∧w.heap[k]? = some o
theorem At.wbs {ρ ρ':Ren} {m m':Mem} {hi:Nat} {w w':World} (h:At P base gl ρ m hi w) (st:St P base ρ ρ' m m' w w'):∀ b ∈ m'.W,∀ l,ρ b=some l→l.on=true→base≤l.blk:=fun b hb l hl hon=>by
 by_cases hm:b ∈ m.W
 ·exact h.wb b hm l hl hon
 ·obtain ⟨ab,h1,h2⟩:=st.wrw b hb hm l hl
  exact ((h.hr.atl hl h1).2 h2 hon).1
theorem At.below {ρ ρ':Ren} {m m':Mem} {hi:Nat} {w w':World} (h:At P base gl ρ m hi w) (st:St P base ρ ρ' m m' w w') {k:Nat} (hk:k < base):w'.heap[k]? = w.heap[k]? :=
 st.keep k (Nat.lt_of_lt_of_le hk h.bs) fun b hb l hl hon e=>by have:=h.wbs st b hb l hl hon; omega
theorem At.step {ρ ρ':Ren} {m m':Mem} {hi:Nat} {w w':World} (h:At P base gl ρ m hi w) (st:St P base ρ ρ' m m' w w'):At P base gl ρ' m' hi w' :=
 ⟨st.hr,Nat.le_trans h.bs st.size,fun b h1 h2=>by
  cases hb:ρ' b with
  | none=>rfl
  | some l =>
    cases h0:ρ b with
    | some l0=>rw [h.fr b (Nat.le_trans st.nle h1) h2] at h0; cases h0
    | none=>have:=(st.new b l hb h0).2; omega,h.gr.mono st.ext,st.nhi h.nh,fun b hb l hl hon=>by
  cases h0:ρ b with
  | some l0 =>
    have:=st.ext b l0 h0
    rw [hl] at this
    have:=Option.some.inj this; subst this
    exact h.wbs st b hb l h0 hon
  | none =>
    rcases st.blk b l hl h0 hon with h1|⟨b0,h1,l0,h2,h20,h3⟩
    ·have:=h.bs; omega
    ·rw [← h3]; exact h.wbs st b0 h1 l0 h2 h20,fun k o hk=>⟨(h.gf k o hk).1,(h.below st (h.gf k o hk).1).trans (h.gf k o hk).2⟩⟩
theorem At.less {ρ:Ren} {m:Mem} {hi hi':Nat} {w:World} (h:At P base gl ρ m hi w) (hl:hi'≤hi):At P base gl ρ m hi' w:=⟨h.hr,h.bs,fun b h1 h2=>h.fr b h1 (Nat.lt_of_lt_of_le h2 hl),h.gr,h.nh,h.wb,h.gf⟩
theorem At.wLg {ρ:Ren} {m:Mem} {hi:Nat} {w:World} (h:At P base gl ρ m hi w) (lg:Lg):At P base gl ρ (m.wLg lg) hi w:=by
 cases m; exact ⟨h.hr,h.bs,h.fr,h.gr,h.nh,h.wb,h.gf⟩
def Post (P:Program) (base:Nat) (ρ:Ren) (m m':Mem) (w:World) (v:Value):Ending→World→Prop:=fun e w'=>∃ v' ρ',e=.returned v'∧VR ρ' v v'∧St P base ρ ρ' m m' w w'
structure FnOk (P:Program) (base gl:Nat) (f:FuncId) (c:FnC):Prop where
 lg:∀ (vs:List Value) (m m':Mem) (v:Value),c.run vs m=some (v,m')→m.lg.le m'.lg
 ok:∀ (ρ:Ren) (m m':Mem) (w:World) (vs vs':List Value) (v:Value),c.run vs m=some (v,m')→Sat m'.lg→At P base gl ρ m m'.hi w→LR ρ vs vs' →
  ((callFunc f ⟨vs'⟩).run P w=.ok (.enter f ⟨vs'⟩) w∧Calls P f ⟨vs'⟩ w (Post P base ρ m m' w v)) ∨
  (∃ v' ρ' w',(callFunc f ⟨vs'⟩).run P w=.ok (.value v') w'∧VR ρ' v v'∧St P base ρ ρ' m m' w w')
structure Zn where
 rd:Option Nat
 D:List Deferred
def markL (l:Loc):Deferred:={ target:=.collected l.blk,args:=#[] }
def DfR (ρ:Ren) (ids:List Nat) (ds:List Deferred):Prop:=ids.length=ds.length∧∀ (i:Nat) (id:Nat) (d:Deferred),ids[i]? = some id→ds[i]? = some d→∃ l,ρ id=some l∧d=markL l
theorem DfR.mono {ρ ρ':Ren} {ids:List Nat} {ds:List Deferred} (h:DfR ρ ids ds) (he:∀ b l,ρ b=some l→ρ' b=some l):DfR ρ' ids ds:=⟨h.1,fun i id d a b=>let ⟨l,c,e⟩:=h.2 i id d a b; ⟨l,he _ _ c,e⟩⟩
theorem DfR.nil {ρ:Ren}:DfR ρ [] []:=⟨rfl,fun i id d h=>by simp at h⟩
structure FrR (z:Zn) (ρ:Ren) (nt:Nat) (fr:Fr) (a:Act):Prop where
 size:a.tmps.size=nt
 le:nt≤512
 df:∃ ds,a.defers=ds++z.D∧DfR ρ (dvG nt fr) ds
 rd:nt≤510→(isUndef (fr.get 511)=true→z.rd=none)∧∀ b,yieldV (fr.get 511)=some b→∃ l,ρ b=some l∧z.rd=some l.blk
 get:∀ t,t < nt→VR ρ (fr.get t) (a.tmps.getD t undef)
variable {z:Zn}
theorem FrR.mono {ρ ρ':Ren} {fr:Fr} {a:Act} (h:FrR z ρ nt fr a) (he:∀ b l,ρ b=some l→ρ' b=some l):FrR z ρ' nt fr a :=
 ⟨h.size,h.le,let ⟨ds,a,b⟩:=h.df; ⟨ds,a,b.mono he⟩,fun hn=>⟨(h.rd hn).1,fun b hb=>let ⟨l,c,e⟩:=(h.rd hn).2 b hb; ⟨l,he _ _ c,e⟩⟩,fun t ht=>(h.get t ht).mono he⟩
theorem FrR.put {ρ:Ren} {fr:Fr} {a:Act} {d:Nat} {v v':Value} (h:FrR z ρ nt fr a) (hd:d < nt) (hv:VR ρ v v'):FrR z ρ nt (fr.set d v) (a.put (some d) v'):=by
 have hle:=h.le
 have hget:∀ t,t < 512→t≠d→(fr.set d v).get t=fr.get t:=fun t h1 h2=>by rw [fr_get_set _ _ _ _ (by omega) h1,if_neg h2]
 refine ⟨by simp [Act.put,h.size],h.le,?_,fun hn=>?_,fun t ht=>?_⟩
 ·obtain ⟨ds,e1,e2⟩:=h.df
  refine ⟨ds,e1,?_⟩
  unfold dvG at e2 ⊢
  cases hq:Nat.ble nt 510 with
  | true =>
    have:=Nat.le_of_ble_eq_true hq
    rw [hq] at e2
    rw [hget 510 (by decide) (by omega)]; exact e2
  | false=>rw [hq] at e2; exact e2
 ·rw [hget 511 (by decide) (by omega)]; exact h.rd hn
 ·rw [fr_get_set _ _ _ _ (Nat.lt_of_lt_of_le hd h.le) (Nat.lt_of_lt_of_le ht h.le)]
  simp only [Act.put,Array.getD_eq_getD_getElem?,Array.getElem?_setIfInBounds]
  by_cases e:t=d
  ·subst e
   rw [if_pos rfl,if_pos rfl,if_pos (by rw [h.size]; exact hd)]
   exact hv
  ·rw [if_neg e,if_neg (fun h=>e h.symm)]
   have:=h.get t ht
   simpa [Array.getD_eq_getD_getElem?] using this
def ZR (z:Zn) (ρ:Ren) (nt:Nat) (fr:Fr) (ds0:List Deferred):Prop:=(∃ ds,ds0=ds++z.D∧DfR ρ (dvG nt fr) ds)∧(nt≤510→(isUndef (fr.get 511)=true→z.rd=none)∧∀ b,yieldV (fr.get 511)=some b→∃ l,ρ b=some l∧z.rd=some l.blk)
theorem FrR.zr {ρ:Ren} {fr:Fr} {a:Act} (h:FrR z ρ nt fr a):ZR z ρ nt fr a.defers:=⟨h.df,h.rd⟩
theorem ZR.congr {ρ ρ':Ren} {fr fr':Fr} {ds:List Deferred} (h:ZR z ρ nt fr ds) (he:∀ b l,ρ b=some l→ρ' b=some l) (hs:nt≤510→fr'.get 510=fr.get 510∧fr'.get 511=fr.get 511):ZR z ρ' nt fr' ds:=by
 obtain ⟨⟨ds',h1,h2⟩,h3⟩:=h
 refine ⟨⟨ds',h1,?_⟩,fun hn=>?_⟩
 ·have:dvG nt fr'=dvG nt fr:=by
   unfold dvG
   cases hq:Nat.ble nt 510 with
   | true=>rw [(hs (Nat.le_of_ble_eq_true hq)).1]
   | false=>rfl
  rw [this]; exact h2.mono he
 ·rw [(hs hn).2]
  exact ⟨(h3 hn).1,fun b hb=>let ⟨l,c,e⟩:=(h3 hn).2 b hb; ⟨l,he _ _ c,e⟩⟩
theorem put_defers (a:Act) (d:Option Tmp) (v:Value):(a.put d v).defers=a.defers:=by cases d <;> rfl
theorem FrR.ev {ρ:Ren} {fr:Fr} {a:Act} (h:FrR z ρ nt fr a) (hg:GR gl ρ) {x:Operand} (hx:okX nt gl x=true):VR ρ (ev fr x) (a.eval x):=by
 cases x with
 | tmp t=>exact h.get t (Nat.le_of_ble_eq_true hx)
 | const v=>exact VR.ofC hx
 | global g =>
   have:=VR.ptr (o:=0) (hg g (Nat.le_of_ble_eq_true hx))
   exact this
 | func f=>exact .func (a:=[]) (b:=[]) (a':=[]) (b':=[]) rfl rfl (fun i v v' h=>by simp at h) (fun i v v' h=>by simp at h)
theorem FrR.ops {ρ:Ren} {fr:Fr} {a:Act} (h:FrR z ρ nt fr a) (hg:GR gl ρ) {o:Op} (ho:okOp nt gl o=true):FR ρ fr a.eval o:=fun x hx=>h.ev hg (List.all_eq_true.1 ho x hx)
theorem callee_ops {o:Op} {c:Callee} {xs:Array Operand} {tys:Array TypeId} (h:o=.call ⟨c,xs,tys⟩):∀ x ∈ xs.toList,x ∈ o.operands.toList:=fun x hx=>by
 subst h
 show x ∈ ((match c with|.value f=>#[f]|.invoke r _=>#[r]|.builtin _=>#[])++xs:Array Operand).toList
 simp
 exact .inr (by simpa using hx)
structure YlOk (P:Program) (base gl:Nat) (c:FnC):Prop where
 lg:∀ (vs:List Value) (m m':Mem) (v:Value),c.run vs m=some (v,m')→m.lg.le m'.lg
 ok:∀ (ρ:Ren) (m m':Mem) (w:World) (b:Nat) (args args':List Value) (v:Value) (l:Loc),c.run (yv b::args) m=some (v,m')→Sat m'.lg→At P base gl ρ m m'.hi w→LR ρ args args'→ρ b=some l →
  ∃ f tmps assign body,(Instr.yield l.blk ⟨args'⟩).run P w=.ok (.round l.blk f tmps assign body) w∧RoundIn Fence.wide 0 P l.blk f tmps assign body w (Post P base ρ m m' w v)
structure CallOk (P:Program) (base gl:Nat) (call:CallT):Prop where
 fn:∀ f,FnOk P base gl f (call.fn f)
 yl:YlOk P base gl call.yl
theorem yieldV_eq {v:Value} {b:Nat} (h:yieldV v=some b):v=yv b:=by
 unfold yieldV at h
 split at h
 ·cases h; rfl
 ·cases h
theorem stepC_ok {ρ:Ren} {m m':Mem} {w:World} {call:CallT} {o:Oper} {fr:Fr} {a:Act} {v:Value} {K:Act→World→Prop} {Q:Exit→Act→World→Prop} (hc:CallOk P base gl call) (ho:(stepC P call o).run fr m=some (v,m')) (hS:Sat m'.lg)
  (h:At P base gl ρ m m'.hi w) (hg:FR ρ fr a.eval o.op) (hK:∀ v' ρ' w',VR ρ' v v'→St P base ρ ρ' m m' w w'→K (a.put o.dst v') w'):wpO P z.rd o a w K Q:=by
 have hfn:∀ (f:FuncId) (vs vs':List Value),(∀ c,o.op≠.defer c)→(call.fn f).run vs m=some (v,m')→LR ρ vs vs'→(execOp a.eval o).run P w=(callFunc f ⟨vs'⟩).run P w→wpO P z.rd o a w K Q:=fun f vs vs' hd hr hv he=>by
  refine ⟨fun _ _=>trivial,?_⟩
  rw [Oper.semAt_eq _ _ _ hd,he]
  rcases (hc.fn f).ok ρ m m' w vs vs' v hr hS h hv with ⟨h1,h2⟩|⟨v',ρ',w',h1,h2,h3⟩
  ·rw [h1,Oper.uponIn_enter]
   refine ⟨fw_depth,callsIn_fw.2 (h2.mono fun e w' ⟨v',ρ',he,hv,hs⟩=>?_)⟩
   subst he
   exact hK v' ρ' w' hv hs
  ·rw [h1,Oper.uponIn_value]
   exact hK v' ρ' w' h2 h3
 have hop0:∀ (hd:∀ c,o.op≠.defer c),NOk P base ρ m w (execOp a.eval o) v m'→wpO P z.rd o a w K Q:=fun hd hn=>by
  obtain ⟨v',ρ',w',h1,h2,h3⟩:=hn
  refine ⟨fun _ _=>trivial,?_⟩
  rw [Oper.semAt_eq _ _ _ hd]
  rcases h1 with h1|⟨h1,rfl⟩
  ·rw [h1,Oper.uponIn_value]; exact hK v' ρ' w' h2 h3
  ·rw [h1,Oper.uponIn_skip]; exact hK undef ρ' w' h2 h3
 obtain ⟨dst,op,ty,pos,af,gd⟩:=o
 unfold stepC at ho
 simp only at ho hg
 split at ho
 ·rename_i f xs tys
  have l1:=evL_LR (ρ:=ρ) (fr:=fr) (g:=a.eval) (xs:=xs.toList) fun x hx=>hg x (callee_ops rfl x hx)
  have ho:(call.fn f).run ((compL xs.toList).run fr) m=some (v,m'):=ho
  rw [compL_run] at ho
  refine hfn f _ _ (fun c hc=>by cases hc) ho l1 ?_
  have e1:xs.map a.eval=⟨xs.toList.map a.eval⟩:=by apply Array.ext'; simp
  simp only [execOp,resolve,Act.eval,Deferred.ofValue,pure_bind,invoke,e1]
  simp
 ·rename_i x xs tys hne
  have l1:=evL_LR (ρ:=ρ) (fr:=fr) (g:=a.eval) (xs:=xs.toList) fun y hy=>hg y (callee_ops rfl y hy)
  have hx:VR ρ (ev fr x) (a.eval x):=hg x (by show x ∈ (#[x]++xs:Array Operand).toList; simp)
  have ho:oCall call m ((compX x).run fr) ((compL xs.toList).run fr)=some (v,m'):=ho
  rw [compL_run,compX_run] at ho
  have e1:xs.map a.eval=⟨xs.toList.map a.eval⟩:=by apply Array.ext'; simp
  unfold oCall at ho
  split at ho
  ·rename_i f vs hcal
   unfold calleeM at hcal
   split at hcal
   ·rename_i f0 p q hev
    cases hcal
    rw [hev] at hx
    generalize hgx:a.eval x=gx at hx
    cases hx with
    | pure hp=>simp [pureV] at hp
    | func ha hb h1 h2 =>
      rename_i p q p' q'
      have lp:LR ρ p p':=⟨ha,h1⟩
      have lq:LR ρ q q':=⟨hb,h2⟩
      refine hfn f _ _ (fun c hc=>by cases hc) ho (lp.append (l1.append lq)) ?_
      simp only [execOp,resolve,hgx,Deferred.ofValue,pure_bind,invoke,e1]
      simp
   ·cases hcal
  ·split at ho
   ·rename_i b hy
    have hev:=yieldV_eq hy
    rw [hev] at hx ho
    obtain ⟨l,hl,hgx⟩:=inv_yv hx
    obtain ⟨f,tmps,as,bd,h1,h2⟩:=hc.yl.ok ρ m m' w b _ _ v l ho hS h l1 hl
    refine ⟨fun _ _=>trivial,?_⟩
    have he:(execOp a.eval ⟨dst,.call ⟨.value x,xs,tys⟩,ty,pos,af,gd⟩).run P w=(Instr.yield l.blk ⟨xs.toList.map a.eval⟩).run P w:=by
     simp only [execOp,resolve,hgx,Deferred.ofValue,pure_bind,invoke,e1]
     simp
    rw [Oper.semAt_eq _ _ _ (fun c hc=>by cases hc),he,h1,Oper.uponIn_round]
    refine ⟨fw_depth,?_⟩
    have h2:RoundIn (fw z.rd) 0 P l.blk f tmps as bd w (Post P base ρ m m' w v):=h2
    refine h2.mono fun e w' ⟨v',ρ',he,hv,hs⟩=>?_
    subst he
    exact hK v' ρ' w' hv hs
   ·cases ho
 ·have ho:kTry P (compOp P _) _ fr m=some (v,m'):=ho
  unfold kTry at ho
  rw [compOp_run] at ho
  split at ho
  ·rename_i r hr; cases ho
   exact hop0 (fun c hc=>by have hc:op=.defer c:=hc; subst hc; cases hr) (opM_ok h.hr h.bs hr h.fr hg)
  ·split at ho
   ·rename_i r hr; cases ho
    exact hop0 (fun c hc=>by have hc:op=.defer c:=hc; subst hc; cases hr) (symM_ok h.hr hr hg hS)
   ·split at ho
    ·rename_i r hr; cases ho
     exact hop0 (fun c hc=>by have hc:op=.defer c:=hc; subst hc; cases hr) (dsM_ok h.hr h.bs hr h.fr hg hS)
    ·exact hop0 (fun c hc=>by have hc:op=.defer c:=hc; subst hc; cases ho) (xtM_ok h.hr h.bs ho h.fr hg hS)
theorem stepC_lg {m m':Mem} {call:CallT} {o:Oper} {fr:Fr} {v:Value} (hc:CallOk P base gl call) (ho:(stepC P call o).run fr m=some (v,m')):m.lg.le m'.lg:=by
 unfold stepC at ho
 split at ho
 ·exact (hc.fn _).lg _ _ _ _ ho
 ·have ho:oCall call m _ _=some (v,m'):=ho
  unfold oCall at ho
  split at ho
  ·exact (hc.fn _).lg _ _ _ _ ho
  ·split at ho
   ·exact hc.yl.lg _ _ _ _ ho
   ·cases ho
 ·have ho:kTry P (compOp P _) _ fr m=some (v,m'):=ho
  unfold kTry at ho
  rw [compOp_run] at ho
  split at ho
  ·rename_i r hr; cases ho
   show m.lg.le _
   rw [opM_lg hr]; exact .refl _
  ·split at ho
   ·rename_i r hr; cases ho; exact (symM_le hr).1
   ·split at ho
    ·rename_i r hr; cases ho; exact dsM_lg hr
    ·exact xtM_lg ho
theorem wantV_le {lg lg':Lg} {v:Value} {b c:Bool} (h:wantV lg v b=some (c,lg')):lg.le lg':=by
 unfold wantV at h
 split at h
 ·cases h; exact .refl _
 ·split at h
  ·rename_i hb; cases h; exact brL_le hb
  ·cases h
 ·obtain ⟨_,h⟩:=cond_some h; cases h; exact .refl _
theorem wantM_le {lg lg':Lg} {fr:Fr} {all:List Oper} {o:Oper} {b:Bool} (h:wantM nt fr lg all o=some (b,lg')):lg.le lg':=by
 unfold wantM at h
 split at h
 ·cases h; exact .refl _
 ·split at h
  ·split at h
   ·obtain ⟨_,h⟩:=cond_some h; exact wantV_le h
   ·cases h
  ·cases h
theorem wantV_ok {ρ:Ren} {lg lg':Lg} {v v':Value} {b c:Bool} (h:wantV lg v b=some (c,lg')) (hv:VR ρ v v') (hS:Sat lg'):(v'=.bool (c == b)∨(c=false∧v'=.tuple ⟨[]⟩)):=by
 unfold wantV at h
 split at h
 ·rename_i d
  cases h
  left; rw [inv_bool hv]; cases d <;> cases b <;> rfl
 ·split at h
  ·rename_i d l hb
   cases h
   left
   rw [brL_ok hb hv hS]; cases d <;> cases b <;> rfl
  ·cases h
 ·rename_i u _ _
  obtain ⟨h3,h4⟩:=cond_some h
  cases h4
  right
  have hu:v=.tuple ⟨[]⟩:=by
   unfold isUndef at h3
   split at h3
   ·rfl
   ·cases h3
  rw [hu] at hv
  obtain ⟨cs',e,hl⟩:=inv_tuple hv
  cases hl.nil_inv
  exact ⟨rfl,e⟩
theorem wanted_of {all:Array Oper} {o:Oper} {tmps:Array Value} {j:Nat} {want b:Bool} {p:Oper} {t:Tmp} (hg:o.guard=some (j,want)) (hp:all.toList[j]? = some p) (ht:p.dst=some t) (hlt:t < tmps.size)
  (hv:tmps.getD t undef=.bool (b == want)∨(b=false∧tmps.getD t undef=.tuple ⟨[]⟩)):Region.wanted o (yielded all tmps)=b:=by
 have hget:tmps[t]? = some (tmps.getD t undef):=by simp [Array.getD_eq_getD_getElem?,hlt]
 have hj:(all[j]?).bind (·.dst)=some t:=by
  have:all[j]? = some p:=by simpa using hp
  simp [this,ht]
 unfold Region.wanted
 simp only [hg]
 rcases hv with e|⟨rfl,e⟩
 ·have:yielded all tmps j=some (b == want):=by simp [yielded,hj,hget,e]
  rw [this]; cases b <;> cases want <;> rfl
 ·have:yielded all tmps j=none:=by simp [yielded,hj,hget,e]
  rw [this]; rfl
theorem wantM_ok {ρ:Ren} {lg lg':Lg} {all:Array Oper} {o:Oper} {fr:Fr} {a:Act} {b:Bool} (h:FrR z ρ nt fr a) (hw:wantM nt fr lg all.toList o=some (b,lg')) (hS:Sat lg'):Region.wanted o (yielded all a.tmps)=b:=by
 unfold wantM at hw
 split at hw
 ·rename_i hg
  cases hw; simp [Region.wanted,hg]
 ·rename_i j want hg
  split at hw
  ·rename_i p hp
   split at hw
   ·rename_i t ht
    obtain ⟨h1,h2⟩:=cond_some hw
    have h1:t < nt:=Nat.le_of_ble_eq_true h1
    exact wanted_of hg hp ht (by rw [h.size]; exact h1) (wantV_ok h2 (h.get t h1) hS)
   ·cases hw
  ·cases hw
theorem setS_set {β:Type} (t:Nat) (v:Value) (fr:Fr) (k:Fr→β):setS (sel (t / 64 % 8)) (sel (t / 8 % 8)) (sel (t % 8)) v fr k=k (fr.set t v):=setS_eq t v fr k
def dstF (d:Option Tmp) (v:Value) (fr:Fr):Fr:=match d with|some t=>fr.set t v|none=>fr
theorem dstC_run (d:Option Tmp) (v:Value) (fr:Fr) (k:Fr→Option S):(dstC d).run v fr k=k (dstF d v fr):=by
 cases d with
 | none=>rfl
 | some t=>exact setS_set t v fr k
theorem FrR.dst {ρ:Ren} {fr:Fr} {a:Act} {d:Option Tmp} {v v':Value} (h:FrR z ρ nt fr a) (hd:dstOk nt d=true) (hv:VR ρ v v'):FrR z ρ nt (dstF d v fr) (a.put d v'):=by
 cases d with
 | none=>exact h
 | some t=>exact h.put (Nat.le_of_ble_eq_true hd) hv
theorem runPlain_eq {c:OpC} {d:Option Tmp} {next:RunC} {s s':S} (h:runPlain c (dstC d) next s=some s'):∃ v m',c.run s.fr s.m=some (v,m')∧s.m.hi≤m'.hi∧next.run ⟨dstF d v s.fr,m'⟩=some s':=by
 unfold runPlain at h
 obtain ⟨fr,m⟩:=s
 simp only at h
 split at h
 ·rename_i v m' hr
  obtain ⟨h1,h2⟩:=cond_some h
  rw [dstC_run] at h2
  exact ⟨v,m',hr,Nat.le_of_ble_eq_true h1,h2⟩
 ·cases h
theorem ops_hi {call:CallT} {all:List Oper}:∀ (r:List Oper) (s s':S),(compOps P nt gl call all r).run s=some s'→s.m.hi≤s'.m.hi
 | [],s,s',h=>by
   have h:some s=some s':=h
   cases h; exact Nat.le_refl _
 | o::r,s,s',h=>by
   unfold compOps at h
   cases hd:dstOk nt o.dst && okOp nt gl o.op with
   | false=>rw [hd] at h; cases h
   | true =>
     rw [hd] at h
     simp only [cond_true] at h
     split at h
     ·obtain ⟨v,m',_,h1,h2⟩:=runPlain_eq h
      exact Nat.le_trans h1 (ops_hi r _ _ h2)
     ·have h:runGuard nt all o (stepC P call o) (dstC o.dst) (compOps P nt gl call all r) s=some s':=h
      unfold runGuard at h
      obtain ⟨fr,⟨H,n,W,hi,lg⟩⟩:=s
      simp only at h
      split at h
      ·obtain ⟨v,m',_,h1,h2⟩:=runPlain_eq h
       exact Nat.le_trans h1 (ops_hi r _ _ h2)
      ·rename_i lg' _
       rw [dstC_run] at h
       exact ops_hi r ⟨dstF o.dst undef fr,⟨H,n,W,hi,lg'⟩⟩ s' h
      ·cases h
theorem ops_lg {call:CallT} (hc:CallOk P base gl call) {all:List Oper}:∀ (r:List Oper) (s s':S),(compOps P nt gl call all r).run s=some s'→s.m.lg.le s'.m.lg
 | [],s,s',h=>by
   have h:some s=some s':=h
   cases h; exact .refl _
 | o::r,s,s',h=>by
   unfold compOps at h
   cases hd:dstOk nt o.dst && okOp nt gl o.op with
   | false=>rw [hd] at h; cases h
   | true =>
     rw [hd] at h
     simp only [cond_true] at h
     split at h
     ·obtain ⟨v,m',h0,h1,h2⟩:=runPlain_eq h
      exact (stepC_lg hc h0).trans (ops_lg hc r _ _ h2)
     ·have h:runGuard nt all o (stepC P call o) (dstC o.dst) (compOps P nt gl call all r) s=some s':=h
      unfold runGuard at h
      obtain ⟨fr,⟨H,n,W,hi,lg⟩⟩:=s
      simp only at h
      split at h
      ·rename_i lg' hw
       obtain ⟨v,m',h0,h1,h2⟩:=runPlain_eq h
       exact (wantM_le hw).trans ((stepC_lg hc h0).trans (ops_lg hc r _ _ h2))
      ·rename_i lg' hw
       rw [dstC_run] at h
       exact (wantM_le hw).trans (ops_lg hc r ⟨dstF o.dst undef fr,⟨H,n,W,hi,lg'⟩⟩ s' h)
      ·cases h
theorem ops_ok {call:CallT} {all:Array Oper} {Q:Exit→Act→World→Prop} (hc:CallOk P base gl call):∀ (r:List Oper) (ρ:Ren) (s s':S) (a:Act) (w:World),(compOps P nt gl call all.toList r).run s=some s'→Sat s'.m.lg→At P base gl ρ s.m s'.m.hi w→FrR z ρ nt s.fr a →
  (∀ ρ' a' w',FrR z ρ' nt s'.fr a'→St P base ρ ρ' s.m s'.m w w'→Q .normal a' w')→wpL P z.rd all Q r a w
 | [],ρ,s,s',a,w,h,hS,hat,hf,hQ=>by
   have h:some s=some s':=h
   cases h
   exact hQ ρ a w hf (.refl hat.hr)
 | o::r,ρ,s,s',a,w,h,hS,hat,hf,hQ=>by
   unfold compOps at h
   cases hd:dstOk nt o.dst && okOp nt gl o.op with
   | false=>rw [hd] at h; cases h
   | true =>
     rw [hd] at h
     simp only [cond_true] at h
     obtain ⟨hd1,hd2⟩:=boolAnd hd
     have plain:∀ (s:S),At P base gl ρ s.m s'.m.hi w→FrR z ρ nt s.fr a→(∀ ρ' a' w',FrR z ρ' nt s'.fr a'→St P base ρ ρ' s.m s'.m w w'→Q .normal a' w') →
       runPlain (stepC P call o) (dstC o.dst) (compOps P nt gl call all.toList r) s=some s'→Region.wanted o (yielded all a.tmps)=true→wpL P z.rd all Q (o::r) a w:=fun s hat hf hQ hr hw=>by
      obtain ⟨v,m',h1,h2,h3⟩:=runPlain_eq hr
      have hh:=ops_hi r _ _ h3
      have hS':Sat m'.lg:=SatL.le hS (ops_lg hc r _ _ h3)
      refine wpL_step fun K hK=>?_
      rw [if_pos hw]
      refine stepC_ok hc h1 hS' (hat.less hh) (hf.ops hat.gr hd2) fun v' ρ' w' hv st=>hK _ _ ?_
      refine ops_ok hc r ρ' _ s' _ _ h3 hS (hat.step st) ((hf.mono st.ext).dst hd1 hv) fun ρ2 a2 w2 f2 st2=>hQ ρ2 a2 w2 f2 (St.trans hat.fr st st2)
     split at h
     ·rename_i hg
      exact plain s hat hf hQ h (by simp [Region.wanted,hg])
     ·have h:runGuard nt all.toList o (stepC P call o) (dstC o.dst) (compOps P nt gl call all.toList r) s=some s':=h
      unfold runGuard at h
      obtain ⟨fr,m⟩:=s
      obtain ⟨H,n,W,hi,lg⟩:=m
      simp only at h
      split at h
      ·rename_i lg' hw
       have hst:St P base ρ ρ ⟨H,n,W,hi,lg⟩ ⟨H,n,W,hi,lg'⟩ w w:=St.wLg (m:=⟨H,n,W,hi,lg⟩) hat.hr lg'
       obtain ⟨v,m',h0,h1,h2⟩:=runPlain_eq h
       have hS':Sat lg':=SatL.le hS ((stepC_lg hc h0).trans (ops_lg hc r _ _ h2))
       exact plain ⟨fr,⟨H,n,W,hi,lg'⟩⟩ (hat.wLg lg') hf (fun ρ2 a2 w2 f2 st2=>hQ ρ2 a2 w2 f2 (St.trans hat.fr hst st2)) h (wantM_ok hf hw hS')
      ·rename_i lg' hw
       have hst:St P base ρ ρ ⟨H,n,W,hi,lg⟩ ⟨H,n,W,hi,lg'⟩ w w:=St.wLg (m:=⟨H,n,W,hi,lg⟩) hat.hr lg'
       rw [dstC_run] at h
       have hS':Sat lg':=SatL.le hS (ops_lg hc r ⟨dstF o.dst undef fr,⟨H,n,W,hi,lg'⟩⟩ s' h)
       refine wpL_step fun K hK=>?_
       rw [if_neg (by rw [wantM_ok hf hw hS']; simp)]
       exact hK _ _ (ops_ok hc r ρ ⟨dstF o.dst undef fr,⟨H,n,W,hi,lg'⟩⟩ s' _ _ h hS (hat.wLg lg') (hf.dst hd1 (undef_VR ρ)) fun ρ2 a2 w2 f2 st2=>hQ ρ2 a2 w2 f2 (St.trans hat.fr hst st2))
      ·cases h
def Ex.out:Ex→Exit
 | .normal=>.normal
 | .exit id=>.exit id
 | .ret=>.ret
def DrawsOk (P:Program) (base gl:Nat) (call:CallT):Prop :=
 ∀ (nt:Nat) (ops:Array Oper),drawOk ops=true→∀ (s s':S),runDraw P nt gl call ops.toList ops.toList 0 (ancs ops.toList []) [] s=some s'→(s.m.hi≤s'.m.hi∧s.m.lg.le s'.m.lg) ∧
  ∀ (z:Zn) (ρ:Ren) (a:Act) (w:World) (id:Nat) (Q:Exit→Act→World→Prop),Sat s'.m.lg→At P base gl ρ s.m s'.m.hi w→FrR z ρ nt s.fr a →
   (∀ ρ' a' w',FrR z ρ' nt s'.fr a'→St P base ρ ρ' s.m s'.m w w'→Q .normal a' w')→(Code.region id ops true).wpIn (fw z.rd) 0 P Q a w
theorem codeAt_append:∀ (q r:List Bool) (c:Code),codeAt (q++r) c=(codeAt q c).bind (codeAt r)
 | [],r,c=>rfl
 | false::q,r,.seq a b=>codeAt_append q r a
 | true::q,r,.seq a b=>codeAt_append q r b
 | false::q,r,.cond _ a b=>codeAt_append q r a
 | true::q,r,.cond _ a b=>codeAt_append q r b
 | false::q,r,.block _ c=>codeAt_append q r c
 | false::q,r,.loop c=>codeAt_append q r c
 | true::q,r,.block _ c=>rfl
 | true::q,r,.loop c=>rfl
 | b::q,r,.skip=>by cases b <;> rfl
 | b::q,r,.region _ _ _=>by cases b <;> rfl
 | false::q,r,.rangeFunc _ _ a _=>codeAt_append q r a
 | true::q,r,.rangeFunc _ _ _ b=>codeAt_append q r b
 | b::q,r,.exit _=>by cases b <;> rfl
 | b::q,r,.scope _=>by cases b <;> rfl
 | b::q,r,.label _=>by cases b <;> rfl
 | b::q,r,.goto _=>by cases b <;> rfl
 | b::q,r,.ret=>by cases b <;> rfl
 | b::q,r,.refuse _=>by cases b <;> rfl
theorem codeAt_snoc {q:List Bool} {b:Bool} {body c d:Code} (h:codeAt q body=some c) (hb:codeAt [b] c=some d):codeAt (q++[b]) body=some d:=by
 rw [codeAt_append,h]; exact hb
structure CodeOk (P:Program) (base gl nt:Nat) (c:Code) (L:S→Option (Ex × S)):Prop where
 lg:∀ (s s':S) (e:Ex),L s=some (e,s')→s.m.hi≤s'.m.hi∧s.m.lg.le s'.m.lg
 ok:∀ (z:Zn) (s s':S) (e:Ex),L s=some (e,s')→Sat s'.m.lg→∃ N,∀ (ρ:Ren) (a:Act) (w:World) (Q:Exit→Act→World→Prop),At P base gl ρ s.m s'.m.hi w→FrR z ρ nt s.fr a →
  (∀ ρ' a' w',FrR z ρ' nt s'.fr a'→St P base ρ ρ' s.m s'.m w w'→Q e.out a' w')→Code.roundsIn (fw z.rd) 0 P c Q N a w
def LpOk (P:Program) (base gl nt:Nat) (body:Code) (lp:LpT):Prop :=
 (∃ fn,P.funcs[lp.me]? = some fn∧fn.body=some body∧fn.ntmps=nt)∧∀ q x L,codeAt q body=some (.loop x)→lp.look q=some L→CodeOk P base gl nt x L
theorem newM_hl {m m':Mem} {ab:AB} {k:Nat→Value} {v:Value} (h:newM m ab k=some (v,m')):v=k m.n∧m.hi≤m'.hi∧m'.lg=m.lg:=by
 obtain ⟨_,h2,rfl⟩:=newM_eq h
 exact ⟨h2,(upN_le _ _).1,rfl⟩
theorem setM_hl {m m':Mem} {id:Nat} {ab:AB} (h:setM m id ab=some m'):m'.hi=m.hi∧m'.lg=m.lg:=by
 obtain ⟨_,rfl⟩:=setM_eq h
 exact ⟨rfl,rfl⟩
theorem rangeEnd_eq {fr:Fr} {hi b:Nat} {r:Res} {e:Ex} {s':S} (h:rangeEnd fr hi b r=some (e,s')):∃ v m f q vs st m',r=some (v,m)∧Hp.get m.H b=some (.lp f q vs st)∧nEx st=some e∧hi≤m.hi∧setM m b (.lp f q vs 3)=some m'∧s'=⟨fr,m'⟩:=by
 unfold rangeEnd at h
 split at h
 ·rename_i v m
  split at h
  ·rename_i f q vs st hg
   split at h
   ·rename_i e0 he
    obtain ⟨h1,h⟩:=cond_some h
    split at h
    ·rename_i m' hm
     cases h
     exact ⟨_,_,_,_,_,_,_,rfl,hg,he,Nat.le_of_ble_eq_true h1,hm,rfl⟩
    ·cases h
   ·cases h
  ·cases h
 ·cases h
theorem rangeGo_eq {call:CallT} {f:FuncId} {q:List Bool} {g:Value} {fr:Fr} {m:Mem} {e:Ex} {s':S} (h:rangeGo P nt call f q g fr m=some (e,s')) :
  ∃ m1 k a b,newM m (.lp f q (frL fr 0 nt) 0) yv=some (yv m.n,m1)∧g=.func (.func k) a b∧hasBody P k=true∧rangeEnd fr m1.hi m.n ((call.fn k).run (a.toList++([yv m.n]++b.toList)) m1)=some (e,s'):=by
 unfold rangeGo at h
 rw [forceL_eq] at h
 split at h
 ·rename_i v m1 hn
  have hv:=(newM_hl hn).1
  subst hv
  have hy:yieldV (yv m.n)=some m.n:=rfl
  split at h
  ·rename_i k as b hc hb
   rw [hy] at hb
   cases hb
   obtain ⟨h1,h⟩:=cond_some h
   unfold calleeM at hc
   split at hc
   ·cases hc
    exact ⟨m1,_,_,_,hn,rfl,h1,h⟩
   ·cases hc
  ·cases h
 ·cases h
theorem rangeGo_hi {call:CallT} (hc:CallOk P base gl call) {f:FuncId} {q:List Bool} {g:Value} {fr:Fr} {m:Mem} {e:Ex} {s':S} (h:rangeGo P nt call f q g fr m=some (e,s')):m.hi≤s'.m.hi∧m.lg.le s'.m.lg:=by
 obtain ⟨m1,k,a,b,h1,_,_,h2⟩:=rangeGo_eq h
 obtain ⟨v,m2,f,q,vs,st,m3,e1,_,_,e2,e3,rfl⟩:=rangeEnd_eq h2
 have:=(hc.fn k).lg _ _ _ _ e1
 obtain ⟨g1,g2⟩:=setM_hl e3
 obtain ⟨_,k1,k2⟩:=newM_hl h1
 refine ⟨by show m.hi≤m3.hi; rw [g1]; exact Nat.le_trans k1 e2,?_⟩
 show m.lg.le m3.lg
 rw [g2,← k2]; exact this
theorem cRange_eq {call:CallT} {f:FuncId} {q:List Bool} {x:XC} {s s':S} {e:Ex} (h:cRange P nt call f q x s=some (e,s')):nt≤510 ∧
  ((∃ b0 f0 q0 vs0,yieldV (s.fr.get 511)=some b0∧Hp.get s.m.H b0=some (.lp f0 q0 vs0 1)∧rangeGo P nt call f q (x.run s.fr) s.fr s.m=some (e,s')) ∨
    (isUndef (s.fr.get 511)=true∧∃ m1,newM s.m (.dfr true) (fun b=>.pointer (some ⟨b,0,none⟩))=some (.pointer (some ⟨s.m.n,0,none⟩),m1) ∧
      rangeGo P nt call f q (x.run s.fr) (s.fr.set 510 (dv (s.m.n::dvIds (s.fr.get 510)))) m1=some (e,s'))):=by
 unfold cRange at h
 obtain ⟨fr,m⟩:=s
 obtain ⟨h1,h⟩:=cond_some h
 refine ⟨Nat.le_of_ble_eq_true h1,?_⟩
 split at h
 ·rename_i b0 hb
  split at h
  ·rename_i f0 q0 vs0 hg
   exact .inl ⟨b0,f0,q0,vs0,hb,hg,h⟩
  ·cases h
 ·obtain ⟨h2,h⟩:=cond_some h
  refine .inr ⟨h2,?_⟩
  split at h
  ·rename_i a m1 hn
   have hv:=(newM_hl hn).1
   cases hv
   rw [forceL_eq] at h
   have:setS (sel 7) (sel 7) (sel 6) (dv (m.n::dvIds (fr.get 510))) fr (fun fr2=>rangeGo P nt call f q (x.run fr) fr2 m1)=rangeGo P nt call f q (x.run fr) (fr.set 510 (dv (m.n::dvIds (fr.get 510)))) m1:=setS_set 510 _ _ _
   rw [this] at h
   exact ⟨m1,hn,h⟩
  ·cases h
theorem cRange_hi {call:CallT} (hc:CallOk P base gl call) {f:FuncId} {q:List Bool} {x:XC} {s s':S} {e:Ex} (h:cRange P nt call f q x s=some (e,s')):s.m.hi≤s'.m.hi∧s.m.lg.le s'.m.lg:=by
 obtain ⟨_,⟨_,_,_,_,_,_,h⟩|⟨_,m1,hn,h⟩⟩:=cRange_eq h
 ·exact rangeGo_hi hc h
 ·have:=rangeGo_hi hc h
  obtain ⟨_,k1,k2⟩:=newM_hl hn
  rw [k2] at this
  exact ⟨Nat.le_trans k1 this.1,this.2⟩
theorem frL_get (fr:Fr):∀ (n i j:Nat),(frL fr i n)[j]? = if j < n then some (fr.get (i+j)) else none
 | 0,i,j=>by simp [frL]
 | n+1,i,0=>by simp [frL]
 | n+1,i,j+1=>by
   rw [frL,List.getElem?_cons_succ,frL_get fr n (i+1) j]
   have:i+1+j=i+(j+1):=by omega
   rw [this]
   by_cases h:j < n
   ·rw [if_pos h,if_pos (by omega)]
   ·rw [if_neg h,if_neg (by omega)]
theorem frL_len (fr:Fr):∀ (n i:Nat),(frL fr i n).length=n
 | 0,i=>rfl
 | n+1,i=>by simp [frL,frL_len fr n]
theorem FrR.list {ρ:Ren} {fr:Fr} {a:Act} (h:FrR z ρ nt fr a):LR ρ (frL fr 0 nt) a.tmps.toList:=by
 refine ⟨by rw [frL_len]; simpa using h.size.symm,fun i v v' h1 h2=>?_⟩
 rw [frL_get] at h1
 split at h1
 ·rename_i hi
  cases h1
  have:=h.get i hi
  rw [Nat.zero_add]
  have h3:a.tmps.getD i undef=v':=by
   have:a.tmps[i]? = some v':=by simpa using h2
   simp [Array.getD_eq_getD_getElem?,this]
  rw [h3] at this; exact this
 ·cases h1
theorem hasBody_eq {k:FuncId} (h:hasBody P k=true):∃ fn c,P.funcs[k]? = some fn∧fn.body=some c:=by
 unfold hasBody at h
 split at h
 ·rename_i fn hf
  split at h
  ·rename_i c hb; exact ⟨fn,c,by simpa using hf,hb⟩
  ·cases h
 ·cases h
theorem callFunc_body {k:FuncId} {args:Array Value} {w w':World} {v:Value} (h:hasBody P k=true):(callFunc k args).run P w≠.ok (.value v) w':=by
 obtain ⟨fn,c,h1,h2⟩:=hasBody_eq h
 by_cases hn:fn.name = "runtime.NumGoroutine"
 ·simp [callFunc,h1,hn]
 ·simp [callFunc,h1,hn,h2]
theorem putObj_get {w:World} {l:Nat} {o:Obj} (h:l < w.heap.size):(w.putObj l o).heap.size=w.heap.size∧(w.putObj l o).heap[l]? = some o∧∀ k,k≠l→(w.putObj l o).heap[k]? = w.heap[k]? := ⟨by simp [World.putObj],World.putObj_heap_same h,fun k hk=>World.putObj_heap_other hk⟩
theorem rangeGo_ok {call:CallT} (hc:CallOk P base gl call) {me:FuncId} {fn:Func} {body:Code} {q:List Bool} {x:Operand} {ps:Array Tmp} {as bd:Code} (f1:P.funcs[me]? = some fn) (f2:fn.body=some body) (f3:fn.ntmps=nt) (hq:codeAt q body=some (.rangeFunc x ps as bd))
  {g:Value} {fr:Fr} {m:Mem} {e:Ex} {s':S} (h:rangeGo P nt call me q g fr m=some (e,s')) (hS:Sat s'.m.lg) {ρ:Ren} {a:Act} {w:World} {r:Loop} (hat:At P base gl ρ m s'.m.hi w) (hf:FrR z ρ nt fr a) (hg:VR ρ g (a.eval x))
  (hr:r.state=.ready∧r.pending=none∧r.tmps=a.tmps∧r.params=ps∧r.assign=as∧r.body=bd) {Q:Exit→Act→World→Prop}
  (hQ:∀ ρ' w',FrR z ρ' nt s'.fr a→St P base ρ ρ' m s'.m w w'→Q e.out a w') :
  ∃ k args d,(resolve a.eval (rangeCall x w.heap.size) 0).run P (w.alloc (.loop r))=.ok d (w.alloc (.loop r))∧(invoke d.target d.args).run P (w.alloc (.loop r))=.ok (.enter k args) (w.alloc (.loop r)) ∧
   CallsIn (fw z.rd) 0 P k args (w.alloc (.loop r)) (rangePost (fw z.rd) 0 P w.heap.size Q a):=by
 obtain ⟨m1,k,A,B,h1,hgv,hbod,h2⟩:=rangeGo_eq h
 obtain ⟨v,m2,ff,qq,vs,st,m3,e1,e2,e3,e4,e5,rfl⟩:=rangeEnd_eq h2
 obtain ⟨g1,g2⟩:=setM_hl e5
 obtain ⟨_,g3,g4⟩:=newM_hl h1
 have hS2:Sat m2.lg:=by have:Sat m3.lg:=hS; rwa [g2] at this
 have hfree:Free ρ m.n m3.hi:=hat.fr
 have hle:m1.hi≤m3.hi:=by rw [g1]; exact e4
 obtain ⟨r1,r2,r3,r4,r5,r6⟩:=hr
 subst r4; subst r5; subst r6
 have hheap:(w.alloc (.loop r)).heap=w.heap.push (.loop r):=rfl
 have hfree0:ρ m.n=none:=hfree m.n (Nat.le_refl _) (by
  obtain ⟨_,_,q⟩:=newM_eq h1
  have:m1.hi=upN m.hi m.n:=by rw [q]
  have h3:=(upN_le m.hi m.n).2
  omega)
 obtain ⟨_,k1,st1⟩:=St.alloc (w':=w.alloc (.loop r)) (o:=.loop r) (l:=lc w.heap.size 0 0) hat.hr hat.bs h1 (hfree.less hle) ⟨rfl,rfl,rfl⟩ hheap rfl (by
  refine ⟨⟨rfl,rfl⟩,r,by simp [hheap],⟨fn,body,x,f1,f2,hq,by rw [frL_len,f3]⟩,?_,⟨r1,r2⟩⟩
  rw [r3]; exact hf.list.mono (upd_ext hfree0))
 have hat1:=hat.step st1
 obtain ⟨A,rfl⟩:∃ l:List Value,A=⟨l⟩:=⟨A.toList,rfl⟩
 obtain ⟨B,rfl⟩:∃ l:List Value,B=⟨l⟩:=⟨B.toList,rfl⟩
 subst hgv
 generalize hgx:a.eval x=gx at hg
 cases hg with
 | pure hp=>simp [pureV] at hp
 | func ha hb q1 q2 =>
   rename_i A' B'
   have lA:LR ρ A A':=⟨ha,q1⟩
   have lB:LR ρ B B':=⟨hb,q2⟩
   have hy:VR (upd ρ m.n (lc w.heap.size 0 0)) (yv m.n) (.func (.yield w.heap.size) #[] #[]):=VR.yv k1
   have hl:=(lA.mono st1.ext).append ((LR.cons hy .nil).append (lB.mono st1.ext))
   refine ⟨k,⟨A'++([.func (.yield w.heap.size) #[] #[]]++B')⟩,{ target:=.fn (.func k) ⟨B'⟩,args:=⟨A'⟩++#[.func (.yield w.heap.size) #[] #[]] },?_,?_,?_⟩
   ·show (Deferred.ofValue (a.eval x) _).run P _=_
    rw [hgx]
    simp [Deferred.ofValue,Act.eval]
   ·have hen:(callFunc k ⟨A'++([.func (.yield w.heap.size) #[] #[]]++B')⟩).run P (w.alloc (.loop r))=.ok (.enter k ⟨A'++([.func (.yield w.heap.size) #[] #[]]++B')⟩) (w.alloc (.loop r)):=by
     rcases (hc.fn k).ok _ m1 m2 _ _ _ v e1 hS2 (hat1.less (by show m2.hi≤m3.hi; rw [g1]; exact Nat.le_refl _)) hl with ⟨c1,_⟩|⟨v',ρ',w',c1,_⟩
     ·exact c1
     ·exact absurd c1 (callFunc_body hbod)
    rw [← hen]
    show (callFunc k _).run P _=_
    congr 2
    apply Array.ext'
    simp
   ·rcases (hc.fn k).ok _ m1 m2 _ _ _ v e1 hS2 (hat1.less (by show m2.hi≤m3.hi; rw [g1]; exact Nat.le_refl _)) hl with ⟨_,c2⟩|⟨v',ρ',w',c1,_⟩
    ·refine callsIn_fw.2 (c2.mono fun en w2 ⟨v',ρ2,he,hv,st2⟩=>?_)
     subst he
     have k2:=st2.ext _ _ k1
     obtain ⟨b1,b2⟩:=st2.hr.atl k2 e2
     obtain ⟨⟨b3,b4⟩,r0,b5,b6⟩:=b1
     have b5:w2.heap[w.heap.size]? = some (.loop r0):=b5
     have hbusy:r0.state≠.busy:=by
      have hs:=b6.st
      intro hb
      match st,hs,e3 with
      | 0,hs,_=>rw [hb] at hs; cases hs.1
      | 2,hs,_=>rw [hb] at hs; cases hs.1
      | k+4,hs,_=>rw [hb] at hs; cases hs.1
     obtain ⟨p1,p2,p3⟩:=putObj_get (o:=.loop { r0 with state:=.exhausted }) (Array.getElem?_eq_some_iff.1 b5).1
     have st3:St P base ρ2 ρ2 m2 m3 w2 (w2.putObj w.heap.size (.loop { r0 with state:=.exhausted })):=St.write st2.hr e5 e2 rfl k2 rfl ⟨rfl,rfl,rfl⟩ p1 p3 ⟨⟨rfl,rfl⟩,_,p2,b6.code,b6.fr,trivial⟩
     have hst:St P base ρ ρ2 m m3 w _:=St.trans hfree st1 (St.trans hat1.fr st2 st3)
     have hfin:=hQ ρ2 _ (hf.mono hst.ext) hst
     refine ⟨r0.pending,_,run_endLoop b5 hbusy,?_⟩
     have hs:=b6.st
     match st,hs,e3 with
     | 0,hs,e3=>cases e3; rw [show r0.pending=none from hs.2] at hfin ⊢; exact hfin
     | 2,hs,e3=>cases e3; rw [show r0.pending=some .ret from hs.2] at hfin ⊢; exact wpIn_ret hfin
     | k+4,hs,e3=>cases e3; rw [show r0.pending=some (.exit k) from hs.2] at hfin ⊢; exact wpIn_exit hfin
    ·exact absurd c1 (callFunc_body hbod)
theorem range_ok {call:CallT} (hc:CallOk P base gl call) {me:FuncId} {fn:Func} {body:Code} {q:List Bool} {x:Operand} {ps:Array Tmp} {as bd:Code} (f1:P.funcs[me]? = some fn) (f2:fn.body=some body) (f3:fn.ntmps=nt) (hq:codeAt q body=some (.rangeFunc x ps as bd)) (hx:okX nt gl x=true)
  {s s':S} {e:Ex} {ρ:Ren} {a:Act} {w:World} {Q:Exit→Act→World→Prop} (h:cRange P nt call me q (compX x) s=some (e,s')) (hS:Sat s'.m.lg) (hat:At P base gl ρ s.m s'.m.hi w) (hf:FrR z ρ nt s.fr a)
  (hQ:∀ ρ' a' w',FrR z ρ' nt s'.fr a'→St P base ρ ρ' s.m s'.m w w'→Q e.out a' w'):(Code.rangeFunc x ps as bd).wpIn (fw z.rd) 0 P Q a w:=by
 obtain ⟨hn,h⟩:=cRange_eq h
 refine wpIn_rangeFunc fun fid _=>?_
 have hv:=hf.ev hat.gr hx
 rcases h with ⟨b0,f0,q0,vs0,hy,hg,h⟩|⟨hu,m1,hnew,h⟩
 ·obtain ⟨l0,e1,e2⟩:=(hf.rd hn).2 b0 hy
  obtain ⟨⟨_,r0,b1,_⟩,_⟩:=hat.hr.atl e1 hg
  have hen:(Instr.enterLoop fid a.tmps ps as bd (fw z.rd).round).run P w=.ok (w.heap.size,[]) (w.alloc (.loop { state:=.ready,pending:=none,fn:=fid,tmps:=a.tmps,params:=ps,assign:=as,body:=bd,defers:=r0.defers })):=by
   show (Instr.enterLoop fid a.tmps ps as bd z.rd).run P w=_
   rw [e2]
   unfold Instr.enterLoop
   simp only [Sem.run_bind,run_getLoop b1,run_newObj_alloc,Result.andThen,Sem.run_pure]
  rw [compX_run] at h
  obtain ⟨k,args,d,c1,c2,c3⟩:=rangeGo_ok (r:={ state:=.ready,pending:=none,fn:=fid,tmps:=a.tmps,params:=ps,assign:=as,body:=bd,defers:=r0.defers }) hc f1 f2 f3 hq h hS hat hf hv ⟨rfl,rfl,rfl,rfl,rfl,rfl⟩ (Q:=Q) fun ρ' w' g1 g2=>hQ ρ' a w' g1 g2
  exact ⟨_,_,_,d,_,k,args,_,hen,c1,fun _ _=>trivial,c2,fw_depth,c3⟩
 ·have hrd:=(hf.rd hn).1 hu
  have hfree:Free ρ s.m.n s'.m.hi:=hat.fr
  have hgo:=rangeGo_hi hc h
  obtain ⟨_,g3,g4⟩:=newM_hl hnew
  have hen:(Instr.enterLoop fid a.tmps ps as bd (fw z.rd).round).run P w=.ok (w.heap.size+1,[{ target:=.collected w.heap.size,args:=#[] }]) ((w.alloc (.deferred (some []))).alloc (.loop { state:=.ready,pending:=none,fn:=fid,tmps:=a.tmps,params:=ps,assign:=as,body:=bd,defers:=w.heap.size })):=by
   show (Instr.enterLoop fid a.tmps ps as bd z.rd).run P w=_
   rw [hrd]
   exact run_enterLoop_outer fid a.tmps ps as bd
  have hheap:(w.alloc (.deferred (some []))).heap=w.heap.push (.deferred (some [])):=rfl
  obtain ⟨_,k1,st1⟩:=St.alloc (w':=w.alloc (.deferred (some []))) (o:=.deferred (some [])) (l:=lc w.heap.size 0 0) hat.hr hat.bs hnew (hfree.less hgo.1) ⟨rfl,rfl,rfl⟩ hheap rfl ⟨⟨rfl,rfl⟩,_,by simp [hheap],fun _=>rfl⟩
  have hat1:=hat.step st1
  have hsz:(w.alloc (.deferred (some []))).heap.size=w.heap.size+1:=by simp [hheap]
  let a2:Act:={ a with defers:={ target:=.collected w.heap.size,args:=#[] }::a.defers }
  have hf2:FrR z (upd ρ s.m.n (lc w.heap.size 0 0)) nt (s.fr.set 510 (dv (s.m.n::dvIds (s.fr.get 510)))) a2:=by
   have hf1:=hf.mono st1.ext
   have hget:∀ t,t < 512→t≠510→(s.fr.set 510 (dv (s.m.n::dvIds (s.fr.get 510)))).get t=s.fr.get t:=fun t h1 h2=>by rw [fr_get_set _ _ _ _ (by decide) h1,if_neg h2]
   refine ⟨hf1.size,hf1.le,?_,fun _=>by rw [hget 511 (by decide) (by decide)]; exact hf1.rd hn,fun t ht=>by rw [hget t (by omega) (by omega)]; exact hf1.get t ht⟩
   obtain ⟨ds,d1,d2⟩:=hf1.df
   refine ⟨{ target:=.collected w.heap.size,args:=#[] }::ds,by show _::a.defers=_; rw [d1]; rfl,?_⟩
   unfold dvG at d2 ⊢
   have hb:Nat.ble nt 510=true:=Nat.ble_eq_true_of_le hn
   rw [hb] at d2 ⊢
   rw [fr_get_set _ _ _ _ (by decide) (by decide),if_pos rfl]
   have hd:dvIds (dv (s.m.n::dvIds (s.fr.get 510)))=s.m.n::dvIds (s.fr.get 510):=by
    simp [dvIds,dv,ptrId,Function.comp_def]
   simp only [cond_true,hd] at d2 ⊢
   refine ⟨by simp [d2.1],fun i id d h1 h2=>?_⟩
   cases i with
   | zero =>
     simp only [List.getElem?_cons_zero,Option.some.injEq] at h1 h2
     subst h1; subst h2
     exact ⟨_,k1,rfl⟩
   | succ i=>exact d2.2 i id d (by simpa using h1) (by simpa using h2)
  have hv2:VR (upd ρ s.m.n (lc w.heap.size 0 0)) ((compX x).run s.fr) (a2.eval x):=by
   rw [compX_run]; exact hv.mono st1.ext
  obtain ⟨k,args,d,c1,c2,c3⟩:=rangeGo_ok (r:={ state:=.ready,pending:=none,fn:=fid,tmps:=a.tmps,params:=ps,assign:=as,body:=bd,defers:=w.heap.size }) hc f1 f2 f3 hq h hS hat1 hf2 hv2 ⟨rfl,rfl,rfl,rfl,rfl,rfl⟩ (Q:=Q) fun ρ' w' g1 g2=>hQ ρ' a2 w' g1 (St.trans hfree st1 g2)
  rw [hsz] at c1 c3
  exact ⟨_,_,_,d,_,k,args,_,hen,c1,fun _ _=>trivial,c2,fw_depth,c3⟩
theorem loopN_hi {call:CallT} {lp:LpT} {q:List Bool} {x:Code} (hx:∀ (s s':S) (e:Ex),(compC P nt gl call lp q x).run s=some (e,s')→s.m.hi≤s'.m.hi∧s.m.lg.le s'.m.lg):∀ (n:Nat) (s s':S) (e:Ex),loopN (compC P nt gl call lp q x) n s=some (e,s')→s.m.hi≤s'.m.hi∧s.m.lg.le s'.m.lg
 | 0,s,s',e,h=>by cases h
 | n+1,s,s',e,h=>by
   unfold loopN at h
   split at h
   ·rename_i s1 h1
    have a:=hx _ _ _ h1
    have b:=loopN_hi hx n _ _ _ h
    exact ⟨Nat.le_trans a.1 b.1,a.2.trans b.2⟩
   ·exact hx _ _ _ h
theorem loopL_hi {call:CallT} {lp:LpT} {q:List Bool} {x:Code} {L:S→Option (Ex × S)} (hx:∀ (s s':S) (e:Ex),(compC P nt gl call lp q x).run s=some (e,s')→s.m.hi≤s'.m.hi∧s.m.lg.le s'.m.lg)
  (hL:∀ (s s':S) (e:Ex),L s=some (e,s')→s.m.hi≤s'.m.hi∧s.m.lg.le s'.m.lg):∀ (n:Nat) (s s':S) (e:Ex),loopL (compC P nt gl call lp q x) L n s=some (e,s')→s.m.hi≤s'.m.hi∧s.m.lg.le s'.m.lg
 | 0,s,s',e,h=>by cases h
 | n+1,s,s',e,h=>by
   unfold loopL at h
   split at h
   ·rename_i r hr
    cases h
    exact hL _ _ _ hr
   ·split at h
    ·rename_i s1 h1
     have a:=hx _ _ _ h1
     have b:=loopL_hi hx hL n _ _ _ h
     exact ⟨Nat.le_trans a.1 b.1,a.2.trans b.2⟩
    ·exact hx _ _ _ h
theorem cCond_eq {c:XC} {a b:CodeC} {s s':S} {e:Ex} (h:cCond c a b s=some (e,s')):∃ t lg,brL s.m.lg (c.run s.fr)=some (t,lg)∧(bif t then a.run ⟨s.fr,s.m.wLg lg⟩ else b.run ⟨s.fr,s.m.wLg lg⟩)=some (e,s'):=by
 obtain ⟨fr,⟨H,n,W,hi,lg⟩⟩:=s
 unfold cCond at h
 split at h
 ·rename_i hc; exact ⟨true,lg,by rw [hc]; rfl,h⟩
 ·rename_i hc; exact ⟨false,lg,by rw [hc]; rfl,h⟩
 ·simp only at h
  split at h
  ·rename_i lg' hb; exact ⟨true,lg',hb,h⟩
  ·rename_i lg' hb; exact ⟨false,lg',hb,h⟩
  ·cases h
theorem code_hi {call:CallT} {lp:LpT} {body:Code} (hc:CallOk P base gl call) (hd:DrawsOk P base gl call) (hlp:LpOk P base gl nt body lp):∀ (c:Code) (q:List Bool),codeAt q body=some c→∀ (s s':S) (e:Ex),(compC P nt gl call lp q c).run s=some (e,s')→s.m.hi≤s'.m.hi∧s.m.lg.le s'.m.lg
 | .skip,q,hq,s,s',e,h=>by have h:some (Ex.normal,s)=some (e,s'):=h; cases h; exact ⟨Nat.le_refl _,.refl _⟩
 | .label _,q,hq,s,s',e,h=>by have h:some (Ex.normal,s)=some (e,s'):=h; cases h; exact ⟨Nat.le_refl _,.refl _⟩
 | .exit id,q,hq,s,s',e,h=>by have h:some (Ex.exit id,s)=some (e,s'):=h; cases h; exact ⟨Nat.le_refl _,.refl _⟩
 | .ret,q,hq,s,s',e,h=>by have h:some (Ex.ret,s)=some (e,s'):=h; cases h; exact ⟨Nat.le_refl _,.refl _⟩
 | .region id ops d,q,hq,s,s',e,h=>by
   cases d with
   | false =>
     have h:cRegion (compOps P nt gl call ops.toList ops.toList) s=some (e,s'):=h
     unfold cRegion at h
     split at h
     ·rename_i s1 h1; cases h; exact ⟨ops_hi _ _ _ h1,ops_lg hc _ _ _ h1⟩
     ·cases h
   | true =>
     unfold compC at h
     simp only at h
     cases hq:drawOk ops with
     | false=>rw [hq] at h; cases h
     | true =>
       rw [hq] at h
       have h:cRegion ⟨runDraw P nt gl call ops.toList ops.toList 0 (ancs ops.toList []) []⟩ s=some (e,s'):=h
       unfold cRegion at h
       split at h
       ·rename_i s1 h1; cases h; exact (hd nt ops hq _ _ h1).1
       ·cases h
 | .seq x y,q,hq,s,s',e,h=>by
   have ha:=code_hi hc hd hlp x (q++[false]) (codeAt_snoc hq rfl)
   have hb:=code_hi hc hd hlp y (q++[true]) (codeAt_snoc hq rfl)
   have h:cSeq (compC P nt gl call lp (q++[false]) x) (compC P nt gl call lp (q++[true]) y) s=some (e,s'):=h
   unfold cSeq at h
   split at h
   ·rename_i s1 h1
    have a:=ha _ _ _ h1
    have b:=hb _ _ _ h
    exact ⟨Nat.le_trans a.1 b.1,a.2.trans b.2⟩
   ·exact ha _ _ _ h
 | .cond c x y,q,hq,s,s',e,h=>by
   have ha:=code_hi hc hd hlp x (q++[false]) (codeAt_snoc hq rfl)
   have hb:=code_hi hc hd hlp y (q++[true]) (codeAt_snoc hq rfl)
   unfold compC at h
   cases hq:okX nt gl c with
   | false=>rw [hq] at h; cases h
   | true =>
     rw [hq] at h
     have h:cCond (compX c) (compC P nt gl call lp (q++[false]) x) (compC P nt gl call lp (q++[true]) y) s=some (e,s'):=h
     obtain ⟨t,lg,h1,h2⟩:=cCond_eq h
     have hl:=brL_le h1
     obtain ⟨fr,⟨H,n,W,hi,l0⟩⟩:=s
     cases t with
     | true=>have a:=ha _ _ _ h2; exact ⟨a.1,hl.trans a.2⟩
     | false=>have b:=hb _ _ _ h2; exact ⟨b.1,hl.trans b.2⟩
 | .block id x,q,hq,s,s',e,h=>by
   have ha:=code_hi hc hd hlp x (q++[false]) (codeAt_snoc hq rfl)
   have h:cBlock id (compC P nt gl call lp (q++[false]) x) s=some (e,s'):=h
   unfold cBlock at h
   split at h
   ·rename_i j s1 h1
    have:=ha _ _ _ h1
    cases hq:Nat.beq j id <;> rw [hq] at h <;> cases h <;> exact this
   ·exact ha _ _ _ h
 | .loop x,q,hq,s,s',e,h=>by
   have h:cLoop (compC P nt gl call lp (q++[false]) x) (lp.look q) s=some (e,s'):=h
   unfold cLoop at h
   split at h
   ·rename_i L hL; exact loopL_hi (code_hi hc hd hlp x (q++[false]) (codeAt_snoc hq rfl)) (hlp.2 q x L hq hL).lg _ _ _ _ h
   ·exact loopN_hi (code_hi hc hd hlp x (q++[false]) (codeAt_snoc hq rfl)) _ _ _ _ h
 | .rangeFunc x _ _ _,q,hq,s,s',e,h=>by
   unfold compC at h
   cases hx:okX nt gl x with
   | false=>rw [hx] at h; cases h
   | true=>rw [hx] at h; exact cRange_hi hc h
 | .scope _,q,hq,s,s',e,h=>by cases h
 | .goto _,q,hq,s,s',e,h=>by cases h
 | .refuse _,q,hq,s,s',e,h=>by cases h
theorem code_ok {call:CallT} {lp:LpT} {body:Code} (hc:CallOk P base gl call) (hd:DrawsOk P base gl call) (hlp:LpOk P base gl nt body lp):∀ (c:Code) (q:List Bool),codeAt q body=some c→∀ (ρ:Ren) (s s':S) (e:Ex) (a:Act) (w:World) (Q:Exit→Act→World→Prop),(compC P nt gl call lp q c).run s=some (e,s')→Sat s'.m.lg→At P base gl ρ s.m s'.m.hi w→FrR z ρ nt s.fr a →
  (∀ ρ' a' w',FrR z ρ' nt s'.fr a'→St P base ρ ρ' s.m s'.m w w'→Q e.out a' w')→c.wpIn (fw z.rd) 0 P Q a w
 | .skip,q,hq,ρ,s,s',e,a,w,Q,h,hS,hat,hf,hQ=>by have h:some (Ex.normal,s)=some (e,s'):=h; cases h; exact wpIn_skip (hQ ρ a w hf (.refl hat.hr))
 | .label _,q,hq,ρ,s,s',e,a,w,Q,h,hS,hat,hf,hQ=>by have h:some (Ex.normal,s)=some (e,s'):=h; cases h; exact wpIn_label (hQ ρ a w hf (.refl hat.hr))
 | .exit id,q,hq,ρ,s,s',e,a,w,Q,h,hS,hat,hf,hQ=>by have h:some (Ex.exit id,s)=some (e,s'):=h; cases h; exact wpIn_exit (hQ ρ a w hf (.refl hat.hr))
 | .ret,q,hq,ρ,s,s',e,a,w,Q,h,hS,hat,hf,hQ=>by have h:some (Ex.ret,s)=some (e,s'):=h; cases h; exact wpIn_ret (hQ ρ a w hf (.refl hat.hr))
 | .region id ops d,q,hq,ρ,s,s',e,a,w,Q,h,hS,hat,hf,hQ=>by
   cases d with
   | false =>
     have h:cRegion (compOps P nt gl call ops.toList ops.toList) s=some (e,s'):=h
     unfold cRegion at h
     split at h
     ·rename_i s1 h1; cases h
      exact wpI_region_list (ops_ok hc _ ρ s s' a w h1 hS hat hf hQ)
     ·cases h
   | true =>
     unfold compC at h
     simp only at h
     cases hq:drawOk ops with
     | false=>rw [hq] at h; cases h
     | true =>
       rw [hq] at h
       have h:cRegion ⟨runDraw P nt gl call ops.toList ops.toList 0 (ancs ops.toList []) []⟩ s=some (e,s'):=h
       unfold cRegion at h
       split at h
       ·rename_i s1 h1; cases h
        exact (hd nt ops hq _ _ h1).2 z ρ a w id Q hS hat hf hQ
       ·cases h
 | .seq x y,q,hq,ρ,s,s',e,a,w,Q,h,hS,hat,hf,hQ=>by
   have hqa:codeAt (q++[false]) body=some x:=codeAt_snoc hq rfl
   have hqb:codeAt (q++[true]) body=some y:=codeAt_snoc hq rfl
   have h:cSeq (compC P nt gl call lp (q++[false]) x) (compC P nt gl call lp (q++[true]) y) s=some (e,s'):=h
   unfold cSeq at h
   split at h
   ·rename_i s1 h1
    have hh:=code_hi hc hd hlp y _ hqb _ _ _ h
    refine wpIn_seq (code_ok hc hd hlp x _ hqa ρ s s1 .normal a w _ h1 (SatL.le hS hh.2) (hat.less hh.1) hf fun ρ1 a1 w1 f1 st1=>?_)
    exact code_ok hc hd hlp y _ hqb ρ1 s1 s' e a1 w1 Q h hS (hat.step st1) f1 fun ρ2 a2 w2 f2 st2=>hQ ρ2 a2 w2 f2 (St.trans hat.fr st1 st2)
   ·rename_i hne
    refine wpIn_seq (code_ok hc hd hlp x _ hqa ρ s s' e a w _ h hS hat hf fun ρ1 a1 w1 f1 st1=>?_)
    have:=hQ ρ1 a1 w1 f1 st1
    cases e with
    | normal=>exact absurd h (hne s')
    | exit id=>exact this
    | ret=>exact this
 | .cond c x y,q,hq,ρ,s,s',e,a,w,Q,h,hS,hat,hf,hQ=>by
   have hqa:codeAt (q++[false]) body=some x:=codeAt_snoc hq rfl
   have hqb:codeAt (q++[true]) body=some y:=codeAt_snoc hq rfl
   unfold compC at h
   cases hqx:okX nt gl c with
   | false=>rw [hqx] at h; cases h
   | true =>
     rw [hqx] at h
     have h:cCond (compX c) (compC P nt gl call lp (q++[false]) x) (compC P nt gl call lp (q++[true]) y) s=some (e,s'):=h
     have hv:=hf.ev hat.gr hqx
     obtain ⟨t,lg,h1,h2⟩:=cCond_eq h
     rw [compX_run] at h1
     have hst:St P base ρ ρ s.m (s.m.wLg lg) w w:=St.wLg hat.hr lg
     cases t with
     | true =>
       have hh:=code_hi hc hd hlp x _ hqa _ _ _ h2
       have hl:Sat lg:=SatL.le hS (by obtain ⟨fr,⟨H,n,W,hi,l0⟩⟩:=s; exact hh.2)
       exact wpIn_cond_true (brL_ok h1 hv hl) (code_ok hc hd hlp x _ hqa ρ ⟨s.fr,s.m.wLg lg⟩ s' e a w Q h2 hS (hat.wLg lg) hf fun ρ2 a2 w2 f2 st2=>hQ ρ2 a2 w2 f2 (St.trans hat.fr hst st2))
     | false =>
       have hh:=code_hi hc hd hlp y _ hqb _ _ _ h2
       have hl:Sat lg:=SatL.le hS (by obtain ⟨fr,⟨H,n,W,hi,l0⟩⟩:=s; exact hh.2)
       exact wpIn_cond_false (brL_ok h1 hv hl) (code_ok hc hd hlp y _ hqb ρ ⟨s.fr,s.m.wLg lg⟩ s' e a w Q h2 hS (hat.wLg lg) hf fun ρ2 a2 w2 f2 st2=>hQ ρ2 a2 w2 f2 (St.trans hat.fr hst st2))
 | .block id x,q,hq,ρ,s,s',e,a,w,Q,h,hS,hat,hf,hQ=>by
   have hqa:codeAt (q++[false]) body=some x:=codeAt_snoc hq rfl
   have h:cBlock id (compC P nt gl call lp (q++[false]) x) s=some (e,s'):=h
   unfold cBlock at h
   split at h
   ·rename_i j s1 h1
    cases hq2:Nat.beq j id with
    | true =>
      rw [hq2] at h; cases h
      have hj:=Nat.eq_of_beq_eq_true hq2
      refine wpIn_block (code_ok hc hd hlp x _ hqa ρ s s' (.exit j) a w _ h1 hS hat hf fun ρ1 a1 w1 f1 st1=>?_)
      have:=hQ ρ1 a1 w1 f1 st1
      simpa [Exit.inBlock,Ex.out,hj] using this
    | false =>
      rw [hq2] at h; cases h
      have hj:j≠id:=fun e=>by subst e; simp at hq2
      refine wpIn_block (code_ok hc hd hlp x _ hqa ρ s s' (.exit j) a w _ h1 hS hat hf fun ρ1 a1 w1 f1 st1=>?_)
      have:=hQ ρ1 a1 w1 f1 st1
      simpa [Exit.inBlock,Ex.out,hj] using this
   ·rename_i hne
    refine wpIn_block (code_ok hc hd hlp x _ hqa ρ s s' e a w _ h hS hat hf fun ρ1 a1 w1 f1 st1=>?_)
    have:=hQ ρ1 a1 w1 f1 st1
    cases e with
    | normal=>exact this
    | exit j=>exact absurd h (hne j s')
    | ret=>exact this
 | .loop x,q,hq,ρ,s,s',e,a,w,Q,h,hS,hat,hf,hQ=>by
   have hqa:codeAt (q++[false]) body=some x:=codeAt_snoc hq rfl
   replace h:cLoop (compC P nt gl call lp (q++[false]) x) (lp.look q) s=some (e,s'):=h
   unfold cLoop at h
   split at h
   ·rename_i L hL
    have hLo:=hlp.2 q x L hq hL
    have key:∀ (n:Nat) (s:S),loopL (compC P nt gl call lp (q++[false]) x) L n s=some (e,s')→∃ N,∀ (ρ:Ren) (a:Act) (w:World) (Q:Exit→Act→World→Prop),At P base gl ρ s.m s'.m.hi w→FrR z ρ nt s.fr a →
      (∀ ρ' a' w',FrR z ρ' nt s'.fr a'→St P base ρ ρ' s.m s'.m w w'→Q e.out a' w')→Code.roundsIn (fw z.rd) 0 P x Q N a w:=by
     intro n
     induction n with
     | zero=>intro s h; cases h
     | succ n ih =>
       intro s h
       unfold loopL at h
       split at h
       ·rename_i r hr
        cases h
        exact hLo.ok z s s' e hr hS
       ·split at h
        ·rename_i s1 h1
         obtain ⟨N,hN⟩:=ih s1 h
         have hh:=loopL_hi (code_hi hc hd hlp x _ hqa) hLo.lg _ _ _ _ h
         refine ⟨N+1,fun ρ a w Q hat hf hQ=>?_⟩
         show x.wpIn (fw z.rd) 0 P (Exit.then (Code.roundsIn (fw z.rd) 0 P x Q N) Q) a w
         refine code_ok hc hd hlp x _ hqa ρ s s1 .normal a w _ h1 (SatL.le hS hh.2) (hat.less hh.1) hf fun ρ1 a1 w1 f1 st1=>?_
         exact hN ρ1 a1 w1 Q (hat.step st1) f1 fun ρ2 a2 w2 f2 st2=>hQ ρ2 a2 w2 f2 (St.trans hat.fr st1 st2)
        ·rename_i hne
         refine ⟨1,fun ρ a w Q hat hf hQ=>?_⟩
         show x.wpIn (fw z.rd) 0 P (Exit.then (Code.roundsIn (fw z.rd) 0 P x Q 0) Q) a w
         refine code_ok hc hd hlp x _ hqa ρ s s' e a w _ h hS hat hf fun ρ1 a1 w1 f1 st1=>?_
         have:=hQ ρ1 a1 w1 f1 st1
         cases e with
         | normal=>exact absurd h (hne s')
         | exit id=>exact this
         | ret=>exact this
    obtain ⟨N,hN⟩:=key _ s h
    exact wpIn_loop_rounds N (hN ρ a w Q hat hf hQ)
   obtain ⟨n,h0⟩:∃ n,loopN (compC P nt gl call lp (q++[false]) x) n s=some (e,s'):=⟨_,h⟩
   clear h
   have h:=h0
   clear h0
   refine wpIn_loop_rounds n ?_
   induction n generalizing s ρ a w with
   | zero=>cases h
   | succ n ih =>
     unfold loopN at h
     show x.wpIn (fw z.rd) 0 P (Exit.then (Code.roundsIn (fw z.rd) 0 P x Q n) Q) a w
     split at h
     ·rename_i s1 h1
      have hh:=loopN_hi (code_hi hc hd hlp x _ hqa) _ _ _ _ h
      refine code_ok hc hd hlp x _ hqa ρ s s1 .normal a w _ h1 (SatL.le hS hh.2) (hat.less hh.1) hf fun ρ1 a1 w1 f1 st1=>?_
      exact ih ρ1 s1 a1 w1 (hat.step st1) f1 (fun ρ2 a2 w2 f2 st2=>hQ ρ2 a2 w2 f2 (St.trans hat.fr st1 st2)) h
     ·rename_i hne
      refine code_ok hc hd hlp x _ hqa ρ s s' e a w _ h hS hat hf fun ρ1 a1 w1 f1 st1=>?_
      have:=hQ ρ1 a1 w1 f1 st1
      cases e with
      | normal=>exact absurd h (hne s')
      | exit id=>exact this
      | ret=>exact this
 | .rangeFunc x ps as bd,q,hq,ρ,s,s',e,a,w,Q,h,hS,hat,hf,hQ=>by
   unfold compC at h
   cases hx:okX nt gl x with
   | false=>rw [hx] at h; cases h
   | true =>
     rw [hx] at h
     obtain ⟨fn,f1,f2,f3⟩:=hlp.1
     exact range_ok hc f1 f2 f3 hq hx h hS hat hf hQ
 | .scope _,q,hq,ρ,s,s',e,a,w,Q,h,hS,hat,hf,hQ=>by cases h
 | .goto _,q,hq,ρ,s,s',e,a,w,Q,h,hS,hat,hf,hQ=>by cases h
 | .refuse _,q,hq,ρ,s,s',e,a,w,Q,h,hS,hat,hf,hQ=>by cases h
end
end Go.Sx
