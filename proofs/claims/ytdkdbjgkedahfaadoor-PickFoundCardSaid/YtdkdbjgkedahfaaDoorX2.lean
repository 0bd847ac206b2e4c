/- The law PickFound: for every input the call returns true, and the arguments read behind it as they read before. No condition. -/
import Derived.Test.YtdkdbjgkedahfaaDoorX1
namespace Go.Sx
set_option linter.all false
open Go
set_option linter.unusedVariables false
set_option linter.unusedSimpArgs false
variable [Ora]
section
variable {P:Program} {base:Nat} {ρ:Ren} {m m':Mem} {w:World}
theorem A83{e:TypeId}(hc:P.cellsOf e=1)(count off n:Nat)(hn:off+n≤count):liesAt P P.depth e count off e n=true:=by
 have hd:P.depth=(2*(P.types.size+Made.depth)+1)+1:=rfl;rw[hd];simp only[liesAt,I5];left
 rw[hd];simp[rowAt,hc,hn,sameLayout,Nat.mod_one]
theorem A1x:∀ (ns:List Int) (b o:Nat) (acc:ByteArray),(∀ (j:Nat) (v:Value),(ns.map (Value.int .u8))[j]? = some v→w.cell? ⟨b,o+j,none⟩=some v) →
  (loadBytes ⟨b,o,none⟩ acc ns.length).run P w=.ok ⟨acc.data++(ns.map fun n=>UInt8.ofNat n.toNat).toArray⟩ w
 | [],b,o,acc,_=>by simp[loadBytes]
 | n::ns,b,o,acc,h=>by
   have h0:w.cell? ⟨b,o,none⟩=some (.int .u8 n):=by simpa using h 0 _ rfl
   have ih:=A1x ns b (o+1) (acc.push n.toNat.toUInt8) (fun j v hj=>by
    have:=h (j+1) v (by simpa using hj);rw[show o+1+j=o+(j+1) by omega];exact this)
   simp only[A3,loadBytes,Sem.run_bind,run_load,h0,Result.andThen,c8];rw[ih];have:(acc.push n.toNat.toUInt8).data=acc.data.push n.toNat.toUInt8:=rfl;rw[this];congr 2
   apply J1;simp
theorem A9l{pt ty:TypeId}{tys:List TypeId}{p l p' l' v:Value}(h:HR P base ρ m.H w)(ho:A1s P m pt p l=some (v,m'))(hp:VR ρ p p')(hl:VR ρ l l') :
  VOk P base ρ m w (Builtin.unsafeString_ ⟨pt::tys⟩ ty #[p',l']) v m':=by
 have hmax:IntKind.i64.max=9223372036854775807:=rfl;unfold A1s at ho;split at ho
 ·cases hp with|pure _=>?_
  cases J2 hl;cases ho;refine VOk.same h (v':=.string ByteArray.empty) ?_ (.pure rfl);rename_i k _;have hdef:Builtin.unsafeString_ ⟨pt::tys⟩ ty #[.pointer none,.int k (.ofNat 0)] =
    (do
      let n ← asInt (.int k (.ofNat 0))
      if n<0 then runtimePanic (.error "unsafe.String: len out of range")
      if n>IntKind.i64.max then unsupported (.unsafePointer "String: a length above the largest int")
      if n=0 then pure (.string .empty)
      else runtimePanic (.error "unsafe.String: ptr is nil and len is not zero")):=rfl
  rw[hdef];simp[asInt,asIntOf,hmax]
 ·rename_i a k n;cases J2 hl;obtain⟨lc,hlc,hsp,rfl⟩:=Q0 hp;split at ho
  ·rename_i cs T hspot hg;split at ho
   ·rename_i e hpt hT;obtain⟨q,ho⟩:=A5 ho;obtain⟨q,q3⟩:=B8 q;obtain⟨q1,q2⟩:=B8 q;have q1:0<n:=A1 q1;have q2:=A1 q2;have q3:=A2 q3;subst q3;split at ho
    ·rename_i r hr;split at ho
     ·rename_i bs m2 hbs A3x;cases ho;obtain⟨ns,h1,h2⟩:=A5y hbs;have hread:A0K m a n=some r:=by
       unfold A0K;rw[hspot,hg];exact hr
      obtain⟨r',g1,g2,g3⟩:=r9 h hread hlc;rw[h1]at g1;have hr':=A6c g1;subst hr';obtain⟨⟨hon,C,fz,T',z2,z3,z4⟩,z5⟩:=h.atl hlc hg;have z2:w.heap[lc.blk]? = some (.cells C e fz):=by rw[z2,(z4 rfl).1]
      have hnl:ns.length=n:=by simpa using g2
      have hcell:P.cellsOf e=1:=by
       unfold G7 at hT;unfold Program.cellsOf;cases hi:P.info? e with
       | none=>rw[hi]at hT;cases hT
       | some i=>rw[hi]at hT;have:=A8 hT;simp[this]
      have hin:a.off+lc.sh+n≤C.size:=by
       have hlast:=g3 (n-1) (.int .u8 ns[n-1]) (by simp[hnl]);simp only[World.cell?,z2]at hlast
       have:=(D7.1 (by simpa using hlast)).1;omega
      have hlb:=A1x (P:=P) (w:=w) ns lc.blk (a.off+lc.sh) .empty g3;rw[hnl]at hlb;have hsh:w.shape? lc.blk=some (e,C.size):=by simp[World.shape?,z2]
      have hlies:=A83 (P:=P) hcell (C.size / P.cellsOf e) (a.off+lc.sh) n (by rw[hcell];simpa using hin);have hdef:Builtin.unsafeString_ ⟨pt::tys⟩ ty #[.pointer (some ⟨lc.blk,a.off+lc.sh,none⟩),.int k (.ofNat n)] =
       (do
         let n ← asInt (.int k (.ofNat n))
         if n<0 then runtimePanic (.error "unsafe.String: len out of range")
         if n>IntKind.i64.max then unsupported (.unsafePointer "String: a length above the largest int")
         if n=0 then pure (.string .empty)
         else if ← variablesAt ⟨lc.blk,a.off+lc.sh,none⟩ (← elemOf pt) n.toNat then do
          let s ← loadBytes ⟨lc.blk,a.off+lc.sh,none⟩ .empty n.toNat
          freeze ⟨lc.blk,a.off+lc.sh,none⟩ n.toNat
          pure (.string s)
         else unsupported (.unsafePointer "String: not so many bytes at ptr")):=rfl
      have e1:Int.ofNat n=(n:Int):=rfl;have hneg:¬ (n:Int)<0:=by omega
      have hbig:¬ (9223372036854775807:Int)<(n:Int):=by omega
      have hz:¬ (n:Int)=0:=by omega
      have hz2:n≠0:=by omega
      refine⟨.string ⟨⟨bs⟩⟩,ρ,w.freeze ⟨lc.blk,a.off+lc.sh,none⟩ n,?_,.pure rfl,St.write h A3x hg rfl hlc hon ?_ ?_ ?_ ?_⟩
      ·rw[hdef];simp[asInt,asIntOf,hmax,e1,hneg,hbig,hz,hz2,variablesAt,hsh,elemOf,D8 hpt,hlies,hlb,freeze,Sem.run,Sem.run_bind,Result.andThen,h2]
      ·simp[World.freeze,hz2]
      ·simp[World.freeze,hz2]
      ·intro j hj;simp only[World.freeze,hz2,if_false,J4];rw[if_neg (fun e=>hj e.symm)]
      ·refine⟨hon,C,(if fz.1 == fz.2 then(a.off+lc.sh,a.off+lc.sh+n)else(min fz.1 (a.off+lc.sh),max fz.2 (a.off+lc.sh+n))),e,?_,z3,fun hc=>by cases hc⟩;simp only[World.freeze,hz2,if_false,J4,if_true,z2,P5]
     ·cases ho
    ·cases ho
   ·cases ho
  ·cases ho
 ·cases ho
theorem B4E{b:Builtin}{vs vs':List Value}{tys:List TypeId}{ty:TypeId}{ks:Array Bool}{v:Value}(h:HR P base ρ m.H w)(hb:base≤w.heap.size)(ho:A3A P m b vs tys=some (v,m'))(hf:K4 ρ m.n m'.hi)(hx:LR ρ vs vs') :
  ∃ s:Sem Value,builtin b ⟨tys⟩ ty ks ⟨vs'⟩=(do pure (.value (← s)))∧VOk P base ρ m w s v m':=by
 unfold A3A at ho;split at ho
 ·obtain⟨x',r1,rfl,h1,h2⟩:=hx.tail;cases h2.nil_inv;unfold noM at ho;split at ho
  ·rename_i u hu;cases ho;obtain⟨g1,g2⟩:=B6D h hu h1;exact⟨_,rfl,VOk.same h g1 (.pure g2)⟩
  ·cases ho
 ·obtain⟨x',r1,rfl,h1,h2⟩:=hx.tail;cases h2.nil_inv;unfold noM at ho;split at ho
  ·rename_i u hu;cases ho;obtain⟨g1,g2⟩:=C2S hu h1 w;exact⟨_,rfl,VOk.same h g1 (.pure g2)⟩
  ·cases ho
 ·obtain⟨x',r1,rfl,h1,h2⟩:=hx.tail;obtain⟨y',r2,rfl,h3,h4⟩:=h2.tail;cases h4.nil_inv;rename_i t t2 rest;refine⟨Builtin.append_ ⟨t::t2::rest⟩ ty #[x',y'],rfl,?_⟩
  have:=B5P (ty:=ty) h hb ho hf h1 h3;have e:Builtin.append_ ⟨t::t2::rest⟩ ty #[x',y']=Builtin.append_ #[t,t2] ty #[x',y']:=rfl;rw[e];exact this
 ·obtain⟨x',r1,rfl,h1,h2⟩:=hx.tail;obtain⟨y',r2,rfl,h3,h4⟩:=h2.tail;cases h4.nil_inv;exact⟨_,rfl,B96 h ho h1 h3⟩
 ·unfold noM at ho;split at ho
  ·rename_i u hu;cases ho;obtain⟨g1,g2⟩:=B55 (P:=P) (ty:=ty) (tys:=⟨tys⟩) hu hx w;exact⟨_,rfl,VOk.same h g1 (.pure g2)⟩
  ·cases ho
 ·unfold noM at ho;split at ho
  ·rename_i u hu;cases ho;obtain⟨g1,g2⟩:=B53 (P:=P) (ty:=ty) (tys:=⟨tys⟩) hu hx w;exact⟨_,rfl,VOk.same h g1 (.pure g2)⟩
  ·cases ho
 ·obtain⟨x',r1,rfl,h1,h2⟩:=hx.tail;cases h2.nil_inv;exact⟨_,rfl,A9w h ho h1⟩
 ·obtain⟨x',r1,rfl,h1,h2⟩:=hx.tail;obtain⟨y',r2,rfl,h3,h4⟩:=h2.tail;cases h4.nil_inv;exact⟨_,rfl,A9l h ho h1 h3⟩
 ·cases ho
def NOk(P:Program)(base:Nat)(ρ:Ren)(m:Mem)(w:World)(s:Sem Next)(v:Value)(m':Mem):Prop :=
 ∃ v' ρ' w',(s.run P w=.ok (.value v') w'∨(s.run P w=.ok .skip w'∧v'=undef))∧VR ρ' v v'∧St P base ρ ρ' m m' w w'
theorem NOk.of{s:Sem Value}{v:Value}(h:VOk P base ρ m w s v m'):NOk P base ρ m w (do pure (.value (← s))) v m':=by
 obtain⟨v',ρ',w',h1,h2,h3⟩:=h;exact⟨v',ρ',w',.inl (by simp[Sem.run_bind,h1,Result.andThen]),h2,h3⟩
theorem A6B(ρ:Ren):VR ρ undef undef:=.tuple (a:=[]) (a':=[]) rfl (fun i v v' h=>by simp at h)
theorem NOk.ofU{s:Sem Unit}(h:UOk P base ρ m w s m'):NOk P base ρ m w (do s;pure .skip) undef m':=by
 obtain⟨ρ',w',h1,h3⟩:=h;exact⟨undef,ρ',w',.inr ⟨by simp[Sem.run_bind,h1,Result.andThen],rfl⟩,A6B _,h3⟩
theorem NOk.same{s:Sem Value}{v v':Value}(h:HR P base ρ m.H w)(hr:s.run P w=.ok v' w)(hv:VR ρ v v'):NOk P base ρ m w (do pure (.value (← s))) v m:=NOk.of (VOk.same h hr hv)
def FR(ρ:Ren)(fr:Fr)(g:Operand→Value)(o:Op):Prop:=∀ x ∈ o.operands.toList,VR ρ (ev fr x) (g x)
theorem x6{o:Option Value}{v:Value}(h:noM o m=some (v,m')):o=some v∧m'=m:=by
 unfold noM at h;split at h
 ·cases h;exact⟨rfl,rfl⟩
 ·cases h
theorem A4s{o:Option Mem}{v:Value}(h:C1u o=some (v,m')):o=some m'∧v=undef:=by
 unfold C1u at h;split at h
 ·cases h;exact⟨rfl,rfl⟩
 ·cases h
theorem A2A{fr:Fr}{g:Operand→Value}:∀ {xs:List Operand},(∀ x ∈ xs,VR ρ (ev fr x) (g x))→LR ρ (evL fr xs) (xs.map g)
 | [],_=>.nil
 | x::r,h=>.cons (h x B6) (A2A fun y hy=>h y (D1 _ hy))
theorem B5G{fr:Fr}{g:Operand→Value}:∀ {xs:List (Nat×Operand)},(∀ x ∈ xs.map (·.2),VR ρ (ev fr x) (g x))→PR ρ (evP fr xs) (xs.map fun x=>(x.1,g x.2))
 | [],_=>trivial
 | (i,x)::r,h=>⟨rfl,h x (by simp),B5G fun y hy=>h y (by simp at hy ⊢;exact .inr hy)⟩
theorem A3b{fr:Fr}{g:Operand→Value}{x:Option Operand}(h:∀ y ∈ x.toList,VR ρ (ev fr y) (g y)):OR ρ (evO fr x) (x.map g):=by
 cases x with
 | none=>trivial
 | some y=>exact h y (by simp)
set_option maxHeartbeats 1000000 in
theorem C5Z{fr:Fr}{g:Operand→Value}{o:Oper}{v:Value}(h:HR P base ρ m.H w)(hb:base≤w.heap.size)(ho:opM P fr m o.op=some (v,m'))(hf:K4 ρ m.n m'.hi)(hg:FR ρ fr g o.op) :
  NOk P base ρ m w (execOp g o) v m':=by
 obtain⟨dst,op,ty,pos,af,gd⟩:=o;simp only at ho hg;have hx1:∀ {x},x ∈ op.operands.toList→VR ρ (ev fr x) (g x):=fun hx=>hg _ hx
 unfold opM at ho;split at ho
 ·cases ho;exact⟨_,ρ,w,.inl rfl,hx1 (by simp[Op.operands]),.refl h⟩
 ·cases ho;exact⟨_,ρ,w,.inl rfl,hx1 (by simp[Op.operands]),.refl h⟩
 ·rename_i c a b;have hc:=hx1 (x:=c) (by simp[Op.operands]);unfold B5u at ho;split at ho
  ·rename_i hcv;rw[hcv]at hc;cases ho;exact⟨g a,ρ,w,.inl (by simp[execOp,A1E hc,asBool]),hx1 (by simp[Op.operands]),.refl h⟩
  ·rename_i hcv;rw[hcv]at hc;cases ho;exact⟨g b,ρ,w,.inl (by simp[execOp,A1E hc,asBool]),hx1 (by simp[Op.operands]),.refl h⟩
  ·cases ho
 ·exact NOk.of (B7Q h hb ho hf)
 ·exact NOk.of (C1l h hb ho hf (hx1 (by simp[Op.operands])))
 ·rename_i t ps;obtain⟨h1,rfl⟩:=x6 ho;obtain⟨v',h2,h3⟩:=B7h h1 (B5G (g:=g) (fun x hx=>hx1 (by simpa [Op.operands]using hx))) w;have e:(ps.map fun(i,x)=>(i,g x))=⟨ps.toList.map fun x=>(x.1,g x.2)⟩:=by apply J1;simp
  exact NOk.same (s:=Instr.build t (ps.map fun(i,x)=>(i,g x))) h (by rw[e];exact h2) h3
 ·rename_i t n ps
  have:=A9Z h hb ho hf (B5G (g:=g) (fun x hx=>hx1 (by simpa [Op.operands]using hx)));have e:(ps.map fun(i,x)=>(i,g x))=⟨ps.toList.map fun x=>(x.1,g x.2)⟩:=by apply J1;simp
  refine NOk.of (s:=Instr.buildSlice t n (ps.map fun(i,x)=>(i,g x))) ?_;rw[e];exact this
 ·rename_i t x;have hx:=hx1 (x:=x) (by simp[Op.operands]);unfold B5v at ho;split at ho
  ·rename_i a hev;rw[hev]at hx;obtain⟨l,hl,hsp,hgx⟩:=Q0 hx;obtain⟨h1,rfl⟩:=x6 ho;obtain⟨v',h2,h3⟩:=B3W h h1 hl;refine NOk.same (s:=Instr.loadAt t (g x)) h ?_ h3;rw[hgx]
   simpa [Instr.loadAt,Instr.sureAddr]using h2
  ·cases ho
 ·rename_i t x y;have hx:=hx1 (x:=x) (by simp[Op.operands]);have hy:=hx1 (x:=y) (by simp[Op.operands]);unfold B1g at ho;split at ho
  ·rename_i a hev;rw[hev]at hx;obtain⟨l,hl,hsp,hgx⟩:=Q0 hx;obtain⟨h1,rfl⟩:=A4s ho
   have:=B64 h h1 hl hy;refine NOk.ofU (s:=Instr.storeAt t (g x) (g y)) ?_;rw[hgx];obtain⟨ρ',w',r1,r2⟩:=this;exact⟨ρ',w',by simpa [Instr.storeAt,Instr.sureAddr]using r1,r2⟩
  ·cases ho
 ·rename_i x;have hx:=hx1 (x:=x) (by simp[Op.operands]);obtain⟨hm,h1,h2⟩:=C1k ho hx;subst hm;refine⟨g x,ρ,w,.inl ?_,h1,.refl h⟩;rcases h2 with⟨a,ha⟩|⟨f,a,b,ha⟩<;>simp[execOp,ha]
 ·rename_i op t x y yt;have hx:=hx1 (x:=x) (by simp[Op.operands]);have hy:=hx1 (x:=y) (by simp[Op.operands]);unfold C1m at ho;have hfin:(A8_ op=true→A4O P t x y (ev fr x) (ev fr y)=true)→noM (A6s P op t (ev fr x) (ev fr y)) m=some (v,m')→NOk P base ρ m w (execOp g ⟨dst,.binOp op t x y yt,ty,pos,af,gd⟩) v m':=fun hgu hn=>by
   obtain⟨h1,rfl⟩:=x6 hn;obtain⟨h2,h3⟩:=A8M h1 hx hy w;have hq:=A6f hgu hx hy w;refine NOk.same (s:=do eqGuard op t x y (g x) (g y);binOp op t (g x) (g y)) h ?_ (.pure h3);simp[Sem.run_bind,hq,h2,Result.andThen]
  cases hop:A8_ op with
  | true =>
    rw[hop]at ho;simp only[cond_true]at ho;obtain⟨h1,h2⟩:=A5 ho;exact hfin (fun _=>h1) h2
  | false =>
    rw[hop]at ho;simp only[cond_false]at ho;exact hfin (fun h=>by rw[hop]at h;cases h) ho
 ·rename_i op t x;obtain⟨h1,rfl⟩:=x6 ho;obtain⟨h2,h3⟩:=B4b (P:=P) h1 (hx1 (x:=x) (by simp[Op.operands])) w;exact NOk.same (s:=Op.unary op (g x)) h h2 (.pure h3)
 ·exact NOk.of (B99 h hb ho hf (hx1 (by simp[Op.operands])))
 ·exact NOk.of (B7P h ho (hx1 (by simp[Op.operands])))
 ·rename_i f first cap
  cases ho;have l1:=A2A (ρ:=ρ) (fr:=fr) (g:=g) (xs:=first.toList) fun x hx=>hx1 (by simp[Op.operands];exact .inl (by simpa using hx))
  have l2:=A2A (ρ:=ρ) (fr:=fr) (g:=g) (xs:=cap.toList) fun x hx=>hx1 (by simp[Op.operands];exact .inr (by simpa using hx))
  refine⟨.func (.func f) ⟨first.toList.map g⟩ ⟨cap.toList.map g⟩,ρ,w,.inl ?_,.func l1.1 l2.1 l1.2 l2.2,.refl h⟩;have e1:first.map g=⟨first.toList.map g⟩:=by apply J1;simp
  have e2:cap.map g=⟨cap.toList.map g⟩:=by apply J1;simp
  simp[execOp,Instr.makeFunc,e1,e2]
 ·exact NOk.of (A90 h hb ho hf (hx1 (by simp[Op.operands])) (hx1 (by simp[Op.operands])))
 ·rename_i t x lo hi mx;obtain⟨h1,rfl⟩:=x6 ho;obtain⟨v',h2,h3⟩:=A2z h1 (hx1 (x:=x) (by simp[Op.operands])) (A3b (g:=g) fun y hy=>hx1 (by simp[Op.operands]at hy ⊢;exact .inr (.inl hy))) (A3b (g:=g) fun y hy=>hx1 (by simp[Op.operands]at hy ⊢;exact .inr (.inr (.inl hy)))) (A3b (g:=g) fun y hy=>hx1 (by simp[Op.operands]at hy ⊢;exact .inr (.inr (.inr hy)))) w;exact NOk.same (s:=Instr.sliceAt t (g x) (lo.map g) (hi.map g) (mx.map g)) h h2 h3
 ·obtain⟨h1,rfl⟩:=x6 ho;obtain⟨v',h2,h3⟩:=A4Q h1 (hx1 (by simp[Op.operands])) w;exact NOk.same h h2 h3
 ·obtain⟨h1,rfl⟩:=x6 ho;obtain⟨v',h2,h3⟩:=B7X h1 (hx1 (by simp[Op.operands])) w;exact NOk.same h h2 h3
 ·obtain⟨h1,rfl⟩:=x6 ho;obtain⟨v',h2,h3⟩:=A1F h1 (hx1 (by simp[Op.operands])) (hx1 (by simp[Op.operands])) w;exact NOk.same h h2 h3
 ·obtain⟨h1,rfl⟩:=x6 ho;obtain⟨v',h2,h3⟩:=A7D h1 (hx1 (by simp[Op.operands])) (hx1 (by simp[Op.operands])) w;exact NOk.same h h2 h3
 ·obtain⟨hm,v',h2,h3⟩:=B3L (P:=P) ho (hx1 (by simp[Op.operands])) w;subst hm;exact NOk.same h h2 h3
 ·rename_i b xs tys;have l1:=A2A (ρ:=ρ) (fr:=fr) (g:=g) (xs:=xs.toList) fun x hx=>hx1 (by show x ∈ (#[]++xs:Array Operand).toList;simpa using hx)
  obtain⟨ks,e2⟩:∃ ks,execOp g ⟨dst,.call ⟨.builtin b,xs,tys⟩,ty,pos,af,gd⟩=builtin b tys ty ks (xs.map g):=⟨_,rfl⟩;obtain⟨s,e,hs⟩:=B4E (ty:=ty) (ks:=ks) h hb ho hf l1;have e1:xs.map g=⟨xs.toList.map g⟩:=by apply J1;simp
  rw[e2,e1];have e3:tys=⟨tys.toList⟩:=rfl;rw[e3,e];exact NOk.of hs
 ·cases ho
end
end Go.Sx
namespace Go.Sx
set_option linter.all false
open Go
set_option linter.unusedVariables false
set_option linter.unusedSimpArgs false
def ofV:Option Value→U
 | some (.int k n)=>.int k n
 | some (.bool b)=>.bool b
 | some (.string s)=>.str s.data.toList
 | _=>.none
def F8(E:Nat→U):Value→U
 | .complex .f64 i _=>E i
 | .int k n=>.int k n
 | .bool b=>.bool b
 | .string s=>.str s.data.toList
 | _=>.none
def evB(op:BinOp):U→U→U
 | .int k a,.int j b=>ofV (A0l op k j a b)
 | .str a,.str b=>ofV (B8W op ⟨⟨a⟩⟩ ⟨⟨b⟩⟩)
 | .bool a,.bool b=>match op with
   | .eql=>.bool (a == b)
   | .neq=>.bool (!(a == b))
   | _=>.none
 | _,_=>.none
def ev1(op:UnOp):U→U
 | .int k n=>ofV (unM op (.int k n))
 | .bool b=>ofV (unM op (.bool b))
 | _=>.none
def eqU:U→U→Option Bool
 | .int k a,.int j b=>if k=j then some (a == b)else none
 | .bool a,.bool b=>some (a == b)
 | .str a,.str b=>some (a == b)
 | _,_=>none
def A4T:List U→Option Bool
 | []=>some true
 | a::b::r=>match eqU a b,A4T r with
   | some x,some y=>some (x && y)
   | _,_=>none
 | _=>none
def B2t(s:List UInt8)(l h:Int):U :=
 match l,h with
 | .ofNat l,.ofNat h=>if l≤h∧h≤s.length then .str ((s.drop l).take (h-l))else .none
 | _,_=>.none
def A7N:List U→Option (List UInt8)
 | []=>some []
 | .int .u8 (.ofNat n)::r=>if n<256 then match A7N r with
   | some l=>some (UInt8.ofNat n::l)
   | none=>none else none
 | _::_=>none
def A75:List (List U)→Option (List UInt8)
 | []=>some []
 | [.int .u8 (.ofNat n)]::r=>if n<256 then match A75 r with
   | some l=>some (UInt8.ofNat n::l)
   | none=>none else none
 | _::_=>none
def A3m(s:List UInt8):List (List U):=s.map fun b=>[.int .u8 b.toNat]
def A0E(w:Nat):Nat→List U→Option (List (List U))
 | 0,[]=>some []
 | 0,_::_=>none
 | n+1,l=>if w≤l.length then match A0E w n (l.drop w)with
   | some r=>some (l.take w::r)
   | none=>none else none
def B4y(row:List U)(o:Nat)(cells:List U):List U:=row.take o++cells++row.drop (o+cells.length)
def A7O:Nat:=1000000000
def A4X(nul:Bool)(w:Nat)(rows r:List (List U)):U:=if rows.length+r.length≤A7O then(match r with|[]=>.seq nul w rows|r=>.seq false w (rows++r))else .none
def evU:LOp→List U→U
 | .len,[.seq _ _ rows]=>.int .i64 rows.length
 | .mks,l=>match A7N l with
   | some s=>.str s
   | none=>.none
 | .inbs w,[.int _ i,.seq _ v rows]=>if v=w then .bool (decide (0≤i) && decide (i<rows.length))else .none
 | .get w o,[.seq false v rows,.int _ (.ofNat k)]=>if v=w then(rows.getD k []).getD o .none else .none
 | .mk w,l=>if w=0 then .none else match A0E w (l.length / w) l with
   | some r=>.seq false w r
   | none=>.none
 | .nilw w,[]=>.seq true w []
 | .nilp,[.seq nul _ _]=>.bool nul
 | .snoc w,.seq nul v rows::l=>if v=w∧w≠0 then match A0E w (l.length / w) l with
   | some r=>A4X nul w rows r
   | none=>.none else .none
 | .cat w,[.seq nul v rows,.seq _ v2 r]=>if v=w∧v2=w then A4X nul w rows r else .none
 | .cats,[.seq nul v rows,.str s]=>if v=1 then A4X nul 1 rows (A3m s)else .none
 | .set w o,.seq false v rows::.int _ (.ofNat k)::l=>if v=w∧k<rows.length∧o+l.length≤w then .seq false w (rows.set k (B4y (rows.getD k []) o l))else .none
 | .subs w,[.seq nul v rows,.int _ (.ofNat l),.int _ (.ofNat h)]=>if v=w∧l≤h∧h≤rows.length then .seq nul w ((rows.drop l).take (h-l))else .none
 | .str,[.seq _ v rows]=>if v=1 then match A75 rows with
   | some s=>.str s
   | none=>.none else .none
 | .byt,[.str s]=>.seq false 1 (A3m s)
 | .ustr,[.seq _ v rows,.int _ (.ofNat n)]=>if v=1∧n≤rows.length∧n≤A7O then match A75 (rows.take n)with
   | some s=>.str s
   | none=>.none else .none
 | .rep w,.int _ (.ofNat n)::l=>if l.length=w∧n≤A7O then .seq false w (List.replicate n l)else .none
 | .bin op,[a,b]=>evB op a b
 | .un op,[a]=>ev1 op a
 | .conv k,[.int _ n]=>.int k (k.wrap n)
 | .len,[.str s]=>.int .i64 s.length
 | .idx,[.str s,.int _ (.ofNat k)]=>match s[k]? with
   | some b=>.int .u8 b.toNat
   | none=>.none
 | .sub,[.str s,.int _ l,.int _ h]=>B2t s l h
 | .sub1,[.str s,.int _ l]=>B2t s l s.length
 | .sel,.int _ (.ofNat k)::cs=>cs.getD k .none
 | .inb,[.int _ i,.int _ n]=>.bool (decide (0≤i) && decide (i<n))
 | .eqs,l=>match A4T l with
   | some b=>.bool b
   | none=>.none
 | .max,[.int k a,.int _ b]=>.int k (if b>a then b else a)
 | .min,[.int k a,.int _ b]=>.int k (if b<a then b else a)
 | _,_=>.none
def y4.ok(E:Nat→U):y4→Prop
 | .lt i t op xs=>E i=evU op (xs.map (F8 E))∧L4 (E i)=t∧t<10
 | .dt i t op xs=>E i=evU op (xs.map (F8 E))∧L4 (E i)=t∧∃ nul w rows,E i=.seq nul w rows
 | .br i b=>E i=.bool b
 | .as op xs=>evU op (xs.map (F8 E))=.bool true
 | .con spec xs i d n=>∃ outs,spec (xs.map (F8 E))=some (d,outs)∧outs.length=n∧∀ j u,outs[j]? = some u→E (i+j)=u
def U7(E:Nat→U)(l:List y4):Prop:=∀ e ∈ l,e.ok E
def Lg.le(a b:Lg):Prop:=a.log <:+ b.log
theorem Lg.le.refl(a:Lg):a.le a:=List.suffix_refl _
theorem Lg.le.trans{a b c:Lg}(h:a.le b)(k:b.le c):a.le c:=List.IsSuffix.trans h k
theorem U7.le{E:Nat→U}{a b:Lg}(h:U7 E b.log)(k:a.le b):U7 E a.log:=fun e he=>h e (k.subset he)
variable [Ora]
abbrev Sat(lg:Lg):Prop:=U7 Ora.env lg.log
omit [Ora] in
theorem B5b{u:U}(h:L4 u<10):∃ v,toV u=some v∧ofV (some v)=u∧G4 v=L4 u:=by
 cases u with
 | none=>simp[L4]at h
 | seq _ _ _=>simp only[L4]at h;omega
 | int k n=>exact⟨_,rfl,rfl,rfl⟩
 | bool b=>exact⟨_,rfl,rfl,rfl⟩
 | str s=>exact⟨_,rfl,rfl,rfl⟩
theorem B1f{o:Option Value}(h:L4 (ofV o)<10):∃ v,o=some v∧toV (ofV o)=some v:=by
 unfold ofV at h;split at h
 ·exact⟨_,rfl,rfl⟩
 ·exact⟨_,rfl,rfl⟩
 ·rename_i s;refine⟨_,rfl,?_⟩;simp[ofV,toV]
 ·simp[L4]at h
theorem A3W(k:IntKind):A5D k<8:=by cases k<;>decide
theorem A01{ρ:Ren}{v v':Value}(h:VR ρ v v')(ht:G4 v<10):toV (F8 Ora.env v)=some v'∧L4 (F8 Ora.env v)=G4 v:=by
 cases h with
 | pure hp =>
   cases v<;>simp only[G4]at ht<;>first
    | exact⟨rfl,rfl⟩
    | (exfalso;omega)
    | (simp[I2]at hp)
 | hole h ht2=>exact⟨h,ht2⟩
 | junk=>simp[G4]at ht
 | ixp _ _ _ _ _=>simp[G4,ixp]at ht
 | dat _ _ _ _ _=>simp[G4,Go.Sx.dat]at ht
 | clp _ _ _ _ _ _=>simp[G4,Go.Sx.clp]at ht
 | own _ _ _=>simp[G4,Go.Sx.own]at ht
 | dpt _ _ _=>simp[G4,Go.Sx.dpt]at ht
 | opt _ _ _=>simp[G4,Go.Sx.opt]at ht
 | yv _=>simp[G4,Go.Sx.yv]at ht
 | sdt _=>simp[G4,Go.Sx.sdt]at ht
 | _=>simp[G4]at ht
theorem O0{ρ:Ren}{v v':Value}(h:VR ρ v v')(ht:G4 v<8):∃ k n,v'=.int k n∧F8 Ora.env v=.int k n∧G4 v=A5D k:=by
 obtain⟨h1,h2⟩:=A01 h (by omega);cases hu:F8 Ora.env v with
 | int k n=>rw[hu]at h1 h2;cases h1;exact⟨k,n,rfl,rfl,h2.symm⟩
 | bool b=>rw[hu]at h2;simp only[L4]at h2;omega
 | str s=>rw[hu]at h2;simp only[L4]at h2;omega
 | none=>rw[hu]at h1;cases h1
 | seq _ _ _=>rw[hu]at h1;cases h1
theorem A2y{ρ:Ren}{v v':Value}(h:VR ρ v v')(ht:G4 v=8):∃ b,v'=.bool b∧F8 Ora.env v=.bool b:=by
 obtain⟨h1,h2⟩:=A01 h (by omega);cases hu:F8 Ora.env v with
 | int k n=>rw[hu]at h2;simp only[L4]at h2;have:=A3W k;omega
 | bool b=>rw[hu]at h1;cases h1;exact⟨b,rfl,rfl⟩
 | str s=>rw[hu]at h2;simp only[L4]at h2;omega
 | none=>rw[hu]at h1;cases h1
 | seq _ _ _=>rw[hu]at h1;cases h1
theorem A02{ρ:Ren}{v v':Value}(h:VR ρ v v')(ht:G4 v=9):∃ s,v'=.string ⟨⟨s⟩⟩∧F8 Ora.env v=.str s:=by
 obtain⟨h1,h2⟩:=A01 h (by omega);cases hu:F8 Ora.env v with
 | int k n=>rw[hu]at h2;simp only[L4]at h2;have:=A3W k;omega
 | bool b=>rw[hu]at h2;simp only[L4]at h2;omega
 | str s=>rw[hu]at h1;cases h1;exact⟨s,rfl,rfl⟩
 | none=>rw[hu]at h1;cases h1
 | seq _ _ _=>rw[hu]at h1;cases h1
theorem A4w{m m':Mem}{t:Nat}{op:LOp}{xs:List Value}{v:Value}(h:Z6 m t op xs=some (v,m')):v=hole m.lg.nx t∧m'=m.wLg ⟨m.lg.nx+1,m.lg.pi,.lt m.lg.nx t op xs::m.lg.log⟩:=by
 obtain⟨H,n,W,hi,⟨nx,pi,log⟩⟩:=m;simp only[Z6,E8,H4]at h;cases h;exact⟨rfl,rfl⟩
theorem N0{m m':Mem}{t:Nat}{op:LOp}{xs:List Value}{v:Value}(h:Z6 m t op xs=some (v,m'))(hS:Sat m'.lg):∃ u,evU op (xs.map (F8 Ora.env))=u∧L4 u=t∧∃ r,toV u=some r∧(∀ ρ,VR ρ v r)∧t<10:=by
 obtain⟨rfl,rfl⟩:=A4w h;obtain⟨h1,h2,h3⟩:=hS (.lt m.lg.nx t op xs) (by cases m;exact B6);refine⟨_,rfl,h1▸h2,?_⟩;obtain⟨r,h4,_⟩:=B5b (u:=Ora.env m.lg.nx) (by omega);exact⟨r,h1▸h4,fun ρ=>.hole h4 h2,h3⟩
section
variable {P:Program} {base:Nat} {ρ:Ren} {m m':Mem} {w:World}
theorem St.wLg(h:HR P base ρ m.H w)(lg:Lg):St P base ρ ρ m (m.wLg lg) w w:=by
 obtain⟨H,n,W,hi,l⟩:=m;have r:=St.refl (m:=⟨H,n,W,hi,l⟩) h;exact⟨r.ext,r.new,r.nle,r.hle,r.nhi,r.hr,r.wsub,r.wrw,r.keep,r.size,r.os,r.blk,r.same,r.tch⟩
theorem A0x:∀ {l:List y4} {i:Nat} {b:Bool},A9F l i=some b→y4.br i b ∈ l
 | [],_,_,h=>by cases h
 | .br j c::r,i,b,h=>by
   rw[A9F]at h;cases hq:Nat.beq j i with
   | true=>rw[hq]at h;cases h;rw[A2 hq];exact B6
   | false=>rw[hq]at h;exact D1 _ (A0x h)
 | .lt _ _ _ _::r,i,b,h=>D1 _ (A0x (l:=r) h)
 | .dt _ _ _ _::r,i,b,h=>D1 _ (A0x (l:=r) h)
 | .as _ _::r,i,b,h=>D1 _ (A0x (l:=r) h)
 | .con _ _ _ _ _::r,i,b,h=>D1 _ (A0x (l:=r) h)
theorem A4Y{lg lg':Lg}{c:Value}{b:Bool}(h:brL lg c=some (b,lg')):lg.le lg':=by
 unfold brL at h;split at h
 ·cases h;exact .refl _
 ·obtain⟨nx,pi,log⟩:=lg;simp only at h;split at h
  ·cases h;exact .refl _
  ·split at h
   ·cases h;exact⟨[_],rfl⟩
   ·cases h;exact⟨[_],rfl⟩
   ·cases h
 ·cases h
theorem A5z{lg lg':Lg}{c c':Value}{b:Bool}(h:brL lg c=some (b,lg'))(hc:VR ρ c c')(hS:Sat lg'):c'=.bool b:=by
 unfold brL at h;split at h
 ·cases h;exact A1E hc
 ·rename_i i;have hb:Ora.env i=.bool b:=by
   obtain⟨nx,pi,log⟩:=lg;simp only at h;split at h
   ·rename_i b' hf;cases h;exact hS _ (A0x hf)
   ·split at h
    ·cases h;exact hS (.br i true) B6
    ·cases h;exact hS (.br i false) B6
    ·cases h
  obtain⟨b',h1,h2⟩:=A2y hc rfl;have h2:Ora.env i=.bool b':=h2;rw[hb]at h2;cases h2;exact h1
 ·cases h
theorem A7m:∀ {a b:List U} {z:Bool},a.length%2=0→A4T (a++b)=some z→∃ x y,A4T a=some x∧A4T b=some y∧z=(x && y)
 | [],b,z,_,h=>⟨true,z,rfl,h,rfl⟩
 | [_],_,_,hl,_=>by simp at hl
 | p::q::r,b,z,hl,h=>by
   simp only[Y3]at h;unfold A4T at h;split at h
   ·rename_i u v e1 e2;cases h;obtain⟨x,y,h1,h2,rfl⟩:=A7m (by simp only[A3]at hl;omega) e2;exact⟨u && x,y,by simp only[A4T,e1,h1],h2,by simp[Bool.and_assoc]⟩
   ·cases h
theorem B7C{t:TypeId}{x y x' y':Value}(h:A16 P t x y=true)(hx:VR ρ x x')(hy:VR ρ y y'){b:Bool}(hb:eqU (F8 Ora.env x) (F8 Ora.env y)=some b)(n:Nat)(w:World):(Op.equalIn (n+1) t x' y').run P w=.ok b w:=by
 unfold A16 at h;split at h
 ·rename_i hu;obtain⟨h1,h2⟩:=B8 h;obtain⟨p,rfl,e1⟩:=A2y hx (A2 h1);obtain⟨q,rfl,e2⟩:=A2y hy (A2 h2);rw[e1,e2]at hb;cases hb;simp[Op.equalIn,Sem.run_bind,D8 hu,Result.andThen]
 ·rename_i k hu;obtain⟨h1,h2⟩:=B8 h;have h1:=A2 h1;have h2:=A2 h2;obtain⟨k1,p,rfl,e1,f1⟩:=O0 hx (by have:=A3W k;omega);obtain⟨k2,q,rfl,e2,f2⟩:=O0 hy (by have:=A3W k;omega);have g1:k1=k:=by cases k1<;>cases k<;>first|rfl|(simp only[A5D]at f1 h1;omega)
  have g2:k2=k:=by cases k2<;>cases k<;>first|rfl|(simp only[A5D]at f2 h2;omega)
  subst g1;subst g2;rw[e1,e2]at hb;simp[eqU]at hb;subst hb;simp[Op.equalIn,Sem.run_bind,D8 hu,Result.andThen]
 ·rename_i hu;obtain⟨h1,h2⟩:=B8 h;obtain⟨p,rfl,e1⟩:=A02 hx (A2 h1);obtain⟨q,rfl,e2⟩:=A02 hy (A2 h2);rw[e1,e2]at hb;cases hb
  have:=run_equalIn_string (P:=P) w n t ⟨⟨p⟩⟩ ⟨⟨q⟩⟩ hu;rw[this];simp[ByteArray.toList_eq]
 ·cases h
mutual
theorem B6X:∀ (d:Nat) (t:TypeId) (x y:Value) (l:List Value),eqS P d t x y=some l→l.length%2=0
 | 0,_,_,_,_,h=>by simp[eqS]at h
 | d+1,t,x,y,l,h=>by
   unfold eqS at h;cases hs:A16 P t x y with
   | true=>rw[hs]at h;cases h;simp
   | false =>
     rw[hs]at h;simp only[cond_false]at h;split at h
     ·rename_i fs xs ys hu;cases hst:P.stoodInHeld t with
      | true=>rw[hst]at h;cases h
      | false=>rw[hst]at h;exact A9I d _ _ _ l h
     ·split at h
      ·exact A9I d _ _ _ l h
      ·cases h
     ·cases h
theorem A9I:∀ (d:Nat) (fs:List Field) (xs ys:List Value) (l:List Value),A9J P d fs xs ys=some l→l.length%2=0
 | 0,_,_,_,_,h=>by simp[A9J]at h
 | d+1,[],_,_,_,h=>by simp only[A9J,D3]at h;subst h;rfl
 | d+1,f::fs,xs,ys,l,h=>by
   unfold A9J at h;cases hnm:f.name == "_" with
   | true=>rw[hnm]at h;cases h
   | false =>
     rw[hnm]at h;simp only[cond_false]at h;split at h
     ·split at h
      ·rename_i a b ha hb;cases h
       have:=B6X d _ _ _ a ha
       have:=A9I d _ _ _ b hb;simp only[A0];omega
      ·cases h
     ·cases h
end
mutual
theorem B5H:∀ (d:Nat) (t:TypeId) (x y x' y':Value) (l:List Value) (b:Bool),eqS P d t x y=some l→A4T (l.map (F8 Ora.env))=some b→VR ρ x x'→VR ρ y y'→∀ (n:Nat),d≤n→∀ w:World,(Op.equalIn n t x' y').run P w=.ok b w
 | 0,_,_,_,_,_,_,_,h,_,_,_,_,_,_=>by simp[eqS]at h
 | d+1,t,x,y,x',y',l,b,h,hl,hx,hy,n,hn,w=>by
   obtain⟨n,rfl⟩:∃ k,n=k+1:=⟨n-1,by omega⟩;have hn':d≤n:=by omega
   unfold eqS at h;cases hs:A16 P t x y with
   | true =>
     rw[hs]at h;cases h;simp only[F9,I3,A4T]at hl;split at hl
     ·rename_i u v e1 e2;cases e2;cases hl;rw[Bool.and_true];exact B7C hs hx hy e1 n w
     ·cases hl
   | false =>
     rw[hs]at h;simp only[cond_false]at h;split at h
     ·rename_i fs xs ys hu;cases hst:P.stoodInHeld t with
      | true=>rw[hst]at h;cases h
      | false =>
        rw[hst]at h;obtain⟨xs',rfl,hx1⟩:=Y9 hx;obtain⟨ys',rfl,hy1⟩:=Y9 hy;have hf:P.fieldsOf t=fs:=by simp[Program.fieldsOf,hu]
        rw[run_equalIn_struct (P:=P) w n t _ _ (by rw[hf];exact hu) hst,hf];exact B16 d fs.toList xs.toList ys.toList xs' ys' l b h hl hx1 hy1 n hn' w
     ·rename_i k e xs ys hu;split at h
      ·rename_i s hz;obtain⟨xs',rfl,hx1⟩:=Y9 hx;obtain⟨ys',rfl,hy1⟩:=Y9 hy;obtain⟨i,hi,rfl⟩:=B0I hz;rw[run_equalIn_array (P:=P) (w:=w) n _ _ hu hi,show P.cellsOf e=i.size by simp[Program.cellsOf,hi],A2B];exact B16 d _ xs.toList ys.toList xs' ys' l b h hl hx1 hy1 n hn' w
      ·cases h
     ·cases h
theorem B16:∀ (d:Nat) (fs:List Field) (xs ys xs' ys':List Value) (l:List Value) (b:Bool),A9J P d fs xs ys=some l→A4T (l.map (F8 Ora.env))=some b→LR ρ xs xs'→LR ρ ys ys'→∀ (n:Nat),d≤n→∀ w:World,(Op.eqFields n ⟨xs'⟩ ⟨ys'⟩ fs).run P w=.ok b w
 | 0,_,_,_,_,_,_,_,h,_,_,_,_,_,_=>by simp[A9J]at h
 | d+1,[],_,_,_,_,_,b,h,hl,_,_,_,_,_=>by
   simp only[A9J,D3]at h;subst h;simp only[I3,A4T,D3]at hl;subst hl;simp[Op.eqFields]
 | d+1,f::fs,xs,ys,xs',ys',l,b,h,hl,hx,hy,n,hn,w=>by
   unfold A9J at h;cases hnm:f.name == "_" with
   | true=>rw[hnm]at h;cases h
   | false =>
     rw[hnm]at h;simp only[cond_false]at h;have hn':f.name ≠ "_":=by simpa using hnm
     split at h
     ·rename_i x y h1 h2;obtain⟨x',g1,g2⟩:=A24 h1 hx w;obtain⟨y',g3,g4⟩:=A24 h2 hy w;split at h
      ·rename_i a c ha hc;cases h;rw[List.map_append]at hl;obtain⟨p,q,e1,e2,rfl⟩:=A7m (by have:=B6X d _ _ _ a ha;simpa using this) hl;have ih:=B5H d f.type x y x' y' a p ha e1 g2 g4 n (by omega) w;have ih2:=B16 d fs xs ys xs' ys' c q hc e2 hx hy n (by omega) w;unfold Op.eqFields;rw[if_pos hn'];cases p<;>simp[Sem.run_bind,g1,g3,Result.andThen,ih,ih2]
      ·cases h
     ·cases h
end
end
end Go.Sx
namespace Go.Sx
set_option linter.all false
open Go
set_option linter.unusedVariables false
set_option linter.unusedSimpArgs false
variable [Ora]
section
variable {P:Program} {base:Nat} {ρ:Ren} {m m':Mem} {w w':World}
theorem St.new0{ab:AB}{k:Nat→Value}{v:Value}{l':Loc}(h:HR P base ρ m.H w)(hn:u9 m ab k=some (v,m'))(hf:K4 ρ m.n m'.hi)(hb:BR P (upd ρ m.n l') ab l' w)(hon:l'.on=false)
  (hT:∀ q,Tc ab l' q→Fp ρ m.H q∧∀ id,id≤H3→∀ a l,Hp.get m.H id=some a→ρ id=some l→a.rw=true→l.on=true→l.blk≠q):v=k m.n∧upd ρ m.n l' m.n=some l'∧St P base ρ (upd ρ m.n l') m m' w w:=by
 obtain⟨hle,hv,rfl⟩:=M7 hn;have hfree:ρ m.n=none:=hf m.n (A7 _) (L1 _ _).2;have hext:=i6 (l:=l') hfree;refine⟨hv,M1 _ _ _,hext,fun b q h1 h2=>?_,by simp,(L1 _ _).1,fun _=>m9 (L1 _ _).2,⟨fun b q hq=>?_,fun id hid a ha=>?_⟩,fun b hb=>hb,fun b h1 h2=>absurd h1 h2,fun q hq _=>rfl,A7 _,⟨rfl,rfl,rfl⟩,fun b q h1 h2 ho=>?_,fun id hid h1 h2=>?_,fun q ⟨id,a,l,hid,ha,hl,ht⟩=>.inr ?_⟩
 ·obtain⟨rfl,rfl⟩:=W4 h1 h2;exact⟨A7 _,I8 _⟩
 ·cases h0:ρ b with
  | some k0=>exact h.dom b k0 h0
  | none=>obtain⟨rfl,rfl⟩:=W4 hq h0;exact hle
 ·rw[E6 _ _ _ _ hle hid]at ha;by_cases e:id=m.n
  ·rw[if_pos e]at ha;have ha:=A8 ha;subst ha;subst e;exact⟨l',M1 _ _ _,hb,fun _ ho=>(by rw[hon]at ho;cases ho)⟩
  ·rw[if_neg e]at ha;obtain⟨l0,h1,h2,h3⟩:=h.at_ id hid a ha;refine⟨l0,hext _ _ h1,h2.mono hext (fun _ _=>rfl),fun hr ho=>⟨(h3 hr ho).1,fun id2 hid2 ab2 l2 g1 g2 g3=>?_⟩⟩;rw[E6 _ _ _ _ hle hid2]at g1;by_cases e2:id2=m.n
   ·subst e2;rw[M1]at g2
    have:=A8 g2;subst this;rw[if_pos rfl]at g1;have g1:=A8 g1;subst g1;exact absurd rfl ((hT _ g3).2 id hid a l0 ha h1 hr ho)
   ·rw[if_neg e2]at g1;unfold upd at g2;rw[if_neg e2]at g2;exact(h3 hr ho).2 id2 hid2 ab2 l2 g1 g2 g3
 ·obtain⟨rfl,rfl⟩:=W4 h1 h2;rw[hon]at ho;cases ho
 ·rw[E6 _ _ _ _ hle hid,if_neg];intro e;subst e;rcases h2 with h2|h2
  ·omega
  ·have h2:upN m.hi m.n≤m.n:=h2
   have:=(L1 m.hi m.n).2;omega
 ·have ha:Hp.get (m.H.set m.n (some ab)) id=some a:=ha;rw[E6 _ _ _ _ hle hid]at ha;by_cases e:id=m.n
  ·subst e;rw[if_pos rfl]at ha;have ha:=A8 ha;subst ha;rw[M1]at hl;have hl:=A8 hl;subst hl;exact(hT q ht.2).1
  ·rw[if_neg e]at ha;unfold upd at hl;rw[if_neg e]at hl;exact⟨id,a,l,hid,ha,hl,ht⟩
theorem St.same0{ab ab':AB}{id:Nat}{l:Loc}(h:HR P base ρ m.H w)(hs:A2m m id ab'=some m')(hg:Hp.get m.H id=some ab)(hrw:ab.rw=true)(hl:ρ id=some l)(hb:BR P ρ ab' l w)(hT:∀ q,Tc ab' l q→Tc ab l q):St P base ρ ρ m m' w w:=by
 obtain⟨hle,rfl⟩:=X6 hs;obtain⟨h2,h3⟩:=h.atl hl hg;refine⟨fun _ _ h=>h,fun b k h1 h2=>(by rw[h1]at h2;cases h2),A7 _,A7 _,fun h=>h,⟨h.dom,fun id2 hid2 a ha=>?_⟩,fun b hb=>D1 _ hb,fun b h1 h2 k hk'=>?_,fun k hk' hb'=>rfl,A7 _,⟨rfl,rfl,rfl⟩,fun b k h1 h2=>(by rw[h1]at h2;cases h2),fun id2 hid2 h4 h5=>?_,fun k ⟨id2,a,q,hid2,ha,hq,ht⟩=>.inr ?_⟩
 ·rw[E6 _ _ _ _ hle hid2]at ha;by_cases e:id2=id
  ·rw[if_pos e]at ha;have ha:=A8 ha;subst ha;subst e;refine⟨l,hl,hb,fun _ ho'=>⟨(h3 hrw ho').1,fun id3 hid3 ab3 l3 g1 g2 g3=>?_⟩⟩;rw[E6 _ _ _ _ hle hid3]at g1;by_cases e3:id3=id2
   ·exact e3
   ·rw[if_neg e3]at g1;exact(h3 hrw ho').2 id3 hid3 ab3 l3 g1 g2 g3
  ·rw[if_neg e]at ha;obtain⟨l2,g1,g2,g3⟩:=h.at_ id2 hid2 a ha;refine⟨l2,g1,g2.mono (fun _ _ h=>h) (fun k hk'=>rfl),fun hr ho'=>⟨(g3 hr ho').1,fun id3 hid3 ab3 l3 f1 f2 f3=>?_⟩⟩;rw[E6 _ _ _ _ hle hid3]at f1;by_cases e3:id3=id
   ·subst e3;rw[hl]at f2
    have:=A8 f2;subst this;have f1:=A8 (by simpa using f1);subst f1;exact(g3 hr ho').2 id3 hid3 ab l hg hl (hT _ f3)
   ·rw[if_neg e3]at f1;exact(g3 hr ho').2 id3 hid3 ab3 l3 f1 f2 f3
 ·rcases C5.1 h1 with rfl|h1
  ·exact⟨ab,hg,hrw⟩
  ·exact absurd h1 h2
 ·rw[E6 _ _ _ _ hle hid2,if_neg];intro e;subst e;exact h4 B6
 ·have ha:Hp.get (m.H.set id (some ab')) id2=some a:=ha;rw[E6 _ _ _ _ hle hid2]at ha;by_cases e:id2=id
  ·subst e;rw[if_pos rfl]at ha;have ha:=A8 ha;subst ha;rw[hl]at hq;have hq:=A8 hq;subst hq;exact⟨id2,ab,l,hid2,hg,hl,AB.rw_fr hrw,hT _ ht.2⟩
  ·rw[if_neg e]at ha;exact⟨id2,a,q,hid2,ha,hq,ht⟩
theorem St.move{ab ab':AB}{id:Nat}{l l':Loc}{k:Nat→Value}{v:Value}(h:HR P base ρ m.H w)(hle:id≤H3)(hg:Hp.get m.H id=some ab)(hrw:ab.rw=true)(hl:ρ id=some l)
  (hn:u9 (A3o m id) ab' k=some (v,m')) (hf:K4 ρ m.n m'.hi) (hbl:l'.on=true→l.on=true∧l'.blk=l.blk)
  (ho:w'.os=w.os∧w'.tape=w.tape∧w'.output=w.output) (hsz:w'.heap.size=w.heap.size) (hk:∀ k,(l.on=true→k≠l.blk)→w'.heap[k]? = w.heap[k]?) (hb:BR P (upd ρ m.n l') ab' l' w') (hfz:ab'≠.frz) :
  v=k m.n∧upd ρ m.n l' m.n=some l'∧St P base ρ (upd ρ m.n l') m m' w w':=by
 rw[x7]at hn;obtain⟨hnm,hv,rfl⟩:=M7 hn;have hfree:ρ m.n=none:=hf m.n (A7 _) (L1 _ _).2;have hext:=i6 (l:=l') hfree;obtain⟨h2,h3⟩:=h.atl hl hg;have hTc:∀ k,Tc ab' l' k→l.on=true∧k=l.blk:=fun k hk=>by
  rcases hk with⟨_,h1,rfl⟩|⟨rfl,_⟩
  ·exact hbl h1
  ·exact absurd rfl hfz
 have hne:id≠m.n:=fun e=>by subst e;rw[hl]at hfree;cases hfree
 have hget:∀ i,i≤H3→Hp.get ((m.H.set id none).set m.n (some ab')) i=if i=m.n then some ab' else if i=id then none else Hp.get m.H i:=fun i hi=>by
  rw[E6 _ _ _ _ hnm hi,E6 _ _ _ _ hle hi]
 refine⟨hv,M1 _ _ _,hext,fun b q h1 h2=>?_,A0N _,(L1 _ _).1,fun _=>m9 (L1 _ _).2,⟨fun b q hq=>?_,fun i hi a ha=>?_⟩,fun b hb=>D1 _ hb,fun b h1 h2 q hq=>?_,fun q hq hb'=>hk q ?_,by rw[hsz];exact A7 _,ho,fun b q h1 h2 ho'=>?_,fun i hi h4 h5=>?_,fun k ⟨i,a,q,hi,ha,hq,ht⟩=>.inr ?_⟩
 ·obtain⟨rfl,rfl⟩:=W4 h1 h2;exact⟨A7 _,I8 _⟩
 ·cases h0:ρ b with
  | some q0=>exact h.dom b q0 h0
  | none=>obtain⟨rfl,rfl⟩:=W4 hq h0;exact hnm
 ·have ha:Hp.get ((m.H.set id none).set m.n (some ab')) i=some a:=ha;rw[hget i hi]at ha;by_cases e:i=m.n
  ·rw[if_pos e]at ha;have ha:=A8 ha;subst ha;subst e;refine⟨l',M1 _ _ _,hb,fun hr' ho'=>?_⟩;obtain⟨hon,hblk⟩:=hbl ho';refine⟨by rw[hblk];exact(h3 hrw hon).1,fun id2 hid2 ab2 l2 g1 g2 g3=>?_⟩;rw[hget id2 hid2]at g1;by_cases e2:id2=m.n
   ·exact e2
   ·rw[if_neg e2]at g1;unfold upd at g2;rw[if_neg e2]at g2;by_cases e3:id2=id
    ·rw[if_pos e3]at g1;cases g1
    ·rw[if_neg e3]at g1;exact absurd ((h3 hrw hon).2 id2 hid2 ab2 l2 g1 g2 (hblk▸g3)) e3
  ·rw[if_neg e]at ha;by_cases e3:i=id
   ·rw[if_pos e3]at ha;cases ha
   ·rw[if_neg e3]at ha;obtain⟨l2,g1,g2,g3⟩:=h.at_ i hi a ha;have hnb:∀ k,Tc a l2 k→l.on=true→k≠l.blk:=fun k hk' hon hh=>e3 ((h3 hrw hon).2 i hi a l2 ha g1 (hh▸hk'))
    refine⟨l2,hext _ _ g1,g2.mono hext (fun k hk'=>hk _ (hnb k hk')),fun hr ho'=>⟨(g3 hr ho').1,fun id3 hid3 ab3 l3 f1 f2 f3=>?_⟩⟩;have f1:Hp.get ((m.H.set id none).set m.n (some ab')) id3=some ab3:=f1;rw[hget id3 hid3]at f1;by_cases e4:id3=m.n
    ·subst e4;rw[M1]at f2
     have:=A8 f2;subst this;rw[if_pos rfl]at f1;have f1:=A8 f1;subst f1;obtain⟨hon,hq⟩:=hTc _ f3;exact absurd hq (hnb _ (.inl ⟨AB.rw_on hr,ho',rfl⟩) hon)
    ·rw[if_neg e4]at f1;unfold upd at f2;rw[if_neg e4]at f2;by_cases e5:id3=id
     ·rw[if_pos e5]at f1;cases f1
     ·rw[if_neg e5]at f1;exact(g3 hr ho').2 id3 hid3 ab3 l3 f1 f2 f3
 ·rcases C5.1 h1 with rfl|h1
  ·exact⟨ab,hg,hrw⟩
  ·exact absurd h1 h2
 ·exact fun hon e=>hb' id B6 l hl hon e.symm
 ·obtain⟨rfl,rfl⟩:=W4 h1 h2;obtain⟨hon,hblk⟩:=hbl ho';exact .inr ⟨id,B6,l,hl,hon,hblk.symm⟩
 ·have hgi:=hget i hi;show Hp.get ((m.H.set id none).set m.n (some ab')) i=_;rw[hgi,if_neg,if_neg]
  ·intro e;subst e;exact h4 B6
  ·intro e;subst e;rcases h5 with h5|h5
   ·omega
   ·have h5:upN m.hi m.n≤m.n:=h5
    have:=(L1 m.hi m.n).2;omega
 ·have ha:Hp.get ((m.H.set id none).set m.n (some ab')) i=some a:=ha;rw[hget i hi]at ha;by_cases e:i=m.n
  ·rw[if_pos e]at ha;have ha:=A8 ha;subst ha;subst e;rw[M1]at hq;have hq:=A8 hq;subst hq;obtain⟨hon,hb⟩:=hTc k ht.2;exact⟨id,ab,l,hle,hg,hl,AB.rw_fr hrw,.inl ⟨AB.rw_on hrw,hon,hb.symm⟩⟩
  ·rw[if_neg e]at ha;unfold upd at hq;rw[if_neg e]at hq;by_cases e3:i=id
   ·rw[if_pos e3]at ha;cases ha
   ·rw[if_neg e3]at ha;exact⟨i,a,q,hi,ha,hq,ht⟩
end
end Go.Sx
namespace Go.Sx
set_option linter.all false
open Go
set_option linter.unusedVariables false
set_option linter.unusedSimpArgs false
variable [Ora]
theorem A2U{m m':Mem}{ab:AB}{k:Nat→Value}{v:Value}(h:u9 m ab k=some (v,m')):m'.lg=m.lg:=by
 obtain⟨_,_,rfl⟩:=M7 h;rfl
theorem A7_{m m':Mem}{id:Nat}{ab:AB}(h:A2m m id ab=some m'):m'.lg=m.lg:=by
 obtain⟨_,rfl⟩:=X6 h;rfl
theorem A6x{m m':Mem}{a:Addr}{vs:List Value}(h:A5P m a vs=some m'):m'.lg=m.lg:=by
 unfold A5P at h;split at h
 ·obtain⟨_,h⟩:=A5 h;rw[H4]at h;exact A7_ h
 ·cases h
theorem B65{P:Program}{m m':Mem}{t:TypeId}{a:Addr}{v:Value}(h:A8W P m t a v=some m'):m'.lg=m.lg:=by
 unfold A8W at h;split at h
 ·obtain⟨_,h⟩:=A5 h;exact A6x h
 ·cases h
theorem A0A{m m':Mem}{o:Option Value}{v:Value}(h:noM o m=some (v,m')):m'.lg=m.lg:=by
 obtain⟨_,rfl⟩:=x6 h;rfl
theorem A9a{P:Program}{m m':Mem}{t:TypeId}{n:Nat}{ps:List (Nat×Value)}{v:Value}(h:A1J P m t n ps=some (v,m')):m'.lg=m.lg:=by
 unfold A1J at h;split at h
 ·split at h
  ·obtain⟨_,h⟩:=A5 h;split at h
   ·exact A2U h
   ·cases h
  ·cases h
 ·cases h
theorem A91{P:Program}{m m':Mem}{t:TypeId}{l c v:Value}(h:A12 P m t l c=some (v,m')):m'.lg=m.lg:=by
 unfold A12 at h;split at h
 ·split at h
  ·obtain⟨_,h⟩:=A5 h;split at h
   ·rw[H4]at h;exact A2U h
   ·cases h
  ·cases h
 ·cases h
theorem B9_{P:Program}{m m':Mem}{s t:TypeId}{x v:Value}(h:B02 P m s t x=some (v,m')):m'.lg=m.lg:=by
 unfold B02 at h;split at h
 ·cases h;rfl
 ·cases h;rfl
 ·cases h;rfl
 ·split at h
  ·split at h
   ·rw[H4]at h;exact A2U h
   ·cases h
  ·cases h
 ·split at h<;>cases h;rfl
 ·split at h
  ·split at h
   ·split at h<;>cases h;rfl
   ·cases h
  ·cases h
 ·cases h
theorem B5Q{P:Program}{m m':Mem}{t t2:TypeId}{x y v:Value}(h:A6u P m t t2 x y=some (v,m')):m'.lg=m.lg:=by
 unfold A6u at h;split at h
 ·rename_i e0 d2 _ _;cases hq:A1U d2 with
  | false=>rw[hq]at h;cases h
  | true =>
  rw[hq]at h;simp only[R4,cond_false]at h;split at h
  ·rename_i i a n c _;split at h
   ·rename_i k new z _ _;obtain⟨_,h⟩:=A5 h;cases hk:Nat.beq k 0 with
    | true =>
      rw[hk]at h;simp only[cond_true]at h;split at h
      ·obtain⟨_,h⟩:=A5 h;cases h;rfl
      ·obtain⟨_,h⟩:=A5 h;cases h;rfl
    | false =>
      rw[hk]at h;simp only[cond_false]at h;split at h
      ·obtain⟨_,h⟩:=A5 h;rw[H4]at h;exact A2U h
      ·cases hc:Nat.blt c N3 with
       | true =>
         rw[hc]at h;simp only[cond_true]at h;cases hn:Nat.ble (n+k) c with
         | true =>
           rw[hn]at h;simp only[cond_true]at h;split at h
           ·rename_i m1 _ hw;cases h;exact A6x hw
           ·cases h
         | false =>
           rw[hn]at h;simp only[cond_false]at h;split at h
           ·rw[H4]at h;exact A2U h
           ·cases h
       | false =>
         rw[hc]at h;simp only[cond_false]at h;obtain⟨_,h⟩:=A5 h;split at h
         ·obtain⟨_,h⟩:=A5 h;rw[H4]at h;rw[A2U h,x7]
         ·cases h
   ·cases h
  ·cases h
 ·cases h
theorem B97{P:Program}{m m':Mem}{t:TypeId}{x y v:Value}(h:B33 P m t x y=some (v,m')):m'.lg=m.lg:=by
 unfold B33 at h;split at h
 ·split at h
  ·split at h
   ·split at h
    ·obtain⟨_,h⟩:=A5 h;cases h;rfl
    ·rename_i k cs hq0 _ ad;cases hz:Nat.beq cs.length 0 with
     | true=>rw[hz]at h;cases h;rfl
     | false =>
       rw[hz]at h;simp only[cond_false]at h;obtain⟨_,h⟩:=A5 h;split at h
       ·rename_i hw;cases h;exact A6x hw
       ·cases h
   ·cases h
  ·cases h
 ·cases h
theorem A9m{P:Program}{m m':Mem}{pt:TypeId}{p l v:Value}(h:A1s P m pt p l=some (v,m')):m'.lg=m.lg:=by
 unfold A1s at h;split at h
 ·cases h;rfl
 ·split at h
  ·split at h
   ·obtain⟨_,h⟩:=A5 h;split at h
    ·split at h
     ·rename_i A3x;cases h;exact A7_ A3x
     ·cases h
    ·cases h
   ·cases h
  ·cases h
 ·cases h
theorem B4F{P:Program}{m m':Mem}{b:Builtin}{vs:List Value}{tys:List TypeId}{v:Value}(h:A3A P m b vs tys=some (v,m')):m'.lg=m.lg:=by
 unfold A3A at h;split at h
 ·exact A0A h
 ·exact A0A h
 ·exact B5Q h
 ·exact B97 h
 ·exact A0A h
 ·exact A0A h
 ·unfold A3N at h;split at h
  ·cases h;rfl
  ·rename_i a n c;cases hq:Nat.beq n 0 || Nat.beq c 0 || Nat.beq c (N3+2)with
   | true=>rw[hq]at h;cases h
   | false=>rw[hq]at h;cases h;rfl
  ·cases h
 ·exact A9m h
 ·cases h
theorem C5a{P:Program}{fr:Fr}{m m':Mem}{o:Op}{v:Value}(h:opM P fr m o=some (v,m')):m'.lg=m.lg:=by
 unfold opM at h;split at h
 ·cases h;rfl
 ·cases h;rfl
 ·unfold B5u at h;split at h<;>cases h<;>rfl
 ·unfold B1i at h;split at h
  ·exact A2U h
  ·cases h
 ·unfold B9A at h;obtain⟨_,h⟩:=A5 h;exact A2U h
 ·exact A0A h
 ·exact A9a h
 ·unfold B5v at h;split at h
  ·exact A0A h
  ·cases h
 ·unfold B1g at h;split at h
  ·obtain⟨h,_⟩:=A4s h;exact B65 h
  ·cases h
 ·unfold B8_ at h;split at h<;>cases h<;>rfl
 ·unfold C1m at h;rename_i op t x y yt;cases hq:A8_ op with
  | true=>rw[hq]at h;simp only[cond_true]at h;obtain⟨_,h⟩:=A5 h;exact A0A h
  | false=>rw[hq]at h;exact A0A h
 ·exact A0A h
 ·exact B9_ h
 ·unfold B1h at h;split at h
  ·split at h
   ·cases h
   ·obtain⟨_,h⟩:=A5 h;cases h;rfl
  ·cases h
 ·cases h;rfl
 ·exact A91 h
 ·exact A0A h
 ·exact A0A h
 ·exact A0A h
 ·exact A0A h
 ·exact A0A h
 ·unfold A4C at h;split at h
  ·exact A0A h
  ·cases h
 ·exact B4F h
 ·cases h
theorem J5{m m':Mem}{t:Nat}{op:LOp}{xs:List Value}{v:Value}(h:Z6 m t op xs=some (v,m')):m.lg.le m'.lg:=by
 obtain⟨_,rfl⟩:=A4w h;obtain⟨H,n,W,hi,l⟩:=m;exact⟨[_],rfl⟩
def J9(m m':Mem):Prop:=∃ lg,m'=m.wLg lg
theorem J9.refl(m:Mem):J9 m m:=⟨m.lg,by cases m;rfl⟩
theorem J9.trans{a b c:Mem}(h:J9 a b)(k:J9 b c):J9 a c:=by
 obtain⟨l,rfl⟩:=h;obtain⟨l2,rfl⟩:=k;exact⟨l2,by cases a;rfl⟩
theorem I7{m m':Mem}{t:Nat}{op:LOp}{xs:List Value}{v:Value}(h:Z6 m t op xs=some (v,m')):J9 m m':=⟨_,(A4w h).2⟩
section
variable {P:Program} {base:Nat} {ρ:Ren} {m m':Mem} {w:World}
theorem B4g{c a b v:Value}(h:A77 m c a b=some (v,m')):m.lg.le m'.lg∧J9 m m':=by
 obtain⟨H,n,W,hi,lg⟩:=m;unfold A77 at h;simp only at h;split at h
 ·rename_i lg' hb;cases h;exact⟨A4Y hb,⟨_,rfl⟩⟩
 ·rename_i lg' hb;cases h;exact⟨A4Y hb,⟨_,rfl⟩⟩
 ·cases h
theorem B63{op:BinOp}{t:TypeId}{a b v:Value}(h:A5R P m op t a b=some (v,m')):m.lg.le m'.lg∧J9 m m':=by
 unfold A5R at h;simp only at h;cases h1:(Nat.blt (G4 a) 8 && Nat.blt (G4 b) 8) || (Nat.beq (G4 a) 9 && Nat.beq (G4 b) 9)with
 | true=>rw[h1]at h;exact⟨J5 h,I7 h⟩
 | false =>
   rw[h1]at h;simp only[cond_false]at h;obtain⟨_,h⟩:=A5 h;exact⟨J5 h,I7 h⟩
theorem B8V{op:BinOp}{t:TypeId}{x y:Operand}{a b v:Value}(h:B2s P m op t x y a b=some (v,m')):m.lg.le m'.lg∧J9 m m':=by
 unfold B2s at h;obtain⟨_,h⟩:=A5 h;split at h
 ·exact⟨J5 h,I7 h⟩
 ·split at h
  ·rename_i m1 h1;exact⟨(J5 h1).trans (J5 h),(I7 h1).trans (I7 h)⟩
  ·cases h
 ·cases h
theorem B2r{t:TypeId}{x i v:Value}(h:x3 P m t x i=some (v,m')):m.lg.le m'.lg∧J9 m m':=by
 unfold x3 at h;cases hq:!(Nat.blt (G4 i) 8)with
 | true=>rw[hq]at h;cases h
 | false =>
   rw[hq]at h;simp only[cond_false]at h;split at h
   ·obtain⟨_,h⟩:=A5 h;exact⟨J5 h,I7 h⟩
   ·split at h
    ·obtain⟨_,h⟩:=A5 h;exact⟨J5 h,I7 h⟩
    ·obtain⟨_,h⟩:=A5 h;exact⟨J5 h,I7 h⟩
    ·cases h
   ·cases h
theorem B2p{t:TypeId}{x v:Value}{lo hi mx:Option Value}(h:A31 P m t x lo hi mx=some (v,m')):m.lg.le m'.lg∧J9 m m':=by
 unfold A31 at h;split at h
 ·obtain⟨_,h⟩:=A5 h;split at h
  ·cases h;exact⟨.refl _,.refl _⟩
  ·obtain⟨_,h⟩:=A5 h;exact⟨J5 h,I7 h⟩
  ·obtain⟨_,h⟩:=A5 h;exact⟨J5 h,I7 h⟩
  ·obtain⟨_,h⟩:=A5 h;exact⟨J5 h,I7 h⟩
 ·cases h
theorem B8S{op:UnOp}{x v:Value}(h:B2n m op x=some (v,m')):m.lg.le m'.lg∧J9 m m':=by
 unfold B2n at h;simp only at h;split at h
 ·obtain⟨_,h⟩:=A5 h;exact⟨J5 h,I7 h⟩
 ·obtain⟨_,h⟩:=A5 h;exact⟨J5 h,I7 h⟩
theorem B4k{s t:TypeId}{x v:Value}(h:A6J P m s t x=some (v,m')):m.lg.le m'.lg∧J9 m m':=by
 unfold A6J at h;split at h
 ·obtain⟨_,h⟩:=A5 h;exact⟨J5 h,I7 h⟩
 ·obtain⟨_,h⟩:=A5 h;cases h;exact⟨.refl _,.refl _⟩
 ·cases h
theorem A9u{b:Builtin}{vs:List Value}{tys:List TypeId}{v:Value}(h:A1w P m b vs tys=some (v,m')):m.lg.le m'.lg∧J9 m m':=by
 unfold A1w at h;split at h
 ·split at h
  ·obtain⟨_,h⟩:=A5 h;exact⟨J5 h,I7 h⟩
  ·cases h
 ·obtain⟨_,h⟩:=A5 h;exact⟨J5 h,I7 h⟩
 ·obtain⟨_,h⟩:=A5 h;exact⟨J5 h,I7 h⟩
 ·cases h
theorem B6K{a:Addr}{s n:Nat}{i v:Value}(h:B7U m a s n i=some (v,m')):m.lg.le m'.lg∧J9 m m':=by
 unfold B7U at h;cases hq:!(Nat.blt (G4 i) 8)with
 | true=>rw[hq]at h;cases h
 | false =>
   rw[hq]at h;simp only[cond_false]at h;split at h
   ·rename_i b H k W hi lg hl;split at h
    ·rename_i lg' hb;cases h;have h1:=J5 hl;obtain⟨l1,h2⟩:=I7 hl;refine⟨h1.trans (A4Y hb),lg',?_⟩;obtain⟨H0,n0,W0,hi0,l0⟩:=m;cases h2;rfl
    ·cases h
   ·cases h
theorem A9q{t:TypeId}{x i v:Value}(h:A1u P m t x i=some (v,m')):m.lg.le m'.lg∧J9 m m':=by
 unfold A1u at h;split at h
 ·split at h
  ·exact B6K h
  ·cases h
 ·split at h
  ·generalize hq:Nat.beq _ (N3+2)=q at h;cases q with
   | true=>cases h
   | false=>exact B6K h
  ·cases h
 ·cases h
theorem A9s{s:TypeId}{x v:Value}{i:Nat}(h:A1v P m s x i=some (v,m')):m.lg.le m'.lg∧J9 m m':=by
 unfold A1v at h;split at h
 ·split at h
  ·split at h
   ·split at h
    ·cases h;exact⟨.refl _,.refl _⟩
    ·cases h
   ·cases h
  ·cases h
 ·cases h
theorem A2N{cs:List Value}{s n:Nat}{i:Value}:∀ {k o:Nat} {m m':Mem} {r:List Value},A09 m cs s n i o k=some (r,m')→m.lg.le m'.lg∧J9 m m'
 | 0,o,m,m',r,h=>by cases h;exact⟨.refl _,.refl _⟩
 | k+1,o,m,m',r,h=>by
   unfold A09 at h;split at h
   ·obtain⟨_,h⟩:=A5 h;split at h
    ·rename_i m1 h1;split at h
     ·rename_i h2;cases h
      have:=A2N h2;exact⟨(J5 h1).trans this.1,(I7 h1).trans this.2⟩
     ·cases h
    ·cases h
   ·cases h
theorem B4i{t:TypeId}{x v:Value}(h:A6I P m t x=some (v,m')):m.lg.le m'.lg∧J9 m m':=by
 unfold A6I at h;split at h
 ·split at h
  ·split at h
   ·split at h
    ·rename_i h1;cases h;exact A2N h1
    ·cases h
   ·cases h
  ·split at h
   ·split at h
    ·rename_i h1;cases h;exact A2N h1
    ·cases h
   ·cases h
  ·cases h
 ·cases h
theorem B5c{fr:Fr}{o:Op}{v:Value}(h:B8T P fr m o=some (v,m')):m.lg.le m'.lg∧J9 m m':=by
 unfold B8T at h;split at h
 ·exact B4g h
 ·split at h
  ·rename_i r hr;cases h;exact B63 hr
  ·exact B8V h
 ·exact B8S h
 ·exact B4k h
 ·exact B2p h
 ·exact B2r h
 ·exact A9q h
 ·exact A9s h
 ·exact B4i h
 ·exact A9u h
 ·cases h
theorem B62{op:BinOp}{t:TypeId}{x y:Operand}{a b a' b' v:Value}(h:A5R P m op t a b=some (v,m'))(ha:VR ρ a a')(hb:VR ρ b b')(hS:Sat m'.lg)(w:World) :
  ∃ r,(do eqGuard op t x y a' b';binOp op t a' b':Sem Value).run P w=.ok r w∧VR ρ v r:=by
 have fin:∀ {r:Value} {p q:Value},A8c p=true→A8c q=true→A6s P op t p q=some r→a'=p→b'=q→(do eqGuard op t x y a' b';binOp op t a' b':Sem Value).run P w=.ok r w:=fun{r p q} hp hq hr e1 e2=>by
  subst e1;subst e2;have v1:VR ρ a' a':=.pure (by cases a'<;>simp[A8c]at hp<;>rfl);have v2:VR ρ b' b':=.pure (by cases b'<;>simp[A8c]at hq<;>rfl);have g:A4O P t x y a' b'=true:=by
   cases a'<;>simp[A8c]at hp<;>cases b'<;>simp[A8c]at hq<;>rfl
  have hg:=A6f (op:=op) (fun _=>g) v1 v2 w;obtain⟨h2,_⟩:=A8M hr v1 v2 w;simp[Sem.run_bind,hg,h2,Result.andThen]
 unfold A5R at h;simp only at h;cases h1:(Nat.blt (G4 a) 8 && Nat.blt (G4 b) 8) || (Nat.beq (G4 a) 9 && Nat.beq (G4 b) 9)with
 | true =>
   rw[h1]at h;obtain⟨u,e1,e2,r,e3,e4,e5⟩:=N0 h hS;have ht:L4 u<10:=by rw[e2];exact e5
   refine⟨r,?_,e4 ρ⟩;rcases I5 _ _▸h1 with h1|h1
   ·obtain⟨p1,p2⟩:=B8 h1;obtain⟨k,n,rfl,f1,_⟩:=O0 ha (A1 p1);obtain⟨j,n2,rfl,f2,_⟩:=O0 hb (A1 p2);simp only[F9,I3,f1,f2,evU,evB]at e1;subst e1;obtain⟨r',g1,g2⟩:=B1f ht;rw[e3]at g2;cases g2;exact fin rfl rfl (by unfold A6s;exact g1) rfl rfl
   ·obtain⟨p1,p2⟩:=B8 h1;obtain⟨s1,rfl,f1⟩:=A02 ha (A2 p1);obtain⟨s2,rfl,f2⟩:=A02 hb (A2 p2);simp only[F9,I3,f1,f2,evU,evB]at e1;subst e1;obtain⟨r',g1,g2⟩:=B1f ht;rw[e3]at g2;cases g2;exact fin rfl rfl (by unfold A6s;exact g1) rfl rfl
 | false =>
   rw[h1]at h;simp only[cond_false]at h;obtain⟨h2,h⟩:=A5 h;obtain⟨h2,h5⟩:=B8 h2;obtain⟨h2,h4⟩:=B8 h2;obtain⟨h2,h3⟩:=B8 h2;have hu:P.underlying t=some .bool:=by
    split at h5
    ·assumption
    ·cases h5
   obtain⟨u,e1,e2,r,e3,e4,_⟩:=N0 h hS;refine⟨r,?_,e4 ρ⟩;obtain⟨p,rfl,f1⟩:=A2y ha (A2 h2);obtain⟨q,rfl,f2⟩:=A2y hb (A2 h3);simp only[F9,I3,f1,f2,evU,evB]at e1;cases op<;>simp only[A8_]at h4<;>first
    | cases h4
    | skip
   ·subst e1;cases e3;exact fin rfl rfl (by simp[A6s,B0U,eqM,hu]) rfl rfl
   ·subst e1;cases e3;exact fin rfl rfl (by simp[A6s,B0U,eqM,hu]) rfl rfl
theorem A7s{t:TypeId}{a' b':Value}(e:Bool)(hne:∃ cs,a'=.agg cs):binOp (bif e then .eql else .neq) t a' b'=(do let r ← Op.equal t a' b';pure (.bool (bif e then r else !r))):=by
 obtain⟨cs,rfl⟩:=hne;cases e<;>cases b'<;>rfl
theorem B8U{op:BinOp}{t:TypeId}{x y:Operand}{a b a' b' v:Value}(h:B2s P m op t x y a b=some (v,m'))(ha:VR ρ a a')(hb:VR ρ b b')(hn:A5R P m op t a b=none)(hS:Sat m'.lg)(w:World) :
  ∃ r,(do eqGuard op t x y a' b';binOp op t a' b':Sem Value).run P w=.ok r w∧VR ρ v r:=by
 unfold B2s at h;obtain⟨hg,h⟩:=A5 h;have hgu:=A6f (op:=op) (fun _=>hg) ha hb w;have hagg:∀ {l},eqS P 20 t a b=some l→(op=.eql∨op=.neq)→∃ cs,a'=.agg cs:=fun{l} hl hop=>by
  unfold eqS at hl;cases hs:A16 P t a b with
  | true =>
    unfold A16 at hs;unfold A5R at hn;simp only at hn;split at hs
    ·rename_i hu;obtain⟨q1,q2⟩:=B8 hs;rw[A2 q1,A2 q2,hu]at hn;obtain⟨H,n,W,hi,⟨nx,pi,log⟩⟩:=m;rcases hop with rfl|rfl<;>simp[A8_,Z6,E8,H4]at hn
    ·rename_i k hu;obtain⟨q1,q2⟩:=B8 hs;have q3:=A3W k;have q4:Nat.blt (A5D k) 8=true:=C4 q3;rw[A2 q1,A2 q2,q4]at hn;obtain⟨H,n,W,hi,⟨nx,pi,log⟩⟩:=m;simp[Z6,E8,H4]at hn
    ·obtain⟨q1,q2⟩:=B8 hs;rw[A2 q1,A2 q2]at hn;obtain⟨H,n,W,hi,⟨nx,pi,log⟩⟩:=m;simp[Z6,E8,H4]at hn
    ·cases hs
  | false =>
    rw[hs]at hl;simp only[cond_false]at hl;split at hl
    ·obtain⟨cs',rfl,_⟩:=Y9 ha;exact⟨_,rfl⟩
    ·obtain⟨cs',rfl,_⟩:=Y9 ha;exact⟨_,rfl⟩
    ·cases hl
 split at h
 ·rename_i l hl _;obtain⟨u,e1,e2,r,e3,e4,_⟩:=N0 h hS;refine⟨r,?_,e4 ρ⟩;simp only[evU]at e1;split at e1
  ·rename_i z hz;subst e1;cases e3;have he:(Op.equal t a' b').run P w=.ok z w:=B5H 20 t a b a' b' l z hl hz ha hb _ (by decide) w;have hq:=A7s (t:=t) (b':=b') true (hagg hl (.inl rfl));simp only[cond_true]at hq;rw[hq];simp[Sem.run_bind,hgu,he,Result.andThen]
  ·subst e1;cases e3
 ·rename_i l hl _;split at h
  ·rename_i hh m1 h1;have hS1:Sat m1.lg:=U7.le hS (J5 h);obtain⟨u1,f1,f2,r1,f3,f4,_⟩:=N0 h1 hS1;obtain⟨u,e1,e2,r,e3,e4,_⟩:=N0 h hS;refine⟨r,?_,e4 ρ⟩;simp only[evU]at f1;split at f1
   ·rename_i z hz;subst f1;cases f3;have hv:=A01 (ρ:=ρ) (f4 ρ) (by obtain⟨e,_⟩:=A4w h1;rw[e];show 8<10;omega);have:F8 Ora.env hh=.bool z:=by
     cases hu:F8 Ora.env hh<;>rw[hu]at hv<;>first|(cases hv.1;done)|skip
     all_goals (obtain⟨hv1,_⟩:=hv;cases hv1;rfl)
    simp only[F9,I3,this,evU,ev1,unM,ofV]at e1;subst e1;cases e3;have he:(Op.equal t a' b').run P w=.ok z w:=B5H 20 t a b a' b' l z hl hz ha hb _ (by decide) w;have hq:=A7s (t:=t) (b':=b') false (hagg hl (.inr rfl));simp only[cond_false]at hq;rw[hq];simp[Sem.run_bind,hgu,he,Result.andThen]
   ·subst f1;cases f3
  ·cases h
 ·cases h
end
end Go.Sx
namespace Go.Sx
set_option linter.all false
open Go
set_option linter.unusedVariables false
set_option linter.unusedSimpArgs false
variable [Ora]
section
variable {P:Program} {base:Nat} {ρ:Ren} {m m':Mem} {w:World}
theorem pk(k:IntKind)(n:Int):I2 (.int k n)=true:=rfl
theorem B8R{op:UnOp}{x x' v:Value}(h:B2n m op x=some (v,m'))(hx:VR ρ x x')(hS:Sat m'.lg)(w:World):∃ r,(Op.unary op x').run P w=.ok r w∧VR ρ v r:=by
 unfold B2n at h;simp only at h;split at h
 ·obtain⟨h1,h⟩:=A5 h;obtain⟨b,rfl,e⟩:=A2y hx (A2 h1);obtain⟨u,e1,e2,r,e3,e4,_⟩:=N0 h hS;simp only[F9,I3,e,evU,ev1,unM,ofV]at e1;subst e1;cases e3;exact⟨_,(B4b (P:=P) (ρ:=ρ) (op:=.not) (x:=.bool b) (v:=.bool !b) rfl (.pure rfl) w).1,e4 ρ⟩
 ·obtain⟨h1,h⟩:=A5 h;obtain⟨k,n,rfl,e,_⟩:=O0 hx (A1 h1);obtain⟨u,e1,e2,r,e3,e4,e5⟩:=N0 h hS;simp only[F9,I3,e,evU,ev1]at e1;subst e1;obtain⟨r',g1,g2⟩:=B1f (by rw[e2];exact e5);rw[e3]at g2;cases g2;exact⟨_,(B4b (P:=P) (ρ:=ρ) g1 (.pure (pk k n)) w).1,e4 ρ⟩
theorem B4j{s t:TypeId}{x x' v:Value}(h:A6J P m s t x=some (v,m'))(hx:VR ρ x x')(hS:Sat m'.lg)(w:World):∃ r,(convert s t x').run P w=.ok r w∧VR ρ v r:=by
 unfold A6J at h;split at h
 ·rename_i j k hs ht;obtain⟨h1,h⟩:=A5 h;obtain⟨j2,n,rfl,e,_⟩:=O0 hx (A1 h1);obtain⟨u,e1,e2,r,e3,e4,e5⟩:=N0 h hS;simp only[F9,I3,e,evU]at e1;subst e1;cases e3;exact⟨_,by simp[convert,Sem.run_bind,D8 hs,D8 ht,Result.andThen,Conv.intToInt],e4 ρ⟩
 ·rename_i hs ht;obtain⟨h1,h⟩:=A5 h;cases h;obtain⟨b,rfl,e⟩:=A02 hx (A2 h1);exact⟨_,by simp[convert,Sem.run_bind,D8 hs,D8 ht,Result.andThen],hx⟩
 ·cases h
theorem A3O{t:Nat}:∀ {cs:List Value},x4 t cs=true→∀ {i:Nat} {v:Value},cs[i]? = some v→G4 v=t
 | [],_,i,v,h=>by simp at h
 | c::r,hs,i,v,h=>by
   obtain⟨h1,h2⟩:=B8 (show(Nat.beq (G4 c) t && x4 t r)=true from hs);cases i with
   | zero=>simp at h;subst h;exact A2 h1
   | succ i=>exact A3O h2 (by simpa using h)
theorem B8a{t e:TypeId}{n tg:Nat}{cs:Array Value}{x' i i' v:Value}(hu:P.underlying t=some (.array n e))(ha:A0w P e=some false)(hsz:G7 P e=some 1)(hl:cs.toList.length=n)(htg:x4 tg cs.toList=true)(h10:tg<10)
  (hi8:G4 i<8) (h:Z6 m tg .sel (i::cs.toList)=some (v,m')) (hx:VR ρ (.agg cs) x') (hi:VR ρ i i') (hS:Sat m'.lg) (w:World):∃ r,(Instr.index t x' i').run P w=.ok r w∧VR ρ v r:=by
 obtain⟨k,z,rfl,e,_⟩:=O0 hi hi8;obtain⟨u,e1,e2,r,e3,e4,e5⟩:=N0 h hS;simp only[F9,e]at e1;cases z with
 | negSucc z=>simp only[evU]at e1;subst e1;cases e3
 | ofNat z =>
   simp only[evU]at e1;by_cases hz:z<cs.toList.length
   ·have hget:cs.toList[z]? = some cs.toList[z]:=A6 hz;have htag:=A3O htg hget;have hm:A4M P t (.agg cs) (.int k (.ofNat z))=some cs.toList[z]:=by
     have hb:Nat.blt z n=true:=C4 (by omega);simp only[A4M,hu,hsz,hb,cond_true,A6V,ha,Nat.mul_one];exact hget
    obtain⟨v',g1,g2⟩:=A7D (P:=P) hm hx (.pure rfl) w;obtain⟨f1,_⟩:=A01 g2 (by omega);have:u=F8 Ora.env cs.toList[z]:=by
     rw[← e1,B3,I9,hget];rfl
    rw[this,f1]at e3;cases e3;exact⟨_,g1,e4 ρ⟩
   ·rw[B3,Q2 (by simp at hz ⊢;omega)]at e1;subst e1;cases e3
theorem B0J{e:TypeId}(h:Nat.beq (x3.sizeD P e) 1=true):G7 P e=some 1:=by
 have h:=A2 h;unfold x3.sizeD at h;split at h
 ·rename_i n hn;rw[hn,h]
 ·cases h
theorem B2q{t:TypeId}{x x' i i' v:Value}(h:x3 P m t x i=some (v,m'))(hx:VR ρ x x')(hi:VR ρ i i')(hS:Sat m'.lg)(w:World):∃ r,(Instr.index t x' i').run P w=.ok r w∧VR ρ v r:=by
 unfold x3 at h;cases hq:!(Nat.blt (G4 i) 8)with
 | true=>rw[hq]at h;cases h
 | false =>
   have hi8:G4 i<8:=by
    have:Nat.blt (G4 i) 8=true:=by simpa using hq
    exact A1 this
   rw[hq]at h;simp only[cond_false]at h;split at h
   ·rename_i hu;obtain⟨h1,h⟩:=A5 h;obtain⟨s,rfl,f1⟩:=A02 hx (A2 h1);obtain⟨k,z,rfl,f2,_⟩:=O0 hi hi8;obtain⟨u,e1,e2,r,e3,e4,e5⟩:=N0 h hS;simp only[F9,I3,f1,f2]at e1;cases z with
    | negSucc z=>simp only[evU]at e1;subst e1;cases e3
    | ofNat z =>
      simp only[evU]at e1;split at e1
      ·rename_i b hb;subst e1;cases e3;have hm:A4M P t (.string ⟨⟨s⟩⟩) (.int k (.ofNat z))=some (.int .u8 b.toNat):=by
        simp only[A4M,hu,hb]
       obtain⟨v',g1,g2⟩:=A7D (P:=P) (ρ:=ρ) hm (.pure rfl) (.pure rfl) w;cases J2 g2;exact⟨_,g1,e4 ρ⟩
      ·subst e1;cases e3
   ·rename_i n e hu;split at h
    ·rename_i cs k he;obtain⟨h1,h⟩:=A5 h;obtain⟨h1,h3⟩:=B8 h1;obtain⟨h1,h2⟩:=B8 h1;exact B8a hu (by simp[A0w,he]) (B0J h3) (A2 h1) h2 (by have:=A3W k;omega) hi8 h hx hi hS w
    ·rename_i cs he;obtain⟨h1,h⟩:=A5 h;obtain⟨h1,h3⟩:=B8 h1;obtain⟨h1,h2⟩:=B8 h1;exact B8a hu (by simp[A0w,he]) (B0J h3) (A2 h1) h2 (by omega) hi8 h hx hi hS w
    ·cases h
   ·cases h
theorem B4l{t:TypeId}(hu:P.underlying t=some .string){s:List UInt8}{l h:Int}{u:U}{r:Value}{kl kh:IntKind}(e1:B2t s l h=u)(e3:toV u=some r):A1P P t (.string ⟨⟨s⟩⟩) (some (.int kl l)) (some (.int kh h)) none=some r:=by
 unfold B2t at e1;split at e1
 ·rename_i l h;split at e1
  ·rename_i hh;subst e1;cases e3;have b1:Nat.ble h (ByteArray.size ⟨⟨s⟩⟩)=true:=C4 hh.2;have b2:Nat.ble l h=true:=C4 hh.1;simp only[A1P,hu,V8,b1,b2,cond_true]
  ·subst e1;cases e3
 ·subst e1;cases e3
theorem B2o{t:TypeId}{x x' v:Value}{lo hi mx lo' hi' mx':Option Value}(h:A31 P m t x lo hi mx=some (v,m'))(hx:VR ρ x x')(hlo:OR ρ lo lo')(hhi:OR ρ hi hi')(hmx:OR ρ mx mx')(hS:Sat m'.lg)(w:World) :
  ∃ r,(Instr.sliceAt t x' lo' hi' mx').run P w=.ok r w∧VR ρ v r:=by
 have none_inv:∀ {o:Option Value},OR ρ none o→o=none:=fun{o} h=>by cases o<;>first|rfl|exact h.elim
 have some_inv:∀ {y:Value} {o:Option Value},OR ρ (some y) o→∃ y',o=some y'∧VR ρ y y':=fun{y o} h=>by cases o<;>first|exact h.elim|exact⟨_,rfl,h⟩
 unfold A31 at h;split at h
 ·rename_i hu;cases none_inv hmx;obtain⟨h1,h⟩:=A5 h;obtain⟨s,rfl,f1⟩:=A02 hx (A2 h1);have str_of:∀ {y:Value},VR ρ (.string ⟨⟨s⟩⟩) y→y=.string ⟨⟨s⟩⟩:=fun h=>X7 h
  split at h
  ·cases h;cases none_inv hlo;cases none_inv hhi;have hm:A1P P t (.string ⟨⟨s⟩⟩) none none none=some (.string ⟨⟨s⟩⟩):=by
    have e:ByteArray.size ⟨⟨s⟩⟩=s.length:=rfl;simp[A1P,hu,V8,e]
   obtain⟨v',g1,g2⟩:=A2z (P:=P) (ρ:=ρ) (lo':=none) (hi':=none) (mx':=none) hm (.pure rfl) trivial trivial trivial w;cases X7 g2;exact⟨_,g1,hx⟩
  ·obtain⟨h2,h⟩:=A5 h;obtain⟨l',rfl,hl⟩:=some_inv hlo;cases none_inv hhi;obtain⟨k,z,rfl,f2,_⟩:=O0 hl (A1 h2);obtain⟨u,e1,e2,r,e3,e4,e5⟩:=N0 h hS;simp only[F9,I3,f1,f2,evU]at e1;have hm:=B4l (P:=P) (kl:=k) (kh:=.i64) hu e1 e3;have hm2:A1P P t (.string ⟨⟨s⟩⟩) (some (.int k z)) none none=some r:=by
    rw[← hm];have e:ByteArray.size ⟨⟨s⟩⟩=s.length:=rfl;have b:Nat.ble s.length s.length=true:=C4 (A7 _);have e6:((s.length:Nat):Int)=Int.ofNat s.length:=rfl;simp only[A1P,hu,V8,e,e6,b,cond_true]
   obtain⟨v',g1,g2⟩:=A2z (P:=P) (ρ:=ρ) (lo':=some (.int k z)) (hi':=none) (mx':=none) hm2 (.pure rfl) (VR.pure rfl:VR ρ _ _) trivial trivial w;have:VR ρ r v':=g2;have hp:=A2w e3;cases g2 with
   | pure _=>exact⟨_,g1,e4 ρ⟩
   | _=>simp[I2,ixp,Go.Sx.dat,Go.Sx.clp,Go.Sx.own,Go.Sx.dpt,Go.Sx.opt,Go.Sx.yv,Go.Sx.sdt]at hp
  ·obtain⟨h2,h⟩:=A5 h;obtain⟨h',rfl,hh⟩:=some_inv hhi;cases none_inv hlo;obtain⟨k,z,rfl,f2,_⟩:=O0 hh (A1 h2);obtain⟨u,e1,e2,r,e3,e4,e5⟩:=N0 h hS;have f0:F8 Ora.env (.int .i64 0)=.int .i64 0:=rfl;simp only[F9,I3,f1,f2,f0,evU]at e1;have hm:=B4l (P:=P) (kl:=.i64) (kh:=k) hu e1 e3;have hm2:A1P P t (.string ⟨⟨s⟩⟩) none (some (.int k z)) none=some r:=by
    rw[← hm];have e6:(0:Int)=Int.ofNat 0:=rfl;cases z with
    | negSucc z=>simp only[A1P,hu,V8]
    | ofNat z =>
      have b0:Nat.ble 0 z=true:=C4 (Nat.zero_le _);simp only[A1P,hu,V8,e6];cases Nat.ble z (ByteArray.size ⟨⟨s⟩⟩)<;>simp[b0]
   obtain⟨v',g1,g2⟩:=A2z (P:=P) (ρ:=ρ) (lo':=none) (hi':=some (.int k z)) (mx':=none) hm2 (.pure rfl) trivial (VR.pure rfl:VR ρ _ _) trivial w;have hp:=A2w e3;cases g2 with
   | pure _=>exact⟨_,g1,e4 ρ⟩
   | _=>simp[I2,ixp,Go.Sx.dat,Go.Sx.clp,Go.Sx.own,Go.Sx.dpt,Go.Sx.opt,Go.Sx.yv,Go.Sx.sdt]at hp
  ·obtain⟨h2,h⟩:=A5 h;obtain⟨h2,h3⟩:=B8 h2;obtain⟨h',rfl,hh⟩:=some_inv hhi;obtain⟨l',rfl,hl⟩:=some_inv hlo;obtain⟨k,z,rfl,f2,_⟩:=O0 hl (A1 h2);obtain⟨j,y,rfl,f3,_⟩:=O0 hh (A1 h3);obtain⟨u,e1,e2,r,e3,e4,e5⟩:=N0 h hS;simp only[F9,I3,f1,f2,f3,evU]at e1;have hm:=B4l (P:=P) (kl:=k) (kh:=j) hu e1 e3;obtain⟨v',g1,g2⟩:=A2z (P:=P) (ρ:=ρ) (lo':=some (.int k z)) (hi':=some (.int j y)) (mx':=none) hm (.pure rfl) (VR.pure rfl:VR ρ _ _) (VR.pure rfl:VR ρ _ _) trivial w;have hp:=A2w e3;cases g2 with
   | pure _=>exact⟨_,g1,e4 ρ⟩
   | _=>simp[I2,ixp,Go.Sx.dat,Go.Sx.clp,Go.Sx.own,Go.Sx.dpt,Go.Sx.opt,Go.Sx.yv,Go.Sx.sdt]at hp
 ·cases h
theorem A9t{b:Builtin}{vs vs':List Value}{tys:List TypeId}{ty:TypeId}{ks:Array Bool}{v:Value}(hr:HR P base ρ m.H w)(h:A1w P m b vs tys=some (v,m'))(hx:LR ρ vs vs')(hS:Sat m'.lg) :
  ∃ s:Sem Value,builtin b ⟨tys⟩ ty ks ⟨vs'⟩=(do pure (.value (← s)))∧∃ r,s.run P w=.ok r w∧VR ρ v r:=by
 unfold A1w at h;split at h
 ·obtain⟨x',r1,rfl,h1,h2⟩:=hx.tail;cases h2.nil_inv;split at h
  ·rename_i hu;obtain⟨h3,h⟩:=A5 h;obtain⟨s,rfl,f1⟩:=A02 h1 (A2 h3);obtain⟨u,e1,e2,r,e3,e4,e5⟩:=N0 h hS;simp only[F9,I3,f1,evU]at e1;subst e1;cases e3;rename_i t rest _ _;have hm:B9T P m t (.string ⟨⟨s⟩⟩)=some (.int .i64 s.length):=by simp[B9T,hu]
   obtain⟨g1,_⟩:=B6D (ρ:=ρ) (ty:=ty) (tys:=rest) hr hm (.pure rfl);exact⟨_,rfl,_,g1,e4 ρ⟩
  ·cases h
 ·obtain⟨x',r1,rfl,h1,h2⟩:=hx.tail;obtain⟨y',r2,rfl,h3,h4⟩:=h2.tail;cases h4.nil_inv;obtain⟨h5,h⟩:=A5 h;obtain⟨h5,h6⟩:=B8 h5;have h5:=A1 h5;have h6:=A2 h6;obtain⟨k,a,rfl,f1,q1⟩:=O0 h1 h5;obtain⟨j,c,rfl,f2,q2⟩:=O0 h3 (h6▸h5);obtain⟨u,e1,e2,r,e3,e4,e5⟩:=N0 h hS;simp only[F9,I3,f1,f2,evU]at e1;subst e1;cases e3;obtain⟨g1,_⟩:=B55 (P:=P) (ρ:=ρ) (ty:=ty) (tys:=⟨tys⟩) (vs:=[.int k a,.int j c]) rfl (.cons (.pure rfl) (.cons (.pure rfl) .nil)) w;exact⟨_,rfl,_,g1,e4 ρ⟩
 ·obtain⟨x',r1,rfl,h1,h2⟩:=hx.tail;obtain⟨y',r2,rfl,h3,h4⟩:=h2.tail;cases h4.nil_inv;obtain⟨h5,h⟩:=A5 h;obtain⟨h5,h6⟩:=B8 h5;have h5:=A1 h5;have h6:=A2 h6;obtain⟨k,a,rfl,f1,q1⟩:=O0 h1 h5;obtain⟨j,c,rfl,f2,q2⟩:=O0 h3 (h6▸h5);obtain⟨u,e1,e2,r,e3,e4,e5⟩:=N0 h hS;simp only[F9,I3,f1,f2,evU]at e1;subst e1;cases e3;obtain⟨g1,_⟩:=B53 (P:=P) (ρ:=ρ) (ty:=ty) (tys:=⟨tys⟩) (vs:=[.int k a,.int j c]) rfl (.cons (.pure rfl) (.cons (.pure rfl) .nil)) w;exact⟨_,rfl,_,g1,e4 ρ⟩
 ·cases h
theorem B6m{v:Value}{k:IntKind}{n:Int}(h:F8 Ora.env v=.int k n):A50 Ora.env v=some n:=by
 cases v with
 | complex k i t =>
   cases k with
   | f64 =>
     have h:Ora.env i=.int _ n:=h;simp only[A50,h]
   | f32=>cases h
 | int j n=>cases h;rfl
 | _=>cases h
theorem B2M{v:Value}{n:Int}(h:A50 Ora.env v=some n):∃ k,F8 Ora.env v=.int k n:=by
 cases v with
 | complex k i t =>
   cases k with
   | f64 =>
     simp only[A50]at h;split at h
     ·rename_i k z he;cases h;exact⟨k,he⟩
     ·cases h
   | f32=>cases h
 | int j n=>cases h;exact⟨j,rfl⟩
 | _=>cases h
theorem B6J{a:Addr}{s n:Nat}{i i' v:Value}(h:B7U m a s n i=some (v,m'))(hi:VR ρ i i')(hS:Sat m'.lg):v=ixp a s i n∧∃ k z,i'=.int k (.ofNat z)∧z<n∧A50 Ora.env i=some (.ofNat z):=by
 unfold B7U at h;cases hq:!(Nat.blt (G4 i) 8)with
 | true=>rw[hq]at h;cases h
 | false =>
   have hi8:G4 i<8:=by
    have:Nat.blt (G4 i) 8=true:=by simpa using hq
    exact A1 this
   rw[hq]at h;simp only[cond_false]at h;split at h
   ·rename_i b H k W hh lg hl;split at h
    ·rename_i lg' hb;cases h;obtain⟨u,e1,e2,r,e3,e4,_⟩:=N0 hl (U7.le hS (A4Y hb));have hbt:=A5z (ρ:=ρ) hb (e4 ρ) hS;subst hbt;obtain⟨k0,z,rfl,f1,_⟩:=O0 hi hi8;have f0:F8 Ora.env (.int .i64 (.ofNat n))=.int .i64 (.ofNat n):=rfl;simp only[F9,I3,f1,f0,evU]at e1;subst e1;have e3:(decide (0≤z) && decide (z<Int.ofNat n))=true:=by
      have:=A8 e3;exact Value.bool.inj this
     simp only[I0,decide_eq_true_eq]at e3;cases z with
     | negSucc z=>exact absurd e3.1 (by simp)
     | ofNat z=>exact⟨rfl,k0,z,rfl,by have:=e3.2;simpa using this,B6m f1⟩
    ·cases h
   ·cases h
theorem A9p{t:TypeId}{x x' i i' v:Value}(h:A1u P m t x i=some (v,m'))(hx:VR ρ x x')(hi:VR ρ i i')(hS:Sat m'.lg)(w:World):∃ r,(Instr.indexAt t x' i').run P w=.ok r w∧VR ρ v r:=by
 unfold A1u at h;split at h
 ·rename_i n e a hu;split at h
  ·rename_i s hs hsp;obtain⟨rfl,k,z,rfl,hz,he⟩:=B6J h hi hS;obtain⟨l,hl,_,rfl⟩:=Q0 hx;have hb:Nat.blt z n=true:=C4 hz;have hm:Z7 P t (.pointer (some a)) (.int k (.ofNat z))=some (.pointer (some ⟨a.block,a.off+z*s,none⟩)):=by
    simp only[Z7,hu,hs,hsp,hb,cond_true,A0t,E8]
   obtain⟨v',g1,g2⟩:=A1F (P:=P) hm hx (.pure rfl) w;obtain⟨l2,hl2,_,rfl⟩:=Q0 g2;have hl2:ρ a.block=some l2:=hl2;rw[hl]at hl2;cases hl2;exact⟨_,g1,.ixp hl hsp he hz rfl⟩
  ·cases h
 ·rename_i e a n c hu;split at h
  ·rename_i s hs hsp;cases hc:Nat.beq c (N3+2)with
   | true=>rw[hc]at h;cases h
   | false =>
     rw[hc]at h;obtain⟨rfl,k,z,rfl,hz,he⟩:=B6J h hi hS;have hb:Nat.blt z n=true:=C4 hz;have hm:Z7 P t (.slice (some a) n c) (.int k (.ofNat z))=some (.pointer (some ⟨a.block,a.off+z*s,none⟩)):=by
      simp only[Z7,hu,hs,hsp,hb,cond_true,A0t,E8]
     obtain⟨v',g1,g2⟩:=A1F (P:=P) hm hx (.pure rfl) w;obtain⟨l2,hl2,_,rfl⟩:=Q0 g2;have hl2:ρ a.block=some l2:=hl2;exact⟨_,g1,.ixp hl2 hsp he hz rfl⟩
  ·cases h
 ·cases h
theorem B6L{a:Addr}{s n:Nat}{i v':Value}(h:VR ρ (ixp a s i n) v'):∃ l z,ρ a.block=some l∧a.spot=none∧A50 Ora.env i=some (.ofNat z)∧z<n∧v'=.pointer (some ⟨l.blk,a.off+z*s+l.sh,none⟩):=by
 generalize hx:ixp a s i n=x at h;cases h with
 | ixp h hs hi hz hv =>
   simp only[ixp,Value.func.injEq,r8,D6,Value.pointer.injEq,D3,Value.int.injEq,A3u,true_and,and_true]at hx;obtain⟨rfl,rfl,rfl,rfl⟩:=hx;exact⟨_,_,h,hs,hi,hz,hv⟩
 | pure hp=>subst hx;simp[ixp,I2]at hp
 | _=>simp[ixp,Go.Sx.dat,Go.Sx.clp,Go.Sx.own,Go.Sx.dpt,Go.Sx.opt,Go.Sx.yv,Go.Sx.sdt]at hx
theorem A9r{s:TypeId}{x x' v:Value}{i:Nat}(h:A1v P m s x i=some (v,m'))(hx:VR ρ x x')(w:World):∃ r,(Instr.fieldAt s x' i).run P w=.ok r w∧VR ρ v r:=by
 unfold A1v at h;split at h
 ·rename_i a k j n;split at h
  ·rename_i fs hu;split at h
   ·rename_i f hf hsp;split at h
    ·rename_i z hz;cases h;obtain⟨l,y,h1,h2,h3,h4,rfl⟩:=B6L (n:=n) (s:=k) (i:=j) hx;have hm:A1G P s (.pointer (some ⟨a.block,a.off+y*k,none⟩)) i=some (.pointer (some ⟨a.block,a.off+y*k+f.offset,none⟩)):=by
      simp only[A1G,hu,hf,hz,A0t,E8]
     obtain⟨v',g1,g2⟩:=A4Q (P:=P) (ρ:=ρ) hm (.ptr h1) w;obtain⟨l2,hl2,_,rfl⟩:=Q0 g2;have hl2:ρ a.block=some l2:=hl2;rw[h1]at hl2;cases hl2;refine⟨_,g1,?_⟩;simp only[A0t,E8];refine .ixp (a:=⟨a.block,a.off+f.offset,none⟩) h1 rfl h3 h4 ?_;simp only[Value.pointer.injEq,D3,Addr.mk.injEq,true_and,and_true];omega
    ·cases h
   ·cases h
  ·cases h
 ·cases h
theorem A7U{cs:List Value}{s:Nat}:∀ {n o:Nat} {l:List Value},A78 cs s o n=some l→l.length=n∧∀ z,z<n→cs[o+z*s]? = l[z]?
 | 0,o,l,h=>by cases h;exact⟨rfl,fun z hz=>by omega⟩
 | n+1,o,l,h=>by
   unfold A78 at h;split at h
   ·rename_i v r hv hr;cases h;obtain⟨h1,h2⟩:=A7U hr;refine⟨by simp[h1],fun z hz=>?_⟩;cases z with
    | zero=>simpa using hv
    | succ z =>
      have:=h2 z (by omega);rw[Nat.succ_mul,show o+(z*s+s)=o+s+z*s by omega]
      simpa using this
   ·cases h
theorem A7V{cs cs':List Value}{s n:Nat}{i:Value}{z:Nat}(he:A50 Ora.env i=some (.ofNat z))(hz:z<n)(hl:LR ρ cs cs'):∀ {k o:Nat} {m m':Mem} {r:List Value},A09 m cs s n i o k=some (r,m')→Sat m'.lg →
  LR ρ r ((cs'.drop (o+z*s)).take k)∧r.length=k
 | 0,o,m,m',r,h,hS=>by cases h;exact⟨by simpa using LR.nil,rfl⟩
 | k+1,o,m,m',r,h,hS=>by
   unfold A09 at h;split at h
   ·rename_i v l hstr;obtain⟨hq,h⟩:=A5 h;obtain⟨hq,h10⟩:=B8 hq;have h10:G4 v<10:=A1 h10;split at h
    ·rename_i hh m1 h1;split at h
     ·rename_i r2 m2 h2;cases h;obtain⟨ih1,ih2⟩:=A7V he hz hl h2 hS;obtain⟨u,e1,e2,rr,e3,e4,_⟩:=N0 h1 (U7.le hS (A2N h2).1);obtain⟨g1,g2⟩:=A7U hstr;have hget:=g2 z hz;have hzl:z<(v::l).length:=by rw[g1];exact hz
      rw[A6 hzl]at hget;obtain⟨c',f1,f2⟩:=hl.get hget;have htag:=A3O hq (A6 hzl);obtain⟨t1,_⟩:=A01 f2 (by omega);obtain⟨ki,ei⟩:=B2M he;simp only[F9,ei,evU]at e1;have e1:u=F8 Ora.env (v::l)[z]:=by
       rw[← e1];show(List.map (F8 Ora.env) (v::l)).getD z .none=_;rw[B3,I9,A6 hzl];rfl
      rw[e1,t1]at e3;cases e3;refine⟨?_,by simp[ih2]⟩;have:(cs'.drop (o+z*s)).take (k+1)=rr::(cs'.drop (o+1+z*s)).take k:=by
       rw[u6 (A9.1 f1).1,List.take_succ_cons,(A9.1 f1).2,show o+z*s+1=o+1+z*s by omega]
      rw[this];exact .cons (e4 ρ) ih1
     ·cases h
    ·cases h
   ·cases h
theorem B58{t:TypeId}{a:Addr}{l:Loc}{z s n k:Nat}{i:Value}{cs hs:List Value}(h:HR P base ρ m.H w)(hr:A0K m a ((n-1)*s+k)=some cs)(hl:ρ a.block=some l)(he:A50 Ora.env i=some (.ofNat z))(hz:z<n)(hc:A09 m cs s n i 0 k=some (hs,m'))(hS:Sat m'.lg) :
  ∃ rs,LR ρ hs rs∧rs.length=k∧∀ (j:Nat) (v':Value),rs[j]? = some v'→w.cell? ⟨l.blk,a.off+z*s+l.sh+j,none⟩=some v':=by
 obtain⟨r',h1,h2,h3⟩:=r9 h hr hl;obtain⟨g1,g2⟩:=A7V he hz h1 hc hS;rw[F0]at g1;refine⟨_,g1,g1.1▸g2,fun j v' hj=>?_⟩;have hjk:j<k:=by
  have:=(A9.1 hj).1;simp at this;omega
 rw[F5 hjk,H9]at hj
 have:=h3 _ v' hj;rw[show a.off+z*s+l.sh+j=a.off+l.sh+(z*s+j) by omega];exact this
theorem B4h{t:TypeId}{x x' v:Value}(h:HR P base ρ m.H w)(ho:A6I P m t x=some (v,m'))(hx:VR ρ x x')(hS:Sat m'.lg):∃ r,(Instr.loadAt t x').run P w=.ok r w∧VR ρ v r:=by
 unfold A6I at ho;split at ho
 ·rename_i a s i n;obtain⟨l,z,h1,h2,h3,h4,rfl⟩:=B6L (n:=n) (s:=s) (i:=i) hx;split at ho
  ·rename_i ha;split at ho
   ·rename_i cs hr;split at ho
    ·rename_i hh m2 hc;cases ho;obtain⟨rs,g1,g2,g3⟩:=B58 (t:=t) h hr h1 h3 h4 hc hS;obtain⟨v',r2,rfl,e1,e2⟩:=g1.tail;refine⟨v',?_,e1⟩
     have:=g3 0 v' rfl;simp[Instr.loadAt,Instr.sureAddr,loadVar,Sem.run_bind,A03 ha,Result.andThen,run_load,show w.cell? ⟨l.blk,a.off+z*s+l.sh,none⟩=some v' from by simpa using this]
    ·cases ho
   ·cases ho
  ·rename_i zz ha hn;split at ho
   ·rename_i cs hr;split at ho
    ·rename_i hh m2 hc;cases ho;obtain⟨rs,g1,g2,g3⟩:=B58 (t:=t) h hr h1 h3 h4 hc hS;refine⟨.agg ⟨rs⟩,?_,.agg g1.1 g1.2⟩;simp[Instr.loadAt,Instr.sureAddr,loadVar,Sem.run_bind,A03 ha,K8 hn,Result.andThen,J8 g2 g3]
    ·cases ho
   ·cases ho
  ·cases ho
 ·cases ho
theorem C1R{fr:Fr}{g:Operand→Value}{o:Oper}{v:Value}(h:HR P base ρ m.H w)(ho:B8T P fr m o.op=some (v,m'))(hg:FR ρ fr g o.op)(hS:Sat m'.lg):NOk P base ρ m w (execOp g o) v m':=by
 obtain⟨_,lg,rfl⟩:=B5c ho;have hst:St P base ρ ρ m (m.wLg lg) w w:=St.wLg h lg;obtain⟨dst,op,ty,pos,af,gd⟩:=o;simp only at ho hg;have hx1:∀ {x},x ∈ op.operands.toList→VR ρ (ev fr x) (g x):=fun hx=>hg _ hx
 have fin:∀ {s:Sem Value},(∃ r,s.run P w=.ok r w∧VR ρ v r)→NOk P base ρ m w (do pure (.value (← s))) v (m.wLg lg):=fun{s} ⟨r,h1,h2⟩=>NOk.of ⟨r,ρ,w,h1,h2,hst⟩
 unfold B8T at ho;split at ho
 ·rename_i c a b;have hc:=hx1 (x:=c) (by simp[Op.operands]);unfold A77 at ho;obtain⟨H,n,W,hi,l0⟩:=m;simp only at ho;split at ho
  ·rename_i l1 hb;simp only[D3,O5]at ho;obtain⟨rfl,ho⟩:=ho;have hS1:Sat l1:=by
    have:l1=(Mem.wLg ⟨H,n,W,hi,l0⟩ lg).lg:=by rw[← ho]
    rw[this];exact hS
   have:=A5z hb hc hS1;exact⟨g a,ρ,w,.inl (by simp[execOp,this,asBool]),hx1 (by simp[Op.operands]),hst⟩
  ·rename_i l1 hb;simp only[D3,O5]at ho;obtain⟨rfl,ho⟩:=ho;have hS1:Sat l1:=by
    have:l1=(Mem.wLg ⟨H,n,W,hi,l0⟩ lg).lg:=by rw[← ho]
    rw[this];exact hS
   have:=A5z hb hc hS1;exact⟨g b,ρ,w,.inl (by simp[execOp,this,asBool]),hx1 (by simp[Op.operands]),hst⟩
  ·cases ho
 ·rename_i op t x y yt;have hx:=hx1 (x:=x) (by simp[Op.operands]);have hy:=hx1 (x:=y) (by simp[Op.operands]);refine fin (s:=do eqGuard op t x y (g x) (g y);binOp op t (g x) (g y)) ?_;split at ho
  ·rename_i r hr;cases ho;exact B62 hr hx hy hS w
  ·rename_i hr;exact B8U ho hx hy hr hS w
 ·rename_i op t x;exact fin (s:=Op.unary op (g x)) (B8R ho (hx1 (by simp[Op.operands])) hS w)
 ·exact fin (B4j ho (hx1 (by simp[Op.operands])) hS w)
 ·rename_i t x lo hi mx;exact fin (s:=Instr.sliceAt t (g x) (lo.map g) (hi.map g) (mx.map g)) (B2o ho (hx1 (x:=x) (by simp[Op.operands])) (A3b (g:=g) fun y hy=>hx1 (by simp[Op.operands]at hy ⊢;exact .inr (.inl hy))) (A3b (g:=g) fun y hy=>hx1 (by simp[Op.operands]at hy ⊢;exact .inr (.inr (.inl hy)))) (A3b (g:=g) fun y hy=>hx1 (by simp[Op.operands]at hy ⊢;exact .inr (.inr (.inr hy)))) hS w)
 ·exact fin (B2q ho (hx1 (by simp[Op.operands])) (hx1 (by simp[Op.operands])) hS w)
 ·exact fin (A9p ho (hx1 (by simp[Op.operands])) (hx1 (by simp[Op.operands])) hS w)
 ·exact fin (A9r ho (hx1 (by simp[Op.operands])) w)
 ·rename_i t x;exact fin (s:=Instr.loadAt t (g x)) (B4h h ho (hx1 (by simp[Op.operands])) hS)
 ·rename_i b xs tys;have l1:=A2A (ρ:=ρ) (fr:=fr) (g:=g) (xs:=xs.toList) fun x hx=>hx1 (by show x ∈ (#[]++xs:Array Operand).toList;simpa using hx)
  obtain⟨ks,e2⟩:∃ ks,execOp g ⟨dst,.call ⟨.builtin b,xs,tys⟩,ty,pos,af,gd⟩=builtin b tys ty ks (xs.map g):=⟨_,rfl⟩;obtain⟨s,e,hs⟩:=A9t (ty:=ty) (ks:=ks) h ho l1 hS;have e1:xs.map g=⟨xs.toList.map g⟩:=by apply J1;simp
  rw[e2,e1];have e3:tys=⟨tys.toList⟩:=rfl;rw[e3,e];exact fin hs
 ·cases ho
end
end Go.Sx
namespace Go.Sx
set_option linter.all false
open Go
set_option linter.unusedVariables false
set_option linter.unusedSimpArgs false
variable [Ora]
section
variable {P:Program} {base:Nat} {ρ ρ':Ren} {m m':Mem} {w w':World}
theorem K4.step{m1:Mem}{hi:Nat}(hf:K4 ρ m.n hi)(st:St P base ρ ρ' m m1 w w'):K4 ρ' m1.n hi:=fun b h1 h2=>by
 cases hb:ρ' b with
 | none=>rfl
 | some l =>
   cases h0:ρ b with
   | some l0=>rw[hf b (B7 st.nle h1) h2]at h0;cases h0
   | none=>have:=(st.new b l hb h0).2;omega
theorem K4.less{n hi hi':Nat}(hf:K4 ρ n hi)(h:hi'≤hi):K4 ρ n hi':=fun b h1 h2=>hf b h1 (D4 h2 h)
def A3c(m:Mem)(t:Nat)(op:LOp)(xs:List Value):Lg:=⟨m.lg.nx+1,m.lg.pi,.dt m.lg.nx t op xs::m.lg.log⟩
theorem S3{t:Nat}{op:LOp}{xs:List Value}{k:Nat→Mem→Res}:A94 m t op xs k=k m.lg.nx (m.wLg (A3c m t op xs)):=by
 obtain⟨H,n,W,hi,⟨nx,pi,log⟩⟩:=m;simp only[A94,E8,H4];rfl
theorem B3Z{t:Nat}{op:LOp}{xs:List Value}{k:Nat→Mem→Option (List Value×Mem)}:Z9.letDo t op xs m k=k m.lg.nx (m.wLg (A3c m t op xs)):=by
 obtain⟨H,n,W,hi,⟨nx,pi,log⟩⟩:=m;simp only[Z9.letDo,E8,H4];rfl
@[simp] theorem u7(lg:Lg):(m.wLg lg).lg=lg:=by cases m;rfl
@[simp] theorem A5_(lg:Lg):(m.wLg lg).H=m.H:=by cases m;rfl
@[simp] theorem C21(lg:Lg):(m.wLg lg).n=m.n:=by cases m;rfl
@[simp] theorem B4a(lg:Lg):(m.wLg lg).hi=m.hi:=by cases m;rfl
@[simp] theorem C7Y(lg:Lg):(m.wLg lg).W=m.W:=by cases m;rfl
theorem m6{t:Nat}{op:LOp}{xs:List Value}:m.lg.le (m.wLg (A3c m t op xs)).lg:=by
 rw[u7];exact⟨[_],rfl⟩
theorem A5L{t:Nat}{op:LOp}{xs:List Value}{lg:Lg}(hS:Sat lg)(hl:(m.wLg (A3c m t op xs)).lg.le lg):Ora.env m.lg.nx=evU op (xs.map (F8 Ora.env))∧L4 (Ora.env m.lg.nx)=t∧∃ nul wd rows,Ora.env m.lg.nx=.seq nul wd rows∧t=10+wd:=by
 obtain⟨h1,h2,nul,wd,rows,h3⟩:=hS _ (hl.subset (by rw[u7];exact B6));exact⟨h1,h2,nul,wd,rows,h3,by rw[← h2,h3];rfl⟩
theorem A1e{b:Nat}(h:A5m m b=true):Hp.get m.H b=some .frz:=by
 unfold A5m at h;split at h
 ·assumption
 ·cases h
theorem B6S{b:Nat}(h:A5m m b=true):b≤H3:=by
 unfold A5m at h;split at h
 ·exact A1 h
 ·cases h
theorem B9i{b:Nat}(hr:HR P base ρ m.H w)(h:A5m m b=true):∃ l,ρ b=some l:=by
 obtain⟨l,h1,_⟩:=hr.at_ b (B6S h) _ (A1e h);exact⟨l,h1⟩
theorem S2{k:Nat→Mem→Option (Value×Nat×Mem)}{r:Value×Nat×Mem}(h:A2o m k=some r):∃ m1,u9 m .frz (fun _=>undef)=some (undef,m1)∧k m.n m1=some r∧m1.H=m.H.set m.n (some .frz)∧m.n≤H3∧m1.lg=m.lg:=by
 obtain⟨H,n,W,hi,lg⟩:=m;simp only[A2o,E8,A1z]at h;obtain⟨h1,h2⟩:=A5 h;refine⟨_,?_,h2,rfl,A1 h1,rfl⟩;simp only[u9,E8,A1z,h1,cond_true]
def A3w(G:Nat→Option Obj):Loc:=⟨0,0,0,0,G,false⟩
theorem St.region{m1:Mem}{G:Nat→Option Obj}(h:HR P base ρ m.H w)(hn:u9 m .frz (fun _=>undef)=some (undef,m1))(hf:K4 ρ m.n m1.hi)
  (hG:∀ k o,G k=some o→w.heap[k]? = some o∧∃ id ab l,id≤H3∧Hp.get m.H id=some ab∧ρ id=some l∧Tf ab l k∧ab.rw=false) :
  upd ρ m.n (A3w G) m.n=some (A3w G)∧Hp.get m1.H m.n=some .frz∧St P base ρ (upd ρ m.n (A3w G)) m m1 w w:=by
 obtain⟨h1,h2,h3⟩:=St.new0 (l':=A3w G) h hn hf ⟨rfl,fun k o hk=>(hG k o hk).1⟩ rfl fun q hq=>by
  rcases hq with⟨hq,_⟩|⟨_,o,hq⟩
  ·cases hq
  ·obtain⟨g1,id,ab,l,g2,g3,g4,g5,g6⟩:=hG q o hq;refine⟨⟨id,ab,l,g2,g3,g4,g5⟩,fun id2 hid2 a l2 ha hl hr ho e=>?_⟩
   have:=((h.atl hl ha).2 hr ho).2 id g2 ab l g3 g4 (e▸g5.2);subst this;rw[g3]at ha;have ha:=A8 ha;subst ha;rw[g6]at hr;cases hr
 refine⟨h2,?_,h3⟩;obtain⟨hle,_,rfl⟩:=M7 hn;show Hp.get (m.H.set m.n (some .frz)) m.n=_;rw[E6 _ _ _ _ hle hle,if_pos rfl]
theorem A4y{b i t:Nat}{v':Value}(h:VR ρ (dat b i t) v'):∃ l,ρ b=some l∧Enc l.G (Ora.env i) v'∧L4 (Ora.env i)=t∧10≤t:=by
 generalize hx:dat b i t=x at h;cases h with
 | dat h he ht h10 hf =>
   simp only[dat,Value.func.injEq,r8,D6,Value.pointer.injEq,D3,Addr.mk.injEq,Value.complex.injEq,true_and,and_true]at hx;obtain⟨rfl,rfl,rfl⟩:=hx;exact⟨_,h,he,ht,h10⟩
 | pure hp=>subst hx;simp[dat,I2]at hp
 | _=>simp[ixp,Go.Sx.dat,Go.Sx.clp,Go.Sx.own,Go.Sx.dpt,Go.Sx.opt,Go.Sx.yv,Go.Sx.sdt]at hx
theorem A2Y{b i t:Nat}{v':Value}(h:VR ρ (clp b i t) v'):∃ l,ρ b=some l∧Enc l.G (Ora.env i) v'∧L4 (Ora.env i)=t∧10≤t∧C0F v':=by
 generalize hx:clp b i t=x at h;cases h with
 | clp h he ht h10 hf hc =>
   simp only[clp,Value.func.injEq,r8,D6,Value.pointer.injEq,D3,Addr.mk.injEq,Value.complex.injEq,true_and,and_true]at hx;obtain⟨rfl,rfl,rfl⟩:=hx;exact⟨_,h,he,ht,h10,hc⟩
 | pure hp=>subst hx;simp[clp,I2]at hp
 | _=>simp[ixp,Go.Sx.dat,Go.Sx.clp,Go.Sx.own,Go.Sx.dpt,Go.Sx.opt,Go.Sx.yv,Go.Sx.sdt]at hx
theorem A2X{b i t:Nat}{v':Value}(h:VR ρ (own b i t) v'):B88 ρ b (Ora.env i) v'∧L4 (Ora.env i)=t:=by
 generalize hx:own b i t=x at h;cases h with
 | own h ht hf =>
   simp only[own,Value.func.injEq,r8,D6,Value.pointer.injEq,D3,Addr.mk.injEq,Value.complex.injEq,true_and,and_true]at hx;obtain⟨rfl,rfl,rfl⟩:=hx;exact⟨h,ht⟩
 | pure hp=>subst hx;simp[own,I2]at hp
 | _=>simp[ixp,Go.Sx.dat,Go.Sx.clp,Go.Sx.own,Go.Sx.dpt,Go.Sx.opt,Go.Sx.yv,Go.Sx.sdt]at hx
theorem B1s{b i t o:Nat}{z v':Value}(h:VR ρ (dpt b i t z o) v'):C7B ρ b (Ora.env i) (A50 Ora.env z) o v'∧L4 (Ora.env i)=t:=by
 generalize hx:dpt b i t z o=x at h;cases h with
 | dpt h ht hf =>
   simp only[dpt,Value.func.injEq,r8,D6,Value.pointer.injEq,D3,Addr.mk.injEq,Value.complex.injEq,Value.int.injEq,A3u,true_and,and_true]at hx;obtain⟨rfl,⟨rfl,rfl⟩,rfl,rfl⟩:=hx;exact⟨h,ht⟩
 | pure hp=>subst hx;simp[dpt,I2]at hp
 | _=>simp[ixp,Go.Sx.dat,Go.Sx.clp,Go.Sx.own,Go.Sx.dpt,Go.Sx.opt,Go.Sx.yv,Go.Sx.sdt]at hx
theorem A8F{b i t o:Nat}{z v':Value}(h:VR ρ (opt b i t z o) v'):C6W ρ b (Ora.env i) (A50 Ora.env z) o v'∧L4 (Ora.env i)=t:=by
 generalize hx:opt b i t z o=x at h;cases h with
 | opt h ht hf =>
   simp only[opt,Value.func.injEq,r8,D6,Value.pointer.injEq,D3,Addr.mk.injEq,Value.complex.injEq,Value.int.injEq,A3u,true_and,and_true]at hx;obtain⟨rfl,⟨rfl,rfl⟩,rfl,rfl⟩:=hx;exact⟨h,ht⟩
 | pure hp=>subst hx;simp[opt,I2]at hp
 | _=>simp[ixp,Go.Sx.dat,Go.Sx.clp,Go.Sx.own,Go.Sx.dpt,Go.Sx.opt,Go.Sx.yv,Go.Sx.sdt]at hx
theorem B0t{b c tc g t i:Nat}{T:TypeId}{m1:Mem}{v':Value}(h:HR P base ρ m.H w)(hg:Hp.get m.H b=some (.sq c tc T g true))(hv:VR ρ (own b i t) v')(htc:tc=t)(hgf:Hp.get m.H g=some .frz)
  (hn:u9 m .frz (fun _=>undef)=some (undef,m1)) (hf:K4 ρ m.n m1.hi):∃ l,St P base ρ (upd ρ m.n l) m m1 w w∧upd ρ m.n l m.n=some l∧Hp.get m1.H m.n=some .frz∧Enc l.G (Ora.env c) v'∧L4 (Ora.env c)=t:=by
 obtain⟨hown,htag⟩:=A2X hv;rcases hown with⟨l,wd,h1,h2,h3,rfl⟩|⟨l,wd,rows,h1,h2,h3,h4,h40,rfl⟩
 ·obtain⟨hbr,_⟩:=h.atl h1 hg;obtain⟨wd2,inf,e1,e2,e3,e4⟩:=SqR.ex hbr;rcases e4 with⟨_,e4⟩|⟨e4,_⟩
  ·obtain⟨g1,g2,g3⟩:=St.region (G:=fun _=>none) h hn hf (fun k o hk=>by cases hk);exact⟨_,g3,g1,g2,by rw[e4];exact .nil,by rw[e4,← htc,e1];rfl⟩
  ·rw[h2]at e4;cases e4
 ·obtain⟨hbr,_⟩:=h.atl h1 hg;obtain⟨wd2,inf,e1,e2,e3,e4⟩:=SqR.ex hbr;rcases e4 with⟨e4,_⟩|⟨_,e4⟩
  ·rw[h2]at e4;cases e4
  ·obtain⟨C,fz,T',rows2,lg,f1,f2,f3,f4,f5,f6,f7,f8,f9⟩:=e4;obtain⟨hbg,_⟩:=h.atl f7 hgf;have hcomp:∀ k o,lg.G k=some o→w.heap[k]? = some o:=hbg.2;let G:Nat→Option Obj:=fun k=>if k=l.blk then some (.cells C T' fz)else lg.G k
   have hsub:∀ k o,lg.G k=some o→G k=some o:=fun k o hk=>by
    show(if k=l.blk then _ else _)=_;by_cases e:k=l.blk
    ·subst e;rw[if_pos rfl]
     have:=hcomp _ _ hk;rw[f1]at this;exact this
    ·rw[if_neg e];exact hk
   obtain⟨g1,g2,g3⟩:=St.region (G:=G) h hn hf fun k o hk=>by
    have hk:(if k=l.blk then some (.cells C T' fz)else lg.G k)=some o:=hk;by_cases e:k=l.blk
    ·subst e;rw[if_pos rfl]at hk;exact⟨by rw[f1];exact hk,b,_,l,h.dom _ _ h1,hg,h1,⟨rfl,.inl ⟨rfl,h2,rfl⟩⟩,rfl⟩
    ·rw[if_neg e]at hk;exact⟨hcomp _ _ hk,g,_,lg,h.dom _ _ f7,hgf,f7,⟨rfl,.inr ⟨rfl,o,hk⟩⟩,rfl⟩
   refine⟨_,g3,g1,g2,?_,by rw[f2,← htc,e1];rfl⟩;rw[f2,← f3];refine .sl (G:=G) (C:=C) (T:=T') (fz:=fz) (by omega) (fun _=>?_) (fun _=>?_) f6 fun r row j u v q1 q2 q3=>(f8 r row j u v q1 q2 q3).mono hsub
   ·show(if l.blk=l.blk then _ else _)=_;rw[if_pos rfl]
   ·have:=F2 wd2 f4;rw[← f3]at this;omega
theorem BR.thaw{c t g:Nat}{T:TypeId}{l:Loc}(h:BR P ρ (.sq c t T g false) l w):BR P ρ (.sq c t T g true) l w:=by
 obtain⟨wd,inf,h1,h2,h3,h4⟩:=SqR.ex h;refine⟨⟨wd,inf,h1,h2,h3,h4.imp (fun x=>x) fun⟨hon,h5⟩=>⟨hon,?_⟩⟩⟩;obtain⟨C,fz,T',rows,lg,h1,h2,h3,h4,h5,h6,h7,h8,h9⟩:=h5;exact⟨C,fz,T',rows,lg,h1,h2,h3,h4,h5,h6,h7,h8,fun h=>by cases h⟩
theorem A8b{id:Nat}{ab:AB}(h:A2m m id ab=some m'){j:Nat}(hj:j≤H3):Hp.get m'.H j=if j=id then some ab else Hp.get m.H j:=by
 obtain⟨hle,rfl⟩:=X6 h;exact E6 _ _ _ _ hle hj
theorem A4D{ab:AB}{k:Nat→Value}{v:Value}(h:u9 m ab k=some (v,m')){j:Nat}(hj:j≤H3):Hp.get m'.H j=if j=m.n then some ab else Hp.get m.H j:=by
 obtain⟨hle,_,rfl⟩:=M7 h;exact E6 _ _ _ _ hle hj
theorem B1P{t:Nat}{v v' x:Value}{b:Nat}(h:HR P base ρ m.H w)(ho:toD t v m=some (x,b,m'))(hf:K4 ρ m.n m'.hi)(hv:VR ρ v v')(hS:Sat m'.lg) :
  ∃ ρ' l,St P base ρ ρ' m m' w w∧ρ' b=some l∧Hp.get m'.H b=some .frz∧Enc l.G (F8 Ora.env x) v'∧L4 (F8 Ora.env x)=t∧m.lg.le m'.lg:=by
 unfold toD at ho;split at ho
 ·rename_i b0 i tg;obtain⟨h1,h2⟩:=A5 ho;cases h2;obtain⟨h1,h2⟩:=B8 h1;have h1:=A2 h1;obtain⟨l,e1,e2,e3,e4⟩:=A4y hv;exact⟨ρ,l,St.refl h,e1,A1e h2,e2,e3.trans h1,.refl _⟩
 ·rename_i b0 i tg;obtain⟨h1,h2⟩:=A5 ho;cases h2;obtain⟨h1,h2⟩:=B8 h1;have h1:=A2 h1;obtain⟨l,e1,e2,e3,e4,_⟩:=A2Y hv;exact⟨ρ,l,St.refl h,e1,A1e h2,e2,e3.trans h1,.refl _⟩
 ·rename_i b0 i tg;split at ho
  ·rename_i c tc T g hg;obtain⟨h1,h2⟩:=A5 ho;obtain⟨h1,h3⟩:=B8 h1;obtain⟨h1,h4⟩:=B8 h1;have h1:=A2 h1;have h4:=A2 h4;obtain⟨m1,q1,q2,_,_,q5⟩:=S2 h2;cases q2;subst h1;obtain⟨l,e1,e2,e3,e4,e5⟩:=B0t h hg hv h4 (A1e h3) q1 hf;exact⟨_,l,e1,e2,e3,e4,e5,by rw[q5];exact .refl _⟩
  ·rename_i c tc T g hg;obtain⟨h1,h2⟩:=A5 ho;obtain⟨h1,h3⟩:=B8 h1;have hgm:=B6S h3;obtain⟨h1,h4⟩:=B8 h1;have h1:=A2 h1;have h4:=A2 h4;split at h2
   ·rename_i m1 hs;obtain⟨m2,q1,q2,_,_,q5⟩:=S2 h2;cases q2;subst h1;have hbl:∃ l0,ρ b0=some l0:=by
     rcases(A2X hv).1 with⟨l,_,h1,_⟩|⟨l,_,_,h1,_⟩<;>exact⟨l,h1⟩
    obtain⟨l0,hl0⟩:=hbl;have hgl:=(h.atl hl0 hg).1;have hst:=St.same0 h hs hg rfl hl0 hgl.thaw (fun q hq=>by
     rcases hq with⟨_,a,b⟩|⟨a,_⟩
     ·exact .inl ⟨rfl,a,b⟩
     ·cases a)
    have hle:=(X6 hs).1;have hne:g≠b0:=fun e=>by subst e;rw[A1e h3]at hg;cases hg
    have hg1:Hp.get m1.H b0=some (.sq c tc T g true):=by rw[A8b hs hle,if_pos rfl]
    have hfz1:Hp.get m1.H g=some .frz:=by rw[A8b hs hgm,if_neg hne];exact A1e h3
    have hn1:m1.n=m.n:=by rw[(X6 hs).2]
    obtain⟨l,e1,e2,e3,e4,e5⟩:=B0t hst.hr hg1 hv h4 hfz1 q1 (by rw[hn1];exact hf);refine⟨_,l,St.trans hf hst e1,e2,e3,e4,e5,by rw[q5,(X6 hs).2];exact .refl _⟩
   ·cases h2
  ·cases ho
 ·obtain⟨h10,ho⟩:=A5 ho;have h10:=A1 h10;rw[S3]at ho;simp only at ho;obtain⟨m1,q1,q2,_,_,q5⟩:=S2 ho;cases q2;cases Q3 hv;have hlog:(m.wLg (A3c m t (.nilw (t-10)) [])).lg.le m'.lg:=by rw[q5];exact .refl _
  obtain⟨e1,e2,_⟩:=A5L hS hlog;have hst:=St.wLg h (A3c m t (.nilw (t-10)) []);obtain⟨g1,g2,g3⟩:=St.region (G:=fun _=>none) hst.hr q1 (by simpa using hf) (fun k o hk=>by cases hk);refine⟨_,_,St.trans (by simpa using hf) hst g3,g1,g2,?_,e2,m6.trans hlog⟩;show Enc _ (Ora.env m.lg.nx) _;rw[e1];exact .nil
 ·cases ho
end
end Go.Sx
namespace Go.Sx
set_option linter.all false
open Go
set_option linter.unusedVariables false
set_option linter.unusedSimpArgs false
variable [Ora]
section
variable {P:Program} {base:Nat} {ρ ρ':Ren} {m m':Mem} {w w':World}
def y5(ρ:Ren)(m m':Mem):Prop:=∀ j l,ρ j=some l→Hp.get m.H j=some .frz→Hp.get m'.H j=some .frz
theorem y5.refl:y5 ρ m m:=fun _ _ _ h=>h
theorem y5.trans{m1:Mem}(he:∀ b l,ρ b=some l→ρ' b=some l)(a:y5 ρ m m1)(c:y5 ρ' m1 m'):y5 ρ m m':=fun j l h1 h2=>c j l (he j l h1) (a j l h1 h2)
theorem y5.lg(lg:Lg):y5 ρ m (m.wLg lg):=fun j l _ h=>by rw[A5_];exact h
theorem B3e{ab:AB}{k:Nat→Value}{v:Value}(h:HR P base ρ m.H w)(hn:u9 m ab k=some (v,m'))(hf:K4 ρ m.n m'.hi):y5 ρ m m':=fun j l h1 h2=>by
 rw[A4D hn (h.dom j l h1),if_neg]
 ·exact h2
 ·intro e;subst e;obtain⟨_,_,rfl⟩:=M7 hn;rw[hf m.n (A7 _) (L1 _ _).2]at h1;cases h1
theorem B9W{ab:AB}{id:Nat}(h:HR P base ρ m.H w)(hs:A2m m id ab=some m')(hne:Hp.get m.H id≠some .frz):y5 ρ m m':=fun j l h1 h2=>by
 rw[A8b hs (h.dom j l h1),if_neg]
 ·exact h2
 ·intro e;subst e;exact hne h2
theorem B2j{t:Nat}{v x:Value}{b:Nat}(h:HR P base ρ m.H w)(ho:toD t v m=some (x,b,m'))(hf:K4 ρ m.n m'.hi):y5 ρ m m':=by
 unfold toD at ho;split at ho
 ·obtain⟨h1,h2⟩:=A5 ho;cases h2;exact .refl
 ·obtain⟨h1,h2⟩:=A5 ho;cases h2;exact .refl
 ·split at ho
  ·obtain⟨h1,h2⟩:=A5 ho;obtain⟨m1,q1,q2,_⟩:=S2 h2;cases q2;exact B3e h q1 hf
  ·rename_i c tc T g hg;obtain⟨h1,h2⟩:=A5 ho;split at h2
   ·rename_i m1 hs;obtain⟨m2,q1,q2,_⟩:=S2 h2;cases q2;have hk:=B9W h hs (by rw[hg];intro h;cases h);intro j l e1 e2;have e3:=hk j l e1 e2;rw[A4D q1 (h.dom j l e1),if_neg]
    ·exact e3
    ·intro e;subst e;have hn1:m1.n=m.n:=by rw[(X6 hs).2]
     obtain⟨_,_,rfl⟩:=M7 q1;rw[hf m1.n (by omega) (L1 _ _).2]at e1;cases e1
   ·cases h2
  ·cases ho
 ·obtain⟨h10,ho⟩:=A5 ho;rw[S3]at ho;simp only at ho;obtain⟨m1,q1,q2,_⟩:=S2 ho;cases q2;intro j l e1 e2;rw[A4D q1 (h.dom j l e1),if_neg,A5_]
  ·exact e2
  ·intro e;subst e;have hn1:(m.wLg (A3c m t (.nilw (t-10)) [])).n=m.n:=by simp
   obtain⟨_,_,rfl⟩:=M7 q1;rw[hf _ (by omega) (L1 _ _).2]at e1;cases e1
 ·cases ho
def n8(R:Nat→Option Obj)(us:List U)(vs:List Value):Prop:=us.length=vs.length∧∀ (i:Nat) (u:U) (v:Value),us[i]? = some u→vs[i]? = some v→Enc R u v
omit [Ora] in
theorem n8.nil{R:Nat→Option Obj}:n8 R [] []:=⟨rfl,fun i u v h=>by simp at h⟩
omit [Ora] in
theorem n8.cons{R:Nat→Option Obj}{u:U}{v:Value}{us:List U}{vs:List Value}(h:Enc R u v)(k:n8 R us vs):n8 R (u::us) (v::vs):=⟨by simp[k.1],fun i a b h1 h2=>by
 cases i with
 | zero=>simp at h1 h2;subst h1;subst h2;exact h
 | succ i=>exact k.2 i a b (by simpa using h1) (by simpa using h2)⟩
def Sub(G R:Nat→Option Obj):Prop:=∀ k o,G k=some o→R k=some o
theorem A2x{t:Nat}{v x:Value}{b:Nat}{m m':Mem}(ho:toD t v m=some (x,b,m')):m.hi≤m'.hi∧m.lg.le m'.lg∧m.n≤m'.n:=by
 have hfz:∀ {m m1:Mem},u9 m .frz (fun _=>undef)=some (undef,m1)→m.hi≤m1.hi∧m.lg.le m1.lg∧m.n≤m1.n:=fun hn=>by
  obtain⟨_,_,rfl⟩:=M7 hn;exact⟨(L1 _ _).1,.refl _,A0N _⟩
 unfold toD at ho;split at ho
 ·obtain⟨h1,h2⟩:=A5 ho;cases h2;exact⟨A7 _,.refl _,A7 _⟩
 ·obtain⟨h1,h2⟩:=A5 ho;cases h2;exact⟨A7 _,.refl _,A7 _⟩
 ·split at ho
  ·obtain⟨h1,h2⟩:=A5 ho;obtain⟨m1,q1,q2,_⟩:=S2 h2;cases q2;exact hfz q1
  ·obtain⟨h1,h2⟩:=A5 ho;split at h2
   ·rename_i m1 hs;obtain⟨m2,q1,q2,_⟩:=S2 h2;cases q2
    have:=hfz q1;obtain⟨_,rfl⟩:=X6 hs;exact this
   ·cases h2
  ·cases ho
 ·obtain⟨h10,ho⟩:=A5 ho;rw[S3]at ho;simp only at ho;obtain⟨m1,q1,q2,_⟩:=S2 ho;cases q2
  have:=hfz q1;exact⟨by simpa using this.1,m6.trans this.2.1,by simpa using this.2.2⟩
 ·cases ho
structure A9e (P:Program) (td:Td):Prop where
 ok:∀ {base:Nat} {ρ:Ren} {m m':Mem} {w:World} {t:Nat} {v v' x:Value} {b:Nat},HR P base ρ m.H w→td t v m=some (x,b,m')→K4 ρ m.n m'.hi→VR ρ v v'→Sat m'.lg →
  ∃ ρ' l,St P base ρ ρ' m m' w w∧ρ' b=some l∧Hp.get m'.H b=some .frz∧Enc l.G (F8 Ora.env x) v'∧L4 (F8 Ora.env x)=t∧m.lg.le m'.lg∧y5 ρ m m'
 mono:∀ {m m':Mem} {t:Nat} {v x:Value} {b:Nat},td t v m=some (x,b,m')→m.hi≤m'.hi∧m.lg.le m'.lg∧m.n≤m'.n
theorem B8N:A9e P toD:=⟨fun h ho hf hv hS=>let ⟨ρ',l,a1,a2,a3,a4,a5,a6⟩:=B1P h ho hf hv hS;⟨ρ',l,a1,a2,a3,a4,a5,a6,B2j h ho hf⟩,fun h=>A2x h⟩
theorem U6{td:Td}(htd:A9e P td):∀ {ts:List Nat} {vs xs:List Value} {gs:List Nat} {m m':Mem},A9n td ts vs m=some (xs,gs,m')→m.hi≤m'.hi∧m.lg.le m'.lg∧m.n≤m'.n
 | [],[],_,_,_,_,h=>by cases h;exact⟨A7 _,.refl _,A7 _⟩
 | t::ts,v::vs,xs,gs,m,m',ho=>by
   unfold A9n at ho;cases ht:Nat.blt t 10 with
   | true =>
     rw[ht]at ho;simp only[cond_true]at ho;obtain⟨h1,ho⟩:=A5 ho;split at ho
     ·rename_i hr;cases ho;exact U6 htd hr
     ·cases ho
   | false =>
     rw[ht]at ho;simp only[cond_false]at ho;split at ho
     ·rename_i hd;split at ho
      ·rename_i hr;cases ho;have a:=htd.mono hd;have b:=U6 htd hr;exact⟨B7 a.1 b.1,a.2.1.trans b.2.1,B7 a.2.2 b.2.2⟩
      ·cases ho
     ·cases ho
 | [],_::_,_,_,_,_,ho=>by cases ho
 | _::_,[],_,_,_,_,ho=>by cases ho
theorem A3K{td:Td}(htd:A9e P td):∀ {ts:List Nat} {vs vs' xs:List Value} {gs:List Nat} {m m':Mem} {ρ:Ren},HR P base ρ m.H w→A9n td ts vs m=some (xs,gs,m')→K4 ρ m.n m'.hi→LR ρ vs vs'→Sat m'.lg →
  ∃ ρ',St P base ρ ρ' m m' w w∧m.lg.le m'.lg∧y5 ρ m m'∧(∀ b ∈ gs,Hp.get m'.H b=some .frz∧∃ l,ρ' b=some l)∧(xs.map (F8 Ora.env)).map L4=ts ∧
   ∀ R,(∀ b ∈ gs,∀ l,ρ' b=some l→Sub l.G R)→n8 R (xs.map (F8 Ora.env)) vs'
 | [],[],vs',xs,gs,m,m',ρ,h,ho,hf,hv,hS=>by
   cases ho;exact⟨ρ,St.refl h,.refl _,.refl,fun b hb=>(by cases hb),rfl,fun R _=>by rw[hv.nil_inv];exact .nil⟩
 | t::ts,v::vs,vs',xs,gs,m,m',ρ,h,ho,hf,hv,hS=>by
   obtain⟨v',r',rfl,hv1,hv2⟩:=hv.tail;unfold A9n at ho;cases ht:Nat.blt t 10 with
   | true =>
     rw[ht]at ho;simp only[cond_true]at ho;obtain⟨h1,ho⟩:=A5 ho;have h1:=A2 h1;have h10:t<10:=A1 ht;split at ho
     ·rename_i r gs2 m2 hr;cases ho;obtain⟨ρ2,e1,e2,e3,e4,e5,e6⟩:=A3K htd h hr hf hv2 hS;obtain⟨f1,f2⟩:=A01 hv1 (by omega);exact⟨ρ2,e1,e2,e3,e4,by simp[f2,h1,e5],fun R hR=>.cons (.sc f1) (e6 R hR)⟩
     ·cases ho
   | false =>
     rw[ht]at ho;simp only[cond_false]at ho;split at ho
     ·rename_i hh b m1 hd;split at ho
      ·rename_i r gs2 m2 hr;cases ho;have hmono:m1.hi≤m'.hi∧m1.lg.le m'.lg∧m1.n≤m'.n:=U6 htd hr;have hf1:K4 ρ m.n m1.hi:=hf.less hmono.1;obtain⟨ρ1,l,a1,a2,a3,a4,a5,a6,a7⟩:=htd.ok h hd hf1 hv1 (hS.le hmono.2.1);have hf2:K4 ρ1 m1.n m'.hi:=hf.step a1;obtain⟨ρ2,e1,e2,e3,e4,e5,e6⟩:=A3K htd a1.hr hr hf2 (hv2.mono a1.ext) hS;refine⟨ρ2,St.trans hf a1 e1,a6.trans e2,a7.trans a1.ext e3,fun b' hb'=>?_,by simp[a5,e5],fun R hR=>.cons (a4.mono (hR b (.head _) l (e1.ext _ _ a2))) (e6 R fun b' hb'=>hR b' (.tail _ hb'))⟩;rcases C5.1 hb' with rfl|hb'
       ·exact⟨e3 _ l a2 a3,l,e1.ext _ _ a2⟩
       ·exact e4 b' hb'
      ·cases ho
     ·cases ho
 | [],_::_,_,_,_,_,_,_,_,ho,_,_,_=>by cases ho
 | _::_,[],_,_,_,_,_,_,_,ho,_,_,_=>by cases ho
theorem A15{gs:List Nat}{g:Nat}(h:HR P base ρ m.H w)(ho:A3p gs m=some (g,m'))(hf:K4 ρ m.n m'.hi) :
  ∃ ρ' lg,St P base ρ ρ' m m' w w∧m'.lg=m.lg∧y5 ρ m m'∧ρ' g=some lg∧Hp.get m'.H g=some .frz∧∀ b ∈ gs,∀ l,ρ b=some l→Sub l.G lg.G:=by
 have main:∀ {gs:List Nat},(bif gs.all (A5m m)then match A2o m fun b m=>some (undef,b,m)with
  | some (_,b,m)=>some (b,m)
  | none=>none else none)=some (g,m')→∃ ρ' lg,St P base ρ ρ' m m' w w∧m'.lg=m.lg∧y5 ρ m m'∧ρ' g=some lg∧Hp.get m'.H g=some .frz∧∀ b ∈ gs,∀ l,ρ b=some l→Sub l.G lg.G:=fun{gs} ho=>by
  obtain⟨h1,ho⟩:=A5 ho;split at ho
  ·rename_i r b m1 hn;cases ho;obtain⟨m2,q1,q2,_,_,q5⟩:=S2 hn;cases q2;have hall:∀ b ∈ gs,Hp.get m.H b=some .frz:=fun b hb=>A1e (E0.1 h1 b hb)
   classical
   let G:Nat→Option Obj:=fun k=>if ∃ b ∈ gs,∃ l o,ρ b=some l∧l.G k=some o then w.heap[k]? else none
   obtain⟨g1,g2,g3⟩:=St.region (G:=G) h q1 hf fun k o hk=>by
    have hk:(if ∃ b ∈ gs,∃ l o,ρ b=some l∧l.G k=some o then w.heap[k]? else none)=some o:=hk;split at hk
    ·rename_i hex;obtain⟨b,hb,l,o2,e1,e2⟩:=hex;exact⟨hk,b,_,l,h.dom _ _ e1,hall b hb,e1,⟨rfl,.inr ⟨rfl,o2,e2⟩⟩,rfl⟩
    ·cases hk
   refine⟨_,A3w G,g3,q5,B3e h q1 hf,g1,g2,fun b hb l hl k o hk=>?_⟩;show(if ∃ b ∈ gs,∃ l o,ρ b=some l∧l.G k=some o then w.heap[k]? else none)=_;rw[if_pos ⟨b,hb,l,o,hl,hk⟩];exact(h.atl hl (hall b hb)).1.2 k o hk
  ·cases ho
 unfold A3p at ho;split at ho
 ·rename_i g0;obtain⟨h1,ho⟩:=A5 ho;cases ho;obtain⟨l,hl⟩:=B9i h h1;refine⟨ρ,l,St.refl h,rfl,.refl,hl,A1e h1,fun b hb l2 hl2=>?_⟩;rcases C5.1 hb with rfl|hb
  ·rw[hl]at hl2
   have:=A8 hl2;subst this;exact fun _ _ h=>h
  ·cases hb
 ·exact main ho
omit [Ora] in
theorem A42{R:Nat→Option Obj}{u:U}{v r:Value}(h:Enc R u v)(hr:toV u=some r):v=r:=by
 cases h with
 | sc h=>rw[h]at hr;exact A8 hr
 | nil=>cases hr
 | emp=>cases hr
 | sl=>cases hr
omit [Ora] in
theorem A4U{R:Nat→Option Obj}{u:U}{v:Value}(h:Enc R u v):A0n v=true:=by
 cases h with
 | sc h=>have:=A2w h;cases v<;>first|rfl|cases this
 | nil=>rfl
 | emp=>rfl
 | sl=>rfl
theorem C2G{wd o k:Nat}{rows:List (List U)}{kk:IntKind}:evU (.get wd o) [.seq false wd rows,.int kk (.ofNat k)]=(rows.getD k []).getD o .none:=by
 simp[evU]
theorem getD_some{row:List U}{o:Nat}(h:row.getD o .none≠.none):row[o]? = some (row.getD o .none):=by
 rw[B3]at *;cases e:row[o]? with
 | none=>rw[e]at h;exact absurd rfl h
 | some u=>rfl
theorem A2Z{wd o i t g k:Nat}{z:Value}{lg:Loc}{rows:List (List U)}{cell:Nat→Option Value}(hi:Ora.env i=.seq false wd rows)(hz:A50 Ora.env z=some (.ofNat k))(hg:ρ g=some lg)
  (hc:∀ q u,(rows.getD k [])[q]? = some u→∃ v,cell q=some v∧Enc lg.G u v) :
  ∀ {ts:List Nat} {j:Nat} {m m':Mem} {r:List Value},Z9 wd o i t z g ts j m=some (r,m')→Sat m'.lg→∃ r',LR ρ r r'∧r'.length=ts.length∧(∀ q v',r'[q]? = some v'→cell (o+j+q)=some v')∧J9 m m'∧m.lg.le m'.lg
 | [],j,m,m',r,h,hS=>by
   cases h;exact⟨[],.nil,rfl,fun q v' h=>by simp at h,.refl _,.refl _⟩
 | tg::ts,j,m,m',r,h,hS=>by
   unfold Z9 at h;obtain⟨kk,hz2⟩:=B2M hz;have harg:[hole i t,z].map (F8 Ora.env)=[.seq false wd rows,.int kk (.ofNat k)]:=by
    simp only[F9,I3,hz2];show[Ora.env i,_]=_;rw[hi]
   have hcell:∀ {u:U},u≠.none→evU (.get wd (o+j)) ([hole i t,z].map (F8 Ora.env))=u→∃ v,cell (o+j)=some v∧Enc lg.G u v:=fun{u} hu he=>by
    rw[harg,C2G]at he;subst he;exact hc _ _ (getD_some hu)
   cases ht:Nat.blt tg 10 with
   | true =>
     rw[ht]at h;simp only[cond_true]at h;have h10:tg<10:=A1 ht;split at h
     ·rename_i hh m1 hl;split at h
      ·rename_i r2 m2 hr;cases h;obtain⟨r',e1,e2,e3,e4,e5⟩:=A2Z hi hz hg hc hr hS;obtain⟨u,f1,f2,v,f3,f4,f5⟩:=N0 hl (hS.le e5);obtain⟨v2,g1,g2⟩:=hcell (u:=u) (by intro e;subst e;cases f3) f1
       have:=A42 g2 f3;subst this;refine⟨v2::r',.cons (f4 ρ) e1,by simp[e2],fun q v' hq=>?_,(I7 hl).trans e4,(J5 hl).trans e5⟩;cases q with
       | zero=>simp at hq;subst hq;exact g1
       | succ q=>rw[show o+j+(q+1)=o+(j+1)+q by omega];exact e3 q v' (by simpa using hq)
      ·cases h
     ·cases h
   | false =>
     rw[ht]at h;simp only[cond_false]at h;rw[B3Z]at h;split at h
     ·rename_i r2 m2 hr;cases h;obtain⟨r',e1,e2,e3,e4,e5⟩:=A2Z hi hz hg hc hr hS;obtain⟨f1,f2,nul,wd2,rows2,f3,f4⟩:=A5L hS e5;obtain⟨v2,g1,g2⟩:=hcell (u:=Ora.env m.lg.nx) (by rw[f3];intro h;cases h) f1.symm;refine⟨v2::r',.cons (.dat hg g2 f2 (by omega) (A4U g2)) e1,by simp[e2],fun q v' hq=>?_,J9.trans ⟨_,rfl⟩ e4,m6.trans e5⟩;cases q with
      | zero=>simp at hq;subst hq;exact g1
      | succ q=>rw[show o+j+(q+1)=o+(j+1)+q by omega];exact e3 q v' (by simpa using hq)
     ·cases h
theorem A3L{t:TypeId}{ts:List Nat}(h:A5Q P t=some ts):G7 P t=some ts.length:=by
 unfold A5Q at h;split at h
 ·rename_i l n h1 h2;obtain⟨h3,h⟩:=A5 h;cases h;rw[h2,A2 h3]
 ·cases h
theorem B1E{t:TypeId}{ts:List Nat}{r r':List Value}{v:Value}{b o:Nat}(hts:A5Q P t=some ts)(ha:A4Z P t (some (r,m))=some (v,m'))(hl:LR ρ r r')(hn:r'.length=ts.length)
  (hc:∀ q v',r'[q]? = some v'→w.cell? ⟨b,o+q,none⟩=some v'):m'=m∧∃ v',(Instr.loadAt t (.pointer (some ⟨b,o,none⟩))).run P w=.ok v' w∧VR ρ v v':=by
 unfold A4Z at ha;split at ha
 ·rename_i hag heq;cases ha;cases heq;obtain⟨v',r2,rfl,e1,e2⟩:=hl.tail;refine⟨rfl,v',?_,e1⟩
  have:=hc 0 v' rfl;simp[Instr.loadAt,Instr.sureAddr,loadVar,Sem.run_bind,A03 hag,Result.andThen,run_load,show w.cell? ⟨b,o,none⟩=some v' from by simpa using this]
 ·rename_i hag heq;cases ha;cases heq;refine⟨rfl,.agg ⟨r'⟩,?_,.agg hl.1 hl.2⟩;have hsz:G7 P t=some r'.length:=by rw[hn];exact A3L hts
  simp[Instr.loadAt,Instr.sureAddr,loadVar,Sem.run_bind,A03 hag,K8 hsz,Result.andThen,J8 rfl hc]
 ·cases ha
theorem B9L{t:TypeId}{x x' v:Value}(h:HR P base ρ m.H w)(ho:B3X P m t x=some (v,m'))(hx:VR ρ x x')(hS:Sat m'.lg):(∃ r,(Instr.loadAt t x').run P w=.ok r w∧VR ρ v r)∧J9 m m'∧m.lg.le m'.lg:=by
 have hmm:∀ {r:Option (List Value×Mem)},A4Z P t r=some (v,m')→∃ vs,r=some (vs,m'):=fun{r} ha=>by
  unfold A4Z at ha;split at ha
  ·cases ha;exact⟨_,rfl⟩
  ·cases ha;exact⟨_,rfl⟩
  ·cases ha
 unfold B3X at ho;split at ho
 ·rename_i b i tg z o ts hts;obtain⟨h1,ho⟩:=A5 ho;obtain⟨⟨l,wd,rows,a,s,c,k,e1,e2,e3,e4,e5,e6,rfl⟩,e8⟩:=B1s hx;obtain⟨vs,hr⟩:=hmm ho;rw[hr]at ho;have htg:tg-10=wd:=by rw[← e8,e2];simp[L4]
  rw[htg]at hr;have hbg:=(h.atl e1 (A1e h1)).1.2;rw[e2]at e3;obtain⟨C,T,fz,f1,f2,f3,f4⟩:∃ C T fz,l.G a=some (.cells C T fz)∧s+rows.length*wd≤C.size∧(∀ row ∈ rows,row.length=wd)∧∀ (r:Nat) (row:List U) (j:Nat) (u:U) (v:Value),rows[r]? = some row→row[j]? = some u→C[s+r*wd+j]? = some v→Enc l.G u v:=by
   have hne:rows≠[]:=by intro e;subst e;simp at e5
   cases e3 with
   | sc h=>cases h
   | emp=>exact absurd rfl hne
   | sl hc hg hz hw hh=>exact⟨_,_,_,hg hne,hz hne,hw,hh⟩
  have hheap:=hbg _ _ f1;have hrow:rows[k]? = some rows[k]:=A6 e5;obtain⟨r',g1,g2,g3,g4,g5⟩:=A2Z (cell:=fun q=>w.cell? ⟨a,s+k*wd+q,none⟩) e2 e4 e1 (fun q u hq=>by
   rw[B3,hrow]at hq;have hq:rows[k][q]? = some u:=hq;have hql:=(A9.1 hq).1;rw[f3 _ (E1 hrow)]at hql;have hk:(k+1)*wd≤rows.length*wd:=F2 wd e5;rw[H1]at hk;have hlt:s+k*wd+q<C.size:=by omega
   refine⟨C[s+k*wd+q],?_,f4 k _ q u _ hrow hq (I6 hlt)⟩;simp[World.cell?,hheap,I6 hlt]) hr hS
  obtain⟨_,q1⟩:=B1E (w:=w) (b:=a) (o:=s+k*wd+o) hts ho g1 g2 (fun q v' hq=>by
   have:=g3 q v' hq;rw[show s+k*wd+o+q=s+k*wd+(o+0+q) by omega];exact this)
  exact⟨q1,g4,g5⟩
 ·rename_i b i tg z o ts hts;split at ho
  ·rename_i c tc T g ro hg;obtain⟨h1,ho⟩:=A5 ho;have h1:=A2 h1;subst h1;obtain⟨⟨l,wd,A8f,k,e1,e2,e3,e4,e5,e6,rfl⟩,e8⟩:=A8F hx;obtain⟨vs,hr⟩:=hmm ho;rw[hr]at ho;obtain⟨wd2,inf,d1,d2,d3,d4⟩:=SqR.ex (h.atl e1 hg).1;rcases d4 with⟨d4,_⟩|⟨_,d4⟩
   ·rw[e2]at d4;cases d4
   obtain⟨C,fz,T',rows,lg,f1,f2,f3,f4,f5,f6,f7,f8,f9⟩:=d4;have htg:tc-10=wd2:=by omega
   rw[htg]at hr;have hkl:k<rows.length:=by omega
   have hrow:rows[k]? = some rows[k]:=A6 hkl;have hwd:wd=wd2:=by
    have:L4 (Ora.env i)=10+wd:=by rw[e3];rfl
    omega
   subst hwd;obtain⟨r',g1,g2,g3,g4,g5⟩:=A2Z (cell:=fun q=>w.cell? ⟨l.blk,l.sh+k*wd+q,none⟩) f2 e4 f7 (fun q u hq=>by
    rw[B3,hrow]at hq;have hq:rows[k][q]? = some u:=hq;have hql:=(A9.1 hq).1;rw[f6 _ (E1 hrow)]at hql;have hk:(k+1)*wd≤l.cap*wd:=F2 wd (by omega);rw[H1]at hk;have hlt:l.sh+k*wd+q<C.size:=by omega
    refine⟨C[l.sh+k*wd+q],?_,f8 k _ q u _ hrow hq (I6 hlt)⟩;simp[World.cell?,f1,I6 hlt]) hr hS
   obtain⟨_,q1⟩:=B1E (w:=w) (b:=l.blk) (o:=l.sh+k*wd+o) hts ho g1 g2 (fun q v' hq=>by
    have:=g3 q v' hq;rw[show l.sh+k*wd+o+q=l.sh+k*wd+(o+0+q) by omega];exact this)
   exact⟨q1,g4,g5⟩
  ·cases ho
 ·cases ho
end
end Go.Sx
