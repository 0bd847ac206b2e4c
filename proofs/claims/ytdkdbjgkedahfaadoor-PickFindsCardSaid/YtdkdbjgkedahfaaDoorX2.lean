/- The law PickFinds: for every input the call returns true, and the arguments read behind it as they read before. No condition. -/
import Derived.Test.YtdkdbjgkedahfaaDoorX1
namespace Go.Sx
set_option linter.all false
open Go
set_option linter.unusedVariables false
set_option linter.unusedSimpArgs false
variable [Ora]
section
variable {P:Program} {base:Nat} {ρ:Ren} {m m':Mem} {w:World}
theorem A9l{e:TypeId}(hc:P.cellsOf e=1)(count off n:Nat)(hn:off+n≤count):liesAt P P.depth e count off e n=true:=by
 have hd:P.depth=(2*(P.types.size+Made.depth)+1)+1:=rfl;rw[hd];simp only[liesAt,K1];left
 rw[hd];simp[rowAt,hc,hn,sameLayout,Nat.mod_one]
theorem A2N:∀ (ns:List Int) (b o:Nat) (acc:ByteArray),(∀ (j:Nat) (v:Value),(ns.map (Value.int .u8))[j]? = some v→w.cell? ⟨b,o+j,none⟩=some v) →
  (loadBytes ⟨b,o,none⟩ acc ns.length).run P w=.ok ⟨acc.data++(ns.map fun n=>UInt8.ofNat n.toNat).toArray⟩ w
 | [],b,o,acc,_=>by simp[loadBytes]
 | n::ns,b,o,acc,h=>by
   have h0:w.cell? ⟨b,o,none⟩=some (.int .u8 n):=by simpa using h 0 _ rfl
   have ih:=A2N ns b (o+1) (acc.push n.toNat.toUInt8) (fun j v hj=>by
    have:=h (j+1) v (by simpa using hj);rw[show o+1+j=o+(j+1) by omega];exact this)
   simp only[A3,loadBytes,Sem.run_bind,run_load,h0,Result.andThen,s9];rw[ih];have:(acc.push n.toNat.toUInt8).data=acc.data.push n.toNat.toUInt8:=rfl;rw[this];congr 2
   apply K8;simp
theorem B0W{pt ty:TypeId}{tys:List TypeId}{p l p' l' v:Value}(h:HR P base ρ m.H w)(ho:A2J P m pt p l=some (v,m'))(hp:VR ρ p p')(hl:VR ρ l l') :
  VOk P base ρ m w (Builtin.unsafeString_ ⟨pt::tys⟩ ty #[p',l']) v m':=by
 have hmax:IntKind.i64.max=9223372036854775807:=rfl;unfold A2J at ho;split at ho
 ·cases hp with|pure _=>?_
  cases K9 hl;cases ho;refine VOk.same h (v':=.string ByteArray.empty) ?_ (.pure rfl);rename_i k _;have hdef:Builtin.unsafeString_ ⟨pt::tys⟩ ty #[.pointer none,.int k (.ofNat 0)] =
    (do
      let n ← asInt (.int k (.ofNat 0))
      if n<0 then runtimePanic (.error "unsafe.String: len out of range")
      if n>IntKind.i64.max then unsupported (.unsafePointer "String: a length above the largest int")
      if n=0 then pure (.string .empty)
      else runtimePanic (.error "unsafe.String: ptr is nil and len is not zero")):=rfl
  rw[hdef];simp[asInt,asIntOf,hmax]
 ·rename_i a k n;cases K9 hl;obtain⟨lc,hlc,hsp,rfl⟩:=S6 hp;split at ho
  ·rename_i cs T hspot hg;split at ho
   ·rename_i e hpt hT;obtain⟨q,ho⟩:=A5 ho;obtain⟨q,q3⟩:=D2 q;obtain⟨q1,q2⟩:=D2 q;have q1:0<n:=A1 q1;have q2:=A1 q2;have q3:=A2 q3;subst q3;split at ho
    ·rename_i r hr;split at ho
     ·rename_i bs m2 hbs A4K;cases ho;obtain⟨ns,h1,h2⟩:=A6I hbs;have hread:A0l m a n=some r:=by
       unfold A0l;rw[hspot,hg];exact hr
      obtain⟨r',g1,g2,g3⟩:=y0 h hread hlc;rw[h1]at g1;have hr':=A66 g1;subst hr';obtain⟨⟨hon,C,fz,T',z2,z3,z4⟩,z5⟩:=h.atl hlc hg;have z2:w.heap[lc.blk]? = some (.cells C e fz):=by rw[z2,(z4 rfl).1]
      have hnl:ns.length=n:=by simpa using g2
      have hcell:P.cellsOf e=1:=by
       unfold H8 at hT;unfold Program.cellsOf;cases hi:P.info? e with
       | none=>rw[hi]at hT;cases hT
       | some i=>rw[hi]at hT;have:=A8 hT;simp[this]
      have hin:a.off+lc.sh+n≤C.size:=by
       have hlast:=g3 (n-1) (.int .u8 ns[n-1]) (by simp[hnl]);simp only[World.cell?,z2]at hlast
       have:=(E1.1 (by simpa using hlast)).1;omega
      have hlb:=A2N (P:=P) (w:=w) ns lc.blk (a.off+lc.sh) .empty g3;rw[hnl]at hlb;have hsh:w.shape? lc.blk=some (e,C.size):=by simp[World.shape?,z2]
      have hlies:=A9l (P:=P) hcell (C.size / P.cellsOf e) (a.off+lc.sh) n (by rw[hcell];simpa using hin);have hdef:Builtin.unsafeString_ ⟨pt::tys⟩ ty #[.pointer (some ⟨lc.blk,a.off+lc.sh,none⟩),.int k (.ofNat n)] =
       (do
         let n ← asInt (.int k (.ofNat n))
         if n<0 then runtimePanic (.error "unsafe.String: len out of range")
         if n>IntKind.i64.max then unsupported (.unsafePointer "String: a length above the largest int")
         if n=0 then pure (.string .empty)
         else if ← variablesAt ⟨lc.blk,a.off+lc.sh,none⟩ (← elemOf pt) n.toNat then do
          let s ← loadBytes ⟨lc.blk,a.off+lc.sh,none⟩ .empty n.toNat
          freeze ⟨lc.blk,a.off+lc.sh,none⟩ n.toNat
          pure (.string s)
         else unsupported (.unsafePointer "String: not so many bytes at ptr")):=rfl
      have e1:Int.ofNat n=(n:Int):=rfl;have hneg:¬ (n:Int)<0:=by omega
      have hbig:¬ (9223372036854775807:Int)<(n:Int):=by omega
      have hz:¬ (n:Int)=0:=by omega
      have hz2:n≠0:=by omega
      refine⟨.string ⟨⟨bs⟩⟩,ρ,w.freeze ⟨lc.blk,a.off+lc.sh,none⟩ n,?_,.pure rfl,St.write h A4K hg rfl hlc hon ?_ ?_ ?_ ?_⟩
      ·rw[hdef];simp[asInt,asIntOf,hmax,e1,hneg,hbig,hz,hz2,variablesAt,hsh,elemOf,E3 hpt,hlies,hlb,freeze,Sem.run,Sem.run_bind,Result.andThen,h2]
      ·simp[World.freeze,hz2]
      ·simp[World.freeze,hz2]
      ·intro j hj;simp only[World.freeze,hz2,if_false,L2];rw[if_neg (fun e=>hj e.symm)]
      ·refine⟨hon,C,(if fz.1 == fz.2 then(a.off+lc.sh,a.off+lc.sh+n)else(min fz.1 (a.off+lc.sh),max fz.2 (a.off+lc.sh+n))),e,?_,z3,fun hc=>by cases hc⟩;simp only[World.freeze,hz2,if_false,L2,if_true,z2,S2]
     ·cases ho
    ·cases ho
   ·cases ho
  ·cases ho
 ·cases ho
theorem B4p{b:Builtin}{vs vs':List Value}{tys:List TypeId}{ty:TypeId}{ks:Array Bool}{v:Value}(h:HR P base ρ m.H w)(hb:base≤w.heap.size)(ho:A3W P m b vs tys=some (v,m'))(hf:M6 ρ m.n m'.hi)(hx:LR ρ vs vs') :
  ∃ s:Sem Value,builtin b ⟨tys⟩ ty ks ⟨vs'⟩=(do pure (.value (← s)))∧VOk P base ρ m w s v m':=by
 unfold A3W at ho;split at ho
 ·obtain⟨x',r1,rfl,h1,h2⟩:=hx.tail;cases h2.nil_inv;unfold noM at ho;split at ho
  ·rename_i u hu;cases ho;obtain⟨g1,g2⟩:=B6r h hu h1;exact⟨_,rfl,VOk.same h g1 (.pure g2)⟩
  ·cases ho
 ·obtain⟨x',r1,rfl,h1,h2⟩:=hx.tail;cases h2.nil_inv;unfold noM at ho;split at ho
  ·rename_i u hu;cases ho;obtain⟨g1,g2⟩:=C4K hu h1 w;exact⟨_,rfl,VOk.same h g1 (.pure g2)⟩
  ·cases ho
 ·obtain⟨x',r1,rfl,h1,h2⟩:=hx.tail;obtain⟨y',r2,rfl,h3,h4⟩:=h2.tail;cases h4.nil_inv;rename_i t t2 rest;refine⟨Builtin.append_ ⟨t::t2::rest⟩ ty #[x',y'],rfl,?_⟩
  have:=B52 (ty:=ty) h hb ho hf h1 h3;have e:Builtin.append_ ⟨t::t2::rest⟩ ty #[x',y']=Builtin.append_ #[t,t2] ty #[x',y']:=rfl;rw[e];exact this
 ·obtain⟨x',r1,rfl,h1,h2⟩:=hx.tail;obtain⟨y',r2,rfl,h3,h4⟩:=h2.tail;cases h4.nil_inv;exact⟨_,rfl,C1U h ho h1 h3⟩
 ·unfold noM at ho;split at ho
  ·rename_i u hu;cases ho;obtain⟨g1,g2⟩:=B6i (P:=P) (ty:=ty) (tys:=⟨tys⟩) hu hx w;exact⟨_,rfl,VOk.same h g1 (.pure g2)⟩
  ·cases ho
 ·unfold noM at ho;split at ho
  ·rename_i u hu;cases ho;obtain⟨g1,g2⟩:=B6g (P:=P) (ty:=ty) (tys:=⟨tys⟩) hu hx w;exact⟨_,rfl,VOk.same h g1 (.pure g2)⟩
  ·cases ho
 ·obtain⟨x',r1,rfl,h1,h2⟩:=hx.tail;cases h2.nil_inv;exact⟨_,rfl,B0h h ho h1⟩
 ·obtain⟨x',r1,rfl,h1,h2⟩:=hx.tail;obtain⟨y',r2,rfl,h3,h4⟩:=h2.tail;cases h4.nil_inv;exact⟨_,rfl,B0W h ho h1 h3⟩
 ·cases ho
def NOk(P:Program)(base:Nat)(ρ:Ren)(m:Mem)(w:World)(s:Sem Next)(v:Value)(m':Mem):Prop :=
 ∃ v' ρ' w',(s.run P w=.ok (.value v') w'∨(s.run P w=.ok .skip w'∧v'=undef))∧VR ρ' v v'∧St P base ρ ρ' m m' w w'
theorem NOk.of{s:Sem Value}{v:Value}(h:VOk P base ρ m w s v m'):NOk P base ρ m w (do pure (.value (← s))) v m':=by
 obtain⟨v',ρ',w',h1,h2,h3⟩:=h;exact⟨v',ρ',w',.inl (by simp[Sem.run_bind,h1,Result.andThen]),h2,h3⟩
theorem A6W(ρ:Ren):VR ρ undef undef:=.tuple (a:=[]) (a':=[]) rfl (fun i v v' h=>by simp at h)
theorem NOk.ofU{s:Sem Unit}(h:UOk P base ρ m w s m'):NOk P base ρ m w (do s;pure .skip) undef m':=by
 obtain⟨ρ',w',h1,h3⟩:=h;exact⟨undef,ρ',w',.inr ⟨by simp[Sem.run_bind,h1,Result.andThen],rfl⟩,A6W _,h3⟩
theorem NOk.same{s:Sem Value}{v v':Value}(h:HR P base ρ m.H w)(hr:s.run P w=.ok v' w)(hv:VR ρ v v'):NOk P base ρ m w (do pure (.value (← s))) v m:=NOk.of (VOk.same h hr hv)
def FR(ρ:Ren)(fr:Fr)(g:Operand→Value)(o:Op):Prop:=∀ x ∈ o.operands.toList,VR ρ (ev fr x) (g x)
theorem A0O{o:Option Value}{v:Value}(h:noM o m=some (v,m')):o=some v∧m'=m:=by
 unfold noM at h;split at h
 ·cases h;exact⟨rfl,rfl⟩
 ·cases h
theorem A5I{o:Option Mem}{v:Value}(h:C3t o=some (v,m')):o=some m'∧v=undef:=by
 unfold C3t at h;split at h
 ·cases h;exact⟨rfl,rfl⟩
 ·cases h
theorem A2d{fr:Fr}{g:Operand→Value}:∀ {xs:List Operand},(∀ x ∈ xs,VR ρ (ev fr x) (g x))→LR ρ (evL fr xs) (xs.map g)
 | [],_=>.nil
 | x::r,h=>.cons (h x D0) (A2d fun y hy=>h y (D7 _ hy))
theorem B5r{fr:Fr}{g:Operand→Value}:∀ {xs:List (Nat×Operand)},(∀ x ∈ xs.map (·.2),VR ρ (ev fr x) (g x))→PR ρ (evP fr xs) (xs.map fun x=>(x.1,g x.2))
 | [],_=>trivial
 | (i,x)::r,h=>⟨rfl,h x (by simp),B5r fun y hy=>h y (by simp at hy ⊢;exact .inr hy)⟩
theorem A3x{fr:Fr}{g:Operand→Value}{x:Option Operand}(h:∀ y ∈ x.toList,VR ρ (ev fr y) (g y)):OR ρ (evO fr x) (x.map g):=by
 cases x with
 | none=>trivial
 | some y=>exact h y (by simp)
set_option maxHeartbeats 1000000 in
theorem C8k{fr:Fr}{g:Operand→Value}{o:Oper}{v:Value}(h:HR P base ρ m.H w)(hb:base≤w.heap.size)(ho:opM P fr m o.op=some (v,m'))(hf:M6 ρ m.n m'.hi)(hg:FR ρ fr g o.op) :
  NOk P base ρ m w (execOp g o) v m':=by
 obtain⟨dst,op,ty,pos,af,gd⟩:=o;simp only at ho hg;have hx1:∀ {x},x ∈ op.operands.toList→VR ρ (ev fr x) (g x):=fun hx=>hg _ hx
 unfold opM at ho;split at ho
 ·cases ho;exact⟨_,ρ,w,.inl rfl,hx1 (by simp[Op.operands]),.refl h⟩
 ·cases ho;exact⟨_,ρ,w,.inl rfl,hx1 (by simp[Op.operands]),.refl h⟩
 ·rename_i c a b;have hc:=hx1 (x:=c) (by simp[Op.operands]);unfold B6Y at ho;split at ho
  ·rename_i hcv;rw[hcv]at hc;cases ho;exact⟨g a,ρ,w,.inl (by simp[execOp,A1g hc,asBool]),hx1 (by simp[Op.operands]),.refl h⟩
  ·rename_i hcv;rw[hcv]at hc;cases ho;exact⟨g b,ρ,w,.inl (by simp[execOp,A1g hc,asBool]),hx1 (by simp[Op.operands]),.refl h⟩
  ·cases ho
 ·exact NOk.of (B77 h hb ho hf)
 ·exact NOk.of (C3i h hb ho hf (hx1 (by simp[Op.operands])))
 ·rename_i t ps;obtain⟨h1,rfl⟩:=A0O ho;obtain⟨v',h2,h3⟩:=B8R h1 (B5r (g:=g) (fun x hx=>hx1 (by simpa [Op.operands]using hx))) w;have e:(ps.map fun(i,x)=>(i,g x))=⟨ps.toList.map fun x=>(x.1,g x.2)⟩:=by apply K8;simp
  exact NOk.same (s:=Instr.build t (ps.map fun(i,x)=>(i,g x))) h (by rw[e];exact h2) h3
 ·rename_i t n ps
  have:=B0G h hb ho hf (B5r (g:=g) (fun x hx=>hx1 (by simpa [Op.operands]using hx)));have e:(ps.map fun(i,x)=>(i,g x))=⟨ps.toList.map fun x=>(x.1,g x.2)⟩:=by apply K8;simp
  refine NOk.of (s:=Instr.buildSlice t n (ps.map fun(i,x)=>(i,g x))) ?_;rw[e];exact this
 ·rename_i t x;have hx:=hx1 (x:=x) (by simp[Op.operands]);unfold B6Z at ho;split at ho
  ·rename_i a hev;rw[hev]at hx;obtain⟨l,hl,hsp,hgx⟩:=S6 hx;obtain⟨h1,rfl⟩:=A0O ho;obtain⟨v',h2,h3⟩:=B4A h h1 hl;refine NOk.same (s:=Instr.loadAt t (g x)) h ?_ h3;rw[hgx]
   simpa [Instr.loadAt,Instr.sureAddr]using h2
  ·cases ho
 ·rename_i t x y;have hx:=hx1 (x:=x) (by simp[Op.operands]);have hy:=hx1 (x:=y) (by simp[Op.operands]);unfold B2S at ho;split at ho
  ·rename_i a hev;rw[hev]at hx;obtain⟨l,hl,hsp,hgx⟩:=S6 hx;obtain⟨h1,rfl⟩:=A5I ho
   have:=B7k h h1 hl hy;refine NOk.ofU (s:=Instr.storeAt t (g x) (g y)) ?_;rw[hgx];obtain⟨ρ',w',r1,r2⟩:=this;exact⟨ρ',w',by simpa [Instr.storeAt,Instr.sureAddr]using r1,r2⟩
  ·cases ho
 ·rename_i x;have hx:=hx1 (x:=x) (by simp[Op.operands]);obtain⟨hm,h1,h2⟩:=C3h ho hx;subst hm;refine⟨g x,ρ,w,.inl ?_,h1,.refl h⟩;rcases h2 with⟨a,ha⟩|⟨f,a,b,ha⟩<;>simp[execOp,ha]
 ·rename_i op t x y yt;have hx:=hx1 (x:=x) (by simp[Op.operands]);have hy:=hx1 (x:=y) (by simp[Op.operands]);unfold C3j at ho;have hfin:(A9s op=true→A4m P t x y (ev fr x) (ev fr y)=true)→noM (A7J P op t (ev fr x) (ev fr y)) m=some (v,m')→NOk P base ρ m w (execOp g ⟨dst,.binOp op t x y yt,ty,pos,af,gd⟩) v m':=fun hgu hn=>by
   obtain⟨h1,rfl⟩:=A0O hn;obtain⟨h2,h3⟩:=A81 h1 hx hy w;have hq:=A69 hgu hx hy w;refine NOk.same (s:=do eqGuard op t x y (g x) (g y);binOp op t (g x) (g y)) h ?_ (.pure h3);simp[Sem.run_bind,hq,h2,Result.andThen]
  cases hop:A9s op with
  | true =>
    rw[hop]at ho;simp only[cond_true]at ho;obtain⟨h1,h2⟩:=A5 ho;exact hfin (fun _=>h1) h2
  | false =>
    rw[hop]at ho;simp only[cond_false]at ho;exact hfin (fun h=>by rw[hop]at h;cases h) ho
 ·rename_i op t x;obtain⟨h1,rfl⟩:=A0O ho;obtain⟨h2,h3⟩:=B5E (P:=P) h1 (hx1 (x:=x) (by simp[Op.operands])) w;exact NOk.same (s:=Op.unary op (g x)) h h2 (.pure h3)
 ·exact NOk.of (C1X h hb ho hf (hx1 (by simp[Op.operands])))
 ·exact NOk.of (B76 h ho (hx1 (by simp[Op.operands])))
 ·rename_i f first cap
  cases ho;have l1:=A2d (ρ:=ρ) (fr:=fr) (g:=g) (xs:=first.toList) fun x hx=>hx1 (by simp[Op.operands];exact .inl (by simpa using hx))
  have l2:=A2d (ρ:=ρ) (fr:=fr) (g:=g) (xs:=cap.toList) fun x hx=>hx1 (by simp[Op.operands];exact .inr (by simpa using hx))
  refine⟨.func (.func f) ⟨first.toList.map g⟩ ⟨cap.toList.map g⟩,ρ,w,.inl ?_,.func l1.1 l2.1 l1.2 l2.2,.refl h⟩;have e1:first.map g=⟨first.toList.map g⟩:=by apply K8;simp
  have e2:cap.map g=⟨cap.toList.map g⟩:=by apply K8;simp
  simp[execOp,Instr.makeFunc,e1,e2]
 ·exact NOk.of (B0m h hb ho hf (hx1 (by simp[Op.operands])) (hx1 (by simp[Op.operands])))
 ·rename_i t x lo hi mx;obtain⟨h1,rfl⟩:=A0O ho;obtain⟨v',h2,h3⟩:=A3L h1 (hx1 (x:=x) (by simp[Op.operands])) (A3x (g:=g) fun y hy=>hx1 (by simp[Op.operands]at hy ⊢;exact .inr (.inl hy))) (A3x (g:=g) fun y hy=>hx1 (by simp[Op.operands]at hy ⊢;exact .inr (.inr (.inl hy)))) (A3x (g:=g) fun y hy=>hx1 (by simp[Op.operands]at hy ⊢;exact .inr (.inr (.inr hy)))) w;exact NOk.same (s:=Instr.sliceAt t (g x) (lo.map g) (hi.map g) (mx.map g)) h h2 h3
 ·obtain⟨h1,rfl⟩:=A0O ho;obtain⟨v',h2,h3⟩:=A4o h1 (hx1 (by simp[Op.operands])) w;exact NOk.same h h2 h3
 ·obtain⟨h1,rfl⟩:=A0O ho;obtain⟨v',h2,h3⟩:=B8G h1 (hx1 (by simp[Op.operands])) w;exact NOk.same h h2 h3
 ·obtain⟨h1,rfl⟩:=A0O ho;obtain⟨v',h2,h3⟩:=A1h h1 (hx1 (by simp[Op.operands])) (hx1 (by simp[Op.operands])) w;exact NOk.same h h2 h3
 ·obtain⟨h1,rfl⟩:=A0O ho;obtain⟨v',h2,h3⟩:=A7i h1 (hx1 (by simp[Op.operands])) (hx1 (by simp[Op.operands])) w;exact NOk.same h h2 h3
 ·obtain⟨hm,v',h2,h3⟩:=B30 (P:=P) ho (hx1 (by simp[Op.operands])) w;subst hm;exact NOk.same h h2 h3
 ·rename_i b xs tys;have l1:=A2d (ρ:=ρ) (fr:=fr) (g:=g) (xs:=xs.toList) fun x hx=>hx1 (by show x ∈ (#[]++xs:Array Operand).toList;simpa using hx)
  obtain⟨ks,e2⟩:∃ ks,execOp g ⟨dst,.call ⟨.builtin b,xs,tys⟩,ty,pos,af,gd⟩=builtin b tys ty ks (xs.map g):=⟨_,rfl⟩;obtain⟨s,e,hs⟩:=B4p (ty:=ty) (ks:=ks) h hb ho hf l1;have e1:xs.map g=⟨xs.toList.map g⟩:=by apply K8;simp
  rw[e2,e1];have e3:tys=⟨tys.toList⟩:=rfl;rw[e3,e];exact NOk.of hs
 ·cases ho
end
end Go.Sx
namespace Go.Sx
set_option linter.all false
open Go
set_option linter.unusedVariables false
set_option linter.unusedSimpArgs false
def ofV:Option Value→U
 | some (.int k n)=>.int k n
 | some (.bool b)=>.bool b
 | some (.string s)=>.str s.data.toList
 | _=>.none
def G7(E:Nat→U):Value→U
 | .complex .f64 i _=>E i
 | .int k n=>.int k n
 | .bool b=>.bool b
 | .string s=>.str s.data.toList
 | _=>.none
def evB(op:BinOp):U→U→U
 | .int k a,.int j b=>ofV (A0_ op k j a b)
 | .str a,.str b=>ofV (B9O op ⟨⟨a⟩⟩ ⟨⟨b⟩⟩)
 | .bool a,.bool b=>match op with
   | .eql=>.bool (a == b)
   | .neq=>.bool (!(a == b))
   | _=>.none
 | _,_=>.none
def ev1(op:UnOp):U→U
 | .int k n=>ofV (unM op (.int k n))
 | .bool b=>ofV (unM op (.bool b))
 | _=>.none
def eqU:U→U→Option Bool
 | .int k a,.int j b=>if k=j then some (a == b)else none
 | .bool a,.bool b=>some (a == b)
 | .str a,.str b=>some (a == b)
 | _,_=>none
def A4r:List U→Option Bool
 | []=>some true
 | a::b::r=>match eqU a b,A4r r with
   | some x,some y=>some (x && y)
   | _,_=>none
 | _=>none
def B3V(s:List UInt8)(l h:Int):U :=
 match l,h with
 | .ofNat l,.ofNat h=>if l≤h∧h≤s.length then .str ((s.drop l).take (h-l))else .none
 | _,_=>.none
def A7t:List U→Option (List UInt8)
 | []=>some []
 | .int .u8 (.ofNat n)::r=>if n<256 then match A7t r with
   | some l=>some (UInt8.ofNat n::l)
   | none=>none else none
 | _::_=>none
def A8g:List (List U)→Option (List UInt8)
 | []=>some []
 | [.int .u8 (.ofNat n)]::r=>if n<256 then match A8g r with
   | some l=>some (UInt8.ofNat n::l)
   | none=>none else none
 | _::_=>none
def A38(s:List UInt8):List (List U):=s.map fun b=>[.int .u8 b.toNat]
def A0g(w:Nat):Nat→List U→Option (List (List U))
 | 0,[]=>some []
 | 0,_::_=>none
 | n+1,l=>if w≤l.length then match A0g w n (l.drop w)with
   | some r=>some (l.take w::r)
   | none=>none else none
def A9Z(row:List U)(o:Nat)(cells:List U):List U:=row.take o++cells++row.drop (o+cells.length)
def A7v:Nat:=1000000000
def A4x(nul:Bool)(w:Nat)(rows r:List (List U)):U:=if rows.length+r.length≤A7v then(match r with|[]=>.seq nul w rows|r=>.seq false w (rows++r))else .none
def evU:LOp→List U→U
 | .len,[.seq _ _ rows]=>.int .i64 rows.length
 | .mks,l=>match A7t l with
   | some s=>.str s
   | none=>.none
 | .inbs w,[.int _ i,.seq _ v rows]=>if v=w then .bool (decide (0≤i) && decide (i<rows.length))else .none
 | .get w o,[.seq false v rows,.int _ (.ofNat k)]=>if v=w then(rows.getD k []).getD o .none else .none
 | .mk w,l=>if w=0 then .none else match A0g w (l.length / w) l with
   | some r=>.seq false w r
   | none=>.none
 | .nilw w,[]=>.seq true w []
 | .nilp,[.seq nul _ _]=>.bool nul
 | .snoc w,.seq nul v rows::l=>if v=w∧w≠0 then match A0g w (l.length / w) l with
   | some r=>A4x nul w rows r
   | none=>.none else .none
 | .cat w,[.seq nul v rows,.seq _ v2 r]=>if v=w∧v2=w then A4x nul w rows r else .none
 | .cats,[.seq nul v rows,.str s]=>if v=1 then A4x nul 1 rows (A38 s)else .none
 | .set w o,.seq false v rows::.int _ (.ofNat k)::l=>if v=w∧k<rows.length∧o+l.length≤w then .seq false w (rows.set k (A9Z (rows.getD k []) o l))else .none
 | .subs w,[.seq nul v rows,.int _ (.ofNat l),.int _ (.ofNat h)]=>if v=w∧l≤h∧h≤rows.length then .seq nul w ((rows.drop l).take (h-l))else .none
 | .str,[.seq _ v rows]=>if v=1 then match A8g rows with
   | some s=>.str s
   | none=>.none else .none
 | .byt,[.str s]=>.seq false 1 (A38 s)
 | .ustr,[.seq _ v rows,.int _ (.ofNat n)]=>if v=1∧n≤rows.length∧n≤A7v then match A8g (rows.take n)with
   | some s=>.str s
   | none=>.none else .none
 | .rep w,.int _ (.ofNat n)::l=>if l.length=w∧n≤A7v then .seq false w (List.replicate n l)else .none
 | .bin op,[a,b]=>evB op a b
 | .un op,[a]=>ev1 op a
 | .conv k,[.int _ n]=>.int k (k.wrap n)
 | .len,[.str s]=>.int .i64 s.length
 | .idx,[.str s,.int _ (.ofNat k)]=>match s[k]? with
   | some b=>.int .u8 b.toNat
   | none=>.none
 | .sub,[.str s,.int _ l,.int _ h]=>B3V s l h
 | .sub1,[.str s,.int _ l]=>B3V s l s.length
 | .sel,.int _ (.ofNat k)::cs=>cs.getD k .none
 | .inb,[.int _ i,.int _ n]=>.bool (decide (0≤i) && decide (i<n))
 | .eqs,l=>match A4r l with
   | some b=>.bool b
   | none=>.none
 | .max,[.int k a,.int _ b]=>.int k (if b>a then b else a)
 | .min,[.int k a,.int _ b]=>.int k (if b<a then b else a)
 | _,_=>.none
def A0S.ok(E:Nat→U):A0S→Prop
 | .lt i t op xs=>E i=evU op (xs.map (G7 E))∧N7 (E i)=t∧t<10
 | .dt i t op xs=>E i=evU op (xs.map (G7 E))∧N7 (E i)=t∧∃ nul w rows,E i=.seq nul w rows
 | .br i b=>E i=.bool b
 | .as op xs=>evU op (xs.map (G7 E))=.bool true
 | .con spec xs i d n=>∃ outs,spec (xs.map (G7 E))=some (d,outs)∧outs.length=n∧∀ j u,outs[j]? = some u→E (i+j)=u
def Y5(E:Nat→U)(l:List A0S):Prop:=∀ e ∈ l,e.ok E
def Lg.le(a b:Lg):Prop:=a.log <:+ b.log
theorem Lg.le.refl(a:Lg):a.le a:=List.suffix_refl _
theorem Lg.le.trans{a b c:Lg}(h:a.le b)(k:b.le c):a.le c:=List.IsSuffix.trans h k
theorem Y5.le{E:Nat→U}{a b:Lg}(h:Y5 E b.log)(k:a.le b):Y5 E a.log:=fun e he=>h e (k.subset he)
variable [Ora]
abbrev Sat(lg:Lg):Prop:=Y5 Ora.env lg.log
omit [Ora] in
theorem B6C{u:U}(h:N7 u<10):∃ v,toV u=some v∧ofV (some v)=u∧H7 v=N7 u:=by
 cases u with
 | none=>simp[N7]at h
 | seq _ _ _=>simp only[N7]at h;omega
 | int k n=>exact⟨_,rfl,rfl,rfl⟩
 | bool b=>exact⟨_,rfl,rfl,rfl⟩
 | str s=>exact⟨_,rfl,rfl,rfl⟩
theorem B2R{o:Option Value}(h:N7 (ofV o)<10):∃ v,o=some v∧toV (ofV o)=some v:=by
 unfold ofV at h;split at h
 ·exact⟨_,rfl,rfl⟩
 ·exact⟨_,rfl,rfl⟩
 ·rename_i s;refine⟨_,rfl,?_⟩;simp[ofV,toV]
 ·simp[N7]at h
theorem A3t(k:IntKind):A5Z k<8:=by cases k<;>decide
theorem A1U{ρ:Ren}{v v':Value}(h:VR ρ v v')(ht:H7 v<10):toV (G7 Ora.env v)=some v'∧N7 (G7 Ora.env v)=H7 v:=by
 cases h with
 | pure hp =>
   cases v<;>simp only[H7]at ht<;>first
    | exact⟨rfl,rfl⟩
    | (exfalso;omega)
    | (simp[J8]at hp)
 | hole h ht2=>exact⟨h,ht2⟩
 | junk=>simp[H7]at ht
 | ixp _ _ _ _ _=>simp[H7,ixp]at ht
 | dat _ _ _ _ _=>simp[H7,Go.Sx.dat]at ht
 | clp _ _ _ _ _ _=>simp[H7,Go.Sx.clp]at ht
 | own _ _ _=>simp[H7,Go.Sx.own]at ht
 | dpt _ _ _=>simp[H7,Go.Sx.dpt]at ht
 | opt _ _ _=>simp[H7,Go.Sx.opt]at ht
 | yv _=>simp[H7,Go.Sx.yv]at ht
 | sdt _=>simp[H7,Go.Sx.sdt]at ht
 | _=>simp[H7]at ht
theorem Q8{ρ:Ren}{v v':Value}(h:VR ρ v v')(ht:H7 v<8):∃ k n,v'=.int k n∧G7 Ora.env v=.int k n∧H7 v=A5Z k:=by
 obtain⟨h1,h2⟩:=A1U h (by omega);cases hu:G7 Ora.env v with
 | int k n=>rw[hu]at h1 h2;cases h1;exact⟨k,n,rfl,rfl,h2.symm⟩
 | bool b=>rw[hu]at h2;simp only[N7]at h2;omega
 | str s=>rw[hu]at h2;simp only[N7]at h2;omega
 | none=>rw[hu]at h1;cases h1
 | seq _ _ _=>rw[hu]at h1;cases h1
theorem A3K{ρ:Ren}{v v':Value}(h:VR ρ v v')(ht:H7 v=8):∃ b,v'=.bool b∧G7 Ora.env v=.bool b:=by
 obtain⟨h1,h2⟩:=A1U h (by omega);cases hu:G7 Ora.env v with
 | int k n=>rw[hu]at h2;simp only[N7]at h2;have:=A3t k;omega
 | bool b=>rw[hu]at h1;cases h1;exact⟨b,rfl,rfl⟩
 | str s=>rw[hu]at h2;simp only[N7]at h2;omega
 | none=>rw[hu]at h1;cases h1
 | seq _ _ _=>rw[hu]at h1;cases h1
theorem A1V{ρ:Ren}{v v':Value}(h:VR ρ v v')(ht:H7 v=9):∃ s,v'=.string ⟨⟨s⟩⟩∧G7 Ora.env v=.str s:=by
 obtain⟨h1,h2⟩:=A1U h (by omega);cases hu:G7 Ora.env v with
 | int k n=>rw[hu]at h2;simp only[N7]at h2;have:=A3t k;omega
 | bool b=>rw[hu]at h2;simp only[N7]at h2;omega
 | str s=>rw[hu]at h1;cases h1;exact⟨s,rfl,rfl⟩
 | none=>rw[hu]at h1;cases h1
 | seq _ _ _=>rw[hu]at h1;cases h1
theorem A5L{m m':Mem}{t:Nat}{op:LOp}{xs:List Value}{v:Value}(h:q9 m t op xs=some (v,m')):v=hole m.lg.nx t∧m'=m.wLg ⟨m.lg.nx+1,m.lg.pi,.lt m.lg.nx t op xs::m.lg.log⟩:=by
 obtain⟨H,n,W,hi,⟨nx,pi,log⟩⟩:=m;simp only[q9,F5,I6]at h;cases h;exact⟨rfl,rfl⟩
theorem P4{m m':Mem}{t:Nat}{op:LOp}{xs:List Value}{v:Value}(h:q9 m t op xs=some (v,m'))(hS:Sat m'.lg):∃ u,evU op (xs.map (G7 Ora.env))=u∧N7 u=t∧∃ r,toV u=some r∧(∀ ρ,VR ρ v r)∧t<10:=by
 obtain⟨rfl,rfl⟩:=A5L h;obtain⟨h1,h2,h3⟩:=hS (.lt m.lg.nx t op xs) (by cases m;exact D0);refine⟨_,rfl,h1▸h2,?_⟩;obtain⟨r,h4,_⟩:=B6C (u:=Ora.env m.lg.nx) (by omega);exact⟨r,h1▸h4,fun ρ=>.hole h4 h2,h3⟩
section
variable {P:Program} {base:Nat} {ρ:Ren} {m m':Mem} {w:World}
theorem St.wLg(h:HR P base ρ m.H w)(lg:Lg):St P base ρ ρ m (m.wLg lg) w w:=by
 obtain⟨H,n,W,hi,l⟩:=m;have r:=St.refl (m:=⟨H,n,W,hi,l⟩) h;exact⟨r.ext,r.new,r.nle,r.hle,r.nhi,r.hr,r.wsub,r.wrw,r.keep,r.size,r.os,r.blk,r.same,r.tch⟩
theorem A1Q:∀ {l:List A0S} {i:Nat} {b:Bool},A9y l i=some b→A0S.br i b ∈ l
 | [],_,_,h=>by cases h
 | .br j c::r,i,b,h=>by
   rw[A9y]at h;cases hq:Nat.beq j i with
   | true=>rw[hq]at h;cases h;rw[A2 hq];exact D0
   | false=>rw[hq]at h;exact D7 _ (A1Q h)
 | .lt _ _ _ _::r,i,b,h=>D7 _ (A1Q (l:=r) h)
 | .dt _ _ _ _::r,i,b,h=>D7 _ (A1Q (l:=r) h)
 | .as _ _::r,i,b,h=>D7 _ (A1Q (l:=r) h)
 | .con _ _ _ _ _::r,i,b,h=>D7 _ (A1Q (l:=r) h)
theorem A4y{lg lg':Lg}{c:Value}{b:Bool}(h:brL lg c=some (b,lg')):lg.le lg':=by
 unfold brL at h;split at h
 ·cases h;exact .refl _
 ·obtain⟨nx,pi,log⟩:=lg;simp only at h;split at h
  ·cases h;exact .refl _
  ·split at h
   ·cases h;exact⟨[_],rfl⟩
   ·cases h;exact⟨[_],rfl⟩
   ·cases h
 ·cases h
theorem A6J{lg lg':Lg}{c c':Value}{b:Bool}(h:brL lg c=some (b,lg'))(hc:VR ρ c c')(hS:Sat lg'):c'=.bool b:=by
 unfold brL at h;split at h
 ·cases h;exact A1g hc
 ·rename_i i;have hb:Ora.env i=.bool b:=by
   obtain⟨nx,pi,log⟩:=lg;simp only at h;split at h
   ·rename_i b' hf;cases h;exact hS _ (A1Q hf)
   ·split at h
    ·cases h;exact hS (.br i true) D0
    ·cases h;exact hS (.br i false) D0
    ·cases h
  obtain⟨b',h1,h2⟩:=A3K hc rfl;have h2:Ora.env i=.bool b':=h2;rw[hb]at h2;cases h2;exact h1
 ·cases h
theorem A8L:∀ {a b:List U} {z:Bool},a.length%2=0→A4r (a++b)=some z→∃ x y,A4r a=some x∧A4r b=some y∧z=(x && y)
 | [],b,z,_,h=>⟨true,z,rfl,h,rfl⟩
 | [_],_,_,hl,_=>by simp at hl
 | p::q::r,b,z,hl,h=>by
   simp only[y6]at h;unfold A4r at h;split at h
   ·rename_i u v e1 e2;cases h;obtain⟨x,y,h1,h2,rfl⟩:=A8L (by simp only[A3]at hl;omega) e2;exact⟨u && x,y,by simp only[A4r,e1,h1],h2,by simp[Bool.and_assoc]⟩
   ·cases h
theorem B7t{t:TypeId}{x y x' y':Value}(h:A2Z P t x y=true)(hx:VR ρ x x')(hy:VR ρ y y'){b:Bool}(hb:eqU (G7 Ora.env x) (G7 Ora.env y)=some b)(n:Nat)(w:World):(Op.equalIn (n+1) t x' y').run P w=.ok b w:=by
 unfold A2Z at h;split at h
 ·rename_i hu;obtain⟨h1,h2⟩:=D2 h;obtain⟨p,rfl,e1⟩:=A3K hx (A2 h1);obtain⟨q,rfl,e2⟩:=A3K hy (A2 h2);rw[e1,e2]at hb;cases hb;simp[Op.equalIn,Sem.run_bind,E3 hu,Result.andThen]
 ·rename_i k hu;obtain⟨h1,h2⟩:=D2 h;have h1:=A2 h1;have h2:=A2 h2;obtain⟨k1,p,rfl,e1,f1⟩:=Q8 hx (by have:=A3t k;omega);obtain⟨k2,q,rfl,e2,f2⟩:=Q8 hy (by have:=A3t k;omega);have g1:k1=k:=by cases k1<;>cases k<;>first|rfl|(simp only[A5Z]at f1 h1;omega)
  have g2:k2=k:=by cases k2<;>cases k<;>first|rfl|(simp only[A5Z]at f2 h2;omega)
  subst g1;subst g2;rw[e1,e2]at hb;simp[eqU]at hb;subst hb;simp[Op.equalIn,Sem.run_bind,E3 hu,Result.andThen]
 ·rename_i hu;obtain⟨h1,h2⟩:=D2 h;obtain⟨p,rfl,e1⟩:=A1V hx (A2 h1);obtain⟨q,rfl,e2⟩:=A1V hy (A2 h2);rw[e1,e2]at hb;cases hb
  have:=run_equalIn_string (P:=P) w n t ⟨⟨p⟩⟩ ⟨⟨q⟩⟩ hu;rw[this];simp[ByteArray.toList_eq]
 ·cases h
mutual
theorem B6_:∀ (d:Nat) (t:TypeId) (x y:Value) (l:List Value),eqS P d t x y=some l→l.length%2=0
 | 0,_,_,_,_,h=>by simp[eqS]at h
 | d+1,t,x,y,l,h=>by
   unfold eqS at h;cases hs:A2Z P t x y with
   | true=>rw[hs]at h;cases h;simp
   | false =>
     rw[hs]at h;simp only[cond_false]at h;split at h
     ·rename_i fs xs ys hu;cases hst:P.stoodInHeld t with
      | true=>rw[hst]at h;cases h
      | false=>rw[hst]at h;exact A92 d _ _ _ l h
     ·split at h
      ·exact A92 d _ _ _ l h
      ·cases h
     ·cases h
theorem A92:∀ (d:Nat) (fs:List Field) (xs ys:List Value) (l:List Value),A93 P d fs xs ys=some l→l.length%2=0
 | 0,_,_,_,_,h=>by simp[A93]at h
 | d+1,[],_,_,_,h=>by simp only[A93,D8]at h;subst h;rfl
 | d+1,f::fs,xs,ys,l,h=>by
   unfold A93 at h;cases hnm:f.name == "_" with
   | true=>rw[hnm]at h;cases h
   | false =>
     rw[hnm]at h;simp only[cond_false]at h;split at h
     ·split at h
      ·rename_i a b ha hb;cases h
       have:=B6_ d _ _ _ a ha
       have:=A92 d _ _ _ b hb;simp only[A0];omega
      ·cases h
     ·cases h
end
mutual
theorem B5s:∀ (d:Nat) (t:TypeId) (x y x' y':Value) (l:List Value) (b:Bool),eqS P d t x y=some l→A4r (l.map (G7 Ora.env))=some b→VR ρ x x'→VR ρ y y'→∀ (n:Nat),d≤n→∀ w:World,(Op.equalIn n t x' y').run P w=.ok b w
 | 0,_,_,_,_,_,_,_,h,_,_,_,_,_,_=>by simp[eqS]at h
 | d+1,t,x,y,x',y',l,b,h,hl,hx,hy,n,hn,w=>by
   obtain⟨n,rfl⟩:∃ k,n=k+1:=⟨n-1,by omega⟩;have hn':d≤n:=by omega
   unfold eqS at h;cases hs:A2Z P t x y with
   | true =>
     rw[hs]at h;cases h;simp only[G4,J6,A4r]at hl;split at hl
     ·rename_i u v e1 e2;cases e2;cases hl;rw[Bool.and_true];exact B7t hs hx hy e1 n w
     ·cases hl
   | false =>
     rw[hs]at h;simp only[cond_false]at h;split at h
     ·rename_i fs xs ys hu;cases hst:P.stoodInHeld t with
      | true=>rw[hst]at h;cases h
      | false =>
        rw[hst]at h;obtain⟨xs',rfl,hx1⟩:=o9 hx;obtain⟨ys',rfl,hy1⟩:=o9 hy;have hf:P.fieldsOf t=fs:=by simp[Program.fieldsOf,hu]
        rw[run_equalIn_struct (P:=P) w n t _ _ (by rw[hf];exact hu) hst,hf];exact B2o d fs.toList xs.toList ys.toList xs' ys' l b h hl hx1 hy1 n hn' w
     ·rename_i k e xs ys hu;split at h
      ·rename_i s hz;obtain⟨xs',rfl,hx1⟩:=o9 hx;obtain⟨ys',rfl,hy1⟩:=o9 hy;obtain⟨i,hi,rfl⟩:=B03 hz;rw[run_equalIn_array (P:=P) (w:=w) n _ _ hu hi,show P.cellsOf e=i.size by simp[Program.cellsOf,hi],A2e];exact B2o d _ xs.toList ys.toList xs' ys' l b h hl hx1 hy1 n hn' w
      ·cases h
     ·cases h
theorem B2o:∀ (d:Nat) (fs:List Field) (xs ys xs' ys':List Value) (l:List Value) (b:Bool),A93 P d fs xs ys=some l→A4r (l.map (G7 Ora.env))=some b→LR ρ xs xs'→LR ρ ys ys'→∀ (n:Nat),d≤n→∀ w:World,(Op.eqFields n ⟨xs'⟩ ⟨ys'⟩ fs).run P w=.ok b w
 | 0,_,_,_,_,_,_,_,h,_,_,_,_,_,_=>by simp[A93]at h
 | d+1,[],_,_,_,_,_,b,h,hl,_,_,_,_,_=>by
   simp only[A93,D8]at h;subst h;simp only[J6,A4r,D8]at hl;subst hl;simp[Op.eqFields]
 | d+1,f::fs,xs,ys,xs',ys',l,b,h,hl,hx,hy,n,hn,w=>by
   unfold A93 at h;cases hnm:f.name == "_" with
   | true=>rw[hnm]at h;cases h
   | false =>
     rw[hnm]at h;simp only[cond_false]at h;have hn':f.name ≠ "_":=by simpa using hnm
     split at h
     ·rename_i x y h1 h2;obtain⟨x',g1,g2⟩:=A3R h1 hx w;obtain⟨y',g3,g4⟩:=A3R h2 hy w;split at h
      ·rename_i a c ha hc;cases h;rw[List.map_append]at hl;obtain⟨p,q,e1,e2,rfl⟩:=A8L (by have:=B6_ d _ _ _ a ha;simpa using this) hl;have ih:=B5s d f.type x y x' y' a p ha e1 g2 g4 n (by omega) w;have ih2:=B2o d fs xs ys xs' ys' c q hc e2 hx hy n (by omega) w;unfold Op.eqFields;rw[if_pos hn'];cases p<;>simp[Sem.run_bind,g1,g3,Result.andThen,ih,ih2]
      ·cases h
     ·cases h
end
end
end Go.Sx
namespace Go.Sx
set_option linter.all false
open Go
set_option linter.unusedVariables false
set_option linter.unusedSimpArgs false
variable [Ora]
section
variable {P:Program} {base:Nat} {ρ:Ren} {m m':Mem} {w w':World}
theorem St.new0{ab:AB}{k:Nat→Value}{v:Value}{l':Loc}(h:HR P base ρ m.H w)(hn:A0C m ab k=some (v,m'))(hf:M6 ρ m.n m'.hi)(hb:BR P (upd ρ m.n l') ab l' w)(hon:l'.on=false)
  (hT:∀ q,Tc ab l' q→Fp ρ m.H q∧∀ id,id≤I5→∀ a l,Hp.get m.H id=some a→ρ id=some l→a.rw=true→l.on=true→l.blk≠q):v=k m.n∧upd ρ m.n l' m.n=some l'∧St P base ρ (upd ρ m.n l') m m' w w:=by
 obtain⟨hle,hv,rfl⟩:=P0 hn;have hfree:ρ m.n=none:=hf m.n (A7 _) (N3 _ _).2;have hext:=t8 (l:=l') hfree;refine⟨hv,O2 _ _ _,hext,fun b q h1 h2=>?_,by simp,(N3 _ _).1,fun _=>u9 (N3 _ _).2,⟨fun b q hq=>?_,fun id hid a ha=>?_⟩,fun b hb=>hb,fun b h1 h2=>absurd h1 h2,fun q hq _=>rfl,A7 _,⟨rfl,rfl,rfl⟩,fun b q h1 h2 ho=>?_,fun id hid h1 h2=>?_,fun q ⟨id,a,l,hid,ha,hl,ht⟩=>.inr ?_⟩
 ·obtain⟨rfl,rfl⟩:=Z9 h1 h2;exact⟨A7 _,K6 _⟩
 ·cases h0:ρ b with
  | some k0=>exact h.dom b k0 h0
  | none=>obtain⟨rfl,rfl⟩:=Z9 hq h0;exact hle
 ·rw[F1 _ _ _ _ hle hid]at ha;by_cases e:id=m.n
  ·rw[if_pos e]at ha;have ha:=A8 ha;subst ha;subst e;exact⟨l',O2 _ _ _,hb,fun _ ho=>(by rw[hon]at ho;cases ho)⟩
  ·rw[if_neg e]at ha;obtain⟨l0,h1,h2,h3⟩:=h.at_ id hid a ha;refine⟨l0,hext _ _ h1,h2.mono hext (fun _ _=>rfl),fun hr ho=>⟨(h3 hr ho).1,fun id2 hid2 ab2 l2 g1 g2 g3=>?_⟩⟩;rw[F1 _ _ _ _ hle hid2]at g1;by_cases e2:id2=m.n
   ·subst e2;rw[O2]at g2
    have:=A8 g2;subst this;rw[if_pos rfl]at g1;have g1:=A8 g1;subst g1;exact absurd rfl ((hT _ g3).2 id hid a l0 ha h1 hr ho)
   ·rw[if_neg e2]at g1;unfold upd at g2;rw[if_neg e2]at g2;exact(h3 hr ho).2 id2 hid2 ab2 l2 g1 g2 g3
 ·obtain⟨rfl,rfl⟩:=Z9 h1 h2;rw[hon]at ho;cases ho
 ·rw[F1 _ _ _ _ hle hid,if_neg];intro e;subst e;rcases h2 with h2|h2
  ·omega
  ·have h2:upN m.hi m.n≤m.n:=h2
   have:=(N3 m.hi m.n).2;omega
 ·have ha:Hp.get (m.H.set m.n (some ab)) id=some a:=ha;rw[F1 _ _ _ _ hle hid]at ha;by_cases e:id=m.n
  ·subst e;rw[if_pos rfl]at ha;have ha:=A8 ha;subst ha;rw[O2]at hl;have hl:=A8 hl;subst hl;exact(hT q ht.2).1
  ·rw[if_neg e]at ha;unfold upd at hl;rw[if_neg e]at hl;exact⟨id,a,l,hid,ha,hl,ht⟩
theorem St.same0{ab ab':AB}{id:Nat}{l:Loc}(h:HR P base ρ m.H w)(hs:A28 m id ab'=some m')(hg:Hp.get m.H id=some ab)(hrw:ab.rw=true)(hl:ρ id=some l)(hb:BR P ρ ab' l w)(hT:∀ q,Tc ab' l q→Tc ab l q):St P base ρ ρ m m' w w:=by
 obtain⟨hle,rfl⟩:=i6 hs;obtain⟨h2,h3⟩:=h.atl hl hg;refine⟨fun _ _ h=>h,fun b k h1 h2=>(by rw[h1]at h2;cases h2),A7 _,A7 _,fun h=>h,⟨h.dom,fun id2 hid2 a ha=>?_⟩,fun b hb=>D7 _ hb,fun b h1 h2 k hk'=>?_,fun k hk' hb'=>rfl,A7 _,⟨rfl,rfl,rfl⟩,fun b k h1 h2=>(by rw[h1]at h2;cases h2),fun id2 hid2 h4 h5=>?_,fun k ⟨id2,a,q,hid2,ha,hq,ht⟩=>.inr ?_⟩
 ·rw[F1 _ _ _ _ hle hid2]at ha;by_cases e:id2=id
  ·rw[if_pos e]at ha;have ha:=A8 ha;subst ha;subst e;refine⟨l,hl,hb,fun _ ho'=>⟨(h3 hrw ho').1,fun id3 hid3 ab3 l3 g1 g2 g3=>?_⟩⟩;rw[F1 _ _ _ _ hle hid3]at g1;by_cases e3:id3=id2
   ·exact e3
   ·rw[if_neg e3]at g1;exact(h3 hrw ho').2 id3 hid3 ab3 l3 g1 g2 g3
  ·rw[if_neg e]at ha;obtain⟨l2,g1,g2,g3⟩:=h.at_ id2 hid2 a ha;refine⟨l2,g1,g2.mono (fun _ _ h=>h) (fun k hk'=>rfl),fun hr ho'=>⟨(g3 hr ho').1,fun id3 hid3 ab3 l3 f1 f2 f3=>?_⟩⟩;rw[F1 _ _ _ _ hle hid3]at f1;by_cases e3:id3=id
   ·subst e3;rw[hl]at f2
    have:=A8 f2;subst this;have f1:=A8 (by simpa using f1);subst f1;exact(g3 hr ho').2 id3 hid3 ab l hg hl (hT _ f3)
   ·rw[if_neg e3]at f1;exact(g3 hr ho').2 id3 hid3 ab3 l3 f1 f2 f3
 ·rcases C7.1 h1 with rfl|h1
  ·exact⟨ab,hg,hrw⟩
  ·exact absurd h1 h2
 ·rw[F1 _ _ _ _ hle hid2,if_neg];intro e;subst e;exact h4 D0
 ·have ha:Hp.get (m.H.set id (some ab')) id2=some a:=ha;rw[F1 _ _ _ _ hle hid2]at ha;by_cases e:id2=id
  ·subst e;rw[if_pos rfl]at ha;have ha:=A8 ha;subst ha;rw[hl]at hq;have hq:=A8 hq;subst hq;exact⟨id2,ab,l,hid2,hg,hl,AB.rw_fr hrw,hT _ ht.2⟩
  ·rw[if_neg e]at ha;exact⟨id2,a,q,hid2,ha,hq,ht⟩
theorem St.move{ab ab':AB}{id:Nat}{l l':Loc}{k:Nat→Value}{v:Value}(h:HR P base ρ m.H w)(hle:id≤I5)(hg:Hp.get m.H id=some ab)(hrw:ab.rw=true)(hl:ρ id=some l)
  (hn:A0C (A3_ m id) ab' k=some (v,m')) (hf:M6 ρ m.n m'.hi) (hbl:l'.on=true→l.on=true∧l'.blk=l.blk)
  (ho:w'.os=w.os∧w'.tape=w.tape∧w'.output=w.output) (hsz:w'.heap.size=w.heap.size) (hk:∀ k,(l.on=true→k≠l.blk)→w'.heap[k]? = w.heap[k]?) (hb:BR P (upd ρ m.n l') ab' l' w') (hfz:ab'≠.frz) :
  v=k m.n∧upd ρ m.n l' m.n=some l'∧St P base ρ (upd ρ m.n l') m m' w w':=by
 rw[A0Q]at hn;obtain⟨hnm,hv,rfl⟩:=P0 hn;have hfree:ρ m.n=none:=hf m.n (A7 _) (N3 _ _).2;have hext:=t8 (l:=l') hfree;obtain⟨h2,h3⟩:=h.atl hl hg;have hTc:∀ k,Tc ab' l' k→l.on=true∧k=l.blk:=fun k hk=>by
  rcases hk with⟨_,h1,rfl⟩|⟨rfl,_⟩
  ·exact hbl h1
  ·exact absurd rfl hfz
 have hne:id≠m.n:=fun e=>by subst e;rw[hl]at hfree;cases hfree
 have hget:∀ i,i≤I5→Hp.get ((m.H.set id none).set m.n (some ab')) i=if i=m.n then some ab' else if i=id then none else Hp.get m.H i:=fun i hi=>by
  rw[F1 _ _ _ _ hnm hi,F1 _ _ _ _ hle hi]
 refine⟨hv,O2 _ _ _,hext,fun b q h1 h2=>?_,A0q _,(N3 _ _).1,fun _=>u9 (N3 _ _).2,⟨fun b q hq=>?_,fun i hi a ha=>?_⟩,fun b hb=>D7 _ hb,fun b h1 h2 q hq=>?_,fun q hq hb'=>hk q ?_,by rw[hsz];exact A7 _,ho,fun b q h1 h2 ho'=>?_,fun i hi h4 h5=>?_,fun k ⟨i,a,q,hi,ha,hq,ht⟩=>.inr ?_⟩
 ·obtain⟨rfl,rfl⟩:=Z9 h1 h2;exact⟨A7 _,K6 _⟩
 ·cases h0:ρ b with
  | some q0=>exact h.dom b q0 h0
  | none=>obtain⟨rfl,rfl⟩:=Z9 hq h0;exact hnm
 ·have ha:Hp.get ((m.H.set id none).set m.n (some ab')) i=some a:=ha;rw[hget i hi]at ha;by_cases e:i=m.n
  ·rw[if_pos e]at ha;have ha:=A8 ha;subst ha;subst e;refine⟨l',O2 _ _ _,hb,fun hr' ho'=>?_⟩;obtain⟨hon,hblk⟩:=hbl ho';refine⟨by rw[hblk];exact(h3 hrw hon).1,fun id2 hid2 ab2 l2 g1 g2 g3=>?_⟩;rw[hget id2 hid2]at g1;by_cases e2:id2=m.n
   ·exact e2
   ·rw[if_neg e2]at g1;unfold upd at g2;rw[if_neg e2]at g2;by_cases e3:id2=id
    ·rw[if_pos e3]at g1;cases g1
    ·rw[if_neg e3]at g1;exact absurd ((h3 hrw hon).2 id2 hid2 ab2 l2 g1 g2 (hblk▸g3)) e3
  ·rw[if_neg e]at ha;by_cases e3:i=id
   ·rw[if_pos e3]at ha;cases ha
   ·rw[if_neg e3]at ha;obtain⟨l2,g1,g2,g3⟩:=h.at_ i hi a ha;have hnb:∀ k,Tc a l2 k→l.on=true→k≠l.blk:=fun k hk' hon hh=>e3 ((h3 hrw hon).2 i hi a l2 ha g1 (hh▸hk'))
    refine⟨l2,hext _ _ g1,g2.mono hext (fun k hk'=>hk _ (hnb k hk')),fun hr ho'=>⟨(g3 hr ho').1,fun id3 hid3 ab3 l3 f1 f2 f3=>?_⟩⟩;have f1:Hp.get ((m.H.set id none).set m.n (some ab')) id3=some ab3:=f1;rw[hget id3 hid3]at f1;by_cases e4:id3=m.n
    ·subst e4;rw[O2]at f2
     have:=A8 f2;subst this;rw[if_pos rfl]at f1;have f1:=A8 f1;subst f1;obtain⟨hon,hq⟩:=hTc _ f3;exact absurd hq (hnb _ (.inl ⟨AB.rw_on hr,ho',rfl⟩) hon)
    ·rw[if_neg e4]at f1;unfold upd at f2;rw[if_neg e4]at f2;by_cases e5:id3=id
     ·rw[if_pos e5]at f1;cases f1
     ·rw[if_neg e5]at f1;exact(g3 hr ho').2 id3 hid3 ab3 l3 f1 f2 f3
 ·rcases C7.1 h1 with rfl|h1
  ·exact⟨ab,hg,hrw⟩
  ·exact absurd h1 h2
 ·exact fun hon e=>hb' id D0 l hl hon e.symm
 ·obtain⟨rfl,rfl⟩:=Z9 h1 h2;obtain⟨hon,hblk⟩:=hbl ho';exact .inr ⟨id,D0,l,hl,hon,hblk.symm⟩
 ·have hgi:=hget i hi;show Hp.get ((m.H.set id none).set m.n (some ab')) i=_;rw[hgi,if_neg,if_neg]
  ·intro e;subst e;exact h4 D0
  ·intro e;subst e;rcases h5 with h5|h5
   ·omega
   ·have h5:upN m.hi m.n≤m.n:=h5
    have:=(N3 m.hi m.n).2;omega
 ·have ha:Hp.get ((m.H.set id none).set m.n (some ab')) i=some a:=ha;rw[hget i hi]at ha;by_cases e:i=m.n
  ·rw[if_pos e]at ha;have ha:=A8 ha;subst ha;subst e;rw[O2]at hq;have hq:=A8 hq;subst hq;obtain⟨hon,hb⟩:=hTc k ht.2;exact⟨id,ab,l,hle,hg,hl,AB.rw_fr hrw,.inl ⟨AB.rw_on hrw,hon,hb.symm⟩⟩
  ·rw[if_neg e]at ha;unfold upd at hq;rw[if_neg e]at hq;by_cases e3:i=id
   ·rw[if_pos e3]at ha;cases ha
   ·rw[if_neg e3]at ha;exact⟨i,a,q,hi,ha,hq,ht⟩
end
end Go.Sx
namespace Go.Sx
set_option linter.all false
open Go
set_option linter.unusedVariables false
set_option linter.unusedSimpArgs false
variable [Ora]
theorem A2s{m m':Mem}{ab:AB}{k:Nat→Value}{v:Value}(h:A0C m ab k=some (v,m')):m'.lg=m.lg:=by
 obtain⟨_,_,rfl⟩:=P0 h;rfl
theorem A8n{m m':Mem}{id:Nat}{ab:AB}(h:A28 m id ab=some m'):m'.lg=m.lg:=by
 obtain⟨_,rfl⟩:=i6 h;rfl
theorem A7P{m m':Mem}{a:Addr}{vs:List Value}(h:A5m m a vs=some m'):m'.lg=m.lg:=by
 unfold A5m at h;split at h
 ·obtain⟨_,h⟩:=A5 h;rw[I6]at h;exact A8n h
 ·cases h
theorem B7l{P:Program}{m m':Mem}{t:TypeId}{a:Addr}{v:Value}(h:A9C P m t a v=some m'):m'.lg=m.lg:=by
 unfold A9C at h;split at h
 ·obtain⟨_,h⟩:=A5 h;exact A7P h
 ·cases h
theorem A0e{m m':Mem}{o:Option Value}{v:Value}(h:noM o m=some (v,m')):m'.lg=m.lg:=by
 obtain⟨_,rfl⟩:=A0O h;rfl
theorem B0H{P:Program}{m m':Mem}{t:TypeId}{n:Nat}{ps:List (Nat×Value)}{v:Value}(h:A1l P m t n ps=some (v,m')):m'.lg=m.lg:=by
 unfold A1l at h;split at h
 ·split at h
  ·obtain⟨_,h⟩:=A5 h;split at h
   ·exact A2s h
   ·cases h
  ·cases h
 ·cases h
theorem B0n{P:Program}{m m':Mem}{t:TypeId}{l c v:Value}(h:A2V P m t l c=some (v,m')):m'.lg=m.lg:=by
 unfold A2V at h;split at h
 ·split at h
  ·obtain⟨_,h⟩:=A5 h;split at h
   ·rw[I6]at h;exact A2s h
   ·cases h
  ·cases h
 ·cases h
theorem C1Y{P:Program}{m m':Mem}{s t:TypeId}{x v:Value}(h:B1m P m s t x=some (v,m')):m'.lg=m.lg:=by
 unfold B1m at h;split at h
 ·cases h;rfl
 ·cases h;rfl
 ·cases h;rfl
 ·split at h
  ·split at h
   ·rw[I6]at h;exact A2s h
   ·cases h
  ·cases h
 ·split at h<;>cases h;rfl
 ·split at h
  ·split at h
   ·split at h<;>cases h;rfl
   ·cases h
  ·cases h
 ·cases h
theorem B53{P:Program}{m m':Mem}{t t2:TypeId}{x y v:Value}(h:A7L P m t t2 x y=some (v,m')):m'.lg=m.lg:=by
 unfold A7L at h;split at h
 ·rename_i e0 d2 _ _;cases hq:A1v d2 with
  | false=>rw[hq]at h;cases h
  | true =>
  rw[hq]at h;simp only[V8,cond_false]at h;split at h
  ·rename_i i a n c _;split at h
   ·rename_i k new z _ _;obtain⟨_,h⟩:=A5 h;cases hk:Nat.beq k 0 with
    | true =>
      rw[hk]at h;simp only[cond_true]at h;split at h
      ·obtain⟨_,h⟩:=A5 h;cases h;rfl
      ·obtain⟨_,h⟩:=A5 h;cases h;rfl
    | false =>
      rw[hk]at h;simp only[cond_false]at h;split at h
      ·obtain⟨_,h⟩:=A5 h;rw[I6]at h;exact A2s h
      ·cases hc:Nat.blt c Q0 with
       | true =>
         rw[hc]at h;simp only[cond_true]at h;cases hn:Nat.ble (n+k) c with
         | true =>
           rw[hn]at h;simp only[cond_true]at h;split at h
           ·rename_i m1 _ hw;cases h;exact A7P hw
           ·cases h
         | false =>
           rw[hn]at h;simp only[cond_false]at h;split at h
           ·rw[I6]at h;exact A2s h
           ·cases h
       | false =>
         rw[hc]at h;simp only[cond_false]at h;obtain⟨_,h⟩:=A5 h;split at h
         ·obtain⟨_,h⟩:=A5 h;rw[I6]at h;rw[A2s h,A0Q]
         ·cases h
   ·cases h
  ·cases h
 ·cases h
theorem C1V{P:Program}{m m':Mem}{t:TypeId}{x y v:Value}(h:B4f P m t x y=some (v,m')):m'.lg=m.lg:=by
 unfold B4f at h;split at h
 ·split at h
  ·split at h
   ·split at h
    ·obtain⟨_,h⟩:=A5 h;cases h;rfl
    ·rename_i k cs hq0 _ ad;cases hz:Nat.beq cs.length 0 with
     | true=>rw[hz]at h;cases h;rfl
     | false =>
       rw[hz]at h;simp only[cond_false]at h;obtain⟨_,h⟩:=A5 h;split at h
       ·rename_i hw;cases h;exact A7P hw
       ·cases h
   ·cases h
  ·cases h
 ·cases h
theorem B0X{P:Program}{m m':Mem}{pt:TypeId}{p l v:Value}(h:A2J P m pt p l=some (v,m')):m'.lg=m.lg:=by
 unfold A2J at h;split at h
 ·cases h;rfl
 ·split at h
  ·split at h
   ·obtain⟨_,h⟩:=A5 h;split at h
    ·split at h
     ·rename_i A4K;cases h;exact A8n A4K
     ·cases h
    ·cases h
   ·cases h
  ·cases h
 ·cases h
theorem B4q{P:Program}{m m':Mem}{b:Builtin}{vs:List Value}{tys:List TypeId}{v:Value}(h:A3W P m b vs tys=some (v,m')):m'.lg=m.lg:=by
 unfold A3W at h;split at h
 ·exact A0e h
 ·exact A0e h
 ·exact B53 h
 ·exact C1V h
 ·exact A0e h
 ·exact A0e h
 ·unfold A3j at h;split at h
  ·cases h;rfl
  ·rename_i a n c;cases hq:Nat.beq n 0 || Nat.beq c 0 || Nat.beq c (Q0+2)with
   | true=>rw[hq]at h;cases h
   | false=>rw[hq]at h;cases h;rfl
  ·cases h
 ·exact B0X h
 ·cases h
theorem C8l{P:Program}{fr:Fr}{m m':Mem}{o:Op}{v:Value}(h:opM P fr m o=some (v,m')):m'.lg=m.lg:=by
 unfold opM at h;split at h
 ·cases h;rfl
 ·cases h;rfl
 ·unfold B6Y at h;split at h<;>cases h<;>rfl
 ·unfold B2U at h;split at h
  ·exact A2s h
  ·cases h
 ·unfold C0d at h;obtain⟨_,h⟩:=A5 h;exact A2s h
 ·exact A0e h
 ·exact B0H h
 ·unfold B6Z at h;split at h
  ·exact A0e h
  ·cases h
 ·unfold B2S at h;split at h
  ·obtain⟨h,_⟩:=A5I h;exact B7l h
  ·cases h
 ·unfold C0c at h;split at h<;>cases h<;>rfl
 ·unfold C3j at h;rename_i op t x y yt;cases hq:A9s op with
  | true=>rw[hq]at h;simp only[cond_true]at h;obtain⟨_,h⟩:=A5 h;exact A0e h
  | false=>rw[hq]at h;exact A0e h
 ·exact A0e h
 ·exact C1Y h
 ·unfold B2T at h;split at h
  ·split at h
   ·cases h
   ·obtain⟨_,h⟩:=A5 h;cases h;rfl
  ·cases h
 ·cases h;rfl
 ·exact B0n h
 ·exact A0e h
 ·exact A0e h
 ·exact A0e h
 ·exact A0e h
 ·exact A0e h
 ·unfold A4a at h;split at h
  ·exact A0e h
  ·cases h
 ·exact B4q h
 ·cases h
theorem L4{m m':Mem}{t:Nat}{op:LOp}{xs:List Value}{v:Value}(h:q9 m t op xs=some (v,m')):m.lg.le m'.lg:=by
 obtain⟨_,rfl⟩:=A5L h;obtain⟨H,n,W,hi,l⟩:=m;exact⟨[_],rfl⟩
def M2(m m':Mem):Prop:=∃ lg,m'=m.wLg lg
theorem M2.refl(m:Mem):M2 m m:=⟨m.lg,by cases m;rfl⟩
theorem M2.trans{a b c:Mem}(h:M2 a b)(k:M2 b c):M2 a c:=by
 obtain⟨l,rfl⟩:=h;obtain⟨l2,rfl⟩:=k;exact⟨l2,by cases a;rfl⟩
theorem K5{m m':Mem}{t:Nat}{op:LOp}{xs:List Value}{v:Value}(h:q9 m t op xs=some (v,m')):M2 m m':=⟨_,(A5L h).2⟩
section
variable {P:Program} {base:Nat} {ρ:Ren} {m m':Mem} {w:World}
theorem B5I{c a b v:Value}(h:A8k m c a b=some (v,m')):m.lg.le m'.lg∧M2 m m':=by
 obtain⟨H,n,W,hi,lg⟩:=m;unfold A8k at h;simp only at h;split at h
 ·rename_i lg' hb;cases h;exact⟨A4y hb,⟨_,rfl⟩⟩
 ·rename_i lg' hb;cases h;exact⟨A4y hb,⟨_,rfl⟩⟩
 ·cases h
theorem B7j{op:BinOp}{t:TypeId}{a b v:Value}(h:A5p P m op t a b=some (v,m')):m.lg.le m'.lg∧M2 m m':=by
 unfold A5p at h;simp only at h;cases h1:(Nat.blt (H7 a) 8 && Nat.blt (H7 b) 8) || (Nat.beq (H7 a) 9 && Nat.beq (H7 b) 9)with
 | true=>rw[h1]at h;exact⟨L4 h,K5 h⟩
 | false =>
   rw[h1]at h;simp only[cond_false]at h;obtain⟨_,h⟩:=A5 h;exact⟨L4 h,K5 h⟩
theorem B9N{op:BinOp}{t:TypeId}{x y:Operand}{a b v:Value}(h:B3U P m op t x y a b=some (v,m')):m.lg.le m'.lg∧M2 m m':=by
 unfold B3U at h;obtain⟨_,h⟩:=A5 h;split at h
 ·exact⟨L4 h,K5 h⟩
 ·split at h
  ·rename_i m1 h1;exact⟨(L4 h1).trans (L4 h),(K5 h1).trans (K5 h)⟩
  ·cases h
 ·cases h
theorem B3T{t:TypeId}{x i v:Value}(h:A0I P m t x i=some (v,m')):m.lg.le m'.lg∧M2 m m':=by
 unfold A0I at h;cases hq:!(Nat.blt (H7 i) 8)with
 | true=>rw[hq]at h;cases h
 | false =>
   rw[hq]at h;simp only[cond_false]at h;split at h
   ·obtain⟨_,h⟩:=A5 h;exact⟨L4 h,K5 h⟩
   ·split at h
    ·obtain⟨_,h⟩:=A5 h;exact⟨L4 h,K5 h⟩
    ·obtain⟨_,h⟩:=A5 h;exact⟨L4 h,K5 h⟩
    ·cases h
   ·cases h
theorem B3R{t:TypeId}{x v:Value}{lo hi mx:Option Value}(h:A4O P m t x lo hi mx=some (v,m')):m.lg.le m'.lg∧M2 m m':=by
 unfold A4O at h;split at h
 ·obtain⟨_,h⟩:=A5 h;split at h
  ·cases h;exact⟨.refl _,.refl _⟩
  ·obtain⟨_,h⟩:=A5 h;exact⟨L4 h,K5 h⟩
  ·obtain⟨_,h⟩:=A5 h;exact⟨L4 h,K5 h⟩
  ·obtain⟨_,h⟩:=A5 h;exact⟨L4 h,K5 h⟩
 ·cases h
theorem B9K{op:UnOp}{x v:Value}(h:B3P m op x=some (v,m')):m.lg.le m'.lg∧M2 m m':=by
 unfold B3P at h;simp only at h;split at h
 ·obtain⟨_,h⟩:=A5 h;exact⟨L4 h,K5 h⟩
 ·obtain⟨_,h⟩:=A5 h;exact⟨L4 h,K5 h⟩
theorem B5M{s t:TypeId}{x v:Value}(h:A6d P m s t x=some (v,m')):m.lg.le m'.lg∧M2 m m':=by
 unfold A6d at h;split at h
 ·obtain⟨_,h⟩:=A5 h;exact⟨L4 h,K5 h⟩
 ·obtain⟨_,h⟩:=A5 h;cases h;exact⟨.refl _,.refl _⟩
 ·cases h
theorem B0f{b:Builtin}{vs:List Value}{tys:List TypeId}{v:Value}(h:A2M P m b vs tys=some (v,m')):m.lg.le m'.lg∧M2 m m':=by
 unfold A2M at h;split at h
 ·split at h
  ·obtain⟨_,h⟩:=A5 h;exact⟨L4 h,K5 h⟩
  ·cases h
 ·obtain⟨_,h⟩:=A5 h;exact⟨L4 h,K5 h⟩
 ·obtain⟨_,h⟩:=A5 h;exact⟨L4 h,K5 h⟩
 ·cases h
theorem B6x{a:Addr}{s n:Nat}{i v:Value}(h:B8D m a s n i=some (v,m')):m.lg.le m'.lg∧M2 m m':=by
 unfold B8D at h;cases hq:!(Nat.blt (H7 i) 8)with
 | true=>rw[hq]at h;cases h
 | false =>
   rw[hq]at h;simp only[cond_false]at h;split at h
   ·rename_i b H k W hi lg hl;split at h
    ·rename_i lg' hb;cases h;have h1:=L4 hl;obtain⟨l1,h2⟩:=K5 hl;refine⟨h1.trans (A4y hb),lg',?_⟩;obtain⟨H0,n0,W0,hi0,l0⟩:=m;cases h2;rfl
    ·cases h
   ·cases h
theorem B0b{t:TypeId}{x i v:Value}(h:A2K P m t x i=some (v,m')):m.lg.le m'.lg∧M2 m m':=by
 unfold A2K at h;split at h
 ·split at h
  ·exact B6x h
  ·cases h
 ·split at h
  ·generalize hq:Nat.beq _ (Q0+2)=q at h;cases q with
   | true=>cases h
   | false=>exact B6x h
  ·cases h
 ·cases h
theorem B0d{s:TypeId}{x v:Value}{i:Nat}(h:A2L P m s x i=some (v,m')):m.lg.le m'.lg∧M2 m m':=by
 unfold A2L at h;split at h
 ·split at h
  ·split at h
   ·split at h
    ·cases h;exact⟨.refl _,.refl _⟩
    ·cases h
   ·cases h
  ·cases h
 ·cases h
theorem A2p{cs:List Value}{s n:Nat}{i:Value}:∀ {k o:Nat} {m m':Mem} {r:List Value},A1c m cs s n i o k=some (r,m')→m.lg.le m'.lg∧M2 m m'
 | 0,o,m,m',r,h=>by cases h;exact⟨.refl _,.refl _⟩
 | k+1,o,m,m',r,h=>by
   unfold A1c at h;split at h
   ·obtain⟨_,h⟩:=A5 h;split at h
    ·rename_i m1 h1;split at h
     ·rename_i h2;cases h
      have:=A2p h2;exact⟨(L4 h1).trans this.1,(K5 h1).trans this.2⟩
     ·cases h
    ·cases h
   ·cases h
theorem B5K{t:TypeId}{x v:Value}(h:A6c P m t x=some (v,m')):m.lg.le m'.lg∧M2 m m':=by
 unfold A6c at h;split at h
 ·split at h
  ·split at h
   ·split at h
    ·rename_i h1;cases h;exact A2p h1
    ·cases h
   ·cases h
  ·split at h
   ·split at h
    ·rename_i h1;cases h;exact A2p h1
    ·cases h
   ·cases h
  ·cases h
 ·cases h
theorem B6D{fr:Fr}{o:Op}{v:Value}(h:B9L P fr m o=some (v,m')):m.lg.le m'.lg∧M2 m m':=by
 unfold B9L at h;split at h
 ·exact B5I h
 ·split at h
  ·rename_i r hr;cases h;exact B7j hr
  ·exact B9N h
 ·exact B9K h
 ·exact B5M h
 ·exact B3R h
 ·exact B3T h
 ·exact B0b h
 ·exact B0d h
 ·exact B5K h
 ·exact B0f h
 ·cases h
theorem B7i{op:BinOp}{t:TypeId}{x y:Operand}{a b a' b' v:Value}(h:A5p P m op t a b=some (v,m'))(ha:VR ρ a a')(hb:VR ρ b b')(hS:Sat m'.lg)(w:World) :
  ∃ r,(do eqGuard op t x y a' b';binOp op t a' b':Sem Value).run P w=.ok r w∧VR ρ v r:=by
 have fin:∀ {r:Value} {p q:Value},A9H p=true→A9H q=true→A7J P op t p q=some r→a'=p→b'=q→(do eqGuard op t x y a' b';binOp op t a' b':Sem Value).run P w=.ok r w:=fun{r p q} hp hq hr e1 e2=>by
  subst e1;subst e2;have v1:VR ρ a' a':=.pure (by cases a'<;>simp[A9H]at hp<;>rfl);have v2:VR ρ b' b':=.pure (by cases b'<;>simp[A9H]at hq<;>rfl);have g:A4m P t x y a' b'=true:=by
   cases a'<;>simp[A9H]at hp<;>cases b'<;>simp[A9H]at hq<;>rfl
  have hg:=A69 (op:=op) (fun _=>g) v1 v2 w;obtain⟨h2,_⟩:=A81 hr v1 v2 w;simp[Sem.run_bind,hg,h2,Result.andThen]
 unfold A5p at h;simp only at h;cases h1:(Nat.blt (H7 a) 8 && Nat.blt (H7 b) 8) || (Nat.beq (H7 a) 9 && Nat.beq (H7 b) 9)with
 | true =>
   rw[h1]at h;obtain⟨u,e1,e2,r,e3,e4,e5⟩:=P4 h hS;have ht:N7 u<10:=by rw[e2];exact e5
   refine⟨r,?_,e4 ρ⟩;rcases K1 _ _▸h1 with h1|h1
   ·obtain⟨p1,p2⟩:=D2 h1;obtain⟨k,n,rfl,f1,_⟩:=Q8 ha (A1 p1);obtain⟨j,n2,rfl,f2,_⟩:=Q8 hb (A1 p2);simp only[G4,J6,f1,f2,evU,evB]at e1;subst e1;obtain⟨r',g1,g2⟩:=B2R ht;rw[e3]at g2;cases g2;exact fin rfl rfl (by unfold A7J;exact g1) rfl rfl
   ·obtain⟨p1,p2⟩:=D2 h1;obtain⟨s1,rfl,f1⟩:=A1V ha (A2 p1);obtain⟨s2,rfl,f2⟩:=A1V hb (A2 p2);simp only[G4,J6,f1,f2,evU,evB]at e1;subst e1;obtain⟨r',g1,g2⟩:=B2R ht;rw[e3]at g2;cases g2;exact fin rfl rfl (by unfold A7J;exact g1) rfl rfl
 | false =>
   rw[h1]at h;simp only[cond_false]at h;obtain⟨h2,h⟩:=A5 h;obtain⟨h2,h5⟩:=D2 h2;obtain⟨h2,h4⟩:=D2 h2;obtain⟨h2,h3⟩:=D2 h2;have hu:P.underlying t=some .bool:=by
    split at h5
    ·assumption
    ·cases h5
   obtain⟨u,e1,e2,r,e3,e4,_⟩:=P4 h hS;refine⟨r,?_,e4 ρ⟩;obtain⟨p,rfl,f1⟩:=A3K ha (A2 h2);obtain⟨q,rfl,f2⟩:=A3K hb (A2 h3);simp only[G4,J6,f1,f2,evU,evB]at e1;cases op<;>simp only[A9s]at h4<;>first
    | cases h4
    | skip
   ·subst e1;cases e3;exact fin rfl rfl (by simp[A7J,B1I,eqM,hu]) rfl rfl
   ·subst e1;cases e3;exact fin rfl rfl (by simp[A7J,B1I,eqM,hu]) rfl rfl
theorem A8S{t:TypeId}{a' b':Value}(e:Bool)(hne:∃ cs,a'=.agg cs):binOp (bif e then .eql else .neq) t a' b'=(do let r ← Op.equal t a' b';pure (.bool (bif e then r else !r))):=by
 obtain⟨cs,rfl⟩:=hne;cases e<;>cases b'<;>rfl
theorem B9M{op:BinOp}{t:TypeId}{x y:Operand}{a b a' b' v:Value}(h:B3U P m op t x y a b=some (v,m'))(ha:VR ρ a a')(hb:VR ρ b b')(hn:A5p P m op t a b=none)(hS:Sat m'.lg)(w:World) :
  ∃ r,(do eqGuard op t x y a' b';binOp op t a' b':Sem Value).run P w=.ok r w∧VR ρ v r:=by
 unfold B3U at h;obtain⟨hg,h⟩:=A5 h;have hgu:=A69 (op:=op) (fun _=>hg) ha hb w;have hagg:∀ {l},eqS P 20 t a b=some l→(op=.eql∨op=.neq)→∃ cs,a'=.agg cs:=fun{l} hl hop=>by
  unfold eqS at hl;cases hs:A2Z P t a b with
  | true =>
    unfold A2Z at hs;unfold A5p at hn;simp only at hn;split at hs
    ·rename_i hu;obtain⟨q1,q2⟩:=D2 hs;rw[A2 q1,A2 q2,hu]at hn;obtain⟨H,n,W,hi,⟨nx,pi,log⟩⟩:=m;rcases hop with rfl|rfl<;>simp[A9s,q9,F5,I6]at hn
    ·rename_i k hu;obtain⟨q1,q2⟩:=D2 hs;have q3:=A3t k;have q4:Nat.blt (A5Z k) 8=true:=D4 q3;rw[A2 q1,A2 q2,q4]at hn;obtain⟨H,n,W,hi,⟨nx,pi,log⟩⟩:=m;simp[q9,F5,I6]at hn
    ·obtain⟨q1,q2⟩:=D2 hs;rw[A2 q1,A2 q2]at hn;obtain⟨H,n,W,hi,⟨nx,pi,log⟩⟩:=m;simp[q9,F5,I6]at hn
    ·cases hs
  | false =>
    rw[hs]at hl;simp only[cond_false]at hl;split at hl
    ·obtain⟨cs',rfl,_⟩:=o9 ha;exact⟨_,rfl⟩
    ·obtain⟨cs',rfl,_⟩:=o9 ha;exact⟨_,rfl⟩
    ·cases hl
 split at h
 ·rename_i l hl _;obtain⟨u,e1,e2,r,e3,e4,_⟩:=P4 h hS;refine⟨r,?_,e4 ρ⟩;simp only[evU]at e1;split at e1
  ·rename_i z hz;subst e1;cases e3;have he:(Op.equal t a' b').run P w=.ok z w:=B5s 20 t a b a' b' l z hl hz ha hb _ (by decide) w;have hq:=A8S (t:=t) (b':=b') true (hagg hl (.inl rfl));simp only[cond_true]at hq;rw[hq];simp[Sem.run_bind,hgu,he,Result.andThen]
  ·subst e1;cases e3
 ·rename_i l hl _;split at h
  ·rename_i hh m1 h1;have hS1:Sat m1.lg:=Y5.le hS (L4 h);obtain⟨u1,f1,f2,r1,f3,f4,_⟩:=P4 h1 hS1;obtain⟨u,e1,e2,r,e3,e4,_⟩:=P4 h hS;refine⟨r,?_,e4 ρ⟩;simp only[evU]at f1;split at f1
   ·rename_i z hz;subst f1;cases f3;have hv:=A1U (ρ:=ρ) (f4 ρ) (by obtain⟨e,_⟩:=A5L h1;rw[e];show 8<10;omega);have:G7 Ora.env hh=.bool z:=by
     cases hu:G7 Ora.env hh<;>rw[hu]at hv<;>first|(cases hv.1;done)|skip
     all_goals (obtain⟨hv1,_⟩:=hv;cases hv1;rfl)
    simp only[G4,J6,this,evU,ev1,unM,ofV]at e1;subst e1;cases e3;have he:(Op.equal t a' b').run P w=.ok z w:=B5s 20 t a b a' b' l z hl hz ha hb _ (by decide) w;have hq:=A8S (t:=t) (b':=b') false (hagg hl (.inr rfl));simp only[cond_false]at hq;rw[hq];simp[Sem.run_bind,hgu,he,Result.andThen]
   ·subst f1;cases f3
  ·cases h
 ·cases h
end
end Go.Sx
namespace Go.Sx
set_option linter.all false
open Go
set_option linter.unusedVariables false
set_option linter.unusedSimpArgs false
variable [Ora]
section
variable {P:Program} {base:Nat} {ρ:Ren} {m m':Mem} {w:World}
theorem pk(k:IntKind)(n:Int):J8 (.int k n)=true:=rfl
theorem B9J{op:UnOp}{x x' v:Value}(h:B3P m op x=some (v,m'))(hx:VR ρ x x')(hS:Sat m'.lg)(w:World):∃ r,(Op.unary op x').run P w=.ok r w∧VR ρ v r:=by
 unfold B3P at h;simp only at h;split at h
 ·obtain⟨h1,h⟩:=A5 h;obtain⟨b,rfl,e⟩:=A3K hx (A2 h1);obtain⟨u,e1,e2,r,e3,e4,_⟩:=P4 h hS;simp only[G4,J6,e,evU,ev1,unM,ofV]at e1;subst e1;cases e3;exact⟨_,(B5E (P:=P) (ρ:=ρ) (op:=.not) (x:=.bool b) (v:=.bool !b) rfl (.pure rfl) w).1,e4 ρ⟩
 ·obtain⟨h1,h⟩:=A5 h;obtain⟨k,n,rfl,e,_⟩:=Q8 hx (A1 h1);obtain⟨u,e1,e2,r,e3,e4,e5⟩:=P4 h hS;simp only[G4,J6,e,evU,ev1]at e1;subst e1;obtain⟨r',g1,g2⟩:=B2R (by rw[e2];exact e5);rw[e3]at g2;cases g2;exact⟨_,(B5E (P:=P) (ρ:=ρ) g1 (.pure (pk k n)) w).1,e4 ρ⟩
theorem B5L{s t:TypeId}{x x' v:Value}(h:A6d P m s t x=some (v,m'))(hx:VR ρ x x')(hS:Sat m'.lg)(w:World):∃ r,(convert s t x').run P w=.ok r w∧VR ρ v r:=by
 unfold A6d at h;split at h
 ·rename_i j k hs ht;obtain⟨h1,h⟩:=A5 h;obtain⟨j2,n,rfl,e,_⟩:=Q8 hx (A1 h1);obtain⟨u,e1,e2,r,e3,e4,e5⟩:=P4 h hS;simp only[G4,J6,e,evU]at e1;subst e1;cases e3;exact⟨_,by simp[convert,Sem.run_bind,E3 hs,E3 ht,Result.andThen,Conv.intToInt],e4 ρ⟩
 ·rename_i hs ht;obtain⟨h1,h⟩:=A5 h;cases h;obtain⟨b,rfl,e⟩:=A1V hx (A2 h1);exact⟨_,by simp[convert,Sem.run_bind,E3 hs,E3 ht,Result.andThen],hx⟩
 ·cases h
theorem A3k{t:Nat}:∀ {cs:List Value},A0L t cs=true→∀ {i:Nat} {v:Value},cs[i]? = some v→H7 v=t
 | [],_,i,v,h=>by simp at h
 | c::r,hs,i,v,h=>by
   obtain⟨h1,h2⟩:=D2 (show(Nat.beq (H7 c) t && A0L t r)=true from hs);cases i with
   | zero=>simp at h;subst h;exact A2 h1
   | succ i=>exact A3k h2 (by simpa using h)
theorem B9S{t e:TypeId}{n tg:Nat}{cs:Array Value}{x' i i' v:Value}(hu:P.underlying t=some (.array n e))(ha:A1P P e=some false)(hsz:H8 P e=some 1)(hl:cs.toList.length=n)(htg:A0L tg cs.toList=true)(h10:tg<10)
  (hi8:H7 i<8) (h:q9 m tg .sel (i::cs.toList)=some (v,m')) (hx:VR ρ (.agg cs) x') (hi:VR ρ i i') (hS:Sat m'.lg) (w:World):∃ r,(Instr.index t x' i').run P w=.ok r w∧VR ρ v r:=by
 obtain⟨k,z,rfl,e,_⟩:=Q8 hi hi8;obtain⟨u,e1,e2,r,e3,e4,e5⟩:=P4 h hS;simp only[G4,e]at e1;cases z with
 | negSucc z=>simp only[evU]at e1;subst e1;cases e3
 | ofNat z =>
   simp only[evU]at e1;by_cases hz:z<cs.toList.length
   ·have hget:cs.toList[z]? = some cs.toList[z]:=A6 hz;have htag:=A3k htg hget;have hm:A4k P t (.agg cs) (.int k (.ofNat z))=some cs.toList[z]:=by
     have hb:Nat.blt z n=true:=D4 (by omega);simp only[A4k,hu,hsz,hb,cond_true,A6x,ha,Nat.mul_one];exact hget
    obtain⟨v',g1,g2⟩:=A7i (P:=P) hm hx (.pure rfl) w;obtain⟨f1,_⟩:=A1U g2 (by omega);have:u=G7 Ora.env cs.toList[z]:=by
     rw[← e1,C4,K0,hget];rfl
    rw[this,f1]at e3;cases e3;exact⟨_,g1,e4 ρ⟩
   ·rw[C4,T4 (by simp at hz ⊢;omega)]at e1;subst e1;cases e3
theorem B04{e:TypeId}(h:Nat.beq (A0I.sizeD P e) 1=true):H8 P e=some 1:=by
 have h:=A2 h;unfold A0I.sizeD at h;split at h
 ·rename_i n hn;rw[hn,h]
 ·cases h
theorem B3S{t:TypeId}{x x' i i' v:Value}(h:A0I P m t x i=some (v,m'))(hx:VR ρ x x')(hi:VR ρ i i')(hS:Sat m'.lg)(w:World):∃ r,(Instr.index t x' i').run P w=.ok r w∧VR ρ v r:=by
 unfold A0I at h;cases hq:!(Nat.blt (H7 i) 8)with
 | true=>rw[hq]at h;cases h
 | false =>
   have hi8:H7 i<8:=by
    have:Nat.blt (H7 i) 8=true:=by simpa using hq
    exact A1 this
   rw[hq]at h;simp only[cond_false]at h;split at h
   ·rename_i hu;obtain⟨h1,h⟩:=A5 h;obtain⟨s,rfl,f1⟩:=A1V hx (A2 h1);obtain⟨k,z,rfl,f2,_⟩:=Q8 hi hi8;obtain⟨u,e1,e2,r,e3,e4,e5⟩:=P4 h hS;simp only[G4,J6,f1,f2]at e1;cases z with
    | negSucc z=>simp only[evU]at e1;subst e1;cases e3
    | ofNat z =>
      simp only[evU]at e1;split at e1
      ·rename_i b hb;subst e1;cases e3;have hm:A4k P t (.string ⟨⟨s⟩⟩) (.int k (.ofNat z))=some (.int .u8 b.toNat):=by
        simp only[A4k,hu,hb]
       obtain⟨v',g1,g2⟩:=A7i (P:=P) (ρ:=ρ) hm (.pure rfl) (.pure rfl) w;cases K9 g2;exact⟨_,g1,e4 ρ⟩
      ·subst e1;cases e3
   ·rename_i n e hu;split at h
    ·rename_i cs k he;obtain⟨h1,h⟩:=A5 h;obtain⟨h1,h3⟩:=D2 h1;obtain⟨h1,h2⟩:=D2 h1;exact B9S hu (by simp[A1P,he]) (B04 h3) (A2 h1) h2 (by have:=A3t k;omega) hi8 h hx hi hS w
    ·rename_i cs he;obtain⟨h1,h⟩:=A5 h;obtain⟨h1,h3⟩:=D2 h1;obtain⟨h1,h2⟩:=D2 h1;exact B9S hu (by simp[A1P,he]) (B04 h3) (A2 h1) h2 (by omega) hi8 h hx hi hS w
    ·cases h
   ·cases h
theorem B5N{t:TypeId}(hu:P.underlying t=some .string){s:List UInt8}{l h:Int}{u:U}{r:Value}{kl kh:IntKind}(e1:B3V s l h=u)(e3:toV u=some r):A1o P t (.string ⟨⟨s⟩⟩) (some (.int kl l)) (some (.int kh h)) none=some r:=by
 unfold B3V at e1;split at e1
 ·rename_i l h;split at e1
  ·rename_i hh;subst e1;cases e3;have b1:Nat.ble h (ByteArray.size ⟨⟨s⟩⟩)=true:=D4 hh.2;have b2:Nat.ble l h=true:=D4 hh.1;simp only[A1o,hu,Z6,b1,b2,cond_true]
  ·subst e1;cases e3
 ·subst e1;cases e3
theorem B3Q{t:TypeId}{x x' v:Value}{lo hi mx lo' hi' mx':Option Value}(h:A4O P m t x lo hi mx=some (v,m'))(hx:VR ρ x x')(hlo:OR ρ lo lo')(hhi:OR ρ hi hi')(hmx:OR ρ mx mx')(hS:Sat m'.lg)(w:World) :
  ∃ r,(Instr.sliceAt t x' lo' hi' mx').run P w=.ok r w∧VR ρ v r:=by
 have none_inv:∀ {o:Option Value},OR ρ none o→o=none:=fun{o} h=>by cases o<;>first|rfl|exact h.elim
 have some_inv:∀ {y:Value} {o:Option Value},OR ρ (some y) o→∃ y',o=some y'∧VR ρ y y':=fun{y o} h=>by cases o<;>first|exact h.elim|exact⟨_,rfl,h⟩
 unfold A4O at h;split at h
 ·rename_i hu;cases none_inv hmx;obtain⟨h1,h⟩:=A5 h;obtain⟨s,rfl,f1⟩:=A1V hx (A2 h1);have str_of:∀ {y:Value},VR ρ (.string ⟨⟨s⟩⟩) y→y=.string ⟨⟨s⟩⟩:=fun h=>i9 h
  split at h
  ·cases h;cases none_inv hlo;cases none_inv hhi;have hm:A1o P t (.string ⟨⟨s⟩⟩) none none none=some (.string ⟨⟨s⟩⟩):=by
    have e:ByteArray.size ⟨⟨s⟩⟩=s.length:=rfl;simp[A1o,hu,Z6,e]
   obtain⟨v',g1,g2⟩:=A3L (P:=P) (ρ:=ρ) (lo':=none) (hi':=none) (mx':=none) hm (.pure rfl) trivial trivial trivial w;cases i9 g2;exact⟨_,g1,hx⟩
  ·obtain⟨h2,h⟩:=A5 h;obtain⟨l',rfl,hl⟩:=some_inv hlo;cases none_inv hhi;obtain⟨k,z,rfl,f2,_⟩:=Q8 hl (A1 h2);obtain⟨u,e1,e2,r,e3,e4,e5⟩:=P4 h hS;simp only[G4,J6,f1,f2,evU]at e1;have hm:=B5N (P:=P) (kl:=k) (kh:=.i64) hu e1 e3;have hm2:A1o P t (.string ⟨⟨s⟩⟩) (some (.int k z)) none none=some r:=by
    rw[← hm];have e:ByteArray.size ⟨⟨s⟩⟩=s.length:=rfl;have b:Nat.ble s.length s.length=true:=D4 (A7 _);have e6:((s.length:Nat):Int)=Int.ofNat s.length:=rfl;simp only[A1o,hu,Z6,e,e6,b,cond_true]
   obtain⟨v',g1,g2⟩:=A3L (P:=P) (ρ:=ρ) (lo':=some (.int k z)) (hi':=none) (mx':=none) hm2 (.pure rfl) (VR.pure rfl:VR ρ _ _) trivial trivial w;have:VR ρ r v':=g2;have hp:=A3I e3;cases g2 with
   | pure _=>exact⟨_,g1,e4 ρ⟩
   | _=>simp[J8,ixp,Go.Sx.dat,Go.Sx.clp,Go.Sx.own,Go.Sx.dpt,Go.Sx.opt,Go.Sx.yv,Go.Sx.sdt]at hp
  ·obtain⟨h2,h⟩:=A5 h;obtain⟨h',rfl,hh⟩:=some_inv hhi;cases none_inv hlo;obtain⟨k,z,rfl,f2,_⟩:=Q8 hh (A1 h2);obtain⟨u,e1,e2,r,e3,e4,e5⟩:=P4 h hS;have f0:G7 Ora.env (.int .i64 0)=.int .i64 0:=rfl;simp only[G4,J6,f1,f2,f0,evU]at e1;have hm:=B5N (P:=P) (kl:=.i64) (kh:=k) hu e1 e3;have hm2:A1o P t (.string ⟨⟨s⟩⟩) none (some (.int k z)) none=some r:=by
    rw[← hm];have e6:(0:Int)=Int.ofNat 0:=rfl;cases z with
    | negSucc z=>simp only[A1o,hu,Z6]
    | ofNat z =>
      have b0:Nat.ble 0 z=true:=D4 (A43 _);simp only[A1o,hu,Z6,e6];cases Nat.ble z (ByteArray.size ⟨⟨s⟩⟩)<;>simp[b0]
   obtain⟨v',g1,g2⟩:=A3L (P:=P) (ρ:=ρ) (lo':=none) (hi':=some (.int k z)) (mx':=none) hm2 (.pure rfl) trivial (VR.pure rfl:VR ρ _ _) trivial w;have hp:=A3I e3;cases g2 with
   | pure _=>exact⟨_,g1,e4 ρ⟩
   | _=>simp[J8,ixp,Go.Sx.dat,Go.Sx.clp,Go.Sx.own,Go.Sx.dpt,Go.Sx.opt,Go.Sx.yv,Go.Sx.sdt]at hp
  ·obtain⟨h2,h⟩:=A5 h;obtain⟨h2,h3⟩:=D2 h2;obtain⟨h',rfl,hh⟩:=some_inv hhi;obtain⟨l',rfl,hl⟩:=some_inv hlo;obtain⟨k,z,rfl,f2,_⟩:=Q8 hl (A1 h2);obtain⟨j,y,rfl,f3,_⟩:=Q8 hh (A1 h3);obtain⟨u,e1,e2,r,e3,e4,e5⟩:=P4 h hS;simp only[G4,J6,f1,f2,f3,evU]at e1;have hm:=B5N (P:=P) (kl:=k) (kh:=j) hu e1 e3;obtain⟨v',g1,g2⟩:=A3L (P:=P) (ρ:=ρ) (lo':=some (.int k z)) (hi':=some (.int j y)) (mx':=none) hm (.pure rfl) (VR.pure rfl:VR ρ _ _) (VR.pure rfl:VR ρ _ _) trivial w;have hp:=A3I e3;cases g2 with
   | pure _=>exact⟨_,g1,e4 ρ⟩
   | _=>simp[J8,ixp,Go.Sx.dat,Go.Sx.clp,Go.Sx.own,Go.Sx.dpt,Go.Sx.opt,Go.Sx.yv,Go.Sx.sdt]at hp
 ·cases h
theorem B0e{b:Builtin}{vs vs':List Value}{tys:List TypeId}{ty:TypeId}{ks:Array Bool}{v:Value}(hr:HR P base ρ m.H w)(h:A2M P m b vs tys=some (v,m'))(hx:LR ρ vs vs')(hS:Sat m'.lg) :
  ∃ s:Sem Value,builtin b ⟨tys⟩ ty ks ⟨vs'⟩=(do pure (.value (← s)))∧∃ r,s.run P w=.ok r w∧VR ρ v r:=by
 unfold A2M at h;split at h
 ·obtain⟨x',r1,rfl,h1,h2⟩:=hx.tail;cases h2.nil_inv;split at h
  ·rename_i hu;obtain⟨h3,h⟩:=A5 h;obtain⟨s,rfl,f1⟩:=A1V h1 (A2 h3);obtain⟨u,e1,e2,r,e3,e4,e5⟩:=P4 h hS;simp only[G4,J6,f1,evU]at e1;subst e1;cases e3;rename_i t rest _ _;have hm:C0t P m t (.string ⟨⟨s⟩⟩)=some (.int .i64 s.length):=by simp[C0t,hu]
   obtain⟨g1,_⟩:=B6r (ρ:=ρ) (ty:=ty) (tys:=rest) hr hm (.pure rfl);exact⟨_,rfl,_,g1,e4 ρ⟩
  ·cases h
 ·obtain⟨x',r1,rfl,h1,h2⟩:=hx.tail;obtain⟨y',r2,rfl,h3,h4⟩:=h2.tail;cases h4.nil_inv;obtain⟨h5,h⟩:=A5 h;obtain⟨h5,h6⟩:=D2 h5;have h5:=A1 h5;have h6:=A2 h6;obtain⟨k,a,rfl,f1,q1⟩:=Q8 h1 h5;obtain⟨j,c,rfl,f2,q2⟩:=Q8 h3 (h6▸h5);obtain⟨u,e1,e2,r,e3,e4,e5⟩:=P4 h hS;simp only[G4,J6,f1,f2,evU]at e1;subst e1;cases e3;obtain⟨g1,_⟩:=B6i (P:=P) (ρ:=ρ) (ty:=ty) (tys:=⟨tys⟩) (vs:=[.int k a,.int j c]) rfl (.cons (.pure rfl) (.cons (.pure rfl) .nil)) w;exact⟨_,rfl,_,g1,e4 ρ⟩
 ·obtain⟨x',r1,rfl,h1,h2⟩:=hx.tail;obtain⟨y',r2,rfl,h3,h4⟩:=h2.tail;cases h4.nil_inv;obtain⟨h5,h⟩:=A5 h;obtain⟨h5,h6⟩:=D2 h5;have h5:=A1 h5;have h6:=A2 h6;obtain⟨k,a,rfl,f1,q1⟩:=Q8 h1 h5;obtain⟨j,c,rfl,f2,q2⟩:=Q8 h3 (h6▸h5);obtain⟨u,e1,e2,r,e3,e4,e5⟩:=P4 h hS;simp only[G4,J6,f1,f2,evU]at e1;subst e1;cases e3;obtain⟨g1,_⟩:=B6g (P:=P) (ρ:=ρ) (ty:=ty) (tys:=⟨tys⟩) (vs:=[.int k a,.int j c]) rfl (.cons (.pure rfl) (.cons (.pure rfl) .nil)) w;exact⟨_,rfl,_,g1,e4 ρ⟩
 ·cases h
theorem B7R{v:Value}{k:IntKind}{n:Int}(h:G7 Ora.env v=.int k n):A6K Ora.env v=some n:=by
 cases v with
 | complex k i t =>
   cases k with
   | f64 =>
     have h:Ora.env i=.int _ n:=h;simp only[A6K,h]
   | f32=>cases h
 | int j n=>cases h;rfl
 | _=>cases h
theorem B26{v:Value}{n:Int}(h:A6K Ora.env v=some n):∃ k,G7 Ora.env v=.int k n:=by
 cases v with
 | complex k i t =>
   cases k with
   | f64 =>
     simp only[A6K]at h;split at h
     ·rename_i k z he;cases h;exact⟨k,he⟩
     ·cases h
   | f32=>cases h
 | int j n=>cases h;exact⟨j,rfl⟩
 | _=>cases h
theorem B6w{a:Addr}{s n:Nat}{i i' v:Value}(h:B8D m a s n i=some (v,m'))(hi:VR ρ i i')(hS:Sat m'.lg):v=ixp a s i n∧∃ k z,i'=.int k (.ofNat z)∧z<n∧A6K Ora.env i=some (.ofNat z):=by
 unfold B8D at h;cases hq:!(Nat.blt (H7 i) 8)with
 | true=>rw[hq]at h;cases h
 | false =>
   have hi8:H7 i<8:=by
    have:Nat.blt (H7 i) 8=true:=by simpa using hq
    exact A1 this
   rw[hq]at h;simp only[cond_false]at h;split at h
   ·rename_i b H k W hh lg hl;split at h
    ·rename_i lg' hb;cases h;obtain⟨u,e1,e2,r,e3,e4,_⟩:=P4 hl (Y5.le hS (A4y hb));have hbt:=A6J (ρ:=ρ) hb (e4 ρ) hS;subst hbt;obtain⟨k0,z,rfl,f1,_⟩:=Q8 hi hi8;have f0:G7 Ora.env (.int .i64 (.ofNat n))=.int .i64 (.ofNat n):=rfl;simp only[G4,J6,f1,f0,evU]at e1;subst e1;have e3:(decide (0≤z) && decide (z<Int.ofNat n))=true:=by
      have:=A8 e3;exact Value.bool.inj this
     simp only[J5,decide_eq_true_eq]at e3;cases z with
     | negSucc z=>exact absurd e3.1 (by simp)
     | ofNat z=>exact⟨rfl,k0,z,rfl,by have:=e3.2;simpa using this,B7R f1⟩
    ·cases h
   ·cases h
theorem B0a{t:TypeId}{x x' i i' v:Value}(h:A2K P m t x i=some (v,m'))(hx:VR ρ x x')(hi:VR ρ i i')(hS:Sat m'.lg)(w:World):∃ r,(Instr.indexAt t x' i').run P w=.ok r w∧VR ρ v r:=by
 unfold A2K at h;split at h
 ·rename_i n e a hu;split at h
  ·rename_i s hs hsp;obtain⟨rfl,k,z,rfl,hz,he⟩:=B6w h hi hS;obtain⟨l,hl,_,rfl⟩:=S6 hx;have hb:Nat.blt z n=true:=D4 hz;have hm:r7 P t (.pointer (some a)) (.int k (.ofNat z))=some (.pointer (some ⟨a.block,a.off+z*s,none⟩)):=by
    simp only[r7,hu,hs,hsp,hb,cond_true,A1L,F5]
   obtain⟨v',g1,g2⟩:=A1h (P:=P) hm hx (.pure rfl) w;obtain⟨l2,hl2,_,rfl⟩:=S6 g2;have hl2:ρ a.block=some l2:=hl2;rw[hl]at hl2;cases hl2;exact⟨_,g1,.ixp hl hsp he hz rfl⟩
  ·cases h
 ·rename_i e a n c hu;split at h
  ·rename_i s hs hsp;cases hc:Nat.beq c (Q0+2)with
   | true=>rw[hc]at h;cases h
   | false =>
     rw[hc]at h;obtain⟨rfl,k,z,rfl,hz,he⟩:=B6w h hi hS;have hb:Nat.blt z n=true:=D4 hz;have hm:r7 P t (.slice (some a) n c) (.int k (.ofNat z))=some (.pointer (some ⟨a.block,a.off+z*s,none⟩)):=by
      simp only[r7,hu,hs,hsp,hb,cond_true,A1L,F5]
     obtain⟨v',g1,g2⟩:=A1h (P:=P) hm hx (.pure rfl) w;obtain⟨l2,hl2,_,rfl⟩:=S6 g2;have hl2:ρ a.block=some l2:=hl2;exact⟨_,g1,.ixp hl2 hsp he hz rfl⟩
  ·cases h
 ·cases h
theorem B6y{a:Addr}{s n:Nat}{i v':Value}(h:VR ρ (ixp a s i n) v'):∃ l z,ρ a.block=some l∧a.spot=none∧A6K Ora.env i=some (.ofNat z)∧z<n∧v'=.pointer (some ⟨l.blk,a.off+z*s+l.sh,none⟩):=by
 generalize hx:ixp a s i n=x at h;cases h with
 | ixp h hs hi hz hv =>
   simp only[ixp,Value.func.injEq,x8,B1,Value.pointer.injEq,D8,Value.int.injEq,A4F,true_and,and_true]at hx;obtain⟨rfl,rfl,rfl,rfl⟩:=hx;exact⟨_,_,h,hs,hi,hz,hv⟩
 | pure hp=>subst hx;simp[ixp,J8]at hp
 | _=>simp[ixp,Go.Sx.dat,Go.Sx.clp,Go.Sx.own,Go.Sx.dpt,Go.Sx.opt,Go.Sx.yv,Go.Sx.sdt]at hx
theorem B0c{s:TypeId}{x x' v:Value}{i:Nat}(h:A2L P m s x i=some (v,m'))(hx:VR ρ x x')(w:World):∃ r,(Instr.fieldAt s x' i).run P w=.ok r w∧VR ρ v r:=by
 unfold A2L at h;split at h
 ·rename_i a k j n;split at h
  ·rename_i fs hu;split at h
   ·rename_i f hf hsp;split at h
    ·rename_i z hz;cases h;obtain⟨l,y,h1,h2,h3,h4,rfl⟩:=B6y (n:=n) (s:=k) (i:=j) hx;have hm:A1i P s (.pointer (some ⟨a.block,a.off+y*k,none⟩)) i=some (.pointer (some ⟨a.block,a.off+y*k+f.offset,none⟩)):=by
      simp only[A1i,hu,hf,hz,A1L,F5]
     obtain⟨v',g1,g2⟩:=A4o (P:=P) (ρ:=ρ) hm (.ptr h1) w;obtain⟨l2,hl2,_,rfl⟩:=S6 g2;have hl2:ρ a.block=some l2:=hl2;rw[h1]at hl2;cases hl2;refine⟨_,g1,?_⟩;simp only[A1L,F5];refine .ixp (a:=⟨a.block,a.off+f.offset,none⟩) h1 rfl h3 h4 ?_;simp only[Value.pointer.injEq,D8,Addr.mk.injEq,true_and,and_true];omega
    ·cases h
   ·cases h
  ·cases h
 ·cases h
theorem A72{cs:List Value}{s:Nat}:∀ {n o:Nat} {l:List Value},A8l cs s o n=some l→l.length=n∧∀ z,z<n→cs[o+z*s]? = l[z]?
 | 0,o,l,h=>by cases h;exact⟨rfl,fun z hz=>by omega⟩
 | n+1,o,l,h=>by
   unfold A8l at h;split at h
   ·rename_i v r hv hr;cases h;obtain⟨h1,h2⟩:=A72 hr;refine⟨by simp[h1],fun z hz=>?_⟩;cases z with
    | zero=>simpa using hv
    | succ z =>
      have:=h2 z (by omega);rw[Nat.succ_mul,show o+(z*s+s)=o+s+z*s by omega]
      simpa using this
   ·cases h
theorem A73{cs cs':List Value}{s n:Nat}{i:Value}{z:Nat}(he:A6K Ora.env i=some (.ofNat z))(hz:z<n)(hl:LR ρ cs cs'):∀ {k o:Nat} {m m':Mem} {r:List Value},A1c m cs s n i o k=some (r,m')→Sat m'.lg →
  LR ρ r ((cs'.drop (o+z*s)).take k)∧r.length=k
 | 0,o,m,m',r,h,hS=>by cases h;exact⟨by simpa using LR.nil,rfl⟩
 | k+1,o,m,m',r,h,hS=>by
   unfold A1c at h;split at h
   ·rename_i v l hstr;obtain⟨hq,h⟩:=A5 h;obtain⟨hq,h10⟩:=D2 hq;have h10:H7 v<10:=A1 h10;split at h
    ·rename_i hh m1 h1;split at h
     ·rename_i r2 m2 h2;cases h;obtain⟨ih1,ih2⟩:=A73 he hz hl h2 hS;obtain⟨u,e1,e2,rr,e3,e4,_⟩:=P4 h1 (Y5.le hS (A2p h2).1);obtain⟨g1,g2⟩:=A72 hstr;have hget:=g2 z hz;have hzl:z<(v::l).length:=by rw[g1];exact hz
      rw[A6 hzl]at hget;obtain⟨c',f1,f2⟩:=hl.get hget;have htag:=A3k hq (A6 hzl);obtain⟨t1,_⟩:=A1U f2 (by omega);obtain⟨ki,ei⟩:=B26 he;simp only[G4,ei,evU]at e1;have e1:u=G7 Ora.env (v::l)[z]:=by
       rw[← e1];show(List.map (G7 Ora.env) (v::l)).getD z .none=_;rw[C4,K0,A6 hzl];rfl
      rw[e1,t1]at e3;cases e3;refine⟨?_,by simp[ih2]⟩;have:(cs'.drop (o+z*s)).take (k+1)=rr::(cs'.drop (o+1+z*s)).take k:=by
       rw[z0 (B5.1 f1).1,List.take_succ_cons,(B5.1 f1).2,show o+z*s+1=o+1+z*s by omega]
      rw[this];exact .cons (e4 ρ) ih1
     ·cases h
    ·cases h
   ·cases h
theorem B6m{t:TypeId}{a:Addr}{l:Loc}{z s n k:Nat}{i:Value}{cs hs:List Value}(h:HR P base ρ m.H w)(hr:A0l m a ((n-1)*s+k)=some cs)(hl:ρ a.block=some l)(he:A6K Ora.env i=some (.ofNat z))(hz:z<n)(hc:A1c m cs s n i 0 k=some (hs,m'))(hS:Sat m'.lg) :
  ∃ rs,LR ρ hs rs∧rs.length=k∧∀ (j:Nat) (v':Value),rs[j]? = some v'→w.cell? ⟨l.blk,a.off+z*s+l.sh+j,none⟩=some v':=by
 obtain⟨r',h1,h2,h3⟩:=y0 h hr hl;obtain⟨g1,g2⟩:=A73 he hz h1 hc hS;rw[F9]at g1;refine⟨_,g1,g1.1▸g2,fun j v' hj=>?_⟩;have hjk:j<k:=by
  have:=(B5.1 hj).1;simp at this;omega
 rw[G5 hjk,J4]at hj
 have:=h3 _ v' hj;rw[show a.off+z*s+l.sh+j=a.off+l.sh+(z*s+j) by omega];exact this
theorem B5J{t:TypeId}{x x' v:Value}(h:HR P base ρ m.H w)(ho:A6c P m t x=some (v,m'))(hx:VR ρ x x')(hS:Sat m'.lg):∃ r,(Instr.loadAt t x').run P w=.ok r w∧VR ρ v r:=by
 unfold A6c at ho;split at ho
 ·rename_i a s i n;obtain⟨l,z,h1,h2,h3,h4,rfl⟩:=B6y (n:=n) (s:=s) (i:=i) hx;split at ho
  ·rename_i ha;split at ho
   ·rename_i cs hr;split at ho
    ·rename_i hh m2 hc;cases ho;obtain⟨rs,g1,g2,g3⟩:=B6m (t:=t) h hr h1 h3 h4 hc hS;obtain⟨v',r2,rfl,e1,e2⟩:=g1.tail;refine⟨v',?_,e1⟩
     have:=g3 0 v' rfl;simp[Instr.loadAt,Instr.sureAddr,loadVar,Sem.run_bind,A1W ha,Result.andThen,run_load,show w.cell? ⟨l.blk,a.off+z*s+l.sh,none⟩=some v' from by simpa using this]
    ·cases ho
   ·cases ho
  ·rename_i zz ha hn;split at ho
   ·rename_i cs hr;split at ho
    ·rename_i hh m2 hc;cases ho;obtain⟨rs,g1,g2,g3⟩:=B6m (t:=t) h hr h1 h3 h4 hc hS;refine⟨.agg ⟨rs⟩,?_,.agg g1.1 g1.2⟩;simp[Instr.loadAt,Instr.sureAddr,loadVar,Sem.run_bind,A1W ha,N0 hn,Result.andThen,M1 g2 g3]
    ·cases ho
   ·cases ho
  ·cases ho
 ·cases ho
theorem C3M{fr:Fr}{g:Operand→Value}{o:Oper}{v:Value}(h:HR P base ρ m.H w)(ho:B9L P fr m o.op=some (v,m'))(hg:FR ρ fr g o.op)(hS:Sat m'.lg):NOk P base ρ m w (execOp g o) v m':=by
 obtain⟨_,lg,rfl⟩:=B6D ho;have hst:St P base ρ ρ m (m.wLg lg) w w:=St.wLg h lg;obtain⟨dst,op,ty,pos,af,gd⟩:=o;simp only at ho hg;have hx1:∀ {x},x ∈ op.operands.toList→VR ρ (ev fr x) (g x):=fun hx=>hg _ hx
 have fin:∀ {s:Sem Value},(∃ r,s.run P w=.ok r w∧VR ρ v r)→NOk P base ρ m w (do pure (.value (← s))) v (m.wLg lg):=fun{s} ⟨r,h1,h2⟩=>NOk.of ⟨r,ρ,w,h1,h2,hst⟩
 unfold B9L at ho;split at ho
 ·rename_i c a b;have hc:=hx1 (x:=c) (by simp[Op.operands]);unfold A8k at ho;obtain⟨H,n,W,hi,l0⟩:=m;simp only at ho;split at ho
  ·rename_i l1 hb;simp only[D8,R2]at ho;obtain⟨rfl,ho⟩:=ho;have hS1:Sat l1:=by
    have:l1=(Mem.wLg ⟨H,n,W,hi,l0⟩ lg).lg:=by rw[← ho]
    rw[this];exact hS
   have:=A6J hb hc hS1;exact⟨g a,ρ,w,.inl (by simp[execOp,this,asBool]),hx1 (by simp[Op.operands]),hst⟩
  ·rename_i l1 hb;simp only[D8,R2]at ho;obtain⟨rfl,ho⟩:=ho;have hS1:Sat l1:=by
    have:l1=(Mem.wLg ⟨H,n,W,hi,l0⟩ lg).lg:=by rw[← ho]
    rw[this];exact hS
   have:=A6J hb hc hS1;exact⟨g b,ρ,w,.inl (by simp[execOp,this,asBool]),hx1 (by simp[Op.operands]),hst⟩
  ·cases ho
 ·rename_i op t x y yt;have hx:=hx1 (x:=x) (by simp[Op.operands]);have hy:=hx1 (x:=y) (by simp[Op.operands]);refine fin (s:=do eqGuard op t x y (g x) (g y);binOp op t (g x) (g y)) ?_;split at ho
  ·rename_i r hr;cases ho;exact B7i hr hx hy hS w
  ·rename_i hr;exact B9M ho hx hy hr hS w
 ·rename_i op t x;exact fin (s:=Op.unary op (g x)) (B9J ho (hx1 (by simp[Op.operands])) hS w)
 ·exact fin (B5L ho (hx1 (by simp[Op.operands])) hS w)
 ·rename_i t x lo hi mx;exact fin (s:=Instr.sliceAt t (g x) (lo.map g) (hi.map g) (mx.map g)) (B3Q ho (hx1 (x:=x) (by simp[Op.operands])) (A3x (g:=g) fun y hy=>hx1 (by simp[Op.operands]at hy ⊢;exact .inr (.inl hy))) (A3x (g:=g) fun y hy=>hx1 (by simp[Op.operands]at hy ⊢;exact .inr (.inr (.inl hy)))) (A3x (g:=g) fun y hy=>hx1 (by simp[Op.operands]at hy ⊢;exact .inr (.inr (.inr hy)))) hS w)
 ·exact fin (B3S ho (hx1 (by simp[Op.operands])) (hx1 (by simp[Op.operands])) hS w)
 ·exact fin (B0a ho (hx1 (by simp[Op.operands])) (hx1 (by simp[Op.operands])) hS w)
 ·exact fin (B0c ho (hx1 (by simp[Op.operands])) w)
 ·rename_i t x;exact fin (s:=Instr.loadAt t (g x)) (B5J h ho (hx1 (by simp[Op.operands])) hS)
 ·rename_i b xs tys;have l1:=A2d (ρ:=ρ) (fr:=fr) (g:=g) (xs:=xs.toList) fun x hx=>hx1 (by show x ∈ (#[]++xs:Array Operand).toList;simpa using hx)
  obtain⟨ks,e2⟩:∃ ks,execOp g ⟨dst,.call ⟨.builtin b,xs,tys⟩,ty,pos,af,gd⟩=builtin b tys ty ks (xs.map g):=⟨_,rfl⟩;obtain⟨s,e,hs⟩:=B0e (ty:=ty) (ks:=ks) h ho l1 hS;have e1:xs.map g=⟨xs.toList.map g⟩:=by apply K8;simp
  rw[e2,e1];have e3:tys=⟨tys.toList⟩:=rfl;rw[e3,e];exact fin hs
 ·cases ho
end
end Go.Sx
namespace Go.Sx
set_option linter.all false
open Go
set_option linter.unusedVariables false
set_option linter.unusedSimpArgs false
variable [Ora]
section
variable {P:Program} {base:Nat} {ρ ρ':Ren} {m m':Mem} {w w':World}
theorem M6.step{m1:Mem}{hi:Nat}(hf:M6 ρ m.n hi)(st:St P base ρ ρ' m m1 w w'):M6 ρ' m1.n hi:=fun b h1 h2=>by
 cases hb:ρ' b with
 | none=>rfl
 | some l =>
   cases h0:ρ b with
   | some l0=>rw[hf b (D1 st.nle h1) h2]at h0;cases h0
   | none=>have:=(st.new b l hb h0).2;omega
theorem M6.less{n hi hi':Nat}(hf:M6 ρ n hi)(h:hi'≤hi):M6 ρ n hi':=fun b h1 h2=>hf b h1 (D9 h2 h)
def A3z(m:Mem)(t:Nat)(op:LOp)(xs:List Value):Lg:=⟨m.lg.nx+1,m.lg.pi,.dt m.lg.nx t op xs::m.lg.log⟩
theorem W8{t:Nat}{op:LOp}{xs:List Value}{k:Nat→Mem→Res}:B0p m t op xs k=k m.lg.nx (m.wLg (A3z m t op xs)):=by
 obtain⟨H,n,W,hi,⟨nx,pi,log⟩⟩:=m;simp only[B0p,F5,I6];rfl
theorem B4D{t:Nat}{op:LOp}{xs:List Value}{k:Nat→Mem→Option (List Value×Mem)}:r9.letDo t op xs m k=k m.lg.nx (m.wLg (A3z m t op xs)):=by
 obtain⟨H,n,W,hi,⟨nx,pi,log⟩⟩:=m;simp only[r9.letDo,F5,I6];rfl
@[simp] theorem A0A(lg:Lg):(m.wLg lg).lg=lg:=by cases m;rfl
@[simp] theorem A6U(lg:Lg):(m.wLg lg).H=m.H:=by cases m;rfl
@[simp] theorem C4t(lg:Lg):(m.wLg lg).n=m.n:=by cases m;rfl
@[simp] theorem B5D(lg:Lg):(m.wLg lg).hi=m.hi:=by cases m;rfl
@[simp] theorem D0t(lg:Lg):(m.wLg lg).W=m.W:=by cases m;rfl
theorem u6{t:Nat}{op:LOp}{xs:List Value}:m.lg.le (m.wLg (A3z m t op xs)).lg:=by
 rw[A0A];exact⟨[_],rfl⟩
theorem A5h{t:Nat}{op:LOp}{xs:List Value}{lg:Lg}(hS:Sat lg)(hl:(m.wLg (A3z m t op xs)).lg.le lg):Ora.env m.lg.nx=evU op (xs.map (G7 Ora.env))∧N7 (Ora.env m.lg.nx)=t∧∃ nul wd rows,Ora.env m.lg.nx=.seq nul wd rows∧t=10+wd:=by
 obtain⟨h1,h2,nul,wd,rows,h3⟩:=hS _ (hl.subset (by rw[A0A];exact D0));exact⟨h1,h2,nul,wd,rows,h3,by rw[← h2,h3];rfl⟩
theorem A16{b:Nat}(h:A5_ m b=true):Hp.get m.H b=some .frz:=by
 unfold A5_ at h;split at h
 ·assumption
 ·cases h
theorem B65{b:Nat}(h:A5_ m b=true):b≤I5:=by
 unfold A5_ at h;split at h
 ·exact A1 h
 ·cases h
theorem C06{b:Nat}(hr:HR P base ρ m.H w)(h:A5_ m b=true):∃ l,ρ b=some l:=by
 obtain⟨l,h1,_⟩:=hr.at_ b (B65 h) _ (A16 h);exact⟨l,h1⟩
theorem W7{k:Nat→Mem→Option (Value×Nat×Mem)}{r:Value×Nat×Mem}(h:A3A m k=some r):∃ m1,A0C m .frz (fun _=>undef)=some (undef,m1)∧k m.n m1=some r∧m1.H=m.H.set m.n (some .frz)∧m.n≤I5∧m1.lg=m.lg:=by
 obtain⟨H,n,W,hi,lg⟩:=m;simp only[A3A,F5,A2Q]at h;obtain⟨h1,h2⟩:=A5 h;refine⟨_,?_,h2,rfl,A1 h1,rfl⟩;simp only[A0C,F5,A2Q,h1,cond_true]
def A4J(G:Nat→Option Obj):Loc:=⟨0,0,0,0,G,false⟩
theorem St.region{m1:Mem}{G:Nat→Option Obj}(h:HR P base ρ m.H w)(hn:A0C m .frz (fun _=>undef)=some (undef,m1))(hf:M6 ρ m.n m1.hi)
  (hG:∀ k o,G k=some o→w.heap[k]? = some o∧∃ id ab l,id≤I5∧Hp.get m.H id=some ab∧ρ id=some l∧Tf ab l k∧ab.rw=false) :
  upd ρ m.n (A4J G) m.n=some (A4J G)∧Hp.get m1.H m.n=some .frz∧St P base ρ (upd ρ m.n (A4J G)) m m1 w w:=by
 obtain⟨h1,h2,h3⟩:=St.new0 (l':=A4J G) h hn hf ⟨rfl,fun k o hk=>(hG k o hk).1⟩ rfl fun q hq=>by
  rcases hq with⟨hq,_⟩|⟨_,o,hq⟩
  ·cases hq
  ·obtain⟨g1,id,ab,l,g2,g3,g4,g5,g6⟩:=hG q o hq;refine⟨⟨id,ab,l,g2,g3,g4,g5⟩,fun id2 hid2 a l2 ha hl hr ho e=>?_⟩
   have:=((h.atl hl ha).2 hr ho).2 id g2 ab l g3 g4 (e▸g5.2);subst this;rw[g3]at ha;have ha:=A8 ha;subst ha;rw[g6]at hr;cases hr
 refine⟨h2,?_,h3⟩;obtain⟨hle,_,rfl⟩:=P0 hn;show Hp.get (m.H.set m.n (some .frz)) m.n=_;rw[F1 _ _ _ _ hle hle,if_pos rfl]
theorem A5N{b i t:Nat}{v':Value}(h:VR ρ (dat b i t) v'):∃ l,ρ b=some l∧Enc l.G (Ora.env i) v'∧N7 (Ora.env i)=t∧10≤t:=by
 generalize hx:dat b i t=x at h;cases h with
 | dat h he ht h10 hf =>
   simp only[dat,Value.func.injEq,x8,B1,Value.pointer.injEq,D8,Addr.mk.injEq,Value.complex.injEq,true_and,and_true]at hx;obtain⟨rfl,rfl,rfl⟩:=hx;exact⟨_,h,he,ht,h10⟩
 | pure hp=>subst hx;simp[dat,J8]at hp
 | _=>simp[ixp,Go.Sx.dat,Go.Sx.clp,Go.Sx.own,Go.Sx.dpt,Go.Sx.opt,Go.Sx.yv,Go.Sx.sdt]at hx
theorem A2v{b i t:Nat}{v':Value}(h:VR ρ (clp b i t) v'):∃ l,ρ b=some l∧Enc l.G (Ora.env i) v'∧N7 (Ora.env i)=t∧10≤t∧C1d v':=by
 generalize hx:clp b i t=x at h;cases h with
 | clp h he ht h10 hf hc =>
   simp only[clp,Value.func.injEq,x8,B1,Value.pointer.injEq,D8,Addr.mk.injEq,Value.complex.injEq,true_and,and_true]at hx;obtain⟨rfl,rfl,rfl⟩:=hx;exact⟨_,h,he,ht,h10,hc⟩
 | pure hp=>subst hx;simp[clp,J8]at hp
 | _=>simp[ixp,Go.Sx.dat,Go.Sx.clp,Go.Sx.own,Go.Sx.dpt,Go.Sx.opt,Go.Sx.yv,Go.Sx.sdt]at hx
theorem A2u{b i t:Nat}{v':Value}(h:VR ρ (own b i t) v'):C0a ρ b (Ora.env i) v'∧N7 (Ora.env i)=t:=by
 generalize hx:own b i t=x at h;cases h with
 | own h ht hf =>
   simp only[own,Value.func.injEq,x8,B1,Value.pointer.injEq,D8,Addr.mk.injEq,Value.complex.injEq,true_and,and_true]at hx;obtain⟨rfl,rfl,rfl⟩:=hx;exact⟨h,ht⟩
 | pure hp=>subst hx;simp[own,J8]at hp
 | _=>simp[ixp,Go.Sx.dat,Go.Sx.clp,Go.Sx.own,Go.Sx.dpt,Go.Sx.opt,Go.Sx.yv,Go.Sx.sdt]at hx
theorem B2c{b i t o:Nat}{z v':Value}(h:VR ρ (dpt b i t z o) v'):D0I ρ b (Ora.env i) (A6K Ora.env z) o v'∧N7 (Ora.env i)=t:=by
 generalize hx:dpt b i t z o=x at h;cases h with
 | dpt h ht hf =>
   simp only[dpt,Value.func.injEq,x8,B1,Value.pointer.injEq,D8,Addr.mk.injEq,Value.complex.injEq,Value.int.injEq,A4F,true_and,and_true]at hx;obtain⟨rfl,⟨rfl,rfl⟩,rfl,rfl⟩:=hx;exact⟨h,ht⟩
 | pure hp=>subst hx;simp[dpt,J8]at hp
 | _=>simp[ixp,Go.Sx.dat,Go.Sx.clp,Go.Sx.own,Go.Sx.dpt,Go.Sx.opt,Go.Sx.yv,Go.Sx.sdt]at hx
theorem A8s{b i t o:Nat}{z v':Value}(h:VR ρ (opt b i t z o) v'):C9h ρ b (Ora.env i) (A6K Ora.env z) o v'∧N7 (Ora.env i)=t:=by
 generalize hx:opt b i t z o=x at h;cases h with
 | opt h ht hf =>
   simp only[opt,Value.func.injEq,x8,B1,Value.pointer.injEq,D8,Addr.mk.injEq,Value.complex.injEq,Value.int.injEq,A4F,true_and,and_true]at hx;obtain⟨rfl,⟨rfl,rfl⟩,rfl,rfl⟩:=hx;exact⟨h,ht⟩
 | pure hp=>subst hx;simp[opt,J8]at hp
 | _=>simp[ixp,Go.Sx.dat,Go.Sx.clp,Go.Sx.own,Go.Sx.dpt,Go.Sx.opt,Go.Sx.yv,Go.Sx.sdt]at hx
theorem B1e{b c tc g t i:Nat}{T:TypeId}{m1:Mem}{v':Value}(h:HR P base ρ m.H w)(hg:Hp.get m.H b=some (.sq c tc T g true))(hv:VR ρ (own b i t) v')(htc:tc=t)(hgf:Hp.get m.H g=some .frz)
  (hn:A0C m .frz (fun _=>undef)=some (undef,m1)) (hf:M6 ρ m.n m1.hi):∃ l,St P base ρ (upd ρ m.n l) m m1 w w∧upd ρ m.n l m.n=some l∧Hp.get m1.H m.n=some .frz∧Enc l.G (Ora.env c) v'∧N7 (Ora.env c)=t:=by
 obtain⟨hown,htag⟩:=A2u hv;rcases hown with⟨l,wd,h1,h2,h3,rfl⟩|⟨l,wd,rows,h1,h2,h3,h4,h40,rfl⟩
 ·obtain⟨hbr,_⟩:=h.atl h1 hg;obtain⟨wd2,inf,e1,e2,e3,e4⟩:=SqR.ex hbr;rcases e4 with⟨_,e4⟩|⟨e4,_⟩
  ·obtain⟨g1,g2,g3⟩:=St.region (G:=fun _=>none) h hn hf (fun k o hk=>by cases hk);exact⟨_,g3,g1,g2,by rw[e4];exact .nil,by rw[e4,← htc,e1];rfl⟩
  ·rw[h2]at e4;cases e4
 ·obtain⟨hbr,_⟩:=h.atl h1 hg;obtain⟨wd2,inf,e1,e2,e3,e4⟩:=SqR.ex hbr;rcases e4 with⟨e4,_⟩|⟨_,e4⟩
  ·rw[h2]at e4;cases e4
  ·obtain⟨C,fz,T',rows2,lg,f1,f2,f3,f4,f5,f6,f7,f8,f9⟩:=e4;obtain⟨hbg,_⟩:=h.atl f7 hgf;have hcomp:∀ k o,lg.G k=some o→w.heap[k]? = some o:=hbg.2;let G:Nat→Option Obj:=fun k=>if k=l.blk then some (.cells C T' fz)else lg.G k
   have hsub:∀ k o,lg.G k=some o→G k=some o:=fun k o hk=>by
    show(if k=l.blk then _ else _)=_;by_cases e:k=l.blk
    ·subst e;rw[if_pos rfl]
     have:=hcomp _ _ hk;rw[f1]at this;exact this
    ·rw[if_neg e];exact hk
   obtain⟨g1,g2,g3⟩:=St.region (G:=G) h hn hf fun k o hk=>by
    have hk:(if k=l.blk then some (.cells C T' fz)else lg.G k)=some o:=hk;by_cases e:k=l.blk
    ·subst e;rw[if_pos rfl]at hk;exact⟨by rw[f1];exact hk,b,_,l,h.dom _ _ h1,hg,h1,⟨rfl,.inl ⟨rfl,h2,rfl⟩⟩,rfl⟩
    ·rw[if_neg e]at hk;exact⟨hcomp _ _ hk,g,_,lg,h.dom _ _ f7,hgf,f7,⟨rfl,.inr ⟨rfl,o,hk⟩⟩,rfl⟩
   refine⟨_,g3,g1,g2,?_,by rw[f2,← htc,e1];rfl⟩;rw[f2,← f3];refine .sl (G:=G) (C:=C) (T:=T') (fz:=fz) (by omega) (fun _=>?_) (fun _=>?_) f6 fun r row j u v q1 q2 q3=>(f8 r row j u v q1 q2 q3).mono hsub
   ·show(if l.blk=l.blk then _ else _)=_;rw[if_pos rfl]
   ·have:=G0 wd2 f4;rw[← f3]at this;omega
theorem BR.thaw{c t g:Nat}{T:TypeId}{l:Loc}(h:BR P ρ (.sq c t T g false) l w):BR P ρ (.sq c t T g true) l w:=by
 obtain⟨wd,inf,h1,h2,h3,h4⟩:=SqR.ex h;refine⟨⟨wd,inf,h1,h2,h3,h4.imp (fun x=>x) fun⟨hon,h5⟩=>⟨hon,?_⟩⟩⟩;obtain⟨C,fz,T',rows,lg,h1,h2,h3,h4,h5,h6,h7,h8,h9⟩:=h5;exact⟨C,fz,T',rows,lg,h1,h2,h3,h4,h5,h6,h7,h8,fun h=>by cases h⟩
theorem A9G{id:Nat}{ab:AB}(h:A28 m id ab=some m'){j:Nat}(hj:j≤I5):Hp.get m'.H j=if j=id then some ab else Hp.get m.H j:=by
 obtain⟨hle,rfl⟩:=i6 h;exact F1 _ _ _ _ hle hj
theorem A4b{ab:AB}{k:Nat→Value}{v:Value}(h:A0C m ab k=some (v,m')){j:Nat}(hj:j≤I5):Hp.get m'.H j=if j=m.n then some ab else Hp.get m.H j:=by
 obtain⟨hle,_,rfl⟩:=P0 h;exact F1 _ _ _ _ hle hj
theorem B2A{t:Nat}{v v' x:Value}{b:Nat}(h:HR P base ρ m.H w)(ho:toD t v m=some (x,b,m'))(hf:M6 ρ m.n m'.hi)(hv:VR ρ v v')(hS:Sat m'.lg) :
  ∃ ρ' l,St P base ρ ρ' m m' w w∧ρ' b=some l∧Hp.get m'.H b=some .frz∧Enc l.G (G7 Ora.env x) v'∧N7 (G7 Ora.env x)=t∧m.lg.le m'.lg:=by
 unfold toD at ho;split at ho
 ·rename_i b0 i tg;obtain⟨h1,h2⟩:=A5 ho;cases h2;obtain⟨h1,h2⟩:=D2 h1;have h1:=A2 h1;obtain⟨l,e1,e2,e3,e4⟩:=A5N hv;exact⟨ρ,l,St.refl h,e1,A16 h2,e2,e3.trans h1,.refl _⟩
 ·rename_i b0 i tg;obtain⟨h1,h2⟩:=A5 ho;cases h2;obtain⟨h1,h2⟩:=D2 h1;have h1:=A2 h1;obtain⟨l,e1,e2,e3,e4,_⟩:=A2v hv;exact⟨ρ,l,St.refl h,e1,A16 h2,e2,e3.trans h1,.refl _⟩
 ·rename_i b0 i tg;split at ho
  ·rename_i c tc T g hg;obtain⟨h1,h2⟩:=A5 ho;obtain⟨h1,h3⟩:=D2 h1;obtain⟨h1,h4⟩:=D2 h1;have h1:=A2 h1;have h4:=A2 h4;obtain⟨m1,q1,q2,_,_,q5⟩:=W7 h2;cases q2;subst h1;obtain⟨l,e1,e2,e3,e4,e5⟩:=B1e h hg hv h4 (A16 h3) q1 hf;exact⟨_,l,e1,e2,e3,e4,e5,by rw[q5];exact .refl _⟩
  ·rename_i c tc T g hg;obtain⟨h1,h2⟩:=A5 ho;obtain⟨h1,h3⟩:=D2 h1;have hgm:=B65 h3;obtain⟨h1,h4⟩:=D2 h1;have h1:=A2 h1;have h4:=A2 h4;split at h2
   ·rename_i m1 hs;obtain⟨m2,q1,q2,_,_,q5⟩:=W7 h2;cases q2;subst h1;have hbl:∃ l0,ρ b0=some l0:=by
     rcases(A2u hv).1 with⟨l,_,h1,_⟩|⟨l,_,_,h1,_⟩<;>exact⟨l,h1⟩
    obtain⟨l0,hl0⟩:=hbl;have hgl:=(h.atl hl0 hg).1;have hst:=St.same0 h hs hg rfl hl0 hgl.thaw (fun q hq=>by
     rcases hq with⟨_,a,b⟩|⟨a,_⟩
     ·exact .inl ⟨rfl,a,b⟩
     ·cases a)
    have hle:=(i6 hs).1;have hne:g≠b0:=fun e=>by subst e;rw[A16 h3]at hg;cases hg
    have hg1:Hp.get m1.H b0=some (.sq c tc T g true):=by rw[A9G hs hle,if_pos rfl]
    have hfz1:Hp.get m1.H g=some .frz:=by rw[A9G hs hgm,if_neg hne];exact A16 h3
    have hn1:m1.n=m.n:=by rw[(i6 hs).2]
    obtain⟨l,e1,e2,e3,e4,e5⟩:=B1e hst.hr hg1 hv h4 hfz1 q1 (by rw[hn1];exact hf);refine⟨_,l,St.trans hf hst e1,e2,e3,e4,e5,by rw[q5,(i6 hs).2];exact .refl _⟩
   ·cases h2
  ·cases ho
 ·obtain⟨h10,ho⟩:=A5 ho;have h10:=A1 h10;rw[W8]at ho;simp only at ho;obtain⟨m1,q1,q2,_,_,q5⟩:=W7 ho;cases q2;cases T5 hv;have hlog:(m.wLg (A3z m t (.nilw (t-10)) [])).lg.le m'.lg:=by rw[q5];exact .refl _
  obtain⟨e1,e2,_⟩:=A5h hS hlog;have hst:=St.wLg h (A3z m t (.nilw (t-10)) []);obtain⟨g1,g2,g3⟩:=St.region (G:=fun _=>none) hst.hr q1 (by simpa using hf) (fun k o hk=>by cases hk);refine⟨_,_,St.trans (by simpa using hf) hst g3,g1,g2,?_,e2,u6.trans hlog⟩;show Enc _ (Ora.env m.lg.nx) _;rw[e1];exact .nil
 ·cases ho
end
end Go.Sx
namespace Go.Sx
set_option linter.all false
open Go
set_option linter.unusedVariables false
set_option linter.unusedSimpArgs false
variable [Ora]
section
variable {P:Program} {base:Nat} {ρ ρ':Ren} {m m':Mem} {w w':World}
def A0T(ρ:Ren)(m m':Mem):Prop:=∀ j l,ρ j=some l→Hp.get m.H j=some .frz→Hp.get m'.H j=some .frz
theorem A0T.refl:A0T ρ m m:=fun _ _ _ h=>h
theorem A0T.trans{m1:Mem}(he:∀ b l,ρ b=some l→ρ' b=some l)(a:A0T ρ m m1)(c:A0T ρ' m1 m'):A0T ρ m m':=fun j l h1 h2=>c j l (he j l h1) (a j l h1 h2)
theorem A0T.lg(lg:Lg):A0T ρ m (m.wLg lg):=fun j l _ h=>by rw[A6U];exact h
theorem B4I{ab:AB}{k:Nat→Value}{v:Value}(h:HR P base ρ m.H w)(hn:A0C m ab k=some (v,m'))(hf:M6 ρ m.n m'.hi):A0T ρ m m':=fun j l h1 h2=>by
 rw[A4b hn (h.dom j l h1),if_neg]
 ·exact h2
 ·intro e;subst e;obtain⟨_,_,rfl⟩:=P0 hn;rw[hf m.n (A7 _) (N3 _ _).2]at h1;cases h1
theorem C0w{ab:AB}{id:Nat}(h:HR P base ρ m.H w)(hs:A28 m id ab=some m')(hne:Hp.get m.H id≠some .frz):A0T ρ m m':=fun j l h1 h2=>by
 rw[A9G hs (h.dom j l h1),if_neg]
 ·exact h2
 ·intro e;subst e;exact hne h2
theorem B3L{t:Nat}{v x:Value}{b:Nat}(h:HR P base ρ m.H w)(ho:toD t v m=some (x,b,m'))(hf:M6 ρ m.n m'.hi):A0T ρ m m':=by
 unfold toD at ho;split at ho
 ·obtain⟨h1,h2⟩:=A5 ho;cases h2;exact .refl
 ·obtain⟨h1,h2⟩:=A5 ho;cases h2;exact .refl
 ·split at ho
  ·obtain⟨h1,h2⟩:=A5 ho;obtain⟨m1,q1,q2,_⟩:=W7 h2;cases q2;exact B4I h q1 hf
  ·rename_i c tc T g hg;obtain⟨h1,h2⟩:=A5 ho;split at h2
   ·rename_i m1 hs;obtain⟨m2,q1,q2,_⟩:=W7 h2;cases q2;have hk:=C0w h hs (by rw[hg];intro h;cases h);intro j l e1 e2;have e3:=hk j l e1 e2;rw[A4b q1 (h.dom j l e1),if_neg]
    ·exact e3
    ·intro e;subst e;have hn1:m1.n=m.n:=by rw[(i6 hs).2]
     obtain⟨_,_,rfl⟩:=P0 q1;rw[hf m1.n (by omega) (N3 _ _).2]at e1;cases e1
   ·cases h2
  ·cases ho
 ·obtain⟨h10,ho⟩:=A5 ho;rw[W8]at ho;simp only at ho;obtain⟨m1,q1,q2,_⟩:=W7 ho;cases q2;intro j l e1 e2;rw[A4b q1 (h.dom j l e1),if_neg,A6U]
  ·exact e2
  ·intro e;subst e;have hn1:(m.wLg (A3z m t (.nilw (t-10)) [])).n=m.n:=by simp
   obtain⟨_,_,rfl⟩:=P0 q1;rw[hf _ (by omega) (N3 _ _).2]at e1;cases e1
 ·cases ho
def x6(R:Nat→Option Obj)(us:List U)(vs:List Value):Prop:=us.length=vs.length∧∀ (i:Nat) (u:U) (v:Value),us[i]? = some u→vs[i]? = some v→Enc R u v
omit [Ora] in
theorem x6.nil{R:Nat→Option Obj}:x6 R [] []:=⟨rfl,fun i u v h=>by simp at h⟩
omit [Ora] in
theorem x6.cons{R:Nat→Option Obj}{u:U}{v:Value}{us:List U}{vs:List Value}(h:Enc R u v)(k:x6 R us vs):x6 R (u::us) (v::vs):=⟨by simp[k.1],fun i a b h1 h2=>by
 cases i with
 | zero=>simp at h1 h2;subst h1;subst h2;exact h
 | succ i=>exact k.2 i a b (by simpa using h1) (by simpa using h2)⟩
def Sub(G R:Nat→Option Obj):Prop:=∀ k o,G k=some o→R k=some o
theorem A3J{t:Nat}{v x:Value}{b:Nat}{m m':Mem}(ho:toD t v m=some (x,b,m')):m.hi≤m'.hi∧m.lg.le m'.lg∧m.n≤m'.n:=by
 have hfz:∀ {m m1:Mem},A0C m .frz (fun _=>undef)=some (undef,m1)→m.hi≤m1.hi∧m.lg.le m1.lg∧m.n≤m1.n:=fun hn=>by
  obtain⟨_,_,rfl⟩:=P0 hn;exact⟨(N3 _ _).1,.refl _,A0q _⟩
 unfold toD at ho;split at ho
 ·obtain⟨h1,h2⟩:=A5 ho;cases h2;exact⟨A7 _,.refl _,A7 _⟩
 ·obtain⟨h1,h2⟩:=A5 ho;cases h2;exact⟨A7 _,.refl _,A7 _⟩
 ·split at ho
  ·obtain⟨h1,h2⟩:=A5 ho;obtain⟨m1,q1,q2,_⟩:=W7 h2;cases q2;exact hfz q1
  ·obtain⟨h1,h2⟩:=A5 ho;split at h2
   ·rename_i m1 hs;obtain⟨m2,q1,q2,_⟩:=W7 h2;cases q2
    have:=hfz q1;obtain⟨_,rfl⟩:=i6 hs;exact this
   ·cases h2
  ·cases ho
 ·obtain⟨h10,ho⟩:=A5 ho;rw[W8]at ho;simp only at ho;obtain⟨m1,q1,q2,_⟩:=W7 ho;cases q2
  have:=hfz q1;exact⟨by simpa using this.1,u6.trans this.2.1,by simpa using this.2.2⟩
 ·cases ho
structure B0L (P:Program) (td:Td):Prop where
 ok:∀ {base:Nat} {ρ:Ren} {m m':Mem} {w:World} {t:Nat} {v v' x:Value} {b:Nat},HR P base ρ m.H w→td t v m=some (x,b,m')→M6 ρ m.n m'.hi→VR ρ v v'→Sat m'.lg →
  ∃ ρ' l,St P base ρ ρ' m m' w w∧ρ' b=some l∧Hp.get m'.H b=some .frz∧Enc l.G (G7 Ora.env x) v'∧N7 (G7 Ora.env x)=t∧m.lg.le m'.lg∧A0T ρ m m'
 mono:∀ {m m':Mem} {t:Nat} {v x:Value} {b:Nat},td t v m=some (x,b,m')→m.hi≤m'.hi∧m.lg.le m'.lg∧m.n≤m'.n
theorem B9E:B0L P toD:=⟨fun h ho hf hv hS=>let ⟨ρ',l,a1,a2,a3,a4,a5,a6⟩:=B2A h ho hf hv hS;⟨ρ',l,a1,a2,a3,a4,a5,a6,B3L h ho hf⟩,fun h=>A3J h⟩
theorem Y3{td:Td}(htd:B0L P td):∀ {ts:List Nat} {vs xs:List Value} {gs:List Nat} {m m':Mem},B0Y td ts vs m=some (xs,gs,m')→m.hi≤m'.hi∧m.lg.le m'.lg∧m.n≤m'.n
 | [],[],_,_,_,_,h=>by cases h;exact⟨A7 _,.refl _,A7 _⟩
 | t::ts,v::vs,xs,gs,m,m',ho=>by
   unfold B0Y at ho;cases ht:Nat.blt t 10 with
   | true =>
     rw[ht]at ho;simp only[cond_true]at ho;obtain⟨h1,ho⟩:=A5 ho;split at ho
     ·rename_i hr;cases ho;exact Y3 htd hr
     ·cases ho
   | false =>
     rw[ht]at ho;simp only[cond_false]at ho;split at ho
     ·rename_i hd;split at ho
      ·rename_i hr;cases ho;have a:=htd.mono hd;have b:=Y3 htd hr;exact⟨D1 a.1 b.1,a.2.1.trans b.2.1,D1 a.2.2 b.2.2⟩
      ·cases ho
     ·cases ho
 | [],_::_,_,_,_,_,ho=>by cases ho
 | _::_,[],_,_,_,_,ho=>by cases ho
theorem A3g{td:Td}(htd:B0L P td):∀ {ts:List Nat} {vs vs' xs:List Value} {gs:List Nat} {m m':Mem} {ρ:Ren},HR P base ρ m.H w→B0Y td ts vs m=some (xs,gs,m')→M6 ρ m.n m'.hi→LR ρ vs vs'→Sat m'.lg →
  ∃ ρ',St P base ρ ρ' m m' w w∧m.lg.le m'.lg∧A0T ρ m m'∧(∀ b ∈ gs,Hp.get m'.H b=some .frz∧∃ l,ρ' b=some l)∧(xs.map (G7 Ora.env)).map N7=ts ∧
   ∀ R,(∀ b ∈ gs,∀ l,ρ' b=some l→Sub l.G R)→x6 R (xs.map (G7 Ora.env)) vs'
 | [],[],vs',xs,gs,m,m',ρ,h,ho,hf,hv,hS=>by
   cases ho;exact⟨ρ,St.refl h,.refl _,.refl,fun b hb=>(by cases hb),rfl,fun R _=>by rw[hv.nil_inv];exact .nil⟩
 | t::ts,v::vs,vs',xs,gs,m,m',ρ,h,ho,hf,hv,hS=>by
   obtain⟨v',r',rfl,hv1,hv2⟩:=hv.tail;unfold B0Y at ho;cases ht:Nat.blt t 10 with
   | true =>
     rw[ht]at ho;simp only[cond_true]at ho;obtain⟨h1,ho⟩:=A5 ho;have h1:=A2 h1;have h10:t<10:=A1 ht;split at ho
     ·rename_i r gs2 m2 hr;cases ho;obtain⟨ρ2,e1,e2,e3,e4,e5,e6⟩:=A3g htd h hr hf hv2 hS;obtain⟨f1,f2⟩:=A1U hv1 (by omega);exact⟨ρ2,e1,e2,e3,e4,by simp[f2,h1,e5],fun R hR=>.cons (.sc f1) (e6 R hR)⟩
     ·cases ho
   | false =>
     rw[ht]at ho;simp only[cond_false]at ho;split at ho
     ·rename_i hh b m1 hd;split at ho
      ·rename_i r gs2 m2 hr;cases ho;have hmono:m1.hi≤m'.hi∧m1.lg.le m'.lg∧m1.n≤m'.n:=Y3 htd hr;have hf1:M6 ρ m.n m1.hi:=hf.less hmono.1;obtain⟨ρ1,l,a1,a2,a3,a4,a5,a6,a7⟩:=htd.ok h hd hf1 hv1 (hS.le hmono.2.1);have hf2:M6 ρ1 m1.n m'.hi:=hf.step a1;obtain⟨ρ2,e1,e2,e3,e4,e5,e6⟩:=A3g htd a1.hr hr hf2 (hv2.mono a1.ext) hS;refine⟨ρ2,St.trans hf a1 e1,a6.trans e2,a7.trans a1.ext e3,fun b' hb'=>?_,by simp[a5,e5],fun R hR=>.cons (a4.mono (hR b (.head _) l (e1.ext _ _ a2))) (e6 R fun b' hb'=>hR b' (.tail _ hb'))⟩;rcases C7.1 hb' with rfl|hb'
       ·exact⟨e3 _ l a2 a3,l,e1.ext _ _ a2⟩
       ·exact e4 b' hb'
      ·cases ho
     ·cases ho
 | [],_::_,_,_,_,_,_,_,_,ho,_,_,_=>by cases ho
 | _::_,[],_,_,_,_,_,_,_,ho,_,_,_=>by cases ho
theorem A2Y{gs:List Nat}{g:Nat}(h:HR P base ρ m.H w)(ho:A4A gs m=some (g,m'))(hf:M6 ρ m.n m'.hi) :
  ∃ ρ' lg,St P base ρ ρ' m m' w w∧m'.lg=m.lg∧A0T ρ m m'∧ρ' g=some lg∧Hp.get m'.H g=some .frz∧∀ b ∈ gs,∀ l,ρ b=some l→Sub l.G lg.G:=by
 have main:∀ {gs:List Nat},(bif gs.all (A5_ m)then match A3A m fun b m=>some (undef,b,m)with
  | some (_,b,m)=>some (b,m)
  | none=>none else none)=some (g,m')→∃ ρ' lg,St P base ρ ρ' m m' w w∧m'.lg=m.lg∧A0T ρ m m'∧ρ' g=some lg∧Hp.get m'.H g=some .frz∧∀ b ∈ gs,∀ l,ρ b=some l→Sub l.G lg.G:=fun{gs} ho=>by
  obtain⟨h1,ho⟩:=A5 ho;split at ho
  ·rename_i r b m1 hn;cases ho;obtain⟨m2,q1,q2,_,_,q5⟩:=W7 hn;cases q2;have hall:∀ b ∈ gs,Hp.get m.H b=some .frz:=fun b hb=>A16 (E7.1 h1 b hb)
   classical
   let G:Nat→Option Obj:=fun k=>if ∃ b ∈ gs,∃ l o,ρ b=some l∧l.G k=some o then w.heap[k]? else none
   obtain⟨g1,g2,g3⟩:=St.region (G:=G) h q1 hf fun k o hk=>by
    have hk:(if ∃ b ∈ gs,∃ l o,ρ b=some l∧l.G k=some o then w.heap[k]? else none)=some o:=hk;split at hk
    ·rename_i hex;obtain⟨b,hb,l,o2,e1,e2⟩:=hex;exact⟨hk,b,_,l,h.dom _ _ e1,hall b hb,e1,⟨rfl,.inr ⟨rfl,o2,e2⟩⟩,rfl⟩
    ·cases hk
   refine⟨_,A4J G,g3,q5,B4I h q1 hf,g1,g2,fun b hb l hl k o hk=>?_⟩;show(if ∃ b ∈ gs,∃ l o,ρ b=some l∧l.G k=some o then w.heap[k]? else none)=_;rw[if_pos ⟨b,hb,l,o,hl,hk⟩];exact(h.atl hl (hall b hb)).1.2 k o hk
  ·cases ho
 unfold A4A at ho;split at ho
 ·rename_i g0;obtain⟨h1,ho⟩:=A5 ho;cases ho;obtain⟨l,hl⟩:=C06 h h1;refine⟨ρ,l,St.refl h,rfl,.refl,hl,A16 h1,fun b hb l2 hl2=>?_⟩;rcases C7.1 hb with rfl|hb
  ·rw[hl]at hl2
   have:=A8 hl2;subst this;exact fun _ _ h=>h
  ·cases hb
 ·exact main ho
omit [Ora] in
theorem A5R{R:Nat→Option Obj}{u:U}{v r:Value}(h:Enc R u v)(hr:toV u=some r):v=r:=by
 cases h with
 | sc h=>rw[h]at hr;exact A8 hr
 | nil=>cases hr
 | emp=>cases hr
 | sl=>cases hr
omit [Ora] in
theorem A4s{R:Nat→Option Obj}{u:U}{v:Value}(h:Enc R u v):A02 v=true:=by
 cases h with
 | sc h=>have:=A3I h;cases v<;>first|rfl|cases this
 | nil=>rfl
 | emp=>rfl
 | sl=>rfl
theorem C4A{wd o k:Nat}{rows:List (List U)}{kk:IntKind}:evU (.get wd o) [.seq false wd rows,.int kk (.ofNat k)]=(rows.getD k []).getD o .none:=by
 simp[evU]
theorem getD_some{row:List U}{o:Nat}(h:row.getD o .none≠.none):row[o]? = some (row.getD o .none):=by
 rw[C4]at *;cases e:row[o]? with
 | none=>rw[e]at h;exact absurd rfl h
 | some u=>rfl
theorem A2w{wd o i t g k:Nat}{z:Value}{lg:Loc}{rows:List (List U)}{cell:Nat→Option Value}(hi:Ora.env i=.seq false wd rows)(hz:A6K Ora.env z=some (.ofNat k))(hg:ρ g=some lg)
  (hc:∀ q u,(rows.getD k [])[q]? = some u→∃ v,cell q=some v∧Enc lg.G u v) :
  ∀ {ts:List Nat} {j:Nat} {m m':Mem} {r:List Value},r9 wd o i t z g ts j m=some (r,m')→Sat m'.lg→∃ r',LR ρ r r'∧r'.length=ts.length∧(∀ q v',r'[q]? = some v'→cell (o+j+q)=some v')∧M2 m m'∧m.lg.le m'.lg
 | [],j,m,m',r,h,hS=>by
   cases h;exact⟨[],.nil,rfl,fun q v' h=>by simp at h,.refl _,.refl _⟩
 | tg::ts,j,m,m',r,h,hS=>by
   unfold r9 at h;obtain⟨kk,hz2⟩:=B26 hz;have harg:[hole i t,z].map (G7 Ora.env)=[.seq false wd rows,.int kk (.ofNat k)]:=by
    simp only[G4,J6,hz2];show[Ora.env i,_]=_;rw[hi]
   have hcell:∀ {u:U},u≠.none→evU (.get wd (o+j)) ([hole i t,z].map (G7 Ora.env))=u→∃ v,cell (o+j)=some v∧Enc lg.G u v:=fun{u} hu he=>by
    rw[harg,C4A]at he;subst he;exact hc _ _ (getD_some hu)
   cases ht:Nat.blt tg 10 with
   | true =>
     rw[ht]at h;simp only[cond_true]at h;have h10:tg<10:=A1 ht;split at h
     ·rename_i hh m1 hl;split at h
      ·rename_i r2 m2 hr;cases h;obtain⟨r',e1,e2,e3,e4,e5⟩:=A2w hi hz hg hc hr hS;obtain⟨u,f1,f2,v,f3,f4,f5⟩:=P4 hl (hS.le e5);obtain⟨v2,g1,g2⟩:=hcell (u:=u) (by intro e;subst e;cases f3) f1
       have:=A5R g2 f3;subst this;refine⟨v2::r',.cons (f4 ρ) e1,by simp[e2],fun q v' hq=>?_,(K5 hl).trans e4,(L4 hl).trans e5⟩;cases q with
       | zero=>simp at hq;subst hq;exact g1
       | succ q=>rw[show o+j+(q+1)=o+(j+1)+q by omega];exact e3 q v' (by simpa using hq)
      ·cases h
     ·cases h
   | false =>
     rw[ht]at h;simp only[cond_false]at h;rw[B4D]at h;split at h
     ·rename_i r2 m2 hr;cases h;obtain⟨r',e1,e2,e3,e4,e5⟩:=A2w hi hz hg hc hr hS;obtain⟨f1,f2,nul,wd2,rows2,f3,f4⟩:=A5h hS e5;obtain⟨v2,g1,g2⟩:=hcell (u:=Ora.env m.lg.nx) (by rw[f3];intro h;cases h) f1.symm;refine⟨v2::r',.cons (.dat hg g2 f2 (by omega) (A4s g2)) e1,by simp[e2],fun q v' hq=>?_,M2.trans ⟨_,rfl⟩ e4,u6.trans e5⟩;cases q with
      | zero=>simp at hq;subst hq;exact g1
      | succ q=>rw[show o+j+(q+1)=o+(j+1)+q by omega];exact e3 q v' (by simpa using hq)
     ·cases h
theorem A3h{t:TypeId}{ts:List Nat}(h:A5o P t=some ts):H8 P t=some ts.length:=by
 unfold A5o at h;split at h
 ·rename_i l n h1 h2;obtain⟨h3,h⟩:=A5 h;cases h;rw[h2,A2 h3]
 ·cases h
theorem B11{t:TypeId}{ts:List Nat}{r r':List Value}{v:Value}{b o:Nat}(hts:A5o P t=some ts)(ha:A4z P t (some (r,m))=some (v,m'))(hl:LR ρ r r')(hn:r'.length=ts.length)
  (hc:∀ q v',r'[q]? = some v'→w.cell? ⟨b,o+q,none⟩=some v'):m'=m∧∃ v',(Instr.loadAt t (.pointer (some ⟨b,o,none⟩))).run P w=.ok v' w∧VR ρ v v':=by
 unfold A4z at ha;split at ha
 ·rename_i hag heq;cases ha;cases heq;obtain⟨v',r2,rfl,e1,e2⟩:=hl.tail;refine⟨rfl,v',?_,e1⟩
  have:=hc 0 v' rfl;simp[Instr.loadAt,Instr.sureAddr,loadVar,Sem.run_bind,A1W hag,Result.andThen,run_load,show w.cell? ⟨b,o,none⟩=some v' from by simpa using this]
 ·rename_i hag heq;cases ha;cases heq;refine⟨rfl,.agg ⟨r'⟩,?_,.agg hl.1 hl.2⟩;have hsz:H8 P t=some r'.length:=by rw[hn];exact A3h hts
  simp[Instr.loadAt,Instr.sureAddr,loadVar,Sem.run_bind,A1W hag,N0 hsz,Result.andThen,M1 rfl hc]
 ·cases ha
theorem C0k{t:TypeId}{x x' v:Value}(h:HR P base ρ m.H w)(ho:B4B P m t x=some (v,m'))(hx:VR ρ x x')(hS:Sat m'.lg):(∃ r,(Instr.loadAt t x').run P w=.ok r w∧VR ρ v r)∧M2 m m'∧m.lg.le m'.lg:=by
 have hmm:∀ {r:Option (List Value×Mem)},A4z P t r=some (v,m')→∃ vs,r=some (vs,m'):=fun{r} ha=>by
  unfold A4z at ha;split at ha
  ·cases ha;exact⟨_,rfl⟩
  ·cases ha;exact⟨_,rfl⟩
  ·cases ha
 unfold B4B at ho;split at ho
 ·rename_i b i tg z o ts hts;obtain⟨h1,ho⟩:=A5 ho;obtain⟨⟨l,wd,rows,a,s,c,k,e1,e2,e3,e4,e5,e6,rfl⟩,e8⟩:=B2c hx;obtain⟨vs,hr⟩:=hmm ho;rw[hr]at ho;have htg:tg-10=wd:=by rw[← e8,e2];simp[N7]
  rw[htg]at hr;have hbg:=(h.atl e1 (A16 h1)).1.2;rw[e2]at e3;obtain⟨C,T,fz,f1,f2,f3,f4⟩:∃ C T fz,l.G a=some (.cells C T fz)∧s+rows.length*wd≤C.size∧(∀ row ∈ rows,row.length=wd)∧∀ (r:Nat) (row:List U) (j:Nat) (u:U) (v:Value),rows[r]? = some row→row[j]? = some u→C[s+r*wd+j]? = some v→Enc l.G u v:=by
   have hne:rows≠[]:=by intro e;subst e;simp at e5
   cases e3 with
   | sc h=>cases h
   | emp=>exact absurd rfl hne
   | sl hc hg hz hw hh=>exact⟨_,_,_,hg hne,hz hne,hw,hh⟩
  have hheap:=hbg _ _ f1;have hrow:rows[k]? = some rows[k]:=A6 e5;obtain⟨r',g1,g2,g3,g4,g5⟩:=A2w (cell:=fun q=>w.cell? ⟨a,s+k*wd+q,none⟩) e2 e4 e1 (fun q u hq=>by
   rw[C4,hrow]at hq;have hq:rows[k][q]? = some u:=hq;have hql:=(B5.1 hq).1;rw[f3 _ (E8 hrow)]at hql;have hk:(k+1)*wd≤rows.length*wd:=G0 wd e5;rw[I4]at hk;have hlt:s+k*wd+q<C.size:=by omega
   refine⟨C[s+k*wd+q],?_,f4 k _ q u _ hrow hq (K3 hlt)⟩;simp[World.cell?,hheap,K3 hlt]) hr hS
  obtain⟨_,q1⟩:=B11 (w:=w) (b:=a) (o:=s+k*wd+o) hts ho g1 g2 (fun q v' hq=>by
   have:=g3 q v' hq;rw[show s+k*wd+o+q=s+k*wd+(o+0+q) by omega];exact this)
  exact⟨q1,g4,g5⟩
 ·rename_i b i tg z o ts hts;split at ho
  ·rename_i c tc T g ro hg;obtain⟨h1,ho⟩:=A5 ho;have h1:=A2 h1;subst h1;obtain⟨⟨l,wd,A9M,k,e1,e2,e3,e4,e5,e6,rfl⟩,e8⟩:=A8s hx;obtain⟨vs,hr⟩:=hmm ho;rw[hr]at ho;obtain⟨wd2,inf,d1,d2,d3,d4⟩:=SqR.ex (h.atl e1 hg).1;rcases d4 with⟨d4,_⟩|⟨_,d4⟩
   ·rw[e2]at d4;cases d4
   obtain⟨C,fz,T',rows,lg,f1,f2,f3,f4,f5,f6,f7,f8,f9⟩:=d4;have htg:tc-10=wd2:=by omega
   rw[htg]at hr;have hkl:k<rows.length:=by omega
   have hrow:rows[k]? = some rows[k]:=A6 hkl;have hwd:wd=wd2:=by
    have:N7 (Ora.env i)=10+wd:=by rw[e3];rfl
    omega
   subst hwd;obtain⟨r',g1,g2,g3,g4,g5⟩:=A2w (cell:=fun q=>w.cell? ⟨l.blk,l.sh+k*wd+q,none⟩) f2 e4 f7 (fun q u hq=>by
    rw[C4,hrow]at hq;have hq:rows[k][q]? = some u:=hq;have hql:=(B5.1 hq).1;rw[f6 _ (E8 hrow)]at hql;have hk:(k+1)*wd≤l.cap*wd:=G0 wd (by omega);rw[I4]at hk;have hlt:l.sh+k*wd+q<C.size:=by omega
    refine⟨C[l.sh+k*wd+q],?_,f8 k _ q u _ hrow hq (K3 hlt)⟩;simp[World.cell?,f1,K3 hlt]) hr hS
   obtain⟨_,q1⟩:=B11 (w:=w) (b:=l.blk) (o:=l.sh+k*wd+o) hts ho g1 g2 (fun q v' hq=>by
    have:=g3 q v' hq;rw[show l.sh+k*wd+o+q=l.sh+k*wd+(o+0+q) by omega];exact this)
   exact⟨q1,g4,g5⟩
  ·cases ho
 ·cases ho
end
end Go.Sx
