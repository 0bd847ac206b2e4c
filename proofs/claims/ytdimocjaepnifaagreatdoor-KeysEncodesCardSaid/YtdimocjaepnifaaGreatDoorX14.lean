/- The law KeysEncodes: for every input the call returns true, and the arguments read behind it as they read before. No condition. -/
import Derived.Test.YtdimocjaepnifaaGreatDoorX13
namespace Go.Proofs.YtdimocjaepnifaaGreatDoor
set_option linter.all false
open Go Go.Sx
set_option maxRecDepth 100000
set_option linter.unusedVariables false
set_option linter.unusedSimpArgs false
def nE(l:List UInt8):List UInt8:=l.filter fun x=>!isE x
theorem B3l{α:Type}(x:Option (List α)):A4F x (some [])=x:=by
 unfold A4F;cases x<;>simp[el]
theorem A9i{α:Type}(x:Option (List α))(u v:List α):A4F (A4F x (some u)) (some v)=A4F x (some (u++v)):=by
 cases u with
 | nil=>rw[B3l];rfl
 | cons a u=>cases v with
   | nil=>simp[A4F,el]
   | cons c v=>simp[A4F,el]
theorem B1E{l:List UInt8}{i:Int}(h0:0≤i)(h1:i<1000):(l.take 1000).getD i.toNat default=l.getD i.toNat default:=by
 rw[C4,C4,F5 (by omega)]
theorem B7L{l:List UInt8}{i:Int}(h:(l.length:Int)≤i∨1000≤i):nE ((l.take 1000).drop i.toNat)=[]:=by
 rw[A72 (l.take 1000) (by rw[B2];omega)];rfl
theorem C3P{l:List UInt8}{i:Int}(h0:0≤i)(h1:i<(l.length:Int))(hk:i<1000)(h2:¬(((l.getD i.toNat 0).toNat:Nat):Int)≠27):nE ((l.take 1000).drop i.toNat)=nE ((l.take 1000).drop (i+1).toNat):=by
 rw[A0v (l.take 1000) h0 (by rw[B2];omega),B1E h0 hk,B0X,show l.getD i.toNat 0=27 from C1G (by omega)];rfl
theorem C3Q{l:List UInt8}{i:Int}(h0:0≤i)(h1:i<(l.length:Int))(hk:i<1000)(h2:(((l.getD i.toNat 0).toNat:Nat):Int)≠27):nE ((l.take 1000).drop i.toNat)=l.getD i.toNat 0::nE ((l.take 1000).drop (i+1).toNat):=by
 rw[A0v (l.take 1000) h0 (by rw[B2];omega),B1E h0 hk,B0X];have:isE (l.getD i.toNat 0)=false:=decide_eq_false fun h=>h2 (by rw[h];rfl)
 unfold nE;rw[List.filter_cons,this];rfl
theorem C2c(l:List UInt8):(nE l).length≤l.length:=List.length_filter_le _ _
noncomputable def C17:List (FuncId×FnC):=(34,N3 Tryz.prog [.s 3,.s 3] R6 [.s 8])::(32,N3 Tryz.prog [.a [3,3,3,3,3,3,3,9]] A6G [.s 8])::L0
theorem B8x{G:Nat→Option Obj}(hst:D2 Tryz.prog G gl H0 n0):J3 Tryz.prog G gl C17:=(.cons (B3_ hst) (.cons (B6z hst) .nil))
def A4M:List U→Option (Nat×List U)
 | [u_out,.int .i64 i,.int .u8 d0,.int .u8 d1,.int .u8 d2,.int .u8 d3,.int .u8 d4,.int .u8 d5,.int .u8 d6,.int .u32 dc,.str t]=>(A4E rB u_out).bind fun out=>if 0≤i∧i≤1000∧((el out).length:Int)≤i∧(t.length:Int)≤140737488351232 then some (0,[K3 rB (A4F out (some (bI (nE ((t.take 1000).drop i.toNat)))))])else none
 | _=>none
theorem t6(out:(Option (List Int)))(i:Int)(d0:Int)(d1:Int)(d2:Int)(d3:Int)(d4:Int)(d5:Int)(d6:Int)(dc:Int)(t:(List UInt8))(hc:0≤i∧i≤1000∧((el out).length:Int)≤i∧(t.length:Int)≤140737488351232):A4M [K3 rB out,.int .i64 i,.int .u8 d0,.int .u8 d1,.int .u8 d2,.int .u8 d3,.int .u8 d4,.int .u8 d5,.int .u8 d6,.int .u32 dc,.str t]=some (0,[K3 rB (A4F out (some (bI (nE ((t.take 1000).drop i.toNat)))))]):=by
 simp only[A4M,t7,S1];exact if_pos hc
def C1Q:n8:=⟨[(1,.pointer (some ⟨6,0,none⟩)),(2,.pointer (some ⟨7,0,none⟩)),(4,own 8 0 11),(5,h 1 3)],[(6,.cells 26 [h 2 4,h 3 4,h 4 4,h 5 4,h 6 4,h 7 4,h 8 4,h 9 6,h 10 9]),(7,.cells 23 [.int .i64 (0),.int .i64 (0),.int .i64 (0),.int .i64 (0),.int .i64 (0),.int .i64 (0),.int .i64 (0),.string ⟨⟨[]⟩⟩]),(8,.sq 0 11 5 9),(9,.frz)],11,[⟨.exit 1,[(2,.pointer (some ⟨7,0,none⟩)),(4,own 10 0 11)],[(7,.cells 23 [.int .i64 (0),.int .i64 (0),.int .i64 (0),.int .i64 (0),.int .i64 (0),.int .i64 (0),.int .i64 (0),.string ⟨⟨[]⟩⟩]),(10,.sq 0 11 5 11),(11,.frz)],1⟩]⟩
noncomputable def B74:Code:=(Tryz.f12.body).getD .skip
noncomputable def C1M:Code:=match K4 [true,false,true,false,true,true,true,false,true,false,true,false] B74 with|some (.loop x)=>x|_=>.skip
theorem C1P:Tryz.f12.body=some B74:=rfl
theorem C1O:K4 [true,false,true,false,true,true,true,false,true,false,true,false] B74=some (.loop C1M):=by kernel_rfl
def C1N:Tr:=.lt 3 (.len) [h 10 9]<|.lt 8 (.bin .lss) [h 1 3,h 11 3]<|.br 12 (.lt 8 (.bin .lss) [h 1 3,jI 1000]<|.br 13 (.lt 4 (.idx) [h 10 9,h 1 3]<|.lt 8 (.bin .neq) [h 14 4,.int .u8 (27)]<|.br 15 (.lt 4 (.idx) [h 10 9,h 1 3]<|.dt 11 (.snoc 1) [h 0 11,h 16 4]<|.lt 3 (.bin .add) [h 1 3,jI 1]<|.ret [jI (-1),h 17 11,h 18 3,h 2 4,h 3 4,h 4 4,h 5 4,h 6 4,h 7 4,h 8 4,h 9 6,h 10 9]) (.lt 3 (.bin .add) [h 1 3,jI 1]<|.ret [jI (-1),h 0 11,h 16 3,h 2 4,h 3 4,h 4 4,h 5 4,h 6 4,h 7 4,h 8 4,h 9 6,h 10 9])) (.ret [jI 0,h 0 11])) (.ret [jI 0,h 0 11])
def B73:List U→Nat
 | [u_out,.int .i64 i,.int .u8 d0,.int .u8 d1,.int .u8 d2,.int .u8 d3,.int .u8 d4,.int .u8 d5,.int .u8 d6,.int .u32 dc,.str t]=>(match A4E rB u_out with|some out=>(1000-i).toNat|none=>0)
 | _=>0
theorem B0m(out:(Option (List Int)))(i:Int)(d0:Int)(d1:Int)(d2:Int)(d3:Int)(d4:Int)(d5:Int)(d6:Int)(dc:Int)(t:(List UInt8)):B73 [K3 rB out,.int .i64 i,.int .u8 d0,.int .u8 d1,.int .u8 d2,.int .u8 d3,.int .u8 d4,.int .u8 d5,.int .u8 d6,.int .u32 dc,.str t]=(1000-i).toNat:=by
 simp only[B73,t7]
theorem C3t{G:Nat→Option Obj}(hst:D2 Tryz.prog G gl H0 n0):∀ (E:Nat→U) (base:Nat),@y5 ⟨E,G⟩ Tryz.prog base gl Tryz.f12.ntmps C1M (A1b Tryz.prog gl n0 12 C1Q A4M):=by
 refine A5D (C:=cx C17 A8M) (dep:=60) (f:=12) (n0:=n0) (nB:=12) (H0:=H0) B73 C1N (cxg (B8x hst) (A2H hst)) hst Tryz.func12 C1P C1O (by kernel_rfl) (by kernel_rfl) (by kernel_rfl) ?_;intro us d outs hs;have hs0:=hs;unfold A4M at hs;split at hs
 ·skip;rename_i u_out i d0 d1 d2 d3 d4 d5 d6 dc t;have hq_out:=L7.1 hs;clear hs;obtain⟨out,hd_out,hs⟩:=hq_out;replace hd_out:=A37 hd_out;subst hd_out;split at hs
  ·rename_i hc;clear hs hs0;refine⟨rfl,?_⟩;unfold C1N;refine s0 (.cons 10 _ (.cons 9 _ (.cons 8 _ (.cons 7 _ (.cons 6 _ (.cons 5 _ (.cons 4 _ (.cons 3 _ (.cons 2 _ (.cons 1 _ (.cons 0 _ (.nil)))))))))))) rfl (by simp[Ev.ok,Ev.len]) ?_;refine s1 (A7q _) rfl rfl rfl ?_;refine s1 (L3 _ _ _) rfl rfl rfl ?_;refine s5 rfl (fun g0=>?_) fun g0=>?_
   ·refine s7 [.int .i64 _,K3 rB _] rfl ?_;refine m7 (d:=0) ?_;rw[t6 out i d0 d1 d2 d3 d4 d5 d6 dc t hc,B7L (i:=i) (by omega)];exact congrArg (fun z=>some (0,[K3 rB z])) (B3l out)
   refine s1 (L3 _ _ _) rfl rfl rfl ?_;refine s5 rfl (fun g1=>?_) fun g1=>?_
   ·refine s7 [.int .i64 _,K3 rB _] rfl ?_;refine m7 (d:=0) ?_;rw[t6 out i d0 d1 d2 d3 d4 d5 d6 dc t hc,B7L (i:=i) (by omega)];exact congrArg (fun z=>some (0,[K3 rB z])) (B3l out)
   refine s1 (B3f _ _ _ (by omega) (by simp[*]<;>omega)) rfl rfl rfl ?_;refine s1 (H3 _ _ _) rfl rfl rfl ?_;refine s4 rfl (fun g2=>?_) fun g2=>?_
   ·refine s1 (B3f _ _ _ (by omega) (by simp[*]<;>omega)) rfl rfl rfl ?_;refine s2 (r:=rB) (B7q rfl rfl (by decide) (by simp[*]<;>omega)) rfl rfl ?_;first|refine s1 (D8 (C7 (by omega) (by omega))) rfl rfl rfl ?_|refine s1 (E8 _ _ _) rfl rfl rfl ?_
    refine s7 [.int .i64 _,K3 rB _,.int .i64 _,.int .u8 _,.int .u8 _,.int .u8 _,.int .u8 _,.int .u8 _,.int .u8 _,.int .u8 _,.int .u32 _,.str _] rfl ?_;refine A0r ?_ ?_
    ·first
     | (have hx:∀ X,X=A4F out (some (bI [t.getD i.toNat 0]))→A4M [K3 rB X,.int .i64 (i+1),.int .u8 d0,.int .u8 d1,.int .u8 d2,.int .u8 d3,.int .u8 d4,.int .u8 d5,.int .u8 d6,.int .u32 dc,.str t]=A4M [K3 rB out,.int .i64 i,.int .u8 d0,.int .u8 d1,.int .u8 d2,.int .u8 d3,.int .u8 d4,.int .u8 d5,.int .u8 d6,.int .u32 dc,.str t]:=fun X hX=>by
         rw[t6 X (i+1) d0 d1 d2 d3 d4 d5 d6 dc t ⟨by omega,by omega,by rw[hX,B0k,A1l,A2,B8J,A4,A3];omega,hc.2.2.2⟩,t6 out i d0 d1 d2 d3 d4 d5 d6 dc t hc,hX,A9i,← B8K,C3Q (i:=i) (by omega) (by omega) (by omega) ‹_›];rfl
        exact hx _ rfl)
     | (rw[t6 out (i+1) d0 d1 d2 d3 d4 d5 d6 dc t ⟨by omega,by omega,by omega,hc.2.2.2⟩,t6 out i d0 d1 d2 d3 d4 d5 d6 dc t hc,C3P (i:=i) (by omega) (by omega) (by omega) ‹_›];done)
    ·rw[B0m,B0m];omega
   first|refine s1 (D8 (C7 (by omega) (by omega))) rfl rfl rfl ?_|refine s1 (E8 _ _ _) rfl rfl rfl ?_
   refine s7 [.int .i64 _,K3 rB _,.int .i64 _,.int .u8 _,.int .u8 _,.int .u8 _,.int .u8 _,.int .u8 _,.int .u8 _,.int .u8 _,.int .u32 _,.str _] rfl ?_;refine A0r ?_ ?_
   ·first
    | (have hx:∀ X,X=A4F out (some (bI [t.getD i.toNat 0]))→A4M [K3 rB X,.int .i64 (i+1),.int .u8 d0,.int .u8 d1,.int .u8 d2,.int .u8 d3,.int .u8 d4,.int .u8 d5,.int .u8 d6,.int .u32 dc,.str t]=A4M [K3 rB out,.int .i64 i,.int .u8 d0,.int .u8 d1,.int .u8 d2,.int .u8 d3,.int .u8 d4,.int .u8 d5,.int .u8 d6,.int .u32 dc,.str t]:=fun X hX=>by
        rw[t6 X (i+1) d0 d1 d2 d3 d4 d5 d6 dc t ⟨by omega,by omega,by rw[hX,B0k,A1l,A2,B8J,A4,A3];omega,hc.2.2.2⟩,t6 out i d0 d1 d2 d3 d4 d5 d6 dc t hc,hX,A9i,← B8K,C3Q (i:=i) (by omega) (by omega) (by omega) ‹_›];rfl
       exact hx _ rfl)
    | (rw[t6 out (i+1) d0 d1 d2 d3 d4 d5 d6 dc t ⟨by omega,by omega,by omega,hc.2.2.2⟩,t6 out i d0 d1 d2 d3 d4 d5 d6 dc t hc,C3P (i:=i) (by omega) (by omega) (by omega) ‹_›];done)
   ·rw[B0m,B0m];omega
  ·cases hs
 ·cases hs
noncomputable def B2u:List LpE:=(12,([true,false,true,false,true,true,true,false,true,false,true,false],A1b Tryz.prog gl n0 12 C1Q A4M))::A8M
theorem A5b{G:Nat→Option Obj}(hst:D2 Tryz.prog G gl H0 n0):A2t Tryz.prog G gl B2u:=.cons Tryz.func12 C1P C1O (C3t hst) (A2H hst)
theorem A9T{a:Int}(h0:0≤a)(h1:a<256):evU (.bin .and) [.int .u8 a,.int .u8 6]=.int .u8 (a / 2%4*2):=by
 rw[A7r];have k:∀ n:Nat,n<256→IntKind.u8.wrap (BitVec.ofInt IntKind.u8.bits (n:Int) &&& BitVec.ofInt IntKind.u8.bits 6).toNat=(n:Int) / 2%4*2:=by decide
 obtain⟨n,rfl⟩:∃ n:Nat,a=n:=⟨a.toNat,by omega⟩;exact congrArg _ (k n (by omega))
theorem A9U{a:Int}(h0:0≤a)(h1:a<256):evU (.bin .and) [.int .u8 a,.int .u8 2]=.int .u8 (a / 2%2*2):=by
 rw[A7r];have k:∀ n:Nat,n<256→IntKind.u8.wrap (BitVec.ofInt IntKind.u8.bits (n:Int) &&& BitVec.ofInt IntKind.u8.bits 2).toNat=(n:Int) / 2%2*2:=by decide
 obtain⟨n,rfl⟩:∃ n:Nat,a=n:=⟨a.toNat,by omega⟩;exact congrArg _ (k n (by omega))
theorem el0(l:List UInt8):el (A4F none (some (bI l)))=bI l:=by rw[B0k];rfl
theorem C4F(l:List UInt8):∀ n ∈ el (A4F none (some (bI l))),0≤n∧n<256:=fun n h=>by rw[el0]at h;exact B3q h
theorem iB0(l:List UInt8):iB (el (A4F none (some (bI l))))=l:=by rw[el0,C3k]
def dC1(d4 dc:Int):Int:=if d4%2=0 then 1114113+d4 / 2%26 else dc
def dC2(x:Int):Int:=if x<1114113∧¬chP x then 97+x%26 else x
def dM(c m:Int):Int:=if A7 c (m%8)then m%8 else if A7 c (m%8 / 2%4*2)then m%8 / 2%4*2 else if A7 c (m / 2%2*2)then m / 2%2*2 else 0
def dC3(c m:Int):Int:=if A7 c (m%8)∨A7 c (m%8 / 2%4*2)∨A7 c (m / 2%2*2)∨A7 c 0 then c else 97
def diK(q:Int):Int:=if q=1 then 2 else if q=2 then 3 else if q=3 then 4 else 1
def diC(q d3 d4 dc:Int):Int:=if q=0 then dC3 (dC2 (dC1 d4 dc)) d3 else 0
def diM(q d3 d4 dc:Int):Int:=if q=0 then dM (dC2 (dC1 d4 dc)) d3 else if q=1 then d3%8 else 0
def diW(q d1:Int):Int:=if q=1 then d1%4 else if q=3 then d1%2 else 0
def diB(q d1 d2 d3 d5 d6:Int):Int:=if q=1 then(if M8 2 0 (d3%8) (d1%4) (d2%4) (d5%40) (d6%80) []then d2%4 else d2%4%2)else 0
def diR(q d5:Int):Int:=if q=1 then d5%40 else 0
def diL(q d6:Int):Int:=if q=1 then d6%80 else 0
def diT(q:Int)(t:List UInt8):List UInt8:=if q=2 then nE (t.take 1000)else[]
theorem l8{a1 a2 a3 a4 a5 a6 a7 b1 b2 b3 b4 b5 b6 b7:Int}{s t:List UInt8}(h1:a1=b1)(h2:a2=b2)(h3:a3=b3)(h4:a4=b4)(h5:a5=b5)(h6:a6=b6)(h7:a7=b7)(h8:s=t):[U.int .i64 a1,.int .i64 a2,.int .i64 a3,.int .i64 a4,.int .i64 a5,.int .i64 a6,.int .i64 a7,.str s]=[U.int .i64 b1,.int .i64 b2,.int .i64 b3,.int .i64 b4,.int .i64 b5,.int .i64 b6,.int .i64 b7,.str t]:=by rw[h1,h2,h3,h4,h5,h6,h7,h8]
theorem C3w{d1 d2 d3 d5 d6:Int}(h:decide (M8 2 0 (d3%8) (d1%4) (d2%4) (d5%40) (d6%80) [])=true):d2%4=diB 1 d1 d2 d3 d5 d6:=(if_pos (of_decide_eq_true h)).symm
theorem C3x{d1 d2 d3 d5 d6:Int}(h:decide (M8 2 0 (d3%8) (d1%4) (d2%4) (d5%40) (d6%80) [])=false):d2%4%2=diB 1 d1 d2 d3 d5 d6:=(if_neg (of_decide_eq_false h)).symm
theorem A1O{d4 dc:Int}(h:d4%2=0):dC1 d4 dc=1114113+d4 / 2%26:=if_pos h
theorem A1N{d4 dc:Int}(h:¬d4%2=0):dC1 d4 dc=dc:=if_neg h
theorem A4O{x:Int}(h:x<1114113)(h2:decide (chP x)=false):dC2 x=97+x%26:=if_pos ⟨h,of_decide_eq_false h2⟩
theorem A4P{x:Int}(h:¬x<1114113):dC2 x=x:=if_neg fun g=>h g.1
theorem A4Q{x:Int}(h2:decide (chP x)=true):dC2 x=x:=if_neg fun g=>g.2 (of_decide_eq_true h2)
theorem B50{c m:Int}(h:decide (A7 c (m%8))=true):dM c m=m%8∧dC3 c m=c:=⟨if_pos (of_decide_eq_true h),if_pos (.inl (of_decide_eq_true h))⟩
theorem B5z{c m:Int}(g:decide (A7 c (m%8))=false)(h:decide (A7 c (m%8 / 2%4*2))=true):dM c m=m%8 / 2%4*2∧dC3 c m=c:=⟨by unfold dM;rw[if_neg (of_decide_eq_false g),if_pos (of_decide_eq_true h)],if_pos (.inr (.inl (of_decide_eq_true h)))⟩
theorem B5y{c m:Int}(g:decide (A7 c (m%8))=false)(g2:decide (A7 c (m%8 / 2%4*2))=false)(h:decide (A7 c (m / 2%2*2))=true):dM c m=m / 2%2*2∧dC3 c m=c:=⟨by unfold dM;rw[if_neg (of_decide_eq_false g),if_neg (of_decide_eq_false g2),if_pos (of_decide_eq_true h)],if_pos (.inr (.inr (.inl (of_decide_eq_true h))))⟩
theorem B5x{c m:Int}(g:decide (A7 c (m%8))=false)(g2:decide (A7 c (m%8 / 2%4*2))=false)(g3:decide (A7 c (m / 2%2*2))=false)(h:decide (A7 c 0)=true):dM c m=0∧dC3 c m=c:=⟨by unfold dM;rw[if_neg (of_decide_eq_false g),if_neg (of_decide_eq_false g2),if_neg (of_decide_eq_false g3)],if_pos (.inr (.inr (.inr (of_decide_eq_true h))))⟩
theorem B5w{c m:Int}(g:decide (A7 c (m%8))=false)(g2:decide (A7 c (m%8 / 2%4*2))=false)(g3:decide (A7 c (m / 2%2*2))=false)(h:decide (A7 c 0)=false):dM c m=0∧dC3 c m=97:=⟨by unfold dM;rw[if_neg (of_decide_eq_false g),if_neg (of_decide_eq_false g2),if_neg (of_decide_eq_false g3)],if_neg fun q=>q.elim (of_decide_eq_false g) fun q=>q.elim (of_decide_eq_false g2) fun q=>q.elim (of_decide_eq_false g3) (of_decide_eq_false h)⟩
noncomputable def C2C:List (FuncId×FnC):=L0
theorem B83{G:Nat→Option Obj}(hst:D2 Tryz.prog G gl H0 n0):J3 Tryz.prog G gl C2C:=.nil
def A9e:List U→Option (Nat×List U)
 | [.int .i64 c]=>some (0,[.bool (decide (chP c))])
 | _=>none
theorem B44(c:Int):A9e [.int .i64 c]=some (0,[.bool (decide (chP c))]):=rfl
def C1Y:Tr:=.lt 8 (.bin .geq) [h 0 3,jI 0]<|.br 1 (.lt 8 (.bin .leq) [h 0 3,jI 1114111]<|.br 2 (.lt 8 (.bin .lss) [h 0 3,jI 55296]<|.br 3 (.lt 8 (.bin .geq) [h 0 3,jI 32]<|.br 4 (.lt 8 (.bin .geq) [h 0 3,jI 127]<|.br 5 (.lt 8 (.bin .leq) [h 0 3,jI 159]<|.lt 8 (.un .not) [h 6 8]<|.ret [h 7 8]) (.ret [.bool true])) (.ret [.bool false])) (.lt 8 (.bin .gtr) [h 0 3,jI 57343]<|.br 4 (.lt 8 (.bin .geq) [h 0 3,jI 32]<|.br 5 (.lt 8 (.bin .geq) [h 0 3,jI 127]<|.br 6 (.lt 8 (.bin .leq) [h 0 3,jI 159]<|.lt 8 (.un .not) [h 7 8]<|.ret [h 8 8]) (.ret [.bool true])) (.ret [.bool false])) (.ret [.bool false]))) (.ret [.bool false])) (.ret [.bool false])
theorem C35{G:Nat→Option Obj}(hst:D2 Tryz.prog G gl H0 n0):N0 Tryz.prog G 33 [.s 3] A9e [.s 8]:=by
 refine F4 (C:=cx C2C B2u) (d:=60) C1Y (cxg (B83 hst) (A5b hst)) hst ⟨Tryz.f33,_,Tryz.func33,rfl⟩ (by kernel_rfl) (by kernel_rfl) ?_;intro us outs hs;unfold A9e at hs;split at hs
 ·skip;rename_i c;cases hs;unfold C1Y;refine s0 (.cons 0 _ (.nil)) rfl (by simp[Ev.ok,Ev.len]) ?_;refine s1 (F2 _ _ _) rfl rfl rfl ?_;refine s5 rfl (fun g0=>?_) fun g0=>?_
  ·refine s7 [.bool _] rfl ?_;refine l1 ?_;first|(refine decide_eq_decide.2 ?_;unfold chP okU;omega)|(symm;first|exact decide_eq_true (by unfold chP okU;omega)|exact decide_eq_false (by unfold chP okU;omega))
  refine s1 (G0 _ _ _) rfl rfl rfl ?_;refine s5 rfl (fun g1=>?_) fun g1=>?_
  ·refine s7 [.bool _] rfl ?_;refine l1 ?_;first|(refine decide_eq_decide.2 ?_;unfold chP okU;omega)|(symm;first|exact decide_eq_true (by unfold chP okU;omega)|exact decide_eq_false (by unfold chP okU;omega))
  refine s1 (L3 _ _ _) rfl rfl rfl ?_;refine s4 rfl (fun g2=>?_) fun g2=>?_
  ·refine s1 (F2 _ _ _) rfl rfl rfl ?_;refine s5 rfl (fun g3=>?_) fun g3=>?_
   ·refine s7 [.bool _] rfl ?_;refine l1 ?_;first|(refine decide_eq_decide.2 ?_;unfold chP okU;omega)|(symm;first|exact decide_eq_true (by unfold chP okU;omega)|exact decide_eq_false (by unfold chP okU;omega))
   refine s1 (F2 _ _ _) rfl rfl rfl ?_;refine s5 rfl (fun g4=>?_) fun g4=>?_
   ·refine s7 [.bool _] rfl ?_;refine l1 ?_;first|(refine decide_eq_decide.2 ?_;unfold chP okU;omega)|(symm;first|exact decide_eq_true (by unfold chP okU;omega)|exact decide_eq_false (by unfold chP okU;omega))
   refine s1 (G0 _ _ _) rfl rfl rfl ?_;refine s1 (D4 _) rfl rfl rfl ?_;refine s7 [.bool _] rfl ?_;refine l1 ?_;first|(refine decide_eq_decide.2 ?_;unfold chP okU;omega)|(symm;first|exact decide_eq_true (by unfold chP okU;omega)|exact decide_eq_false (by unfold chP okU;omega))
  refine s1 (A3X _ _ _) rfl rfl rfl ?_;refine s5 rfl (fun g3=>?_) fun g3=>?_
  ·refine s7 [.bool _] rfl ?_;refine l1 ?_;first|(refine decide_eq_decide.2 ?_;unfold chP okU;omega)|(symm;first|exact decide_eq_true (by unfold chP okU;omega)|exact decide_eq_false (by unfold chP okU;omega))
  refine s1 (F2 _ _ _) rfl rfl rfl ?_;refine s5 rfl (fun g4=>?_) fun g4=>?_
  ·refine s7 [.bool _] rfl ?_;refine l1 ?_;first|(refine decide_eq_decide.2 ?_;unfold chP okU;omega)|(symm;first|exact decide_eq_true (by unfold chP okU;omega)|exact decide_eq_false (by unfold chP okU;omega))
  refine s1 (F2 _ _ _) rfl rfl rfl ?_;refine s5 rfl (fun g5=>?_) fun g5=>?_
  ·refine s7 [.bool _] rfl ?_;refine l1 ?_;first|(refine decide_eq_decide.2 ?_;unfold chP okU;omega)|(symm;first|exact decide_eq_true (by unfold chP okU;omega)|exact decide_eq_false (by unfold chP okU;omega))
  refine s1 (G0 _ _ _) rfl rfl rfl ?_;refine s1 (D4 _) rfl rfl rfl ?_;refine s7 [.bool _] rfl ?_;refine l1 ?_;first|(refine decide_eq_decide.2 ?_;unfold chP okU;omega)|(symm;first|exact decide_eq_true (by unfold chP okU;omega)|exact decide_eq_false (by unfold chP okU;omega))
 ·cases hs
noncomputable def C16:List (FuncId×FnC):=(34,N3 Tryz.prog [.s 3,.s 3] R6 [.s 8])::(32,N3 Tryz.prog [.a [3,3,3,3,3,3,3,9]] A6G [.s 8])::(33,N3 Tryz.prog [.s 3] A9e [.s 8])::L0
theorem B8w{G:Nat→Option Obj}(hst:D2 Tryz.prog G gl H0 n0):J3 Tryz.prog G gl C16:=(.cons (B3_ hst) (.cons (B6z hst) (.cons (C35 hst) .nil)))
def B2Y:List U→Option (Nat×List U)
 | [.int .u8 d0,.int .u8 d1,.int .u8 d2,.int .u8 d3,.int .u8 d4,.int .u8 d5,.int .u8 d6,.int .u32 dc,.str t]=>if 0≤d0∧d0<256∧0≤d1∧d1<256∧0≤d2∧d2<256∧0≤d3∧d3<256∧0≤d4∧d4<256∧0≤d5∧d5<256∧0≤d6∧d6<256∧0≤dc∧dc<4294967296∧(t.length:Int)≤140737488351232 then some (0,[.int .i64 (diK (d0%4)),.int .i64 (diC (d0%4) d3 d4 dc),.int .i64 (diM (d0%4) d3 d4 dc),.int .i64 (diW (d0%4) d1),.int .i64 (diB (d0%4) d1 d2 d3 d5 d6),.int .i64 (diR (d0%4) d5),.int .i64 (diL (d0%4) d6),.str (diT (d0%4) t)])else none
 | _=>none
theorem B94(d0:Int)(d1:Int)(d2:Int)(d3:Int)(d4:Int)(d5:Int)(d6:Int)(dc:Int)(t:(List UInt8))(hc:0≤d0∧d0<256∧0≤d1∧d1<256∧0≤d2∧d2<256∧0≤d3∧d3<256∧0≤d4∧d4<256∧0≤d5∧d5<256∧0≤d6∧d6<256∧0≤dc∧dc<4294967296∧(t.length:Int)≤140737488351232):B2Y [.int .u8 d0,.int .u8 d1,.int .u8 d2,.int .u8 d3,.int .u8 d4,.int .u8 d5,.int .u8 d6,.int .u32 dc,.str t]=some (0,[.int .i64 (diK (d0%4)),.int .i64 (diC (d0%4) d3 d4 dc),.int .i64 (diM (d0%4) d3 d4 dc),.int .i64 (diW (d0%4) d1),.int .i64 (diB (d0%4) d1 d2 d3 d5 d6),.int .i64 (diR (d0%4) d5),.int .i64 (diL (d0%4) d6),.str (diT (d0%4) t)]):=if_pos hc
def C1L:Tr:=.lt 4 (.bin .rem) [h 0 4,.int .u8 (4)]<|.lt 8 (.bin .eql) [h 9 4,.int .u8 (1)]<|.br 10 (.lt 4 (.bin .rem) [h 1 4,.int .u8 (4)]<|.lt 3 (.conv .i64) [h 11 4]<|.lt 4 (.bin .rem) [h 2 4,.int .u8 (4)]<|.lt 3 (.conv .i64) [h 13 4]<|.lt 4 (.bin .rem) [h 3 4,.int .u8 (8)]<|.lt 3 (.conv .i64) [h 15 4]<|.lt 4 (.bin .rem) [h 5 4,.int .u8 (40)]<|.lt 3 (.conv .i64) [h 17 4]<|.lt 4 (.bin .rem) [h 6 4,.int .u8 (80)]<|.lt 3 (.conv .i64) [h 19 4]<|.fn A6G [jI 2,jI 0,h 16 3,h 12 3,h 14 3,h 18 3,h 20 3,.string ⟨⟨[]⟩⟩] 1<|.lt 8 (.un .not) [h 21 8]<|.br 22 (.lt 3 (.bin .rem) [h 14 3,jI 2]<|.ret [jI 2,jI 0,h 16 3,h 12 3,h 23 3,h 18 3,h 20 3,.string ⟨⟨[]⟩⟩]) (.ret [jI 2,jI 0,h 16 3,h 12 3,h 14 3,h 18 3,h 20 3,.string ⟨⟨[]⟩⟩])) (.lt 8 (.bin .eql) [h 9 4,.int .u8 (2)]<|.br 11 (.dt 11 (.nilw 1) []<|.fn A4M [h 12 11,jI 0,h 0 4,h 1 4,h 2 4,h 3 4,h 4 4,h 5 4,h 6 4,h 7 6,h 8 9] 1<|.lt 9 (.str) [h 13 11]<|.ret [jI 3,jI 0,jI 0,jI 0,jI 0,jI 0,jI 0,h 14 9]) (.lt 8 (.bin .eql) [h 9 4,.int .u8 (3)]<|.br 12 (.lt 4 (.bin .rem) [h 1 4,.int .u8 (2)]<|.lt 3 (.conv .i64) [h 13 4]<|.ret [jI 4,jI 0,jI 0,h 14 3,jI 0,jI 0,jI 0,.string ⟨⟨[]⟩⟩]) (.lt 3 (.conv .i64) [h 7 6]<|.lt 4 (.bin .rem) [h 4 4,.int .u8 (2)]<|.lt 8 (.bin .eql) [h 14 4,.int .u8 (0)]<|.br 15 (.lt 4 (.bin .quo) [h 4 4,.int .u8 (2)]<|.lt 3 (.conv .i64) [h 16 4]<|.lt 3 (.bin .rem) [h 17 3,jI 26]<|.lt 3 (.bin .add) [jI 1114113,h 18 3]<|.lt 8 (.bin .lss) [h 19 3,jI 1114113]<|.br 20 (.fn A9e [h 19 3] 1<|.lt 8 (.un .not) [h 21 8]<|.br 22 (.lt 3 (.bin .rem) [h 19 3,jI 26]<|.lt 3 (.bin .add) [jI 97,h 23 3]<|.lt 4 (.bin .rem) [h 3 4,.int .u8 (8)]<|.lt 3 (.conv .i64) [h 25 4]<|.lt 4 (.bin .rem) [h 3 4,.int .u8 (8)]<|.lt 4 (.bin .and) [h 27 4,.int .u8 (6)]<|.lt 3 (.conv .i64) [h 28 4]<|.lt 4 (.bin .and) [h 3 4,.int .u8 (2)]<|.lt 3 (.conv .i64) [h 30 4]<|.fn R6 [h 24 3,h 26 3] 1<|.br 32 (.ret [jI 1,h 24 3,h 26 3,jI 0,jI 0,jI 0,jI 0,.string ⟨⟨[]⟩⟩]) (.fn R6 [h 24 3,h 29 3] 1<|.br 33 (.ret [jI 1,h 24 3,h 29 3,jI 0,jI 0,jI 0,jI 0,.string ⟨⟨[]⟩⟩]) (.fn R6 [h 24 3,h 31 3] 1<|.br 34 (.ret [jI 1,h 24 3,h 31 3,jI 0,jI 0,jI 0,jI 0,.string ⟨⟨[]⟩⟩]) (.fn R6 [h 24 3,jI 0] 1<|.br 35 (.ret [jI 1,h 24 3,jI 0,jI 0,jI 0,jI 0,jI 0,.string ⟨⟨[]⟩⟩]) (.ret [jI 1,jI 97,jI 0,jI 0,jI 0,jI 0,jI 0,.string ⟨⟨[]⟩⟩]))))) (.lt 4 (.bin .rem) [h 3 4,.int .u8 (8)]<|.lt 3 (.conv .i64) [h 23 4]<|.lt 4 (.bin .rem) [h 3 4,.int .u8 (8)]<|.lt 4 (.bin .and) [h 25 4,.int .u8 (6)]<|.lt 3 (.conv .i64) [h 26 4]<|.lt 4 (.bin .and) [h 3 4,.int .u8 (2)]<|.lt 3 (.conv .i64) [h 28 4]<|.fn R6 [h 19 3,h 24 3] 1<|.br 30 (.ret [jI 1,h 19 3,h 24 3,jI 0,jI 0,jI 0,jI 0,.string ⟨⟨[]⟩⟩]) (.fn R6 [h 19 3,h 27 3] 1<|.br 31 (.ret [jI 1,h 19 3,h 27 3,jI 0,jI 0,jI 0,jI 0,.string ⟨⟨[]⟩⟩]) (.fn R6 [h 19 3,h 29 3] 1<|.br 32 (.ret [jI 1,h 19 3,h 29 3,jI 0,jI 0,jI 0,jI 0,.string ⟨⟨[]⟩⟩]) (.fn R6 [h 19 3,jI 0] 1<|.br 33 (.ret [jI 1,h 19 3,jI 0,jI 0,jI 0,jI 0,jI 0,.string ⟨⟨[]⟩⟩]) (.ret [jI 1,jI 97,jI 0,jI 0,jI 0,jI 0,jI 0,.string ⟨⟨[]⟩⟩])))))) (.lt 4 (.bin .rem) [h 3 4,.int .u8 (8)]<|.lt 3 (.conv .i64) [h 21 4]<|.lt 4 (.bin .rem) [h 3 4,.int .u8 (8)]<|.lt 4 (.bin .and) [h 23 4,.int .u8 (6)]<|.lt 3 (.conv .i64) [h 24 4]<|.lt 4 (.bin .and) [h 3 4,.int .u8 (2)]<|.lt 3 (.conv .i64) [h 26 4]<|.fn R6 [h 19 3,h 22 3] 1<|.br 28 (.ret [jI 1,h 19 3,h 22 3,jI 0,jI 0,jI 0,jI 0,.string ⟨⟨[]⟩⟩]) (.fn R6 [h 19 3,h 25 3] 1<|.br 29 (.ret [jI 1,h 19 3,h 25 3,jI 0,jI 0,jI 0,jI 0,.string ⟨⟨[]⟩⟩]) (.fn R6 [h 19 3,h 27 3] 1<|.br 30 (.ret [jI 1,h 19 3,h 27 3,jI 0,jI 0,jI 0,jI 0,.string ⟨⟨[]⟩⟩]) (.fn R6 [h 19 3,jI 0] 1<|.br 31 (.ret [jI 1,h 19 3,jI 0,jI 0,jI 0,jI 0,jI 0,.string ⟨⟨[]⟩⟩]) (.ret [jI 1,jI 97,jI 0,jI 0,jI 0,jI 0,jI 0,.string ⟨⟨[]⟩⟩])))))) (.lt 8 (.bin .lss) [h 13 3,jI 1114113]<|.br 16 (.fn A9e [h 13 3] 1<|.lt 8 (.un .not) [h 17 8]<|.br 18 (.lt 3 (.bin .rem) [h 13 3,jI 26]<|.lt 3 (.bin .add) [jI 97,h 19 3]<|.lt 4 (.bin .rem) [h 3 4,.int .u8 (8)]<|.lt 3 (.conv .i64) [h 21 4]<|.lt 4 (.bin .rem) [h 3 4,.int .u8 (8)]<|.lt 4 (.bin .and) [h 23 4,.int .u8 (6)]<|.lt 3 (.conv .i64) [h 24 4]<|.lt 4 (.bin .and) [h 3 4,.int .u8 (2)]<|.lt 3 (.conv .i64) [h 26 4]<|.fn R6 [h 20 3,h 22 3] 1<|.br 28 (.ret [jI 1,h 20 3,h 22 3,jI 0,jI 0,jI 0,jI 0,.string ⟨⟨[]⟩⟩]) (.fn R6 [h 20 3,h 25 3] 1<|.br 29 (.ret [jI 1,h 20 3,h 25 3,jI 0,jI 0,jI 0,jI 0,.string ⟨⟨[]⟩⟩]) (.fn R6 [h 20 3,h 27 3] 1<|.br 30 (.ret [jI 1,h 20 3,h 27 3,jI 0,jI 0,jI 0,jI 0,.string ⟨⟨[]⟩⟩]) (.fn R6 [h 20 3,jI 0] 1<|.br 31 (.ret [jI 1,h 20 3,jI 0,jI 0,jI 0,jI 0,jI 0,.string ⟨⟨[]⟩⟩]) (.ret [jI 1,jI 97,jI 0,jI 0,jI 0,jI 0,jI 0,.string ⟨⟨[]⟩⟩]))))) (.lt 4 (.bin .rem) [h 3 4,.int .u8 (8)]<|.lt 3 (.conv .i64) [h 19 4]<|.lt 4 (.bin .rem) [h 3 4,.int .u8 (8)]<|.lt 4 (.bin .and) [h 21 4,.int .u8 (6)]<|.lt 3 (.conv .i64) [h 22 4]<|.lt 4 (.bin .and) [h 3 4,.int .u8 (2)]<|.lt 3 (.conv .i64) [h 24 4]<|.fn R6 [h 13 3,h 20 3] 1<|.br 26 (.ret [jI 1,h 13 3,h 20 3,jI 0,jI 0,jI 0,jI 0,.string ⟨⟨[]⟩⟩]) (.fn R6 [h 13 3,h 23 3] 1<|.br 27 (.ret [jI 1,h 13 3,h 23 3,jI 0,jI 0,jI 0,jI 0,.string ⟨⟨[]⟩⟩]) (.fn R6 [h 13 3,h 25 3] 1<|.br 28 (.ret [jI 1,h 13 3,h 25 3,jI 0,jI 0,jI 0,jI 0,.string ⟨⟨[]⟩⟩]) (.fn R6 [h 13 3,jI 0] 1<|.br 29 (.ret [jI 1,h 13 3,jI 0,jI 0,jI 0,jI 0,jI 0,.string ⟨⟨[]⟩⟩]) (.ret [jI 1,jI 97,jI 0,jI 0,jI 0,jI 0,jI 0,.string ⟨⟨[]⟩⟩])))))) (.lt 4 (.bin .rem) [h 3 4,.int .u8 (8)]<|.lt 3 (.conv .i64) [h 17 4]<|.lt 4 (.bin .rem) [h 3 4,.int .u8 (8)]<|.lt 4 (.bin .and) [h 19 4,.int .u8 (6)]<|.lt 3 (.conv .i64) [h 20 4]<|.lt 4 (.bin .and) [h 3 4,.int .u8 (2)]<|.lt 3 (.conv .i64) [h 22 4]<|.fn R6 [h 13 3,h 18 3] 1<|.br 24 (.ret [jI 1,h 13 3,h 18 3,jI 0,jI 0,jI 0,jI 0,.string ⟨⟨[]⟩⟩]) (.fn R6 [h 13 3,h 21 3] 1<|.br 25 (.ret [jI 1,h 13 3,h 21 3,jI 0,jI 0,jI 0,jI 0,.string ⟨⟨[]⟩⟩]) (.fn R6 [h 13 3,h 23 3] 1<|.br 26 (.ret [jI 1,h 13 3,h 23 3,jI 0,jI 0,jI 0,jI 0,.string ⟨⟨[]⟩⟩]) (.fn R6 [h 13 3,jI 0] 1<|.br 27 (.ret [jI 1,h 13 3,jI 0,jI 0,jI 0,jI 0,jI 0,.string ⟨⟨[]⟩⟩]) (.ret [jI 1,jI 97,jI 0,jI 0,jI 0,jI 0,jI 0,.string ⟨⟨[]⟩⟩])))))))))
theorem C3r{G:Nat→Option Obj}(hst:D2 Tryz.prog G gl H0 n0):N0 Tryz.prog G 12 [.a [4,4,4,4,4,4,4,6,9]] B2Y [.a [3,3,3,3,3,3,3,9]]:=by
 refine F4 (C:=cx C16 B2u) (d:=60) C1L (cxg (B8w hst) (A5b hst)) hst ⟨Tryz.f12,_,Tryz.func12,rfl⟩ (by kernel_rfl) (by kernel_rfl) ?_;intro us outs hs;unfold B2Y at hs;split at hs
 ·skip;rename_i d0 d1 d2 d3 d4 d5 d6 dc t;split at hs
  ·rename_i hc;cases hs;have zt:nE (t.take 1000)=nE ((t.take 1000).drop (0:Int).toNat):=rfl;have zl:((el (none:Option (List Int))).length:Int)=0:=rfl;unfold C1L;refine s0 (.cons 8 _ (.cons 7 _ (.cons 6 _ (.cons 5 _ (.cons 4 _ (.cons 3 _ (.cons 2 _ (.cons 1 _ (.cons 0 _ (.nil)))))))))) rfl (by simp[Ev.ok,Ev.len]) ?_;first|refine s1 (G6 (by omega) (by omega)) rfl rfl rfl ?_|refine s1 (I3 _ _ _ (by omega)) rfl rfl rfl ?_
   refine s1 (A8 _ _ _) rfl rfl rfl ?_;refine s4 rfl (fun g0=>?_) fun g0=>?_
   ·first|refine s1 (G6 (by omega) (by omega)) rfl rfl rfl ?_|refine s1 (I3 _ _ _ (by omega)) rfl rfl rfl ?_
    first|refine s1 (D5 (C7 (by omega) (by omega))) rfl rfl rfl ?_|refine s1 (G7 _ _ _) rfl rfl rfl ?_
    first|refine s1 (G6 (by omega) (by omega)) rfl rfl rfl ?_|refine s1 (I3 _ _ _ (by omega)) rfl rfl rfl ?_
    first|refine s1 (D5 (C7 (by omega) (by omega))) rfl rfl rfl ?_|refine s1 (G7 _ _ _) rfl rfl rfl ?_
    first|refine s1 (G6 (by omega) (by omega)) rfl rfl rfl ?_|refine s1 (I3 _ _ _ (by omega)) rfl rfl rfl ?_
    first|refine s1 (D5 (C7 (by omega) (by omega))) rfl rfl rfl ?_|refine s1 (G7 _ _ _) rfl rfl rfl ?_
    first|refine s1 (G6 (by omega) (by omega)) rfl rfl rfl ?_|refine s1 (I3 _ _ _ (by omega)) rfl rfl rfl ?_
    first|refine s1 (D5 (C7 (by omega) (by omega))) rfl rfl rfl ?_|refine s1 (G7 _ _ _) rfl rfl rfl ?_
    first|refine s1 (G6 (by omega) (by omega)) rfl rfl rfl ?_|refine s1 (I3 _ _ _ (by omega)) rfl rfl rfl ?_
    first|refine s1 (D5 (C7 (by omega) (by omega))) rfl rfl rfl ?_|refine s1 (G7 _ _ _) rfl rfl rfl ?_
    refine s31 (B4B _ _ _ _ _ _ _ _ ⟨by omega,by omega,by show(0:Int)≤_;omega⟩) rfl ?_;first|refine s1 (D4 _) rfl rfl rfl ?_|refine s1 (I4 _) rfl rfl rfl ?_
    first|refine s5 rfl (fun g1=>?_) (fun g1=>?_)|refine s5B rfl (fun g1=>?_) (fun g1=>?_)
    ·refine s7 [.int .i64 _,.int .i64 _,.int .i64 _,.int .i64 _,.int .i64 _,.int .i64 _,.int .i64 _,.str _] rfl ?_;have hq:d0%4=1:=g0;rw[hq];refine l8 rfl rfl rfl rfl (C3w (by simpa using g1)) rfl rfl rfl
    first|refine s1 (G6 (by omega) (by omega)) rfl rfl rfl ?_|refine s1 (I3 _ _ _ (by omega)) rfl rfl rfl ?_
    refine s7 [.int .i64 _,.int .i64 _,.int .i64 _,.int .i64 _,.int .i64 _,.int .i64 _,.int .i64 _,.str _] rfl ?_;have hq:d0%4=1:=g0;rw[hq];refine l8 rfl rfl rfl rfl (C3x (by simpa using g1)) rfl rfl rfl
   refine s1 (A8 _ _ _) rfl rfl rfl ?_;refine s4 rfl (fun g1=>?_) fun g1=>?_
   ·refine s2 (r:=rB) (A3W rfl) rfl rfl ?_;refine s31 (t6 _ _ _ _ _ _ _ _ _ _ _ ⟨by omega,by omega,by omega,by omega⟩) rfl ?_;refine s1 (R3 rfl (C4F _)) rfl rfl rfl ?_;refine s7 [.int .i64 _,.int .i64 _,.int .i64 _,.int .i64 _,.int .i64 _,.int .i64 _,.int .i64 _,.str _] rfl ?_;have hq:d0%4=2:=g1;rw[hq];exact l8 rfl rfl rfl rfl rfl rfl rfl (iB0 _)
   refine s1 (A8 _ _ _) rfl rfl rfl ?_;refine s4 rfl (fun g2=>?_) fun g2=>?_
   ·first|refine s1 (G6 (by omega) (by omega)) rfl rfl rfl ?_|refine s1 (I3 _ _ _ (by omega)) rfl rfl rfl ?_
    first|refine s1 (D5 (C7 (by omega) (by omega))) rfl rfl rfl ?_|refine s1 (G7 _ _ _) rfl rfl rfl ?_
    refine s7 [.int .i64 _,.int .i64 _,.int .i64 _,.int .i64 _,.int .i64 _,.int .i64 _,.int .i64 _,.str _] rfl ?_;have hq:d0%4=3:=g2;rw[hq];refine l8 rfl rfl rfl rfl rfl rfl rfl rfl
   first|refine s1 (D5 (C7 (by omega) (by omega))) rfl rfl rfl ?_|refine s1 (G7 _ _ _) rfl rfl rfl ?_
   first|refine s1 (G6 (by omega) (by omega)) rfl rfl rfl ?_|refine s1 (I3 _ _ _ (by omega)) rfl rfl rfl ?_
   refine s1 (A8 _ _ _) rfl rfl rfl ?_;refine s4 rfl (fun g3=>?_) fun g3=>?_
   ·first|refine s1 (R4 (by omega) (by omega) (K7 (by omega) (by omega))) rfl rfl rfl ?_|refine s1 (V4 _ _ _ (by omega)) rfl rfl rfl ?_
    first|refine s1 (D5 (C7 (by omega) (by omega))) rfl rfl rfl ?_|refine s1 (G7 _ _ _) rfl rfl rfl ?_
    first|refine s1 (G6 (by omega) (by omega)) rfl rfl rfl ?_|refine s1 (I3 _ _ _ (by omega)) rfl rfl rfl ?_
    first|refine s1 (D8 (C7 (by omega) (by omega))) rfl rfl rfl ?_|refine s1 (E8 _ _ _) rfl rfl rfl ?_
    refine s1 (L3 _ _ _) rfl rfl rfl ?_;refine s4 rfl (fun g4=>?_) fun g4=>?_
    ·refine s31 (B44 _) rfl ?_;first|refine s1 (D4 _) rfl rfl rfl ?_|refine s1 (I4 _) rfl rfl rfl ?_
     first|refine s4 rfl (fun g5=>?_) (fun g5=>?_)|refine s4B rfl (fun g5=>?_) (fun g5=>?_)
     ·first|refine s1 (G6 (by omega) (by omega)) rfl rfl rfl ?_|refine s1 (I3 _ _ _ (by omega)) rfl rfl rfl ?_
      first|refine s1 (D8 (C7 (by omega) (by omega))) rfl rfl rfl ?_|refine s1 (E8 _ _ _) rfl rfl rfl ?_
      first|refine s1 (G6 (by omega) (by omega)) rfl rfl rfl ?_|refine s1 (I3 _ _ _ (by omega)) rfl rfl rfl ?_
      first|refine s1 (D5 (C7 (by omega) (by omega))) rfl rfl rfl ?_|refine s1 (G7 _ _ _) rfl rfl rfl ?_
      first|refine s1 (G6 (by omega) (by omega)) rfl rfl rfl ?_|refine s1 (I3 _ _ _ (by omega)) rfl rfl rfl ?_
      refine s1 (A9T (by omega) (by omega)) rfl rfl rfl ?_;first|refine s1 (D5 (C7 (by omega) (by omega))) rfl rfl rfl ?_|refine s1 (G7 _ _ _) rfl rfl rfl ?_
      refine s1 (A9U (by omega) (by omega)) rfl rfl rfl ?_;first|refine s1 (D5 (C7 (by omega) (by omega))) rfl rfl rfl ?_|refine s1 (G7 _ _ _) rfl rfl rfl ?_
      refine s31 (N1 _ _ (by omega)) rfl ?_;first|refine s4 rfl (fun g6=>?_) (fun g6=>?_)|refine s4B rfl (fun g6=>?_) (fun g6=>?_)
      ·refine s7 [.int .i64 _,.int .i64 _,.int .i64 _,.int .i64 _,.int .i64 _,.int .i64 _,.int .i64 _,.str _] rfl ?_;have hq:d0%4=0:=by omega
       rw[hq];have h1:=A1O (dc:=dc) g3;have h2:=A4O g4 (by simpa using g5);have h3:=B50 (c:=(97+(1114113+d4 / 2%26)%26)) (m:=d3) (by first|exact g6|exact decide_eq_true g6|exact decide_eq_false g6);exact l8 rfl (by show _=dC3 (dC2 (dC1 d4 dc)) d3;rw[h1,h2,h3.2]) (by show _=dM (dC2 (dC1 d4 dc)) d3;rw[h1,h2,h3.1]) rfl rfl rfl rfl rfl
      refine s31 (N1 _ _ (by omega)) rfl ?_;first|refine s4 rfl (fun g7=>?_) (fun g7=>?_)|refine s4B rfl (fun g7=>?_) (fun g7=>?_)
      ·refine s7 [.int .i64 _,.int .i64 _,.int .i64 _,.int .i64 _,.int .i64 _,.int .i64 _,.int .i64 _,.str _] rfl ?_;have hq:d0%4=0:=by omega
       rw[hq];have h1:=A1O (dc:=dc) g3;have h2:=A4O g4 (by simpa using g5);have h3:=B5z (c:=(97+(1114113+d4 / 2%26)%26)) (m:=d3) (by first|exact g6|exact decide_eq_true g6|exact decide_eq_false g6) (by first|exact g7|exact decide_eq_true g7|exact decide_eq_false g7);exact l8 rfl (by show _=dC3 (dC2 (dC1 d4 dc)) d3;rw[h1,h2,h3.2]) (by show _=dM (dC2 (dC1 d4 dc)) d3;rw[h1,h2,h3.1]) rfl rfl rfl rfl rfl
      refine s31 (N1 _ _ (by omega)) rfl ?_;first|refine s4 rfl (fun g8=>?_) (fun g8=>?_)|refine s4B rfl (fun g8=>?_) (fun g8=>?_)
      ·refine s7 [.int .i64 _,.int .i64 _,.int .i64 _,.int .i64 _,.int .i64 _,.int .i64 _,.int .i64 _,.str _] rfl ?_;have hq:d0%4=0:=by omega
       rw[hq];have h1:=A1O (dc:=dc) g3;have h2:=A4O g4 (by simpa using g5);have h3:=B5y (c:=(97+(1114113+d4 / 2%26)%26)) (m:=d3) (by first|exact g6|exact decide_eq_true g6|exact decide_eq_false g6) (by first|exact g7|exact decide_eq_true g7|exact decide_eq_false g7) (by first|exact g8|exact decide_eq_true g8|exact decide_eq_false g8);exact l8 rfl (by show _=dC3 (dC2 (dC1 d4 dc)) d3;rw[h1,h2,h3.2]) (by show _=dM (dC2 (dC1 d4 dc)) d3;rw[h1,h2,h3.1]) rfl rfl rfl rfl rfl
      refine s31 (N1 _ _ (by omega)) rfl ?_;first|refine s4 rfl (fun g9=>?_) (fun g9=>?_)|refine s4B rfl (fun g9=>?_) (fun g9=>?_)
      ·refine s7 [.int .i64 _,.int .i64 _,.int .i64 _,.int .i64 _,.int .i64 _,.int .i64 _,.int .i64 _,.str _] rfl ?_;have hq:d0%4=0:=by omega
       rw[hq];have h1:=A1O (dc:=dc) g3;have h2:=A4O g4 (by simpa using g5);have h3:=B5x (c:=(97+(1114113+d4 / 2%26)%26)) (m:=d3) (by first|exact g6|exact decide_eq_true g6|exact decide_eq_false g6) (by first|exact g7|exact decide_eq_true g7|exact decide_eq_false g7) (by first|exact g8|exact decide_eq_true g8|exact decide_eq_false g8) (by first|exact g9|exact decide_eq_true g9|exact decide_eq_false g9);exact l8 rfl (by show _=dC3 (dC2 (dC1 d4 dc)) d3;rw[h1,h2,h3.2]) (by show _=dM (dC2 (dC1 d4 dc)) d3;rw[h1,h2,h3.1]) rfl rfl rfl rfl rfl
      refine s7 [.int .i64 _,.int .i64 _,.int .i64 _,.int .i64 _,.int .i64 _,.int .i64 _,.int .i64 _,.str _] rfl ?_;have hq:d0%4=0:=by omega
      rw[hq];have h1:=A1O (dc:=dc) g3;have h2:=A4O g4 (by simpa using g5);have h3:=B5w (c:=(97+(1114113+d4 / 2%26)%26)) (m:=d3) (by first|exact g6|exact decide_eq_true g6|exact decide_eq_false g6) (by first|exact g7|exact decide_eq_true g7|exact decide_eq_false g7) (by first|exact g8|exact decide_eq_true g8|exact decide_eq_false g8) (by first|exact g9|exact decide_eq_true g9|exact decide_eq_false g9);exact l8 rfl (by show _=dC3 (dC2 (dC1 d4 dc)) d3;rw[h1,h2,h3.2]) (by show _=dM (dC2 (dC1 d4 dc)) d3;rw[h1,h2,h3.1]) rfl rfl rfl rfl rfl
     first|refine s1 (G6 (by omega) (by omega)) rfl rfl rfl ?_|refine s1 (I3 _ _ _ (by omega)) rfl rfl rfl ?_
     first|refine s1 (D5 (C7 (by omega) (by omega))) rfl rfl rfl ?_|refine s1 (G7 _ _ _) rfl rfl rfl ?_
     first|refine s1 (G6 (by omega) (by omega)) rfl rfl rfl ?_|refine s1 (I3 _ _ _ (by omega)) rfl rfl rfl ?_
     refine s1 (A9T (by omega) (by omega)) rfl rfl rfl ?_;first|refine s1 (D5 (C7 (by omega) (by omega))) rfl rfl rfl ?_|refine s1 (G7 _ _ _) rfl rfl rfl ?_
     refine s1 (A9U (by omega) (by omega)) rfl rfl rfl ?_;first|refine s1 (D5 (C7 (by omega) (by omega))) rfl rfl rfl ?_|refine s1 (G7 _ _ _) rfl rfl rfl ?_
     refine s31 (N1 _ _ (by omega)) rfl ?_;first|refine s4 rfl (fun g6=>?_) (fun g6=>?_)|refine s4B rfl (fun g6=>?_) (fun g6=>?_)
     ·refine s7 [.int .i64 _,.int .i64 _,.int .i64 _,.int .i64 _,.int .i64 _,.int .i64 _,.int .i64 _,.str _] rfl ?_;have hq:d0%4=0:=by omega
      rw[hq];have h1:=A1O (dc:=dc) g3;have h2:=A4Q (x:=(1114113+d4 / 2%26)) (by simpa using g5);have h3:=B50 (c:=(1114113+d4 / 2%26)) (m:=d3) (by first|exact g6|exact decide_eq_true g6|exact decide_eq_false g6);exact l8 rfl (by show _=dC3 (dC2 (dC1 d4 dc)) d3;rw[h1,h2,h3.2]) (by show _=dM (dC2 (dC1 d4 dc)) d3;rw[h1,h2,h3.1]) rfl rfl rfl rfl rfl
     refine s31 (N1 _ _ (by omega)) rfl ?_;first|refine s4 rfl (fun g7=>?_) (fun g7=>?_)|refine s4B rfl (fun g7=>?_) (fun g7=>?_)
     ·refine s7 [.int .i64 _,.int .i64 _,.int .i64 _,.int .i64 _,.int .i64 _,.int .i64 _,.int .i64 _,.str _] rfl ?_;have hq:d0%4=0:=by omega
      rw[hq];have h1:=A1O (dc:=dc) g3;have h2:=A4Q (x:=(1114113+d4 / 2%26)) (by simpa using g5);have h3:=B5z (c:=(1114113+d4 / 2%26)) (m:=d3) (by first|exact g6|exact decide_eq_true g6|exact decide_eq_false g6) (by first|exact g7|exact decide_eq_true g7|exact decide_eq_false g7);exact l8 rfl (by show _=dC3 (dC2 (dC1 d4 dc)) d3;rw[h1,h2,h3.2]) (by show _=dM (dC2 (dC1 d4 dc)) d3;rw[h1,h2,h3.1]) rfl rfl rfl rfl rfl
     refine s31 (N1 _ _ (by omega)) rfl ?_;first|refine s4 rfl (fun g8=>?_) (fun g8=>?_)|refine s4B rfl (fun g8=>?_) (fun g8=>?_)
     ·refine s7 [.int .i64 _,.int .i64 _,.int .i64 _,.int .i64 _,.int .i64 _,.int .i64 _,.int .i64 _,.str _] rfl ?_;have hq:d0%4=0:=by omega
      rw[hq];have h1:=A1O (dc:=dc) g3;have h2:=A4Q (x:=(1114113+d4 / 2%26)) (by simpa using g5);have h3:=B5y (c:=(1114113+d4 / 2%26)) (m:=d3) (by first|exact g6|exact decide_eq_true g6|exact decide_eq_false g6) (by first|exact g7|exact decide_eq_true g7|exact decide_eq_false g7) (by first|exact g8|exact decide_eq_true g8|exact decide_eq_false g8);exact l8 rfl (by show _=dC3 (dC2 (dC1 d4 dc)) d3;rw[h1,h2,h3.2]) (by show _=dM (dC2 (dC1 d4 dc)) d3;rw[h1,h2,h3.1]) rfl rfl rfl rfl rfl
     refine s31 (N1 _ _ (by omega)) rfl ?_;first|refine s4 rfl (fun g9=>?_) (fun g9=>?_)|refine s4B rfl (fun g9=>?_) (fun g9=>?_)
     ·refine s7 [.int .i64 _,.int .i64 _,.int .i64 _,.int .i64 _,.int .i64 _,.int .i64 _,.int .i64 _,.str _] rfl ?_;have hq:d0%4=0:=by omega
      rw[hq];have h1:=A1O (dc:=dc) g3;have h2:=A4Q (x:=(1114113+d4 / 2%26)) (by simpa using g5);have h3:=B5x (c:=(1114113+d4 / 2%26)) (m:=d3) (by first|exact g6|exact decide_eq_true g6|exact decide_eq_false g6) (by first|exact g7|exact decide_eq_true g7|exact decide_eq_false g7) (by first|exact g8|exact decide_eq_true g8|exact decide_eq_false g8) (by first|exact g9|exact decide_eq_true g9|exact decide_eq_false g9);exact l8 rfl (by show _=dC3 (dC2 (dC1 d4 dc)) d3;rw[h1,h2,h3.2]) (by show _=dM (dC2 (dC1 d4 dc)) d3;rw[h1,h2,h3.1]) rfl rfl rfl rfl rfl
     refine s7 [.int .i64 _,.int .i64 _,.int .i64 _,.int .i64 _,.int .i64 _,.int .i64 _,.int .i64 _,.str _] rfl ?_;have hq:d0%4=0:=by omega
     rw[hq];have h1:=A1O (dc:=dc) g3;have h2:=A4Q (x:=(1114113+d4 / 2%26)) (by simpa using g5);have h3:=B5w (c:=(1114113+d4 / 2%26)) (m:=d3) (by first|exact g6|exact decide_eq_true g6|exact decide_eq_false g6) (by first|exact g7|exact decide_eq_true g7|exact decide_eq_false g7) (by first|exact g8|exact decide_eq_true g8|exact decide_eq_false g8) (by first|exact g9|exact decide_eq_true g9|exact decide_eq_false g9);exact l8 rfl (by show _=dC3 (dC2 (dC1 d4 dc)) d3;rw[h1,h2,h3.2]) (by show _=dM (dC2 (dC1 d4 dc)) d3;rw[h1,h2,h3.1]) rfl rfl rfl rfl rfl
    first|refine s1 (G6 (by omega) (by omega)) rfl rfl rfl ?_|refine s1 (I3 _ _ _ (by omega)) rfl rfl rfl ?_
    first|refine s1 (D5 (C7 (by omega) (by omega))) rfl rfl rfl ?_|refine s1 (G7 _ _ _) rfl rfl rfl ?_
    first|refine s1 (G6 (by omega) (by omega)) rfl rfl rfl ?_|refine s1 (I3 _ _ _ (by omega)) rfl rfl rfl ?_
    refine s1 (A9T (by omega) (by omega)) rfl rfl rfl ?_;first|refine s1 (D5 (C7 (by omega) (by omega))) rfl rfl rfl ?_|refine s1 (G7 _ _ _) rfl rfl rfl ?_
    refine s1 (A9U (by omega) (by omega)) rfl rfl rfl ?_;first|refine s1 (D5 (C7 (by omega) (by omega))) rfl rfl rfl ?_|refine s1 (G7 _ _ _) rfl rfl rfl ?_
    refine s31 (N1 _ _ (by omega)) rfl ?_;first|refine s4 rfl (fun g5=>?_) (fun g5=>?_)|refine s4B rfl (fun g5=>?_) (fun g5=>?_)
    ·refine s7 [.int .i64 _,.int .i64 _,.int .i64 _,.int .i64 _,.int .i64 _,.int .i64 _,.int .i64 _,.str _] rfl ?_;have hq:d0%4=0:=by omega
     rw[hq];have h1:=A1O (dc:=dc) g3;have h2:=A4P g4;have h3:=B50 (c:=(1114113+d4 / 2%26)) (m:=d3) (by first|exact g5|exact decide_eq_true g5|exact decide_eq_false g5);exact l8 rfl (by show _=dC3 (dC2 (dC1 d4 dc)) d3;rw[h1,h2,h3.2]) (by show _=dM (dC2 (dC1 d4 dc)) d3;rw[h1,h2,h3.1]) rfl rfl rfl rfl rfl
    refine s31 (N1 _ _ (by omega)) rfl ?_;first|refine s4 rfl (fun g6=>?_) (fun g6=>?_)|refine s4B rfl (fun g6=>?_) (fun g6=>?_)
    ·refine s7 [.int .i64 _,.int .i64 _,.int .i64 _,.int .i64 _,.int .i64 _,.int .i64 _,.int .i64 _,.str _] rfl ?_;have hq:d0%4=0:=by omega
     rw[hq];have h1:=A1O (dc:=dc) g3;have h2:=A4P g4;have h3:=B5z (c:=(1114113+d4 / 2%26)) (m:=d3) (by first|exact g5|exact decide_eq_true g5|exact decide_eq_false g5) (by first|exact g6|exact decide_eq_true g6|exact decide_eq_false g6);exact l8 rfl (by show _=dC3 (dC2 (dC1 d4 dc)) d3;rw[h1,h2,h3.2]) (by show _=dM (dC2 (dC1 d4 dc)) d3;rw[h1,h2,h3.1]) rfl rfl rfl rfl rfl
    refine s31 (N1 _ _ (by omega)) rfl ?_;first|refine s4 rfl (fun g7=>?_) (fun g7=>?_)|refine s4B rfl (fun g7=>?_) (fun g7=>?_)
    ·refine s7 [.int .i64 _,.int .i64 _,.int .i64 _,.int .i64 _,.int .i64 _,.int .i64 _,.int .i64 _,.str _] rfl ?_;have hq:d0%4=0:=by omega
     rw[hq];have h1:=A1O (dc:=dc) g3;have h2:=A4P g4;have h3:=B5y (c:=(1114113+d4 / 2%26)) (m:=d3) (by first|exact g5|exact decide_eq_true g5|exact decide_eq_false g5) (by first|exact g6|exact decide_eq_true g6|exact decide_eq_false g6) (by first|exact g7|exact decide_eq_true g7|exact decide_eq_false g7);exact l8 rfl (by show _=dC3 (dC2 (dC1 d4 dc)) d3;rw[h1,h2,h3.2]) (by show _=dM (dC2 (dC1 d4 dc)) d3;rw[h1,h2,h3.1]) rfl rfl rfl rfl rfl
    refine s31 (N1 _ _ (by omega)) rfl ?_;first|refine s4 rfl (fun g8=>?_) (fun g8=>?_)|refine s4B rfl (fun g8=>?_) (fun g8=>?_)
    ·refine s7 [.int .i64 _,.int .i64 _,.int .i64 _,.int .i64 _,.int .i64 _,.int .i64 _,.int .i64 _,.str _] rfl ?_;have hq:d0%4=0:=by omega
     rw[hq];have h1:=A1O (dc:=dc) g3;have h2:=A4P g4;have h3:=B5x (c:=(1114113+d4 / 2%26)) (m:=d3) (by first|exact g5|exact decide_eq_true g5|exact decide_eq_false g5) (by first|exact g6|exact decide_eq_true g6|exact decide_eq_false g6) (by first|exact g7|exact decide_eq_true g7|exact decide_eq_false g7) (by first|exact g8|exact decide_eq_true g8|exact decide_eq_false g8);exact l8 rfl (by show _=dC3 (dC2 (dC1 d4 dc)) d3;rw[h1,h2,h3.2]) (by show _=dM (dC2 (dC1 d4 dc)) d3;rw[h1,h2,h3.1]) rfl rfl rfl rfl rfl
    refine s7 [.int .i64 _,.int .i64 _,.int .i64 _,.int .i64 _,.int .i64 _,.int .i64 _,.int .i64 _,.str _] rfl ?_;have hq:d0%4=0:=by omega
    rw[hq];have h1:=A1O (dc:=dc) g3;have h2:=A4P g4;have h3:=B5w (c:=(1114113+d4 / 2%26)) (m:=d3) (by first|exact g5|exact decide_eq_true g5|exact decide_eq_false g5) (by first|exact g6|exact decide_eq_true g6|exact decide_eq_false g6) (by first|exact g7|exact decide_eq_true g7|exact decide_eq_false g7) (by first|exact g8|exact decide_eq_true g8|exact decide_eq_false g8);exact l8 rfl (by show _=dC3 (dC2 (dC1 d4 dc)) d3;rw[h1,h2,h3.2]) (by show _=dM (dC2 (dC1 d4 dc)) d3;rw[h1,h2,h3.1]) rfl rfl rfl rfl rfl
   refine s1 (L3 _ _ _) rfl rfl rfl ?_;refine s4 rfl (fun g4=>?_) fun g4=>?_
   ·refine s31 (B44 _) rfl ?_;first|refine s1 (D4 _) rfl rfl rfl ?_|refine s1 (I4 _) rfl rfl rfl ?_
    first|refine s4 rfl (fun g5=>?_) (fun g5=>?_)|refine s4B rfl (fun g5=>?_) (fun g5=>?_)
    ·first|refine s1 (G6 (by omega) (by omega)) rfl rfl rfl ?_|refine s1 (I3 _ _ _ (by omega)) rfl rfl rfl ?_
     first|refine s1 (D8 (C7 (by omega) (by omega))) rfl rfl rfl ?_|refine s1 (E8 _ _ _) rfl rfl rfl ?_
     first|refine s1 (G6 (by omega) (by omega)) rfl rfl rfl ?_|refine s1 (I3 _ _ _ (by omega)) rfl rfl rfl ?_
     first|refine s1 (D5 (C7 (by omega) (by omega))) rfl rfl rfl ?_|refine s1 (G7 _ _ _) rfl rfl rfl ?_
     first|refine s1 (G6 (by omega) (by omega)) rfl rfl rfl ?_|refine s1 (I3 _ _ _ (by omega)) rfl rfl rfl ?_
     refine s1 (A9T (by omega) (by omega)) rfl rfl rfl ?_;first|refine s1 (D5 (C7 (by omega) (by omega))) rfl rfl rfl ?_|refine s1 (G7 _ _ _) rfl rfl rfl ?_
     refine s1 (A9U (by omega) (by omega)) rfl rfl rfl ?_;first|refine s1 (D5 (C7 (by omega) (by omega))) rfl rfl rfl ?_|refine s1 (G7 _ _ _) rfl rfl rfl ?_
     refine s31 (N1 _ _ (by omega)) rfl ?_;first|refine s4 rfl (fun g6=>?_) (fun g6=>?_)|refine s4B rfl (fun g6=>?_) (fun g6=>?_)
     ·refine s7 [.int .i64 _,.int .i64 _,.int .i64 _,.int .i64 _,.int .i64 _,.int .i64 _,.int .i64 _,.str _] rfl ?_;have hq:d0%4=0:=by omega
      rw[hq];have h1:=A1N (dc:=dc) g3;have h2:=A4O g4 (by simpa using g5);have h3:=B50 (c:=(97+dc%26)) (m:=d3) (by first|exact g6|exact decide_eq_true g6|exact decide_eq_false g6);exact l8 rfl (by show _=dC3 (dC2 (dC1 d4 dc)) d3;rw[h1,h2,h3.2]) (by show _=dM (dC2 (dC1 d4 dc)) d3;rw[h1,h2,h3.1]) rfl rfl rfl rfl rfl
     refine s31 (N1 _ _ (by omega)) rfl ?_;first|refine s4 rfl (fun g7=>?_) (fun g7=>?_)|refine s4B rfl (fun g7=>?_) (fun g7=>?_)
     ·refine s7 [.int .i64 _,.int .i64 _,.int .i64 _,.int .i64 _,.int .i64 _,.int .i64 _,.int .i64 _,.str _] rfl ?_;have hq:d0%4=0:=by omega
      rw[hq];have h1:=A1N (dc:=dc) g3;have h2:=A4O g4 (by simpa using g5);have h3:=B5z (c:=(97+dc%26)) (m:=d3) (by first|exact g6|exact decide_eq_true g6|exact decide_eq_false g6) (by first|exact g7|exact decide_eq_true g7|exact decide_eq_false g7);exact l8 rfl (by show _=dC3 (dC2 (dC1 d4 dc)) d3;rw[h1,h2,h3.2]) (by show _=dM (dC2 (dC1 d4 dc)) d3;rw[h1,h2,h3.1]) rfl rfl rfl rfl rfl
     refine s31 (N1 _ _ (by omega)) rfl ?_;first|refine s4 rfl (fun g8=>?_) (fun g8=>?_)|refine s4B rfl (fun g8=>?_) (fun g8=>?_)
     ·refine s7 [.int .i64 _,.int .i64 _,.int .i64 _,.int .i64 _,.int .i64 _,.int .i64 _,.int .i64 _,.str _] rfl ?_;have hq:d0%4=0:=by omega
      rw[hq];have h1:=A1N (dc:=dc) g3;have h2:=A4O g4 (by simpa using g5);have h3:=B5y (c:=(97+dc%26)) (m:=d3) (by first|exact g6|exact decide_eq_true g6|exact decide_eq_false g6) (by first|exact g7|exact decide_eq_true g7|exact decide_eq_false g7) (by first|exact g8|exact decide_eq_true g8|exact decide_eq_false g8);exact l8 rfl (by show _=dC3 (dC2 (dC1 d4 dc)) d3;rw[h1,h2,h3.2]) (by show _=dM (dC2 (dC1 d4 dc)) d3;rw[h1,h2,h3.1]) rfl rfl rfl rfl rfl
     refine s31 (N1 _ _ (by omega)) rfl ?_;first|refine s4 rfl (fun g9=>?_) (fun g9=>?_)|refine s4B rfl (fun g9=>?_) (fun g9=>?_)
     ·refine s7 [.int .i64 _,.int .i64 _,.int .i64 _,.int .i64 _,.int .i64 _,.int .i64 _,.int .i64 _,.str _] rfl ?_;have hq:d0%4=0:=by omega
      rw[hq];have h1:=A1N (dc:=dc) g3;have h2:=A4O g4 (by simpa using g5);have h3:=B5x (c:=(97+dc%26)) (m:=d3) (by first|exact g6|exact decide_eq_true g6|exact decide_eq_false g6) (by first|exact g7|exact decide_eq_true g7|exact decide_eq_false g7) (by first|exact g8|exact decide_eq_true g8|exact decide_eq_false g8) (by first|exact g9|exact decide_eq_true g9|exact decide_eq_false g9);exact l8 rfl (by show _=dC3 (dC2 (dC1 d4 dc)) d3;rw[h1,h2,h3.2]) (by show _=dM (dC2 (dC1 d4 dc)) d3;rw[h1,h2,h3.1]) rfl rfl rfl rfl rfl
     refine s7 [.int .i64 _,.int .i64 _,.int .i64 _,.int .i64 _,.int .i64 _,.int .i64 _,.int .i64 _,.str _] rfl ?_;have hq:d0%4=0:=by omega
     rw[hq];have h1:=A1N (dc:=dc) g3;have h2:=A4O g4 (by simpa using g5);have h3:=B5w (c:=(97+dc%26)) (m:=d3) (by first|exact g6|exact decide_eq_true g6|exact decide_eq_false g6) (by first|exact g7|exact decide_eq_true g7|exact decide_eq_false g7) (by first|exact g8|exact decide_eq_true g8|exact decide_eq_false g8) (by first|exact g9|exact decide_eq_true g9|exact decide_eq_false g9);exact l8 rfl (by show _=dC3 (dC2 (dC1 d4 dc)) d3;rw[h1,h2,h3.2]) (by show _=dM (dC2 (dC1 d4 dc)) d3;rw[h1,h2,h3.1]) rfl rfl rfl rfl rfl
    first|refine s1 (G6 (by omega) (by omega)) rfl rfl rfl ?_|refine s1 (I3 _ _ _ (by omega)) rfl rfl rfl ?_
    first|refine s1 (D5 (C7 (by omega) (by omega))) rfl rfl rfl ?_|refine s1 (G7 _ _ _) rfl rfl rfl ?_
    first|refine s1 (G6 (by omega) (by omega)) rfl rfl rfl ?_|refine s1 (I3 _ _ _ (by omega)) rfl rfl rfl ?_
    refine s1 (A9T (by omega) (by omega)) rfl rfl rfl ?_;first|refine s1 (D5 (C7 (by omega) (by omega))) rfl rfl rfl ?_|refine s1 (G7 _ _ _) rfl rfl rfl ?_
    refine s1 (A9U (by omega) (by omega)) rfl rfl rfl ?_;first|refine s1 (D5 (C7 (by omega) (by omega))) rfl rfl rfl ?_|refine s1 (G7 _ _ _) rfl rfl rfl ?_
    refine s31 (N1 _ _ (by omega)) rfl ?_;first|refine s4 rfl (fun g6=>?_) (fun g6=>?_)|refine s4B rfl (fun g6=>?_) (fun g6=>?_)
    ·refine s7 [.int .i64 _,.int .i64 _,.int .i64 _,.int .i64 _,.int .i64 _,.int .i64 _,.int .i64 _,.str _] rfl ?_;have hq:d0%4=0:=by omega
     rw[hq];have h1:=A1N (dc:=dc) g3;have h2:=A4Q (x:=dc) (by simpa using g5);have h3:=B50 (c:=dc) (m:=d3) (by first|exact g6|exact decide_eq_true g6|exact decide_eq_false g6);exact l8 rfl (by show _=dC3 (dC2 (dC1 d4 dc)) d3;rw[h1,h2,h3.2]) (by show _=dM (dC2 (dC1 d4 dc)) d3;rw[h1,h2,h3.1]) rfl rfl rfl rfl rfl
    refine s31 (N1 _ _ (by omega)) rfl ?_;first|refine s4 rfl (fun g7=>?_) (fun g7=>?_)|refine s4B rfl (fun g7=>?_) (fun g7=>?_)
    ·refine s7 [.int .i64 _,.int .i64 _,.int .i64 _,.int .i64 _,.int .i64 _,.int .i64 _,.int .i64 _,.str _] rfl ?_;have hq:d0%4=0:=by omega
     rw[hq];have h1:=A1N (dc:=dc) g3;have h2:=A4Q (x:=dc) (by simpa using g5);have h3:=B5z (c:=dc) (m:=d3) (by first|exact g6|exact decide_eq_true g6|exact decide_eq_false g6) (by first|exact g7|exact decide_eq_true g7|exact decide_eq_false g7);exact l8 rfl (by show _=dC3 (dC2 (dC1 d4 dc)) d3;rw[h1,h2,h3.2]) (by show _=dM (dC2 (dC1 d4 dc)) d3;rw[h1,h2,h3.1]) rfl rfl rfl rfl rfl
    refine s31 (N1 _ _ (by omega)) rfl ?_;first|refine s4 rfl (fun g8=>?_) (fun g8=>?_)|refine s4B rfl (fun g8=>?_) (fun g8=>?_)
    ·refine s7 [.int .i64 _,.int .i64 _,.int .i64 _,.int .i64 _,.int .i64 _,.int .i64 _,.int .i64 _,.str _] rfl ?_;have hq:d0%4=0:=by omega
     rw[hq];have h1:=A1N (dc:=dc) g3;have h2:=A4Q (x:=dc) (by simpa using g5);have h3:=B5y (c:=dc) (m:=d3) (by first|exact g6|exact decide_eq_true g6|exact decide_eq_false g6) (by first|exact g7|exact decide_eq_true g7|exact decide_eq_false g7) (by first|exact g8|exact decide_eq_true g8|exact decide_eq_false g8);exact l8 rfl (by show _=dC3 (dC2 (dC1 d4 dc)) d3;rw[h1,h2,h3.2]) (by show _=dM (dC2 (dC1 d4 dc)) d3;rw[h1,h2,h3.1]) rfl rfl rfl rfl rfl
    refine s31 (N1 _ _ (by omega)) rfl ?_;first|refine s4 rfl (fun g9=>?_) (fun g9=>?_)|refine s4B rfl (fun g9=>?_) (fun g9=>?_)
    ·refine s7 [.int .i64 _,.int .i64 _,.int .i64 _,.int .i64 _,.int .i64 _,.int .i64 _,.int .i64 _,.str _] rfl ?_;have hq:d0%4=0:=by omega
     rw[hq];have h1:=A1N (dc:=dc) g3;have h2:=A4Q (x:=dc) (by simpa using g5);have h3:=B5x (c:=dc) (m:=d3) (by first|exact g6|exact decide_eq_true g6|exact decide_eq_false g6) (by first|exact g7|exact decide_eq_true g7|exact decide_eq_false g7) (by first|exact g8|exact decide_eq_true g8|exact decide_eq_false g8) (by first|exact g9|exact decide_eq_true g9|exact decide_eq_false g9);exact l8 rfl (by show _=dC3 (dC2 (dC1 d4 dc)) d3;rw[h1,h2,h3.2]) (by show _=dM (dC2 (dC1 d4 dc)) d3;rw[h1,h2,h3.1]) rfl rfl rfl rfl rfl
    refine s7 [.int .i64 _,.int .i64 _,.int .i64 _,.int .i64 _,.int .i64 _,.int .i64 _,.int .i64 _,.str _] rfl ?_;have hq:d0%4=0:=by omega
    rw[hq];have h1:=A1N (dc:=dc) g3;have h2:=A4Q (x:=dc) (by simpa using g5);have h3:=B5w (c:=dc) (m:=d3) (by first|exact g6|exact decide_eq_true g6|exact decide_eq_false g6) (by first|exact g7|exact decide_eq_true g7|exact decide_eq_false g7) (by first|exact g8|exact decide_eq_true g8|exact decide_eq_false g8) (by first|exact g9|exact decide_eq_true g9|exact decide_eq_false g9);exact l8 rfl (by show _=dC3 (dC2 (dC1 d4 dc)) d3;rw[h1,h2,h3.2]) (by show _=dM (dC2 (dC1 d4 dc)) d3;rw[h1,h2,h3.1]) rfl rfl rfl rfl rfl
   first|refine s1 (G6 (by omega) (by omega)) rfl rfl rfl ?_|refine s1 (I3 _ _ _ (by omega)) rfl rfl rfl ?_
   first|refine s1 (D5 (C7 (by omega) (by omega))) rfl rfl rfl ?_|refine s1 (G7 _ _ _) rfl rfl rfl ?_
   first|refine s1 (G6 (by omega) (by omega)) rfl rfl rfl ?_|refine s1 (I3 _ _ _ (by omega)) rfl rfl rfl ?_
   refine s1 (A9T (by omega) (by omega)) rfl rfl rfl ?_;first|refine s1 (D5 (C7 (by omega) (by omega))) rfl rfl rfl ?_|refine s1 (G7 _ _ _) rfl rfl rfl ?_
   refine s1 (A9U (by omega) (by omega)) rfl rfl rfl ?_;first|refine s1 (D5 (C7 (by omega) (by omega))) rfl rfl rfl ?_|refine s1 (G7 _ _ _) rfl rfl rfl ?_
   refine s31 (N1 _ _ (by omega)) rfl ?_;first|refine s4 rfl (fun g5=>?_) (fun g5=>?_)|refine s4B rfl (fun g5=>?_) (fun g5=>?_)
   ·refine s7 [.int .i64 _,.int .i64 _,.int .i64 _,.int .i64 _,.int .i64 _,.int .i64 _,.int .i64 _,.str _] rfl ?_;have hq:d0%4=0:=by omega
    rw[hq];have h1:=A1N (dc:=dc) g3;have h2:=A4P g4;have h3:=B50 (c:=dc) (m:=d3) (by first|exact g5|exact decide_eq_true g5|exact decide_eq_false g5);exact l8 rfl (by show _=dC3 (dC2 (dC1 d4 dc)) d3;rw[h1,h2,h3.2]) (by show _=dM (dC2 (dC1 d4 dc)) d3;rw[h1,h2,h3.1]) rfl rfl rfl rfl rfl
   refine s31 (N1 _ _ (by omega)) rfl ?_;first|refine s4 rfl (fun g6=>?_) (fun g6=>?_)|refine s4B rfl (fun g6=>?_) (fun g6=>?_)
   ·refine s7 [.int .i64 _,.int .i64 _,.int .i64 _,.int .i64 _,.int .i64 _,.int .i64 _,.int .i64 _,.str _] rfl ?_;have hq:d0%4=0:=by omega
    rw[hq];have h1:=A1N (dc:=dc) g3;have h2:=A4P g4;have h3:=B5z (c:=dc) (m:=d3) (by first|exact g5|exact decide_eq_true g5|exact decide_eq_false g5) (by first|exact g6|exact decide_eq_true g6|exact decide_eq_false g6);exact l8 rfl (by show _=dC3 (dC2 (dC1 d4 dc)) d3;rw[h1,h2,h3.2]) (by show _=dM (dC2 (dC1 d4 dc)) d3;rw[h1,h2,h3.1]) rfl rfl rfl rfl rfl
   refine s31 (N1 _ _ (by omega)) rfl ?_;first|refine s4 rfl (fun g7=>?_) (fun g7=>?_)|refine s4B rfl (fun g7=>?_) (fun g7=>?_)
   ·refine s7 [.int .i64 _,.int .i64 _,.int .i64 _,.int .i64 _,.int .i64 _,.int .i64 _,.int .i64 _,.str _] rfl ?_;have hq:d0%4=0:=by omega
    rw[hq];have h1:=A1N (dc:=dc) g3;have h2:=A4P g4;have h3:=B5y (c:=dc) (m:=d3) (by first|exact g5|exact decide_eq_true g5|exact decide_eq_false g5) (by first|exact g6|exact decide_eq_true g6|exact decide_eq_false g6) (by first|exact g7|exact decide_eq_true g7|exact decide_eq_false g7);exact l8 rfl (by show _=dC3 (dC2 (dC1 d4 dc)) d3;rw[h1,h2,h3.2]) (by show _=dM (dC2 (dC1 d4 dc)) d3;rw[h1,h2,h3.1]) rfl rfl rfl rfl rfl
   refine s31 (N1 _ _ (by omega)) rfl ?_;first|refine s4 rfl (fun g8=>?_) (fun g8=>?_)|refine s4B rfl (fun g8=>?_) (fun g8=>?_)
   ·refine s7 [.int .i64 _,.int .i64 _,.int .i64 _,.int .i64 _,.int .i64 _,.int .i64 _,.int .i64 _,.str _] rfl ?_;have hq:d0%4=0:=by omega
    rw[hq];have h1:=A1N (dc:=dc) g3;have h2:=A4P g4;have h3:=B5x (c:=dc) (m:=d3) (by first|exact g5|exact decide_eq_true g5|exact decide_eq_false g5) (by first|exact g6|exact decide_eq_true g6|exact decide_eq_false g6) (by first|exact g7|exact decide_eq_true g7|exact decide_eq_false g7) (by first|exact g8|exact decide_eq_true g8|exact decide_eq_false g8);exact l8 rfl (by show _=dC3 (dC2 (dC1 d4 dc)) d3;rw[h1,h2,h3.2]) (by show _=dM (dC2 (dC1 d4 dc)) d3;rw[h1,h2,h3.1]) rfl rfl rfl rfl rfl
   refine s7 [.int .i64 _,.int .i64 _,.int .i64 _,.int .i64 _,.int .i64 _,.int .i64 _,.int .i64 _,.str _] rfl ?_;have hq:d0%4=0:=by omega
   rw[hq];have h1:=A1N (dc:=dc) g3;have h2:=A4P g4;have h3:=B5w (c:=dc) (m:=d3) (by first|exact g5|exact decide_eq_true g5|exact decide_eq_false g5) (by first|exact g6|exact decide_eq_true g6|exact decide_eq_false g6) (by first|exact g7|exact decide_eq_true g7|exact decide_eq_false g7) (by first|exact g8|exact decide_eq_true g8|exact decide_eq_false g8);exact l8 rfl (by show _=dC3 (dC2 (dC1 d4 dc)) d3;rw[h1,h2,h3.2]) (by show _=dM (dC2 (dC1 d4 dc)) d3;rw[h1,h2,h3.1]) rfl rfl rfl rfl rfl
  ·cases hs
 ·cases hs
def rQ:Rw ((List UInt8)×Int×Int×Int×Int×Int×Int×Int×(List UInt8)):=rC A8B (rC (R5 .i64) (rC (R5 .i64) (rC (R5 .i64) (rC (R5 .i64) (rC (R5 .i64) (rC (R5 .i64) (rC (R5 .i64) (r1 A8B))))))))
abbrev Qt:=(List UInt8×Int×Int×Int×Int×Int×Int×Int×List UInt8)
def qq(a b:Qt):Bool:=(a.1 == b.1 && true)
def qR(s:List UInt8)(c m:Int):Qt:=(s,1,c,m,0,0,0,0,[])
def inQ(c:Int):Nat→Int→Option (List Qt)→Option (List Qt)
 | 0,_,x=>x
 | n+1,j,x=>inQ c n (j+1) (A8u qq (A8u qq x (qR (keS false c j) c j)) (qR (keS true c j) c j))
def otQ:Nat→Int→Option (List Qt)→Option (List Qt)
 | 0,_,x=>x
 | n+1,c,x=>otQ n (c+1) (inQ c 8 0 x)
theorem C3h{c j:Int}{x:Option (List Qt)}(h:j<8):inQ c (8-j).toNat j x=inQ c (8-(j+1)).toNat (j+1) (A8u qq (A8u qq x (qR (keS false c j) c j)) (qR (keS true c j) c j)):=by
 rw[show(8-j).toNat=(8-(j+1)).toNat+1 by omega];rfl
theorem C3i{c j:Int}{x:Option (List Qt)}(h:¬j<8):inQ c (8-j).toNat j x=x:=by
 rw[show(8-j).toNat=0 by omega];rfl
theorem C3L{c:Int}{x:Option (List Qt)}(h:c≤1114134):otQ (1114135-c).toNat c x=otQ (1114135-(c+1)).toNat (c+1) (inQ c 8 0 x):=by
 rw[show(1114135-c).toNat=(1114135-(c+1)).toNat+1 by omega];rfl
theorem C3M{c:Int}{x:Option (List Qt)}(h:¬c≤1114134):otQ (1114135-c).toNat c x=x:=by
 rw[show(1114135-c).toNat=0 by omega];rfl
theorem nn2{x:Option (List Qt)}{a:Qt}(h:x≠none):A8u qq x a≠none:=by
 cases x with
 | none=>exact absurd rfl h
 | some l=>exact L6 _
theorem C1E{c:Int}:∀ (n:Nat) (j:Int) {x:Option (List Qt)},x≠none→inQ c n j x≠none
 | 0,_,_,h=>h
 | n+1,j,_,h=>C1E n (j+1) (nn2 (nn2 h))
theorem C01{c m:Int}(h:1114113≤c)(h2:c≤1114134)(h3:0≤m)(h4:m≤7):A7 c m:=.inr (.inl ⟨h,h2,h3,h4⟩)
noncomputable def C1h:List (FuncId×FnC):=(50,N3 Tryz.prog [.a [8,8,8,8,8,8,8,8,8,8,8,3,8],.a [3,3,3,3,3,3,3,9]] A3a [.s 9])::L0
theorem B8V{G:Nat→Option Obj}(hst:D2 Tryz.prog G gl H0 n0):J3 Tryz.prog G gl C1h:=(.cons (B4t hst) .nil)
def A6_:List U→Option (Nat×List U)
 | [.int .i64 c,.int .i64 j,u_x]=>(A4E rQ u_x).bind fun x=>if 1114113≤c∧c≤1114134∧0≤j∧j≤8∧x≠none then some (0,[.int .i64 c,K3 rQ (inQ c (8-j).toNat j x)])else none
 | _=>none
theorem A6l(c:Int)(j:Int)(x:(Option (List ((List UInt8)×Int×Int×Int×Int×Int×Int×Int×(List UInt8)))))(hc:1114113≤c∧c≤1114134∧0≤j∧j≤8∧x≠none):A6_ [.int .i64 c,.int .i64 j,K3 rQ x]=some (0,[.int .i64 c,K3 rQ (inQ c (8-j).toNat j x)]):=by
 simp only[A6_,t7,S1];exact if_pos hc
def B6g:n8:=⟨[(1,.map (some 6)),(2,h 0 3),(14,h 1 3)],[(6,.mp 2 19 81)],3,[⟨.exit 2,[(1,.map (some 6)),(2,h 0 3)],[(6,.mp 1 19 81)],2⟩]⟩
noncomputable def B6h:Code:=(Tryz.f72.body).getD .skip
noncomputable def C0Q:Code:=match K4 [true,true,false,true,false,false,true,false,false,true,false] B6h with|some (.loop x)=>x|_=>.skip
theorem B6f:Tryz.f72.body=some B6h:=rfl
theorem B6c:K4 [true,true,false,true,false,false,true,false,false,true,false] B6h=some (.loop C0Q):=by kernel_rfl
def C0R:Tr:=.lt 8 (.bin .lss) [h 1 3,jI 8]<|.br 3 (.fn A3a [.bool false,.bool false,.bool false,.bool false,.bool false,.bool false,.bool false,.bool false,.bool false,.bool false,.bool false,jI 0,.bool false,jI 1,h 0 3,h 1 3,jI 0,jI 0,jI 0,jI 0,.string ⟨⟨[]⟩⟩] 1<|.dt 19 (.mput 9 1) [h 2 19,h 4 9,jI 1,h 0 3,h 1 3,jI 0,jI 0,jI 0,jI 0,.string ⟨⟨[]⟩⟩]<|.fn A3a [.bool false,.bool false,.bool true,.bool false,.bool false,.bool false,.bool false,.bool false,.bool false,.bool false,.bool false,jI 0,.bool false,jI 1,h 0 3,h 1 3,jI 0,jI 0,jI 0,jI 0,.string ⟨⟨[]⟩⟩] 1<|.dt 19 (.mput 9 1) [h 5 19,h 6 9,jI 1,h 0 3,h 1 3,jI 0,jI 0,jI 0,jI 0,.string ⟨⟨[]⟩⟩]<|.lt 3 (.bin .add) [h 1 3,jI 1]<|.ret [jI (-1),h 0 3,h 8 3,h 7 19]) (.ret [jI 0,h 0 3,h 2 19])
def B6e:List U→Nat
 | [.int .i64 c,.int .i64 j,u_x]=>(match A4E rQ u_x with|some x=>(8-j).toNat|none=>0)
 | _=>0
theorem B6d(c:Int)(j:Int)(x:(Option (List ((List UInt8)×Int×Int×Int×Int×Int×Int×Int×(List UInt8))))):B6e [.int .i64 c,.int .i64 j,K3 rQ x]=(8-j).toNat:=by
 simp only[B6e,t7]
theorem C0S{G:Nat→Option Obj}(hst:D2 Tryz.prog G gl H0 n0):∀ (E:Nat→U) (base:Nat),@y5 ⟨E,G⟩ Tryz.prog base gl Tryz.f72.ntmps C0Q (A1b Tryz.prog gl n0 7 B6g A6_):=by
 refine A5D (C:=cx C1h B2u) (dep:=60) (f:=72) (n0:=n0) (nB:=7) (H0:=H0) B6e C0R (cxg (B8V hst) (A5b hst)) hst Tryz.func72 B6f B6c (by kernel_rfl) (by kernel_rfl) (by kernel_rfl) ?_;intro us d outs hs;have hs0:=hs;unfold A6_ at hs;split at hs
 ·skip;rename_i c j u_x;have hq_x:=L7.1 hs;clear hs;obtain⟨x,hd_x,hs⟩:=hq_x;replace hd_x:=A37 hd_x;subst hd_x;split at hs
  ·rename_i hc;clear hs hs0;refine⟨rfl,?_⟩;unfold C0R;refine s0 (.cons 2 _ (.cons 1 _ (.cons 0 _ (.nil)))) rfl (by simp[Ev.ok,Ev.len]) ?_;refine s1 (L3 _ _ _) rfl rfl rfl ?_;refine s5 rfl (fun g0=>?_) fun g0=>?_
   ·refine s7 [.int .i64 _,.int .i64 _,K3 rQ _] rfl ?_;refine m7 (d:=0) ?_;rw[A6l c j x hc,C3i (by omega)]
   refine s31 (A6v _ _ _ _ _ _ _ _ _ _ _ _ _ _ _ _ _ _ _ _ _ (C01 (by omega) (by omega) (by omega) (by omega))) rfl ?_;refine s2 (r:=rQ) (c9 qq (qR (keS false c j) c j) rfl rfl (fun _=>rfl) (by first|exact hc.2.2.2.2|exact nn2 hc.2.2.2.2|exact hc.2.2|exact nn2 hc.2.2)) rfl rfl ?_;refine s31 (A6v _ _ _ _ _ _ _ _ _ _ _ _ _ _ _ _ _ _ _ _ _ (C01 (by omega) (by omega) (by omega) (by omega))) rfl ?_;refine s2 (r:=rQ) (c9 qq (qR (keS true c j) c j) rfl rfl (fun _=>rfl) (by first|exact hc.2.2.2.2|exact nn2 hc.2.2.2.2|exact hc.2.2|exact nn2 hc.2.2)) rfl rfl ?_;first|refine s1 (D8 (C7 (by omega) (by omega))) rfl rfl rfl ?_|refine s1 (E8 _ _ _) rfl rfl rfl ?_
   refine s7 [.int .i64 _,.int .i64 _,.int .i64 _,K3 rQ _] rfl ?_;refine A0r ?_ ?_
   ·rw[A6l c (j+1) _ ⟨by omega,by omega,by omega,by omega,nn2 (nn2 hc.2.2.2.2)⟩,A6l c j x hc,C3h (c:=c) (j:=j) (x:=x) (by omega)]
   ·rw[B6d,B6d];omega
  ·cases hs
 ·cases hs
noncomputable def C2E:List LpE:=(72,([true,true,false,true,false,false,true,false,false,true,false],A1b Tryz.prog gl n0 7 B6g A6_))::B2u
theorem B88{G:Nat→Option Obj}(hst:D2 Tryz.prog G gl H0 n0):A2t Tryz.prog G gl C2E:=.cons Tryz.func72 B6f B6c (C0S hst) (A5b hst)
noncomputable def C1g:List (FuncId×FnC):=(50,N3 Tryz.prog [.a [8,8,8,8,8,8,8,8,8,8,8,3,8],.a [3,3,3,3,3,3,3,9]] A3a [.s 9])::L0
theorem B8U{G:Nat→Option Obj}(hst:D2 Tryz.prog G gl H0 n0):J3 Tryz.prog G gl C1g:=(.cons (B4t hst) .nil)
def B1M:List U→Option (Nat×List U)
 | [.int .i64 c,u_x]=>(A4E rQ u_x).bind fun x=>if 1114113≤c∧c≤1114135∧x≠none then some (0,[K3 rQ (otQ (1114135-c).toNat c x)])else none
 | _=>none
theorem A92(c:Int)(x:(Option (List ((List UInt8)×Int×Int×Int×Int×Int×Int×Int×(List UInt8)))))(hc:1114113≤c∧c≤1114135∧x≠none):B1M [.int .i64 c,K3 rQ x]=some (0,[K3 rQ (otQ (1114135-c).toNat c x)]):=by
 simp only[B1M,t7,S1];exact if_pos hc
def C0P:n8:=⟨[(1,.map (some 6)),(2,h 0 3)],[(6,.mp 1 19 81)],2,[⟨.exit 0,[(1,.map (some 6))],[(6,.mp 0 19 81)],1⟩]⟩
noncomputable def B6b:Code:=(Tryz.f72.body).getD .skip
noncomputable def C0L:Code:=match K4 [true,true,false,true,false] B6b with|some (.loop x)=>x|_=>.skip
theorem C0O:Tryz.f72.body=some B6b:=rfl
theorem C0N:K4 [true,true,false,true,false] B6b=some (.loop C0L):=by kernel_rfl
def C0M:Tr:=.lt 8 (.bin .leq) [h 0 3,jI 1114134]<|.br 2 (.fn A6_ [h 0 3,jI 0,h 1 19] 2<|.lt 3 (.bin .add) [h 3 3,jI 1]<|.ret [jI (-1),h 5 3,h 4 19]) (.ret [jI 0,h 1 19])
def B6a:List U→Nat
 | [.int .i64 c,u_x]=>(match A4E rQ u_x with|some x=>(1114135-c).toNat|none=>0)
 | _=>0
theorem B6Z(c:Int)(x:(Option (List ((List UInt8)×Int×Int×Int×Int×Int×Int×Int×(List UInt8))))):B6a [.int .i64 c,K3 rQ x]=(1114135-c).toNat:=by
 simp only[B6a,t7]
theorem C26{G:Nat→Option Obj}(hst:D2 Tryz.prog G gl H0 n0):∀ (E:Nat→U) (base:Nat),@y5 ⟨E,G⟩ Tryz.prog base gl Tryz.f72.ntmps C0L (A1b Tryz.prog gl n0 7 C0P B1M):=by
 refine A5D (C:=cx C1g C2E) (dep:=60) (f:=72) (n0:=n0) (nB:=7) (H0:=H0) B6a C0M (cxg (B8U hst) (B88 hst)) hst Tryz.func72 C0O C0N (by kernel_rfl) (by kernel_rfl) (by kernel_rfl) ?_;intro us d outs hs;have hs0:=hs;unfold B1M at hs;split at hs
 ·skip;rename_i c u_x;have hq_x:=L7.1 hs;clear hs;obtain⟨x,hd_x,hs⟩:=hq_x;replace hd_x:=A37 hd_x;subst hd_x;split at hs
  ·rename_i hc;clear hs hs0;refine⟨rfl,?_⟩;unfold C0M;refine s0 (.cons 1 _ (.cons 0 _ (.nil))) rfl (by simp[Ev.ok,Ev.len]) ?_;refine s1 (G0 _ _ _) rfl rfl rfl ?_;refine s5 rfl (fun g0=>?_) fun g0=>?_
   ·refine s7 [.int .i64 _,K3 rQ _] rfl ?_;refine m7 (d:=0) ?_;rw[A92 c x hc,C3M (by omega)]
   refine s32 (A6l _ _ _ ⟨by omega,by omega,by omega,by omega,hc.2.2⟩) rfl rfl ?_;first|refine s1 (D8 (C7 (by omega) (by omega))) rfl rfl rfl ?_|refine s1 (E8 _ _ _) rfl rfl rfl ?_
   refine s7 [.int .i64 _,.int .i64 _,K3 rQ _] rfl ?_;refine A0r ?_ ?_
   ·rw[A92 (c+1) _ ⟨by omega,by omega,C1E _ _ hc.2.2⟩,A92 c x hc,C3L (c:=c) (x:=x) (by omega)];rfl
   ·rw[B6Z,B6Z];omega
  ·cases hs
 ·cases hs
noncomputable def B5D:List LpE:=[(72,([true,true,false,true,false],A1b Tryz.prog gl n0 7 C0P B1M)),(72,([true,true,false,true,false,false,true,false,false,true,false],A1b Tryz.prog gl n0 7 B6g A6_))]
theorem B3u{G:Nat→Option Obj}(hst:D2 Tryz.prog G gl H0 n0):A2t Tryz.prog G gl B5D:=(.cons Tryz.func72 C0O C0N (C26 hst) (.cons Tryz.func72 B6f B6c (C0S hst) .nil))
noncomputable def C1d:List (FuncId×FnC):=(50,N3 Tryz.prog [.a [8,8,8,8,8,8,8,8,8,8,8,3,8],.a [3,3,3,3,3,3,3,9]] A3a [.s 9])::(23,N3 Tryz.prog [.a [8,8,8,8,8,8,8,8,8,8,8,3,8],.a [3,3,3,3,3,3,3,9]] A1c [.s 11,.s 3])::(79,N3 Tryz.prog [.s 3] A0c [.s 9])::L0
theorem B8R{G:Nat→Option Obj}(hst:D2 Tryz.prog G gl H0 n0):J3 Tryz.prog G gl C1d:=(.cons (B4t hst) (.cons (C03 hst) (.cons (B7i hst) .nil)))
def B04:List U→Option (Nat×List U)
 | []=>some (0,[.bool (true)])
 | _=>none
theorem B9C :B04 []=some (0,[.bool (true)]):=rfl
theorem C23{G:Nat→Option Obj}(hst:D2 Tryz.prog G gl H0 n0):N0 Tryz.prog G 15 [] B04 [.s 8]:=by
 refine A8h (C:=cx C1d B5D) (d:=60) (cxg (B8R hst) (B3u hst)) hst ⟨Tryz.f15,_,Tryz.func15,rfl⟩ ?_;intro us outs hs;unfold B04 at hs;split at hs
 ·cases hs;exact⟨[1,1,1,1,1,1,1,1,1,1,1,1,1,1,1,1,1,0,1,0,1,1,1,0,1,1,0],by kernel_rfl⟩
 ·cases hs
noncomputable def C1k:List (FuncId×FnC):=L0
theorem B8Z{G:Nat→Option Obj}(hst:D2 Tryz.prog G gl H0 n0):J3 Tryz.prog G gl C1k:=.nil
def A7K:List U→Option (Nat×List U)
 | [.int .u16 b]=>if 0≤b∧b<65536 then some (0,[.bool (decide (b / 1%2=1)),.bool (decide (b / 2%2=1)),.bool (decide (b / 4%2=1)),.bool (decide (b / 8%2=1)),.bool (decide (b / 16%2=1)),.bool (decide (¬b / 32%2=1)),.bool (decide (¬b / 64%2=1)),.bool (decide (b / 128%2=1)),.bool (decide (b / 256%2=1)),.bool (decide (b / 512%2=1)),.bool (decide (b / 1024%2=1)),.int .i64 (([0,0,0,0,9,1000,1002,1003]:List Int).getD (b / 4096%8).toNat 0),.bool (decide (b / 2048%2=1))])else none
 | _=>none
theorem A9_(b:Int)(hc:0≤b∧b<65536):A7K [.int .u16 b]=some (0,[.bool (decide (b / 1%2=1)),.bool (decide (b / 2%2=1)),.bool (decide (b / 4%2=1)),.bool (decide (b / 8%2=1)),.bool (decide (b / 16%2=1)),.bool (decide (¬b / 32%2=1)),.bool (decide (¬b / 64%2=1)),.bool (decide (b / 128%2=1)),.bool (decide (b / 256%2=1)),.bool (decide (b / 512%2=1)),.bool (decide (b / 1024%2=1)),.int .i64 (([0,0,0,0,9,1000,1002,1003]:List Int).getD (b / 4096%8).toNat 0),.bool (decide (b / 2048%2=1))]):=if_pos hc
def C0Z:Tr:=.lt 5 (.bin .shr) [h 0 5,.int .u64 (0)]<|.lt 5 (.bin .rem) [h 1 5,.int .u16 (2)]<|.lt 8 (.bin .eql) [h 2 5,.int .u16 (1)]<|.lt 5 (.bin .shr) [h 0 5,.int .u64 (1)]<|.lt 5 (.bin .rem) [h 4 5,.int .u16 (2)]<|.lt 8 (.bin .eql) [h 5 5,.int .u16 (1)]<|.lt 5 (.bin .shr) [h 0 5,.int .u64 (2)]<|.lt 5 (.bin .rem) [h 7 5,.int .u16 (2)]<|.lt 8 (.bin .eql) [h 8 5,.int .u16 (1)]<|.lt 5 (.bin .shr) [h 0 5,.int .u64 (3)]<|.lt 5 (.bin .rem) [h 10 5,.int .u16 (2)]<|.lt 8 (.bin .eql) [h 11 5,.int .u16 (1)]<|.lt 5 (.bin .shr) [h 0 5,.int .u64 (4)]<|.lt 5 (.bin .rem) [h 13 5,.int .u16 (2)]<|.lt 8 (.bin .eql) [h 14 5,.int .u16 (1)]<|.lt 5 (.bin .shr) [h 0 5,.int .u64 (5)]<|.lt 5 (.bin .rem) [h 16 5,.int .u16 (2)]<|.lt 8 (.bin .eql) [h 17 5,.int .u16 (1)]<|.lt 8 (.un .not) [h 18 8]<|.lt 5 (.bin .shr) [h 0 5,.int .u64 (6)]<|.lt 5 (.bin .rem) [h 20 5,.int .u16 (2)]<|.lt 8 (.bin .eql) [h 21 5,.int .u16 (1)]<|.lt 8 (.un .not) [h 22 8]<|.lt 5 (.bin .shr) [h 0 5,.int .u64 (7)]<|.lt 5 (.bin .rem) [h 24 5,.int .u16 (2)]<|.lt 8 (.bin .eql) [h 25 5,.int .u16 (1)]<|.lt 5 (.bin .shr) [h 0 5,.int .u64 (8)]<|.lt 5 (.bin .rem) [h 27 5,.int .u16 (2)]<|.lt 8 (.bin .eql) [h 28 5,.int .u16 (1)]<|.lt 5 (.bin .shr) [h 0 5,.int .u64 (9)]<|.lt 5 (.bin .rem) [h 30 5,.int .u16 (2)]<|.lt 8 (.bin .eql) [h 31 5,.int .u16 (1)]<|.lt 5 (.bin .shr) [h 0 5,.int .u64 (10)]<|.lt 5 (.bin .rem) [h 33 5,.int .u16 (2)]<|.lt 8 (.bin .eql) [h 34 5,.int .u16 (1)]<|.lt 5 (.bin .shr) [h 0 5,.int .u64 (11)]<|.lt 5 (.bin .rem) [h 36 5,.int .u16 (2)]<|.lt 8 (.bin .eql) [h 37 5,.int .u16 (1)]<|.lt 5 (.bin .shr) [h 0 5,.int .u64 (12)]<|.lt 5 (.bin .rem) [h 39 5,.int .u16 (8)]<|.lt 3 (.sel) [h 40 5,jI 0,jI 0,jI 0,jI 0,jI 9,jI 1000,jI 1002,jI 1003]<|.ret [h 3 8,h 6 8,h 9 8,h 12 8,h 15 8,h 19 8,h 23 8,h 26 8,h 29 8,h 32 8,h 35 8,h 41 3,h 38 8]
theorem C3A{G:Nat→Option Obj}(hst:D2 Tryz.prog G gl H0 n0):N0 Tryz.prog G 19 [.s 5] A7K [.a [8,8,8,8,8,8,8,8,8,8,8,3,8]]:=by
 refine F4 (C:=cx C1k []) (d:=60) C0Z (cxg (B8Z hst) .nil) hst ⟨Tryz.f19,_,Tryz.func19,rfl⟩ (by kernel_rfl) (by kernel_rfl) ?_;intro us outs hs;unfold A7K at hs;split at hs
 ·skip;rename_i b;split at hs
  ·rename_i hc;cases hs;unfold C0Z;refine s0 (.cons 0 _ (.nil)) rfl (by simp[Ev.ok,Ev.len]) ?_;refine s1 (N7 1 (by decide) (by decide)) rfl rfl rfl ?_;first|refine s1 (G6 (by omega) (by omega)) rfl rfl rfl ?_|refine s1 (I3 _ _ _ (by omega)) rfl rfl rfl ?_
   refine s1 (A8 _ _ _) rfl rfl rfl ?_;refine s1 (N7 2 (by decide) (by decide)) rfl rfl rfl ?_;first|refine s1 (G6 (by omega) (by omega)) rfl rfl rfl ?_|refine s1 (I3 _ _ _ (by omega)) rfl rfl rfl ?_
   refine s1 (A8 _ _ _) rfl rfl rfl ?_;refine s1 (N7 4 (by decide) (by decide)) rfl rfl rfl ?_;first|refine s1 (G6 (by omega) (by omega)) rfl rfl rfl ?_|refine s1 (I3 _ _ _ (by omega)) rfl rfl rfl ?_
   refine s1 (A8 _ _ _) rfl rfl rfl ?_;refine s1 (N7 8 (by decide) (by decide)) rfl rfl rfl ?_;first|refine s1 (G6 (by omega) (by omega)) rfl rfl rfl ?_|refine s1 (I3 _ _ _ (by omega)) rfl rfl rfl ?_
   refine s1 (A8 _ _ _) rfl rfl rfl ?_;refine s1 (N7 16 (by decide) (by decide)) rfl rfl rfl ?_;first|refine s1 (G6 (by omega) (by omega)) rfl rfl rfl ?_|refine s1 (I3 _ _ _ (by omega)) rfl rfl rfl ?_
   refine s1 (A8 _ _ _) rfl rfl rfl ?_;refine s1 (N7 32 (by decide) (by decide)) rfl rfl rfl ?_;first|refine s1 (G6 (by omega) (by omega)) rfl rfl rfl ?_|refine s1 (I3 _ _ _ (by omega)) rfl rfl rfl ?_
   refine s1 (A8 _ _ _) rfl rfl rfl ?_;refine s1 (D4 _) rfl rfl rfl ?_;refine s1 (N7 64 (by decide) (by decide)) rfl rfl rfl ?_;first|refine s1 (G6 (by omega) (by omega)) rfl rfl rfl ?_|refine s1 (I3 _ _ _ (by omega)) rfl rfl rfl ?_
   refine s1 (A8 _ _ _) rfl rfl rfl ?_;refine s1 (D4 _) rfl rfl rfl ?_;refine s1 (N7 128 (by decide) (by decide)) rfl rfl rfl ?_;first|refine s1 (G6 (by omega) (by omega)) rfl rfl rfl ?_|refine s1 (I3 _ _ _ (by omega)) rfl rfl rfl ?_
   refine s1 (A8 _ _ _) rfl rfl rfl ?_;refine s1 (N7 256 (by decide) (by decide)) rfl rfl rfl ?_;first|refine s1 (G6 (by omega) (by omega)) rfl rfl rfl ?_|refine s1 (I3 _ _ _ (by omega)) rfl rfl rfl ?_
   refine s1 (A8 _ _ _) rfl rfl rfl ?_;refine s1 (N7 512 (by decide) (by decide)) rfl rfl rfl ?_;first|refine s1 (G6 (by omega) (by omega)) rfl rfl rfl ?_|refine s1 (I3 _ _ _ (by omega)) rfl rfl rfl ?_
   refine s1 (A8 _ _ _) rfl rfl rfl ?_;refine s1 (N7 1024 (by decide) (by decide)) rfl rfl rfl ?_;first|refine s1 (G6 (by omega) (by omega)) rfl rfl rfl ?_|refine s1 (I3 _ _ _ (by omega)) rfl rfl rfl ?_
   refine s1 (A8 _ _ _) rfl rfl rfl ?_;refine s1 (N7 2048 (by decide) (by decide)) rfl rfl rfl ?_;first|refine s1 (G6 (by omega) (by omega)) rfl rfl rfl ?_|refine s1 (I3 _ _ _ (by omega)) rfl rfl rfl ?_
   refine s1 (A8 _ _ _) rfl rfl rfl ?_;refine s1 (N7 4096 (by decide) (by decide)) rfl rfl rfl ?_;first|refine s1 (G6 (by omega) (by omega)) rfl rfl rfl ?_|refine s1 (I3 _ _ _ (by omega)) rfl rfl rfl ?_
   refine s1 (A2Y [0,0,0,0,9,1000,1002,1003] (by omega) (by show _<((8:Nat):Int);omega)) rfl rfl rfl ?_;refine s7 [.bool _,.bool _,.bool _,.bool _,.bool _,.bool _,.bool _,.bool _,.bool _,.bool _,.bool _,.int .i64 _,.bool _] rfl ?_;first|rfl
  ·cases hs
 ·cases hs
theorem L8(x:Int) : -9223372036854775808≤IntKind.i64.wrap x∧IntKind.i64.wrap x≤9223372036854775807:=by
 simp only[IntKind.wrap,IntKind.bits,IntKind.signed,Nat.reduceSub]<;>simp<;>omega
theorem C4I(c m:Int)(h0:0≤m)(h1:m<256):0≤dM c m∧dM c m≤7:=by
 unfold dM
 (repeat' split)<;>omega
theorem C3v(q d3 d4 dc:Int)(h0:0≤d3)(h1:d3<256):0≤diM q d3 d4 dc∧diM q d3 d4 dc≤7:=by
 unfold diM
 have:=C4I (dC2 (dC1 d4 dc)) d3 h0 h1
 (repeat' split)<;>omega
theorem C3u(q:Int)(u:List UInt8):((diT q u).length:Int)≤1000:=by
 unfold diT;split
 ·have:=C2c (u.take 1000);rw[B2]at this;omega
 ·show(0:Int)≤1000;decide
theorem C4H{ck pa fo sg:Bool}{mo k c m w b r cl:Int}{t:List UInt8}(h:A6b k (isS pa fo mo k w b)=true):enS ck pa fo sg mo k c m w b r cl t=[]:=by
 unfold A6b at h;rw[I1]at h;have h1:=of_decide_eq_true h.1;have h2:=B3N h.2;unfold enS;rw[if_neg (fun g=>h1 g.1),if_pos h2]
theorem H9{e mo k c m w b r cl:Int}{ck pa fo sg:Bool}{t:List UInt8}:iB (el (B0u e (A6b k (isS pa fo mo k w b)) (enS ck pa fo sg mo k c m w b r cl t)))=iB (el (B3n e (enS ck pa fo sg mo k c m w b r cl t))):=by
 unfold B0u B3n;by_cases h:e=0
 ·rw[if_pos h,if_pos h];by_cases h2:A6b k (isS pa fo mo k w b)=true
  ·rw[if_pos h2,C4H h2];rfl
  ·rw[if_neg h2]
 ·rw[if_neg h,if_neg h]
theorem A2y{e:Int}{z:Bool}{s:List UInt8}:∀ n ∈ el (B0u e z s),0≤n∧n<256:=fun n h=>by
 unfold B0u at h;split at h
 ·split at h
  ·cases h
  ·exact B3q h
 ·cases h
theorem A2z{e:Int}{s:List UInt8}:∀ n ∈ el (B3n e s),0≤n∧n<256:=fun n h=>by
 unfold B3n at h;split at h
 ·exact B3q h
 ·cases h
set_option maxHeartbeats 4000000
noncomputable def B8p:List (FuncId×FnC):=(23,N3 Tryz.prog [.a [8,8,8,8,8,8,8,8,8,8,8,3,8],.a [3,3,3,3,3,3,3,9]] A1c [.s 11,.s 3])::(18,N3 Tryz.prog [.a [8,8,8,8,8,8,8,8,8,8,8,3,8],.a [3,3,3,3,3,3,3,9]] A16 [.s 11,.s 3])::(24,N3 Tryz.prog [.a [8,8,8,8,8,8,8,8,8,8,8,3,8],.a [3,3,3,3,3,3,3,9]] A1_ [.a [3,3,3,3,3,3,3,9],.s 8,.s 3])::(25,N3 Tryz.prog [.a [8,8,8,8,8,8,8,8,8,8,8,3,8],.a [3,3,3,3,3,3,3,9]] A17 [.a [3,3,3,3,3,3,3,9],.s 8,.s 3])::(12,N3 Tryz.prog [.a [4,4,4,4,4,4,4,6,9]] B2Y [.a [3,3,3,3,3,3,3,9]])::(15,N3 Tryz.prog [] B04 [.s 8])::(19,N3 Tryz.prog [.s 5] A7K [.a [8,8,8,8,8,8,8,8,8,8,8,3,8]])::L0
theorem B6A{G:Nat→Option Obj}(hst:D2 Tryz.prog G gl H0 n0):J3 Tryz.prog G gl B8p:=(.cons (C03 hst) (.cons (C3B hst) (.cons (C3Y hst) (.cons (C3I hst) (.cons (C3r hst) (.cons (C23 hst) (.cons (C3A hst) .nil)))))))
def B3X:List U→Option (Nat×List U)
 | [.int .i64 k,.int .i64 c,.int .i64 m,.int .i64 w,.int .i64 b,.int .i64 r,.int .i64 cl,.str t,.int .u8 d0,.int .u8 d1,.int .u8 d2,.int .u8 d3,.int .u8 d4,.int .u8 d5,.int .u8 d6,.int .u32 dc,.str u,.bool b0,.bool b1,.bool ck,.bool b3,.bool b4,.bool b5,.bool b6,.bool pa,.bool fo,.bool b9,.bool b10,.int .i64 mo,.bool sg,.int .u16 bb]=>if -9223372036854775808≤m∧m≤9223372036854775807∧(t.length:Int)≤140737488351232∧0≤bb∧bb<65536∧0≤d0∧d0<256∧0≤d1∧d1<256∧0≤d2∧d2<256∧0≤d3∧d3<256∧0≤d4∧d4<256∧0≤d5∧d5<256∧0≤d6∧d6<256∧0≤dc∧dc<4294967296∧(u.length:Int)≤140737488351232 then some (0,[.bool (true)])else none
 | _=>none
theorem B7Z(k:Int)(c:Int)(m:Int)(w:Int)(b:Int)(r:Int)(cl:Int)(t:(List UInt8))(d0:Int)(d1:Int)(d2:Int)(d3:Int)(d4:Int)(d5:Int)(d6:Int)(dc:Int)(u:(List UInt8))(b0:Bool)(b1:Bool)(ck:Bool)(b3:Bool)(b4:Bool)(b5:Bool)(b6:Bool)(pa:Bool)(fo:Bool)(b9:Bool)(b10:Bool)(mo:Int)(sg:Bool)(bb:Int)(hc : -9223372036854775808≤m∧m≤9223372036854775807∧(t.length:Int)≤140737488351232∧0≤bb∧bb<65536∧0≤d0∧d0<256∧0≤d1∧d1<256∧0≤d2∧d2<256∧0≤d3∧d3<256∧0≤d4∧d4<256∧0≤d5∧d5<256∧0≤d6∧d6<256∧0≤dc∧dc<4294967296∧(u.length:Int)≤140737488351232):B3X [.int .i64 k,.int .i64 c,.int .i64 m,.int .i64 w,.int .i64 b,.int .i64 r,.int .i64 cl,.str t,.int .u8 d0,.int .u8 d1,.int .u8 d2,.int .u8 d3,.int .u8 d4,.int .u8 d5,.int .u8 d6,.int .u32 dc,.str u,.bool b0,.bool b1,.bool ck,.bool b3,.bool b4,.bool b5,.bool b6,.bool pa,.bool fo,.bool b9,.bool b10,.int .i64 mo,.bool sg,.int .u16 bb]=some (0,[.bool (true)]):=if_pos hc
def B7Y:Tr:=.fn B2Y [h 8 4,h 9 4,h 10 4,h 11 4,h 12 4,h 13 4,h 14 4,h 15 6,h 16 9] 8<|.lt 3 (.len) [h 7 9]<|.lt 3 (.min) [h 39 3,jI 1100]<|.lt 9 (.sub) [h 7 9,jI 0,h 40 3]<|.fn A7K [h 30 5] 13<|.fn A1c [h 17 8,h 18 8,h 19 8,h 20 8,h 21 8,h 22 8,h 23 8,h 24 8,h 25 8,h 26 8,h 27 8,h 28 3,h 29 8,h 0 3,h 1 3,h 2 3,h 3 3,h 4 3,h 5 3,h 6 3,h 41 9] 2<|.fn A16 [h 17 8,h 18 8,h 19 8,h 20 8,h 21 8,h 22 8,h 23 8,h 24 8,h 25 8,h 26 8,h 27 8,h 28 3,h 29 8,h 0 3,h 1 3,h 2 3,h 3 3,h 4 3,h 5 3,h 6 3,h 41 9] 2<|.fn A1_ [h 17 8,h 18 8,h 19 8,h 20 8,h 21 8,h 22 8,h 23 8,h 24 8,h 25 8,h 26 8,h 27 8,h 28 3,h 29 8,h 0 3,h 1 3,h 2 3,h 3 3,h 4 3,h 5 3,h 6 3,h 41 9] 10<|.fn A17 [h 17 8,h 18 8,h 19 8,h 20 8,h 21 8,h 22 8,h 23 8,h 24 8,h 25 8,h 26 8,h 27 8,h 28 3,h 29 8,h 0 3,h 1 3,h 2 3,h 3 3,h 4 3,h 5 3,h 6 3,h 41 9] 10<|.lt 9 (.str) [h 55 11]<|.lt 9 (.str) [h 57 11]<|.lt 8 (.bin .neq) [h 79 9,h 80 9]<|.br 81 (.no) (.lt 8 (.bin .neq) [h 56 3,h 58 3]<|.br 82 (.no) (.lt 8 (.eqs) [h 59 3,h 69 3,h 60 3,h 70 3,h 61 3,h 71 3,h 62 3,h 72 3,h 63 3,h 73 3,h 64 3,h 74 3,h 65 3,h 75 3,h 66 9,h 76 9]<|.lt 8 (.un .not) [h 83 8]<|.br 84 (.no) (.lt 8 (.bin .neq) [h 67 8,h 77 8]<|.br 85 (.no) (.lt 8 (.bin .neq) [h 68 3,h 78 3]<|.br 86 (.no) (.fn A1c [h 42 8,h 43 8,h 44 8,h 45 8,h 46 8,h 47 8,h 48 8,h 49 8,h 50 8,h 51 8,h 52 8,h 53 3,h 54 8,h 0 3,h 1 3,h 2 3,h 3 3,h 4 3,h 5 3,h 6 3,h 41 9] 2<|.fn A16 [h 42 8,h 43 8,h 44 8,h 45 8,h 46 8,h 47 8,h 48 8,h 49 8,h 50 8,h 51 8,h 52 8,h 53 3,h 54 8,h 0 3,h 1 3,h 2 3,h 3 3,h 4 3,h 5 3,h 6 3,h 41 9] 2<|.fn A1_ [h 42 8,h 43 8,h 44 8,h 45 8,h 46 8,h 47 8,h 48 8,h 49 8,h 50 8,h 51 8,h 52 8,h 53 3,h 54 8,h 0 3,h 1 3,h 2 3,h 3 3,h 4 3,h 5 3,h 6 3,h 41 9] 10<|.fn A17 [h 42 8,h 43 8,h 44 8,h 45 8,h 46 8,h 47 8,h 48 8,h 49 8,h 50 8,h 51 8,h 52 8,h 53 3,h 54 8,h 0 3,h 1 3,h 2 3,h 3 3,h 4 3,h 5 3,h 6 3,h 41 9] 10<|.lt 9 (.str) [h 87 11]<|.lt 9 (.str) [h 89 11]<|.lt 8 (.bin .neq) [h 111 9,h 112 9]<|.br 113 (.no) (.lt 8 (.bin .neq) [h 88 3,h 90 3]<|.br 114 (.no) (.lt 8 (.eqs) [h 91 3,h 101 3,h 92 3,h 102 3,h 93 3,h 103 3,h 94 3,h 104 3,h 95 3,h 105 3,h 96 3,h 106 3,h 97 3,h 107 3,h 98 9,h 108 9]<|.lt 8 (.un .not) [h 115 8]<|.br 116 (.no) (.lt 8 (.bin .neq) [h 99 8,h 109 8]<|.br 117 (.no) (.lt 8 (.bin .neq) [h 100 3,h 110 3]<|.br 118 (.no) (.fn A1c [.bool false,.bool false,.bool false,.bool false,.bool false,.bool false,.bool false,.bool true,.bool true,.bool false,.bool false,jI 1003,.bool true,h 0 3,h 1 3,h 2 3,h 3 3,h 4 3,h 5 3,h 6 3,h 41 9] 2<|.fn A16 [.bool false,.bool false,.bool false,.bool false,.bool false,.bool false,.bool false,.bool true,.bool true,.bool false,.bool false,jI 1003,.bool true,h 0 3,h 1 3,h 2 3,h 3 3,h 4 3,h 5 3,h 6 3,h 41 9] 2<|.fn A1_ [.bool false,.bool false,.bool false,.bool false,.bool false,.bool false,.bool false,.bool true,.bool true,.bool false,.bool false,jI 1003,.bool true,h 0 3,h 1 3,h 2 3,h 3 3,h 4 3,h 5 3,h 6 3,h 41 9] 10<|.fn A17 [.bool false,.bool false,.bool false,.bool false,.bool false,.bool false,.bool false,.bool true,.bool true,.bool false,.bool false,jI 1003,.bool true,h 0 3,h 1 3,h 2 3,h 3 3,h 4 3,h 5 3,h 6 3,h 41 9] 10<|.lt 9 (.str) [h 119 11]<|.lt 9 (.str) [h 121 11]<|.lt 8 (.bin .neq) [h 143 9,h 144 9]<|.br 145 (.no) (.lt 8 (.bin .neq) [h 120 3,h 122 3]<|.br 146 (.no) (.lt 8 (.eqs) [h 123 3,h 133 3,h 124 3,h 134 3,h 125 3,h 135 3,h 126 3,h 136 3,h 127 3,h 137 3,h 128 3,h 138 3,h 129 3,h 139 3,h 130 9,h 140 9]<|.lt 8 (.un .not) [h 147 8]<|.br 148 (.no) (.lt 8 (.bin .neq) [h 131 8,h 141 8]<|.br 149 (.no) (.lt 8 (.bin .neq) [h 132 3,h 142 3]<|.br 150 (.no) (.fn A7K [h 30 5] 13<|.fn A1c [h 17 8,h 18 8,h 19 8,h 20 8,h 21 8,h 22 8,h 23 8,h 24 8,h 25 8,h 26 8,h 27 8,h 28 3,h 29 8,h 31 3,h 32 3,h 33 3,h 34 3,h 35 3,h 36 3,h 37 3,h 38 9] 2<|.fn A16 [h 17 8,h 18 8,h 19 8,h 20 8,h 21 8,h 22 8,h 23 8,h 24 8,h 25 8,h 26 8,h 27 8,h 28 3,h 29 8,h 31 3,h 32 3,h 33 3,h 34 3,h 35 3,h 36 3,h 37 3,h 38 9] 2<|.fn A1_ [h 17 8,h 18 8,h 19 8,h 20 8,h 21 8,h 22 8,h 23 8,h 24 8,h 25 8,h 26 8,h 27 8,h 28 3,h 29 8,h 31 3,h 32 3,h 33 3,h 34 3,h 35 3,h 36 3,h 37 3,h 38 9] 10<|.fn A17 [h 17 8,h 18 8,h 19 8,h 20 8,h 21 8,h 22 8,h 23 8,h 24 8,h 25 8,h 26 8,h 27 8,h 28 3,h 29 8,h 31 3,h 32 3,h 33 3,h 34 3,h 35 3,h 36 3,h 37 3,h 38 9] 10<|.lt 9 (.str) [h 164 11]<|.lt 9 (.str) [h 166 11]<|.lt 8 (.bin .neq) [h 188 9,h 189 9]<|.br 190 (.no) (.lt 8 (.bin .neq) [h 165 3,h 167 3]<|.br 191 (.no) (.lt 8 (.eqs) [h 168 3,h 178 3,h 169 3,h 179 3,h 170 3,h 180 3,h 171 3,h 181 3,h 172 3,h 182 3,h 173 3,h 183 3,h 174 3,h 184 3,h 175 9,h 185 9]<|.lt 8 (.un .not) [h 192 8]<|.br 193 (.no) (.lt 8 (.bin .neq) [h 176 8,h 186 8]<|.br 194 (.no) (.lt 8 (.bin .neq) [h 177 3,h 187 3]<|.br 195 (.no) (.fn A1c [h 151 8,h 152 8,h 153 8,h 154 8,h 155 8,h 156 8,h 157 8,h 158 8,h 159 8,h 160 8,h 161 8,h 162 3,h 163 8,h 31 3,h 32 3,h 33 3,h 34 3,h 35 3,h 36 3,h 37 3,h 38 9] 2<|.fn A16 [h 151 8,h 152 8,h 153 8,h 154 8,h 155 8,h 156 8,h 157 8,h 158 8,h 159 8,h 160 8,h 161 8,h 162 3,h 163 8,h 31 3,h 32 3,h 33 3,h 34 3,h 35 3,h 36 3,h 37 3,h 38 9] 2<|.fn A1_ [h 151 8,h 152 8,h 153 8,h 154 8,h 155 8,h 156 8,h 157 8,h 158 8,h 159 8,h 160 8,h 161 8,h 162 3,h 163 8,h 31 3,h 32 3,h 33 3,h 34 3,h 35 3,h 36 3,h 37 3,h 38 9] 10<|.fn A17 [h 151 8,h 152 8,h 153 8,h 154 8,h 155 8,h 156 8,h 157 8,h 158 8,h 159 8,h 160 8,h 161 8,h 162 3,h 163 8,h 31 3,h 32 3,h 33 3,h 34 3,h 35 3,h 36 3,h 37 3,h 38 9] 10<|.lt 9 (.str) [h 196 11]<|.lt 9 (.str) [h 198 11]<|.lt 8 (.bin .neq) [h 220 9,h 221 9]<|.br 222 (.no) (.lt 8 (.bin .neq) [h 197 3,h 199 3]<|.br 223 (.no) (.lt 8 (.eqs) [h 200 3,h 210 3,h 201 3,h 211 3,h 202 3,h 212 3,h 203 3,h 213 3,h 204 3,h 214 3,h 205 3,h 215 3,h 206 3,h 216 3,h 207 9,h 217 9]<|.lt 8 (.un .not) [h 224 8]<|.br 225 (.no) (.lt 8 (.bin .neq) [h 208 8,h 218 8]<|.br 226 (.no) (.lt 8 (.bin .neq) [h 209 3,h 219 3]<|.br 227 (.no) (.fn A1c [.bool false,.bool false,.bool false,.bool false,.bool false,.bool false,.bool false,.bool true,.bool true,.bool false,.bool false,jI 1003,.bool true,h 31 3,h 32 3,h 33 3,h 34 3,h 35 3,h 36 3,h 37 3,h 38 9] 2<|.fn A16 [.bool false,.bool false,.bool false,.bool false,.bool false,.bool false,.bool false,.bool true,.bool true,.bool false,.bool false,jI 1003,.bool true,h 31 3,h 32 3,h 33 3,h 34 3,h 35 3,h 36 3,h 37 3,h 38 9] 2<|.fn A1_ [.bool false,.bool false,.bool false,.bool false,.bool false,.bool false,.bool false,.bool true,.bool true,.bool false,.bool false,jI 1003,.bool true,h 31 3,h 32 3,h 33 3,h 34 3,h 35 3,h 36 3,h 37 3,h 38 9] 10<|.fn A17 [.bool false,.bool false,.bool false,.bool false,.bool false,.bool false,.bool false,.bool true,.bool true,.bool false,.bool false,jI 1003,.bool true,h 31 3,h 32 3,h 33 3,h 34 3,h 35 3,h 36 3,h 37 3,h 38 9] 10<|.lt 9 (.str) [h 228 11]<|.lt 9 (.str) [h 230 11]<|.lt 8 (.bin .neq) [h 252 9,h 253 9]<|.br 254 (.no) (.lt 8 (.bin .neq) [h 229 3,h 231 3]<|.br 255 (.no) (.lt 8 (.eqs) [h 232 3,h 242 3,h 233 3,h 243 3,h 234 3,h 244 3,h 235 3,h 245 3,h 236 3,h 246 3,h 237 3,h 247 3,h 238 3,h 248 3,h 239 9,h 249 9]<|.lt 8 (.un .not) [h 256 8]<|.br 257 (.no) (.lt 8 (.bin .neq) [h 240 8,h 250 8]<|.br 258 (.no) (.lt 8 (.bin .neq) [h 241 3,h 251 3]<|.br 259 (.no) (.fn A7K [h 30 5] 13<|.fn A1c [h 17 8,h 18 8,h 19 8,h 20 8,h 21 8,h 22 8,h 23 8,h 24 8,h 25 8,h 26 8,h 27 8,h 28 3,h 29 8,h 31 3,h 32 3,jI 0,h 34 3,h 35 3,h 36 3,h 37 3,h 38 9] 2<|.fn A16 [h 17 8,h 18 8,h 19 8,h 20 8,h 21 8,h 22 8,h 23 8,h 24 8,h 25 8,h 26 8,h 27 8,h 28 3,h 29 8,h 31 3,h 32 3,jI 0,h 34 3,h 35 3,h 36 3,h 37 3,h 38 9] 2<|.fn A1_ [h 17 8,h 18 8,h 19 8,h 20 8,h 21 8,h 22 8,h 23 8,h 24 8,h 25 8,h 26 8,h 27 8,h 28 3,h 29 8,h 31 3,h 32 3,jI 0,h 34 3,h 35 3,h 36 3,h 37 3,h 38 9] 10<|.fn A17 [h 17 8,h 18 8,h 19 8,h 20 8,h 21 8,h 22 8,h 23 8,h 24 8,h 25 8,h 26 8,h 27 8,h 28 3,h 29 8,h 31 3,h 32 3,jI 0,h 34 3,h 35 3,h 36 3,h 37 3,h 38 9] 10<|.lt 9 (.str) [h 273 11]<|.lt 9 (.str) [h 275 11]<|.lt 8 (.bin .neq) [h 297 9,h 298 9]<|.br 299 (.no) (.lt 8 (.bin .neq) [h 274 3,h 276 3]<|.br 300 (.no) (.lt 8 (.eqs) [h 277 3,h 287 3,h 278 3,h 288 3,h 279 3,h 289 3,h 280 3,h 290 3,h 281 3,h 291 3,h 282 3,h 292 3,h 283 3,h 293 3,h 284 9,h 294 9]<|.lt 8 (.un .not) [h 301 8]<|.br 302 (.no) (.lt 8 (.bin .neq) [h 285 8,h 295 8]<|.br 303 (.no) (.lt 8 (.bin .neq) [h 286 3,h 296 3]<|.br 304 (.no) (.fn A1c [h 260 8,h 261 8,h 262 8,h 263 8,h 264 8,h 265 8,h 266 8,h 267 8,h 268 8,h 269 8,h 270 8,h 271 3,h 272 8,h 31 3,h 32 3,jI 0,h 34 3,h 35 3,h 36 3,h 37 3,h 38 9] 2<|.fn A16 [h 260 8,h 261 8,h 262 8,h 263 8,h 264 8,h 265 8,h 266 8,h 267 8,h 268 8,h 269 8,h 270 8,h 271 3,h 272 8,h 31 3,h 32 3,jI 0,h 34 3,h 35 3,h 36 3,h 37 3,h 38 9] 2<|.fn A1_ [h 260 8,h 261 8,h 262 8,h 263 8,h 264 8,h 265 8,h 266 8,h 267 8,h 268 8,h 269 8,h 270 8,h 271 3,h 272 8,h 31 3,h 32 3,jI 0,h 34 3,h 35 3,h 36 3,h 37 3,h 38 9] 10<|.fn A17 [h 260 8,h 261 8,h 262 8,h 263 8,h 264 8,h 265 8,h 266 8,h 267 8,h 268 8,h 269 8,h 270 8,h 271 3,h 272 8,h 31 3,h 32 3,jI 0,h 34 3,h 35 3,h 36 3,h 37 3,h 38 9] 10<|.lt 9 (.str) [h 305 11]<|.lt 9 (.str) [h 307 11]<|.lt 8 (.bin .neq) [h 329 9,h 330 9]<|.br 331 (.no) (.lt 8 (.bin .neq) [h 306 3,h 308 3]<|.br 332 (.no) (.lt 8 (.eqs) [h 309 3,h 319 3,h 310 3,h 320 3,h 311 3,h 321 3,h 312 3,h 322 3,h 313 3,h 323 3,h 314 3,h 324 3,h 315 3,h 325 3,h 316 9,h 326 9]<|.lt 8 (.un .not) [h 333 8]<|.br 334 (.no) (.lt 8 (.bin .neq) [h 317 8,h 327 8]<|.br 335 (.no) (.lt 8 (.bin .neq) [h 318 3,h 328 3]<|.br 336 (.no) (.fn A1c [.bool false,.bool false,.bool false,.bool false,.bool false,.bool false,.bool false,.bool true,.bool true,.bool false,.bool false,jI 1003,.bool true,h 31 3,h 32 3,jI 0,h 34 3,h 35 3,h 36 3,h 37 3,h 38 9] 2<|.fn A16 [.bool false,.bool false,.bool false,.bool false,.bool false,.bool false,.bool false,.bool true,.bool true,.bool false,.bool false,jI 1003,.bool true,h 31 3,h 32 3,jI 0,h 34 3,h 35 3,h 36 3,h 37 3,h 38 9] 2<|.fn A1_ [.bool false,.bool false,.bool false,.bool false,.bool false,.bool false,.bool false,.bool true,.bool true,.bool false,.bool false,jI 1003,.bool true,h 31 3,h 32 3,jI 0,h 34 3,h 35 3,h 36 3,h 37 3,h 38 9] 10<|.fn A17 [.bool false,.bool false,.bool false,.bool false,.bool false,.bool false,.bool false,.bool true,.bool true,.bool false,.bool false,jI 1003,.bool true,h 31 3,h 32 3,jI 0,h 34 3,h 35 3,h 36 3,h 37 3,h 38 9] 10<|.lt 9 (.str) [h 337 11]<|.lt 9 (.str) [h 339 11]<|.lt 8 (.bin .neq) [h 361 9,h 362 9]<|.br 363 (.no) (.lt 8 (.bin .neq) [h 338 3,h 340 3]<|.br 364 (.no) (.lt 8 (.eqs) [h 341 3,h 351 3,h 342 3,h 352 3,h 343 3,h 353 3,h 344 3,h 354 3,h 345 3,h 355 3,h 346 3,h 356 3,h 347 3,h 357 3,h 348 9,h 358 9]<|.lt 8 (.un .not) [h 365 8]<|.br 366 (.no) (.lt 8 (.bin .neq) [h 349 8,h 359 8]<|.br 367 (.no) (.lt 8 (.bin .neq) [h 350 3,h 360 3]<|.br 368 (.no) (.fn B04 [] 1<|.ret [h 369 8])))))))))))))))))))))))))))))))))))))))))))))
theorem C2j{G:Nat→Option Obj}(hst:D2 Tryz.prog G gl H0 n0):N0 Tryz.prog G 7 [.a [3,3,3,3,3,3,3,9],.a [4,4,4,4,4,4,4,6,9],.a [8,8,8,8,8,8,8,8,8,8,8,3,8],.s 5] B3X [.s 8]:=by
 refine F4 (C:=cx B8p []) (d:=60) B7Y (cxg (B6A hst) .nil) hst ⟨Tryz.f7,_,Tryz.func7,rfl⟩ (by kernel_rfl) (by kernel_rfl) ?_;intro us outs hs;unfold B3X at hs;split at hs
 ·skip;rename_i k c m w b r cl t d0 d1 d2 d3 d4 d5 d6 dc u b0 b1 ck b3 b4 b5 b6 pa fo b9 b10 mo sg bb;split at hs
  ·rename_i hc;cases hs;have zm:=C3v (d0%4) d3 d4 dc (by omega) (by omega);have zt:=C3u (d0%4) u;unfold B7Y;refine s0L ?_;show Tr.sav _ _ (.cons 30 _ (.cons 29 _ (.cons 28 _ (.cons 27 _ (.cons 26 _ (.cons 25 _ (.cons 24 _ (.cons 23 _ (.cons 22 _ (.cons 21 _ (.cons 20 _ (.cons 19 _ (.cons 18 _ (.cons 17 _ (.cons 16 _ (.cons 15 _ (.cons 14 _ (.cons 13 _ (.cons 12 _ (.cons 11 _ (.cons 10 _ (.cons 9 _ (.cons 8 _ (.cons 7 _ (.cons 6 _ (.cons 5 _ (.cons 4 _ (.cons 3 _ (.cons 2 _ (.cons 1 _ (.cons 0 _ (.nil))))))))))))))))))))))))))))))));refine s3 (B94 _ _ _ _ _ _ _ _ _ ⟨by omega,by omega,by omega,by omega,by omega,by omega,by omega,by omega,by omega,by omega,by omega,by omega,by omega,by omega,by omega,by omega,by omega⟩) rfl ?_;show Tr.sav _ _ (.cons 38 _ (.cons 37 _ (.cons 36 _ (.cons 35 _ (.cons 34 _ (.cons 33 _ (.cons 32 _ (.cons 31 _ _))))))));refine s1 (A7q _) rfl rfl rfl ?_;refine s1 (C2q _ _ _ _) rfl rfl rfl ?_;refine s1 (i6 _ _ _ _ _ (by omega) (by omega) (by omega)) rfl rfl rfl ?_;refine s3 (A9_ _ (by omega)) rfl ?_;show Tr.sav _ _ (.cons 54 _ (.cons 53 _ (.cons 52 _ (.cons 51 _ (.cons 50 _ (.cons 49 _ (.cons 48 _ (.cons 47 _ (.cons 46 _ (.cons 45 _ (.cons 44 _ (.cons 43 _ (.cons 42 _ _)))))))))))));refine s32 (A0k _ _ _ _ _ _ _ _ _ _ _ _ _ _ _ _ _ _ _ _ _ ⟨by first|omega|exact(L8 _).1,by first|omega|exact(L8 _).2,by first|omega|(simp only[B2,C3,A3];omega)⟩) rfl rfl ?_;refine s32 (A0h _ _ _ _ _ _ _ _ _ _ _ _ _ _ _ _ _ _ _ _ _ ⟨by first|omega|exact(L8 _).1,by first|omega|exact(L8 _).2,by first|omega|(simp only[B2,C3,A3];omega)⟩) rfl rfl ?_;refine s3 (A0l _ _ _ _ _ _ _ _ _ _ _ _ _ _ _ _ _ _ _ _ _ ⟨by first|omega|exact(L8 _).1,by first|omega|exact(L8 _).2,by first|omega|(simp only[B2,C3,A3];omega)⟩) rfl ?_;show Tr.sav _ _ (.cons 68 _ (.cons 67 _ (.cons 66 _ (.cons 65 _ (.cons 64 _ (.cons 63 _ (.cons 62 _ (.cons 61 _ (.cons 60 _ (.cons 59 _ _))))))))));refine s3 (A0i _ _ _ _ _ _ _ _ _ _ _ _ _ _ _ _ _ _ _ _ _ ⟨by first|omega|exact(L8 _).1,by first|omega|exact(L8 _).2,by first|omega|(simp only[B2,C3,A3];omega)⟩) rfl ?_;show Tr.sav _ _ (.cons 78 _ (.cons 77 _ (.cons 76 _ (.cons 75 _ (.cons 74 _ (.cons 73 _ (.cons 72 _ (.cons 71 _ (.cons 70 _ (.cons 69 _ _))))))))));refine s1 (R3 rfl (by first|exact A2y|exact A2z)) rfl rfl rfl ?_;refine s1 (R3 rfl (by first|exact A2y|exact A2z)) rfl rfl rfl ?_;refine s1 (A2X _ _) rfl rfl rfl ?_;refine s4 rfl (fun g0=>?_) fun g0=>?_
   ·refine s8 ?_;first|exact absurd rfl g0|exact absurd H9 g0|(exfalso;simp at g0;done)
   refine s1 (H3 _ _ _) rfl rfl rfl ?_;refine s4 rfl (fun g1=>?_) fun g1=>?_
   ·refine s8 ?_;first|exact absurd rfl g1|exact absurd H9 g1|(exfalso;simp at g1;done)
   refine s1 rfl rfl rfl rfl ?_;first|refine s1 (D4 _) rfl rfl rfl ?_|refine s1 (I4 _) rfl rfl rfl ?_
   first|refine s4 rfl (fun g2=>?_) (fun g2=>?_)|refine s4B rfl (fun g2=>?_) (fun g2=>?_)
   ·refine s8 ?_;first|exact absurd rfl g2|exact absurd H9 g2|(exfalso;simp at g2;done)
   refine s1 (A2a _ _) rfl rfl rfl ?_;refine s4 rfl (fun g3=>?_) fun g3=>?_
   ·refine s8 ?_;first|exact absurd rfl g3|exact absurd H9 g3|(exfalso;simp at g3;done)
   refine s1 (H3 _ _ _) rfl rfl rfl ?_;refine s4 rfl (fun g4=>?_) fun g4=>?_
   ·refine s8 ?_;first|exact absurd rfl g4|exact absurd H9 g4|(exfalso;simp at g4;done)
   refine s32 (A0k _ _ _ _ _ _ _ _ _ _ _ _ _ _ _ _ _ _ _ _ _ ⟨by first|omega|exact(L8 _).1,by first|omega|exact(L8 _).2,by first|omega|(simp only[B2,C3,A3];omega)⟩) rfl rfl ?_;refine s32 (A0h _ _ _ _ _ _ _ _ _ _ _ _ _ _ _ _ _ _ _ _ _ ⟨by first|omega|exact(L8 _).1,by first|omega|exact(L8 _).2,by first|omega|(simp only[B2,C3,A3];omega)⟩) rfl rfl ?_;refine s3 (A0l _ _ _ _ _ _ _ _ _ _ _ _ _ _ _ _ _ _ _ _ _ ⟨by first|omega|exact(L8 _).1,by first|omega|exact(L8 _).2,by first|omega|(simp only[B2,C3,A3];omega)⟩) rfl ?_;show Tr.sav _ _ (.cons 100 _ (.cons 99 _ (.cons 98 _ (.cons 97 _ (.cons 96 _ (.cons 95 _ (.cons 94 _ (.cons 93 _ (.cons 92 _ (.cons 91 _ _))))))))));refine s3 (A0i _ _ _ _ _ _ _ _ _ _ _ _ _ _ _ _ _ _ _ _ _ ⟨by first|omega|exact(L8 _).1,by first|omega|exact(L8 _).2,by first|omega|(simp only[B2,C3,A3];omega)⟩) rfl ?_;show Tr.sav _ _ (.cons 110 _ (.cons 109 _ (.cons 108 _ (.cons 107 _ (.cons 106 _ (.cons 105 _ (.cons 104 _ (.cons 103 _ (.cons 102 _ (.cons 101 _ _))))))))));refine s1 (R3 rfl (by first|exact A2y|exact A2z)) rfl rfl rfl ?_;refine s1 (R3 rfl (by first|exact A2y|exact A2z)) rfl rfl rfl ?_;refine s1 (A2X _ _) rfl rfl rfl ?_;refine s4 rfl (fun g5=>?_) fun g5=>?_
   ·refine s8 ?_;first|exact absurd rfl g5|exact absurd H9 g5|(exfalso;simp at g5;done)
   refine s1 (H3 _ _ _) rfl rfl rfl ?_;refine s4 rfl (fun g6=>?_) fun g6=>?_
   ·refine s8 ?_;first|exact absurd rfl g6|exact absurd H9 g6|(exfalso;simp at g6;done)
   refine s1 rfl rfl rfl rfl ?_;first|refine s1 (D4 _) rfl rfl rfl ?_|refine s1 (I4 _) rfl rfl rfl ?_
   first|refine s4 rfl (fun g7=>?_) (fun g7=>?_)|refine s4B rfl (fun g7=>?_) (fun g7=>?_)
   ·refine s8 ?_;first|exact absurd rfl g7|exact absurd H9 g7|(exfalso;simp at g7;done)
   refine s1 (A2a _ _) rfl rfl rfl ?_;refine s4 rfl (fun g8=>?_) fun g8=>?_
   ·refine s8 ?_;first|exact absurd rfl g8|exact absurd H9 g8|(exfalso;simp at g8;done)
   refine s1 (H3 _ _ _) rfl rfl rfl ?_;refine s4 rfl (fun g9=>?_) fun g9=>?_
   ·refine s8 ?_;first|exact absurd rfl g9|exact absurd H9 g9|(exfalso;simp at g9;done)
   refine s32 (A0k _ _ _ _ _ _ _ _ _ _ _ _ _ _ _ _ _ _ _ _ _ ⟨by first|omega|exact(L8 _).1,by first|omega|exact(L8 _).2,by first|omega|(simp only[B2,C3,A3];omega)⟩) rfl rfl ?_;refine s32 (A0h _ _ _ _ _ _ _ _ _ _ _ _ _ _ _ _ _ _ _ _ _ ⟨by first|omega|exact(L8 _).1,by first|omega|exact(L8 _).2,by first|omega|(simp only[B2,C3,A3];omega)⟩) rfl rfl ?_;refine s3 (A0l _ _ _ _ _ _ _ _ _ _ _ _ _ _ _ _ _ _ _ _ _ ⟨by first|omega|exact(L8 _).1,by first|omega|exact(L8 _).2,by first|omega|(simp only[B2,C3,A3];omega)⟩) rfl ?_;show Tr.sav _ _ (.cons 132 _ (.cons 131 _ (.cons 130 _ (.cons 129 _ (.cons 128 _ (.cons 127 _ (.cons 126 _ (.cons 125 _ (.cons 124 _ (.cons 123 _ _))))))))));refine s3 (A0i _ _ _ _ _ _ _ _ _ _ _ _ _ _ _ _ _ _ _ _ _ ⟨by first|omega|exact(L8 _).1,by first|omega|exact(L8 _).2,by first|omega|(simp only[B2,C3,A3];omega)⟩) rfl ?_;show Tr.sav _ _ (.cons 142 _ (.cons 141 _ (.cons 140 _ (.cons 139 _ (.cons 138 _ (.cons 137 _ (.cons 136 _ (.cons 135 _ (.cons 134 _ (.cons 133 _ _))))))))));refine s1 (R3 rfl (by first|exact A2y|exact A2z)) rfl rfl rfl ?_;refine s1 (R3 rfl (by first|exact A2y|exact A2z)) rfl rfl rfl ?_;refine s1 (A2X _ _) rfl rfl rfl ?_;refine s4 rfl (fun g10=>?_) fun g10=>?_
   ·refine s8 ?_;first|exact absurd rfl g10|exact absurd H9 g10|(exfalso;simp at g10;done)
   refine s1 (H3 _ _ _) rfl rfl rfl ?_;refine s4 rfl (fun g11=>?_) fun g11=>?_
   ·refine s8 ?_;first|exact absurd rfl g11|exact absurd H9 g11|(exfalso;simp at g11;done)
   refine s1 rfl rfl rfl rfl ?_;first|refine s1 (D4 _) rfl rfl rfl ?_|refine s1 (I4 _) rfl rfl rfl ?_
   first|refine s4 rfl (fun g12=>?_) (fun g12=>?_)|refine s4B rfl (fun g12=>?_) (fun g12=>?_)
   ·refine s8 ?_;first|exact absurd rfl g12|exact absurd H9 g12|(exfalso;simp at g12;done)
   refine s1 (A2a _ _) rfl rfl rfl ?_;refine s4 rfl (fun g13=>?_) fun g13=>?_
   ·refine s8 ?_;first|exact absurd rfl g13|exact absurd H9 g13|(exfalso;simp at g13;done)
   refine s1 (H3 _ _ _) rfl rfl rfl ?_;refine s4 rfl (fun g14=>?_) fun g14=>?_
   ·refine s8 ?_;first|exact absurd rfl g14|exact absurd H9 g14|(exfalso;simp at g14;done)
   refine s3 (A9_ _ (by omega)) rfl ?_;show Tr.sav _ _ (.cons 163 _ (.cons 162 _ (.cons 161 _ (.cons 160 _ (.cons 159 _ (.cons 158 _ (.cons 157 _ (.cons 156 _ (.cons 155 _ (.cons 154 _ (.cons 153 _ (.cons 152 _ (.cons 151 _ _)))))))))))));refine s32 (A0k _ _ _ _ _ _ _ _ _ _ _ _ _ _ _ _ _ _ _ _ _ ⟨by first|omega|exact(L8 _).1,by first|omega|exact(L8 _).2,by first|omega|(simp only[B2,C3,A3];omega)⟩) rfl rfl ?_;refine s32 (A0h _ _ _ _ _ _ _ _ _ _ _ _ _ _ _ _ _ _ _ _ _ ⟨by first|omega|exact(L8 _).1,by first|omega|exact(L8 _).2,by first|omega|(simp only[B2,C3,A3];omega)⟩) rfl rfl ?_;refine s3 (A0l _ _ _ _ _ _ _ _ _ _ _ _ _ _ _ _ _ _ _ _ _ ⟨by first|omega|exact(L8 _).1,by first|omega|exact(L8 _).2,by first|omega|(simp only[B2,C3,A3];omega)⟩) rfl ?_;show Tr.sav _ _ (.cons 177 _ (.cons 176 _ (.cons 175 _ (.cons 174 _ (.cons 173 _ (.cons 172 _ (.cons 171 _ (.cons 170 _ (.cons 169 _ (.cons 168 _ _))))))))));refine s3 (A0i _ _ _ _ _ _ _ _ _ _ _ _ _ _ _ _ _ _ _ _ _ ⟨by first|omega|exact(L8 _).1,by first|omega|exact(L8 _).2,by first|omega|(simp only[B2,C3,A3];omega)⟩) rfl ?_;show Tr.sav _ _ (.cons 187 _ (.cons 186 _ (.cons 185 _ (.cons 184 _ (.cons 183 _ (.cons 182 _ (.cons 181 _ (.cons 180 _ (.cons 179 _ (.cons 178 _ _))))))))));refine s1 (R3 rfl (by first|exact A2y|exact A2z)) rfl rfl rfl ?_;refine s1 (R3 rfl (by first|exact A2y|exact A2z)) rfl rfl rfl ?_;refine s1 (A2X _ _) rfl rfl rfl ?_;refine s4 rfl (fun g15=>?_) fun g15=>?_
   ·refine s8 ?_;first|exact absurd rfl g15|exact absurd H9 g15|(exfalso;simp at g15;done)
   refine s1 (H3 _ _ _) rfl rfl rfl ?_;refine s4 rfl (fun g16=>?_) fun g16=>?_
   ·refine s8 ?_;first|exact absurd rfl g16|exact absurd H9 g16|(exfalso;simp at g16;done)
   refine s1 rfl rfl rfl rfl ?_;first|refine s1 (D4 _) rfl rfl rfl ?_|refine s1 (I4 _) rfl rfl rfl ?_
   first|refine s4 rfl (fun g17=>?_) (fun g17=>?_)|refine s4B rfl (fun g17=>?_) (fun g17=>?_)
   ·refine s8 ?_;first|exact absurd rfl g17|exact absurd H9 g17|(exfalso;simp at g17;done)
   refine s1 (A2a _ _) rfl rfl rfl ?_;refine s4 rfl (fun g18=>?_) fun g18=>?_
   ·refine s8 ?_;first|exact absurd rfl g18|exact absurd H9 g18|(exfalso;simp at g18;done)
   refine s1 (H3 _ _ _) rfl rfl rfl ?_;refine s4 rfl (fun g19=>?_) fun g19=>?_
   ·refine s8 ?_;first|exact absurd rfl g19|exact absurd H9 g19|(exfalso;simp at g19;done)
   refine s32 (A0k _ _ _ _ _ _ _ _ _ _ _ _ _ _ _ _ _ _ _ _ _ ⟨by first|omega|exact(L8 _).1,by first|omega|exact(L8 _).2,by first|omega|(simp only[B2,C3,A3];omega)⟩) rfl rfl ?_;refine s32 (A0h _ _ _ _ _ _ _ _ _ _ _ _ _ _ _ _ _ _ _ _ _ ⟨by first|omega|exact(L8 _).1,by first|omega|exact(L8 _).2,by first|omega|(simp only[B2,C3,A3];omega)⟩) rfl rfl ?_;refine s3 (A0l _ _ _ _ _ _ _ _ _ _ _ _ _ _ _ _ _ _ _ _ _ ⟨by first|omega|exact(L8 _).1,by first|omega|exact(L8 _).2,by first|omega|(simp only[B2,C3,A3];omega)⟩) rfl ?_;show Tr.sav _ _ (.cons 209 _ (.cons 208 _ (.cons 207 _ (.cons 206 _ (.cons 205 _ (.cons 204 _ (.cons 203 _ (.cons 202 _ (.cons 201 _ (.cons 200 _ _))))))))));refine s3 (A0i _ _ _ _ _ _ _ _ _ _ _ _ _ _ _ _ _ _ _ _ _ ⟨by first|omega|exact(L8 _).1,by first|omega|exact(L8 _).2,by first|omega|(simp only[B2,C3,A3];omega)⟩) rfl ?_;show Tr.sav _ _ (.cons 219 _ (.cons 218 _ (.cons 217 _ (.cons 216 _ (.cons 215 _ (.cons 214 _ (.cons 213 _ (.cons 212 _ (.cons 211 _ (.cons 210 _ _))))))))));refine s1 (R3 rfl (by first|exact A2y|exact A2z)) rfl rfl rfl ?_;refine s1 (R3 rfl (by first|exact A2y|exact A2z)) rfl rfl rfl ?_;refine s1 (A2X _ _) rfl rfl rfl ?_;refine s4 rfl (fun g20=>?_) fun g20=>?_
   ·refine s8 ?_;first|exact absurd rfl g20|exact absurd H9 g20|(exfalso;simp at g20;done)
   refine s1 (H3 _ _ _) rfl rfl rfl ?_;refine s4 rfl (fun g21=>?_) fun g21=>?_
   ·refine s8 ?_;first|exact absurd rfl g21|exact absurd H9 g21|(exfalso;simp at g21;done)
   refine s1 rfl rfl rfl rfl ?_;first|refine s1 (D4 _) rfl rfl rfl ?_|refine s1 (I4 _) rfl rfl rfl ?_
   first|refine s4 rfl (fun g22=>?_) (fun g22=>?_)|refine s4B rfl (fun g22=>?_) (fun g22=>?_)
   ·refine s8 ?_;first|exact absurd rfl g22|exact absurd H9 g22|(exfalso;simp at g22;done)
   refine s1 (A2a _ _) rfl rfl rfl ?_;refine s4 rfl (fun g23=>?_) fun g23=>?_
   ·refine s8 ?_;first|exact absurd rfl g23|exact absurd H9 g23|(exfalso;simp at g23;done)
   refine s1 (H3 _ _ _) rfl rfl rfl ?_;refine s4 rfl (fun g24=>?_) fun g24=>?_
   ·refine s8 ?_;first|exact absurd rfl g24|exact absurd H9 g24|(exfalso;simp at g24;done)
   refine s32 (A0k _ _ _ _ _ _ _ _ _ _ _ _ _ _ _ _ _ _ _ _ _ ⟨by first|omega|exact(L8 _).1,by first|omega|exact(L8 _).2,by first|omega|(simp only[B2,C3,A3];omega)⟩) rfl rfl ?_;refine s32 (A0h _ _ _ _ _ _ _ _ _ _ _ _ _ _ _ _ _ _ _ _ _ ⟨by first|omega|exact(L8 _).1,by first|omega|exact(L8 _).2,by first|omega|(simp only[B2,C3,A3];omega)⟩) rfl rfl ?_;refine s3 (A0l _ _ _ _ _ _ _ _ _ _ _ _ _ _ _ _ _ _ _ _ _ ⟨by first|omega|exact(L8 _).1,by first|omega|exact(L8 _).2,by first|omega|(simp only[B2,C3,A3];omega)⟩) rfl ?_;show Tr.sav _ _ (.cons 241 _ (.cons 240 _ (.cons 239 _ (.cons 238 _ (.cons 237 _ (.cons 236 _ (.cons 235 _ (.cons 234 _ (.cons 233 _ (.cons 232 _ _))))))))));refine s3 (A0i _ _ _ _ _ _ _ _ _ _ _ _ _ _ _ _ _ _ _ _ _ ⟨by first|omega|exact(L8 _).1,by first|omega|exact(L8 _).2,by first|omega|(simp only[B2,C3,A3];omega)⟩) rfl ?_;show Tr.sav _ _ (.cons 251 _ (.cons 250 _ (.cons 249 _ (.cons 248 _ (.cons 247 _ (.cons 246 _ (.cons 245 _ (.cons 244 _ (.cons 243 _ (.cons 242 _ _))))))))));refine s1 (R3 rfl (by first|exact A2y|exact A2z)) rfl rfl rfl ?_;refine s1 (R3 rfl (by first|exact A2y|exact A2z)) rfl rfl rfl ?_;refine s1 (A2X _ _) rfl rfl rfl ?_;refine s4 rfl (fun g25=>?_) fun g25=>?_
   ·refine s8 ?_;first|exact absurd rfl g25|exact absurd H9 g25|(exfalso;simp at g25;done)
   refine s1 (H3 _ _ _) rfl rfl rfl ?_;refine s4 rfl (fun g26=>?_) fun g26=>?_
   ·refine s8 ?_;first|exact absurd rfl g26|exact absurd H9 g26|(exfalso;simp at g26;done)
   refine s1 rfl rfl rfl rfl ?_;first|refine s1 (D4 _) rfl rfl rfl ?_|refine s1 (I4 _) rfl rfl rfl ?_
   first|refine s4 rfl (fun g27=>?_) (fun g27=>?_)|refine s4B rfl (fun g27=>?_) (fun g27=>?_)
   ·refine s8 ?_;first|exact absurd rfl g27|exact absurd H9 g27|(exfalso;simp at g27;done)
   refine s1 (A2a _ _) rfl rfl rfl ?_;refine s4 rfl (fun g28=>?_) fun g28=>?_
   ·refine s8 ?_;first|exact absurd rfl g28|exact absurd H9 g28|(exfalso;simp at g28;done)
   refine s1 (H3 _ _ _) rfl rfl rfl ?_;refine s4 rfl (fun g29=>?_) fun g29=>?_
   ·refine s8 ?_;first|exact absurd rfl g29|exact absurd H9 g29|(exfalso;simp at g29;done)
   refine s3 (A9_ _ (by omega)) rfl ?_;show Tr.sav _ _ (.cons 272 _ (.cons 271 _ (.cons 270 _ (.cons 269 _ (.cons 268 _ (.cons 267 _ (.cons 266 _ (.cons 265 _ (.cons 264 _ (.cons 263 _ (.cons 262 _ (.cons 261 _ (.cons 260 _ _)))))))))))));refine s32 (A0k _ _ _ _ _ _ _ _ _ _ _ _ _ _ _ _ _ _ _ _ _ ⟨by first|omega|exact(L8 _).1,by first|omega|exact(L8 _).2,by first|omega|(simp only[B2,C3,A3];omega)⟩) rfl rfl ?_;refine s32 (A0h _ _ _ _ _ _ _ _ _ _ _ _ _ _ _ _ _ _ _ _ _ ⟨by first|omega|exact(L8 _).1,by first|omega|exact(L8 _).2,by first|omega|(simp only[B2,C3,A3];omega)⟩) rfl rfl ?_;refine s3 (A0l _ _ _ _ _ _ _ _ _ _ _ _ _ _ _ _ _ _ _ _ _ ⟨by first|omega|exact(L8 _).1,by first|omega|exact(L8 _).2,by first|omega|(simp only[B2,C3,A3];omega)⟩) rfl ?_;show Tr.sav _ _ (.cons 286 _ (.cons 285 _ (.cons 284 _ (.cons 283 _ (.cons 282 _ (.cons 281 _ (.cons 280 _ (.cons 279 _ (.cons 278 _ (.cons 277 _ _))))))))));refine s3 (A0i _ _ _ _ _ _ _ _ _ _ _ _ _ _ _ _ _ _ _ _ _ ⟨by first|omega|exact(L8 _).1,by first|omega|exact(L8 _).2,by first|omega|(simp only[B2,C3,A3];omega)⟩) rfl ?_;show Tr.sav _ _ (.cons 296 _ (.cons 295 _ (.cons 294 _ (.cons 293 _ (.cons 292 _ (.cons 291 _ (.cons 290 _ (.cons 289 _ (.cons 288 _ (.cons 287 _ _))))))))));refine s1 (R3 rfl (by first|exact A2y|exact A2z)) rfl rfl rfl ?_;refine s1 (R3 rfl (by first|exact A2y|exact A2z)) rfl rfl rfl ?_;refine s1 (A2X _ _) rfl rfl rfl ?_;refine s4 rfl (fun g30=>?_) fun g30=>?_
   ·refine s8 ?_;first|exact absurd rfl g30|exact absurd H9 g30|(exfalso;simp at g30;done)
   refine s1 (H3 _ _ _) rfl rfl rfl ?_;refine s4 rfl (fun g31=>?_) fun g31=>?_
   ·refine s8 ?_;first|exact absurd rfl g31|exact absurd H9 g31|(exfalso;simp at g31;done)
   refine s1 rfl rfl rfl rfl ?_;first|refine s1 (D4 _) rfl rfl rfl ?_|refine s1 (I4 _) rfl rfl rfl ?_
   first|refine s4 rfl (fun g32=>?_) (fun g32=>?_)|refine s4B rfl (fun g32=>?_) (fun g32=>?_)
   ·refine s8 ?_;first|exact absurd rfl g32|exact absurd H9 g32|(exfalso;simp at g32;done)
   refine s1 (A2a _ _) rfl rfl rfl ?_;refine s4 rfl (fun g33=>?_) fun g33=>?_
   ·refine s8 ?_;first|exact absurd rfl g33|exact absurd H9 g33|(exfalso;simp at g33;done)
   refine s1 (H3 _ _ _) rfl rfl rfl ?_;refine s4 rfl (fun g34=>?_) fun g34=>?_
   ·refine s8 ?_;first|exact absurd rfl g34|exact absurd H9 g34|(exfalso;simp at g34;done)
   refine s32 (A0k _ _ _ _ _ _ _ _ _ _ _ _ _ _ _ _ _ _ _ _ _ ⟨by first|omega|exact(L8 _).1,by first|omega|exact(L8 _).2,by first|omega|(simp only[B2,C3,A3];omega)⟩) rfl rfl ?_;refine s32 (A0h _ _ _ _ _ _ _ _ _ _ _ _ _ _ _ _ _ _ _ _ _ ⟨by first|omega|exact(L8 _).1,by first|omega|exact(L8 _).2,by first|omega|(simp only[B2,C3,A3];omega)⟩) rfl rfl ?_;refine s3 (A0l _ _ _ _ _ _ _ _ _ _ _ _ _ _ _ _ _ _ _ _ _ ⟨by first|omega|exact(L8 _).1,by first|omega|exact(L8 _).2,by first|omega|(simp only[B2,C3,A3];omega)⟩) rfl ?_;show Tr.sav _ _ (.cons 318 _ (.cons 317 _ (.cons 316 _ (.cons 315 _ (.cons 314 _ (.cons 313 _ (.cons 312 _ (.cons 311 _ (.cons 310 _ (.cons 309 _ _))))))))));refine s3 (A0i _ _ _ _ _ _ _ _ _ _ _ _ _ _ _ _ _ _ _ _ _ ⟨by first|omega|exact(L8 _).1,by first|omega|exact(L8 _).2,by first|omega|(simp only[B2,C3,A3];omega)⟩) rfl ?_;show Tr.sav _ _ (.cons 328 _ (.cons 327 _ (.cons 326 _ (.cons 325 _ (.cons 324 _ (.cons 323 _ (.cons 322 _ (.cons 321 _ (.cons 320 _ (.cons 319 _ _))))))))));refine s1 (R3 rfl (by first|exact A2y|exact A2z)) rfl rfl rfl ?_;refine s1 (R3 rfl (by first|exact A2y|exact A2z)) rfl rfl rfl ?_;refine s1 (A2X _ _) rfl rfl rfl ?_;refine s4 rfl (fun g35=>?_) fun g35=>?_
   ·refine s8 ?_;first|exact absurd rfl g35|exact absurd H9 g35|(exfalso;simp at g35;done)
   refine s1 (H3 _ _ _) rfl rfl rfl ?_;refine s4 rfl (fun g36=>?_) fun g36=>?_
   ·refine s8 ?_;first|exact absurd rfl g36|exact absurd H9 g36|(exfalso;simp at g36;done)
   refine s1 rfl rfl rfl rfl ?_;first|refine s1 (D4 _) rfl rfl rfl ?_|refine s1 (I4 _) rfl rfl rfl ?_
   first|refine s4 rfl (fun g37=>?_) (fun g37=>?_)|refine s4B rfl (fun g37=>?_) (fun g37=>?_)
   ·refine s8 ?_;first|exact absurd rfl g37|exact absurd H9 g37|(exfalso;simp at g37;done)
   refine s1 (A2a _ _) rfl rfl rfl ?_;refine s4 rfl (fun g38=>?_) fun g38=>?_
   ·refine s8 ?_;first|exact absurd rfl g38|exact absurd H9 g38|(exfalso;simp at g38;done)
   refine s1 (H3 _ _ _) rfl rfl rfl ?_;refine s4 rfl (fun g39=>?_) fun g39=>?_
   ·refine s8 ?_;first|exact absurd rfl g39|exact absurd H9 g39|(exfalso;simp at g39;done)
   refine s32 (A0k _ _ _ _ _ _ _ _ _ _ _ _ _ _ _ _ _ _ _ _ _ ⟨by first|omega|exact(L8 _).1,by first|omega|exact(L8 _).2,by first|omega|(simp only[B2,C3,A3];omega)⟩) rfl rfl ?_;refine s32 (A0h _ _ _ _ _ _ _ _ _ _ _ _ _ _ _ _ _ _ _ _ _ ⟨by first|omega|exact(L8 _).1,by first|omega|exact(L8 _).2,by first|omega|(simp only[B2,C3,A3];omega)⟩) rfl rfl ?_;refine s3 (A0l _ _ _ _ _ _ _ _ _ _ _ _ _ _ _ _ _ _ _ _ _ ⟨by first|omega|exact(L8 _).1,by first|omega|exact(L8 _).2,by first|omega|(simp only[B2,C3,A3];omega)⟩) rfl ?_;show Tr.sav _ _ (.cons 350 _ (.cons 349 _ (.cons 348 _ (.cons 347 _ (.cons 346 _ (.cons 345 _ (.cons 344 _ (.cons 343 _ (.cons 342 _ (.cons 341 _ _))))))))));refine s3 (A0i _ _ _ _ _ _ _ _ _ _ _ _ _ _ _ _ _ _ _ _ _ ⟨by first|omega|exact(L8 _).1,by first|omega|exact(L8 _).2,by first|omega|(simp only[B2,C3,A3];omega)⟩) rfl ?_;show Tr.sav _ _ (.cons 360 _ (.cons 359 _ (.cons 358 _ (.cons 357 _ (.cons 356 _ (.cons 355 _ (.cons 354 _ (.cons 353 _ (.cons 352 _ (.cons 351 _ _))))))))));refine s1 (R3 rfl (by first|exact A2y|exact A2z)) rfl rfl rfl ?_;refine s1 (R3 rfl (by first|exact A2y|exact A2z)) rfl rfl rfl ?_;refine s1 (A2X _ _) rfl rfl rfl ?_;refine s4 rfl (fun g40=>?_) fun g40=>?_
   ·refine s8 ?_;first|exact absurd rfl g40|exact absurd H9 g40|(exfalso;simp at g40;done)
   refine s1 (H3 _ _ _) rfl rfl rfl ?_;refine s4 rfl (fun g41=>?_) fun g41=>?_
   ·refine s8 ?_;first|exact absurd rfl g41|exact absurd H9 g41|(exfalso;simp at g41;done)
   refine s1 rfl rfl rfl rfl ?_;first|refine s1 (D4 _) rfl rfl rfl ?_|refine s1 (I4 _) rfl rfl rfl ?_
   first|refine s4 rfl (fun g42=>?_) (fun g42=>?_)|refine s4B rfl (fun g42=>?_) (fun g42=>?_)
   ·refine s8 ?_;first|exact absurd rfl g42|exact absurd H9 g42|(exfalso;simp at g42;done)
   refine s1 (A2a _ _) rfl rfl rfl ?_;refine s4 rfl (fun g43=>?_) fun g43=>?_
   ·refine s8 ?_;first|exact absurd rfl g43|exact absurd H9 g43|(exfalso;simp at g43;done)
   refine s1 (H3 _ _ _) rfl rfl rfl ?_;refine s4 rfl (fun g44=>?_) fun g44=>?_
   ·refine s8 ?_;first|exact absurd rfl g44|exact absurd H9 g44|(exfalso;simp at g44;done)
   refine s31 B9C rfl ?_;refine s7 [.bool _] rfl ?_;rfl
  ·cases hs
 ·cases hs
end Go.Proofs.YtdimocjaepnifaaGreatDoor
