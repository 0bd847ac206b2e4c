/- The law PickFinds: for every input the call returns true, and the arguments read behind it as they read before. No condition. -/
import Derived.Test.YtdkdbjgkedahfaaDoorX13
namespace Go.Proofs.YtdkdbjgkedahfaaDoor
set_option linter.all false
open Go Go.Sx
set_option maxRecDepth 100000
set_option linter.unusedVariables false
set_option linter.unusedSimpArgs false
noncomputable def B0S:List LpE:=[(33,([true,false],orL (J9 Tryd.prog gl n0 12 B8n W5) (J9 Tryd.prog gl n0 14 B3C S7))),(33,([true,false],J9 Tryd.prog gl n0 14 B3C S7))]
theorem A8V{G:Nat→Option Obj}(hst:B9 Tryd.prog G gl H0 n0):V1 Tryd.prog G gl B0S:=(.cons Tryd.func33 B8m B8j (fun E base=>@M0.or ⟨E,G⟩ _ _ _ _ _ _ _ (C4X hst E base) ((B57 hst) E base)) (.cons Tryd.func33 B8r B8p (B57 hst) .nil))
def ctK(rows:Option (List Row))(cols k:Int):List UInt8:=A31 ((el ((el rows).getD (k / cols).toNat default).1).getD (k%cols).toNat default)
def mtN(f:Int→List UInt8)(hi:Int):Nat→Int→List UInt8→Nat
 | 0,_,_=>0
 | n+1,k,t=>if hi≤k then 0 else if t.length≤(f k).length then(if(f k).take t.length=t then 1 else 2)else if t.take (f k).length=f k then mtN f hi n (k+1) (t.drop (f k).length)else 2
def mtS(f:Int→List UInt8)(hi k:Int)(t:List UInt8):Nat:=mtN f hi (hi-k).toNat k t
section
variable {f:Int→List UInt8} {hi k:Int} {t:List UInt8}
theorem C0f(h:hi≤k):mtS f hi k t=0:=by
 unfold mtS;rw[show(hi-k).toNat=0 by omega];rfl
theorem B6e(h:k<hi):mtS f hi k t=if t.length≤(f k).length then(if(f k).take t.length=t then 1 else 2)else if t.take (f k).length=f k then mtS f hi (k+1) (t.drop (f k).length)else 2:=by
 unfold mtS;rw[show(hi-k).toNat=(hi-(k+1)).toNat+1 by omega,mtN,if_neg (by omega)]
theorem C9s(h:k<hi)(h1:(t.length:Int)≤(f k).length)(h2:(f k).take t.length=t):mtS f hi k t=1:=by rw[B6e h,if_pos (by omega),if_pos h2]
theorem B34(h:k<hi)(h1:(t.length:Int)≤(f k).length)(h2:¬(f k).take t.length=t):mtS f hi k t=2:=by rw[B6e h,if_pos (by omega),if_neg h2]
theorem B33(h:k<hi)(h1:¬(t.length:Int)≤(f k).length)(h2:¬t.take (f k).length=f k):mtS f hi k t=2:=by rw[B6e h,if_neg (by omega),if_neg h2]
theorem C6U(h:k<hi)(h1:¬(t.length:Int)≤(f k).length)(h2:t.take (f k).length=f k):mtS f hi k t=mtS f hi (k+1) (t.drop (f k).length):=by rw[B6e h,if_neg (by omega),if_pos h2]
end
theorem C1E{s:List UInt8}{k:IntKind}{n:Int}(hn:n=((el (some (bI s))).length:Int))(hb:s.length≤1000000000):evU .ustr [B3 rB (some (bI s)),.int k n]=.str s:=by
 refine(C1D (r:=rB) (x:=some (bI s)) rfl hn (by rw[B2,H4];exact hb) (fun n h=>C9C h)).trans ?_;rw[B2,C98]
theorem B6E{x:Option (List Cel)}{c:Int}(h0:0≤c)(h1:c<((el x).length:Int)):el (H9 x c.toNat (c+1).toNat)=[(el x).getD c.toNat default]:=by
 rw[A3y,show(c+1).toNat-c.toNat=1 by omega,P6 (el x) h0 h1];rfl
theorem C6S{x:Option (List Cel)}{c:Int}(h0:0≤c)(h1:c<((el x).length:Int)):E6 ((el (H9 x c.toNat (c+1).toNat)).drop (0:Int).toNat)=A31 ((el x).getD c.toNat default):=by
 rw[O5,B6E h0 h1];simp[E6]
theorem C9j{x:Option (List Cel)}{c:Int}(h0:0≤c)(h1:c<((el x).length:Int)):((el (H9 x c.toNat (c+1).toNat)).length:Int)=1:=by rw[B6E h0 h1];rfl
theorem C9i{x:Option (List Cel)}{c:Int}(h0:0≤c)(h1:c<((el x).length:Int))(h:noT ((el (H9 x c.toNat (c+1).toNat)).drop (0:Int).toNat)=none):A31 ((el x).getD c.toNat default)=[]:=by
 rw[← C6S h0 h1];exact A6y h
noncomputable def C71:List (FuncId×FnC):=(61,M5 Tryd.prog [.s 12] A2S [.s 3])::(45,M5 Tryd.prog [.s 12,.s 3] A8J [.s 3,.s 3])::(64,M5 Tryd.prog [.s 3] A0m [.s 9])::L0
theorem C2i{G:Nat→Option Obj}(hst:B9 Tryd.prog G gl H0 n0):H6 Tryd.prog G gl C71:=(.cons (A5g hst) (.cons (C0s hst) (.cons (A6u hst) .nil)))
def A7D:List U→Option (Nat×List U)
 | [.int .i64 k,.int .i64 first,.int .i64 last,.int .i64 cols,u_rows,.int .i64 pr,.int .i64 pc,.str t]=>(L6 rRw u_rows).bind fun rows=>if Y4 rows=0∧cols=O7 rows∧0≤first∧first≤last∧last<((el rows).length:Int)∧first*cols≤k∧k≤(last+1)*cols∧1≤t.length∧t.length≤200 then C3I (mtS (ctK rows cols) ((last+1)*cols) k t) [B3 rRw rows] [B3 rRw rows,.int .i64 pr,.int .i64 pc] [B3 rRw rows]else none
 | _=>none
theorem P9(k:Int)(first:Int)(last:Int)(cols:Int)(rows:(Option (List ((Option (List (Int×Int×Int×Int×Int×Int×Int×Int×Int×Int×Int×Int)))×Bool))))(pr:Int)(pc:Int)(t:(List UInt8))(hc:Y4 rows=0∧cols=O7 rows∧0≤first∧first≤last∧last<((el rows).length:Int)∧first*cols≤k∧k≤(last+1)*cols∧1≤t.length∧t.length≤200):A7D [.int .i64 k,.int .i64 first,.int .i64 last,.int .i64 cols,B3 rRw rows,.int .i64 pr,.int .i64 pc,.str t]=C3I (mtS (ctK rows cols) ((last+1)*cols) k t) [B3 rRw rows] [B3 rRw rows,.int .i64 pr,.int .i64 pc] [B3 rRw rows]:=by
 simp only[A7D,E5,D3];exact if_pos hc
def C1A:P8:=⟨[(0,yv 32),(2,.pointer (some ⟨31,0,none⟩)),(3,.pointer (some ⟨29,0,none⟩)),(4,.pointer (some ⟨30,0,none⟩)),(5,.pointer (some ⟨28,0,none⟩)),(7,h 0 3)],[(28,.cells 3 [.int .i64 (1)]),(29,.cells 3 [h 1 3]),(30,.cells 3 [h 2 3]),(31,.cells 3 [h 3 3]),(32,.lp 20 [true,false,true,true,true,true,false,true,false,true,false,true,true,true,true,true,false] [junk,junk,junk,.pointer (some ⟨4,0,none⟩),junk,junk,.pointer (some ⟨7,0,none⟩),.pointer (some ⟨8,0,none⟩),.pointer (some ⟨9,0,none⟩),junk,junk,.pointer (some ⟨24,0,none⟩),junk,junk,junk,.pointer (some ⟨26,0,none⟩),junk,junk,junk,junk,junk,junk,junk,junk,junk,junk,junk,junk,junk,junk,junk,junk,junk,junk,junk,junk,junk,junk,junk,junk,junk,junk,junk,junk,junk,junk,junk,junk,junk,junk,junk,junk,junk,junk,junk,junk,junk,junk,junk,junk,junk,junk,junk,junk,junk,junk,junk,junk,junk,junk,junk,junk,junk,junk,junk,junk,junk,junk,junk,junk,junk,junk,junk,junk,junk,junk,junk,junk,junk,junk,junk,junk,junk,junk,junk,junk,junk,junk,junk,junk,junk,junk,junk,junk,junk,junk] 0),(4,.cells 31 [dat 33 4 12]),(7,.cells 29 [.int .i64 (0),.int .i64 (0)]),(8,.cells 4 [.bool false]),(9,.cells 36 [.int .i64 (0)]),(24,.cells 29 [h 5 3,h 6 3]),(26,.cells 9 [h 7 9]),(33,.frz)],8,[⟨.exit 0,[(0,yv 32)],[(32,.lp 20 [true,false,true,true,true,true,false,true,false,true,false,true,true,true,true,true,false] [junk,junk,junk,.pointer (some ⟨4,0,none⟩),junk,junk,.pointer (some ⟨7,0,none⟩),.pointer (some ⟨8,0,none⟩),.pointer (some ⟨9,0,none⟩),junk,junk,.pointer (some ⟨24,0,none⟩),junk,junk,junk,.pointer (some ⟨26,0,none⟩),junk,junk,junk,junk,junk,junk,junk,junk,junk,junk,junk,junk,junk,junk,junk,junk,junk,junk,junk,junk,junk,junk,junk,junk,junk,junk,junk,junk,junk,junk,junk,junk,junk,junk,junk,junk,junk,junk,junk,junk,junk,junk,junk,junk,junk,junk,junk,junk,junk,junk,junk,junk,junk,junk,junk,junk,junk,junk,junk,junk,junk,junk,junk,junk,junk,junk,junk,junk,junk,junk,junk,junk,junk,junk,junk,junk,junk,junk,junk,junk,junk,junk,junk,junk,junk,junk,junk,junk,junk,junk] 0),(4,.cells 31 [dat 34 0 12]),(7,.cells 29 [.int .i64 (0),.int .i64 (0)]),(8,.cells 4 [.bool false]),(9,.cells 36 [.int .i64 (0)]),(24,.cells 29 [junk,junk]),(26,.cells 9 [junk]),(34,.frz)],1⟩,⟨.ret,[(0,yv 32)],[(32,.lp 20 [true,false,true,true,true,true,false,true,false,true,false,true,true,true,true,true,false] [junk,junk,junk,.pointer (some ⟨4,0,none⟩),junk,junk,.pointer (some ⟨7,0,none⟩),.pointer (some ⟨8,0,none⟩),.pointer (some ⟨9,0,none⟩),junk,junk,.pointer (some ⟨24,0,none⟩),junk,junk,junk,.pointer (some ⟨26,0,none⟩),junk,junk,junk,junk,junk,junk,junk,junk,junk,junk,junk,junk,junk,junk,junk,junk,junk,junk,junk,junk,junk,junk,junk,junk,junk,junk,junk,junk,junk,junk,junk,junk,junk,junk,junk,junk,junk,junk,junk,junk,junk,junk,junk,junk,junk,junk,junk,junk,junk,junk,junk,junk,junk,junk,junk,junk,junk,junk,junk,junk,junk,junk,junk,junk,junk,junk,junk,junk,junk,junk,junk,junk,junk,junk,junk,junk,junk,junk,junk,junk,junk,junk,junk,junk,junk,junk,junk,junk,junk,junk] 2),(4,.cells 31 [dat 35 0 12]),(7,.cells 29 [h 1 3,h 2 3]),(8,.cells 4 [.bool true]),(9,.cells 36 [.int .i64 (0)]),(24,.cells 29 [junk,junk]),(26,.cells 9 [junk]),(35,.frz)],3⟩,⟨.ret,[(0,yv 32)],[(32,.lp 20 [true,false,true,true,true,true,false,true,false,true,false,true,true,true,true,true,false] [junk,junk,junk,.pointer (some ⟨4,0,none⟩),junk,junk,.pointer (some ⟨7,0,none⟩),.pointer (some ⟨8,0,none⟩),.pointer (some ⟨9,0,none⟩),junk,junk,.pointer (some ⟨24,0,none⟩),junk,junk,junk,.pointer (some ⟨26,0,none⟩),junk,junk,junk,junk,junk,junk,junk,junk,junk,junk,junk,junk,junk,junk,junk,junk,junk,junk,junk,junk,junk,junk,junk,junk,junk,junk,junk,junk,junk,junk,junk,junk,junk,junk,junk,junk,junk,junk,junk,junk,junk,junk,junk,junk,junk,junk,junk,junk,junk,junk,junk,junk,junk,junk,junk,junk,junk,junk,junk,junk,junk,junk,junk,junk,junk,junk,junk,junk,junk,junk,junk,junk,junk,junk,junk,junk,junk,junk,junk,junk,junk,junk,junk,junk,junk,junk,junk,junk,junk,junk] 5),(4,.cells 31 [dat 36 0 12]),(7,.cells 29 [.int .i64 (0),.int .i64 (0)]),(8,.cells 4 [.bool false]),(9,.cells 36 [.int .i64 (0)]),(24,.cells 29 [junk,junk]),(26,.cells 9 [junk]),(36,.frz)],1⟩]⟩
noncomputable def C1B:Code:=(Tryd.f69.body).getD .skip
noncomputable def C6s:Code:=match F2 [true,false] C1B with|some (.loop x)=>x|_=>.skip
theorem C6w:Tryd.f69.body=some C1B:=rfl
theorem C6u:F2 [true,false] C1B=some (.loop C6s):=by kernel_rfl
def C6t:Tr:=.lt 3 (.bin .mul) [h 1 3,h 3 3]<|.lt 8 (.bin .geq) [h 0 3,h 8 3]<|.br 9 (.lt 3 (.bin .add) [h 2 3,jI 1]<|.lt 3 (.bin .mul) [h 10 3,h 3 3]<|.lt 8 (.bin .lss) [h 0 3,h 11 3]<|.br 12 (.lt 3 (.bin .quo) [h 0 3,h 3 3]<|.lt 3 (.bin .rem) [h 0 3,h 3 3]<|.lt 8 (.inbs 2) [h 13 3,h 4 12]<|.br 15 (.dt 22 (.get 2 0) [h 4 12,h 13 3]<|.lt 3 (.bin .add) [h 14 3,jI 1]<|.dt 22 (.subs 12) [h 16 22,h 14 3,h 17 3]<|.lt 3 (.len) [h 18 22]<|.lp W5 [h 18 22,h 19 3,jI 0] 0 0 (.lt 3 (.len) [h 7 9]<|.lt 8 (.bin .geq) [jI 0,h 20 3]<|.br 21 (.lt 3 (.len) [h 7 9]<|.lt 8 (.bin .geq) [jI 0,h 22 3]<|.br 23 (.lt 3 (.len) [h 7 9]<|.lt 9 (.sub) [.string ⟨⟨[]⟩⟩,jI 0,h 24 3]<|.lt 8 (.bin .eql) [h 25 9,h 7 9]<|.br 26 (.ret [jI 1,h 4 12,h 5 3,h 6 3]) (.ret [jI 2,h 4 12])) (.ret [jI 2,h 4 12])) (.lt 3 (.len) [h 7 9]<|.lt 8 (.bin .geq) [h 22 3,jI 0]<|.br 23 (.lt 9 (.sub) [h 7 9,jI 0,jI 0]<|.lt 8 (.bin .eql) [h 24 9,.string ⟨⟨[]⟩⟩]<|.lt 8 (.un .not) [h 25 8]<|.br 26 (.ret [jI 2,h 4 12]) (.lt 9 (.sub1) [h 7 9,jI 0]<|.lt 3 (.bin .add) [h 0 3,jI 1]<|.ret [jI (-1),h 28 3,h 1 3,h 2 3,h 3 3,h 4 12,h 5 3,h 6 3,h 27 9])) (.ret [jI 2,h 4 12]))) (.lp W5 [h 18 22,h 19 3,jI 0] 1 1 (.lt 3 (.len) [h 20 11]<|.lt 9 (.ustr) [h 20 11,h 21 3]<|.lt 3 (.len) [h 22 9]<|.lt 3 (.len) [h 7 9]<|.lt 8 (.bin .geq) [h 23 3,h 24 3]<|.br 25 (.lt 3 (.len) [h 22 9]<|.lt 3 (.len) [h 7 9]<|.lt 8 (.bin .geq) [h 26 3,h 27 3]<|.br 28 (.lt 3 (.len) [h 7 9]<|.lt 9 (.sub) [h 22 9,jI 0,h 29 3]<|.lt 8 (.bin .eql) [h 30 9,h 7 9]<|.br 31 (.ret [jI 1,h 4 12,h 5 3,h 6 3]) (.ret [jI 2,h 4 12])) (.ret [jI 2,h 4 12])) (.lt 3 (.len) [h 7 9]<|.lt 3 (.len) [h 22 9]<|.lt 8 (.bin .geq) [h 26 3,h 27 3]<|.br 28 (.lt 3 (.len) [h 22 9]<|.lt 9 (.sub) [h 7 9,jI 0,h 29 3]<|.lt 8 (.bin .eql) [h 30 9,h 22 9]<|.lt 8 (.un .not) [h 31 8]<|.br 32 (.ret [jI 2,h 4 12]) (.lt 3 (.len) [h 22 9]<|.lt 9 (.sub1) [h 7 9,h 33 3]<|.lt 3 (.bin .add) [h 0 3,jI 1]<|.ret [jI (-1),h 35 3,h 1 3,h 2 3,h 3 3,h 4 12,h 5 3,h 6 3,h 34 9])) (.ret [jI 2,h 4 12]))) (.no))) (.no)) (.ret [jI 0,h 4 12])) (.ret [jI 0,h 4 12])
def C0_:List U→Nat
 | [.int .i64 k,.int .i64 first,.int .i64 last,.int .i64 cols,u_rows,.int .i64 pr,.int .i64 pc,.str t]=>(match L6 rRw u_rows with|some rows=>((last+1)*cols-k).toNat|none=>0)
 | _=>0
theorem B2m(k:Int)(first:Int)(last:Int)(cols:Int)(rows:(Option (List ((Option (List (Int×Int×Int×Int×Int×Int×Int×Int×Int×Int×Int×Int)))×Bool))))(pr:Int)(pc:Int)(t:(List UInt8)):C0_ [.int .i64 k,.int .i64 first,.int .i64 last,.int .i64 cols,B3 rRw rows,.int .i64 pr,.int .i64 pc,.str t]=((last+1)*cols-k).toNat:=by
 simp only[C0_,E5]
theorem C6v{G:Nat→Option Obj}(hst:B9 Tryd.prog G gl H0 n0):∀ (E:Nat→U) (base:Nat),@M0 ⟨E,G⟩ Tryd.prog base gl Tryd.f69.ntmps C6s (J9 Tryd.prog gl n0 37 C1A A7D):=by
 refine O1 (C:=cx C71 B0S) (dep:=60) (f:=69) (n0:=n0) (nB:=37) (H0:=H0) C0_ C6t (cxg (C2i hst) (A8V hst)) hst Tryd.func69 C6w C6u (by kernel_rfl) (by kernel_rfl) (by kernel_rfl) ?_;intro us d outs hs;have hs0:=hs;unfold A7D at hs;split at hs
 ·skip;rename_i k first last cols u_rows pr pc t
  have hq_rows:=A9.1 hs;clear hs;obtain⟨rows,hd_rows,hs⟩:=hq_rows;replace hd_rows:=H5 hd_rows;subst hd_rows;split at hs
  ·rename_i hc;clear hs hs0;have hc0:=A18 hc.1;have hl:=A1Z hc.1;have he:2≤cols∧cols≤80:=by rw[hc.2.1];exact hc0
   have m1:=A7Z (a:=first) (b:=cols) (A:=140) (B:=80) (by omega) (by omega) (by omega) (by omega);have m2:=A7Z (a:=last+1) (b:=cols) (A:=140) (B:=80) (by omega) (by omega) (by omega) (by omega);have m3:(last+1)*cols≤((el rows).length:Int)*cols:=P3 (by omega) (by omega);have hk:first*cols≤k→k<(last+1)*cols→0≤k / cols∧k / cols<((el rows).length:Int)∧0≤k%cols∧k%cols<cols:=fun a b=>A8y (by omega) (by omega) (by omega)
   have hrl:0≤k / cols→k / cols<((el rows).length:Int)→((el ((el rows).getD (k / cols).toNat default).1).length:Int)=cols:=fun a b=>by rw[(hl.2.2 _ (a9 a b)).2,hc.2.1]
   have hct:(ctK rows cols k).length≤12:=A04 _;refine⟨rfl,?_⟩;unfold C6t;refine s0 (.cons 7 _ (.cons 6 _ (.cons 5 _ (.cons 4 _ (.cons 3 _ (.cons 2 _ (.cons 1 _ (.cons 0 _ (.nil))))))))) rfl (by simp[Ev.ok,Ev.len]) ?_;first|refine s1 (A17 (B4 (by omega) (by omega))) rfl rfl rfl ?_|refine s1 (A3B _ _ _) rfl rfl rfl ?_
   refine s1 (Q3 _ _ _) rfl rfl rfl ?_;refine s5 rfl (fun g0=>?_) fun g0=>?_
   ·refine s7 [.int .i64 _,B3 rRw _] rfl ?_;refine C6 (d:=0) ?_;rw[P9 _ _ _ _ _ _ _ _ hc,C0f (by omega)];rfl
   first|refine s1 (B6 (B4 (by omega) (by omega))) rfl rfl rfl ?_|refine s1 (C3 _ _ _) rfl rfl rfl ?_
   first|refine s1 (A17 (B4 (by omega) (by omega))) rfl rfl rfl ?_|refine s1 (A3B _ _ _) rfl rfl rfl ?_
   refine s1 (F0 _ _ _) rfl rfl rfl ?_;refine s5 rfl (fun g1=>?_) fun g1=>?_
   ·refine s7 [.int .i64 _,B3 rRw _] rfl ?_;refine C6 (d:=0) ?_;rw[P9 _ _ _ _ _ _ _ _ hc,C0f (by omega)];rfl
   have hk:=hk g0 g1;have hrl:=hrl hk.1 hk.2.1;first|refine s1 (R5 (by omega) (by omega) (B4 (by omega) (by omega))) rfl rfl rfl ?_|refine s1 (Y0 _ _ _ (by omega)) rfl rfl rfl ?_
   first|refine s1 (P1 (by omega) (by omega)) rfl rfl rfl ?_|refine s1 (S5 _ _ _ (by omega)) rfl rfl rfl ?_
   refine s1 (D6 rfl) rfl rfl rfl ?_;refine s5 rfl (fun g2=>?_) fun g2=>?_
   ·refine s8 ?_;first|omega
   refine s2 (r:=rCl) (B0 rfl (by omega) (by omega) rfl) rfl rfl ?_;first|refine s1 (B6 (B4 (by omega) (by omega))) rfl rfl rfl ?_|refine s1 (C3 _ _ _) rfl rfl rfl ?_
   refine s2 (r:=rCl) (Q4 rfl (by omega) (by omega) (by omega)) rfl rfl ?_;refine s1 (F7 _ _) rfl rfl rfl ?_;refine s6 (V2 _ _ 0 ⟨rfl,by decide,E0 _,by rw[C9j (by omega) (by omega)];decide⟩) rfl (fun _=>rfl) (fun g3=>?_) (fun v3 g3=>?_)
   ·show Tr.sav _ _ _;have hz:ctK rows cols k=[]:=C9i (by omega) (by omega) ‹_›;refine s1 (Q2 _) rfl rfl rfl ?_;refine s1 (Q3 _ _ _) rfl rfl rfl ?_;refine s4 rfl (fun g4=>?_) fun g4=>?_
    ·refine s1 (Q2 _) rfl rfl rfl ?_;refine s1 (Q3 _ _ _) rfl rfl rfl ?_;refine s5 rfl (fun g5=>?_) fun g5=>?_
     ·refine s7 [.int .i64 _,B3 rRw _] rfl ?_;refine C6 (d:=2) ?_;first|(exfalso;omega)|(exact absurd rfl g6)|(rw[P9 _ _ _ _ _ _ _ _ hc,B34 g1 g4 g6];rfl)|(rw[P9 _ _ _ _ _ _ _ _ hc,B33 g1 g4 g6];rfl)
     refine s1 (Q2 _) rfl rfl rfl ?_;refine s1 (A2y _ _ _ _ _ (by omega) (by omega) (by omega)) rfl rfl rfl ?_;refine s1 (A6C _ _) rfl rfl rfl ?_;refine s4 rfl (fun g6=>?_) fun g6=>?_
     ·refine s7 [.int .i64 _,B3 rRw _,.int .i64 _,.int .i64 _] rfl ?_;refine C6 (d:=1) ?_;first|(exfalso;omega)|(rw[P9 _ _ _ _ _ _ _ _ hc,C9s g1 g4 g6];rfl)
     refine s7 [.int .i64 _,B3 rRw _] rfl ?_;refine C6 (d:=2) ?_;first|(exfalso;omega)|(exact absurd rfl g6)|(rw[P9 _ _ _ _ _ _ _ _ hc,B34 g1 g4 g6];rfl)|(rw[P9 _ _ _ _ _ _ _ _ hc,B33 g1 g4 g6];rfl)
    refine s1 (Q2 _) rfl rfl rfl ?_;refine s1 (Q3 _ _ _) rfl rfl rfl ?_;refine s5 rfl (fun g5=>?_) fun g5=>?_
    ·refine s7 [.int .i64 _,B3 rRw _] rfl ?_;refine C6 (d:=2) ?_;first|(exfalso;omega)|(exact absurd rfl g6)|(rw[P9 _ _ _ _ _ _ _ _ hc,B34 g1 g4 g6];rfl)|(rw[P9 _ _ _ _ _ _ _ _ hc,B33 g1 g4 g6];rfl)
    refine s1 (A2y _ _ _ _ _ (by omega) (by omega) (by omega)) rfl rfl rfl ?_;refine s1 (A6C _ _) rfl rfl rfl ?_;refine s1 (M4 _) rfl rfl rfl ?_;refine s4 rfl (fun g6=>?_) fun g6=>?_
    ·refine s7 [.int .i64 _,B3 rRw _] rfl ?_;refine C6 (d:=2) ?_;first|(exfalso;omega)|(exact absurd rfl g6)|(rw[P9 _ _ _ _ _ _ _ _ hc,B34 g1 g4 g6];rfl)|(rw[P9 _ _ _ _ _ _ _ _ hc,B33 g1 g4 g6];rfl)
    refine s1 (B68 _ _ _ (by omega) (by omega)) rfl rfl rfl ?_;first|refine s1 (B6 (B4 (by omega) (by omega))) rfl rfl rfl ?_|refine s1 (C3 _ _ _) rfl rfl rfl ?_
    refine s7 [.int .i64 _,.int .i64 _,.int .i64 _,.int .i64 _,.int .i64 _,B3 rRw _,.int .i64 _,.int .i64 _,.str _] rfl ?_;refine B7 ?_ ?_
    ·rw[P9 _ _ _ _ _ _ _ _ hc,C6U g1 (by rw[hz];exact g4) (by rw[hz];rfl),hz];exact P9 _ _ _ _ _ _ _ _ ⟨hc.1,hc.2.1,hc.2.2.1,hc.2.2.2.1,hc.2.2.2.2.1,by omega,by omega,hc.2.2.2.2.2.2.2⟩
    ·rw[B2m,B2m];omega
   show Tr.sav _ _ (.cons 20 _ _);rw[C6S (c:=k%cols) (by omega) (by omega)];change Tr.sav _ _ (Ev.cons _ (B3 rB (some (bI (ctK rows cols k)))) _);refine s1 (F7 _ _) rfl rfl rfl ?_;refine s1 (C1E rfl (by omega)) rfl rfl rfl ?_;refine s1 (Q2 _) rfl rfl rfl ?_;refine s1 (Q2 _) rfl rfl rfl ?_;refine s1 (Q3 _ _ _) rfl rfl rfl ?_;refine s4 rfl (fun g4=>?_) fun g4=>?_
   ·refine s1 (Q2 _) rfl rfl rfl ?_;refine s1 (Q2 _) rfl rfl rfl ?_;refine s1 (Q3 _ _ _) rfl rfl rfl ?_;refine s5 rfl (fun g5=>?_) fun g5=>?_
    ·refine s7 [.int .i64 _,B3 rRw _] rfl ?_;refine C6 (d:=2) ?_;first|(exfalso;omega)|(exact absurd rfl g6)|(rw[P9 _ _ _ _ _ _ _ _ hc,B34 g1 g4 g6];rfl)|(rw[P9 _ _ _ _ _ _ _ _ hc,B33 g1 g4 g6];rfl)
    refine s1 (Q2 _) rfl rfl rfl ?_;refine s1 (A2y _ _ _ _ _ (by omega) (by omega) (by omega)) rfl rfl rfl ?_;refine s1 (A6C _ _) rfl rfl rfl ?_;refine s4 rfl (fun g6=>?_) fun g6=>?_
    ·refine s7 [.int .i64 _,B3 rRw _,.int .i64 _,.int .i64 _] rfl ?_;refine C6 (d:=1) ?_;first|(exfalso;omega)|(rw[P9 _ _ _ _ _ _ _ _ hc,C9s g1 g4 g6];rfl)
    refine s7 [.int .i64 _,B3 rRw _] rfl ?_;refine C6 (d:=2) ?_;first|(exfalso;omega)|(exact absurd rfl g6)|(rw[P9 _ _ _ _ _ _ _ _ hc,B34 g1 g4 g6];rfl)|(rw[P9 _ _ _ _ _ _ _ _ hc,B33 g1 g4 g6];rfl)
   refine s1 (Q2 _) rfl rfl rfl ?_;refine s1 (Q2 _) rfl rfl rfl ?_;refine s1 (Q3 _ _ _) rfl rfl rfl ?_;refine s5 rfl (fun g5=>?_) fun g5=>?_
   ·refine s7 [.int .i64 _,B3 rRw _] rfl ?_;refine C6 (d:=2) ?_;first|(exfalso;omega)|(exact absurd rfl g6)|(rw[P9 _ _ _ _ _ _ _ _ hc,B34 g1 g4 g6];rfl)|(rw[P9 _ _ _ _ _ _ _ _ hc,B33 g1 g4 g6];rfl)
   refine s1 (Q2 _) rfl rfl rfl ?_;refine s1 (A2y _ _ _ _ _ (by omega) (by omega) (by omega)) rfl rfl rfl ?_;refine s1 (A6C _ _) rfl rfl rfl ?_;refine s1 (M4 _) rfl rfl rfl ?_;refine s4 rfl (fun g6=>?_) fun g6=>?_
   ·refine s7 [.int .i64 _,B3 rRw _] rfl ?_;refine C6 (d:=2) ?_;first|(exfalso;omega)|(exact absurd rfl g6)|(rw[P9 _ _ _ _ _ _ _ _ hc,B34 g1 g4 g6];rfl)|(rw[P9 _ _ _ _ _ _ _ _ hc,B33 g1 g4 g6];rfl)
   refine s1 (Q2 _) rfl rfl rfl ?_;refine s1 (B68 _ _ _ (by omega) (by omega)) rfl rfl rfl ?_;first|refine s1 (B6 (B4 (by omega) (by omega))) rfl rfl rfl ?_|refine s1 (C3 _ _ _) rfl rfl rfl ?_
   refine s7 [.int .i64 _,.int .i64 _,.int .i64 _,.int .i64 _,.int .i64 _,B3 rRw _,.int .i64 _,.int .i64 _,.str _] rfl ?_;refine B7 ?_ ?_
   ·rw[P9 _ _ _ _ _ _ _ _ hc,C6U g1 g4 (R9.1 g6)];exact P9 _ _ _ _ _ _ _ _ ⟨hc.1,hc.2.1,hc.2.2.1,hc.2.2.2.1,hc.2.2.2.2.1,by omega,by omega,by rw[P2];omega,by rw[P2];omega⟩
   ·rw[B2m,B2m];omega
  ·cases hs
 ·cases hs
noncomputable def C3A:List LpE:=(69,([true,false],J9 Tryd.prog gl n0 37 C1A A7D))::B0S
theorem B46{G:Nat→Option Obj}(hst:B9 Tryd.prog G gl H0 n0):V1 Tryd.prog G gl C3A:=.cons Tryd.func69 C6w C6u (C6v hst) (A8V hst)
end Go.Proofs.YtdkdbjgkedahfaaDoor
namespace Go.Proofs.YtdkdbjgkedahfaaDoor
set_option linter.all false
open Go Go.Sx
set_option maxRecDepth 100000
set_option linter.unusedVariables false
set_option linter.unusedSimpArgs false
def fdN(rows:Option (List Row))(cols hi:Int)(t:List UInt8):Nat→Int→Option Int
 | 0,_=>none
 | n+1,k=>if hi≤k then none else if ¬((el ((el rows).getD (k / cols).toNat default).1).getD (k%cols).toNat default).2.2.2.1=2∧mtS (ctK rows cols) ((A0D (el rows) (k / cols)+1)*cols) k t=1 then some k else fdN rows cols hi t n (k+1)
def fdS(rows:Option (List Row))(cols:Int)(t:List UInt8)(k:Int):Option Int:=fdN rows cols (((el rows).length:Int)*cols) t (((el rows).length:Int)*cols-k).toNat k
section
variable {rows:Option (List Row)} {cols k:Int} {t:List UInt8}
theorem B5q(h:((el rows).length:Int)*cols≤k):fdS rows cols t k=none:=by
 unfold fdS;rw[show(((el rows).length:Int)*cols-k).toNat=0 by omega];rfl
theorem C1C(h:k<((el rows).length:Int)*cols):fdS rows cols t k=if ¬((el ((el rows).getD (k / cols).toNat default).1).getD (k%cols).toNat default).2.2.2.1=2∧mtS (ctK rows cols) ((A0D (el rows) (k / cols)+1)*cols) k t=1 then some k else fdS rows cols t (k+1):=by
 unfold fdS;rw[show(((el rows).length:Int)*cols-k).toNat=(((el rows).length:Int)*cols-(k+1)).toNat+1 by omega,fdN,if_neg (by omega)]
theorem D0B(h:k<((el rows).length:Int)*cols)(h1:¬((el ((el rows).getD (k / cols).toNat default).1).getD (k%cols).toNat default).2.2.2.1=2)(h2:mtS (ctK rows cols) ((A0D (el rows) (k / cols)+1)*cols) k t=1):fdS rows cols t k=some k:=by rw[C1C h,if_pos ⟨h1,h2⟩]
theorem B8H(h:k<((el rows).length:Int)*cols)(h1:((el ((el rows).getD (k / cols).toNat default).1).getD (k%cols).toNat default).2.2.2.1=2):fdS rows cols t k=fdS rows cols t (k+1):=by rw[C1C h,if_neg (fun q=>q.1 h1)]
theorem B8I(h:k<((el rows).length:Int)*cols)(h2:¬mtS (ctK rows cols) ((A0D (el rows) (k / cols)+1)*cols) k t=1):fdS rows cols t k=fdS rows cols t (k+1):=by rw[C1C h,if_neg (fun q=>h2 q.2)]
end
noncomputable def C7z:List (FuncId×FnC):=(61,M5 Tryd.prog [.s 12] A2S [.s 3])::(45,M5 Tryd.prog [.s 12,.s 3] A8J [.s 3,.s 3])::(64,M5 Tryd.prog [.s 3] A0m [.s 9])::L0
theorem C2g{G:Nat→Option Obj}(hst:B9 Tryd.prog G gl H0 n0):H6 Tryd.prog G gl C7z:=(.cons (A5g hst) (.cons (C0s hst) (.cons (A6u hst) .nil)))
def A9u:List U→Option (Nat×List U)
 | [.int .i64 k,.int .i64 last,.int .i64 cols,u_rows,.str t]=>(L6 rRw u_rows).bind fun rows=>if Y4 rows=0∧cols=O7 rows∧last=((el rows).length:Int)-1∧0≤k∧k≤((el rows).length:Int)*cols∧1≤t.length∧t.length≤200 then i0 (fdS rows cols t k) [] (fun j=>[.int .i64 (j / cols),.int .i64 (j%cols)])else none
 | _=>none
theorem y4(k:Int)(last:Int)(cols:Int)(rows:(Option (List ((Option (List (Int×Int×Int×Int×Int×Int×Int×Int×Int×Int×Int×Int)))×Bool))))(t:(List UInt8))(hc:Y4 rows=0∧cols=O7 rows∧last=((el rows).length:Int)-1∧0≤k∧k≤((el rows).length:Int)*cols∧1≤t.length∧t.length≤200):A9u [.int .i64 k,.int .i64 last,.int .i64 cols,B3 rRw rows,.str t]=i0 (fdS rows cols t k) [] (fun j=>[.int .i64 (j / cols),.int .i64 (j%cols)]):=by
 simp only[A9u,E5,D3];exact if_pos hc
def C6q:P8:=⟨[(0,yv 17),(2,.pointer (some ⟨15,0,none⟩)),(3,.pointer (some ⟨13,0,none⟩)),(4,.pointer (some ⟨14,0,none⟩)),(5,.pointer (some ⟨12,0,none⟩)),(7,h 0 3)],[(12,.cells 3 [.int .i64 (1)]),(13,.cells 3 [.int .i64 (0)]),(14,.cells 3 [h 1 3]),(15,.cells 3 [h 2 3]),(17,.lp 20 [true,false,true,true,true,true,false,true,false] [junk,junk,junk,.pointer (some ⟨4,0,none⟩),.pointer (some ⟨5,0,none⟩),junk,.pointer (some ⟨7,0,none⟩),.pointer (some ⟨8,0,none⟩),.pointer (some ⟨9,0,none⟩),junk,junk,junk,junk,junk,junk,junk,junk,junk,junk,junk,junk,junk,junk,junk,junk,junk,junk,junk,junk,junk,junk,junk,junk,junk,junk,junk,junk,junk,junk,junk,junk,junk,junk,junk,junk,junk,junk,junk,junk,junk,junk,junk,junk,junk,junk,junk,junk,junk,junk,junk,junk,junk,junk,junk,junk,junk,junk,junk,junk,junk,junk,junk,junk,junk,junk,junk,junk,junk,junk,junk,junk,junk,junk,junk,junk,junk,junk,junk,junk,junk,junk,junk,junk,junk,junk,junk,junk,junk,junk,junk,junk,junk,junk,junk,junk,junk] 0),(4,.cells 31 [dat 18 3 12]),(5,.cells 9 [h 4 9]),(7,.cells 29 [.int .i64 (0),.int .i64 (0)]),(8,.cells 4 [.bool false]),(9,.cells 36 [.int .i64 (0)]),(18,.frz)],5,[⟨.exit 0,[(0,yv 17)],[(17,.lp 20 [true,false,true,true,true,true,false,true,false] [junk,junk,junk,.pointer (some ⟨4,0,none⟩),.pointer (some ⟨5,0,none⟩),junk,.pointer (some ⟨7,0,none⟩),.pointer (some ⟨8,0,none⟩),.pointer (some ⟨9,0,none⟩),junk,junk,junk,junk,junk,junk,junk,junk,junk,junk,junk,junk,junk,junk,junk,junk,junk,junk,junk,junk,junk,junk,junk,junk,junk,junk,junk,junk,junk,junk,junk,junk,junk,junk,junk,junk,junk,junk,junk,junk,junk,junk,junk,junk,junk,junk,junk,junk,junk,junk,junk,junk,junk,junk,junk,junk,junk,junk,junk,junk,junk,junk,junk,junk,junk,junk,junk,junk,junk,junk,junk,junk,junk,junk,junk,junk,junk,junk,junk,junk,junk,junk,junk,junk,junk,junk,junk,junk,junk,junk,junk,junk,junk,junk,junk,junk,junk] 0),(4,.cells 31 [junk]),(5,.cells 9 [junk]),(7,.cells 29 [.int .i64 (0),.int .i64 (0)]),(8,.cells 4 [.bool false]),(9,.cells 36 [.int .i64 (0)])],0⟩,⟨.ret,[(0,yv 17)],[(17,.lp 20 [true,false,true,true,true,true,false,true,false] [junk,junk,junk,.pointer (some ⟨4,0,none⟩),.pointer (some ⟨5,0,none⟩),junk,.pointer (some ⟨7,0,none⟩),.pointer (some ⟨8,0,none⟩),.pointer (some ⟨9,0,none⟩),junk,junk,junk,junk,junk,junk,junk,junk,junk,junk,junk,junk,junk,junk,junk,junk,junk,junk,junk,junk,junk,junk,junk,junk,junk,junk,junk,junk,junk,junk,junk,junk,junk,junk,junk,junk,junk,junk,junk,junk,junk,junk,junk,junk,junk,junk,junk,junk,junk,junk,junk,junk,junk,junk,junk,junk,junk,junk,junk,junk,junk,junk,junk,junk,junk,junk,junk,junk,junk,junk,junk,junk,junk,junk,junk,junk,junk,junk,junk,junk,junk,junk,junk,junk,junk,junk,junk,junk,junk,junk,junk,junk,junk,junk,junk,junk,junk] 2),(4,.cells 31 [junk]),(5,.cells 9 [junk]),(7,.cells 29 [h 0 3,h 1 3]),(8,.cells 4 [.bool true]),(9,.cells 36 [.int .i64 (0)])],2⟩]⟩
noncomputable def C08:Code:=(Tryd.f69.body).getD .skip
noncomputable def C6m:Code:=match F2 [true,false] C08 with|some (.loop x)=>x|_=>.skip
theorem C6p:Tryd.f69.body=some C08:=rfl
theorem C6o:F2 [true,false] C08=some (.loop C6m):=by kernel_rfl
def C6n:Tr:=.lt 3 (.bin .mul) [jI 0,h 2 3]<|.lt 8 (.bin .geq) [h 0 3,h 5 3]<|.br 6 (.lt 3 (.bin .add) [h 1 3,jI 1]<|.lt 3 (.bin .mul) [h 7 3,h 2 3]<|.lt 8 (.bin .lss) [h 0 3,h 8 3]<|.br 9 (.lt 3 (.bin .quo) [h 0 3,h 2 3]<|.lt 3 (.bin .rem) [h 0 3,h 2 3]<|.lt 8 (.inbs 2) [h 10 3,h 3 12]<|.br 12 (.dt 22 (.get 2 0) [h 3 12,h 10 3]<|.lt 8 (.inbs 12) [h 11 3,h 13 22]<|.br 14 (.lt 3 (.get 12 0) [h 13 22,h 11 3]<|.lt 3 (.get 12 1) [h 13 22,h 11 3]<|.lt 3 (.get 12 2) [h 13 22,h 11 3]<|.lt 3 (.get 12 3) [h 13 22,h 11 3]<|.lt 3 (.get 12 4) [h 13 22,h 11 3]<|.lt 3 (.get 12 5) [h 13 22,h 11 3]<|.lt 3 (.get 12 6) [h 13 22,h 11 3]<|.lt 3 (.get 12 7) [h 13 22,h 11 3]<|.lt 3 (.get 12 8) [h 13 22,h 11 3]<|.lt 3 (.get 12 9) [h 13 22,h 11 3]<|.lt 3 (.get 12 10) [h 13 22,h 11 3]<|.lt 3 (.get 12 11) [h 13 22,h 11 3]<|.lt 8 (.bin .eql) [h 18 3,jI 2]<|.br 27 (.lt 3 (.bin .add) [h 0 3,jI 1]<|.ret [jI (-1),h 28 3,h 1 3,h 2 3,h 3 12,h 4 9]) (.fn A8J [h 3 12,h 10 3] 2<|.lt 8 (.inbs 2) [jI 0,h 3 12]<|.br 30 (.dt 22 (.get 2 0) [h 3 12,jI 0]<|.lt 3 (.len) [h 31 22]<|.lt 3 (.bin .mul) [h 10 3,h 32 3]<|.lt 3 (.bin .add) [h 33 3,h 11 3]<|.lp A7D [h 34 3,h 10 3,h 29 3,h 32 3,h 3 12,h 10 3,h 11 3,h 4 9] 0 1 (.lt 3 (.bin .add) [h 0 3,jI 1]<|.ret [jI (-1),h 36 3,h 1 3,h 2 3,h 35 12,h 4 9]) (.lp A7D [h 34 3,h 10 3,h 29 3,h 32 3,h 3 12,h 10 3,h 11 3,h 4 9] 1 3 (.ret [jI 1,h 36 3,h 37 3]) (.lp A7D [h 34 3,h 10 3,h 29 3,h 32 3,h 3 12,h 10 3,h 11 3,h 4 9] 2 1 (.lt 3 (.bin .add) [h 0 3,jI 1]<|.ret [jI (-1),h 36 3,h 1 3,h 2 3,h 35 12,h 4 9]) (.no)))) (.no))) (.no)) (.no)) (.ret [jI 0])) (.ret [jI 0])
def C07:List U→Nat
 | [.int .i64 k,.int .i64 last,.int .i64 cols,u_rows,.str t]=>(match L6 rRw u_rows with|some rows=>(((el rows).length:Int)*cols-k).toNat|none=>0)
 | _=>0
theorem A7l(k:Int)(last:Int)(cols:Int)(rows:(Option (List ((Option (List (Int×Int×Int×Int×Int×Int×Int×Int×Int×Int×Int×Int)))×Bool))))(t:(List UInt8)):C07 [.int .i64 k,.int .i64 last,.int .i64 cols,B3 rRw rows,.str t]=(((el rows).length:Int)*cols-k).toNat:=by
 simp only[C07,E5]
theorem C9_{G:Nat→Option Obj}(hst:B9 Tryd.prog G gl H0 n0):∀ (E:Nat→U) (base:Nat),@M0 ⟨E,G⟩ Tryd.prog base gl Tryd.f69.ntmps C6m (J9 Tryd.prog gl n0 19 C6q A9u):=by
 refine O1 (C:=cx C7z C3A) (dep:=60) (f:=69) (n0:=n0) (nB:=19) (H0:=H0) C07 C6n (cxg (C2g hst) (B46 hst)) hst Tryd.func69 C6p C6o (by kernel_rfl) (by kernel_rfl) (by kernel_rfl) ?_;intro us d outs hs;have hs0:=hs;unfold A9u at hs;split at hs
 ·skip;rename_i k last cols u_rows t;have hq_rows:=A9.1 hs;clear hs;obtain⟨rows,hd_rows,hs⟩:=hq_rows;replace hd_rows:=H5 hd_rows;subst hd_rows;split at hs
  ·rename_i hc;clear hs hs0;have hc0:=A18 hc.1;have hl:=A1Z hc.1;have he:2≤cols∧cols≤80:=by rw[hc.2.1];exact hc0
   have m1:=A7Z (a:=((el rows).length:Int)) (b:=cols) (A:=140) (B:=80) (by omega) (by omega) (by omega) (by omega);have m0:last+1=((el rows).length:Int):=by omega
   have m0b:(last+1)*cols=((el rows).length:Int)*cols:=by rw[m0]
   have m0c:0*cols=0:=Int.zero_mul _;have hk:k<((el rows).length:Int)*cols→0≤k / cols∧k / cols<((el rows).length:Int)∧0≤k%cols∧k%cols<cols:=fun b=>A8y (by omega) (by omega) (by omega)
   have hrl:0≤k / cols→k / cols<((el rows).length:Int)→((el ((el rows).getD (k / cols).toNat default).1).length:Int)=cols:=fun a b=>by rw[(hl.2.2 _ (a9 a b)).2,hc.2.1]
   have hdm:=B7F k cols;have hw0:((el ((el rows).getD (0:Int).toNat default).1).length:Int)=cols:=by rw[← (B2x rows).2,hc.2.1]
   have hmw:k / cols*((el ((el rows).getD (0:Int).toNat default).1).length:Int)=k / cols*cols:=by rw[hw0]
   have hml:(A0D (el rows) (k / cols)+1)*((el ((el rows).getD (0:Int).toNat default).1).length:Int)=(A0D (el rows) (k / cols)+1)*cols:=by rw[hw0]
   refine⟨rfl,?_⟩;unfold C6n;refine s0 (.cons 4 _ (.cons 3 _ (.cons 2 _ (.cons 1 _ (.cons 0 _ (.nil)))))) rfl (by simp[Ev.ok,Ev.len]) ?_;first|refine s1 (A17 (B4 (by omega) (by omega))) rfl rfl rfl ?_|refine s1 (A3B _ _ _) rfl rfl rfl ?_
   refine s1 (Q3 _ _ _) rfl rfl rfl ?_;refine s5 rfl (fun g0=>?_) fun g0=>?_
   ·refine s7 [.int .i64 _] rfl ?_;refine C6 (d:=0) ?_;rw[y4 _ _ _ _ _ hc,B5q (by omega)];rfl
   first|refine s1 (B6 (B4 (by omega) (by omega))) rfl rfl rfl ?_|refine s1 (C3 _ _ _) rfl rfl rfl ?_
   first|refine s1 (A17 (B4 (by omega) (by omega))) rfl rfl rfl ?_|refine s1 (A3B _ _ _) rfl rfl rfl ?_
   refine s1 (F0 _ _ _) rfl rfl rfl ?_;refine s5 rfl (fun g1=>?_) fun g1=>?_
   ·refine s7 [.int .i64 _] rfl ?_;refine C6 (d:=0) ?_;rw[y4 _ _ _ _ _ hc,B5q (by omega)];rfl
   rw[m0b]at g1;have hk:=hk g1;have hrl:=hrl hk.1 hk.2.1;have lb:=B6p (l:=el rows) hk.1 hk.2.1;have m2:(k / cols+1)*cols≤(A0D (el rows) (k / cols)+1)*cols:=P3 (by omega) (by omega);have m3:(k / cols+1)*cols=k / cols*cols+cols:=by rw[Int.add_mul,Int.one_mul]
   first|refine s1 (R5 (by omega) (by omega) (B4 (by omega) (by omega))) rfl rfl rfl ?_|refine s1 (Y0 _ _ _ (by omega)) rfl rfl rfl ?_
   first|refine s1 (P1 (by omega) (by omega)) rfl rfl rfl ?_|refine s1 (S5 _ _ _ (by omega)) rfl rfl rfl ?_
   refine s1 (D6 rfl) rfl rfl rfl ?_;refine s5 rfl (fun g2=>?_) fun g2=>?_
   ·refine s8 ?_;first|omega
   refine s2 (r:=rCl) (B0 rfl (by omega) (by omega) rfl) rfl rfl ?_;refine s1 (D6 rfl) rfl rfl rfl ?_;refine s5 rfl (fun g3=>?_) fun g3=>?_
   ·refine s8 ?_;first|omega
   refine s1 (u:=.int .i64 _) (B0 rfl (by omega) (by omega) rfl) rfl rfl rfl ?_;refine s1 (u:=.int .i64 _) (B0 rfl (by omega) (by omega) rfl) rfl rfl rfl ?_;refine s1 (u:=.int .i64 _) (B0 rfl (by omega) (by omega) rfl) rfl rfl rfl ?_;refine s1 (u:=.int .i64 _) (B0 rfl (by omega) (by omega) rfl) rfl rfl rfl ?_;refine s1 (u:=.int .i64 _) (B0 rfl (by omega) (by omega) rfl) rfl rfl rfl ?_;refine s1 (u:=.int .i64 _) (B0 rfl (by omega) (by omega) rfl) rfl rfl rfl ?_;refine s1 (u:=.int .i64 _) (B0 rfl (by omega) (by omega) rfl) rfl rfl rfl ?_;refine s1 (u:=.int .i64 _) (B0 rfl (by omega) (by omega) rfl) rfl rfl rfl ?_;refine s1 (u:=.int .i64 _) (B0 rfl (by omega) (by omega) rfl) rfl rfl rfl ?_;refine s1 (u:=.int .i64 _) (B0 rfl (by omega) (by omega) rfl) rfl rfl rfl ?_;refine s1 (u:=.int .i64 _) (B0 rfl (by omega) (by omega) rfl) rfl rfl rfl ?_;refine s1 (u:=.int .i64 _) (B0 rfl (by omega) (by omega) rfl) rfl rfl rfl ?_;refine s1 (F4 _ _ _) rfl rfl rfl ?_;refine s4 rfl (fun g4=>?_) fun g4=>?_
   ·first|refine s1 (B6 (B4 (by omega) (by omega))) rfl rfl rfl ?_|refine s1 (C3 _ _ _) rfl rfl rfl ?_
    refine s7 [.int .i64 _,.int .i64 _,.int .i64 _,.int .i64 _,B3 rRw _,.str _] rfl ?_;refine B7 ?_ ?_
    ·rw[y4 _ _ _ _ _ hc];first|(rw[B8H g1 ‹_›];exact y4 _ _ _ _ _ ⟨hc.1,hc.2.1,hc.2.2.1,by omega,by omega,hc.2.2.2.2.2⟩)|(rw[B8I g1 (by omega)];exact y4 _ _ _ _ _ ⟨hc.1,hc.2.1,hc.2.2.1,by omega,by omega,hc.2.2.2.2.2⟩)
    ·rw[A7l,A7l];omega
   refine s32 (C3w _ _ ⟨by omega,by omega,by omega⟩) rfl rfl ?_;refine s1 (D6 rfl) rfl rfl rfl ?_;refine s5 rfl (fun g5=>?_) fun g5=>?_
   ·refine s8 ?_;first|omega
   refine s2 (r:=rCl) (B0 rfl (by omega) (by omega) rfl) rfl rfl ?_;refine s1 (F7 _ _) rfl rfl rfl ?_;first|refine s1 (A17 (B4 (by omega) (by omega))) rfl rfl rfl ?_|refine s1 (A3B _ _ _) rfl rfl rfl ?_
   first|refine s1 (B6 (B4 (by omega) (by omega))) rfl rfl rfl ?_|refine s1 (C3 _ _ _) rfl rfl rfl ?_
   refine s63 (P9 _ _ _ _ _ _ _ _ ⟨hc.1,by omega,by omega,by omega,by omega,by omega,by omega,hc.2.2.2.2.2.1,hc.2.2.2.2.2.2⟩) rfl rfl rfl (fun g6=>?_) (fun g6=>?_) (fun g6=>?_)
   ·show Tr.sav _ _ (.cons 35 _ _);rw[hw0,hdm]at g6;first|refine s1 (B6 (B4 (by omega) (by omega))) rfl rfl rfl ?_|refine s1 (C3 _ _ _) rfl rfl rfl ?_
    refine s7 [.int .i64 _,.int .i64 _,.int .i64 _,.int .i64 _,B3 rRw _,.str _] rfl ?_;refine B7 ?_ ?_
    ·rw[y4 _ _ _ _ _ hc];first|(rw[B8H g1 ‹_›];exact y4 _ _ _ _ _ ⟨hc.1,hc.2.1,hc.2.2.1,by omega,by omega,hc.2.2.2.2.2⟩)|(rw[B8I g1 (by omega)];exact y4 _ _ _ _ _ ⟨hc.1,hc.2.1,hc.2.2.1,by omega,by omega,hc.2.2.2.2.2⟩)
    ·rw[A7l,A7l];omega
   ·show Tr.sav _ _ (.cons 37 _ (.cons 36 _ (.cons 35 _ _)));rw[hw0,hdm]at g6;refine s7 [.int .i64 _,.int .i64 _,.int .i64 _] rfl ?_;refine C6 (d:=1) ?_;rw[y4 _ _ _ _ _ hc,D0B g1 ‹_› ‹_›];rfl
   ·show Tr.sav _ _ (.cons 35 _ _);rw[hw0,hdm]at g6;first|refine s1 (B6 (B4 (by omega) (by omega))) rfl rfl rfl ?_|refine s1 (C3 _ _ _) rfl rfl rfl ?_
    refine s7 [.int .i64 _,.int .i64 _,.int .i64 _,.int .i64 _,B3 rRw _,.str _] rfl ?_;refine B7 ?_ ?_
    ·rw[y4 _ _ _ _ _ hc];first|(rw[B8H g1 ‹_›];exact y4 _ _ _ _ _ ⟨hc.1,hc.2.1,hc.2.2.1,by omega,by omega,hc.2.2.2.2.2⟩)|(rw[B8I g1 (by omega)];exact y4 _ _ _ _ _ ⟨hc.1,hc.2.1,hc.2.2.1,by omega,by omega,hc.2.2.2.2.2⟩)
    ·rw[A7l,A7l];omega
  ·cases hs
 ·cases hs
noncomputable def C8F:List LpE:=(69,([true,false],orL (J9 Tryd.prog gl n0 19 C6q A9u) (J9 Tryd.prog gl n0 37 C1A A7D)))::C3A
theorem C2_{G:Nat→Option Obj}(hst:B9 Tryd.prog G gl H0 n0):V1 Tryd.prog G gl C8F:=.cons Tryd.func69 C6p C6o (fun E base=>@M0.or ⟨E,G⟩ _ _ _ _ _ _ _ (C9_ hst E base) ((C6v hst) E base)) (B46 hst)
end Go.Proofs.YtdkdbjgkedahfaaDoor
namespace Go.Proofs.YtdkdbjgkedahfaaDoor
set_option linter.all false
open Go Go.Sx
set_option maxRecDepth 100000
set_option linter.unusedVariables false
set_option linter.unusedSimpArgs false
def fnE(rows:Option (List Row))(s:List UInt8)(r c:Int):Int:=if A9e rows 0 r c≠0 then A9e rows 0 r c else if s=[]∨200<(s.length:Int)then 2 else 0
def fnO(rows:Option (List Row))(s:List UInt8)(r c:Int):Option Int:=if fnE rows s r c=0 then fdS rows (O7 rows) s (r*O7 rows+c)else none
def fnR(rows:Option (List Row))(s:List UInt8)(r c:Int):Int:=match fnO rows s r c with
 | some j=>j / O7 rows
 | none=>0
def fnC(rows:Option (List Row))(s:List UInt8)(r c:Int):Int:=match fnO rows s r c with
 | some j=>j%O7 rows
 | none=>0
def fnU(rows:Option (List Row))(s:List UInt8)(r c:Int):List U:=[.int .i64 (fnR rows s r c),.int .i64 (fnC rows s r c),.bool (fnO rows s r c).isSome,.int .i64 (fnE rows s r c)]
theorem V0{rows:Option (List Row)}{s:List UInt8}{r c:Int}(h:A9e rows 0 r c≠0):fnE rows s r c=A9e rows 0 r c:=if_pos h
theorem A1C{rows:Option (List Row)}{s:List UInt8}{r c:Int}(h:A9e rows 0 r c=0)(h2:s=[]∨200<(s.length:Int)):fnE rows s r c=2:=by unfold fnE;rw[if_neg (fun q=>q h),if_pos h2]
theorem U9{rows:Option (List Row)}{s:List UInt8}{r c:Int}(h:A9e rows 0 r c=0)(h2:¬s=[])(h3:¬200<(s.length:Int)):fnE rows s r c=0:=by unfold fnE;rw[if_neg (fun q=>q h),if_neg (fun q=>q.elim h2 h3)]
theorem M8{rows:Option (List Row)}{s:List UInt8}{r c e:Int}(h:fnE rows s r c=e)(he:e≠0):[U.int .i64 0,U.int .i64 0,U.bool false,U.int .i64 e]=fnU rows s r c:=by
 unfold fnU fnR fnC fnO;rw[h,if_neg he];rfl
theorem A1B{rows:Option (List Row)}{s:List UInt8}{r c w:Int}(hw:O7 rows=w)(h:fnE rows s r c=0)(h2:fdS rows w s (r*w+c)=none):[U.int .i64 0,U.int .i64 0,U.bool false,U.int .i64 0]=fnU rows s r c:=by
 subst hw;unfold fnU fnR fnC fnO;rw[h,if_pos rfl,h2];rfl
theorem A1A{rows:Option (List Row)}{s:List UInt8}{r c w j:Int}(hw:O7 rows=w)(h:fnE rows s r c=0)(h2:fdS rows w s (r*w+c)=some j):[U.int .i64 (j / w),U.int .i64 (j%w),U.bool true,U.int .i64 0]=fnU rows s r c:=by
 subst hw;unfold fnU fnR fnC fnO;rw[h,if_pos rfl,h2];rfl
theorem C0R{r n w c:Int}(h0:0≤r)(h1:r<n)(h2:0≤c)(h3:c≤w)(hw:2≤w∧w≤80)(hn:n≤140):0≤r*w∧r*w+c≤n*w∧n*w≤11200:=by
 have a:(r+1)*w≤n*w:=P3 (by omega) (by omega);rw[Int.add_mul,Int.one_mul]at a;have b:=A7Z (a:=n) (b:=w) (A:=140) (B:=80) (by omega) (by omega) (by omega) (by omega);have d:=Int.mul_nonneg h0 (show(0:Int)≤w by omega);omega
theorem B6q{s:List UInt8}(h:¬s=[]):1≤s.length:=by cases s with
 | nil=>exact absurd rfl h
 | cons a r=>simp
noncomputable def C70:List (FuncId×FnC):=(61,M5 Tryd.prog [.s 12] A2S [.s 3])::(45,M5 Tryd.prog [.s 12,.s 3] A8J [.s 3,.s 3])::(64,M5 Tryd.prog [.s 3] A0m [.s 9])::L0
theorem C2h{G:Nat→Option Obj}(hst:B9 Tryd.prog G gl H0 n0):H6 Tryd.prog G gl C70:=(.cons (A5g hst) (.cons (C0s hst) (.cons (A6u hst) .nil)))
def x4:List U→Option (Nat×List U)
 | [u_rows,.str s,.int .i64 r,.int .i64 c]=>(L6 rRw u_rows).bind fun rows=>if A4C rows then some (0,[.int .i64 (fnR rows s r c),.int .i64 (fnC rows s r c),.bool ((fnO rows s r c).isSome),.int .i64 (fnE rows s r c)])else none
 | _=>none
theorem Z2(rows:(Option (List ((Option (List (Int×Int×Int×Int×Int×Int×Int×Int×Int×Int×Int×Int)))×Bool))))(s:(List UInt8))(r:Int)(c:Int)(hc:A4C rows):x4 [B3 rRw rows,.str s,.int .i64 r,.int .i64 c]=some (0,[.int .i64 (fnR rows s r c),.int .i64 (fnC rows s r c),.bool ((fnO rows s r c).isSome),.int .i64 (fnE rows s r c)]):=by
 simp only[x4,E5,D3];exact if_pos hc
def C6r:Tr:=.fn A2S [h 0 12] 1<|.lt 8 (.bin .neq) [h 4 3,jI 0]<|.br 5 (.lt 8 (.bin .neq) [h 4 3,jI 0]<|.br 6 (.ret [jI 0,jI 0,.bool false,h 4 3]) (.no)) (.lt 8 (.inbs 2) [jI 0,h 0 12]<|.br 6 (.dt 22 (.get 2 0) [h 0 12,jI 0]<|.lt 3 (.len) [h 7 22]<|.lt 3 (.bin .sub) [h 8 3,jI 0]<|.lt 8 (.bin .geq) [h 2 3,jI 0]<|.br 10 (.lt 3 (.len) [h 0 12]<|.lt 8 (.bin .lss) [h 2 3,h 11 3]<|.br 12 (.lt 8 (.bin .geq) [h 3 3,jI 0]<|.br 13 (.lt 8 (.bin .leq) [h 3 3,h 9 3]<|.lt 8 (.un .not) [h 14 8]<|.br 15 (.ret [jI 0,jI 0,.bool false,jI 2]) (.lt 8 (.bin .eql) [h 1 9,.string ⟨⟨[]⟩⟩]<|.br 16 (.ret [jI 0,jI 0,.bool false,jI 2]) (.lt 3 (.len) [h 1 9]<|.lt 8 (.bin .gtr) [h 17 3,jI 200]<|.br 18 (.ret [jI 0,jI 0,.bool false,jI 2]) (.lt 3 (.bin .sub) [h 11 3,jI 1]<|.lt 8 (.inbs 2) [jI 0,h 0 12]<|.br 20 (.dt 22 (.get 2 0) [h 0 12,jI 0]<|.lt 3 (.len) [h 21 22]<|.lt 3 (.bin .mul) [h 2 3,h 22 3]<|.lt 3 (.bin .add) [h 23 3,h 3 3]<|.lp A9u [h 24 3,h 19 3,h 22 3,h 0 12,h 1 9] 0 0 (.ret [jI 0,jI 0,.bool false,jI 0]) (.lp A9u [h 24 3,h 19 3,h 22 3,h 0 12,h 1 9] 1 2 (.ret [h 25 3,h 26 3,.bool true,jI 0]) (.no))) (.no))))) (.ret [jI 0,jI 0,.bool false,jI 2])) (.ret [jI 0,jI 0,.bool false,jI 2])) (.ret [jI 0,jI 0,.bool false,jI 2])) (.no))
theorem D0A{G:Nat→Option Obj}(hst:B9 Tryd.prog G gl H0 n0):S1 Tryd.prog G 20 [.s 12,.s 9,.a [3,3]] x4 [.a [3,3],.s 8,.s 3]:=by
 refine G6 (C:=cx C70 C8F) (d:=60) C6r (cxg (C2h hst) (C2_ hst)) hst ⟨Tryd.f20,_,Tryd.func20,rfl⟩ (by kernel_rfl) (by kernel_rfl) ?_;intro us outs hs;unfold x4 at hs;split at hs
 ·skip;rename_i u_rows s r c;have hq_rows:=A9.1 hs;clear hs;obtain⟨rows,hd_rows,hs⟩:=hq_rows;replace hd_rows:=H5 hd_rows;subst hd_rows;split at hs
  ·rename_i hc;cases hs;have qd:=B2x rows;unfold C6r;refine s0 (.cons 3 _ (.cons 2 _ (.cons 1 _ (.cons 0 _ (.nil))))) rfl (by simp[Ev.ok,Ev.len]) ?_;refine s31 (C3f _ hc) rfl ?_;refine s1 (I0 _ _ _) rfl rfl rfl ?_;refine s4 rfl (fun g0=>?_) fun g0=>?_
   ·refine s1 (I0 _ _ _) rfl rfl rfl ?_;refine s4 rfl (fun g1=>?_) fun g1=>?_
    ·refine s7 [.int .i64 _,.int .i64 _,.bool _,.int .i64 _] rfl ?_;first|exact M8 ((V0 (by rw[U8 ‹_›];assumption)).trans (U8 ‹_›)) ‹_›|exact M8 ((V0 (by rw[U7 ‹_› (by omega)];decide)).trans (U7 ‹_› (by omega))) (by decide)|exact M8 (A1C (M7 ‹_› (by omega)) (by first|exact .inl ‹_›|exact .inr ‹_›)) (by decide)|exact A1B qd.2 (U9 (M7 ‹_› (by omega)) ‹_› ‹_›) ‹_›|exact A1A qd.2 (U9 (M7 ‹_› (by omega)) ‹_› ‹_›) ‹_›
    refine s8 ?_;first|omega
   refine s1 (D6 rfl) rfl rfl rfl ?_;refine s5 rfl (fun g1=>?_) fun g1=>?_
   ·refine s8 ?_;first|omega
   refine s2 (r:=rCl) (B0 rfl (by omega) (by omega) rfl) rfl rfl ?_;refine s1 (F7 _ _) rfl rfl rfl ?_;first|refine s1 (X9 (B4 (by omega) (by omega))) rfl rfl rfl ?_|refine s1 (m5 _ _ _) rfl rfl rfl ?_
   refine s1 (Q3 _ _ _) rfl rfl rfl ?_;refine s5 rfl (fun g2=>?_) fun g2=>?_
   ·refine s7 [.int .i64 _,.int .i64 _,.bool _,.int .i64 _] rfl ?_;first|exact M8 ((V0 (by rw[U8 ‹_›];assumption)).trans (U8 ‹_›)) ‹_›|exact M8 ((V0 (by rw[U7 ‹_› (by omega)];decide)).trans (U7 ‹_› (by omega))) (by decide)|exact M8 (A1C (M7 ‹_› (by omega)) (by first|exact .inl ‹_›|exact .inr ‹_›)) (by decide)|exact A1B qd.2 (U9 (M7 ‹_› (by omega)) ‹_› ‹_›) ‹_›|exact A1A qd.2 (U9 (M7 ‹_› (by omega)) ‹_› ‹_›) ‹_›
   refine s1 (F7 _ _) rfl rfl rfl ?_;refine s1 (F0 _ _ _) rfl rfl rfl ?_;refine s5 rfl (fun g3=>?_) fun g3=>?_
   ·refine s7 [.int .i64 _,.int .i64 _,.bool _,.int .i64 _] rfl ?_;first|exact M8 ((V0 (by rw[U8 ‹_›];assumption)).trans (U8 ‹_›)) ‹_›|exact M8 ((V0 (by rw[U7 ‹_› (by omega)];decide)).trans (U7 ‹_› (by omega))) (by decide)|exact M8 (A1C (M7 ‹_› (by omega)) (by first|exact .inl ‹_›|exact .inr ‹_›)) (by decide)|exact A1B qd.2 (U9 (M7 ‹_› (by omega)) ‹_› ‹_›) ‹_›|exact A1A qd.2 (U9 (M7 ‹_› (by omega)) ‹_› ‹_›) ‹_›
   refine s1 (Q3 _ _ _) rfl rfl rfl ?_;refine s5 rfl (fun g4=>?_) fun g4=>?_
   ·refine s7 [.int .i64 _,.int .i64 _,.bool _,.int .i64 _] rfl ?_;first|exact M8 ((V0 (by rw[U8 ‹_›];assumption)).trans (U8 ‹_›)) ‹_›|exact M8 ((V0 (by rw[U7 ‹_› (by omega)];decide)).trans (U7 ‹_› (by omega))) (by decide)|exact M8 (A1C (M7 ‹_› (by omega)) (by first|exact .inl ‹_›|exact .inr ‹_›)) (by decide)|exact A1B qd.2 (U9 (M7 ‹_› (by omega)) ‹_› ‹_›) ‹_›|exact A1A qd.2 (U9 (M7 ‹_› (by omega)) ‹_› ‹_›) ‹_›
   refine s1 (t5 _ _ _) rfl rfl rfl ?_;refine s1 (M4 _) rfl rfl rfl ?_;refine s4 rfl (fun g5=>?_) fun g5=>?_
   ·refine s7 [.int .i64 _,.int .i64 _,.bool _,.int .i64 _] rfl ?_;first|exact M8 ((V0 (by rw[U8 ‹_›];assumption)).trans (U8 ‹_›)) ‹_›|exact M8 ((V0 (by rw[U7 ‹_› (by omega)];decide)).trans (U7 ‹_› (by omega))) (by decide)|exact M8 (A1C (M7 ‹_› (by omega)) (by first|exact .inl ‹_›|exact .inr ‹_›)) (by decide)|exact A1B qd.2 (U9 (M7 ‹_› (by omega)) ‹_› ‹_›) ‹_›|exact A1A qd.2 (U9 (M7 ‹_› (by omega)) ‹_› ‹_›) ‹_›
   refine s1 (A6C _ _) rfl rfl rfl ?_;refine s4 rfl (fun g6=>?_) fun g6=>?_
   ·refine s7 [.int .i64 _,.int .i64 _,.bool _,.int .i64 _] rfl ?_;first|exact M8 ((V0 (by rw[U8 ‹_›];assumption)).trans (U8 ‹_›)) ‹_›|exact M8 ((V0 (by rw[U7 ‹_› (by omega)];decide)).trans (U7 ‹_› (by omega))) (by decide)|exact M8 (A1C (M7 ‹_› (by omega)) (by first|exact .inl ‹_›|exact .inr ‹_›)) (by decide)|exact A1B qd.2 (U9 (M7 ‹_› (by omega)) ‹_› ‹_›) ‹_›|exact A1A qd.2 (U9 (M7 ‹_› (by omega)) ‹_› ‹_›) ‹_›
   refine s1 (Q2 _) rfl rfl rfl ?_;refine s1 (Y8 _ _ _) rfl rfl rfl ?_;refine s4 rfl (fun g7=>?_) fun g7=>?_
   ·refine s7 [.int .i64 _,.int .i64 _,.bool _,.int .i64 _] rfl ?_;first|exact M8 ((V0 (by rw[U8 ‹_›];assumption)).trans (U8 ‹_›)) ‹_›|exact M8 ((V0 (by rw[U7 ‹_› (by omega)];decide)).trans (U7 ‹_› (by omega))) (by decide)|exact M8 (A1C (M7 ‹_› (by omega)) (by first|exact .inl ‹_›|exact .inr ‹_›)) (by decide)|exact A1B qd.2 (U9 (M7 ‹_› (by omega)) ‹_› ‹_›) ‹_›|exact A1A qd.2 (U9 (M7 ‹_› (by omega)) ‹_› ‹_›) ‹_›
   have pb:=C0R (r:=r) (n:=((el rows).length:Int)) (w:=((el ((el rows).getD (0:Int).toNat default).1).length:Int)) (c:=c) (by omega) (by omega) (by omega) (by omega) (by omega) (by omega);have ls:=B6q ‹_›;first|refine s1 (X9 (B4 (by omega) (by omega))) rfl rfl rfl ?_|refine s1 (m5 _ _ _) rfl rfl rfl ?_
   refine s1 (D6 rfl) rfl rfl rfl ?_;refine s5 rfl (fun g8=>?_) fun g8=>?_
   ·refine s8 ?_;first|omega
   refine s2 (r:=rCl) (B0 rfl (by omega) (by omega) rfl) rfl rfl ?_;refine s1 (F7 _ _) rfl rfl rfl ?_;first|refine s1 (A17 (B4 (by omega) (by omega))) rfl rfl rfl ?_|refine s1 (A3B _ _ _) rfl rfl rfl ?_
   first|refine s1 (B6 (B4 (by omega) (by omega))) rfl rfl rfl ?_|refine s1 (C3 _ _ _) rfl rfl rfl ?_
   refine s6 (y4 _ _ _ _ _ ⟨by omega,qd.2.symm,by omega,by omega,by omega,ls,by omega⟩) rfl (fun _=>rfl) (fun g9=>?_) (fun v9 g9=>?_)
   ·show Tr.sav _ _ _;refine s7 [.int .i64 _,.int .i64 _,.bool _,.int .i64 _] rfl ?_;first|exact M8 ((V0 (by rw[U8 ‹_›];assumption)).trans (U8 ‹_›)) ‹_›|exact M8 ((V0 (by rw[U7 ‹_› (by omega)];decide)).trans (U7 ‹_› (by omega))) (by decide)|exact M8 (A1C (M7 ‹_› (by omega)) (by first|exact .inl ‹_›|exact .inr ‹_›)) (by decide)|exact A1B qd.2 (U9 (M7 ‹_› (by omega)) ‹_› ‹_›) ‹_›|exact A1A qd.2 (U9 (M7 ‹_› (by omega)) ‹_› ‹_›) ‹_›
   show Tr.sav _ _ (.cons 26 _ (.cons 25 _ _));refine s7 [.int .i64 _,.int .i64 _,.bool _,.int .i64 _] rfl ?_;first|exact M8 ((V0 (by rw[U8 ‹_›];assumption)).trans (U8 ‹_›)) ‹_›|exact M8 ((V0 (by rw[U7 ‹_› (by omega)];decide)).trans (U7 ‹_› (by omega))) (by decide)|exact M8 (A1C (M7 ‹_› (by omega)) (by first|exact .inl ‹_›|exact .inr ‹_›)) (by decide)|exact A1B qd.2 (U9 (M7 ‹_› (by omega)) ‹_› ‹_›) ‹_›|exact A1A qd.2 (U9 (M7 ‹_› (by omega)) ‹_› ‹_›) ‹_›
  ·cases hs
 ·cases hs
def acN(f:Int→List UInt8)(hi:Int)(L:Nat):Nat→Int→List UInt8→List UInt8
 | 0,_,t=>t
 | m+1,n,t=>if n<hi∧t.length<L then acN f hi L m (n+1) (t++f n)else t
def acS(f:Int→List UInt8)(hi:Int)(L:Nat)(n:Int)(t:List UInt8):List UInt8:=acN f hi L (hi-n).toNat n t
section
variable {f:Int→List UInt8} {hi n:Int} {L:Nat} {t:List UInt8}
theorem C1y(h:¬n<hi∨¬(t.length:Int)<L):acS f hi L n t=t:=by
 unfold acS;cases e:(hi-n).toNat with
 | zero=>rfl
 | succ m=>rw[acN,if_neg (by omega)]
theorem D0Z(h:n<hi)(h2:(t.length:Int)<L):acS f hi L n t=acS f hi L (n+1) (t++f n):=by
 unfold acS;rw[show(hi-n).toNat=(hi-(n+1)).toNat+1 by omega,acN,if_pos (by omega)]
theorem B7U:∀ (m:Nat) (n:Int) (t:List UInt8),∃ z,acN f hi L m n t=t++z
 | 0,_,t=>⟨[],by rw[B8];rfl⟩
 | m+1,n,t=>by
   unfold acN;split
   ·obtain⟨z,hz⟩:=B7U m (n+1) (t++f n);exact⟨f n++z,by rw[hz,C9]⟩
   ·exact⟨[],by rw[B8]⟩
theorem C7O:∀ (m:Nat) (k:Int) (u t:List UInt8),1≤t.length→((u.length+t.length≤(acN f hi (u.length+t.length) m k u).length∧(acN f hi (u.length+t.length) m k u).take (u.length+t.length)=u++t)↔mtN f hi m k t=1)
 | 0,k,u,t,h=>by
   constructor
   ·intro q;have:=q.1;unfold acN at this;omega
   ·intro q;cases q
 | m+1,k,u,t,h=>by
   by_cases hk:hi≤k
   ·have e:acN f hi (u.length+t.length) (m+1) k u=u:=by rw[acN,if_neg (by omega)]
    rw[e,mtN,if_pos hk];constructor
    ·intro q;omega
    ·intro q;cases q
   ·have e:acN f hi (u.length+t.length) (m+1) k u=acN f hi (u.length+t.length) m (k+1) (u++f k):=by rw[acN,if_pos (by omega)]
    rw[e,mtN,if_neg hk];by_cases hl:t.length≤(f k).length
    ·rw[if_pos hl];have e2:acN f hi (u.length+t.length) m (k+1) (u++f k)=u++f k:=by
      cases m with
      | zero=>rfl
      | succ m=>rw[acN,if_neg (by rw[A0];omega)]
     rw[e2,A0,A3Y,p8 (by omega),show u.length+t.length-u.length=t.length by omega];constructor
     ·intro q;rw[if_pos (A3a q.2)]
     ·intro q;by_cases q2:(f k).take t.length=t
      ·exact⟨by omega,by rw[q2]⟩
      ·rw[if_neg q2]at q;cases q
    ·rw[if_neg hl];by_cases q2:t.take (f k).length=f k
     ·rw[if_pos q2];have ht:t=f k++t.drop (f k).length:=by
       have:=(t7 (f k).length t).symm;rw[q2]at this;exact this
      have hd:(t.drop (f k).length).length=t.length-(f k).length:=P2 ..;have ih:=C7O m (k+1) (u++f k) (t.drop (f k).length) (by omega);have e3:(u++f k).length+(t.drop (f k).length).length=u.length+t.length:=by rw[A0,hd];omega
      rw[e3,C9,← ht]at ih;exact ih
     ·rw[if_neg q2];constructor
      ·intro q;obtain⟨z,hz⟩:=B7U (f:=f) (hi:=hi) (L:=u.length+t.length) m (k+1) (u++f k);exfalso;have q:=q.2;rw[hz,C9,A3Y,p8 (by omega),show u.length+t.length-u.length=t.length by omega]at q;have q:=A3a q;refine q2 ?_;rw[← q,List.take_take,A3Y,show min (f k).length t.length=(f k).length by omega];simp
      ·intro q;cases q
theorem C9t(h:1≤t.length):(t.length≤(acS f hi t.length n []).length∧(acS f hi t.length n []).take t.length=t)↔mtS f hi n t=1:=by
 have:=C7O (f:=f) (hi:=hi) (hi-n).toNat n [] t h
 simpa [acS,mtS]using this
end
theorem C8_(rows:Option (List Row))(cols k:Int):(ctK rows cols k).length≤12:=A04 _
noncomputable def C7p:List (FuncId×FnC):=(36,M5 Tryd.prog [.s 12] A4T [.s 8])::(46,M5 Tryd.prog [.s 12,.s 3] A8C [.s 3,.s 3])::(51,M5 Tryd.prog [.a [3,3,3,3,3,3,3,3,3,3,3,3]] A5d [.s 9])::L0
theorem C2T{G:Nat→Option Obj}(hst:B9 Tryd.prog G gl H0 n0):H6 Tryd.prog G gl C7p:=(.cons (B3g hst) (.cons (B9y hst) (.cons (B3e hst) .nil)))
def B1H:List U→Option (Nat×List U)
 | [u_rows,.str s,.int .i64 cols,.int .i64 k,.int .i64 last,.str t,.int .i64 n,.int .i64 fr,.int .i64 fc]=>(L6 rRw u_rows).bind fun rows=>if Y4 rows=0∧cols=O7 rows∧0≤last∧last<((el rows).length:Int)∧0≤n∧n≤(last+1)*cols∧s.length≤200∧t.length≤212 then some (0,[B3 rRw rows,.str s,.int .i64 cols,.int .i64 k,.str (acS (ctK rows cols) ((last+1)*cols) s.length n t),.int .i64 fr,.int .i64 fc])else none
 | _=>none
theorem A6q(rows:(Option (List ((Option (List (Int×Int×Int×Int×Int×Int×Int×Int×Int×Int×Int×Int)))×Bool))))(s:(List UInt8))(cols:Int)(k:Int)(last:Int)(t:(List UInt8))(n:Int)(fr:Int)(fc:Int)(hc:Y4 rows=0∧cols=O7 rows∧0≤last∧last<((el rows).length:Int)∧0≤n∧n≤(last+1)*cols∧s.length≤200∧t.length≤212):B1H [B3 rRw rows,.str s,.int .i64 cols,.int .i64 k,.int .i64 last,.str t,.int .i64 n,.int .i64 fr,.int .i64 fc]=some (0,[B3 rRw rows,.str s,.int .i64 cols,.int .i64 k,.str (acS (ctK rows cols) ((last+1)*cols) s.length n t),.int .i64 fr,.int .i64 fc]):=by
 simp only[B1H,E5,D3];exact if_pos hc
def C6H:P8:=⟨[(0,dat 6 0 12),(1,h 1 9),(6,.pointer (some ⟨5,0,none⟩)),(9,h 2 3),(10,h 3 3),(12,h 4 3),(13,h 5 9),(14,h 6 3)],[(5,.cells 29 [h 7 3,h 8 3]),(6,.frz)],9,[⟨.exit 2,[(0,dat 7 0 12),(1,h 1 9),(6,.pointer (some ⟨5,0,none⟩)),(9,h 2 3),(10,h 3 3),(13,h 4 9)],[(5,.cells 29 [h 5 3,h 6 3]),(7,.frz)],7⟩]⟩
noncomputable def C0D:Code:=(Tryd.f21.body).getD .skip
noncomputable def C6D:Code:=match F2 [true,true,true,true,false,true,false,false,true,false,false,true,true,true,false,true,false] C0D with|some (.loop x)=>x|_=>.skip
theorem C6G:Tryd.f21.body=some C0D:=rfl
theorem C6F:F2 [true,true,true,true,false,true,false,false,true,false,false,true,true,true,false,true,false] C0D=some (.loop C6D):=by kernel_rfl
def C6E:Tr:=.lt 3 (.bin .add) [h 4 3,jI 1]<|.lt 3 (.bin .mul) [h 9 3,h 2 3]<|.lt 8 (.bin .lss) [h 6 3,h 10 3]<|.br 11 (.lt 3 (.len) [h 5 9]<|.lt 3 (.len) [h 1 9]<|.lt 8 (.bin .lss) [h 12 3,h 13 3]<|.br 14 (.lt 3 (.bin .quo) [h 6 3,h 2 3]<|.lt 8 (.inbs 2) [h 15 3,h 0 12]<|.br 16 (.dt 22 (.get 2 0) [h 0 12,h 15 3]<|.lt 3 (.bin .rem) [h 6 3,h 2 3]<|.lt 8 (.inbs 12) [h 18 3,h 17 22]<|.br 19 (.lt 3 (.get 12 0) [h 17 22,h 18 3]<|.lt 3 (.get 12 1) [h 17 22,h 18 3]<|.lt 3 (.get 12 2) [h 17 22,h 18 3]<|.lt 3 (.get 12 3) [h 17 22,h 18 3]<|.lt 3 (.get 12 4) [h 17 22,h 18 3]<|.lt 3 (.get 12 5) [h 17 22,h 18 3]<|.lt 3 (.get 12 6) [h 17 22,h 18 3]<|.lt 3 (.get 12 7) [h 17 22,h 18 3]<|.lt 3 (.get 12 8) [h 17 22,h 18 3]<|.lt 3 (.get 12 9) [h 17 22,h 18 3]<|.lt 3 (.get 12 10) [h 17 22,h 18 3]<|.lt 3 (.get 12 11) [h 17 22,h 18 3]<|.fn A5d [h 20 3,h 21 3,h 22 3,h 23 3,h 24 3,h 25 3,h 26 3,h 27 3,h 28 3,h 29 3,h 30 3,h 31 3] 1<|.lt 9 (.bin .add) [h 5 9,h 32 9]<|.lt 3 (.bin .add) [h 6 3,jI 1]<|.ret [jI (-1),h 0 12,h 1 9,h 2 3,h 3 3,h 4 3,h 33 9,h 34 3,h 7 3,h 8 3]) (.no)) (.no)) (.ret [jI 0,h 0 12,h 1 9,h 2 3,h 3 3,h 5 9,h 7 3,h 8 3])) (.ret [jI 0,h 0 12,h 1 9,h 2 3,h 3 3,h 5 9,h 7 3,h 8 3])
def C0C:List U→Nat
 | [u_rows,.str s,.int .i64 cols,.int .i64 k,.int .i64 last,.str t,.int .i64 n,.int .i64 fr,.int .i64 fc]=>(match L6 rRw u_rows with|some rows=>((last+1)*cols-n).toNat|none=>0)
 | _=>0
theorem C0B(rows:(Option (List ((Option (List (Int×Int×Int×Int×Int×Int×Int×Int×Int×Int×Int×Int)))×Bool))))(s:(List UInt8))(cols:Int)(k:Int)(last:Int)(t:(List UInt8))(n:Int)(fr:Int)(fc:Int):C0C [B3 rRw rows,.str s,.int .i64 cols,.int .i64 k,.int .i64 last,.str t,.int .i64 n,.int .i64 fr,.int .i64 fc]=((last+1)*cols-n).toNat:=by
 simp only[C0C,E5]
theorem C9c{G:Nat→Option Obj}(hst:B9 Tryd.prog G gl H0 n0):∀ (E:Nat→U) (base:Nat),@M0 ⟨E,G⟩ Tryd.prog base gl Tryd.f21.ntmps C6D (J9 Tryd.prog gl n0 8 C6H B1H):=by
 refine O1 (C:=cx C7p []) (dep:=60) (f:=21) (n0:=n0) (nB:=8) (H0:=H0) C0C C6E (cxg (C2T hst) .nil) hst Tryd.func21 C6G C6F (by kernel_rfl) (by kernel_rfl) (by kernel_rfl) ?_;intro us d outs hs;have hs0:=hs;unfold B1H at hs;split at hs
 ·skip;rename_i u_rows s cols k last t n fr fc;have hq_rows:=A9.1 hs;clear hs;obtain⟨rows,hd_rows,hs⟩:=hq_rows;replace hd_rows:=H5 hd_rows;subst hd_rows;split at hs
  ·rename_i hc;clear hs hs0;have hc0:=A18 hc.1;have hl:=A1Z hc.1;have he:2≤cols∧cols≤80:=by rw[hc.2.1];exact hc0
   have m1:=A7Z (a:=last+1) (b:=cols) (A:=140) (B:=80) (by omega) (by omega) (by omega) (by omega);have m3:(last+1)*cols≤((el rows).length:Int)*cols:=P3 (by omega) (by omega);have hk:n<(last+1)*cols→0≤n / cols∧n / cols<((el rows).length:Int)∧0≤n%cols∧n%cols<cols:=fun b=>A8y (by omega) (by omega) (by omega)
   have hrl:0≤n / cols→n / cols<((el rows).length:Int)→((el ((el rows).getD (n / cols).toNat default).1).length:Int)=cols:=fun a b=>by rw[(hl.2.2 _ (a9 a b)).2,hc.2.1]
   have hct:=C8_ rows cols n;refine⟨rfl,?_⟩;unfold C6E;refine s0 (.cons 8 _ (.cons 7 _ (.cons 6 _ (.cons 5 _ (.cons 4 _ (.cons 3 _ (.cons 2 _ (.cons 1 _ (.cons 0 _ (.nil)))))))))) rfl (by simp[Ev.ok,Ev.len]) ?_;first|refine s1 (B6 (B4 (by omega) (by omega))) rfl rfl rfl ?_|refine s1 (C3 _ _ _) rfl rfl rfl ?_
   first|refine s1 (A17 (B4 (by omega) (by omega))) rfl rfl rfl ?_|refine s1 (A3B _ _ _) rfl rfl rfl ?_
   refine s1 (F0 _ _ _) rfl rfl rfl ?_;refine s5 rfl (fun g0=>?_) fun g0=>?_
   ·refine s7 [.int .i64 _,B3 rRw _,.str _,.int .i64 _,.int .i64 _,.str _,.int .i64 _,.int .i64 _] rfl ?_;refine C6 (d:=0) ?_;rw[A6q _ _ _ _ _ _ _ _ _ hc,C1y (by omega)]
   have hk:=hk g0;have hrl:=hrl hk.1 hk.2.1;refine s1 (Q2 _) rfl rfl rfl ?_;refine s1 (Q2 _) rfl rfl rfl ?_;refine s1 (F0 _ _ _) rfl rfl rfl ?_;refine s5 rfl (fun g1=>?_) fun g1=>?_
   ·refine s7 [.int .i64 _,B3 rRw _,.str _,.int .i64 _,.int .i64 _,.str _,.int .i64 _,.int .i64 _] rfl ?_;refine C6 (d:=0) ?_;rw[A6q _ _ _ _ _ _ _ _ _ hc,C1y (by omega)]
   first|refine s1 (R5 (by omega) (by omega) (B4 (by omega) (by omega))) rfl rfl rfl ?_|refine s1 (Y0 _ _ _ (by omega)) rfl rfl rfl ?_
   refine s1 (D6 rfl) rfl rfl rfl ?_;refine s5 rfl (fun g2=>?_) fun g2=>?_
   ·refine s8 ?_;first|omega
   refine s2 (r:=rCl) (B0 rfl (by omega) (by omega) rfl) rfl rfl ?_;first|refine s1 (P1 (by omega) (by omega)) rfl rfl rfl ?_|refine s1 (S5 _ _ _ (by omega)) rfl rfl rfl ?_
   refine s1 (D6 rfl) rfl rfl rfl ?_;refine s5 rfl (fun g3=>?_) fun g3=>?_
   ·refine s8 ?_;first|omega
   refine s1 (u:=.int .i64 _) (B0 rfl (by omega) (by omega) rfl) rfl rfl rfl ?_;refine s1 (u:=.int .i64 _) (B0 rfl (by omega) (by omega) rfl) rfl rfl rfl ?_;refine s1 (u:=.int .i64 _) (B0 rfl (by omega) (by omega) rfl) rfl rfl rfl ?_;refine s1 (u:=.int .i64 _) (B0 rfl (by omega) (by omega) rfl) rfl rfl rfl ?_;refine s1 (u:=.int .i64 _) (B0 rfl (by omega) (by omega) rfl) rfl rfl rfl ?_;refine s1 (u:=.int .i64 _) (B0 rfl (by omega) (by omega) rfl) rfl rfl rfl ?_;refine s1 (u:=.int .i64 _) (B0 rfl (by omega) (by omega) rfl) rfl rfl rfl ?_;refine s1 (u:=.int .i64 _) (B0 rfl (by omega) (by omega) rfl) rfl rfl rfl ?_;refine s1 (u:=.int .i64 _) (B0 rfl (by omega) (by omega) rfl) rfl rfl rfl ?_;refine s1 (u:=.int .i64 _) (B0 rfl (by omega) (by omega) rfl) rfl rfl rfl ?_;refine s1 (u:=.int .i64 _) (B0 rfl (by omega) (by omega) rfl) rfl rfl rfl ?_;refine s1 (u:=.int .i64 _) (B0 rfl (by omega) (by omega) rfl) rfl rfl rfl ?_;refine s31 (B6L _ _ _ _ _ _ _ _ _ _ _ _) rfl ?_;refine s1 (N9 _ _ (by show t.length+(ctK rows cols n).length≤_;omega)) rfl rfl rfl ?_;first|refine s1 (B6 (B4 (by omega) (by omega))) rfl rfl rfl ?_|refine s1 (C3 _ _ _) rfl rfl rfl ?_
   refine s7 [.int .i64 _,B3 rRw _,.str _,.int .i64 _,.int .i64 _,.int .i64 _,.str _,.int .i64 _,.int .i64 _,.int .i64 _] rfl ?_;refine B7 ?_ ?_
   ·rw[A6q _ _ _ _ _ _ _ _ _ hc,D0Z g0 (by omega)];exact A6q _ _ _ _ _ _ _ _ _ ⟨hc.1,hc.2.1,hc.2.2.1,hc.2.2.2.1,by omega,by omega,hc.2.2.2.2.2.2.1,by show(t++ctK rows cols n).length≤212;rw[A0];omega⟩
   ·rw[C0B,C0B];omega
  ·cases hs
 ·cases hs
noncomputable def C27:List LpE:=(21,([true,true,true,true,false,true,false,false,true,false,false,true,true,true,false,true,false],J9 Tryd.prog gl n0 8 C6H B1H))::[]
theorem B44{G:Nat→Option Obj}(hst:B9 Tryd.prog G gl H0 n0):V1 Tryd.prog G gl C27:=.cons Tryd.func21 C6G C6F (C9c hst) .nil
end Go.Proofs.YtdkdbjgkedahfaaDoor
namespace Go.Proofs.YtdkdbjgkedahfaaDoor
set_option linter.all false
open Go Go.Sx
set_option maxRecDepth 100000
set_option linter.unusedVariables false
set_option linter.unusedSimpArgs false
noncomputable def C7n:List (FuncId×FnC):=(36,M5 Tryd.prog [.s 12] A4T [.s 8])::(46,M5 Tryd.prog [.s 12,.s 3] A8C [.s 3,.s 3])::(51,M5 Tryd.prog [.a [3,3,3,3,3,3,3,3,3,3,3,3]] A5d [.s 9])::L0
theorem C2R{G:Nat→Option Obj}(hst:B9 Tryd.prog G gl H0 n0):H6 Tryd.prog G gl C7n:=(.cons (B3g hst) (.cons (B9y hst) (.cons (B3e hst) .nil)))
def A9T:List U→Option (Nat×List U)
 | [u_rows,.str s,.int .i64 cols,.int .i64 k,.int .i64 fr,.int .i64 fc]=>(L6 rRw u_rows).bind fun rows=>if Y4 rows=0∧cols=O7 rows∧0≤k∧k≤((el rows).length:Int)*cols∧1≤s.length∧s.length≤200 then i0 (fdS rows cols s k) [.int .i64 fr,.int .i64 fc] (fun j=>[.int .i64 (j / cols),.int .i64 (j%cols)])else none
 | _=>none
theorem A0W(rows:(Option (List ((Option (List (Int×Int×Int×Int×Int×Int×Int×Int×Int×Int×Int×Int)))×Bool))))(s:(List UInt8))(cols:Int)(k:Int)(fr:Int)(fc:Int)(hc:Y4 rows=0∧cols=O7 rows∧0≤k∧k≤((el rows).length:Int)*cols∧1≤s.length∧s.length≤200):A9T [B3 rRw rows,.str s,.int .i64 cols,.int .i64 k,.int .i64 fr,.int .i64 fc]=i0 (fdS rows cols s k) [.int .i64 fr,.int .i64 fc] (fun j=>[.int .i64 (j / cols),.int .i64 (j%cols)]):=by
 simp only[A9T,E5,D3];exact if_pos hc
def C58:P8:=⟨[(0,dat 6 0 12),(1,h 1 9),(6,.pointer (some ⟨5,0,none⟩)),(9,h 2 3),(10,h 3 3)],[(5,.cells 29 [h 4 3,h 5 3]),(6,.frz)],6,[⟨.exit 0,[(6,.pointer (some ⟨5,0,none⟩))],[(5,.cells 29 [h 0 3,h 1 3])],2⟩,⟨.ret,[(6,.pointer (some ⟨5,0,none⟩)),(7,.bool true),(8,.int .i64 (0))],[(5,.cells 29 [h 0 3,h 1 3])],2⟩]⟩
noncomputable def B99:Code:=(Tryd.f21.body).getD .skip
noncomputable def C54:Code:=match F2 [true,true,true,true,false,true,false] B99 with|some (.loop x)=>x|_=>.skip
theorem C57:Tryd.f21.body=some B99:=rfl
theorem C56:F2 [true,true,true,true,false,true,false] B99=some (.loop C54):=by kernel_rfl
def C55:Tr:=.lt 3 (.len) [h 0 12]<|.lt 3 (.bin .mul) [h 6 3,h 2 3]<|.lt 8 (.bin .lss) [h 3 3,h 7 3]<|.br 8 (.lt 3 (.bin .quo) [h 3 3,h 2 3]<|.lt 8 (.inbs 2) [h 9 3,h 0 12]<|.br 10 (.dt 22 (.get 2 0) [h 0 12,h 9 3]<|.lt 3 (.bin .rem) [h 3 3,h 2 3]<|.lt 8 (.inbs 12) [h 12 3,h 11 22]<|.br 13 (.lt 3 (.get 12 3) [h 11 22,h 12 3]<|.lt 8 (.bin .eql) [h 14 3,jI 2]<|.br 15 (.lt 3 (.bin .add) [h 3 3,jI 1]<|.ret [jI (-1),h 0 12,h 1 9,h 2 3,h 16 3,h 4 3,h 5 3]) (.lt 3 (.bin .quo) [h 3 3,h 2 3]<|.fn A8C [h 0 12,h 16 3] 2<|.fn B1H [h 0 12,h 1 9,h 2 3,h 3 3,h 18 3,.string ⟨⟨[]⟩⟩,h 3 3,h 4 3,h 5 3] 7<|.lt 3 (.len) [h 23 9]<|.lt 3 (.len) [h 20 9]<|.lt 8 (.bin .geq) [h 26 3,h 27 3]<|.br 28 (.lt 3 (.len) [h 20 9]<|.lt 9 (.sub) [h 23 9,jI 0,h 29 3]<|.lt 8 (.bin .eql) [h 30 9,h 20 9]<|.br 31 (.lt 3 (.bin .quo) [h 22 3,h 21 3]<|.lt 3 (.bin .rem) [h 22 3,h 21 3]<|.ret [jI 1,h 32 3,h 33 3]) (.lt 3 (.bin .add) [h 22 3,jI 1]<|.ret [jI (-1),h 19 12,h 20 9,h 21 3,h 32 3,h 24 3,h 25 3])) (.lt 3 (.bin .add) [h 22 3,jI 1]<|.ret [jI (-1),h 19 12,h 20 9,h 21 3,h 29 3,h 24 3,h 25 3]))) (.no)) (.no)) (.ret [jI 0,h 4 3,h 5 3])
def B98:List U→Nat
 | [u_rows,.str s,.int .i64 cols,.int .i64 k,.int .i64 fr,.int .i64 fc]=>(match L6 rRw u_rows with|some rows=>(((el rows).length:Int)*cols-k).toNat|none=>0)
 | _=>0
theorem A7U(rows:(Option (List ((Option (List (Int×Int×Int×Int×Int×Int×Int×Int×Int×Int×Int×Int)))×Bool))))(s:(List UInt8))(cols:Int)(k:Int)(fr:Int)(fc:Int):B98 [B3 rRw rows,.str s,.int .i64 cols,.int .i64 k,.int .i64 fr,.int .i64 fc]=(((el rows).length:Int)*cols-k).toNat:=by
 simp only[B98,E5]
theorem C9a{G:Nat→Option Obj}(hst:B9 Tryd.prog G gl H0 n0):∀ (E:Nat→U) (base:Nat),@M0 ⟨E,G⟩ Tryd.prog base gl Tryd.f21.ntmps C54 (J9 Tryd.prog gl n0 7 C58 A9T):=by
 refine O1 (C:=cx C7n C27) (dep:=60) (f:=21) (n0:=n0) (nB:=7) (H0:=H0) B98 C55 (cxg (C2R hst) (B44 hst)) hst Tryd.func21 C57 C56 (by kernel_rfl) (by kernel_rfl) (by kernel_rfl) ?_;intro us d outs hs;have hs0:=hs;unfold A9T at hs;split at hs
 ·skip;rename_i u_rows s cols k fr fc;have hq_rows:=A9.1 hs;clear hs;obtain⟨rows,hd_rows,hs⟩:=hq_rows;replace hd_rows:=H5 hd_rows;subst hd_rows;split at hs
  ·rename_i hc;clear hs hs0;have hc0:=A18 hc.1;have hl:=A1Z hc.1;have he:2≤cols∧cols≤80:=by rw[hc.2.1];exact hc0
   have m1:=A7Z (a:=((el rows).length:Int)) (b:=cols) (A:=140) (B:=80) (by omega) (by omega) (by omega) (by omega);have hk:k<((el rows).length:Int)*cols→0≤k / cols∧k / cols<((el rows).length:Int)∧0≤k%cols∧k%cols<cols:=fun b=>A8y (by omega) (by omega) (by omega)
   have hrl:0≤k / cols→k / cols<((el rows).length:Int)→((el ((el rows).getD (k / cols).toNat default).1).length:Int)=cols:=fun a b=>by rw[(hl.2.2 _ (a9 a b)).2,hc.2.1]
   have hdm:=B7F k cols;refine⟨rfl,?_⟩;unfold C55;refine s0 (.cons 5 _ (.cons 4 _ (.cons 3 _ (.cons 2 _ (.cons 1 _ (.cons 0 _ (.nil))))))) rfl (by simp[Ev.ok,Ev.len]) ?_;refine s1 (F7 _ _) rfl rfl rfl ?_;first|refine s1 (A17 (B4 (by omega) (by omega))) rfl rfl rfl ?_|refine s1 (A3B _ _ _) rfl rfl rfl ?_
   refine s1 (F0 _ _ _) rfl rfl rfl ?_;refine s5 rfl (fun g0=>?_) fun g0=>?_
   ·refine s7 [.int .i64 _,.int .i64 _,.int .i64 _] rfl ?_;refine C6 (d:=0) ?_;rw[A0W _ _ _ _ _ _ hc,B5q (by omega)];rfl
   have hk:=hk g0;have hrl:=hrl hk.1 hk.2.1;have lb:=B6p (l:=el rows) hk.1 hk.2.1;have m2:(k / cols+1)*cols≤(A0D (el rows) (k / cols)+1)*cols:=P3 (by omega) (by omega);have m3:(k / cols+1)*cols=k / cols*cols+cols:=(by rw[Int.add_mul,Int.one_mul]);have hmt:=C9t (f:=ctK rows cols) (hi:=(A0D (el rows) (k / cols)+1)*cols) (n:=k) hc.2.2.2.2.1;first|refine s1 (R5 (by omega) (by omega) (B4 (by omega) (by omega))) rfl rfl rfl ?_|refine s1 (Y0 _ _ _ (by omega)) rfl rfl rfl ?_
   refine s1 (D6 rfl) rfl rfl rfl ?_;refine s5 rfl (fun g1=>?_) fun g1=>?_
   ·refine s8 ?_;first|omega
   refine s2 (r:=rCl) (B0 rfl (by omega) (by omega) rfl) rfl rfl ?_;first|refine s1 (P1 (by omega) (by omega)) rfl rfl rfl ?_|refine s1 (S5 _ _ _ (by omega)) rfl rfl rfl ?_
   refine s1 (D6 rfl) rfl rfl rfl ?_;refine s5 rfl (fun g2=>?_) fun g2=>?_
   ·refine s8 ?_;first|omega
   refine s1 (u:=.int .i64 _) (B0 rfl (by omega) (by omega) rfl) rfl rfl rfl ?_;refine s1 (F4 _ _ _) rfl rfl rfl ?_;refine s4 rfl (fun g3=>?_) fun g3=>?_
   ·first|refine s1 (B6 (B4 (by omega) (by omega))) rfl rfl rfl ?_|refine s1 (C3 _ _ _) rfl rfl rfl ?_
    refine s7 [.int .i64 _,B3 rRw _,.str _,.int .i64 _,.int .i64 _,.int .i64 _,.int .i64 _] rfl ?_;refine B7 ?_ ?_
    ·rw[A0W _ _ _ _ _ _ hc];first|(rw[B8H g0 ‹_›];exact A0W _ _ _ _ _ _ ⟨hc.1,hc.2.1,by omega,by omega,hc.2.2.2.2⟩)|(rw[B8I g0 (fun q=>by have q:=hmt.2 q;first|omega|exact absurd q.2 ‹_›)];exact A0W _ _ _ _ _ _ ⟨hc.1,hc.2.1,by omega,by omega,hc.2.2.2.2⟩)
    ·rw[A7U,A7U];omega
   first|refine s1 (R5 (by omega) (by omega) (B4 (by omega) (by omega))) rfl rfl rfl ?_|refine s1 (Y0 _ _ _ (by omega)) rfl rfl rfl ?_
   refine s32 (C3Y _ _ ⟨by omega,by omega,by omega⟩) rfl rfl ?_;refine s3 (A6q _ _ _ _ _ [] _ _ _ ⟨hc.1,hc.2.1,by omega,by omega,by omega,by omega,hc.2.2.2.2.2,A43 _⟩) rfl ?_;show Tr.sav _ _ (.cons 25 _ (.cons 24 _ (.cons 23 _ (.cons 22 _ (.cons 21 _ (.cons 20 _ (.cons 19 _ _)))))));refine s1 (Q2 _) rfl rfl rfl ?_;refine s1 (Q2 _) rfl rfl rfl ?_;refine s1 (Q3 _ _ _) rfl rfl rfl ?_;refine s4 rfl (fun g4=>?_) fun g4=>?_
   ·refine s1 (Q2 _) rfl rfl rfl ?_;refine s1 (A2y _ _ _ _ _ (by omega) (by omega) (by omega)) rfl rfl rfl ?_;refine s1 (A6C _ _) rfl rfl rfl ?_;refine s4 rfl (fun g5=>?_) fun g5=>?_
    ·first|refine s1 (R5 (by omega) (by omega) (B4 (by omega) (by omega))) rfl rfl rfl ?_|refine s1 (Y0 _ _ _ (by omega)) rfl rfl rfl ?_
     first|refine s1 (P1 (by omega) (by omega)) rfl rfl rfl ?_|refine s1 (S5 _ _ _ (by omega)) rfl rfl rfl ?_
     refine s7 [.int .i64 _,.int .i64 _,.int .i64 _] rfl ?_;refine C6 (d:=1) ?_;rw[A0W _ _ _ _ _ _ hc,D0B g0 ‹_› (hmt.1 ⟨by omega,by assumption⟩)];rfl
    first|refine s1 (B6 (B4 (by omega) (by omega))) rfl rfl rfl ?_|refine s1 (C3 _ _ _) rfl rfl rfl ?_
    refine s7 [.int .i64 _,B3 rRw _,.str _,.int .i64 _,.int .i64 _,.int .i64 _,.int .i64 _] rfl ?_;refine B7 ?_ ?_
    ·rw[A0W _ _ _ _ _ _ hc];first|(rw[B8H g0 ‹_›];exact A0W _ _ _ _ _ _ ⟨hc.1,hc.2.1,by omega,by omega,hc.2.2.2.2⟩)|(rw[B8I g0 (fun q=>by have q:=hmt.2 q;first|omega|exact absurd q.2 ‹_›)];exact A0W _ _ _ _ _ _ ⟨hc.1,hc.2.1,by omega,by omega,hc.2.2.2.2⟩)
    ·rw[A7U,A7U];omega
   first|refine s1 (B6 (B4 (by omega) (by omega))) rfl rfl rfl ?_|refine s1 (C3 _ _ _) rfl rfl rfl ?_
   refine s7 [.int .i64 _,B3 rRw _,.str _,.int .i64 _,.int .i64 _,.int .i64 _,.int .i64 _] rfl ?_;refine B7 ?_ ?_
   ·rw[A0W _ _ _ _ _ _ hc];first|(rw[B8H g0 ‹_›];exact A0W _ _ _ _ _ _ ⟨hc.1,hc.2.1,by omega,by omega,hc.2.2.2.2⟩)|(rw[B8I g0 (fun q=>by have q:=hmt.2 q;first|omega|exact absurd q.2 ‹_›)];exact A0W _ _ _ _ _ _ ⟨hc.1,hc.2.1,by omega,by omega,hc.2.2.2.2⟩)
   ·rw[A7U,A7U];omega
  ·cases hs
 ·cases hs
noncomputable def C8C:List LpE:=(21,([true,true,true,true,false,true,false],J9 Tryd.prog gl n0 7 C58 A9T))::C27
theorem C25{G:Nat→Option Obj}(hst:B9 Tryd.prog G gl H0 n0):V1 Tryd.prog G gl C8C:=.cons Tryd.func21 C57 C56 (C9a hst) (B44 hst)
noncomputable def C2U:List (FuncId×FnC):=(36,M5 Tryd.prog [.s 12] A4T [.s 8])::(46,M5 Tryd.prog [.s 12,.s 3] A8C [.s 3,.s 3])::(51,M5 Tryd.prog [.a [3,3,3,3,3,3,3,3,3,3,3,3]] A5d [.s 9])::L0
theorem B8a{G:Nat→Option Obj}(hst:B9 Tryd.prog G gl H0 n0):H6 Tryd.prog G gl C2U:=(.cons (B3g hst) (.cons (B9y hst) (.cons (B3e hst) .nil)))
def Y6:List U→Option (Nat×List U)
 | [u_rows,.str s,.int .i64 r,.int .i64 c]=>(L6 rRw u_rows).bind fun rows=>some (0,[.int .i64 (fnR rows s r c),.int .i64 (fnC rows s r c),.bool ((fnO rows s r c).isSome),.int .i64 (fnE rows s r c)])
 | _=>none
theorem S8(rows:(Option (List ((Option (List (Int×Int×Int×Int×Int×Int×Int×Int×Int×Int×Int×Int)))×Bool))))(s:(List UInt8))(r:Int)(c:Int):Y6 [B3 rRw rows,.str s,.int .i64 r,.int .i64 c]=some (0,[.int .i64 (fnR rows s r c),.int .i64 (fnC rows s r c),.bool ((fnO rows s r c).isSome),.int .i64 (fnE rows s r c)]):=by
 simp only[Y6,E5,D3]
def C0E:Tr:=.fn A4T [h 0 12] 1<|.lt 8 (.un .not) [h 4 8]<|.br 5 (.ret [jI 0,jI 0,.bool false,jI 420]) (.lt 8 (.bin .geq) [h 2 3,jI 0]<|.br 6 (.lt 3 (.len) [h 0 12]<|.lt 8 (.bin .lss) [h 2 3,h 7 3]<|.br 8 (.lt 8 (.bin .geq) [h 3 3,jI 0]<|.br 9 (.lt 8 (.inbs 2) [jI 0,h 0 12]<|.br 10 (.dt 22 (.get 2 0) [h 0 12,jI 0]<|.lt 3 (.len) [h 11 22]<|.lt 8 (.bin .leq) [h 3 3,h 12 3]<|.lt 8 (.un .not) [h 13 8]<|.br 14 (.ret [jI 0,jI 0,.bool false,jI 2]) (.lt 8 (.bin .eql) [h 1 9,.string ⟨⟨[]⟩⟩]<|.br 15 (.ret [jI 0,jI 0,.bool false,jI 2]) (.lt 3 (.len) [h 1 9]<|.lt 8 (.bin .gtr) [h 16 3,jI 200]<|.br 17 (.ret [jI 0,jI 0,.bool false,jI 2]) (.lt 8 (.inbs 2) [jI 0,h 0 12]<|.br 18 (.dt 22 (.get 2 0) [h 0 12,jI 0]<|.lt 3 (.len) [h 19 22]<|.lt 3 (.bin .mul) [h 2 3,h 20 3]<|.lt 3 (.bin .add) [h 21 3,h 3 3]<|.lp A9T [h 0 12,h 1 9,h 20 3,h 22 3,jI 0,jI 0] 0 2 (.ret [jI 0,jI 0,.bool false,jI 0]) (.lp A9T [h 0 12,h 1 9,h 20 3,h 22 3,jI 0,jI 0] 1 2 (.ret [h 23 3,h 24 3,.bool true,jI 0]) (.no))) (.no))))) (.no)) (.ret [jI 0,jI 0,.bool false,jI 2])) (.ret [jI 0,jI 0,.bool false,jI 2])) (.ret [jI 0,jI 0,.bool false,jI 2]))
theorem C8f{G:Nat→Option Obj}(hst:B9 Tryd.prog G gl H0 n0):S1 Tryd.prog G 21 [.s 12,.s 9,.a [3,3]] Y6 [.a [3,3],.s 8,.s 3]:=by
 refine G6 (C:=cx C2U C8C) (d:=60) C0E (cxg (B8a hst) (C25 hst)) hst ⟨Tryd.f21,_,Tryd.func21,rfl⟩ (by kernel_rfl) (by kernel_rfl) ?_;intro us outs hs;unfold Y6 at hs;split at hs
 ·skip;rename_i u_rows s r c;have hq_rows:=A9.1 hs;clear hs;obtain⟨rows,hd_rows,hs⟩:=hq_rows;replace hd_rows:=H5 hd_rows;subst hd_rows;cases hs;have qd:=B2x rows;have qe:=C1e rows;unfold C0E;refine s0 (.cons 3 _ (.cons 2 _ (.cons 1 _ (.cons 0 _ (.nil))))) rfl (by simp[Ev.ok,Ev.len]) ?_;refine s31 (B6M _) rfl ?_;first|refine s1 (M4 _) rfl rfl rfl ?_|refine s1 (K4 _) rfl rfl rfl ?_
  first|refine s4 rfl (fun g0=>?_) (fun g0=>?_)|refine s4B rfl (fun g0=>?_) (fun g0=>?_)
  ·refine s7 [.int .i64 _,.int .i64 _,.bool _,.int .i64 _] rfl ?_;first|exact M8 ((V0 (by rw[U8 (by omega)];omega)).trans ((U8 (by omega)).trans (by omega))) (by decide)|exact M8 ((V0 (by rw[U7 (by omega) (by omega)];decide)).trans (U7 (by omega) (by omega))) (by decide)|exact M8 (A1C (M7 (by omega) (by omega)) (by first|exact .inl ‹_›|exact .inr ‹_›)) (by decide)|exact A1B qd.2 (U9 (M7 (by omega) (by omega)) ‹_› ‹_›) ‹_›|exact A1A qd.2 (U9 (M7 (by omega) (by omega)) ‹_› ‹_›) ‹_›
  refine s1 (Q3 _ _ _) rfl rfl rfl ?_;refine s5 rfl (fun g1=>?_) fun g1=>?_
  ·refine s7 [.int .i64 _,.int .i64 _,.bool _,.int .i64 _] rfl ?_;first|exact M8 ((V0 (by rw[U8 (by omega)];omega)).trans ((U8 (by omega)).trans (by omega))) (by decide)|exact M8 ((V0 (by rw[U7 (by omega) (by omega)];decide)).trans (U7 (by omega) (by omega))) (by decide)|exact M8 (A1C (M7 (by omega) (by omega)) (by first|exact .inl ‹_›|exact .inr ‹_›)) (by decide)|exact A1B qd.2 (U9 (M7 (by omega) (by omega)) ‹_› ‹_›) ‹_›|exact A1A qd.2 (U9 (M7 (by omega) (by omega)) ‹_› ‹_›) ‹_›
  refine s1 (F7 _ _) rfl rfl rfl ?_;refine s1 (F0 _ _ _) rfl rfl rfl ?_;refine s5 rfl (fun g2=>?_) fun g2=>?_
  ·refine s7 [.int .i64 _,.int .i64 _,.bool _,.int .i64 _] rfl ?_;first|exact M8 ((V0 (by rw[U8 (by omega)];omega)).trans ((U8 (by omega)).trans (by omega))) (by decide)|exact M8 ((V0 (by rw[U7 (by omega) (by omega)];decide)).trans (U7 (by omega) (by omega))) (by decide)|exact M8 (A1C (M7 (by omega) (by omega)) (by first|exact .inl ‹_›|exact .inr ‹_›)) (by decide)|exact A1B qd.2 (U9 (M7 (by omega) (by omega)) ‹_› ‹_›) ‹_›|exact A1A qd.2 (U9 (M7 (by omega) (by omega)) ‹_› ‹_›) ‹_›
  refine s1 (Q3 _ _ _) rfl rfl rfl ?_;refine s5 rfl (fun g3=>?_) fun g3=>?_
  ·refine s7 [.int .i64 _,.int .i64 _,.bool _,.int .i64 _] rfl ?_;first|exact M8 ((V0 (by rw[U8 (by omega)];omega)).trans ((U8 (by omega)).trans (by omega))) (by decide)|exact M8 ((V0 (by rw[U7 (by omega) (by omega)];decide)).trans (U7 (by omega) (by omega))) (by decide)|exact M8 (A1C (M7 (by omega) (by omega)) (by first|exact .inl ‹_›|exact .inr ‹_›)) (by decide)|exact A1B qd.2 (U9 (M7 (by omega) (by omega)) ‹_› ‹_›) ‹_›|exact A1A qd.2 (U9 (M7 (by omega) (by omega)) ‹_› ‹_›) ‹_›
  refine s1 (D6 rfl) rfl rfl rfl ?_;refine s5 rfl (fun g4=>?_) fun g4=>?_
  ·refine s8 ?_;first|omega
  refine s2 (r:=rCl) (B0 rfl (by omega) (by omega) rfl) rfl rfl ?_;refine s1 (F7 _ _) rfl rfl rfl ?_;refine s1 (t5 _ _ _) rfl rfl rfl ?_;refine s1 (M4 _) rfl rfl rfl ?_;refine s4 rfl (fun g5=>?_) fun g5=>?_
  ·refine s7 [.int .i64 _,.int .i64 _,.bool _,.int .i64 _] rfl ?_;first|exact M8 ((V0 (by rw[U8 (by omega)];omega)).trans ((U8 (by omega)).trans (by omega))) (by decide)|exact M8 ((V0 (by rw[U7 (by omega) (by omega)];decide)).trans (U7 (by omega) (by omega))) (by decide)|exact M8 (A1C (M7 (by omega) (by omega)) (by first|exact .inl ‹_›|exact .inr ‹_›)) (by decide)|exact A1B qd.2 (U9 (M7 (by omega) (by omega)) ‹_› ‹_›) ‹_›|exact A1A qd.2 (U9 (M7 (by omega) (by omega)) ‹_› ‹_›) ‹_›
  refine s1 (A6C _ _) rfl rfl rfl ?_;refine s4 rfl (fun g6=>?_) fun g6=>?_
  ·refine s7 [.int .i64 _,.int .i64 _,.bool _,.int .i64 _] rfl ?_;first|exact M8 ((V0 (by rw[U8 (by omega)];omega)).trans ((U8 (by omega)).trans (by omega))) (by decide)|exact M8 ((V0 (by rw[U7 (by omega) (by omega)];decide)).trans (U7 (by omega) (by omega))) (by decide)|exact M8 (A1C (M7 (by omega) (by omega)) (by first|exact .inl ‹_›|exact .inr ‹_›)) (by decide)|exact A1B qd.2 (U9 (M7 (by omega) (by omega)) ‹_› ‹_›) ‹_›|exact A1A qd.2 (U9 (M7 (by omega) (by omega)) ‹_› ‹_›) ‹_›
  refine s1 (Q2 _) rfl rfl rfl ?_;refine s1 (Y8 _ _ _) rfl rfl rfl ?_;refine s4 rfl (fun g7=>?_) fun g7=>?_
  ·refine s7 [.int .i64 _,.int .i64 _,.bool _,.int .i64 _] rfl ?_;first|exact M8 ((V0 (by rw[U8 (by omega)];omega)).trans ((U8 (by omega)).trans (by omega))) (by decide)|exact M8 ((V0 (by rw[U7 (by omega) (by omega)];decide)).trans (U7 (by omega) (by omega))) (by decide)|exact M8 (A1C (M7 (by omega) (by omega)) (by first|exact .inl ‹_›|exact .inr ‹_›)) (by decide)|exact A1B qd.2 (U9 (M7 (by omega) (by omega)) ‹_› ‹_›) ‹_›|exact A1A qd.2 (U9 (M7 (by omega) (by omega)) ‹_› ‹_›) ‹_›
  have pb:=C0R (r:=r) (n:=((el rows).length:Int)) (w:=((el ((el rows).getD (0:Int).toNat default).1).length:Int)) (c:=c) (by omega) (by omega) (by omega) (by omega) (by omega) (by omega);have ls:=B6q ‹_›;refine s1 (D6 rfl) rfl rfl rfl ?_;refine s5 rfl (fun g8=>?_) fun g8=>?_
  ·refine s8 ?_;first|omega
  refine s2 (r:=rCl) (B0 rfl (by omega) (by omega) rfl) rfl rfl ?_;refine s1 (F7 _ _) rfl rfl rfl ?_;first|refine s1 (A17 (B4 (by omega) (by omega))) rfl rfl rfl ?_|refine s1 (A3B _ _ _) rfl rfl rfl ?_
  first|refine s1 (B6 (B4 (by omega) (by omega))) rfl rfl rfl ?_|refine s1 (C3 _ _ _) rfl rfl rfl ?_
  refine s6 (A0W _ _ _ _ _ _ ⟨by omega,qd.2.symm,by omega,by omega,ls,by omega⟩) rfl (fun _=>rfl) (fun g9=>?_) (fun v9 g9=>?_)
  ·show Tr.sav _ _ (.cons 24 _ (.cons 23 _ _));refine s7 [.int .i64 _,.int .i64 _,.bool _,.int .i64 _] rfl ?_;first|exact M8 ((V0 (by rw[U8 (by omega)];omega)).trans ((U8 (by omega)).trans (by omega))) (by decide)|exact M8 ((V0 (by rw[U7 (by omega) (by omega)];decide)).trans (U7 (by omega) (by omega))) (by decide)|exact M8 (A1C (M7 (by omega) (by omega)) (by first|exact .inl ‹_›|exact .inr ‹_›)) (by decide)|exact A1B qd.2 (U9 (M7 (by omega) (by omega)) ‹_› ‹_›) ‹_›|exact A1A qd.2 (U9 (M7 (by omega) (by omega)) ‹_› ‹_›) ‹_›
  show Tr.sav _ _ (.cons 24 _ (.cons 23 _ _));refine s7 [.int .i64 _,.int .i64 _,.bool _,.int .i64 _] rfl ?_;first|exact M8 ((V0 (by rw[U8 (by omega)];omega)).trans ((U8 (by omega)).trans (by omega))) (by decide)|exact M8 ((V0 (by rw[U7 (by omega) (by omega)];decide)).trans (U7 (by omega) (by omega))) (by decide)|exact M8 (A1C (M7 (by omega) (by omega)) (by first|exact .inl ‹_›|exact .inr ‹_›)) (by decide)|exact A1B qd.2 (U9 (M7 (by omega) (by omega)) ‹_› ‹_›) ‹_›|exact A1A qd.2 (U9 (M7 (by omega) (by omega)) ‹_› ‹_›) ‹_›
 ·cases hs
noncomputable def C7R:List (FuncId×FnC):=(61,M5 Tryd.prog [.s 12] A2S [.s 3])::L0
theorem C11{G:Nat→Option Obj}(hst:B9 Tryd.prog G gl H0 n0):H6 Tryd.prog G gl C7R:=(.cons (A5g hst) .nil)
def B3F:List U→Option (Nat×List U)
 | []=>some (0,[.bool (true)])
 | _=>none
theorem C3H :B3F []=some (0,[.bool (true)]):=rfl
theorem C9G{G:Nat→Option Obj}(hst:B9 Tryd.prog G gl H0 n0):S1 Tryd.prog G 15 [] B3F [.s 8]:=by
 refine B0r (C:=cx C7R []) (d:=60) (cxg (C11 hst) .nil) hst ⟨Tryd.f15,_,Tryd.func15,rfl⟩ ?_;intro us outs hs;unfold B3F at hs;split at hs
 ·cases hs;exact⟨List.replicate 11 0,by kernel_rfl⟩
 ·cases hs
noncomputable def D0a:List (FuncId×FnC):=(9,M5 Tryd.prog [.a [4,13],.a [22,8],.s 4] B1t [.a [12,12]])::(10,M5 Tryd.prog [.s 12,.a [3,3]] A2U [.a [3,3]])::(12,M5 Tryd.prog [.s 12,.a [3,3],.a [3,3]] A51 [.s 9,.s 3])::(20,M5 Tryd.prog [.s 12,.s 9,.a [3,3]] x4 [.a [3,3],.s 8,.s 3])::(21,M5 Tryd.prog [.s 12,.s 9,.a [3,3]] Y6 [.a [3,3],.s 8,.s 3])::(15,M5 Tryd.prog [] B3F [.s 8])::L0
theorem C4T{G:Nat→Option Obj}(hst:B9 Tryd.prog G gl H0 n0):H6 Tryd.prog G gl D0a:=(.cons (D0Q hst) (.cons (C9n hst) (.cons (C8a hst) (.cons (D0A hst) (.cons (C8f hst) (.cons (C9G hst) .nil))))))
def C3e:List U→Option (Nat×List U)
 | [.int .u8 dc,u_l,u_c,.bool wr,.int .u8 k,.str s,.int .i64 a,.int .i64 b,.int .i64 d,.int .i64 e,.int .i64 f,.int .i64 g]=>(L6 rDr u_l).bind fun l=>(L6 rCl u_c).bind fun c=>if 0≤dc∧dc≤255∧okD l∧((el c).length:Int)≤140737488351232∧(∀ x ∈ el c,aOk x)∧0≤k∧k≤255 then some (0,[.bool (true)])else none
 | _=>none
theorem C8j(dc:Int)(l:(Option (List (Int×(Option (List Int))×Bool))))(c:(Option (List (Int×Int×Int×Int×Int×Int×Int×Int×Int×Int×Int×Int))))(wr:Bool)(k:Int)(s:(List UInt8))(a:Int)(b:Int)(d:Int)(e:Int)(f:Int)(g:Int)(hc:0≤dc∧dc≤255∧okD l∧((el c).length:Int)≤140737488351232∧(∀ x ∈ el c,aOk x)∧0≤k∧k≤255):C3e [.int .u8 dc,B3 rDr l,B3 rCl c,.bool wr,.int .u8 k,.str s,.int .i64 a,.int .i64 b,.int .i64 d,.int .i64 e,.int .i64 f,.int .i64 g]=some (0,[.bool (true)]):=by
 simp only[C3e,E5,D3];exact if_pos hc
def C9g:Tr:=.lt 3 (.len) [h 5 9]<|.lt 3 (.min) [h 12 3,jI 210]<|.lt 9 (.sub) [h 5 9,jI 0,h 13 3]<|.fn B1t [h 0 4,h 1 13,h 2 22,h 3 8,h 4 4] 2<|.fn A2U [h 15 12,h 8 3,h 9 3] 2<|.fn A2U [h 15 12,h 10 3,h 11 3] 2<|.fn A51 [h 15 12,h 17 3,h 18 3,h 19 3,h 20 3] 2<|.lt 3 (.len) [h 21 9]<|.lt 3 (.min) [h 23 3,jI 3]<|.lt 9 (.sub) [h 21 9,jI 0,h 24 3]<|.fn A2U [h 15 12,h 6 3,h 7 3] 2<|.fn x4 [h 15 12,h 14 9,h 6 3,h 7 3] 4<|.fn Y6 [h 15 12,h 14 9,h 6 3,h 7 3] 4<|.lt 8 (.eqs) [h 28 3,h 32 3,h 29 3,h 33 3]<|.lt 8 (.un .not) [h 36 8]<|.br 37 (.no) (.lt 8 (.bin .neq) [h 30 8,h 34 8]<|.br 38 (.no) (.lt 8 (.bin .neq) [h 31 3,h 35 3]<|.br 39 (.no) (.fn x4 [h 15 12,h 14 9,h 26 3,h 27 3] 4<|.fn Y6 [h 15 12,h 14 9,h 26 3,h 27 3] 4<|.lt 8 (.eqs) [h 40 3,h 44 3,h 41 3,h 45 3]<|.lt 8 (.un .not) [h 48 8]<|.br 49 (.no) (.lt 8 (.bin .neq) [h 42 8,h 46 8]<|.br 50 (.no) (.lt 8 (.bin .neq) [h 43 3,h 47 3]<|.br 51 (.no) (.fn x4 [h 15 12,h 14 9,jI 0,jI 0] 4<|.fn Y6 [h 15 12,h 14 9,jI 0,jI 0] 4<|.lt 8 (.eqs) [h 52 3,h 56 3,h 53 3,h 57 3]<|.lt 8 (.un .not) [h 60 8]<|.br 61 (.no) (.lt 8 (.bin .neq) [h 54 8,h 58 8]<|.br 62 (.no) (.lt 8 (.bin .neq) [h 55 3,h 59 3]<|.br 63 (.no) (.fn A2U [h 15 12,h 6 3,h 7 3] 2<|.fn x4 [h 15 12,h 21 9,h 6 3,h 7 3] 4<|.fn Y6 [h 15 12,h 21 9,h 6 3,h 7 3] 4<|.lt 8 (.eqs) [h 66 3,h 70 3,h 67 3,h 71 3]<|.lt 8 (.un .not) [h 74 8]<|.br 75 (.no) (.lt 8 (.bin .neq) [h 68 8,h 72 8]<|.br 76 (.no) (.lt 8 (.bin .neq) [h 69 3,h 73 3]<|.br 77 (.no) (.fn x4 [h 15 12,h 21 9,h 64 3,h 65 3] 4<|.fn Y6 [h 15 12,h 21 9,h 64 3,h 65 3] 4<|.lt 8 (.eqs) [h 78 3,h 82 3,h 79 3,h 83 3]<|.lt 8 (.un .not) [h 86 8]<|.br 87 (.no) (.lt 8 (.bin .neq) [h 80 8,h 84 8]<|.br 88 (.no) (.lt 8 (.bin .neq) [h 81 3,h 85 3]<|.br 89 (.no) (.fn x4 [h 15 12,h 21 9,jI 0,jI 0] 4<|.fn Y6 [h 15 12,h 21 9,jI 0,jI 0] 4<|.lt 8 (.eqs) [h 90 3,h 94 3,h 91 3,h 95 3]<|.lt 8 (.un .not) [h 98 8]<|.br 99 (.no) (.lt 8 (.bin .neq) [h 92 8,h 96 8]<|.br 100 (.no) (.lt 8 (.bin .neq) [h 93 3,h 97 3]<|.br 101 (.no) (.fn A2U [h 15 12,h 6 3,h 7 3] 2<|.fn x4 [h 15 12,h 25 9,h 6 3,h 7 3] 4<|.fn Y6 [h 15 12,h 25 9,h 6 3,h 7 3] 4<|.lt 8 (.eqs) [h 104 3,h 108 3,h 105 3,h 109 3]<|.lt 8 (.un .not) [h 112 8]<|.br 113 (.no) (.lt 8 (.bin .neq) [h 106 8,h 110 8]<|.br 114 (.no) (.lt 8 (.bin .neq) [h 107 3,h 111 3]<|.br 115 (.no) (.fn x4 [h 15 12,h 25 9,h 102 3,h 103 3] 4<|.fn Y6 [h 15 12,h 25 9,h 102 3,h 103 3] 4<|.lt 8 (.eqs) [h 116 3,h 120 3,h 117 3,h 121 3]<|.lt 8 (.un .not) [h 124 8]<|.br 125 (.no) (.lt 8 (.bin .neq) [h 118 8,h 122 8]<|.br 126 (.no) (.lt 8 (.bin .neq) [h 119 3,h 123 3]<|.br 127 (.no) (.fn x4 [h 15 12,h 25 9,jI 0,jI 0] 4<|.fn Y6 [h 15 12,h 25 9,jI 0,jI 0] 4<|.lt 8 (.eqs) [h 128 3,h 132 3,h 129 3,h 133 3]<|.lt 8 (.un .not) [h 136 8]<|.br 137 (.no) (.lt 8 (.bin .neq) [h 130 8,h 134 8]<|.br 138 (.no) (.lt 8 (.bin .neq) [h 131 3,h 135 3]<|.br 139 (.no) (.fn A2U [h 16 12,h 8 3,h 9 3] 2<|.fn A2U [h 16 12,h 10 3,h 11 3] 2<|.fn A51 [h 16 12,h 140 3,h 141 3,h 142 3,h 143 3] 2<|.lt 3 (.len) [h 144 9]<|.lt 3 (.min) [h 146 3,jI 3]<|.lt 9 (.sub) [h 144 9,jI 0,h 147 3]<|.fn A2U [h 16 12,h 6 3,h 7 3] 2<|.fn x4 [h 16 12,h 14 9,h 6 3,h 7 3] 4<|.fn Y6 [h 16 12,h 14 9,h 6 3,h 7 3] 4<|.lt 8 (.eqs) [h 151 3,h 155 3,h 152 3,h 156 3]<|.lt 8 (.un .not) [h 159 8]<|.br 160 (.no) (.lt 8 (.bin .neq) [h 153 8,h 157 8]<|.br 161 (.no) (.lt 8 (.bin .neq) [h 154 3,h 158 3]<|.br 162 (.no) (.fn x4 [h 16 12,h 14 9,h 149 3,h 150 3] 4<|.fn Y6 [h 16 12,h 14 9,h 149 3,h 150 3] 4<|.lt 8 (.eqs) [h 163 3,h 167 3,h 164 3,h 168 3]<|.lt 8 (.un .not) [h 171 8]<|.br 172 (.no) (.lt 8 (.bin .neq) [h 165 8,h 169 8]<|.br 173 (.no) (.lt 8 (.bin .neq) [h 166 3,h 170 3]<|.br 174 (.no) (.fn x4 [h 16 12,h 14 9,jI 0,jI 0] 4<|.fn Y6 [h 16 12,h 14 9,jI 0,jI 0] 4<|.lt 8 (.eqs) [h 175 3,h 179 3,h 176 3,h 180 3]<|.lt 8 (.un .not) [h 183 8]<|.br 184 (.no) (.lt 8 (.bin .neq) [h 177 8,h 181 8]<|.br 185 (.no) (.lt 8 (.bin .neq) [h 178 3,h 182 3]<|.br 186 (.no) (.fn A2U [h 16 12,h 6 3,h 7 3] 2<|.fn x4 [h 16 12,h 144 9,h 6 3,h 7 3] 4<|.fn Y6 [h 16 12,h 144 9,h 6 3,h 7 3] 4<|.lt 8 (.eqs) [h 189 3,h 193 3,h 190 3,h 194 3]<|.lt 8 (.un .not) [h 197 8]<|.br 198 (.no) (.lt 8 (.bin .neq) [h 191 8,h 195 8]<|.br 199 (.no) (.lt 8 (.bin .neq) [h 192 3,h 196 3]<|.br 200 (.no) (.fn x4 [h 16 12,h 144 9,h 187 3,h 188 3] 4<|.fn Y6 [h 16 12,h 144 9,h 187 3,h 188 3] 4<|.lt 8 (.eqs) [h 201 3,h 205 3,h 202 3,h 206 3]<|.lt 8 (.un .not) [h 209 8]<|.br 210 (.no) (.lt 8 (.bin .neq) [h 203 8,h 207 8]<|.br 211 (.no) (.lt 8 (.bin .neq) [h 204 3,h 208 3]<|.br 212 (.no) (.fn x4 [h 16 12,h 144 9,jI 0,jI 0] 4<|.fn Y6 [h 16 12,h 144 9,jI 0,jI 0] 4<|.lt 8 (.eqs) [h 213 3,h 217 3,h 214 3,h 218 3]<|.lt 8 (.un .not) [h 221 8]<|.br 222 (.no) (.lt 8 (.bin .neq) [h 215 8,h 219 8]<|.br 223 (.no) (.lt 8 (.bin .neq) [h 216 3,h 220 3]<|.br 224 (.no) (.fn A2U [h 16 12,h 6 3,h 7 3] 2<|.fn x4 [h 16 12,h 148 9,h 6 3,h 7 3] 4<|.fn Y6 [h 16 12,h 148 9,h 6 3,h 7 3] 4<|.lt 8 (.eqs) [h 227 3,h 231 3,h 228 3,h 232 3]<|.lt 8 (.un .not) [h 235 8]<|.br 236 (.no) (.lt 8 (.bin .neq) [h 229 8,h 233 8]<|.br 237 (.no) (.lt 8 (.bin .neq) [h 230 3,h 234 3]<|.br 238 (.no) (.fn x4 [h 16 12,h 148 9,h 225 3,h 226 3] 4<|.fn Y6 [h 16 12,h 148 9,h 225 3,h 226 3] 4<|.lt 8 (.eqs) [h 239 3,h 243 3,h 240 3,h 244 3]<|.lt 8 (.un .not) [h 247 8]<|.br 248 (.no) (.lt 8 (.bin .neq) [h 241 8,h 245 8]<|.br 249 (.no) (.lt 8 (.bin .neq) [h 242 3,h 246 3]<|.br 250 (.no) (.fn x4 [h 16 12,h 148 9,jI 0,jI 0] 4<|.fn Y6 [h 16 12,h 148 9,jI 0,jI 0] 4<|.lt 8 (.eqs) [h 251 3,h 255 3,h 252 3,h 256 3]<|.lt 8 (.un .not) [h 259 8]<|.br 260 (.no) (.lt 8 (.bin .neq) [h 253 8,h 257 8]<|.br 261 (.no) (.lt 8 (.bin .neq) [h 254 3,h 258 3]<|.br 262 (.no) (.fn B3F [] 1<|.ret [h 263 8]))))))))))))))))))))))))))))))))))))))))))))))))))))))
theorem D0i{G:Nat→Option Obj}(hst:B9 Tryd.prog G gl H0 n0):S1 Tryd.prog G 5 [.a [4,13],.a [22,8],.s 4,.s 9,.a [3,3,3,3,3,3]] C3e [.s 8]:=by
 refine G6 (C:=cx D0a []) (d:=60) C9g (cxg (C4T hst) .nil) hst ⟨Tryd.f5,_,Tryd.func5,rfl⟩ (by kernel_rfl) (by kernel_rfl) ?_;intro us outs hs;unfold C3e at hs;split at hs
 ·skip;rename_i dc u_l u_c wr k s a b d e f g;have hq_l:=A9.1 hs;clear hs;obtain⟨l,hd_l,hs⟩:=hq_l;replace hd_l:=H5 hd_l;subst hd_l;have hq_c:=A9.1 hs;clear hs;obtain⟨c,hd_c,hs⟩:=hq_c;replace hd_c:=H5 hd_c;subst hd_c;split at hs
  ·rename_i hc;cases hs;have hv:=B3h hc.2.2.1 hc.1 hc.2.1;have hb:=D0T (wr:=wr) (k:=k) hv.2.1 hc.2.2.2.2.1;have hn:=B6N (dc:=dc) (l:=l);have hm:=D0R (dc:=dc) (l:=l) (c:=c) (wr:=wr) (k:=k);have n1:=B9t hv.1 (0:Int).toNat;have n2:=D0S (c:=c) (wr:=wr) (k:=k) hc.1 hc.2.1 hc.2.2.1 (0:Int).toNat;unfold C9g;refine s0 (.cons 11 _ (.cons 10 _ (.cons 9 _ (.cons 8 _ (.cons 7 _ (.cons 6 _ (.cons 5 _ (.cons 4 _ (.cons 3 _ (.cons 2 _ (.cons 1 _ (.cons 0 _ (.nil))))))))))))) rfl (by simp[Ev.ok,Ev.len]) ?_;refine s1 (Q2 _) rfl rfl rfl ?_;refine s1 (A90 _ _ _ _) rfl rfl rfl ?_;refine s1 (A2y _ _ _ _ _ (by omega) (by omega) (by omega)) rfl rfl rfl ?_;refine s32 (C4L _ _ _ _ _ ⟨hc.1,hc.2.1,hc.2.2.1,hc.2.2.2.1,hc.2.2.2.2.2⟩) rfl rfl ?_;refine s32 (A1Y _ _ _ ⟨by omega,by omega,by omega⟩) rfl rfl ?_;refine s32 (A1Y _ _ _ ⟨by omega,by omega,by omega⟩) rfl rfl ?_;refine s32 (B3d _ _ _ _ _) rfl rfl ?_;refine s1 (Q2 _) rfl rfl rfl ?_;refine s1 (A90 _ _ _ _) rfl rfl rfl ?_;refine s1 (A2y _ _ _ _ _ (by omega) (by omega) (by omega)) rfl rfl rfl ?_;refine s32 (A1Y _ _ _ ⟨by omega,by omega,by omega⟩) rfl rfl ?_;refine s3 (Z2 _ _ _ _ (by first|exact hv.2.1|exact hb)) rfl ?_;show Tr.sav _ _ (.cons 31 _ (.cons 30 _ (.cons 29 _ (.cons 28 _ _))));refine s3 (S8 _ _ _ _) rfl ?_;show Tr.sav _ _ (.cons 35 _ (.cons 34 _ (.cons 33 _ (.cons 32 _ _))));refine s1 rfl rfl rfl rfl ?_;first|refine s1 (M4 _) rfl rfl rfl ?_|refine s1 (K4 _) rfl rfl rfl ?_
   first|refine s4 rfl (fun g0=>?_) (fun g0=>?_)|refine s4B rfl (fun g0=>?_) (fun g0=>?_)
   ·refine s8 ?_;first|exact absurd rfl g0|omega|(simp at g0;done)
   refine s1 (d9 _ _) rfl rfl rfl ?_;refine s4 rfl (fun g1=>?_) fun g1=>?_
   ·refine s8 ?_;first|exact absurd rfl g1|omega|(simp at g1;done)
   refine s1 (I0 _ _ _) rfl rfl rfl ?_;refine s4 rfl (fun g2=>?_) fun g2=>?_
   ·refine s8 ?_;first|exact absurd rfl g2|omega|(simp at g2;done)
   refine s3 (Z2 _ _ _ _ (by first|exact hv.2.1|exact hb)) rfl ?_;show Tr.sav _ _ (.cons 43 _ (.cons 42 _ (.cons 41 _ (.cons 40 _ _))));refine s3 (S8 _ _ _ _) rfl ?_;show Tr.sav _ _ (.cons 47 _ (.cons 46 _ (.cons 45 _ (.cons 44 _ _))));refine s1 rfl rfl rfl rfl ?_;first|refine s1 (M4 _) rfl rfl rfl ?_|refine s1 (K4 _) rfl rfl rfl ?_
   first|refine s4 rfl (fun g3=>?_) (fun g3=>?_)|refine s4B rfl (fun g3=>?_) (fun g3=>?_)
   ·refine s8 ?_;first|exact absurd rfl g3|omega|(simp at g3;done)
   refine s1 (d9 _ _) rfl rfl rfl ?_;refine s4 rfl (fun g4=>?_) fun g4=>?_
   ·refine s8 ?_;first|exact absurd rfl g4|omega|(simp at g4;done)
   refine s1 (I0 _ _ _) rfl rfl rfl ?_;refine s4 rfl (fun g5=>?_) fun g5=>?_
   ·refine s8 ?_;first|exact absurd rfl g5|omega|(simp at g5;done)
   refine s3 (Z2 _ _ _ _ (by first|exact hv.2.1|exact hb)) rfl ?_;show Tr.sav _ _ (.cons 55 _ (.cons 54 _ (.cons 53 _ (.cons 52 _ _))));refine s3 (S8 _ _ _ _) rfl ?_;show Tr.sav _ _ (.cons 59 _ (.cons 58 _ (.cons 57 _ (.cons 56 _ _))));refine s1 rfl rfl rfl rfl ?_;first|refine s1 (M4 _) rfl rfl rfl ?_|refine s1 (K4 _) rfl rfl rfl ?_
   first|refine s4 rfl (fun g6=>?_) (fun g6=>?_)|refine s4B rfl (fun g6=>?_) (fun g6=>?_)
   ·refine s8 ?_;first|exact absurd rfl g6|omega|(simp at g6;done)
   refine s1 (d9 _ _) rfl rfl rfl ?_;refine s4 rfl (fun g7=>?_) fun g7=>?_
   ·refine s8 ?_;first|exact absurd rfl g7|omega|(simp at g7;done)
   refine s1 (I0 _ _ _) rfl rfl rfl ?_;refine s4 rfl (fun g8=>?_) fun g8=>?_
   ·refine s8 ?_;first|exact absurd rfl g8|omega|(simp at g8;done)
   refine s32 (A1Y _ _ _ ⟨by omega,by omega,by omega⟩) rfl rfl ?_;refine s3 (Z2 _ _ _ _ (by first|exact hv.2.1|exact hb)) rfl ?_;show Tr.sav _ _ (.cons 69 _ (.cons 68 _ (.cons 67 _ (.cons 66 _ _))));refine s3 (S8 _ _ _ _) rfl ?_;show Tr.sav _ _ (.cons 73 _ (.cons 72 _ (.cons 71 _ (.cons 70 _ _))));refine s1 rfl rfl rfl rfl ?_;first|refine s1 (M4 _) rfl rfl rfl ?_|refine s1 (K4 _) rfl rfl rfl ?_
   first|refine s4 rfl (fun g9=>?_) (fun g9=>?_)|refine s4B rfl (fun g9=>?_) (fun g9=>?_)
   ·refine s8 ?_;first|exact absurd rfl g9|omega|(simp at g9;done)
   refine s1 (d9 _ _) rfl rfl rfl ?_;refine s4 rfl (fun g10=>?_) fun g10=>?_
   ·refine s8 ?_;first|exact absurd rfl g10|omega|(simp at g10;done)
   refine s1 (I0 _ _ _) rfl rfl rfl ?_;refine s4 rfl (fun g11=>?_) fun g11=>?_
   ·refine s8 ?_;first|exact absurd rfl g11|omega|(simp at g11;done)
   refine s3 (Z2 _ _ _ _ (by first|exact hv.2.1|exact hb)) rfl ?_;show Tr.sav _ _ (.cons 81 _ (.cons 80 _ (.cons 79 _ (.cons 78 _ _))));refine s3 (S8 _ _ _ _) rfl ?_;show Tr.sav _ _ (.cons 85 _ (.cons 84 _ (.cons 83 _ (.cons 82 _ _))));refine s1 rfl rfl rfl rfl ?_;first|refine s1 (M4 _) rfl rfl rfl ?_|refine s1 (K4 _) rfl rfl rfl ?_
   first|refine s4 rfl (fun g12=>?_) (fun g12=>?_)|refine s4B rfl (fun g12=>?_) (fun g12=>?_)
   ·refine s8 ?_;first|exact absurd rfl g12|omega|(simp at g12;done)
   refine s1 (d9 _ _) rfl rfl rfl ?_;refine s4 rfl (fun g13=>?_) fun g13=>?_
   ·refine s8 ?_;first|exact absurd rfl g13|omega|(simp at g13;done)
   refine s1 (I0 _ _ _) rfl rfl rfl ?_;refine s4 rfl (fun g14=>?_) fun g14=>?_
   ·refine s8 ?_;first|exact absurd rfl g14|omega|(simp at g14;done)
   refine s3 (Z2 _ _ _ _ (by first|exact hv.2.1|exact hb)) rfl ?_;show Tr.sav _ _ (.cons 93 _ (.cons 92 _ (.cons 91 _ (.cons 90 _ _))));refine s3 (S8 _ _ _ _) rfl ?_;show Tr.sav _ _ (.cons 97 _ (.cons 96 _ (.cons 95 _ (.cons 94 _ _))));refine s1 rfl rfl rfl rfl ?_;first|refine s1 (M4 _) rfl rfl rfl ?_|refine s1 (K4 _) rfl rfl rfl ?_
   first|refine s4 rfl (fun g15=>?_) (fun g15=>?_)|refine s4B rfl (fun g15=>?_) (fun g15=>?_)
   ·refine s8 ?_;first|exact absurd rfl g15|omega|(simp at g15;done)
   refine s1 (d9 _ _) rfl rfl rfl ?_;refine s4 rfl (fun g16=>?_) fun g16=>?_
   ·refine s8 ?_;first|exact absurd rfl g16|omega|(simp at g16;done)
   refine s1 (I0 _ _ _) rfl rfl rfl ?_;refine s4 rfl (fun g17=>?_) fun g17=>?_
   ·refine s8 ?_;first|exact absurd rfl g17|omega|(simp at g17;done)
   refine s32 (A1Y _ _ _ ⟨by omega,by omega,by omega⟩) rfl rfl ?_;refine s3 (Z2 _ _ _ _ (by first|exact hv.2.1|exact hb)) rfl ?_;show Tr.sav _ _ (.cons 107 _ (.cons 106 _ (.cons 105 _ (.cons 104 _ _))));refine s3 (S8 _ _ _ _) rfl ?_;show Tr.sav _ _ (.cons 111 _ (.cons 110 _ (.cons 109 _ (.cons 108 _ _))));refine s1 rfl rfl rfl rfl ?_;first|refine s1 (M4 _) rfl rfl rfl ?_|refine s1 (K4 _) rfl rfl rfl ?_
   first|refine s4 rfl (fun g18=>?_) (fun g18=>?_)|refine s4B rfl (fun g18=>?_) (fun g18=>?_)
   ·refine s8 ?_;first|exact absurd rfl g18|omega|(simp at g18;done)
   refine s1 (d9 _ _) rfl rfl rfl ?_;refine s4 rfl (fun g19=>?_) fun g19=>?_
   ·refine s8 ?_;first|exact absurd rfl g19|omega|(simp at g19;done)
   refine s1 (I0 _ _ _) rfl rfl rfl ?_;refine s4 rfl (fun g20=>?_) fun g20=>?_
   ·refine s8 ?_;first|exact absurd rfl g20|omega|(simp at g20;done)
   refine s3 (Z2 _ _ _ _ (by first|exact hv.2.1|exact hb)) rfl ?_;show Tr.sav _ _ (.cons 119 _ (.cons 118 _ (.cons 117 _ (.cons 116 _ _))));refine s3 (S8 _ _ _ _) rfl ?_;show Tr.sav _ _ (.cons 123 _ (.cons 122 _ (.cons 121 _ (.cons 120 _ _))));refine s1 rfl rfl rfl rfl ?_;first|refine s1 (M4 _) rfl rfl rfl ?_|refine s1 (K4 _) rfl rfl rfl ?_
   first|refine s4 rfl (fun g21=>?_) (fun g21=>?_)|refine s4B rfl (fun g21=>?_) (fun g21=>?_)
   ·refine s8 ?_;first|exact absurd rfl g21|omega|(simp at g21;done)
   refine s1 (d9 _ _) rfl rfl rfl ?_;refine s4 rfl (fun g22=>?_) fun g22=>?_
   ·refine s8 ?_;first|exact absurd rfl g22|omega|(simp at g22;done)
   refine s1 (I0 _ _ _) rfl rfl rfl ?_;refine s4 rfl (fun g23=>?_) fun g23=>?_
   ·refine s8 ?_;first|exact absurd rfl g23|omega|(simp at g23;done)
   refine s3 (Z2 _ _ _ _ (by first|exact hv.2.1|exact hb)) rfl ?_;show Tr.sav _ _ (.cons 131 _ (.cons 130 _ (.cons 129 _ (.cons 128 _ _))));refine s3 (S8 _ _ _ _) rfl ?_;show Tr.sav _ _ (.cons 135 _ (.cons 134 _ (.cons 133 _ (.cons 132 _ _))));refine s1 rfl rfl rfl rfl ?_;first|refine s1 (M4 _) rfl rfl rfl ?_|refine s1 (K4 _) rfl rfl rfl ?_
   first|refine s4 rfl (fun g24=>?_) (fun g24=>?_)|refine s4B rfl (fun g24=>?_) (fun g24=>?_)
   ·refine s8 ?_;first|exact absurd rfl g24|omega|(simp at g24;done)
   refine s1 (d9 _ _) rfl rfl rfl ?_;refine s4 rfl (fun g25=>?_) fun g25=>?_
   ·refine s8 ?_;first|exact absurd rfl g25|omega|(simp at g25;done)
   refine s1 (I0 _ _ _) rfl rfl rfl ?_;refine s4 rfl (fun g26=>?_) fun g26=>?_
   ·refine s8 ?_;first|exact absurd rfl g26|omega|(simp at g26;done)
   refine s32 (A1Y _ _ _ ⟨by omega,by omega,by omega⟩) rfl rfl ?_;refine s32 (A1Y _ _ _ ⟨by omega,by omega,by omega⟩) rfl rfl ?_;refine s32 (B3d _ _ _ _ _) rfl rfl ?_;refine s1 (Q2 _) rfl rfl rfl ?_;refine s1 (A90 _ _ _ _) rfl rfl rfl ?_;refine s1 (A2y _ _ _ _ _ (by omega) (by omega) (by omega)) rfl rfl rfl ?_;refine s32 (A1Y _ _ _ ⟨by omega,by omega,by omega⟩) rfl rfl ?_;refine s3 (Z2 _ _ _ _ (by first|exact hv.2.1|exact hb)) rfl ?_;show Tr.sav _ _ (.cons 154 _ (.cons 153 _ (.cons 152 _ (.cons 151 _ _))));refine s3 (S8 _ _ _ _) rfl ?_;show Tr.sav _ _ (.cons 158 _ (.cons 157 _ (.cons 156 _ (.cons 155 _ _))));refine s1 rfl rfl rfl rfl ?_;first|refine s1 (M4 _) rfl rfl rfl ?_|refine s1 (K4 _) rfl rfl rfl ?_
   first|refine s4 rfl (fun g27=>?_) (fun g27=>?_)|refine s4B rfl (fun g27=>?_) (fun g27=>?_)
   ·refine s8 ?_;first|exact absurd rfl g27|omega|(simp at g27;done)
   refine s1 (d9 _ _) rfl rfl rfl ?_;refine s4 rfl (fun g28=>?_) fun g28=>?_
   ·refine s8 ?_;first|exact absurd rfl g28|omega|(simp at g28;done)
   refine s1 (I0 _ _ _) rfl rfl rfl ?_;refine s4 rfl (fun g29=>?_) fun g29=>?_
   ·refine s8 ?_;first|exact absurd rfl g29|omega|(simp at g29;done)
   refine s3 (Z2 _ _ _ _ (by first|exact hv.2.1|exact hb)) rfl ?_;show Tr.sav _ _ (.cons 166 _ (.cons 165 _ (.cons 164 _ (.cons 163 _ _))));refine s3 (S8 _ _ _ _) rfl ?_;show Tr.sav _ _ (.cons 170 _ (.cons 169 _ (.cons 168 _ (.cons 167 _ _))));refine s1 rfl rfl rfl rfl ?_;first|refine s1 (M4 _) rfl rfl rfl ?_|refine s1 (K4 _) rfl rfl rfl ?_
   first|refine s4 rfl (fun g30=>?_) (fun g30=>?_)|refine s4B rfl (fun g30=>?_) (fun g30=>?_)
   ·refine s8 ?_;first|exact absurd rfl g30|omega|(simp at g30;done)
   refine s1 (d9 _ _) rfl rfl rfl ?_;refine s4 rfl (fun g31=>?_) fun g31=>?_
   ·refine s8 ?_;first|exact absurd rfl g31|omega|(simp at g31;done)
   refine s1 (I0 _ _ _) rfl rfl rfl ?_;refine s4 rfl (fun g32=>?_) fun g32=>?_
   ·refine s8 ?_;first|exact absurd rfl g32|omega|(simp at g32;done)
   refine s3 (Z2 _ _ _ _ (by first|exact hv.2.1|exact hb)) rfl ?_;show Tr.sav _ _ (.cons 178 _ (.cons 177 _ (.cons 176 _ (.cons 175 _ _))));refine s3 (S8 _ _ _ _) rfl ?_;show Tr.sav _ _ (.cons 182 _ (.cons 181 _ (.cons 180 _ (.cons 179 _ _))));refine s1 rfl rfl rfl rfl ?_;first|refine s1 (M4 _) rfl rfl rfl ?_|refine s1 (K4 _) rfl rfl rfl ?_
   first|refine s4 rfl (fun g33=>?_) (fun g33=>?_)|refine s4B rfl (fun g33=>?_) (fun g33=>?_)
   ·refine s8 ?_;first|exact absurd rfl g33|omega|(simp at g33;done)
   refine s1 (d9 _ _) rfl rfl rfl ?_;refine s4 rfl (fun g34=>?_) fun g34=>?_
   ·refine s8 ?_;first|exact absurd rfl g34|omega|(simp at g34;done)
   refine s1 (I0 _ _ _) rfl rfl rfl ?_;refine s4 rfl (fun g35=>?_) fun g35=>?_
   ·refine s8 ?_;first|exact absurd rfl g35|omega|(simp at g35;done)
   refine s32 (A1Y _ _ _ ⟨by omega,by omega,by omega⟩) rfl rfl ?_;refine s3 (Z2 _ _ _ _ (by first|exact hv.2.1|exact hb)) rfl ?_;show Tr.sav _ _ (.cons 192 _ (.cons 191 _ (.cons 190 _ (.cons 189 _ _))));refine s3 (S8 _ _ _ _) rfl ?_;show Tr.sav _ _ (.cons 196 _ (.cons 195 _ (.cons 194 _ (.cons 193 _ _))));refine s1 rfl rfl rfl rfl ?_;first|refine s1 (M4 _) rfl rfl rfl ?_|refine s1 (K4 _) rfl rfl rfl ?_
   first|refine s4 rfl (fun g36=>?_) (fun g36=>?_)|refine s4B rfl (fun g36=>?_) (fun g36=>?_)
   ·refine s8 ?_;first|exact absurd rfl g36|omega|(simp at g36;done)
   refine s1 (d9 _ _) rfl rfl rfl ?_;refine s4 rfl (fun g37=>?_) fun g37=>?_
   ·refine s8 ?_;first|exact absurd rfl g37|omega|(simp at g37;done)
   refine s1 (I0 _ _ _) rfl rfl rfl ?_;refine s4 rfl (fun g38=>?_) fun g38=>?_
   ·refine s8 ?_;first|exact absurd rfl g38|omega|(simp at g38;done)
   refine s3 (Z2 _ _ _ _ (by first|exact hv.2.1|exact hb)) rfl ?_;show Tr.sav _ _ (.cons 204 _ (.cons 203 _ (.cons 202 _ (.cons 201 _ _))));refine s3 (S8 _ _ _ _) rfl ?_;show Tr.sav _ _ (.cons 208 _ (.cons 207 _ (.cons 206 _ (.cons 205 _ _))));refine s1 rfl rfl rfl rfl ?_;first|refine s1 (M4 _) rfl rfl rfl ?_|refine s1 (K4 _) rfl rfl rfl ?_
   first|refine s4 rfl (fun g39=>?_) (fun g39=>?_)|refine s4B rfl (fun g39=>?_) (fun g39=>?_)
   ·refine s8 ?_;first|exact absurd rfl g39|omega|(simp at g39;done)
   refine s1 (d9 _ _) rfl rfl rfl ?_;refine s4 rfl (fun g40=>?_) fun g40=>?_
   ·refine s8 ?_;first|exact absurd rfl g40|omega|(simp at g40;done)
   refine s1 (I0 _ _ _) rfl rfl rfl ?_;refine s4 rfl (fun g41=>?_) fun g41=>?_
   ·refine s8 ?_;first|exact absurd rfl g41|omega|(simp at g41;done)
   refine s3 (Z2 _ _ _ _ (by first|exact hv.2.1|exact hb)) rfl ?_;show Tr.sav _ _ (.cons 216 _ (.cons 215 _ (.cons 214 _ (.cons 213 _ _))));refine s3 (S8 _ _ _ _) rfl ?_;show Tr.sav _ _ (.cons 220 _ (.cons 219 _ (.cons 218 _ (.cons 217 _ _))));refine s1 rfl rfl rfl rfl ?_;first|refine s1 (M4 _) rfl rfl rfl ?_|refine s1 (K4 _) rfl rfl rfl ?_
   first|refine s4 rfl (fun g42=>?_) (fun g42=>?_)|refine s4B rfl (fun g42=>?_) (fun g42=>?_)
   ·refine s8 ?_;first|exact absurd rfl g42|omega|(simp at g42;done)
   refine s1 (d9 _ _) rfl rfl rfl ?_;refine s4 rfl (fun g43=>?_) fun g43=>?_
   ·refine s8 ?_;first|exact absurd rfl g43|omega|(simp at g43;done)
   refine s1 (I0 _ _ _) rfl rfl rfl ?_;refine s4 rfl (fun g44=>?_) fun g44=>?_
   ·refine s8 ?_;first|exact absurd rfl g44|omega|(simp at g44;done)
   refine s32 (A1Y _ _ _ ⟨by omega,by omega,by omega⟩) rfl rfl ?_;refine s3 (Z2 _ _ _ _ (by first|exact hv.2.1|exact hb)) rfl ?_;show Tr.sav _ _ (.cons 230 _ (.cons 229 _ (.cons 228 _ (.cons 227 _ _))));refine s3 (S8 _ _ _ _) rfl ?_;show Tr.sav _ _ (.cons 234 _ (.cons 233 _ (.cons 232 _ (.cons 231 _ _))));refine s1 rfl rfl rfl rfl ?_;first|refine s1 (M4 _) rfl rfl rfl ?_|refine s1 (K4 _) rfl rfl rfl ?_
   first|refine s4 rfl (fun g45=>?_) (fun g45=>?_)|refine s4B rfl (fun g45=>?_) (fun g45=>?_)
   ·refine s8 ?_;first|exact absurd rfl g45|omega|(simp at g45;done)
   refine s1 (d9 _ _) rfl rfl rfl ?_;refine s4 rfl (fun g46=>?_) fun g46=>?_
   ·refine s8 ?_;first|exact absurd rfl g46|omega|(simp at g46;done)
   refine s1 (I0 _ _ _) rfl rfl rfl ?_;refine s4 rfl (fun g47=>?_) fun g47=>?_
   ·refine s8 ?_;first|exact absurd rfl g47|omega|(simp at g47;done)
   refine s3 (Z2 _ _ _ _ (by first|exact hv.2.1|exact hb)) rfl ?_;show Tr.sav _ _ (.cons 242 _ (.cons 241 _ (.cons 240 _ (.cons 239 _ _))));refine s3 (S8 _ _ _ _) rfl ?_;show Tr.sav _ _ (.cons 246 _ (.cons 245 _ (.cons 244 _ (.cons 243 _ _))));refine s1 rfl rfl rfl rfl ?_;first|refine s1 (M4 _) rfl rfl rfl ?_|refine s1 (K4 _) rfl rfl rfl ?_
   first|refine s4 rfl (fun g48=>?_) (fun g48=>?_)|refine s4B rfl (fun g48=>?_) (fun g48=>?_)
   ·refine s8 ?_;first|exact absurd rfl g48|omega|(simp at g48;done)
   refine s1 (d9 _ _) rfl rfl rfl ?_;refine s4 rfl (fun g49=>?_) fun g49=>?_
   ·refine s8 ?_;first|exact absurd rfl g49|omega|(simp at g49;done)
   refine s1 (I0 _ _ _) rfl rfl rfl ?_;refine s4 rfl (fun g50=>?_) fun g50=>?_
   ·refine s8 ?_;first|exact absurd rfl g50|omega|(simp at g50;done)
   refine s3 (Z2 _ _ _ _ (by first|exact hv.2.1|exact hb)) rfl ?_;show Tr.sav _ _ (.cons 254 _ (.cons 253 _ (.cons 252 _ (.cons 251 _ _))));refine s3 (S8 _ _ _ _) rfl ?_;show Tr.sav _ _ (.cons 258 _ (.cons 257 _ (.cons 256 _ (.cons 255 _ _))));refine s1 rfl rfl rfl rfl ?_;first|refine s1 (M4 _) rfl rfl rfl ?_|refine s1 (K4 _) rfl rfl rfl ?_
   first|refine s4 rfl (fun g51=>?_) (fun g51=>?_)|refine s4B rfl (fun g51=>?_) (fun g51=>?_)
   ·refine s8 ?_;first|exact absurd rfl g51|omega|(simp at g51;done)
   refine s1 (d9 _ _) rfl rfl rfl ?_;refine s4 rfl (fun g52=>?_) fun g52=>?_
   ·refine s8 ?_;first|exact absurd rfl g52|omega|(simp at g52;done)
   refine s1 (I0 _ _ _) rfl rfl rfl ?_;refine s4 rfl (fun g53=>?_) fun g53=>?_
   ·refine s8 ?_;first|exact absurd rfl g53|omega|(simp at g53;done)
   refine s31 C3H rfl ?_;refine s7 [.bool _] rfl ?_;first|rfl
  ·cases hs
 ·cases hs
end Go.Proofs.YtdkdbjgkedahfaaDoor
