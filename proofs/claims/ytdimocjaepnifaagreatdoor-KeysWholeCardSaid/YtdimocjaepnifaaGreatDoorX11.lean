import Derived.Test.YtdimocjaepnifaaGreatDoorX10
set_option linter.all false
set_option maxRecDepth 100000
set_option maxHeartbeats 4000000
namespace Go.Proofs.YtdimocjaepnifaaGreatDoor
open Go Go.Sx Go.Proofs.Tryz
variable {sg z:Bool}{b c cl d4 dc e hi i j k lo m r x y:Int}{l:List Int}{s t:C8}{a:Option (List j9)}{p:D4}
def kdS(w:Int):Int:=if w=2 then 32 else if w=3 then 64 else 0
def B8E(w:Int)(h:0<=w)(d:w<=3):([0,0,32,64]:List Int).getD w.toNat 0=kdS w:=by
 have:w=0∨w=1∨w=2∨w=3:=A0;rcases this with rfl|rfl|rfl|rfl<;>decide
def A5u(w:Int):(w=2/\kdS w=32)∨(w=3/\kdS w=64)∨(w≠2/\w≠3/\kdS w=0):=by
 unfold kdS
 (repeat' split)<;>omega
def nuS(m w b:Int):Int:=b+m%2*4+m / 2%2*8+m / 4*16+kdS w
def laS(w:Int):C8:=if w=1 then[109]else[77]
def moS(sg:Bool)(m w b r cl:Int):C8 :=
 if sg=false then[27,91,77]++iB [32+nuS m w b,33+cl,33+r]
 else[27,91,60]++itz (nuS m w b)++[59]++itz (cl+1)++[59]++itz (r+1)++laS w
def A8s{w z:Int}(h:sg=false)(g:x=32+nuS m w b)(d:y=33+cl)(f:z=33+r):[27,91,77]++iB [x,y,z]=moS sg m w b r cl:=by
 subst g d f;unfold moS;rw[A4 h]
def A8r{w z:Int}{l:C8}(h:sg=true)(n:x=nuS m w b)(d:y=cl+1)(f:z=r+1)(g:l=laS w):[27,91,60]++itz x++[59]++itz y++[59]++itz z++l=moS sg m w b r cl:=by
 subst n d f g;unfold moS;rw[A3 (by rw[h];decide)]
def C13{w z:Int}{l:C8}(h:sg=true)(o:x=nuS m w b)(d:y=cl+1)(f:z=r+1)(n:l=laS w)(h0:0<=x)(h1:0<=y)(g:0<=z):[27,91,60]++Lib.decDigits x.toNat++[59]++Lib.decDigits y.toNat++[59]++Lib.decDigits z.toNat++l=moS sg m w b r cl:=by
 rw[kI h0,kI h1,kI g];exact A8r h o d f n
def qA(n:Int)(h0:0<=n)(h:n<10000):(itz n).length<=21:=NQ A0 A0
def KI(n:Int)(h0:0<=n)(h:n<10000):(Lib.decDigits n.toNat).length<=40:=bA A0 A0
noncomputable def C0Q:L5:=⟨_,fun d=>(.cons (B3t d) .nil)⟩
def oD:List U->Option (Nat×List U)
 | [.bool sg,.int .i64 k,.int .i64 c,.int .i64 m,.int .i64 w,.int .i64 b,.int .i64 r,.int .i64 cl,.str t]=>if msP m w b r cl then some (0,[.str (moS sg m w b r cl)])else none
 | _=>none
def A0C(sg:Bool)(k:Int)(c:Int)(m:Int)(w:Int)(b:Int)(r:Int)(cl:Int)(t:C8)(d:msP m w b r cl):oD [.bool sg,.int .i64 k,.int .i64 c,.int .i64 m,.int .i64 w,.int .i64 b,.int .i64 r,.int .i64 cl,.str t]=some (0,[.str (moS sg m w b r cl)]):=A4 d
def A4P(n:Nat):Tr:=.lt 4 (.conv .u8) [h3 23]<|aA [jI 33,h3 7]<|.lt 4 (.conv .u8) [h3 (n+1)]<|aA [jI 33,h3 6]<|.lt 4 (.conv .u8) [h3 (n+3)]<|.lt 9 (.mks) [h n 4,h (n+2) 4,h (n+4) 4]<|aC [.string ⟨⟨[27,91,77]⟩⟩,h (n+5) 9]<|.ret [h (n+6) 9]
def MC(a0:Nat)(d:Nat):Tr:=aC [.string ⟨⟨[27,91,60]⟩⟩,h a0 9]<|aC [h d 9,.string ⟨⟨[59]⟩⟩]<|aA [h3 7,jI 1]<|.fn cT [h3 (d+2)] 1<|aC [h (d+1) 9,h (d+3) 9]<|aC [h (d+4) 9,.string ⟨⟨[59]⟩⟩]<|aA [h3 6,jI 1]<|.fn cT [h3 (d+6)] 1<|aC [h (d+5) 9,h (d+7) 9]<|aC [h (d+8) 9,.string ⟨⟨[109]⟩⟩]<|.ret [h (d+9) 9]
def A4O(n:Nat):Tr:=MC 24 n
def MB(a0:Nat)(d:Nat):Tr:=aC [.string ⟨⟨[27,91,60]⟩⟩,h a0 9]<|aC [h d 9,.string ⟨⟨[59]⟩⟩]<|aA [h3 7,jI 1]<|.fn cT [h3 (d+2)] 1<|aC [h (d+1) 9,h (d+3) 9]<|aC [h (d+4) 9,.string ⟨⟨[59]⟩⟩]<|aA [h3 6,jI 1]<|.fn cT [h3 (d+6)] 1<|aC [h (d+5) 9,h (d+7) 9]<|aC [h (d+8) 9,.string ⟨⟨[77]⟩⟩]<|.ret [h (d+9) 9]
def A4N(n:Nat):Tr:=MB 24 n
def MA(a0:Nat)(d:Nat)(a2:Nat):Tr:=aA [jI 32,h3 d]<|.lt 4 (.conv .u8) [h3 a2]<|aA [jI 33,h3 (a0+1)]<|.lt 4 (.conv .u8) [h3 (a2+2)]<|aA [jI 33,h3 a0]<|.lt 4 (.conv .u8) [h3 (a2+4)]<|.lt 9 (.mks) [h (a2+1) 4,h (a2+3) 4,h (a2+5) 4]<|aC [.string ⟨⟨[27,91,77]⟩⟩,h (a2+6) 9]<|.ret [h (a2+7) 9]
def B1g:Tr:=.lt 3 (.bin .and) [h3 3,jI 1]<|.lt 3 (.bin .mul) [jI 4,h3 9]<|aA [h3 5,h3 10]<|.lt 3 (.bin .quo) [h3 3,jI 2]<|.lt 3 (.bin .and) [h3 12,jI 1]<|.lt 3 (.bin .mul) [jI 8,h3 13]<|aA [h3 11,h3 14]<|.lt 3 (.bin .quo) [h3 3,jI 4]<|.lt 3 (.bin .mul) [jI 16,h3 16]<|aA [h3 15,h3 17]<|F3 4 19 2 (aA [h3 18,jI 32]<|F3 4 21 3 (aA [h3 20,jI 64]<|J5 0 23 (MA 6 22 24) (F3 4 24 1 (.fn cT [h3 22] 1<|MC 25 26) (.fn cT [h3 22] 1<|MB 25 26))) (J5 0 22 (aA [jI 32,h3 20]<|A4P 24) (F3 4 23 1 (.fn cT [h3 20] 1<|A4O 25) (.fn cT [h3 20] 1<|A4N 25)))) (F3 4 20 3 (aA [h3 18,jI 64]<|J5 0 22 (aA [jI 32,h3 21]<|A4P 24) (F3 4 23 1 (.fn cT [h3 21] 1<|A4O 25) (.fn cT [h3 21] 1<|A4N 25))) (J5 0 21 (MA 6 18 22) (F3 4 22 1 (.fn cT [h3 18] 1<|MC 23 24) (.fn cT [h3 18] 1<|MB 23 24))))
def B1h{G}(n:I6 G):I8 prog G 70 [.s 8,.a [3,3,3,3,3,3,3,9]] oD [.s 9]:=by
 refine D0 (d:=60) B1g (cxg (C0Q.2 n) .nil) n ⟨f70,_,func70,rfl⟩ C3 C3 ?_;intro us outs f;unfold oD at f;split at f
 .skip;rename_i sg k c m w b r cl t;split at f
  .rename_i o;cases f;have hm:=(EI m w b r cl).1 o;have u:=A5u w;have l1:=KI (cl+1) A0 A0;have l2:=KI (r+1) A0 A0;have l3:=KI (b+4*(m%2)+8*(m / 2%2)+16*(m / 4)) A0 A0;have q:=KI ((b+4*(m%2)+8*(m / 2%2)+16*(m / 4))+32) A0 A0;have h:=KI ((b+4*(m%2)+8*(m / 2%2)+16*(m / 4))+64) A0 A0;have v:=KI ((b+4*(m%2)+8*(m / 2%2)+16*(m / 4))+32+64) A0 A0;unfold B1g;refine w0 (.cons 8 _ (.cons 7 _ (.cons 6 _ (.cons 5 _ (.cons 4 _ (.cons 3 _ (.cons 2 _ (.cons 1 _ (.cons 0 _ (.nil)))))))))) ?_;repeat (first|refine V1 ?_|refine O0 ?_|refine w1 (.bin .add) (e:=X3 _ _ (by simp only[B1,B6,E0,x5];omega)) (k':=?_)|refine m5 ?_|refine X1 ?_|refine w31 cT (e:=A1K _ A0) (k':=?_)|refine w4 (fun g=>?_) fun g=>?_|refine w4B (fun g=>?_) fun g=>?_|(refine w7 [.str _] ?_;rotate_left)|refine Y3 ?_|refine iD ?_|refine R8 ?_|refine VY ?_|refine CV ?_|refine PZ ?_|refine w1 (.bin .quo) (e:=nO _ _ _ A0) (k':=?_)|refine w1 (.mks) (e:=x6 [_,_,_] (by simp only[B7,H7,or_false,forall_eq_or_imp,forall_eq];omega)) (k':=?_)|refine w1 (.bin .and) (e:=fA 1 2 B8 B8 B8) (k':=?_))
   all_goals
    refine G2 (fun z=>[U.str z]) ?_;first|exact A8s (by first|assumption|(simp_all;done)) (by unfold nuS;omega) A0 A0|exact C13 (by first|assumption|(simp_all;done)) (by unfold nuS;omega) A0 A0 (by unfold laS;first|exact(A4 ‹_›).symm|exact(A3 ‹_›).symm) A0 A0 A0|(exfalso;omega)
  .cases f
 .cases f
noncomputable def C01:L5:=⟨_,fun d=>(.cons (A52 d) .nil)⟩
def UE:List U->Option (Nat×List U)
 | [.bool b0,.bool b1,.bool ck,.bool b3,.bool b4,.bool b5,.bool b6,.bool pa,.bool fo,.bool b9,.bool b10,.int .i64 mo,.bool sg,.int .i64 k,.int .i64 c,.int .i64 m,.int .i64 w,.int .i64 b,.int .i64 r,.int .i64 cl,.str t]=>if msP m w b r cl then some (0,[.str (moS sg m w b r cl)])else none
 | _=>none
def A9a(o:Bool)(v:Bool)(ck:Bool)(h:Bool)(g:Bool)(f:Bool)(u:Bool)(pa:Bool)(fo:Bool)(q:Bool)(d:Bool)(mo:Int)(sg:Bool)(k:Int)(c:Int)(m:Int)(w:Int)(b:Int)(r:Int)(cl:Int)(t:C8)(n:msP m w b r cl):UE [.bool o,.bool v,.bool ck,.bool h,.bool g,.bool f,.bool u,.bool pa,.bool fo,.bool q,.bool d,.int .i64 mo,.bool sg,.int .i64 k,.int .i64 c,.int .i64 m,.int .i64 w,.int .i64 b,.int .i64 r,.int .i64 cl,.str t]=some (0,[.str (moS sg m w b r cl)]):=A4 n
def B3i:Tr:=.lt 3 (.bin .and) [h3 15,jI 1]<|.lt 3 (.bin .shl) [h3 21,.int .u64 (2)]<|.lt 3 (.bin .or) [h3 17,h3 22]<|.lt 3 (.bin .and) [h3 15,jI 2]<|.lt 3 (.bin .shl) [h3 24,.int .u64 (2)]<|.lt 3 (.bin .or) [h3 23,h3 25]<|.lt 3 (.bin .and) [h3 15,jI 4]<|.lt 3 (.bin .shl) [h3 27,.int .u64 (2)]<|.lt 3 (.bin .or) [h3 26,h3 28]<|aI [h3 16,jI 4]<|S7 30 (.lt 3 (.sel) [h3 16,jI 0,jI 0,jI 32,jI 64]<|.lt 3 (.bin .or) [h3 29,h3 31]<|J5 12 33 (MA 18 32 34) (F3 16 34 1 (.fn dE [h3 32] 1<|aC [.string ⟨⟨[27,91,60]⟩⟩,h 35 9]<|aC [h 36 9,.string ⟨⟨[59]⟩⟩]<|aA [h3 19,jI 1]<|.fn dE [h3 38] 1<|aC [h 37 9,h 39 9]<|aC [h 40 9,.string ⟨⟨[59]⟩⟩]<|aA [h3 18,jI 1]<|.fn dE [h3 42] 1<|aC [h 41 9,h 43 9]<|aC [h 44 9,.string ⟨⟨[109]⟩⟩]<|L6 45) (.fn dE [h3 32] 1<|aC [.string ⟨⟨[27,91,60]⟩⟩,h 35 9]<|aC [h 36 9,.string ⟨⟨[59]⟩⟩]<|aA [h3 19,jI 1]<|.fn dE [h3 38] 1<|aC [h 37 9,h 39 9]<|aC [h 40 9,.string ⟨⟨[59]⟩⟩]<|aA [h3 18,jI 1]<|.fn dE [h3 42] 1<|aC [h 41 9,h 43 9]<|aC [h 44 9,.string ⟨⟨[77]⟩⟩]<|L6 45)))
def B9A{G}(g:I6 G):I8 prog G 51 [.a [8,8,8,8,8,8,8,8,8,8,8,3,8],.a [3,3,3,3,3,3,3,9]] UE [.s 9]:=by
 refine D0 (d:=60) B3i (cxg (C01.2 g) .nil) g ⟨f51,_,func51,rfl⟩ C3 C3 ?_;intro us outs f;unfold UE at f;split at f
 .skip;rename_i v C ck D u q A pa fo h o mo sg k c m w b r cl t;split at f
  .rename_i n;cases f;have hm:=(EI m w b r cl).1 n;have B:=A5u w;have l1:=qA (cl+1) A0 A0;have l2:=qA (r+1) A0 A0;have z2:=B8E w A0 A0;have l3:=qA (b+m%2*4+m / 2%2*2*4+m / 4%2*4*4+([0,0,32,64]:List Int).getD w.toNat 0) A0 A0;unfold B3i;refine s0L ?_;show Tr.sav _ _ (.cons 20 _ (.cons 19 _ (.cons 18 _ (.cons 17 _ (.cons 16 _ (.cons 15 _ (.cons 14 _ (.cons 13 _ (.cons 12 _ (.cons 11 _ (.cons 10 _ (.cons 9 _ (.cons 8 _ (.cons 7 _ (.cons 6 _ (.cons 5 _ (.cons 4 _ (.cons 3 _ (.cons 2 _ (.cons 1 _ (.cons 0 _ (.nil))))))))))))))))))))));refine Wk.s ?_;refine w1 (.bin .and) (e:=fA 1 2 B8 B8 B8) (k':=?_);first|refine w1 (.bin .shl) (e:=CJ 4 B8 B8 (mO A0 A0)) (k':=?_)|refine w1 (.bin .shl) (e:=wV 4 B8 B8) (k':=?_)
   first|refine w1 (.bin .or) (e:=yN 2 4 9223372036854775808 B8 B8 A0 A0 A0 A0 A0) (k':=?_)|refine w1 (.bin .or) (e:=FL 2 4 9223372036854775808 B8 B8 A0 A0 A0 A0 A0) (k':=?_)|refine w1 (.bin .or) (e:=qL _ _ _) (k':=?_)
   refine w1 (.bin .and) (e:=OJ _) (k':=?_);first|refine w1 (.bin .shl) (e:=CJ 4 B8 B8 (mO A0 A0)) (k':=?_)|refine w1 (.bin .shl) (e:=wV 4 B8 B8) (k':=?_)
   first|refine w1 (.bin .or) (e:=yN 3 8 9223372036854775808 B8 B8 A0 A0 A0 A0 A0) (k':=?_)|refine w1 (.bin .or) (e:=FL 3 8 9223372036854775808 B8 B8 A0 A0 A0 A0 A0) (k':=?_)|refine w1 (.bin .or) (e:=qL _ _ _) (k':=?_)
   refine w1 (.bin .and) (e:=CL _) (k':=?_);first|refine w1 (.bin .shl) (e:=CJ 4 B8 B8 (mO A0 A0)) (k':=?_)|refine w1 (.bin .shl) (e:=wV 4 B8 B8) (k':=?_)
   first|refine w1 (.bin .or) (e:=yN 4 16 9223372036854775808 B8 B8 A0 A0 A0 A0 A0) (k':=?_)|refine w1 (.bin .or) (e:=FL 4 16 9223372036854775808 B8 B8 A0 A0 A0 A0 A0) (k':=?_)|refine w1 (.bin .or) (e:=qL _ _ _) (k':=?_)
   refine A29 ?_;refine w5 (fun g0=>?_) fun g0=>?_
   .refine w8 ?_;first|omega
   refine w1 (.sel) (e:=nN [0,0,32,64] A0 (by show _<((4:Nat):Int);omega)) (k':=?_);first|refine w1 (.bin .or) (e:=yN 5 32 9223372036854775808 B8 B8 A0 A0 A0 A0 A0) (k':=?_)|refine w1 (.bin .or) (e:=FL 5 32 9223372036854775808 B8 B8 A0 A0 A0 A0 A0) (k':=?_)|refine w1 (.bin .or) (e:=qL _ _ _) (k':=?_)
   first|refine Y3 ?_|refine iD ?_
   first|refine w4 (fun g1=>?_) (fun g1=>?_)|refine w4B (fun g1=>?_) (fun g1=>?_)
   .first|refine V1 ?_|refine O0 ?_
    first|refine m5 ?_|refine X1 ?_
    first|refine V1 ?_|refine O0 ?_
    first|refine m5 ?_|refine X1 ?_
    first|refine V1 ?_|refine O0 ?_
    first|refine m5 ?_|refine X1 ?_
    refine w1 (.mks) (e:=x6 [_,_,_] (by simp only[B7,H7,or_false,forall_eq_or_imp,forall_eq];omega)) (k':=?_);refine w1 (.bin .add) (e:=X3 _ _ (by simp only[B1,B6,E0,x5];omega)) (k':=?_);refine w7 [.str _] ?_;refine G2 (fun z=>[U.str z]) ?_;first|exact A8s (by first|assumption|(simp_all;done)) (by unfold nuS;omega) A0 A0|exact A8r (by first|assumption|(simp_all;done)) (by unfold nuS;omega) A0 A0 (by unfold laS;first|exact(A4 ‹_›).symm|exact(A3 ‹_›).symm)|(exfalso;omega)
   refine R8 ?_;refine w4 (fun g2=>?_) fun g2=>?_
   .refine w31 dE (e:=nK _ A0) (k':=?_);refine w1 (.bin .add) (e:=X3 _ _ (by simp only[B1,B6,E0,x5];omega)) (k':=?_);refine w1 (.bin .add) (e:=X3 _ _ (by simp only[B1,B6,E0,x5];omega)) (k':=?_);first|refine V1 ?_|refine O0 ?_
    refine w31 dE (e:=nK _ A0) (k':=?_);refine w1 (.bin .add) (e:=X3 _ _ (by simp only[B1,B6,E0,x5];omega)) (k':=?_);refine w1 (.bin .add) (e:=X3 _ _ (by simp only[B1,B6,E0,x5];omega)) (k':=?_);first|refine V1 ?_|refine O0 ?_
    refine w31 dE (e:=nK _ A0) (k':=?_);refine w1 (.bin .add) (e:=X3 _ _ (by simp only[B1,B6,E0,x5];omega)) (k':=?_);refine w1 (.bin .add) (e:=X3 _ _ (by simp only[B1,B6,E0,x5];omega)) (k':=?_);refine w7 [.str _] ?_;refine G2 (fun z=>[U.str z]) ?_;first|exact A8s (by first|assumption|(simp_all;done)) (by unfold nuS;omega) A0 A0|exact A8r (by first|assumption|(simp_all;done)) (by unfold nuS;omega) A0 A0 (by unfold laS;first|exact(A4 ‹_›).symm|exact(A3 ‹_›).symm)|(exfalso;omega)
   refine w31 dE (e:=nK _ A0) (k':=?_);refine w1 (.bin .add) (e:=X3 _ _ (by simp only[B1,B6,E0,x5];omega)) (k':=?_);refine w1 (.bin .add) (e:=X3 _ _ (by simp only[B1,B6,E0,x5];omega)) (k':=?_);first|refine V1 ?_|refine O0 ?_
   refine w31 dE (e:=nK _ A0) (k':=?_);refine w1 (.bin .add) (e:=X3 _ _ (by simp only[B1,B6,E0,x5];omega)) (k':=?_);refine w1 (.bin .add) (e:=X3 _ _ (by simp only[B1,B6,E0,x5];omega)) (k':=?_);first|refine V1 ?_|refine O0 ?_
   refine w31 dE (e:=nK _ A0) (k':=?_);refine w1 (.bin .add) (e:=X3 _ _ (by simp only[B1,B6,E0,x5];omega)) (k':=?_);refine w1 (.bin .add) (e:=X3 _ _ (by simp only[B1,B6,E0,x5];omega)) (k':=?_);refine w7 [.str _] ?_;refine G2 (fun z=>[U.str z]) ?_;first|exact A8s (by first|assumption|(simp_all;done)) (by unfold nuS;omega) A0 A0|exact A8r (by first|assumption|(simp_all;done)) (by unfold nuS;omega) A0 A0 (by unfold laS;first|exact(A4 ‹_›).symm|exact(A3 ‹_›).symm)|(exfalso;omega)
  .cases f
 .cases f
def A9G(w:Int)(h0:0<=w)(h1:w<=1):evU .sel [.int .i64 w,.str [79],.str [73]]=.str (if w=0 then[79]else[73]):=by
 have:w=0∨w=1:=A0;rcases this with rfl|rfl<;>rfl
def B8a{w:Int}(h:U9 k c m w b r cl t)(e:k=1):aK c m:=by
 unfold U9 at h;rcases h with h|h|h|h
 .exact h.2.2.2.2.2.2
 .omega
 .omega
 .omega
def A0z{w:Int}(h:U9 k c m w b r cl t)(e:k=2):msP m w b r cl:=by
 unfold U9 at h;rcases h with h|h|h|h
 .omega
 .exact h.2.2.2
 .omega
 .omega
def B8Z{w:Int}(h:U9 k c m w b r cl t):1<=k/\k<=4/\t.length<=1000/\(k=4->0<=w/\w<=1):=by
 unfold U9 at h;rcases h with⟨a,_,_,_,_,e,_⟩|⟨a,_,e,_⟩|h|⟨a,_,_,_,_,_,e,f,g⟩
 .subst e;refine⟨A0,A0,W1 _,fun h=>by omega⟩
 .subst e;refine⟨A0,A0,W1 _,fun h=>by omega⟩
 .refine⟨A0,A0,h.2.2.2.2.2.2.2.1,fun h=>by omega⟩
 .subst e;refine⟨A0,A0,W1 _,fun h=>⟨f,g⟩⟩
def C12{w:Int}(h:msP m w b r cl):b<=3:=by have:=(EI m w b r cl).1 h;omega
def A5S{mo w:Int}(h:msP m w b r cl):msP (YH mo k m) w (YI sg k w b) r cl:=by
 have h:=(EI m w b r cl).1 h;refine(EI _ _ _ _ _).2 ?_;unfold YH YI
 (repeat' split)<;>omega
def B7B{w:Int}(d:z=true)(h:msP m w b r cl):oD [.bool sg,.int .i64 (ifI z k),.int .i64 (ifI z c),.int .i64 (ifI z m),.int .i64 (ifI z w),.int .i64 (ifI z b),.int .i64 (ifI z r),.int .i64 (ifI z cl),.str (ifT z t)]=some (0,[.str (moS sg m w b r cl)]):=by
 subst d;exact A0C sg k c m w b r cl t h
def enS(ck pa fo sg:Bool)(mo k c m w b r cl:Int)(t:C8):C8 :=
 if k=3/\pa=false then t else if isS pa fo mo k w b=false then[]else if k=1 then keS ck c m else if k=2 then moS sg (YH mo k m) w (YI sg k w b) r cl
 else if k=3 then[27,91,50,48,48,126]++t++[27,91,50,48,49,126]else[27,91]++(if w=0 then[79]else[73])
noncomputable def C0c:L5:=⟨_,fun d=>(.cons (B7U d) (.cons (A4U d) (.cons (B1h d) .nil)))⟩
def RN:List U->Option (Nat×List U)
 | [.bool b0,.bool b1,.bool ck,.bool b3,.bool b4,.bool b5,.bool b6,.bool pa,.bool fo,.bool b9,.bool b10,.int .i64 mo,.bool sg,.int .i64 k,.int .i64 c,.int .i64 m,.int .i64 w,.int .i64 b,.int .i64 r,.int .i64 cl,.str t]=>if U9 k c m w b r cl t then some (0,[.str (enS ck pa fo sg mo k c m w b r cl t)])else none
 | _=>none
def A8T(o:Bool)(v:Bool)(ck:Bool)(h:Bool)(g:Bool)(f:Bool)(u:Bool)(pa:Bool)(fo:Bool)(q:Bool)(d:Bool)(mo:Int)(sg:Bool)(k:Int)(c:Int)(m:Int)(w:Int)(b:Int)(r:Int)(cl:Int)(t:C8)(n:U9 k c m w b r cl t):RN [.bool o,.bool v,.bool ck,.bool h,.bool g,.bool f,.bool u,.bool pa,.bool fo,.bool q,.bool d,.int .i64 mo,.bool sg,.int .i64 k,.int .i64 c,.int .i64 m,.int .i64 w,.int .i64 b,.int .i64 r,.int .i64 cl,.str t]=some (0,[.str (enS ck pa fo sg mo k c m w b r cl t)]):=A4 n
def A4h(n:Nat):Tr:=J5 29 n (.ret [.string ⟨⟨[]⟩⟩]) (F3 13 (n+1) 1 (.fn zP [h 2 8,h3 14,h3 15] 1<|L6 (n+2)) (F3 13 (n+2) 2 (.fn oD [h 12 8,h3 21,h3 22,h3 23,h3 24,h3 25,h3 26,h3 27,h 28 9] 1<|L6 (n+3)) (F3 13 (n+3) 3 (aC [.string ⟨⟨[27,91,50,48,48,126]⟩⟩,h 20 9]<|aC [h (n+4) 9,.string ⟨⟨[27,91,50,48,49,126]⟩⟩]<|L6 (n+5)) (.lt 9 (.sel) [h3 16,.string ⟨⟨[79]⟩⟩,.string ⟨⟨[73]⟩⟩]<|aC [.string ⟨⟨[27,91]⟩⟩,h (n+4) 9]<|L6 (n+5)))))
def B10:Tr:=.fn RT [h 0 8,h 1 8,h 2 8,h 3 8,h 4 8,h 5 8,h 6 8,h 7 8,h 8 8,h 9 8,h 10 8,h3 11,h 12 8,h3 13,h3 14,h3 15,h3 16,h3 17,h3 18,h3 19,h 20 9] 9<|F3 13 30 3 (J5 7 31 (L6 20) (A4h 32)) (A4h 31)
def B7J{G}(n:I6 G):I8 prog G 43 [.a [8,8,8,8,8,8,8,8,8,8,8,3,8],.a [3,3,3,3,3,3,3,9]] RN [.s 9]:=by
 refine D0 (d:=60) B10 (cxg (C0c.2 n) .nil) n ⟨f43,_,func43,rfl⟩ C3 C3 ?_;intro us outs f;unfold RN at f;split at f
 .skip;rename_i h D ck E v u B pa fo A q mo sg k c m w b r cl t;split at f
  .rename_i o;cases f;have ⟨C,z2,z3,z4⟩:=B8Z o;have z5:k≠4∨(0<=w/\w<=1):=by
    by_cases e:k=4
    .exact .inr (z4 e)
    .exact .inl e
   unfold B10;refine s0L ?_;show Tr.sav _ _ (.cons 20 _ (.cons 19 _ (.cons 18 _ (.cons 17 _ (.cons 16 _ (.cons 15 _ (.cons 14 _ (.cons 13 _ (.cons 12 _ (.cons 11 _ (.cons 10 _ (.cons 9 _ (.cons 8 _ (.cons 7 _ (.cons 6 _ (.cons 5 _ (.cons 4 _ (.cons 3 _ (.cons 2 _ (.cons 1 _ (.cons 0 _ (.nil))))))))))))))))))))));refine Wk.s ?_;repeat (first|refine w4 (fun g=>?_) fun g=>?_|refine w4B (fun g=>?_) fun g=>?_|(refine w7 [.str _] ?_;rotate_left)|refine R8 ?_|refine Y3 ?_|refine iD ?_|refine w1 (.bin .add) (e:=X3 _ _ (by simp only[B1,B6,E0];first|omega|(split<;>simp))) (k':=?_)|refine w31 zP (e:=A0D _ _ _ (B8a o ‹_›)) (k':=?_)|refine w31 oD (e:=B7B (by first|assumption|(simp_all;done)) (A5S (A0z o ‹_›))) (k':=?_)|refine w1 (.sel) (e:=A9G _ A0 A0) (k':=?_)|(refine w3 RT (e:=A8Y _ _ _ _ _ _ _ _ _ _ _ _ _ _ _ _ _ _ _ _ _ (fun e=>C12 (A0z o e))) (k':=?_);show Wk _ _ (.cons _ _ (.cons _ _ (.cons _ _ (.cons _ _ (.cons _ _ (.cons _ _ (.cons _ _ (.cons _ _ (.cons _ _ _)))))))))))
   all_goals
    refine G2 (fun z=>[U.str z]) ?_;unfold enS;first|(simp_all;done)|(simp_all;omega)
  .cases f
 .cases f
def moP(mo:Int):Prop:=mo=0∨mo=9∨mo=1000∨mo=1002∨mo=1003
instance(mo:Int):Decidable (moP mo):=by unfold moP;infer_instance
noncomputable def C0G:L5:=⟨_,fun d=>.nil⟩
def QZ:List U->Option (Nat×List U)
 | [.bool b0,.bool b1,.bool ck,.bool b3,.bool b4,.bool b5,.bool b6,.bool pa,.bool fo,.bool b9,.bool b10,.int .i64 mo,.bool sg]=>some (0,[.bool (decide (moP mo))])
 | _=>none
def A8B(v:Bool)(o:Bool)(ck:Bool)(u:Bool)(q:Bool)(n:Bool)(g:Bool)(pa:Bool)(fo:Bool)(f:Bool)(d:Bool)(mo:Int)(sg:Bool):QZ [.bool v,.bool o,.bool ck,.bool u,.bool q,.bool n,.bool g,.bool pa,.bool fo,.bool f,.bool d,.int .i64 mo,.bool sg]=some (0,[.bool (decide (moP mo))]):=rfl
def B1G:Tr:=F3 11 13 0 x4 (F3 11 14 9 x4 (F3 11 15 1000 x4 (F3 11 16 1002 x4 (fO 11 17 1003))))
def B6v{G}(f:I6 G):I8 prog G 68 [.a [8,8,8,8,8,8,8,8,8,8,8,3,8]] QZ [.s 8]:=by
 refine D0 (d:=60) B1G (cxg (C0G.2 f) .nil) f ⟨f68,_,func68,rfl⟩ C3 C3 ?_;intro us outs n;unfold QZ at n;split at n
 .skip;rename_i v A ck B u q h pa fo w o mo sg;cases n;unfold B1G;refine w0 (.cons 12 _ (.cons 11 _ (.cons 10 _ (.cons 9 _ (.cons 8 _ (.cons 7 _ (.cons 6 _ (.cons 5 _ (.cons 4 _ (.cons 3 _ (.cons 2 _ (.cons 1 _ (.cons 0 _ (.nil)))))))))))))) ?_;repeat (first|refine R8 ?_|(refine w7 [.bool _] ?_;rotate_left)|refine w4 (fun g=>?_) fun g=>?_)
  all_goals
   refine l1 ?_;symm;first|exact D3 (by unfold moP;omega)|exact C9 (by unfold moP;omega)|(refine decide_eq_decide.2 ?_;unfold moP;omega)
 .cases n
noncomputable def C0j:L5:=⟨_,fun d=>(.cons (B6v d) (.cons (B7S d) .nil))⟩
def RR:List U->Option (Nat×List U)
 | [.bool b0,.bool b1,.bool ck,.bool b3,.bool b4,.bool b5,.bool b6,.bool pa,.bool fo,.bool b9,.bool b10,.int .i64 mo,.bool sg,.int .i64 k,.int .i64 c,.int .i64 m,.int .i64 w,.int .i64 b,.int .i64 r,.int .i64 cl,.str t]=>if -9223372036854775808<=m/\m<=9223372036854775807/\(t.length:Int)<=140737488351232 then some (0,[.int .i64 (if moP mo then(if U9 k c m w b r cl t then 0 else 430)else 260)])else none
 | _=>none
def A8X(o:Bool)(v:Bool)(ck:Bool)(h:Bool)(g:Bool)(f:Bool)(u:Bool)(pa:Bool)(fo:Bool)(q:Bool)(d:Bool)(mo:Int)(sg:Bool)(k:Int)(c:Int)(m:Int)(w:Int)(b:Int)(r:Int)(cl:Int)(t:C8)(n : -9223372036854775808<=m/\m<=9223372036854775807/\(t.length:Int)<=140737488351232):RR [.bool o,.bool v,.bool ck,.bool h,.bool g,.bool f,.bool u,.bool pa,.bool fo,.bool q,.bool d,.int .i64 mo,.bool sg,.int .i64 k,.int .i64 c,.int .i64 m,.int .i64 w,.int .i64 b,.int .i64 r,.int .i64 cl,.str t]=some (0,[.int .i64 (if moP mo then(if U9 k c m w b r cl t then 0 else 430)else 260)]):=A4 n
def B2M:Tr:=.fn QZ [h 0 8,h 1 8,h 2 8,h 3 8,h 4 8,h 5 8,h 6 8,h 7 8,h 8 8,h 9 8,h 10 8,h3 11,h 12 8] 1<|J5 21 22 (K3 260) (.fn RQ [h3 13,h3 14,h3 15,h3 16,h3 17,h3 18,h3 19,h 20 9] 1<|.ret [h3 23])
def B7T{G}(n:I6 G):I8 prog G 42 [.a [8,8,8,8,8,8,8,8,8,8,8,3,8],.a [3,3,3,3,3,3,3,9]] RR [.s 3]:=by
 refine D0 (d:=60) B2M (cxg (C0j.2 n) .nil) n ⟨f42,_,func42,rfl⟩ C3 C3 ?_;intro us outs f;unfold RR at f;split at f
 .skip;rename_i h C ck D v u B pa fo A q mo sg k c m w b r cl t;split at f
  .rename_i o;cases f;unfold B2M;refine s0L ?_;show Tr.sav _ _ (.cons 20 _ (.cons 19 _ (.cons 18 _ (.cons 17 _ (.cons 16 _ (.cons 15 _ (.cons 14 _ (.cons 13 _ (.cons 12 _ (.cons 11 _ (.cons 10 _ (.cons 9 _ (.cons 8 _ (.cons 7 _ (.cons 6 _ (.cons 5 _ (.cons 4 _ (.cons 3 _ (.cons 2 _ (.cons 1 _ (.cons 0 _ (.nil))))))))))))))))))))));refine Wk.s ?_;repeat (first|refine Y3 ?_|refine iD ?_|refine w4 (fun g=>?_) fun g=>?_|refine w4B (fun g=>?_) fun g=>?_|(refine w7 [.int .i64 _] ?_;rotate_left)|refine w31 QZ (e:=A8B _ _ _ _ _ _ _ _ _ _ _ _ _) (k':=?_)|refine w31 RQ (e:=A8W _ _ _ _ _ _ _ _ o) (k':=?_))
   all_goals
    refine l0 ?_;first|(rw[A4 (F4 (by first|assumption|(simp_all;done)))];done)|(rw[A3 (of_decide_eq_false (by first|assumption|(simp_all;done)))];done)|(simp_all;done)
  .cases f
 .cases f
def AZ(mo k c m w b r cl:Int)(t:C8):Int:=if moP mo then(if U9 k c m w b r cl t then 0 else 430)else 260
def B3h{mo w:Int}(h:AZ mo k c m w b r cl t=0):moP mo/\U9 k c m w b r cl t:=by
 unfold AZ at h;by_cases h1:moP mo
 .rw[A4 h1]at h;by_cases d:U9 k c m w b r cl t
  .exact⟨h1,d⟩
  .rw[A3 d]at h;cases h
 .rw[A3 h1]at h;cases h
def VA(e:Int)(s:C8):D4:=if e=0 then some (bI s)else none
def B4E(h:e≠0):VA e s=none:=A3 h
noncomputable def C0O:L5:=⟨_,fun d=>(.cons (B7T d) (.cons (B7J d) .nil))⟩
def RE:List U->Option (Nat×List U)
 | [.bool b0,.bool b1,.bool ck,.bool b3,.bool b4,.bool b5,.bool b6,.bool pa,.bool fo,.bool b9,.bool b10,.int .i64 mo,.bool sg,.int .i64 k,.int .i64 c,.int .i64 m,.int .i64 w,.int .i64 b,.int .i64 r,.int .i64 cl,.str t]=>if -9223372036854775808<=m/\m<=9223372036854775807/\(t.length:Int)<=140737488351232 then some (0,[B2 rB (VA (AZ mo k c m w b r cl t) (enS ck pa fo sg mo k c m w b r cl t)),.int .i64 (AZ mo k c m w b r cl t)])else none
 | _=>none
def A8F(o:Bool)(v:Bool)(ck:Bool)(h:Bool)(g:Bool)(f:Bool)(u:Bool)(pa:Bool)(fo:Bool)(q:Bool)(d:Bool)(mo:Int)(sg:Bool)(k:Int)(c:Int)(m:Int)(w:Int)(b:Int)(r:Int)(cl:Int)(t:C8)(n : -9223372036854775808<=m/\m<=9223372036854775807/\(t.length:Int)<=140737488351232):RE [.bool o,.bool v,.bool ck,.bool h,.bool g,.bool f,.bool u,.bool pa,.bool fo,.bool q,.bool d,.int .i64 mo,.bool sg,.int .i64 k,.int .i64 c,.int .i64 m,.int .i64 w,.int .i64 b,.int .i64 r,.int .i64 cl,.str t]=some (0,[B2 rB (VA (AZ mo k c m w b r cl t) (enS ck pa fo sg mo k c m w b r cl t)),.int .i64 (AZ mo k c m w b r cl t)]):=A4 n
def P2(a0:Nat):Tr:=.ret [h a0 11,jI 0]
def B1d:Tr:=.fn RR [h 0 8,h 1 8,h 2 8,h 3 8,h 4 8,h 5 8,h 6 8,h 7 8,h 8 8,h 9 8,h 10 8,h3 11,h 12 8,h3 13,h3 14,h3 15,h3 16,h3 17,h3 18,h3 19,h 20 9] 1<|dZ 21 22 0 (.dt 11 (.nilw 1) []<|.ret [h 23 11,h3 21]) (.fn RN [h 0 8,h 1 8,h 2 8,h 3 8,h 4 8,h 5 8,h 6 8,h 7 8,h 8 8,h 9 8,h 10 8,h3 11,h 12 8,h3 13,h3 14,h3 15,h3 16,h3 17,h3 18,h3 19,h 20 9] 1<|.dt 11 (.byt) [h 23 9]<|P2 24)
def B67{G}(g:I6 G):I8 prog G 18 [.a [8,8,8,8,8,8,8,8,8,8,8,3,8],.a [3,3,3,3,3,3,3,9]] RE [.s 11,.s 3]:=by
 refine D0 (d:=60) B1d (cxg (C0O.2 g) .nil) g ⟨f18,_,func18,rfl⟩ C3 C3 ?_;intro us outs f;unfold RE at f;split at f
 .skip;rename_i v B ck C u q A pa fo h o mo sg k c m w b r cl t;split at f
  .rename_i n;cases f;unfold B1d;refine s0L ?_;show Tr.sav _ _ (.cons 20 _ (.cons 19 _ (.cons 18 _ (.cons 17 _ (.cons 16 _ (.cons 15 _ (.cons 14 _ (.cons 13 _ (.cons 12 _ (.cons 11 _ (.cons 10 _ (.cons 9 _ (.cons 8 _ (.cons 7 _ (.cons 6 _ (.cons 5 _ (.cons 4 _ (.cons 3 _ (.cons 2 _ (.cons 1 _ (.cons 0 _ (.nil))))))))))))))))))))));refine Wk.s ?_;refine w31 RR (e:=A8X _ _ _ _ _ _ _ _ _ _ _ _ _ _ _ _ _ _ _ _ _ n) (k':=?_);refine oX ?_;refine w4 (fun g0=>?_) fun g0=>?_
   .refine w2 (.nilw 1) (r:=rB) (e:=G6 rfl) (k':=?_);refine w7 [B2 rB _,.int .i64 _] ?_;first|(rw[B4E (e:=AZ mo k c m w b r cl t) g0];rfl)|(rw[show AZ mo k c m w b r cl t=0 from K2.1 g0];rfl)
   refine w31 RN (e:=A8T _ _ _ _ _ _ _ _ _ _ _ _ _ _ _ _ _ _ _ _ _ (B3h (mo:=mo) (K2.1 g0)).2) (k':=?_);refine w2 (.byt) (r:=rB) (e:=CK _ rfl) (k':=?_);refine w7 [B2 rB _,.int .i64 _] ?_;first|(rw[B4E (e:=AZ mo k c m w b r cl t) g0];rfl)|(rw[show AZ mo k c m w b r cl t=0 from K2.1 g0];rfl)
  .cases f
 .cases f
def rI:Rw (Int×Int×Int×Int×Int×Int×Int×C8):=rC (m7 .i64) (rC (m7 .i64) (rC (m7 .i64) (rC (m7 .i64) (rC (m7 .i64) (rC (m7 .i64) (rC (m7 .i64) (r1 UT)))))))
def C1T{α:Type}{l r:List α}(h:l.length=r.length):(l.zip r).length=l.length:=by rw[List.length_zip];omega
def eqX(x y:j9):Bool:=(x.1 == y.1) && ((x.2.1 == y.2.1) && ((x.2.2.1 == y.2.2.1) && ((x.2.2.2.1 == y.2.2.2.1) && ((x.2.2.2.2.1 == y.2.2.2.2.1) && ((x.2.2.2.2.2.1 == y.2.2.2.2.2.1) && ((x.2.2.2.2.2.2.1 == y.2.2.2.2.2.2.1) && ((x.2.2.2.2.2.2.2 == y.2.2.2.2.2.2.2) && true)))))))
def neX(p:j9×j9):Bool:=!eqX p.1 p.2
def HK(a b:Option (List j9)):Bool:=decide ((el a).length=(el b).length) && (X7 neX ((el a).zip (el b)) 0).isNone
def B88{x y:j9}(h:eqX x y=true):x=y:=by
 obtain⟨H,a2,a3,a4,a5,v,D,A⟩:=x;obtain⟨C,E,G,w,u,B,I,F⟩:=y;simp[eqX]at h;obtain⟨h1,o,h3,n,f,q,d,g⟩:=h;subst h1 o h3 n f q d g;rfl
noncomputable def B97:L5:=⟨_,fun d=>.nil⟩
def zC:List U->Option (Nat×List U)
 | [u_a,u_b,.int .i64 i]=>(J3 rI u_a).bind fun a=>(J3 rI u_b).bind fun b=>if 0<=i/\i<=((el a).length:Int)/\(el a).length=(el b).length/\(el a).length<=140737488351232 then Z9 (X7 neX (((el a).zip (el b)).drop i.toNat) i) [] (fun _=>[])else none
 | _=>none
def vD(a:(Option (List (Int×Int×Int×Int×Int×Int×Int×C8))))(b:(Option (List (Int×Int×Int×Int×Int×Int×Int×C8))))(i:Int)(d:0<=i/\i<=((el a).length:Int)/\(el a).length=(el b).length/\(el a).length<=140737488351232):zC [B2 rI a,B2 rI b,.int .i64 i]=Z9 (X7 neX (((el a).zip (el b)).drop i.toNat) i) [] (fun _=>[]):=by
 simp only[zC,F1,C4];exact A4 d
def B0u:Q7:=⟨[(0,dat 7 0 18),(1,dat 8 1 18),(5,h 2 3)],[(7,.frz),(8,.frz)],3,[⟨.exit 0,[],[],0⟩,⟨.ret,[(4,.bool false)],[],0⟩]⟩
noncomputable def A3d:Code:=(f22.body).getD .skip
noncomputable def B0q:Code:=match H5 [true,true,false,true,false] A3d with|some (.loop x)=>x|_=>.skip
def B0t:f22.body=some A3d:=rfl
def B0s:H5 [true,true,false,true,false] A3d=some (.loop B0q):=C3
def B0r:Tr:=aD [h 0 18]<|aV 2 3 4 (.lt 8 (.inbs 8) [h3 2,h 0 18]<|S7 5 (.lt 3 (.get 8 0) [h 0 18,h3 2]<|.lt 3 (.get 8 1) [h 0 18,h3 2]<|.lt 3 (.get 8 2) [h 0 18,h3 2]<|.lt 3 (.get 8 3) [h 0 18,h3 2]<|.lt 3 (.get 8 4) [h 0 18,h3 2]<|.lt 3 (.get 8 5) [h 0 18,h3 2]<|.lt 3 (.get 8 6) [h 0 18,h3 2]<|.lt 9 (.get 8 7) [h 0 18,h3 2]<|.lt 8 (.inbs 8) [h3 2,h 1 18]<|S7 14 (.lt 3 (.get 8 0) [h 1 18,h3 2]<|.lt 3 (.get 8 1) [h 1 18,h3 2]<|.lt 3 (.get 8 2) [h 1 18,h3 2]<|.lt 3 (.get 8 3) [h 1 18,h3 2]<|.lt 3 (.get 8 4) [h 1 18,h3 2]<|.lt 3 (.get 8 5) [h 1 18,h3 2]<|.lt 3 (.get 8 6) [h 1 18,h3 2]<|.lt 9 (.get 8 7) [h 1 18,h3 2]<|.lt 8 (.eqs) [h3 6,h3 15,h3 7,h3 16,h3 8,h3 17,h3 9,h3 18,h3 10,h3 19,h3 11,h3 20,h3 12,h3 21,h 13 9,h 22 9]<|J5 23 24 (K3 1) (aA [h3 2,jI 1]<|.ret [jI (-1),h 0 18,h 1 18,h3 25])))) (K3 0)
def A3c:List U->Nat
 | [u_a,u_b,.int .i64 i]=>(match J3 rI u_a with|some a=>(match J3 rI u_b with|some b=>(((el a).length:Int)-i).toNat|none=>0)|none=>0)
 | _=>0
def A3b(a:(Option (List (Int×Int×Int×Int×Int×Int×Int×C8))))(b:(Option (List (Int×Int×Int×Int×Int×Int×Int×C8))))(i:Int):A3c [B2 rI a,B2 rI b,.int .i64 i]=(((el a).length:Int)-i).toNat:=by
 simp only[A3c,F1]
def B6g{G}(q:I6 G):∀ (E:Nat->U) (base:Nat),@U0 ⟨E,G⟩ prog base gl f22.ntmps B0q (O5 prog gl n0 9 B0u zC):=by
 refine V7 (dep:=60) (f:=22) (n0:=n0) (nB:=9) (H0:=H0) A3c B0r (cxg (B97.2 q) .nil) q func22 B0t B0s C3 C3 C3 ?_;intro us d outs g;have A:=g;unfold zC at g;split at g
 .skip;rename_i C B i;have w:=A5.1 g;clear g;obtain⟨a,n,g⟩:=w;replace n:=F2 n;subst n;have h:=A5.1 g;clear g;obtain⟨b,o,g⟩:=h;replace o:=F2 o;subst o;split at g
  .rename_i v;clear g A;have D:=C1T v.2.2.1;refine⟨rfl,?_⟩;unfold B0r;refine w0 (.cons 2 _ (.cons 1 _ (.cons 0 _ (.nil)))) ?_;refine P7 ?_;refine W3 ?_;refine w5 (fun g0=>?_) fun g0=>?_
   .refine w7 [.int .i64 _] ?_;refine H6 (d:=0) ?_;rw[vD a b i v,lY A0];rfl
   refine Y4 ?_;refine w5 (fun g1=>?_) fun g1=>?_
   .refine w8 ?_;first|omega
   refine w1 (.get 8 0) (u:=.int .i64 _) (e:=I5 rfl A0 A0 rfl) (k':=?_);refine w1 (.get 8 1) (u:=.int .i64 _) (e:=I5 rfl A0 A0 rfl) (k':=?_);refine w1 (.get 8 2) (u:=.int .i64 _) (e:=I5 rfl A0 A0 rfl) (k':=?_);refine w1 (.get 8 3) (u:=.int .i64 _) (e:=I5 rfl A0 A0 rfl) (k':=?_);refine w1 (.get 8 4) (u:=.int .i64 _) (e:=I5 rfl A0 A0 rfl) (k':=?_);refine w1 (.get 8 5) (u:=.int .i64 _) (e:=I5 rfl A0 A0 rfl) (k':=?_);refine w1 (.get 8 6) (u:=.int .i64 _) (e:=I5 rfl A0 A0 rfl) (k':=?_);refine w1 (.get 8 7) (u:=.str _) (e:=I5 rfl A0 A0 rfl) (k':=?_);refine Y4 ?_;refine w5 (fun g2=>?_) fun g2=>?_
   .refine w8 ?_;first|omega
   refine w1 (.get 8 0) (u:=.int .i64 _) (e:=I5 rfl A0 A0 rfl) (k':=?_);refine w1 (.get 8 1) (u:=.int .i64 _) (e:=I5 rfl A0 A0 rfl) (k':=?_);refine w1 (.get 8 2) (u:=.int .i64 _) (e:=I5 rfl A0 A0 rfl) (k':=?_);refine w1 (.get 8 3) (u:=.int .i64 _) (e:=I5 rfl A0 A0 rfl) (k':=?_);refine w1 (.get 8 4) (u:=.int .i64 _) (e:=I5 rfl A0 A0 rfl) (k':=?_);refine w1 (.get 8 5) (u:=.int .i64 _) (e:=I5 rfl A0 A0 rfl) (k':=?_);refine w1 (.get 8 6) (u:=.int .i64 _) (e:=I5 rfl A0 A0 rfl) (k':=?_);refine w1 (.get 8 7) (u:=.str _) (e:=I5 rfl A0 A0 rfl) (k':=?_);refine w1 (.eqs) (e:=rfl) (k':=?_);first|refine Y3 ?_|refine iD ?_
   first|refine w4 (fun g3=>?_) (fun g3=>?_)|refine w4B (fun g3=>?_) (fun g3=>?_)
   .refine w7 [.int .i64 _] ?_;refine H6 (d:=1) ?_;rw[vD a b i v,eH A0 A0 (by rw[YY A0 A0 A0];exact g3)];rfl
   first|refine V1 ?_|refine O0 ?_
   refine w7 [.int .i64 _,B2 rI _,B2 rI _,.int .i64 _] ?_;refine M0 ?_ ?_
   .rw[vD a b (i+1) ⟨A0,A0,v.2.2⟩,vD a b i v,jB (i:=i) A0 A0 (by rw[YY A0 A0 A0];exact g3)]
   .rw[A3b,A3b];omega
  .cases g
 .cases g
noncomputable def B4L:List LpE:=(22,([true,true,false,true,false],O5 prog gl n0 9 B0u zC))::[]
def xJ{G}(d:I6 G):g8 prog G gl B4L:=.cons func22 B0t B0s (B6g d) .nil
def WV{b:Option (List j9)}(h:¬((el a).length:Int)=(el b).length):HK a b=false:=by
 unfold HK;rw[C9 A0,Q5]
def WU{b:Option (List j9)}(h:(el a).length=(el b).length)(d:X7 neX (((el a).zip (el b)).drop (0:Int).toNat) 0=none):HK a b=true:=by
 unfold HK;rw[D3 h];have d:X7 neX ((el a).zip (el b)) 0=none:=d;rw[d];rfl
def WT{b:Option (List j9)}(d:X7 neX (((el a).zip (el b)).drop (0:Int).toNat) 0=some j):HK a b=false:=by
 unfold HK;have d:X7 neX ((el a).zip (el b)) 0=some j:=d;rw[d,Bool.and_comm];rfl
noncomputable def B98:L5:=⟨_,fun d=>.nil⟩
def DP:List U->Option (Nat×List U)
 | [u_a,u_b]=>(J3 rI u_a).bind fun a=>(J3 rI u_b).bind fun b=>if(el a).length<=140737488351232/\(el b).length<=140737488351232 then some (0,[.bool (HK a b)])else none
 | _=>none
def A73(a:(Option (List (Int×Int×Int×Int×Int×Int×Int×C8))))(b:(Option (List (Int×Int×Int×Int×Int×Int×Int×C8))))(d:(el a).length<=140737488351232/\(el b).length<=140737488351232):DP [B2 rI a,B2 rI b]=some (0,[.bool (HK a b)]):=by
 simp only[DP,F1,C4];exact A4 d
def B0w:Tr:=aD [h 0 18]<|aD [h 1 18]<|aN [h3 2,h3 3]<|.br 4 (I7) (.lp zC [h 0 18,h 1 18,jI 0] 0 0 (x4) (.lp zC [h 0 18,h 1 18,jI 0] 1 0 (I7) (.no)))
def B0x{G}(o:I6 G):I8 prog G 22 [.s 18,.s 18] DP [.s 8]:=by
 refine D0 (d:=60) B0w (cxg (B98.2 o) (xJ o)) o ⟨f22,_,func22,rfl⟩ C3 C3 ?_;intro us outs f;unfold DP at f;split at f
 .skip;rename_i w v;have q:=A5.1 f;clear f;obtain⟨a,g,f⟩:=q;replace g:=F2 g;subst g;have u:=A5.1 f;clear f;obtain⟨b,n,f⟩:=u;replace n:=F2 n;subst n;split at f
  .rename_i h;cases f;unfold B0w;refine w0 (.cons 1 _ (.cons 0 _ (.nil))) ?_;refine P7 ?_;refine P7 ?_;refine oX ?_;refine w4 (fun g0=>?_) fun g0=>?_
   .refine w7 [.bool _] ?_;first|(rw[WV A0];done)|(rw[WU A0 g1];done)|(rw[WT g1];done)
   refine w6 zC (vD _ _ _ ⟨A0,A0,A0,A0⟩) (h0:=fun g1=>?_) (h1:=fun v1 g1=>?_)
   .show Wk _ _ _;refine w7 [.bool _] ?_;first|(rw[WV A0];done)|(rw[WU A0 g1];done)|(rw[WT g1];done)
   show Wk _ _ _;refine w7 [.bool _] ?_;first|(rw[WV A0];done)|(rw[WU A0 g1];done)|(rw[WT g1];done)
  .cases f
 .cases f
noncomputable def C0u:L5:=⟨_,fun d=>(.cons (B6I d) (.cons (B6G d) (.cons (B9T d) .nil)))⟩
def TG:List U->Option (Nat×List U)
 | [.int .i64 k,.int .i64 c,.int .i64 m,.int .i64 w,.int .i64 b,.int .i64 r,.int .i64 cl,.str t]=>if -9223372036854775808<=m/\m<=9223372036854775807/\(t.length:Int)<=140737488351232 then some (0,[.int .i64 (if U9 k c m w b r cl t then 0 else 430)])else none
 | _=>none
def A84(k:Int)(c:Int)(m:Int)(w:Int)(b:Int)(r:Int)(cl:Int)(t:C8)(d : -9223372036854775808<=m/\m<=9223372036854775807/\(t.length:Int)<=140737488351232):TG [.int .i64 k,.int .i64 c,.int .i64 m,.int .i64 w,.int .i64 b,.int .i64 r,.int .i64 cl,.str t]=some (0,[.int .i64 (if U9 k c m w b r cl t then 0 else 430)]):=A4 d
def B24:Tr:=F3 0 8 1 (.fn PO [h3 1,h3 2] 1<|J5 9 10 (K3 430) (.lt 8 (.eqs) [h3 0,jI 1,h3 1,h3 1,h3 2,h3 2,h3 3,jI 0,h3 4,jI 0,h3 5,jI 0,h3 6,jI 0,h 7 9,.string ⟨⟨[]⟩⟩]<|J5 11 12 (K3 430) (K3 0))) (F3 0 9 2 (.fn PN [h3 0,h3 1,h3 2,h3 3,h3 4,h3 5,h3 6,h 7 9] 1<|J5 10 11 (K3 430) (.lt 8 (.eqs) [h3 0,h3 0,h3 1,jI 0,h3 2,h3 2,h3 3,h3 3,h3 4,h3 4,h3 5,h3 5,h3 6,h3 6,h 7 9,.string ⟨⟨[]⟩⟩]<|J5 12 13 (K3 430) (K3 0))) (F3 0 10 3 (aD [h 7 9]<|X0 11 12 1000 (.fn UL [h 7 9,.string ⟨⟨[27]⟩⟩] 1<|aX [h 13 8]<|J5 14 15 (K3 430) (.lt 8 (.eqs) [h3 0,h3 0,h3 1,jI 0,h3 2,jI 0,h3 3,jI 0,h3 4,jI 0,h3 5,jI 0,h3 6,jI 0,h 7 9,h 7 9]<|J5 16 17 (K3 430) (K3 0))) (K3 430)) (F3 0 11 4 (J6 3 12 0 (aQ [h3 3,jI 1]<|J5 13 14 (K3 430) (.lt 8 (.eqs) [h3 0,h3 0,h3 1,jI 0,h3 2,jI 0,h3 3,h3 3,h3 4,jI 0,h3 5,jI 0,h3 6,jI 0,h 7 9,.string ⟨⟨[]⟩⟩]<|J5 15 16 (K3 430) (K3 0))) (K3 430)) (K3 430))))
def B8P{G}(f:I6 G):I8 prog G 13 [.a [3,3,3,3,3,3,3,9]] TG [.s 3]:=by
 refine D0 (d:=60) B24 (cxg (C0u.2 f) (xJ f)) f ⟨f13,_,func13,rfl⟩ C3 C3 ?_;intro us outs n;unfold TG at n;split at n
 .skip;rename_i k c m w b r cl t;split at n
  .rename_i o;cases n;have q:=A92 t;unfold B24;refine w0 (.cons 7 _ (.cons 6 _ (.cons 5 _ (.cons 4 _ (.cons 3 _ (.cons 2 _ (.cons 1 _ (.cons 0 _ (.nil))))))))) ?_;repeat (first|refine w4 (fun g=>?_) fun g=>?_|refine w4B (fun g=>?_) fun g=>?_|refine Y3 ?_|refine iD ?_|(refine w7 [.int .i64 _] ?_;rotate_left)|refine R8 ?_|refine w1 (.eqs) (e:=rfl) (k':=?_)|refine iE ?_|refine w31 PO (e:=A7l _ _ A0) (k':=?_)|refine w31 PN (e:=A7k _ _ _ _ _ _ _ _) (k':=?_)|refine uX ?_|refine w31 UL (e:=A9k _ _ rfl) (k':=?_)|refine bK ?_)
   all_goals
    refine l0 ?_;first
    | exact(A4 (by unfold U9;first|(simp_all;done)|(simp_all;omega))).symm
    | exact(A3 (fun h=>by
       unfold U9 at h;rcases h with h|h|h|h<;>first|(exfalso;omega)|(simp_all;done)|(simp_all;omega))).symm
  .cases n
 .cases n
def C1z(h:(!z)=true):z=false:=by cases z<;>first|rfl|cases h
def nE(l:C8):C8:=l.filter fun x=>!isE x
def YG{α:Type}(x:Option (List α)):S0 x (some [])=x:=by
 unfold S0;cases x<;>simp[el]
def yR{α:Type}(x:Option (List α))(u v:List α):S0 (S0 x (some u)) (some v)=S0 x (some (u++v)):=by
 cases u with
 | nil=>rw[YG];rfl
 | cons a u=>cases v with
   | nil=>simp[S0,el]
   | cons c v=>simp[S0,el]
def QB{l:C8}(h0:0<=i)(h1:i<1000):(l.take 1000).getD i.toNat default=l.getD i.toNat default:=by
 rw[B4,B4,G4 A0]
def B5K{l:C8}(h:(l.length:Int)<=i∨1000<=i):nE ((l.take 1000).drop i.toNat)=[]:=by
 rw[d9 (l.take 1000) (by rw[G3];omega)];rfl
def C10{l:C8}(h0:0<=i)(h1:i<(l.length:Int))(d:i<1000)(f:¬(((l.getD i.toNat 0).toNat:Nat):Int)≠27):nE ((l.take 1000).drop i.toNat)=nE ((l.take 1000).drop (i+1).toNat):=by
 rw[Q1 (l.take 1000) h0 (by rw[G3];omega),QB h0 d,yL,show l.getD i.toNat 0=27 from A6Z A0];rfl
def C11{l:C8}(h0:0<=i)(h1:i<(l.length:Int))(d:i<1000)(f:(((l.getD i.toNat 0).toNat:Nat):Int)≠27):nE ((l.take 1000).drop i.toNat)=l.getD i.toNat 0::nE ((l.take 1000).drop (i+1).toNat):=by
 rw[Q1 (l.take 1000) h0 (by rw[G3];omega),QB h0 d,yL];have:isE (l.getD i.toNat 0)=false:=C9 fun h=>f (by rw[h];rfl)
 unfold nE;rw[mN,this];rfl
def B5J(l:C8):(nE l).length<=l.length:=List.length_filter_le _ _
noncomputable def C05:L5:=⟨_,fun d=>(.cons (IV d) (.cons (A0E d) .nil))⟩
def wY:List U->Option (Nat×List U)
 | [u_out,.int .i64 i,.int .u8 d0,.int .u8 d1,.int .u8 d2,.int .u8 d3,.int .u8 d4,.int .u8 d5,.int .u8 d6,.int .u32 dc,.str t]=>(J3 rB u_out).bind fun out=>if 0<=i/\i<=1000/\((el out).length:Int)<=i/\(t.length:Int)<=140737488351232 then some (0,[B2 rB (S0 out (some (bI (nE ((t.take 1000).drop i.toNat)))))])else none
 | _=>none
def sN(out:D4)(i:Int)(d0:Int)(d1:Int)(d2:Int)(d3:Int)(d4:Int)(d5:Int)(d6:Int)(dc:Int)(t:C8)(d:0<=i/\i<=1000/\((el out).length:Int)<=i/\(t.length:Int)<=140737488351232):wY [B2 rB out,.int .i64 i,.int .u8 d0,.int .u8 d1,.int .u8 d2,.int .u8 d3,.int .u8 d4,.int .u8 d5,.int .u8 d6,.int .u32 dc,.str t]=some (0,[B2 rB (S0 out (some (bI (nE ((t.take 1000).drop i.toNat)))))]):=by
 simp only[wY,F1,C4];exact A4 d
def B3r:Q7:=⟨[(1,.pointer (some ⟨6,0,none⟩)),(2,.pointer (some ⟨7,0,none⟩)),(4,own 8 0 11),(5,h 1 3)],[(6,.cells 26 [h 2 4,h 3 4,h 4 4,h 5 4,h 6 4,h 7 4,h 8 4,h 9 6,h 10 9]),(7,.cells 23 [.int .i64 (0),.int .i64 (0),.int .i64 (0),.int .i64 (0),.int .i64 (0),.int .i64 (0),.int .i64 (0),.string ⟨⟨[]⟩⟩]),(8,.sq 0 11 5 9),(9,.frz)],11,[⟨.exit 1,[(2,.pointer (some ⟨7,0,none⟩)),(4,own 10 0 11)],[(7,.cells 23 [.int .i64 (0),.int .i64 (0),.int .i64 (0),.int .i64 (0),.int .i64 (0),.int .i64 (0),.int .i64 (0),.string ⟨⟨[]⟩⟩]),(10,.sq 0 11 5 11),(11,.frz)],1⟩]⟩
noncomputable def A6q:Code:=(f12.body).getD .skip
noncomputable def B3n:Code:=match H5 [true,false,true,false,true,true,true,false,true,false,true,false] A6q with|some (.loop x)=>x|_=>.skip
def B3q:f12.body=some A6q:=rfl
def B3p:H5 [true,false,true,false,true,true,true,false,true,false,true,false] A6q=some (.loop B3n):=C3
def B3o:Tr:=aD [h 10 9]<|aV 1 11 12 (M9 1 13 1000 (.lt 4 (.idx) [h 10 9,h3 1]<|aN [h 14 4,.int .u8 (27)]<|.br 15 (.lt 4 (.idx) [h 10 9,h3 1]<|.dt 11 (.snoc 1) [h 0 11,h 16 4]<|aA [h3 1,jI 1]<|.ret [jI (-1),h 17 11,h3 18,h 2 4,h 3 4,h 4 4,h 5 4,h 6 4,h 7 4,h 8 4,h 9 6,h 10 9]) (aA [h3 1,jI 1]<|.ret [jI (-1),h 0 11,h3 16,h 2 4,h 3 4,h 4 4,h 5 4,h 6 4,h 7 4,h 8 4,h 9 6,h 10 9])) (.ret [jI 0,h 0 11])) (.ret [jI 0,h 0 11])
def A6p:List U->Nat
 | [u_out,.int .i64 i,.int .u8 d0,.int .u8 d1,.int .u8 d2,.int .u8 d3,.int .u8 d4,.int .u8 d5,.int .u8 d6,.int .u32 dc,.str t]=>(match J3 rB u_out with|some out=>(1000-i).toNat|none=>0)
 | _=>0
def A6o(out:D4)(i:Int)(d0:Int)(d1:Int)(d2:Int)(d3:Int)(d4:Int)(d5:Int)(d6:Int)(dc:Int)(t:C8):A6p [B2 rB out,.int .i64 i,.int .u8 d0,.int .u8 d1,.int .u8 d2,.int .u8 d3,.int .u8 d4,.int .u8 d5,.int .u8 d6,.int .u32 dc,.str t]=(1000-i).toNat:=by
 simp only[A6p,F1]
def B9I{G}(u:I6 G):∀ (E:Nat->U) (base:Nat),@U0 ⟨E,G⟩ prog base gl f12.ntmps B3n (O5 prog gl n0 12 B3r wY):=by
 refine V7 (dep:=60) (f:=12) (n0:=n0) (nB:=12) (H0:=H0) A6p B3o (cxg (C05.2 u) (xJ u)) u func12 B3q B3p C3 C3 C3 ?_;intro us d outs o;have h:=o;unfold wY at o;split at o
 .skip;rename_i w i d0 d1 d2 d3 d4 d5 d6 dc t;have q:=A5.1 o;clear o;obtain⟨out,n,o⟩:=q;replace n:=F2 n;subst n;split at o
  .rename_i v;clear o h;refine⟨rfl,?_⟩;unfold B3o;refine w0 (.cons 10 _ (.cons 9 _ (.cons 8 _ (.cons 7 _ (.cons 6 _ (.cons 5 _ (.cons 4 _ (.cons 3 _ (.cons 2 _ (.cons 1 _ (.cons 0 _ (.nil)))))))))))) ?_;repeat (first|refine V1 ?_|refine O0 ?_|refine w4 (fun g=>?_) fun g=>?_|refine W3 ?_|refine B6Q ?_|(refine w7 [.int .i64 _,B2 rB _,.int .i64 _,.int .u8 _,.int .u8 _,.int .u8 _,.int .u8 _,.int .u8 _,.int .u8 _,.int .u8 _,.int .u32 _,.str _] ?_;rotate_left)|(refine w7 [.int .i64 _,B2 rB _] ?_;rotate_left)|refine uX ?_|refine oX ?_|refine w2 (.snoc 1) (r:=rB) (e:=S3 rfl rfl B8 (by simp[*]<;>omega)) (k':=?_))
   all_goals first
    | refine M0 ?_ ?_
      .first
       | (have B:∀ X,X=S0 out (some (bI [t.getD i.toNat 0]))->wY [B2 rB X,.int .i64 (i+1),.int .u8 d0,.int .u8 d1,.int .u8 d2,.int .u8 d3,.int .u8 d4,.int .u8 d5,.int .u8 d6,.int .u32 dc,.str t]=wY [B2 rB out,.int .i64 i,.int .u8 d0,.int .u8 d1,.int .u8 d2,.int .u8 d3,.int .u8 d4,.int .u8 d5,.int .u8 d6,.int .u32 dc,.str t]:=fun X A=>by
           rw[sN X (i+1) d0 d1 d2 d3 d4 d5 d6 dc t ⟨A0,A0,by rw[A,T9,E3,B1,jG,B6,E0];omega,v.2.2.2⟩,sN out i d0 d1 d2 d3 d4 d5 d6 dc t v,A,yR,<- YQ,C11 (i:=i) A0 A0 A0 ‹_›];rfl
          exact B _ rfl)
       | (rw[sN out (i+1) d0 d1 d2 d3 d4 d5 d6 dc t ⟨A0,A0,A0,v.2.2.2⟩,sN out i d0 d1 d2 d3 d4 d5 d6 dc t v,C10 (i:=i) A0 A0 A0 ‹_›];done)
      .rw[A6o,A6o];omega
    | refine H6 (d:=0) ?_
      rw[sN out i d0 d1 d2 d3 d4 d5 d6 dc t v,B5K (i:=i) A0];exact G2 (fun z=>some (0,[B2 rB z])) (YG out)
  .cases o
 .cases o
noncomputable def C1R:List LpE:=(12,([true,false,true,false,true,true,true,false,true,false,true,false],O5 prog gl n0 12 B3r wY))::B4L
def VM{G}(d:I6 G):g8 prog G gl C1R:=.cons func12 B3q B3p (B9I d) (xJ d)
def B8y{a:Int}(h0:0<=a)(h1:a<256):evU (.bin .and) [.int .u8 a,.int .u8 6]=.int .u8 (a / 2%4*2):=by
 rw[tS];have k:∀ n:Nat,n<256->IntKind.u8.wrap (BitVec.ofInt IntKind.u8.bits (n:Int) &&& BitVec.ofInt IntKind.u8.bits 6).toNat=(n:Int) / 2%4*2:=B8;obtain⟨n,rfl⟩:∃ n:Nat,a=n:=⟨a.toNat,A0⟩;exact G2 _ (k n A0)
def B8z{a:Int}(h0:0<=a)(h1:a<256):evU (.bin .and) [.int .u8 a,.int .u8 2]=.int .u8 (a / 2%2*2):=by
 rw[tS];have k:∀ n:Nat,n<256->IntKind.u8.wrap (BitVec.ofInt IntKind.u8.bits (n:Int) &&& BitVec.ofInt IntKind.u8.bits 2).toNat=(n:Int) / 2%2*2:=B8;obtain⟨n,rfl⟩:∃ n:Nat,a=n:=⟨a.toNat,A0⟩;exact G2 _ (k n A0)
def el0(l:C8):el (S0 none (some (bI l)))=bI l:=by rw[T9];rfl
def C1l(l:C8):∀ n ∈ el (S0 none (some (bI l))),0<=n/\n<256:=fun n h=>by rw[el0]at h;exact GO h
def iB0(l:C8):iB (el (S0 none (some (bI l))))=l:=by rw[el0,AE]
def dC1(d4 dc:Int):Int:=if d4%2=0 then 1114113+d4 / 2%26 else dc
def dC2(x:Int):Int:=if x<1114113/\¬chP x then 97+x%26 else x
def dM(c m:Int):Int:=if aK c (m%8)then m%8 else if aK c (m%8 / 2%4*2)then m%8 / 2%4*2 else if aK c (m / 2%2*2)then m / 2%2*2 else 0
def dC3(c m:Int):Int:=if aK c (m%8)∨aK c (m%8 / 2%4*2)∨aK c (m / 2%2*2)∨aK c 0 then c else 97
def diK(q:Int):Int:=if q=1 then 2 else if q=2 then 3 else if q=3 then 4 else 1
def diC(q d3 d4 dc:Int):Int:=if q=0 then dC3 (dC2 (dC1 d4 dc)) d3 else 0
def diM(q d3 d4 dc:Int):Int:=if q=0 then dM (dC2 (dC1 d4 dc)) d3 else if q=1 then d3%8 else 0
def diW(q d1:Int):Int:=if q=1 then d1%4 else if q=3 then d1%2 else 0
def diB(q d1 d2 d3 d5 d6:Int):Int:=if q=1 then(if U9 2 0 (d3%8) (d1%4) (d2%4) (d5%40) (d6%80) []then d2%4 else d2%4%2)else 0
def diR(q d5:Int):Int:=if q=1 then d5%40 else 0
def diL(q d6:Int):Int:=if q=1 then d6%80 else 0
def diT(q:Int)(t:C8):C8:=if q=2 then nE (t.take 1000)else[]
def l8{v a2 a3 a4 a5 f q o u w g d n h:Int}(h1:v=o)(E:a2=u)(h3:a3=w)(D:a4=g)(B:a5=d)(F:f=n)(A:q=h)(C:s=t):[U.int .i64 v,.int .i64 a2,.int .i64 a3,.int .i64 a4,.int .i64 a5,.int .i64 f,.int .i64 q,.str s]=[U.int .i64 o,.int .i64 u,.int .i64 w,.int .i64 g,.int .i64 d,.int .i64 n,.int .i64 h,.str t]:=by rw[h1,E,h3,D,B,F,A,C]
def B9S(h:d4%2=0):dC1 d4 dc=1114113+d4 / 2%26:=A4 h
def B9R(h:¬d4%2=0):dC1 d4 dc=dc:=A3 h
noncomputable def C1D:L5:=⟨_,fun d=>.nil⟩
def KO:List U->Option (Nat×List U)
 | [.int .i64 c]=>some (0,[.bool (decide (chP c))])
 | _=>none
def A9q(c:Int):KO [.int .i64 c]=some (0,[.bool (decide (chP c))]):=rfl
def A67(n:Nat):Tr:=J6 0 n 32 (J6 0 (n+1) 127 (aQ [h3 0,jI 159]<|aX [h (n+2) 8]<|.ret [h (n+3) 8]) x4) I7
def B36:Tr:=J6 0 1 0 (X0 0 2 1114111 (M9 0 3 55296 (A67 4) (aW 0 4 57343 (A67 5) I7)) I7) I7
def B9e{G}(f:I6 G):I8 prog G 33 [.s 3] KO [.s 8]:=by
 refine D0 (d:=60) B36 (cxg (C1D.2 f) (VM f)) f ⟨f33,_,func33,rfl⟩ C3 C3 ?_;intro us outs n;unfold KO at n;split at n
 .skip;rename_i c;cases n;unfold B36;refine w0 (.cons 0 _ (.nil)) ?_;repeat (first|(refine w7 [.bool _] ?_;rotate_left)|refine w4 (fun g=>?_) fun g=>?_|refine bK ?_|refine iE ?_|refine Y3 ?_|refine W3 ?_|refine cB ?_)
  all_goals
   refine l1 ?_;first|(refine decide_eq_decide.2 ?_;unfold chP okU;omega)|(symm;first|exact D3 (by unfold chP okU;omega)|exact C9 (by unfold chP okU;omega))
 .cases n
noncomputable def C04:L5:=⟨_,fun d=>(.cons (IV d) (.cons (A0E d) (.cons (B9e d) .nil)))⟩
def UG:List U->Option (Nat×List U)
 | [.int .u8 d0,.int .u8 d1,.int .u8 d2,.int .u8 d3,.int .u8 d4,.int .u8 d5,.int .u8 d6,.int .u32 dc,.str t]=>if 0<=d0/\d0<256/\0<=d1/\d1<256/\0<=d2/\d2<256/\0<=d3/\d3<256/\0<=d4/\d4<256/\0<=d5/\d5<256/\0<=d6/\d6<256/\0<=dc/\dc<4294967296/\(t.length:Int)<=140737488351232 then some (0,[.int .i64 (diK (d0%4)),.int .i64 (diC (d0%4) d3 d4 dc),.int .i64 (diM (d0%4) d3 d4 dc),.int .i64 (diW (d0%4) d1),.int .i64 (diB (d0%4) d1 d2 d3 d5 d6),.int .i64 (diR (d0%4) d5),.int .i64 (diL (d0%4) d6),.str (diT (d0%4) t)])else none
 | _=>none
def A9g(d0:Int)(d1:Int)(d2:Int)(d3:Int)(d4:Int)(d5:Int)(d6:Int)(dc:Int)(t:C8)(d:0<=d0/\d0<256/\0<=d1/\d1<256/\0<=d2/\d2<256/\0<=d3/\d3<256/\0<=d4/\d4<256/\0<=d5/\d5<256/\0<=d6/\d6<256/\0<=dc/\dc<4294967296/\(t.length:Int)<=140737488351232):UG [.int .u8 d0,.int .u8 d1,.int .u8 d2,.int .u8 d3,.int .u8 d4,.int .u8 d5,.int .u8 d6,.int .u32 dc,.str t]=some (0,[.int .i64 (diK (d0%4)),.int .i64 (diC (d0%4) d3 d4 dc),.int .i64 (diM (d0%4) d3 d4 dc),.int .i64 (diW (d0%4) d1),.int .i64 (diB (d0%4) d1 d2 d3 d5 d6),.int .i64 (diR (d0%4) d5),.int .i64 (diL (d0%4) d6),.str (diT (d0%4) t)]):=A4 d
def bW(a0:Nat)(d:Nat):Tr:=.ret [jI 1,h3 a0,h3 d,jI 0,jI 0,jI 0,jI 0,.string ⟨⟨[]⟩⟩]
def eR(a0:Int)(d:Nat):Tr:=.ret [jI 1,h3 d,jI a0,jI 0,jI 0,jI 0,jI 0,.string ⟨⟨[]⟩⟩]
def bV(a0:Int)(d:Int):Tr:=.ret [jI 1,jI d,jI a0,jI 0,jI 0,jI 0,jI 0,.string ⟨⟨[]⟩⟩]
def gI(a0:Nat)(d:Nat)(a2:Nat)(f g:Tr):Tr:=.fn lP [h3 a0,h3 d] 1<|.br a2 f g
def BP(a0:Nat)(d:Nat)(g f:Tr):Tr:=.lt 4 (.bin .rem) [h 3 4,.int .u8 (8)]<|.lt 3 (.conv .i64) [h d 4]<|.lt 4 (.bin .rem) [h 3 4,.int .u8 (8)]<|.lt 4 (.bin .and) [h (d+2) 4,.int .u8 (6)]<|.lt 3 (.conv .i64) [h (d+3) 4]<|.lt 4 (.bin .and) [h 3 4,.int .u8 (2)]<|.lt 3 (.conv .i64) [h (d+5) 4]<|.fn lP [h3 a0,h3 (d+1)] 1<|.br (d+7) g f
def A6m(n:Nat):Tr:=BP 19 n (bW 19 (n+1)) (gI 19 (n+4) (n+8) (bW 19 (n+4)) (gI 19 (n+6) (n+9) (bW 19 (n+6)) (.fn lP [h3 19,jI 0] 1<|.br (n+10) (eR 0 19) (bV 0 97))))
def A6l(n:Nat):Tr:=BP 13 n (bW 13 (n+1)) (gI 13 (n+4) (n+8) (bW 13 (n+4)) (gI 13 (n+6) (n+9) (bW 13 (n+6)) (.fn lP [h3 13,jI 0] 1<|.br (n+10) (eR 0 13) (bV 0 97))))
def B3m:Tr:=.lt 4 (.bin .rem) [h 0 4,.int .u8 (4)]<|aE [h 9 4,.int .u8 (1)]<|.br 10 (.lt 4 (.bin .rem) [h 1 4,.int .u8 (4)]<|.lt 3 (.conv .i64) [h 11 4]<|.lt 4 (.bin .rem) [h 2 4,.int .u8 (4)]<|.lt 3 (.conv .i64) [h 13 4]<|.lt 4 (.bin .rem) [h 3 4,.int .u8 (8)]<|.lt 3 (.conv .i64) [h 15 4]<|.lt 4 (.bin .rem) [h 5 4,.int .u8 (40)]<|.lt 3 (.conv .i64) [h 17 4]<|.lt 4 (.bin .rem) [h 6 4,.int .u8 (80)]<|.lt 3 (.conv .i64) [h 19 4]<|.fn oE [jI 2,jI 0,h3 16,h3 12,h3 14,h3 18,h3 20,.string ⟨⟨[]⟩⟩] 1<|J5 21 22 (.lt 3 (.bin .rem) [h3 14,jI 2]<|.ret [jI 2,jI 0,h3 16,h3 12,h3 23,h3 18,h3 20,.string ⟨⟨[]⟩⟩]) (.ret [jI 2,jI 0,h3 16,h3 12,h3 14,h3 18,h3 20,.string ⟨⟨[]⟩⟩])) (aE [h 9 4,.int .u8 (2)]<|.br 11 (.dt 11 (.nilw 1) []<|.fn wY [h 12 11,jI 0,h 0 4,h 1 4,h 2 4,h 3 4,h 4 4,h 5 4,h 6 4,h 7 6,h 8 9] 1<|.lt 9 (.str) [h 13 11]<|.ret [jI 3,jI 0,jI 0,jI 0,jI 0,jI 0,jI 0,h 14 9]) (aE [h 9 4,.int .u8 (3)]<|.br 12 (.lt 4 (.bin .rem) [h 1 4,.int .u8 (2)]<|.lt 3 (.conv .i64) [h 13 4]<|.ret [jI 4,jI 0,jI 0,h3 14,jI 0,jI 0,jI 0,.string ⟨⟨[]⟩⟩]) (.lt 3 (.conv .i64) [h 7 6]<|.lt 4 (.bin .rem) [h 4 4,.int .u8 (2)]<|aE [h 14 4,.int .u8 (0)]<|.br 15 (.lt 4 (.bin .quo) [h 4 4,.int .u8 (2)]<|.lt 3 (.conv .i64) [h 16 4]<|.lt 3 (.bin .rem) [h3 17,jI 26]<|aA [jI 1114113,h3 18]<|M9 19 20 1114113 (.fn KO [h3 19] 1<|J5 21 22 (.lt 3 (.bin .rem) [h3 19,jI 26]<|aA [jI 97,h3 23]<|BP 24 25 (bW 24 26) (gI 24 29 33 (bW 24 29) (gI 24 31 34 (bW 24 31) (.fn lP [h3 24,jI 0] 1<|.br 35 (eR 0 24) (bV 0 97))))) (A6m 23)) (A6m 21)) (M9 13 16 1114113 (.fn KO [h3 13] 1<|J5 17 18 (.lt 3 (.bin .rem) [h3 13,jI 26]<|aA [jI 97,h3 19]<|BP 20 21 (bW 20 22) (gI 20 25 29 (bW 20 25) (gI 20 27 30 (bW 20 27) (.fn lP [h3 20,jI 0] 1<|.br 31 (eR 0 20) (bV 0 97))))) (A6l 19)) (A6l 17)))))
def B9G{G}(n:I6 G):I8 prog G 12 [.a [4,4,4,4,4,4,4,6,9]] UG [.a [3,3,3,3,3,3,3,9]]:=by
 refine D0 (d:=60) B3m (cxg (C04.2 n) (VM n)) n ⟨f12,_,func12,rfl⟩ C3 C3 ?_;intro us outs u;unfold UG at u;split at u
 .skip;rename_i d0 d1 d2 d3 d4 d5 d6 dc t;split at u
  .rename_i A;cases u;have B:nE (t.take 1000)=nE ((t.take 1000).drop (0:Int).toNat):=rfl;have h:((el (none:D4)).length:Int)=0:=rfl;unfold B3m;refine w0 (.cons 8 _ (.cons 7 _ (.cons 6 _ (.cons 5 _ (.cons 4 _ (.cons 3 _ (.cons 2 _ (.cons 1 _ (.cons 0 _ (.nil)))))))))) ?_;repeat (first|refine w4 (fun g=>?_) fun g=>?_|refine w4B (fun g=>?_) fun g=>?_|refine m5 ?_|refine X1 ?_|refine LQ ?_|refine w1 (.bin .rem) (e:=kV _ _ _ A0) (k':=?_)|(refine w7 [.int .i64 _,.int .i64 _,.int .i64 _,.int .i64 _,.int .i64 _,.int .i64 _,.int .i64 _,.str _] ?_;rotate_left)|refine w31 lP (e:=MS _ _ A0) (k':=?_)|refine Y3 ?_|refine iD ?_|refine V1 ?_|refine O0 ?_|refine w1 (.bin .and) (e:=B8y A0 A0) (k':=?_)|refine w1 (.bin .and) (e:=B8z A0 A0) (k':=?_)|refine R8 ?_|refine PZ ?_|refine w1 (.bin .quo) (e:=nO _ _ _ A0) (k':=?_)|refine W3 ?_|refine w31 KO (e:=A9q _) (k':=?_)|refine w31 oE (e:=MT _ _ _ _ _ _ _ _ ⟨A0,A0,by show(0:Int)<=_;omega⟩) (k':=?_)|refine w2 (.nilw 1) (r:=rB) (e:=G6 rfl) (k':=?_)|refine w31 wY (e:=sN _ _ _ _ _ _ _ _ _ _ _ ⟨A0,A0,A0,A0⟩) (k':=?_)|refine w1 (.str) (e:=u9 rfl (C1l _)) (k':=?_))
   all_goals
    first
    | (have o:d0%4=1:=A0
       rw[o];first
       | exact l8 rfl rfl rfl rfl (A4 (K2.1 ‹_›)).symm rfl rfl rfl
       | exact l8 rfl rfl rfl rfl (A3 ‹_›).symm rfl rfl rfl)
    | (have o:d0%4=2:=A0
       rw[o];exact l8 rfl rfl rfl rfl rfl rfl rfl (iB0 _))
    | (have o:d0%4=3:=A0
       rw[o];exact l8 rfl rfl rfl rfl rfl rfl rfl rfl)
    | (have o:d0%4=0:=A0
       rw[o];obtain⟨X,h1⟩:∃ X,X=dC1 d4 dc:=⟨_,rfl⟩;obtain⟨Y,w⟩:∃ Y,Y=dC2 X:=⟨_,rfl⟩;have v:=h1;have f:=w;first|rw[B9S ‹_›]at v|rw[B9R ‹_›]at v
       rw[v]at f;unfold dC2 at f;first|rw[A4 ⟨by assumption,by assumption⟩]at f|rw[A3 (fun g=>absurd g.1 ‹_›)]at f|rw[A3 (fun g=>absurd g.2 ‹_›)]at f
       refine l8 rfl ?_ ?_ rfl rfl rfl rfl rfl
       .show _=dC3 (dC2 (dC1 d4 dc)) d3;rw[<- h1,<- w,f];unfold dC3;first
        | exact(A4 (.inl ‹_›)).symm
        | exact(A4 (.inr (.inl ‹_›))).symm
        | exact(A4 (.inr (.inr (.inl ‹_›)))).symm
        | exact(A4 (.inr (.inr (.inr ‹_›)))).symm
        | exact(A3 fun q=>q.elim ‹_› fun q=>q.elim ‹_› fun q=>q.elim ‹_› ‹_›).symm
       .show _=dM (dC2 (dC1 d4 dc)) d3;rw[<- h1,<- w,f];unfold dM
        (repeat (first|rw[A4 ‹_›]|rw[A3 ‹_›]));done)
  .cases u
 .cases u
def rQ:Rw (C8×Int×Int×Int×Int×Int×Int×Int×C8):=rC UT (rC (m7 .i64) (rC (m7 .i64) (rC (m7 .i64) (rC (m7 .i64) (rC (m7 .i64) (rC (m7 .i64) (rC (m7 .i64) (r1 UT))))))))
abbrev Qt:=(C8×Int×Int×Int×Int×Int×Int×Int×C8)
def qq(a b:Qt):Bool:=(a.1 == b.1 && true)
def qR(s:C8)(c m:Int):Qt:=(s,1,c,m,0,0,0,0,[])
def inQ(c:Int):Nat->Int->Option (List Qt)->Option (List Qt)
 | 0,_,x=>x
 | n+1,j,x=>inQ c n (j+1) (oB qq (oB qq x (qR (keS false c j) c j)) (qR (keS true c j) c j))
def otQ:Nat->Int->Option (List Qt)->Option (List Qt)
 | 0,_,x=>x
 | n+1,c,x=>otQ n (c+1) (inQ c 8 0 x)
def B8d{x:Option (List Qt)}(h:j<8):inQ c (8-j).toNat j x=inQ c (8-(j+1)).toNat (j+1) (oB qq (oB qq x (qR (keS false c j) c j)) (qR (keS true c j) c j)):=by
 rw[show(8-j).toNat=(8-(j+1)).toNat+1 by omega];rfl
def B8e{x:Option (List Qt)}(h:¬j<8):inQ c (8-j).toNat j x=x:=by
 rw[show(8-j).toNat=0 by omega];rfl
def B7l{x:Option (List Qt)}(h:c<=1114134):otQ (1114135-c).toNat c x=otQ (1114135-(c+1)).toNat (c+1) (inQ c 8 0 x):=by
 rw[show(1114135-c).toNat=(1114135-(c+1)).toNat+1 by omega];rfl
def B7m{x:Option (List Qt)}(h:¬c<=1114134):otQ (1114135-c).toNat c x=x:=by
 rw[show(1114135-c).toNat=0 by omega];rfl
def nn2{x:Option (List Qt)}{a:Qt}(h:x≠none):oB qq x a≠none:=by
 cases x with
 | none=>exact absurd rfl h
 | some l=>exact R1 _
def B3A{c:Int}:∀ (n:Nat) (j:Int) {x:Option (List Qt)},x≠none->inQ c n j x≠none
 | 0,_,_,h=>h
 | n+1,j,_,h=>B3A n (j+1) (nn2 (nn2 h))
def B8L(h:1114113<=c)(f:c<=1114134)(h3:0<=m)(d:m<=7):aK c m:=.inr (.inl ⟨h,f,h3,d⟩)
noncomputable def B96:L5:=⟨_,fun d=>(.cons (qO d) .nil)⟩
def pB:List U->Option (Nat×List U)
 | [.int .i64 c,.int .i64 j,u_x]=>(J3 rQ u_x).bind fun x=>if 1114113<=c/\c<=1114134/\0<=j/\j<=8/\x≠none then some (0,[.int .i64 c,B2 rQ (inQ c (8-j).toNat j x)])else none
 | _=>none
def BV(c:Int)(j:Int)(x:(Option (List (C8×Int×Int×Int×Int×Int×Int×Int×C8))))(d:1114113<=c/\c<=1114134/\0<=j/\j<=8/\x≠none):pB [.int .i64 c,.int .i64 j,B2 rQ x]=some (0,[.int .i64 c,B2 rQ (inQ c (8-j).toNat j x)]):=by
 simp only[pB,F1,C4];exact A4 d
def IJ:Q7:=⟨[(1,.map (some 6)),(2,h 0 3),(14,h 1 3)],[(6,.mp 2 19 81)],3,[⟨.exit 2,[(1,.map (some 6)),(2,h 0 3)],[(6,.mp 1 19 81)],2⟩]⟩
noncomputable def A3Y:Code:=(f72.body).getD .skip
noncomputable def B0n:Code:=match H5 [true,true,false,true,false,false,true,false,false,true,false] A3Y with|some (.loop x)=>x|_=>.skip
def II:f72.body=some A3Y:=rfl
def IH:H5 [true,true,false,true,false,false,true,false,false,true,false] A3Y=some (.loop B0n):=C3
def B0o:Tr:=M9 1 3 8 (.fn KG [.bool false,.bool false,.bool false,.bool false,.bool false,.bool false,.bool false,.bool false,.bool false,.bool false,.bool false,jI 0,.bool false,jI 1,h3 0,h3 1,jI 0,jI 0,jI 0,jI 0,.string ⟨⟨[]⟩⟩] 1<|.dt 19 (.mput 9 1) [h 2 19,h 4 9,jI 1,h3 0,h3 1,jI 0,jI 0,jI 0,jI 0,.string ⟨⟨[]⟩⟩]<|.fn KG [.bool false,.bool false,.bool true,.bool false,.bool false,.bool false,.bool false,.bool false,.bool false,.bool false,.bool false,jI 0,.bool false,jI 1,h3 0,h3 1,jI 0,jI 0,jI 0,jI 0,.string ⟨⟨[]⟩⟩] 1<|.dt 19 (.mput 9 1) [h 5 19,h 6 9,jI 1,h3 0,h3 1,jI 0,jI 0,jI 0,jI 0,.string ⟨⟨[]⟩⟩]<|aA [h3 1,jI 1]<|.ret [jI (-1),h3 0,h3 8,h 7 19]) (.ret [jI 0,h3 0,h 2 19])
def A3X:List U->Nat
 | [.int .i64 c,.int .i64 j,u_x]=>(match J3 rQ u_x with|some x=>(8-j).toNat|none=>0)
 | _=>0
def A3W(c:Int)(j:Int)(x:(Option (List (C8×Int×Int×Int×Int×Int×Int×Int×C8)))):A3X [.int .i64 c,.int .i64 j,B2 rQ x]=(8-j).toNat:=by
 simp only[A3X,F1]
def QQ{G}(u:I6 G):∀ (E:Nat->U) (base:Nat),@U0 ⟨E,G⟩ prog base gl f72.ntmps B0n (O5 prog gl n0 7 IJ pB):=by
 refine V7 (dep:=60) (f:=72) (n0:=n0) (nB:=7) (H0:=H0) A3X B0o (cxg (B96.2 u) .nil) u func72 II IH C3 C3 C3 ?_;intro us d outs q;have w:=q;unfold pB at q;split at q
 .skip;rename_i c j h;have v:=A5.1 q;clear q;obtain⟨x,o,q⟩:=v;replace o:=F2 o;subst o;split at q
  .rename_i n;clear q w;refine⟨rfl,?_⟩;unfold B0o;refine w0 (.cons 2 _ (.cons 1 _ (.cons 0 _ (.nil)))) ?_;repeat (first|refine w31 KG (e:=A9d _ _ _ _ _ _ _ _ _ _ _ _ _ _ _ _ _ _ _ _ _ (B8L A0 A0 A0 A0)) (k':=?_)|refine V1 ?_|refine O0 ?_|refine W3 ?_|refine w4 (fun g=>?_) fun g=>?_|refine w2 (.mput 9 1) (r:=rQ) (e:=dI qq (qR (keS false c j) c j) rfl rfl (fun _=>rfl) (by first|exact n.2.2.2.2|exact nn2 n.2.2.2.2|exact n.2.2|exact nn2 n.2.2)) (k':=?_)|refine w2 (.mput 9 1) (r:=rQ) (e:=dI qq (qR (keS true c j) c j) rfl rfl (fun _=>rfl) (by first|exact n.2.2.2.2|exact nn2 n.2.2.2.2|exact n.2.2|exact nn2 n.2.2)) (k':=?_)|(refine w7 [.int .i64 _,.int .i64 _,.int .i64 _,B2 rQ _] ?_;rotate_left)|(refine w7 [.int .i64 _,.int .i64 _,B2 rQ _] ?_;rotate_left))
   all_goals first
    | refine M0 ?_ ?_
      .rw[BV c (j+1) _ ⟨A0,A0,A0,A0,nn2 (nn2 n.2.2.2.2)⟩,BV c j x n,B8d (c:=c) (j:=j) (x:=x) A0]
      .rw[A3W,A3W];omega
    | refine H6 (d:=0) ?_
      rw[BV c j x n,B8e A0]
  .cases q
 .cases q
noncomputable def C1K:List LpE:=(72,([true,true,false,true,false,false,true,false,false,true,false],O5 prog gl n0 7 IJ pB))::[]
def A7U{G}(d:I6 G):g8 prog G gl C1K:=.cons func72 II IH (QQ d) .nil
def A1z:List Qt:=[([27,91,90],1,1114136,1,0,0,0,0,[]),([27,91,79],4,0,0,0,0,0,0,[]),([27,91,73],4,0,0,1,0,0,0,[])]
def fR:List Qt:=[([27,91,90],1,1114136,1,0,0,0,0,[]),([27,91,79],4,0,0,0,0,0,0,[]),([27,91,73],4,0,0,1,0,0,0,[]),([27,91,65],1,1114113,0,0,0,0,0,[]),([27,79,65],1,1114113,0,0,0,0,0,[]),([27,91,49,59,50,65],1,1114113,1,0,0,0,0,[]),([27,91,49,59,51,65],1,1114113,2,0,0,0,0,[]),([27,91,49,59,52,65],1,1114113,3,0,0,0,0,[]),([27,91,49,59,53,65],1,1114113,4,0,0,0,0,[]),([27,91,49,59,54,65],1,1114113,5,0,0,0,0,[]),([27,91,49,59,55,65],1,1114113,6,0,0,0,0,[]),([27,91,49,59,56,65],1,1114113,7,0,0,0,0,[]),([27,91,66],1,1114114,0,0,0,0,0,[]),([27,79,66],1,1114114,0,0,0,0,0,[]),([27,91,49,59,50,66],1,1114114,1,0,0,0,0,[]),([27,91,49,59,51,66],1,1114114,2,0,0,0,0,[]),([27,91,49,59,52,66],1,1114114,3,0,0,0,0,[]),([27,91,49,59,53,66],1,1114114,4,0,0,0,0,[]),([27,91,49,59,54,66],1,1114114,5,0,0,0,0,[]),([27,91,49,59,55,66],1,1114114,6,0,0,0,0,[]),([27,91,49,59,56,66],1,1114114,7,0,0,0,0,[]),([27,91,67],1,1114115,0,0,0,0,0,[]),([27,79,67],1,1114115,0,0,0,0,0,[]),([27,91,49,59,50,67],1,1114115,1,0,0,0,0,[]),([27,91,49,59,51,67],1,1114115,2,0,0,0,0,[]),([27,91,49,59,52,67],1,1114115,3,0,0,0,0,[]),([27,91,49,59,53,67],1,1114115,4,0,0,0,0,[]),([27,91,49,59,54,67],1,1114115,5,0,0,0,0,[]),([27,91,49,59,55,67],1,1114115,6,0,0,0,0,[]),([27,91,49,59,56,67],1,1114115,7,0,0,0,0,[]),([27,91,68],1,1114116,0,0,0,0,0,[]),([27,79,68],1,1114116,0,0,0,0,0,[]),([27,91,49,59,50,68],1,1114116,1,0,0,0,0,[]),([27,91,49,59,51,68],1,1114116,2,0,0,0,0,[]),([27,91,49,59,52,68],1,1114116,3,0,0,0,0,[]),([27,91,49,59,53,68],1,1114116,4,0,0,0,0,[]),([27,91,49,59,54,68],1,1114116,5,0,0,0,0,[]),([27,91,49,59,55,68],1,1114116,6,0,0,0,0,[]),([27,91,49,59,56,68],1,1114116,7,0,0,0,0,[]),([27,91,70],1,1114117,0,0,0,0,0,[]),([27,79,70],1,1114117,0,0,0,0,0,[]),([27,91,49,59,50,70],1,1114117,1,0,0,0,0,[]),([27,91,49,59,51,70],1,1114117,2,0,0,0,0,[]),([27,91,49,59,52,70],1,1114117,3,0,0,0,0,[]),([27,91,49,59,53,70],1,1114117,4,0,0,0,0,[]),([27,91,49,59,54,70],1,1114117,5,0,0,0,0,[]),([27,91,49,59,55,70],1,1114117,6,0,0,0,0,[]),([27,91,49,59,56,70],1,1114117,7,0,0,0,0,[]),([27,91,72],1,1114118,0,0,0,0,0,[]),([27,79,72],1,1114118,0,0,0,0,0,[]),([27,91,49,59,50,72],1,1114118,1,0,0,0,0,[]),([27,91,49,59,51,72],1,1114118,2,0,0,0,0,[]),([27,91,49,59,52,72],1,1114118,3,0,0,0,0,[]),([27,91,49,59,53,72],1,1114118,4,0,0,0,0,[]),([27,91,49,59,54,72],1,1114118,5,0,0,0,0,[]),([27,91,49,59,55,72],1,1114118,6,0,0,0,0,[]),([27,91,49,59,56,72],1,1114118,7,0,0,0,0,[]),([27,79,80],1,1114119,0,0,0,0,0,[]),([27,91,49,59,50,80],1,1114119,1,0,0,0,0,[]),([27,91,49,59,51,80],1,1114119,2,0,0,0,0,[]),([27,91,49,59,52,80],1,1114119,3,0,0,0,0,[]),([27,91,49,59,53,80],1,1114119,4,0,0,0,0,[]),([27,91,49,59,54,80],1,1114119,5,0,0,0,0,[]),([27,91,49,59,55,80],1,1114119,6,0,0,0,0,[]),([27,91,49,59,56,80],1,1114119,7,0,0,0,0,[]),([27,79,81],1,1114120,0,0,0,0,0,[]),([27,91,49,59,50,81],1,1114120,1,0,0,0,0,[]),([27,91,49,59,51,81],1,1114120,2,0,0,0,0,[]),([27,91,49,59,52,81],1,1114120,3,0,0,0,0,[]),([27,91,49,59,53,81],1,1114120,4,0,0,0,0,[]),([27,91,49,59,54,81],1,1114120,5,0,0,0,0,[]),([27,91,49,59,55,81],1,1114120,6,0,0,0,0,[]),([27,91,49,59,56,81],1,1114120,7,0,0,0,0,[]),([27,79,82],1,1114121,0,0,0,0,0,[]),([27,91,49,59,50,82],1,1114121,1,0,0,0,0,[]),([27,91,49,59,51,82],1,1114121,2,0,0,0,0,[]),([27,91,49,59,52,82],1,1114121,3,0,0,0,0,[]),([27,91,49,59,53,82],1,1114121,4,0,0,0,0,[]),([27,91,49,59,54,82],1,1114121,5,0,0,0,0,[]),([27,91,49,59,55,82],1,1114121,6,0,0,0,0,[]),([27,91,49,59,56,82],1,1114121,7,0,0,0,0,[]),([27,79,83],1,1114122,0,0,0,0,0,[]),([27,91,49,59,50,83],1,1114122,1,0,0,0,0,[]),([27,91,49,59,51,83],1,1114122,2,0,0,0,0,[]),([27,91,49,59,52,83],1,1114122,3,0,0,0,0,[]),([27,91,49,59,53,83],1,1114122,4,0,0,0,0,[]),([27,91,49,59,54,83],1,1114122,5,0,0,0,0,[]),([27,91,49,59,55,83],1,1114122,6,0,0,0,0,[]),([27,91,49,59,56,83],1,1114122,7,0,0,0,0,[]),([27,91,50,126],1,1114123,0,0,0,0,0,[]),([27,91,50,59,50,126],1,1114123,1,0,0,0,0,[]),([27,91,50,59,51,126],1,1114123,2,0,0,0,0,[]),([27,91,50,59,52,126],1,1114123,3,0,0,0,0,[]),([27,91,50,59,53,126],1,1114123,4,0,0,0,0,[]),([27,91,50,59,54,126],1,1114123,5,0,0,0,0,[]),([27,91,50,59,55,126],1,1114123,6,0,0,0,0,[]),([27,91,50,59,56,126],1,1114123,7,0,0,0,0,[]),([27,91,51,126],1,1114124,0,0,0,0,0,[]),([27,91,51,59,50,126],1,1114124,1,0,0,0,0,[]),([27,91,51,59,51,126],1,1114124,2,0,0,0,0,[]),([27,91,51,59,52,126],1,1114124,3,0,0,0,0,[]),([27,91,51,59,53,126],1,1114124,4,0,0,0,0,[]),([27,91,51,59,54,126],1,1114124,5,0,0,0,0,[]),([27,91,51,59,55,126],1,1114124,6,0,0,0,0,[]),([27,91,51,59,56,126],1,1114124,7,0,0,0,0,[]),([27,91,53,126],1,1114125,0,0,0,0,0,[]),([27,91,53,59,50,126],1,1114125,1,0,0,0,0,[]),([27,91,53,59,51,126],1,1114125,2,0,0,0,0,[]),([27,91,53,59,52,126],1,1114125,3,0,0,0,0,[]),([27,91,53,59,53,126],1,1114125,4,0,0,0,0,[]),([27,91,53,59,54,126],1,1114125,5,0,0,0,0,[]),([27,91,53,59,55,126],1,1114125,6,0,0,0,0,[]),([27,91,53,59,56,126],1,1114125,7,0,0,0,0,[]),([27,91,54,126],1,1114126,0,0,0,0,0,[]),([27,91,54,59,50,126],1,1114126,1,0,0,0,0,[]),([27,91,54,59,51,126],1,1114126,2,0,0,0,0,[]),([27,91,54,59,52,126],1,1114126,3,0,0,0,0,[]),([27,91,54,59,53,126],1,1114126,4,0,0,0,0,[]),([27,91,54,59,54,126],1,1114126,5,0,0,0,0,[]),([27,91,54,59,55,126],1,1114126,6,0,0,0,0,[]),([27,91,54,59,56,126],1,1114126,7,0,0,0,0,[]),([27,91,49,53,126],1,1114127,0,0,0,0,0,[]),([27,91,49,53,59,50,126],1,1114127,1,0,0,0,0,[]),([27,91,49,53,59,51,126],1,1114127,2,0,0,0,0,[]),([27,91,49,53,59,52,126],1,1114127,3,0,0,0,0,[]),([27,91,49,53,59,53,126],1,1114127,4,0,0,0,0,[]),([27,91,49,53,59,54,126],1,1114127,5,0,0,0,0,[]),([27,91,49,53,59,55,126],1,1114127,6,0,0,0,0,[]),([27,91,49,53,59,56,126],1,1114127,7,0,0,0,0,[]),([27,91,49,55,126],1,1114128,0,0,0,0,0,[]),([27,91,49,55,59,50,126],1,1114128,1,0,0,0,0,[]),([27,91,49,55,59,51,126],1,1114128,2,0,0,0,0,[]),([27,91,49,55,59,52,126],1,1114128,3,0,0,0,0,[]),([27,91,49,55,59,53,126],1,1114128,4,0,0,0,0,[]),([27,91,49,55,59,54,126],1,1114128,5,0,0,0,0,[]),([27,91,49,55,59,55,126],1,1114128,6,0,0,0,0,[]),([27,91,49,55,59,56,126],1,1114128,7,0,0,0,0,[]),([27,91,49,56,126],1,1114129,0,0,0,0,0,[]),([27,91,49,56,59,50,126],1,1114129,1,0,0,0,0,[]),([27,91,49,56,59,51,126],1,1114129,2,0,0,0,0,[]),([27,91,49,56,59,52,126],1,1114129,3,0,0,0,0,[]),([27,91,49,56,59,53,126],1,1114129,4,0,0,0,0,[]),([27,91,49,56,59,54,126],1,1114129,5,0,0,0,0,[]),([27,91,49,56,59,55,126],1,1114129,6,0,0,0,0,[]),([27,91,49,56,59,56,126],1,1114129,7,0,0,0,0,[]),([27,91,49,57,126],1,1114130,0,0,0,0,0,[]),([27,91,49,57,59,50,126],1,1114130,1,0,0,0,0,[]),([27,91,49,57,59,51,126],1,1114130,2,0,0,0,0,[]),([27,91,49,57,59,52,126],1,1114130,3,0,0,0,0,[]),([27,91,49,57,59,53,126],1,1114130,4,0,0,0,0,[]),([27,91,49,57,59,54,126],1,1114130,5,0,0,0,0,[]),([27,91,49,57,59,55,126],1,1114130,6,0,0,0,0,[]),([27,91,49,57,59,56,126],1,1114130,7,0,0,0,0,[]),([27,91,50,48,126],1,1114131,0,0,0,0,0,[]),([27,91,50,48,59,50,126],1,1114131,1,0,0,0,0,[]),([27,91,50,48,59,51,126],1,1114131,2,0,0,0,0,[]),([27,91,50,48,59,52,126],1,1114131,3,0,0,0,0,[]),([27,91,50,48,59,53,126],1,1114131,4,0,0,0,0,[]),([27,91,50,48,59,54,126],1,1114131,5,0,0,0,0,[]),([27,91,50,48,59,55,126],1,1114131,6,0,0,0,0,[]),([27,91,50,48,59,56,126],1,1114131,7,0,0,0,0,[]),([27,91,50,49,126],1,1114132,0,0,0,0,0,[]),([27,91,50,49,59,50,126],1,1114132,1,0,0,0,0,[]),([27,91,50,49,59,51,126],1,1114132,2,0,0,0,0,[]),([27,91,50,49,59,52,126],1,1114132,3,0,0,0,0,[]),([27,91,50,49,59,53,126],1,1114132,4,0,0,0,0,[]),([27,91,50,49,59,54,126],1,1114132,5,0,0,0,0,[]),([27,91,50,49,59,55,126],1,1114132,6,0,0,0,0,[]),([27,91,50,49,59,56,126],1,1114132,7,0,0,0,0,[]),([27,91,50,51,126],1,1114133,0,0,0,0,0,[]),([27,91,50,51,59,50,126],1,1114133,1,0,0,0,0,[]),([27,91,50,51,59,51,126],1,1114133,2,0,0,0,0,[]),([27,91,50,51,59,52,126],1,1114133,3,0,0,0,0,[]),([27,91,50,51,59,53,126],1,1114133,4,0,0,0,0,[]),([27,91,50,51,59,54,126],1,1114133,5,0,0,0,0,[]),([27,91,50,51,59,55,126],1,1114133,6,0,0,0,0,[]),([27,91,50,51,59,56,126],1,1114133,7,0,0,0,0,[]),([27,91,50,52,126],1,1114134,0,0,0,0,0,[]),([27,91,50,52,59,50,126],1,1114134,1,0,0,0,0,[]),([27,91,50,52,59,51,126],1,1114134,2,0,0,0,0,[]),([27,91,50,52,59,52,126],1,1114134,3,0,0,0,0,[]),([27,91,50,52,59,53,126],1,1114134,4,0,0,0,0,[]),([27,91,50,52,59,54,126],1,1114134,5,0,0,0,0,[]),([27,91,50,52,59,55,126],1,1114134,6,0,0,0,0,[]),([27,91,50,52,59,56,126],1,1114134,7,0,0,0,0,[])]
def B4m:otQ 22 1114113 (some A1z)=some fR:=C3
def A2T(a b:Qt):Bool:=a.1 == b.1 && (a.2.1 == b.2.1 && (a.2.2.1 == b.2.2.1 && (a.2.2.2.1 == b.2.2.2.1 && (a.2.2.2.2.1 == b.2.2.2.2.1 && (a.2.2.2.2.2.1 == b.2.2.2.2.2.1 && (a.2.2.2.2.2.2.1 == b.2.2.2.2.2.2.1 && (a.2.2.2.2.2.2.2.1 == b.2.2.2.2.2.2.2.1 && (a.2.2.2.2.2.2.2.2 == b.2.2.2.2.2.2.2.2 && true))))))))
def A6a{x y:Qt}(h:A2T x y=true):x=y:=by
 obtain⟨J,a2,a3,a4,a5,w,F,B,a9⟩:=x;obtain⟨E,G,I,A,v,D,K,H,C⟩:=y;simp[A2T]at h;obtain⟨h1,q,h3,o,f,u,d,n,g⟩:=h;subst h1 q h3 o f u d n g;rfl
def A2U:List Qt->List Qt->Bool
 | [],[]=>true
 | a::l,b::r=>A2T a b && A2U l r
 | _,_=>false
def YD:∀ {l r:List Qt},A2U l r=true->l=r
 | [],[],_=>rfl
 | a::l,b::r,h=>by
   have h:(A2T a b && A2U l r)=true:=h;rw[I3]at h;rw[A6a h.1,YD h.2]
 | [],_::_,h=>by cases h
 | _::_,[],h=>by cases h
def B5Y(c:Int)(x:Option (List Qt)):Bool:=match x with
 | some l=>decide (c=1114113) && A2U l A1z
 | none=>false
def B5X{x:Option (List Qt)}(h:B5Y c x=true):c=1114113/\x=some A1z:=by
 cases x with
 | none=>cases h
 | some l =>
   have h:(decide (c=1114113) && A2U l A1z)=true:=h;rw[I3]at h;exact⟨F4 h.1,by rw[YD h.2]⟩
def otF(c:Int)(x:Option (List Qt)):Option (List Qt):=if B5Y c x=true then some fR else otQ (1114135-c).toNat c x
def XF(c:Int)(x:Option (List Qt)):otF c x=otQ (1114135-c).toNat c x:=by
 unfold otF;by_cases h:B5Y c x=true
 .obtain⟨h1,d⟩:=B5X h;rw[A4 h,h1,d];exact B4m.symm
 .rw[A3 h]
noncomputable def B94:L5:=⟨_,fun d=>(.cons (qO d) .nil)⟩
def lK:List U->Option (Nat×List U)
 | [.int .i64 c,u_x]=>(J3 rQ u_x).bind fun x=>if 1114113<=c/\c<=1114135/\x≠none then some (0,[B2 rQ (otF c x)])else none
 | _=>none
def BU(c:Int)(x:(Option (List (C8×Int×Int×Int×Int×Int×Int×Int×C8))))(d:1114113<=c/\c<=1114135/\x≠none):lK [.int .i64 c,B2 rQ x]=some (0,[B2 rQ (otF c x)]):=by
 simp only[lK,F1,C4];exact A4 d
def QP:Q7:=⟨[(1,.map (some 6)),(2,h 0 3)],[(6,.mp 1 19 81)],2,[⟨.exit 0,[(1,.map (some 6))],[(6,.mp 0 19 81)],1⟩]⟩
noncomputable def A3S:Code:=(f72.body).getD .skip
noncomputable def B0j:Code:=match H5 [true,true,false,true,false] A3S with|some (.loop x)=>x|_=>.skip
def QO:f72.body=some A3S:=rfl
def QN:H5 [true,true,false,true,false] A3S=some (.loop B0j):=C3
def B0k:Tr:=X0 0 2 1114134 (.fn pB [h3 0,jI 0,h 1 19] 2<|aA [h3 3,jI 1]<|.ret [jI (-1),h3 5,h 4 19]) (.ret [jI 0,h 1 19])
def A3R:List U->Nat
 | [.int .i64 c,u_x]=>(match J3 rQ u_x with|some x=>(1114135-c).toNat|none=>0)
 | _=>0
def A3Q(c:Int)(x:(Option (List (C8×Int×Int×Int×Int×Int×Int×Int×C8)))):A3R [.int .i64 c,B2 rQ x]=(1114135-c).toNat:=by
 simp only[A3R,F1]
def ZN{G}(q:I6 G):∀ (E:Nat->U) (base:Nat),@U0 ⟨E,G⟩ prog base gl f72.ntmps B0j (O5 prog gl n0 7 QP lK):=by
 refine V7 (dep:=60) (f:=72) (n0:=n0) (nB:=7) (H0:=H0) A3R B0k (cxg (B94.2 q) (A7U q)) q func72 QO QN C3 C3 C3 ?_;intro us d outs o;have w:=o;unfold lK at o;split at o
 .skip;rename_i c h;have u:=A5.1 o;clear o;obtain⟨x,n,o⟩:=u;replace n:=F2 n;subst n;split at o
  .rename_i v;clear o w;refine⟨rfl,?_⟩;unfold B0k;refine w0 (.cons 1 _ (.cons 0 _ (.nil))) ?_;repeat (first|refine V1 ?_|refine O0 ?_|refine iE ?_|refine w4 (fun g=>?_) fun g=>?_|refine w32 pB (e:=BV _ _ _ ⟨A0,A0,A0,A0,v.2.2⟩) (k':=?_)|(refine w7 [.int .i64 _,.int .i64 _,B2 rQ _] ?_;rotate_left)|(refine w7 [.int .i64 _,B2 rQ _] ?_;rotate_left))
   all_goals first
    | refine M0 ?_ ?_
      .rw[BU (c+1) _ ⟨A0,A0,B3A _ _ v.2.2⟩,BU c x v,XF,XF,B7l (c:=c) (x:=x) A0];rfl
      .rw[A3Q,A3Q];omega
    | refine H6 (d:=0) ?_
      rw[BU c x v,XF,B7m A0]
  .cases o
 .cases o
def U6(b:Int):Int:=if b<128 then 1 else if 194<=b/\b<224 then 2 else if 224<=b/\b<240 then 3 else if 240<=b/\b<=244 then 4 else 0
def loB(b:Int):Int:=if b=224 then 160 else if b=240 then 144 else 128
def hiB(b:Int):Int:=if b=237 then 159 else if b=244 then 143 else 191
def okT:List Int->Int->Int->Bool
 | [],_,_=>true
 | b::r,lo,hi=>decide (lo<=b/\b<=hi) && okT r 128 191
def knd(l:List Int):Int:=if U6 (l.getD 0 0)<(l.length:Int)then 0 else if okT (l.drop 1) (loB (l.getD 0 0)) (hiB (l.getD 0 0))=true then(if(l.length:Int)<U6 (l.getD 0 0)then 1 else 2)else 0
def B7r(h:¬i<(l.length:Int)):okT (l.drop i.toNat) lo hi=true:=by rw[d9 l A0];rfl
def B7q(h0:0<=i)(h1:i<(l.length:Int))(h:l.getD i.toNat default<lo∨hi<l.getD i.toNat default):okT (l.drop i.toNat) lo hi=false:=by
 rw[Q1 l h0 h1];show(decide _ && _)=false;rw[C9 A0,Q5]
def B7p(h0:0<=i)(h1:i<(l.length:Int))(h:lo<=l.getD i.toNat default)(d:l.getD i.toNat default<=hi):okT (l.drop i.toNat) lo hi=okT (l.drop (i+1).toNat) 128 191:=by
 rw[Q1 l h0 h1];show(decide _ && _)=_;rw[D3 ⟨h,d⟩,Q6]
noncomputable def B9y:L5:=⟨_,fun d=>.nil⟩
def PY:List U->Option (Nat×List U)
 | [.int .u8 b]=>if 0<=b/\b<256 then some (0,[.int .i64 (U6 b)])else none
 | _=>none
def A7u(b:Int)(d:0<=b/\b<256):PY [.int .u8 b]=some (0,[.int .i64 (U6 b)]):=A4 d
def A2x(n:Nat):Tr:=aL [h 0 4,.int .u8 (128)]<|.br n (K3 1) (K3 0)
def A2w(n:Nat):Tr:=aH [h 0 4,.int .u8 (194)]<|.br n (aL [h 0 4,.int .u8 (224)]<|.br (n+1) (K3 2) (A2x (n+2))) (A2x (n+1))
def A2v(n:Nat):Tr:=aH [h 0 4,.int .u8 (224)]<|.br n (aL [h 0 4,.int .u8 (240)]<|.br (n+1) (K3 3) (A2w (n+2))) (A2w (n+1))
def B0O:Tr:=aH [h 0 4,.int .u8 (240)]<|.br 1 (aQ [h 0 4,.int .u8 (244)]<|.br 2 (K3 4) (A2v 3)) (A2v 2)
def B0P{G}(n:I6 G):I8 prog G 152 [.s 4] PY [.s 3]:=by
 refine D0 (d:=60) B0O (cxg (B9y.2 n) .nil) n ⟨f152,_,func152,rfl⟩ C3 C3 ?_;intro us outs f;unfold PY at f;split at f
 .skip;rename_i b;split at f
  .rename_i o;cases f;unfold B0O;refine w0 (.cons 0 _ (.nil)) ?_;repeat (first|(refine w7 [.int .i64 _] ?_;rotate_left)|refine w4 (fun g=>?_) fun g=>?_|refine W3 ?_|refine bK ?_|refine iE ?_)
   all_goals
    first
    | (exfalso;omega)
    | (refine l0 ?_;unfold U6;repeat (first|rw[A3 A0]|rw[A4 A0]))
  .cases f
 .cases f
noncomputable def B9v:L5:=⟨_,fun d=>.nil⟩
def PW:List U->Option (Nat×List U)
 | [.int .u8 b]=>if 0<=b/\b<256 then some (0,[.int .u8 (loB b),.int .u8 (hiB b)])else none
 | _=>none
def A7s(b:Int)(d:0<=b/\b<256):PW [.int .u8 b]=some (0,[.int .u8 (loB b),.int .u8 (hiB b)]):=A4 d
def B0J:Tr:=aE [h 0 4,.int .u8 (224)]<|.br 1 (.ret [.int .u8 (160),.int .u8 (191)]) (aE [h 0 4,.int .u8 (237)]<|.br 2 (.ret [.int .u8 (128),.int .u8 (159)]) (aE [h 0 4,.int .u8 (240)]<|.br 3 (.ret [.int .u8 (144),.int .u8 (191)]) (aE [h 0 4,.int .u8 (244)]<|.br 4 (.ret [.int .u8 (128),.int .u8 (143)]) (.ret [.int .u8 (128),.int .u8 (191)]))))
def B0K{G}(g:I6 G):I8 prog G 153 [.s 4] PW [.s 4,.s 4]:=by
 refine D0 (d:=60) B0J (cxg (B9v.2 g) .nil) g ⟨f153,_,func153,rfl⟩ C3 C3 ?_;intro us outs f;unfold PW at f;split at f
 .skip;rename_i b;split at f
  .rename_i n;cases f;unfold B0J;refine w0 (.cons 0 _ (.nil)) ?_;refine R8 ?_;refine w4 (fun g0=>?_) fun g0=>?_
   .refine w7 [.int .u8 _,.int .u8 _] ?_;first
    | (subst g0;rfl)
    | (unfold loB hiB;repeat (first|rw[A3 A0]|rw[A4 A0]))
   refine R8 ?_;refine w4 (fun g1=>?_) fun g1=>?_
   .refine w7 [.int .u8 _,.int .u8 _] ?_;first
    | (subst g0;rfl)
    | (unfold loB hiB;repeat (first|rw[A3 A0]|rw[A4 A0]))
   refine R8 ?_;refine w4 (fun g2=>?_) fun g2=>?_
   .refine w7 [.int .u8 _,.int .u8 _] ?_;first
    | (subst g0;rfl)
    | (unfold loB hiB;repeat (first|rw[A3 A0]|rw[A4 A0]))
   refine R8 ?_;refine w4 (fun g3=>?_) fun g3=>?_
   .refine w7 [.int .u8 _,.int .u8 _] ?_;first
    | (subst g0;rfl)
    | (unfold loB hiB;repeat (first|rw[A3 A0]|rw[A4 A0]))
   refine w7 [.int .u8 _,.int .u8 _] ?_;first
   | (subst g0;rfl)
   | (unfold loB hiB;repeat (first|rw[A3 A0]|rw[A4 A0]))
  .cases f
 .cases f
def okO(b:Bool):Option Unit:=if b then none else some ()
def B2a{b:Bool}(h:okO b=none):b=true:=by cases b<;>first|rfl|cases h
def B7s{b:Bool}{u:Unit}(h:okO b=some u):b=false:=by cases b<;>first|rfl|cases h
noncomputable def B9z:L5:=⟨_,fun d=>(.cons (B0P d) (.cons (B0K d) .nil))⟩
def zA:List U->Option (Nat×List U)
 | [u_p,.int .i64 n,.int .u8 lo,.int .u8 hi,u_q,.int .i64 m,.int .i64 i]=>(J3 rB u_p).bind fun p=>(J3 rB u_q).bind fun q=>if m=((el q).length:Int)/\0<=i/\i<=((el q).length:Int)/\((el q).length:Int)<=1000/\0<=lo/\lo<256/\0<=hi/\hi<256 then Z9 (okO (okT ((el q).drop i.toNat) lo hi)) [B2 rB p,.int .i64 n] (fun _=>[])else none
 | _=>none
def uN(p:D4)(n:Int)(lo:Int)(hi:Int)(q:D4)(m:Int)(i:Int)(d:m=((el q).length:Int)/\0<=i/\i<=((el q).length:Int)/\((el q).length:Int)<=1000/\0<=lo/\lo<256/\0<=hi/\hi<256):zA [B2 rB p,.int .i64 n,.int .u8 lo,.int .u8 hi,B2 rB q,.int .i64 m,.int .i64 i]=Z9 (okO (okT ((el q).drop i.toNat) lo hi)) [B2 rB p,.int .i64 n] (fun _=>[]):=by
 simp only[zA,F1,C4];exact A4 d
def B0U:Q7:=⟨[(0,dat 7 0 11),(3,h 1 3),(4,h 2 4),(5,h 3 4),(24,dat 8 4 11),(25,h 5 3),(26,h 6 3)],[(7,.frz),(8,.frz)],7,[⟨.exit 0,[(0,dat 9 0 11),(3,h 1 3)],[(9,.frz)],2⟩,⟨.ret,[(2,.int .i64 (0))],[],0⟩]⟩
noncomputable def A20:Code:=(f140.body).getD .skip
noncomputable def B0Q:Code:=match H5 [true,true,true,true,false,true,false] A20 with|some (.loop x)=>x|_=>.skip
def B0T:f140.body=some A20:=rfl
def B0S:H5 [true,true,true,true,false,true,false] A20=some (.loop B0Q):=C3
def J9(a0:Nat)(d:Nat)(a2:Nat)(f:Tr):Tr:=.lt 8 (.inbs 1) [h3 d,h a0 11]<|.br a2 f .no
def B0R:Tr:=aV 6 5 7 (J9 4 6 8 (.lt 4 (.get 1 0) [h 4 11,h3 6]<|aL [h 9 4,h 2 4]<|.br 10 (K3 1) (aG [h 9 4,h 3 4]<|.br 11 (K3 1) (aA [h3 6,jI 1]<|.ret [jI (-1),h 0 11,h3 1,.int .u8 (128),.int .u8 (191),h 4 11,h3 5,h3 12])))) (.ret [jI 0,h 0 11,h3 1])
def A2z:List U->Nat
 | [u_p,.int .i64 n,.int .u8 lo,.int .u8 hi,u_q,.int .i64 m,.int .i64 i]=>(match J3 rB u_p with|some p=>(match J3 rB u_q with|some q=>(((el q).length:Int)-i).toNat|none=>0)|none=>0)
 | _=>0
def A2y(p:D4)(n:Int)(lo:Int)(hi:Int)(q:D4)(m:Int)(i:Int):A2z [B2 rB p,.int .i64 n,.int .u8 lo,.int .u8 hi,B2 rB q,.int .i64 m,.int .i64 i]=(((el q).length:Int)-i).toNat:=by
 simp only[A2z,F1]
def B6M{G}(h:I6 G):∀ (E:Nat->U) (base:Nat),@U0 ⟨E,G⟩ prog base gl f140.ntmps B0Q (O5 prog gl n0 10 B0U zA):=by
 refine V7 (dep:=60) (f:=140) (n0:=n0) (nB:=10) (H0:=H0) A2z B0R (cxg (B9z.2 h) .nil) h func140 B0T B0S C3 C3 C3 ?_;intro us d outs o;have D:=o;unfold zA at o;split at o
 .skip;rename_i F n lo hi H m i;have B:=A5.1 o;clear o;obtain⟨p,w,o⟩:=B;replace w:=F2 w;subst w;have C:=A5.1 o;clear o;obtain⟨q,v,o⟩:=C;replace v:=F2 v;subst v;split at o
  .rename_i A;clear o D;refine⟨rfl,?_⟩;unfold B0R;refine w0 (.cons 6 _ (.cons 5 _ (.cons 4 _ (.cons 3 _ (.cons 2 _ (.cons 1 _ (.cons 0 _ (.nil)))))))) ?_;repeat (first|refine w4 (fun g=>?_) fun g=>?_|refine W3 ?_|(refine w7 [.int .i64 _] ?_;rotate_left)|refine V1 ?_|refine O0 ?_|refine Y4 ?_|refine w1 (.get 1 0) (u:=.int .u8 _) (e:=I5 rfl A0 A0 rfl) (k':=?_)|refine cB ?_|(refine w7 [.int .i64 _,B2 rB _,.int .i64 _,.int .u8 _,.int .u8 _,B2 rB _,.int .i64 _,.int .i64 _] ?_;rotate_left)|(refine w8 ?_;first|omega)|(refine w7 [.int .i64 _,B2 rB _,.int .i64 _] ?_;rotate_left))
   all_goals first
    | refine M0 ?_ ?_
      .rw[uN p n _ _ q m (i+1) ⟨A.1,A0,A0,A.2.2.2.1,A0,A0,A0,A0⟩,uN p n lo hi q m i A,B7p (l:=el q) (i:=i) (lo:=lo) (hi:=hi) A0 A0 A0 A0]
      .rw[A2y,A2y];omega
    | refine H6 (d:=0) ?_
      rw[uN p n lo hi q m i A,B7r (l:=el q) (i:=i) A0];rfl
    | refine H6 (d:=1) ?_
      rw[uN p n lo hi q m i A,B7q (l:=el q) (i:=i) A0 A0 A0];rfl
  .cases o
 .cases o
noncomputable def A99:List LpE:=[(140,([true,true,true,true,false,true,false],O5 prog gl n0 10 B0U zA))]
def GU{G}(d:I6 G):g8 prog G gl A99:=(.cons func140 B0T B0S (B6M d) .nil)
def el1(h:1<=((el p).length:Int)):el (P8 p (1:Int).toNat ((el p).length:Int).toNat)=(el p).drop 1:=by
 rw[M1];exact L7 (by simp)
def gt0(d:∀ x ∈ el p,0<=x/\x<256)(h:1<=((el p).length:Int)):0<=(el p).getD 0 default/\(el p).getD 0 default<256:=by
 have:=y0 (l:=el p) d (i:=0) A0 A0;exact this
def B2i :0<=loB b/\loB b<256:=by unfold loB;(repeat' split)<;>omega
def B3L :0<=hiB b/\hiB b<256:=by unfold hiB;(repeat' split)<;>omega
def B8I(h:U6 (l.getD 0 0)<(l.length:Int)):0=knd l:=(A4 h).symm
def B8F(h:¬U6 (l.getD 0 0)<(l.length:Int))(d:okT (l.drop 1) (loB (l.getD 0 0)) (hiB (l.getD 0 0))=false):0=knd l:=by
 unfold knd;rw[A3 h,A3 (by rw[d];decide)]
def B8H(h:¬U6 (l.getD 0 0)<(l.length:Int))(d:okT (l.drop 1) (loB (l.getD 0 0)) (hiB (l.getD 0 0))=true)(h3:(l.length:Int)<U6 (l.getD 0 0)):1=knd l:=by
 unfold knd;rw[A3 h,A4 d,A4 h3]
def B8G(h:¬U6 (l.getD 0 0)<(l.length:Int))(d:okT (l.drop 1) (loB (l.getD 0 0)) (hiB (l.getD 0 0))=true)(h3:¬(l.length:Int)<U6 (l.getD 0 0)):2=knd l:=by
 unfold knd;rw[A3 h,A4 d,A3 h3]
def A5I{b:Bool}(h:1<=((el p).length:Int))(d:okT ((el (P8 p (1:Int).toNat ((el p).length:Int).toNat)).drop (0:Int).toNat) lo hi=b):okT ((el p).drop 1) lo hi=b:=by
 rw[el1 h]at d;exact d
noncomputable def B90:L5:=⟨_,fun d=>(.cons (B0P d) (.cons (B0K d) .nil))⟩
def jS:List U->Option (Nat×List U)
 | [u_p]=>(J3 rB u_p).bind fun p=>if 1<=((el p).length:Int)/\((el p).length:Int)<=1000/\(∀ x ∈ el p,0<=x/\x<256)then some (0,[.int .i64 (knd (el p))])else none
 | _=>none
def uO(p:D4)(d:1<=((el p).length:Int)/\((el p).length:Int)<=1000/\(∀ x ∈ el p,0<=x/\x<256)):jS [B2 rB p]=some (0,[.int .i64 (knd (el p))]):=by
 simp only[jS,F1,C4];exact A4 d
def mT(a0:Nat)(d:Nat)(a2:Nat)(a3:Nat)(f g:Tr):Tr:=aD [h a0 11]<|aL [h3 a2,h3 d]<|.br a3 f g
def H1(a0:Nat)(d:Int)(a2:Nat)(f:Tr):Tr:=.lt 8 (.inbs 1) [jI d,h a0 11]<|.br a2 f .no
def B0V:Tr:=H1 0 0 1 (.lt 4 (.get 1 0) [h 0 11,jI 0]<|.fn PY [h 2 4] 1<|mT 0 4 3 5 (K3 0) (H1 0 0 6 (.lt 4 (.get 1 0) [h 0 11,jI 0]<|.fn PW [h 7 4] 2<|.dt 11 (.subs 1) [h 0 11,jI 1,h3 4]<|aD [h 10 11]<|.lp zA [h 0 11,h3 3,h 8 4,h 9 4,h 10 11,h3 11,jI 0] 0 2 (mT 12 13 14 15 (K3 1) (K3 2)) (.lp zA [h 0 11,h3 3,h 8 4,h 9 4,h 10 11,h3 11,jI 0] 1 0 (K3 0) (.no)))))
def A21{G}(n:I6 G):I8 prog G 140 [.s 11] jS [.s 3]:=by
 refine D0 (d:=60) B0V (cxg (B90.2 n) (GU n)) n ⟨f140,_,func140,rfl⟩ C3 C3 ?_;intro us outs g;unfold jS at g;split at g
 .skip;rename_i w;have q:=A5.1 g;clear g;obtain⟨p,f,g⟩:=q;replace f:=F2 f;subst f;split at g
  .rename_i o;cases g;have v:=gt0 o.2.2 o.1;have h:((el (P8 p (1:Int).toNat ((el p).length:Int).toNat)).length:Int)=((el p).length:Int)-1:=by
    rw[el1 o.1,F6];omega
   unfold B0V;refine w0 (.cons 0 _ (.nil)) ?_;refine Y4 ?_;refine w5 (fun g0=>?_) fun g0=>?_
   .refine w8 ?_;first|omega
   refine w1 (.get 1 0) (u:=.int .u8 _) (e:=I5 rfl A0 A0 rfl) (k':=?_);refine w31 PY (e:=A7u _ v) (k':=?_);refine P7 ?_;refine W3 ?_;refine w4 (fun g1=>?_) fun g1=>?_
   .refine w7 [.int .i64 _] ?_;refine l0 ?_;exact B8I g1
   refine Y4 ?_;refine w5 (fun g2=>?_) fun g2=>?_
   .refine w8 ?_;first|omega
   refine w1 (.get 1 0) (u:=.int .u8 _) (e:=I5 rfl A0 A0 rfl) (k':=?_);refine w32 PW (e:=A7s _ v) (k':=?_);refine w2 (.subs 1) (r:=rB) (e:=Z0 rfl A0 A0 A0) (k':=?_);refine P7 ?_;refine w6 zA (uN _ _ _ _ _ _ _ ⟨rfl,A0,A0,A0,B2i.1,B2i.2,B3L.1,B3L.2⟩) (h0:=fun g3=>?_) (h1:=fun v3 g3=>?_)
   .show Wk _ _ (.cons _ _ (.cons _ _ _));refine P7 ?_;refine W3 ?_;refine w4 (fun g4=>?_) fun g4=>?_
    .refine w7 [.int .i64 _] ?_;refine l0 ?_;exact B8H g1 (A5I o.1 (B2a g3)) g4
    refine w7 [.int .i64 _] ?_;refine l0 ?_;exact B8G g1 (A5I o.1 (B2a g3)) g4
   show Wk _ _ _;refine w7 [.int .i64 _] ?_;refine l0 ?_;exact B8F g1 (A5I o.1 (B7s g3))
  .cases g
 .cases g
def EH(n:Int):Int:=if n=3 then 31 else if n=4 then 15 else 7
def A9F{n:Int}(h:n=3∨n=4∨n=5):evU (.bin .shr) [.int .i64 255,.int .i64 n]=.int .i64 (EH n):=by
 rcases h with rfl|rfl|rfl<;>rfl
def A9Q{a n:Int}(h0:0<=a)(h1:a<256):evU (.bin .and) [.int .i64 a,.int .i64 (EH n)]=.int .i64 (a%(EH n+1)):=by
 unfold EH;split
 .exact fA 5 32 B8 B8 B8
 .split
  .exact fA 4 16 B8 B8 B8
  .exact fA 3 8 B8 B8 B8
def cdL:List Int->Int->Int
 | [],c=>c
 | b::r,c=>cdL r (c*64+b%64)
def cH(l:List Int):Int:=cdL (l.drop 1) (if(l.length:Int)>1 then l.getD 0 0%(EH ((l.length:Int)+1)+1)else l.getD 0 0)
def B9h(h:¬i<(l.length:Int)):cdL (l.drop i.toNat) c=c:=by rw[d9 l A0];rfl
def B9g(h0:0<=i)(h1:i<(l.length:Int)):cdL (l.drop i.toNat) c=cdL (l.drop (i+1).toNat) (c*64+l.getD i.toNat default%64):=by
 rw[Q1 l h0 h1];rfl
def B9Y(h:¬(l.length:Int)>1):cH l=cdL (l.drop 1) (l.getD 0 0):=by unfold cH;rw[A3 h]
def B9X(h:(l.length:Int)>1):cH l=cdL (l.drop 1) (l.getD 0 0%(EH ((l.length:Int)+1)+1)):=by unfold cH;rw[A4 h]
def B4C(h:1<=((el p).length:Int)):cdL ((el (P8 p (1:Int).toNat ((el p).length:Int).toNat)).drop (0:Int).toNat) c=cdL ((el p).drop 1) c:=by rw[el1 h];rfl
def B7z(n:Int):7<=EH n/\EH n<=31:=by unfold EH;(repeat' split)<;>omega
noncomputable def B91:L5:=⟨_,fun d=>.nil⟩
def uQ:List U->Option (Nat×List U)
 | [.int .i64 c,u_q,.int .i64 m,.int .i64 i]=>(J3 rB u_q).bind fun q=>if m=((el q).length:Int)/\0<=i/\i<=m/\m<=3/\0<=c/\((i=0/\c<256)∨(i=1/\c<16384)∨(i=2/\c<1048576)∨(i=3/\c<67108864))/\(∀ x ∈ el q,0<=x/\x<256)then some (0,[.int .i64 (cdL ((el q).drop i.toNat) c)])else none
 | _=>none
def uP(c:Int)(q:D4)(m:Int)(i:Int)(d:m=((el q).length:Int)/\0<=i/\i<=m/\m<=3/\0<=c/\((i=0/\c<256)∨(i=1/\c<16384)∨(i=2/\c<1048576)∨(i=3/\c<67108864))/\(∀ x ∈ el q,0<=x/\x<256)):uQ [.int .i64 c,B2 rB q,.int .i64 m,.int .i64 i]=some (0,[.int .i64 (cdL ((el q).drop i.toNat) c)]):=by
 simp only[uQ,F1,C4];exact A4 d
def B0a:Q7:=⟨[(3,h 0 3),(20,dat 7 1 11),(21,h 2 3),(22,h 3 3)],[(7,.frz)],4,[⟨.exit 0,[(3,h 0 3)],[],1⟩]⟩
noncomputable def A24:Code:=(f141.body).getD .skip
noncomputable def B0W:Code:=match H5 [true,true,true,false,true,false] A24 with|some (.loop x)=>x|_=>.skip
def B0Z:f141.body=some A24:=rfl
def B0Y:H5 [true,true,true,false,true,false] A24=some (.loop B0W):=C3
def B0X:Tr:=aV 3 2 4 (J9 1 3 5 (.lt 4 (.get 1 0) [h 1 11,h3 3]<|.lt 3 (.bin .shl) [h3 0,.int .u64 (6)]<|.lt 4 (.bin .and) [h 6 4,.int .u8 (63)]<|.lt 3 (.conv .i64) [h 8 4]<|.lt 3 (.bin .or) [h3 7,h3 9]<|aA [h3 3,jI 1]<|.ret [jI (-1),h3 10,h 1 11,h3 2,h3 11])) (.ret [jI 0,h3 0])
def A23:List U->Nat
 | [.int .i64 c,u_q,.int .i64 m,.int .i64 i]=>(match J3 rB u_q with|some q=>(m-i).toNat|none=>0)
 | _=>0
def A22(c:Int)(q:D4)(m:Int)(i:Int):A23 [.int .i64 c,B2 rB q,.int .i64 m,.int .i64 i]=(m-i).toNat:=by
 simp only[A23,F1]
def B6N{G}(o:I6 G):∀ (E:Nat->U) (base:Nat),@U0 ⟨E,G⟩ prog base gl f141.ntmps B0W (O5 prog gl n0 8 B0a uQ):=by
 refine V7 (dep:=60) (f:=141) (n0:=n0) (nB:=8) (H0:=H0) A23 B0X (cxg (B91.2 o) (GU o)) o func141 B0Z B0Y C3 C3 C3 ?_;intro us d outs n;have A:=n;unfold uQ at n;split at n
 .skip;rename_i c C m i;have w:=A5.1 n;clear n;obtain⟨q,g,n⟩:=w;replace g:=F2 g;subst g;split at n
  .rename_i v;clear n A;have B:i<m->0<=((el q).getD i.toNat default)/\((el q).getD i.toNat default)<256:=fun h=>y0 (l:=el q) v.2.2.2.2.2.2 A0 A0
   refine⟨rfl,?_⟩;unfold B0X;refine w0 (.cons 3 _ (.cons 2 _ (.cons 1 _ (.cons 0 _ (.nil))))) ?_;refine W3 ?_;refine w5 (fun g0=>?_) fun g0=>?_
   .refine w7 [.int .i64 _,.int .i64 _] ?_;refine H6 (d:=0) ?_;rw[uP c q m i v,B9h (l:=el q) (i:=i) A0]
   have B:=B g0;refine Y4 ?_;refine w5 (fun g1=>?_) fun g1=>?_
   .refine w8 ?_;first|omega
   refine w1 (.get 1 0) (u:=.int .u8 _) (e:=I5 rfl A0 A0 rfl) (k':=?_);first|refine w1 (.bin .shl) (e:=CJ 64 B8 B8 (mO A0 A0)) (k':=?_)|refine w1 (.bin .shl) (e:=wV 64 B8 B8) (k':=?_)
   refine w1 (.bin .and) (e:=fA 6 64 B8 B8 B8) (k':=?_);first|refine m5 ?_|refine X1 ?_
   first|refine w1 (.bin .or) (e:=yN 6 64 9223372036854775808 B8 B8 A0 A0 A0 A0 A0) (k':=?_)|refine w1 (.bin .or) (e:=FL 6 64 9223372036854775808 B8 B8 A0 A0 A0 A0 A0) (k':=?_)|refine w1 (.bin .or) (e:=qL _ _ _) (k':=?_)
   first|refine V1 ?_|refine O0 ?_
   refine w7 [.int .i64 _,.int .i64 _,B2 rB _,.int .i64 _,.int .i64 _] ?_;refine M0 ?_ ?_
   .rw[uP _ q m (i+1) ⟨v.1,A0,A0,A0,A0,A0,v.2.2.2.2.2.2⟩,uP c q m i v,B9g (l:=el q) (i:=i) A0 A0]
   .rw[A22,A22];omega
  .cases n
 .cases n
noncomputable def A98:List LpE:=[(141,([true,true,true,false,true,false],O5 prog gl n0 8 B0a uQ))]
def YW{G}(d:I6 G):g8 prog G gl A98:=(.cons func141 B0Z B0Y (B6N d) .nil)
noncomputable def B92:L5:=⟨_,fun d=>.nil⟩
def uR:List U->Option (Nat×List U)
 | [u_p]=>(J3 rB u_p).bind fun p=>if 1<=((el p).length:Int)/\((el p).length:Int)<=4/\(∀ x ∈ el p,0<=x/\x<256)then some (0,[.int .i64 (cH (el p))])else none
 | _=>none
def BF(p:D4)(d:1<=((el p).length:Int)/\((el p).length:Int)<=4/\(∀ x ∈ el p,0<=x/\x<256)):uR [B2 rB p]=some (0,[.int .i64 (cH (el p))]):=by
 simp only[uR,F1,C4];exact A4 d
def aU(a0:Nat)(d:Nat)(a2:Int)(f g:Tr):Tr:=aD [h a0 11]<|aG [h3 d,jI a2]<|.br (d+1) f g
def B0b:Tr:=H1 0 0 1 (.lt 4 (.get 1 0) [h 0 11,jI 0]<|.lt 3 (.conv .i64) [h 2 4]<|aU 0 4 1 (aA [h3 4,jI 1]<|.lt 3 (.bin .shr) [jI 255,h3 6]<|.lt 3 (.bin .and) [h3 3,h3 7]<|.dt 11 (.subs 1) [h 0 11,jI 1,h3 4]<|aD [h 9 11]<|.fn uQ [h3 8,h 9 11,h3 10,jI 0] 1<|.ret [h3 11]) (.dt 11 (.subs 1) [h 0 11,jI 1,h3 4]<|aD [h 6 11]<|.fn uQ [h3 3,h 6 11,h3 7,jI 0] 1<|.ret [h3 8]))
def B0c{G}(o:I6 G):I8 prog G 141 [.s 11] uR [.s 3]:=by
 refine D0 (d:=60) B0b (cxg (B92.2 o) (YW o)) o ⟨f141,_,func141,rfl⟩ C3 C3 ?_;intro us outs n;unfold uR at n;split at n
 .skip;rename_i A;have q:=A5.1 n;clear n;obtain⟨p,f,n⟩:=q;replace f:=F2 f;subst f;split at n
  .rename_i g;cases n;have h:0<=(el p).getD (0:Int).toNat default/\(el p).getD (0:Int).toNat default<256:=gt0 g.2.2 g.1;have B:((el (P8 p (1:Int).toNat ((el p).length:Int).toNat)).length:Int)=((el p).length:Int)-1:=by
    rw[el1 g.1,F6];omega
   have C:=B7z (((el p).length:Int)+1);unfold B0b;refine w0 (.cons 0 _ (.nil)) ?_;refine Y4 ?_;refine w5 (fun g0=>?_) fun g0=>?_
   .refine w8 ?_;first|omega
   refine w1 (.get 1 0) (u:=.int .u8 _) (e:=I5 rfl A0 A0 rfl) (k':=?_);first|refine m5 ?_|refine X1 ?_
   refine P7 ?_;refine cB ?_;refine w4 (fun g1=>?_) fun g1=>?_
   .have w:0<=(el p).getD (0:Int).toNat default%(EH (((el p).length:Int)+1)+1)/\(el p).getD (0:Int).toNat default%(EH (((el p).length:Int)+1)+1)<256:=⟨cA _ A0,Int.lt_of_lt_of_le (cL _ A0) A0⟩;first|refine V1 ?_|refine O0 ?_
    refine w1 (.bin .shr) (e:=A9F A0) (k':=?_);refine w1 (.bin .and) (e:=A9Q A0 A0) (k':=?_);refine w2 (.subs 1) (r:=rB) (e:=Z0 rfl A0 A0 A0) (k':=?_);refine P7 ?_;refine w31 uQ (e:=uP _ _ _ _ ⟨rfl,A0,A0,A0,w.1,.inl ⟨rfl,w.2⟩,fun x v=>g.2.2 x (by rw[el1 g.1]at v;exact K0 v)⟩) (k':=?_);refine w7 [.int .i64 _] ?_;refine l0 ?_;rw[B9X g1];exact B4C g.1
   refine w2 (.subs 1) (r:=rB) (e:=Z0 rfl A0 A0 A0) (k':=?_);refine P7 ?_;refine w31 uQ (e:=uP _ _ _ _ ⟨rfl,A0,A0,A0,h.1,.inl ⟨rfl,h.2⟩,fun x v=>g.2.2 x (by rw[el1 g.1]at v;exact K0 v)⟩) (k':=?_);refine w7 [.int .i64 _] ?_;refine l0 ?_;rw[B9Y g1];exact B4C g.1
  .cases n
 .cases n
noncomputable def B9x:L5:=⟨_,fun d=>(.cons (A21 d) .nil)⟩
def yZ:List U->Option (Nat×List U)
 | [u_p]=>(J3 rB u_p).bind fun p=>if((el p).length:Int)<=1000/\(∀ x ∈ el p,0<=x/\x<256)then some (0,[.bool (decide (((el p).length:Int)=0∨knd (el p)=1))])else none
 | _=>none
def ZH(p:D4)(d:((el p).length:Int)<=1000/\(∀ x ∈ el p,0<=x/\x<256)):yZ [B2 rB p]=some (0,[.bool (decide (((el p).length:Int)=0∨knd (el p)=1))]):=by
 simp only[yZ,F1,C4];exact A4 d
def n9(a0:Int)(d:Nat)(a2:Nat)(f g:Tr):Tr:=aD [h d 11]<|aE [h3 a2,jI a0]<|.br (a2+1) f g
def B0M:Tr:=n9 0 0 1 x4 (.fn jS [h 0 11] 1<|fO 3 4 1)
def B0N{G}(o:I6 G):I8 prog G 139 [.s 11] yZ [.s 8]:=by
 refine D0 (d:=60) B0M (cxg (B9x.2 o) .nil) o ⟨f139,_,func139,rfl⟩ C3 C3 ?_;intro us outs n;unfold yZ at n;split at n
 .skip;rename_i v;have q:=A5.1 n;clear n;obtain⟨p,f,n⟩:=q;replace f:=F2 f;subst f;split at n
  .rename_i u;cases n;unfold B0M;refine w0 (.cons 0 _ (.nil)) ?_;repeat (first|refine R8 ?_|(refine w7 [.bool _] ?_;rotate_left)|refine P7 ?_|refine w4 (fun g=>?_) fun g=>?_|refine w31 jS (e:=uO _ ⟨A0,A0,u.2⟩) (k':=?_))
   all_goals
    refine l1 ?_;first|exact(D3 (.inl A0)).symm|(exact decide_eq_decide.2 ⟨fun h=>.inr h,fun h=>h.resolve_left A0⟩)
  .cases n
 .cases n
def VT(b:Int):D4:=if knd [b]=1 then some [b]else none
def sR(b:Int):D4:=if knd [b]=2 then some [cH [b]]else if knd [b]=1 then none else some [65533]
def utR(l:List Int)(b:Int):D4:=if knd (l++[b])=2 then none else if knd (l++[b])=1 then some (l++[b])else if l=[]then none else VT b
def utC(l:List Int)(b:Int):D4:=if knd (l++[b])=2 then some [cH (l++[b])]else if knd (l++[b])=1 then none else if l=[]then some [65533]else some (65533::el (sR b))
def B4Z :utR [] b=VT b/\utC [] b=sR b:=by
 unfold utR utC VT sR;constructor
 .by_cases h:knd ([]++[b])=2
  .rw[A4 h,A3 (by show ¬knd ([]++[b])=1;omega)]
  .rw[A3 h];rfl
 .rfl
def A9c(h:((el p).length:Int)=0):el p=[]:=D5.1 A0
def gK :el (P8 p (0:Int).toNat ((el p).length:Int).toNat)=el p:=by
 rw[M1];show((el p).drop 0).take _=_;rw[P4];exact L7 (by simp)
def ut2{a b c d:D4}(h1:a=b)(f:c=d):[B2 rB a,B2 rN c]=[B2 rB b,B2 rN d]:=by rw[h1,f]
def A7p(h:knd (l++[b])=2):none=utR l b/\some [cH (l++[b])]=utC l b:=by unfold utR utC;rw[A4 h,A4 h];exact⟨rfl,rfl⟩
def A7q(h:knd (l++[b])=1):some (l++[b])=utR l b/\none=utC l b:=by unfold utR utC;rw[A3 A0,A4 h,A3 A0,A4 h];exact⟨rfl,rfl⟩
def A7o(d:¬knd (l++[b])=2)(h:¬knd (l++[b])=1)(h3:l=[]):none=utR l b/\some [65533]=utC l b:=by unfold utR utC;rw[A3 d,A3 h,A3 d,A3 h,A4 h3,A4 h3];exact⟨rfl,rfl⟩
def B6K(d:¬knd (l++[b])=2)(h:¬knd (l++[b])=1)(h3:l≠[]):VT b=utR l b/\some (65533::el (sR b))=utC l b:=by unfold utR utC;rw[A3 d,A3 h,A3 d,A3 h,A3 h3,A3 h3];exact⟨rfl,rfl⟩
def HS(d:∀ x ∈ el p,0<=x/\x<256)(h0:0<=b)(h1:b<256):∀ x ∈ el p++[b],0<=x/\x<256:=fun x f=>by
 rcases B5.1 f with h|h
 .exact d x h
 .have:x=b:=by simpa using h
  omega
def la(l:List Int)(b:Int):((l++[b]).length:Int)=(l.length:Int)+1:=by simp
def PV(b:Int):(el (sR b)).length<=1:=by unfold sR;(repeat' split)<;>simp[el]
def B4b(b:Int):utC (el (none:D4)) b=sR b:=B4Z.2
def fD(b:Int):(el (utC (el (none:D4)) b)).length<=1:=by rw[B4b];exact PV b
def A0t :U6 (l.getD 0 0)<=4:=by unfold U6;(repeat' split)<;>omega
def A0s(h:knd l=1∨knd l=2):(l.length:Int)<=4:=by
 have:=A0t (l:=l);unfold knd at h;by_cases h1:U6 (l.getD 0 0)<(l.length:Int)
 .rw[A4 h1]at h;omega
 .omega
def iV(h:knd l=1):(l.length:Int)<=3:=by
 have:=A0t (l:=l);unfold knd at h;by_cases h1:U6 (l.getD 0 0)<(l.length:Int)
 .rw[A4 h1]at h;omega
 .rw[A3 h1]at h;by_cases d:okT (l.drop 1) (loB (l.getD 0 0)) (hiB (l.getD 0 0))=true
  .rw[A4 d]at h;by_cases h3:(l.length:Int)<U6 (l.getD 0 0)
   .omega
   .rw[A3 h3]at h;omega
  .rw[A3 d]at h;omega
def A2r(x:D4):S0 (some [65533]) x=some (65533::el x):=by
 cases x with
 | none=>rfl
 | some l=>cases l<;>rfl
end Go.Proofs.YtdimocjaepnifaaGreatDoor
