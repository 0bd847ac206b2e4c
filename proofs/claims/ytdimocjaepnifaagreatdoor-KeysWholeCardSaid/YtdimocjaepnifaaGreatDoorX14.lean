import Derived.Test.YtdimocjaepnifaaGreatDoorX13
set_option linter.all false
set_option maxRecDepth 100000
set_option maxHeartbeats 4000000
namespace Go.Proofs.YtdimocjaepnifaaGreatDoor
open Go Go.Sx
variable {c i m r v:Int}{a t:C8}{e g:Bool}{l:List Int}{x:Rws}{k:Nat}
def vY:∀ (s t:C8) (l:Rws),lR l (s++t)=match lR l s with|none=>lR (kS l s) t|some e=>some e
 | [],t,l=>rfl
 | b::s,t,l=>by
   rw[Y6];by_cases h:(O4 l b.toNat).2≠0
   .rw[CA h,CA h]
   .rw[rW h,rW h,vY s t];rfl
def vX:∀ (s t:C8) (l:Rws),kS l (s++t)=kS (kS l s) t
 | [],t,l=>rfl
 | b::s,t,l=>by rw[Y6,xT,xT,vX s t]
def oO(M:List (List Int)):Rws:=if M=[[-1]]then none else some (M.map some)
structure OkM (M:List (List Int)):Prop where
 len:M.length<=16
 row:∀ p ∈ M,1<=p.length/\p.length<=6
 num:∀ p ∈ M,∀ n ∈ p,-1<=n/\n<=9999
def A90{p:List Int}(h1:1<=p.length/\p.length<=6)(b:∀ n ∈ p,-1<=n/\n<=9999):eN (some p)=false:=by
 unfold eN;rw[E3,P1,P1];refine⟨C9 A0,C9 A0,?_⟩;rw[y5];intro n d;rw[YO (by have:=b n d;omega)];decide
def A68{M:List (List Int)}(h:OkM M)(b:M≠[[-1]]):M6 (some (M.map some))=0:=by
 unfold M6;refine A3 ?_
 rintro(h1|h1|h1)
 .rw[E3,H3]at h1;have:=h.len;omega
 .apply b;unfold cG at h1;rw[E3]at h1
  match M,h1 with
  | [p],h1 =>
    match p,h1 with
    | [n],h1=>simp[el]at h1;rw[h1]
    | [],h1=>simp[el]at h1
    | _::_::_,h1=>simp[el]at h1
  | [],h1=>simp at h1
  | _::_::_,h1=>simp at h1
 .rw[E3,List.any_map]at h1;obtain⟨p,hp,d⟩:=Y7.1 h1
  have:=A90 (h.row p hp) (h.num p hp);simp[this]at d
def UR{M:List (List Int)}(h:OkM M):M6 (oO M)=0:=by
 unfold oO;split
 .decide
 .rename_i b;exact A68 h b
def A95{α:Type}(l:Option (List α)):YU l=el l:=by
 show el (P8 l 0 ((el l).length:Int).toNat)=_;rw[M1,N6,gS,P4,mL]
def UI{α:Type}(F:List α)(x:α):oS (some (F++[x]))=F:=by
 show el (P8 (some (F++[x])) 0 (((F++[x]).length:Int)-1).toNat)=_;rw[M1,E3,B1,G1,show(((F.length+1:Nat):Int)-1).toNat=F.length by omega];simp
def A2N(F:List D4)(x:D4):m6 (some (F++[x]))=x:=by
 show(F++[x]).getD (((F++[x]).length:Int)-1).toNat default=x;rw[B1,G1,show(((F.length+1:Nat):Int)-1).toNat=F.length by omega];simp
def A2O(F:List Int)(x:Int):tC (some (F++[x]))=x:=by
 show(F++[x]).getD (((F++[x]).length:Int)-1).toNat default=x;rw[B1,G1,show(((F.length+1:Nat):Int)-1).toNat=F.length by omega];simp
def A1t{M:List (List Int)}(h:OkM M)(d:M≠[])(f:M.length<16):O4 (oO M) 59=(some ((M++[[-1]]).map some),0):=by
 have b:=UR h;unfold oO at b ⊢;split
 .rename_i e;subst e;rw[WJ none 59 B8 B8 rfl];rfl
 .rename_i e;rw[A3 e]at b;have h0:0<M.length:=O1.2 d;rw[WH _ 59 b (by rw[E3,H3];omega) rfl (by rw[E3,H3];omega),A95,E3,O2];rfl
def BT{M:List (List Int)}(h:M≠[[-1]]):oO M=some (M.map some):=A3 h
def A3K{F:List (List Int)}{p:List Int}{n:Int}(h:OkM (F++[p++[n]]))(f:48<=c/\c<=57):O4 (oO (F++[p++[n]])) c=(some ((F++[p++[qQ n c]]).map some),0):=by
 have b:=UR h;unfold oO at b ⊢;split
 .rename_i e;have h1:F=[]/\p=[]/\n = -1:=by
   cases F with
   | nil =>
     cases p with
     | nil=>simpa using e
     | cons a p=>cases p<;>simp at e
   | cons a F=>cases F<;>simp at e
  obtain⟨rfl,rfl,rfl⟩:=h1;rw[WI none c B8 B8 f];rfl
 .rename_i e;rw[A3 e]at b;have em:(F++[p++[n]]).map some=F.map some++[some (p++[n])]:=by simp
  rw[em]at b ⊢;have d:m6 (some (F.map some++[some (p++[n])]))=some (p++[n]):=A2N _ _;rw[WF _ c b (by rw[E3,B1,G1];omega) f,d,UI,UI,A2O];simp
def OkM.set{F:List (List Int)}{p:List Int}{n:Int}(h:OkM (F++[p++[n]]))(hm : -1<=m/\m<=9999):OkM (F++[p++[m]]):=by
 have f:=h.len;refine⟨by simpa using f,fun q b=>?_,fun q b k d=>?_⟩
 .rcases B5.1 b with b|b
  .exact h.row q (i6 _ b)
  .rw[L1.1 b]
   have:=h.row (p++[n]) (x8 _ (L1.2 rfl))
   simpa using this
 .rcases B5.1 b with b|b
  .exact h.num q (i6 _ b) k d
  .rw[L1.1 b]at d;rcases B5.1 d with d|d
   .exact h.num (p++[n]) (x8 _ (L1.2 rfl)) k (i6 _ d)
   .rw[L1.1 d];exact hm
def B2b{F:List (List Int)}{p:List Int}{n:Int}(b:n ≠ -1):F++[p++[n]]≠[[-1]]:=fun e=>by
 cases F with
 | nil=>cases p with
   | nil=>simp at e;exact b e
   | cons a p=>cases p<;>simp at e
 | cons a F=>cases F<;>simp at e
def KH(d:Nat)(h:d<10):((UInt8.ofNat (48+d)).toNat:Int)=48+d:=by
 rw[UInt8.toNat_ofNat'];omega
def SN{F:List (List Int)}{p:List Int}(h:OkM (F++[p++[-1]])):∀ (u:Nat),u<=9999->lR (oO (F++[p++[-1]])) (Lib.decDigits u)=none/\kS (oO (F++[p++[-1]])) (Lib.decDigits u)=oO (F++[p++[(u:Int)]]):=by
 intro u;induction u using Nat.strongRecOn with
 | _ u s =>
   intro hu;have one:∀ (n:Int) (d:Nat),d<10->OkM (F++[p++[n]])->lR (oO (F++[p++[n]])) [UInt8.ofNat (48+d)]=none/\kS (oO (F++[p++[n]])) [UInt8.ofNat (48+d)]=some ((F++[p++[qQ n (48+d)]]).map some):=fun n d o q=>by
    have f:=A3K (c:=48+(d:Int)) q ⟨A0,A0⟩;refine⟨?_,?_⟩
    .rw[rW (by rw[KH d o,f];exact fun h=>h rfl)];rfl
    .rw[xT,KH d o,f];rfl
   by_cases f:u<10
   .rw[Lib.decDigits_one f];obtain⟨a,b⟩:=one (-1) u f h;have e:qQ (-1) (48+(u:Int))=u:=by unfold qQ;omega
    refine⟨a,?_⟩;rw[b,e,BT (B2b A0)]
   .obtain⟨a,b⟩:=s (u / 10) A0 A0;have j:=OkM.set h (m:=((u / 10:Nat):Int)) ⟨A0,A0⟩;obtain⟨c,d⟩:=one ((u / 10:Nat):Int) (u%10) A0 j;have e:qQ ((u / 10:Nat):Int) (48+((u%10:Nat):Int))=u:=by unfold qQ;omega
    rw[show Lib.decDigits u=Lib.decDigits (u / 10)++[UInt8.ofNat (48+u%10)] by rw[Lib.decDigits,dif_neg f]];refine⟨?_,?_⟩
    .rw[vY,a,b];exact c
    .rw[vX,b,d,e,BT (B2b A0)]
def OkM.snoc{F:List (List Int)}{p:List Int}(h:OkM F)(f:F.length<16)(h1:1<=p.length/\p.length<=6)(d:∀ n ∈ p,-1<=n/\n<=9999):OkM (F++[p]):=by
 refine⟨by simp;omega,fun q b=>?_,fun q b=>?_⟩
 .rcases B5.1 b with b|b
  .exact h.row q b
  .rw[L1.1 b];exact h1
 .rcases B5.1 b with b|b
  .exact h.num q b
  .rw[L1.1 b];exact d
def B6X:oO ([]++[[]++[-1]])=none:=A4 rfl
def A0Y{M:List (List Int)}(h:OkM M)(d:M.length<16){n:Int}(f : -1<=n/\n<=9999):OkM (M++[[]++[n]]):=OkM.snoc h d ⟨by simp,by simp⟩ fun k b=>by rw[L1.1 b];exact f
def QV{M:List (List Int)}(h:OkM M)(b:M≠[])(f:M.length<16){u:Nat}(hu:u<=9999):lR (oO M) (59::Lib.decDigits u)=none/\kS (oO M) (59::Lib.decDigits u)=oO (M++[[]++[(u:Int)]]):=by
 have d:O4 (oO M) ((59:UInt8).toNat:Int)=(some ((M++[[-1]]).map some),0):=A1t h b f;have e:(some ((M++[[-1]]).map some):Rws)=oO (M++[[]++[-1]]):=(BT fun e=>by
  have:=G2 List.length e;rw[B1]at this;have:M.length=0:=by simpa using this
  exact b (D5.1 this)).symm
 obtain⟨j,o⟩:=SN (p:=[]) (A0Y h f (n := -1) B8) u hu;refine⟨?_,?_⟩
 .rw[rW (by rw[d];exact fun h=>h rfl),d,e];exact j
 .rw[xT,d,e];exact o
def B7o:OkM []:=⟨B8,fun p hp=>(by cases hp),fun p hp=>(by cases hp)⟩
def C1x{a b:Int}(f:0<=a/\a<=9999)(j:0<=b/\b<=9999)(d:0<=c/\c<=9999):O9 (itz a++[59]++itz b++[59]++itz c)=(some [some [a],some [b],some [c]],0):=by
 have l1:=qA a f.1 A0;have l2:=qA b j.1 A0;have l3:=qA c d.1 A0;have B:¬4096<(((itz a++[59]++itz b++[59]++itz c).length:Nat):Int):=by simp only[B1,G1];omega
 have e:itz a++[59]++itz b++[59]++itz c=Lib.decDigits a.toNat++(59::Lib.decDigits b.toNat++59::Lib.decDigits c.toNat):=by
  rw[kI f.1,kI j.1,kI d.1];simp
 have q:=A0Y B7o B8 (n:=(a.toNat:Int)) ⟨A0,A0⟩;have w:=A0Y q (by simp) (n:=(b.toNat:Int)) ⟨A0,A0⟩;obtain⟨s,a2⟩:=SN (F:=[]) (p:=[]) (A0Y B7o B8 (n := -1) B8) a.toNat A0;obtain⟨y,o⟩:=QV q (by simp) (by simp) (u:=b.toNat) A0;obtain⟨z,A⟩:=QV w (by simp) (by simp) (u:=c.toNat) A0;rw[B6X]at s a2;have E:lR none (itz a++[59]++itz b++[59]++itz c)=none:=by
  rw[e,vY,s];show lR (kS none _) _=none;rw[a2,vY,y];show lR (kS _ _) _=none;rw[o];exact z
 have P:kS none (itz a++[59]++itz b++[59]++itz c)=some [some [a],some [b],some [c]]:=by
  rw[e,vX,a2,vX,o,A,BT (fun h=>by simp at h),U5 f.1,U5 j.1,U5 d.1];rfl
 unfold O9;rw[A3 B,E];show(kS none _,(0:Int))=_;rw[P]
open Go Go.Sx Go.Proofs.Tryz
def l8q{n p q f b j w s a2 a3 a4 a5 d o:Int}{u:C8}(h1:s=n)(B:a2=p)(h3:a3=q)(A:a4=f)(z:a5=b)(C:d=j)(y:o=w)(h:u=t):[U.int .i64 s,.int .i64 a2,.int .i64 a3,.int .i64 a4,.int .i64 a5,.int .i64 d,.int .i64 o,.str u]=[U.int .i64 n,.int .i64 p,.int .i64 q,.int .i64 f,.int .i64 b,.int .i64 j,.int .i64 w,.str t]:=by rw[h1,B,h3,A,z,C,y,h]
noncomputable def C0K:L5:=⟨_,fun b=>.nil⟩
def vJ:List U->Option (Nat×List U)
 | [.int .u8 b]=>if 0<=b/\b<128 then some (0,[.int .i64 (1),.int .i64 (plC b),.int .i64 (plM b),.int .i64 (0),.int .i64 (0),.int .i64 (0),.int .i64 (0),.str ([])])else none
 | _=>none
def A0A(b:Int)(d:0<=b/\b<128):vJ [.int .u8 b]=some (0,[.int .i64 (1),.int .i64 (plC b),.int .i64 (plM b),.int .i64 (0),.int .i64 (0),.int .i64 (0),.int .i64 (0),.str ([])]):=A4 d
def B1T:Tr:=.lt 3 (.conv .i64) [h 0 4]<|aE [h 0 4,.int .u8 (9)]<|.br 2 (bV 0 1114136) (aE [h 0 4,.int .u8 (13)]<|.br 3 (bV 0 1114135) (aE [h 0 4,.int .u8 (127)]<|.br 4 (bV 0 1114137) (aE [h 0 4,.int .u8 (0)]<|.br 5 (bV 4 32) (aQ [h 0 4,.int .u8 (26)]<|.br 6 (.lt 3 (.conv .i64) [h 0 4]<|aS [h3 7,jI 1]<|aA [h3 8,jI 97]<|eR 4 9) (aL [h 0 4,.int .u8 (32)]<|.br 7 (.lt 3 (.conv .i64) [h 0 4]<|aS [h3 8,jI 28]<|aA [h3 9,jI 92]<|eR 4 10) (eR 0 1))))))
def B1U{G}(j:I6 G):I8 prog G 121 [.s 4] vJ [.a [3,3,3,3,3,3,3,9]]:=by
 refine D0 (d:=60) B1T (cxg (C0K.2 j) .nil) j ⟨f121,_,func121,rfl⟩ C3 C3 ?_;intro us outs f;unfold vJ at f;split at f
 .skip;rename_i b;split at f
  .rename_i n;cases f;unfold B1T;refine w0 (.cons 0 _ (.nil)) ?_;repeat (first|(refine w7 [.int .i64 _,.int .i64 _,.int .i64 _,.int .i64 _,.int .i64 _,.int .i64 _,.int .i64 _,.str _] ?_;rotate_left)|refine m5 ?_|refine X1 ?_|refine w4 (fun g=>?_) fun g=>?_|refine R8 ?_|refine oW ?_|refine iC ?_|refine V1 ?_|refine O0 ?_|refine iE ?_|refine W3 ?_)
   all_goals
    unfold plC plM;first
    | (exfalso;omega)
    | (subst_vars;rfl)
    | ((repeat (first|rw[A3 A0]|rw[A4 A0]));done)
    | ((repeat (first|rw[A3 A0]|rw[A4 A0]));exact l8q rfl A0 rfl rfl rfl rfl rfl rfl)
  .cases f
 .cases f
def fr0(b:Int):C8:=if b=27 then[27]else[]
def sV(b:Int)(e:Bool):Option (List Xt):=if b=27 then none else some [ipK (plC b) (plM b+(if e then 2 else 0))]
def sU{s:C8}{a c:Option (List Xt)}(h:s=t)(b:a=c):[U.str s,B2 rI a]=[U.str t,B2 rI c]:=by rw[h,b]
def B3U{b:Int}(h:b=27):[27]=fr0 b/\none=sV b e:=by unfold fr0 sV;rw[A4 h,A4 h];exact⟨rfl,rfl⟩
def B8q{b:Int}(h:¬b=27):[]=fr0 b/\some [ipK (plC b) (plM b+(if e then 2 else 0))]=sV b e:=by unfold fr0 sV;rw[A3 h,A3 h];exact⟨rfl,rfl⟩
def B2X(b:Int):0<=plM b/\plM b<=4:=by unfold plM;(repeat' split)<;>omega
def rcF:List Int->Option Unit
 | []=>none
 | c::r=>if c<128 then some ()else rcF r
def rcI:List Int->Int->Option (List Xt)->Option (List Xt)
 | [],_,l=>l
 | c::r,m,l=>if c<128 then l else if c>=160 then rcI r 0 (some (el l++[ipK c m]))else rcI r 0 l
def B7W(h:¬i<(l.length:Int)):rcF (l.drop i.toNat)=none:=by rw[d9 l A0];rfl
def B7V{p:Option (List Xt)}(h:¬i<(l.length:Int)):rcI (l.drop i.toNat) m p=p:=by rw[d9 l A0];rfl
def A40(h0:0<=i)(h1:i<(l.length:Int)):rcF (l.drop i.toNat)=if l.getD i.toNat default<128 then some ()else rcF (l.drop (i+1).toNat):=by rw[Q1 l h0 h1];rfl
def A4z(m:Int)(p:Option (List Xt))(h0:0<=i)(h1:i<(l.length:Int)):rcI (l.drop i.toNat) m p=if l.getD i.toNat default<128 then p else if l.getD i.toNat default>=160 then rcI (l.drop (i+1).toNat) 0 (some (el p++[ipK (l.getD i.toNat default) m]))else rcI (l.drop (i+1).toNat) 0 p:=by rw[Q1 l h0 h1];rfl
def A6I(b:Int)(e:Bool):(el (sV b e)).length<=1:=by unfold sV;split<;>simp[el]
noncomputable def C0a:L5:=⟨_,fun b=>(.cons (B1U b) .nil)⟩
def RI:List U->Option (Nat×List U)
 | [.int .u8 b,.bool e]=>if 0<=b/\b<128 then some (0,[.str (fr0 b),B2 rI (sV b e)])else none
 | _=>none
def A8P(b:Int)(e:Bool)(d:0<=b/\b<128):RI [.int .u8 b,.bool e]=some (0,[.str (fr0 b),B2 rI (sV b e)]):=A4 d
def A4d(n:Nat):Tr:=.dt 18 (.mk 8) [h3 4,h3 5,h3 12,h3 7,h3 8,h3 9,h3 10,h 11 9]<|.ret [.string ⟨⟨[]⟩⟩,h n 18]
def B1x:Tr:=.br 1 (gJ 0 2 (.dt 18 (.nilw 8) []<|.ret [.string ⟨⟨[27]⟩⟩,h 3 18]) (aH [h 0 4,.int .u8 (128)]<|.br 3 (.no) (.fn vJ [h 0 4] 8<|aA [h3 6,jI 2]<|A4d 13))) (gJ 0 2 (.dt 18 (.nilw 8) []<|.ret [.string ⟨⟨[27]⟩⟩,h 3 18]) (aH [h 0 4,.int .u8 (128)]<|.br 3 (.no) (.fn vJ [h 0 4] 8<|aA [h3 6,jI 0]<|A4d 13)))
def B1y{G}(j:I6 G):I8 prog G 88 [.s 4,.s 8] RI [.s 9,.s 18]:=by
 refine D0 (d:=60) B1x (cxg (C0a.2 j) .nil) j ⟨f88,_,func88,rfl⟩ C3 C3 ?_;intro us outs f;unfold RI at f;split at f
 .skip;rename_i b e;split at f
  .rename_i o;cases f;have p:=B2X b;unfold B1x;refine w0 (.cons 1 _ (.cons 0 _ (.nil))) ?_;repeat (first|refine w4 (fun g=>?_) fun g=>?_|refine w4B (fun g=>?_) fun g=>?_|(refine w7 [.str _,B2 rI _] ?_;rotate_left)|refine V1 ?_|refine O0 ?_|refine R8 ?_|refine w2 (.nilw 8) (r:=rI) (e:=G6 rfl) (k':=?_)|refine bK ?_|(refine w8 ?_;first|omega|contradiction|(exfalso;simp_all;done))|(refine w3 vJ (e:=A0A _ o) (k':=?_);show Wk _ _ (.cons _ _ (.cons _ _ (.cons _ _ (.cons _ _ (.cons _ _ (.cons _ _ (.cons _ _ (.cons _ _ _)))))))))|refine w2 (.mk 8) (r:=rI) (e:=I0 [(_,_,_,_,_,_,_,_)] rfl B8 rfl) (k':=?_))
   all_goals
    first
    | (have n:e=true:=by assumption
       subst n;first
       | (have z:=B3U (b:=b) (e:=true) ‹_›
          exact sU z.1 (by first|exact z.2|(have z2:=z.2;simpa using z2)))
       | (have z:=B8q (b:=b) (e:=true) ‹_›
          exact sU z.1 (by first|exact z.2|(have z2:=z.2;simpa using z2))))
    | (have n:e=false:=by assumption
       subst n;first
       | (have z:=B3U (b:=b) (e:=false) ‹_›
          exact sU z.1 (by first|exact z.2|(have z2:=z.2;simpa using z2)))
       | (have z:=B8q (b:=b) (e:=false) ‹_›
          exact sU z.1 (by first|exact z.2|(have z2:=z.2;simpa using z2))))
  .cases f
 .cases f
noncomputable def C0d:L5:=⟨_,fun b=>(.cons (B00 b) (.cons (B1y b) .nil))⟩
def tA:List U->Option (Nat×List U)
 | [.int .u8 b,.int .i64 mods,u_rest,u_cs,u_l,.int .i64 i]=>(J3 rB u_rest).bind fun rest=>(J3 rN u_cs).bind fun cs=>(J3 rI u_l).bind fun l=>if(0<=b/\b<256)/\0<=i/\i<=((el cs).length:Int)/\((el cs).length:Int)<=100/\((el l).length:Int)+(((el cs).length:Int)-i)<=1000000/\(∀ c ∈ el cs,0<=c/\(c<128->b<128))then Z9 (rcF ((el cs).drop i.toNat)) [B2 rB rest,B2 rI (rcI ((el cs).drop i.toNat) mods l)] (fun _=>[.str (fr0 b),B2 rI (S0 (rcI ((el cs).drop i.toNat) mods l) (sV b false))])else none
 | _=>none
def nC(b:Int)(d:Int)(rest:D4)(cs:D4)(l:(Option (List (Int×Int×Int×Int×Int×Int×Int×C8))))(i:Int)(f:(0<=b/\b<256)/\0<=i/\i<=((el cs).length:Int)/\((el cs).length:Int)<=100/\((el l).length:Int)+(((el cs).length:Int)-i)<=1000000/\(∀ c ∈ el cs,0<=c/\(c<128->b<128))):tA [.int .u8 b,.int .i64 d,B2 rB rest,B2 rN cs,B2 rI l,.int .i64 i]=Z9 (rcF ((el cs).drop i.toNat)) [B2 rB rest,B2 rI (rcI ((el cs).drop i.toNat) d l)] (fun _=>[.str (fr0 b),B2 rI (S0 (rcI ((el cs).drop i.toNat) d l) (sV b false))]):=by
 simp only[tA,F1,C4];exact A4 f
def B15:Q7:=⟨[(2,h 0 4),(3,h 1 3),(10,dat 8 2 11),(11,dat 9 3 11),(12,own 10 4 18),(13,h 5 3)],[(10,.sq 4 18 23 11),(8,.frz),(9,.frz),(11,.frz)],6,[⟨.exit 0,[(10,dat 12 0 11),(12,own 13 1 18)],[(13,.sq 1 18 23 14),(12,.frz),(14,.frz)],2⟩,⟨.ret,[(8,h 0 9),(9,own 15 1 18)],[(15,.sq 1 18 23 16),(16,.frz)],2⟩]⟩
noncomputable def A4l:Code:=(f89.body).getD .skip
noncomputable def B11:Code:=match H5 [true,true,true,true,false,true,false] A4l with|some (.loop x)=>x|_=>.skip
def B14:f89.body=some A4l:=rfl
def B13:H5 [true,true,true,true,false,true,false] A4l=some (.loop B11):=C3
def B12:Tr:=mT 3 6 5 7 (J9 3 5 8 (.lt 3 (.get 1 0) [h 3 11,h3 5]<|M9 9 10 128 (.fn RI [h 0 4,.bool false] 2<|.dt 18 (.cat 8) [h 4 18,h 12 18]<|.ret [jI 1,h 11 9,h 13 18]) (J9 3 5 11 (.lt 3 (.get 1 0) [h 3 11,h3 5]<|J6 12 13 160 (J9 3 5 14 (.lt 3 (.get 1 0) [h 3 11,h3 5]<|.dt 18 (.snoc 8) [h 4 18,jI 1,h3 15,h3 1,jI 0,jI 0,jI 0,jI 0,.string ⟨⟨[]⟩⟩]<|aA [h3 5,jI 1]<|.ret [jI (-1),h 0 4,jI 0,h 2 11,h 3 11,h 16 18,h3 17])) (aA [h3 5,jI 1]<|.ret [jI (-1),h 0 4,jI 0,h 2 11,h 3 11,h 4 18,h3 14]))))) (.ret [jI 0,h 2 11,h 4 18])
def A4k:List U->Nat
 | [.int .u8 b,.int .i64 mods,u_rest,u_cs,u_l,.int .i64 i]=>(match J3 rB u_rest with|some rest=>(match J3 rN u_cs with|some cs=>(match J3 rI u_l with|some l=>(((el cs).length:Int)-i).toNat|none=>0)|none=>0)|none=>0)
 | _=>0
def MV(b:Int)(d:Int)(rest:D4)(cs:D4)(l:(Option (List (Int×Int×Int×Int×Int×Int×Int×C8))))(i:Int):A4k [.int .u8 b,.int .i64 d,B2 rB rest,B2 rN cs,B2 rI l,.int .i64 i]=(((el cs).length:Int)-i).toNat:=by
 simp only[A4k,F1]
def B7L{G}(B:I6 G):∀ (E:Nat->U) (base:Nat),@U0 ⟨E,G⟩ prog base gl f89.ntmps B11 (O5 prog gl n0 17 B15 tA):=by
 refine V7 (dep:=60) (f:=89) (n0:=n0) (nB:=17) (H0:=H0) A4k B12 (cxg (C0d.2 B) .nil) B func89 B14 B13 C3 C3 C3 ?_;intro us d outs o;have F:=o;unfold tA at o;split at o
 .skip;rename_i b j C H J i;have w:=A5.1 o;clear o;obtain⟨rest,n,o⟩:=w;replace n:=F2 n;subst n;have z:=A5.1 o;clear o;obtain⟨cs,p,o⟩:=z;replace p:=F2 p;subst p;have A:=A5.1 o;clear o;obtain⟨l,s,o⟩:=A;replace s:=F2 s;subst s;split at o
  .rename_i q;clear o F;have D:i<((el cs).length:Int)->0<=((el cs).getD i.toNat default)/\(((el cs).getD i.toNat default)<128->b<128):=fun h=>q.2.2.2.2.2 _ (lV A0 A0)
   have L:=A6I b false;refine⟨rfl,?_⟩;unfold B12;refine w0 (.cons 5 _ (.cons 4 _ (.cons 3 _ (.cons 2 _ (.cons 1 _ (.cons 0 _ (.nil))))))) ?_;refine P7 ?_;refine W3 ?_;refine w5 (fun g0=>?_) fun g0=>?_
   .refine w7 [.int .i64 _,B2 rB _,B2 rI _] ?_;refine H6 (d:=0) ?_;rw[nC b j rest cs l i q,B7W (l:=el cs) (i:=i) A0,B7V (l:=el cs) (i:=i) A0];rfl
   have D:=D g0;refine Y4 ?_;refine w5 (fun g1=>?_) fun g1=>?_
   .refine w8 ?_;first|omega
   refine w1 (.get 1 0) (u:=.int .i64 _) (e:=I5 rfl A0 A0 rfl) (k':=?_);refine W3 ?_;refine w4 (fun g2=>?_) fun g2=>?_
   .refine w32 RI (e:=A8P b false ⟨q.1.1,D.2 g2⟩) (k':=?_);refine w2 (.cat 8) (r:=rI) (e:=eZ rfl (by first|omega)) (k':=?_);refine w7 [.int .i64 _,.str _,B2 rI _] ?_;refine H6 (d:=1) ?_;have y:=A4z (l:=el cs) (i:=i) j l A0 A0;have z2:=A40 (l:=el cs) (i:=i) A0 A0;rw[A4 g2]at y z2;rw[nC b j rest cs l i q,y,z2];rfl
   refine Y4 ?_;refine w5 (fun g3=>?_) fun g3=>?_
   .refine w8 ?_;first|omega
   refine w1 (.get 1 0) (u:=.int .i64 _) (e:=I5 rfl A0 A0 rfl) (k':=?_);refine bK ?_;refine w4 (fun g4=>?_) fun g4=>?_
   .refine Y4 ?_;refine w5 (fun g5=>?_) fun g5=>?_
    .refine w8 ?_;first|omega
    refine w1 (.get 1 0) (u:=.int .i64 _) (e:=I5 rfl A0 A0 rfl) (k':=?_);refine w2 (.snoc 8) (r:=rI) (e:=S3 (a:=(_,_,_,_,_,_,_,_)) rfl rfl B8 (by first|omega)) (k':=?_);first|refine V1 ?_|refine O0 ?_
    refine w7 [.int .i64 _,.int .u8 _,.int .i64 _,B2 rB _,B2 rN _,B2 rI _,.int .i64 _] ?_;refine M0 ?_ ?_
    .have y:=A4z (l:=el cs) (i:=i) j l A0 A0;have z2:=A40 (l:=el cs) (i:=i) A0 A0;rw[A3 g2,A4 g4]at y;rw[A3 g2]at z2;have K:∀ Y,Y=(some (el l++[ipK ((el cs).getD i.toNat default) j]))->tA [.int .u8 b,.int .i64 0,B2 rB rest,B2 rN cs,B2 rI Y,.int .i64 (i+1)]=tA [.int .u8 b,.int .i64 j,B2 rB rest,B2 rN cs,B2 rI l,.int .i64 i]:=fun Y I=>by
      rw[nC b 0 rest cs Y (i+1) ⟨q.1,A0,A0,q.2.2.2.1,by rw[I,E3,B1,G1];omega,q.2.2.2.2.2⟩,nC b j rest cs l i q,y,z2,I]
     exact K _ rfl
    .rw[MV,MV];omega
   first|refine V1 ?_|refine O0 ?_
   refine w7 [.int .i64 _,.int .u8 _,.int .i64 _,B2 rB _,B2 rN _,B2 rI _,.int .i64 _] ?_;refine M0 ?_ ?_
   .have y:=A4z (l:=el cs) (i:=i) j l A0 A0;have z2:=A40 (l:=el cs) (i:=i) A0 A0;rw[A3 g2,A3 g4]at y;rw[A3 g2]at z2;rw[nC b 0 rest cs l (i+1) ⟨q.1,A0,A0,q.2.2.2.1,A0,q.2.2.2.2.2⟩,nC b j rest cs l i q,y,z2]
   .rw[MV,MV];omega
  .cases o
 .cases o
def A9p(n:By l)(h:knd l=2)(j:cH l<128):∃ a,l=[a]/\cH l=a:=by
 obtain⟨h1,f⟩:=B8O h
 match l,n,h1,f,j with
 | [],_,h1,_,_ =>
   have h1:U6 0=0:=h1;exact absurd h1 B8
 | [a],_,_,_,_=>exact⟨a,rfl,rfl⟩
 | [a,b],n,h1,f,j =>
   exfalso;have e:cH [a,b]=a%32*64+b%64:=rfl;have h1:U6 a=2:=h1;have o:194<=a/\a<224:=by unfold U6 at h1;(repeat' split at h1)<;>omega
   rw[e]at j;omega
 | [a,b,c],n,h1,f,j =>
   exfalso;have e:cH [a,b,c]=(a%16*64+b%64)*64+c%64:=rfl;have h1:U6 a=3:=h1;have f:okT [b,c] (loB a) (hiB a)=true:=f;obtain⟨p,q,_⟩:=B5H f;have o:224<=a/\a<=239:=by unfold U6 at h1;(repeat' split at h1)<;>omega
   have s:(a=224/\loB a=160)∨a≠224:=by unfold loB;(repeat' split)<;>omega
   have hh:hiB a<=191:=by unfold hiB;(repeat' split)<;>omega
   rw[e]at j;omega
 | [a,b,c,d],n,h1,f,j =>
   exfalso;have e:cH [a,b,c,d]=((a%8*64+b%64)*64+c%64)*64+d%64:=rfl;have h1:U6 a=4:=h1;have f:okT [b,c,d] (loB a) (hiB a)=true:=f;obtain⟨p,q,_⟩:=B5H f;have o:240<=a/\a<=244:=by unfold U6 at h1;(repeat' split at h1)<;>omega
   have s:(a=240/\loB a=144)∨a≠240:=by unfold loB;(repeat' split)<;>omega
   have hh:hiB a<=191:=by unfold hiB;(repeat' split)<;>omega
   rw[e]at j;omega
 | a::b::c::d::x::r,n,h1,f,_ =>
   exfalso;have h1:U6 a=((a::b::c::d::x::r).length:Int):=h1
   have:=A0t (l:=a::r);have:U6 a<=4:=this;simp only[B6]at h1;omega
def A2u{b:Int}(j:By l)(h0:0<=b)(h1:b<256):∀ c ∈ el (utC l b),0<=c/\(c<128->c=b/\b<128):=by
 have hr:=ZG j h0 h1;intro c d;refine⟨(hr c d).1,fun n=>?_⟩;have q:∀ c ∈ el (sR b),c<128->c=b:=by
  unfold sR;split
  .rename_i k;intro x f j;have e:x=cH [b]:=by simpa [el]using f
   rw[e];rfl
  .split
   .intro x f;cases f
   .intro x f j;have e:x=65533:=by simpa [el]using f
    omega
 have p:c=b:=by
  unfold utC at d;split at d
  .rename_i k;have e:c=cH (l++[b]):=by simpa [el]using d
   obtain⟨a,o,s⟩:=A9p (nT j h0 h1) k A0;have:l=[]/\a=b:=by
    cases l with
    | nil=>simp at o;exact⟨rfl,o.symm⟩
    | cons x r=>cases r<;>simp at o
   omega
  .split at d
   .cases d
   .split at d
    .have e:c=65533:=by simpa [el]using d
     omega
    .have d:c=65533∨c ∈ el (sR b):=by simpa [el]using d
     rcases d with e|d
     .omega
     .exact q c d n
 exact⟨p,A0⟩
noncomputable def A7Z:List LpE:=[(89,([true,true,true,true,false,true,false],O5 prog gl n0 17 B15 tA))]
def VJ{G}(b:I6 G):g8 prog G gl A7Z:=(.cons func89 B14 B13 (B7L b) .nil)
def rdA(q:D4)(b:Int):Prop:=0<((el (utR (el q) b)).length:Int)/\((el (utC (el q) b)).length:Int)=0
instance(q:D4)(b:Int):Decidable (rdA q b):=by unfold rdA;infer_instance
def rdS(a:C8)(q:D4)(b:Int):C8:=if rdA q b then a++iB (el (utR (el q) b))else match rcF (el (utC (el q) b))with
 | none=>iB (el (utR (el q) b))
 | some _=>fr0 b
def rdI(q:D4)(b m:Int):Option (List Xt):=if rdA q b then none else match rcF (el (utC (el q) b))with
 | none=>rcI (el (utC (el q) b)) m none
 | some _=>S0 (rcI (el (utC (el q) b)) m none) (sV b false)
def B49{q:D4}{b:Int}(h:rdA q b):a++iB (el (utR (el q) b))=rdS a q b/\none=rdI q b m:=by unfold rdS rdI;rw[A4 h,A4 h];exact⟨rfl,rfl⟩
def B7O{q:D4}{b:Int}(h:¬rdA q b)(d:rcF (el (utC (el q) b))=none):iB (el (utR (el q) b))=rdS a q b/\rcI (el (utC (el q) b)) m none=rdI q b m:=by unfold rdS rdI;rw[A3 h,A3 h,d];exact⟨rfl,rfl⟩
def B7N{q:D4}{b:Int}{u:Unit}(h:¬rdA q b)(d:rcF (el (utC (el q) b))=some u):fr0 b=rdS a q b/\S0 (rcI (el (utC (el q) b)) m none) (sV b false)=rdI q b m:=by unfold rdS rdI;rw[A3 h,A3 h,d];exact⟨rfl,rfl⟩
def B4a{b:Int}(f:By l)(h0:0<=b)(h1:b<256):By (el (utR l b)):=by
 rcases A2t f h0 h1 with h|⟨x,h,_,d,_⟩
 .rw[h];exact fun x d=>by cases d
 .rw[h];exact d
noncomputable def C0e:L5:=⟨_,fun b=>(.cons (B00 b) (.cons (B1y b) .nil))⟩
def tB:List U->Option (Nat×List U)
 | [.str a,u_q,.int .u8 b,.int .i64 m]=>(J3 rB u_q).bind fun q=>if(a=[]∨a=[27])/\(((el q).length:Int)<=90/\(((el q).length:Int)=0∨knd (el q)=1)/\0<=b/\b<256/\∀ x ∈ el q,0<=x/\x<256)then some (0,[.str (rdS a q b),B2 rI (rdI q b m)])else none
 | _=>none
def A0H(a:C8)(q:D4)(b:Int)(m:Int)(d:(a=[]∨a=[27])/\(((el q).length:Int)<=90/\(((el q).length:Int)=0∨knd (el q)=1)/\0<=b/\b<256/\∀ x ∈ el q,0<=x/\x<256)):tB [.str a,B2 rB q,.int .u8 b,.int .i64 m]=some (0,[.str (rdS a q b),B2 rI (rdI q b m)]):=by
 simp only[tB,F1,C4];exact A4 d
def A4m(n:Nat):Tr:=.dt 18 (.nilw 8) []<|.lp tA [h 2 4,h3 3,h 4 11,h 5 11,h n 18,jI 0] 0 2 (.lt 9 (.str) [h (n+1) 11]<|.ret [h (n+3) 9,h (n+2) 18]) (.lp tA [h 2 4,h3 3,h 4 11,h 5 11,h n 18,jI 0] 1 2 (.ret [h (n+1) 9,h (n+2) 18]) (.no))
def gH(a0:Nat)(b:Nat):Tr:=.dt 18 (.nilw 8) []<|.ret [h a0 9,h b 18]
def B16:Tr:=.fn IS [h 1 11,h 2 4] 2<|aU 4 6 0 (n9 0 5 8 (.lt 9 (.str) [h 4 11]<|aC [h 0 9,h 10 9]<|gH 11 12) (A4m 10)) (A4m 8)
def B17{G}(o:I6 G):I8 prog G 89 [.s 9,.s 11,.s 4,.s 3] tB [.s 9,.s 18]:=by
 refine D0 (d:=60) B16 (cxg (C0e.2 o) (VJ o)) o ⟨f89,_,func89,rfl⟩ C3 C3 ?_;intro us outs n;unfold tB at n;split at n
 .skip;rename_i a w b m;have p:=A5.1 n;clear n;obtain⟨q,f,n⟩:=p;replace f:=F2 f;subst f;split at n
  .rename_i j;cases n;have B:=LP (l:=el q) (b:=b);have zr:=ZF (l:=el q) (b:=b);have u:=A2u (l:=el q) j.2.2.2.2.2 j.2.2.2.1 j.2.2.2.2.1;have y:=B4a (l:=el q) j.2.2.2.2.2 j.2.2.2.1 j.2.2.2.2.1;have A:a.length<=1:=by rcases j.1 with rfl|rfl<;>decide
   unfold B16;refine w0 (.cons 3 _ (.cons 2 _ (.cons 1 _ (.cons 0 _ (.nil))))) ?_;repeat (first|(refine w7 [.str _,B2 rI _] ?_;rotate_left)|refine w1 (.str) (e:=u9 rfl (by exact y)) (k':=?_)|refine w2 (.nilw 8) (r:=rI) (e:=G6 rfl) (k':=?_)|refine P7 ?_|refine w4 (fun g=>?_) fun g=>?_|(refine w6 tA (nC _ _ _ _ _ _ ⟨⟨j.2.2.2.1,j.2.2.2.2.1⟩,B8,A0,A0,by show(0:Int)+_<=_;omega,fun c h=>⟨(u c h).1,fun k=>((u c h).2 k).2⟩⟩) (h0:=fun g=>?_) (h1:=fun v g=>?_);show Wk _ _ (.cons _ _ (.cons _ _ _));rotate_left;show Wk _ _ (.cons _ _ (.cons _ _ _));rotate_right)|refine w32 IS (e:=A77 _ _ j.2) (k':=?_)|refine cB ?_|refine R8 ?_|refine w1 (.bin .add) (e:=X3 _ _ (by rw[Q0];omega)) (k':=?_))
   all_goals
    first
    | (have z:=B49 (a:=a) (q:=q) (b:=b) (m:=m) ⟨A0,A0⟩
       exact sU z.1 z.2)
    | (have z:=B7O (a:=a) (q:=q) (b:=b) (m:=m) (fun h=>by have:=h.1;have:=h.2;omega) ‹_›
       exact sU z.1 z.2)
    | (have z:=B7N (a:=a) (q:=q) (b:=b) (m:=m) (fun h=>by have:=h.1;have:=h.2;omega) ‹_›
       exact sU z.1 z.2)
  .cases n
 .cases n
def ahd(e:Bool):C8:=if e then[27]else[]
def rfS(e:Bool)(b:Int):C8:=if b=27 then[27]else if b>=128 then rdS (ahd e) none b else[]
def rfI(e:Bool)(b:Int):Option (List Xt):=if b=27 then none else if b>=128 then rdI none b (if e then 2 else 0)else some [ipK (plC b) (plM b+(if e then 2 else 0))]
def A8O{b:Int}(h:b=27):[27]=rfS e b/\none=rfI e b:=by unfold rfS rfI;rw[A4 h,A4 h];exact⟨rfl,rfl⟩
def A8N{b:Int}(h:¬b=27)(d:b>=128):rdS (ahd e) none b=rfS e b/\rdI none b (if e then 2 else 0)=rfI e b:=by unfold rfS rfI;rw[A3 h,A4 d,A3 h,A4 d];exact⟨rfl,rfl⟩
def A8M{b:Int}(h:¬b=27)(d:¬b>=128):[]=rfS e b/\some [ipK (plC b) (plM b+(if e then 2 else 0))]=rfI e b:=by unfold rfS rfI;rw[A3 h,A3 d,A3 h,A3 d];exact⟨rfl,rfl⟩
noncomputable def C0Y:L5:=⟨_,fun b=>(.cons (B17 b) (.cons (B1U b) .nil))⟩
def IX:List U->Option (Nat×List U)
 | [.int .u8 b,.bool e]=>if 0<=b/\b<256 then some (0,[.str (rfS e b),B2 rI (rfI e b)])else none
 | _=>none
def A8K(b:Int)(e:Bool)(d:0<=b/\b<256):IX [.int .u8 b,.bool e]=some (0,[.str (rfS e b),B2 rI (rfI e b)]):=A4 d
def A4a(n:Nat):Tr:=.dt 18 (.mk 8) [h3 4,h3 5,h3 12,h3 7,h3 8,h3 9,h3 10,h 11 9]<|.ret [.string ⟨⟨[]⟩⟩,h n 18]
def rG(a0:Nat)(d:Nat)(f b:Tr):Tr:=aH [h a0 4,.int .u8 (128)]<|.br d f b
def B1u:Tr:=.br 1 (gJ 0 2 (.dt 18 (.nilw 8) []<|.ret [.string ⟨⟨[27]⟩⟩,h 3 18]) (rG 0 3 (.dt 11 (.nilw 1) []<|.fn tB [.string ⟨⟨[27]⟩⟩,h 4 11,h 0 4,jI 2] 2<|.ret [h 5 9,h 6 18]) (.fn vJ [h 0 4] 8<|aA [h3 6,jI 2]<|A4a 13))) (gJ 0 2 (.dt 18 (.nilw 8) []<|.ret [.string ⟨⟨[27]⟩⟩,h 3 18]) (rG 0 3 (.dt 11 (.nilw 1) []<|.fn tB [.string ⟨⟨[]⟩⟩,h 4 11,h 0 4,jI 0] 2<|.ret [h 5 9,h 6 18]) (.fn vJ [h 0 4] 8<|aA [h3 6,jI 0]<|A4a 13)))
def B7F{G}(j:I6 G):I8 prog G 88 [.s 4,.s 8] IX [.s 9,.s 18]:=by
 refine D0 (d:=60) B1u (cxg (C0Y.2 j) .nil) j ⟨f88,_,func88,rfl⟩ C3 C3 ?_;intro us outs f;unfold IX at f;split at f
 .skip;rename_i b e;split at f
  .rename_i n;cases f;have q:=B2X b;unfold B1u;refine w0 (.cons 1 _ (.cons 0 _ (.nil))) ?_;repeat (first|refine w4 (fun g=>?_) fun g=>?_|refine w4B (fun g=>?_) fun g=>?_|(refine w7 [.str _,B2 rI _] ?_;rotate_left)|refine V1 ?_|refine O0 ?_|refine R8 ?_|refine w2 (.nilw 8) (r:=rI) (e:=G6 rfl) (k':=?_)|refine bK ?_|refine w2 (.nilw 1) (r:=rB) (e:=G6 rfl) (k':=?_)|refine w32 tB (e:=A0H _ none _ _ ⟨by first|exact .inl rfl|exact .inr rfl,B8,.inl rfl,n.1,n.2,fun x p=>by cases p⟩) (k':=?_)|(refine w3 vJ (e:=A0A _ ⟨n.1,A0⟩) (k':=?_);show Wk _ _ (.cons _ _ (.cons _ _ (.cons _ _ (.cons _ _ (.cons _ _ (.cons _ _ (.cons _ _ (.cons _ _ _)))))))))|refine w2 (.mk 8) (r:=rI) (e:=I0 [(_,_,_,_,_,_,_,_)] rfl B8 rfl) (k':=?_))
   all_goals
    first
    | (have o:e=true:=by assumption
       subst o;first
       | (have z:=A8O (b:=b) (e:=true) ‹_›
          exact sU z.1 z.2)
       | (have z:=A8N (b:=b) (e:=true) ‹_› A0
          exact sU z.1 z.2)
       | (have z:=A8M (b:=b) (e:=true) ‹_› A0
          exact sU z.1 z.2))
    | (have o:e=false:=by assumption
       subst o;first
       | (have z:=A8O (b:=b) (e:=false) ‹_›
          exact sU z.1 z.2)
       | (have z:=A8N (b:=b) (e:=false) ‹_› A0
          exact sU z.1 z.2)
       | (have z:=A8M (b:=b) (e:=false) ‹_› A0
          exact sU z.1 z.2))
  .cases f
 .cases f
noncomputable def B59:L5:=⟨_,fun b=>.nil⟩
def pE:List U->Option (Nat×List U)
 | [u_l,.int .i64 i,.int .i64 d]=>(J3 rP u_l).bind fun l=>some (0,[.int .i64 (Q9 l i d)])
 | _=>none
def A3s(l:(Option (List D4)))(i:Int)(d:Int):pE [B2 rP l,.int .i64 i,.int .i64 d]=some (0,[.int .i64 (Q9 l i d)]):=by
 simp only[pE,F1,C4]
def A3r:Tr:=M9 1 3 0 (.ret [h3 2]) (aD [h 0 11]<|aH [h3 1,h3 4]<|.br 5 (.ret [h3 2]) (J9 0 1 6 (.dt 11 (.get 1 0) [h 0 11,h3 1]<|n9 0 7 8 (.ret [h3 2]) (J9 0 1 10 (BJ 11 (.lt 3 (.get 1 0) [h 11 11,jI 0]<|M9 13 14 0 (.ret [h3 2]) (J9 0 1 15 (BJ 16 (.lt 3 (.get 1 0) [h 16 11,jI 0]<|.ret [h3 18])))))))))
def ML{G}(j:I6 G):I8 prog G 138 [.s 11,.s 3,.s 3] pE [.s 3]:=by
 refine D0 (d:=60) A3r (cxg (B59.2 j) .nil) j ⟨f138,_,func138,rfl⟩ C3 C3 ?_;intro us outs f;unfold pE at f;split at f
 .skip;rename_i o i d;have n:=A5.1 f;clear f;obtain⟨l,b,f⟩:=n;replace b:=F2 b;subst b;cases f;unfold A3r;refine w0 (.cons 2 _ (.cons 1 _ (.cons 0 _ (.nil)))) ?_;repeat (first|refine w4 (fun g=>?_) fun g=>?_|(refine w7 [.int .i64 _] ?_;rotate_left)|refine Y4 ?_|(refine w8 ?_;first|omega|(simp_all;done)|(simp_all;omega))|refine w2 (.get 1 0) (r:=rN) (e:=I5 rfl A0 A0 rfl) (k':=?_)|refine W3 ?_|refine P7 ?_|refine w1 (.get 1 0) (u:=.int .i64 _) (e:=I5 rfl A0 A0 rfl) (k':=?_)|refine bK ?_|refine R8 ?_)
  all_goals
   first|(rw[show Q9 l i d=d from A4 (.inl A0)];done)|(rw[show Q9 l i d=d from A4 (.inr (.inl A0))];done)|(rw[show Q9 l i d=d from A4 (.inr (.inr (.inl A0)))];done)|(rw[show Q9 l i d=d from A4 (.inr (.inr (.inr (by unfold at0;omega))))];done)|(rw[show Q9 l i d=at0 (el ((el l).getD i.toNat default))from A3 (by unfold at0;omega)];done)
 .cases f
noncomputable def C0h:L5:=⟨_,fun b=>(.cons (ML b) .nil)⟩
def zR:List U->Option (Nat×List U)
 | [u_l,.int .i64 i,.int .i64 k]=>(J3 rP u_l).bind fun l=>if 0<=i/\i<((el l).length:Int)/\0<=k/\k<=((el ((el l).getD i.toNat default)).length:Int)/\(el ((el l).getD i.toNat default)).length<=1000000000 then Z9 (X7 GN ((el ((el l).getD i.toNat default)).drop k.toNat) k) [B2 rP l,.int .i64 i] (fun _=>[])else none
 | _=>none
def vQ(l:(Option (List D4)))(i:Int)(k:Int)(b:0<=i/\i<((el l).length:Int)/\0<=k/\k<=((el ((el l).getD i.toNat default)).length:Int)/\(el ((el l).getD i.toNat default)).length<=1000000000):zR [B2 rP l,.int .i64 i,.int .i64 k]=Z9 (X7 GN ((el ((el l).getD i.toNat default)).drop k.toNat) k) [B2 rP l,.int .i64 i] (fun _=>[]):=by
 simp only[zR,F1,C4];exact A4 b
def B2K:Q7:=⟨[(0,dat 7 0 11),(3,h 1 3),(4,h 2 3)],[(7,.frz)],3,[⟨.exit 2,[(0,dat 8 0 11),(3,h 1 3)],[(8,.frz)],2⟩,⟨.ret,[(2,.int .i64 (150))],[],0⟩]⟩
noncomputable def A4s:Code:=(f162.body).getD .skip
noncomputable def B2G:Code:=match H5 [true,true,false,true,false,false,true,false,false,true,true,false] A4s with|some (.loop x)=>x|_=>.skip
def B2J:f162.body=some A4s:=rfl
def B2I:H5 [true,true,false,true,false,false,true,false,false,true,true,false] A4s=some (.loop B2G):=C3
def B2H:Tr:=J9 0 1 3 (.dt 11 (.get 1 0) [h 0 11,h3 1]<|mT 4 5 2 6 (J9 0 1 7 (.dt 11 (.get 1 0) [h 0 11,h3 1]<|J9 8 2 9 (.lt 3 (.get 1 0) [h 8 11,h3 2]<|M9 10 11 (-1) (K3 1) (J9 0 1 12 (.dt 11 (.get 1 0) [h 0 11,h3 1]<|J9 13 2 14 (.lt 3 (.get 1 0) [h 13 11,h3 2]<|aW 15 16 9999 (K3 1) (aA [h3 2,jI 1]<|.ret [jI (-1),h 0 11,h3 1,h3 17]))))))) (.ret [jI 0,h 0 11,h3 1]))
def A4r:List U->Nat
 | [u_l,.int .i64 i,.int .i64 k]=>(match J3 rP u_l with|some l=>((el ((el l).getD i.toNat default)).length-k).toNat|none=>0)
 | _=>0
def A4q(l:(Option (List D4)))(i:Int)(k:Int):A4r [B2 rP l,.int .i64 i,.int .i64 k]=((el ((el l).getD i.toNat default)).length-k).toNat:=by
 simp only[A4r,F1]
def B7R{G}(o:I6 G):∀ (E:Nat->U) (base:Nat),@U0 ⟨E,G⟩ prog base gl f162.ntmps B2G (O5 prog gl n0 9 B2K zR):=by
 refine V7 (dep:=60) (f:=162) (n0:=n0) (nB:=9) (H0:=H0) A4r B2H (cxg (C0h.2 o) .nil) o func162 B2J B2I C3 C3 C3 ?_;intro us d outs j;have q:=j;unfold zR at j;split at j
 .skip;rename_i s i k;have p:=A5.1 j;clear j;obtain⟨l,b,j⟩:=p;replace b:=F2 b;subst b;split at j
  .rename_i n;clear j q;refine⟨rfl,?_⟩;unfold B2H;refine w0 (.cons 2 _ (.cons 1 _ (.cons 0 _ (.nil)))) ?_;repeat (first|refine w4 (fun g=>?_) fun g=>?_|refine Y4 ?_|(refine w8 ?_;first|omega|(simp_all;done)|(simp_all;omega))|refine w2 (.get 1 0) (r:=rN) (e:=I5 rfl A0 A0 rfl) (k':=?_)|refine W3 ?_|refine w1 (.get 1 0) (u:=.int .i64 _) (e:=I5 rfl A0 A0 rfl) (k':=?_)|(refine w7 [.int .i64 _] ?_;rotate_left)|refine V1 ?_|refine O0 ?_|refine P7 ?_|refine cB ?_|(refine w7 [.int .i64 _,B2 rP _,.int .i64 _,.int .i64 _] ?_;rotate_left)|(refine w7 [.int .i64 _,B2 rP _,.int .i64 _] ?_;rotate_left))
   all_goals first
    | refine M0 ?_ ?_
      .rw[vQ l i (k+1) ⟨n.1,n.2.1,A0,A0,n.2.2.2.2⟩,vQ l i k n,jB (i:=k) A0 A0 (YO A0)]
      .rw[A4q,A4q];omega
    | refine H6 (d:=0) ?_
      rw[vQ l i k n,lY A0];rfl
    | refine H6 (d:=1) ?_
      rw[vQ l i k n,eH A0 A0 (YN A0)];rfl
  .cases j
 .cases j
noncomputable def B4N:List LpE:=(162,([true,true,false,true,false,false,true,false,false,true,true,false],O5 prog gl n0 9 B2K zR))::[]
def VI{G}(b:I6 G):g8 prog G gl B4N:=.cons func162 B2J B2I (B7R b) .nil
noncomputable def C0g:L5:=⟨_,fun b=>(.cons (ML b) .nil)⟩
def zQ:List U->Option (Nat×List U)
 | [u_l,.int .i64 i]=>(J3 rP u_l).bind fun l=>if 0<=i/\i<=((el l).length:Int)/\(el l).length<=1000000000/\(∀ p ∈ el l,(el p).length<=1000000000)then Z9 (X7 eN ((el l).drop i.toNat) i) [B2 rP l] (fun _=>[])else none
 | _=>none
def nD(l:(Option (List D4)))(i:Int)(b:0<=i/\i<=((el l).length:Int)/\(el l).length<=1000000000/\(∀ p ∈ el l,(el p).length<=1000000000)):zQ [B2 rP l,.int .i64 i]=Z9 (X7 eN ((el l).drop i.toNat) i) [B2 rP l] (fun _=>[]):=by
 simp only[zQ,F1,C4];exact A4 b
def B2F:Q7:=⟨[(0,dat 7 0 11),(3,h 1 3)],[(7,.frz)],2,[⟨.exit 0,[(0,dat 8 0 11)],[(8,.frz)],1⟩,⟨.ret,[(2,.int .i64 (150))],[],0⟩]⟩
noncomputable def A4p:Code:=(f162.body).getD .skip
noncomputable def B2B:Code:=match H5 [true,true,false,true,false] A4p with|some (.loop x)=>x|_=>.skip
def B2E:f162.body=some A4p:=rfl
def B2D:H5 [true,true,false,true,false] A4p=some (.loop B2B):=C3
def B2C:Tr:=mT 0 2 1 3 (J9 0 1 4 (.dt 11 (.get 1 0) [h 0 11,h3 1]<|aD [h 5 11]<|M9 6 7 1 (K3 1) (J9 0 1 8 (.dt 11 (.get 1 0) [h 0 11,h3 1]<|aU 9 10 6 (K3 1) (.lp zR [h 0 11,h3 1,jI 0] 0 2 (aA [h3 13,jI 1]<|.ret [jI (-1),h 12 11,h3 14]) (.lp zR [h 0 11,h3 1,jI 0] 1 0 (K3 1) (.no))))))) (.ret [jI 0,h 0 11])
def A4o:List U->Nat
 | [u_l,.int .i64 i]=>(match J3 rP u_l with|some l=>((el l).length-i).toNat|none=>0)
 | _=>0
def A4n(l:(Option (List D4)))(i:Int):A4o [B2 rP l,.int .i64 i]=((el l).length-i).toNat:=by
 simp only[A4o,F1]
def B7Q{G}(o:I6 G):∀ (E:Nat->U) (base:Nat),@U0 ⟨E,G⟩ prog base gl f162.ntmps B2B (O5 prog gl n0 9 B2F zQ):=by
 refine V7 (dep:=60) (f:=162) (n0:=n0) (nB:=9) (H0:=H0) A4o B2C (cxg (C0g.2 o) (VI o)) o func162 B2E B2D C3 C3 C3 ?_;intro us d outs j;have q:=j;unfold zQ at j;split at j
 .skip;rename_i s i;have p:=A5.1 j;clear j;obtain⟨l,b,j⟩:=p;replace b:=F2 b;subst b;split at j
  .rename_i n;clear j q;refine⟨rfl,?_⟩;unfold B2C;refine w0 (.cons 1 _ (.cons 0 _ (.nil))) ?_;refine P7 ?_;refine W3 ?_;refine w5 (fun g0=>?_) fun g0=>?_
   .refine w7 [.int .i64 _,B2 rP _] ?_;refine H6 (d:=0) ?_;rw[nD l i n,lY A0];rfl
   refine Y4 ?_;refine w5 (fun g1=>?_) fun g1=>?_
   .refine w8 ?_;first|omega|(simp_all;done)|(simp_all;omega)
   refine w2 (.get 1 0) (r:=rN) (e:=I5 rfl A0 A0 rfl) (k':=?_);refine P7 ?_;refine W3 ?_;refine w4 (fun g2=>?_) fun g2=>?_
   .refine w7 [.int .i64 _] ?_;refine H6 (d:=1) ?_;rw[nD l i n,eH A0 A0 (by first|exact uB _ A0|exact uA _ A0|exact(tZ _ g5).2)];rfl
   refine Y4 ?_;refine w5 (fun g3=>?_) fun g3=>?_
   .refine w8 ?_;first|omega|(simp_all;done)|(simp_all;omega)
   refine w2 (.get 1 0) (r:=rN) (e:=I5 rfl A0 A0 rfl) (k':=?_);refine P7 ?_;refine cB ?_;refine w4 (fun g4=>?_) fun g4=>?_
   .refine w7 [.int .i64 _] ?_;refine H6 (d:=1) ?_;rw[nD l i n,eH A0 A0 (by first|exact uB _ A0|exact uA _ A0|exact(tZ _ g5).2)];rfl
   refine w6 zR (vQ _ _ _ ⟨n.1,A0,A0,A0,y0 n.2.2.2 A0 A0⟩) (h0:=fun g5=>?_) (h1:=fun v5 g5=>?_)
   .show Wk _ _ (.cons _ _ (.cons _ _ _));first|refine V1 ?_|refine O0 ?_
    refine w7 [.int .i64 _,B2 rP _,.int .i64 _] ?_;refine M0 ?_ ?_
    .rw[nD l (i+1) ⟨A0,A0,n.2.2⟩,nD l i n,jB (i:=i) A0 A0 (GM _ A0 A0 g5)]
    .rw[A4n,A4n];omega
   show Wk _ _ _;refine w7 [.int .i64 _] ?_;refine H6 (d:=1) ?_;rw[nD l i n,eH A0 A0 (by first|exact uB _ A0|exact uA _ A0|exact(tZ _ g5).2)];rfl
  .cases j
 .cases j
noncomputable def B4M:List LpE:=(162,([true,true,false,true,false],O5 prog gl n0 9 B2F zQ))::B4N
def xK{G}(b:I6 G):g8 prog G gl B4M:=.cons func162 B2E B2D (B7Q b) (VI b)
def mF(l:Option (List D4)){b:Bool}(h:cG l=b)(d:b=true):M6 l=150:=mG l (h.trans d)
def V2(l:Option (List D4)){b:Bool}(h0:¬16<((el l).length:Int))(h:cG l=b)(d:b=false)(f:X7 eN ((el l).drop (0:Int).toNat) 0=none):M6 l=0:=mE l h0 (h.trans d) f
noncomputable def B6C:L5:=⟨_,fun b=>(.cons (ML b) .nil)⟩
def xQ:List U->Option (Nat×List U)
 | [u_l]=>(J3 rP u_l).bind fun l=>if(el l).length<=1000000000/\∀ p ∈ el l,(el p).length<=1000000000 then some (0,[.int .i64 (M6 l)])else none
 | _=>none
def A4u(l:(Option (List D4)))(b:(el l).length<=1000000000/\∀ p ∈ el l,(el p).length<=1000000000):xQ [B2 rP l]=some (0,[.int .i64 (M6 l)]):=by
 simp only[xQ,F1,C4];exact A4 b
def A4t:Tr:=aU 0 1 16 (K3 150) (.lp zQ [h 0 11,jI 0] 0 1 (n9 1 3 4 (H1 3 0 6 (.dt 11 (.get 1 0) [h 3 11,jI 0]<|n9 1 7 8 (H1 3 0 10 (.dt 11 (.get 1 0) [h 3 11,jI 0]<|H1 11 0 12 (.lt 3 (.get 1 0) [h 11 11,jI 0]<|F3 13 14 (-1) (K3 150) (K3 0)))) (K3 0))) (K3 0)) (.lp zQ [h 0 11,jI 0] 1 0 (K3 150) (.no)))
def B4_{G}(j:I6 G):I8 prog G 162 [.s 11] xQ [.s 3]:=by
 refine D0 (d:=60) A4t (cxg (B6C.2 j) (xK j)) j ⟨f162,_,func162,rfl⟩ C3 C3 ?_;intro us outs f;unfold xQ at f;split at f
 .skip;rename_i p;have n:=A5.1 f;clear f;obtain⟨l,b,f⟩:=n;replace b:=F2 b;subst b;split at f
  .rename_i o;cases f;unfold A4t;refine w0 (.cons 0 _ (.nil)) ?_;refine P7 ?_;refine cB ?_;refine w4 (fun g0=>?_) fun g0=>?_
   .refine w7 [.int .i64 _] ?_;first|(rw[aO l A0];done)|(rw[mF l (q8 l A0 A0) (D3 (by unfold at0;omega))];done)|(rw[V2 l A0 (q8 l A0 A0) (C9 (by unfold at0;omega)) g1];done)|(rw[V2 l A0 (jE l A0) rfl g1];done)|(rw[V2 l A0 (jD l A0 A0) rfl g1];done)|(rw[(X8 l g1).2];done)
   refine w6 zQ (nD _ _ ⟨A0,A0,A0,o.2⟩) (h0:=fun g1=>?_) (h1:=fun v1 g1=>?_)
   .show Wk _ _ (.cons _ _ _);refine P7 ?_;refine R8 ?_;refine w5 (fun g2=>?_) fun g2=>?_
    .refine w7 [.int .i64 _] ?_;first|(rw[aO l A0];done)|(rw[mF l (q8 l A0 A0) (D3 (by unfold at0;omega))];done)|(rw[V2 l A0 (q8 l A0 A0) (C9 (by unfold at0;omega)) g1];done)|(rw[V2 l A0 (jE l A0) rfl g1];done)|(rw[V2 l A0 (jD l A0 A0) rfl g1];done)|(rw[(X8 l g1).2];done)
    refine Y4 ?_;refine w5 (fun g3=>?_) fun g3=>?_
    .refine w8 ?_;first|omega|(simp_all;done)|(simp_all;omega)
    refine w2 (.get 1 0) (r:=rN) (e:=I5 rfl A0 A0 rfl) (k':=?_);refine P7 ?_;refine R8 ?_;refine w5 (fun g4=>?_) fun g4=>?_
    .refine w7 [.int .i64 _] ?_;first|(rw[aO l A0];done)|(rw[mF l (q8 l A0 A0) (D3 (by unfold at0;omega))];done)|(rw[V2 l A0 (q8 l A0 A0) (C9 (by unfold at0;omega)) g1];done)|(rw[V2 l A0 (jE l A0) rfl g1];done)|(rw[V2 l A0 (jD l A0 A0) rfl g1];done)|(rw[(X8 l g1).2];done)
    refine Y4 ?_;refine w5 (fun g5=>?_) fun g5=>?_
    .refine w8 ?_;first|omega|(simp_all;done)|(simp_all;omega)
    refine w2 (.get 1 0) (r:=rN) (e:=I5 rfl A0 A0 rfl) (k':=?_);refine Y4 ?_;refine w5 (fun g6=>?_) fun g6=>?_
    .refine w8 ?_;first|omega|(simp_all;done)|(simp_all;omega)
    refine w1 (.get 1 0) (u:=.int .i64 _) (e:=I5 rfl A0 A0 rfl) (k':=?_);refine R8 ?_;refine w4 (fun g7=>?_) fun g7=>?_
    .refine w7 [.int .i64 _] ?_;first|(rw[aO l A0];done)|(rw[mF l (q8 l A0 A0) (D3 (by unfold at0;omega))];done)|(rw[V2 l A0 (q8 l A0 A0) (C9 (by unfold at0;omega)) g1];done)|(rw[V2 l A0 (jE l A0) rfl g1];done)|(rw[V2 l A0 (jD l A0 A0) rfl g1];done)|(rw[(X8 l g1).2];done)
    refine w7 [.int .i64 _] ?_;first|(rw[aO l A0];done)|(rw[mF l (q8 l A0 A0) (D3 (by unfold at0;omega))];done)|(rw[V2 l A0 (q8 l A0 A0) (C9 (by unfold at0;omega)) g1];done)|(rw[V2 l A0 (jE l A0) rfl g1];done)|(rw[V2 l A0 (jD l A0 A0) rfl g1];done)|(rw[(X8 l g1).2];done)
   show Wk _ _ _;refine w7 [.int .i64 _] ?_;first|(rw[aO l A0];done)|(rw[mF l (q8 l A0 A0) (D3 (by unfold at0;omega))];done)|(rw[V2 l A0 (q8 l A0 A0) (C9 (by unfold at0;omega)) g1];done)|(rw[V2 l A0 (jE l A0) rfl g1];done)|(rw[V2 l A0 (jD l A0 A0) rfl g1];done)|(rw[(X8 l g1).2];done)
  .cases f
 .cases f
abbrev E1(p:D4):D4:=some (el p)
def gM(l:Rws)(c:Int):Rws×Int:=if(O4 l c).2≠0 then(none,(O4 l c).2)else(some ((el (O4 l c).1).map E1),0)
def CO(x:D4):S0 (some []) x=some (el x):=by
 cases x with
 | none=>rfl
 | some l=>cases l<;>rfl
def A5h{α:Type}[Inhabited α](l:List α):l=(List.range l.length).map fun i=>l.getD i default:=by
 apply i7;intro i;rw[H9];rcases G7 i l.length with h|h
 .rw[List.getElem?_range h,A7 h];simp[B4,A7 h]
 .rw[M4 h,M4 (by simpa using h)];rfl
def A0h(l:Rws)(n:Nat)(h:((el l).length:Int)=n):(el l).map E1=(List.range n).map fun i=>E1 ((el l).getD i default):=by
 have e:(el l).length=n:=A0;conv=>lhs;rw[A5h (el l)]
 rw[List.map_map,e];rfl
def xP{l:Rws}(h:O4 l c=(x,0)):gM l c=(some ((el x).map E1),0):=by
 unfold gM;rw[h];exact A3 (fun h=>h rfl)
def MO{l:Rws}{e:Int}(h:O4 l c=(x,e))(he:e≠0):gM l c=(none,e):=by
 unfold gM;rw[h];exact A4 he
def A79(l:Rws)(c:Int)(h:M6 l≠0):gM l c=(none,150):=by
 rw[MO (A3O l c h) h];rcases qS l with h1|⟨h1,_⟩
 .rw[h1]
 .exact absurd h1 h
def A3x(l:Rws)(c:Int)(h:M6 l=0)(h1:c<48∨59<c):gM l c=(none,6):=MO (A3M l c h h1) B8
def B4x(l:Rws)(c:Int)(h:M6 l=0)(h0:((el l).length:Int)=0)(b:c=59):gM l c=(some [some [-1],some [-1]],0):=xP (WJ l c h h0 b)
def B43(l:Rws)(c:Int)(h:M6 l=0)(h0:((el l).length:Int)=0)(b:c=58):gM l c=(some [some [-1,-1]],0):=xP (A3N l c h h0 b)
def B40(l:Rws)(c:Int)(h:M6 l=0)(h0:((el l).length:Int)=0)(b:48<=c/\c<=57):gM l c=(some [some [min 9999 (0+(c-48))]],0):=by
 rw[xP (WI l c h h0 b)];have:qQ (-1) c=min 9999 (0+(c-48)):=by unfold qQ;omega
 rw[this];rfl
def A78(l:Rws)(c:Int)(h:M6 l=0)(h0:((el l).length:Int)=16)(b:c=59):gM l c=(none,3):=MO (WG l c h A0 A0) B8
def A7O{α:Type}(l:Option (List α)):YU l=el l:=by
 show el (P8 l 0 ((el l).length:Int).toNat)=_;rw[M1,N6,gS,P4,mL]
def B6l(l:Rws)(c:Int)(n:Nat)(h:M6 l=0)(h0:((el l).length:Int)=n/\0<n/\n<16)(b:c=59):gM l c=(some (((List.range n).map fun i=>E1 ((el l).getD i default))++[some [-1]]),0):=by
 rw[xP (WH l c h A0 b A0),A7O,E3,O2,A0h l n h0.1];rfl
def A1Q(l:Rws)(n:Nat)(h:((el l).length:Int)=n+1):(oS l).map E1=(List.range n).map fun i=>E1 ((el l).getD i default):=by
 have e:oS l=(el l).take n:=by
  show el (P8 l 0 (((el l).length:Int)-1).toNat)=_;rw[M1,P4,gS,show(((el l).length:Int)-1).toNat=n by omega]
 rw[e,bR,A0h l (n+1) A0,<- bR,List.take_range,show min n (n+1)=n by omega]
def NP(l:Rws)(n:Nat)(h:((el l).length:Int)=n+1):m6 l=(el l).getD n default:=by
 show(el l).getD (((el l).length:Int)-1).toNat default=_;rw[show(((el l).length:Int)-1).toNat=n by omega]
def B42(l:Rws)(c:Int)(h:M6 l=0)(b:c=58)(n:Nat)(h0:((el l).length:Int)=n+1)(d:((el ((el l).getD n default)).length:Int)=6):gM l c=(none,3) :=
 MO (WG l c h A0 (.inr ⟨b,by show ¬((el (m6 l)).length:Int)<6;rw[NP l n h0];omega⟩)) B8
def B6n(l:Rws)(c:Int)(n:Nat)(h:M6 l=0)(h0:((el l).length:Int)=n+1)(b:c=58)(d:((el ((el l).getD n default)).length:Int)<6):gM l c=(some (((List.range n).map fun i=>E1 ((el l).getD i default))++[some (el ((el l).getD n default)++[-1])]),0):=by
 rw[xP (A3L l c h A0 b (by show((el (m6 l)).length:Int)<6;rw[NP l n h0];exact d)),E3,O2,A1Q l n h0,NP l n h0,A7O];rfl
def A3e(h:1<=l.length):l.set ((l.length:Int)-1).toNat v=l.take ((l.length:Int)-1).toNat++[v]:=by
 have e:((l.length:Int)-1).toNat=l.length-1:=A0;rw[e];apply i7;intro i;rcases kO i (l.length-1)with hi|hi|hi
 .rw[aR A0,F8 (by rw[G3];omega),G4 hi]
 .subst hi;rw[Y2 A0,E9 (by rw[G3];omega),G3,show l.length-1-min (l.length-1) l.length=0 by omega];rfl
 .rw[M4 (by rw[bY];omega),M4 (by rw[B1,G3,G1];omega)]
def B6m(l:Rws)(c:Int)(n:Nat)(h:M6 l=0)(h0:((el l).length:Int)=n+1/\1<=(el ((el l).getD n default)).length)(b:48<=c/\c<=57):gM l c=(some (((List.range n).map fun i=>E1 ((el l).getD i default))++[A1x (some (el ((el l).getD n default))) (((el (some (el ((el l).getD n default)))).length:Int)-1).toNat (min 9999 (10*max 0 ((el (some (el ((el l).getD n default)))).getD (((el (some (el ((el l).getD n default)))).length:Int)-1).toNat default)+(c-48)))]),0):=by
 rw[xP (WF l c h A0 b),E3,O2,A1Q l n h0.1,NP l n h0.1];have e:qQ (tC ((el l).getD n default)) c=min 9999 (10*max 0 ((el ((el l).getD n default)).getD (((el ((el l).getD n default)).length:Int)-1).toNat default)+(c-48)):=by unfold qQ tC;omega
 rw[e];congr 3;unfold A1x;rw[E3,A3e h0.2];show[some (el (some (oS _++[_])))]=_;rw[E3];have:oS ((el l).getD n default)=(el ((el l).getD n default)).take (((el ((el l).getD n default)).length:Int)-1).toNat:=by
  show el (P8 _ 0 _)=_;rw[M1,P4,gS]
 rw[this]
def B4w(l:Rws)(c k:Int)(h:M6 l=0)(h0:((el l).length:Int)=k+1)(h1:0<=k/\k<15)(b:c=59):gM l c=(some (((List.range (k.toNat+1)).map fun i=>E1 ((el l).getD i default))++[some [-1]]),0):=B6l l c (k.toNat+1) h A0 b
def B44(l:Rws)(c k:Int)(h:M6 l=0)(b:c=58)(h0:((el l).length:Int)=k+1)(h1:0<=k)(d:((el ((el l).getD k.toNat default)).length:Int)=6):gM l c=(none,3):=B42 l c h b k.toNat A0 d
def B41(l:Rws)(c k:Int)(h:M6 l=0)(h0:((el l).length:Int)=k+1)(h1:0<=k)(b:c=58)(d:((el ((el l).getD k.toNat default)).length:Int)<6):gM l c=(some (((List.range k.toNat).map fun i=>E1 ((el l).getD i default))++[some (el ((el l).getD k.toNat default)++[-1])]),0):=B6n l c k.toNat h A0 b d
def B4z(l:Rws)(c k:Int)(h:M6 l=0)(h0:((el l).length:Int)=k+1)(h1:0<=k/\1<=(el ((el l).getD k.toNat default)).length)(b:48<=c/\c<=57):gM l c=(some (((List.range k.toNat).map fun i=>E1 ((el l).getD i default))++[A1x (some (el ((el l).getD k.toNat default))) (((el (some (el ((el l).getD k.toNat default)))).length:Int)-1).toNat (min 9999 (10*max 0 ((el (some (el ((el l).getD k.toNat default)))).getD (((el (some (el ((el l).getD k.toNat default)))).length:Int)-1).toNat default)+(c-48)))]),0):=B6m l c k.toNat h ⟨A0,h1.2⟩ b
noncomputable def B5_:L5:=⟨_,fun b=>(.cons (B4_ b) .nil)⟩
def xO:List U->Option (Nat×List U)
 | [u_l,.int .u8 c]=>(J3 rP u_l).bind fun l=>if((el l).length<=1000000000/\∀ p ∈ el l,(el p).length<=1000000000)/\0<=c/\c<=255 then some (0,[B2 rP ((gM l c).1),.int .i64 ((gM l c).2)])else none
 | _=>none
def A3w(l:(Option (List D4)))(c:Int)(b:((el l).length<=1000000000/\∀ p ∈ el l,(el p).length<=1000000000)/\0<=c/\c<=255):xO [B2 rP l,.int .u8 c]=some (0,[B2 rP ((gM l c).1),.int .i64 ((gM l c).2)]):=by
 simp only[xO,F1,C4];exact A4 b
def n7(a0:Nat)(b:Tr):Tr:=aD [h a0 11]<|aS [h3 (a0+2),jI 1]<|aE [h 1 4,.int .u8 (59)]<|.br (a0+4) b .no
def LY(a0:Nat)(b:Nat):Tr:=.dt 11 (.mk 1) [h a0 11,h (a0+5) 11,h (a0+10) 11,h (a0+15) 11,h (a0+20) 11,h (a0+25) 11,h (a0+30) 11,h (a0+35) 11,h (a0+40) 11,h (a0+45) 11,h (a0+50) 11,h (a0+55) 11,h (a0+60) 11,h (a0+65) 11,h (a0+70) 11,h b 11]<|.ret [h (b+1) 11,jI 0]
def K1(a0:Nat)(b:Int)(a2:Int)(a3:Nat)(d f:Tr):Tr:=.dt 11 (.get 1 0) [h 0 11,jI b]<|.dt 11 (.mk 1) []<|.dt 11 (.cat 1) [h (a3+1) 11,h a3 11]<|aL [jI a2,h3 a0]<|.br (a3+3) d f
def LX(a0:Nat)(b:Nat):Tr:=.dt 11 (.mk 1) [h a0 11,h (a0+5) 11,h (a0+10) 11,h (a0+15) 11,h (a0+20) 11,h (a0+25) 11,h (a0+30) 11,h (a0+35) 11,h (a0+40) 11,h (a0+45) 11,h (a0+50) 11,h (a0+55) 11,h (a0+60) 11,h (a0+65) 11,h b 11]<|.ret [h (b+1) 11,jI 0]
def LW(a0:Nat)(b:Nat):Tr:=.dt 11 (.mk 1) [h a0 11,h (a0+5) 11,h (a0+10) 11,h (a0+15) 11,h (a0+20) 11,h (a0+25) 11,h (a0+30) 11,h (a0+35) 11,h (a0+40) 11,h (a0+45) 11,h (a0+50) 11,h (a0+55) 11,h (a0+60) 11,h b 11]<|.ret [h (b+1) 11,jI 0]
def LV(a0:Nat)(b:Nat):Tr:=.dt 11 (.mk 1) [h a0 11,h (a0+5) 11,h (a0+10) 11,h (a0+15) 11,h (a0+20) 11,h (a0+25) 11,h (a0+30) 11,h (a0+35) 11,h (a0+40) 11,h (a0+45) 11,h (a0+50) 11,h (a0+55) 11,h b 11]<|.ret [h (b+1) 11,jI 0]
def LU(a0:Nat)(b:Nat):Tr:=.dt 11 (.mk 1) [h a0 11,h (a0+5) 11,h (a0+10) 11,h (a0+15) 11,h (a0+20) 11,h (a0+25) 11,h (a0+30) 11,h (a0+35) 11,h (a0+40) 11,h (a0+45) 11,h (a0+50) 11,h b 11]<|.ret [h (b+1) 11,jI 0]
def LT(a0:Nat)(b:Nat):Tr:=.dt 11 (.mk 1) [h a0 11,h (a0+5) 11,h (a0+10) 11,h (a0+15) 11,h (a0+20) 11,h (a0+25) 11,h (a0+30) 11,h (a0+35) 11,h (a0+40) 11,h (a0+45) 11,h b 11]<|.ret [h (b+1) 11,jI 0]
def d7(a0:Nat)(b:Tr):Tr:=aE [h 1 4,.int .u8 (58)]<|.br a0 b .no
def O8(a0:Nat)(b:Tr):Tr:=aD [h a0 11]<|aS [h3 (a0+2),jI 1]<|aE [h 1 4,.int .u8 (59)]<|.br (a0+4) .no b
def m9(a0:Nat)(b:Tr):Tr:=.lt 3 (.get 1 0) [h a0 11,h3 (a0+3)]<|.lt 3 (.max) [jI 0,h3 (a0+7)]<|.lt 3 (.bin .mul) [jI 10,h3 (a0+8)]<|.lt 4 (.bin .sub) [h 1 4,.int .u8 (48)]<|.lt 3 (.conv .i64) [h (a0+10) 4]<|aA [h3 (a0+9),h3 (a0+11)]<|.lt 3 (.min) [jI 9999,h3 (a0+12)]<|.lt 8 (.inbs 1) [h3 (a0+3),h a0 11]<|.br (a0+14) b .no
def c9(a0:Nat)(b:Tr):Tr:=aE [h 1 4,.int .u8 (58)]<|.br a0 .no b
def A3v:Tr:=.fn xQ [h 0 11] 1<|dZ 2 3 0 (N9 4 150) (aL [h 1 4,.int .u8 (48)]<|.br 4 (aN [h 1 4,.int .u8 (58)]<|S7 5 (aN [h 1 4,.int .u8 (59)]<|S7 6 (N9 7 6))) (aG [h 1 4,.int .u8 (57)]<|.br 5 (aN [h 1 4,.int .u8 (58)]<|.br 6 (aN [h 1 4,.int .u8 (59)]<|.br 7 (N9 8 6) (aD [h 0 11]<|aL [jI 0,h3 8]<|.br 9 (H1 0 0 10 (K1 8 0 1 11 (H1 0 1 15 (K1 8 1 2 16 (H1 0 2 20 (K1 8 2 3 21 (H1 0 3 25 (K1 8 3 4 26 (H1 0 4 30 (K1 8 4 5 31 (H1 0 5 35 (K1 8 5 6 36 (H1 0 6 40 (K1 8 6 7 41 (H1 0 7 45 (K1 8 7 8 46 (H1 0 8 50 (K1 8 8 9 51 (H1 0 9 55 (K1 8 9 10 56 (H1 0 10 60 (K1 8 10 11 61 (H1 0 11 65 (K1 8 11 12 66 (H1 0 12 70 (K1 8 12 13 71 (H1 0 13 75 (K1 8 13 14 76 (H1 0 14 80 (K1 8 14 15 81 (H1 0 15 85 (.dt 11 (.get 1 0) [h 0 11,jI 15]<|.dt 11 (.mk 1) []<|.dt 11 (.cat 1) [h 87 11,h 86 11]<|aL [jI 16,h3 8]<|.br 89 (.no) (n7 88 (N9 93 3)))) (n7 83 (.dt 11 (.mk 1) [jI (-1)]<|LY 13 88)))) (n7 78 (.dt 11 (.mk 1) [jI (-1)]<|LX 13 83)))) (n7 73 (.dt 11 (.mk 1) [jI (-1)]<|LW 13 78)))) (n7 68 (.dt 11 (.mk 1) [jI (-1)]<|LV 13 73)))) (n7 63 (.dt 11 (.mk 1) [jI (-1)]<|LU 13 68)))) (n7 58 (.dt 11 (.mk 1) [jI (-1)]<|LT 13 63)))) (n7 53 (.dt 11 (.mk 1) [jI (-1)]<|.dt 11 (.mk 1) [h 13 11,h 18 11,h 23 11,h 28 11,h 33 11,h 38 11,h 43 11,h 48 11,h 53 11,h 58 11]<|P2 59)))) (n7 48 (.dt 11 (.mk 1) [jI (-1)]<|.dt 11 (.mk 1) [h 13 11,h 18 11,h 23 11,h 28 11,h 33 11,h 38 11,h 43 11,h 48 11,h 53 11]<|P2 54)))) (n7 43 (.dt 11 (.mk 1) [jI (-1)]<|.dt 11 (.mk 1) [h 13 11,h 18 11,h 23 11,h 28 11,h 33 11,h 38 11,h 43 11,h 48 11]<|P2 49)))) (n7 38 (.dt 11 (.mk 1) [jI (-1)]<|.dt 11 (.mk 1) [h 13 11,h 18 11,h 23 11,h 28 11,h 33 11,h 38 11,h 43 11]<|P2 44)))) (n7 33 (.dt 11 (.mk 1) [jI (-1)]<|.dt 11 (.mk 1) [h 13 11,h 18 11,h 23 11,h 28 11,h 33 11,h 38 11]<|P2 39)))) (n7 28 (.dt 11 (.mk 1) [jI (-1)]<|.dt 11 (.mk 1) [h 13 11,h 18 11,h 23 11,h 28 11,h 33 11]<|P2 34)))) (n7 23 (.dt 11 (.mk 1) [jI (-1)]<|.dt 11 (.mk 1) [h 13 11,h 18 11,h 23 11,h 28 11]<|P2 29)))) (n7 18 (.dt 11 (.mk 1) [jI (-1)]<|.dt 11 (.mk 1) [h 13 11,h 18 11,h 23 11]<|P2 24)))) (n7 13 (.dt 11 (.mk 1) [jI (-1)]<|uU 13 18)))) (aE [h 1 4,.int .u8 (59)]<|.br 10 (.dt 11 (.mk 1) [jI (-1)]<|.dt 11 (.mk 1) [jI (-1)]<|uU 11 12) (.no)))) (aD [h 0 11]<|aL [jI 0,h3 7]<|.br 8 (H1 0 0 9 (K1 7 0 1 10 (H1 0 1 14 (K1 7 1 2 15 (H1 0 2 19 (K1 7 2 3 20 (H1 0 3 24 (K1 7 3 4 25 (H1 0 4 29 (K1 7 4 5 30 (H1 0 5 34 (K1 7 5 6 35 (H1 0 6 39 (K1 7 6 7 40 (H1 0 7 44 (K1 7 7 8 45 (H1 0 8 49 (K1 7 8 9 50 (H1 0 9 54 (K1 7 9 10 55 (H1 0 10 59 (K1 7 10 11 60 (H1 0 11 64 (K1 7 11 12 65 (H1 0 12 69 (K1 7 12 13 70 (H1 0 13 74 (K1 7 13 14 75 (H1 0 14 79 (K1 7 14 15 80 (H1 0 15 84 (.dt 11 (.get 1 0) [h 0 11,jI 15]<|.dt 11 (.mk 1) []<|.dt 11 (.cat 1) [h 86 11,h 85 11]<|aL [jI 16,h3 7]<|.br 88 (.no) (O8 87 (d7 92 (F3 89 93 6 (N9 94 3) (.dt 11 (.snoc 1) [h 87 11,jI (-1)]<|LY 12 94)))))) (O8 82 (d7 87 (F3 84 88 6 (N9 89 3) (.dt 11 (.snoc 1) [h 82 11,jI (-1)]<|LX 12 89)))))) (O8 77 (d7 82 (F3 79 83 6 (N9 84 3) (.dt 11 (.snoc 1) [h 77 11,jI (-1)]<|LW 12 84)))))) (O8 72 (d7 77 (F3 74 78 6 (N9 79 3) (.dt 11 (.snoc 1) [h 72 11,jI (-1)]<|LV 12 79)))))) (O8 67 (d7 72 (F3 69 73 6 (N9 74 3) (.dt 11 (.snoc 1) [h 67 11,jI (-1)]<|LU 12 74)))))) (O8 62 (d7 67 (F3 64 68 6 (N9 69 3) (.dt 11 (.snoc 1) [h 62 11,jI (-1)]<|LT 12 69)))))) (O8 57 (d7 62 (F3 59 63 6 (N9 64 3) (.dt 11 (.snoc 1) [h 57 11,jI (-1)]<|.dt 11 (.mk 1) [h 12 11,h 17 11,h 22 11,h 27 11,h 32 11,h 37 11,h 42 11,h 47 11,h 52 11,h 64 11]<|P2 65)))))) (O8 52 (d7 57 (F3 54 58 6 (N9 59 3) (.dt 11 (.snoc 1) [h 52 11,jI (-1)]<|.dt 11 (.mk 1) [h 12 11,h 17 11,h 22 11,h 27 11,h 32 11,h 37 11,h 42 11,h 47 11,h 59 11]<|P2 60)))))) (O8 47 (d7 52 (F3 49 53 6 (N9 54 3) (.dt 11 (.snoc 1) [h 47 11,jI (-1)]<|.dt 11 (.mk 1) [h 12 11,h 17 11,h 22 11,h 27 11,h 32 11,h 37 11,h 42 11,h 54 11]<|P2 55)))))) (O8 42 (d7 47 (F3 44 48 6 (N9 49 3) (.dt 11 (.snoc 1) [h 42 11,jI (-1)]<|.dt 11 (.mk 1) [h 12 11,h 17 11,h 22 11,h 27 11,h 32 11,h 37 11,h 49 11]<|P2 50)))))) (O8 37 (d7 42 (F3 39 43 6 (N9 44 3) (.dt 11 (.snoc 1) [h 37 11,jI (-1)]<|.dt 11 (.mk 1) [h 12 11,h 17 11,h 22 11,h 27 11,h 32 11,h 44 11]<|P2 45)))))) (O8 32 (d7 37 (F3 34 38 6 (N9 39 3) (.dt 11 (.snoc 1) [h 32 11,jI (-1)]<|.dt 11 (.mk 1) [h 12 11,h 17 11,h 22 11,h 27 11,h 39 11]<|P2 40)))))) (O8 27 (d7 32 (F3 29 33 6 (N9 34 3) (.dt 11 (.snoc 1) [h 27 11,jI (-1)]<|.dt 11 (.mk 1) [h 12 11,h 17 11,h 22 11,h 34 11]<|P2 35)))))) (O8 22 (d7 27 (F3 24 28 6 (N9 29 3) (.dt 11 (.snoc 1) [h 22 11,jI (-1)]<|.dt 11 (.mk 1) [h 12 11,h 17 11,h 29 11]<|P2 30)))))) (O8 17 (d7 22 (F3 19 23 6 (N9 24 3) (.dt 11 (.snoc 1) [h 17 11,jI (-1)]<|uU 12 24)))))) (O8 12 (d7 17 (F3 14 18 6 (N9 19 3) (.dt 11 (.snoc 1) [h 12 11,jI (-1)]<|rJ 19)))))) (aE [h 1 4,.int .u8 (59)]<|.br 9 (.no) (d7 10 (.dt 11 (.mk 1) [jI (-1),jI (-1)]<|rJ 11))))) (aD [h 0 11]<|aL [jI 0,h3 6]<|.br 7 (H1 0 0 8 (K1 6 0 1 9 (H1 0 1 13 (K1 6 1 2 14 (H1 0 2 18 (K1 6 2 3 19 (H1 0 3 23 (K1 6 3 4 24 (H1 0 4 28 (K1 6 4 5 29 (H1 0 5 33 (K1 6 5 6 34 (H1 0 6 38 (K1 6 6 7 39 (H1 0 7 43 (K1 6 7 8 44 (H1 0 8 48 (K1 6 8 9 49 (H1 0 9 53 (K1 6 9 10 54 (H1 0 10 58 (K1 6 10 11 59 (H1 0 11 63 (K1 6 11 12 64 (H1 0 12 68 (K1 6 12 13 69 (H1 0 13 73 (K1 6 13 14 74 (H1 0 14 78 (K1 6 14 15 79 (H1 0 15 83 (.dt 11 (.get 1 0) [h 0 11,jI 15]<|.dt 11 (.mk 1) []<|.dt 11 (.cat 1) [h 85 11,h 84 11]<|aL [jI 16,h3 6]<|.br 87 (.no) (O8 86 (c9 91 (J9 86 89 92 (m9 86 (.dt 11 (.set 1 0) [h 86 11,h3 89,h3 99]<|LY 11 101))))))) (O8 81 (c9 86 (J9 81 84 87 (m9 81 (.dt 11 (.set 1 0) [h 81 11,h3 84,h3 94]<|LX 11 96))))))) (O8 76 (c9 81 (J9 76 79 82 (m9 76 (.dt 11 (.set 1 0) [h 76 11,h3 79,h3 89]<|LW 11 91))))))) (O8 71 (c9 76 (J9 71 74 77 (m9 71 (.dt 11 (.set 1 0) [h 71 11,h3 74,h3 84]<|LV 11 86))))))) (O8 66 (c9 71 (J9 66 69 72 (m9 66 (.dt 11 (.set 1 0) [h 66 11,h3 69,h3 79]<|LU 11 81))))))) (O8 61 (c9 66 (J9 61 64 67 (m9 61 (.dt 11 (.set 1 0) [h 61 11,h3 64,h3 74]<|LT 11 76))))))) (O8 56 (c9 61 (J9 56 59 62 (m9 56 (.dt 11 (.set 1 0) [h 56 11,h3 59,h3 69]<|.dt 11 (.mk 1) [h 11 11,h 16 11,h 21 11,h 26 11,h 31 11,h 36 11,h 41 11,h 46 11,h 51 11,h 71 11]<|P2 72))))))) (O8 51 (c9 56 (J9 51 54 57 (m9 51 (.dt 11 (.set 1 0) [h 51 11,h3 54,h3 64]<|.dt 11 (.mk 1) [h 11 11,h 16 11,h 21 11,h 26 11,h 31 11,h 36 11,h 41 11,h 46 11,h 66 11]<|P2 67))))))) (O8 46 (c9 51 (J9 46 49 52 (m9 46 (.dt 11 (.set 1 0) [h 46 11,h3 49,h3 59]<|.dt 11 (.mk 1) [h 11 11,h 16 11,h 21 11,h 26 11,h 31 11,h 36 11,h 41 11,h 61 11]<|P2 62))))))) (O8 41 (c9 46 (J9 41 44 47 (m9 41 (.dt 11 (.set 1 0) [h 41 11,h3 44,h3 54]<|.dt 11 (.mk 1) [h 11 11,h 16 11,h 21 11,h 26 11,h 31 11,h 36 11,h 56 11]<|P2 57))))))) (O8 36 (c9 41 (J9 36 39 42 (m9 36 (.dt 11 (.set 1 0) [h 36 11,h3 39,h3 49]<|.dt 11 (.mk 1) [h 11 11,h 16 11,h 21 11,h 26 11,h 31 11,h 51 11]<|P2 52))))))) (O8 31 (c9 36 (J9 31 34 37 (m9 31 (.dt 11 (.set 1 0) [h 31 11,h3 34,h3 44]<|.dt 11 (.mk 1) [h 11 11,h 16 11,h 21 11,h 26 11,h 46 11]<|P2 47))))))) (O8 26 (c9 31 (J9 26 29 32 (m9 26 (.dt 11 (.set 1 0) [h 26 11,h3 29,h3 39]<|.dt 11 (.mk 1) [h 11 11,h 16 11,h 21 11,h 41 11]<|P2 42))))))) (O8 21 (c9 26 (J9 21 24 27 (m9 21 (.dt 11 (.set 1 0) [h 21 11,h3 24,h3 34]<|.dt 11 (.mk 1) [h 11 11,h 16 11,h 36 11]<|P2 37))))))) (O8 16 (c9 21 (J9 16 19 22 (m9 16 (.dt 11 (.set 1 0) [h 16 11,h3 19,h3 29]<|uU 11 31))))))) (O8 11 (c9 16 (J9 11 14 17 (m9 11 (.dt 11 (.set 1 0) [h 11 11,h3 14,h3 24]<|rJ 26))))))) (aE [h 1 4,.int .u8 (59)]<|.br 8 (.no) (c9 9 (.lt 4 (.bin .sub) [h 1 4,.int .u8 (48)]<|.lt 3 (.conv .i64) [h 10 4]<|aA [jI 0,h3 11]<|.lt 3 (.min) [jI 9999,h3 12]<|.dt 11 (.mk 1) [h3 13]<|rJ 14))))))
def B4v{G}(w:I6 G):A1g prog G 151 [.s 11,.s 4] xO 11 179 [.s 3]:=by
 refine SF (d:=60) A3v (cxg (B5_.2 w) (xK w)) w ⟨f151,_,func151,rfl⟩ C3 C3 ?_;intro us outs q;unfold xO at q;split at q
 .skip;rename_i H c;have y:=A5.1 q;clear q;obtain⟨l,o,q⟩:=y;replace o:=F2 o;subst o;split at q
  .rename_i B;cases q;have C:=qS l;have f:∀ k:Int,0<=k->k<((el l).length:Int)->M6 l=150∨((el (S0 (some []) ((el l).getD k.toNat default))).length=(el ((el l).getD k.toNat default)).length/\1<=(el ((el l).getD k.toNat default)).length/\(el ((el l).getD k.toNat default)).length<=6 /\
     -1<=(el (S0 (some []) ((el l).getD k.toNat default))).getD (((el (S0 (some []) ((el l).getD k.toNat default))).length:Int)-1).toNat default/\(el (S0 (some []) ((el l).getD k.toNat default))).getD (((el (S0 (some []) ((el l).getD k.toNat default))).length:Int)-1).toNat default<=9999):=fun k h1 F=>by
    rcases C with h|⟨_,_,h⟩
    .exact .inl h
    .obtain⟨a,b,d⟩:=y0 h h1 F;have e:el (S0 (some []) ((el l).getD k.toNat default))=el ((el l).getD k.toNat default):=by rw[CO];rfl
     rw[e]
     have:=y0 (i:=((el ((el l).getD k.toNat default)).length:Int)-1) d A0 A0;exact .inr ⟨rfl,a,b,this.1,this.2⟩
   have z:(el (some ([]:List Int))).length=0:=rfl;have A:∀ k:Nat,(el ((el l).getD k default)).length<=1000000000:=fun k=>by
    rw[B4];cases E:(el l)[k]? with
    | none=>exact W1 _
    | some p=>exact B.1.2 p (E6 E)
   have D:M6 l=150∨(el l).length<=16:=C.imp (fun h=>h) (fun h=>h.2.1);unfold A3v;refine w0 (.cons 1 _ (.cons 0 _ (.nil))) ?_;repeat (first|refine w4 (fun g=>?_) fun g=>?_|(refine w8 ?_;omega)|refine oW ?_|refine R8 ?_|refine Y4 ?_|(refine w7 [B2 rP _,.int .i64 _] ?_;rotate_left)|refine W3 ?_|refine P7 ?_|refine w2 (.get 1 0) (r:=rN) (e:=I5 rfl A0 A0 rfl) (k':=?_)|refine w2 (.mk 1) (r:=rN) (e:=I0 [] rfl B8 rfl) (k':=?_)|refine w2 (.cat 1) (r:=rN) (e:=eZ rfl (by first|(rw[z,G0];exact A _)|omega)) (k':=?_)|refine m5 ?_|refine X1 ?_|refine V1 ?_|refine O0 ?_|refine VY ?_|refine CV ?_|refine w2 (.nilw 1) (r:=rP) (e:=G6 rfl) (k':=?_)|refine w2 (.mk 1) (r:=rN) (e:=I0 [_] rfl B8 rfl) (k':=?_)|refine A1l ?_|refine w2 (.snoc 1) (r:=rN) (e:=S3 rfl rfl B8 (by first|(rw[z,G0];exact A _)|omega)) (k':=?_)|refine w1 (.get 1 0) (u:=.int .i64 _) (e:=I5 rfl A0 A0 rfl) (k':=?_)|refine B4e ?_|refine w2 (.set 1 0) (r:=rN) (e:=A09 _ rfl (A2 rfl) A0 A0 rfl) (k':=?_)|refine oX ?_|refine w2 (.mk 1) (r:=rP) (e:=I0 [_,_] rfl B8 rfl) (k':=?_)|refine w2 (.mk 1) (r:=rP) (e:=I0 [_] rfl B8 rfl) (k':=?_)|refine w2 (.mk 1) (r:=rP) (e:=I0 [_,_,_,_,_,_,_,_,_,_,_,_,_,_,_,_] rfl B8 rfl) (k':=?_)|refine w2 (.mk 1) (r:=rP) (e:=I0 [_,_,_,_,_,_,_,_,_,_,_,_,_,_,_] rfl B8 rfl) (k':=?_)|refine w2 (.mk 1) (r:=rP) (e:=I0 [_,_,_,_,_,_,_,_,_,_,_,_,_,_] rfl B8 rfl) (k':=?_)|refine w2 (.mk 1) (r:=rP) (e:=I0 [_,_,_,_,_,_,_,_,_,_,_,_,_] rfl B8 rfl) (k':=?_)|refine w2 (.mk 1) (r:=rP) (e:=I0 [_,_,_,_,_,_,_,_,_,_,_,_] rfl B8 rfl) (k':=?_)|refine w2 (.mk 1) (r:=rP) (e:=I0 [_,_,_,_,_,_,_,_,_,_,_] rfl B8 rfl) (k':=?_)|refine w2 (.mk 1) (r:=rP) (e:=I0 [_,_,_,_,_,_,_,_,_,_] rfl B8 rfl) (k':=?_)|refine w2 (.mk 1) (r:=rP) (e:=I0 [_,_,_,_,_,_,_,_,_] rfl B8 rfl) (k':=?_)|refine w2 (.mk 1) (r:=rP) (e:=I0 [_,_,_,_,_,_,_,_] rfl B8 rfl) (k':=?_)|refine w2 (.mk 1) (r:=rP) (e:=I0 [_,_,_,_,_,_,_] rfl B8 rfl) (k':=?_)|refine w2 (.mk 1) (r:=rP) (e:=I0 [_,_,_,_,_,_] rfl B8 rfl) (k':=?_)|refine w2 (.mk 1) (r:=rP) (e:=I0 [_,_,_,_,_] rfl B8 rfl) (k':=?_)|refine w2 (.mk 1) (r:=rP) (e:=I0 [_,_,_,_] rfl B8 rfl) (k':=?_)|refine w2 (.mk 1) (r:=rP) (e:=I0 [_,_,_] rfl B8 rfl) (k':=?_)|refine w31 xQ (e:=A4u _ B.1) (k':=?_)|refine cB ?_|refine w2 (.mk 1) (r:=rN) (e:=I0 [_,_] rfl B8 rfl) (k':=?_)|(have n:=f 15 A0 A0;have j:((el l).length:Int)=15+1:=A0;clear f)|(have n:=f 14 A0 A0;have j:((el l).length:Int)=14+1:=A0;clear f)|(have n:=f 13 A0 A0;have j:((el l).length:Int)=13+1:=A0;clear f)|(have n:=f 12 A0 A0;have j:((el l).length:Int)=12+1:=A0;clear f)|(have n:=f 11 A0 A0;have j:((el l).length:Int)=11+1:=A0;clear f)|(have n:=f 10 A0 A0;have j:((el l).length:Int)=10+1:=A0;clear f)|(have n:=f 9 A0 A0;have j:((el l).length:Int)=9+1:=A0;clear f)|(have n:=f 8 A0 A0;have j:((el l).length:Int)=8+1:=A0;clear f)|(have n:=f 7 A0 A0;have j:((el l).length:Int)=7+1:=A0;clear f)|(have n:=f 6 A0 A0;have j:((el l).length:Int)=6+1:=A0;clear f)|(have n:=f 5 A0 A0;have j:((el l).length:Int)=5+1:=A0;clear f)|(have n:=f 4 A0 A0;have j:((el l).length:Int)=4+1:=A0;clear f)|(have n:=f 3 A0 A0;have j:((el l).length:Int)=3+1:=A0;clear f)|(have n:=f 2 A0 A0;have j:((el l).length:Int)=2+1:=A0;clear f)|(have n:=f 1 A0 A0;have j:((el l).length:Int)=1+1:=A0;clear f)|(have n:=f 0 A0 A0;have j:((el l).length:Int)=0+1:=A0;clear f))
   all_goals
    first
    | (exfalso;omega)
    | exact G2 (fun x:Rws×Int=>[B2 rP x.1,.int .i64 x.2]) (A79 l c A0).symm
    | exact G2 (fun x:Rws×Int=>[B2 rP x.1,.int .i64 x.2]) (A3x l c A0 A0).symm
    | exact G2 (fun x:Rws×Int=>[B2 rP x.1,.int .i64 x.2]) (B40 l c A0 A0 A0).symm
    | exact G2 (fun x:Rws×Int=>[B2 rP x.1,.int .i64 x.2]) (B43 l c A0 A0 A0).symm
    | exact G2 (fun x:Rws×Int=>[B2 rP x.1,.int .i64 x.2]) (B4x l c A0 A0 A0).symm
    | exact G2 (fun x:Rws×Int=>[B2 rP x.1,.int .i64 x.2]) (A78 l c A0 A0 A0).symm
    | exact G2 (fun x:Rws×Int=>[B2 rP x.1,.int .i64 x.2]) (B44 l c _ A0 A0 j A0 A0).symm
    | (rw[B4w l c _ A0 j A0 A0];simp only[CO];rfl)
    | (rw[B41 l c _ A0 j A0 A0 A0];simp only[CO];rfl)
    | (rw[B4z l c _ A0 j ⟨A0,A0⟩ A0];simp only[CO];rfl)
  .cases q
 .cases q
def A2g(l:Rws):Bool:=(el l).all Option.isSome
def PE{l:List D4}{x:D4}(h:l.all Option.isSome=true)(b:x.isSome=true):(l++[x]).all Option.isSome=true:=by
 rw[fZ,h];simp[b]
def PD(i j:Nat)(h:A2g x=true):(el (P8 x i j)).all Option.isSome=true:=by
 rw[M1];refine D7.2 fun p hp=>D7.1 h p (K0 (N3 hp))
def IE(l:Rws)(c:Int)(h:A2g l=true):A2g (O4 l c).1=true:=by
 unfold O4;split
 .rfl
 split
 .split
  .rfl
  .split
   .rfl
   .split<;>rfl
 .split
  .exact PE (PD _ _ h) rfl
  .split
   .exact PE (PD _ _ h) rfl
   .split
    .rfl
    .split
     .exact PE (PD _ _ h) rfl
     .rfl
def B4U:∀ {l:List D4},l.all Option.isSome=true->l.map E1=l
 | [],_=>rfl
 | p::l,h=>by
   rw[bT,I3]at h;rw[F0,B4U h.2];cases p with
   | none=>cases h.1
   | some x=>rfl
def A1s(l:Rws)(c:Int):(O4 l c).2=0->(O4 l c).1=some (el (O4 l c).1):=by
 unfold O4;split
 .intro h;rename_i b;exact absurd h b
 split
 .split
  .intro _;rfl
  .split
   .intro _;rfl
   .split
    .intro _;rfl
    .intro h;exact absurd h B8
 .split
  .intro _;rfl
  .split
   .intro _;rfl
   .split
    .intro h;exact absurd h B8
    .split
     .intro _;rfl
     .intro h;exact absurd h B8
def A1u(l:Rws)(c:Int):(O4 l c).2=0∨(O4 l c).1=none:=by
 unfold O4;split
 .exact .inr rfl
 split
 .split
  .exact .inl rfl
  .split
   .exact .inl rfl
   .split
    .exact .inl rfl
    .exact .inr rfl
 .split
  .exact .inl rfl
  .split
   .exact .inl rfl
   .split
    .exact .inr rfl
    .split
     .exact .inl rfl
     .exact .inr rfl
def B4y{l:Rws}(h:A2g l=true):gM l c=O4 l c:=by
 unfold gM;by_cases h0:(O4 l c).2≠0
 .rw[A4 h0];rcases A1u l c with h1|h1
  .exact absurd h1 h0
  .exact Prod.ext h1.symm rfl
 .have h1:(O4 l c).2=0:=Classical.not_not.1 h0;rw[A3 h0,B4U (IE l c h),<- A1s l c h1];exact Prod.ext rfl h1.symm
noncomputable def C0H:L5:=⟨_,fun b=>(.consO (B4v b) .nil)⟩
def zL:List U->Option (Nat×List U)
 | [.str s,u_l,.int .i64 i]=>(J3 rP u_l).bind fun l=>if 0<=i/\i<=(s.length:Int)/\(s.length:Int)<=1000000000/\Vl l/\A2g l=true then Z9 (lR l (s.drop i.toNat)) [B2 rP (kS l (s.drop i.toNat))] (fun e=>[.int .i64 e])else none
 | _=>none
def vI(s:C8)(l:(Option (List D4)))(i:Int)(b:0<=i/\i<=(s.length:Int)/\(s.length:Int)<=1000000000/\Vl l/\A2g l=true):zL [.str s,B2 rP l,.int .i64 i]=Z9 (lR l (s.drop i.toNat)) [B2 rP (kS l (s.drop i.toNat))] (fun e=>[.int .i64 e]):=by
 simp only[zL,F1,C4];exact A4 b
def B1L:Q7:=⟨[(0,h 0 9),(4,own 6 1 11),(5,h 2 3)],[(6,.sq 1 11 179 7),(7,.frz)],3,[⟨.exit 0,[(4,own 8 0 11)],[(8,.sq 0 11 179 9),(9,.frz)],1⟩,⟨.ret,[(2,.slice none 0 0),(3,h 0 3)],[],1⟩]⟩
noncomputable def A3_:Code:=(f137.body).getD .skip
noncomputable def B1H:Code:=match H5 [true,true,true,false,true,false] A3_ with|some (.loop x)=>x|_=>.skip
def B1K:f137.body=some A3_:=rfl
def B1J:H5 [true,true,true,false,true,false] A3_=some (.loop B1H):=C3
def B1I:Tr:=aD [h 0 9]<|aV 2 3 4 (.lt 4 (.idx) [h 0 9,h3 2]<|.fn xO [h 1 11,h 5 4] 2<|dZ 7 8 0 (.ret [jI 1,h3 7]) (aA [h3 2,jI 1]<|.ret [jI (-1),h 0 9,h 6 11,h3 9])) (.ret [jI 0,h 1 11])
def A39:List U->Nat
 | [.str s,u_l,.int .i64 i]=>(match J3 rP u_l with|some l=>(s.length-i).toNat|none=>0)
 | _=>0
def A38(s:C8)(l:(Option (List D4)))(i:Int):A39 [.str s,B2 rP l,.int .i64 i]=(s.length-i).toNat:=by
 simp only[A39,F1]
def B61{G}(o:I6 G):∀ (E:Nat->U) (base:Nat),@U0 ⟨E,G⟩ prog base gl f137.ntmps B1H (O5 prog gl n0 10 B1L zL):=by
 refine V7 (dep:=60) (f:=137) (n0:=n0) (nB:=10) (H0:=H0) A39 B1I (cxg (C0H.2 o) (xK o)) o func137 B1K B1J C3 C3 C3 ?_;intro us d outs j;have q:=j;unfold zL at j;split at j
 .skip;rename_i s u i;have p:=A5.1 j;clear j;obtain⟨l,b,j⟩:=p;replace b:=F2 b;subst b;split at j
  .rename_i n;clear j q;have hw:=B4y (l:=l) (c:=((s.getD i.toNat 0).toNat:Int)) n.2.2.2.2;refine⟨rfl,?_⟩;unfold B1I;refine w0 (.cons 2 _ (.cons 1 _ (.cons 0 _ (.nil)))) ?_;refine uX ?_;refine W3 ?_;refine w5 (fun g0=>?_) fun g0=>?_
   .refine w7 [.int .i64 _,B2 rP _] ?_;refine H6 (d:=0) ?_;rw[vI s l i n,A6k s A0];rfl
   refine w1 (.idx) (e:=nP _ _ _ A0 A0) (k':=?_);refine w32 xO (e:=(A3w _ _ ⟨B6H n.2.2.2.1,A0,by have:=(s.getD i.toNat 0).toNat_lt;omega⟩).trans (by rw[hw])) (k':=?_);refine oX ?_;refine w4 (fun g1=>?_) fun g1=>?_
   .refine w7 [.int .i64 _,.int .i64 _] ?_;refine H6 (d:=1) ?_;rw[vI s l i n,CN s n.1 A0,CA (by first|exact g1|simpa using g1)];rfl
   first|refine V1 ?_|refine O0 ?_
   refine w7 [.int .i64 _,.str _,B2 rP _,.int .i64 _] ?_;refine M0 ?_ ?_
   .rw[vI s _ (i+1) ⟨A0,A0,n.2.2.1,ZB _ _,IE _ _ n.2.2.2.2⟩,vI s l i n,CN s n.1 A0,rW (by first|exact g1|simpa using g1),xT]
   .rw[A38,A38];omega
  .cases j
 .cases j
noncomputable def C1M:List LpE:=(137,([true,true,true,false,true,false],O5 prog gl n0 10 B1L zL))::B4M
def A7W{G}(b:I6 G):g8 prog G gl C1M:=.cons func137 B1K B1J (B61 b) (xK b)
noncomputable def B6B:L5:=⟨_,fun b=>.nil⟩
def DU:List U->Option (Nat×List U)
 | [.str s]=>some (0,[B2 rP ((O9 s).1),.int .i64 ((O9 s).2)])
 | _=>none
def A37(s:C8):DU [.str s]=some (0,[B2 rP ((O9 s).1),.int .i64 ((O9 s).2)]):=rfl
def A36:Tr:=jW 0 1 4096 (N9 3 3) (.dt 11 (.nilw 1) []<|.lp zL [h 0 9,h 3 11,jI 0] 0 1 (P2 4) (.lp zL [h 0 9,h 3 11,jI 0] 1 1 (.dt 11 (.nilw 1) []<|.ret [h 5 11,h3 4]) (.no)))
def B47{G}(b:I6 G):I8 prog G 137 [.s 9] DU [.s 11,.s 3]:=by
 refine D0 (d:=60) A36 (cxg (B6B.2 b) (A7W b)) b ⟨f137,_,func137,rfl⟩ C3 C3 ?_;intro us outs f;unfold DU at f;split at f
 .skip;rename_i s;cases f;unfold A36;refine w0 (.cons 0 _ (.nil)) ?_;repeat (first|refine w2 (.nilw 1) (r:=rP) (e:=G6 rfl) (k':=?_)|(refine w7 [B2 rP _,.int .i64 _] ?_;rotate_left)|refine uX ?_|refine cB ?_|refine w4 (fun g=>?_) fun g=>?_|(refine w6 zL (vI _ none _ ⟨A0,A0,A0,rD,rfl⟩) (h0:=fun g=>?_) (h1:=fun v g=>?_);show Wk _ _ (.cons _ _ _);rotate_left;show Wk _ _ (.cons _ _ _);rotate_right))
  all_goals
   first|(rw[A0W s A0];done)|(rw[A0V s A0 ‹_›];done)|(rw[A0U s A0 ‹_›];done)
 .cases f
def ZJ{l:C8}(h0:0<=i)(h1:i<(k:Int)):(l.take k).getD i.toNat default=l.getD i.toNat default:=by
 rw[B4,B4,G4 A0]
def B7w{l:C8}(h:(k:Int)<=i):nE ((l.take k).drop i.toNat)=[]:=by
 rw[d9 (l.take k) (by rw[G3];omega)];rfl
def B2c{l:C8}(h0:0<=i)(h1:i<(l.length:Int))(b:i<(k:Int))(d:¬(((l.getD i.toNat 0).toNat:Nat):Int)≠27):nE ((l.take k).drop i.toNat)=nE ((l.take k).drop (i+1).toNat):=by
 rw[Q1 (l.take k) h0 (by rw[G3];omega),ZJ h0 b,yL,show l.getD i.toNat 0=27 from A6Z A0];rfl
def B2d{l:C8}(h0:0<=i)(h1:i<(l.length:Int))(b:i<(k:Int))(d:(((l.getD i.toNat 0).toNat:Nat):Int)≠27):nE ((l.take k).drop i.toNat)=l.getD i.toNat 0::nE ((l.take k).drop (i+1).toNat):=by
 rw[Q1 (l.take k) h0 (by rw[G3];omega),ZJ h0 b,yL];have:isE (l.getD i.toNat 0)=false:=C9 fun h=>d (by rw[h];rfl)
 unfold nE;rw[mN,this];rfl
noncomputable def C0I:L5:=⟨_,fun b=>.nil⟩
def pI:List U->Option (Nat×List U)
 | [.str s,.int .i64 n,u_out,.int .i64 i]=>(J3 rB u_out).bind fun out=>if 0<=n/\n<=(s.length:Int)/\0<=i/\i<=min n 1000/\((el out).length:Int)<=i/\(s.length:Int)<=100000 then some (0,[B2 rB (S0 out (some (bI (nE ((s.take (min n 1000).toNat).drop i.toNat)))))])else none
 | _=>none
def eU(s:C8)(n:Int)(out:D4)(i:Int)(b:0<=n/\n<=(s.length:Int)/\0<=i/\i<=min n 1000/\((el out).length:Int)<=i/\(s.length:Int)<=100000):pI [.str s,.int .i64 n,B2 rB out,.int .i64 i]=some (0,[B2 rB (S0 out (some (bI (nE ((s.take (min n 1000).toNat).drop i.toNat)))))]):=by
 simp only[pI,F1,C4];exact A4 b
def B1Q:Q7:=⟨[(4,h 0 9),(5,h 1 3),(6,own 6 2 11),(7,h 3 3)],[(6,.sq 2 11 5 7),(7,.frz)],4,[⟨.exit 0,[(6,own 8 0 11)],[(8,.sq 0 11 5 9),(9,.frz)],1⟩]⟩
noncomputable def A4B:Code:=(f90.body).getD .skip
noncomputable def B1M:Code:=match H5 [true,true,true,false,true,false,true,false,true,false] A4B with|some (.loop x)=>x|_=>.skip
def B1P:f90.body=some A4B:=rfl
def B1O:H5 [true,true,true,false,true,false,true,false,true,false] A4B=some (.loop B1M):=C3
def B1N:Tr:=.lt 3 (.min) [h3 1,jI 1000]<|aV 3 4 5 (.lt 4 (.idx) [h 0 9,h3 3]<|aN [h 6 4,.int .u8 (27)]<|.br 7 (.lt 4 (.idx) [h 0 9,h3 3]<|.dt 11 (.snoc 1) [h 2 11,h 8 4]<|aA [h3 3,jI 1]<|.ret [jI (-1),h 0 9,h3 1,h 9 11,h3 10]) (aA [h3 3,jI 1]<|.ret [jI (-1),h 0 9,h3 1,h 2 11,h3 8])) (.ret [jI 0,h 2 11])
def A4A:List U->Nat
 | [.str s,.int .i64 n,u_out,.int .i64 i]=>(match J3 rB u_out with|some out=>(1000-i).toNat|none=>0)
 | _=>0
def MQ(s:C8)(n:Int)(out:D4)(i:Int):A4A [.str s,.int .i64 n,B2 rB out,.int .i64 i]=(1000-i).toNat:=by
 simp only[A4A,F1]
def B62{G}(q:I6 G):∀ (E:Nat->U) (base:Nat),@U0 ⟨E,G⟩ prog base gl f90.ntmps B1M (O5 prog gl n0 10 B1Q pI):=by
 refine V7 (dep:=60) (f:=90) (n0:=n0) (nB:=10) (H0:=H0) A4A B1N (cxg (C0I.2 q) .nil) q func90 B1P B1O C3 C3 C3 ?_;intro us d outs o;have y:=o;unfold pI at o;split at o
 .skip;rename_i s n w i;have p:=A5.1 o;clear o;obtain⟨out,b,o⟩:=p;replace b:=F2 b;subst b;split at o
  .rename_i j;clear o y;refine⟨rfl,?_⟩;unfold B1N;refine w0 (.cons 3 _ (.cons 2 _ (.cons 1 _ (.cons 0 _ (.nil))))) ?_;refine A1l ?_;refine W3 ?_;refine w5 (fun g0=>?_) fun g0=>?_
   .refine w7 [.int .i64 _,B2 rB _] ?_;refine H6 (d:=0) ?_;rw[eU s n out i j,B7w (i:=i) A0];exact G2 (fun z=>some (0,[B2 rB z])) (YG out)
   refine w1 (.idx) (e:=nP _ _ _ A0 A0) (k':=?_);refine oX ?_;refine w4 (fun g1=>?_) fun g1=>?_
   .refine w1 (.idx) (e:=nP _ _ _ A0 A0) (k':=?_);refine w2 (.snoc 1) (r:=rB) (e:=S3 rfl rfl B8 A0) (k':=?_);first|refine V1 ?_|refine O0 ?_
    refine w7 [.int .i64 _,.str _,.int .i64 _,B2 rB _,.int .i64 _] ?_;refine M0 ?_ ?_
    .first
     | (have h:∀ X,X=S0 out (some (bI [s.getD i.toNat 0]))->pI [.str s,.int .i64 n,B2 rB X,.int .i64 (i+1)]=pI [.str s,.int .i64 n,B2 rB out,.int .i64 i]:=fun X u=>by
         rw[eU s n X (i+1) ⟨j.1,j.2.1,A0,A0,by rw[u,T9,E3,B1,jG,B6,E0];omega,j.2.2.2.2.2⟩,eU s n out i j,u,yR,<- YQ,B2d (i:=i) A0 A0 A0 ‹_›];rfl
        exact h _ rfl)
     | (rw[eU s n out (i+1) ⟨j.1,j.2.1,A0,A0,A0,j.2.2.2.2.2⟩,eU s n out i j,B2c (i:=i) A0 A0 A0 ‹_›];done)
    .rw[MQ,MQ];omega
   first|refine V1 ?_|refine O0 ?_
   refine w7 [.int .i64 _,.str _,.int .i64 _,B2 rB _,.int .i64 _] ?_;refine M0 ?_ ?_
   .first
    | (have h:∀ X,X=S0 out (some (bI [s.getD i.toNat 0]))->pI [.str s,.int .i64 n,B2 rB X,.int .i64 (i+1)]=pI [.str s,.int .i64 n,B2 rB out,.int .i64 i]:=fun X u=>by
        rw[eU s n X (i+1) ⟨j.1,j.2.1,A0,A0,by rw[u,T9,E3,B1,jG,B6,E0];omega,j.2.2.2.2.2⟩,eU s n out i j,u,yR,<- YQ,B2d (i:=i) A0 A0 A0 ‹_›];rfl
       exact h _ rfl)
    | (rw[eU s n out (i+1) ⟨j.1,j.2.1,A0,A0,A0,j.2.2.2.2.2⟩,eU s n out i j,B2c (i:=i) A0 A0 A0 ‹_›];done)
   .rw[MQ,MQ];omega
  .cases o
 .cases o
noncomputable def C1N:List LpE:=(90,([true,true,true,false,true,false,true,false,true,false],O5 prog gl n0 10 B1Q pI))::[]
def A7X{G}(b:I6 G):g8 prog G gl C1N:=.cons func90 B1P B1O (B62 b) .nil
def ptT(s:C8):C8:=s.drop (6:Int).toNat
def ptE(s:C8):Bool:=decide (((ptT s).length:Int)-6>=0) && decide ((ptT s).drop (((ptT s).length:Int)-6).toNat=[27,91,50,48,49,126])
def ptP(s:C8):C8:=if ptE s=true then[]else if((ptT s).length:Int)>1006 then[27,91,50,48,48,126]++(((ptT s).drop (0:Int).toNat).take ((1000:Int).toNat-(0:Int).toNat)++[0]++(ptT s).drop (1002:Int).toNat)else[27,91,50,48,48,126]++ptT s
def ptI(s:C8):Option (List Xt):=if ptE s=true then some [(3,0,0,0,0,0,0,iB (el (S0 none (some (bI (nE (((ptT s).take (min (((ptT s).length:Int)-6) 1000).toNat).drop (0:Int).toNat)))))))]else none
def C1p{s:C8}(h0:((ptT s).length:Int)-6>=0)(h:(ptT s).drop (((ptT s).length:Int)-6).toNat=[27,91,50,48,49,126]):[]=ptP s/\some [(3,0,0,0,0,0,0,iB (el (S0 none (some (bI (nE (((ptT s).take (min (((ptT s).length:Int)-6) 1000).toNat).drop (0:Int).toNat)))))))]=ptI s:=by
 have e:ptE s=true:=by unfold ptE;rw[D3 h0,D3 h];rfl
 unfold ptP ptI;rw[A4 e,A4 e];exact⟨rfl,rfl⟩
def C1r{s:C8}(h:¬((ptT s).length:Int)-6>=0):ptE s=false:=by unfold ptE;rw[C9 h];rfl
def C1q{s:C8}(h:(ptT s).drop (((ptT s).length:Int)-6).toNat≠[27,91,50,48,49,126]):ptE s=false:=by unfold ptE;rw[C9 h,P5]
def C1t{s:C8}(h:ptE s=false)(b:((ptT s).length:Int)>1006):[27,91,50,48,48,126]++(((ptT s).drop (0:Int).toNat).take ((1000:Int).toNat-(0:Int).toNat)++[0]++(ptT s).drop (1002:Int).toNat)=ptP s/\none=ptI s:=by
 unfold ptP ptI;rw[A3 (by rw[h];decide),A4 b,A3 (by rw[h];decide)];exact⟨rfl,rfl⟩
def C1s{s:C8}(h:ptE s=false)(b:¬((ptT s).length:Int)>1006):[27,91,50,48,48,126]++ptT s=ptP s/\none=ptI s:=by
 unfold ptP ptI;rw[A3 (by rw[h];decide),A3 b,A3 (by rw[h];decide)];exact⟨rfl,rfl⟩
def A9s{l:C8}:∀ x ∈ el (S0 none (some (bI l))),0<=x/\x<256:=fun x b=>by
 rw[T9]at b;exact GO b
noncomputable def C0L:L5:=⟨_,fun b=>.nil⟩
def RA:List U->Option (Nat×List U)
 | [.str s]=>if 6<=(s.length:Int)/\(s.length:Int)<=100000 then some (0,[.str (ptP s),B2 rI (ptI s)])else none
 | _=>none
def A8C(s:C8)(b:6<=(s.length:Int)/\(s.length:Int)<=100000):RA [.str s]=some (0,[.str (ptP s),B2 rI (ptI s)]):=A4 b
def A4C(n:Nat):Tr:=jW 1 n 1006 (.lt 9 (.sub) [h 1 9,jI 0,jI 1000]<|aC [h (n+2) 9,.string ⟨⟨[0]⟩⟩]<|.lt 9 (.sub1) [h 1 9,jI 1002]<|aC [h (n+3) 9,h (n+4) 9]<|aC [.string ⟨⟨[27,91,50,48,48,126]⟩⟩,h (n+5) 9]<|gH (n+6) (n+7)) (aC [.string ⟨⟨[27,91,50,48,48,126]⟩⟩,h 1 9]<|gH (n+2) (n+3))
def B1V:Tr:=.lt 9 (.sub1) [h 0 9,jI 6]<|aD [h 1 9]<|aS [h3 2,jI 6]<|J6 3 4 0 (.lt 9 (.sub1) [h 1 9,h3 3]<|aE [h 5 9,.string ⟨⟨[27,91,50,48,49,126]⟩⟩]<|.br 6 (.dt 11 (.nilw 1) []<|.fn pI [h 1 9,h3 3,h 7 11,jI 0] 1<|.lt 9 (.str) [h 8 11]<|.dt 18 (.mk 8) [jI 3,jI 0,jI 0,jI 0,jI 0,jI 0,jI 0,h 9 9]<|.ret [.string ⟨⟨[]⟩⟩,h 10 18]) (A4C 7)) (A4C 5)
def B63{G}(b:I6 G):I8 prog G 90 [.s 9] RA [.s 9,.s 18]:=by
 refine D0 (d:=60) B1V (cxg (C0L.2 b) (A7X b)) b ⟨f90,_,func90,rfl⟩ C3 C3 ?_;intro us outs f;unfold RA at f;split at f
 .skip;rename_i s;split at f
  .rename_i p;cases f;have n:((ptT s).length:Int)=(s.length:Int)-6:=by unfold ptT;rw[F6];omega
   have o:((s.drop (6:Int).toNat).length:Int)=(s.length:Int)-6:=n;unfold B1V;refine w0 (.cons 0 _ (.nil)) ?_;repeat (first|refine w1 (.bin .add) (e:=X3 _ _ (by first|omega|(simp only[B1,F6,G3,B6,E0];omega))) (k':=?_)|(refine w7 [.str _,B2 rI _] ?_;rotate_left)|refine w1 (.sub1) (e:=A08 _ _ _ A0 A0) (k':=?_)|refine w4 (fun g=>?_) fun g=>?_|refine w2 (.nilw 8) (r:=rI) (e:=G6 rfl) (k':=?_)|refine uX ?_|refine oW ?_|refine iC ?_|refine cB ?_|refine w1 (.sub) (e:=wU _ _ _ _ _ A0 A0 A0) (k':=?_)|refine bK ?_|refine AR ?_|refine w2 (.nilw 1) (r:=rB) (e:=G6 rfl) (k':=?_)|refine w31 pI (e:=eU _ _ _ _ ⟨A0,A0,B8,A0,B8,A0⟩) (k':=?_)|refine w1 (.str) (e:=u9 rfl (by exact A9s)) (k':=?_)|refine w2 (.mk 8) (r:=rI) (e:=I0 [(_,_,_,_,_,_,_,_)] rfl B8 rfl) (k':=?_))
   all_goals
    first
    | (have z:=C1p (s:=s) ‹_› ‹_›
       exact sU z.1 z.2)
    | (have j:ptE s=false:=(by first|exact C1r ‹_›|exact C1q ‹_›)
       first
       | (have z:=C1t j ‹_›
          exact sU z.1 z.2)
       | (have z:=C1s j ‹_›
          exact sU z.1 z.2))
  .cases f
 .cases f
def evG(s:C8):Bool:=decide ((s.length:Int)>4) && decide (byA s 2=60)
def evD(s:C8):C8:=(s.drop (3:Int).toNat).take (((s.length:Int)-1).toNat-(3:Int).toNat)
def evK(s:C8):Bool:=if evG s=true then decide ((O9 (evD s)).2=0)else decide ((s.length:Int)=6) && decide ((s.drop (0:Int).toNat).take ((3:Int).toNat-(0:Int).toNat)=[27,91,77])
def evN(s:C8):Int:=if evG s=true then Q9 (O9 (evD s)).1 0 0 else byA s 3-32
def evC(s:C8):Int:=if evG s=true then Q9 (O9 (evD s)).1 1 0-1 else byA s 4-33
def evR(s:C8):Int:=if evG s=true then Q9 (O9 (evD s)).1 2 0-1 else byA s 5-33
def evM(n:Int):Int:=if n>=0 then n / 4%2+n / 8%2*2+n / 16%2*4 else 0
def evT(n:Int):Int:=if n>=0 then n%4 else 0
def evW(g:Bool)(n l:Int):Int:=if ¬n>=0 then 0 else if n>=64 then 3 else if n>=32 then 2 else if(g=true/\l=109)∨(g=false/\n%4=3)then 1 else 0
def evX(s:C8):Prop:=U9 2 0 (evM (evN s)) (evW (evG s) (evN s) (mdL s)) (evT (evN s)) (evR s) (evC s) []
instance(s:C8):Decidable (evX s):=by unfold evX;infer_instance
def evB(s:C8):Bool:=evK s && (decide (evX s) && decide (moS (evG s) (evM (evN s)) (evW (evG s) (evN s) (mdL s)) (evT (evN s)) (evR s) (evC s)=s))
def A9O{s:C8}(h:evK s=false):evB s=false:=by unfold evB;rw[h];rfl
def C2J{s:C8}{n w b:Int}(f:evN s=n)(q:evW (evG s) n (mdL s)=w)(p:evR s=r)(j:evC s=c)(d:evM n=m)(o:evT n=b)(h:¬U9 2 0 m w b r c []):evB s=false:=by
 subst f q p j d o;unfold evB evX;rw[C9 h,Q5,P5]
def B81{s:C8}{n w b:Int}(j:evG s=g)(f:evN s=n)(u:evW (evG s) n (mdL s)=w)(q:evR s=r)(o:evC s=c)(d:evM n=m)(p:evT n=b)(h:moS g m w b r c≠s):evB s=false:=by
 subst j f u q o d p;unfold evB;rw[C9 h,P5,P5]
def B8x{s:C8}{n w b:Int}(j:evK s=true)(o:evG s=g)(f:evN s=n)(z:evW (evG s) n (mdL s)=w)(u:evR s=r)(p:evC s=c)(d:evM n=m)(q:evT n=b)(y:¬¬U9 2 0 m w b r c [])(h:¬moS g m w b r c≠s):evB s=true:=by
 subst o f z u p d q;unfold evB evX;rw[j,D3 (K2.1 y),D3 (K2.1 h)];rfl
def B87{s:C8}(h:evG s=true):evN s=Q9 (O9 (evD s)).1 0 0/\evC s=Q9 (O9 (evD s)).1 1 0-1/\evR s=Q9 (O9 (evD s)).1 2 0-1:=⟨A4 h,A4 h,A4 h⟩
def B9F{s:C8}(h:evG s=false):evN s=byA s 3-32/\evC s=byA s 4-33/\evR s=byA s 5-33:=⟨A3 (by rw[h];decide),A3 (by rw[h];decide),A3 (by rw[h];decide)⟩
def A6R{s:C8}(h:(s.length:Int)>4)(b:byA s 2=60):evG s=true:=by unfold evG;rw[D3 h,D3 b];rfl
def A1A{s:C8}(h:¬(s.length:Int)>4):evG s=false:=by unfold evG;rw[C9 h];rfl
def A0_{s:C8}(h:¬byA s 2=60):evG s=false:=by unfold evG;rw[C9 h,P5]
def B9E{s:C8}(g:evG s=true)(h:(O9 (evD s)).2≠0):evK s=false:=by unfold evK;rw[A4 g,C9 h]
def B9D{s:C8}(g:evG s=true)(h:¬(O9 (evD s)).2≠0):evK s=true:=by unfold evK;rw[A4 g,D3 (K2.1 h)]
def A9e{s:C8}(g:evG s=false)(h:¬(s.length:Int)=6):evK s=false:=by unfold evK;rw[A3 (by rw[g];decide),C9 h];rfl
def B9C{s:C8}(g:evG s=false)(h:¬(s.drop (0:Int).toNat).take ((3:Int).toNat-(0:Int).toNat)=[27,91,77]):evK s=false:=by unfold evK;rw[A3 (by rw[g];decide),C9 h,P5]
def B9B{s:C8}(g:evG s=false)(h:(s.length:Int)=6)(b:(s.drop (0:Int).toNat).take ((3:Int).toNat-(0:Int).toNat)=[27,91,77]):evK s=true:=by unfold evK;rw[A3 (by rw[g];decide),D3 h,D3 b];rfl
noncomputable def C0b:L5:=⟨_,fun b=>(.cons (B47 b) (.cons (ML b) (.cons (A0E b) (.cons (B1h b) .nil))))⟩
def RJ:List U->Option (Nat×List U)
 | [.str s]=>if(s.length:Int)<=100000 then some (0,[.int .i64 (ifI (evB s) 2),.int .i64 (0),.int .i64 (ifI (evB s) (evM (evN s))),.int .i64 (ifI (evB s) (evW (evG s) (evN s) (mdL s))),.int .i64 (ifI (evB s) (evT (evN s))),.int .i64 (ifI (evB s) (evR s)),.int .i64 (ifI (evB s) (evC s)),.str ([]),.bool (evB s)])else none
 | _=>none
def A8Q(s:C8)(b:(s.length:Int)<=100000):RJ [.str s]=some (0,[.int .i64 (ifI (evB s) 2),.int .i64 (0),.int .i64 (ifI (evB s) (evM (evN s))),.int .i64 (ifI (evB s) (evW (evG s) (evN s) (mdL s))),.int .i64 (ifI (evB s) (evT (evN s))),.int .i64 (ifI (evB s) (evR s)),.int .i64 (ifI (evB s) (evC s)),.str ([]),.bool (evB s)]):=A4 b
def A4f(n:Nat):Tr:=.fn oE [jI 2,jI 0,jI 0,jI 0,jI 0,h3 17,h3 14,.string ⟨⟨[]⟩⟩] 1<|J5 n (n+1) F9 (.fn oD [h 4 8,jI 2,jI 0,jI 0,jI 0,jI 0,h3 17,h3 14,.string ⟨⟨[]⟩⟩] 1<|aN [h (n+2) 9,h 0 9]<|.br (n+3) (F9) (.ret [jI 2,jI 0,jI 0,jI 0,jI 0,h3 17,h3 14,.string ⟨⟨[]⟩⟩,.bool true]))
def A4e(n:Nat):Tr:=.fn oE [jI 2,jI 0,jI 0,jI 0,jI 0,h3 15,h3 12,.string ⟨⟨[]⟩⟩] 1<|J5 n (n+1) F9 (.fn oD [.bool false,jI 2,jI 0,jI 0,jI 0,jI 0,h3 15,h3 12,.string ⟨⟨[]⟩⟩] 1<|aN [h (n+2) 9,h 0 9]<|.br (n+3) (F9) (.ret [jI 2,jI 0,jI 0,jI 0,jI 0,h3 15,h3 12,.string ⟨⟨[]⟩⟩,.bool true]))
def cX(a0:Int)(b:Nat)(a2:Nat)(a3:Nat)(a4:Nat)(d f:Tr):Tr:=.fn oD [h 4 8,jI 2,jI 0,h3 (a3+10),jI a0,h3 a3,h3 a2,h3 b,.string ⟨⟨[]⟩⟩] 1<|aN [h a4 9,h 0 9]<|.br (a4+1) d f
def Z3(a0:Int)(b:Nat)(a2:Nat)(a3:Nat)(a4:Nat)(d f:Tr):Tr:=.fn oE [jI 2,jI 0,h3 (a3+10),jI a0,h3 a3,h3 a2,h3 b,.string ⟨⟨[]⟩⟩] 1<|aX [h a4 8]<|.br (a4+1) d f
def uT(a0:Nat)(b:Nat)(f d:Tr):Tr:=.lt 3 (.bin .rem) [h3 a0,jI 4]<|.lt 3 (.bin .quo) [h3 a0,jI 4]<|.lt 3 (.bin .rem) [h3 b,jI 2]<|.lt 3 (.bin .quo) [h3 a0,jI 8]<|.lt 3 (.bin .rem) [h3 (b+2),jI 2]<|.lt 3 (.bin .mul) [h3 (b+3),jI 2]<|aA [h3 (b+1),h3 (b+4)]<|.lt 3 (.bin .quo) [h3 a0,jI 16]<|.lt 3 (.bin .rem) [h3 (b+6),jI 2]<|.lt 3 (.bin .mul) [h3 (b+7),jI 4]<|aA [h3 (b+5),h3 (b+8)]<|aH [h3 a0,jI 64]<|.br (b+10) f d
def mR(a0:Int)(b:Nat)(a2:Nat)(d f:Tr):Tr:=.fn oD [.bool false,jI 2,jI 0,h3 (b+10),jI a0,h3 b,h3 15,h3 12,.string ⟨⟨[]⟩⟩] 1<|aN [h a2 9,h 0 9]<|.br (a2+1) d f
def B1z:Tr:=jW 0 1 4 (.lt 4 (.idx) [h 0 9,jI 2]<|aE [h 3 4,.int .u8 (60)]<|.br 4 (aD [h 0 9]<|aS [h3 5,jI 1]<|.lt 9 (.sub) [h 0 9,jI 3,h3 6]<|.fn DU [h 7 9] 2<|dZ 9 10 0 F9 (.fn pE [h 8 11,jI 0,jI 0] 1<|.fn pE [h 8 11,jI 1,jI 0] 1<|aS [h3 12,jI 1]<|.fn pE [h 8 11,jI 2,jI 0] 1<|aS [h3 14,jI 1]<|aD [h 0 9]<|aS [h3 16,jI 1]<|.lt 4 (.idx) [h 0 9,h3 17]<|aE [h 18 4,.int .u8 (109)]<|J6 11 20 0 (uT 11 22 (Z3 3 13 15 21 33 F9 (cX 3 13 15 21 35 F9 (R3 3 13 15 21 31))) (J6 11 33 32 (Z3 2 13 15 21 34 F9 (cX 2 13 15 21 36 F9 (R3 2 13 15 21 31))) (.br 19 (Z3 1 13 15 21 34 F9 (cX 1 13 15 21 36 F9 (R3 1 13 15 21 31))) (Z3 0 13 15 21 34 F9 (cX 0 13 15 21 36 F9 (R3 0 13 15 21 31)))))) (.fn oE [jI 2,jI 0,jI 0,jI 0,jI 0,h3 15,h3 13,.string ⟨⟨[]⟩⟩] 1<|J5 21 22 F9 (.fn oD [h 4 8,jI 2,jI 0,jI 0,jI 0,jI 0,h3 15,h3 13,.string ⟨⟨[]⟩⟩] 1<|aN [h 23 9,h 0 9]<|.br 24 (F9) (.ret [jI 2,jI 0,jI 0,jI 0,jI 0,h3 15,h3 13,.string ⟨⟨[]⟩⟩,.bool true]))))) (aD [h 0 9]<|F3 5 6 6 (.lt 9 (.sub) [h 0 9,jI 0,jI 3]<|aE [h 7 9,.string ⟨⟨[27,91,77]⟩⟩]<|.br 8 (.lt 4 (.idx) [h 0 9,jI 3]<|.lt 3 (.conv .i64) [h 9 4]<|aS [h3 10,jI 32]<|.lt 4 (.idx) [h 0 9,jI 4]<|.lt 3 (.conv .i64) [h 12 4]<|aS [h3 13,jI 33]<|.lt 4 (.idx) [h 0 9,jI 5]<|.lt 3 (.conv .i64) [h 15 4]<|aS [h3 16,jI 33]<|.lt 3 (.bin .rem) [h3 11,jI 4]<|F3 18 19 3 (aL [h3 11,jI 32]<|J6 11 21 0 (uT 11 23 (Z3 3 14 17 22 34 F9 (cX 3 14 17 22 36 F9 (R3 3 14 17 22 32))) (J6 11 34 32 (Z3 2 14 17 22 35 F9 (cX 2 14 17 22 37 F9 (R3 2 14 17 22 32))) (.br 20 (Z3 1 14 17 22 35 F9 (cX 1 14 17 22 37 F9 (R3 1 14 17 22 32))) (Z3 0 14 17 22 35 F9 (cX 0 14 17 22 37 F9 (R3 0 14 17 22 32)))))) (A4f 22)) (J6 11 20 0 (uT 11 22 (Z3 3 14 17 21 33 F9 (cX 3 14 17 21 35 F9 (R3 3 14 17 21 31))) (J6 11 33 32 (Z3 2 14 17 21 34 F9 (cX 2 14 17 21 36 F9 (R3 2 14 17 21 31))) (Z3 0 14 17 21 34 F9 (cX 0 14 17 21 36 F9 (R3 0 14 17 21 31))))) (A4f 21))) (F9)) F9)) (aD [h 0 9]<|F3 3 4 6 (.lt 9 (.sub) [h 0 9,jI 0,jI 3]<|aE [h 5 9,.string ⟨⟨[27,91,77]⟩⟩]<|.br 6 (.lt 4 (.idx) [h 0 9,jI 3]<|.lt 3 (.conv .i64) [h 7 4]<|aS [h3 8,jI 32]<|.lt 4 (.idx) [h 0 9,jI 4]<|.lt 3 (.conv .i64) [h 10 4]<|aS [h3 11,jI 33]<|.lt 4 (.idx) [h 0 9,jI 5]<|.lt 3 (.conv .i64) [h 13 4]<|aS [h3 14,jI 33]<|.lt 3 (.bin .rem) [h3 9,jI 4]<|F3 16 17 3 (aL [h3 9,jI 32]<|J6 9 19 0 (uT 9 21 (Z3 3 12 15 20 32 F9 (mR 3 20 34 F9 (R3 3 12 15 20 30))) (J6 9 32 32 (Z3 2 12 15 20 33 F9 (mR 2 20 35 F9 (R3 2 12 15 20 30))) (.br 18 (Z3 1 12 15 20 33 F9 (mR 1 20 35 F9 (R3 1 12 15 20 30))) (Z3 0 12 15 20 33 F9 (mR 0 20 35 F9 (R3 0 12 15 20 30)))))) (A4e 20)) (J6 9 18 0 (uT 9 20 (Z3 3 12 15 19 31 F9 (mR 3 19 33 F9 (R3 3 12 15 19 29))) (J6 9 31 32 (Z3 2 12 15 19 32 F9 (mR 2 19 34 F9 (R3 2 12 15 19 29))) (Z3 0 12 15 19 32 F9 (mR 0 19 34 F9 (R3 0 12 15 19 29))))) (A4e 19))) (F9)) F9)
def B7H{G}(A:I6 G):I8 prog G 123 [.s 9] RJ [.a [3,3,3,3,3,3,3,9],.s 8]:=by
 refine D0 (d:=60) B1z (cxg (C0b.2 A) .nil) A ⟨f123,_,func123,rfl⟩ C3 C3 ?_;intro us outs z;unfold RJ at z;split at z
 .skip;rename_i s;split at z
  .rename_i N;cases z;have F:=fun i=>B0G (evD s) i
   have C:=F 0;have D:=F 1;have E:=F 2;unfold evD at C D E;have I:(((s.getD (2:Int).toNat 0).toNat:Nat):Int)<256:=by have:=(s.getD (2:Int).toNat 0).toNat_lt;omega
   have M:(((s.getD (3:Int).toNat 0).toNat:Nat):Int)<256:=by have:=(s.getD (3:Int).toNat 0).toNat_lt;omega
   have K:((((s.getD (3:Int).toNat 0).toNat:Nat):Int)-32).tmod 4=((((s.getD (3:Int).toNat 0).toNat:Nat):Int)-32)%4∨(((s.getD (3:Int).toNat 0).toNat:Nat):Int)-32<0:=by
    by_cases h:0<=(((s.getD (3:Int).toNat 0).toNat:Nat):Int)-32
    .exact .inl (jK h)
    .exact .inr A0
   have J:(((s.getD (4:Int).toNat 0).toNat:Nat):Int)<256:=by have:=(s.getD (4:Int).toNat 0).toNat_lt;omega
   have L:(((s.getD (5:Int).toNat 0).toNat:Nat):Int)<256:=by have:=(s.getD (5:Int).toNat 0).toNat_lt;omega
   unfold B1z;refine w0 (.cons 0 _ (.nil)) ?_;repeat (first|refine w4 (fun g=>?_) fun g=>?_|refine w4B (fun g=>?_) fun g=>?_|(refine w7 [.int .i64 _,.int .i64 _,.int .i64 _,.int .i64 _,.int .i64 _,.int .i64 _,.int .i64 _,.str _,.bool _] ?_;rotate_left)|refine Y3 ?_|refine iD ?_|refine LQ ?_|refine w1 (.bin .rem) (e:=kV _ _ _ A0) (k':=?_)|refine PZ ?_|refine w1 (.bin .quo) (e:=nO _ _ _ A0) (k':=?_)|refine w31 oE (e:=MT _ _ _ _ _ _ _ _ ⟨A0,A0,by show(0:Int)<=_;omega⟩) (k':=?_)|refine w31 oD (e:=A0C _ _ _ _ _ _ _ _ _ (A0z (K2.1 ‹_›) rfl)) (k':=?_)|refine A26 ?_|refine oW ?_|refine iC ?_|refine VY ?_|refine CV ?_|refine V1 ?_|refine O0 ?_|refine bK ?_|refine m5 ?_|refine X1 ?_|refine w1 (.idx) (e:=nP _ _ _ A0 A0) (k':=?_)|refine R8 ?_|refine uX ?_|refine w1 (.sub) (e:=wU _ _ _ _ _ A0 A0 A0) (k':=?_)|refine w31 pE (e:=A3s _ _ _) (k':=?_)|refine AR ?_|refine W3 ?_|refine cB ?_|refine w32 DU (e:=A37 _) (k':=?_)|refine oX ?_)
   all_goals
    first
    | (have j:=A9O (B9E (A6R ‹_› ‹_›) ‹_›)
       rw[j];exact l9 rfl rfl rfl rfl rfl rfl rfl rfl rfl)
    | (have n:evG s=false:=(by first|exact A1A ‹_›|exact A0_ ‹_›)
       have j:evB s=false:=A9O (by first|exact A9e n ‹_›|exact B9C n ‹_›);rw[j];exact l9 rfl rfl rfl rfl rfl rfl rfl rfl rfl)
    | (exfalso;omega)
    | (first
       | (have n:evG s=true:=A6R ‹_› ‹_›
          have B:=B9D n ‹_›;obtain⟨f,p,o⟩:=B87 n;unfold evD at f o p)
       | (have n:evG s=false:=(by first|exact A1A ‹_›|exact A0_ ‹_›)
          have B:=B9B n ‹_› ‹_›;obtain⟨f,p,o⟩:=B9F n;unfold byA at f o p)
       have H:evG s=decide (byA s 2=60):=by first|exact n.trans (D3 ‹_›).symm|exact n.trans (C9 ‹_›).symm
       obtain⟨w,q⟩:∃ w,evW (evG s) (evN s) (mdL s)=w:=⟨_,rfl⟩;obtain⟨m,u⟩:∃ m,evM (evN s)=m:=⟨_,rfl⟩;obtain⟨b,y⟩:∃ b,evT (evN s)=b:=⟨_,rfl⟩;rw[f]at q u y;have f2:=q;rw[n]at f2;unfold evW at f2
       (repeat (first|rw[A3 A0]at f2|rw[A4 A0]at f2|rw[A4 (.inl ⟨rfl,by assumption⟩)]at f2|rw[A4 (.inr ⟨rfl,A0⟩)]at f2|rw[A3 (fun h=>h.elim (fun h=>absurd h.2 ‹_›) (fun h=>by cases h.1))]at f2|rw[A3 (fun h=>h.elim (fun h=>by cases h.1) (fun h=>by have:=h.2;omega))]at f2))
       have f5:=u;have f6:=y;unfold evM at f5;unfold evT at f6;first|rw[A4 A0]at f5 f6|rw[A3 A0]at f5 f6
       subst f2 f5 f6;first
       | (have j:=C2J f q o p u y ‹_›
          rw[j];exact l9 rfl rfl rfl rfl rfl rfl rfl rfl rfl)
       | (have j:=B81 H f q o p u y ‹_›
          rw[j];exact l9 rfl rfl rfl rfl rfl rfl rfl rfl rfl)
       | (have j:=B81 n f q o p u y ‹_›
          rw[j];exact l9 rfl rfl rfl rfl rfl rfl rfl rfl rfl)
       | (have j:=B8x B H f q o p u y ‹_› ‹_›
          rw[j];exact l9 rfl rfl (by rw[f];exact u.symm) (by rw[f];exact q.symm) (by rw[f];exact y.symm) o.symm p.symm rfl rfl)
       | (have j:=B8x B n f q o p u y ‹_› ‹_›
          rw[j];exact l9 rfl rfl (by rw[f];exact u.symm) (by rw[f];exact q.symm) (by rw[f];exact y.symm) o.symm p.symm rfl rfl)
)
  .cases z
 .cases z
end Go.Proofs.YtdimocjaepnifaaGreatDoor
