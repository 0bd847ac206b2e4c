import Derived.Test.YtbbicpheoakeeaaGreatDoorX12
import Derived.Lib.Bytealg
set_option linter.all false
set_option maxRecDepth 100000
set_option maxHeartbeats 4000000
namespace Go.Proofs.YtbbicpheoakeeaaGreatDoor
variable {p:Xt}{d i j m:Int}{c:UInt8}{b r t u:B2}{a:List B2}{g:Gt}{k:Nat}{acc:Option (List Gt)}{ws:List Int}
section
open Go Go.Sx Go.Proofs.Tryz
def dO(s:B2):Xt:=(1,kM (stp [83,45] 1 (stp [77,45] 2 (stp [67,45] 4 (s,0)))).1,(stp [83,45] 1 (stp [77,45] 2 (stp [67,45] 4 (s,0)))).2,0,0,0,0,[])
def kpO(s:B2):Xt:=if kyP (dO s)/\N7 (dO s)=s then dO s else X0
def kpE(s:B2):Int:=if kyP (dO s)/\N7 (dO s)=s then 0 else 6
def B0V{s:B2}{X:Xt}(f:dO s=X)(h1:kyP X)(e:¬N7 X≠s):kpO s=X/\kpE s=0:=by
 unfold kpO kpE;rw[f,A9 ⟨h1,D4.1 e⟩,A9 ⟨h1,D4.1 e⟩];exact⟨rfl,rfl⟩
def B0X{s:B2}{X:Xt}(e:dO s=X)(h1:¬kyP X):kpO s=X0/\kpE s=6:=by
 unfold kpO kpE;rw[e,A7 (fun k=>h1 k.1),A7 (fun k=>h1 k.1)];exact⟨rfl,rfl⟩
def B0W{s:B2}{X:Xt}(f:dO s=X)(e:N7 X≠s):kpO s=X0/\kpE s=6:=by
 unfold kpO kpE;rw[f,A7 (fun k=>e k.2),A7 (fun k=>e k.2)];exact⟨rfl,rfl⟩
def A8G{p s:B2}(v:Int)(h:¬2<=(s.length:Int)):stp p v (s,m)=(s,m):=A7 fun k=>h (by have:2<s.length:=k.1;omega)
def A8F{p s:B2}(v:Int)(h:¬List.take ((2:Int).toNat-(0:Int).toNat) (List.drop (0:Int).toNat s)=p):stp p v (s,m)=(s,m):=A7 fun k=>h k.2
def A8E{p s:B2}(v:Int)(h:List.drop (2:Int).toNat s=[]):stp p v (s,m)=(s,m):=A7 fun k=>by have:=E1 List.length h;rw[E7]at this;have h3:2<s.length:=k.1;simp at this;omega
def A8D{p s:B2}(v:Int)(h:¬¬List.take ((2:Int).toNat-(0:Int).toNat) (List.drop (0:Int).toNat s)=p)(e:¬List.drop (2:Int).toNat s=[]):stp p v (s,m)=(List.drop (2:Int).toNat s,m+v):=A9 ⟨by show 2<s.length;exact Nat.lt_of_not_le fun k=>e (S6 k),D4.1 h⟩
noncomputable def B2L:P0:=⟨_,fun e=>(.cons (B1W e) (.cons (A1x e) (.cons (SP e) .nil)))⟩
def rU:List U->Option (Nat×List U)
 | [.str s]=>if(s.length:Int)<=140737488351232 then some (0,[.int .i64 ((kpO s).1),.int .i64 ((kpO s).2.1),.int .i64 ((kpO s).2.2.1),.int .i64 ((kpO s).2.2.2.1),.int .i64 ((kpO s).2.2.2.2.1),.int .i64 ((kpO s).2.2.2.2.2.1),.int .i64 ((kpO s).2.2.2.2.2.2.1),.str ((kpO s).2.2.2.2.2.2.2),.int .i64 (kpE s)])else none
 | _=>none
def SG(s:B2)(e:(s.length:Int)<=140737488351232):rU [.str s]=some (0,[.int .i64 ((kpO s).1),.int .i64 ((kpO s).2.1),.int .i64 ((kpO s).2.2.1),.int .i64 ((kpO s).2.2.2.1),.int .i64 ((kpO s).2.2.2.2.1),.int .i64 ((kpO s).2.2.2.2.2.1),.int .i64 ((kpO s).2.2.2.2.2.2.1),.str ((kpO s).2.2.2.2.2.2.2),.int .i64 (kpE s)]):=A9 e
def R4:Tr:=.ret [jI 0,jI 0,jI 0,jI 0,jI 0,jI 0,jI 0,.string ⟨⟨[]⟩⟩,jI 6]
def cI(a0:Int)(e:Nat):Tr:=.ret [jI 1,h3 e,jI a0,jI 0,jI 0,jI 0,jI 0,.string ⟨⟨[]⟩⟩,jI 0]
def cJ(a0:Int)(e:Nat)(l f:Tr):Tr:=.fn kB [jI 1,h3 e,jI a0,jI 0,jI 0,jI 0,jI 0,.string ⟨⟨[]⟩⟩] 1<|aN [h (e+3) 9,h 0 9]<|.br (e+4) l f
def cK(a0:Int)(l:Nat)(a2:Nat)(f e:Tr):Tr:=.fn MV [h l 9] 1<|.fn sH [jI 1,h3 a2,jI a0,jI 0,jI 0,jI 0,jI 0,.string ⟨⟨[]⟩⟩] 1<|aX [h (a2+1) 8]<|.br (a2+2) f e
def PF(n:Nat):Tr:=cK 0 0 n R4 (cJ 0 n R4 (cI 0 n))
def fU(a0:Int)(l:Nat)(a2:Nat)(f e:Tr):Tr:=.lt 9 (.sub1) [h l 9,jI a0]<|aN [h a2 9,.string ⟨⟨[]⟩⟩]<|.br (a2+1) f e
def wU(a0:Nat)(e:Nat)(l f:Tr):Tr:=.lt 9 (.sub) [h a0 9,jI 0,jI 2]<|aE [h e 9,.string ⟨⟨[83,45]⟩⟩]<|aX [h (e+1) 8]<|.br (e+2) l f
def PE(n:Nat):Tr:=y9 2 0 n (wU 0 (n+2) (PF (n+5)) (fU 2 0 (n+5) (cK 1 (n+5) (n+7) R4 (cJ 1 (n+7) R4 (cI 1 (n+7)))) (PF (n+7)))) (PF (n+2))
def PD(n:Nat):Tr:=y9 2 0 n (.lt 9 (.sub) [h 0 9,jI 0,jI 2]<|aE [h (n+2) 9,.string ⟨⟨[77,45]⟩⟩]<|M5 (n+3) (n+4) (PE (n+5)) (fU 2 0 (n+5) (y9 2 (n+5) (n+7) (wU (n+5) (n+9) (cK 2 (n+5) (n+12) R4 (cJ 2 (n+12) R4 (cI 2 (n+12)))) (fU 2 (n+5) (n+12) (cK 3 (n+12) (n+14) R4 (cJ 3 (n+14) R4 (cI 3 (n+14)))) (cK 2 (n+5) (n+14) R4 (cJ 2 (n+14) R4 (cI 2 (n+14)))))) (cK 2 (n+5) (n+9) R4 (cJ 2 (n+9) R4 (cI 2 (n+9))))) (PE (n+7)))) (PE (n+2))
def PC(n:Nat):Tr:=cK 4 6 n R4 (cJ 4 n R4 (cI 4 n))
def PA(n:Nat):Tr:=y9 2 6 n (wU 6 (n+2) (PC (n+5)) (fU 2 6 (n+5) (cK 5 (n+5) (n+7) R4 (cJ 5 (n+7) R4 (cI 5 (n+7)))) (PC (n+7)))) (PC (n+2))
def OZ(n:Nat):Tr:=cK 6 13 n R4 (cJ 6 n R4 (cI 6 n))
def A6b:Tr:=y9 2 0 1 (.lt 9 (.sub) [h 0 9,jI 0,jI 2]<|aE [h 3 9,.string ⟨⟨[67,45]⟩⟩]<|M5 4 5 (PD 6) (fU 2 0 6 (y9 2 6 8 (.lt 9 (.sub) [h 6 9,jI 0,jI 2]<|aE [h 10 9,.string ⟨⟨[77,45]⟩⟩]<|M5 11 12 (PA 13) (fU 2 6 13 (y9 2 13 15 (wU 13 17 (OZ 20) (fU 2 13 20 (cK 7 20 22 R4 (cJ 7 22 R4 (cI 7 22))) (OZ 22))) (OZ 17)) (PA 15))) (PA 10)) (PD 8))) (PD 3)
def SH{G}(n:K3 G):L2 prog G 20 [.s 9] rU [.a [3,3,3,3,3,3,3,9],.s 3]:=by
 refine F2 (d:=60) A6b (cxg (B2L.2 n) .nil) n ⟨f20,_,func20,rfl⟩ C4 C4 ?_;intro us outs l;unfold rU at l;split at l
 .skip;rename_i s;split at l
  .rename_i o;cases l;unfold A6b;refine w0 (.cons 0 _ (.nil)) ?_;repeat (first|refine w4 (fun g=>?_) fun g=>?_|refine w4B (fun g=>?_) fun g=>?_|(refine w7 [.int .i64 _,.int .i64 _,.int .i64 _,.int .i64 _,.int .i64 _,.int .i64 _,.int .i64 _,.str _,.int .i64 _] ?_;rotate_left)|refine Z6 ?_|refine lD ?_|refine XQ ?_|refine w31 MV (e:=A4x _ (by first|omega|(simp only[E7];omega))) (k':=?_)|refine w31 sH (e:=HD _ _ _ _ _ _ _ _ ⟨F3,F3,WI (m:=140737488351232) rfl⟩) (k':=?_)|refine w31 kB (e:=xE _ _ _ _ _ _ _ _ (zQ (x:=(1,kM _,_,0,0,0,0,[])) (D4.1 ‹_›))) (k':=?_)|refine gS ?_|refine kU ?_|refine w1 (.sub) (e:=eA _ _ _ _ _ A2 A2 (by first|omega|(simp only[E7]at *;omega))) (k':=?_)|refine NX ?_|refine w1 (.sub1) (e:=nX _ _ _ A2 (by first|omega|(simp only[E7];omega))) (k':=?_))
   all_goals
    first
    | (exfalso;omega)
    | contradiction
    | (have f:dO s=dO s:=rfl
       conv at f=>rhs;unfold dO
       first|rw[A8G (p:=[67,45]) 4 ‹_›]at f|rw[A8F (p:=[67,45]) 4 ‹_›]at f|rw[A8E (p:=[67,45]) 4 (by first|assumption|exact D4.1 ‹_›)]at f|rw[A8D (p:=[67,45]) 4 ‹_› (by first|assumption|exact D4.1 ‹_›)]at f
       first|rw[A8G (p:=[77,45]) 2 ‹_›]at f|rw[A8F (p:=[77,45]) 2 ‹_›]at f|rw[A8E (p:=[77,45]) 2 (by first|assumption|exact D4.1 ‹_›)]at f|rw[A8D (p:=[77,45]) 2 ‹_› (by first|assumption|exact D4.1 ‹_›)]at f
       first|rw[A8G (p:=[83,45]) 1 ‹_›]at f|rw[A8F (p:=[83,45]) 1 ‹_›]at f|rw[A8E (p:=[83,45]) 1 (by first|assumption|exact D4.1 ‹_›)]at f|rw[A8D (p:=[83,45]) 1 ‹_› (by first|assumption|exact D4.1 ‹_›)]at f
       first
       | exact l9 (B0X f ‹_›).1 (B0X f ‹_›).2
       | exact l9 (B0W f ‹_›).1 (B0W f ‹_›).2
       | exact l9 (B0V f (D4.1 ‹_›) ‹_›).1 (B0V f (D4.1 ‹_›) ‹_›).2
)
  .cases l
 .cases l
def spl(c:UInt8):Nat->List B2->B2->Nat->List B2×B2×Nat
 | 0,a,s,i=>(a,s,i)
 | k+1,a,s,i=>if Lib.indexByte s c<0 then(a,s,i)else spl c k (a.set i (s.take (Lib.indexByte s c).toNat)) (s.drop ((Lib.indexByte s c).toNat+1)) (i+1)
def parts(s:B2)(c:UInt8):List B2 :=
 let n:=min (s.count c+1) (s.length+1)
 let r:=spl c (n-1) (List.replicate n []) s 0
 (r.1.set r.2.2 r.2.1).take (r.2.2+1)
def PZ:∀ {s:B2} {c:UInt8},0<=Lib.indexByte s c->s=s.take (Lib.indexByte s c).toNat++c::s.drop ((Lib.indexByte s c).toNat+1)/\(Lib.indexByte s c).toNat<s.length/\s.count c=(s.drop ((Lib.indexByte s c).toNat+1)).count c+1
 | [],c,h=>by simp[Lib.indexByte]at h
 | b::l,c,h=>by
   have n:=Lib.indexByte_ge l c;unfold Lib.indexByte at h ⊢;split at h
   .rename_i f;rw[A9 f]
    have:=eq_of_beq f;subst this;simp
   .rename_i f;split at h
    .omega
    .rename_i h1;have h1:¬Lib.indexByte l c = -1:=by simpa using h1
     have o:0<=Lib.indexByte l c:=A2;obtain⟨i1,i2,i3⟩:=PZ o;rw[A7 f,A7 (by simpa using h1)];have e:(Lib.indexByte l c+1).toNat=(Lib.indexByte l c).toNat+1:=A2;rw[e];refine⟨?_,?_,?_⟩
     .rw[List.take_succ_cons,List.drop_succ_cons,T4,<- i1]
     .rw[C8];omega
     .rw[List.drop_succ_cons,List.count_cons_of_ne (by simpa using f),i3]
def A1y:∀ {s:B2} {c:UInt8},Lib.indexByte s c<0->s.count c=0
 | [],_,_=>rfl
 | b::l,c,h=>by
   have f:=Lib.indexByte_ge l c;unfold Lib.indexByte at h;split at h
   .omega
   .rename_i e;split at h
    .rename_i h1;have h1:Lib.indexByte l c = -1:=by simpa using h1
     rw[List.count_cons_of_ne (by simpa using e),A1y A2]
    .omega
def P4(c:UInt8)(l:List B2):B2:=l.flatMap fun p=>p++[c]
def RE{c:UInt8}:∀ (k:Nat) (a:List B2) (s:B2) (i:Nat),s.count c=k->i+k<a.length->∃ P t,spl c k a s i=(a.take i++P++a.drop (i+k),t,i+k)/\P.length=k/\s=P4 c P++t
 | 0,a,s,i,_,h2=>⟨[],s,by simp[spl],rfl,by simp[P4]⟩
 | k+1,a,s,i,h1,h2=>by
   have hi:0<=Lib.indexByte s c:=by
    by_cases h:Lib.indexByte s c<0
    .have:=A1y h;omega
    .omega
   obtain⟨n,w,v⟩:=PZ hi;unfold spl;rw[A7 A2];obtain⟨P,t,e,f,o⟩:=RE (c:=c) k (a.set i (s.take (Lib.indexByte s c).toNat)) (s.drop ((Lib.indexByte s c).toNat+1)) (i+1) A2 (by rw[Q0];omega);refine⟨s.take (Lib.indexByte s c).toNat::P,t,?_,by rw[C8,f],?_⟩
   .rw[e];refine Prod.ext ?_ (Prod.ext rfl (by show i+1+k=i+(k+1);omega));show(a.set i _).take (i+1)++P++(a.set i _).drop (i+1+k)=a.take i++(_::P)++a.drop (i+(k+1));have l:i<a.length:=A2;rw[List.drop_set_of_lt A2,show i+1+k=i+(k+1) by omega,List.take_add_one,List.take_set_of_le (A6 _),S5 l];simp
   .have q:s=s.take (Lib.indexByte s c).toNat++c::(P4 c P++t):=by rw[<- o];exact n
    have:P4 c (s.take (Lib.indexByte s c).toNat::P)++t=s.take (Lib.indexByte s c).toNat++c::(P4 c P++t):=by simp[P4]
    rw[this];exact q
def tL(s:B2)(c:UInt8):∃ P t,parts s c=P++[t]/\P.length=s.count c/\s=P4 c P++t:=by
 have q:s.count c<=s.length:=dG;obtain⟨P,t,f,e,o⟩:=RE (c:=c) (s.count c) (List.replicate (s.count c+1) []) s 0 rfl (by simp);refine⟨P,t,?_,e,o⟩;have hm:min (s.count c+1) (s.length+1)=s.count c+1:=A2;unfold parts;simp only[hm,Nat.add_sub_cancel];rw[f];have l:(List.replicate (s.count c+1) ([]:B2)).drop (0+s.count c)=[[]]:=by
  rw[List.drop_replicate];simp
 rw[l];simp only[List.take_zero,H1,F7];rw[<- e,List.set_append_right _ _ (A6 _)];have n:(P++[[]].set (P.length-P.length) t:List B2)=P++[t]:=by simp
 rw[n];exact bL (by simp)
def eqC(c b:UInt8):Bool:=decide (b=c)
def B1I{b:UInt8}(h:b=c):eqC c b=true:=J9 h
def B1J{b:UInt8}(h:¬b=c):eqC c b=false:=E5 h
def fx(c:UInt8)(s:B2):Option Int:=I9 (eqC c) s 0
def A14:∀ (s:B2) (c:UInt8) (i:Int),I9 (eqC c) s i=if Lib.indexByte s c = -1 then none else some (i+Lib.indexByte s c)
 | [],_,_=>rfl
 | b::l,c,i=>by
   have n:=Lib.indexByte_ge l c;show(if eqC c b=true then some i else I9 (eqC c) l (i+1))=_;by_cases e:b=c
   .have f:Lib.indexByte (b::l) c=0:=by rw[Lib.indexByte,A9 (beq_iff_eq.2 e)]
    rw[A9 (B1I e),f,A7 F3];simp
   .rw[A7 (by rw[B1J e];decide),A14 l c (i+1)];by_cases k:Lib.indexByte l c = -1
    .have f:Lib.indexByte (b::l) c = -1:=by rw[Lib.indexByte,A7 (by simpa using e),k];rfl
     rw[A9 k,f,A9 rfl]
    .have f:Lib.indexByte (b::l) c=Lib.indexByte l c+1:=by rw[Lib.indexByte,A7 (by simpa using e),A7 (by simpa using k)]
     rw[A7 k,f,A7 A2];congr 1;omega
def B31{s:B2}(h:Lib.indexByte s c<0):fx c s=none:=by
 have e:=Lib.indexByte_ge s c;unfold fx;rw[A14,A9 A2]
def B30{s:B2}(h:¬Lib.indexByte s c<0):fx c s=some (Lib.indexByte s c):=by
 have e:=Lib.indexByte_ge s c;unfold fx;rw[A14,A7 A2,Int.zero_add]
def sp(c:UInt8):B2->List B2
 | []=>[[]]
 | b::l=>if b=c then[]::sp c l else match sp c l with
   | x::r=>(b::x)::r
   | []=>[[b]]
def A5T{c:UInt8}:∀ {u:B2},(∀ x ∈ u,x≠c)->sp c u=[u]
 | [],_=>rfl
 | b::u,h=>by
   unfold sp;rw[A7 (h b (B5 ..)),A5T fun x hx=>h x (C5 _ hx)]
def YJ{c:UInt8}:∀ {u v:B2},(∀ x ∈ u,x≠c)->sp c (u++c::v)=u::sp c v
 | [],v,_=>by
   show(if c=c then[]::sp c v else _)=_;rw[A9 rfl]
 | b::u,v,h=>by
   show sp c (b::(u++c::v))=_;unfold sp;rw[A7 (h b (B5 ..)),YJ fun x hx=>h x (C5 _ hx)];cases v<;>rfl
def JM{c:UInt8}:∀ {P:List B2} {t:B2},(∀ p ∈ P,∀ x ∈ p,x≠c)->(∀ x ∈ t,x≠c)->sp c (P4 c P++t)=P++[t]
 | [],t,_,h=>A5T h
 | p::P,t,h1,h=>by
   have e:P4 c (p::P)++t=p++c::(P4 c P++t):=by simp[P4]
   rw[e,YJ (h1 p (B5 ..)),JM (fun q f=>h1 q (C5 _ f)) h];rfl
def WT :∀ {P:List B2} {t:B2},(P4 c P++t).count c=P.length->(∀ p ∈ P,∀ x ∈ p,x≠c)/\(∀ x ∈ t,x≠c)
 | P,t,h=>by
   have k:∀ (P:List B2),(P4 c P).count c=P.length+(P.map (List.count c)).sum:=by
    intro P;induction P with
    | nil=>rfl
    | cons p P f =>
      have e:P4 c (p::P)=p++(c::P4 c P):=by simp[P4]
      rw[e,List.count_append,List.count_cons_self,f,C8,C3,List.sum_cons];omega
   rw[List.count_append,k]at h;have o:(P.map (List.count c)).sum=0:=A2;have n:t.count c=0:=A2;refine⟨fun p hp x hx e=>?_,fun x hx e=>?_⟩
   .have:List.count c p<=(P.map (List.count c)).sum:=by
     have:∀ {l:List B2},p ∈ l->List.count c p<=(l.map (List.count c)).sum:=by
      intro l;induction l with
      | nil=>intro h;cases h
      | cons q l f =>
        intro h;rw[C3,List.sum_cons];rcases B6.1 h with rfl|h
        .omega
        .have:=f h;omega
     exact this hp
    have:0<List.count c p:=List.count_pos_iff.2 (e▸hx);omega
   .have:0<List.count c t:=List.count_pos_iff.2 (e▸hx);omega
def zC(s:B2)(c:UInt8):parts s c=sp c s:=by
 obtain⟨P,t,h1,f,h3⟩:=tL s c;have l:(P4 c P++t).count c=P.length:=by rw[<- h3];exact f.symm
 obtain⟨e,n⟩:=WT l;rw[h1,h3,JM e n]
def YI(s:B2)(c:UInt8):(sp c s).length=s.count c+1:=by
 rw[<- zC];obtain⟨P,t,h1,e,h3⟩:=tL s c;rw[h1,B4,e];rfl
def YH{s p:B2}(h:p ∈ sp c s):p.length<=s.length:=by
 rw[<- zC]at h;obtain⟨P,t,h1,l,h3⟩:=tL s c;rw[h1]at h;rw[h3,B4];have k:∀ {P:List B2},p ∈ P->p.length<=(P4 c P).length:=by
  intro P;induction P with
  | nil=>intro h;cases h
  | cons q P f =>
    intro h;have e:P4 c (q::P)=q++(c::P4 c P):=by simp[P4]
    rw[e,B4,C8];rcases B6.1 h with rfl|h
    .omega
    .have:=f h;omega
 rcases B8.1 h with h|h
 .have:=k h;omega
 .obtain rfl:=M7.1 h;omega
def HM{α:Type}{p:α->Bool}:∀ {l:List α} {i:Int},(∀ a ∈ l,p a=false)->I9 p l i=none
 | [],_,_=>rfl
 | a::l,i,h=>by
   unfold I9;rw[h a (B5 ..)];exact HM fun b e=>h b (C5 _ e)
def bsF(b:B2):Prop:=b≠[]/\(b.length<=2∨b.getD 1 0≠45)
def A8z(c:Int):4<=(w9 c).length:=by
 unfold w9
 (repeat' split)<;>exact A1 rfl
def B4G{c:Int}(h:cR c):bsF (v7 c):=by
 unfold cR at h;by_cases h1:1114113<=c
 .rw[A42 h1];have k:∀ n:Nat,n<26->(nmL.getD n [])≠[]/\((nmL.getD n []).length<=2∨(nmL.getD n []).getD 1 0≠45):=F3;exact k _ A2
 .by_cases e:c=32
  .rw[A43 e];exact⟨F3,.inr F3⟩
  .by_cases h3:c<=126
   .rw[A44 h1 e h3];exact⟨by simp,.inl (by simp)⟩
   .rw[NG h1 e h3];exact⟨by simp,.inr (by show(43:UInt8)≠45;decide)⟩
def wG(a v:_)(m:Int)(h:r≠[]):stp [a,45] v ([a,45]++r,m)=(r,m+v):=by
 unfold stp;rw[A9]
 .rfl
 .refine⟨?_,rfl⟩;show 2<([a,45]++r).length;rw[B4]
  have:=dS.2 h;show 2<2+_;omega
def YC{a b:UInt8}(v m:Int)(h:b≠a):stp [a,45] v ([b,45]++r,m)=([b,45]++r,m):=by
 unfold stp;rw[A7];intro k
 have:=k.2;exact h (by injection this)
def OE{a:UInt8}(v m:Int)(h:bsF r):stp [a,45] v (r,m)=(r,m):=by
 unfold stp;rw[A7];intro ⟨f,e⟩;have f:2<r.length:=f;rcases h.2 with h|h
 .omega
 .match r,f,e,h with
  | x::y::l,_,e,h =>
    have e:[x,y]=[a,45]:=e;injection e with _ e
    injection e with e
    exact h e
def mdP(n:Int)(a:UInt8):B2:=if n=0 then[]else[a,45]
def PL(a:UInt8):mdP 0 a=[]:=A9 rfl
def A4B(a:UInt8):mdP 1 a=[a,45]:=A7 F3
def A4A(a:UInt8):mdP 2 a=[a,45]:=A7 F3
def A3_(a:UInt8):mdP 4 a=[a,45]:=A7 F3
def B28{x y z:Int}(hx:x=0∨x=4)(f:y=0∨y=2)(l:z=0∨z=1)(h:bsF b):stp [83,45] 1 (stp [77,45] 2 (stp [67,45] 4 (mdP x 67++(mdP y 77++(mdP z 83++b)),0)))=(b,x+y+z):=by
 have e:=h.1;rcases hx with rfl|rfl<;>rcases f with rfl|rfl<;>rcases l with rfl|rfl
 .simp only[PL,H1];rw[OE _ _ h,OE _ _ h,OE _ _ h];first|done|rfl
 .simp only[PL,A4B,H1];rw[YC _ _ F3,YC _ _ F3,wG _ _ _ e];first|done|rfl
 .simp only[PL,A4A,H1];rw[YC _ _ F3,wG _ _ _ e,OE _ _ h];first|done|rfl
 .simp only[PL,A4A,A4B,H1];rw[YC _ _ F3,wG _ _ _ (by simp),wG _ _ _ e];first|done|rfl
 .simp only[A3_,PL,H1];rw[wG _ _ _ e,OE _ _ h,OE _ _ h];first|done|rfl
 .simp only[A3_,PL,A4B,H1];rw[wG _ _ _ (by simp),YC _ _ F3,wG _ _ _ e];first|done|rfl
 .simp only[A3_,A4A,PL,H1];rw[wG _ _ _ (by simp),wG _ _ _ e,OE _ _ h];first|done|rfl
 .simp only[A3_,A4A,A4B];rw[wG _ _ _ (by simp),wG _ _ _ (by simp),wG _ _ _ e];first|done|rfl
def B01(h0:0<=d)(h1:d<16):hD (hU d)=d/\hv ((hU d).toNat:Int)=d:=by
 have k:∀ n:Nat,n<16->hD (hU n)=n/\hv ((hU n).toNat:Int)=n:=F3
 have:=k d.toNat A2
 rwa[show((d.toNat:Nat):Int)=d by omega]at this
def B3z{n:Int}{l:B2}(h0:0<=d)(h1:d<16):hR (hU d::l) n=hR l (16*n+d):=by
 show(if hD (hU d)<0 then none else hR l (16*n+hD (hU d)))=_;rw[(B01 h0 h1).1,A7 A2]
def B3N{n:Int}{l:List Int}(h0:0<=d)(h1:d<16):pu (((hU d).toNat:Int)::l) n=pu l (n*16+d):=by
 show(if hv _<0 then none else pu l (n*16+hv _))=_;rw[(B01 h0 h1).2,A7 A2]
def B0z{c:Int}(h0:0<=c)(h1:c<16777216):hR (w9 c) 0=some c:=by
 unfold w9
 (repeat' split)<;>(repeat rw[B3z A2 A2])<;>exact E1 some A2
def B00{c:Int}(h0:0<=c)(h1:c<16777216):pu (bI (w9 c)) 0=some c:=by
 unfold w9
 (repeat' split)<;>(unfold bI;simp only[C3,F8])<;>(repeat rw[B3N A2 A2])<;>exact E1 some A2
def B3i(h:b.length=1):I9 (niF b) nmL 0=none:=HM fun a f=>A08 fun e=>by
 have k:∀ a ∈ nmL,a.length≠1:=F3;exact k a f (by rw[e,h])
def B0L :I9 (niF ([85,43]++b)) nmL 0=none:=HM fun a f=>A08 fun e=>by
 have k:∀ a ∈ nmL,a.getD 1 0≠43:=F3;exact k a f (by rw[e];rfl)
def B3h:∀ n:Nat,n<26->I9 (niF (nmL.getD n [])) nmL 0=some (n:Int):=by
 have k:((List.range 26).all fun n=>decide (I9 (niF (nmL.getD n [])) nmL 0=some (n:Int)))=true:=C4;exact fun n e=>I5 (D7.1 k n (X4.2 e))
def A9U{c:Int}(h:cR c):ER (v7 c)=c/\kM (v7 c)=c:=by
 unfold cR at h;by_cases h1:1114113<=c
 .rw[A42 h1]
  have:=B3h (c-1114113).toNat A2;rw[B34 this,B1U this];omega
 .by_cases l:c=32
  .rw[A43 l,l];decide
  .by_cases h3:c<=126
   .rw[A44 h1 l h3];have k:=B3i (b:=[UInt8.ofNat c.toNat]) rfl;have e:(((([UInt8.ofNat c.toNat]:B2).getD 0 0)).toNat:Int)=c:=by
     show((UInt8.ofNat c.toNat).toNat:Int)=c;rw[UInt8.toNat_ofNat',g7 A2];omega
    have f:¬[UInt8.ofNat c.toNat]=([83,112,97,99,101]:B2):=fun e=>by have e:=E1 List.length e;simp at e
    have o:([UInt8.ofNat c.toNat]:B2).length=1:=rfl;refine⟨?_,?_⟩
    .rw[B1T k,A7 f,A9 o];exact e
    .rw[WQ k,A7 f,A9 o];exact e
   .rw[NG h1 l h3];have n:=A8z c;have q:=HE c;have l2:(([85,43]++w9 c:B2)).length=2+(w9 c).length:=by rw[B4];rfl
    have f:¬([85,43]++w9 c:B2)=[83,112,97,99,101]:=fun e=>by cases e
    refine⟨?_,?_⟩
    .rw[B1T B0L,A7 f,A7 A2,A7 fun k=>k.elim A2 fun k=>k.elim A2 fun k=>k rfl];show(hR (w9 c) 0).getD (-1)=c;rw[B0z A2 A2];rfl
    .rw[WQ B0L,A7 f,A7 A2,A9 ⟨rfl,A2⟩];show puB (w9 c)=c;rw[A0g (fun e=>by rw[e]at n;exact absurd n F3),B00 A2 A2];rfl
def TC{x:Xt}(h:kyP x):x=(1,x.2.1,x.2.2.1,0,0,0,0,[])/\0<=x.2.2.1/\x.2.2.1<=7:=by
 obtain⟨k,c,m,w,b,r,cl,t⟩:=x;obtain⟨h1,e⟩:=h;have h1:k=1:=h1;have e:Y1 k c m w b r cl t:=e;unfold Y1 at e;rcases e with e|e|e|e
 .obtain⟨_,rfl,rfl,rfl,rfl,rfl,f⟩:=e;subst h1;refine⟨rfl,?_⟩;show 0<=m/\m<=7;unfold v8 at f;omega
 .omega
 .omega
 .omega
def A2r{x:Xt}(h:kyP x):kN (N7 x)=x/\dO (N7 x)=x:=by
 obtain⟨e,h0,s⟩:=TC h;have f:=zQ h;have q:=B4G f;have l:=A9U f;have n:N7 x=mdP (x.2.2.1 / 4%2*4) 67++(mdP (x.2.2.1 / 2%2*2) 77++(mdP (x.2.2.1 / 1%2*1) 83++v7 x.2.1)):=rfl;have o:=B28 (b:=v7 x.2.1) (x:=x.2.2.1 / 4%2*4) (y:=x.2.2.1 / 2%2*2) (z:=x.2.2.1 / 1%2*1) A2 A2 A2 q;unfold kN dO;rw[n,o,l.1,l.2,show x.2.2.1 / 4%2*4+x.2.2.1 / 2%2*2+x.2.2.1 / 1%2*1=x.2.2.1 by omega];exact⟨e.symm,e.symm⟩
def zR(s:B2):kpO s=zT s/\kpE s=CG s:=by
 by_cases h:kyP (kN s)/\N7 (kN s)=s
 .have e:dO s=kN s:=by
   have:=(A2r h.1).2
   rwa[h.2]at this
  unfold kpO kpE zT CG;rw[e,A9 h,A9 h];exact⟨rfl,rfl⟩
 .have f:¬(kyP (dO s)/\N7 (dO s)=s):=fun k=>h (by
   have:=(A2r k.1).1;rw[k.2]at this;rw[this];exact k)
  unfold kpO kpE zT CG;rw[A7 h,A7 f,A7 h,A7 f];exact⟨rfl,rfl⟩
def nmB(l:B2):Prop:=∀ b ∈ l,33<=b.toNat/\b.toNat<=126
def A35(x:Xt):N7 x=mdP (x.2.2.1 / 4%2*4) 67++(mdP (x.2.2.1 / 2%2*2) 77++(mdP (x.2.2.1 / 1%2*1) 83++v7 x.2.1)):=rfl
def W6(x:Xt):(N7 x).length<=14:=by
 rw[A35];have k:∀ n a,(mdP n a).length<=2:=fun n a=>by
  unfold mdP;split
  .decide
  .exact A6 _
 have e:=k (x.2.2.1 / 4%2*4) 67;have o:=k (x.2.2.1 / 2%2*2) 77;have f:=k (x.2.2.1 / 1%2*1) 83;have l:=QL x.2.1;simp only[B4];omega
def lnF(g:Gt):B2:=(if gR g=true then[45,114,32]else[])++(N7 (gK g)++32::gC g)
def prB(g:Gt):B2:=[98,105,110,100,32]++lnF g
def prP(x:Xt):B2:=[112,114,101,102,105,120,32]++N7 x
def OY(x:Xt)(l:List Gt):B2:=P4 10 (prP x::l.map prB)
def GF(x:Xt)(l:List Gt):B2:=if kmP x l then OY x l else[]
def A0j{x:Xt}{l:List Gt}(h:kmP x l):GF x l=OY x l:=A9 h
def A0k{x:Xt}{l:List Gt}(h:¬kmP x l):GF x l=[]:=A7 h
def SX(h:gP g):(lnF g).length<=118:=by
 have h1:=W6 (gK g);have e:=h.2.2.1;unfold lnF;rw[B4,B4,C8];split
 .show 3+_<=_;omega
 .show 0+_<=_;omega
def nT(c:UInt8)(p:B2)(l:List B2):P4 c (p::l)=p++c::P4 c l:=by simp[P4]
def A3w(g:Gt):(prB g).length=5+(lnF g).length:=by
 unfold prB;rw[B4];rfl
def A3v(x:Xt):(prP x).length=7+(N7 x).length:=by
 unfold prP;rw[B4];rfl
def A1e:∀ {l:List Gt},(∀ g ∈ l,gP g)->(P4 10 (l.map prB)).length<=124*l.length
 | [],_=>by decide
 | g::l,h=>by
   have h1:=SX (h g (B5 ..));have e:=A1e fun x hx=>h x (C5 _ hx)
   rw[C3,nT,B4,C8,C8,A3w];omega
def A3u{x:Xt}{l:List Gt}(h:kmP x l):(OY x l).length<=8000:=by
 have h1:=A1e h.2.2.1;have e:=h.2.1;have h3:=W6 x;unfold OY;rw[nT,B4,C8,A3v];omega
def R2(s:B2):B2×B2×Bool:=match fx 32 s with
 | some j=>(s.take j.toNat,s.drop (j+1).toNat,true)
 | none=>(s,[],false)
def A9Q{s:B2}(h:fx 32 s=some j):R2 s=(s.take j.toNat,s.drop (j+1).toNat,true):=by unfold R2;rw[h]
def A9R{s:B2}(h:fx 32 s=none):R2 s=(s,[],false):=by unfold R2;rw[h]
def bnR(s:B2):Bool:=decide (s.take 3=[45,114,32]/\3<s.length)
def bnA(s:B2):B2:=if bnR s=true then s.drop 3 else s
def mkG(x:Xt)(c:B2)(r:Bool):Gt:=(x.1,x.2.1,x.2.2.1,x.2.2.2.1,x.2.2.2.2.1,x.2.2.2.2.2.1,x.2.2.2.2.2.2.1,x.2.2.2.2.2.2.2,c,r)
def bnG(s:B2):Gt:=mkG (zT (R2 (bnA s)).1) (R2 (bnA s)).2.1 (bnR s)
def bnP(s:B2):Prop:=(R2 (bnA s)).2.2=true/\CG (R2 (bnA s)).1=0/\(R2 (bnA s)).2.1≠[]
instance(s:B2):Decidable (bnP s):=by unfold bnP;infer_instance
def lnP(s:B2):Prop:=s.take 5=[98,105,110,100,32]/\bnP (s.drop 5)
instance(s:B2):Decidable (lnP s):=by unfold lnP;infer_instance
def mA(s:B2):Bool:=!decide (lnP s)
def lnG(s:B2):Gt:=bnG (s.drop 5)
def A8p{s:B2}(h:lnP s):mA s=false:=by unfold mA;rw[J9 h];rfl
def PQ{s:B2}(h:¬lnP s):mA s=true:=by unfold mA;rw[E5 h];rfl
def rok:List B2->Bool
 | []=>false
 | [l]=>decide (l=[])
 | l::m::r=>!mA l && rok (m::r)
def rgs(l:List B2):List Gt:=l.dropLast.map lnG
def hdP(s:B2):Prop:=s.take 7=[112,114,101,102,105,120,32]/\CG (s.drop 7)=0
instance(s:B2):Decidable (hdP s):=by unfold hdP;infer_instance
def psP(l:List B2):Prop:=hdP (l.headD [])/\rok l.tail=true
instance(l:List B2):Decidable (psP l):=by unfold psP;infer_instance
def psX(s:B2):Xt:=zT (((sp 10 s).headD []).drop 7)
def psL(s:B2):Option (List Gt):=M9 none (some (rgs (sp 10 s).tail))
def prE(s:B2):Int:=if 16384<s.length then 3 else if ¬psP (sp 10 s)then 6 else iM (psX s) (el (psL s))
def prX(s:B2):Xt:=if prE s=0 then psX s else X0
def prL(s:B2):Option (List Gt):=if prE s=0 then psL s else none
def B3T{s:B2}(h:16384<s.length):prE s=3:=A9 h
def VX{s:B2}(h:¬16384<s.length)(e:¬psP (sp 10 s)):prE s=6:=by unfold prE;rw[A7 h,A9 e]
def B3S{s:B2}(h:¬16384<s.length)(e:psP (sp 10 s)):prE s=iM (psX s) (el (psL s)):=by unfold prE;rw[A7 h,A7 fun k=>k e]
def B0C{s:B2}(h:prE s≠0):prX s=X0/\prL s=none:=⟨A7 h,A7 h⟩
def B0B{s:B2}(h:prE s=0):prX s=psX s/\prL s=psL s:=⟨A9 h,A9 h⟩
def A9z{l:B2}{r:List B2}(h:r≠[]):rok (l::r)=(!mA l && rok r):=by
 cases r with
 | nil=>exact absurd rfl h
 | cons m r=>rfl
def RO:∀ {l:List B2},rok l=true↔l.getLast? = some []/\l.dropLast.any mA=false
 | []=>by simp[rok]
 | [l]=>by simp[rok]
 | l::m::r=>by
   rw[A9z (by simp),G9,RO (l:=m::r),List.dropLast_cons₂,Q9,List.getLast?_cons_cons];cases mA l<;>simp
def l2s{a:B2}{c:Int}(h:a=b)(k:c=d):[U.str a,U.int .i64 c]=[U.str b,U.int .i64 d]:=by subst h k;rfl
def B0p{l:List Gt}(h0:0<=i)(h1:i<(l.length:Int)):P4 10 ((l.drop i.toNat).map prB)=(prB (l.getD i.toNat default)++[10])++P4 10 ((l.drop (i+1).toNat).map prB):=by
 rw[R6 l h0 h1,C3,nT];simp
def B0q{l:List Gt}(h1:(l.length:Int)<=i):P4 10 ((l.drop i.toNat).map prB)=[]:=by
 rw[bC l h1];rfl
def B3f(h:gR g=true):(el (some [[98,105,110,100,32],[45,114,32],N7 (gK g),[32],gC g,[10]])).flatten=prB g++[10]:=by
 unfold prB lnF;rw[h,A9 rfl];simp[K6]
def B3g(h:gR g=false):(el (some [[98,105,110,100,32],[],N7 (gK g),[32],gC g,[10]])).flatten=prB g++[10]:=by
 unfold prB lnF;rw[h,A7 F3];simp[K6]
def A3x{x:Xt}:(el (some [[112,114,101,102,105,120,32],N7 x,[10]])).flatten=prP x++[10]:=by
 unfold prP;simp[K6]
def B3x{f c:B2}{x:Xt}(l:f.length<=3)(e:c.length<=100):((el (some [[98,105,110,100,32],f,N7 x,[32],c,[10]])).length:Int)<=1000000/\((el (some [[98,105,110,100,32],f,N7 x,[32],c,[10]])).flatten.length:Int)<=1000000000:=by
 have:=W6 x;refine⟨WI (m:=1000000) rfl,?_⟩;simp only[K6,L3,S9,L7,B4,C8,J7];omega
def B3w{f c:B2}{x:Xt}{b:tF}(n:f.length<=3)(l:c.length<=100)(e:((el b).length:Int)<=1000000):(el b).length+((el (some [[98,105,110,100,32],f,N7 x,[32],c,[10]])).flatten).length<=1000000000:=by
 have:=W6 x;simp only[K6,L3,S9,L7,B4,C8,J7];omega
def B3y{x:Xt}:((el (some [[112,114,101,102,105,120,32],N7 x,[10]])).length:Int)<=1000000/\((el (some [[112,114,101,102,105,120,32],N7 x,[10]])).flatten.length:Int)<=1000000000:=by
 have:=W6 x;refine⟨WI (m:=1000000) rfl,?_⟩;simp only[K6,L3,S9,L7,B4,C8,J7];omega
def A0w(h:gP g):(prB g++[10]).length<=124:=by
 have:=SX h;unfold prB;rw[B4,B4];show 5+_+1<=_;omega
def A2q(h:1<=u.length):M9 none (some (bI u))=some (bI u):=by
 cases u with
 | nil=>simp at h
 | cons a r=>rfl
def A1z(u:B2):iB (bI u)=u:=by
 unfold iB bI;rw[jX];induction u with
 | nil=>rfl
 | cons a u e=>rw[C3,e];simp
noncomputable def B2J:P0:=⟨_,fun e=>(.cons (DW e) (.cons (SP e) (.cons (LO e) .nil)))⟩
def rO:List U->Option (Nat×List U)
 | [u_l,.int .i64 n,.int .i64 i,u_b]=>(L8 rG u_l).bind fun l=>(L8 rB u_b).bind fun b=>if n=((el l).length:Int)/\0<=i/\i<=n/\n<=64/\((el b).length:Int)+124*(n-i)<=1000000/\(∀ g ∈ el l,gP g)then some (0,[D8 rB (M9 b (some (bI (P4 10 (((el l).drop i.toNat).map prB)))))])else none
 | _=>none
def xD(l:(Option (List (Int×Int×Int×Int×Int×Int×Int×B2×B2×Bool))))(n:Int)(i:Int)(b:tF)(e:n=((el l).length:Int)/\0<=i/\i<=n/\n<=64/\((el b).length:Int)+124*(n-i)<=1000000/\(∀ g ∈ el l,gP g)):rO [D8 rG l,.int .i64 n,.int .i64 i,D8 rB b]=some (0,[D8 rB (M9 b (some (bI (P4 10 (((el l).drop i.toNat).map prB)))))]):=by
 simp only[rO,G5,D9];exact A9 e
def A6V:R7:=⟨[(5,.pointer (some ⟨18,0,none⟩)),(21,dat 22 0 20),(22,h 1 3),(23,h 2 3)],[(18,.cells 103 [.pointer (some ⟨18,0,none⟩),own 23 3 11]),(23,.sq 3 11 5 24),(22,.frz),(24,.frz)],4,[⟨.exit 0,[(5,.pointer (some ⟨18,0,none⟩))],[(18,.cells 103 [.pointer (some ⟨18,0,none⟩),own 25 0 11]),(25,.sq 0 11 5 26),(26,.frz)],1⟩]⟩
noncomputable def A0o:Code:=(f27.body).getD .skip
noncomputable def A6R:Code:=match G7 [true,true,true,true,false,true,false] A0o with|some (.loop x)=>x|_=>.skip
def A6U:f27.body=some A0o:=rfl
def A6T:G7 [true,true,true,true,false,true,false] A0o=some (.loop A6R):=C4
def A0l(n:Nat):Tr:=.fn aV [h 17 11] 1<|.dt 11 (.cats) [h 3 11,h n 9]<|aD [h n 9]<|aA [h3 2,jI 1]<|.ret [jI (-1),h 0 20,h3 1,h3 (n+3),h (n+1) 11]
def A6S:Tr:=Q8 2 1 4 (Z1 0 2 5 (.lt 3 (.get 10 0) [h 0 20,h3 2]<|.lt 3 (.get 10 1) [h 0 20,h3 2]<|.lt 3 (.get 10 2) [h 0 20,h3 2]<|.lt 3 (.get 10 3) [h 0 20,h3 2]<|.lt 3 (.get 10 4) [h 0 20,h3 2]<|.lt 3 (.get 10 5) [h 0 20,h3 2]<|.lt 3 (.get 10 6) [h 0 20,h3 2]<|.lt 9 (.get 10 7) [h 0 20,h3 2]<|.lt 9 (.get 10 8) [h 0 20,h3 2]<|.lt 8 (.get 10 9) [h 0 20,h3 2]<|.br 15 (.fn kB [h3 6,h3 7,h3 8,h3 9,h3 10,h3 11,h3 12,h 13 9] 1<|.dt 11 (.mk 1) [.string ⟨⟨[98,105,110,100,32]⟩⟩,.string ⟨⟨[45,114,32]⟩⟩,h 16 9,.string ⟨⟨[32]⟩⟩,h 14 9,.string ⟨⟨[10]⟩⟩]<|A0l 18) (.fn kB [h3 6,h3 7,h3 8,h3 9,h3 10,h3 11,h3 12,h 13 9] 1<|.dt 11 (.mk 1) [.string ⟨⟨[98,105,110,100,32]⟩⟩,.string ⟨⟨[]⟩⟩,h 16 9,.string ⟨⟨[32]⟩⟩,h 14 9,.string ⟨⟨[10]⟩⟩]<|A0l 18))) (.ret [jI 0,h 3 11])
def A0n:List U->Nat
 | [u_l,.int .i64 n,.int .i64 i,u_b]=>(match L8 rG u_l with|some l=>(match L8 rB u_b with|some b=>(n-i).toNat|none=>0)|none=>0)
 | _=>0
def A0m(l:(Option (List (Int×Int×Int×Int×Int×Int×Int×B2×B2×Bool))))(n:Int)(i:Int)(b:tF):A0n [D8 rG l,.int .i64 n,.int .i64 i,D8 rB b]=(n-i).toNat:=by
 simp only[A0n,G5]
def B0A{G}(w:K3 G):∀ (E:Nat->U) (base:Nat),@Q5 ⟨E,G⟩ prog base gl f27.ntmps A6R (N0 prog gl n0 27 A6V rO):=by
 refine S3 (dep:=60) (f:=27) (n0:=n0) (nB:=27) (H0:=H0) A0n A6S (cxg (B2J.2 w) .nil) w func27 A6U A6T C4 C4 C4 ?_;intro us d outs o;have B:=o;unfold rO at o;split at o
 .skip;rename_i D n i F;have x:=B3.1 o;clear o;obtain⟨l,s,o⟩:=x;replace s:=I2 s;subst s;have y:=B3.1 o;clear o;obtain⟨b,q,o⟩:=y;replace q:=I2 q;subst q;split at o
  .rename_i v;clear o B;have A:i<n->gP ((el l).getD i.toNat default):=fun h=>v.2.2.2.2.2 _ (aZ v.2.1 A2)
   have I:=W6 (gK ((el l).getD i.toNat default));refine⟨rfl,?_⟩;unfold A6S;refine w0 (.cons 3 _ (.cons 2 _ (.cons 1 _ (.cons 0 _ (.nil))))) ?_;repeat (first|refine bW ?_|refine W5 ?_|refine w4 (fun g=>?_) fun g=>?_|refine w31 kB (e:=xE _ _ _ _ _ _ _ _ (zQ (A ‹_›).1)) (k':=?_)|refine w2 (.mk 1) (r:=rS) (e:=pM [_,_,_,_,_,_] rfl F3 rfl) (k':=?_)|refine w31 aV (e:=xJ _ (B3x (A1 rfl) (A ‹_›).2.2.1)) (k':=?_)|refine w2 (.cats) (r:=rB) (e:=MM rfl (by first|omega|exact B3w (A1 rfl) (A ‹_›).2.2.1 A2)) (k':=?_)|refine gS ?_|(refine w7 [.int .i64 _,D8 rG _,.int .i64 _,.int .i64 _,D8 rB _] ?_;rotate_left)|refine aB ?_|refine aF ?_|refine w1 (.get 10 0) (u:=.int .i64 _) (e:=C9 rfl A2 A2 rfl) (k':=?_)|refine w1 (.get 10 1) (u:=.int .i64 _) (e:=C9 rfl A2 A2 rfl) (k':=?_)|refine w1 (.get 10 2) (u:=.int .i64 _) (e:=C9 rfl A2 A2 rfl) (k':=?_)|refine w1 (.get 10 3) (u:=.int .i64 _) (e:=C9 rfl A2 A2 rfl) (k':=?_)|refine w1 (.get 10 4) (u:=.int .i64 _) (e:=C9 rfl A2 A2 rfl) (k':=?_)|refine w1 (.get 10 5) (u:=.int .i64 _) (e:=C9 rfl A2 A2 rfl) (k':=?_)|refine w1 (.get 10 6) (u:=.int .i64 _) (e:=C9 rfl A2 A2 rfl) (k':=?_)|refine w1 (.get 10 7) (u:=.str _) (e:=C9 rfl A2 A2 rfl) (k':=?_)|refine w1 (.get 10 8) (u:=.str _) (e:=C9 rfl A2 A2 rfl) (k':=?_)|refine w1 (.get 10 9) (u:=.bool _) (e:=C9 rfl A2 A2 rfl) (k':=?_)|refine w4B (fun g=>?_) fun g=>?_|(refine w8 ?_;first|omega)|(refine w7 [.int .i64 _,D8 rB _] ?_;rotate_left))
   all_goals first
    | refine N3 ?_ ?_
      have hx:i<n->∀ X,X=M9 b (some (bI (prB ((el l).getD i.toNat default)++[10])))->rO [D8 rG l,.int .i64 n,.int .i64 (i+1),D8 rB X]=rO [D8 rG l,.int .i64 n,.int .i64 i,D8 rB b]:=fun h X C=>by
       have H:=A0w (A h);rw[xD l n (i+1) X ⟨v.1,A2,A2,v.2.2.2.1,by rw[C,bB,K6,B4,pU];omega,v.2.2.2.2.2⟩,xD l n i b v,C,oE,<- IE,B0p (l:=el l) (i:=i) A2 A2]
      .refine hx ‹_› _ ?_;first
       | exact E1 (fun z=>M9 b (some (bI z))) (B3f (g:=((el l).getD i.toNat default)) ‹_›)
       | exact E1 (fun z=>M9 b (some (bI z))) (B3g (g:=((el l).getD i.toNat default)) ‹_›)
      .rw[A0m,A0m];omega
    | refine I3 (d:=0) ?_
      rw[xD l n i b v,B0q (l:=el l) (i:=i) A2];first|(rw[show bI []=[]from rfl,AW];done)
  .cases o
 .cases o
noncomputable def B2u:List LpE:=(27,([true,true,true,true,false,true,false],N0 prog gl n0 27 A6V rO))::[]
def A3D{G}(e:K3 G):W9 prog G gl B2u:=.cons func27 A6U A6T (B0A e) .nil
def B0y{x:Xt}:0+(prP x++[10]).length<=1000000000:=by
 have:=W6 x;unfold prP;rw[B4,B4];show 0+(7+_+1)<=_;omega
def A7G{x:Xt}:(el (none:tF)).length+(el (some [[112,114,101,102,105,120,32],N7 x,[10]])).flatten.length<=1000000000:=by
 rw[A3x];exact B0y
def B3R{x:Xt}{l:Option (List Gt)}(h:kmP x (el l)):((el l).length:Int)=((el l).length:Int)/\(0:Int)<=0/\0<=((el l).length:Int)/\((el l).length:Int)<=64/\((el (M9 none (some (bI (el (some [[112,114,101,102,105,120,32],N7 x,[10]])).flatten)))).length:Int)+124*(((el l).length:Int)-0)<=1000000/\(∀ g ∈ el l,gP g):=by
 have f:=h.2.1;refine⟨rfl,F3,A2,A2,?_,h.2.2.1⟩
 have:=B0y (x:=x);have e:=W6 x;rw[A3x,bB,B4,K6,pU];unfold prP;rw[B4,B4];show((0+(7+_+1):Nat):Int)+_<=_;omega
def B1l(u:B2):∀ y ∈ bI u,0<=y/\y<256:=fun y e=>by
 unfold bI at e;obtain⟨b,_,rfl⟩:=I6.1 e;exact XN b
def A8X{x:Xt}{l:Option (List Gt)}(h:kmP x (el l)):(el (M9 (M9 none (some (bI (el (some [[112,114,101,102,105,120,32],N7 x,[10]])).flatten))) (some (bI (P4 10 (((el l).drop (0:Int).toNat).map prB)))))).length<=1000000000/\∀ y ∈ el (M9 (M9 none (some (bI (el (some [[112,114,101,102,105,120,32],N7 x,[10]])).flatten))) (some (bI (P4 10 (((el l).drop (0:Int).toNat).map prB))))),0<=y/\y<256:=by
 rw[A3x,A2q (by simp),bB,K6,K6,<- IE];refine⟨?_,B1l _⟩;have h1:=A3u h;unfold OY at h1;rw[nT]at h1;rw[pU];have e:prP x++10::P4 10 ((el l).map prB)=(prP x++[10])++P4 10 (((el l).drop (0:Int).toNat).map prB):=by simp
 rw[e]at h1;omega
def B3Q{x:Xt}{l:Option (List Gt)}(h:kmP x (el l)):iB (el (M9 (M9 none (some (bI (el (some [[112,114,101,102,105,120,32],N7 x,[10]])).flatten))) (some (bI (P4 10 (((el l).drop (0:Int).toNat).map prB))))))=GF x (el l):=by
 rw[A0j h,A3x,A2q (by simp),bB,K6,K6,<- IE,A1z];unfold OY;rw[nT];simp
noncomputable def B2I:P0:=⟨_,fun e=>(.cons (DW e) (.cons (SP e) (.cons (LO e) .nil)))⟩
def DL:List U->Option (Nat×List U)
 | [.int .i64 p1,.int .i64 p2,.int .i64 p3,.int .i64 p4,.int .i64 p5,.int .i64 p6,.int .i64 p7,.str p8,u_l]=>(L8 rG u_l).bind fun l=>if -9223372036854775808<=p3/\p3<=9223372036854775807/\(p8.length:Int)<=140737488351232/\((el l).length:Int)<=140737488351232/\(∀ g ∈ el l,gOk g)then some (0,[.str (GF (p1,p2,p3,p4,p5,p6,p7,p8) (el l)),.int .i64 (iM (p1,p2,p3,p4,p5,p6,p7,p8) (el l))])else none
 | _=>none
def A3t(q:Int)(w:Int)(e:Int)(s:Int)(n:Int)(v:Int)(o:Int)(f:B2)(l:(Option (List (Int×Int×Int×Int×Int×Int×Int×B2×B2×Bool))))(x : -9223372036854775808<=e/\e<=9223372036854775807/\(f.length:Int)<=140737488351232/\((el l).length:Int)<=140737488351232/\(∀ g ∈ el l,gOk g)):DL [.int .i64 q,.int .i64 w,.int .i64 e,.int .i64 s,.int .i64 n,.int .i64 v,.int .i64 o,.str f,D8 rG l]=some (0,[.str (GF (q,w,e,s,n,v,o,f) (el l)),.int .i64 (iM (q,w,e,s,n,v,o,f) (el l))]):=by
 simp only[DL,G5,D9];exact A9 x
def A6Q:Tr:=.fn kC [h3 0,h3 1,h3 2,h3 3,h3 4,h3 5,h3 6,h 7 9,h 8 20] 1<|bV 9 10 0 (.ret [.string ⟨⟨[]⟩⟩,h3 9]) (.fn kB [h3 0,h3 1,h3 2,h3 3,h3 4,h3 5,h3 6,h 7 9] 1<|.dt 11 (.mk 1) [.string ⟨⟨[112,114,101,102,105,120,32]⟩⟩,h 11 9,.string ⟨⟨[10]⟩⟩]<|.fn aV [h 12 11] 1<|.dt 11 (.nilw 1) []<|.dt 11 (.cats) [h 14 11,h 13 9]<|aD [h 13 9]<|aD [h 8 20]<|.fn rO [h 8 20,h3 17,jI 0,h 15 11] 1<|aD [h 18 11]<|.lt 9 (.ustr) [h 18 11,h3 19]<|.ret [h 20 9,jI 0])
def A9_{G}(o:K3 G):L2 prog G 27 [.a [3,3,3,3,3,3,3,9,20]] DL [.s 9,.s 3]:=by
 refine F2 (d:=60) A6Q (cxg (B2I.2 o) (A3D o)) o ⟨f27,_,func27,rfl⟩ C4 C4 ?_;intro us outs n;unfold DL at n;split at n
 .skip;rename_i v y B w C h A z D;have q:=B3.1 n;clear n;obtain⟨l,f,n⟩:=q;replace f:=I2 f;subst f;split at n
  .rename_i E;cases n;have F:=W6 (v,y,B,w,C,h,A,z);unfold A6Q;refine w0 (.cons 8 _ (.cons 7 _ (.cons 6 _ (.cons 5 _ (.cons 4 _ (.cons 3 _ (.cons 2 _ (.cons 1 _ (.cons 0 _ (.nil)))))))))) ?_;repeat (first|(refine w7 [.str _,.int .i64 _] ?_;rotate_left)|refine eN ?_|refine w31 kC (e:=xH _ _ _ _ _ _ _ _ _ E) (k':=?_)|refine tH ?_|refine w4 (fun g=>?_) fun g=>?_|refine w31 kB (e:=xE _ _ _ _ _ _ _ _ (zQ (x:=(v,y,B,w,C,h,A,z)) (wK ‹_›).1)) (k':=?_)|refine w2 (.mk 1) (r:=rS) (e:=pM [_,_,_] rfl F3 rfl) (k':=?_)|refine w31 aV (e:=xJ _ B3y) (k':=?_)|refine w2 (.nilw 1) (r:=rB) (e:=mJ rfl) (k':=?_)|refine w2 (.cats) (r:=rB) (e:=MM rfl (by first|omega|exact A7G|exact(A8X (wK ‹_›)).1)) (k':=?_)|refine gS ?_|refine w31 rO (e:=xD _ _ _ _ (B3R (wK ‹_›))) (k':=?_)|refine w1 (.ustr) (e:=A1_ rfl A2 (by first|omega|exact A7G|exact(A8X (wK ‹_›)).1) (by exact(A8X (wK ‹_›)).2)) (k':=?_))
   all_goals
    first
    | (refine l2s (A0k (A8r ‹_›)).symm ?_;first|rfl)
    | (refine l2s (B3Q (wK ‹_›)) ?_;exact(AL (wK ‹_›)).symm)
  .cases n
 .cases n
noncomputable def A9X:P0:=⟨_,fun e=>(.cons (RT e) (.cons (A5z e) .nil))⟩
def iY:List U->Option (Nat×List U)
 | [.str s,.int .i64 i,.int .i64 p1,.int .i64 p2,.int .i64 p3,.int .i64 p4,.int .i64 p5,.int .i64 p6,.int .i64 p7,.str p8,u_l]=>(L8 rG u_l).bind fun l=>if 0<=i/\i<=((el l).length:Int)/\((el l).length:Int)<=64/\(s.length:Int)+124*(((el l).length:Int)-i)<=1000000/\(∀ g ∈ el l,gP g)then some (0,[.str (s++P4 10 (((el l).drop i.toNat).map prB))])else none
 | _=>none
def rE(s:B2)(i:Int)(o:Int)(f:Int)(y:Int)(q:Int)(e:Int)(x:Int)(n:Int)(w:B2)(l:(Option (List (Int×Int×Int×Int×Int×Int×Int×B2×B2×Bool))))(v:0<=i/\i<=((el l).length:Int)/\((el l).length:Int)<=64/\(s.length:Int)+124*(((el l).length:Int)-i)<=1000000/\(∀ g ∈ el l,gP g)):iY [.str s,.int .i64 i,.int .i64 o,.int .i64 f,.int .i64 y,.int .i64 q,.int .i64 e,.int .i64 x,.int .i64 n,.str w,D8 rG l]=some (0,[.str (s++P4 10 (((el l).drop i.toNat).map prB))]):=by
 simp only[iY,G5,D9];exact A9 v
def B4S{s:B2}(h:gR g=true):(((((s++[98,105,110,100,32])++[45,114,32])++N7 (gK g))++[32])++gC g)++[10]=s++(prB g++[10]):=by
 unfold prB lnF;rw[h,A9 rfl];simp
def B4T{s:B2}(h:gR g=false):((((s++[98,105,110,100,32])++N7 (gK g))++[32])++gC g)++[10]=s++(prB g++[10]):=by
 unfold prB lnF;rw[h,A7 F3];simp
def A0E:R7:=⟨[(1,.pointer (some ⟨17,0,none⟩)),(4,h 0 9),(5,h 1 3)],[(17,.cells 35 [h 2 3,h 3 3,h 4 3,h 5 3,h 6 3,h 7 3,h 8 3,h 9 9,dat 18 10 20]),(18,.frz)],11,[⟨.exit 0,[(4,h 0 9)],[],1⟩]⟩
noncomputable def OT:Code:=(f22.body).getD .skip
noncomputable def A0A:Code:=match G7 [true,true,true,false,true,false] OT with|some (.loop x)=>x|_=>.skip
def A0D:f22.body=some OT:=rfl
def A0C:G7 [true,true,true,false,true,false] OT=some (.loop A0A):=C4
def A0B:Tr:=aD [h 10 20]<|Q8 1 11 12 (Z1 10 1 13 (.lt 3 (.get 10 0) [h 10 20,h3 1]<|.lt 3 (.get 10 1) [h 10 20,h3 1]<|.lt 3 (.get 10 2) [h 10 20,h3 1]<|.lt 3 (.get 10 3) [h 10 20,h3 1]<|.lt 3 (.get 10 4) [h 10 20,h3 1]<|.lt 3 (.get 10 5) [h 10 20,h3 1]<|.lt 3 (.get 10 6) [h 10 20,h3 1]<|.lt 9 (.get 10 7) [h 10 20,h3 1]<|.lt 9 (.get 10 8) [h 10 20,h3 1]<|.lt 8 (.get 10 9) [h 10 20,h3 1]<|aC [h 0 9,.string ⟨⟨[98,105,110,100,32]⟩⟩]<|.br 23 (aC [h 24 9,.string ⟨⟨[45,114,32]⟩⟩]<|.fn vE [h3 14,h3 15,h3 16,h3 17,h3 18,h3 19,h3 20,h 21 9] 1<|aC [h 25 9,h 26 9]<|aC [h 27 9,.string ⟨⟨[32]⟩⟩]<|aC [h 28 9,h 22 9]<|aC [h 29 9,.string ⟨⟨[10]⟩⟩]<|aA [h3 1,jI 1]<|.ret [jI (-1),h 30 9,h3 31,h3 2,h3 3,h3 4,h3 5,h3 6,h3 7,h3 8,h 9 9,h 10 20]) (.fn vE [h3 14,h3 15,h3 16,h3 17,h3 18,h3 19,h3 20,h 21 9] 1<|aC [h 24 9,h 25 9]<|aC [h 26 9,.string ⟨⟨[32]⟩⟩]<|aC [h 27 9,h 22 9]<|aC [h 28 9,.string ⟨⟨[10]⟩⟩]<|aA [h3 1,jI 1]<|.ret [jI (-1),h 29 9,h3 30,h3 2,h3 3,h3 4,h3 5,h3 6,h3 7,h3 8,h 9 9,h 10 20]))) (.ret [jI 0,h 0 9])
def OS:List U->Nat
 | [.str s,.int .i64 i,.int .i64 p1,.int .i64 p2,.int .i64 p3,.int .i64 p4,.int .i64 p5,.int .i64 p6,.int .i64 p7,.str p8,u_l]=>(match L8 rG u_l with|some l=>(((el l).length:Int)-i).toNat|none=>0)
 | _=>0
def RN(s:B2)(i:Int)(o:Int)(f:Int)(x:Int)(q:Int)(e:Int)(w:Int)(n:Int)(v:B2)(l:(Option (List (Int×Int×Int×Int×Int×Int×Int×B2×B2×Bool)))):OS [.str s,.int .i64 i,.int .i64 o,.int .i64 f,.int .i64 x,.int .i64 q,.int .i64 e,.int .i64 w,.int .i64 n,.str v,D8 rG l]=(((el l).length:Int)-i).toNat:=by
 simp only[OS,G5]
def A8S{G}(y:K3 G):∀ (E:Nat->U) (base:Nat),@Q5 ⟨E,G⟩ prog base gl f22.ntmps A0A (N0 prog gl n0 19 A0E iY):=by
 refine S3 (dep:=60) (f:=22) (n0:=n0) (nB:=19) (H0:=H0) OS A0B (cxg (A9X.2 y) .nil) y func22 A0D A0C C4 C4 C4 ?_;intro us d outs o;have I:=o;unfold iY at o;split at o
 .skip;rename_i s i v x D w F A C z K;have B:=B3.1 o;clear o;obtain⟨l,n,o⟩:=B;replace n:=I2 n;subst n;split at o
  .rename_i q;clear o I;have H:i<((el l).length:Int)->gP ((el l).getD i.toNat default):=fun h=>q.2.2.2.2 _ (aZ q.1 A2)
   have P:=W6 (gK ((el l).getD i.toNat default));refine⟨rfl,?_⟩;unfold A0B;refine w0 (.cons 10 _ (.cons 9 _ (.cons 8 _ (.cons 7 _ (.cons 6 _ (.cons 5 _ (.cons 4 _ (.cons 3 _ (.cons 2 _ (.cons 1 _ (.cons 0 _ (.nil)))))))))))) ?_;repeat (first|refine w1 (.bin .add) (e:=HP _ _ (by first|omega|(have z2:=(H ‹_›).2.2.1;unfold gC at z2;(try (generalize L:N7 _=N;have O:N.length<=14:=L▸W6 _));simp only[B4,C8,J7];omega))) (k':=?_)|refine bW ?_|refine W5 ?_|refine w4 (fun g=>?_) fun g=>?_|refine w31 vE (e:=RP _ _ _ _ _ _ _ _ (zQ (H ‹_›).1)) (k':=?_)|(refine w7 [.int .i64 _,.str _,.int .i64 _,.int .i64 _,.int .i64 _,.int .i64 _,.int .i64 _,.int .i64 _,.int .i64 _,.int .i64 _,.str _,D8 rG _] ?_;rotate_left)|refine eN ?_|refine aB ?_|refine aF ?_|refine w1 (.get 10 0) (u:=.int .i64 _) (e:=C9 rfl A2 A2 rfl) (k':=?_)|refine w1 (.get 10 1) (u:=.int .i64 _) (e:=C9 rfl A2 A2 rfl) (k':=?_)|refine w1 (.get 10 2) (u:=.int .i64 _) (e:=C9 rfl A2 A2 rfl) (k':=?_)|refine w1 (.get 10 3) (u:=.int .i64 _) (e:=C9 rfl A2 A2 rfl) (k':=?_)|refine w1 (.get 10 4) (u:=.int .i64 _) (e:=C9 rfl A2 A2 rfl) (k':=?_)|refine w1 (.get 10 5) (u:=.int .i64 _) (e:=C9 rfl A2 A2 rfl) (k':=?_)|refine w1 (.get 10 6) (u:=.int .i64 _) (e:=C9 rfl A2 A2 rfl) (k':=?_)|refine w1 (.get 10 7) (u:=.str _) (e:=C9 rfl A2 A2 rfl) (k':=?_)|refine w1 (.get 10 8) (u:=.str _) (e:=C9 rfl A2 A2 rfl) (k':=?_)|refine w1 (.get 10 9) (u:=.bool _) (e:=C9 rfl A2 A2 rfl) (k':=?_)|refine w4B (fun g=>?_) fun g=>?_|(refine w8 ?_;first|omega)|(refine w7 [.int .i64 _,.str _] ?_;rotate_left))
   all_goals first
    | refine N3 ?_ ?_
      have hx:i<((el l).length:Int)->∀ X,X=s++(prB ((el l).getD i.toNat default)++[10])->iY [.str X,.int .i64 (i+1),.int .i64 v,.int .i64 x,.int .i64 D,.int .i64 w,.int .i64 F,.int .i64 A,.int .i64 C,.str z,D8 rG l]=iY [.str s,.int .i64 i,.int .i64 v,.int .i64 x,.int .i64 D,.int .i64 w,.int .i64 F,.int .i64 A,.int .i64 C,.str z,D8 rG l]:=fun h X J=>by
       have M:=A0w (H h);rw[rE X (i+1) v x D w F A C z l ⟨A2,A2,q.2.2.1,by rw[J,B4];omega,q.2.2.2.2⟩,rE s i v x D w F A C z l q,J,B0p (l:=el l) (i:=i) q.1 A2,M0]
      .refine hx ‹_› _ ?_;first
       | exact B4S (g:=((el l).getD i.toNat default)) ‹_›
       | exact B4T (g:=((el l).getD i.toNat default)) ‹_›
      .rw[RN,RN];omega
    | refine I3 (d:=0) ?_
      rw[rE s i v x D w F A C z l q,B0q (l:=el l) (i:=i) A2,L7]
  .cases o
 .cases o
noncomputable def A9Z:List LpE:=(22,([true,true,true,false,true,false],N0 prog gl n0 19 A0E iY))::[]
def XB{G}(e:K3 G):W9 prog G gl A9Z:=.cons func22 A0D A0C (A8S e) .nil
def B0Z{x:Xt}{l:List Gt}(h:¬¬kmP x l):kmP x l:=D4.1 h
def B3J{x:Xt}{l:Option (List Gt)}(h:kmP x (el l)):(0:Int)<=0/\0<=((el l).length:Int)/\((el l).length:Int)<=64/\((([112,114,101,102,105,120,32]++N7 x++[10]:B2)).length:Int)+124*(((el l).length:Int)-0)<=1000000/\(∀ g ∈ el l,gP g):=by
 have f:=h.2.1;have e:=W6 x;refine⟨F3,A2,A2,?_,h.2.2.1⟩;simp only[B4,C8,J7];omega
def B3H{x:Xt}{l:Option (List Gt)}(h:kmP x (el l)):([112,114,101,102,105,120,32]++N7 x++[10])++P4 10 (((el l).drop (0:Int).toNat).map prB)=GF x (el l):=by
 rw[A0j h];unfold OY;rw[nT];unfold prP;simp
noncomputable def B17:P0:=⟨_,fun e=>(.cons (RT e) (.cons (A5z e) .nil))⟩
def DC:List U->Option (Nat×List U)
 | [.int .i64 p1,.int .i64 p2,.int .i64 p3,.int .i64 p4,.int .i64 p5,.int .i64 p6,.int .i64 p7,.str p8,u_l]=>(L8 rG u_l).bind fun l=>if -9223372036854775808<=p3/\p3<=9223372036854775807/\(p8.length:Int)<=140737488351232/\((el l).length:Int)<=140737488351232/\(∀ g ∈ el l,gOk g)then some (0,[.str (GF (p1,p2,p3,p4,p5,p6,p7,p8) (el l)),.int .i64 (iM (p1,p2,p3,p4,p5,p6,p7,p8) (el l))])else none
 | _=>none
def A3k(q:Int)(w:Int)(e:Int)(s:Int)(n:Int)(v:Int)(o:Int)(f:B2)(l:(Option (List (Int×Int×Int×Int×Int×Int×Int×B2×B2×Bool))))(x : -9223372036854775808<=e/\e<=9223372036854775807/\(f.length:Int)<=140737488351232/\((el l).length:Int)<=140737488351232/\(∀ g ∈ el l,gOk g)):DC [.int .i64 q,.int .i64 w,.int .i64 e,.int .i64 s,.int .i64 n,.int .i64 v,.int .i64 o,.str f,D8 rG l]=some (0,[.str (GF (q,w,e,s,n,v,o,f) (el l)),.int .i64 (iM (q,w,e,s,n,v,o,f) (el l))]):=by
 simp only[DC,G5,D9];exact A9 x
def A5x:Tr:=.fn vF [h3 0,h3 1,h3 2,h3 3,h3 4,h3 5,h3 6,h 7 9,h 8 20] 1<|M5 9 10 (.ret [.string ⟨⟨[]⟩⟩,jI 490]) (.fn vE [h3 0,h3 1,h3 2,h3 3,h3 4,h3 5,h3 6,h 7 9] 1<|aC [.string ⟨⟨[112,114,101,102,105,120,32]⟩⟩,h 11 9]<|aC [h 12 9,.string ⟨⟨[10]⟩⟩]<|.fn iY [h 13 9,jI 0,h3 0,h3 1,h3 2,h3 3,h3 4,h3 5,h3 6,h 7 9,h 8 20] 1<|.ret [h 14 9,jI 0])
def A9y{G}(o:K3 G):L2 prog G 22 [.a [3,3,3,3,3,3,3,9,20]] DC [.s 9,.s 3]:=by
 refine F2 (d:=60) A5x (cxg (B17.2 o) (XB o)) o ⟨f22,_,func22,rfl⟩ C4 C4 ?_;intro us outs n;unfold DC at n;split at n
 .skip;rename_i v y B w C h A z D;have q:=B3.1 n;clear n;obtain⟨l,f,n⟩:=q;replace f:=I2 f;subst f;split at n
  .rename_i E;cases n;have F:=W6 (v,y,B,w,C,h,A,z);unfold A5x;refine w0 (.cons 8 _ (.cons 7 _ (.cons 6 _ (.cons 5 _ (.cons 4 _ (.cons 3 _ (.cons 2 _ (.cons 1 _ (.cons 0 _ (.nil)))))))))) ?_;repeat (first|refine Z6 ?_|refine lD ?_|refine w4 (fun g=>?_) fun g=>?_|refine w4B (fun g=>?_) fun g=>?_|(refine w7 [.str _,.int .i64 _] ?_;rotate_left)|refine w1 (.bin .add) (e:=HP _ _ (by simp only[B4,C8,J7];omega)) (k':=?_)|refine w31 vF (e:=RS _ _ _ _ _ _ _ _ _ E) (k':=?_)|refine w31 vE (e:=RP _ _ _ _ _ _ _ _ (zQ (x:=(v,y,B,w,C,h,A,z)) (B0Z (x:=(v,y,B,w,C,h,A,z)) (l:=el l) ‹_›).1)) (k':=?_)|refine w31 iY (e:=rE _ _ _ _ _ _ _ _ _ _ _ (B3J (D4.1 ‹_›))) (k':=?_))
   all_goals
    first
    | (refine l2s (A0k ‹_›).symm ?_;exact(jK ‹_›).symm)
    | (refine l2s (B3H (D4.1 ‹_›)) ?_;exact(AL (D4.1 ‹_›)).symm)
  .cases n
 .cases n
def MW:List U->Option (Nat×List U)
 | [.str s,.str c]=>if c.length=1 then some (0,[.int .i64 ((Lib.countByte s (c.getD 0 0):Int))])else none
 | _=>none
def A4y(s:B2)(c:B2)(e:c.length=1):MW [.str s,.str c]=some (0,[.int .i64 ((Lib.countByte s (c.getD 0 0):Int))]):=A9 e
def A7h{G}(n:K3 G):L2 prog G 29 [.s 9,.s 9] MW [.s 3]:=by
 intro us outs w vs R l f v hR;unfold MW at f;split at f
 .skip;rename_i s c;split at f
  .rename_i o;cases f;have hv:=V4 (vs2:=[.string ⟨⟨s⟩⟩,.string ⟨⟨c⟩⟩]) l rfl;subst hv;refine gI (vr:=[.int .i64 (Lib.countByte s (c.getD 0 0))]) func29 rfl C4 rfl ?_;obtain⟨x,rfl⟩:∃ x,c=[x]:=by
    match c,o with
    | [x],_=>exact⟨x,rfl⟩
    | [],h=>cases h
    | _::_::_,h=>simp at h
   exact(Tryz.strings_Count_one ⟨⟨s⟩⟩ x w).mono fun e w' ⟨h1,q⟩=>⟨h1,by subst q;exact RowKit.Below.refl _ _⟩
  .cases f
 .cases f
def LU:List U->Option (Nat×List U)
 | [.str s,.str c]=>if c.length=1 then some (0,[.int .i64 (Lib.indexByte s (c.getD 0 0))])else none
 | _=>none
def A4R(s:B2)(c:B2)(e:c.length=1):LU [.str s,.str c]=some (0,[.int .i64 (Lib.indexByte s (c.getD 0 0))]):=A9 e
def B0v{G}(n:K3 G):L2 prog G 65 [.s 9,.s 9] LU [.s 3]:=by
 intro us outs w vs R l f v hR;unfold LU at f;split at f
 .skip;rename_i s c;split at f
  .rename_i o;cases f;have hv:=V4 (vs2:=[.string ⟨⟨s⟩⟩,.string ⟨⟨c⟩⟩]) l rfl;subst hv;refine gI (vr:=[.int .i64 (Lib.indexByte s (c.getD 0 0))]) func65 rfl C4 rfl ?_;obtain⟨x,rfl⟩:∃ x,c=[x]:=by
    match c,o with
    | [x],_=>exact⟨x,rfl⟩
    | [],h=>cases h
    | _::_::_,h=>simp at h
   exact(Tryz.strings_Index_one ⟨⟨s⟩⟩ x w).mono fun e w' ⟨h1,q⟩=>⟨h1,by subst q;exact RowKit.Below.refl _ _⟩
  .cases f
 .cases f
def A8x(s:B2)(c:UInt8) : -1<=Lib.indexByte s c/\(Lib.indexByte s c<(s.length:Int)):=by
 have h:=Lib.indexByte_ge s c;by_cases h0:0<=Lib.indexByte s c
 .have:=(PZ h0).2.1;omega
 .omega
def JL{s:B2}{i:Nat}(h:Lib.indexByte s c<0):spl c k a s i=(a,s,i):=by
 cases k with
 | zero=>rfl
 | succ k=>rw[spl,A9 h]
def A3Y{s:B2}{n:Int}(h0:0<=i)(h1:i<n)(hm:m=Lib.indexByte s c)(e:¬m<0):spl c (n-i).toNat a s i.toNat=spl c (n-(i+1)).toNat (a.set i.toNat ((s.drop (0:Int).toNat).take ((m+0).toNat-(0:Int).toNat))) (s.drop (m+1).toNat) (i+1).toNat:=by
 subst hm;rw[show(n-i).toNat=(n-(i+1)).toNat+1 by omega,spl,A7 e,show(Lib.indexByte s c+0).toNat=(Lib.indexByte s c).toNat by omega,show(Lib.indexByte s c+1).toNat=(Lib.indexByte s c).toNat+1 by omega,show(i+1).toNat=i.toNat+1 by omega];rfl
def TQ{a:Option (List B2)}{s:B2}(h:spl c k (el a) s i.toNat=(el a,s,i.toNat))(hi:0<=i)(e:a=some (el a)):some (0,[U.str (spl c k (el a) s i.toNat).2.1,D8 rS (some (spl c k (el a) s i.toNat).1),U.int .i64 (spl c k (el a) s i.toNat).2.2])=some (0,[U.str s,D8 rS a,U.int .i64 i]):=by
 rw[h];show some (0,[U.str s,D8 rS (some (el a)),U.int .i64 (i.toNat:Int)])=_;rw[<- e,dU hi]
noncomputable def B2c:P0:=⟨_,fun e=>(.cons (A7h e) (.cons (B0v e) .nil))⟩
def vO:List U->Option (Nat×List U)
 | [.str s,.str c,.int .i64 n,u_a,.int .i64 i]=>(L8 rS u_a).bind fun a=>if c.length=1/\0<=i/\i<=n/\n<((el a).length:Int)/\((el a).length:Int)<=1000000000/\s.length<=1000000000/\a=some (el a)then some (0,[.str (spl (c.getD 0 0) (n-i).toNat (el a) s i.toNat).2.1,D8 rS (some (spl (c.getD 0 0) (n-i).toNat (el a) s i.toNat).1),.int .i64 (spl (c.getD 0 0) (n-i).toNat (el a) s i.toNat).2.2])else none
 | _=>none
def sM(s:B2)(c:B2)(n:Int)(a:(Option (List B2)))(i:Int)(e:c.length=1/\0<=i/\i<=n/\n<((el a).length:Int)/\((el a).length:Int)<=1000000000/\s.length<=1000000000/\a=some (el a)):vO [.str s,.str c,.int .i64 n,D8 rS a,.int .i64 i]=some (0,[.str (spl (c.getD 0 0) (n-i).toNat (el a) s i.toNat).2.1,D8 rS (some (spl (c.getD 0 0) (n-i).toNat (el a) s i.toNat).1),.int .i64 (spl (c.getD 0 0) (n-i).toNat (el a) s i.toNat).2.2]):=by
 simp only[vO,G5,D9];exact A9 e
def A7L:R7:=⟨[(0,h 0 9),(1,h 1 9),(2,.int .i64 (0)),(3,h 2 3),(9,own 18 3 11),(10,h 4 3)],[(18,.sq 3 11 9 19),(19,.frz)],5,[⟨.exit 0,[(0,h 0 9),(9,own 20 1 11),(10,h 2 3)],[(20,.sq 1 11 9 21),(21,.frz)],3⟩]⟩
noncomputable def A12:Code:=(f67.body).getD .skip
noncomputable def A7H:Code:=match G7 [true,true,true,true,true,true,true,true,false,false] A12 with|some (.loop x)=>x|_=>.skip
def A7K:f67.body=some A12:=rfl
def A7J:G7 [true,true,true,true,true,true,true,true,false,false] A12=some (.loop A7H):=C4
def A7I:Tr:=Q8 4 2 5 (.fn LU [h 0 9,h 1 9] 1<|Y8 6 7 0 (.ret [jI 0,h 0 9,h 3 11,h3 4]) (aA [h3 6,jI 0]<|.lt 9 (.sub) [h 0 9,jI 0,h3 8]<|dV 3 4 10 (.dt 11 (.set 1 0) [h 3 11,h3 4,h 9 9]<|aD [h 1 9]<|aA [h3 6,h3 12]<|.lt 9 (.sub1) [h 0 9,h3 13]<|aA [h3 4,jI 1]<|.ret [jI (-1),h 14 9,h 1 9,h3 2,h 11 11,h3 15]))) (.ret [jI 0,h 0 9,h 3 11,h3 4])
def A11:List U->Nat
 | [.str s,.str c,.int .i64 n,u_a,.int .i64 i]=>(match L8 rS u_a with|some a=>(n-i).toNat|none=>0)
 | _=>0
def A10(s:B2)(c:B2)(n:Int)(a:(Option (List B2)))(i:Int):A11 [.str s,.str c,.int .i64 n,D8 rS a,.int .i64 i]=(n-i).toNat:=by
 simp only[A11,G5]
def B02{G}(v:K3 G):∀ (E:Nat->U) (base:Nat),@Q5 ⟨E,G⟩ prog base gl f67.ntmps A7H (N0 prog gl n0 22 A7L vO):=by
 refine S3 (dep:=60) (f:=67) (n0:=n0) (nB:=22) (H0:=H0) A11 A7I (cxg (B2c.2 v) .nil) v func67 A7K A7J C4 C4 C4 ?_;intro us d outs o;have x:=o;unfold vO at o;split at o
 .skip;rename_i s c n z i;have w:=B3.1 o;clear o;obtain⟨a,l,o⟩:=w;replace l:=I2 l;subst l;split at o
  .rename_i q;clear o x;have h:=A8x s (c.getD 0 0);refine⟨rfl,?_⟩;unfold A7I;refine w0 (.cons 4 _ (.cons 3 _ (.cons 2 _ (.cons 1 _ (.cons 0 _ (.nil)))))) ?_;refine aB ?_;refine w5 (fun g0=>?_) fun g0=>?_
   .refine w7 [.int .i64 _,.str _,D8 rS _,.int .i64 _] ?_;refine I3 (d:=0) ?_;rw[sM _ _ _ _ _ q];refine TQ ?_ q.2.1 q.2.2.2.2.2.2;first|exact JL A2|(rw[show(n-i).toNat=0 by omega];rfl)
   refine w31 LU (e:=A4R _ _ A2) (k':=?_);refine aB ?_;refine w4 (fun g1=>?_) fun g1=>?_
   .refine w7 [.int .i64 _,.str _,D8 rS _,.int .i64 _] ?_;refine I3 (d:=0) ?_;rw[sM _ _ _ _ _ q];refine TQ ?_ q.2.1 q.2.2.2.2.2.2;first|exact JL A2|(rw[show(n-i).toNat=0 by omega];rfl)
   first|refine bW ?_|refine W5 ?_
   refine w1 (.sub) (e:=eA _ _ _ _ _ A2 A2 A2) (k':=?_);refine aF ?_;refine w5 (fun g2=>?_) fun g2=>?_
   .refine w8 ?_;first|omega|(simp_all;done)|(simp_all;omega)
   refine w2 (.set 1 0) (r:=rS) (e:=HN _ rfl (A1 rfl) A2 A2 rfl) (k':=?_);refine gS ?_;first|refine bW ?_|refine W5 ?_
   refine w1 (.sub1) (e:=nX _ _ _ A2 A2) (k':=?_);first|refine bW ?_|refine W5 ?_
   refine w7 [.int .i64 _,.str _,.str _,.int .i64 _,D8 rS _,.int .i64 _] ?_;refine N3 ?_ ?_
   .have y:(c.length:Int)=1:=A2;rw[y,sM _ _ _ _ _ ⟨q.1,A2,A2,by rw[xO,Q0];omega,by rw[xO,Q0];omega,by rw[E7];omega,rfl⟩,sM _ _ _ _ _ q,A3Y q.2.1 g0 rfl g1];rfl
   .rw[A10,A10];omega
  .cases o
 .cases o
noncomputable def B2y:List LpE:=(67,([true,true,true,true,true,true,true,true,false,false],N0 prog gl n0 22 A7L vO))::[]
def A3K{G}(e:K3 G):W9 prog G gl B2y:=.cons func67 A7K A7J (B02 e) .nil
def YG{c:UInt8}:∀ (k:Nat) (a:List B2) (s:B2) (i:Nat),(spl c k a s i).1.length=a.length/\i<=(spl c k a s i).2.2/\(spl c k a s i).2.2<=i+k
 | 0,a,s,i=>⟨rfl,A6 _,A6 _⟩
 | k+1,a,s,i=>by
   unfold spl;split
   .exact⟨rfl,A6 _,by show i<=i+(k+1);omega⟩
   .obtain⟨h1,e,h3⟩:=YG (c:=c) k (a.set i (s.take (Lib.indexByte s c).toNat)) (s.drop ((Lib.indexByte s c).toNat+1)) (i+1);rw[Q0]at h1;exact⟨h1,A2,A2⟩
def oF(s:B2)(c:UInt8):=spl c (min (s.count c+1) (s.length+1)-1) (List.replicate (min (s.count c+1) (s.length+1)) []) s 0
def A3Z(s:B2)(c:UInt8):((el (some (oF s c).1)).length:Int)=min (s.count c+1) (s.length+1)/\(oF s c).2.2<min (s.count c+1) (s.length+1):=by
 obtain⟨h1,e,h3⟩:=YG (c:=c) (min (s.count c+1) (s.length+1)-1) (List.replicate (min (s.count c+1) (s.length+1)) []) s 0;rw[U1]at h1;unfold oF el;exact⟨by show((spl _ _ _ _ _).1.length:Int)=_;omega,A2⟩
def B03{s c:B2}(e:c.length=1)(n:s.length<=100000):vO [.str s,.str c,.int .i64 (min ((Lib.countByte s (c.getD 0 0):Int)+1) ((s.length:Int)+1)-1),D8 rS (some (List.replicate (min ((Lib.countByte s (c.getD 0 0):Int)+1) ((s.length:Int)+1)).toNat [])),.int .i64 0]=some (0,[.str (oF s (c.getD 0 0)).2.1,D8 rS (some (oF s (c.getD 0 0)).1),.int .i64 (oF s (c.getD 0 0)).2.2]):=by
 have f:(min ((Lib.countByte s (c.getD 0 0):Int)+1) ((s.length:Int)+1)).toNat=min (s.count (c.getD 0 0)+1) (s.length+1):=by unfold Lib.countByte;omega
 have l:(min ((Lib.countByte s (c.getD 0 0):Int)+1) ((s.length:Int)+1)-1-0).toNat=min (s.count (c.getD 0 0)+1) (s.length+1)-1:=A2;rw[sM _ _ _ _ _ ⟨e,A2,A2,by rw[K6,U1];omega,by rw[K6,U1];omega,A2,rfl⟩,K6,f,l];rfl
def A0y(s:B2)(c:UInt8):D8 rS (lG (JS (some (oF s c).1) ((oF s c).2.2:Int).toNat (oF s c).2.1) (0:Int).toNat ((oF s c).2.2+1:Int).toNat)=D8 rS (some (sp c s)):=by
 rw[<- zC];have e:((oF s c).2.2+1:Int).toNat=(oF s c).2.2+1:=A2;rw[e];rfl
noncomputable def B1z:P0:=⟨_,fun e=>(.cons (A7h e) .nil)⟩
def CU:List U->Option (Nat×List U)
 | [.str s,.str c]=>if c.length=1/\s.length<=100000 then some (0,[D8 rS ((some (sp (c.getD 0 0) s)))])else none
 | _=>none
def A3X(s:B2)(c:B2)(e:c.length=1/\s.length<=100000):CU [.str s,.str c]=some (0,[D8 rS ((some (sp (c.getD 0 0) s)))]):=A9 e
def A5R:Tr:=aE [h 1 9,.string ⟨⟨[]⟩⟩]<|.br 2 (.no) (.fn MW [h 0 9,h 1 9] 1<|aA [h3 3,jI 1]<|aD [h 0 9]<|aA [h3 5,jI 1]<|.lt 3 (.min) [h3 4,h3 6]<|.dt 11 (.rep 1) [h3 7,.string ⟨⟨[]⟩⟩]<|aS [h3 7,jI 1]<|.fn vO [h 0 9,h 1 9,h3 9,h 8 11,jI 0] 3<|dV 11 12 13 (.dt 11 (.set 1 0) [h 11 11,h3 12,h 10 9]<|aA [h3 12,jI 1]<|.dt 11 (.subs 1) [h 14 11,jI 0,h3 15]<|.ret [h 16 11]))
def A5S{G}(f:K3 G):L2 prog G 31 [.s 9,.s 9] CU [.s 11]:=by
 refine F2 (d:=60) A5R (cxg (B1z.2 f) (A3K f)) f ⟨f31,_,func31,rfl⟩ C4 C4 ?_;intro us outs l;unfold CU at l;split at l
 .skip;rename_i s c;split at l
  .rename_i n;cases l;have q:Lib.countByte s (c.getD 0 0)<=s.length:=dG;have v:=A3Z s (c.getD 0 0);have o:((el (JS (some (oF s (c.getD 0 0)).1) ((oF s (c.getD 0 0)).2.2:Int).toNat (oF s (c.getD 0 0)).2.1)).length:Int)=(el (some (oF s (c.getD 0 0)).1)).length:=by rw[xO,Q0]
   unfold A5R;refine w0 (.cons 1 _ (.cons 0 _ (.nil))) ?_;refine NX ?_;refine w4 (fun g0=>?_) fun g0=>?_
   .refine w8 ?_;first|omega|(exfalso;subst g0;exact absurd n.1 F3)
   refine w31 MW (e:=A4y _ _ A2) (k':=?_);first|refine bW ?_|refine W5 ?_
   refine gS ?_;first|refine bW ?_|refine W5 ?_
   refine A8A ?_;refine w2 (.rep 1) (r:=rS) (e:=A4c rfl A2 A2 rfl) (k':=?_);first|refine UZ ?_|refine CP ?_
   refine w3 vO (e:=B03 n.1 n.2) (k':=?_);show Wk _ _ (.cons _ _ (.cons _ _ (.cons _ _ _)));refine aF ?_;refine w5 (fun g1=>?_) fun g1=>?_
   .refine w8 ?_;first|omega|(exfalso;subst g0;exact absurd n.1 F3)
   refine w2 (.set 1 0) (r:=rS) (e:=HN _ rfl (A1 rfl) A2 A2 rfl) (k':=?_);first|refine bW ?_|refine W5 ?_
   refine w2 (.subs 1) (r:=rS) (e:=MK rfl A2 A2 A2) (k':=?_);refine w7 [D8 rS _] ?_;exact E1 (fun z=>[z]) (A0y s (c.getD 0 0))
  .cases l
 .cases l
def A8o(s:B2):Lib.cut s [32]=R2 s:=by
 unfold Lib.cut;rw[Lib.index_one];by_cases h:Lib.indexByte s 32<0
 .rw[A7 A2,A9R (B31 h)]
 .rw[A9 A2,A9Q (B30 h)];have e:(Lib.indexByte s 32+1).toNat=(Lib.indexByte s 32).toNat+1:=A2;rw[e];rfl
def EO:List U->Option (Nat×List U)
 | [.str s,.str c]=>if s.length<=100000000/\c=[32]then some (0,[.str ((R2 s).1),.str ((R2 s).2.1),.bool ((R2 s).2.2)])else none
 | _=>none
def A4s(s:B2)(c:B2)(e:s.length<=100000000/\c=[32]):EO [.str s,.str c]=some (0,[.str ((R2 s).1),.str ((R2 s).2.1),.bool ((R2 s).2.2)]):=A9 e
def B1R{G}(l:K3 G):L2 prog G 91 [.s 9,.s 9] EO [.s 9,.s 9,.s 8]:=by
 intro us outs w vs R o f q hR;unfold EO at f;split at f
 .skip;rename_i s c;split at f
  .rename_i v;cases f;have hv:=V4 (vs2:=[.string ⟨⟨s⟩⟩,.string ⟨⟨c⟩⟩]) o rfl;subst hv;refine gI (vr:=[.string ⟨⟨(R2 s).1⟩⟩,.string ⟨⟨(R2 s).2.1⟩⟩,.bool (R2 s).2.2]) func91 rfl C4 rfl ?_;obtain⟨y,rfl⟩:=v;refine(Tryz.strings_Cut_shaped ⟨⟨s⟩⟩ ⟨⟨[32]⟩⟩ w (wH l q) (by show s.length<_;omega)).mono fun e w' ⟨h1,n,x⟩=>⟨?_,by subst x;exact⟨rfl,rfl,rfl,A6 _,fun _ _=>rfl⟩⟩
   rw[show Lib.cut (ByteArray.mk (Array.mk s)).data.toList (ByteArray.mk (Array.mk [32])).data.toList=R2 s from A8o s]at h1;exact h1
  .cases f
 .cases f
def lbn{s S:B2}{R B:Bool}(h:bnR s=R/\bnA s=S)(e:B=decide ((R2 S).2.2=true/\CG (R2 S).1=0/\(R2 S).2.1≠[])):[U.int .i64 (kpO (R2 S).1).1,.int .i64 (kpO (R2 S).1).2.1,.int .i64 (kpO (R2 S).1).2.2.1,.int .i64 (kpO (R2 S).1).2.2.2.1,.int .i64 (kpO (R2 S).1).2.2.2.2.1,.int .i64 (kpO (R2 S).1).2.2.2.2.2.1,.int .i64 (kpO (R2 S).1).2.2.2.2.2.2.1,.str (kpO (R2 S).1).2.2.2.2.2.2.2,.str (R2 S).2.1,.bool R,.bool B]=[U.int .i64 (bnG s).1,.int .i64 (bnG s).2.1,.int .i64 (bnG s).2.2.1,.int .i64 (bnG s).2.2.2.1,.int .i64 (bnG s).2.2.2.2.1,.int .i64 (bnG s).2.2.2.2.2.1,.int .i64 (bnG s).2.2.2.2.2.2.1,.str (bnG s).2.2.2.2.2.2.2.1,.str (bnG s).2.2.2.2.2.2.2.2.1,.bool (bnG s).2.2.2.2.2.2.2.2.2,.bool (decide (bnP s))]:=by
 obtain⟨rfl,rfl⟩:=h;subst e;rw[(zR _).1];rfl
def B4H{s:B2}(h:¬3<=(s.length:Int)):bnR s=false/\bnA s=s:=by
 have e:bnR s=false:=E5 fun k=>h A2
 exact⟨e,by unfold bnA;rw[e,A7 F3]⟩
def B1c{s:B2}(h:¬List.take ((3:Int).toNat-(0:Int).toNat) (List.drop (0:Int).toNat s)=[45,114,32]):bnR s=false/\bnA s=s:=by
 have e:bnR s=false:=E5 fun k=>h k.1
 exact⟨e,by unfold bnA;rw[e,A7 F3]⟩
def B1b{s:B2}(h:List.drop (3:Int).toNat s=[]):bnR s=false/\bnA s=s:=by
 have e:bnR s=false:=E5 fun k=>by
  have:=E1 List.length h;have q:=k.2;rw[E7]at this;simp at this;omega
 exact⟨e,by unfold bnA;rw[e,A7 F3]⟩
def B1a{s:B2}(h:List.take ((3:Int).toNat-(0:Int).toNat) (List.drop (0:Int).toNat s)=[45,114,32])(f:List.drop (3:Int).toNat s≠[]):bnR s=true/\bnA s=List.drop (3:Int).toNat s:=by
 have e:bnR s=true:=J9 ⟨h,Nat.lt_of_not_le fun k=>f (S6 k)⟩;exact⟨e,by unfold bnA;rw[e,A9 rfl];rfl⟩
def B4R{S:B2}(h:(R2 S).2.2=false):false=decide ((R2 S).2.2=true/\CG (R2 S).1=0/\(R2 S).2.1≠[]):=(E5 fun k=>by rw[h]at k;cases k.1).symm
def B4Q{S:B2}(h:¬kpE (R2 S).1=0):false=decide ((R2 S).2.2=true/\CG (R2 S).1=0/\(R2 S).2.1≠[]):=(E5 fun k=>h ((zR _).2.trans k.2.1)).symm
def B4P{S:B2}(h1:(R2 S).2.2=true)(h:kpE (R2 S).1=0):decide ((R2 S).2.1≠[])=decide ((R2 S).2.2=true/\CG (R2 S).1=0/\(R2 S).2.1≠[]):=by
 rw[(zR _).2]at h;exact decide_eq_decide.2 ⟨fun k=>⟨h1,h,k⟩,fun k=>k.2.2⟩
def UK(s:B2):(R2 s).1.length<=s.length:=by
 unfold R2;split
 .show(List.take _ s).length<=_;rw[G6];omega
 .exact A6 _
noncomputable def B2l:P0:=⟨_,fun e=>(.cons (B1R e) (.cons (SH e) .nil))⟩
def BH:List U->Option (Nat×List U)
 | [.str s]=>if s.length<=100000 then some (0,[.int .i64 ((bnG s).1),.int .i64 ((bnG s).2.1),.int .i64 ((bnG s).2.2.1),.int .i64 ((bnG s).2.2.2.1),.int .i64 ((bnG s).2.2.2.2.1),.int .i64 ((bnG s).2.2.2.2.2.1),.int .i64 ((bnG s).2.2.2.2.2.2.1),.str ((bnG s).2.2.2.2.2.2.2.1),.str ((bnG s).2.2.2.2.2.2.2.2.1),.bool ((bnG s).2.2.2.2.2.2.2.2.2),.bool (decide (bnP s))])else none
 | _=>none
def A46(s:B2)(e:s.length<=100000):BH [.str s]=some (0,[.int .i64 ((bnG s).1),.int .i64 ((bnG s).2.1),.int .i64 ((bnG s).2.2.1),.int .i64 ((bnG s).2.2.2.1),.int .i64 ((bnG s).2.2.2.2.1),.int .i64 ((bnG s).2.2.2.2.2.1),.int .i64 ((bnG s).2.2.2.2.2.2.1),.str ((bnG s).2.2.2.2.2.2.2.1),.str ((bnG s).2.2.2.2.2.2.2.2.1),.bool ((bnG s).2.2.2.2.2.2.2.2.2),.bool (decide (bnP s))]):=A9 e
def QM(n:Nat):Tr:=.fn EO [h 0 9,.string ⟨⟨[32]⟩⟩] 3<|.fn rU [h n 9] 9<|.br (n+2) (J1 (n+11) (n+12) 0 (aN [h (n+1) 9,.string ⟨⟨[]⟩⟩]<|.ret [h3 (n+3),h3 (n+4),h3 (n+5),h3 (n+6),h3 (n+7),h3 (n+8),h3 (n+9),h (n+10) 9,h (n+1) 9,.bool false,h (n+13) 8]) (.ret [h3 (n+3),h3 (n+4),h3 (n+5),h3 (n+6),h3 (n+7),h3 (n+8),h3 (n+9),h (n+10) 9,h (n+1) 9,.bool false,.bool false])) (.ret [h3 (n+3),h3 (n+4),h3 (n+5),h3 (n+6),h3 (n+7),h3 (n+8),h3 (n+9),h (n+10) 9,h (n+1) 9,.bool false,.bool false])
def A7p:Tr:=y9 3 0 1 (.lt 9 (.sub) [h 0 9,jI 0,jI 3]<|aE [h 3 9,.string ⟨⟨[45,114,32]⟩⟩]<|M5 4 5 (QM 6) (fU 3 0 6 (.fn EO [h 6 9,.string ⟨⟨[32]⟩⟩] 3<|.fn rU [h 8 9] 9<|.br 10 (J1 19 20 0 (aN [h 9 9,.string ⟨⟨[]⟩⟩]<|.ret [h3 11,h3 12,h3 13,h3 14,h3 15,h3 16,h3 17,h 18 9,h 9 9,.bool true,h 21 8]) (.ret [h3 11,h3 12,h3 13,h3 14,h3 15,h3 16,h3 17,h 18 9,h 9 9,.bool true,.bool false])) (.ret [h3 11,h3 12,h3 13,h3 14,h3 15,h3 16,h3 17,h 18 9,h 9 9,.bool true,.bool false])) (QM 8))) (QM 3)
def A7q{G}(l:K3 G):L2 prog G 55 [.s 9] BH [.a [3,3,3,3,3,3,3,9,9,8],.s 8]:=by
 refine F2 (d:=60) A7p (cxg (B2l.2 l) .nil) l ⟨f55,_,func55,rfl⟩ C4 C4 ?_;intro us outs f;unfold BH at f;split at f
 .skip;rename_i s;split at f
  .rename_i q;cases f;unfold A7p;refine w0 (.cons 0 _ (.nil)) ?_;repeat (first|refine w4 (fun g=>?_) fun g=>?_|refine w4B (fun g=>?_) fun g=>?_|(refine w7 [.int .i64 _,.int .i64 _,.int .i64 _,.int .i64 _,.int .i64 _,.int .i64 _,.int .i64 _,.str _,.str _,.bool _,.bool _] ?_;rotate_left)|refine XQ ?_|(refine w3 EO (e:=A4s _ _ ⟨by first|omega|(rw[E7];omega),rfl⟩) (k':=?_);show Wk _ _ (.cons _ _ (.cons _ _ (.cons _ _ _))))|(refine w3 rU (e:=SG _ (by have o:=UK s;have n:=UK (List.drop (3:Int).toNat s);rw[E7]at n;omega)) (k':=?_);show Wk _ _ (.cons _ _ (.cons _ _ (.cons _ _ (.cons _ _ (.cons _ _ (.cons _ _ (.cons _ _ (.cons _ _ (.cons _ _ _))))))))))|refine fO ?_|refine gS ?_|refine kU ?_|refine w1 (.sub) (e:=eA _ _ _ _ _ A2 A2 A2) (k':=?_)|refine NX ?_|refine Z6 ?_|refine w1 (.sub1) (e:=nX _ _ _ A2 A2) (k':=?_))
   all_goals
    refine lbn (by first|exact B4H ‹_›|exact B1c ‹_›|exact B1c (D4.1 ‹_›)|exact B1b ‹_›|exact B1b (D4.1 ‹_›)|exact B1a ‹_› ‹_›|exact B1a (D4.1 ‹_›) ‹_›) ?_;first|exact B4R ‹_›|exact B4Q ‹_›|exact B4P ‹_› ‹_›
    all_goals (trace_state;done)
  .cases f
 .cases f
def A9o{s c:B2}(e:c=[10])(h:(s.length:Int)<=16384):CU [.str s,.str c]=some (0,[D8 rS (some (sp 10 s))]):=by
 subst e;exact A3X _ _ ⟨rfl,A2⟩
def B3d{l:List B2}(h0:0<=i)(h1:i<(l.length:Int)):M9 acc (some ((l.drop i.toNat).map lnG))=M9 (M9 acc (some [lnG (l.getD i.toNat default)])) (some ((l.drop (i+1).toNat).map lnG)):=by
 rw[R6 l h0 h1,C3,oE];rfl
def B3e{l:List B2}(h:(l.length:Int)<=i):M9 acc (some ((l.drop i.toNat).map lnG))=acc:=by
 rw[bC l h];exact AW acc
def B3m{s:B2}(h:¬¬List.take ((5:Int).toNat-(0:Int).toNat) (List.drop (0:Int).toNat s)=[98,105,110,100,32])(e:¬¬bnP (List.drop (5:Int).toNat s)):mA s=false:=A8p ⟨D4.1 h,D4.1 e⟩
def B3p{s:B2}(h:¬5<=(s.length:Int)):mA s=true:=PQ fun k=>by
 have:=E1 List.length k.1;rw[G6]at this;have this:min 5 s.length=5:=this;omega
def B3o{s:B2}(h:¬List.take ((5:Int).toNat-(0:Int).toNat) (List.drop (0:Int).toNat s)=[98,105,110,100,32]):mA s=true:=PQ fun k=>h k.1
def B3n{s:B2}(e:¬bnP (List.drop (5:Int).toNat s)):mA s=true:=PQ fun k=>e k.2
noncomputable def B2K:P0:=⟨_,fun e=>(.cons (A5S e) (.cons (SH e) (.cons (DW e) (.cons (A7q e) .nil))))⟩
def vK:List U->Option (Nat×List U)
 | [u_ls,.int .i64 n,.int .i64 i,.int .i64 p1,.int .i64 p2,.int .i64 p3,.int .i64 p4,.int .i64 p5,.int .i64 p6,.int .i64 p7,.str p8,u_acc]=>(L8 rS u_ls).bind fun ls=>(L8 rG u_acc).bind fun acc=>if n=((el ls).length:Int)/\0<=i/\i<=n/\n<=20000/\((el acc).length:Int)<=i/\(∀ x ∈ el ls,x.length<=20000)then W4 (I9 mA ((el ls).drop i.toNat) i) [.int .i64 p1,.int .i64 p2,.int .i64 p3,.int .i64 p4,.int .i64 p5,.int .i64 p6,.int .i64 p7,.str p8,D8 rG (M9 acc (some (((el ls).drop i.toNat).map lnG)))] (fun _=>[])else none
 | _=>none
def rR(ls:(Option (List B2)))(n:Int)(i:Int)(l:Int)(w:Int)(v:Int)(o:Int)(e:Int)(s:Int)(f:Int)(q:B2)(acc:(Option (List (Int×Int×Int×Int×Int×Int×Int×B2×B2×Bool))))(y:n=((el ls).length:Int)/\0<=i/\i<=n/\n<=20000/\((el acc).length:Int)<=i/\(∀ x ∈ el ls,x.length<=20000)):vK [D8 rS ls,.int .i64 n,.int .i64 i,.int .i64 l,.int .i64 w,.int .i64 v,.int .i64 o,.int .i64 e,.int .i64 s,.int .i64 f,.str q,D8 rG acc]=W4 (I9 mA ((el ls).drop i.toNat) i) [.int .i64 l,.int .i64 w,.int .i64 v,.int .i64 o,.int .i64 e,.int .i64 s,.int .i64 f,.str q,D8 rG (M9 acc (some (((el ls).drop i.toNat).map lnG)))] (fun _=>[]):=by
 simp only[vK,G5,D9];exact A9 y
def A6a:R7:=⟨[(2,.pointer (some ⟨16,0,none⟩)),(10,.pointer (some ⟨19,0,none⟩)),(61,dat 20 0 11),(62,h 1 3),(63,h 2 3)],[(16,.cells 35 [.int .i64 (0),.int .i64 (0),.int .i64 (0),.int .i64 (0),.int .i64 (0),.int .i64 (0),.int .i64 (0),.string ⟨⟨[]⟩⟩,.slice none 0 0]),(19,.cells 35 [h 3 3,h 4 3,h 5 3,h 6 3,h 7 3,h 8 3,h 9 3,h 10 9,own 21 11 20]),(21,.sq 11 20 32 22),(20,.frz),(22,.frz)],12,[⟨.exit 0,[(2,.pointer (some ⟨16,0,none⟩)),(10,.pointer (some ⟨19,0,none⟩))],[(16,.cells 35 [.int .i64 (0),.int .i64 (0),.int .i64 (0),.int .i64 (0),.int .i64 (0),.int .i64 (0),.int .i64 (0),.string ⟨⟨[]⟩⟩,.slice none 0 0]),(19,.cells 35 [h 0 3,h 1 3,h 2 3,h 3 3,h 4 3,h 5 3,h 6 3,h 7 9,own 23 8 20]),(23,.sq 8 20 32 24),(24,.frz)],9⟩,⟨.ret,[(2,.pointer (some ⟨16,0,none⟩)),(3,.int .i64 (6))],[(16,.cells 35 [.int .i64 (0),.int .i64 (0),.int .i64 (0),.int .i64 (0),.int .i64 (0),.int .i64 (0),.int .i64 (0),.string ⟨⟨[]⟩⟩,.slice none 0 0])],0⟩]⟩
noncomputable def A0s:Code:=(f23.body).getD .skip
noncomputable def A6W:Code:=match G7 [true,true,true,true,true,true,true,true,false,true,false] A0s with|some (.loop x)=>x|_=>.skip
def A6Z:f23.body=some A0s:=rfl
def A6Y:G7 [true,true,true,true,true,true,true,true,false,true,false] A0s=some (.loop A6W):=C4
def A6X:Tr:=Q8 2 1 12 (dV 0 2 13 (.lt 9 (.get 1 0) [h 0 11,h3 2]<|y9 5 14 15 (.lt 9 (.sub) [h 14 9,jI 0,jI 5]<|aE [h 17 9,.string ⟨⟨[98,105,110,100,32]⟩⟩]<|M5 18 19 (.fn BH [h 14 9] 11<|I4 1) (.lt 9 (.sub1) [h 14 9,jI 5]<|.fn BH [h 20 9] 11<|M5 31 32 (I4 1) (.dt 20 (.snoc 10) [h 11 20,h3 21,h3 22,h3 23,h3 24,h3 25,h3 26,h3 27,h 28 9,h 29 9,h 30 8]<|aA [h3 2,jI 1]<|.ret [jI (-1),h 0 11,h3 1,h3 34,h3 3,h3 4,h3 5,h3 6,h3 7,h3 8,h3 9,h 10 9,h 33 20]))) (.fn BH [h 14 9] 11<|I4 1))) (.ret [jI 0,h3 3,h3 4,h3 5,h3 6,h3 7,h3 8,h3 9,h 10 9,h 11 20])
def A0r:List U->Nat
 | [u_ls,.int .i64 n,.int .i64 i,.int .i64 p1,.int .i64 p2,.int .i64 p3,.int .i64 p4,.int .i64 p5,.int .i64 p6,.int .i64 p7,.str p8,u_acc]=>(match L8 rS u_ls with|some ls=>(match L8 rG u_acc with|some acc=>(n-i).toNat|none=>0)|none=>0)
 | _=>0
def A0q(ls:(Option (List B2)))(n:Int)(i:Int)(l:Int)(w:Int)(v:Int)(o:Int)(e:Int)(s:Int)(f:Int)(q:B2)(acc:(Option (List (Int×Int×Int×Int×Int×Int×Int×B2×B2×Bool)))):A0r [D8 rS ls,.int .i64 n,.int .i64 i,.int .i64 l,.int .i64 w,.int .i64 v,.int .i64 o,.int .i64 e,.int .i64 s,.int .i64 f,.str q,D8 rG acc]=(n-i).toNat:=by
 simp only[A0r,G5]
def B0D{G}(y:K3 G):∀ (E:Nat->U) (base:Nat),@Q5 ⟨E,G⟩ prog base gl f23.ntmps A6W (N0 prog gl n0 25 A6a vK):=by
 refine S3 (dep:=60) (f:=23) (n0:=n0) (nB:=25) (H0:=H0) A0r A6X (cxg (B2K.2 y) .nil) y func23 A6Z A6Y C4 C4 C4 ?_;intro us d outs s;have L:=s;unfold vK at s;split at s
 .skip;rename_i M n i A C I B J F H D K;have x:=B3.1 s;clear s;obtain⟨ls,q,s⟩:=x;replace q:=I2 q;subst q;have w:=B3.1 s;clear s;obtain⟨acc,o,s⟩:=w;replace o:=I2 o;subst o;split at s
  .rename_i v;clear s L;have O:i<n->((el ls).getD i.toNat default).length<=20000:=fun h=>v.2.2.2.2.2 _ (aZ v.2.1 A2)
   refine⟨rfl,?_⟩;unfold A6X;refine w0 (.cons 11 _ (.cons 10 _ (.cons 9 _ (.cons 8 _ (.cons 7 _ (.cons 6 _ (.cons 5 _ (.cons 4 _ (.cons 3 _ (.cons 2 _ (.cons 1 _ (.cons 0 _ (.nil))))))))))))) ?_;repeat (first|refine w4 (fun g=>?_) fun g=>?_|refine w4B (fun g=>?_) fun g=>?_|refine Z6 ?_|refine lD ?_|(refine w3 BH (e:=A46 _ (by have z:=O ‹_›;first|omega|(rw[E7];omega))) (k':=?_);show Wk _ _ (.cons _ _ (.cons _ _ (.cons _ _ (.cons _ _ (.cons _ _ (.cons _ _ (.cons _ _ (.cons _ _ (.cons _ _ (.cons _ _ (.cons _ _ _))))))))))))|(refine w7 [.int .i64 _] ?_;rotate_left)|refine bW ?_|refine W5 ?_|refine aB ?_|refine aF ?_|refine w1 (.get 1 0) (u:=.str _) (e:=C9 rfl A2 A2 rfl) (k':=?_)|refine gS ?_|refine kU ?_|refine w1 (.sub) (e:=eA _ _ _ _ _ A2 A2 A2) (k':=?_)|refine NX ?_|refine w1 (.sub1) (e:=nX _ _ _ A2 A2) (k':=?_)|refine w2 (.snoc 10) (r:=rG) (e:=sT (a:=lnG ((el ls).getD i.toNat default)) rfl rfl F3 A2) (k':=?_)|(refine w7 [.int .i64 _,D8 rS _,.int .i64 _,.int .i64 _,.int .i64 _,.int .i64 _,.int .i64 _,.int .i64 _,.int .i64 _,.int .i64 _,.int .i64 _,.str _,D8 rG _] ?_;rotate_left)|(refine w8 ?_;first|omega)|(refine w7 [.int .i64 _,.int .i64 _,.int .i64 _,.int .i64 _,.int .i64 _,.int .i64 _,.int .i64 _,.int .i64 _,.str _,D8 rG _] ?_;rotate_left))
   all_goals first
    | refine N3 ?_ ?_
      .rw[rR ls n (i+1) A C I B J F H D _ ⟨v.1,A2,A2,v.2.2.2.1,by rw[K6,B4,Z0];omega,v.2.2.2.2.2⟩,rR ls n i A C I B J F H D acc v,Y2 (i:=i) v.2.1 A2 (B3m ‹_› ‹_›),B3d (l:=el ls) (i:=i) v.2.1 A2];rfl
      .rw[A0q,A0q];omega
    | refine I3 (d:=0) ?_
      rw[rR ls n i A C I B J F H D acc v,e9 A2,B3e A2];rfl
    | refine I3 (d:=1) ?_
      have N:mA ((el ls).getD i.toNat default)=true:=by
       first
       | exact B3p ‹_›
       | exact B3o ‹_›
       | exact B3n ‹_›
      rw[rR ls n i A C I B J F H D acc v,d9 (i:=i) v.2.1 A2 N];rfl
  .cases s
 .cases s
noncomputable def B2v:List LpE:=(23,([true,true,true,true,true,true,true,true,false,true,false],N0 prog gl n0 25 A6a vK))::[]
def A3E{G}(e:K3 G):W9 prog G gl B2v:=.cons func23 A6Z A6Y (B0D e) .nil
def B0S{s:B2}{X:Xt}{L:Option (List Gt)}{E:Int}(h1:prX s=X)(e:prL s=L)(h3:prE s=E):[U.int .i64 X.1,.int .i64 X.2.1,.int .i64 X.2.2.1,.int .i64 X.2.2.2.1,.int .i64 X.2.2.2.2.1,.int .i64 X.2.2.2.2.2.1,.int .i64 X.2.2.2.2.2.2.1,.str X.2.2.2.2.2.2.2,D8 rG L,U.int .i64 E]=[U.int .i64 (prX s).1,.int .i64 (prX s).2.1,.int .i64 (prX s).2.2.1,.int .i64 (prX s).2.2.2.1,.int .i64 (prX s).2.2.2.2.1,.int .i64 (prX s).2.2.2.2.2.1,.int .i64 (prX s).2.2.2.2.2.2.1,.str (prX s).2.2.2.2.2.2.2,D8 rG (prL s),U.int .i64 (prE s)]:=by
 subst h1 e h3;rfl
def B0T{s:B2}{E:Int}(h:prE s=E)(e:E≠0):prX s=X0/\prL s=none/\prE s=E:=⟨(B0C (by rw[h];exact e)).1,(B0C (by rw[h];exact e)).2,h⟩
def B3c{L:List B2}(h:¬7<=((L.getD (0:Int).toNat default).length:Int)):¬psP L:=fun k=>by
 have k:=E1 List.length k.1.1;rw[G6]at k;have e:L.getD (0:Int).toNat default=L.headD []:=by cases L<;>rfl
 rw[e]at h;have k:min 7 (L.headD []).length=7:=k;omega
def B3b{L:List B2}(h:¬List.take ((7:Int).toNat-(0:Int).toNat) (List.drop (0:Int).toNat (L.getD (0:Int).toNat default))=[112,114,101,102,105,120,32]):¬psP L:=fun k=>h (by
 have e:L.getD (0:Int).toNat default=L.headD []:=by cases L<;>rfl
 rw[e];exact k.1.1)
def B3a{L:List B2}(h:kpE (List.drop (7:Int).toNat (L.getD (0:Int).toNat default))≠0):¬psP L:=fun k=>h (by
 have e:L.getD (0:Int).toNat default=L.headD []:=by cases L<;>rfl
 rw[e,(zR _).2];exact k.1.2)
def B3Z{L:List B2}(h:(L.length:Int)-1=0):¬psP L:=fun k=>by
 have k:=k.2
 match L,h with
 | [a],_=>cases k
 | [],h=>simp at h
 | a::b::r,h=>simp only[C8]at h;omega
def A0p{L:List B2}(h0:1<=(L.length:Int))(h:¬(L.length:Int)-1=0):L.tail.getLast? = some (L.getD ((L.length:Int)-1).toNat default)/\L.tail.dropLast=((L.drop (1:Int).toNat).take (((L.length:Int)-1).toNat-(1:Int).toNat)).drop (0:Int).toNat:=by
 match L,h0,h with
 | a::b::r,_,_ =>
   have e:(((a::b::r).length:Int)-1).toNat=r.length+1:=by simp only[C8];omega
   rw[e];refine⟨?_,?_⟩
   .show(b::r).getLast? = some ((b::r).getD r.length default);rw[List.getLast?_eq_getElem?,B0];show(b::r)[r.length]? = _;rw[A5 (by simp)];rfl
   .show(b::r).dropLast=(b::r).take r.length;rw[List.dropLast_eq_take];rfl
 | [a],_,h=>exact absurd rfl h
def B3Y{L:List B2}(h0:1<=(L.length:Int))(h1:¬(L.length:Int)-1=0)(h:L.getD ((L.length:Int)-1).toNat default≠[]):¬psP L:=fun k=>by
 have k:=(RO.1 k.2).1;rw[(A0p h0 h1).1]at k;exact h (by injection k)
def B3X{L:List B2}(h0:1<=(L.length:Int))(h1:¬(L.length:Int)-1=0)(h:I9 mA ((el (lG (some L) (1:Int).toNat ((L.length:Int)-1).toNat)).drop (0:Int).toNat) 0=some j):¬psP L:=fun k=>by
 have k:=(RO.1 k.2).2;rw[(A0p h0 h1).2]at k;rw[jL]at h
 have:=(fE h).1;rw[show el (some L)=L from rfl,k]at this;cases this
def B3U{L:List B2}(h0:1<=(L.length:Int))(h1:¬(L.length:Int)-1=0)(f:¬¬List.take ((7:Int).toNat-(0:Int).toNat) (List.drop (0:Int).toNat (L.getD (0:Int).toNat default))=[112,114,101,102,105,120,32])(h3:¬kpE (List.drop (7:Int).toNat (L.getD (0:Int).toNat default))≠0)(l:¬L.getD ((L.length:Int)-1).toNat default≠[])(h:I9 mA ((el (lG (some L) (1:Int).toNat ((L.length:Int)-1).toNat)).drop (0:Int).toNat) 0=none):psP L:=by
 have e:L.getD (0:Int).toNat default=L.headD []:=by cases L<;>rfl
 rw[e]at f h3;refine⟨⟨D4.1 f,?_⟩,RO.2 ⟨?_,?_⟩⟩
 .rw[(zR _).2]at h3;exact D4.1 h3
 .rw[(A0p h0 h1).1,D4.1 l]
 .rw[(A0p h0 h1).2];rw[jL]at h;exact iJ h
def B3W{L:List B2}(h0:1<=(L.length:Int))(h1:¬(L.length:Int)-1=0):((el (lG (some L) (1:Int).toNat ((L.length:Int)-1).toNat)).drop (0:Int).toNat).map lnG=rgs L.tail:=by
 unfold rgs;rw[(A0p h0 h1).2,jL];rfl
def B3V{L:List B2}:kpO (List.drop (7:Int).toNat (L.getD (0:Int).toNat default))=zT ((L.headD []).drop 7):=by
 have e:L.getD (0:Int).toNat default=L.headD []:=by cases L<;>rfl
 rw[e,(zR _).1];rfl
def LJ{s:B2}{E:Int}(h:prE s=E)(e:E≠0):[U.int .i64 0,.int .i64 0,.int .i64 0,.int .i64 0,.int .i64 0,.int .i64 0,.int .i64 0,.str [],D8 rG none,U.int .i64 E]=[U.int .i64 (prX s).1,.int .i64 (prX s).2.1,.int .i64 (prX s).2.2.1,.int .i64 (prX s).2.2.2.1,.int .i64 (prX s).2.2.2.2.1,.int .i64 (prX s).2.2.2.2.2.1,.int .i64 (prX s).2.2.2.2.2.2.1,.str (prX s).2.2.2.2.2.2.2,D8 rG (prL s),U.int .i64 (prE s)] :=
 B0S (X:=X0) (B0T h e).1 (B0T h e).2.1 h
def VG(s:B2):1<=((sp 10 s).length:Int):=by
 have:=YI s 10;omega
def A8H{s:B2}(h:¬16384<(s.length:Int)):((sp 10 s).length:Int)<=16385:=by
 have:=YI s 10;have e:s.count 10<=s.length:=dG;omega
def B3L{s:B2}(h:¬16384<(s.length:Int))(h1:¬((sp 10 s).length:Int)-1=0)(hp:psP (sp 10 s)):prE s=iM (kpO (List.drop (7:Int).toNat ((sp 10 s).getD (0:Int).toNat default))) (el (M9 none (some (((el (lG (some (sp 10 s)) (1:Int).toNat (((sp 10 s).length:Int)-1).toNat)).drop (0:Int).toNat).map lnG))))/\psX s=kpO (List.drop (7:Int).toNat ((sp 10 s).getD (0:Int).toNat default))/\psL s=(M9 none (some (((el (lG (some (sp 10 s)) (1:Int).toNat (((sp 10 s).length:Int)-1).toNat)).drop (0:Int).toNat).map lnG))):=by
 have e:psX s=kpO (List.drop (7:Int).toNat ((sp 10 s).getD (0:Int).toNat default)):=(B3V (L:=sp 10 s)).symm;have f:psL s=(M9 none (some (((el (lG (some (sp 10 s)) (1:Int).toNat (((sp 10 s).length:Int)-1).toNat)).drop (0:Int).toNat).map lnG))):=by
  unfold psL;rw[B3W (VG s) h1]
 exact⟨by rw[B3S A2 hp,e,f],e,f⟩
def B0j(s:B2) : -9223372036854775808<=(zT s).2.2.1/\(zT s).2.2.1<=9223372036854775807/\((zT s).2.2.2.2.2.2.2.length:Int)<=140737488351232:=by
 unfold zT;split
 .rename_i h;obtain⟨e,h0,h1⟩:=TC h.1;rw[e];exact⟨by show _<=(kN s).2.2.1;omega,by show(kN s).2.2.1<=_;omega,by show(0:Int)<=_;decide⟩
 .exact⟨F3,F3,by show(0:Int)<=_;decide⟩
def A9P(s:B2):(R2 s).2.1.length<=s.length:=by
 unfold R2;split
 .show(List.drop _ s).length<=_;rw[E7];omega
 .exact mW _
def A48(s:B2):(bnA s).length<=s.length:=by
 unfold bnA;split
 .rw[E7];omega
 .exact A6 _
def A8m{s:B2}(h:s.length<=20000):gOk (lnG s):=by
 have h1:=B0j (R2 (bnA (s.drop 5))).1;have e:=A9P (bnA (s.drop 5));have h3:=A48 (s.drop 5);rw[E7]at h3;refine⟨h1.1,h1.2.1,h1.2.2,?_⟩;show((R2 (bnA (s.drop 5))).2.1.length:Int)<=_;omega
def YV{s:B2}(h:¬16384<(s.length:Int)){i j:Nat}:∀ x ∈ el (lG (some (sp 10 s)) i j),x.length<=20000:=fun x hx=>by
 rw[jL]at hx
 have:=YH (dE (dD hx));omega
def A96{s:B2}(h:¬16384<(s.length:Int)):((el (M9 none (some (((el (lG (some (sp 10 s)) (1:Int).toNat (((sp 10 s).length:Int)-1).toNat)).drop (0:Int).toNat).map lnG)))).length:Int)<=140737488351232/\∀ g ∈ el (M9 none (some (((el (lG (some (sp 10 s)) (1:Int).toNat (((sp 10 s).length:Int)-1).toNat)).drop (0:Int).toNat).map lnG))),gOk g:=by
 have h1:=A8H h;rw[bB];show(((List.map lnG ((el (lG (some (sp 10 s)) (1:Int).toNat (((sp 10 s).length:Int)-1).toNat)).drop (0:Int).toNat)).length:Nat):Int)<=_/\∀ g ∈ List.map lnG ((el (lG (some (sp 10 s)) (1:Int).toNat (((sp 10 s).length:Int)-1).toNat)).drop (0:Int).toNat),gOk g;refine⟨?_,fun g e=>?_⟩
 .rw[E9,E7,jL,G6,E7];show(((min _ ((sp 10 s).length-_)-_:Nat)):Int)<=_;omega
 .obtain⟨x,hx,rfl⟩:=I6.1 e;exact A8m (YV h x (dE hx))
def B3F{s:B2}{i j:Nat}(h:¬16384<(s.length:Int)):((el (lG (some (sp 10 s)) i j)).length:Int)<=20000:=by
 have:=A8H h;rw[jL,G6,E7];show(((min _ ((sp 10 s).length-_):Nat)):Int)<=_;omega
def A8q(s:B2) : -9223372036854775808<=(kpO s).2.2.1/\(kpO s).2.2.1<=9223372036854775807/\((kpO s).2.2.2.2.2.2.2.length:Int)<=140737488351232:=by rw[(zR s).1];exact B0j s
def B3D{s:B2}(h:¬16384<(s.length:Int)):(((el (some (sp 10 s))).getD (0:Int).toNat default).length:Int)<=140737488351232/\((List.drop (7:Int).toNat ((el (some (sp 10 s))).getD (0:Int).toNat default)).length:Int)<=140737488351232:=by
 have h1:=VG s
 have:=YH (aZ (l:=sp 10 s) (i:=0) F3 A2);rw[E7];exact⟨by show(((sp 10 s).getD _ _).length:Int)<=_;omega,by show(((((sp 10 s).getD (0:Int).toNat default).length-_:Nat)):Int)<=_;omega⟩
noncomputable def B2H:P0:=⟨_,fun e=>(.cons (A5S e) (.cons (SH e) (.cons (DW e) (.cons (A7q e) .nil))))⟩
def A6O:List U->Option (Nat×List U)
 | [.str s]=>if(s.length:Int)<=140737488351232 then some (0,[.int .i64 ((prX s).1),.int .i64 ((prX s).2.1),.int .i64 ((prX s).2.2.1),.int .i64 ((prX s).2.2.2.1),.int .i64 ((prX s).2.2.2.2.1),.int .i64 ((prX s).2.2.2.2.2.1),.int .i64 ((prX s).2.2.2.2.2.2.1),.str ((prX s).2.2.2.2.2.2.2),D8 rG (prL s),.int .i64 (prE s)])else none
 | _=>none
def yZ(n:Nat):Tr:=.dt 20 (.nilw 10) []<|.ret [jI 0,jI 0,jI 0,jI 0,jI 0,jI 0,jI 0,.string ⟨⟨[]⟩⟩,h n 20,jI 6]
def A0i(n:Nat):Tr:=.fn rU [h 7 9] 9<|yZ (n+9)
def A6N:Tr:=aD [h 0 9]<|aG [h3 1,jI 16384]<|.br 2 (.dt 20 (.nilw 10) []<|.ret [jI 0,jI 0,jI 0,jI 0,jI 0,jI 0,jI 0,.string ⟨⟨[]⟩⟩,h 3 20,jI 3]) (.fn CU [h 0 9,.string ⟨⟨[10]⟩⟩] 1<|aD [h 3 11]<|aS [h3 4,jI 1]<|.lt 8 (.inbs 1) [jI 0,h 3 11]<|.br 6 (.lt 9 (.get 1 0) [h 3 11,jI 0]<|y9 7 7 8 (.lt 9 (.sub) [h 7 9,jI 0,jI 7]<|aE [h 10 9,.string ⟨⟨[112,114,101,102,105,120,32]⟩⟩]<|M5 11 12 (A0i 13) (.lt 9 (.sub1) [h 7 9,jI 7]<|.fn rU [h 13 9] 9<|bV 22 23 0 (yZ 24) (J1 5 24 0 (yZ 25) (dV 3 5 25 (.lt 9 (.get 1 0) [h 3 11,h3 5]<|aN [h 26 9,.string ⟨⟨[]⟩⟩]<|.br 27 (yZ 28) (.dt 11 (.subs 1) [h 3 11,jI 1,h3 5]<|aD [h 28 11]<|.dt 20 (.nilw 10) []<|.lp vK [h 28 11,h3 29,jI 0,h3 14,h3 15,h3 16,h3 17,h3 18,h3 19,h3 20,h 21 9,h 30 20] 0 9 (.fn kC [h3 31,h3 32,h3 33,h3 34,h3 35,h3 36,h3 37,h 38 9,h 39 20] 1<|bV 40 41 0 (.dt 20 (.nilw 10) []<|.ret [jI 0,jI 0,jI 0,jI 0,jI 0,jI 0,jI 0,.string ⟨⟨[]⟩⟩,h 42 20,h3 40]) (.ret [h3 31,h3 32,h3 33,h3 34,h3 35,h3 36,h3 37,h 38 9,h 39 20,jI 0])) (.lp vK [h 28 11,h3 29,jI 0,h3 14,h3 15,h3 16,h3 17,h3 18,h3 19,h3 20,h 21 9,h 30 20] 1 0 (yZ 31) (.no)))))))) (A0i 10)) (.no))
def A6P{G}(f:K3 G):L2 prog G 23 [.s 9] A6O [.a [3,3,3,3,3,3,3,9,20],.s 3]:=by
 refine F2 (d:=60) A6N (cxg (B2H.2 f) (A3E f)) f ⟨f23,_,func23,rfl⟩ C4 C4 ?_;intro us outs l;unfold A6O at l;split at l
 .skip;rename_i s;split at l
  .rename_i o;cases l;have n:1<=((el (some (sp 10 s))).length:Int):=VG s;have q:¬16384<(s.length:Int)->((el (some (sp 10 s))).length:Int)<=16385:=A8H;unfold A6N;refine w0 (.cons 0 _ (.nil)) ?_;repeat (first|refine w4 (fun g=>?_) fun g=>?_|refine w2 (.nilw 10) (r:=rG) (e:=mJ rfl) (k':=?_)|(refine w7 [.int .i64 _,.int .i64 _,.int .i64 _,.int .i64 _,.int .i64 _,.int .i64 _,.int .i64 _,.str _,D8 rG _,.int .i64 _] ?_;rotate_left)|(refine w3 rU (e:=SG _ (by have:=B3D (s:=s) ‹_›;first|exact this.1|exact this.2)) (k':=?_);show Wk _ _ (.cons _ _ (.cons _ _ (.cons _ _ (.cons _ _ (.cons _ _ (.cons _ _ (.cons _ _ (.cons _ _ (.cons _ _ _))))))))))|refine gS ?_|refine eN ?_|refine UZ ?_|refine CP ?_|refine aF ?_|refine w1 (.get 1 0) (u:=.str _) (e:=C9 rfl A2 A2 rfl) (k':=?_)|refine tH ?_|(refine w8 ?_;first|omega)|refine wE ?_|refine w31 CU (e:=A9o rfl A2) (k':=?_)|refine kU ?_|refine w1 (.sub) (e:=eA _ _ _ _ _ A2 A2 A2) (k':=?_)|refine NX ?_|refine Z6 ?_|refine w1 (.sub1) (e:=nX _ _ _ A2 A2) (k':=?_)|refine fO ?_|refine XQ ?_|refine w2 (.subs 1) (r:=rS) (e:=MK rfl A2 A2 A2) (k':=?_)|(refine w6 vK (rR _ _ _ _ _ _ _ _ _ _ _ _ ⟨rfl,F3,A2,B3F ‹_›,F3,YV ‹_›⟩) (h0:=fun g=>?_) (h1:=fun v g=>?_);show Wk _ _ (.cons _ _ (.cons _ _ (.cons _ _ (.cons _ _ (.cons _ _ (.cons _ _ (.cons _ _ (.cons _ _ (.cons _ _ _)))))))));rotate_left;skip;rotate_right)|refine w31 kC (e:=xH _ _ _ _ _ _ _ _ _ ⟨(A8q _).1,(A8q _).2.1,(A8q _).2.2,(A96 ‹_›).1,(A96 ‹_›).2⟩) (k':=?_))
   all_goals
    first
    | exact LJ (B3T A2) F3
    | exact LJ (VX A2 (B3c ‹_›)) F3
    | exact LJ (VX A2 (B3b ‹_›)) F3
    | exact LJ (VX A2 (B3a ‹_›)) F3
    | exact LJ (VX A2 (B3Z ‹_›)) F3
    | exact LJ (VX A2 (B3Y (VG s) ‹_› ‹_›)) F3
    | exact LJ (VX A2 (B3X (VG s) ‹_› ‹_›)) F3
    | (have hp:=B3L (s:=s) ‹_› ‹_› (B3U (VG s) ‹_› ‹_› ‹_› ‹_› ‹_›)
       first
       | exact LJ hp.1 ‹_›
       | (have h0:prE s=0:=hp.1.trans (D4.1 ‹_›)
          exact B0S ((B0B h0).1.trans hp.2.1) ((B0B h0).2.trans hp.2.2) h0)
)
  .cases l
 .cases l
def eqI(c:Int)(b:UInt8):Bool:=decide ((b.toNat:Int)=c)
def B33(c:Int)(s:B2):B2×B2×Bool:=match I9 (eqI c) s 0 with
 | some j=>(s.take j.toNat,s.drop (j+1).toNat,true)
 | none=>([],[],false)
def rpB(f:Bool)(s:B2):Bool:=if f=true then decide (psP (sp 10 s))else rok (sp 10 s)
def rpX(f:Bool)(s:B2)(P:Xt):Xt:=if f=true then psX s else P
def rpL(f:Bool)(s:B2)(acc:Option (List Gt)):Option (List Gt):=M9 acc (some (rgs (if f=true then(sp 10 s).tail else sp 10 s)))
attribute [local irreducible] zT CG B33 bnP bnR bnA rpB rpX rpL
end
section
open Go Go.Sx
open Go Go.Sx Go.Proofs.Tryz
noncomputable def B2h:P0:=⟨_,fun e=>(.cons (A6P e) (.cons (LO e) .nil))⟩
def A7c:List U->Option (Nat×List U)
 | []=>some (0,[.int .i64 (1),.int .i64 (98),.int .i64 (4),.int .i64 (0),.int .i64 (0),.int .i64 (0),.int .i64 (0),.str ([]),D8 rG (some B32)])
 | _=>none
def B1N{G}(e:K3 G):L2 prog G 30 [] A7c [.a [3,3,3,3,3,3,3,9,20]]:=by
 refine gU (d:=60) (cxg (B2h.2 e) .nil) e ⟨f30,_,func30,rfl⟩ ?_;intro us outs f;unfold A7c at f;split at f
 .cases f;exact⟨[],by kernel_rfl⟩
 .cases f
noncomputable def B1v:P0:=⟨_,fun e=>(.cons (B1N e) (.cons (B0U e) (.cons (B21 e) (.cons (SH e) (.cons (A6P e) (.cons (A0K e) .nil))))))⟩
def IN:List U->Option (Nat×List U)
 | []=>some (0,[.bool (true)])
 | _=>none
def A3O :IN []=some (0,[.bool (true)]):=rfl
def A9d{G}(e:K3 G):L2 prog G 16 [] IN [.s 8]:=by
 refine gU (d:=60) (cxg (B1v.2 e) .nil) e ⟨f16,_,func16,rfl⟩ ?_;intro us outs f;unfold IN at f;split at f
 .cases f;exact⟨[1,1,1,1,1,1,1,1,1,1,1,1,1,1,1,1,1,1,1,1,1,1,1,1,1,1,1,1,1,1,1,1,1,1,1,1,1,1,1,1,1,1,1,1,1,1,1,1,1,1,1,1,1,1,1,1,1,1,1,1,1,0,0,0,0,0,0,1,1,1,1],by kernel_rfl⟩
 .cases f
def B0a:v8 97 0:=.inl ⟨F3,.inl rfl⟩
def B1O(c m:Int):v8 (dC3 c m) (dM c m):=by
 unfold dC3 dM;by_cases h1:v8 c (m%8)
 .rw[A9 (.inl h1),A9 h1];exact h1
 .by_cases e:v8 c (m%8 / 2%4*2)
  .rw[A9 (.inr (.inl e)),A7 h1,A9 e];exact e
  .by_cases h3:v8 c (m / 2%2*2)
   .rw[A9 (.inr (.inr (.inl h3))),A7 h1,A7 e,A9 h3];exact h3
   .rw[A7 h1,A7 e,A7 h3];by_cases f:v8 c 0
    .rw[A9 (.inr (.inr (.inr f)))];exact f
    .rw[A7 (fun q=>q.elim h1 fun q=>q.elim e fun q=>q.elim h3 f)];exact B0a
def A8g(s:B2):(nE s).any isE=false:=by
 rw[bO];intro x hx;unfold nE at hx
 have:=(P9.1 hx).2;intro h;rw[h]at this;cases this
def B1M{q d1 d2 d3 d4 d5 d6 dc:Int}(e:q=0∨q=1∨q=2∨q=3):Y1 (diK q) (diC q d3 d4 dc) (diM q d3 d4 dc) (diW q d1) (diB q d1 d2 d3 d5 d6) (diR q d5) (diL q d6) (diT q t):=by
 rcases e with rfl|rfl|rfl|rfl
 .exact .inl ⟨rfl,rfl,rfl,rfl,rfl,rfl,B1O _ _⟩
 .refine .inr (.inl ⟨rfl,rfl,rfl,?_⟩);show msP (d3%8) (d1%4) (if Y1 2 0 (d3%8) (d1%4) (d2%4) (d5%40) (d6%80) []then d2%4 else d2%4%2) (d5%40) (d6%80);split
  .rename_i h;rcases h with h|h|h|h
   .exact absurd h.1 F3
   .exact h.2.2.2
   .exact absurd h.1 F3
   .exact absurd h.1 F3
  .unfold msP;omega
 .refine .inr (.inr (.inl ⟨rfl,rfl,rfl,rfl,rfl,rfl,rfl,?_,A8g _⟩))
  have:=A8e (t.take 1000);rw[G6]at this;show(nE (t.take 1000)).length<=1000;omega
 .exact .inr (.inr (.inr ⟨rfl,rfl,rfl,rfl,rfl,rfl,rfl,by show 0<=d1%2;omega,by show d1%2<=1;omega⟩))
def PU(d:Dt):kyP (kIn d):=⟨rfl,B1M (q:=(0:Int)%4) (d1:=d.2.1) (d2:=d.2.2.1) (d3:=d.2.2.2.1) (d4:=d.2.2.2.2.1) (d5:=d.2.2.2.2.2.1) (d6:=d.2.2.2.2.2.2.1) (dc:=d.2.2.2.2.2.2.2.1) (t:=d.2.2.2.2.2.2.2.2) (.inl rfl)⟩
def A9e:∀ n:Nat,n<8->uK (W8.getD n []):=F3
def A8u(ws:List Int)(i:Int):uK (kCm ws i):=by
 unfold kCm;split
 .exact A9e _ A2
 .decide
def kI(p:Xt)(a:List Gt):Prop:=(∀ g ∈ a,gP g)/\(a.map gK).Nodup/\p ∉ a.map gK
def B3t(ws:List Int)(i:Int)(d:Dt):gK (kG ws i d)=kIn d:=by unfold gK kG;rfl
def B0l(ws:List Int)(i:Int)(d:Dt):gP (kG ws i d):=⟨PU d,A8u ws i⟩
def B1q{x:Xt}{a:List Gt}(h:a.any (gQ x)=false):x ∉ a.map gK:=fun k=>by
 obtain⟨g,f,e⟩:=I6.1 k
 have:=bO.1 h g f;exact this (vR.2 e)
def B0f{d:Dt}(h:kI p (el acc)):kI p (el (kdA p ws i d acc)):=by
 unfold kdA;split
 .rename_i c;rw[bB,K6];have o:=B1q c.1;have h3:kIn d≠p:=fun e=>by
   have:=vR.2 e;rw[c.2]at this;cases this
  refine⟨fun g f=>?_,?_,?_⟩
  .rcases B8.1 f with f|f
   .exact h.1 g f
   .obtain rfl:=M7.1 f;exact B0l ws i d
  .rw[M8];refine bM.2 ⟨h.2.1,by simp,fun a n b l=>?_⟩;obtain rfl:=M7.1 l;exact fun e=>o (by rw[B3t]at e;rw[<- e];exact n)
  .rw[M8];intro k;rcases B8.1 k with k|k
   .exact h.2.2 k
   .exact h3 (M7.1 k).symm
 .exact h
def A6u{p:Xt}{ws:List Int}:∀ {l:List Dt} {i:Int} {acc:Option (List Gt)},kI p (el acc)->kI p (el (kdL p ws l i acc))/\(el (kdL p ws l i acc)).length<=(el acc).length+l.length
 | [],i,acc,h=>⟨h,by show(el acc).length<=_;omega⟩
 | d::l,i,acc,h=>by
   have h1:=A6u (ws:=ws) (l:=l) (i:=i+1) (B0f (ws:=ws) (i:=i) (d:=d) h);have e:=A6w p ws i d acc;refine⟨h1.1,?_⟩;have h3:=h1.2;rw[C8];show(el (kdL p ws l (i+1) (kdA p ws i d acc))).length<=_;omega
def A6t{l:List Dt}(hp:kyP p):kmP p (el (kdL p ws (l.take 20) 0 none))/\(el (kdL p ws (l.take 20) 0 none)).length<=20:=by
 have h:=A6u (p:=p) (ws:=ws) (l:=l.take 20) (i:=0) (acc:=none) ⟨fun g e=>(by cases e),mX,K4⟩;have f:=h.2;have h3:(el (none:Option (List Gt))).length=0:=rfl;rw[h3,G6]at f;exact⟨⟨hp,A2,h.1.1,h.1.2.1,h.1.2.2⟩,A2⟩
def B05(h:gP g):gOk g:=by
 obtain⟨h1,o⟩:=h;obtain⟨e,l,f⟩:=TC h1;have h3:=o.2.1;have n:g.2.2.2.2.2.2.2.1=[]:=E1 (fun x:Xt=>x.2.2.2.2.2.2.2) e;refine⟨?_,?_,?_,?_⟩
 .have:(0:Int)<=g.2.2.1:=l;omega
 .have:g.2.2.1<=(7:Int):=f;omega
 .rw[n];decide
 .have:g.2.2.2.2.2.2.2.2.1.length<=100:=h3;omega
def A5g:∀ (a:List Gt) (i:Int),I9 neG (a.zip a) i=none
 | [],_=>rfl
 | g::a,i=>by
   show(if neG (g,g)=true then some i else I9 neG (a.zip a) (i+1))=none;rw[KW (B1H.2 rfl),A7 F3,A5g a]
def A9t(x:Xt)(a:List Gt):oW x x a a=true:=OQ (vR.2 rfl) rfl (A5g a 0)
def B3q{x:Xt}{l:Option (List Gt)}(h:kmP x (el l)) : -9223372036854775808<=x.2.2.1/\x.2.2.1<=9223372036854775807/\(x.2.2.2.2.2.2.2.length:Int)<=140737488351232/\((el l).length:Int)<=140737488351232/\(∀ g ∈ el l,gOk g):=by
 obtain⟨e,q,o⟩:=TC h.1;have n:x.2.2.2.2.2.2.2=[]:=E1 (fun x:Xt=>x.2.2.2.2.2.2.2) e;have s:=h.2.1;exact⟨A2,A2,by rw[n];decide,A2,fun g f=>B05 (h.2.2.1 g f)⟩
def nB(b:UInt8):Bool:=decide ((b.toNat:Int)<=32) || decide (127<=(b.toNat:Int))
def A9p{x:Xt}{a:List Gt}{P:Prop}(h:(!oW x x a a)=true):P:=by rw[A9t]at h;cases h
def A9r(t:B2):((shT t).length:Int)<=20:=by
 unfold shT;rw[G6,E7];show(((min ((min (t.length:Int) 20).toNat-0) (t.length-0):Nat)):Int)<=20;omega
def A8K(h:gOk g):gOk (shG g):=by
 unfold gOk at h;refine⟨h.1,h.2.1,?_,?_⟩
 .show(((g.2.2.2.2.2.2.2.1.drop (0:Int).toNat).take _).length:Int)<=_;rw[G6,E7]
  have:=h.2.2.1;omega
 .show(((g.2.2.2.2.2.2.2.2.1.drop (0:Int).toNat).take _).length:Int)<=_;rw[G6,E7]
  have:=h.2.2.2;omega
def YN{l:List Gt}(h:∀ g ∈ l,gOk g):((el (shL l)).length:Int)<=140737488351232/\∀ g ∈ el (shL l),gOk g:=by
 unfold shL;rw[bB];show(((l.take 70).map shG).length:Int)<=_/\∀ g ∈ (l.take 70).map shG,gOk g;refine⟨by rw[E9,G6];omega,fun g e=>?_⟩;obtain⟨x,hx,rfl⟩:=I6.1 e;exact A8K (h x (dD hx))
def kR(x:Xt)(l:Option (List Gt)):Prop := -9223372036854775808<=x.2.2.1/\x.2.2.1<=9223372036854775807/\(x.2.2.2.2.2.2.2.length:Int)<=140737488351232/\((el l).length:Int)<=140737488351232/\(∀ g ∈ el l,gOk g)
instance(x:Xt)(l:Option (List Gt)):Decidable (kR x l):=by unfold kR;infer_instance
def A6z{x:Xt}{l:List Gt}(h0 : -9223372036854775808<=x.2.2.1)(h1:x.2.2.1<=9223372036854775807)(h:∀ g ∈ l,gOk g):kR (x.1,x.2.1,x.2.2.1,x.2.2.2.1,x.2.2.2.2.1,x.2.2.2.2.2.1,x.2.2.2.2.2.2.1,shT t) (shL l):=⟨h0,h1,by have:=A9r t;show((shT t).length:Int)<=_;omega,(YN h).1,(YN h).2⟩
def A4L{x:Xt}{l:Option (List Gt)}(h:kR x l):((el l).length:Int)<=140737488351232:=h.2.2.2.1
end
end Go.Proofs.YtbbicpheoakeeaaGreatDoor
