import Derived.Test.YtdimocjaepnifaaGreatDoorX14
set_option linter.all false
set_option maxRecDepth 100000
set_option maxHeartbeats 4000000
namespace Go.Proofs.YtdimocjaepnifaaGreatDoor
variable {c cl i m mo r:Int}{q q' y:D4}{p:C8}{ck fo g pa sg:Bool}
section
open Go Go.Sx
def yH(l r:List Int):iB (l++r)=iB l++iB r:=by unfold iB;exact O2
def CE(l:List Int)(n:Nat):iB (l.drop n)=(iB l).drop n:=by unfold iB;exact kZ
def NX(l:List Int)(n:Nat):iB (l.take n)=(iB l).take n:=by unfold iB;exact bR
def A2e:∀ {l:List Int},By l->bI (iB l)=l
 | [],_=>rfl
 | a::r,h=>by
   have d:=h a (by simp);show((UInt8.ofNat a.toNat).toNat:Int)::bI (iB r)=_;rw[A2e (fun x b=>h x (D1 _ b)),UInt8.toNat_ofNat',O6 (show a.toNat<2 ^ 8 by omega)];rw[show((a.toNat:Nat):Int)=a by omega]
def LL(b:Int):List Int->Prop
 | []=>True
 | c::r=>(c<128->r=[]/\c=b)/\LL b r
def B75{b:Int}(h:c<128->c=b):LL b [c]:=⟨fun k=>⟨rfl,h k⟩,trivial⟩
def B5O{l:List Int}{b:Int}(a:By l)(h0:0<=b)(h1:b<256):LL b (el (utC l b)):=by
 have hr:=A2u a h0 h1;have k:el (utC l b)=[]∨(∃ c,el (utC l b)=[c])∨∃ c,el (utC l b)=[65533,c]:=by
  unfold utC;split
  .exact .inr (.inl ⟨_,rfl⟩)
  .split
   .exact .inl rfl
   .split
    .exact .inr (.inl ⟨_,rfl⟩)
    .unfold sR;split
     .exact .inr (.inr ⟨_,rfl⟩)
     .split
      .exact .inr (.inl ⟨_,rfl⟩)
      .exact .inr (.inr ⟨_,rfl⟩)
 rcases k with k|⟨c,k⟩|⟨c,k⟩
 .rw[k];trivial
 .rw[k]at hr ⊢;exact B75 fun h=>((hr c (by simp)).2 h).1
 .rw[k]at hr ⊢;exact⟨fun h=>absurd h B8,B75 fun h=>((hr c (by simp)).2 h).1⟩
def A41{b:Int}(d:128<=b):∀ {L:List Int},LL b L->rcF L=none
 | [],_=>rfl
 | c::r,h=>by
   have a:¬c<128:=fun k=>by have:=(h.1 k).2;omega
   exact(A3 a).trans (A41 d h.2)
def A7B{b:Int}:∀ {L:List Int} {p:D4},LL b L->cP L p=(match rcF L with|none=>p|some _=>if b=27 then some [27]else none)
 | [],_,_=>rfl
 | c::r,p,h=>by
   by_cases a:c<128
   .obtain⟨h1,d⟩:=h.1 a;rw[h1,d];rw[d]at a;rw[show rcF [b]=some ()from A4 a];exact A4 a
   .rw[show rcF (c::r)=rcF r from A3 a,<- A7B h.2];exact A3 a
def A7D{b:Int}:∀ {L:List Int} {m:Int} {x:Option (List Xt)},LL b L->el (cI L m x)=el (match rcF L with|none=>rcI L m x|some _=>S0 (rcI L m x) (sV b false))
 | [],_,_,_=>rfl
 | c::r,m,x,h=>by
   by_cases a:c<128
   .obtain⟨h1,d⟩:=h.1 a;rw[h1,d];rw[d]at a;rw[show rcF [b]=some ()from A4 a,show cI [b] m x=(if b=27 then x else some (el x++[ipK (plC b) (plM b)]))from A4 a,show rcI [b] m x=x from A4 a];show _=el (S0 x (sV b false));rw[T9];unfold sV;split
    .exact(fY _).symm
    .show el x++[ipK (plC b) (plM b)]=el x++[ipK (plC b) (plM b+0)];rw[Int.add_zero]
   .have e:rcF (c::r)=rcF r:=A3 a;have f:∀ {m':Int} {y:Option (List Xt)},rcI (c::r) m x=rcI r m' y->cI (c::r) m x=cI r m' y->el (cI (c::r) m x)=el (match rcF (c::r)with|none=>rcI (c::r) m x|some _=>S0 (rcI (c::r) m x) (sV b false)):=fun h1 d=>by
     rw[e,h1,d];exact A7D h.2
    by_cases d:159<c
    .exact f (m':=0) (y:=some (el x++[ipK c m])) ((A3 a).trans (A4 A0)) ((A3 a).trans (A4 d))
    .exact f (m':=0) (y:=x) ((A3 a).trans (A3 A0)) ((A3 a).trans (A3 d))
def A6G{f:C8}{b:Int}(h:By (el q))(h0:0<=b)(h1:b<256)(z:¬(((el q).length:Int)=0/\b<128)) :
  iB (el (fsP f q b))=rdS f q b/\el (fsI f q b none)=el (rdI q b ((f.length:Int)*2)):=by
 have e:=B5O h h0 h1;have j:¬(((el q).length:Int)=0/\b=27):=A0;unfold fsP fsI;rw[A3 j,A3 z,A3 j,A3 z];by_cases o:rdA q b
 .obtain⟨w,a2⟩:=o;have A:el (utC (el q) b)=[]:=D5.1 A0;rw[<- (B49 (a:=f) (m:=(f.length:Int)*2) ⟨w,a2⟩).1,<- (B49 (a:=f) (m:=(f.length:Int)*2) ⟨w,a2⟩).2,A3 A0,A];refine⟨?_,rfl⟩;show iB (el (fs1 f (utR (el q) b)))=_;unfold fs1;rw[A4 w,T9,E3,yH,AE]
 .cases d:rcF (el (utC (el q) b))with
  | none =>
    obtain⟨t,z2⟩:=B7O (a:=f) (m:=(f.length:Int)*2) o d;rw[<- t,<- z2];refine⟨?_,?_⟩
    .split
     .rfl
     .rename_i n;rw[A7B e,d];show iB (el (fs1 f (utR (el q) b)))=_;have:¬0<((el (utR (el q) b)).length:Int):=fun k=>n ⟨by unfold rdA at o;omega,k⟩
      unfold fs1;rw[A3 this,show el (utR (el q) b)=[]from D5.1 A0];rfl
    .have:=A7D (m:=(f.length:Int)*2) (x:=none) e;rw[d]at this;exact this
  | some u =>
    obtain⟨t,z2⟩:=B7N (a:=f) (m:=(f.length:Int)*2) o d;rw[<- t,<- z2];refine⟨?_,?_⟩
    .split
     .rename_i n;have v:=(A2s n.1 n.2).2;have v:128<=b:=gX (l:=[b]) (by simp) v;rw[A41 v e]at d;cases d
     .rw[A7B e,d];show iB (el (if b=27 then some [27]else none))=fr0 b;unfold fr0;split<;>rfl
    .have:=A7D (m:=(f.length:Int)*2) (x:=none) e;rw[d]at this;exact this
def A6F{e:Bool}{b:Int}(h0:0<=b)(h1:b<256):iB (el (fsP (ahd e) none b))=rfS e b/\el (fsI (ahd e) none b none)=el (rfI e b):=by
 have d:((ahd e).length:Int)*2=(if e then 2 else 0):=by cases e<;>rfl
 by_cases a:b=27
 .rw[<- (A8O (e:=e) a).1,<- (A8O (e:=e) a).2]
  have:=B8o (f:=ahd e) (q:=none) (l:=none) (b:=b) ⟨rfl,a⟩;rw[<- this.1,<- this.2];exact⟨rfl,rfl⟩
 .by_cases h:b>=128
  .rw[<- (A8N (e:=e) a h).1,<- (A8N (e:=e) a h).2,<- d];exact A6G (fun x j=>by cases j) h0 h1 (fun k=>by omega)
  .rw[<- (A8M (e:=e) a h).1,<- (A8M (e:=e) a h).2,<- d]
   have:=B8n (f:=ahd e) (q:=none) (l:=none) (b:=b) (fun k=>a k.2) ⟨rfl,A0⟩;rw[<- this.1,<- this.2];exact⟨rfl,rfl⟩
def C1m(s:C8):rmE s=nE s:=by
 unfold rmE nE;congr 1
def B7f{l:List Int}(w:By l)(hp:Lib.hasPrefix (iB l) [27,91,50,48,48,126]=true):iB (el (psP (some l)))=ptP (iB l)/\el (psI (some l) none)=el (ptI (iB l)):=by
 have he:=B7k w hp;have z:6<=l.length:=by have:=G2 List.length he;rw[B1]at this;have h:pbI.length=6:=rfl;omega
 have ex:∃ t,t=l.drop 6:=⟨_,rfl⟩;obtain⟨t,a⟩:=ex;rw[<- a]at he;have o:ptT (iB l)=iB t:=by unfold ptT;rw[a,CE];rfl
 have d:el (psT (some l))=t:=by rw[XD,a];rfl
 have b:(iB t).length=t.length:=Q0 t;have u:ptE (iB l)=sfX (psT (some l)) peL:=by
  rw[B0v,show(el (some l)).drop 6=t from a.symm];unfold ptE A7g;rw[o,b];by_cases k:6<=t.length
  .rw[D3 (show((t.length:Nat):Int)-6>=0 by omega),Q6];have:(((t.length:Nat):Int)-6).toNat=t.length-6:=A0;rw[this,<- CE];exact decide_eq_decide.2 ⟨fun h=>⟨k,h⟩,fun h=>h.2⟩
  .rw[C9 (show ¬((t.length:Nat):Int)-6>=0 by omega),Q5];exact(C9 fun h=>k h.1).symm
 unfold psP psI ptP ptI;rw[u,o,d,b];cases n:sfX (psT (some l)) peL with
 | true =>
   have x:6<=t.length:=by
    rw[B0v,show(el (some l)).drop 6=t from a.symm]at n;exact(F4 n).1
   rw[A4 rfl,A4 rfl,A4 rfl,A4 rfl];refine⟨rfl,?_⟩;have f:el (sfP (psT (some l)) peL)=t.take (t.length-6):=by
    unfold sfP;rw[A4 n,M1,d];show(t.drop 0).take _=_;rw[P4];congr 1;show((t.length:Int)-((6:Nat):Int)).toNat-0=_;omega
   have j:rmE (iB (el (P8 (sfP (psT (some l)) peL) (0:Int).toNat (min ((el (sfP (psT (some l)) peL)).length:Int) 1000).toNat)))=iB (el (S0 none (some (bI (nE (((iB t).take (min (((t.length:Nat):Int)-6) 1000).toNat).drop (0:Int).toNat)))))):=by
    rw[B51,f,T9];show _=iB ([]++bI _);rw[X4,AE,C1m,NX,NX,List.take_take];show _=nE (List.take _ (iB t));congr 2;omega
   rw[j];rfl
 | false =>
   have e:¬(false=true):=B8;rw[A3 e,A3 e,A3 e,A3 e];refine⟨?_,rfl⟩;by_cases k:1006<((t.length:Nat):Int)
   .rw[A4 k,A4 k,T9,E3,yH,yH,M1,M1];have j:((el (some l)).drop (0:Int).toNat).take ((1006:Int).toNat-(0:Int).toNat)=pbI++t.take 1000:=by
     show(l.drop 0).take 1006=_;rw[P4,he];rfl
    have v:((el (some l)).drop (1008:Int).toNat).take (((el (some l)).length:Int).toNat-(1008:Int).toNat)=t.drop 1002:=by
     rw[L7 (by simp only[F6];omega)];show l.drop 1008=_;rw[a,dU]
    rw[j,v,yH,NX,CE];show _=[27,91,50,48,48,126]++(List.take 1000 (iB t)++[0]++List.drop 1002 (iB t));rw[N5,N5,N5];rfl
   .rw[A3 k,A3 k];show iB l=_;rw[he,yH];rfl
open Go Go.Sx Go.Proofs.Tryz
def lkT(s:C8)(c m:Int):Bool:=decide (aK c m) && (decide (keS false c m=s) || decide (keS true c m=s))
def lkI(s:C8)(c:Int):Nat->Int->Option Int
 | 0,_=>none
 | n+1,m=>if lkT s c m=true then some m else lkI s c n (m+1)
def lkO(s:C8):Nat->Int->Option (Int×Int)
 | 0,_=>none
 | n+1,c=>match lkI s c 8 0 with
   | some m=>some (c,m)
   | none=>lkO s n (c+1)
def lkY(s:C8):Option Xt:=match lkO s 26 1114113 with
 | some (c,m)=>some (ipK c m)
 | none=>if s=[27,91,79]then some (4,0,0,0,0,0,0,[])else if s=[27,91,73]then some (4,0,0,1,0,0,0,[])else if evB s=true then some (2,0,evM (evN s),evW (evG s) (evN s) (mdL s),evT (evN s),evR s,evC s,[])else none
def lkF(s:C8):Xt:=(lkY s).getD (0,0,0,0,0,0,0,[])
def C15{s:C8}{n:Nat}{p:Int×Int}(h:lkO s n 1114113=some p)(a:n=26):lkY s=some (ipK p.1 p.2):=by unfold lkY;rw[<- a,h]
def C18{s:C8}{n:Nat}(h:lkO s n 1114113=none)(b:n=26)(a:s=[27,91,79]):lkY s=some (4,0,0,0,0,0,0,[]):=by
 unfold lkY;rw[<- b,h];exact A4 a
def C1_{s:C8}{n:Nat}(h:lkO s n 1114113=none)(b:n=26)(a:¬s=[27,91,79])(h3:s=[27,91,73]):lkY s=some (4,0,0,1,0,0,0,[]):=by
 unfold lkY;rw[<- b,h];exact(A3 a).trans (A4 h3)
def B5P{s:C8}{x:Xt}(e:lkY s=some x):[U.int .i64 x.1,.int .i64 x.2.1,.int .i64 x.2.2.1,.int .i64 x.2.2.2.1,.int .i64 x.2.2.2.2.1,.int .i64 x.2.2.2.2.2.1,.int .i64 x.2.2.2.2.2.2.1,.str x.2.2.2.2.2.2.2,.bool true]=[U.int .i64 (lkF s).1,.int .i64 (lkF s).2.1,.int .i64 (lkF s).2.2.1,.int .i64 (lkF s).2.2.2.1,.int .i64 (lkF s).2.2.2.2.1,.int .i64 (lkF s).2.2.2.2.2.1,.int .i64 (lkF s).2.2.2.2.2.2.1,.str (lkF s).2.2.2.2.2.2.2,.bool (lkY s).isSome]:=by
 unfold lkF;rw[e];rfl
def C16{s:C8}{n:Nat}(h:lkO s n 1114113=none)(b:n=26)(a:¬s=[27,91,79])(h3:¬s=[27,91,73]):[U.int .i64 (ifI (evB s) 2),.int .i64 0,.int .i64 (ifI (evB s) (evM (evN s))),.int .i64 (ifI (evB s) (evW (evG s) (evN s) (mdL s))),.int .i64 (ifI (evB s) (evT (evN s))),.int .i64 (ifI (evB s) (evR s)),.int .i64 (ifI (evB s) (evC s)),.str [],.bool (evB s)]=[U.int .i64 (lkF s).1,.int .i64 (lkF s).2.1,.int .i64 (lkF s).2.2.1,.int .i64 (lkF s).2.2.2.1,.int .i64 (lkF s).2.2.2.2.1,.int .i64 (lkF s).2.2.2.2.2.1,.int .i64 (lkF s).2.2.2.2.2.2.1,.str (lkF s).2.2.2.2.2.2.2,.bool (lkY s).isSome]:=by
 have e:lkY s=if evB s=true then some (2,0,evM (evN s),evW (evG s) (evN s) (mdL s),evT (evN s),evR s,evC s,[])else none:=by
  unfold lkY;rw[<- b,h];exact(A3 a).trans (A3 h3)
 unfold lkF;rw[e];cases evB s<;>rfl
def B8C{s:C8}(h:¬m<8):lkI s c (8-m).toNat m=none:=by rw[show(8-m).toNat=0 by omega];rfl
def B2x{s:C8}(h:m<8):lkI s c (8-m).toNat m=if lkT s c m=true then some m else lkI s c (8-(m+1)).toNat (m+1):=by rw[show(8-m).toNat=(8-(m+1)).toNat+1 by omega];rfl
def B8A{s:C8}(h:m<8)(b:aK c m)(a:keS false c m=s∨keS true c m=s):lkI s c (8-m).toNat m=some m:=by
 rw[B2x h,A4];unfold lkT;rw[D3 b,Q6,K6];exact a.imp D3 D3
def B8B{s:C8}(h:m<8)(a:¬aK c m∨(¬keS false c m=s/\¬keS true c m=s)):lkI s c (8-m).toNat m=lkI s c (8-(m+1)).toNat (m+1):=by
 rw[B2x h,A3];unfold lkT;rcases a with h|h
 .rw[C9 h,Q5];decide
 .rw[C9 h.1,C9 h.2];simp
def B7_{s:C8}(h:¬c<=1114138):lkO s (1114139-c).toNat c=none:=by rw[show(1114139-c).toNat=0 by omega];rfl
def B2w{s:C8}(h:c<=1114138):lkO s (1114139-c).toNat c=match lkI s c 8 0 with
  | some m=>some (c,m)
  | none=>lkO s (1114139-(c+1)).toNat (c+1):=by rw[show(1114139-c).toNat=(1114139-(c+1)).toNat+1 by omega];rfl
def B78{s:C8}(h:c<=1114138)(a:lkI s c 8 0=some m):lkO s (1114139-c).toNat c=some (c,m):=by rw[B2w h,a]
def B79{s:C8}(h:c<=1114138)(a:lkI s c 8 0=none):lkO s (1114139-c).toNat c=lkO s (1114139-(c+1)).toNat (c+1):=by rw[B2w h,a]
noncomputable def C0q:L5:=⟨_,fun a=>(.cons (IV a) (.cons (A4U a) .nil))⟩
def EQ:List U->Option (Nat×List U)
 | [.str s,.int .i64 c,.int .i64 m]=>if 1114113<=c/\c<=1114138/\0<=m/\m<=8 then Z9 (lkI s c (8-m).toNat m) [.str s,.int .i64 c] (fun m=>[.int .i64 c,.int .i64 m])else none
 | _=>none
def wE(s:C8)(c:Int)(m:Int)(a:1114113<=c/\c<=1114138/\0<=m/\m<=8):EQ [.str s,.int .i64 c,.int .i64 m]=Z9 (lkI s c (8-m).toNat m) [.str s,.int .i64 c] (fun m=>[.int .i64 c,.int .i64 m]):=A4 a
def B2u:Q7:=⟨[(0,h 0 9),(2,.pointer (some ⟨6,0,none⟩)),(4,h 1 3),(5,h 2 3)],[(6,.cells 23 [.int .i64 (0),.int .i64 (0),.int .i64 (0),.int .i64 (0),.int .i64 (0),.int .i64 (0),.int .i64 (0),.string ⟨⟨[]⟩⟩])],3,[⟨.exit 2,[(0,h 0 9),(2,.pointer (some ⟨6,0,none⟩)),(4,h 1 3)],[(6,.cells 23 [.int .i64 (0),.int .i64 (0),.int .i64 (0),.int .i64 (0),.int .i64 (0),.int .i64 (0),.int .i64 (0),.string ⟨⟨[]⟩⟩])],2⟩,⟨.ret,[(2,.pointer (some ⟨6,0,none⟩)),(3,.bool true)],[(6,.cells 23 [.int .i64 (1),h 0 3,h 1 3,.int .i64 (0),.int .i64 (0),.int .i64 (0),.int .i64 (0),.string ⟨⟨[]⟩⟩])],2⟩]⟩
noncomputable def A5g:Code:=(f91.body).getD .skip
noncomputable def B2p:Code:=match H5 [true,false,true,false,false,true,false,false,true,false] A5g with|some (.loop x)=>x|_=>.skip
def B2t:f91.body=some A5g:=rfl
def B2r:H5 [true,false,true,false,false,true,false,false,true,false] A5g=some (.loop B2p):=C3
def B2q:Tr:=M9 2 3 8 (gI 1 2 4 (.fn zP [.bool false,h3 1,h3 2] 1<|aE [h 5 9,h 0 9]<|.br 6 (.ret [jI 1,h3 1,h3 2]) (.fn zP [.bool true,h3 1,h3 2] 1<|aE [h 7 9,h 0 9]<|.br 8 (.ret [jI 1,h3 1,h3 2]) (aA [h3 2,jI 1]<|.ret [jI (-1),h 0 9,h3 1,h3 9]))) (aA [h3 2,jI 1]<|.ret [jI (-1),h 0 9,h3 1,h3 5])) (.ret [jI 0,h 0 9,h3 1])
def B2s:List U->Nat
 | [.str s,.int .i64 c,.int .i64 m]=>(8-m).toNat
 | _=>0
def A5f(s:C8)(c:Int)(m:Int):B2s [.str s,.int .i64 c,.int .i64 m]=(8-m).toNat:=rfl
def B77{G}(b:I6 G):∀ (E:Nat->U) (base:Nat),@U0 ⟨E,G⟩ prog base gl f91.ntmps B2p (O5 prog gl n0 7 B2u EQ):=by
 refine V7 (dep:=60) (f:=91) (n0:=n0) (nB:=7) (H0:=H0) B2s B2q (cxg (C0q.2 b) .nil) b func91 B2t B2r C3 C3 C3 ?_;intro us d outs a;have l:=a;unfold EQ at a;split at a
 .skip;rename_i s c m;split at a
  .rename_i j;clear a l;refine⟨rfl,?_⟩;unfold B2q;refine w0 (.cons 2 _ (.cons 1 _ (.cons 0 _ (.nil)))) ?_;repeat (first|refine w4 (fun g=>?_) fun g=>?_|refine w4B (fun g=>?_) fun g=>?_|refine V1 ?_|refine O0 ?_|refine w31 zP (e:=A0D _ _ _ (by first|assumption|exact F4 ‹_›)) (k':=?_)|refine AR ?_|(refine w7 [.int .i64 _,.int .i64 _,.int .i64 _] ?_;rotate_left)|(refine w7 [.int .i64 _,.str _,.int .i64 _,.int .i64 _] ?_;rotate_left)|refine W3 ?_|refine w31 lP (e:=MS _ _ A0) (k':=?_)|(refine w7 [.int .i64 _,.str _,.int .i64 _] ?_;rotate_left))
   all_goals first
    | refine M0 ?_ ?_
      .rw[wE s c (m+1) ⟨A0,A0,A0,A0⟩,wE s c m j,B8B (s:=s) (c:=c) (m:=m) A0 (by first|exact .inl ‹_›|exact .inl (of_decide_eq_false ‹_›)|exact .inr ⟨by assumption,by assumption⟩)]
      .rw[A5f,A5f];omega
    | refine H6 (d:=0) ?_
      rw[wE s c m j,B8C A0];rfl
    | refine H6 (d:=1) ?_
      rw[wE s c m j,B8A (s:=s) (c:=c) (m:=m) A0 (by first|assumption|exact F4 ‹_›) (by first|exact .inl ‹_›|exact .inr ‹_›)];rfl
  .cases a
 .cases a
noncomputable def B4O:List LpE:=(91,([true,false,true,false,false,true,false,false,true,false],O5 prog gl n0 7 B2u EQ))::[]
def VL{G}(a:I6 G):g8 prog G gl B4O:=.cons func91 B2t B2r (B77 a) .nil
noncomputable def C0p:L5:=⟨_,fun a=>(.cons (IV a) (.cons (A4U a) .nil))⟩
def EP:List U->Option (Nat×List U)
 | [.str s,.int .i64 c]=>if 1114113<=c/\c<=1114139 then Z9 (lkO s (1114139-c).toNat c) [.str s] (fun p=>[.int .i64 p.1,.int .i64 p.2])else none
 | _=>none
def wD(s:C8)(c:Int)(a:1114113<=c/\c<=1114139):EP [.str s,.int .i64 c]=Z9 (lkO s (1114139-c).toNat c) [.str s] (fun p=>[.int .i64 p.1,.int .i64 p.2]):=A4 a
def B2o:Q7:=⟨[(0,h 0 9),(2,.pointer (some ⟨6,0,none⟩)),(4,h 1 3)],[(6,.cells 23 [.int .i64 (0),.int .i64 (0),.int .i64 (0),.int .i64 (0),.int .i64 (0),.int .i64 (0),.int .i64 (0),.string ⟨⟨[]⟩⟩])],2,[⟨.exit 0,[(0,h 0 9),(2,.pointer (some ⟨6,0,none⟩))],[(6,.cells 23 [.int .i64 (0),.int .i64 (0),.int .i64 (0),.int .i64 (0),.int .i64 (0),.int .i64 (0),.int .i64 (0),.string ⟨⟨[]⟩⟩])],1⟩,⟨.ret,[(2,.pointer (some ⟨6,0,none⟩)),(3,.bool true)],[(6,.cells 23 [.int .i64 (1),h 0 3,h 1 3,.int .i64 (0),.int .i64 (0),.int .i64 (0),.int .i64 (0),.string ⟨⟨[]⟩⟩])],2⟩]⟩
noncomputable def A5e:Code:=(f91.body).getD .skip
noncomputable def B2j:Code:=match H5 [true,false,true,false] A5e with|some (.loop x)=>x|_=>.skip
def B2n:f91.body=some A5e:=rfl
def B2l:H5 [true,false,true,false] A5e=some (.loop B2j):=C3
def B2k:Tr:=X0 1 2 1114138 (.lp EQ [h 0 9,h3 1,jI 0] 0 2 (aA [h3 4,jI 1]<|.ret [jI (-1),h 3 9,h3 5]) (.lp EQ [h 0 9,h3 1,jI 0] 1 2 (.ret [jI 1,h3 3,h3 4]) (.no))) (.ret [jI 0,h 0 9])
def B2m:List U->Nat
 | [.str s,.int .i64 c]=>(1114139-c).toNat
 | _=>0
def A5d(s:C8)(c:Int):B2m [.str s,.int .i64 c]=(1114139-c).toNat:=rfl
def B76{G}(a:I6 G):∀ (E:Nat->U) (base:Nat),@U0 ⟨E,G⟩ prog base gl f91.ntmps B2j (O5 prog gl n0 7 B2o EP):=by
 refine V7 (dep:=60) (f:=91) (n0:=n0) (nB:=7) (H0:=H0) B2m B2k (cxg (C0p.2 a) (VL a)) a func91 B2n B2l C3 C3 C3 ?_;intro us d outs b;have j:=b;unfold EP at b;split at b
 .skip;rename_i s c;split at b
  .rename_i e;clear b j;refine⟨rfl,?_⟩;unfold B2k;refine w0 (.cons 1 _ (.cons 0 _ (.nil))) ?_;repeat (first|refine V1 ?_|refine O0 ?_|refine iE ?_|refine w4 (fun g=>?_) fun g=>?_|(refine w6 EQ (wE _ _ _ ⟨A0,A0,B8,B8⟩) (h0:=fun g=>?_) (h1:=fun v g=>?_);show Wk _ _ (.cons _ _ (.cons _ _ _));rotate_left;show Wk _ _ (.cons _ _ (.cons _ _ _));rotate_right)|(refine w7 [.int .i64 _,.str _,.int .i64 _] ?_;rotate_left)|(refine w7 [.int .i64 _,.int .i64 _,.int .i64 _] ?_;rotate_left)|(refine w7 [.int .i64 _,.str _] ?_;rotate_left))
   all_goals first
    | refine M0 ?_ ?_
      .rw[wD s (c+1) ⟨A0,A0⟩,wD s c e,B79 (s:=s) (c:=c) A0 ‹_›]
      .rw[A5d,A5d];omega
    | refine H6 (d:=0) ?_
      rw[wD s c e,B7_ A0];rfl
    | refine H6 (d:=1) ?_
      rw[wD s c e,B78 (s:=s) (c:=c) A0 ‹_›];rfl
  .cases b
 .cases b
noncomputable def C1Q:List LpE:=(91,([true,false,true,false],O5 prog gl n0 7 B2o EP))::B4O
def A7e{G}(a:I6 G):g8 prog G gl C1Q:=.cons func91 B2n B2l (B76 a) (VL a)
noncomputable def C0R:L5:=⟨_,fun a=>(.cons (B7H a) .nil)⟩
def RG:List U->Option (Nat×List U)
 | [.str s]=>if(s.length:Int)<=100000 then some (0,[.int .i64 ((lkF s).1),.int .i64 ((lkF s).2.1),.int .i64 ((lkF s).2.2.1),.int .i64 ((lkF s).2.2.2.1),.int .i64 ((lkF s).2.2.2.2.1),.int .i64 ((lkF s).2.2.2.2.2.1),.int .i64 ((lkF s).2.2.2.2.2.2.1),.str ((lkF s).2.2.2.2.2.2.2),.bool ((lkY s).isSome)])else none
 | _=>none
def A8I(s:C8)(a:(s.length:Int)<=100000):RG [.str s]=some (0,[.int .i64 ((lkF s).1),.int .i64 ((lkF s).2.1),.int .i64 ((lkF s).2.2.1),.int .i64 ((lkF s).2.2.2.1),.int .i64 ((lkF s).2.2.2.2.1),.int .i64 ((lkF s).2.2.2.2.2.1),.int .i64 ((lkF s).2.2.2.2.2.2.1),.str ((lkF s).2.2.2.2.2.2.2),.bool ((lkY s).isSome)]):=A4 a
def B1i:Tr:=.lp EP [h 0 9,jI 1114113] 0 1 (aE [h 1 9,.string ⟨⟨[27,91,79]⟩⟩]<|.br 2 (.ret [jI 4,jI 0,jI 0,jI 0,jI 0,jI 0,jI 0,.string ⟨⟨[]⟩⟩,.bool true]) (aE [h 1 9,.string ⟨⟨[27,91,73]⟩⟩]<|.br 3 (.ret [jI 4,jI 0,jI 0,jI 1,jI 0,jI 0,jI 0,.string ⟨⟨[]⟩⟩,.bool true]) (.fn RJ [h 1 9] 9<|.ret [h3 4,h3 5,h3 6,h3 7,h3 8,h3 9,h3 10,h 11 9,h 12 8]))) (.lp EP [h 0 9,jI 1114113] 1 2 (.ret [jI 1,h3 1,h3 2,jI 0,jI 0,jI 0,jI 0,.string ⟨⟨[]⟩⟩,.bool true]) (.no))
def B7C{G}(b:I6 G):I8 prog G 91 [.s 9] RG [.a [3,3,3,3,3,3,3,9],.s 8]:=by
 refine D0 (d:=60) B1i (cxg (C0R.2 b) (A7e b)) b ⟨f91,_,func91,rfl⟩ C3 C3 ?_;intro us outs f;unfold RG at f;split at f
 .skip;rename_i s;split at f
  .rename_i j;cases f;unfold B1i;refine w0 (.cons 0 _ (.nil)) ?_;repeat (first|(refine w7 [.int .i64 _,.int .i64 _,.int .i64 _,.int .i64 _,.int .i64 _,.int .i64 _,.int .i64 _,.str _,.bool _] ?_;rotate_left)|refine AR ?_|refine w4 (fun g=>?_) fun g=>?_|(refine w6 EP (wD _ _ ⟨B8,B8⟩) (h0:=fun g=>?_) (h1:=fun v g=>?_);show Wk _ _ (.cons _ _ _);rotate_left;show Wk _ _ (.cons _ _ (.cons _ _ _));rotate_right)|(refine w3 RJ (e:=A8Q _ j) (k':=?_);show Wk _ _ (.cons _ _ (.cons _ _ (.cons _ _ (.cons _ _ (.cons _ _ (.cons _ _ (.cons _ _ (.cons _ _ (.cons _ _ _)))))))))))
   all_goals
    first
    | (have e:=C15 (s:=s) ‹_› rfl
       exact B5P e)
    | (have e:=C18 (s:=s) ‹_› rfl ‹_›
       exact B5P e)
    | (have e:=C1_ (s:=s) ‹_› rfl ‹_› ‹_›
       exact B5P e)
    | exact C16 ‹_› rfl ‹_› ‹_›
  .cases f
 .cases f
abbrev qP(s:C8):Qt->Bool:=fun a=>(s == a.1 && true)
def B7X{s:C8}{a:Qt}(h:a.1=s):qP s a=true:=by rw[<- h];show((a.1 == a.1) && true)=true;rw[eO];rfl
def A8a{s:C8}{a:Qt}(h:qP s a=true):s=a.1:=eq_of_beq (P6 h).1
def A8Z{s:C8}{a:Qt}(h:¬a.1=s):qP s a=false:=by
 cases k:qP s a with
 | false=>rfl
 | true=>exact absurd (A8a k).symm h
def lqI(c:Int):Nat->Int->List Qt
 | 0,_=>[]
 | n+1,m=>(if aK c m then[qR (keS false c m) c m,qR (keS true c m) c m]else[])++lqI c n (m+1)
def lqO:Nat->Int->List Qt
 | 0,_=>[]
 | n+1,c=>lqI c 8 0++lqO n (c+1)
def lqF:List Qt:=[([27,91,79],4,0,0,0,0,0,0,[]),([27,91,73],4,0,0,1,0,0,0,[])]
def B2h{s:C8}{c:Int}:∀ (n:Nat) (m:Int),((lqI c n m).find? (qP s)).map (fun a=>a.2)=(lkI s c n m).map (fun m=>ipK c m)
 | 0,_=>rfl
 | n+1,m=>by
   have e:=B2h (s:=s) (c:=c) n (m+1);unfold lqI lkI lkT;by_cases b:aK c m
   .rw[A4 b,D3 b,Q6];show(List.find? (qP s) (qR (keS false c m) c m::qR (keS true c m) c m::lqI c n (m+1))).map _=_;by_cases h1:keS false c m=s
    .rw[N4 (B7X h1),D3 h1,Bool.true_or,A4 rfl];rfl
    .rw[J8 (by rw[A8Z h1];decide),C9 h1,R7];by_cases d:keS true c m=s
     .rw[N4 (B7X d),D3 d,A4 rfl];rfl
     .rw[J8 (by rw[A8Z d];decide),C9 d,A3 B8];exact e
   .rw[A3 b,C9 b,Q5,A3 B8];exact e
def B2g{s:C8}:∀ (n:Nat) (c:Int),((lqO n c).find? (qP s)).map (fun a=>a.2)=(lkO s n c).map (fun p=>ipK p.1 p.2)
 | 0,_=>rfl
 | n+1,c=>by
   have d:=B2g (s:=s) n (c+1);have i1:=B2h (s:=s) (c:=c) 8 0;unfold lqO lkO;rw[dS];cases h:(lqI c 8 0).find? (qP s)with
   | some a =>
     rw[h]at i1;cases b:lkI s c 8 0 with
     | some m=>rw[b]at i1;exact i1
     | none=>rw[b]at i1;cases i1
   | none =>
     rw[h]at i1;cases b:lkI s c 8 0 with
     | some m=>rw[b]at i1;cases i1
     | none=>exact d
def dd:List Qt->List Qt
 | a::b::r=>if A2T a b=true then dd (b::r)else a::dd (b::r)
 | l=>l
def A06(p:Qt->Bool):∀ l:List Qt,(dd l).find? p=l.find? p
 | []=>rfl
 | [_]=>rfl
 | a::b::r=>by
   have d:=A06 p (b::r);unfold dd;by_cases h:A2T a b=true
   .rw[A4 h,d,A6a h];cases hp:p b with
    | true=>rw[N4 hp,N4 hp]
    | false=>rw[J8 (l:=b::r) (by rw[hp];decide)]
   .rw[A3 h];cases hp:p a with
    | true=>rw[N4 hp,N4 hp]
    | false=>rw[J8 (by rw[hp];decide),J8 (by rw[hp];decide),d]
def l3(a:Qt):Bool:=Nat.ble 3 a.1.length
def A05{s:C8}(h:3<=s.length):∀ l:List Qt,(l.filter l3).find? (qP s)=l.find? (qP s)
 | []=>rfl
 | a::r=>by
   have b:=A05 h r;cases h3:l3 a with
   | true =>
     rw[mM h3];cases hp:qP s a with
     | true=>rw[N4 hp,N4 hp]
     | false=>rw[J8 (by rw[hp];decide),J8 (by rw[hp];decide),b]
   | false =>
     rw[List.filter_cons_of_neg (by rw[h3];decide),b];cases hp:qP s a with
     | true =>
       have:=A8a hp;rw[this]at h;have:l3 a=true:=D2 h;rw[this]at h3;cases h3
     | false=>rw[J8 (by rw[hp];decide)]
def B4g:A2U (dd ((lqO 26 1114113++lqF).filter l3)) (fR.drop 3++fR.take 3)=true:=by decide +kernel
def B4h:(fR.drop 3).all (fun a=>(fR.take 3).all (fun b=>!(a.1 == b.1)))=true:=by decide +kernel
def B6R{s:C8}(h:3<=s.length):(lqO 26 1114113++lqF).find? (qP s)=fR.find? (qP s):=by
 rw[<- A05 h,<- A06,YD B4g];have e:fR=fR.take 3++fR.drop 3:=(V4 3 fR).symm;rw[dS];conv=>rhs;rw[e,dS]
 cases h1:(fR.drop 3).find? (qP s)with
 | none=>cases (fR.take 3).find? (qP s)<;>rfl
 | some a =>
   cases d:(fR.take 3).find? (qP s)with
   | none=>rfl
   | some b =>
     exfalso;have k:=D7.1 (D7.1 B4h a (jO h1)) b (jO d);have f:=A8a (List.find?_some h1);have j:=A8a (List.find?_some d);rw[<- f,<- j,eO]at k;cases k
def A0y{w b:Int}(h:U9 2 0 m w b r c []):0<=w/\w<=3/\0<=b/\b<=3/\0<=m/\m<=7/\0<=r/\r<=39/\0<=c/\c<=79:=by
 rcases h with h|h|h|h
 .exact absurd h.1 B8
 .have:=h.2.2.2;unfold msP at this;omega
 .exact absurd h.1 B8
 .exact absurd h.1 B8
def B5I{w b:Int}(h:U9 2 0 m w b r c []):0<=nuS m w b/\nuS m w b<=95:=by
 have:=A5u w;have:=A0y h;unfold nuS;omega
def B3f{n:Int}(h:0<=n/\n<=95):evM n=n / 4%8:=by unfold evM;rw[A4 A0];omega
def B3e{n:Int}(h:0<=n/\n<=95):evT n=n%4:=A4 A0
def B3d{n l:Int}(h:0<=n/\n<=95):evW g n l=mdW g n l:=by
 unfold evW mdW;rw[A3 A0];by_cases h1:n>=64
 .rw[A4 h1,A4 A0]
 .rw[A3 h1,A3 (c:=n / 64%2*64≠0) A0];by_cases a:n>=32
  .rw[A4 a,A4 A0]
  .rw[A3 a,A3 (c:=n / 32%2*32≠0) A0]
def A9P{s:C8}{n l:Int}(d:∀ m w b,U9 2 0 m w b r c []->moS g m w b r c=s->0<=n/\n<=95) :
  (decide (U9 2 0 (evM n) (evW g n l) (evT n) r c []) && decide (moS g (evM n) (evW g n l) (evT n) r c=s))=(decide (U9 2 0 (n / 4%8) (mdW g n l) (n%4) r c []) && decide (moS g (n / 4%8) (mdW g n l) (n%4) r c=s)):=by
 by_cases a:0<=n/\n<=95
 .rw[B3f a,B3e a,B3d a]
 .have f:∀ m w b,(decide (U9 2 0 m w b r c []) && decide (moS g m w b r c=s))=false:=fun m w b=>by
   cases h:(decide (U9 2 0 m w b r c []) && decide (moS g m w b r c=s))with
   | false=>rfl
   | true=>obtain⟨h1,e⟩:=P6 h;exact absurd (d m w b (F4 h1) (F4 e)) a
  rw[f,f]
def EvM(s:C8):Prop:=evB s=mdB s/\(mdB s=true->evN s=mdN s/\(0<=mdN s/\mdN s<=95)/\evG s=mdG s/\evR s=mdR s/\evC s=mdC s)
def B3c{s:C8}{n:Int}(g1:evG s=g)(g2:mdG s=g)(x:evK s=true)(u:mdP s=true)(e:evN s=n)(a:mdN s=n)(r1:evR s=r)(l:mdR s=r)(d:evC s=c)(o:mdC s=c)
  (f:∀ m w b,U9 2 0 m w b r c []->moS g m w b r c=s->0<=n/\n<=95):EvM s:=by
 have t:evB s=(decide (U9 2 0 (evM n) (evW g n (mdL s)) (evT n) r c []) && decide (moS g (evM n) (evW g n (mdL s)) (evT n) r c=s)):=by
  unfold evB;rw[x,Q6];congr 1
  .exact decide_eq_decide.2 (by unfold evX;rw[g1,e,r1,d])
  .rw[g1,e,r1,d]
 have j:mdB s=(decide (U9 2 0 (n / 4%8) (mdW g n (mdL s)) (n%4) r c []) && decide (moS g (n / 4%8) (mdW g n (mdL s)) (n%4) r c=s)):=by
  unfold mdB mdV;rw[u,Q6,g2,a,l,o]
 refine⟨by rw[t,j];exact A9P f,fun h=>?_⟩;rw[j]at h;obtain⟨h1,v⟩:=P6 h
 have:=f _ _ _ (F4 h1) (F4 v);exact⟨e.trans a.symm,by rw[a];exact this,g1.trans g2.symm,r1.trans l.symm,d.trans o.symm⟩
def A1B{s:C8}(h1:evK s=false)(a:mdB s=false):EvM s:=⟨by rw[A9O h1,a],fun h=>by rw[a]at h;cases h⟩
def C2B{s:C8}(hp:Lib.hasPrefix s [27,91]=true)(h3:3<=(s.length:Int)):∃ z t,s=27::91::z::t:=by
 have hp:List.isPrefixOf [27,91] s=true:=hp;rw[O7]at hp;obtain⟨r,hr⟩:=hp;subst hr;cases r with
 | nil=>exact absurd h3 B8
 | cons z t=>exact⟨z,t,rfl⟩
def A5X{s:C8}(h:mdB s=true):U9 2 0 (mdN s / 4%8) (mdV s) (mdN s%4) (mdR s) (mdC s) []/\moS (mdG s) (mdN s / 4%8) (mdV s) (mdN s%4) (mdR s) (mdC s)=s:=by
 unfold mdB at h;obtain⟨_,h⟩:=P6 h;obtain⟨h1,a⟩:=P6 h;exact⟨F4 h1,F4 a⟩
def B82(t:C8):EvM (27::91::77::t):=by
 have e:mdG (27::91::77::t)=false:=rfl;have d:evG (27::91::77::t)=false:=A0_ (by show ¬((77:Int)=60);decide);obtain⟨u,n,r1⟩:=B9F d;obtain⟨j,o,l⟩:=B6i e;by_cases f:((27::91::77::t:C8).length:Int)=6
 .refine B3c d e (B9B d f rfl) (by unfold mdP;rw[A3 (by rw[e];decide)]) u j r1 l n o fun m w b h1 a=>?_
  have v:=B5I h1;unfold moS at a;rw[A4 rfl]at a;have a:(27::91::77::iB [32+nuS m w b,33+(byA (27::91::77::t) 4-33),33+(byA (27::91::77::t) 5-33)]:C8)=27::91::77::t:=a;have h3:=G2 (fun x:C8=>((x.getD 3 0).toNat:Int)) a;have h3:((UInt8.ofNat (32+nuS m w b).toNat).toNat:Int)=byA (27::91::77::t) 3:=h3;rw[UInt8.toNat_ofNat',O6 A0]at h3;omega
 .refine A1B (A9e d f) ?_;cases h:mdB (27::91::77::t)with
  | false=>rfl
  | true =>
    have:=(A5X h).2;rw[e]at this;unfold moS at this;rw[A4 rfl]at this;exact absurd (by rw[<- this,B1,Q0];rfl) f
def C1W{a b d:Int}(h:0<=a):Q9 (some [some [a],some [b],some [c]]) 0 d=a:=by
 unfold Q9;rw[A3]
 .rfl
 .rintro(h1|h1|h1|h1)
  .exact absurd h1 B8
  .have h1:(3:Int)<=0:=h1;omega
  .have h1:(1:Int)=0:=h1;omega
  .have h1:a<0:=h1;omega
def B83(t:C8)(E:4<=((27::91::60::t:C8).length:Int)):EvM (27::91::60::t):=by
 have o:mdG (27::91::60::t)=true:=rfl;obtain⟨B,e,C⟩:=B6h o;have u:mdP (27::91::60::t)=decide ((O9 (dgT (27::91::60::t))).2=0):=by
  unfold mdP;rw[A4 o];exact Q6 _
 have hlen:((27::91::60::t:C8).length:Int)=t.length+3:=by simp only[B6];omega
 have d:dgT (27::91::60::t)=t.take (t.length-1):=by
  show(t.drop 0).take (((t.length:Int)-1).toNat-0)=_;rw[P4];congr 1;omega
 by_cases A:((27::91::60::t:C8).length:Int)>4
 .have f:evG (27::91::60::t)=true:=A6R A rfl;obtain⟨z,v,r1⟩:=B87 f;have he:evD (27::91::60::t)=dgT (27::91::60::t):=by
   rw[d];show t.take ((((27::91::60::t:C8).length:Int)-1).toNat-3)=_;rw[hlen];congr 1;omega
  rw[he]at z v r1;by_cases j:(O9 (dgT (27::91::60::t))).2=0
  .refine B3c f o (B9D f (by rw[he];exact fun h=>h j)) (by rw[u];exact D3 j) z B r1 C v e fun m w b h1 a=>?_
   have n:=B5I h1;have x:=A0y h1;generalize Q9 (O9 (dgT (27::91::60::t))).1 1 0-1=c at h1 a x;generalize Q9 (O9 (dgT (27::91::60::t))).1 2 0-1=r at h1 a x;unfold moS at a;rw[A3 B8]at a;have a:27::91::60::(itz (nuS m w b)++[59]++itz (c+1)++[59]++itz (r+1)++laS w)=27::91::60::t:=by rw[<- a];simp
   have a:=(L8 (L8 (L8 a).2).2).2;have l:(laS w).length=1:=by unfold laS;split<;>rfl
   have h3:t.take (t.length-1)=itz (nuS m w b)++[59]++itz (c+1)++[59]++itz (r+1):=by
    rw[<- a,B1,l];exact oM A0
   rw[d,h3,C1x ⟨n.1,A0⟩ ⟨A0,A0⟩ ⟨A0,A0⟩,C1W n.1];exact n
  .exact A1B (B9E f (by rw[he];exact j)) (A0f (by rw[u];exact C9 j))
 .refine A1B (A9e (A1A A) A0) ?_;have D:t.length-1=0:=A0;rw[D]at d;have d:dgT (27::91::60::t)=[]:=d;rw[d]at e;have e:mdC (27::91::60::t) = -1:=e;cases h:mdB (27::91::60::t)with
  | false=>rfl
  | true =>
    have:=A0y (A5X h).1;rw[e]at this;omega
def B6O{z:UInt8}{k:Nat}(a:k<256)(h:¬z=UInt8.ofNat k):¬((z.toNat:Nat):Int)=k:=fun e=>h (by
 have:z.toNat=k:=A0;rw[<- this];simp)
def B80{s:C8}(hp:Lib.hasPrefix s [27,91]=true)(h3:3<=(s.length:Int))(l:Lib.hasPrefix s [27,91,60]=false∨4<=(s.length:Int)):EvM s:=by
 obtain⟨z,t,rfl⟩:=C2B hp h3;by_cases b:z=77
 .subst b;exact B82 t
 .by_cases a:z=60
  .subst a;exact B83 t (l.resolve_left (by show ¬(true=false);decide))
  .have j:evG (27::91::z::t)=false:=A0_ (B6O (k:=60) B8 a);have d:((77:UInt8) == z)=false:=beq_eq_false_iff_ne.2 fun h=>b h.symm
   have e:((60:UInt8) == z)=false:=beq_eq_false_iff_ne.2 fun h=>a h.symm
   have f:mdG (27::91::z::t)=true:=by
    show(!(((77:UInt8) == z) && true))=true;rw[d];rfl
   refine A1B (B9C j fun h=>?_) (A0f ?_)
   .have h:[27,91,z]=[27,91,77]:=h;exact b (L8 (L8 (L8 h).2).2).1
   .unfold mdP;rw[A4 f];show((((60:UInt8) == z) && true) && _)=false;rw[e];rfl
def C2K{s:C8}(h:(s.length:Int)=3):evB s=false:=A9O (A9e (A1A A0) A0)
def B2v{s:C8}(h3:3<=(s.length:Int))(o:(Lib.hasPrefix s [27,91]=true/\(Lib.hasPrefix s [27,91,60]=false∨4<=(s.length:Int)))∨(Lib.hasPrefix s [27,91]=false/\(s.length:Int)=3)):lkY s=cmX s SL:=by
 have d:=B6R (s:=s) A0;rw[dS]at d;have b:=B2g (s:=s) 26 1114113;unfold lkY cmX;show _=(match fR.find? (qP s)with|some q=>some q.2|none=>_);cases h:lkO s 26 1114113 with
 | some p =>
   rw[h]at b;cases h1:(lqO 26 1114113).find? (qP s)with
   | none=>rw[h1]at b;cases b
   | some a =>
     rw[h1]at b d;have b:a.2=ipK p.1 p.2:=A9 b;have d:some a=fR.find? (qP s):=d;rw[<- d];show some (ipK p.1 p.2)=some a.2;rw[b]
 | none =>
   rw[h]at b;cases h1:(lqO 26 1114113).find? (qP s)with
   | some a=>rw[h1]at b;cases b
   | none =>
     rw[h1]at d;have d:lqF.find? (qP s)=fR.find? (qP s):=d;rw[<- d];show(if s=[27,91,79]then _ else _)=_;by_cases f:s=[27,91,79]
     .rw[A4 f,f];rfl
     .by_cases j:s=[27,91,73]
      .rw[A3 f,A4 j,j];rfl
      .have e:lqF.find? (qP s)=none:=by
        unfold lqF;rw[J8 (by rw[A8Z (fun h=>f h.symm)];decide),J8 (by rw[A8Z (fun h=>j h.symm)];decide)];rfl
       rw[A3 f,A3 j,e];show _=if Lib.hasPrefix s [27,91]=true/\mdB s=true then _ else _
       rcases o with⟨d1,d2⟩|⟨d1,d2⟩
       .obtain⟨t,n⟩:=B80 d1 h3 d2;rw[t];cases hm:mdB s with
        | false=>rw[A3 B8,A3 (fun h=>by cases h.2)]
        | true =>
          obtain⟨v,l,g1,r1,u⟩:=n hm;rw[A4 rfl,A4 ⟨d1,rfl⟩,v,g1,r1,u,B3f l,B3e l,B3d l];rfl
       .rw[C2K d2,A3 B8,A3 (fun h=>by rw[d1]at h;cases h.1)]
abbrev Beg:C8:=[27,91,50,48,48,126]
def rsK(p:C8)(b:Int):Nat:=if(p.length:Int)=0 then 0 else if byA p 0>=128 then 1 else if p=[27]then(if b=27 then 2 else if b=91∨b=79 then 3 else 4)else if byA p 1>=128 then 5 else if byA p 1=79/\(b<64∨b>126)then 0 else if(p.length:Int)>=6/\p.take 6=Beg then 6 else if byA p 1=91/\(p.length:Int)>2/\byA p 2=77 then(if(p.length:Int)+1<6 then 3 else 8)else if byA p 1=91/\b>=32/\b<=63 then(if(p.length:Int)+1>24 then 7 else 3)else if b<64∨b>126 then 0 else if p++iB [b]=[27,91,77]∨p++iB [b]=Beg then 3 else 8
def B6r(p:C8)(b:Int):Nat->C8
 | 0=>rfS false b
 | 1=>rdS [] (some (bI p)) b
 | 2=>[27]
 | 3=>p++iB [b]
 | 4=>rfS true b
 | 5=>rdS [27] (some (bI (p.drop 1))) b
 | 6=>ptP (p++iB [b])
 | _=>[]
def B6s(p:C8)(b:Int):Nat->Option (List Xt)
 | 0=>rfI false b
 | 1=>rdI (some (bI p)) b 0
 | 2=>some [ipK 1114138 0]
 | 4=>rfI true b
 | 5=>rdI (some (bI (p.drop 1))) b 2
 | 6=>ptI (p++iB [b])
 | 8=>(lkY (p++iB [b])).map (fun x=>[x])
 | _=>none
def rsS(p:C8)(b:Int):C8:=B6r p b (rsK p b)
def rsI(p:C8)(b:Int):Option (List Xt):=B6s p b (rsK p b)
def T0(l:List Int):Prop:=l=[]∨128<=l.getD 0 0∨l=[27]∨(l.getD 0 0=27/\2<=l.length/\128<=l.getD 1 0)∨l=[27,79]∨l.take 2=[27,91]
instance(l:List Int):Decidable (T0 l):=by unfold T0;infer_instance
def tk2:∀ {l:List Int},l.take 2=[27,91]->∃ t,l=27::91::t
 | [],h=>by cases h
 | [_],h=>by cases h
 | a::b::t,h=>by
   have h:[a,b]=[27,91]:=h;cases h;exact⟨t,rfl⟩
def Tv(l:List Int):Prop:=Iv (some l)/\T0 l
instance(l:List Int):Decidable (Tv l):=by unfold Tv;infer_instance
abbrev bZ(p:C8)(i:Int):Int:=(((p.getD i.toNat 0).toNat:Nat):Int)
def GP(p:C8)(i:Nat):(bI p).getD i 0=bZ p i:=by
 unfold bI bZ;rw[N6,B4,H9,B4];cases p[i]?<;>rfl
def YP(h:bI p=[]):p=[]:=D5.1 (by rw[<- jG,h];rfl)
def A7I{q:C8}(h:bI p=bI q):p=q:=by rw[<- AE p,h,AE]
def B6P(h:Tv (bI p)):(p.length:Int)<=1012/\(¬p=[]->1<=(p.length:Int))/\(¬p=[]->¬bZ p 0>=128->¬p=[27]->2<=(p.length:Int)/\(bZ p 1>=128∨(bZ p 1=79/\(p.length:Int)=2)∨bZ p 1=91)):=by
 have f:(((bI p).length:Nat):Int)<=1012:=h.1.1;rw[jG]at f;refine⟨f,fun d=>by have:=O1.2 d;omega,fun d h0 a=>?_⟩;have j:=GP p 0;have e:=GP p 1;rcases h.2 with k|k|k|k|k|k
 .exact absurd (YP k) d
 .rw[j]at k;exact absurd k h0
 .exact absurd (A7I (q:=[27]) k) a
 .rw[jG]at k;rw[e]at k;exact⟨A0,.inl k.2.2⟩
 .have:=A7I (q:=[27,79]) k;subst this;exact⟨B8,.inr (.inl ⟨rfl,rfl⟩)⟩
 .obtain⟨t,k⟩:=tk2 k;have b:(bI p).length=t.length+2:=by rw[k];rfl
  rw[jG]at b;exact⟨A0,.inr (.inr (by rw[<- show(bI p).getD 1 0=bZ p 1 from e,k];rfl))⟩
def C1Y{b:Int}(h:Tv (bI p))(h0:bZ p 0>=128)(a:0<=b/\b<256):((([]:C8)=[]∨([]:C8)=[27])/\(((el (some (bI p))).length:Int)<=90/\(((el (some (bI p))).length:Int)=0∨knd (el (some (bI p)))=1)/\0<=b/\b<256/\∀ x ∈ el (some (bI p)),0<=x/\x<256)):=by
 have e:=GP p 0;obtain⟨f,d⟩:=Iv.px h.1 (.inr (by show 128<=(bI p).getD 0 0;rw[e];exact h0));refine⟨.inl rfl,?_,d,a.1,a.2,h.1.2.1⟩;rcases d with k|k
 .omega
 .have:=iV k;omega
def C1X{b:Int}(h:Tv (bI p))(d:¬p=[])(h0:¬bZ p 0>=128)(a:¬p=[27])(h1:bZ p 1>=128)(f:0<=b/\b<256):((([27]:C8)=[]∨([27]:C8)=[27])/\(((el (some (bI (p.drop 1)))).length:Int)<=90/\(((el (some (bI (p.drop 1)))).length:Int)=0∨knd (el (some (bI (p.drop 1))))=1)/\0<=b/\b<256/\∀ x ∈ el (some (bI (p.drop 1))),0<=x/\x<256)):=by
 have j:knd (bI (p.drop 1))=1:=by
  have e:bI (p.drop 1)=(bI p).drop 1:=by unfold bI;exact kZ
  rw[e];have t:=h.1.2.2;have n:(bI p).getD 0 0=bZ p 0:=GP p 0;have l:(bI p).getD 1 0=bZ p 1:=GP p 1;have l2:=(B6P h).2.2 d h0 a;rcases t with k|k|k
  .exact absurd (YP k) d
  .have:=gX (fun e=>d (YP e)) k;have this:128<=(bI p).getD 0 0:=this;rw[n]at this;exact absurd this h0
  .rcases k.2 with k|k
   .have k:(((bI p).length:Nat):Int)=1:=k;rw[jG]at k;omega
   .rcases k.2 with k|k
    .have k:(bI p).getD 1 0<128:=k;rw[l]at k;omega
    .exact k
 refine⟨.inr rfl,?_,.inr j,f.1,f.2,fun x o=>GO o⟩
 have:=iV j;show(((bI (p.drop 1)).length:Nat):Int)<=90;omega
def C17{s:C8}(h:(lkY s).isSome=true):some [lkF s]=(lkY s).map (fun x=>[x]):=by
 unfold lkF;cases a:lkY s with
 | none=>rw[a]at h;cases h
 | some x=>rfl
def C19{s:C8}(h:(lkY s).isSome=false):(none:Option (List Xt))=(lkY s).map (fun x=>[x]):=by
 cases a:lkY s with
 | none=>rfl
 | some x=>rw[a]at h;cases h
def DR{b:Int}{s:C8}{x:Option (List Xt)}{k:Nat}(h:s=B6r p b k)(d:x=B6s p b k)(a:rsK p b=k):[U.str s,B2 rI x]=[U.str (rsS p b),B2 rI (rsI p b)]:=by
 unfold rsS rsI;rw[a,h,d]
noncomputable def B99:L5:=⟨_,fun a=>(.cons (B7F a) (.cons (B17 a) (.cons (B63 a) (.cons (B7C a) .nil))))⟩
def QY:List U->Option (Nat×List U)
 | [.str p,.int .u8 b]=>if(0<=b/\b<256)/\Tv (bI p)then some (0,[.str (rsS p b),B2 rI (rsI p b)])else none
 | _=>none
def A76(p:C8)(b:Int)(a:(0<=b/\b<256)/\Tv (bI p)):QY [.str p,.int .u8 b]=some (0,[.str (rsS p b),B2 rI (rsI p b)]):=A4 a
def WX(n:Nat):Tr:=.fn RG [h 3 9] 9<|J5 (n+8) (n+9) (.dt 18 (.nilw 8) []<|.ret [.string ⟨⟨[]⟩⟩,h (n+10) 18]) (.dt 18 (.mk 8) [h3 n,h3 (n+1),h3 (n+2),h3 (n+3),h3 (n+4),h3 (n+5),h3 (n+6),h (n+7) 9]<|.ret [.string ⟨⟨[]⟩⟩,h (n+10) 18])
def A3u(n:Nat):Tr:=aE [h 3 9,.string ⟨⟨[27,91,77]⟩⟩]<|.br n (gH 3 (n+1)) (aE [h 3 9,.string ⟨⟨[27,91,50,48,48,126]⟩⟩]<|.br (n+1) (gH 3 (n+2)) (WX (n+2)))
def uS(a0:Nat):Tr:=.fn IX [h 1 4,.bool false] 2<|.ret [h a0 9,h (a0+1) 18]
def WW(n:Nat):Tr:=.lt 4 (.idx) [h 0 9,jI 1]<|aE [h n 4,.int .u8 (91)]<|S7 (n+1) (aH [h 1 4,.int .u8 (32)]<|.br (n+2) (aQ [h 1 4,.int .u8 (63)]<|.br (n+3) (jW 3 (n+4) 24 (.dt 18 (.nilw 8) []<|.ret [.string ⟨⟨[]⟩⟩,h (n+6) 18]) (gH 3 (n+6))) (aL [h 1 4,.int .u8 (64)]<|.br (n+4) (.no) (aG [h 1 4,.int .u8 (126)]<|.br (n+5) (uS (n+6)) (A3u (n+6))))) (aL [h 1 4,.int .u8 (64)]<|S7 (n+3) (uS (n+4))))
def B0y:Tr:=.lt 9 (.mks) [h 1 4]<|aC [h 0 9,h 2 9]<|aE [h 0 9,.string ⟨⟨[]⟩⟩]<|.br 4 (uS 5) (.lt 4 (.idx) [h 0 9,jI 0]<|rG 5 6 (.dt 11 (.byt) [h 0 9]<|.fn tB [.string ⟨⟨[]⟩⟩,h 7 11,h 1 4,jI 0] 2<|.ret [h 8 9,h 9 18]) (aE [h 0 9,.string ⟨⟨[27]⟩⟩]<|.br 7 (gJ 1 8 (.dt 18 (.mk 8) [jI 1,jI 1114138,jI 0,jI 0,jI 0,jI 0,jI 0,.string ⟨⟨[]⟩⟩]<|.ret [.string ⟨⟨[27]⟩⟩,h 9 18]) (aE [h 0 9,.string ⟨⟨[27]⟩⟩]<|S7 9 (aE [h 1 4,.int .u8 (91)]<|.br 10 (gH 3 11) (aE [h 1 4,.int .u8 (79)]<|.br 11 (gH 3 12) (aE [h 0 9,.string ⟨⟨[27]⟩⟩]<|S7 12 (.fn IX [h 1 4,.bool true] 2<|.ret [h 13 9,h 14 18])))))) (aE [h 0 9,.string ⟨⟨[27]⟩⟩]<|.br 8 (.no) (aE [h 0 9,.string ⟨⟨[27]⟩⟩]<|.br 9 (.no) (.lt 4 (.idx) [h 0 9,jI 1]<|rG 10 11 (.lt 9 (.sub1) [h 0 9,jI 1]<|.dt 11 (.byt) [h 12 9]<|.fn tB [.string ⟨⟨[27]⟩⟩,h 13 11,h 1 4,jI 2] 2<|.ret [h 14 9,h 15 18]) (.lt 4 (.idx) [h 0 9,jI 1]<|aE [h 12 4,.int .u8 (79)]<|.br 13 (aL [h 1 4,.int .u8 (64)]<|.br 14 (uS 15) (aG [h 1 4,.int .u8 (126)]<|.br 15 (uS 16) (aD [h 0 9]<|aH [h3 16,jI 6]<|.br 17 (.no) (.lt 4 (.idx) [h 0 9,jI 1]<|aE [h 18 4,.int .u8 (91)]<|.br 19 (.no) (.lt 4 (.idx) [h 0 9,jI 1]<|aE [h 20 4,.int .u8 (91)]<|.br 21 (.no) (aL [h 1 4,.int .u8 (64)]<|.br 22 (.no) (aG [h 1 4,.int .u8 (126)]<|.br 23 (.no) (A3u 24)))))))) (aD [h 0 9]<|J6 14 15 6 (.lt 9 (.sub) [h 0 9,jI 0,jI 6]<|aE [h 16 9,.string ⟨⟨[27,91,50,48,48,126]⟩⟩]<|.br 17 (.fn RA [h 3 9] 2<|.ret [h 18 9,h 19 18]) (.lt 4 (.idx) [h 0 9,jI 1]<|aE [h 18 4,.int .u8 (91)]<|S7 19 (aD [h 0 9]<|aG [h3 20,jI 2]<|S7 21 (.lt 4 (.idx) [h 0 9,jI 2]<|aE [h 22 4,.int .u8 (77)]<|.br 23 (aD [h 3 9]<|aL [h3 24,jI 6]<|.br 25 (.no) (WX 26)) (WW 24))))) (.lt 4 (.idx) [h 0 9,jI 1]<|aE [h 16 4,.int .u8 (91)]<|S7 17 (jW 0 18 2 (.lt 4 (.idx) [h 0 9,jI 2]<|aE [h 20 4,.int .u8 (77)]<|.br 21 (aD [h 3 9]<|M9 22 23 6 (gH 3 24) (WX 24)) (WW 22)) (WW 20))))))))))
def B6k{G}(l:I6 G):I8 prog G 67 [.s 9,.s 4] QY [.s 9,.s 18]:=by
 refine D0 (d:=60) B0y (cxg (B99.2 l) .nil) l ⟨f67,_,func67,rfl⟩ C3 C3 ?_;intro us outs j;unfold QY at j;split at j
 .skip;rename_i p b;split at j
  .rename_i f;cases j;have a:=B6P f.2;unfold bZ at a;have n:(((p++iB [b]).length:Nat):Int)=(p.length:Int)+1:=by rw[B1,Q0];rfl
   unfold B0y;refine w0 (.cons 1 _ (.cons 0 _ (.nil))) ?_;repeat (first|refine w4 (fun g=>?_) fun g=>?_|refine w4B (fun g=>?_) fun g=>?_|(refine w7 [.str _,B2 rI _] ?_;rotate_left)|refine w2 (.nilw 8) (r:=rI) (e:=G6 rfl) (k':=?_)|(refine w8 ?_;first|omega|contradiction|(exfalso;have z:=a.2.2 ‹_› A0 ‹_›;omega))|refine AR ?_|refine R8 ?_|refine w1 (.idx) (e:=nP _ _ _ (by first|omega|(have z:=a.2.1 ‹_›;omega)|(have z:=a.2.2 ‹_› A0 ‹_›;omega)) (by first|omega|(have z:=a.2.1 ‹_›;omega)|(have z:=a.2.2 ‹_› A0 ‹_›;omega))) (k':=?_)|refine Y3 ?_|refine iD ?_|refine w32 IX (e:=A8K _ _ f.1) (k':=?_)|refine W3 ?_|refine cB ?_|refine uX ?_|refine bK ?_|refine w2 (.mk 8) (r:=rI) (e:=I0 [(_,_,_,_,_,_,_,_)] rfl B8 rfl) (k':=?_)|(refine w3 RG (e:=A8I _ A0) (k':=?_);show Wk _ _ (.cons _ _ (.cons _ _ (.cons _ _ (.cons _ _ (.cons _ _ (.cons _ _ (.cons _ _ (.cons _ _ (.cons _ _ _))))))))))|refine iE ?_|refine w2 (.byt) (r:=rB) (e:=CK _ rfl) (k':=?_)|refine w32 tB (e:=A0H _ _ _ _ (by first|exact C1Y f.2 ‹_› f.1|exact C1X f.2 ‹_› ‹_› ‹_› ‹_› f.1)) (k':=?_)|refine w1 (.mks) (e:=x6 [_] (by simp only[B7,H7,or_false,forall_eq_or_imp,forall_eq];omega)) (k':=?_)|refine w1 (.bin .add) (e:=X3 _ _ (by first|omega|(simp only[Q0,B1,B6,E0];omega))) (k':=?_)|refine w1 (.sub1) (e:=A08 _ _ _ (by first|omega|(have z:=a.2.1 ‹_›;omega)|(have z:=a.2.2 ‹_› A0 ‹_›;omega)) (by first|omega|(have z:=a.2.1 ‹_›;omega)|(have z:=a.2.2 ‹_› A0 ‹_›;omega))) (k':=?_)|refine w1 (.sub) (e:=wU _ _ _ _ _ A0 A0 A0) (k':=?_)|refine w32 RA (e:=A8C _ ⟨A0,A0⟩) (k':=?_))
   all_goals
    first
    | (have h:p=[]:=by assumption
       have k:rsK p b=0:=by rw[h];rfl
       exact DR rfl rfl k)
    | exact DR (k:=0) rfl rfl (by unfold rsK byA;(repeat (first|rw[A4 (by first|assumption|omega|(have h:p=[]:=by assumption;subst h;rfl)|exact⟨A0,by assumption⟩|exact .inl ‹_›|exact .inr ‹_›)]|rw[A3 (by first|assumption|omega|(have:=a.2.1 ‹_›;omega)|exact fun h=>absurd h.2 ‹_›|exact fun h=>by have:=h.1;omega|exact fun h=>h.elim ‹_› ‹_›)]));first|done|rfl)
    | exact DR (k:=3) rfl rfl (by unfold rsK byA;(repeat (first|rw[A4 (by first|assumption|omega|(have h:p=[]:=by assumption;subst h;rfl)|exact⟨A0,by assumption⟩|exact .inl ‹_›|exact .inr ‹_›)]|rw[A3 (by first|assumption|omega|(have:=a.2.1 ‹_›;omega)|exact fun h=>absurd h.2 ‹_›|exact fun h=>by have:=h.1;omega|exact fun h=>h.elim ‹_› ‹_›)]));first|done|rfl)
    | exact DR (k:=8) rfl (C17 (nbF ‹_›)) (by unfold rsK byA;(repeat (first|rw[A4 (by first|assumption|omega|(have h:p=[]:=by assumption;subst h;rfl)|exact⟨A0,by assumption⟩|exact .inl ‹_›|exact .inr ‹_›)]|rw[A3 (by first|assumption|omega|(have:=a.2.1 ‹_›;omega)|exact fun h=>absurd h.2 ‹_›|exact fun h=>by have:=h.1;omega|exact fun h=>h.elim ‹_› ‹_›)]));first|done|rfl)
    | exact DR (k:=8) rfl (C19 (nbT ‹_›)) (by unfold rsK byA;(repeat (first|rw[A4 (by first|assumption|omega|(have h:p=[]:=by assumption;subst h;rfl)|exact⟨A0,by assumption⟩|exact .inl ‹_›|exact .inr ‹_›)]|rw[A3 (by first|assumption|omega|(have:=a.2.1 ‹_›;omega)|exact fun h=>absurd h.2 ‹_›|exact fun h=>by have:=h.1;omega|exact fun h=>h.elim ‹_› ‹_›)]));first|done|rfl)
    | exact DR (k:=1) rfl rfl (by unfold rsK byA;(repeat (first|rw[A4 (by first|assumption|omega|(have h:p=[]:=by assumption;subst h;rfl)|exact⟨A0,by assumption⟩|exact .inl ‹_›|exact .inr ‹_›)]|rw[A3 (by first|assumption|omega|(have:=a.2.1 ‹_›;omega)|exact fun h=>absurd h.2 ‹_›|exact fun h=>by have:=h.1;omega|exact fun h=>h.elim ‹_› ‹_›)]));first|done|rfl)
    | exact DR (k:=2) rfl rfl (by unfold rsK byA;(repeat (first|rw[A4 (by first|assumption|omega|(have h:p=[]:=by assumption;subst h;rfl)|exact⟨A0,by assumption⟩|exact .inl ‹_›|exact .inr ‹_›)]|rw[A3 (by first|assumption|omega|(have:=a.2.1 ‹_›;omega)|exact fun h=>absurd h.2 ‹_›|exact fun h=>by have:=h.1;omega|exact fun h=>h.elim ‹_› ‹_›)]));first|done|rfl)
    | exact DR (k:=4) rfl rfl (by unfold rsK byA;(repeat (first|rw[A4 (by first|assumption|omega|(have h:p=[]:=by assumption;subst h;rfl)|exact⟨A0,by assumption⟩|exact .inl ‹_›|exact .inr ‹_›)]|rw[A3 (by first|assumption|omega|(have:=a.2.1 ‹_›;omega)|exact fun h=>absurd h.2 ‹_›|exact fun h=>by have:=h.1;omega|exact fun h=>h.elim ‹_› ‹_›)]));first|done|rfl)
    | exact DR (k:=5) rfl rfl (by unfold rsK byA;(repeat (first|rw[A4 (by first|assumption|omega|(have h:p=[]:=by assumption;subst h;rfl)|exact⟨A0,by assumption⟩|exact .inl ‹_›|exact .inr ‹_›)]|rw[A3 (by first|assumption|omega|(have:=a.2.1 ‹_›;omega)|exact fun h=>absurd h.2 ‹_›|exact fun h=>by have:=h.1;omega|exact fun h=>h.elim ‹_› ‹_›)]));first|done|rfl)
    | exact DR (k:=6) rfl rfl (by unfold rsK byA;(repeat (first|rw[A4 (by first|assumption|omega|(have h:p=[]:=by assumption;subst h;rfl)|exact⟨A0,by assumption⟩|exact .inl ‹_›|exact .inr ‹_›)]|rw[A3 (by first|assumption|omega|(have:=a.2.1 ‹_›;omega)|exact fun h=>absurd h.2 ‹_›|exact fun h=>by have:=h.1;omega|exact fun h=>h.elim ‹_› ‹_›)]));first|done|rfl)
    | exact DR (k:=7) rfl rfl (by unfold rsK byA;(repeat (first|rw[A4 (by first|assumption|omega|(have h:p=[]:=by assumption;subst h;rfl)|exact⟨A0,by assumption⟩|exact .inl ‹_›|exact .inr ‹_›)]|rw[A3 (by first|assumption|omega|(have:=a.2.1 ‹_›;omega)|exact fun h=>absurd h.2 ‹_›|exact fun h=>by have:=h.1;omega|exact fun h=>h.elim ‹_› ‹_›)]));first|done|rfl)
    | (exfalso;omega)
  .cases j
 .cases j
def B6V{x:List Int}(a:x≠[])(h:knd x=1):T0 x:=.inr (.inl (gX a h))
def B6W{x:List Int}(b:x≠[])(h:knd x=1):T0 (27::x):=by
 have d:1<=x.length:=O1.2 b;refine .inr (.inr (.inr (.inl ⟨rfl,by simp only[B6];omega,?_⟩)))
 have:=gX b h;cases x with
 | nil=>exact absurd rfl b
 | cons a r=>exact this
def QC{f:C8}{b:Int}(t:f=[]∨f=[27])(n:By (el q))(h0:0<=b)(h1:b<256):T0 (el (fsP f q b)):=by
 unfold fsP;split
 .exact .inr (.inr (.inl rfl))
 .split
  .exact .inl rfl
  .have hu:=A2t (l:=el q) n h0 h1;split
   .rcases hu with h|⟨x,h,d,o,a⟩
    .rw[h];exact .inl rfl
    .rw[h];exact B6V a d
   .have e:T0 (el (fs1 f (utR (el q) b))):=by
     unfold fs1;split
     .rcases hu with h|⟨x,h,d,o,a⟩
      .rename_i j;rw[h]at j;exact absurd j B8
      .rw[h,T9];rcases t with rfl|rfl
       .exact B6V a d
       .exact B6W a d
     .exact .inl rfl
    rcases A7C (el (utC (el q) b)) (fs1 f (utR (el q) b))with h|h|h
    .rw[h];exact e
    .rw[h];exact .inl rfl
    .rw[h];exact .inr (.inr (.inl rfl))
def A3C{b:Int}(h0:0<=b)(h1:b<256):T0 (el (fsP [] none b)):=QC (.inl rfl) (fun x a=>by cases a) h0 h1
def B6U(t:List Int):T0 (el (psP (some (27::91::t)))):=by
 unfold psP;split
 .exact .inl rfl
 .split
  .rw[T9,E3,M1];exact .inr (.inr (.inr (.inr (.inr rfl))))
  .exact .inr (.inr (.inr (.inr (.inr rfl))))
def B6T{t:List Int}{b:Int}(h0:0<=b)(h1:b<256):T0 (el (sqP (some (27::91::t)) b)):=by
 unfold sqP;split
 .exact B6U t
 .exact .inr (.inr (.inr (.inr (.inr rfl))))
 .exact .inl rfl
 .exact A3C h0 h1
 .exact .inl rfl
def B6S{l:List Int}{b:Int}(v:T0 l)(d:By l)(h0:0<=b)(h1:b<256):T0 (el (stP (some l) b)):=by
 unfold stP;split
 .exact QC (.inl rfl) d h0 h1
 .rename_i w;split
  .exact QC (.inl rfl) d h0 h1
  .rename_i n;split
   .rename_i u;split
    .exact QC (.inr rfl) (fun x j=>by rw[M1]at j;exact d x (K0 (N3 j))) h0 h1
    .rename_i f;split
     .split
      .split
       .exact .inl rfl
       .exact A3C h0 h1
      .exact A3C h0 h1
     .rename_i o;rcases v with h|h|h|h|h|h
      .subst h;exact absurd rfl w
      .exact absurd h n
      .subst h;exact absurd rfl u
      .exact absurd h.2.2 f
      .subst h;exact absurd rfl o
      .obtain⟨t,h⟩:=tk2 h;subst h;exact B6T h0 h1
   .split
    .exact v
    .split
     .rename_i a _ e;have a:=A6B d (K2.1 a);have a:l=[27]:=a;subst a;rw[e];exact .inr (.inr (.inr (.inr (.inr rfl))))
     .split
      .rename_i a _ _ e;have a:=A6B d (K2.1 a);have a:l=[27]:=a;subst a;rw[e];exact .inr (.inr (.inr (.inr (.inl rfl))))
      .exact QC (.inr rfl) (fun x j=>by cases j) h0 h1
def OX{l:List Int}(a:By l){k:Nat}(b:k<l.length):byA (iB l) k=l.getD k 0:=by
 unfold byA;have e:(iB l).getD (k:Int).toNat 0=UInt8.ofNat (l.getD k 0).toNat:=by
  rw[N6];simp[B4,iB,A7 b]
 have h:=a _ (lV (i:=(k:Int)) A0 A0);rw[N6]at h;have h:0<=l.getD k 0/\l.getD k 0<256:=h;rw[e,UInt8.toNat_ofNat',O6 A0];omega
def RS(l:List Int)(b:Int):Prop:=rsS (iB l) b=iB (el (stP (some l) b))/\el (rsI (iB l) b)=el (stI (some l) b SL none)
def B6q{l:List Int}{b:Int}(h0:0<=b)(h1:b<256)(a:rsK (iB l) b=0)(hp:el (stP (some l) b)=el (fsP [] none b))(hi:el (stI (some l) b SL none)=el (fsI [] none b none)):RS l b:=by
 unfold RS rsS rsI;rw[a,hp,hi]
 have:=A6F (e:=false) h0 h1;exact⟨this.1.symm,this.2.symm⟩
def C1n{a:C8}{b:Int}(h:el q=el q'):rdS a q b=rdS a q' b/\rdI q b m=rdI q' b m:=by
 have e:rdA q b↔rdA q' b:=by unfold rdA;rw[h]
 unfold rdS rdI;by_cases d:rdA q b
 .rw[A4 d,A4 (e.1 d),A4 d,A4 (e.1 d),h];exact⟨rfl,rfl⟩
 .rw[A3 d,A3 (fun k=>d (e.2 k)),A3 d,A3 (fun k=>d (e.2 k)),h];exact⟨rfl,rfl⟩
def A0m(l:List Int):(((iB l).length:Nat):Int)=l.length:=by rw[Q0]
def B5Q{s:C8}(h:lkY s=cmX s SL):el ((lkY s).map (fun x=>[x]))=el (cmI s SL none):=by
 rw[h];unfold cmI;cases cmX s SL<;>rfl
def B6p{l:List Int}{b:Int}(hv:Iv (some l))(Z:T0 l)(h0:0<=b)(h1:b<256):RS l b:=by
 obtain⟨hl,B,hf⟩:=hv;have hl:(l.length:Int)<=1012:=hl;have B:By l:=B;rcases Z with h|h|h|h|h|h
 .subst h;exact B6q h0 h1 rfl rfl rfl
 ·
  have o:¬(l.length:Int)=0:=fun k=>by
   have:l=[]:=D5.1 A0;subst this;exact absurd h B8
  have W:byA (iB l) 0=l.getD 0 0:=OX B (k:=0) A0;have D:rsK (iB l) b=1:=by unfold rsK;rw[A0m,A3 o,W,A4 h]
  have X:¬(((el (some l)).length:Int)=0/\b<128):=fun k=>o k.1
  obtain⟨U,Q⟩:=A6G (f:=[]) (q:=some l) B h0 h1 X;have d1:stP (some l) b=fsP [] (some l) b:=by unfold stP;rw[E3,A3 o,A4 h]
  have d2:stI (some l) b SL none=fsI [] (some l) b none:=by unfold stI;rw[E3,A3 o,A4 h]
  unfold RS rsS rsI;rw[D,d1,d2,U,Q];show rdS [] (some (bI (iB l))) b=_/\el (rdI (some (bI (iB l))) b 0)=_;rw[A2e B];exact⟨rfl,rfl⟩
 .subst h;by_cases C:b=27
  .subst C;exact⟨rfl,rfl⟩
  .by_cases G:b=91
   .subst G;exact⟨rfl,rfl⟩
   .by_cases K:b=79
    .subst K;exact⟨rfl,rfl⟩
    .have D:rsK (iB [27]) b=4:=by
      show(if b=27 then 2 else if b=91∨b=79 then 3 else 4)=4;rw[A3 C,A3 A0]
     have d1:stP (some [27]) b=fsP [27] none b:=by
      show(if b=27 then some [27]else if b=91 then some ([27]++[b])else if b=79 then some ([27]++[b])else fsP [27] none b)=_;rw[A3 C,A3 G,A3 K]
     have d2:stI (some [27]) b SL none=fsI [27] none b none:=by
      show(if b=27 then _ else if b=91 then none else if b=79 then none else fsI [27] none b none)=_;rw[A3 C,A3 G,A3 K]
     unfold RS rsS rsI;rw[D,d1,d2]
     have:=A6F (e:=true) h0 h1;exact⟨this.1.symm,this.2.symm⟩
 ·
  obtain⟨a0,a1,a2⟩:=h;have W:byA (iB l) 0=l.getD 0 0:=OX B (k:=0) A0;have V:byA (iB l) 1=l.getD 1 0:=OX B (k:=1) A0;have o:¬(l.length:Int)=0:=A0;have I:¬l.getD 0 0>=128:=A0;have w:iB l≠[27]:=fun k=>by
   have:=G2 List.length k;rw[Q0]at this;have:l.length=1:=this;omega
  have D:rsK (iB l) b=5:=by unfold rsK;rw[A0m,A3 o,W,A3 I,A3 w,V,A4 a2]
  have R:el (P8 (some l) 1 (el (some l)).length)=l.drop 1:=QK (p:=some l);have Y:By (el (P8 (some l) 1 (el (some l)).length)):=by rw[R];exact fun x z=>B x (K0 z)
  have X:¬(((el (P8 (some l) 1 (el (some l)).length)).length:Int)=0/\b<128):=fun k=>by
   rw[R,F6]at k;omega
  obtain⟨U,Q⟩:=A6G (f:=[27]) (q:=P8 (some l) 1 (el (some l)).length) Y h0 h1 X;have d1:stP (some l) b=fsP [27] (P8 (some l) 1 (el (some l)).length) b:=by
   unfold stP;rw[E3,A3 o,A3 I,A4 w,A4 a2]
  have d2:stI (some l) b SL none=fsI [27] (P8 (some l) 1 (el (some l)).length) b none:=by
   unfold stI;rw[E3,A3 o,A3 I,A4 w,A4 a2]
  have c1:=C1n (a:=[27]) (b:=b) (m:=2) (q:=P8 (some l) 1 (el (some l)).length) (q':=some (bI ((iB l).drop 1))) (by
   rw[R,E3,<- CE,A2e fun x z=>B x (K0 z)])
  unfold RS rsS rsI;rw[D,d1,d2,U,Q,show(([27]:C8).length:Int)*2=2 from rfl,c1.1,c1.2];exact⟨rfl,rfl⟩
 .subst h;by_cases hr:b<64∨b>126
  .refine B6q h0 h1 ?_ ?_ ?_
   .show(if(79:Int)=79/\(b<64∨b>126)then 0 else _)=0;rw[A4 ⟨rfl,hr⟩]
   .show el (if b>=64 then(if b<=126 then none else fsP [] none b)else fsP [] none b)=_;by_cases k:b>=64
    .rw[A4 k,A3 A0]
    .rw[A3 k]
   .show el (if b>=64 then(if b<=126 then _ else fsI [] none b none)else fsI [] none b none)=_;by_cases k:b>=64
    .rw[A4 k,A3 A0]
    .rw[A3 k]
  .have D:rsK (iB [27,79]) b=8:=by
    show(if(79:Int)=79/\(b<64∨b>126)then 0 else if b<64∨b>126 then 0 else if iB [27,79]++iB [b]=[27,91,77]∨iB [27,79]++iB [b]=Beg then 3 else 8)=8;rw[A3 (fun k=>hr k.2),A3 hr,A3]
    rintro(k|k)
    .exact absurd (L8 (L8 k).2).1 B8
    .exact absurd (L8 (L8 k).2).1 B8
   have d1:stP (some [27,79]) b=none:=by
    show(if b>=64 then(if b<=126 then none else fsP [] none b)else fsP [] none b)=_;rw[A4 A0,A4 A0]
   have d2:stI (some [27,79]) b SL none=cmI (iB [27,79]++iB [b]) SL none:=by
    show(if b>=64 then(if b<=126 then cmI (iB ([27,79]++[b])) SL none else fsI [] none b none)else fsI [] none b none)=_;rw[A4 A0,A4 A0];rfl
   unfold RS rsS rsI;rw[D,d1,d2];exact⟨rfl,B5Q (B2v (s:=iB [27,79]++iB [b]) (by show(3:Int)<=3;decide) (.inr ⟨rfl,rfl⟩))⟩
 ·
  obtain⟨t,h⟩:=tk2 h;subst h;have hlen:(((27::91::t:List Int).length:Nat):Int)=t.length+2:=by simp only[B6];omega
  have d1:stP (some (27::91::t)) b=sqP (some (27::91::t++[b])) b:=rfl;have d2:stI (some (27::91::t)) b SL none=sqI (some (27::91::t++[b])) b SL none:=rfl;have ep:iB (27::91::t)=27::91::iB t:=rfl;have es:iB (27::91::t++[b])=iB (27::91::t)++iB [b]:=yH _ _;have az:(((iB (27::91::t)++iB [b]).length:Nat):Int)=t.length+3:=by rw[<- es,Q0];simp only[B1,B6,E0];omega
  have d:rsK (iB (27::91::t)) b=if(t.length:Int)+2>=6/\(iB (27::91::t)).take 6=Beg then 6 else if(t.length:Int)+2>2/\byA (iB (27::91::t)) 2=77 then(if(t.length:Int)+2+1<6 then 3 else 8)else if b>=32/\b<=63 then(if(t.length:Int)+2+1>24 then 7 else 3)else if b<64∨b>126 then 0 else if iB (27::91::t)++iB [b]=[27,91,77]∨iB (27::91::t)++iB [b]=Beg then 3 else 8:=by
   unfold rsK;rw[A0m,hlen,A3 A0,A3 (by show ¬((27:Int)>=128);decide),A3 (by rw[ep];exact fun k=>by cases (L8 k).2),A3 (by show ¬((91:Int)>=128);decide),A3 (by show ¬((91:Int)=79/\_);exact fun k=>absurd k.1 B8)];have S:byA (iB (27::91::t)) 1=91:=rfl;rw[S];by_cases E:(t.length:Int)+2>=6/\(iB (27::91::t)).take 6=Beg
   .rw[A4 E,A4 E]
   .rw[A3 E,A3 E];by_cases A:(t.length:Int)+2>2/\byA (iB (27::91::t)) 2=77
    .rw[A4 A,A4 ⟨rfl,A⟩]
    .rw[A3 A,A3 (fun k=>A k.2)];by_cases H:b>=32/\b<=63
     .rw[A4 H,A4 ⟨rfl,H⟩]
     .rw[A3 H,A3 (fun k=>H k.2)]
  have go:∀ k j,rsK (iB (27::91::t)) b=k->sqC (iB (27::91::t++[b])) b=j->(k=0/\j=3)∨(k=3/\j=1)∨(k=7/\j=4)∨(k=8/\j=2/\4<=(t.length:Int)+3∨k=8/\j=2/\b>=64)->RS (27::91::t) b:=fun k j D hj hc=>by
   have lk:(4<=(t.length:Int)+3∨b>=64)->lkY (iB (27::91::t)++iB [b])=cmX (iB (27::91::t)++iB [b]) SL:=fun z=>B2v A0 (.inl ⟨rfl,by
    rcases z with z|z
    .exact .inr A0
    .rw[<- es];rcases B2Z (l:=27::91::t) (b:=b) h0 h1 A0 with h|h|h
     .exact .inl h
     .right;rw[A0m];exact h
     .omega⟩)
   unfold RS rsS rsI;rw[d1,d2];unfold sqP sqI;rw[D,E3,hj];rcases hc with⟨rfl,rfl⟩|⟨rfl,rfl⟩|⟨rfl,rfl⟩|⟨rfl,rfl,z⟩|⟨rfl,rfl,z⟩
   .have:=A6F (e:=false) h0 h1;exact⟨this.1.symm,this.2.symm⟩
   .exact⟨es.symm,rfl⟩
   .exact⟨rfl,rfl⟩
   .refine⟨rfl,?_⟩;show _=el (cmI (iB (27::91::t++[b])) SL none);rw[es];exact B5Q (lk (.inl z))
   .refine⟨rfl,?_⟩;show _=el (cmI (iB (27::91::t++[b])) SL none);rw[es];exact B5Q (lk (.inr z))
  by_cases E:(t.length:Int)+2>=6/\(iB (27::91::t)).take 6=Beg
  .rw[A4 E]at d;have n:Lib.hasPrefix (iB (27::91::t++[b])) Beg=true:=by
    show List.isPrefixOf Beg _=true;rw[O7,es,<- E.2];exact⟨(iB (27::91::t)).drop 6++iB [b],by rw[<- N5,V4]⟩
   have hC:sqC (iB (27::91::t++[b])) b=0:=by
    unfold sqC;rw[A4 n,A4];intro k
    have:=G2 List.length k;rw[Q0,B1]at this;have:(27::91::t:List Int).length+1=6:=this;omega
   obtain⟨p1,p2⟩:=B7f (nT B h0 h1) n;unfold RS rsS rsI;rw[d1,d2];unfold sqP sqI;rw[d,E3,hC];show ptP (iB (27::91::t)++iB [b])=_/\el (ptI (iB (27::91::t)++iB [b]))=_;rw[<- es];exact⟨p1.symm,p2.symm⟩
  .rw[A3 E]at d;have hC:sqC (iB (27::91::t++[b])) b=sqD (iB (27::91::t++[b])) b:=by
    unfold sqC;split
    .rename_i hp;rw[A3];refine fun k=>k ?_
     have h5:¬6<=(27::91::t:List Int).length:=fun F=>by
      have:=A44 (u:=Beg) (show Beg.length<=_ from F) hp;have this:List.isPrefixOf Beg (iB (27::91::t))=true:=this;rw[O7]at this;obtain⟨r,hr⟩:=this;exact E ⟨A0,by rw[<- hr];rfl⟩
     have hp:List.isPrefixOf Beg (iB (27::91::t++[b]))=true:=hp;rw[O7]at hp;obtain⟨r,hr⟩:=hp;have v:=G2 List.length hr;rw[B1,Q0,B1]at v;have v:6+r.length=(27::91::t:List Int).length+1:=v;have:r=[]:=D5.1 A0;rw[this,fY]at hr;exact hr.symm
    .rfl
   rw[es]at hC go;by_cases A:(t.length:Int)+2>2/\byA (iB (27::91::t)) 2=77
   .rw[A4 A]at d;have n:Lib.hasPrefix (iB (27::91::t)++iB [b]) [27,91,77]=true:=by
     cases t with
     | nil=>exact absurd A.1 B8
     | cons x r =>
       have N:((UInt8.ofNat x.toNat).toNat:Int)=77:=A.2;have N:UInt8.ofNat x.toNat=77:=UInt8.toNat_inj.1 (by show _=77;omega);show((77:UInt8) == UInt8.ofNat x.toNat && true)=true;rw[N];rfl
    unfold sqD at hC;rw[A4 n]at hC;by_cases H:(t.length:Int)+2+1<6
    .rw[A4 H]at d;rw[A4 A0]at hC;exact go 3 1 d hC (.inr (.inl ⟨rfl,rfl⟩))
    .rw[A3 H]at d;rw[A3 A0]at hC;unfold sqE at hC;rw[A3 (fun k=>by rw[k]at n;exact absurd n B8)]at hC;unfold sqF at hC;rw[A4 n]at hC;exact go 8 2 d hC (.inr (.inr (.inr (.inl ⟨rfl,rfl,A0⟩))))
   .rw[A3 A]at d;by_cases P:iB (27::91::t)++iB [b]=[27,91,77]
    .have O:b=77/\t=[]:=by
      have v:=G2 List.length P;have v:(((iB (27::91::t)++iB [b]).length:Nat):Int)=3:=by rw[v];rfl
      have Z:t=[]:=D5.1 A0;subst Z;have J:UInt8.ofNat b.toNat=77:=(L8 (L8 (L8 P).2).2).1;have F:=G2 UInt8.toNat J;rw[UInt8.toNat_ofNat',O6 (show b.toNat<2 ^ 8 by omega)]at F;have M:(77:UInt8).toNat=77:=rfl;exact⟨A0,rfl⟩
     obtain⟨rfl,rfl⟩:=O;exact⟨rfl,rfl⟩
    .have n:Lib.hasPrefix (iB (27::91::t)++iB [b]) [27,91,77]=false:=by
      cases L:Lib.hasPrefix (iB (27::91::t)++iB [b]) [27,91,77]with
      | false=>rfl
      | true =>
        exfalso;cases t with
        | nil =>
          have L:((77:UInt8) == UInt8.ofNat b.toNat && true)=true:=L
          have:=eq_of_beq (P6 L).1;exact P (by show[27,91,UInt8.ofNat b.toNat]=_;rw[<- this])
        | cons x r =>
          have L:((77:UInt8) == UInt8.ofNat x.toNat && true)=true:=L
          have:=eq_of_beq (P6 L).1;exact A ⟨by simp only[B6];omega,by
           show((UInt8.ofNat x.toNat).toNat:Int)=77;rw[<- this];rfl⟩
     unfold sqD at hC;rw[A3 (ntf n)]at hC;unfold sqE at hC;by_cases J:iB (27::91::t)++iB [b]=Beg
     .rw[A4 J]at hC;have T:b=126:=by
       have:=G2 (fun x:C8=>((x.getLast?.getD 0).toNat:Int)) J;have h9:iB [b]=[UInt8.ofNat b.toNat]:=rfl;rw[h9]at this;simp only[List.getLast?_append,List.getLast?_singleton,Option.some_or,bC]at this;have this:((UInt8.ofNat b.toNat).toNat:Int)=126:=this;rw[UInt8.toNat_ofNat',O6 (show b.toNat<2 ^ 8 by omega)]at this;omega
      rw[A3 A0,A3 A0,A4 (.inr J)]at d;exact go 3 1 d hC (.inr (.inl ⟨rfl,rfl⟩))
     .rw[A3 J]at hC;unfold sqF sqG sqH at hC;rw[A3 (ntf n)]at hC;by_cases F:b>=32/\b<=63
      .rw[A4 F]at d;rw[A3 A0,A4 F.1,A4 F.2]at hC;by_cases M:(t.length:Int)+2+1>24
       .rw[A4 M]at d;rw[A4 A0]at hC;exact go 7 4 d hC (.inr (.inr (.inl ⟨rfl,rfl⟩)))
       .rw[A3 M]at d;rw[A3 A0]at hC;exact go 3 1 d hC (.inr (.inl ⟨rfl,rfl⟩))
      .rw[A3 F]at d;by_cases M:b<64∨b>126
       .rw[A4 M]at d;have hC:sqC (iB (27::91::t)++iB [b]) b=3:=by
         rw[hC];by_cases k8:b>=64
         .rw[A4 k8,A3 A0,A4 A0,A3 A0]
         .rw[A3 k8];by_cases k9:b>=32
          .rw[A4 k9,A3 A0]
          .rw[A3 k9]
        exact go 0 3 d hC (.inl ⟨rfl,rfl⟩)
       .rw[A3 M,A3 (fun h=>h.elim P J)]at d;rw[A4 A0,A4 A0]at hC;exact go 8 2 d hC (.inr (.inr (.inr (.inr ⟨rfl,rfl,A0⟩))))
def B4d:Tv []:=⟨aZ,.inl rfl⟩
def B4G(p:C8):By (bI p):=fun x a=>GO a
def B45{b:Int}(h:Tv (bI p))(h0:0<=b)(h1:b<256):rsS p b=iB (el (stP (some (bI p)) b))/\el (rsI p b)=el (stI (some (bI p)) b SL none)/\bI (rsS p b)=el (stP (some (bI p)) b)/\Tv (bI (rsS p b)):=by
 have k:=B6p h.1 h.2 h0 h1;unfold RS at k;rw[AE]at k;have a:=A51 h.1 h0 h1;have e:bI (rsS p b)=el (stP (some (bI p)) b):=by rw[k.1,A2e a.2.1]
 exact⟨k.1,k.2,e,by rw[e];exact⟨B29 a rfl,B6S h.2 (B4G p) h0 h1⟩⟩
def rrS:List Int->C8->C8
 | [],p=>p
 | b::r,p=>rrS r (rsS p b)
def rrI:List Int->C8->Option (List Xt)->Option (List Xt)
 | [],_,x=>x
 | b::r,p,x=>rrI r (rsS p b) (S0 x (rsI p b))
def ZX:∀ (l:List Int) {p:C8},By l->Tv (bI p)->rrS l p=iB (el (rnP l (some (bI p))))/\Tv (bI (rrS l p))/\∀ x,el (rrI l p x)=el x++el (rnI l (some (bI p)) SL none)
 | [],p,_,h=>⟨(AE p).symm,h,fun x=>(fY _).symm⟩
 | b::r,p,hl,h=>by
   have d:=hl b (by simp);obtain⟨_,f,e,j⟩:=B45 h d.1 d.2;obtain⟨i1,i2,i3⟩:=ZX r (p:=rsS p b) (fun x n=>hl x (D1 _ n)) j;have a:=A8G (mp:=SL) r (p:=some (bI (rsS p b))) (q:=stP (some (bI p)) b) none e;refine⟨?_,i2,fun x=>?_⟩
   .show rrS r (rsS p b)=_;rw[i1];exact G2 iB a.1
   .show el (rrI r (rsS p b) (S0 x (rsI p b)))=el x++el (rnI r (stP (some (bI p)) b) SL (stI (some (bI p)) b SL none));rw[i3,T9,f,A4L r _ (stI (some (bI p)) b SL none),a.2,N5]
def B6x{l:List Int}(p:C8)(h0:0<=i)(h1:i<(l.length:Int)):rrS (l.drop i.toNat) p=rrS (l.drop (i+1).toNat) (rsS p (l.getD i.toNat default)):=by rw[Q1 l h0 h1];rfl
def B6z{l:List Int}(p:C8)(x:Option (List Xt))(h0:0<=i)(h1:i<(l.length:Int)):rrI (l.drop i.toNat) p x=rrI (l.drop (i+1).toNat) (rsS p (l.getD i.toNat default)) (S0 x (rsI p (l.getD i.toNat default))):=by rw[Q1 l h0 h1];rfl
def B6y{l:List Int}(h:¬i<(l.length:Int)):rrS (l.drop i.toNat) p=p:=by rw[d9 l A0];rfl
def B60{l:List Int}{x:Option (List Xt)}(h:¬i<(l.length:Int)):rrI (l.drop i.toNat) p x=x:=by rw[d9 l A0];rfl
def A7_{b:Int}(h:Tv (bI p))(a:0<=b/\b<256):((el (rsI p b)).length:Int)<=2:=by
 rw[(B45 h a.1 a.2).2.1]
 have:=ME (p:=some (bI p)) (b:=b) (mp:=SL) (x:=none);have e:(((el (none:Option (List Xt))).length:Nat):Int)=0:=rfl;omega
noncomputable def C0F:L5:=⟨_,fun a=>(.cons (B6k a) .nil)⟩
def DS:List U->Option (Nat×List U)
 | [.str p,u_bs,u_out,.int .i64 i]=>(J3 rB u_bs).bind fun bs=>(J3 rI u_out).bind fun out=>if 0<=i/\i<=((el bs).length:Int)/\((el bs).length:Int)<=10000/\(∀ x ∈ el bs,0<=x/\x<256)/\Tv (bI p)/\((el out).length:Int)+2*(((el bs).length:Int)-i)<=100000 then some (0,[.str (rrS ((el bs).drop i.toNat) p),B2 rI (rrI ((el bs).drop i.toNat) p out)])else none
 | _=>none
def BW(p:C8)(bs:D4)(out:(Option (List (Int×Int×Int×Int×Int×Int×Int×C8))))(i:Int)(a:0<=i/\i<=((el bs).length:Int)/\((el bs).length:Int)<=10000/\(∀ x ∈ el bs,0<=x/\x<256)/\Tv (bI p)/\((el out).length:Int)+2*(((el bs).length:Int)-i)<=100000):DS [.str p,B2 rB bs,B2 rI out,.int .i64 i]=some (0,[.str (rrS ((el bs).drop i.toNat) p),B2 rI (rrI ((el bs).drop i.toNat) p out)]):=by
 simp only[DS,F1,C4];exact A4 a
def B1F:Q7:=⟨[(0,h 0 9),(1,dat 7 1 11),(6,own 8 2 18),(7,h 3 3)],[(8,.sq 2 18 23 9),(7,.frz),(9,.frz)],4,[⟨.exit 0,[(0,h 0 9),(6,own 10 1 18)],[(10,.sq 1 18 23 11),(11,.frz)],2⟩]⟩
noncomputable def A33:Code:=(f40.body).getD .skip
noncomputable def B1B:Code:=match H5 [true,true,false,true,false] A33 with|some (.loop x)=>x|_=>.skip
def B1E:f40.body=some A33:=rfl
def B1D:H5 [true,true,false,true,false] A33=some (.loop B1B):=C3
def B1C:Tr:=mT 1 4 3 5 (J9 1 3 6 (.lt 4 (.get 1 0) [h 1 11,h3 3]<|.fn QY [h 0 9,h 7 4] 2<|.dt 18 (.cat 8) [h 2 18,h 9 18]<|aA [h3 3,jI 1]<|.ret [jI (-1),h 8 9,h 1 11,h 10 18,h3 11])) (.ret [jI 0,h 0 9,h 2 18])
def A32:List U->Nat
 | [.str p,u_bs,u_out,.int .i64 i]=>(match J3 rB u_bs with|some bs=>(match J3 rI u_out with|some out=>(((el bs).length:Int)-i).toNat|none=>0)|none=>0)
 | _=>0
def A31(p:C8)(bs:D4)(out:(Option (List (Int×Int×Int×Int×Int×Int×Int×C8))))(i:Int):A32 [.str p,B2 rB bs,B2 rI out,.int .i64 i]=(((el bs).length:Int)-i).toNat:=by
 simp only[A32,F1]
def B6u{G}(v:I6 G):∀ (E:Nat->U) (base:Nat),@U0 ⟨E,G⟩ prog base gl f40.ntmps B1B (O5 prog gl n0 12 B1F DS):=by
 refine V7 (dep:=60) (f:=40) (n0:=n0) (nB:=12) (H0:=H0) A32 B1C (cxg (C0F.2 v) .nil) v func40 B1E B1D C3 C3 C3 ?_;intro us d outs j;have A:=j;unfold DS at j;split at j
 .skip;rename_i p B x i;have t:=A5.1 j;clear j;obtain⟨bs,b,j⟩:=t;replace b:=F2 b;subst b;have n:=A5.1 j;clear j;obtain⟨out,a,j⟩:=n;replace a:=F2 a;subst a;split at j
  .rename_i o;clear j A;have w:i<((el bs).length:Int)->0<=((el bs).getD i.toNat default)/\((el bs).getD i.toNat default)<256:=fun h=>y0 (l:=el bs) o.2.2.2.1 A0 A0
   have zr:i<((el bs).length:Int)->((el (rsI p ((el bs).getD i.toNat default))).length:Int)<=2:=fun h=>A7_ o.2.2.2.2.1 (w h)
   refine⟨rfl,?_⟩;unfold B1C;refine w0 (.cons 3 _ (.cons 2 _ (.cons 1 _ (.cons 0 _ (.nil))))) ?_;repeat (first|refine w4 (fun g=>?_) fun g=>?_|refine V1 ?_|refine O0 ?_|refine P7 ?_|refine W3 ?_|refine Y4 ?_|refine w1 (.get 1 0) (u:=.int .u8 _) (e:=I5 rfl A0 A0 rfl) (k':=?_)|refine w32 QY (e:=A76 _ _ ⟨w A0,o.2.2.2.2.1⟩) (k':=?_)|refine w2 (.cat 8) (r:=rI) (e:=eZ rfl (by first|omega|(have z:=zr A0;omega))) (k':=?_)|(refine w7 [.int .i64 _,.str _,B2 rB _,B2 rI _,.int .i64 _] ?_;rotate_left)|(refine w8 ?_;first|omega)|(refine w7 [.int .i64 _,.str _,B2 rI _] ?_;rotate_left))
   all_goals first
    | refine M0 ?_ ?_
      .have z:=zr A0;have C:=B6x (l:=el bs) (i:=i) p A0 A0;have D:=B6z (l:=el bs) (i:=i) p out A0 A0;rw[BW p bs out i o,C,D];exact BW _ _ _ _ ⟨A0,A0,o.2.2.1,o.2.2.2.1,(B45 o.2.2.2.2.1 (w A0).1 (w A0).2).2.2.2,by rw[T9,B1];omega⟩
      .rw[A31,A31];omega
    | refine H6 (d:=0) ?_
      rw[BW p bs out i o,B6y (l:=el bs) (i:=i) A0,B60 (l:=el bs) (i:=i) A0]
  .cases j
 .cases j
noncomputable def C1L:List LpE:=(40,([true,true,false,true,false],O5 prog gl n0 12 B1F DS))::[]
def A7V{G}(a:I6 G):g8 prog G gl C1L:=.cons func40 B1E B1D (B6u a) .nil
noncomputable def C0E:L5:=⟨_,fun a=>.nil⟩
def zK:List U->Option (Nat×List U)
 | [.str p,u_bs]=>(J3 rB u_bs).bind fun bs=>if((el bs).length:Int)<=10000/\(∀ x ∈ el bs,0<=x/\x<256)/\Tv (bI p)then some (0,[.str (rrS (el bs) p),B2 rI (rrI (el bs) p none)])else none
 | _=>none
def ZW(p:C8)(bs:D4)(a:((el bs).length:Int)<=10000/\(∀ x ∈ el bs,0<=x/\x<256)/\Tv (bI p)):zK [.str p,B2 rB bs]=some (0,[.str (rrS (el bs) p),B2 rI (rrI (el bs) p none)]):=by
 simp only[zK,F1,C4];exact A4 a
def B0_:Tr:=.dt 18 (.nilw 8) []<|.fn DS [h 0 9,h 1 11,h 2 18,jI 0] 2<|.ret [h 3 9,h 4 18]
def B1A{G}(f:I6 G):I8 prog G 40 [.s 9,.s 11] zK [.s 9,.s 18]:=by
 refine D0 (d:=60) B0_ (cxg (C0E.2 f) (A7V f)) f ⟨f40,_,func40,rfl⟩ C3 C3 ?_;intro us outs b;unfold zK at b;split at b
 .skip;rename_i p n;have j:=A5.1 b;clear b;obtain⟨bs,a,b⟩:=j;replace a:=F2 a;subst a;split at b
  .rename_i l;cases b;unfold B0_;refine w0 (.cons 1 _ (.cons 0 _ (.nil))) ?_;repeat (first|refine w2 (.nilw 8) (r:=rI) (e:=G6 rfl) (k':=?_)|refine w32 DS (e:=BW _ _ _ _ ⟨B8,A0,l.1,l.2.1,l.2.2,by show(0:Int)+_<=_;omega⟩) (k':=?_)|(refine w7 [.str _,B2 rI _] ?_;rotate_left))
   all_goals
    rfl
  .cases b
 .cases b
def rpV(p:D4):Bool:=decide (rrS (el p) []=iB (el p)) && decide (((el (rrI (el p) [] none)).length:Int)=0)
def B6w{l:List Int}(b:By l):rrS l []=iB (el (rnP l none))/\el (rrI l [] none)=el (rnI l none SL none):=by
 obtain⟨h1,_,h3⟩:=ZX l (p:=[]) b B4d;have a:=A8G (mp:=SL) l (p:=some (bI [])) (q:=none) none rfl;exact⟨by rw[h1,a.1],by rw[h3 none,a.2];rfl⟩
def B1W{p:D4}(hp:By (el p)):rpV p=vdS p:=by
 unfold rpV vdS;rw[(B6w hp).1,(B6w hp).2]
def A25{p:D4}(hp:By (el p))(h:vdS p=true):Tv (bI (iB (el p))):=by
 rw[<- B1W hp]at h;unfold rpV at h;rw[<- F4 (P6 h).1];exact(ZX (el p) (p:=[]) hp B4d).2.1
def rdP(p b:D4):D4:=if dcE p b=0 then some (bI (rrS (el b) (iB (el p))))else none
def rdJ(p b:D4):Option (List Xt):=if dcE p b=0 then rrI (el b) (iB (el p)) none else none
def B9P{p b:D4}(h:dcE p b=0):vdS p=true:=by
 unfold dcE at h;cases a:vdS p with
 | true=>rfl
 | false=>rw[a,A4 rfl]at h;exact absurd h B8
def B19{p b:D4}(hp:By (el p))(d:By (el b)):iB (el (rdP p b))=iB (el (dcP p b))/\el (rdJ p b)=el (dcI p b):=by
 unfold rdP rdJ dcP dcI;by_cases h:dcE p b=0
 .rw[A4 h,A4 h,A4 h,A4 h,E3,AE];obtain⟨h1,_,h3⟩:=ZX (el b) d (A25 hp (B9P h));have a:=A8G (mp:=SL) (el b) (p:=some (bI (iB (el p)))) (q:=p) none (by rw[E3,A2e hp]);exact⟨by rw[h1,a.1],by rw[h3 none,a.2];rfl⟩
 .rw[A3 h,A3 h,A3 h,A3 h];exact⟨rfl,rfl⟩
def rfJ(p:D4):Option (List Xt):=if vdS p=false then none else if iB (el p)=[27]then some [(1,1114138,0,0,0,0,0,[])]else if ¬iB (el p)=[]/\byA (iB (el p)) 0>=128 then some [(1,65533,0,0,0,0,0,[])]else if((iB (el p)).length:Int)>1/\byA (iB (el p)) 1>=128 then some [(1,65533,2,0,0,0,0,[])]else none
def A9C{p:D4}{r:List Int}(e:el p=27::r):fl1 p:=⟨by rw[e];simp only[B6];omega,by rw[M1,e];rfl⟩
def B8r{p:D4}(hp:By (el p))(h:¬(el p).getD 0 0=27):¬fl1 p:=fun k=>by
 obtain⟨d,b⟩:=k;cases e:el p with
 | nil=>rw[e]at d;exact absurd d B8
 | cons a r =>
   rw[M1,e]at b;have b:iB [a]=iB [27]:=b
   have:=NY (l:=[a]) (r:=[27]) (fun x f=>hp x (by rw[e];exact B7.2 (.inl (by simpa using f)))) (A7E B8 B8) b;rw[e]at h;exact h (L8 this).1
def B7G{p:D4}(hp:By (el p)):rfJ p=flI p:=by
 unfold rfJ;cases b:vdS p with
 | false=>rw[A4 rfl];exact(A4 b).symm
 | true =>
   rw[A3 B8];have l:=(A25 hp b).2;rw[A2e hp]at l;have f:∀ k:Nat,k<(el p).length->byA (iB (el p)) k=(el p).getD k 0:=fun k n=>OX hp n
   have len:=Q0 (el p);rcases l with h|h|h|h|h|h
   .rw[<- C2I b (B8r hp (by rw[h];decide)) (by rw[h];decide),h];rfl
   .have d:el p≠[]:=fun e=>by rw[e]at h;exact absurd h B8
    have h0:=f 0 (O1.2 d);have h0:byA (iB (el p)) 0=(el p).getD 0 0:=h0;rw[<- C2H b (B8r hp A0) ⟨by have:=O1.2 d;omega,h⟩,A3,A4]
    .exact⟨fun k=>d (D5.1 (by rw[<- len,k];rfl)),by rw[h0];exact h⟩
    .intro k;rw[k]at h0;have h0:(27:Int)=(el p).getD 0 0:=h0;omega
   .rw[<- C2G b (A9C h) (by rw[h];rfl),h];rfl
   .obtain⟨a0,j,a2⟩:=h;have h0:byA (iB (el p)) 0=(el p).getD 0 0:=f 0 A0;have h1:byA (iB (el p)) 1=(el p).getD 1 0:=f 1 A0;have o:fl1 p:=by
     cases e:el p with
     | nil=>rw[e]at j;exact absurd j B8
     | cons a r =>
       rw[e]at a0;have a0:a=27:=a0;rw[a0]at e;exact A9C e
    rw[<- C2F b o A0 a2,A3,A3,A4]
    .exact⟨A0,by rw[h1];exact a2⟩
    .intro k;have:=k.2;omega
    .intro k
     have:=G2 List.length k;rw[len]at this;have this:(el p).length=1:=this;omega
   .rw[<- B8u b (A9C h) (by rw[h];decide) (by rw[h];decide),h];rfl
   .obtain⟨t,h⟩:=tk2 h;rw[<- B8u b (A9C h) (by rw[h];simp only[B6];omega) (by rw[h];show ¬((91:Int)>=128);decide),h];rw[A3,A3,A3]
    .intro k;exact absurd (show(91:Int)>=128 from k.2) B8
    .intro k;exact absurd (show(27:Int)>=128 from k.2) B8
    .intro k;cases (L8 k).2
noncomputable def C0J:L5:=⟨_,fun a=>(.cons (B1A a) .nil)⟩
def zM:List U->Option (Nat×List U)
 | [u_p]=>(J3 rB u_p).bind fun p=>if((el p).length:Int)<=5000/\∀ x ∈ el p,0<=x/\x<256 then some (0,[.bool (vdS p)])else none
 | _=>none
def ZZ(p:D4)(a:((el p).length:Int)<=5000/\∀ x ∈ el p,0<=x/\x<256):zM [B2 rB p]=some (0,[.bool (vdS p)]):=by
 simp only[zM,F1,C4];exact A4 a
def B1R:Tr:=.fn zK [.string ⟨⟨[]⟩⟩,h 0 11] 2<|.lt 9 (.str) [h 0 11]<|aE [h 1 9,h 3 9]<|.br 4 (aD [h 2 18]<|fO 5 6 0) (I7)
def B1S{G}(f:I6 G):I8 prog G 39 [.s 11] zM [.s 8]:=by
 refine D0 (d:=60) B1R (cxg (C0J.2 f) .nil) f ⟨f39,_,func39,rfl⟩ C3 C3 ?_;intro us outs b;unfold zM at b;split at b
 .skip;rename_i n;have j:=A5.1 b;clear b;obtain⟨p,a,b⟩:=j;replace a:=F2 a;subst a;split at b
  .rename_i l;cases b;unfold B1R;refine w0 (.cons 0 _ (.nil)) ?_;repeat (first|(refine w7 [.bool _] ?_;rotate_left)|refine w32 zK (e:=ZW [] _ ⟨by have:=l.1;omega,l.2,B4d⟩) (k':=?_)|refine w1 (.str) (e:=u9 rfl (by exact l.2)) (k':=?_)|refine AR ?_|refine w4 (fun g=>?_) fun g=>?_|refine P7 ?_|refine R8 ?_)
   all_goals
    refine l1 ?_;rw[<- B1W l.2];unfold rpV;first
    | rw[show decide (rrS (el p) []=iB (el p))=true from D3 ‹_›,Q6]
    | rw[show decide (rrS (el p) []=iB (el p))=false from C9 ‹_›,Q5]
  .cases b
 .cases b
def A5P{l:C8}(h:l≠[]):0<(l.length:Int):=by have:=O1.2 h;omega
noncomputable def C0f:L5:=⟨_,fun a=>(.cons (B1S a) (.cons (B1A a) .nil))⟩
def IZ:List U->Option (Nat×List U)
 | [u_p,u_b]=>(J3 rB u_p).bind fun p=>(J3 rB u_b).bind fun b=>if(((el p).length:Int)<=5000/\∀ x ∈ el p,0<=x/\x<256)/\((el b).length:Int)<=5000/\∀ x ∈ el b,0<=x/\x<256 then some (0,[B2 rB (rdP p b),B2 rI (rdJ p b),.int .i64 (dcE p b)])else none
 | _=>none
def A8V(p:D4)(b:D4)(a:(((el p).length:Int)<=5000/\∀ x ∈ el p,0<=x/\x<256)/\((el b).length:Int)<=5000/\∀ x ∈ el b,0<=x/\x<256):IZ [B2 rB p,B2 rB b]=some (0,[B2 rB (rdP p b),B2 rI (rdJ p b),.int .i64 (dcE p b)]):=by
 simp only[IZ,F1,C4];exact A4 a
def B18:Tr:=.fn zM [h 0 11] 1<|J5 2 3 (BG 4 431) (aU 1 4 4096 (BG 6 3) (.lt 9 (.str) [h 0 11]<|.fn zK [h 6 9,h 1 11] 2<|.dt 11 (.byt) [h 7 9]<|.ret [h 9 11,h 8 18,jI 0]))
def B7M{G}(l:I6 G):I8 prog G 16 [.s 11,.s 11] IZ [.s 11,.s 18,.s 3]:=by
 refine D0 (d:=60) B18 (cxg (C0f.2 l) .nil) l ⟨f16,_,func16,rfl⟩ C3 C3 ?_;intro us outs a;unfold IZ at a;split at a
 .skip;rename_i v u;have o:=A5.1 a;clear a;obtain⟨p,f,a⟩:=o;replace f:=F2 f;subst f;have t:=A5.1 a;clear a;obtain⟨b,j,a⟩:=t;replace j:=F2 j;subst j;split at a
  .rename_i n;cases a;unfold B18;refine w0 (.cons 1 _ (.cons 0 _ (.nil))) ?_;repeat (first|refine w4 (fun g=>?_) fun g=>?_|refine w4B (fun g=>?_) fun g=>?_|(refine w7 [B2 rB _,B2 rI _,.int .i64 _] ?_;rotate_left)|refine Y3 ?_|refine iD ?_|refine w2 (.nilw 1) (r:=rB) (e:=G6 rfl) (k':=?_)|refine w2 (.nilw 8) (r:=rI) (e:=G6 rfl) (k':=?_)|refine w31 zM (e:=ZZ _ n.1) (k':=?_)|refine P7 ?_|refine cB ?_|refine w1 (.str) (e:=u9 rfl (by first|exact n.1.2|exact n.2.2)) (k':=?_)|refine w32 zK (e:=ZW _ _ ⟨A0,n.2.2,A25 n.1.2 (nbF ‹_›)⟩) (k':=?_)|refine w2 (.byt) (r:=rB) (e:=CK _ rfl) (k':=?_))
   all_goals
    first
    | (have e:dcE p b=431:=A4 (nbT ‹_›)
       exact A2W (A3 (by rw[e];decide)).symm (A3 (by rw[e];decide)).symm e.symm)
    | (have e:dcE p b=3:=(A3 (vf ‹_›)).trans (A4 A0)
       exact A2W (A3 (by rw[e];decide)).symm (A3 (by rw[e];decide)).symm e.symm)
    | (have e:dcE p b=0:=(A3 (vf ‹_›)).trans (A3 A0)
       exact A2W (A4 e).symm (A4 e).symm e.symm)
  .cases a
 .cases a
noncomputable def C0X:L5:=⟨_,fun a=>(.cons (B1S a) .nil)⟩
def IW:List U->Option (Nat×List U)
 | [u_p]=>(J3 rB u_p).bind fun p=>if((el p).length:Int)<=5000/\∀ x ∈ el p,0<=x/\x<256 then some (0,[B2 rI (flI p),.int .i64 (flE p)])else none
 | _=>none
def A8J(p:D4)(a:((el p).length:Int)<=5000/\∀ x ∈ el p,0<=x/\x<256):IW [B2 rB p]=some (0,[B2 rI (flI p),.int .i64 (flE p)]):=by
 simp only[IW,F1,C4];exact A4 a
def A4Z(n:Nat):Tr:=jW 3 n 1 (.lt 4 (.idx) [h 3 9,jI 1]<|rG (n+2) (n+3) (rH 2 (n+4) 65533) (jT (n+4) 0)) (jT (n+2) 0)
def B1t:Tr:=.fn zM [h 0 11] 1<|J5 1 2 (jT 3 431) (.lt 9 (.str) [h 0 11]<|aE [h 3 9,.string ⟨⟨[27]⟩⟩]<|.br 4 (rH 0 5 1114138) (aN [h 3 9,.string ⟨⟨[]⟩⟩]<|.br 5 (.lt 4 (.idx) [h 3 9,jI 0]<|rG 6 7 (rH 0 8 65533) (A4Z 8)) (A4Z 6)))
def B7E{G}(f:I6 G):I8 prog G 41 [.s 11] IW [.s 18,.s 3]:=by
 refine D0 (d:=60) B1t (cxg (C0X.2 f) .nil) f ⟨f41,_,func41,rfl⟩ C3 C3 ?_;intro us outs b;unfold IW at b;split at b
 .skip;rename_i o;have j:=A5.1 b;clear b;obtain⟨p,a,b⟩:=j;replace a:=F2 a;subst a;split at b
  .rename_i n;cases b;unfold B1t;refine w0 (.cons 0 _ (.nil)) ?_;repeat (first|refine w4 (fun g=>?_) fun g=>?_|refine w4B (fun g=>?_) fun g=>?_|(refine w7 [B2 rI _,.int .i64 _] ?_;rotate_left)|refine w2 (.nilw 8) (r:=rI) (e:=G6 rfl) (k':=?_)|refine w2 (.mk 8) (r:=rI) (e:=I0 [(_,_,_,_,_,_,_,_)] rfl B8 rfl) (k':=?_)|refine w1 (.idx) (e:=nP _ _ _ (by first|omega|(have:=A5P (l:=iB (el p)) ‹_›;omega)) (by first|omega|(have:=A5P (l:=iB (el p)) ‹_›;omega))) (k':=?_)|refine bK ?_|refine Y3 ?_|refine iD ?_|refine uX ?_|refine cB ?_|refine w31 zM (e:=ZZ _ n) (k':=?_)|refine w1 (.str) (e:=u9 rfl (by exact n.2)) (k':=?_)|refine AR ?_|refine A26 ?_)
   all_goals
    refine B8s ?_ ?_
    .rw[<- B7G n.2];unfold rfJ byA
     (repeat (first|rw[A4 (by first|exact nbT ‹_›|assumption|omega|exact⟨by assumption,A0⟩|exact⟨A0,A0⟩)]|rw[A3 (by first|exact vf ‹_›|assumption|omega|exact fun h=>absurd h.1 ‹_›|exact fun h=>by have:=h.1;omega|exact fun h=>by have:=h.2;omega)]))
     first|done
    .unfold flE;first|rw[A4 (nbT ‹_›)]|rw[A3 (vf ‹_›)]
  .cases b
 .cases b
def Dcd(L:List Int)(x:List Xt):Prop:=el (rnP L none)=[]/\el (rnI L none SL none)=x
instance dqX:DecidableEq Xt:=fun a b=>if h:eqX a b=true then isTrue (B88 h)else isFalse fun e=>h (by subst e;unfold eqX;simp)
instance(L:List Int)(x:List Xt):Decidable (Dcd L x):=by unfold Dcd;infer_instance
section
variable {s pe:D4} {got:Option (List Xt)} {k:Int}
end
end
section
open Go Go.Sx
def B57(m:Int):(HT m).length<=1:=by unfold HT;split<;>decide
def B5S(k:Int)(h:0<=k):(SX k).length<=1:=by
 unfold SX;rw[G3];omega
def B8M(h:aK c m):(keS ck c m).length<=100:=by
 have l1:=B57 m;have l2:=EC c;unfold aK chP okU at h;have hm:0<=m/\m<=7:=A0;have i1:=qA (m+1) A0 A0;unfold keS;split
 .decide
 .split
  .simp only[B1,B6,E0];omega
  .split
   .simp only[B1,B6,E0];omega
   .split
    .simp only[B1,B6,E0];omega
    .split
     .simp only[B1,B6,E0];omega
     .split
      .split
       .simp only[B1,Q0,B6,E0];omega
       .simp only[B1];omega
      .have a:=A5M (c-1114113-10).toNat;have i2:=qA (nuL.getD (c-1114113-10).toNat 0) a.1 A0;have i3:=B5S (c-1114113) A0;unfold spS
       (repeat' split)<;>simp only[B1,B6,E0]<;>omega
def B70{w b:Int}(h:U9 2 0 m w b r c []):(moS sg m w b r c).length<=100:=by
 have d:=A0y h;have a:=B5I h;have i1:=qA (nuS m w b) a.1 A0;have i2:=qA (c+1) A0 A0;have i3:=qA (r+1) A0 A0;have l1:(laS w).length=1:=by unfold laS;split<;>rfl
 unfold moS;split
 .simp only[B1,Q0,B6,E0];omega
 .simp only[B1,B6,E0];omega
def B8_{k w b:Int}{t:C8}(h:U9 k c m w b r cl t):(enS ck pa fo sg mo k c m w b r cl t).length<=2000:=by
 unfold U9 at h;unfold enS;rcases h with⟨rfl,rfl,rfl,rfl,rfl,rfl,d⟩|⟨rfl,rfl,rfl,hm⟩|⟨rfl,rfl,rfl,rfl,rfl,rfl,rfl,e,f⟩|⟨rfl,rfl,rfl,rfl,rfl,rfl,rfl,h0,h1⟩
 .rw[A3 (fun q=>absurd q.1 B8)];split
  .exact W1 _
  .rw[A4 rfl];have:=B8M (ck:=ck) d;omega
 .rw[A3 (fun q=>absurd q.1 B8)];split
  .exact W1 _
  .rw[A3 B8,A4 rfl];have a:U9 2 0 (YH mo 2 m) w (YI sg 2 w b) r cl []:=.inr (.inl ⟨rfl,rfl,rfl,A5S hm⟩)
   have:=B70 (sg:=sg) a;omega
 .split
  .omega
  .split
   .exact W1 _
   .rw[A3 B8,A3 B8,A4 rfl];simp only[B1,B6,E0];omega
 .rw[A3 (fun q=>absurd q.1 B8)];split
  .exact W1 _
  .rw[A3 B8,A3 B8,A3 B8]
   (repeat' split)<;>simp only[B1,B6,E0]<;>omega
open Go Go.Sx Go.Proofs.Tryz
noncomputable def B9p:L5:=⟨_,fun a=>(.cons (B3z a) (.cons (B3W a) (.cons (B0x a) (.cons (A52 a) (.cons (qO a) .nil)))))⟩
def PK:List U->Option (Nat×List U)
 | []=>some (0,[.bool (true)])
 | _=>none
def A7j :PK []=some (0,[.bool (true)]):=rfl
def B6F{G}(a:I6 G):I8 prog G 15 [] PK [.s 8]:=by
 refine HQ (d:=60) (cxg (B9p.2 a) .nil) a ⟨f15,_,func15,rfl⟩ ?_;intro us outs b;unfold PK at b;split at b
 .cases b;exact⟨List.replicate 19 1,by kernel_rfl⟩
 .cases b
def A0B{mp:Option (List Qt)}:∀ (l:List Int) (p:D4) (x:Option (List Xt)),((el (rnI l p mp x)).length:Int)<=(el x).length+2*l.length
 | [],_,x=>by show((el x).length:Int)<=_;simp
 | b::r,p,x=>by
   have h1:=A0B r (stP p b) (stI p b mp x) (mp:=mp);have a:=ME (p:=p) (b:=b) (mp:=mp) (x:=x);show((el (rnI r (stP p b) mp (stI p b mp x))).length:Int)<=_;simp only[B6];omega
def B89(x:Xt):eqX x x=true:=by unfold eqX;simp
def A07{α:Type}{f:α->Bool}:∀ {l:List α} {i:Int},(∀ x ∈ l,f x=false)->X7 f l i=none
 | [],_,_=>rfl
 | a::l,i,h=>by
   unfold X7;rw[h a (by simp)];exact A07 fun x b=>h x (D1 _ b)
def A74{a b:Option (List Xt)}(h:el a=el b):HK a b=true:=by
 unfold HK;rw[h,D3 rfl,Q6];have:∀ (l:List Xt) (i:Int),X7 neX (l.zip l) i=none:=fun l i=>A07 fun x e=>by
  have:x.1=x.2:=by
   obtain⟨j,d⟩:=List.getElem?_of_mem e;rw[List.getElem?_zip_eq_some]at d;exact A9 (d.1.symm.trans d.2)
  unfold neX;rw[this,B89];rfl
 rw[this];rfl
def i0l:((el (none:Option (List Xt))).length:Int)=0:=rfl
def n0l:((el (none:D4)).length:Int)=0:=rfl
def B30{p b:D4}(hp:By (el p))(a:By (el b)):((el (dcP p b)).length:Int)<=1012/\∀ x ∈ el (dcP p b),0<=x/\x<256:=by
 unfold dcP;split
 .rename_i h;exact B8X (JR _ a (B0E hp (B9P h)))
 .exact⟨by rw[n0l];decide,fun x d=>by cases d⟩
def B7P{p b:D4}(hp:By (el p))(a:By (el b)):((el (rdP p b)).length:Int)<=1012/\∀ x ∈ el (rdP p b),0<=x/\x<256:=by
 refine⟨?_,?_⟩
 .have h:=G2 List.length (B19 hp a).1;rw[Q0,Q0]at h;rw[h];exact(B30 hp a).1
 .unfold rdP;split
  .exact B4G _
  .exact fun x d=>by cases d
def B9Q(p b:D4):((el (dcI p b)).length:Int)<=2*(el b).length:=by
 unfold dcI;split
 .have:=A0B (mp:=some fR) (el b) p none;rw[i0l]at this;omega
 .rw[i0l];omega
def B8t(p:D4):((el (flI p)).length:Int)<=1:=by unfold flI;(repeat' split)<;>first|decide|(show(([_]:List Xt).length:Int)<=1;simp)
noncomputable def C1I:L5:=⟨_,fun a=>(.cons (B3z a) (.cons (B7M a) (.cons (B3W a) (.cons (B7E a) (.cons (B0x a) .nil)))))⟩
def LH:List U->Option (Nat×List U)
 | [u_p,u_b]=>(J3 rB u_p).bind fun p=>(J3 rB u_b).bind fun b=>if((el p).length:Int)<=5000/\(∀ x ∈ el p,0<=x/\x<256)/\((el b).length:Int)<=5000/\(∀ x ∈ el b,0<=x/\x<256)then some (0,[.bool (true)])else none
 | _=>none
def A96(p:D4)(b:D4)(a:((el p).length:Int)<=5000/\(∀ x ∈ el p,0<=x/\x<256)/\((el b).length:Int)<=5000/\(∀ x ∈ el b,0<=x/\x<256)):LH [B2 rB p,B2 rB b]=some (0,[.bool (true)]):=by
 simp only[LH,F1,C4];exact A4 a
def B4J:Tr:=.fn KJ [h 0 11,h 1 11] 3<|.fn IZ [h 0 11,h 1 11] 3<|.fn KB [h 0 11] 2<|.fn IW [h 0 11] 2<|.lt 9 (.str) [h 2 11]<|.lt 9 (.str) [h 5 11]<|aE [h 12 9,h 13 9]<|.br 14 (.fn DP [h 3 18,h 6 18] 1<|.br 15 (aE [h3 4,h3 7]<|.br 16 (.fn DP [h 8 18,h 10 18] 1<|.br 17 (aE [h3 9,h3 11]<|.ret [h 18 8]) (I7)) (I7)) (I7)) (I7)
def B9n{G}(t:I6 G):I8 prog G 17 [.s 11,.s 11] LH [.s 8]:=by
 refine D0 (d:=60) B4J (cxg (C1I.2 t) .nil) t ⟨f17,_,func17,rfl⟩ C3 C3 ?_;intro us outs f;unfold LH at f;split at f
 .skip;rename_i z x;have u:=A5.1 f;clear f;obtain⟨p,j,f⟩:=u;replace j:=F2 j;subst j;have w:=A5.1 f;clear f;obtain⟨b,l,f⟩:=w;replace l:=F2 l;subst l;split at f
  .rename_i n;cases f;have o:=n.2.1;have v:=n.2.2.2;have hw:=B19 o v;have A:=B30 o v;have z2:=B7P o v;have z3:=B9Q p b;have z4:=B8t p;have z5:((el (rdJ p b)).length:Int)<=2*(el b).length:=by rw[hw.2];exact z3
   unfold B4J;refine w0 (.cons 1 _ (.cons 0 _ (.nil))) ?_;repeat (first|refine w4 (fun g=>?_) fun g=>?_|refine w4B (fun g=>?_) fun g=>?_|(refine w7 [.bool _] ?_;rotate_left)|refine w1 (.str) (e:=u9 rfl (by first|exact A.2|exact z2.2)) (k':=?_)|refine w31 DP (e:=A73 _ _ ⟨A0,A0⟩) (k':=?_)|refine R8 ?_|(refine w3 KJ (e:=A9h _ _ ⟨n.1,o,n.2.2.1,v⟩) (k':=?_);show Wk _ _ (.cons _ _ (.cons _ _ (.cons _ _ _))))|(refine w3 IZ (e:=A8V _ _ ⟨⟨n.1,o⟩,n.2.2.1,v⟩) (k':=?_);show Wk _ _ (.cons _ _ (.cons _ _ (.cons _ _ _))))|refine w32 KB (e:=A9A _ ⟨n.1,o⟩) (k':=?_)|refine w32 IW (e:=A8J _ ⟨n.1,o⟩) (k':=?_)|refine AR ?_)
   all_goals
    first|rfl|exact l1 (A74 hw.2.symm)|exact l1 (A74 rfl)|exact l1 (D3 rfl)|(exfalso;exact absurd hw.1.symm ‹_›)|(exfalso;have h:=A74 hw.2.symm;simp_all;done)|(exfalso;have h:=A74 (a:=flI p) (b:=flI p) rfl;simp_all;done)|(exfalso;exact absurd rfl ‹_›)
  .cases f
 .cases f
noncomputable def C0M:L5:=⟨_,fun a=>.nil⟩
def RD:List U->Option (Nat×List U)
 | [.int .u16 b]=>if 0<=b/\b<65536 then some (0,[.bool (decide (b / 1%2=1)),.bool (decide (b / 2%2=1)),.bool (decide (b / 4%2=1)),.bool (decide (b / 8%2=1)),.bool (decide (b / 16%2=1)),.bool (decide (¬b / 32%2=1)),.bool (decide (¬b / 64%2=1)),.bool (decide (b / 128%2=1)),.bool (decide (b / 256%2=1)),.bool (decide (b / 512%2=1)),.bool (decide (b / 1024%2=1)),.int .i64 (([0,0,0,0,9,1000,1002,1003]:List Int).getD (b / 4096%8).toNat 0),.bool (decide (b / 2048%2=1))])else none
 | _=>none
def A8E(b:Int)(a:0<=b/\b<65536):RD [.int .u16 b]=some (0,[.bool (decide (b / 1%2=1)),.bool (decide (b / 2%2=1)),.bool (decide (b / 4%2=1)),.bool (decide (b / 8%2=1)),.bool (decide (b / 16%2=1)),.bool (decide (¬b / 32%2=1)),.bool (decide (¬b / 64%2=1)),.bool (decide (b / 128%2=1)),.bool (decide (b / 256%2=1)),.bool (decide (b / 512%2=1)),.bool (decide (b / 1024%2=1)),.int .i64 (([0,0,0,0,9,1000,1002,1003]:List Int).getD (b / 4096%8).toNat 0),.bool (decide (b / 2048%2=1))]):=A4 a
def B1X:Tr:=.lt 5 (.bin .shr) [h 0 5,.int .u64 (0)]<|.lt 5 (.bin .rem) [h 1 5,.int .u16 (2)]<|aE [h 2 5,.int .u16 (1)]<|.lt 5 (.bin .shr) [h 0 5,.int .u64 (1)]<|.lt 5 (.bin .rem) [h 4 5,.int .u16 (2)]<|aE [h 5 5,.int .u16 (1)]<|.lt 5 (.bin .shr) [h 0 5,.int .u64 (2)]<|.lt 5 (.bin .rem) [h 7 5,.int .u16 (2)]<|aE [h 8 5,.int .u16 (1)]<|.lt 5 (.bin .shr) [h 0 5,.int .u64 (3)]<|.lt 5 (.bin .rem) [h 10 5,.int .u16 (2)]<|aE [h 11 5,.int .u16 (1)]<|.lt 5 (.bin .shr) [h 0 5,.int .u64 (4)]<|.lt 5 (.bin .rem) [h 13 5,.int .u16 (2)]<|aE [h 14 5,.int .u16 (1)]<|.lt 5 (.bin .shr) [h 0 5,.int .u64 (5)]<|.lt 5 (.bin .rem) [h 16 5,.int .u16 (2)]<|aE [h 17 5,.int .u16 (1)]<|aX [h 18 8]<|.lt 5 (.bin .shr) [h 0 5,.int .u64 (6)]<|.lt 5 (.bin .rem) [h 20 5,.int .u16 (2)]<|aE [h 21 5,.int .u16 (1)]<|aX [h 22 8]<|.lt 5 (.bin .shr) [h 0 5,.int .u64 (7)]<|.lt 5 (.bin .rem) [h 24 5,.int .u16 (2)]<|aE [h 25 5,.int .u16 (1)]<|.lt 5 (.bin .shr) [h 0 5,.int .u64 (8)]<|.lt 5 (.bin .rem) [h 27 5,.int .u16 (2)]<|aE [h 28 5,.int .u16 (1)]<|.lt 5 (.bin .shr) [h 0 5,.int .u64 (9)]<|.lt 5 (.bin .rem) [h 30 5,.int .u16 (2)]<|aE [h 31 5,.int .u16 (1)]<|.lt 5 (.bin .shr) [h 0 5,.int .u64 (10)]<|.lt 5 (.bin .rem) [h 33 5,.int .u16 (2)]<|aE [h 34 5,.int .u16 (1)]<|.lt 5 (.bin .shr) [h 0 5,.int .u64 (11)]<|.lt 5 (.bin .rem) [h 36 5,.int .u16 (2)]<|aE [h 37 5,.int .u16 (1)]<|.lt 5 (.bin .shr) [h 0 5,.int .u64 (12)]<|.lt 5 (.bin .rem) [h 39 5,.int .u16 (8)]<|.lt 3 (.sel) [h 40 5,jI 0,jI 0,jI 0,jI 0,jI 9,jI 1000,jI 1002,jI 1003]<|.ret [h 3 8,h 6 8,h 9 8,h 12 8,h 15 8,h 19 8,h 23 8,h 26 8,h 29 8,h 32 8,h 35 8,h3 41,h 38 8]
def B65{G}(j:I6 G):I8 prog G 19 [.s 5] RD [.a [8,8,8,8,8,8,8,8,8,8,8,3,8]]:=by
 refine D0 (d:=60) B1X (cxg (C0M.2 j) .nil) j ⟨f19,_,func19,rfl⟩ C3 C3 ?_;intro us outs f;unfold RD at f;split at f
 .skip;rename_i b;split at f
  .rename_i l;cases f;unfold B1X;refine w0 (.cons 0 _ (.nil)) ?_;repeat (first|refine LQ ?_|refine w1 (.bin .rem) (e:=kV _ _ _ A0) (k':=?_)|refine R8 ?_|refine Y3 ?_|refine w1 (.bin .shr) (e:=W6 1 B8 B8) (k':=?_)|refine w1 (.bin .shr) (e:=W6 2 B8 B8) (k':=?_)|refine w1 (.bin .shr) (e:=W6 4 B8 B8) (k':=?_)|refine w1 (.bin .shr) (e:=W6 8 B8 B8) (k':=?_)|refine w1 (.bin .shr) (e:=W6 16 B8 B8) (k':=?_)|refine w1 (.bin .shr) (e:=W6 32 B8 B8) (k':=?_)|refine w1 (.bin .shr) (e:=W6 64 B8 B8) (k':=?_)|refine w1 (.bin .shr) (e:=W6 128 B8 B8) (k':=?_)|refine w1 (.bin .shr) (e:=W6 256 B8 B8) (k':=?_)|refine w1 (.bin .shr) (e:=W6 512 B8 B8) (k':=?_)|refine w1 (.bin .shr) (e:=W6 1024 B8 B8) (k':=?_)|refine w1 (.bin .shr) (e:=W6 2048 B8 B8) (k':=?_)|refine w1 (.bin .shr) (e:=W6 4096 B8 B8) (k':=?_)|refine w1 (.sel) (e:=nN [0,0,0,0,9,1000,1002,1003] A0 (by show _<((8:Nat):Int);omega)) (k':=?_)|(refine w7 [.bool _,.bool _,.bool _,.bool _,.bool _,.bool _,.bool _,.bool _,.bool _,.bool _,.bool _,.int .i64 _,.bool _] ?_;rotate_left))
   all_goals
    first|rfl
  .cases f
 .cases f
def B6E(x:Int) : -9223372036854775808<=IntKind.i64.wrap x/\IntKind.i64.wrap x<=9223372036854775807:=by
 simp only[IntKind.wrap,IntKind.bits,IntKind.signed,Nat.reduceSub]<;>simp<;>omega
def C2L(c m:Int)(h0:0<=m)(h1:m<256):0<=dM c m/\dM c m<=7:=by
 unfold dM
 (repeat' split)<;>omega
def B9K(q d3 d4 a:Int)(h0:0<=d3)(h1:d3<256):0<=diM q d3 d4 a/\diM q d3 d4 a<=7:=by
 unfold diM
 have:=C2L (dC2 (dC1 d4 a)) d3 h0 h1
 (repeat' split)<;>omega
def B9J(q:Int)(u:C8):((diT q u).length:Int)<=1000:=by
 unfold diT;split
 .have:=B5J (u.take 1000);rw[G3]at this;omega
 .show(0:Int)<=1000;decide
def C1k{e:Int}{s:C8}:∀ n ∈ el (VA e s),0<=n/\n<256:=fun n h=>by
 unfold VA at h;split at h
 .exact GO h
 .cases h
def Okb(n:Int)(x:D4):Prop:=((el x).length:Int)<=n/\∀ y ∈ el x,0<=y/\y<256
def AV{k w b:Int}{t:C8}:Okb 2000 (VA (AZ mo k c m w b r cl t) (enS ck pa fo sg mo k c m w b r cl t)):=by
 refine⟨?_,C1k⟩;unfold VA;split
 .rename_i h
  have:=B8_ (ck:=ck) (pa:=pa) (fo:=fo) (sg:=sg) (mo:=mo) (B3h h).2;rw[E3,jG];omega
 .show(0:Int)<=_;decide
def EG:Okb 0 (some []):=⟨B8,fun x a=>by cases a⟩
def pP{n:Int}{x:D4}(h:Okb n x)(b:Okb m y):Okb (n+m) (S0 x y):=by
 refine⟨?_,fun z a=>?_⟩
 .have:=h.1
  have:=b.1;rw[T9,B1];omega
 .rw[T9]at a;exact(B5.1 a).elim (h.2 z) (b.2 z)
def tM{n:Int}{x:D4}{i j:Nat}(h:Okb n x):Okb n (P8 x i j):=⟨Int.le_trans pA h.1,kX h.2⟩
def B5G{n:Int}{x:D4}{i:Nat}(h:Okb n x)(h0:0<=c)(h1:c<256):Okb n (A1x x i c):=by
 refine⟨?_,fun z a=>?_⟩
 .rw[A1G,bY];exact h.1
 .rw[A1G]at a;rcases jN a with a|rfl
  .exact h.2 z a
  .exact⟨h0,h1⟩
def A5H{n:Int}{x:D4}(h:Okb n x)(b:n<=5000):((el (none:D4)).length:Int)<=5000/\(∀ y ∈ el (none:D4),0<=y/\y<256)/\((el x).length:Int)<=5000/\(∀ y ∈ el x,0<=y/\y<256):=⟨B8,fun y a=>(by cases a),Int.le_trans h.1 b,h.2⟩
def A80{n:Int}{x:D4}(h:Okb n x)(a:Okb m y)(b:n+m<=1000000000):(el x).length+(el y).length<=1000000000:=by
 have:=h.1
 have:=a.1;omega
def A5W{a:Int}{n:Nat}:0<=a%((n:Int)+1):=cA _ A0
def A5V{a:Int}{n:Nat}:a%((n:Int)+1)<=n:=by have:=cL a (show(0:Int)<(n:Int)+1 by omega);omega
def A2H{a:Int}{n:Nat}(h:0<(n:Int)):0<=a%(n:Int):=cA _ A0
def A2G{a:Int}{x:D4}(h:0<((el x).length:Int)):a%((el x).length:Int)<((el (S0 (some []) x)).length:Int):=by rw[T9];exact cL _ h
def C14{a:Int}{x:D4}(h:0<((el x).length:Int))(g:¬(0<=a%((el x).length:Int)/\a%((el x).length:Int)<((el (S0 (some []) x)).length:Int))):False:=g ⟨A2H h,A2G h⟩
noncomputable def C0r:L5:=⟨_,fun a=>(.cons (B67 a) (.cons (B9G a) (.cons (B65 a) (.cons (B9n a) (.cons (B6F a) .nil)))))⟩
def A0q:List U->Option (Nat×List U)
 | [.int .u8 d0,.int .u8 d1,.int .u8 d2,.int .u8 d3,.int .u8 d4,.int .u8 d5,.int .u8 d6,.int .u32 dc,.str u,.int .u16 bb,.int .u16 at_,.int .u8 cc,u_more]=>(J3 rB u_more).bind fun more=>if 0<=bb/\bb<65536/\0<=at_/\at_<65536/\0<=cc/\cc<256/\((el more).length:Int)<=140737488351232/\(∀ x ∈ el more,0<=x/\x<256)/\0<=d0/\d0<256/\0<=d1/\d1<256/\0<=d2/\d2<256/\0<=d3/\d3<256/\0<=d4/\d4<256/\0<=d5/\d5<256/\0<=d6/\d6<256/\0<=dc/\dc<4294967296/\(u.length:Int)<=140737488351232 then some (0,[.bool (true)])else none
 | _=>none
def A82(d0:Int)(d1:Int)(d2:Int)(d3:Int)(d4:Int)(d5:Int)(d6:Int)(d:Int)(u:C8)(a:Int)(at_:Int)(b:Int)(more:D4)(e:0<=a/\a<65536/\0<=at_/\at_<65536/\0<=b/\b<256/\((el more).length:Int)<=140737488351232/\(∀ x ∈ el more,0<=x/\x<256)/\0<=d0/\d0<256/\0<=d1/\d1<256/\0<=d2/\d2<256/\0<=d3/\d3<256/\0<=d4/\d4<256/\0<=d5/\d5<256/\0<=d6/\d6<256/\0<=d/\d<4294967296/\(u.length:Int)<=140737488351232):A0q [.int .u8 d0,.int .u8 d1,.int .u8 d2,.int .u8 d3,.int .u8 d4,.int .u8 d5,.int .u8 d6,.int .u32 d,.str u,.int .u16 a,.int .u16 at_,.int .u8 b,B2 rB more]=some (0,[.bool (true)]):=by
 simp only[A0q,F1,C4];exact A4 e
def rF(a0:Nat)(a:Nat)(d b:Tr):Tr:=.dt 11 (.nilw 1) []<|.fn LH [h a 11,h a0 11] 1<|.br (a+1) d b
def A5o(n:Nat):Tr:=.dt 11 (.subs 1) [h 37 11,jI 0,h3 44]<|rF n (n+1) (.dt 11 (.subs 1) [h 37 11,jI 0,h3 44]<|.dt 11 (.mk 1) []<|.dt 11 (.cat 1) [h (n+4) 11,h (n+3) 11]<|.dt 11 (.cat 1) [h (n+5) 11,h 15 11]<|.dt 11 (.subs 1) [h 37 11,h3 44,h3 42]<|.dt 11 (.cat 1) [h (n+6) 11,h (n+7) 11]<|rF (n+8) (n+9) (.fn PK [] 1<|.ret [h (n+11) 8]) I7) I7
def B2y:Tr:=aD [h 12 11]<|.lt 3 (.min) [h3 13,jI 20]<|.dt 11 (.subs 1) [h 12 11,jI 0,h3 14]<|.fn RD [h 9 5] 13<|.fn UG [h 0 4,h 1 4,h 2 4,h 3 4,h 4 4,h 5 4,h 6 4,h 7 6,h 8 9] 8<|.fn RE [h 16 8,h 17 8,h 18 8,h 19 8,h 20 8,h 21 8,h 22 8,h 23 8,h 24 8,h 25 8,h 26 8,h3 27,h 28 8,h3 29,h3 30,h3 31,h3 32,h3 33,h3 34,h3 35,h 36 9] 2<|.dt 11 (.mk 1) []<|.dt 11 (.cat 1) [h 39 11,h 37 11]<|.lt 3 (.conv .i64) [h 10 5]<|aD [h 37 11]<|aA [h3 42,jI 1]<|.lt 3 (.bin .rem) [h3 41,h3 43]<|aW 42 45 0 (.lt 3 (.conv .i64) [h 10 5]<|.lt 3 (.bin .rem) [h3 46,h3 42]<|J9 40 47 48 (.dt 11 (.set 1 0) [h 40 11,h3 47,h 11 4]<|rF 37 50 (rF 49 52 (A5o 54) I7) I7)) (rF 37 46 (rF 40 48 (A5o 50) I7) I7)
def B8D{G}(o:I6 G):I8 prog G 5 [.a [4,4,4,4,4,4,4,6,9],.s 5,.s 5,.s 4,.s 11] A0q [.s 8]:=by
 refine D0 (d:=60) B2y (cxg (C0r.2 o) .nil) o ⟨f5,_,func5,rfl⟩ C3 C3 ?_;intro us outs j;unfold A0q at j;split at j
 .skip;rename_i d0 d1 d2 d3 d4 d5 d6 n u l at_ z t;have f:=A5.1 j;clear j;obtain⟨more,b,j⟩:=f;replace b:=F2 b;subst b;split at j
  .rename_i w;cases j;have v:Okb 20 (P8 more (0:Int).toNat (min ((el more).length:Int) 20).toNat):=⟨by rw[M1,G3];omega,kX w.2.2.2.2.2.2.2.1⟩;have A:((el (VA (AZ (([0,0,0,0,9,1000,1002,1003]:List Int).getD (l / 4096%8).toNat 0) (diK (d0%4)) (diC (d0%4) d3 d4 n) (diM (d0%4) d3 d4 n) (diW (d0%4) d1) (diB (d0%4) d1 d2 d3 d5 d6) (diR (d0%4) d5) (diL (d0%4) d6) (diT (d0%4) u)) (enS (decide (l / 4%2=1)) (decide (l / 128%2=1)) (decide (l / 256%2=1)) (decide (l / 2048%2=1)) (([0,0,0,0,9,1000,1002,1003]:List Int).getD (l / 4096%8).toNat 0) (diK (d0%4)) (diC (d0%4) d3 d4 n) (diM (d0%4) d3 d4 n) (diW (d0%4) d1) (diB (d0%4) d1 d2 d3 d5 d6) (diR (d0%4) d5) (diL (d0%4) d6) (diT (d0%4) u)))).length:Int)<=2000:=AV.1;have h:=B9K (d0%4) d3 d4 n A0 A0;have x:=B9J (d0%4) u;unfold B2y;refine w0 (.cons 12 _ (.cons 11 _ (.cons 10 _ (.cons 9 _ (.cons 8 _ (.cons 7 _ (.cons 6 _ (.cons 5 _ (.cons 4 _ (.cons 3 _ (.cons 2 _ (.cons 1 _ (.cons 0 _ (.nil)))))))))))))) ?_;repeat (first|refine w4 (fun g=>?_) fun g=>?_|refine w4B (fun g=>?_) fun g=>?_|(refine w7 [.bool _] ?_;rotate_left)|refine w2 (.nilw 1) (r:=rB) (e:=G6 rfl) (k':=?_)|refine w31 LH (e:=A96 _ _ (by first|exact A5H AV B8|exact A5H (pP EG AV) B8|exact A5H (B5G (pP EG AV) A0 A0) B8|exact A5H (tM AV) B8|exact A5H (pP (pP (pP EG (tM AV)) v) (tM AV)) B8)) (k':=?_)|refine w2 (.subs 1) (r:=rB) (e:=Z0 rfl (by first|omega|exact A5W|exact A5V|exact A2H ‹_›|exact A2G ‹_›) (by first|omega|exact A5W|exact A5V|exact A2H ‹_›|exact A2G ‹_›) (by first|omega|exact A5W|exact A5V|exact A2H ‹_›|exact A2G ‹_›)) (k':=?_)|refine w2 (.cat 1) (r:=rB) (e:=eZ rfl (by first|omega|(show 0+_<=_;omega)|exact A80 EG AV B8|exact A80 EG (tM AV) B8|exact A80 (pP EG (tM AV)) v B8|exact A80 (pP (pP EG (tM AV)) v) (tM AV) B8)) (k':=?_)|refine m5 ?_|refine X1 ?_|refine LQ ?_|refine w1 (.bin .rem) (e:=kV _ _ _ A0) (k':=?_)|refine w2 (.mk 1) (r:=rB) (e:=I0 [] rfl B8 rfl) (k':=?_)|refine P7 ?_|refine V1 ?_|refine O0 ?_|refine w31 PK (e:=A7j) (k':=?_)|refine A1l ?_|(refine w3 RD (e:=A8E _ A0) (k':=?_);show Wk _ _ (.cons _ _ (.cons _ _ (.cons _ _ (.cons _ _ (.cons _ _ (.cons _ _ (.cons _ _ (.cons _ _ (.cons _ _ (.cons _ _ (.cons _ _ (.cons _ _ (.cons _ _ _))))))))))))))|(refine w3 UG (e:=A9g _ _ _ _ _ _ _ _ _ ⟨A0,A0,A0,A0,A0,A0,A0,A0,A0,A0,A0,A0,A0,A0,A0,A0,A0⟩) (k':=?_);show Wk _ _ (.cons _ _ (.cons _ _ (.cons _ _ (.cons _ _ (.cons _ _ (.cons _ _ (.cons _ _ (.cons _ _ _)))))))))|refine w32 RE (e:=A8F _ _ _ _ _ _ _ _ _ _ _ _ _ _ _ _ _ _ _ _ _ ⟨by first|omega|exact(B6E _).1,by first|omega|exact(B6E _).2,by first|omega|(simp only[G3,F6,E0];omega)⟩) (k':=?_)|refine cB ?_|refine Y4 ?_|refine w2 (.set 1 0) (r:=rB) (e:=A09 _ rfl (A2 rfl) (by first|omega|exact A5W|exact A5V|exact A2H ‹_›|exact A2G ‹_›) (by first|omega|exact A5W|exact A5V|exact A2H ‹_›|exact A2G ‹_›) rfl) (k':=?_)|(refine w8 ?_;first|omega|exact C14 ‹_› ‹_›|exact absurd ‹_› B8))
   all_goals
    first|rfl|(exfalso;simp_all;done)
  .cases j
 .cases j
end
end Go.Proofs.YtdimocjaepnifaaGreatDoor
