import Derived.Test.YtdimocjaepnifaaGreatDoorX13
set_option linter.all false
set_option maxRecDepth 100000
set_option maxHeartbeats 4000000
namespace Go.Proofs.YtdimocjaepnifaaGreatDoor
variable {c cl hi i lo m mo:Int}{l r u:List Int}{p pe' q:E0}{ck fo g pa sg z:Bool}{t:D1}
section
open Go Go.Sx
def evG(s:D1):Bool:=decide ((s.length:Int)>4) && decide (byA s 2=60)
def evD(s:D1):D1:=(s.drop (3:Int).toNat).take (((s.length:Int)-1).toNat-(3:Int).toNat)
def evK(s:D1):Bool:=if evG s=true then decide ((S2 (evD s)).2=0)else decide ((s.length:Int)=6) && decide ((s.drop (0:Int).toNat).take ((3:Int).toNat-(0:Int).toNat)=[27,91,77])
def evN(s:D1):Int:=if evG s=true then S1 (S2 (evD s)).1 0 0 else byA s 3-32
def evC(s:D1):Int:=if evG s=true then S1 (S2 (evD s)).1 1 0-1 else byA s 4-33
def evR(s:D1):Int:=if evG s=true then S1 (S2 (evD s)).1 2 0-1 else byA s 5-33
def evM(n:Int):Int:=if n≥0 then n / 4%2+n / 8%2*2+n / 16%2*4 else 0
def evT(n:Int):Int:=if n≥0 then n%4 else 0
def evW(g:Bool)(n l:Int):Int:=if ¬n≥0 then 0 else if n≥64 then 3 else if n≥32 then 2 else if(g=true∧l=109)∨(g=false∧n%4=3)then 1 else 0
def evX(s:D1):Prop:=O5 2 0 (evM (evN s)) (evW (evG s) (evN s) (mdL s)) (evT (evN s)) (evR s) (evC s) []
instance(s:D1):Decidable (evX s):=by unfold evX;infer_instance
def evB(s:D1):Bool:=evK s && (decide (evX s) && decide (moS (evG s) (evM (evN s)) (evW (evG s) (evN s) (mdL s)) (evT (evN s)) (evR s) (evC s)=s))
def dd:List Qt→List Qt
 | a::b::r=>if A29 a b=true then dd (b::r)else a::dd (b::r)
 | l=>l
def l3(a:Qt):Bool:=Nat.ble 3 a.1.length
def FU{w b r:Int}(h:O5 2 0 m w b r c []):0≤w∧w≤3∧0≤b∧b≤3∧0≤m∧m≤7∧0≤r∧r≤39∧0≤c∧c≤79:=by
 rcases h with h|h|h|h
 ·exact absurd h.1 C3
 ·have:=h.2.2.2;unfold msP at this;omega
 ·exact absurd h.1 C3
 ·exact absurd h.1 C3
def B0M{w b r:Int}(h:O5 2 0 m w b r c []):0≤nuS m w b∧nuS m w b≤95:=by
 have:=VK w;have:=FU h;unfold nuS;omega
def B5J{a b d:Int}(h:0≤a):S1 (some [some [a],some [b],some [c]]) 0 d=a:=by
 unfold S1;rw[A3]
 ·rfl
 ·rintro(h1|h1|h1|h1)
  ·exact absurd h1 C3
  ·have h1:(3:Int)≤0:=h1;omega
  ·have h1:(1:Int)=0:=h1;omega
  ·have h1:a<0:=h1;omega
def Dcd(L:List Int)(x:List Xt):Prop:=el (rnP L none)=[]∧el (rnI L none SL none)=x
def A2o{f:D1}{b:Int}(hq:el q≠[]∨128≤b)(hk:knd (el q++[b])=1):el (fsP f q b)=bI f++(el q++[b])∧fsI f q b none=none:=by
 have hz:¬(((el q).length:Int)=0∧b<128):=fun h=>hq.elim (fun k=>k (D3.1 A1)) (fun k=>by omega)
 have hz2:¬(((el q).length:Int)=0∧b=27):=A1;have hR:utR (el q) b=some (el q++[b]):=by unfold utR;rw[A3 A1,A4 hk]
 have hC:utC (el q) b=none:=by unfold utC;rw[A3 A1,A4 hk]
 unfold fsP fsI;rw[A3 hz2,A3 hz,A3 hz2,A3 hz,hR,hC,A3 (fun h=>absurd h.1 C3)];refine⟨?_,rfl⟩;show el (fs1 f (some (el q++[b])))=_;unfold fs1;rw[A4 (by rw[E8,la];omega),fB];rfl
def B0d{f:D1}{b:Int}(hq:el q≠[]∨128≤b)(hk:knd (el q++[b])=2)(hc:dN (el q++[b])=c)(h160:160≤c):fsP f q b=none∧fsI f q b none=some [ipK c ((f.length:Int)*2)]:=by
 have hz:¬(((el q).length:Int)=0∧b<128):=fun h=>hq.elim (fun k=>k (D3.1 A1)) (fun k=>by omega)
 have hz2:¬(((el q).length:Int)=0∧b=27):=A1;have hR:utR (el q) b=none:=by unfold utR;rw[A4 hk]
 have hC:utC (el q) b=some [c]:=by unfold utC;rw[A4 hk,hc]
 unfold fsP fsI;rw[A3 hz2,A3 hz,A3 hz2,A3 hz,hR,hC,A3 (fun h=>absurd h.2 C3)];refine⟨?_,?_⟩
 ·show(if c<128 then _ else cP [] _)=_;rw[A3 A1];rfl
 ·show(if c<128 then _ else if 159<c then _ else _)=_;rw[A3 A1,A4 A1];rfl
def A7B{f:D1}(hf:f=[]∨f=[27]){b:Int}(hp:el p=bI f++l)(hl:l≠[])(hk:knd l=1):stP p b=fsP f (some l) b∧stI p b SL none=fsI f (some l) b none:=by
 have h128:=jU hl hk;rcases hf with rfl|rfl
 ·have hp:el p=l:=hp;have hz:¬((el p).length:Int)=0:=fun h=>hl (by rw[← hp];exact D3.1 A1)
  have hge:(el p).getD 0 0≥128:=by rw[hp];exact h128
  unfold stP stI;rw[A3 hz,A4 hge,A3 hz,A4 hge];exact⟨VV hp,VW hp⟩
 ·have hp:el p=27::l:=hp;have h1:1≤l.length:=R4.2 hl;have hz:¬((el p).length:Int)=0:=by rw[hp];simp only[B3];omega
  have hlo:¬(el p).getD 0 0≥128:=by rw[hp];show ¬((27:Int)≥128);decide
  have hne:iB (el p)≠[27]:=fun k=>by
   have:=H3 List.length k;rw[O4,hp]at this;have:l.length+1=1:=this;omega
  have hge:(el p).getD 1 0≥128:=by
   rw[hp];cases l with
   | nil=>exact absurd rfl hl
   | cons a r=>exact h128
  have hs:el (L8 p 1 (el p).length)=l:=by
   have:=LM (p:=p);rw[hp]at this;rw[hp];exact this
  unfold stP stI;rw[A3 hz,A3 hlo,A4 hne,A4 hge,A3 hz,A3 hlo,A4 hne,A4 hge];exact⟨VV hs,VW hs⟩
def A9G{f:D1}(hf:f=[]∨f=[27]){c:Int}(h160:160≤c):∀ (r l:List Int) (p:E0),el p=bI f++l→l≠[]→knd l=1→(∀ n,1≤n→n<r.length→knd (l++r.take n)=1)→r≠[]→knd (l++r)=2→dN (l++r)=c →
  el (rnP r p)=[]∧el (rnI r p SL none)=[ipK c ((f.length:Int)*2)]
 | [],_,_,_,_,_,_,hr,_,_=>absurd rfl hr
 | [b],l,p,hp,hl,hk,_,_,h2,hc=>by
   obtain⟨e1,e2⟩:=A7B hf (b:=b) hp hl hk;obtain⟨e3,e4⟩:=B0d (f:=f) (q:=some l) (b:=b) (.inl hl) h2 hc h160;show el (stP p b)=[]∧el (stI p b SL none)=_;rw[e1,e2,e3,e4];exact⟨rfl,rfl⟩
 | b::d::r,l,p,hp,hl,hk,hm,_,h2,hc=>by
   obtain⟨e1,e2⟩:=A7B hf (b:=b) hp hl hk;have hk1:knd (l++[b])=1:=hm 1 C3 (by simp only[B3];omega);obtain⟨e3,e4⟩:=A2o (f:=f) (q:=some l) (b:=b) (.inl hl) hk1;have ih:=A9G hf h160 (d::r) (l++[b]) (stP p b) (by rw[e1,e3];rfl) (by simp) hk1 (fun n h1 hn=>by
    have:=hm (n+1) A1 (by simp only[B3]at hn ⊢;omega);rw[F3];exact this) (by simp) (by rw[F3];exact h2) (by rw[F3];exact hc)
   show el (rnP (d::r) (stP p b))=[]∧el (rnI (d::r) (stP p b) SL (stI p b SL none))=_;rw[e2,e4];exact ih
def SU{f:D1}(hf:f=[]∨f=[27]){b:Int}(h160:160≤c)(hk:knd [b]=1)(hm:∀ n,1≤n→n<r.length→knd ([b]++r.take n)=1)(hr:r≠[])(h2:knd ([b]++r)=2)(hc:dN ([b]++r)=c) :
  Dcd (bI f++([b]++r)) [ipK c ((f.length:Int)*2)]:=by
 have h128:128≤b:=jU (l:=[b]) (by simp) hk;have go:∀ p:E0,el (stP p b)=bI f++[b]→el (rnP r (stP p b))=[]∧el (rnI r (stP p b) SL none)=[ipK c ((f.length:Int)*2)]:=fun p hp=>A9G hf h160 r [b] (stP p b) hp (by simp) hk hm hr h2 hc
 obtain⟨e3,e4⟩:=A2o (f:=f) (q:=none) (b:=b) (.inr h128) hk;unfold Dcd;rcases hf with rfl|rfl
 ·have s1:stP none b=fsP [] none b:=A4 rfl;have s2:stI none b SL none=fsI [] none b none:=A4 rfl;have k:=go none (by rw[s1,e3];rfl);show el (rnP r (stP none b))=[]∧el (rnI r (stP none b) SL (stI none b SL none))=_;rw[s2,e4];exact k
 ·have s1:stP (some [27]) b=fsP [27] none b:=by
   show(if b=27 then _ else if b=91 then _ else if b=79 then _ else fsP [27] none b)=_;rw[A3 A1,A3 A1,A3 A1]
  have s2:stI (some [27]) b SL none=fsI [27] none b none:=by
   show(if b=27 then _ else if b=91 then _ else if b=79 then _ else fsI [27] none b none)=_;rw[A3 A1,A3 A1,A3 A1]
  have k:=go (some [27]) (by rw[s1,e3];rfl);show el (rnP r (stP (some [27]) b))=[]∧el (rnI r (stP (some [27]) b) SL (stI (some [27]) b SL none))=_;rw[s2,e4];exact k
def tG{n:Int}(h:S3 (l.getD 0 0)=n)(hl:(l.length:Int)≤n)(ho:okT (l.drop 1) (loB (l.getD 0 0)) (hiB (l.getD 0 0))=true):knd l=if(l.length:Int)<n then 1 else 2:=by
 unfold knd;rw[h,A3 A1,A4 ho]
def FG{a:Int}(h:lo≤a∧a≤hi):okT [a] lo hi=true:=by unfold okT;rw[F4 h];rfl
def UT{a:Int}(h:lo≤a∧a≤hi)(h2:okT r 128 191=true):okT (a::r) lo hi=true:=by
 unfold okT;rw[F4 h,h2];rfl
def B1E{f:D1}(hf:f=[]∨f=[27])(h:okU c)(h160:160≤c):Dcd (bI f++xS c) [ipK c ((f.length:Int)*2)]:=by
 unfold okU at h;have m1:128≤128+c%64∧128+c%64≤191:=A1;have m2:128≤128+c / 64%64∧128+c / 64%64≤191:=A1;by_cases h1:c<2048
 ·rw[A1Z A1 h1];have hb:S3 (192+c / 64)=2:=by unfold S3;rw[A3 A1,A4 A1]
  have hlo:loB (192+c / 64)=128:=by unfold loB;rw[A3 A1,A3 A1]
  have hhi:hiB (192+c / 64)=191:=by unfold hiB;rw[A3 A1,A3 A1]
  refine SU hf (b:=192+c / 64) (r:=[128+c%64]) h160 ?_ (fun n a b=>?_) (by simp) ?_ ?_
  ·exact tG (n:=2) hb (by simp) rfl
  ·have b:n<1:=b;omega
  ·exact tG (n:=2) (l:=[192+c / 64,128+c%64]) hb (by simp) (by show okT [128+c%64] (loB (192+c / 64)) (hiB (192+c / 64))=true;rw[hlo,hhi];exact FG m1)
  ·show(192+c / 64)%32*64+(128+c%64)%64=c;omega
 ·by_cases h2:c<65536
  ·rw[A1Y A1 h1 h2];have hb:S3 (224+c / 4096)=3:=by unfold S3;rw[A3 A1,A3 A1,A4 A1]
   have hm2:loB (224+c / 4096)≤128+c / 64%64∧128+c / 64%64≤hiB (224+c / 4096):=by
    unfold loB hiB
    (repeat' split)<;>omega
   refine SU hf (b:=224+c / 4096) (r:=[128+c / 64%64,128+c%64]) h160 ?_ (fun n a b=>?_) (by simp) ?_ ?_
   ·exact tG (n:=3) hb (by simp) rfl
   ·have b:n<2:=b;have:n=1:=A1;subst this;exact tG (n:=3) (l:=[224+c / 4096,128+c / 64%64]) hb (by simp) (FG hm2)
   ·exact tG (n:=3) (l:=[224+c / 4096,128+c / 64%64,128+c%64]) hb (by simp) (UT hm2 (FG m1))
   ·show((224+c / 4096)%16*64+(128+c / 64%64)%64)*64+(128+c%64)%64=c;omega
  ·rw[A1X A1 h1 h2];have hb:S3 (240+c / 262144)=4:=by unfold S3;rw[A3 A1,A3 A1,A3 A1,A4 A1]
   have m3:loB (240+c / 262144)≤128+c / 4096%64∧128+c / 4096%64≤hiB (240+c / 262144):=by
    unfold loB hiB
    (repeat' split)<;>omega
   refine SU hf (b:=240+c / 262144) (r:=[128+c / 4096%64,128+c / 64%64,128+c%64]) h160 ?_ (fun n a b=>?_) (by simp) ?_ ?_
   ·exact tG (n:=4) hb (by simp) rfl
   ·have b:n<3:=b;have:n=1∨n=2:=A1;rcases this with rfl|rfl
    ·exact tG (n:=4) (l:=[240+c / 262144,128+c / 4096%64]) hb (by simp) (FG m3)
    ·exact tG (n:=4) (l:=[240+c / 262144,128+c / 4096%64,128+c / 64%64]) hb (by simp) (UT m3 (FG m2))
   ·exact tG (n:=4) (l:=[240+c / 262144,128+c / 4096%64,128+c / 64%64,128+c%64]) hb (by simp) (UT m3 (UT m2 (FG m1)))
   ·show(((240+c / 262144)%8*64+(128+c / 4096%64)%64)*64+(128+c / 64%64)%64)*64+(128+c%64)%64=c;omega
def A5_{f:D1}(hf:f=[]∨f=[27]){b:Int}(h0:0≤b)(h1:b<128)(h27:b≠27)(hx:f=[]∨(b≠91∧b≠79)):Dcd (bI f++[b]) [ipK (plC b) (plM b+(f.length:Int)*2)]:=by
 obtain⟨k1,k2⟩:=B3Q (f:=f) (q:=none) (b:=b) (l:=none) (fun h=>h27 h.2) ⟨rfl,h1⟩;unfold Dcd;rcases hf with rfl|rfl
 ·have s1:stP none b=fsP [] none b:=A4 rfl;have s2:stI none b SL none=fsI [] none b none:=A4 rfl;show el (stP none b)=[]∧el (stI none b SL none)=_;rw[s1,s2,← k1,← k2];exact⟨rfl,rfl⟩
 ·have hx:=hx.resolve_left C3;have s1:stP (some [27]) b=fsP [27] none b:=by
   show(if b=27 then _ else if b=91 then _ else if b=79 then _ else fsP [27] none b)=_;rw[A3 h27,A3 hx.1,A3 hx.2]
  have s2:stI (some [27]) b SL none=fsI [27] none b none:=by
   show(if b=27 then _ else if b=91 then _ else if b=79 then _ else fsI [27] none b none)=_;rw[A3 h27,A3 hx.1,A3 hx.2]
  show el (stP (some [27]) b)=[]∧el (stI (some [27]) b SL (stI none 27 SL none))=_;show el (stP (some [27]) b)=[]∧el (stI (some [27]) b SL none)=_;rw[s1,s2,← k1,← k2];exact⟨rfl,rfl⟩
instance dqX:DecidableEq Xt:=fun a b=>if h:eqX a b=true then isTrue (B3a h)else isFalse fun e=>h (by subst e;unfold eqX;simp)
instance(L:List Int)(x:List Xt):Decidable (Dcd L x):=by unfold Dcd;infer_instance
def A39{b:Int}(h0:0≤b)(h1:b<256):bI (iB [b])=[b]:=by
 show[(((UInt8.ofNat b.toNat).toNat:Nat):Int)]=[b];rw[UInt8.toNat_ofNat',P7 (show b.toNat<2 ^ 8 by omega)];rw[show((b.toNat:Nat):Int)=b by omega]
def A3_:∀ {l:List Int},(∀ x ∈ l,0≤x∧x<256)→bI (iB l)=l
 | [],_=>rfl
 | a::r,h=>by
   have h1:=A39 (h a (by simp)).1 (h a (by simp)).2;have h2:=A3_ (l:=r) fun x hx=>h x (C7 _ hx)
   show bI (iB [a])++bI (iB r)=a::r;rw[h1,h2];rfl
def B0D(h0:0≤c)(h1:c≤1114111):∀ x ∈ xS c,0≤x∧x<256:=by
 intro x hx;unfold xS at hx
 (repeat' split at hx)<;>simp only[C6,M7,or_false]at hx<;>omega
def A9z:∀ k:Fin 22,∀ m:Fin 8,∀ ck:Bool,Dcd (bI (keS ck (1114113+((k.val:Nat):Int)) ((m.val:Nat):Int))) [ipK (1114113+((k.val:Nat):Int)) ((m.val:Nat):Int)]:=by decide +kernel
def A0r:∀ ck:Bool,Dcd (bI (keS ck 1114135 0)) [ipK 1114135 0]∧Dcd (bI (keS ck 1114135 2)) [ipK 1114135 2]∧Dcd (bI (keS ck 1114137 0)) [ipK 1114137 0]∧Dcd (bI (keS ck 1114137 2)) [ipK 1114137 2]∧Dcd (bI (keS ck 1114136 0)) [ipK 1114136 0]∧Dcd (bI (keS ck 1114136 1)) [ipK 1114136 1]∧Dcd (bI (keS ck 1114136 2)) [ipK 1114136 2]:=by decide +kernel
def B3i{f:D1}(hf:f=[]∨f=[27]){b:Int}(h0:0≤b)(h1:b<128)(h27:b≠27)(hx:f=[]∨(b≠91∧b≠79))(hc:plC b=c)(hm:plM b+(f.length:Int)*2=m):Dcd (bI (f++iB [b])) [ipK c m]:=by
 rw[vW,A39 h0 A1,← hc,← hm];exact A5_ hf h0 h1 h27 hx
def A9D{f:D1}(hf:f=[]∨f=[27])(h:chP c)(hx:f=[]∨(c≠91∧c≠79))(hm:(f.length:Int)*2=m):Dcd (bI (f++ID c)) [ipK c m]:=by
 unfold chP okU at h;unfold ID;rw[sT (c:=c) h.1];by_cases h1:c<128
 ·rw[A1a h1];refine B3i hf A1 h1 A1 hx ?_ ?_
  ·unfold plC;rw[A3 A1,A3 A1,A3 A1,A3 A1,A3 A1,A3 A1]
  ·have:plM c=0:=by unfold plM;rw[A3 A1,A3 A1,A3 A1,A3 A1]
   omega
 ·rw[vW,A3_ (B0D h.1.1 h.1.2.1),← hm];exact B1E hf h.1 A1
def A9C{f:D1}(hf:f=[]∨f=[27])(h:0≤fC c)(hm:4+(f.length:Int)*2=m):Dcd (bI (f++iB [fC c])) [ipK c m]:=by
 have k:=WQ c;refine B3i hf h A1 A1 (.inr ⟨A1,A1⟩) ?_ ?_
 ·unfold plC;rcases k with k|k|k|k|k
  ·rw[k.2,k.1];rfl
  ·omega
  ·rw[A3 A1,A3 A1,A3 A1,A3 A1,A4 A1];omega
  ·rw[A3 A1,A3 A1,A3 A1,A3 A1,A3 A1,A4 A1];omega
  ·omega
 ·have:plM (fC c)=4:=by unfold plM;rw[A3 A1,A3 A1,A3 A1,A4 A1]
  omega
def B1J(h:i7 c m)(he:c≠1114138):Dcd (bI (keS ck c m)) [ipK c m]:=by
 unfold i7 at h;rcases h with⟨hc,hm⟩|h|h|h|h
 ·have hb:=hc;unfold chP okU at hb;have e:keS ck c m=if m / 4%2*4≠0 then CV m++iB [fC c]else CV m++ID c:=by
   unfold keS;rw[A3 A1,A3 A1,A3 A1,A3 A1,A3 A1,A4 A1]
  rw[e];rcases hm with rfl|⟨rfl,h1,h2⟩|⟨h1,rfl|rfl⟩
  ·exact A9D (f:=[]) (.inl rfl) hc (.inl rfl) rfl
  ·exact A9D (f:=[27]) (.inr rfl) hc (.inr ⟨h1,h2⟩) rfl
  ·exact A9C (f:=[]) (.inl rfl) h1 rfl
  ·exact A9C (f:=[27]) (.inr rfl) h1 rfl
 ·obtain⟨h1,h2,h3,h4⟩:=h;have k:=A9z ⟨(c-1114113).toNat,A1⟩ ⟨m.toNat,A1⟩ ck;have e1:1114113+(((c-1114113).toNat:Nat):Int)=c:=A1;have e2:((m.toNat:Nat):Int)=m:=A1;simp only[e1,e2]at k;exact k
 ·obtain⟨k1,k2,k3,k4,_⟩:=A0r ck;rcases h with⟨rfl|rfl,rfl|rfl⟩
  ·exact k1
  ·exact k2
  ·exact k3
  ·exact k4
 ·obtain⟨_,_,_,_,k5,k6,k7⟩:=A0r ck;rcases h with⟨rfl,rfl|rfl|rfl⟩
  ·exact k5
  ·exact k6
  ·exact k7
 ·exact absurd h.1 he
def B1K{w:Int}(h0:0≤w)(h1:w≤1):Dcd (bI ([27,91]++(if w=0 then[79]else[73]))) [(4,0,0,w,0,0,0,[])]:=by
 have:w=0∨w=1:=A1;rcases this with rfl|rfl<;>decide +kernel
def A3X:el (rnP (bI [27]) none)=[27]∧el (rnI (bI [27]) none SL none)=[]:=by decide +kernel
def B3h(h:el p=[27]):flI p=some [(1,1114138,0,0,0,0,0,[])]:=by
 have hv:vdS p=true:=by
  unfold vdS;rw[h];decide +kernel
 exact(B5r hv ⟨by rw[h];decide,by rw[K5,h];rfl⟩ (by rw[h];rfl)).symm
def B1j:uQ.all (fun a=>decide (a.1.getD 2 0≠60∧a.1.getD 2 0≠77))=true:=by decide +kernel
def B0e{s:D1}(h:s.getD 2 0=60∨s.getD 2 0=77):uQ.find? (fun a=>(s == a.1 && true))=none:=by
 rw[List.find?_eq_none];intro a ha k;have e:s=a.1:=eq_of_beq (N7 k).1
 have:=J0 (E4.1 B1j a ha);rw[← e]at this;rcases h with h|h
 ·exact this.1 h
 ·exact this.2 h
def A7A(u:List Int)(b:Int):stP (some (27::91::u)) b=sqP (some (27::91::(u++[b]))) b∧stI (some (27::91::u)) b SL none=sqI (some (27::91::(u++[b]))) b SL none:=⟨rfl,rfl⟩
def zY{b:Int}(h:sqC (iB (27::91::(u++[b]))) b=1):stP (some (27::91::u)) b=some (27::91::(u++[b]))∧stI (some (27::91::u)) b SL none=none:=by
 obtain⟨e1,e2⟩:=A7A u b;have k:=A4p (a:=some (27::91::(u++[b]))) (b:=b) (mp:=SL) (l:=none) h;rw[e1,e2,← k.1,← k.2];exact⟨rfl,rfl⟩
def A0o{b:Int}{x:Xt}(h:sqC (iB (27::91::(u++[b]))) b=2)(hx:cmX (iB (27::91::(u++[b]))) SL=some x):stP (some (27::91::u)) b=none∧stI (some (27::91::u)) b SL none=some [x]:=by
 obtain⟨e1,e2⟩:=A7A u b;have k:=A9y (a:=some (27::91::(u++[b]))) (b:=b) (mp:=SL) (l:=none) h;rw[e1,e2,← k.1,← k.2];refine⟨rfl,?_⟩;show cmI (iB (27::91::(u++[b]))) SL none=_;unfold cmI;rw[hx];rfl
def A7I{b:Int}(hb:32≤b∧b≤63)(hl:(r.length:Int)≤21):sqC (iB (27::91::60::r)) b=1:=by
 have e:iB (27::91::60::r)=27::91::60::iB r:=rfl;have l:((27::91::60::iB r:D1).length:Int)=r.length+3:=by simp only[B3,O4];omega
 rw[e];unfold sqC sqD sqE sqF sqG sqH;rw[A3 (show ¬Lib.hasPrefix (27::91::60::iB r) [27,91,50,48,48,126]=true from fun h=>by cases h),A3 (show ¬Lib.hasPrefix (27::91::60::iB r) [27,91,77]=true from fun h=>by cases h),A3 (show ¬(27::91::60::iB r)=[27,91,50,48,48,126]from fun h=>absurd (O8 (O8 (O8 h).2).2).1 C3),A3 (show ¬Lib.hasPrefix (27::91::60::iB r) [27,91,77]=true from fun h=>by cases h),A3 A1,A4 A1,A4 A1,A3 A1]
def A9x{b:Int}(hb:64≤b∧b≤126):sqC (iB (27::91::60::r)) b=2:=by
 have e:iB (27::91::60::r)=27::91::60::iB r:=rfl;rw[e];unfold sqC sqD sqE sqF;rw[A3 (show ¬Lib.hasPrefix (27::91::60::iB r) [27,91,50,48,48,126]=true from fun h=>by cases h),A3 (show ¬Lib.hasPrefix (27::91::60::iB r) [27,91,77]=true from fun h=>by cases h),A3 (show ¬(27::91::60::iB r)=[27,91,50,48,48,126]from fun h=>absurd (O8 (O8 (O8 h).2).2).1 C3),A3 (show ¬Lib.hasPrefix (27::91::60::iB r) [27,91,77]=true from fun h=>by cases h),A4 A1,A4 A1]
def A07:∀ (r u:List Int),(∀ x ∈ r,32≤x∧x≤63)→((u.length:Int)+r.length≤21)→rnP r (some (27::91::60::u))=some (27::91::60::(u++r))∧rnI r (some (27::91::60::u)) SL none=none
 | [],u,_,_=>by rw[y6];exact⟨rfl,rfl⟩
 | b::r,u,h,hl=>by
   have hl:(u.length:Int)+((r.length:Int)+1)≤21:=by simp only[B3]at hl;omega
   have k:sqC (iB (27::91::((60::u)++[b]))) b=1:=A7I (r:=u++[b]) (h b (by simp)) (by rw[la];omega);obtain⟨e1,e2⟩:=zY (u:=60::u) k;have ih:=A07 r (u++[b]) (fun x hx=>h x (C7 _ hx)) (by rw[la];omega);show rnP r (stP (some (27::91::60::u)) b)=_∧rnI r (stP (some (27::91::60::u)) b) SL (stI (some (27::91::60::u)) b SL none)=_;rw[e1,e2];have e3:u++b::r=u++[b]++r:=by simp
   rw[e3];exact ih
def A0p{b:Int}(hl:(r.length:Int)≤2):sqC (iB (27::91::77::r)) b=1:=by
 have e:iB (27::91::77::r)=27::91::77::iB r:=rfl;have l:((27::91::77::iB r:D1).length:Int)=r.length+3:=by simp only[B3,O4];omega
 rw[e];unfold sqC sqD;rw[A3 (show ¬Lib.hasPrefix (27::91::77::iB r) [27,91,50,48,48,126]=true from fun h=>by cases h),A4 (show Lib.hasPrefix (27::91::77::iB r) [27,91,77]=true from rfl),A4 A1]
def A9w{x y z b:Int}:sqC (iB [27,91,77,x,y,z]) b=2:=by
 have e:iB [27,91,77,x,y,z]=27::91::77::iB [x,y,z]:=rfl;rw[e];unfold sqC sqD sqE sqF;rw[A3 (show ¬Lib.hasPrefix (27::91::77::iB [x,y,z]) [27,91,50,48,48,126]=true from fun h=>by cases h),A4 (show Lib.hasPrefix (27::91::77::iB [x,y,z]) [27,91,77]=true from rfl),A3 (by show ¬((6:Int)<6);decide),A3 (show ¬(27::91::77::iB [x,y,z])=[27,91,50,48,48,126]from fun h=>absurd (O8 (O8 (O8 h).2).2).1 C3),A4 (show Lib.hasPrefix (27::91::77::iB [x,y,z]) [27,91,77]=true from rfl)]
def A9_{x y z:Int}{v:Xt}(hx:cmX (iB [27,91,77,x,y,z]) SL=some v):Dcd [27,91,77,x,y,z] [v]:=by
 have a0:stP none 27=some [27]∧stI none 27 SL none=none:=⟨rfl,rfl⟩;have a1:stP (some [27]) 91=some [27,91]∧stI (some [27]) 91 SL none=none:=⟨rfl,rfl⟩;obtain⟨b1,b2⟩:=zY (u:=[]) (b:=77) (A0p (r:=[]) C3);obtain⟨c1,c2⟩:=zY (u:=[77]) (b:=x) (A0p (r:=[x]) (by show(1:Int)≤2;decide));obtain⟨d1,d2⟩:=zY (u:=[77,x]) (b:=y) (A0p (r:=[x,y]) (by show(2:Int)≤2;decide));obtain⟨e1,e2⟩:=A0o (u:=[77,x,y]) (b:=z) A9w hx;unfold Dcd;show el (stP (stP (stP (stP (stP (stP none 27) 91) 77) x) y) z)=[]∧el (stI (stP (stP (stP (stP (stP none 27) 91) 77) x) y) z SL (stI (stP (stP (stP (stP none 27) 91) 77) x) y SL (stI (stP (stP (stP none 27) 91) 77) x SL (stI (stP (stP none 27) 91) 77 SL (stI (stP none 27) 91 SL (stI none 27 SL none))))))=[v];rw[a0.1,a0.2,a1.1,a1.2];rw[show stP (some [27,91]) 77=_ from b1,show stI (some [27,91]) 77 SL none=_ from b2];rw[show stP (some (27::91::([]++[77]))) x=_ from c1,show stI (some (27::91::([]++[77]))) x SL none=_ from c2];rw[show stP (some (27::91::([77]++[x]))) y=_ from d1,show stI (some (27::91::([77]++[x]))) y SL none=_ from d2];rw[show stP (some (27::91::([77,x]++[y]))) z=_ from e1,show stI (some (27::91::([77,x]++[y]))) z SL none=_ from e2];exact⟨rfl,rfl⟩
def WA{s:D1}{n w b r:Int}(h2:s.getD 2 0=60∨s.getD 2 0=77)(hp:Lib.hasPrefix s [27,91]=true)(hB:mdB s=true)(en:mdN s=n)(ew:mdV s=w)(er:mdR s=r)(ec:mdC s=c)(em:n / 4%8=m)(eb:n%4=b):cmX s SL=some (2,0,m,w,b,r,c,[]):=by
 unfold cmX;show(match uQ.find? (fun a=>(s == a.1 && true))with|some q=>some q.2|none=>_)=_;rw[B0e h2];show(if Lib.hasPrefix s [27,91]=true∧mdB s=true then _ else _)=_;rw[A4 ⟨hp,hB⟩,en,ew,er,ec,em,eb]
def B3D{w b r:Int}(h:O5 2 0 m w b r c []):w=0→b≤2:=by
 rcases h with h|h|h|h
 ·exact absurd h.1 C3
 ·have:=h.2.2.2;unfold msP at this;omega
 ·exact absurd h.1 C3
 ·exact absurd h.1 C3
def B0L{w b r:Int}(h:O5 2 0 m w b r c []):nuS m w b / 4%8=m∧nuS m w b%4=b:=by
 have:=VK w;have:=FU h;unfold nuS;omega
def A71{w b r l:Int}(h:O5 2 0 m w b r c [])(ht:g=true→(l=109↔w=1))(hf:g=false→w=1→b=3):mdW g (nuS m w b) l=w:=by
 have k:=VK w;have hb:=FU h;have h0:=B3D h;have hm:=B0L h;unfold mdW;by_cases h3:w=3
 ·rw[A4 (by unfold nuS;omega)];exact h3.symm
 ·rw[A3 (by unfold nuS;omega)];by_cases h2:w=2
  ·rw[A4 (by unfold nuS;omega)];exact h2.symm
  ·rw[A3 (by unfold nuS;omega)];by_cases h1:w=1
   ·rw[A4]
    ·exact h1.symm
    ·cases g with
     | true=>exact .inl ⟨rfl,(ht rfl).2 h1⟩
     | false=>exact .inr ⟨rfl,by rw[hm.2];exact hf rfl h1⟩
   ·rw[A3]
    ·omega
    ·rintro(q|q)
     ·exact h1 ((ht q.1).1 q.2)
     ·have:=q.2;omega
def u8i{x:Int}(h0:0≤x)(h1:x<256):(((UInt8.ofNat x.toNat).toNat:Nat):Int)=x:=by
 rw[UInt8.toNat_ofNat',P7 (show x.toNat<2 ^ 8 by omega)];omega
def B1H{w b r:Int}(h:O5 2 0 m w b r c [])(hw:w=1→b=3):Dcd (bI (moS false m w b r c)) [(2,0,m,w,b,r,c,[])]:=by
 have hb:=FU h;have hn:=B0M h;have hm:=B0L h;have e:moS false m w b r c=iB [27,91,77,32+nuS m w b,33+c,33+r]:=by unfold moS;rw[A4 rfl];rfl
 have eb:bI (moS false m w b r c)=[27,91,77,32+nuS m w b,33+c,33+r]:=by
  rw[e];refine A3_ fun x hx=>?_
  simp only[C6,M7,or_false]at hx;omega
 rw[eb];have hG:mdG (iB [27,91,77,32+nuS m w b,33+c,33+r])=false:=rfl;obtain⟨n1,c1,r1⟩:=B10 hG;have n2:mdN (iB [27,91,77,32+nuS m w b,33+c,33+r])=nuS m w b:=by
  rw[n1];show(((UInt8.ofNat (32+nuS m w b).toNat).toNat:Nat):Int)-32=_;rw[u8i A1 A1];omega
 have c2:mdC (iB [27,91,77,32+nuS m w b,33+c,33+r])=c:=by
  rw[c1];show(((UInt8.ofNat (33+c).toNat).toNat:Nat):Int)-33=_;rw[u8i A1 A1];omega
 have r2:mdR (iB [27,91,77,32+nuS m w b,33+c,33+r])=r:=by
  rw[r1];show(((UInt8.ofNat (33+r).toNat).toNat:Nat):Int)-33=_;rw[u8i A1 A1];omega
 have v2:mdV (iB [27,91,77,32+nuS m w b,33+c,33+r])=w:=by
  unfold mdV;rw[hG,n2];exact A71 h (fun k=>by cases k) (fun _=>hw)
 refine A9_ (WA (.inr rfl) rfl ?_ n2 v2 r2 c2 hm.1 hm.2);exact A5Q hG n2 v2 r2 c2 (by unfold mdP;rw[A3 (by rw[hG];decide)]) (by rw[hm.1,hm.2];exact h) (by rw[hm.1,hm.2];exact fun k=>k e)
def A58:∀ u:Nat,∀ x ∈ Lib.decDigits u,48≤x.toNat∧x.toNat≤57:=by
 intro u;induction u using Nat.strongRecOn with
 | _ u ih =>
   intro x hx;by_cases hs:u<10
   ·rw[Lib.decDigits_one hs]at hx;rw[H8.1 hx,UInt8.toNat_ofNat'];omega
   ·rw[show Lib.decDigits u=Lib.decDigits (u / 10)++[UInt8.ofNat (48+u%10)] by rw[Lib.decDigits,dif_neg hs]]at hx;rcases B5.1 hx with hx|hx
    ·exact ih (u / 10) A1 x hx
    ·rw[H8.1 hx,UInt8.toNat_ofNat'];omega
def B1D{u:Nat}(h:u<100):(Lib.decDigits u).length≤2:=by
 by_cases hs:u<10
 ·rw[Lib.decDigits_one hs];simp
 ·rw[show Lib.decDigits u=Lib.decDigits (u / 10)++[UInt8.ofNat (48+u%10)] by rw[Lib.decDigits,dif_neg hs],Lib.decDigits_one (show u / 10<10 by omega)];simp
def A2Y{n:Int}(h0:0≤n)(h:n<100):(itz n).length≤2∧∀ x ∈ itz n,48≤x.toNat∧x.toNat≤57:=by
 rw[← zG h0];exact⟨B1D A1,A58 _⟩
def YX{α:Type}(X:List α)(z d:α):(X++[z]).getD X.length d=z:=by
 rw[B4,E3 (B0 _),fH];rfl
def B1F{w b r:Int}(h:O5 2 0 m w b r c []):Dcd (bI (moS true m w b r c)) [(2,0,m,w,b,r,c,[])]:=by
 have hb:=FU h;have hn:=B0M h;have hm:=B0L h;obtain⟨l1,g1⟩:=A2Y hn.1 A1;obtain⟨l2,g2⟩:=A2Y (n:=c+1) A1 A1;obtain⟨l3,g3⟩:=A2Y (n:=r+1) A1 A1;have hp:=B5W ⟨hn.1,A1⟩ (⟨A1,A1⟩:0≤c+1∧c+1≤9999) (⟨A1,A1⟩:0≤r+1∧r+1≤9999);have eD:∃ D,D=itz (nuS m w b)++[59]++itz (c+1)++[59]++itz (r+1):=⟨_,rfl⟩;obtain⟨D,eD⟩:=eD;have eZ:∃ z:Int,laS w=[UInt8.ofNat z.toNat]∧(z=109↔w=1)∧(z=77∨z=109):=by
  unfold laS;by_cases h1:w=1
  ·rw[A4 h1];exact⟨109,rfl,⟨fun _=>h1,fun _=>rfl⟩,.inr rfl⟩
  ·rw[A3 h1];exact⟨77,rfl,⟨fun k=>absurd k C3,fun k=>absurd k h1⟩,.inl rfl⟩
 obtain⟨z,hz1,hz2,hz3⟩:=eZ;rw[← eD]at hp;have hD:∀ x ∈ bI D,32≤x∧x≤63:=by
  intro x hx;unfold bI at hx;obtain⟨y,hy,rfl⟩:=R0.1 hx;have q:48≤y.toNat∧y.toNat≤59:=by
   rw[eD]at hy;simp only[B5,H8]at hy;rcases hy with(((hy|rfl)|hy)|rfl)|hy
   ·have:=g1 y hy;omega
   ·decide
   ·have:=g2 y hy;omega
   ·decide
   ·have:=g3 y hy;omega
  omega
 have hlD:(bI D).length≤8:=by
  rw[lK,eD];simp only[A7,B7];omega
 have eS:moS true m w b r c=27::91::60::(D++laS w):=by
  unfold moS;rw[A3 C3,eD];simp
 have eI:moS true m w b r c=iB (27::91::60::(bI D++[z])):=by
  rw[eS,hz1];show _=27::91::60::iB (bI D++[z]);rw[show iB (bI D++[z])=iB (bI D)++iB [z]from by unfold iB;exact N4,A2j];rfl
 have eB:bI (moS true m w b r c)=[27,91]++([60]++(bI D++[z])):=by
  rw[eS,hz1];show 27::91::60::bI (D++[UInt8.ofNat z.toNat])=_;rw[vW];show 27::91::60::(bI D++[(((UInt8.ofNat z.toNat).toNat:Nat):Int)])=_;rw[u8i A1 A1];rfl
 have hG:mdG (moS true m w b r c)=true:=by rw[eS];rfl
 obtain⟨n1,c1,r1⟩:=B1z hG;have hd:dgT (moS true m w b r c)=D:=by
  rw[eS,hz1];show((D++[UInt8.ofNat z.toNat]).drop 0).take ((((D++[UInt8.ofNat z.toNat]).length:Int)-1).toNat-0)=D;rw[R1,A7,B7];exact lY A1
 rw[hd,hp]at n1 c1 r1;have n2:mdN (moS true m w b r c)=nuS m w b:=n1.trans (B5J hn.1);have v1:S1 (some [some [nuS m w b],some [c+1],some [r+1]]) 1 0=c+1:=by
  unfold S1;rw[A3]
  ·rfl
  ·rintro(k|k|k|k)
   ·exact absurd k C3
   ·have k:(3:Int)≤1:=k;omega
   ·have k:(1:Int)=0:=k;omega
   ·have k:c+1<0:=k;omega
 have v2:S1 (some [some [nuS m w b],some [c+1],some [r+1]]) 2 0=r+1:=by
  unfold S1;rw[A3]
  ·rfl
  ·rintro(k|k|k|k)
   ·exact absurd k C3
   ·have k:(3:Int)≤2:=k;omega
   ·have k:(1:Int)=0:=k;omega
   ·have k:r+1<0:=k;omega
 have c2:mdC (moS true m w b r c)=c:=by rw[c1];show S1 (some [some [nuS m w b],some [c+1],some [r+1]]) 1 0-1=c;rw[v1];omega
 have r2:mdR (moS true m w b r c)=r:=by rw[r1];show S1 (some [some [nuS m w b],some [c+1],some [r+1]]) 2 0-1=r;rw[v2];omega
 have eL:mdL (moS true m w b r c)=z:=by
  rw[eS,hz1];unfold mdL byA;have e1:((27::91::60::(D++[UInt8.ofNat z.toNat]):D1).length:Int)-1=((27::91::60::D:D1).length:Int):=by
   simp only[B3,A7,D2];omega
  rw[e1,M0];rw[show(27::91::60::(D++[UInt8.ofNat z.toNat]):D1)=(27::91::60::D)++[UInt8.ofNat z.toNat]from rfl,YX];exact u8i A1 A1
 have v3:mdV (moS true m w b r c)=w:=by
  unfold mdV;rw[hG,n2,eL];exact A71 h (fun _=>hz2) (fun k=>by cases k)
 have hP:mdP (moS true m w b r c)=true:=by
  unfold mdP;rw[A4 hG,hd,hp,eS];rfl
 have hB:mdB (moS true m w b r c)=true:=A5Q hG n2 v3 r2 c2 hP (by rw[hm.1,hm.2];exact h) (by rw[hm.1,hm.2];exact fun k=>k rfl);have hx:cmX (moS true m w b r c) SL=some (2,0,m,w,b,r,c,[]):=WA (.inl (by rw[eS];rfl)) (by rw[eS];rfl) hB n2 v3 r2 c2 hm.1 hm.2;obtain⟨b1,b2⟩:=zY (u:=[]) (b:=60) (A7I (r:=[]) C3 C3);obtain⟨d1,d2⟩:=A07 (bI D) [] hD (by show(0:Int)+_≤21;omega);rw[eI]at hx;obtain⟨e1,e2⟩:=A0o (u:=60::bI D) (b:=z) (A9x (r:=bI D++[z]) A1) hx;have p1:rnP [27,91] none=some [27,91]∧rnI [27,91] none SL none=none:=⟨rfl,rfl⟩;have p2:rnP [60] (some [27,91])=some [27,91,60]∧rnI [60] (some [27,91]) SL none=none:=⟨b1,b2⟩;have p3:rnP [z] (some (27::91::60::([]++bI D)))=none∧rnI [z] (some (27::91::60::([]++bI D))) SL none=some [(2,0,m,w,b,r,c,[])]:=⟨e1,e2⟩;unfold Dcd;rw[eB,y4,y4,y4,eV,eV,eV,p1.1,p1.2,p2.1,p2.2];rw[d1,d2,p3.1,p3.2];exact⟨rfl,rfl⟩
def B2A(h:t.any isE=false):rmE t=t:=by
 unfold rmE;rw[t8];intro x hx
 have:=X8.1 h x hx;unfold isE at this;have hne:¬x=27:=fun e=>this (F4 e)
 simpa using hne
def B5Z(h:t.any isE=false):∀ n,n≤(bI t).length+5→¬kH ((bI t++peI).take n):=by
 intro n hn he;obtain⟨h1,h2⟩:=he;have hl:((bI t++peI).take n).length=n:=by
  rw[D5,A7];have:peI.length=6:=rfl;omega
 rw[hl]at h1 h2;have hk:n-6<(bI t).length:=A1;have e:((bI t++peI).take n).drop (n-6)=(bI t).getD (n-6) 0::((bI t++peI).take n).drop (n-6+1):=by
  have:=R3 ((bI t++peI).take n) (i:=((n-6:Nat):Int)) A1 (by rw[hl];omega);rw[M0,show(((n-6:Nat):Int)+1).toNat=n-6+1 by omega]at this;rw[this];congr 1
  rw[B4,gY,A4 A1,F2 hk,B4];rfl
 rw[e]at h2;have h2:UInt8.ofNat ((bI t).getD (n-6) 0).toNat::iB (((bI t++peI).take n).drop (n-6+1))=27::iB [91,50,48,49,126]:=h2;have h3:=(O8 h2).1;rw[lK]at hk;have h4:(bI t).getD (n-6) 0=((t[n-6]'hk).toNat:Int):=by
  unfold bI;rw[B4,H6,A8 hk];rfl
 rw[h4,M0]at h3;have h5:t[n-6]'hk=27:=by rw[← h3];simp
 have:=X8.1 h _ (N9 hk);exact this (F4 h5)
def B1G(hl:t.length≤1000)(h:t.any isE=false):Dcd (bI ([27,91,50,48,48,126]++t++[27,91,50,48,49,126])) [(3,0,0,0,0,0,0,t)]:=by
 have e:bI ([27,91,50,48,48,126]++t++[27,91,50,48,49,126])=pbI++(bI t++peI)++[]:=by
  rw[vW,vW,y6];show pbI++bI t++peI=_;rw[F3]
 obtain⟨h1,h2⟩:=YI (a:=bI t) (bh:=[]) (B5Z h);unfold Dcd;rw[e,h1,h2];refine⟨rfl,?_⟩;rw[H1 (by rw[lK];exact hl),A2j,B2A h];rfl
def A3Y{k w b r:Int}(h:O5 k c m w b r cl t)(hz:isS pa fo mo k w b=true)(he:¬(k=1∧c=1114138)):Dcd (bI (enS ck pa fo sg mo k c m w b r cl t)) [(k,c,dZ mo k m,w,eA sg k w b,r,cl,t)]:=by
 have h':=h;unfold O5 at h;rcases h with⟨rfl,rfl,rfl,rfl,rfl,rfl,hk⟩|⟨rfl,rfl,rfl,hm⟩|⟨rfl,rfl,rfl,rfl,rfl,rfl,rfl,hl,ht⟩|⟨rfl,rfl,rfl,rfl,rfl,rfl,rfl,h0,h1⟩
 ·rw[vR hz rfl];have e1:dZ mo 1 m=m:=A3 (fun q=>absurd q.1 C3);have e2:eA sg 1 0 0=0:=A3 (fun q=>absurd q.1 C3);rw[e1,e2];exact B1J hk (fun q=>he ⟨rfl,q⟩)
 ·rw[xZ hz rfl];have hv:O5 2 0 (dZ mo 2 m) w (eA sg 2 w b) r cl []:=.inr (.inl ⟨rfl,rfl,rfl,IM hm⟩);cases sg with
  | true=>exact B1F hv
  | false=>exact B1H hv (fun q=>A4 ⟨rfl,q,rfl⟩)
 ·rw[xY hz rfl];have e1:dZ mo 3 0=0:=A3 (fun q=>absurd q.1 C3);have e2:eA sg 3 0 0=0:=A3 (fun q=>absurd q.1 C3);rw[e1,e2];exact B1G hl ht
 ·rw[← xX (ck:=ck) (pa:=pa) (fo:=fo) (sg:=sg) (mo:=mo) (k:=4) (c:=0) (m:=0) (w:=w) (b:=0) (r:=0) (cl:=0) (t:=[]) hz C3 C3 C3 rfl];have e1:dZ mo 4 0=0:=A3 (fun q=>absurd q.1 C3);have e2:eA sg 4 w 0=0:=A3 (fun q=>absurd q.1 C3);rw[e1,e2];exact B1K h0 h1
def WI{k w b r:Int}(h:O5 k c m w b r cl t)(hz:isS pa fo mo k w b=true)(he:k=1∧c=1114138):enS ck pa fo sg mo k c m w b r cl t=[27]∧(k,c,dZ mo k m,w,eA sg k w b,r,cl,t)=((1,1114138,0,0,0,0,0,[]):Xt):=by
 obtain⟨rfl,rfl⟩:=he;unfold O5 at h;rcases h with⟨_,rfl,rfl,rfl,rfl,rfl,hk⟩|h|h|h
 ·have hm:m=0:=by
   unfold i7 chP okU at hk;omega
  subst hm;rw[vR hz rfl];refine⟨?_,?_⟩
  ·rfl
  ·have e1:dZ mo 1 0=0:=A3 (fun q=>absurd q.1 C3);have e2:eA sg 1 0 0=0:=A3 (fun q=>absurd q.1 C3);rw[e1,e2]
 ·exact absurd h.1 C3
 ·exact absurd h.1 C3
 ·exact absurd h.1 C3
def B1L{α:Type}(x y:Option (List α)):Y5 x y=Y5 x (some (el y)):=rfl
def B1V(h:el p=el q):vdS p=vdS q:=by unfold vdS;rw[h]
def A6g{b:List Int}(hv:vdS p=true)(hp:By (el p))(hb:By b):vdS (rnP b p)=true:=by
 have e:=(A6h hp hv).1;have h:=B1U (l:=el p++b) fun x hx=>(B5.1 hx).elim (hp x) (hb x)
 rw[y4]at h;rw[← h];exact B1V (RH (mp:=SL) b none e.symm).1
def A9U{b:List Int}(hv:vdS p=true)(hp:By (el p))(hb:By b):((el (rnP b p)).length:Int)≤1012∧∀ x ∈ el (rnP b p),0≤x∧x<256:=B3A (FQ b hb (A6f hp hv))
def A3a{b:E0}(h:vdS p=true)(hl:((el b).length:Int)≤4096):dcE p b=0:=by unfold dcE;rw[A3 (by rw[h];decide),A3 A1]
def A3Z{b:E0}(h:vdS p=true)(hl:((el b).length:Int)≤4096):dcP p b=rnP (el b) p:=A4 (A3a h hl)
def B3j{b:E0}(h:vdS p=true)(hl:((el b).length:Int)≤4096):dcI p b=rnI (el b) p SL none:=A4 (A3a h hl)
def B1v{b:E0}{k:Int}(h0:0≤k)(h1:k≤((el b).length:Int)):el (L8 b (0:Int).toNat k.toNat)++el (L8 b k.toNat ((el b).length:Int).toNat)=el b:=by
 rw[K5,K5];have e:((el b).drop k.toNat).take (((el b).length:Int).toNat-k.toNat)=(el b).drop k.toNat:=H1 (by simp only[C9];omega);rw[e];exact W5 k.toNat (el b)
section
variable {s pe:E0} {got:Option (List Xt)} {k:Int}
def B5h(hv:vdS pe=true)(h0:0≤k)(h1:k≤((el s).length:Int))(hl:((el s).length:Int)≤4096):rnP (el (L8 s k.toNat ((el s).length:Int).toNat)) (dcP pe (L8 s (0:Int).toNat k.toNat))=rnP (el s) pe:=by
 rw[A3Z hv (fJ dE hl),← y4,B1v h0 h1]
def B5j(hv:vdS pe=true)(h0:0≤k)(h1:k≤((el s).length:Int))(hl:((el s).length:Int)≤4096):Y5 (Y5 got (dcI pe (L8 s (0:Int).toNat k.toNat))) (some (el (rnI (el (L8 s k.toNat ((el s).length:Int).toNat)) (dcP pe (L8 s (0:Int).toNat k.toNat)) SL none)))=Y5 got (some (el (rnI (el s) pe SL none))):=by
 have hs:=B1v h0 h1;rw[A3Z hv (fJ dE hl),B3j hv (fJ dE hl),B1L got,GU,← MD (mp:=SL) (el (L8 s k.toNat ((el s).length:Int).toNat)) (rnP (el (L8 s (0:Int).toNat k.toNat)) pe) (rnI (el (L8 s (0:Int).toNat k.toNat)) pe SL none),← eV,hs]
def B5g(hv:vdS pe=true)(hp:By (el pe))(hs:By (el s))(hl:((el s).length:Int)≤4096):vdS (dcP pe (L8 s (0:Int).toNat k.toNat))=true∧((el (dcP pe (L8 s (0:Int).toNat k.toNat))).length:Int)≤1012∧∀ x ∈ el (dcP pe (L8 s (0:Int).toNat k.toNat)),0≤x∧x<256:=by
 rw[A3Z hv (fJ dE hl)];exact⟨A6g hv hp (eC hs),A9U hv hp (eC hs)⟩
def RI{mp:Option (List Qt)}:∀ (l:List Int) (p:E0) (x:Option (List Xt)),((el (rnI l p mp x)).length:Int)≤(el x).length+2*l.length
 | [],_,x=>by show((el x).length:Int)≤_;simp
 | b::r,p,x=>by
   have h1:=RI r (stP p b) (stI p b mp x) (mp:=mp);have h2:=TW (p:=p) (b:=b) (mp:=mp) (x:=x);show((el (rnI r (stP p b) mp (stI p b mp x))).length:Int)≤_;simp only[B3];omega
def B5i:((el (dcI pe s)).length:Int)≤2*(el s).length:=by
 unfold dcI;have e:(((el (none:Option (List Xt))).length:Nat):Int)=0:=rfl;split
 ·have:=RI (mp:=some uQ) (el s) pe none;omega
 ·omega
end
abbrev Dt:=Int×Int×Int×Int×Int×Int×Int×Int×D1
def B2t:i7 97 0:=.inl ⟨C3,.inl rfl⟩
def B3k(c m:Int):i7 (dC3 c m) (dM c m):=by
 unfold dC3 dM;by_cases h1:i7 c (m%8)
 ·rw[A4 (.inl h1),A4 h1];exact h1
 ·by_cases h2:i7 c (m%8 / 2%4*2)
  ·rw[A4 (.inr (.inl h2)),A3 h1,A4 h2];exact h2
  ·by_cases h3:i7 c (m / 2%2*2)
   ·rw[A4 (.inr (.inr (.inl h3))),A3 h1,A3 h2,A4 h3];exact h3
   ·rw[A3 h1,A3 h2,A3 h3];by_cases h4:i7 c 0
    ·rw[A4 (.inr (.inr (.inr h4)))];exact h4
    ·rw[A3 (fun q=>q.elim h1 fun q=>q.elim h2 fun q=>q.elim h3 h4)];exact B2t
def B0P(s:D1):(nE s).any isE=false:=by
 rw[X8];intro x hx;unfold nE at hx
 have:=(R7.1 hx).2;intro h;rw[h]at this;cases this
def B3g{q d1 d2 d3 d4 d5 d6 dc:Int}(hq:q=0∨q=1∨q=2∨q=3):O5 (diK q) (diC q d3 d4 dc) (diM q d3 d4 dc) (diW q d1) (diB q d1 d2 d3 d5 d6) (diR q d5) (diL q d6) (diT q t):=by
 rcases hq with rfl|rfl|rfl|rfl
 ·exact .inl ⟨rfl,rfl,rfl,rfl,rfl,rfl,B3k _ _⟩
 ·refine .inr (.inl ⟨rfl,rfl,rfl,?_⟩);show msP (d3%8) (d1%4) (if O5 2 0 (d3%8) (d1%4) (d2%4) (d5%40) (d6%80) []then d2%4 else d2%4%2) (d5%40) (d6%80);split
  ·rename_i h;rcases h with h|h|h|h
   ·exact absurd h.1 C3
   ·exact h.2.2.2
   ·exact absurd h.1 C3
   ·exact absurd h.1 C3
  ·unfold msP;omega
 ·refine .inr (.inr (.inl ⟨rfl,rfl,rfl,rfl,rfl,rfl,rfl,?_,B0P _⟩))
  have:=A1y (t.take 1000);rw[D5]at this;show(nE (t.take 1000)).length≤1000;omega
 ·exact .inr (.inr (.inr ⟨rfl,rfl,rfl,rfl,rfl,rfl,rfl,by show 0≤d1%2;omega,by show d1%2≤1;omega⟩))
def yD(pa fo sg:Bool)(mo:Int)(x:Xt):Option Xt:=if isS pa fo mo x.1 x.2.2.2.1 x.2.2.2.2.1=true then some (x.1,x.2.1,dZ mo x.1 x.2.2.1,x.2.2.2.1,eA sg x.1 x.2.2.2.1 x.2.2.2.2.1,x.2.2.2.2.2.1,x.2.2.2.2.2.2.1,x.2.2.2.2.2.2.2)else none
def dIn(d:Dt):Xt:=(diK (d.1%4),diC (d.1%4) d.2.2.2.1 d.2.2.2.2.1 d.2.2.2.2.2.2.2.1,diM (d.1%4) d.2.2.2.1 d.2.2.2.2.1 d.2.2.2.2.2.2.2.1,diW (d.1%4) d.2.1,diB (d.1%4) d.2.1 d.2.2.1 d.2.2.2.1 d.2.2.2.2.2.1 d.2.2.2.2.2.2.1,diR (d.1%4) d.2.2.2.2.2.1,diL (d.1%4) d.2.2.2.2.2.2.1,diT (d.1%4) d.2.2.2.2.2.2.2.2)
def nxW(y:Option Xt)(x:Option (List Xt)):Option (List Xt):=match y with
 | some y=>some (el x++[y])
 | none=>x
def kbW(pa fo sg:Bool)(mo:Int):List Dt→Option (List Xt)→Option (List Xt)
 | [],x=>x
 | d::r,x=>kbW pa fo sg mo r (nxW (yD pa fo sg mo (dIn d)) x)
def A53{k w b r:Int}{pe:E0}{got:Option (List Xt)}(h:O5 k c m w b r cl t)(hz:isS pa fo mo k w b=true)(hpe:el pe=[])(he:¬(k=1∧c=1114138)) :
  el (rnP (bI (enS ck pa fo sg mo k c m w b r cl t)) pe)=[]∧Y5 got (some (el (rnI (bI (enS ck pa fo sg mo k c m w b r cl t)) pe SL none)))=some (el got++[(k,c,dZ mo k m,w,eA sg k w b,r,cl,t)]):=by
 obtain⟨h1,h2⟩:=A3Y (ck:=ck) (sg:=sg) h hz he;obtain⟨c1,c2⟩:=RH (mp:=SL) (bI (enS ck pa fo sg mo k c m w b r cl t)) (p:=pe) (q:=none) none hpe;rw[c1,c2,h1,h2];exact⟨rfl,rfl⟩
def A3D{k w b r:Int}{pe:E0}{got:Option (List Xt)}(h:O5 k c m w b r cl t)(hz:isS pa fo mo k w b=true)(hpe:el pe=[])(he:k=1∧c=1114138) :
  el (rnP (bI (enS ck pa fo sg mo k c m w b r cl t)) pe)=[27]∧Y5 (Y5 got (some (el (rnI (bI (enS ck pa fo sg mo k c m w b r cl t)) pe SL none)))) (flI (rnP (bI (enS ck pa fo sg mo k c m w b r cl t)) pe))=some (el got++[(k,c,dZ mo k m,w,eA sg k w b,r,cl,t)]):=by
 obtain⟨h1,h2⟩:=WI (ck:=ck) (sg:=sg) h hz he;obtain⟨c1,c2⟩:=RH (mp:=SL) (bI (enS ck pa fo sg mo k c m w b r cl t)) (p:=pe) (q:=none) none hpe;rw[c2,h2];have e1:el (rnP (bI (enS ck pa fo sg mo k c m w b r cl t)) pe)=[27]:=by rw[c1,h1];exact A3X.1
 refine⟨e1,?_⟩;rw[B3h e1,h1,A3X.2,SW];rfl
def B07{k w b r:Int}(h:O5 k c m w b r cl t)(hz:isS pa fo mo k w b=true):enS ck pa fo sg mo k c m w b r cl t≠[]:=fun e=>by
 by_cases he:k=1∧c=1114138
 ·rw[(WI (ck:=ck) (sg:=sg) h hz he).1]at e;cases e
 ·have:=(A3Y (ck:=ck) (sg:=sg) h hz he).2;rw[e]at this;cases this
end
section
open Go Go.Sx
def B1P(m:Int):(CV m).length≤1:=by unfold CV;split<;>decide
def B0W(k:Int)(h:0≤k):(SB k).length≤1:=by
 unfold SB;rw[D5];omega
def B2u(h:i7 c m):(keS ck c m).length≤100:=by
 have l1:=B1P m;have l2:=MN c;unfold i7 chP okU at h;have hm:0≤m∧m≤7:=A1;have i1:=nO (m+1) A1 A1;unfold keS;split
 ·decide
 ·split
  ·simp only[A7,B3,D2];omega
  ·split
   ·simp only[A7,B3,D2];omega
   ·split
    ·simp only[A7,B3,D2];omega
    ·split
     ·simp only[A7,B3,D2];omega
     ·split
      ·split
       ·simp only[A7,O4,B3,D2];omega
       ·simp only[A7];omega
      ·have n1:=A7w (c-1114113-10).toNat;have i2:=nO (nuL.getD (c-1114113-10).toNat 0) n1.1 A1;have i3:=B0W (c-1114113) A1;unfold spS
       (repeat' split)<;>simp only[A7,B3,D2]<;>omega
def B2g{w b r:Int}(h:O5 2 0 m w b r c []):(moS sg m w b r c).length≤100:=by
 have hb:=FU h;have hn:=B0M h;have i1:=nO (nuS m w b) hn.1 A1;have i2:=nO (c+1) A1 A1;have i3:=nO (r+1) A1 A1;have l1:(laS w).length=1:=by unfold laS;split<;>rfl
 unfold moS;split
 ·simp only[A7,O4,B3,D2];omega
 ·simp only[A7,B3,D2];omega
def B3c{k w b r:Int}(h:O5 k c m w b r cl t):(enS ck pa fo sg mo k c m w b r cl t).length≤2000:=by
 unfold O5 at h;unfold enS;rcases h with⟨rfl,rfl,rfl,rfl,rfl,rfl,hk⟩|⟨rfl,rfl,rfl,hm⟩|⟨rfl,rfl,rfl,rfl,rfl,rfl,rfl,hl,ht⟩|⟨rfl,rfl,rfl,rfl,rfl,rfl,rfl,h0,h1⟩
 ·rw[A3 (fun q=>absurd q.1 C3)];split
  ·exact U9 _
  ·rw[A4 rfl];have:=B2u (ck:=ck) hk;omega
 ·rw[A3 (fun q=>absurd q.1 C3)];split
  ·exact U9 _
  ·rw[A3 C3,A4 rfl];have hv:O5 2 0 (dZ mo 2 m) w (eA sg 2 w b) r cl []:=.inr (.inl ⟨rfl,rfl,rfl,IM hm⟩)
   have:=B2g (sg:=sg) hv;omega
 ·split
  ·omega
  ·split
   ·exact U9 _
   ·rw[A3 C3,A3 C3,A4 rfl];simp only[A7,B3,D2];omega
 ·rw[A3 (fun q=>absurd q.1 C3)];split
  ·exact U9 _
  ·rw[A3 C3,A3 C3,A3 C3]
   (repeat' split)<;>simp only[A7,B3,D2]<;>omega
def SQ{k w b r:Int}(hm:moP mo)(h:O5 k c m w b r cl t):M9 mo k c m w b r cl t=0:=by unfold M9;rw[A4 hm,A4 h]
def QK(h:el p=[]):vdS p=true:=(B1V (q:=none) h).trans (by decide +kernel)
def TA(h:el p=[]):∀ x ∈ el p,0≤x∧x<256:=fun x hx=>by rw[h]at hx;cases hx
def B35{k:Int}{s:D1}(h:z=true):mG 0 (nD k z) s=some (bI s):=by rw[I9 (K9 h) rfl]
def B51(e:Int)(z:Bool)(s:D1):((el (mG e z s)).length:Int)≤s.length:=by
 unfold mG
 (repeat' split)
 ·show(0:Int)≤_;omega
 ·rw[E8,lK];omega
 ·show(0:Int)≤_;omega
def B1O(e:Int)(z:Bool)(s:D1):∀ x ∈ el (mG e z s),0≤x∧x<256:=by
 unfold mG
 (repeat' split)
 ·exact fun x hx=>by cases hx
 ·exact fun x hx=>A38 hx
 ·exact fun x hx=>by cases hx
def B21{l:List Dt}(x:Option (List Xt))(h0:0≤i)(h1:i<(l.length:Int))(h2:i<15):kbW pa fo sg mo ((l.take 15).drop i.toNat) x=kbW pa fo sg mo ((l.take 15).drop (i+1).toNat) (nxW (yD pa fo sg mo (dIn (l.getD i.toNat default))) x):=by
 have e:(l.take 15).getD i.toNat default=l.getD i.toNat default:=by
  rw[B4,B4,F9 A1]
 rw[R3 (l.take 15) h0 (by rw[D5];omega),e];rfl
def B22{l:List Dt}{x:Option (List Xt)}(h:¬i<(l.length:Int)∨¬i<15):kbW pa fo sg mo ((l.take 15).drop i.toNat) x=x:=by
 rw[v8 (l.take 15) (by rw[D5];omega)];rfl
def A5b{k w b r:Int}(hm:moP mo)(h:O5 k c m w b r cl t)(hz:cnS (M9 mo k c m w b r cl t) (isS pa fo mo k w b)=true):isS pa fo mo k w b=true∧((ifI (cnS (M9 mo k c m w b r cl t) (isS pa fo mo k w b)) k,ifI (cnS (M9 mo k c m w b r cl t) (isS pa fo mo k w b)) c,ifI (cnS (M9 mo k c m w b r cl t) (isS pa fo mo k w b)) (dZ mo k m),ifI (cnS (M9 mo k c m w b r cl t) (isS pa fo mo k w b)) w,ifI (cnS (M9 mo k c m w b r cl t) (isS pa fo mo k w b)) (eA sg k w b),ifI (cnS (M9 mo k c m w b r cl t) (isS pa fo mo k w b)) r,ifI (cnS (M9 mo k c m w b r cl t) (isS pa fo mo k w b)) cl,ifT (cnS (M9 mo k c m w b r cl t) (isS pa fo mo k w b)) t):Xt)=(k,c,dZ mo k m,w,eA sg k w b,r,cl,t)∧mG (M9 mo k c m w b r cl t) (nD k (isS pa fo mo k w b)) (enS ck pa fo sg mo k c m w b r cl t)=some (bI (enS ck pa fo sg mo k c m w b r cl t)):=by
 have e:=SQ hm h;have hi:isS pa fo mo k w b=true:=by rw[e]at hz;exact hz
 refine⟨hi,?_,?_⟩
 ·rw[hz];rfl
 ·rw[e];exact B35 hi
def B5f{k w b r:Int}(hm:moP mo)(h:O5 k c m w b r cl t)(hz:cnS (M9 mo k c m w b r cl t) (isS pa fo mo k w b)=false):isS pa fo mo k w b=false:=by
 rw[SQ hm h]at hz;exact hz
def B5E{k w b r:Int}(h:isS pa fo mo k w b=true):yD pa fo sg mo (k,c,m,w,b,r,cl,t)=some (k,c,dZ mo k m,w,eA sg k w b,r,cl,t):=A4 h
def B5F{k w b r:Int}(h:isS pa fo mo k w b=false):yD pa fo sg mo (k,c,m,w,b,r,cl,t)=none:=A3 (by show ¬isS pa fo mo k w b=true;rw[h];decide)
def B20{k w b r:Int}(hm:moP mo)(h:O5 k c m w b r cl t)(hz:cnS (M9 mo k c m w b r cl t) (isS pa fo mo k w b)=true):¬((el (mG (M9 mo k c m w b r cl t) (nD k (isS pa fo mo k w b)) (enS ck pa fo sg mo k c m w b r cl t))).length:Int)=0:=by
 obtain⟨h1,_,h3⟩:=A5b (ck:=ck) (sg:=sg) hm h hz;rw[h3,E8,lK]
 have:=B07 (ck:=ck) (sg:=sg) h h1
 have:=R4.2 this;omega
def A2R{k w b r:Int}{pe:E0}{got:Option (List Xt)}(hm:moP mo)(h:O5 k c m w b r cl t)(hz:cnS (M9 mo k c m w b r cl t) (isS pa fo mo k w b)=true)(hpe:el pe=[])(he:¬(k=1∧c=1114138)) :
  el (rnP (el (mG (M9 mo k c m w b r cl t) (nD k (isS pa fo mo k w b)) (enS ck pa fo sg mo k c m w b r cl t))) pe)=[]∧Y5 got (some (el (rnI (el (mG (M9 mo k c m w b r cl t) (nD k (isS pa fo mo k w b)) (enS ck pa fo sg mo k c m w b r cl t))) pe SL none)))=some (el got++[(k,c,dZ mo k m,w,eA sg k w b,r,cl,t)]):=by
 obtain⟨h1,_,h3⟩:=A5b (ck:=ck) (sg:=sg) hm h hz;rw[h3,E8];exact A53 h h1 hpe he
def A5c{k w b r:Int}{pe:E0}{got:Option (List Xt)}(hm:moP mo)(h:O5 k c m w b r cl t)(hz:cnS (M9 mo k c m w b r cl t) (isS pa fo mo k w b)=true)(hpe:el pe=[])(he:k=1∧c=1114138) :
  Y5 (Y5 got (some (el (rnI (el (mG (M9 mo k c m w b r cl t) (nD k (isS pa fo mo k w b)) (enS ck pa fo sg mo k c m w b r cl t))) pe SL none)))) (flI (rnP (el (mG (M9 mo k c m w b r cl t) (nD k (isS pa fo mo k w b)) (enS ck pa fo sg mo k c m w b r cl t))) pe))=some (el got++[(k,c,dZ mo k m,w,eA sg k w b,r,cl,t)]):=by
 obtain⟨h1,_,h3⟩:=A5b (ck:=ck) (sg:=sg) hm h hz;rw[h3,E8];exact(A3D h h1 hpe he).2
def B3R(p:E0):((el (flI p)).length:Int)≤1:=by unfold flI;(repeat' split)<;>first|decide|(show(([_]:List Xt).length:Int)≤1;simp)
def B31{got:Option (List Xt)}{s pe:E0}(h:((el got).length:Int)≤100)(hs:((el s).length:Int)≤2000):(el (Y5 got (some (el (rnI (el s) pe SL none))))).length+(el (flI q)).length≤1000000000:=by
 have h1:=B3R q;have h2:=RI (mp:=SL) (el s) pe none;have e:(((el (none:Option (List Xt))).length:Nat):Int)=0:=rfl;rw[fB,A7,E8];omega
def B2z{b:Bool}(h1:(!b)=false)(h2:b=false):False:=by rw[h2]at h1;exact absurd h1 C3
def B5e{b:Bool}(h1:(!b)=true)(h2:b=true):False:=by rw[h2]at h1;exact absurd h1 C3
def B2Z{y:Option Xt}{x:Option (List Xt)}:(el (nxW y x)).length≤(el x).length+1:=by
 unfold nxW;split
 ·rw[E8,A7];exact B0 _
 ·exact c8 _
def A8S{pa fo sg:Bool}{mo:Int}:∀ (l:List Dt) (x:Option (List Xt)),(el (kbW pa fo sg mo l x)).length≤(el x).length+l.length
 | [],x=>B0 _
 | d::r,x=>C4 (A8S r _) (by have:=B2Z (y:=yD pa fo sg mo (dIn d)) (x:=x);simp only[B3];omega)
def A8T{l:List Dt}:(el (kbW pa fo sg mo ((l.take 15).drop (0:Int).toNat) none)).length≤140737488351232:=by
 have h:=A8S (pa:=pa) (fo:=fo) (sg:=sg) (mo:=mo) ((l.take 15).drop (0:Int).toNat) none;have e:(el (none:Option (List Xt))).length=0:=rfl;rw[C9,D5]at h;omega
def B2f{b:Int}(h:0≤b)(h2:b<65536):moP (([0,0,0,0,9,1000,1002,1003]:List Int).getD (b / 4096%8).toNat 0):=by
 have h3:b / 4096%8<8:=gZ _ C3;have h4:0≤b / 4096%8:=eG _ C3;have:∀ k:Nat,k<8→moP (([0,0,0,0,9,1000,1002,1003]:List Int).getD k 0):=by
  intro k hk;rcases k with _|_|_|_|_|_|_|_|k
  all_goals first|(unfold moP;decide)|omega
 exact this _ A1
def WE{k w b r:Int}(h:O5 k c m w b r cl t)(he:k=1∧c=1114138):m=0∧w=0∧b=0∧r=0∧cl=0∧t=[]:=by
 obtain⟨rfl,rfl⟩:=he;unfold O5 at h;rcases h with⟨_,rfl,rfl,rfl,rfl,rfl,hk⟩|h|h|h
 ·unfold i7 chP okU at hk;exact⟨A1,rfl,rfl,rfl,rfl,rfl⟩
 ·exact absurd h.1 C3
 ·exact absurd h.1 C3
 ·exact absurd h.1 C3
open Go Go.Sx Go.Proofs.Tryz
noncomputable def B4A:Q1:=⟨_,fun hst=>(.cons (A3W hst) (.cons (A2r hst) (.cons (UF hst) (.cons (A2Z hst) (.cons (lW hst) .nil)))))⟩
def KN:List U→Option (Nat×List U)
 | []=>some (0,[.bool (true)])
 | _=>none
def A4Y :KN []=some (0,[.bool (true)]):=rfl
def ZQ{G}(hst:L9 G):M2 prog G 15 [] KN [.s 8]:=by
 refine DU (d:=60) (cxg (B4A.2 hst) .nil) hst ⟨f15,_,func15,rfl⟩ ?_;intro us outs hs;unfold KN at hs;split at hs
 ·cases hs;exact⟨List.replicate 19 1,by kernel_rfl⟩
 ·cases hs
noncomputable def B4U:Q1:=⟨_,fun hst=>.nil⟩
def MC:List U→Option (Nat×List U)
 | [.int .u16 b]=>if 0≤b∧b<65536 then some (0,[.bool (decide (b / 1%2=1)),.bool (decide (b / 2%2=1)),.bool (decide (b / 4%2=1)),.bool (decide (b / 8%2=1)),.bool (decide (b / 16%2=1)),.bool (decide (¬b / 32%2=1)),.bool (decide (¬b / 64%2=1)),.bool (decide (b / 128%2=1)),.bool (decide (b / 256%2=1)),.bool (decide (b / 512%2=1)),.bool (decide (b / 1024%2=1)),.int .i64 (([0,0,0,0,9,1000,1002,1003]:List Int).getD (b / 4096%8).toNat 0),.bool (decide (b / 2048%2=1))])else none
 | _=>none
def A4z(b:Int)(hc:0≤b∧b<65536):MC [.int .u16 b]=some (0,[.bool (decide (b / 1%2=1)),.bool (decide (b / 2%2=1)),.bool (decide (b / 4%2=1)),.bool (decide (b / 8%2=1)),.bool (decide (b / 16%2=1)),.bool (decide (¬b / 32%2=1)),.bool (decide (¬b / 64%2=1)),.bool (decide (b / 128%2=1)),.bool (decide (b / 256%2=1)),.bool (decide (b / 512%2=1)),.bool (decide (b / 1024%2=1)),.int .i64 (([0,0,0,0,9,1000,1002,1003]:List Int).getD (b / 4096%8).toNat 0),.bool (decide (b / 2048%2=1))]):=A4 hc
def A7R:Tr:=.lt 5 (.bin .shr) [h 0 5,.int .u64 (0)]<|.lt 5 (.bin .rem) [h 1 5,.int .u16 (2)]<|aE [h 2 5,.int .u16 (1)]<|.lt 5 (.bin .shr) [h 0 5,.int .u64 (1)]<|.lt 5 (.bin .rem) [h 4 5,.int .u16 (2)]<|aE [h 5 5,.int .u16 (1)]<|.lt 5 (.bin .shr) [h 0 5,.int .u64 (2)]<|.lt 5 (.bin .rem) [h 7 5,.int .u16 (2)]<|aE [h 8 5,.int .u16 (1)]<|.lt 5 (.bin .shr) [h 0 5,.int .u64 (3)]<|.lt 5 (.bin .rem) [h 10 5,.int .u16 (2)]<|aE [h 11 5,.int .u16 (1)]<|.lt 5 (.bin .shr) [h 0 5,.int .u64 (4)]<|.lt 5 (.bin .rem) [h 13 5,.int .u16 (2)]<|aE [h 14 5,.int .u16 (1)]<|.lt 5 (.bin .shr) [h 0 5,.int .u64 (5)]<|.lt 5 (.bin .rem) [h 16 5,.int .u16 (2)]<|aE [h 17 5,.int .u16 (1)]<|aX [h 18 8]<|.lt 5 (.bin .shr) [h 0 5,.int .u64 (6)]<|.lt 5 (.bin .rem) [h 20 5,.int .u16 (2)]<|aE [h 21 5,.int .u16 (1)]<|aX [h 22 8]<|.lt 5 (.bin .shr) [h 0 5,.int .u64 (7)]<|.lt 5 (.bin .rem) [h 24 5,.int .u16 (2)]<|aE [h 25 5,.int .u16 (1)]<|.lt 5 (.bin .shr) [h 0 5,.int .u64 (8)]<|.lt 5 (.bin .rem) [h 27 5,.int .u16 (2)]<|aE [h 28 5,.int .u16 (1)]<|.lt 5 (.bin .shr) [h 0 5,.int .u64 (9)]<|.lt 5 (.bin .rem) [h 30 5,.int .u16 (2)]<|aE [h 31 5,.int .u16 (1)]<|.lt 5 (.bin .shr) [h 0 5,.int .u64 (10)]<|.lt 5 (.bin .rem) [h 33 5,.int .u16 (2)]<|aE [h 34 5,.int .u16 (1)]<|.lt 5 (.bin .shr) [h 0 5,.int .u64 (11)]<|.lt 5 (.bin .rem) [h 36 5,.int .u16 (2)]<|aE [h 37 5,.int .u16 (1)]<|.lt 5 (.bin .shr) [h 0 5,.int .u64 (12)]<|.lt 5 (.bin .rem) [h 39 5,.int .u16 (8)]<|.lt 3 (.sel) [h 40 5,jI 0,jI 0,jI 0,jI 0,jI 9,jI 1000,jI 1002,jI 1003]<|.ret [h 3 8,h 6 8,h 9 8,h 12 8,h 15 8,h 19 8,h 23 8,h 26 8,h 29 8,h 32 8,h 35 8,h3 41,h 38 8]
def A1A{G}(hst:L9 G):M2 prog G 19 [.s 5] MC [.a [8,8,8,8,8,8,8,8,8,8,8,3,8]]:=by
 refine F1 (d:=60) A7R (cxg (B4U.2 hst) .nil) hst ⟨f19,_,func19,rfl⟩ D0 D0 ?_;intro us outs hs;unfold MC at hs;split at hs
 ·skip;rename_i b;split at hs
  ·rename_i hc;cases hs;unfold A7R;refine w0 (.cons 0 _ (.nil)) ?_;repeat (first|refine A9l ?_|refine w1 (.bin .rem) (e:=JK _ _ _ A1) (k':=?_)|refine U1 ?_|refine l4 ?_|refine w1 (.bin .shr) (e:=T7 1 C3 C3) (k':=?_)|refine w1 (.bin .shr) (e:=T7 2 C3 C3) (k':=?_)|refine w1 (.bin .shr) (e:=T7 4 C3 C3) (k':=?_)|refine w1 (.bin .shr) (e:=T7 8 C3 C3) (k':=?_)|refine w1 (.bin .shr) (e:=T7 16 C3 C3) (k':=?_)|refine w1 (.bin .shr) (e:=T7 32 C3 C3) (k':=?_)|refine w1 (.bin .shr) (e:=T7 64 C3 C3) (k':=?_)|refine w1 (.bin .shr) (e:=T7 128 C3 C3) (k':=?_)|refine w1 (.bin .shr) (e:=T7 256 C3 C3) (k':=?_)|refine w1 (.bin .shr) (e:=T7 512 C3 C3) (k':=?_)|refine w1 (.bin .shr) (e:=T7 1024 C3 C3) (k':=?_)|refine w1 (.bin .shr) (e:=T7 2048 C3 C3) (k':=?_)|refine w1 (.bin .shr) (e:=T7 4096 C3 C3) (k':=?_)|refine w1 (.sel) (e:=zE [0,0,0,0,9,1000,1002,1003] A1 (by show _<((8:Nat):Int);omega)) (k':=?_)|(refine w7 [.bool _,.bool _,.bool _,.bool _,.bool _,.bool _,.bool _,.bool _,.bool _,.bool _,.bool _,.int .i64 _,.bool _] ?_;rotate_left))
   all_goals
    first|rfl
  ·cases hs
 ·cases hs
def B5s(c m:Int)(h0:0≤m)(h1:m<256):0≤dM c m∧dM c m≤7:=by
 unfold dM
 (repeat' split)<;>omega
def A9A(q d3 d4 dc:Int)(h0:0≤d3)(h1:d3<256):0≤diM q d3 d4 dc∧diM q d3 d4 dc≤7:=by
 unfold diM
 have:=B5s (dC2 (dC1 d4 dc)) d3 h0 h1
 (repeat' split)<;>omega
def A8_(q:Int)(u:D1):((diT q u).length:Int)≤1000:=by
 unfold diT;split
 ·have:=A1y (u.take 1000);rw[D5]at this;omega
 ·show(0:Int)≤1000;decide
def rD:Rw (Int×Int×Int×Int×Int×Int×Int×Int×D1):=rC (Z8 .u8) (rC (Z8 .u8) (rC (Z8 .u8) (rC (Z8 .u8) (rC (Z8 .u8) (rC (Z8 .u8) (rC (Z8 .u8) (rC (Z8 .u32) (r1 SY))))))))
noncomputable def B4n:Q1:=⟨_,fun hst=>(.cons (ZQ hst) (.cons (A1A hst) (.cons (A84 hst) (.cons (A77 hst) (.cons (A8B hst) (.cons (A3W hst) (.cons (A2r hst) (.cons (UF hst) .nil))))))))⟩
def BE:List U→Option (Nat×List U)
 | [u_l,u_want,u_got,u_pe,.int .i64 n,.int .i64 i,u_s,.bool b0,.bool b1,.bool ck,.bool b3,.bool b4,.bool b5,.bool b6,.bool pa,.bool fo,.bool b9,.bool b10,.int .i64 mo,.bool sg,.int .i64 k,.int .i64 c,.int .i64 m,.int .i64 w,.int .i64 b,.int .i64 r,.int .i64 cl,.str t]=>(J8 rD u_l).bind fun l=>(J8 rI u_want).bind fun want=>(J8 rI u_got).bind fun got=>(J8 rB u_pe).bind fun pe=>(J8 rB u_s).bind fun s=>if vdS pe=true∧(∀ x ∈ el pe,0≤x∧x<256)∧((el pe).length:Int)≤1012∧(∀ x ∈ el s,0≤x∧x<256)∧((el s).length:Int)≤4000∧1≤n∧n≤100∧((el got).length:Int)+2*((el s).length:Int)≤1000000 then some (0,[B6 rD l,B6 rI want,B6 rI (Y5 got (some (el (rnI (el s) pe SL none)))),B6 rB (rnP (el s) pe),.int .i64 n,.int .i64 i,.bool b0,.bool b1,.bool ck,.bool b3,.bool b4,.bool b5,.bool b6,.bool pa,.bool fo,.bool b9,.bool b10,.int .i64 mo,.bool sg,.int .i64 k,.int .i64 c,.int .i64 m,.int .i64 w,.int .i64 b,.int .i64 r,.int .i64 cl,.str t])else none
 | _=>none
def yW(l:(Option (List (Int×Int×Int×Int×Int×Int×Int×Int×D1))))(want:(Option (List (Int×Int×Int×Int×Int×Int×Int×D1))))(got:(Option (List (Int×Int×Int×Int×Int×Int×Int×D1))))(pe:E0)(n:Int)(i:Int)(s:E0)(b0:Bool)(b1:Bool)(ck:Bool)(b3:Bool)(b4:Bool)(b5:Bool)(b6:Bool)(pa:Bool)(fo:Bool)(b9:Bool)(b10:Bool)(mo:Int)(sg:Bool)(k:Int)(c:Int)(m:Int)(w:Int)(b:Int)(r:Int)(cl:Int)(t:D1)(hc:vdS pe=true∧(∀ x ∈ el pe,0≤x∧x<256)∧((el pe).length:Int)≤1012∧(∀ x ∈ el s,0≤x∧x<256)∧((el s).length:Int)≤4000∧1≤n∧n≤100∧((el got).length:Int)+2*((el s).length:Int)≤1000000):BE [B6 rD l,B6 rI want,B6 rI got,B6 rB pe,.int .i64 n,.int .i64 i,B6 rB s,.bool b0,.bool b1,.bool ck,.bool b3,.bool b4,.bool b5,.bool b6,.bool pa,.bool fo,.bool b9,.bool b10,.int .i64 mo,.bool sg,.int .i64 k,.int .i64 c,.int .i64 m,.int .i64 w,.int .i64 b,.int .i64 r,.int .i64 cl,.str t]=some (0,[B6 rD l,B6 rI want,B6 rI (Y5 got (some (el (rnI (el s) pe SL none)))),B6 rB (rnP (el s) pe),.int .i64 n,.int .i64 i,.bool b0,.bool b1,.bool ck,.bool b3,.bool b4,.bool b5,.bool b6,.bool pa,.bool fo,.bool b9,.bool b10,.int .i64 mo,.bool sg,.int .i64 k,.int .i64 c,.int .i64 m,.int .i64 w,.int .i64 b,.int .i64 r,.int .i64 cl,.str t]):=by
 simp only[BE,G9,D8];exact A4 hc
def A8R:Q8:=⟨[(0,dat 13 0 19),(7,.pointer (some ⟨7,0,none⟩)),(8,own 14 1 18),(9,own 16 2 18),(10,dat 18 3 11),(11,h 4 3),(12,h 5 3),(13,.pointer (some ⟨8,0,none⟩)),(14,dat 19 6 11)],[(7,.cells 45 [h 7 8,h 8 8,h 9 8,h 10 8,h 11 8,h 12 8,h 13 8,h 14 8,h 15 8,h 16 8,h 17 8,h 18 3,h 19 8]),(8,.cells 23 [h 20 3,h 21 3,h 22 3,h 23 3,h 24 3,h 25 3,h 26 3,h 27 9]),(14,.sq 1 18 23 15),(16,.sq 2 18 23 17),(13,.frz),(15,.frz),(17,.frz),(18,.frz),(19,.frz)],28,[⟨.exit 2,[(0,dat 20 0 19),(7,.pointer (some ⟨7,0,none⟩)),(8,own 21 1 18),(9,own 23 2 18),(10,dat 25 3 11),(11,h 4 3),(12,h 5 3),(13,.pointer (some ⟨8,0,none⟩))],[(7,.cells 45 [h 6 8,h 7 8,h 8 8,h 9 8,h 10 8,h 11 8,h 12 8,h 13 8,h 14 8,h 15 8,h 16 8,h 17 3,h 18 8]),(8,.cells 23 [h 19 3,h 20 3,h 21 3,h 22 3,h 23 3,h 24 3,h 25 3,h 26 9]),(21,.sq 1 18 23 22),(23,.sq 2 18 23 24),(20,.frz),(22,.frz),(24,.frz),(25,.frz)],27⟩]⟩
noncomputable def A2Q:Code:=(f8.body).getD .skip
noncomputable def A8N:Code:=match I0 [true,true,true,true,true,true,false,true,false,false,true,false,false,true,true,true,true,true,true,false,false] A2Q with|some (.loop x)=>x|_=>.skip
def A8Q:f8.body=some A2Q:=rfl
def A8P:I0 [true,true,true,true,true,true,false,true,false,false,true,false,false,true,true,true,true,true,true,false,false] A2Q=some (.loop A8N):=D0
def A8O:Tr:=cU 6 28 0 (.lt 3 (.min) [h3 4,h3 28]<|.dt 11 (.subs 1) [h 6 11,jI 0,h3 30]<|.fn GJ [h 3 11,h 31 11] 3<|aN [h3 34,jI 0]<|.br 35 (.no) (.dt 18 (.cat 8) [h 2 18,h 33 18]<|.dt 11 (.subs 1) [h 6 11,h3 30,h3 28]<|.ret [jI (-1),h 0 19,h 1 18,h 36 18,h 32 11,h3 4,h3 5,h 37 11,h 7 8,h 8 8,h 9 8,h 10 8,h 11 8,h 12 8,h 13 8,h 14 8,h 15 8,h 16 8,h 17 8,h3 18,h 19 8,h3 20,h3 21,h3 22,h3 23,h3 24,h3 25,h3 26,h 27 9])) (.ret [jI 0,h 0 19,h 1 18,h 2 18,h 3 11,h3 4,h3 5,h 7 8,h 8 8,h 9 8,h 10 8,h 11 8,h 12 8,h 13 8,h 14 8,h 15 8,h 16 8,h 17 8,h3 18,h 19 8,h3 20,h3 21,h3 22,h3 23,h3 24,h3 25,h3 26,h 27 9])
def A2P:List U→Nat
 | [u_l,u_want,u_got,u_pe,.int .i64 n,.int .i64 i,u_s,.bool b0,.bool b1,.bool ck,.bool b3,.bool b4,.bool b5,.bool b6,.bool pa,.bool fo,.bool b9,.bool b10,.int .i64 mo,.bool sg,.int .i64 k,.int .i64 c,.int .i64 m,.int .i64 w,.int .i64 b,.int .i64 r,.int .i64 cl,.str t]=>(match J8 rD u_l with|some l=>(match J8 rI u_want with|some want=>(match J8 rI u_got with|some got=>(match J8 rB u_pe with|some pe=>(match J8 rB u_s with|some s=>((el s).length:Int).toNat|none=>0)|none=>0)|none=>0)|none=>0)|none=>0)
 | _=>0
def A2O(l:(Option (List (Int×Int×Int×Int×Int×Int×Int×Int×D1))))(want:(Option (List (Int×Int×Int×Int×Int×Int×Int×D1))))(got:(Option (List (Int×Int×Int×Int×Int×Int×Int×D1))))(pe:E0)(n:Int)(i:Int)(s:E0)(b0:Bool)(b1:Bool)(ck:Bool)(b3:Bool)(b4:Bool)(b5:Bool)(b6:Bool)(pa:Bool)(fo:Bool)(b9:Bool)(b10:Bool)(mo:Int)(sg:Bool)(k:Int)(c:Int)(m:Int)(w:Int)(b:Int)(r:Int)(cl:Int)(t:D1):A2P [B6 rD l,B6 rI want,B6 rI got,B6 rB pe,.int .i64 n,.int .i64 i,B6 rB s,.bool b0,.bool b1,.bool ck,.bool b3,.bool b4,.bool b5,.bool b6,.bool pa,.bool fo,.bool b9,.bool b10,.int .i64 mo,.bool sg,.int .i64 k,.int .i64 c,.int .i64 m,.int .i64 w,.int .i64 b,.int .i64 r,.int .i64 cl,.str t]=((el s).length:Int).toNat:=by
 simp only[A2P,G9]
def B2y{G}(hst:L9 G):∀ (E:Nat→U) (base:Nat),@X1 ⟨E,G⟩ prog base gl f8.ntmps A8N (P3 prog gl n0 26 A8R BE):=by
 refine l6 (dep:=60) (f:=8) (n0:=n0) (nB:=26) (H0:=H0) A2P A8O (cxg (B4n.2 hst) .nil) hst func8 A8Q A8P D0 D0 D0 ?_;intro us d outs hs;have hs0:=hs;unfold BE at hs;split at hs
 ·skip;rename_i u_l u_want u_got u_pe n i u_s b0 b1 ck b3 b4 b5 b6 pa fo b9 b10 mo sg k c m w b r cl t;have hq_l:=A9.1 hs;clear hs;obtain⟨l,hd_l,hs⟩:=hq_l;replace hd_l:=G1 hd_l;subst hd_l;have hq_want:=A9.1 hs;clear hs;obtain⟨want,hd_want,hs⟩:=hq_want;replace hd_want:=G1 hd_want;subst hd_want;have hq_got:=A9.1 hs;clear hs;obtain⟨got,hd_got,hs⟩:=hq_got;replace hd_got:=G1 hd_got;subst hd_got;have hq_pe:=A9.1 hs;clear hs;obtain⟨pe,hd_pe,hs⟩:=hq_pe;replace hd_pe:=G1 hd_pe;subst hd_pe;have hq_s:=A9.1 hs;clear hs;obtain⟨s,hd_s,hs⟩:=hq_s;replace hd_s:=G1 hd_s;subst hd_s;split at hs
  ·rename_i hc;clear hs hs0;have zm:0≤(min n ((el s).length:Int))∧(min n ((el s).length:Int))≤((el s).length:Int):=⟨A1,A1⟩;have zs:((el (L8 s (min n ((el s).length:Int)).toNat ((el s).length:Int).toNat)).length:Int)=((el s).length:Int)-(min n ((el s).length:Int)):=by rw[K5,D5,C9];omega
   have zt:((el (L8 s (0:Int).toNat (min n ((el s).length:Int)).toNat)).length:Int)=(min n ((el s).length:Int)):=by rw[K5,D5,C9];omega
   have zi:=B5i (pe:=pe) (s:=(L8 s (0:Int).toNat (min n ((el s).length:Int)).toNat));have zv:=B5g (k:=(min n ((el s).length:Int))) hc.1 hc.2.1 hc.2.2.2.1 A1;refine⟨rfl,?_⟩;unfold A8O;refine s0L ?_;show Tr.sav _ _ (.cons 27 _ (.cons 26 _ (.cons 25 _ (.cons 24 _ (.cons 23 _ (.cons 22 _ (.cons 21 _ (.cons 20 _ (.cons 19 _ (.cons 18 _ (.cons 17 _ (.cons 16 _ (.cons 15 _ (.cons 14 _ (.cons 13 _ (.cons 12 _ (.cons 11 _ (.cons 10 _ (.cons 9 _ (.cons 8 _ (.cons 7 _ (.cons 6 _ (.cons 5 _ (.cons 4 _ (.cons 3 _ (.cons 2 _ (.cons 1 _ (.cons 0 _ (.nil)))))))))))))))))))))))))))));refine Wk.s ?_;repeat (first|refine w4 (fun g=>?_) fun g=>?_|refine w2 (.subs 1) (r:=rB) (e:=V6 rfl A1 A1 A1) (k':=?_)|refine W8 ?_|refine mO ?_|refine A9n ?_|(refine w3 GJ (e:=A59 _ _ ⟨A1,hc.2.1,A1,eC hc.2.2.2.1⟩) (k':=?_);show Wk _ _ (.cons _ _ (.cons _ _ (.cons _ _ _))))|refine mL ?_|(refine w8 ?_;first|omega|exact absurd (A3a (p:=pe) (b:=(L8 s (0:Int).toNat (min n ((el s).length:Int)).toNat)) hc.1 A1) ‹_›)|refine w2 (.cat 8) (r:=rI) (e:=tW rfl (by first|omega)) (k':=?_)|(refine w7 [.int .i64 _,B6 rD _,B6 rI _,B6 rI _,B6 rB _,.int .i64 _,.int .i64 _,B6 rB _,.bool _,.bool _,.bool _,.bool _,.bool _,.bool _,.bool _,.bool _,.bool _,.bool _,.bool _,.int .i64 _,.bool _,.int .i64 _,.int .i64 _,.int .i64 _,.int .i64 _,.int .i64 _,.int .i64 _,.int .i64 _,.str _] ?_;rotate_left)|(refine w7 [.int .i64 _,B6 rD _,B6 rI _,B6 rI _,B6 rB _,.int .i64 _,.int .i64 _,.bool _,.bool _,.bool _,.bool _,.bool _,.bool _,.bool _,.bool _,.bool _,.bool _,.bool _,.int .i64 _,.bool _,.int .i64 _,.int .i64 _,.int .i64 _,.int .i64 _,.int .i64 _,.int .i64 _,.int .i64 _,.str _] ?_;rotate_left))
   all_goals first
    | refine P4 ?_ ?_
      ·refine(yW _ _ _ _ _ _ _ _ _ _ _ _ _ _ _ _ _ _ _ _ _ _ _ _ _ _ _ _  ⟨zv.1,zv.2.2,zv.2.1,eC hc.2.2.2.1,A1,hc.2.2.2.2.2.1,hc.2.2.2.2.2.2.1,by rw[fB,A7];omega⟩).trans ?_;rw[yW l want got pe n i s b0 b1 ck b3 b4 b5 b6 pa fo b9 b10 mo sg k c m w b r cl t hc,B5h hc.1 zm.1 zm.2 A1,B5j hc.1 zm.1 zm.2 A1]
      ·rw[A2O,A2O];omega
    | refine L7 (d:=0) ?_
      rw[yW l want got pe n i s b0 b1 ck b3 b4 b5 b6 pa fo b9 b10 mo sg k c m w b r cl t hc,show el s=[]from D3.1 A1];rfl
  ·cases hs
 ·cases hs
noncomputable def A4P:List LpE:=[(8,([true,true,true,true,true,true,false,true,false,false,true,false,false,true,true,true,true,true,true,false,false],P3 prog gl n0 26 A8R BE))]
def QB{G}(hst:L9 G):r7 prog G gl A4P:=(.cons func8 A8Q A8P (B2y hst) .nil)
def Dok(d:Dt):Prop:=(0≤d.1∧d.1<256)∧(0≤d.2.1∧d.2.1<256)∧(0≤d.2.2.1∧d.2.2.1<256)∧(0≤d.2.2.2.1∧d.2.2.2.1<256)∧(0≤d.2.2.2.2.1∧d.2.2.2.2.1<256)∧(0≤d.2.2.2.2.2.1∧d.2.2.2.2.2.1<256)∧(0≤d.2.2.2.2.2.2.1∧d.2.2.2.2.2.2.1<256)∧(0≤d.2.2.2.2.2.2.2.1∧d.2.2.2.2.2.2.2.1<4294967296)∧(d.2.2.2.2.2.2.2.2.length:Int)≤140737488351232
instance(d:Dt):Decidable (Dok d):=by unfold Dok;infer_instance
def B3b(x:Xt):eqX x x=true:=by unfold eqX;simp
def WB{α:Type}{f:α→Bool}:∀ {l:List α} {i:Int},(∀ x ∈ l,f x=false)→Y4 f l i=none
 | [],_,_=>rfl
 | a::l,i,h=>by
   unfold Y4;rw[h a (by simp)];exact WB fun x hx=>h x (C7 _ hx)
def B5S{a b:Option (List Xt)}(h:el a=el b):DO a b=true:=by
 unfold DO;rw[h,F4 rfl,x5];have:∀ (l:List Xt) (i:Int),Y4 neX (l.zip l) i=none:=fun l i=>WB fun x hx=>by
  have:x.1=x.2:=by
   obtain⟨j,hj⟩:=List.getElem?_of_mem hx;rw[List.getElem?_zip_eq_some]at hj;exact B1 (hj.1.symm.trans hj.2)
  unfold neX;rw[this,B3b];rfl
 rw[this];rfl
noncomputable def B4l:Q1:=⟨_,fun hst=>(.cons (ZQ hst) (.cons (A1A hst) (.cons (A84 hst) (.cons (A77 hst) (.cons (A8B hst) (.cons (A3W hst) (.cons (A2r hst) (.cons (UF hst) .nil))))))))⟩
def tH:List U→Option (Nat×List U)
 | [u_l,u_want,u_got,u_pe,.int .i64 n,.int .i64 i,.bool b0,.bool b1,.bool ck,.bool b3,.bool b4,.bool b5,.bool b6,.bool pa,.bool fo,.bool b9,.bool b10,.int .i64 mo,.bool sg]=>(J8 rD u_l).bind fun l=>(J8 rI u_want).bind fun want=>(J8 rI u_got).bind fun got=>(J8 rB u_pe).bind fun pe=>if got=want∧el pe=[]∧0≤i∧i≤15∧i≤((el l).length:Int)∧((el want).length:Int)≤i∧1≤n∧n≤100∧moP mo∧((el l).length:Int)≤140737488351232∧(∀ d ∈ el l,Dok d)then some (0,[B6 rI (kbW pa fo sg mo (((el l).take 15).drop i.toNat) want),B6 rI (kbW pa fo sg mo (((el l).take 15).drop i.toNat) want)])else none
 | _=>none
def yV(l:(Option (List (Int×Int×Int×Int×Int×Int×Int×Int×D1))))(want:(Option (List (Int×Int×Int×Int×Int×Int×Int×D1))))(got:(Option (List (Int×Int×Int×Int×Int×Int×Int×D1))))(pe:E0)(n:Int)(i:Int)(b0:Bool)(b1:Bool)(ck:Bool)(b3:Bool)(b4:Bool)(b5:Bool)(b6:Bool)(pa:Bool)(fo:Bool)(b9:Bool)(b10:Bool)(mo:Int)(sg:Bool)(hc:got=want∧el pe=[]∧0≤i∧i≤15∧i≤((el l).length:Int)∧((el want).length:Int)≤i∧1≤n∧n≤100∧moP mo∧((el l).length:Int)≤140737488351232∧(∀ d ∈ el l,Dok d)):tH [B6 rD l,B6 rI want,B6 rI got,B6 rB pe,.int .i64 n,.int .i64 i,.bool b0,.bool b1,.bool ck,.bool b3,.bool b4,.bool b5,.bool b6,.bool pa,.bool fo,.bool b9,.bool b10,.int .i64 mo,.bool sg]=some (0,[B6 rI (kbW pa fo sg mo (((el l).take 15).drop i.toNat) want),B6 rI (kbW pa fo sg mo (((el l).take 15).drop i.toNat) want)]):=by
 simp only[tH,G9,D8];exact A4 hc
def SE{l:Option (List Dt)}{want got:Option (List Xt)}{pe:E0}{n:Int}{b0 b1 b3 b4 b5 b6 b9 b10:Bool}(hc:got=want∧el pe=[]∧0≤i∧i≤15∧i≤((el l).length:Int)∧((el want).length:Int)≤i∧1≤n∧n≤100∧moP mo∧((el l).length:Int)≤140737488351232∧(∀ d ∈ el l,Dok d))(hi:i<((el l).length:Int))(h5:i<15){W' G':Option (List Xt)}(hW:W'=nxW (yD pa fo sg mo (dIn ((el l).getD i.toNat default))) want)(hG:G'=W')(hp:el pe'=[]) :
  tH [B6 rD l,B6 rI W',B6 rI G',B6 rB pe',.int .i64 n,.int .i64 (i+1),.bool b0,.bool b1,.bool ck,.bool b3,.bool b4,.bool b5,.bool b6,.bool pa,.bool fo,.bool b9,.bool b10,.int .i64 mo,.bool sg]=tH [B6 rD l,B6 rI want,B6 rI got,B6 rB pe,.int .i64 n,.int .i64 i,.bool b0,.bool b1,.bool ck,.bool b3,.bool b4,.bool b5,.bool b6,.bool pa,.bool fo,.bool b9,.bool b10,.int .i64 mo,.bool sg]:=by
 subst hG;have hl:((el G').length:Int)≤i+1:=by
  rw[hW];unfold nxW;split
  ·rw[E8,A7,B7];omega
  ·omega
 rw[yV l G' G' pe' n (i+1) b0 b1 ck b3 b4 b5 b6 pa fo b9 b10 mo sg ⟨rfl,hp,A1,A1,A1,hl,hc.2.2.2.2.2.2⟩,yV l want got pe n i b0 b1 ck b3 b4 b5 b6 pa fo b9 b10 mo sg hc,B21 (l:=el l) (i:=i) want A1 hi h5,← hW]
def A8L:Q8:=⟨[(0,dat 8 0 19),(7,.pointer (some ⟨7,0,none⟩)),(8,own 9 1 18),(9,own 11 2 18),(10,dat 13 3 11),(11,h 4 3),(12,h 5 3)],[(7,.cells 45 [h 6 8,h 7 8,h 8 8,h 9 8,h 10 8,h 11 8,h 12 8,h 13 8,h 14 8,h 15 8,h 16 8,h 17 3,h 18 8]),(9,.sq 1 18 23 10),(11,.sq 2 18 23 12),(8,.frz),(10,.frz),(12,.frz),(13,.frz)],19,[⟨.exit 0,[(8,own 14 0 18),(9,own 16 1 18)],[(14,.sq 0 18 23 15),(16,.sq 1 18 23 17),(15,.frz),(17,.frz)],2⟩]⟩
noncomputable def A2N:Code:=(f8.body).getD .skip
noncomputable def A8H:Code:=match I0 [true,true,true,true,true,true,false,true,false] A2N with|some (.loop x)=>x|_=>.skip
def A8K:f8.body=some A2N:=rfl
def A8J:I0 [true,true,true,true,true,true,false,true,false] A2N=some (.loop A8H):=D0
def HP(a0:Nat)(a1:Nat)(a2:Nat)(a3:Nat):Tr:=.ret [jI (-1),h a0 19,h (a0+1) 18,h a1 18,h a3 11,h3 (a0+4),h3 a2,h (a0+6) 8,h (a0+7) 8,h (a0+8) 8,h (a0+9) 8,h (a0+10) 8,h (a0+11) 8,h (a0+12) 8,h (a0+13) 8,h (a0+14) 8,h (a0+15) 8,h (a0+16) 8,h3 (a0+17),h (a0+18) 8]
def A2K(n:Nat):Tr:=I3 n 50 (aA [h3 5,jI 1]<|HP 0 2 (n+1) 3) (.dt 18 (.snoc 8) [h 1 18,h3 42,h3 43,h3 44,h3 45,h3 46,h3 47,h3 48,h 49 9]<|.fn BE [h 0 19,h (n+1) 18,h 2 18,h 3 11,h3 4,h3 5,h 40 11,h 6 8,h 7 8,h 8 8,h 9 8,h 10 8,h 11 8,h 12 8,h 13 8,h 14 8,h 15 8,h 16 8,h3 17,h 18 8,h3 32,h3 33,h3 34,h3 35,h3 36,h3 37,h3 38,h 39 9] 27<|.lt 8 (.eqs) [h3 (n+21),jI 1,h3 (n+22),jI 1114138,h3 (n+23),jI 0,h3 (n+24),jI 0,h3 (n+25),jI 0,h3 (n+26),jI 0,h3 (n+27),jI 0,h (n+28) 9,.string ⟨⟨[]⟩⟩]<|.br (n+29) (.fn GC [h (n+5) 11] 2<|aN [h3 (n+31),jI 0]<|.br (n+32) (.no) (.dt 18 (.cat 8) [h (n+4) 18,h (n+30) 18]<|aA [h3 (n+7),jI 1]<|.dt 11 (.nilw 1) []<|HP (n+2) (n+33) (n+34) (n+35))) (aD [h (n+5) 11]<|aG [h3 (n+30),jI 0]<|.br (n+31) (.no) (aA [h3 (n+7),jI 1]<|HP (n+2) (n+4) (n+32) (n+5))))
def A8I:Tr:=aD [h 0 19]<|p7 5 19 20 (S6 5 21 15 (.lt 8 (.inbs 9) [h3 5,h 0 19]<|.br 22 (.lt 4 (.get 9 0) [h 0 19,h3 5]<|.lt 4 (.get 9 1) [h 0 19,h3 5]<|.lt 4 (.get 9 2) [h 0 19,h3 5]<|.lt 4 (.get 9 3) [h 0 19,h3 5]<|.lt 4 (.get 9 4) [h 0 19,h3 5]<|.lt 4 (.get 9 5) [h 0 19,h3 5]<|.lt 4 (.get 9 6) [h 0 19,h3 5]<|.lt 6 (.get 9 7) [h 0 19,h3 5]<|.lt 9 (.get 9 8) [h 0 19,h3 5]<|.fn OZ [h 23 4,h 24 4,h 25 4,h 26 4,h 27 4,h 28 4,h 29 4,h 30 6,h 31 9] 8<|.fn NV [h 6 8,h 7 8,h 8 8,h 9 8,h 10 8,h 11 8,h 12 8,h 13 8,h 14 8,h 15 8,h 16 8,h3 17,h 18 8,h3 32,h3 33,h3 34,h3 35,h3 36,h3 37,h3 38,h 39 9] 2<|.fn NZ [h 6 8,h 7 8,h 8 8,h 9 8,h 10 8,h 11 8,h 12 8,h 13 8,h 14 8,h 15 8,h 16 8,h3 17,h 18 8,h3 32,h3 33,h3 34,h3 35,h3 36,h3 37,h3 38,h 39 9] 10<|aN [h3 41,jI 0]<|.br 52 (.no) (aN [h3 51,jI 0]<|.br 53 (.no) (.br 50 (aD [h 40 11]<|aE [h3 54,jI 0]<|.br 55 (.no) (A2K 56)) (A2K 54)))) (.no)) (.ret [jI 0,h 1 18,h 2 18])) (.ret [jI 0,h 1 18,h 2 18])
def A2M:List U→Nat
 | [u_l,u_want,u_got,u_pe,.int .i64 n,.int .i64 i,.bool b0,.bool b1,.bool ck,.bool b3,.bool b4,.bool b5,.bool b6,.bool pa,.bool fo,.bool b9,.bool b10,.int .i64 mo,.bool sg]=>(match J8 rD u_l with|some l=>(match J8 rI u_want with|some want=>(match J8 rI u_got with|some got=>(match J8 rB u_pe with|some pe=>(15-i).toNat|none=>0)|none=>0)|none=>0)|none=>0)
 | _=>0
def A2L(l:(Option (List (Int×Int×Int×Int×Int×Int×Int×Int×D1))))(want:(Option (List (Int×Int×Int×Int×Int×Int×Int×D1))))(got:(Option (List (Int×Int×Int×Int×Int×Int×Int×D1))))(pe:E0)(n:Int)(i:Int)(b0:Bool)(b1:Bool)(ck:Bool)(b3:Bool)(b4:Bool)(b5:Bool)(b6:Bool)(pa:Bool)(fo:Bool)(b9:Bool)(b10:Bool)(mo:Int)(sg:Bool):A2M [B6 rD l,B6 rI want,B6 rI got,B6 rB pe,.int .i64 n,.int .i64 i,.bool b0,.bool b1,.bool ck,.bool b3,.bool b4,.bool b5,.bool b6,.bool pa,.bool fo,.bool b9,.bool b10,.int .i64 mo,.bool sg]=(15-i).toNat:=by
 simp only[A2M,G9]
def B2w{G}(hst:L9 G):∀ (E:Nat→U) (base:Nat),@X1 ⟨E,G⟩ prog base gl f8.ntmps A8H (P3 prog gl n0 18 A8L tH):=by
 refine l6 (dep:=60) (f:=8) (n0:=n0) (nB:=18) (H0:=H0) A2M A8I (cxg (B4l.2 hst) (QB hst)) hst func8 A8K A8J D0 D0 D0 ?_;intro us d outs hs;have hs0:=hs;unfold tH at hs;split at hs
 ·skip;rename_i u_l u_want u_got u_pe n i b0 b1 ck b3 b4 b5 b6 pa fo b9 b10 mo sg;have hq_l:=A9.1 hs;clear hs;obtain⟨l,hd_l,hs⟩:=hq_l;replace hd_l:=G1 hd_l;subst hd_l;have hq_want:=A9.1 hs;clear hs;obtain⟨want,hd_want,hs⟩:=hq_want;replace hd_want:=G1 hd_want;subst hd_want;have hq_got:=A9.1 hs;clear hs;obtain⟨got,hd_got,hs⟩:=hq_got;replace hd_got:=G1 hd_got;subst hd_got;have hq_pe:=A9.1 hs;clear hs;obtain⟨pe,hd_pe,hs⟩:=hq_pe;replace hd_pe:=G1 hd_pe;subst hd_pe;split at hs
  ·rename_i hc;clear hs hs0;have zd:i<((el l).length:Int)→Dok ((el l).getD i.toNat default):=fun h=>hc.2.2.2.2.2.2.2.2.2.2 _ (nT A1 A1)
   have zi:i<((el l).length:Int)→O5 (diK (((el l).getD i.toNat default).1%4)) (diC (((el l).getD i.toNat default).1%4) ((el l).getD i.toNat default).2.2.2.1 ((el l).getD i.toNat default).2.2.2.2.1 ((el l).getD i.toNat default).2.2.2.2.2.2.2.1) (diM (((el l).getD i.toNat default).1%4) ((el l).getD i.toNat default).2.2.2.1 ((el l).getD i.toNat default).2.2.2.2.1 ((el l).getD i.toNat default).2.2.2.2.2.2.2.1) (diW (((el l).getD i.toNat default).1%4) ((el l).getD i.toNat default).2.1) (diB (((el l).getD i.toNat default).1%4) ((el l).getD i.toNat default).2.1 ((el l).getD i.toNat default).2.2.1 ((el l).getD i.toNat default).2.2.2.1 ((el l).getD i.toNat default).2.2.2.2.2.1 ((el l).getD i.toNat default).2.2.2.2.2.2.1) (diR (((el l).getD i.toNat default).1%4) ((el l).getD i.toNat default).2.2.2.2.2.1) (diL (((el l).getD i.toNat default).1%4) ((el l).getD i.toNat default).2.2.2.2.2.2.1) (diT (((el l).getD i.toNat default).1%4) ((el l).getD i.toNat default).2.2.2.2.2.2.2.2):=fun h=>B3g A1
   have ze:i<((el l).length:Int)→M9 mo (diK (((el l).getD i.toNat default).1%4)) (diC (((el l).getD i.toNat default).1%4) ((el l).getD i.toNat default).2.2.2.1 ((el l).getD i.toNat default).2.2.2.2.1 ((el l).getD i.toNat default).2.2.2.2.2.2.2.1) (diM (((el l).getD i.toNat default).1%4) ((el l).getD i.toNat default).2.2.2.1 ((el l).getD i.toNat default).2.2.2.2.1 ((el l).getD i.toNat default).2.2.2.2.2.2.2.1) (diW (((el l).getD i.toNat default).1%4) ((el l).getD i.toNat default).2.1) (diB (((el l).getD i.toNat default).1%4) ((el l).getD i.toNat default).2.1 ((el l).getD i.toNat default).2.2.1 ((el l).getD i.toNat default).2.2.2.1 ((el l).getD i.toNat default).2.2.2.2.2.1 ((el l).getD i.toNat default).2.2.2.2.2.2.1) (diR (((el l).getD i.toNat default).1%4) ((el l).getD i.toNat default).2.2.2.2.2.1) (diL (((el l).getD i.toNat default).1%4) ((el l).getD i.toNat default).2.2.2.2.2.2.1) (diT (((el l).getD i.toNat default).1%4) ((el l).getD i.toNat default).2.2.2.2.2.2.2.2)=0:=fun h=>SQ hc.2.2.2.2.2.2.2.2.1 (zi h)
   have zl:i<((el l).length:Int)→((el (mG (M9 mo (diK (((el l).getD i.toNat default).1%4)) (diC (((el l).getD i.toNat default).1%4) ((el l).getD i.toNat default).2.2.2.1 ((el l).getD i.toNat default).2.2.2.2.1 ((el l).getD i.toNat default).2.2.2.2.2.2.2.1) (diM (((el l).getD i.toNat default).1%4) ((el l).getD i.toNat default).2.2.2.1 ((el l).getD i.toNat default).2.2.2.2.1 ((el l).getD i.toNat default).2.2.2.2.2.2.2.1) (diW (((el l).getD i.toNat default).1%4) ((el l).getD i.toNat default).2.1) (diB (((el l).getD i.toNat default).1%4) ((el l).getD i.toNat default).2.1 ((el l).getD i.toNat default).2.2.1 ((el l).getD i.toNat default).2.2.2.1 ((el l).getD i.toNat default).2.2.2.2.2.1 ((el l).getD i.toNat default).2.2.2.2.2.2.1) (diR (((el l).getD i.toNat default).1%4) ((el l).getD i.toNat default).2.2.2.2.2.1) (diL (((el l).getD i.toNat default).1%4) ((el l).getD i.toNat default).2.2.2.2.2.2.1) (diT (((el l).getD i.toNat default).1%4) ((el l).getD i.toNat default).2.2.2.2.2.2.2.2)) (nD (diK (((el l).getD i.toNat default).1%4)) (isS pa fo mo (diK (((el l).getD i.toNat default).1%4)) (diW (((el l).getD i.toNat default).1%4) ((el l).getD i.toNat default).2.1) (diB (((el l).getD i.toNat default).1%4) ((el l).getD i.toNat default).2.1 ((el l).getD i.toNat default).2.2.1 ((el l).getD i.toNat default).2.2.2.1 ((el l).getD i.toNat default).2.2.2.2.2.1 ((el l).getD i.toNat default).2.2.2.2.2.2.1))) (enS ck pa fo sg mo (diK (((el l).getD i.toNat default).1%4)) (diC (((el l).getD i.toNat default).1%4) ((el l).getD i.toNat default).2.2.2.1 ((el l).getD i.toNat default).2.2.2.2.1 ((el l).getD i.toNat default).2.2.2.2.2.2.2.1) (diM (((el l).getD i.toNat default).1%4) ((el l).getD i.toNat default).2.2.2.1 ((el l).getD i.toNat default).2.2.2.2.1 ((el l).getD i.toNat default).2.2.2.2.2.2.2.1) (diW (((el l).getD i.toNat default).1%4) ((el l).getD i.toNat default).2.1) (diB (((el l).getD i.toNat default).1%4) ((el l).getD i.toNat default).2.1 ((el l).getD i.toNat default).2.2.1 ((el l).getD i.toNat default).2.2.2.1 ((el l).getD i.toNat default).2.2.2.2.2.1 ((el l).getD i.toNat default).2.2.2.2.2.2.1) (diR (((el l).getD i.toNat default).1%4) ((el l).getD i.toNat default).2.2.2.2.2.1) (diL (((el l).getD i.toNat default).1%4) ((el l).getD i.toNat default).2.2.2.2.2.2.1) (diT (((el l).getD i.toNat default).1%4) ((el l).getD i.toNat default).2.2.2.2.2.2.2.2)))).length:Int)≤2000:=fun h=>fJ (B51 _ _ _) (by have:=B3c (ck:=ck) (pa:=pa) (fo:=fo) (sg:=sg) (mo:=mo) (zi h);omega)
   refine⟨rfl,?_⟩;unfold A8I;refine s0L ?_;show Tr.sav _ _ (.cons 18 _ (.cons 17 _ (.cons 16 _ (.cons 15 _ (.cons 14 _ (.cons 13 _ (.cons 12 _ (.cons 11 _ (.cons 10 _ (.cons 9 _ (.cons 8 _ (.cons 7 _ (.cons 6 _ (.cons 5 _ (.cons 4 _ (.cons 3 _ (.cons 2 _ (.cons 1 _ (.cons 0 _ (.nil))))))))))))))))))));refine Wk.s ?_;repeat (first|refine w4 (fun g=>?_) fun g=>?_|refine w4B (fun g=>?_) fun g=>?_|refine y7 ?_|refine V4 ?_|(refine w8 ?_;first|omega|contradiction|exact absurd (ze ‹_›) ‹_›|exact absurd ‹_› (B20 hc.2.2.2.2.2.2.2.2.1 (zi ‹_›) ‹_›)|exact absurd (B5q (A6g (QK hc.2.1) (TA hc.2.1) (B1O _ _ _))) ‹_›|(have he:¬((diK (((el l).getD i.toNat default).1%4))=1∧(diC (((el l).getD i.toNat default).1%4) ((el l).getD i.toNat default).2.2.2.1 ((el l).getD i.toNat default).2.2.2.2.1 ((el l).getD i.toNat default).2.2.2.2.2.2.2.1)=1114138):=(by intro h;have:=WE (zi ‹_›) h;simp_all);have hr:=A2R (got:=got) (ck:=ck) (sg:=sg) hc.2.2.2.2.2.2.2.2.1 (zi ‹_›) ‹_› hc.2.1 he;have hr:=H3 List.length hr.1;simp only[D2]at hr;omega)|exact B2z (b:=cnS (M9 mo (diK (((el l).getD i.toNat default).1%4)) (diC (((el l).getD i.toNat default).1%4) ((el l).getD i.toNat default).2.2.2.1 ((el l).getD i.toNat default).2.2.2.2.1 ((el l).getD i.toNat default).2.2.2.2.2.2.2.1) (diM (((el l).getD i.toNat default).1%4) ((el l).getD i.toNat default).2.2.2.1 ((el l).getD i.toNat default).2.2.2.2.1 ((el l).getD i.toNat default).2.2.2.2.2.2.2.1) (diW (((el l).getD i.toNat default).1%4) ((el l).getD i.toNat default).2.1) (diB (((el l).getD i.toNat default).1%4) ((el l).getD i.toNat default).2.1 ((el l).getD i.toNat default).2.2.1 ((el l).getD i.toNat default).2.2.2.1 ((el l).getD i.toNat default).2.2.2.2.2.1 ((el l).getD i.toNat default).2.2.2.2.2.2.1) (diR (((el l).getD i.toNat default).1%4) ((el l).getD i.toNat default).2.2.2.2.2.1) (diL (((el l).getD i.toNat default).1%4) ((el l).getD i.toNat default).2.2.2.2.2.2.1) (diT (((el l).getD i.toNat default).1%4) ((el l).getD i.toNat default).2.2.2.2.2.2.2.2)) (isS pa fo mo (diK (((el l).getD i.toNat default).1%4)) (diW (((el l).getD i.toNat default).1%4) ((el l).getD i.toNat default).2.1) (diB (((el l).getD i.toNat default).1%4) ((el l).getD i.toNat default).2.1 ((el l).getD i.toNat default).2.2.1 ((el l).getD i.toNat default).2.2.2.1 ((el l).getD i.toNat default).2.2.2.2.2.1 ((el l).getD i.toNat default).2.2.2.2.2.2.1))) ‹_› ‹_›)|(refine w7 [.int .i64 _,B6 rD _,B6 rI _,B6 rI _,B6 rB _,.int .i64 _,.int .i64 _,.bool _,.bool _,.bool _,.bool _,.bool _,.bool _,.bool _,.bool _,.bool _,.bool _,.bool _,.int .i64 _,.bool _] ?_;rotate_left)|refine W8 ?_|refine mL ?_|refine l4 ?_|refine mK ?_|refine cD ?_|refine w2 (.snoc 8) (r:=rI) (e:=U5 (a:=(_,_,_,_,_,_,_,_)) rfl rfl C3 (by first|omega|exact B31 (by rw[hc.1];omega) (by have z:=zl ‹_›;omega))) (k':=?_)|(refine w3 BE (e:=yW _ _ _ _ _ _ _ _ _ _ _ _ _ _ _ _ _ _ _ _ _ _ _ _ _ _ _ _ (by have z:=zl ‹_›;exact⟨QK hc.2.1,TA hc.2.1,by rw[hc.2.1];decide,B1O _ _ _,A1,hc.2.2.2.2.2.2.1,hc.2.2.2.2.2.2.2.1,by rw[hc.1];omega⟩)) (k':=?_);show Wk _ _ (.cons _ _ (.cons _ _ (.cons _ _ (.cons _ _ (.cons _ _ (.cons _ _ (.cons _ _ (.cons _ _ (.cons _ _ (.cons _ _ (.cons _ _ (.cons _ _ (.cons _ _ (.cons _ _ (.cons _ _ (.cons _ _ (.cons _ _ (.cons _ _ (.cons _ _ (.cons _ _ (.cons _ _ (.cons _ _ (.cons _ _ (.cons _ _ (.cons _ _ (.cons _ _ (.cons _ _ _))))))))))))))))))))))))))))|refine w1 (.eqs) (e:=rfl) (k':=?_)|refine w32 GC (e:=A5j _ (by have z:=A9U (b:=el (mG (M9 mo (diK (((el l).getD i.toNat default).1%4)) (diC (((el l).getD i.toNat default).1%4) ((el l).getD i.toNat default).2.2.2.1 ((el l).getD i.toNat default).2.2.2.2.1 ((el l).getD i.toNat default).2.2.2.2.2.2.2.1) (diM (((el l).getD i.toNat default).1%4) ((el l).getD i.toNat default).2.2.2.1 ((el l).getD i.toNat default).2.2.2.2.1 ((el l).getD i.toNat default).2.2.2.2.2.2.2.1) (diW (((el l).getD i.toNat default).1%4) ((el l).getD i.toNat default).2.1) (diB (((el l).getD i.toNat default).1%4) ((el l).getD i.toNat default).2.1 ((el l).getD i.toNat default).2.2.1 ((el l).getD i.toNat default).2.2.2.1 ((el l).getD i.toNat default).2.2.2.2.2.1 ((el l).getD i.toNat default).2.2.2.2.2.2.1) (diR (((el l).getD i.toNat default).1%4) ((el l).getD i.toNat default).2.2.2.2.2.1) (diL (((el l).getD i.toNat default).1%4) ((el l).getD i.toNat default).2.2.2.2.2.2.1) (diT (((el l).getD i.toNat default).1%4) ((el l).getD i.toNat default).2.2.2.2.2.2.2.2)) (nD (diK (((el l).getD i.toNat default).1%4)) (isS pa fo mo (diK (((el l).getD i.toNat default).1%4)) (diW (((el l).getD i.toNat default).1%4) ((el l).getD i.toNat default).2.1) (diB (((el l).getD i.toNat default).1%4) ((el l).getD i.toNat default).2.1 ((el l).getD i.toNat default).2.2.1 ((el l).getD i.toNat default).2.2.2.1 ((el l).getD i.toNat default).2.2.2.2.2.1 ((el l).getD i.toNat default).2.2.2.2.2.2.1))) (enS ck pa fo sg mo (diK (((el l).getD i.toNat default).1%4)) (diC (((el l).getD i.toNat default).1%4) ((el l).getD i.toNat default).2.2.2.1 ((el l).getD i.toNat default).2.2.2.2.1 ((el l).getD i.toNat default).2.2.2.2.2.2.2.1) (diM (((el l).getD i.toNat default).1%4) ((el l).getD i.toNat default).2.2.2.1 ((el l).getD i.toNat default).2.2.2.2.1 ((el l).getD i.toNat default).2.2.2.2.2.2.2.1) (diW (((el l).getD i.toNat default).1%4) ((el l).getD i.toNat default).2.1) (diB (((el l).getD i.toNat default).1%4) ((el l).getD i.toNat default).2.1 ((el l).getD i.toNat default).2.2.1 ((el l).getD i.toNat default).2.2.2.1 ((el l).getD i.toNat default).2.2.2.2.2.1 ((el l).getD i.toNat default).2.2.2.2.2.2.1) (diR (((el l).getD i.toNat default).1%4) ((el l).getD i.toNat default).2.2.2.2.2.1) (diL (((el l).getD i.toNat default).1%4) ((el l).getD i.toNat default).2.2.2.2.2.2.1) (diT (((el l).getD i.toNat default).1%4) ((el l).getD i.toNat default).2.2.2.2.2.2.2.2)))) (QK hc.2.1) (TA hc.2.1) (B1O _ _ _);exact⟨A1,z.2⟩)) (k':=?_)|refine w2 (.cat 8) (r:=rI) (e:=tW rfl (by first|omega|exact B31 (by rw[hc.1];omega) (by have z:=zl ‹_›;omega))) (k':=?_)|refine w2 (.nilw 1) (r:=rB) (e:=J2 rfl) (k':=?_)|refine mO ?_|(refine w7 [.int .i64 _,B6 rI _,B6 rI _] ?_;rotate_left)|refine eH ?_|refine w1 (.get 9 0) (u:=.int .u8 _) (e:=J6 rfl A1 A1 rfl) (k':=?_)|refine w1 (.get 9 1) (u:=.int .u8 _) (e:=J6 rfl A1 A1 rfl) (k':=?_)|refine w1 (.get 9 2) (u:=.int .u8 _) (e:=J6 rfl A1 A1 rfl) (k':=?_)|refine w1 (.get 9 3) (u:=.int .u8 _) (e:=J6 rfl A1 A1 rfl) (k':=?_)|refine w1 (.get 9 4) (u:=.int .u8 _) (e:=J6 rfl A1 A1 rfl) (k':=?_)|refine w1 (.get 9 5) (u:=.int .u8 _) (e:=J6 rfl A1 A1 rfl) (k':=?_)|refine w1 (.get 9 6) (u:=.int .u8 _) (e:=J6 rfl A1 A1 rfl) (k':=?_)|refine w1 (.get 9 7) (u:=.int .u32 _) (e:=J6 rfl A1 A1 rfl) (k':=?_)|refine w1 (.get 9 8) (u:=.str _) (e:=J6 rfl A1 A1 rfl) (k':=?_)|(refine w3 OZ (e:=A57 _ _ _ _ _ _ _ _ _ (by have z:=zd ‹_›;exact⟨z.1.1,z.1.2,z.2.1.1,z.2.1.2,z.2.2.1.1,z.2.2.1.2,z.2.2.2.1.1,z.2.2.2.1.2,z.2.2.2.2.1.1,z.2.2.2.2.1.2,z.2.2.2.2.2.1.1,z.2.2.2.2.2.1.2,z.2.2.2.2.2.2.1.1,z.2.2.2.2.2.2.1.2,z.2.2.2.2.2.2.2.1.1,z.2.2.2.2.2.2.2.1.2,z.2.2.2.2.2.2.2.2⟩)) (k':=?_);show Wk _ _ (.cons _ _ (.cons _ _ (.cons _ _ (.cons _ _ (.cons _ _ (.cons _ _ (.cons _ _ (.cons _ _ _)))))))))|refine w32 NV (e:=A5X _ _ _ _ _ _ _ _ _ _ _ _ _ _ _ _ _ _ _ _ _ (by have z:=zd ‹_›;have zm:=A9A (((el l).getD i.toNat default).1%4) ((el l).getD i.toNat default).2.2.2.1 ((el l).getD i.toNat default).2.2.2.2.1 ((el l).getD i.toNat default).2.2.2.2.2.2.2.1 z.2.2.2.1.1 z.2.2.2.1.2;have zt:=A8_ (((el l).getD i.toNat default).1%4) ((el l).getD i.toNat default).2.2.2.2.2.2.2.2;exact⟨A1,A1,A1⟩)) (k':=?_)|(refine w3 NZ (e:=A5Z _ _ _ _ _ _ _ _ _ _ _ _ _ _ _ _ _ _ _ _ _ (by have z:=zd ‹_›;have zm:=A9A (((el l).getD i.toNat default).1%4) ((el l).getD i.toNat default).2.2.2.1 ((el l).getD i.toNat default).2.2.2.2.1 ((el l).getD i.toNat default).2.2.2.2.2.2.2.1 z.2.2.2.1.1 z.2.2.2.1.2;have zt:=A8_ (((el l).getD i.toNat default).1%4) ((el l).getD i.toNat default).2.2.2.2.2.2.2.2;exact⟨A1,A1,A1⟩)) (k':=?_);show Wk _ _ (.cons _ _ (.cons _ _ (.cons _ _ (.cons _ _ (.cons _ _ (.cons _ _ (.cons _ _ (.cons _ _ (.cons _ _ (.cons _ _ _)))))))))))|refine U1 ?_)
   all_goals first
    | refine P4 ?_ ?_
      ·first
       | exact(B2z (b:=cnS (M9 mo (diK (((el l).getD i.toNat default).1%4)) (diC (((el l).getD i.toNat default).1%4) ((el l).getD i.toNat default).2.2.2.1 ((el l).getD i.toNat default).2.2.2.2.1 ((el l).getD i.toNat default).2.2.2.2.2.2.2.1) (diM (((el l).getD i.toNat default).1%4) ((el l).getD i.toNat default).2.2.2.1 ((el l).getD i.toNat default).2.2.2.2.1 ((el l).getD i.toNat default).2.2.2.2.2.2.2.1) (diW (((el l).getD i.toNat default).1%4) ((el l).getD i.toNat default).2.1) (diB (((el l).getD i.toNat default).1%4) ((el l).getD i.toNat default).2.1 ((el l).getD i.toNat default).2.2.1 ((el l).getD i.toNat default).2.2.2.1 ((el l).getD i.toNat default).2.2.2.2.2.1 ((el l).getD i.toNat default).2.2.2.2.2.2.1) (diR (((el l).getD i.toNat default).1%4) ((el l).getD i.toNat default).2.2.2.2.2.1) (diL (((el l).getD i.toNat default).1%4) ((el l).getD i.toNat default).2.2.2.2.2.2.1) (diT (((el l).getD i.toNat default).1%4) ((el l).getD i.toNat default).2.2.2.2.2.2.2.2)) (isS pa fo mo (diK (((el l).getD i.toNat default).1%4)) (diW (((el l).getD i.toNat default).1%4) ((el l).getD i.toNat default).2.1) (diB (((el l).getD i.toNat default).1%4) ((el l).getD i.toNat default).2.1 ((el l).getD i.toNat default).2.2.1 ((el l).getD i.toNat default).2.2.2.1 ((el l).getD i.toNat default).2.2.2.2.2.1 ((el l).getD i.toNat default).2.2.2.2.2.2.1))) ‹_› ‹_›).elim
       | exact(B5e (b:=cnS (M9 mo (diK (((el l).getD i.toNat default).1%4)) (diC (((el l).getD i.toNat default).1%4) ((el l).getD i.toNat default).2.2.2.1 ((el l).getD i.toNat default).2.2.2.2.1 ((el l).getD i.toNat default).2.2.2.2.2.2.2.1) (diM (((el l).getD i.toNat default).1%4) ((el l).getD i.toNat default).2.2.2.1 ((el l).getD i.toNat default).2.2.2.2.1 ((el l).getD i.toNat default).2.2.2.2.2.2.2.1) (diW (((el l).getD i.toNat default).1%4) ((el l).getD i.toNat default).2.1) (diB (((el l).getD i.toNat default).1%4) ((el l).getD i.toNat default).2.1 ((el l).getD i.toNat default).2.2.1 ((el l).getD i.toNat default).2.2.2.1 ((el l).getD i.toNat default).2.2.2.2.2.1 ((el l).getD i.toNat default).2.2.2.2.2.2.1) (diR (((el l).getD i.toNat default).1%4) ((el l).getD i.toNat default).2.2.2.2.2.1) (diL (((el l).getD i.toNat default).1%4) ((el l).getD i.toNat default).2.2.2.2.2.2.1) (diT (((el l).getD i.toNat default).1%4) ((el l).getD i.toNat default).2.2.2.2.2.2.2.2)) (isS pa fo mo (diK (((el l).getD i.toNat default).1%4)) (diW (((el l).getD i.toNat default).1%4) ((el l).getD i.toNat default).2.1) (diB (((el l).getD i.toNat default).1%4) ((el l).getD i.toNat default).2.1 ((el l).getD i.toNat default).2.2.1 ((el l).getD i.toNat default).2.2.2.1 ((el l).getD i.toNat default).2.2.2.2.2.1 ((el l).getD i.toNat default).2.2.2.2.2.2.1))) ‹_› ‹_›).elim
       | exact SE hc ‹_› ‹_› (by rw[show yD pa fo sg mo (dIn ((el l).getD i.toNat default))=none from B5F (B5f hc.2.2.2.2.2.2.2.2.1 (zi ‹_›) ‹_›)];rfl) hc.1 hc.2.1
       | (have hz:=A5b (ck:=ck) (sg:=sg) hc.2.2.2.2.2.2.2.2.1 (zi ‹_›) ‹_›
          have hy:yD pa fo sg mo (dIn ((el l).getD i.toNat default))=_:=B5E hz.1;have hw:=H3 (fun z=>(some (el want++[z]):Option (List Xt))) hz.2.1;first
          | (have he:(diK (((el l).getD i.toNat default).1%4))=1∧(diC (((el l).getD i.toNat default).1%4) ((el l).getD i.toNat default).2.2.2.1 ((el l).getD i.toNat default).2.2.2.2.1 ((el l).getD i.toNat default).2.2.2.2.2.2.2.1)=1114138:=(by first|exact⟨A1,A1⟩|simp_all)
             exact SE hc ‹_› ‹_› (hw.trans (by rw[hy];rfl)) ((A5c hc.2.2.2.2.2.2.2.2.1 (zi ‹_›) ‹_› hc.2.1 he).trans ((H3 (fun z:Option (List Xt)=>some (el z++[_])) hc.1).trans hw.symm)) rfl)
          | (have he:¬((diK (((el l).getD i.toNat default).1%4))=1∧(diC (((el l).getD i.toNat default).1%4) ((el l).getD i.toNat default).2.2.2.1 ((el l).getD i.toNat default).2.2.2.2.1 ((el l).getD i.toNat default).2.2.2.2.2.2.2.1)=1114138):=(by intro h;have:=WE (zi ‹_›) h;simp_all)
             have hr:=A2R (got:=got) (ck:=ck) (sg:=sg) hc.2.2.2.2.2.2.2.2.1 (zi ‹_›) ‹_› hc.2.1 he;exact SE hc ‹_› ‹_› (hw.trans (by rw[hy];rfl)) (hr.2.trans ((H3 (fun z:Option (List Xt)=>some (el z++[_])) hc.1).trans hw.symm)) hr.1))
      ·rw[A2L,A2L];omega
    | refine L7 (d:=0) ?_
      rw[yV l want got pe n i b0 b1 ck b3 b4 b5 b6 pa fo b9 b10 mo sg hc,B22 (l:=el l) (i:=i) A1,hc.1]
  ·cases hs
 ·cases hs
noncomputable def A4O:List LpE:=[(8,([true,true,true,true,true,true,false,true,false],P3 prog gl n0 18 A8L tH))]
def QA{G}(hst:L9 G):r7 prog G gl A4O:=(.cons func8 A8K A8J (B2w hst) .nil)
noncomputable def B4m:Q1:=⟨_,fun hst=>(.cons (ZQ hst) (.cons (A1A hst) (.cons (UF hst) .nil)))⟩
def VN:List U→Option (Nat×List U)
 | [u_l,.int .u16 bb,.int .u8 cu]=>(J8 rD u_l).bind fun l=>if 0≤bb∧bb<65536∧0≤cu∧cu<256∧((el l).length:Int)≤140737488351232∧(∀ d ∈ el l,Dok d)then some (0,[.bool (true)])else none
 | _=>none
def A5a(l:(Option (List (Int×Int×Int×Int×Int×Int×Int×Int×D1))))(bb:Int)(cu:Int)(hc:0≤bb∧bb<65536∧0≤cu∧cu<256∧((el l).length:Int)≤140737488351232∧(∀ d ∈ el l,Dok d)):VN [B6 rD l,.int .u16 bb,.int .u8 cu]=some (0,[.bool (true)]):=by
 simp only[VN,G9,D8];exact A4 hc
def A8M:Tr:=.fn KN [] 1<|I3 4 3 J5 (.fn MC [h 1 5] 13<|.lt 4 (.bin .rem) [h 2 4,.int .u8 (30)]<|.lt 3 (.conv .i64) [h 18 4]<|aA [jI 1,h3 19]<|.dt 18 (.nilw 8) []<|.dt 18 (.nilw 8) []<|.dt 11 (.nilw 1) []<|.fn tH [h 0 19,h 21 18,h 22 18,h 23 11,h3 20,jI 0,h 5 8,h 6 8,h 7 8,h 8 8,h 9 8,h 10 8,h 11 8,h 12 8,h 13 8,h 14 8,h 15 8,h3 16,h 17 8] 2<|.fn EP [h 25 18,h 24 18] 1<|.ret [h 26 8])
def B2x{G}(hst:L9 G):M2 prog G 8 [.s 19,.s 5,.s 4] VN [.s 8]:=by
 refine F1 (d:=60) A8M (cxg (B4m.2 hst) (QA hst)) hst ⟨f8,_,func8,rfl⟩ D0 D0 ?_;intro us outs hs;unfold VN at hs;split at hs
 ·skip;rename_i u_l bb cu;have hq_l:=A9.1 hs;clear hs;obtain⟨l,hd_l,hs⟩:=hq_l;replace hd_l:=G1 hd_l;subst hd_l;split at hs
  ·rename_i hc;cases hs;unfold A8M;refine w0 (.cons 2 _ (.cons 1 _ (.cons 0 _ (.nil)))) ?_;repeat (first|refine l4 ?_|refine mK ?_|refine w4 (fun g=>?_) fun g=>?_|refine w4B (fun g=>?_) fun g=>?_|(refine w7 [.bool _] ?_;rotate_left)|refine A9l ?_|refine w1 (.bin .rem) (e:=JK _ _ _ A1) (k':=?_)|refine fV ?_|refine cE ?_|refine y7 ?_|refine V4 ?_|refine w2 (.nilw 8) (r:=rI) (e:=J2 rfl) (k':=?_)|refine w31 KN (e:=A4Y) (k':=?_)|(refine w3 MC (e:=A4z _ A1) (k':=?_);show Wk _ _ (.cons _ _ (.cons _ _ (.cons _ _ (.cons _ _ (.cons _ _ (.cons _ _ (.cons _ _ (.cons _ _ (.cons _ _ (.cons _ _ (.cons _ _ (.cons _ _ (.cons _ _ _))))))))))))))|refine w2 (.nilw 1) (r:=rB) (e:=J2 rfl) (k':=?_)|refine w32 tH (e:=yV _ _ _ _ _ _ _ _ _ _ _ _ _ _ _ _ _ _ _ ⟨rfl,rfl,C3,C3,A1,C3,A1,A1,B2f hc.1 hc.2.1,hc.2.2.2.2⟩) (k':=?_)|refine w31 EP (e:=A4v _ _ ⟨A8T,A8T⟩) (k':=?_))
   all_goals
    first|rfl|exact l1 (B5S rfl)|exact absurd (by assumption:(!true)=true) C3
  ·cases hs
 ·cases hs
end
end Go.Proofs.YtdimocjaepnifaaGreatDoor
